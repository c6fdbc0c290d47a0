/- PLAIN: -/
import Derived.Test.YtfdlhlghcbeblaaGreatDoorY24
import Derived.Lib.AppendZerosOnto
set_option maxRecDepth 100000
set_option maxHeartbeats 16000000
namespace Go.Proofs.YtfdlhlghcbeblaaGreatDoor
open Go.RowKit Go.Ab
def Ki(LD:List Q7)(ol:List Nat)(QS:List (Wd × Wd)):List Bool:=QS.map fun q=>xB (Jm LD ol (some q.1)) q.2
theorem Wj(LD:List Q7)(ol:List Nat)(qs:Qa):Xk LD ol qs=Ki LD ol (qs.map (·.1)):=by
 unfold Xk Ki;rw [List.map_map];rfl
def Q5s(LD:List Q7)(QS:List (Wd × Wd)) (n:Nat):List (List Nat):=(Zn n (List.range n)).filter fun x=>(Ki LD x QS).all id
theorem H6(LD:List Q7)(qs:Qa)(n:Nat):Zg LD qs n=Q5s LD (qs.map (·.1)) n:=by
 unfold Zg Q5s;apply List.filter_congr;intro a _;unfold Kv;rw [Wj]
theorem Nj(LD:List Q7)(qs:Qa)(l:List Nat)(i:Nat):Uw LD qs l i=exB (Ki LD l (qs.map (·.1))) (Ki LD (Jb l i) (qs.map (·.1))):=by
 unfold Uw;rw [Wj,Wj]
abbrev Q2r:Pat:=.node 1 4 0 false 0 0 []
abbrev Mh:Pat:=.node 0 0 0 false 0 0 []
abbrev Q7t:Pat:=.node 6 0 0 false 0 0 []
abbrev vD:Q7:=⟨⟨#[86]⟩,Q2r,Q2r,[(2,0)],[⟨0,0,(1,0),0,0⟩],1⟩
abbrev fD:Q7:=⟨⟨#[70]⟩,Mh,Q7t,[(4,0)],[],1⟩
abbrev uD:Q7:=⟨⟨#[85]⟩,Mh,Q7t,[(2,0)],[⟨0,0,(0,1),0,0⟩],1⟩
abbrev Qe:Wd:=[(5,2),(2,5),(5,2)]
abbrev apO:Wd:=[(5,2),(2,5)]
abbrev abO:Wd:=[(5,2),(3,4)]
theorem Ch{qs:Qa}(h:qs.map (·.1)=[(Qe,apO),(Qe,abO)]):Uy [vD,fD,uD] [0,1,2] qs=1/\Uv [vD,fD,uD] [0,1,2] qs=true/\Qx [vD,fD,uD] [0,1,2] (qs.map (·.1))=0:=by
 unfold Uy Uv H5;rw [Wj,h];decide +kernel
theorem Wn{qs:Qa}(h:qs.map (·.1)=[(Qe,abO)]):Qh [vD,fD,uD] (qs.map (·.1))=0:=by
 rw [h];decide +kernel
theorem Nq{qs:Qa}(h:qs.map (·.1)=[(Qe,abO)]):Zg [vD,fD,uD] qs 3=[[0,2,1],[2,0,1]]:=by
 rw [H6,h];decide +kernel
theorem Q06{qs:Qa}(h:qs.map (·.1)=[(Qe,abO)]):Xx [vD,fD,uD] qs=[0,2,1]/\Vl [vD,fD,uD] qs=true:=by
 have a:=Wn h;have b:=Nq h;unfold Xx Vl;rw [if_pos a,if_pos a];show (Zg [vD,fD,uD] qs 3).headD []=_/\(!(Zg [vD,fD,uD] qs 3).isEmpty)=_;rw [b];exact⟨rfl,rfl⟩
theorem Q7f{qs:Qa}(h:qs.map (·.1)=[(Qe,abO)]):Jw [vD,fD,uD] qs 9=[[0,2,1],[2,0,1]]:=by
 have a:=Wn h;have b:=Nq h;unfold Jw;rw [if_pos a];show (Zg [vD,fD,uD] qs 3).take _=_;rw [b];rfl
theorem Q6u{qs:Qa}(h:qs.map (·.1)=[(Qe,abO)]):X4 [vD,fD,uD] qs=[(0,1),(2,1)]/\Yg [vD,fD,uD] qs=0:=by
 have c:=Wn h;have a:=Nq h;have b:Yg [vD,fD,uD] qs=0:=by
  unfold Yg;rw [if_pos c];show (if (Zg [vD,fD,uD] qs 3).isEmpty=true then(5:Int) else 0)=0;rw [a];rfl
 refine⟨?_,b⟩;unfold X4;rw [if_pos b];show Ju 3 (Hx (Zs (Zg [vD,fD,uD] qs 3)))=_;rw [a];decide +kernel
theorem Q6t{qs:Qa}(h:qs.map (·.1)=[(Qe,abO)]):J3 [vD,fD] [0,1] qs=[0]/\Qx [vD,fD] [0,1] (qs.map (·.1))=0:=by
 have a:Qx [vD,fD] [0,1] (qs.map (·.1))=0:=by rw [h];decide +kernel
 refine⟨?_,a⟩;unfold J3;rw [if_pos a];have b:Uw [vD,fD] qs (Ym [0,1])=fun i=>exB (Ki [vD,fD] [0,1] [(Qe,abO)]) (Ki [vD,fD] (Jb [0,1] i) [(Qe,abO)]):=funext fun i=>by rw [Nj,h];rfl
 rw [b];decide +kernel
attribute [local go_sem] Oper.semAt_some Zf Qp
theorem Q4z:(Tryz.prog.info? 98).map (·.size)=some 7:=by kernel_rfl
theorem Lp:(Tryz.prog.info? 95).map (·.size)=some 2:=by kernel_rfl
theorem Yb:(Tryz.prog.info? 105).map (·.size)=some 2:=by kernel_rfl
theorem M5{a:Func}{p:Tmp}(h:a.results=#[.cell p 95]){tmps:Array Value}{w:World}{g:Nat}{cs:Array Value}(d:tmps.getD p undef=.pointer (some ⟨g,0,none⟩)) (b:w.heap[g]?=some (.cells cs 95 (0,0))) (c:(Tryz.prog.info? 95).map (·.size)=some cs.size) :
  (results a tmps).run Tryz.prog w=.ok (.agg cs) w:=by
 have e:tmps[p]?.getD undef=.pointer (some ⟨g,0,none⟩):=by simpa using d
 simp [results,h,e,asAddr,run_loadVar_row w g _ _ _ _ _ b Tryz.underlying95 rfl c]
theorem Ln{a:Func}{p:Tmp}(h:a.results=#[.cell p 102]){tmps:Array Value}{w:World}{g:Nat}{cs:Array Value}(d:tmps.getD p undef=.pointer (some ⟨g,0,none⟩)) (b:w.heap[g]?=some (.cells cs 102 (0,0))) (c:(Tryz.prog.info? 102).map (·.size)=some cs.size) :
  (results a tmps).run Tryz.prog w=.ok (.agg cs) w:=by
 have e:tmps[p]?.getD undef=.pointer (some ⟨g,0,none⟩):=by simpa using d
 simp [results,h,e,asAddr,run_loadVar_row w g _ _ _ _ _ b Tryz.underlying102 rfl c]
theorem Q1i{a:Func}{p:Tmp}(h:a.results=#[.cell p 105]){tmps:Array Value}{w:World}{g:Nat}{cs:Array Value}(d:tmps.getD p undef=.pointer (some ⟨g,0,none⟩)) (b:w.heap[g]?=some (.cells cs 105 (0,0))) (c:(Tryz.prog.info? 105).map (·.size)=some cs.size) :
  (results a tmps).run Tryz.prog w=.ok (.agg cs) w:=by
 have e:tmps[p]?.getD undef=.pointer (some ⟨g,0,none⟩):=by simpa using d
 simp [results,h,e,asAddr,run_loadVar_row w g _ _ _ _ _ b Tryz.underlying105 rfl c]
theorem Gb(w:World):Calls Tryz.prog 57 #[] w fun e w'=>e=.returned (.agg #[.int .u32 2,.int .u32 5])/\Ext w w':=by
 go_enter Tryz.func57,Tryz.ntmps57;go_wp2;exact bodyPost_ret (M5 rfl rfl (Q3 rfl) Lp) rfl ⟨rfl,(Q1.refl _ w).alloc _⟩
theorem Q2m(w:World):Calls Tryz.prog 56 #[] w fun e w'=>e=.returned (.agg #[.int .u32 3,.int .u32 4])/\Ext w w':=by
 go_enter Tryz.func56,Tryz.ntmps56;go_wp2;exact bodyPost_ret (M5 rfl rfl (Q3 rfl) Lp) rfl ⟨rfl,(Q1.refl _ w).alloc _⟩
theorem Xs(w:World):Calls Tryz.prog 55 #[] w fun e w'=>e=.returned (.agg #[.int .u32 5,.int .u32 2])/\Ext w w':=by
 go_enter Tryz.func55,Tryz.ntmps55;go_wp2;exact bodyPost_ret (M5 rfl rfl (Q3 rfl) Lp) rfl ⟨rfl,(Q1.refl _ w).alloc _⟩
theorem Mk(w:World):Calls Tryz.prog 53 #[] w fun e w'=>∃ g1:Nat,e=.returned (.agg #[.string ⟨#[70]⟩,.int .i64 0,.int .u32 0,.int .u32 0,.bool false,.int .i64 0,.int .i64 0,.slice none 0 0,.int .i64 6,.int .u32 0,.int .u32 0,.bool false,.int .i64 0,.int .i64 0,.slice none 0 0,.slice (some ⟨g1,0,none⟩) 1 1,.slice none 0 0,.int .i64 1])/\Z2 w' fD [.string ⟨#[70]⟩,.int .i64 0,.int .u32 0,.int .u32 0,.bool false,.int .i64 0,.int .i64 0,.slice none 0 0,.int .i64 6,.int .u32 0,.int .u32 0,.bool false,.int .i64 0,.int .i64 0,.slice none 0 0,.slice (some ⟨g1,0,none⟩) 1 1,.slice none 0 0,.int .i64 1]/\Ext w w':=by
 go_enter Tryz.func53,Tryz.ntmps53;obtain⟨a,c⟩:=zE ((w.alloc (.cells #[.string ⟨#[]⟩,.int .i64 0,.int .u32 0,.int .u32 0,.bool false,.int .i64 0,.int .i64 0,.slice none 0 0,.int .i64 0,.int .u32 0,.int .u32 0,.bool false,.int .i64 0,.int .i64 0,.slice none 0 0,.slice none 0 0,.slice none 0 0,.int .i64 0] 102)).alloc (.cells #[.int .u32 4,.int .u32 0] 95));have l:Ext w a:=by rw [<-c];exact((Q1.refl _ w).alloc _).alloc _
 have g:a.heap[w.heap.size]?=some (.cells #[.string ⟨#[]⟩,.int .i64 0,.int .u32 0,.int .u32 0,.bool false,.int .i64 0,.int .i64 0,.slice none 0 0,.int .i64 0,.int .u32 0,.int .u32 0,.bool false,.int .i64 0,.int .i64 0,.slice none 0 0,.slice none 0 0,.slice none 0 0,.int .i64 0] 102 (0,0)):=by rw [<-c];exact Q6 (Q3 rfl)
 have i:a.heap[w.heap.size+1]?=some (.cells #[.int .u32 4,.int .u32 0] 95 (0,0)):=by rw [<-c];exact Q3 zy
 obtain⟨p,d,o⟩:=Zh3 l g i;clear l g i;have f:=Q1.setRow a w.heap.size #[.string ⟨#[70]⟩,.int .i64 0,.int .u32 0,.int .u32 0,.bool false,.int .i64 0,.int .i64 0,.slice none 0 0,.int .i64 6,.int .u32 0,.int .u32 0,.bool false,.int .i64 0,.int .i64 0,.slice none 0 0,.slice (some ⟨w.heap.size+1,0,none⟩) 1 1,.slice none 0 0,.int .i64 1];have m:=setRow_heap _ _ _ #[.string ⟨#[70]⟩,.int .i64 0,.int .u32 0,.int .u32 0,.bool false,.int .i64 0,.int .i64 0,.slice none 0 0,.int .i64 6,.int .u32 0,.int .u32 0,.bool false,.int .i64 0,.int .i64 0,.slice none 0 0,.slice (some ⟨w.heap.size+1,0,none⟩) 1 1,.slice none 0 0,.int .i64 1] _ _ d.out;have j:=f.heap o.out oz;have k:Ext w (a.setRow w.heap.size #[.string ⟨#[70]⟩,.int .i64 0,.int .u32 0,.int .u32 0,.bool false,.int .i64 0,.int .i64 0,.slice none 0 0,.int .i64 6,.int .u32 0,.int .u32 0,.bool false,.int .i64 0,.int .i64 0,.slice none 0 0,.slice (some ⟨w.heap.size+1,0,none⟩) 1 1,.slice none 0 0,.int .i64 1]):=p.out.after f (fun b hb e=>by omega);obtain⟨r,n⟩:=zE (a.setRow w.heap.size #[.string ⟨#[70]⟩,.int .i64 0,.int .u32 0,.int .u32 0,.bool false,.int .i64 0,.int .i64 0,.slice none 0 0,.int .i64 6,.int .u32 0,.int .u32 0,.bool false,.int .i64 0,.int .i64 0,.slice none 0 0,.slice (some ⟨w.heap.size+1,0,none⟩) 1 1,.slice none 0 0,.int .i64 1]);rw [n] at m k j;clear f;have q:Hid ((((w.alloc (.cells #[.string ⟨#[]⟩,.int .i64 0,.int .u32 0,.int .u32 0,.bool false,.int .i64 0,.int .i64 0,.slice none 0 0,.int .i64 0,.int .u32 0,.int .u32 0,.bool false,.int .i64 0,.int .i64 0,.slice none 0 0,.slice none 0 0,.slice none 0 0,.int .i64 0] 102)).alloc (.cells #[.int .u32 4,.int .u32 0] 95))).heap[w.heap.size]?=some (.cells #[.string ⟨#[]⟩,.int .i64 0,.int .u32 0,.int .u32 0,.bool false,.int .i64 0,.int .i64 0,.slice none 0 0,.int .i64 0,.int .u32 0,.int .u32 0,.bool false,.int .i64 0,.int .i64 0,.slice none 0 0,.slice none 0 0,.slice none 0 0,.int .i64 0] 102 (0,0))):=Zh (by rw [c];exact d.out)
 go_wp2_with (first | (refine wpList_store_row rfl 102 (.tmp 0) (.tmp 4) rfl w.heap.size #[.string ⟨#[70]⟩,.int .i64 0,.int .u32 0,.int .u32 0,.bool false,.int .i64 0,.int .i64 0,.slice none 0 0,.int .i64 6,.int .u32 0,.int .u32 0,.bool false,.int .i64 0,.int .i64 0,.slice none 0 0,.slice (some ⟨w.heap.size+1,0,none⟩) 1 1,.slice none 0 0,.int .i64 1] zr zr _ _ d.out kz rfl kz ?_;try rw [n]))
 try simp only [Act.put]
 go_wp2;exact bodyPost_ret (Ln rfl rfl m kz) rfl ⟨w.heap.size+1,rfl,⟨[.int .i64 0,.int .u32 0,.int .u32 0,.bool false,.int .i64 0,.int .i64 0,.slice none 0 0],[.int .i64 6,.int .u32 0,.int .u32 0,.bool false,.int .i64 0,.int .i64 0,.slice none 0 0],_,_,rfl,by decide,J0 _ _ 0 false 0 0 zd zd,J0 _ _ 6 false 0 0 zd zd,⟨Qn (xs:=Qw [(4,0)]) j rfl zd,by simp [Zt]⟩,⟨⟨rfl,by simp [maxLen],none,0,rfl,fun h=>by simp at h⟩,by simp [Uf]⟩⟩,k⟩
theorem Q7w(w:World):Calls Tryz.prog 93 #[] w fun e w'=>∃ g1 g2:Nat,e=.returned (.agg #[.string ⟨#[85]⟩,.int .i64 0,.int .u32 0,.int .u32 0,.bool false,.int .i64 0,.int .i64 0,.slice none 0 0,.int .i64 6,.int .u32 0,.int .u32 0,.bool false,.int .i64 0,.int .i64 0,.slice none 0 0,.slice (some ⟨g1,0,none⟩) 1 1,.slice (some ⟨g2,0,none⟩) 1 1,.int .i64 1])/\Z2 w' uD [.string ⟨#[85]⟩,.int .i64 0,.int .u32 0,.int .u32 0,.bool false,.int .i64 0,.int .i64 0,.slice none 0 0,.int .i64 6,.int .u32 0,.int .u32 0,.bool false,.int .i64 0,.int .i64 0,.slice none 0 0,.slice (some ⟨g1,0,none⟩) 1 1,.slice (some ⟨g2,0,none⟩) 1 1,.int .i64 1]/\Ext w w':=by
 go_enter Tryz.func93,Tryz.ntmps93;obtain⟨a,c⟩:=zE (((w.alloc (.cells #[.string ⟨#[]⟩,.int .i64 0,.int .u32 0,.int .u32 0,.bool false,.int .i64 0,.int .i64 0,.slice none 0 0,.int .i64 0,.int .u32 0,.int .u32 0,.bool false,.int .i64 0,.int .i64 0,.slice none 0 0,.slice none 0 0,.slice none 0 0,.int .i64 0] 102)).alloc (.cells #[.int .u32 2,.int .u32 0] 95)).alloc (.cells #[.int .i64 0,.int .u32 0,.int .u32 0,.int .u32 1,.int .u32 0,.int .i64 0] 109));have n:Ext w a:=by rw [<-c];exact(((Q1.refl _ w).alloc _).alloc _).alloc _
 have g:a.heap[w.heap.size]?=some (.cells #[.string ⟨#[]⟩,.int .i64 0,.int .u32 0,.int .u32 0,.bool false,.int .i64 0,.int .i64 0,.slice none 0 0,.int .i64 0,.int .u32 0,.int .u32 0,.bool false,.int .i64 0,.int .i64 0,.slice none 0 0,.slice none 0 0,.slice none 0 0,.int .i64 0] 102 (0,0)):=by rw [<-c];exact Q6 (Q6 (Q3 rfl))
 have i:a.heap[w.heap.size+1]?=some (.cells #[.int .u32 2,.int .u32 0] 95 (0,0)):=by rw [<-c];exact Q6 (Q3 zy)
 have j:a.heap[w.heap.size+2]?=some (.cells #[.int .i64 0,.int .u32 0,.int .u32 0,.int .u32 1,.int .u32 0,.int .i64 0] 109 (0,0)):=by rw [<-c];exact Q3 zy
 obtain⟨s,f,q,r⟩:=Zh4 n g i j;clear n g i j;have d:=Q1.setRow a w.heap.size #[.string ⟨#[85]⟩,.int .i64 0,.int .u32 0,.int .u32 0,.bool false,.int .i64 0,.int .i64 0,.slice none 0 0,.int .i64 6,.int .u32 0,.int .u32 0,.bool false,.int .i64 0,.int .i64 0,.slice none 0 0,.slice (some ⟨w.heap.size+1,0,none⟩) 1 1,.slice (some ⟨w.heap.size+2,0,none⟩) 1 1,.int .i64 1];have o:=setRow_heap _ _ _ #[.string ⟨#[85]⟩,.int .i64 0,.int .u32 0,.int .u32 0,.bool false,.int .i64 0,.int .i64 0,.slice none 0 0,.int .i64 6,.int .u32 0,.int .u32 0,.bool false,.int .i64 0,.int .i64 0,.slice none 0 0,.slice (some ⟨w.heap.size+1,0,none⟩) 1 1,.slice (some ⟨w.heap.size+2,0,none⟩) 1 1,.int .i64 1] _ _ f.out;have k:=d.heap q.out oz;have l:=d.heap r.out oz;have m:Ext w (a.setRow w.heap.size #[.string ⟨#[85]⟩,.int .i64 0,.int .u32 0,.int .u32 0,.bool false,.int .i64 0,.int .i64 0,.slice none 0 0,.int .i64 6,.int .u32 0,.int .u32 0,.bool false,.int .i64 0,.int .i64 0,.slice none 0 0,.slice (some ⟨w.heap.size+1,0,none⟩) 1 1,.slice (some ⟨w.heap.size+2,0,none⟩) 1 1,.int .i64 1]):=s.out.after d (fun b hb e=>by omega);obtain⟨u,p⟩:=zE (a.setRow w.heap.size #[.string ⟨#[85]⟩,.int .i64 0,.int .u32 0,.int .u32 0,.bool false,.int .i64 0,.int .i64 0,.slice none 0 0,.int .i64 6,.int .u32 0,.int .u32 0,.bool false,.int .i64 0,.int .i64 0,.slice none 0 0,.slice (some ⟨w.heap.size+1,0,none⟩) 1 1,.slice (some ⟨w.heap.size+2,0,none⟩) 1 1,.int .i64 1]);rw [p] at o m k l;clear d;have t:Hid (((((w.alloc (.cells #[.string ⟨#[]⟩,.int .i64 0,.int .u32 0,.int .u32 0,.bool false,.int .i64 0,.int .i64 0,.slice none 0 0,.int .i64 0,.int .u32 0,.int .u32 0,.bool false,.int .i64 0,.int .i64 0,.slice none 0 0,.slice none 0 0,.slice none 0 0,.int .i64 0] 102)).alloc (.cells #[.int .u32 2,.int .u32 0] 95)).alloc (.cells #[.int .i64 0,.int .u32 0,.int .u32 0,.int .u32 1,.int .u32 0,.int .i64 0] 109))).heap[w.heap.size]?=some (.cells #[.string ⟨#[]⟩,.int .i64 0,.int .u32 0,.int .u32 0,.bool false,.int .i64 0,.int .i64 0,.slice none 0 0,.int .i64 0,.int .u32 0,.int .u32 0,.bool false,.int .i64 0,.int .i64 0,.slice none 0 0,.slice none 0 0,.slice none 0 0,.int .i64 0] 102 (0,0))):=Zh (by rw [c];exact f.out)
 go_wp2_with (first | (refine wpList_store_row rfl 102 (.tmp 0) (.tmp 7) rfl w.heap.size #[.string ⟨#[85]⟩,.int .i64 0,.int .u32 0,.int .u32 0,.bool false,.int .i64 0,.int .i64 0,.slice none 0 0,.int .i64 6,.int .u32 0,.int .u32 0,.bool false,.int .i64 0,.int .i64 0,.slice none 0 0,.slice (some ⟨w.heap.size+1,0,none⟩) 1 1,.slice (some ⟨w.heap.size+2,0,none⟩) 1 1,.int .i64 1] zr zr _ _ f.out kz rfl kz ?_;try rw [p]))
 try simp only [Act.put]
 go_wp2;exact bodyPost_ret (Ln rfl rfl o kz) rfl ⟨w.heap.size+1,w.heap.size+2,rfl,⟨[.int .i64 0,.int .u32 0,.int .u32 0,.bool false,.int .i64 0,.int .i64 0,.slice none 0 0],[.int .i64 6,.int .u32 0,.int .u32 0,.bool false,.int .i64 0,.int .i64 0,.slice none 0 0],_,_,rfl,by decide,J0 _ _ 0 false 0 0 zd zd,J0 _ _ 6 false 0 0 zd zd,⟨Qn (xs:=Qw [(2,0)]) k rfl zd,by simp [Zt]⟩,⟨Qn (xs:=Fi [⟨0,0,(0,1),0,0⟩]) l rfl zd,by simp [Uf,Y3]⟩⟩,m⟩
theorem Sq(w:World):Calls Tryz.prog 52 #[] w fun e w'=>∃ g1 g2:Nat,e=.returned (.agg #[.string ⟨#[86]⟩,.int .i64 1,.int .u32 4,.int .u32 0,.bool false,.int .i64 0,.int .i64 0,.slice none 0 0,.int .i64 1,.int .u32 4,.int .u32 0,.bool false,.int .i64 0,.int .i64 0,.slice none 0 0,.slice (some ⟨g1,0,none⟩) 1 1,.slice (some ⟨g2,0,none⟩) 1 1,.int .i64 1])/\Z2 w' vD [.string ⟨#[86]⟩,.int .i64 1,.int .u32 4,.int .u32 0,.bool false,.int .i64 0,.int .i64 0,.slice none 0 0,.int .i64 1,.int .u32 4,.int .u32 0,.bool false,.int .i64 0,.int .i64 0,.slice none 0 0,.slice (some ⟨g1,0,none⟩) 1 1,.slice (some ⟨g2,0,none⟩) 1 1,.int .i64 1]/\Ext w w':=by
 go_enter Tryz.func52,Tryz.ntmps52;obtain⟨a,c⟩:=zE ((((w.alloc (.cells #[.string ⟨#[]⟩,.int .i64 0,.int .u32 0,.int .u32 0,.bool false,.int .i64 0,.int .i64 0,.slice none 0 0,.int .i64 0,.int .u32 0,.int .u32 0,.bool false,.int .i64 0,.int .i64 0,.slice none 0 0,.slice none 0 0,.slice none 0 0,.int .i64 0] 102)).alloc (.cells #[.int .i64 1,.int .u32 4,.int .u32 0,.bool false,.int .i64 0,.int .i64 0,.slice none 0 0] 98)).alloc (.cells #[.int .u32 2,.int .u32 0] 95)).alloc (.cells #[.int .i64 0,.int .u32 0,.int .u32 1,.int .u32 0,.int .u32 0,.int .i64 0] 109));have o:Ext w a:=by rw [<-c];exact((((Q1.refl _ w).alloc _).alloc _).alloc _).alloc _
 have g:a.heap[w.heap.size]?=some (.cells #[.string ⟨#[]⟩,.int .i64 0,.int .u32 0,.int .u32 0,.bool false,.int .i64 0,.int .i64 0,.slice none 0 0,.int .i64 0,.int .u32 0,.int .u32 0,.bool false,.int .i64 0,.int .i64 0,.slice none 0 0,.slice none 0 0,.slice none 0 0,.int .i64 0] 102 (0,0)):=by rw [<-c];exact Q6 (Q6 (Q6 (Q3 rfl)))
 have i:a.heap[w.heap.size+1]?=some (.cells #[.int .i64 1,.int .u32 4,.int .u32 0,.bool false,.int .i64 0,.int .i64 0,.slice none 0 0] 98 (0,0)):=by rw [<-c];exact Q6 (Q6 (Q3 zy))
 have j:a.heap[w.heap.size+2]?=some (.cells #[.int .u32 2,.int .u32 0] 95 (0,0)):=by rw [<-c];exact Q6 (Q3 zy)
 have k:a.heap[w.heap.size+3]?=some (.cells #[.int .i64 0,.int .u32 0,.int .u32 1,.int .u32 0,.int .u32 0,.int .i64 0] 109 (0,0)):=by rw [<-c];exact Q3 zy
 obtain⟨t,f,u,r,s⟩:=Zh5 o g i j k;clear o g i j k;have d:=Q1.setRow a w.heap.size #[.string ⟨#[86]⟩,.int .i64 1,.int .u32 4,.int .u32 0,.bool false,.int .i64 0,.int .i64 0,.slice none 0 0,.int .i64 1,.int .u32 4,.int .u32 0,.bool false,.int .i64 0,.int .i64 0,.slice none 0 0,.slice (some ⟨w.heap.size+2,0,none⟩) 1 1,.slice (some ⟨w.heap.size+3,0,none⟩) 1 1,.int .i64 1];have p:=setRow_heap _ _ _ #[.string ⟨#[86]⟩,.int .i64 1,.int .u32 4,.int .u32 0,.bool false,.int .i64 0,.int .i64 0,.slice none 0 0,.int .i64 1,.int .u32 4,.int .u32 0,.bool false,.int .i64 0,.int .i64 0,.slice none 0 0,.slice (some ⟨w.heap.size+2,0,none⟩) 1 1,.slice (some ⟨w.heap.size+3,0,none⟩) 1 1,.int .i64 1] _ _ f.out;have l:=d.heap r.out oz;have m:=d.heap s.out oz;have n:Ext w (a.setRow w.heap.size #[.string ⟨#[86]⟩,.int .i64 1,.int .u32 4,.int .u32 0,.bool false,.int .i64 0,.int .i64 0,.slice none 0 0,.int .i64 1,.int .u32 4,.int .u32 0,.bool false,.int .i64 0,.int .i64 0,.slice none 0 0,.slice (some ⟨w.heap.size+2,0,none⟩) 1 1,.slice (some ⟨w.heap.size+3,0,none⟩) 1 1,.int .i64 1]):=t.out.after d (fun b hb e=>by omega);obtain⟨x,q⟩:=zE (a.setRow w.heap.size #[.string ⟨#[86]⟩,.int .i64 1,.int .u32 4,.int .u32 0,.bool false,.int .i64 0,.int .i64 0,.slice none 0 0,.int .i64 1,.int .u32 4,.int .u32 0,.bool false,.int .i64 0,.int .i64 0,.slice none 0 0,.slice (some ⟨w.heap.size+2,0,none⟩) 1 1,.slice (some ⟨w.heap.size+3,0,none⟩) 1 1,.int .i64 1]);rw [q] at p n l m;clear d;have v:Hid ((((((w.alloc (.cells #[.string ⟨#[]⟩,.int .i64 0,.int .u32 0,.int .u32 0,.bool false,.int .i64 0,.int .i64 0,.slice none 0 0,.int .i64 0,.int .u32 0,.int .u32 0,.bool false,.int .i64 0,.int .i64 0,.slice none 0 0,.slice none 0 0,.slice none 0 0,.int .i64 0] 102)).alloc (.cells #[.int .i64 1,.int .u32 4,.int .u32 0,.bool false,.int .i64 0,.int .i64 0,.slice none 0 0] 98)).alloc (.cells #[.int .u32 2,.int .u32 0] 95)).alloc (.cells #[.int .i64 0,.int .u32 0,.int .u32 1,.int .u32 0,.int .u32 0,.int .i64 0] 109))).heap[w.heap.size]?=some (.cells #[.string ⟨#[]⟩,.int .i64 0,.int .u32 0,.int .u32 0,.bool false,.int .i64 0,.int .i64 0,.slice none 0 0,.int .i64 0,.int .u32 0,.int .u32 0,.bool false,.int .i64 0,.int .i64 0,.slice none 0 0,.slice none 0 0,.slice none 0 0,.int .i64 0] 102 (0,0))):=Zh (by rw [c];exact f.out)
 go_wp2_with (first | (refine wpList_load_row rfl 98 (.tmp 1) rfl (w.heap.size+1) zr _ _ _ (by first | exact Q3 zy | exact Q3 rfl) Tryz.underlying98 rfl Q4z ?_) | (refine wpList_store_row rfl 102 (.tmp 0) (.tmp 11) rfl w.heap.size #[.string ⟨#[86]⟩,.int .i64 1,.int .u32 4,.int .u32 0,.bool false,.int .i64 0,.int .i64 0,.slice none 0 0,.int .i64 1,.int .u32 4,.int .u32 0,.bool false,.int .i64 0,.int .i64 0,.slice none 0 0,.slice (some ⟨w.heap.size+2,0,none⟩) 1 1,.slice (some ⟨w.heap.size+3,0,none⟩) 1 1,.int .i64 1] zr zr _ _ f.out kz rfl kz ?_;try rw [q]))
 try simp only [Act.put]
 go_wp2;exact bodyPost_ret (Ln rfl rfl p kz) rfl ⟨w.heap.size+2,w.heap.size+3,rfl,⟨[.int .i64 1,.int .u32 4,.int .u32 0,.bool false,.int .i64 0,.int .i64 0,.slice none 0 0],[.int .i64 1,.int .u32 4,.int .u32 0,.bool false,.int .i64 0,.int .i64 0,.slice none 0 0],_,_,rfl,by decide,J0 _ _ 1 false 0 0 zd zd,J0 _ _ 1 false 0 0 zd zd,⟨Qn (xs:=Qw [(2,0)]) l rfl zd,by simp [Zt]⟩,⟨Qn (xs:=Fi [⟨0,0,(1,0),0,0⟩]) m rfl zd,by simp [Uf,Y3]⟩⟩,n⟩
theorem V8(w:World)(ao:Option Addr)(n c:Nat):Calls Tryz.prog 54 #[.slice ao n c] w fun e w'=>∃ g:Nat,e=.returned (.agg #[.slice (some ⟨g,0,none⟩) 3 3,.slice ao n c])/\Q8 w' (.slice (some ⟨g,0,none⟩) 3 3) Qe/\Ext w w':=by
 go_enter Tryz.func54,Tryz.ntmps54;go_upto_region 1 with (fail)
 obtain⟨H,i⟩:=zE (w.alloc (.cells #[.slice none 0 0,.slice none 0 0] 105));have B:Ext w H:=by rw [<-i];exact(Q1.refl _ w).alloc _
 have o:H.heap[w.heap.size]?=some (.cells #[.slice none 0 0,.slice none 0 0] 105 (0,0)):=by rw [<-i];exact Q3 rfl
 rw [i];obtain⟨d,m⟩:=zE w.heap.size;rw [m] at o ⊢;obtain⟨t,u,J⟩:=Zh3 o B m;clear i B o m;go_wp2_with fail;refine(Xs _).mono ?_;rintro e N ⟨rfl,p⟩;go_wp2_with fail;refine(Gb _).mono ?_;rintro e O ⟨rfl,q⟩;go_wp2_with fail;refine(Xs _).mono ?_;rintro e a ⟨rfl,r⟩;have y:=Ext.keep (p.trans (q.trans r)) t.out;have v:=Zh (u.out.trans (p.trans (q.trans r)));have l:=Zh y;clear y p q r t u;obtain⟨f,j⟩:=zE (a.alloc (.cells #[.int .u32 5,.int .u32 2,.int .u32 2,.int .u32 5,.int .u32 5,.int .u32 2] 95));have z:f.heap[d]?=some (.cells #[.slice none 0 0,.slice none 0 0] 105 (0,0)):=by rw [<-j];exact Q6 l.out
 have A:f.heap[a.heap.size]?=some (.cells #[.int .u32 5,.int .u32 2,.int .u32 2,.int .u32 5,.int .u32 5,.int .u32 2] 95 (0,0)):=by rw [<-j];exact Q3 rfl
 have C:Ext w f:=by rw [<-j];exact v.out.trans ((Q1.refl _ a).alloc _)
 obtain⟨k,I,K⟩:=Zh3 z A C;have M:d<a.heap.size:=(Array.getElem?_eq_some_iff.1 l.out).1;clear z A C l v;have s:=Q1.setRow f d #[.slice (some ⟨a.heap.size,0,none⟩) 3 3,.slice ao n c];have F:=setRow_heap _ _ _ #[.slice (some ⟨a.heap.size,0,none⟩) 3 3,.slice ao n c] _ _ k.out;have x:=s.heap I.out oz;have E:=K.out.after s (fun b hb e=>by have:=J.out;omega);obtain⟨P,G⟩:=zE (f.setRow d #[.slice (some ⟨a.heap.size,0,none⟩) 3 3,.slice ao n c]);rw [G] at F x E;clear s;have L:Hid ((a.alloc (.cells #[.int .u32 5,.int .u32 2,.int .u32 2,.int .u32 5,.int .u32 5,.int .u32 2] 95)).heap[d]?=some (.cells #[.slice none 0 0,.slice none 0 0] 105 (0,0))):=Zh (by rw [j];exact k.out)
 go_wp2_with (refine wpList_store_row rfl 105 (.tmp 2) (.tmp 8) rfl d #[.slice (some ⟨a.heap.size,0,none⟩) 3 3,.slice ao n c] (by rfl) (by rfl) _ _ k.out kz rfl kz ?_;try rw [G])
 try simp only [Act.put]
 go_wp2;exact bodyPost_ret (Q1i rfl rfl F Yb) rfl ⟨a.heap.size,rfl,⟨Qn (xs:=Qw Qe) x rfl zd,by simp [Zt]⟩,E⟩
def Q35(n:Nat)(L:List (List Nat)):List (List Nat):=L.flatMap fun o=>(Ux n o).map fun x=>o++[x]
def Q82(n:Nat):Nat->List (List Nat)
 | 0=>[[]]
 | k+1=>Q35 n (Q82 n k)
section
variable {LD:List Q7} {qs:Qa}
end
def Q6c(o:List Nat)(x y:Nat):Bool:=!(o.take (o.idxOf x)).contains y
def Q9j(L:List (List Nat)) (x y:Nat):Bool:=decide (x≠y) && L.all fun o=>Q6c o x y
def Q9x(LD:List Q7)(QS:List (Wd × Wd)):Prop:=LD.length<=4/\QS.length<=5/\Qh LD QS=0
def Qa1(x:List Nat):List Int:=x.map fun(i:Nat)=>(i:Int)
def byI(ps:Qy)(x:List Nat)(qs:Qa):Int:=if Wh ps x qs=qs.length then -1 else(Wh ps x qs:Nat)
abbrev Ye:Q7:=⟨⟨#[]⟩,Mh,Mh,[],[],0⟩
abbrev Je:Q7:=⟨⟨#[88]⟩,.node 2 0 0 false 0 0 [],Mh,[],[⟨-1,0,(5,2),0,0⟩],1⟩
abbrev zW(n:Nat):Wd:=List.replicate n (0,0)
abbrev Uz:Wd × Wd:=([(1,1)],zW 33)
theorem Su{xs:List Int}{a:List (Wd × Wd)}:Qx (List.replicate 7 Ye) xs a=12:=by
 have b:Qh (List.replicate 7 Ye) a=12:=by unfold Qh;rfl
 unfold Qx;rw [b];rfl
theorem Q1e{a:List (Wd × Wd)}:Qh (List.replicate 6 Ye) a=17:=by
 have b:(List.replicate 6 Ye).all X8=false:=by decide +kernel
 unfold Qh;rw [b];rfl
theorem Q80:[vD,fD].all X8=true:=by decide +kernel
theorem Q61{a:List (Wd × Wd)} (h:a.length=33):Qh [vD,fD] a=12:=by
 unfold Qh;rw [Q80,if_neg zd,if_pos rfl,if_pos oz]
theorem Bu:Qh [vD,fD] [(Qe,abO),Uz]=14:=by decide +kernel
theorem Q68:Qh [vD,fD] [([],zW 33),Uz]=11:=by decide +kernel
theorem Cg:Qh [vD,fD] [Uz]=14:=by decide +kernel
theorem Q96:Qh [vD,fD] [(Qe,abO)]=0:=by decide +kernel
theorem Q85:Qh [vD,fD] []=0:=by decide +kernel
theorem Q3x{LD:List Q7}{xs:List Int}{a:List (Wd × Wd)} (h:Qh LD a≠0):Qx LD xs a=Qh LD a:=by unfold Qx;rw [if_neg h]
theorem Tc{LD:List Q7}{xs:List Int}{a:List (Wd × Wd)} (h:Qh LD a=0) (b:Js xs LD.length=false):Qx LD xs a=2:=by unfold Qx;rw [if_pos h,b];rfl
def Xq:List (List Int):=[[],[0],[0,0],[0,2],[-1,0],[0,1,2],[1,1]]
theorem Mn:∀ x∈Xq,Js x 2=false:=by decide +kernel
theorem M4{x:List Int}(hx:x∈Xq):Qx [vD,fD] x []=2/\Qx [vD,fD] x [(Qe,abO)]=2/\Qx [vD,fD] x [Uz]=14:=
 ⟨Tc Q85 (Mn x hx),Tc Q96 (Mn x hx),by rw [Q3x (by rw [Cg];decide),Cg]⟩
theorem Q3i{LD:List Q7}{qs:Qa}(h:Qh LD (qs.map (·.1))≠0):Yg LD qs=Qh LD (qs.map (·.1)):=by unfold Yg;rw [if_neg h]
theorem Q3r{qs:Qa}(h:qs.map (·.1)=[(Qe,[(5,2)])]):Yg [vD,fD] qs=5/\X4 [vD,fD] qs=[]:=by
 have b:Qh [vD,fD] (qs.map (·.1))=0:=by rw [h];decide +kernel
 have c:Zg [vD,fD] qs 2=[]:=by rw [H6,h];decide +kernel
 have a:Yg [vD,fD] qs=5:=by
  unfold Yg;rw [if_pos b];show (if (Zg [vD,fD] qs 2).isEmpty=true then(5:Int) else 0)=5;rw [c];rfl
 refine⟨a,?_⟩;unfold X4;rw [a];rfl
theorem Q30{qs:Qa}(h:qs.map (·.1)=[(Qe,abO),(Qe,apO)]):Yg [vD,fD] qs=5:=by
 have a:Qh [vD,fD] (qs.map (·.1))=0:=by rw [h];decide +kernel
 have b:Zg [vD,fD] qs 2=[]:=by rw [H6,h];decide +kernel
 unfold Yg;rw [if_pos a];show (if (Zg [vD,fD] qs 2).isEmpty=true then(5:Int) else 0)=5;rw [b];rfl
theorem Q6a{qs:Qa}(h:qs.map (·.1)=[(Qe,abO),(Qe,apO)]):K2 [vD,fD] qs=[0,1]/\Hv [vD,fD] qs=1/\Qh [vD,fD] (qs.map (·.1))=0:=by
 have a:Qh [vD,fD] (qs.map (·.1))=0:=by rw [h];decide +kernel
 have c:Jz [vD,fD] qs=fun s x=>if s.2<(W6 (Ki [vD,fD] x [(Qe,abO),(Qe,apO)]):Int) then(x,(W6 (Ki [vD,fD] x [(Qe,abO),(Qe,apO)]):Int)) else s:=funext fun s=>funext fun x=>by unfold Jz M7;rw [Wj,h]
 have b:Yx [vD,fD] qs (Zn 2 (List.range 2))=([0,1],1):=by
  unfold Yx;rw [c];decide +kernel
 refine⟨?_,?_,a⟩
 ·unfold K2;rw [if_pos a];show (Yx [vD,fD] qs (Zn 2 (List.range 2))).1=_;rw [b]
 ·unfold Hv;rw [if_pos a];show (Yx [vD,fD] qs (Zn 2 (List.range 2))).2=_;rw [b]
theorem Q78{qs:Qa}(h:qs.map (·.1)=[]):Xx [] qs=[]/\Vl [] qs=true/\Qh [] (qs.map (·.1))=0:=by
 have a:Qh [] (qs.map (·.1))=0:=by rw [h];decide +kernel
 have b:Zg [] qs 0=[[]]:=by rw [H6,h];decide +kernel
 refine⟨?_,?_,a⟩
 ·unfold Xx;rw [if_pos a];show (Zg [] qs 0).headD []=_;rw [b];rfl
 ·unfold Vl;rw [if_pos a];show (!(Zg [] qs 0).isEmpty)=_;rw [b];rfl
theorem Q7i{qs:Qa}(h:qs.map (·.1)=[(Qe,Qe)]):Jw [] qs 5=[[]]/\Qh [] (qs.map (·.1))=0:=by
 have a:Qh [] (qs.map (·.1))=0:=by rw [h];decide +kernel
 have b:Zg [] qs 0=[[]]:=by rw [H6,h];decide +kernel
 refine⟨?_,a⟩;unfold Jw;rw [if_pos a];show (Zg [] qs 0).take _=_;rw [b];rfl
abbrev Uk:Wd:=[(2,5),(5,2),(2,5)]
theorem Q3p{qs:Qa}(h:qs.map (·.1)=[(Uk,Uk)]):J3 [vD,fD] [0,1] qs=[]/\Qx [vD,fD] [0,1] (qs.map (·.1))=0:=by
 have a:Qx [vD,fD] [0,1] (qs.map (·.1))=0:=by rw [h];decide +kernel
 refine⟨?_,a⟩;unfold J3;rw [if_pos a];have b:Uw [vD,fD] qs (Ym [0,1])=fun i=>exB (Ki [vD,fD] [0,1] [(Uk,Uk)]) (Ki [vD,fD] (Jb [0,1] i) [(Uk,Uk)]):=funext fun i=>by rw [Nj,h];rfl
 rw [b];decide +kernel
theorem Q3d{qs:Qa}(h:qs.map (·.1)=[(Qe,abO)]):J3 [vD,fD] [1,0] qs=[]/\Qx [vD,fD] [1,0] (qs.map (·.1))=0:=by
 have a:Qx [vD,fD] [1,0] (qs.map (·.1))=0:=by rw [h];decide +kernel
 refine⟨?_,a⟩;unfold J3;rw [if_pos a];have b:Uw [vD,fD] qs (Ym [1,0])=fun i=>exB (Ki [vD,fD] [1,0] [(Qe,abO)]) (Ki [vD,fD] (Jb [1,0] i) [(Qe,abO)]):=funext fun i=>by rw [Nj,h];rfl
 rw [b];decide +kernel
theorem Q6d{qs:Qa}(h:qs.map (·.1)=[(zW 32,zW 32)]):Uy [Je] [0] qs=0/\Uv [Je] [0] qs=true/\Qx [Je] [0] (qs.map (·.1))=0:=by
 unfold Uy Uv H5;rw [Wj,h];decide +kernel
abbrev Ud:Wd:=zW 31++[(5,2)]
abbrev toL:Wd:=(5,2)::zW 31
theorem Q6b{qs:Qa}(h:qs.map (·.1)=[(Ud,toL)]):Xx [Je,fD] qs=[1,0]/\Qh [Je,fD] (qs.map (·.1))=0:=by
 have a:Qh [Je,fD] (qs.map (·.1))=0:=by rw [h];decide +kernel
 have b:Zg [Je,fD] qs 2=[[1,0]]:=by rw [H6,h];decide +kernel
 refine⟨?_,a⟩;unfold Xx;rw [if_pos a];show (Zg [Je,fD] qs 2).headD []=_;rw [b];rfl
theorem Te{LD:List Q7}{xs:List Int}{qs:Qa}(h:Qx LD xs (qs.map (·.1))≠0):Uy LD xs qs=0/\Uv LD xs qs=false:=by
 unfold Uy Uv;rw [if_neg h,if_neg h];exact⟨rfl,rfl⟩
theorem Q4b{LD:List Q7}{qs:Qa}(h:Qh LD (qs.map (·.1))≠0):Xx LD qs=[]/\Vl LD qs=false:=by
 unfold Xx Vl;rw [if_neg h,if_neg h];exact⟨rfl,rfl⟩
theorem Q6k{LD:List Q7}{qs:Qa}{m:Int}(h:Qh LD (qs.map (·.1))≠0):Jw LD qs m=[]:=by unfold Jw;rw [if_neg h]
theorem Q26{LD:List Q7}{qs:Qa}(h:Yg LD qs≠0):X4 LD qs=[]:=by unfold X4;rw [if_neg h]
theorem Q38{LD:List Q7}{qs:Qa}(h:Qh LD (qs.map (·.1))≠0):K2 LD qs=[]/\Hv LD qs=0:=by
 unfold K2 Hv;rw [if_neg h,if_neg h];exact⟨rfl,rfl⟩
theorem S3{LD:List Q7}{xs:List Int}{qs:Qa}(h:Qx LD xs (qs.map (·.1))≠0):J3 LD xs qs=[]:=by unfold J3;rw [if_neg h]
theorem Q8t{qs:Qa}:Uy (List.replicate 7 Ye) [] qs=0/\Uv (List.replicate 7 Ye) [] qs=false/\Qx (List.replicate 7 Ye) [] (qs.map (·.1))=12:=by
 have a:=Te (LD:=List.replicate 7 Ye) (xs:=[]) (qs:=qs) (by rw [Su];decide);exact⟨a.1,a.2,Su⟩
theorem Q8y{qs:Qa}:Xx (List.replicate 6 Ye) qs=[]/\Vl (List.replicate 6 Ye) qs=false/\Qh (List.replicate 6 Ye) (qs.map (·.1))=17:=by
 have a:=Q4b (LD:=List.replicate 6 Ye) (qs:=qs) (by rw [Q1e];decide);exact⟨a.1,a.2,Q1e⟩
theorem Q8o{qs:Qa}(b:qs.length=33):Jw [vD,fD] qs 1=[]/\Qh [vD,fD] (qs.map (·.1))=12:=by
 have a:Qh [vD,fD] (qs.map (·.1))=12:=Q61 (by rw [List.length_map];exact b);exact⟨Q6k (by rw [a];decide),a⟩
theorem Q8j{qs:Qa}(h:qs.map (·.1)=[(Qe,abO),Uz]):X4 [vD,fD] qs=[]/\Yg [vD,fD] qs=14:=by
 have a:Yg [vD,fD] qs=14:=by rw [Q3i (by rw [h,Bu];decide),h];exact Bu
 exact⟨Q26 (by rw [a];decide),a⟩
theorem Q8i{qs:Qa}(h:qs.map (·.1)=[([],zW 33),Uz]):K2 [vD,fD] qs=[]/\Hv [vD,fD] qs=0/\Qh [vD,fD] (qs.map (·.1))=11:=by
 have a:Qh [vD,fD] (qs.map (·.1))=11:=by rw [h];exact Q68
 have b:=Q38 (LD:=[vD,fD]) (qs:=qs) (by rw [a];decide);exact⟨b.1,b.2,a⟩
theorem Q8g{x:List Int}(c:x∈Xq):Uy [vD,fD] x []=0/\Uv [vD,fD] x []=false/\Qx [vD,fD] x (([]:Qa).map (·.1))=2:=by
 have a:Qx [vD,fD] x (([]:Qa).map (·.1))=2:=(M4 c).1;have b:=Te (LD:=[vD,fD]) (xs:=x) (qs:=[]) (by rw [a];decide);exact⟨b.1,b.2,a⟩
theorem Q8e{x:List Int}(b:x∈Xq){qs:Qa}(h:qs.map (·.1)=[(Qe,abO)]):J3 [vD,fD] x qs=[]/\Qx [vD,fD] x (qs.map (·.1))=2:=by
 have a:Qx [vD,fD] x (qs.map (·.1))=2:=by rw [h];exact(M4 b).2.1
 exact⟨S3 (by rw [a];decide),a⟩
theorem Q7s{x:List Int}(b:x∈Xq){qs:Qa}(h:qs.map (·.1)=[Uz]):J3 [vD,fD] x qs=[]/\Qx [vD,fD] x (qs.map (·.1))=14:=by
 have a:Qx [vD,fD] x (qs.map (·.1))=14:=by rw [h];exact(M4 b).2.2
 exact⟨S3 (by rw [a];decide),a⟩
def HWd(W:World)(g:Nat)(ws:Wd):Prop:=W.heap[g]?=some (.cells (Qw ws).toArray 95 (0,0))
def Sh2(cs:Array Value):Prop:=∃ a n c a' n' c',cs=#[.slice a n c,.slice a' n' c']
def Qaw:Value:=.agg #[.int .u32 5,.int .u32 2]
def Kj:Nat->Value->World->Prop
 | 0,v,_=>v=.agg #[.int .u32 5,.int .u32 2]
 | 1,v,_=>v=.agg #[.int .u32 3,.int .u32 4]
 | 2,v,W=>∃ g,v=.slice (some ⟨g,0,none⟩) 2 2/\HWd W g abO
 | 3,v,W=>∃ f g,v=.agg #[.slice (some ⟨f,0,none⟩) 3 3,.slice (some ⟨g,0,none⟩) 2 2]/\Q8 W (.slice (some ⟨f,0,none⟩) 3 3) Qe/\HWd W g abO
 | 4,v,_=>v=.agg #[.int .u32 5,.int .u32 2]
 | 5,v,_=>v=.agg #[.int .u32 2,.int .u32 5]
 | 6,v,W=>∃ g,v=.slice (some ⟨g,0,none⟩) 2 2/\HWd W g apO
 | 7,v,W=>∃ f g,v=.agg #[.slice (some ⟨f,0,none⟩) 3 3,.slice (some ⟨g,0,none⟩) 2 2]/\Q8 W (.slice (some ⟨f,0,none⟩) 3 3) Qe/\HWd W g apO
 | 8,v,_=>v=.agg #[.int .u32 1,.int .u32 1]
 | 9,v,W=>∃ g,v=.slice (some ⟨g,0,none⟩) 1 1/\HWd W g [(1,1)]
 | 10,v,W=>∃ g,v=.slice (some ⟨g,0,none⟩) 33 33/\HWd W g (zW 33)
 | 11,v,W=>∃ g h,v=.agg #[.slice (some ⟨g,0,none⟩) 1 1,.slice (some ⟨h,0,none⟩) 33 33]/\HWd W g [(1,1)]/\HWd W h (zW 33)
 | _,_,_=>True
theorem HWd.keep{X:Nat}{W a:World}{g:Nat}{ws:Wd}(h:HWd W g ws)(c:Q1 (Nm X 105 Sh2 W) W a):HWd a g ws:=by
 refine c.heap h ?_;rintro⟨_,d,b,_⟩;unfold HWd at h;rw [h] at b;simp at b
theorem Rm{X:Nat}{W c:World}{v:Value}{ws:Wd}(h:Q8 W v ws)(f:Q1 (Nm X 105 Sh2 W) W c):Q8 c v ws:=by
 obtain⟨⟨k,l,g,i,t,m⟩,n⟩:=h;refine⟨⟨k,l,g,i,t,fun hn=>?_⟩,n⟩;obtain⟨d,b,o,q,e⟩:=m hn;have r:¬ Nm X 105 Sh2 W d:=by
  rintro⟨_,A,p,w,B,y,x,C,z,rfl⟩;have a:=e 0 oz;rw [Nat.add_zero] at a;unfold World.cell? at a;simp only [p] at a;cases ws with
  | nil=>simp at hn
  | cons s u=>
   match b with
   | 0=>simp [Qw] at a
   | 1=>simp [Qw] at a
   | b+2=>simp at a
 exact⟨d,b,o,Nat.lt_of_lt_of_le q f.size,fun j hj=>f.cell_some (e j hj) r⟩
theorem Q5k{X:Nat}:∀(i:Nat) (v:Value) (W W':World),Kj i v W->Q1 (Nm X 105 Sh2 W) W W'->Kj i v W'
 | 0,_,_,_,h,_=>h
 | 1,_,_,_,h,_=>h
 | 2,_,_,_,⟨g,h1,h2⟩,ht=>⟨g,h1,h2.keep ht⟩
 | 3,_,_,_,⟨f,g,h1,h2,h3⟩,ht=>⟨f,g,h1,Rm h2 ht,h3.keep ht⟩
 | 4,_,_,_,h,_=>h
 | 5,_,_,_,h,_=>h
 | 6,_,_,_,⟨g,h1,h2⟩,ht=>⟨g,h1,h2.keep ht⟩
 | 7,_,_,_,⟨f,g,h1,h2,h3⟩,ht=>⟨f,g,h1,Rm h2 ht,h3.keep ht⟩
 | 8,_,_,_,h,_=>h
 | 9,_,_,_,⟨g,h1,h2⟩,ht=>⟨g,h1,h2.keep ht⟩
 | 10,_,_,_,⟨g,h1,h2⟩,ht=>⟨g,h1,h2.keep ht⟩
 | 11,_,_,_,⟨g,h,h1,h2,h3⟩,ht=>⟨g,h,h1,h2.keep ht,h3.keep ht⟩
 | _+12,_,_,_,_,_=>trivial
theorem Q0{F:World->Prop}{A B:World}(h:Hid (∀ D,Ext A D->F D)) (e:Ext A B):Hid (∀ D,Ext B D->F D):=Zh fun D hD=>h.out D (e.trans hD)
theorem M0{ops:Array Oper}{N:Nat}(h:((List.range ops.size).all fun i=>match Z1 ops i with | some d=>decide (d<N) | none=>true)=true) {i d:Nat} (a:Z1 ops i=some d):d<N:=by
 have c:i<ops.size:=by
  unfold Z1 at a;cases ho:ops[i]? with
  | none=>rw [ho] at a;cases a
  | some o=>exact(Array.getElem?_eq_some_iff.1 ho).1
 have b:=List.all_eq_true.1 h i (List.mem_range.2 c);rw [a] at b
 simpa using b
theorem S4(W:World):(Instr.makeSlice 99 (.int .i64 33) (.int .i64 33)).run Tryz.prog W=.ok (.slice (some ⟨W.heap.size,0,none⟩) 33 33) (W.alloc (.cells (Qw (zW 33)).toArray 95)):=by
 obtain⟨g,e,f,a,d⟩:=info_parts (@Ub);have c:=run_makeSlice (P:=Tryz.prog) W 99 95 g _ Tryz.underlying99 e f .i64 .i64 33 33 zd zd (by rw [a];decide) (by rw [d];decide) zd;have b:madeCells (Value.agg #[.int .u32 0,.int .u32 0]).cells 66=(Qw (zW 33)).toArray:=by kernel_rfl
 rw [c,a];show Result.ok (Value.slice (some ⟨W.heap.size,0,none⟩) 33 33) (W.alloc (.cells (madeCells (Value.agg #[.int .u32 0,.int .u32 0]).cells 66) 95))=_;rw [b]
theorem Q43(W:World):(Instr.makeSlice 99 (.int .i64 31) (.int .i64 31)).run Tryz.prog W=.ok (.slice (some ⟨W.heap.size,0,none⟩) 31 31) (W.alloc (.cells (Qw (zW 31)).toArray 95)):=by
 obtain⟨g,e,f,a,d⟩:=info_parts (@Ub);have c:=run_makeSlice (P:=Tryz.prog) W 99 95 g _ Tryz.underlying99 e f .i64 .i64 31 31 zd zd (by rw [a];decide) (by rw [d];decide) zd;have b:madeCells (Value.agg #[.int .u32 0,.int .u32 0]).cells 62=(Qw (zW 31)).toArray:=by kernel_rfl
 rw [c,a];show Result.ok (Value.slice (some ⟨W.heap.size,0,none⟩) 31 31) (W.alloc (.cells (madeCells (Value.agg #[.int .u32 0,.int .u32 0]).cells 62) 95))=_;rw [b]
theorem Q46(W:World):(Instr.makeSlice 99 (.int .i64 32) (.int .i64 32)).run Tryz.prog W=.ok (.slice (some ⟨W.heap.size,0,none⟩) 32 32) (W.alloc (.cells (Qw (zW 32)).toArray 95)):=by
 obtain⟨g,e,f,a,d⟩:=info_parts (@Ub);have c:=run_makeSlice (P:=Tryz.prog) W 99 95 g _ Tryz.underlying99 e f .i64 .i64 32 32 zd zd (by rw [a];decide) (by rw [d];decide) zd;have b:madeCells (Value.agg #[.int .u32 0,.int .u32 0]).cells 64=(Qw (zW 32)).toArray:=by kernel_rfl
 rw [c,a];show Result.ok (Value.slice (some ⟨W.heap.size,0,none⟩) 32 32) (W.alloc (.cells (madeCells (Value.agg #[.int .u32 0,.int .u32 0]).cells 64) 95))=_;rw [b]
theorem Uo{W:World}{g n:Nat}{ws:Wd}(h:HWd W g ws)(a:(Qw ws).length=n*2) (c:n<=maxLen) (d:Zt ws):Q8 W (.slice (some ⟨g,0,none⟩) n n) ws:=by
 have b:ws.length=n:=by rw [Lb] at a;omega
 subst b;exact⟨Qn h a c,d⟩
theorem Ca{W:World}{g:Nat}{a b:Q7}{c d:List Value}{cs:Array Value}(h:W.heap[g]?=some (.cells cs 102 (0,0))) (f:Z2 W a c) (i:Z2 W b d) (e:cs.toList=c++d:=by rfl):Z9 W (.slice (some ⟨g,0,none⟩) 2 2) [(a,c),(b,d)]:=by
 have j:=Fs f;have k:=Fs i;refine⟨by have:=Qn (n:=2) (cap:=2) (sz:=18) (xs:=c++d) (by rw [<-e];exact h) (by rw [List.length_append];omega) zd;simpa using this,fun p hp=>?_⟩;simp only [List.mem_cons,List.not_mem_nil,or_false] at hp;rcases hp with rfl | rfl
 ·exact f
 ·exact i
def Nh(l:List (Nat × Nat)) (vs:Nat->Value) (t:Array Value):Array Value:=l.foldl (fun t p=>t.setIfInBounds p.2 (vs p.1)) t
def M6(ops:Array Oper):List (Nat × Nat):=(List.range ops.size).filterMap fun i=>(Z1 ops i).map fun d=>(i,d)
theorem Sv{ops:Array Oper}{l:List (Nat × Nat)} (h:M6 ops=l) (vs:Nat->Value) (t:Array Value):U2 ops vs (List.range ops.size) t=Nh l vs t:=by
 subst h;unfold M6 Nh U2;generalize List.range ops.size=a
 induction a generalizing t with
 | nil=>rfl
 | cons i a ih=>
  rw [List.foldl_cons,List.filterMap_cons];cases hd:Z1 ops i with
  | none=>exact ih t
  | some d=>exact ih _
theorem T6{ops:Array Oper}{l:List (Nat × Nat)} (h:M6 ops=l) {vs:Nat->Value} {t:Array Value} {Q:Exit->Act->World->Prop} {a:List Deferred} {W:World} (b:Q .normal { tmps:=Nh l vs t,defers:=a } W):Q .normal { tmps:=U2 ops vs (List.range ops.size) t,defers:=a } W:=by
 rw [Sv h];exact b
theorem Q1m(W:World):Rd W (.slice none 0 0) 0 1 (Z7 []):=⟨rfl,by decide,none,0,rfl,fun h=>by simp at h⟩
theorem Rn(W:World):Z2 W Ye [.string ⟨#[]⟩,.int .i64 0,.int .u32 0,.int .u32 0,.bool false,.int .i64 0,.int .i64 0,.slice none 0 0,.int .i64 0,.int .u32 0,.int .u32 0,.bool false,.int .i64 0,.int .i64 0,.slice none 0 0,.slice none 0 0,.slice none 0 0,.int .i64 0]:=⟨[.int .i64 0,.int .u32 0,.int .u32 0,.bool false,.int .i64 0,.int .i64 0,.slice none 0 0],[.int .i64 0,.int .u32 0,.int .u32 0,.bool false,.int .i64 0,.int .i64 0,.slice none 0 0],_,_,rfl,by decide,J0 _ _ 0 (pl:=0) (mi:=0) false 0 0 zd zd,J0 _ _ 0 (pl:=0) (mi:=0) false 0 0 zd zd,⟨⟨rfl,by simp [maxLen],none,0,rfl,fun h=>by simp at h⟩,by simp [Zt]⟩,⟨⟨rfl,by simp [maxLen],none,0,rfl,fun h=>by simp at h⟩,by simp [Uf]⟩⟩
def Jp(n:Nat):List Value:=(List.replicate n ((Ye,[.string ⟨#[]⟩,.int .i64 0,.int .u32 0,.int .u32 0,.bool false,.int .i64 0,.int .i64 0,.slice none 0 0,.int .i64 0,.int .u32 0,.int .u32 0,.bool false,.int .i64 0,.int .i64 0,.slice none 0 0,.slice none 0 0,.slice none 0 0,.int .i64 0]):Q7 × List Value)).flatMap (·.2)
theorem Q76(W:World):(Instr.makeSlice 26 (.int .i64 7) (.int .i64 7)).run Tryz.prog W=.ok (.slice (some ⟨W.heap.size,0,none⟩) 7 7) (W.alloc (.cells (Jp 7).toArray 102)):=by
 obtain⟨g,e,f,a,d⟩:=info_parts (@Q4f);have c:=run_makeSlice (P:=Tryz.prog) W 26 102 g _ Tryz.underlying26 e f .i64 .i64 7 7 zd zd (by rw [a];decide) (by rw [d];decide) zd;have b:madeCells (Value.agg #[.string ⟨#[]⟩,.int .i64 0,.int .u32 0,.int .u32 0,.bool false,.int .i64 0,.int .i64 0,.slice none 0 0,.int .i64 0,.int .u32 0,.int .u32 0,.bool false,.int .i64 0,.int .i64 0,.slice none 0 0,.slice none 0 0,.slice none 0 0,.int .i64 0]).cells 126=(Jp 7).toArray:=by kernel_rfl
 rw [c,a];show Result.ok (Value.slice (some ⟨W.heap.size,0,none⟩) 7 7) (W.alloc (.cells (madeCells (Value.agg #[.string ⟨#[]⟩,.int .i64 0,.int .u32 0,.int .u32 0,.bool false,.int .i64 0,.int .i64 0,.slice none 0 0,.int .i64 0,.int .u32 0,.int .u32 0,.bool false,.int .i64 0,.int .i64 0,.slice none 0 0,.slice none 0 0,.slice none 0 0,.int .i64 0]).cells 126) 102))=_;rw [b]
def Wl(n:Nat):List Value:=(List.replicate n ((([],[]),[.slice none 0 0,.slice none 0 0]):(Wd × Wd) × List Value)).flatMap (·.2)
theorem Q1p(W:World):(Instr.makeSlice 61 (.int .i64 33) (.int .i64 33)).run Tryz.prog W=.ok (.slice (some ⟨W.heap.size,0,none⟩) 33 33) (W.alloc (.cells (Wl 33).toArray 105)):=by
 obtain⟨g,e,f,a,d⟩:=info_parts (@Q7e);have c:=run_makeSlice (P:=Tryz.prog) W 61 105 g _ Tryz.underlying61 e f .i64 .i64 33 33 zd zd (by rw [a];decide) (by rw [d];decide) zd;have b:madeCells (Value.agg #[.slice none 0 0,.slice none 0 0]).cells 66=(Wl 33).toArray:=by kernel_rfl
 rw [c,a];show Result.ok (Value.slice (some ⟨W.heap.size,0,none⟩) 33 33) (W.alloc (.cells (madeCells (Value.agg #[.slice none 0 0,.slice none 0 0]).cells 66) 105))=_;rw [b]
def Lv:Nat->Value->World->Prop
 | 0,v,W=>∃ g,v=.slice (some ⟨g,0,none⟩) 7 7/\W.heap[g]?=some (.cells (Jp 7).toArray 102 (0,0))
 | 1,v,W=>∃ g,v=.slice (some ⟨g,0,none⟩) 33 33/\W.heap[g]?=some (.cells (Wl 33).toArray 105 (0,0))
 | 2,v,W=>∃ g,v=.slice (some ⟨g,0,none⟩) 7 7/\W.heap[g]?=some (.cells (Jp 7).toArray 102 (0,0))
 | 3,v,W=>∃ g,v=.slice (some ⟨g,0,none⟩) 33 33/\W.heap[g]?=some (.cells (Wl 33).toArray 105 (0,0))
 | _,_,_=>True
theorem Q40:∀(i:Nat) (v:Value) (W W':World),Lv i v W->Ext W W'->Lv i v W'
 | 0,_,_,_,⟨g,h1,h2⟩,ht=>⟨g,h1,ht.keep h2⟩
 | 1,_,_,_,⟨g,h1,h2⟩,ht=>⟨g,h1,ht.keep h2⟩
 | 2,_,_,_,⟨g,h1,h2⟩,ht=>⟨g,h1,ht.keep h2⟩
 | 3,_,_,_,⟨g,h1,h2⟩,ht=>⟨g,h1,ht.keep h2⟩
 | _+4,_,_,_,_,_=>trivial
theorem Q3e{W:World}{g:Nat}(h:W.heap[g]?=some (.cells (Jp 7).toArray 102 (0,0))):Z9 W (.slice (some ⟨g,0,none⟩) 7 7) (List.replicate 7 (Ye,[.string ⟨#[]⟩,.int .i64 0,.int .u32 0,.int .u32 0,.bool false,.int .i64 0,.int .i64 0,.slice none 0 0,.int .i64 0,.int .u32 0,.int .u32 0,.bool false,.int .i64 0,.int .i64 0,.slice none 0 0,.slice none 0 0,.slice none 0 0,.int .i64 0])):=
 ⟨Qn (xs:=Jp 7) h kz zd,fun p hp=>by rw [List.eq_of_mem_replicate hp];exact Rn W⟩
theorem Q11{W:World}{g:Nat}(h:W.heap[g]?=some (.cells (Jp 7).toArray 102 (0,0))):Z9 W (.slice (some ⟨g,0,none⟩) 6 7) (List.replicate 6 (Ye,[.string ⟨#[]⟩,.int .i64 0,.int .u32 0,.int .u32 0,.bool false,.int .i64 0,.int .i64 0,.slice none 0 0,.int .i64 0,.int .u32 0,.int .u32 0,.bool false,.int .i64 0,.int .i64 0,.slice none 0 0,.slice none 0 0,.slice none 0 0,.int .i64 0])):=by
 have f:=Qn (n:=7) (cap:=7) (sz:=18) (xs:=Jp 7) h kz zd;obtain⟨_,_,q,cap,b,e⟩:=f;simp only [zV,true_and] at b;obtain⟨rfl,rfl⟩:=b;obtain⟨d,o,i,l,k⟩:=e zd;refine⟨⟨by kernel_rfl,by decide,_,7,rfl,fun _=>⟨d,o,i,l,fun j a=>?_⟩⟩,fun p hp=>by rw [List.eq_of_mem_replicate hp];exact Rn W⟩;have a:j<108:=a;rw [k j (by show j<126;omega)]
 congr 1
 show (Jp 7).getD j undef=(Jp 6).getD j undef;have m:j<(Jp 6).length:=by
  have:(Jp 6).length=108:=by kernel_rfl
  omega
 have c:Jp 7=Jp 6++[.string ⟨#[]⟩,.int .i64 0,.int .u32 0,.int .u32 0,.bool false,.int .i64 0,.int .i64 0,.slice none 0 0,.int .i64 0,.int .u32 0,.int .u32 0,.bool false,.int .i64 0,.int .i64 0,.slice none 0 0,.slice none 0 0,.slice none 0 0,.int .i64 0]:=by rfl
 rw [c,List.getD_eq_getElem?_getD,List.getElem?_append_left m,<-List.getD_eq_getElem?_getD]
theorem Ef{W:World}{g:Nat}(h:W.heap[g]?=some (.cells (Wl 33).toArray 105 (0,0))):Qu W (.slice (some ⟨g,0,none⟩) 33 33) (List.replicate 33 (([],[]),[.slice none 0 0,.slice none 0 0])):=
 ⟨Qn (xs:=Wl 33) h kz zd,fun p hp=>by rw [List.eq_of_mem_replicate hp];exact⟨rfl,_,_,rfl,Lr W,Lr W⟩⟩
theorem Q8r{k:Nat}(a:k<7):Xq.getD k []∈Xq:=by
 rw [List.getD_eq_getElem?_getD,List.getElem?_eq_getElem (show k<Xq.length from a)];exact List.getElem_mem _
theorem Q8q{W:World}{G:Nat}(b:W.heap[G]?=some (.cells #[.int .i64 0] 3 (0,0))) (d:W.heap[G+1]?=some (.cells #[.int .i64 0,.int .i64 0] 3 (0,0))) (e:W.heap[G+2]?=some (.cells #[.int .i64 0,.int .i64 2] 3 (0,0)))
  (f:W.heap[G+3]?=some (.cells #[.int .i64 (-1),.int .i64 0] 3 (0,0))) (g:W.heap[G+4]?=some (.cells #[.int .i64 0,.int .i64 1,.int .i64 2] 3 (0,0))) (i:W.heap[G+5]?=some (.cells #[.int .i64 1,.int .i64 1] 3 (0,0)))
  (j:W.heap[G+6]?=some (.cells #[.slice none 0 0,.slice (some ⟨G,0,none⟩) 1 1,.slice (some ⟨G+1,0,none⟩) 2 2,.slice (some ⟨G+2,0,none⟩) 2 2,.slice (some ⟨G+3,0,none⟩) 2 2,.slice (some ⟨G+4,0,none⟩) 3 3,.slice (some ⟨G+5,0,none⟩) 2 2] 48 (0,0))) :
  ∀ k,k<7->∃ ao n c,W.cell? ⟨G+6,k,none⟩=some (.slice ao n c)/\Rd W (.slice ao n c) n 1 (Z7 (Xq.getD k []))/\(Xq.getD k []).length=n:=by
 have a:∀ k,W.cell? ⟨G+6,k,none⟩=_:=fun k=>cell_of_row W (G+6) k _ _ _ j;intro k m;have l:k=0\/k=1\/k=2\/k=3\/k=4\/k=5\/k=6:=by omega
 rcases l with rfl | rfl | rfl | rfl | rfl | rfl | rfl
 ·exact⟨none,0,0,a 0,Q1m W,rfl⟩
 ·exact⟨_,1,1,a 1,Qn (xs:=Z7 [0]) b rfl zd,rfl⟩
 ·exact⟨_,2,2,a 2,Qn (xs:=Z7 [0,0]) d rfl zd,rfl⟩
 ·exact⟨_,2,2,a 3,Qn (xs:=Z7 [0,2]) e rfl zd,rfl⟩
 ·exact⟨_,2,2,a 4,Qn (xs:=Z7 [-1,0]) f rfl zd,rfl⟩
 ·exact⟨_,3,3,a 5,Qn (xs:=Z7 [0,1,2]) g rfl zd,rfl⟩
 ·exact⟨_,2,2,a 6,Qn (xs:=Z7 [1,1]) i rfl zd,rfl⟩
theorem P7(w:World):Z9 w (.slice none 0 0) []:=⟨⟨rfl,by simp [maxLen],none,0,rfl,fun h=>by simp at h⟩,fun _ h=>by cases h⟩
theorem Q4y{w:World}{ao:Option Addr}{c:Nat}(h:Xv w (.slice ao 1 c) [[]]):∃ g off,ao=some ⟨g,off,none⟩/\∃ xo xc,w.cell? ⟨g,off,none⟩=some (.slice xo 0 xc):=by
 obtain⟨j,e,f⟩:=h;obtain⟨xo,xc,d,_⟩:=f 0 (by show 0<1;decide);obtain⟨g,off,i,b,_,a⟩:=Q7z (k:=0) e (by show 0<1;decide);simp only [zV] at b;rw [d,Nat.add_zero] at a;exact⟨g,off,b.1,xo,xc,a⟩
theorem Q6q{W:World}{g:Nat}{a:Q7}{b:List Value}{cs:Array Value}(h:W.heap[g]?=some (.cells cs 102 (0,0))) (c:Z2 W a b) (e:cs.toList=b:=by rfl):Z9 W (.slice (some ⟨g,0,none⟩) 1 1) [(a,b)]:=by
 have d:=Fs c;refine⟨by have:=Qn (n:=1) (cap:=1) (sz:=18) (xs:=b) (by rw [<-e];exact h) oz zd;simpa using this,fun p hp=>?_⟩;simp only [List.mem_cons,List.not_mem_nil,or_false] at hp;subst hp;exact c
theorem Q87{ops:Array Oper}{s:Nat}(h:((List.range ops.size).all fun i=>Z1 ops i != some s)=true):∀ k,Z1 ops k≠some s:=fun k hk=>by
 have hi:k<ops.size:=by
  unfold Z1 at hk;cases ho:ops[k]? with
  | none=>rw [ho] at hk;cases hk
  | some o=>exact(Array.getElem?_eq_some_iff.1 ho).1
 have h1:=List.all_eq_true.1 h k (List.mem_range.2 hi);rw [hk] at h1;simp at h1
theorem Eu{W:World}{g:Nat}{cs:Array Value}{t:TypeId}{fr:Nat × Nat}(h:W.heap[g]?=some (.cells cs t fr)):W.rangeAt g 0 cs.toList:=fun j u hu=>by
 rw [Nat.zero_add,cell_of_row W g j cs t fr h,<-Array.getElem?_toList];exact hu
theorem Q1s{w:World}{g n cap sz:Nat}{xs:List Value}{more:Array Value}{t:TypeId}(h:w.heap[g]?=some (.cells (xs.toArray++more) t (0,0))) (a:xs.length=n*sz) (b:n<=maxLen):Rd w (.slice (some ⟨g,0,none⟩) n cap) n sz xs:=by
 refine⟨a,b,_,cap,rfl,fun _=>⟨g,0,rfl,(Array.getElem?_eq_some_iff.1 h).1,fun j hj=>?_⟩⟩;rw [Nat.zero_add,cell_of_row w g j _ t _ h,Array.getElem?_append_left (by simp;omega),List.getElem?_toArray,List.getD_eq_getElem?_getD,List.getElem?_eq_getElem oz];rfl
theorem Lx{W:World}{g:Nat}{xs:List Value}{t:TypeId}(h:W.heap[g]?=some (.cells xs.toArray t (0,0))):∀(j:Nat) (u:Value),xs[j]?=some u->W.cell? ((⟨g,0,none⟩:Addr).add j)=some u:=fun j u hu=>by
 have hadd:(⟨g,0,none⟩:Addr).add j=⟨g,j,none⟩:=by unfold Addr.add;split <;> simp_all
 rw [hadd,cell_of_row W g j _ t _ h]
 simpa using hu
theorem Q0q{P:Program}{o:Oper}{b:Act}{W a:World}{K:Act->World->Prop}{Q:Exit->Act->World->Prop}{s x:Operand}{c d:TypeId}{e f v:Value}(g:o.op=.call { callee:=.builtin .append,args:=#[s,x],argTypes:=#[c,d] }) (j:b.eval s=e) (k:b.eval x=f)
  (i:(Builtin.append_ #[c,d] o.type #[e,f]).run P W=.ok v a) (h:K (b.put o.dst v) a):o.wp P b W K Q:=by
 unfold Oper.wp execOp;simp only [g,resolve,invoke,builtin,Sem.run_bind,Sem.run_pure,Result.andThen_ok,List.map_toArray,List.map_cons,List.map_nil,j,k,i];exact h
theorem Q3n{W:World}{g h:Nat}(d:HWd W g (zW 31)) (e:HWd W h [(5,2)]):∃(g2 c2:Nat) (W':World),(Builtin.append_ #[99,99] 99 #[.slice (some ⟨g,0,none⟩) 31 31,.slice (some ⟨h,0,none⟩) 1 1]).run Tryz.prog W=.ok (.slice (some ⟨g2,0,none⟩) 32 c2) W'/\Ext W W'/\Q8 W' (.slice (some ⟨g2,0,none⟩) 32 c2) Ud/\32<=c2:=by
 obtain⟨k,f,j,a,c⟩:=info_parts (@Ub);have i:=run_append_grow (P:=Tryz.prog) W 99 99 95 k _ Tryz.underlying99 f j ⟨g,0,none⟩ 31 31 (Qw (zW 31)) (by rw [a];kernel_rfl) (Lx d) ⟨h,0,none⟩ 1 1 (Qw [(5,2)]) (by rw [a];rfl) (Lx e) zd zd (growslice_fits oz (by rw [c];decide));refine⟨_,_,_,i,((Q1.refl _ W).drew).alloc _,⟨?_,by simp [Zt]⟩,grownCap_ge W 32 31 _⟩;have b:(Qw (zW 31)).toArray++(Qw [(5,2)]).toArray=(Qw Ud).toArray:=by kernel_rfl
 refine Q1s (t:=95) (sz:=2) (xs:=Qw Ud) (more:=Builtin.zeroCells (Value.agg #[.int .u32 0,.int .u32 0]).cells (grownCap W (31+1) 31 95 - (31+1))) ?_ kz zd;rw [<-b];exact Q3 rfl
theorem Q7d{W:World}{g:Nat}(f:HWd W g [(5,2)]):∃(g2 c2:Nat) (W':World),(Builtin.append_ #[99,3] 99 #[.slice (some ⟨g,0,none⟩) 1 1,.int .i64 31]).run Tryz.prog W=.ok (.slice (some ⟨g2,0,none⟩) 32 c2) W'/\Ext W W'/\Q8 W' (.slice (some ⟨g2,0,none⟩) 32 c2) toL/\32<=c2:=by
 obtain⟨c,i,k,b,a⟩:=info_parts (@Ub);have e:=run_firstCells_some (P:=Tryz.prog) W.drew c.size 1 ⟨g,0,none⟩ 1 1 (Qw [(5,2)]) (by rw [b];rfl) (Lx f);have j:=Lib.run_append_grow_zeros (P:=Tryz.prog) W 99 3 99 95 c _ .i64 .i64 Tryz.underlying99 Tryz.underlying3 i k (some ⟨g,0,none⟩) 1 1 (Qw [(5,2)]) e 31 zd (by rw [b];decide) zd zd (by rw [a];decide) (growslice_fits oz (by rw [a];decide));refine⟨_,_,_,j,((Q1.refl _ W).drew).alloc _,⟨?_,by simp [Zt]⟩,grownCap_ge W 32 1 _⟩;have d:(Qw [(5,2)]).toArray++Builtin.zeroCells (Value.agg #[.int .u32 0,.int .u32 0]).cells 31=(Qw toL).toArray:=by kernel_rfl
 refine Q1s (t:=95) (sz:=2) (xs:=Qw toL) (more:=Builtin.zeroCells (Value.agg #[.int .u32 0,.int .u32 0]).cells (grownCap W (1+31) 1 95 - (1+31))) ?_ kz zd;rw [<-d];exact Q3 rfl
def Yf(GO:Nat):Nat->Value->World->Prop
 | 0,v,_=>v=.agg #[.string ⟨#[88]⟩,.int .i64 2,.int .u32 0,.int .u32 0,.bool false,.int .i64 0,.int .i64 0,.slice none 0 0,.int .i64 0,.int .u32 0,.int .u32 0,.bool false,.int .i64 0,.int .i64 0,.slice none 0 0,.slice none 0 0,.slice (some ⟨GO,0,none⟩) 1 1,.int .i64 1]
 | 1,v,W=>∃ g1:Nat,v=.agg #[.string ⟨#[70]⟩,.int .i64 0,.int .u32 0,.int .u32 0,.bool false,.int .i64 0,.int .i64 0,.slice none 0 0,.int .i64 6,.int .u32 0,.int .u32 0,.bool false,.int .i64 0,.int .i64 0,.slice none 0 0,.slice (some ⟨g1,0,none⟩) 1 1,.slice none 0 0,.int .i64 1]/\Z2 W fD [.string ⟨#[70]⟩,.int .i64 0,.int .u32 0,.int .u32 0,.bool false,.int .i64 0,.int .i64 0,.slice none 0 0,.int .i64 6,.int .u32 0,.int .u32 0,.bool false,.int .i64 0,.int .i64 0,.slice none 0 0,.slice (some ⟨g1,0,none⟩) 1 1,.slice none 0 0,.int .i64 1]
 | 2,v,W=>∃ g g1:Nat,v=.slice (some ⟨g,0,none⟩) 2 2/\W.heap[g]?=some (.cells #[.string ⟨#[88]⟩,.int .i64 2,.int .u32 0,.int .u32 0,.bool false,.int .i64 0,.int .i64 0,.slice none 0 0,.int .i64 0,.int .u32 0,.int .u32 0,.bool false,.int .i64 0,.int .i64 0,.slice none 0 0,.slice none 0 0,.slice (some ⟨GO,0,none⟩) 1 1,.int .i64 1,.string ⟨#[70]⟩,.int .i64 0,.int .u32 0,.int .u32 0,.bool false,.int .i64 0,.int .i64 0,.slice none 0 0,.int .i64 6,.int .u32 0,.int .u32 0,.bool false,.int .i64 0,.int .i64 0,.slice none 0 0,.slice (some ⟨g1,0,none⟩) 1 1,.slice none 0 0,.int .i64 1] 102 (0,0))/\Z2 W Je [.string ⟨#[88]⟩,.int .i64 2,.int .u32 0,.int .u32 0,.bool false,.int .i64 0,.int .i64 0,.slice none 0 0,.int .i64 0,.int .u32 0,.int .u32 0,.bool false,.int .i64 0,.int .i64 0,.slice none 0 0,.slice none 0 0,.slice (some ⟨GO,0,none⟩) 1 1,.int .i64 1]/\Z2 W fD [.string ⟨#[70]⟩,.int .i64 0,.int .u32 0,.int .u32 0,.bool false,.int .i64 0,.int .i64 0,.slice none 0 0,.int .i64 6,.int .u32 0,.int .u32 0,.bool false,.int .i64 0,.int .i64 0,.slice none 0 0,.slice (some ⟨g1,0,none⟩) 1 1,.slice none 0 0,.int .i64 1]
 | 3,v,W=>∃ g,v=.slice (some ⟨g,0,none⟩) 31 31/\HWd W g (zW 31)
 | 4,v,_=>v=.agg #[.int .u32 5,.int .u32 2]
 | 5,v,W=>∃ g,v=.slice (some ⟨g,0,none⟩) 1 1/\HWd W g [(5,2)]
 | 6,v,W=>∃ g c,v=.slice (some ⟨g,0,none⟩) 32 c/\Q8 W (.slice (some ⟨g,0,none⟩) 32 c) Ud/\32<=c
 | 7,v,_=>v=.agg #[.int .u32 5,.int .u32 2]
 | 8,v,W=>∃ g,v=.slice (some ⟨g,0,none⟩) 1 1/\HWd W g [(5,2)]
 | 9,v,W=>∃ g c,v=.slice (some ⟨g,0,none⟩) 32 c/\Q8 W (.slice (some ⟨g,0,none⟩) 32 c) toL/\32<=c
 | 10,v,W=>∃ g c h d,v=.agg #[.slice (some ⟨g,0,none⟩) 32 c,.slice (some ⟨h,0,none⟩) 32 d]/\Q8 W (.slice (some ⟨g,0,none⟩) 32 c) Ud/\32<=c/\Q8 W (.slice (some ⟨h,0,none⟩) 32 d) toL/\32<=d
 | 11,v,W=>∃ k g c h d,v=.slice (some ⟨k,0,none⟩) 1 1/\W.heap[k]?=some (.cells #[.slice (some ⟨g,0,none⟩) 32 c,.slice (some ⟨h,0,none⟩) 32 d] 105 (0,0))/\Q8 W (.slice (some ⟨g,0,none⟩) 32 c) Ud/\32<=c/\Q8 W (.slice (some ⟨h,0,none⟩) 32 d) toL/\32<=d
 | 12,v,W=>∃ xo xc B,v=.tuple #[.slice xo 2 xc,.bool B,.int .i64 0]/\Rd W (.slice xo 2 xc) 2 1 (Qi [1,0])
 | 13,v,W=>∃ xo xc B,v=.tuple #[.slice xo 2 xc,.bool B,.int .i64 0]/\Rd W (.slice xo 2 xc) 2 1 (Qi [1,0])
 | 14,v,W=>∃ xo xc,v=.slice xo 2 xc/\Rd W (.slice xo 2 xc) 2 1 (Qi [1,0])
 | 15,v,_=>∃ B,v=.bool B
 | 16,v,_=>v=.int .i64 0
 | 17,v,W=>∃ xo xc,v=.slice xo 2 xc/\Rd W (.slice xo 2 xc) 2 1 (Qi [1,0])
 | 18,v,_=>∃ B,v=.bool B
 | 19,v,_=>v=.int .i64 0
 | _,_,_=>True
theorem Q28{GO:Nat}:∀(i:Nat) (v:Value) (W W':World),Yf GO i v W->Ext W W'->Yf GO i v W'
 | 0,_,_,_,h,_=>h
 | 1,_,_,_,⟨g,h1,h2⟩,ht=>⟨g,h1,h2.ext ht⟩
 | 2,_,_,_,⟨g,g1,h1,h2,h3,h4⟩,ht=>⟨g,g1,h1,ht.keep h2,h3.ext ht,h4.ext ht⟩
 | 3,_,_,_,⟨g,h1,h2⟩,ht=>⟨g,h1,ht.keep h2⟩
 | 4,_,_,_,h,_=>h
 | 5,_,_,_,⟨g,h1,h2⟩,ht=>⟨g,h1,ht.keep h2⟩
 | 6,_,_,_,⟨g,c,h1,h2,h3⟩,ht=>⟨g,c,h1,h2.ext ht,h3⟩
 | 7,_,_,_,h,_=>h
 | 8,_,_,_,⟨g,h1,h2⟩,ht=>⟨g,h1,ht.keep h2⟩
 | 9,_,_,_,⟨g,c,h1,h2,h3⟩,ht=>⟨g,c,h1,h2.ext ht,h3⟩
 | 10,_,_,_,⟨g,c,h,d,h1,h2,h3,h4,h5⟩,ht=>⟨g,c,h,d,h1,h2.ext ht,h3,h4.ext ht,h5⟩
 | 11,_,_,_,⟨k,g,c,h,d,h1,h0,h2,h3,h4,h5⟩,ht=>⟨k,g,c,h,d,h1,ht.keep h0,h2.ext ht,h3,h4.ext ht,h5⟩
 | 12,_,_,_,⟨xo,xc,B,h1,h2⟩,ht=>⟨xo,xc,B,h1,h2.ext ht⟩
 | 13,_,_,_,⟨xo,xc,B,h1,h2⟩,ht=>⟨xo,xc,B,h1,h2.ext ht⟩
 | 14,_,_,_,⟨xo,xc,h1,h2⟩,ht=>⟨xo,xc,h1,h2.ext ht⟩
 | 15,_,_,_,h,_=>h
 | 16,_,_,_,h,_=>h
 | 17,_,_,_,⟨xo,xc,h1,h2⟩,ht=>⟨xo,xc,h1,h2.ext ht⟩
 | 18,_,_,_,h,_=>h
 | 19,_,_,_,h,_=>h
 | _+20,_,_,_,_,_=>trivial
theorem Rt{W:World}{a k b j g c h d:Nat}(o:W.heap[k]?=some (.cells #[.string ⟨#[88]⟩,.int .i64 2,.int .u32 0,.int .u32 0,.bool false,.int .i64 0,.int .i64 0,.slice none 0 0,.int .i64 0,.int .u32 0,.int .u32 0,.bool false,.int .i64 0,.int .i64 0,.slice none 0 0,.slice none 0 0,.slice (some ⟨a,0,none⟩) 1 1,.int .i64 1,.string ⟨#[70]⟩,.int .i64 0,.int .u32 0,.int .u32 0,.bool false,.int .i64 0,.int .i64 0,.slice none 0 0,.int .i64 6,.int .u32 0,.int .u32 0,.bool false,.int .i64 0,.int .i64 0,.slice none 0 0,.slice (some ⟨b,0,none⟩) 1 1,.slice none 0 0,.int .i64 1] 102 (0,0))) (m:Z2 W Je [.string ⟨#[88]⟩,.int .i64 2,.int .u32 0,.int .u32 0,.bool false,.int .i64 0,.int .i64 0,.slice none 0 0,.int .i64 0,.int .u32 0,.int .u32 0,.bool false,.int .i64 0,.int .i64 0,.slice none 0 0,.slice none 0 0,.slice (some ⟨a,0,none⟩) 1 1,.int .i64 1]) (n:Z2 W fD [.string ⟨#[70]⟩,.int .i64 0,.int .u32 0,.int .u32 0,.bool false,.int .i64 0,.int .i64 0,.slice none 0 0,.int .i64 6,.int .u32 0,.int .u32 0,.bool false,.int .i64 0,.int .i64 0,.slice none 0 0,.slice (some ⟨b,0,none⟩) 1 1,.slice none 0 0,.int .i64 1])
  (r:W.heap[j]?=some (.cells #[.slice (some ⟨g,0,none⟩) 32 c,.slice (some ⟨h,0,none⟩) 32 d] 105 (0,0))) (x:Q8 W (.slice (some ⟨g,0,none⟩) 32 c) Ud) (i:32<=c) (y:Q8 W (.slice (some ⟨h,0,none⟩) 32 d) toL) (t:32<=d) (s:Tab W) :
  Calls Tryz.prog 37 #[.slice (some ⟨k,0,none⟩) 2 2,.slice (some ⟨j,0,none⟩) 1 1] W fun e w'=>∃ xo xc B,e=.returned (.tuple #[.slice xo 2 xc,.bool B,.int .i64 0])/\Rd w' (.slice xo 2 xc) 2 1 (Qi [1,0])/\Ext W w':=by
 have u:=Ca o m n;have v:Zu W (.slice (some ⟨g,0,none⟩) 32 c) Ud:=⟨_,c,rfl,x,i⟩;have w:Zu W (.slice (some ⟨h,0,none⟩) 32 d) toL:=⟨_,d,rfl,y,t⟩
 have f:Qu W (.slice (some ⟨j,0,none⟩) 1 1) [((Ud,toL),[.slice (some ⟨g,0,none⟩) 32 c,.slice (some ⟨h,0,none⟩) 32 d])]:=⟨Qn (xs:=[.slice (some ⟨g,0,none⟩) 32 c,.slice (some ⟨h,0,none⟩) 32 d]) r rfl zd,fun p f=>by
  simp only [List.mem_cons,List.not_mem_nil,or_false] at f;subst f;exact⟨rfl,_,_,rfl,v,w⟩⟩
 have i:=Ku u rfl f rfl s;obtain⟨z,C⟩:=Q6b (qs:=[((Ud,toL),[.slice (some ⟨g,0,none⟩) 32 c,.slice (some ⟨h,0,none⟩) 32 d])]) rfl;refine i.mono ?_;rintro e w' ⟨xo,xc,rfl,l,q⟩;have A:Xx (List.map (·.1) ([(Je,[.string ⟨#[88]⟩,.int .i64 2,.int .u32 0,.int .u32 0,.bool false,.int .i64 0,.int .i64 0,.slice none 0 0,.int .i64 0,.int .u32 0,.int .u32 0,.bool false,.int .i64 0,.int .i64 0,.slice none 0 0,.slice none 0 0,.slice (some ⟨a,0,none⟩) 1 1,.int .i64 1]),(fD,[.string ⟨#[70]⟩,.int .i64 0,.int .u32 0,.int .u32 0,.bool false,.int .i64 0,.int .i64 0,.slice none 0 0,.int .i64 6,.int .u32 0,.int .u32 0,.bool false,.int .i64 0,.int .i64 0,.slice none 0 0,.slice (some ⟨b,0,none⟩) 1 1,.slice none 0 0,.int .i64 1])]:Qy)) [((Ud,toL),[.slice (some ⟨g,0,none⟩) 32 c,.slice (some ⟨h,0,none⟩) 32 d])]=[1,0]:=z;have D:Qh (List.map (·.1) ([(Je,[.string ⟨#[88]⟩,.int .i64 2,.int .u32 0,.int .u32 0,.bool false,.int .i64 0,.int .i64 0,.slice none 0 0,.int .i64 0,.int .u32 0,.int .u32 0,.bool false,.int .i64 0,.int .i64 0,.slice none 0 0,.slice none 0 0,.slice (some ⟨a,0,none⟩) 1 1,.int .i64 1]),(fD,[.string ⟨#[70]⟩,.int .i64 0,.int .u32 0,.int .u32 0,.bool false,.int .i64 0,.int .i64 0,.slice none 0 0,.int .i64 6,.int .u32 0,.int .u32 0,.bool false,.int .i64 0,.int .i64 0,.slice none 0 0,.slice (some ⟨b,0,none⟩) 1 1,.slice none 0 0,.int .i64 1])]:Qy)) (List.map (·.1) ([((Ud,toL),[.slice (some ⟨g,0,none⟩) 32 c,.slice (some ⟨h,0,none⟩) 32 d])]:Qa))=0:=C;rw [A] at l ⊢;rw [D];exact⟨xo,xc,_,rfl,l,q⟩
def Np:Nat->Code->Code
 | n+1,.seq _ b=>Np n b
 | _,c=>c
noncomputable def Q2h:Code:=match Tryz.f11.body with
 | some c=>c
 | none=>.skip
theorem Cv(w:World)(b8:Tab w):Calls Tryz.prog 33 #[] w fun e w'=>e=.returned (.bool true)/\Ext w w':=by
 go_enter Tryz.func33,Tryz.ntmps33;have l5:Ext w w:=Q1.refl _ _;go_wp2_with fail;refine(Sq _).mono ?_;rintro e l2 ⟨N,O,rfl,q2,c⟩;have l6:Ext w l2:=l5.trans c;have u4:=c;have k3:Hid (∀ a,Ext l2 a->Z2 a vD [.string ⟨#[86]⟩,.int .i64 1,.int .u32 4,.int .u32 0,.bool false,.int .i64 0,.int .i64 0,.slice none 0 0,.int .i64 1,.int .u32 4,.int .u32 0,.bool false,.int .i64 0,.int .i64 0,.slice none 0 0,.slice (some ⟨N,0,none⟩) 1 1,.slice (some ⟨O,0,none⟩) 1 1,.int .i64 1]):=Zh (fun a f=>q2.ext f);clear q2;clear c;go_wp2_with fail;refine(Mk _).mono ?_;rintro e l4 ⟨P,rfl,q3,c⟩;have m3:Ext w l4:=l6.trans c;have u7:=c;have k4:Hid (∀ a,Ext l4 a->Z2 a fD [.string ⟨#[70]⟩,.int .i64 0,.int .u32 0,.int .u32 0,.bool false,.int .i64 0,.int .i64 0,.slice none 0 0,.int .i64 6,.int .u32 0,.int .u32 0,.bool false,.int .i64 0,.int .i64 0,.slice none 0 0,.slice (some ⟨P,0,none⟩) 1 1,.slice none 0 0,.int .i64 1]):=Zh (fun a f=>q3.ext f);clear q3;have r0:=c;clear c;go_wp2_with fail;refine(Q7w _).mono ?_;rintro e b1 ⟨Q,R,rfl,q4,c⟩;have n3:Ext w b1:=m3.trans c;have w1:=c;have k5:Hid (∀ a,Ext b1 a->Z2 a uD [.string ⟨#[85]⟩,.int .i64 0,.int .u32 0,.int .u32 0,.bool false,.int .i64 0,.int .i64 0,.slice none 0 0,.int .i64 6,.int .u32 0,.int .u32 0,.bool false,.int .i64 0,.int .i64 0,.slice none 0 0,.slice (some ⟨Q,0,none⟩) 1 1,.slice (some ⟨R,0,none⟩) 1 1,.int .i64 1]):=Zh (fun a f=>q4.ext f);clear q4;have a7:=c;clear c;obtain⟨T,f5⟩:=zE (b1.alloc (.cells #[.string ⟨#[86]⟩,.int .i64 1,.int .u32 4,.int .u32 0,.bool false,.int .i64 0,.int .i64 0,.slice none 0 0,.int .i64 1,.int .u32 4,.int .u32 0,.bool false,.int .i64 0,.int .i64 0,.slice none 0 0,.slice (some ⟨N,0,none⟩) 1 1,.slice (some ⟨O,0,none⟩) 1 1,.int .i64 1,.string ⟨#[70]⟩,.int .i64 0,.int .u32 0,.int .u32 0,.bool false,.int .i64 0,.int .i64 0,.slice none 0 0,.int .i64 6,.int .u32 0,.int .u32 0,.bool false,.int .i64 0,.int .i64 0,.slice none 0 0,.slice (some ⟨P,0,none⟩) 1 1,.slice none 0 0,.int .i64 1,.string ⟨#[85]⟩,.int .i64 0,.int .u32 0,.int .u32 0,.bool false,.int .i64 0,.int .i64 0,.slice none 0 0,.int .i64 6,.int .u32 0,.int .u32 0,.bool false,.int .i64 0,.int .i64 0,.slice none 0 0,.slice (some ⟨Q,0,none⟩) 1 1,.slice (some ⟨R,0,none⟩) 1 1,.int .i64 1] 102));have n8:Ext w T:=by rw [<-f5];exact n3.alloc _
 have j2:T.heap[b1.heap.size]?=some (.cells #[.string ⟨#[86]⟩,.int .i64 1,.int .u32 4,.int .u32 0,.bool false,.int .i64 0,.int .i64 0,.slice none 0 0,.int .i64 1,.int .u32 4,.int .u32 0,.bool false,.int .i64 0,.int .i64 0,.slice none 0 0,.slice (some ⟨N,0,none⟩) 1 1,.slice (some ⟨O,0,none⟩) 1 1,.int .i64 1,.string ⟨#[70]⟩,.int .i64 0,.int .u32 0,.int .u32 0,.bool false,.int .i64 0,.int .i64 0,.slice none 0 0,.int .i64 6,.int .u32 0,.int .u32 0,.bool false,.int .i64 0,.int .i64 0,.slice none 0 0,.slice (some ⟨P,0,none⟩) 1 1,.slice none 0 0,.int .i64 1,.string ⟨#[85]⟩,.int .i64 0,.int .u32 0,.int .u32 0,.bool false,.int .i64 0,.int .i64 0,.slice none 0 0,.int .i64 6,.int .u32 0,.int .u32 0,.bool false,.int .i64 0,.int .i64 0,.slice none 0 0,.slice (some ⟨Q,0,none⟩) 1 1,.slice (some ⟨R,0,none⟩) 1 1,.int .i64 1] 102 (0,0)):=by rw [<-f5];exact Q3 rfl
 have d6:Ext b1 T:=by rw [<-f5];exact(Q1.refl _ b1).alloc _
 have w6:=d6;obtain⟨k0,p3⟩:=zE b1.heap.size;rw [p3] at j2
 have d3:Z9 T (.slice (some ⟨k0,0,none⟩) 3 3) [(vD,[.string ⟨#[86]⟩,.int .i64 1,.int .u32 4,.int .u32 0,.bool false,.int .i64 0,.int .i64 0,.slice none 0 0,.int .i64 1,.int .u32 4,.int .u32 0,.bool false,.int .i64 0,.int .i64 0,.slice none 0 0,.slice (some ⟨N,0,none⟩) 1 1,.slice (some ⟨O,0,none⟩) 1 1,.int .i64 1]),(fD,[.string ⟨#[70]⟩,.int .i64 0,.int .u32 0,.int .u32 0,.bool false,.int .i64 0,.int .i64 0,.slice none 0 0,.int .i64 6,.int .u32 0,.int .u32 0,.bool false,.int .i64 0,.int .i64 0,.slice none 0 0,.slice (some ⟨P,0,none⟩) 1 1,.slice none 0 0,.int .i64 1]),(uD,[.string ⟨#[85]⟩,.int .i64 0,.int .u32 0,.int .u32 0,.bool false,.int .i64 0,.int .i64 0,.slice none 0 0,.int .i64 6,.int .u32 0,.int .u32 0,.bool false,.int .i64 0,.int .i64 0,.slice none 0 0,.slice (some ⟨Q,0,none⟩) 1 1,.slice (some ⟨R,0,none⟩) 1 1,.int .i64 1])]:=⟨Qn (xs:=[.string ⟨#[86]⟩,.int .i64 1,.int .u32 4,.int .u32 0,.bool false,.int .i64 0,.int .i64 0,.slice none 0 0,.int .i64 1,.int .u32 4,.int .u32 0,.bool false,.int .i64 0,.int .i64 0,.slice none 0 0,.slice (some ⟨N,0,none⟩) 1 1,.slice (some ⟨O,0,none⟩) 1 1,.int .i64 1,.string ⟨#[70]⟩,.int .i64 0,.int .u32 0,.int .u32 0,.bool false,.int .i64 0,.int .i64 0,.slice none 0 0,.int .i64 6,.int .u32 0,.int .u32 0,.bool false,.int .i64 0,.int .i64 0,.slice none 0 0,.slice (some ⟨P,0,none⟩) 1 1,.slice none 0 0,.int .i64 1,.string ⟨#[85]⟩,.int .i64 0,.int .u32 0,.int .u32 0,.bool false,.int .i64 0,.int .i64 0,.slice none 0 0,.int .i64 6,.int .u32 0,.int .u32 0,.bool false,.int .i64 0,.int .i64 0,.slice none 0 0,.slice (some ⟨Q,0,none⟩) 1 1,.slice (some ⟨R,0,none⟩) 1 1,.int .i64 1]) j2 rfl zd,fun p z=>by
  simp only [List.mem_cons,List.not_mem_nil,or_false] at z;rcases z with rfl | rfl | rfl
  ·exact k3.out _ (r0.trans (a7.trans d6))
  ·exact k4.out _ (a7.trans d6)
  ·exact k5.out _ d6⟩
 have b4:Hid (∀ a,Ext T a->Z9 a (.slice (some ⟨k0,0,none⟩) 3 3) [(vD,[.string ⟨#[86]⟩,.int .i64 1,.int .u32 4,.int .u32 0,.bool false,.int .i64 0,.int .i64 0,.slice none 0 0,.int .i64 1,.int .u32 4,.int .u32 0,.bool false,.int .i64 0,.int .i64 0,.slice none 0 0,.slice (some ⟨N,0,none⟩) 1 1,.slice (some ⟨O,0,none⟩) 1 1,.int .i64 1]),(fD,[.string ⟨#[70]⟩,.int .i64 0,.int .u32 0,.int .u32 0,.bool false,.int .i64 0,.int .i64 0,.slice none 0 0,.int .i64 6,.int .u32 0,.int .u32 0,.bool false,.int .i64 0,.int .i64 0,.slice none 0 0,.slice (some ⟨P,0,none⟩) 1 1,.slice none 0 0,.int .i64 1]),(uD,[.string ⟨#[85]⟩,.int .i64 0,.int .u32 0,.int .u32 0,.bool false,.int .i64 0,.int .i64 0,.slice none 0 0,.int .i64 6,.int .u32 0,.int .u32 0,.bool false,.int .i64 0,.int .i64 0,.slice none 0 0,.slice (some ⟨Q,0,none⟩) 1 1,.slice (some ⟨R,0,none⟩) 1 1,.int .i64 1])]):=Zh (fun a f=>d3.ext f);clear d3 k3 k4 k5 r0 a7 d6;go_wp2_with fail;refine(Xs _).mono ?_;rintro e t2 ⟨rfl,c⟩;have n9:Ext w t2:=n8.trans c;have t5:=c;clear f5 p3 j2;clear c;go_wp2_with fail;refine(Q2m _).mono ?_;rintro e b6 ⟨rfl,c⟩;have o0:Ext w b6:=n9.trans c;have t6:=c;clear c;obtain⟨e1,f6⟩:=zE (b6.alloc (.cells #[.int .u32 5,.int .u32 2,.int .u32 3,.int .u32 4] 95));have o1:Ext w e1:=by rw [<-f6];exact o0.alloc _
 have i4:e1.heap[b6.heap.size]?=some (.cells #[.int .u32 5,.int .u32 2,.int .u32 3,.int .u32 4] 95 (0,0)):=by rw [<-f6];exact Q3 rfl
 have r1:Ext b6 e1:=by rw [<-f6];exact(Q1.refl _ b6).alloc _
 have t7:=r1;obtain⟨j,o5⟩:=zE b6.heap.size;rw [o5] at i4;have a8:Hid (∀ a,Ext e1 a->Q8 a (.slice (some ⟨j,0,none⟩) 2 2) abO):=Zh (fun a f=>Q8.ext ⟨Qn (xs:=Qw abO) i4 rfl zd,by simp [Zt]⟩ f);clear r1;go_wp2_with fail;refine(V8 _ _ _ _).mono ?_;rintro e a6 ⟨k,rfl,d2,c⟩;have o2:Ext w a6:=o1.trans c;have t8:=c;have b7:Hid (∀ a,Ext a6 a->Q8 a (.slice (some ⟨k,0,none⟩) 3 3) Qe):=Zh (fun a f=>d2.ext f);have a8:Hid (∀ a,Ext a6 a->Q8 a (.slice (some ⟨j,0,none⟩) 2 2) abO):=Zh (fun a f=>a8.out a (c.trans f));clear c d2;clear f6 o5 i4;obtain⟨F,f7⟩:=zE (a6.alloc (.cells #[.slice (some ⟨k,0,none⟩) 3 3,.slice (some ⟨j,0,none⟩) 2 2] 105));have o3:Ext w F:=by rw [<-f7];exact o2.alloc _
 have e4:F.heap[a6.heap.size]?=some (.cells #[.slice (some ⟨k,0,none⟩) 3 3,.slice (some ⟨j,0,none⟩) 2 2] 105 (0,0)):=by rw [<-f7];exact Q3 rfl
 have c1:Ext a6 F:=by rw [<-f7];exact(Q1.refl _ a6).alloc _
 have t9:=c1;obtain⟨d9,p6⟩:=zE a6.heap.size;rw [p6] at e4
 have z:Qu F (.slice (some ⟨d9,0,none⟩) 1 1) [((Qe,abO),[.slice (some ⟨k,0,none⟩) 3 3,.slice (some ⟨j,0,none⟩) 2 2])]:=⟨Qn (xs:=[.slice (some ⟨k,0,none⟩) 3 3,.slice (some ⟨j,0,none⟩) 2 2]) e4 rfl zd,fun p z=>by
  simp only [List.mem_cons,List.not_mem_nil,or_false] at z;subst z;exact⟨rfl,_,_,rfl,⟨_,3,rfl,b7.out _ c1,Nat.le_refl 3⟩,⟨_,2,rfl,a8.out _ c1,Nat.le_refl 2⟩⟩⟩
 have c6:Hid (∀ a,Ext F a->Qu a (.slice (some ⟨d9,0,none⟩) 1 1) [((Qe,abO),[.slice (some ⟨k,0,none⟩) 3 3,.slice (some ⟨j,0,none⟩) 2 2])]):=Zh (fun a f=>Zc z f);have k2:Hid (∀ a,Ext F a->a.heap[d9]?=some (.cells #[.slice (some ⟨k,0,none⟩) 3 3,.slice (some ⟨j,0,none⟩) 2 2] 105 (0,0))):=Zh (fun a f=>Ext.keep f e4);have a8:Hid (∀ a,Ext F a->Q8 a (.slice (some ⟨j,0,none⟩) 2 2) abO):=Zh (fun a f=>a8.out a (c1.trans f));have b7:Hid (∀ a,Ext F a->Q8 a (.slice (some ⟨k,0,none⟩) 3 3) Qe):=Zh (fun a f=>b7.out a (c1.trans f));clear z e4 c1;go_wp2_with fail;refine(Xs _).mono ?_;rintro e t0 ⟨rfl,c⟩;have l7:Ext w t0:=o3.trans c;have r2:=c;clear f7 p6;clear c;go_wp2_with fail;refine(Gb _).mono ?_;rintro e b5 ⟨rfl,c⟩;have l8:Ext w b5:=l7.trans c;have r3:=c;clear c;obtain⟨e0,e5⟩:=zE (b5.alloc (.cells #[.int .u32 5,.int .u32 2,.int .u32 2,.int .u32 5] 95));have l9:Ext w e0:=by rw [<-e5];exact l8.alloc _
 have i6:e0.heap[b5.heap.size]?=some (.cells #[.int .u32 5,.int .u32 2,.int .u32 2,.int .u32 5] 95 (0,0)):=by rw [<-e5];exact Q3 rfl
 have q9:Ext b5 e0:=by rw [<-e5];exact(Q1.refl _ b5).alloc _
 have r4:=q9;obtain⟨t,o7⟩:=zE b5.heap.size;rw [o7] at i6;have b3:Hid (∀ a,Ext e0 a->Q8 a (.slice (some ⟨t,0,none⟩) 2 2) apO):=Zh (fun a f=>Q8.ext ⟨Qn (xs:=Qw apO) i6 rfl zd,by simp [Zt]⟩ f);clear q9;go_wp2_with fail;refine(V8 _ _ _ _).mono ?_;rintro e a0 ⟨u,rfl,d2,c⟩;have m0:Ext w a0:=l9.trans c;have r5:=c;have c9:Hid (∀ a,Ext a0 a->Q8 a (.slice (some ⟨u,0,none⟩) 3 3) Qe):=Zh (fun a f=>d2.ext f);have b3:Hid (∀ a,Ext a0 a->Q8 a (.slice (some ⟨t,0,none⟩) 2 2) apO):=Zh (fun a f=>b3.out a (c.trans f));clear c d2;clear e5 o7 i6;obtain⟨o,e6⟩:=zE (a0.alloc (.cells #[.slice (some ⟨u,0,none⟩) 3 3,.slice (some ⟨t,0,none⟩) 2 2] 105));have e2:Ext w o:=by rw [<-e6];exact m0.alloc _
 have i3:o.heap[a0.heap.size]?=some (.cells #[.slice (some ⟨u,0,none⟩) 3 3,.slice (some ⟨t,0,none⟩) 2 2] 105 (0,0)):=by rw [<-e6];exact Q3 rfl
 have g0:Ext a0 o:=by rw [<-e6];exact(Q1.refl _ a0).alloc _
 have r6:=g0;obtain⟨j8,o4⟩:=zE a0.heap.size;rw [o4] at i3;have k1:Hid (∀ a,Ext o a->a.heap[j8]?=some (.cells #[.slice (some ⟨u,0,none⟩) 3 3,.slice (some ⟨t,0,none⟩) 2 2] 105 (0,0))):=Zh (fun a f=>Ext.keep f i3);have b3:Hid (∀ a,Ext o a->Q8 a (.slice (some ⟨t,0,none⟩) 2 2) apO):=Zh (fun a f=>b3.out a (g0.trans f));have c9:Hid (∀ a,Ext o a->Q8 a (.slice (some ⟨u,0,none⟩) 3 3) Qe):=Zh (fun a f=>c9.out a (g0.trans f));go_upto_region 3 with (fail)
 clear e6 o4 i3 g0;have D:Ext T o:=(t5.trans (t6.trans (t7.trans (t8.trans (t9.trans (r2.trans (r3.trans (r4.trans (r5.trans r6)))))))));have r:Ext F o:=(r2.trans (r3.trans (r4.trans (r5.trans r6))))
 go_cut [4,5,6] from 30 to 40 (fun v4 v5 v6 wx=>v4=.int .i64 1/\v5=.bool true/\v6=.int .i64 0/\Ext o wx)
 case first=>
  have I:Ext o o.drew:=(Q1.refl _ o).drew;refine Z5 (S:=fun a=>Ext o a) [] kz I ?_;intro _;obtain⟨Z,p7⟩:=zE o.drew;rw [p7] at I ⊢;clear p7;refine tE 0 30 I ?_;refine tkE (i:=2) (d:=32) (v:=?_) rfl (Or.inl ⟨by rfl,?_⟩) I ?_;rotate_left
  ·intro a f;have j5:=k1.out a (show Ext o a from f);refine X7 (x:=.tmp 3) ?_ j8 ?_ _ _ _ j5 Tryz.underlying105 Yb <;> rfl
  try simp only [Act.put,pq]
  refine tE 3 33 I ?_;refine tE 4 34 I ?_;refine tkE (i:=5) (d:=35) (v:=?_) rfl (Or.inl ⟨by rfl,?_⟩) I ?_;rotate_left
  ·intro a f;have j5:=k2.out a (r.trans (show Ext o a from f));refine X7 (x:=.tmp 34) ?_ d9 ?_ _ _ _ j5 Tryz.underlying105 Yb <;> rfl
  try simp only [Act.put,pq]
  refine rE [1,6] ?_;refine Q2.cons rfl (fun K hK=>?_) (Q2.cons rfl (fun K hK=>?_) Q2.nil)
  ·refine iw rfl ?_;go_simp;obtain⟨y,n⟩:=zE (Z.alloc (.cells #[.int .i64 0,.int .i64 1,.int .i64 2] 3));have B:y.heap[Z.heap.size]?=some (.cells #[.int .i64 0,.int .i64 1,.int .i64 2] 3 (0,0)):=by rw [<-n];exact Q3 rfl
   have J:Ext o y:=by rw [<-n];exact I.alloc _
   rw [n];obtain⟨g4,d0⟩:=zE Z.heap.size;rw [d0] at B ⊢;have g6:Hid (∀ a,Ext y a->Rd a (.slice (some ⟨g4,0,none⟩) 3 3) 3 1 (Z7 [0,1,2])):=Zh (fun a f=>(Qn (xs:=Z7 [0,1,2]) B rfl zd).ext f);have t3:Ext Z y:=by rw [<-n];exact(Q1.refl _ _).alloc _
   clear n B d0;refine hK _ _ J (fun _=>?_);clear hK K;try simp only [Act.put,pq]
   refine rE [6] ?_;refine Q2.cons rfl (fun K hK=>?_) Q2.nil;refine iw rfl ?_;go_simp;obtain⟨H,n⟩:=zE (y.alloc (.cells #[.slice (some ⟨u,0,none⟩) 3 3,.slice (some ⟨t,0,none⟩) 2 2,.slice (some ⟨k,0,none⟩) 3 3,.slice (some ⟨j,0,none⟩) 2 2] 105));have B:H.heap[y.heap.size]?=some (.cells #[.slice (some ⟨u,0,none⟩) 3 3,.slice (some ⟨t,0,none⟩) 2 2,.slice (some ⟨k,0,none⟩) 3 3,.slice (some ⟨j,0,none⟩) 2 2] 105 (0,0)):=by rw [<-n];exact Q3 rfl
   have C:Ext o H:=by rw [<-n];exact J.alloc _
   rw [n];obtain⟨c5,d1⟩:=zE y.heap.size;rw [d1] at B ⊢
   have g7:Hid (∀ a,Ext H a->Qu a (.slice (some ⟨c5,0,none⟩) 2 2) [((Qe,apO),[.slice (some ⟨u,0,none⟩) 3 3,.slice (some ⟨t,0,none⟩) 2 2]),((Qe,abO),[.slice (some ⟨k,0,none⟩) 3 3,.slice (some ⟨j,0,none⟩) 2 2])]):=Zh (fun a f=>Zc (v:=.slice (some ⟨c5,0,none⟩) 2 2) ⟨Qn (xs:=[.slice (some ⟨u,0,none⟩) 3 3,.slice (some ⟨t,0,none⟩) 2 2,.slice (some ⟨k,0,none⟩) 3 3,.slice (some ⟨j,0,none⟩) 2 2]) B rfl zd,fun p z=>by
    simp only [List.mem_cons,List.not_mem_nil,or_false] at z;rcases z with rfl | rfl
    ·exact⟨rfl,_,_,rfl,⟨_,3,rfl,c9.out _ C,Nat.le_refl 3⟩,⟨_,2,rfl,b3.out _ C,Nat.le_refl 2⟩⟩
    ·exact⟨rfl,_,_,rfl,⟨_,3,rfl,b7.out _ (r.trans C),Nat.le_refl 3⟩,⟨_,2,rfl,a8.out _ (r.trans C),Nat.le_refl 2⟩⟩⟩ f)
   have j6:Ext y H:=by rw [<-n];exact(Q1.refl _ _).alloc _
   clear n B d1;refine hK _ _ C (fun _=>?_);clear hK K;try simp only [Act.put,pq]
   refine rE [7] ?_;refine Q2.cons rfl (fun K hK=>?_) Q2.nil;refine iw rfl ?_;go_simp;have l:=Ch (qs:=[((Qe,apO),[.slice (some ⟨u,0,none⟩) 3 3,.slice (some ⟨t,0,none⟩) 2 2]),((Qe,abO),[.slice (some ⟨k,0,none⟩) 3 3,.slice (some ⟨j,0,none⟩) 2 2])]) rfl;have g:=Hk (w:=H) (ps:=[(vD,[.string ⟨#[86]⟩,.int .i64 1,.int .u32 4,.int .u32 0,.bool false,.int .i64 0,.int .i64 0,.slice none 0 0,.int .i64 1,.int .u32 4,.int .u32 0,.bool false,.int .i64 0,.int .i64 0,.slice none 0 0,.slice (some ⟨N,0,none⟩) 1 1,.slice (some ⟨O,0,none⟩) 1 1,.int .i64 1]),(fD,[.string ⟨#[70]⟩,.int .i64 0,.int .u32 0,.int .u32 0,.bool false,.int .i64 0,.int .i64 0,.slice none 0 0,.int .i64 6,.int .u32 0,.int .u32 0,.bool false,.int .i64 0,.int .i64 0,.slice none 0 0,.slice (some ⟨P,0,none⟩) 1 1,.slice none 0 0,.int .i64 1]),(uD,[.string ⟨#[85]⟩,.int .i64 0,.int .u32 0,.int .u32 0,.bool false,.int .i64 0,.int .i64 0,.slice none 0 0,.int .i64 6,.int .u32 0,.int .u32 0,.bool false,.int .i64 0,.int .i64 0,.slice none 0 0,.slice (some ⟨Q,0,none⟩) 1 1,.slice (some ⟨R,0,none⟩) 1 1,.int .i64 1])]) (qs:=[((Qe,apO),[.slice (some ⟨u,0,none⟩) 3 3,.slice (some ⟨t,0,none⟩) 2 2]),((Qe,abO),[.slice (some ⟨k,0,none⟩) 3 3,.slice (some ⟨j,0,none⟩) 2 2])]) (xs:=[0,1,2]) (b4.out _ (D.trans C)) rfl (g6.out _ j6) rfl (g7.out _ (Q1.refl _ _)) rfl (b8.keep (e2.trans C) id);simp only [List.map_cons,List.map_nil] at g l;rw [l.1,l.2.1,l.2.2] at g;have m:=Zh g;clear g l;refine m.out.mono ?_;rintro e g8 ⟨rfl,c⟩;have q:Ext o g8:=C.trans c;clear c m;refine hK _ _ q (fun _=>?_);clear hK K;try simp only [Act.put,pq]
   refine tE 8 29 q ?_;refine tE 9 38 q ?_;refine tE 10 39 q ?_;refine tE 11 40 q ?_;refine tE 12 4 q ?_;refine tE 13 5 q ?_;refine tE 14 6 q ?_;refine Qm kz ?_ _;have g5:=Zh q;clear q C J I;go_wp2
   go_meet
   case rel=>exact⟨rfl,rfl,rfl,g5.out⟩
  ·refine iw rfl ?_;go_simp;obtain⟨y,n⟩:=zE (Z.alloc (.cells #[.slice (some ⟨u,0,none⟩) 3 3,.slice (some ⟨t,0,none⟩) 2 2,.slice (some ⟨k,0,none⟩) 3 3,.slice (some ⟨j,0,none⟩) 2 2] 105));have B:y.heap[Z.heap.size]?=some (.cells #[.slice (some ⟨u,0,none⟩) 3 3,.slice (some ⟨t,0,none⟩) 2 2,.slice (some ⟨k,0,none⟩) 3 3,.slice (some ⟨j,0,none⟩) 2 2] 105 (0,0)):=by rw [<-n];exact Q3 rfl
   have J:Ext o y:=by rw [<-n];exact I.alloc _
   rw [n];obtain⟨c5,d1⟩:=zE Z.heap.size;rw [d1] at B ⊢
   have g7:Hid (∀ a,Ext y a->Qu a (.slice (some ⟨c5,0,none⟩) 2 2) [((Qe,apO),[.slice (some ⟨u,0,none⟩) 3 3,.slice (some ⟨t,0,none⟩) 2 2]),((Qe,abO),[.slice (some ⟨k,0,none⟩) 3 3,.slice (some ⟨j,0,none⟩) 2 2])]):=Zh (fun a f=>Zc (v:=.slice (some ⟨c5,0,none⟩) 2 2) ⟨Qn (xs:=[.slice (some ⟨u,0,none⟩) 3 3,.slice (some ⟨t,0,none⟩) 2 2,.slice (some ⟨k,0,none⟩) 3 3,.slice (some ⟨j,0,none⟩) 2 2]) B rfl zd,fun p z=>by
    simp only [List.mem_cons,List.not_mem_nil,or_false] at z;rcases z with rfl | rfl
    ·exact⟨rfl,_,_,rfl,⟨_,3,rfl,c9.out _ J,Nat.le_refl 3⟩,⟨_,2,rfl,b3.out _ J,Nat.le_refl 2⟩⟩
    ·exact⟨rfl,_,_,rfl,⟨_,3,rfl,b7.out _ (r.trans J),Nat.le_refl 3⟩,⟨_,2,rfl,a8.out _ (r.trans J),Nat.le_refl 2⟩⟩⟩ f)
   have t3:Ext Z y:=by rw [<-n];exact(Q1.refl _ _).alloc _
   clear n B d1;refine hK _ _ J (fun _=>?_);clear hK K;try simp only [Act.put,pq]
   refine rE [1] ?_;refine Q2.cons rfl (fun K hK=>?_) Q2.nil;refine iw rfl ?_;go_simp;obtain⟨H,n⟩:=zE (y.alloc (.cells #[.int .i64 0,.int .i64 1,.int .i64 2] 3));have B:H.heap[y.heap.size]?=some (.cells #[.int .i64 0,.int .i64 1,.int .i64 2] 3 (0,0)):=by rw [<-n];exact Q3 rfl
   have C:Ext o H:=by rw [<-n];exact J.alloc _
   rw [n];obtain⟨g4,d0⟩:=zE y.heap.size;rw [d0] at B ⊢;have g6:Hid (∀ a,Ext H a->Rd a (.slice (some ⟨g4,0,none⟩) 3 3) 3 1 (Z7 [0,1,2])):=Zh (fun a f=>(Qn (xs:=Z7 [0,1,2]) B rfl zd).ext f);have j6:Ext y H:=by rw [<-n];exact(Q1.refl _ _).alloc _
   clear n B d0;refine hK _ _ C (fun _=>?_);clear hK K;try simp only [Act.put,pq]
   refine rE [7] ?_;refine Q2.cons rfl (fun K hK=>?_) Q2.nil;refine iw rfl ?_;go_simp;have l:=Ch (qs:=[((Qe,apO),[.slice (some ⟨u,0,none⟩) 3 3,.slice (some ⟨t,0,none⟩) 2 2]),((Qe,abO),[.slice (some ⟨k,0,none⟩) 3 3,.slice (some ⟨j,0,none⟩) 2 2])]) rfl;have g:=Hk (w:=H) (ps:=[(vD,[.string ⟨#[86]⟩,.int .i64 1,.int .u32 4,.int .u32 0,.bool false,.int .i64 0,.int .i64 0,.slice none 0 0,.int .i64 1,.int .u32 4,.int .u32 0,.bool false,.int .i64 0,.int .i64 0,.slice none 0 0,.slice (some ⟨N,0,none⟩) 1 1,.slice (some ⟨O,0,none⟩) 1 1,.int .i64 1]),(fD,[.string ⟨#[70]⟩,.int .i64 0,.int .u32 0,.int .u32 0,.bool false,.int .i64 0,.int .i64 0,.slice none 0 0,.int .i64 6,.int .u32 0,.int .u32 0,.bool false,.int .i64 0,.int .i64 0,.slice none 0 0,.slice (some ⟨P,0,none⟩) 1 1,.slice none 0 0,.int .i64 1]),(uD,[.string ⟨#[85]⟩,.int .i64 0,.int .u32 0,.int .u32 0,.bool false,.int .i64 0,.int .i64 0,.slice none 0 0,.int .i64 6,.int .u32 0,.int .u32 0,.bool false,.int .i64 0,.int .i64 0,.slice none 0 0,.slice (some ⟨Q,0,none⟩) 1 1,.slice (some ⟨R,0,none⟩) 1 1,.int .i64 1])]) (qs:=[((Qe,apO),[.slice (some ⟨u,0,none⟩) 3 3,.slice (some ⟨t,0,none⟩) 2 2]),((Qe,abO),[.slice (some ⟨k,0,none⟩) 3 3,.slice (some ⟨j,0,none⟩) 2 2])]) (xs:=[0,1,2]) (b4.out _ (D.trans C)) rfl (g6.out _ (Q1.refl _ _)) rfl (g7.out _ j6) rfl (b8.keep (e2.trans C) id);simp only [List.map_cons,List.map_nil] at g l;rw [l.1,l.2.1,l.2.2] at g;have m:=Zh g;clear g l;refine m.out.mono ?_;rintro e g8 ⟨rfl,c⟩;have q:Ext o g8:=C.trans c;clear c m;refine hK _ _ q (fun _=>?_);clear hK K;try simp only [Act.put,pq]
   refine tE 8 29 q ?_;refine tE 9 38 q ?_;refine tE 10 39 q ?_;refine tE 11 40 q ?_;refine tE 12 4 q ?_;refine tE 13 5 q ?_;refine tE 14 6 q ?_;refine Qm kz ?_ _;have g5:=Zh q;clear q C J I;go_wp2
   go_meet
   case rel=>exact⟨rfl,rfl,rfl,g5.out⟩
 case rest=>
  obtain⟨rfl,rfl,rfl,f8⟩:=hcut;have e3:Ext w wc:=e2.trans f8;have D:Ext T wc:=D.trans f8;have r:Ext F wc:=r.trans f8;generalize wc=t1 at e3 D r ⊢;clear f8 k1 a8 b7 b3 c9 k2;have g:=Ku (w:=t1) (ps:=[(vD,[.string ⟨#[86]⟩,.int .i64 1,.int .u32 4,.int .u32 0,.bool false,.int .i64 0,.int .i64 0,.slice none 0 0,.int .i64 1,.int .u32 4,.int .u32 0,.bool false,.int .i64 0,.int .i64 0,.slice none 0 0,.slice (some ⟨N,0,none⟩) 1 1,.slice (some ⟨O,0,none⟩) 1 1,.int .i64 1]),(fD,[.string ⟨#[70]⟩,.int .i64 0,.int .u32 0,.int .u32 0,.bool false,.int .i64 0,.int .i64 0,.slice none 0 0,.int .i64 6,.int .u32 0,.int .u32 0,.bool false,.int .i64 0,.int .i64 0,.slice none 0 0,.slice (some ⟨P,0,none⟩) 1 1,.slice none 0 0,.int .i64 1]),(uD,[.string ⟨#[85]⟩,.int .i64 0,.int .u32 0,.int .u32 0,.bool false,.int .i64 0,.int .i64 0,.slice none 0 0,.int .i64 6,.int .u32 0,.int .u32 0,.bool false,.int .i64 0,.int .i64 0,.slice none 0 0,.slice (some ⟨Q,0,none⟩) 1 1,.slice (some ⟨R,0,none⟩) 1 1,.int .i64 1])]) (qs:=[((Qe,abO),[.slice (some ⟨k,0,none⟩) 3 3,.slice (some ⟨j,0,none⟩) 2 2])]) (b4.out _ D) rfl (c6.out _ r) rfl (b8.keep e3 id);have l:=Q06 (qs:=[((Qe,abO),[.slice (some ⟨k,0,none⟩) 3 3,.slice (some ⟨j,0,none⟩) 2 2])]) rfl;simp only [List.map_cons,List.map_nil] at g l;have b2:=Wn (qs:=[((Qe,abO),[.slice (some ⟨k,0,none⟩) 3 3,.slice (some ⟨j,0,none⟩) 2 2])]) rfl;simp only [List.map_cons,List.map_nil] at b2;rw [l.1,l.2,b2] at g;simp only [List.length_cons,List.length_nil] at g;clear b2;have m:=Zh g;clear g l;go_wp2_with fail;refine(m.out).mono ?_;rintro e c7 ⟨r9,r8,rfl,M,c⟩;have i0:Ext w c7:=e3.trans c;have u5:=c;have D:Ext T c7:=D.trans c;have r:Ext F c7:=r.trans c;clear m;have k9:Hid (∀ a,Ext c7 a->Rd a (.slice r9 3 r8) 3 1 (Qi [0,2,1])):=Zh (fun a f=>M.ext f);clear M c;have g:=Lq (w:=c7) (ps:=[(vD,[.string ⟨#[86]⟩,.int .i64 1,.int .u32 4,.int .u32 0,.bool false,.int .i64 0,.int .i64 0,.slice none 0 0,.int .i64 1,.int .u32 4,.int .u32 0,.bool false,.int .i64 0,.int .i64 0,.slice none 0 0,.slice (some ⟨N,0,none⟩) 1 1,.slice (some ⟨O,0,none⟩) 1 1,.int .i64 1]),(fD,[.string ⟨#[70]⟩,.int .i64 0,.int .u32 0,.int .u32 0,.bool false,.int .i64 0,.int .i64 0,.slice none 0 0,.int .i64 6,.int .u32 0,.int .u32 0,.bool false,.int .i64 0,.int .i64 0,.slice none 0 0,.slice (some ⟨P,0,none⟩) 1 1,.slice none 0 0,.int .i64 1]),(uD,[.string ⟨#[85]⟩,.int .i64 0,.int .u32 0,.int .u32 0,.bool false,.int .i64 0,.int .i64 0,.slice none 0 0,.int .i64 6,.int .u32 0,.int .u32 0,.bool false,.int .i64 0,.int .i64 0,.slice none 0 0,.slice (some ⟨Q,0,none⟩) 1 1,.slice (some ⟨R,0,none⟩) 1 1,.int .i64 1])]) (qs:=[((Qe,abO),[.slice (some ⟨k,0,none⟩) 3 3,.slice (some ⟨j,0,none⟩) 2 2])]) (most:=9) (b4.out _ D) rfl (c6.out _ r) rfl (b8.keep i0 id);have l:=Q7f (qs:=[((Qe,abO),[.slice (some ⟨k,0,none⟩) 3 3,.slice (some ⟨j,0,none⟩) 2 2])]) rfl;simp only [List.map_cons,List.map_nil] at g l;have b2:=Wn (qs:=[((Qe,abO),[.slice (some ⟨k,0,none⟩) 3 3,.slice (some ⟨j,0,none⟩) 2 2])]) rfl
  simp only [List.map_cons,List.map_nil] at b2;rw [l,b2] at g;simp only [List.length_cons,List.length_nil] at g;clear b2;have m:=Zh g;clear g l;go_wp2_with fail;refine(m.out).mono ?_;rintro e c8 ⟨s1,s0,rfl,M,c⟩;have i1:Ext w c8:=i0.trans c;have t4:=c;have D:Ext T c8:=D.trans c;have r:Ext F c8:=r.trans c;clear m;have l0:Hid (∀ a,Ext c8 a->Xv a (.slice s1 2 s0) [[0,2,1],[2,0,1]]):=Zh (fun a f=>Xv.ext M f);clear M c;have g:=Gt (w:=c8) (ps:=[(vD,[.string ⟨#[86]⟩,.int .i64 1,.int .u32 4,.int .u32 0,.bool false,.int .i64 0,.int .i64 0,.slice none 0 0,.int .i64 1,.int .u32 4,.int .u32 0,.bool false,.int .i64 0,.int .i64 0,.slice none 0 0,.slice (some ⟨N,0,none⟩) 1 1,.slice (some ⟨O,0,none⟩) 1 1,.int .i64 1]),(fD,[.string ⟨#[70]⟩,.int .i64 0,.int .u32 0,.int .u32 0,.bool false,.int .i64 0,.int .i64 0,.slice none 0 0,.int .i64 6,.int .u32 0,.int .u32 0,.bool false,.int .i64 0,.int .i64 0,.slice none 0 0,.slice (some ⟨P,0,none⟩) 1 1,.slice none 0 0,.int .i64 1]),(uD,[.string ⟨#[85]⟩,.int .i64 0,.int .u32 0,.int .u32 0,.bool false,.int .i64 0,.int .i64 0,.slice none 0 0,.int .i64 6,.int .u32 0,.int .u32 0,.bool false,.int .i64 0,.int .i64 0,.slice none 0 0,.slice (some ⟨Q,0,none⟩) 1 1,.slice (some ⟨R,0,none⟩) 1 1,.int .i64 1])]) (qs:=[((Qe,abO),[.slice (some ⟨k,0,none⟩) 3 3,.slice (some ⟨j,0,none⟩) 2 2])]) (b4.out _ D) rfl (c6.out _ r) rfl (b8.keep i1 id);have l:=Q6u (qs:=[((Qe,abO),[.slice (some ⟨k,0,none⟩) 3 3,.slice (some ⟨j,0,none⟩) 2 2])]) rfl;simp only [List.map_cons,List.map_nil] at g l;rw [l.1,l.2] at g;simp only [List.length_cons,List.length_nil] at g;have m:=Zh g;clear g l;go_wp2_with fail;refine(m.out).mono ?_;rintro e E ⟨s3,s2,rfl,M,c⟩;have m1:Ext w E:=i1.trans c;have r7:=c;have D:Ext T E:=D.trans c;have r:Ext F E:=r.trans c;clear m;have l1:Hid (∀ a,Ext E a->Rd a (.slice s3 2 s2) 2 2 (prs [(0,1),(2,1)])):=Zh (fun a f=>M.ext f);clear M c;go_wp2_with fail;refine(Sq _).mono ?_;rintro e l3 ⟨c2,c3,rfl,q5,c⟩;have m2:Ext w l3:=m1.trans c;have u6:=c;have k6:Hid (∀ a,Ext l3 a->Z2 a vD [.string ⟨#[86]⟩,.int .i64 1,.int .u32 4,.int .u32 0,.bool false,.int .i64 0,.int .i64 0,.slice none 0 0,.int .i64 1,.int .u32 4,.int .u32 0,.bool false,.int .i64 0,.int .i64 0,.slice none 0 0,.slice (some ⟨c2,0,none⟩) 1 1,.slice (some ⟨c3,0,none⟩) 1 1,.int .i64 1]):=Zh (fun a f=>q5.ext f);clear q5;have j7:=c;clear c;go_wp2_with fail;refine(Mk _).mono ?_;rintro e a9 ⟨c4,rfl,q6,c⟩;have m4:Ext w a9:=m2.trans c;have u8:=c;have k7:Hid (∀ a,Ext a9 a->Z2 a fD [.string ⟨#[70]⟩,.int .i64 0,.int .u32 0,.int .u32 0,.bool false,.int .i64 0,.int .i64 0,.slice none 0 0,.int .i64 6,.int .u32 0,.int .u32 0,.bool false,.int .i64 0,.int .i64 0,.slice none 0 0,.slice (some ⟨c4,0,none⟩) 1 1,.slice none 0 0,.int .i64 1]):=Zh (fun a f=>q6.ext f);clear q6;have f9:=c;clear c;obtain⟨U,e7⟩:=zE (a9.alloc (.cells #[.string ⟨#[86]⟩,.int .i64 1,.int .u32 4,.int .u32 0,.bool false,.int .i64 0,.int .i64 0,.slice none 0 0,.int .i64 1,.int .u32 4,.int .u32 0,.bool false,.int .i64 0,.int .i64 0,.slice none 0 0,.slice (some ⟨c2,0,none⟩) 1 1,.slice (some ⟨c3,0,none⟩) 1 1,.int .i64 1,.string ⟨#[70]⟩,.int .i64 0,.int .u32 0,.int .u32 0,.bool false,.int .i64 0,.int .i64 0,.slice none 0 0,.int .i64 6,.int .u32 0,.int .u32 0,.bool false,.int .i64 0,.int .i64 0,.slice none 0 0,.slice (some ⟨c4,0,none⟩) 1 1,.slice none 0 0,.int .i64 1] 102))
  have m5:Ext w U:=by rw [<-e7];exact m4.alloc _
  have j3:U.heap[a9.heap.size]?=some (.cells #[.string ⟨#[86]⟩,.int .i64 1,.int .u32 4,.int .u32 0,.bool false,.int .i64 0,.int .i64 0,.slice none 0 0,.int .i64 1,.int .u32 4,.int .u32 0,.bool false,.int .i64 0,.int .i64 0,.slice none 0 0,.slice (some ⟨c2,0,none⟩) 1 1,.slice (some ⟨c3,0,none⟩) 1 1,.int .i64 1,.string ⟨#[70]⟩,.int .i64 0,.int .u32 0,.int .u32 0,.bool false,.int .i64 0,.int .i64 0,.slice none 0 0,.int .i64 6,.int .u32 0,.int .u32 0,.bool false,.int .i64 0,.int .i64 0,.slice none 0 0,.slice (some ⟨c4,0,none⟩) 1 1,.slice none 0 0,.int .i64 1] 102 (0,0)):=by rw [<-e7];exact Q3 rfl
  have b9:Ext a9 U:=by rw [<-e7];exact(Q1.refl _ a9).alloc _
  have u9:=b9;obtain⟨s7,p4⟩:=zE a9.heap.size;rw [p4] at j3
  have d3:Z9 U (.slice (some ⟨s7,0,none⟩) 2 2) [(vD,[.string ⟨#[86]⟩,.int .i64 1,.int .u32 4,.int .u32 0,.bool false,.int .i64 0,.int .i64 0,.slice none 0 0,.int .i64 1,.int .u32 4,.int .u32 0,.bool false,.int .i64 0,.int .i64 0,.slice none 0 0,.slice (some ⟨c2,0,none⟩) 1 1,.slice (some ⟨c3,0,none⟩) 1 1,.int .i64 1]),(fD,[.string ⟨#[70]⟩,.int .i64 0,.int .u32 0,.int .u32 0,.bool false,.int .i64 0,.int .i64 0,.slice none 0 0,.int .i64 6,.int .u32 0,.int .u32 0,.bool false,.int .i64 0,.int .i64 0,.slice none 0 0,.slice (some ⟨c4,0,none⟩) 1 1,.slice none 0 0,.int .i64 1])]:=⟨Qn (xs:=[.string ⟨#[86]⟩,.int .i64 1,.int .u32 4,.int .u32 0,.bool false,.int .i64 0,.int .i64 0,.slice none 0 0,.int .i64 1,.int .u32 4,.int .u32 0,.bool false,.int .i64 0,.int .i64 0,.slice none 0 0,.slice (some ⟨c2,0,none⟩) 1 1,.slice (some ⟨c3,0,none⟩) 1 1,.int .i64 1,.string ⟨#[70]⟩,.int .i64 0,.int .u32 0,.int .u32 0,.bool false,.int .i64 0,.int .i64 0,.slice none 0 0,.int .i64 6,.int .u32 0,.int .u32 0,.bool false,.int .i64 0,.int .i64 0,.slice none 0 0,.slice (some ⟨c4,0,none⟩) 1 1,.slice none 0 0,.int .i64 1]) j3 rfl zd,fun p z=>by
   simp only [List.mem_cons,List.not_mem_nil,or_false] at z;rcases z with rfl | rfl
   ·exact k6.out _ (f9.trans b9)
   ·exact k7.out _ b9⟩
  obtain⟨b0,e8⟩:=zE (U.alloc (.cells #[.int .i64 0,.int .i64 1] 3));have i2:Ext w b0:=by rw [<-e8];exact m5.alloc _
  have j4:b0.heap[U.heap.size]?=some (.cells #[.int .i64 0,.int .i64 1] 3 (0,0)):=by rw [<-e8];exact Q3 rfl
  have d4:Ext U b0:=by rw [<-e8];exact(Q1.refl _ U).alloc _
  have v0:=d4;obtain⟨s8,p5⟩:=zE U.heap.size;rw [p5] at j4;have q0:=d3.ext d4;have q1:Rd b0 (.slice (some ⟨s8,0,none⟩) 2 2) 2 1 (Z7 [0,1]):=Qn (xs:=Z7 [0,1]) j4 rfl zd;have r:Ext F b0:=r.trans (j7.trans (f9.trans (b9.trans d4)));have s:Ext E b0:=j7.trans (f9.trans (b9.trans d4));have g:=Um (w:=b0) (ps:=[(vD,[.string ⟨#[86]⟩,.int .i64 1,.int .u32 4,.int .u32 0,.bool false,.int .i64 0,.int .i64 0,.slice none 0 0,.int .i64 1,.int .u32 4,.int .u32 0,.bool false,.int .i64 0,.int .i64 0,.slice none 0 0,.slice (some ⟨c2,0,none⟩) 1 1,.slice (some ⟨c3,0,none⟩) 1 1,.int .i64 1]),(fD,[.string ⟨#[70]⟩,.int .i64 0,.int .u32 0,.int .u32 0,.bool false,.int .i64 0,.int .i64 0,.slice none 0 0,.int .i64 6,.int .u32 0,.int .u32 0,.bool false,.int .i64 0,.int .i64 0,.slice none 0 0,.slice (some ⟨c4,0,none⟩) 1 1,.slice none 0 0,.int .i64 1])]) (qs:=[((Qe,abO),[.slice (some ⟨k,0,none⟩) 3 3,.slice (some ⟨j,0,none⟩) 2 2])]) (xs:=[0,1]) q0 rfl q1 rfl (c6.out _ r) rfl (b8.keep i2 id);have l:=Q6t (qs:=[((Qe,abO),[.slice (some ⟨k,0,none⟩) 3 3,.slice (some ⟨j,0,none⟩) 2 2])]) rfl;simp only [List.map_cons,List.map_nil] at g l;rw [l.1,l.2] at g;simp only [List.length_cons,List.length_nil] at g;have m:=Zh g;clear g l d3 q0 q1 k6 k7 j7 f9 j3 j4 b4 c6 D r;go_wp2_with fail;refine(m.out).mono ?_;rintro e A ⟨q8,q7,rfl,M,c⟩;have m6:Ext w A:=i2.trans c;have v1:=c;have s:Ext E A:=s.trans c;clear m e7 e8 p4 p5 b9 d4;have k8:Hid (∀ a,Ext A a->Rd a (.slice q8 1 q7) 1 1 (Qi [0])):=Zh (fun a f=>M.ext f);clear M c;obtain⟨a1,e9⟩:=zE (A.alloc (.cells #[.int .i64 0,.int .i64 2,.int .i64 1] 3));have m7:Ext w a1:=by rw [<-e9];exact m6.alloc _
  have i5:a1.heap[A.heap.size]?=some (.cells #[.int .i64 0,.int .i64 2,.int .i64 1] 3 (0,0)):=by rw [<-e9];exact Q3 rfl
  have a7:Ext A a1:=by rw [<-e9];exact(Q1.refl _ A).alloc _
  have v2:=a7;obtain⟨s4,o6⟩:=zE A.heap.size;rw [o6] at i5;have s:Ext E a1:=s.trans a7;have G:Ext A a1:=a7;have g:=Un (.slice r9 3 r8) (.slice (some ⟨s4,0,none⟩) 3 3) [0,2,1] [0,2,1] a1 (k9.out _ ((t4.trans r7).trans s)) (Qn (xs:=Qi [0,2,1]) i5 rfl zd);rw [decide_eq_true rfl] at g;have m:=Zh g;clear g;go_wp2_with fail;refine m.out.mono ?_;rintro e V ⟨rfl,u0,L⟩;have c:Ext a1 V:=by rw [L];exact(Q1.refl _ a1).drewN _
  have m8:Ext w V:=m7.trans c;have v3:=c;have s:Ext E V:=s.trans c;clear m L e9 o6 i5 a7 k9;have G:Ext A V:=G.trans c;clear c;obtain⟨a2,f0⟩:=zE (V.alloc (.cells #[.int .i64 0,.int .i64 2,.int .i64 1] 3));have m9:Ext w a2:=by rw [<-f0];exact m8.alloc _
  have i7:a2.heap[V.heap.size]?=some (.cells #[.int .i64 0,.int .i64 2,.int .i64 1] 3 (0,0)):=by rw [<-f0];exact Q3 rfl
  have g1:Ext V a2:=by rw [<-f0];exact(Q1.refl _ V).alloc _
  have v7:=g1;obtain⟨d7,o8⟩:=zE V.heap.size;rw [o8] at i7;obtain⟨a3,f1⟩:=zE (a2.alloc (.cells #[.int .i64 2,.int .i64 0,.int .i64 1] 3));have n0:Ext w a3:=by rw [<-f1];exact m9.alloc _
  have i8:a3.heap[a2.heap.size]?=some (.cells #[.int .i64 2,.int .i64 0,.int .i64 1] 3 (0,0)):=by rw [<-f1];exact Q3 rfl
  have d5:Ext a2 a3:=by rw [<-f1];exact(Q1.refl _ a2).alloc _
  have v8:=d5;obtain⟨d8,o9⟩:=zE a2.heap.size;rw [o9] at i8;obtain⟨W,f2⟩:=zE (a3.alloc (.cells #[.slice (some ⟨d7,0,none⟩) 3 3,.slice (some ⟨d8,0,none⟩) 3 3] 48));have n1:Ext w W:=by rw [<-f2];exact n0.alloc _
  have i9:W.heap[a3.heap.size]?=some (.cells #[.slice (some ⟨d7,0,none⟩) 3 3,.slice (some ⟨d8,0,none⟩) 3 3] 48 (0,0)):=by rw [<-f2];exact Q3 rfl
  have c0:Ext a3 W:=by rw [<-f2];exact(Q1.refl _ a3).alloc _
  have v9:=c0;obtain⟨j9,p0⟩:=zE a3.heap.size;rw [p0] at i9;have s:Ext E W:=s.trans (g1.trans (d5.trans c0));have G:Ext A W:=G.trans (g1.trans (d5.trans c0))
  have p8:Xv W (.slice (some ⟨j9,0,none⟩) 2 2) [[0,2,1],[2,0,1]]:=⟨[.slice (some ⟨d7,0,none⟩) 3 3,.slice (some ⟨d8,0,none⟩) 3 3],Qn (xs:=[.slice (some ⟨d7,0,none⟩) 3 3,.slice (some ⟨d8,0,none⟩) 3 3]) i9 rfl zd,fun i p9=>by
   have p9:i<2:=p9;rcases(by omega:i=0\/i=1) with rfl | rfl
   ·exact⟨_,_,rfl,(Qn (xs:=Qi [0,2,1]) i7 rfl (by show 3<=maxLen;decide)).ext (d5.trans c0)⟩
   ·exact⟨_,_,rfl,(Qn (xs:=Qi [2,0,1]) i8 rfl (by show 3<=maxLen;decide)).ext c0⟩⟩
  have g:=Q2a (.slice s1 2 s0) (.slice (some ⟨j9,0,none⟩) 2 2) [[0,2,1],[2,0,1]] [[0,2,1],[2,0,1]] W (l0.out _ (r7.trans s)) p8;rw [decide_eq_true rfl] at g;have m:=Zh g;clear g;go_wp2_with fail;refine m.out.mono ?_;rintro e X ⟨rfl,u1,L⟩;have c:Ext W X:=by rw [L];exact(Q1.refl _ W).drewN _
  have n2:Ext w X:=n1.trans c;have w0:=c;have s:Ext E X:=s.trans c;clear m L f0 f1 f2 o8 o9 p0 i7 i8 i9 p8 g1 d5 c0 l0;have G:Ext A X:=G.trans c;clear c;obtain⟨a4,f3⟩:=zE (X.alloc (.cells #[.int .i64 0,.int .i64 1,.int .i64 2,.int .i64 1] 73));have n4:Ext w a4:=by rw [<-f3];exact n2.alloc _
  have j0:a4.heap[X.heap.size]?=some (.cells #[.int .i64 0,.int .i64 1,.int .i64 2,.int .i64 1] 73 (0,0)):=by rw [<-f3];exact Q3 rfl
  have g2:Ext X a4:=by rw [<-f3];exact(Q1.refl _ X).alloc _
  have w2:=g2;obtain⟨s5,p1⟩:=zE X.heap.size;rw [p1] at j0;have s:Ext E a4:=s.trans g2;have G:Ext A a4:=G.trans g2;have g:=Q3w (.slice s3 2 s2) (.slice (some ⟨s5,0,none⟩) 2 2) [(0,1),(2,1)] [(0,1),(2,1)] a4 (l1.out _ s) (Qn (xs:=prs [(0,1),(2,1)]) j0 rfl zd);rw [decide_eq_true rfl] at g;have m:=Zh g;clear g;go_wp2_with fail;refine m.out.mono ?_;rintro e Y ⟨rfl,u2,L⟩;have c:Ext a4 Y:=by rw [L];exact(Q1.refl _ a4).drewN _
  have n5:Ext w Y:=n4.trans c;have w3:=c;have s:Ext E Y:=s.trans c;clear m L f3 p1 j0 g2 l1;have G:Ext A Y:=G.trans c;clear c;obtain⟨a5,f4⟩:=zE (Y.alloc (.cells #[.int .i64 0] 3));have n6:Ext w a5:=by rw [<-f4];exact n5.alloc _
  have j1:a5.heap[Y.heap.size]?=some (.cells #[.int .i64 0] 3 (0,0)):=by rw [<-f4];exact Q3 rfl
  have g3:Ext Y a5:=by rw [<-f4];exact(Q1.refl _ Y).alloc _
  have w4:=g3;obtain⟨s6,p2⟩:=zE Y.heap.size;rw [p2] at j1;have G:Ext A a5:=G.trans g3;have s:Ext E a5:=s.trans g3;have g:=Un (.slice q8 1 q7) (.slice (some ⟨s6,0,none⟩) 1 1) [0] [0] a5 (k8.out _ G) (Qn (xs:=Qi [0]) j1 rfl zd);rw [decide_eq_true rfl] at g;have m:=Zh g;clear g;go_wp2_with fail;refine m.out.mono ?_;rintro e g9 ⟨rfl,u3,L⟩;have c:Ext a5 g9:=by rw [L];exact(Q1.refl _ a5).drewN _
  have n7:Ext w g9:=n6.trans c;have w5:=c;have s:Ext E g9:=s.trans c;clear m L f4 p2 j1 g3 k8;have s9:=Zh n7;clear l5 l6 m3 n3 n8 n9 o0 o1 o2 o3 l7 l8 l9 m0 e2 e3 i0 i1 m1 m2 m4 m5 i2 m6 m7 m8 m9 n0 n1 n2 n4 n5 n6 n7;go_wp2;go_ret;exact⟨rfl,s9.out⟩
end Go.Proofs.YtfdlhlghcbeblaaGreatDoor
