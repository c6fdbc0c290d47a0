/- PLAIN: -/
import Derived.Test.YtfdlhlghcbeblaaGreatDoorR24
set_option maxRecDepth 100000
set_option maxHeartbeats 16000000
namespace Go.Proofs.YtfdlhlghcbeblaaGreatDoor
open Go.RowKit Go.Ab
theorem Q0h{l:List Int}(h:Yv l=0):∀ x∈l,x=0:=by
 induction l with
 | nil=>intro x a;cases a
 | cons e l ih=>
  unfold Yv at h
  split at h
  ·rename_i b
   intro x a;rcases List.mem_cons.1 a with rfl | a
   ·exact b
   ·exact ih h x a
  ·rename_i b;exact absurd h b
theorem Mc{LD:List Qe}{a:List (Wd × Wd)} (h:Z6 LD a=0):LD.length<=6/\(∀ l∈LD,Zx l=true)/\a.length<=32/\∀ q∈a,wE q.1=0/\wE q.2=0:=by
 obtain⟨b,c,d,e⟩:=Jh h;refine⟨b,fun l hl=>List.all_eq_true.1 c l hl,d,fun q hq=>?_⟩;have:=Q0h e _ (List.mem_map.2 ⟨q,hq,rfl⟩);unfold wpE at this
 split at this
 ·exact⟨by assumption,this⟩
 ·rename_i f;exact absurd this f
theorem Lv(LD:List Qe):∀ ol:List Nat,Yw LD ol none=none
 | []=>rfl
 | x::ol=>by
  unfold Yw;rw [List.foldl_cons];cases LD[x]? with
  | none=>exact Lv LD ol
  | some l=>exact Lv LD ol
theorem Q3q(LD:List Qe)(x:Nat)(ol:List Nat)(s:Option Wd):Yw LD (x::ol) s=Yw LD ol (match LD[x]? with | some l=>Yj l s | none=>s):=rfl
theorem Ny(LD:List Qe):∀(ol:List Nat) (u:Wd),Ye (ol.filterMap fun x=>LD[x]?) u=Yw LD ol (some u)
 | [],_=>rfl
 | x::ol,u=>by
  rw [Q3q,List.filterMap_cons];cases h:LD[x]? with
  | none=>exact Ny LD ol u
  | some l=>
   show (if trE l u=0 then Ye (ol.filterMap fun x=>LD[x]?) (Xp l u) else none)=Yw LD ol ((some u).bind fun u=>if trE l u=0 then some (Xp l u) else none);rw [Option.bind_some];by_cases ht:trE l u=0
   ·rw [if_pos ht,if_pos ht];exact Ny LD ol _
   ·rw [if_neg ht,if_neg ht,Lv]
theorem Q8n(ps:Qs)(ol:List Nat):(Y6 ps ol).map (·.1)=ol.filterMap fun x=>(ps.map (·.1))[x]?:=by
 unfold Y6;rw [List.map_filterMap]
 congr 1
 funext x
 rw [List.getElem?_map]
theorem Q63{ps:Qs}{ol:List Nat}{u v:Wd}(e:∀ l∈ps.map (·.1),Zx l=true) (f:ol.length<=64) (i:wE u=0):Mo ps ol u v=xB (Yw (ps.map (·.1)) ol (some u)) v:=by
 have c:Jv ((Y6 ps ol).map (·.1))=0:=by
  unfold Jv;have k:((Y6 ps ol).map (·.1)).length<=64:=by
   rw [List.length_map];unfold Y6;exact Nat.le_trans (List.length_filterMap_le _ _) f
  rw [if_neg oz,if_pos];rw [List.all_eq_true];intro l b;obtain⟨j,g,rfl⟩:=List.mem_map.1 b;exact e _ (List.mem_map.2 ⟨j,Pa g,rfl⟩)
 have a:V3 ((Y6 ps ol).map (·.1)) u=0:=by unfold V3;rw [if_pos c,i]
 have d:Ye ((Y6 ps ol).map (·.1)) u=Yw (ps.map (·.1)) ol (some u):=by rw [Q8n,Ny]
 unfold Mo;rw [<-d];cases hd:Ye ((Y6 ps ol).map (·.1)) u with
 | none=>
  rw [(Ls a hd).1];rfl
 | some t=>
  rw [(Wt a hd).1,(Wt a hd).2];simp [xB]
theorem Td{ps:Qs}{qs:Qi}{ol:List Nat}(h:Z6 (ps.map (·.1)) (qs.map (·.1))=0) (d:ol.length<=64):Kr ps ol qs=Yg (ps.map (·.1)) ol qs:=by
 obtain⟨_,b,_,c⟩:=Mc h;unfold Kr Yg;apply List.map_congr_left;intro a e;exact Q63 b d (c a.1 (List.mem_map.2 ⟨a,e,rfl⟩)).1
theorem Bh(l:List Bool):Ku l false=if l.findIdx (fun b=>!b)=l.length then -1 else((l.findIdx fun b=>!b:Nat):Int):=by
 unfold Ku;cases h:l.findIdx? fun b=>b == false with
 | none=>
  rw [List.findIdx?_eq_none_iff] at h;have:l.findIdx (fun b=>!b)=l.length:=List.findIdx_eq_length_of_false fun x hx=>by have:=h x hx;cases x <;> simp_all
  rw [if_pos this]
 | some i=>
  obtain⟨c,d,a⟩:=List.findIdx?_eq_some_iff_getElem.1 h;have:l.findIdx (fun b=>!b)=i:=by
   rw [List.findIdx_eq c];exact⟨by cases hb:l[i] <;> simp_all,fun j hj=>by have:=a j hj;cases hb:l[j] <;> simp_all⟩
  rw [this,if_neg oz]
theorem Fl{ps:Qs}{qs:Qi}{ol:List Nat}:Ub ps ol qs=qs.length↔(Kr ps ol qs).all id=true:=by
 have d:(Kr ps ol qs).length=qs.length:=by unfold Kr;rw [List.length_map]
 unfold Ub;rw [<-d,List.findIdx_eq_length,List.all_eq_true];constructor
 ·intro a c b;have:=a c b;simpa using this
 ·intro a c b;have:=a c b;simp at this;simp [this]
theorem Q6u{xs:List Int}{n:Nat}(h:U8 xs n=true):(Y3 xs).length=n/\xs.length=n:=by
 have a:=(Vr h).2.2.1.length_eq;rw [List.length_range] at a;exact⟨a,by unfold Y3 at a;rwa [List.length_map] at a⟩
theorem St{ps:Qs}{qs:Qi}{xs:List Int}:Q3f ps xs qs=Hs (ps.map (·.1)) xs qs/\Q2h ps xs qs=Gs (ps.map (·.1)) xs qs:=by
 unfold Q3f Q2h Hs Gs;by_cases a:Ya (ps.map (·.1)) xs (qs.map (·.1))=0
 ·obtain⟨d,e⟩:=Vn a;have j:=(Mc d).1;have k:=(Q6u e).1;have f:=Td (ol:=Y3 xs) d oz;have i:(Yg (ps.map (·.1)) (Y3 xs) qs).length=qs.length:=by unfold Yg;rw [List.length_map]
  have g:Ub ps (Y3 xs) qs=(Yg (ps.map (·.1)) (Y3 xs) qs).findIdx fun b=>!b:=by unfold Ub;rw [f]
  have l:(Yg (ps.map (·.1)) (Y3 xs) qs).findIdx (fun b=>!b)<=(Yg (ps.map (·.1)) (Y3 xs) qs).length:=List.findIdx_le_length;rw [if_pos a,if_pos a,if_pos a,if_pos a,g];unfold Hu;rw [Bh,i];by_cases c:(Yg (ps.map (·.1)) (Y3 xs) qs).findIdx (fun b=>!b)=qs.length
  ·rw [if_pos c,if_pos c];refine⟨by decide,?_⟩;rw [decide_eq_false (by simpa using c)];decide
  ·rw [if_neg c,if_neg c];refine⟨by omega,?_⟩;rw [decide_eq_true c,decide_eq_true oz]
 ·rw [if_neg a,if_neg a,if_neg a,if_neg a];exact⟨rfl,rfl⟩
def Ph(LD:List Qe)(ol:List Nat)(QS:List (Wd × Wd)):List Bool:=QS.map fun q=>xB (Yw LD ol (some q.1)) q.2
theorem R8(LD:List Qe)(ol:List Nat)(qs:Qi):Yg LD ol qs=Ph LD ol (qs.map (·.1)):=by
 unfold Yg Ph;rw [List.map_map];rfl
def Q9f(LD:List Qe)(QS:List (Wd × Wd)) (n:Nat):List (List Nat):=(Y5 n (List.range n)).filter fun x=>(Ph LD x QS).all id
theorem Q9t(LD:List Qe)(qs:Qi)(n:Nat):Ze LD qs n=Q9f LD (qs.map (·.1)) n:=by
 unfold Ze Q9f;apply List.filter_congr;intro a _;unfold Xm;rw [R8]
theorem Qai(LD:List Qe)(qs:Qi)(l:List Nat)(i:Nat):Gr LD qs l i=exB (Ph LD l (qs.map (·.1))) (Ph LD (V0 l i) (qs.map (·.1))):=by
 unfold Gr;rw [R8,R8]
abbrev Q6c:Pat:=.node 1 4 0 false 0 0 []
abbrev Q98:Pat:=.node 0 0 0 false 0 0 []
abbrev Qb6:Pat:=.node 6 0 0 false 0 0 []
abbrev vD:Qe:=⟨⟨#[86]⟩,Q6c,Q6c,[(2,0)],[⟨0,0,(1,0),0,0⟩],1⟩
abbrev fD:Qe:=⟨⟨#[70]⟩,Q98,Qb6,[(4,0)],[],1⟩
abbrev uD:Qe:=⟨⟨#[85]⟩,Q98,Qb6,[(2,0)],[⟨0,0,(0,1),0,0⟩],1⟩
abbrev Y1:Wd:=[(5,2),(2,5),(5,2)]
abbrev apO:Wd:=[(5,2),(2,5)]
abbrev abO:Wd:=[(5,2),(3,4)]
theorem Q1l{qs:Qi}(h:qs.map (·.1)=[(Y1,apO),(Y1,abO)]):Hs [vD,fD,uD] [0,1,2] qs=1/\Gs [vD,fD,uD] [0,1,2] qs=true/\Ya [vD,fD,uD] [0,1,2] (qs.map (·.1))=0:=by
 unfold Hs Gs Hu;rw [R8,h];decide +kernel
theorem Dj{qs:Qi}(h:qs.map (·.1)=[(Y1,abO)]):Z6 [vD,fD,uD] (qs.map (·.1))=0:=by
 rw [h];decide +kernel
theorem S8{qs:Qi}(h:qs.map (·.1)=[(Y1,abO)]):Ze [vD,fD,uD] qs 3=[[0,2,1],[2,0,1]]:=by
 rw [Q9t,h];decide +kernel
theorem Q2w{qs:Qi}(h:qs.map (·.1)=[(Y1,abO)]):Vw [vD,fD,uD] qs=[0,2,1]/\Wv [vD,fD,uD] qs=true:=by
 have a:=Dj h;have b:=S8 h;unfold Vw Wv;rw [if_pos a,if_pos a];show (Ze [vD,fD,uD] qs 3).headD []=_/\(!(Ze [vD,fD,uD] qs 3).isEmpty)=_;rw [b];exact⟨rfl,rfl⟩
theorem Qbm{qs:Qi}(h:qs.map (·.1)=[(Y1,abO)]):Ga [vD,fD,uD] qs 9=[[0,2,1],[2,0,1]]:=by
 have a:=Dj h;have b:=S8 h;unfold Ga;rw [if_pos a];show (Ze [vD,fD,uD] qs 3).take _=_;rw [b];rfl
theorem Q9k{qs:Qi}(h:qs.map (·.1)=[(Y1,abO)]):Wo [vD,fD,uD] qs=[(0,1),(2,1)]/\Fc [vD,fD,uD] qs=0:=by
 have c:=Dj h;have a:=S8 h;have b:Fc [vD,fD,uD] qs=0:=by
  unfold Fc;rw [if_pos c];show (if (Ze [vD,fD,uD] qs 3).isEmpty=true then(5:Int) else 0)=0;rw [a];rfl
 refine⟨?_,b⟩;unfold Wo;rw [if_pos b];show W1 3 (Q2s (X3 (Ze [vD,fD,uD] qs 3)))=_;rw [a];decide +kernel
theorem Q9u{qs:Qi}(h:qs.map (·.1)=[(Y1,abO)]):Wm [vD,fD] [0,1] qs=[0]/\Ya [vD,fD] [0,1] (qs.map (·.1))=0:=by
 have a:Ya [vD,fD] [0,1] (qs.map (·.1))=0:=by rw [h];decide +kernel
 refine⟨?_,a⟩;unfold Wm;rw [if_pos a];have b:Gr [vD,fD] qs (Y3 [0,1])=fun i=>exB (Ph [vD,fD] [0,1] [(Y1,abO)]) (Ph [vD,fD] (V0 [0,1] i) [(Y1,abO)]):=funext fun i=>by rw [Qai,h];rfl
 rw [b];decide +kernel
attribute [local go_sem] Oper.semAt_some Zk Qx
theorem Q7f:(Tryz.prog.info? 98).map (·.size)=some 7:=by kernel_rfl
theorem Pb:(Tryz.prog.info? 95).map (·.size)=some 2:=by kernel_rfl
theorem Lf:(Tryz.prog.info? 105).map (·.size)=some 2:=by kernel_rfl
theorem Pk{a:Func}{p:Tmp}(h:a.results=#[.cell p 95]){tmps:Array Value}{w:World}{g:Nat}{cs:Array Value}(d:tmps.getD p undef=.pointer (some ⟨g,0,none⟩)) (b:w.heap[g]?=some (.cells cs 95 (0,0))) (c:(Tryz.prog.info? 95).map (·.size)=some cs.size) :
  (results a tmps).run Tryz.prog w=.ok (.agg cs) w:=by
 have e:tmps[p]?.getD undef=.pointer (some ⟨g,0,none⟩):=by simpa using d
 simp [results,h,e,asAddr,run_loadVar_row w g _ _ _ _ _ b Tryz.underlying95 rfl c]
theorem Nv{a:Func}{p:Tmp}(h:a.results=#[.cell p 102]){tmps:Array Value}{w:World}{g:Nat}{cs:Array Value}(d:tmps.getD p undef=.pointer (some ⟨g,0,none⟩)) (b:w.heap[g]?=some (.cells cs 102 (0,0))) (c:(Tryz.prog.info? 102).map (·.size)=some cs.size) :
  (results a tmps).run Tryz.prog w=.ok (.agg cs) w:=by
 have e:tmps[p]?.getD undef=.pointer (some ⟨g,0,none⟩):=by simpa using d
 simp [results,h,e,asAddr,run_loadVar_row w g _ _ _ _ _ b Tryz.underlying102 rfl c]
theorem Q4u{a:Func}{p:Tmp}(h:a.results=#[.cell p 105]){tmps:Array Value}{w:World}{g:Nat}{cs:Array Value}(d:tmps.getD p undef=.pointer (some ⟨g,0,none⟩)) (b:w.heap[g]?=some (.cells cs 105 (0,0))) (c:(Tryz.prog.info? 105).map (·.size)=some cs.size) :
  (results a tmps).run Tryz.prog w=.ok (.agg cs) w:=by
 have e:tmps[p]?.getD undef=.pointer (some ⟨g,0,none⟩):=by simpa using d
 simp [results,h,e,asAddr,run_loadVar_row w g _ _ _ _ _ b Tryz.underlying105 rfl c]
theorem Q5z(w:World):Calls Tryz.prog 57 #[] w fun e w'=>e=.returned (.agg #[.int .u32 2,.int .u32 5])/\Ext w w':=by
 go_enter Tryz.func57,Tryz.ntmps57;go_wp2;exact bodyPost_ret (Pk rfl rfl (Qc rfl) Pb) rfl ⟨rfl,(Qa.refl _ w).alloc _⟩
theorem Qbg(w:World):Calls Tryz.prog 56 #[] w fun e w'=>e=.returned (.agg #[.int .u32 3,.int .u32 4])/\Ext w w':=by
 go_enter Tryz.func56,Tryz.ntmps56;go_wp2;exact bodyPost_ret (Pk rfl rfl (Qc rfl) Pb) rfl ⟨rfl,(Qa.refl _ w).alloc _⟩
theorem Ro(w:World):Calls Tryz.prog 55 #[] w fun e w'=>e=.returned (.agg #[.int .u32 5,.int .u32 2])/\Ext w w':=by
 go_enter Tryz.func55,Tryz.ntmps55;go_wp2;exact bodyPost_ret (Pk rfl rfl (Qc rfl) Pb) rfl ⟨rfl,(Qa.refl _ w).alloc _⟩
theorem Q5a(w:World):Calls Tryz.prog 53 #[] w fun e w'=>∃ g1:Nat,e=.returned (.agg #[.string ⟨#[70]⟩,.int .i64 0,.int .u32 0,.int .u32 0,.bool false,.int .i64 0,.int .i64 0,.slice none 0 0,.int .i64 6,.int .u32 0,.int .u32 0,.bool false,.int .i64 0,.int .i64 0,.slice none 0 0,.slice (some ⟨g1,0,none⟩) 1 1,.slice none 0 0,.int .i64 1])/\Zm w' fD [.string ⟨#[70]⟩,.int .i64 0,.int .u32 0,.int .u32 0,.bool false,.int .i64 0,.int .i64 0,.slice none 0 0,.int .i64 6,.int .u32 0,.int .u32 0,.bool false,.int .i64 0,.int .i64 0,.slice none 0 0,.slice (some ⟨g1,0,none⟩) 1 1,.slice none 0 0,.int .i64 1]/\Ext w w':=by
 go_enter Tryz.func53,Tryz.ntmps53;obtain⟨a,c⟩:=zE ((w.alloc (.cells #[.string ⟨#[]⟩,.int .i64 0,.int .u32 0,.int .u32 0,.bool false,.int .i64 0,.int .i64 0,.slice none 0 0,.int .i64 0,.int .u32 0,.int .u32 0,.bool false,.int .i64 0,.int .i64 0,.slice none 0 0,.slice none 0 0,.slice none 0 0,.int .i64 0] 102)).alloc (.cells #[.int .u32 4,.int .u32 0] 95));have l:Ext w a:=by rw [<-c];exact((Qa.refl _ w).alloc _).alloc _
 have g:a.heap[w.heap.size]?=some (.cells #[.string ⟨#[]⟩,.int .i64 0,.int .u32 0,.int .u32 0,.bool false,.int .i64 0,.int .i64 0,.slice none 0 0,.int .i64 0,.int .u32 0,.int .u32 0,.bool false,.int .i64 0,.int .i64 0,.slice none 0 0,.slice none 0 0,.slice none 0 0,.int .i64 0] 102 (0,0)):=by rw [<-c];exact Qh (Qc rfl)
 have i:a.heap[w.heap.size+1]?=some (.cells #[.int .u32 4,.int .u32 0] 95 (0,0)):=by rw [<-c];exact Qc zy
 obtain⟨p,d,o⟩:=Zh3 l g i;clear l g i;have f:=Qa.setRow a w.heap.size #[.string ⟨#[70]⟩,.int .i64 0,.int .u32 0,.int .u32 0,.bool false,.int .i64 0,.int .i64 0,.slice none 0 0,.int .i64 6,.int .u32 0,.int .u32 0,.bool false,.int .i64 0,.int .i64 0,.slice none 0 0,.slice (some ⟨w.heap.size+1,0,none⟩) 1 1,.slice none 0 0,.int .i64 1];have m:=setRow_heap _ _ _ #[.string ⟨#[70]⟩,.int .i64 0,.int .u32 0,.int .u32 0,.bool false,.int .i64 0,.int .i64 0,.slice none 0 0,.int .i64 6,.int .u32 0,.int .u32 0,.bool false,.int .i64 0,.int .i64 0,.slice none 0 0,.slice (some ⟨w.heap.size+1,0,none⟩) 1 1,.slice none 0 0,.int .i64 1] _ _ d.out;have j:=f.heap o.out oz;have k:Ext w (a.setRow w.heap.size #[.string ⟨#[70]⟩,.int .i64 0,.int .u32 0,.int .u32 0,.bool false,.int .i64 0,.int .i64 0,.slice none 0 0,.int .i64 6,.int .u32 0,.int .u32 0,.bool false,.int .i64 0,.int .i64 0,.slice none 0 0,.slice (some ⟨w.heap.size+1,0,none⟩) 1 1,.slice none 0 0,.int .i64 1]):=p.out.after f (fun b hb e=>by omega);obtain⟨r,n⟩:=zE (a.setRow w.heap.size #[.string ⟨#[70]⟩,.int .i64 0,.int .u32 0,.int .u32 0,.bool false,.int .i64 0,.int .i64 0,.slice none 0 0,.int .i64 6,.int .u32 0,.int .u32 0,.bool false,.int .i64 0,.int .i64 0,.slice none 0 0,.slice (some ⟨w.heap.size+1,0,none⟩) 1 1,.slice none 0 0,.int .i64 1]);rw [n] at m k j;clear f;have q:Hid ((((w.alloc (.cells #[.string ⟨#[]⟩,.int .i64 0,.int .u32 0,.int .u32 0,.bool false,.int .i64 0,.int .i64 0,.slice none 0 0,.int .i64 0,.int .u32 0,.int .u32 0,.bool false,.int .i64 0,.int .i64 0,.slice none 0 0,.slice none 0 0,.slice none 0 0,.int .i64 0] 102)).alloc (.cells #[.int .u32 4,.int .u32 0] 95))).heap[w.heap.size]?=some (.cells #[.string ⟨#[]⟩,.int .i64 0,.int .u32 0,.int .u32 0,.bool false,.int .i64 0,.int .i64 0,.slice none 0 0,.int .i64 0,.int .u32 0,.int .u32 0,.bool false,.int .i64 0,.int .i64 0,.slice none 0 0,.slice none 0 0,.slice none 0 0,.int .i64 0] 102 (0,0))):=Zh (by rw [c];exact d.out)
 go_wp2_with (first | (refine wpList_store_row rfl 102 (.tmp 0) (.tmp 4) rfl w.heap.size #[.string ⟨#[70]⟩,.int .i64 0,.int .u32 0,.int .u32 0,.bool false,.int .i64 0,.int .i64 0,.slice none 0 0,.int .i64 6,.int .u32 0,.int .u32 0,.bool false,.int .i64 0,.int .i64 0,.slice none 0 0,.slice (some ⟨w.heap.size+1,0,none⟩) 1 1,.slice none 0 0,.int .i64 1] zr zr _ _ d.out kz rfl kz ?_;try rw [n]))
 try simp only [Act.put]
 go_wp2;exact bodyPost_ret (Nv rfl rfl m kz) rfl ⟨w.heap.size+1,rfl,⟨[.int .i64 0,.int .u32 0,.int .u32 0,.bool false,.int .i64 0,.int .i64 0,.slice none 0 0],[.int .i64 6,.int .u32 0,.int .u32 0,.bool false,.int .i64 0,.int .i64 0,.slice none 0 0],_,_,rfl,by decide,Gi _ _ 0 false 0 0 zd zd,Gi _ _ 6 false 0 0 zd zd,⟨Yi (xs:=Zv [(4,0)]) j rfl zd,by simp [Yh]⟩,⟨⟨rfl,by simp [maxLen],none,0,rfl,fun h=>by simp at h⟩,by simp [Yu]⟩⟩,k⟩
theorem Qb4(w:World):Calls Tryz.prog 93 #[] w fun e w'=>∃ g1 g2:Nat,e=.returned (.agg #[.string ⟨#[85]⟩,.int .i64 0,.int .u32 0,.int .u32 0,.bool false,.int .i64 0,.int .i64 0,.slice none 0 0,.int .i64 6,.int .u32 0,.int .u32 0,.bool false,.int .i64 0,.int .i64 0,.slice none 0 0,.slice (some ⟨g1,0,none⟩) 1 1,.slice (some ⟨g2,0,none⟩) 1 1,.int .i64 1])/\Zm w' uD [.string ⟨#[85]⟩,.int .i64 0,.int .u32 0,.int .u32 0,.bool false,.int .i64 0,.int .i64 0,.slice none 0 0,.int .i64 6,.int .u32 0,.int .u32 0,.bool false,.int .i64 0,.int .i64 0,.slice none 0 0,.slice (some ⟨g1,0,none⟩) 1 1,.slice (some ⟨g2,0,none⟩) 1 1,.int .i64 1]/\Ext w w':=by
 go_enter Tryz.func93,Tryz.ntmps93;obtain⟨a,c⟩:=zE (((w.alloc (.cells #[.string ⟨#[]⟩,.int .i64 0,.int .u32 0,.int .u32 0,.bool false,.int .i64 0,.int .i64 0,.slice none 0 0,.int .i64 0,.int .u32 0,.int .u32 0,.bool false,.int .i64 0,.int .i64 0,.slice none 0 0,.slice none 0 0,.slice none 0 0,.int .i64 0] 102)).alloc (.cells #[.int .u32 2,.int .u32 0] 95)).alloc (.cells #[.int .i64 0,.int .u32 0,.int .u32 0,.int .u32 1,.int .u32 0,.int .i64 0] 109));have n:Ext w a:=by rw [<-c];exact(((Qa.refl _ w).alloc _).alloc _).alloc _
 have g:a.heap[w.heap.size]?=some (.cells #[.string ⟨#[]⟩,.int .i64 0,.int .u32 0,.int .u32 0,.bool false,.int .i64 0,.int .i64 0,.slice none 0 0,.int .i64 0,.int .u32 0,.int .u32 0,.bool false,.int .i64 0,.int .i64 0,.slice none 0 0,.slice none 0 0,.slice none 0 0,.int .i64 0] 102 (0,0)):=by rw [<-c];exact Qh (Qh (Qc rfl))
 have i:a.heap[w.heap.size+1]?=some (.cells #[.int .u32 2,.int .u32 0] 95 (0,0)):=by rw [<-c];exact Qh (Qc zy)
 have j:a.heap[w.heap.size+2]?=some (.cells #[.int .i64 0,.int .u32 0,.int .u32 0,.int .u32 1,.int .u32 0,.int .i64 0] 109 (0,0)):=by rw [<-c];exact Qc zy
 obtain⟨s,f,q,r⟩:=Zh4 n g i j;clear n g i j;have d:=Qa.setRow a w.heap.size #[.string ⟨#[85]⟩,.int .i64 0,.int .u32 0,.int .u32 0,.bool false,.int .i64 0,.int .i64 0,.slice none 0 0,.int .i64 6,.int .u32 0,.int .u32 0,.bool false,.int .i64 0,.int .i64 0,.slice none 0 0,.slice (some ⟨w.heap.size+1,0,none⟩) 1 1,.slice (some ⟨w.heap.size+2,0,none⟩) 1 1,.int .i64 1];have o:=setRow_heap _ _ _ #[.string ⟨#[85]⟩,.int .i64 0,.int .u32 0,.int .u32 0,.bool false,.int .i64 0,.int .i64 0,.slice none 0 0,.int .i64 6,.int .u32 0,.int .u32 0,.bool false,.int .i64 0,.int .i64 0,.slice none 0 0,.slice (some ⟨w.heap.size+1,0,none⟩) 1 1,.slice (some ⟨w.heap.size+2,0,none⟩) 1 1,.int .i64 1] _ _ f.out;have k:=d.heap q.out oz;have l:=d.heap r.out oz;have m:Ext w (a.setRow w.heap.size #[.string ⟨#[85]⟩,.int .i64 0,.int .u32 0,.int .u32 0,.bool false,.int .i64 0,.int .i64 0,.slice none 0 0,.int .i64 6,.int .u32 0,.int .u32 0,.bool false,.int .i64 0,.int .i64 0,.slice none 0 0,.slice (some ⟨w.heap.size+1,0,none⟩) 1 1,.slice (some ⟨w.heap.size+2,0,none⟩) 1 1,.int .i64 1]):=s.out.after d (fun b hb e=>by omega);obtain⟨u,p⟩:=zE (a.setRow w.heap.size #[.string ⟨#[85]⟩,.int .i64 0,.int .u32 0,.int .u32 0,.bool false,.int .i64 0,.int .i64 0,.slice none 0 0,.int .i64 6,.int .u32 0,.int .u32 0,.bool false,.int .i64 0,.int .i64 0,.slice none 0 0,.slice (some ⟨w.heap.size+1,0,none⟩) 1 1,.slice (some ⟨w.heap.size+2,0,none⟩) 1 1,.int .i64 1]);rw [p] at o m k l;clear d;have t:Hid (((((w.alloc (.cells #[.string ⟨#[]⟩,.int .i64 0,.int .u32 0,.int .u32 0,.bool false,.int .i64 0,.int .i64 0,.slice none 0 0,.int .i64 0,.int .u32 0,.int .u32 0,.bool false,.int .i64 0,.int .i64 0,.slice none 0 0,.slice none 0 0,.slice none 0 0,.int .i64 0] 102)).alloc (.cells #[.int .u32 2,.int .u32 0] 95)).alloc (.cells #[.int .i64 0,.int .u32 0,.int .u32 0,.int .u32 1,.int .u32 0,.int .i64 0] 109))).heap[w.heap.size]?=some (.cells #[.string ⟨#[]⟩,.int .i64 0,.int .u32 0,.int .u32 0,.bool false,.int .i64 0,.int .i64 0,.slice none 0 0,.int .i64 0,.int .u32 0,.int .u32 0,.bool false,.int .i64 0,.int .i64 0,.slice none 0 0,.slice none 0 0,.slice none 0 0,.int .i64 0] 102 (0,0))):=Zh (by rw [c];exact f.out)
 go_wp2_with (first | (refine wpList_store_row rfl 102 (.tmp 0) (.tmp 7) rfl w.heap.size #[.string ⟨#[85]⟩,.int .i64 0,.int .u32 0,.int .u32 0,.bool false,.int .i64 0,.int .i64 0,.slice none 0 0,.int .i64 6,.int .u32 0,.int .u32 0,.bool false,.int .i64 0,.int .i64 0,.slice none 0 0,.slice (some ⟨w.heap.size+1,0,none⟩) 1 1,.slice (some ⟨w.heap.size+2,0,none⟩) 1 1,.int .i64 1] zr zr _ _ f.out kz rfl kz ?_;try rw [p]))
 try simp only [Act.put]
 go_wp2;exact bodyPost_ret (Nv rfl rfl o kz) rfl ⟨w.heap.size+1,w.heap.size+2,rfl,⟨[.int .i64 0,.int .u32 0,.int .u32 0,.bool false,.int .i64 0,.int .i64 0,.slice none 0 0],[.int .i64 6,.int .u32 0,.int .u32 0,.bool false,.int .i64 0,.int .i64 0,.slice none 0 0],_,_,rfl,by decide,Gi _ _ 0 false 0 0 zd zd,Gi _ _ 6 false 0 0 zd zd,⟨Yi (xs:=Zv [(2,0)]) k rfl zd,by simp [Yh]⟩,⟨Yi (xs:=Pc [⟨0,0,(0,1),0,0⟩]) l rfl zd,by simp [Yu,Zr]⟩⟩,m⟩
theorem Q5d(w:World):Calls Tryz.prog 52 #[] w fun e w'=>∃ g1 g2:Nat,e=.returned (.agg #[.string ⟨#[86]⟩,.int .i64 1,.int .u32 4,.int .u32 0,.bool false,.int .i64 0,.int .i64 0,.slice none 0 0,.int .i64 1,.int .u32 4,.int .u32 0,.bool false,.int .i64 0,.int .i64 0,.slice none 0 0,.slice (some ⟨g1,0,none⟩) 1 1,.slice (some ⟨g2,0,none⟩) 1 1,.int .i64 1])/\Zm w' vD [.string ⟨#[86]⟩,.int .i64 1,.int .u32 4,.int .u32 0,.bool false,.int .i64 0,.int .i64 0,.slice none 0 0,.int .i64 1,.int .u32 4,.int .u32 0,.bool false,.int .i64 0,.int .i64 0,.slice none 0 0,.slice (some ⟨g1,0,none⟩) 1 1,.slice (some ⟨g2,0,none⟩) 1 1,.int .i64 1]/\Ext w w':=by
 go_enter Tryz.func52,Tryz.ntmps52;obtain⟨a,c⟩:=zE ((((w.alloc (.cells #[.string ⟨#[]⟩,.int .i64 0,.int .u32 0,.int .u32 0,.bool false,.int .i64 0,.int .i64 0,.slice none 0 0,.int .i64 0,.int .u32 0,.int .u32 0,.bool false,.int .i64 0,.int .i64 0,.slice none 0 0,.slice none 0 0,.slice none 0 0,.int .i64 0] 102)).alloc (.cells #[.int .i64 1,.int .u32 4,.int .u32 0,.bool false,.int .i64 0,.int .i64 0,.slice none 0 0] 98)).alloc (.cells #[.int .u32 2,.int .u32 0] 95)).alloc (.cells #[.int .i64 0,.int .u32 0,.int .u32 1,.int .u32 0,.int .u32 0,.int .i64 0] 109));have o:Ext w a:=by rw [<-c];exact((((Qa.refl _ w).alloc _).alloc _).alloc _).alloc _
 have g:a.heap[w.heap.size]?=some (.cells #[.string ⟨#[]⟩,.int .i64 0,.int .u32 0,.int .u32 0,.bool false,.int .i64 0,.int .i64 0,.slice none 0 0,.int .i64 0,.int .u32 0,.int .u32 0,.bool false,.int .i64 0,.int .i64 0,.slice none 0 0,.slice none 0 0,.slice none 0 0,.int .i64 0] 102 (0,0)):=by rw [<-c];exact Qh (Qh (Qh (Qc rfl)))
 have i:a.heap[w.heap.size+1]?=some (.cells #[.int .i64 1,.int .u32 4,.int .u32 0,.bool false,.int .i64 0,.int .i64 0,.slice none 0 0] 98 (0,0)):=by rw [<-c];exact Qh (Qh (Qc zy))
 have j:a.heap[w.heap.size+2]?=some (.cells #[.int .u32 2,.int .u32 0] 95 (0,0)):=by rw [<-c];exact Qh (Qc zy)
 have k:a.heap[w.heap.size+3]?=some (.cells #[.int .i64 0,.int .u32 0,.int .u32 1,.int .u32 0,.int .u32 0,.int .i64 0] 109 (0,0)):=by rw [<-c];exact Qc zy
 obtain⟨t,f,u,r,s⟩:=Zh5 o g i j k;clear o g i j k;have d:=Qa.setRow a w.heap.size #[.string ⟨#[86]⟩,.int .i64 1,.int .u32 4,.int .u32 0,.bool false,.int .i64 0,.int .i64 0,.slice none 0 0,.int .i64 1,.int .u32 4,.int .u32 0,.bool false,.int .i64 0,.int .i64 0,.slice none 0 0,.slice (some ⟨w.heap.size+2,0,none⟩) 1 1,.slice (some ⟨w.heap.size+3,0,none⟩) 1 1,.int .i64 1];have p:=setRow_heap _ _ _ #[.string ⟨#[86]⟩,.int .i64 1,.int .u32 4,.int .u32 0,.bool false,.int .i64 0,.int .i64 0,.slice none 0 0,.int .i64 1,.int .u32 4,.int .u32 0,.bool false,.int .i64 0,.int .i64 0,.slice none 0 0,.slice (some ⟨w.heap.size+2,0,none⟩) 1 1,.slice (some ⟨w.heap.size+3,0,none⟩) 1 1,.int .i64 1] _ _ f.out;have l:=d.heap r.out oz;have m:=d.heap s.out oz;have n:Ext w (a.setRow w.heap.size #[.string ⟨#[86]⟩,.int .i64 1,.int .u32 4,.int .u32 0,.bool false,.int .i64 0,.int .i64 0,.slice none 0 0,.int .i64 1,.int .u32 4,.int .u32 0,.bool false,.int .i64 0,.int .i64 0,.slice none 0 0,.slice (some ⟨w.heap.size+2,0,none⟩) 1 1,.slice (some ⟨w.heap.size+3,0,none⟩) 1 1,.int .i64 1]):=t.out.after d (fun b hb e=>by omega);obtain⟨x,q⟩:=zE (a.setRow w.heap.size #[.string ⟨#[86]⟩,.int .i64 1,.int .u32 4,.int .u32 0,.bool false,.int .i64 0,.int .i64 0,.slice none 0 0,.int .i64 1,.int .u32 4,.int .u32 0,.bool false,.int .i64 0,.int .i64 0,.slice none 0 0,.slice (some ⟨w.heap.size+2,0,none⟩) 1 1,.slice (some ⟨w.heap.size+3,0,none⟩) 1 1,.int .i64 1]);rw [q] at p n l m;clear d;have v:Hid ((((((w.alloc (.cells #[.string ⟨#[]⟩,.int .i64 0,.int .u32 0,.int .u32 0,.bool false,.int .i64 0,.int .i64 0,.slice none 0 0,.int .i64 0,.int .u32 0,.int .u32 0,.bool false,.int .i64 0,.int .i64 0,.slice none 0 0,.slice none 0 0,.slice none 0 0,.int .i64 0] 102)).alloc (.cells #[.int .i64 1,.int .u32 4,.int .u32 0,.bool false,.int .i64 0,.int .i64 0,.slice none 0 0] 98)).alloc (.cells #[.int .u32 2,.int .u32 0] 95)).alloc (.cells #[.int .i64 0,.int .u32 0,.int .u32 1,.int .u32 0,.int .u32 0,.int .i64 0] 109))).heap[w.heap.size]?=some (.cells #[.string ⟨#[]⟩,.int .i64 0,.int .u32 0,.int .u32 0,.bool false,.int .i64 0,.int .i64 0,.slice none 0 0,.int .i64 0,.int .u32 0,.int .u32 0,.bool false,.int .i64 0,.int .i64 0,.slice none 0 0,.slice none 0 0,.slice none 0 0,.int .i64 0] 102 (0,0))):=Zh (by rw [c];exact f.out)
 go_wp2_with (first | (refine wpList_load_row rfl 98 (.tmp 1) rfl (w.heap.size+1) zr _ _ _ (by first | exact Qc zy | exact Qc rfl) Tryz.underlying98 rfl Q7f ?_) | (refine wpList_store_row rfl 102 (.tmp 0) (.tmp 11) rfl w.heap.size #[.string ⟨#[86]⟩,.int .i64 1,.int .u32 4,.int .u32 0,.bool false,.int .i64 0,.int .i64 0,.slice none 0 0,.int .i64 1,.int .u32 4,.int .u32 0,.bool false,.int .i64 0,.int .i64 0,.slice none 0 0,.slice (some ⟨w.heap.size+2,0,none⟩) 1 1,.slice (some ⟨w.heap.size+3,0,none⟩) 1 1,.int .i64 1] zr zr _ _ f.out kz rfl kz ?_;try rw [q]))
 try simp only [Act.put]
 go_wp2;exact bodyPost_ret (Nv rfl rfl p kz) rfl ⟨w.heap.size+2,w.heap.size+3,rfl,⟨[.int .i64 1,.int .u32 4,.int .u32 0,.bool false,.int .i64 0,.int .i64 0,.slice none 0 0],[.int .i64 1,.int .u32 4,.int .u32 0,.bool false,.int .i64 0,.int .i64 0,.slice none 0 0],_,_,rfl,by decide,Gi _ _ 1 false 0 0 zd zd,Gi _ _ 1 false 0 0 zd zd,⟨Yi (xs:=Zv [(2,0)]) l rfl zd,by simp [Yh]⟩,⟨Yi (xs:=Pc [⟨0,0,(1,0),0,0⟩]) m rfl zd,by simp [Yu,Zr]⟩⟩,n⟩
theorem Si(w:World)(ao:Option Addr)(n c:Nat):Calls Tryz.prog 54 #[.slice ao n c] w fun e w'=>∃ g:Nat,e=.returned (.agg #[.slice (some ⟨g,0,none⟩) 3 3,.slice ao n c])/\Qk w' (.slice (some ⟨g,0,none⟩) 3 3) Y1/\Ext w w':=by
 go_enter Tryz.func54,Tryz.ntmps54;go_upto_region 1 with (fail)
 obtain⟨H,i⟩:=zE (w.alloc (.cells #[.slice none 0 0,.slice none 0 0] 105));have B:Ext w H:=by rw [<-i];exact(Qa.refl _ w).alloc _
 have o:H.heap[w.heap.size]?=some (.cells #[.slice none 0 0,.slice none 0 0] 105 (0,0)):=by rw [<-i];exact Qc rfl
 rw [i];obtain⟨d,m⟩:=zE w.heap.size;rw [m] at o ⊢;obtain⟨t,u,J⟩:=Zh3 o B m;clear i B o m;go_wp2_with fail;refine(Ro _).mono ?_;rintro e N ⟨rfl,p⟩;go_wp2_with fail;refine(Q5z _).mono ?_;rintro e O ⟨rfl,q⟩;go_wp2_with fail;refine(Ro _).mono ?_;rintro e a ⟨rfl,r⟩;have y:=Ext.keep (p.trans (q.trans r)) t.out;have v:=Zh (u.out.trans (p.trans (q.trans r)));have l:=Zh y;clear y p q r t u;obtain⟨f,j⟩:=zE (a.alloc (.cells #[.int .u32 5,.int .u32 2,.int .u32 2,.int .u32 5,.int .u32 5,.int .u32 2] 95));have z:f.heap[d]?=some (.cells #[.slice none 0 0,.slice none 0 0] 105 (0,0)):=by rw [<-j];exact Qh l.out
 have A:f.heap[a.heap.size]?=some (.cells #[.int .u32 5,.int .u32 2,.int .u32 2,.int .u32 5,.int .u32 5,.int .u32 2] 95 (0,0)):=by rw [<-j];exact Qc rfl
 have C:Ext w f:=by rw [<-j];exact v.out.trans ((Qa.refl _ a).alloc _)
 obtain⟨k,I,K⟩:=Zh3 z A C;have M:d<a.heap.size:=(Array.getElem?_eq_some_iff.1 l.out).1;clear z A C l v;have s:=Qa.setRow f d #[.slice (some ⟨a.heap.size,0,none⟩) 3 3,.slice ao n c];have F:=setRow_heap _ _ _ #[.slice (some ⟨a.heap.size,0,none⟩) 3 3,.slice ao n c] _ _ k.out;have x:=s.heap I.out oz;have E:=K.out.after s (fun b hb e=>by have:=J.out;omega);obtain⟨P,G⟩:=zE (f.setRow d #[.slice (some ⟨a.heap.size,0,none⟩) 3 3,.slice ao n c]);rw [G] at F x E;clear s;have L:Hid ((a.alloc (.cells #[.int .u32 5,.int .u32 2,.int .u32 2,.int .u32 5,.int .u32 5,.int .u32 2] 95)).heap[d]?=some (.cells #[.slice none 0 0,.slice none 0 0] 105 (0,0))):=Zh (by rw [j];exact k.out)
 go_wp2_with (refine wpList_store_row rfl 105 (.tmp 2) (.tmp 8) rfl d #[.slice (some ⟨a.heap.size,0,none⟩) 3 3,.slice ao n c] (by rfl) (by rfl) _ _ k.out kz rfl kz ?_;try rw [G])
 try simp only [Act.put]
 go_wp2;exact bodyPost_ret (Q4u rfl rfl F Lf) rfl ⟨a.heap.size,rfl,⟨Yi (xs:=Zv Y1) x rfl zd,by simp [Yh]⟩,E⟩
mutual
def Hg:Pat->Nat
 | .node k _ _ _ _ _ l=>(if k=5 then 1 else 0)+Xi l
def Xi:List Pat->Nat
 | []=>0
 | p::l=>Hg p+Xi l
end
theorem Q64{l:List Pat}{i:Nat}(c:i<l.length):Xi (l.take (i+1))=Xi (l.take i)+Hg l[i]:=by
 have d:∀(a b:List Pat),Xi (a++b)=Xi a+Xi b:=by
  intro a
  induction a with
  | nil=>intro b;simp [Xi]
  | cons p a ih=>intro b;simp only [List.cons_append,Xi,ih];omega
 rw [List.take_succ_eq_append_getElem c,d];simp [Xi]
mutual
theorem Pe:∀ p:Pat,Hg p<=Ky p
 | .node k pl mi nt mn mx l=>by
  have:=No l;unfold Hg Ky
  split <;> omega
theorem No:∀ l:List Pat,Xi l<=Xs l
 | []=>by simp [Xi,Xs]
 | p::l=>by
  have h1:=Pe p;have h2:=No l;simp only [Xi,Xs];omega
end
theorem Q90{l:List Pat}{i:Nat}(a:i<l.length):Ky l[i]<=Xs l:=by
 induction l generalizing i with
 | nil=>cases a
 | cons p l ih=>
  simp only [Xs];cases i with
  | zero=>simp only [List.getElem_cons_zero];omega
  | succ i=>
   have:=ih (i:=i) (by simpa using a);simp only [List.getElem_cons_succ];omega
theorem Q5i(l:List Pat)(i:Nat):Xs (l.take i)<=Xs l:=by
 have:Xs l=Xs (l.take i)+Xs (l.drop i):=by rw [<-Nd,List.take_append_drop]
 omega
def Tr(p:Pat):Prop:=∀(K:Nat->Prop) (w:World) (cs:List Value),Qy K w p cs->Ky p<=40 ->
 Calls Tryz.prog 142 #[.agg cs.toArray] w fun e w'=>e=.returned (.int .i64 (Hg p:Nat))/\Ext w w'
theorem Q96(k:Int)(pl mi:Nat)(nt:Bool)(mn mx:Int)(l:List Pat)(d3:∀ p∈l,Tr p):Tr (.node k pl mi nt mn mx l):=by
 intro c0 v f2 c9 d2;unfold Qy at c9;obtain⟨J,K,rfl,e3,e2,c7,c5,c6⟩:=c9;have c8:l.length<=maxLen:=Nat.le_trans c7 c5;unfold maxLen at c8;have a7:Xs l<=39:=by unfold Ky at d2;omega
 have a9:Hg (.node k pl mi nt mn mx l)=(if k=5 then 1 else 0)+Xi l:=by rw [Hg]
 have c3:∀ b,Xi (l.take b)<=39:=fun b=>Nat.le_trans (No _) (Nat.le_trans (Q5i l b) a7);have d0:=fun b (C:b<l.length)=>Q64 C;have d1:=fun b (C:b<l.length)=>Nat.le_trans (Q90 C) a7;obtain⟨c1,c2⟩:=zE (Hg (.node k pl mi nt mn mx l));rw [c2] at a9 ⊢;have a6:Xi (l.take l.length)=Xi l:=by rw [List.take_of_length_le (Nat.le_refl _)]
 obtain⟨d,M⟩:=zE l.length;rw [M] at a6;obtain⟨b3,b2,b9,b8,H,b5,b6,b4⟩:=Zh8 M c6 d3 a9 c3 d0 d1 a6;unfold Qp;rw [M] at c8 ⊢;clear c6 d3 M c7 c5 e3 e2 c2 a9 c3 d0 d1 a6 d2 a7;go_enter Tryz.func142,Tryz.ntmps142;obtain⟨P,x⟩:∃ c:Nat,(if k=5 then 1 else 0)=c:=⟨_,rfl⟩;have a8:=b8.out;rw [x] at a8;have f4:P<=1:=by rw [<-x];split <;> omega
 have I:=Zh a8;clear a8 b8;have c4:((k:Int) == 5)=decide (k=5):=by by_cases d8:k=5 <;> simp [d8]
 go_upto_region 2 with (fail)
 have g:(v.alloc (.cells #[.int .i64 k,.int .u32 (pl:Int),.int .u32 (mi:Int),.bool nt,.int .i64 mn,.int .i64 mx,.slice J d K] 98)).heap[v.heap.size]?=some (.cells #[.int .i64 k,.int .u32 (pl:Int),.int .u32 (mi:Int),.bool nt,.int .i64 mn,.int .i64 mx,.slice J d K] 98 (0,0)):=Qc rfl;have A:Ext v (v.alloc (.cells #[.int .i64 k,.int .u32 (pl:Int),.int .u32 (mi:Int),.bool nt,.int .i64 mn,.int .i64 mx,.slice J d K] 98)):=(Qa.refl _ v).alloc _;generalize (v.alloc (.cells #[.int .i64 k,.int .u32 (pl:Int),.int .u32 (mi:Int),.bool nt,.int .i64 mn,.int .i64 mx,.slice J d K] 98))=d4 at g A ⊢;generalize v.heap.size=b1 at g ⊢;have b7:=Zh g;have w:=zR g;clear g;by_cases L:k=5
 ·subst L;have a0:P=1:=by rw [<-x];rfl
  clear x c4;subst a0;go_wp2;clear w
  refine wp_loop (fun a q=>∃(b c:Nat),b<=d/\a.defers=[]/\gS a [1,3,4]=(24,[.pointer (some ⟨b1,0,none⟩),.int .i64 c,.int .i64 b])/\c=1+Xi (l.take b)/\Ext d4 q)
   (fun a _=>d - (intOf (a.tmps.getD 4 undef)).toNat) ?_ ?_
  ·exact⟨0,_,by omega,rfl,rfl,by simp [Xi],Qa.refl _ _⟩
  rintro⟨f0,_⟩ q ⟨b,c,C,a3,F,m,e⟩;subst a3;obtain⟨f1,rfl⟩:=Zd F;clear F;have g:=e.keep b7.out;have w:=zR g;have a1:=H.out b;by_cases a4:b<d
  ·have Y:(b:Int)<(d:Int):=by omega
   have d9:(0:Int)<=(b:Int):=by omega
   have i:b<l.length:=by rw [b3.out];exact a4
   obtain⟨d7,e6,Q,rfl,e0,e1,u,s⟩:=(b2.out.ext (A.trans e)).get b i;rw [Nat.zero_add] at u;obtain⟨e8,e7,r,_,_,_⟩:=Y8 s;obtain⟨R,S,T,U,V,W,X⟩:=Uf u r;have f:=b9.out _ (List.getElem_mem i) c0 q Q s (by have:=b6.out b i;omega);have n:=b5.out b i;have a2:=H.out (b+1);obtain⟨o,G⟩:=zE (Hg l[b]);obtain⟨e9,E⟩:=zE (Xi (l.take b));obtain⟨b0,t⟩:=zE (Xi (l.take (b+1)));rw [G] at f n;rw [E] at n a1 m;rw [t] at n a2;rw [r] at f;unfold Qp at f;have e5:IntKind.i64.wrap ((c:Int)+(o:Int))=((c+o:Nat):Int):=by rw [IntWalk.i64_in _ oz];omega
   have D:c+o=1+b0:=by omega
   obtain⟨N,y,O⟩:=Zh3 D f t;have e4:c<=40:=by omega
   clear f u s r G g n E t m D;go_wp2_with fail;refine y.out.mono ?_;rintro d6 d5 ⟨rfl,B⟩;have Z:=e.trans B;clear e B R S T U V W X y w;go_wp2;exact⟨⟨b+1,c+o,by omega,tz,rfl,by rw [O.out];exact N.out,Z⟩,nz⟩
  ·obtain rfl:b=d:=by omega
   have Y:¬ (b:Int)<(b:Int):=by omega
   have a5:c=c1:=by rw [m,b4.out];exact I.out.symm
   subst a5;clear I m;go_wp2;go_ret;exact⟨rfl,A.trans e⟩
 ·have f3:((k:Int) == 5)=false:=by rw [beq_eq_false_iff_ne];exact L
  have a0:P=0:=by rw [<-x,if_neg L]
  clear x c4 L;subst a0;go_wp2;clear w
  refine wp_loop (fun a q=>∃(b c:Nat),b<=d/\a.defers=[]/\gS a [1,3,4]=(24,[.pointer (some ⟨b1,0,none⟩),.int .i64 c,.int .i64 b])/\c=0+Xi (l.take b)/\Ext d4 q)
   (fun a _=>d - (intOf (a.tmps.getD 4 undef)).toNat) ?_ ?_
  ·exact⟨0,_,by omega,rfl,rfl,by simp [Xi],Qa.refl _ _⟩
  rintro⟨f0,_⟩ q ⟨b,c,C,a3,F,m,e⟩;subst a3;obtain⟨f1,rfl⟩:=Zd F;clear F;have g:=e.keep b7.out;have w:=zR g;have a1:=H.out b;by_cases a4:b<d
  ·have Y:(b:Int)<(d:Int):=by omega
   have d9:(0:Int)<=(b:Int):=by omega
   have i:b<l.length:=by rw [b3.out];exact a4
   obtain⟨d7,e6,Q,rfl,e0,e1,u,s⟩:=(b2.out.ext (A.trans e)).get b i;rw [Nat.zero_add] at u;obtain⟨e8,e7,r,_,_,_⟩:=Y8 s;obtain⟨R,S,T,U,V,W,X⟩:=Uf u r;have f:=b9.out _ (List.getElem_mem i) c0 q Q s (by have:=b6.out b i;omega);have n:=b5.out b i;have a2:=H.out (b+1);obtain⟨o,G⟩:=zE (Hg l[b]);obtain⟨e9,E⟩:=zE (Xi (l.take b));obtain⟨b0,t⟩:=zE (Xi (l.take (b+1)));rw [G] at f n;rw [E] at n a1 m;rw [t] at n a2;rw [r] at f;unfold Qp at f;have e5:IntKind.i64.wrap ((c:Int)+(o:Int))=((c+o:Nat):Int):=by rw [IntWalk.i64_in _ oz];omega
   have D:c+o=0+b0:=by omega
   obtain⟨N,y,O⟩:=Zh3 D f t;have e4:c<=40:=by omega
   clear f u s r G g n E t m D;go_wp2_with fail;refine y.out.mono ?_;rintro d6 d5 ⟨rfl,B⟩;have Z:=e.trans B;clear e B R S T U V W X y w;go_wp2;exact⟨⟨b+1,c+o,by omega,tz,rfl,by rw [O.out];exact N.out,Z⟩,nz⟩
  ·obtain rfl:b=d:=by omega
   have Y:¬ (b:Int)<(b:Int):=by omega
   have a5:c=c1:=by rw [m,b4.out];exact I.out.symm
   subst a5;clear I m;go_wp2;go_ret;exact⟨rfl,A.trans e⟩
mutual
theorem S3:∀ p:Pat,Tr p
 | .node k pl mi nt mn mx l=>Q96 k pl mi nt mn mx l (Cf l)
theorem Cf:∀ l:List Pat,∀ p∈l,Tr p
 | [],_,h=>by cases h
 | q::l,p,h=>(List.mem_cons.1 h).elim (fun e=>e ▸ S3 q) (fun h=>Cf l p h)
end
theorem Vu{w:World}{g off:Nat}{cs:List Value}(h:w.rangeAt g off cs)(a n:Nat):w.rangeAt g (off+a) ((cs.drop a).take n):=fun j u hu=>by
 rw [List.getElem?_take] at hu
 split at hu
 ·rw [List.getElem?_drop] at hu;have:=h (a+j) u hu;rw [Nat.add_assoc];exact this
 ·cases hu
def Qc1(n:Nat)(lv:Value)(w:World)(a:Act)(W:World):Prop:=∃(i z:Nat),i<=n/\i<=301/\z<=80/\a.defers=[]/\gS a [0,3,4]=(46,[lv,.int .i64 z,.int .i64 i])/\Ext w W
def Qby(z i G:Nat)(lv:Value)(V2:World)(a:Act)(V:World):Prop:=∃(j z2:Nat),j<=2/\z2<=40*j/\a.defers=[]/\gS a [0,3,4,5,28,29,30]=(46,[lv,.int .i64 z,.int .i64 i,.int .i64 z2,.slice (some ⟨G,0,none⟩) 2 2,.int .i64 2,.int .i64 j])/\Ext V2 V
theorem Q7u{w:World}{ps:Qs}{lo:Option Addr}{n lc:Nat}(d4:Za w (.slice lo n lc) ps) (d6:ps.length=n) :
  Calls Tryz.prog 92 #[.slice lo n lc] w fun e w'=>∃ z:Nat,z<=80/\e=.returned (.int .i64 (z:Int))/\Ext w w':=by
 have i3:n<=maxLen:=by rw [<-d6];exact d4.1.2.1
 unfold maxLen at i3;have c3:=Zh d4;have g0:=Zh d6;clear d4 d6;go_enter Tryz.func92,Tryz.ntmps92;go_wp2
 refine wp_loop (Qc1 n (.slice lo n lc) w)
  (fun a _=>((n:Int) - intOf (a.tmps.getD 4 undef)).toNat) ?_ ?_
 ·exact⟨0,0,by omega,by omega,by omega,rfl,rfl,Qa.refl _ _⟩
 rintro⟨i6,_⟩ P ⟨i,z,j2,j3,f4,d3,c1,e6⟩;subst d3;obtain⟨N,rfl⟩:=Zd c1;clear c1;have c2:=Zh e6;clear e6;by_cases i2:i<n;case neg=>
  obtain rfl:i=n:=by omega
  have g8:¬ (i:Int)<(i:Int):=by omega
  clear c3;go_wp2;go_ret;exact⟨z,f4,rfl,c2.out⟩
 have g8:(i:Int)<(n:Int):=by omega
 have j0:(0:Int)<=(i:Int):=by omega
 by_cases j4:i<=300;case neg=>
  have g9:¬ (i:Int)<=300:=by omega
  clear c3;go_wp2;go_ret;exact⟨z,f4,rfl,c2.out⟩
 have g9:(i:Int)<=300:=by omega
 have i1:i<ps.length:=by rw [g0.out];exact i2
 obtain⟨g,off,i9,f1,j1,b7,d5,d1⟩:=(c3.out.ext c2.out).at i1;simp only [zV] at f1;obtain⟨rfl,i5,rfl⟩:=f1;obtain⟨x,f3⟩:=zE (ps[i]);rw [f3] at b7 d5 d1;obtain⟨k,cs⟩:=x;dsimp only at b7 d5 d1;clear f3 i5 d1 c3;obtain⟨k1,A,I,C,E,p,s,G,m,u,B,J,D,F,r,t,H,o,y,j9,i7,j8,k3,i8,k2,k0,rfl,f8,e0,e1,f7,g6,g5,g1,g2,g3,g4,f9,k4,k5,k6,k7,k8⟩:=Yb d5;have f0:P.rangeAt g (off+i*18+1) [.int .i64 A,.int .u32 (I:Int),.int .u32 (C:Int),.bool E,.int .i64 p,.int .i64 s,.slice G m u]:=Vu b7 1 7;have f2:P.rangeAt g (off+i*18+8) [.int .i64 B,.int .u32 (J:Int),.int .u32 (D:Int),.bool F,.int .i64 r,.int .i64 t,.slice H o y]:=Vu b7 8 7;have d9:=Zh f0;have e2:=Zh f2;clear f0 f2 b7 f7 g6 f8 g5 g3 g4 f9;go_upto_region 6 with (fail)
 have j:Ext P P.drew:=(Qa.refl _ P).drew;refine Z7 (S:=fun c=>Ext P c) [] kz j ?_;intro _;refine tE 0 18 j ?_;refine tE 1 19 j ?_;refine tE 2 20 j ?_;refine tE 3 21 j ?_;refine tkE (i:=4) (d:=22) (v:=?_) rfl (Or.inl ⟨by rfl,?_⟩) j ?_;rotate_left
 ·intro c a1;refine Kg (x:=.tmp 21) ?_ g (off+i*18+1) ?_ [.int .i64 A,.int .u32 (I:Int),.int .u32 (C:Int),.bool E,.int .i64 p,.int .i64 s,.slice G m u] _ (fun a8 N hu=>(show Ext P c from a1).cell_some (d9.out a8 N hu) id) Tryz.underlying98 rfl kz <;> first | rfl | (simp;done)
 try simp only [Act.put,pq]
 refine tE 5 23 j ?_;refine tE 6 24 j ?_;refine tE 7 25 j ?_;refine tE 8 26 j ?_;refine tkE (i:=9) (d:=27) (v:=?_) rfl (Or.inl ⟨by rfl,?_⟩) j ?_;rotate_left
 ·intro c a1;refine Kg (x:=.tmp 26) ?_ g (off+i*18+8) ?_ [.int .i64 B,.int .u32 (J:Int),.int .u32 (D:Int),.bool F,.int .i64 r,.int .i64 t,.slice H o y] _ (fun a8 N hu=>(show Ext P c from a1).cell_some (e2.out a8 N hu) id) Tryz.underlying98 rfl kz <;> first | rfl | (simp;done)
 try simp only [Act.put,pq]
 refine tE 12 30 j ?_;obtain⟨f,e9⟩:=zE P.drew;rw [e9] at j ⊢;clear e9;refine rE [10] ?_;refine Qb.cons rfl (fun K hK=>?_) Qb.nil;refine iw rfl ?_;go_simp;obtain⟨c8,c5⟩:=zE (f.alloc (.cells #[.int .i64 A,.int .u32 (I:Int),.int .u32 (C:Int),.bool E,.int .i64 p,.int .i64 s,.slice G m u,.int .i64 B,.int .u32 (J:Int),.int .u32 (D:Int),.bool F,.int .i64 r,.int .i64 t,.slice H o y] 98));have d2:c8.heap[f.heap.size]?=some (.cells #[.int .i64 A,.int .u32 (I:Int),.int .u32 (C:Int),.bool E,.int .i64 p,.int .i64 s,.slice G m u,.int .i64 B,.int .u32 (J:Int),.int .u32 (D:Int),.bool F,.int .i64 r,.int .i64 t,.slice H o y] 98 (0,0)):=by rw [<-c5];exact Qc rfl
 have c4:Ext P c8:=by rw [<-c5];exact j.alloc _
 rw [c5];obtain⟨L,e8⟩:=zE f.heap.size;rw [e8] at d2 ⊢;have c6:=Zh d2;clear c5 d2 e8 j;refine hK.out _ _ c4 (fun _=>?_);clear hK K;try simp only [Act.put,pq]
 refine tE 11 29 c4 ?_;refine Qv kz ?_ _;have c7:=Zh c4;clear c4 d9 e2
 have f5:∀(c:World),c.heap[L]?=some (.cells #[.int .i64 A,.int .u32 (I:Int),.int .u32 (C:Int),.bool E,.int .i64 p,.int .i64 s,.slice G m u,.int .i64 B,.int .u32 (J:Int),.int .u32 (D:Int),.bool F,.int .i64 r,.int .i64 t,.slice H o y] 98 (0,0))->c.rangeAt L 0 [.int .i64 A,.int .u32 (I:Int),.int .u32 (C:Int),.bool E,.int .i64 p,.int .i64 s,.slice G m u]:=fun c h=>by
  have:=Vu (w:=c) (g:=L) (off:=0) (cs:=[.int .i64 A,.int .u32 (I:Int),.int .u32 (C:Int),.bool E,.int .i64 p,.int .i64 s,.slice G m u,.int .i64 B,.int .u32 (J:Int),.int .u32 (D:Int),.bool F,.int .i64 r,.int .i64 t,.slice H o y]) (fun q N hu=>by have:=cell_of_row _ _ q _ _ _ h;rw [Nat.zero_add,this];simpa using hu) 0 7;exact this
 have f6:∀(c:World),c.heap[L]?=some (.cells #[.int .i64 A,.int .u32 (I:Int),.int .u32 (C:Int),.bool E,.int .i64 p,.int .i64 s,.slice G m u,.int .i64 B,.int .u32 (J:Int),.int .u32 (D:Int),.bool F,.int .i64 r,.int .i64 t,.slice H o y] 98 (0,0))->c.rangeAt L 7 [.int .i64 B,.int .u32 (J:Int),.int .u32 (D:Int),.bool F,.int .i64 r,.int .i64 t,.slice H o y]:=fun c h=>by
  have:=Vu (w:=c) (g:=L) (off:=0) (cs:=[.int .i64 A,.int .u32 (I:Int),.int .u32 (C:Int),.bool E,.int .i64 p,.int .i64 s,.slice G m u,.int .i64 B,.int .u32 (J:Int),.int .u32 (D:Int),.bool F,.int .i64 r,.int .i64 t,.slice H o y]) (fun q N hu=>by have:=cell_of_row _ _ q _ _ _ h;rw [Nat.zero_add,this];simpa using hu) 7 7;exact this
 have e3:=Zh f5;have e4:=Zh f6;clear f5 f6;go_wp2
 refine wp_loop (Qby z i L (.slice (some ⟨g,off,none⟩) n lc) c8)
  (fun a _=>(2 - intOf (a.tmps.getD 30 undef)).toNat) ?_ ?_
 ·exact⟨0,0,by omega,by omega,rfl,rfl,Qa.refl _ _⟩
 rintro⟨i6,_⟩ f ⟨a8,O,j5,j7,d3,c1,e7⟩;subst d3;obtain⟨N,rfl⟩:=Zd c1;clear c1;have R:=Zh e7;clear e7;rcases(by omega:a8=0\/a8=1\/a8=2) with rfl | rfl | rfl
 ·have e5:(0:Int)<2:=by decide
  have b5:=e0.out.ext (c7.out.trans R.out);have b6:f.rangeAt L 0 [.int .i64 A,.int .u32 (I:Int),.int .u32 (C:Int),.bool E,.int .i64 p,.int .i64 s,.slice G m u]:=fun q N hu=>(R.out).cell_some (e3.out _ c6.out q N hu) id;obtain⟨Y,T⟩:=zE (f.alloc (.cells #[.int .i64 A,.int .u32 (I:Int),.int .u32 (C:Int),.bool E,.int .i64 p,.int .i64 s,.slice G m u] 98));have a0:Y.heap[f.heap.size]?=some (.cells #[.int .i64 A,.int .u32 (I:Int),.int .u32 (C:Int),.bool E,.int .i64 p,.int .i64 s,.slice G m u] 98 (0,0)):=by rw [<-T];exact Qc rfl
  have a2:Ext f Y:=by rw [<-T];exact(Qa.refl _ f).alloc _
  obtain⟨b1,Z⟩:=zE f.heap.size;rw [Z] at a0;have a4:=b5.ext a2;have a6:=Gk a4;have c0:=Wj k.left;have l:=fun(c:World) (a1:Ext Y c) (h:Ky k.left<=40)=>S3 k.left _ c _ (a4.ext a1) h;have b8:=Pe k.left;obtain⟨d8,a7⟩:=zE (Ky k.left);obtain⟨a9,a5⟩:=zE (Hg k.left);obtain⟨b0,b9⟩:=zE (Kf k.left);rw [b9] at a6 c0;rw [a7] at c0 b8;simp only [a7,a5] at l;rw [a5] at b8;obtain⟨U,Q,b3,X⟩:=Zh4 a0 a2 a6 l;clear a0 a2 a6 l b5 a4 a7 a5 b9;go_upto_region 9 with ((refine Yp (by rfl) 98 (.tmp 32) rfl L 0 zr _ _ b6 Tryz.underlying98 rfl kz ?_))
  try rw [T]
  try rw [Z]
  clear T Z b6;try simp only [Act.put]
  go_wp2_with (refine wpList_load_row rfl 98 (.tmp 7) rfl b1 rfl _ _ _ _ U.out Tryz.underlying98 rfl kz ?_)
  refine b3.out.mono ?_;rintro e c9 ⟨rfl,a3⟩;have V:=Zh (a3.keep U.out);have M:=Zh a3;clear a3 b3 U;by_cases i0:b0<=40
  ·have d0:(b0:Int)<=40:=by omega
   have d7:d8<=40:=by omega
   have l:=X.out c9 M.out d7;have b2:=Zh l;clear l X
   go_wp2_with (refine wpList_load_row rfl 98 (.tmp 7) rfl b1 rfl _ _ _ _ V.out Tryz.underlying98 rfl kz ?_)
   refine b2.out.mono ?_;rintro e g7 ⟨rfl,b4⟩;have W:=Zh (R.out.trans (Q.out.trans (M.out.trans b4)));have i4:IntKind.i64.wrap ((O:Int)+(a9:Int))=((O+a9:Nat):Int):=by rw [IntWalk.i64_in _ oz];omega
   clear b4 b2 V M Q;go_wp2;exact⟨⟨1,O+a9,by omega,by omega,tz,rfl,W.out⟩,mz⟩
  ·have d0:¬ (b0:Int)<=40:=by omega
   have W:=Zh (R.out.trans (Q.out.trans M.out));clear X V M Q;go_wp2;exact⟨⟨1,O,by omega,by omega,tz,rfl,W.out⟩,mz⟩
 ·have e5:(1:Int)<2:=by decide
  have b5:=e1.out.ext (c7.out.trans R.out);have b6:f.rangeAt L 7 [.int .i64 B,.int .u32 (J:Int),.int .u32 (D:Int),.bool F,.int .i64 r,.int .i64 t,.slice H o y]:=fun q N hu=>(R.out).cell_some (e4.out _ c6.out q N hu) id;obtain⟨Y,T⟩:=zE (f.alloc (.cells #[.int .i64 B,.int .u32 (J:Int),.int .u32 (D:Int),.bool F,.int .i64 r,.int .i64 t,.slice H o y] 98));have a0:Y.heap[f.heap.size]?=some (.cells #[.int .i64 B,.int .u32 (J:Int),.int .u32 (D:Int),.bool F,.int .i64 r,.int .i64 t,.slice H o y] 98 (0,0)):=by rw [<-T];exact Qc rfl
  have a2:Ext f Y:=by rw [<-T];exact(Qa.refl _ f).alloc _
  obtain⟨b1,Z⟩:=zE f.heap.size;rw [Z] at a0;have a4:=b5.ext a2;have a6:=Gk a4;have c0:=Wj k.right;have l:=fun(c:World) (a1:Ext Y c) (h:Ky k.right<=40)=>S3 k.right _ c _ (a4.ext a1) h;have b8:=Pe k.right;obtain⟨d8,a7⟩:=zE (Ky k.right);obtain⟨a9,a5⟩:=zE (Hg k.right);obtain⟨b0,b9⟩:=zE (Kf k.right);rw [b9] at a6 c0;rw [a7] at c0 b8;simp only [a7,a5] at l;rw [a5] at b8;obtain⟨U,Q,b3,X⟩:=Zh4 a0 a2 a6 l;clear a0 a2 a6 l b5 a4 a7 a5 b9;go_upto_region 9 with ((refine Yp (by rfl) 98 (.tmp 32) rfl L 7 zr _ _ b6 Tryz.underlying98 rfl kz ?_))
  try rw [T]
  try rw [Z]
  clear T Z b6;try simp only [Act.put]
  go_wp2_with (refine wpList_load_row rfl 98 (.tmp 7) rfl b1 rfl _ _ _ _ U.out Tryz.underlying98 rfl kz ?_)
  refine b3.out.mono ?_;rintro e c9 ⟨rfl,a3⟩;have V:=Zh (a3.keep U.out);have M:=Zh a3;clear a3 b3 U;by_cases i0:b0<=40
  ·have d0:(b0:Int)<=40:=by omega
   have d7:d8<=40:=by omega
   have l:=X.out c9 M.out d7;have b2:=Zh l;clear l X
   go_wp2_with (refine wpList_load_row rfl 98 (.tmp 7) rfl b1 rfl _ _ _ _ V.out Tryz.underlying98 rfl kz ?_)
   refine b2.out.mono ?_;rintro e g7 ⟨rfl,b4⟩;have W:=Zh (R.out.trans (Q.out.trans (M.out.trans b4)));have i4:IntKind.i64.wrap ((O:Int)+(a9:Int))=((O+a9:Nat):Int):=by rw [IntWalk.i64_in _ oz];omega
   clear b4 b2 V M Q;go_wp2;exact⟨⟨2,O+a9,by omega,by omega,tz,rfl,W.out⟩,mz⟩
  ·have d0:¬ (b0:Int)<=40:=by omega
   have W:=Zh (R.out.trans (Q.out.trans M.out));clear X V M Q;go_wp2;exact⟨⟨2,O,by omega,by omega,tz,rfl,W.out⟩,mz⟩
 ·have e5:¬ (2:Int)<2:=by decide
  have j6:max (z:Int) (O:Int)=((max z O:Nat):Int):=by omega
  clear e3 e4 c6 e0 e1 g1 g2;go_wp2;exact⟨⟨i+1,max z O,by omega,by omega,by omega,tz,rfl,c2.out.trans (c7.out.trans R.out)⟩,mz⟩
def Jy(n:Nat)(L:List (List Nat)):List (List Nat):=L.flatMap fun o=>(X6 n o).map fun x=>o++[x]
def Yo(n:Nat):Nat->List (List Nat)
 | 0=>[[]]
 | k+1=>Jy n (Yo n k)
theorem Q8l(n m:Nat)(p:List Nat):Ji n (m+1) p=(X6 n p).flatMap fun i=>Ji n m (p++[i]):=by rw [<-Md];rfl
theorem Rs(n:Nat):∀ k m,k+m=n->(Yo n k).flatMap (Ji n m)=Ji n n []
 | 0,m,h=>by
  obtain rfl:m=n:=by omega
  simp [Yo]
 | k+1,m,h=>by
  rw [<-Rs n k (m+1) oz];show (Jy n (Yo n k)).flatMap (Ji n m)=_;unfold Jy;rw [List.flatMap_assoc];apply W8;intro a _;rw [Q8l,List.flatMap_map]
theorem Q26(n:Nat):Yo n n=Qm n:=by
 have a:=Rs n n 0 oz;have b:(Yo n n).flatMap (Ji n 0)=Yo n n:=by
  have:Ji n 0=fun p=>[p]:=funext (Ce n);rw [this];simp
 rw [b] at a;rw [a];unfold Ji;have c:X6 n []=List.range n:=by unfold X6;simp
 rw [c,Xq];simp
theorem Q6l{α:Type}{p:α->Bool}{L:List α}{i:Nat}(c:i<L.length)(d:p L[i]=true):(L.filter p)[((L.take i).filter p).length]?=some L[i]:=by
 have a:L.filter p=(L.take i).filter p++L[i]::(L.drop (i+1)).filter p:=by
  have b:(L.drop i).filter p=L[i]::(L.drop (i+1)).filter p:=by rw [List.drop_eq_getElem_cons c,List.filter_cons_of_pos d]
  rw [<-b,<-List.filter_append,List.take_append_drop]
 rw [a,List.getElem?_append_right (Nat.le_refl _)];simp
section
variable {LD:List Qe} {qs:Qi}
theorem Q1v{L:List (List Nat)} {k:Nat} (a:k<L.length):Yc LD qs (L.take (k+1))=Yk LD qs (Yc LD qs (L.take k)) L[k]:=by
 rw [List.take_succ_eq_append_getElem a,Pn]
theorem Sy:∀(l:List (List Nat)) (s:List Nat × Int),s.2<=(l.foldl (Yk LD qs) s).2
 | [],_=>Int.le_refl _
 | x::l,s=>by
  rw [List.foldl_cons];refine Int.le_trans ?_ (Sy l _);unfold Yk
  split
  ·dsimp only;omega
  ·exact Int.le_refl _
theorem Q0x(L:List (List Nat)) (k:Nat):Yc LD qs L=(L.drop k).foldl (Yk LD qs) (Yc LD qs (L.take k)):=by
 unfold Yc;rw [<-List.foldl_append,List.take_append_drop]
theorem Q8f{L:List (List Nat)} {x:List Nat} (e:x∈L):(Wa LD qs x:Int)<=(Yc LD qs L).2:=by
 obtain⟨b,d,rfl⟩:=List.getElem_of_mem e;have c:=Q0x (LD:=LD) (qs:=qs) L (b+1);have a:=Sy (LD:=LD) (qs:=qs) (L.drop (b+1)) (Yc LD qs (L.take (b+1)));rw [<-c,Q1v d] at a;unfold Yk at a
 split at a
 ·exact a
 ·rename_i f;omega
theorem Q5s(L:List (List Nat)):(Yc LD qs L).2=-1\/∃ x∈L,(Wa LD qs x:Int)=(Yc LD qs L).2:=by
 unfold Yc;have e:∀(a:List (List Nat)) (b:List Nat × Int),(a.foldl (Yk LD qs) b).2=b.2\/∃ x∈a,(Wa LD qs x:Int)=(a.foldl (Yk LD qs) b).2:=by
  intro a
  induction a with
  | nil=>intro b;exact .inl rfl
  | cons x a ih=>
   intro b;rw [List.foldl_cons];rcases ih (Yk LD qs b x) with c | ⟨f,d,c⟩
   ·rw [c];unfold Yk
    split
    ·exact .inr ⟨x,by simp,rfl⟩
    ·exact .inl rfl
   ·exact .inr ⟨f,by simp [d],c⟩
 exact e L _
theorem Q7e(x:List Nat):(Yg LD x qs).length=qs.length:=by unfold Yg;rw [List.length_map]
theorem T2{x:List Nat}:Xm LD qs x=true↔Wa LD qs x=qs.length:=by
 unfold Xm Wa Do;rw [<-Q7e (LD:=LD) (qs:=qs) x,List.countP_eq_length,List.all_eq_true]
theorem Q5h{L:List (List Nat)}:(Yc LD qs L).2=qs.length↔L.filter (Xm LD qs)≠[]:=by
 constructor
 ·intro c;rcases Q5s (LD:=LD) (qs:=qs) L with a | ⟨e,b,a⟩
  ·omega
  ·have d:Xm LD qs e=true:=T2.2 oz;exact List.ne_nil_of_mem (List.mem_filter.2 ⟨b,d⟩)
 ·intro c;obtain⟨e,b⟩:=List.exists_mem_of_ne_nil _ c;obtain⟨f,g⟩:=List.mem_filter.1 b;have a:=Q8f (LD:=LD) (qs:=qs) f;rw [T2.1 g] at a;have d:=(Te LD qs L).2;omega
end
def Q9i(o:List Nat)(x y:Nat):Bool:=!(o.take (o.idxOf x)).contains y
def Qcg(L:List (List Nat)) (x y:Nat):Bool:=decide (x≠y) && L.all fun o=>Q9i o x y
def Ka(LD:List Qe)(QS:List (Wd × Wd)):Prop:=LD.length<=4/\QS.length<=5/\Z6 LD QS=0
theorem Q1m{LD:List Qe}{a:List (Wd × Wd)} (f:LD.length<=6) (c:LD.all Zx=true) (d:a.length<=32) (b:∀ q∈a,wE q.1=0/\wE q.2=0):Z6 LD a=0:=by
 unfold Z6;rw [if_neg oz,if_pos c,if_neg oz];clear d
 induction a with
 | nil=>rfl
 | cons q a ih=>
  have:=b q zy;have e:wpE q=0:=by unfold wpE;rw [if_pos this.1];exact this.2
  rw [List.map_cons];unfold Yv;rw [if_pos e];exact ih fun q hq=>b q (by simp [hq])
theorem Q28{LD:List Qe}(h:Jv LD=0):LD.all Zx=true:=by
 unfold Jv at h
 split at h
 ·cases h
 ·split at h
  ·assumption
  ·cases h
theorem Nb(n:Nat)(j:n<=4):(Qm n).length<=24:=by
 have a:∀ n,(Qm (n+1)).length=(n+1)*(Qm n).length:=fun n=>by
  conv=>lhs;unfold Qm
  rw [List.length_flatMap];have b:(List.range (n+1)).map (fun f=>((Qm n).map fun r=>f::r.map fun x=>if f<=x then x+1 else x).length)=List.replicate (n+1) (Qm n).length:=by
   apply List.ext_getElem
   ·simp
   ·intro k c d;simp
  rw [b];simp
 have e:(Qm 0).length=1:=rfl;have c:(Qm 1).length=1*(Qm 0).length:=a 0;have d:(Qm 2).length=2*(Qm 1).length:=a 1;have g:(Qm 3).length=3*(Qm 2).length:=a 2;have i:(Qm 4).length=4*(Qm 3).length:=a 3;have:n=0\/n=1\/n=2\/n=3\/n=4:=by omega
 rcases this with rfl | rfl | rfl | rfl | rfl <;> omega
theorem Q04(n:Nat):0<(Qm n).length:=by
 induction n with
 | zero=>exact Nat.one_pos
 | succ n ih=>
  unfold Qm;rw [List.length_flatMap,List.range_succ_eq_map,List.map_cons,List.sum_cons,List.length_map];omega
theorem Q43(LD:List Qe)(qs:Qi)(n:Nat)(b:n<=4):(Ze LD qs n).length<=24:=by
 have a:=Me LD qs n;rw [Xq] at a;exact Nat.le_trans a (Nb n b)
theorem W6(LD:List Qe)(qs:Qi)(n:Nat):Ze LD qs n=(Qm n).filter (Xm LD qs):=by unfold Ze;rw [Xq]
def U3(x:List Nat):List Int:=x.map fun(i:Nat)=>(i:Int)
theorem Q33(x:List Nat):Y3 (U3 x)=x:=by
 unfold Y3 U3;rw [List.map_map];conv=>rhs;rw [<-List.map_id x]
 apply List.map_congr_left;intro a _;simp
theorem Q3r(x:List Nat):Zw (U3 x)=Qq x:=by
 unfold Zw U3 Qq;rw [List.map_map];rfl
theorem Cq{n:Nat}{x:List Nat}(a:x∈Qm n):U8 (U3 x) n=true:=by
 rw [<-Xq] at a;obtain⟨b,c⟩:=Q0g n x a;unfold U8 U3;rw [decide_eq_true_iff];apply List.Perm.map;rw [List.perm_ext_iff_of_nodup b List.nodup_range];intro d;rw [c,List.mem_range]
theorem Lj{LD:List Qe}{a:List (Wd × Wd)} {x:List Nat} (h:Z6 LD a=0) (b:x∈Qm LD.length):Ya LD (U3 x) a=0:=by
 unfold Ya;rw [if_pos h,if_pos (Cq b)]
def byI(ps:Qs)(x:List Nat)(qs:Qi):Int:=if Ub ps x qs=qs.length then -1 else(Ub ps x qs:Nat)
theorem Q9g{ps:Qs}{qs:Qi}{x:List Nat}(h:Z6 (ps.map (·.1)) (qs.map (·.1))=0) (c:x∈Qm ps.length):Hs (ps.map (·.1)) (U3 x) qs=max (byI ps x qs) 0/\Gs (ps.map (·.1)) (U3 x) qs=decide (0<=byI ps x qs):=by
 have b:=Lj h (x:=x) (by rw [List.length_map];exact c);rw [<-St.1,<-St.2];unfold Q3f Q2h byI;rw [if_pos b,if_pos b,Q33];by_cases a:Ub ps x qs=qs.length
 ·rw [if_pos a,if_pos a];refine⟨by decide,?_⟩;rw [decide_eq_false (by simpa using a)];decide
 ·rw [if_neg a,if_neg a];refine⟨by omega,?_⟩;rw [decide_eq_true a,decide_eq_true oz]
theorem Q9h{ps:Qs}{qs:Qi}{x:List Nat}(h:Z6 (ps.map (·.1)) (qs.map (·.1))=0) (d:x∈Qm ps.length):Xm (ps.map (·.1)) qs x=decide (byI ps x qs<0):=by
 have e:=(Ju _ x d).1;have b:=(Mc h).1;rw [List.length_map] at b;have c:=Td (ol:=x) h oz;unfold Xm byI;rw [<-c];by_cases a:Ub ps x qs=qs.length
 ·rw [if_pos a,Fl.1 a];decide
 ·rw [if_neg a,decide_eq_false oz];cases hb:(Kr ps x qs).all id with
  | false=>rfl
  | true=>exact absurd (Fl.2 hb) a
theorem Q44{ps:Qs}{qs:Qi}{l:List Nat}(h:Z6 (ps.map (·.1)) (qs.map (·.1))=0) (c:l∈Qm ps.length) (k:∀ q∈qs,Mo ps l q.1.1 q.1.2=true) :
  Gs (ps.map (·.1)) (U3 l) qs=false/\Wv (ps.map (·.1)) qs=true/\Mj (ps.map (·.1)) qs=qs.length/\(Vw (ps.map (·.1)) qs).length=ps.length/\l∈Ze (ps.map (·.1)) qs ps.length:=by
 have m:(Kr ps l qs).all id=true:=by
  rw [List.all_eq_true];intro p b;obtain⟨q,o,rfl⟩:=List.mem_map.1 b;exact k q o
 have n:=Fl.2 m;have b:byI ps l qs=-1:=by unfold byI;rw [if_pos n]
 have j:Xm (ps.map (·.1)) qs l=true:=by rw [Q9h h c,b];rfl
 have i:l∈Ze (ps.map (·.1)) qs ps.length:=by
  rw [W6];exact List.mem_filter.2 ⟨c,j⟩
 have d:(ps.map (·.1)).length=ps.length:=List.length_map ..;have f:Ze (ps.map (·.1)) qs ps.length≠[]:=List.ne_nil_of_mem i;refine⟨by rw [(Q9g h c).2,b];rfl,?_,?_,?_,i⟩
 ·unfold Wv;rw [if_pos h,d];cases e:Ze (ps.map (·.1)) qs ps.length with
  | nil=>exact absurd e f
  | cons a r=>rfl
 ·unfold Mj;rw [if_pos h,d];apply Q5h.2;exact f
 ·unfold Vw;rw [if_pos h,d];cases e:Ze (ps.map (·.1)) qs ps.length with
  | nil=>exact absurd e f
  | cons a r=>
   have g:a∈Ze (ps.map (·.1)) qs ps.length:=by rw [e];simp
   rw [W6] at g;exact(Ju _ a (List.mem_filter.1 g).1).1
theorem Q41(LD:List Qe)(q:(Wd × Wd) × List Value) (qs:Qi) (n:Nat):Ze LD (q::qs) n=(Ze LD qs n).filter fun x=>xB (Yw LD x (some q.1.1)) q.1.2:=by
 unfold Ze;rw [List.filter_filter];apply List.filter_congr;intro x _;unfold Xm Yg;simp
theorem Q0i{α:Type} [DecidableEq α] {p:α->Bool} {f:List α} {i:Nat} (hi:i<f.length):((f.take i).filter p).length<(f.filter p).length/\(f.filter p)[((f.take i).filter p).length]?=some f[i]↔p f[i]=true:=by
 constructor
 ·rintro⟨_,a⟩;exact(List.mem_filter.1 (List.mem_of_getElem? a)).2
 ·intro a;have:=Q6l hi a;exact⟨(List.getElem?_eq_some_iff.1 this).1,this⟩
theorem S4{α:Type}(p:α->Bool){f:List α}{i:Nat}(b:i<f.length):((f.take (i+1)).filter p).length=((f.take i).filter p).length+if p f[i]=true then 1 else 0:=by
 rw [List.take_succ_eq_append_getElem b,List.filter_append,List.length_append];by_cases a:p f[i]=true <;> simp [a]
theorem Q5l(LD:List Qe)(n:Nat):Ze LD [] n=Qm n:=by
 rw [W6];apply List.filter_eq_self.2;intro a _;rfl
theorem Q37(w:World)(b8:Tab w):Calls Tryz.prog 33 #[] w fun e w'=>e=.returned (.bool true)/\Ext w w':=by
 go_enter Tryz.func33,Tryz.ntmps33;have l5:Ext w w:=Qa.refl _ _;go_wp2_with fail;refine(Q5d _).mono ?_;rintro e l2 ⟨N,O,rfl,q2,c⟩;have l6:Ext w l2:=l5.trans c;have u4:=c;have k3:Hid (∀ a,Ext l2 a->Zm a vD [.string ⟨#[86]⟩,.int .i64 1,.int .u32 4,.int .u32 0,.bool false,.int .i64 0,.int .i64 0,.slice none 0 0,.int .i64 1,.int .u32 4,.int .u32 0,.bool false,.int .i64 0,.int .i64 0,.slice none 0 0,.slice (some ⟨N,0,none⟩) 1 1,.slice (some ⟨O,0,none⟩) 1 1,.int .i64 1]):=Zh (fun a f=>q2.ext f);clear q2;clear c;go_wp2_with fail;refine(Q5a _).mono ?_;rintro e l4 ⟨P,rfl,q3,c⟩;have m3:Ext w l4:=l6.trans c;have u7:=c;have k4:Hid (∀ a,Ext l4 a->Zm a fD [.string ⟨#[70]⟩,.int .i64 0,.int .u32 0,.int .u32 0,.bool false,.int .i64 0,.int .i64 0,.slice none 0 0,.int .i64 6,.int .u32 0,.int .u32 0,.bool false,.int .i64 0,.int .i64 0,.slice none 0 0,.slice (some ⟨P,0,none⟩) 1 1,.slice none 0 0,.int .i64 1]):=Zh (fun a f=>q3.ext f);clear q3;have r0:=c;clear c;go_wp2_with fail;refine(Qb4 _).mono ?_;rintro e b1 ⟨Q,R,rfl,q4,c⟩;have n3:Ext w b1:=m3.trans c;have w1:=c;have k5:Hid (∀ a,Ext b1 a->Zm a uD [.string ⟨#[85]⟩,.int .i64 0,.int .u32 0,.int .u32 0,.bool false,.int .i64 0,.int .i64 0,.slice none 0 0,.int .i64 6,.int .u32 0,.int .u32 0,.bool false,.int .i64 0,.int .i64 0,.slice none 0 0,.slice (some ⟨Q,0,none⟩) 1 1,.slice (some ⟨R,0,none⟩) 1 1,.int .i64 1]):=Zh (fun a f=>q4.ext f);clear q4;have a7:=c;clear c;obtain⟨T,f5⟩:=zE (b1.alloc (.cells #[.string ⟨#[86]⟩,.int .i64 1,.int .u32 4,.int .u32 0,.bool false,.int .i64 0,.int .i64 0,.slice none 0 0,.int .i64 1,.int .u32 4,.int .u32 0,.bool false,.int .i64 0,.int .i64 0,.slice none 0 0,.slice (some ⟨N,0,none⟩) 1 1,.slice (some ⟨O,0,none⟩) 1 1,.int .i64 1,.string ⟨#[70]⟩,.int .i64 0,.int .u32 0,.int .u32 0,.bool false,.int .i64 0,.int .i64 0,.slice none 0 0,.int .i64 6,.int .u32 0,.int .u32 0,.bool false,.int .i64 0,.int .i64 0,.slice none 0 0,.slice (some ⟨P,0,none⟩) 1 1,.slice none 0 0,.int .i64 1,.string ⟨#[85]⟩,.int .i64 0,.int .u32 0,.int .u32 0,.bool false,.int .i64 0,.int .i64 0,.slice none 0 0,.int .i64 6,.int .u32 0,.int .u32 0,.bool false,.int .i64 0,.int .i64 0,.slice none 0 0,.slice (some ⟨Q,0,none⟩) 1 1,.slice (some ⟨R,0,none⟩) 1 1,.int .i64 1] 102));have n8:Ext w T:=by rw [<-f5];exact n3.alloc _
 have j2:T.heap[b1.heap.size]?=some (.cells #[.string ⟨#[86]⟩,.int .i64 1,.int .u32 4,.int .u32 0,.bool false,.int .i64 0,.int .i64 0,.slice none 0 0,.int .i64 1,.int .u32 4,.int .u32 0,.bool false,.int .i64 0,.int .i64 0,.slice none 0 0,.slice (some ⟨N,0,none⟩) 1 1,.slice (some ⟨O,0,none⟩) 1 1,.int .i64 1,.string ⟨#[70]⟩,.int .i64 0,.int .u32 0,.int .u32 0,.bool false,.int .i64 0,.int .i64 0,.slice none 0 0,.int .i64 6,.int .u32 0,.int .u32 0,.bool false,.int .i64 0,.int .i64 0,.slice none 0 0,.slice (some ⟨P,0,none⟩) 1 1,.slice none 0 0,.int .i64 1,.string ⟨#[85]⟩,.int .i64 0,.int .u32 0,.int .u32 0,.bool false,.int .i64 0,.int .i64 0,.slice none 0 0,.int .i64 6,.int .u32 0,.int .u32 0,.bool false,.int .i64 0,.int .i64 0,.slice none 0 0,.slice (some ⟨Q,0,none⟩) 1 1,.slice (some ⟨R,0,none⟩) 1 1,.int .i64 1] 102 (0,0)):=by rw [<-f5];exact Qc rfl
 have d6:Ext b1 T:=by rw [<-f5];exact(Qa.refl _ b1).alloc _
 have w6:=d6;obtain⟨k0,p3⟩:=zE b1.heap.size;rw [p3] at j2
 have d3:Za T (.slice (some ⟨k0,0,none⟩) 3 3) [(vD,[.string ⟨#[86]⟩,.int .i64 1,.int .u32 4,.int .u32 0,.bool false,.int .i64 0,.int .i64 0,.slice none 0 0,.int .i64 1,.int .u32 4,.int .u32 0,.bool false,.int .i64 0,.int .i64 0,.slice none 0 0,.slice (some ⟨N,0,none⟩) 1 1,.slice (some ⟨O,0,none⟩) 1 1,.int .i64 1]),(fD,[.string ⟨#[70]⟩,.int .i64 0,.int .u32 0,.int .u32 0,.bool false,.int .i64 0,.int .i64 0,.slice none 0 0,.int .i64 6,.int .u32 0,.int .u32 0,.bool false,.int .i64 0,.int .i64 0,.slice none 0 0,.slice (some ⟨P,0,none⟩) 1 1,.slice none 0 0,.int .i64 1]),(uD,[.string ⟨#[85]⟩,.int .i64 0,.int .u32 0,.int .u32 0,.bool false,.int .i64 0,.int .i64 0,.slice none 0 0,.int .i64 6,.int .u32 0,.int .u32 0,.bool false,.int .i64 0,.int .i64 0,.slice none 0 0,.slice (some ⟨Q,0,none⟩) 1 1,.slice (some ⟨R,0,none⟩) 1 1,.int .i64 1])]:=⟨Yi (xs:=[.string ⟨#[86]⟩,.int .i64 1,.int .u32 4,.int .u32 0,.bool false,.int .i64 0,.int .i64 0,.slice none 0 0,.int .i64 1,.int .u32 4,.int .u32 0,.bool false,.int .i64 0,.int .i64 0,.slice none 0 0,.slice (some ⟨N,0,none⟩) 1 1,.slice (some ⟨O,0,none⟩) 1 1,.int .i64 1,.string ⟨#[70]⟩,.int .i64 0,.int .u32 0,.int .u32 0,.bool false,.int .i64 0,.int .i64 0,.slice none 0 0,.int .i64 6,.int .u32 0,.int .u32 0,.bool false,.int .i64 0,.int .i64 0,.slice none 0 0,.slice (some ⟨P,0,none⟩) 1 1,.slice none 0 0,.int .i64 1,.string ⟨#[85]⟩,.int .i64 0,.int .u32 0,.int .u32 0,.bool false,.int .i64 0,.int .i64 0,.slice none 0 0,.int .i64 6,.int .u32 0,.int .u32 0,.bool false,.int .i64 0,.int .i64 0,.slice none 0 0,.slice (some ⟨Q,0,none⟩) 1 1,.slice (some ⟨R,0,none⟩) 1 1,.int .i64 1]) j2 rfl zd,fun p z=>by
  simp only [List.mem_cons,List.not_mem_nil,or_false] at z;rcases z with rfl | rfl | rfl
  ·exact k3.out _ (r0.trans (a7.trans d6))
  ·exact k4.out _ (a7.trans d6)
  ·exact k5.out _ d6⟩
 have b4:Hid (∀ a,Ext T a->Za a (.slice (some ⟨k0,0,none⟩) 3 3) [(vD,[.string ⟨#[86]⟩,.int .i64 1,.int .u32 4,.int .u32 0,.bool false,.int .i64 0,.int .i64 0,.slice none 0 0,.int .i64 1,.int .u32 4,.int .u32 0,.bool false,.int .i64 0,.int .i64 0,.slice none 0 0,.slice (some ⟨N,0,none⟩) 1 1,.slice (some ⟨O,0,none⟩) 1 1,.int .i64 1]),(fD,[.string ⟨#[70]⟩,.int .i64 0,.int .u32 0,.int .u32 0,.bool false,.int .i64 0,.int .i64 0,.slice none 0 0,.int .i64 6,.int .u32 0,.int .u32 0,.bool false,.int .i64 0,.int .i64 0,.slice none 0 0,.slice (some ⟨P,0,none⟩) 1 1,.slice none 0 0,.int .i64 1]),(uD,[.string ⟨#[85]⟩,.int .i64 0,.int .u32 0,.int .u32 0,.bool false,.int .i64 0,.int .i64 0,.slice none 0 0,.int .i64 6,.int .u32 0,.int .u32 0,.bool false,.int .i64 0,.int .i64 0,.slice none 0 0,.slice (some ⟨Q,0,none⟩) 1 1,.slice (some ⟨R,0,none⟩) 1 1,.int .i64 1])]):=Zh (fun a f=>d3.ext f);clear d3 k3 k4 k5 r0 a7 d6;go_wp2_with fail;refine(Ro _).mono ?_;rintro e t2 ⟨rfl,c⟩;have n9:Ext w t2:=n8.trans c;have t5:=c;clear f5 p3 j2;clear c;go_wp2_with fail;refine(Qbg _).mono ?_;rintro e b6 ⟨rfl,c⟩;have o0:Ext w b6:=n9.trans c;have t6:=c;clear c;obtain⟨e1,f6⟩:=zE (b6.alloc (.cells #[.int .u32 5,.int .u32 2,.int .u32 3,.int .u32 4] 95));have o1:Ext w e1:=by rw [<-f6];exact o0.alloc _
 have i4:e1.heap[b6.heap.size]?=some (.cells #[.int .u32 5,.int .u32 2,.int .u32 3,.int .u32 4] 95 (0,0)):=by rw [<-f6];exact Qc rfl
 have r1:Ext b6 e1:=by rw [<-f6];exact(Qa.refl _ b6).alloc _
 have t7:=r1;obtain⟨j,o5⟩:=zE b6.heap.size;rw [o5] at i4;have a8:Hid (∀ a,Ext e1 a->Qk a (.slice (some ⟨j,0,none⟩) 2 2) abO):=Zh (fun a f=>Qk.ext ⟨Yi (xs:=Zv abO) i4 rfl zd,by simp [Yh]⟩ f);clear r1;go_wp2_with fail;refine(Si _ _ _ _).mono ?_;rintro e a6 ⟨k,rfl,d2,c⟩;have o2:Ext w a6:=o1.trans c;have t8:=c;have b7:Hid (∀ a,Ext a6 a->Qk a (.slice (some ⟨k,0,none⟩) 3 3) Y1):=Zh (fun a f=>d2.ext f);have a8:Hid (∀ a,Ext a6 a->Qk a (.slice (some ⟨j,0,none⟩) 2 2) abO):=Zh (fun a f=>a8.out a (c.trans f));clear c d2;clear f6 o5 i4;obtain⟨F,f7⟩:=zE (a6.alloc (.cells #[.slice (some ⟨k,0,none⟩) 3 3,.slice (some ⟨j,0,none⟩) 2 2] 105));have o3:Ext w F:=by rw [<-f7];exact o2.alloc _
 have e4:F.heap[a6.heap.size]?=some (.cells #[.slice (some ⟨k,0,none⟩) 3 3,.slice (some ⟨j,0,none⟩) 2 2] 105 (0,0)):=by rw [<-f7];exact Qc rfl
 have c1:Ext a6 F:=by rw [<-f7];exact(Qa.refl _ a6).alloc _
 have t9:=c1;obtain⟨d9,p6⟩:=zE a6.heap.size;rw [p6] at e4
 have z:Zg F (.slice (some ⟨d9,0,none⟩) 1 1) [((Y1,abO),[.slice (some ⟨k,0,none⟩) 3 3,.slice (some ⟨j,0,none⟩) 2 2])]:=⟨Yi (xs:=[.slice (some ⟨k,0,none⟩) 3 3,.slice (some ⟨j,0,none⟩) 2 2]) e4 rfl zd,fun p z=>by
  simp only [List.mem_cons,List.not_mem_nil,or_false] at z;subst z;exact⟨rfl,_,_,rfl,⟨_,3,rfl,b7.out _ c1,Nat.le_refl 3⟩,⟨_,2,rfl,a8.out _ c1,Nat.le_refl 2⟩⟩⟩
 have c6:Hid (∀ a,Ext F a->Zg a (.slice (some ⟨d9,0,none⟩) 1 1) [((Y1,abO),[.slice (some ⟨k,0,none⟩) 3 3,.slice (some ⟨j,0,none⟩) 2 2])]):=Zh (fun a f=>Z3 z f);have k2:Hid (∀ a,Ext F a->a.heap[d9]?=some (.cells #[.slice (some ⟨k,0,none⟩) 3 3,.slice (some ⟨j,0,none⟩) 2 2] 105 (0,0))):=Zh (fun a f=>Ext.keep f e4);have a8:Hid (∀ a,Ext F a->Qk a (.slice (some ⟨j,0,none⟩) 2 2) abO):=Zh (fun a f=>a8.out a (c1.trans f));have b7:Hid (∀ a,Ext F a->Qk a (.slice (some ⟨k,0,none⟩) 3 3) Y1):=Zh (fun a f=>b7.out a (c1.trans f));clear z e4 c1;go_wp2_with fail;refine(Ro _).mono ?_;rintro e t0 ⟨rfl,c⟩;have l7:Ext w t0:=o3.trans c;have r2:=c;clear f7 p6;clear c;go_wp2_with fail;refine(Q5z _).mono ?_;rintro e b5 ⟨rfl,c⟩;have l8:Ext w b5:=l7.trans c;have r3:=c;clear c;obtain⟨e0,e5⟩:=zE (b5.alloc (.cells #[.int .u32 5,.int .u32 2,.int .u32 2,.int .u32 5] 95));have l9:Ext w e0:=by rw [<-e5];exact l8.alloc _
 have i6:e0.heap[b5.heap.size]?=some (.cells #[.int .u32 5,.int .u32 2,.int .u32 2,.int .u32 5] 95 (0,0)):=by rw [<-e5];exact Qc rfl
 have q9:Ext b5 e0:=by rw [<-e5];exact(Qa.refl _ b5).alloc _
 have r4:=q9;obtain⟨t,o7⟩:=zE b5.heap.size;rw [o7] at i6;have b3:Hid (∀ a,Ext e0 a->Qk a (.slice (some ⟨t,0,none⟩) 2 2) apO):=Zh (fun a f=>Qk.ext ⟨Yi (xs:=Zv apO) i6 rfl zd,by simp [Yh]⟩ f);clear q9;go_wp2_with fail;refine(Si _ _ _ _).mono ?_;rintro e a0 ⟨u,rfl,d2,c⟩;have m0:Ext w a0:=l9.trans c;have r5:=c;have c9:Hid (∀ a,Ext a0 a->Qk a (.slice (some ⟨u,0,none⟩) 3 3) Y1):=Zh (fun a f=>d2.ext f);have b3:Hid (∀ a,Ext a0 a->Qk a (.slice (some ⟨t,0,none⟩) 2 2) apO):=Zh (fun a f=>b3.out a (c.trans f));clear c d2;clear e5 o7 i6;obtain⟨o,e6⟩:=zE (a0.alloc (.cells #[.slice (some ⟨u,0,none⟩) 3 3,.slice (some ⟨t,0,none⟩) 2 2] 105));have e2:Ext w o:=by rw [<-e6];exact m0.alloc _
 have i3:o.heap[a0.heap.size]?=some (.cells #[.slice (some ⟨u,0,none⟩) 3 3,.slice (some ⟨t,0,none⟩) 2 2] 105 (0,0)):=by rw [<-e6];exact Qc rfl
 have g0:Ext a0 o:=by rw [<-e6];exact(Qa.refl _ a0).alloc _
 have r6:=g0;obtain⟨j8,o4⟩:=zE a0.heap.size;rw [o4] at i3;have k1:Hid (∀ a,Ext o a->a.heap[j8]?=some (.cells #[.slice (some ⟨u,0,none⟩) 3 3,.slice (some ⟨t,0,none⟩) 2 2] 105 (0,0))):=Zh (fun a f=>Ext.keep f i3);have b3:Hid (∀ a,Ext o a->Qk a (.slice (some ⟨t,0,none⟩) 2 2) apO):=Zh (fun a f=>b3.out a (g0.trans f));have c9:Hid (∀ a,Ext o a->Qk a (.slice (some ⟨u,0,none⟩) 3 3) Y1):=Zh (fun a f=>c9.out a (g0.trans f));go_upto_region 3 with (fail)
 clear e6 o4 i3 g0;have D:Ext T o:=(t5.trans (t6.trans (t7.trans (t8.trans (t9.trans (r2.trans (r3.trans (r4.trans (r5.trans r6)))))))));have r:Ext F o:=(r2.trans (r3.trans (r4.trans (r5.trans r6))))
 go_cut [4,5,6] from 30 to 40 (fun v4 v5 v6 wx=>v4=.int .i64 1/\v5=.bool true/\v6=.int .i64 0/\Ext o wx)
 case first=>
  have I:Ext o o.drew:=(Qa.refl _ o).drew;refine Z7 (S:=fun a=>Ext o a) [] kz I ?_;intro _;obtain⟨Z,p7⟩:=zE o.drew;rw [p7] at I ⊢;clear p7;refine tE 0 30 I ?_;refine tkE (i:=2) (d:=32) (v:=?_) rfl (Or.inl ⟨by rfl,?_⟩) I ?_;rotate_left
  ·intro a f;have j5:=k1.out a (show Ext o a from f);refine Vd (x:=.tmp 3) ?_ j8 ?_ _ _ _ j5 Tryz.underlying105 Lf <;> rfl
  try simp only [Act.put,pq]
  refine tE 3 33 I ?_;refine tE 4 34 I ?_;refine tkE (i:=5) (d:=35) (v:=?_) rfl (Or.inl ⟨by rfl,?_⟩) I ?_;rotate_left
  ·intro a f;have j5:=k2.out a (r.trans (show Ext o a from f));refine Vd (x:=.tmp 34) ?_ d9 ?_ _ _ _ j5 Tryz.underlying105 Lf <;> rfl
  try simp only [Act.put,pq]
  refine rE [1,6] ?_;refine Qb.cons rfl (fun K hK=>?_) (Qb.cons rfl (fun K hK=>?_) Qb.nil)
  ·refine iw rfl ?_;go_simp;obtain⟨y,n⟩:=zE (Z.alloc (.cells #[.int .i64 0,.int .i64 1,.int .i64 2] 3));have B:y.heap[Z.heap.size]?=some (.cells #[.int .i64 0,.int .i64 1,.int .i64 2] 3 (0,0)):=by rw [<-n];exact Qc rfl
   have J:Ext o y:=by rw [<-n];exact I.alloc _
   rw [n];obtain⟨g4,d0⟩:=zE Z.heap.size;rw [d0] at B ⊢;have g6:Hid (∀ a,Ext y a->Rd a (.slice (some ⟨g4,0,none⟩) 3 3) 3 1 (Zw [0,1,2])):=Zh (fun a f=>(Yi (xs:=Zw [0,1,2]) B rfl zd).ext f);have t3:Ext Z y:=by rw [<-n];exact(Qa.refl _ _).alloc _
   clear n B d0;refine hK _ _ J (fun _=>?_);clear hK K;try simp only [Act.put,pq]
   refine rE [6] ?_;refine Qb.cons rfl (fun K hK=>?_) Qb.nil;refine iw rfl ?_;go_simp;obtain⟨H,n⟩:=zE (y.alloc (.cells #[.slice (some ⟨u,0,none⟩) 3 3,.slice (some ⟨t,0,none⟩) 2 2,.slice (some ⟨k,0,none⟩) 3 3,.slice (some ⟨j,0,none⟩) 2 2] 105));have B:H.heap[y.heap.size]?=some (.cells #[.slice (some ⟨u,0,none⟩) 3 3,.slice (some ⟨t,0,none⟩) 2 2,.slice (some ⟨k,0,none⟩) 3 3,.slice (some ⟨j,0,none⟩) 2 2] 105 (0,0)):=by rw [<-n];exact Qc rfl
   have C:Ext o H:=by rw [<-n];exact J.alloc _
   rw [n];obtain⟨c5,d1⟩:=zE y.heap.size;rw [d1] at B ⊢
   have g7:Hid (∀ a,Ext H a->Zg a (.slice (some ⟨c5,0,none⟩) 2 2) [((Y1,apO),[.slice (some ⟨u,0,none⟩) 3 3,.slice (some ⟨t,0,none⟩) 2 2]),((Y1,abO),[.slice (some ⟨k,0,none⟩) 3 3,.slice (some ⟨j,0,none⟩) 2 2])]):=Zh (fun a f=>Z3 (v:=.slice (some ⟨c5,0,none⟩) 2 2) ⟨Yi (xs:=[.slice (some ⟨u,0,none⟩) 3 3,.slice (some ⟨t,0,none⟩) 2 2,.slice (some ⟨k,0,none⟩) 3 3,.slice (some ⟨j,0,none⟩) 2 2]) B rfl zd,fun p z=>by
    simp only [List.mem_cons,List.not_mem_nil,or_false] at z;rcases z with rfl | rfl
    ·exact⟨rfl,_,_,rfl,⟨_,3,rfl,c9.out _ C,Nat.le_refl 3⟩,⟨_,2,rfl,b3.out _ C,Nat.le_refl 2⟩⟩
    ·exact⟨rfl,_,_,rfl,⟨_,3,rfl,b7.out _ (r.trans C),Nat.le_refl 3⟩,⟨_,2,rfl,a8.out _ (r.trans C),Nat.le_refl 2⟩⟩⟩ f)
   have j6:Ext y H:=by rw [<-n];exact(Qa.refl _ _).alloc _
   clear n B d1;refine hK _ _ C (fun _=>?_);clear hK K;try simp only [Act.put,pq]
   refine rE [7] ?_;refine Qb.cons rfl (fun K hK=>?_) Qb.nil;refine iw rfl ?_;go_simp;have l:=Q1l (qs:=[((Y1,apO),[.slice (some ⟨u,0,none⟩) 3 3,.slice (some ⟨t,0,none⟩) 2 2]),((Y1,abO),[.slice (some ⟨k,0,none⟩) 3 3,.slice (some ⟨j,0,none⟩) 2 2])]) rfl;have g:=Nw (w:=H) (ps:=[(vD,[.string ⟨#[86]⟩,.int .i64 1,.int .u32 4,.int .u32 0,.bool false,.int .i64 0,.int .i64 0,.slice none 0 0,.int .i64 1,.int .u32 4,.int .u32 0,.bool false,.int .i64 0,.int .i64 0,.slice none 0 0,.slice (some ⟨N,0,none⟩) 1 1,.slice (some ⟨O,0,none⟩) 1 1,.int .i64 1]),(fD,[.string ⟨#[70]⟩,.int .i64 0,.int .u32 0,.int .u32 0,.bool false,.int .i64 0,.int .i64 0,.slice none 0 0,.int .i64 6,.int .u32 0,.int .u32 0,.bool false,.int .i64 0,.int .i64 0,.slice none 0 0,.slice (some ⟨P,0,none⟩) 1 1,.slice none 0 0,.int .i64 1]),(uD,[.string ⟨#[85]⟩,.int .i64 0,.int .u32 0,.int .u32 0,.bool false,.int .i64 0,.int .i64 0,.slice none 0 0,.int .i64 6,.int .u32 0,.int .u32 0,.bool false,.int .i64 0,.int .i64 0,.slice none 0 0,.slice (some ⟨Q,0,none⟩) 1 1,.slice (some ⟨R,0,none⟩) 1 1,.int .i64 1])]) (qs:=[((Y1,apO),[.slice (some ⟨u,0,none⟩) 3 3,.slice (some ⟨t,0,none⟩) 2 2]),((Y1,abO),[.slice (some ⟨k,0,none⟩) 3 3,.slice (some ⟨j,0,none⟩) 2 2])]) (xs:=[0,1,2]) (b4.out _ (D.trans C)) rfl (g6.out _ j6) rfl (g7.out _ (Qa.refl _ _)) rfl (b8.keep (e2.trans C) id);simp only [List.map_cons,List.map_nil] at g l;rw [l.1,l.2.1,l.2.2] at g;have m:=Zh g;clear g l;refine m.out.mono ?_;rintro e g8 ⟨rfl,c⟩;have q:Ext o g8:=C.trans c;clear c m;refine hK _ _ q (fun _=>?_);clear hK K;try simp only [Act.put,pq]
   refine tE 8 29 q ?_;refine tE 9 38 q ?_;refine tE 10 39 q ?_;refine tE 11 40 q ?_;refine tE 12 4 q ?_;refine tE 13 5 q ?_;refine tE 14 6 q ?_;refine Qv kz ?_ _;have g5:=Zh q;clear q C J I;go_wp2
   go_meet
   case rel=>exact⟨rfl,rfl,rfl,g5.out⟩
  ·refine iw rfl ?_;go_simp;obtain⟨y,n⟩:=zE (Z.alloc (.cells #[.slice (some ⟨u,0,none⟩) 3 3,.slice (some ⟨t,0,none⟩) 2 2,.slice (some ⟨k,0,none⟩) 3 3,.slice (some ⟨j,0,none⟩) 2 2] 105));have B:y.heap[Z.heap.size]?=some (.cells #[.slice (some ⟨u,0,none⟩) 3 3,.slice (some ⟨t,0,none⟩) 2 2,.slice (some ⟨k,0,none⟩) 3 3,.slice (some ⟨j,0,none⟩) 2 2] 105 (0,0)):=by rw [<-n];exact Qc rfl
   have J:Ext o y:=by rw [<-n];exact I.alloc _
   rw [n];obtain⟨c5,d1⟩:=zE Z.heap.size;rw [d1] at B ⊢
   have g7:Hid (∀ a,Ext y a->Zg a (.slice (some ⟨c5,0,none⟩) 2 2) [((Y1,apO),[.slice (some ⟨u,0,none⟩) 3 3,.slice (some ⟨t,0,none⟩) 2 2]),((Y1,abO),[.slice (some ⟨k,0,none⟩) 3 3,.slice (some ⟨j,0,none⟩) 2 2])]):=Zh (fun a f=>Z3 (v:=.slice (some ⟨c5,0,none⟩) 2 2) ⟨Yi (xs:=[.slice (some ⟨u,0,none⟩) 3 3,.slice (some ⟨t,0,none⟩) 2 2,.slice (some ⟨k,0,none⟩) 3 3,.slice (some ⟨j,0,none⟩) 2 2]) B rfl zd,fun p z=>by
    simp only [List.mem_cons,List.not_mem_nil,or_false] at z;rcases z with rfl | rfl
    ·exact⟨rfl,_,_,rfl,⟨_,3,rfl,c9.out _ J,Nat.le_refl 3⟩,⟨_,2,rfl,b3.out _ J,Nat.le_refl 2⟩⟩
    ·exact⟨rfl,_,_,rfl,⟨_,3,rfl,b7.out _ (r.trans J),Nat.le_refl 3⟩,⟨_,2,rfl,a8.out _ (r.trans J),Nat.le_refl 2⟩⟩⟩ f)
   have t3:Ext Z y:=by rw [<-n];exact(Qa.refl _ _).alloc _
   clear n B d1;refine hK _ _ J (fun _=>?_);clear hK K;try simp only [Act.put,pq]
   refine rE [1] ?_;refine Qb.cons rfl (fun K hK=>?_) Qb.nil;refine iw rfl ?_;go_simp;obtain⟨H,n⟩:=zE (y.alloc (.cells #[.int .i64 0,.int .i64 1,.int .i64 2] 3));have B:H.heap[y.heap.size]?=some (.cells #[.int .i64 0,.int .i64 1,.int .i64 2] 3 (0,0)):=by rw [<-n];exact Qc rfl
   have C:Ext o H:=by rw [<-n];exact J.alloc _
   rw [n];obtain⟨g4,d0⟩:=zE y.heap.size;rw [d0] at B ⊢;have g6:Hid (∀ a,Ext H a->Rd a (.slice (some ⟨g4,0,none⟩) 3 3) 3 1 (Zw [0,1,2])):=Zh (fun a f=>(Yi (xs:=Zw [0,1,2]) B rfl zd).ext f);have j6:Ext y H:=by rw [<-n];exact(Qa.refl _ _).alloc _
   clear n B d0;refine hK _ _ C (fun _=>?_);clear hK K;try simp only [Act.put,pq]
   refine rE [7] ?_;refine Qb.cons rfl (fun K hK=>?_) Qb.nil;refine iw rfl ?_;go_simp;have l:=Q1l (qs:=[((Y1,apO),[.slice (some ⟨u,0,none⟩) 3 3,.slice (some ⟨t,0,none⟩) 2 2]),((Y1,abO),[.slice (some ⟨k,0,none⟩) 3 3,.slice (some ⟨j,0,none⟩) 2 2])]) rfl;have g:=Nw (w:=H) (ps:=[(vD,[.string ⟨#[86]⟩,.int .i64 1,.int .u32 4,.int .u32 0,.bool false,.int .i64 0,.int .i64 0,.slice none 0 0,.int .i64 1,.int .u32 4,.int .u32 0,.bool false,.int .i64 0,.int .i64 0,.slice none 0 0,.slice (some ⟨N,0,none⟩) 1 1,.slice (some ⟨O,0,none⟩) 1 1,.int .i64 1]),(fD,[.string ⟨#[70]⟩,.int .i64 0,.int .u32 0,.int .u32 0,.bool false,.int .i64 0,.int .i64 0,.slice none 0 0,.int .i64 6,.int .u32 0,.int .u32 0,.bool false,.int .i64 0,.int .i64 0,.slice none 0 0,.slice (some ⟨P,0,none⟩) 1 1,.slice none 0 0,.int .i64 1]),(uD,[.string ⟨#[85]⟩,.int .i64 0,.int .u32 0,.int .u32 0,.bool false,.int .i64 0,.int .i64 0,.slice none 0 0,.int .i64 6,.int .u32 0,.int .u32 0,.bool false,.int .i64 0,.int .i64 0,.slice none 0 0,.slice (some ⟨Q,0,none⟩) 1 1,.slice (some ⟨R,0,none⟩) 1 1,.int .i64 1])]) (qs:=[((Y1,apO),[.slice (some ⟨u,0,none⟩) 3 3,.slice (some ⟨t,0,none⟩) 2 2]),((Y1,abO),[.slice (some ⟨k,0,none⟩) 3 3,.slice (some ⟨j,0,none⟩) 2 2])]) (xs:=[0,1,2]) (b4.out _ (D.trans C)) rfl (g6.out _ (Qa.refl _ _)) rfl (g7.out _ j6) rfl (b8.keep (e2.trans C) id);simp only [List.map_cons,List.map_nil] at g l;rw [l.1,l.2.1,l.2.2] at g;have m:=Zh g;clear g l;refine m.out.mono ?_;rintro e g8 ⟨rfl,c⟩;have q:Ext o g8:=C.trans c;clear c m;refine hK _ _ q (fun _=>?_);clear hK K;try simp only [Act.put,pq]
   refine tE 8 29 q ?_;refine tE 9 38 q ?_;refine tE 10 39 q ?_;refine tE 11 40 q ?_;refine tE 12 4 q ?_;refine tE 13 5 q ?_;refine tE 14 6 q ?_;refine Qv kz ?_ _;have g5:=Zh q;clear q C J I;go_wp2
   go_meet
   case rel=>exact⟨rfl,rfl,rfl,g5.out⟩
 case rest=>
  obtain⟨rfl,rfl,rfl,f8⟩:=hcut;have e3:Ext w wc:=e2.trans f8;have D:Ext T wc:=D.trans f8;have r:Ext F wc:=r.trans f8;generalize wc=t1 at e3 D r ⊢;clear f8 k1 a8 b7 b3 c9 k2;have g:=Mw (w:=t1) (ps:=[(vD,[.string ⟨#[86]⟩,.int .i64 1,.int .u32 4,.int .u32 0,.bool false,.int .i64 0,.int .i64 0,.slice none 0 0,.int .i64 1,.int .u32 4,.int .u32 0,.bool false,.int .i64 0,.int .i64 0,.slice none 0 0,.slice (some ⟨N,0,none⟩) 1 1,.slice (some ⟨O,0,none⟩) 1 1,.int .i64 1]),(fD,[.string ⟨#[70]⟩,.int .i64 0,.int .u32 0,.int .u32 0,.bool false,.int .i64 0,.int .i64 0,.slice none 0 0,.int .i64 6,.int .u32 0,.int .u32 0,.bool false,.int .i64 0,.int .i64 0,.slice none 0 0,.slice (some ⟨P,0,none⟩) 1 1,.slice none 0 0,.int .i64 1]),(uD,[.string ⟨#[85]⟩,.int .i64 0,.int .u32 0,.int .u32 0,.bool false,.int .i64 0,.int .i64 0,.slice none 0 0,.int .i64 6,.int .u32 0,.int .u32 0,.bool false,.int .i64 0,.int .i64 0,.slice none 0 0,.slice (some ⟨Q,0,none⟩) 1 1,.slice (some ⟨R,0,none⟩) 1 1,.int .i64 1])]) (qs:=[((Y1,abO),[.slice (some ⟨k,0,none⟩) 3 3,.slice (some ⟨j,0,none⟩) 2 2])]) (b4.out _ D) rfl (c6.out _ r) rfl (b8.keep e3 id);have l:=Q2w (qs:=[((Y1,abO),[.slice (some ⟨k,0,none⟩) 3 3,.slice (some ⟨j,0,none⟩) 2 2])]) rfl;simp only [List.map_cons,List.map_nil] at g l;have b2:=Dj (qs:=[((Y1,abO),[.slice (some ⟨k,0,none⟩) 3 3,.slice (some ⟨j,0,none⟩) 2 2])]) rfl;simp only [List.map_cons,List.map_nil] at b2;rw [l.1,l.2,b2] at g;simp only [List.length_cons,List.length_nil] at g;clear b2;have m:=Zh g;clear g l;go_wp2_with fail;refine(m.out).mono ?_;rintro e c7 ⟨r9,r8,rfl,M,c⟩;have i0:Ext w c7:=e3.trans c;have u5:=c;have D:Ext T c7:=D.trans c;have r:Ext F c7:=r.trans c;clear m;have k9:Hid (∀ a,Ext c7 a->Rd a (.slice r9 3 r8) 3 1 (Qq [0,2,1])):=Zh (fun a f=>M.ext f);clear M c;have g:=Bc (w:=c7) (ps:=[(vD,[.string ⟨#[86]⟩,.int .i64 1,.int .u32 4,.int .u32 0,.bool false,.int .i64 0,.int .i64 0,.slice none 0 0,.int .i64 1,.int .u32 4,.int .u32 0,.bool false,.int .i64 0,.int .i64 0,.slice none 0 0,.slice (some ⟨N,0,none⟩) 1 1,.slice (some ⟨O,0,none⟩) 1 1,.int .i64 1]),(fD,[.string ⟨#[70]⟩,.int .i64 0,.int .u32 0,.int .u32 0,.bool false,.int .i64 0,.int .i64 0,.slice none 0 0,.int .i64 6,.int .u32 0,.int .u32 0,.bool false,.int .i64 0,.int .i64 0,.slice none 0 0,.slice (some ⟨P,0,none⟩) 1 1,.slice none 0 0,.int .i64 1]),(uD,[.string ⟨#[85]⟩,.int .i64 0,.int .u32 0,.int .u32 0,.bool false,.int .i64 0,.int .i64 0,.slice none 0 0,.int .i64 6,.int .u32 0,.int .u32 0,.bool false,.int .i64 0,.int .i64 0,.slice none 0 0,.slice (some ⟨Q,0,none⟩) 1 1,.slice (some ⟨R,0,none⟩) 1 1,.int .i64 1])]) (qs:=[((Y1,abO),[.slice (some ⟨k,0,none⟩) 3 3,.slice (some ⟨j,0,none⟩) 2 2])]) (most:=9) (b4.out _ D) rfl (c6.out _ r) rfl (b8.keep i0 id);have l:=Qbm (qs:=[((Y1,abO),[.slice (some ⟨k,0,none⟩) 3 3,.slice (some ⟨j,0,none⟩) 2 2])]) rfl;simp only [List.map_cons,List.map_nil] at g l;have b2:=Dj (qs:=[((Y1,abO),[.slice (some ⟨k,0,none⟩) 3 3,.slice (some ⟨j,0,none⟩) 2 2])]) rfl
  simp only [List.map_cons,List.map_nil] at b2;rw [l,b2] at g;simp only [List.length_cons,List.length_nil] at g;clear b2;have m:=Zh g;clear g l;go_wp2_with fail;refine(m.out).mono ?_;rintro e c8 ⟨s1,s0,rfl,M,c⟩;have i1:Ext w c8:=i0.trans c;have t4:=c;have D:Ext T c8:=D.trans c;have r:Ext F c8:=r.trans c;clear m;have l0:Hid (∀ a,Ext c8 a->Xz a (.slice s1 2 s0) [[0,2,1],[2,0,1]]):=Zh (fun a f=>Xz.ext M f);clear M c;have g:=Q1u (w:=c8) (ps:=[(vD,[.string ⟨#[86]⟩,.int .i64 1,.int .u32 4,.int .u32 0,.bool false,.int .i64 0,.int .i64 0,.slice none 0 0,.int .i64 1,.int .u32 4,.int .u32 0,.bool false,.int .i64 0,.int .i64 0,.slice none 0 0,.slice (some ⟨N,0,none⟩) 1 1,.slice (some ⟨O,0,none⟩) 1 1,.int .i64 1]),(fD,[.string ⟨#[70]⟩,.int .i64 0,.int .u32 0,.int .u32 0,.bool false,.int .i64 0,.int .i64 0,.slice none 0 0,.int .i64 6,.int .u32 0,.int .u32 0,.bool false,.int .i64 0,.int .i64 0,.slice none 0 0,.slice (some ⟨P,0,none⟩) 1 1,.slice none 0 0,.int .i64 1]),(uD,[.string ⟨#[85]⟩,.int .i64 0,.int .u32 0,.int .u32 0,.bool false,.int .i64 0,.int .i64 0,.slice none 0 0,.int .i64 6,.int .u32 0,.int .u32 0,.bool false,.int .i64 0,.int .i64 0,.slice none 0 0,.slice (some ⟨Q,0,none⟩) 1 1,.slice (some ⟨R,0,none⟩) 1 1,.int .i64 1])]) (qs:=[((Y1,abO),[.slice (some ⟨k,0,none⟩) 3 3,.slice (some ⟨j,0,none⟩) 2 2])]) (b4.out _ D) rfl (c6.out _ r) rfl (b8.keep i1 id);have l:=Q9k (qs:=[((Y1,abO),[.slice (some ⟨k,0,none⟩) 3 3,.slice (some ⟨j,0,none⟩) 2 2])]) rfl;simp only [List.map_cons,List.map_nil] at g l;rw [l.1,l.2] at g;simp only [List.length_cons,List.length_nil] at g;have m:=Zh g;clear g l;go_wp2_with fail;refine(m.out).mono ?_;rintro e E ⟨s3,s2,rfl,M,c⟩;have m1:Ext w E:=i1.trans c;have r7:=c;have D:Ext T E:=D.trans c;have r:Ext F E:=r.trans c;clear m;have l1:Hid (∀ a,Ext E a->Rd a (.slice s3 2 s2) 2 2 (prs [(0,1),(2,1)])):=Zh (fun a f=>M.ext f);clear M c;go_wp2_with fail;refine(Q5d _).mono ?_;rintro e l3 ⟨c2,c3,rfl,q5,c⟩;have m2:Ext w l3:=m1.trans c;have u6:=c;have k6:Hid (∀ a,Ext l3 a->Zm a vD [.string ⟨#[86]⟩,.int .i64 1,.int .u32 4,.int .u32 0,.bool false,.int .i64 0,.int .i64 0,.slice none 0 0,.int .i64 1,.int .u32 4,.int .u32 0,.bool false,.int .i64 0,.int .i64 0,.slice none 0 0,.slice (some ⟨c2,0,none⟩) 1 1,.slice (some ⟨c3,0,none⟩) 1 1,.int .i64 1]):=Zh (fun a f=>q5.ext f);clear q5;have j7:=c;clear c;go_wp2_with fail;refine(Q5a _).mono ?_;rintro e a9 ⟨c4,rfl,q6,c⟩;have m4:Ext w a9:=m2.trans c;have u8:=c;have k7:Hid (∀ a,Ext a9 a->Zm a fD [.string ⟨#[70]⟩,.int .i64 0,.int .u32 0,.int .u32 0,.bool false,.int .i64 0,.int .i64 0,.slice none 0 0,.int .i64 6,.int .u32 0,.int .u32 0,.bool false,.int .i64 0,.int .i64 0,.slice none 0 0,.slice (some ⟨c4,0,none⟩) 1 1,.slice none 0 0,.int .i64 1]):=Zh (fun a f=>q6.ext f);clear q6;have f9:=c;clear c;obtain⟨U,e7⟩:=zE (a9.alloc (.cells #[.string ⟨#[86]⟩,.int .i64 1,.int .u32 4,.int .u32 0,.bool false,.int .i64 0,.int .i64 0,.slice none 0 0,.int .i64 1,.int .u32 4,.int .u32 0,.bool false,.int .i64 0,.int .i64 0,.slice none 0 0,.slice (some ⟨c2,0,none⟩) 1 1,.slice (some ⟨c3,0,none⟩) 1 1,.int .i64 1,.string ⟨#[70]⟩,.int .i64 0,.int .u32 0,.int .u32 0,.bool false,.int .i64 0,.int .i64 0,.slice none 0 0,.int .i64 6,.int .u32 0,.int .u32 0,.bool false,.int .i64 0,.int .i64 0,.slice none 0 0,.slice (some ⟨c4,0,none⟩) 1 1,.slice none 0 0,.int .i64 1] 102))
  have m5:Ext w U:=by rw [<-e7];exact m4.alloc _
  have j3:U.heap[a9.heap.size]?=some (.cells #[.string ⟨#[86]⟩,.int .i64 1,.int .u32 4,.int .u32 0,.bool false,.int .i64 0,.int .i64 0,.slice none 0 0,.int .i64 1,.int .u32 4,.int .u32 0,.bool false,.int .i64 0,.int .i64 0,.slice none 0 0,.slice (some ⟨c2,0,none⟩) 1 1,.slice (some ⟨c3,0,none⟩) 1 1,.int .i64 1,.string ⟨#[70]⟩,.int .i64 0,.int .u32 0,.int .u32 0,.bool false,.int .i64 0,.int .i64 0,.slice none 0 0,.int .i64 6,.int .u32 0,.int .u32 0,.bool false,.int .i64 0,.int .i64 0,.slice none 0 0,.slice (some ⟨c4,0,none⟩) 1 1,.slice none 0 0,.int .i64 1] 102 (0,0)):=by rw [<-e7];exact Qc rfl
  have b9:Ext a9 U:=by rw [<-e7];exact(Qa.refl _ a9).alloc _
  have u9:=b9;obtain⟨s7,p4⟩:=zE a9.heap.size;rw [p4] at j3
  have d3:Za U (.slice (some ⟨s7,0,none⟩) 2 2) [(vD,[.string ⟨#[86]⟩,.int .i64 1,.int .u32 4,.int .u32 0,.bool false,.int .i64 0,.int .i64 0,.slice none 0 0,.int .i64 1,.int .u32 4,.int .u32 0,.bool false,.int .i64 0,.int .i64 0,.slice none 0 0,.slice (some ⟨c2,0,none⟩) 1 1,.slice (some ⟨c3,0,none⟩) 1 1,.int .i64 1]),(fD,[.string ⟨#[70]⟩,.int .i64 0,.int .u32 0,.int .u32 0,.bool false,.int .i64 0,.int .i64 0,.slice none 0 0,.int .i64 6,.int .u32 0,.int .u32 0,.bool false,.int .i64 0,.int .i64 0,.slice none 0 0,.slice (some ⟨c4,0,none⟩) 1 1,.slice none 0 0,.int .i64 1])]:=⟨Yi (xs:=[.string ⟨#[86]⟩,.int .i64 1,.int .u32 4,.int .u32 0,.bool false,.int .i64 0,.int .i64 0,.slice none 0 0,.int .i64 1,.int .u32 4,.int .u32 0,.bool false,.int .i64 0,.int .i64 0,.slice none 0 0,.slice (some ⟨c2,0,none⟩) 1 1,.slice (some ⟨c3,0,none⟩) 1 1,.int .i64 1,.string ⟨#[70]⟩,.int .i64 0,.int .u32 0,.int .u32 0,.bool false,.int .i64 0,.int .i64 0,.slice none 0 0,.int .i64 6,.int .u32 0,.int .u32 0,.bool false,.int .i64 0,.int .i64 0,.slice none 0 0,.slice (some ⟨c4,0,none⟩) 1 1,.slice none 0 0,.int .i64 1]) j3 rfl zd,fun p z=>by
   simp only [List.mem_cons,List.not_mem_nil,or_false] at z;rcases z with rfl | rfl
   ·exact k6.out _ (f9.trans b9)
   ·exact k7.out _ b9⟩
  obtain⟨b0,e8⟩:=zE (U.alloc (.cells #[.int .i64 0,.int .i64 1] 3));have i2:Ext w b0:=by rw [<-e8];exact m5.alloc _
  have j4:b0.heap[U.heap.size]?=some (.cells #[.int .i64 0,.int .i64 1] 3 (0,0)):=by rw [<-e8];exact Qc rfl
  have d4:Ext U b0:=by rw [<-e8];exact(Qa.refl _ U).alloc _
  have v0:=d4;obtain⟨s8,p5⟩:=zE U.heap.size;rw [p5] at j4;have q0:=d3.ext d4;have q1:Rd b0 (.slice (some ⟨s8,0,none⟩) 2 2) 2 1 (Zw [0,1]):=Yi (xs:=Zw [0,1]) j4 rfl zd;have r:Ext F b0:=r.trans (j7.trans (f9.trans (b9.trans d4)));have s:Ext E b0:=j7.trans (f9.trans (b9.trans d4));have g:=Q0z (w:=b0) (ps:=[(vD,[.string ⟨#[86]⟩,.int .i64 1,.int .u32 4,.int .u32 0,.bool false,.int .i64 0,.int .i64 0,.slice none 0 0,.int .i64 1,.int .u32 4,.int .u32 0,.bool false,.int .i64 0,.int .i64 0,.slice none 0 0,.slice (some ⟨c2,0,none⟩) 1 1,.slice (some ⟨c3,0,none⟩) 1 1,.int .i64 1]),(fD,[.string ⟨#[70]⟩,.int .i64 0,.int .u32 0,.int .u32 0,.bool false,.int .i64 0,.int .i64 0,.slice none 0 0,.int .i64 6,.int .u32 0,.int .u32 0,.bool false,.int .i64 0,.int .i64 0,.slice none 0 0,.slice (some ⟨c4,0,none⟩) 1 1,.slice none 0 0,.int .i64 1])]) (qs:=[((Y1,abO),[.slice (some ⟨k,0,none⟩) 3 3,.slice (some ⟨j,0,none⟩) 2 2])]) (xs:=[0,1]) q0 rfl q1 rfl (c6.out _ r) rfl (b8.keep i2 id);have l:=Q9u (qs:=[((Y1,abO),[.slice (some ⟨k,0,none⟩) 3 3,.slice (some ⟨j,0,none⟩) 2 2])]) rfl;simp only [List.map_cons,List.map_nil] at g l;rw [l.1,l.2] at g;simp only [List.length_cons,List.length_nil] at g;have m:=Zh g;clear g l d3 q0 q1 k6 k7 j7 f9 j3 j4 b4 c6 D r;go_wp2_with fail;refine(m.out).mono ?_;rintro e A ⟨q8,q7,rfl,M,c⟩;have m6:Ext w A:=i2.trans c;have v1:=c;have s:Ext E A:=s.trans c;clear m e7 e8 p4 p5 b9 d4;have k8:Hid (∀ a,Ext A a->Rd a (.slice q8 1 q7) 1 1 (Qq [0])):=Zh (fun a f=>M.ext f);clear M c;obtain⟨a1,e9⟩:=zE (A.alloc (.cells #[.int .i64 0,.int .i64 2,.int .i64 1] 3));have m7:Ext w a1:=by rw [<-e9];exact m6.alloc _
  have i5:a1.heap[A.heap.size]?=some (.cells #[.int .i64 0,.int .i64 2,.int .i64 1] 3 (0,0)):=by rw [<-e9];exact Qc rfl
  have a7:Ext A a1:=by rw [<-e9];exact(Qa.refl _ A).alloc _
  have v2:=a7;obtain⟨s4,o6⟩:=zE A.heap.size;rw [o6] at i5;have s:Ext E a1:=s.trans a7;have G:Ext A a1:=a7;have g:=Va (.slice r9 3 r8) (.slice (some ⟨s4,0,none⟩) 3 3) [0,2,1] [0,2,1] a1 (k9.out _ ((t4.trans r7).trans s)) (Yi (xs:=Qq [0,2,1]) i5 rfl zd);rw [decide_eq_true rfl] at g;have m:=Zh g;clear g;go_wp2_with fail;refine m.out.mono ?_;rintro e V ⟨rfl,u0,L⟩;have c:Ext a1 V:=by rw [L];exact(Qa.refl _ a1).drewN _
  have m8:Ext w V:=m7.trans c;have v3:=c;have s:Ext E V:=s.trans c;clear m L e9 o6 i5 a7 k9;have G:Ext A V:=G.trans c;clear c;obtain⟨a2,f0⟩:=zE (V.alloc (.cells #[.int .i64 0,.int .i64 2,.int .i64 1] 3));have m9:Ext w a2:=by rw [<-f0];exact m8.alloc _
  have i7:a2.heap[V.heap.size]?=some (.cells #[.int .i64 0,.int .i64 2,.int .i64 1] 3 (0,0)):=by rw [<-f0];exact Qc rfl
  have g1:Ext V a2:=by rw [<-f0];exact(Qa.refl _ V).alloc _
  have v7:=g1;obtain⟨d7,o8⟩:=zE V.heap.size;rw [o8] at i7;obtain⟨a3,f1⟩:=zE (a2.alloc (.cells #[.int .i64 2,.int .i64 0,.int .i64 1] 3));have n0:Ext w a3:=by rw [<-f1];exact m9.alloc _
  have i8:a3.heap[a2.heap.size]?=some (.cells #[.int .i64 2,.int .i64 0,.int .i64 1] 3 (0,0)):=by rw [<-f1];exact Qc rfl
  have d5:Ext a2 a3:=by rw [<-f1];exact(Qa.refl _ a2).alloc _
  have v8:=d5;obtain⟨d8,o9⟩:=zE a2.heap.size;rw [o9] at i8;obtain⟨W,f2⟩:=zE (a3.alloc (.cells #[.slice (some ⟨d7,0,none⟩) 3 3,.slice (some ⟨d8,0,none⟩) 3 3] 48));have n1:Ext w W:=by rw [<-f2];exact n0.alloc _
  have i9:W.heap[a3.heap.size]?=some (.cells #[.slice (some ⟨d7,0,none⟩) 3 3,.slice (some ⟨d8,0,none⟩) 3 3] 48 (0,0)):=by rw [<-f2];exact Qc rfl
  have c0:Ext a3 W:=by rw [<-f2];exact(Qa.refl _ a3).alloc _
  have v9:=c0;obtain⟨j9,p0⟩:=zE a3.heap.size;rw [p0] at i9;have s:Ext E W:=s.trans (g1.trans (d5.trans c0));have G:Ext A W:=G.trans (g1.trans (d5.trans c0))
  have p8:Xz W (.slice (some ⟨j9,0,none⟩) 2 2) [[0,2,1],[2,0,1]]:=⟨[.slice (some ⟨d7,0,none⟩) 3 3,.slice (some ⟨d8,0,none⟩) 3 3],Yi (xs:=[.slice (some ⟨d7,0,none⟩) 3 3,.slice (some ⟨d8,0,none⟩) 3 3]) i9 rfl zd,fun i p9=>by
   have p9:i<2:=p9;rcases(by omega:i=0\/i=1) with rfl | rfl
   ·exact⟨_,_,rfl,(Yi (xs:=Qq [0,2,1]) i7 rfl (by show 3<=maxLen;decide)).ext (d5.trans c0)⟩
   ·exact⟨_,_,rfl,(Yi (xs:=Qq [2,0,1]) i8 rfl (by show 3<=maxLen;decide)).ext c0⟩⟩
  have g:=Q40 (.slice s1 2 s0) (.slice (some ⟨j9,0,none⟩) 2 2) [[0,2,1],[2,0,1]] [[0,2,1],[2,0,1]] W (l0.out _ (r7.trans s)) p8;rw [decide_eq_true rfl] at g;have m:=Zh g;clear g;go_wp2_with fail;refine m.out.mono ?_;rintro e X ⟨rfl,u1,L⟩;have c:Ext W X:=by rw [L];exact(Qa.refl _ W).drewN _
  have n2:Ext w X:=n1.trans c;have w0:=c;have s:Ext E X:=s.trans c;clear m L f0 f1 f2 o8 o9 p0 i7 i8 i9 p8 g1 d5 c0 l0;have G:Ext A X:=G.trans c;clear c;obtain⟨a4,f3⟩:=zE (X.alloc (.cells #[.int .i64 0,.int .i64 1,.int .i64 2,.int .i64 1] 73));have n4:Ext w a4:=by rw [<-f3];exact n2.alloc _
  have j0:a4.heap[X.heap.size]?=some (.cells #[.int .i64 0,.int .i64 1,.int .i64 2,.int .i64 1] 73 (0,0)):=by rw [<-f3];exact Qc rfl
  have g2:Ext X a4:=by rw [<-f3];exact(Qa.refl _ X).alloc _
  have w2:=g2;obtain⟨s5,p1⟩:=zE X.heap.size;rw [p1] at j0;have s:Ext E a4:=s.trans g2;have G:Ext A a4:=G.trans g2;have g:=Q88 (.slice s3 2 s2) (.slice (some ⟨s5,0,none⟩) 2 2) [(0,1),(2,1)] [(0,1),(2,1)] a4 (l1.out _ s) (Yi (xs:=prs [(0,1),(2,1)]) j0 rfl zd);rw [decide_eq_true rfl] at g;have m:=Zh g;clear g;go_wp2_with fail;refine m.out.mono ?_;rintro e Y ⟨rfl,u2,L⟩;have c:Ext a4 Y:=by rw [L];exact(Qa.refl _ a4).drewN _
  have n5:Ext w Y:=n4.trans c;have w3:=c;have s:Ext E Y:=s.trans c;clear m L f3 p1 j0 g2 l1;have G:Ext A Y:=G.trans c;clear c;obtain⟨a5,f4⟩:=zE (Y.alloc (.cells #[.int .i64 0] 3));have n6:Ext w a5:=by rw [<-f4];exact n5.alloc _
  have j1:a5.heap[Y.heap.size]?=some (.cells #[.int .i64 0] 3 (0,0)):=by rw [<-f4];exact Qc rfl
  have g3:Ext Y a5:=by rw [<-f4];exact(Qa.refl _ Y).alloc _
  have w4:=g3;obtain⟨s6,p2⟩:=zE Y.heap.size;rw [p2] at j1;have G:Ext A a5:=G.trans g3;have s:Ext E a5:=s.trans g3;have g:=Va (.slice q8 1 q7) (.slice (some ⟨s6,0,none⟩) 1 1) [0] [0] a5 (k8.out _ G) (Yi (xs:=Qq [0]) j1 rfl zd);rw [decide_eq_true rfl] at g;have m:=Zh g;clear g;go_wp2_with fail;refine m.out.mono ?_;rintro e g9 ⟨rfl,u3,L⟩;have c:Ext a5 g9:=by rw [L];exact(Qa.refl _ a5).drewN _
  have n7:Ext w g9:=n6.trans c;have w5:=c;have s:Ext E g9:=s.trans c;clear m L f4 p2 j1 g3 k8;have s9:=Zh n7;clear l5 l6 m3 n3 n8 n9 o0 o1 o2 o3 l7 l8 l9 m0 e2 e3 i0 i1 m1 m2 m4 m5 i2 m6 m7 m8 m9 n0 n1 n2 n4 n5 n6 n7;go_wp2;go_ret;exact⟨rfl,s9.out⟩
theorem Qbj{ol:List Nat}{x k:Nat}(b:k<ol.length)(a:ol[k]=x):ol.contains x=true:=by
 rw [List.contains_iff_mem,<-a];exact List.getElem_mem b
theorem Qat{ol:List Nat}{x:Nat}(h:Ri ol x ol.length):ol.contains x=false:=by
 cases hc:ol.contains x with
 | false=>rfl
 | true=>
  rw [List.contains_iff_mem] at hc;obtain⟨c,a,b⟩:=List.getElem_of_mem hc;exact absurd b (h c a a)
theorem Q70{w:World}{oo:Option Addr}{c oc:Nat}{ol:List Nat}{x:Nat}(t:Rd w (.slice oo c oc) c 1 (Qq ol)) (u:ol.length=c) :
  Calls Tryz.prog 107 #[.slice oo c oc,.int .i64 (x:Int)] w fun e w'=>e=.returned (.bool (ol.contains x))/\w'=w:=by
 have P:c<=maxLen:=t.2.1;unfold maxLen at P;obtain⟨i,k⟩:=zE (ol.contains x);rw [k];have d:∀ b (s:b<ol.length),Ri ol x b->ol[b]=x->i=true:=fun b s h r=>by rw [<-k];exact Qbj s r
 have B:Ri ol x c->i=false:=fun h=>by rw [<-k];exact Qat (by rwa [u])
 obtain⟨p,K,m,o⟩:=Zh4 t u d B;clear t u k d B;go_enter Tryz.func107,Tryz.ntmps107;go_wp2
 refine wp_loop (fun a z=>∃(b:Nat),b<=c/\a.defers=[]/\gS a [0,1,5]=(18,[.slice oo c oc,.int .i64 (x:Int),.int .i64 b])/\Ri ol x b/\z=w)
  (fun a _=>((c:Int) - intOf (a.tmps.getD 5 undef)).toNat) ?_ ?_
 ·exact⟨0,by omega,rfl,rfl,fun j _ h=>by omega,rfl⟩
 rintro⟨W,_⟩ z ⟨b,s,N,I,J,M⟩;subst N;obtain⟨X,rfl⟩:=Zd I;clear I;have g:=Zh J;subst M;clear J;by_cases D:b<c;case neg=>
  obtain rfl:b=c:=by omega
  have r:¬ (b:Int)<(b:Int):=by omega
  have v:=o.out g.out;subst v;clear m o p;go_wp2;go_ret;exact⟨rfl,rfl⟩
 have r:(b:Int)<(c:Int):=by omega
 have U:(0:Int)<=(b:Int):=by omega
 have C:b<ol.length:=by rw [K.out];exact D
 obtain⟨T,V,S,F,O,A⟩:=Vt (p.out) D;simp only [zV] at F;obtain⟨rfl,Q,rfl⟩:=F;have E:(Qq ol).getD b undef=.int .i64 (ol[b]:Int):=by unfold Qq;rw [List.getD_eq_getElem?_getD,List.getElem?_map,List.getElem?_eq_getElem C];rfl
 rw [E] at A;obtain⟨f,y⟩:=zE (ol[b]);have d:=m.out b C g.out
 have H:f≠x->Ri ol x (b+1):=fun h j hj hjk=>by
  by_cases e:j=b
  ·subst e;rw [y];exact h
  ·exact g.out j hj oz
 rw [y] at A d;have n:=Zh d;have q:=Zh H;clear d H y Q E O m o p g;by_cases l:f=x
 ·have v:=n.out l;subst v;have R:((f:Int) ==(x:Int))=true:=by rw [beq_iff_eq];omega
  clear n q l;go_wp2;go_ret;exact⟨rfl,rfl⟩
 ·have G:=q.out l;have R:((f:Int) ==(x:Int))=false:=by rw [beq_eq_false_iff_ne];omega
  have L:=Zh G;clear G q n l;go_wp2;exact⟨⟨b+1,by omega,tz,rfl,L.out,by first | trivial | rfl⟩,mz⟩
def Xd(n:Nat)(L:List (List Nat)) (i:Nat):List (List Nat):=(L.take i).flatMap fun o=>(X6 n o).map fun x=>o++[x]
def Xc(r:List (List Nat)) (o:List Nat) (x:Nat):List (List Nat):=r++(X6 x o).map fun x=>o++[x]
theorem Ms{n:Nat}{L:List (List Nat)} {i:Nat} (a:i<L.length):Xd n L (i+1)=Xc (Xd n L i) L[i] n:=by
 unfold Xd Xc;rw [List.take_succ_eq_append_getElem a,List.flatMap_append];simp
theorem Pw(n:Nat)(L:List (List Nat)):Xd n L L.length=Jy n L:=by
 unfold Xd Jy;rw [List.take_of_length_le (Nat.le_refl _)]
theorem Na(r:List (List Nat)) (o:List Nat):Xc r o 0=r:=by simp [Xc,X6]
theorem Q60{r:List (List Nat)} {o:List Nat} {x:Nat} (h:o.contains x=true):Xc r o (x+1)=Xc r o x:=by
 unfold Xc X6;rw [List.range_succ,List.filter_append];simp only [List.filter_cons,h,Bool.not_true,List.filter_nil];simp
theorem Q2x{r:List (List Nat)} {o:List Nat} {x:Nat} (h:o.contains x=false):Xc r o (x+1)=Xc r o x++[o++[x]]:=by
 unfold Xc X6;rw [List.range_succ,List.filter_append];simp only [List.filter_cons,h,Bool.not_false,List.filter_nil];simp
theorem Pr(r:List (List Nat)) (o:List Nat) (x:Nat):(Xc r o x).length<=r.length+x:=by
 unfold Xc X6;rw [List.length_append,List.length_map];have:=List.length_filter_le (fun i=>!o.contains i) (List.range x);rw [List.length_range] at this;omega
theorem Rq(n:Nat)(L:List (List Nat)) (i:Nat):(Xd n L i).length<=i*n:=by
 induction i with
 | zero=>simp [Xd]
 | succ i ih=>
  by_cases a:i<L.length
  ·rw [Ms a,Nat.succ_mul];exact Nat.le_trans (Pr _ _ _) oz
  ·have:Xd n L (i+1)=Xd n L i:=by
    unfold Xd;rw [List.take_of_length_le oz,List.take_of_length_le oz]
   rw [this,Nat.succ_mul];omega
theorem Rr(n:Nat)(hn:n<=4):∀ k,(Yo n k).length<=4 ^ k
 | 0=>Nat.le_refl _
 | k+1=>by
  have h1:=Rr n hn k;have h2:=Rq n (Yo n k) (Yo n k).length;rw [Pw] at h2;show (Jy n (Yo n k)).length<=_;rw [Nat.pow_succ];exact Nat.le_trans h2 (Nat.mul_le_mul h1 hn)
theorem T7(n:Nat):∀ k,∀ o∈Yo n k,o.length=k
 | 0,o,h=>by rw [show Yo n 0=[[]] from rfl,List.mem_singleton] at h;subst h;rfl
 | k+1,o,h=>by
  have h:o∈Jy n (Yo n k):=h;unfold Jy at h;obtain⟨p,hp,h⟩:=List.mem_flatMap.1 h;obtain⟨x,_,rfl⟩:=List.mem_map.1 h;rw [List.length_append,T7 n k p hp];rfl
def Ho(W:World)(v:Value)(L:List (List Nat)):Prop:=∃ ao c,v=.slice ao L.length c/\Xz W v L
theorem Ho.ext{A B:World}{v:Value}{L:List (List Nat)} (h:Ho A v L) (a:Ext A B):Ho B v L:=by
 obtain⟨b,c,rfl,l,f,g⟩:=h;exact⟨b,c,rfl,l,f.ext a,fun i hi=>by obtain⟨e,d,j,k⟩:=g i hi;exact⟨e,d,j,k.ext a⟩⟩
theorem Xn.grid{X:Nat}{W:World}{ao:Option Addr}{c:Nat}{L:List (List Nat)} (h:Xn X (fun _=>False) W ao c L):Ho W (.slice ao L.length c) L:=by
 obtain⟨j,d,_,e⟩:=h;refine⟨ao,c,rfl,j,Rd.of_own d,fun i hi=>?_⟩;obtain⟨b,a,f,g,_⟩:=e.2 i hi;exact⟨b,a,f,Rd.of_own g⟩
def Qbh(n:Nat)(w:World)(a:Act)(W:World):Prop:=∃(k:Nat) (v:Value),k<=n/\a.defers=[]/\gS a [0,3,4]=(47,[.int .i64 (n:Int),v,.int .i64 k])/\Ho W v (Yo n k)/\Ext w W
def Qag(n X k Z:Nat)(gv:Value)(L:List (List Nat)) (W:World) (a:Act) (V:World):Prop:=∃(i:Nat) (ao:Option Addr) (c:Nat),i<=Z/\a.defers=[]/\gS a [0,3,4,5,6]=(47,[.int .i64 (n:Int),gv,.int .i64 k,.slice ao (Xd n L i).length c,.int .i64 i])/\Xn X (fun _=>False) V ao c (Xd n L i)/\Ext W V
def Qbc(n X k i:Nat)(gv:Value)(r:List (List Nat)) (o:List Nat) (W:World) (a:Act) (V:World):Prop:=∃(x:Nat) (ao:Option Addr) (c:Nat),x<=n/\a.defers=[]/\gS a [0,3,4,5,6,7]=(47,[.int .i64 (n:Int),gv,.int .i64 k,.slice ao (Xc r o x).length c,.int .i64 i,.int .i64 x])/\Xn X (fun _=>False) V ao c (Xc r o x)/\Ext W V
theorem Q8v{w:World}{n:Nat}(k2:n<=4) :
  Calls Tryz.prog 50 #[.int .i64 (n:Int)] w fun e w'=>∃ v,e=.returned v/\Ho w' v (Qm n)/\Ext w w':=by
 have k0:=Q26 n;have a2:=Rr n k2;have k1:=T7 n;rw [<-k0];have k8:∀ c,Yo n (c+1)=Jy n (Yo n c):=fun c=>rfl;obtain⟨V,d0,d9⟩:=Zh3 a2 k1 k8;clear k0 a2 k1 k8;go_enter Tryz.func50,Tryz.ntmps50;go_upto_region 3 with (fail)
 have u:((w.alloc (.cells #[] 3)).alloc (.cells #[.slice (some ⟨w.heap.size,0,none⟩) 0 0] 48)).ownsRow w.heap.size 48 1 (.slice (some ⟨(w.alloc (.cells #[] 3)).heap.size,0,none⟩) 1 1) 1 [.slice (some ⟨w.heap.size,0,none⟩) 0 0]:=Q91 zy _;have e8:((w.alloc (.cells #[] 3)).alloc (.cells #[.slice (some ⟨w.heap.size,0,none⟩) 0 0] 48)).ownsRow w.heap.size 3 1 (.slice (some ⟨w.heap.size,0,none⟩) 0 0) 0 []:=Qo (World.ownsRow_lit w #[] 0 (Nat.le_refl _) (by unfold maxLen;omega) rfl) ((Qa.refl _ _).alloc _);obtain⟨c2,b9⟩:=zE ((w.alloc (.cells #[] 3)).alloc (.cells #[.slice (some ⟨w.heap.size,0,none⟩) 0 0] 48));have Q:Ext w c2:=by rw [<-b9];exact((Qa.refl _ w).alloc _).alloc _
 rw [b9] at u e8;have i4:c2.ownsRow w.heap.size 48 1 (.slice (some ⟨w.heap.size+1,0,none⟩) 1 1) 1 [.slice (some ⟨w.heap.size,0,none⟩) 0 0]:=by simpa using u
 have H:Ho c2 (.slice (some ⟨w.heap.size+1,0,none⟩) 1 1) [[]]:=⟨some ⟨w.heap.size+1,0,none⟩,1,rfl,[.slice (some ⟨w.heap.size,0,none⟩) 0 0],Rd.of_own i4,fun f f4=>by
  obtain rfl:f=0:=by simpa using f4
  exact⟨_,_,rfl,Rd.of_own e8⟩⟩
 have H:Ho c2 (.slice (some ⟨w.heap.size+1,0,none⟩) 1 1) (Yo n 0):=H;clear i4;rw [b9];have O:=Zh H;have U:=Zh Q;clear u e8 H Q b9;refine wp_loop (Qbh n w) (fun a _=>((n:Int) - intOf (a.tmps.getD 4 undef)).toNat) ?_ ?_
 ·exact⟨0,_,by omega,rfl,(Prod.ext rfl (lE rfl (lE (by first | rfl | (simp;done)) rfl))),O.out,U.out⟩
 clear O U;rintro⟨l3,_⟩ a9 ⟨c,v,n7,Z,A,H,i6⟩;subst Z;obtain⟨M,rfl⟩:=Zd A;clear A;have O:=Zh H;have g1:=Zh i6;clear H i6;by_cases n8:c<n;case neg=>
  obtain rfl:c=n:=by omega
  have e6:¬ (c:Int)<(c:Int):=by omega
  clear V d0 d9;go_wp2;go_ret;exact⟨_,rfl,O.out,g1.out⟩
 have e6:(c:Int)<(n:Int):=by omega
 have j0:=V.out c;have n5:4 ^ c<=256:=by
  have:c=0\/c=1\/c=2\/c=3:=by omega
  rcases this with rfl | rfl | rfl | rfl <;> decide
 have f0:=d0.out c;have m:=d9.out c;obtain⟨d,i8⟩:=zE (Yo n c);have a0:=O.out;rw [i8] at j0 f0 m a0;obtain⟨m3,i0,rfl,a0⟩:=a0;obtain⟨c7,d1,g6⟩:=Zh3 a0 f0 m;have i9:d.length<=256:=by omega
 clear j0 f0 m a0 i8 O V d0 d9;obtain⟨s,j8⟩:=zE a9.heap.size;have g8:=Zh j8;clear j8;go_wp2;refine wp_loop (Qag n s c d.length (.slice m3 d.length i0) d a9) (fun a _=>((d.length:Int) - intOf (a.tmps.getD 6 undef)).toNat) ?_ ?_
 ·exact⟨0,none,0,by omega,rfl,rfl,⟨[],World.ownsRow_nil _ _ _ _,fun _ _ h=>h,rfl,fun f h=>by simp [Xd] at h⟩,Qa.refl _ _⟩
 rintro⟨l3,_⟩ g9 ⟨f,F,G,f4,Z,A,g,X⟩;subst Z;obtain⟨M,rfl⟩:=Zd A;clear A;have l:=Zh g;have j:=Zh X;clear g X;by_cases a1:f<d.length;case neg=>
  obtain rfl:f=d.length:=by omega
  have e7:¬ (d.length:Int)<(d.length:Int):=by omega
  have J:Ho g9 (.slice F (Xd n d d.length).length G) (Yo n (c+1)):=by rw [g6.out,<-Pw];exact l.out.grid
  have P:=Zh J;obtain⟨e1,I⟩:=zE d.length;rw [I] at e7 ⊢;rw [I] at J;have P:=Zh J;clear J I l c7 d1 g6 i9 f4 a1;obtain⟨p,a3⟩:=zE ((Xd n d e1).length);rw [a3] at P ⊢;clear a3;go_wp2;exact⟨⟨c+1,_,by omega,tz,rfl,P.out,g1.out.trans j.out⟩,mz⟩
 have e7:(f:Int)<(d.length:Int):=by omega
 have n4:(0:Int)<=(f:Int):=by omega
 obtain⟨l4,k9,k7⟩:=c7.out;obtain⟨m5,m4,i1,e2⟩:=k7 f a1;obtain⟨i2,l0,n3,k5,_,Y⟩:=Vt k9 a1;simp only [zV] at k5;obtain⟨rfl,n0,rfl⟩:=k5;rw [i1] at Y;have b5:=d1.out _ (List.getElem_mem a1);have b8:=Ms (n:=n) a1;have T:=Rq n d f;obtain⟨o,k3⟩:=zE (d[f]);rw [k3] at Y e2 b5 b8;rw [b5] at Y e2;obtain⟨e1,I⟩:=zE d.length;rw [I] at e7 i9 ⊢;have m1:=Zh I;obtain⟨r,f5⟩:=zE (Xd n d f);rw [f5] at b8 T ⊢;have S:=l.out;rw [f5] at S;have m9:r.length<=1024:=by
  have:f*n<=256*4:=Nat.mul_le_mul oz k2;omega
 obtain⟨a4,a6,d7,a8,D⟩:=Zh5 Y e2 b5 b8 S;clear Y e2 i1 b5 b8 T k3 f5 S k9 k7 n0 I l d1 c7;obtain⟨o2,f6⟩:=zE r.length;have d8:=Zh f6;rw [f6] at m9 ⊢;clear f6;go_wp2;refine wp_loop (Qbc n s c f (.slice (some ⟨i2,l0,none⟩) e1 i0) r o a9) (fun a _=>((n:Int) - intOf (a.tmps.getD 7 undef)).toNat) ?_ ?_
 ·exact⟨0,F,G,by omega,rfl,(Prod.ext rfl (lE rfl (lE rfl (lE rfl (lE (by rw [Na,d8.out];rfl) rfl))))),by rw [Na];exact D.out,j.out⟩
 clear D j;rintro⟨l3,_⟩ g9 ⟨x,F,G,n9,Z,A,g,X⟩;subst Z;obtain⟨M,rfl⟩:=Zd A;clear A;have l:=Zh g;have j:=Zh X;clear g X;by_cases o0:x<n;case neg=>
  obtain rfl:x=n:=by omega
  have m6:¬ (x:Int)<(x:Int):=by omega
  have g:=l.out;rw [<-a8.out] at g ⊢;have D:=Zh g;obtain⟨p,a3⟩:=zE ((Xd x d (f+1)).length);have n2:=Zh a3;clear g a3 l a8 a4 a6 d7 d8;go_wp2;exact⟨⟨f+1,F,G,by omega,tz,(Prod.ext rfl (lE rfl (lE (by first | rfl | (rw [m1.out];rfl)) rfl))),D.out,j.out⟩,mz⟩
 have m6:(x:Int)<(n:Int):=by omega
 have b2:=j.out.cell_some a4.out id;have f2:=a6.out.ext j.out;have f3:=Q70 (x:=x) f2 d7.out;have b3:=Q60 (r:=r) (o:=o) (x:=x);have b4:=Q2x (r:=r) (o:=o) (x:=x);have T:=Pr r o x;rw [d8.out] at T;obtain⟨m2,j3⟩:=zE (o.contains x);rw [j3] at f3 b3 b4;obtain⟨e0,f1⟩:=zE (Xc r o x);rw [f1] at b3 b4 T ⊢;obtain⟨L,f7⟩:=zE e0.length;have g:=l.out;rw [f1] at g;rw [f7] at T ⊢;obtain⟨g2,c8,c9,a7,d6,l7,c6⟩:=Zh7 f3 b3 b4 f7 g b2 f2;clear f3 b3 b4 f7 g f1 j3 l f2;go_wp2_with fail;refine g2.out.mono ?_;rintro e i ⟨rfl,rfl⟩;clear g2;cases m2 with
 | true=>
  have m:=c8.out rfl;have W:=Zh m;clear m c8 c9 b2 l7 c6 a8 a4 a6;go_wp2;exact⟨⟨x+1,F,G,by omega,tz,(Prod.ext rfl (lE rfl (lE rfl (lE rfl (lE (by rw [W.out,a7.out];rfl) rfl))))),by rw [W.out];exact d6.out,j.out⟩,mz⟩
 | false=>
  have m:=c9.out rfl;have W:=Zh m;clear m c8 c9 a8 a4 a6;obtain⟨q,e9⟩:=zE i.heap.size;have m7:s<=q:=by have:=j.out.size;have:=g8.out;omega
  have i3:(i.alloc (.cells #[] 3)).ownsRow q 3 1 (.slice (some ⟨i.heap.size,0,none⟩) 0 0) 0 []:=by rw [<-e9];exact World.ownsRow_lit i #[] 0 (Nat.le_refl _) (by unfold maxLen;omega) rfl
  have g0:=Zh i3;have a5:=Zh e9;have k4:∀ M∈Qq o,M.oneCell'=true:=fun M K=>by obtain⟨_,_,rfl⟩:=List.mem_map.1 K;rfl
  have g4:=Zh k4;have m8:(i.alloc (.cells #[] 3)).cell? ⟨i2,l0+f,none⟩=some (.slice m5 c m4):=(show Ext i (i.alloc (.cells #[] 3)) from(Qa.refl _ i).alloc _).cell_some b2 id;clear i3 k4 e9 b2
  go_wp2_with (at_builtin;refine Vo rfl (.tmp 34) (.tmp 38) 48 rfl q 3 _ 1 8 Tryz.underlying48 Q1j rfl zd _ 0 [] rfl g0.out _ c _ (Qq o) rfl (c6.out.ext ((Qa.refl _ i).alloc _)) g4.out ?c3 ?c4 ?c5 ?_)
  case c3=>unfold maxLen;omega
  case c4=>omega
  case c5=>have:=a5.out;first | omega | (simp;omega)
  intro l6 l5 E R j4 _;try rw [Nat.zero_add,List.nil_append] at R
  have R:E.ownsRow q 3 1 (.slice l6 c l5) c (Qq o):=R;have Q:Ext i E:=Qa.after ((Qa.refl _ i).alloc (.cells #[] 3)) j4 (fun b hb e=>by simp only [Value.ownBlock,Option.some.injEq] at e;omega);have S:=Qo R ((Qa.refl _ E).alloc (.cells #[.int .i64 (x:Int)] 3));obtain⟨D,g3,U⟩:=Zh3 S R Q;have n6:q<=E.heap.size:=by have:=Q.size;have:=a5.out;omega
  clear R S Q j4 g0 c6 g4 m8;try rw [Nat.zero_add]
  go_wp2_with (at_builtin;refine Zp rfl (.tmp 39) (.tmp 41) 48 rfl q 3 _ 1 8 Tryz.underlying48 Q1j rfl zd _ _ _ rfl D.out ⟨E.heap.size,0,none⟩ 1 1 [.int .i64 (x:Int)] rfl rfl (Zo rfl) ?d2 ?d3 ?d4 ?d5 ?_)
  case d2=>first | rfl | (intro M K;simp only [List.mem_cons,List.not_mem_nil,or_false] at K;rcases K with rfl;rfl)
  case d3=>unfold maxLen;omega
  case d4=>omega
  case d5=>first | omega | (simp;omega)
  intro C B k b1 j5 _;have j6:Qa (fun b'=>(Value.slice l6 c l5).ownBlock=some b') E k:=Qa.trans (Qa.alloc (Qa.refl _ E) _) j5;have b0:Ext i k:=U.out.after j6 (fun b' e6 e=>by have:=(g3.out.lt _ e).1;have:=a5.out;omega);rw [<-Xa] at b1;obtain⟨c0,b6⟩:=zE (o++[x]);have b7:c0.length=c+1:=by rw [<-b6,List.length_append,d7.out];rfl
  rw [b6] at b1;have f8:=W.out;rw [b6] at f8;have g7:=Zh f8;have n1:=Zh b7;have u:Ext k (k.alloc (.cells #[.slice C (c+1) B] 48)):=(Qa.refl _ k).alloc _;obtain⟨l4,c1,l1,l2⟩:=d6.out.ext (b0.trans u);have f9:=c1;rw [a7.out] at f9;have k6:(k.alloc (.cells #[.slice C (c+1) B] 48)).ownsRow s 3 1 (.slice C c0.length B) c0.length (Qq c0):=by rw [b7];exact Xh (Qo b1 u) m7
  have J:∀(t:Option Addr) (c5:Nat) (N:World),N.ownsRow s 48 1 (.slice t (L+1) c5) (L+1) (l4++[.slice C (c+1) B])->Qa (fun b'=>(Value.slice F L G).ownBlock=some b') (k.alloc (.cells #[.slice C (c+1) B] 48)) N->((Value.slice t (L+1) c5).ownBlock=(Value.slice F L G).ownBlock\/(Value.slice t (L+1) c5).ownBlock=some (k.alloc (.cells #[.slice C (c+1) B] 48)).heap.size)->Xn s (fun _=>False) N t c5 (Xc r o (x+1))/\Ext a9 N:=fun t c5 N q1 q2 q3=>by
   have o1:=q2;rw [<-a7.out] at q1 q2 q3;refine⟨by rw [g7.out];exact Xn.push c1 l1 l2 k6 (fun _ _ h=>h) (fun _ h=>h.elim) (by rw [b7];exact q1) q2 q3,?_⟩;exact(j.out.trans (b0.trans u)).after q2 fun b' e6 e=>by have:=(c1.lt _ e).1;have:=g8.out;omega
  have a2:(Xc r o (x+1)).length=L+1:=by rw [g7.out,List.length_append,a7.out];rfl
  have j9:s<=(k.alloc (.cells #[.slice C (c+1) B] 48)).heap.size:=by have:=b0.size;have:=a5.out;simp;omega
  obtain⟨P,g5,V,m0⟩:=Zh4 J f9 a2 j9;clear f8 u c1 l1 l2 f9 k6 J a2 j9 b1 j5 j6 b0 b7 b6 D g3 U d6 W
  go_wp2_with (at_builtin;refine Zp rfl (.tmp 33) (.tmp 43) 27 rfl s 48 _ 1 24 Tryz.underlying27 Q4l rfl zd _ _ _ rfl g5.out ⟨k.heap.size,0,none⟩ 1 1 [.slice C (c+1) B] rfl rfl (Zo rfl) ?e2 ?e3 ?e4 ?e5 ?_)
  case e2=>first | rfl | (intro M K;simp only [List.mem_cons,List.not_mem_nil,or_false] at K;rcases K with rfl;rfl)
  case e3=>unfold maxLen;omega
  case e4=>omega
  case e5=>simpa using m0.out
  intro t c5 N j1 j7 i5;obtain⟨j2,i7⟩:=P.out t c5 N j1 j7 (by simpa using i5);have l9:=Zh j2;have l8:=Zh i7;clear j2 i7 j1 j7 i5 g5 P;go_wp2;exact⟨⟨x+1,t,c5,by omega,tz,(Prod.ext rfl (lE rfl (lE rfl (lE rfl (lE (by rw [V.out];rfl) rfl))))),l9.out,l8.out⟩,mz⟩
def Wq(PL:List Qe)(us:List Wd):List (Wd × Wd):=us.map fun u=>(u,V5 PL u)
theorem Q8x{b:List Qe}{u:Wd}(d:∀ l∈b,∀ x∈l.outs,Yu x)(c:Yh u)(h:Ui b u=0):wE (V5 b u)=0:=by
 by_cases a:V3 b u=0
 ·cases h2:Ye b u with
  | none=>rw [(Ls a h2).1] at h;cases h
  | some v=>
   rw [(Wt a h2).2];have e:wE u=0:=by
    unfold V3 at a
    split at a
    ·exact a
    ·contradiction
   exact(Q1n d c e h2).1
 ·rw [(By a).1] at h;exact absurd h a
theorem Q6t{ps:Qs}{ol:List Nat}(b:∀ p∈ps,∀ x∈p.1.outs,Yu x):∀ l∈(Y6 ps ol).map (·.1),∀ x∈l.outs,Yu x:=by
 intro l a x d;obtain⟨p,c,rfl⟩:=List.mem_map.1 a;exact b p (Pa c) x d
theorem Q4p{ps:Qs}{ol:List Nat}{us:List Wd}(e:Ka (ps.map (·.1)) []) (f:∀ p∈ps,∀ x∈p.1.outs,Yu x) (g:us.length<=4) (d:∀ u∈us,Yh u)
  (c:∀ u∈us,wE u=0/\Ui ((Y6 ps ol).map (·.1)) u=0):Z6 (ps.map (·.1)) (Wq ((Y6 ps ol).map (·.1)) us)=0:=by
 have b:=Jh e.2.2;refine Q1m b.1 b.2.1 (by unfold Wq;rw [List.length_map];omega) fun q hq=>?_
 obtain⟨u,a,rfl⟩:=List.mem_map.1 hq;exact⟨(c u a).1,Q8x (Q6t f) (d u a) (c u a).2⟩
structure Qbw (ps:Qs) (ol:List Nat) (qs:Qi) (n m:Nat):Prop where
 fn:Gs (ps.map (·.1)) (U3 ol) qs=false
 we:Ya (ps.map (·.1)) (U3 ol) (qs.map (·.1))=0
 eb:Wv (ps.map (·.1)) qs=true
 ex:(Vw (ps.map (·.1)) qs).length=n
 bn:Mj (ps.map (·.1)) qs=m
 oe:Z6 (ps.map (·.1)) (qs.map (·.1))=0
 al:Ga (ps.map (·.1)) qs 1000=Ze (ps.map (·.1)) qs n
 mem:ol∈Ze (ps.map (·.1)) qs n
theorem Qb5{ps:Qs}{ol:List Nat}{qs:Qi}{us:List Wd}{n m:Nat}(d:Ka (ps.map (·.1)) []) (s:∀ p∈ps,∀ x∈p.1.outs,Yu x) (o:ps.length=n) (e:ol∈Qm n)
  (f:qs.map (·.1)=Wq ((Y6 ps ol).map (·.1)) us) (l:qs.length=m) (i:us.length<=4) (k:∀ u∈us,Yh u) (c:∀ u∈us,wE u=0/\Ui ((Y6 ps ol).map (·.1)) u=0):Qbw ps ol qs n m:=by
 subst o l;have a:=Q4p d s i k c;rw [<-f] at a;have r:ps.length<=4:=by have:=d.1;rwa [List.length_map] at this
 have j:∀ q∈qs,Mo ps ol q.1.1 q.1.2=true:=fun q hq'=>by
  have b:q.1∈qs.map (·.1):=List.mem_map.2 ⟨q,hq',rfl⟩;rw [f] at b;obtain⟨u,t,g⟩:=List.mem_map.1 b;rw [<-g];unfold Mo;rw [decide_eq_true (c u t).2,decide_eq_true rfl];rfl
 obtain⟨v,w,y,z,A⟩:=Q44 a e j;refine⟨v,Lj a (by rw [List.length_map];exact e),w,z,y,a,?_,A⟩;unfold Ga;rw [if_pos a,List.length_map];exact List.take_of_length_le (by have:=Q43 (ps.map (·.1)) qs ps.length r;omega)
theorem Q4f(LD:List Qe)(n:Nat):Ze LD [] n=Qm n:=Q5l LD n
theorem Q8m{L:List (List Nat)} {x:List Nat} {k:Nat} (a:k<L.length):(L.take (k+1)).contains x=((L.take k).contains x || decide (L[k]=x)):=by
 rw [Bool.eq_iff_iff,Bool.or_eq_true,List.contains_iff_mem,List.contains_iff_mem,decide_eq_true_iff,List.take_succ_eq_append_getElem a,List.mem_append,List.mem_singleton];exact⟨fun h=>h.imp id Eq.symm,fun h=>h.imp id Eq.symm⟩
end Go.Proofs.YtfdlhlghcbeblaaGreatDoor
