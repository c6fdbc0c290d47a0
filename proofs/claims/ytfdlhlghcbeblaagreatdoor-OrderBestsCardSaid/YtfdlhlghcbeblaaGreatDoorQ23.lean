/- PLAIN: -/
import Derived.Test.YtfdlhlghcbeblaaGreatDoorQ22
set_option maxRecDepth 100000
set_option maxHeartbeats 16000000
namespace Go.Proofs.YtfdlhlghcbeblaaGreatDoor
open Go.RowKit Go.Ab
theorem Q52{l:List Int}(h:Xf l=0):∀ x∈l,x=0:=by
 induction l with
 | nil=>intro x a;cases a
 | cons e l ih=>
  unfold Xf at h
  split at h
  ·rename_i b
   intro x a;rcases List.mem_cons.1 a with rfl | a
   ·exact b
   ·exact ih h x a
  ·rename_i b;exact absurd h b
theorem Dn{LD:List Q5}{a:List (Wd × Wd)} (h:Qu LD a=0):LD.length<=6/\(∀ l∈LD,Yg l=true)/\a.length<=32/\∀ q∈a,wE q.1=0/\wE q.2=0:=by
 obtain⟨b,c,d,e⟩:=V4 h;refine⟨b,fun l hl=>List.all_eq_true.1 c l hl,d,fun q hq=>?_⟩;have:=Q52 e _ (List.mem_map.2 ⟨q,hq,rfl⟩);unfold wpE at this
 split at this
 ·exact⟨by assumption,this⟩
 ·rename_i f;exact absurd this f
theorem Rf(LD:List Q5):∀ ol:List Nat,Jm LD ol none=none
 | []=>rfl
 | x::ol=>by
  unfold Jm;rw [List.foldl_cons];cases LD[x]? with
  | none=>exact Rf LD ol
  | some l=>exact Rf LD ol
theorem Q8j(LD:List Q5)(x:Nat)(ol:List Nat)(s:Option Wd):Jm LD (x::ol) s=Jm LD ol (match LD[x]? with | some l=>X6 l s | none=>s):=rfl
theorem T8(LD:List Q5):∀(ol:List Nat) (u:Wd),Xm (ol.filterMap fun x=>LD[x]?) u=Jm LD ol (some u)
 | [],_=>rfl
 | x::ol,u=>by
  rw [Q8j,List.filterMap_cons];cases h:LD[x]? with
  | none=>exact T8 LD ol u
  | some l=>
   show (if trE l u=0 then Xm (ol.filterMap fun x=>LD[x]?) (Jl l u) else none)=Jm LD ol ((some u).bind fun u=>if trE l u=0 then some (Jl l u) else none);rw [Option.bind_some];by_cases ht:trE l u=0
   ·rw [if_pos ht,if_pos ht];exact T8 LD ol _
   ·rw [if_neg ht,if_neg ht,Rf]
theorem Qcu(ps:Qi)(ol:List Nat):(Xk ps ol).map (·.1)=ol.filterMap fun x=>(ps.map (·.1))[x]?:=by
 unfold Xk;rw [List.map_filterMap]
 congr 1
 funext x
 rw [List.getElem?_map]
theorem Qb6{ps:Qi}{ol:List Nat}{u v:Wd}(e:∀ l∈ps.map (·.1),Yg l=true) (f:ol.length<=64) (i:wE u=0):Gr ps ol u v=xB (Jm (ps.map (·.1)) ol (some u)) v:=by
 have c:Ul ((Xk ps ol).map (·.1))=0:=by
  unfold Ul;have k:((Xk ps ol).map (·.1)).length<=64:=by
   rw [List.length_map];unfold Xk;exact Nat.le_trans (List.length_filterMap_le _ _) f
  rw [if_neg oz,if_pos];rw [List.all_eq_true];intro l b;obtain⟨j,g,rfl⟩:=List.mem_map.1 b;exact e _ (List.mem_map.2 ⟨j,Q43 g,rfl⟩)
 have a:Gf ((Xk ps ol).map (·.1)) u=0:=by unfold Gf;rw [if_pos c,i]
 have d:Xm ((Xk ps ol).map (·.1)) u=Jm (ps.map (·.1)) ol (some u):=by rw [Qcu,T8]
 unfold Gr;rw [<-d];cases hd:Xm ((Xk ps ol).map (·.1)) u with
 | none=>
  rw [(Pz a hd).1];rfl
 | some t=>
  rw [(Lv a hd).1,(Lv a hd).2];simp [xB]
theorem Dl{ps:Qi}{qs:Q9}{ol:List Nat}(h:Qu (ps.map (·.1)) (qs.map (·.1))=0) (d:ol.length<=64):Zy ps ol qs=Xb (ps.map (·.1)) ol qs:=by
 obtain⟨_,b,_,c⟩:=Dn h;unfold Zy Xb;apply List.map_congr_left;intro a e;exact Qb6 b d (c a.1 (List.mem_map.2 ⟨a,e,rfl⟩)).1
theorem Q4a(l:List Bool):Wj l false=if l.findIdx (fun b=>!b)=l.length then -1 else((l.findIdx fun b=>!b:Nat):Int):=by
 unfold Wj;cases h:l.findIdx? fun b=>b == false with
 | none=>
  rw [List.findIdx?_eq_none_iff] at h;have:l.findIdx (fun b=>!b)=l.length:=List.findIdx_eq_length_of_false fun x hx=>by have:=h x hx;cases x <;> simp_all
  rw [if_pos this]
 | some i=>
  obtain⟨c,d,a⟩:=List.findIdx?_eq_some_iff_getElem.1 h;have:l.findIdx (fun b=>!b)=i:=by
   rw [List.findIdx_eq c];exact⟨by cases hb:l[i] <;> simp_all,fun j hj=>by have:=a j hj;cases hb:l[j] <;> simp_all⟩
  rw [this,if_neg oz]
theorem Bt{ps:Qi}{qs:Q9}{ol:List Nat}:Jk ps ol qs=qs.length↔(Zy ps ol qs).all id=true:=by
 have d:(Zy ps ol qs).length=qs.length:=by unfold Zy;rw [List.length_map]
 unfold Jk;rw [<-d,List.findIdx_eq_length,List.all_eq_true];constructor
 ·intro a c b;have:=a c b;simpa using this
 ·intro a c b;have:=a c b;simp at this;simp [this]
theorem Q3g{xs:List Int}{n:Nat}(h:Yy xs n=true):(Zo xs).length=n/\xs.length=n:=by
 have a:=(Vo h).2.2.1.length_eq;rw [List.length_range] at a;exact⟨a,by unfold Zo at a;rwa [List.length_map] at a⟩
theorem Q0k{ps:Qi}{qs:Q9}{xs:List Int}:Ru ps xs qs=M8 (ps.map (·.1)) xs qs/\Ri ps xs qs=Ly (ps.map (·.1)) xs qs:=by
 unfold Ru Ri M8 Ly;by_cases a:Zs (ps.map (·.1)) xs (qs.map (·.1))=0
 ·obtain⟨d,e⟩:=Kw a;have j:=(Dn d).1;have k:=(Q3g e).1;have f:=Dl (ol:=Zo xs) d oz;have i:(Xb (ps.map (·.1)) (Zo xs) qs).length=qs.length:=by unfold Xb;rw [List.length_map]
  have g:Jk ps (Zo xs) qs=(Xb (ps.map (·.1)) (Zo xs) qs).findIdx fun b=>!b:=by unfold Jk;rw [f]
  have l:(Xb (ps.map (·.1)) (Zo xs) qs).findIdx (fun b=>!b)<=(Xb (ps.map (·.1)) (Zo xs) qs).length:=List.findIdx_le_length;rw [if_pos a,if_pos a,if_pos a,if_pos a,g];unfold Fq;rw [Q4a,i];by_cases c:(Xb (ps.map (·.1)) (Zo xs) qs).findIdx (fun b=>!b)=qs.length
  ·rw [if_pos c,if_pos c];refine⟨by decide,?_⟩;rw [decide_eq_false (by simpa using c)];decide
  ·rw [if_neg c,if_neg c];refine⟨by omega,?_⟩;rw [decide_eq_true c,decide_eq_true oz]
 ·rw [if_neg a,if_neg a,if_neg a,if_neg a];exact⟨rfl,rfl⟩
theorem M9{ps:Qi}{qs:Q9}(h:Qu (ps.map (·.1)) (qs.map (·.1))=0):Xc ps qs (Qo ps.length)=Yp (ps.map (·.1)) qs (ps.map (·.1)).length:=by
 unfold Xc Yp;rw [List.length_map,Kf];apply List.filter_congr;intro a e;have f:=(Ua ps.length a e).1;have c:=(Dn h).1;rw [List.length_map] at c;have d:=Dl (ol:=a) h oz;unfold Hr;rw [<-d];by_cases b:(Zy ps a qs).all id=true
 ·rw [b,decide_eq_true (Bt.2 b)]
 ·rw [decide_eq_false (fun q=>b (Bt.1 q))];cases hb:(Zy ps a qs).all id <;> simp_all
theorem Ph{ps:Qi}{qs:Q9}:Fj ps qs=Hn (ps.map (·.1)) qs/\Ro ps qs=M7 (ps.map (·.1)) qs:=by
 unfold Fj Ro Hn M7;by_cases a:Qu (ps.map (·.1)) (qs.map (·.1))=0
 ·rw [if_pos a,if_pos a,if_pos a,if_pos a,M9 a];exact⟨rfl,rfl⟩
 ·rw [if_neg a,if_neg a,if_neg a,if_neg a];exact⟨rfl,rfl⟩
theorem Qds{ps:Qi}{qs:Q9}{most:Int}:Rs ps qs most=W3 (ps.map (·.1)) qs most:=by
 unfold Rs W3;by_cases a:Qu (ps.map (·.1)) (qs.map (·.1))=0
 ·rw [if_pos a,if_pos a,M9 a]
 ·rw [if_neg a,if_neg a]
theorem Q7h{ps:Qi}{qs:Q9}(h:Qu (ps.map (·.1)) (qs.map (·.1))=0) (l:List (List Nat)) (d:∀ x∈l,x.length<=64):Vq ps qs l=U8 (ps.map (·.1)) qs l:=by
 unfold Vq U8
 suffices hs:∀(l:List (List Nat)) (a:List Nat × Int),(∀ x∈l,x.length<=64)->l.foldl (Uu ps qs) a=l.foldl (Vu (ps.map (·.1)) qs) a from hs l _ d
 intro l
 induction l with
 | nil=>intro a _;rfl
 | cons x l ih=>
  intro a b;rw [List.foldl_cons,List.foldl_cons];have c:=Dl (ol:=x) h (b x zy);have:Uu ps qs a x=Vu (ps.map (·.1)) qs a x:=by
   unfold Uu Vu T1 Tk Nw;rw [c]
  rw [this];exact ih _ fun y hy=>b y (by simp [hy])
def Th(LD:List Q5)(ol:List Nat)(QS:List (Wd × Wd)):List Bool:=QS.map fun q=>xB (Jm LD ol (some q.1)) q.2
theorem Ca(LD:List Q5)(ol:List Nat)(qs:Q9):Xb LD ol qs=Th LD ol (qs.map (·.1)):=by
 unfold Xb Th;rw [List.map_map];rfl
def Qe7(LD:List Q5)(QS:List (Wd × Wd)) (n:Nat):List (List Nat):=(Yi n (List.range n)).filter fun x=>(Th LD x QS).all id
theorem Qfj(LD:List Q5)(qs:Q9)(n:Nat):Yp LD qs n=Qe7 LD (qs.map (·.1)) n:=by
 unfold Yp Qe7;apply List.filter_congr;intro a _;unfold Hr;rw [Ca]
theorem Qef(LD:List Q5)(qs:Q9)(l:List Nat)(i:Nat):Hm LD qs l i=exB (Th LD l (qs.map (·.1))) (Th LD (Xz l i) (qs.map (·.1))):=by
 unfold Hm;rw [Ca,Ca]
abbrev Qal:Pat:=.node 1 4 0 false 0 0 []
abbrev Qe9:Pat:=.node 0 0 0 false 0 0 []
abbrev Qgk:Pat:=.node 6 0 0 false 0 0 []
abbrev vD:Q5:=⟨⟨#[86]⟩,Qal,Qal,[(2,0)],[⟨0,0,(1,0),0,0⟩],1⟩
abbrev fD:Q5:=⟨⟨#[70]⟩,Qe9,Qgk,[(4,0)],[],1⟩
abbrev uD:Q5:=⟨⟨#[85]⟩,Qe9,Qgk,[(2,0)],[⟨0,0,(0,1),0,0⟩],1⟩
abbrev Yb:Wd:=[(5,2),(2,5),(5,2)]
abbrev apO:Wd:=[(5,2),(2,5)]
abbrev abO:Wd:=[(5,2),(3,4)]
theorem Q66{qs:Q9}(h:qs.map (·.1)=[(Yb,apO),(Yb,abO)]):M8 [vD,fD,uD] [0,1,2] qs=1/\Ly [vD,fD,uD] [0,1,2] qs=true/\Zs [vD,fD,uD] [0,1,2] (qs.map (·.1))=0:=by
 unfold M8 Ly Fq;rw [Ca,h];decide +kernel
theorem Ms{qs:Q9}(h:qs.map (·.1)=[(Yb,abO)]):Qu [vD,fD,uD] (qs.map (·.1))=0:=by
 rw [h];decide +kernel
theorem Cy{qs:Q9}(h:qs.map (·.1)=[(Yb,abO)]):Yp [vD,fD,uD] qs 3=[[0,2,1],[2,0,1]]:=by
 rw [Qfj,h];decide +kernel
theorem Q74{qs:Q9}(h:qs.map (·.1)=[(Yb,abO)]):Hn [vD,fD,uD] qs=[0,2,1]/\M7 [vD,fD,uD] qs=true:=by
 have a:=Ms h;have b:=Cy h;unfold Hn M7;rw [if_pos a,if_pos a];show (Yp [vD,fD,uD] qs 3).headD []=_/\(!(Yp [vD,fD,uD] qs 3).isEmpty)=_;rw [b];exact⟨rfl,rfl⟩
theorem Qg9{qs:Q9}(h:qs.map (·.1)=[(Yb,abO)]):W3 [vD,fD,uD] qs 9=[[0,2,1],[2,0,1]]:=by
 have a:=Ms h;have b:=Cy h;unfold W3;rw [if_pos a];show (Yp [vD,fD,uD] qs 3).take _=_;rw [b];rfl
theorem Qek{qs:Q9}(h:qs.map (·.1)=[(Yb,abO)]):U5 [vD,fD,uD] qs=[(0,1),(2,1)]/\Xs [vD,fD,uD] qs=0:=by
 have c:=Ms h;have a:=Cy h;have b:Xs [vD,fD,uD] qs=0:=by
  unfold Xs;rw [if_pos c];show (if (Yp [vD,fD,uD] qs 3).isEmpty=true then(5:Int) else 0)=0;rw [a];rfl
 refine⟨?_,b⟩;unfold U5;rw [if_pos b];show Xh 3 (Fg (Y7 (Yp [vD,fD,uD] qs 3)))=_;rw [a];decide +kernel
theorem Qeh{qs:Q9}(h:qs.map (·.1)=[(Yb,abO)]):Hu [vD,fD] [0,1] qs=[0]/\Zs [vD,fD] [0,1] (qs.map (·.1))=0:=by
 have a:Zs [vD,fD] [0,1] (qs.map (·.1))=0:=by rw [h];decide +kernel
 refine⟨?_,a⟩;unfold Hu;rw [if_pos a];have b:Hm [vD,fD] qs (Zo [0,1])=fun i=>exB (Th [vD,fD] [0,1] [(Yb,abO)]) (Th [vD,fD] (Xz [0,1] i) [(Yb,abO)]):=funext fun i=>by rw [Qef,h];rfl
 rw [b];decide +kernel
attribute [local go_sem] Oper.semAt_some Zi Qz
theorem Qdg:(Tryz.prog.info? 98).map (·.size)=some 7:=by kernel_rfl
theorem Tj:(Tryz.prog.info? 95).map (·.size)=some 2:=by kernel_rfl
theorem Py:(Tryz.prog.info? 105).map (·.size)=some 2:=by kernel_rfl
theorem Sq{a:Func}{p:Tmp}(h:a.results=#[.cell p 95]){tmps:Array Value}{w:World}{g:Nat}{cs:Array Value}(d:tmps.getD p undef=.pointer (some ⟨g,0,none⟩)) (b:w.heap[g]?=some (.cells cs 95 (0,0))) (c:(Tryz.prog.info? 95).map (·.size)=some cs.size) :
  (results a tmps).run Tryz.prog w=.ok (.agg cs) w:=by
 have e:tmps[p]?.getD undef=.pointer (some ⟨g,0,none⟩):=by simpa using d
 simp [results,h,e,asAddr,run_loadVar_row w g _ _ _ _ _ b Tryz.underlying95 rfl c]
theorem T6{a:Func}{p:Tmp}(h:a.results=#[.cell p 102]){tmps:Array Value}{w:World}{g:Nat}{cs:Array Value}(d:tmps.getD p undef=.pointer (some ⟨g,0,none⟩)) (b:w.heap[g]?=some (.cells cs 102 (0,0))) (c:(Tryz.prog.info? 102).map (·.size)=some cs.size) :
  (results a tmps).run Tryz.prog w=.ok (.agg cs) w:=by
 have e:tmps[p]?.getD undef=.pointer (some ⟨g,0,none⟩):=by simpa using d
 simp [results,h,e,asAddr,run_loadVar_row w g _ _ _ _ _ b Tryz.underlying102 rfl c]
theorem Q8k{a:Func}{p:Tmp}(h:a.results=#[.cell p 105]){tmps:Array Value}{w:World}{g:Nat}{cs:Array Value}(d:tmps.getD p undef=.pointer (some ⟨g,0,none⟩)) (b:w.heap[g]?=some (.cells cs 105 (0,0))) (c:(Tryz.prog.info? 105).map (·.size)=some cs.size) :
  (results a tmps).run Tryz.prog w=.ok (.agg cs) w:=by
 have e:tmps[p]?.getD undef=.pointer (some ⟨g,0,none⟩):=by simpa using d
 simp [results,h,e,asAddr,run_loadVar_row w g _ _ _ _ _ b Tryz.underlying105 rfl c]
theorem Qav(w:World):Calls Tryz.prog 57 #[] w fun e w'=>e=.returned (.agg #[.int .u32 2,.int .u32 5])/\Ext w w':=by
 go_enter Tryz.func57,Tryz.ntmps57;go_wp2;exact bodyPost_ret (Sq rfl rfl (Q3 rfl) Tj) rfl ⟨rfl,(Q0.refl _ w).alloc _⟩
theorem Qge(w:World):Calls Tryz.prog 56 #[] w fun e w'=>e=.returned (.agg #[.int .u32 3,.int .u32 4])/\Ext w w':=by
 go_enter Tryz.func56,Tryz.ntmps56;go_wp2;exact bodyPost_ret (Sq rfl rfl (Q3 rfl) Tj) rfl ⟨rfl,(Q0.refl _ w).alloc _⟩
theorem Bh(w:World):Calls Tryz.prog 55 #[] w fun e w'=>e=.returned (.agg #[.int .u32 5,.int .u32 2])/\Ext w w':=by
 go_enter Tryz.func55,Tryz.ntmps55;go_wp2;exact bodyPost_ret (Sq rfl rfl (Q3 rfl) Tj) rfl ⟨rfl,(Q0.refl _ w).alloc _⟩
theorem Q92(w:World):Calls Tryz.prog 53 #[] w fun e w'=>∃ g1:Nat,e=.returned (.agg #[.string ⟨#[70]⟩,.int .i64 0,.int .u32 0,.int .u32 0,.bool false,.int .i64 0,.int .i64 0,.slice none 0 0,.int .i64 6,.int .u32 0,.int .u32 0,.bool false,.int .i64 0,.int .i64 0,.slice none 0 0,.slice (some ⟨g1,0,none⟩) 1 1,.slice none 0 0,.int .i64 1])/\Zf w' fD [.string ⟨#[70]⟩,.int .i64 0,.int .u32 0,.int .u32 0,.bool false,.int .i64 0,.int .i64 0,.slice none 0 0,.int .i64 6,.int .u32 0,.int .u32 0,.bool false,.int .i64 0,.int .i64 0,.slice none 0 0,.slice (some ⟨g1,0,none⟩) 1 1,.slice none 0 0,.int .i64 1]/\Ext w w':=by
 go_enter Tryz.func53,Tryz.ntmps53;obtain⟨a,c⟩:=zE ((w.alloc (.cells #[.string ⟨#[]⟩,.int .i64 0,.int .u32 0,.int .u32 0,.bool false,.int .i64 0,.int .i64 0,.slice none 0 0,.int .i64 0,.int .u32 0,.int .u32 0,.bool false,.int .i64 0,.int .i64 0,.slice none 0 0,.slice none 0 0,.slice none 0 0,.int .i64 0] 102)).alloc (.cells #[.int .u32 4,.int .u32 0] 95));have l:Ext w a:=by rw [<-c];exact((Q0.refl _ w).alloc _).alloc _
 have g:a.heap[w.heap.size]?=some (.cells #[.string ⟨#[]⟩,.int .i64 0,.int .u32 0,.int .u32 0,.bool false,.int .i64 0,.int .i64 0,.slice none 0 0,.int .i64 0,.int .u32 0,.int .u32 0,.bool false,.int .i64 0,.int .i64 0,.slice none 0 0,.slice none 0 0,.slice none 0 0,.int .i64 0] 102 (0,0)):=by rw [<-c];exact Q8 (Q3 rfl)
 have i:a.heap[w.heap.size+1]?=some (.cells #[.int .u32 4,.int .u32 0] 95 (0,0)):=by rw [<-c];exact Q3 zy
 obtain⟨p,d,o⟩:=Zh3 l g i;clear l g i;have f:=Q0.setRow a w.heap.size #[.string ⟨#[70]⟩,.int .i64 0,.int .u32 0,.int .u32 0,.bool false,.int .i64 0,.int .i64 0,.slice none 0 0,.int .i64 6,.int .u32 0,.int .u32 0,.bool false,.int .i64 0,.int .i64 0,.slice none 0 0,.slice (some ⟨w.heap.size+1,0,none⟩) 1 1,.slice none 0 0,.int .i64 1];have m:=setRow_heap _ _ _ #[.string ⟨#[70]⟩,.int .i64 0,.int .u32 0,.int .u32 0,.bool false,.int .i64 0,.int .i64 0,.slice none 0 0,.int .i64 6,.int .u32 0,.int .u32 0,.bool false,.int .i64 0,.int .i64 0,.slice none 0 0,.slice (some ⟨w.heap.size+1,0,none⟩) 1 1,.slice none 0 0,.int .i64 1] _ _ d.out;have j:=f.heap o.out oz;have k:Ext w (a.setRow w.heap.size #[.string ⟨#[70]⟩,.int .i64 0,.int .u32 0,.int .u32 0,.bool false,.int .i64 0,.int .i64 0,.slice none 0 0,.int .i64 6,.int .u32 0,.int .u32 0,.bool false,.int .i64 0,.int .i64 0,.slice none 0 0,.slice (some ⟨w.heap.size+1,0,none⟩) 1 1,.slice none 0 0,.int .i64 1]):=p.out.after f (fun b hb e=>by omega);obtain⟨r,n⟩:=zE (a.setRow w.heap.size #[.string ⟨#[70]⟩,.int .i64 0,.int .u32 0,.int .u32 0,.bool false,.int .i64 0,.int .i64 0,.slice none 0 0,.int .i64 6,.int .u32 0,.int .u32 0,.bool false,.int .i64 0,.int .i64 0,.slice none 0 0,.slice (some ⟨w.heap.size+1,0,none⟩) 1 1,.slice none 0 0,.int .i64 1]);rw [n] at m k j;clear f;have q:Hid ((((w.alloc (.cells #[.string ⟨#[]⟩,.int .i64 0,.int .u32 0,.int .u32 0,.bool false,.int .i64 0,.int .i64 0,.slice none 0 0,.int .i64 0,.int .u32 0,.int .u32 0,.bool false,.int .i64 0,.int .i64 0,.slice none 0 0,.slice none 0 0,.slice none 0 0,.int .i64 0] 102)).alloc (.cells #[.int .u32 4,.int .u32 0] 95))).heap[w.heap.size]?=some (.cells #[.string ⟨#[]⟩,.int .i64 0,.int .u32 0,.int .u32 0,.bool false,.int .i64 0,.int .i64 0,.slice none 0 0,.int .i64 0,.int .u32 0,.int .u32 0,.bool false,.int .i64 0,.int .i64 0,.slice none 0 0,.slice none 0 0,.slice none 0 0,.int .i64 0] 102 (0,0))):=Zh (by rw [c];exact d.out)
 go_wp2_with (first | (refine wpList_store_row rfl 102 (.tmp 0) (.tmp 4) rfl w.heap.size #[.string ⟨#[70]⟩,.int .i64 0,.int .u32 0,.int .u32 0,.bool false,.int .i64 0,.int .i64 0,.slice none 0 0,.int .i64 6,.int .u32 0,.int .u32 0,.bool false,.int .i64 0,.int .i64 0,.slice none 0 0,.slice (some ⟨w.heap.size+1,0,none⟩) 1 1,.slice none 0 0,.int .i64 1] zr zr _ _ d.out kz rfl kz ?_;try rw [n]))
 try simp only [Act.put]
 go_wp2;exact bodyPost_ret (T6 rfl rfl m kz) rfl ⟨w.heap.size+1,rfl,⟨[.int .i64 0,.int .u32 0,.int .u32 0,.bool false,.int .i64 0,.int .i64 0,.slice none 0 0],[.int .i64 6,.int .u32 0,.int .u32 0,.bool false,.int .i64 0,.int .i64 0,.slice none 0 0],_,_,rfl,by decide,Wh _ _ 0 false 0 0 zd zd,Wh _ _ 6 false 0 0 zd zd,⟨X2 (xs:=Za [(4,0)]) j rfl zd,by simp [Yf]⟩,⟨⟨rfl,by simp [maxLen],none,0,rfl,fun h=>by simp at h⟩,by simp [Jh]⟩⟩,k⟩
theorem Qgj(w:World):Calls Tryz.prog 93 #[] w fun e w'=>∃ g1 g2:Nat,e=.returned (.agg #[.string ⟨#[85]⟩,.int .i64 0,.int .u32 0,.int .u32 0,.bool false,.int .i64 0,.int .i64 0,.slice none 0 0,.int .i64 6,.int .u32 0,.int .u32 0,.bool false,.int .i64 0,.int .i64 0,.slice none 0 0,.slice (some ⟨g1,0,none⟩) 1 1,.slice (some ⟨g2,0,none⟩) 1 1,.int .i64 1])/\Zf w' uD [.string ⟨#[85]⟩,.int .i64 0,.int .u32 0,.int .u32 0,.bool false,.int .i64 0,.int .i64 0,.slice none 0 0,.int .i64 6,.int .u32 0,.int .u32 0,.bool false,.int .i64 0,.int .i64 0,.slice none 0 0,.slice (some ⟨g1,0,none⟩) 1 1,.slice (some ⟨g2,0,none⟩) 1 1,.int .i64 1]/\Ext w w':=by
 go_enter Tryz.func93,Tryz.ntmps93;obtain⟨a,c⟩:=zE (((w.alloc (.cells #[.string ⟨#[]⟩,.int .i64 0,.int .u32 0,.int .u32 0,.bool false,.int .i64 0,.int .i64 0,.slice none 0 0,.int .i64 0,.int .u32 0,.int .u32 0,.bool false,.int .i64 0,.int .i64 0,.slice none 0 0,.slice none 0 0,.slice none 0 0,.int .i64 0] 102)).alloc (.cells #[.int .u32 2,.int .u32 0] 95)).alloc (.cells #[.int .i64 0,.int .u32 0,.int .u32 0,.int .u32 1,.int .u32 0,.int .i64 0] 109));have n:Ext w a:=by rw [<-c];exact(((Q0.refl _ w).alloc _).alloc _).alloc _
 have g:a.heap[w.heap.size]?=some (.cells #[.string ⟨#[]⟩,.int .i64 0,.int .u32 0,.int .u32 0,.bool false,.int .i64 0,.int .i64 0,.slice none 0 0,.int .i64 0,.int .u32 0,.int .u32 0,.bool false,.int .i64 0,.int .i64 0,.slice none 0 0,.slice none 0 0,.slice none 0 0,.int .i64 0] 102 (0,0)):=by rw [<-c];exact Q8 (Q8 (Q3 rfl))
 have i:a.heap[w.heap.size+1]?=some (.cells #[.int .u32 2,.int .u32 0] 95 (0,0)):=by rw [<-c];exact Q8 (Q3 zy)
 have j:a.heap[w.heap.size+2]?=some (.cells #[.int .i64 0,.int .u32 0,.int .u32 0,.int .u32 1,.int .u32 0,.int .i64 0] 109 (0,0)):=by rw [<-c];exact Q3 zy
 obtain⟨s,f,q,r⟩:=Zh4 n g i j;clear n g i j;have d:=Q0.setRow a w.heap.size #[.string ⟨#[85]⟩,.int .i64 0,.int .u32 0,.int .u32 0,.bool false,.int .i64 0,.int .i64 0,.slice none 0 0,.int .i64 6,.int .u32 0,.int .u32 0,.bool false,.int .i64 0,.int .i64 0,.slice none 0 0,.slice (some ⟨w.heap.size+1,0,none⟩) 1 1,.slice (some ⟨w.heap.size+2,0,none⟩) 1 1,.int .i64 1];have o:=setRow_heap _ _ _ #[.string ⟨#[85]⟩,.int .i64 0,.int .u32 0,.int .u32 0,.bool false,.int .i64 0,.int .i64 0,.slice none 0 0,.int .i64 6,.int .u32 0,.int .u32 0,.bool false,.int .i64 0,.int .i64 0,.slice none 0 0,.slice (some ⟨w.heap.size+1,0,none⟩) 1 1,.slice (some ⟨w.heap.size+2,0,none⟩) 1 1,.int .i64 1] _ _ f.out;have k:=d.heap q.out oz;have l:=d.heap r.out oz;have m:Ext w (a.setRow w.heap.size #[.string ⟨#[85]⟩,.int .i64 0,.int .u32 0,.int .u32 0,.bool false,.int .i64 0,.int .i64 0,.slice none 0 0,.int .i64 6,.int .u32 0,.int .u32 0,.bool false,.int .i64 0,.int .i64 0,.slice none 0 0,.slice (some ⟨w.heap.size+1,0,none⟩) 1 1,.slice (some ⟨w.heap.size+2,0,none⟩) 1 1,.int .i64 1]):=s.out.after d (fun b hb e=>by omega);obtain⟨u,p⟩:=zE (a.setRow w.heap.size #[.string ⟨#[85]⟩,.int .i64 0,.int .u32 0,.int .u32 0,.bool false,.int .i64 0,.int .i64 0,.slice none 0 0,.int .i64 6,.int .u32 0,.int .u32 0,.bool false,.int .i64 0,.int .i64 0,.slice none 0 0,.slice (some ⟨w.heap.size+1,0,none⟩) 1 1,.slice (some ⟨w.heap.size+2,0,none⟩) 1 1,.int .i64 1]);rw [p] at o m k l;clear d;have t:Hid (((((w.alloc (.cells #[.string ⟨#[]⟩,.int .i64 0,.int .u32 0,.int .u32 0,.bool false,.int .i64 0,.int .i64 0,.slice none 0 0,.int .i64 0,.int .u32 0,.int .u32 0,.bool false,.int .i64 0,.int .i64 0,.slice none 0 0,.slice none 0 0,.slice none 0 0,.int .i64 0] 102)).alloc (.cells #[.int .u32 2,.int .u32 0] 95)).alloc (.cells #[.int .i64 0,.int .u32 0,.int .u32 0,.int .u32 1,.int .u32 0,.int .i64 0] 109))).heap[w.heap.size]?=some (.cells #[.string ⟨#[]⟩,.int .i64 0,.int .u32 0,.int .u32 0,.bool false,.int .i64 0,.int .i64 0,.slice none 0 0,.int .i64 0,.int .u32 0,.int .u32 0,.bool false,.int .i64 0,.int .i64 0,.slice none 0 0,.slice none 0 0,.slice none 0 0,.int .i64 0] 102 (0,0))):=Zh (by rw [c];exact f.out)
 go_wp2_with (first | (refine wpList_store_row rfl 102 (.tmp 0) (.tmp 7) rfl w.heap.size #[.string ⟨#[85]⟩,.int .i64 0,.int .u32 0,.int .u32 0,.bool false,.int .i64 0,.int .i64 0,.slice none 0 0,.int .i64 6,.int .u32 0,.int .u32 0,.bool false,.int .i64 0,.int .i64 0,.slice none 0 0,.slice (some ⟨w.heap.size+1,0,none⟩) 1 1,.slice (some ⟨w.heap.size+2,0,none⟩) 1 1,.int .i64 1] zr zr _ _ f.out kz rfl kz ?_;try rw [p]))
 try simp only [Act.put]
 go_wp2;exact bodyPost_ret (T6 rfl rfl o kz) rfl ⟨w.heap.size+1,w.heap.size+2,rfl,⟨[.int .i64 0,.int .u32 0,.int .u32 0,.bool false,.int .i64 0,.int .i64 0,.slice none 0 0],[.int .i64 6,.int .u32 0,.int .u32 0,.bool false,.int .i64 0,.int .i64 0,.slice none 0 0],_,_,rfl,by decide,Wh _ _ 0 false 0 0 zd zd,Wh _ _ 6 false 0 0 zd zd,⟨X2 (xs:=Za [(2,0)]) k rfl zd,by simp [Yf]⟩,⟨X2 (xs:=T9 [⟨0,0,(0,1),0,0⟩]) l rfl zd,by simp [Jh,Z1]⟩⟩,m⟩
theorem Q8v(w:World):Calls Tryz.prog 52 #[] w fun e w'=>∃ g1 g2:Nat,e=.returned (.agg #[.string ⟨#[86]⟩,.int .i64 1,.int .u32 4,.int .u32 0,.bool false,.int .i64 0,.int .i64 0,.slice none 0 0,.int .i64 1,.int .u32 4,.int .u32 0,.bool false,.int .i64 0,.int .i64 0,.slice none 0 0,.slice (some ⟨g1,0,none⟩) 1 1,.slice (some ⟨g2,0,none⟩) 1 1,.int .i64 1])/\Zf w' vD [.string ⟨#[86]⟩,.int .i64 1,.int .u32 4,.int .u32 0,.bool false,.int .i64 0,.int .i64 0,.slice none 0 0,.int .i64 1,.int .u32 4,.int .u32 0,.bool false,.int .i64 0,.int .i64 0,.slice none 0 0,.slice (some ⟨g1,0,none⟩) 1 1,.slice (some ⟨g2,0,none⟩) 1 1,.int .i64 1]/\Ext w w':=by
 go_enter Tryz.func52,Tryz.ntmps52;obtain⟨a,c⟩:=zE ((((w.alloc (.cells #[.string ⟨#[]⟩,.int .i64 0,.int .u32 0,.int .u32 0,.bool false,.int .i64 0,.int .i64 0,.slice none 0 0,.int .i64 0,.int .u32 0,.int .u32 0,.bool false,.int .i64 0,.int .i64 0,.slice none 0 0,.slice none 0 0,.slice none 0 0,.int .i64 0] 102)).alloc (.cells #[.int .i64 1,.int .u32 4,.int .u32 0,.bool false,.int .i64 0,.int .i64 0,.slice none 0 0] 98)).alloc (.cells #[.int .u32 2,.int .u32 0] 95)).alloc (.cells #[.int .i64 0,.int .u32 0,.int .u32 1,.int .u32 0,.int .u32 0,.int .i64 0] 109));have o:Ext w a:=by rw [<-c];exact((((Q0.refl _ w).alloc _).alloc _).alloc _).alloc _
 have g:a.heap[w.heap.size]?=some (.cells #[.string ⟨#[]⟩,.int .i64 0,.int .u32 0,.int .u32 0,.bool false,.int .i64 0,.int .i64 0,.slice none 0 0,.int .i64 0,.int .u32 0,.int .u32 0,.bool false,.int .i64 0,.int .i64 0,.slice none 0 0,.slice none 0 0,.slice none 0 0,.int .i64 0] 102 (0,0)):=by rw [<-c];exact Q8 (Q8 (Q8 (Q3 rfl)))
 have i:a.heap[w.heap.size+1]?=some (.cells #[.int .i64 1,.int .u32 4,.int .u32 0,.bool false,.int .i64 0,.int .i64 0,.slice none 0 0] 98 (0,0)):=by rw [<-c];exact Q8 (Q8 (Q3 zy))
 have j:a.heap[w.heap.size+2]?=some (.cells #[.int .u32 2,.int .u32 0] 95 (0,0)):=by rw [<-c];exact Q8 (Q3 zy)
 have k:a.heap[w.heap.size+3]?=some (.cells #[.int .i64 0,.int .u32 0,.int .u32 1,.int .u32 0,.int .u32 0,.int .i64 0] 109 (0,0)):=by rw [<-c];exact Q3 zy
 obtain⟨t,f,u,r,s⟩:=Zh5 o g i j k;clear o g i j k;have d:=Q0.setRow a w.heap.size #[.string ⟨#[86]⟩,.int .i64 1,.int .u32 4,.int .u32 0,.bool false,.int .i64 0,.int .i64 0,.slice none 0 0,.int .i64 1,.int .u32 4,.int .u32 0,.bool false,.int .i64 0,.int .i64 0,.slice none 0 0,.slice (some ⟨w.heap.size+2,0,none⟩) 1 1,.slice (some ⟨w.heap.size+3,0,none⟩) 1 1,.int .i64 1];have p:=setRow_heap _ _ _ #[.string ⟨#[86]⟩,.int .i64 1,.int .u32 4,.int .u32 0,.bool false,.int .i64 0,.int .i64 0,.slice none 0 0,.int .i64 1,.int .u32 4,.int .u32 0,.bool false,.int .i64 0,.int .i64 0,.slice none 0 0,.slice (some ⟨w.heap.size+2,0,none⟩) 1 1,.slice (some ⟨w.heap.size+3,0,none⟩) 1 1,.int .i64 1] _ _ f.out;have l:=d.heap r.out oz;have m:=d.heap s.out oz;have n:Ext w (a.setRow w.heap.size #[.string ⟨#[86]⟩,.int .i64 1,.int .u32 4,.int .u32 0,.bool false,.int .i64 0,.int .i64 0,.slice none 0 0,.int .i64 1,.int .u32 4,.int .u32 0,.bool false,.int .i64 0,.int .i64 0,.slice none 0 0,.slice (some ⟨w.heap.size+2,0,none⟩) 1 1,.slice (some ⟨w.heap.size+3,0,none⟩) 1 1,.int .i64 1]):=t.out.after d (fun b hb e=>by omega);obtain⟨x,q⟩:=zE (a.setRow w.heap.size #[.string ⟨#[86]⟩,.int .i64 1,.int .u32 4,.int .u32 0,.bool false,.int .i64 0,.int .i64 0,.slice none 0 0,.int .i64 1,.int .u32 4,.int .u32 0,.bool false,.int .i64 0,.int .i64 0,.slice none 0 0,.slice (some ⟨w.heap.size+2,0,none⟩) 1 1,.slice (some ⟨w.heap.size+3,0,none⟩) 1 1,.int .i64 1]);rw [q] at p n l m;clear d;have v:Hid ((((((w.alloc (.cells #[.string ⟨#[]⟩,.int .i64 0,.int .u32 0,.int .u32 0,.bool false,.int .i64 0,.int .i64 0,.slice none 0 0,.int .i64 0,.int .u32 0,.int .u32 0,.bool false,.int .i64 0,.int .i64 0,.slice none 0 0,.slice none 0 0,.slice none 0 0,.int .i64 0] 102)).alloc (.cells #[.int .i64 1,.int .u32 4,.int .u32 0,.bool false,.int .i64 0,.int .i64 0,.slice none 0 0] 98)).alloc (.cells #[.int .u32 2,.int .u32 0] 95)).alloc (.cells #[.int .i64 0,.int .u32 0,.int .u32 1,.int .u32 0,.int .u32 0,.int .i64 0] 109))).heap[w.heap.size]?=some (.cells #[.string ⟨#[]⟩,.int .i64 0,.int .u32 0,.int .u32 0,.bool false,.int .i64 0,.int .i64 0,.slice none 0 0,.int .i64 0,.int .u32 0,.int .u32 0,.bool false,.int .i64 0,.int .i64 0,.slice none 0 0,.slice none 0 0,.slice none 0 0,.int .i64 0] 102 (0,0))):=Zh (by rw [c];exact f.out)
 go_wp2_with (first | (refine wpList_load_row rfl 98 (.tmp 1) rfl (w.heap.size+1) zr _ _ _ (by first | exact Q3 zy | exact Q3 rfl) Tryz.underlying98 rfl Qdg ?_) | (refine wpList_store_row rfl 102 (.tmp 0) (.tmp 11) rfl w.heap.size #[.string ⟨#[86]⟩,.int .i64 1,.int .u32 4,.int .u32 0,.bool false,.int .i64 0,.int .i64 0,.slice none 0 0,.int .i64 1,.int .u32 4,.int .u32 0,.bool false,.int .i64 0,.int .i64 0,.slice none 0 0,.slice (some ⟨w.heap.size+2,0,none⟩) 1 1,.slice (some ⟨w.heap.size+3,0,none⟩) 1 1,.int .i64 1] zr zr _ _ f.out kz rfl kz ?_;try rw [q]))
 try simp only [Act.put]
 go_wp2;exact bodyPost_ret (T6 rfl rfl p kz) rfl ⟨w.heap.size+2,w.heap.size+3,rfl,⟨[.int .i64 1,.int .u32 4,.int .u32 0,.bool false,.int .i64 0,.int .i64 0,.slice none 0 0],[.int .i64 1,.int .u32 4,.int .u32 0,.bool false,.int .i64 0,.int .i64 0,.slice none 0 0],_,_,rfl,by decide,Wh _ _ 1 false 0 0 zd zd,Wh _ _ 1 false 0 0 zd zd,⟨X2 (xs:=Za [(2,0)]) l rfl zd,by simp [Yf]⟩,⟨X2 (xs:=T9 [⟨0,0,(1,0),0,0⟩]) m rfl zd,by simp [Jh,Z1]⟩⟩,n⟩
theorem Q1f(w:World)(ao:Option Addr)(n c:Nat):Calls Tryz.prog 54 #[.slice ao n c] w fun e w'=>∃ g:Nat,e=.returned (.agg #[.slice (some ⟨g,0,none⟩) 3 3,.slice ao n c])/\Q6 w' (.slice (some ⟨g,0,none⟩) 3 3) Yb/\Ext w w':=by
 go_enter Tryz.func54,Tryz.ntmps54;go_upto_region 1 with (fail)
 obtain⟨H,i⟩:=zE (w.alloc (.cells #[.slice none 0 0,.slice none 0 0] 105));have B:Ext w H:=by rw [<-i];exact(Q0.refl _ w).alloc _
 have o:H.heap[w.heap.size]?=some (.cells #[.slice none 0 0,.slice none 0 0] 105 (0,0)):=by rw [<-i];exact Q3 rfl
 rw [i];obtain⟨d,m⟩:=zE w.heap.size;rw [m] at o ⊢;obtain⟨t,u,J⟩:=Zh3 o B m;clear i B o m;go_wp2_with fail;refine(Bh _).mono ?_;rintro e N ⟨rfl,p⟩;go_wp2_with fail;refine(Qav _).mono ?_;rintro e O ⟨rfl,q⟩;go_wp2_with fail;refine(Bh _).mono ?_;rintro e a ⟨rfl,r⟩;have y:=Ext.keep (p.trans (q.trans r)) t.out;have v:=Zh (u.out.trans (p.trans (q.trans r)));have l:=Zh y;clear y p q r t u;obtain⟨f,j⟩:=zE (a.alloc (.cells #[.int .u32 5,.int .u32 2,.int .u32 2,.int .u32 5,.int .u32 5,.int .u32 2] 95));have z:f.heap[d]?=some (.cells #[.slice none 0 0,.slice none 0 0] 105 (0,0)):=by rw [<-j];exact Q8 l.out
 have A:f.heap[a.heap.size]?=some (.cells #[.int .u32 5,.int .u32 2,.int .u32 2,.int .u32 5,.int .u32 5,.int .u32 2] 95 (0,0)):=by rw [<-j];exact Q3 rfl
 have C:Ext w f:=by rw [<-j];exact v.out.trans ((Q0.refl _ a).alloc _)
 obtain⟨k,I,K⟩:=Zh3 z A C;have M:d<a.heap.size:=(Array.getElem?_eq_some_iff.1 l.out).1;clear z A C l v;have s:=Q0.setRow f d #[.slice (some ⟨a.heap.size,0,none⟩) 3 3,.slice ao n c];have F:=setRow_heap _ _ _ #[.slice (some ⟨a.heap.size,0,none⟩) 3 3,.slice ao n c] _ _ k.out;have x:=s.heap I.out oz;have E:=K.out.after s (fun b hb e=>by have:=J.out;omega);obtain⟨P,G⟩:=zE (f.setRow d #[.slice (some ⟨a.heap.size,0,none⟩) 3 3,.slice ao n c]);rw [G] at F x E;clear s;have L:Hid ((a.alloc (.cells #[.int .u32 5,.int .u32 2,.int .u32 2,.int .u32 5,.int .u32 5,.int .u32 2] 95)).heap[d]?=some (.cells #[.slice none 0 0,.slice none 0 0] 105 (0,0))):=Zh (by rw [j];exact k.out)
 go_wp2_with (refine wpList_store_row rfl 105 (.tmp 2) (.tmp 8) rfl d #[.slice (some ⟨a.heap.size,0,none⟩) 3 3,.slice ao n c] (by rfl) (by rfl) _ _ k.out kz rfl kz ?_;try rw [G])
 try simp only [Act.put]
 go_wp2;exact bodyPost_ret (Q8k rfl rfl F Py) rfl ⟨a.heap.size,rfl,⟨X2 (xs:=Za Yb) x rfl zd,by simp [Yf]⟩,E⟩
mutual
def Dw:Pat->Nat
 | .node k _ _ _ _ _ l=>(if k=5 then 1 else 0)+Jv l
def Jv:List Pat->Nat
 | []=>0
 | p::l=>Dw p+Jv l
end
theorem Qa4{l:List Pat}{i:Nat}(c:i<l.length):Jv (l.take (i+1))=Jv (l.take i)+Dw l[i]:=by
 have d:∀(a b:List Pat),Jv (a++b)=Jv a+Jv b:=by
  intro a
  induction a with
  | nil=>intro b;simp [Jv]
  | cons p a ih=>intro b;simp only [List.cons_append,Jv,ih];omega
 rw [List.take_succ_eq_append_getElem c,d];simp [Jv]
mutual
theorem T7:∀ p:Pat,Dw p<=Gy p
 | .node k pl mi nt mn mx l=>by
  have:=T3 l;unfold Dw Gy
  split <;> omega
theorem T3:∀ l:List Pat,Jv l<=Yr l
 | []=>by simp [Jv,Yr]
 | p::l=>by
  have h1:=T7 p;have h2:=T3 l;simp only [Jv,Yr];omega
end
theorem Qdk{l:List Pat}{i:Nat}(a:i<l.length):Gy l[i]<=Yr l:=by
 induction l generalizing i with
 | nil=>cases a
 | cons p l ih=>
  simp only [Yr];cases i with
  | zero=>simp only [List.getElem_cons_zero];omega
  | succ i=>
   have:=ih (i:=i) (by simpa using a);simp only [List.getElem_cons_succ];omega
theorem Q9d(l:List Pat)(i:Nat):Yr (l.take i)<=Yr l:=by
 have:Yr l=Yr (l.take i)+Yr (l.drop i):=by rw [<-Mj,List.take_append_drop]
 omega
def Q1t(p:Pat):Prop:=∀(K:Nat->Prop) (w:World) (cs:List Value),Qm K w p cs->Gy p<=40 ->
 Calls Tryz.prog 142 #[.agg cs.toArray] w fun e w'=>e=.returned (.int .i64 (Dw p:Nat))/\Ext w w'
theorem Qbt(k:Int)(pl mi:Nat)(nt:Bool)(mn mx:Int)(l:List Pat)(d3:∀ p∈l,Q1t p):Q1t (.node k pl mi nt mn mx l):=by
 intro c0 v f2 c9 d2;unfold Qm at c9;obtain⟨J,K,rfl,e3,e2,c7,c5,c6⟩:=c9;have c8:l.length<=maxLen:=Nat.le_trans c7 c5;unfold maxLen at c8;have a7:Yr l<=39:=by unfold Gy at d2;omega
 have a9:Dw (.node k pl mi nt mn mx l)=(if k=5 then 1 else 0)+Jv l:=by rw [Dw]
 have c3:∀ b,Jv (l.take b)<=39:=fun b=>Nat.le_trans (T3 _) (Nat.le_trans (Q9d l b) a7);have d0:=fun b (C:b<l.length)=>Qa4 C;have d1:=fun b (C:b<l.length)=>Nat.le_trans (Qdk C) a7;obtain⟨c1,c2⟩:=zE (Dw (.node k pl mi nt mn mx l));rw [c2] at a9 ⊢;have a6:Jv (l.take l.length)=Jv l:=by rw [List.take_of_length_le (Nat.le_refl _)]
 obtain⟨d,M⟩:=zE l.length;rw [M] at a6;obtain⟨b3,b2,b9,b8,H,b5,b6,b4⟩:=Zh8 M c6 d3 a9 c3 d0 d1 a6;unfold Qd;rw [M] at c8 ⊢;clear c6 d3 M c7 c5 e3 e2 c2 a9 c3 d0 d1 a6 d2 a7;go_enter Tryz.func142,Tryz.ntmps142;obtain⟨P,x⟩:∃ c:Nat,(if k=5 then 1 else 0)=c:=⟨_,rfl⟩;have a8:=b8.out;rw [x] at a8;have f4:P<=1:=by rw [<-x];split <;> omega
 have I:=Zh a8;clear a8 b8;have c4:((k:Int) == 5)=decide (k=5):=by by_cases d8:k=5 <;> simp [d8]
 go_upto_region 2 with (fail)
 have g:(v.alloc (.cells #[.int .i64 k,.int .u32 (pl:Int),.int .u32 (mi:Int),.bool nt,.int .i64 mn,.int .i64 mx,.slice J d K] 98)).heap[v.heap.size]?=some (.cells #[.int .i64 k,.int .u32 (pl:Int),.int .u32 (mi:Int),.bool nt,.int .i64 mn,.int .i64 mx,.slice J d K] 98 (0,0)):=Q3 rfl;have A:Ext v (v.alloc (.cells #[.int .i64 k,.int .u32 (pl:Int),.int .u32 (mi:Int),.bool nt,.int .i64 mn,.int .i64 mx,.slice J d K] 98)):=(Q0.refl _ v).alloc _;generalize (v.alloc (.cells #[.int .i64 k,.int .u32 (pl:Int),.int .u32 (mi:Int),.bool nt,.int .i64 mn,.int .i64 mx,.slice J d K] 98))=d4 at g A ⊢;generalize v.heap.size=b1 at g ⊢;have b7:=Zh g;have w:=zR g;clear g;by_cases L:k=5
 ·subst L;have a0:P=1:=by rw [<-x];rfl
  clear x c4;subst a0;go_wp2;clear w
  refine wp_loop (fun a q=>∃(b c:Nat),b<=d/\a.defers=[]/\gS a [1,3,4]=(24,[.pointer (some ⟨b1,0,none⟩),.int .i64 c,.int .i64 b])/\c=1+Jv (l.take b)/\Ext d4 q)
   (fun a _=>d - (intOf (a.tmps.getD 4 undef)).toNat) ?_ ?_
  ·exact⟨0,_,by omega,rfl,rfl,by simp [Jv],Q0.refl _ _⟩
  rintro⟨f0,_⟩ q ⟨b,c,C,a3,F,m,e⟩;subst a3;obtain⟨f1,rfl⟩:=Qj F;clear F;have g:=e.keep b7.out;have w:=zR g;have a1:=H.out b;by_cases a4:b<d
  ·have Y:(b:Int)<(d:Int):=by omega
   have d9:(0:Int)<=(b:Int):=by omega
   have i:b<l.length:=by rw [b3.out];exact a4
   obtain⟨d7,e6,Q,rfl,e0,e1,u,s⟩:=(b2.out.ext (A.trans e)).get b i;rw [Nat.zero_add] at u;obtain⟨e8,e7,r,_,_,_⟩:=Zc s;obtain⟨R,S,T,U,V,W,X⟩:=Xn u r;have f:=b9.out _ (List.getElem_mem i) c0 q Q s (by have:=b6.out b i;omega);have n:=b5.out b i;have a2:=H.out (b+1);obtain⟨o,G⟩:=zE (Dw l[b]);obtain⟨e9,E⟩:=zE (Jv (l.take b));obtain⟨b0,t⟩:=zE (Jv (l.take (b+1)));rw [G] at f n;rw [E] at n a1 m;rw [t] at n a2;rw [r] at f;unfold Qd at f;have e5:IntKind.i64.wrap ((c:Int)+(o:Int))=((c+o:Nat):Int):=by rw [IntWalk.i64_in _ oz];omega
   have D:c+o=1+b0:=by omega
   obtain⟨N,y,O⟩:=Zh3 D f t;have e4:c<=40:=by omega
   clear f u s r G g n E t m D;go_wp2_with fail;refine y.out.mono ?_;rintro d6 d5 ⟨rfl,B⟩;have Z:=e.trans B;clear e B R S T U V W X y w;go_wp2;exact⟨⟨b+1,c+o,by omega,tz,rfl,by rw [O.out];exact N.out,Z⟩,nz⟩
  ·obtain rfl:b=d:=by omega
   have Y:¬ (b:Int)<(b:Int):=by omega
   have a5:c=c1:=by rw [m,b4.out];exact I.out.symm
   subst a5;clear I m;go_wp2;go_ret;exact⟨rfl,A.trans e⟩
 ·have f3:((k:Int) == 5)=false:=by rw [beq_eq_false_iff_ne];exact L
  have a0:P=0:=by rw [<-x,if_neg L]
  clear x c4 L;subst a0;go_wp2;clear w
  refine wp_loop (fun a q=>∃(b c:Nat),b<=d/\a.defers=[]/\gS a [1,3,4]=(24,[.pointer (some ⟨b1,0,none⟩),.int .i64 c,.int .i64 b])/\c=0+Jv (l.take b)/\Ext d4 q)
   (fun a _=>d - (intOf (a.tmps.getD 4 undef)).toNat) ?_ ?_
  ·exact⟨0,_,by omega,rfl,rfl,by simp [Jv],Q0.refl _ _⟩
  rintro⟨f0,_⟩ q ⟨b,c,C,a3,F,m,e⟩;subst a3;obtain⟨f1,rfl⟩:=Qj F;clear F;have g:=e.keep b7.out;have w:=zR g;have a1:=H.out b;by_cases a4:b<d
  ·have Y:(b:Int)<(d:Int):=by omega
   have d9:(0:Int)<=(b:Int):=by omega
   have i:b<l.length:=by rw [b3.out];exact a4
   obtain⟨d7,e6,Q,rfl,e0,e1,u,s⟩:=(b2.out.ext (A.trans e)).get b i;rw [Nat.zero_add] at u;obtain⟨e8,e7,r,_,_,_⟩:=Zc s;obtain⟨R,S,T,U,V,W,X⟩:=Xn u r;have f:=b9.out _ (List.getElem_mem i) c0 q Q s (by have:=b6.out b i;omega);have n:=b5.out b i;have a2:=H.out (b+1);obtain⟨o,G⟩:=zE (Dw l[b]);obtain⟨e9,E⟩:=zE (Jv (l.take b));obtain⟨b0,t⟩:=zE (Jv (l.take (b+1)));rw [G] at f n;rw [E] at n a1 m;rw [t] at n a2;rw [r] at f;unfold Qd at f;have e5:IntKind.i64.wrap ((c:Int)+(o:Int))=((c+o:Nat):Int):=by rw [IntWalk.i64_in _ oz];omega
   have D:c+o=0+b0:=by omega
   obtain⟨N,y,O⟩:=Zh3 D f t;have e4:c<=40:=by omega
   clear f u s r G g n E t m D;go_wp2_with fail;refine y.out.mono ?_;rintro d6 d5 ⟨rfl,B⟩;have Z:=e.trans B;clear e B R S T U V W X y w;go_wp2;exact⟨⟨b+1,c+o,by omega,tz,rfl,by rw [O.out];exact N.out,Z⟩,nz⟩
  ·obtain rfl:b=d:=by omega
   have Y:¬ (b:Int)<(b:Int):=by omega
   have a5:c=c1:=by rw [m,b4.out];exact I.out.symm
   subst a5;clear I m;go_wp2;go_ret;exact⟨rfl,A.trans e⟩
mutual
theorem Cv:∀ p:Pat,Q1t p
 | .node k pl mi nt mn mx l=>Qbt k pl mi nt mn mx l (Q4h l)
theorem Q4h:∀ l:List Pat,∀ p∈l,Q1t p
 | [],_,h=>by cases h
 | q::l,p,h=>(List.mem_cons.1 h).elim (fun e=>e ▸ Cv q) (fun h=>Q4h l p h)
end
theorem Hb{w:World}{g off:Nat}{cs:List Value}(h:w.rangeAt g off cs)(a n:Nat):w.rangeAt g (off+a) ((cs.drop a).take n):=fun j u hu=>by
 rw [List.getElem?_take] at hu
 split at hu
 ·rw [List.getElem?_drop] at hu;have:=h (a+j) u hu;rw [Nat.add_assoc];exact this
 ·cases hu
def Qgt(n:Nat)(lv:Value)(w:World)(a:Act)(W:World):Prop:=∃(i z:Nat),i<=n/\i<=301/\z<=80/\a.defers=[]/\gS a [0,3,4]=(46,[lv,.int .i64 z,.int .i64 i])/\Ext w W
def Qgr(z i G:Nat)(lv:Value)(V2:World)(a:Act)(V:World):Prop:=∃(j z2:Nat),j<=2/\z2<=40*j/\a.defers=[]/\gS a [0,3,4,5,28,29,30]=(46,[lv,.int .i64 z,.int .i64 i,.int .i64 z2,.slice (some ⟨G,0,none⟩) 2 2,.int .i64 2,.int .i64 j])/\Ext V2 V
theorem Qcn{w:World}{ps:Qi}{lo:Option Addr}{n lc:Nat}(d4:Z5 w (.slice lo n lc) ps) (d6:ps.length=n) :
  Calls Tryz.prog 92 #[.slice lo n lc] w fun e w'=>∃ z:Nat,z<=80/\e=.returned (.int .i64 (z:Int))/\Ext w w':=by
 have i3:n<=maxLen:=by rw [<-d6];exact d4.1.2.1
 unfold maxLen at i3;have c3:=Zh d4;have g0:=Zh d6;clear d4 d6;go_enter Tryz.func92,Tryz.ntmps92;go_wp2
 refine wp_loop (Qgt n (.slice lo n lc) w)
  (fun a _=>((n:Int) - intOf (a.tmps.getD 4 undef)).toNat) ?_ ?_
 ·exact⟨0,0,by omega,by omega,by omega,rfl,rfl,Q0.refl _ _⟩
 rintro⟨i6,_⟩ P ⟨i,z,j2,j3,f4,d3,c1,e6⟩;subst d3;obtain⟨N,rfl⟩:=Qj c1;clear c1;have c2:=Zh e6;clear e6;by_cases i2:i<n;case neg=>
  obtain rfl:i=n:=by omega
  have g8:¬ (i:Int)<(i:Int):=by omega
  clear c3;go_wp2;go_ret;exact⟨z,f4,rfl,c2.out⟩
 have g8:(i:Int)<(n:Int):=by omega
 have j0:(0:Int)<=(i:Int):=by omega
 by_cases j4:i<=300;case neg=>
  have g9:¬ (i:Int)<=300:=by omega
  clear c3;go_wp2;go_ret;exact⟨z,f4,rfl,c2.out⟩
 have g9:(i:Int)<=300:=by omega
 have i1:i<ps.length:=by rw [g0.out];exact i2
 obtain⟨g,off,i9,f1,j1,b7,d5,d1⟩:=(c3.out.ext c2.out).at i1;simp only [zV] at f1;obtain⟨rfl,i5,rfl⟩:=f1;obtain⟨x,f3⟩:=zE (ps[i]);rw [f3] at b7 d5 d1;obtain⟨k,cs⟩:=x;dsimp only at b7 d5 d1;clear f3 i5 d1 c3;obtain⟨k1,A,I,C,E,p,s,G,m,u,B,J,D,F,r,t,H,o,y,j9,i7,j8,k3,i8,k2,k0,rfl,f8,e0,e1,f7,g6,g5,g1,g2,g3,g4,f9,k4,k5,k6,k7,k8⟩:=Zr d5;have f0:P.rangeAt g (off+i*18+1) [.int .i64 A,.int .u32 (I:Int),.int .u32 (C:Int),.bool E,.int .i64 p,.int .i64 s,.slice G m u]:=Hb b7 1 7;have f2:P.rangeAt g (off+i*18+8) [.int .i64 B,.int .u32 (J:Int),.int .u32 (D:Int),.bool F,.int .i64 r,.int .i64 t,.slice H o y]:=Hb b7 8 7;have d9:=Zh f0;have e2:=Zh f2;clear f0 f2 b7 f7 g6 f8 g5 g3 g4 f9;go_upto_region 6 with (fail)
 have j:Ext P P.drew:=(Q0.refl _ P).drew;refine Z0 (S:=fun c=>Ext P c) [] kz j ?_;intro _;refine tE 0 18 j ?_;refine tE 1 19 j ?_;refine tE 2 20 j ?_;refine tE 3 21 j ?_;refine tkE (i:=4) (d:=22) (v:=?_) rfl (Or.inl ⟨by rfl,?_⟩) j ?_;rotate_left
 ·intro c a1;refine Vl (x:=.tmp 21) ?_ g (off+i*18+1) ?_ [.int .i64 A,.int .u32 (I:Int),.int .u32 (C:Int),.bool E,.int .i64 p,.int .i64 s,.slice G m u] _ (fun a8 N hu=>(show Ext P c from a1).cell_some (d9.out a8 N hu) id) Tryz.underlying98 rfl kz <;> first | rfl | (simp;done)
 try simp only [Act.put,pq]
 refine tE 5 23 j ?_;refine tE 6 24 j ?_;refine tE 7 25 j ?_;refine tE 8 26 j ?_;refine tkE (i:=9) (d:=27) (v:=?_) rfl (Or.inl ⟨by rfl,?_⟩) j ?_;rotate_left
 ·intro c a1;refine Vl (x:=.tmp 26) ?_ g (off+i*18+8) ?_ [.int .i64 B,.int .u32 (J:Int),.int .u32 (D:Int),.bool F,.int .i64 r,.int .i64 t,.slice H o y] _ (fun a8 N hu=>(show Ext P c from a1).cell_some (e2.out a8 N hu) id) Tryz.underlying98 rfl kz <;> first | rfl | (simp;done)
 try simp only [Act.put,pq]
 refine tE 12 30 j ?_;obtain⟨f,e9⟩:=zE P.drew;rw [e9] at j ⊢;clear e9;refine rE [10] ?_;refine Q1.cons rfl (fun K hK=>?_) Q1.nil;refine iw rfl ?_;go_simp;obtain⟨c8,c5⟩:=zE (f.alloc (.cells #[.int .i64 A,.int .u32 (I:Int),.int .u32 (C:Int),.bool E,.int .i64 p,.int .i64 s,.slice G m u,.int .i64 B,.int .u32 (J:Int),.int .u32 (D:Int),.bool F,.int .i64 r,.int .i64 t,.slice H o y] 98));have d2:c8.heap[f.heap.size]?=some (.cells #[.int .i64 A,.int .u32 (I:Int),.int .u32 (C:Int),.bool E,.int .i64 p,.int .i64 s,.slice G m u,.int .i64 B,.int .u32 (J:Int),.int .u32 (D:Int),.bool F,.int .i64 r,.int .i64 t,.slice H o y] 98 (0,0)):=by rw [<-c5];exact Q3 rfl
 have c4:Ext P c8:=by rw [<-c5];exact j.alloc _
 rw [c5];obtain⟨L,e8⟩:=zE f.heap.size;rw [e8] at d2 ⊢;have c6:=Zh d2;clear c5 d2 e8 j;refine hK.out _ _ c4 (fun _=>?_);clear hK K;try simp only [Act.put,pq]
 refine tE 11 29 c4 ?_;refine Ql kz ?_ _;have c7:=Zh c4;clear c4 d9 e2
 have f5:∀(c:World),c.heap[L]?=some (.cells #[.int .i64 A,.int .u32 (I:Int),.int .u32 (C:Int),.bool E,.int .i64 p,.int .i64 s,.slice G m u,.int .i64 B,.int .u32 (J:Int),.int .u32 (D:Int),.bool F,.int .i64 r,.int .i64 t,.slice H o y] 98 (0,0))->c.rangeAt L 0 [.int .i64 A,.int .u32 (I:Int),.int .u32 (C:Int),.bool E,.int .i64 p,.int .i64 s,.slice G m u]:=fun c h=>by
  have:=Hb (w:=c) (g:=L) (off:=0) (cs:=[.int .i64 A,.int .u32 (I:Int),.int .u32 (C:Int),.bool E,.int .i64 p,.int .i64 s,.slice G m u,.int .i64 B,.int .u32 (J:Int),.int .u32 (D:Int),.bool F,.int .i64 r,.int .i64 t,.slice H o y]) (fun q N hu=>by have:=cell_of_row _ _ q _ _ _ h;rw [Nat.zero_add,this];simpa using hu) 0 7;exact this
 have f6:∀(c:World),c.heap[L]?=some (.cells #[.int .i64 A,.int .u32 (I:Int),.int .u32 (C:Int),.bool E,.int .i64 p,.int .i64 s,.slice G m u,.int .i64 B,.int .u32 (J:Int),.int .u32 (D:Int),.bool F,.int .i64 r,.int .i64 t,.slice H o y] 98 (0,0))->c.rangeAt L 7 [.int .i64 B,.int .u32 (J:Int),.int .u32 (D:Int),.bool F,.int .i64 r,.int .i64 t,.slice H o y]:=fun c h=>by
  have:=Hb (w:=c) (g:=L) (off:=0) (cs:=[.int .i64 A,.int .u32 (I:Int),.int .u32 (C:Int),.bool E,.int .i64 p,.int .i64 s,.slice G m u,.int .i64 B,.int .u32 (J:Int),.int .u32 (D:Int),.bool F,.int .i64 r,.int .i64 t,.slice H o y]) (fun q N hu=>by have:=cell_of_row _ _ q _ _ _ h;rw [Nat.zero_add,this];simpa using hu) 7 7;exact this
 have e3:=Zh f5;have e4:=Zh f6;clear f5 f6;go_wp2
 refine wp_loop (Qgr z i L (.slice (some ⟨g,off,none⟩) n lc) c8)
  (fun a _=>(2 - intOf (a.tmps.getD 30 undef)).toNat) ?_ ?_
 ·exact⟨0,0,by omega,by omega,rfl,rfl,Q0.refl _ _⟩
 rintro⟨i6,_⟩ f ⟨a8,O,j5,j7,d3,c1,e7⟩;subst d3;obtain⟨N,rfl⟩:=Qj c1;clear c1;have R:=Zh e7;clear e7;rcases(by omega:a8=0\/a8=1\/a8=2) with rfl | rfl | rfl
 ·have e5:(0:Int)<2:=by decide
  have b5:=e0.out.ext (c7.out.trans R.out);have b6:f.rangeAt L 0 [.int .i64 A,.int .u32 (I:Int),.int .u32 (C:Int),.bool E,.int .i64 p,.int .i64 s,.slice G m u]:=fun q N hu=>(R.out).cell_some (e3.out _ c6.out q N hu) id;obtain⟨Y,T⟩:=zE (f.alloc (.cells #[.int .i64 A,.int .u32 (I:Int),.int .u32 (C:Int),.bool E,.int .i64 p,.int .i64 s,.slice G m u] 98));have a0:Y.heap[f.heap.size]?=some (.cells #[.int .i64 A,.int .u32 (I:Int),.int .u32 (C:Int),.bool E,.int .i64 p,.int .i64 s,.slice G m u] 98 (0,0)):=by rw [<-T];exact Q3 rfl
  have a2:Ext f Y:=by rw [<-T];exact(Q0.refl _ f).alloc _
  obtain⟨b1,Z⟩:=zE f.heap.size;rw [Z] at a0;have a4:=b5.ext a2;have a6:=Wx a4;have c0:=Lx k.left;have l:=fun(c:World) (a1:Ext Y c) (h:Gy k.left<=40)=>Cv k.left _ c _ (a4.ext a1) h;have b8:=T7 k.left;obtain⟨d8,a7⟩:=zE (Gy k.left);obtain⟨a9,a5⟩:=zE (Dw k.left);obtain⟨b0,b9⟩:=zE (W8 k.left);rw [b9] at a6 c0;rw [a7] at c0 b8;simp only [a7,a5] at l;rw [a5] at b8;obtain⟨U,Q,b3,X⟩:=Zh4 a0 a2 a6 l;clear a0 a2 a6 l b5 a4 a7 a5 b9;go_upto_region 9 with ((refine Y5 (by rfl) 98 (.tmp 32) rfl L 0 zr _ _ b6 Tryz.underlying98 rfl kz ?_))
  try rw [T]
  try rw [Z]
  clear T Z b6;try simp only [Act.put]
  go_wp2_with (refine wpList_load_row rfl 98 (.tmp 7) rfl b1 rfl _ _ _ _ U.out Tryz.underlying98 rfl kz ?_)
  refine b3.out.mono ?_;rintro e c9 ⟨rfl,a3⟩;have V:=Zh (a3.keep U.out);have M:=Zh a3;clear a3 b3 U;by_cases i0:b0<=40
  ·have d0:(b0:Int)<=40:=by omega
   have d7:d8<=40:=by omega
   have l:=X.out c9 M.out d7;have b2:=Zh l;clear l X
   go_wp2_with (refine wpList_load_row rfl 98 (.tmp 7) rfl b1 rfl _ _ _ _ V.out Tryz.underlying98 rfl kz ?_)
   refine b2.out.mono ?_;rintro e g7 ⟨rfl,b4⟩;have W:=Zh (R.out.trans (Q.out.trans (M.out.trans b4)));have i4:IntKind.i64.wrap ((O:Int)+(a9:Int))=((O+a9:Nat):Int):=by rw [IntWalk.i64_in _ oz];omega
   clear b4 b2 V M Q;go_wp2;exact⟨⟨1,O+a9,by omega,by omega,tz,rfl,W.out⟩,mz⟩
  ·have d0:¬ (b0:Int)<=40:=by omega
   have W:=Zh (R.out.trans (Q.out.trans M.out));clear X V M Q;go_wp2;exact⟨⟨1,O,by omega,by omega,tz,rfl,W.out⟩,mz⟩
 ·have e5:(1:Int)<2:=by decide
  have b5:=e1.out.ext (c7.out.trans R.out);have b6:f.rangeAt L 7 [.int .i64 B,.int .u32 (J:Int),.int .u32 (D:Int),.bool F,.int .i64 r,.int .i64 t,.slice H o y]:=fun q N hu=>(R.out).cell_some (e4.out _ c6.out q N hu) id;obtain⟨Y,T⟩:=zE (f.alloc (.cells #[.int .i64 B,.int .u32 (J:Int),.int .u32 (D:Int),.bool F,.int .i64 r,.int .i64 t,.slice H o y] 98));have a0:Y.heap[f.heap.size]?=some (.cells #[.int .i64 B,.int .u32 (J:Int),.int .u32 (D:Int),.bool F,.int .i64 r,.int .i64 t,.slice H o y] 98 (0,0)):=by rw [<-T];exact Q3 rfl
  have a2:Ext f Y:=by rw [<-T];exact(Q0.refl _ f).alloc _
  obtain⟨b1,Z⟩:=zE f.heap.size;rw [Z] at a0;have a4:=b5.ext a2;have a6:=Wx a4;have c0:=Lx k.right;have l:=fun(c:World) (a1:Ext Y c) (h:Gy k.right<=40)=>Cv k.right _ c _ (a4.ext a1) h;have b8:=T7 k.right;obtain⟨d8,a7⟩:=zE (Gy k.right);obtain⟨a9,a5⟩:=zE (Dw k.right);obtain⟨b0,b9⟩:=zE (W8 k.right);rw [b9] at a6 c0;rw [a7] at c0 b8;simp only [a7,a5] at l;rw [a5] at b8;obtain⟨U,Q,b3,X⟩:=Zh4 a0 a2 a6 l;clear a0 a2 a6 l b5 a4 a7 a5 b9;go_upto_region 9 with ((refine Y5 (by rfl) 98 (.tmp 32) rfl L 7 zr _ _ b6 Tryz.underlying98 rfl kz ?_))
  try rw [T]
  try rw [Z]
  clear T Z b6;try simp only [Act.put]
  go_wp2_with (refine wpList_load_row rfl 98 (.tmp 7) rfl b1 rfl _ _ _ _ U.out Tryz.underlying98 rfl kz ?_)
  refine b3.out.mono ?_;rintro e c9 ⟨rfl,a3⟩;have V:=Zh (a3.keep U.out);have M:=Zh a3;clear a3 b3 U;by_cases i0:b0<=40
  ·have d0:(b0:Int)<=40:=by omega
   have d7:d8<=40:=by omega
   have l:=X.out c9 M.out d7;have b2:=Zh l;clear l X
   go_wp2_with (refine wpList_load_row rfl 98 (.tmp 7) rfl b1 rfl _ _ _ _ V.out Tryz.underlying98 rfl kz ?_)
   refine b2.out.mono ?_;rintro e g7 ⟨rfl,b4⟩;have W:=Zh (R.out.trans (Q.out.trans (M.out.trans b4)));have i4:IntKind.i64.wrap ((O:Int)+(a9:Int))=((O+a9:Nat):Int):=by rw [IntWalk.i64_in _ oz];omega
   clear b4 b2 V M Q;go_wp2;exact⟨⟨2,O+a9,by omega,by omega,tz,rfl,W.out⟩,mz⟩
  ·have d0:¬ (b0:Int)<=40:=by omega
   have W:=Zh (R.out.trans (Q.out.trans M.out));clear X V M Q;go_wp2;exact⟨⟨2,O,by omega,by omega,tz,rfl,W.out⟩,mz⟩
 ·have e5:¬ (2:Int)<2:=by decide
  have j6:max (z:Int) (O:Int)=((max z O:Nat):Int):=by omega
  clear e3 e4 c6 e0 e1 g1 g2;go_wp2;exact⟨⟨i+1,max z O,by omega,by omega,by omega,tz,rfl,c2.out.trans (c7.out.trans R.out)⟩,mz⟩
def Qdh(n:Nat)(L:List (List Nat)):List (List Nat):=L.flatMap fun o=>(Gs n o).map fun x=>o++[x]
def Qgp(n:Nat):Nat->List (List Nat)
 | 0=>[[]]
 | k+1=>Qdh n (Qgp n k)
section
variable {LD:List Q5} {qs:Q9}
end
def Qfo(o:List Nat)(x y:Nat):Bool:=!(o.take (o.idxOf x)).contains y
def Qho(L:List (List Nat)) (x y:Nat):Bool:=decide (x≠y) && L.all fun o=>Qfo o x y
def Qg7(LD:List Q5)(QS:List (Wd × Wd)):Prop:=LD.length<=4/\QS.length<=5/\Qu LD QS=0
def Qi1(x:List Nat):List Int:=x.map fun(i:Nat)=>(i:Int)
def byI(ps:Qi)(x:List Nat)(qs:Q9):Int:=if Jk ps x qs=qs.length then -1 else(Jk ps x qs:Nat)
theorem Fb(w:World)(b8:Tab w):Calls Tryz.prog 33 #[] w fun e w'=>e=.returned (.bool true)/\Ext w w':=by
 go_enter Tryz.func33,Tryz.ntmps33;have l5:Ext w w:=Q0.refl _ _;go_wp2_with fail;refine(Q8v _).mono ?_;rintro e l2 ⟨N,O,rfl,q2,c⟩;have l6:Ext w l2:=l5.trans c;have u4:=c;have k3:Hid (∀ a,Ext l2 a->Zf a vD [.string ⟨#[86]⟩,.int .i64 1,.int .u32 4,.int .u32 0,.bool false,.int .i64 0,.int .i64 0,.slice none 0 0,.int .i64 1,.int .u32 4,.int .u32 0,.bool false,.int .i64 0,.int .i64 0,.slice none 0 0,.slice (some ⟨N,0,none⟩) 1 1,.slice (some ⟨O,0,none⟩) 1 1,.int .i64 1]):=Zh (fun a f=>q2.ext f);clear q2;clear c;go_wp2_with fail;refine(Q92 _).mono ?_;rintro e l4 ⟨P,rfl,q3,c⟩;have m3:Ext w l4:=l6.trans c;have u7:=c;have k4:Hid (∀ a,Ext l4 a->Zf a fD [.string ⟨#[70]⟩,.int .i64 0,.int .u32 0,.int .u32 0,.bool false,.int .i64 0,.int .i64 0,.slice none 0 0,.int .i64 6,.int .u32 0,.int .u32 0,.bool false,.int .i64 0,.int .i64 0,.slice none 0 0,.slice (some ⟨P,0,none⟩) 1 1,.slice none 0 0,.int .i64 1]):=Zh (fun a f=>q3.ext f);clear q3;have r0:=c;clear c;go_wp2_with fail;refine(Qgj _).mono ?_;rintro e b1 ⟨Q,R,rfl,q4,c⟩;have n3:Ext w b1:=m3.trans c;have w1:=c;have k5:Hid (∀ a,Ext b1 a->Zf a uD [.string ⟨#[85]⟩,.int .i64 0,.int .u32 0,.int .u32 0,.bool false,.int .i64 0,.int .i64 0,.slice none 0 0,.int .i64 6,.int .u32 0,.int .u32 0,.bool false,.int .i64 0,.int .i64 0,.slice none 0 0,.slice (some ⟨Q,0,none⟩) 1 1,.slice (some ⟨R,0,none⟩) 1 1,.int .i64 1]):=Zh (fun a f=>q4.ext f);clear q4;have a7:=c;clear c;obtain⟨T,f5⟩:=zE (b1.alloc (.cells #[.string ⟨#[86]⟩,.int .i64 1,.int .u32 4,.int .u32 0,.bool false,.int .i64 0,.int .i64 0,.slice none 0 0,.int .i64 1,.int .u32 4,.int .u32 0,.bool false,.int .i64 0,.int .i64 0,.slice none 0 0,.slice (some ⟨N,0,none⟩) 1 1,.slice (some ⟨O,0,none⟩) 1 1,.int .i64 1,.string ⟨#[70]⟩,.int .i64 0,.int .u32 0,.int .u32 0,.bool false,.int .i64 0,.int .i64 0,.slice none 0 0,.int .i64 6,.int .u32 0,.int .u32 0,.bool false,.int .i64 0,.int .i64 0,.slice none 0 0,.slice (some ⟨P,0,none⟩) 1 1,.slice none 0 0,.int .i64 1,.string ⟨#[85]⟩,.int .i64 0,.int .u32 0,.int .u32 0,.bool false,.int .i64 0,.int .i64 0,.slice none 0 0,.int .i64 6,.int .u32 0,.int .u32 0,.bool false,.int .i64 0,.int .i64 0,.slice none 0 0,.slice (some ⟨Q,0,none⟩) 1 1,.slice (some ⟨R,0,none⟩) 1 1,.int .i64 1] 102));have n8:Ext w T:=by rw [<-f5];exact n3.alloc _
 have j2:T.heap[b1.heap.size]?=some (.cells #[.string ⟨#[86]⟩,.int .i64 1,.int .u32 4,.int .u32 0,.bool false,.int .i64 0,.int .i64 0,.slice none 0 0,.int .i64 1,.int .u32 4,.int .u32 0,.bool false,.int .i64 0,.int .i64 0,.slice none 0 0,.slice (some ⟨N,0,none⟩) 1 1,.slice (some ⟨O,0,none⟩) 1 1,.int .i64 1,.string ⟨#[70]⟩,.int .i64 0,.int .u32 0,.int .u32 0,.bool false,.int .i64 0,.int .i64 0,.slice none 0 0,.int .i64 6,.int .u32 0,.int .u32 0,.bool false,.int .i64 0,.int .i64 0,.slice none 0 0,.slice (some ⟨P,0,none⟩) 1 1,.slice none 0 0,.int .i64 1,.string ⟨#[85]⟩,.int .i64 0,.int .u32 0,.int .u32 0,.bool false,.int .i64 0,.int .i64 0,.slice none 0 0,.int .i64 6,.int .u32 0,.int .u32 0,.bool false,.int .i64 0,.int .i64 0,.slice none 0 0,.slice (some ⟨Q,0,none⟩) 1 1,.slice (some ⟨R,0,none⟩) 1 1,.int .i64 1] 102 (0,0)):=by rw [<-f5];exact Q3 rfl
 have d6:Ext b1 T:=by rw [<-f5];exact(Q0.refl _ b1).alloc _
 have w6:=d6;obtain⟨k0,p3⟩:=zE b1.heap.size;rw [p3] at j2
 have d3:Z5 T (.slice (some ⟨k0,0,none⟩) 3 3) [(vD,[.string ⟨#[86]⟩,.int .i64 1,.int .u32 4,.int .u32 0,.bool false,.int .i64 0,.int .i64 0,.slice none 0 0,.int .i64 1,.int .u32 4,.int .u32 0,.bool false,.int .i64 0,.int .i64 0,.slice none 0 0,.slice (some ⟨N,0,none⟩) 1 1,.slice (some ⟨O,0,none⟩) 1 1,.int .i64 1]),(fD,[.string ⟨#[70]⟩,.int .i64 0,.int .u32 0,.int .u32 0,.bool false,.int .i64 0,.int .i64 0,.slice none 0 0,.int .i64 6,.int .u32 0,.int .u32 0,.bool false,.int .i64 0,.int .i64 0,.slice none 0 0,.slice (some ⟨P,0,none⟩) 1 1,.slice none 0 0,.int .i64 1]),(uD,[.string ⟨#[85]⟩,.int .i64 0,.int .u32 0,.int .u32 0,.bool false,.int .i64 0,.int .i64 0,.slice none 0 0,.int .i64 6,.int .u32 0,.int .u32 0,.bool false,.int .i64 0,.int .i64 0,.slice none 0 0,.slice (some ⟨Q,0,none⟩) 1 1,.slice (some ⟨R,0,none⟩) 1 1,.int .i64 1])]:=⟨X2 (xs:=[.string ⟨#[86]⟩,.int .i64 1,.int .u32 4,.int .u32 0,.bool false,.int .i64 0,.int .i64 0,.slice none 0 0,.int .i64 1,.int .u32 4,.int .u32 0,.bool false,.int .i64 0,.int .i64 0,.slice none 0 0,.slice (some ⟨N,0,none⟩) 1 1,.slice (some ⟨O,0,none⟩) 1 1,.int .i64 1,.string ⟨#[70]⟩,.int .i64 0,.int .u32 0,.int .u32 0,.bool false,.int .i64 0,.int .i64 0,.slice none 0 0,.int .i64 6,.int .u32 0,.int .u32 0,.bool false,.int .i64 0,.int .i64 0,.slice none 0 0,.slice (some ⟨P,0,none⟩) 1 1,.slice none 0 0,.int .i64 1,.string ⟨#[85]⟩,.int .i64 0,.int .u32 0,.int .u32 0,.bool false,.int .i64 0,.int .i64 0,.slice none 0 0,.int .i64 6,.int .u32 0,.int .u32 0,.bool false,.int .i64 0,.int .i64 0,.slice none 0 0,.slice (some ⟨Q,0,none⟩) 1 1,.slice (some ⟨R,0,none⟩) 1 1,.int .i64 1]) j2 rfl zd,fun p z=>by
  simp only [List.mem_cons,List.not_mem_nil,or_false] at z;rcases z with rfl | rfl | rfl
  ·exact k3.out _ (r0.trans (a7.trans d6))
  ·exact k4.out _ (a7.trans d6)
  ·exact k5.out _ d6⟩
 have b4:Hid (∀ a,Ext T a->Z5 a (.slice (some ⟨k0,0,none⟩) 3 3) [(vD,[.string ⟨#[86]⟩,.int .i64 1,.int .u32 4,.int .u32 0,.bool false,.int .i64 0,.int .i64 0,.slice none 0 0,.int .i64 1,.int .u32 4,.int .u32 0,.bool false,.int .i64 0,.int .i64 0,.slice none 0 0,.slice (some ⟨N,0,none⟩) 1 1,.slice (some ⟨O,0,none⟩) 1 1,.int .i64 1]),(fD,[.string ⟨#[70]⟩,.int .i64 0,.int .u32 0,.int .u32 0,.bool false,.int .i64 0,.int .i64 0,.slice none 0 0,.int .i64 6,.int .u32 0,.int .u32 0,.bool false,.int .i64 0,.int .i64 0,.slice none 0 0,.slice (some ⟨P,0,none⟩) 1 1,.slice none 0 0,.int .i64 1]),(uD,[.string ⟨#[85]⟩,.int .i64 0,.int .u32 0,.int .u32 0,.bool false,.int .i64 0,.int .i64 0,.slice none 0 0,.int .i64 6,.int .u32 0,.int .u32 0,.bool false,.int .i64 0,.int .i64 0,.slice none 0 0,.slice (some ⟨Q,0,none⟩) 1 1,.slice (some ⟨R,0,none⟩) 1 1,.int .i64 1])]):=Zh (fun a f=>d3.ext f);clear d3 k3 k4 k5 r0 a7 d6;go_wp2_with fail;refine(Bh _).mono ?_;rintro e t2 ⟨rfl,c⟩;have n9:Ext w t2:=n8.trans c;have t5:=c;clear f5 p3 j2;clear c;go_wp2_with fail;refine(Qge _).mono ?_;rintro e b6 ⟨rfl,c⟩;have o0:Ext w b6:=n9.trans c;have t6:=c;clear c;obtain⟨e1,f6⟩:=zE (b6.alloc (.cells #[.int .u32 5,.int .u32 2,.int .u32 3,.int .u32 4] 95));have o1:Ext w e1:=by rw [<-f6];exact o0.alloc _
 have i4:e1.heap[b6.heap.size]?=some (.cells #[.int .u32 5,.int .u32 2,.int .u32 3,.int .u32 4] 95 (0,0)):=by rw [<-f6];exact Q3 rfl
 have r1:Ext b6 e1:=by rw [<-f6];exact(Q0.refl _ b6).alloc _
 have t7:=r1;obtain⟨j,o5⟩:=zE b6.heap.size;rw [o5] at i4;have a8:Hid (∀ a,Ext e1 a->Q6 a (.slice (some ⟨j,0,none⟩) 2 2) abO):=Zh (fun a f=>Q6.ext ⟨X2 (xs:=Za abO) i4 rfl zd,by simp [Yf]⟩ f);clear r1;go_wp2_with fail;refine(Q1f _ _ _ _).mono ?_;rintro e a6 ⟨k,rfl,d2,c⟩;have o2:Ext w a6:=o1.trans c;have t8:=c;have b7:Hid (∀ a,Ext a6 a->Q6 a (.slice (some ⟨k,0,none⟩) 3 3) Yb):=Zh (fun a f=>d2.ext f);have a8:Hid (∀ a,Ext a6 a->Q6 a (.slice (some ⟨j,0,none⟩) 2 2) abO):=Zh (fun a f=>a8.out a (c.trans f));clear c d2;clear f6 o5 i4;obtain⟨F,f7⟩:=zE (a6.alloc (.cells #[.slice (some ⟨k,0,none⟩) 3 3,.slice (some ⟨j,0,none⟩) 2 2] 105));have o3:Ext w F:=by rw [<-f7];exact o2.alloc _
 have e4:F.heap[a6.heap.size]?=some (.cells #[.slice (some ⟨k,0,none⟩) 3 3,.slice (some ⟨j,0,none⟩) 2 2] 105 (0,0)):=by rw [<-f7];exact Q3 rfl
 have c1:Ext a6 F:=by rw [<-f7];exact(Q0.refl _ a6).alloc _
 have t9:=c1;obtain⟨d9,p6⟩:=zE a6.heap.size;rw [p6] at e4
 have z:Z7 F (.slice (some ⟨d9,0,none⟩) 1 1) [((Yb,abO),[.slice (some ⟨k,0,none⟩) 3 3,.slice (some ⟨j,0,none⟩) 2 2])]:=⟨X2 (xs:=[.slice (some ⟨k,0,none⟩) 3 3,.slice (some ⟨j,0,none⟩) 2 2]) e4 rfl zd,fun p z=>by
  simp only [List.mem_cons,List.not_mem_nil,or_false] at z;subst z;exact⟨rfl,_,_,rfl,⟨_,3,rfl,b7.out _ c1,Nat.le_refl 3⟩,⟨_,2,rfl,a8.out _ c1,Nat.le_refl 2⟩⟩⟩
 have c6:Hid (∀ a,Ext F a->Z7 a (.slice (some ⟨d9,0,none⟩) 1 1) [((Yb,abO),[.slice (some ⟨k,0,none⟩) 3 3,.slice (some ⟨j,0,none⟩) 2 2])]):=Zh (fun a f=>Qg z f);have k2:Hid (∀ a,Ext F a->a.heap[d9]?=some (.cells #[.slice (some ⟨k,0,none⟩) 3 3,.slice (some ⟨j,0,none⟩) 2 2] 105 (0,0))):=Zh (fun a f=>Ext.keep f e4);have a8:Hid (∀ a,Ext F a->Q6 a (.slice (some ⟨j,0,none⟩) 2 2) abO):=Zh (fun a f=>a8.out a (c1.trans f));have b7:Hid (∀ a,Ext F a->Q6 a (.slice (some ⟨k,0,none⟩) 3 3) Yb):=Zh (fun a f=>b7.out a (c1.trans f));clear z e4 c1;go_wp2_with fail;refine(Bh _).mono ?_;rintro e t0 ⟨rfl,c⟩;have l7:Ext w t0:=o3.trans c;have r2:=c;clear f7 p6;clear c;go_wp2_with fail;refine(Qav _).mono ?_;rintro e b5 ⟨rfl,c⟩;have l8:Ext w b5:=l7.trans c;have r3:=c;clear c;obtain⟨e0,e5⟩:=zE (b5.alloc (.cells #[.int .u32 5,.int .u32 2,.int .u32 2,.int .u32 5] 95));have l9:Ext w e0:=by rw [<-e5];exact l8.alloc _
 have i6:e0.heap[b5.heap.size]?=some (.cells #[.int .u32 5,.int .u32 2,.int .u32 2,.int .u32 5] 95 (0,0)):=by rw [<-e5];exact Q3 rfl
 have q9:Ext b5 e0:=by rw [<-e5];exact(Q0.refl _ b5).alloc _
 have r4:=q9;obtain⟨t,o7⟩:=zE b5.heap.size;rw [o7] at i6;have b3:Hid (∀ a,Ext e0 a->Q6 a (.slice (some ⟨t,0,none⟩) 2 2) apO):=Zh (fun a f=>Q6.ext ⟨X2 (xs:=Za apO) i6 rfl zd,by simp [Yf]⟩ f);clear q9;go_wp2_with fail;refine(Q1f _ _ _ _).mono ?_;rintro e a0 ⟨u,rfl,d2,c⟩;have m0:Ext w a0:=l9.trans c;have r5:=c;have c9:Hid (∀ a,Ext a0 a->Q6 a (.slice (some ⟨u,0,none⟩) 3 3) Yb):=Zh (fun a f=>d2.ext f);have b3:Hid (∀ a,Ext a0 a->Q6 a (.slice (some ⟨t,0,none⟩) 2 2) apO):=Zh (fun a f=>b3.out a (c.trans f));clear c d2;clear e5 o7 i6;obtain⟨o,e6⟩:=zE (a0.alloc (.cells #[.slice (some ⟨u,0,none⟩) 3 3,.slice (some ⟨t,0,none⟩) 2 2] 105));have e2:Ext w o:=by rw [<-e6];exact m0.alloc _
 have i3:o.heap[a0.heap.size]?=some (.cells #[.slice (some ⟨u,0,none⟩) 3 3,.slice (some ⟨t,0,none⟩) 2 2] 105 (0,0)):=by rw [<-e6];exact Q3 rfl
 have g0:Ext a0 o:=by rw [<-e6];exact(Q0.refl _ a0).alloc _
 have r6:=g0;obtain⟨j8,o4⟩:=zE a0.heap.size;rw [o4] at i3;have k1:Hid (∀ a,Ext o a->a.heap[j8]?=some (.cells #[.slice (some ⟨u,0,none⟩) 3 3,.slice (some ⟨t,0,none⟩) 2 2] 105 (0,0))):=Zh (fun a f=>Ext.keep f i3);have b3:Hid (∀ a,Ext o a->Q6 a (.slice (some ⟨t,0,none⟩) 2 2) apO):=Zh (fun a f=>b3.out a (g0.trans f));have c9:Hid (∀ a,Ext o a->Q6 a (.slice (some ⟨u,0,none⟩) 3 3) Yb):=Zh (fun a f=>c9.out a (g0.trans f));go_upto_region 3 with (fail)
 clear e6 o4 i3 g0;have D:Ext T o:=(t5.trans (t6.trans (t7.trans (t8.trans (t9.trans (r2.trans (r3.trans (r4.trans (r5.trans r6)))))))));have r:Ext F o:=(r2.trans (r3.trans (r4.trans (r5.trans r6))))
 go_cut [4,5,6] from 30 to 40 (fun v4 v5 v6 wx=>v4=.int .i64 1/\v5=.bool true/\v6=.int .i64 0/\Ext o wx)
 case first=>
  have I:Ext o o.drew:=(Q0.refl _ o).drew;refine Z0 (S:=fun a=>Ext o a) [] kz I ?_;intro _;obtain⟨Z,p7⟩:=zE o.drew;rw [p7] at I ⊢;clear p7;refine tE 0 30 I ?_;refine tkE (i:=2) (d:=32) (v:=?_) rfl (Or.inl ⟨by rfl,?_⟩) I ?_;rotate_left
  ·intro a f;have j5:=k1.out a (show Ext o a from f);refine Uq (x:=.tmp 3) ?_ j8 ?_ _ _ _ j5 Tryz.underlying105 Py <;> rfl
  try simp only [Act.put,pq]
  refine tE 3 33 I ?_;refine tE 4 34 I ?_;refine tkE (i:=5) (d:=35) (v:=?_) rfl (Or.inl ⟨by rfl,?_⟩) I ?_;rotate_left
  ·intro a f;have j5:=k2.out a (r.trans (show Ext o a from f));refine Uq (x:=.tmp 34) ?_ d9 ?_ _ _ _ j5 Tryz.underlying105 Py <;> rfl
  try simp only [Act.put,pq]
  refine rE [1,6] ?_;refine Q1.cons rfl (fun K hK=>?_) (Q1.cons rfl (fun K hK=>?_) Q1.nil)
  ·refine iw rfl ?_;go_simp;obtain⟨y,n⟩:=zE (Z.alloc (.cells #[.int .i64 0,.int .i64 1,.int .i64 2] 3));have B:y.heap[Z.heap.size]?=some (.cells #[.int .i64 0,.int .i64 1,.int .i64 2] 3 (0,0)):=by rw [<-n];exact Q3 rfl
   have J:Ext o y:=by rw [<-n];exact I.alloc _
   rw [n];obtain⟨g4,d0⟩:=zE Z.heap.size;rw [d0] at B ⊢;have g6:Hid (∀ a,Ext y a->Rd a (.slice (some ⟨g4,0,none⟩) 3 3) 3 1 (Zq [0,1,2])):=Zh (fun a f=>(X2 (xs:=Zq [0,1,2]) B rfl zd).ext f);have t3:Ext Z y:=by rw [<-n];exact(Q0.refl _ _).alloc _
   clear n B d0;refine hK _ _ J (fun _=>?_);clear hK K;try simp only [Act.put,pq]
   refine rE [6] ?_;refine Q1.cons rfl (fun K hK=>?_) Q1.nil;refine iw rfl ?_;go_simp;obtain⟨H,n⟩:=zE (y.alloc (.cells #[.slice (some ⟨u,0,none⟩) 3 3,.slice (some ⟨t,0,none⟩) 2 2,.slice (some ⟨k,0,none⟩) 3 3,.slice (some ⟨j,0,none⟩) 2 2] 105));have B:H.heap[y.heap.size]?=some (.cells #[.slice (some ⟨u,0,none⟩) 3 3,.slice (some ⟨t,0,none⟩) 2 2,.slice (some ⟨k,0,none⟩) 3 3,.slice (some ⟨j,0,none⟩) 2 2] 105 (0,0)):=by rw [<-n];exact Q3 rfl
   have C:Ext o H:=by rw [<-n];exact J.alloc _
   rw [n];obtain⟨c5,d1⟩:=zE y.heap.size;rw [d1] at B ⊢
   have g7:Hid (∀ a,Ext H a->Z7 a (.slice (some ⟨c5,0,none⟩) 2 2) [((Yb,apO),[.slice (some ⟨u,0,none⟩) 3 3,.slice (some ⟨t,0,none⟩) 2 2]),((Yb,abO),[.slice (some ⟨k,0,none⟩) 3 3,.slice (some ⟨j,0,none⟩) 2 2])]):=Zh (fun a f=>Qg (v:=.slice (some ⟨c5,0,none⟩) 2 2) ⟨X2 (xs:=[.slice (some ⟨u,0,none⟩) 3 3,.slice (some ⟨t,0,none⟩) 2 2,.slice (some ⟨k,0,none⟩) 3 3,.slice (some ⟨j,0,none⟩) 2 2]) B rfl zd,fun p z=>by
    simp only [List.mem_cons,List.not_mem_nil,or_false] at z;rcases z with rfl | rfl
    ·exact⟨rfl,_,_,rfl,⟨_,3,rfl,c9.out _ C,Nat.le_refl 3⟩,⟨_,2,rfl,b3.out _ C,Nat.le_refl 2⟩⟩
    ·exact⟨rfl,_,_,rfl,⟨_,3,rfl,b7.out _ (r.trans C),Nat.le_refl 3⟩,⟨_,2,rfl,a8.out _ (r.trans C),Nat.le_refl 2⟩⟩⟩ f)
   have j6:Ext y H:=by rw [<-n];exact(Q0.refl _ _).alloc _
   clear n B d1;refine hK _ _ C (fun _=>?_);clear hK K;try simp only [Act.put,pq]
   refine rE [7] ?_;refine Q1.cons rfl (fun K hK=>?_) Q1.nil;refine iw rfl ?_;go_simp;have l:=Q66 (qs:=[((Yb,apO),[.slice (some ⟨u,0,none⟩) 3 3,.slice (some ⟨t,0,none⟩) 2 2]),((Yb,abO),[.slice (some ⟨k,0,none⟩) 3 3,.slice (some ⟨j,0,none⟩) 2 2])]) rfl;have g:=Ti (w:=H) (ps:=[(vD,[.string ⟨#[86]⟩,.int .i64 1,.int .u32 4,.int .u32 0,.bool false,.int .i64 0,.int .i64 0,.slice none 0 0,.int .i64 1,.int .u32 4,.int .u32 0,.bool false,.int .i64 0,.int .i64 0,.slice none 0 0,.slice (some ⟨N,0,none⟩) 1 1,.slice (some ⟨O,0,none⟩) 1 1,.int .i64 1]),(fD,[.string ⟨#[70]⟩,.int .i64 0,.int .u32 0,.int .u32 0,.bool false,.int .i64 0,.int .i64 0,.slice none 0 0,.int .i64 6,.int .u32 0,.int .u32 0,.bool false,.int .i64 0,.int .i64 0,.slice none 0 0,.slice (some ⟨P,0,none⟩) 1 1,.slice none 0 0,.int .i64 1]),(uD,[.string ⟨#[85]⟩,.int .i64 0,.int .u32 0,.int .u32 0,.bool false,.int .i64 0,.int .i64 0,.slice none 0 0,.int .i64 6,.int .u32 0,.int .u32 0,.bool false,.int .i64 0,.int .i64 0,.slice none 0 0,.slice (some ⟨Q,0,none⟩) 1 1,.slice (some ⟨R,0,none⟩) 1 1,.int .i64 1])]) (qs:=[((Yb,apO),[.slice (some ⟨u,0,none⟩) 3 3,.slice (some ⟨t,0,none⟩) 2 2]),((Yb,abO),[.slice (some ⟨k,0,none⟩) 3 3,.slice (some ⟨j,0,none⟩) 2 2])]) (xs:=[0,1,2]) (b4.out _ (D.trans C)) rfl (g6.out _ j6) rfl (g7.out _ (Q0.refl _ _)) rfl (b8.keep (e2.trans C) id);simp only [List.map_cons,List.map_nil] at g l;rw [l.1,l.2.1,l.2.2] at g;have m:=Zh g;clear g l;refine m.out.mono ?_;rintro e g8 ⟨rfl,c⟩;have q:Ext o g8:=C.trans c;clear c m;refine hK _ _ q (fun _=>?_);clear hK K;try simp only [Act.put,pq]
   refine tE 8 29 q ?_;refine tE 9 38 q ?_;refine tE 10 39 q ?_;refine tE 11 40 q ?_;refine tE 12 4 q ?_;refine tE 13 5 q ?_;refine tE 14 6 q ?_;refine Ql kz ?_ _;have g5:=Zh q;clear q C J I;go_wp2
   go_meet
   case rel=>exact⟨rfl,rfl,rfl,g5.out⟩
  ·refine iw rfl ?_;go_simp;obtain⟨y,n⟩:=zE (Z.alloc (.cells #[.slice (some ⟨u,0,none⟩) 3 3,.slice (some ⟨t,0,none⟩) 2 2,.slice (some ⟨k,0,none⟩) 3 3,.slice (some ⟨j,0,none⟩) 2 2] 105));have B:y.heap[Z.heap.size]?=some (.cells #[.slice (some ⟨u,0,none⟩) 3 3,.slice (some ⟨t,0,none⟩) 2 2,.slice (some ⟨k,0,none⟩) 3 3,.slice (some ⟨j,0,none⟩) 2 2] 105 (0,0)):=by rw [<-n];exact Q3 rfl
   have J:Ext o y:=by rw [<-n];exact I.alloc _
   rw [n];obtain⟨c5,d1⟩:=zE Z.heap.size;rw [d1] at B ⊢
   have g7:Hid (∀ a,Ext y a->Z7 a (.slice (some ⟨c5,0,none⟩) 2 2) [((Yb,apO),[.slice (some ⟨u,0,none⟩) 3 3,.slice (some ⟨t,0,none⟩) 2 2]),((Yb,abO),[.slice (some ⟨k,0,none⟩) 3 3,.slice (some ⟨j,0,none⟩) 2 2])]):=Zh (fun a f=>Qg (v:=.slice (some ⟨c5,0,none⟩) 2 2) ⟨X2 (xs:=[.slice (some ⟨u,0,none⟩) 3 3,.slice (some ⟨t,0,none⟩) 2 2,.slice (some ⟨k,0,none⟩) 3 3,.slice (some ⟨j,0,none⟩) 2 2]) B rfl zd,fun p z=>by
    simp only [List.mem_cons,List.not_mem_nil,or_false] at z;rcases z with rfl | rfl
    ·exact⟨rfl,_,_,rfl,⟨_,3,rfl,c9.out _ J,Nat.le_refl 3⟩,⟨_,2,rfl,b3.out _ J,Nat.le_refl 2⟩⟩
    ·exact⟨rfl,_,_,rfl,⟨_,3,rfl,b7.out _ (r.trans J),Nat.le_refl 3⟩,⟨_,2,rfl,a8.out _ (r.trans J),Nat.le_refl 2⟩⟩⟩ f)
   have t3:Ext Z y:=by rw [<-n];exact(Q0.refl _ _).alloc _
   clear n B d1;refine hK _ _ J (fun _=>?_);clear hK K;try simp only [Act.put,pq]
   refine rE [1] ?_;refine Q1.cons rfl (fun K hK=>?_) Q1.nil;refine iw rfl ?_;go_simp;obtain⟨H,n⟩:=zE (y.alloc (.cells #[.int .i64 0,.int .i64 1,.int .i64 2] 3));have B:H.heap[y.heap.size]?=some (.cells #[.int .i64 0,.int .i64 1,.int .i64 2] 3 (0,0)):=by rw [<-n];exact Q3 rfl
   have C:Ext o H:=by rw [<-n];exact J.alloc _
   rw [n];obtain⟨g4,d0⟩:=zE y.heap.size;rw [d0] at B ⊢;have g6:Hid (∀ a,Ext H a->Rd a (.slice (some ⟨g4,0,none⟩) 3 3) 3 1 (Zq [0,1,2])):=Zh (fun a f=>(X2 (xs:=Zq [0,1,2]) B rfl zd).ext f);have j6:Ext y H:=by rw [<-n];exact(Q0.refl _ _).alloc _
   clear n B d0;refine hK _ _ C (fun _=>?_);clear hK K;try simp only [Act.put,pq]
   refine rE [7] ?_;refine Q1.cons rfl (fun K hK=>?_) Q1.nil;refine iw rfl ?_;go_simp;have l:=Q66 (qs:=[((Yb,apO),[.slice (some ⟨u,0,none⟩) 3 3,.slice (some ⟨t,0,none⟩) 2 2]),((Yb,abO),[.slice (some ⟨k,0,none⟩) 3 3,.slice (some ⟨j,0,none⟩) 2 2])]) rfl;have g:=Ti (w:=H) (ps:=[(vD,[.string ⟨#[86]⟩,.int .i64 1,.int .u32 4,.int .u32 0,.bool false,.int .i64 0,.int .i64 0,.slice none 0 0,.int .i64 1,.int .u32 4,.int .u32 0,.bool false,.int .i64 0,.int .i64 0,.slice none 0 0,.slice (some ⟨N,0,none⟩) 1 1,.slice (some ⟨O,0,none⟩) 1 1,.int .i64 1]),(fD,[.string ⟨#[70]⟩,.int .i64 0,.int .u32 0,.int .u32 0,.bool false,.int .i64 0,.int .i64 0,.slice none 0 0,.int .i64 6,.int .u32 0,.int .u32 0,.bool false,.int .i64 0,.int .i64 0,.slice none 0 0,.slice (some ⟨P,0,none⟩) 1 1,.slice none 0 0,.int .i64 1]),(uD,[.string ⟨#[85]⟩,.int .i64 0,.int .u32 0,.int .u32 0,.bool false,.int .i64 0,.int .i64 0,.slice none 0 0,.int .i64 6,.int .u32 0,.int .u32 0,.bool false,.int .i64 0,.int .i64 0,.slice none 0 0,.slice (some ⟨Q,0,none⟩) 1 1,.slice (some ⟨R,0,none⟩) 1 1,.int .i64 1])]) (qs:=[((Yb,apO),[.slice (some ⟨u,0,none⟩) 3 3,.slice (some ⟨t,0,none⟩) 2 2]),((Yb,abO),[.slice (some ⟨k,0,none⟩) 3 3,.slice (some ⟨j,0,none⟩) 2 2])]) (xs:=[0,1,2]) (b4.out _ (D.trans C)) rfl (g6.out _ (Q0.refl _ _)) rfl (g7.out _ j6) rfl (b8.keep (e2.trans C) id);simp only [List.map_cons,List.map_nil] at g l;rw [l.1,l.2.1,l.2.2] at g;have m:=Zh g;clear g l;refine m.out.mono ?_;rintro e g8 ⟨rfl,c⟩;have q:Ext o g8:=C.trans c;clear c m;refine hK _ _ q (fun _=>?_);clear hK K;try simp only [Act.put,pq]
   refine tE 8 29 q ?_;refine tE 9 38 q ?_;refine tE 10 39 q ?_;refine tE 11 40 q ?_;refine tE 12 4 q ?_;refine tE 13 5 q ?_;refine tE 14 6 q ?_;refine Ql kz ?_ _;have g5:=Zh q;clear q C J I;go_wp2
   go_meet
   case rel=>exact⟨rfl,rfl,rfl,g5.out⟩
 case rest=>
  obtain⟨rfl,rfl,rfl,f8⟩:=hcut;have e3:Ext w wc:=e2.trans f8;have D:Ext T wc:=D.trans f8;have r:Ext F wc:=r.trans f8;generalize wc=t1 at e3 D r ⊢;clear f8 k1 a8 b7 b3 c9 k2;have g:=Sf (w:=t1) (ps:=[(vD,[.string ⟨#[86]⟩,.int .i64 1,.int .u32 4,.int .u32 0,.bool false,.int .i64 0,.int .i64 0,.slice none 0 0,.int .i64 1,.int .u32 4,.int .u32 0,.bool false,.int .i64 0,.int .i64 0,.slice none 0 0,.slice (some ⟨N,0,none⟩) 1 1,.slice (some ⟨O,0,none⟩) 1 1,.int .i64 1]),(fD,[.string ⟨#[70]⟩,.int .i64 0,.int .u32 0,.int .u32 0,.bool false,.int .i64 0,.int .i64 0,.slice none 0 0,.int .i64 6,.int .u32 0,.int .u32 0,.bool false,.int .i64 0,.int .i64 0,.slice none 0 0,.slice (some ⟨P,0,none⟩) 1 1,.slice none 0 0,.int .i64 1]),(uD,[.string ⟨#[85]⟩,.int .i64 0,.int .u32 0,.int .u32 0,.bool false,.int .i64 0,.int .i64 0,.slice none 0 0,.int .i64 6,.int .u32 0,.int .u32 0,.bool false,.int .i64 0,.int .i64 0,.slice none 0 0,.slice (some ⟨Q,0,none⟩) 1 1,.slice (some ⟨R,0,none⟩) 1 1,.int .i64 1])]) (qs:=[((Yb,abO),[.slice (some ⟨k,0,none⟩) 3 3,.slice (some ⟨j,0,none⟩) 2 2])]) (b4.out _ D) rfl (c6.out _ r) rfl (b8.keep e3 id);have l:=Q74 (qs:=[((Yb,abO),[.slice (some ⟨k,0,none⟩) 3 3,.slice (some ⟨j,0,none⟩) 2 2])]) rfl;simp only [List.map_cons,List.map_nil] at g l;have b2:=Ms (qs:=[((Yb,abO),[.slice (some ⟨k,0,none⟩) 3 3,.slice (some ⟨j,0,none⟩) 2 2])]) rfl;simp only [List.map_cons,List.map_nil] at b2;rw [l.1,l.2,b2] at g;simp only [List.length_cons,List.length_nil] at g;clear b2;have m:=Zh g;clear g l;go_wp2_with fail;refine(m.out).mono ?_;rintro e c7 ⟨r9,r8,rfl,M,c⟩;have i0:Ext w c7:=e3.trans c;have u5:=c;have D:Ext T c7:=D.trans c;have r:Ext F c7:=r.trans c;clear m;have k9:Hid (∀ a,Ext c7 a->Rd a (.slice r9 3 r8) 3 1 (Qc [0,2,1])):=Zh (fun a f=>M.ext f);clear M c;have g:=Q29 (w:=c7) (ps:=[(vD,[.string ⟨#[86]⟩,.int .i64 1,.int .u32 4,.int .u32 0,.bool false,.int .i64 0,.int .i64 0,.slice none 0 0,.int .i64 1,.int .u32 4,.int .u32 0,.bool false,.int .i64 0,.int .i64 0,.slice none 0 0,.slice (some ⟨N,0,none⟩) 1 1,.slice (some ⟨O,0,none⟩) 1 1,.int .i64 1]),(fD,[.string ⟨#[70]⟩,.int .i64 0,.int .u32 0,.int .u32 0,.bool false,.int .i64 0,.int .i64 0,.slice none 0 0,.int .i64 6,.int .u32 0,.int .u32 0,.bool false,.int .i64 0,.int .i64 0,.slice none 0 0,.slice (some ⟨P,0,none⟩) 1 1,.slice none 0 0,.int .i64 1]),(uD,[.string ⟨#[85]⟩,.int .i64 0,.int .u32 0,.int .u32 0,.bool false,.int .i64 0,.int .i64 0,.slice none 0 0,.int .i64 6,.int .u32 0,.int .u32 0,.bool false,.int .i64 0,.int .i64 0,.slice none 0 0,.slice (some ⟨Q,0,none⟩) 1 1,.slice (some ⟨R,0,none⟩) 1 1,.int .i64 1])]) (qs:=[((Yb,abO),[.slice (some ⟨k,0,none⟩) 3 3,.slice (some ⟨j,0,none⟩) 2 2])]) (most:=9) (b4.out _ D) rfl (c6.out _ r) rfl (b8.keep i0 id);have l:=Qg9 (qs:=[((Yb,abO),[.slice (some ⟨k,0,none⟩) 3 3,.slice (some ⟨j,0,none⟩) 2 2])]) rfl;simp only [List.map_cons,List.map_nil] at g l;have b2:=Ms (qs:=[((Yb,abO),[.slice (some ⟨k,0,none⟩) 3 3,.slice (some ⟨j,0,none⟩) 2 2])]) rfl
  simp only [List.map_cons,List.map_nil] at b2;rw [l,b2] at g;simp only [List.length_cons,List.length_nil] at g;clear b2;have m:=Zh g;clear g l;go_wp2_with fail;refine(m.out).mono ?_;rintro e c8 ⟨s1,s0,rfl,M,c⟩;have i1:Ext w c8:=i0.trans c;have t4:=c;have D:Ext T c8:=D.trans c;have r:Ext F c8:=r.trans c;clear m;have l0:Hid (∀ a,Ext c8 a->X0 a (.slice s1 2 s0) [[0,2,1],[2,0,1]]):=Zh (fun a f=>X0.ext M f);clear M c;have g:=P0 (w:=c8) (ps:=[(vD,[.string ⟨#[86]⟩,.int .i64 1,.int .u32 4,.int .u32 0,.bool false,.int .i64 0,.int .i64 0,.slice none 0 0,.int .i64 1,.int .u32 4,.int .u32 0,.bool false,.int .i64 0,.int .i64 0,.slice none 0 0,.slice (some ⟨N,0,none⟩) 1 1,.slice (some ⟨O,0,none⟩) 1 1,.int .i64 1]),(fD,[.string ⟨#[70]⟩,.int .i64 0,.int .u32 0,.int .u32 0,.bool false,.int .i64 0,.int .i64 0,.slice none 0 0,.int .i64 6,.int .u32 0,.int .u32 0,.bool false,.int .i64 0,.int .i64 0,.slice none 0 0,.slice (some ⟨P,0,none⟩) 1 1,.slice none 0 0,.int .i64 1]),(uD,[.string ⟨#[85]⟩,.int .i64 0,.int .u32 0,.int .u32 0,.bool false,.int .i64 0,.int .i64 0,.slice none 0 0,.int .i64 6,.int .u32 0,.int .u32 0,.bool false,.int .i64 0,.int .i64 0,.slice none 0 0,.slice (some ⟨Q,0,none⟩) 1 1,.slice (some ⟨R,0,none⟩) 1 1,.int .i64 1])]) (qs:=[((Yb,abO),[.slice (some ⟨k,0,none⟩) 3 3,.slice (some ⟨j,0,none⟩) 2 2])]) (b4.out _ D) rfl (c6.out _ r) rfl (b8.keep i1 id);have l:=Qek (qs:=[((Yb,abO),[.slice (some ⟨k,0,none⟩) 3 3,.slice (some ⟨j,0,none⟩) 2 2])]) rfl;simp only [List.map_cons,List.map_nil] at g l;rw [l.1,l.2] at g;simp only [List.length_cons,List.length_nil] at g;have m:=Zh g;clear g l;go_wp2_with fail;refine(m.out).mono ?_;rintro e E ⟨s3,s2,rfl,M,c⟩;have m1:Ext w E:=i1.trans c;have r7:=c;have D:Ext T E:=D.trans c;have r:Ext F E:=r.trans c;clear m;have l1:Hid (∀ a,Ext E a->Rd a (.slice s3 2 s2) 2 2 (prs [(0,1),(2,1)])):=Zh (fun a f=>M.ext f);clear M c;go_wp2_with fail;refine(Q8v _).mono ?_;rintro e l3 ⟨c2,c3,rfl,q5,c⟩;have m2:Ext w l3:=m1.trans c;have u6:=c;have k6:Hid (∀ a,Ext l3 a->Zf a vD [.string ⟨#[86]⟩,.int .i64 1,.int .u32 4,.int .u32 0,.bool false,.int .i64 0,.int .i64 0,.slice none 0 0,.int .i64 1,.int .u32 4,.int .u32 0,.bool false,.int .i64 0,.int .i64 0,.slice none 0 0,.slice (some ⟨c2,0,none⟩) 1 1,.slice (some ⟨c3,0,none⟩) 1 1,.int .i64 1]):=Zh (fun a f=>q5.ext f);clear q5;have j7:=c;clear c;go_wp2_with fail;refine(Q92 _).mono ?_;rintro e a9 ⟨c4,rfl,q6,c⟩;have m4:Ext w a9:=m2.trans c;have u8:=c;have k7:Hid (∀ a,Ext a9 a->Zf a fD [.string ⟨#[70]⟩,.int .i64 0,.int .u32 0,.int .u32 0,.bool false,.int .i64 0,.int .i64 0,.slice none 0 0,.int .i64 6,.int .u32 0,.int .u32 0,.bool false,.int .i64 0,.int .i64 0,.slice none 0 0,.slice (some ⟨c4,0,none⟩) 1 1,.slice none 0 0,.int .i64 1]):=Zh (fun a f=>q6.ext f);clear q6;have f9:=c;clear c;obtain⟨U,e7⟩:=zE (a9.alloc (.cells #[.string ⟨#[86]⟩,.int .i64 1,.int .u32 4,.int .u32 0,.bool false,.int .i64 0,.int .i64 0,.slice none 0 0,.int .i64 1,.int .u32 4,.int .u32 0,.bool false,.int .i64 0,.int .i64 0,.slice none 0 0,.slice (some ⟨c2,0,none⟩) 1 1,.slice (some ⟨c3,0,none⟩) 1 1,.int .i64 1,.string ⟨#[70]⟩,.int .i64 0,.int .u32 0,.int .u32 0,.bool false,.int .i64 0,.int .i64 0,.slice none 0 0,.int .i64 6,.int .u32 0,.int .u32 0,.bool false,.int .i64 0,.int .i64 0,.slice none 0 0,.slice (some ⟨c4,0,none⟩) 1 1,.slice none 0 0,.int .i64 1] 102))
  have m5:Ext w U:=by rw [<-e7];exact m4.alloc _
  have j3:U.heap[a9.heap.size]?=some (.cells #[.string ⟨#[86]⟩,.int .i64 1,.int .u32 4,.int .u32 0,.bool false,.int .i64 0,.int .i64 0,.slice none 0 0,.int .i64 1,.int .u32 4,.int .u32 0,.bool false,.int .i64 0,.int .i64 0,.slice none 0 0,.slice (some ⟨c2,0,none⟩) 1 1,.slice (some ⟨c3,0,none⟩) 1 1,.int .i64 1,.string ⟨#[70]⟩,.int .i64 0,.int .u32 0,.int .u32 0,.bool false,.int .i64 0,.int .i64 0,.slice none 0 0,.int .i64 6,.int .u32 0,.int .u32 0,.bool false,.int .i64 0,.int .i64 0,.slice none 0 0,.slice (some ⟨c4,0,none⟩) 1 1,.slice none 0 0,.int .i64 1] 102 (0,0)):=by rw [<-e7];exact Q3 rfl
  have b9:Ext a9 U:=by rw [<-e7];exact(Q0.refl _ a9).alloc _
  have u9:=b9;obtain⟨s7,p4⟩:=zE a9.heap.size;rw [p4] at j3
  have d3:Z5 U (.slice (some ⟨s7,0,none⟩) 2 2) [(vD,[.string ⟨#[86]⟩,.int .i64 1,.int .u32 4,.int .u32 0,.bool false,.int .i64 0,.int .i64 0,.slice none 0 0,.int .i64 1,.int .u32 4,.int .u32 0,.bool false,.int .i64 0,.int .i64 0,.slice none 0 0,.slice (some ⟨c2,0,none⟩) 1 1,.slice (some ⟨c3,0,none⟩) 1 1,.int .i64 1]),(fD,[.string ⟨#[70]⟩,.int .i64 0,.int .u32 0,.int .u32 0,.bool false,.int .i64 0,.int .i64 0,.slice none 0 0,.int .i64 6,.int .u32 0,.int .u32 0,.bool false,.int .i64 0,.int .i64 0,.slice none 0 0,.slice (some ⟨c4,0,none⟩) 1 1,.slice none 0 0,.int .i64 1])]:=⟨X2 (xs:=[.string ⟨#[86]⟩,.int .i64 1,.int .u32 4,.int .u32 0,.bool false,.int .i64 0,.int .i64 0,.slice none 0 0,.int .i64 1,.int .u32 4,.int .u32 0,.bool false,.int .i64 0,.int .i64 0,.slice none 0 0,.slice (some ⟨c2,0,none⟩) 1 1,.slice (some ⟨c3,0,none⟩) 1 1,.int .i64 1,.string ⟨#[70]⟩,.int .i64 0,.int .u32 0,.int .u32 0,.bool false,.int .i64 0,.int .i64 0,.slice none 0 0,.int .i64 6,.int .u32 0,.int .u32 0,.bool false,.int .i64 0,.int .i64 0,.slice none 0 0,.slice (some ⟨c4,0,none⟩) 1 1,.slice none 0 0,.int .i64 1]) j3 rfl zd,fun p z=>by
   simp only [List.mem_cons,List.not_mem_nil,or_false] at z;rcases z with rfl | rfl
   ·exact k6.out _ (f9.trans b9)
   ·exact k7.out _ b9⟩
  obtain⟨b0,e8⟩:=zE (U.alloc (.cells #[.int .i64 0,.int .i64 1] 3));have i2:Ext w b0:=by rw [<-e8];exact m5.alloc _
  have j4:b0.heap[U.heap.size]?=some (.cells #[.int .i64 0,.int .i64 1] 3 (0,0)):=by rw [<-e8];exact Q3 rfl
  have d4:Ext U b0:=by rw [<-e8];exact(Q0.refl _ U).alloc _
  have v0:=d4;obtain⟨s8,p5⟩:=zE U.heap.size;rw [p5] at j4;have q0:=d3.ext d4;have q1:Rd b0 (.slice (some ⟨s8,0,none⟩) 2 2) 2 1 (Zq [0,1]):=X2 (xs:=Zq [0,1]) j4 rfl zd;have r:Ext F b0:=r.trans (j7.trans (f9.trans (b9.trans d4)));have s:Ext E b0:=j7.trans (f9.trans (b9.trans d4));have g:=S5 (w:=b0) (ps:=[(vD,[.string ⟨#[86]⟩,.int .i64 1,.int .u32 4,.int .u32 0,.bool false,.int .i64 0,.int .i64 0,.slice none 0 0,.int .i64 1,.int .u32 4,.int .u32 0,.bool false,.int .i64 0,.int .i64 0,.slice none 0 0,.slice (some ⟨c2,0,none⟩) 1 1,.slice (some ⟨c3,0,none⟩) 1 1,.int .i64 1]),(fD,[.string ⟨#[70]⟩,.int .i64 0,.int .u32 0,.int .u32 0,.bool false,.int .i64 0,.int .i64 0,.slice none 0 0,.int .i64 6,.int .u32 0,.int .u32 0,.bool false,.int .i64 0,.int .i64 0,.slice none 0 0,.slice (some ⟨c4,0,none⟩) 1 1,.slice none 0 0,.int .i64 1])]) (qs:=[((Yb,abO),[.slice (some ⟨k,0,none⟩) 3 3,.slice (some ⟨j,0,none⟩) 2 2])]) (xs:=[0,1]) q0 rfl q1 rfl (c6.out _ r) rfl (b8.keep i2 id);have l:=Qeh (qs:=[((Yb,abO),[.slice (some ⟨k,0,none⟩) 3 3,.slice (some ⟨j,0,none⟩) 2 2])]) rfl;simp only [List.map_cons,List.map_nil] at g l;rw [l.1,l.2] at g;simp only [List.length_cons,List.length_nil] at g;have m:=Zh g;clear g l d3 q0 q1 k6 k7 j7 f9 j3 j4 b4 c6 D r;go_wp2_with fail;refine(m.out).mono ?_;rintro e A ⟨q8,q7,rfl,M,c⟩;have m6:Ext w A:=i2.trans c;have v1:=c;have s:Ext E A:=s.trans c;clear m e7 e8 p4 p5 b9 d4;have k8:Hid (∀ a,Ext A a->Rd a (.slice q8 1 q7) 1 1 (Qc [0])):=Zh (fun a f=>M.ext f);clear M c;obtain⟨a1,e9⟩:=zE (A.alloc (.cells #[.int .i64 0,.int .i64 2,.int .i64 1] 3));have m7:Ext w a1:=by rw [<-e9];exact m6.alloc _
  have i5:a1.heap[A.heap.size]?=some (.cells #[.int .i64 0,.int .i64 2,.int .i64 1] 3 (0,0)):=by rw [<-e9];exact Q3 rfl
  have a7:Ext A a1:=by rw [<-e9];exact(Q0.refl _ A).alloc _
  have v2:=a7;obtain⟨s4,o6⟩:=zE A.heap.size;rw [o6] at i5;have s:Ext E a1:=s.trans a7;have G:Ext A a1:=a7;have g:=Ka (.slice r9 3 r8) (.slice (some ⟨s4,0,none⟩) 3 3) [0,2,1] [0,2,1] a1 (k9.out _ ((t4.trans r7).trans s)) (X2 (xs:=Qc [0,2,1]) i5 rfl zd);rw [decide_eq_true rfl] at g;have m:=Zh g;clear g;go_wp2_with fail;refine m.out.mono ?_;rintro e V ⟨rfl,u0,L⟩;have c:Ext a1 V:=by rw [L];exact(Q0.refl _ a1).drewN _
  have m8:Ext w V:=m7.trans c;have v3:=c;have s:Ext E V:=s.trans c;clear m L e9 o6 i5 a7 k9;have G:Ext A V:=G.trans c;clear c;obtain⟨a2,f0⟩:=zE (V.alloc (.cells #[.int .i64 0,.int .i64 2,.int .i64 1] 3));have m9:Ext w a2:=by rw [<-f0];exact m8.alloc _
  have i7:a2.heap[V.heap.size]?=some (.cells #[.int .i64 0,.int .i64 2,.int .i64 1] 3 (0,0)):=by rw [<-f0];exact Q3 rfl
  have g1:Ext V a2:=by rw [<-f0];exact(Q0.refl _ V).alloc _
  have v7:=g1;obtain⟨d7,o8⟩:=zE V.heap.size;rw [o8] at i7;obtain⟨a3,f1⟩:=zE (a2.alloc (.cells #[.int .i64 2,.int .i64 0,.int .i64 1] 3));have n0:Ext w a3:=by rw [<-f1];exact m9.alloc _
  have i8:a3.heap[a2.heap.size]?=some (.cells #[.int .i64 2,.int .i64 0,.int .i64 1] 3 (0,0)):=by rw [<-f1];exact Q3 rfl
  have d5:Ext a2 a3:=by rw [<-f1];exact(Q0.refl _ a2).alloc _
  have v8:=d5;obtain⟨d8,o9⟩:=zE a2.heap.size;rw [o9] at i8;obtain⟨W,f2⟩:=zE (a3.alloc (.cells #[.slice (some ⟨d7,0,none⟩) 3 3,.slice (some ⟨d8,0,none⟩) 3 3] 48));have n1:Ext w W:=by rw [<-f2];exact n0.alloc _
  have i9:W.heap[a3.heap.size]?=some (.cells #[.slice (some ⟨d7,0,none⟩) 3 3,.slice (some ⟨d8,0,none⟩) 3 3] 48 (0,0)):=by rw [<-f2];exact Q3 rfl
  have c0:Ext a3 W:=by rw [<-f2];exact(Q0.refl _ a3).alloc _
  have v9:=c0;obtain⟨j9,p0⟩:=zE a3.heap.size;rw [p0] at i9;have s:Ext E W:=s.trans (g1.trans (d5.trans c0));have G:Ext A W:=G.trans (g1.trans (d5.trans c0))
  have p8:X0 W (.slice (some ⟨j9,0,none⟩) 2 2) [[0,2,1],[2,0,1]]:=⟨[.slice (some ⟨d7,0,none⟩) 3 3,.slice (some ⟨d8,0,none⟩) 3 3],X2 (xs:=[.slice (some ⟨d7,0,none⟩) 3 3,.slice (some ⟨d8,0,none⟩) 3 3]) i9 rfl zd,fun i p9=>by
   have p9:i<2:=p9;rcases(by omega:i=0\/i=1) with rfl | rfl
   ·exact⟨_,_,rfl,(X2 (xs:=Qc [0,2,1]) i7 rfl (by show 3<=maxLen;decide)).ext (d5.trans c0)⟩
   ·exact⟨_,_,rfl,(X2 (xs:=Qc [2,0,1]) i8 rfl (by show 3<=maxLen;decide)).ext c0⟩⟩
  have g:=Q0l (.slice s1 2 s0) (.slice (some ⟨j9,0,none⟩) 2 2) [[0,2,1],[2,0,1]] [[0,2,1],[2,0,1]] W (l0.out _ (r7.trans s)) p8;rw [decide_eq_true rfl] at g;have m:=Zh g;clear g;go_wp2_with fail;refine m.out.mono ?_;rintro e X ⟨rfl,u1,L⟩;have c:Ext W X:=by rw [L];exact(Q0.refl _ W).drewN _
  have n2:Ext w X:=n1.trans c;have w0:=c;have s:Ext E X:=s.trans c;clear m L f0 f1 f2 o8 o9 p0 i7 i8 i9 p8 g1 d5 c0 l0;have G:Ext A X:=G.trans c;clear c;obtain⟨a4,f3⟩:=zE (X.alloc (.cells #[.int .i64 0,.int .i64 1,.int .i64 2,.int .i64 1] 73));have n4:Ext w a4:=by rw [<-f3];exact n2.alloc _
  have j0:a4.heap[X.heap.size]?=some (.cells #[.int .i64 0,.int .i64 1,.int .i64 2,.int .i64 1] 73 (0,0)):=by rw [<-f3];exact Q3 rfl
  have g2:Ext X a4:=by rw [<-f3];exact(Q0.refl _ X).alloc _
  have w2:=g2;obtain⟨s5,p1⟩:=zE X.heap.size;rw [p1] at j0;have s:Ext E a4:=s.trans g2;have G:Ext A a4:=G.trans g2;have g:=Nm (.slice s3 2 s2) (.slice (some ⟨s5,0,none⟩) 2 2) [(0,1),(2,1)] [(0,1),(2,1)] a4 (l1.out _ s) (X2 (xs:=prs [(0,1),(2,1)]) j0 rfl zd);rw [decide_eq_true rfl] at g;have m:=Zh g;clear g;go_wp2_with fail;refine m.out.mono ?_;rintro e Y ⟨rfl,u2,L⟩;have c:Ext a4 Y:=by rw [L];exact(Q0.refl _ a4).drewN _
  have n5:Ext w Y:=n4.trans c;have w3:=c;have s:Ext E Y:=s.trans c;clear m L f3 p1 j0 g2 l1;have G:Ext A Y:=G.trans c;clear c;obtain⟨a5,f4⟩:=zE (Y.alloc (.cells #[.int .i64 0] 3));have n6:Ext w a5:=by rw [<-f4];exact n5.alloc _
  have j1:a5.heap[Y.heap.size]?=some (.cells #[.int .i64 0] 3 (0,0)):=by rw [<-f4];exact Q3 rfl
  have g3:Ext Y a5:=by rw [<-f4];exact(Q0.refl _ Y).alloc _
  have w4:=g3;obtain⟨s6,p2⟩:=zE Y.heap.size;rw [p2] at j1;have G:Ext A a5:=G.trans g3;have s:Ext E a5:=s.trans g3;have g:=Ka (.slice q8 1 q7) (.slice (some ⟨s6,0,none⟩) 1 1) [0] [0] a5 (k8.out _ G) (X2 (xs:=Qc [0]) j1 rfl zd);rw [decide_eq_true rfl] at g;have m:=Zh g;clear g;go_wp2_with fail;refine m.out.mono ?_;rintro e g9 ⟨rfl,u3,L⟩;have c:Ext a5 g9:=by rw [L];exact(Q0.refl _ a5).drewN _
  have n7:Ext w g9:=n6.trans c;have w5:=c;have s:Ext E g9:=s.trans c;clear m L f4 p2 j1 g3 k8;have s9:=Zh n7;clear l5 l6 m3 n3 n8 n9 o0 o1 o2 o3 l7 l8 l9 m0 e2 e3 i0 i1 m1 m2 m4 m5 i2 m6 m7 m8 m9 n0 n1 n2 n4 n5 n6 n7;go_wp2;go_ret;exact⟨rfl,s9.out⟩
theorem Ek{ps:Qi}{qs:Q9}:Dj ps qs=Fd (ps.map (·.1)) qs/\Rb ps qs=Ry (ps.map (·.1)) qs:=by
 unfold Dj Rb Fd Ry;rw [List.length_map,Kf];by_cases a:Qu (ps.map (·.1)) (qs.map (·.1))=0
 ·have b:=(Dn a).1;rw [List.length_map] at b;have c:=Q7h (ps:=ps) (qs:=qs) a (Qo ps.length) (fun x hx=>by rw [(Ua _ x hx).1];omega);rw [if_pos a,if_pos a,if_pos a,if_pos a,c];exact⟨rfl,rfl⟩
 ·rw [if_neg a,if_neg a,if_neg a,if_neg a];exact⟨rfl,rfl⟩
theorem Bv{o:List Nat}{x:Nat}(h:x∈o):U3 o x=(o.idxOf x:Nat):=by
 have a:=List.idxOf_lt_length_of_mem h;unfold U3;unfold List.idxOf at a ⊢;rw [if_pos a]
theorem Q58{n:Nat}{L:List (List Nat)} (g:Bd n L) (k:L≠[]) {a b:Nat} (i:a<n) (j:b<n):Bs L a b=Fg (Y7 L) a b:=by
 rw [Bool.eq_iff_iff,Km g k];unfold Bs Ud;rw [List.take_of_length_le (Nat.le_refl _),Bool.and_eq_true,decide_eq_true_iff,List.all_eq_true]
 have l:∀ c∈L,(decide (U3 c a<U3 c b)=true↔c.idxOf a<c.idxOf b):=fun c d=>by
  rw [decide_eq_true_iff,Bv (((g c d).2 a).2 i),Bv (((g c d).2 b).2 j)];omega
 constructor
 ·rintro⟨_,f⟩;exact⟨i,j,fun c d=>(l c d).1 (f c d)⟩
 ·rintro⟨_,_,f⟩;refine⟨fun e=>?_,fun c d=>(l c d).2 (f c d)⟩;subst e;obtain⟨c,d⟩:=List.exists_mem_of_ne_nil L k;have:=f c d;omega
theorem Q3n{n:Nat}{R S:Nat->Nat->Bool}(h:∀ a b,a<n->b<n->R a b=S a b):Xh n R=Xh n S:=by
 unfold Xh;apply Fx;intro a c
 congr 1
 apply List.filter_congr;intro b d;exact h a b (List.mem_range.1 c) (List.mem_range.1 d)
theorem Eh{ps:Qi}{qs:Q9}:Lr ps qs=Xs (ps.map (·.1)) qs/\Df ps qs=U5 (ps.map (·.1)) qs:=by
 have d:Lr ps qs=Xs (ps.map (·.1)) qs:=by
  unfold Lr Xs;by_cases a:Qu (ps.map (·.1)) (qs.map (·.1))=0
  ·rw [if_pos a,if_pos a,M9 a]
  ·rw [if_neg a,if_neg a]
 refine⟨d,?_⟩;unfold Df U5;rw [d];by_cases a:Xs (ps.map (·.1)) qs=0
 ·rw [if_pos a,if_pos a,List.length_map];have c:Qu (ps.map (·.1)) (qs.map (·.1))=0:=by
   by_cases b:Qu (ps.map (·.1)) (qs.map (·.1))=0
   ·exact b
   ·unfold Xs at a;rw [if_neg b] at a;exact a
  rw [M9 c,List.length_map];apply Q3n;intro g i e f;refine Q58 (n:=ps.length) (Bu _ _ _) (fun b=>?_) e f;unfold Xs at a;rw [if_pos c,List.length_map,b] at a;cases a
 ·rw [if_neg a,if_neg a]
theorem Qa7{ps:Qi}{xs:List Int}{qs:Q9}:Dh ps xs qs=Hu (ps.map (·.1)) xs qs:=by
 unfold Dh Hu;by_cases a:Zs (ps.map (·.1)) xs (qs.map (·.1))=0
 ·rw [if_pos a,if_pos a];obtain⟨b,c⟩:=Kw a;have d:=(Dn b).1;have e:=(Q3g c).1;apply List.filter_congr;intro f _;unfold Hm;rw [Dl b oz,Dl b (by rw [Ll];omega)]
 ·rw [if_neg a,if_neg a]
end Go.Proofs.YtfdlhlghcbeblaaGreatDoor
