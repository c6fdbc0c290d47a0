/- A region that draws its order, whose operations make new memory, and boxes th -/
import Derived.Test.YtbmbdoanammlgaaDoorP05
import Derived.Test.YtbmbdoanammlgaaDoorP02
import Derived.Test.YtbmbdoanammlgaaDoorP04
namespace Go.Ab
open Go.RowKit Go.Proofs.YtbmbdoanammlgaaDoor
def Qn(ops:Array Oper)(i:Nat):Option Nat:=(ops[i]?).bind (·.dst)
def Yw(ops:Array Oper)(vs:Nat->Value)(l:List Nat)(t:Array Value):Array Value:=
 l.foldl (fun t i=>match Qn ops i with | some d=>t.setIfInBounds d (vs i) | none=>t) t
theorem Ui{ops:Array Oper}{vs:Nat->Value}{s:Nat}:∀ {l:List Nat} {t:Array Value},(∀ i∈l,Qn ops i≠some s)->(Yw ops vs l t)[s]?=t[s]?
 | [],_,_=>rfl
 | i::l,t,h=>by
  unfold Yw;rw [List.foldl_cons];refine(Ui (l:=l) fun j hj=>h j (by simp [hj])).trans ?_
  split
  ·rename_i d hd
   rw [Array.getElem?_setIfInBounds,if_neg];intro e;exact h i zy (by rw [hd,e])
  ·rfl
theorem G6{ops:Array Oper}{vs:Nat->Value}{s i:Nat}:∀ {l:List Nat} {t:Array Value},i∈l->Qn ops i=some s->(∀ j∈l,Qn ops j=some s->j=i)->s<t.size->(Yw ops vs l t)[s]?=some (vs i)
 | [],_,h,_,_,_=>by cases h
 | j::l,t,h,hd,hu,hs=>by
  unfold Yw;rw [List.foldl_cons];by_cases hl:i∈l
  ·refine G6 (l:=l) hl hd (fun k hk=>hu k (by simp [hk])) ?_
   split
   ·simpa using hs
   ·exact hs
  ·have hji:j=i:=by
    rcases List.mem_cons.1 h with h | h
    ·exact h.symm
    ·exact absurd h hl
   subst hji;refine(Ui (l:=l) fun k hk e=>hl (hu k (by simp [hk]) e ▸ hk)).trans ?_;rw [hd];dsimp only;rw [Array.getElem?_setIfInBounds,if_pos rfl,if_pos hs]
structure Box where
 al:Nat
 da:Nat
 st:Nat
 dv:Nat
 iv:Nat
def D6(ops:Array Oper):Bool:=(List.range ops.size).all fun i=>(List.range ops.size).all fun j=>match Qn ops i,Qn ops j with
 | some d,some e=>decide (d=e->i=j)
 | _,_=>true
theorem Zs{ops:Array Oper}(h:D6 ops=true){i j d:Nat}(b:Qn ops i=some d)(c:Qn ops j=some d):i=j:=by
 have e:∀ k d,Qn ops k=some d->k<ops.size:=fun k d hk=>by
  unfold Qn at hk;cases ho:ops[k]? with
  | none=>rw [ho] at hk;cases hk
  | some o=>exact(Array.getElem?_eq_some_iff.1 ho).1
 have a:=List.all_eq_true.1 (List.all_eq_true.1 h i (List.mem_range.2 (e i d b))) j (List.mem_range.2 (e j d c));rw [b,c] at a
 simpa using a
def Ni(ops:Array Oper)(ty:TypeId)(bx:List Box):Bool:=bx.all fun x=>
 (Qn ops x.al == some x.da) && (Qn ops x.iv == some x.dv) && (Qn ops x.st == none) && (match ops[x.st]? with
  | some o=>o.guard.isNone && (match o.op with | .store t (.tmp p) (.tmp v)=>t == ty && p == x.da && v == x.dv | _=>false) && (o.after.toList.any fun e=>Region.binds .any e && e.on == x.al) && (o.after.toList.any fun e=>Region.binds .any e && e.on == x.iv)
  | none=>false) && bx.all fun y=>(decide (x.al≠y.st)) && decide (x.iv≠y.st) && decide (x.iv≠y.al) && decide (x.al=y.al\/x.da≠y.da) && decide (x.st=y.st->x.al=y.al) && decide (x.al=y.al->x.st=y.st)
section
variable {P:Program} {ops:Array Oper} {Q:Exit->Act->World->Prop}
def Nk(X:Nat)(ty:TypeId)(Sh:Array Value->Prop)(bx:List Box)(listed:Array Bool)(b:Act)(W:World):Prop:=
 ∀ x∈bx,listed.getD x.al false=true->∃ g cs,b.tmps.getD x.da undef=.pointer (some ⟨g,0,none⟩)/\X<=g/\W.heap[g]?=some (.cells cs ty (0,0))/\Sh cs/\(listed.getD x.st false=true->b.tmps.getD x.dv undef=.agg cs) /\
  ∀ y∈bx,listed.getD y.al false=true->∀ g',b.tmps.getD y.da undef=.pointer (some ⟨g',0,none⟩)->g'=g->y.al=x.al
def Mz(X:Nat)(ty:TypeId)(Sh:Array Value->Prop)(W:World)(g:Nat):Prop:=X<=g/\∃ cs,W.heap[g]?=some (.cells cs ty (0,0))/\Sh cs
def Np(X:Nat)(ty:TypeId)(Sh:Array Value->Prop)(bx:List Box)(ops:Array Oper)(R:Nat->Value->World->Prop)(a:Act)(w:World)(listed:Array Bool)(b:Act)(W:World):Prop:=
 Ja .any ops listed/\Ext w W/\b.defers=a.defers/\b.tmps.size=a.tmps.size/\(∀ s,(∀ i,Qn ops i≠some s)->b.tmps.getD s undef=a.tmps.getD s undef) /\
 (∀ i d,Qn ops i=some d->listed.getD i false=true->R i (b.tmps.getD d undef) W)/\Nk X ty Sh bx listed b W
theorem Y7{b:Act}{d s:Nat}{v:Value}(h:s≠d):(b.put (some d) v).tmps.getD s undef=b.tmps.getD s undef:=by
 unfold Act.put;dsimp only;rw [Array.getD_eq_getD_getElem?,Array.getD_eq_getD_getElem?,Array.getElem?_setIfInBounds,if_neg (Ne.symm h)]
theorem Hs{b:Act}{d:Nat}{v:Value}(h:d<b.tmps.size):(b.put (some d) v).tmps.getD d undef=v:=by
 unfold Act.put;dsimp only;rw [Array.getD_eq_getD_getElem?,Array.getElem?_setIfInBounds,if_pos rfl,if_pos h];rfl
theorem Zw{l:Array Bool}{i k:Nat}(h:(l.setIfInBounds i true).getD k false=true):k=i\/l.getD k false=true:=by
 by_cases a:k=i
 ·exact .inl a
 ·right;rwa [getD_set_ne false (Ne.symm a)] at h
theorem Qq{ty:TypeId}{bx:List Box}(h:Ni ops ty bx=true){x:Box}(q:x∈bx):Qn ops x.al=some x.da/\Qn ops x.iv=some x.dv/\Qn ops x.st=none /\
  (∃ o,ops[x.st]?=some o/\o.guard=none/\o.op=.store ty (.tmp x.da) (.tmp x.dv)/\(∃ e∈o.after,Region.binds .any e=true/\e.on=x.al)/\∃ e∈o.after,Region.binds .any e=true/\e.on=x.iv) /\
  ∀ y∈bx,x.al≠y.st/\x.iv≠y.st/\x.iv≠y.al/\(x.al=y.al\/x.da≠y.da)/\(x.st=y.st->x.al=y.al)/\(x.al=y.al->x.st=y.st):=by
 have d:=List.all_eq_true.1 h x q;simp only [Bool.and_eq_true,beq_iff_eq] at d;obtain⟨⟨⟨⟨d,l⟩,m⟩,b⟩,n⟩:=d;refine⟨d,l,m,?_,fun y hy=>?_⟩
 ·cases ho:ops[x.st]? with
  | none=>rw [ho] at b;cases b
  | some o=>
   rw [ho] at b;dsimp only at b;simp only [Bool.and_eq_true] at b;obtain⟨⟨⟨g,c⟩,i⟩,j⟩:=b;refine⟨o,rfl,by simpa using g,?_,?_,?_⟩
   ·split at c
    ·rename_i u t v p
     simp only [Bool.and_eq_true,beq_iff_eq] at c;obtain⟨⟨rfl,rfl⟩,rfl⟩:=c;exact p
    ·cases c
   ·obtain⟨e,f,a⟩:=List.any_eq_true.1 i;simp only [Bool.and_eq_true,beq_iff_eq] at a;exact⟨e,by simpa using f,a.1,a.2⟩
   ·obtain⟨e,f,a⟩:=List.any_eq_true.1 j;simp only [Bool.and_eq_true,beq_iff_eq] at a;exact⟨e,by simpa using f,a.1,a.2⟩
 ·have k:=List.all_eq_true.1 n y hy;simp only [Bool.and_eq_true,decide_eq_true_eq] at k;obtain⟨⟨⟨⟨⟨g,c⟩,i⟩,j⟩,r⟩,s⟩:=k;exact⟨g,c,i,j,r,s⟩
theorem Uj{k0:Nat}{a:Act}{w:World}(ty:TypeId)(Z:Array Value)(X:Array Value->Prop)(bx:List Box)(R:Nat->Value->World->Prop)
  (i6:P.follows .mixedOrders=true) (g9:Hh .any ops=true) (C:D6 ops=true) (m:Ni ops ty bx=true) (c6:∀ i d,Qn ops i=some d->d<a.tmps.size)
  (i2:bx≠[]->(P.info? ty).map (·.size)=some Z.size) (f5:bx≠[]->X Z) (d5:∀ cs,X cs->cs.size=Z.size/\cs.all (·.oneCell')=true)
  (c7:∀ i v W W',R i v W->Q1 (Mz w.heap.size ty X W) W W'->R i v W')
  (j6:∀ x∈bx,∀ v W,R x.iv v W->∃ cs,v=.agg cs/\X cs)
  (f6:∀ x∈bx,∀(b:Act) (W:World) (K:Act->World->Prop),(R x.al (.pointer (some ⟨W.heap.size,0,none⟩)) (W.alloc (.cells Z ty))->K (b.put (some x.da) (.pointer (some ⟨W.heap.size,0,none⟩))) (W.alloc (.cells Z ty)))->wpOp P ops Q x.al K b W)
  (f4:∀ x∈bx,∀ v W,R x.al v W)
  (j0:∀ i o,ops[i]?=some o->(∀ x∈bx,x.al≠i/\x.st≠i)->∀(b:Act) (W:World),Ext w.drew W->(∀ s,(∀ k,Qn ops k≠some s)->b.tmps.getD s undef=a.tmps.getD s undef) ->
   (∀ e∈o.after,Region.binds .any e=true->∀ d,Qn ops e.on=some d->R e.on (b.tmps.getD d undef) W)->∃ d,o.dst=some d/\∀ K:Act->World->Prop,(∀ v W',Ext W W'->R i v W'->K (b.put (some d) v) W')->wpOp P ops Q i K b W)
  (g7:∀(vs:Nat->Value) (W:World),Ext w.drew W->(∀ i d,Qn ops i=some d->R i (vs i) W)->(∀ x∈bx,∃ g cs,vs x.al=.pointer (some ⟨g,0,none⟩)/\w.heap.size<=g/\W.heap[g]?=some (.cells cs ty (0,0))/\vs x.iv=.agg cs/\∀ y∈bx,vs y.al=vs x.al->y.al=x.al) ->
   Q .normal { tmps:=Yw ops vs (List.range ops.size) a.tmps,defers:=a.defers } W):(Code.region k0 ops true).wp P Q a w:=by
 have b5:∀ k d,Qn ops k=some d->k<ops.size:=fun k d hk=>by
  unfold Qn at hk;cases I:ops[k]? with
  | none=>rw [I] at hk;cases hk
  | some o=>exact(Array.getElem?_eq_some_iff.1 I).1
 have c8:∀ k,(Array.replicate ops.size false).getD k false=false:=fun k=>by
  rw [Array.getD_eq_getD_getElem?,Array.getElem?_replicate];split <;> rfl
 refine Gu (Np w.heap.size ty X bx ops R a w.drew) i6 g9 ?_ ?_ ?_
 ·refine⟨fun k o I hk=>?_,Q1.refl _ _,rfl,rfl,fun _ _=>rfl,fun i d _ hk=>?_,fun x _ hk=>?_⟩
  ·rw [c8] at hk;cases hk
  ·rw [c8] at hk;cases hk
  ·rw [c8] at hk;cases hk
 ·rintro q b W j3 ⟨b3,O,a4,L,a0,S,N⟩ i d6;have c0:=b3.step d6;obtain⟨e2,o,I,c1⟩:=mem_ready.1 d6;have k2:=(Array.getElem?_eq_some_iff.1 I).1;have a7:q.getD i false=false:=by
   rw [Array.getD_eq_getD_getElem?,Array.getElem?_eq_getElem oz] at e2 ⊢;exact e2
  have k3:(q.setIfInBounds i true).getD i false=true:=by
   rw [Array.getD_eq_getD_getElem?,Array.getElem?_setIfInBounds,if_pos rfl,if_pos oz];rfl
  have k4:∀ k,q.getD k false=true->(q.setIfInBounds i true).getD k false=true:=fun k hk=>getD_set_true hk;have b9:∀ d,Qn ops i=some d->d<b.tmps.size:=fun d hd=>by rw [L];exact c6 i d hd
  by_cases V:∀ x∈bx,x.al≠i/\x.st≠i
  ·
   obtain⟨d,i9,i1⟩:=j0 i o I V b W O a0 (fun e he hbi d hd=>S e.on d hd (c1 e he hbi));have U:Qn ops i=some d:=by unfold Qn;rw [I];exact i9
   refine i1 _ fun v W' H hRv=>⟨c0,O.trans H,a4,by unfold Act.put;simpa using L,fun s p=>?_,fun k e hk hl=>?_,fun x l hl=>?_⟩
   ·rw [Y7 (fun f=>p i (by rw [U,f]))];exact a0 s p
   ·rcases Zw hl with rfl | r
    ·rw [U] at hk;cases hk;rw [Hs (b9 d U)];exact hRv
    ·have a6:e≠d:=fun f=>by
      have n:=Zs C hk (by rw [U,f]);rw [n,a7] at r;cases r
     rw [Y7 a6];exact c7 _ _ _ _ (S k e hk r) (H.mono fun _ _ h=>h.elim)
   ·obtain⟨t,a9,b0,⟨a8,u,_,_,_,⟨b7,c2,c3,c4⟩⟩,d1⟩:=Qq m l;have c5:q.getD x.al false=true:=(Zw hl).resolve_left (V x l).1;obtain⟨g,cs,F,G,B,M,a2,J⟩:=N x l c5;have f9:x.da≠d:=fun f=>(V x l).1 (Zs C t (by rw [U,f]));refine⟨g,cs,by rw [Y7 f9];exact F,G,H.heap B (fun h=>h),M,fun p=>?_,fun y hy Y A hg' he=>?_⟩
    ·have b4:q.getD x.st false=true:=(Zw p).resolve_left (V x l).2
     have a5:x.dv≠d:=fun f=>by
      have n:=Zs C a9 (show Qn ops i=some x.dv by rw [U,f]);have d4:=b3 x.st a8 u b4 b7 c2 c3;rw [c4,n,a7] at d4;cases d4
     rw [Y7 a5];exact a2 b4
    ·have i5:q.getD y.al false=true:=(Zw Y).resolve_left (V y hy).1;have T:y.da≠d:=fun f=>(V y hy).1 (Zs C (Qq m hy).1 (by rw [U,f]));rw [Y7 T] at hg';exact J y hy i5 A hg' he
  ·
   have g8:∃ x∈bx,x.al=i\/x.st=i:=by
    apply Classical.byContradiction;intro d7;apply V;intro x l;exact⟨fun e=>d7 ⟨x,l,.inl e⟩,fun e=>d7 ⟨x,l,.inr e⟩⟩
   obtain⟨x,l,j9⟩:=g8;obtain⟨t,a9,b0,⟨a8,u,j1,e0,⟨f1,g1,g3,g5⟩,⟨b7,c2,c3,c4⟩⟩,d1⟩:=Qq m l;rcases j9 with rfl | rfl
   ·
    refine f6 x l b W _ fun hRn=>?_
    have H:Ext W (W.alloc (.cells Z ty)):=(Q1.refl _ W).alloc _;refine⟨c0,O.trans H,a4,by unfold Act.put;simpa using L,fun s p=>?_,fun k e hk hl=>?_,fun y hy hl=>?_⟩
    ·rw [Y7 (fun f=>p x.al (by rw [t,f]))];exact a0 s p
    ·rcases Zw hl with rfl | r
     ·exact f4 x l _ _
     ·have a6:e≠x.da:=fun f=>by
       have n:=Zs C hk (by rw [t,f]);rw [n,a7] at r;cases r
      rw [Y7 a6];exact c7 _ _ _ _ (S k e hk r) (H.mono fun _ _ h=>h.elim)
    ·have i8:∀ y∈bx,q.getD y.st false=true->y.al≠x.al:=fun y hy p f=>by
      obtain⟨_,_,_,⟨e3,b6,_,_,⟨f2,g2,g4,g6⟩,_⟩,_⟩:=Qq m hy;have:=b3 y.st e3 b6 p f2 g2 g4;rw [g6,f,a7] at this;cases this
     have j7:w.heap.size<=W.heap.size:=O.size;by_cases z:y.al=x.al
     ·have T:y.da=x.da:=by
       have n:=(Qq m hy).1;rw [z,t] at n;exact(Option.some.inj n).symm
      refine⟨W.heap.size,Z,by rw [T];exact Hs (b9 _ t),j7,Q9 rfl,f5 (fun f=>by rw [f] at l;cases l),fun p=>?_,fun y2 hy2 r A hg' he=>?_⟩
      ·rcases Zw p with f | f
       ·exact absurd f (fun f=>(d1 y hy).1 f.symm)
       ·exact absurd z (i8 y hy f)
      ·rw [z];rcases Zw r with f | f
       ·exact f
       ·apply Classical.byContradiction;intro a6;have a3:y2.da≠x.da:=fun q2=>a6 (Zs C (Qq m hy2).1 (by rw [t,q2]));rw [Y7 a3] at hg';obtain⟨G,E,b1,_,e6,_⟩:=N y2 hy2 f;rw [b1] at hg';simp only [Value.pointer.injEq,Option.some.injEq,Addr.mk.injEq] at hg';have:=(Array.getElem?_eq_some_iff.1 e6).1;omega
     ·have Y:q.getD y.al false=true:=(Zw hl).resolve_left z;obtain⟨g,cs,F,G,B,M,a2,J⟩:=N y hy Y;have T:y.da≠x.da:=fun f=>z (Zs C (Qq m hy).1 (by rw [t,f]));refine⟨g,cs,by rw [Y7 T];exact F,G,H.heap B (fun h=>h),M,fun p=>?_,fun y2 hy2 r A hg' he=>?_⟩
      ·have b4:q.getD y.st false=true:=(Zw p).resolve_left (fun f=>(d1 y hy).1 f.symm)
       have a5:y.dv≠x.da:=fun f=>by
        have n:=Zs C (Qq m hy).2.1 (show Qn ops x.al=some y.dv by rw [t,f]);exact((Qq m hy).2.2.2.2 x l).2.2.1 n
       rw [Y7 a5];exact a2 b4
      ·rcases Zw r with f | f
       ·have a3:y2.da=x.da:=by
         have n:=(Qq m hy2).1;rw [f,t] at n;exact(Option.some.inj n).symm
        rw [a3,Hs (b9 _ t)] at hg';simp only [Value.pointer.injEq,Option.some.injEq,Addr.mk.injEq] at hg';have:=(Array.getElem?_eq_some_iff.1 B).1;omega
       ·have a3:y2.da≠x.da:=fun q2=>by
         have:=Zs C (Qq m hy2).1 (show Qn ops x.al=some y2.da by rw [t,q2]);rw [this,a7] at f;cases f
        rw [Y7 a3] at hg';exact J y2 hy2 f A hg' he
   ·
    have c5:q.getD x.al false=true:=by
     have:=c1 f1 (by rw [I] at u;cases u;exact g1) g3
     rwa [g5] at this
    have i4:q.getD x.iv false=true:=by
     have:=c1 b7 (by rw [I] at u;cases u;exact c2) c3
     rwa [c4] at this
    obtain⟨g,cs,F,G,B,M,_,J⟩:=N x l c5;obtain⟨E,b1,d3⟩:=j6 x l _ _ (S x.iv x.dv a9 i4);have j4:=d5 cs M;have d0:=d5 E d3;have i7:bx≠[]:=fun f=>by rw [f] at l;cases l
    have b8:Q1 (·=g) W (W.setRow g E):=Q1.setRow W g E;have f3:Q1 (Mz w.heap.size ty X W) W (W.setRow g E):=b8.mono fun c _ f=>by subst f;exact⟨G,cs,B,M⟩
    have H:Ext w.drew (W.setRow g E):=O.after b8 (fun c hc2 f=>by
     have k1:c<w.heap.size:=hc2;omega)
    unfold wpOp;rw [u];dsimp only;have j8:Region.wanted a8 (yielded ops b.tmps)=true:=by unfold Region.wanted;rw [j1]
    rw [if_pos j8];left
    have g0:a8.dst=none:=by
     unfold Qn at b0;rw [u] at b0;exact b0
    refine wp_store_row ty (.tmp x.da) (.tmp x.dv) e0 g E F b1 ty cs B (by rw [i2 i7,d0.1]) (by rw [j4.1,d0.1]) d0.2 ?_;rw [g0];refine⟨c0,H,a4,L,a0,fun k e hk hl=>?_,fun y hy hl=>?_⟩
    ·have i3:q.getD k false=true:=(Zw hl).resolve_left (fun f=>by rw [f,b0] at hk;cases hk);exact c7 _ _ _ _ (S k e hk i3) f3
    ·have Y:q.getD y.al false=true:=(Zw hl).resolve_left (fun f=>((Qq m hy).2.2.2.2 x l).1 f);have d8:∀ y2∈bx,(q.setIfInBounds x.st true).getD y2.al false=true->q.getD y2.al false=true:=fun y2 hy2 r=>(Zw r).resolve_left (fun f=>((Qq m hy2).2.2.2.2 x l).1 f);by_cases z:y.al=x.al
     ·have T:y.da=x.da:=by
       have n:=(Qq m hy).1;rw [z,t] at n;exact(Option.some.inj n).symm
      by_cases e1:y.st=x.st
      ·have a5:b.tmps.getD y.dv undef=.agg E:=by
        have n:=(Qq m hy).2.2.2.1;obtain⟨e3,b6,_,c9,_⟩:=n;rw [e1,u] at b6;cases b6;rw [e0] at c9;simp only [Op.store.injEq,Operand.tmp.injEq,true_and] at c9;rw [<-c9.2];exact b1
       exact⟨g,E,by rw [T];exact F,G,setRow_heap _ _ _ _ _ _ B,d3,fun _=>a5,fun y2 hy2 r A hg' he=>by rw [z];exact J y2 hy2 (d8 y2 hy2 r) A hg' he⟩
      ·exact absurd (((Qq m hy).2.2.2.2 x l).2.2.2.2.2 z) e1
     ·obtain⟨A,e4,d2,e5,e7,e8,e9,f0⟩:=N y hy Y;have i0:A≠g:=fun f=>z (J y hy Y A d2 f);exact⟨A,e4,d2,e5,b8.heap e7 i0,e8,fun p=>e9 ((Zw p).resolve_left (fun f=>z (((Qq m hy).2.2.2.2 x l).2.2.2.2.1 f))),fun y2 hy2 r g2' hg2 he=>f0 y2 hy2 (d8 y2 hy2 r) g2' hg2 he⟩
 ·rintro q b W j3 f7 ⟨b3,O,a4,L,a0,S,N⟩
  have b2:∀ k,k<ops.size->q.getD k false=true:=fun k hk=>by
   have:=f7 k hk;rw [Array.getD_eq_getD_getElem?,Array.getElem?_eq_getElem oz] at this ⊢;exact this
  have j2:∀ x∈bx,x.st<ops.size:=fun x l=>by
   obtain⟨_,_,_,⟨a8,u,_⟩,_⟩:=Qq m l;exact(Array.getElem?_eq_some_iff.1 u).1
  have j5:b.tmps=Yw ops (fun i=>match Qn ops i with | some d=>b.tmps.getD d undef | none=>undef) (List.range ops.size) a.tmps:=by
   apply Array.ext_getElem?;intro s;by_cases p:∃ i,Qn ops i=some s
   ·obtain⟨i,D⟩:=p;rw [G6 (i:=i) (List.mem_range.2 (b5 i s D)) D (fun j _ hj=>Zs C hj D) (c6 i s D),D];have a1:s<b.tmps.size:=by rw [L];exact c6 i s D
    dsimp only;rw [Array.getD_eq_getD_getElem?,Array.getElem?_eq_getElem a1];rfl
   ·have d9:∀ i,Qn ops i≠some s:=fun i f=>p ⟨i,f⟩;rw [Ui (fun i _=>d9 i)];have:=a0 s d9;by_cases a1:s<b.tmps.size
    ·rw [Array.getD_eq_getD_getElem?,Array.getD_eq_getD_getElem?,Array.getElem?_eq_getElem a1,Array.getElem?_eq_getElem (by rw [<-L];exact a1)] at this;rw [Array.getElem?_eq_getElem a1,Array.getElem?_eq_getElem (by rw [<-L];exact a1)];exact congrArg some this
    ·rw [Array.getElem?_eq_none oz,Array.getElem?_eq_none oz]
  have f8:b={ tmps:=Yw ops (fun i=>match Qn ops i with | some d=>b.tmps.getD d undef | none=>undef) (List.range ops.size) a.tmps,defers:=a.defers }:=by
   cases b;simp only [Act.mk.injEq];exact⟨j5,a4⟩
  rw [f8];refine g7 _ W O (fun i d D=>?_) (fun x l=>?_)
  ·try dsimp only
   rw [D];exact S i d D (b2 i (b5 i d D))
  ·obtain⟨t,a9,_⟩:=Qq m l;obtain⟨g,cs,F,G,B,M,a2,J⟩:=N x l (b2 _ (b5 _ _ t));refine⟨g,cs,?_,G,B,?_,fun y hy e=>?_⟩
   ·(try dsimp only);rw [t];exact F
   ·(try dsimp only);rw [a9];exact a2 (b2 _ (j2 x l))
   ·(try dsimp only at e)
    rw [t,(Qq m hy).1] at e
    (try dsimp only at e)
    exact J y hy (b2 _ (b5 _ _ (Qq m hy).1)) g (by rw [e];exact F) rfl
theorem Jo{id:Nat}{a:Act}{w:World}(R:Nat->Value->World->Prop)
  (hm:P.follows .mixedOrders=true) (hf:Hh .any ops=true) (h1:D6 ops=true) (hlt:∀ i d,Qn ops i=some d->d<a.tmps.size)
  (hmono:∀ i v W W',R i v W->Ext W W'->R i v W')
  (hop:∀ i o,ops[i]?=some o->∀(b:Act) (W:World),Ext w.drew W->(∀ s,(∀ k,Qn ops k≠some s)->b.tmps.getD s undef=a.tmps.getD s undef) ->
   (∀ e∈o.after,Region.binds .any e=true->∀ d,Qn ops e.on=some d->R e.on (b.tmps.getD d undef) W)->∃ d,o.dst=some d/\∀ K:Act->World->Prop,(∀ v W',Ext W W'->R i v W'->K (b.put (some d) v) W')->wpOp P ops Q i K b W)
  (hend:∀(vs:Nat->Value) (W:World),Ext w.drew W->(∀ i d,Qn ops i=some d->R i (vs i) W)->Q .normal { tmps:=Yw ops vs (List.range ops.size) a.tmps,defers:=a.defers } W):(Code.region id ops true).wp P Q a w:=
 Uj 0 #[] (fun _=>False) [] R hm hf h1 rfl hlt (fun h=>absurd rfl h) (fun h=>absurd rfl h) (fun _ h=>h.elim) (fun i v W W' h ht=>hmono i v W W' h (ht.mono fun _ _ ⟨_,_,_,q⟩=>q))
  (fun _ h=>by cases h) (fun _ h=>by cases h) (fun _ h=>by cases h) (fun i o ho _=>hop i o ho) (fun vs W h1 h2 _=>hend vs W h1 h2)
end
end Go.Ab
namespace Go.Ab
open Go.RowKit
theorem take_zero{ws:Wd}(b:Nat):(ws.drop 0).take (b - 0)=ws.take b:=by simp
section
variable {P:Program} {t:TypeId} {size:Nat}
theorem Mr{A:Option Addr}{n c:Nat}(d:P.underlying t=some (.slice (P.elem t))) (b:∀ D,(sizeOf (P.elem t)).run P D=.ok size D) (a:Nat) (e:a<=n) (D:World) :
  (Instr.slice t (.slice A n c) (some (.int .i64 (a:Int))) none none).run P D=.ok (sliced A a n c size) D:=by
 rw [run_slice_l D t A n c d .i64 (a:Int) oz oz,b];rfl
end
end Go.Ab
