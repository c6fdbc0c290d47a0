/- A region that draws its order, in which a cell that is loaded is stored into -/
import Derived.Test.YtbmbdoanammlgaaDoorP00
namespace Go.Ab
open Go.RowKit
section
variable {P:Program} {ops:Array Oper} {Q:Exit->Act->World->Prop} {md:Region.Mode} {S:World->Prop} {Lt:List Nat}
def Ja(md:Region.Mode)(ops:Array Oper)(listed:Array Bool):Prop:=
 ∀ k o,ops[k]?=some o->listed.getD k false=true->∀ e∈o.after,Region.binds md e=true->listed.getD e.on false=true
def Kg(md:Region.Mode)(ops:Array Oper)(i:Nat):Nat->Nat->Bool
 | 0,_=>false
 | f+1,k=>match ops[k]? with
  | some o=>o.after.toList.any fun e=>Region.binds md e && (e.on == i || Kg md ops i f e.on)
  | none=>false
theorem Gt{listed:Array Bool}{i:Nat}(hc:Ja md ops listed)(hi:listed.getD i false=false):∀(f k:Nat),Kg md ops i f k=true->listed.getD k false=false/\¬ k∈Region.ready md ops listed
 | 0,_,h=>by cases h
 | f+1,k,h=>by
  unfold Kg at h;cases ho:ops[k]? with
  | none=>rw [ho] at h;cases h
  | some o=>
   rw [ho] at h;obtain⟨e,he,hb⟩:=List.any_eq_true.1 h;rw [Bool.and_eq_true,Bool.or_eq_true,beq_iff_eq] at hb;have he':e∈o.after:=by simpa using he
   have hon:listed.getD e.on false=false:=by
    rcases hb.2 with h1 | h1
    ·rw [h1];exact hi
    ·exact(Gt hc hi f e.on h1).1
   constructor
   ·cases hk:listed.getD k false with
    | false=>rfl
    | true=>rw [hc k o ho hk e he' hb.1] at hon;cases hon
   ·intro hr;obtain⟨_,o',ho',hall⟩:=mem_ready.1 hr;rw [ho] at ho';cases ho';rw [hall e he' hb.1] at hon;cases hon
theorem Ja.step{a:Array Bool}{j:Nat}(m:Ja md ops a)(n:j∈Region.ready md ops a):Ja md ops (a.setIfInBounds j true):=by
 intro k o g e b d c;refine getD_set_true ?_;by_cases f:k=j
 ·subst f;obtain⟨_,p,i,l⟩:=mem_ready.1 n;rw [g] at i;cases i;exact l b d c
 ·rw [getD_set_ne false (Ne.symm f)] at e;exact m k o g e b d c
def Qb(P:Program)(md:Region.Mode)(ops:Array Oper)(Q:Exit->Act->World->Prop)(S:World->Prop)(Lt:List Nat):Nat->Array Bool->Act->World->Prop
 | 0,listed,a,w=>Region.ready md ops listed=[]/\Q .normal a w
 | fuel+1,listed,a,w=>
  (Region.ready md ops listed=[]->Q .normal a w) /\
  ∀ i∈Region.ready md ops listed,wpOp P ops Q i (fun a' w'=>(Lt.contains i=false->S w')/\Qb P md ops Q S Lt fuel (listed.setIfInBounds i true) a' w') a w
theorem Uk:∀(fuel:Nat) (listed:Array Bool) (a:Act) (w:World),Qb P md ops Q S Lt fuel listed a w->wpAny P md ops Q fuel listed a w
 | 0,_,_,_,h=>h
 | fuel+1,_,_,_,h=>⟨h.1,fun i hi=>wpOp_mono (fun a' w' h'=>Uk fuel _ a' w' h'.2) (h.2 i hi)⟩
theorem Hb{i:Nat}{g:Oper}{v:Value}(r:ops[i]?=some g)(B:∀(j:Nat) (o:Oper) cs b,ops[j]?=some o->o.op≠.select cs b)
  (D:∀ c a w,Q (.panic c) (a.put g.dst v) w->Q (.panic c) a w) (H:∀ j,Lt.contains j=true->Kg md ops i ops.size j=true) :
  ∀(fuel:Nat) (listed:Array Bool) (a:Act) (w:World),Ja md ops listed ->
   (∀ j oj,ops[j]?=some oj->j≠i->listed.getD j true=false->(∀ e∈oj.after,Region.binds md e=true->e.on≠i)->g.apart ops oj=true) ->
   i∈Region.ready md ops listed->YieldsIf P ops S g v a->S w ->
   Qb P md ops Q S Lt fuel (listed.setIfInBounds i true) (a.put g.dst v) w->Qb P md ops Q S Lt (fuel+1) listed a w:=by
 intro fuel
 induction fuel with
 | zero=>
  intro listed a w _ _ f p m l;refine⟨fun h=>(by rw [h] at f;cases f),fun j hj=>?_⟩;by_cases d:j=i
  ·subst d;exact p.wpOp r m ⟨fun _=>m,l⟩
  ·have:=ready_mono hj d;rw [l.1] at this;cases this
 | succ fuel ih=>
  intro listed a w u x f p m l;refine⟨fun h=>(by rw [h] at f;cases f),fun j hj=>?_⟩;by_cases d:j=i
  ·subst d;exact p.wpOp r m ⟨fun _=>m,l⟩
  ·have n:=l.2 j (ready_mono hj d);have y:listed.getD i false=false:=by
    have t:=(mem_ready.1 f).1;rcases Nat.lt_or_ge i listed.size with q | q
    ·simp [q] at t ⊢;exact t
    ·simp [Array.getElem?_eq_none q]
   have F:Lt.contains j=false:=by
    cases hl:Lt.contains j with
    | false=>rfl
    | true=>exact absurd hj (Gt u y _ _ (H j hl)).2
   obtain⟨A,oj,s,E⟩:=mem_ready.1 hj
   have I:∀ e∈oj.after,Region.binds md e=true->e.on≠i:=fun e he hb heq=>by
    have n:=E e he hb;rw [heq,y] at n;cases n
   have C:=wpOp_putIf s (x j oj s d A I) (fun cs b=>B i g cs b r) (fun cs b=>B j oj cs b s) D p n
   have G:∀ k ok,ops[k]?=some ok->k≠i->(listed.setIfInBounds j true).getD k true=false ->
     (∀ e∈ok.after,Region.binds md e=true->e.on≠i)->g.apart ops ok=true:=fun k ok hk hki hun hno=>by
    refine x k ok hk hki ?_ hno;by_cases z:j=k
    ·subst z;exact A
    ·rw [getD_set_ne true z] at hun;exact hun
   refine wpOp_mono (fun a' w' h3=>⟨h3.2.1,ih (listed.setIfInBounds j true) a' w' (u.step hj) G (ready_mono f (Ne.symm d)) h3.1 (h3.2.1 F) ?_⟩) C;rw [Array.setIfInBounds_comm _ _ d];exact h3.2.2
def Wv(md:Region.Mode)(ops:Array Oper)(listed:Array Bool):Bool:=
 (List.range ops.size).all fun k=>!listed.getD k false || match ops[k]? with
  | some o=>o.after.toList.all fun e=>!Region.binds md e || listed.getD e.on false
  | none=>true
theorem Hm{d:Array Bool}(h:Wv md ops d=true):Ja md ops d:=by
 intro j k c i e g f;have a:=List.all_eq_true.1 h j (List.mem_range.2 (Array.getElem?_eq_some_iff.1 c).1);rw [i,c] at a;simp only [Bool.not_true,Bool.false_or] at a;have b:=List.all_eq_true.1 a e (by simpa using g);rw [f] at b
 simpa using b
theorem Q5{i:Nat}{oi:Oper}{v:Value}{fuel:Nat}{listed:Array Bool}{a:Act}{w:World}(hi:ops[i]?=some oi)
  (hs:Region.noSelect ops=true) (hf:Region.free md ops listed i=true) (hr:(Region.ready md ops listed).contains i=true) (hc:Wv md ops listed=true) (hl:(Lt.all fun j=>Kg md ops i ops.size j)=true)
  (hQ:∀ c a w,Q (.panic c) (a.put oi.dst v) w->Q (.panic c) a w) (hy:YieldsIf P ops S oi v a) (hS:S w)
  (h:Qb P md ops Q S Lt fuel (listed.setIfInBounds i true) (a.put oi.dst v) w):Qb P md ops Q S Lt (fuel+1) listed a w:=
 Hb hi (Region.noSelect_spec hs) hQ (fun j hj=>List.all_eq_true.1 hl j (by simpa using hj)) fuel listed a w (Hm hc) (Region.free_spec hi hf) (by simpa using hr) hy hS h
def Za(P:Program)(md:Region.Mode)(ops:Array Oper)(Q:Exit->Act->World->Prop)(S:World->Prop)(Lt:List Nat)(fuel:Nat)(listed:Array Bool)(a:Act)(w:World)(rs:List Nat):Prop:=
 ∀ i∈rs,wpOp P ops Q i (fun a' w'=>(Lt.contains i=false->S w')/\Qb P md ops Q S Lt fuel (listed.setIfInBounds i true) a' w') a w
theorem Za.nil{fuel:Nat}{listed:Array Bool}{a:Act}{w:World}:Za P md ops Q S Lt fuel listed a w []:=fun _ h=>by cases h
theorem Za.cons{fuel:Nat}{listed:Array Bool}{a:Act}{w:World}{i:Nat}{o:Oper}{rs:List Nat}(ho:ops[i]?=some o)
  (h:∀ K':Act->World->Prop,Go.Shut (∀ a w,S w->(S w->Qb P md ops Q S Lt fuel (listed.setIfInBounds i true) a w)->K' a w)->if Region.wanted o (yielded ops a.tmps)=true then Oper.wp P o a w K' Q else K' (a.put o.dst undef) w)
  (hs:Za P md ops Q S Lt fuel listed a w rs):Za P md ops Q S Lt fuel listed a w (i::rs):=fun j hj=>by
 rcases List.mem_cons.1 hj with rfl | hj
 ·exact wpOp_step ho (fun K' hK=>h K' (fun a w hS hW=>hK a w ⟨fun _=>hS,hW hS⟩))
 ·exact hs j hj
theorem Xk{rs:List Nat}{fuel:Nat}{listed:Array Bool}{a:Act}{w:World}(hr:Region.ready md ops listed=rs)(hne:rs≠[])
  (h:Za P md ops Q S Lt fuel listed a w rs):Qb P md ops Q S Lt (fuel+1) listed a w:=⟨fun h0=>absurd (hr ▸ h0) hne,hr ▸ h⟩
theorem Vq{listed:Array Bool}{a:Act}{w:World}(hr:Region.ready md ops listed=[])(h:Q .normal a w) :
  ∀ fuel,Qb P md ops Q S Lt fuel listed a w
 | 0=>⟨hr,h⟩
 | _+1=>⟨fun _=>h,by rw [hr];simp⟩
theorem Jw{id:Nat}{a:Act}{w:World}(Lt:List Nat)(hm:P.follows .mixedOrders=true)(hS:S w.drew)
  (h:S w.drew->Qb P .any ops Q S Lt ops.size (Array.replicate ops.size false) a w.drew):(Code.region id ops true).wp P Q a w:=
 wp_region_any hm (Uk _ _ _ _ (h hS))
end
end Go.Ab
namespace Go.Ab
open Go.RowKit
section
variable {P:Program} {ops:Array Oper} {Q:Exit->Act->World->Prop} {md:Region.Mode}
def X1(listed:Array Bool):Nat->Nat
 | 0=>0
 | n+1=>X1 listed n+if listed.getD n true=true then 0 else 1
theorem Gc{listed:Array Bool}:∀ {n:Nat},X1 listed n=0->∀ j,j<n->listed.getD j true=true
 | 0,_,j,hj=>absurd hj (Nat.not_lt_zero _)
 | n+1,h,j,hj=>by
  unfold X1 at h;by_cases e:j=n
  ·subst e;apply Classical.byContradiction;intro h1;rw [if_neg h1] at h;omega
  ·exact Gc (n:=n) oz j oz
theorem Gs{listed:Array Bool}{i:Nat}:∀ {n:Nat},n<=i->X1 (listed.setIfInBounds i true) n=X1 listed n
 | 0,_=>rfl
 | n+1,h=>by
  unfold X1;rw [Gs (n:=n) oz,getD_set_ne true oz]
theorem H6{a:Array Bool}{i:Nat}(b:a.getD i true=false):∀ {n:Nat},i<n->X1 (a.setIfInBounds i true) n+1=X1 a n
 | 0,h=>absurd h (Nat.not_lt_zero _)
 | n+1,h=>by
  unfold X1;by_cases e:i=n
  ·subst e;have h1:(a.setIfInBounds i true).getD i true=true:=by
    rw [Array.getD_eq_getD_getElem?,Array.getElem?_setIfInBounds]
    split
    ·split <;> rfl
    ·contradiction
   rw [Gs (Nat.le_refl _),h1,if_pos rfl,if_neg (by rw [b];decide)]
  ·have:=H6 b (n:=n) oz;rw [getD_set_ne true e];omega
def Hh(md:Region.Mode)(ops:Array Oper):Bool:=(List.range ops.size).all fun k=>match ops[k]? with
 | some o=>o.after.toList.all fun e=>!Region.binds md e || decide (e.on<k)
 | none=>true
theorem D7(i:Hh md ops=true){a:Array Bool}(l:a.size=ops.size)(j:Region.ready md ops a=[]):∀ k,k<ops.size->a.getD k true=true:=by
 intro k
 induction k using Nat.strongRecOn with
 | _ k ih=>
  intro b;cases h:a.getD k true with
  | true=>rfl
  | false=>
   have:k∈Region.ready md ops a:=by
    refine mem_ready.2 ⟨h,ops[k],Array.getElem?_eq_getElem b,fun e he hb=>?_⟩;have c:=List.all_eq_true.1 i k (List.mem_range.2 b);rw [Array.getElem?_eq_getElem b] at c;have d:=List.all_eq_true.1 c e (by simpa using he);rw [hb] at d;have g:e.on<k:=by simpa using d
    have f:=ih e.on g oz;rw [Array.getD_eq_getD_getElem?,Array.getElem?_eq_getElem oz] at f ⊢;exact f
   rw [j] at this;cases this
theorem Ge(I:Array Bool->Act->World->Prop)(hf:Hh md ops=true)
  (hstep:∀(listed:Array Bool) (a:Act) (w:World),listed.size=ops.size->I listed a w->∀ i∈Region.ready md ops listed,wpOp P ops Q i (fun a' w'=>I (listed.setIfInBounds i true) a' w') a w)
  (hend:∀(listed:Array Bool) (a:Act) (w:World),listed.size=ops.size->(∀ k,k<ops.size->listed.getD k true=true)->I listed a w->Q .normal a w) :
  ∀(fuel:Nat) (listed:Array Bool) (a:Act) (w:World),listed.size=ops.size->X1 listed ops.size<=fuel->I listed a w->wpAny P md ops Q fuel listed a w
 | 0,listed,a,w,hs,hl,hI=>by
  have hall:=Gc (show X1 listed ops.size=0 by omega);have hr:Region.ready md ops listed=[]:=by
   apply List.eq_nil_iff_forall_not_mem.2;intro j hj;obtain⟨h1,o,h2,_⟩:=mem_ready.1 hj;rw [hall j (Array.getElem?_eq_some_iff.1 h2).1] at h1;cases h1
  exact⟨hr,hend listed a w hs hall hI⟩
 | fuel+1,listed,a,w,hs,hl,hI=>by
  refine⟨fun hr=>hend listed a w hs (D7 hf hs hr) hI,fun i hi=>?_⟩;have hi0:=mem_ready.1 hi;obtain⟨h1,o,h2,_⟩:=hi0;have hil:=(Array.getElem?_eq_some_iff.1 h2).1;have hl2:=H6 h1 hil;exact wpOp_mono (fun a' w' hI'=>Ge I hf hstep hend fuel _ a' w' (by simpa using hs) oz hI') (hstep listed a w hs hI i hi)
theorem Le(n:Nat)(k:Nat):X1 (Array.replicate n false) k<=k:=by
 induction k with
 | zero=>exact Nat.le_refl _
 | succ k ih=>unfold X1;split <;> omega
theorem Gu{id:Nat}{a:Act}{w:World}(I:Array Bool->Act->World->Prop)(hm:P.follows .mixedOrders=true)(hf:Hh .any ops=true)
  (h0:I (Array.replicate ops.size false) a w.drew)
  (hstep:∀(listed:Array Bool) (a:Act) (w:World),listed.size=ops.size->I listed a w->∀ i∈Region.ready .any ops listed,wpOp P ops Q i (fun a' w'=>I (listed.setIfInBounds i true) a' w') a w)
  (hend:∀(listed:Array Bool) (a:Act) (w:World),listed.size=ops.size->(∀ k,k<ops.size->listed.getD k true=true)->I listed a w->Q .normal a w):(Code.region id ops true).wp P Q a w:=
 wp_region_any hm (Ge I hf hstep hend _ _ _ _ zy (Le _ _) h0)
end
end Go.Ab
