/- PLAIN: sets of numbers below 64 as the bits of a number; the bits of a number in increasing order. Short names for steps that recur. What a call turns ('Turn'); a range over a function whose iterator keeps a state of its own in cells; the marks among the deferred calls. No program is named. math/bits.TrailingZeros64. A region in a round's frame, by the plain walk of its operations. No program is named. PLAIN: patterns, their errors, their sizes. -/
import Derived.Lib.TrailingZeros
import Derived.WalkKit
import Derived.Deep.RegionHeld
import Derived.Lib.Hide
import Derived.RangeFuncNested
import Derived.RangeFuncLeaves
import Derived.RangeFuncCalls
import Derived.OwnWalkIn
import Derived.TacticsInMore
import Derived.LoopNIn
import Derived.LoopIn
import Derived.Deep.QuietTactic
import Derived.BigQuiet
import Derived.Test.YtfdlhlghcbeblaaGreatDoorProg
import Derived.WalkLawsBesides
import Derived.Handy
import Derived.Shelf.Spec.TrailingZeros
import Derived.StillTailTactics
import Derived.OrdersIn
import Derived.Deep.DeepCutAuto
import Derived.Deep.RegionHeld3
import Derived.BigRegion
namespace Go.Ab
def mask:Nat->(Nat->Bool)->Nat
 | 0,_=>0
 | n+1,p=>mask n p+if p n then 2 ^ n else 0
theorem mask_lt(n:Nat)(p:Nat->Bool):mask n p<2 ^ n:=by
 induction n with
 | zero=>simp [mask]
 | succ n ih=>
  unfold mask
  rw [Nat.pow_succ]
  split <;> omega
theorem testBit_mask(n:Nat)(p:Nat->Bool)(i:Nat):(mask n p).testBit i=(decide (i<n) && p i):=by
 induction n with
 | zero=>simp [mask]
 | succ n ih=>
  unfold mask
  have hlt:=mask_lt n p
  by_cases hp:p n=true
  ·rw [if_pos hp,Nat.add_comm]
   rw [show 2 ^ n+mask n p=2 ^ n*1+mask n p by omega]
   rw [Nat.testBit_two_pow_mul_add _ hlt]
   split
   ·rename_i h;rw [ih];simp [h,Nat.lt_succ_of_lt h]
   ·rename_i h
    by_cases e:i=n
    ·subst e;simp [hp]
    ·obtain⟨d,hd⟩:∃ d,i - n=d+1:=⟨i - n - 1,by omega⟩
     rw [hd,Nat.testBit_succ]
     simp;omega
  ·rw [if_neg hp,Nat.add_zero,ih]
   by_cases e:i=n
   ·subst e;simp at hp;simp [hp]
   ·have:(i<n+1)↔(i<n):=by omega
    simp [this]
theorem eq_mask{n v:Nat}{p:Nat->Bool}(hv:v<2 ^ n)(h:∀ i,i<n->v.testBit i=p i):v=mask n p:=by
 apply Nat.eq_of_testBit_eq
 intro i
 rw [testBit_mask]
 by_cases hi:i<n
 ·simp [hi,h i hi]
 ·rw [Nat.testBit_lt_two_pow (Nat.lt_of_lt_of_le hv (Nat.pow_le_pow_right (by decide) (by omega)))]
  simp [hi]
theorem mask_congr{n:Nat}{p q:Nat->Bool}(h:∀ i,i<n->p i=q i):mask n p=mask n q:=
 eq_mask (mask_lt n p) fun i hi=>by rw [testBit_mask];simp [hi,h i hi]
theorem mask_or(n:Nat)(p q:Nat->Bool):mask n p ||| mask n q=mask n (fun i=>p i || q i):=
 eq_mask (Nat.or_lt_two_pow (mask_lt n p) (mask_lt n q)) fun i hi=>by
  rw [Nat.testBit_or,testBit_mask,testBit_mask];simp [hi]
theorem two_pow_mask{n x:Nat}(hx:x<n):2 ^ x=mask n (fun i=>i == x):=
 eq_mask (Nat.pow_lt_pow_right (by decide) hx) fun i _=>by
  rw [Nat.testBit_two_pow]
  by_cases h:x=i
  ·subst h;simp
  ·have:(i == x)=false:=by simp;omega
   simp [h,this]
theorem mask_zero(n:Nat):mask n (fun _=>false)=0:=by
 induction n with
 | zero=>rfl
 | succ n ih=>simp [mask,ih]
def evs(v:Nat):List Nat:=(List.range 64).filter v.testBit
theorem evs_zero:evs 0=[]:=by simp [evs]
theorem mem_evs{v i:Nat}:i∈evs v↔i<64/\v.testBit i=true:=by simp [evs]
theorem evs_mask(n:Nat)(hn:n<=64)(p:Nat->Bool):evs (mask n p)=(List.range n).filter p:=by
 unfold evs
 have e:(64:Nat)=n+(64 - n):=by omega
 rw [e,List.range_add,List.filter_append]
 have h1:(List.range n).filter (mask n p).testBit=(List.range n).filter p:=by
  apply List.filter_congr
  intro i hi
  rw [testBit_mask];simp at hi;simp [hi]
 have h2:(List.map (n+·) (List.range (64 - n))).filter (mask n p).testBit=[]:=by
  rw [List.filter_eq_nil_iff]
  intro i hi
  simp only [List.mem_map,List.mem_range] at hi
  obtain⟨j,_,rfl⟩:=hi
  rw [testBit_mask];simp;omega
 rw [h1,h2,List.append_nil]
theorem ctz_form(v:Nat)(h0:v≠0)(h:v<2 ^ 64):∃ m,v=2 ^ Lib.ctz 64 v*(2*m+1)/\Lib.ctz 64 v<64:=by
 obtain⟨m,hm,hk⟩:=Lib.ctzFrom_spec 64 v (by omega) h
 have e:Lib.ctz 64 v=Lib.ctzFrom 64 v:=by simp [Lib.ctz,h0]
 rw [e]
 exact⟨m,hm,hk⟩
theorem and_pred(k m:Nat):2 ^ k*(2*m+1) &&& (2 ^ k*(2*m+1) - 1)=2 ^ (k+1)*m:=by
 have hp:0<2 ^ k:=Nat.two_pow_pos k
 have e1:2 ^ k*(2*m+1) - 1=2 ^ k*(2*m)+(2 ^ k - 1):=by
  rw [Nat.mul_add,Nat.mul_one];omega
 rw [e1]
 apply Nat.eq_of_testBit_eq
 intro i
 have hl:(2 ^ k - 1)<2 ^ k:=by omega
 rw [Nat.testBit_and,Nat.testBit_two_pow_mul_add _ hl,Nat.testBit_two_pow_mul,Nat.testBit_two_pow_mul]
 by_cases hik:i<k
 ·have a1:¬ i>=k:=by omega
  have a2:¬ i>=k+1:=by omega
  simp [a1,a2]
 ·rw [if_neg hik]
  by_cases e:i=k
  ·subst e;simp [Nat.testBit_zero];omega
  ·obtain⟨d,rfl⟩:∃ d,i=k+(d+1):=⟨i - k - 1,by omega⟩
   have d1:k+(d+1) - k=d+1:=by omega
   have d2:k+(d+1) - (k+1)=d:=by omega
   rw [d1,d2,Nat.testBit_succ,Nat.testBit_succ]
   have c1:(2*m+1) / 2=m:=by omega
   have c2:2*m / 2=m:=by omega
   rw [c1,c2]
   have g1:k+(d+1)>=k:=by omega
   have g2:k+(d+1)>=k+1:=by omega
   simp [g1,g2]
theorem testBit_form(k m i:Nat):(2 ^ k*(2*m+1)).testBit i=(decide (i=k) || (decide (k<i) && m.testBit (i - (k+1)))):=by
 rw [Nat.testBit_two_pow_mul]
 by_cases hik:i<k
 ·have a1:¬ i>=k:=by omega
  have a2:¬ i=k:=by omega
  have a3:¬ k<i:=by omega
  simp [a1,a2,a3]
 ·by_cases e:i=k
  ·subst e;simp [Nat.testBit_zero]
  ·obtain⟨d,rfl⟩:∃ d,i=k+(d+1):=⟨i - k - 1,by omega⟩
   have d1:k+(d+1) - k=d+1:=by omega
   have d2:k+(d+1) - (k+1)=d:=by omega
   rw [d1,d2,Nat.testBit_succ]
   have c1:(2*m+1) / 2=m:=by omega
   rw [c1]
   have g1:k+(d+1)>=k:=by omega
   have g2:k<k+(d+1):=by omega
   simp [g1,g2]
theorem evs_cons(v:Nat)(h0:v≠0)(h:v<2 ^ 64):evs v=Lib.ctz 64 v::evs (v &&& (v - 1)):=by
 obtain⟨m,hm,hk⟩:=ctz_form v h0 h
 generalize Lib.ctz 64 v=k at hm hk
 have hb:∀ i,v.testBit i=(decide (i=k) || (decide (k<i) && m.testBit (i - (k+1)))):=fun i=>by rw [hm];exact testBit_form k m i
 have hb':∀ i,(v &&& (v - 1)).testBit i=(decide (k<i) && m.testBit (i - (k+1))):=fun i=>by
  rw [hm,and_pred,Nat.testBit_two_pow_mul]
  simp only [ge_iff_le,Nat.succ_le_iff]
 unfold evs
 have e:(64:Nat)=k+(1+(63 - k)):=by omega
 rw [e,List.range_add,List.filter_append,List.filter_append,List.range_add,List.map_append,List.filter_append,List.filter_append]
 have z1:(List.range k).filter v.testBit=[]:=by
  rw [List.filter_eq_nil_iff];intro i hi;simp at hi;rw [hb];simp;omega
 have z2:(List.range k).filter (v &&& (v - 1)).testBit=[]:=by
  rw [List.filter_eq_nil_iff];intro i hi;simp at hi;rw [hb'];simp;omega
 have o1:(List.map (k+·) (List.range 1)).filter v.testBit=[k]:=by
  have:v.testBit k=true:=by rw [hb];simp
  simp [List.range_one,this]
 have o2:(List.map (k+·) (List.range 1)).filter (v &&& (v - 1)).testBit=[]:=by
  have:(v &&& (v - 1)).testBit k=false:=by rw [hb'];simp
  simp [List.range_one,this]
 rw [z1,z2,o1,o2,List.nil_append,List.nil_append,List.nil_append,List.singleton_append]
 congr 1
 apply List.filter_congr
 intro i hi
 simp only [List.mem_map,List.mem_range] at hi
 obtain⟨j,⟨j',_,rfl⟩,rfl⟩:=hi
 rw [hb,hb']
 simp
end Go.Ab
namespace Go.Ab
open Go.RowKit
theorem pq:(∀(l:List Value) (i:Nat) (a:Value),l.toArray.setIfInBounds i a=(l.set i a).toArray)/\(∀(x:Value) (l:List Value) (a:Value),(x::l).set 0 a=a::l)/\(∀(x:Value) (l:List Value) (i:Nat) (a:Value),(x::l).set (i+1) a=x::l.set i a):=
 ⟨fun _ _ _=>List.setIfInBounds_toArray ..,fun _ _ _=>rfl,fun _ _ _ _=>rfl⟩
theorem tkH{P:Program}{md:Region.Mode}{ops:Array Oper}{Q:Exit->Act->World->Prop}{S:World->Prop}{i d:Nat}{oi:Oper}{v:Value}{fuel:Nat}{listed:Array Bool}{a:Act}{w:World}(hi:ops[i]?=some oi)
  (hy:YieldsIf P ops S oi v a) (hS:S w) (h:wpAnyH P md ops Q S fuel (listed.setIfInBounds i true) (a.put (some d) v) w)
  (hs:Region.noSelect ops=true:=by kernel_rfl) (hf:Region.free md ops listed i=true:=by kernel_rfl) (hr:(Region.ready md ops listed).contains i=true:=by kernel_rfl) (hd:oi.dst=some d:=by rfl)
  (hQ:∀ c a w,Q (.panic c) (a.put (some d) v) w->Q (.panic c) a w:=by exact fun _ _ _ h=>h):wpAnyH P md ops Q S (fuel+1) listed a w:=
 wpAnyH_take hi hs hf hr (by rw [hd];exact hQ) hy hS (by rw [hd];exact h)
end Go.Ab
namespace Go.Ab
open Go.RowKit
structure Turn (S:Nat->Prop) (A B:World):Prop where
 os:B.os=A.os
 tape:B.tape=A.tape
 output:B.output=A.output
 size:A.heap.size<=B.heap.size
 block:∀ b,b<A.heap.size->¬ S b->B.heap[b]?=A.heap[b]?
theorem Turn.refl(S:Nat->Prop)(A:World):Turn S A A:=⟨rfl,rfl,rfl,Nat.le_refl _,fun _ _ _=>rfl⟩
theorem Turn.trans{S:Nat->Prop}{A B C:World}(h:Turn S A B)(k:Turn S B C):Turn S A C:=
 ⟨k.os.trans h.os,k.tape.trans h.tape,k.output.trans h.output,Nat.le_trans h.size k.size,
  fun b hb hS=>(k.block b (Nat.lt_of_lt_of_le hb h.size) hS).trans (h.block b hb hS)⟩
theorem Turn.mono{S T:Nat->Prop}{A B:World}(h:Turn S A B)(hst:∀ b,b<A.heap.size->S b->T b):Turn T A B:=
 ⟨h.os,h.tape,h.output,h.size,fun b hb hT=>h.block b hb fun hs=>hT (hst b hb hs)⟩
theorem Turn.heap{S:Nat->Prop}{A B:World}(h:Turn S A B){b:Nat}{o:Obj}(hb:A.heap[b]?=some o)(hS:¬ S b):B.heap[b]?=some o:=
 (h.block b (Array.getElem?_eq_some_iff.1 hb).1 hS).trans hb
theorem Turn.cell{S:Nat->Prop}{A B:World}(h:Turn S A B){p:Addr}(hb:p.block<A.heap.size)(hS:¬ S p.block):B.cell? p=A.cell? p:=
 World.cell?_of_block (w:=A) (h.block p.block hb hS)
theorem Turn.cell_some{S:Nat->Prop}{A B:World}(h:Turn S A B){p:Addr}{v:Value}(hc:A.cell? p=some v)(hS:¬ S p.block):B.cell? p=some v:=by
 have hb:p.block<A.heap.size:=by
  apply Nat.lt_of_not_le;intro hle
  simp [World.cell?,Array.getElem?_eq_none hle] at hc
 rw [h.cell hb hS];exact hc
theorem Turn.frozen{S:Nat->Prop}{A B:World}(h:Turn S A B){p:Addr}(hb:p.block<A.heap.size)(hS:¬ S p.block):B.frozen? p=A.frozen? p:=
 World.frozen?_of_block (w:=A) (h.block p.block hb hS)
theorem Turn.alloc{S:Nat->Prop}{A B:World}(h:Turn S A B)(o:Obj):Turn S A (B.alloc o):=
 h.trans ⟨rfl,rfl,rfl,by simp,fun b hb _=>Below.heap_alloc _ _ _ hb⟩
theorem Turn.drew{S:Nat->Prop}{A B:World}(h:Turn S A B):Turn S A B.drew:=⟨h.os,h.tape,h.output,h.size,h.block⟩
theorem Turn.drewN{S:Nat->Prop}{A B:World}(h:Turn S A B)(n:Nat):Turn S A (B.drewN n):=⟨h.os,h.tape,h.output,h.size,h.block⟩
theorem Turn.setCell{S:Nat->Prop}{A B:World}(h:Turn S A B){p:Addr}(hp:A.heap.size<=p.block\/S p.block)(u:Value):Turn S A (B.setCell p u):=
 ⟨h.os,h.tape,h.output,by simpa [World.setCell] using h.size,fun b hb hS=>by
  rw [Below.heap_setCell _ _ _ _ (by rintro rfl;rcases hp with hp | hp;omega;exact hS hp)]
  exact h.block b hb hS⟩
theorem Turn.set1(A:World)(b o:Nat)(v:Value):Turn (fun x=>x=b) A (A.setCell ⟨b,o,none⟩ v):=(Turn.refl (fun x=>x=b) A).setCell (p:=⟨b,o,none⟩) (.inr rfl) v
theorem Turn.putObj{S:Nat->Prop}{A B:World}(h:Turn S A B){r:Nat}(hp:A.heap.size<=r\/S r)(o:Obj):Turn S A (B.putObj r o):=
 ⟨h.os,h.tape,h.output,by simpa using h.size,fun b hb hS=>by
  rw [World.putObj_heap_other (by rintro rfl;rcases hp with hp | hp;omega;exact hS hp)]
  exact h.block b hb hS⟩
theorem Turn.below{S:Nat->Prop}{A B:World}(h:Turn S A B)(hS:∀ b,b<A.heap.size->¬ S b):Below A.heap.size A B:=
 ⟨h.os,h.tape,h.output,h.size,fun b hb=>h.block b hb (hS b hb)⟩
theorem Turn.grown{S:Nat->Prop}{A B C:World}{row:Option Nat}(h:Turn S A B)(hg:B.grownBy C row)(hr:∀ k,row=some k->A.heap.size<=k\/S k):Turn S A C:=
 ⟨hg.os.trans h.os,hg.tape.trans h.tape,hg.output.trans h.output,Nat.le_trans h.size hg.size,fun b hb hS=>by
  rw [hg.block b (Nat.lt_of_lt_of_le hb h.size) (fun e=>by rcases hr b e.symm with hh | hh;omega;exact hS hh)]
  exact h.block b hb hS⟩
abbrev Ext(A B:World):Prop:=Turn (fun _=>False) A B
theorem Ext.of{S:Nat->Prop}{A B:World}(h:Ext A B):Turn S A B:=h.mono fun _ _ h=>h.elim
theorem Ext.keep{A B:World}(h:Ext A B){b:Nat}{o:Obj}(hb:A.heap[b]?=some o):B.heap[b]?=some o:=Turn.heap h hb (fun h=>h)
theorem Turn.after{S T:Nat->Prop}{w A B:World}(h:Turn S w A)(k:Turn T A B)(hT:∀ b,b<w.heap.size->T b->S b):Turn S w B:=
 ⟨k.os.trans h.os,k.tape.trans h.tape,k.output.trans h.output,Nat.le_trans h.size k.size,
  fun b hb hS=>(k.block b (Nat.lt_of_lt_of_le hb h.size) fun ht=>hS (hT b hb ht)).trans (h.block b hb hS)⟩
theorem ret_bool{a b:Bool}(h:a=b):Ending.returned (.bool a)=.returned (.bool b):=by rw [h]
theorem ret_int{k:IntKind}{a b:Int}(h:a=b):Ending.returned (.int k a)=.returned (.int k b):=by rw [h]
theorem new_at{A:World}{n:Nat}{o:Obj}(h:n=A.heap.size):(A.alloc o).heap[n]?=some o:=by subst h;exact World.alloc_heap_new _ _
theorem new_keep{A:World}{n:Nat}{o o':Obj}(h:A.heap[n]?=some o'):(A.alloc o).heap[n]?=some o':=
 (Below.heap_alloc _ _ _ (Array.getElem?_eq_some_iff.1 h).1).trans h
theorem drew_keep{A:World}{n:Nat}{o:Obj}(h:A.heap[n]?=some o):A.drew.heap[n]?=some o:=h
theorem wide_fn(f:FuncId):Fence.wide.fn f=True:=rfl
theorem wide_depth:Fence.wide.depth=none:=rfl
theorem u64_or_shl(a x:Nat)(ha:a<18446744073709551616)(hx:x<64):bits .or .u64 (a:Int) (IntKind.u64.wrap (2 ^ x))=((a ||| 2 ^ x:Nat):Int):=by
 have h1:2 ^ x<18446744073709551616:=by
  have:=Nat.pow_lt_pow_right (a:=2) (by decide) hx
  simpa using this
 have e:IntKind.u64.wrap (2 ^ x)=((2 ^ x:Nat):Int):=by
  rw [IntKind.wrap_u64]
  have e:((2:Int) ^ x)=((2 ^ x:Nat):Int):=by simp
  rw [e]
  generalize 2 ^ x=p at h1
  omega
 rw [e,u64_or_nat _ _ ha h1]
def Marks(base:Nat):List Deferred->World->Prop
 | [],_=>True
 | d::ds,w=>∃ r,base<=r/\d={ target:=.collected r,args:=#[] }/\w.heap[r]?=some (.deferred (some []))/\(∀ e∈ds,e.target≠.collected r)/\Marks base ds w
theorem Marks.keep{base:Nat}{S:Nat->Prop}:∀ {ds:List Deferred} {A B:World},Marks base ds A->Turn S A B->(∀ b,S b->∀ o,A.heap[b]?=some o->o.isCells=true)->Marks base ds B
 | [],_,_,_,_,_=>trivial
 | d::ds,A,B,⟨r,h1,h2,h3,h4,h5⟩,ht,hS=>
  ⟨r,h1,h2,ht.heap h3 (fun hs=>by have:=hS r hs _ h3;simp [Obj.isCells] at this),h4,h5.keep ht hS⟩
theorem Marks.keep'{base:Nat}{S:Nat->Prop}:∀ {ds:List Deferred} {A B:World},Marks base ds A->Turn S A B->(∀ b,S b->∀ e∈ds,e.target≠.collected b)->Marks base ds B
 | [],_,_,_,_,_=>trivial
 | d::ds,A,B,⟨r,h1,h2,h3,h4,h5⟩,ht,hS=>
  ⟨r,h1,h2,ht.heap h3 (fun hs=>hS r hs d (List.mem_cons_self ..) (by rw [h2])),h4,h5.keep' ht (fun b hb e he=>hS b hb e (List.mem_cons_of_mem _ he))⟩
theorem Marks.lt{base:Nat}:∀ {ds:List Deferred} {A:World},Marks base ds A->∀ e∈ds,∀ r,e.target=.collected r->r<A.heap.size
 | [],_,_,_,he,_,_=>by cases he
 | d::ds,A,⟨r,h1,h2,h3,h4,h5⟩,e,he,q,hq=>by
  rcases List.mem_cons.1 he with rfl | he
  ·rw [h2] at hq;simp at hq;subst hq;exact(Array.getElem?_eq_some_iff.1 h3).1
  ·exact h5.lt e he q hq
theorem Marks.keepC{base N:Nat}{S:Nat->Prop}{ds:List Deferred}{A B:World}(h:Marks base ds A)(hN:∀ e∈ds,∀ r,e.target=.collected r->r<N)(ht:Turn S A B)
  (hS:∀ b,S b->N<=b\/A.heap.size<=b\/∃ o,A.heap[b]?=some o/\o.isCells=true):Marks base ds B:=by
 have aux:∀(ds:List Deferred),(∀ e∈ds,∀ r,e.target=.collected r->r<N)->Marks base ds A->Marks base ds B:=by
  intro ds
  induction ds with
  | nil=>intro _ _;trivial
  | cons d ds ih=>
   rintro hN ⟨r,h1,h2,h3,h4,h5⟩
   refine⟨r,h1,h2,ht.heap h3 (fun hs=>?_),h4,ih (fun e he=>hN e (List.mem_cons_of_mem _ he)) h5⟩
   rcases hS r hs with h | h | ⟨o,ho,hc⟩
   ·have:=hN d (List.mem_cons_self ..) r (by rw [h2]);omega
   ·have:=(Array.getElem?_eq_some_iff.1 h3).1;omega
   ·rw [h3] at ho;cases ho;simp [Obj.isCells] at hc
 exact aux ds hN h
theorem Marks.fresh{base:Nat}{ds:List Deferred}{A:World}{r:Nat}(h:Marks base ds A)(hr:A.heap.size<=r):∀ e∈ds,e.target≠.collected r:=fun e he ht=>by
 have:=h.lt e he r ht;omega
theorem Marks.cons{base:Nat}{ds:List Deferred}{A:World}{r:Nat}(h:Marks base ds A)(hb:base<=r)(hr:A.heap[r]?=some (.deferred (some []))) (hn:∀ e∈ds,e.target≠.collected r) :
  Marks base ({ target:=.collected r,args:=#[] }::ds) A:=⟨r,hb,rfl,hr,hn,h⟩
def Shut(base:Nat)(w:World)(b:Nat):Prop:=base<=b/\∀ o,w.heap[b]?=some o->o.isCells=false
theorem Shut.not{base:Nat}{w:World}{b:Nat}{o:Obj}(hb:w.heap[b]?=some o)(ho:o.isCells=true):¬ Shut base w b:=fun h=>by
 have:=h.2 o hb;rw [ho] at this;cases this
theorem leavesM{P:Program}{fn:Func}{tmps:Array Value}{R:Ending->World->Prop}{v:Value}{base:Nat} :
  ∀(ds:List Deferred) (w:World),Marks base ds w->(∀ w',Turn (Shut base w) w w'->w'.heap.size=w.heap.size->(results fn tmps).run P w'=.ok v w'/\R (.returned v) w') ->
   LeavesInM Fence.wide 0 P fn tmps R ds .returning w
 | [],w,_,h=>by
  obtain⟨h1,h2⟩:=h w (Turn.refl _ _) rfl
  exact⟨v,h1,h2⟩
 | d::ds,w,⟨r,hb,hd,hr,hn,hm⟩,h=>by
  refine⟨by simp,.inl ⟨r,_,by rw [hd],run_takeDeferred hr,?_⟩⟩
  refine leavesM (v:=v) ds _ (hm.keep' (S:=(·=r)) ((Turn.refl (·=r) w).putObj (.inr rfl) _) (fun b e=>by subst e;exact hn)) ?_
  intro w' ht hs
  have hput:Turn (Shut base w) w (w.putObj r (.deferred none)):=(Turn.refl _ w).putObj (.inr ⟨hb,fun o ho=>by rw [hr] at ho;cases ho;rfl⟩) _
  refine h w' (hput.after ht fun b hlt hsh=>?_) (by rw [hs];simp)
  refine⟨hsh.1,fun o ho=>?_⟩
  by_cases hbr:b=r
  ·subst hbr;rw [hr] at ho;cases ho;rfl
  ·exact hsh.2 o (by rw [World.putObj_heap_other hbr];exact ho)
theorem calls_of_wp_marks{P:Program}{f:FuncId}{fn:Func}{c:Code}{args:Array Value}{w:World}{R:Ending->World->Prop}
  (hf:P.funcs[f]?=some fn) (hb:fn.body=some c)
  (h:c.wp P (bodyPostM Fence.wide 0 P fn R) { tmps:=args++Array.replicate (fn.ntmps - args.size) undef,defers:=[] } w):Calls P f args w R:=
 callsIn_wide.1 (callsIn_of_wp_marks (n:=0) hf hb trivial (wpIn_wide.2 h))
theorem bodyPostM_ret{P:Program}{fn:Func}{R:Ending->World->Prop}{a:Act}{w:World}{v:Value}{base:Nat}(hm:Marks base a.defers w)
  (hr:∀ w',(results fn a.tmps).run P w'=.ok v w') (hR:∀ w',Turn (Shut base w) w w'->w'.heap.size=w.heap.size->R (.returned v) w') :
  bodyPostM Fence.wide 0 P fn R .ret a w:=leavesM _ _ hm fun w' ht hs=>⟨hr w',hR w' ht hs⟩
theorem frame_fun{t:Array Value}{n:Nat}(h:t.size=n):∃ u:Nat->Value,t=((List.range n).map u).toArray:=
 ⟨fun i=>t.getD i undef,by
  apply Array.ext
  ·simp [h]
  ·intro i h1 h2
   simp [Array.getD,h1]⟩
def gS(a:Act)(l:List Nat):Nat × List Value:=(a.tmps.size,l.map fun i=>a.tmps.getD i undef)
def frL(u:Nat->Value):List (Nat × Value)->Nat->Nat->List Value
 | _,_,0=>[]
 | [],i,n+1=>u i::frL u [] (i+1) n
 | (j,v)::L,i,n+1=>if j=i then v::frL u L (i+1) n else u i::frL u ((j,v)::L) (i+1) n
theorem fq:(∀ u L i,frL u L i 0=[])/\(∀ u i n,frL u [] i (n+1)=u i::frL u [] (i+1) n)/\(∀ u j v L i n,frL u ((j,v)::L) i (n+1)=if j=i then v::frL u L (i+1) n else u i::frL u ((j,v)::L) (i+1) n)/\(∀(x:Nat) l (y:Value) m,List.zip (x::l) (y::m)=(x,y)::List.zip l m)/\(∀ m:List Value,List.zip ([]:List Nat) m=[]):=
 ⟨fun _ L _=>by cases L <;> rfl,fun _ _ _=>rfl,fun _ _ _ _ _ _=>rfl,fun _ _ _ _=>rfl,fun _=>rfl⟩
theorem frL_eq(u:Nat->Value):∀(n i:Nat) (L:List (Nat × Value)),(∀ p∈L,u p.1=p.2)->frL u L i n=(List.range' i n).map u
 | 0,_,L,_=>by cases L <;> rfl
 | n+1,i,[],_=>by rw [fq.2.1,frL_eq u n _ [] (fun _ h=>by cases h),List.range'_succ,List.map_cons]
 | n+1,i,(j,v)::L,h=>by
  rw [fq.2.2.1,List.range'_succ,List.map_cons]
  split
  ·rename_i hj
   subst hj
   rw [frL_eq u n _ L (fun p hp=>h p (by simp [hp])),h (j,v) (by simp)]
  ·rw [frL_eq u n _ _ h]
theorem fo{t:Array Value}{d:List Deferred}{l:List Nat}{n:Nat}{vs:List Value}(h:gS ⟨t,d⟩ l=(n,vs)):∃ u:Nat->Value,t=(frL u (l.zip vs) 0 n).toArray:=by
 unfold gS at h
 simp only [Prod.mk.injEq] at h
 obtain⟨h1,rfl⟩:=h
 refine⟨fun i=>t.getD i undef,?_⟩
 rw [frL_eq _ n 0 _ (fun p hp=>?_),<-List.range_eq_range']
 ·apply Array.ext
  ·simp [h1]
  ·intro i h2 h3
   simp [Array.getD,h2]
 ·obtain⟨i,hi,rfl⟩:=List.mem_iff_getElem.1 hp
  simp
def Iter{α:Type}(P:Program)(gf:Nat)(lb:Array Value)(encs:α->Array Value)(xs:List α)(S K:Nat->Prop)(w:World):Prop:=
 ∀(l:Nat) (J Jx:List α->World->Prop) (W:World),Turn (fun b=>¬ K b) w W ->
  (∀ pre A B,J pre A->Turn S A B->J pre B)->(∀ pre A B,Jx pre A->Turn S A B->Jx pre B) ->
  (∀ pre x rest A,xs=pre++x::rest->J pre A->YieldAt Fence.wide 0 P l (encs x) A fun e B=>
   (e=.returned (.bool true)/\J (pre++[x]) B/\Turn (fun b=>¬ K b) A B)\/(e=.returned (.bool false)/\Jx (pre++[x]) B)) ->
  J [] W ->
  Calls P gf (#[.func (.yield l) #[] #[]]++lb) W fun e B=>(∃ v,e=.returned v)/\(J xs B\/∃ pre x rest,xs=pre++x::rest/\Jx (pre++[x]) B)
def roundQ{α:Type}(K:Nat->Prop)(I:List α->World->Prop)(Ix:Code->List α->World->Prop)(xs:List α)(W:World):Exit->Act->World->Prop
 | .normal,_,W'=>Turn (fun b=>¬ K b) W W'/\I xs W'
 | .ret,_,W'=>Turn (fun b=>¬ K b) W W'/\Ix .ret xs W'
 | .exit id,_,W'=>Turn (fun b=>¬ K b) W W'/\Ix (.exit id) xs W'
 | .goto t,_,W'=>Turn (fun b=>¬ K b) W W'/\Ix (.goto t) xs W'
 | .panic _,_,_=>False
 | .outgrown,_,_=>False
theorem wp_range{α:Type}{P:Program}{g:Operand}{ps:Array Tmp}{assign body:Code}{Q:Exit->Act->World->Prop}{a:Act}{w:World}
  {gf:Nat} {lb:Array Value} (hg:a.eval g=.func (.func gf) #[] lb) (eg:∀ args w,(callFunc gf args).run P w=.ok (.enter gf args) w)
  {encs:α->Array Value} {xs:List α} {S K:Nat->Prop} (hseq:Iter P gf lb encs xs S K w) (hSK:∀ b,S b->K b) (hK:∀ b,K b->b<w.heap.size) (hps:∀ x,(encs x).size=ps.size)
  (I:List α->World->Prop) (Ix:Code->List α->World->Prop)
  (hI:∀ pre A B,I pre A->Turn (fun b=>S b\/b=w.heap.size+1) A B->I pre B)
  (hIx:∀ c pre A B,Ix c pre A->Turn (fun b=>S b\/b=w.heap.size+1) A B->Ix c pre B)
  (h0:∀ W,Ext w W->W.heap.size=w.heap.size+2->I [] W) (up:α->Array Value->Array Value)
  (hassign:∀(x:α) (W:World) (Kn:Act->World->Prop),Kn { tmps:=up x a.tmps,defers:=[] } W ->
   assign.wpIn (Fence.wide.inRound (w.heap.size+1)) 0 P (Exit.then Kn (fun _ _ _=>False)) { tmps:=(ps.zip (encs x)).foldl (fun t (p,v)=>t.setIfInBounds p v) a.tmps,defers:=[] } W)
  (hbody:∀(pre:List α) (x:α) (rest:List α) (W:World),xs=pre++x::rest->w.heap.size+2<=W.heap.size->Turn (fun b=>¬ K b\/S b) w W->I pre W ->
   body.wpIn (Fence.wide.inRound (w.heap.size+1)) 0 P (roundQ (fun b=>K b\/b=w.heap.size\/b=w.heap.size+1) I Ix (pre++[x]) W) { tmps:=up x a.tmps,defers:=[] } W)
  (hdone:∀ W,I xs W->Turn (fun b=>¬ K b\/S b) w W->W.heap[w.heap.size]?=some (.deferred (some []))->Q .normal { a with defers:={ target:=.collected w.heap.size,args:=#[] }::a.defers } W)
  (hstop:∀ c pre x rest W,xs=pre++x::rest->Ix c (pre++[x]) W->W.heap[w.heap.size]?=some (.deferred (some []))->c.wp P Q { a with defers:={ target:=.collected w.heap.size,args:=#[] }::a.defers } W) :
  (Code.rangeFunc g ps assign body).wp P Q a w:=by
 refine(wpIn_wide (n:=0)).1 (wpIn_rangeFunc ?_)
 intro fn _
 obtain⟨rec,hrec⟩:∃ rec:LoopState->Option Code->Loop,rec=fun st pe=>{ state:=st,pending:=pe,fn,tmps:=a.tmps,params:=ps,assign,body,defers:=w.heap.size }:=⟨_,rfl⟩
 obtain⟨W1,hW1⟩:∃ W1,(w.alloc (.deferred (some []))).alloc (.loop (rec .ready none))=W1:=⟨_,rfl⟩
 have hL1:W1.heap[w.heap.size+1]?=some (.loop (rec .ready none)):=by
  rw [<-hW1];have:=World.alloc_heap_new (w.alloc (.deferred (some []))) (.loop (rec .ready none));rwa [World.size_alloc] at this
 have hD1:W1.heap[w.heap.size]?=some (.deferred (some [])):=by
  rw [<-hW1];exact(Below.heap_alloc _ _ _ (by simp)).trans (World.alloc_heap_new w _)
 have hE1:Ext w W1:=by rw [<-hW1];exact((Turn.refl _ w).alloc _).alloc _
 have hs1:W1.heap.size=w.heap.size+2:=by rw [<-hW1];simp
 have hnl:∀ b,S b->b≠w.heap.size+1/\b≠w.heap.size:=fun b hb=>by have:=hK b (hSK b hb);omega
 refine⟨w.heap.size+1,[{ target:=.collected w.heap.size,args:=#[] }],W1,{ target:=.fn (.func gf) lb,args:=#[.func (.yield (w.heap.size+1)) #[] #[]] },W1,gf,
  #[.func (.yield (w.heap.size+1)) #[] #[]]++lb,W1,?_,?_,fun _ _=>trivial,?_,fun h=>by simp [Fence.wide] at h,?_⟩
 ·rw [<-hW1,hrec];exact run_enterLoop_outer _ _ _ _ _
 ·simp only [resolve,hg]
  simp [go_sem]
 ·simp [invoke,go_sem,eg]
 ·refine callsIn_wide.2 ((hseq (w.heap.size+1)
   (fun pre W=>I pre W/\W.heap[w.heap.size+1]?=some (.loop (rec .ready none))/\W.heap[w.heap.size]?=some (.deferred (some []))/\Turn (fun b=>¬ K b\/S b) w W/\w.heap.size+2<=W.heap.size)
   (fun pre W=>∃ c,Ix c pre W/\W.heap[w.heap.size+1]?=some (.loop (rec .done (some c)))/\W.heap[w.heap.size]?=some (.deferred (some [])))
   W1 hE1.of ?_ ?_ ?_ ⟨h0 _ hE1 hs1,hL1,hD1,hE1.of,by omega⟩).mono ?_)
  ·rintro pre A B ⟨h1,h2,h3,h4,h5⟩ ht
   exact⟨hI _ _ _ h1 (ht.mono fun b _ hb=>.inl hb),ht.heap h2 (fun hb=>(hnl _ hb).1 rfl),ht.heap h3 (fun hb=>(hnl _ hb).2 rfl),h4.after ht (fun b _ hb=>.inr hb),Nat.le_trans h5 ht.size⟩
  ·rintro pre A B ⟨c,h1,h2,h3⟩ ht
   exact⟨c,hIx _ _ _ _ h1 (ht.mono fun b _ hb=>.inl hb),ht.heap h2 (fun hb=>(hnl _ hb).1 rfl),ht.heap h3 (fun hb=>(hnl _ hb).2 rfl)⟩
  ·-- one round
   rintro pre x rest W hx ⟨hi,hl,hd,ht,hsz⟩
   have hlt:w.heap.size+1<W.heap.size:=by omega
   have hy:=run_yield (P:=P) (args:=encs x) hl (by rw [hrec];exact hps x)
   rw [hrec] at hy
   refine⟨fn,_,assign,body,hy,roundIn_of_wpIn trivial (hassign x W _ ?_)⟩
   clear hy
   refine⟨_,run_beginRound hl (by rw [hrec]),?_⟩
   have hl2:(W.putObj (w.heap.size+1) (.loop { rec .ready none with state:=.busy })).heap[w.heap.size+1]?=some (.loop { rec .ready none with state:=.busy }):=World.putObj_heap_same hlt
   have hd2:(W.putObj (w.heap.size+1) (.loop { rec .ready none with state:=.busy })).heap[w.heap.size]?=some (.deferred (some [])):=(World.putObj_heap_other (by omega)).trans hd
   have hput:∀(X:World) o,Turn (fun b=>S b\/b=w.heap.size+1) X (X.putObj (w.heap.size+1) o):=fun X o=>(Turn.refl _ X).putObj (.inr (.inr rfl)) o
   have hputK:∀(X:World) o,Turn (fun b=>¬ K b) X (X.putObj (w.heap.size+1) o):=fun X o=>(Turn.refl _ X).putObj (.inr (fun hk=>by have:=hK _ hk;omega)) o
   refine wpIn_mono (hbody pre x rest _ hx (by simpa using hsz) (ht.after (hputK W _) (fun b _ hb=>.inl hb)) (hI _ _ _ hi (hput W _))) ?_
   have fin:∀(jump:Option Code) (W3:World),Turn (fun b=>¬ (K b\/b=w.heap.size\/b=w.heap.size+1)) (W.putObj (w.heap.size+1) (.loop { rec .ready none with state:=.busy })) W3 ->
     (Instr.endRound (w.heap.size+1) jump).run P W3=.ok (.bool jump.isNone) (W3.putObj (w.heap.size+1) (.loop (rec (if jump.isNone then .ready else .done) jump))) /\
     (W3.putObj (w.heap.size+1) (.loop (rec (if jump.isNone then .ready else .done) jump))).heap[w.heap.size+1]?=some (.loop (rec (if jump.isNone then .ready else .done) jump)) /\
     (W3.putObj (w.heap.size+1) (.loop (rec (if jump.isNone then .ready else .done) jump))).heap[w.heap.size]?=some (.deferred (some [])) /\
     Turn (fun b=>¬ K b) W (W3.putObj (w.heap.size+1) (.loop (rec (if jump.isNone then .ready else .done) jump))):=fun jump W3 hk3=>by
    have hl3:=hk3.heap hl2 (fun h=>h (.inr (.inr rfl)))
    have hd3:=hk3.heap hd2 (fun h=>h (.inr (.inl rfl)))
    have:=run_endRound (P:=P) jump hl3
    rw [hrec] at this ⊢
    refine⟨this,World.putObj_heap_same (Array.getElem?_eq_some_iff.1 hl3).1,(World.putObj_heap_other (by omega)).trans hd3,?_⟩
    exact((hputK W _).trans (hk3.mono fun b _ hb hk=>hb (.inl hk))).trans (hputK W3 _)
   rintro e a3 W3 hp
   cases e with
   | normal=>
    obtain⟨hk3,hi3⟩:=hp
    obtain⟨hr,hl4,hd4,ht4⟩:=fin none W3 hk3
    exact⟨_,_,hr,.inl ⟨rfl,⟨hI _ _ _ hi3 (hput W3 _),hl4,hd4,ht.after ht4 (fun b _ hb=>.inl hb),Nat.le_trans hsz ht4.size⟩,ht4⟩⟩
   | ret=>
    obtain⟨hk3,hi3⟩:=hp
    obtain⟨hr,hl4,hd4,ht4⟩:=fin (some .ret) W3 hk3
    exact⟨_,_,hr,.inr ⟨rfl,.ret,hIx _ _ _ _ hi3 (hput W3 _),hl4,hd4⟩⟩
   | exit id=>
    obtain⟨hk3,hi3⟩:=hp
    obtain⟨hr,hl4,hd4,ht4⟩:=fin (some (.exit id)) W3 hk3
    exact⟨_,_,hr,.inr ⟨rfl,.exit id,hIx _ _ _ _ hi3 (hput W3 _),hl4,hd4⟩⟩
   | goto t=>
    obtain⟨hk3,hi3⟩:=hp
    obtain⟨hr,hl4,hd4,ht4⟩:=fin (some (.goto t)) W3 hk3
    exact⟨_,_,hr,.inr ⟨rfl,.goto t,hIx _ _ _ _ hi3 (hput W3 _),hl4,hd4⟩⟩
   | panic ch=>exact hp.elim
   | outgrown=>exact hp.elim
  ·-- behind the iterator
   have hput:∀(X:World) o,Turn (fun b=>S b\/b=w.heap.size+1) X (X.putObj (w.heap.size+1) o):=fun X o=>(Turn.refl _ X).putObj (.inr (.inr rfl)) o
   rintro e W2 ⟨⟨v,rfl⟩,(⟨hi,hl,hd,ht,hsz⟩ | ⟨pre,x,rest,hx,c,hi,hl,hd⟩)⟩
   ·refine⟨none,_,by have:=run_endLoop (P:=P) hl (by rw [hrec];simp);rw [hrec] at this;exact this,?_⟩
    exact hdone _ (hI _ _ _ hi (hput W2 _)) (ht.putObj (.inl (by omega)) _) ((World.putObj_heap_other (by omega)).trans hd)
   ·refine⟨some c,_,by have:=run_endLoop (P:=P) hl (by rw [hrec];simp);rw [hrec] at this;exact this,?_⟩
    exact(wpIn_wide (n:=0)).2 (hstop c pre x rest _ hx (hIx _ _ _ _ hi (hput W2 _)) ((World.putObj_heap_other (by omega)).trans hd))
end Go.Ab
namespace Go.Proofs.YtfdlhlghcbeblaaGreatDoor
open Go.RowKit Go.Ab
def Tab(w:World):Prop:=∀ j,j<64->w.cell? ⟨0,j,none⟩=some (.int .u8 (Lib.deBruijn64tab.getD j 0))
theorem Tab.keep{S:Nat->Prop}{A B:World}(h:Tab A)(ht:Turn S A B)(hS:¬ S 0):Tab B:=
 fun j hj=>ht.cell_some (h j hj) hS
theorem tz_core(x k idx:Nat)(w:World)(hx0:((x:Int) == 0)=false)
  (key:IntKind.u64.wrap (bits BinOp.and IntKind.u64 (x:Int) (IntKind.u64.wrap (-(x:Int)))*285870213051353865) / 288230376151711744=(idx:Int))
  (hi:idx<64) (hk:k<64) (hcell:w.cell? ⟨0,idx,none⟩=some (.int .u8 k)) :
  Calls Tryz.prog 152 #[.int .u64 x] w fun e w'=>e=.returned (.int .i64 k)/\w=w':=by
 go_enter Tryz.func152,Tryz.ntmps152
 go_wp2_with (simp only [key])
 go_ret
 exact⟨rfl,rfl⟩
theorem tz_any(x:Nat)(hx:x<18446744073709551616)(hx0:x≠0)(w:World)(hT:Tab w) :
  Calls Tryz.prog 152 #[.int .u64 x] w fun e w'=>e=.returned (.int .i64 (Lib.ctz 64 x))/\w=w':=by
 obtain⟨hlow,hk⟩:=Lib.lowest_bit 64 x hx0 hx
 obtain⟨hi,htab⟩:=Lib.deBruijn64_at _ hk
 have hcell:=hT _ hi
 rw [htab] at hcell
 exact tz_core x _ _ w (by simp;omega) (tz64_key x _ hx hx0 hlow) hi hk hcell
end Go.Proofs.YtfdlhlghcbeblaaGreatDoor
namespace Go.Ab
open Go.RowKit
variable {P:Program} {ops:Array Oper} {Q:Exit->Act->World->Prop}
theorem oper_bridge{o:Oper}{a:Act}{w:World}{K:Act->World->Prop}{l n:Nat}(hd:∀ c,o.op≠.defer c)(hQ:¬ LetsOut Q)
  (h:o.wp P a w K Q\/(o.asks P a w/\LetsOut Q)):o.wpIn (Fence.wide.inRound l) n P a w K Q:=by
 have h:=h.resolve_right fun h=>hQ h.2
 refine⟨fun _ _=>trivial,?_⟩
 rw [Oper.semAt_eq _ _ _ hd]
 unfold Oper.wp at h
 generalize (execOp a.eval o).run P w=r at *
 cases r with
 | ok x w'=>
  cases x <;> simp only [Oper.upon,Oper.uponIn] at h ⊢ <;> first
   | exact h
   | exact⟨fun hh=>by simp [Fence.wide] at hh,(callsIn_wide.2 h).inRound l⟩
   | exact⟨fun hh=>by simp [Fence.wide] at hh,fun c cs _=>let ⟨v,w'',hR,hs⟩:=h c cs;⟨v,w'',hR,stepsIn_wide.2 hs⟩⟩
 | halt x w'=>cases x <;> simp only [Oper.upon,Oper.uponIn] at h ⊢ <;> exact h
def noDefer(ops:Array Oper):Bool:=ops.all fun o=>match o.op with | .defer _=>false | _=>true
theorem noDefer_spec(h:noDefer ops=true){i:Nat}{o:Oper}(ho:ops[i]?=some o)(c:Call):o.op≠.defer c:=by
 intro e
 have:=Array.all_eq_true.1 h i (Array.getElem?_eq_some_iff.1 ho).1
 rw [(Array.getElem?_eq_some_iff.1 ho).2,e] at this
 simp at this
theorem wpOp_bridge{l n:Nat}(hd:noDefer ops=true)(hQ:¬ LetsOut Q){i:Nat}{K K':Act->World->Prop}{a:Act}{w:World}(hK:∀ a w,K a w->K' a w)
  (h:wpOp P ops Q i K a w):wpOpIn (Fence.wide.inRound l) n P ops Q i K' a w:=by
 have h:=wpOp_mono hK h
 unfold wpOp at h
 unfold wpOpIn
 split
 ·rename_i hi;rw [hi] at h;exact h
 ·rename_i o hi
  rw [hi] at h
  simp only at h
  split
  ·rename_i hw;rw [if_pos hw] at h;exact oper_bridge (noDefer_spec hd hi) hQ h
  ·rename_i hw;rw [if_neg hw] at h;exact⟨fun _ _=>trivial,h⟩
theorem wpAny_bridge{l n:Nat}{md:Region.Mode}(hd:noDefer ops=true)(hQ:¬ LetsOut Q):∀(f:Nat) (listed:Array Bool) (a:Act) (w:World),
  wpAny P md ops Q f listed a w->wpAnyIn (Fence.wide.inRound l) n P md ops Q f listed a w
 | 0,_,_,_,h=>h
 | f+1,_,_,_,h=>⟨h.1,fun i hi=>wpOp_bridge hd hQ (fun a w h=>wpAny_bridge hd hQ f _ a w h) (h.2 i hi)⟩
theorem wpOps_bridge{l n:Nat}(hd:noDefer ops=true)(hQ:¬ LetsOut Q):∀(is:List Nat) (a:Act) (w:World),
  wpOps P ops Q is a w->wpOpsIn (Fence.wide.inRound l) n P ops Q is a w
 | [],_,_,h=>h
 | i::is,a,w,h=>by
  rw [wpOps_cons] at h
  rw [wpOpsIn_cons]
  exact wpOp_bridge hd hQ (fun a w h=>wpOps_bridge hd hQ is a w h) h
theorem wpIn_region_plain{id l n:Nat}{a:Act}{w:World}{os:List Oper}(hd:noDefer os.toArray=true)(hQ:¬ LetsOut Q)
  (h:wpList P os.toArray Q os a w):(Code.region id os.toArray false).wpIn (Fence.wide.inRound l) n P Q a w:=
 wpIn_region (wpOps_bridge hd hQ _ _ _ (by
  have:=wpOps_eq_wpList (P:=P) (ops:=os.toArray) (Q:=Q) os 0 (by simp)
  rw [show List.range os.toArray.size=List.range' 0 os.length by simp [List.range_eq_range'],this];exact h))
theorem wpIn_region_any'{id l n:Nat}{a:Act}{w:World}(hm:P.follows .mixedOrders=true)(hd:noDefer ops=true)(hQ:¬ LetsOut Q)
  (h:wpAny P .any ops Q ops.size (Array.replicate ops.size false) a { w with drawn:=w.drawn+1 }):(Code.region id ops true).wpIn (Fence.wide.inRound l) n P Q a w:=
 wpIn_region_any hm (wpAny_bridge hd hQ _ _ _ _ h)
theorem wpIn_region_still_tail{id k n:Nat}{a:Act}{w:World}{l:List Oper}(m:Nat)(hm:P.follows .mixedOrders=true)(hB:Region.lexTailB .any l.toArray m=true)(hd:noDefer l.toArray=true)(hQ:¬ LetsOut Q)
  (h:wpStill P l.toArray w.drew (fun a'=>wpList P l.toArray Q (l.drop m) a' w.drew) (l.take m) a):(Code.region id l.toArray true).wpIn (Fence.wide.inRound k) n P Q a w:=by
 simp only [Region.lexTailB,Bool.and_eq_true,decide_eq_true_eq] at hB
 obtain⟨⟨⟨⟨hsel,hn⟩,hs⟩,hc⟩,hlex⟩:=hB
 have hn':m<l.length:=by simpa using hn
 have htl:(l.take m).length=m:=by simp;omega
 have hdl:(l.drop m).length=l.toArray.size - m:=by simp
 have inv0:HeadInv .any l.toArray m (Array.replicate l.toArray.size false):=
  ⟨by simp,fun j oj _ hl=>(by rw [getD_replicate_false] at hl;cases hl),fun t _ ht=>getD_in (by simpa using ht) (getD_replicate_false _ _)⟩
 have H:=wpAnyL_lex (md:=.any) (g:=l.toArray.size - m) hsel hs hc hn (l.take m) 0 _ a (fun j hj=>by
  have hj':j<m:=by rw [htl] at hj;exact hj
  simp [hj']) (by simpa using htl) inv0 (by rw [htl];exact hlex) h
 refine wpIn_region_any' hm hd hQ ?_
 have:=wpAny_of_head (Q':=Q) (g:=l.toArray.size - m) (fun listed a' hL=>by
  have:=wpAny_of_seq (md:=.any) (Q':=Q) (l.drop m) m listed a' { w with drawn:=w.drawn+1 } (fun j=>by simp [List.getElem?_drop]) (by rw [hdl];exact hL.1) hL.2
  rwa [hdl] at this) _ _ _ H
 rw [htl,show m+(l.toArray.size - m)=l.toArray.size by omega] at this
 exact this
theorem region_still{id:Nat}{a:Act}{w:World}{l:List Oper}(m:Nat)(hm:P.follows .mixedOrders=true)(hB:Region.lexTailB .any l.toArray m=true)
  (h:wpStill P l.toArray w.drew (fun a'=>wpList P l.toArray Q (l.drop m) a' w.drew) (l.take m) a):(Code.region id l.toArray true).wp P Q a w:=
 wp_region_still_tail m hm hB h
end Go.Ab
namespace Go.Ab
inductive Pat where
 | node (k:Int) (pl mi:Nat) (nt:Bool) (mn mx:Int) (l:List Pat)
namespace Pat
def k:Pat->Int | node k _ _ _ _ _ _=>k
def pl:Pat->Nat | node _ p _ _ _ _ _=>p
def mi:Pat->Nat | node _ _ m _ _ _ _=>m
def nt:Pat->Bool | node _ _ _ b _ _ _=>b
def mn:Pat->Int | node _ _ _ _ x _ _=>x
def mx:Pat->Int | node _ _ _ _ _ x _=>x
def l:Pat->List Pat | node _ _ _ _ _ _ l=>l
end Pat
def okSound(pl mi:Nat):Bool:=pl &&& mi == 0 && (pl ||| mi) / 16777216 == 0
def nodeE(p:Pat):Int:=
 if p.k<0\/6<p.k then 2
 else if p.k≠1/\(p.pl≠0\/p.mi≠0\/p.nt=true) then 2
 else if p.k≠3/\p.k≠4/\p.k≠5/\p.l.length≠0 then 2
 else if p.k≠5/\(p.mn≠0\/p.mx≠0) then 2
 else if p.k=5/\(p.l.length≠1\/p.mn<0\/32<p.mn\/(p.mx≠-1/\(p.mx<p.mn\/32<p.mx))) then 2
 else if okSound p.pl p.mi=true then 0 else 14
def chk:Nat->List Pat->Int
 | _,[]=>0
 | 0,_::_=>12
 | f+1,p::l=>if nodeE p=0 then chk f (p.l++l) else nodeE p
theorem chk_succ(f:Nat)(p:Pat)(l:List Pat):chk (f+1) (p::l)=if nodeE p=0 then chk f (p.l++l) else nodeE p:=rfl
def chkP(p:Pat):Int:=chk 40 [p]
def bindE(r:Nat × Int)(f:Nat->Nat × Int):Nat × Int:=if r.2=0 then f r.1 else r
mutual
def walkP:Pat->Nat->Nat × Int
 | .node k pl mi nt mn mx l,n=>if n=40 then(n,12) else if nodeE (.node k pl mi nt mn mx l)=0 then walkL l (n+1) else(n,nodeE (.node k pl mi nt mn mx l))
def walkL:List Pat->Nat->Nat × Int
 | [],n=>(n,0)
 | p::l,n=>bindE (walkP p n) (walkL l)
end
theorem nodeE_vals(p:Pat):nodeE p=0\/nodeE p=2\/nodeE p=14:=by
 unfold nodeE
 repeat' split
 all_goals simp
mutual
theorem walkP_chk:∀(p:Pat) (n:Nat) (rest:List Pat),n<=40->((walkP p n).1<=40/\n<=(walkP p n).1)/\chk (40 - n) (p::rest)=(if (walkP p n).2=0 then chk (40 - (walkP p n).1) rest else(walkP p n).2)
 | .node k pl mi nt mn mx l,n,rest,hn=>by
  unfold walkP
  by_cases h:n=40
  ·subst h
   rw [if_pos rfl]
   exact⟨⟨by simp,by simp⟩,by simp [chk]⟩
  ·rw [if_neg h]
   obtain⟨f,hf⟩:∃ f,40 - n=f+1:=⟨39 - n,by omega⟩
   rw [hf]
   by_cases he:nodeE (.node k pl mi nt mn mx l)=0
   ·rw [if_pos he]
    have:=walkL_chk l (n+1) rest (by omega)
    refine⟨⟨this.1.1,by have:=this.1.2;omega⟩,?_⟩
    rw [chk_succ,if_pos he,<-this.2,show 40 - (n+1)=f by omega]
    rfl
   ·rw [if_neg he]
    refine⟨⟨hn,Nat.le_refl _⟩,?_⟩
    rw [chk_succ,if_neg he,if_neg he]
theorem walkL_chk:∀(l:List Pat) (n:Nat) (rest:List Pat),n<=40->((walkL l n).1<=40/\n<=(walkL l n).1)/\chk (40 - n) (l++rest)=(if (walkL l n).2=0 then chk (40 - (walkL l n).1) rest else(walkL l n).2)
 | [],n,rest,hn=>by simp [walkL,hn]
 | p::l,n,rest,hn=>by
  have h1:=walkP_chk p n (l++rest) hn
  rw [List.cons_append]
  unfold walkL bindE
  by_cases he:(walkP p n).2=0
  ·rw [if_pos he] at h1 ⊢
   have h2:=walkL_chk l (walkP p n).1 rest h1.1.1
   exact⟨⟨h2.1.1,Nat.le_trans h1.1.2 h2.1.2⟩,h1.2.trans h2.2⟩
  ·rw [if_neg he] at h1 ⊢
   exact⟨h1.1,by rw [h1.2,if_neg he]⟩
end
theorem walkP_zero(p:Pat):(walkP p 0).2=chkP p:=by
 have h:=(walkP_chk p 0 [] (by omega)).2
 unfold chkP
 rw [h]
 by_cases he:(walkP p 0).2=0
 ·rw [if_pos he,he];cases 40 - (walkP p 0).1 <;> rfl
 ·rw [if_neg he]
theorem chk_take:∀(f:Nat) (l:List Pat) (m:Nat),f+1<=m->chk f (l.take m)=chk f l
 | f,[],m,_=>by simp
 | 0,p::l,m,h=>by
  obtain⟨m,rfl⟩:∃ k,m=k+1:=⟨m - 1,by omega⟩
  rfl
 | f+1,p::l,m,h=>by
  obtain⟨m,rfl⟩:∃ k,m=k+1:=⟨m - 1,by omega⟩
  rw [List.take_succ_cons]
  rw [chk_succ,chk_succ]
  by_cases he:nodeE p=0
  ·rw [if_pos he,if_pos he]
   have h1:=chk_take f (p.l++l) (p.l.length+m) (by omega)
   have h2:(p.l++l).take (p.l.length+m)=p.l++l.take m:=by
    rw [List.take_append];simp [List.take_of_length_le]
   rw [<-h1,h2]
  ·rw [if_neg he,if_neg he]
theorem chk_cut(f:Nat)(l rest:List Pat)(hf:f<=40):chk f (l.take 41++rest)=chk f (l++rest):=by
 rw [<-chk_take f (l.take 41++rest) 41 (by omega),<-chk_take f (l++rest) 41 (by omega),List.take_append,List.take_append,List.take_take,List.length_take]
 congr 2
 by_cases h:l.length<=41
 ·rw [Nat.min_eq_right h]
 ·rw [Nat.min_eq_left (by omega),show 41 - l.length=0 by omega]
def szW:Nat->List Pat->Nat
 | _,[]=>0
 | 0,_::_=>0
 | f+1,p::l=>szW f (p.l++l)+1
def sizeP(p:Pat):Nat:=szW 41 [p]
mutual
def cntP:Pat->Nat->Nat
 | .node _ _ _ _ _ _ l,n=>cntL l (n+1)
def cntL:List Pat->Nat->Nat
 | [],n=>n
 | p::l,n=>if n<=40 then cntL l (cntP p n) else n
end
theorem szW_zero(l:List Pat):szW 0 l=0:=by cases l <;> rfl
mutual
theorem cntP_sz:∀(p:Pat) (n:Nat) (rest:List Pat),n<=40->(cntP p n<=41/\n<cntP p n)/\n+szW (41 - n) (p::rest)=cntP p n+szW (41 - cntP p n) rest
 | .node k pl mi nt mn mx l,n,rest,hn=>by
  unfold cntP
  obtain⟨f,hf⟩:∃ f,41 - n=f+1:=⟨40 - n,by omega⟩
  have h:=cntL_sz l (n+1) rest (by omega)
  refine⟨⟨h.1.1,h.1.2⟩,?_⟩
  rw [<-h.2,hf,show 41 - (n+1)=f by omega]
  show n+(szW f (l++rest)+1)=_
  omega
theorem cntL_sz:∀(l:List Pat) (n:Nat) (rest:List Pat),n<=41->(cntL l n<=41/\n<=cntL l n)/\n+szW (41 - n) (l++rest)=cntL l n+szW (41 - cntL l n) rest
 | [],n,rest,hn=>⟨⟨hn,Nat.le_refl _⟩,rfl⟩
 | p::l,n,rest,hn=>by
  unfold cntL
  by_cases h:n<=40
  ·rw [if_pos h]
   have h1:=cntP_sz p n (l++rest) h
   have h2:=cntL_sz l (cntP p n) rest h1.1.1
   exact⟨⟨h2.1.1,by have:=h1.1.2;have:=h2.1.2;omega⟩,by rw [List.cons_append,h1.2,h2.2]⟩
  ·rw [if_neg h]
   obtain rfl:n=41:=by omega
   exact⟨⟨Nat.le_refl _,Nat.le_refl _⟩,by rw [Nat.sub_self,szW_zero,szW_zero]⟩
end
theorem cntP_zero(p:Pat):cntP p 0=sizeP p:=by
 have h:=(cntP_sz p 0 [] (by omega)).2
 have e:szW (41 - cntP p 0) []=0:=by cases 41 - cntP p 0 <;> rfl
 rw [e,Nat.sub_zero,Nat.zero_add,Nat.add_zero] at h
 exact h.symm
theorem szW_take:∀(f:Nat) (l:List Pat) (m:Nat),f<=m->szW f (l.take m)=szW f l
 | 0,l,m,_=>by rw [szW_zero,szW_zero]
 | f+1,[],m,_=>by simp
 | f+1,p::l,m,h=>by
  obtain⟨m,rfl⟩:∃ k,m=k+1:=⟨m - 1,by omega⟩
  rw [List.take_succ_cons]
  show szW f _+1=szW f _+1
  have h1:=szW_take f (p.l++l) (p.l.length+m) (by omega)
  have h2:(p.l++l).take (p.l.length+m)=p.l++l.take m:=by
   rw [List.take_append];simp [List.take_of_length_le]
  rw [<-h1,h2]
end Go.Ab
