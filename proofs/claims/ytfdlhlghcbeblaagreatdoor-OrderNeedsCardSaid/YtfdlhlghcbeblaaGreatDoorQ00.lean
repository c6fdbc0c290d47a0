/- PLAIN: -/
import Derived.Test.YtfdlhlghcbeblaaGreatDoorProg
import Derived.Lib.Hide
import Derived.RangeFuncNested
import Derived.OwnWalkIn
import Derived.TacticsInMore
import Derived.LoopNIn
import Derived.LoopIn
import Derived.BigQuiet
import Derived.WalkLawsBesides
import Derived.Handy
import Derived.Shelf.Spec.TrailingZeros
import Derived.StillTailTactics
import Derived.Deep.DeepCutAuto
import Derived.Deep.RegionHeld3
import Derived.Deep.WholeRow
set_option maxRecDepth 100000
set_option maxHeartbeats 8000000
namespace Go.Ab
def Yt:Nat->(Nat->Bool)->Nat
 | 0,_=>0
 | n+1,p=>Yt n p+if p n then 2 ^ n else 0
theorem Hj(n:Nat)(p:Nat->Bool):Yt n p<2 ^ n:=by
 induction n with
 | zero=>simp [Yt]
 | succ n ih=>
  unfold Yt;rw [Nat.pow_succ]
  split <;> omega
theorem Ys(n:Nat)(p:Nat->Bool)(i:Nat):(Yt n p).testBit i=(decide (i<n) && p i):=by
 induction n with
 | zero=>simp [Yt]
 | succ n ih=>
  unfold Yt;have f:=Hj n p;by_cases a:p n=true
  ·rw [if_pos a,Nat.add_comm];rw [show 2 ^ n+Yt n p=2 ^ n*1+Yt n p by omega];rw [Nat.testBit_two_pow_mul_add _ f]
   split
   ·rename_i c;rw [ih];simp [c,Nat.lt_succ_of_lt c]
   ·rename_i c
    by_cases b:i=n
    ·subst b;simp [a]
    ·obtain⟨d,e⟩:∃ d,i - n=d+1:=⟨i - n - 1,by omega⟩;rw [e,Nat.testBit_succ];simp;omega
  ·rw [if_neg a,Nat.add_zero,ih];by_cases b:i=n
   ·subst b;simp at a;simp [a]
   ·have:(i<n+1)↔(i<n):=by omega
    simp [this]
theorem Ch{n v:Nat}{p:Nat->Bool}(b:v<2 ^ n)(h:∀ i,i<n->v.testBit i=p i):v=Yt n p:=by
 apply Nat.eq_of_testBit_eq;intro i;rw [Ys];by_cases a:i<n
 ·simp [a,h i a]
 ·rw [Nat.testBit_lt_two_pow (Nat.lt_of_lt_of_le b (Nat.pow_le_pow_right (by decide) (by omega)))];simp [a]
theorem X7{n:Nat}{p q:Nat->Bool}(h:∀ i,i<n->p i=q i):Yt n p=Yt n q:=
 Ch (Hj n p) fun i hi=>by rw [Ys];simp [hi,h i hi]
theorem Gl(n:Nat)(p q:Nat->Bool):Yt n p ||| Yt n q=Yt n (fun i=>p i || q i):=
 Ch (Nat.or_lt_two_pow (Hj n p) (Hj n q)) fun i hi=>by
  rw [Nat.testBit_or,Ys,Ys];simp [hi]
theorem Xp{n x:Nat}(hx:x<n):2 ^ x=Yt n (fun i=>i == x):=
 Ch (Nat.pow_lt_pow_right (by decide) hx) fun i _=>by
  rw [Nat.testBit_two_pow];by_cases h:x=i
  ·subst h;simp
  ·have:(i == x)=false:=by simp;omega
   simp [h,this]
theorem Uc(n:Nat):Yt n (fun _=>false)=0:=by
 induction n with
 | zero=>rfl
 | succ n ih=>simp [Yt,ih]
def evs(v:Nat):List Nat:=(List.range 64).filter v.testBit
theorem Q31:evs 0=[]:=by simp [evs]
theorem Ea{v i:Nat}:i∈evs v↔i<64/\v.testBit i=true:=by simp [evs]
theorem T4(n:Nat)(f:n<=64)(p:Nat->Bool):evs (Yt n p)=(List.range n).filter p:=by
 unfold evs;have b:(64:Nat)=n+(64 - n):=by omega
 rw [b,List.range_add,List.filter_append];have c:(List.range n).filter (Yt n p).testBit=(List.range n).filter p:=by
  apply List.filter_congr;intro e a;rw [Ys];simp at a;simp [a]
 have d:(List.map (n+·) (List.range (64 - n))).filter (Yt n p).testBit=[]:=by
  rw [List.filter_eq_nil_iff];intro e a;simp only [List.mem_map,List.mem_range] at a;obtain⟨g,_,rfl⟩:=a;rw [Ys];simp;omega
 rw [c,d,List.append_nil]
theorem Q4l(v:Nat)(b:v≠0)(h:v<2 ^ 64):∃ m,v=2 ^ Lib.ctz 64 v*(2*m+1)/\Lib.ctz 64 v<64:=by
 obtain⟨m,d,c⟩:=Lib.ctzFrom_spec 64 v (by omega) h;have a:Lib.ctz 64 v=Lib.ctzFrom 64 v:=by simp [Lib.ctz,b]
 rw [a];exact⟨m,d,c⟩
theorem Q4g(k m:Nat):2 ^ k*(2*m+1) &&& (2 ^ k*(2*m+1) - 1)=2 ^ (k+1)*m:=by
 have r:0<2 ^ k:=Nat.two_pow_pos k;have l:2 ^ k*(2*m+1) - 1=2 ^ k*(2*m)+(2 ^ k - 1):=by
  rw [Nat.mul_add,Nat.mul_one];omega
 rw [l];apply Nat.eq_of_testBit_eq;intro b;have q:(2 ^ k - 1)<2 ^ k:=by omega
 rw [Nat.testBit_and,Nat.testBit_two_pow_mul_add _ q,Nat.testBit_two_pow_mul,Nat.testBit_two_pow_mul];by_cases p:b<k
 ·have c:¬ b>=k:=by omega
  have d:¬ b>=k+1:=by omega
  simp [c,d]
 ·rw [if_neg p];by_cases j:b=k
  ·subst j;simp [Nat.testBit_zero];omega
  ·obtain⟨a,rfl⟩:∃ a,b=k+(a+1):=⟨b - k - 1,by omega⟩;have g:k+(a+1) - k=a+1:=by omega
   have i:k+(a+1) - (k+1)=a:=by omega
   rw [g,i,Nat.testBit_succ,Nat.testBit_succ];have e:(2*m+1) / 2=m:=by omega
   have f:2*m / 2=m:=by omega
   rw [e,f];have n:k+(a+1)>=k:=by omega
   have o:k+(a+1)>=k+1:=by omega
   simp [n,o]
theorem Pp(k m i:Nat):(2 ^ k*(2*m+1)).testBit i=(decide (i=k) || (decide (k<i) && m.testBit (i - (k+1)))):=by
 rw [Nat.testBit_two_pow_mul];by_cases o:i<k
 ·have b:¬ i>=k:=by omega
  have c:¬ i=k:=by omega
  have d:¬ k<i:=by omega
  simp [b,c,d]
 ·by_cases j:i=k
  ·subst j;simp [Nat.testBit_zero]
  ·obtain⟨a,rfl⟩:∃ a,i=k+(a+1):=⟨i - k - 1,by omega⟩;have f:k+(a+1) - k=a+1:=by omega
   have g:k+(a+1) - (k+1)=a:=by omega
   rw [f,g,Nat.testBit_succ];have e:(2*m+1) / 2=m:=by omega
   rw [e];have l:k+(a+1)>=k:=by omega
   have n:k<k+(a+1):=by omega
   simp [l,n]
theorem Q1x(v:Nat)(j:v≠0)(h:v<2 ^ 64):evs v=Lib.ctz 64 v::evs (v &&& (v - 1)):=by
 obtain⟨g,f,k⟩:=Q4l v j h;generalize Lib.ctz 64 v=a at f k;have d:∀ b,v.testBit b=(decide (b=a) || (decide (a<b) && g.testBit (b - (a+1)))):=fun b=>by rw [f];exact Pp a g b
 have e:∀ b,(v &&& (v - 1)).testBit b=(decide (a<b) && g.testBit (b - (a+1))):=fun b=>by
  rw [f,Q4g,Nat.testBit_two_pow_mul];simp only [ge_iff_le,Nat.succ_le_iff]
 unfold evs;have i:(64:Nat)=a+(1+(63 - a)):=by omega
 rw [i,List.range_add,List.filter_append,List.filter_append,List.range_add,List.map_append,List.filter_append,List.filter_append];have n:(List.range a).filter v.testBit=[]:=by
  rw [List.filter_eq_nil_iff];intro b c;simp at c;rw [d];simp;omega
 have o:(List.range a).filter (v &&& (v - 1)).testBit=[]:=by
  rw [List.filter_eq_nil_iff];intro b c;simp at c;rw [e];simp;omega
 have l:(List.map (a+·) (List.range 1)).filter v.testBit=[a]:=by
  have:v.testBit a=true:=by rw [d];simp
  simp [List.range_one,this]
 have m:(List.map (a+·) (List.range 1)).filter (v &&& (v - 1)).testBit=[]:=by
  have:(v &&& (v - 1)).testBit a=false:=by rw [e];simp
  simp [List.range_one,this]
 rw [n,o,l,m,List.nil_append,List.nil_append,List.nil_append,List.singleton_append]
 congr 1
 apply List.filter_congr;intro b c;simp only [List.mem_map,List.mem_range] at c;obtain⟨p,⟨q,_,rfl⟩,rfl⟩:=c;rw [d,e];simp
theorem Tm(v:Nat):(evs v).length<=64:=by
 unfold evs;have:=List.length_filter_le v.testBit (List.range 64)
 simpa using this
end Go.Ab
namespace Go.Ab
open Go.RowKit
universe u
theorem pq:(∀(l:List Value) (i:Nat) (a:Value),l.toArray.setIfInBounds i a=(l.set i a).toArray)/\(∀(x:Value) (l:List Value) (a:Value),(x::l).set 0 a=a::l)/\(∀(x:Value) (l:List Value) (i:Nat) (a:Value),(x::l).set (i+1) a=x::l.set i a):=
 ⟨fun _ _ _=>List.setIfInBounds_toArray ..,fun _ _ _=>rfl,fun _ _ _ _=>rfl⟩
theorem tkH{P:Program}{md:Region.Mode}{ops:Array Oper}{Q:Exit->Act->World->Prop}{S:World->Prop}{i d:Nat}{oi:Oper}{v:Value}{fuel:Nat}{listed:Array Bool}{a:Act}{w:World}(hi:ops[i]?=some oi)
  (hy:YieldsIf P ops S oi v a) (hS:S w) (h:wpAnyH P md ops Q S fuel (listed.setIfInBounds i true) (a.put (some d) v) w)
  (hs:Region.noSelect ops=true:=by kernel_rfl) (hf:Region.free md ops listed i=true:=by kernel_rfl) (hr:(Region.ready md ops listed).contains i=true:=by kernel_rfl) (hd:oi.dst=some d:=by rfl)
  (hQ:∀ c a w,Q (.panic c) (a.put (some d) v) w->Q (.panic c) a w:=by exact fun _ _ _ h=>h):wpAnyH P md ops Q S (fuel+1) listed a w:=
 wpAnyH_take hi hs hf hr (by rw [hd];exact hQ) hy hS (by rw [hd];exact h)
theorem tH(i d:Nat){P:Program}{md:Region.Mode}{ops:Array Oper}{Q:Exit->Act->World->Prop}{S:World->Prop}{oi:Oper}{v:Value}{fuel:Nat}{listed:Array Bool}{a a':Act}{w:World}
  (hS:S w) (h:wpAnyH P md ops Q S fuel (listed.setIfInBounds i true) a' w) (hi:ops[i]?=some oi:=by exact rfl)
  (hy:YieldsIf P ops S oi v a:=by(exact Or.inl ⟨by rfl,by(intro w hSw;(try dsimp only at hSw);go_simp;try with_reducible rfl)⟩)) (ha:a.put (some d) v=a':=by((try simp only [Act.put,pq]);exact rfl))
  (hs:Region.noSelect ops=true:=by kernel_rfl) (hf:Region.free md ops listed i=true:=by kernel_rfl) (hr:(Region.ready md ops listed).contains i=true:=by kernel_rfl) (hd:oi.dst=some d:=by rfl)
  (hQ:∀ c a w,Q (.panic c) (a.put (some d) v) w->Q (.panic c) a w:=by exact fun _ _ _ h=>h):wpAnyH P md ops Q S (fuel+1) listed a w:=
 wpAnyH_take hi hs hf hr (by rw [hd];exact hQ) hy hS (by rw [hd,ha];exact h)
theorem rH(rs:List Nat){P:Program}{md:Region.Mode}{ops:Array Oper}{Q:Exit->Act->World->Prop}{S:World->Prop}{fuel:Nat}{listed:Array Bool}{a:Act}{w:World}
  (h:AllReadyH P md ops Q S fuel listed a w rs) (hr:Region.ready md ops listed=rs:=by kernel_rfl) (hne:rs≠[]:=by simp):wpAnyH P md ops Q S (fuel+1) listed a w:=wpAnyH_ready hr hne h
theorem oz{p:Prop}(h:p:=by omega):p:=h
theorem kz{p:Prop}(h:p:=by kernel_rfl):p:=h
theorem zd{p:Prop}(h:p:=by decide):p:=h
theorem tz{p:Prop}(h:p:=by first | rfl | trivial):p:=h
theorem uz{p:Prop}(h:p:=by first | trivial | rfl):p:=h
theorem mz{p:Prop}(h:p:=by first | (simp [intOf];done) | (simp [intOf];omega)):p:=h
theorem nz{p:Prop}(h:p:=by simp [intOf];omega):p:=h
theorem iw{c a b:Prop} [Decidable c] (h:c) (k:a):if c then a else b:=by rw [if_pos h];exact k
theorem zE{α:Sort u}(a:α):∃ x,a=x:=⟨a,rfl⟩
theorem zV(a a':Option Addr)(b b' c c':Nat):(Value.slice a b c=Value.slice a' b' c')=(a=a'/\b=b'/\c=c'):=Value.slice.injEq ..
theorem zy{p:Prop}(h:p:=by simp):p:=h
theorem zq{p:Prop}(h:p:=by first | rfl | omega | simp):p:=h
theorem zr{p:Prop}(h:p:=by first | rfl | simp):p:=h
theorem zS:(∀ l:List Value,l.toArray.size=l.length)/\(∀(a:Value) (l:List Value),(a::l).length=l.length+1)/\(([]:List Value).length=0)/\(∀(n:Nat) (a:Value),Array.replicate (n+1) a=(Array.replicate n a).push a)/\(∀ a:Value,Array.replicate 0 a=#[])/\(∀(l:List Value) (a:Value),l.toArray.push a=(l++[a]).toArray)/\(∀ l m:List Value,l.toArray++m.toArray=(l++m).toArray)/\(∀ l:List Value,[]++l=l)/\(∀(a:Value) (l m:List Value),(a::l)++m=a::(l++m)):=
 ⟨fun _=>rfl,fun _ _=>rfl,rfl,fun _ _=>Array.replicate_succ ..,fun _=>Array.replicate_zero ..,fun _ _=>List.push_toArray ..,fun _ _=>List.append_toArray ..,fun _=>rfl,fun _ _ _=>rfl⟩
theorem zR{w:World}{g:Nat}{cs:Array Value}{t:TypeId}{fr:Nat × Nat}(h:w.heap[g]?=some (.cells cs t fr)) (j:Nat):w.cell? ⟨g,j,none⟩=cs[j]?:=cell_of_row _ _ j _ _ _ h
theorem Zh3{p q r:Prop}(a:p)(b:q)(c:r):Hid p/\Hid q/\Hid r:=⟨a,b,c⟩
theorem Zh4{p q r s:Prop}(a:p)(b:q)(c:r)(d:s):Hid p/\Hid q/\Hid r/\Hid s:=⟨a,b,c,d⟩
theorem Zh5{p q r s t:Prop}(a:p)(b:q)(c:r)(d:s)(e:t):Hid p/\Hid q/\Hid r/\Hid s/\Hid t:=⟨a,b,c,d,e⟩
theorem Zh6{p q r s t v:Prop}(a:p)(b:q)(c:r)(d:s)(e:t)(f:v):Hid p/\Hid q/\Hid r/\Hid s/\Hid t/\Hid v:=⟨a,b,c,d,e,f⟩
theorem Zh7{p q r s t v x:Prop}(a:p)(b:q)(c:r)(d:s)(e:t)(f:v)(g:x):Hid p/\Hid q/\Hid r/\Hid s/\Hid t/\Hid v/\Hid x:=⟨a,b,c,d,e,f,g⟩
theorem Zh8{p q r s t v x y:Prop}(a:p)(b:q)(c:r)(d:s)(e:t)(f:v)(g:x)(h:y):Hid p/\Hid q/\Hid r/\Hid s/\Hid t/\Hid v/\Hid x/\Hid y:=⟨a,b,c,d,e,f,g,h⟩
theorem Zh{p:Prop}(h:p):Hid p:=h
end Go.Ab
namespace Go.Ab
open Go.RowKit
structure Q0 (S:Nat->Prop) (A B:World):Prop where
 os:B.os=A.os
 tape:B.tape=A.tape
 output:B.output=A.output
 size:A.heap.size<=B.heap.size
 block:∀ b,b<A.heap.size->¬ S b->B.heap[b]?=A.heap[b]?
theorem Q0.refl(S:Nat->Prop)(A:World):Q0 S A A:=⟨rfl,rfl,rfl,Nat.le_refl _,fun _ _ _=>rfl⟩
theorem Q0.trans{S:Nat->Prop}{A B C:World}(h:Q0 S A B)(k:Q0 S B C):Q0 S A C:=
 ⟨k.os.trans h.os,k.tape.trans h.tape,k.output.trans h.output,Nat.le_trans h.size k.size,
  fun b hb hS=>(k.block b (Nat.lt_of_lt_of_le hb h.size) hS).trans (h.block b hb hS)⟩
theorem Q0.mono{S T:Nat->Prop}{A B:World}(h:Q0 S A B)(hst:∀ b,b<A.heap.size->S b->T b):Q0 T A B:=
 ⟨h.os,h.tape,h.output,h.size,fun b hb hT=>h.block b hb fun hs=>hT (hst b hb hs)⟩
theorem Q0.heap{S:Nat->Prop}{A B:World}(h:Q0 S A B){b:Nat}{o:Obj}(hb:A.heap[b]?=some o)(hS:¬ S b):B.heap[b]?=some o:=
 (h.block b (Array.getElem?_eq_some_iff.1 hb).1 hS).trans hb
theorem Q0.cell{S:Nat->Prop}{A B:World}(h:Q0 S A B){p:Addr}(hb:p.block<A.heap.size)(hS:¬ S p.block):B.cell? p=A.cell? p:=
 World.cell?_of_block (w:=A) (h.block p.block hb hS)
theorem Q0.cell_some{S:Nat->Prop}{A B:World}(h:Q0 S A B){p:Addr}{v:Value}(a:A.cell? p=some v)(b:¬ S p.block):B.cell? p=some v:=by
 have c:p.block<A.heap.size:=by
  apply Nat.lt_of_not_le;intro d;simp [World.cell?,Array.getElem?_eq_none d] at a
 rw [h.cell c b];exact a
theorem Q0.frozen{S:Nat->Prop}{A B:World}(h:Q0 S A B){p:Addr}(hb:p.block<A.heap.size)(hS:¬ S p.block):B.frozen? p=A.frozen? p:=
 World.frozen?_of_block (w:=A) (h.block p.block hb hS)
theorem Q0.alloc{S:Nat->Prop}{A B:World}(h:Q0 S A B)(o:Obj):Q0 S A (B.alloc o):=
 h.trans ⟨rfl,rfl,rfl,by simp,fun b hb _=>Below.heap_alloc _ _ _ hb⟩
theorem Q0.drew{S:Nat->Prop}{A B:World}(h:Q0 S A B):Q0 S A B.drew:=⟨h.os,h.tape,h.output,h.size,h.block⟩
theorem Q0.drewN{S:Nat->Prop}{A B:World}(h:Q0 S A B)(n:Nat):Q0 S A (B.drewN n):=⟨h.os,h.tape,h.output,h.size,h.block⟩
theorem Q0.setCell{S:Nat->Prop}{A B:World}(h:Q0 S A B){p:Addr}(hp:A.heap.size<=p.block\/S p.block)(u:Value):Q0 S A (B.setCell p u):=
 ⟨h.os,h.tape,h.output,by simpa [World.setCell] using h.size,fun b hb hS=>by
  rw [Below.heap_setCell _ _ _ _ (by rintro rfl;rcases hp with hp | hp;omega;exact hS hp)];exact h.block b hb hS⟩
theorem Q0.set1(A:World)(b o:Nat)(v:Value):Q0 (fun x=>x=b) A (A.setCell ⟨b,o,none⟩ v):=(Q0.refl (fun x=>x=b) A).setCell (p:=⟨b,o,none⟩) (.inr rfl) v
theorem Q0.putObj{S:Nat->Prop}{A B:World}(h:Q0 S A B){r:Nat}(hp:A.heap.size<=r\/S r)(o:Obj):Q0 S A (B.putObj r o):=
 ⟨h.os,h.tape,h.output,by simpa using h.size,fun b hb hS=>by
  rw [World.putObj_heap_other (by rintro rfl;rcases hp with hp | hp;omega;exact hS hp)];exact h.block b hb hS⟩
theorem Q0.below{S:Nat->Prop}{A B:World}(h:Q0 S A B)(hS:∀ b,b<A.heap.size->¬ S b):Below A.heap.size A B:=
 ⟨h.os,h.tape,h.output,h.size,fun b hb=>h.block b hb (hS b hb)⟩
theorem Q0.grown{S:Nat->Prop}{A B C:World}{row:Option Nat}(h:Q0 S A B)(hg:B.grownBy C row)(hr:∀ k,row=some k->A.heap.size<=k\/S k):Q0 S A C:=
 ⟨hg.os.trans h.os,hg.tape.trans h.tape,hg.output.trans h.output,Nat.le_trans h.size hg.size,fun b hb hS=>by
  rw [hg.block b (Nat.lt_of_lt_of_le hb h.size) (fun e=>by rcases hr b e.symm with hh | hh;omega;exact hS hh)];exact h.block b hb hS⟩
abbrev Ext(A B:World):Prop:=Q0 (fun _=>False) A B
theorem Ext.of{S:Nat->Prop}{A B:World}(h:Ext A B):Q0 S A B:=h.mono fun _ _ h=>h.elim
theorem Ext.keep{A B:World}(h:Ext A B){b:Nat}{o:Obj}(hb:A.heap[b]?=some o):B.heap[b]?=some o:=Q0.heap h hb (fun h=>h)
theorem Q0.after{S T:Nat->Prop}{w A B:World}(h:Q0 S w A)(k:Q0 T A B)(hT:∀ b,b<w.heap.size->T b->S b):Q0 S w B:=
 ⟨k.os.trans h.os,k.tape.trans h.tape,k.output.trans h.output,Nat.le_trans h.size k.size,
  fun b hb hS=>(k.block b (Nat.lt_of_lt_of_le hb h.size) fun ht=>hS (hT b hb ht)).trans (h.block b hb hS)⟩
theorem Xq{a b:Bool}(h:a=b):Ending.returned (.bool a)=.returned (.bool b):=by rw [h]
theorem Y3{k:IntKind}{a b:Int}(h:a=b):Ending.returned (.int k a)=.returned (.int k b):=by rw [h]
theorem Q3{A:World}{n:Nat}{o:Obj}(h:n=A.heap.size):(A.alloc o).heap[n]?=some o:=by subst h;exact World.alloc_heap_new _ _
theorem Q8{A:World}{n:Nat}{o o':Obj}(h:A.heap[n]?=some o'):(A.alloc o).heap[n]?=some o':=
 (Below.heap_alloc _ _ _ (Array.getElem?_eq_some_iff.1 h).1).trans h
theorem Y4{A:World}{n:Nat}{o:Obj}(h:A.heap[n]?=some o):A.drew.heap[n]?=some o:=h
theorem Jy{A:World}{n:Nat}{a:Addr}{v:Value}{o:Obj}(h:A.heap[n]?=some o)(hn:n≠a.block):(A.setCell a v).heap[n]?=some o:=
 (Below.heap_setCell _ _ _ _ hn).trans h
theorem Zi(f:FuncId):Fence.wide.fn f=True:=rfl
theorem Qz:Fence.wide.depth=none:=rfl
theorem Nc(a x:Nat)(d:a<18446744073709551616)(e:x<64):bits .or .u64 (a:Int) (IntKind.u64.wrap (2 ^ x))=((a ||| 2 ^ x:Nat):Int):=by
 have c:2 ^ x<18446744073709551616:=by
  have:=Nat.pow_lt_pow_right (a:=2) zd e
  simpa using this
 have b:IntKind.u64.wrap (2 ^ x)=((2 ^ x:Nat):Int):=by
  rw [IntKind.wrap_u64];have b:((2:Int) ^ x)=((2 ^ x:Nat):Int):=by simp
  rw [b];generalize 2 ^ x=f at c;omega
 rw [b,u64_or_nat _ _ d c]
def Z3(base:Nat):List Deferred->World->Prop
 | [],_=>True
 | d::ds,w=>∃ r,base<=r/\d={ target:=.collected r,args:=#[] }/\w.heap[r]?=some (.deferred (some []))/\(∀ e∈ds,e.target≠.collected r)/\Z3 base ds w
theorem Z3.keep{base:Nat}{S:Nat->Prop}:∀ {ds:List Deferred} {A B:World},Z3 base ds A->Q0 S A B->(∀ b,S b->∀ o,A.heap[b]?=some o->o.isCells=true)->Z3 base ds B
 | [],_,_,_,_,_=>trivial
 | d::ds,A,B,⟨r,h1,h2,h3,h4,h5⟩,ht,hS=>
  ⟨r,h1,h2,ht.heap h3 (fun hs=>by have:=hS r hs _ h3;simp [Obj.isCells] at this),h4,h5.keep ht hS⟩
theorem Z3.keep'{base:Nat}{S:Nat->Prop}:∀ {ds:List Deferred} {A B:World},Z3 base ds A->Q0 S A B->(∀ b,S b->∀ e∈ds,e.target≠.collected b)->Z3 base ds B
 | [],_,_,_,_,_=>trivial
 | d::ds,A,B,⟨r,h1,h2,h3,h4,h5⟩,ht,hS=>
  ⟨r,h1,h2,ht.heap h3 (fun hs=>hS r hs d (List.mem_cons_self ..) (by rw [h2])),h4,h5.keep' ht (fun b hb e he=>hS b hb e (List.mem_cons_of_mem _ he))⟩
theorem Z3.lt{base:Nat}:∀ {ds:List Deferred} {A:World},Z3 base ds A->∀ e∈ds,∀ r,e.target=.collected r->r<A.heap.size
 | [],_,_,_,he,_,_=>by cases he
 | d::ds,A,⟨r,h1,h2,h3,h4,h5⟩,e,he,q,hq=>by
  rcases List.mem_cons.1 he with rfl | he
  ·rw [h2] at hq;simp at hq;subst hq;exact(Array.getElem?_eq_some_iff.1 h3).1
  ·exact h5.lt e he q hq
theorem Z3.keepC{base N:Nat}{S:Nat->Prop}{a:List Deferred}{A B:World}(h:Z3 base a A)(c:∀ e∈a,∀ r,e.target=.collected r->r<N)(q:Q0 S A B)
  (n:∀ b,S b->N<=b\/A.heap.size<=b\/∃ o,A.heap[b]?=some o/\o.isCells=true):Z3 base a B:=by
 have j:∀(a:List Deferred),(∀ e∈a,∀ r,e.target=.collected r->r<N)->Z3 base a A->Z3 base a B:=by
  intro a
  induction a with
  | nil=>intro _ _;trivial
  | cons d a ih=>
   rintro c ⟨r,k,g,f,l,m⟩;refine⟨r,k,g,q.heap f (fun hs=>?_),l,ih (fun e he=>c e (List.mem_cons_of_mem _ he)) m⟩;rcases n r hs with h | h | ⟨o,i,p⟩
   ·have:=c d (List.mem_cons_self ..) r (by rw [g]);omega
   ·have:=(Array.getElem?_eq_some_iff.1 f).1;omega
   ·rw [f] at i;cases i;simp [Obj.isCells] at p
 exact j a c h
theorem Z3.fresh{base:Nat}{ds:List Deferred}{A:World}{r:Nat}(h:Z3 base ds A)(hr:A.heap.size<=r):∀ e∈ds,e.target≠.collected r:=fun e he ht=>by
 have:=h.lt e he r ht;omega
theorem Z3.cons{base:Nat}{ds:List Deferred}{A:World}{r:Nat}(h:Z3 base ds A)(hb:base<=r)(hr:A.heap[r]?=some (.deferred (some []))) (hn:∀ e∈ds,e.target≠.collected r) :
  Z3 base ({ target:=.collected r,args:=#[] }::ds) A:=⟨r,hb,rfl,hr,hn,h⟩
def Shut(base:Nat)(w:World)(b:Nat):Prop:=base<=b/\∀ o,w.heap[b]?=some o->o.isCells=false
theorem Shut.not{base:Nat}{w:World}{b:Nat}{o:Obj}(hb:w.heap[b]?=some o)(ho:o.isCells=true):¬ Shut base w b:=fun h=>by
 have:=h.2 o hb;rw [ho] at this;cases this
theorem Ye{P:Program}{fn:Func}{tmps:Array Value}{R:Ending->World->Prop}{v:Value}{base:Nat} :
  ∀(ds:List Deferred) (w:World),Z3 base ds w->(∀ w',Q0 (Shut base w) w w'->w'.heap.size=w.heap.size->(results fn tmps).run P w'=.ok v w'/\R (.returned v) w') ->
   LeavesInM Fence.wide 0 P fn tmps R ds .returning w
 | [],w,_,h=>by
  obtain⟨h1,h2⟩:=h w (Q0.refl _ _) rfl;exact⟨v,h1,h2⟩
 | d::ds,w,⟨r,hb,hd,hr,hn,hm⟩,h=>by
  refine⟨by simp,.inl ⟨r,_,by rw [hd],run_takeDeferred hr,?_⟩⟩;refine Ye (v:=v) ds _ (hm.keep' (S:=(·=r)) ((Q0.refl (·=r) w).putObj (.inr rfl) _) (fun b e=>by subst e;exact hn)) ?_;intro w' ht hs;have hput:Q0 (Shut base w) w (w.putObj r (.deferred none)):=(Q0.refl _ w).putObj (.inr ⟨hb,fun o ho=>by rw [hr] at ho;cases ho;rfl⟩) _;refine h w' (hput.after ht fun b hlt hsh=>?_) (by rw [hs];simp);refine⟨hsh.1,fun o ho=>?_⟩;by_cases hbr:b=r
  ·subst hbr;rw [hr] at ho;cases ho;rfl
  ·exact hsh.2 o (by rw [World.putObj_heap_other hbr];exact ho)
theorem Z4{P:Program}{f:FuncId}{fn:Func}{c:Code}{args:Array Value}{w:World}{R:Ending->World->Prop}
  (hf:P.funcs[f]?=some fn) (hb:fn.body=some c)
  (h:c.wp P (bodyPostM Fence.wide 0 P fn R) { tmps:=args++Array.replicate (fn.ntmps - args.size) undef,defers:=[] } w):Calls P f args w R:=
 callsIn_wide.1 (callsIn_of_wp_marks (n:=0) hf hb trivial (wpIn_wide.2 h))
theorem Yv{P:Program}{fn:Func}{R:Ending->World->Prop}{a:Act}{w:World}{v:Value}{base:Nat}(hm:Z3 base a.defers w)
  (hr:∀ w',(results fn a.tmps).run P w'=.ok v w') (hR:∀ w',Q0 (Shut base w) w w'->w'.heap.size=w.heap.size->R (.returned v) w') :
  bodyPostM Fence.wide 0 P fn R .ret a w:=Ye _ _ hm fun w' ht hs=>⟨hr w',hR w' ht hs⟩
theorem Qv{t:Array Value}{n:Nat}(h:t.size=n):∃ u:Nat->Value,t=((List.range n).map u).toArray:=
 ⟨fun i=>t.getD i undef,by
  apply Array.ext
  ·simp [h]
  ·intro i h1 h2;simp [Array.getD,h1]⟩
def gS(a:Act)(l:List Nat):Nat × List Value:=(a.tmps.size,l.map fun i=>a.tmps.getD i undef)
theorem lE{x y:Value}{l m:List Value}(h:x=y)(k:l=m):x::l=y::m:=by rw [h,k]
def frL(u:Nat->Value):List (Nat × Value)->Nat->Nat->List Value
 | _,_,0=>[]
 | [],i,n+1=>u i::frL u [] (i+1) n
 | (j,v)::L,i,n+1=>if j=i then v::frL u L (i+1) n else u i::frL u ((j,v)::L) (i+1) n
theorem fq:(∀ u L i,frL u L i 0=[])/\(∀ u i n,frL u [] i (n+1)=u i::frL u [] (i+1) n)/\(∀ u j v L i n,frL u ((j,v)::L) i (n+1)=if j=i then v::frL u L (i+1) n else u i::frL u ((j,v)::L) (i+1) n)/\(∀(x:Nat) l (y:Value) m,List.zip (x::l) (y::m)=(x,y)::List.zip l m)/\(∀ m:List Value,List.zip ([]:List Nat) m=[]):=
 ⟨fun _ L _=>by cases L <;> rfl,fun _ _ _=>rfl,fun _ _ _ _ _ _=>rfl,fun _ _ _ _=>rfl,fun _=>rfl⟩
theorem Tt(u:Nat->Value):∀(n i:Nat) (L:List (Nat × Value)),(∀ p∈L,u p.1=p.2)->frL u L i n=(List.range' i n).map u
 | 0,_,L,_=>by cases L <;> rfl
 | n+1,i,[],_=>by rw [fq.2.1,Tt u n _ [] (fun _ h=>by cases h),List.range'_succ,List.map_cons]
 | n+1,i,(j,v)::L,h=>by
  rw [fq.2.2.1,List.range'_succ,List.map_cons]
  split
  ·rename_i hj
   subst hj;rw [Tt u n _ L (fun p hp=>h p (by simp [hp])),h (j,v) zy]
  ·rw [Tt u n _ _ h]
theorem Qgf{t:Array Value}{d:List Deferred}{l:List Nat}{n:Nat}{vs:List Value}(h:gS ⟨t,d⟩ l=(n,vs)):∃ u:Nat->Value,t=(frL u (l.zip vs) 0 n).toArray:=by
 unfold gS at h;simp only [Prod.mk.injEq] at h;obtain⟨b,rfl⟩:=h;refine⟨fun a=>t.getD a undef,?_⟩;rw [Tt _ n 0 _ (fun p hp=>?_),<-List.range_eq_range']
 ·apply Array.ext
  ·simp [b]
  ·intro a c e;simp [Array.getD,c]
 ·obtain⟨a,f,rfl⟩:=List.mem_iff_getElem.1 hp;simp
theorem Qj{t:Array Value}{d:List Deferred}{l:List Nat}{n:Nat}{vs:List Value}{F:(Nat->Value)->List Value} (h:gS ⟨t,d⟩ l=(n,vs))
  (e:∀ u,frL u (l.zip vs) 0 n=F u:=by(intro u;simp only [fq,Nat.reduceAdd,Nat.reduceEqDiff,if_true,if_false];exact rfl)):∃ u,t=(F u).toArray:=by
 obtain⟨u,a⟩:=Qgf h;exact⟨u,by rw [a,e]⟩
def Q39{α:Type}(P:Program)(gf:Nat)(lb:Array Value)(encs:α->Array Value)(xs:List α)(S K:Nat->Prop)(w:World):Prop:=
 ∀(l:Nat) (J Jx:List α->World->Prop) (W:World),Q0 (fun b=>¬ K b) w W ->
  (∀ pre A B,J pre A->Q0 S A B->J pre B)->(∀ pre A B,Jx pre A->Q0 S A B->Jx pre B) ->
  (∀ pre x rest A,xs=pre++x::rest->J pre A->YieldAt Fence.wide 0 P l (encs x) A fun e B=>
   (e=.returned (.bool true)/\J (pre++[x]) B/\Q0 (fun b=>¬ K b) A B)\/(e=.returned (.bool false)/\Jx (pre++[x]) B)) ->
  J [] W ->
  Calls P gf (#[.func (.yield l) #[] #[]]++lb) W fun e B=>(∃ v,e=.returned v)/\(J xs B\/∃ pre x rest,xs=pre++x::rest/\Jx (pre++[x]) B)
def Q2c{α:Type}(K:Nat->Prop)(I:List α->World->Prop)(Ix:Code->List α->World->Prop)(xs:List α)(W:World):Exit->Act->World->Prop
 | .normal,_,W'=>Q0 (fun b=>¬ K b) W W'/\I xs W'
 | .ret,_,W'=>Q0 (fun b=>¬ K b) W W'/\Ix .ret xs W'
 | .exit id,_,W'=>Q0 (fun b=>¬ K b) W W'/\Ix (.exit id) xs W'
 | .goto t,_,W'=>Q0 (fun b=>¬ K b) W W'/\Ix (.goto t) xs W'
 | .panic _,_,_=>False
 | .outgrown,_,_=>False
theorem Ln{α:Type}{P:Program}{g:Operand}{ps:Array Tmp}{assign body:Code}{Q:Exit->Act->World->Prop}{a:Act}{w:World}
  {gf:Nat} {lb:Array Value} (b7:a.eval g=.func (.func gf) #[] lb) (a5:∀ args w,(callFunc gf args).run P w=.ok (.enter gf args) w)
  {H:α->Array Value} {xs:List α} {S K:Nat->Prop} (c2:Q39 P gf lb H xs S K w) (b1:∀ b,S b->K b) (a2:∀ b,K b->b<w.heap.size) (c0:∀ x,(H x).size=ps.size)
  (I:List α->World->Prop) (C:Code->List α->World->Prop)
  (L:∀ pre A B,I pre A->Q0 (fun b=>S b\/b=w.heap.size+1) A B->I pre B)
  (D:∀ c pre A B,C c pre A->Q0 (fun b=>S b\/b=w.heap.size+1) A B->C c pre B)
  (a6:∀ W,Ext w W->W.heap.size=w.heap.size+2->I [] W) (a4:α->Array Value->Array Value)
  (b2:∀(x:α) (W:World) (Kn:Act->World->Prop),Kn { tmps:=a4 x a.tmps,defers:=[] } W ->
   assign.wpIn (Fence.wide.inRound (w.heap.size+1)) 0 P (Exit.then Kn (fun _ _ _=>False)) { tmps:=(ps.zip (H x)).foldl (fun t (p,v)=>t.setIfInBounds p v) a.tmps,defers:=[] } W)
  (b3:∀(pre:List α) (x:α) (rest:List α) (W:World),xs=pre++x::rest->w.heap.size+2<=W.heap.size->Q0 (fun b=>¬ K b\/S b) w W->I pre W ->
   body.wpIn (Fence.wide.inRound (w.heap.size+1)) 0 P (Q2c (fun b=>K b\/b=w.heap.size\/b=w.heap.size+1) I C (pre++[x]) W) { tmps:=a4 x a.tmps,defers:=[] } W)
  (b6:∀ W,I xs W->Q0 (fun b=>¬ K b\/S b) w W->W.heap[w.heap.size]?=some (.deferred (some []))->Q .normal { a with defers:={ target:=.collected w.heap.size,args:=#[] }::a.defers } W)
  (c3:∀ c pre x rest W,xs=pre++x::rest->C c (pre++[x]) W->W.heap[w.heap.size]?=some (.deferred (some []))->c.wp P Q { a with defers:={ target:=.collected w.heap.size,args:=#[] }::a.defers } W) :
  (Code.rangeFunc g ps assign body).wp P Q a w:=by
 refine(wpIn_wide (n:=0)).1 (wpIn_rangeFunc ?_);intro fn _;obtain⟨e,k⟩:∃ e:LoopState->Option Code->Loop,e=fun st pe=>{ state:=st,pending:=pe,fn,tmps:=a.tmps,params:=ps,assign,body,defers:=w.heap.size }:=⟨_,rfl⟩;obtain⟨j,E⟩:=zE ((w.alloc (.deferred (some []))).alloc (.loop (e .ready none)));have b0:j.heap[w.heap.size+1]?=some (.loop (e .ready none)):=by
  rw [<-E];have:=World.alloc_heap_new (w.alloc (.deferred (some []))) (.loop (e .ready none));rwa [World.size_alloc] at this
 have a9:j.heap[w.heap.size]?=some (.deferred (some [])):=by
  rw [<-E];exact(Below.heap_alloc _ _ _ zy).trans (World.alloc_heap_new w _)
 have T:Ext w j:=by rw [<-E];exact((Q0.refl _ w).alloc _).alloc _
 have c1:j.heap.size=w.heap.size+2:=by rw [<-E];simp
 have M:∀ b,S b->b≠w.heap.size+1/\b≠w.heap.size:=fun b hb=>by have:=a2 b (b1 b hb);omega
 refine⟨w.heap.size+1,[{ target:=.collected w.heap.size,args:=#[] }],j,{ target:=.fn (.func gf) lb,args:=#[.func (.yield (w.heap.size+1)) #[] #[]] },j,gf,
  #[.func (.yield (w.heap.size+1)) #[] #[]]++lb,j,?_,?_,fun _ _=>trivial,?_,fun h=>by simp [Fence.wide] at h,?_⟩
 ·rw [<-E,k];exact run_enterLoop_outer _ _ _ _ _
 ·simp only [resolve,b7];simp [go_sem]
 ·simp [invoke,go_sem,a5]
 ·refine callsIn_wide.2 ((c2 (w.heap.size+1)
   (fun pre W=>I pre W/\W.heap[w.heap.size+1]?=some (.loop (e .ready none))/\W.heap[w.heap.size]?=some (.deferred (some []))/\Q0 (fun b=>¬ K b\/S b) w W/\w.heap.size+2<=W.heap.size)
   (fun pre W=>∃ c,C c pre W/\W.heap[w.heap.size+1]?=some (.loop (e .done (some c)))/\W.heap[w.heap.size]?=some (.deferred (some [])))
   j T.of ?_ ?_ ?_ ⟨a6 _ T c1,b0,a9,T.of,by omega⟩).mono ?_)
  ·rintro pre A B ⟨N,O,R,a7,a8⟩ f;exact⟨L _ _ _ N (f.mono fun b _ hb=>.inl hb),f.heap O (fun hb=>(M _ hb).1 rfl),f.heap R (fun hb=>(M _ hb).2 rfl),a7.after f (fun b _ hb=>.inr hb),Nat.le_trans a8 f.size⟩
  ·rintro pre A B ⟨c,N,O,R⟩ f;exact⟨c,D _ _ _ _ N (f.mono fun b _ hb=>.inl hb),f.heap O (fun hb=>(M _ hb).1 rfl),f.heap R (fun hb=>(M _ hb).2 rfl)⟩
  · -- one round
   rintro pre x rest W Y ⟨G,u,F,f,V⟩;have b9:w.heap.size+1<W.heap.size:=by omega
   have Z:=run_yield (P:=P) (args:=H x) u (by rw [k];exact c0 x);rw [k] at Z;refine⟨fn,_,assign,body,Z,roundIn_of_wpIn trivial (b2 x W _ ?_)⟩;clear Z;refine⟨_,run_beginRound u (by rw [k]),?_⟩;have b8:(W.putObj (w.heap.size+1) (.loop { e .ready none with state:=.busy })).heap[w.heap.size+1]?=some (.loop { e .ready none with state:=.busy }):=World.putObj_heap_same b9;have b4:(W.putObj (w.heap.size+1) (.loop { e .ready none with state:=.busy })).heap[w.heap.size]?=some (.deferred (some [])):=(World.putObj_heap_other oz).trans F;have l:∀(X:World) o,Q0 (fun b=>S b\/b=w.heap.size+1) X (X.putObj (w.heap.size+1) o):=fun X o=>(Q0.refl _ X).putObj (.inr (.inr rfl)) o;have U:∀(X:World) o,Q0 (fun b=>¬ K b) X (X.putObj (w.heap.size+1) o):=fun X o=>(Q0.refl _ X).putObj (.inr (fun hk=>by have:=a2 _ hk;omega)) o;refine wpIn_mono (b3 pre x rest _ Y (by simpa using V) (f.after (U W _) (fun b _ hb=>.inl hb)) (L _ _ _ G (l W _))) ?_
   have J:∀(jump:Option Code) (d:World),Q0 (fun b=>¬ (K b\/b=w.heap.size\/b=w.heap.size+1)) (W.putObj (w.heap.size+1) (.loop { e .ready none with state:=.busy })) d ->
     (Instr.endRound (w.heap.size+1) jump).run P d=.ok (.bool jump.isNone) (d.putObj (w.heap.size+1) (.loop (e (if jump.isNone then .ready else .done) jump))) /\
     (d.putObj (w.heap.size+1) (.loop (e (if jump.isNone then .ready else .done) jump))).heap[w.heap.size+1]?=some (.loop (e (if jump.isNone then .ready else .done) jump)) /\
     (d.putObj (w.heap.size+1) (.loop (e (if jump.isNone then .ready else .done) jump))).heap[w.heap.size]?=some (.deferred (some [])) /\
     Q0 (fun b=>¬ K b) W (d.putObj (w.heap.size+1) (.loop (e (if jump.isNone then .ready else .done) jump))):=fun jump d i=>by
    have a3:=i.heap b8 (fun h=>h (.inr (.inr rfl)));have b5:=i.heap b4 (fun h=>h (.inr (.inl rfl)));have:=run_endRound (P:=P) jump a3;rw [k] at this ⊢;refine⟨this,World.putObj_heap_same (Array.getElem?_eq_some_iff.1 a3).1,(World.putObj_heap_other oz).trans b5,?_⟩;exact((U W _).trans (i.mono fun b _ hb hk=>hb (.inl hk))).trans (U d _)
   rintro a1 c4 d y;cases a1 with
   | normal=>
    obtain⟨i,q⟩:=y;obtain⟨s,r,m,z⟩:=J none d i;exact⟨_,_,s,.inl ⟨rfl,⟨L _ _ _ q (l d _),r,m,f.after z (fun b _ hb=>.inl hb),Nat.le_trans V z.size⟩,z⟩⟩
   | ret=>
    obtain⟨i,q⟩:=y;obtain⟨s,r,m,z⟩:=J (some .ret) d i;exact⟨_,_,s,.inr ⟨rfl,.ret,D _ _ _ _ q (l d _),r,m⟩⟩
   | exit id=>
    obtain⟨i,q⟩:=y;obtain⟨s,r,m,z⟩:=J (some (.exit id)) d i;exact⟨_,_,s,.inr ⟨rfl,.exit id,D _ _ _ _ q (l d _),r,m⟩⟩
   | goto t=>
    obtain⟨i,q⟩:=y;obtain⟨s,r,m,z⟩:=J (some (.goto t)) d i;exact⟨_,_,s,.inr ⟨rfl,.goto t,D _ _ _ _ q (l d _),r,m⟩⟩
   | panic ch=>exact y.elim
   | outgrown=>exact y.elim
  · -- behind the iterator
   have l:∀(X:World) o,Q0 (fun b=>S b\/b=w.heap.size+1) X (X.putObj (w.heap.size+1) o):=fun X o=>(Q0.refl _ X).putObj (.inr (.inr rfl)) o;rintro a1 a0 ⟨⟨v,rfl⟩,(⟨G,u,F,f,V⟩ | ⟨pre,x,rest,Y,c,G,u,F⟩)⟩
   ·refine⟨none,_,by have:=run_endLoop (P:=P) u (by rw [k];simp);rw [k] at this;exact this,?_⟩;exact b6 _ (L _ _ _ G (l a0 _)) (f.putObj (.inl oz) _) ((World.putObj_heap_other oz).trans F)
   ·refine⟨some c,_,by have:=run_endLoop (P:=P) u (by rw [k];simp);rw [k] at this;exact this,?_⟩;exact(wpIn_wide (n:=0)).2 (c3 c pre x rest _ Y (D _ _ _ _ G (l a0 _)) ((World.putObj_heap_other oz).trans F))
end Go.Ab
namespace Go.Proofs.YtfdlhlghcbeblaaGreatDoor
open Go.RowKit Go.Ab
def Tab(w:World):Prop:=∀ j,j<64->w.cell? ⟨0,j,none⟩=some (.int .u8 (Lib.deBruijn64tab.getD j 0))
theorem Tab.keep{S:Nat->Prop}{A B:World}(h:Tab A)(ht:Q0 S A B)(hS:¬ S 0):Tab B:=
 fun j hj=>ht.cell_some (h j hj) hS
theorem Qf5(x k a:Nat)(w:World)(g:((x:Int) == 0)=false)
  (b:IntKind.u64.wrap (bits BinOp.and IntKind.u64 (x:Int) (IntKind.u64.wrap (-(x:Int)))*285870213051353865) / 288230376151711744=(a:Int))
  (d:a<64) (f:k<64) (c:w.cell? ⟨0,a,none⟩=some (.int .u8 k)) :
  Calls Tryz.prog 152 #[.int .u64 x] w fun e w'=>e=.returned (.int .i64 k)/\w=w':=by
 go_enter Tryz.func152,Tryz.ntmps152
 go_wp2_with (simp only [b])
 go_ret;exact⟨rfl,rfl⟩
theorem Qa5(x:Nat)(d:x<18446744073709551616)(f:x≠0)(w:World)(g:Tab w) :
  Calls Tryz.prog 152 #[.int .u64 x] w fun e w'=>e=.returned (.int .i64 (Lib.ctz 64 x))/\w=w':=by
 obtain⟨i,c⟩:=Lib.lowest_bit 64 x f d;obtain⟨b,j⟩:=Lib.deBruijn64_at _ c;have a:=g _ b;rw [j] at a;exact Qf5 x _ _ w (by simp;omega) (tz64_key x _ d f i) b c a
end Go.Proofs.YtfdlhlghcbeblaaGreatDoor
namespace Go.Ab
open Go.RowKit
variable {P:Program} {ops:Array Oper} {Q:Exit->Act->World->Prop}
theorem Q50{o:Oper}{a:Act}{w:World}{K:Act->World->Prop}{l n:Nat}(d:∀ c,o.op≠.defer c)(b:¬ LetsOut Q)
  (h:o.wp P a w K Q\/(o.asks P a w/\LetsOut Q)):o.wpIn (Fence.wide.inRound l) n P a w K Q:=by
 have h:=h.resolve_right fun h=>b h.2;refine⟨fun _ _=>trivial,?_⟩;rw [Oper.semAt_eq _ _ _ d];unfold Oper.wp at h;generalize (execOp a.eval o).run P w=e at *;cases e with
 | ok x w'=>
  cases x <;> simp only [Oper.upon,Oper.uponIn] at h ⊢ <;> first
   | exact h
   | exact⟨fun hh=>by simp [Fence.wide] at hh,(callsIn_wide.2 h).inRound l⟩
   | exact⟨fun hh=>by simp [Fence.wide] at hh,fun c cs _=>let ⟨v,w'',hR,hs⟩:=h c cs;⟨v,w'',hR,stepsIn_wide.2 hs⟩⟩
 | halt x w'=>cases x <;> simp only [Oper.upon,Oper.uponIn] at h ⊢ <;> exact h
def Vk(ops:Array Oper):Bool:=ops.all fun o=>match o.op with | .defer _=>false | _=>true
theorem Q2a(h:Vk ops=true){i:Nat}{o:Oper}(a:ops[i]?=some o)(c:Call):o.op≠.defer c:=by
 intro b;have:=Array.all_eq_true.1 h i (Array.getElem?_eq_some_iff.1 a).1;rw [(Array.getElem?_eq_some_iff.1 a).2,b] at this;simp at this
theorem Ml{l n:Nat}(g:Vk ops=true)(f:¬ LetsOut Q){i:Nat}{K d:Act->World->Prop}{a:Act}{w:World}(e:∀ a w,K a w->d a w)
  (h:wpOp P ops Q i K a w):wpOpIn (Fence.wide.inRound l) n P ops Q i d a w:=by
 have h:=wpOp_mono e h;unfold wpOp at h;unfold wpOpIn
 split
 ·rename_i b;rw [b] at h;exact h
 ·rename_i j b
  rw [b] at h;simp only at h
  split
  ·rename_i c;rw [if_pos c] at h;exact Q50 (Q2a g b) f h
  ·rename_i c;rw [if_neg c] at h;exact⟨fun _ _=>trivial,h⟩
theorem R9{l n:Nat}{md:Region.Mode}(hd:Vk ops=true)(hQ:¬ LetsOut Q):∀(f:Nat) (listed:Array Bool) (a:Act) (w:World),
  wpAny P md ops Q f listed a w->wpAnyIn (Fence.wide.inRound l) n P md ops Q f listed a w
 | 0,_,_,_,h=>h
 | f+1,_,_,_,h=>⟨h.1,fun i hi=>Ml hd hQ (fun a w h=>R9 hd hQ f _ a w h) (h.2 i hi)⟩
theorem Ra{l n:Nat}(hd:Vk ops=true)(hQ:¬ LetsOut Q):∀(is:List Nat) (a:Act) (w:World),
  wpOps P ops Q is a w->wpOpsIn (Fence.wide.inRound l) n P ops Q is a w
 | [],_,_,h=>h
 | i::is,a,w,h=>by
  rw [wpOps_cons] at h;rw [wpOpsIn_cons];exact Ml hd hQ (fun a w h=>Ra hd hQ is a w h) h
theorem Xv{id l n:Nat}{a:Act}{w:World}{os:List Oper}(hd:Vk os.toArray=true)(hQ:¬ LetsOut Q)
  (h:wpList P os.toArray Q os a w):(Code.region id os.toArray false).wpIn (Fence.wide.inRound l) n P Q a w:=
 wpIn_region (Ra hd hQ _ _ _ (by
  have:=wpOps_eq_wpList (P:=P) (ops:=os.toArray) (Q:=Q) os 0 zy;rw [show List.range os.toArray.size=List.range' 0 os.length by simp [List.range_eq_range'],this];exact h))
theorem Ha{id l n:Nat}{a:Act}{w:World}(hm:P.follows .mixedOrders=true)(hd:Vk ops=true)(hQ:¬ LetsOut Q)
  (h:wpAny P .any ops Q ops.size (Array.replicate ops.size false) a { w with drawn:=w.drawn+1 }):(Code.region id ops true).wpIn (Fence.wide.inRound l) n P Q a w:=
 wpIn_region_any hm (R9 hd hQ _ _ _ _ h)
theorem Uy{x k n:Nat}{a:Act}{w:World}{l:List Oper}(m:Nat)(s:P.follows .mixedOrders=true)(c:Region.lexTailB .any l.toArray m=true)(p:Vk l.toArray=true)(i:¬ LetsOut Q)
  (h:wpStill P l.toArray w.drew (fun a'=>wpList P l.toArray Q (l.drop m) a' w.drew) (l.take m) a):(Code.region x l.toArray true).wpIn (Fence.wide.inRound k) n P Q a w:=by
 simp only [Region.lexTailB,Bool.and_eq_true,decide_eq_true_eq] at c;obtain⟨⟨⟨⟨v,e⟩,u⟩,o⟩,r⟩:=c;have z:m<l.length:=by simpa using e
 have b:(l.take m).length=m:=by simp;omega
 have d:(l.drop m).length=l.toArray.size - m:=by simp
 have y:HeadInv .any l.toArray m (Array.replicate l.toArray.size false):=
  ⟨by simp,fun j oj _ hl=>(by rw [getD_replicate_false] at hl;cases hl),fun t _ ht=>getD_in (by simpa using ht) (getD_replicate_false _ _)⟩
 have f:=wpAnyL_lex (md:=.any) (g:=l.toArray.size - m) v u o e (l.take m) 0 _ a (fun j hj=>by
  have q:j<m:=by rw [b] at hj;exact hj
  simp [q]) (by simpa using b) y (by rw [b];exact r) h
 refine Ha s p i ?_
 have:=wpAny_of_head (Q':=Q) (g:=l.toArray.size - m) (fun listed a' hL=>by
  have:=wpAny_of_seq (md:=.any) (Q':=Q) (l.drop m) m listed a' { w with drawn:=w.drawn+1 } (fun j=>by simp [List.getElem?_drop]) (by rw [d];exact hL.1) hL.2
  rwa [d] at this) _ _ _ f
 rw [b,show m+(l.toArray.size - m)=l.toArray.size by omega] at this;exact this
theorem Kt{id:Nat}{a:Act}{w:World}{l:List Oper}(m:Nat)(hm:P.follows .mixedOrders=true)(hB:Region.lexTailB .any l.toArray m=true)
  (h:wpStill P l.toArray w.drew (fun a'=>wpList P l.toArray Q (l.drop m) a' w.drew) (l.take m) a):(Code.region id l.toArray true).wp P Q a w:=
 wp_region_still_tail m hm hB h
end Go.Ab
namespace Go.Ab
inductive Pat where
 | node (k:Int) (pl mi:Nat) (nt:Bool) (mn mx:Int) (l:List Pat)
namespace Pat
def k:Pat->Int | node k _ _ _ _ _ _=>k
def pl:Pat->Nat | node _ p _ _ _ _ _=>p
def mi:Pat->Nat | node _ _ m _ _ _ _=>m
def nt:Pat->Bool | node _ _ _ b _ _ _=>b
def mn:Pat->Int | node _ _ _ _ x _ _=>x
def mx:Pat->Int | node _ _ _ _ _ x _=>x
def l:Pat->List Pat | node _ _ _ _ _ _ l=>l
end Pat
def Z8(pl mi:Nat):Bool:=pl &&& mi == 0 && (pl ||| mi) / 16777216 == 0
def Yo(p:Pat):Int:=
 if p.k<0\/6<p.k then 2
 else if p.k≠1/\(p.pl≠0\/p.mi≠0\/p.nt=true) then 2
 else if p.k≠3/\p.k≠4/\p.k≠5/\p.l.length≠0 then 2
 else if p.k≠5/\(p.mn≠0\/p.mx≠0) then 2
 else if p.k=5/\(p.l.length≠1\/p.mn<0\/32<p.mn\/(p.mx≠-1/\(p.mx<p.mn\/32<p.mx))) then 2
 else if Z8 p.pl p.mi=true then 0 else 14
def chk:Nat->List Pat->Int
 | _,[]=>0
 | 0,_::_=>12
 | f+1,p::l=>if Yo p=0 then chk f (p.l++l) else Yo p
theorem La(f:Nat)(p:Pat)(l:List Pat):chk (f+1) (p::l)=if Yo p=0 then chk f (p.l++l) else Yo p:=rfl
def Zw(p:Pat):Int:=chk 40 [p]
def Rm(r:Nat × Int)(f:Nat->Nat × Int):Nat × Int:=if r.2=0 then f r.1 else r
mutual
def Yn:Pat->Nat->Nat × Int
 | .node k pl mi nt mn mx l,n=>if n=40 then(n,12) else if Yo (.node k pl mi nt mn mx l)=0 then Xj l (n+1) else(n,Yo (.node k pl mi nt mn mx l))
def Xj:List Pat->Nat->Nat × Int
 | [],n=>(n,0)
 | p::l,n=>Rm (Yn p n) (Xj l)
end
mutual
theorem Dq:∀(p:Pat) (n:Nat) (rest:List Pat),n<=40->((Yn p n).1<=40/\n<=(Yn p n).1)/\chk (40 - n) (p::rest)=(if (Yn p n).2=0 then chk (40 - (Yn p n).1) rest else(Yn p n).2)
 | .node k pl mi nt mn mx l,n,rest,hn=>by
  unfold Yn;by_cases h:n=40
  ·subst h;rw [if_pos rfl];exact⟨⟨by simp,by simp⟩,by simp [chk]⟩
  ·rw [if_neg h];obtain⟨f,hf⟩:∃ f,40 - n=f+1:=⟨39 - n,by omega⟩;rw [hf];by_cases he:Yo (.node k pl mi nt mn mx l)=0
   ·rw [if_pos he];have:=M4 l (n+1) rest (by omega);refine⟨⟨this.1.1,by have:=this.1.2;omega⟩,?_⟩;rw [La,if_pos he,<-this.2,show 40 - (n+1)=f by omega];rfl
   ·rw [if_neg he];refine⟨⟨hn,Nat.le_refl _⟩,?_⟩;rw [La,if_neg he,if_neg he]
theorem M4:∀(l:List Pat) (n:Nat) (rest:List Pat),n<=40->((Xj l n).1<=40/\n<=(Xj l n).1)/\chk (40 - n) (l++rest)=(if (Xj l n).2=0 then chk (40 - (Xj l n).1) rest else(Xj l n).2)
 | [],n,rest,hn=>by simp [Xj,hn]
 | p::l,n,rest,hn=>by
  have h1:=Dq p n (l++rest) hn;rw [List.cons_append];unfold Xj Rm;by_cases he:(Yn p n).2=0
  ·rw [if_pos he] at h1 ⊢;have h2:=M4 l (Yn p n).1 rest h1.1.1;exact⟨⟨h2.1.1,Nat.le_trans h1.1.2 h2.1.2⟩,h1.2.trans h2.2⟩
  ·rw [if_neg he] at h1 ⊢;exact⟨h1.1,by rw [h1.2,if_neg he]⟩
end
theorem Bp(p:Pat):(Yn p 0).2=Zw p:=by
 have b:=(Dq p 0 [] (by omega)).2;unfold Zw;rw [b];by_cases a:(Yn p 0).2=0
 ·rw [if_pos a,a];cases 40 - (Yn p 0).1 <;> rfl
 ·rw [if_neg a]
theorem T5:∀(f:Nat) (l:List Pat) (m:Nat),f+1<=m->chk f (l.take m)=chk f l
 | f,[],m,_=>by simp
 | 0,p::l,m,h=>by
  obtain⟨m,rfl⟩:∃ k,m=k+1:=⟨m - 1,by omega⟩;rfl
 | f+1,p::l,m,h=>by
  obtain⟨m,rfl⟩:∃ k,m=k+1:=⟨m - 1,by omega⟩;rw [List.take_succ_cons];rw [La,La];by_cases he:Yo p=0
  ·rw [if_pos he,if_pos he];have h1:=T5 f (p.l++l) (p.l.length+m) (by omega);have h2:(p.l++l).take (p.l.length+m)=p.l++l.take m:=by
    rw [List.take_append];simp [List.take_of_length_le]
   rw [<-h1,h2]
  ·rw [if_neg he,if_neg he]
theorem Qf9(f:Nat)(l rest:List Pat)(b:f<=40):chk f (l.take 41++rest)=chk f (l++rest):=by
 rw [<-T5 f (l.take 41++rest) 41 (by omega),<-T5 f (l++rest) 41 (by omega),List.take_append,List.take_append,List.take_take,List.length_take]
 congr 2
 by_cases a:l.length<=41
 ·rw [Nat.min_eq_right a]
 ·rw [Nat.min_eq_left (by omega),show 41 - l.length=0 by omega]
def szW:Nat->List Pat->Nat
 | _,[]=>0
 | 0,_::_=>0
 | f+1,p::l=>szW f (p.l++l)+1
def W8(p:Pat):Nat:=szW 41 [p]
mutual
def Vr:Pat->Nat->Nat
 | .node _ _ _ _ _ _ l,n=>Gx l (n+1)
def Gx:List Pat->Nat->Nat
 | [],n=>n
 | p::l,n=>if n<=40 then Gx l (Vr p n) else n
end
theorem Sp(l:List Pat):szW 0 l=0:=by cases l <;> rfl
mutual
theorem Cw:∀(p:Pat) (n:Nat) (rest:List Pat),n<=40->(Vr p n<=41/\n<Vr p n)/\n+szW (41 - n) (p::rest)=Vr p n+szW (41 - Vr p n) rest
 | .node k pl mi nt mn mx l,n,rest,hn=>by
  unfold Vr;obtain⟨f,hf⟩:∃ f,41 - n=f+1:=⟨40 - n,by omega⟩;have h:=Q5y l (n+1) rest (by omega);refine⟨⟨h.1.1,h.1.2⟩,?_⟩;rw [<-h.2,hf,show 41 - (n+1)=f by omega];show n+(szW f (l++rest)+1)=_;omega
theorem Q5y:∀(l:List Pat) (n:Nat) (rest:List Pat),n<=41->(Gx l n<=41/\n<=Gx l n)/\n+szW (41 - n) (l++rest)=Gx l n+szW (41 - Gx l n) rest
 | [],n,rest,hn=>⟨⟨hn,Nat.le_refl _⟩,rfl⟩
 | p::l,n,rest,hn=>by
  unfold Gx;by_cases h:n<=40
  ·rw [if_pos h];have h1:=Cw p n (l++rest) h;have h2:=Q5y l (Vr p n) rest h1.1.1;exact⟨⟨h2.1.1,by have:=h1.1.2;have:=h2.1.2;omega⟩,by rw [List.cons_append,h1.2,h2.2]⟩
  ·rw [if_neg h];obtain rfl:n=41:=by omega
   exact⟨⟨Nat.le_refl _,Nat.le_refl _⟩,by rw [Nat.sub_self,Sp,Sp]⟩
end
theorem Q9t(p:Pat):Vr p 0=W8 p:=by
 have a:=(Cw p 0 [] (by omega)).2;have b:szW (41 - Vr p 0) []=0:=by cases 41 - Vr p 0 <;> rfl
 rw [b,Nat.sub_zero,Nat.zero_add,Nat.add_zero] at a;exact a.symm
end Go.Ab
namespace Go.Ab
abbrev Qh:=Nat->Nat->Bool
abbrev Wd:=List (Nat × Nat)
def comp(X Y:Qh):Qh:=fun a c=>(List.range 33).any fun b=>X a b && Y b c
def idB(n:Nat):Qh:=fun a b=>a == b && decide (a<=n)
def orB(X Y:Qh):Qh:=fun a b=>X a b || Y a b
def noB:Qh:=fun _ _=>false
def Qx(X:Qh)(n:Nat):Nat->Qh
 | 0=>idB n
 | k+1=>comp X (Qx X n k)
def Qp(n:Nat)(X:Qh):Prop:=∀ a b,X a b=true->a<=b/\b<=n
theorem Xo{X Y:Qh}{a c:Nat}:comp X Y a c=true↔∃ b,b<33/\X a b=true/\Y b c=true:=by
 simp only [comp,List.any_eq_true,List.mem_range,Bool.and_eq_true]
theorem Gi{n a b:Nat}:idB n a b=true↔a=b/\a<=n:=by simp [idB]
theorem Fp{X Y:Qh}{a b:Nat}:orB X Y a b=true↔X a b=true\/Y a b=true:=by simp [orB]
theorem Hf{X Y:Qh}(h:∀ a b,X a b=true↔Y a b=true):X=Y:=by
 funext a b;exact Bool.eq_iff_iff.2 (h a b)
theorem Qp.id(n:Nat):Qp n (idB n):=fun a b h=>by rw [Gi] at h;omega
theorem Qp.no(n:Nat):Qp n noB:=fun a b h=>by cases h
theorem Qp.comp{n:Nat}{X Y:Qh}(h:Qp n X)(k:Qp n Y):Qp n (comp X Y):=fun a c hc=>by
 obtain⟨b,_,h1,h2⟩:=Xo.1 hc;have:=h _ _ h1;have:=k _ _ h2;omega
theorem Qp.or{n:Nat}{X Y:Qh}(h:Qp n X)(k:Qp n Y):Qp n (orB X Y):=fun a b hc=>by
 rcases Fp.1 hc with hc | hc
 ·exact h _ _ hc
 ·exact k _ _ hc
theorem Qp.pow{n:Nat}{X:Qh}(h:Qp n X):∀ k,Qp n (Qx X n k)
 | 0=>Qp.id n
 | k+1=>h.comp (Qp.pow h k)
theorem Nl(X Y Z:Qh):comp (comp X Y) Z=comp X (comp Y Z):=by
 apply Hf;intro i j;simp only [Xo];constructor
 ·rintro⟨b,g,⟨a,f,c,d⟩,e⟩;exact⟨a,f,c,b,g,d,e⟩
 ·rintro⟨a,f,c,b,g,d,e⟩;exact⟨b,g,⟨a,f,c,d⟩,e⟩
theorem Q64{n:Nat}(e:n<=32){X:Qh}(h:Qp n X):comp X (idB n)=X:=by
 apply Hf;intro c b;simp only [Xo,Gi];constructor
 ·rintro⟨d,_,a,rfl,_⟩;exact a
 ·intro a;have:=h _ _ a;exact⟨b,by omega,a,rfl,by omega⟩
theorem Q5o{n:Nat}(e:n<=32){X:Qh}(h:Qp n X):comp (idB n) X=X:=by
 apply Hf;intro b d;simp only [Xo,Gi];constructor
 ·rintro⟨c,_,⟨rfl,_⟩,a⟩;exact a
 ·intro a;have:=h _ _ a;exact⟨b,by omega,⟨rfl,by omega⟩,a⟩
theorem Fr{n:Nat}(hn:n<=32){X:Qh}(h:Qp n X)(j:Nat):∀ k,Qx X n (k+j)=comp (Qx X n k) (Qx X n j)
 | 0=>by rw [Nat.zero_add];exact(Q5o hn (Qp.pow h j)).symm
 | k+1=>by
  rw [show k+1+j=(k+j)+1 by omega];show comp X _=comp (comp X _) _;rw [Fr hn h j k,Nl]
theorem Q6b{n:Nat}(hn:n<=32){X:Qh}(h:Qp n X):Qx X n 1=X:=Q64 hn h
theorem Tf{n:Nat}(a:n<=32){X:Qh}(h:Qp n X)(k:Nat):Qx X n (k+1)=comp (Qx X n k) X:=by
 rw [Fr a h 1 k,Q6b a h]
def Qhj(n:Nat):Nat->Nat->Qh->Qh->Qh
 | 0,_,_,out=>out
 | f+1,k,x,out=>if k=0 then out else Qhj n f (k / 2) (comp x x) (if k % 2=1 then comp out x else out)
theorem Cm{n:Nat}(hn:n<=32){X:Qh}(h:Qp n X):∀ k,Qx (comp X X) n k=Qx X n (2*k)
 | 0=>rfl
 | k+1=>by
  show comp (comp X X) _=_;rw [Cm hn h k,show 2*(k+1)=2*k+1+1 by omega,Nl];rfl
def V3(X:Qh)(n lo:Nat):Nat->Qh
 | 0=>Qx X n lo
 | e+1=>orB (V3 X n lo e) (Qx X n (lo+(e+1)))
theorem Xa{X:Qh}{n lo:Nat}:∀ {e a b:Nat},V3 X n lo e a b=true↔∃ j,j<=e/\Qx X n (lo+j) a b=true
 | 0,a,b=>⟨fun h=>⟨0,Nat.le_refl _,h⟩,fun⟨j,h1,h2⟩=>by obtain rfl:j=0:=(by omega);exact h2⟩
 | e+1,a,b=>by
  show orB _ _ a b=true↔_;rw [Fp,Xa];constructor
  ·rintro(⟨j,h1,h2⟩ | h)
   ·exact⟨j,by omega,h2⟩
   ·exact⟨e+1,Nat.le_refl _,h⟩
  ·rintro⟨j,h1,h2⟩;by_cases hj:j<=e
   ·exact .inl ⟨j,hj,h2⟩
   ·obtain rfl:j=e+1:=by omega
    exact .inr h2
theorem Qp.sum{n:Nat}{X:Qh}(h:Qp n X)(lo e:Nat):Qp n (V3 X n lo e):=fun a b hh=>by
 obtain⟨j,_,h2⟩:=Xa.1 hh;exact Qp.pow h _ _ _ h2
theorem Nx{n:Nat}(hn:n<=32){X:Qh}(h:Qp n X):∀ e,Qx (orB X (idB n)) n e=V3 X n 0 e
 | 0=>rfl
 | e+1=>by
  apply Hf;intro a c;show comp _ _ a c=true↔_;rw [Xo,Xa];constructor
  ·rintro⟨b,hb,h1,h2⟩;rw [Nx hn h e,Xa] at h2;obtain⟨j,hj,h2⟩:=h2;rcases Fp.1 h1 with h1 | h1
   ·refine⟨j+1,by omega,?_⟩;rw [show 0+(j+1)=(0+j)+1 by omega];exact Xo.2 ⟨b,hb,h1,h2⟩
   ·obtain⟨rfl,_⟩:=Gi.1 h1;exact⟨j,by omega,h2⟩
  ·rintro⟨j,hj,h2⟩;rw [Nat.zero_add] at h2;cases j with
   | zero=>
    obtain⟨rfl,ha⟩:=Gi.1 h2;refine⟨a,by omega,Fp.2 (.inr (Gi.2 ⟨rfl,ha⟩)),?_⟩;rw [Nx hn h e,Xa];exact⟨0,by omega,Gi.2 ⟨rfl,ha⟩⟩
   | succ j=>
    obtain⟨b,hb,h3,h4⟩:=Xo.1 h2;refine⟨b,hb,Fp.2 (.inl h3),?_⟩;rw [Nx hn h e,Xa];exact⟨j,by omega,by rw [Nat.zero_add];exact h4⟩
def Ps(X:Qh)(n lo e:Nat):Qh:=comp (Qx X n lo) (Qx (orB X (idB n)) n e)
theorem Qc8{n:Nat}(g:n<=32){X:Qh}(h:Qp n X)(lo e:Nat):Ps X n lo e=V3 X n lo e:=by
 apply Hf;intro k l;unfold Ps;rw [Nx g h,Xo,Xa];constructor
 ·rintro⟨c,d,b,a⟩;obtain⟨i,f,a⟩:=Xa.1 a;rw [Nat.zero_add] at a;exact⟨i,f,by rw [Fr g h];exact Xo.2 ⟨c,d,b,a⟩⟩
 ·rintro⟨i,f,b⟩;rw [Fr g h] at b;obtain⟨c,d,a,j⟩:=Xo.1 b;exact⟨c,d,a,Xa.2 ⟨i,f,by rw [Nat.zero_add];exact j⟩⟩
theorem Q30{n:Nat}(hn:n<=32){X:Qh}(h:Qp n X):∀(k a b:Nat),Qx X n (k+1) a b=true->Qx X n k a b=true\/a+(k+1)<=b
 | 0,a,b,hh=>by
  rw [Q6b hn h] at hh;have:=h _ _ hh;by_cases e:a=b
  ·exact .inl (Gi.2 ⟨e,by omega⟩)
  ·exact .inr (by omega)
 | k+1,a,c,hh=>by
  obtain⟨b,hb,h1,h2⟩:=Xo.1 hh;rcases Q30 hn h k b c h2 with h3 | h3
  ·exact .inl (Xo.2 ⟨b,hb,h1,h3⟩)
  ·by_cases e:a=b
   ·subst e;exact .inl h2
   ·have:=h _ _ h1;exact .inr (by omega)
theorem Qei{n:Nat}(e:n<=32){X:Qh}(h:Qp n X){k a b:Nat}(f:n<=k)(d:Qx X n (k+1) a b=true):Qx X n k a b=true:=by
 rcases Q30 e h k a b d with c | c
 ·exact c
 ·have:=Qp.pow h _ _ _ d;omega
theorem Cl{n:Nat}(g:n<=32){X:Qh}(h:Qp n X)(lo:Nat):∀ e,n<=e->V3 X n lo e=V3 X n lo n:=by
 intro e f;obtain⟨a,rfl⟩:∃ a,e=n+a:=⟨e - n,by omega⟩;clear f
 induction a with
 | zero=>rfl
 | succ a ih=>
  rw [<-ih];apply Hf;intro c d;show orB _ _ c d=true↔_;rw [Fp];constructor
  ·rintro(b | b)
   ·exact b
   ·exact Xa.2 ⟨n+a,Nat.le_refl _,Qei g h (by omega) b⟩
  ·exact .inl
theorem Tu{n:Nat}(l:n<=32){X:Qh}(h:Qp n X){lo e:Nat}(u:V3 X n lo (e+1)=V3 X n lo e):∀ m,e<=m->V3 X n lo m=V3 X n lo e:=by
 intro m t;obtain⟨d,rfl⟩:∃ d,m=e+d:=⟨m - e,by omega⟩;clear t
 have v:∀(a b c:Nat),a<=e->Qx X n (lo+(a+1)) b c=true->V3 X n lo e b c=true:=fun a b c g f=>by
  rw [<-u];exact Xa.2 ⟨a+1,by omega,f⟩
 have o:∀(d a b c:Nat),a<=e->Qx X n (lo+(a+d)) b c=true->V3 X n lo e b c=true:=by
  intro d
  induction d with
  | zero=>exact fun a b c g f=>Xa.2 ⟨a,g,f⟩
  | succ d ih=>
   intro a b c g f;rw [show lo+(a+(d+1))=(lo+(a+1))+d by omega,Fr l h] at f;obtain⟨k,r,i,p⟩:=Xo.1 f;obtain⟨j,s,q⟩:=Xa.1 (v a b k g i);refine ih j b c s ?_;rw [show lo+(j+d)=(lo+j)+d by omega,Fr l h];exact Xo.2 ⟨k,r,q,p⟩
 apply Hf;intro b c;rw [Xa];constructor
 ·rintro⟨a,g,f⟩;exact o a 0 b c (by omega) (by rw [Nat.zero_add];exact f)
 ·intro f;obtain⟨a,g,i⟩:=Xa.1 f;exact⟨a,by omega,i⟩
def sat(s c:Nat × Nat):Bool:=(c.1 &&& s.1 == c.1) && (c.2 &&& s.2 == c.2)
def Z9(w:Wd)(c:Nat × Nat)(nt:Bool):Qh:=fun a b=>b == a+1 && decide (a<w.length) && (sat (w.getD a (0,0)) c != nt)
def Zk(a:Nat):Qh:=fun x y=>x == a && y == a
def Gh(n:Nat)(mn mx:Int):Nat:=if mx<0 then n else(mx - mn).toNat
mutual
def Ym(w:Wd):Pat->Qh
 | .node k pl mi nt mn mx l=>
  if k=1 then Z9 w (pl,mi) nt
  else if k=2 then Zk 0
  else if k=6 then Zk w.length
  else if k=4 then V0 w l
  else if k=5 then Pa w l mn mx
  else Uh w l (idB w.length)
def Uh(w:Wd):List Pat->Qh->Qh
 | [],X=>X
 | p::l,X=>Uh w l (comp X (Ym w p))
def V0(w:Wd):List Pat->Qh
 | []=>noB
 | p::l=>orB (Ym w p) (V0 w l)
def Pa(w:Wd):List Pat->Int->Int->Qh
 | [],_,_=>noB
 | p::_,mn,mx=>Ps (Ym w p) w.length mn.toNat (Gh w.length mn mx)
end
theorem Qp.sound(w:Wd)(c:Nat × Nat)(nt:Bool):Qp w.length (Z9 w c nt):=fun a b h=>by
 simp only [Z9,Bool.and_eq_true,beq_iff_eq,decide_eq_true_eq] at h;omega
theorem Qp.edge{n a:Nat}(h:a<=n):Qp n (Zk a):=fun x y hh=>by
 simp only [Zk,Bool.and_eq_true,beq_iff_eq] at hh;omega
mutual
theorem Kq(w:Wd):∀ p,Qp w.length (Ym w p)
 | .node k pl mi nt mn mx l=>by
  unfold Ym
  split
  ·exact Qp.sound _ _ _
  ·split
   ·exact Qp.edge (Nat.zero_le _)
   ·split
    ·exact Qp.edge (Nat.le_refl _)
    ·split
     ·exact Pg w l
     ·split
      ·exact Q8q w l mn mx
      ·exact R1 w l _ (Qp.id _)
theorem R1(w:Wd):∀(l:List Pat) (X:Qh),Qp w.length X->Qp w.length (Uh w l X)
 | [],_,h=>by unfold Uh;exact h
 | p::l,X,h=>by unfold Uh;exact R1 w l _ (h.comp (Kq w p))
theorem Pg(w:Wd):∀(l:List Pat),Qp w.length (V0 w l)
 | []=>by unfold V0;exact Qp.no _
 | p::l=>by unfold V0;exact(Kq w p).or (Pg w l)
theorem Q8q(w:Wd):∀(l:List Pat) (mn mx:Int),Qp w.length (Pa w l mn mx)
 | [],_,_=>by unfold Pa;exact Qp.no _
 | p::_,mn,mx=>by unfold Pa Ps;exact(Qp.pow (Kq w p) _).comp (Qp.pow ((Kq w p).or (Qp.id _)) _)
end
theorem Q0m(w:Wd)(p:Pat):∀(l:List Pat) (X:Qh),Uh w (l++[p]) X=comp (Uh w l X) (Ym w p)
 | [],X=>by simp [Uh]
 | q::l,X=>by rw [List.cons_append];unfold Uh;exact Q0m w p l _
theorem En(X Y Z:Qh):orB (orB X Y) Z=orB X (orB Y Z):=by funext a b;simp [orB,Bool.or_assoc]
theorem Qam(X:Qh):orB X noB=X:=by funext a b;simp [orB,noB]
theorem Q38(X:Qh):orB noB X=X:=by funext a b;simp [orB,noB]
theorem Q0p(w:Wd)(p:Pat):∀(l:List Pat),V0 w (l++[p])=orB (V0 w l) (Ym w p)
 | []=>by simp [V0,Qam,Q38]
 | q::l=>by rw [List.cons_append];unfold V0;rw [Q0p w p l,En]
end Go.Ab
namespace Go.Ab
def Yx(X:Qh)(n lo k:Nat):Qh:=if k<=lo then noB else V3 X n lo (k - lo - 1)
theorem Qa6(X:Qh)(n lo:Nat):Yx X n lo 0=noB:=by unfold Yx;rw [if_pos (Nat.zero_le _)]
theorem Q8u(X:Qh)(n:Nat){lo k:Nat}(h:k<lo):Yx X n lo (k+1)=Yx X n lo k:=by
 unfold Yx;rw [if_pos (by omega),if_pos (by omega)]
theorem Q8f(X:Qh)(n:Nat){lo k:Nat}(h:lo<=k):orB (Yx X n lo k) (Qx X n k)=Yx X n lo (k+1):=by
 unfold Yx;rw [if_neg (by omega:¬ k+1<=lo)];by_cases a:k<=lo
 ·obtain rfl:k=lo:=by omega
  rw [if_pos (Nat.le_refl _),Q38,show k+1 - k - 1=0 by omega];rfl
 ·rw [if_neg a,show k+1 - lo - 1=(k - lo - 1)+1 by omega];show _=orB _ (Qx X n (lo+(k - lo - 1+1)));rw [show lo+(k - lo - 1+1)=k by omega]
theorem Er{n:Nat}{X:Qh}(h:Qp n X)(lo k:Nat):Qp n (Yx X n lo k):=by
 unfold Yx;split
 ·exact Qp.no n
 ·exact Qp.sum h _ _
theorem Qct(X:Qh)(n:Nat){mn mx:Int}{k:Nat}(a:0<=mn)(b:mn<=mx)(c:(k:Int)=mx):Yx X n mn.toNat (k+1)=V3 X n mn.toNat (Gh n mn mx):=by
 unfold Yx Gh;rw [if_neg (by omega),if_neg (by omega)]
 congr 1;omega
theorem Q51{n:Nat}(a:n<=32){X:Qh}(h:Qp n X){mn mx:Int}{k:Nat}(i:0<=mn)(_h1:mx=-1\/mn<=mx)(j:mn<k)(l:mx=-1\/(k:Int)<=mx) (c:Yx X n mn.toNat k=Yx X n mn.toNat (k+1)) :
  Yx X n mn.toNat (k+1)=V3 X n mn.toNat (Gh n mn mx):=by
 rw [<-c];have b:Yx X n mn.toNat k=V3 X n mn.toNat (k - mn.toNat - 1):=by unfold Yx;rw [if_neg (by omega)]
 have f:Yx X n mn.toNat (k+1)=V3 X n mn.toNat (k - mn.toNat - 1+1):=by
  unfold Yx;rw [if_neg (by omega)];congr 1;omega
 rw [b];have d:V3 X n mn.toNat (k - mn.toNat - 1+1)=V3 X n mn.toNat (k - mn.toNat - 1):=by rw [<-f,<-c,b]
 unfold Gh;by_cases e:mx<0
 ·rw [if_pos e];by_cases g:n<=k - mn.toNat - 1
  ·exact Cl a h _ _ g
  ·exact(Tu a h d n (by omega)).symm
 ·rw [if_neg e];exact(Tu a h d _ (by omega)).symm
theorem Qdf{n:Nat}(a:n<=32){X:Qh}(h:Qp n X){lo k:Nat}(b:lo+n+1<=k):Yx X n lo k=Yx X n lo (k+1):=by
 unfold Yx;rw [if_neg (by omega),if_neg (by omega),Cl a h lo (k - lo - 1) (by omega),Cl a h lo (k+1 - lo - 1) (by omega)]
def Q2(X:Qh)(a:Nat):Nat:=Yt 33 (X a)
theorem Qdc{n:Nat}(g:n<=32){X Y:Qh}(e:Qp n X)(f:Qp n Y)(h:∀ a,a<=n->Q2 X a=Q2 Y a):X=Y:=by
 apply Hf;intro a c;constructor
 ·intro b;have d:=e _ _ b;have:=congrArg (fun v=>Nat.testBit v c) (h a (by omega));simp only [Q2,Ys] at this;rw [b] at this;simp only [show c<33 by omega,decide_true,Bool.true_and] at this;exact this.symm
 ·intro b;have d:=f _ _ b;have:=congrArg (fun v=>Nat.testBit v c) (h a (by omega));simp only [Q2,Ys] at this;rw [b] at this;simp only [show c<33 by omega,decide_true,Bool.true_and] at this;exact this
theorem Qd0{n:Nat}{X:Qh}(c:Qp n X){a:Nat}(h:n<a):Q2 X a=0:=by
 have:X a=fun _=>false:=by
  funext b
  cases hh:X a b with
  | false=>rfl
  | true=>have:=c _ _ hh;omega
 rw [Q2,this,Uc]
theorem Cg(X Y:Qh)(a:Nat):Q2 X a ||| Q2 Y a=Q2 (orB X Y) a:=by
 unfold Q2;rw [Gl];rfl
theorem Up(a:Nat):Q2 noB a=0:=Uc 33
theorem Co{n a:Nat}(b:n<=32)(h:a<=n):Q2 (idB n) a=2 ^ a:=by
 rw [Xp (n:=33) (by omega)]
 exact X7 fun i _=>by
  apply Bool.eq_iff_iff.2;rw [Gi,beq_iff_eq];omega
theorem Qcz(X:Qh){a b:Nat}(c:b<33):(Q2 X a).testBit b=X a b:=by
 rw [Q2,Ys];simp [c]
def Y8(Y:Qh)(pre:List Nat):Nat:=Yt 33 fun c=>pre.any fun b=>Y b c
theorem Q0s(Y:Qh):Y8 Y []=0:=Uc 33
theorem Nq(Y:Qh)(a:List Nat)(b:Nat):Y8 Y (a++[b])=Y8 Y a ||| Q2 Y b:=by
 unfold Y8 Q2;rw [Gl];exact X7 fun i _=>by simp
theorem Q0w(X Y:Qh)(a:Nat):Y8 Y ((List.range 33).filter (X a))=Q2 (comp X Y) a:=by
 unfold Y8 Q2 comp;exact X7 fun i _=>by rw [List.any_filter]
theorem Su(X:Qh)(a:Nat):evs (Q2 X a)=(List.range 33).filter (X a):=T4 33 (by decide) _
theorem Q7r{n:Nat}(j:n<=32){X:Qh}(e:Qp n X)(Y:Qh)(a:Nat):Y8 Y ((List.range (n+1)).filter (X a))=Q2 (comp X Y) a:=by
 rw [<-Q0w]
 congr 1
 have d:33=(n+1)+(32 - n):=by omega
 have b:((List.range (32 - n)).map (fun x=>n+1+x)).filter (X a)=[]:=by
  rw [List.filter_eq_nil_iff];intro i f g;obtain⟨k,_,rfl⟩:=List.mem_map.1 f;have:=e _ _ g;omega
 have c:List.range 33=List.range (n+1)++(List.range (32 - n)).map (fun x=>n+1+x):=by
  rw [<-List.range_add];exact congrArg _ d
 rw [c,List.filter_append,b,List.append_nil]
theorem Q5h(p:Nat->Bool)(b:Nat):(List.range (b+1)).filter p=(List.range b).filter p++(if p b=true then [b] else []):=by
 rw [List.range_succ,List.filter_append]
 congr 1
 by_cases a:p b=true <;> simp [a]
end Go.Ab
namespace Go.Proofs.YtfdlhlghcbeblaaGreatDoor
open Go.RowKit Go.Ab
attribute [local go_sem] Oper.semAt_some Zi Qz
theorem Q6i(v:Nat)(i:v<18446744073709551616)(o:v≠0) :
  bits BinOp.andNot IntKind.u64 (v:Int) (IntKind.u64.wrap (2 ^ Lib.ctz 64 v))=((v &&& (v - 1):Nat):Int):=by
 obtain⟨k,f,m⟩:=Q4l v o (by simpa using i);generalize Lib.ctz 64 v=c at f m;have g:2 ^ c<18446744073709551616:=by
  have:=Nat.pow_lt_pow_right (a:=2) zd m
  simpa using this
 have d:IntKind.u64.wrap (2 ^ c)=((2 ^ c:Nat):Int):=by
  rw [IntKind.wrap_u64];have d:((2:Int) ^ c)=((2 ^ c:Nat):Int):=by simp
  rw [d];generalize 2 ^ c=t at g;omega
 rw [d,u64_andNot_nat _ _ i g]
 congr 1
 apply Nat.eq_of_testBit_eq;intro b;have p:(18446744073709551615 - 2 ^ c).testBit b=(decide (b<64) && !(2 ^ c).testBit b):=by
  have:=Nat.testBit_two_pow_sub_succ (n:=64) (x:=2 ^ c) (by simpa using g) b
  simpa using this
 have l:v.testBit b=(decide (b=c) || (decide (c<b) && k.testBit (b - (c+1)))):=by rw [f];exact Pp c k b
 have q:(v &&& (v - 1)).testBit b=(decide (c<b) && k.testBit (b - (c+1))):=by
  rw [f,Q4g,Nat.testBit_two_pow_mul];simp only [ge_iff_le,Nat.succ_le_iff]
 rw [q,Nat.testBit_and,p,l,Nat.testBit_two_pow];by_cases e:b=c
 ·subst e;simp
 ·have s:¬ c=b:=fun d=>e d.symm;simp only [e,s,decide_false,Bool.false_or,Bool.not_false,Bool.and_true];by_cases r:b<64
  ·simp [r]
  ·have j:v.testBit b=false:=Nat.testBit_lt_two_pow (Nat.lt_of_lt_of_le i (Nat.pow_le_pow_right (n:=2) zd (show 64<=b by omega)));rw [l] at j;simp only [e,decide_false,Bool.false_or] at j;simp [j]
def Kh(w:World)(bx:Nat)(v:Nat):Prop:=w.heap[bx]?=some (.cells #[.int .u64 v] 361 (0,0))
theorem Kh.cell{w:World}{bx v:Nat}(h:Kh w bx v):w.cell? ⟨bx,0,none⟩=some (.int .u64 v):=cell_of_one h
theorem Kh.free{w:World}{bx v:Nat}(h:Kh w bx v):w.frozen? ⟨bx,0,none⟩=false:=free_of_one h
theorem Kh.store{w:World}{bx v:Nat}(u:Nat)(h:Kh w bx v):Kh (w.setCell ⟨bx,0,none⟩ (.int .u64 u)) bx u:=one_setCell h
def Q1n(w:World)(bx:Nat):Nat:=match w.cell? ⟨bx,0,none⟩ with | some (.int _ n)=>n.toNat | _=>0
theorem Q33{w:World}{bx v:Nat}(h:Kh w bx v):Q1n w bx=v:=by unfold Q1n;rw [h.cell];simp
theorem Qg5(v:Nat)(a:v<18446744073709551616):v &&& (v - 1)<18446744073709551616:=by
 have:=Nat.and_le_left (n:=v) (m:=v - 1);omega
theorem Qf6(v:Nat)(a:v≠0):(v &&& (v - 1))<v:=by
 have:=Nat.and_le_right (n:=v) (m:=v - 1);omega
theorem Q2g(v:Nat)(a1:v<18446744073709551616)(bx:Nat)(Y:bx≠0)(w:World)(W:Kh w bx v)(S:Tab w) :
  Q39 Tryz.prog 301 #[.pointer (some ⟨bx,0,none⟩)] (fun x:Nat=>#[.int .i64 x]) (evs v) (·=bx) (fun b=>b=bx\/b=0) w:=by
 intro b2 M a4 t F P a8 V O;have X:Kh t bx v:=F.heap W zy;have U:Tab t:=S.keep F zy;refine callsIn_wide.1 (callsIn_of_wp (n:=0) Tryz.func301 rfl trivial ?_ rfl);simp only [Tryz.ntmps301,zS,Nat.reduceAdd,Nat.reduceSub];gi_wp2
 gi_loopw [3] (fun _ wr=>∃(d:List Nat) (a:Nat),Kh wr bx a/\a<18446744073709551616/\evs v=d++evs a/\M d wr/\Tab wr)
  (fun _ wr=>Q1n wr bx)
 case atStart=>exact⟨[],v,X,a1,rfl,O,U⟩
 case round=>
  obtain⟨d,a,e,j,c,m,o⟩:=hrel;have Z:=e.cell;have q:Q1n wr bx=a:=Q33 e;by_cases f:a=0
  ·subst f;rw [Q31,List.append_nil] at c;clear q;gi_wp2;go_end0
   exact⟨⟨_,rfl⟩,.inl (by rw [c];exact m)⟩
  ·have b0:((a:Int) != 0)=true:=by simp;omega
   have i:=Q1x a f (by simpa using j);rw [i] at c;have a2:Lib.ctz 64 a<64:=(Ea.1 (by rw [i];simp:Lib.ctz 64 a∈evs a)).1;have a3:=Zh i;clear i;have H:=Zh q;clear q;have E:=Q6i a j f;obtain⟨k,s⟩:=zE (Lib.ctz 64 a);rw [s] at E a2 c;have l:=Zh c;clear c;have r:=Qa5 a j f wr o;rw [s] at r;have K:=Zh r;clear r s;have a9:=e.free;have b1:(k:Int)<64:=by omega
   have p:Q0 (·=bx) wr (wr.setCell ⟨bx,0,none⟩ (.int .u64 ((a &&& (a - 1):Nat):Int))).drew:=(Q0.set1 wr bx 0 _).drew;have y:=P _ _ _ m p;have B:Kh (wr.setCell ⟨bx,0,none⟩ (.int .u64 ((a &&& (a - 1):Nat):Int))).drew bx (a &&& (a - 1)):=Y4 (Kh.store (w:=wr) _ e);have A:Tab (wr.setCell ⟨bx,0,none⟩ (.int .u64 ((a &&& (a - 1):Nat):Int))).drew:=o.keep p (Ne.symm Y);have J:=Zh A;have a0:=Qg5 a j;obtain⟨a7,b3,a5,a6,g,z⟩:=V d _ _ _ l.out y
   gi_wp2_with (gi_at_call 152;refine(callsIn_wide.2 K.out).mono ?_;rintro N b4 ⟨rfl,rfl⟩)
   obtain⟨L,I,G⟩:=Zh3 g z B;clear g z p y A B;refine(wpIn_wide (n:=_)).2 ?_;refine Kt 4 kz kz ?_;simp only [List.take_succ_cons,List.take_zero,List.drop_succ_cons,List.drop_zero];repeat still_step
   refine wpStill_nil ?_;go_wp2;have g:=L.out;gi_wp2;refine I.out.mono ?_;rintro N u (⟨rfl,Q,D⟩ | ⟨rfl,R⟩)
   ·have C:Kh u bx (a &&& (a - 1)):=D.heap G.out zy;have T:Tab u:=J.out.keep D zy;clear g e Z o m E;gi_wp2
    go_roundw
    case rel=>exact⟨d++[k],a &&& (a - 1),C,a0,by rw [l.out];simp,Q,T⟩
    case measure=>rw [H.out,Q33 C];exact Qf6 a f
   ·clear g;gi_wp2;refine bodyPost_ret (results_none rfl _ _ _) rfl ?_;exact⟨⟨_,rfl⟩,.inr ⟨d,_,_,l.out,R⟩⟩
theorem Q6f(v:Int)(w:World) :
  Calls Tryz.prog 293 #[.int .u64 v] w fun e w'=>e=.returned (.func (.func 301) #[] #[.pointer (some ⟨w.heap.size,0,none⟩)])/\w'=w.alloc (.cells #[.int .u64 v] 361):=by
 go_enter Tryz.func293,Tryz.ntmps293;go_wp2;go_ret;exact⟨rfl,rfl⟩
def Qa(M:Qh):Array Value:=((List.range 33).map fun a=>Value.int .u64 (Q2 M a)).toArray
theorem Z2(M:Qh):(Qa M).size=33:=by simp [Qa]
theorem Xg(M:Qh):(Qa M=#[])=False:=by
 apply eq_false;intro a;have:=Z2 M;rw [a] at this;simp at this
theorem Qb0:Qa noB=(Array.replicate 33 (Value.int .u64 0)):=by
 unfold Qa;have:(fun a=>Value.int .u64 ((Q2 noB a:Nat):Int))=fun _=>Value.int .u64 0:=by funext a;rw [Up];rfl
 rw [this];rfl
theorem Jc(w:World):(zeroValue 363).run Tryz.prog w=.ok (.agg (Qa noB)) w:=by
 rw [Qb0];kernel_rfl
def Q4(f:Nat->Nat):Array Value:=((List.range 33).map fun a=>Value.int .u64 (f a)).toArray
theorem Ur(M:Qh):Qa M=Q4 (Q2 M):=rfl
theorem Q80(f:Nat->Nat)(a v:Nat):(Q4 f).setIfInBounds a (.int .u64 (v:Int))=Q4 fun i=>if i=a then v else f i:=by
 unfold Q4;rw [List.setIfInBounds_toArray]
 congr 1
 apply List.ext_getElem?;intro i;simp only [List.getElem?_set,List.getElem?_map,List.length_map,List.length_range];by_cases c:a=i
 ·subst c;by_cases b:a<33
  ·simp [b]
  ·simp [b]
 ·rw [if_neg c];by_cases b:i<33
  ·simp [b,Ne.symm c]
  ·simp [b]
theorem Y6{f g:Nat->Nat}(h:∀ a,a<33->f a=g a):Q4 f=Q4 g:=by
 unfold Q4;rw [List.map_congr_left fun a ha=>by rw [h a (List.mem_range.1 ha)]]
theorem Q70(f:Nat->Nat){a:Nat}(h:a<33):(Q4 f)[a]?=some (.int .u64 (f a)):=by simp [Q4,h]
theorem Qe(f:Nat->Nat):(Q4 f).size=33:=by simp [Q4]
def Qb(w:World)(b:Nat)(f:Nat->Nat):Prop:=w.heap[b]?=some (.cells (Q4 f) 363 (0,0))
theorem Qb.cell{w:World}{b:Nat}{f:Nat->Nat}(h:Qb w b f){a:Nat}(c:a<33):w.cell? ⟨b,a,none⟩=some (.int .u64 (f a)):=by
 rw [cell_of_row w b a _ _ _ h,Q70 f c]
theorem Qb.free{w:World}{b:Nat}{f:Nat->Nat}(h:Qb w b f)(a:Nat):w.frozen? ⟨b,a,none⟩=false:=frozen_of_row w b a _ _ h
theorem Qb.keep{S:Nat->Prop}{A B:World}{b:Nat}{f:Nat->Nat}(h:Qb A b f)(ht:Q0 S A B)(hS:¬ S b):Qb B b f:=ht.heap h hS
theorem Qb.lt{w:World}{b:Nat}{f:Nat->Nat}(h:Qb w b f):b<w.heap.size:=(Array.getElem?_eq_some_iff.1 h).1
theorem Qb.store{w:World}{b:Nat}{f:Nat->Nat}(h:Qb w b f)(a v:Nat):Qb (w.setCell ⟨b,a,none⟩ (.int .u64 (v:Int))) b (fun i=>if i=a then v else f i):=by
 unfold Qb;rw [heap_setCell_same w b a _ _ _ h,Q80]
theorem Qb.row{w:World}{b:Nat}{f g:Nat->Nat}(h:Qb w b f):Qb (w.setRow b (Q4 g)) b g:=setRow_heap w b _ _ _ _ h
theorem Q0.setRow(A:World)(b:Nat)(cs:Array Value):Q0 (·=b) A (A.setRow b cs):=
 ⟨rfl,rfl,rfl,by simp,fun i _ hi=>by
  show (A.heap.modify b _)[i]?=_;rw [Array.getElem?_modify,if_neg (fun e=>hi e.symm)]⟩
theorem Tryz.relInfo (f:Nat->Nat):(Tryz.prog.info? 363).map (·.size)=some (Q4 f).size:=by
 rw [Qe];kernel_rfl
theorem Qy(f:Nat->Nat):(Q4 f).all (·.oneCell')=true:=by
 rw [Array.all_eq_true'];intro b a;simp only [Q4,List.mem_toArray,List.mem_map] at a;obtain⟨_,_,rfl⟩:=a;rfl
theorem Hi{k:Nat}(c:k<64):IntKind.u64.wrap (2 ^ k)=((2 ^ k:Nat):Int):=by
 have d:2 ^ k<18446744073709551616:=by
  have:=Nat.pow_lt_pow_right (a:=2) zd c
  simpa using this
 rw [IntKind.wrap_u64];have b:((2:Int) ^ k)=((2 ^ k:Nat):Int):=by simp
 rw [b];generalize 2 ^ k=e at d;omega
theorem Je{fn:Func}{p:Tmp}(h:fn.results=#[.cell p 363]){tmps:Array Value}{w:World}{g:Nat}{f:Nat->Nat}(hp:tmps.getD p undef=.pointer (some ⟨g,0,none⟩)) (hg:Qb w g f) :
  (results fn tmps).run Tryz.prog w=.ok (.agg (Q4 f)) w:=
 results_cell_row h tmps w g _ _ _ _ hp hg Tryz.underlying363 rfl (Tryz.relInfo f)
theorem Lo(n:Nat)(C:n<=32)(w:World) :
  Calls Tryz.prog 335 #[.int .i64 n] w fun e w'=>e=.returned (.agg (Q4 (Q2 (idB n))))/\Ext w w':=by
 have E:=Jc;have F:=Z2 noB;have G:=Xg noB;go_enter Tryz.func335,Tryz.ntmps335;go_wp2;clear E F G;obtain⟨b,m⟩:=zE w.heap.size;have f:Qb ((w.alloc (.cells (Qa noB) 363)).alloc (.cells (Qa noB) 363)) b (fun _=>0):=by
  subst m;refine Q8 (Q3 rfl) |>.trans ?_;rw [Ur,Y6 fun a _=>Up a]
 have d:Qb ((w.alloc (.cells (Qa noB) 363)).alloc (.cells (Qa noB) 363)) (b+1) (fun a=>if a<0 then 2 ^ a else 0):=by
  subst m;refine(Q3 zy).trans ?_;rw [Ur,Y6 (g:=fun a=>if a<0 then 2 ^ a else 0) fun a _=>by rw [Up];simp]
 have j:Ext w ((w.alloc (.cells (Qa noB) 363)).alloc (.cells (Qa noB) 363)):=((Q0.refl _ w).alloc _).alloc _;generalize ((w.alloc (.cells (Qa noB) 363)).alloc (.cells (Qa noB) 363))=P at f d j ⊢;rw [m];have r:=Zh m;clear m
 refine wp_loop (fun a c=>∃(k:Nat),k<=n+1/\a.defers=[]/\gS a [2,3,6,7]=(16,[.pointer (some ⟨b,0,none⟩),.pointer (some ⟨b+1,0,none⟩),.int .i64 ((n:Int)+1),.int .i64 k])/\Qb c b (fun _=>0)/\Qb c (b+1) (fun a=>if a<k then 2 ^ a else 0)/\Ext w c)
  (fun a _=>n+1 - (intOf (a.tmps.getD 7 undef)).toNat) ?_ ?_
 ·exact⟨0,by omega,rfl,rfl,f,d,j⟩
 clear f d j;rintro⟨N,_⟩ c ⟨k,K,B,x,f,d,j⟩;subst B;obtain⟨O,rfl⟩:=Qj x;clear x;by_cases L:k<n+1
 ·have p:(k:Int)<(n:Int)+1:=by omega
  have s:(k:Int)<33:=by omega
  have J:(k:Int)<64:=by omega
  have H:=d.cell (a:=k) oz;have I:=d.free k;have M:=Hi (k:=k) oz;have q:=d.store k (2 ^ k);have t:(fun i=>if i=k then 2 ^ k else if i<k then 2 ^ i else 0)=fun a=>if a<k+1 then 2 ^ a else 0:=by
   funext i
   by_cases e:i=k
   ·subst e;simp
   ·rw [if_neg e];by_cases l:i<k
    ·rw [if_pos l,if_pos oz]
    ·rw [if_neg l,if_neg oz]
  rw [t] at q;have u:=f.keep (Q0.set1 c (b+1) k (.int .u64 ((2 ^ k:Nat):Int))) oz;have o:Ext w (c.setCell ⟨b+1,k,none⟩ (.int .u64 ((2 ^ k:Nat):Int))):=j.after (Q0.set1 c (b+1) k _) (fun b' p s=>by have:=r.out;omega);obtain⟨A,z,y⟩:=Zh3 q u o;clear t q u o f d j;go_wp2;exact⟨⟨k+1,by omega,tz,rfl,z.out,A.out,y.out⟩,nz⟩
 ·obtain rfl:k=n+1:=by omega
  have p:¬ (((n+1:Nat):Int)<(n:Int)+1):=by omega
  have D:=Qb.row (g:=fun a=>if a<n+1 then 2 ^ a else 0) f;have o:Ext w (c.setRow b (Q4 fun a=>if a<n+1 then 2 ^ a else 0)):=j.after (Q0.setRow c b _) (fun b' p s=>by have:=r.out;omega)
  go_wp2_with (first
   | (refine wpList_load_row rfl 363 (.tmp 3) rfl (b+1) rfl _ _ _ _ d Tryz.underlying363 rfl (Tryz.relInfo _) ?_)
   | (refine wpList_store_row rfl 363 (.tmp 2) (.tmp 15) rfl b (Q4 fun a=>if a<n+1 then 2 ^ a else 0) rfl rfl _ _ f (Tryz.relInfo _) (by rw [Qe,Qe]) (Qy _) ?_))
  refine bodyPost_ret (v:=.agg (Q4 fun a=>if a<n+1 then 2 ^ a else 0)) (Je rfl rfl D) rfl ⟨?_,o⟩;rw [Y6 (g:=Q2 (idB n)) fun a _=>?_];by_cases l:a<n+1
  ·rw [if_pos l,Co C oz]
  ·rw [if_neg l,Qd0 (Qp.id n) oz]
def Wa(X Y:Qh)(k:Nat):Nat->Nat:=fun a=>if a<k then Q2 (comp X Y) a else 0
def W1(X Y:Qh)(k:Nat)(pre:List Nat):Nat->Nat:=fun a=>if a=k then Y8 Y pre else Wa X Y k a
theorem Qak(X Y:Qh)(k:Nat):W1 X Y k []=Wa X Y k:=by
 funext a;unfold W1 Wa
 by_cases b:a=k
 ·subst b;simp [Q0s]
 ·rw [if_neg b]
theorem Q8y(X Y:Qh)(k:Nat):W1 X Y k (evs (Q2 X k))=Wa X Y (k+1):=by
 funext a;unfold W1 Wa
 by_cases b:a=k
 ·subst b;rw [if_pos rfl,if_pos oz,Su,Q0w]
 ·rw [if_neg b];by_cases c:a<k
  ·rw [if_pos c,if_pos oz]
  ·rw [if_neg c,if_neg oz]
theorem Q75(X Y:Qh)(k:Nat)(d:List Nat)(b:Nat):(fun i=>if i=k then Y8 Y d ||| Q2 Y b else W1 X Y k d i)=W1 X Y k (d++[b]):=by
 funext a;unfold W1
 by_cases c:a=k
 ·subst c;rw [if_pos rfl,if_pos rfl,Nq]
 ·rw [if_neg c,if_neg c,if_neg c]
theorem Xe(X:Qh)(a:Nat):Q2 X a<8589934592:=by
 have:=Hj 33 (X a);simpa [Q2] using this
theorem Q36(Y:Qh)(a:List Nat):Y8 Y a<8589934592:=by
 have:=Hj 33 (fun c=>a.any fun b=>Y b c);simpa [Y8] using this
theorem Qet{w:World}(h:Tab w):0<w.heap.size:=by
 have b:=h 0 zd;unfold World.cell? at b;rcases Nat.lt_or_ge 0 w.heap.size with a | a
 ·exact a
 ·simp [Array.getElem?_eq_none a] at b
theorem Wm{w:World}{bx n:Nat}{X Y:Qh}(b0:Qb w bx (Q2 X)) (U:Qb w n (Q2 Y)) (a3:Tab w) :
  Calls Tryz.prog 336 #[.pointer (some ⟨bx,0,none⟩),.pointer (some ⟨n,0,none⟩)] w fun e w'=>e=.returned (.agg (Q4 (Q2 (comp X Y))))/\Ext w w':=by
 have c8:=Jc;have c9:=Z2 noB;have d0:=Xg noB;have e1:0<w.heap.size:=Qet a3;refine Z4 Tryz.func336 rfl ?_;simp only [Tryz.ntmps336,zS,Nat.reduceAdd,Nat.reduceSub];go_wp2;clear c8 c9 d0;obtain⟨d,B⟩:=zE w.heap.size;have u:(((w.alloc (.cells #[.pointer (some ⟨n,0,none⟩)] 406)).alloc (.cells (Qa noB) 363)).alloc (.cells (Qa noB) 363)).heap[d]?=some (.cells #[.pointer (some ⟨n,0,none⟩)] 406 (0,0)):=by
  subst B;exact Q8 (Q8 (Q3 rfl))
 have s:Qb (((w.alloc (.cells #[.pointer (some ⟨n,0,none⟩)] 406)).alloc (.cells (Qa noB) 363)).alloc (.cells (Qa noB) 363)) (d+1) (fun _=>0):=by
  subst B;refine(Q8 (Q3 zy)).trans ?_;rw [Ur,Y6 fun a _=>Up a]
 have r:Qb (((w.alloc (.cells #[.pointer (some ⟨n,0,none⟩)] 406)).alloc (.cells (Qa noB) 363)).alloc (.cells (Qa noB) 363)) (d+1+1) (Wa X Y 0):=by
  subst B;refine(Q3 zy).trans ?_;rw [Ur,Y6 (g:=Wa X Y 0) fun a _=>by rw [Up];simp [Wa]]
 have p:Ext w (((w.alloc (.cells #[.pointer (some ⟨n,0,none⟩)] 406)).alloc (.cells (Qa noB) 363)).alloc (.cells (Qa noB) 363)):=(((Q0.refl _ w).alloc _).alloc _).alloc _;generalize (((w.alloc (.cells #[.pointer (some ⟨n,0,none⟩)] 406)).alloc (.cells (Qa noB) 363)).alloc (.cells (Qa noB) 363))=f1 at u s r p ⊢;have c6:=b0.lt;have c7:=U.lt;rw [B] at c6 c7 ⊢;have G:=Zh B;have c0:=a3;clear B
 refine wp_loop (fun a f=>∃(c:Nat) (z:List Deferred),c<=33/\a.defers=z/\gS a [0,3,4,5,9,10]=(31,[.pointer (some ⟨bx,0,none⟩),.pointer (some ⟨d,0,none⟩),.pointer (some ⟨d+1,0,none⟩),.pointer (some ⟨d+1+1,0,none⟩),.pointer (some ⟨bx,0,none⟩),.int .i64 c])/\Z3 d z f /\
   f.heap[d]?=some (.cells #[.pointer (some ⟨n,0,none⟩)] 406 (0,0))/\Qb f (d+1) (fun _=>0)/\Qb f (d+1+1) (Wa X Y c)/\Ext w f)
  (fun a _=>33 - (intOf (a.tmps.getD 10 undef)).toNat) ?_ ?_
 ·exact⟨0,[],by omega,rfl,rfl,trivial,u,s,r,p⟩
 clear u s r p;rintro⟨b3,z⟩ f ⟨c,d8,e3,c2,Q,J,u,s,r,p⟩;subst c2;obtain⟨f0,rfl⟩:=Qj Q;clear Q;have T:=b0.keep p id;have b2:=U.keep p id;have c1:=c0.keep p id;have e6:=r.lt;by_cases a8:c<33
 ·have M:(c:Int)<33:=by omega
  have Z:=T.cell a8;have W:Hid (∀ D,Ext f D->D.cell? ⟨bx,c,none⟩=some (.int .u64 (Q2 X c))):=Zh fun D N=>N.cell_some Z id;have e4:=Xe X c;have O:=J.lt;go_wp2
  go_region_held3 (fun w'=>w'.cell? ⟨bx,c,none⟩=some (.int .u64 (Q2 X c)))
   ((refine W.out _ ?_;repeat' (first | exact Q0.refl _ _ | refine Q0.drew ?_ | refine Q0.alloc ?_ _ | refine Q0.setCell ?_ (.inl zy) _))) (first | fail)
  go_wp2_with (go_at_call 293;refine(Q6f _ _).mono ?_;rintro e w' ⟨rfl,rfl⟩)
  have a5:Kh (((f.alloc (.cells #[.int .i64 c] 3)).alloc (.cells #[.int .u64 (Q2 X c)] 361)).drew) (f.heap.size+1) (Q2 X c):=Y4 (Q3 zy);have H:Ext f (((f.alloc (.cells #[.int .i64 c] 3)).alloc (.cells #[.int .u64 (Q2 X c)] 361)).drew):=(((Q0.refl _ _).alloc _).alloc _).drew;have a7:(((f.alloc (.cells #[.int .i64 c] 3)).alloc (.cells #[.int .u64 (Q2 X c)] 361)).drew).heap[f.heap.size]?=some (.cells #[.int .i64 c] 3 (0,0)):=Y4 (Q8 (Q3 rfl));have c4:(((f.alloc (.cells #[.int .i64 c] 3)).alloc (.cells #[.int .u64 (Q2 X c)] 361)).drew).heap.size=f.heap.size+2:=by simp
  generalize (((f.alloc (.cells #[.int .i64 c] 3)).alloc (.cells #[.int .u64 (Q2 X c)] 361)).drew)=L at a5 H a7 c4 ⊢;rw [<-Qak] at r;clear W Z
  refine Ln (xs:=evs (Q2 X c)) (S:=(·=f.heap.size+1)) (K:=fun b'=>b'=f.heap.size+1\/b'=0) rfl (enters_of Tryz.func301 kz rfl)
   (Q2g _ oz (f.heap.size+1) oz L a5 (c1.keep H id)) (fun _ m=>.inl m) (fun b' m=>by omega) (fun _=>rfl)
   (fun k i=>Qb i (d+1+1) (W1 X Y c k)/\i.heap[d]?=some (.cells #[.pointer (some ⟨n,0,none⟩)] 406 (0,0))/\Qb i (d+1) (fun _=>0)/\i.heap[f.heap.size]?=some (.cells #[.int .i64 c] 3 (0,0))/\Ext w i/\Z3 d z i)
   (fun _ _ _=>False) ?hI ?hIx ?h0 (fun j b3=>(b3.setIfInBounds 18 (.int .i64 j)).setIfInBounds 8 (.int .i64 j)) ?assign ?body ?done ?stop
  case hI=>
   rintro k d3 d4 ⟨t,x,C,E,y,F⟩ l;exact⟨t.keep l oz,l.heap x oz,C.keep l oz,l.heap E oz,y.after l (fun b' M h2=>by have:=G.out;omega),F.keepC O l (fun b' m=>.inl oz)⟩
  case hIx=>exact fun _ _ _ _ m _=>m
  case h0=>
   intro i a4 _;have I:Ext f i:=H.trans a4;exact⟨r.keep I id,I.heap u id,s.keep I id,a4.heap a7 id,p.trans I,J.keepC O I (fun _ m=>m.elim)⟩
  case assign=>
   intro j i K b9;gi_wp2;exact b9
  case body=>
   rintro k j e9 i R Q l ⟨t,x,C,E,y,F⟩;simp only [pq];have c3:j<33:=by
    have:j∈evs (Q2 X c):=by rw [R];simp
    rw [Su] at this;exact List.mem_range.1 (List.mem_filter.1 this).1
   have e2:(j:Int)<33:=by omega
   have b1:=U.keep y id;have d5:=cell_of_one E;have d6:=cell_of_one x;have b8:=t.cell (a:=c) a8;have d9:=t.free c;have d7:=b1.cell c3;have A:W1 X Y c k c=Y8 Y k:=by unfold W1;rw [if_pos rfl]
   rw [A] at b8;have e5:=Q36 Y k;have e7:=Xe Y j;have e8:=u64_or_nat (Y8 Y k) (Q2 Y j) oz oz;have P:=t.store c (Y8 Y k ||| Q2 Y j);rw [Q75] at P;have q:=Q0.set1 i (d+1+1) c (.int .u64 ((Y8 Y k ||| Q2 Y j:Nat):Int))
   have a6:Q0 (fun b'=>¬ ((b'=f.heap.size+1\/b'=0)\/b'=L.heap.size\/b'=L.heap.size+1)) i ((i.setCell ⟨d+1+1,c,none⟩ (.int .u64 ((Y8 Y k ||| Q2 Y j:Nat):Int))).drew):=
    (q.mono (fun b' _ e=>by have:=G.out;omega)).drew
   have a1:Qb ((i.setCell ⟨d+1+1,c,none⟩ (.int .u64 ((Y8 Y k ||| Q2 Y j:Nat):Int))).drew) (d+1+1) (W1 X Y c (k++[j]))/\((i.setCell ⟨d+1+1,c,none⟩ (.int .u64 ((Y8 Y k ||| Q2 Y j:Nat):Int))).drew).heap[d]?=some (.cells #[.pointer (some ⟨n,0,none⟩)] 406 (0,0))/\Qb ((i.setCell ⟨d+1+1,c,none⟩ (.int .u64 ((Y8 Y k ||| Q2 Y j:Nat):Int))).drew) (d+1) (fun _=>0)/\((i.setCell ⟨d+1+1,c,none⟩ (.int .u64 ((Y8 Y k ||| Q2 Y j:Nat):Int))).drew).heap[f.heap.size]?=some (.cells #[.int .i64 c] 3 (0,0))/\Ext w ((i.setCell ⟨d+1+1,c,none⟩ (.int .u64 ((Y8 Y k ||| Q2 Y j:Nat):Int))).drew)/\Z3 d z ((i.setCell ⟨d+1+1,c,none⟩ (.int .u64 ((Y8 Y k ||| Q2 Y j:Nat):Int))).drew):=
    ⟨P,q.drew.heap x oz,C.keep q.drew oz,q.drew.heap E oz,y.after q.drew (fun b' M h2=>by have:=G.out;omega),F.keepC O q.drew (fun b' m=>.inr (.inr ⟨_,by subst m;exact t,rfl⟩))⟩
   obtain⟨b5,b6,d2,d1⟩:=Zh4 a6 a1 R A;clear a6 a1 R A P q t x C E y F b1 H p J r s u T b2 l;gi_wp2;refine Uy 9 kz kz kz (by rintro⟨_,_,m⟩;exact m) ?_;simp only [List.take_succ_cons,List.take_zero,List.drop_succ_cons,List.drop_zero];repeat still_step
   refine wpStill_nil ?_;go_wp2;exact⟨b5.out,b6.out⟩
  case done=>
   rintro i ⟨t,x,C,E,y,F⟩ l N;rw [Q8y] at t;have e0:L.heap.size<i.heap.size:=(Array.getElem?_eq_some_iff.1 N).1;clear H p J r s u T b2;go_wp2;exact⟨⟨c+1,_,by omega,rfl,rfl,Z3.cons F oz N (fun e he l=>by have:=O e he _ l;omega),x,C,t,y⟩,nz⟩
  case stop=>exact fun _ _ _ _ _ _ m=>m.elim
 ·obtain rfl:c=33:=by omega
  have M:¬ (((33:Nat):Int)<33):=by omega
  have A:Q4 (Wa X Y 33)=Q4 (Q2 (comp X Y)):=Y6 fun a ha=>by unfold Wa;rw [if_pos ha]
  have a9:=Qb.row (g:=Q2 (comp X Y)) s;have q:=Q0.setRow f (d+1) (Q4 (Q2 (comp X Y)));have a0:Ext w (f.setRow (d+1) (Q4 (Q2 (comp X Y)))):=p.after q (fun b' M h2=>by have:=G.out;omega)
  have a2:Z3 d z (f.setRow (d+1) (Q4 (Q2 (comp X Y)))):=J.keep q (fun b hb o ho=>by
   subst hb;have:f.heap[d+1]?=_:=s;rw [this] at ho;cases ho;rfl)
  have c5:Qb f (d+1+1) (Q2 (comp X Y)):=by unfold Qb;rw [<-A];exact r
  obtain⟨b7,b4,V⟩:=Zh3 a2 a0 a9;clear a2 a0 a9 q A r
  go_wp2_with (first
   | (refine wpList_load_row rfl 363 (.tmp 5) rfl (d+1+1) rfl _ _ _ _ c5 Tryz.underlying363 rfl (Tryz.relInfo _) ?_)
   | (refine wpList_store_row rfl 363 (.tmp 4) (.tmp 30) rfl (d+1) (Q4 (Q2 (comp X Y))) rfl rfl _ _ s (Tryz.relInfo _) (by rw [Qe,Qe]) (Qy _) ?_))
  refine Ye (v:=.agg (Q4 (Q2 (comp X Y)))) _ _ b7.out (fun w' l hs=>⟨Je rfl rfl (V.out.keep l (Shut.not V.out rfl)),rfl,b4.out.after l (fun b' h2 h3=>by have:=h3.1;have:=G.out;omega)⟩)
def orF(X Y:Qh)(k:Nat):Nat->Nat:=fun a=>if a<k then Q2 (orB X Y) a else Q2 X a
theorem Qc1(X Y:Qh)(k:Nat):(fun i=>if i=k then Q2 X k ||| Q2 Y k else orF X Y k i)=orF X Y (k+1):=by
 funext a;unfold orF
 by_cases b:a=k
 ·subst b;rw [if_pos rfl,if_pos oz,Cg]
 ·rw [if_neg b];by_cases c:a<k
  ·rw [if_pos c,if_pos oz]
  ·rw [if_neg c,if_neg oz]
theorem Q9c{w:World}{bx g:Nat}{X Y:Qh}(B:Qb w bx (Q2 X)) (C:Qb w g (Q2 Y)) (A:bx≠g) :
  Calls Tryz.prog 333 #[.pointer (some ⟨bx,0,none⟩),.pointer (some ⟨g,0,none⟩)] w fun e w'=>(∃ v,e=.returned v)/\Q0 (·=bx) w w'/\Qb w' bx (Q2 (orB X Y)):=by
 go_enter Tryz.func333,Tryz.ntmps333;go_wp2;have q:Qb w bx (orF X Y 0):=by
  have:orF X Y 0=Q2 X:=by funext a;simp [orF]
  rw [this];exact B
 refine wp_loop (fun a d=>∃(b:Nat),b<=33/\a.defers=[]/\gS a [0,6,7]=(23,[.pointer (some ⟨bx,0,none⟩),.pointer (some ⟨g,0,none⟩),.int .i64 b])/\Qb d bx (orF X Y b)/\Q0 (·=bx) w d)
  (fun a _=>33 - (intOf (a.tmps.getD 7 undef)).toNat) ?_ ?_
 ·exact⟨0,by omega,rfl,rfl,q,Q0.refl _ _⟩
 clear q;rintro⟨K,_⟩ d ⟨b,G,z,n,c,i⟩;subst z;obtain⟨L,rfl⟩:=Qj n;clear n;have r:=C.keep i (fun h=>A h.symm);by_cases l:b<33
 ·have y:(b:Int)<33:=by omega
  have E:=r.cell l;have x:=c.cell l;have F:=c.free b;have f:orF X Y b b=Q2 X b:=by unfold orF;rw [if_neg oz]
  rw [f] at x;have H:=Xe X b;have I:=Xe Y b;have J:=u64_or_nat (Q2 X b) (Q2 Y b) oz oz;have j:=c.store b (Q2 X b ||| Q2 Y b);rw [Qc1] at j;have k:∀ m,Q0 (·=bx) w ((d.drewN m).setCell ⟨bx,b,none⟩ (.int .u64 ((Q2 X b ||| Q2 Y b:Nat):Int))):=fun m=>(i.drewN m).setCell (p:=⟨bx,b,none⟩) (.inr rfl) _;obtain⟨s,t,D⟩:=Zh3 j k f;clear j k f c i r;go_wp2
  go_quiet (fail)
  go_wp2;refine Kt 9 kz kz ?_;simp only [List.take_succ_cons,List.take_zero,List.drop_succ_cons,List.drop_zero];repeat still_step
  refine wpStill_nil ?_;go_wp2;exact⟨⟨b+1,by omega,tz,rfl,s.out,t.out _⟩,nz⟩
 ·obtain rfl:b=33:=by omega
  have y:¬ (((33:Nat):Int)<33):=by omega
  have o:Qb d bx (Q2 (orB X Y)):=by
   have f:Q4 (orF X Y 33)=Q4 (Q2 (orB X Y)):=Y6 fun a ha=>by unfold orF;rw [if_pos ha]
   unfold Qb;rw [<-f];exact c
  have u:=Zh o;clear c o;go_wp2;go_end0
  exact⟨⟨_,rfl⟩,i,u.out⟩
theorem Qdo(k:Nat)(c:k<9223372036854775808):(bits .and .i64 (k:Int) 1 == 1)=decide (k % 2=1):=by
 have b:bits .and .i64 (k:Int) 1=((k % 2:Nat):Int):=by
  show IntKind.i64.wrap ((BitVec.ofInt 64 (k:Int) &&& BitVec.ofInt 64 ((1:Nat):Int)).toNat:Int)=_;rw [BitVec.toNat_and,ofInt_u64 _ oz,ofInt_u64 1 oz,Nat.and_one_is_mod];exact IntWalk.i64_in _ oz
 rw [b];rcases Nat.mod_two_eq_zero_or_one k with a | a <;> simp [a]
theorem Q0i{n:Nat}(I:n<=32){X:Qh}(a5:Qp n X)(k:Nat)(b6:k<=64)(w:World)(M:Tab w) :
  Calls Tryz.prog 329 #[.agg (Q4 (Q2 X)),.int .i64 k,.int .i64 n] w fun e w'=>e=.returned (.agg (Q4 (Q2 (Qx X n k))))/\Ext w w':=by
 have c1:=Jc;have c2:=Z2 noB;have c3:=Xg noB;have c4:=Qe (Q2 X);go_enter Tryz.func329,Tryz.ntmps329;go_wp2_with fail;clear c4;obtain⟨d,D⟩:=zE w.heap.size;have a1:Qb ((w.alloc (.cells (Q4 (Q2 X)) 363)).alloc (.cells (Qa noB) 363)) d (Q2 X):=by
  subst D;exact Q8 (Q3 rfl)
 have t:Qb ((w.alloc (.cells (Q4 (Q2 X)) 363)).alloc (.cells (Qa noB) 363)) (d+1) (fun _=>0):=by
  subst D;refine(Q3 zy).trans ?_;rw [Ur,Y6 fun a _=>Up a]
 have r:Ext w ((w.alloc (.cells (Q4 (Q2 X)) 363)).alloc (.cells (Qa noB) 363)):=((Q0.refl _ w).alloc _).alloc _;generalize ((w.alloc (.cells (Q4 (Q2 X)) 363)).alloc (.cells (Qa noB) 363))=c0 at a1 t r ⊢;rw [D];have P:=Zh D;clear D;refine(Lo n I c0).mono ?_;rintro e j ⟨rfl,l⟩;have a9:=a1.keep l id;have a0:=t.keep l id;have a4:=r.trans l;have T:(j.alloc (.cells (Qa noB) 363)).heap[j.heap.size]?=some (.cells (Qa noB) 363 (0,0)):=Q3 rfl
 go_wp2_with (refine wpList_store_row rfl 363 (.tmp 7) (.tmp 9) rfl j.heap.size (Q4 (Q2 (idB n))) rfl rfl _ _ T (Tryz.relInfo _) (by rw [Z2,Qe]) (Qy _) ?_)
 obtain⟨q,x⟩:=zE j.heap.size;have L:Qb ((j.alloc (.cells (Qa noB) 363)).setRow j.heap.size (Q4 (Q2 (idB n)))) j.heap.size (Q2 (idB n)):=setRow_heap _ _ _ _ _ _ T;have s:Ext j ((j.alloc (.cells (Qa noB) 363)).setRow j.heap.size (Q4 (Q2 (idB n)))):=((Q0.refl _ j).alloc _).after (Q0.setRow _ _ _) (fun b' o h2=>by omega);have b7:=a0.lt;generalize ((j.alloc (.cells (Qa noB) 363)).setRow j.heap.size (Q4 (Q2 (idB n))))=d2 at L s ⊢;rw [x] at L b7 ⊢;have b0:=a9.keep s id;have B:=a0.keep s id;have S:=a4.trans s;have W:=M.keep S id;have c6:0<d:=by
  have:=M 0 zd;rw [<-P.out];apply Nat.lt_of_not_le;intro b2;simp [World.cell?,Array.getElem?_eq_none b2] at this
 clear a1 t r l a9 a0 a4 T s x c1 c2 c3
 refine wp_loop (fun a u=>∃(f:Nat) (c m:Qh),f<=64/\a.defers=[]/\gS a [1,3,6,7]=(20,[.int .i64 f,.pointer (some ⟨d,0,none⟩),.pointer (some ⟨d+1,0,none⟩),.pointer (some ⟨q,0,none⟩)]) /\
   (Qp n c/\Qp n m/\comp m (Qx c n f)=Qx X n k)/\Qb u d (Q2 c)/\Qb u (d+1) (fun _=>0)/\Qb u q (Q2 m)/\Ext w u)
  (fun a _=>(intOf (a.tmps.getD 1 undef)).toNat) ?_ ?_
 ·exact⟨k,X,idB n,b6,rfl,rfl,⟨a5,Qp.id n,Q5o I (Qp.pow a5 k)⟩,b0,B,L,S⟩
 clear b0 B L S W;rintro⟨d0,_⟩ u ⟨f,c,m,c7,b4,a7,b8,y,t,x,r⟩;subst b4;obtain⟨d1,rfl⟩:=Qj a7;clear a7;obtain⟨A,Z,N⟩:=b8;have Y:=M.keep r id;have b3:Q0 (fun b=>b=d\/b=q) u u:=Q0.refl _ _;have a8:w.heap.size<=q/\w.heap.size<=d:=by have:=P.out;omega
 have R:=Zh a8;clear a8;by_cases b5:f=0
 ·subst b5;rw [show Qx c n 0=idB n from rfl,Q64 I Z] at N;subst N;have b9:=Qb.row (g:=Q2 (Qx X n k)) t;have l:Ext w (u.setRow (d+1) (Q4 (Q2 (Qx X n k)))):=r.after (Q0.setRow u (d+1) _) (fun b' o h2=>by have:=P.out;omega)
  go_wp2_with (first
   | (refine wpList_load_row rfl 363 (.tmp 7) rfl q rfl _ _ _ _ x Tryz.underlying363 rfl (Tryz.relInfo _) ?_)
   | (refine wpList_store_row rfl 363 (.tmp 6) (.tmp 19) rfl (d+1) (Q4 (Q2 (Qx X n k))) rfl rfl _ _ t (Tryz.relInfo _) (by rw [Qe,Qe]) (Qy _) ?_))
  exact bodyPost_ret (v:=.agg (Q4 (Q2 (Qx X n k)))) (Je rfl rfl b9) rfl ⟨rfl,l⟩
 ·have c8:(0:Int)<(f:Int):=by omega
  have c9:(f:Int)<=64:=by omega
  have a6:=Qdo f oz;have a2:=Zh N;clear N;by_cases o:f % 2=1
  ·rw [decide_eq_true o] at a6;have O:=Zh o;clear o;go_wp2_with fail;refine(Wm x y Y).mono ?_;rintro e a3 ⟨rfl,l⟩;have U:=x.keep l id
   go_wp2_with (refine wpList_store_row rfl 363 (.tmp 7) (.tmp 17) rfl q (Q4 (Q2 (comp m c))) rfl rfl _ _ U (Tryz.relInfo _) (by rw [Qe,Qe]) (Qy _) ?_)
   have i:=Q0.setRow a3 q (Q4 (Q2 (comp m c)));have V:=Qb.row (g:=Q2 (comp m c)) U;have G:=(y.keep l id).keep i oz;have B:=(t.keep l id).keep i oz;have s:=(r.trans l).after i (fun b' o h2=>by have:=R.out.1;omega);generalize (a3.setRow q (Q4 (Q2 (comp m c))))=c5 at V G B s ⊢;have W:=M.keep s id;clear i U l x y t r Y b3;go_wp2_with fail;refine(Wm G G W).mono ?_;rintro e C ⟨rfl,p⟩;have z:=G.keep p id
   go_wp2_with (refine wpList_store_row rfl 363 (.tmp 3) (.tmp 18) rfl d (Q4 (Q2 (comp c c))) rfl rfl _ _ z (Tryz.relInfo _) (by rw [Qe,Qe]) (Qy _) ?_)
   have i:=Q0.setRow C d (Q4 (Q2 (comp c c)));have H:=Qb.row (g:=Q2 (comp c c)) z;have F:=(V.keep p id).keep i oz;have K:=(B.keep p id).keep i oz;have E:=(s.trans p).after i (fun b' o h2=>by have:=R.out.2;omega);generalize (C.setRow d (Q4 (Q2 (comp c c))))=b1 at H F K E ⊢;clear i z p G B s V;have J:comp (comp m c) (Qx (comp c c) n (f / 2))=Qx X n k:=by
    rw [Cm I A,Nl,<-a2.out]
    congr 1
    have:f=2*(f / 2)+1:=by have:=O.out;omega
    rw [show Qx c n f=Qx c n (2*(f / 2)+1) from congrArg _ this];rfl
   have Q:=Zh J;clear J;go_wp2;exact⟨⟨f / 2,comp c c,comp m c,by omega,tz,rfl,⟨A.comp A,Z.comp A,Q.out⟩,H,K,F,E⟩,nz⟩
  ·rw [decide_eq_false o] at a6;have O:=Zh o;clear o;go_wp2_with fail;refine(Wm y y Y).mono ?_;rintro e C ⟨rfl,p⟩;have z:=y.keep p id
   go_wp2_with (refine wpList_store_row rfl 363 (.tmp 3) (.tmp 18) rfl d (Q4 (Q2 (comp c c))) rfl rfl _ _ z (Tryz.relInfo _) (by rw [Qe,Qe]) (Qy _) ?_)
   have i:=Q0.setRow C d (Q4 (Q2 (comp c c)));have H:=Qb.row (g:=Q2 (comp c c)) z;have F:=(x.keep p id).keep i oz;have K:=(t.keep p id).keep i oz;have E:=(r.trans p).after i (fun b' o h2=>by have:=R.out.2;omega);generalize (C.setRow d (Q4 (Q2 (comp c c))))=b1 at H F K E ⊢;clear i z p y t r x;have J:comp m (Qx (comp c c) n (f / 2))=Qx X n k:=by
    rw [Cm I A,<-a2.out]
    congr 2
    have:=O.out;omega
   have Q:=Zh J;clear J;go_wp2;exact⟨⟨f / 2,comp c c,m,by omega,tz,rfl,⟨A.comp A,Z,Q.out⟩,H,K,F,E⟩,nz⟩
end Go.Proofs.YtfdlhlghcbeblaaGreatDoor
namespace Go.Ab
inductive Zp where
 | sound (pl mi:Nat) (nt:Bool)
 | edge (e:Bool)
 | seq (l:List Zp)
 | alt (l:List Zp)
 | rep (of:Zp) (mn mx:Int)
mutual
def Xl(w:Wd):Zp->Qh
 | .sound pl mi nt=>Z9 w (pl,mi) nt
 | .edge e=>Zk (if e then w.length else 0)
 | .seq l=>Gm w l (idB w.length)
 | .alt l=>V9 w l noB
 | .rep p mn mx=>Ps (Xl w p) w.length mn.toNat (Gh w.length mn mx)
def Gm(w:Wd):List Zp->Qh->Qh
 | [],X=>X
 | p::l,X=>Gm w l (comp X (Xl w p))
def V9(w:Wd):List Zp->Qh->Qh
 | [],X=>X
 | p::l,X=>V9 w l (orB X (Xl w p))
end
theorem Eu(w:Wd)(p:Zp):∀(l:List Zp) (X:Qh),Gm w (l++[p]) X=comp (Gm w l X) (Xl w p)
 | [],X=>by simp [Gm]
 | q::l,X=>by rw [List.cons_append];unfold Gm;exact Eu w p l _
theorem Eb(w:Wd)(p:Zp):∀(l:List Zp) (X:Qh),V9 w (l++[p]) X=orB (V9 w l X) (Xl w p)
 | [],X=>by simp [V9]
 | q::l,X=>by rw [List.cons_append];unfold V9;exact Eb w p l _
mutual
theorem Dk(w:Wd):∀ p,Qp w.length (Xl w p)
 | .sound pl mi nt=>by unfold Xl;exact Qp.sound _ _ _
 | .edge e=>by unfold Xl;exact Qp.edge (by cases e <;> simp)
 | .seq l=>by unfold Xl;exact Q0v w l _ (Qp.id _)
 | .alt l=>by unfold Xl;exact Q0r w l _ (Qp.no _)
 | .rep p mn mx=>by unfold Xl Ps;exact(Qp.pow (Dk w p) _).comp (Qp.pow ((Dk w p).or (Qp.id _)) _)
theorem Q0v(w:Wd):∀(l:List Zp) (X:Qh),Qp w.length X->Qp w.length (Gm w l X)
 | [],_,h=>by unfold Gm;exact h
 | p::l,X,h=>by unfold Gm;exact Q0v w l _ (h.comp (Dk w p))
theorem Q0r(w:Wd):∀(l:List Zp) (X:Qh),Qp w.length X->Qp w.length (V9 w l X)
 | [],_,h=>by unfold V9;exact h
 | p::l,X,h=>by unfold V9;exact Q0r w l _ (h.or (Dk w p))
end
mutual
def cmp:Pat->Zp
 | .node k pl mi nt mn mx l=>
  if k=1 then .sound pl mi nt
  else if k=2 then .edge false
  else if k=6 then .edge true
  else if k=4 then .alt (V5 l)
  else if k=5 then .rep ((V5 l).headD (.seq [])) mn mx
  else .seq (V5 l)
def V5:List Pat->List Zp
 | []=>[]
 | p::l=>cmp p::V5 l
end
theorem L8(l:List Pat):V5 l=l.map cmp:=by
 induction l with
 | nil=>rfl
 | cons p l ih=>unfold V5;rw [ih];rfl
mutual
def Db:Pat->Prop
 | .node k pl mi nt mn mx l=>Yo (.node k pl mi nt mn mx l)=0/\l.length<=40/\Vi l
def Vi:List Pat->Prop
 | []=>True
 | p::l=>Db p/\Vi l
end
theorem Q89{l:List Pat}:Vi l↔∀ p∈l,Db p:=by
 induction l with
 | nil=>simp [Vi]
 | cons p l ih=>unfold Vi;rw [ih];simp
theorem Qbm(p:Pat)(n:Nat)(c:n<=40)(h:(Yn p n).2=0):n+1<=(Yn p n).1:=by
 cases p with
 | node k pl mi nt mn mx l=>
  unfold Yn at h ⊢;by_cases b:n=40
  ·rw [if_pos b] at h;cases h
  ·rw [if_neg b] at h ⊢;by_cases a:Yo (.node k pl mi nt mn mx l)=0
   ·rw [if_pos a];exact(M4 l (n+1) [] (by omega)).1.2
   ·rw [if_neg a] at h;exact absurd h a
theorem Q0x:∀(l:List Pat) (n:Nat),n<=40->(Xj l n).2=0->n+l.length<=(Xj l n).1
 | [],n,_,_=>by simp [Xj]
 | p::l,n,hn,h=>by
  unfold Xj Rm at h ⊢;by_cases he:(Yn p n).2=0
  ·rw [if_pos he] at h ⊢;have h1:=Qbm p n hn he;have h2:=Q0x l _ (Dq p n [] hn).1.1 h;simp only [List.length_cons];omega
  ·rw [if_neg he] at h;exact absurd h he
mutual
theorem Q3s:∀(p:Pat) (n:Nat),n<=40->(Yn p n).2=0->Db p
 | .node k pl mi nt mn mx l,n,hn40,h=>by
  unfold Yn at h;unfold Db;by_cases hn:n=40
  ·rw [if_pos hn] at h;cases h
  ·rw [if_neg hn] at h;by_cases he:Yo (.node k pl mi nt mn mx l)=0
   ·rw [if_pos he] at h;have h1:=Q0x l (n+1) (by omega) h;have h2:=(M4 l (n+1) [] (by omega)).1.1;exact⟨he,by omega,Q2q l _ (by omega) h⟩
   ·rw [if_neg he] at h;exact absurd h he
theorem Q2q:∀(l:List Pat) (n:Nat),n<=40->(Xj l n).2=0->Vi l
 | [],_,_,_=>by unfold Vi;trivial
 | p::l,n,hn,h=>by
  unfold Xj Rm at h;unfold Vi;by_cases he:(Yn p n).2=0
  ·rw [if_pos he] at h;exact⟨Q3s p n hn he,Q2q l _ (Dq p n [] hn).1.1 h⟩
  ·rw [if_neg he] at h;exact absurd h he
end
theorem Qez{p:Pat}(h:Zw p=0):Db p:=Q3s p 0 (by omega) (by rw [Bp];exact h)
theorem Qc0{c:Prop} [Decidable c] (h:(if c then(0:Int) else 14)=0):c:=by
 by_cases a:c
 ·exact a
 ·rw [if_neg a] at h;cases h
theorem Mu{c:Prop} [Decidable c] {x:Int} (h:(if c then 2 else x)=0):¬ c/\x=0:=by
 by_cases a:c
 ·rw [if_pos a] at h;cases h
 ·rw [if_neg a] at h;exact⟨a,h⟩
theorem To{k:Int}{pl mi:Nat}{nt:Bool}{mn mx:Int}{l:List Pat}(h:Yo (.node k pl mi nt mn mx l)=0) :
  (0<=k/\k<=6)/\(k≠1->pl=0/\mi=0/\nt=false)/\(k≠3->k≠4->k≠5->l=[])/\(k≠5->mn=0/\mx=0) /\
   (k=5->l.length=1/\0<=mn/\mn<=32/\(mx=-1\/mn<=mx/\mx<=32))/\Z8 pl mi=true:=by
 unfold Yo at h;simp only [Pat.k,Pat.pl,Pat.mi,Pat.nt,Pat.mn,Pat.mx,Pat.l] at h;obtain⟨j,h⟩:=Mu h;obtain⟨f,h⟩:=Mu h;obtain⟨g,h⟩:=Mu h;obtain⟨m,h⟩:=Mu h;obtain⟨d,h⟩:=Mu h;have i:Z8 pl mi=true:=Qc0 h;refine⟨by omega,fun hk=>?_,fun a b c=>?_,fun hk=>by omega,fun hk=>?_,i⟩
 ·refine⟨?_,?_,?_⟩
  ·exact Classical.byContradiction fun hh=>f ⟨hk,.inl hh⟩
  ·exact Classical.byContradiction fun hh=>f ⟨hk,.inr (.inl hh)⟩
  ·cases nt
   ·rfl
   ·exact absurd ⟨hk,.inr (.inr rfl)⟩ f
 ·exact List.eq_nil_of_length_eq_zero (Classical.byContradiction fun hh=>g ⟨a,b,c,hh⟩)
 ·refine⟨Classical.byContradiction fun hh=>d ⟨hk,.inl hh⟩,?_,?_,?_⟩
  ·apply Int.not_lt.1;exact fun hh=>d ⟨hk,.inr (.inl hh)⟩
  ·apply Int.not_lt.1;exact fun hh=>d ⟨hk,.inr (.inr (.inl hh))⟩
  ·by_cases e:mx=-1
   ·exact .inl e
   ·refine .inr ⟨?_,?_⟩
    ·apply Int.not_lt.1;exact fun hh=>d ⟨hk,.inr (.inr (.inr ⟨e,.inl hh⟩))⟩
    ·apply Int.not_lt.1;exact fun hh=>d ⟨hk,.inr (.inr (.inr ⟨e,.inr hh⟩))⟩
theorem Q69(w:Wd):∀(l:List Zp) (X Y:Qh),V9 w l (orB X Y)=orB X (V9 w l Y)
 | [],X,Y=>by unfold V9;rfl
 | p::l,X,Y=>by unfold V9;rw [En,Q69 w l]
mutual
theorem N6(w:Wd):∀ p,Db p->Xl w (cmp p)=Ym w p
 | .node k pl mi nt mn mx l,h=>by
  unfold Db at h;obtain⟨_,_,_,_,h5,_⟩:=To h.1;unfold cmp Ym
  split
  ·unfold Xl;rfl
  ·split
   ·unfold Xl;rfl
   ·split
    ·unfold Xl;rfl
    ·split
     ·unfold Xl;exact(Q1y w l h.2.2)
     ·split
      ·rename_i hk
       have hl:=(h5 hk).1
       match l,hl,h.2.2 with
       | [q],_,h2=>
        unfold Vi at h2;unfold Xl Pa;show Ps (Xl w (cmp q)) _ _ _=_;rw [N6 w q h2.1]
      ·unfold Xl;exact Q3f w l _ h.2.2
theorem Q3f(w:Wd):∀(l:List Pat) (X:Qh),Vi l->Gm w (V5 l) X=Uh w l X
 | [],X,_=>by unfold V5 Gm Uh;rfl
 | p::l,X,h=>by
  unfold Vi at h;unfold V5 Gm Uh;rw [N6 w p h.1,Q3f w l _ h.2]
theorem Q1y(w:Wd):∀(l:List Pat),Vi l->V9 w (V5 l) noB=V0 w l
 | [],_=>by unfold V5 V9 V0;rfl
 | p::l,h=>by
  unfold Vi at h;unfold V5 V9 V0;rw [Q38,<-Qam (Xl w (cmp p)),Q69,N6 w p h.1,Q1y w l h.2]
end
end Go.Ab
namespace Go.Ab
open Go.RowKit
def Rd(w:World)(v:Value)(n sz:Nat)(xs:List Value):Prop:=
 xs.length=n*sz/\n<=maxLen/\∃ ao cap,v=.slice ao n cap/\(0<n->∃ g off,ao=some ⟨g,off,none⟩/\g<w.heap.size/\∀ j,j<n*sz->w.cell? ⟨g,off+j,none⟩=some (xs.getD j undef))
theorem Rd.keep{S:Nat->Prop}{A B:World}{v:Value}{n d:Nat}{xs:List Value}(h:Rd A v n d xs)(b:Q0 S A B)(l:∀ g off len cap,v=.slice (some ⟨g,off,none⟩) len cap->¬ S g):Rd B v n d xs:=by
 obtain⟨f,i,e,cap,c,k⟩:=h;refine⟨f,i,e,cap,c,fun hn=>?_⟩;obtain⟨g,off,a,o,m⟩:=k hn;exact⟨g,off,a,Nat.lt_of_lt_of_le o b.size,fun j hj=>b.cell_some (m j hj) (l g off n cap (by rw [c,a]))⟩
theorem Rd.ext{A B:World}{v:Value}{n sz:Nat}{xs:List Value}(h:Rd A v n sz xs)(ht:Ext A B):Rd B v n sz xs:=h.keep ht fun _ _ _ _ _ h=>h
theorem Rd.drewN{A:World}{v:Value}{n sz:Nat}{xs:List Value}(h:Rd A v n sz xs)(m:Nat):Rd (A.drewN m) v n sz xs:=h.ext ((Q0.refl _ A).drewN m)
theorem Rd.of_own{w:World}{base:Nat}{e:TypeId}{c:Nat}{v:Value}{n:Nat}{xs:List Value}(h:w.ownsRow base e c v n xs):Rd w v n c xs:=by
 have b:=h.1;rcases h.2 with ⟨rfl,rfl⟩ | ⟨a,d,k,rfl,l,g,i,f,m,o⟩
 ·exact⟨b,by simp [maxLen],none,0,rfl,fun h=>by omega⟩
 ·refine⟨b,Nat.le_trans i f,some ⟨a,0,none⟩,d,rfl,fun _=>⟨a,0,rfl,(Array.getElem?_eq_some_iff.1 g).1,fun j hj=>?_⟩⟩;rw [Nat.zero_add,h.cellAt j hj,List.getD_eq_getElem?_getD];have:j<xs.length:=by omega
  simp [this]
theorem Qf{S:Nat->Prop}{A B:World}{base:Nat}{e:TypeId}{a:Nat}{v:Value}{n:Nat}{xs:List Value}(h:A.ownsRow base e a v n xs)(m:Q0 S A B)(f:∀ g,v.ownBlock=some g->¬ S g):B.ownsRow base e a v n xs:=by
 obtain⟨k,d⟩:=h;refine⟨k,?_⟩;rcases d with ⟨rfl,rfl⟩ | ⟨g,b,c,rfl,i,j,l⟩
 ·exact .inl ⟨rfl,rfl⟩
 ·exact .inr ⟨g,b,c,rfl,i,m.heap j (f g rfl),l⟩
theorem Q7{A B:World}{base:Nat}{e:TypeId}{sz:Nat}{v:Value}{n:Nat}{xs:List Value}(h:A.ownsRow base e sz v n xs)(ht:Ext A B):B.ownsRow base e sz v n xs:=Qf h ht fun _ _ h=>h
theorem Q3d{S:Nat->Prop}{A B:World}{base:Nat}{e:TypeId}{a:Nat}{v:Value}{n:Nat}{xs:List Value}(h:A.ownsRow base e a v n xs)(d:Q0 S A B)(b:∀ g o,A.heap[g]?=some o->o.isCells=true->¬ S g):B.ownsRow base e a v n xs:=by
 refine Qf h d fun g hg=>?_
 rcases h.2 with ⟨e,_⟩ | ⟨j,f,i,e,_,c,_⟩
 ·rw [e] at hg;simp [Value.ownBlock] at hg
 ·rw [e] at hg;simp [Value.ownBlock] at hg;subst hg;exact b _ _ c rfl
theorem Zb{A:World}{base base':Nat}{e:TypeId}{a:Nat}{v:Value}{n:Nat}{xs:List Value}(h:A.ownsRow base e a v n xs)(g:base'<=base):A.ownsRow base' e a v n xs:=by
 obtain⟨j,f⟩:=h;refine⟨j,?_⟩;rcases f with h | ⟨d,b,c,l,i,k⟩
 ·exact .inl h
 ·exact .inr ⟨d,b,c,l,Nat.le_trans g i,k⟩
theorem Pi{P:Program}{w:World}{base:Nat}{t ty e:TypeId}{i:TypeInfo}{z:Value}(o:P.underlying t=some (.slice e)) (l:P.info? e=some i) (A:i.zero=some z) (_hsz:0<i.size)
  {v:Value} {n:Nat} {xs:List Value} (r:w.ownsRow base e i.size v n xs)
  (a:Addr) (m c:Nat) (d:List Value) (f:d.length=m*i.size) (q:∀ j u,d[j]?=some u->w.cell? (a.add j)=some u) (B:∀ u∈d,u.oneCell'=true)
  (C:n+m<=maxLen) (x:(n+m)*i.bytes<=140737488355328) {v':Value} {K:World}
  (b:(Builtin.append_ #[t,t] ty #[v,.slice (some a) m c]).run P w=.ok v' K):v'.ownBlock=v.ownBlock\/v'.ownBlock=some w.heap.size:=by
 have O:n+m<=9223372036854775807:=by simp only [maxLen] at C;omega
 rcases r.2 with ⟨rfl,rfl⟩ | ⟨g,p,s,rfl,L,G,N,M,E,Q⟩
 ·by_cases H:m=0
  ·subst H;have I:d=[]:=List.eq_nil_of_length_eq_zero (by simpa using f);subst I;have:(Builtin.append_ #[t,t] ty #[.slice none 0 0,.slice (some a) 0 c]).run P w=.ok (.slice none 0 0) w:=by
    simp [Builtin.append_,run_underlying o,sizeOf,typeInfo,l,Builtin.lenOf,Builtin.firstCells,loadCells,loadCellsFrom]
   rw [this] at b;cases b;exact .inl rfl
  ·have k:=run_append_nil (P:=P) w t ty e i z o l A a m c d f q oz oz (by have D:=x;simp only [Nat.zero_add] at D;omega);rw [k] at b;cases b;exact .inr rfl
 ·by_cases y:n+m<=p
  ·have F:n*i.size+d.length<=s.size:=by rw [f,E,<-Nat.add_mul];exact Nat.mul_le_mul_right _ y
   have k:=run_append_room (P:=P) w t ty e i o l g n p s G a m c d f q B y F;rw [k] at b;cases b;exact .inl rfl
  ·have J:∀ j u,xs[j]?=some u->w.cell? ((⟨g,0,none⟩:Addr).add j)=some u:=r.cells (g:=g) rfl;have k:=run_append_grow (P:=P) w t ty e i z o l A ⟨g,0,none⟩ n p xs r.1 J a m c d f q oz oz (growslice_fits oz x);rw [k] at b;cases b;exact .inr rfl
def Qhn(v:Value):Prop:=∃ ao n cap,v=.slice ao n cap
theorem Zd{w:World}{base:Nat}{e:TypeId}{a:Nat}{v:Value}{n:Nat}{xs:List Value}(h:w.ownsRow base e a v n xs):∃ ao cap,v=.slice ao n cap:=by
 rcases h.2 with ⟨rfl,rfl⟩ | ⟨c,cap,b,rfl,_⟩
 ·exact⟨_,_,rfl⟩
 ·exact⟨_,_,rfl⟩
theorem Qk{P:Program}{w:World}{ops:Array Oper}{rest:List Oper}{o:Oper}{a:Act}{Q:Exit->Act->World->Prop}(M:o.guard=none)(s x:Operand)(t:TypeId)
  (O:o.op=.call { callee:=.builtin .append,args:=#[s,x],argTypes:=#[t,t] })
  (base:Nat) (e:TypeId) (z:Value) (size g:Nat) (F:P.underlying t=some (.slice e)) (N:(P.info? e).map (fun i=>(i.zero,i.size,i.bytes))=some (some z,size,g))
  (U:z.cells.size=size) (E:0<size)
  (v:Value) (n:Nat) (xs:List Value) (R:a.eval s=v) (C:w.ownsRow base e size v n xs)
  (f:Addr) (m c:Nat) (d:List Value) (T:a.eval x=.slice (some f) m c) (A:d.length=m*size) (B:∀ j u,d[j]?=some u->w.cell? (f.add j)=some u) (l:∀ u∈d,u.oneCell'=true)
  (q:n+m<=maxLen) (r:(n+m)*g<=140737488355328) (L:base<=w.heap.size)
  (h:∀ ao c' w',w'.ownsRow base e size (.slice ao (n+m) c') (n+m) (xs++d)->Q0 (fun b=>v.ownBlock=some b) w w'->((Value.slice ao (n+m) c').ownBlock=v.ownBlock\/(Value.slice ao (n+m) c').ownBlock=some w.heap.size)->wpList P ops Q rest (a.put o.dst (.slice ao (n+m) c')) w'):wpList P ops Q (o::rest) a w:=by
 obtain⟨i,y,G,S,J⟩:=info_parts N;subst S;subst J;refine wpList_plain M fun K hK=>?_
 obtain⟨W,w',D,p,H,V⟩:=run_append_own (P:=P) w base t o.type e i z _ _ F y G rfl rfl U E v n xs C f m c d A B l q r L;have I:=Pi F y G E C f m c d A B l q r D;unfold Oper.wp execOp;simp only [O,resolve,invoke,builtin,Sem.run_bind,Sem.run_pure,Result.andThen_ok,List.map_toArray,List.map_cons,List.map_nil,R,T,D];obtain⟨ao,c',rfl⟩:=Zd p;exact hK _ _ (h ao c' w' p ((Q0.refl _ w).grown H (fun k e=>.inr e)) I)
theorem R5{w:World}{l:List Value}{t:TypeId}:∀ j u,l[j]?=some u->(w.alloc (.cells l.toArray t)).cell? ((⟨w.heap.size,0,none⟩:Addr).add j)=some u:=by
 intro j u c;have a:((⟨w.heap.size,0,none⟩:Addr).add j)=⟨w.heap.size,j,none⟩:=by
  unfold Addr.add;split
  ·rename_i b;subst b;rfl
  ·simp
 rw [a,World.cell?_alloc_new]
 simpa using c
theorem Qq{w:World}{l:List Value}{t:TypeId}{n:Nat}(a:n=w.heap.size):∀ j u,l[j]?=some u->(w.alloc (.cells l.toArray t)).cell? ((⟨n,0,none⟩:Addr).add j)=some u:=by
 subst a;exact R5
theorem Q1k(z:Value)(n:Nat):(madeCells #[z] n).toList=List.replicate n z:=by
 simp only [madeCells,Array.toList_map,Array.toList_range];apply List.ext_getElem
 ·simp
 ·intro c a b;simp [Nat.mod_one]
theorem Jj{P:Program}{w:World}{ops:Array Oper}{rest:List Oper}{o:Oper}{a:Act}{Q:Exit->Act->World->Prop}
  (x:o.guard=none) (l c:Operand) (t:TypeId) (D:o.op=Op.makeSlice t l c)
  (base:Nat) (e:TypeId) (z:Value) (b:Nat) (p:P.underlying t=some (.slice e)) (A:(P.info? e).map (fun i=>(i.zero,i.size,i.bytes))=some (some z,1,b)) (F:z.cells=#[z])
  (f d:IntKind) (L C:Int) (n:Nat) (B:a.eval l=.int f L) (v:a.eval c=.int d C) (s:L=(n:Int)) (q:C=(n:Int)) (g:b*n<=281474976710656) (j:n<=maxLen) (m:base<=w.heap.size)
  (r:∀ w',w'.ownsRow base e 1 (.slice (some ⟨w.heap.size,0,none⟩) n n) n (List.replicate n z)->Ext w w'->wpList P ops Q rest (a.put o.dst (.slice (some ⟨w.heap.size,0,none⟩) n n)) w') :
  wpList P ops Q (o::rest) a w:=by
 obtain⟨i,y,G,E,u⟩:=info_parts A;subst u;refine wpList_make_full w x l c t D base e i z 1 p y G E f d L C n B v s q g j m fun w' hO hG=>?_
 rw [F,Nat.mul_one,Q1k] at hO;exact r w' hO ((Q0.refl _ w).grown hG (fun k e=>by cases e))
theorem Yd{w:World}{base g n cap:Nat}{e:TypeId}{xs:List Value}(h:w.ownsRow base e 1 (.slice (some ⟨g,0,none⟩) n cap) n xs) (j:Nat) (u:Value) :
  (w.setCell ⟨g,j,none⟩ u).ownsRow base e 1 (.slice (some ⟨g,0,none⟩) n cap) n (xs.set j u):=(h.stored j u).1
end Go.Ab
namespace Go.Ab
open Go.RowKit
def Za(w:Wd):List Value:=w.flatMap fun s=>[Value.int .u32 (s.1:Int),Value.int .u32 (s.2:Int)]
theorem Hg(s:Nat × Nat)(w:Wd):Za (s::w)=.int .u32 (s.1:Int)::.int .u32 (s.2:Int)::Za w:=rfl
theorem Q4q(w:Wd):(Za w).length=w.length*2:=by
 induction w with
 | nil=>rfl
 | cons s w ih=>simp [Hg,ih];omega
theorem Zn(v w:Wd):Za (v++w)=Za v++Za w:=by simp [Za]
theorem Qbu(w:Wd)(i:Nat)(h:i<w.length):(Za w)[i*2]?=some (.int .u32 ((w.getD i (0,0)).1:Int))/\(Za w)[i*2+1]?=some (.int .u32 ((w.getD i (0,0)).2:Int)):=by
 induction w generalizing i with
 | nil=>simp at h
 | cons s w ih=>
  cases i with
  | zero=>simp [Hg]
  | succ i=>
   rw [Hg,show (i+1)*2=i*2+1+1 by omega]
   simpa using ih i (by simpa using h)
def Yf(w:Wd):Prop:=∀ s∈w,s.1<4294967296/\s.2<4294967296
theorem Yf.get{w:Wd}(h:Yf w)(i:Nat)(a:i<w.length):(w.getD i (0,0)).1<4294967296/\(w.getD i (0,0)).2<4294967296:=by
 refine h _ ?_;rw [List.getD_eq_getElem?_getD,List.getElem?_eq_getElem a];exact List.getElem_mem a
def Q6(W:World)(v:Value)(w:Wd):Prop:=Rd W v w.length 2 (Za w)/\Yf w
theorem Q6.ext{A B:World}{v:Value}{w:Wd}(h:Q6 A v w)(ht:Ext A B):Q6 B v w:=⟨h.1.ext ht,h.2⟩
theorem Q6.at{W:World}{v:Value}{w:Wd}(h:Q6 W v w){i:Nat}(k:i<w.length) :
  ∃ g off cap,v=.slice (some ⟨g,off,none⟩) w.length cap/\g<W.heap.size/\W.cell? ⟨g,off+i*2,none⟩=some (.int .u32 ((w.getD i (0,0)).1:Int))/\W.cell? ⟨g,off+i*2+1,none⟩=some (.int .u32 ((w.getD i (0,0)).2:Int)):=by
 obtain⟨⟨n,o,m,cap,l,e⟩,p⟩:=h;obtain⟨g,off,f,j,d⟩:=e oz;have c:=Qbu w i k;have a:=d (i*2) oz;have b:=d (i*2+1) oz;rw [List.getD_eq_getElem?_getD,c.1] at a;rw [List.getD_eq_getElem?_getD,c.2,<-Nat.add_assoc] at b;exact⟨g,off,cap,by rw [l,f],j,a,b⟩
theorem Q6.slice{W:World}{v:Value}{w:Wd}(h:Q6 W v w):∃ ao cap,v=.slice ao w.length cap/\w.length<=maxLen:=by
 obtain⟨⟨c,a,ao,cap,b,d⟩,e⟩:=h;exact⟨ao,cap,b,a⟩
theorem Q0j(a b:Nat)(g:a<4294967296)(j:b<4294967296):a &&& (4294967295 - b)=0↔a &&& b=a:=by
 have f:∀ c,(4294967295 - b).testBit c=(decide (c<32) && !b.testBit c):=fun c=>by
  have:=Nat.testBit_two_pow_sub_succ (n:=32) (x:=b) (by simpa using j) c
  simpa using this
 have i:∀ c,32<=c->a.testBit c=false:=fun c e=>Nat.testBit_lt_two_pow (Nat.lt_of_lt_of_le g (Nat.pow_le_pow_right (n:=2) zd e));constructor
 ·intro d;apply Nat.eq_of_testBit_eq;intro c;have:=congrArg (fun v=>Nat.testBit v c) d;simp only [Nat.testBit_and,f,Nat.zero_testBit] at this;rw [Nat.testBit_and];by_cases e:c<32
  ·cases q:a.testBit c <;> cases r:b.testBit c <;> simp_all
  ·rw [i c oz];rfl
 ·intro d;apply Nat.eq_of_testBit_eq;intro c;have:=congrArg (fun v=>Nat.testBit v c) d;simp only [Nat.testBit_and] at this;rw [Nat.testBit_and,f,Nat.zero_testBit];cases q:a.testBit c <;> cases r:b.testBit c <;> simp_all
theorem Qc3{s c:Nat × Nat}(e:s.1<4294967296)(f:s.2<4294967296)(b:c.1<4294967296)(d:c.2<4294967296) :
  (bits .or .u32 (bits .andNot .u32 (c.1:Int) (s.1:Int)) (bits .andNot .u32 (c.2:Int) (s.2:Int)) == 0)=sat s c:=by
 have g:c.1 &&& (4294967295 - s.1)<4294967296:=Nat.lt_of_le_of_lt Nat.and_le_left b;have i:c.2 &&& (4294967295 - s.2)<4294967296:=Nat.lt_of_le_of_lt Nat.and_le_left d;rw [u32_andNot_nat _ _ b e,u32_andNot_nat _ _ d f,u32_or_nat _ _ g i];apply Bool.eq_iff_iff.2;rw [beq_iff_eq,sat,Bool.and_eq_true,beq_iff_eq,beq_iff_eq,<-Q0j _ _ b e,<-Q0j _ _ d f];constructor
 ·intro a;have a:(c.1 &&& (4294967295 - s.1) ||| c.2 &&& (4294967295 - s.2))=0:=by exact_mod_cast a
  exact Nat.or_eq_zero_iff.1 a
 ·intro a;have:(c.1 &&& (4294967295 - s.1) ||| c.2 &&& (4294967295 - s.2))=0:=Nat.or_eq_zero_iff.2 a
  exact_mod_cast this
theorem Wg{a b:Nat}(c:a<4294967296)(d:b<4294967296):((bits .and .u32 (a:Int) (b:Int) == 0)=(a &&& b == 0))/\bits .or .u32 (a:Int) (b:Int)=((a ||| b:Nat):Int):=by
 rw [u32_and_nat _ _ c d,u32_or_nat _ _ c d];refine⟨?_,rfl⟩;apply Bool.eq_iff_iff.2;rw [beq_iff_eq,beq_iff_eq];exact⟨fun h=>by exact_mod_cast h,fun h=>by rw [h];rfl⟩
end Go.Ab
namespace Go.Ab
open Go.RowKit
def Qd(k:Int)(pl mi:Nat)(nt:Bool)(mn mx:Int)(ao:Option Addr)(n cap:Nat):List Value:=
 [.int .i64 k,.int .u32 pl,.int .u32 mi,.bool nt,.int .i64 mn,.int .i64 mx,.slice ao n cap]
mutual
def Qm(K:Nat->Prop)(w:World):Pat->List Value->Prop
 | .node k pl mi nt mn mx l,cs=>∃ ao cap,cs=Qd k pl mi nt mn mx ao l.length cap/\pl<4294967296/\mi<4294967296/\l.length<=cap/\cap<=maxLen/\Ze K w l ao 0
def Ze(K:Nat->Prop)(w:World):List Pat->Option Addr->Nat->Prop
 | [],_,_=>True
 | p::l,ao,i=>(∃ g off cs,ao=some ⟨g,off,none⟩/\K g/\g<w.heap.size/\w.rangeAt g (off+i*7) cs/\Qm K w p cs)/\Ze K w l ao (i+1)
end
theorem Ze.get{K:Nat->Prop}{w:World}:∀ {l:List Pat} {ao:Option Addr} {i:Nat},Ze K w l ao i->∀ j (h:j<l.length),∃ g off cs,ao=some ⟨g,off,none⟩/\K g/\g<w.heap.size/\w.rangeAt g (off+(i+j)*7) cs/\Qm K w l[j] cs
 | [],_,_,_,j,h=>by simp at h
 | p::l,ao,i,h,0,_=>by unfold Ze at h;exact h.1
 | p::l,ao,i,h,j+1,hj=>by
  unfold Ze at h;have:=Ze.get h.2 j (by simpa using hj);rw [show i+(j+1)=i+1+j by omega];exact this
theorem Ze.mk{K:Nat->Prop}{w:World}:∀ {l:List Pat} {ao:Option Addr} {i:Nat},(∀ j (h:j<l.length),∃ g off cs,ao=some ⟨g,off,none⟩/\K g/\g<w.heap.size/\w.rangeAt g (off+(i+j)*7) cs/\Qm K w l[j] cs)->Ze K w l ao i
 | [],_,_,_=>by unfold Ze;trivial
 | p::l,ao,i,h=>by
  unfold Ze;refine⟨h 0 zy,Ze.mk fun j hj=>?_⟩;have:=h (j+1) (by simpa using hj);rw [show i+(j+1)=i+1+j by omega] at this;exact this
theorem Kr{S:Nat->Prop}{A B:World}(ht:Q0 S A B){g o:Nat}{cs:List Value}(h:A.rangeAt g o cs)(hS:¬ S g):B.rangeAt g o cs:=fun j v hv=>ht.cell_some (h j v hv) hS
mutual
theorem Qm.keep{K S:Nat->Prop}{A B:World}(ht:Q0 S A B)(hS:∀ g,K g->¬ S g):∀ {p:Pat} {cs:List Value},Qm K A p cs->Qm K B p cs
 | .node k pl mi nt mn mx l,cs,h=>by
  unfold Qm at h ⊢;obtain⟨ao,cap,h1,h2,h3,h4,h5,h6⟩:=h;exact⟨ao,cap,h1,h2,h3,h4,h5,Ze.keep ht hS h6⟩
theorem Ze.keep{K S:Nat->Prop}{A B:World}(ht:Q0 S A B)(hS:∀ g,K g->¬ S g):∀ {l:List Pat} {ao:Option Addr} {i:Nat},Ze K A l ao i->Ze K B l ao i
 | [],_,_,_=>by unfold Ze;trivial
 | p::l,ao,i,h=>by
  unfold Ze at h ⊢;obtain⟨⟨g,off,cs,h1,h2,h3,h4,h5⟩,h6⟩:=h;exact⟨⟨g,off,cs,h1,h2,Nat.lt_of_lt_of_le h3 ht.size,Kr ht h4 (hS g h2),Qm.keep ht hS h5⟩,Ze.keep ht hS h6⟩
end
theorem Qm.ext{K:Nat->Prop}{A B:World}{p:Pat}{cs:List Value}(h:Qm K A p cs)(ht:Ext A B):Qm K B p cs:=h.keep ht fun _ _ h=>h
theorem Ze.ext{K:Nat->Prop}{A B:World}{l:List Pat}{ao:Option Addr}{i:Nat}(h:Ze K A l ao i)(ht:Ext A B):Ze K B l ao i:=h.keep ht fun _ _ h=>h
mutual
theorem Qm.mono{K L:Nat->Prop}{A:World}(hK:∀ g,K g->L g):∀ {p:Pat} {cs:List Value},Qm K A p cs->Qm L A p cs
 | .node k pl mi nt mn mx l,cs,h=>by
  unfold Qm at h ⊢;obtain⟨ao,cap,h1,h2,h3,h4,h5,h6⟩:=h;exact⟨ao,cap,h1,h2,h3,h4,h5,Ze.mono hK h6⟩
theorem Ze.mono{K L:Nat->Prop}{A:World}(hK:∀ g,K g->L g):∀ {l:List Pat} {ao:Option Addr} {i:Nat},Ze K A l ao i->Ze L A l ao i
 | [],_,_,_=>by unfold Ze;trivial
 | p::l,ao,i,h=>by
  unfold Ze at h ⊢;obtain⟨⟨g,off,cs,h1,h2,h3,h4,h5⟩,h6⟩:=h;exact⟨⟨g,off,cs,h1,hK g h2,h3,h4,Qm.mono hK h5⟩,Ze.mono hK h6⟩
end
end Go.Ab
namespace Go.Ab
open Go.RowKit
theorem Bg{P:Program}{w:World}{base:Nat}{t ty e:TypeId}{size:Nat}{i:TypeInfo}(b:P.underlying t=some (.slice e)) (a:P.info? e=some i)
  {v:Value} {n:Nat} {xs:List Value} (f:w.ownsRow base e size v n xs) (ao:Option Addr) (c:Nat) :
  (Builtin.append_ #[t,t] ty #[v,.slice ao 0 c]).run P w=.ok v w:=by
 rcases f.2 with ⟨rfl,rfl⟩ | ⟨k,g,j,rfl,_,_,d,_⟩
 ·cases ao <;> simp [Builtin.append_,run_underlying b,sizeOf,typeInfo,a,Builtin.lenOf,Builtin.firstCells,loadCells,loadCellsFrom]
 ·cases ao <;> simp [Builtin.append_,run_underlying b,sizeOf,typeInfo,a,Builtin.lenOf,Builtin.firstCells,d,storeCells,loadCells,loadCellsFrom]
theorem Rd.cells{w:World}{m size:Nat}{e:List Value}{a:Addr}{c:Nat}(h:Rd w (.slice (some a) m c) m size e) (n:0<m):∀ j u,e[j]?=some u->w.cell? (a.add j)=some u:=by
 obtain⟨r,s,p,q,o,i⟩:=h;intro j u d;obtain⟨b,f,k,t,l⟩:=i n;cases o;cases k;have v:=(List.getElem?_eq_some_iff.1 d).1;have:=l j oz;rw [List.getD_eq_getElem?_getD,d] at this;have g:((⟨b,f,none⟩:Addr).add j)=⟨b,f+j,none⟩:=by
  unfold Addr.add;split
  ·rename_i h;subst h;simp
  ·simp
 rw [g];exact this
theorem Jo{P:Program}{w:World}{ops:Array Oper}{rest:List Oper}{o:Oper}{a:Act}{Q:Exit->Act->World->Prop}(k:o.guard=none)(s x:Operand)(t:TypeId)
  (q:o.op=.call { callee:=.builtin .append,args:=#[s,x],argTypes:=#[t,t] })
  (base:Nat) (e:TypeId) (z:Value) (size f:Nat) (A:P.underlying t=some (.slice e)) (l:(P.info? e).map (fun i=>(i.zero,i.size,i.bytes))=some (some z,size,f))
  (N:z.cells.size=size) (M:0<size)
  (v:Value) (n:Nat) (xs:List Value) (y:a.eval s=v) (d:w.ownsRow base e size v n xs)
  (u:Value) (m:Nat) (c:List Value) (B:a.eval x=u) (r:Rd w u m size c) (D:∀ u∈c,u.oneCell'=true)
  (E:n+m<=maxLen) (G:(n+m)*f<=140737488355328) (F:base<=w.heap.size)
  (h:∀ ao c' w',w'.ownsRow base e size (.slice ao (n+m) c') (n+m) (xs++c)->Q0 (fun b=>v.ownBlock=some b) w w'->((Value.slice ao (n+m) c').ownBlock=v.ownBlock\/(Value.slice ao (n+m) c').ownBlock=some w.heap.size)->wpList P ops Q rest (a.put o.dst (.slice ao (n+m) c')) w'):wpList P ops Q (o::rest) a w:=by
 have L:=r;obtain⟨j,T,ao,g,rfl,C⟩:=r;by_cases p:0<m
 ·obtain⟨S,X,rfl,_,_⟩:=C p;exact Qk k s x t q base e z size f A l N M v n xs y d _ m g c B j (L.cells p) D E G F h
 ·obtain rfl:m=0:=by omega
  have I:c=[]:=List.eq_nil_of_length_eq_zero (by simpa using j);subst I;obtain⟨i,H,W,V,U⟩:=info_parts l;refine wpList_plain k fun K hK=>?_
  have J:=Bg (P:=P) (ty:=o.type) A H d ao g;obtain⟨R,O,rfl⟩:=Zd d;unfold Oper.wp execOp;simp only [q,resolve,invoke,builtin,Sem.run_bind,Sem.run_pure,Result.andThen_ok,List.map_toArray,List.map_cons,List.map_nil,y,B,J];exact hK _ _ (h R O w (by simpa using d) (Q0.refl _ _) (.inl rfl))
end Go.Ab
namespace Go.Ab
open Go.RowKit
theorem Qbc{α:Type}{P:Program}{g:Operand}{ps:Array Tmp}{assign body:Code}{Q:Exit->Act->World->Prop}{a:Act}{w:World}
  {gf:Nat} {lb:Array Value} (c2:a.eval g=.func (.func gf) #[] lb) (a7:∀ args w,(callFunc gf args).run P w=.ok (.enter gf args) w)
  {N:α->Array Value} {xs:List α} {S K:Nat->Prop} (c6:Q39 P gf lb N xs S K w) (b4:∀ b,S b->K b) (a4:∀ b,K b->b<w.heap.size) (c4:∀ x,(N x).size=ps.size)
  (I:List α->World->Prop) (G:Code->List α->World->Prop)
  (H:∀ pre A B,I pre A->Q0 (fun b=>S b\/b=w.heap.size+1) A B->I pre B)
  (J:∀ c pre A B,G c pre A->Q0 (fun b=>S b\/b=w.heap.size+1) A B->G c pre B)
  (a8:∀ W,Ext w W->W.heap.size=w.heap.size+2->I [] W) (M:α->Act->World->Prop) (b1:∀ x a' A B,M x a' A->Q0 (fun b=>b=w.heap.size+1) A B->M x a' B)
  (b6:∀(pre:List α) (x:α) (W:World) (Kn:Act->World->Prop),x∈xs->I pre W->w.heap.size+2<=W.heap.size->(∀ a' W',Ext W W'->M x a' W'->Kn a' W') ->
   assign.wpIn (Fence.wide.inRound (w.heap.size+1)) 0 P (Exit.then Kn (fun _ _ _=>False)) { tmps:=(ps.zip (N x)).foldl (fun t (p,v)=>t.setIfInBounds p v) a.tmps,defers:=[] } W)
  (b8:∀(pre:List α) (x:α) (rest:List α) (a':Act) (W:World),xs=pre++x::rest->w.heap.size+2<=W.heap.size->Q0 (fun b=>¬ K b\/S b) w W->I pre W->M x a' W ->
   body.wpIn (Fence.wide.inRound (w.heap.size+1)) 0 P (Q2c (fun b=>K b\/b=w.heap.size\/b=w.heap.size+1) I G (pre++[x]) W) a' W)
  (c1:∀ W,I xs W->Q0 (fun b=>¬ K b\/S b) w W->W.heap[w.heap.size]?=some (.deferred (some []))->Q .normal { a with defers:={ target:=.collected w.heap.size,args:=#[] }::a.defers } W)
  (c7:∀ c pre x rest W,xs=pre++x::rest->G c (pre++[x]) W->W.heap[w.heap.size]?=some (.deferred (some []))->c.wp P Q { a with defers:={ target:=.collected w.heap.size,args:=#[] }::a.defers } W) :
  (Code.rangeFunc g ps assign body).wp P Q a w:=by
 refine(wpIn_wide (n:=0)).1 (wpIn_rangeFunc ?_);intro fn _;obtain⟨f,k⟩:∃ f:LoopState->Option Code->Loop,f=fun st pe=>{ state:=st,pending:=pe,fn,tmps:=a.tmps,params:=ps,assign,body,defers:=w.heap.size }:=⟨_,rfl⟩;obtain⟨j,L⟩:=zE ((w.alloc (.deferred (some []))).alloc (.loop (f .ready none)));have b3:j.heap[w.heap.size+1]?=some (.loop (f .ready none)):=by
  rw [<-L];have:=World.alloc_heap_new (w.alloc (.deferred (some []))) (.loop (f .ready none));rwa [World.size_alloc] at this
 have b2:j.heap[w.heap.size]?=some (.deferred (some [])):=by
  rw [<-L];exact(Below.heap_alloc _ _ _ zy).trans (World.alloc_heap_new w _)
 have Z:Ext w j:=by rw [<-L];exact((Q0.refl _ w).alloc _).alloc _
 have c5:j.heap.size=w.heap.size+2:=by rw [<-L];simp
 have R:∀ b,S b->b≠w.heap.size+1/\b≠w.heap.size:=fun b hb=>by have:=a4 b (b4 b hb);omega
 refine⟨w.heap.size+1,[{ target:=.collected w.heap.size,args:=#[] }],j,{ target:=.fn (.func gf) lb,args:=#[.func (.yield (w.heap.size+1)) #[] #[]] },j,gf,
  #[.func (.yield (w.heap.size+1)) #[] #[]]++lb,j,?_,?_,fun _ _=>trivial,?_,fun h=>by simp [Fence.wide] at h,?_⟩
 ·rw [<-L,k];exact run_enterLoop_outer _ _ _ _ _
 ·simp only [resolve,c2];simp [go_sem]
 ·simp [invoke,go_sem,a7]
 ·refine callsIn_wide.2 ((c6 (w.heap.size+1)
   (fun pre W=>I pre W/\W.heap[w.heap.size+1]?=some (.loop (f .ready none))/\W.heap[w.heap.size]?=some (.deferred (some []))/\Q0 (fun b=>¬ K b\/S b) w W/\w.heap.size+2<=W.heap.size)
   (fun pre W=>∃ c,G c pre W/\W.heap[w.heap.size+1]?=some (.loop (f .done (some c)))/\W.heap[w.heap.size]?=some (.deferred (some [])))
   j Z.of ?_ ?_ ?_ ⟨a8 _ Z c5,b3,b2,Z.of,by omega⟩).mono ?_)
  ·rintro pre A B ⟨U,V,Y,a9,b0⟩ e;exact⟨H _ _ _ U (e.mono fun b _ hb=>.inl hb),e.heap V (fun hb=>(R _ hb).1 rfl),e.heap Y (fun hb=>(R _ hb).2 rfl),a9.after e (fun b _ hb=>.inr hb),Nat.le_trans b0 e.size⟩
  ·rintro pre A B ⟨c,U,V,Y⟩ e;exact⟨c,J _ _ _ _ U (e.mono fun b _ hb=>.inl hb),e.heap V (fun hb=>(R _ hb).1 rfl),e.heap Y (fun hb=>(R _ hb).2 rfl)⟩
  · -- one round
   rintro pre x rest W T ⟨l,m,r,e,E⟩;have c9:=e;have c8:=E;have a6:w.heap.size+1<W.heap.size:=by omega
   have a1:=run_yield (P:=P) (args:=N x) m (by rw [k];exact c4 x);rw [k] at a1;refine⟨fn,_,assign,body,a1,roundIn_of_wpIn trivial (b6 pre x W _ (by rw [T];simp) l E ?_)⟩;clear a1;intro a' W' C b7;have b5:=C;have l:=H _ _ _ l (Ext.of C);have m:=C.keep m;have r:=C.keep r;have e:=e.after C (fun b _ h=>h.elim);have E:w.heap.size+2<=W'.heap.size:=Nat.le_trans E C.size;have a6:w.heap.size+1<W'.heap.size:=by omega
   refine⟨_,run_beginRound m (by rw [k]),?_⟩;have c3:(W'.putObj (w.heap.size+1) (.loop { f .ready none with state:=.busy })).heap[w.heap.size+1]?=some (.loop { f .ready none with state:=.busy }):=World.putObj_heap_same a6;have b9:(W'.putObj (w.heap.size+1) (.loop { f .ready none with state:=.busy })).heap[w.heap.size]?=some (.deferred (some [])):=(World.putObj_heap_other oz).trans r;have q:∀(X:World) o,Q0 (fun b=>S b\/b=w.heap.size+1) X (X.putObj (w.heap.size+1) o):=fun X o=>(Q0.refl _ X).putObj (.inr (.inr rfl)) o;have a0:∀(X:World) o,Q0 (fun b=>¬ K b) X (X.putObj (w.heap.size+1) o):=fun X o=>(Q0.refl _ X).putObj (.inr (fun hk=>by have:=a4 _ hk;omega)) o;refine wpIn_mono (b8 pre x rest a' _ T (by simpa using E) (e.after (a0 W' _) (fun b _ hb=>.inl hb)) (H _ _ _ l (q W' _)) (b1 _ _ _ _ b7 ((Q0.refl (fun b=>b=w.heap.size+1) W').putObj (.inr rfl) _))) ?_
   have O:∀(jump:Option Code) (d:World),Q0 (fun b=>¬ (K b\/b=w.heap.size\/b=w.heap.size+1)) (W'.putObj (w.heap.size+1) (.loop { f .ready none with state:=.busy })) d ->
     (Instr.endRound (w.heap.size+1) jump).run P d=.ok (.bool jump.isNone) (d.putObj (w.heap.size+1) (.loop (f (if jump.isNone then .ready else .done) jump))) /\
     (d.putObj (w.heap.size+1) (.loop (f (if jump.isNone then .ready else .done) jump))).heap[w.heap.size+1]?=some (.loop (f (if jump.isNone then .ready else .done) jump)) /\
     (d.putObj (w.heap.size+1) (.loop (f (if jump.isNone then .ready else .done) jump))).heap[w.heap.size]?=some (.deferred (some [])) /\
     Q0 (fun b=>¬ K b) W (d.putObj (w.heap.size+1) (.loop (f (if jump.isNone then .ready else .done) jump))):=fun jump d i=>by
    have a5:=i.heap c3 (fun h=>h (.inr (.inr rfl)));have c0:=i.heap b9 (fun h=>h (.inr (.inl rfl)));have:=run_endRound (P:=P) jump a5;rw [k] at this ⊢;refine⟨this,World.putObj_heap_same (Array.getElem?_eq_some_iff.1 a5).1,(World.putObj_heap_other oz).trans c0,?_⟩;exact(((b5.of).trans (a0 W' _)).trans (i.mono fun b _ hb hk=>hb (.inl hk))).trans (a0 d _)
   rintro a3 d0 d D;cases a3 with
   | normal=>
    obtain⟨i,u⟩:=D;obtain⟨z,y,s,F⟩:=O none d i;exact⟨_,_,z,.inl ⟨rfl,⟨H _ _ _ u (q d _),y,s,c9.after F (fun b _ hb=>.inl hb),Nat.le_trans c8 F.size⟩,F⟩⟩
   | ret=>
    obtain⟨i,u⟩:=D;obtain⟨z,y,s,F⟩:=O (some .ret) d i;exact⟨_,_,z,.inr ⟨rfl,.ret,J _ _ _ _ u (q d _),y,s⟩⟩
   | exit id=>
    obtain⟨i,u⟩:=D;obtain⟨z,y,s,F⟩:=O (some (.exit id)) d i;exact⟨_,_,z,.inr ⟨rfl,.exit id,J _ _ _ _ u (q d _),y,s⟩⟩
   | goto t=>
    obtain⟨i,u⟩:=D;obtain⟨z,y,s,F⟩:=O (some (.goto t)) d i;exact⟨_,_,z,.inr ⟨rfl,.goto t,J _ _ _ _ u (q d _),y,s⟩⟩
   | panic ch=>exact D.elim
   | outgrown=>exact D.elim
  · -- behind the iterator
   have q:∀(X:World) o,Q0 (fun b=>S b\/b=w.heap.size+1) X (X.putObj (w.heap.size+1) o):=fun X o=>(Q0.refl _ X).putObj (.inr (.inr rfl)) o;rintro a3 a2 ⟨⟨v,rfl⟩,(⟨l,m,r,e,E⟩ | ⟨pre,x,rest,T,c,l,m,r⟩)⟩
   ·refine⟨none,_,by have:=run_endLoop (P:=P) m (by rw [k];simp);rw [k] at this;exact this,?_⟩;exact c1 _ (H _ _ _ l (q a2 _)) (e.putObj (.inl oz) _) ((World.putObj_heap_other oz).trans r)
   ·refine⟨some c,_,by have:=run_endLoop (P:=P) m (by rw [k];simp);rw [k] at this;exact this,?_⟩;exact(wpIn_wide (n:=0)).2 (c7 c pre x rest _ T (J _ _ _ _ l (q a2 _)) ((World.putObj_heap_other oz).trans r))
theorem Sn{P:Program}{ops:Array Oper}{Q:Exit->Act->World->Prop}{S:World->Prop}{id l n:Nat}{a:Act}{w:World}(hm:P.follows .mixedOrders=true)(hd:Vk ops=true)(hQ:¬ LetsOut Q)(hS:S w.drew)
  (h:S w.drew->wpAnyH P .any ops Q S ops.size (Array.replicate ops.size false) a w.drew):(Code.region id ops true).wpIn (Fence.wide.inRound l) n P Q a w:=
 Ha hm hd hQ (wpAny_of_held _ _ _ _ (h hS))
end Go.Ab
namespace Go.Ab
open Go.RowKit
theorem Q61{w:World}{base:Nat}{e:TypeId}{b g n cap:Nat}{xs:List Value}(h:w.ownsRow base e b (.slice (some ⟨g,0,none⟩) (n+1) cap) (n+1) xs) :
  w.ownsRow base e b (.slice (some ⟨g,0,none⟩) n cap) n (xs.take (n*b)):=by
 have k:=h.1;rcases h.2 with ⟨a,_⟩ | ⟨o,m,c,a,d,j,p,f,i,l⟩
 ·cases a
 ·simp only [zV,Option.some.injEq,Addr.mk.injEq] at a;obtain⟨⟨rfl,_,_⟩,_,rfl⟩:=a;refine⟨by rw [List.length_take,k,Nat.min_eq_left (Nat.mul_le_mul_right _ oz)],.inr ⟨g,cap,c,rfl,d,j,by omega,f,i,?_⟩⟩;rw [<-l,List.take_take,Nat.min_eq_left (Nat.mul_le_mul_right _ oz)]
def Uj:List Value->Nat->List Value->List Value
 | cur,_,[]=>cur
 | cur,o,v::vs=>Uj (cur.set o v) (o+1) vs
theorem Wf:∀(vs cur:List Value) (o:Nat),(Uj cur o vs).length=cur.length
 | [],cur,o=>rfl
 | v::vs,cur,o=>by unfold Uj;rw [Wf vs,List.length_set]
theorem Dv{t:TypeId}{b:Nat}:∀(vs:List Value) (o:Nat) (w:World) (cur:Array Value),w.heap[b]?=some (.cells cur t (0,0))->(w.setCells b o vs).heap[b]?=some (.cells (Uj cur.toList o vs).toArray t (0,0))
 | [],o,w,cur,h=>h
 | v::vs,o,w,cur,h=>by
  have h1:(w.setCell ⟨b,o,none⟩ v).heap[b]?=some (.cells (cur.setIfInBounds o v) t (0,0)):=by
   simp only [World.setCell,Array.getElem?_modify,h];simp
  have:=Dv vs (o+1) _ _ h1;rw [Array.toList_setIfInBounds] at this;exact this
theorem Eq:∀(vs pre zs:List Value),vs.length=zs.length->Uj (pre++zs) pre.length vs=pre++vs
 | [],pre,zs,h=>by
  obtain rfl:zs=[]:=List.eq_nil_of_length_eq_zero (by simpa using h.symm);rfl
 | v::vs,pre,z::zs,h=>by
  unfold Uj;have e:(pre++z::zs).set pre.length v=(pre++[v])++zs:=by
   rw [List.set_append_right _ _ (Nat.le_refl _)];simp
  rw [e];have:=Eq vs (pre++[v]) zs (by simpa using h);rw [List.length_append] at this
  simpa using this
theorem Ng:∀(vs cur:List Value) (o m:Nat),o+vs.length<=m->(Uj cur o vs).take m=Uj (cur.take m) o vs
 | [],cur,o,m,_=>rfl
 | v::vs,cur,o,m,h=>by
  unfold Uj;rw [Ng vs _ _ _ (by simp at h;omega)]
  congr 1
  simp only [List.length_cons] at h;rw [List.take_set]
theorem Da{w:World}{base:Nat}{e:TypeId}{a g n cap:Nat}{xs f cs:List Value}(h:w.ownsRow base e a (.slice (some ⟨g,0,none⟩) (n+1) cap) (n+1) (xs++f)) (d:xs.length=n*a) (i:cs.length=a) :
  (w.setCells g (n*a) cs).ownsRow base e a (.slice (some ⟨g,0,none⟩) (n+1) cap) (n+1) (xs++cs):=by
 have p:=h.1;rcases h.2 with ⟨b,_⟩ | ⟨t,s,c,b,k,o,q,l,m,r⟩
 ·cases b
 ·simp only [zV,Option.some.injEq,Addr.mk.injEq] at b;obtain⟨⟨rfl,_,_⟩,_,rfl⟩:=b;have u:f.length=a:=by
   rw [List.length_append,d,Nat.add_mul,Nat.one_mul] at p;omega
  refine⟨by rw [List.length_append,d,i,Nat.add_mul,Nat.one_mul],.inr ⟨g,cap,_,rfl,k,Dv cs _ w c o,q,l,by simp [Wf,m],?_⟩⟩;have j:n*a+cs.length<=(n+1)*a:=by rw [i,Nat.add_mul,Nat.one_mul];exact Nat.le_refl _
  rw [show ((Uj c.toList (n*a) cs).toArray.toList)=Uj c.toList (n*a) cs from rfl,Ng _ _ _ _ j,r,<-d];exact Eq cs xs f oz
theorem Q0.setCells(A:World)(b:Nat):∀(vs:List Value) (o:Nat),Q0 (·=b) A (A.setCells b o vs)
 | [],_=>Q0.refl _ _
 | v::vs,o=>(Q0.set1 A b o v).trans (Q0.setCells (A.setCell ⟨b,o,none⟩ v) b vs (o+1))
theorem Dg{w:World}{base:Nat}{e:TypeId}{sz g n cap:Nat}{xs:List Value}(h:w.ownsRow base e sz (.slice (some ⟨g,0,none⟩) n cap) n xs) {o m:Nat} (ho:o+m<=n*sz):w.there g o m:=fun j hj=>by
 have h1:=h.cellAt (o+j) oz;have h2:=h.frozenAt (o+j);have:(o+j)<xs.length:=by rw [h.1];omega
 rw [List.getElem?_eq_getElem this] at h1;exact⟨by rw [h1];rfl,h2⟩
theorem Q0f{w:World}{base:Nat}{e:TypeId}{sz g n cap:Nat}{xs:List Value}(h:w.ownsRow base e sz (.slice (some ⟨g,0,none⟩) n cap) n xs) {o:Nat} {cs:List Value} (hc:∀ j v,cs[j]?=some v->xs[o+j]?=some v):w.rangeAt g o cs:=fun j v hv=>by
 have h0:=hc j v hv;have hlt:o+j<n*sz:=by rw [<-h.1];exact(List.getElem?_eq_some_iff.1 h0).1
 rw [h.cellAt (o+j) hlt];exact h0
theorem Kx{w:World}{base:Nat}{e:TypeId}{b n m cap:Nat}{ao:Option Addr}{xs:List Value}(h:w.ownsRow base e b (.slice ao (n+1) cap) m xs):∃ g,ao=some ⟨g,0,none⟩:=by
 rcases h.2 with ⟨a,_⟩ | ⟨g,_,_,a,_⟩
 ·cases a
 ·cases a;exact⟨g,rfl⟩
theorem Kd{w:World}{base:Nat}{e:TypeId}{c g n m cap:Nat}{xs:List Value}(h:w.ownsRow base e c (.slice (some ⟨g,0,none⟩) n cap) m xs):∃ cur,w.heap[g]?=some (.cells cur e (0,0)):=by
 rcases h.2 with ⟨a,_⟩ | ⟨_,_,cur,a,_,b,_⟩
 ·cases a
 ·cases a;exact⟨cur,b⟩
theorem Yj{P:Program}{w:World}{o:Oper}{a:Act}{K:Act->World->Prop}{Q:Exit->Act->World->Prop}(s x:Operand)(t:TypeId)
  (N:o.op=.call { callee:=.builtin .append,args:=#[s,x],argTypes:=#[t,t] })
  (base:Nat) (e:TypeId) (z:Value) (size g:Nat) (F:P.underlying t=some (.slice e)) (M:(P.info? e).map (fun i=>(i.zero,i.size,i.bytes))=some (some z,size,g))
  (T:z.cells.size=size) (E:0<size)
  (v:Value) (n:Nat) (xs:List Value) (O:a.eval s=v) (C:w.ownsRow base e size v n xs)
  (f:Addr) (m c:Nat) (d:List Value) (S:a.eval x=.slice (some f) m c) (A:d.length=m*size) (B:∀ j u,d[j]?=some u->w.cell? (f.add j)=some u) (l:∀ u∈d,u.oneCell'=true)
  (q:n+m<=maxLen) (r:(n+m)*g<=140737488355328) (L:base<=w.heap.size)
  (h:∀ ao c' w',w'.ownsRow base e size (.slice ao (n+m) c') (n+m) (xs++d)->Q0 (fun b=>v.ownBlock=some b) w w'->((Value.slice ao (n+m) c').ownBlock=v.ownBlock\/(Value.slice ao (n+m) c').ownBlock=some w.heap.size)->K (a.put o.dst (.slice ao (n+m) c')) w'):Oper.wp P o a w K Q:=by
 obtain⟨i,y,G,R,J⟩:=info_parts M;subst R;subst J;obtain⟨V,w',D,p,H,U⟩:=run_append_own (P:=P) w base t o.type e i z _ _ F y G rfl rfl T E v n xs C f m c d A B l q r L;have I:=Pi F y G E C f m c d A B l q r D;unfold Oper.wp execOp;simp only [N,resolve,invoke,builtin,Sem.run_bind,Sem.run_pure,Result.andThen_ok,List.map_toArray,List.map_cons,List.map_nil,O,S,D];obtain⟨ao,c',rfl⟩:=Zd p;exact h ao c' w' p ((Q0.refl _ w).grown H (fun k e=>.inr e)) I
end Go.Ab
