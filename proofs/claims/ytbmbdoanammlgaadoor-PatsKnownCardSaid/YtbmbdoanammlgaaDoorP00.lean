/- Short names for steps that recur. -/
import Derived.WalkKit
import Derived.Lib.Hide
import Derived.RangeFuncNested
import Derived.OwnWalkIn
import Derived.TacticsInMore
import Derived.LoopNIn
import Derived.LoopIn
import Derived.BigQuiet
import Derived.StillTailTactics
import Derived.Deep.DeepCutAuto
import Derived.Deep.RegionHeld3
namespace Go.Ab
open Go.RowKit
universe u
theorem pq:(∀(l:List Value) (i:Nat) (a:Value),l.toArray.setIfInBounds i a=(l.set i a).toArray)/\(∀(x:Value) (l:List Value) (a:Value),(x::l).set 0 a=a::l)/\(∀(x:Value) (l:List Value) (i:Nat) (a:Value),(x::l).set (i+1) a=x::l.set i a):=
 ⟨fun _ _ _=>List.setIfInBounds_toArray ..,fun _ _ _=>rfl,fun _ _ _ _=>rfl⟩
theorem tkH{P:Program}{md:Region.Mode}{ops:Array Oper}{Q:Exit->Act->World->Prop}{S:World->Prop}{i d:Nat}{oi:Oper}{v:Value}{fuel:Nat}{listed:Array Bool}{a:Act}{w:World}(hi:ops[i]?=some oi)
  (hy:YieldsIf P ops S oi v a) (hS:S w) (h:wpAnyH P md ops Q S fuel (listed.setIfInBounds i true) (a.put (some d) v) w)
  (hs:Region.noSelect ops=true:=by kernel_rfl) (hf:Region.free md ops listed i=true:=by kernel_rfl) (hr:(Region.ready md ops listed).contains i=true:=by kernel_rfl) (hd:oi.dst=some d:=by rfl)
  (hQ:∀ c a w,Q (.panic c) (a.put (some d) v) w->Q (.panic c) a w:=by exact fun _ _ _ h=>h):wpAnyH P md ops Q S (fuel+1) listed a w:=
 wpAnyH_take hi hs hf hr (by rw [hd];exact hQ) hy hS (by rw [hd];exact h)
theorem tH(i d:Nat){P:Program}{md:Region.Mode}{ops:Array Oper}{Q:Exit->Act->World->Prop}{S:World->Prop}{oi:Oper}{v:Value}{fuel:Nat}{listed:Array Bool}{a a':Act}{w:World}
  (hS:S w) (h:wpAnyH P md ops Q S fuel (listed.setIfInBounds i true) a' w) (hi:ops[i]?=some oi:=by exact rfl)
  (hy:YieldsIf P ops S oi v a:=by(exact Or.inl ⟨by rfl,by(intro w hSw;(try dsimp only at hSw);go_simp;try with_reducible rfl)⟩)) (ha:a.put (some d) v=a':=by((try simp only [Act.put,pq]);exact rfl))
  (hs:Region.noSelect ops=true:=by kernel_rfl) (hf:Region.free md ops listed i=true:=by kernel_rfl) (hr:(Region.ready md ops listed).contains i=true:=by kernel_rfl) (hd:oi.dst=some d:=by rfl)
  (hQ:∀ c a w,Q (.panic c) (a.put (some d) v) w->Q (.panic c) a w:=by exact fun _ _ _ h=>h):wpAnyH P md ops Q S (fuel+1) listed a w:=
 wpAnyH_take hi hs hf hr (by rw [hd];exact hQ) hy hS (by rw [hd,ha];exact h)
theorem rH(rs:List Nat){P:Program}{md:Region.Mode}{ops:Array Oper}{Q:Exit->Act->World->Prop}{S:World->Prop}{fuel:Nat}{listed:Array Bool}{a:Act}{w:World}
  (h:AllReadyH P md ops Q S fuel listed a w rs) (hr:Region.ready md ops listed=rs:=by kernel_rfl) (hne:rs≠[]:=by simp):wpAnyH P md ops Q S (fuel+1) listed a w:=wpAnyH_ready hr hne h
theorem oz{p:Prop}(h:p:=by omega):p:=h
theorem kz{p:Prop}(h:p:=by kernel_rfl):p:=h
theorem zd{p:Prop}(h:p:=by decide):p:=h
theorem tz{p:Prop}(h:p:=by first | rfl | trivial):p:=h
theorem nz{p:Prop}(h:p:=by simp [intOf];omega):p:=h
theorem zE{α:Sort u}(a:α):∃ x,a=x:=⟨a,rfl⟩
theorem zV(a a':Option Addr)(b b' c c':Nat):(Value.slice a b c=Value.slice a' b' c')=(a=a'/\b=b'/\c=c'):=Value.slice.injEq ..
theorem zy{p:Prop}(h:p:=by simp):p:=h
theorem zS:(∀ l:List Value,l.toArray.size=l.length)/\(∀(a:Value) (l:List Value),(a::l).length=l.length+1)/\(([]:List Value).length=0)/\(∀(n:Nat) (a:Value),Array.replicate (n+1) a=(Array.replicate n a).push a)/\(∀ a:Value,Array.replicate 0 a=#[])/\(∀(l:List Value) (a:Value),l.toArray.push a=(l++[a]).toArray)/\(∀ l m:List Value,l.toArray++m.toArray=(l++m).toArray)/\(∀ l:List Value,[]++l=l)/\(∀(a:Value) (l m:List Value),(a::l)++m=a::(l++m)):=
 ⟨fun _=>rfl,fun _ _=>rfl,rfl,fun _ _=>Array.replicate_succ ..,fun _=>Array.replicate_zero ..,fun _ _=>List.push_toArray ..,fun _ _=>List.append_toArray ..,fun _=>rfl,fun _ _ _=>rfl⟩
theorem zR{w:World}{g:Nat}{cs:Array Value}{t:TypeId}{fr:Nat × Nat}(h:w.heap[g]?=some (.cells cs t fr)) (j:Nat):w.cell? ⟨g,j,none⟩=cs[j]?:=cell_of_row _ _ j _ _ _ h
theorem Zh3{p q r:Prop}(a:p)(b:q)(c:r):Hid p/\Hid q/\Hid r:=⟨a,b,c⟩
theorem Zh4{p q r s:Prop}(a:p)(b:q)(c:r)(d:s):Hid p/\Hid q/\Hid r/\Hid s:=⟨a,b,c,d⟩
theorem Zh5{p q r s t:Prop}(a:p)(b:q)(c:r)(d:s)(e:t):Hid p/\Hid q/\Hid r/\Hid s/\Hid t:=⟨a,b,c,d,e⟩
theorem Zh6{p q r s t v:Prop}(a:p)(b:q)(c:r)(d:s)(e:t)(f:v):Hid p/\Hid q/\Hid r/\Hid s/\Hid t/\Hid v:=⟨a,b,c,d,e,f⟩
theorem Zh7{p q r s t v x:Prop}(a:p)(b:q)(c:r)(d:s)(e:t)(f:v)(g:x):Hid p/\Hid q/\Hid r/\Hid s/\Hid t/\Hid v/\Hid x:=⟨a,b,c,d,e,f,g⟩
theorem Zh8{p q r s t v x y:Prop}(a:p)(b:q)(c:r)(d:s)(e:t)(f:v)(g:x)(h:y):Hid p/\Hid q/\Hid r/\Hid s/\Hid t/\Hid v/\Hid x/\Hid y:=⟨a,b,c,d,e,f,g,h⟩
theorem Zh{p:Prop}(h:p):Hid p:=h
end Go.Ab
namespace Go.Ab
open Go.RowKit
structure Q1 (S:Nat->Prop) (A B:World):Prop where
 os:B.os=A.os
 tape:B.tape=A.tape
 output:B.output=A.output
 size:A.heap.size<=B.heap.size
 block:∀ b,b<A.heap.size->¬ S b->B.heap[b]?=A.heap[b]?
theorem Q1.refl(S:Nat->Prop)(A:World):Q1 S A A:=⟨rfl,rfl,rfl,Nat.le_refl _,fun _ _ _=>rfl⟩
theorem Q1.trans{S:Nat->Prop}{A B C:World}(h:Q1 S A B)(k:Q1 S B C):Q1 S A C:=
 ⟨k.os.trans h.os,k.tape.trans h.tape,k.output.trans h.output,Nat.le_trans h.size k.size,
  fun b hb hS=>(k.block b (Nat.lt_of_lt_of_le hb h.size) hS).trans (h.block b hb hS)⟩
theorem Q1.mono{S T:Nat->Prop}{A B:World}(h:Q1 S A B)(hst:∀ b,b<A.heap.size->S b->T b):Q1 T A B:=
 ⟨h.os,h.tape,h.output,h.size,fun b hb hT=>h.block b hb fun hs=>hT (hst b hb hs)⟩
theorem Q1.heap{S:Nat->Prop}{A B:World}(h:Q1 S A B){b:Nat}{o:Obj}(hb:A.heap[b]?=some o)(hS:¬ S b):B.heap[b]?=some o:=
 (h.block b (Array.getElem?_eq_some_iff.1 hb).1 hS).trans hb
theorem Q1.cell{S:Nat->Prop}{A B:World}(h:Q1 S A B){p:Addr}(hb:p.block<A.heap.size)(hS:¬ S p.block):B.cell? p=A.cell? p:=
 World.cell?_of_block (w:=A) (h.block p.block hb hS)
theorem Q1.cell_some{S:Nat->Prop}{A B:World}(h:Q1 S A B){p:Addr}{v:Value}(a:A.cell? p=some v)(b:¬ S p.block):B.cell? p=some v:=by
 have c:p.block<A.heap.size:=by
  apply Nat.lt_of_not_le;intro d;simp [World.cell?,Array.getElem?_eq_none d] at a
 rw [h.cell c b];exact a
theorem Q1.frozen{S:Nat->Prop}{A B:World}(h:Q1 S A B){p:Addr}(hb:p.block<A.heap.size)(hS:¬ S p.block):B.frozen? p=A.frozen? p:=
 World.frozen?_of_block (w:=A) (h.block p.block hb hS)
theorem Q1.alloc{S:Nat->Prop}{A B:World}(h:Q1 S A B)(o:Obj):Q1 S A (B.alloc o):=
 h.trans ⟨rfl,rfl,rfl,by simp,fun b hb _=>Below.heap_alloc _ _ _ hb⟩
theorem Q1.drew{S:Nat->Prop}{A B:World}(h:Q1 S A B):Q1 S A B.drew:=⟨h.os,h.tape,h.output,h.size,h.block⟩
theorem Q1.drewN{S:Nat->Prop}{A B:World}(h:Q1 S A B)(n:Nat):Q1 S A (B.drewN n):=⟨h.os,h.tape,h.output,h.size,h.block⟩
theorem Q1.setCell{S:Nat->Prop}{A B:World}(h:Q1 S A B){p:Addr}(hp:A.heap.size<=p.block\/S p.block)(u:Value):Q1 S A (B.setCell p u):=
 ⟨h.os,h.tape,h.output,by simpa [World.setCell] using h.size,fun b hb hS=>by
  rw [Below.heap_setCell _ _ _ _ (by rintro rfl;rcases hp with hp | hp;omega;exact hS hp)];exact h.block b hb hS⟩
theorem Q1.set1(A:World)(b o:Nat)(v:Value):Q1 (fun x=>x=b) A (A.setCell ⟨b,o,none⟩ v):=(Q1.refl (fun x=>x=b) A).setCell (p:=⟨b,o,none⟩) (.inr rfl) v
theorem Q1.putObj{S:Nat->Prop}{A B:World}(h:Q1 S A B){r:Nat}(hp:A.heap.size<=r\/S r)(o:Obj):Q1 S A (B.putObj r o):=
 ⟨h.os,h.tape,h.output,by simpa using h.size,fun b hb hS=>by
  rw [World.putObj_heap_other (by rintro rfl;rcases hp with hp | hp;omega;exact hS hp)];exact h.block b hb hS⟩
theorem Q1.below{S:Nat->Prop}{A B:World}(h:Q1 S A B)(hS:∀ b,b<A.heap.size->¬ S b):Below A.heap.size A B:=
 ⟨h.os,h.tape,h.output,h.size,fun b hb=>h.block b hb (hS b hb)⟩
theorem Q1.grown{S:Nat->Prop}{A B C:World}{row:Option Nat}(h:Q1 S A B)(hg:B.grownBy C row)(hr:∀ k,row=some k->A.heap.size<=k\/S k):Q1 S A C:=
 ⟨hg.os.trans h.os,hg.tape.trans h.tape,hg.output.trans h.output,Nat.le_trans h.size hg.size,fun b hb hS=>by
  rw [hg.block b (Nat.lt_of_lt_of_le hb h.size) (fun e=>by rcases hr b e.symm with hh | hh;omega;exact hS hh)];exact h.block b hb hS⟩
abbrev Ext(A B:World):Prop:=Q1 (fun _=>False) A B
theorem Ext.of{S:Nat->Prop}{A B:World}(h:Ext A B):Q1 S A B:=h.mono fun _ _ h=>h.elim
theorem Ext.keep{A B:World}(h:Ext A B){b:Nat}{o:Obj}(hb:A.heap[b]?=some o):B.heap[b]?=some o:=Q1.heap h hb (fun h=>h)
theorem Q1.after{S T:Nat->Prop}{w A B:World}(h:Q1 S w A)(k:Q1 T A B)(hT:∀ b,b<w.heap.size->T b->S b):Q1 S w B:=
 ⟨k.os.trans h.os,k.tape.trans h.tape,k.output.trans h.output,Nat.le_trans h.size k.size,
  fun b hb hS=>(k.block b (Nat.lt_of_lt_of_le hb h.size) fun ht=>hS (hT b hb ht)).trans (h.block b hb hS)⟩
theorem Qr{k:IntKind}{a b:Int}(h:a=b):Ending.returned (.int k a)=.returned (.int k b):=by rw [h]
theorem Q9{A:World}{n:Nat}{o:Obj}(h:n=A.heap.size):(A.alloc o).heap[n]?=some o:=by subst h;exact World.alloc_heap_new _ _
theorem Qs{A:World}{n:Nat}{o o':Obj}(h:A.heap[n]?=some o'):(A.alloc o).heap[n]?=some o':=
 (Below.heap_alloc _ _ _ (Array.getElem?_eq_some_iff.1 h).1).trans h
theorem Uv{A:World}{n:Nat}{o:Obj}(h:A.heap[n]?=some o):A.drew.heap[n]?=some o:=h
theorem Zx(f:FuncId):Fence.wide.fn f=True:=rfl
theorem Z4:Fence.wide.depth=none:=rfl
def Z2(base:Nat):List Deferred->World->Prop
 | [],_=>True
 | d::ds,w=>∃ r,base<=r/\d={ target:=.collected r,args:=#[] }/\w.heap[r]?=some (.deferred (some []))/\(∀ e∈ds,e.target≠.collected r)/\Z2 base ds w
theorem Z2.keep{base:Nat}{S:Nat->Prop}:∀ {ds:List Deferred} {A B:World},Z2 base ds A->Q1 S A B->(∀ b,S b->∀ o,A.heap[b]?=some o->o.isCells=true)->Z2 base ds B
 | [],_,_,_,_,_=>trivial
 | d::ds,A,B,⟨r,h1,h2,h3,h4,h5⟩,ht,hS=>
  ⟨r,h1,h2,ht.heap h3 (fun hs=>by have:=hS r hs _ h3;simp [Obj.isCells] at this),h4,h5.keep ht hS⟩
theorem Z2.keep'{base:Nat}{S:Nat->Prop}:∀ {ds:List Deferred} {A B:World},Z2 base ds A->Q1 S A B->(∀ b,S b->∀ e∈ds,e.target≠.collected b)->Z2 base ds B
 | [],_,_,_,_,_=>trivial
 | d::ds,A,B,⟨r,h1,h2,h3,h4,h5⟩,ht,hS=>
  ⟨r,h1,h2,ht.heap h3 (fun hs=>hS r hs d (List.mem_cons_self ..) (by rw [h2])),h4,h5.keep' ht (fun b hb e he=>hS b hb e (List.mem_cons_of_mem _ he))⟩
theorem Z2.lt{base:Nat}:∀ {ds:List Deferred} {A:World},Z2 base ds A->∀ e∈ds,∀ r,e.target=.collected r->r<A.heap.size
 | [],_,_,_,he,_,_=>by cases he
 | d::ds,A,⟨r,h1,h2,h3,h4,h5⟩,e,he,q,hq=>by
  rcases List.mem_cons.1 he with rfl | he
  ·rw [h2] at hq;simp at hq;subst hq;exact(Array.getElem?_eq_some_iff.1 h3).1
  ·exact h5.lt e he q hq
theorem Z2.keepC{base N:Nat}{S:Nat->Prop}{a:List Deferred}{A B:World}(h:Z2 base a A)(c:∀ e∈a,∀ r,e.target=.collected r->r<N)(q:Q1 S A B)
  (n:∀ b,S b->N<=b\/A.heap.size<=b\/∃ o,A.heap[b]?=some o/\o.isCells=true):Z2 base a B:=by
 have j:∀(a:List Deferred),(∀ e∈a,∀ r,e.target=.collected r->r<N)->Z2 base a A->Z2 base a B:=by
  intro a
  induction a with
  | nil=>intro _ _;trivial
  | cons d a ih=>
   rintro c ⟨r,k,g,f,l,m⟩;refine⟨r,k,g,q.heap f (fun hs=>?_),l,ih (fun e he=>c e (List.mem_cons_of_mem _ he)) m⟩;rcases n r hs with h | h | ⟨o,i,p⟩
   ·have:=c d (List.mem_cons_self ..) r (by rw [g]);omega
   ·have:=(Array.getElem?_eq_some_iff.1 f).1;omega
   ·rw [f] at i;cases i;simp [Obj.isCells] at p
 exact j a c h
theorem Z2.cons{base:Nat}{ds:List Deferred}{A:World}{r:Nat}(h:Z2 base ds A)(hb:base<=r)(hr:A.heap[r]?=some (.deferred (some []))) (hn:∀ e∈ds,e.target≠.collected r) :
  Z2 base ({ target:=.collected r,args:=#[] }::ds) A:=⟨r,hb,rfl,hr,hn,h⟩
def Shut(base:Nat)(w:World)(b:Nat):Prop:=base<=b/\∀ o,w.heap[b]?=some o->o.isCells=false
theorem Shut.not{base:Nat}{w:World}{b:Nat}{o:Obj}(hb:w.heap[b]?=some o)(ho:o.isCells=true):¬ Shut base w b:=fun h=>by
 have:=h.2 o hb;rw [ho] at this;cases this
theorem G5{P:Program}{fn:Func}{tmps:Array Value}{R:Ending->World->Prop}{v:Value}{base:Nat} :
  ∀(ds:List Deferred) (w:World),Z2 base ds w->(∀ w',Q1 (Shut base w) w w'->w'.heap.size=w.heap.size->(results fn tmps).run P w'=.ok v w'/\R (.returned v) w') ->
   LeavesInM Fence.wide 0 P fn tmps R ds .returning w
 | [],w,_,h=>by
  obtain⟨h1,h2⟩:=h w (Q1.refl _ _) rfl;exact⟨v,h1,h2⟩
 | d::ds,w,⟨r,hb,hd,hr,hn,hm⟩,h=>by
  refine⟨by simp,.inl ⟨r,_,by rw [hd],run_takeDeferred hr,?_⟩⟩;refine G5 (v:=v) ds _ (hm.keep' (S:=(·=r)) ((Q1.refl (·=r) w).putObj (.inr rfl) _) (fun b e=>by subst e;exact hn)) ?_;intro w' ht hs;have hput:Q1 (Shut base w) w (w.putObj r (.deferred none)):=(Q1.refl _ w).putObj (.inr ⟨hb,fun o ho=>by rw [hr] at ho;cases ho;rfl⟩) _;refine h w' (hput.after ht fun b hlt hsh=>?_) (by rw [hs];simp);refine⟨hsh.1,fun o ho=>?_⟩;by_cases hbr:b=r
  ·subst hbr;rw [hr] at ho;cases ho;rfl
  ·exact hsh.2 o (by rw [World.putObj_heap_other hbr];exact ho)
theorem X3{P:Program}{f:FuncId}{fn:Func}{c:Code}{args:Array Value}{w:World}{R:Ending->World->Prop}
  (hf:P.funcs[f]?=some fn) (hb:fn.body=some c)
  (h:c.wp P (bodyPostM Fence.wide 0 P fn R) { tmps:=args++Array.replicate (fn.ntmps - args.size) undef,defers:=[] } w):Calls P f args w R:=
 callsIn_wide.1 (callsIn_of_wp_marks (n:=0) hf hb trivial (wpIn_wide.2 h))
theorem X8{P:Program}{fn:Func}{R:Ending->World->Prop}{a:Act}{w:World}{v:Value}{base:Nat}(hm:Z2 base a.defers w)
  (hr:∀ w',(results fn a.tmps).run P w'=.ok v w') (hR:∀ w',Q1 (Shut base w) w w'->w'.heap.size=w.heap.size->R (.returned v) w') :
  bodyPostM Fence.wide 0 P fn R .ret a w:=G5 _ _ hm fun w' ht hs=>⟨hr w',hR w' ht hs⟩
theorem Zb{t:Array Value}{n:Nat}(h:t.size=n):∃ u:Nat->Value,t=((List.range n).map u).toArray:=
 ⟨fun i=>t.getD i undef,by
  apply Array.ext
  ·simp [h]
  ·intro i h1 h2;simp [Array.getD,h1]⟩
def gS(a:Act)(l:List Nat):Nat × List Value:=(a.tmps.size,l.map fun i=>a.tmps.getD i undef)
def frL(u:Nat->Value):List (Nat × Value)->Nat->Nat->List Value
 | _,_,0=>[]
 | [],i,n+1=>u i::frL u [] (i+1) n
 | (j,v)::L,i,n+1=>if j=i then v::frL u L (i+1) n else u i::frL u ((j,v)::L) (i+1) n
theorem fq:(∀ u L i,frL u L i 0=[])/\(∀ u i n,frL u [] i (n+1)=u i::frL u [] (i+1) n)/\(∀ u j v L i n,frL u ((j,v)::L) i (n+1)=if j=i then v::frL u L (i+1) n else u i::frL u ((j,v)::L) (i+1) n)/\(∀(x:Nat) l (y:Value) m,List.zip (x::l) (y::m)=(x,y)::List.zip l m)/\(∀ m:List Value,List.zip ([]:List Nat) m=[]):=
 ⟨fun _ L _=>by cases L <;> rfl,fun _ _ _=>rfl,fun _ _ _ _ _ _=>rfl,fun _ _ _ _=>rfl,fun _=>rfl⟩
theorem Ke(u:Nat->Value):∀(n i:Nat) (L:List (Nat × Value)),(∀ p∈L,u p.1=p.2)->frL u L i n=(List.range' i n).map u
 | 0,_,L,_=>by cases L <;> rfl
 | n+1,i,[],_=>by rw [fq.2.1,Ke u n _ [] (fun _ h=>by cases h),List.range'_succ,List.map_cons]
 | n+1,i,(j,v)::L,h=>by
  rw [fq.2.2.1,List.range'_succ,List.map_cons]
  split
  ·rename_i hj
   subst hj;rw [Ke u n _ L (fun p hp=>h p (by simp [hp])),h (j,v) zy]
  ·rw [Ke u n _ _ h]
theorem N7{t:Array Value}{d:List Deferred}{l:List Nat}{n:Nat}{vs:List Value}(h:gS ⟨t,d⟩ l=(n,vs)):∃ u:Nat->Value,t=(frL u (l.zip vs) 0 n).toArray:=by
 unfold gS at h;simp only [Prod.mk.injEq] at h;obtain⟨b,rfl⟩:=h;refine⟨fun a=>t.getD a undef,?_⟩;rw [Ke _ n 0 _ (fun p hp=>?_),<-List.range_eq_range']
 ·apply Array.ext
  ·simp [b]
  ·intro a c e;simp [Array.getD,c]
 ·obtain⟨a,f,rfl⟩:=List.mem_iff_getElem.1 hp;simp
theorem Xx{t:Array Value}{d:List Deferred}{l:List Nat}{n:Nat}{vs:List Value}{F:(Nat->Value)->List Value} (h:gS ⟨t,d⟩ l=(n,vs))
  (e:∀ u,frL u (l.zip vs) 0 n=F u:=by(intro u;simp only [fq,Nat.reduceAdd,Nat.reduceEqDiff,if_true,if_false];exact rfl)):∃ u,t=(F u).toArray:=by
 obtain⟨u,a⟩:=N7 h;exact⟨u,by rw [a,e]⟩
def Dm{α:Type}(P:Program)(gf:Nat)(lb:Array Value)(encs:α->Array Value)(xs:List α)(S K:Nat->Prop)(w:World):Prop:=
 ∀(l:Nat) (J Jx:List α->World->Prop) (W:World),Q1 (fun b=>¬ K b) w W ->
  (∀ pre A B,J pre A->Q1 S A B->J pre B)->(∀ pre A B,Jx pre A->Q1 S A B->Jx pre B) ->
  (∀ pre x rest A,xs=pre++x::rest->J pre A->YieldAt Fence.wide 0 P l (encs x) A fun e B=>
   (e=.returned (.bool true)/\J (pre++[x]) B/\Q1 (fun b=>¬ K b) A B)\/(e=.returned (.bool false)/\Jx (pre++[x]) B)) ->
  J [] W ->
  Calls P gf (#[.func (.yield l) #[] #[]]++lb) W fun e B=>(∃ v,e=.returned v)/\(J xs B\/∃ pre x rest,xs=pre++x::rest/\Jx (pre++[x]) B)
def F3{α:Type}(K:Nat->Prop)(I:List α->World->Prop)(Ix:Code->List α->World->Prop)(xs:List α)(W:World):Exit->Act->World->Prop
 | .normal,_,W'=>Q1 (fun b=>¬ K b) W W'/\I xs W'
 | .ret,_,W'=>Q1 (fun b=>¬ K b) W W'/\Ix .ret xs W'
 | .exit id,_,W'=>Q1 (fun b=>¬ K b) W W'/\Ix (.exit id) xs W'
 | .goto t,_,W'=>Q1 (fun b=>¬ K b) W W'/\Ix (.goto t) xs W'
 | .panic _,_,_=>False
 | .outgrown,_,_=>False
theorem Hw{α:Type}{P:Program}{g:Operand}{ps:Array Tmp}{assign body:Code}{Q:Exit->Act->World->Prop}{a:Act}{w:World}
  {gf:Nat} {lb:Array Value} (b7:a.eval g=.func (.func gf) #[] lb) (a5:∀ args w,(callFunc gf args).run P w=.ok (.enter gf args) w)
  {H:α->Array Value} {xs:List α} {S K:Nat->Prop} (c2:Dm P gf lb H xs S K w) (b1:∀ b,S b->K b) (a2:∀ b,K b->b<w.heap.size) (c0:∀ x,(H x).size=ps.size)
  (I:List α->World->Prop) (C:Code->List α->World->Prop)
  (L:∀ pre A B,I pre A->Q1 (fun b=>S b\/b=w.heap.size+1) A B->I pre B)
  (D:∀ c pre A B,C c pre A->Q1 (fun b=>S b\/b=w.heap.size+1) A B->C c pre B)
  (a6:∀ W,Ext w W->W.heap.size=w.heap.size+2->I [] W) (a4:α->Array Value->Array Value)
  (b2:∀(x:α) (W:World) (Kn:Act->World->Prop),Kn { tmps:=a4 x a.tmps,defers:=[] } W ->
   assign.wpIn (Fence.wide.inRound (w.heap.size+1)) 0 P (Exit.then Kn (fun _ _ _=>False)) { tmps:=(ps.zip (H x)).foldl (fun t (p,v)=>t.setIfInBounds p v) a.tmps,defers:=[] } W)
  (b3:∀(pre:List α) (x:α) (rest:List α) (W:World),xs=pre++x::rest->w.heap.size+2<=W.heap.size->Q1 (fun b=>¬ K b\/S b) w W->I pre W ->
   body.wpIn (Fence.wide.inRound (w.heap.size+1)) 0 P (F3 (fun b=>K b\/b=w.heap.size\/b=w.heap.size+1) I C (pre++[x]) W) { tmps:=a4 x a.tmps,defers:=[] } W)
  (b6:∀ W,I xs W->Q1 (fun b=>¬ K b\/S b) w W->W.heap[w.heap.size]?=some (.deferred (some []))->Q .normal { a with defers:={ target:=.collected w.heap.size,args:=#[] }::a.defers } W)
  (c3:∀ c pre x rest W,xs=pre++x::rest->C c (pre++[x]) W->W.heap[w.heap.size]?=some (.deferred (some []))->c.wp P Q { a with defers:={ target:=.collected w.heap.size,args:=#[] }::a.defers } W) :
  (Code.rangeFunc g ps assign body).wp P Q a w:=by
 refine(wpIn_wide (n:=0)).1 (wpIn_rangeFunc ?_);intro fn _;obtain⟨e,k⟩:∃ e:LoopState->Option Code->Loop,e=fun st pe=>{ state:=st,pending:=pe,fn,tmps:=a.tmps,params:=ps,assign,body,defers:=w.heap.size }:=⟨_,rfl⟩;obtain⟨j,E⟩:=zE ((w.alloc (.deferred (some []))).alloc (.loop (e .ready none)));have b0:j.heap[w.heap.size+1]?=some (.loop (e .ready none)):=by
  rw [<-E];have:=World.alloc_heap_new (w.alloc (.deferred (some []))) (.loop (e .ready none));rwa [World.size_alloc] at this
 have a9:j.heap[w.heap.size]?=some (.deferred (some [])):=by
  rw [<-E];exact(Below.heap_alloc _ _ _ zy).trans (World.alloc_heap_new w _)
 have T:Ext w j:=by rw [<-E];exact((Q1.refl _ w).alloc _).alloc _
 have c1:j.heap.size=w.heap.size+2:=by rw [<-E];simp
 have M:∀ b,S b->b≠w.heap.size+1/\b≠w.heap.size:=fun b hb=>by have:=a2 b (b1 b hb);omega
 refine⟨w.heap.size+1,[{ target:=.collected w.heap.size,args:=#[] }],j,{ target:=.fn (.func gf) lb,args:=#[.func (.yield (w.heap.size+1)) #[] #[]] },j,gf,
  #[.func (.yield (w.heap.size+1)) #[] #[]]++lb,j,?_,?_,fun _ _=>trivial,?_,fun h=>by simp [Fence.wide] at h,?_⟩
 ·rw [<-E,k];exact run_enterLoop_outer _ _ _ _ _
 ·simp only [resolve,b7];simp [go_sem]
 ·simp [invoke,go_sem,a5]
 ·refine callsIn_wide.2 ((c2 (w.heap.size+1)
   (fun pre W=>I pre W/\W.heap[w.heap.size+1]?=some (.loop (e .ready none))/\W.heap[w.heap.size]?=some (.deferred (some []))/\Q1 (fun b=>¬ K b\/S b) w W/\w.heap.size+2<=W.heap.size)
   (fun pre W=>∃ c,C c pre W/\W.heap[w.heap.size+1]?=some (.loop (e .done (some c)))/\W.heap[w.heap.size]?=some (.deferred (some [])))
   j T.of ?_ ?_ ?_ ⟨a6 _ T c1,b0,a9,T.of,by omega⟩).mono ?_)
  ·rintro pre A B ⟨N,O,R,a7,a8⟩ f;exact⟨L _ _ _ N (f.mono fun b _ hb=>.inl hb),f.heap O (fun hb=>(M _ hb).1 rfl),f.heap R (fun hb=>(M _ hb).2 rfl),a7.after f (fun b _ hb=>.inr hb),Nat.le_trans a8 f.size⟩
  ·rintro pre A B ⟨c,N,O,R⟩ f;exact⟨c,D _ _ _ _ N (f.mono fun b _ hb=>.inl hb),f.heap O (fun hb=>(M _ hb).1 rfl),f.heap R (fun hb=>(M _ hb).2 rfl)⟩
  ·rintro pre x rest W Y ⟨G,u,F,f,V⟩;have b9:w.heap.size+1<W.heap.size:=by omega
   have Z:=run_yield (P:=P) (args:=H x) u (by rw [k];exact c0 x);rw [k] at Z;refine⟨fn,_,assign,body,Z,roundIn_of_wpIn trivial (b2 x W _ ?_)⟩;clear Z;refine⟨_,run_beginRound u (by rw [k]),?_⟩;have b8:(W.putObj (w.heap.size+1) (.loop { e .ready none with state:=.busy })).heap[w.heap.size+1]?=some (.loop { e .ready none with state:=.busy }):=World.putObj_heap_same b9;have b4:(W.putObj (w.heap.size+1) (.loop { e .ready none with state:=.busy })).heap[w.heap.size]?=some (.deferred (some [])):=(World.putObj_heap_other oz).trans F;have l:∀(X:World) o,Q1 (fun b=>S b\/b=w.heap.size+1) X (X.putObj (w.heap.size+1) o):=fun X o=>(Q1.refl _ X).putObj (.inr (.inr rfl)) o;have U:∀(X:World) o,Q1 (fun b=>¬ K b) X (X.putObj (w.heap.size+1) o):=fun X o=>(Q1.refl _ X).putObj (.inr (fun hk=>by have:=a2 _ hk;omega)) o;refine wpIn_mono (b3 pre x rest _ Y (by simpa using V) (f.after (U W _) (fun b _ hb=>.inl hb)) (L _ _ _ G (l W _))) ?_
   have J:∀(jump:Option Code) (d:World),Q1 (fun b=>¬ (K b\/b=w.heap.size\/b=w.heap.size+1)) (W.putObj (w.heap.size+1) (.loop { e .ready none with state:=.busy })) d ->
     (Instr.endRound (w.heap.size+1) jump).run P d=.ok (.bool jump.isNone) (d.putObj (w.heap.size+1) (.loop (e (if jump.isNone then .ready else .done) jump))) /\
     (d.putObj (w.heap.size+1) (.loop (e (if jump.isNone then .ready else .done) jump))).heap[w.heap.size+1]?=some (.loop (e (if jump.isNone then .ready else .done) jump)) /\
     (d.putObj (w.heap.size+1) (.loop (e (if jump.isNone then .ready else .done) jump))).heap[w.heap.size]?=some (.deferred (some [])) /\
     Q1 (fun b=>¬ K b) W (d.putObj (w.heap.size+1) (.loop (e (if jump.isNone then .ready else .done) jump))):=fun jump d i=>by
    have a3:=i.heap b8 (fun h=>h (.inr (.inr rfl)));have b5:=i.heap b4 (fun h=>h (.inr (.inl rfl)));have:=run_endRound (P:=P) jump a3;rw [k] at this ⊢;refine⟨this,World.putObj_heap_same (Array.getElem?_eq_some_iff.1 a3).1,(World.putObj_heap_other oz).trans b5,?_⟩;exact((U W _).trans (i.mono fun b _ hb hk=>hb (.inl hk))).trans (U d _)
   rintro a1 c4 d y;cases a1 with
   | normal=>
    obtain⟨i,q⟩:=y;obtain⟨s,r,m,z⟩:=J none d i;exact⟨_,_,s,.inl ⟨rfl,⟨L _ _ _ q (l d _),r,m,f.after z (fun b _ hb=>.inl hb),Nat.le_trans V z.size⟩,z⟩⟩
   | ret=>
    obtain⟨i,q⟩:=y;obtain⟨s,r,m,z⟩:=J (some .ret) d i;exact⟨_,_,s,.inr ⟨rfl,.ret,D _ _ _ _ q (l d _),r,m⟩⟩
   | exit id=>
    obtain⟨i,q⟩:=y;obtain⟨s,r,m,z⟩:=J (some (.exit id)) d i;exact⟨_,_,s,.inr ⟨rfl,.exit id,D _ _ _ _ q (l d _),r,m⟩⟩
   | goto t=>
    obtain⟨i,q⟩:=y;obtain⟨s,r,m,z⟩:=J (some (.goto t)) d i;exact⟨_,_,s,.inr ⟨rfl,.goto t,D _ _ _ _ q (l d _),r,m⟩⟩
   | panic ch=>exact y.elim
   | outgrown=>exact y.elim
  ·have l:∀(X:World) o,Q1 (fun b=>S b\/b=w.heap.size+1) X (X.putObj (w.heap.size+1) o):=fun X o=>(Q1.refl _ X).putObj (.inr (.inr rfl)) o;rintro a1 a0 ⟨⟨v,rfl⟩,(⟨G,u,F,f,V⟩ | ⟨pre,x,rest,Y,c,G,u,F⟩)⟩
   ·refine⟨none,_,by have:=run_endLoop (P:=P) u (by rw [k];simp);rw [k] at this;exact this,?_⟩;exact b6 _ (L _ _ _ G (l a0 _)) (f.putObj (.inl oz) _) ((World.putObj_heap_other oz).trans F)
   ·refine⟨some c,_,by have:=run_endLoop (P:=P) u (by rw [k];simp);rw [k] at this;exact this,?_⟩;exact(wpIn_wide (n:=0)).2 (c3 c pre x rest _ Y (D _ _ _ _ G (l a0 _)) ((World.putObj_heap_other oz).trans F))
end Go.Ab
namespace Go.Ab
open Go.RowKit
variable {P:Program} {ops:Array Oper} {Q:Exit->Act->World->Prop}
theorem Wj{o:Oper}{a:Act}{w:World}{K:Act->World->Prop}{l n:Nat}(d:∀ c,o.op≠.defer c)(b:¬ LetsOut Q)
  (h:o.wp P a w K Q\/(o.asks P a w/\LetsOut Q)):o.wpIn (Fence.wide.inRound l) n P a w K Q:=by
 have h:=h.resolve_right fun h=>b h.2;refine⟨fun _ _=>trivial,?_⟩;rw [Oper.semAt_eq _ _ _ d];unfold Oper.wp at h;generalize (execOp a.eval o).run P w=e at *;cases e with
 | ok x w'=>
  cases x <;> simp only [Oper.upon,Oper.uponIn] at h ⊢ <;> first
   | exact h
   | exact⟨fun hh=>by simp [Fence.wide] at hh,(callsIn_wide.2 h).inRound l⟩
   | exact⟨fun hh=>by simp [Fence.wide] at hh,fun c cs _=>let ⟨v,w'',hR,hs⟩:=h c cs;⟨v,w'',hR,stepsIn_wide.2 hs⟩⟩
 | halt x w'=>cases x <;> simp only [Oper.upon,Oper.uponIn] at h ⊢ <;> exact h
def Xa(ops:Array Oper):Bool:=ops.all fun o=>match o.op with | .defer _=>false | _=>true
theorem Hx(h:Xa ops=true){i:Nat}{o:Oper}(a:ops[i]?=some o)(c:Call):o.op≠.defer c:=by
 intro b;have:=Array.all_eq_true.1 h i (Array.getElem?_eq_some_iff.1 a).1;rw [(Array.getElem?_eq_some_iff.1 a).2,b] at this;simp at this
theorem Vm{l n:Nat}(g:Xa ops=true)(f:¬ LetsOut Q){i:Nat}{K d:Act->World->Prop}{a:Act}{w:World}(e:∀ a w,K a w->d a w)
  (h:wpOp P ops Q i K a w):wpOpIn (Fence.wide.inRound l) n P ops Q i d a w:=by
 have h:=wpOp_mono e h;unfold wpOp at h;unfold wpOpIn
 split
 ·rename_i b;rw [b] at h;exact h
 ·rename_i j b
  rw [b] at h;simp only at h
  split
  ·rename_i c;rw [if_pos c] at h;exact Wj (Hx g b) f h
  ·rename_i c;rw [if_neg c] at h;exact⟨fun _ _=>trivial,h⟩
theorem Ut{l n:Nat}{md:Region.Mode}(hd:Xa ops=true)(hQ:¬ LetsOut Q):∀(f:Nat) (listed:Array Bool) (a:Act) (w:World),
  wpAny P md ops Q f listed a w->wpAnyIn (Fence.wide.inRound l) n P md ops Q f listed a w
 | 0,_,_,_,h=>h
 | f+1,_,_,_,h=>⟨h.1,fun i hi=>Vm hd hQ (fun a w h=>Ut hd hQ f _ a w h) (h.2 i hi)⟩
theorem Up{l n:Nat}(hd:Xa ops=true)(hQ:¬ LetsOut Q):∀(is:List Nat) (a:Act) (w:World),
  wpOps P ops Q is a w->wpOpsIn (Fence.wide.inRound l) n P ops Q is a w
 | [],_,_,h=>h
 | i::is,a,w,h=>by
  rw [wpOps_cons] at h;rw [wpOpsIn_cons];exact Vm hd hQ (fun a w h=>Up hd hQ is a w h) h
theorem Vk{id l n:Nat}{a:Act}{w:World}{os:List Oper}(hd:Xa os.toArray=true)(hQ:¬ LetsOut Q)
  (h:wpList P os.toArray Q os a w):(Code.region id os.toArray false).wpIn (Fence.wide.inRound l) n P Q a w:=
 wpIn_region (Up hd hQ _ _ _ (by
  have:=wpOps_eq_wpList (P:=P) (ops:=os.toArray) (Q:=Q) os 0 zy;rw [show List.range os.toArray.size=List.range' 0 os.length by simp [List.range_eq_range'],this];exact h))
theorem Jd{id l n:Nat}{a:Act}{w:World}(hm:P.follows .mixedOrders=true)(hd:Xa ops=true)(hQ:¬ LetsOut Q)
  (h:wpAny P .any ops Q ops.size (Array.replicate ops.size false) a { w with drawn:=w.drawn+1 }):(Code.region id ops true).wpIn (Fence.wide.inRound l) n P Q a w:=
 wpIn_region_any hm (Ut hd hQ _ _ _ _ h)
theorem Jj{x k n:Nat}{a:Act}{w:World}{l:List Oper}(m:Nat)(s:P.follows .mixedOrders=true)(c:Region.lexTailB .any l.toArray m=true)(p:Xa l.toArray=true)(i:¬ LetsOut Q)
  (h:wpStill P l.toArray w.drew (fun a'=>wpList P l.toArray Q (l.drop m) a' w.drew) (l.take m) a):(Code.region x l.toArray true).wpIn (Fence.wide.inRound k) n P Q a w:=by
 simp only [Region.lexTailB,Bool.and_eq_true,decide_eq_true_eq] at c;obtain⟨⟨⟨⟨v,e⟩,u⟩,o⟩,r⟩:=c;have z:m<l.length:=by simpa using e
 have b:(l.take m).length=m:=by simp;omega
 have d:(l.drop m).length=l.toArray.size - m:=by simp
 have y:HeadInv .any l.toArray m (Array.replicate l.toArray.size false):=
  ⟨by simp,fun j oj _ hl=>(by rw [getD_replicate_false] at hl;cases hl),fun t _ ht=>getD_in (by simpa using ht) (getD_replicate_false _ _)⟩
 have f:=wpAnyL_lex (md:=.any) (g:=l.toArray.size - m) v u o e (l.take m) 0 _ a (fun j hj=>by
  have q:j<m:=by rw [b] at hj;exact hj
  simp [q]) (by simpa using b) y (by rw [b];exact r) h
 refine Jd s p i ?_
 have:=wpAny_of_head (Q':=Q) (g:=l.toArray.size - m) (fun listed a' hL=>by
  have:=wpAny_of_seq (md:=.any) (Q':=Q) (l.drop m) m listed a' { w with drawn:=w.drawn+1 } (fun j=>by simp [List.getElem?_drop]) (by rw [d];exact hL.1) hL.2
  rwa [d] at this) _ _ _ f
 rw [b,show m+(l.toArray.size - m)=l.toArray.size by omega] at this;exact this
theorem Us{id:Nat}{a:Act}{w:World}{l:List Oper}(m:Nat)(hm:P.follows .mixedOrders=true)(hB:Region.lexTailB .any l.toArray m=true)
  (h:wpStill P l.toArray w.drew (fun a'=>wpList P l.toArray Q (l.drop m) a' w.drew) (l.take m) a):(Code.region id l.toArray true).wp P Q a w:=
 wp_region_still_tail m hm hB h
end Go.Ab
namespace Go.Ab
open Go.RowKit
def Rd(w:World)(v:Value)(n sz:Nat)(xs:List Value):Prop:=
 xs.length=n*sz/\n<=maxLen/\∃ ao cap,v=.slice ao n cap/\(0<n->∃ g off,ao=some ⟨g,off,none⟩/\g<w.heap.size/\∀ j,j<n*sz->w.cell? ⟨g,off+j,none⟩=some (xs.getD j undef))
theorem Rd.keep{S:Nat->Prop}{A B:World}{v:Value}{n sz:Nat}{xs:List Value}(h:Rd A v n sz xs)(b:Q1 S A B)(k:∀ g off len cap,v=.slice (some ⟨g,off,none⟩) len cap->¬ S g):Rd B v n sz xs:=by
 obtain⟨e,f,d,cap,c,i⟩:=h;refine⟨e,f,d,cap,c,fun hn=>?_⟩;obtain⟨g,off,a,m,l⟩:=i hn;exact⟨g,off,a,Nat.lt_of_lt_of_le m b.size,fun j hj=>b.cell_some (l j hj) (k g off n cap (by rw [c,a]))⟩
theorem Rd.ext{A B:World}{v:Value}{n sz:Nat}{xs:List Value}(h:Rd A v n sz xs)(ht:Ext A B):Rd B v n sz xs:=h.keep ht fun _ _ _ _ _ h=>h
theorem Rd.drewN{A:World}{v:Value}{n sz:Nat}{xs:List Value}(h:Rd A v n sz xs)(m:Nat):Rd (A.drewN m) v n sz xs:=h.ext ((Q1.refl _ A).drewN m)
theorem Rd.of_own{w:World}{base:Nat}{e:TypeId}{sz:Nat}{v:Value}{n:Nat}{xs:List Value}(h:w.ownsRow base e sz v n xs):Rd w v n sz xs:=by
 have b:=h.1;rcases h.2 with ⟨rfl,rfl⟩ | ⟨a,c,i,rfl,k,f,g,d,l,m⟩
 ·exact⟨b,by simp [maxLen],none,0,rfl,fun h=>by omega⟩
 ·refine⟨b,Nat.le_trans g d,some ⟨a,0,none⟩,c,rfl,fun _=>⟨a,0,rfl,(Array.getElem?_eq_some_iff.1 f).1,fun j hj=>?_⟩⟩;rw [Nat.zero_add,h.cellAt j hj,List.getD_eq_getElem?_getD];have:j<xs.length:=by omega
  simp [this]
theorem Zz{S:Nat->Prop}{A B:World}{base:Nat}{e:TypeId}{sz:Nat}{v:Value}{n:Nat}{xs:List Value}(h:A.ownsRow base e sz v n xs)(l:Q1 S A B)(d:∀ g,v.ownBlock=some g->¬ S g):B.ownsRow base e sz v n xs:=by
 obtain⟨j,c⟩:=h;refine⟨j,?_⟩;rcases c with ⟨rfl,rfl⟩ | ⟨g,a,b,rfl,f,i,k⟩
 ·exact .inl ⟨rfl,rfl⟩
 ·exact .inr ⟨g,a,b,rfl,f,l.heap i (d g rfl),k⟩
theorem Y5{A B:World}{base:Nat}{e:TypeId}{sz:Nat}{v:Value}{n:Nat}{xs:List Value}(h:A.ownsRow base e sz v n xs)(ht:Ext A B):B.ownsRow base e sz v n xs:=Zz h ht fun _ _ h=>h
theorem H4{A:World}{base base':Nat}{e:TypeId}{sz:Nat}{v:Value}{n:Nat}{xs:List Value}(h:A.ownsRow base e sz v n xs)(f:base'<=base):A.ownsRow base' e sz v n xs:=by
 obtain⟨i,d⟩:=h;refine⟨i,?_⟩;rcases d with h | ⟨c,a,b,k,g,j⟩
 ·exact .inl h
 ·exact .inr ⟨c,a,b,k,Nat.le_trans f g,j⟩
theorem Ul{P:Program}{w:World}{base:Nat}{t ty e:TypeId}{i:TypeInfo}{z:Value}(o:P.underlying t=some (.slice e)) (l:P.info? e=some i) (A:i.zero=some z) (_hsz:0<i.size)
  {v:Value} {n:Nat} {xs:List Value} (r:w.ownsRow base e i.size v n xs)
  (a:Addr) (m c:Nat) (d:List Value) (f:d.length=m*i.size) (q:∀ j u,d[j]?=some u->w.cell? (a.add j)=some u) (B:∀ u∈d,u.oneCell'=true)
  (C:n+m<=maxLen) (x:(n+m)*i.bytes<=140737488355328) {v':Value} {K:World}
  (b:(Builtin.append_ #[t,t] ty #[v,.slice (some a) m c]).run P w=.ok v' K):v'.ownBlock=v.ownBlock\/v'.ownBlock=some w.heap.size:=by
 have O:n+m<=9223372036854775807:=by simp only [maxLen] at C;omega
 rcases r.2 with ⟨rfl,rfl⟩ | ⟨g,p,s,rfl,L,G,N,M,E,Q⟩
 ·by_cases H:m=0
  ·subst H;have I:d=[]:=List.eq_nil_of_length_eq_zero (by simpa using f);subst I;have:(Builtin.append_ #[t,t] ty #[.slice none 0 0,.slice (some a) 0 c]).run P w=.ok (.slice none 0 0) w:=by
    simp [Builtin.append_,run_underlying o,sizeOf,typeInfo,l,Builtin.lenOf,Builtin.firstCells,loadCells,loadCellsFrom]
   rw [this] at b;cases b;exact .inl rfl
  ·have k:=run_append_nil (P:=P) w t ty e i z o l A a m c d f q oz oz (by have D:=x;simp only [Nat.zero_add] at D;omega);rw [k] at b;cases b;exact .inr rfl
 ·by_cases y:n+m<=p
  ·have F:n*i.size+d.length<=s.size:=by rw [f,E,<-Nat.add_mul];exact Nat.mul_le_mul_right _ y
   have k:=run_append_room (P:=P) w t ty e i o l g n p s G a m c d f q B y F;rw [k] at b;cases b;exact .inl rfl
  ·have J:∀ j u,xs[j]?=some u->w.cell? ((⟨g,0,none⟩:Addr).add j)=some u:=r.cells (g:=g) rfl;have k:=run_append_grow (P:=P) w t ty e i z o l A ⟨g,0,none⟩ n p xs r.1 J a m c d f q oz oz (growslice_fits oz x);rw [k] at b;cases b;exact .inr rfl
def Nz(v:Value):Prop:=∃ ao n cap,v=.slice ao n cap
theorem Zc{w:World}{base:Nat}{e:TypeId}{sz:Nat}{v:Value}{n:Nat}{xs:List Value}(h:w.ownsRow base e sz v n xs):∃ ao cap,v=.slice ao n cap:=by
 rcases h.2 with ⟨rfl,rfl⟩ | ⟨b,cap,a,rfl,_⟩
 ·exact⟨_,_,rfl⟩
 ·exact⟨_,_,rfl⟩
theorem Xj{P:Program}{w:World}{ops:Array Oper}{rest:List Oper}{o:Oper}{a:Act}{Q:Exit->Act->World->Prop}(M:o.guard=none)(s x:Operand)(t:TypeId)
  (O:o.op=.call { callee:=.builtin .append,args:=#[s,x],argTypes:=#[t,t] })
  (base:Nat) (e:TypeId) (z:Value) (size g:Nat) (F:P.underlying t=some (.slice e)) (N:(P.info? e).map (fun i=>(i.zero,i.size,i.bytes))=some (some z,size,g))
  (U:z.cells.size=size) (E:0<size)
  (v:Value) (n:Nat) (xs:List Value) (R:a.eval s=v) (C:w.ownsRow base e size v n xs)
  (f:Addr) (m c:Nat) (d:List Value) (T:a.eval x=.slice (some f) m c) (A:d.length=m*size) (B:∀ j u,d[j]?=some u->w.cell? (f.add j)=some u) (l:∀ u∈d,u.oneCell'=true)
  (q:n+m<=maxLen) (r:(n+m)*g<=140737488355328) (L:base<=w.heap.size)
  (h:∀ ao c' w',w'.ownsRow base e size (.slice ao (n+m) c') (n+m) (xs++d)->Q1 (fun b=>v.ownBlock=some b) w w'->((Value.slice ao (n+m) c').ownBlock=v.ownBlock\/(Value.slice ao (n+m) c').ownBlock=some w.heap.size)->wpList P ops Q rest (a.put o.dst (.slice ao (n+m) c')) w'):wpList P ops Q (o::rest) a w:=by
 obtain⟨i,y,G,S,J⟩:=info_parts N;subst S;subst J;refine wpList_plain M fun K hK=>?_
 obtain⟨W,w',D,p,H,V⟩:=run_append_own (P:=P) w base t o.type e i z _ _ F y G rfl rfl U E v n xs C f m c d A B l q r L;have I:=Ul F y G E C f m c d A B l q r D;unfold Oper.wp execOp;simp only [O,resolve,invoke,builtin,Sem.run_bind,Sem.run_pure,Result.andThen_ok,List.map_toArray,List.map_cons,List.map_nil,R,T,D];obtain⟨ao,c',rfl⟩:=Zc p;exact hK _ _ (h ao c' w' p ((Q1.refl _ w).grown H (fun k e=>.inr e)) I)
theorem Va{w:World}{l:List Value}{t:TypeId}:∀ j u,l[j]?=some u->(w.alloc (.cells l.toArray t)).cell? ((⟨w.heap.size,0,none⟩:Addr).add j)=some u:=by
 intro j u c;have a:((⟨w.heap.size,0,none⟩:Addr).add j)=⟨w.heap.size,j,none⟩:=by
  unfold Addr.add;split
  ·rename_i b;subst b;rfl
  ·simp
 rw [a,World.cell?_alloc_new]
 simpa using c
theorem Xf{w:World}{l:List Value}{t:TypeId}{n:Nat}(a:n=w.heap.size):∀ j u,l[j]?=some u->(w.alloc (.cells l.toArray t)).cell? ((⟨n,0,none⟩:Addr).add j)=some u:=by
 subst a;exact Va
end Go.Ab
namespace Go.Ab
open Go.RowKit
theorem Kh{P:Program}{w:World}{base:Nat}{t ty e:TypeId}{size:Nat}{i:TypeInfo}(b:P.underlying t=some (.slice e)) (a:P.info? e=some i)
  {v:Value} {n:Nat} {xs:List Value} (f:w.ownsRow base e size v n xs) (ao:Option Addr) (c:Nat) :
  (Builtin.append_ #[t,t] ty #[v,.slice ao 0 c]).run P w=.ok v w:=by
 rcases f.2 with ⟨rfl,rfl⟩ | ⟨k,g,j,rfl,_,_,d,_⟩
 ·cases ao <;> simp [Builtin.append_,run_underlying b,sizeOf,typeInfo,a,Builtin.lenOf,Builtin.firstCells,loadCells,loadCellsFrom]
 ·cases ao <;> simp [Builtin.append_,run_underlying b,sizeOf,typeInfo,a,Builtin.lenOf,Builtin.firstCells,d,storeCells,loadCells,loadCellsFrom]
theorem Rd.cells{w:World}{m size:Nat}{e:List Value}{a:Addr}{c:Nat}(h:Rd w (.slice (some a) m c) m size e) (n:0<m):∀ j u,e[j]?=some u->w.cell? (a.add j)=some u:=by
 obtain⟨r,s,p,q,o,i⟩:=h;intro j u d;obtain⟨b,f,k,t,l⟩:=i n;cases o;cases k;have v:=(List.getElem?_eq_some_iff.1 d).1;have:=l j oz;rw [List.getD_eq_getElem?_getD,d] at this;have g:((⟨b,f,none⟩:Addr).add j)=⟨b,f+j,none⟩:=by
  unfold Addr.add;split
  ·rename_i h;subst h;simp
  ·simp
 rw [g];exact this
theorem Gl{P:Program}{w:World}{ops:Array Oper}{rest:List Oper}{o:Oper}{a:Act}{Q:Exit->Act->World->Prop}(k:o.guard=none)(s x:Operand)(t:TypeId)
  (q:o.op=.call { callee:=.builtin .append,args:=#[s,x],argTypes:=#[t,t] })
  (base:Nat) (e:TypeId) (z:Value) (size f:Nat) (A:P.underlying t=some (.slice e)) (l:(P.info? e).map (fun i=>(i.zero,i.size,i.bytes))=some (some z,size,f))
  (N:z.cells.size=size) (M:0<size)
  (v:Value) (n:Nat) (xs:List Value) (y:a.eval s=v) (d:w.ownsRow base e size v n xs)
  (u:Value) (m:Nat) (c:List Value) (B:a.eval x=u) (r:Rd w u m size c) (D:∀ u∈c,u.oneCell'=true)
  (E:n+m<=maxLen) (G:(n+m)*f<=140737488355328) (F:base<=w.heap.size)
  (h:∀ ao c' w',w'.ownsRow base e size (.slice ao (n+m) c') (n+m) (xs++c)->Q1 (fun b=>v.ownBlock=some b) w w'->((Value.slice ao (n+m) c').ownBlock=v.ownBlock\/(Value.slice ao (n+m) c').ownBlock=some w.heap.size)->wpList P ops Q rest (a.put o.dst (.slice ao (n+m) c')) w'):wpList P ops Q (o::rest) a w:=by
 have L:=r;obtain⟨j,T,ao,g,rfl,C⟩:=r;by_cases p:0<m
 ·obtain⟨S,X,rfl,_,_⟩:=C p;exact Xj k s x t q base e z size f A l N M v n xs y d _ m g c B j (L.cells p) D E G F h
 ·obtain rfl:m=0:=by omega
  have I:c=[]:=List.eq_nil_of_length_eq_zero (by simpa using j);subst I;obtain⟨i,H,W,V,U⟩:=info_parts l;refine wpList_plain k fun K hK=>?_
  have J:=Kh (P:=P) (ty:=o.type) A H d ao g;obtain⟨R,O,rfl⟩:=Zc d;unfold Oper.wp execOp;simp only [q,resolve,invoke,builtin,Sem.run_bind,Sem.run_pure,Result.andThen_ok,List.map_toArray,List.map_cons,List.map_nil,y,B,J];exact hK _ _ (h R O w (by simpa using d) (Q1.refl _ _) (.inl rfl))
end Go.Ab
namespace Go.Ab
open Go.RowKit
theorem Fg{α:Type}{P:Program}{g:Operand}{ps:Array Tmp}{assign body:Code}{Q:Exit->Act->World->Prop}{a:Act}{w:World}
  {gf:Nat} {lb:Array Value} (c2:a.eval g=.func (.func gf) #[] lb) (a7:∀ args w,(callFunc gf args).run P w=.ok (.enter gf args) w)
  {N:α->Array Value} {xs:List α} {S K:Nat->Prop} (c6:Dm P gf lb N xs S K w) (b4:∀ b,S b->K b) (a4:∀ b,K b->b<w.heap.size) (c4:∀ x,(N x).size=ps.size)
  (I:List α->World->Prop) (G:Code->List α->World->Prop)
  (H:∀ pre A B,I pre A->Q1 (fun b=>S b\/b=w.heap.size+1) A B->I pre B)
  (J:∀ c pre A B,G c pre A->Q1 (fun b=>S b\/b=w.heap.size+1) A B->G c pre B)
  (a8:∀ W,Ext w W->W.heap.size=w.heap.size+2->I [] W) (M:α->Act->World->Prop) (b1:∀ x a' A B,M x a' A->Q1 (fun b=>b=w.heap.size+1) A B->M x a' B)
  (b6:∀(pre:List α) (x:α) (W:World) (Kn:Act->World->Prop),x∈xs->I pre W->w.heap.size+2<=W.heap.size->(∀ a' W',Ext W W'->M x a' W'->Kn a' W') ->
   assign.wpIn (Fence.wide.inRound (w.heap.size+1)) 0 P (Exit.then Kn (fun _ _ _=>False)) { tmps:=(ps.zip (N x)).foldl (fun t (p,v)=>t.setIfInBounds p v) a.tmps,defers:=[] } W)
  (b8:∀(pre:List α) (x:α) (rest:List α) (a':Act) (W:World),xs=pre++x::rest->w.heap.size+2<=W.heap.size->Q1 (fun b=>¬ K b\/S b) w W->I pre W->M x a' W ->
   body.wpIn (Fence.wide.inRound (w.heap.size+1)) 0 P (F3 (fun b=>K b\/b=w.heap.size\/b=w.heap.size+1) I G (pre++[x]) W) a' W)
  (c1:∀ W,I xs W->Q1 (fun b=>¬ K b\/S b) w W->W.heap[w.heap.size]?=some (.deferred (some []))->Q .normal { a with defers:={ target:=.collected w.heap.size,args:=#[] }::a.defers } W)
  (c7:∀ c pre x rest W,xs=pre++x::rest->G c (pre++[x]) W->W.heap[w.heap.size]?=some (.deferred (some []))->c.wp P Q { a with defers:={ target:=.collected w.heap.size,args:=#[] }::a.defers } W) :
  (Code.rangeFunc g ps assign body).wp P Q a w:=by
 refine(wpIn_wide (n:=0)).1 (wpIn_rangeFunc ?_);intro fn _;obtain⟨f,k⟩:∃ f:LoopState->Option Code->Loop,f=fun st pe=>{ state:=st,pending:=pe,fn,tmps:=a.tmps,params:=ps,assign,body,defers:=w.heap.size }:=⟨_,rfl⟩;obtain⟨j,L⟩:=zE ((w.alloc (.deferred (some []))).alloc (.loop (f .ready none)));have b3:j.heap[w.heap.size+1]?=some (.loop (f .ready none)):=by
  rw [<-L];have:=World.alloc_heap_new (w.alloc (.deferred (some []))) (.loop (f .ready none));rwa [World.size_alloc] at this
 have b2:j.heap[w.heap.size]?=some (.deferred (some [])):=by
  rw [<-L];exact(Below.heap_alloc _ _ _ zy).trans (World.alloc_heap_new w _)
 have Z:Ext w j:=by rw [<-L];exact((Q1.refl _ w).alloc _).alloc _
 have c5:j.heap.size=w.heap.size+2:=by rw [<-L];simp
 have R:∀ b,S b->b≠w.heap.size+1/\b≠w.heap.size:=fun b hb=>by have:=a4 b (b4 b hb);omega
 refine⟨w.heap.size+1,[{ target:=.collected w.heap.size,args:=#[] }],j,{ target:=.fn (.func gf) lb,args:=#[.func (.yield (w.heap.size+1)) #[] #[]] },j,gf,
  #[.func (.yield (w.heap.size+1)) #[] #[]]++lb,j,?_,?_,fun _ _=>trivial,?_,fun h=>by simp [Fence.wide] at h,?_⟩
 ·rw [<-L,k];exact run_enterLoop_outer _ _ _ _ _
 ·simp only [resolve,c2];simp [go_sem]
 ·simp [invoke,go_sem,a7]
 ·refine callsIn_wide.2 ((c6 (w.heap.size+1)
   (fun pre W=>I pre W/\W.heap[w.heap.size+1]?=some (.loop (f .ready none))/\W.heap[w.heap.size]?=some (.deferred (some []))/\Q1 (fun b=>¬ K b\/S b) w W/\w.heap.size+2<=W.heap.size)
   (fun pre W=>∃ c,G c pre W/\W.heap[w.heap.size+1]?=some (.loop (f .done (some c)))/\W.heap[w.heap.size]?=some (.deferred (some [])))
   j Z.of ?_ ?_ ?_ ⟨a8 _ Z c5,b3,b2,Z.of,by omega⟩).mono ?_)
  ·rintro pre A B ⟨U,V,Y,a9,b0⟩ e;exact⟨H _ _ _ U (e.mono fun b _ hb=>.inl hb),e.heap V (fun hb=>(R _ hb).1 rfl),e.heap Y (fun hb=>(R _ hb).2 rfl),a9.after e (fun b _ hb=>.inr hb),Nat.le_trans b0 e.size⟩
  ·rintro pre A B ⟨c,U,V,Y⟩ e;exact⟨c,J _ _ _ _ U (e.mono fun b _ hb=>.inl hb),e.heap V (fun hb=>(R _ hb).1 rfl),e.heap Y (fun hb=>(R _ hb).2 rfl)⟩
  ·rintro pre x rest W T ⟨l,m,r,e,E⟩;have c9:=e;have c8:=E;have a6:w.heap.size+1<W.heap.size:=by omega
   have a1:=run_yield (P:=P) (args:=N x) m (by rw [k];exact c4 x);rw [k] at a1;refine⟨fn,_,assign,body,a1,roundIn_of_wpIn trivial (b6 pre x W _ (by rw [T];simp) l E ?_)⟩;clear a1;intro a' W' C b7;have b5:=C;have l:=H _ _ _ l (Ext.of C);have m:=C.keep m;have r:=C.keep r;have e:=e.after C (fun b _ h=>h.elim);have E:w.heap.size+2<=W'.heap.size:=Nat.le_trans E C.size;have a6:w.heap.size+1<W'.heap.size:=by omega
   refine⟨_,run_beginRound m (by rw [k]),?_⟩;have c3:(W'.putObj (w.heap.size+1) (.loop { f .ready none with state:=.busy })).heap[w.heap.size+1]?=some (.loop { f .ready none with state:=.busy }):=World.putObj_heap_same a6;have b9:(W'.putObj (w.heap.size+1) (.loop { f .ready none with state:=.busy })).heap[w.heap.size]?=some (.deferred (some [])):=(World.putObj_heap_other oz).trans r;have q:∀(X:World) o,Q1 (fun b=>S b\/b=w.heap.size+1) X (X.putObj (w.heap.size+1) o):=fun X o=>(Q1.refl _ X).putObj (.inr (.inr rfl)) o;have a0:∀(X:World) o,Q1 (fun b=>¬ K b) X (X.putObj (w.heap.size+1) o):=fun X o=>(Q1.refl _ X).putObj (.inr (fun hk=>by have:=a4 _ hk;omega)) o;refine wpIn_mono (b8 pre x rest a' _ T (by simpa using E) (e.after (a0 W' _) (fun b _ hb=>.inl hb)) (H _ _ _ l (q W' _)) (b1 _ _ _ _ b7 ((Q1.refl (fun b=>b=w.heap.size+1) W').putObj (.inr rfl) _))) ?_
   have O:∀(jump:Option Code) (d:World),Q1 (fun b=>¬ (K b\/b=w.heap.size\/b=w.heap.size+1)) (W'.putObj (w.heap.size+1) (.loop { f .ready none with state:=.busy })) d ->
     (Instr.endRound (w.heap.size+1) jump).run P d=.ok (.bool jump.isNone) (d.putObj (w.heap.size+1) (.loop (f (if jump.isNone then .ready else .done) jump))) /\
     (d.putObj (w.heap.size+1) (.loop (f (if jump.isNone then .ready else .done) jump))).heap[w.heap.size+1]?=some (.loop (f (if jump.isNone then .ready else .done) jump)) /\
     (d.putObj (w.heap.size+1) (.loop (f (if jump.isNone then .ready else .done) jump))).heap[w.heap.size]?=some (.deferred (some [])) /\
     Q1 (fun b=>¬ K b) W (d.putObj (w.heap.size+1) (.loop (f (if jump.isNone then .ready else .done) jump))):=fun jump d i=>by
    have a5:=i.heap c3 (fun h=>h (.inr (.inr rfl)));have c0:=i.heap b9 (fun h=>h (.inr (.inl rfl)));have:=run_endRound (P:=P) jump a5;rw [k] at this ⊢;refine⟨this,World.putObj_heap_same (Array.getElem?_eq_some_iff.1 a5).1,(World.putObj_heap_other oz).trans c0,?_⟩;exact(((b5.of).trans (a0 W' _)).trans (i.mono fun b _ hb hk=>hb (.inl hk))).trans (a0 d _)
   rintro a3 d0 d D;cases a3 with
   | normal=>
    obtain⟨i,u⟩:=D;obtain⟨z,y,s,F⟩:=O none d i;exact⟨_,_,z,.inl ⟨rfl,⟨H _ _ _ u (q d _),y,s,c9.after F (fun b _ hb=>.inl hb),Nat.le_trans c8 F.size⟩,F⟩⟩
   | ret=>
    obtain⟨i,u⟩:=D;obtain⟨z,y,s,F⟩:=O (some .ret) d i;exact⟨_,_,z,.inr ⟨rfl,.ret,J _ _ _ _ u (q d _),y,s⟩⟩
   | exit id=>
    obtain⟨i,u⟩:=D;obtain⟨z,y,s,F⟩:=O (some (.exit id)) d i;exact⟨_,_,z,.inr ⟨rfl,.exit id,J _ _ _ _ u (q d _),y,s⟩⟩
   | goto t=>
    obtain⟨i,u⟩:=D;obtain⟨z,y,s,F⟩:=O (some (.goto t)) d i;exact⟨_,_,z,.inr ⟨rfl,.goto t,J _ _ _ _ u (q d _),y,s⟩⟩
   | panic ch=>exact D.elim
   | outgrown=>exact D.elim
  ·have q:∀(X:World) o,Q1 (fun b=>S b\/b=w.heap.size+1) X (X.putObj (w.heap.size+1) o):=fun X o=>(Q1.refl _ X).putObj (.inr (.inr rfl)) o;rintro a3 a2 ⟨⟨v,rfl⟩,(⟨l,m,r,e,E⟩ | ⟨pre,x,rest,T,c,l,m,r⟩)⟩
   ·refine⟨none,_,by have:=run_endLoop (P:=P) m (by rw [k];simp);rw [k] at this;exact this,?_⟩;exact c1 _ (H _ _ _ l (q a2 _)) (e.putObj (.inl oz) _) ((World.putObj_heap_other oz).trans r)
   ·refine⟨some c,_,by have:=run_endLoop (P:=P) m (by rw [k];simp);rw [k] at this;exact this,?_⟩;exact(wpIn_wide (n:=0)).2 (c7 c pre x rest _ T (J _ _ _ _ l (q a2 _)) ((World.putObj_heap_other oz).trans r))
theorem Vz{P:Program}{ops:Array Oper}{Q:Exit->Act->World->Prop}{S:World->Prop}{id l n:Nat}{a:Act}{w:World}(hm:P.follows .mixedOrders=true)(hd:Xa ops=true)(hQ:¬ LetsOut Q)(hS:S w.drew)
  (h:S w.drew->wpAnyH P .any ops Q S ops.size (Array.replicate ops.size false) a w.drew):(Code.region id ops true).wpIn (Fence.wide.inRound l) n P Q a w:=
 Jd hm hd hQ (wpAny_of_held _ _ _ _ (h hS))
end Go.Ab
namespace Go.Ab
open Go.RowKit
theorem D3{w:World}{base:Nat}{e:TypeId}{sz g n cap:Nat}{xs:List Value}(h:w.ownsRow base e sz (.slice (some ⟨g,0,none⟩) (n+1) cap) (n+1) xs) :
  w.ownsRow base e sz (.slice (some ⟨g,0,none⟩) n cap) n (xs.take (n*sz)):=by
 have j:=h.1;rcases h.2 with ⟨a,_⟩ | ⟨m,l,b,a,c,i,o,d,f,k⟩
 ·cases a
 ·simp only [zV,Option.some.injEq,Addr.mk.injEq] at a;obtain⟨⟨rfl,_,_⟩,_,rfl⟩:=a;refine⟨by rw [List.length_take,j,Nat.min_eq_left (Nat.mul_le_mul_right _ oz)],.inr ⟨g,cap,b,rfl,c,i,by omega,d,f,?_⟩⟩;rw [<-k,List.take_take,Nat.min_eq_left (Nat.mul_le_mul_right _ oz)]
def Zf:List Value->Nat->List Value->List Value
 | cur,_,[]=>cur
 | cur,o,v::vs=>Zf (cur.set o v) (o+1) vs
theorem Yv:∀(vs cur:List Value) (o:Nat),(Zf cur o vs).length=cur.length
 | [],cur,o=>rfl
 | v::vs,cur,o=>by unfold Zf;rw [Yv vs,List.length_set]
theorem Xy{t:TypeId}{b:Nat}:∀(vs:List Value) (o:Nat) (w:World) (cur:Array Value),w.heap[b]?=some (.cells cur t (0,0))->(w.setCells b o vs).heap[b]?=some (.cells (Zf cur.toList o vs).toArray t (0,0))
 | [],o,w,cur,h=>h
 | v::vs,o,w,cur,h=>by
  have h1:(w.setCell ⟨b,o,none⟩ v).heap[b]?=some (.cells (cur.setIfInBounds o v) t (0,0)):=by
   simp only [World.setCell,Array.getElem?_modify,h];simp
  have:=Xy vs (o+1) _ _ h1;rw [Array.toList_setIfInBounds] at this;exact this
theorem Gf:∀(vs pre zs:List Value),vs.length=zs.length->Zf (pre++zs) pre.length vs=pre++vs
 | [],pre,zs,h=>by
  obtain rfl:zs=[]:=List.eq_nil_of_length_eq_zero (by simpa using h.symm);rfl
 | v::vs,pre,z::zs,h=>by
  unfold Zf;have e:(pre++z::zs).set pre.length v=(pre++[v])++zs:=by
   rw [List.set_append_right _ _ (Nat.le_refl _)];simp
  rw [e];have:=Gf vs (pre++[v]) zs (by simpa using h);rw [List.length_append] at this
  simpa using this
theorem Ud:∀(vs cur:List Value) (o m:Nat),o+vs.length<=m->(Zf cur o vs).take m=Zf (cur.take m) o vs
 | [],cur,o,m,_=>rfl
 | v::vs,cur,o,m,h=>by
  unfold Zf;rw [Ud vs _ _ _ (by simp at h;omega)]
  congr 1
  simp only [List.length_cons] at h;rw [List.take_set]
theorem Xs{w:World}{base:Nat}{e:TypeId}{sz g n cap:Nat}{xs d cs:List Value}(h:w.ownsRow base e sz (.slice (some ⟨g,0,none⟩) (n+1) cap) (n+1) (xs++d)) (c:xs.length=n*sz) (f:cs.length=sz) :
  (w.setCells g (n*sz) cs).ownsRow base e sz (.slice (some ⟨g,0,none⟩) (n+1) cap) (n+1) (xs++cs):=by
 have o:=h.1;rcases h.2 with ⟨a,_⟩ | ⟨s,r,b,a,j,m,p,k,l,q⟩
 ·cases a
 ·simp only [zV,Option.some.injEq,Addr.mk.injEq] at a;obtain⟨⟨rfl,_,_⟩,_,rfl⟩:=a;have t:d.length=sz:=by
   rw [List.length_append,c,Nat.add_mul,Nat.one_mul] at o;omega
  refine⟨by rw [List.length_append,c,f,Nat.add_mul,Nat.one_mul],.inr ⟨g,cap,_,rfl,j,Xy cs _ w b m,p,k,by simp [Yv,l],?_⟩⟩;have i:n*sz+cs.length<=(n+1)*sz:=by rw [f,Nat.add_mul,Nat.one_mul];exact Nat.le_refl _
  rw [show ((Zf b.toList (n*sz) cs).toArray.toList)=Zf b.toList (n*sz) cs from rfl,Ud _ _ _ _ i,q,<-c];exact Gf cs xs d oz
theorem Q1.setCells(A:World)(b:Nat):∀(vs:List Value) (o:Nat),Q1 (·=b) A (A.setCells b o vs)
 | [],_=>Q1.refl _ _
 | v::vs,o=>(Q1.set1 A b o v).trans (Q1.setCells (A.setCell ⟨b,o,none⟩ v) b vs (o+1))
theorem Yl{w:World}{base:Nat}{e:TypeId}{sz g n cap:Nat}{xs:List Value}(h:w.ownsRow base e sz (.slice (some ⟨g,0,none⟩) n cap) n xs) {o m:Nat} (ho:o+m<=n*sz):w.there g o m:=fun j hj=>by
 have h1:=h.cellAt (o+j) oz;have h2:=h.frozenAt (o+j);have:(o+j)<xs.length:=by rw [h.1];omega
 rw [List.getElem?_eq_getElem this] at h1;exact⟨by rw [h1];rfl,h2⟩
theorem Uu{w:World}{base:Nat}{e:TypeId}{sz g n cap:Nat}{xs:List Value}(h:w.ownsRow base e sz (.slice (some ⟨g,0,none⟩) n cap) n xs) {o:Nat} {cs:List Value} (hc:∀ j v,cs[j]?=some v->xs[o+j]?=some v):w.rangeAt g o cs:=fun j v hv=>by
 have h0:=hc j v hv;have hlt:o+j<n*sz:=by rw [<-h.1];exact(List.getElem?_eq_some_iff.1 h0).1
 rw [h.cellAt (o+j) hlt];exact h0
theorem Vx{w:World}{base:Nat}{e:TypeId}{sz n m cap:Nat}{ao:Option Addr}{xs:List Value}(h:w.ownsRow base e sz (.slice ao (n+1) cap) m xs):∃ g,ao=some ⟨g,0,none⟩:=by
 rcases h.2 with ⟨a,_⟩ | ⟨g,_,_,a,_⟩
 ·cases a
 ·cases a;exact⟨g,rfl⟩
theorem Yr{w:World}{base:Nat}{e:TypeId}{sz g n m cap:Nat}{xs:List Value}(h:w.ownsRow base e sz (.slice (some ⟨g,0,none⟩) n cap) m xs):∃ cur,w.heap[g]?=some (.cells cur e (0,0)):=by
 rcases h.2 with ⟨a,_⟩ | ⟨_,_,cur,a,_,b,_⟩
 ·cases a
 ·cases a;exact⟨cur,b⟩
theorem Vp{P:Program}{w:World}{o:Oper}{a:Act}{K:Act->World->Prop}{Q:Exit->Act->World->Prop}(s x:Operand)(t:TypeId)
  (N:o.op=.call { callee:=.builtin .append,args:=#[s,x],argTypes:=#[t,t] })
  (base:Nat) (e:TypeId) (z:Value) (size g:Nat) (F:P.underlying t=some (.slice e)) (M:(P.info? e).map (fun i=>(i.zero,i.size,i.bytes))=some (some z,size,g))
  (T:z.cells.size=size) (E:0<size)
  (v:Value) (n:Nat) (xs:List Value) (O:a.eval s=v) (C:w.ownsRow base e size v n xs)
  (f:Addr) (m c:Nat) (d:List Value) (S:a.eval x=.slice (some f) m c) (A:d.length=m*size) (B:∀ j u,d[j]?=some u->w.cell? (f.add j)=some u) (l:∀ u∈d,u.oneCell'=true)
  (q:n+m<=maxLen) (r:(n+m)*g<=140737488355328) (L:base<=w.heap.size)
  (h:∀ ao c' w',w'.ownsRow base e size (.slice ao (n+m) c') (n+m) (xs++d)->Q1 (fun b=>v.ownBlock=some b) w w'->((Value.slice ao (n+m) c').ownBlock=v.ownBlock\/(Value.slice ao (n+m) c').ownBlock=some w.heap.size)->K (a.put o.dst (.slice ao (n+m) c')) w'):Oper.wp P o a w K Q:=by
 obtain⟨i,y,G,R,J⟩:=info_parts M;subst R;subst J;obtain⟨V,w',D,p,H,U⟩:=run_append_own (P:=P) w base t o.type e i z _ _ F y G rfl rfl T E v n xs C f m c d A B l q r L;have I:=Ul F y G E C f m c d A B l q r D;unfold Oper.wp execOp;simp only [N,resolve,invoke,builtin,Sem.run_bind,Sem.run_pure,Result.andThen_ok,List.map_toArray,List.map_cons,List.map_nil,O,S,D];obtain⟨ao,c',rfl⟩:=Zc p;exact h ao c' w' p ((Q1.refl _ w).grown H (fun k e=>.inr e)) I
end Go.Ab
