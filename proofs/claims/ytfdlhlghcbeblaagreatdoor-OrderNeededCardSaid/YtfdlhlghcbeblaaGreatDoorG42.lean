/- ablautlaw13: same, equal, inside. chron.Order.Pairs, Reduced. chron.Order.Reduced. PLAIN: relations between the first n numbers, as bits and as such. chron.Order over a relation; First. chron.Order.Before, whole. Which law is before which: what order.Needed keeps of the orders. PLAIN: what is needed is a strict order of the laws. -/
import Derived.Test.YtfdlhlghcbeblaaGreatDoorG02
import Derived.Test.YtfdlhlghcbeblaaGreatDoorG41
import Derived.Test.YtfdlhlghcbeblaaGreatDoorG00
import Derived.Test.YtfdlhlghcbeblaaGreatDoorG40
import Derived.Test.YtfdlhlghcbeblaaGreatDoorG14
import Derived.Test.YtfdlhlghcbeblaaGreatDoorProg
import Derived.WalkLawsBesides
import Derived.Handy
import Derived.Lib.Hide
namespace Go.Proofs.YtfdlhlghcbeblaaGreatDoor
open Go.RowKit Go.Ab
theorem run_equalIn_pair{P:Program}(w:World)(d:Nat)(t e:TypeId)(k:IntKind)(x1 x2 y1 y2:Int)(ht:P.underlying t=some (.array 2 e)) (he:P.underlying e=some (.int k)) (hs:(P.info? e).map (·.size)=some 1) :
  (Op.equalIn (d+2) t (.agg #[.int k x1,.int k x2]) (.agg #[.int k y1,.int k y2])).run P w=.ok (x1 == y1 && x2 == y2) w:=by
 have h1:=run_equalIn_int w d e k k x1 y1 he
 have h2:=run_equalIn_int w d e k k x2 y2 he
 obtain⟨i,hi,hsz⟩:∃ i,P.info? e=some i∧i.size=1:=by
  cases h:P.info? e with
  | none=>simp [h] at hs
  | some i=>exact⟨i,rfl,by simpa [h] using hs⟩
 have h3:(isAgg e).run P w=.ok false w:=by simp [isAgg,run_underlying he]
 rw [Op.equalIn]
 simp only [Sem.run_bind,run_underlying ht,Result.andThen_ok]
 simp [Std.Legacy.Range.forIn_eq_forIn_range',sizeOf,typeInfo,hi,hsz,List.range',part,h1,h3]
 by_cases hx:x1=y1
 ·by_cases hy:x2=y2
  ·subst hy;simp [hx,h2]
  ·simp [hx,hy,h2]
 ·simp [hx]
def zs(l:List Nat):List Int:=l.map fun(x:Nat)=>(x:Int)
theorem zs_length(l:List Nat):(zs l).length=l.length:=by simp [zs]
theorem zs_append(l m:List Nat):zs (l++m)=zs l++zs m:=by simp [zs]
def ints(l:List Int):List Value:=l.map (Value.int .i64)
theorem ints_getD(l:List Int)(i:Nat)(h:i<l.length):(ints l).getD i undef=.int .i64 (l.getD i 0):=by
 simp [ints,List.getD_eq_getElem?_getD,h]
def prs(l:List (Int × Int)):List Value:=l.flatMap fun p=>[Value.int .i64 p.1,Value.int .i64 p.2]
theorem prs_cons(p:Int × Int)(l:List (Int × Int)):prs (p::l)=.int .i64 p.1::.int .i64 p.2::prs l:=rfl
theorem prs_append(l m:List (Int × Int)):prs (l++m)=prs l++prs m:=by simp [prs]
theorem prs_fst:∀(l:List (Int × Int)) (i:Nat),i<l.length→(prs l).getD (i*2) undef=.int .i64 (l.getD i (0,0)).1
 | [],_,h=>by simp at h
 | p::l,0,_=>by simp [prs_cons]
 | p::l,i+1,h=>by
  rw [prs_cons,show (i+1)*2=i*2+1+1 by omega,List.getD_cons_succ,List.getD_cons_succ,List.getD_cons_succ]
  exact prs_fst l i (by simpa using h)
theorem prs_snd:∀(l:List (Int × Int)) (i:Nat),i<l.length→(prs l).getD (i*2+1) undef=.int .i64 (l.getD i (0,0)).2
 | [],_,h=>by simp at h
 | p::l,0,_=>by simp [prs_cons]
 | p::l,i+1,h=>by
  rw [prs_cons,show (i+1)*2+1=i*2+1+1+1 by omega,List.getD_cons_succ,List.getD_cons_succ,List.getD_cons_succ]
  exact prs_snd l i (by simpa using h)
end Go.Proofs.YtfdlhlghcbeblaaGreatDoor
set_option maxRecDepth 100000
set_option maxHeartbeats 4000000
namespace Go.Proofs.YtfdlhlghcbeblaaGreatDoor
open Go.RowKit Go.Ab
attribute [local go_sem] Oper.semAt_some wide_fn wide_depth
def pairsL(k:Nat)(af:Nat→Nat):List (Int × Int):=(List.range k).flatMap fun a=>(evs (af a)).map fun(b:Nat)=>((a:Int),(b:Int))
theorem Tryz.infoPair:(Tryz.prog.info? 73).map (fun i=>(i.zero,i.size,i.bytes))=some (some (.agg #[.int .i64 0,.int .i64 0]),2,16):=by kernel_rfl
end Go.Proofs.YtfdlhlghcbeblaaGreatDoor
namespace Go.Proofs.YtfdlhlghcbeblaaGreatDoor
open Go.RowKit Go.Ab
def noneB(bf af:Nat→Nat)(p:Int × Int):Bool:=af p.1.toNat &&& bf p.2.toNat == 0
def reducedL(n:Nat)(bf af:Nat→Nat):List (Int × Int):=(pairsL n af).filter (noneB bf af)
end Go.Proofs.YtfdlhlghcbeblaaGreatDoor
namespace Go.Ab
def bfR(n:Nat)(R:Nat→Nat→Bool)(x:Nat):Nat:=mask n (fun a=>R a x)
def afR(n:Nat)(R:Nat→Nat→Bool)(x:Nat):Nat:=mask n (fun b=>R x b)
theorem pow_le64{n:Nat}(h:n≤64):2 ^ n≤18446744073709551616:=Nat.pow_le_pow_right (n:=2) (by decide) h
theorem mask_lt64{n:Nat}(h:n≤64)(p:Nat→Bool):mask n p<18446744073709551616:=Nat.lt_of_lt_of_le (mask_lt n p) (pow_le64 h)
structure Rel (n:Nat) (R:Nat→Nat→Bool):Prop where
 dom:∀ a b,R a b=true→a<n∧b<n
 irr:∀ a,R a a=false
 tr:∀ a b c,R a b=true→R b c=true→R a c=true
theorem Rel.empty(n:Nat):Rel n (fun _ _=>false):=⟨by simp,by simp,by simp⟩
theorem Rel.asym{n:Nat}{R:Nat→Nat→Bool}(h:Rel n R){a b:Nat}(hab:R a b=true):R b a=false:=by
 cases hba:R b a with
 | false=>rfl
 | true=>have:=h.tr a b a hab hba;rw [h.irr] at this;cases this
def addR(R:Nat→Nat→Bool)(x y:Nat):Nat→Nat→Bool:=fun i k=>R i k || ((i == x || R i x) && (k == y || R y k))
theorem addR_rel{n:Nat}{R:Nat→Nat→Bool}(h:Rel n R){x y:Nat}(hx:x<n)(hy:y<n)(hxy:x≠y)(hyx:R y x=false):Rel n (addR R x y):=by
 constructor
 ·intro a b hab
  simp only [addR,Bool.or_eq_true,Bool.and_eq_true,beq_iff_eq] at hab
  rcases hab with hab | ⟨h1,h2⟩
  ·exact h.dom a b hab
  ·constructor
   ·rcases h1 with rfl | h1
    ·exact hx
    ·exact(h.dom _ _ h1).1
   ·rcases h2 with rfl | h2
    ·exact hy
    ·exact(h.dom _ _ h2).2
 ·intro a
  cases ha:addR R x y a a with
  | false=>rfl
  | true=>
   simp only [addR,Bool.or_eq_true,Bool.and_eq_true,beq_iff_eq] at ha
   rcases ha with ha | ⟨h1,h2⟩
   ·rw [h.irr] at ha;cases ha
   ·rcases h1 with rfl | h1 <;> rcases h2 with h2 | h2
    ·exact absurd h2 hxy
    ·rw [hyx] at h2;cases h2
    ·subst h2;rw [hyx] at h1;cases h1
    ·have:=h.tr _ _ _ h2 h1;rw [hyx] at this;cases this
 ·intro a b c hab hbc
  simp only [addR,Bool.or_eq_true,Bool.and_eq_true,beq_iff_eq] at *
  rcases hab with hab | ⟨h1,h2⟩ <;> rcases hbc with hbc | ⟨h3,h4⟩
  ·exact .inl (h.tr _ _ _ hab hbc)
  ·refine .inr ⟨?_,h4⟩
   rcases h3 with rfl | h3
   ·exact .inr hab
   ·exact .inr (h.tr _ _ _ hab h3)
  ·refine .inr ⟨h1,?_⟩
   rcases h2 with rfl | h2
   ·exact .inr hbc
   ·exact .inr (h.tr _ _ _ h2 hbc)
  ·exact .inr ⟨h1,h4⟩
theorem mem_evs_mask{n:Nat}(hn:n≤64)(p:Nat→Bool)(i:Nat):i∈evs (mask n p)↔i<n∧p i=true:=by
 rw [evs_mask n hn];simp
theorem addR_af{n:Nat}(hn:n≤64){R:Nat→Nat→Bool}(h:Rel n R){x y:Nat}(hx:x<n)(hy:y<n) :
  (fun i=>if i∈evs (bfR n R x ||| 2 ^ x) then afR n R i ||| (afR n R y ||| 2 ^ y) else afR n R i)=afR n (addR R x y):=by
 funext i
 have e1:bfR n R x ||| 2 ^ x=mask n (fun a=>R a x || a == x):=by rw [bfR,two_pow_mask hx,mask_or]
 have e2:afR n R y ||| 2 ^ y=mask n (fun b=>R y b || b == y):=by rw [afR,two_pow_mask hy,mask_or]
 rw [e1,e2]
 by_cases hi:i∈evs (mask n (fun a=>R a x || a == x))
 ·rw [if_pos hi]
  obtain⟨_,hp⟩:=(mem_evs_mask hn _ _).1 hi
  rw [afR,mask_or]
  refine mask_congr fun k _=>?_
  simp only [addR]
  have:(i == x || R i x)=true:=by rw [Bool.or_comm];exact hp
  rw [this,Bool.true_and,Bool.or_comm (k == y)]
 ·rw [if_neg hi]
  refine mask_congr fun k _=>?_
  have hno:¬ (i<n∧(R i x || i == x)=true):=fun hh=>hi ((mem_evs_mask hn _ _).2 hh)
  simp only [addR]
  have:(i == x || R i x)=false:=by
   cases hh:(i == x || R i x) with
   | false=>rfl
   | true=>
    refine absurd ⟨?_,by rw [Bool.or_comm];exact hh⟩ hno
    simp only [Bool.or_eq_true,beq_iff_eq] at hh
    rcases hh with rfl | hh
    ·exact hx
    ·exact(h.dom _ _ hh).1
  rw [this];simp
theorem addR_bf{n:Nat}(hn:n≤64){R:Nat→Nat→Bool}(h:Rel n R){x y:Nat}(hx:x<n)(hy:y<n) :
  (fun i=>if i∈evs (afR n R y ||| 2 ^ y) then bfR n R i ||| (bfR n R x ||| 2 ^ x) else bfR n R i)=bfR n (addR R x y):=by
 funext i
 have e1:bfR n R x ||| 2 ^ x=mask n (fun a=>R a x || a == x):=by rw [bfR,two_pow_mask hx,mask_or]
 have e2:afR n R y ||| 2 ^ y=mask n (fun b=>R y b || b == y):=by rw [afR,two_pow_mask hy,mask_or]
 rw [e1,e2]
 by_cases hi:i∈evs (mask n (fun a=>R y a || a == y))
 ·rw [if_pos hi]
  obtain⟨_,hp⟩:=(mem_evs_mask hn _ _).1 hi
  rw [bfR,mask_or]
  refine mask_congr fun k _=>?_
  simp only [addR]
  have:(i == y || R y i)=true:=by rw [Bool.or_comm];exact hp
  rw [this,Bool.and_true,Bool.or_comm (k == x)]
 ·rw [if_neg hi]
  refine mask_congr fun k _=>?_
  have hno:¬ (i<n∧(R y i || i == y)=true):=fun hh=>hi ((mem_evs_mask hn _ _).2 hh)
  simp only [addR]
  have:(i == y || R y i)=false:=by
   cases hh:(i == y || R y i) with
   | false=>rfl
   | true=>
    refine absurd ⟨?_,by rw [Bool.or_comm];exact hh⟩ hno
    simp only [Bool.or_eq_true,beq_iff_eq] at hh
    rcases hh with rfl | hh
    ·exact hy
    ·exact(h.dom _ _ hh).2
  rw [this];simp
def rdy(n:Nat)(R:Nat→Nat→Bool)(l:List Nat)(x:Nat):Bool:=!l.contains x && (List.range n).all fun a=>!R a x || l.contains a
def nextR(n:Nat)(R:Nat→Nat→Bool)(l:List Nat):Option Nat:=(List.range n).find? (rdy n R l)
def firstGo(n:Nat)(R:Nat→Nat→Bool):Nat→List Nat→List Nat
 | 0,l=>l
 | k+1,l=>match nextR n R l with | some x=>firstGo n R k (l++[x]) | none=>l
def firstL(n:Nat)(R:Nat→Nat→Bool):List Nat:=firstGo n R n []
theorem Rel.least{n:Nat}{R:Nat→Nat→Bool}(h:Rel n R)(p:Nat→Bool):∀(m:Nat) (x:Nat),x<n→p x=true→((List.range n).filter fun a=>R a x).length≤m→∃ y,y<n∧p y=true∧∀ a,R a y=true→p a=false
 | m, x,hx,hp,hm=>by
  by_cases hy:∃ a,R a x=true∧p a=true
  ·obtain⟨a,hax,hpa⟩:=hy
   have ha:=(h.dom _ _ hax).1
   have hlt:((List.range n).filter fun b=>R b a).length<((List.range n).filter fun b=>R b x).length:=by
    have hsub:((List.range n).filter fun b=>R b a).length+1≤((List.range n).filter fun b=>R b x).length:=by
     have e:((List.range n).filter fun b=>R b a)=(((List.range n).filter fun b=>R b x).erase a).filter fun b=>R b a:=by
      rw [List.erase_filter,List.filter_filter]
      rw [List.Nodup.erase_eq_filter (List.nodup_range),List.filter_filter]
      apply List.filter_congr
      intro b _
      by_cases hba:R b a=true
      ·have h1:R b x=true:=h.tr _ _ _ hba hax
       have h2:b≠a:=fun e=>by rw [e,h.irr] at hba;cases hba
       simp [hba,h1,h2]
      ·simp [hba]
     have hm:a∈(List.range n).filter fun b=>R b x:=by simp [ha,hax]
     rw [e]
     have h1:=List.length_filter_le (fun b=>R b a) (((List.range n).filter fun b=>R b x).erase a)
     have h2:=List.length_erase_of_mem hm
     have h3:=List.length_pos_of_mem hm
     omega
    omega
   cases m with
   | zero=>omega
   | succ m=>exact h.least p m a ha hpa (by omega)
  ·refine⟨x,hx,hp,fun a ha=>?_⟩
   cases hpa:p a with
   | false=>rfl
   | true=>exact absurd ⟨a,ha,hpa⟩ hy
end Go.Ab
namespace Go.Proofs.YtfdlhlghcbeblaaGreatDoor
open Go.RowKit Go.Ab
def OrdR(w:World)(b n:Nat)(R:Nat→Nat→Bool):Prop:=Ord w b true n (bfR n R) (afR n R)
theorem OrdR.keep{S:Nat→Prop}{A B:World}{b n:Nat}{R:Nat→Nat→Bool}(h:OrdR A b n R)(ht:Turn S A B)(hS:¬ S b):OrdR B b n R:=Ord.keep h ht hS
theorem fitsR{n:Nat}(hn:n≤64)(R:Nat→Nat→Bool):Fits n (bfR n R) (afR n R):=⟨hn,fun _=>mask_lt64 hn _,fun _=>mask_lt64 hn _⟩
theorem Tryz.infoInt:(Tryz.prog.info? 3).map (fun i=>(i.zero,i.size,i.bytes))=some (some (.int .i64 0),1,8):=by kernel_rfl
theorem testBit_not64(d i:Nat)(hd:d<18446744073709551616):(18446744073709551615 - d).testBit i=(decide (i<64) && !d.testBit i):=by
 have:=Nat.testBit_two_pow_sub_succ (n:=64) (x:=d) hd i
 simpa using this
theorem andNot_zero{n:Nat}(hn:n≤64)(p q:Nat→Bool):(bits .andNot .u64 ((mask n p:Nat):Int) ((mask n q:Nat):Int) == 0)=(List.range n).all fun a=>!p a || q a:=by
 have h1:=mask_lt64 hn p
 have h2:=mask_lt64 hn q
 rw [u64_andNot_nat _ _ h1 h2,Bool.eq_iff_iff,beq_iff_eq]
 simp only [List.all_eq_true,List.mem_range,Bool.or_eq_true,Bool.not_eq_true']
 constructor
 ·intro h a ha
  have h0:mask n p &&& (18446744073709551615 - mask n q)=0:=by exact_mod_cast h
  have:=congrArg (fun v=>v.testBit a) h0
  simp only [Nat.testBit_and,testBit_not64 _ _ h2,testBit_mask,Nat.zero_testBit,ha,decide_true,Bool.true_and,show a<64 by omega] at this
  cases hp:p a <;> simp_all
 ·intro h
  have:mask n p &&& (18446744073709551615 - mask n q)=0:=by
   apply Nat.eq_of_testBit_eq
   intro i
   rw [Nat.testBit_and,testBit_not64 _ _ h2,testBit_mask,testBit_mask,Nat.zero_testBit]
   by_cases hi:i<n
   ·rcases h i hi with h | h <;> simp [h,hi]
   ·simp [hi]
  rw [this];rfl
def setL(n:Nat)(l:List Nat):Nat:=mask n (fun i=>l.contains i)
theorem setL_nil(n:Nat):setL n []=0:=by simp [setL,mask_zero]
theorem setL_snoc{n x:Nat}(hx:x<n)(l:List Nat):setL n l ||| 2 ^ x=setL n (l++[x]):=by
 rw [setL,two_pow_mask hx,mask_or]
 refine mask_congr fun i _=>?_
 simp only [List.contains_eq_mem,List.mem_append,List.mem_singleton]
 by_cases h:i∈l <;> by_cases h':i=x <;> simp [h,h']
end Go.Proofs.YtfdlhlghcbeblaaGreatDoor
namespace Go.Proofs.YtfdlhlghcbeblaaGreatDoor
open Go.RowKit Go.Ab
attribute [local go_sem] Oper.semAt_some wide_fn wide_depth
set_option maxHeartbeats 4000000 in
theorem before_bad(b:Nat)(n:Nat)(bf af:Nat→Nat)(w:World)(ho:Ord w b true n bf af)(hf:Fits n bf af)(x y:Int)(r:Int)
  (hr:((isEv n x && isEv n y)=false∧r=3)∨(isEv n x=true∧isEv n y=true∧((x == y) || isB n af y x)=true∧r=9)) :
  Calls Tryz.prog 105 #[.pointer (some ⟨b,0,none⟩),.int .i64 x,.int .i64 y] w fun e w'=>e=.returned (.int .i64 r)∧Ext w w':=by
 have hlt:=ho.lt
 have ho1:Ord (w.alloc (.cells #[.pointer (some ⟨b,0,none⟩)] 84)) b true n bf af:=ho.keep ((Turn.refl (fun _=>False) w).alloc _) id
 have hm:=ho.made
 refine calls_of_wp_marks Tryz.func105 rfl ?_
 simp only [Tryz.ntmps105,List.size_toArray,List.length_cons,List.length_nil,Nat.reduceAdd,Nat.reduceSub,Array.replicate_succ,Array.replicate_zero,List.push_toArray,List.append_toArray,List.nil_append,List.cons_append]
 rcases hr with ⟨h1,rfl⟩ | ⟨e1,e2,h1,rfl⟩
 ·have h2:isEv n x=false∨(isEv n x=true∧isEv n y=false):=by
   revert h1;cases isEv n x <;> cases isEv n y <;> simp
  clear h1
  rcases h2 with e1 | ⟨e1,e2⟩
  ·go_wp2_with (go_at_call 108;refine(event_any b n _ _ ho1.n).mono ?_;rintro e w' ⟨rfl,rfl⟩)
   go_goals
   refine bodyPostM_ret (base:=w.heap.size) trivial (fun w'=>results_tmp rfl _ _ _) ?_
   intro w' h1 _
   exact⟨rfl,Turn.after ((Turn.refl (fun _=>False) w).alloc _) h1 fun b' h2 h3=>by have:=h3.1;omega⟩
  ·go_wp2_with (go_at_call 108;refine(event_any b n _ _ ho1.n).mono ?_;rintro e w' ⟨rfl,rfl⟩)
   go_goals
   refine bodyPostM_ret (base:=w.heap.size) trivial (fun w'=>results_tmp rfl _ _ _) ?_
   intro w' h1 _
   exact⟨rfl,Turn.after ((Turn.refl (fun _=>False) w).alloc _) h1 fun b' h2 h3=>by have:=h3.1;omega⟩
 ·have h2:(x == y)=true∨((x == y)=false∧isB n af y x=true):=by
   revert h1;cases (x == y) <;> cases isB n af y x <;> simp
  clear h1
  rcases h2 with e3 | ⟨e3,e4⟩
  all_goals
   go_wp2_with (first | (go_at_call 108;refine(event_any b n _ _ ho1.n).mono ?_;rintro e w' ⟨rfl,rfl⟩) | (go_at_call 58;refine(is_any b true n bf af _ ho1 hf _ _).mono ?_;rintro e w' ⟨rfl,rfl⟩))
   go_goals
   refine bodyPostM_ret (base:=w.heap.size) trivial (fun w'=>results_tmp rfl _ _ _) ?_
   intro w' h1 _
   exact⟨rfl,Turn.after ((Turn.refl (fun _=>False) w).alloc _) h1 fun b' h2 h3=>by have:=h3.1;omega⟩
def isR(n:Nat)(R:Nat→Nat→Bool)(x y:Int):Bool:=isEv n x && isEv n y && R x.toNat y.toNat
theorem isB_R(n:Nat)(R:Nat→Nat→Bool)(x y:Int):isB n (afR n R) x y=isR n R x y:=by
 unfold isB isR
 cases h1:isEv n x
 ·simp
 ·cases h2:isEv n y
  ·simp
  ·have:=isEv_iff.1 h2
   simp only [Bool.true_and,afR,testBit_mask]
   simp;omega
def freeR(n:Nat)(R:Nat→Nat→Bool)(x y:Int):Bool:=isEv n x && isEv n y && !(x == y) && !isR n R x y && !isR n R y x
def befC(n:Nat)(R:Nat→Nat→Bool)(x y:Int):Int:=if isEv n x && isEv n y then(if x == y || isR n R y x then 9 else 0) else 3
def befN(n:Nat)(R:Nat→Nat→Bool)(x y:Int):Nat→Nat→Bool:=if befC n R x y=0 then addR R x.toNat y.toNat else R
theorem befC_zero{n:Nat}{R:Nat→Nat→Bool}{x y:Int}:befC n R x y=0↔isEv n x=true∧isEv n y=true∧x≠y∧isR n R y x=false:=by
 unfold befC
 cases isEv n x <;> cases isEv n y <;> simp
theorem befN_rel{n:Nat}{R:Nat→Nat→Bool}(h:Rel n R)(x y:Int):Rel n (befN n R x y):=by
 unfold befN
 split
 ·rename_i h0
  obtain⟨h1,h2,h3,h4⟩:=befC_zero.1 h0
  have h1':=isEv_iff.1 h1
  have h2':=isEv_iff.1 h2
  refine addR_rel h (by omega) (by omega) (by omega) ?_
  simpa [isR,h1,h2] using h4
 ·exact h
theorem before_R(b n:Nat)(R:Nat→Nat→Bool)(hn:n≤64)(hR:Rel n R)(w:World)(ho:OrdR w b n R)(hT:Tab w)(hbt:b≠0)(x y:Int) :
  Calls Tryz.prog 105 #[.pointer (some ⟨b,0,none⟩),.int .i64 x,.int .i64 y] w fun e w'=>e=.returned (.int .i64 (befC n R x y))∧Turn (·=b) w w'∧OrdR w' b n (befN n R x y):=by
 have hf:=fitsR hn R
 by_cases h0:befC n R x y=0
 ·obtain⟨h1,h2,h3,h4⟩:=befC_zero.1 h0
  have h1':=isEv_iff.1 h1
  have h2':=isEv_iff.1 h2
  obtain⟨x,rfl⟩:=Int.eq_ofNat_of_zero_le h1'.1
  obtain⟨y,rfl⟩:=Int.eq_ofNat_of_zero_le h2'.1
  have hl:(afR n R y).testBit x=false:=by
   have:=isB_R n R y x
   rw [h4,isB,h1,h2] at this
   simpa using this
  refine(before_ok b n _ _ w ho hf hT hbt x y (by omega) (by omega) (by omega) hl).mono ?_
  rintro e w' ⟨rfl,ht,ho'⟩
  refine⟨by rw [h0],ht,?_⟩
  rw [addR_bf hn hR (by omega) (by omega),addR_af hn hR (by omega) (by omega)] at ho'
  rw [befN,if_pos h0]
  exact ho'
 ·have hr:((isEv n x && isEv n y)=false∧befC n R x y=3)∨(isEv n x=true∧isEv n y=true∧((x == y) || isB n (afR n R) y x)=true∧befC n R x y=9):=by
   rw [isB_R]
   unfold befC at h0 ⊢
   cases h1:isEv n x <;> cases h2:isEv n y <;> simp_all
   by_cases hxy:x=y
   ·exact .inl hxy
   ·exact .inr (h0 hxy)
  refine(before_bad b n _ _ w ho hf x y _ hr).mono ?_
  rintro e w' ⟨rfl,ht⟩
  refine⟨rfl,ht.of,?_⟩
  rw [befN,if_neg h0]
  exact ho.keep ht id
theorem is_R(b n:Nat)(R:Nat→Nat→Bool)(hn:n≤64)(w:World)(ho:OrdR w b n R)(x y:Int) :
  Calls Tryz.prog 58 #[.pointer (some ⟨b,0,none⟩),.int .i64 x,.int .i64 y] w fun e w'=>e=.returned (.bool (isR n R x y))∧w=w':=by
 have:=is_any b true n _ _ w ho (fitsR hn R) x y
 rwa [isB_R] at this
theorem new_R(n:Nat)(hn:n≤64)(w:World) :
  Calls Tryz.prog 104 #[.int .i64 n] w fun e w'=>e=.returned (.tuple #[.pointer (some ⟨w.heap.size,0,none⟩),.int .i64 0])∧Ext w w'∧OrdR w' w.heap.size n (fun _ _=>false):=by
 refine(new_ok n hn w).mono ?_
 rintro e w' ⟨rfl,h1,h2⟩
 refine⟨rfl,h1,?_⟩
 have e1:bfR n (fun _ _=>false)=fun _=>0:=by funext x;exact mask_zero n
 have e2:afR n (fun _ _=>false)=fun _=>0:=by funext x;exact mask_zero n
 rw [OrdR,e1,e2];exact h2
def pairsR(n:Nat)(R:Nat→Nat→Bool):List (Int × Int):=(List.range n).flatMap fun a=>((List.range n).filter (R a)).map fun(b:Nat)=>((a:Int),(b:Int))
def redR(n:Nat)(R:Nat→Nat→Bool):List (Int × Int):=(pairsR n R).filter fun p=>(List.range n).all fun c=>!(R p.1.toNat c && R c p.2.toNat)
theorem mem_pairsR{n:Nat}{R:Nat→Nat→Bool}{p:Int × Int}:p∈pairsR n R↔∃ a b:Nat,p=((a:Int),(b:Int))∧a<n∧b<n∧R a b=true:=by
 simp only [pairsR,List.mem_flatMap,List.mem_range,List.mem_map,List.mem_filter]
 constructor
 ·rintro⟨a,ha,b,⟨hb,hr⟩,rfl⟩;exact⟨a,b,rfl,ha,hb,hr⟩
 ·rintro⟨a,b,rfl,ha,hb,hr⟩;exact⟨a,ha,b,⟨hb,hr⟩,rfl⟩
end Go.Proofs.YtfdlhlghcbeblaaGreatDoor
namespace Go.Proofs.YtfdlhlghcbeblaaGreatDoor
open Go.RowKit Go.Ab
def pairsTo(x:List Nat)(i:Nat):List (Nat × Nat):=(List.range i).flatMap fun i'=>(x.drop (i'+1)).map fun b=>(x.getD i' 0,b)
def pairsAll(x:List Nat):List (Nat × Nat):=pairsTo x x.length
theorem pairsTo_succ(x:List Nat)(i:Nat):pairsTo x (i+1)=pairsTo x i++(x.drop (i+1)).map fun b=>(x.getD i 0,b):=by
 unfold pairsTo
 rw [List.range_succ,List.flatMap_append];simp
def inP(P:List (Nat × Nat)) (a b:Nat):Bool:=P.contains (a,b)
def BefAt(V:World)(BB:Nat)(P:List (Nat × Nat)):Prop:=∃ cs:Array Value,V.heap[BB]?=some (.cells cs 164 (0,0))∧cs.size=36∧∀ a b,a<6→b<6→cs[a*6+b]?=some (.bool (inP P a b))
theorem BefAt.cell{V:World}{BB:Nat}{P:List (Nat × Nat)} (h:BefAt V BB P) {a b:Nat} (ha:a<6) (hb:b<6):V.cell? ⟨BB,a*6+b,none⟩=some (.bool (inP P a b))∧V.frozen? ⟨BB,a*6+b,none⟩=false:=by
 obtain⟨cs,h1,h2,h3⟩:=h
 have h4:=h3 a b ha hb
 constructor
 ·simp [World.cell?,h1,h4]
 ·simp [World.frozen?,h1]
theorem BefAt.ext{A B:World}{BB:Nat}{P:List (Nat × Nat)} {T:Nat→Prop} (h:BefAt A BB P) (ht:Turn T A B) (hT:¬ T BB):BefAt B BB P:=by
 obtain⟨cs,h1,h2,h3⟩:=h
 exact⟨cs,ht.heap h1 hT,h2,h3⟩
theorem BefAt.set{V:World}{BB:Nat}{P:List (Nat × Nat)} (h:BefAt V BB P) {a b:Nat} (ha:a<6) (hb:b<6):BefAt (V.setCell ⟨BB,a*6+b,none⟩ (.bool true)) BB (P++[(a,b)]):=by
 obtain⟨cs,h1,h2,h3⟩:=h
 refine⟨cs.setIfInBounds (a*6+b) (.bool true),?_,by simp [h2],fun x y hx hy=>?_⟩
 ·simp only [World.setCell,Array.getElem?_modify,h1];simp
 ·rw [Array.getElem?_setIfInBounds]
  by_cases e:a*6+b=x*6+y
  ·obtain⟨rfl,rfl⟩:a=x∧b=y:=by omega
   rw [if_pos rfl,if_pos (by omega)]
   unfold inP
   simp
  ·rw [if_neg e,h3 x y hx hy]
   congr 2
   unfold inP
   have hne:¬ ((x,y)=(a,b)):=fun h=>by cases h;exact e rfl
   simp
   intro h1 h2
   exact absurd (by rw [h1,h2]) hne
def needR(P:List (Nat × Nat)) (a b:Nat):Bool:=inP P a b && !inP P b a
def pairsOf(L:List (List Nat)):List (Nat × Nat):=L.flatMap pairsAll
theorem pairsOf_snoc(L:List (List Nat)) (x:List Nat):pairsOf (L++[x])=pairsOf L++pairsAll x:=by
 unfold pairsOf;rw [List.flatMap_append];simp
def needE(LD:List LawD)(qs:PairsL):Int:=if ordE LD (qs.map (·.1))=0 then(if (explL LD qs LD.length).isEmpty=true then 5 else 0) else ordE LD (qs.map (·.1))
def needL(LD:List LawD)(qs:PairsL):List (Int × Int):=if needE LD qs=0 then pairsR LD.length (needR (pairsOf (explL LD qs LD.length))) else []
def rowN(R:Nat→Nat→Bool)(a j:Nat):List (Int × Int):=((List.range j).filter (R a)).map fun(b:Nat)=>((a:Int),(b:Int))
theorem rowN_succ(R:Nat→Nat→Bool)(a j:Nat):rowN R a (j+1)=rowN R a j++if R a j=true then [((a:Int),(j:Int))] else []:=by
 unfold rowN
 rw [List.range_succ,List.filter_append,List.map_append]
 cases h:R a j <;> simp [h]
def rowsN(n:Nat)(R:Nat→Nat→Bool)(i:Nat):List (Int × Int):=(List.range i).flatMap fun a=>rowN R a n
theorem rowsN_succ(n:Nat)(R:Nat→Nat→Bool)(i:Nat):rowsN n R (i+1)=rowsN n R i++rowN R i n:=by
 unfold rowsN
 rw [List.range_succ,List.flatMap_append];simp
theorem rowsN_all(n:Nat)(R:Nat→Nat→Bool):rowsN n R n=pairsR n R:=rfl
theorem rowN_le(R:Nat→Nat→Bool)(a j:Nat):(rowN R a j).length≤j:=by
 unfold rowN
 rw [List.length_map]
 exact Nat.le_trans (List.length_filter_le _ _) (by simp)
theorem rowsN_le(n:Nat)(R:Nat→Nat→Bool):∀ i,(rowsN n R i).length≤i*n
 | 0=>by simp [rowsN]
 | i+1=>by
  rw [rowsN_succ,List.length_append,Nat.add_mul,Nat.one_mul]
  have:=rowsN_le n R i
  have:=rowN_le R i n
  omega
end Go.Proofs.YtfdlhlghcbeblaaGreatDoor
namespace Go.Proofs.YtfdlhlghcbeblaaGreatDoor
open Go.RowKit Go.Ab
theorem mem_pairsTo{x:List Nat}{i a b:Nat}:(a,b)∈pairsTo x i↔∃ j,j<i∧x.getD j 0=a∧b∈x.drop (j+1):=by
 unfold pairsTo
 rw [List.mem_flatMap]
 constructor
 ·rintro⟨j,hj,h⟩
  obtain⟨c,hc,e⟩:=List.mem_map.1 h
  cases e
  exact⟨j,List.mem_range.1 hj,rfl,hc⟩
 ·rintro⟨j,hj,rfl,hb⟩
  exact⟨j,List.mem_range.2 hj,List.mem_map.2 ⟨b,hb,rfl⟩⟩
theorem mem_pairsAll{x:List Nat}(hx:x.Nodup){a b:Nat}:(a,b)∈pairsAll x↔b∈x∧x.idxOf a<x.idxOf b:=by
 unfold pairsAll
 rw [mem_pairsTo]
 constructor
 ·rintro⟨j,hj,rfl,hb⟩
  obtain⟨k,hk,rfl⟩:=List.mem_iff_getElem.1 hb
  rw [List.length_drop] at hk
  rw [List.getElem_drop]
  have h1:j+1+k<x.length:=by omega
  refine⟨List.getElem_mem h1,?_⟩
  rw [List.getD_eq_getElem?_getD,List.getElem?_eq_getElem hj,Option.getD_some,hx.idxOf_getElem j hj,hx.idxOf_getElem _ h1]
  omega
 ·rintro⟨hb,hlt⟩
  have hbl:x.idxOf b<x.length:=List.idxOf_lt_length_of_mem hb
  have hal:x.idxOf a<x.length:=by omega
  refine⟨x.idxOf a,hal,?_,?_⟩
  ·rw [List.getD_eq_getElem?_getD,List.getElem?_eq_getElem hal,Option.getD_some]
   exact List.getElem_idxOf hal
  ·rw [List.mem_iff_getElem]
   refine⟨x.idxOf b - (x.idxOf a+1),by rw [List.length_drop];omega,?_⟩
   rw [List.getElem_drop]
   have e:x.idxOf a+1+(x.idxOf b - (x.idxOf a+1))=x.idxOf b:=by omega
   simp only [e]
   exact List.getElem_idxOf hbl
def Perms(n:Nat)(L:List (List Nat)):Prop:=∀ x∈L,x.Nodup∧∀ a,a∈x↔a<n
theorem inP_iff{n:Nat}{L:List (List Nat)} (hL:Perms n L) {a b:Nat}:inP (pairsOf L) a b=true↔∃ x∈L,b<n∧x.idxOf a<x.idxOf b:=by
 unfold inP pairsOf
 rw [List.contains_iff_mem,List.mem_flatMap]
 constructor
 ·rintro⟨x,hx,h⟩
  have:=(mem_pairsAll (hL x hx).1).1 h
  exact⟨x,hx,((hL x hx).2 b).1 this.1,this.2⟩
 ·rintro⟨x,hx,hb,h⟩
  exact⟨x,hx,(mem_pairsAll (hL x hx).1).2 ⟨((hL x hx).2 b).2 hb,h⟩⟩
theorem needR_iff{n:Nat}{L:List (List Nat)} (hL:Perms n L) (hne:L≠[]) {a b:Nat}:needR (pairsOf L) a b=true↔a<n∧b<n∧∀ x∈L,x.idxOf a<x.idxOf b:=by
 unfold needR
 rw [Bool.and_eq_true,Bool.not_eq_true',inP_iff hL]
 have hf:inP (pairsOf L) b a=false↔¬ ∃ x∈L,a<n∧x.idxOf b<x.idxOf a:=by
  rw [← inP_iff hL,Bool.not_eq_true]
 rw [hf]
 constructor
 ·rintro⟨⟨x,hx,hb,hlt⟩,hno⟩
  have hb1:b∈x:=((hL x hx).2 b).2 hb
  have hal:x.idxOf a<x.length:=Nat.lt_trans hlt (List.idxOf_lt_length_of_mem hb1)
  have ha1:a∈x:=List.idxOf_lt_length_iff.1 hal
  have ha:a<n:=((hL x hx).2 a).1 ha1
  refine⟨ha,hb,fun y hy=>?_⟩
  have hay:=((hL y hy).2 a).2 ha
  have hby:=((hL y hy).2 b).2 hb
  have hne2:y.idxOf a≠y.idxOf b:=fun e=>by
   have h1:=List.getElem_idxOf (List.idxOf_lt_length_of_mem hay)
   have h2:=List.getElem_idxOf (List.idxOf_lt_length_of_mem hby)
   simp only [e] at h1
   have:a=b:=h1.symm.trans h2
   subst this
   omega
  have hnot:¬ y.idxOf b<y.idxOf a:=fun h=>hno ⟨y,hy,ha,h⟩
  omega
 ·rintro⟨ha,hb,hall⟩
  obtain⟨x,hx⟩:=List.exists_mem_of_ne_nil L hne
  exact⟨⟨x,hx,hb,hall x hx⟩,fun⟨y,hy,_,h⟩=>by have:=hall y hy;omega⟩
theorem needR_rel{n:Nat}{L:List (List Nat)} (hL:Perms n L) (hne:L≠[]):Rel n (needR (pairsOf L)) where
 dom:=fun a b h=>⟨((needR_iff hL hne).1 h).1,((needR_iff hL hne).1 h).2.1⟩
 irr:=fun a=>by
  cases h:needR (pairsOf L) a a with
  | false=>rfl
  | true=>
   obtain⟨x,hx⟩:=List.exists_mem_of_ne_nil L hne
   have:=((needR_iff hL hne).1 h).2.2 x hx
   omega
 tr:=fun a b c h1 h2=>by
  have p:=(needR_iff hL hne).1 h1
  have q:=(needR_iff hL hne).1 h2
  exact(needR_iff hL hne).2 ⟨p.1,q.2.1,fun x hx=>Nat.lt_trans (p.2.2 x hx) (q.2.2 x hx)⟩
theorem orders_perm:∀(n:Nat),∀ x∈permsF n (List.range n),x.Nodup∧∀ a,a∈x↔a<n:=by
 have key:∀(n:Nat) (av:List Nat),av.Nodup→av.length=n→∀ x∈permsF n av,x.Nodup∧∀ a,a∈x↔a∈av:=by
  intro n
  induction n with
  | zero=>
   intro av _ hl x hx
   obtain rfl:av=[]:=List.eq_nil_of_length_eq_zero hl
   simp [permsF] at hx
   subst hx
   exact⟨List.nodup_nil,fun a=>Iff.rfl⟩
  | succ n ih=>
   intro av hnd hl x hx
   unfold permsF at hx
   obtain⟨i,hi,h⟩:=List.mem_flatMap.1 hx
   obtain⟨y,hy,rfl⟩:=List.mem_map.1 h
   have hlen:(av.filter (· != i)).length=n:=by
    obtain⟨f,hf,e⟩:=List.mem_iff_getElem.1 hi
    have:=filter_erase hnd hf
    rw [e] at this
    rw [this,List.length_eraseIdx_of_lt hf]
    omega
   obtain⟨h1,h2⟩:=ih (av.filter (· != i)) (hnd.filter _) hlen y hy
   refine⟨List.nodup_cons.2 ⟨fun hm=>?_,h1⟩,fun a=>?_⟩
   ·have:=(h2 i).1 hm
    simp at this
   ·rw [List.mem_cons,h2 a,List.mem_filter]
    constructor
    ·rintro(rfl | h)
     ·exact hi
     ·exact h.1
    ·intro h
     by_cases e:a=i
     ·exact .inl e
     ·exact .inr ⟨h,by simpa using e⟩
 intro n x hx
 have:=key n (List.range n) List.nodup_range (by simp) x hx
 exact⟨this.1,fun a=>by rw [this.2 a,List.mem_range]⟩
theorem expl_perms(LD:List LawD)(qs:PairsL)(n:Nat):Perms n (explL LD qs n):=fun x hx=>orders_perm n x (List.mem_filter.1 hx).1
structure Und (n:Nat) (R Rk:Nat→Nat→Bool) (l:List (Int × Int)):Prop where
 rel:Rel n Rk
 le:∀ a b,Rk a b=true→R a b=true
 all:∀ a b:Nat,((a:Int),(b:Int))∈l→Rk a b=true
theorem Und.start{n:Nat}{R:Nat→Nat→Bool}:Und n R (fun _ _=>false) []:=⟨Rel.empty n,(fun _ _ h=>by cases h),(fun _ _ h=>by cases h)⟩
theorem isEv_nat{n a:Nat}(h:a<n):isEv n (a:Int)=true:=by unfold isEv;simp;omega
theorem Und.step{n:Nat}{R Rk:Nat→Nat→Bool}{l:List (Int × Int)} {a b:Nat} (hR:Rel n R) (h:Und n R Rk l) (hab:R a b=true):befC n Rk (a:Int) (b:Int)=0∧Und n R (befN n Rk (a:Int) (b:Int)) (l++[((a:Int),(b:Int))]):=by
 obtain⟨ha,hb⟩:=hR.dom a b hab
 have hne:a≠b:=fun e=>by subst e;rw [hR.irr] at hab;cases hab
 have hba:Rk b a=false:=by
  cases e:Rk b a with
  | false=>rfl
  | true=>have:=hR.asym hab;rw [h.le b a e] at this;cases this
 have h0:befC n Rk (a:Int) (b:Int)=0:=by
  rw [befC_zero]
  refine⟨isEv_nat ha,isEv_nat hb,by omega,?_⟩
  unfold isR
  rw [isEv_nat ha,isEv_nat hb]
  simpa using hba
 refine⟨h0,⟨befN_rel h.rel _ _,fun i k hik=>?_,fun i k hik=>?_⟩⟩
 ·unfold befN at hik
  rw [if_pos h0] at hik
  unfold addR at hik
  simp only [Int.toNat_natCast,Bool.or_eq_true,Bool.and_eq_true,beq_iff_eq] at hik
  rcases hik with hik | ⟨h1,h2⟩
  ·exact h.le _ _ hik
  ·have q1:i=a∨R i a=true:=h1.imp id (h.le _ _)
   have q2:k=b∨R b k=true:=h2.imp id (h.le _ _)
   rcases q1 with rfl | q1
   ·rcases q2 with rfl | q2
    ·exact hab
    ·exact hR.tr _ _ _ hab q2
   ·rcases q2 with rfl | q2
    ·exact hR.tr _ _ _ q1 hab
    ·exact hR.tr _ _ _ q1 (hR.tr _ _ _ hab q2)
 ·unfold befN
  rw [if_pos h0]
  unfold addR
  simp only [Int.toNat_natCast,Bool.or_eq_true,Bool.and_eq_true,beq_iff_eq]
  rcases List.mem_append.1 hik with hik | hik
  ·exact .inl (h.all _ _ hik)
  ·rw [List.mem_singleton,Prod.mk.injEq] at hik
   exact .inr ⟨.inl (by omega),.inl (by omega)⟩
theorem Und.done{n:Nat}{R Rk:Nat→Nat→Bool}(hR:Rel n R)(h:Und n R Rk (pairsR n R)):Rk=R:=by
 funext a b
 rw [Bool.eq_iff_iff]
 exact⟨h.le a b,fun e=>h.all a b (mem_pairsR.2 ⟨a,b,rfl,(hR.dom a b e).1,(hR.dom a b e).2,e⟩)⟩
end Go.Proofs.YtfdlhlghcbeblaaGreatDoor
