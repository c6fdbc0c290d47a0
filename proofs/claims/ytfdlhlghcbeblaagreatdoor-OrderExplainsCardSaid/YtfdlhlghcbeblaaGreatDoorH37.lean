/- chron.Order.Before. ablautlaw13: same, equal, inside. chron.Order.Pairs, Reduced. chron.Order.Reduced. PLAIN: relations between the first n numbers, as bits and as such. chron.Order over a relation; First. chron.Order.Before, whole. Which law is before which: what order.Needed keeps of the orders. -/
import Derived.Test.YtfdlhlghcbeblaaGreatDoorH36
import Derived.Test.YtfdlhlghcbeblaaGreatDoorH00
import Derived.Test.YtfdlhlghcbeblaaGreatDoorH02
import Derived.Test.YtfdlhlghcbeblaaGreatDoorH12
import Derived.Test.YtfdlhlghcbeblaaGreatDoorProg
import Derived.WalkLawsBesides
import Derived.Handy
import Derived.Lib.Hide
set_option maxRecDepth 100000
set_option maxHeartbeats 4000000
namespace Go.Proofs.YtfdlhlghcbeblaaGreatDoor
open Go.RowKit Go.Ab
theorem _root_.Go.Proofs.YtfdlhlghcbeblaaGreatDoor.SetBox.lt {w:World} {bx v:Nat} (h:SetBox w bx v):bx<w.heap.size:=(Array.getElem?_eq_some_iff.1 h).1
attribute [local go_sem] Oper.semAt_some wide_fn wide_depth
end Go.Proofs.YtfdlhlghcbeblaaGreatDoor
namespace Go.Proofs.YtfdlhlghcbeblaaGreatDoor
open Go.RowKit Go.Ab
theorem run_equalIn_pair{P:Program}(w:World)(d:Nat)(t e:TypeId)(k:IntKind)(x1 x2 y1 y2:Int)(ht:P.underlying t=some (.array 2 e)) (he:P.underlying e=some (.int k)) (hs:(P.info? e).map (·.size)=some 1) :
  (Op.equalIn (d+2) t (.agg #[.int k x1,.int k x2]) (.agg #[.int k y1,.int k y2])).run P w=.ok (x1 == y1 && x2 == y2) w:=by
 have h1:=run_equalIn_int w d e k k x1 y1 he
 have h2:=run_equalIn_int w d e k k x2 y2 he
 obtain⟨i,hi,hsz⟩:∃ i,P.info? e=some i/\i.size=1:=by
  cases h:P.info? e with
  | none=>simp [h] at hs
  | some i=>exact⟨i,rfl,by simpa [h] using hs⟩
 have h3:(isAgg e).run P w=.ok false w:=by simp [isAgg,run_underlying he]
 rw [Op.equalIn]
 simp only [Sem.run_bind,run_underlying ht,Result.andThen_ok]
 simp [Std.Legacy.Range.forIn_eq_forIn_range',sizeOf,typeInfo,hi,hsz,List.range',part,h1,h3]
 by_cases hx:x1=y1
 ·by_cases hy:x2=y2
  ·subst hy;simp [hx,h2]
  ·simp [hx,hy,h2]
 ·simp [hx]
def zs(l:List Nat):List Int:=l.map fun(x:Nat)=>(x:Int)
def ints(l:List Int):List Value:=l.map (Value.int .i64)
theorem ints_getD(l:List Int)(i:Nat)(h:i<l.length):(ints l).getD i undef=.int .i64 (l.getD i 0):=by
 simp [ints,List.getD_eq_getElem?_getD,h]
def prs(l:List (Int × Int)):List Value:=l.flatMap fun p=>[Value.int .i64 p.1,Value.int .i64 p.2]
theorem prs_cons(p:Int × Int)(l:List (Int × Int)):prs (p::l)=.int .i64 p.1::.int .i64 p.2::prs l:=rfl
theorem prs_append(l m:List (Int × Int)):prs (l++m)=prs l++prs m:=by simp [prs]
theorem prs_fst:∀(l:List (Int × Int)) (i:Nat),i<l.length->(prs l).getD (i*2) undef=.int .i64 (l.getD i (0,0)).1
 | [],_,h=>by simp at h
 | p::l,0,_=>by simp [prs_cons]
 | p::l,i+1,h=>by
  rw [prs_cons,show (i+1)*2=i*2+1+1 by omega,List.getD_cons_succ,List.getD_cons_succ,List.getD_cons_succ]
  exact prs_fst l i (by simpa using h)
theorem prs_snd:∀(l:List (Int × Int)) (i:Nat),i<l.length->(prs l).getD (i*2+1) undef=.int .i64 (l.getD i (0,0)).2
 | [],_,h=>by simp at h
 | p::l,0,_=>by simp [prs_cons]
 | p::l,i+1,h=>by
  rw [prs_cons,show (i+1)*2+1=i*2+1+1+1 by omega,List.getD_cons_succ,List.getD_cons_succ,List.getD_cons_succ]
  exact prs_snd l i (by simpa using h)
end Go.Proofs.YtfdlhlghcbeblaaGreatDoor
set_option maxRecDepth 100000
set_option maxHeartbeats 4000000
namespace Go.Proofs.YtfdlhlghcbeblaaGreatDoor
open Go.RowKit Go.Ab
attribute [local go_sem] Oper.semAt_some wide_fn wide_depth
def pairsL(k:Nat)(af:Nat->Nat):List (Int × Int):=(List.range k).flatMap fun a=>(evs (af a)).map fun(b:Nat)=>((a:Int),(b:Int))
theorem Tryz.infoPair:(Tryz.prog.info? 73).map (fun i=>(i.zero,i.size,i.bytes))=some (some (.agg #[.int .i64 0,.int .i64 0]),2,16):=by kernel_rfl
end Go.Proofs.YtfdlhlghcbeblaaGreatDoor
namespace Go.Proofs.YtfdlhlghcbeblaaGreatDoor
open Go.RowKit Go.Ab
def noneB(bf af:Nat->Nat)(p:Int × Int):Bool:=af p.1.toNat &&& bf p.2.toNat == 0
def reducedL(n:Nat)(bf af:Nat->Nat):List (Int × Int):=(pairsL n af).filter (noneB bf af)
end Go.Proofs.YtfdlhlghcbeblaaGreatDoor
namespace Go.Ab
def bfR(n:Nat)(R:Nat->Nat->Bool)(x:Nat):Nat:=mask n (fun a=>R a x)
def afR(n:Nat)(R:Nat->Nat->Bool)(x:Nat):Nat:=mask n (fun b=>R x b)
structure Rel (n:Nat) (R:Nat->Nat->Bool):Prop where
 dom:∀ a b,R a b=true->a<n/\b<n
 irr:∀ a,R a a=false
 tr:∀ a b c,R a b=true->R b c=true->R a c=true
theorem Rel.empty(n:Nat):Rel n (fun _ _=>false):=⟨by simp,by simp,by simp⟩
theorem Rel.asym{n:Nat}{R:Nat->Nat->Bool}(h:Rel n R){a b:Nat}(hab:R a b=true):R b a=false:=by
 cases hba:R b a with
 | false=>rfl
 | true=>have:=h.tr a b a hab hba;rw [h.irr] at this;cases this
def addR(R:Nat->Nat->Bool)(x y:Nat):Nat->Nat->Bool:=fun i k=>R i k || ((i == x || R i x) && (k == y || R y k))
theorem addR_rel{n:Nat}{R:Nat->Nat->Bool}(h:Rel n R){x y:Nat}(hx:x<n)(hy:y<n)(hxy:x≠y)(hyx:R y x=false):Rel n (addR R x y):=by
 constructor
 ·intro a b hab
  simp only [addR,Bool.or_eq_true,Bool.and_eq_true,beq_iff_eq] at hab
  rcases hab with hab | ⟨h1,h2⟩
  ·exact h.dom a b hab
  ·constructor
   ·rcases h1 with rfl | h1
    ·exact hx
    ·exact(h.dom _ _ h1).1
   ·rcases h2 with rfl | h2
    ·exact hy
    ·exact(h.dom _ _ h2).2
 ·intro a
  cases ha:addR R x y a a with
  | false=>rfl
  | true=>
   simp only [addR,Bool.or_eq_true,Bool.and_eq_true,beq_iff_eq] at ha
   rcases ha with ha | ⟨h1,h2⟩
   ·rw [h.irr] at ha;cases ha
   ·rcases h1 with rfl | h1 <;> rcases h2 with h2 | h2
    ·exact absurd h2 hxy
    ·rw [hyx] at h2;cases h2
    ·subst h2;rw [hyx] at h1;cases h1
    ·have:=h.tr _ _ _ h2 h1;rw [hyx] at this;cases this
 ·intro a b c hab hbc
  simp only [addR,Bool.or_eq_true,Bool.and_eq_true,beq_iff_eq] at *
  rcases hab with hab | ⟨h1,h2⟩ <;> rcases hbc with hbc | ⟨h3,h4⟩
  ·exact .inl (h.tr _ _ _ hab hbc)
  ·refine .inr ⟨?_,h4⟩
   rcases h3 with rfl | h3
   ·exact .inr hab
   ·exact .inr (h.tr _ _ _ hab h3)
  ·refine .inr ⟨h1,?_⟩
   rcases h2 with rfl | h2
   ·exact .inr hbc
   ·exact .inr (h.tr _ _ _ h2 hbc)
  ·exact .inr ⟨h1,h4⟩
def rdy(n:Nat)(R:Nat->Nat->Bool)(l:List Nat)(x:Nat):Bool:=!l.contains x && (List.range n).all fun a=>!R a x || l.contains a
def nextR(n:Nat)(R:Nat->Nat->Bool)(l:List Nat):Option Nat:=(List.range n).find? (rdy n R l)
def firstGo(n:Nat)(R:Nat->Nat->Bool):Nat->List Nat->List Nat
 | 0,l=>l
 | k+1,l=>match nextR n R l with | some x=>firstGo n R k (l++[x]) | none=>l
def firstL(n:Nat)(R:Nat->Nat->Bool):List Nat:=firstGo n R n []
end Go.Ab
namespace Go.Proofs.YtfdlhlghcbeblaaGreatDoor
open Go.RowKit Go.Ab
def OrdR(w:World)(b n:Nat)(R:Nat->Nat->Bool):Prop:=Ord w b true n (bfR n R) (afR n R)
theorem OrdR.keep{S:Nat->Prop}{A B:World}{b n:Nat}{R:Nat->Nat->Bool}(h:OrdR A b n R)(ht:Turn S A B)(hS:¬ S b):OrdR B b n R:=Ord.keep h ht hS
theorem Tryz.infoInt:(Tryz.prog.info? 3).map (fun i=>(i.zero,i.size,i.bytes))=some (some (.int .i64 0),1,8):=by kernel_rfl
def setL(n:Nat)(l:List Nat):Nat:=mask n (fun i=>l.contains i)
end Go.Proofs.YtfdlhlghcbeblaaGreatDoor
namespace Go.Proofs.YtfdlhlghcbeblaaGreatDoor
open Go.RowKit Go.Ab
attribute [local go_sem] Oper.semAt_some wide_fn wide_depth
def isR(n:Nat)(R:Nat->Nat->Bool)(x y:Int):Bool:=isEv n x && isEv n y && R x.toNat y.toNat
def freeR(n:Nat)(R:Nat->Nat->Bool)(x y:Int):Bool:=isEv n x && isEv n y && !(x == y) && !isR n R x y && !isR n R y x
def befC(n:Nat)(R:Nat->Nat->Bool)(x y:Int):Int:=if isEv n x && isEv n y then(if x == y || isR n R y x then 9 else 0) else 3
def befN(n:Nat)(R:Nat->Nat->Bool)(x y:Int):Nat->Nat->Bool:=if befC n R x y=0 then addR R x.toNat y.toNat else R
theorem befC_zero{n:Nat}{R:Nat->Nat->Bool}{x y:Int}:befC n R x y=0↔isEv n x=true/\isEv n y=true/\x≠y/\isR n R y x=false:=by
 unfold befC
 cases isEv n x <;> cases isEv n y <;> simp
theorem befN_rel{n:Nat}{R:Nat->Nat->Bool}(h:Rel n R)(x y:Int):Rel n (befN n R x y):=by
 unfold befN
 split
 ·rename_i h0
  obtain⟨h1,h2,h3,h4⟩:=befC_zero.1 h0
  have h1':=isEv_iff.1 h1
  have h2':=isEv_iff.1 h2
  refine addR_rel h (by omega) (by omega) (by omega) ?_
  simpa [isR,h1,h2] using h4
 ·exact h
def pairsR(n:Nat)(R:Nat->Nat->Bool):List (Int × Int):=(List.range n).flatMap fun a=>((List.range n).filter (R a)).map fun(b:Nat)=>((a:Int),(b:Int))
def redR(n:Nat)(R:Nat->Nat->Bool):List (Int × Int):=(pairsR n R).filter fun p=>(List.range n).all fun c=>!(R p.1.toNat c && R c p.2.toNat)
theorem mem_pairsR{n:Nat}{R:Nat->Nat->Bool}{p:Int × Int}:p∈pairsR n R↔∃ a b:Nat,p=((a:Int),(b:Int))/\a<n/\b<n/\R a b=true:=by
 simp only [pairsR,List.mem_flatMap,List.mem_range,List.mem_map,List.mem_filter]
 constructor
 ·rintro⟨a,ha,b,⟨hb,hr⟩,rfl⟩;exact⟨a,b,rfl,ha,hb,hr⟩
 ·rintro⟨a,b,rfl,ha,hb,hr⟩;exact⟨a,ha,b,⟨hb,hr⟩,rfl⟩
end Go.Proofs.YtfdlhlghcbeblaaGreatDoor
namespace Go.Proofs.YtfdlhlghcbeblaaGreatDoor
open Go.RowKit Go.Ab
def pairsTo(x:List Nat)(i:Nat):List (Nat × Nat):=(List.range i).flatMap fun i'=>(x.drop (i'+1)).map fun b=>(x.getD i' 0,b)
def pairsAll(x:List Nat):List (Nat × Nat):=pairsTo x x.length
theorem pairsTo_succ(x:List Nat)(i:Nat):pairsTo x (i+1)=pairsTo x i++(x.drop (i+1)).map fun b=>(x.getD i 0,b):=by
 unfold pairsTo
 rw [List.range_succ,List.flatMap_append];simp
def inP(P:List (Nat × Nat)) (a b:Nat):Bool:=P.contains (a,b)
def BefAt(V:World)(BB:Nat)(P:List (Nat × Nat)):Prop:=∃ cs:Array Value,V.heap[BB]?=some (.cells cs 164 (0,0))/\cs.size=36/\∀ a b,a<6->b<6->cs[a*6+b]?=some (.bool (inP P a b))
theorem BefAt.cell{V:World}{BB:Nat}{P:List (Nat × Nat)} (h:BefAt V BB P) {a b:Nat} (ha:a<6) (hb:b<6):V.cell? ⟨BB,a*6+b,none⟩=some (.bool (inP P a b))/\V.frozen? ⟨BB,a*6+b,none⟩=false:=by
 obtain⟨cs,h1,h2,h3⟩:=h
 have h4:=h3 a b ha hb
 constructor
 ·simp [World.cell?,h1,h4]
 ·simp [World.frozen?,h1]
theorem BefAt.ext{A B:World}{BB:Nat}{P:List (Nat × Nat)} {T:Nat->Prop} (h:BefAt A BB P) (ht:Turn T A B) (hT:¬ T BB):BefAt B BB P:=by
 obtain⟨cs,h1,h2,h3⟩:=h
 exact⟨cs,ht.heap h1 hT,h2,h3⟩
theorem BefAt.set{V:World}{BB:Nat}{P:List (Nat × Nat)} (h:BefAt V BB P) {a b:Nat} (ha:a<6) (hb:b<6):BefAt (V.setCell ⟨BB,a*6+b,none⟩ (.bool true)) BB (P++[(a,b)]):=by
 obtain⟨cs,h1,h2,h3⟩:=h
 refine⟨cs.setIfInBounds (a*6+b) (.bool true),?_,by simp [h2],fun x y hx hy=>?_⟩
 ·simp only [World.setCell,Array.getElem?_modify,h1];simp
 ·rw [Array.getElem?_setIfInBounds]
  by_cases e:a*6+b=x*6+y
  ·obtain⟨rfl,rfl⟩:a=x/\b=y:=by omega
   rw [if_pos rfl,if_pos (by omega)]
   unfold inP
   simp
  ·rw [if_neg e,h3 x y hx hy]
   congr 2
   unfold inP
   have hne:¬ ((x,y)=(a,b)):=fun h=>by cases h;exact e rfl
   simp
   intro h1 h2
   exact absurd (by rw [h1,h2]) hne
def needR(P:List (Nat × Nat)) (a b:Nat):Bool:=inP P a b && !inP P b a
def pairsOf(L:List (List Nat)):List (Nat × Nat):=L.flatMap pairsAll
theorem pairsOf_snoc(L:List (List Nat)) (x:List Nat):pairsOf (L++[x])=pairsOf L++pairsAll x:=by
 unfold pairsOf;rw [List.flatMap_append];simp
def needE(LD:List LawD)(qs:PairsL):Int:=if ordE LD (qs.map (·.1))=0 then(if (explL LD qs LD.length).isEmpty=true then 5 else 0) else ordE LD (qs.map (·.1))
def needL(LD:List LawD)(qs:PairsL):List (Int × Int):=if needE LD qs=0 then pairsR LD.length (needR (pairsOf (explL LD qs LD.length))) else []
def rowN(R:Nat->Nat->Bool)(a j:Nat):List (Int × Int):=((List.range j).filter (R a)).map fun(b:Nat)=>((a:Int),(b:Int))
theorem rowN_succ(R:Nat->Nat->Bool)(a j:Nat):rowN R a (j+1)=rowN R a j++if R a j=true then [((a:Int),(j:Int))] else []:=by
 unfold rowN
 rw [List.range_succ,List.filter_append,List.map_append]
 cases h:R a j <;> simp [h]
def rowsN(n:Nat)(R:Nat->Nat->Bool)(i:Nat):List (Int × Int):=(List.range i).flatMap fun a=>rowN R a n
theorem rowsN_succ(n:Nat)(R:Nat->Nat->Bool)(i:Nat):rowsN n R (i+1)=rowsN n R i++rowN R i n:=by
 unfold rowsN
 rw [List.range_succ,List.flatMap_append];simp
theorem rowsN_all(n:Nat)(R:Nat->Nat->Bool):rowsN n R n=pairsR n R:=rfl
theorem rowN_le(R:Nat->Nat->Bool)(a j:Nat):(rowN R a j).length<=j:=by
 unfold rowN
 rw [List.length_map]
 exact Nat.le_trans (List.length_filter_le _ _) (by simp)
theorem rowsN_le(n:Nat)(R:Nat->Nat->Bool):∀ i,(rowsN n R i).length<=i*n
 | 0=>by simp [rowsN]
 | i+1=>by
  rw [rowsN_succ,List.length_append,Nat.add_mul,Nat.one_mul]
  have:=rowsN_le n R i
  have:=rowN_le R i n
  omega
end Go.Proofs.YtfdlhlghcbeblaaGreatDoor
