/- Where the program stands in order.orders: what its boxes hold. -/
import Derived.Test.YtfdlhlghcbeblaaGreatDoorH31
import Derived.Test.YtfdlhlghcbeblaaGreatDoorH30
import Derived.Test.YtfdlhlghcbeblaaGreatDoorH05
set_option maxRecDepth 100000
namespace Go.Proofs.YtfdlhlghcbeblaaGreatDoor
open Go.RowKit Go.Ab
structure Vis (BO BL BY BU BV l n n0:Nat) (lo:Option Addr) (lc:Nat) (O:Nat->Prop) (p:List Nat) (vo:Value) (W:World):Prop where
 cO:W.heap[BO]?=some (.cells #[vo] 48 (0,0))
 cL:W.heap[BL]?=some (.cells #[.slice lo n lc] 26 (0,0))
 cY:W.heap[BY]?=some (.cells #[.func (.yield l) #[] #[]] 236 (0,0))
 cU:W.heap[BU]?=some (.cells #[.int .u64 (usedM n p:Int)] 237 (0,0))
 cV:W.heap[BV]?=some (.cells #[.func (.func 150) #[] #[.pointer (some ⟨BO,0,none⟩),.pointer (some ⟨BL,0,none⟩),.pointer (some ⟨BY,0,none⟩),.pointer (some ⟨BU,0,none⟩),.pointer (some ⟨BV,0,none⟩)]] 238 (0,0))
 own:W.ownsRow n0 3 1 vo p.length (natV p)
 row:∀ g,vo.ownBlock=some g->O g/\g≠BO/\g≠BU/\g≠BV/\g≠BY
 oO:O BO/\O BU/\O BY/\O BV
def VisT(K O:Nat->Prop)(BO BU:Nat)(vo:Value)(b:Nat):Prop:=¬ K b/\(O b->b=BO\/b=BU\/vo.ownBlock=some b)
def VisS(K O:Nat->Prop)(BO BU:Nat)(vo:Value)(b:Nat):Prop:=K b\/(O b/\b≠BO/\b≠BU/\vo.ownBlock≠some b)
theorem visT_not{K O:Nat->Prop}{BO BU:Nat}{vo:Value}{b:Nat}(h:VisT K O BO BU vo b):¬ VisS K O BO BU vo b:=by
 rintro(h1 | ⟨h1,h2,h3,h4⟩)
 ·exact h.1 h1
 ·rcases h.2 h1 with e | e | e
  ·exact h2 e
  ·exact h3 e
  ·exact h4 e
theorem states_keepS{S:Nat->Prop}{A B:World}{v:Value}{os:List (Option Wd × List Value)} (h:StatesAt A v os) (ht:Turn (fun b=>¬ S b) A B) (hv:KeptIn S v) (hk:KeptSt S os):StatesAt B v os:=
 ⟨rd_keepS h.1 ht hv,fun p hp=>⟨(h.2 p hp).1,st_keep (h.2 p hp).2 ht (hk p hp)⟩⟩
def VisB(BO BL BY BU BV n0:Nat):Prop:=BL<n0/\n0<=BO/\n0<=BY/\n0<=BU/\n0<=BV/\BO≠BY/\BO≠BU/\BO≠BV/\BU≠BY/\BU≠BV
section
variable {BO BL BY BU BV l n n0 lc k:Nat} {lo:Option Addr} {O O':Nat->Prop} {p:List Nat} {vo v2:Value} {A B W W5 W7:World}
theorem Vis.keep{T:Nat->Prop}(h:Vis BO BL BY BU BV l n n0 lo lc O p vo A)(ht:Turn T A B)(hT:∀ b,T b->¬ O b/\b≠BL)(hO:∀ b,O b->O' b):Vis BO BL BY BU BV l n n0 lo lc O' p vo B where
 cO:=ht.heap h.cO (fun q=>(hT _ q).1 h.oO.1)
 cL:=ht.heap h.cL (fun q=>(hT _ q).2 rfl)
 cY:=ht.heap h.cY (fun q=>(hT _ q).1 h.oO.2.2.1)
 cU:=ht.heap h.cU (fun q=>(hT _ q).1 h.oO.2.1)
 cV:=ht.heap h.cV (fun q=>(hT _ q).1 h.oO.2.2.2)
 own:=own_keep h.own ht (fun g hg q=>(hT _ q).1 (h.row g hg).1)
 row:=fun g hg=>⟨hO _ (h.row g hg).1,(h.row g hg).2⟩
 oO:=⟨hO _ h.oO.1,hO _ h.oO.2.1,hO _ h.oO.2.2.1,hO _ h.oO.2.2.2⟩
theorem set_one{W:World}{b:Nat}{u v:Value}{t:TypeId}(h:W.heap[b]?=some (.cells #[u] t (0,0))):(W.setCell ⟨b,0,none⟩ v).heap[b]?=some (.cells #[v] t (0,0)):=by
 simp only [World.setCell,Array.getElem?_modify,h];simp
theorem Vis.push(h:Vis BO BL BY BU BV l n n0 lo lc O p vo W)(hT:Turn (fun b=>vo.ownBlock=some b) W W5) (hown:W5.ownsRow n0 3 1 v2 (p.length+1) (natV (p++[k])))
  (hv:v2.ownBlock=vo.ownBlock\/∃ g,W.heap.size<=g/\v2.ownBlock=some g) (hO:∀ b,O b->n0<=b/\b<W.heap.size) (hB:VisB BO BL BY BU BV n0) (hn0:n0<=W.heap.size)
  (h7:(W5.setCell ⟨BO,0,none⟩ v2).setCell ⟨BU,0,none⟩ (.int .u64 (usedM n (p++[k]):Int))=W7) :
  Vis BO BL BY BU BV l n n0 lo lc (fun b=>O b\/(W.heap.size<=b/\b<W7.heap.size)) (p++[k]) v2 W7/\Turn (fun b=>b=BO\/b=BU\/vo.ownBlock=some b) W W7/\n0<=W7.heap.size:=by
 obtain⟨b1,b2,b3,b4,b5,b6,b7,b8,b9,b10⟩:=hB
 have t1:Turn (fun b=>b=BO) W5 (W5.setCell ⟨BO,0,none⟩ v2):=Turn.set1 _ _ _ _
 have t2:Turn (fun b=>b=BU) (W5.setCell ⟨BO,0,none⟩ v2) W7:=by rw [<-h7];exact Turn.set1 _ _ _ _
 have t3:Turn (fun b=>b=BO\/b=BU) W5 W7:=(t1.mono fun b _ e=>.inl e).trans (t2.mono fun b _ e=>.inr e)
 have hw5:W.heap.size<=W7.heap.size:=Nat.le_trans hT.size t3.size
 have hnb:∀ g,vo.ownBlock=some g->g≠BO/\g≠BU/\g≠BV/\g≠BY:=fun g hg=>(h.row g hg).2
 have cO5:=hT.heap h.cO (fun e=>(hnb _ e).1 rfl)
 have cU5:=hT.heap h.cU (fun e=>(hnb _ e).2.1 rfl)
 have hl7:∀ g,v2.ownBlock=some g->g<W7.heap.size:=fun g hg=>Nat.lt_of_lt_of_le (hown.lt g hg).2 t3.size
 refine⟨⟨?_,?_,?_,?_,?_,?_,fun g hg=>?_,.inl h.oO.1,.inl h.oO.2.1,.inl h.oO.2.2.1,.inl h.oO.2.2.2⟩,?_,Nat.le_trans hn0 hw5⟩
 ·exact t2.heap (set_one cO5) (by omega)
 ·refine t3.heap (hT.heap h.cL (fun e=>?_)) (by omega)
  have:=(hown.lt);have:=(h.own.lt _ e).1;omega
 ·exact t3.heap (hT.heap h.cY (fun e=>(hnb _ e).2.2.2 rfl)) (by omega)
 ·rw [<-h7];exact set_one (t1.heap cU5 (by omega))
 ·exact t3.heap (hT.heap h.cV (fun e=>(hnb _ e).2.2.1 rfl)) (by omega)
 ·rw [List.length_append,List.length_singleton]
  refine own_keep hown t3 (fun g hg e=>?_)
  rcases hv with hv | ⟨g',h1,h2⟩
  ·rw [hv] at hg;have:=hnb g hg;omega
  ·rw [h2] at hg;cases hg
   have:=(hO _ h.oO.1).2;have:=(hO _ h.oO.2.1).2;omega
 ·rcases hv with hv | ⟨g',h1,h2⟩
  ·rw [hv] at hg;exact⟨.inl (h.row g hg).1,(h.row g hg).2⟩
  ·have h3:=hl7 g hg
   rw [h2] at hg;cases hg
   have:=(hO _ h.oO.1).2;have:=(hO _ h.oO.2.1).2;have:=(hO _ h.oO.2.2.1).2;have:=(hO _ h.oO.2.2.2).2
   exact⟨.inr ⟨h1,h3⟩,by omega,by omega,by omega,by omega⟩
 ·exact(hT.mono fun b _ e=>.inr (.inr e)).trans (t3.mono fun b _ e=>e.elim .inl (fun e=>.inr (.inl e)))
theorem Vis.pop{g c:Nat}(h:Vis BO BL BY BU BV l n n0 lo lc O (p++[k]) (.slice (some ⟨g,0,none⟩) (p.length+1) c) W) (hB:VisB BO BL BY BU BV n0)
  (h7:(W.setCell ⟨BO,0,none⟩ (.slice (some ⟨g,0,none⟩) p.length c)).setCell ⟨BU,0,none⟩ (.int .u64 (usedM n p:Int))=W7) :
  Vis BO BL BY BU BV l n n0 lo lc O p (.slice (some ⟨g,0,none⟩) p.length c) W7/\Turn (fun b=>b=BO\/b=BU) W W7/\W7.heap.size=W.heap.size:=by
 obtain⟨b1,b2,b3,b4,b5,b6,b7,b8,b9,b10⟩:=hB
 have t1:Turn (fun b=>b=BO) W (W.setCell ⟨BO,0,none⟩ (.slice (some ⟨g,0,none⟩) p.length c)):=Turn.set1 _ _ _ _
 have t2:Turn (fun b=>b=BU) (W.setCell ⟨BO,0,none⟩ (.slice (some ⟨g,0,none⟩) p.length c)) W7:=by rw [<-h7];exact Turn.set1 _ _ _ _
 have t3:Turn (fun b=>b=BO\/b=BU) W W7:=(t1.mono fun b _ e=>.inl e).trans (t2.mono fun b _ e=>.inr e)
 have hr:=h.row g rfl
 have ho:=h.own
 rw [List.length_append,List.length_singleton] at ho
 have ho2:=own_pop ho
 refine⟨⟨?_,t3.heap h.cL (by omega),t3.heap h.cY (by omega),?_,t3.heap h.cV (by omega),?_,fun g' hg=>h.row g' hg,h.oO⟩,t3,by rw [<-h7];simp⟩
 ·exact t2.heap (set_one h.cO) (by omega)
 ·rw [<-h7];exact set_one (t1.heap h.cU (by omega))
 ·refine own_keep ?_ t3 (fun g' hg e=>?_)
  ·rw [Nat.mul_one] at ho2
   have e:(natV (p++[k])).take p.length=natV p:=by
    rw [natV_append,List.take_left' (by unfold natV;rw [List.length_map])]
   rw [e] at ho2
   exact ho2
  ·have:=h.row g' hg;omega
end
def VisPush(BO BL BY BU BV l n n0 lc:Nat)(lo:Option Addr)(O:Nat->Prop)(p:List Nat)(vo:Value)(V1 W:World):Prop:=
 ∃ ao c,Vis BO BL BY BU BV l n n0 lo lc (fun b=>O b\/(V1.heap.size<=b/\b<W.heap.size)) p (.slice ao p.length c) W/\Turn (fun b=>b=BO\/b=BU\/vo.ownBlock=some b) V1 W/\n0<=W.heap.size /\
  ((Value.slice ao p.length c).ownBlock=vo.ownBlock\/∃ g,V1.heap.size<=g/\(Value.slice ao p.length c).ownBlock=some g)
theorem vis_pushed{BO BL BY BU BV l n n0 lc k d:Nat}{lo:Option Addr}{O:Nat->Prop}{p:List Nat}{vo:Value}{ao:Option Addr}{c:Nat}{V1 V0 V5 V7:World}(hz:V0.heap.size=V1.heap.size)(h:Vis BO BL BY BU BV l n n0 lo lc O p vo V0)(e0:Ext V1 V0)(hT:Turn (fun b=>vo.ownBlock=some b) V0 V5)
  (hown:V5.ownsRow n0 3 1 (.slice ao (d+1) c) (p.length+1) (natV (p++[k]))) (hv:(Value.slice ao (d+1) c).ownBlock=vo.ownBlock\/∃ g,V0.heap.size<=g/\(Value.slice ao (d+1) c).ownBlock=some g) (hO:∀ b,O b->n0<=b/\b<V1.heap.size) (hB:VisB BO BL BY BU BV n0) (hn0:n0<=V1.heap.size) (hd:p.length=d)
  (h7:(V5.setCell ⟨BO,0,none⟩ (.slice ao (d+1) c)).setCell ⟨BU,0,none⟩ (.int .u64 (usedM n (p++[k]):Int))=V7):VisPush BO BL BY BU BV l n n0 lc lo O (p++[k]) vo V1 V7:=by
 obtain⟨h1,h2,h3⟩:=h.push hT hown hv (by rw [hz];exact hO) hB (by rw [hz];exact hn0) h7
 have hl:(p++[k]).length=d+1:=by rw [List.length_append,hd];rfl
 refine⟨ao,c,?_,e0.of.trans h2,h3,?_⟩
 ·rw [hl,<-hz];exact h1
 ·rw [hl,<-hz];exact hv
def VisPop(BO BL BY BU BV l n n0 lc:Nat)(lo:Option Addr)(O:Nat->Prop)(p:List Nat)(vo:Value)(V1 W:World):Prop:=
 ∃ ao c,Vis BO BL BY BU BV l n n0 lo lc O p (.slice ao p.length c) W/\Turn (fun b=>b=BO\/b=BU) V1 W/\W.heap.size=V1.heap.size/\(Value.slice ao p.length c).ownBlock=vo.ownBlock
theorem vis_popped{BO BL BY BU BV l n n0 lc k d g c:Nat}{lo:Option Addr}{O:Nat->Prop}{p:List Nat}{V1 V0 V7:World}(hz:V0.heap.size=V1.heap.size)(h:Vis BO BL BY BU BV l n n0 lo lc O (p++[k]) (.slice (some ⟨g,0,none⟩) (d+1) c) V0) (e0:Ext V1 V0) (hd:p.length=d) (hB:VisB BO BL BY BU BV n0)
  (h7:(V0.setCell ⟨BO,0,none⟩ (.slice (some ⟨g,0,none⟩) d c)).setCell ⟨BU,0,none⟩ (.int .u64 (usedM n p:Int))=V7):VisPop BO BL BY BU BV l n n0 lc lo O p (.slice (some ⟨g,0,none⟩) (d+1) c) V1 V7:=by
 subst hd
 obtain⟨h1,h2,h3⟩:=h.pop hB h7
 exact⟨_,c,h1,e0.of.trans h2,by rw [h3,hz],rfl⟩
def VisOut(BO BL BY BU BV l n n0 lc:Nat)(lo:Option Addr)(K O:Nat->Prop)(J Jx:(Nat->Prop)->List (List Nat)->World->Prop) (xs pre new:List (List Nat)) (p:List Nat) (vo:Value) (W:World) (b:Bool) (W':World):Prop:=
 ∃ O' ao c,Vis BO BL BY BU BV l n n0 lo lc O' p (.slice ao p.length c) W'/\(∀ b,O' b->n0<=b/\b<W'.heap.size)/\(∀ b,O b->O' b)/\Turn (VisT K O BO BU vo) W W'/\(∀ g,(Value.slice ao p.length c).ownBlock=some g->vo.ownBlock=some g\/W.heap.size<=g) /\
  (b=true->J O' (pre++new) W')/\(b=false->∃ pre1 x rest1,xs=pre1++x::rest1/\Jx O' (pre1++[x]) W')
def VisEnd(BO BL BY BU BV l n n0 lc:Nat)(lo:Option Addr)(K O:Nat->Prop)(J Jx:(Nat->Prop)->List (List Nat)->World->Prop) (xs pre new:List (List Nat)) (p:List Nat) (vo:Value) (W:World) (e:Ending) (W':World):Prop:=
 ∃ b,e=.returned (.bool b)/\VisOut BO BL BY BU BV l n n0 lc lo K O J Jx xs pre new p vo W b W'
section
variable {BO BL BY BU BV l n n0 lc M k d:Nat} {lo:Option Addr} {K O O0:Nat->Prop} {J Jx:(Nat->Prop)->List (List Nat)->World->Prop} {xs L:List (List Nat)} {p q:List Nat} {v0 v v7:Value} {w W0 W V1 V7 U0 U1:World}
theorem vis_mid(hKn:∀ b,K b->b<n0)(_hn0:n0<=W0.heap.size)(hv:Vis BO BL BY BU BV l n n0 lo lc O p v W)(hOB:∀ b,O b->n0<=b/\b<W.heap.size)
  (hT:Turn (VisT K O0 BO BU v0) W0 W) (hvb:∀ g,v.ownBlock=some g->v0.ownBlock=some g\/W0.heap.size<=g) (hTW:Turn (fun b=>¬ K b) w W) (hN1:Ext W V1)
  (hT7:Turn (fun b=>b=BO\/b=BU\/v.ownBlock=some b) V1 V7) (hE:Ext V7 U0):Turn (fun b=>¬ K b) w U0/\Turn (fun b=>¬ VisS K O0 BO BU v0 b) W0 U0:=by
 have hTU:Turn (fun b=>b=BO\/b=BU\/v.ownBlock=some b) W U0:=((hN1.of.trans hT7).trans hE.of)
 have hnk:∀ b,(b=BO\/b=BU\/v.ownBlock=some b)->n0<=b:=fun b h=>by
  rcases h with rfl | rfl | h
  ·exact(hOB _ hv.oO.1).1
  ·exact(hOB _ hv.oO.2.1).1
  ·exact(hOB b (hv.row b h).1).1
 refine⟨hTW.trans (hTU.mono fun b _ h hk=>?_),Turn.mono (hT.after hTU fun b hb h=>⟨fun hk=>?_,fun ho=>?_⟩) (fun b _ h=>visT_not h)⟩
 ·have:=hKn b hk;have:=hnk b h;omega
 ·have:=hKn b hk;have:=hnk b h;omega
 ·rcases h with rfl | rfl | h
  ·exact .inl rfl
  ·exact .inr (.inl rfl)
  ·rcases hvb b h with h | h
   ·exact .inr (.inr h)
   ·omega
theorem vis_after(hB:VisB BO BL BY BU BV n0)(hKn:∀ b,K b->b<n0)(hJ:∀ O O' pre A B,J O pre A->Turn O A B->(∀ b,O' b->(O b\/A.heap.size<=b)/\b<B.heap.size)->J O' pre B)
  (hOB0:∀ b,O0 b->n0<=b/\b<W0.heap.size) (hn0:n0<=W0.heap.size) (hv:Vis BO BL BY BU BV l n n0 lo lc O p v W) (hj:J O L W) (hOB:∀ b,O b->n0<=b/\b<W.heap.size) (hOO:∀ b,O0 b->O b)
  (hT:Turn (VisT K O0 BO BU v0) W0 W) (hvb:∀ g,v.ownBlock=some g->v0.ownBlock=some g\/W0.heap.size<=g) (hTW:Turn (fun b=>¬ K b) w W) (hN1:Ext W V1)
  (hv7:Vis BO BL BY BU BV l n n0 lo lc (fun b=>O b\/(V1.heap.size<=b/\b<V7.heap.size)) q v7 V7) (hT7:Turn (fun b=>b=BO\/b=BU\/v.ownBlock=some b) V1 V7) (hvb7:v7.ownBlock=v.ownBlock\/∃ g,V1.heap.size<=g/\v7.ownBlock=some g)
  (hOO0:O0 BO/\O0 BU) (hE:Ext V7 U0) {bo:Option Addr} {bc:Nat} {os2:List (Option Wd × List Value)} (hst:StRow U0.heap.size (fun g=>VisS K O0 BO BU v0 g\/U0.heap.size<=g) (.slice bo M bc) U1 M os2) (hN2:Ext U0 U1) :
  Vis BO BL BY BU BV l n n0 lo lc (fun b=>O b\/(W.heap.size<=b/\b<U1.heap.size)) q v7 U1/\J (fun b=>O b\/(W.heap.size<=b/\b<U1.heap.size)) L U1/\(∀ b,(O b\/(W.heap.size<=b/\b<U1.heap.size))->n0<=b/\b<U1.heap.size)/\Turn (fun b=>¬ K b) w U1/\Turn (VisT K O0 BO BU v0) W0 U1 /\
   KeptIn (VisS K (fun b=>O b\/(W.heap.size<=b/\b<U1.heap.size)) BO BU v7) (.slice bo M bc)/\KeptSt (VisS K (fun b=>O b\/(W.heap.size<=b/\b<U1.heap.size)) BO BU v7) os2:=by
 obtain⟨b1,b2,b3,b4,b5,b6,b7,b8,b9,b10⟩:=hB
 have hE7:Ext V7 U1:=hE.trans hN2
 have z1:=hN1.size
 have z2:=hT7.size
 have z3:=hE.size
 have z4:=hN2.size
 have z5:=hT.size
 have hTU:Turn (fun b=>b=BO\/b=BU\/v.ownBlock=some b) W U1:=((hN1.of.trans hT7).trans hE7.of)
 have hTO:Turn O W U1:=hTU.mono fun b _ h=>by
  rcases h with rfl | rfl | h
  ·exact hv.oO.1
  ·exact hv.oO.2.1
  ·exact(hv.row b h).1
 have hbo:∀ g,(Value.slice bo M bc).ownBlock=some g->U0.heap.size<=g/\g<U1.heap.size:=fun g hg=>hst.own.lt g hg
 have h7lt:∀ g,v7.ownBlock=some g->g<V7.heap.size:=fun g hg=>(hv7.own.lt g hg).2
 have hnew:∀ b,U0.heap.size<=b->b<U1.heap.size->VisS K (fun b=>O b\/(W.heap.size<=b/\b<U1.heap.size)) BO BU v7 b:=fun b h1 h2=>by
  have q1:=(hOB _ hv.oO.1).2
  have q2:=(hOB _ hv.oO.2.1).2
  refine .inr ⟨.inr ⟨by omega,h2⟩,by omega,by omega,fun e=>?_⟩
  have:=h7lt b e;omega
 have hold:∀ b,VisS K O0 BO BU v0 b->VisS K (fun b=>O b\/(W.heap.size<=b/\b<U1.heap.size)) BO BU v7 b:=fun b h=>by
  rcases h with h | ⟨h1,h2,h3,h4⟩
  ·exact .inl h
  ·have:=(hOB0 b h1).2
   refine .inr ⟨.inl (hOO b h1),h2,h3,fun e=>?_⟩
   rcases hvb7 with e7 | ⟨g,g1,g2⟩
   ·rw [e7] at e
    rcases hvb b e with e | e
    ·exact h4 e
    ·omega
   ·rw [g2] at e;cases e;omega
 refine⟨hv7.keep hE7 (fun _ h=>h.elim) (fun b h=>h.elim .inl (fun h=>.inr ⟨by omega,by omega⟩)),hJ O _ _ W U1 hj hTO (fun b h=>h.elim (fun h=>⟨.inl h,by have:=(hOB b h).2;omega⟩) (fun h=>⟨.inr h.1,h.2⟩)),fun b h=>h.elim (fun h=>⟨(hOB b h).1,by have:=(hOB b h).2;omega⟩) (fun h=>⟨by omega,h.2⟩),?_,?_,?_,?_⟩
 ·refine hTW.trans (hTO.mono fun b _ h hk=>?_)
  have:=hKn b hk;have:=(hOB b h).1;omega
 ·refine hT.after hTU fun b hb h=>⟨fun hk=>?_,fun ho=>?_⟩
  ·have:=hKn b hk
   rcases h with rfl | rfl | h
   ·omega
   ·omega
   ·have:=(hOB b (hv.row b h).1).1;omega
  ·rcases h with rfl | rfl | h
   ·exact .inl rfl
   ·exact .inr (.inl rfl)
   ·rcases hvb b h with h | h
    ·exact .inr (.inr h)
    ·omega
 ·intro g o m c e h0
  cases e
  obtain⟨h1,h2⟩:=hbo g (by
   obtain⟨g',hg'⟩:=own_addr (n:=M - 1) (cap:=bc) (by rw [show M - 1+1=M by omega];exact hst.own)
   cases hg';rfl)
  exact hnew g h1 h2
 ·intro p' hp' u hu v' x e g o m c e1 h0
  have h1:=(hst.kept p' hp' u hu v' x e g o m c e1 h0).1
  obtain⟨ao',n',c',q1,q2⟩:=hst.ok p' hp'
  have h2:g<U1.heap.size:=by
   rw [e] at q1
   cases q1
   exact one_low (q2 u hu) g o m c e1 h0
  rcases h1 with h1 | h1
  ·exact hold g h1
  ·exact hnew g h1 h2
theorem vis_back{b:Bool}{U2 Z7:World}{O':Nat->Prop}{a7:Option Addr}{c7:Nat}{new:List (List Nat)} (hB:VisB BO BL BY BU BV n0) (hKn:∀ b,K b->b<n0)
  (hJ:∀ O O' pre A B,J O pre A->Turn O A B->(∀ b,O' b->(O b\/A.heap.size<=b)/\b<B.heap.size)->J O' pre B) (hJx:∀ O O' pre A B,Jx O pre A->Turn O A B->(∀ b,O' b->(O b\/A.heap.size<=b)/\b<B.heap.size)->Jx O' pre B)
  (hOO:∀ b,O0 b->O b) (_hOB0:∀ b,O0 b->n0<=b/\b<W0.heap.size) (hT9:Turn (VisT K O0 BO BU v0) W0 U1) (hvb:∀ g,v.ownBlock=some g->v0.ownBlock=some g\/W0.heap.size<=g) (hvb7:v7.ownBlock=v.ownBlock\/∃ g,W0.heap.size<=g/\v7.ownBlock=some g)
  (hO9:∀ b,O b->O' b) (hTv:Turn (VisT K O BO BU v7) U1 U2) (hOB':∀ b,O' b->n0<=b/\b<U2.heap.size) (hvb9:∀ g,(Value.slice a7 (d+1) c7).ownBlock=some g->v7.ownBlock=some g\/U1.heap.size<=g)
  (hj:b=true->J O' (L++new) U2) (hjx:b=false->∃ pre1 x rest1,xs=pre1++x::rest1/\Jx O' (pre1++[x]) U2) (_hd:p.length=d)
  (hp:VisPop BO BL BY BU BV l n n0 lc lo O' p (.slice a7 (d+1) c7) U2 Z7):VisOut BO BL BY BU BV l n n0 lc lo K O0 J Jx xs L new p v0 W0 b Z7:=by
 obtain⟨b1,b2,b3,b4,b5,b6,b7,b8,b9,b10⟩:=hB
 obtain⟨ao,c,h1,h2,h3,h4⟩:=hp
 have hT1:Turn O' U2 Z7:=h2.mono fun b _ h=>by
  rcases h with rfl | rfl
  ·exact h1.oO.1
  ·exact h1.oO.2.1
 have hb':∀ b,O' b->(O' b\/U2.heap.size<=b)/\b<Z7.heap.size:=fun b h=>⟨.inl h,by rw [h3];exact(hOB' b h).2⟩
 have z9:=hT9.size
 refine⟨O',ao,c,h1,fun b h=>⟨(hOB' b h).1,by rw [h3];exact(hOB' b h).2⟩,fun b h=>hO9 b (hOO b h),?_,fun g hg=>?_,fun e=>hJ _ _ _ _ _ (hj e) hT1 hb',fun e=>?_⟩
 ·refine(hT9.after hTv fun b hb h=>⟨h.1,fun ho=>?_⟩).after h2 fun b hb h=>⟨fun hk=>?_,fun ho=>?_⟩
  ·rcases h.2 (hOO b ho) with h | h | h
   ·exact .inl h
   ·exact .inr (.inl h)
   ·rcases hvb7 with e | ⟨g,g1,g2⟩
    ·rw [e] at h
     rcases hvb b h with h | h
     ·exact .inr (.inr h)
     ·omega
    ·rw [g2] at h;cases h;omega
  ·have:=hKn b hk
   rcases h with rfl | rfl <;> omega
  ·rcases h with rfl | rfl
   ·exact .inl rfl
   ·exact .inr (.inl rfl)
 ·rw [h4] at hg
  rcases hvb9 g hg with h | h
  ·rcases hvb7 with e | ⟨g',g1,g2⟩
   ·rw [e] at h;exact hvb g h
   ·rw [g2] at h;cases h;exact .inr g1
  ·exact .inr (by omega)
 ·obtain⟨pre1,x,rest1,q1,q2⟩:=hjx e
  exact⟨pre1,x,rest1,q1,hJx _ _ _ _ _ q2 hT1 hb'⟩
end
def OrdE(M:Nat)(LD:List LawD)(T0:List (Option Wd)) (x:List Nat) (A:World) (ys:Array Value):Prop:=∃ vo vc so sc,ys=#[.slice vo x.length vc,.slice so M sc]/\Rd A (.slice vo x.length vc) x.length 1 (natV x)/\NowAt A (.slice so M sc) M (T0.map (runO LD x))
theorem shr_bit6(v y:Nat)(hv:v<18446744073709551616):(bits .and .u64 ((v:Int) / 2 ^ y) 1 == 1)=v.testBit y:=by
 have e:((v:Int) / 2 ^ y)=((v / 2 ^ y:Nat):Int):=by simp
 have h1:v / 2 ^ y<=v:=Nat.div_le_self _ _
 have e1:(1:Int)=((1:Nat):Int):=rfl
 rw [e,e1,u64_and_nat _ _ (by omega) (by decide),Nat.and_one_is_mod,Nat.testBit_eq_decide_div_mod_eq]
 by_cases h:v / 2 ^ y % 2=1
 ·rw [h];simp
 ·have:v / 2 ^ y % 2=0:=by omega
  rw [this];simp
theorem andn_back:∀ u<64,∀ k<6,u.testBit k=false->bits .andNot .u64 ((u ||| 2 ^ k:Nat):Int) (IntKind.u64.wrap (2 ^ k))=(u:Int):=by decide
end Go.Proofs.YtfdlhlghcbeblaaGreatDoor
