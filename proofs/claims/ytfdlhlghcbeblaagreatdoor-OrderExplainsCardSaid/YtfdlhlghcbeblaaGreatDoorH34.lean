/- Where order.explaining stands: the orders that explain all pairs. A region that draws its order in a round's frame, with a call of an outer yield among its late operations (these are walked in the fenced calculus, the early ones in the plain one). No program is named. order.explaining: its iterator, and its maker. order.Explain. -/
import Derived.Test.YtfdlhlghcbeblaaGreatDoorH33
import Derived.Test.YtfdlhlghcbeblaaGreatDoorH13
import Derived.Test.YtfdlhlghcbeblaaGreatDoorH10
import Derived.Test.YtfdlhlghcbeblaaGreatDoorH30
import Derived.Test.YtfdlhlghcbeblaaGreatDoorH31
import Derived.Test.YtfdlhlghcbeblaaGreatDoorH17
namespace Go.Proofs.YtfdlhlghcbeblaaGreatDoor
open Go.RowKit Go.Ab
def fitsA(LD:List LawD)(qs:PairsL)(x:List Nat):Bool:=(fitL LD x qs).all id
def explL(LD:List LawD)(qs:PairsL)(n:Nat):List (List Nat):=(permsF n (List.range n)).filter (fitsA LD qs)
def ExplE(n:Nat)(O:Nat->Prop)(x:List Nat)(A:World)(ys:Array Value):Prop:=∃ vo vc,ys=#[.slice vo x.length vc]/\A.ownsRow n 3 1 (.slice vo x.length vc) x.length (natV x)/\∀ g,(Value.slice vo x.length vc).ownBlock=some g->¬ O g
def ExO(N D:Nat)(O:Nat->Prop)(b:Nat):Prop:=O b\/(N<=b/\b<D+2)
def ExNow(K:Nat->Prop)(J:(Nat->Prop)->List (List Nat)->World->Prop) (LD:List LawD) (qs:PairsL) (w:World) (N D l:Nat) (O:Nat->Prop) (pre:List (List Nat)) (V:World):Prop:=
 J (ExO N D O) (pre.filter (fitsA LD qs)) V/\Turn (fun b=>¬ K b) w V/\V.heap[N]?=some (.cells #[.func (.yield l) #[] #[]] 233 (0,0))/\D+2<=V.heap.size
def ExEnd(Jx:(Nat->Prop)->List (List Nat)->World->Prop) (L:List (List Nat)) (N D:Nat) (O:Nat->Prop) (V:World):Prop:=
 (∃ pre1 x rest,L=pre1++x::rest/\Jx (ExO N D O) (pre1++[x]) V)/\D+2<=V.heap.size/\∀ b,O b->b<V.heap.size
section
variable {K:Nat->Prop} {J Jx:(Nat->Prop)->List (List Nat)->World->Prop} {LD:List LawD} {qs:PairsL} {w A B:World} {N D l:Nat} {O O':Nat->Prop} {pre L:List (List Nat)}
theorem exO_next(_hO:∀ b,O b->D+2<=b/\b<A.heap.size)(hs:D+2<=A.heap.size)(hB:A.heap.size<=B.heap.size)(hO':∀ b,O' b->(O b\/A.heap.size<=b)/\b<B.heap.size):∀ b,ExO N D O' b->(ExO N D O b\/A.heap.size<=b)/\b<B.heap.size:=fun b h=>by
 rcases h with h | h
 ·obtain⟨h1,h2⟩:=hO' b h
  exact⟨h1.imp .inl id,h2⟩
 ·exact⟨.inl (.inr h),by omega⟩
theorem ExNow.step(hJ:∀ O O' pre A B,J O pre A->Turn O A B->(∀ b,O' b->(O b\/A.heap.size<=b)/\b<B.heap.size)->J O' pre B) (hK:∀ b,K b->b<N) (hND:N<D) (h:ExNow K J LD qs w N D l O pre A) (hO:∀ b,O b->D+2<=b/\b<A.heap.size)
  (ht:Turn (fun b=>O b\/b=D+1) A B) (hO':∀ b,O' b->(O b\/A.heap.size<=b)/\b<B.heap.size):ExNow K J LD qs w N D l O' pre B:=by
 obtain⟨h1,h2,h3,h4⟩:=h
 have hz:=ht.size
 refine⟨hJ _ _ _ _ _ h1 (ht.mono fun b _ h=>h.elim .inl (fun e=>.inr (by omega))) (exO_next hO h4 hz hO'),h2.trans (ht.mono fun b _ h hk=>?_),ht.heap h3 (fun h=>?_),by omega⟩
 ·have:=hK b hk
  rcases h with h | h
  ·have:=(hO b h).1;omega
  ·omega
 ·rcases h with h | h
  ·have:=(hO _ h).1;omega
  ·omega
theorem ExEnd.step(hJx:∀ O O' pre A B,Jx O pre A->Turn O A B->(∀ b,O' b->(O b\/A.heap.size<=b)/\b<B.heap.size)->Jx O' pre B) (hND:N<D) (h:ExEnd Jx L N D O A) (hO:∀ b,O b->D+2<=b/\b<A.heap.size)
  (ht:Turn (fun b=>O b\/b=D+1) A B) (hO':∀ b,O' b->(O b\/A.heap.size<=b)/\b<B.heap.size):ExEnd Jx L N D O' B:=by
 obtain⟨⟨pre1,x,rest,h1,h2⟩,h4,h5⟩:=h
 have hz:=ht.size
 exact⟨⟨pre1,x,rest,h1,hJx _ _ _ _ _ h2 (ht.mono fun b _ h=>h.elim .inl (fun e=>.inr (by omega))) (exO_next hO h4 hz hO')⟩,by omega,fun b h=>(hO' b h).2⟩
end
theorem rd_apart{A B:World}{v:Value}{n sz r:Nat}{xs:List Value}(h:Rd A v n sz xs)(hz:0<sz)(ht:Turn (fun b=>b=r) A B) (hr:∃ o,A.heap[r]?=some o/\o.isCells=false):Rd B v n sz xs:=by
 obtain⟨h1,h2,ao,cap,rfl,h3⟩:=h
 refine⟨h1,h2,ao,cap,rfl,fun hn=>?_⟩
 obtain⟨g,off,rfl,hg,hc⟩:=h3 hn
 have hne:¬ g=r:=by
  rintro rfl
  obtain⟨o,q1,q2⟩:=hr
  obtain⟨o',q3,q4⟩:=cell_cells (hc 0 (Nat.mul_pos hn hz))
  simp only at q3
  rw [q1] at q3;cases q3
  rw [q2] at q4;cases q4
 exact⟨g,off,rfl,Nat.lt_of_lt_of_le hg ht.size,fun j hj=>ht.cell_some (hc j hj) hne⟩
theorem now_apart{A B:World}{v:Value}{m r:Nat}{T:List (Option Wd)} (h:NowAt A v m T) (ht:Turn (fun b=>b=r) A B) (hr:∃ o,A.heap[r]?=some o/\o.isCells=false):NowAt B v m T:=by
 obtain⟨os,h1,h2,h3⟩:=h
 refine⟨os,⟨rd_apart h1.1 (by decide) ht hr,fun p hp=>⟨(h1.2 p hp).1,?_⟩⟩,h2,h3⟩
 obtain⟨ao,n,c,q1,q2⟩:=(h1.2 p hp).2
 refine⟨ao,n,c,q1,fun u hu=>?_⟩
 obtain⟨ao',c',e,hw,hc⟩:=q2 u hu
 exact⟨ao',c',e,⟨rd_apart hw.1 (by decide) ht hr,hw.2⟩,hc⟩
theorem ordE_apart{A B:World}{M r:Nat}{LD:List LawD}{T0:List (Option Wd)} {x:List Nat} {ys:Array Value} (h:OrdE M LD T0 x A ys) (ht:Turn (fun b=>b=r) A B) (hr:∃ o,A.heap[r]?=some o/\o.isCells=false):OrdE M LD T0 x B ys:=by
 obtain⟨vo,vc,so,sc,rfl,h1,h2⟩:=h
 exact⟨vo,vc,so,sc,rfl,rd_apart h1 (by decide) ht hr,now_apart h2 ht hr⟩
def allTo(l:List Bool)(k:Nat):Prop:=∀ x∈l.take k,x=true
theorem allTo_succ{l:List Bool}{k:Nat}(hk:k<l.length)(h:allTo l k)(h1:l[k]=true):allTo l (k+1):=by
 intro x hx
 rw [List.take_succ_eq_append_getElem hk] at hx
 rcases List.mem_append.1 hx with hx | hx
 ·exact h x hx
 ·rw [List.mem_singleton] at hx;rw [hx];exact h1
theorem allTo_all{l:List Bool}{k:Nat}(hk:l.length<=k)(h:allTo l k):l.all id=true:=by
 rw [List.all_eq_true]
 intro x hx
 rw [show l=l.take k by rw [List.take_of_length_le hk]] at hx
 exact h x hx
theorem allTo_not{l:List Bool}{k:Nat}(hk:k<l.length)(h1:l[k]=false):l.all id=false:=by
 rw [List.all_eq_false]
 exact⟨l[k],List.getElem_mem hk,by rw [h1];decide⟩
end Go.Proofs.YtfdlhlghcbeblaaGreatDoor
namespace Go.Ab
open Go.RowKit
section
variable {l n:Nat} {P:Program} {ops:Array Oper} {Q:Exit->Act->World->Prop} {md:Region.Mode} {S:World->Prop} {Lt:List Nat}
def wpAnyM(l n:Nat)(P:Program)(md:Region.Mode)(ops:Array Oper)(Q:Exit->Act->World->Prop)(S:World->Prop)(Lt:List Nat):Nat->Array Bool->Act->World->Prop
 | 0,listed,a,w=>Region.ready md ops listed=[]/\Q .normal a w
 | fuel+1,listed,a,w=>
  (Region.ready md ops listed=[]->Q .normal a w) /\
  ∀ i∈Region.ready md ops listed,if Lt.contains i=true then wpOpIn (Fence.wide.inRound l) n P ops Q i (wpAnyM l n P md ops Q S Lt fuel (listed.setIfInBounds i true)) a w
   else wpOp P ops Q i (fun a' w'=>S w'/\wpAnyM l n P md ops Q S Lt fuel (listed.setIfInBounds i true) a' w') a w
theorem wpAnyIn_of_M(hd:noDefer ops=true)(hQ:¬ LetsOut Q):∀(fuel:Nat) (listed:Array Bool) (a:Act) (w:World),wpAnyM l n P md ops Q S Lt fuel listed a w->wpAnyIn (Fence.wide.inRound l) n P md ops Q fuel listed a w
 | 0,_,_,_,h=>h
 | fuel+1,_,_,_,h=>⟨h.1,fun i hi=>by
  have h2:=h.2 i hi
  by_cases hl:Lt.contains i=true
  ·rw [if_pos hl] at h2
   exact wpOpIn_mono (fun a w h=>wpAnyIn_of_M hd hQ fuel _ a w h) h2
  ·rw [if_neg hl] at h2
   exact wpOp_bridge hd hQ (fun a w h=>wpAnyIn_of_M hd hQ fuel _ a w h.2) h2⟩
theorem wpAnyM_first{i:Nat}{oi:Oper}{v:Value}(hi:ops[i]?=some oi)(hil:Lt.contains i=false)(hsel:∀(j:Nat) (o:Oper) cs b,ops[j]?=some o->o.op≠.select cs b)
  (hQ:∀ c a w,Q (.panic c) (a.put oi.dst v) w->Q (.panic c) a w) (hlate:∀ j,Lt.contains j=true->waits md ops i ops.size j=true) :
  ∀(fuel:Nat) (listed:Array Bool) (a:Act) (w:World),Closed md ops listed ->
   (∀ j oj,ops[j]?=some oj->j≠i->listed.getD j true=false->(∀ e∈oj.after,Region.binds md e=true->e.on≠i)->oi.apart ops oj=true) ->
   i∈Region.ready md ops listed->YieldsIf P ops S oi v a->S w ->
   wpAnyM l n P md ops Q S Lt fuel (listed.setIfInBounds i true) (a.put oi.dst v) w->wpAnyM l n P md ops Q S Lt (fuel+1) listed a w:=by
 have hin:¬ Lt.contains i=true:=by rw [hil];decide
 intro fuel
 induction fuel with
 | zero=>
  intro listed a w _ _ hr hy hS H
  refine⟨fun h=>(by rw [h] at hr;cases hr),fun j hj=>?_⟩
  by_cases hji:j=i
  ·subst hji;rw [if_neg hin];exact hy.wpOp hi hS ⟨hS,H⟩
  ·have:=ready_mono hj hji
   rw [H.1] at this
   cases this
 | succ fuel ih=>
  intro listed a w hcl hfree hr hy hS H
  refine⟨fun h=>(by rw [h] at hr;cases hr),fun j hj=>?_⟩
  by_cases hji:j=i
  ·subst hji;rw [if_neg hin];exact hy.wpOp hi hS ⟨hS,H⟩
  ·have h1:=H.2 j (ready_mono hj hji)
   have hiun:listed.getD i false=false:=by
    have h0:=(mem_ready.1 hr).1
    rcases Nat.lt_or_ge i listed.size with h' | h'
    ·simp [h'] at h0 ⊢;exact h0
    ·simp [Array.getElem?_eq_none h']
   have hearly:Lt.contains j=false:=by
    cases hl:Lt.contains j with
    | false=>rfl
    | true=>exact absurd hj (waits_not hcl hiun _ _ (hlate j hl)).2
   have hjn:¬ Lt.contains j=true:=by rw [hearly];decide
   rw [if_neg hjn] at h1 ⊢
   obtain⟨hjun,oj,hoj,hall⟩:=mem_ready.1 hj
   have hnot:∀ e∈oj.after,Region.binds md e=true->e.on≠i:=fun e he hb heq=>by
    have h1:=hall e he hb
    rw [heq,hiun] at h1;cases h1
   have h2:=wpOp_putIf hoj (hfree j oj hoj hji hjun hnot) (fun cs b=>hsel i oi cs b hi) (fun cs b=>hsel j oj cs b hoj) hQ hy h1
   have hfree':∀ k ok,ops[k]?=some ok->k≠i->(listed.setIfInBounds j true).getD k true=false ->
     (∀ e∈ok.after,Region.binds md e=true->e.on≠i)->oi.apart ops ok=true:=fun k ok hk hki hun hno=>by
    refine hfree k ok hk hki ?_ hno
    by_cases hjk:j=k
    ·subst hjk;exact hjun
    ·rw [getD_set_ne true hjk] at hun;exact hun
   refine wpOp_mono (fun a' w' h3=>⟨h3.2.1,ih (listed.setIfInBounds j true) a' w' (hcl.step hj) hfree' (ready_mono hr (Ne.symm hji)) h3.1 h3.2.1 ?_⟩) h2
   rw [Array.setIfInBounds_comm _ _ hji]
   exact h3.2.2
theorem wpAnyM_take{i:Nat}{oi:Oper}{v:Value}{fuel:Nat}{listed:Array Bool}{a:Act}{w:World}(hi:ops[i]?=some oi)(hil:Lt.contains i=false)
  (hs:Region.noSelect ops=true) (hf:Region.free md ops listed i=true) (hr:(Region.ready md ops listed).contains i=true) (hc:closedB md ops listed=true) (hl:(Lt.all fun j=>waits md ops i ops.size j)=true)
  (hQ:∀ c a w,Q (.panic c) (a.put oi.dst v) w->Q (.panic c) a w) (hy:YieldsIf P ops S oi v a) (hS:S w)
  (h:wpAnyM l n P md ops Q S Lt fuel (listed.setIfInBounds i true) (a.put oi.dst v) w):wpAnyM l n P md ops Q S Lt (fuel+1) listed a w:=
 wpAnyM_first hi hil (Region.noSelect_spec hs) hQ (fun j hj=>List.all_eq_true.1 hl j (by simpa using hj)) fuel listed a w (closedB_spec hc) (Region.free_spec hi hf) (by simpa using hr) hy hS h
def AllReadyM(l n:Nat)(P:Program)(md:Region.Mode)(ops:Array Oper)(Q:Exit->Act->World->Prop)(S:World->Prop)(Lt:List Nat)(fuel:Nat)(listed:Array Bool)(a:Act)(w:World)(rs:List Nat):Prop:=
 ∀ i∈rs,if Lt.contains i=true then wpOpIn (Fence.wide.inRound l) n P ops Q i (wpAnyM l n P md ops Q S Lt fuel (listed.setIfInBounds i true)) a w
   else wpOp P ops Q i (fun a' w'=>S w'/\wpAnyM l n P md ops Q S Lt fuel (listed.setIfInBounds i true) a' w') a w
theorem AllReadyM.nil{fuel:Nat}{listed:Array Bool}{a:Act}{w:World}:AllReadyM l n P md ops Q S Lt fuel listed a w []:=fun _ h=>by cases h
theorem AllReadyM.cons{fuel:Nat}{listed:Array Bool}{a:Act}{w:World}{i:Nat}{o:Oper}{rs:List Nat}(ho:ops[i]?=some o)(hl:Lt.contains i=false)
  (h:∀ K':Act->World->Prop,Go.Shut (∀ a w,S w->(S w->wpAnyM l n P md ops Q S Lt fuel (listed.setIfInBounds i true) a w)->K' a w)->if Region.wanted o (yielded ops a.tmps)=true then Oper.wp P o a w K' Q else K' (a.put o.dst undef) w)
  (hs:AllReadyM l n P md ops Q S Lt fuel listed a w rs):AllReadyM l n P md ops Q S Lt fuel listed a w (i::rs):=fun j hj=>by
 rcases List.mem_cons.1 hj with rfl | hj
 ·rw [if_neg (by rw [hl];decide)]
  exact wpOp_step ho (fun K' hK=>h K' (fun a w hS hW=>hK a w ⟨hS,hW hS⟩))
 ·exact hs j hj
theorem AllReadyM.late{fuel:Nat}{listed:Array Bool}{a:Act}{w:World}{i:Nat}{o:Oper}{rs:List Nat}(ho:ops[i]?=some o)(hl:Lt.contains i=true)
  (h:∀ K':Act->World->Prop,Go.Shut (∀ a w,wpAnyM l n P md ops Q S Lt fuel (listed.setIfInBounds i true) a w->K' a w)->if Region.wanted o (yielded ops a.tmps)=true then Oper.wpIn (Fence.wide.inRound l) n P o a w K' Q else(∀ f,o.about P w a.eval=some f->(Fence.wide.inRound l).fn f)/\K' (a.put o.dst undef) w)
  (hs:AllReadyM l n P md ops Q S Lt fuel listed a w rs):AllReadyM l n P md ops Q S Lt fuel listed a w (i::rs):=fun j hj=>by
 rcases List.mem_cons.1 hj with rfl | hj
 ·rw [if_pos hl]
  exact wpOpIn_step ho (fun K' hK=>h K' hK)
 ·exact hs j hj
theorem wpAnyM_ready{rs:List Nat}{fuel:Nat}{listed:Array Bool}{a:Act}{w:World}(hr:Region.ready md ops listed=rs)(hne:rs≠[])
  (h:AllReadyM l n P md ops Q S Lt fuel listed a w rs):wpAnyM l n P md ops Q S Lt (fuel+1) listed a w:=⟨fun h0=>absurd (hr ▸ h0) hne,hr ▸ h⟩
theorem wpAnyM_done{listed:Array Bool}{a:Act}{w:World}(hr:Region.ready md ops listed=[])(h:Q .normal a w) :
  ∀ fuel,wpAnyM l n P md ops Q S Lt fuel listed a w
 | 0=>⟨hr,h⟩
 | _+1=>⟨fun _=>h,by rw [hr];simp⟩
theorem wpIn_region_lateM{id:Nat}{a:Act}{w:World}(Lt:List Nat)(hm:P.follows .mixedOrders=true)(hd:noDefer ops=true)(hQ:¬ LetsOut Q)(hS:S w.drew)
  (h:S w.drew->wpAnyM l n P .any ops Q S Lt ops.size (Array.replicate ops.size false) a w.drew):(Code.region id ops true).wpIn (Fence.wide.inRound l) n P Q a w:=
 wpIn_region_any hm (wpAnyIn_of_M hd hQ _ _ _ _ (h hS))
end
end Go.Ab
set_option maxRecDepth 100000
set_option maxHeartbeats 32000000
namespace Go.Proofs.YtfdlhlghcbeblaaGreatDoor
open Go.RowKit Go.Ab
attribute [local go_sem] Oper.semAt_some wide_fn wide_depth
theorem expl_iter{w0 w:World}{BL BP n M lc pc:Nat}{lo po:Option Addr}{ps:LawsL}{qs:PairsL}(hE0:Ext w0 w)(hl:LawsAt w0 (.slice lo n lc) ps) (hn:ps.length=n) (hn6:n<=6) (hp:PairsAt w0 (.slice po M pc) qs) (hM:qs.length=M) (hMb:M<=1000) (hT:Tab w0)
  (hbl:w.heap[BL]?=some (.cells #[.slice lo n lc] 26 (0,0))) (hbp:w.heap[BP]?=some (.cells #[.slice po M pc] 61 (0,0))) :
  IterO Tryz.prog 140 #[.pointer (some ⟨BL,0,none⟩),.pointer (some ⟨BP,0,none⟩)] (fun _ _=>True) ExplE (explL (ps.map (·.1)) qs n) (fun b=>b<w0.heap.size\/b=BL\/b=BP) w:=by
 intro l J Jx W ht hJ0 hJx0 hY h0
 have hblt:=(Array.getElem?_eq_some_iff.1 hbl).1
 have hbpt:=(Array.getElem?_eq_some_iff.1 hbp).1
 have hw0s:=hE0.size
 have hws:=ht.size
 obtain⟨N,hN⟩:∃ N,W.heap.size=N:=⟨_,rfl⟩
 obtain⟨K,hKdef⟩:∃ K:Nat->Prop,(fun b=>b<w0.heap.size\/b=BL\/b=BP)=K:=⟨_,rfl⟩
 have hK:∀ b,K b->b<N:=fun b hb=>by rw [<-hKdef] at hb;rcases hb with h | rfl | rfl <;> omega
 have hKw:∀ b,b<w0.heap.size->K b:=fun b hb=>by rw [<-hKdef];exact .inl hb
 have hKP:K BP:=by rw [<-hKdef];exact .inr (.inr rfl)
 have hst:∀ V,Turn (fun b=>¬ K b) w V->Ext w0 V:=fun V hV=>Turn.after hE0 hV (fun b hb e=>e (hKw b hb))
 have hJ:∀ O O' pre A B,J O pre A->Turn O A B->(∀ b,O' b->(O b\/A.heap.size<=b)/\b<B.heap.size)->J O' pre B:=fun O O' pre A B h1 h2 h3=>hJ0 O O' pre A B h1 (h2.mono fun b _ h=>⟨h,trivial⟩) h3
 have hJx:∀ O O' pre A B,Jx O pre A->Turn O A B->(∀ b,O' b->(O b\/A.heap.size<=b)/\b<B.heap.size)->Jx O' pre B:=fun O O' pre A B h1 h2 h3=>hJx0 O O' pre A B h1 (h2.mono fun b _ h=>⟨h,trivial⟩) h3
 have hbl1:=ht.heap hbl (fun h=>h (.inr (.inl rfl)))
 have hbp1:=ht.heap hbp (fun h=>h (.inr (.inr rfl)))
 rw [hKdef] at ht hY
 have hEW:=hst W ht
 obtain⟨LD,hLD⟩:∃ x,ps.map (·.1)=x:=⟨_,rfl⟩
 have hex:=fun(V:World) (ht:Turn (fun b=>¬ K b) w V) (so:Option Addr) (sc:Nat) (os:List (Option Wd × List Value)) (h1:StatesAt V (.slice so M sc) os) (h2:os.length=M)=>explained_any h1 h2 (pairs_ext hp (hst V ht)) hM hMb
 have hit:=fun(V:World) (B1 B2:Nat) (ht:Ext w0 V) (h1:V.heap[B1]?=_) (h2:V.heap[B2]?=_)=>orders_iter ht hl hn hn6 hp hM hMb hT h1 h2
 rw [hLD] at hY ⊢
 simp only [hLD] at hit
 have HEX:=Lib.hid hex;have HIT:=Lib.hid hit
 have HY:=Lib.hid hY;have HJ:=Lib.hid hJ;have HJX:=Lib.hid hJx;have HS:=Lib.hid hst;have HEW:=Lib.hid hEW;have HK:=Lib.hid hK;have H0:=Lib.hid h0;have HBL:=Lib.hid hbl1;have HBP:=Lib.hid hbp1;have HKP:=Lib.hid hKP;have HBPW:=Lib.hid hbp;have HKW:=Lib.hid hKw;have HTW:=Lib.hid ht;have HN:=Lib.hid hN;have HM:=Lib.hid hM
 clear hY hJ hJx hst hEW hK h0 hbl1 hbp1 hJ0 hJx0 hE0 hl hn hp hM hT hbl hbp ht hblt hbpt hw0s hws hKdef hKP hKw hex hit hN hLD
 show Calls _ _ #[.func (.yield l) #[] #[],.pointer (some ⟨BL,0,none⟩),.pointer (some ⟨BP,0,none⟩)] _ _
 refine calls_of_wp_marks Tryz.func140 rfl ?_
 simp only [Tryz.ntmps140,List.size_toArray,List.length_cons,List.length_nil,Nat.reduceAdd,Nat.reduceSub,Array.replicate_succ,Array.replicate_zero,List.push_toArray,List.append_toArray,List.nil_append,List.cons_append]
 go_wp2
 refine wp_scope_straight ?_
 obtain⟨V1,hV1⟩:∃ D,W.alloc (.cells #[.func (.yield l) #[] #[]] 233)=D:=⟨_,rfl⟩
 have hE1:Ext W V1:=by rw [<-hV1];exact(Turn.refl _ W).alloc _
 have hz1:V1.heap.size=N+1:=by rw [<-hV1,World.size_alloc,HN.out]
 have hcY:V1.heap[N]?=some (.cells #[.func (.yield l) #[] #[]] 233 (0,0)):=by rw [<-hV1];exact new_at HN.out.symm
 rw [HN.out,hV1]
 clear hV1
 have hbl:=hE1.keep HBL.out
 have hbp:=hE1.keep HBP.out
 have HE1:=Lib.hid hE1;have HZ1:=Lib.hid hz1;have HCY:=Lib.hid hcY
 have cL:=cell_of_one hbl
 have cP:=cell_of_one hbp
 clear hE1 hz1 hcY hbl hbp
 go_wp2
 refine wp_label ?_
 go_wp2_with fail
 refine(orders_any _ _ _ _ _ _ _).mono ?_
 rintro e w2 ⟨rfl,hb1,hb2,hE2,hs2⟩
 rw [HZ1.out] at hb1 hb2 hs2
 rw [HZ1.out]
 have hE2':=HE1.out.trans hE2
 have hcY2:=hE2.keep HCY.out
 have hit:=HIT.out w2 (N+1) (N+1+1) (HEW.out.trans hE2') hb1 hb2
 have HE2:=Lib.hid hE2';have HS2:=Lib.hid hs2;have HC2:=Lib.hid hcY2;have HITT:=Lib.hid hit
 clear hE2 hE2' hs2 hcY2 hb1 hb2 hit cL cP HIT HE1 HCY HBL
 go_wp2
 refine wp_rangeO (xs:=permsF n (List.range n)) (K:=fun b=>b<w0.heap.size\/b=N+1\/b=N+1+1) rfl (fun args w=>by simp [go_sem]) HITT.out (fun b h=>by have:=HS2.out;have:=HK.out;rcases h with h | h | h <;> first | omega | (have:=this b (HKW.out b h);omega)) (fun _ _ x A ys h=>by obtain⟨_,_,_,_,rfl,_⟩:=h;rfl) ?hEs
  (ExNow K J LD qs w N w2.heap.size l) (fun c O pre V=>c=.ret/\ExEnd Jx (explL LD qs n) N w2.heap.size O V) ?hI ?hIx ?h0 (fun ys t=>(((t.setIfInBounds 11 (ys.getD 0 undef)).setIfInBounds 12 (ys.getD 1 undef)).setIfInBounds 4 (ys.getD 0 undef)).setIfInBounds 5 (ys.getD 1 undef)) ?assign ?body ?done ?stop
 case hEs=>exact fun _ _ _ _ _ _ h ht hr=>ordE_apart h ht hr
 case hI=>
  rintro O O' pre A B h hO ht hO'
  exact h.step HJ.out HK.out (by rw [HS2.out];omega) hO (ht.mono fun b _ h=>h.imp (fun q=>q.1) id) hO'
 case hIx=>
  rintro c O O' pre A B ⟨rfl,h⟩ hO ht hO'
  exact⟨rfl,h.step HJX.out (by rw [HS2.out];omega) hO (ht.mono fun b _ h=>h.imp (fun q=>q.1) id) hO'⟩
 case h0=>
  intro V hV hs
  have hWV:Ext W V:=HE2.out.trans hV
  refine⟨HJ.out _ _ _ _ _ H0.out hWV.of (fun b hb=>?_),HTW.out.trans hWV.of,hV.keep HC2.out,by omega⟩
  rcases hb with h | h
  ·exact h.elim
  ·exact⟨.inr (by rw [HN.out];omega),by omega⟩
 case assign=>
  rintro _ _ x ys V Kn ⟨vo,vc,so,sc,rfl,_⟩ hK
  gi_wp2
  exact hK
 case done=>
  rintro O V ⟨hj,hT,hcy,hz⟩ hO ht hD
  have HJV:=Lib.hid hj;have HDD:=Lib.hid hD;have HZ:=Lib.hid hz;have HO:=Lib.hid hO
  clear hj hT hcy hz hO ht hD
  go_wp2
  refine leaves1 HDD.out (results_none rfl _ _ _) ⟨⟨_,rfl⟩,ExO N w2.heap.size O,.inl ?_⟩
  exact HJ.out _ (ExO N w2.heap.size O) _ _ _ HJV.out ((Turn.refl (ExO N w2.heap.size O) V).putObj (.inr (.inr (by rw [HS2.out];omega))) _) (exO_next HO.out HZ.out (by simp) (fun b hb=>⟨.inl hb,by simpa using (HO.out b hb).2⟩))
 case stop=>
  rintro c O pre x rest V hx ⟨rfl,⟨pre1,y,rest1,h1,h2⟩,h3,h4⟩ hD
  refine wp_ret ?_
  refine leaves1 hD (results_none rfl _ _ _) ⟨⟨_,rfl⟩,ExO N w2.heap.size O,.inr ⟨pre1,y,rest1,h1,?_⟩⟩
  refine HJX.out _ (ExO N w2.heap.size O) _ _ _ h2 ((Turn.refl (ExO N w2.heap.size O) V).putObj (.inr (.inr (by rw [HS2.out];omega))) _) (fun b hb=>⟨.inl hb,?_⟩)
  rcases hb with hb | hb
  ·simpa using h4 b hb
  ·have:=hb.2;simp;omega
 case body=>
  rintro O pre x rest ys V hx hsz hO ht ⟨hj,hTV,hcy,hz⟩ ⟨vo,vc,so,sc,rfl,hr,os,hos,hol,hmap⟩
  simp only [pq]
  have hc:=HEX.out V hTV so sc os hos hol
  rw [expl_fit HM.out (by rw [hmap,List.map_map];rfl)] at hc
  obtain⟨bs,hbs⟩:∃ z,fitL LD x qs=z:=⟨_,rfl⟩
  rw [hbs] at hc
  have hbl:bs.length=M:=by rw [<-hbs];unfold fitL;rw [List.length_map,HM.out]
  have cP:=cell_of_one (hTV.heap HBPW.out (fun h=>h HKP.out))
  have cY:=cell_of_one hcy
  have HX:=Lib.hid hx;have HO:=Lib.hid hO;have HJV:=Lib.hid hj;have HTV:=Lib.hid hTV;have HCY:=Lib.hid hcy;have HZ:=Lib.hid hz;have HR:=Lib.hid hr;have HC:=Lib.hid hc;have HBS:=Lib.hid hbs;have HBLN:=Lib.hid hbl;have HXL:=Lib.hid (show True from trivial)
  obtain⟨xn,hxn⟩:∃ k,x.length=k:=⟨_,rfl⟩
  have HXN:=Lib.hid hxn
  rw [hxn]
  clear hx hO hj hTV hcy hz hr hc hbs hbl hos hol hmap ht hsz hxn HXL
  refine wpIn_block ?_
  refine wpIn_seq ?_
  refine wpIn_seq ?_
  refine wpIn_region_plain (by kernel_rfl) ?_ ?_
  ·rintro⟨_,_,h⟩;exact h
  go_wp2_with fail
  refine HC.out.mono ?_
  rintro e V1 ⟨bo,bc,rfl,hO1,hE1⟩
  have hR1:=Rd.of_own hO1
  have HR1:=Lib.hid hR1;have HE1:=Lib.hid hE1
  clear hO1 hR1 hE1 cP HC
  have hj1:=HJ.out _ (ExO N w2.heap.size O) _ V V1 HJV.out HE1.out.of (exO_next HO.out HZ.out HE1.out.size (fun b hb=>⟨.inl hb,Nat.lt_of_lt_of_le (HO.out b hb).2 HE1.out.size⟩))
  have hT1:=HTV.out.trans HE1.out.of
  have hcy1:=HE1.out.keep HCY.out
  have hz1:w2.heap.size+2<=V1.heap.size:=Nat.le_trans HZ.out HE1.out.size
  have HJ1:=Lib.hid hj1;have HT1:=Lib.hid hT1;have HCY1:=Lib.hid hcy1;have HZ1':=Lib.hid hz1
  clear hj1 hT1 hcy1 hz1 HJV HTV HCY cY
  have HMISS:=Lib.hid (show fitsA LD qs x=false->ExNow K J LD qs w N w2.heap.size l O (pre++[x]) V1 from fun h=>⟨by rw [List.filter_append,List.filter_cons_of_neg (by rw [h];decide),List.filter_nil,List.append_nil];exact HJ1.out,HT1.out,HCY1.out,HZ1'.out⟩)
  go_wp2
  refine wpIn_block ?_
  gi_loop [17] (fun i=>∃ j:Nat,j<=M/\i=.int .i64 j/\allTo bs j) (fun i=>M - (intOf i).toNat)
  case atStart=>exact⟨0,by omega,rfl,fun x hx=>by cases hx⟩
  case round=>
   obtain⟨j,hjM,rfl,hall⟩:=hrel
   have HALL:=Lib.hid hall
   clear hall
   by_cases hjm:j<M
   ·have hl1:(j:Int)<(M:Int):=by omega
    have hl0:(0:Int)<=(j:Int):=by omega
    have hjb:j<bs.length:=by rw [HBLN.out];exact hjm
    obtain⟨g,off,cap,hq,hg,hc⟩:=rd_at1 HR1.out hjm
    simp only [Value.slice.injEq,true_and] at hq
    obtain⟨rfl,rfl⟩:=hq
    have hgb:(bs.map Value.bool).getD j undef=.bool bs[j]:=by rw [List.getD_eq_getElem?_getD,List.getElem?_map,List.getElem?_eq_getElem hjb];rfl
    rw [hgb] at hc
    have hyes:=fun(h:bs[j]=true)=>allTo_succ hjb HALL.out h
    have hno:=fun(h:bs[j]=false)=>HMISS.out (show fitsA LD qs x=false by unfold fitsA;rw [HBS.out];exact allTo_not hjb h)
    obtain⟨b,hb⟩:∃ b,bs[j]=b:=⟨_,rfl⟩
    rw [hb] at hc hyes hno
    have HYES:=Lib.hid hyes;have HNO:=Lib.hid hno
    have hwk:IntKind.i64.wrap ((j:Int)+1)=(j:Int)+1:=IntWalk.i64_in _ (by omega)
    clear hyes hno hb hgb hjb
    cases b with
    | false=>
     gi_wp2
     exact⟨HE1.out.of,HNO.out (by first | trivial | rfl)⟩
    | true=>
     gi_wp2
     go_round
     case rel=>exact⟨j+1,by omega,by go_num,HYES.out (by first | trivial | rfl)⟩
     case measure=>simp [intOf];omega
   ·obtain rfl:j=M:=by omega
    have hl1:¬ (j:Int)<(j:Int):=by omega
    have hyes:fitsA LD qs x=true:=by unfold fitsA;rw [HBS.out];exact allTo_all (by rw [HBLN.out];exact Nat.le_refl _) HALL.out
    have HYES:=Lib.hid hyes
    clear hyes HMISS
    gi_wp2
    obtain⟨U0,hU0⟩:∃ D,V1.drew=D:=⟨_,rfl⟩
    have e0:Ext V1 U0:=by rw [<-hU0];exact(Turn.refl _ V1).drew
    have hS0:U0.heap[N]?=some (.cells #[.func (.yield l) #[] #[]] 233 (0,0)):=e0.keep HCY1.out
    have hxm:x∈permsF n (List.range n):=by rw [HX.out];simp
    have hxl:xn=n:=by rw [perms_range] at hxm;rw [<-HXN.out];exact(orders_lt n x hxm).1
    have hxb:xn<=1000000:=by omega
    clear hxm hxl
    have hcl:=clone_int (w:=U0) (ao:=vo) (n:=xn) (cap:=vc) (xs:=natV x) (by have:=HR.out.ext (HE1.out.trans e0);rw [HXN.out] at this;exact this) (fun u hu=>by obtain⟨_,_,rfl⟩:=List.mem_map.1 hu;rfl) hxb
    have HCL:=Lib.hid hcl
    clear hcl hxb
    refine wpIn_region_lateM (S:=fun D=>D.heap[N]?=some (.cells #[.func (.yield l) #[] #[]] 233 (0,0))) [3,4] (by kernel_rfl) (by kernel_rfl) ?hLO (by rw [hU0];exact hS0) ?_
    case hLO=>rintro⟨_,_,h⟩;exact h
    intro _
    rw [hU0]
    clear hU0
    refine wpAnyM_take (i:=0) (v:=?_) rfl rfl (by kernel_rfl) (by kernel_rfl) (by kernel_rfl) (by kernel_rfl) (by kernel_rfl) (fun _ _ _ h=>h) (Or.inl ⟨by rfl,?_⟩) (hS0) ?_
    rotate_left
    ·intro w hSw;(try dsimp only at hSw);have c1:=cell_of_one hSw;go_simp;try with_reducible rfl
    change wpAnyM _ _ _ _ _ _ _ _ _ _ (Act.put _ (some 24) _) _
    try simp only [Act.put,pq]
    refine wpAnyM_take (i:=1) (v:=?_) rfl rfl (by kernel_rfl) (by kernel_rfl) (by kernel_rfl) (by kernel_rfl) (by kernel_rfl) (fun _ _ _ h=>h) (Or.inl ⟨by rfl,?_⟩) (hS0) ?_
    rotate_left
    ·intro w hSw;(try dsimp only at hSw);have c1:=cell_of_one hSw;go_simp;try with_reducible rfl
    change wpAnyM _ _ _ _ _ _ _ _ _ _ (Act.put _ (some 25) _) _
    try simp only [Act.put,pq]
    refine wpAnyM_ready (rs:=[2]) (by kernel_rfl) (by simp) ?_
    refine AllReadyM.cons rfl rfl (fun K hK=>?_) AllReadyM.nil
    (try rw [if_pos (show Region.wanted _ _=true from rfl)])
    go_simp
    refine HCL.out.mono ?_
    rintro e U1 ⟨co,cc,rfl,hO2,hN2⟩
    have hS1:=hN2.keep hS0
    have HO2:=Lib.hid hO2;have HN2:=Lib.hid (e0.trans hN2);have HU0S:=Lib.hid e0.size
    clear hO2 hN2 e0
    refine hK.out _ _ hS1 (fun _=>?_)
    clear hK K
    try simp only [Act.put,pq]
    have hz2:=HN2.out.size
    have hV1s:=HE1.out.size
    have hWV:W.heap.size<=U0.heap.size:=by have:=HZ1'.out;have:=HS2.out;have:=HN.out;have:=HU0S.out;omega
    have hj2:=HJ.out _ (ExO N w2.heap.size O) _ V1 U1 HJ1.out (Ext.of HN2.out) (exO_next (fun b hb=>⟨(HO.out b hb).1,Nat.lt_of_lt_of_le (HO.out b hb).2 hV1s⟩) HZ1'.out hz2 (fun b hb=>⟨.inl hb,by have:=(HO.out b hb).2;omega⟩))
    have hsp:explL LD qs n=(pre.filter (fitsA LD qs))++x::rest.filter (fitsA LD qs):=by unfold explL;rw [HX.out,List.filter_append,List.filter_cons_of_pos HYES.out]
    have hEx:ExplE W.heap.size (ExO N w2.heap.size O) x U1 #[.slice co xn cc]:=⟨co,cc,by rw [HXN.out],by rw [HXN.out];exact own_base HO2.out hWV,fun g hg h=>by
     rw [HXN.out] at hg
     have h1:=(HO2.out.lt g hg).1
     have h2:=HU0S.out
     rcases h with h | h
     ·have:=(HO.out g h).2;omega
     ·have:=HZ1'.out;omega⟩
    obtain⟨fn,tmps,assign,body,hy,hYR⟩:=HY.out _ _ x _ U1 _ hsp hj2 hEx
    have HYR:=Lib.hid hYR;have HSP:=Lib.hid hsp
    clear hYR hsp hj2 hEx hz2 hV1s hWV
    refine wpAnyM_ready (rs:=[3]) (by kernel_rfl) (by simp) ?_
    refine AllReadyM.late rfl rfl (fun K hK=>?_) AllReadyM.nil
    (try rw [if_pos (show Region.wanted _ _=true from rfl)])
    refine⟨fun _ _=>trivial,?_⟩
    go_simp
    refine HYR.out.mono ?_
    rintro e V3 (⟨rfl,hJ3,hk3⟩ | ⟨rfl,hJ3,hk3⟩)
    ·have HJ3:=Lib.hid hJ3;have HK3:=Lib.hid hk3
     clear hJ3 hk3 HYR hy
     refine hK.out _ _ ?_
     clear hK K
     try simp only [Act.put,pq]
     refine wpAnyM_ready (rs:=[4]) (by kernel_rfl) (by simp) ?_
     refine AllReadyM.late rfl rfl (fun K hK=>?_) AllReadyM.nil
     (try rw [if_pos (show Region.wanted _ _=true from rfl)])
     refine⟨fun _ _=>trivial,?_⟩
     go_simp
     refine hK.out _ _ ?_
     clear hK K
     try simp only [Act.put,pq]
     refine wpAnyM_done (by kernel_rfl) ?_ _
     clear hS0 hS1
     gi_wp2
     have hTU:Turn (fun b=>¬ ((b<w0.heap.size\/b=N+1\/b=N+1+1)\/O b\/b=w2.heap.size\/b=w2.heap.size+1)) V V3:=(Ext.of (HE1.out.trans HN2.out)).trans (HK3.out.mono fun b _ h=>by
      rintro((h1 | h1 | h1) | h1 | h1 | h1)
      ·exact h.1 (HKW.out b h1)
      ·exact h.2 (.inr (by have:=HS2.out;omega))
      ·exact h.2 (.inr (by have:=HS2.out;omega))
      ·exact h.2 (.inl h1)
      ·exact h.2 (.inr (by have:=HS2.out;omega))
      ·exact h.2 (.inr (by have:=HS2.out;omega)))
     have hz3:=HK3.out.size
     have hz4:=HN2.out.size
     refine⟨hTU,by rw [List.filter_append,List.filter_cons_of_pos HYES.out];exact HJ3.out,(HT1.out.trans (Ext.of HN2.out)).trans (HK3.out.mono fun b _ h=>h.1),HK3.out.heap (Ext.keep HN2.out HCY1.out) (fun h=>h.2 (.inr (by have:=HS2.out;omega))),by have:=HZ1'.out;omega⟩
    ·have HJ3:=Lib.hid hJ3;have HK3:=Lib.hid hk3
     clear hJ3 hk3 HYR hy
     refine hK.out _ _ ?_
     clear hK K
     try simp only [Act.put,pq]
     refine wpAnyM_ready (rs:=[4]) (by kernel_rfl) (by simp) ?_
     refine AllReadyM.late rfl rfl (fun K hK=>?_) AllReadyM.nil
     (try rw [if_pos (show Region.wanted _ _=true from rfl)])
     refine⟨fun _ _=>trivial,?_⟩
     go_simp
     refine hK.out _ _ ?_
     clear hK K
     try simp only [Act.put,pq]
     refine wpAnyM_done (by kernel_rfl) ?_ _
     clear hS0 hS1
     gi_wp2
     have hTU:Turn (fun b=>¬ ((b<w0.heap.size\/b=N+1\/b=N+1+1)\/O b\/b=w2.heap.size\/b=w2.heap.size+1)) V V3:=(Ext.of (HE1.out.trans HN2.out)).trans (HK3.out.mono fun b _ h=>by
      rintro((h1 | h1 | h1) | h1 | h1 | h1)
      ·exact h.1 (HKW.out b h1)
      ·exact h.2 (.inr (by have:=HS2.out;omega))
      ·exact h.2 (.inr (by have:=HS2.out;omega))
      ·exact h.2 (.inl h1)
      ·exact h.2 (.inr (by have:=HS2.out;omega))
      ·exact h.2 (.inr (by have:=HS2.out;omega)))
     have hz3:=HK3.out.size
     have hz4:=HN2.out.size
     exact⟨hTU,rfl,⟨_,x,_,HSP.out,HJ3.out⟩,by have:=HZ1'.out;omega,fun b hb=>by have:=(HO.out b hb).2;have:=HE1.out.size;omega⟩
theorem explaining_any(lo po:Option Addr)(n lc M pc:Nat)(w:World) :
  Calls Tryz.prog 90 #[.slice lo n lc,.slice po M pc] w fun e w'=>e=.returned (.func (.func 140) #[] #[.pointer (some ⟨w.heap.size,0,none⟩),.pointer (some ⟨w.heap.size+1,0,none⟩)])/\w'.heap[w.heap.size]?=some (.cells #[.slice lo n lc] 26 (0,0))/\w'.heap[w.heap.size+1]?=some (.cells #[.slice po M pc] 61 (0,0))/\Ext w w'/\w'.heap.size=w.heap.size+2:=by
 go_enter Tryz.func90,Tryz.ntmps90
 go_wp2
 go_ret
 exact⟨rfl,new_keep (new_at rfl),new_at (by simp),((Turn.refl _ w).alloc _).alloc _,by simp⟩
end Go.Proofs.YtfdlhlghcbeblaaGreatDoor
set_option maxRecDepth 100000
set_option maxHeartbeats 16000000
namespace Go.Proofs.YtfdlhlghcbeblaaGreatDoor
open Go.RowKit Go.Ab
attribute [local go_sem] Oper.semAt_some wide_fn wide_depth
theorem res_c3{fn:Func}{p q r:Tmp}(h:fn.results=#[.cell p 48,.cell q 4,.cell r 40]){tmps:Array Value}{w:World}{b c d:Nat}{ao:Option Addr}{n k:Nat}{y z:Value}
  (hp:tmps.getD p undef=.pointer (some ⟨b,0,none⟩)) (hq:tmps.getD q undef=.pointer (some ⟨c,0,none⟩)) (hr:tmps.getD r undef=.pointer (some ⟨d,0,none⟩))
  (hb:w.heap[b]?=some (.cells #[.slice ao n k] 48 (0,0))) (hc:w.heap[c]?=some (.cells #[y] 4 (0,0))) (hd:w.heap[d]?=some (.cells #[z] 40 (0,0))) :
  (results fn tmps).run Tryz.prog w=.ok (.tuple #[.slice ao n k,y,z]) w:=by
 have c1:=cell_of_one hb
 have c2:=cell_of_one hc
 have c3:=cell_of_one hd
 have hp':tmps[p]?.getD undef=.pointer (some ⟨b,0,none⟩):=by simpa using hp
 have hq':tmps[q]?.getD undef=.pointer (some ⟨c,0,none⟩):=by simpa using hq
 have hr':tmps[r]?.getD undef=.pointer (some ⟨d,0,none⟩):=by simpa using hr
 simp [results,h,hp',hq',hr',asAddr,loadVar,isAgg,run_underlying Tryz.underlying48,run_underlying Tryz.underlying4,run_underlying Tryz.underlying40,go_sem,c1,c2,c3]
def explX(LD:List LawD)(qs:PairsL):List Nat:=if ordE LD (qs.map (·.1))=0 then(explL LD qs LD.length).headD [] else []
def explB(LD:List LawD)(qs:PairsL):Bool:=if ordE LD (qs.map (·.1))=0 then !(explL LD qs LD.length).isEmpty else false
def NoneYet(N:Nat)(w:World)(_:Nat->Prop)(pre:List (List Nat)) (V:World):Prop:=pre=[]/\V.heap[N]?=some (.cells #[.slice none 0 0] 48 (0,0))/\V.heap[N+1]?=some (.cells #[.bool false] 4 (0,0))/\V.heap[N+1+1]?=some (.cells #[.int .i64 0] 40 (0,0))/\Ext w V
def OneNow(N D:Nat)(w:World)(O:Nat->Prop)(pre:List (List Nat)) (V:World):Prop:=∃ x ao c,pre=[x]/\V.heap[N]?=some (.cells #[.slice ao x.length c] 48 (0,0))/\V.heap[N+1]?=some (.cells #[.bool true] 4 (0,0))/\V.heap[N+1+1]?=some (.cells #[.int .i64 0] 40 (0,0))/\V.ownsRow (D+2) 3 1 (.slice ao x.length c) x.length (natV x)/\(∀ g,(Value.slice ao x.length c).ownBlock=some g->¬ O g)/\Ext w V
theorem three_set{w:World}{N:Nat}{u0 v0 x0 u v x:Value}{t1 t2 t3:TypeId}(h0:w.heap[N]?=some (.cells #[u0] t1 (0,0))) (h1:w.heap[N+1]?=some (.cells #[v0] t2 (0,0))) (h2:w.heap[N+1+1]?=some (.cells #[x0] t3 (0,0))) :
  (((w.setCell ⟨N,0,none⟩ u).setCell ⟨N+1,0,none⟩ v).setCell ⟨N+1+1,0,none⟩ x).heap[N]?=some (.cells #[u] t1 (0,0))/\(((w.setCell ⟨N,0,none⟩ u).setCell ⟨N+1,0,none⟩ v).setCell ⟨N+1+1,0,none⟩ x).heap[N+1]?=some (.cells #[v] t2 (0,0)) /\
   (((w.setCell ⟨N,0,none⟩ u).setCell ⟨N+1,0,none⟩ v).setCell ⟨N+1+1,0,none⟩ x).heap[N+1+1]?=some (.cells #[x] t3 (0,0))/\Turn (fun b=>b=N\/b=N+1\/b=N+1+1) w (((w.setCell ⟨N,0,none⟩ u).setCell ⟨N+1,0,none⟩ v).setCell ⟨N+1+1,0,none⟩ x):=by
 have t1':=Turn.set1 w N 0 u
 have t2':=Turn.set1 (w.setCell ⟨N,0,none⟩ u) (N+1) 0 v
 have t3':=Turn.set1 ((w.setCell ⟨N,0,none⟩ u).setCell ⟨N+1,0,none⟩ v) (N+1+1) 0 x
 have a1:=t1'.heap h1 (by omega)
 have a2:=t2'.heap (t1'.heap h2 (by omega)) (by omega)
 exact⟨t3'.heap (t2'.heap (set_one h0) (by omega)) (by omega),t3'.heap (set_one a1) (by omega),set_one a2,((t1'.mono fun b _ e=>.inl e).trans (t2'.mono fun b _ e=>.inr (.inl e))).trans (t3'.mono fun b _ e=>.inr (.inr e))⟩
theorem explain_any{w:World}{ps:LawsL}{qs:PairsL}{lo:Option Addr}{n lc:Nat}{po:Option Addr}{m pc:Nat}(hl:LawsAt w (.slice lo n lc) ps) (hn:ps.length=n) (hp:PairsAt w (.slice po m pc) qs) (hm:qs.length=m) (hT:Tab w) :
  Calls Tryz.prog 37 #[.slice lo n lc,.slice po m pc] w fun e w'=>∃ ao c,e=.returned (.tuple #[.slice ao (explX (ps.map (·.1)) qs).length c,.bool (explB (ps.map (·.1)) qs),.int .i64 (ordE (ps.map (·.1)) (qs.map (·.1)))])/\Rd w' (.slice ao (explX (ps.map (·.1)) qs).length c) (explX (ps.map (·.1)) qs).length 1 (natV (explX (ps.map (·.1)) qs))/\Ext w w':=by
 have hck:=fun(V:World) (hE:Ext w V)=>ocheck_any (hl.ext hE) hn (pairs_ext hp hE) hm (hT.keep hE id)
 obtain⟨LD,hLD⟩:∃ x,ps.map (·.1)=x:=⟨_,rfl⟩
 have hLn:LD.length=n:=by rw [<-hLD,List.length_map,hn]
 have hsix:ordE LD (qs.map (·.1))=0->n<=6/\m<=1000:=fun h=>by have:=ordE_six h;rw [hLn,List.length_map,hm] at this;omega
 have hit:=fun(h:ordE LD (qs.map (·.1))=0) (V:World) (B1 B2:Nat) (hE:Ext w V) (h1:V.heap[B1]?=_) (h2:V.heap[B2]?=_)=>expl_iter hE hl hn (hsix h).1 hp hm (hsix h).2 hT h1 h2
 rw [hLD]
 simp only [hLD] at hck hit
 obtain⟨X,hX⟩:∃ x,explX LD qs=x:=⟨_,rfl⟩
 obtain⟨B,hB⟩:∃ x,explB LD qs=x:=⟨_,rfl⟩
 rw [hX,hB]
 unfold explX at hX
 unfold explB at hB
 rw [hLn] at hX hB
 obtain⟨L,hL⟩:∃ x,explL LD qs n=x:=⟨_,rfl⟩
 obtain⟨E,hE0⟩:∃ x,ordE LD (qs.map (·.1))=x:=⟨_,rfl⟩
 rw [hL,hE0] at hX hB
 rw [hE0] at hit ⊢
 simp only [hL] at hit
 simp only [hE0] at hck
 have HCK:=Lib.hid hck;have HIT:=Lib.hid hit;have HX:=Lib.hid hX;have HB:=Lib.hid hB
 clear hck hit hX hB hL hE0 hsix hLD hLn hl hn hp hm hT
 refine calls_of_wp_marks Tryz.func37 rfl ?_
 simp only [Tryz.ntmps37,List.size_toArray,List.length_cons,List.length_nil,Nat.reduceAdd,Nat.reduceSub,Array.replicate_succ,Array.replicate_zero,List.push_toArray,List.append_toArray,List.nil_append,List.cons_append]
 go_upto_region 1 with (fail)
 obtain⟨N,hN⟩:∃ N,w.heap.size=N:=⟨_,rfl⟩
 obtain⟨w1,hw1⟩:∃ D,((w.alloc (.cells #[.slice none 0 0] 48)).alloc (.cells #[.bool false] 4)).alloc (.cells #[.int .i64 0] 40)=D:=⟨_,rfl⟩
 have hE1:Ext w w1:=by rw [<-hw1];exact(((Turn.refl _ w).alloc _).alloc _).alloc _
 have h10:w1.heap[N]?=some (.cells #[.slice none 0 0] 48 (0,0)):=by rw [<-hw1];exact new_keep (new_keep (new_at hN.symm))
 have h11:w1.heap[N+1]?=some (.cells #[.bool false] 4 (0,0)):=by rw [<-hw1];exact new_keep (new_at (by simp;omega))
 have h12:w1.heap[N+1+1]?=some (.cells #[.int .i64 0] 40 (0,0)):=by rw [<-hw1];exact new_at (by simp;omega)
 rw [hN,hw1]
 have HE1:=Lib.hid hE1;have H10:=Lib.hid h10;have H11:=Lib.hid h11;have H12:=Lib.hid h12;have HN:=Lib.hid hN
 clear hE1 h10 h11 h12 hw1 hN
 go_wp2_with fail
 refine(HCK.out _ HE1.out).mono ?_
 rintro e w2 ⟨rfl,hN2⟩
 have h20:=hN2.keep H10.out
 have h21:=hN2.keep H11.out
 have h22:=hN2.keep H12.out
 have HE2:=Lib.hid (HE1.out.trans hN2);have H20:=Lib.hid h20;have H21:=Lib.hid h21;have H22:=Lib.hid h22
 clear hN2 HE1 H10 H11 H12 HCK h20 h21 h22
 have c0:=cell_of_one H20.out;have f0:=free_of_one H20.out;have c1:=cell_of_one H21.out;have f1:=free_of_one H21.out;have c2:=cell_of_one H22.out;have f2:=free_of_one H22.out
 by_cases hE0:E=0
 case neg=>
  have hne:(E != 0)=true:=by simpa using hE0
  have hx:=HX.out
  have hb:=HB.out
  rw [if_neg hE0] at hx hb
  subst hx hb
  go_wp2
  obtain⟨a1,a2,a3,a4⟩:=three_set H20.out H21.out H22.out (u:=.slice none 0 0) (v:=.bool false) (x:=.int .i64 E)
  have hE3:Ext w (((w2.setCell ⟨N,0,none⟩ (.slice none 0 0)).setCell ⟨N+1,0,none⟩ (.bool false)).setCell ⟨N+1+1,0,none⟩ (.int .i64 E)):=Turn.after HE2.out a4 (fun b hb h=>by have:=HN.out;omega)
  refine leavesM (v:=.tuple #[.slice none 0 0,.bool false,.int .i64 E]) (base:=N) _ _ trivial fun w' ht' hs=>⟨res_c3 rfl rfl rfl rfl (ht'.heap a1 (Go.Ab.Shut.not a1 rfl)) (ht'.heap a2 (Go.Ab.Shut.not a2 rfl)) (ht'.heap a3 (Go.Ab.Shut.not a3 rfl)),none,0,rfl,Rd.of_own (e:=3) (World.ownsRow_nil _ 0 _ _),Turn.after hE3 ht' (fun b hb h=>by have:=h.1;have:=HN.out;omega)⟩
 subst hE0
 have hx:=HX.out
 have hb:=HB.out
 rw [if_pos (by first | trivial | rfl)] at hx hb
 have HX2:=Lib.hid hx;have HB2:=Lib.hid hb
 clear hx hb HX HB c0 f0 c1 f1 c2 f2
 go_wp2_with fail
 refine(explaining_any _ _ _ _ _ _ _).mono ?_
 rintro e w3 ⟨rfl,hb1,hb2,hE3,hs3⟩
 obtain⟨Y,hY⟩:∃ Y,w2.heap.size=Y:=⟨_,rfl⟩
 rw [hY] at hb1 hb2 hs3 ⊢
 have hit:=HIT.out (by first | trivial | rfl) w3 Y (Y+1) (HE2.out.trans hE3) hb1 hb2
 have hNY:N+1+1<Y:=by rw [<-hY];exact(Array.getElem?_eq_some_iff.1 H22.out).1
 have HE3:=Lib.hid (HE2.out.trans hE3);have HS3:=Lib.hid hs3;have HITT:=Lib.hid hit
 have H30:=Lib.hid (hE3.keep H20.out);have H31:=Lib.hid (hE3.keep H21.out);have H32:=Lib.hid (hE3.keep H22.out)
 clear hE3 hs3 hit hb1 hb2 hY HIT H20 H21 H22 HE2
 go_wp2
 refine wp_rangeO (xs:=L) (K:=fun b=>b<w.heap.size\/b=Y\/b=Y+1) rfl (fun args w=>by simp [go_sem]) HITT.out (fun b h=>by have:=HS3.out;have:=HN.out;rcases h with h | h | h <;> omega) (fun _ _ x A ys h=>by obtain⟨_,_,rfl,_⟩:=h;rfl) ?hEs
  (NoneYet N w) (fun c O pre V=>c=.ret/\OneNow N w3.heap.size w O pre V) ?hI ?hIx ?h0 (fun ys t=>(t.setIfInBounds 18 (ys.getD 0 undef)).setIfInBounds 8 (ys.getD 0 undef)) ?assign ?body ?done ?stop
 case hEs=>
  rintro n' O x A B ys ⟨vo,vc,rfl,h1,h2⟩ ht ⟨o,q1,q2⟩
  refine⟨vo,vc,rfl,own_keep h1 ht (fun g hg e=>?_),h2⟩
  subst e
  obtain⟨cur,hc⟩:=own_block_ty h1 hg
  rw [q1] at hc;cases hc;cases q2
 case hI=>
  rintro O O' pre A B ⟨rfl,h0,h1,h2,hE⟩ hO ht hO'
  have hz:=HS3.out
  have ht2:Turn (fun b=>w3.heap.size+1<=b) A B:=ht.mono fun b _ h=>h.elim (fun h=>by have:=(hO b h.1).1;omega) (fun h=>by omega)
  exact⟨rfl,ht2.heap h0 (by omega),ht2.heap h1 (by omega),ht2.heap h2 (by omega),hE.after ht2 fun b hb h=>by have:=HE3.out.size;omega⟩
 case hIx=>
  rintro c O O' pre A B ⟨rfl,x,ao,c,rfl,h0,h1,h2,h3,h4,hE⟩ hO ht hO'
  have hz:=HS3.out
  have ht2:Turn (fun b=>w3.heap.size+1<=b) A B:=ht.mono fun b _ h=>h.elim (fun h=>by have:=(hO b h.1).1;omega) (fun h=>by omega)
  refine⟨rfl,x,ao,c,rfl,ht2.heap h0 (by omega),ht2.heap h1 (by omega),ht2.heap h2 (by omega),own_keep h3 ht (fun g hg h=>?_),fun g hg h=>?_,hE.after ht2 fun b hb h=>by have:=HE3.out.size;omega⟩
  ·have:=(h3.lt g hg).1
   rcases h with h | h
   ·exact h4 g hg h.1
   ·omega
  ·rcases(hO' g h).1 with h | h
   ·exact h4 g hg h
   ·have:=(h3.lt g hg).2;omega
 case h0=>
  intro V hV hs
  exact⟨rfl,hV.keep H30.out,hV.keep H31.out,hV.keep H32.out,Turn.trans HE3.out hV⟩
 case assign=>
  rintro _ _ x ys V Kn ⟨vo,vc,rfl,_⟩ hK
  gi_wp2
  exact hK
 case done=>
  rintro O V ⟨hnil,h0,h1,h2,hE⟩ hO ht hD
  have hx:=HX2.out
  have hb:=HB2.out
  rw [hnil] at hx hb
  subst hx hb
  have HV0:=Lib.hid h0;have HV1:=Lib.hid h1;have HV2:=Lib.hid h2;have HEV:=Lib.hid hE;have HD:=Lib.hid hD
  have c0:=cell_of_one h0;have f0:=free_of_one h0;have c1:=cell_of_one h1;have f1:=free_of_one h1;have c2:=cell_of_one h2;have f2:=free_of_one h2
  clear h0 h1 h2 hE hD hO ht HX2 HB2
  go_wp2
  obtain⟨a1,a2,a3,a4⟩:=three_set HV0.out HV1.out HV2.out (u:=.slice none 0 0) (v:=.bool false) (x:=.int .i64 0)
  have hE3:Ext w (((V.setCell ⟨N,0,none⟩ (.slice none 0 0)).setCell ⟨N+1,0,none⟩ (.bool false)).setCell ⟨N+1+1,0,none⟩ (.int .i64 0)):=Turn.after HEV.out a4 (fun b hb h=>by have:=HN.out;omega)
  have hz:=HS3.out
  refine leavesM (v:=.tuple #[.slice none 0 0,.bool false,.int .i64 0]) (base:=N) _ _ (Marks.cons (base:=N) trivial (by omega) (a4.heap HD.out (by omega)) (fun e he=>by cases he)) fun w' ht' hs=>⟨res_c3 rfl rfl rfl rfl (ht'.heap a1 (Go.Ab.Shut.not a1 rfl)) (ht'.heap a2 (Go.Ab.Shut.not a2 rfl)) (ht'.heap a3 (Go.Ab.Shut.not a3 rfl)),none,0,rfl,Rd.of_own (e:=3) (World.ownsRow_nil _ 0 _ _),Turn.after hE3 ht' (fun b hb h=>by have:=h.1;have:=HN.out;omega)⟩
 case stop=>
  rintro c O pre x rest V hx ⟨rfl,x',ao,c,hpre,h0,h1,h2,h3,h4,hE⟩ hD
  obtain⟨rfl,rfl⟩:pre=[]/\x=x':=by
   cases pre with
   | nil=>simpa using hpre
   | cons a pre=>simp at hpre
  have hx2:=HX2.out
  have hb2:=HB2.out
  rw [hx] at hx2 hb2
  simp only [List.nil_append,List.headD_cons,List.isEmpty_cons,Bool.not_false] at hx2 hb2
  subst hx2 hb2
  refine wp_ret ?_
  have hz:=HS3.out
  refine leavesM (v:=.tuple #[.slice ao x.length c,.bool true,.int .i64 0]) (base:=N) _ _ (Marks.cons (base:=N) trivial (by omega) hD (fun e he=>by cases he)) fun w' ht' hs=>⟨res_c3 rfl rfl rfl rfl (ht'.heap h0 (Go.Ab.Shut.not h0 rfl)) (ht'.heap h1 (Go.Ab.Shut.not h1 rfl)) (ht'.heap h2 (Go.Ab.Shut.not h2 rfl)),ao,c,rfl,Rd.of_own (own_keep h3 ht' (fun g hg e=>by obtain⟨cur,hc⟩:=own_block_ty h3 hg;exact Go.Ab.Shut.not hc rfl e)),Turn.after hE ht' (fun b hb h=>by have:=h.1;have:=HN.out;omega)⟩
 case body=>
  rintro O pre x rest ys V hx hsz hO ht ⟨rfl,h0,h1,h2,hE⟩ ⟨vo,vc,rfl,hr,hg⟩
  simp only [pq]
  obtain⟨a1,a2,a3,a4⟩:=three_set h0 h1 h2 (u:=.slice vo x.length vc) (v:=.bool true) (x:=.int .i64 0)
  have hz:=HS3.out
  have hfin:Turn (fun b=>¬ ((b<w.heap.size\/b=Y\/b=Y+1)\/O b\/b=w3.heap.size\/b=w3.heap.size+1)) V (((V.setCell ⟨N,0,none⟩ (.slice vo x.length vc)).setCell ⟨N+1,0,none⟩ (.bool true)).setCell ⟨N+1+1,0,none⟩ (.int .i64 0))/\OneNow N w3.heap.size w O ([]++[x]) (((V.setCell ⟨N,0,none⟩ (.slice vo x.length vc)).setCell ⟨N+1,0,none⟩ (.bool true)).setCell ⟨N+1+1,0,none⟩ (.int .i64 0)):=by
   have hn:=HN.out
   refine⟨a4.mono fun b _ h hn=>?_,x,vo,vc,rfl,a1,a2,a3,own_keep hr a4 (fun g' hg' e=>?_),hg,Turn.after hE a4 (fun b hb h=>by omega)⟩
   ·rcases hn with (h5 | h5 | h5) | h5 | h5 | h5
    ·omega
    ·omega
    ·omega
    ·have:=(hO _ h5).1;omega
    ·omega
    ·omega
   ·have:=(hr.lt g' hg').1;omega
  have c0:=cell_of_one h0;have f0:=free_of_one h0;have c1:=cell_of_one h1;have f1:=free_of_one h1;have c2:=cell_of_one h2;have f2:=free_of_one h2
  have HF:=Lib.hid hfin
  obtain⟨xn,hxn⟩:∃ k,x.length=k:=⟨_,rfl⟩
  rw [hxn] at HF ⊢
  clear hfin a1 a2 a3 a4 h0 h1 h2 hE hr hg hO ht hx hsz hz hxn
  gi_wp2
  exact⟨HF.out.1,by first | exact HF.out.2 | exact⟨rfl,HF.out.2⟩⟩
end Go.Proofs.YtfdlhlghcbeblaaGreatDoor
