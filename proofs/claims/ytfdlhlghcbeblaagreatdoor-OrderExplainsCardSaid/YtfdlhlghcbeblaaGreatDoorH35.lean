/- order.All. ablautref14.Orders. ablautref14.Orders: one number more. ablautref14.explaining. ablautref14.Explain. ablautref14.All. What the reference Best computes. -/
import Derived.Test.YtfdlhlghcbeblaaGreatDoorH34
import Derived.Test.YtfdlhlghcbeblaaGreatDoorH28
import Derived.Test.YtfdlhlghcbeblaaGreatDoorH30
import Derived.Test.YtfdlhlghcbeblaaGreatDoorH29
import Derived.Test.YtfdlhlghcbeblaaGreatDoorH18
import Derived.Test.YtfdlhlghcbeblaaGreatDoorH12
namespace Go.Proofs.YtfdlhlghcbeblaaGreatDoor
open Go.RowKit Go.Ab
attribute [local go_sem] Oper.semAt_some wide_fn wide_depth
theorem orders_count:∀ n,n<=6->(ordersR n).length<=720:=by
 have h:∀ n,(ordersR (n+1)).length=(n+1)*(ordersR n).length:=fun n=>by
  conv=>lhs;unfold ordersR
  rw [List.length_flatMap]
  have e:(List.range (n+1)).map (fun f=>((ordersR n).map fun r=>f::r.map fun x=>if f<=x then x+1 else x).length)=List.replicate (n+1) (ordersR n).length:=by
   apply List.ext_getElem
   ·simp
   ·intro i h1 h2;simp
  rw [e]
  simp
 have h0:(ordersR 0).length=1:=rfl
 have h1:(ordersR 1).length=1*(ordersR 0).length:=h 0
 have h2:(ordersR 2).length=2*(ordersR 1).length:=h 1
 have h3:(ordersR 3).length=3*(ordersR 2).length:=h 2
 have h4:(ordersR 4).length=4*(ordersR 3).length:=h 3
 have h5:(ordersR 5).length=5*(ordersR 4).length:=h 4
 have h6:(ordersR 6).length=6*(ordersR 5).length:=h 5
 intro n hn
 have:n=0\/n=1\/n=2\/n=3\/n=4\/n=5\/n=6:=by omega
 rcases this with rfl | rfl | rfl | rfl | rfl | rfl | rfl <;> omega
theorem perms_count(n:Nat)(hn:n<=6):(permsF n (List.range n)).length<=720:=by rw [perms_range];exact orders_count n hn
theorem infoSI:(Tryz.prog.info? 48).map (fun i=>(i.zero,i.size,i.bytes))=some (some (.slice none 0 0),1,24):=by kernel_rfl
def GridV(base:Nat)(O:Nat->Prop)(V:World)(vs:List Value)(ls:List (List Nat)):Prop:=
 vs.length=ls.length/\∀ i (h:i<ls.length),∃ ao c,vs.getD i undef=.slice ao ls[i].length c/\V.ownsRow base 3 1 (.slice ao ls[i].length c) ls[i].length (natV ls[i])/\∀ g,(Value.slice ao ls[i].length c).ownBlock=some g->¬ O g
theorem GridV.keep{base:Nat}{O O' T:Nat->Prop}{A B:World}{vs:List Value}{ls:List (List Nat)} (h:GridV base O A vs ls) (ht:Turn T A B) (hT:∀ g cur,A.heap[g]?=some (.cells cur 3 (0,0))->base<=g->¬ O g->¬ T g) (hO:∀ g,g<A.heap.size->O' g->O g):GridV base O' B vs ls:=by
 refine⟨h.1,fun i hi=>?_⟩
 obtain⟨ao,c,h1,h2,h3⟩:=h.2 i hi
 refine⟨ao,c,h1,own_keep h2 ht (fun g hg e=>?_),fun g hg e=>h3 g hg (hO g (h2.lt g hg).2 e)⟩
 obtain⟨cur,hc⟩:=own_block_ty h2 hg
 exact hT g cur hc (h2.lt g hg).1 (h3 g hg) e
theorem GridV.push{base:Nat}{O:Nat->Prop}{A:World}{vs:List Value}{ls:List (List Nat)} {x:List Nat} {ao:Option Addr} {c:Nat} (h:GridV base O A vs ls) (h1:A.ownsRow base 3 1 (.slice ao x.length c) x.length (natV x)) (h2:∀ g,(Value.slice ao x.length c).ownBlock=some g->¬ O g) :
  GridV base O A (vs++[.slice ao x.length c]) (ls++[x]):=by
 refine⟨by simp [h.1],fun i hi=>?_⟩
 by_cases hl:i<ls.length
 ·obtain⟨ao',c',q1,q2,q3⟩:=h.2 i hl
  refine⟨ao',c',?_,?_,?_⟩
  ·rw [List.getD_eq_getElem?_getD,List.getElem?_append_left (by rw [h.1];exact hl),<-List.getD_eq_getElem?_getD,q1,List.getElem_append_left hl]
  ·rw [List.getElem_append_left hl];exact q2
  ·rw [List.getElem_append_left hl];exact q3
 ·have he:i=ls.length:=by simp at hi;omega
  subst he
  have e:(ls++[x])[ls.length]'hi=x:=by simp
  refine⟨ao,c,?_,?_,?_⟩
  ·rw [e,List.getD_eq_getElem?_getD,<-h.1,List.getElem?_append_right (Nat.le_refl _)];simp
  ·rw [e];exact h1
  ·rw [e];exact h2
def GridAt(w:World)(v:Value)(ls:List (List Nat)):Prop:=∃ vs,Rd w v ls.length 1 vs/\∀ i (h:i<ls.length),∃ ao c,vs.getD i undef=.slice ao ls[i].length c/\Rd w (.slice ao ls[i].length c) ls[i].length 1 (natV ls[i])
theorem GridAt.ext{A B:World}{v:Value}{ls:List (List Nat)} (h:GridAt A v ls) (ht:Ext A B):GridAt B v ls:=by
 obtain⟨vs,h1,h2⟩:=h
 refine⟨vs,h1.ext ht,fun i hi=>?_⟩
 obtain⟨ao,c,q1,q2⟩:=h2 i hi
 exact⟨ao,c,q1,q2.ext ht⟩
theorem grid_nil(w:World):GridAt w (.slice none 0 0) []:=⟨[],Rd.of_own (e:=3) (World.ownsRow_nil _ 0 _ _),fun i hi=>by cases hi⟩
def allL(LD:List LawD)(qs:PairsL)(most:Int):List (List Nat):=if ordE LD (qs.map (·.1))=0 then(explL LD qs LD.length).take most.toNat else []
def AllSt(BX BM base:Nat)(most:Int)(w:World)(O:Nat->Prop)(pre:List (List Nat)) (V:World):Prop:=
 ∃ ao c vs,V.heap[BX]?=some (.cells #[.slice ao pre.length c] 27 (0,0))/\V.heap[BM]?=some (.cells #[.int .i64 most] 3 (0,0))/\V.ownsRow base 48 1 (.slice ao pre.length c) pre.length vs/\(∀ g,(Value.slice ao pre.length c).ownBlock=some g->¬ O g)/\GridV base O V vs pre/\Ext w V
theorem AllSt.step{BX BM base D:Nat}{most:Int}{w A B:World}{O O':Nat->Prop}{pre:List (List Nat)} (h:AllSt BX BM base most w O pre A) (hw:w.heap.size<=D) (hXM:BX<D/\BM<D) (hb:base=D+2) (hO:∀ b,O b->D+2<=b/\b<A.heap.size) (ht:Turn (fun b=>O b\/b=D+1) A B)
  (hO':∀ b,O' b->(O b\/A.heap.size<=b)/\b<B.heap.size):AllSt BX BM base most w O' pre B:=by
 subst hb
 obtain⟨ao,c,vs,h1,h2,h3,h4,h5,h6⟩:=h
 have hoo:∀ g,g<A.heap.size->O' g->O g:=fun g hg hh=>(hO' g hh).1.elim id (fun h=>by omega)
 refine⟨ao,c,vs,ht.heap h1 (fun h=>?_),ht.heap h2 (fun h=>?_),own_keep h3 ht (fun g hg h=>?_),fun g hg h=>h4 g hg (hoo g (h3.lt g hg).2 h),h5.keep ht (fun g cur hc hg hn h=>?_) hoo,h6.after ht fun b hb h=>?_⟩
 ·rcases h with h | h
  ·have:=(hO _ h).1;omega
  ·omega
 ·rcases h with h | h
  ·have:=(hO _ h).1;omega
  ·omega
 ·have:=(h3.lt g hg).1
  rcases h with h | h
  ·exact h4 g hg h
  ·omega
 ·rcases h with h | h
  ·exact hn h
  ·omega
 ·rcases h with h | h
  ·have:=(hO _ h).1;omega
  ·omega
theorem AllSt.push{BX BM base:Nat}{most:Int}{w V w5:World}{O:Nat->Prop}{pre:List (List Nat)} {x:List Nat} {ao ao' vo:Option Addr} {c c' vc:Nat} {vs:List Value} (hw:w.heap.size<=BX) (hbx:BX<base) (hbm:BM<base) (hne:BX≠BM) (_hwb:w.heap.size<=base)
  (h1:V.heap[BX]?=some (.cells #[.slice ao pre.length c] 27 (0,0))) (h2:V.heap[BM]?=some (.cells #[.int .i64 most] 3 (0,0))) (h3:V.ownsRow base 48 1 (.slice ao pre.length c) pre.length vs) (h4:∀ g,(Value.slice ao pre.length c).ownBlock=some g->¬ O g) (h5:GridV base O V vs pre) (hE:Ext w V) (hO:∀ b,O b->b<V.heap.size)
  (hr:V.ownsRow base 3 1 (.slice vo x.length vc) x.length (natV x)) (hg:∀ g,(Value.slice vo x.length vc).ownBlock=some g->¬ O g)
  (hO5:w5.ownsRow base 48 1 (.slice ao' (pre.length+1) c') (pre.length+1) (vs++[.slice vo x.length vc])) (hT5:Turn (fun b=>(Value.slice ao pre.length c).ownBlock=some b) V w5) (hB5:(Value.slice ao' (pre.length+1) c').ownBlock=(Value.slice ao pre.length c).ownBlock\/∃ g,V.heap.size<=g/\(Value.slice ao' (pre.length+1) c').ownBlock=some g) :
  AllSt BX BM base most w O (pre++[x]) (w5.setCell ⟨BX,0,none⟩ (.slice ao' (pre.length+1) c'))/\Turn (fun b=>b=BX\/(base<=b/\¬ O b)) V (w5.setCell ⟨BX,0,none⟩ (.slice ao' (pre.length+1) c')):=by
 have t6:=Turn.set1 w5 BX 0 (.slice ao' (pre.length+1) c')
 have hlow:∀ g,(Value.slice ao pre.length c).ownBlock=some g->base<=g:=fun g hg=>(h3.lt g hg).1
 have b1:=hT5.heap h1 (fun e=>by have:=hlow _ e;omega)
 have hl':∀ g,(Value.slice ao' (pre.length+1) c').ownBlock=some g->base<=g/\¬ O g:=fun g hgg=>by
  refine⟨(hO5.lt g hgg).1,fun ho=>?_⟩
  rcases hB5 with e | ⟨g',e1,e2⟩
  ·rw [e] at hgg;exact h4 g hgg ho
  ·rw [e2] at hgg;cases hgg;have:=hO g ho;omega
 have hTT:Turn (fun b=>b=BX\/(Value.slice ao pre.length c).ownBlock=some b) V (w5.setCell ⟨BX,0,none⟩ (.slice ao' (pre.length+1) c')):=(hT5.mono fun b _ e=>.inr e).trans (t6.mono fun b _ e=>.inl e)
 have hkeep:∀ g cur,V.heap[g]?=some (.cells cur 3 (0,0))->base<=g->¬ O g->¬ (g=BX\/(Value.slice ao pre.length c).ownBlock=some g):=fun g cur hc hb _ h=>by
  rcases h with h | h
  ·omega
  ·obtain⟨cur',hc'⟩:=own_block_ty h3 h
   rw [hc] at hc';cases hc'
 have hlen:(pre++[x]).length=pre.length+1:=by simp
 refine⟨⟨ao',c',vs++[.slice vo x.length vc],?_,t6.heap (hT5.heap h2 (fun e=>by have:=hlow _ e;omega)) (by omega),?_,fun g hgg=>(hl' g (by rw [<-hlen];exact hgg)).2,?_,?_⟩,hTT.mono fun b _ h=>?_⟩
 ·rw [hlen];exact set_one b1
 ·rw [hlen];exact own_keep hO5 t6 (fun g hgg e=>by have:=(hl' g hgg).1;omega)
 ·exact(h5.push hr hg).keep hTT hkeep (fun g _ h=>h)
 ·exact hE.after hTT fun b hb h=>by
   rcases h with h | h
   ·omega
   ·have:=hlow b h;omega
 ·exact h.imp id fun e=>⟨hlow b e,h4 b e⟩
end Go.Proofs.YtfdlhlghcbeblaaGreatDoor
set_option maxRecDepth 100000
set_option maxHeartbeats 8000000
namespace Go.Proofs.YtfdlhlghcbeblaaGreatDoor
open Go.RowKit Go.Ab
attribute [local go_sem] Oper.semAt_some wide_fn wide_depth
def upN(f:Nat)(r:List Nat):List Nat:=r.map fun x=>if f<=x then x+1 else x
def outTo(RS:List (List Nat)) (f i:Nat):List (List Nat):=((List.range f).flatMap fun f=>RS.map fun r=>f::upN f r)++(RS.take i).map fun r=>f::upN f r
def partN(f:Nat)(r:List Nat)(k:Nat):List Nat:=f::upN f (r.take k)
def OrdPost(L:List (List Nat)) (base:Nat) (v:Value) (w':World):Prop:=∃ ao c vs,v=.slice ao L.length c/\w'.ownsRow base 48 1 (.slice ao L.length c) L.length vs/\GridV base (fun _=>False) w' vs L
def OrdsOk(n:Nat):Prop:=∀ w,Calls Tryz.prog 102 #[.int .i64 (n:Int)] w fun e w'=>∃ v,e=.returned v/\OrdPost (ordersR n) w.heap.size v w'/\Ext w w'
end Go.Proofs.YtfdlhlghcbeblaaGreatDoor
set_option maxRecDepth 100000
set_option maxHeartbeats 16000000
namespace Go.Proofs.YtfdlhlghcbeblaaGreatDoor
open Go.RowKit Go.Ab
attribute [local go_sem] Oper.semAt_some wide_fn wide_depth
theorem infoI14:(Tryz.prog.info? 3).map (fun i=>(i.zero,i.size,i.bytes))=some (some (.int .i64 0),1,8):=by kernel_rfl
def OutSt(X:Nat)(K:Nat->Prop)(W:World)(ao:Option Addr)(c:Nat)(L:List (List Nat)):Prop:=∃ vs,W.ownsRow X 48 1 (.slice ao L.length c) L.length vs/\(∀ g,(Value.slice ao L.length c).ownBlock=some g->¬ K g)/\GridV X K W vs L
def RestSt(K:Nat->Prop)(W:World)(v:Value)(RS:List (List Nat)):Prop:=∃ rs,Rd W v RS.length 1 rs/\KeptIn K v/\∀ i (h:i<RS.length),∃ eo ec,rs.getD i undef=.slice eo RS[i].length ec/\Rd W (.slice eo RS[i].length ec) RS[i].length 1 (natV RS[i])/\KeptIn K (.slice eo RS[i].length ec)
theorem RestSt.keep{K:Nat->Prop}{A B:World}{v:Value}{RS:List (List Nat)} (h:RestSt K A v RS) (ht:Turn (fun b=>¬ K b) A B):RestSt K B v RS:=by
 obtain⟨rs,h1,h2,h3⟩:=h
 exact⟨rs,rd_keepS h1 ht h2,h2,fun i hi=>by obtain⟨eo,ec,q1,q2,q3⟩:=h3 i hi;exact⟨eo,ec,q1,rd_keepS q2 ht q3,q3⟩⟩
theorem RestSt.made{A:Nat}{W:World}{ro:Option Addr}{rc:Nat}{rs:List Value}{RS:List (List Nat)} (h1:W.ownsRow A 48 1 (.slice ro RS.length rc) RS.length rs) (h2:GridV A (fun _=>False) W rs RS):RestSt (fun b=>A<=b/\b<W.heap.size) W (.slice ro RS.length rc) RS:=by
 refine⟨rs,Rd.of_own h1,fun g o n c e h=>h1.lt g (by rw [e];simp [Value.ownBlock]),fun i hi=>?_⟩
 obtain⟨eo,ec,q1,q2,_⟩:=h2.2 i hi
 exact⟨eo,ec,q1,Rd.of_own q2,fun g o n c e h=>q2.lt g (by rw [e];simp [Value.ownBlock])⟩
theorem OutSt.keep{X A:Nat}{K:Nat->Prop}{W W2:World}{ao:Option Addr}{c:Nat}{L:List (List Nat)} (h:OutSt X (fun _=>False) W ao c L) (hA:A=W.heap.size) (ht:Ext W W2) (hK:∀ b,K b->A<=b):OutSt X K W2 ao c L:=by
 obtain⟨vs,h1,_,h3⟩:=h
 refine⟨vs,own_ext h1 ht,fun g hg hk=>?_,h3.keep ht (fun _ _ _ _ _ h=>h) fun g hg hk=>?_⟩
 ·have:=(h1.lt g hg).2;have:=hK g hk;omega
 ·have:=hK g hk;omega
theorem OutSt.free{X:Nat}{K:Nat->Prop}{W:World}{ao:Option Addr}{c:Nat}{L:List (List Nat)} (h:OutSt X K W ao c L):OutSt X (fun _=>False) W ao c L:=by
 obtain⟨vs,h1,_,h3⟩:=h
 exact⟨vs,h1,fun _ _ h=>h,h3.keep (Turn.refl (fun _=>False) W) (fun _ _ _ _ _ h=>h) fun _ _ h=>h.elim⟩
theorem OutSt.ext{X:Nat}{K:Nat->Prop}{W W2:World}{ao:Option Addr}{c:Nat}{L:List (List Nat)} (h:OutSt X K W ao c L) (ht:Ext W W2):OutSt X K W2 ao c L:=by
 obtain⟨vs,h1,h2,h3⟩:=h
 exact⟨vs,own_ext h1 ht,h2,h3.keep ht (fun _ _ _ _ _ h=>h) fun _ _ h=>h⟩
theorem OutSt.push{X:Nat}{K:Nat->Prop}{V w5:World}{ao ao' vo:Option Addr}{c c' vc:Nat}{L:List (List Nat)} {x:List Nat} {vs:List Value} (h1:V.ownsRow X 48 1 (.slice ao L.length c) L.length vs) (h2:∀ g,(Value.slice ao L.length c).ownBlock=some g->¬ K g) (h3:GridV X K V vs L)
  (hr:V.ownsRow X 3 1 (.slice vo x.length vc) x.length (natV x)) (hg:∀ g,(Value.slice vo x.length vc).ownBlock=some g->¬ K g) (hKV:∀ b,K b->b<V.heap.size)
  (hO5:w5.ownsRow X 48 1 (.slice ao' (L.length+1) c') (L.length+1) (vs++[.slice vo x.length vc])) (hT5:Turn (fun b=>(Value.slice ao L.length c).ownBlock=some b) V w5) (hB5:(Value.slice ao' (L.length+1) c').ownBlock=(Value.slice ao L.length c).ownBlock\/(Value.slice ao' (L.length+1) c').ownBlock=some V.heap.size) :
  OutSt X K w5 ao' c' (L++[x]):=by
 have hne:∀ g cur,V.heap[g]?=some (.cells cur 3 (0,0))->¬ (Value.slice ao L.length c).ownBlock=some g:=fun g cur hc e=>by
  obtain⟨cur',hc'⟩:=own_block_ty h1 e
  rw [hc'] at hc
  simp only [Option.some.injEq,Obj.cells.injEq] at hc
  exact absurd hc.2.1 (by decide)
 refine⟨vs++[.slice vo x.length vc],by rw [List.length_append];exact hO5,fun g hgg hk=>?_,?_⟩
 ·have hgg:(Value.slice ao' (L.length+1) c').ownBlock=some g:=by simpa [Value.ownBlock] using hgg
  rcases hB5 with e | e
  ·rw [e] at hgg;exact h2 g hgg hk
  ·rw [e] at hgg;cases hgg;have:=hKV _ hk;omega
 ·exact(h3.push hr hg).keep hT5 (fun g cur hc _ _=>hne g cur hc) fun _ _ h=>h
def OrdOut(M X:Nat)(RS:List (List Nat)) (w:World) (a:Act) (W:World):Prop:=∃(f:Nat) (ao:Option Addr) (c:Nat),f<=M/\a.defers=[]/\(a.tmps.size=57/\a.tmps.getD 0 undef=.int .i64 (M:Int)/\a.tmps.getD 3 undef=.slice ao (outTo RS f 0).length c/\a.tmps.getD 4 undef=.int .i64 f)/\OutSt X (fun _=>False) W ao c (outTo RS f 0)/\Ext w W
def OrdMid(M X f Z:Nat)(K:Nat->Prop)(rv:Value)(RS:List (List Nat)) (w W2:World) (a:Act) (V:World):Prop:=∃(i:Nat) (ao:Option Addr) (c:Nat),i<=Z/\a.defers=[]/\(a.tmps.size=57/\a.tmps.getD 0 undef=.int .i64 (M:Int)/\a.tmps.getD 3 undef=.slice ao (outTo RS f i).length c/\a.tmps.getD 4 undef=.int .i64 f/\a.tmps.getD 5 undef=rv/\a.tmps.getD 6 undef=.int .i64 i)/\OutSt X K V ao c (outTo RS f i)/\Turn (fun b=>¬ K b) W2 V/\Ext w V
def OrdIn(M N f i D:Nat)(ov rv:Value)(r:List Nat)(V:World)(a:Act)(U:World):Prop:=∃(k:Nat) (bo:Option Addr) (bc:Nat),k<=N/\a.defers=[]/\(a.tmps.size=57/\a.tmps.getD 0 undef=.int .i64 (M:Int)/\a.tmps.getD 3 undef=ov/\a.tmps.getD 4 undef=.int .i64 f/\a.tmps.getD 5 undef=rv/\a.tmps.getD 6 undef=.int .i64 i/\a.tmps.getD 7 undef=.slice bo (k+1) bc/\a.tmps.getD 8 undef=.int .i64 k)/\U.ownsRow D 3 1 (.slice bo (k+1) bc) (k+1) (natV (partN f r k))/\Ext V U
end Go.Proofs.YtfdlhlghcbeblaaGreatDoor
set_option maxRecDepth 100000
set_option maxHeartbeats 16000000
namespace Go.Proofs.YtfdlhlghcbeblaaGreatDoor
open Go.RowKit Go.Ab
attribute [local go_sem] Oper.semAt_some wide_fn wide_depth
def expR(ps:LawsL)(qs:PairsL)(L:List (List Nat)):List (List Nat):=L.filter fun x=>decide (firstR ps x qs=qs.length)
def ListRd(W:World)(vs:List Value)(L:List (List Nat)):Prop:=vs.length=L.length/\∀ i (h:i<L.length),∃ eo ec,vs.getD i undef=.slice eo L[i].length ec/\Rd W (.slice eo L[i].length ec) L[i].length 1 (natV L[i])
theorem ListRd.push{W:World}{vs:List Value}{L:List (List Nat)} {x:List Nat} {eo:Option Addr} {ec:Nat} (h:ListRd W vs L) (hx:Rd W (.slice eo x.length ec) x.length 1 (natV x)):ListRd W (vs++[.slice eo x.length ec]) (L++[x]):=by
 refine⟨by simp [h.1],fun i hi=>?_⟩
 by_cases hl:i<L.length
 ·obtain⟨ao',c',q1,q2⟩:=h.2 i hl
  refine⟨ao',c',?_,?_⟩
  ·rw [List.getD_eq_getElem?_getD,List.getElem?_append_left (by rw [h.1];exact hl),<-List.getD_eq_getElem?_getD,q1,List.getElem_append_left hl]
  ·rw [List.getElem_append_left hl];exact q2
 ·have he:i=L.length:=by simp at hi;omega
  subst he
  have e:(L++[x])[L.length]'hi=x:=by simp
  refine⟨eo,ec,?_,?_⟩
  ·rw [e,List.getD_eq_getElem?_getD,<-h.1,List.getElem?_append_right (Nat.le_refl _)];simp
  ·rw [e];exact hx
def CapOk(v:Value):Prop:=∀ ao n c,v=.slice ao n c->n<=c
def ExpSt(ps:LawsL)(qs:PairsL)(RS:List (List Nat)) (l0 l1 av:Value) (B Z:Nat) (_w W2:World) (a:Act) (W:World):Prop:=∃(k:Nat) (ao:Option Addr) (c:Nat) (vs:List Value),k<=Z/\a.defers=[]/\(a.tmps.size=35/\a.tmps.getD 0 undef=l0/\a.tmps.getD 1 undef=l1/\a.tmps.getD 5 undef=.slice ao (expR ps qs (RS.take k)).length c/\a.tmps.getD 6 undef=av/\a.tmps.getD 7 undef=.int .i64 k)/\W.ownsRow B 48 1 (.slice ao (expR ps qs (RS.take k)).length c) (expR ps qs (RS.take k)).length vs/\ListRd W2 vs (expR ps qs (RS.take k))/\Ext W2 W
end Go.Proofs.YtfdlhlghcbeblaaGreatDoor
set_option maxRecDepth 100000
set_option maxHeartbeats 8000000
namespace Go.Proofs.YtfdlhlghcbeblaaGreatDoor
open Go.RowKit Go.Ab
attribute [local go_sem] Oper.semAt_some wide_fn wide_depth
def rexpX(ps:LawsL)(qs:PairsL):List Nat:=if ordE (ps.map (·.1)) (qs.map (·.1))=0 then(expR ps qs (ordersR ps.length)).headD [] else []
def rexpB(ps:LawsL)(qs:PairsL):Bool:=if ordE (ps.map (·.1)) (qs.map (·.1))=0 then !(expR ps qs (ordersR ps.length)).isEmpty else false
end Go.Proofs.YtfdlhlghcbeblaaGreatDoor
set_option maxRecDepth 100000
set_option maxHeartbeats 8000000
namespace Go.Proofs.YtfdlhlghcbeblaaGreatDoor
open Go.RowKit Go.Ab
attribute [local go_sem] Oper.semAt_some wide_fn wide_depth
def rallL(ps:LawsL)(qs:PairsL)(most:Int):List (List Nat):=if ordE (ps.map (·.1)) (qs.map (·.1))=0 then(expR ps qs (ordersR ps.length)).take most.toNat else []
end Go.Proofs.YtfdlhlghcbeblaaGreatDoor
namespace Go.Proofs.YtfdlhlghcbeblaaGreatDoor
open Go.RowKit Go.Ab
attribute [local go_sem] Oper.semAt_some wide_fn wide_depth
def cntR(ps:LawsL)(qs:PairsL)(x:List Nat):Nat:=(explsR ps x qs).countP id
def bestStepR(ps:LawsL)(qs:PairsL)(s:List Nat × Int)(x:List Nat):List Nat × Int:=if s.2<(cntR ps qs x:Int) then(x,(cntR ps qs x:Int)) else s
def bestR(ps:LawsL)(qs:PairsL)(l:List (List Nat)):List Nat × Int:=l.foldl (bestStepR ps qs) ([],-1)
theorem cntTo_succ{l:List Bool}{k:Nat}(hk:k<l.length):(l.take (k+1)).countP id=(l.take k).countP id+if l[k]=true then 1 else 0:=by
 rw [List.take_succ_eq_append_getElem hk,List.countP_append]
 cases h:l[k] <;> simp
end Go.Proofs.YtfdlhlghcbeblaaGreatDoor
