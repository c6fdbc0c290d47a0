/- What law.Trace returns, in memory; rows of places and words as they grow. PLAIN: the mirror image of a law. PLAIN: what law.Once answers (cut off from XOnce). PLAIN: a law that is applied again and again. PLAIN: the laws of chapter 8: lengths, the first replacement, laws for each sound alone. PLAIN: derivations: laws, one after the other. order.start (printed by genords.py). -/
import Derived.Test.YtfdlhlghcbeblaaGreatDoorH15
import Derived.Test.YtfdlhlghcbeblaaGreatDoorH11
import Derived.Test.YtfdlhlghcbeblaaGreatDoorH06
import Derived.Test.YtfdlhlghcbeblaaGreatDoorH12
import Derived.Test.YtfdlhlghcbeblaaGreatDoorH09
namespace Go.Proofs.YtfdlhlghcbeblaaGreatDoor
open Go.RowKit Go.Ab
attribute [local go_sem] Oper.semAt_some wide_fn wide_depth
theorem cell_cells{A:World}{p:Addr}{v:Value}(h:A.cell? p=some v):∃ o,A.heap[p.block]?=some o/\o.isCells=true:=by
 unfold World.cell? at h
 split at h
 ·exact⟨_,by assumption,rfl⟩
 ·cases h
theorem cell_shut{base:Nat}{A B:World}(ht:Turn (Go.Ab.Shut base A) A B) {p:Addr} {v:Value} (h:A.cell? p=some v):B.cell? p=some v:=by
 obtain⟨o,h1,h2⟩:=cell_cells h
 exact ht.cell_some h (Go.Ab.Shut.not h1 h2)
theorem Rd.shut{base:Nat}{A B:World}(ht:Turn (Go.Ab.Shut base A) A B) {v:Value} {n sz:Nat} {xs:List Value} (h:Rd A v n sz xs):Rd B v n sz xs:=by
 obtain⟨h1,h2,ao,cap,hv,h3⟩:=h
 refine⟨h1,h2,ao,cap,hv,fun hn=>?_⟩
 obtain⟨g,off,ha,hg,hc⟩:=h3 hn
 exact⟨g,off,ha,Nat.lt_of_lt_of_le hg ht.size,fun j hj=>cell_shut ht (hc j hj)⟩
theorem Rd.nocells{r:Nat}{A B:World}(ht:Turn (fun b=>b=r) A B) (hr:∃ o,A.heap[r]?=some o/\o.isCells=false) {v:Value} {n sz:Nat} {xs:List Value} (h:Rd A v n sz xs):Rd B v n sz xs:=by
 obtain⟨h1,h2,ao,cap,hv,h3⟩:=h
 refine⟨h1,h2,ao,cap,hv,fun hn=>?_⟩
 obtain⟨g,off,ha,hg,hc⟩:=h3 hn
 refine⟨g,off,ha,Nat.lt_of_lt_of_le hg ht.size,fun j hj=>ht.cell_some (hc j hj) (fun e=>?_)⟩
 obtain⟨o,q1,q2⟩:=cell_cells (hc j hj)
 obtain⟨o',q3,q4⟩:=hr
 simp only at e q1
 rw [e,q3] at q1
 cases q1
 rw [q4] at q2;cases q2
theorem own_shut{base0:Nat}{A B:World}{base:Nat}{e:TypeId}{sz:Nat}{v:Value}{n:Nat}{xs:List Value}(h:A.ownsRow base e sz v n xs)(ht:Turn (Go.Ab.Shut base0 A) A B):B.ownsRow base e sz v n xs:=
 own_turn h ht fun _ _ hg ho=>Go.Ab.Shut.not hg ho
theorem own_ne{W:World}{b1 b2:Nat}{e1 e2:TypeId}{s1 s2 n1 n2:Nat}{v1 v2:Value}{x1 x2:List Value}(h1:W.ownsRow b1 e1 s1 v1 n1 x1)(h2:W.ownsRow b2 e2 s2 v2 n2 x2)(he:e1≠e2):∀ g,v1.ownBlock=some g->v2.ownBlock≠some g:=by
 intro g hg hg2
 obtain⟨c1,q1⟩:=own_block_ty h1 hg
 obtain⟨c2,q2⟩:=own_block_ty h2 hg2
 rw [q1] at q2
 simp only [Option.some.injEq,Obj.cells.injEq] at q2
 exact he q2.2.1
theorem cells_news{W:World}{g:Nat}{v:Value}{t:TypeId}(h:W.heap[g]?=some (.cells #[v] t (0,0))):∀ j u,[v][j]?=some u->W.cell? ((⟨g,0,none⟩:Addr).add j)=some u:=by
 intro j u hj
 match j,hj with
 | 0,hj=>
  simp at hj
  subst hj
  exact cell_of_one h
theorem OneW.keepS{S:Nat->Prop}{A B:World}{v:Value}{u:Wd}(h:OneW A v u)(ht:Turn (fun b=>¬ S b) A B) (hS:KeptIn S v):OneW B v u:=by
 obtain⟨ao,c,rfl,h2,h3⟩:=h
 exact⟨ao,c,rfl,wd_keepS h2 ht hS,h3⟩
theorem OneW.shut{base:Nat}{A B:World}(ht:Turn (Go.Ab.Shut base A) A B) {v:Value} {u:Wd} (h:OneW A v u):OneW B v u:=by
 obtain⟨ao,c,rfl,h2,h3⟩:=h
 exact⟨ao,c,rfl,⟨Rd.shut ht h2.1,h2.2⟩,h3⟩
theorem WordsAt.keepS{S:Nat->Prop}{A B:World}(ht:Turn (fun b=>¬ S b) A B):∀ {vs:List Value} {us:List Wd},WordsAt A vs us->(∀ x∈vs,KeptIn S x)->WordsAt B vs us
 | [],[],_,_=>trivial
 | _::_,_::_,⟨h1,h2⟩,hS=>⟨h1.keepS ht (hS _ (by simp)),h2.keepS ht (fun x hx=>hS x (by simp [hx]))⟩
theorem WordsAt.shut{base:Nat}{A B:World}(ht:Turn (Go.Ab.Shut base A) A B):∀ {vs:List Value} {us:List Wd},WordsAt A vs us->WordsAt B vs us
 | [],[],_=>trivial
 | _::_,_::_,⟨h1,h2⟩=>⟨h1.shut ht,h2.shut ht⟩
theorem KeptIn.mono{S T:Nat->Prop}{v:Value}(h:KeptIn S v)(hst:∀ b,S b->T b):KeptIn T v:=fun g o n c e h0=>hst _ (h g o n c e h0)
def TrOut(b:Nat)(W:World)(u v:Value)(t:List (Nat × Wd)):Prop:=
 W.ownsRow b 3 1 u t.length (natV (t.map (·.1)))/\∃ vals,W.ownsRow b 99 1 v t.length vals/\WordsAt W vals (t.map (·.2))
theorem TrOut.nil(b:Nat)(W:World):TrOut b W (.slice none 0 0) (.slice none 0 0) []:=⟨World.ownsRow_nil _ _ _ _,[],World.ownsRow_nil _ _ _ _,trivial⟩
theorem TrOut.ext{b:Nat}{A B:World}{u v:Value}{t:List (Nat × Wd)} (h:TrOut b A u v t) (ht:Ext A B):TrOut b B u v t:=by
 obtain⟨h1,vals,h2,h3⟩:=h
 exact⟨own_ext h1 ht,vals,own_ext h2 ht,h3.ext ht⟩
theorem TrOut.base{b b':Nat}{A:World}{u v:Value}{t:List (Nat × Wd)} (h:TrOut b A u v t) (hb:b'<=b):TrOut b' A u v t:=by
 obtain⟨h1,vals,h2,h3⟩:=h
 exact⟨own_base h1 hb,vals,own_base h2 hb,h3⟩
theorem TrOut.slices{b:Nat}{A:World}{u v:Value}{t:List (Nat × Wd)} (h:TrOut b A u v t):∃ uo uc vo vc,u=.slice uo t.length uc/\v=.slice vo t.length vc/\t.length<=maxLen:=by
 obtain⟨h1,vals,h2,h3⟩:=h
 obtain⟨_,_,uo,uc,rfl,_⟩:=Rd.of_own h1
 obtain⟨_,h4,vo,vc,rfl,_⟩:=Rd.of_own h2
 exact⟨uo,uc,vo,vc,rfl,rfl,h4⟩
theorem TrOut.at{b:Nat}{A:World}{u vv:Value}{t:List (Nat × Wd)} (h:TrOut b A u vv t) {i:Nat} (hi:i<t.length) :
  ∃ g cap ao c,vv=.slice (some ⟨g,0,none⟩) t.length cap/\A.cell? ⟨g,i,none⟩=some (.slice ao t[i].2.length c)/\WordAt A (.slice ao t[i].2.length c) t[i].2/\t[i].2.length<=c:=by
 obtain⟨_,vals,h2,h3⟩:=h
 obtain⟨q1,q2,ao,cap,rfl,q3⟩:=Rd.of_own h2
 obtain⟨g,rfl⟩:=own_some h2 (by omega)
 obtain⟨g',off,q4,_,q5⟩:=q3 (by omega)
 simp only [Option.some.injEq,Addr.mk.injEq] at q4
 obtain⟨rfl,rfl,_⟩:=q4
 have hw:=h3.get i (by simpa using hi)
 have hgd:(t.map (·.2)).getD i []=t[i].2:=by rw [List.getD_eq_getElem?_getD,List.getElem?_map,List.getElem?_eq_getElem hi];rfl
 rw [hgd] at hw
 obtain⟨ao,c,hv,hw,hc⟩:=hw
 have:=q5 i (by omega)
 rw [Nat.zero_add,hv] at this
 exact⟨g,cap,ao,c,rfl,this,hw,hc⟩
structure TrI (w:World) (B P D m:Nat) (O:Nat->Prop) (pre:List (Nat × Wd)) (V:World) (u v:Value) (vals:List Value):Prop where
 ru:V.heap[B+1]?=some (.cells #[.slice none 0 0] 48 (0,0))
 rv:V.heap[B+2]?=some (.cells #[.slice none 0 0] 60 (0,0))
 re:V.heap[B+3]?=some (.cells #[.int .i64 0] 40 (0,0))
 bu:V.heap[P]?=some (.cells #[u] 48 (0,0))
 bv:V.heap[P+1]?=some (.cells #[v] 60 (0,0))
 ou:V.ownsRow (D+2) 3 1 u pre.length (natV (pre.map (·.1)))
 ov:V.ownsRow (D+2) 99 1 v pre.length vals
 wd:WordsAt V vals (pre.map (·.2))
 ub:∀ g,u.ownBlock=some g->¬ O g
 vb:∀ g,v.ownBlock=some g->¬ O g
 wk:∀ x∈vals,KeptIn (fun g=>D+2+m<=g/\g<V.heap.size/\u.ownBlock≠some g/\v.ownBlock≠some g) x
 ext:Ext w V
 short:longT pre=false
section
variable {w:World} {B P D m:Nat} {O:Nat->Prop} {pre:List (Nat × Wd)} {V:World} {u v:Value} {vals:List Value}
theorem TrI.turn(h:TrI w B P D m O pre V u v vals){O':Nat->Prop}{W:World}(hB:w.heap.size=B)(hBP:B+4<=P)(hPD:P+2<=D)(hO:∀ b,O b->D+2<=b/\b<V.heap.size)
  (ht:Turn (fun b=>(O b/\RunM m (D+2) b)\/b=D+1) V W) (hO':∀ b,O' b->(O b\/V.heap.size<=b)/\b<W.heap.size):TrI w B P D m O' pre W u v vals:=by
 have low:∀ b,b<D->¬ ((O b/\RunM m (D+2) b)\/b=D+1):=fun b hb hn=>by
  rcases hn with h1 | h1
  ·have:=(hO b h1.1).1;omega
  ·omega
 have hown:∀ {x:Value},(∀ g,x.ownBlock=some g->¬ O g)->(∀ g,x.ownBlock=some g->D+2<=g)->∀ g,x.ownBlock=some g->¬ ((O g/\RunM m (D+2) g)\/g=D+1):=fun h1 h2 g hg hn=>by
  rcases hn with h3 | h3
  ·exact h1 g hg h3.1
  ·have:=h2 g hg;omega
 refine⟨ht.heap h.ru (low _ (by omega)),ht.heap h.rv (low _ (by omega)),ht.heap h.re (low _ (by omega)),ht.heap h.bu (low _ (by omega)),ht.heap h.bv (low _ (by omega)),own_keep h.ou ht (hown h.ub (fun g hg=>(h.ou.lt g hg).1)),own_keep h.ov ht (hown h.vb (fun g hg=>(h.ov.lt g hg).1)),?_,fun g hg hg2=>?_,fun g hg hg2=>?_,fun x hx=>(h.wk x hx).mono fun b hb=>⟨hb.1,Nat.lt_of_lt_of_le hb.2.1 ht.size,hb.2.2⟩,h.ext.after ht (fun b hb hn=>low b (by omega) hn),h.short⟩
 ·refine h.wd.keepS (S:=fun g=>D+2+m<=g) (ht.mono fun b _ hb hn=>?_) (fun x hx=>(h.wk x hx).mono fun b hb=>hb.1)
  rcases hb with h1 | h1
  ·have:=h1.2;unfold RunM at this;omega
  ·omega
 ·rcases(hO' g hg2).1 with h1 | h1
  ·exact h.ub g hg h1
  ·have:=(h.ou.lt g hg).2;omega
 ·rcases(hO' g hg2).1 with h1 | h1
  ·exact h.vb g hg h1
  ·have:=(h.ov.lt g hg).2;omega
theorem TrI.push(h:TrI w B P D m O pre V u v vals)(hB:w.heap.size=B)(hBP:B+4<=P)(hPD:P+2<=D)(hO:∀ b,O b->D+2<=b/\b<V.heap.size)(_hDV:D+2<=V.heap.size)
  {x:Nat × Wd} {ao:Option Addr} {c:Nat} (hw:WordAt V (.slice ao x.2.length c) x.2) (hc:x.2.length<=c) (hk:KeptIn (fun g=>O g/\D+2+m<=g/\g<V.heap.size) (.slice ao x.2.length c)) (h32:x.2.length<=32)
  {W:World} {u' v':Value} (fu:W.ownsRow (D+2) 3 1 u' (pre.length+1) (natV (pre.map (·.1))++[.int .i64 (x.1:Int)])) (fv:W.ownsRow (D+2) 99 1 v' (pre.length+1) (vals++[.slice ao x.2.length c]))
  (ht:Turn (fun b=>u.ownBlock=some b\/v.ownBlock=some b) V W) (hu:u'.ownBlock=u.ownBlock\/∃ k,V.heap.size<=k/\u'.ownBlock=some k) (hv:v'.ownBlock=v.ownBlock\/∃ k,V.heap.size<=k/\v'.ownBlock=some k) :
  (∃ u v vals,TrI w B P D m O (pre++[x]) ((W.setCell ⟨P,0,none⟩ u').setCell ⟨P+1,0,none⟩ v') u v vals)/\Turn (fun b=>¬ ((b<D/\b≠P/\b≠P+1/\b≠B+1/\b≠B+2/\b≠B+3)\/O b\/b=D\/b=D+1)) V ((W.setCell ⟨P,0,none⟩ u').setCell ⟨P+1,0,none⟩ v'):=by
 obtain⟨W2,hW2⟩:∃ D,(W.setCell ⟨P,0,none⟩ u').setCell ⟨P+1,0,none⟩ v'=D:=⟨_,rfl⟩
 have hT2:Turn (fun b=>b=P\/b=P+1) W W2:=by rw [<-hW2];exact((Turn.set1 W P 0 u').mono fun b _ e=>.inl e).trans ((Turn.set1 _ (P+1) 0 v').mono fun b _ e=>.inr e)
 have blk:∀ b,(u.ownBlock=some b\/v.ownBlock=some b)->D+2<=b/\¬ O b/\b<V.heap.size:=fun b hb=>by
  rcases hb with hb | hb
  ·exact⟨(h.ou.lt b hb).1,h.ub b hb,(h.ou.lt b hb).2⟩
  ·exact⟨(h.ov.lt b hb).1,h.vb b hb,(h.ov.lt b hb).2⟩
 have low:∀ b,b<D->¬ (u.ownBlock=some b\/v.ownBlock=some b):=fun b hb hn=>by have:=(blk b hn).1;omega
 have bu1:=ht.heap h.bu (low _ (by omega))
 have bv1:=ht.heap h.bv (low _ (by omega))
 have bu2:W2.heap[P]?=some (.cells #[u'] 48 (0,0)):=by
  rw [<-hW2];exact(Turn.set1 _ (P+1) 0 v').heap (cell1_set u' bu1) (by omega)
 have bv2:W2.heap[P+1]?=some (.cells #[v'] 60 (0,0)):=by
  rw [<-hW2];exact cell1_set v' ((Turn.set1 W P 0 u').heap bv1 (by omega))
 have hub:∀ g,u'.ownBlock=some g->D+2<=g:=fun g hg=>(fu.lt g hg).1
 have hvb:∀ g,v'.ownBlock=some g->D+2<=g:=fun g hg=>(fv.lt g hg).1
 have noO:∀ {y y':Value},(∀ g,y.ownBlock=some g->¬ O g)->(y'.ownBlock=y.ownBlock\/∃ k,V.heap.size<=k/\y'.ownBlock=some k)->∀ g,y'.ownBlock=some g->¬ O g:=fun h1 h2 g hg ho=>by
  rcases h2 with h2 | ⟨k,h2,h3⟩
  ·exact h1 g (h2 ▸ hg) ho
  ·rw [h3] at hg;cases hg;have:=(hO _ ho).2;omega
 have off:∀ {y y':Value} (g:Nat),y.ownBlock≠some g->g<V.heap.size->(y'.ownBlock=y.ownBlock\/∃ k,V.heap.size<=k/\y'.ownBlock=some k)->y'.ownBlock≠some g:=fun g h1 h2 h3=>by
  rcases h3 with h3 | ⟨k,h3,h4⟩
  ·rw [h3];exact h1
  ·rw [h4];intro e;cases e;omega
 have hsz:=Nat.le_trans ht.size hT2.size
 have hTV:Turn (fun b=>(u.ownBlock=some b\/v.ownBlock=some b)\/(b=P\/b=P+1)) V W2:=(ht.mono fun b _ e=>.inl e).trans (hT2.mono fun b _ e=>.inr e)
 have knew:KeptIn (fun g=>D+2+m<=g/\g<V.heap.size/\u.ownBlock≠some g/\v.ownBlock≠some g) (.slice ao x.2.length c):=hk.mono fun b hb=>⟨hb.2.1,hb.2.2,fun e=>h.ub b e hb.1,fun e=>h.vb b e hb.1⟩
 have kall:∀ y∈vals++[.slice ao x.2.length c],KeptIn (fun g=>D+2+m<=g/\g<V.heap.size/\u.ownBlock≠some g/\v.ownBlock≠some g) y:=fun y hy=>by
  rcases List.mem_append.1 hy with hy | hy
  ·exact h.wk y hy
  ·simp only [List.mem_singleton] at hy;subst hy;exact knew
 rw [hW2]
 refine⟨⟨u',v',vals++[.slice ao x.2.length c],⟨?_,?_,?_,bu2,bv2,?_,?_,?_,noO h.ub hu,noO h.vb hv,fun y hy=>(kall y hy).mono fun b hb=>⟨hb.1,Nat.lt_of_lt_of_le hb.2.1 hsz,off b hb.2.2.1 hb.2.1 hu,off b hb.2.2.2 hb.2.1 hv⟩,?_,?_⟩⟩,hTV.mono fun b hb e hn=>?_⟩
 ·exact hT2.heap (ht.heap h.ru (low _ (by omega))) (by omega)
 ·exact hT2.heap (ht.heap h.rv (low _ (by omega))) (by omega)
 ·exact hT2.heap (ht.heap h.re (low _ (by omega))) (by omega)
 ·rw [List.length_append,List.map_append]
  show W2.ownsRow _ _ _ _ _ (natV (pre.map (·.1)++[x.1]))
  rw [natV_append]
  exact own_keep fu hT2 (fun g hg e=>by have:=hub g hg;omega)
 ·rw [List.length_append]
  exact own_keep fv hT2 (fun g hg e=>by have:=hvb g hg;omega)
 ·rw [List.map_append]
  refine(h.wd.snoc ⟨ao,c,rfl,hw,hc⟩).keepS (S:=fun g=>D+2+m<=g/\g<V.heap.size/\u.ownBlock≠some g/\v.ownBlock≠some g) (hTV.mono fun b _ e hn=>?_) kall
  rcases e with (e | e) | e
  ·exact hn.2.2.1 e
  ·exact hn.2.2.2 e
  ·omega
 ·refine h.ext.after hTV (fun b hb e=>?_)
  rcases e with e | e
  ·exact low b (by omega) e
  ·omega
 ·have:=h.short
  unfold longT at this ⊢
  rw [List.any_append,this]
  simp;omega
 ·rcases e with e | e
  ·obtain⟨q1,q2,q3⟩:=blk b e
   rcases hn with hn | hn | hn | hn
   ·omega
   ·exact q2 hn
   ·omega
   ·omega
  ·rcases hn with hn | hn | hn | hn
   ·omega
   ·have:=(hO b hn).1;omega
   ·omega
   ·omega
end
theorem set3{V:World}{b c d:Nat}{x1 x2 x3:Value}{t1 t2 t3:TypeId}(h1:V.heap[b]?=some (.cells #[x1] t1 (0,0))) (h2:V.heap[c]?=some (.cells #[x2] t2 (0,0))) (h3:V.heap[d]?=some (.cells #[x3] t3 (0,0))) (hbc:b≠c) (hcd:c≠d) (hbd:b≠d) (y1 y2 y3:Value) :
  (((V.setCell ⟨b,0,none⟩ y1).setCell ⟨c,0,none⟩ y2).setCell ⟨d,0,none⟩ y3).heap[b]?=some (.cells #[y1] t1 (0,0))/\(((V.setCell ⟨b,0,none⟩ y1).setCell ⟨c,0,none⟩ y2).setCell ⟨d,0,none⟩ y3).heap[c]?=some (.cells #[y2] t2 (0,0))/\(((V.setCell ⟨b,0,none⟩ y1).setCell ⟨c,0,none⟩ y2).setCell ⟨d,0,none⟩ y3).heap[d]?=some (.cells #[y3] t3 (0,0)) /\
  Turn (fun x=>x=b\/x=c\/x=d) V (((V.setCell ⟨b,0,none⟩ y1).setCell ⟨c,0,none⟩ y2).setCell ⟨d,0,none⟩ y3):=
 ⟨(Turn.set1 _ d 0 y3).heap ((Turn.set1 _ c 0 y2).heap (cell1_set y1 h1) (by omega)) (by omega),(Turn.set1 _ d 0 y3).heap (cell1_set y2 ((Turn.set1 V b 0 y1).heap h2 (by omega))) (by omega),
  cell1_set y3 ((Turn.set1 _ c 0 y2).heap ((Turn.set1 V b 0 y1).heap h3 (by omega)) (by omega)),(((Turn.set1 V b 0 y1).mono fun x _ e=>.inl e).trans ((Turn.set1 _ c 0 y2).mono fun x _ e=>.inr (.inl e))).trans ((Turn.set1 _ d 0 y3).mono fun x _ e=>.inr (.inr e))⟩
theorem results_three{fn:Func}{p q r:Tmp}(h:fn.results=#[.cell p 48,.cell q 60,.cell r 40]){tmps:Array Value}{w:World}{b c d:Nat}{x y z:Value}
  (hp:tmps.getD p undef=.pointer (some ⟨b,0,none⟩)) (hq:tmps.getD q undef=.pointer (some ⟨c,0,none⟩)) (hr:tmps.getD r undef=.pointer (some ⟨d,0,none⟩))
  (hx:w.heap[b]?=some (.cells #[x] 48 (0,0))) (hy:w.heap[c]?=some (.cells #[y] 60 (0,0))) (hz:w.heap[d]?=some (.cells #[z] 40 (0,0))) :
  (results fn tmps).run Tryz.prog w=.ok (.tuple #[x,y,z]) w:=by
 have hp':tmps[p]?.getD undef=.pointer (some ⟨b,0,none⟩):=by simpa using hp
 have hq':tmps[q]?.getD undef=.pointer (some ⟨c,0,none⟩):=by simpa using hq
 have hr':tmps[r]?.getD undef=.pointer (some ⟨d,0,none⟩):=by simpa using hr
 have c1:=cell_of_one hx
 have c2:=cell_of_one hy
 have c3:=cell_of_one hz
 simp [results,h,hp',hq',hr',asAddr,go_sem,c1,c2,c3]
end Go.Proofs.YtfdlhlghcbeblaaGreatDoor
namespace Go.Proofs.YtfdlhlghcbeblaaGreatDoor
open Go.RowKit Go.Ab
def mirOut(k:Nat)(x:OutD):OutD:=⟨if 0<=x.frm then(k:Int) - 1 - x.frm else x.frm,x.cl,x.st,x.tk,if x.tk=0 then x.ofi else(k:Int) - 1 - x.ofi⟩
def mirLaw(l:LawD):LawD:=⟨l.name,mirP l.right,mirP l.left,l.ifs.reverse,(l.outs.map (mirOut l.ifs.length)).reverse,if l.mode=2 then 3 else 2⟩
end Go.Proofs.YtfdlhlghcbeblaaGreatDoor
namespace Go.Proofs.YtfdlhlghcbeblaaGreatDoor
open Go.RowKit Go.Ab
def onceE(l:LawD)(ws:Wd)(z:Int):Int:=
 if lawW l ws=0 then(if z<0\/(ws.length:Int)<z then 3 else if hitL l ws z.toNat=false then 5 else if 32<(replL l ws z.toNat).length then 11 else 0) else lawW l ws
def onceW(l:LawD)(ws:Wd)(z:Int):Wd:=if onceE l ws z=0 then replL l ws z.toNat else []
end Go.Proofs.YtfdlhlghcbeblaaGreatDoor
namespace Go.Proofs.YtfdlhlghcbeblaaGreatDoor
open Go.RowKit Go.Ab
def setR(l:LawD):Nat->Nat->Wd->Wd × Nat × Int
 | 0,n,u=>(u,n,0)
 | f+1,n,u=>if trE l u=0 then(if appL l u=u then(u,n,0) else setR l f (n+1) (appL l u)) else([],0,trE l u)
def setV(l:LawD)(ws:Wd)(z:Int):Wd × Nat × Int:=
 if lawW l ws=0 then(if z<0\/100<z then([],0,3) else setR l z.toNat 0 ws) else([],0,lawW l ws)
end Go.Proofs.YtfdlhlghcbeblaaGreatDoor
namespace Go.Proofs.YtfdlhlghcbeblaaGreatDoor
open Go.RowKit Go.Ab
abbrev emptyPat:Pat:=.node 0 0 0 false 0 0 []
def aloneF(l:LawD)(s:Nat × Nat):Wd:=if satV s (l.ifs.getD 0 (0,0))=true then putL l [s] else [s]
end Go.Proofs.YtfdlhlghcbeblaaGreatDoor
namespace Go.Proofs.YtfdlhlghcbeblaaGreatDoor
open Go.RowKit Go.Ab
def derO:List LawD->Wd->Option Wd
 | [],w=>some w
 | l::ls,w=>if trE l w=0 then derO ls (appL l w) else none
def lawsE(ls:List LawD):Int:=if 64<ls.length then 12 else if ls.all lawB=true then 0 else 17
def lwsE(ls:List LawD)(w:Wd):Int:=if lawsE ls=0 then wE w else lawsE ls
def derE(ls:List LawD)(w:Wd):Int:=if lwsE ls w=0 then(if (derO ls w).isSome=true then 0 else 11) else lwsE ls w
def derW(ls:List LawD)(w:Wd):Wd:=if lwsE ls w=0 then(derO ls w).getD [] else []
theorem derE_bad{ls:List LawD}{w:Wd}(h:lwsE ls w≠0):derE ls w=lwsE ls w/\derW ls w=[]:=by
 unfold derE derW;rw [if_neg h,if_neg h];exact⟨rfl,rfl⟩
theorem derE_none{ls:List LawD}{w:Wd}(h:lwsE ls w=0)(hn:derO ls w=none):derE ls w=11/\derW ls w=[]:=by
 unfold derE derW;rw [if_pos h,if_pos h,hn];exact⟨rfl,rfl⟩
theorem derE_some{ls:List LawD}{w v:Wd}(h:lwsE ls w=0)(hn:derO ls w=some v):derE ls w=0/\derW ls w=v:=by
 unfold derE derW;rw [if_pos h,if_pos h,hn];exact⟨rfl,rfl⟩
theorem derO_append:∀(ls ms:List LawD) (w:Wd),derO (ls++ms) w=(derO ls w).bind (derO ms)
 | [],_,_=>rfl
 | l::ls,ms,w=>by
  show derO (l::(ls++ms)) w=_
  unfold derO
  by_cases h:trE l w=0
  ·rw [if_pos h,if_pos h];exact derO_append ls ms _
  ·rw [if_neg h,if_neg h];rfl
theorem derO_take{ls:List LawD}{k:Nat}(hk:k<ls.length)(w:Wd):derO (ls.take (k+1)) w=(derO (ls.take k) w).bind fun u=>if trE ls[k] u=0 then some (appL ls[k] u) else none:=by
 rw [List.take_succ_eq_append_getElem hk,derO_append]
 congr 1
theorem derO_stop{ls:List LawD}{k:Nat}{w u:Wd}(hk:k<ls.length)(h1:derO (ls.take k) w=some u) (h2:trE ls[k] u≠0):derO ls w=none:=by
 have e:ls=ls.take (k+1)++ls.drop (k+1):=(List.take_append_drop _ _).symm
 rw [e,derO_append,derO_take hk,h1]
 simp [h2]
theorem derO_all{ls:List LawD}{k:Nat}{w:Wd}(hk:ls.length<=k):derO (ls.take k) w=derO ls w:=by rw [List.take_of_length_le hk]
end Go.Proofs.YtfdlhlghcbeblaaGreatDoor
set_option maxRecDepth 100000
set_option maxHeartbeats 16000000
namespace Go.Proofs.YtfdlhlghcbeblaaGreatDoor
open Go.RowKit Go.Ab
attribute [local go_sem] Oper.semAt_some wide_fn wide_depth
abbrev PairsL:=List ((Wd × Wd) × List Value)
def startC(qs:PairsL):List Value:=qs.flatMap fun q=>[q.2.getD 0 undef,.bool false]
def startS(qs:PairsL):List (Option Wd × List Value):=qs.map fun q=>(some q.1.1,[q.2.getD 0 undef,.bool false])
theorem infoSt:(Tryz.prog.info? 240).map (fun i=>(i.zero,i.size,i.bytes))=some (some (.agg #[.slice none 0 0,.bool false]),2,32):=by kernel_rfl
theorem startC_succ{qs:PairsL}{k:Nat}(h:k<qs.length):startC (qs.take (k+1))=startC (qs.take k)++[qs[k].2.getD 0 undef,.bool false]:=by
 rw [List.take_succ_eq_append_getElem h];unfold startC;rw [List.flatMap_append];rfl
theorem start_states{w:World}{v:Value}{qs:PairsL}{n:Nat}{e:TypeId}{b:Nat}(hn:qs.length=n)(h:w.ownsRow b e 2 v n (startC qs)) (hq:∀ q∈qs,PairOk w q.1 q.2):StatesAt w v (startS qs):=by
 refine⟨?_,fun p hp=>?_⟩
 ·have hr:=Rd.of_own h
  have e1:(startS qs).length=n:=by unfold startS;rw [List.length_map,hn]
  have e2:(startS qs).flatMap (·.2)=startC qs:=by unfold startS startC;rw [List.flatMap_map]
  rw [e1,e2];exact hr
 ·obtain⟨q,hqm,rfl⟩:=List.mem_map.1 hp
  obtain⟨u,v,h1,⟨ao,c,rfl,h2,h3⟩,_⟩:=hq q hqm
  refine⟨rfl,ao,_,c,by rw [h1];rfl,fun x hx=>?_⟩
  cases hx
  exact⟨ao,c,rfl,h2,h3⟩
theorem start_any{w:World}{qs:PairsL}{po:Option Addr}{n pc:Nat}(hp:PairsAt w (.slice po n pc) qs) (hn:qs.length=n) (hb:n<=1000) :
  Calls Tryz.prog 135 #[.slice po n pc] w fun e w'=>∃ ao c,e=.returned (.slice ao n c)/\w'.ownsRow w.heap.size 240 2 (.slice ao n c) n (startC qs)/\Ext w w':=by
 have HP:=Lib.hid hp;have HN:=Lib.hid hn
 clear hp hn
 go_enter Tryz.func135,Tryz.ntmps135
 go_wp2
 refine wp_loop (fun a W=>∃(k:Nat) (ao:Option Addr) (c:Nat),k<=n/\a.defers=[]/\(a.tmps.size=20/\a.tmps.getD 3 undef=.slice ao k c/\a.tmps.getD 6 undef=.slice po n pc/\a.tmps.getD 7 undef=.int .i64 n/\a.tmps.getD 8 undef=.int .i64 k)/\W.ownsRow w.heap.size 240 2 (.slice ao k c) k (startC (qs.take k))/\Ext w W)
  (fun a _=>((n:Int) - intOf (a.tmps.getD 8 undef)).toNat) ?_ ?_
 ·exact⟨0,none,0,by omega,rfl,⟨rfl,rfl,rfl,rfl,rfl⟩,World.ownsRow_nil _ _ _ _,Turn.refl _ _⟩
 rintro⟨t,_⟩ W ⟨k,ao,c,hk,hds,⟨hsz,f3,f6,f7,f8⟩,ho,hE⟩
 subst hds
 obtain⟨u',hu⟩:=frame_fun hsz
 obtain⟨u,rfl⟩:∃ x,x=u':=⟨_,rfl⟩
 have hu':t=#[u 0,u 1,u 2,u 3,u 4,u 5,u 6,u 7,u 8,u 9,u 10,u 11,u 12,u 13,u 14,u 15,u 16,u 17,u 18,u 19]:=hu
 clear hu
 subst hu'
 change u 3=_ at f3
 change u 6=_ at f6
 change u 7=_ at f7
 change u 8=_ at f8
 rw [f3,f6,f7,f8]
 clear f3 f6 f7 f8 hsz
 have HO:=Lib.hid ho
 clear ho
 by_cases hkN:k<n
 ·have h1:(k:Int)<(n:Int):=by omega
  have h0:(0:Int)<=(k:Int):=by omega
  have hkl:k<qs.length:=by rw [HN.out];exact hkN
  obtain⟨g,off,c',hq,hrg,⟨u,v,hcs,hu,hv⟩,_⟩:=StrAt.at (pairs_ext HP.out hE) hkl
  replace hq:=hq (by decide)
  obtain⟨hq,hg⟩:=hq
  simp only [Value.slice.injEq] at hq
  obtain⟨rfl,hz,rfl⟩:=hq
  clear hz
  have hsn:=startC_succ hkl
  rw [hcs] at hrg hsn
  obtain⟨fo,fc,rfl,_⟩:=hu
  obtain⟨qo,qc,rfl,_⟩:=hv
  obtain⟨fl,hfl⟩:∃ x,qs[k].1.1.length=x:=⟨_,rfl⟩
  obtain⟨tl,htl⟩:∃ x,qs[k].1.2.length=x:=⟨_,rfl⟩
  rw [hfl] at hrg hsn
  rw [htl] at hrg hsn
  have d0:=hrg 0 _ rfl
  have d1:=hrg 1 _ rfl
  rw [Nat.add_zero] at d0
  have hwk:IntKind.i64.wrap ((k:Int)+1)=(k:Int)+1:=IntWalk.i64_in _ (by omega)
  have HSN:=Lib.hid hsn
  clear hsn hrg hcs hfl htl
  go_wp2_with (at_builtin;refine append_row rfl (.tmp 12) (.tmp 16) 178 rfl w.heap.size 240 _ 2 32 Tryz.underlying178 @infoSt rfl (by decide) _ _ _ rfl (own_ext HO.out (((Turn.refl _ W).alloc _).alloc _)) ⟨W.heap.size+1,0,none⟩ 1 1 [.slice fo fl fc,.bool false] rfl rfl (new_cells' (by simp)) (by intro x hx;simp at hx;rcases hx with rfl | rfl <;> rfl) (by unfold maxLen;omega) (by omega) (Nat.le_trans hE.size (Turn.size (Turn.alloc (Turn.alloc (Turn.refl (fun _=>False) W) _) _))) ?_)
  intro ao' c2 W2 hO2 hT2 hB2
  have hE2:Ext w W2:=Turn.after (hE.trans (((Turn.refl _ W).alloc _).alloc _)) hT2 (fun b hb e=>by have:=(HO.out.lt _ e).1;omega)
  have HO2:=Lib.hid hO2;have HE2:=Lib.hid hE2
  clear hO2 hE2 hT2 hB2 hE d0 d1
  go_wp2
  exact⟨⟨k+1,ao',c2,by omega,by first | rfl | trivial,⟨rfl,rfl,rfl,rfl,rfl⟩,by rw [HSN.out];exact HO2.out,HE2.out⟩,by first | (simp [intOf];done) | (simp [intOf];omega)⟩
 ·obtain rfl:k=n:=by omega
  have h1:¬ (k:Int)<(k:Int):=by omega
  have hfin:qs.take k=qs:=List.take_of_length_le (by rw [HN.out];exact Nat.le_refl _)
  have ho:=HO.out
  rw [hfin] at ho
  have HO2:=Lib.hid ho
  clear ho hfin HO
  go_wp2
  go_ret
  exact⟨ao,c,rfl,HO2.out,hE⟩
end Go.Proofs.YtfdlhlghcbeblaaGreatDoor
