/- slices.Collect of ints over an iterator with blocks of its own; law.Hits. law.run: its iterator in any mode; how many replacements there are; slices of words. Rows of structs in memory: pairs of words, states of derivations. PLAIN: the error of a trace. What law.Trace returns, in memory; rows of places and words as they grow. PLAIN: the mirror image of a law. PLAIN: what law.Once answers (cut off from XOnce). PLAIN: a law that is applied again and again. -/
import Derived.Test.YtfdlhlghcbeblaaGreatDoorG13
import Derived.Test.YtfdlhlghcbeblaaGreatDoorG17
import Derived.Test.YtfdlhlghcbeblaaGreatDoorG16
import Derived.Test.YtfdlhlghcbeblaaGreatDoorG12
import Derived.Test.YtfdlhlghcbeblaaGreatDoorG07
import Derived.Test.YtfdlhlghcbeblaaGreatDoorG14
import Derived.Test.YtfdlhlghcbeblaaGreatDoorG10
set_option maxRecDepth 100000
set_option maxHeartbeats 8000000
namespace Go.Proofs.YtfdlhlghcbeblaaGreatDoor
open Go.RowKit Go.Ab
attribute [local go_sem] Oper.semAt_some wide_fn wide_depth
abbrev natE:Nat→(Nat→Prop)→Nat→World→Array Value→Prop:=fun _ _ x _ ys=>ys=#[.int .i64 (x:Int)]
def hitsV(l:LawD)(ws:Wd):List Nat:=if lawW l ws=0 then hitsL l ws else []
theorem wE_le{ws:Wd}(h:wE ws=0):ws.length≤32:=by
 apply Nat.le_of_not_lt;intro h2
 unfold wE at h;rw [if_pos h2] at h;cases h
theorem lawW_zero{l:LawD}{ws:Wd}(h:lawW l ws=0):lawB l=true∧wE ws=0:=by
 unfold lawW at h
 split at h
 ·rename_i h1;exact⟨h1,h⟩
 ·cases h
end Go.Proofs.YtfdlhlghcbeblaaGreatDoor
namespace Go.Proofs.YtfdlhlghcbeblaaGreatDoor
open Go.RowKit Go.Ab
theorem run_iter{w:World}{BW BL Bk Bm:Nat}{l:LawD}{cs:List Value}{vo:Option Addr}{vc:Nat}{ws:Wd}{K:Nat→Prop}(hlaw:lawB l=true)(hwl:ws.length≤32)(hcap:ws.length≤vc)(hkv:KeptIn K (.slice vo ws.length vc))
  (hKw:∀ b,K b→b<w.heap.size) (hst:∀ W,Turn (fun b=>¬ K b) w W→RunSt W BW BL Bk Bm l cs vo vc ws) :
  ∃ m,IterO Tryz.prog 225 #[.pointer (some ⟨BW,0,none⟩),.pointer (some ⟨BL,0,none⟩),.pointer (some ⟨Bk,0,none⟩),.pointer (some ⟨Bm,0,none⟩)] (RunM m) (RunE m) (traceL l ws) K w:=by
 obtain⟨_,_,_,⟨h1,h3⟩,_⟩:=lawB_parts hlaw
 by_cases e1:l.mode=1
 ·exact⟨9,run_all hlaw e1 hwl hcap hkv hKw hst⟩
 by_cases e2:l.mode=2
 ·exact⟨2,run_right hlaw e2 hwl hcap hkv hKw hst⟩
 ·exact⟨2,run_left hlaw (by omega) hwl hcap hkv hKw hst⟩
section
variable {α:Type} {H:List α→Nat→Bool} {P:List α→List α} {k m:Nat}
theorem allT_count(w:List α):∀(n i:Nat) (d:List α),(allT H P k w n i d).length≤n
 | 0,_,_=>by simp [allT]
 | n+1,i,d=>by
  unfold allT
  split
  ·rw [List.length_cons];split
   ·have:=allT_count w n (i+1) (d++P ((w.drop i).take k)++(w.drop i).take 1);omega
   ·have:=allT_count w n (i+k) (d++P ((w.drop i).take k));omega
  ·have:=allT_count w n (i+1) (d++(w.drop i).take 1);omega
theorem rightT_count:∀(n:Nat) (w:List α) (i:Nat),(rightT H P k m n w i).length≤n
 | 0,_,_=>by simp [rightT]
 | n+1,w,i=>by
  unfold rightT
  split
  ·simp
  ·split
   ·rw [List.length_cons]
    have:=rightT_count n (repl P k w i) (i+m+(if k=0 then 1 else 0));omega
   ·have:=rightT_count n w (i+1);omega
theorem leftT_count:∀(n:Nat) (w:List α) (i:Nat),(leftT H P k n w i).length≤n
 | 0,_,_=>by simp [leftT]
 | n+1,_,0=>by simp [leftT]
 | n+1,w,i+1=>by
  unfold leftT
  split
  ·rw [List.length_cons]
   have:=leftT_count n (repl P k w i) (i+1 - max k 1);omega
  ·have:=leftT_count n w i;omega
end
theorem traceL_count(l:LawD)(ws:Wd):(traceL l ws).length≤ws.length+1:=by
 unfold traceL
 split
 ·exact allT_count _ _ _ _
 ·split
  ·exact rightT_count _ _ _
  ·exact leftT_count _ _ _
def OneW(w:World)(v:Value)(u:Wd):Prop:=∃ ao c,v=.slice ao u.length c∧WordAt w (.slice ao u.length c) u∧u.length≤c
def WordsAt(w:World):List Value→List Wd→Prop
 | [],[]=>True
 | v::vs,u::us=>OneW w v u∧WordsAt w vs us
 | _,_=>False
theorem OneW.ext{A B:World}{v:Value}{u:Wd}(h:OneW A v u)(ht:Ext A B):OneW B v u:=by
 obtain⟨ao,c,h1,h2,h3⟩:=h
 exact⟨ao,c,h1,h2.ext ht,h3⟩
theorem WordsAt.ext{A B:World}:∀ {vs:List Value} {us:List Wd},WordsAt A vs us→Ext A B→WordsAt B vs us
 | [],[],_,_=>trivial
 | _::_,_::_,⟨h1,h2⟩,ht=>⟨h1.ext ht,h2.ext ht⟩
theorem WordsAt.snoc{w:World}{v:Value}{u:Wd}:∀ {vs:List Value} {us:List Wd},WordsAt w vs us→OneW w v u→WordsAt w (vs++[v]) (us++[u])
 | [],[],_,h=>⟨h,trivial⟩
 | _::_,_::_,⟨h1,h2⟩,h=>⟨h1,h2.snoc h⟩
theorem WordsAt.length{w:World}:∀ {vs:List Value} {us:List Wd},WordsAt w vs us→vs.length=us.length
 | [],[],_=>rfl
 | _::_,_::_,⟨_,h2⟩=>by simp [h2.length]
theorem WordsAt.get{w:World}:∀ {vs:List Value} {us:List Wd},WordsAt w vs us→∀ i,i<us.length→OneW w (vs.getD i undef) (us.getD i [])
 | [],[],_,i,h=>by simp at h
 | _::_,_::_,⟨h1,_⟩,0,_=>h1
 | _::_,_::_,⟨_,h2⟩,i+1,h=>h2.get i (by simpa using h)
end Go.Proofs.YtfdlhlghcbeblaaGreatDoor
namespace Go.Proofs.YtfdlhlghcbeblaaGreatDoor
open Go.RowKit Go.Ab
def StrAt{α:Type}(sz:Nat)(ok:World→α→List Value→Prop)(w:World)(v:Value)(ps:List (α × List Value)):Prop:=
 Rd w v ps.length sz (ps.flatMap (·.2))∧∀ p∈ps,p.2.length=sz∧ok w p.1 p.2
theorem StrAt.ext{α:Type}{sz:Nat}{ok:World→α→List Value→Prop}(hok:∀ A B x cs,ok A x cs→Ext A B→ok B x cs){A B:World}{v:Value}{ps:List (α × List Value)} (h:StrAt sz ok A v ps) (ht:Ext A B):StrAt sz ok B v ps:=
 ⟨h.1.ext ht,fun p hp=>⟨(h.2 p hp).1,hok _ _ _ _ (h.2 p hp).2 ht⟩⟩
theorem rows_flat{α:Type}{sz:Nat}{ps:List (α × List Value)} (h:∀ p∈ps,p.2.length=sz) {i j:Nat} (hi:i<ps.length) (hj:j<sz):(ps.flatMap (·.2))[i*sz+j]?=ps[i].2[j]?:=by
 induction ps generalizing i with
 | nil=>cases hi
 | cons p ps ih=>
  have hp:=h p (by simp)
  rw [List.flatMap_cons]
  cases i with
  | zero=>rw [Nat.zero_mul,Nat.zero_add,List.getElem?_append_left (by omega)];rfl
  | succ i=>
   rw [Nat.add_mul,Nat.one_mul,List.getElem?_append_right (by omega),hp,show i*sz+sz+j - sz=i*sz+j by omega]
   exact ih (fun p hp=>h p (by simp [hp])) (by simpa using hi)
theorem StrAt.at{α:Type}{sz:Nat}{ok:World→α→List Value→Prop}{w:World}{v:Value}{ps:List (α × List Value)} (h:StrAt sz ok w v ps) {i:Nat} (hi:i<ps.length) :
  ∃ g off cap,(0<sz→v=.slice (some ⟨g,off,none⟩) ps.length cap∧g<w.heap.size)∧w.rangeAt g (off+i*sz) ps[i].2∧ok w ps[i].1 ps[i].2∧ps[i].2.length=sz:=by
 obtain⟨⟨h1,h2,ao,cap,hv,h3⟩,h4⟩:=h
 obtain⟨g,off,ha,hg,hc⟩:=h3 (by omega)
 subst ha
 obtain⟨hs,hk⟩:=h4 _ (List.getElem_mem hi)
 refine⟨g,off,cap,fun _=>⟨hv,hg⟩,fun j u hu=>?_,hk,hs⟩
 have hj:j<sz:=by
  apply Nat.lt_of_not_le;intro hle
  rw [List.getElem?_eq_none (by omega)] at hu;cases hu
 have hlt:i*sz+j<ps.length*sz:=by
  have:=Nat.mul_le_mul_right sz (show i+1≤ps.length by omega)
  rw [Nat.add_mul,Nat.one_mul] at this
  omega
 have:=hc (i*sz+j) hlt
 rw [Nat.add_assoc,this,List.getD_eq_getElem?_getD,rows_flat (fun p hp=>(h4 p hp).1) hi hj,hu]
 rfl
def PairOk(w:World)(p:Wd × Wd)(cs:List Value):Prop:=∃ u v,cs=[u,v]∧OneW w u p.1∧OneW w v p.2
theorem PairOk.ext{A B:World}{p:Wd × Wd}{cs:List Value}(h:PairOk A p cs)(ht:Ext A B):PairOk B p cs:=by
 obtain⟨u,v,h1,h2,h3⟩:=h
 exact⟨u,v,h1,h2.ext ht,h3.ext ht⟩
abbrev PairsAt:=StrAt 2 PairOk
def StateOk(w:World)(s:Option Wd)(cs:List Value):Prop:=∃ ao n c,cs=[.slice ao n c,.bool s.isNone]∧∀ u,s=some u→OneW w (.slice ao n c) u
theorem StateOk.ext{A B:World}{s:Option Wd}{cs:List Value}(h:StateOk A s cs)(ht:Ext A B):StateOk B s cs:=by
 obtain⟨ao,n,c,h1,h2⟩:=h
 exact⟨ao,n,c,h1,fun u hu=>(h2 u hu).ext ht⟩
abbrev StatesAt:=StrAt 2 StateOk
theorem pairs_ext{A B:World}{v:Value}{qs:List ((Wd × Wd) × List Value)} (h:PairsAt A v qs) (ht:Ext A B):PairsAt B v qs:=StrAt.ext (ok:=PairOk) (fun _ _ _ _ h ht=>PairOk.ext h ht) h ht
theorem states_ext{A B:World}{v:Value}{qs:List (Option Wd × List Value)} (h:StatesAt A v qs) (ht:Ext A B):StatesAt B v qs:=StrAt.ext (ok:=StateOk) (fun _ _ _ _ h ht=>StateOk.ext h ht) h ht
end Go.Proofs.YtfdlhlghcbeblaaGreatDoor
namespace Go.Proofs.YtfdlhlghcbeblaaGreatDoor
open Go.RowKit Go.Ab
theorem trE_bad{l:LawD}{ws:Wd}(h:lawW l ws≠0):trE l ws≠0:=by
 unfold trE;rw [if_neg h];exact h
theorem trE_law{l:LawD}{ws:Wd}(h:trE l ws=0):lawW l ws=0:=by
 apply Decidable.byContradiction
 intro h2;exact trE_bad h2 h
end Go.Proofs.YtfdlhlghcbeblaaGreatDoor
namespace Go.Proofs.YtfdlhlghcbeblaaGreatDoor
open Go.RowKit Go.Ab
attribute [local go_sem] Oper.semAt_some wide_fn wide_depth
theorem cell_cells{A:World}{p:Addr}{v:Value}(h:A.cell? p=some v):∃ o,A.heap[p.block]?=some o∧o.isCells=true:=by
 unfold World.cell? at h
 split at h
 ·exact⟨_,by assumption,rfl⟩
 ·cases h
theorem cell_shut{base:Nat}{A B:World}(ht:Turn (Go.Ab.Shut base A) A B) {p:Addr} {v:Value} (h:A.cell? p=some v):B.cell? p=some v:=by
 obtain⟨o,h1,h2⟩:=cell_cells h
 exact ht.cell_some h (Go.Ab.Shut.not h1 h2)
theorem Rd.shut{base:Nat}{A B:World}(ht:Turn (Go.Ab.Shut base A) A B) {v:Value} {n sz:Nat} {xs:List Value} (h:Rd A v n sz xs):Rd B v n sz xs:=by
 obtain⟨h1,h2,ao,cap,hv,h3⟩:=h
 refine⟨h1,h2,ao,cap,hv,fun hn=>?_⟩
 obtain⟨g,off,ha,hg,hc⟩:=h3 hn
 exact⟨g,off,ha,Nat.lt_of_lt_of_le hg ht.size,fun j hj=>cell_shut ht (hc j hj)⟩
theorem Rd.nocells{r:Nat}{A B:World}(ht:Turn (fun b=>b=r) A B) (hr:∃ o,A.heap[r]?=some o∧o.isCells=false) {v:Value} {n sz:Nat} {xs:List Value} (h:Rd A v n sz xs):Rd B v n sz xs:=by
 obtain⟨h1,h2,ao,cap,hv,h3⟩:=h
 refine⟨h1,h2,ao,cap,hv,fun hn=>?_⟩
 obtain⟨g,off,ha,hg,hc⟩:=h3 hn
 refine⟨g,off,ha,Nat.lt_of_lt_of_le hg ht.size,fun j hj=>ht.cell_some (hc j hj) (fun e=>?_)⟩
 obtain⟨o,q1,q2⟩:=cell_cells (hc j hj)
 obtain⟨o',q3,q4⟩:=hr
 simp only at e q1
 rw [e,q3] at q1
 cases q1
 rw [q4] at q2;cases q2
theorem own_shut{base0:Nat}{A B:World}{base:Nat}{e:TypeId}{sz:Nat}{v:Value}{n:Nat}{xs:List Value}(h:A.ownsRow base e sz v n xs)(ht:Turn (Go.Ab.Shut base0 A) A B):B.ownsRow base e sz v n xs:=
 own_turn h ht fun _ _ hg ho=>Go.Ab.Shut.not hg ho
theorem own_ne{W:World}{b1 b2:Nat}{e1 e2:TypeId}{s1 s2 n1 n2:Nat}{v1 v2:Value}{x1 x2:List Value}(h1:W.ownsRow b1 e1 s1 v1 n1 x1)(h2:W.ownsRow b2 e2 s2 v2 n2 x2)(he:e1≠e2):∀ g,v1.ownBlock=some g→v2.ownBlock≠some g:=by
 intro g hg hg2
 obtain⟨c1,q1⟩:=own_block_ty h1 hg
 obtain⟨c2,q2⟩:=own_block_ty h2 hg2
 rw [q1] at q2
 simp only [Option.some.injEq,Obj.cells.injEq] at q2
 exact he q2.2.1
theorem cells_news{W:World}{g:Nat}{v:Value}{t:TypeId}(h:W.heap[g]?=some (.cells #[v] t (0,0))):∀ j u,[v][j]?=some u→W.cell? ((⟨g,0,none⟩:Addr).add j)=some u:=by
 intro j u hj
 match j,hj with
 | 0,hj=>
  simp at hj
  subst hj
  exact cell_of_one h
theorem OneW.keepS{S:Nat→Prop}{A B:World}{v:Value}{u:Wd}(h:OneW A v u)(ht:Turn (fun b=>¬ S b) A B) (hS:KeptIn S v):OneW B v u:=by
 obtain⟨ao,c,rfl,h2,h3⟩:=h
 exact⟨ao,c,rfl,wd_keepS h2 ht hS,h3⟩
theorem OneW.shut{base:Nat}{A B:World}(ht:Turn (Go.Ab.Shut base A) A B) {v:Value} {u:Wd} (h:OneW A v u):OneW B v u:=by
 obtain⟨ao,c,rfl,h2,h3⟩:=h
 exact⟨ao,c,rfl,⟨Rd.shut ht h2.1,h2.2⟩,h3⟩
theorem WordsAt.keepS{S:Nat→Prop}{A B:World}(ht:Turn (fun b=>¬ S b) A B):∀ {vs:List Value} {us:List Wd},WordsAt A vs us→(∀ x∈vs,KeptIn S x)→WordsAt B vs us
 | [],[],_,_=>trivial
 | _::_,_::_,⟨h1,h2⟩,hS=>⟨h1.keepS ht (hS _ (by simp)),h2.keepS ht (fun x hx=>hS x (by simp [hx]))⟩
theorem WordsAt.shut{base:Nat}{A B:World}(ht:Turn (Go.Ab.Shut base A) A B):∀ {vs:List Value} {us:List Wd},WordsAt A vs us→WordsAt B vs us
 | [],[],_=>trivial
 | _::_,_::_,⟨h1,h2⟩=>⟨h1.shut ht,h2.shut ht⟩
theorem KeptIn.mono{S T:Nat→Prop}{v:Value}(h:KeptIn S v)(hst:∀ b,S b→T b):KeptIn T v:=fun g o n c e h0=>hst _ (h g o n c e h0)
def TrOut(b:Nat)(W:World)(u v:Value)(t:List (Nat × Wd)):Prop:=
 W.ownsRow b 3 1 u t.length (natV (t.map (·.1)))∧∃ vals,W.ownsRow b 99 1 v t.length vals∧WordsAt W vals (t.map (·.2))
theorem TrOut.nil(b:Nat)(W:World):TrOut b W (.slice none 0 0) (.slice none 0 0) []:=⟨World.ownsRow_nil _ _ _ _,[],World.ownsRow_nil _ _ _ _,trivial⟩
theorem TrOut.ext{b:Nat}{A B:World}{u v:Value}{t:List (Nat × Wd)} (h:TrOut b A u v t) (ht:Ext A B):TrOut b B u v t:=by
 obtain⟨h1,vals,h2,h3⟩:=h
 exact⟨own_ext h1 ht,vals,own_ext h2 ht,h3.ext ht⟩
theorem TrOut.base{b b':Nat}{A:World}{u v:Value}{t:List (Nat × Wd)} (h:TrOut b A u v t) (hb:b'≤b):TrOut b' A u v t:=by
 obtain⟨h1,vals,h2,h3⟩:=h
 exact⟨own_base h1 hb,vals,own_base h2 hb,h3⟩
theorem TrOut.slices{b:Nat}{A:World}{u v:Value}{t:List (Nat × Wd)} (h:TrOut b A u v t):∃ uo uc vo vc,u=.slice uo t.length uc∧v=.slice vo t.length vc∧t.length≤maxLen:=by
 obtain⟨h1,vals,h2,h3⟩:=h
 obtain⟨_,_,uo,uc,rfl,_⟩:=Rd.of_own h1
 obtain⟨_,h4,vo,vc,rfl,_⟩:=Rd.of_own h2
 exact⟨uo,uc,vo,vc,rfl,rfl,h4⟩
theorem TrOut.at{b:Nat}{A:World}{u vv:Value}{t:List (Nat × Wd)} (h:TrOut b A u vv t) {i:Nat} (hi:i<t.length) :
  ∃ g cap ao c,vv=.slice (some ⟨g,0,none⟩) t.length cap∧A.cell? ⟨g,i,none⟩=some (.slice ao t[i].2.length c)∧WordAt A (.slice ao t[i].2.length c) t[i].2∧t[i].2.length≤c:=by
 obtain⟨_,vals,h2,h3⟩:=h
 obtain⟨q1,q2,ao,cap,rfl,q3⟩:=Rd.of_own h2
 obtain⟨g,rfl⟩:=own_some h2 (by omega)
 obtain⟨g',off,q4,_,q5⟩:=q3 (by omega)
 simp only [Option.some.injEq,Addr.mk.injEq] at q4
 obtain⟨rfl,rfl,_⟩:=q4
 have hw:=h3.get i (by simpa using hi)
 have hgd:(t.map (·.2)).getD i []=t[i].2:=by rw [List.getD_eq_getElem?_getD,List.getElem?_map,List.getElem?_eq_getElem hi];rfl
 rw [hgd] at hw
 obtain⟨ao,c,hv,hw,hc⟩:=hw
 have:=q5 i (by omega)
 rw [Nat.zero_add,hv] at this
 exact⟨g,cap,ao,c,rfl,this,hw,hc⟩
structure TrI (w:World) (B P D m:Nat) (O:Nat→Prop) (pre:List (Nat × Wd)) (V:World) (u v:Value) (vals:List Value):Prop where
 ru:V.heap[B+1]?=some (.cells #[.slice none 0 0] 48 (0,0))
 rv:V.heap[B+2]?=some (.cells #[.slice none 0 0] 60 (0,0))
 re:V.heap[B+3]?=some (.cells #[.int .i64 0] 40 (0,0))
 bu:V.heap[P]?=some (.cells #[u] 48 (0,0))
 bv:V.heap[P+1]?=some (.cells #[v] 60 (0,0))
 ou:V.ownsRow (D+2) 3 1 u pre.length (natV (pre.map (·.1)))
 ov:V.ownsRow (D+2) 99 1 v pre.length vals
 wd:WordsAt V vals (pre.map (·.2))
 ub:∀ g,u.ownBlock=some g→¬ O g
 vb:∀ g,v.ownBlock=some g→¬ O g
 wk:∀ x∈vals,KeptIn (fun g=>D+2+m≤g∧g<V.heap.size∧u.ownBlock≠some g∧v.ownBlock≠some g) x
 ext:Ext w V
 short:longT pre=false
section
variable {w:World} {B P D m:Nat} {O:Nat→Prop} {pre:List (Nat × Wd)} {V:World} {u v:Value} {vals:List Value}
theorem TrI.turn(h:TrI w B P D m O pre V u v vals){O':Nat→Prop}{W:World}(hB:w.heap.size=B)(hBP:B+4≤P)(hPD:P+2≤D)(hO:∀ b,O b→D+2≤b∧b<V.heap.size)
  (ht:Turn (fun b=>(O b∧RunM m (D+2) b)∨b=D+1) V W) (hO':∀ b,O' b→(O b∨V.heap.size≤b)∧b<W.heap.size):TrI w B P D m O' pre W u v vals:=by
 have low:∀ b,b<D→¬ ((O b∧RunM m (D+2) b)∨b=D+1):=fun b hb hn=>by
  rcases hn with h1 | h1
  ·have:=(hO b h1.1).1;omega
  ·omega
 have hown:∀ {x:Value},(∀ g,x.ownBlock=some g→¬ O g)→(∀ g,x.ownBlock=some g→D+2≤g)→∀ g,x.ownBlock=some g→¬ ((O g∧RunM m (D+2) g)∨g=D+1):=fun h1 h2 g hg hn=>by
  rcases hn with h3 | h3
  ·exact h1 g hg h3.1
  ·have:=h2 g hg;omega
 refine⟨ht.heap h.ru (low _ (by omega)),ht.heap h.rv (low _ (by omega)),ht.heap h.re (low _ (by omega)),ht.heap h.bu (low _ (by omega)),ht.heap h.bv (low _ (by omega)),own_keep h.ou ht (hown h.ub (fun g hg=>(h.ou.lt g hg).1)),own_keep h.ov ht (hown h.vb (fun g hg=>(h.ov.lt g hg).1)),?_,fun g hg hg2=>?_,fun g hg hg2=>?_,fun x hx=>(h.wk x hx).mono fun b hb=>⟨hb.1,Nat.lt_of_lt_of_le hb.2.1 ht.size,hb.2.2⟩,h.ext.after ht (fun b hb hn=>low b (by omega) hn),h.short⟩
 ·refine h.wd.keepS (S:=fun g=>D+2+m≤g) (ht.mono fun b _ hb hn=>?_) (fun x hx=>(h.wk x hx).mono fun b hb=>hb.1)
  rcases hb with h1 | h1
  ·have:=h1.2;unfold RunM at this;omega
  ·omega
 ·rcases(hO' g hg2).1 with h1 | h1
  ·exact h.ub g hg h1
  ·have:=(h.ou.lt g hg).2;omega
 ·rcases(hO' g hg2).1 with h1 | h1
  ·exact h.vb g hg h1
  ·have:=(h.ov.lt g hg).2;omega
theorem TrI.push(h:TrI w B P D m O pre V u v vals)(hB:w.heap.size=B)(hBP:B+4≤P)(hPD:P+2≤D)(hO:∀ b,O b→D+2≤b∧b<V.heap.size)(_hDV:D+2≤V.heap.size)
  {x:Nat × Wd} {ao:Option Addr} {c:Nat} (hw:WordAt V (.slice ao x.2.length c) x.2) (hc:x.2.length≤c) (hk:KeptIn (fun g=>O g∧D+2+m≤g∧g<V.heap.size) (.slice ao x.2.length c)) (h32:x.2.length≤32)
  {W:World} {u' v':Value} (fu:W.ownsRow (D+2) 3 1 u' (pre.length+1) (natV (pre.map (·.1))++[.int .i64 (x.1:Int)])) (fv:W.ownsRow (D+2) 99 1 v' (pre.length+1) (vals++[.slice ao x.2.length c]))
  (ht:Turn (fun b=>u.ownBlock=some b∨v.ownBlock=some b) V W) (hu:u'.ownBlock=u.ownBlock∨∃ k,V.heap.size≤k∧u'.ownBlock=some k) (hv:v'.ownBlock=v.ownBlock∨∃ k,V.heap.size≤k∧v'.ownBlock=some k) :
  (∃ u v vals,TrI w B P D m O (pre++[x]) ((W.setCell ⟨P,0,none⟩ u').setCell ⟨P+1,0,none⟩ v') u v vals)∧Turn (fun b=>¬ ((b<D∧b≠P∧b≠P+1∧b≠B+1∧b≠B+2∧b≠B+3)∨O b∨b=D∨b=D+1)) V ((W.setCell ⟨P,0,none⟩ u').setCell ⟨P+1,0,none⟩ v'):=by
 obtain⟨W2,hW2⟩:∃ D,(W.setCell ⟨P,0,none⟩ u').setCell ⟨P+1,0,none⟩ v'=D:=⟨_,rfl⟩
 have hT2:Turn (fun b=>b=P∨b=P+1) W W2:=by rw [← hW2];exact((Turn.set1 W P 0 u').mono fun b _ e=>.inl e).trans ((Turn.set1 _ (P+1) 0 v').mono fun b _ e=>.inr e)
 have blk:∀ b,(u.ownBlock=some b∨v.ownBlock=some b)→D+2≤b∧¬ O b∧b<V.heap.size:=fun b hb=>by
  rcases hb with hb | hb
  ·exact⟨(h.ou.lt b hb).1,h.ub b hb,(h.ou.lt b hb).2⟩
  ·exact⟨(h.ov.lt b hb).1,h.vb b hb,(h.ov.lt b hb).2⟩
 have low:∀ b,b<D→¬ (u.ownBlock=some b∨v.ownBlock=some b):=fun b hb hn=>by have:=(blk b hn).1;omega
 have bu1:=ht.heap h.bu (low _ (by omega))
 have bv1:=ht.heap h.bv (low _ (by omega))
 have bu2:W2.heap[P]?=some (.cells #[u'] 48 (0,0)):=by
  rw [← hW2];exact(Turn.set1 _ (P+1) 0 v').heap (cell1_set u' bu1) (by omega)
 have bv2:W2.heap[P+1]?=some (.cells #[v'] 60 (0,0)):=by
  rw [← hW2];exact cell1_set v' ((Turn.set1 W P 0 u').heap bv1 (by omega))
 have hub:∀ g,u'.ownBlock=some g→D+2≤g:=fun g hg=>(fu.lt g hg).1
 have hvb:∀ g,v'.ownBlock=some g→D+2≤g:=fun g hg=>(fv.lt g hg).1
 have noO:∀ {y y':Value},(∀ g,y.ownBlock=some g→¬ O g)→(y'.ownBlock=y.ownBlock∨∃ k,V.heap.size≤k∧y'.ownBlock=some k)→∀ g,y'.ownBlock=some g→¬ O g:=fun h1 h2 g hg ho=>by
  rcases h2 with h2 | ⟨k,h2,h3⟩
  ·exact h1 g (h2 ▸ hg) ho
  ·rw [h3] at hg;cases hg;have:=(hO _ ho).2;omega
 have off:∀ {y y':Value} (g:Nat),y.ownBlock≠some g→g<V.heap.size→(y'.ownBlock=y.ownBlock∨∃ k,V.heap.size≤k∧y'.ownBlock=some k)→y'.ownBlock≠some g:=fun g h1 h2 h3=>by
  rcases h3 with h3 | ⟨k,h3,h4⟩
  ·rw [h3];exact h1
  ·rw [h4];intro e;cases e;omega
 have hsz:=Nat.le_trans ht.size hT2.size
 have hTV:Turn (fun b=>(u.ownBlock=some b∨v.ownBlock=some b)∨(b=P∨b=P+1)) V W2:=(ht.mono fun b _ e=>.inl e).trans (hT2.mono fun b _ e=>.inr e)
 have knew:KeptIn (fun g=>D+2+m≤g∧g<V.heap.size∧u.ownBlock≠some g∧v.ownBlock≠some g) (.slice ao x.2.length c):=hk.mono fun b hb=>⟨hb.2.1,hb.2.2,fun e=>h.ub b e hb.1,fun e=>h.vb b e hb.1⟩
 have kall:∀ y∈vals++[.slice ao x.2.length c],KeptIn (fun g=>D+2+m≤g∧g<V.heap.size∧u.ownBlock≠some g∧v.ownBlock≠some g) y:=fun y hy=>by
  rcases List.mem_append.1 hy with hy | hy
  ·exact h.wk y hy
  ·simp only [List.mem_singleton] at hy;subst hy;exact knew
 rw [hW2]
 refine⟨⟨u',v',vals++[.slice ao x.2.length c],⟨?_,?_,?_,bu2,bv2,?_,?_,?_,noO h.ub hu,noO h.vb hv,fun y hy=>(kall y hy).mono fun b hb=>⟨hb.1,Nat.lt_of_lt_of_le hb.2.1 hsz,off b hb.2.2.1 hb.2.1 hu,off b hb.2.2.2 hb.2.1 hv⟩,?_,?_⟩⟩,hTV.mono fun b hb e hn=>?_⟩
 ·exact hT2.heap (ht.heap h.ru (low _ (by omega))) (by omega)
 ·exact hT2.heap (ht.heap h.rv (low _ (by omega))) (by omega)
 ·exact hT2.heap (ht.heap h.re (low _ (by omega))) (by omega)
 ·rw [List.length_append,List.map_append]
  show W2.ownsRow _ _ _ _ _ (natV (pre.map (·.1)++[x.1]))
  rw [natV_append]
  exact own_keep fu hT2 (fun g hg e=>by have:=hub g hg;omega)
 ·rw [List.length_append]
  exact own_keep fv hT2 (fun g hg e=>by have:=hvb g hg;omega)
 ·rw [List.map_append]
  refine(h.wd.snoc ⟨ao,c,rfl,hw,hc⟩).keepS (S:=fun g=>D+2+m≤g∧g<V.heap.size∧u.ownBlock≠some g∧v.ownBlock≠some g) (hTV.mono fun b _ e hn=>?_) kall
  rcases e with (e | e) | e
  ·exact hn.2.2.1 e
  ·exact hn.2.2.2 e
  ·omega
 ·refine h.ext.after hTV (fun b hb e=>?_)
  rcases e with e | e
  ·exact low b (by omega) e
  ·omega
 ·have:=h.short
  unfold longT at this ⊢
  rw [List.any_append,this]
  simp;omega
 ·rcases e with e | e
  ·obtain⟨q1,q2,q3⟩:=blk b e
   rcases hn with hn | hn | hn | hn
   ·omega
   ·exact q2 hn
   ·omega
   ·omega
  ·rcases hn with hn | hn | hn | hn
   ·omega
   ·have:=(hO b hn).1;omega
   ·omega
   ·omega
end
theorem set3{V:World}{b c d:Nat}{x1 x2 x3:Value}{t1 t2 t3:TypeId}(h1:V.heap[b]?=some (.cells #[x1] t1 (0,0))) (h2:V.heap[c]?=some (.cells #[x2] t2 (0,0))) (h3:V.heap[d]?=some (.cells #[x3] t3 (0,0))) (hbc:b≠c) (hcd:c≠d) (hbd:b≠d) (y1 y2 y3:Value) :
  (((V.setCell ⟨b,0,none⟩ y1).setCell ⟨c,0,none⟩ y2).setCell ⟨d,0,none⟩ y3).heap[b]?=some (.cells #[y1] t1 (0,0))∧(((V.setCell ⟨b,0,none⟩ y1).setCell ⟨c,0,none⟩ y2).setCell ⟨d,0,none⟩ y3).heap[c]?=some (.cells #[y2] t2 (0,0))∧(((V.setCell ⟨b,0,none⟩ y1).setCell ⟨c,0,none⟩ y2).setCell ⟨d,0,none⟩ y3).heap[d]?=some (.cells #[y3] t3 (0,0)) ∧
  Turn (fun x=>x=b∨x=c∨x=d) V (((V.setCell ⟨b,0,none⟩ y1).setCell ⟨c,0,none⟩ y2).setCell ⟨d,0,none⟩ y3):=
 ⟨(Turn.set1 _ d 0 y3).heap ((Turn.set1 _ c 0 y2).heap (cell1_set y1 h1) (by omega)) (by omega),(Turn.set1 _ d 0 y3).heap (cell1_set y2 ((Turn.set1 V b 0 y1).heap h2 (by omega))) (by omega),
  cell1_set y3 ((Turn.set1 _ c 0 y2).heap ((Turn.set1 V b 0 y1).heap h3 (by omega)) (by omega)),(((Turn.set1 V b 0 y1).mono fun x _ e=>.inl e).trans ((Turn.set1 _ c 0 y2).mono fun x _ e=>.inr (.inl e))).trans ((Turn.set1 _ d 0 y3).mono fun x _ e=>.inr (.inr e))⟩
theorem results_three{fn:Func}{p q r:Tmp}(h:fn.results=#[.cell p 48,.cell q 60,.cell r 40]){tmps:Array Value}{w:World}{b c d:Nat}{x y z:Value}
  (hp:tmps.getD p undef=.pointer (some ⟨b,0,none⟩)) (hq:tmps.getD q undef=.pointer (some ⟨c,0,none⟩)) (hr:tmps.getD r undef=.pointer (some ⟨d,0,none⟩))
  (hx:w.heap[b]?=some (.cells #[x] 48 (0,0))) (hy:w.heap[c]?=some (.cells #[y] 60 (0,0))) (hz:w.heap[d]?=some (.cells #[z] 40 (0,0))) :
  (results fn tmps).run Tryz.prog w=.ok (.tuple #[x,y,z]) w:=by
 have hp':tmps[p]?.getD undef=.pointer (some ⟨b,0,none⟩):=by simpa using hp
 have hq':tmps[q]?.getD undef=.pointer (some ⟨c,0,none⟩):=by simpa using hq
 have hr':tmps[r]?.getD undef=.pointer (some ⟨d,0,none⟩):=by simpa using hr
 have c1:=cell_of_one hx
 have c2:=cell_of_one hy
 have c3:=cell_of_one hz
 simp [results,h,hp',hq',hr',asAddr,go_sem,c1,c2,c3]
end Go.Proofs.YtfdlhlghcbeblaaGreatDoor
namespace Go.Proofs.YtfdlhlghcbeblaaGreatDoor
open Go.RowKit Go.Ab
def mirOut(k:Nat)(x:OutD):OutD:=⟨if 0≤x.frm then(k:Int) - 1 - x.frm else x.frm,x.cl,x.st,x.tk,if x.tk=0 then x.ofi else(k:Int) - 1 - x.ofi⟩
def mirLaw(l:LawD):LawD:=⟨l.name,mirP l.right,mirP l.left,l.ifs.reverse,(l.outs.map (mirOut l.ifs.length)).reverse,if l.mode=2 then 3 else 2⟩
end Go.Proofs.YtfdlhlghcbeblaaGreatDoor
namespace Go.Proofs.YtfdlhlghcbeblaaGreatDoor
open Go.RowKit Go.Ab
def onceE(l:LawD)(ws:Wd)(z:Int):Int:=
 if lawW l ws=0 then(if z<0∨(ws.length:Int)<z then 3 else if hitL l ws z.toNat=false then 5 else if 32<(replL l ws z.toNat).length then 11 else 0) else lawW l ws
def onceW(l:LawD)(ws:Wd)(z:Int):Wd:=if onceE l ws z=0 then replL l ws z.toNat else []
end Go.Proofs.YtfdlhlghcbeblaaGreatDoor
namespace Go.Proofs.YtfdlhlghcbeblaaGreatDoor
open Go.RowKit Go.Ab
def setR(l:LawD):Nat→Nat→Wd→Wd × Nat × Int
 | 0,n,u=>(u,n,0)
 | f+1,n,u=>if trE l u=0 then(if appL l u=u then(u,n,0) else setR l f (n+1) (appL l u)) else([],0,trE l u)
def setV(l:LawD)(ws:Wd)(z:Int):Wd × Nat × Int:=
 if lawW l ws=0 then(if z<0∨100<z then([],0,3) else setR l z.toNat 0 ws) else([],0,lawW l ws)
end Go.Proofs.YtfdlhlghcbeblaaGreatDoor
