/- law.run (printed by genlrun.py). -/
import Derived.Test.YtfdlhlghcbeblaaGreatDoorY09
import Derived.Test.YtfdlhlghcbeblaaGreatDoorY12
import Derived.Test.YtfdlhlghcbeblaaGreatDoorY11
set_option maxRecDepth 100000
set_option maxHeartbeats 16000000
namespace Go.Proofs.YtfdlhlghcbeblaaGreatDoor
open Go.RowKit Go.Ab
attribute [local go_sem] Oper.semAt_some Zf Qp
theorem Q4m{w:World}{l:Q7}{cs:List Value}{vo:Option Addr}{vn vc:Nat}(a8:Z2 w l cs) :
  Calls Tryz.prog 201 #[.agg cs.toArray,.slice vo vn vc] w fun e w'=>∃ Bk Bm,e=.returned (.func (.func 225) #[] #[.pointer (some ⟨w.heap.size+1,0,none⟩),.pointer (some ⟨w.heap.size,0,none⟩),.pointer (some ⟨Bk,0,none⟩),.pointer (some ⟨Bm,0,none⟩)]) /\
   LBx w' w.heap.size l cs/\Yz w' (w.heap.size+1) (.slice vo vn vc)/\w'.heap[Bk]?=some (.cells #[.int .i64 (l.ifs.length:Int)] 3 (0,0))/\w'.heap[Bm]?=some (.cells #[.int .i64 (l.outs.length:Int)] 3 (0,0))/\w.heap.size<=Bk/\w.heap.size<=Bm/\Ext w w':=by
 obtain⟨b6,a9,b9,b1,b4,a0,a2,b7,Y,a4,b0,c0,b2,b5,a1,a3,b8,Z,a5,H,p,G,J,j,I,b3,rfl,W,d1,d2,c5,d0,c9,c7,c8,c1,c2,c6,d3,d4,d5,d6,d7⟩:=Yr a8;rw [c1.out,c2.out];clear a8;go_enter Tryz.func201,Tryz.ntmps201;go_upto_region 1 with (fail)
 obtain⟨c,z⟩:=zE ((w.alloc (.cells #[.string b6,.int .i64 a9,.int .u32 (b9:Int),.int .u32 (b1:Int),.bool b4,.int .i64 a0,.int .i64 a2,.slice b7 Y a4,.int .i64 b0,.int .u32 (c0:Int),.int .u32 (b2:Int),.bool b5,.int .i64 a1,.int .i64 a3,.slice b8 Z a5,.slice H p G,.slice J j I,.int .i64 b3] 102)).alloc (.cells #[.slice vo vn vc] 99));have F:Ext w c:=by rw [<-z];exact((Q1.refl _ w).alloc _).alloc _
 have R:c.heap[w.heap.size]?=some (.cells #[.string b6,.int .i64 a9,.int .u32 (b9:Int),.int .u32 (b1:Int),.bool b4,.int .i64 a0,.int .i64 a2,.slice b7 Y a4,.int .i64 b0,.int .u32 (c0:Int),.int .u32 (b2:Int),.bool b5,.int .i64 a1,.int .i64 a3,.slice b8 Z a5,.slice H p G,.slice J j I,.int .i64 b3] 102 (0,0)):=by rw [<-z];exact Q6 (Q3 rfl)
 have U:Yz c (w.heap.size+1) (.slice vo vn vc):=by rw [<-z];exact Q3 zy
 have T:c.heap.size=w.heap.size+2:=by rw [<-z];simp
 rw [z];clear z;obtain⟨a,Q⟩:=zE w.heap.size;rw [Q] at R U T ⊢;obtain⟨f,V,L,X⟩:=Zh4 T Q R U;have a7:∀(d:World),Q1 (fun b=>c.heap.size<=b) c d->d.cell? ⟨a,15,none⟩=some (.slice H p G)/\d.cell? ⟨a,16,none⟩=some (.slice J j I):=by
  intro d c3;have a6:=c3.heap L.out (by have:=f.out;omega);exact⟨cell_of_row _ _ 15 _ _ _ a6,cell_of_row _ _ 16 _ _ _ a6⟩
 have q:=Zh a7;clear a7 R U T Q;refine Z5 (S:=fun d=>d.cell? ⟨a,15,none⟩=some (.slice H p G)/\d.cell? ⟨a,16,none⟩=some (.slice J j I)) [] kz (q.out _ (Q1.drew (Q1.refl _ c))) ?_;intro y;refine tE 0 7 y ?_;refine tE 1 8 y ?_;refine tE 2 9 y ?_;refine tE 3 10 y ?_;refine tE 4 11 y ?_;refine tE 5 12 y ?_;refine rE [6,7] ?_;refine Q2.cons rfl (fun K hK=>?_) (Q2.cons rfl (fun K hK=>?_) Q2.nil)
 ·refine iw rfl ?_;go_simp;have t:Ext c ((c.drew).alloc (.cells #[.int .i64 0] 3)):=Q1.alloc (Q1.drew (Q1.refl _ c)) _;refine hK.out _ _ (q.out _ (Ext.of t)) (fun hS2=>?_);clear hK K;try simp only [Act.put,pq]
  refine rE [7] ?_;refine Q2.cons rfl (fun K hK=>?_) Q2.nil;refine iw rfl ?_;go_simp;have A:Ext c ((c.drew.alloc (.cells #[.int .i64 0] 3)).alloc (.cells #[.int .i64 0] 3)):=Q1.alloc (t) _;refine hK.out _ _ (q.out _ (Ext.of A)) (fun hS3=>?_);clear hK K;try simp only [Act.put,pq]
  rw [f.out,show a+2+1=a+3 from rfl];obtain⟨g,n⟩:=zE (((c.alloc (.cells #[.int .i64 0] 3)).alloc (.cells #[.int .i64 0] 3)).drew);have r:Ext c g:=by rw [<-n];exact(((Q1.refl _ c).alloc _).alloc _).drew
  have v:g.heap[a+2]?=some (.cells #[.int .i64 0] 3 (0,0)):=by rw [<-n];exact Yc (Q6 (Q3 f.out.symm))
  have x:g.heap[a+3]?=some (.cells #[.int .i64 0] 3 (0,0)):=by rw [<-n];exact Yc (Q3 (by simp [f.out]))
  rw [n];clear n hS2 hS3 t A;refine rE [8] ?_;refine Q2.cons rfl (fun K hK=>?_) Q2.nil;refine iw rfl ?_;have M:=cell_of_one v;have O:=free_of_one v;go_simp;have i:Q1 (fun b=>b=a+2) g (g.setCell ⟨a+2,0,none⟩ (.int .i64 (p:Int))):=Q1.set1 g (a+2) 0 _;have m:=i.heap x oz;have u:=X2 (.int .i64 (p:Int)) v;refine hK.out _ _ (q.out _ ((Ext.of r).trans (i.mono (fun b hb e=>by have:=f.out;omega)))) (fun hS4=>?_);clear hK K M O
  (try change Qj _ _ _ _ _ _ _ _ (Act.put _ none _) _)
  (try simp only [Act.put])
  obtain⟨o,D⟩:=zE (g.setCell ⟨a+2,0,none⟩ (.int .i64 (p:Int)));rw [D] at i m u hS4 ⊢;clear D;refine rE [9] ?_;refine Q2.cons rfl (fun K hK=>?_) Q2.nil;refine iw rfl ?_;have N:=cell_of_one m;have P:=free_of_one m;go_simp;have s:Q1 (fun b=>b=a+3) o (o.setCell ⟨a+3,0,none⟩ (.int .i64 (j:Int))):=Q1.set1 o (a+3) 0 _;have B:=s.heap u oz;have C:=X2 (.int .i64 (j:Int)) m;refine hK.out _ _ (q.out _ (((Ext.of r).trans (i.mono (fun b hb e=>by have:=f.out;omega))).trans (s.mono (fun b hb e=>by have:=f.out;omega)))) (fun _=>?_);clear hK K N P
  (try change Qj _ _ _ _ _ _ _ _ (Act.put _ none _) _)
  (try simp only [Act.put])
  refine Qm kz ?_ _;have k:Ext c (o.setCell ⟨a+3,0,none⟩ (.int .i64 (j:Int))):=Q1.after (Q1.after r i (fun b hb e=>by have:=f.out;omega)) s (fun b hb e=>by have:=f.out;omega);obtain⟨c4,E⟩:=zE (o.setCell ⟨a+3,0,none⟩ (.int .i64 (j:Int)));rw [E] at B C k ⊢;clear E i s m u hS4 r v x;go_wp2;go_ret;refine⟨a+2,a+3,?_⟩;rw [V.out];exact⟨rfl,⟨k.keep L.out,W.out.ext (F.trans k)⟩,k.keep X.out,B,C,by omega,by omega,F.trans k⟩
 ·refine iw rfl ?_;go_simp;have t:Ext c ((c.drew).alloc (.cells #[.int .i64 0] 3)):=Q1.alloc (Q1.drew (Q1.refl _ c)) _;refine hK.out _ _ (q.out _ (Ext.of t)) (fun hS2=>?_);clear hK K;try simp only [Act.put,pq]
  refine rE [6] ?_;refine Q2.cons rfl (fun K hK=>?_) Q2.nil;refine iw rfl ?_;go_simp;have A:Ext c ((c.drew.alloc (.cells #[.int .i64 0] 3)).alloc (.cells #[.int .i64 0] 3)):=Q1.alloc (t) _;refine hK.out _ _ (q.out _ (Ext.of A)) (fun hS3=>?_);clear hK K;try simp only [Act.put,pq]
  rw [f.out,show a+2+1=a+3 from rfl];obtain⟨g,n⟩:=zE (((c.alloc (.cells #[.int .i64 0] 3)).alloc (.cells #[.int .i64 0] 3)).drew);have r:Ext c g:=by rw [<-n];exact(((Q1.refl _ c).alloc _).alloc _).drew
  have v:g.heap[a+2]?=some (.cells #[.int .i64 0] 3 (0,0)):=by rw [<-n];exact Yc (Q6 (Q3 f.out.symm))
  have x:g.heap[a+3]?=some (.cells #[.int .i64 0] 3 (0,0)):=by rw [<-n];exact Yc (Q3 (by simp [f.out]))
  rw [n];clear n hS2 hS3 t A;refine rE [8] ?_;refine Q2.cons rfl (fun K hK=>?_) Q2.nil;refine iw rfl ?_;have M:=cell_of_one x;have O:=free_of_one x;go_simp;have i:Q1 (fun b=>b=a+3) g (g.setCell ⟨a+3,0,none⟩ (.int .i64 (p:Int))):=Q1.set1 g (a+3) 0 _;have m:=i.heap v oz;have u:=X2 (.int .i64 (p:Int)) x;refine hK.out _ _ (q.out _ ((Ext.of r).trans (i.mono (fun b hb e=>by have:=f.out;omega)))) (fun hS4=>?_);clear hK K M O
  (try change Qj _ _ _ _ _ _ _ _ (Act.put _ none _) _)
  (try simp only [Act.put])
  obtain⟨o,D⟩:=zE (g.setCell ⟨a+3,0,none⟩ (.int .i64 (p:Int)));rw [D] at i m u hS4 ⊢;clear D;refine rE [9] ?_;refine Q2.cons rfl (fun K hK=>?_) Q2.nil;refine iw rfl ?_;have N:=cell_of_one m;have P:=free_of_one m;go_simp;have s:Q1 (fun b=>b=a+2) o (o.setCell ⟨a+2,0,none⟩ (.int .i64 (j:Int))):=Q1.set1 o (a+2) 0 _;have B:=s.heap u oz;have C:=X2 (.int .i64 (j:Int)) m;refine hK.out _ _ (q.out _ (((Ext.of r).trans (i.mono (fun b hb e=>by have:=f.out;omega))).trans (s.mono (fun b hb e=>by have:=f.out;omega)))) (fun _=>?_);clear hK K N P
  (try change Qj _ _ _ _ _ _ _ _ (Act.put _ none _) _)
  (try simp only [Act.put])
  refine Qm kz ?_ _;have k:Ext c (o.setCell ⟨a+2,0,none⟩ (.int .i64 (j:Int))):=Q1.after (Q1.after r i (fun b hb e=>by have:=f.out;omega)) s (fun b hb e=>by have:=f.out;omega);obtain⟨c4,E⟩:=zE (o.setCell ⟨a+2,0,none⟩ (.int .i64 (j:Int)));rw [E] at B C k ⊢;clear E i s m u hS4 r v x;go_wp2;go_ret;refine⟨a+3,a+2,?_⟩;rw [V.out];exact⟨rfl,⟨k.keep L.out,W.out.ext (F.trans k)⟩,k.keep X.out,B,C,by omega,by omega,F.trans k⟩
theorem Q50{w:World}{BW BL i j:Nat}{l:Q7}{cs:List Value}{vo:Option Addr}{vc:Nat}{ws:Wd}{K:Nat->Prop}(a:X8 l=true)(g:ws.length<=32)(d:ws.length<=vc)(e:Qr K (.slice vo ws.length vc))
  (c:∀ b,K b->b<w.heap.size) (f:∀ W,Q1 (fun b=>¬ K b) w W->R7 W BW BL i j l cs vo vc ws) :
  ∃ m,Ut Tryz.prog 225 #[.pointer (some ⟨BW,0,none⟩),.pointer (some ⟨BL,0,none⟩),.pointer (some ⟨i,0,none⟩),.pointer (some ⟨j,0,none⟩)] (Yl m) (Tg m) (Z4 l ws) K w:=by
 obtain⟨_,_,_,⟨o,p⟩,_⟩:=Gz a;by_cases k:l.mode=1
 ·exact⟨9,Q63 a k g d e c f⟩
 by_cases n:l.mode=2
 ·exact⟨2,Q14 a n g d e c f⟩
 ·exact⟨2,Q34 a oz g d e c f⟩
section
variable {α:Type} {H:List α->Nat->Bool} {P:List α->List α} {k m:Nat}
theorem Gy(w:List α):∀(n i:Nat) (d:List α),(U6 H P k w n i d).length<=n
 | 0,_,_=>by simp [U6]
 | n+1,i,d=>by
  unfold U6
  split
  ·rw [List.length_cons];split
   ·have:=Gy w n (i+1) (d++P ((w.drop i).take k)++(w.drop i).take 1);omega
   ·have:=Gy w n (i+k) (d++P ((w.drop i).take k));omega
  ·have:=Gy w n (i+1) (d++(w.drop i).take 1);omega
theorem H9:∀(n:Nat) (w:List α) (i:Nat),(U7 H P k m n w i).length<=n
 | 0,_,_=>by simp [U7]
 | n+1,w,i=>by
  unfold U7
  split
  ·simp
  ·split
   ·rw [List.length_cons];have:=H9 n (Gm P k w i) (i+m+(if k=0 then 1 else 0));omega
   ·have:=H9 n w (i+1);omega
theorem Wc:∀(n:Nat) (w:List α) (i:Nat),(Uu H P k n w i).length<=n
 | 0,_,_=>by simp [Uu]
 | n+1,_,0=>by simp [Uu]
 | n+1,w,i+1=>by
  unfold Uu
  split
  ·rw [List.length_cons];have:=Wc n (Gm P k w i) (i+1 - max k 1);omega
  ·have:=Wc n w i;omega
end
theorem Rx(l:Q7)(ws:Wd):(Z4 l ws).length<=ws.length+1:=by
 unfold Z4
 split
 ·exact Gy _ _ _ _
 ·split
  ·exact H9 _ _ _
  ·exact Wc _ _ _
def Zu(w:World)(v:Value)(u:Wd):Prop:=∃ ao c,v=.slice ao u.length c/\Q8 w (.slice ao u.length c) u/\u.length<=c
def Zw(w:World):List Value->List Wd->Prop
 | [],[]=>True
 | v::vs,u::us=>Zu w v u/\Zw w vs us
 | _,_=>False
theorem Zu.ext{A B:World}{v:Value}{u:Wd}(h:Zu A v u)(f:Ext A B):Zu B v u:=by
 obtain⟨a,b,c,d,e⟩:=h;exact⟨a,b,c,d.ext f,e⟩
theorem Zw.ext{A B:World}:∀ {vs:List Value} {us:List Wd},Zw A vs us->Ext A B->Zw B vs us
 | [],[],_,_=>trivial
 | _::_,_::_,⟨h1,h2⟩,ht=>⟨h1.ext ht,h2.ext ht⟩
theorem Zw.snoc{w:World}{v:Value}{u:Wd}:∀ {vs:List Value} {us:List Wd},Zw w vs us->Zu w v u->Zw w (vs++[v]) (us++[u])
 | [],[],_,h=>⟨h,trivial⟩
 | _::_,_::_,⟨h1,h2⟩,h=>⟨h1,h2.snoc h⟩
theorem Zw.length{w:World}:∀ {vs:List Value} {us:List Wd},Zw w vs us->vs.length=us.length
 | [],[],_=>rfl
 | _::_,_::_,⟨_,h2⟩=>by simp [h2.length]
theorem Zw.get{w:World}:∀ {vs:List Value} {us:List Wd},Zw w vs us->∀ i,i<us.length->Zu w (vs.getD i undef) (us.getD i [])
 | [],[],_,i,h=>by simp at h
 | _::_,_::_,⟨h1,_⟩,0,_=>h1
 | _::_,_::_,⟨_,h2⟩,i+1,h=>h2.get i (by simpa using h)
def Jr{α:Type}(sz:Nat)(ok:World->α->List Value->Prop)(w:World)(v:Value)(ps:List (α × List Value)):Prop:=
 Rd w v ps.length sz (ps.flatMap (·.2))/\∀ p∈ps,p.2.length=sz/\ok w p.1 p.2
theorem Jr.ext{α:Type}{sz:Nat}{ok:World->α->List Value->Prop}(hok:∀ A B x cs,ok A x cs->Ext A B->ok B x cs){A B:World}{v:Value}{ps:List (α × List Value)} (h:Jr sz ok A v ps) (ht:Ext A B):Jr sz ok B v ps:=
 ⟨h.1.ext ht,fun p hp=>⟨(h.2 p hp).1,hok _ _ _ _ (h.2 p hp).2 ht⟩⟩
theorem Do{α:Type}{sz:Nat}{ps:List (α × List Value)} (h:∀ p∈ps,p.2.length=sz) {i j:Nat} (b:i<ps.length) (c:j<sz):(ps.flatMap (·.2))[i*sz+j]?=ps[i].2[j]?:=by
 induction ps generalizing i with
 | nil=>cases b
 | cons p ps ih=>
  have a:=h p zy;rw [List.flatMap_cons];cases i with
  | zero=>rw [Nat.zero_mul,Nat.zero_add,List.getElem?_append_left oz];rfl
  | succ i=>
   rw [Nat.add_mul,Nat.one_mul,List.getElem?_append_right oz,a,show i*sz+sz+j - sz=i*sz+j by omega];exact ih (fun p a=>h p (by simp [a])) (by simpa using b)
theorem Jr.at{α:Type}{sz:Nat}{ok:World->α->List Value->Prop}{w:World}{v:Value}{ps:List (α × List Value)} (h:Jr sz ok w v ps) {i:Nat} (b:i<ps.length) :
  ∃ g off cap,(0<sz->v=.slice (some ⟨g,off,none⟩) ps.length cap/\g<w.heap.size)/\w.rangeAt g (off+i*sz) ps[i].2/\ok w ps[i].1 ps[i].2/\ps[i].2.length=sz:=by
 obtain⟨⟨r,s,q,cap,o,c⟩,a⟩:=h;obtain⟨g,off,d,f,e⟩:=c oz;subst d;obtain⟨n,l⟩:=a _ (List.getElem_mem b);refine⟨g,off,cap,fun _=>⟨o,f⟩,fun j u hu=>?_,l,n⟩;have k:j<sz:=by
  apply Nat.lt_of_not_le;intro t;rw [List.getElem?_eq_none oz] at hu;cases hu
 have m:i*sz+j<ps.length*sz:=by
  have:=Nat.mul_le_mul_right sz (show i+1<=ps.length by omega);rw [Nat.add_mul,Nat.one_mul] at this;omega
 have:=e (i*sz+j) m;rw [Nat.add_assoc,this,List.getD_eq_getElem?_getD,Do (fun p hp=>(a p hp).1) b k,hu];rfl
def Us(w:World)(p:Wd × Wd)(cs:List Value):Prop:=∃ u v,cs=[u,v]/\Zu w u p.1/\Zu w v p.2
theorem Us.ext{A B:World}{p:Wd × Wd}{cs:List Value}(h:Us A p cs)(a:Ext A B):Us B p cs:=by
 obtain⟨e,f,b,c,d⟩:=h;exact⟨e,f,b,c.ext a,d.ext a⟩
abbrev Qa:=List ((Wd × Wd) × List Value)
abbrev Qu:=Jr 2 Us
def J6(w:World)(s:Option Wd)(cs:List Value):Prop:=∃ ao n c,cs=[.slice ao n c,.bool s.isNone]/\∀ u,s=some u->Zu w (.slice ao n c) u
theorem J6.ext{A B:World}{s:Option Wd}{cs:List Value}(h:J6 A s cs)(e:Ext A B):J6 B s cs:=by
 obtain⟨a,f,b,c,d⟩:=h;exact⟨a,f,b,c,fun u hu=>(d u hu).ext e⟩
abbrev Y9:=Jr 2 J6
theorem Zc{A B:World}{v:Value}{qs:List ((Wd × Wd) × List Value)} (h:Qu A v qs) (ht:Ext A B):Qu B v qs:=Jr.ext (ok:=Us) (fun _ _ _ _ h ht=>Us.ext h ht) h ht
theorem Mr{A B:World}{v:Value}{qs:List (Option Wd × List Value)} (h:Y9 A v qs) (ht:Ext A B):Y9 B v qs:=Jr.ext (ok:=J6) (fun _ _ _ _ h ht=>J6.ext h ht) h ht
theorem Q6z{l:Q7}{ws:Wd}(h:Jf l ws≠0):trE l ws≠0:=by
 unfold trE;rw [if_neg h];exact h
theorem Q5z{l:Q7}{ws:Wd}(h:trE l ws=0):Jf l ws=0:=by
 apply Decidable.byContradiction;intro a;exact Q6z a h
theorem Gv{A:World}{p:Addr}{v:Value}(h:A.cell? p=some v):∃ o,A.heap[p.block]?=some o/\o.isCells=true:=by
 unfold World.cell? at h
 split at h
 ·exact⟨_,by assumption,rfl⟩
 ·cases h
theorem Q22{base:Nat}{A B:World}(c:Q1 (Go.Ab.Shut base A) A B) {p:Addr} {v:Value} (h:A.cell? p=some v):B.cell? p=some v:=by
 obtain⟨d,a,b⟩:=Gv h;exact c.cell_some h (Go.Ab.Shut.not a b)
theorem Rd.shut{base:Nat}{A B:World}(a:Q1 (Go.Ab.Shut base A) A B) {v:Value} {n sz:Nat} {xs:List Value} (h:Rd A v n sz xs):Rd B v n sz xs:=by
 obtain⟨e,f,b,c,m,g⟩:=h;refine⟨e,f,b,c,m,fun hn=>?_⟩;obtain⟨d,o,i,l,k⟩:=g hn;exact⟨d,o,i,Nat.lt_of_lt_of_le l a.size,fun j hj=>Q22 a (k j hj)⟩
theorem Rd.nocells{r:Nat}{A B:World}(d:Q1 (fun b=>b=r) A B) (t:∃ o,A.heap[r]?=some o/\o.isCells=false) {v:Value} {n sz:Nat} {xs:List Value} (h:Rd A v n sz xs):Rd B v n sz xs:=by
 obtain⟨l,m,g,i,u,p⟩:=h;refine⟨l,m,g,i,u,fun hn=>?_⟩;obtain⟨k,w,q,s,c⟩:=p hn;refine⟨k,w,q,Nat.lt_of_lt_of_le s d.size,fun j hj=>d.cell_some (c j hj) (fun e=>?_)⟩;obtain⟨o,a,f⟩:=Gv (c j hj);obtain⟨z,x,y⟩:=t;simp only at e a;rw [e,x] at a;cases a;rw [y] at f;cases f
theorem Ke{base0:Nat}{A B:World}{base:Nat}{e:TypeId}{sz:Nat}{v:Value}{n:Nat}{xs:List Value}(h:A.ownsRow base e sz v n xs)(ht:Q1 (Go.Ab.Shut base0 A) A B):B.ownsRow base e sz v n xs:=
 Q52 h ht fun _ _ hg ho=>Go.Ab.Shut.not hg ho
theorem Gg{W:World}{f i:Nat}{b c:TypeId}{s1 s2 o p:Nat}{d e:Value}{r s:List Value}(j:W.ownsRow f b s1 d o r)(k:W.ownsRow i c s2 e p s)(l:b≠c):∀ g,d.ownBlock=some g->e.ownBlock≠some g:=by
 intro g m n;obtain⟨t,q⟩:=Z3 j m;obtain⟨u,a⟩:=Z3 k n;rw [q] at a;simp only [Option.some.injEq,Obj.cells.injEq] at a;exact l a.2.1
theorem Ua{W:World}{g:Nat}{v:Value}{t:TypeId}(h:W.heap[g]?=some (.cells #[v] t (0,0))):∀ j u,[v][j]?=some u->W.cell? ((⟨g,0,none⟩:Addr).add j)=some u:=by
 intro j u a
 match j,a with
 | 0,a=>
  simp at a;subst a;exact cell_of_one h
theorem Zu.keepS{S:Nat->Prop}{A B:World}{v:Value}{u:Wd}(h:Zu A v u)(g:Q1 (fun b=>¬ S b) A B) (f:Qr S v):Zu B v u:=by
 obtain⟨a,c,rfl,d,e⟩:=h;exact⟨a,c,rfl,Hd d g f,e⟩
theorem Zu.shut{base:Nat}{A B:World}(e:Q1 (Go.Ab.Shut base A) A B) {v:Value} {u:Wd} (h:Zu A v u):Zu B v u:=by
 obtain⟨b,c,rfl,a,d⟩:=h;exact⟨b,c,rfl,⟨Rd.shut e a.1,a.2⟩,d⟩
theorem Zw.keepS{S:Nat->Prop}{A B:World}(ht:Q1 (fun b=>¬ S b) A B):∀ {vs:List Value} {us:List Wd},Zw A vs us->(∀ x∈vs,Qr S x)->Zw B vs us
 | [],[],_,_=>trivial
 | _::_,_::_,⟨h1,h2⟩,hS=>⟨h1.keepS ht (hS _ zy),h2.keepS ht (fun x hx=>hS x (by simp [hx]))⟩
theorem Zw.shut{base:Nat}{A B:World}(ht:Q1 (Go.Ab.Shut base A) A B):∀ {vs:List Value} {us:List Wd},Zw A vs us->Zw B vs us
 | [],[],_=>trivial
 | _::_,_::_,⟨h1,h2⟩=>⟨h1.shut ht,h2.shut ht⟩
theorem Qr.mono{S T:Nat->Prop}{v:Value}(h:Qr S v)(hst:∀ b,S b->T b):Qr T v:=fun g o n c e h0=>hst _ (h g o n c e h0)
def Jt(b:Nat)(W:World)(u v:Value)(t:List (Nat × Wd)):Prop:=
 W.ownsRow b 3 1 u t.length (Qi (t.map (·.1)))/\∃ vals,W.ownsRow b 99 1 v t.length vals/\Zw W vals (t.map (·.2))
theorem Jt.nil(b:Nat)(W:World):Jt b W (.slice none 0 0) (.slice none 0 0) []:=⟨World.ownsRow_nil _ _ _ _,[],World.ownsRow_nil _ _ _ _,trivial⟩
theorem Jt.ext{b:Nat}{A B:World}{u v:Value}{t:List (Nat × Wd)} (h:Jt b A u v t) (a:Ext A B):Jt b B u v t:=by
 obtain⟨c,f,d,e⟩:=h;exact⟨Qf c a,f,Qf d a,e.ext a⟩
theorem Jt.base{b b':Nat}{A:World}{u v:Value}{t:List (Nat × Wd)} (h:Jt b A u v t) (a:b'<=b):Jt b' A u v t:=by
 obtain⟨c,f,d,e⟩:=h;exact⟨Xh c a,f,Xh d a,e⟩
theorem Jt.slices{b:Nat}{A:World}{u v:Value}{t:List (Nat × Wd)} (h:Jt b A u v t):∃ uo uc vo vc,u=.slice uo t.length uc/\v=.slice vo t.length vc/\t.length<=maxLen:=by
 obtain⟨a,f,c,e⟩:=h;obtain⟨_,_,uo,uc,rfl,_⟩:=Rd.of_own a;obtain⟨_,d,vo,vc,rfl,_⟩:=Rd.of_own c;exact⟨uo,uc,vo,vc,rfl,rfl,d⟩
theorem Jt.at{b:Nat}{A:World}{u j:Value}{t:List (Nat × Wd)} (h:Jt b A u j t) {i:Nat} (e:i<t.length) :
  ∃ g cap ao c,j=.slice (some ⟨g,0,none⟩) t.length cap/\A.cell? ⟨g,i,none⟩=some (.slice ao t[i].2.length c)/\Q8 A (.slice ao t[i].2.length c) t[i].2/\t[i].2.length<=c:=by
 obtain⟨_,w,d,k⟩:=h;obtain⟨s,v,ao,cap,rfl,o⟩:=Rd.of_own d;obtain⟨g,rfl⟩:=Dd d oz;obtain⟨q,r,f,_,p⟩:=o oz;simp only [Option.some.injEq,Addr.mk.injEq] at f;obtain⟨rfl,rfl,_⟩:=f;have a:=k.get i (by simpa using e);have m:(t.map (·.2)).getD i []=t[i].2:=by rw [List.getD_eq_getElem?_getD,List.getElem?_map,List.getElem?_eq_getElem e];rfl
 rw [m] at a;obtain⟨ao,c,n,a,l⟩:=a;have:=p i oz;rw [Nat.zero_add,n] at this;exact⟨g,cap,ao,c,rfl,this,a,l⟩
structure TrI (w:World) (B P D m:Nat) (O:Nat->Prop) (pre:List (Nat × Wd)) (V:World) (u v:Value) (vals:List Value):Prop where
 ru:V.heap[B+1]?=some (.cells #[.slice none 0 0] 48 (0,0))
 rv:V.heap[B+2]?=some (.cells #[.slice none 0 0] 60 (0,0))
 re:V.heap[B+3]?=some (.cells #[.int .i64 0] 40 (0,0))
 bu:V.heap[P]?=some (.cells #[u] 48 (0,0))
 bv:V.heap[P+1]?=some (.cells #[v] 60 (0,0))
 ou:V.ownsRow (D+2) 3 1 u pre.length (Qi (pre.map (·.1)))
 ov:V.ownsRow (D+2) 99 1 v pre.length vals
 wd:Zw V vals (pre.map (·.2))
 ub:∀ g,u.ownBlock=some g->¬ O g
 vb:∀ g,v.ownBlock=some g->¬ O g
 wk:∀ x∈vals,Qr (fun g=>D+2+m<=g/\g<V.heap.size/\u.ownBlock≠some g/\v.ownBlock≠some g) x
 ext:Ext w V
 short:Vi pre=false
section
variable {w:World} {B P D m:Nat} {O:Nat->Prop} {pre:List (Nat × Wd)} {V:World} {u v:Value} {vals:List Value}
theorem TrI.turn(h:TrI w B P D m O pre V u v vals){O':Nat->Prop}{W:World}(k:w.heap.size=B)(l:B+4<=P)(n:P+2<=D)(j:∀ b,O b->D+2<=b/\b<V.heap.size)
  (c:Q1 (fun b=>(O b/\Yl m (D+2) b)\/b=D+1) V W) (f:∀ b,O' b->(O b\/V.heap.size<=b)/\b<W.heap.size):TrI w B P D m O' pre W u v vals:=by
 have d:∀ b,b<D->¬ ((O b/\Yl m (D+2) b)\/b=D+1):=fun b hb hn=>by
  rcases hn with a | a
  ·have:=(j b a.1).1;omega
  ·omega
 have i:∀ {x:Value},(∀ g,x.ownBlock=some g->¬ O g)->(∀ g,x.ownBlock=some g->D+2<=g)->∀ g,x.ownBlock=some g->¬ ((O g/\Yl m (D+2) g)\/g=D+1):=fun a h2 g hg hn=>by
  rcases hn with e | e
  ·exact a g hg e.1
  ·have:=h2 g hg;omega
 refine⟨c.heap h.ru (d _ oz),c.heap h.rv (d _ oz),c.heap h.re (d _ oz),c.heap h.bu (d _ oz),c.heap h.bv (d _ oz),Qd h.ou c (i h.ub (fun g hg=>(h.ou.lt g hg).1)),Qd h.ov c (i h.vb (fun g hg=>(h.ov.lt g hg).1)),?_,fun g hg hg2=>?_,fun g hg hg2=>?_,fun x hx=>(h.wk x hx).mono fun b hb=>⟨hb.1,Nat.lt_of_lt_of_le hb.2.1 c.size,hb.2.2⟩,h.ext.after c (fun b hb hn=>d b oz hn),h.short⟩
 ·refine h.wd.keepS (S:=fun g=>D+2+m<=g) (c.mono fun b _ hb hn=>?_) (fun x hx=>(h.wk x hx).mono fun b hb=>hb.1);rcases hb with a | a
  ·have:=a.2;unfold Yl at this;omega
  ·omega
 ·rcases(f g hg2).1 with a | a
  ·exact h.ub g hg a
  ·have:=(h.ou.lt g hg).2;omega
 ·rcases(f g hg2).1 with a | a
  ·exact h.vb g hg a
  ·have:=(h.ov.lt g hg).2;omega
theorem TrI.push(h:TrI w B P D m O pre V u v vals)(a1:w.heap.size=B)(a2:B+4<=P)(a3:P+2<=D)(A:∀ b,O b->D+2<=b/\b<V.heap.size)(_hDV:D+2<=V.heap.size)
  {x:Nat × Wd} {ao:Option Addr} {c:Nat} (X:Q8 V (.slice ao x.2.length c) x.2) (N:x.2.length<=c) (Q:Qr (fun g=>O g/\D+2+m<=g/\g<V.heap.size) (.slice ao x.2.length c)) (a0:x.2.length<=32)
  {W:World} {u' v':Value} (t:W.ownsRow (D+2) 3 1 u' (pre.length+1) (Qi (pre.map (·.1))++[.int .i64 (x.1:Int)])) (z:W.ownsRow (D+2) 99 1 v' (pre.length+1) (vals++[.slice ao x.2.length c]))
  (j:Q1 (fun b=>u.ownBlock=some b\/v.ownBlock=some b) V W) (C:u'.ownBlock=u.ownBlock\/∃ k,V.heap.size<=k/\u'.ownBlock=some k) (E:v'.ownBlock=v.ownBlock\/∃ k,V.heap.size<=k/\v'.ownBlock=some k) :
  (∃ u v vals,TrI w B P D m O (pre++[x]) ((W.setCell ⟨P,0,none⟩ u').setCell ⟨P+1,0,none⟩ v') u v vals)/\Q1 (fun b=>¬ ((b<D/\b≠P/\b≠P+1/\b≠B+1/\b≠B+2/\b≠B+3)\/O b\/b=D\/b=D+1)) V ((W.setCell ⟨P,0,none⟩ u').setCell ⟨P+1,0,none⟩ v'):=by
 obtain⟨o,q⟩:=zE ((W.setCell ⟨P,0,none⟩ u').setCell ⟨P+1,0,none⟩ v');have i:Q1 (fun b=>b=P\/b=P+1) W o:=by rw [<-q];exact((Q1.set1 W P 0 u').mono fun b _ a=>.inl a).trans ((Q1.set1 _ (P+1) 0 v').mono fun b _ a=>.inr a)
 have s:∀ b,(u.ownBlock=some b\/v.ownBlock=some b)->D+2<=b/\¬ O b/\b<V.heap.size:=fun b d=>by
  rcases d with d | d
  ·exact⟨(h.ou.lt b d).1,h.ub b d,(h.ou.lt b d).2⟩
  ·exact⟨(h.ov.lt b d).1,h.vb b d,(h.ov.lt b d).2⟩
 have n:∀ b,b<D->¬ (u.ownBlock=some b\/v.ownBlock=some b):=fun b d e=>by have:=(s b e).1;omega
 have I:=j.heap h.bu (n _ oz);have K:=j.heap h.bv (n _ oz);have J:o.heap[P]?=some (.cells #[u'] 48 (0,0)):=by
  rw [<-q];exact(Q1.set1 _ (P+1) 0 v').heap (X2 u' I) oz
 have L:o.heap[P+1]?=some (.cells #[v'] 60 (0,0)):=by
  rw [<-q];exact X2 v' ((Q1.set1 W P 0 u').heap K oz)
 have T:∀ g,u'.ownBlock=some g->D+2<=g:=fun g hg=>(t.lt g hg).1;have U:∀ g,v'.ownBlock=some g->D+2<=g:=fun g hg=>(z.lt g hg).1
 have G:∀ {y y':Value},(∀ g,y.ownBlock=some g->¬ O g)->(y'.ownBlock=y.ownBlock\/∃ k,V.heap.size<=k/\y'.ownBlock=some k)->∀ g,y'.ownBlock=some g->¬ O g:=fun h1 p g hg ho=>by
  rcases p with p | ⟨k,p,l⟩
  ·exact h1 g (p ▸ hg) ho
  ·rw [l] at hg;cases hg;have:=(A _ ho).2;omega
 have H:∀ {y y':Value} (g:Nat),y.ownBlock≠some g->g<V.heap.size->(y'.ownBlock=y.ownBlock\/∃ k,V.heap.size<=k/\y'.ownBlock=some k)->y'.ownBlock≠some g:=fun g h1 p l=>by
  rcases l with l | ⟨k,l,M⟩
  ·rw [l];exact h1
  ·rw [M];intro a;cases a;omega
 have R:=Nat.le_trans j.size i.size;have r:Q1 (fun b=>(u.ownBlock=some b\/v.ownBlock=some b)\/(b=P\/b=P+1)) V o:=(j.mono fun b _ a=>.inl a).trans (i.mono fun b _ a=>.inr a);have Y:Qr (fun g=>D+2+m<=g/\g<V.heap.size/\u.ownBlock≠some g/\v.ownBlock≠some g) (.slice ao x.2.length c):=Q.mono fun b d=>⟨d.2.1,d.2.2,fun a=>h.ub b a d.1,fun a=>h.vb b a d.1⟩
 have F:∀ y∈vals++[.slice ao x.2.length c],Qr (fun g=>D+2+m<=g/\g<V.heap.size/\u.ownBlock≠some g/\v.ownBlock≠some g) y:=fun y f=>by
  rcases List.mem_append.1 f with f | f
  ·exact h.wk y f
  ·simp only [List.mem_singleton] at f;subst f;exact Y
 rw [q];refine⟨⟨u',v',vals++[.slice ao x.2.length c],⟨?_,?_,?_,J,L,?_,?_,?_,G h.ub C,G h.vb E,fun y f=>(F y f).mono fun b d=>⟨d.1,Nat.lt_of_lt_of_le d.2.1 R,H b d.2.2.1 d.2.1 C,H b d.2.2.2 d.2.1 E⟩,?_,?_⟩⟩,r.mono fun b d a e=>?_⟩
 ·exact i.heap (j.heap h.ru (n _ oz)) oz
 ·exact i.heap (j.heap h.rv (n _ oz)) oz
 ·exact i.heap (j.heap h.re (n _ oz)) oz
 ·rw [List.length_append,List.map_append];show o.ownsRow _ _ _ _ _ (Qi (pre.map (·.1)++[x.1]));rw [Xg];exact Qd t i (fun g hg a=>by have:=T g hg;omega)
 ·rw [List.length_append];exact Qd z i (fun g hg a=>by have:=U g hg;omega)
 ·rw [List.map_append];refine(h.wd.snoc ⟨ao,c,rfl,X,N⟩).keepS (S:=fun g=>D+2+m<=g/\g<V.heap.size/\u.ownBlock≠some g/\v.ownBlock≠some g) (r.mono fun b _ a e=>?_) F;rcases a with (a | a) | a
  ·exact e.2.2.1 a
  ·exact e.2.2.2 a
  ·omega
 ·refine h.ext.after r (fun b d a=>?_);rcases a with a | a
  ·exact n b oz a
  ·omega
 ·have:=h.short;unfold Vi at this ⊢;rw [List.any_append,this];simp;omega
 ·rcases a with a | a
  ·obtain⟨a4,Z,a5⟩:=s b a;rcases e with e | e | e | e
   ·omega
   ·exact Z e
   ·omega
   ·omega
  ·rcases e with e | e | e | e
   ·omega
   ·have:=(A b e).1;omega
   ·omega
   ·omega
end
theorem Q47{V:World}{b c d:Nat}{x1 x2 x3:Value}{t1 t2 t3:TypeId}(h1:V.heap[b]?=some (.cells #[x1] t1 (0,0))) (h2:V.heap[c]?=some (.cells #[x2] t2 (0,0))) (h3:V.heap[d]?=some (.cells #[x3] t3 (0,0))) (hbc:b≠c) (hcd:c≠d) (hbd:b≠d) (y1 y2 y3:Value) :
  (((V.setCell ⟨b,0,none⟩ y1).setCell ⟨c,0,none⟩ y2).setCell ⟨d,0,none⟩ y3).heap[b]?=some (.cells #[y1] t1 (0,0))/\(((V.setCell ⟨b,0,none⟩ y1).setCell ⟨c,0,none⟩ y2).setCell ⟨d,0,none⟩ y3).heap[c]?=some (.cells #[y2] t2 (0,0))/\(((V.setCell ⟨b,0,none⟩ y1).setCell ⟨c,0,none⟩ y2).setCell ⟨d,0,none⟩ y3).heap[d]?=some (.cells #[y3] t3 (0,0)) /\
  Q1 (fun x=>x=b\/x=c\/x=d) V (((V.setCell ⟨b,0,none⟩ y1).setCell ⟨c,0,none⟩ y2).setCell ⟨d,0,none⟩ y3):=
 ⟨(Q1.set1 _ d 0 y3).heap ((Q1.set1 _ c 0 y2).heap (X2 y1 h1) oz) oz,(Q1.set1 _ d 0 y3).heap (X2 y2 ((Q1.set1 V b 0 y1).heap h2 oz)) oz,
  X2 y3 ((Q1.set1 _ c 0 y2).heap ((Q1.set1 V b 0 y1).heap h3 oz) oz),(((Q1.set1 V b 0 y1).mono fun x _ e=>.inl e).trans ((Q1.set1 _ c 0 y2).mono fun x _ e=>.inr (.inl e))).trans ((Q1.set1 _ d 0 y3).mono fun x _ e=>.inr (.inr e))⟩
theorem Ji{a:Func}{p q r:Tmp}(h:a.results=#[.cell p 48,.cell q 60,.cell r 40]){tmps:Array Value}{w:World}{b c d:Nat}{x y z:Value}
  (i:tmps.getD p undef=.pointer (some ⟨b,0,none⟩)) (k:tmps.getD q undef=.pointer (some ⟨c,0,none⟩)) (m:tmps.getD r undef=.pointer (some ⟨d,0,none⟩))
  (o:w.heap[b]?=some (.cells #[x] 48 (0,0))) (s:w.heap[c]?=some (.cells #[y] 60 (0,0))) (t:w.heap[d]?=some (.cells #[z] 40 (0,0))) :
  (results a tmps).run Tryz.prog w=.ok (.tuple #[x,y,z]) w:=by
 have j:tmps[p]?.getD undef=.pointer (some ⟨b,0,none⟩):=by simpa using i
 have l:tmps[q]?.getD undef=.pointer (some ⟨c,0,none⟩):=by simpa using k
 have n:tmps[r]?.getD undef=.pointer (some ⟨d,0,none⟩):=by simpa using m
 have e:=cell_of_one o;have f:=cell_of_one s;have g:=cell_of_one t;simp [results,h,j,l,n,asAddr,go_sem,e,f,g]
abbrev Q98:Pat:=.node 0 0 0 false 0 0 []
def Q9z(l:Q7)(s:Nat × Nat):Wd:=if Gk s (l.ifs.getD 0 (0,0))=true then X9 l [s] else [s]
def Cs:List Q7->Wd->Option Wd
 | [],w=>some w
 | l::ls,w=>if trE l w=0 then Cs ls (Vu l w) else none
def R2(ls:List Q7):Int:=if 64<ls.length then 12 else if ls.all X8=true then 0 else 17
def Q3v(ls:List Q7)(w:Wd):Int:=if R2 ls=0 then wE w else R2 ls
def Q3b(ls:List Q7)(w:Wd):Int:=if Q3v ls w=0 then(if (Cs ls w).isSome=true then 0 else 11) else Q3v ls w
def Q4l(ls:List Q7)(w:Wd):Wd:=if Q3v ls w=0 then(Cs ls w).getD [] else []
def Df(ps:Qy)(k:Nat):Prop:=(ps.take k).all (fun p=>X8 p.1)=true
theorem Q2t{ps:Qy}{k:Nat}(b:k<ps.length)(h:Df ps k)(a:X8 ps[k].1=true):Df ps (k+1):=by
 unfold Df at *;rw [List.take_succ_eq_append_getElem b,List.all_append,h];simp [a]
theorem Q5e{ps:Qy}{k:Nat}(b:k<ps.length)(a:X8 ps[k].1=false):(ps.map (·.1)).all X8=false:=by
 rw [List.all_map,List.all_eq_false];exact⟨_,List.getElem_mem b,by simp [a]⟩
theorem Re{ps:Qy}{k:Nat}(a:ps.length<=k)(h:Df ps k):(ps.map (·.1)).all X8=true:=by
 unfold Df at h;rw [List.take_of_length_le a] at h;rw [List.all_map];exact h
def Up(b:Nat)(W:World)(u v:Value)(t:List (Nat × Wd)):Prop:=
 W.ownsRow b 3 1 u t.length (Qi (t.map (·.1)))/\∃ vals,W.ownsRow b 99 1 v t.length vals/\Zw W vals (t.map (·.2))/\∀ x∈vals,Qr (fun g=>b<=g) x
theorem Up.out{b:Nat}{W:World}{u v:Value}{t:List (Nat × Wd)} (h:Up b W u v t):Jt b W u v t:=by
 obtain⟨a,e,c,d,_⟩:=h;exact⟨a,e,c,d⟩
theorem Up.nil(b:Nat)(W:World):Up b W (.slice none 0 0) (.slice none 0 0) []:=⟨World.ownsRow_nil _ _ _ _,[],World.ownsRow_nil _ _ _ _,trivial,fun x hx=>by cases hx⟩
theorem Up.fresh{b cap g:Nat}{A:World}{u:Value}{t:List (Nat × Wd)} (h:Up b A u (.slice (some ⟨g,0,none⟩) t.length cap) t) {i:Nat} (f:i<t.length) {x:Value} (e:A.cell? ⟨g,i,none⟩=some x):Qr (fun g=>b<=g) x:=by
 obtain⟨_,k,a,_,d⟩:=h;have j:=a.1;have c:=a.cellAt i oz;rw [e] at c;exact d x (List.mem_of_getElem? c.symm)
theorem Tryz.infoW:(Tryz.prog.info? 99).map (fun i=>(i.zero,i.size,i.bytes))=some (some (.slice none 0 0),1,24):=by kernel_rfl
theorem Q0r{w:World}{l:Q7}{cs:List Value}{vo:Option Addr}{vc:Nat}{ws:Wd}(i5:Z2 w l cs)(l8:Q8 w (.slice vo ws.length vc) ws) (w2:ws.length<=vc) (q6:Tab w) :
  Calls Tryz.prog 175 #[.agg cs.toArray,.slice vo ws.length vc] w fun e w'=>∃ u v,e=.returned (.tuple #[u,v,.int .i64 (trE l ws)])/\Up w.heap.size w' u v (trT l ws)/\Ext w w':=by
 have l2:=fun(d:World) (b9:Ext w d)=>Tw (i5.ext b9) (l8.ext b9) (q6.keep b9 id);have r3:=fun(d:World) (b9:Ext w d)=>Q4m (i5.ext b9) (vo:=vo) (vn:=ws.length) (vc:=vc);obtain⟨A9,u8,y4⟩:=Zh3 i5 l8 q6
 have q8:Qr (fun g=>g<w.heap.size) (.slice vo ws.length vc):=fun g o i b8 e h0=>by
  obtain⟨_,_,k7,C1,d9,p6⟩:=l8.1;rw [d9] at e;cases e;cases d9;obtain⟨C2,C4,G,H,_⟩:=p6 h0;cases G;exact H
 have l1:Jf l ws=0->X8 l=true/\ws.length<=32:=fun h0=>⟨(Dz h0).1,Q5v (Dz h0).2⟩;have l6:trE l ws=if Jf l ws=0 then(if Vi (Z4 l ws)=true then 11 else 0) else Jf l ws:=rfl
 have l7:trT l ws=if trE l ws=0 then Z4 l ws else []:=rfl
 have z3:=Rx l ws;obtain⟨C6,l9⟩:=zE ws.length;rw [l9] at l2 r3 q8 l1 w2 z3 u8;rw [l9];obtain⟨s9,s1,t4,s4,s7,p2,p4,t0,o7,y,s2,t5,s5,s8,p3,p5,t1,o8,c2,s0,o9,r9,t3,p0,t2,s6,rfl,y3,B7,B8,A8,B6,B5,B1,B2,B3,B4,B0,C5,G,H,P,M⟩:=Yr i5;obtain⟨Y,v9⟩:=zE (Jf l ws);obtain⟨k3,b9⟩:=zE (trE l ws);obtain⟨p1,w1⟩:=zE (trT l ws);rw [v9] at l2 l1 l6;rw [b9] at l6 l7 ⊢;rw [w1] at l7 ⊢;obtain⟨u3,n7,y2,u2,n9,o0,g5⟩:=Zh7 l2 r3 q8 l1 l6 l7 l9;clear i5 l8 q6 l2 r3 q8 l1 l6 l7 v9 b9 w1 l9;refine Qv Tryz.func175 rfl ?_;simp only [Tryz.ntmps175,zS,Nat.reduceAdd,Nat.reduceSub];go_upto_region 1 with (fail)
 obtain⟨g1,d8⟩:=zE ((((w.alloc (.cells #[.string s9,.int .i64 s1,.int .u32 (t4:Int),.int .u32 (s4:Int),.bool s7,.int .i64 p2,.int .i64 p4,.slice t0 o7 y,.int .i64 s2,.int .u32 (t5:Int),.int .u32 (s5:Int),.bool s8,.int .i64 p3,.int .i64 p5,.slice t1 o8 c2,.slice s0 o9 r9,.slice t3 p0 t2,.int .i64 s6] 102)).alloc (.cells #[.slice none 0 0] 48)).alloc (.cells #[.slice none 0 0] 60)).alloc (.cells #[.int .i64 0] 40));have p9:Ext w g1:=by rw [<-d8];exact((((Q1.refl _ w).alloc _).alloc _).alloc _).alloc _
 have q9:g1.heap[w.heap.size]?=some (.cells #[.string s9,.int .i64 s1,.int .u32 (t4:Int),.int .u32 (s4:Int),.bool s7,.int .i64 p2,.int .i64 p4,.slice t0 o7 y,.int .i64 s2,.int .u32 (t5:Int),.int .u32 (s5:Int),.bool s8,.int .i64 p3,.int .i64 p5,.slice t1 o8 c2,.slice s0 o9 r9,.slice t3 p0 t2,.int .i64 s6] 102 (0,0)):=by rw [<-d8];exact Q6 (Q6 (Q6 (Q3 rfl)))
 have r6:g1.heap[w.heap.size+1]?=some (.cells #[.slice none 0 0] 48 (0,0)):=by rw [<-d8];exact Q6 (Q6 (Q3 zy))
 have r7:g1.heap[w.heap.size+2]?=some (.cells #[.slice none 0 0] 60 (0,0)):=by rw [<-d8];exact Q6 (Q3 zy)
 have q7:g1.heap[w.heap.size+3]?=some (.cells #[.int .i64 0] 40 (0,0)):=by rw [<-d8];exact Q3 zy
 have x2:g1.heap.size=w.heap.size+4:=by rw [<-d8];simp
 rw [d8];obtain⟨f,p7⟩:=zE w.heap.size;rw [p7] at q9 r6 r7 q7 x2 ⊢;have s:=Zh p7;have n1:=Zh q9;clear d8 p7 q9
 go_wp2_with (refine wpList_load_row rfl 102 (.tmp 2) rfl f rfl _ _ _ _ n1.out Tryz.underlying102 rfl Tryz.lawInfo ?_)
 refine(u3.out _ p9).mono ?_;rintro e e1 ⟨rfl,F⟩;have m:=p9.trans F;have u4:=Zh (F.keep n1.out);have f4:=F.keep r6;have f5:=F.keep r7;have f3:=F.keep q7;have r4:f+4<=e1.heap.size:=by have:=F.size;omega
 clear F p9 n1 u3 r6 r7 q7 x2;by_cases h0:Y=0;case neg=>
  have T:(Y != 0)=true:=by rw [bne_iff_ne];exact h0
  have a3:Hid (k3=Y):=Zh (by rw [n9.out,if_neg h0]);have e3:Hid (p1=[]):=Zh (by rw [o0.out,if_neg (by rw [a3.out];exact h0)]);have i7:=Q47 f4 f5 f3 oz oz oz (.slice none 0 0) (.slice none 0 0) (.int .i64 Y);have n8:=Zh i7;have y7:=cell_of_one f4;have z0:=free_of_one f4;have y8:=cell_of_one f5;have z1:=free_of_one f5;have y6:=cell_of_one f3;have y9:=free_of_one f3;clear i7 f4 f5 f3 n7;go_wp2;obtain⟨G,H,P,M⟩:=n8.out;refine Zr (v:=.tuple #[.slice none 0 0,.slice none 0 0,.int .i64 Y]) (base:=f) _ _ trivial fun w' ht' i6=>⟨Ji rfl rfl rfl rfl (ht'.heap G (Go.Ab.Shut.not G rfl)) (ht'.heap H (Go.Ab.Shut.not H rfl)) (ht'.heap P (Go.Ab.Shut.not P rfl)),_,_,by rw [a3.out],by rw [e3.out];exact Up.nil _ _,?_⟩
  exact(m.after M (fun b hb p=>by have:=s.out;omega)).after ht' (fun b T U=>by have:=U.1;have:=s.out;omega)
 subst h0;obtain⟨z6,A2⟩:=u2.out rfl;have u7:Hid (k3=if Vi (Z4 l ws)=true then 11 else 0):=Zh (by rw [n9.out,if_pos rfl]);clear n9 u2;go_upto_region 6 with (fail)
 obtain⟨k1,f6⟩:=zE ((e1.alloc (.cells #[.slice none 0 0] 48)).alloc (.cells #[.slice none 0 0] 60));have f2:Ext e1 k1:=by rw [<-f6];exact((Q1.refl _ e1).alloc _).alloc _
 have r0:k1.heap[e1.heap.size]?=some (.cells #[.slice none 0 0] 48 (0,0)):=by rw [<-f6];exact Q6 (Q3 rfl)
 have r1:k1.heap[e1.heap.size+1]?=some (.cells #[.slice none 0 0] 60 (0,0)):=by rw [<-f6];exact Q3 zy
 have r5:k1.heap.size=e1.heap.size+2:=by rw [<-f6];simp
 rw [f6];obtain⟨n,v8⟩:=zE e1.heap.size;rw [v8] at r0 r1 r5 r4 ⊢;have k8:=r4;have q0:=m.trans f2;have u5:=Zh (f2.keep u4.out);have x5:=f2.keep f4;have x7:=f2.keep f5;have w5:=f2.keep f3;clear f6 v8 f2 m u4 f4 f5 f3 r4
 go_wp2_with (refine wpList_load_row rfl 102 (.tmp 2) rfl f rfl _ _ _ _ u5.out Tryz.underlying102 rfl Tryz.lawInfo ?_)
 have r2:=n7.out k1 q0;rw [r5] at r2;have u6:=Zh r2;clear r2;refine u6.out.mono ?_;rintro e t9 ⟨y0,y1,rfl,q3,q5,q2,q4,z5,z8,F⟩;have q1:=q0.trans F;have x0:=F.keep r0;have x1:=F.keep r1;have x6:=F.keep x5;have i8:=F.keep x7;have w6:=F.keep w5;have x3:n+2<=t9.heap.size:=by have:=F.size;omega
 have v5:=(Array.getElem?_eq_some_iff.1 q3.1).1;have w0:=(Array.getElem?_eq_some_iff.1 q5).1;have v4:=(Array.getElem?_eq_some_iff.1 q2).1;have v6:=(Array.getElem?_eq_some_iff.1 q4).1;obtain⟨c,p8⟩:=zE t9.heap.size;rw [p8] at x3 v5 w0 v4 v6;have k9:=x3;have a8:=Zh p8;have z4:∃ f7,Ut Tryz.prog 225 #[.pointer (some ⟨n+2+1,0,none⟩),.pointer (some ⟨n+2,0,none⟩),.pointer (some ⟨y0,0,none⟩),.pointer (some ⟨y1,0,none⟩)] (Yl f7) (Tg f7) (Z4 l ws) (fun b=>b<c/\b≠n/\b≠n+1/\b≠f+1/\b≠f+2/\b≠f+3) t9:=by
  refine Q50 (cs:=[.string s9,.int .i64 s1,.int .u32 (t4:Int),.int .u32 (s4:Int),.bool s7,.int .i64 p2,.int .i64 p4,.slice t0 o7 y,.int .i64 s2,.int .u32 (t5:Int),.int .u32 (s5:Int),.bool s8,.int .i64 p3,.int .i64 p5,.slice t1 o8 c2,.slice s0 o9 r9,.slice t3 p0 t2,.int .i64 s6]) (vo:=vo) (vc:=vc) z6 (by rw [g5.out];exact A2) (by rw [g5.out];exact w2) (by rw [g5.out];exact y2.out.mono fun b hb=>by have:=s.out;omega) (fun b hb=>by omega) (fun W r=>?_);have e5:Ext w W:=q1.after r (fun b hb p=>p (by have:=s.out;omega));exact⟨⟨r.heap q3.1 (fun p=>p oz),y3.out.ext e5⟩,by rw [g5.out];exact r.heap q5 (fun p=>p oz),by rw [g5.out];exact u8.out.ext e5,y4.out.keep e5 id,r.heap q2 (fun p=>p oz),r.heap q4 (fun p=>p oz)⟩
 obtain⟨f7,w7⟩:=z4;obtain⟨n0,o1,o3,m9,n5,n6⟩:=Zh6 w7 x6 i8 w6 x0 x1;clear w7 q3 q5 q2 q4 F q0 u5 r0 r1 x5 x7 w5 r5 x0 x1 x6 i8 w6 u6 n7 z5 z8 v5 w0 v4 v6 p8;go_wp2_with fail
 refine Xu (xs:=Z4 l ws) (K:=fun b=>b<c/\b≠n/\b≠n+1/\b≠f+1/\b≠f+2/\b≠f+3) rfl (enters_of Tryz.func225 kz rfl) n0.out (fun b g8=>by rw [a8.out];exact g8.1) (fun _ _ x m8 e2 g8=>by obtain⟨k7,b8,rfl,_⟩:=g8;rfl) ?hEs
  (fun a9 a2 d=>∃ u v g0,TrI w f n c f7 a9 a2 d u v g0)
  (fun b8 _ a2 d=>b8=.ret/\d.heap[f+1]?=some (.cells #[.slice none 0 0] 48 (0,0))/\d.heap[f+2]?=some (.cells #[.slice none 0 0] 60 (0,0))/\d.heap[f+3]?=some (.cells #[.int .i64 11] 40 (0,0))/\Ext w d/\Vi a2=true) ?hI ?hIx ?h0 (fun e2 t=>(((t.setIfInBounds 21 (e2.getD 0 undef)).setIfInBounds 22 (e2.getD 1 undef)).setIfInBounds 10 (e2.getD 0 undef)).setIfInBounds 11 (e2.getD 1 undef)) ?assign ?body ?done ?stop
 case hEs=>
  rintro i a9 x m8 W e2 ⟨k7,b8,rfl,T,U,p6⟩ I A0;exact⟨k7,b8,rfl,⟨Rd.nocells I A0 T.1,T.2⟩,U,p6.mono fun b hb=>⟨hb.1,hb.2.1,Nat.lt_of_lt_of_le hb.2.2 I.size⟩⟩
 case hI=>
  rintro a9 y5 a2 m8 W ⟨u,v,g0,q⟩ a0 I v7;rw [a8.out] at a0 I;exact⟨u,v,g0,q.turn s.out k8 k9 a0 I v7⟩
 case hIx=>
  rintro b8 a9 y5 a2 m8 W ⟨A4,m2,m3,m4,r8,m5⟩ a0 I v7;rw [a8.out] at a0 I
  have m6:∀ b,b<c->¬ ((a9 b/\Yl f7 (c+2) b)\/b=c+1):=fun b hb p=>by
   rcases p with T | T
   ·have:=(a0 b T.1).1;omega
   ·omega
  exact⟨A4,I.heap m2 (m6 _ oz),I.heap m3 (m6 _ oz),I.heap m4 (m6 _ oz),r8.after I (fun b hb p=>m6 b (by have:=s.out;omega) p),m5⟩
 case h0=>
  intro W r i6;exact⟨_,_,[],r.keep o1.out,r.keep o3.out,r.keep m9.out,r.keep n5.out,r.keep n6.out,World.ownsRow_nil _ _ _ _,World.ownsRow_nil _ _ _ _,trivial,fun g hg=>(by cases hg),fun g hg=>(by cases hg),fun x a1=>(by cases a1),q1.trans r,rfl⟩
 case assign=>
  rintro i a9 x e2 d C0 ⟨k7,b8,rfl,_⟩ a;gi_wp2;exact a
 case done=>
  rintro a9 d ⟨u,v,g0,q⟩ a0 I f1;rw [a8.out] at f1;have a3:Hid (k3=0):=Zh (by rw [u7.out,if_neg (by rw [q.short];decide)]);have e3:Hid (p1=Z4 l ws):=Zh (by rw [o0.out,if_pos a3.out]);obtain⟨D,e6⟩:=zE d.drew;have m:Ext d D:=by rw [<-e6];exact Q1.drew (Q1.refl _ d)
  obtain⟨b0,e9,f0,a5,g7,a4⟩:=Zh6 (m.keep q.ru) (m.keep q.bu) (m.keep q.bv) ((Q1.set1 D (f+1) 0 u).heap (m.keep q.rv) oz) ((Q1.set1 D (f+1) 0 u).heap (m.keep q.bv) oz) ((Q1.set1 (D.setCell ⟨f+1,0,none⟩ u) (f+2) 0 v).heap ((Q1.set1 D (f+1) 0 u).heap (m.keep q.re) oz) oz);obtain⟨G,H,P,M⟩:=Q47 (m.keep q.ru) (m.keep q.rv) (m.keep q.re) oz oz oz u v (.int .i64 0);obtain⟨W,r⟩:=zE (((D.setCell ⟨f+1,0,none⟩ u).setCell ⟨f+2,0,none⟩ v).setCell ⟨f+3,0,none⟩ (.int .i64 0));rw [r] at G H P M;have M:Q1 (fun b=>b=f+1\/b=f+2\/b=f+3) d W:=(Ext.of m).trans M;have w9:Up w.heap.size W u v (Z4 l ws):=by
   refine⟨Xh (Qd q.ou M (fun g hg e=>by have:=(q.ou.lt g hg).1;omega)) (by have:=s.out;omega),g0,Xh (Qd q.ov M (fun g hg e=>by have:=(q.ov.lt g hg).1;omega)) (by have:=s.out;omega),?_,fun x a1=>(q.wk x a1).mono fun b hb=>(by have T:=s.out;have U:=hb.1;omega)⟩;exact q.wd.keepS (S:=fun g=>c+2+f7<=g) (M.mono fun b _ e p=>by omega) (fun x a1=>(q.wk x a1).mono fun b hb=>hb.1)
  have l3:Qs f ({ target:=.collected c,args:=#[] }::[]) W:=Qs.cons (base:=f) trivial oz (M.heap f1 oz) (fun e he=>by cases he);have e5:Ext w W:=q.ext.after M (fun b hb p=>by have:=s.out;omega);have k6:=Zh w9;have n2:=Zh l3;obtain⟨t8,t7,rfl⟩:=Zj q.ou;obtain⟨u1,u0,rfl⟩:=Zj q.ov;obtain⟨f9,x4⟩:=zE ((Z4 l ws).length);rw [x4] at e9 f0 a5 g7 a4 r k6 G H;have o4:=Zh r;have u9:=Zh e6;clear w9 l3 q f1 I a0 n0 o1 o3 m9 n5 n6 q1 r e6 m x4;go_upto_region 12 with (fail)
  refine Z5 (S:=fun _=>True) [0,1,2,3,4] kz trivial ?_;intro _;rw [u9.out];clear u9;refine rE [0,1] ?_;refine Q2.late rfl rfl (fun K a=>?_) (Q2.late rfl rfl (fun K a=>?_) Q2.nil)
  ·refine iw rfl ?_;have b1:=cell_of_one e9.out;go_simp;refine a.out _ _ ?_;clear a K b1;try simp only [Act.put,pq]
   refine rE [1,2] ?_;refine Q2.late rfl rfl (fun K a=>?_) (Q2.late rfl rfl (fun K a=>?_) Q2.nil)
   ·refine iw rfl ?_;have b1:=cell_of_one f0.out;go_simp;refine a.out _ _ ?_;clear a K b1;try simp only [Act.put,pq]
    refine rE [2] ?_;refine Q2.late rfl rfl (fun K a=>?_) Q2.nil;refine iw rfl ?_;have z:=cell_of_one b0.out;have A:=free_of_one b0.out;go_simp;refine a.out _ _ ?_;clear a K z A
    (try change Qj _ _ _ _ _ _ _ _ (Act.put _ none _) _)
    (try simp only [Act.put])
    refine rE [3] ?_;refine Q2.late rfl rfl (fun K a=>?_) Q2.nil;refine iw rfl ?_;have z:=cell_of_one a5.out;have A:=free_of_one a5.out;go_simp;refine a.out _ _ ?_;clear a K z A
    (try change Qj _ _ _ _ _ _ _ _ (Act.put _ none _) _)
    (try simp only [Act.put])
    refine rE [4] ?_;refine Q2.late rfl rfl (fun K a=>?_) Q2.nil;refine iw rfl ?_;have z:=cell_of_one a4.out;have A:=free_of_one a4.out;go_simp;refine a.out _ _ ?_;clear a K z A
    (try change Qj _ _ _ _ _ _ _ _ (Act.put _ none _) _)
    (try simp only [Act.put])
    refine Qm kz ?_ _;rw [o4.out];clear b0 e9 f0 a5 g7 a4;go_wp2;rw [a8.out];refine Zr (v:=.tuple #[.slice t8 f9 t7,.slice u1 f9 u0,.int .i64 0]) (base:=f) _ _ n2.out fun w' ht' i6=>⟨Ji rfl rfl rfl rfl (ht'.heap G (Go.Ab.Shut.not G rfl)) (ht'.heap H (Go.Ab.Shut.not H rfl)) (ht'.heap P (Go.Ab.Shut.not P rfl)),_,_,by rw [a3.out],?_,?_⟩
    ·rw [e3.out];obtain⟨j3,j8,j4,j5,j6⟩:=k6.out;exact⟨Ke j3 ht',j8,Ke j4 ht',j5.shut ht',j6⟩
    ·exact e5.after ht' (fun b T U=>by have:=U.1;have:=s.out;omega)
   ·refine iw rfl ?_;have z:=cell_of_one b0.out;have A:=free_of_one b0.out;go_simp;refine a.out _ _ ?_;clear a K z A
    (try change Qj _ _ _ _ _ _ _ _ (Act.put _ none _) _)
    (try simp only [Act.put])
    refine rE [1] ?_;refine Q2.late rfl rfl (fun K a=>?_) Q2.nil;refine iw rfl ?_;have b1:=cell_of_one g7.out;go_simp;refine a.out _ _ ?_;clear a K b1;try simp only [Act.put,pq]
    refine rE [3] ?_;refine Q2.late rfl rfl (fun K a=>?_) Q2.nil;refine iw rfl ?_;have z:=cell_of_one a5.out;have A:=free_of_one a5.out;go_simp;refine a.out _ _ ?_;clear a K z A
    (try change Qj _ _ _ _ _ _ _ _ (Act.put _ none _) _)
    (try simp only [Act.put])
    refine rE [4] ?_;refine Q2.late rfl rfl (fun K a=>?_) Q2.nil;refine iw rfl ?_;have z:=cell_of_one a4.out;have A:=free_of_one a4.out;go_simp;refine a.out _ _ ?_;clear a K z A
    (try change Qj _ _ _ _ _ _ _ _ (Act.put _ none _) _)
    (try simp only [Act.put])
    refine Qm kz ?_ _;rw [o4.out];clear b0 e9 f0 a5 g7 a4;go_wp2;rw [a8.out];refine Zr (v:=.tuple #[.slice t8 f9 t7,.slice u1 f9 u0,.int .i64 0]) (base:=f) _ _ n2.out fun w' ht' i6=>⟨Ji rfl rfl rfl rfl (ht'.heap G (Go.Ab.Shut.not G rfl)) (ht'.heap H (Go.Ab.Shut.not H rfl)) (ht'.heap P (Go.Ab.Shut.not P rfl)),_,_,by rw [a3.out],?_,?_⟩
    ·rw [e3.out];obtain⟨j3,j8,j4,j5,j6⟩:=k6.out;exact⟨Ke j3 ht',j8,Ke j4 ht',j5.shut ht',j6⟩
    ·exact e5.after ht' (fun b T U=>by have:=U.1;have:=s.out;omega)
  ·refine iw rfl ?_;have b1:=cell_of_one f0.out;go_simp;refine a.out _ _ ?_;clear a K b1;try simp only [Act.put,pq]
   refine rE [0] ?_;refine Q2.late rfl rfl (fun K a=>?_) Q2.nil;refine iw rfl ?_;have b1:=cell_of_one e9.out;go_simp;refine a.out _ _ ?_;clear a K b1;try simp only [Act.put,pq]
   refine rE [2] ?_;refine Q2.late rfl rfl (fun K a=>?_) Q2.nil;refine iw rfl ?_;have z:=cell_of_one b0.out;have A:=free_of_one b0.out;go_simp;refine a.out _ _ ?_;clear a K z A
   (try change Qj _ _ _ _ _ _ _ _ (Act.put _ none _) _)
   (try simp only [Act.put])
   refine rE [3] ?_;refine Q2.late rfl rfl (fun K a=>?_) Q2.nil;refine iw rfl ?_;have z:=cell_of_one a5.out;have A:=free_of_one a5.out;go_simp;refine a.out _ _ ?_;clear a K z A
   (try change Qj _ _ _ _ _ _ _ _ (Act.put _ none _) _)
   (try simp only [Act.put])
   refine rE [4] ?_;refine Q2.late rfl rfl (fun K a=>?_) Q2.nil;refine iw rfl ?_;have z:=cell_of_one a4.out;have A:=free_of_one a4.out;go_simp;refine a.out _ _ ?_;clear a K z A
   (try change Qj _ _ _ _ _ _ _ _ (Act.put _ none _) _)
   (try simp only [Act.put])
   refine Qm kz ?_ _;rw [o4.out];clear b0 e9 f0 a5 g7 a4;go_wp2;rw [a8.out];refine Zr (v:=.tuple #[.slice t8 f9 t7,.slice u1 f9 u0,.int .i64 0]) (base:=f) _ _ n2.out fun w' ht' i6=>⟨Ji rfl rfl rfl rfl (ht'.heap G (Go.Ab.Shut.not G rfl)) (ht'.heap H (Go.Ab.Shut.not H rfl)) (ht'.heap P (Go.Ab.Shut.not P rfl)),_,_,by rw [a3.out],?_,?_⟩
   ·rw [e3.out];obtain⟨j3,j8,j4,j5,j6⟩:=k6.out;exact⟨Ke j3 ht',j8,Ke j4 ht',j5.shut ht',j6⟩
   ·exact e5.after ht' (fun b T U=>by have:=U.1;have:=s.out;omega)
 case stop=>
  rintro b8 a9 a2 x t6 d a1 ⟨rfl,m2,m3,m4,r8,m5⟩ f1;rw [a8.out] at f1 ⊢;have z7:Vi (Z4 l ws)=true:=by
   rw [a1];unfold Vi at m5 ⊢;rw [show a2++x::t6=(a2++[x])++t6 by simp,List.any_append,m5];rfl
  have a3:Hid (k3=11):=Zh (by rw [u7.out,if_pos z7]);have e3:Hid (p1=[]):=Zh (by rw [o0.out,if_neg (by rw [a3.out];decide)]);refine wp_ret ?_;have l3:Qs f ({ target:=.collected c,args:=#[] }::[]) d:=Qs.cons (base:=f) trivial oz f1 (fun e he=>by cases he);refine Zr (v:=.tuple #[.slice none 0 0,.slice none 0 0,.int .i64 11]) (base:=f) _ _ l3 fun w' ht' i6=>⟨Ji rfl rfl rfl rfl (ht'.heap m2 (Go.Ab.Shut.not m2 rfl)) (ht'.heap m3 (Go.Ab.Shut.not m3 rfl)) (ht'.heap m4 (Go.Ab.Shut.not m4 rfl)),_,_,by rw [a3.out],by rw [e3.out];exact Up.nil _ _,?_⟩
  exact r8.after ht' (fun b T U=>by have:=U.1;have:=s.out;omega)
 case body=>
  rintro a9 a2 ⟨a7,k2⟩ t6 e2 d a1 A1 a0 I ⟨u,v,g0,q⟩ ⟨b5,b4,rfl,m1,j0,m0⟩;rw [a8.out] at A1 a0 m0 ⊢;simp only [pq];dsimp only at m1 j0 m0 ⊢;have z9:a2.length<=32:=by
   have:=congrArg List.length a1;rw [List.length_append,List.length_cons] at this;omega
  obtain⟨V,j1⟩:=zE k2.length;have g6:=Zh j1;have x8:=m1.1.2.1;unfold maxLen at x8;rw [j1] at x8;obtain⟨o6,o5,j,k5,B9⟩:=Zh5 m1 m0 q a0 a1;rw [j1];have A3:=j0;rw [j1] at A3;clear j1 m1 m0 q a0 a1 I n0 o1 o3 m9 n5 n6;by_cases g9:V<=32;case neg=>
   have z2:(32:Int)<(V:Int):=by omega
   have i7:=Q47 j.out.ru j.out.rv j.out.re oz oz oz (.slice none 0 0) (.slice none 0 0) (.int .i64 11);have n8:=Zh i7;have y7:=cell_of_one j.out.ru;have z0:=free_of_one j.out.ru;have y8:=cell_of_one j.out.rv;have z1:=free_of_one j.out.rv;have y6:=cell_of_one j.out.re;have y9:=free_of_one j.out.re;clear i7;gi_wp2;obtain⟨G,H,P,M⟩:=n8.out;refine⟨M.mono fun b _ e p=>?_,rfl,G,H,P,j.out.ext.after M (fun b hb p=>by have:=s.out;omega),?_⟩
   ·rcases p with p | p | p | p
    ·omega
    ·have:=(k5.out b p).1;omega
    ·omega
    ·omega
   ·unfold Vi;rw [List.any_append];simp [g6.out];omega
  have z2:¬ (32:Int)<(V:Int):=by omega
  have g9:k2.length<=32:=by rw [g6.out];exact g9
  gi_wp2;obtain⟨i,p⟩:=zE a2.length;have e8:=Zh p;have l4:=j.out.ou;have l5:=j.out.ov;rw [p] at l4 l5 z9;have w4:=Gg l4 l5 zd;obtain⟨o2,n3,n4⟩:=Zh3 w4 l4 l5
  have w8:∀ d9,(d9=n\/d9=n+1)->¬ (u.ownBlock=some d9\/v.ownBlock=some d9):=fun d9 hq e=>by
   rcases e with e | e
   ·have:=(j.out.ou.lt _ e).1;omega
   ·have:=(j.out.ov.lt _ e).1;omega
  have X:=Zh w8;have w3:∀(W:World),Q1 (fun b=>u.ownBlock=some b\/v.ownBlock=some b) d W->W.cell? ⟨n,0,none⟩=some u/\W.cell? ⟨n+1,0,none⟩=some v:=fun W r=>⟨cell_of_one (r.heap j.out.bu (X.out _ (.inl rfl))),cell_of_one (r.heap j.out.bv (X.out _ (.inr rfl)))⟩;have Q:=Zh w3;clear p l4 l5 w4 w8 w3;refine V0 (S:=fun W=>W.cell? ⟨n,0,none⟩=some u/\W.cell? ⟨n+1,0,none⟩=some v) [8,9] kz kz (by rintro⟨_,_,g8⟩;exact g8) (Q.out _ (Q1.drew (Q1.refl _ d))) ?_;intro i3;obtain⟨D,e6⟩:=zE d.drew;have m:Ext d D:=by rw [<-e6];exact Q1.drew (Q1.refl _ d)
  have C3:=m.size;rw [e6] at i3 ⊢;clear e6;refine tE 0 26 i3 ?_;refine tE 1 27 i3 ?_;refine tE 4 30 i3 ?_;refine tE 5 31 i3 ?_;refine rE [2,6] ?_;refine Q2.cons rfl (fun K a=>?_) (Q2.cons rfl (fun K a=>?_) Q2.nil)
  ·refine iw rfl ?_;go_simp;obtain⟨N,b2⟩:=zE (D.alloc (.cells #[.int .i64 (a7:Int)] 3));have E:Ext D N:=by rw [<-b2];exact(Q1.refl _ _).alloc _
   have f8:N.heap[D.heap.size]?=some (.cells #[.int .i64 (a7:Int)] 3 (0,0)):=by rw [<-b2];exact Q3 rfl
   obtain⟨k4,i2⟩:=zE D.heap.size;rw [b2,i2];rw [i2] at f8;have A6:=E.size;clear b2;refine a.out _ _ (Q.out _ (Ext.of (m.trans E))) (fun _=>?_);clear a K;try simp only [Act.put,pq]
   refine rE [3,6] ?_;refine Q2.cons rfl (fun K a=>?_) (Q2.cons rfl (fun K a=>?_) Q2.nil)
   ·refine iw rfl ?_;refine Y4 (.tmp 26) (.tmp 28) 48 rfl (c+2) 3 _ 1 8 Tryz.underlying48 Tryz.infoI rfl zd _ _ _ rfl (Qf n3.out (m.trans E)) ⟨k4,0,none⟩ 1 1 [.int .i64 (a7:Int)] rfl rfl (Ua f8) ?c2 ?c3 ?c4 ?c5 ?_;case c2=>first | rfl | (intro u C;simp at C;rcases C with rfl;rfl)
    case c3=>unfold maxLen;omega
    case c4=>omega
    case c5=>omega
    intro L y R c9 a6 i0;have m7:Q1 (fun b=>u.ownBlock=some b\/v.ownBlock=some b) d R:=(Ext.of (m.trans E)).trans (a6.mono fun b _ e=>.inl e);have C7:=m7.size;refine a.out _ _ (Q.out _ (m7)) (fun _=>?_);clear a K;try simp only [Act.put,pq]
    have i8:=Qd n4.out (((Ext.of (m.trans E)).trans a6):Q1 (fun b=>u.ownBlock=some b) d R) (fun g hg e=>o2.out g e hg);refine rE [6] ?_;refine Q2.cons rfl (fun K a=>?_) Q2.nil;refine iw rfl ?_;go_simp;obtain⟨b7,l0⟩:=zE (R.alloc (.cells #[.slice b5 V b4] 99));have e4:Ext R b7:=by rw [<-l0];exact(Q1.refl _ _).alloc _
    have x9:b7.heap[R.heap.size]?=some (.cells #[.slice b5 V b4] 99 (0,0)):=by rw [<-l0];exact Q3 rfl
    obtain⟨g2,c1⟩:=zE R.heap.size;rw [l0,c1];rw [c1] at x9;have C8:=e4.size;clear l0;refine a.out _ _ (Q.out _ (m7.trans (Ext.of e4))) (fun _=>?_);clear a K;try simp only [Act.put,pq]
    refine rE [7] ?_;refine Q2.cons rfl (fun K a=>?_) Q2.nil;refine iw rfl ?_;refine Y4 (.tmp 30) (.tmp 32) 60 rfl (c+2) 99 _ 1 24 Tryz.underlying60 Tryz.infoW rfl zd _ _ _ rfl (Qf i8 e4) ⟨g2,0,none⟩ 1 1 [.slice b5 V b4] rfl rfl (Ua x9) ?d2 ?d3 ?d4 ?d5 ?_;case d2=>first | rfl | (intro u C;simp at C;rcases C with rfl;rfl)
    case d3=>unfold maxLen;omega
    case d4=>omega
    case d5=>omega
    intro Z c2 J i4 c8 i1;have e0:Q1 (fun b=>u.ownBlock=some b\/v.ownBlock=some b) d J:=(m7.trans (Ext.of e4)).trans (c8.mono fun b _ e=>.inr e);refine a.out _ _ (Q.out _ (e0)) (fun _=>?_);clear a K;try simp only [Act.put]
    have d0:=Qd (Qf c9 e4) c8 (fun g hg e=>Gg (Qf c9 e4) (Qf i8 e4) zd g hg e);have d1:=i4;have d6:(Value.slice L (i+1) y).ownBlock=u.ownBlock\/∃ k,d.heap.size<=k/\(Value.slice L (i+1) y).ownBlock=some k:=i0.imp id fun e=>⟨_,by omega,e⟩;have d7:(Value.slice Z (i+1) c2).ownBlock=v.ownBlock\/∃ k,d.heap.size<=k/\(Value.slice Z (i+1) c2).ownBlock=some k:=i1.imp id fun e=>⟨_,by omega,e⟩;have B:Q1 (fun b=>u.ownBlock=some b\/v.ownBlock=some b) d J:=e0;obtain⟨⟨j7,k0,j9,c0⟩,c6⟩:=j.out.push s.out k8 k9 k5.out oz o6.out j0 o5.out g9 (x:=(a7,k2)) (W:=J) (u':=.slice L (i+1) y) (v':=.slice Z (i+1) c2) (by rw [e8.out];exact d0) (by rw [e8.out,g6.out];exact d1) B d6 d7;have g3:=Zh c0;have g4:=Zh c6;have v0:=cell_of_one (B.heap j.out.bu (X.out n (.inl rfl)));have v2:=free_of_one (B.heap j.out.bu (X.out n (.inl rfl)));have c7:(J.setCell ⟨n,0,none⟩ (.slice L (i+1) y)).heap[n+1]?=some (.cells #[v] 60 (0,0)):=(Q1.set1 _ n 0 _).heap (B.heap j.out.bv (X.out _ (.inr rfl))) oz;have b6:=Zh c7;clear c0 c6 B d0 d1 d6 d7 c7;refine rE [8] ?_;refine Q2.late rfl rfl (fun K a=>?_) Q2.nil;refine iw rfl ?_;go_simp;refine a.out _ _ ?_;clear a K
    (try change Qj _ _ _ _ _ _ _ _ (Act.put _ none _) _)
    (try simp only [Act.put])
    have v1:=cell_of_one b6.out;have v3:=free_of_one b6.out;refine rE [9] ?_;refine Q2.late rfl rfl (fun K a=>?_) Q2.nil;refine iw rfl ?_;go_simp;refine a.out _ _ ?_;clear a K
    (try change Qj _ _ _ _ _ _ _ _ (Act.put _ none _) _)
    (try simp only [Act.put])
    refine Qm kz ?_ _;exact⟨g4.out,j7,k0,j9,g3.out⟩
   ·refine iw rfl ?_;go_simp;obtain⟨R,b3⟩:=zE (N.alloc (.cells #[.slice b5 V b4] 99));have O:Ext N R:=by rw [<-b3];exact(Q1.refl _ _).alloc _
    have j2:R.heap[N.heap.size]?=some (.cells #[.slice b5 V b4] 99 (0,0)):=by rw [<-b3];exact Q3 rfl
    obtain⟨g2,c1⟩:=zE N.heap.size;rw [b3,c1];rw [c1] at j2;have A7:=O.size;clear b3;refine a.out _ _ (Q.out _ (Ext.of ((m.trans E).trans O))) (fun _=>?_);clear a K;try simp only [Act.put,pq]
    refine rE [3] ?_;refine Q2.cons rfl (fun K a=>?_) Q2.nil;refine iw rfl ?_;refine Y4 (.tmp 26) (.tmp 28) 48 rfl (c+2) 3 _ 1 8 Tryz.underlying48 Tryz.infoI rfl zd _ _ _ rfl (Qf n3.out ((m.trans E).trans O)) ⟨k4,0,none⟩ 1 1 [.int .i64 (a7:Int)] rfl rfl (Ua (O.keep f8)) ?c2 ?c3 ?c4 ?c5 ?_;case c2=>first | rfl | (intro u C;simp at C;rcases C with rfl;rfl)
    case c3=>unfold maxLen;omega
    case c4=>omega
    case c5=>omega
    intro L y b7 c9 a6 i0;have e7:Q1 (fun b=>u.ownBlock=some b\/v.ownBlock=some b) d b7:=(Ext.of ((m.trans E).trans O)).trans (a6.mono fun b _ e=>.inl e);have A5:=e7.size;have s3:=a6.heap j2 (fun e=>by have:=(j.out.ou.lt _ e).2;omega);refine a.out _ _ (Q.out _ (e7)) (fun _=>?_);clear a K;try simp only [Act.put,pq]
    have i9:=Qd n4.out (((Ext.of ((m.trans E).trans O)).trans a6):Q1 (fun b=>u.ownBlock=some b) d b7) (fun g hg e=>o2.out g e hg);refine rE [7] ?_;refine Q2.cons rfl (fun K a=>?_) Q2.nil;refine iw rfl ?_;refine Y4 (.tmp 30) (.tmp 32) 60 rfl (c+2) 99 _ 1 24 Tryz.underlying60 Tryz.infoW rfl zd _ _ _ rfl i9 ⟨g2,0,none⟩ 1 1 [.slice b5 V b4] rfl rfl (Ua s3) ?d2 ?d3 ?d4 ?d5 ?_;case d2=>first | rfl | (intro u C;simp at C;rcases C with rfl;rfl)
    case d3=>unfold maxLen;omega
    case d4=>omega
    case d5=>omega
    intro Z c2 J i4 c8 i1;have e0:Q1 (fun b=>u.ownBlock=some b\/v.ownBlock=some b) d J:=e7.trans (c8.mono fun b _ e=>.inr e);refine a.out _ _ (Q.out _ (e0)) (fun _=>?_);clear a K;try simp only [Act.put]
    have d0:=Qd c9 c8 (fun g hg e=>Gg c9 i9 zd g hg e);have d1:=i4;have d6:(Value.slice L (i+1) y).ownBlock=u.ownBlock\/∃ k,d.heap.size<=k/\(Value.slice L (i+1) y).ownBlock=some k:=i0.imp id fun e=>⟨_,by omega,e⟩;have d7:(Value.slice Z (i+1) c2).ownBlock=v.ownBlock\/∃ k,d.heap.size<=k/\(Value.slice Z (i+1) c2).ownBlock=some k:=i1.imp id fun e=>⟨_,by omega,e⟩;have B:Q1 (fun b=>u.ownBlock=some b\/v.ownBlock=some b) d J:=e0;obtain⟨⟨j7,k0,j9,c0⟩,c6⟩:=j.out.push s.out k8 k9 k5.out oz o6.out j0 o5.out g9 (x:=(a7,k2)) (W:=J) (u':=.slice L (i+1) y) (v':=.slice Z (i+1) c2) (by rw [e8.out];exact d0) (by rw [e8.out,g6.out];exact d1) B d6 d7;have g3:=Zh c0;have g4:=Zh c6;have v0:=cell_of_one (B.heap j.out.bu (X.out n (.inl rfl)));have v2:=free_of_one (B.heap j.out.bu (X.out n (.inl rfl)));have c7:(J.setCell ⟨n,0,none⟩ (.slice L (i+1) y)).heap[n+1]?=some (.cells #[v] 60 (0,0)):=(Q1.set1 _ n 0 _).heap (B.heap j.out.bv (X.out _ (.inr rfl))) oz;have b6:=Zh c7;clear c0 c6 B d0 d1 d6 d7 c7;refine rE [8] ?_;refine Q2.late rfl rfl (fun K a=>?_) Q2.nil;refine iw rfl ?_;go_simp;refine a.out _ _ ?_;clear a K
    (try change Qj _ _ _ _ _ _ _ _ (Act.put _ none _) _)
    (try simp only [Act.put])
    have v1:=cell_of_one b6.out;have v3:=free_of_one b6.out;refine rE [9] ?_;refine Q2.late rfl rfl (fun K a=>?_) Q2.nil;refine iw rfl ?_;go_simp;refine a.out _ _ ?_;clear a K
    (try change Qj _ _ _ _ _ _ _ _ (Act.put _ none _) _)
    (try simp only [Act.put])
    refine Qm kz ?_ _;exact⟨g4.out,j7,k0,j9,g3.out⟩
  ·refine iw rfl ?_;go_simp;obtain⟨N,b2⟩:=zE (D.alloc (.cells #[.slice b5 V b4] 99));have E:Ext D N:=by rw [<-b2];exact(Q1.refl _ _).alloc _
   have f8:N.heap[D.heap.size]?=some (.cells #[.slice b5 V b4] 99 (0,0)):=by rw [<-b2];exact Q3 rfl
   obtain⟨g2,c1⟩:=zE D.heap.size;rw [b2,c1];rw [c1] at f8;have A6:=E.size;clear b2;refine a.out _ _ (Q.out _ (Ext.of (m.trans E))) (fun _=>?_);clear a K;try simp only [Act.put,pq]
   refine rE [2] ?_;refine Q2.cons rfl (fun K a=>?_) Q2.nil;refine iw rfl ?_;go_simp;obtain⟨R,b3⟩:=zE (N.alloc (.cells #[.int .i64 (a7:Int)] 3));have O:Ext N R:=by rw [<-b3];exact(Q1.refl _ _).alloc _
   have j2:R.heap[N.heap.size]?=some (.cells #[.int .i64 (a7:Int)] 3 (0,0)):=by rw [<-b3];exact Q3 rfl
   obtain⟨k4,i2⟩:=zE N.heap.size;rw [b3,i2];rw [i2] at j2;have A7:=O.size;clear b3;refine a.out _ _ (Q.out _ (Ext.of ((m.trans E).trans O))) (fun _=>?_);clear a K;try simp only [Act.put,pq]
   refine rE [3] ?_;refine Q2.cons rfl (fun K a=>?_) Q2.nil;refine iw rfl ?_;refine Y4 (.tmp 26) (.tmp 28) 48 rfl (c+2) 3 _ 1 8 Tryz.underlying48 Tryz.infoI rfl zd _ _ _ rfl (Qf n3.out ((m.trans E).trans O)) ⟨k4,0,none⟩ 1 1 [.int .i64 (a7:Int)] rfl rfl (Ua j2) ?c2 ?c3 ?c4 ?c5 ?_;case c2=>first | rfl | (intro u C;simp at C;rcases C with rfl;rfl)
   case c3=>unfold maxLen;omega
   case c4=>omega
   case c5=>omega
   intro L y b7 c9 a6 i0;have e7:Q1 (fun b=>u.ownBlock=some b\/v.ownBlock=some b) d b7:=(Ext.of ((m.trans E).trans O)).trans (a6.mono fun b _ e=>.inl e);have A5:=e7.size;have s3:=a6.heap (O.keep f8) (fun e=>by have:=(j.out.ou.lt _ e).2;omega);refine a.out _ _ (Q.out _ (e7)) (fun _=>?_);clear a K;try simp only [Act.put,pq]
   have i9:=Qd n4.out (((Ext.of ((m.trans E).trans O)).trans a6):Q1 (fun b=>u.ownBlock=some b) d b7) (fun g hg e=>o2.out g e hg);refine rE [7] ?_;refine Q2.cons rfl (fun K a=>?_) Q2.nil;refine iw rfl ?_;refine Y4 (.tmp 30) (.tmp 32) 60 rfl (c+2) 99 _ 1 24 Tryz.underlying60 Tryz.infoW rfl zd _ _ _ rfl i9 ⟨g2,0,none⟩ 1 1 [.slice b5 V b4] rfl rfl (Ua s3) ?d2 ?d3 ?d4 ?d5 ?_;case d2=>first | rfl | (intro u C;simp at C;rcases C with rfl;rfl)
   case d3=>unfold maxLen;omega
   case d4=>omega
   case d5=>omega
   intro Z c2 J i4 c8 i1;have e0:Q1 (fun b=>u.ownBlock=some b\/v.ownBlock=some b) d J:=e7.trans (c8.mono fun b _ e=>.inr e);refine a.out _ _ (Q.out _ (e0)) (fun _=>?_);clear a K;try simp only [Act.put]
   have d0:=Qd c9 c8 (fun g hg e=>Gg c9 i9 zd g hg e);have d1:=i4;have d6:(Value.slice L (i+1) y).ownBlock=u.ownBlock\/∃ k,d.heap.size<=k/\(Value.slice L (i+1) y).ownBlock=some k:=i0.imp id fun e=>⟨_,by omega,e⟩;have d7:(Value.slice Z (i+1) c2).ownBlock=v.ownBlock\/∃ k,d.heap.size<=k/\(Value.slice Z (i+1) c2).ownBlock=some k:=i1.imp id fun e=>⟨_,by omega,e⟩;have B:Q1 (fun b=>u.ownBlock=some b\/v.ownBlock=some b) d J:=e0;obtain⟨⟨j7,k0,j9,c0⟩,c6⟩:=j.out.push s.out k8 k9 k5.out oz o6.out j0 o5.out g9 (x:=(a7,k2)) (W:=J) (u':=.slice L (i+1) y) (v':=.slice Z (i+1) c2) (by rw [e8.out];exact d0) (by rw [e8.out,g6.out];exact d1) B d6 d7;have g3:=Zh c0;have g4:=Zh c6;have v0:=cell_of_one (B.heap j.out.bu (X.out n (.inl rfl)));have v2:=free_of_one (B.heap j.out.bu (X.out n (.inl rfl)));have c7:(J.setCell ⟨n,0,none⟩ (.slice L (i+1) y)).heap[n+1]?=some (.cells #[v] 60 (0,0)):=(Q1.set1 _ n 0 _).heap (B.heap j.out.bv (X.out _ (.inr rfl))) oz;have b6:=Zh c7;clear c0 c6 B d0 d1 d6 d7 c7;refine rE [8] ?_;refine Q2.late rfl rfl (fun K a=>?_) Q2.nil;refine iw rfl ?_;go_simp;refine a.out _ _ ?_;clear a K
   (try change Qj _ _ _ _ _ _ _ _ (Act.put _ none _) _)
   (try simp only [Act.put])
   have v1:=cell_of_one b6.out;have v3:=free_of_one b6.out;refine rE [9] ?_;refine Q2.late rfl rfl (fun K a=>?_) Q2.nil;refine iw rfl ?_;go_simp;refine a.out _ _ ?_;clear a K
   (try change Qj _ _ _ _ _ _ _ _ (Act.put _ none _) _)
   (try simp only [Act.put])
   refine Qm kz ?_ _;exact⟨g4.out,j7,k0,j9,g3.out⟩
theorem Q1v{w:World}{v:Value}{ws:Wd}(j:Q8 w v ws)(E:ws.length<=1000000) :
  Calls Tryz.prog 81 #[v] w fun e w'=>∃ ao cap,e=.returned (.slice ao ws.length cap)/\w'.ownsRow w.heap.size 95 2 (.slice ao ws.length cap) ws.length (Qw ws)/\Ext w w':=by
 have c:=j.1;obtain⟨C,m,ao,cap,rfl,d⟩:=c;have y:=Zh j;obtain⟨f,i⟩:=zE ws.length;rw [i] at m d E ⊢;have l:=Zh i;clear j i C;unfold maxLen at m;cases ao with
 | none=>
  have F:f=0:=by
   apply Nat.eq_zero_of_not_pos;intro D;obtain⟨I,J,n,_⟩:=d D;cases n
  subst F;have H:ws=[]:=List.eq_nil_of_length_eq_zero l.out;subst H;clear d;have G:=fun(w:World)=>Lib.run_eql_slice_nil (P:=Tryz.prog) w 99 95 none 0 cap 0 0 Tryz.underlying99;go_enter Tryz.func81,Tryz.ntmps81;go_wp2;go_ret;exact⟨none,0,rfl,World.ownsRow_nil _ _ _ _,Q1.refl _ _⟩
 | some a=>
  clear d;have G:=fun(w:World)=>Lib.run_eql_slice_nil (P:=Tryz.prog) w 99 95 (some a) f cap 0 0 Tryz.underlying99;go_enter Tryz.func81,Tryz.ntmps81;have g:Ext w (w.alloc (.cells #[] 95)):=(Q1.refl _ w).alloc _;have p:=World.ownsRow_made (base:=w.heap.size) (e:=95) (size:=2) w #[] 0 (Nat.le_refl _) zd rfl;have c:=(y.out.ext g).1;rw [l.out] at c;obtain⟨t,x,k⟩:=Zh3 p c g;clear p c g
  go_wp2_with (at_builtin;refine Kz rfl (.tmp 5) (.tmp 6) 99 rfl w.heap.size 95 _ 2 8 Tryz.underlying99 @Ub rfl zd _ 0 [] rfl t.out _ _ _ _ rfl x.out (Ri ws) ?c3 ?c4 ?c5 ?_)
  case c3=>unfold maxLen;omega
  case c4=>omega
  case c5=>exact k.out.size
  intro A B z q r _;have o:Ext w z:=k.out.after r (fun b n e=>by simp [Value.ownBlock] at e;omega);have u:=Zh q;have s:=Zh o;clear q o r;go_wp2;go_ret;refine⟨A,B,?_,?_,s.out⟩
  ·first | rfl | simp
  ·have:=u.out
   simpa using this
theorem Zu.own{w:World}{base:Nat}{e:TypeId}{ao:Option Addr}{c:Nat}{u:Wd}(h:w.ownsRow base e 2 (.slice ao u.length c) u.length (Qw u)) (hok:Zt u):Zu w (.slice ao u.length c) u:=⟨ao,c,rfl,Ru h hok,(Kd h).1⟩
theorem Zu.nil(w:World):Zu w (.slice none 0 0) []:=⟨none,0,rfl,⟨⟨rfl,by simp [maxLen],none,0,rfl,fun h=>by simp at h⟩,by simp [Zt]⟩,Nat.le_refl _⟩
theorem Q4a{l:Q7}{ws:Wd}(h:trE l ws=0)(a:(trT l ws).length=0):Vu l ws=ws:=by
 unfold trT at a;rw [if_pos h] at a;unfold Vu Ej;rw [if_pos h,List.eq_nil_of_length_eq_zero a];rfl
theorem Q15{l:Q7}{ws:Wd}(h:trE l ws=0){k:Nat}(b:(trT l ws).length=k+1):∀(hk:k<(trT l ws).length),(trT l ws)[k].2=Vu l ws:=by
 intro hk;have a:trT l ws=Z4 l ws:=by unfold trT;rw [if_pos h]
 unfold Vu Ej;rw [if_pos h,List.getLastD_eq_getLast?,List.getLast?_eq_getElem?,List.length_map,<-a,b,Nat.add_sub_cancel,List.getElem?_map,List.getElem?_eq_getElem hk];rfl
theorem Q5j{l:Q7}{ws:Wd}(h:trE l ws≠0):Vu l ws=[]:=by unfold Vu;rw [if_neg h]
theorem Q2k{w:World}{l:Q7}{cs:List Value}{vo:Option Addr}{vc:Nat}{ws:Wd}(U:Z2 w l cs)(C:Q8 w (.slice vo ws.length vc) ws) (f2:ws.length<=vc) (b5:Tab w) :
  Calls Tryz.prog 131 #[.agg cs.toArray,.slice vo ws.length vc] w fun e w'=>∃ u,e=.returned (.tuple #[u,.int .i64 (trE l ws)])/\Zu w' u (Vu l ws)/\Qr (fun g=>w.heap.size<=g) u/\Ext w w':=by
 have t:=fun(V:World) (c:Ext w V)=>Q0r (U.ext c) (C.ext c) f2 (b5.keep c id);have Q:=fun(V:World) (c:Ext w V) (d:ws.length<=32)=>Q1v (C.ext c) (Nat.le_trans d zd);have c0:=C.2;have B:trE l ws=0->ws.length<=32:=fun m=>Q5v (Dz (Q5z m)).2;have n:=@Q4a l ws;have p:=@Q15 l ws;have z:=@Q5j l ws;obtain⟨e2,Y⟩:=zE ws.length;rw [Y] at t Q B ⊢;obtain⟨d3,c6,d8,c8,d1,a8,b0,d4,a3,b2,c7,d9,c9,d2,a9,b1,d5,a4,b3,c5,a5,c4,d7,a6,d6,d0,rfl,f7,g5,g6,f6,g4,g3,f9,g0,g1,g2,f8,i6,i7,i8,i9,j0⟩:=Yr U;obtain⟨a0,c⟩:=zE (trE l ws);obtain⟨a7,b6⟩:=zE (trT l ws);obtain⟨v,b4⟩:=zE (Vu l ws);rw [c] at t B n p z ⊢;rw [b6] at t n p;rw [b4] at n p z ⊢;obtain⟨a2,I,e7,e6,F,G,H,f0⟩:=Zh8 t Q B c0 n p z Y;clear U C b5 t Q B c0 n p z c b6 b4 Y;go_enter Tryz.func131,Tryz.ntmps131;go_upto_region 1 with (fail)
 obtain⟨e0,E⟩:=zE (w.alloc (.cells #[.string d3,.int .i64 c6,.int .u32 (d8:Int),.int .u32 (c8:Int),.bool d1,.int .i64 a8,.int .i64 b0,.slice d4 a3 b2,.int .i64 c7,.int .u32 (d9:Int),.int .u32 (c9:Int),.bool d2,.int .i64 a9,.int .i64 b1,.slice d5 a4 b3,.slice c5 a5 c4,.slice d7 a6 d6,.int .i64 d0] 102));have A:Ext w e0:=by rw [<-E];exact(Q1.refl _ w).alloc _
 have W:e0.heap[w.heap.size]?=some (.cells #[.string d3,.int .i64 c6,.int .u32 (d8:Int),.int .u32 (c8:Int),.bool d1,.int .i64 a8,.int .i64 b0,.slice d4 a3 b2,.int .i64 c7,.int .u32 (d9:Int),.int .u32 (c9:Int),.bool d2,.int .i64 a9,.int .i64 b1,.slice d5 a4 b3,.slice c5 a5 c4,.slice d7 a6 d6,.int .i64 d0] 102 (0,0)):=by rw [<-E];exact Q3 rfl
 rw [E];obtain⟨e3,L⟩:=zE w.heap.size;rw [L] at W ⊢;have a1:=Zh W;have f5:=Zh L;clear E W L
 go_wp2_with (refine wpList_load_row rfl 102 (.tmp 2) rfl e3 rfl _ _ _ _ a1.out Tryz.underlying102 rfl Tryz.lawInfo ?_)
 refine(a2.out _ A).mono ?_;rintro e e1 ⟨u,j3,rfl,N,r⟩;have q:=A.trans r;have s:=N.out;obtain⟨j2,j1,j5,j4,rfl,rfl,c3⟩:=s.slices;obtain⟨e5,e8,e9⟩:=Zh3 N A.size q.size;clear N r A a1 a2;by_cases m:a0=0;case neg=>
  have i1:(a0 != 0)=true:=by rw [bne_iff_ne];exact m
  have i:=H.out m;subst i;clear s;go_wp2;go_ret2;exact⟨_,rfl,Zu.nil _,fun g o a y e h=>(by cases e),q⟩
 subst m;have f3:=e7.out rfl;obtain⟨a,d⟩:=zE a7.length;rw [d] at c3 ⊢;unfold maxLen at c3;by_cases b8:a=0
 ·subst b8;have i:=F.out rfl d;have e4:=Zh (I.out e1 q f3);clear s d F G H I;go_wp2_with fail;refine e4.out.mono ?_;rintro e f4 ⟨k,K,rfl,M,r⟩;have f1:=q.trans r;have c1:Zu f4 (.slice k e2 K) v:=by
   rw [i];have:=M;rw [<-f0.out] at this ⊢;exact Zu.own this e6.out
  have j:Qr (fun g=>w.heap.size<=g) (.slice k e2 K):=fun g o a y e h=>by
   cases e;rcases M.2 with ⟨Z,_⟩ | ⟨i0,g8,g9,Z,i2,_⟩
   ·cases Z
   ·cases Z;have:=e9.out;omega
  have x:=Zh c1;have J:=Zh j;clear M r i c1 j;go_wp2;go_ret2;exact⟨_,rfl,x.out,J.out,f1⟩
 ·obtain⟨f,rfl⟩:∃ f,a=f+1:=⟨a - 1,by omega⟩;have S:f<a7.length:=by omega
  obtain⟨g,K,k,y,c2,O,X,P⟩:=s.at S;have i:=G.out rfl d S;rw [i] at O X P;rw [d] at c2;cases c2;have b9:=e5.out;have j:=(b9.fresh S O).mono (T:=fun g=>w.heap.size<=g) (fun g hg=>Nat.le_trans e8.out hg);have x:Hid (Zu e1 (.slice k v.length y) v):=Zh ⟨k,y,rfl,X,P⟩;obtain⟨g7,b7⟩:=zE v.length;rw [b7] at O x j;have J:=Zh j;have i3:((f+1:Nat):Int) - 1=(f:Int):=by omega
  have i4:(0:Int)<((f+1:Nat):Int):=by omega
  have i5:(f:Int)<((f+1:Nat):Int):=by omega
  clear s d F G H I X P i b7 b8 b9 j;go_wp2;go_ret2;exact⟨_,rfl,x.out,J.out,q⟩
section
variable {α:Type} {H:List α->Nat->Bool} {P:List α->List α} {k m:Nat} {p:α->Prop}
end
abbrev okW(s:Nat × Nat):Prop:=Y3 s/\okS s=true
def Vz(qs:Qa):List Value:=qs.flatMap fun q=>[q.2.getD 0 undef,.bool false]
def Jy(qs:Qa):List (Option Wd × List Value):=qs.map fun q=>(some q.1.1,[q.2.getD 0 undef,.bool false])
theorem Q2i:(Tryz.prog.info? 240).map (fun i=>(i.zero,i.size,i.bytes))=some (some (.agg #[.slice none 0 0,.bool false]),2,32):=by kernel_rfl
theorem Tq{qs:Qa}{k:Nat}(h:k<qs.length):Vz (qs.take (k+1))=Vz (qs.take k)++[qs[k].2.getD 0 undef,.bool false]:=by
 rw [List.take_succ_eq_append_getElem h];unfold Vz;rw [List.flatMap_append];rfl
theorem Dl{w:World}{v:Value}{qs:Qa}{n:Nat}{e:TypeId}{b:Nat}(k:qs.length=n)(h:w.ownsRow b e 2 v n (Vz qs)) (l:∀ q∈qs,Us w q.1 q.2):Y9 w v (Jy qs):=by
 refine⟨?_,fun p hp=>?_⟩
 ·have o:=Rd.of_own h;have d:(Jy qs).length=n:=by unfold Jy;rw [List.length_map,k]
  have f:(Jy qs).flatMap (·.2)=Vz qs:=by unfold Jy Vz;rw [List.flatMap_map]
  rw [d,f];exact o
 ·obtain⟨q,m,rfl⟩:=List.mem_map.1 hp;obtain⟨r,v,g,⟨a,c,rfl,i,j⟩,_⟩:=l q m;refine⟨rfl,a,_,c,by rw [g];rfl,fun x hx=>?_⟩;cases hx;exact⟨a,c,rfl,i,j⟩
theorem Px{w:World}{qs:Qa}{x:Option Addr}{n pc:Nat}(I:Qu w (.slice x n pc) qs) (H:qs.length=n) (Y:n<=1000) :
  Calls Tryz.prog 135 #[.slice x n pc] w fun e w'=>∃ ao c,e=.returned (.slice ao n c)/\w'.ownsRow w.heap.size 240 2 (.slice ao n c) n (Vz qs)/\Ext w w':=by
 have N:=Zh I;have y:=Zh H;clear I H;go_enter Tryz.func135,Tryz.ntmps135;go_wp2
 refine wp_loop (fun a g=>∃(f:Nat) (ao:Option Addr) (c:Nat),f<=n/\a.defers=[]/\(a.tmps.size=20/\a.tmps.getD 3 undef=.slice ao f c/\a.tmps.getD 6 undef=.slice x n pc/\a.tmps.getD 7 undef=.int .i64 n/\a.tmps.getD 8 undef=.int .i64 f)/\g.ownsRow w.heap.size 240 2 (.slice ao f c) f (Vz (qs.take f))/\Ext w g)
  (fun a _=>((n:Int) - intOf (a.tmps.getD 8 undef)).toNat) ?_ ?_
 ·exact⟨0,none,0,by omega,rfl,⟨rfl,rfl,rfl,rfl,rfl⟩,World.ownsRow_nil _ _ _ _,Q1.refl _ _⟩
 rintro⟨a4,_⟩ g ⟨f,ao,c,b0,Z,⟨J,s,t,u,v⟩,i,m⟩;subst Z;obtain⟨a5,q⟩:=Zd J;obtain⟨d,rfl⟩:∃ l,l=a5:=⟨_,rfl⟩;have a1:a4=#[d 0,d 1,d 2,d 3,d 4,d 5,d 6,d 7,d 8,d 9,d 10,d 11,d 12,d 13,d 14,d 15,d 16,d 17,d 18,d 19]:=q;clear q;subst a1;change d 3=_ at s;change d 6=_ at t;change d 7=_ at u;change d 8=_ at v;rw [s,t,u,v];clear s t u v J;have p:=Zh i;clear i;by_cases a0:f<n
 ·have W:(f:Int)<(n:Int):=by omega
  have a8:(0:Int)<=(f:Int):=by omega
  have G:f<qs.length:=by rw [y.out];exact a0
  obtain⟨a7,b2,a6,j,k,⟨d,b6,D,q,a2⟩,_⟩:=Jr.at (Zc N.out m) G;replace j:=j zd;obtain⟨j,a9⟩:=j;simp only [zV] at j;obtain⟨rfl,a3,rfl⟩:=j;clear a3;have o:=Tq G;rw [D] at k o;obtain⟨V,T,rfl,_⟩:=q;obtain⟨b4,b3,rfl,_⟩:=a2;obtain⟨U,F⟩:=zE (qs[f].1.1.length);obtain⟨b5,K⟩:=zE (qs[f].1.2.length);rw [F] at k o;rw [K] at k o;have z:=k 0 _ rfl;have S:=k 1 _ rfl;rw [Nat.add_zero] at z;have b1:IntKind.i64.wrap ((f:Int)+1)=(f:Int)+1:=IntWalk.i64_in _ oz;have O:=Zh o;clear o k D F K
  go_wp2_with (at_builtin;refine Zz rfl (.tmp 12) (.tmp 16) 178 rfl w.heap.size 240 _ 2 32 Tryz.underlying178 @Q2i rfl zd _ _ _ rfl (Qf p.out (((Q1.refl _ g).alloc _).alloc _)) ⟨g.heap.size+1,0,none⟩ 1 1 [.slice V U T,.bool false] rfl rfl (Y5 zy) (by intro l L;simp at L;rcases L with rfl | rfl <;> rfl) (by unfold maxLen;omega) oz (Nat.le_trans m.size (Q1.size (Q1.alloc (Q1.alloc (Q1.refl (fun _=>False) g) _) _))) ?_)
  intro Q R P B C X;have A:Ext w P:=Q1.after (m.trans (((Q1.refl _ g).alloc _).alloc _)) C (fun b Y e=>by have:=(p.out.lt _ e).1;omega);have r:=Zh B;have M:=Zh A;clear B A C X m z S;go_wp2;exact⟨⟨f+1,Q,R,by omega,tz,⟨rfl,rfl,rfl,rfl,rfl⟩,by rw [O.out];exact r.out,M.out⟩,mz⟩
 ·obtain rfl:f=n:=by omega
  have W:¬ (f:Int)<(f:Int):=by omega
  have E:qs.take f=qs:=List.take_of_length_le (by rw [y.out];exact Nat.le_refl _);have i:=p.out;rw [E] at i;have r:=Zh i;clear i E p;go_wp2;go_ret;exact⟨ao,c,rfl,r.out,m⟩
def Rb(a b:Wd)(s:Nat × Nat):Wd:=a++[s]++b
def Fe(ls:List Q7)(a b:Wd):Int:=if R2 ls=0 then(if wE a=0 then wE b else wE a) else R2 ls
def Qaz(ls:List Q7)(a b:Wd)(s:Nat × Nat):Int:=if Fe ls a b=0 then(if okS s=true then Q3b ls (Rb a b s) else 14) else Fe ls a b
def Qb5(ls:List Q7)(a b:Wd)(s:Nat × Nat):Wd:=if Fe ls a b=0 then(if okS s=true then Q4l ls (Rb a b s) else []) else []
def Q5t(ss:Wd)(most:Nat):Int:=if most<ss.length then 12 else if ss.all okS=true then(if ss.Nodup then 0 else 6) else 14
def Xa:List Int->Int
 | []=>0
 | e::l=>if e=0 then Xa l else e
def Q8m(ls:List Q7)(a b ss:Wd):Int:=if Fe ls a b=0 then(if Q5t ss 64=0 then Xa (ss.map fun s=>Q3b ls (Rb a b s)) else Q5t ss 64) else Fe ls a b
def Qaq(ls:List Q7)(a b ss:Wd):List Wd:=if Q8m ls a b ss=0 then ss.map fun s=>Q4l ls (Rb a b s) else []
def Q9m(l:List Wd):List Nat:=l.map fun w=>l.idxOf w
def Q1g(pl:List Wd)(w:Wd):Nat->Int
 | 0=>-1
 | n+1=>if pl.getD n []=w then(n:Int) else Q1g pl w n
def Q9u(l pl:List Wd):List Int:=l.map fun w=>Q1g pl w pl.length
theorem Bc{l:List Int}{n:Nat}(b:n<l.length)(h:Xa (l.take n)=0):Xa (l.take (n+1))=l[n]:=by
 induction l generalizing n with
 | nil=>cases b
 | cons e l ih=>
  cases n with
  | zero=>simp only [Nat.zero_add,List.take_succ_cons,List.take_zero,List.getElem_cons_zero];unfold Xa;split <;> rename_i a <;> simp [Xa,a]
  | succ n=>
   rw [List.take_succ_cons] at h ⊢;unfold Xa at h ⊢
   split at h
   ·rename_i a
    rw [if_pos a,List.getElem_cons_succ];exact ih (by simpa using b) h
   ·contradiction
theorem Bj{l:List Int}{n:Nat}(b:n<l.length)(h:Xa (l.take n)=0) (a:l[n]≠0):Xa l=l[n]:=by
 induction l generalizing n with
 | nil=>cases b
 | cons e l ih=>
  cases n with
  | zero=>rw [List.getElem_cons_zero] at a ⊢;unfold Xa;rw [if_neg a]
  | succ n=>
   rw [List.take_succ_cons] at h;unfold Xa at h ⊢
   split at h
   ·rename_i c
    rw [if_pos c,List.getElem_cons_succ];exact ih (by simpa using b) h (by simpa using a)
   ·contradiction
theorem Q0j:(Tryz.prog.info? 3).map (fun i=>(i.zero,i.size,i.bytes))=some (some (.int .i64 0),1,8):=by kernel_rfl
theorem Q5m{w:World}{ao:Option Addr}{n cap:Nat}{xs:List Value}(s:Rd w (.slice ao n cap) n 2 xs) (d:∀ u∈xs,u.oneCell'=true) (J:n<=1000000) :
  Calls Tryz.prog 179 #[.slice ao n cap] w fun e w'=>∃ bo c,e=.returned (.slice bo n c)/\w'.ownsRow w.heap.size 240 2 (.slice bo n c) n xs/\Ext w w':=by
 have A:=Zh s;have t:=Zh d;obtain⟨l,D,k,H,f,g⟩:=s;simp only [zV,true_and] at f;obtain⟨rfl,rfl⟩:=f;clear d;unfold maxLen at D;cases ao with
 | none=>
  have F:n=0:=by
   apply Nat.eq_zero_of_not_pos;intro E;obtain⟨I,K,d,_⟩:=g E;cases d
  subst F;have G:xs=[]:=List.eq_nil_of_length_eq_zero oz;subst G;clear g l;have f:=fun(w:World)=>Lib.run_eql_slice_nil (P:=Tryz.prog) w 178 240 none 0 cap 0 0 Tryz.underlying178;go_enter Tryz.func179,Tryz.ntmps179;go_wp2;go_ret;exact⟨none,0,rfl,World.ownsRow_nil _ _ _ _,Q1.refl _ _⟩
 | some a=>
  clear g l;have f:=fun(w:World)=>Lib.run_eql_slice_nil (P:=Tryz.prog) w 178 240 (some a) n cap 0 0 Tryz.underlying178;go_enter Tryz.func179,Tryz.ntmps179;have i:Ext w (w.alloc (.cells #[] 240)):=(Q1.refl _ w).alloc _;have o:=World.ownsRow_made (base:=w.heap.size) (e:=240) (size:=2) w #[] 0 (Nat.le_refl _) zd rfl;have r:=A.out.ext i;obtain⟨x,z,j⟩:=Zh3 o r i;clear o r i
  go_wp2_with (at_builtin;refine Kz rfl (.tmp 5) (.tmp 6) 178 rfl w.heap.size 240 _ 2 32 Tryz.underlying178 @Q2i rfl zd _ 0 [] rfl x.out _ _ _ _ rfl z.out t.out ?c3 ?c4 ?c5 ?_)
  case c3=>unfold maxLen;omega
  case c4=>omega
  case c5=>exact j.out.size
  intro k C B p q _;have m:Ext w B:=j.out.after q (fun b d e=>by simp [Value.ownBlock] at e;omega);have y:=Zh p;have v:=Zh m;clear p m q;go_wp2;go_ret;refine⟨k,C,?_,?_,v.out⟩
  ·first | rfl | simp
  ·have:=y.out
   simpa using this
theorem Dy{w:World}{ao:Option Addr}{n cap:Nat}{xs:List Value}(s:Rd w (.slice ao n cap) n 1 xs) (d:∀ u∈xs,u.oneCell'=true) (J:n<=1000000) :
  Calls Tryz.prog 77 #[.slice ao n cap] w fun e w'=>∃ bo c,e=.returned (.slice bo n c)/\w'.ownsRow w.heap.size 3 1 (.slice bo n c) n xs/\Ext w w':=by
 have A:=Zh s;have t:=Zh d;obtain⟨l,D,k,H,f,g⟩:=s;simp only [zV,true_and] at f;obtain⟨rfl,rfl⟩:=f;clear d;unfold maxLen at D;cases ao with
 | none=>
  have F:n=0:=by
   apply Nat.eq_zero_of_not_pos;intro E;obtain⟨I,K,d,_⟩:=g E;cases d
  subst F;have G:xs=[]:=List.eq_nil_of_length_eq_zero oz;subst G;clear g l;have f:=fun(w:World)=>Lib.run_eql_slice_nil (P:=Tryz.prog) w 48 3 none 0 cap 0 0 Tryz.underlying48;go_enter Tryz.func77,Tryz.ntmps77;go_wp2;go_ret;exact⟨none,0,rfl,World.ownsRow_nil _ _ _ _,Q1.refl _ _⟩
 | some a=>
  clear g l;have f:=fun(w:World)=>Lib.run_eql_slice_nil (P:=Tryz.prog) w 48 3 (some a) n cap 0 0 Tryz.underlying48;go_enter Tryz.func77,Tryz.ntmps77;have i:Ext w (w.alloc (.cells #[] 3)):=(Q1.refl _ w).alloc _;have o:=World.ownsRow_made (base:=w.heap.size) (e:=3) (size:=1) w #[] 0 (Nat.le_refl _) zd rfl;have r:=A.out.ext i;obtain⟨x,z,j⟩:=Zh3 o r i;clear o r i
  go_wp2_with (at_builtin;refine Kz rfl (.tmp 5) (.tmp 6) 48 rfl w.heap.size 3 _ 1 8 Tryz.underlying48 @Q0j rfl zd _ 0 [] rfl x.out _ _ _ _ rfl z.out t.out ?c3 ?c4 ?c5 ?_)
  case c3=>unfold maxLen;omega
  case c4=>omega
  case c5=>exact j.out.size
  intro k C B p q _;have m:Ext w B:=j.out.after q (fun b d e=>by simp [Value.ownBlock] at e;omega);have y:=Zh p;have v:=Zh m;clear p m q;go_wp2;go_ret;refine⟨k,C,?_,?_,v.out⟩
  ·first | rfl | simp
  ·have:=y.out
   simpa using this
theorem Q54{w:World}{base:Nat}{e:TypeId}{sz g n cap j:Nat}{xs cs:List Value}(h:w.ownsRow base e sz (.slice (some ⟨g,0,none⟩) n cap) n xs) (s:j<n) (r:cs.length=sz) :
  (w.setCells g (j*sz) cs).ownsRow base e sz (.slice (some ⟨g,0,none⟩) n cap) n (Xm xs (j*sz) cs):=by
 have k:=h.1;rcases h.2 with ⟨a,_⟩ | ⟨q,p,b,a,c,i,m,d,f,o⟩
 ·cases a
 ·simp only [zV,Option.some.injEq,Addr.mk.injEq] at a;obtain⟨⟨rfl,_,_⟩,_,rfl⟩:=a;have l:j*sz+cs.length<=n*sz:=by
   have:=Nat.mul_le_mul_right sz (show j+1<=n by omega);rw [Nat.add_mul,Nat.one_mul] at this;omega
  refine⟨by rw [K1];exact k,.inr ⟨g,cap,_,rfl,c,Gl cs _ w b i,m,d,by simp [K1,f],?_⟩⟩;rw [show ((Xm b.toList (j*sz) cs).toArray.toList)=Xm b.toList (j*sz) cs from rfl,Wu _ _ _ _ l,o]
theorem Ko{α:Type}{sz:Nat}{os:List (α × List Value)} (h:∀ p∈os,p.2.length=sz):(os.flatMap (·.2)).length=os.length*sz:=by
 induction os with
 | nil=>simp
 | cons p ps ih=>
  rw [List.flatMap_cons,List.length_append,h p zy,ih (fun p hp=>h p (by simp [hp])),List.length_cons,Nat.add_mul,Nat.one_mul,Nat.add_comm]
theorem Q3c{α:Type}{sz j:Nat}{os:List (α × List Value)} {x:α} {cs:List Value} (a:0<sz) (h:∀ p∈os,p.2.length=sz) (w:j<os.length) (f:cs.length=sz):Xm (os.flatMap (·.2)) (j*sz) cs=(os.set j (x,cs)).flatMap (·.2):=by
 have d:∀ p∈os.set j (x,cs),p.2.length=sz:=fun p c=>by
  rcases List.mem_or_eq_of_mem_set c with c | rfl
  ·exact h p c
  ·exact f
 have g:j*sz+cs.length<=(os.flatMap (·.2)).length:=by
  rw [Ko h];have:=Nat.mul_le_mul_right sz (show j+1<=os.length by omega);rw [Nat.add_mul,Nat.one_mul] at this;omega
 apply List.ext_getElem?;intro i;rw [Pa _ _ _ _ g];by_cases t:i<os.length*sz
 ·have l:i % sz<sz:=Nat.mod_lt _ a;have k:i / sz<os.length:=(Nat.div_lt_iff_lt_mul a).2 t;have s:i / sz*sz+i % sz=i:=by rw [Nat.mul_comm];exact Nat.div_add_mod i sz
  have o:=Do d (i:=i / sz) (j:=i % sz) (by rw [List.length_set];exact k) l;have q:=Do h (i:=i / sz) (j:=i % sz) k l;rw [s] at o q;rw [o,q];by_cases b:i / sz=j
  ·subst b;rw [if_pos ⟨by omega,by omega⟩];simp only [List.getElem_set_self]
   congr 1;omega
  ·rw [if_neg,List.getElem_set_ne (fun e=>b e.symm)];rintro⟨m,n⟩;apply b;rw [f] at n;have u:j<=i / sz:=(Nat.le_div_iff_mul_le a).2 m;have v:i / sz<j+1:=(Nat.div_lt_iff_lt_mul a).2 (by rw [Nat.add_mul,Nat.one_mul];omega);omega
 ·have r:((os.set j (x,cs)).flatMap (·.2))[i]?=none:=List.getElem?_eq_none (by rw [Ko d,List.length_set];omega);rw [r,if_neg,List.getElem?_eq_none (by rw [Ko h];omega)];rintro⟨m,n⟩;rw [Ko h] at g;omega
def Yd(l:Q7)(s:Option Wd):Option Wd:=s.bind fun u=>if trE l u=0 then some (Vu l u) else none
def H7(S:Nat->Prop)(os:List (Option Wd × List Value)):Prop:=∀ p∈os,∀ u,p.1=some u->∀ v x,p.2=[v,x]->Qr S v
structure Jq (B:Nat) (S:Nat->Prop) (o:Value) (W:World) (n:Nat) (os:List (Option Wd × List Value)):Prop where
 own:W.ownsRow B 240 2 o n (os.flatMap (·.2))
 len:os.length=n
 two:∀ p∈os,p.2.length=2
 ok:∀ p∈os,J6 W p.1 p.2
 kept:H7 (fun g=>S g/\o.ownBlock≠some g) os
theorem Nf{W:World}{v:Value}{u:Wd}(h:Zu W v u):Qr (fun g=>g<W.heap.size) v:=by
 obtain⟨i,k,rfl,⟨⟨_,_,j,m,f,d⟩,_⟩,_⟩:=h;intro g p o l b c;cases b;cases f;obtain⟨n,q,a,e,_⟩:=d c;simp only [Option.some.injEq,Addr.mk.injEq] at a;rw [a.1];exact e
theorem N8{S:Nat->Prop}{A B:World}{s:Option Wd}{cs:List Value}(h:J6 A s cs)(l:Q1 (fun b=>¬ S b) A B) (i:∀ u,s=some u->∀ v x,cs=[v,x]->Qr S v):J6 B s cs:=by
 obtain⟨c,n,e,rfl,g⟩:=h;refine⟨c,n,e,rfl,fun u hu=>?_⟩;obtain⟨d,f,k,m,j⟩:=g u hu;have a:=i u hu _ _ rfl;rw [k] at a ⊢;exact⟨d,f,rfl,Hd m l a,j⟩
theorem Jq.ext{b:Nat}{S:Nat->Prop}{o:Value}{A B:World}{n:Nat}{os:List (Option Wd × List Value)} (h:Jq b S o A n os) (ht:Ext A B):Jq b S o B n os:=
 ⟨Qf h.own ht,h.len,h.two,fun p hp=>(h.ok p hp).ext ht,h.kept⟩
theorem Jq.at{b:Nat}{S:Nat->Prop}{o:Value}{A:World}{n:Nat}{os:List (Option Wd × List Value)} (h:Jq b S o A n os):Y9 A o os:=by
 refine⟨by rw [h.len];exact Rd.of_own h.own,fun p hp=>⟨h.two p hp,h.ok p hp⟩⟩
theorem Jq.set{B:Nat}{S:Nat->Prop}{g cap:Nat}{A:World}{n j:Nat}{os:List (Option Wd × List Value)} (h:Jq B S (.slice (some ⟨g,0,none⟩) n cap) A n os) (i:j<n) {s:Option Wd} {v x:Value} (m:J6 A s [v,x]) (k:∀ u,s=some u->Qr (fun b=>S b/\b≠g) v) :
  Jq B S (.slice (some ⟨g,0,none⟩) n cap) (A.setCells g (j*2) [v,x]) n (os.set j (s,[v,x])):=by
 have c:=h.own;have f:=Q1.setCells A g [v,x] (j*2);have d:∀ p∈os.set j (s,[v,x]),p∈os\/p=(s,[v,x]):=fun p a=>List.mem_or_eq_of_mem_set a;have l:(Value.slice (some ⟨g,0,none⟩) n cap).ownBlock=some g:=rfl;refine⟨?_,by rw [List.length_set];exact h.len,fun p a=>?_,fun p a=>?_,fun p a u hu v' x' e=>?_⟩
 ·rw [<-Q3c zd h.two (by rw [h.len];exact i) rfl];exact Q54 c i rfl
 ·rcases d p a with a | rfl
  ·exact h.two p a
  ·rfl
 ·rcases d p a with a | rfl
  ·refine N8 (S:=fun b=>b≠g) (h.ok p a) (f.mono fun b _ e hn=>hn e) (fun u hu v' x' e=>(h.kept p a u hu v' x' e).mono fun b c e2=>c.2 (by rw [e2];rfl))
  ·exact N8 (S:=fun b=>b≠g) m (f.mono fun b _ e hn=>hn e) (fun u hu v' x' e=>by cases e;exact(k u hu).mono fun b c=>c.2)
 ·rcases d p a with a | rfl
  ·exact h.kept p a u hu v' x' e
  ·cases e;exact(k u hu).mono fun b c=>⟨c.1,fun e2=>c.2 (by rw [l] at e2;exact(Option.some.inj e2).symm)⟩
theorem Q5g{l:Q7}{os ss:List (Option Wd × List Value)} {k:Nat} (b:k<ss.length) (h:os.map (·.1)=(ss.take k).map (fun p=>Yd l p.1)++(ss.drop k).map (·.1)) :
  (∀ cs,(os.set k (Yd l ss[k].1,cs)).map (·.1)=(ss.take (k+1)).map (fun p=>Yd l p.1)++(ss.drop (k+1)).map (·.1))/\(ss[k].1=none->os.map (·.1)=(ss.take (k+1)).map (fun p=>Yd l p.1)++(ss.drop (k+1)).map (·.1)):=by
 have d:(ss.drop k).map (·.1)=ss[k].1::(ss.drop (k+1)).map (·.1):=by rw [List.drop_eq_getElem_cons b];rfl
 have a:(ss.take (k+1)).map (fun p=>Yd l p.1)=(ss.take k).map (fun p=>Yd l p.1)++[Yd l ss[k].1]:=by rw [List.take_succ_eq_append_getElem b,List.map_append];rfl
 have e:((ss.take k).map (fun p=>Yd l p.1)).length=k:=by rw [List.length_map,List.length_take];omega
 rw [d] at h;constructor
 ·intro cs;rw [List.map_set,h,a,List.append_assoc];rw [List.set_append_right _ _ oz,e,Nat.sub_self];rfl
 ·intro c;rw [h,a,c,List.append_assoc];rfl
theorem Pq{w:World}{l:Q7}{cs:List Value}{ss:List (Option Wd × List Value)} {g9:Option Addr} {n b0:Nat} (e8:Z2 w l cs) (K:Y9 w (.slice g9 n b0) ss) (a8:ss.length=n) (a2:n<=1000) (I:Tab w) (N:Nat->Prop) (j2:H7 N ss) :
  Calls Tryz.prog 136 #[.agg cs.toArray,.slice g9 n b0] w fun e w'=>∃ ao c os,e=.returned (.slice ao n c)/\Jq w.heap.size (fun g=>N g\/w.heap.size<=g) (.slice ao n c) w' n os/\os.map (·.1)=ss.map (fun p=>Yd l p.1)/\Ext w w':=by
 have j0:∀ b∈ss.flatMap (·.2),b.oneCell'=true:=fun b i=>by
  obtain⟨p,E,i⟩:=List.mem_flatMap.1 i;obtain⟨_,ao,m,c,P,_⟩:=K.2 p E;rw [P] at i;simp at i;rcases i with rfl | rfl <;> rfl
 have j6:=fun(V:World) (y:Ext w V)=>Q5m (cap:=b0) (by have:=(Mr K y).1;rw [a8] at this;exact this) j0 oz
 have j5:=fun(A:World) (v:Value) (y:Ext w A) (a4:∃ f,w.heap.size<=f/\A.ownsRow f 240 2 v n (ss.flatMap (·.2)))=>(show Jq w.heap.size (fun g=>N g\/w.heap.size<=g) v A n ss from by
  obtain⟨f,a2,a4⟩:=a4;refine⟨Xh a4 a2,a8,fun p E=>(K.2 p E).1,fun p E=>((K.2 p E).2).ext y,fun p E b i v' x e=>?_⟩;obtain⟨ao,m,c,P,n6⟩:=(K.2 p E).2;rw [P] at e;cases e;exact fun g o' m' c' O T=>⟨.inl (j2 p E b i _ _ P g o' m' c' O T),fun e2=>by have:=(a4.lt g e2).1;have:=Nf (n6 b i) g o' m' c' O T;omega⟩)
 have j4:=fun(V:World) (y:Ext w V) (vo:Option Addr) (vc:Nat) (ws:Wd) (hv:Q8 V (.slice vo ws.length vc) ws) (X:ws.length<=vc)=>Q2k (e8.ext y) hv X (I.keep y id);obtain⟨g2,f7,g7,L,g0,c6,c8,g3,c1,d0,f8,g8,M,g1,c7,c9,g4,c2,d1,f6,c3,f5,g6,c4,g5,f9,rfl,o6,p3,p4,o5,p2,p1,C,o8,o9,p0,o7,q7,q8,q9,r0,r1⟩:=Yr e8;obtain⟨m7,b7,i3,i1,l9⟩:=Zh5 K a8 j6 j5 j4;clear K a8 j6 j5 j4 e8 I j0 j2;go_enter Tryz.func136,Tryz.ntmps136;go_upto_region 1 with (fail)
 obtain⟨b1,a9⟩:=zE (w.alloc (.cells #[.string g2,.int .i64 f7,.int .u32 (g7:Int),.int .u32 (L:Int),.bool g0,.int .i64 c6,.int .i64 c8,.slice g3 c1 d0,.int .i64 f8,.int .u32 (g8:Int),.int .u32 (M:Int),.bool g1,.int .i64 c7,.int .i64 c9,.slice g4 c2 d1,.slice f6 c3 f5,.slice g6 c4 g5,.int .i64 f9] 102));have U:Ext w b1:=by rw [<-a9];exact(Q1.refl _ w).alloc _
 have J:b1.heap[w.heap.size]?=some (.cells #[.string g2,.int .i64 f7,.int .u32 (g7:Int),.int .u32 (L:Int),.bool g0,.int .i64 c6,.int .i64 c8,.slice g3 c1 d0,.int .i64 f8,.int .u32 (g8:Int),.int .u32 (M:Int),.bool g1,.int .i64 c7,.int .i64 c9,.slice g4 c2 d1,.slice f6 c3 f5,.slice g6 c4 g5,.int .i64 f9] 102 (0,0)):=by rw [<-a9];exact Q3 rfl
 rw [a9];obtain⟨Q,d7⟩:=zE w.heap.size;rw [d7] at J ⊢;have o4:=Zh d7;go_wp2_with fail;refine(i3.out _ U).mono ?_;rintro e b2 ⟨ao,c,rfl,e1,d9⟩;have q:=U.trans d9;have F:=i1.out b2 _ q ⟨_,U.size,e1⟩;have k4:=d9.keep J;have q2:Q<b1.heap.size:=(Array.getElem?_eq_some_iff.1 J).1;have k7:∀ g,(Value.slice ao n c).ownBlock=some g->b1.heap.size<=g/\g<b2.heap.size:=fun g hg=>e1.lt g hg;obtain⟨H,i4,G,b5,m1⟩:=Zh5 F k4 q k7 U.size;clear F k4 q k7 e1 d9 U J a9 d7 i3 i1;go_wp2
 refine wp_loop (fun a t=>∃(d:Nat) (os:List (Option Wd × List Value)),d<=n/\a.defers=[]/\(a.tmps.size=37/\a.tmps.getD 2 undef=.pointer (some ⟨Q,0,none⟩)/\a.tmps.getD 5 undef=.slice ao n c/\a.tmps.getD 12 undef=.slice g9 n b0/\a.tmps.getD 13 undef=.int .i64 n/\a.tmps.getD 14 undef=.int .i64 d)/\t.heap[Q]?=some (.cells #[.string g2,.int .i64 f7,.int .u32 (g7:Int),.int .u32 (L:Int),.bool g0,.int .i64 c6,.int .i64 c8,.slice g3 c1 d0,.int .i64 f8,.int .u32 (g8:Int),.int .u32 (M:Int),.bool g1,.int .i64 c7,.int .i64 c9,.slice g4 c2 d1,.slice f6 c3 f5,.slice g6 c4 g5,.int .i64 f9] 102 (0,0))/\Jq w.heap.size (fun g=>N g\/w.heap.size<=g) (.slice ao n c) t n os/\os.map (·.1)=(ss.take d).map (fun p=>Yd l p.1)++(ss.drop d).map (·.1)/\b2.heap.size<=t.heap.size/\Ext w t)
  (fun a _=>((n:Int) - intOf (a.tmps.getD 14 undef)).toNat) ?_ ?_
 ·exact⟨0,ss,by omega,rfl,⟨rfl,rfl,rfl,rfl,rfl,rfl⟩,i4.out,H.out,by simp,Nat.le_refl _,G.out⟩
 clear H i4 G;rintro⟨o1,_⟩ t ⟨d,os,q4,n7,⟨l4,d5,d6,d2,d3,d4⟩,k6,F,k9,l6,y⟩;subst n7;obtain⟨o2,i⟩:=Zd l4;obtain⟨b,rfl⟩:∃ x,x=o2:=⟨_,rfl⟩;have n9:o1=#[b 0,b 1,b 2,b 3,b 4,b 5,b 6,b 7,b 8,b 9,b 10,b 11,b 12,b 13,b 14,b 15,b 16,b 17,b 18,b 19,b 20,b 21,b 22,b 23,b 24,b 25,b 26,b 27,b 28,b 29,b 30,b 31,b 32,b 33,b 34,b 35,b 36]:=i;clear i;subst n9;change b 2=_ at d5;change b 5=_ at d6;change b 12=_ at d2;change b 13=_ at d3;change b 14=_ at d4;rw [d5,d6,d2,d3,d4];clear d5 d6 d2 d3 d4 l4;obtain⟨m6,H,b6,b8,R⟩:=Zh5 k6 F k9 l6 y;clear k6 F k9 l6 y;by_cases k2:d<n;case neg=>
  obtain rfl:d=n:=by omega
  have P:¬ (d:Int)<(d:Int):=by omega
  have z:=b6.out;rw [List.take_of_length_le (by rw [b7.out];exact Nat.le_refl _),List.drop_eq_nil_of_le (by rw [b7.out];exact Nat.le_refl _),List.map_nil,List.append_nil] at z;have Z:=Zh z;clear z;go_wp2;go_ret;exact⟨ao,c,rfl,os,H.out,Z.out,R.out⟩
 have P:(d:Int)<(n:Int):=by omega
 have q1:(0:Int)<=(d:Int):=by omega
 have e7:d<ss.length:=by rw [b7.out];exact k2
 obtain⟨L,M⟩:=Q5g (l:=l) e7 b6.out;obtain⟨q0,q6,p7,B,a6,⟨i9,i8,i7,j7,e6⟩,o3⟩:=Jr.at m7.out e7;replace B:=B zd;obtain⟨B,n8⟩:=B;simp only [zV] at B;obtain⟨rfl,o0,rfl⟩:=B;clear o0;rw [j7] at a6;have T:=R.out.cell_some (a6 0 _ rfl) id;have O:=R.out.cell_some (a6 1 _ rfl) id;rw [Nat.add_zero] at T;obtain⟨l8,F⟩:=zE (ss[d].1);rw [F] at O e6 L M;obtain⟨m3,b9,c0⟩:=Zh3 e6 L M;have q5:IntKind.i64.wrap ((d:Int)+1)=(d:Int)+1:=IntWalk.i64_in _ oz;clear e6 F o3 j7 a6 e7 n8 L M b6;obtain⟨f,e4⟩:=zE l8.isNone;rw [e4] at O;have i0:=Zh e4;clear e4;go_upto_region 5 with (fail)
 obtain⟨c5,a0⟩:=zE (t.alloc (.cells #[.slice i9 i8 i7,.bool f] 240));have e0:Ext t c5:=by rw [<-a0];exact(Q1.refl _ t).alloc _
 have e3:c5.heap[t.heap.size]?=some (.cells #[.slice i9 i8 i7,.bool f] 240 (0,0)):=by rw [<-a0];exact Q3 rfl
 rw [a0];obtain⟨p5,j3⟩:=zE t.heap.size;rw [j3] at e3 ⊢;have p8:=zR e3;have J:=e0.keep m6.out;have b4:=Zh J;have C:=Zh e0;clear a0 e3 j3 T O J e0;cases l8 with
 | none=>
  obtain rfl:f=true:=i0.out.symm;have z:=c0.out uz;have Z:=Zh z;have q:=R.out.trans C.out;have l0:=H.out.ext C.out;have l7:=Nat.le_trans b8.out C.out.size;obtain⟨G,m8,n2⟩:=Zh3 q l0 l7;clear z q l0 l7 b9 c0;go_wp2;exact⟨⟨d+1,by omega,by simp,b4.out,os,m8.out,by first | exact Z.out | (have:=Z.out;simpa using this),n2.out,G.out⟩,mz⟩
 | some uw=>
  obtain rfl:f=false:=i0.out.symm;obtain⟨p6,p9,B,k0,j8⟩:=m3.out uw uz;simp only [zV] at B;obtain⟨rfl,j9,rfl⟩:=B;have q:=R.out.trans C.out;have X:=l9.out c5 q _ _ uw (k0.ext q) j8;rw [<-j9] at X;have z:=b9.out;obtain⟨g,k1⟩:=Dd H.out.own oz;obtain⟨m4,i2,G⟩:=Zh3 k1 X q;clear k0 j8 q X j9 b9 c0 k1;obtain rfl:=m4.out
  go_wp2_with (refine wpList_load_row rfl 102 (.tmp 2) rfl Q rfl _ _ _ _ b4.out Tryz.underlying102 rfl Tryz.lawInfo ?_)
  refine i2.out.mono ?_;rintro e S ⟨r2,rfl,⟨s,r,rfl,a7,a5⟩,a3,W⟩;obtain⟨b3,f0⟩:=zE (trE l uw);obtain⟨i6,f1⟩:=zE (Vu l uw);obtain⟨k,e5⟩:=zE (b3 != 0);have f3:Yd l (some uw)=if k=true then none else some i6:=by
   unfold Yd;rw [Option.bind_some,f0,f1,<-e5];by_cases n5:b3=0 <;> simp [n5]
  rw [f1] at a3 a7 a5 ⊢;rw [f0];obtain⟨u,Y⟩:=zE i6.length;rw [Y] at a3 a7 a5 ⊢;have l3:J6 S (Yd l (some uw)) [.slice s u r,.bool k]:=by
   refine⟨s,u,r,by rw [f3];cases k <;> rfl,fun b i=>?_⟩;rw [f3] at i;cases k with
   | true=>cases i
   | false=>cases i;exact⟨s,r,by rw [Y],by rw [Y];exact a7,by rw [Y];exact a5⟩
  have f2:=H.out.ext (C.out.trans W);have k3:Qr (fun f=>(N f\/w.heap.size<=f)/\f≠g) (.slice s u r):=a3.mono fun f a2=>⟨.inr (by have:=G.out.size;omega),fun e=>by have:=(b5.out g rfl).2;have:=b8.out;have:=C.out.size;omega⟩;have l1:=f2.set k2 l3 (fun _ _=>k3);have k8:=z [.slice s u r,.bool k];have k5:=W.keep b4.out;have I:=Q1.setCells S g (#[.slice s u r,.bool k]:Array Value).toList (d*2);have l5:=Gh f2.own (o:=d*2) (m:=2) oz;have j1:Q≠g:=by have:=(b5.out g rfl).1;omega
  have e9:=I.heap k5 j1;have d8:Ext w (S.setCells g (d*2) (#[.slice s u r,.bool k]:Array Value).toList):=Q1.after (G.out.trans W) I (fun f a2 e=>by have:=(b5.out g rfl).1;have:=m1.out;omega);have f4:b2.heap.size<=(S.setCells g (d*2) (#[.slice s u r,.bool k]:Array Value).toList).heap.size:=by have:=b8.out;have:=C.out.size;have:=W.size;have:=I.size;omega
  obtain⟨n4,a1⟩:=zE (S.setCells g (d*2) (#[.slice s u r,.bool k]:Array Value).toList);have l2:Jq w.heap.size (fun g=>N g\/w.heap.size<=g) (.slice (some ⟨g,0,none⟩) n c) n4 n (os.set d (Yd l (some uw),[.slice s u r,.bool k])):=by rw [<-a1];exact l1
  rw [a1] at e9 d8 f4;obtain⟨n0,n1,m9,i5,m5,m2,n3,m0⟩:=Zh8 l5 a1 l2 k8 e9 d8 f4 e5;clear z f0 f1 f3 l3 f2 k3 l1 k8 k5 I a1 l2 e9 d8 f4 l5 a3 a7 a5 W Y i2 e5 j1;have q3:(b3 != 0)=k:=m0.out
  go_wp2_with (refine wpList_store_mid rfl 240 (.tmp 34) (.tmp 33) rfl g (d*2) #[.slice s u r,.bool k] (by first | rfl | (simp;done)) rfl n0.out kz kz ?_;rw [n1.out])
  exact⟨⟨d+1,_,by omega,tz,⟨rfl,rfl,rfl,rfl,rfl,rfl⟩,m5.out,m9.out,by first | exact i5.out | (have:=i5.out;simpa using this),n3.out,m2.out⟩,mz⟩
def xB(s:Option Wd)(t:Wd):Bool:=match s with | some u=>decide (u=t) | none=>false
def Dh(ss:List (Option Wd × List Value)) (qs:Qa) (k:Nat):List Value:=(List.range k).map fun i=>.bool (xB (ss.getD i (none,[])).1 (qs.getD i (([],[]),[])).1.2)
theorem W3{V:World}{g:Nat}{vs:List Value}{t:TypeId}(h:V.heap[g]?=some (.cells vs.toArray t (0,0))):∀(j:Nat) (u:Value),vs[j]?=some u->V.cell? ((⟨g,0,none⟩:Addr).add j)=some u:=fun j u hu=>by
 have hadd:(⟨g,0,none⟩:Addr).add j=⟨g,j,none⟩:=by unfold Addr.add;split <;> simp_all
 rw [hadd,cell_of_row V g j _ t _ h]
 simpa using hu
theorem Q0n:(Tryz.prog.info? 4).map (fun i=>(i.zero,i.size,i.bytes))=some (some (.bool false),1,1):=by kernel_rfl
theorem Et(ss:List (Option Wd × List Value)) (qs:Qa) (k:Nat):Dh ss qs (k+1)=Dh ss qs k++[.bool (xB (ss.getD k (none,[])).1 (qs.getD k (([],[]),[])).1.2)]:=by
 unfold Dh;rw [List.range_succ,List.map_append];rfl
theorem Gq{w:World}{ss:List (Option Wd × List Value)} {qs:Qa} {d7:Option Addr} {d6:Nat} {d5:Option Addr} {n pc:Nat} (f5:Y9 w (.slice d7 n d6) ss) (f6:ss.length=n) (f4:Qu w (.slice d5 n pc) qs) (f2:qs.length=n) (e6:n<=1000) :
  Calls Tryz.prog 101 #[.slice d7 n d6,.slice d5 n pc] w fun e w'=>∃ ao c,e=.returned (.slice ao n c)/\w'.ownsRow w.heap.size 4 1 (.slice ao n c) n (Dh ss qs n)/\Ext w w':=by
 obtain⟨g9,g7,g6,i0⟩:=Zh4 f5 f4 f2 f6;clear f5 f4 f2 f6;go_enter Tryz.func101,Tryz.ntmps101;go_wp2
 refine wp_loop (fun a q=>∃(g:Nat) (ao:Option Addr) (c:Nat),g<=n/\a.defers=[]/\(a.tmps.size=33/\a.tmps.getD 1 undef=.slice d5 n pc/\a.tmps.getD 5 undef=.slice ao g c/\a.tmps.getD 8 undef=.slice d7 n d6/\a.tmps.getD 9 undef=.int .i64 n/\a.tmps.getD 10 undef=.int .i64 g)/\q.ownsRow w.heap.size 4 1 (.slice ao g c) g (Dh ss qs g)/\Ext w q)
  (fun a _=>((n:Int) - intOf (a.tmps.getD 10 undef)).toNat) ?_ ?_
 ·exact⟨0,none,0,by omega,rfl,⟨rfl,rfl,rfl,rfl,rfl,rfl⟩,World.ownsRow_nil _ _ _ _,Q1.refl _ _⟩
 rintro⟨i8,_⟩ q ⟨g,ao,c,k0,i4,⟨f8,b6,b8,b9,c0,b7⟩,f3,e4⟩;subst i4;obtain⟨a7,g1⟩:=Zd f8;obtain⟨f,rfl⟩:∃ t,t=a7:=⟨_,rfl⟩;have i6:i8=#[f 0,f 1,f 2,f 3,f 4,f 5,f 6,f 7,f 8,f 9,f 10,f 11,f 12,f 13,f 14,f 15,f 16,f 17,f 18,f 19,f 20,f 21,f 22,f 23,f 24,f 25,f 26,f 27,f 28,f 29,f 30,f 31,f 32]:=g1;clear g1;subst i6;change f 1=_ at b6;change f 5=_ at b8;change f 8=_ at b9;change f 9=_ at c0;change f 10=_ at b7;rw [b6,b8,b9,c0,b7];clear b6 b8 b9 c0 b7 f8;have U:=Zh f3;have u:=Zh e4;clear f3 e4;by_cases f1:g<n
 ·have i2:(g:Int)<(n:Int):=by omega
  have j9:(0:Int)<=(g:Int):=by omega
  have d0:g<qs.length:=by rw [g6.out];exact f1
  have d1:g<ss.length:=by rw [i0.out];exact f1
  obtain⟨p,N,j5,o,d3,⟨f,v,e7,i9,i7⟩,j0⟩:=Jr.at g7.out d0;replace o:=o zd;obtain⟨o,R⟩:=o;simp only [zV] at o;obtain⟨rfl,d4,rfl⟩:=o;clear d4;rw [e7] at d3;obtain⟨P,O,rfl,a6,j1⟩:=i7;have a1:=u.out.cell_some (d3 1 _ rfl) id;obtain⟨j8,k2,j6,o,a5,⟨C,B,A,e8,c8⟩,j2⟩:=Jr.at g9.out d1;replace o:=o zd;obtain⟨o,i5⟩:=o;simp only [zV] at o;obtain⟨rfl,d4,rfl⟩:=o;clear d4;rw [e8] at a5;have e3:=u.out.cell_some (a5 0 _ rfl) id;have b5:=u.out.cell_some (a5 1 _ rfl) id;rw [Nat.add_zero] at e3;have s:=Et ss qs g;have f0:ss.getD g (none,[])=ss[g]:=by rw [List.getD_eq_getElem?_getD,List.getElem?_eq_getElem d1];rfl
  have e9:qs.getD g (([],[]),[])=qs[g]:=by rw [List.getD_eq_getElem?_getD,List.getElem?_eq_getElem d0];rfl
  rw [f0,e9] at s;obtain⟨g2,f7⟩:=zE (ss[g].1);obtain⟨g3,g0⟩:=zE (qs[g].1.2);rw [f7] at s b5 c8;rw [g0] at s a6 a1;obtain⟨Q,f9⟩:=zE g3.length;rw [f9] at a1 a6;obtain⟨e0,g5,i1⟩:=Zh3 s c8 a6;have k1:IntKind.i64.wrap ((g:Int)+1)=(g:Int)+1:=IntWalk.i64_in _ oz;clear s c8 a6 f0 e9 f7 g0 f9 i9 j0 j1 j2 e7 e8 d3 a5 d0 d1;go_upto_region 5 with (fail)
  obtain⟨x,c5⟩:=zE g2.isNone;rw [c5] at b5 ⊢;have d8:=Zh c5;clear c5;obtain⟨b1,a4⟩:=zE (q.alloc (.cells #[.slice C B A,.bool x] 240));have c2:Ext q b1:=by rw [<-a4];exact(Q1.refl _ q).alloc _
  have c4:b1.heap[q.heap.size]?=some (.cells #[.slice C B A,.bool x] 240 (0,0)):=by rw [<-a4];exact Q3 rfl
  have e2:=c2.cell_some a1 id;rw [a4];obtain⟨J,c3⟩:=zE q.heap.size;rw [c3] at c4 ⊢;obtain⟨G,Y⟩:=zE b1.drew;have e5:Ext q G:=by rw [<-Y];exact c2.drew
  have k:G.heap[J]?=some (.cells #[.slice C B A,.bool x] 240 (0,0))/\G.cell? ⟨p,N+g*2+1,none⟩=some (.slice P Q O):=by rw [<-Y];exact⟨c4,e2⟩
  refine Z5 (S:=fun D=>D.heap[J]?=some (.cells #[.slice C B A,.bool x] 240 (0,0))/\D.cell? ⟨p,N+g*2+1,none⟩=some (.slice P Q O)) [] kz (by rw [Y];exact k) ?_;intro _;rw [Y];obtain⟨e1,a9,d9⟩:=Zh3 c3 e5 R;clear Y a4 c2 c4 a1 e2 e3 b5 c3 e5 R i5;refine tkE (i:=0) (d:=15) (v:=?_) rfl (Or.inl ⟨by rfl,?_⟩) k ?_;rotate_left
  ·intro w b;(try dsimp only at b);have l:=zR b.1;have m:=b.2;go_simp;try with_reducible rfl
  try simp only [Act.put,pq]
  cases g2 with
  | none=>
   obtain rfl:x=true:=d8.out.symm;refine tkE (i:=1) (d:=16) (v:=?_) rfl (Or.inl ⟨by rfl,?_⟩) k ?_;rotate_left
   ·intro w b;(try dsimp only at b);have l:=zR b.1;have m:=b.2;go_simp;try with_reducible rfl
   try simp only [Act.put,pq]
   refine tkE (i:=2) (d:=17) (v:=?_) rfl (Or.inl ⟨by rfl,?_⟩) k ?_;rotate_left
   ·intro w b;(try dsimp only at b);have l:=zR b.1;have m:=b.2;go_simp;try with_reducible rfl
   try simp only [Act.put,pq]
   refine tkE (i:=3) (d:=18) (v:=?_) rfl (Or.inl ⟨by rfl,?_⟩) k ?_;rotate_left
   ·intro w b;(try dsimp only at b);have l:=zR b.1;have m:=b.2;go_simp;try with_reducible rfl
   try simp only [Act.put,pq]
   refine tkE (i:=4) (d:=19) (v:=?_) rfl (Or.inl ⟨by rfl,?_⟩) k ?_;rotate_left
   ·intro w b;(try dsimp only at b);have l:=zR b.1;have m:=b.2;go_simp;try with_reducible rfl
   try simp only [Act.put,pq]
   refine tkE (i:=5) (d:=20) (v:=undef) rfl (Or.inr ⟨by rfl,rfl⟩) k ?_;try simp only [Act.put,pq]
   refine tkE (i:=6) (d:=21) (v:=undef) rfl (Or.inr ⟨by rfl,rfl⟩) k ?_;try simp only [Act.put,pq]
   refine tkE (i:=7) (d:=22) (v:=undef) rfl (Or.inr ⟨by rfl,rfl⟩) k ?_;try simp only [Act.put,pq]
   refine tkE (i:=8) (d:=23) (v:=undef) rfl (Or.inr ⟨by rfl,rfl⟩) k ?_;try simp only [Act.put,pq]
   refine tkE (i:=9) (d:=24) (v:=undef) rfl (Or.inr ⟨by rfl,rfl⟩) k ?_;try simp only [Act.put,pq]
   refine tkE (i:=10) (d:=25) (v:=undef) rfl (Or.inr ⟨by rfl,rfl⟩) k ?_;try simp only [Act.put,pq]
   refine tkE (i:=11) (d:=26) (v:=undef) rfl (Or.inr ⟨by rfl,rfl⟩) k ?_;try simp only [Act.put,pq]
   refine tkE (i:=12) (d:=27) (v:=undef) rfl (Or.inr ⟨by rfl,rfl⟩) k ?_;try simp only [Act.put,pq]
   refine tkE (i:=13) (d:=28) (v:=?_) rfl (Or.inl ⟨by rfl,?_⟩) k ?_;rotate_left
   ·intro w b;(try dsimp only at b);have l:=zR b.1;have m:=b.2;go_simp;try with_reducible rfl
   try simp only [Act.put,pq]
   refine rE [14] ?_;refine Q2.cons rfl (fun K hK=>?_) Q2.nil;refine iw rfl ?_;go_simp;obtain⟨z,r⟩:=zE (G.alloc (.cells #[.bool false] 4));have L:Ext q z:=by rw [<-r];exact a9.out.trans ((Q1.refl _ G).alloc _)
   have a0:z.heap[G.heap.size]?=some (.cells #[.bool false] 4 (0,0)):=by rw [<-r];exact Q3 rfl
   have M:z.heap[J]?=some (.cells #[.slice C B A,.bool true] 240 (0,0))/\z.cell? ⟨p,N+g*2+1,none⟩=some (.slice P Q O):=by rw [<-r];exact⟨Q6 k.1,((Q1.refl (fun _=>False) G).alloc _).cell_some k.2 id⟩
   rw [r];obtain⟨b2,Z⟩:=zE G.heap.size;rw [Z] at a0 ⊢;clear r Z;refine hK.out _ _ M (fun _=>?_);clear hK K;try simp only [Act.put,pq]
   refine rE [15] ?_;refine Q2.cons rfl (fun K hK=>?_) Q2.nil;refine iw rfl ?_;refine Y4 (.tmp 15) (.tmp 29) 158 rfl w.heap.size 4 _ 1 1 Tryz.underlying158 @Q0n rfl zd _ _ _ rfl (Qf U.out L) ⟨b2,0,none⟩ 1 1 [.bool false] rfl rfl (W3 (vs:=[.bool false]) a0) (by intro t s;simp at s;subst s;rfl) (by unfold maxLen;omega) oz (Nat.le_trans u.out.size L.size) ?_;intro b3 b4 I W E c1;have F:=fun p R=>U.out.lt p R;have X:I.heap[J]?=some (.cells #[.slice C B A,.bool true] 240 (0,0))/\I.cell? ⟨p,N+g*2+1,none⟩=some (.slice P Q O):=⟨E.heap M.1 (fun e=>by have:=F _ e;have:=e1.out;omega),E.cell_some M.2 (fun(e:Value.ownBlock _=some p)=>by have:=(F p e).1;have:=d9.out;omega)⟩;have V:Ext w I:=Q1.after (u.out.trans L) E (fun x e6 e=>by have:=(F _ e).1;omega);have b0:=Zh W;have a8:=Zh V;clear W V E c1 F;refine hK.out _ _ X (fun _=>?_);clear hK K;try simp only [Act.put,pq]
   refine tkE (i:=16) (d:=5) (v:=?_) rfl (Or.inl ⟨by rfl,?_⟩) X ?_;rotate_left
   ·intro w b;(try dsimp only at b);have l:=zR b.1;have m:=b.2;go_simp;try with_reducible rfl
   try simp only [Act.put]
   refine Qm kz ?_ _;go_wp2;exact⟨⟨g+1,b3,b4,by omega,tz,⟨rfl,rfl,rfl,rfl,rfl,rfl⟩,by rw [e0.out];exact b0.out,a8.out⟩,mz⟩
  | some a7=>
   obtain rfl:x=false:=d8.out.symm;obtain⟨j4,j7,o,c9,_⟩:=g5.out a7 rfl;simp only [zV] at o;obtain⟨rfl,c7,rfl⟩:=o;have j3:=Zh c7;rw [<-c7] at c9;have c6:=fun(D:World) (hD:Ext q D)=>eqW (c9.ext (u.out.trans hD)) (i1.out.ext (u.out.trans hD));obtain⟨T,d2⟩:=zE (decide (a7=g3));simp only [d2] at c6;have g4:=Zh c6;have g8:=Zh d2;clear c7 c9 c6 d2;refine tkE (i:=1) (d:=16) (v:=?_) rfl (Or.inl ⟨by rfl,?_⟩) k ?_;rotate_left
   ·intro w b;(try dsimp only at b);have l:=zR b.1;have m:=b.2;go_simp;try with_reducible rfl
   try simp only [Act.put,pq]
   refine tkE (i:=2) (d:=17) (v:=?_) rfl (Or.inl ⟨by rfl,?_⟩) k ?_;rotate_left
   ·intro w b;(try dsimp only at b);have l:=zR b.1;have m:=b.2;go_simp;try with_reducible rfl
   try simp only [Act.put,pq]
   refine tkE (i:=3) (d:=18) (v:=?_) rfl (Or.inl ⟨by rfl,?_⟩) k ?_;rotate_left
   ·intro w b;(try dsimp only at b);have l:=zR b.1;have m:=b.2;go_simp;try with_reducible rfl
   try simp only [Act.put,pq]
   refine tkE (i:=4) (d:=19) (v:=?_) rfl (Or.inl ⟨by rfl,?_⟩) k ?_;rotate_left
   ·intro w b;(try dsimp only at b);have l:=zR b.1;have m:=b.2;go_simp;try with_reducible rfl
   try simp only [Act.put,pq]
   refine tkE (i:=5) (d:=20) (v:=?_) rfl (Or.inl ⟨by rfl,?_⟩) k ?_;rotate_left
   ·intro w b;(try dsimp only at b);have l:=zR b.1;have m:=b.2;go_simp;try with_reducible rfl
   try simp only [Act.put,pq]
   refine tkE (i:=6) (d:=21) (v:=?_) rfl (Or.inl ⟨by rfl,?_⟩) k ?_;rotate_left
   ·intro w b;(try dsimp only at b);have l:=zR b.1;have m:=b.2;go_simp;try with_reducible rfl
   try simp only [Act.put,pq]
   refine tkE (i:=7) (d:=22) (v:=?_) rfl (Or.inl ⟨by rfl,?_⟩) k ?_;rotate_left
   ·intro w b;(try dsimp only at b);have l:=zR b.1;have m:=b.2;go_simp;try with_reducible rfl
   try simp only [Act.put,pq]
   refine tkE (i:=8) (d:=23) (v:=?_) rfl (Or.inl ⟨by rfl,?_⟩) k ?_;rotate_left
   ·intro w b;(try dsimp only at b);have l:=zR b.1;have m:=b.2;go_simp;try with_reducible rfl
   try simp only [Act.put,pq]
   refine tkE (i:=9) (d:=24) (v:=?_) rfl (Or.inl ⟨by rfl,?_⟩) k ?_;rotate_left
   ·intro w b;(try dsimp only at b);have l:=zR b.1;have m:=b.2;go_simp;try with_reducible rfl
   try simp only [Act.put,pq]
   refine tkE (i:=10) (d:=25) (v:=?_) rfl (Or.inl ⟨by rfl,?_⟩) k ?_;rotate_left
   ·intro w b;(try dsimp only at b);have l:=zR b.1;have m:=b.2;go_simp;try with_reducible rfl
   try simp only [Act.put,pq]
   refine tkE (i:=11) (d:=26) (v:=?_) rfl (Or.inl ⟨by rfl,?_⟩) k ?_;rotate_left
   ·intro w b;(try dsimp only at b);have l:=zR b.1;have m:=b.2;go_simp;try with_reducible rfl
   try simp only [Act.put,pq]
   refine rE [12] ?_;refine Q2.cons rfl (fun K hK=>?_) Q2.nil;refine iw rfl ?_;go_simp;refine(g4.out _ a9.out).mono ?_;rintro e H ⟨rfl,a2⟩;have a3:H.heap[J]?=some (.cells #[.slice C B A,.bool false] 240 (0,0))/\H.cell? ⟨p,N+g*2+1,none⟩=some (.slice P Q O):=⟨a2.keep k.1,a2.cell_some k.2 id⟩;have i3:=a9.out.trans a2;clear a2;refine hK.out _ _ a3 (fun _=>?_);clear hK K;try simp only [Act.put,pq]
   refine tkE (i:=13) (d:=28) (v:=?_) rfl (Or.inl ⟨by rfl,?_⟩) a3 ?_;rotate_left
   ·intro w b;(try dsimp only at b);have l:=zR b.1;have m:=b.2;go_simp;try with_reducible rfl
   try simp only [Act.put,pq]
   refine rE [14] ?_;refine Q2.cons rfl (fun K hK=>?_) Q2.nil;refine iw rfl ?_;go_simp;obtain⟨z,r⟩:=zE (H.alloc (.cells #[.bool T] 4));have L:Ext q z:=by rw [<-r];exact i3.trans ((Q1.refl _ H).alloc _)
   have a0:z.heap[H.heap.size]?=some (.cells #[.bool T] 4 (0,0)):=by rw [<-r];exact Q3 rfl
   have M:z.heap[J]?=some (.cells #[.slice C B A,.bool false] 240 (0,0))/\z.cell? ⟨p,N+g*2+1,none⟩=some (.slice P Q O):=by rw [<-r];exact⟨Q6 a3.1,((Q1.refl (fun _=>False) H).alloc _).cell_some a3.2 id⟩
   rw [r];obtain⟨b2,Z⟩:=zE H.heap.size;rw [Z] at a0 ⊢;clear r Z;refine hK.out _ _ M (fun _=>?_);clear hK K;try simp only [Act.put,pq]
   refine rE [15] ?_;refine Q2.cons rfl (fun K hK=>?_) Q2.nil;refine iw rfl ?_;refine Y4 (.tmp 15) (.tmp 29) 158 rfl w.heap.size 4 _ 1 1 Tryz.underlying158 @Q0n rfl zd _ _ _ rfl (Qf U.out L) ⟨b2,0,none⟩ 1 1 [.bool T] rfl rfl (W3 (vs:=[.bool T]) a0) (by intro t s;simp at s;subst s;rfl) (by unfold maxLen;omega) oz (Nat.le_trans u.out.size L.size) ?_;intro b3 b4 I W E c1;have F:=fun p R=>U.out.lt p R;have X:I.heap[J]?=some (.cells #[.slice C B A,.bool false] 240 (0,0))/\I.cell? ⟨p,N+g*2+1,none⟩=some (.slice P Q O):=⟨E.heap M.1 (fun e=>by have:=F _ e;have:=e1.out;omega),E.cell_some M.2 (fun(e:Value.ownBlock _=some p)=>by have:=(F p e).1;have:=d9.out;omega)⟩;have V:Ext w I:=Q1.after (u.out.trans L) E (fun x e6 e=>by have:=(F _ e).1;omega);have b0:=Zh W;have a8:=Zh V;clear W V E c1 F;refine hK.out _ _ X (fun _=>?_);clear hK K;try simp only [Act.put,pq]
   refine tkE (i:=16) (d:=5) (v:=?_) rfl (Or.inl ⟨by rfl,?_⟩) X ?_;rotate_left
   ·intro w b;(try dsimp only at b);have l:=zR b.1;have m:=b.2;go_simp;try with_reducible rfl
   try simp only [Act.put]
   refine Qm kz ?_ _;go_wp2;exact⟨⟨g+1,b3,b4,by omega,tz,⟨rfl,rfl,rfl,rfl,rfl,rfl⟩,by rw [e0.out];exact(by have:=b0.out;rw [<-g8.out] at this;exact this),a8.out⟩,mz⟩
 ·obtain rfl:g=n:=by omega
  have i2:¬ (g:Int)<(g:Int):=by omega
  go_wp2;go_ret;exact⟨ao,c,rfl,U.out,u.out⟩
def Jm(LD:List Q7)(ol:List Nat)(s:Option Wd):Option Wd:=ol.foldl (fun s x=>match LD[x]? with | some l=>Yd l s | none=>s) s
def Xk(LD:List Q7)(ol:List Nat)(qs:Qa):List Bool:=qs.map fun q=>xB (Jm LD ol (some q.1.1)) q.1.2
def Gx(W:World)(v:Value)(m:Nat)(T:List (Option Wd)):Prop:=∃ os,Y9 W v os/\os.length=m/\os.map (·.1)=T
theorem Gx.ext{A B:World}{v:Value}{m:Nat}{T:List (Option Wd)} (h:Gx A v m T) (d:Ext A B):Gx B v m T:=by
 obtain⟨e,a,b,c⟩:=h;exact⟨e,Mr a d,b,c⟩
theorem Q17{LD:List Q7}{ol:List Nat}{k:Nat}(a:k<ol.length){l:Q7}(b:LD[ol[k]]?=some l)(s:Option Wd):Jm LD (ol.take (k+1)) s=Yd l (Jm LD (ol.take k) s):=by
 unfold Jm;rw [List.take_succ_eq_append_getElem a,List.foldl_append];simp only [List.foldl_cons,List.foldl_nil,b]
theorem Ls{LD:List Q7}{ol:List Nat}{qs:Qa}{os:List (Option Wd × List Value)} {m:Nat} (e:qs.length=m) (h:os.map (·.1)=qs.map (fun q=>Jm LD ol (some q.1.1))):Dh os qs m=(Xk LD ol qs).map .bool:=by
 unfold Dh Xk;apply List.ext_getElem
 ·simp [e]
 ·intro a c g;have b:a<qs.length:=by simp at c;omega
  have i:os.length=qs.length:=by have:=congrArg List.length h;simpa using this
  have d:(os.getD a (none,[])).1=Jm LD ol (some qs[a].1.1):=by
   have:=congrArg (fun l=>l[a]?) h;simp only [List.getElem?_map,List.getElem?_eq_getElem b,List.getElem?_eq_getElem (show a<os.length by omega),Option.map_some,Option.some.injEq] at this;rw [List.getD_eq_getElem?_getD,List.getElem?_eq_getElem (show a<os.length by omega)];exact this
  have f:qs.getD a (([],[]),[])=qs[a]:=by rw [List.getD_eq_getElem?_getD,List.getElem?_eq_getElem b];rfl
  rw [List.getElem_map,List.getElem_range,List.getElem_map,List.getElem_map,d,f]
theorem Q31{w:World}{ps:Qy}{qs:Qa}{ol:List Nat}{lo:Option Addr}{n lc:Nat}{oo:Option Addr}{on oc:Nat}{T:Option Addr}{m pc:Nat}(H:Z9 w (.slice lo n lc) ps) (O:ps.length=n) (P:Rd w (.slice oo on oc) on 1 (Qi ol)) (c0:ol.length=on) (b5:∀ x∈ol,x<n) (I:Qu w (.slice T m pc) qs) (l:qs.length=m) (L:m<=1000) (a9:Tab w) :
  Calls Tryz.prog 86 #[.slice lo n lc,.slice oo on oc,.slice T m pc] w fun e w'=>∃ ao c,e=.returned (.slice ao m c)/\(∃ b,w.heap.size<=b/\w'.ownsRow b 4 1 (.slice ao m c) m ((Xk (ps.map (·.1)) ol qs).map .bool))/\Ext w w':=by
 have c2:=fun(V:World) (f:Ext w V)=>Px (Zc I f) l L;have b1:=fun(V A:World) (f:Ext w A) (v:Value) (b:Nat) (h:A.ownsRow b 240 2 v m (Vz qs))=>(show Gx A v m (qs.map fun q=>some q.1.1) from⟨Jy qs,Dl l h (fun q k=>((Zc I f).2 q k).2),by unfold Jy;rw [List.length_map,l],by unfold Jy;rw [List.map_map];rfl⟩);have b3:=fun(V:World) (f:Ext w V) (E:Option Addr) (D:Nat) (g:List (Option Wd × List Value)) (u:Y9 V (.slice E m D) g) (h2:g.length=m)=>Gq u h2 (Zc I f) l L;have b0:=fun(V:World) (f:Ext w V) (d:Nat) (b4:d<ps.length) (E:Option Addr) (D:Nat) (g:List (Option Wd × List Value)) (u:Y9 V (.slice E m D) g) (h2:g.length=m)=>Pq ((H.ext f).2 ps[d] (List.getElem_mem b4)) u h2 L (a9.keep f id) (fun _=>True) (fun _ _ _ _ _ _ _ _ _ _ _ _ _=>trivial);obtain⟨a2,W,d0,c6,d1,d4,d6,Z⟩:=Zh8 c2 b1 b3 b0 H O P c0;have d2:=Zh b5;have d3:=Zh l;have e5:on<=maxLen:=P.2.1;have e4:n<=maxLen:=by rw [<-O];exact H.1.2.1
 unfold maxLen at e5 e4;clear c2 b1 b3 b0 H O P c0 b5 I l a9;go_enter Tryz.func86,Tryz.ntmps86;go_wp2_with fail;refine(a2.out _ (Q1.refl _ _)).mono ?_;rintro e f2 ⟨E,D,rfl,a8,K⟩;have y:=W.out w f2 K _ _ a8;have r:=Zh y;have Y:=Zh K;clear y K a8 a2 W;go_wp2
 refine wp_loop (fun a t=>∃(d:Nat) (ao:Option Addr) (c:Nat),d<=on/\a.defers=[]/\gS a [0,2,7,12,13,14]=(28,[.slice lo n lc,.slice T m pc,.slice ao m c,.slice oo on oc,.int .i64 on,.int .i64 d])/\Gx t (.slice ao m c) m (qs.map fun q=>Jm (ps.map (·.1)) (ol.take d) (some q.1.1))/\Ext w t)
  (fun a _=>((on:Int) - intOf (a.tmps.getD 14 undef)).toNat) ?_ ?_
 ·exact⟨0,E,D,by omega,rfl,rfl,r.out,Y.out⟩
 clear r Y;rintro⟨g2,_⟩ t ⟨d,ao,c,b4,e0,c3,y,f⟩;subst e0;obtain⟨g3,rfl⟩:=Y6 c3;clear c3;have r:=Zh y;have j:=Zh f;clear y f;by_cases e2:d<on;case neg=>
  obtain rfl:d=on:=by omega
  have u:¬ (d:Int)<(d:Int):=by omega
  obtain⟨g,B,C,o⟩:=r.out;rw [List.take_of_length_le (by rw [Z.out];exact Nat.le_refl _)] at o;have i:=d0.out t j.out ao c g B C;rw [Ls d3.out o] at i;have a3:=Zh i;clear i B C o;go_wp2_with fail;refine a3.out.mono ?_;rintro e g4 ⟨G,F,rfl,a5,a7⟩;have c7:=Zh a5;have c9:=Zh (j.out.trans a7);clear a5 a7 a3;go_wp2;go_ret;exact⟨G,F,rfl,⟨_,j.out.size,c7.out⟩,c9.out⟩
 have u:(d:Int)<(on:Int):=by omega
 have f7:(0:Int)<=(d:Int):=by omega
 have N:d<ol.length:=by rw [Z.out];exact e2
 obtain⟨x,i⟩:=zE (ol[d]);have e6:x<n:=by rw [<-i];exact d2.out _ (List.getElem_mem N)
 have S:x<ps.length:=by rw [d4.out];exact e6
 obtain⟨f0,f1,f3,f5,k,c4⟩:=d6.out.ext j.out;simp only [zV,true_and] at k;obtain⟨rfl,rfl⟩:=k;obtain⟨f6,g1,rfl,_,c5⟩:=c4 oz;have a4:=c5 d oz;have b8:(Qi ol).getD d undef=.int .i64 (x:Int):=by rw [<-i];unfold Qi;rw [List.getD_eq_getElem?_getD,List.getElem?_map,List.getElem?_eq_getElem N];rfl
 rw [b8] at a4;obtain⟨d9,e8,f4,k,e1,Q,e3,J⟩:=(d1.out.ext j.out).at S;simp only [zV] at k;obtain⟨rfl,e7,rfl⟩:=k;obtain⟨g,B,C,o⟩:=r.out;have M:=c6.out t j.out x S ao c g B C;have b9:(fun q:(Wd × Wd) × List Value=>Jm (ps.map (·.1)) (ol.take (d+1)) (some q.1.1))=fun q=>Yd ps[x].1 (Jm (ps.map (·.1)) (ol.take d) (some q.1.1)):=by
  funext q
  exact Q17 N (by rw [i,List.getElem?_map,List.getElem?_eq_getElem S];rfl) _
 have c1:g.map (fun p=>Yd ps[x].1 p.1)=qs.map fun q=>Jm (ps.map (·.1)) (ol.take (d+1)) (some q.1.1):=by
  rw [b9,show (fun p:Option Wd × List Value=>Yd ps[x].1 p.1)=(fun s=>Yd ps[x].1 s) ∘ (fun p=>p.1) from rfl,<-List.map_map,o,List.map_map];rfl
 obtain⟨d8,b2⟩:=zE (ps[x].2);rw [b2] at Q J M;have f8:(0:Int)<=(x:Int):=by omega
 have f9:(x:Int)<(n:Int):=by omega
 have g0:IntKind.i64.wrap ((d:Int)+1)=(d:Int)+1:=IntWalk.i64_in _ oz;obtain⟨a1,U,X,a0⟩:=Zh4 Q J M c1;clear e7 b8 f0 f1 c4 c5 Q J e3 M c1 b9 b2 B C o i e1
 go_wp2_with (refine Kc (by rfl) 102 (.tmp 20) rfl d9 (e8+x*18) zr d8 _ a1.out Tryz.underlying102 rfl (by rw [U.out];kernel_rfl) ?_)
 refine X.out.mono ?_;rintro e d7 ⟨G,F,e9,rfl,R,b6,a6⟩;have b7:Gx d7 (.slice G m F) m (qs.map fun q=>Jm (ps.map (·.1)) (ol.take (d+1)) (some q.1.1)):=⟨e9,R.at,R.len,by rw [b6];exact a0.out⟩;have d5:=Zh b7;have c8:=Zh (j.out.trans a6);clear b7 R b6 a6 X a1 U a0 a4;go_wp2;exact⟨⟨d+1,G,F,by omega,tz,rfl,d5.out,c8.out⟩,mz⟩
end Go.Proofs.YtfdlhlghcbeblaaGreatDoor
