/- law.run (printed by genlrun.py). -/
import Derived.Test.YtedeckeahmkheaaGreatDoorK17
import Derived.Test.YtedeckeahmkheaaGreatDoorK19
import Derived.Test.YtedeckeahmkheaaGreatDoorK18
import Derived.Test.YtedeckeahmkheaaGreatDoorK20
set_option maxRecDepth 100000
set_option maxHeartbeats 16000000
namespace Go.Proofs.YtedeckeahmkheaaGreatDoor
open Go.RowKit Go.Ab
attribute [local go_sem] Oper.semAt_some Y3 Z8
theorem Pf{w:World}{l:Qa}{cs:List Value}{vo:Option Addr}{vn vc:Nat}(a8:Z3 w l cs) :
  Calls Tryz.prog 24 #[.agg cs.toArray,.slice vo vn vc] w fun e w'=>∃ Bk Bm,e=.returned (.func (.func 42) #[] #[.pointer (some ⟨w.heap.size+1,0,none⟩),.pointer (some ⟨w.heap.size,0,none⟩),.pointer (some ⟨Bk,0,none⟩),.pointer (some ⟨Bm,0,none⟩)]) /\
   LBx w' w.heap.size l cs/\Zp w' (w.heap.size+1) (.slice vo vn vc)/\w'.heap[Bk]?=some (.cells #[.int .i64 (l.ifs.length:Int)] 3 (0,0))/\w'.heap[Bm]?=some (.cells #[.int .i64 (l.outs.length:Int)] 3 (0,0))/\w.heap.size<=Bk/\w.heap.size<=Bm/\Ext w w':=by
 obtain⟨b6,a9,b9,b1,b4,a0,a2,b7,Y,a4,b0,c0,b2,b5,a1,a3,b8,Z,a5,H,p,G,J,j,I,b3,rfl,W,d1,d2,c5,d0,c9,c7,c8,c1,c2,c6,d3,d4,d5,d6,d7⟩:=Zo a8;rw [c1.out,c2.out];clear a8;go_enter Tryz.func24,Tryz.ntmps24;go_upto_region 1 with (fail)
 obtain⟨c,z⟩:=zE ((w.alloc (.cells #[.string b6,.int .i64 a9,.int .u32 (b9:Int),.int .u32 (b1:Int),.bool b4,.int .i64 a0,.int .i64 a2,.slice b7 Y a4,.int .i64 b0,.int .u32 (c0:Int),.int .u32 (b2:Int),.bool b5,.int .i64 a1,.int .i64 a3,.slice b8 Z a5,.slice H p G,.slice J j I,.int .i64 b3] 34)).alloc (.cells #[.slice vo vn vc] 32));have F:Ext w c:=by rw [<-z];exact((Q0.refl _ w).alloc _).alloc _
 have R:c.heap[w.heap.size]?=some (.cells #[.string b6,.int .i64 a9,.int .u32 (b9:Int),.int .u32 (b1:Int),.bool b4,.int .i64 a0,.int .i64 a2,.slice b7 Y a4,.int .i64 b0,.int .u32 (c0:Int),.int .u32 (b2:Int),.bool b5,.int .i64 a1,.int .i64 a3,.slice b8 Z a5,.slice H p G,.slice J j I,.int .i64 b3] 34 (0,0)):=by rw [<-z];exact Qb (Q5 rfl)
 have U:Zp c (w.heap.size+1) (.slice vo vn vc):=by rw [<-z];exact Q5 zy
 have T:c.heap.size=w.heap.size+2:=by rw [<-z];simp
 rw [z];clear z;obtain⟨a,Q⟩:=zE w.heap.size;rw [Q] at R U T ⊢;obtain⟨f,V,L,X⟩:=Zh4 T Q R U;have a7:∀(d:World),Q0 (fun b=>c.heap.size<=b) c d->d.cell? ⟨a,15,none⟩=some (.slice H p G)/\d.cell? ⟨a,16,none⟩=some (.slice J j I):=by
  intro d c3;have a6:=c3.heap L.out (by have:=f.out;omega);exact⟨cell_of_row _ _ 15 _ _ _ a6,cell_of_row _ _ 16 _ _ _ a6⟩
 have q:=Zh a7;clear a7 R U T Q;refine Qz (S:=fun d=>d.cell? ⟨a,15,none⟩=some (.slice H p G)/\d.cell? ⟨a,16,none⟩=some (.slice J j I)) [] kz (q.out _ (Q0.drew (Q0.refl _ c))) ?_;intro y;refine tE 0 7 y ?_;refine tE 1 8 y ?_;refine tE 2 9 y ?_;refine tE 3 10 y ?_;refine tE 4 11 y ?_;refine tE 5 12 y ?_;refine rE [6,7] ?_;refine Q2.cons rfl (fun K hK=>?_) (Q2.cons rfl (fun K hK=>?_) Q2.nil)
 ·refine iw rfl ?_;go_simp;have t:Ext c ((c.drew).alloc (.cells #[.int .i64 0] 3)):=Q0.alloc (Q0.drew (Q0.refl _ c)) _;refine hK.out _ _ (q.out _ (Ext.of t)) (fun hS2=>?_);clear hK K;try simp only [Act.put,pq]
  refine rE [7] ?_;refine Q2.cons rfl (fun K hK=>?_) Q2.nil;refine iw rfl ?_;go_simp;have A:Ext c ((c.drew.alloc (.cells #[.int .i64 0] 3)).alloc (.cells #[.int .i64 0] 3)):=Q0.alloc (t) _;refine hK.out _ _ (q.out _ (Ext.of A)) (fun hS3=>?_);clear hK K;try simp only [Act.put,pq]
  rw [f.out,show a+2+1=a+3 from rfl];obtain⟨g,n⟩:=zE (((c.alloc (.cells #[.int .i64 0] 3)).alloc (.cells #[.int .i64 0] 3)).drew);have r:Ext c g:=by rw [<-n];exact(((Q0.refl _ c).alloc _).alloc _).drew
  have v:g.heap[a+2]?=some (.cells #[.int .i64 0] 3 (0,0)):=by rw [<-n];exact Yn (Qb (Q5 f.out.symm))
  have x:g.heap[a+3]?=some (.cells #[.int .i64 0] 3 (0,0)):=by rw [<-n];exact Yn (Q5 (by simp [f.out]))
  rw [n];clear n hS2 hS3 t A;refine rE [8] ?_;refine Q2.cons rfl (fun K hK=>?_) Q2.nil;refine iw rfl ?_;have M:=cell_of_one v;have O:=free_of_one v;go_simp;have i:Q0 (fun b=>b=a+2) g (g.setCell ⟨a+2,0,none⟩ (.int .i64 (p:Int))):=Q0.set1 g (a+2) 0 _;have m:=i.heap x oz;have u:=Y1 (.int .i64 (p:Int)) v;refine hK.out _ _ (q.out _ ((Ext.of r).trans (i.mono (fun b hb e=>by have:=f.out;omega)))) (fun hS4=>?_);clear hK K M O
  (try change Qg _ _ _ _ _ _ _ _ (Act.put _ none _) _)
  (try simp only [Act.put])
  obtain⟨o,D⟩:=zE (g.setCell ⟨a+2,0,none⟩ (.int .i64 (p:Int)));rw [D] at i m u hS4 ⊢;clear D;refine rE [9] ?_;refine Q2.cons rfl (fun K hK=>?_) Q2.nil;refine iw rfl ?_;have N:=cell_of_one m;have P:=free_of_one m;go_simp;have s:Q0 (fun b=>b=a+3) o (o.setCell ⟨a+3,0,none⟩ (.int .i64 (j:Int))):=Q0.set1 o (a+3) 0 _;have B:=s.heap u oz;have C:=Y1 (.int .i64 (j:Int)) m;refine hK.out _ _ (q.out _ (((Ext.of r).trans (i.mono (fun b hb e=>by have:=f.out;omega))).trans (s.mono (fun b hb e=>by have:=f.out;omega)))) (fun _=>?_);clear hK K N P
  (try change Qg _ _ _ _ _ _ _ _ (Act.put _ none _) _)
  (try simp only [Act.put])
  refine Qn kz ?_ _;have k:Ext c (o.setCell ⟨a+3,0,none⟩ (.int .i64 (j:Int))):=Q0.after (Q0.after r i (fun b hb e=>by have:=f.out;omega)) s (fun b hb e=>by have:=f.out;omega);obtain⟨c4,E⟩:=zE (o.setCell ⟨a+3,0,none⟩ (.int .i64 (j:Int)));rw [E] at B C k ⊢;clear E i s m u hS4 r v x;go_wp2;go_ret;refine⟨a+2,a+3,?_⟩;rw [V.out];exact⟨rfl,⟨k.keep L.out,W.out.ext (F.trans k)⟩,k.keep X.out,B,C,by omega,by omega,F.trans k⟩
 ·refine iw rfl ?_;go_simp;have t:Ext c ((c.drew).alloc (.cells #[.int .i64 0] 3)):=Q0.alloc (Q0.drew (Q0.refl _ c)) _;refine hK.out _ _ (q.out _ (Ext.of t)) (fun hS2=>?_);clear hK K;try simp only [Act.put,pq]
  refine rE [6] ?_;refine Q2.cons rfl (fun K hK=>?_) Q2.nil;refine iw rfl ?_;go_simp;have A:Ext c ((c.drew.alloc (.cells #[.int .i64 0] 3)).alloc (.cells #[.int .i64 0] 3)):=Q0.alloc (t) _;refine hK.out _ _ (q.out _ (Ext.of A)) (fun hS3=>?_);clear hK K;try simp only [Act.put,pq]
  rw [f.out,show a+2+1=a+3 from rfl];obtain⟨g,n⟩:=zE (((c.alloc (.cells #[.int .i64 0] 3)).alloc (.cells #[.int .i64 0] 3)).drew);have r:Ext c g:=by rw [<-n];exact(((Q0.refl _ c).alloc _).alloc _).drew
  have v:g.heap[a+2]?=some (.cells #[.int .i64 0] 3 (0,0)):=by rw [<-n];exact Yn (Qb (Q5 f.out.symm))
  have x:g.heap[a+3]?=some (.cells #[.int .i64 0] 3 (0,0)):=by rw [<-n];exact Yn (Q5 (by simp [f.out]))
  rw [n];clear n hS2 hS3 t A;refine rE [8] ?_;refine Q2.cons rfl (fun K hK=>?_) Q2.nil;refine iw rfl ?_;have M:=cell_of_one x;have O:=free_of_one x;go_simp;have i:Q0 (fun b=>b=a+3) g (g.setCell ⟨a+3,0,none⟩ (.int .i64 (p:Int))):=Q0.set1 g (a+3) 0 _;have m:=i.heap v oz;have u:=Y1 (.int .i64 (p:Int)) x;refine hK.out _ _ (q.out _ ((Ext.of r).trans (i.mono (fun b hb e=>by have:=f.out;omega)))) (fun hS4=>?_);clear hK K M O
  (try change Qg _ _ _ _ _ _ _ _ (Act.put _ none _) _)
  (try simp only [Act.put])
  obtain⟨o,D⟩:=zE (g.setCell ⟨a+3,0,none⟩ (.int .i64 (p:Int)));rw [D] at i m u hS4 ⊢;clear D;refine rE [9] ?_;refine Q2.cons rfl (fun K hK=>?_) Q2.nil;refine iw rfl ?_;have N:=cell_of_one m;have P:=free_of_one m;go_simp;have s:Q0 (fun b=>b=a+2) o (o.setCell ⟨a+2,0,none⟩ (.int .i64 (j:Int))):=Q0.set1 o (a+2) 0 _;have B:=s.heap u oz;have C:=Y1 (.int .i64 (j:Int)) m;refine hK.out _ _ (q.out _ (((Ext.of r).trans (i.mono (fun b hb e=>by have:=f.out;omega))).trans (s.mono (fun b hb e=>by have:=f.out;omega)))) (fun _=>?_);clear hK K N P
  (try change Qg _ _ _ _ _ _ _ _ (Act.put _ none _) _)
  (try simp only [Act.put])
  refine Qn kz ?_ _;have k:Ext c (o.setCell ⟨a+2,0,none⟩ (.int .i64 (j:Int))):=Q0.after (Q0.after r i (fun b hb e=>by have:=f.out;omega)) s (fun b hb e=>by have:=f.out;omega);obtain⟨c4,E⟩:=zE (o.setCell ⟨a+2,0,none⟩ (.int .i64 (j:Int)));rw [E] at B C k ⊢;clear E i s m u hS4 r v x;go_wp2;go_ret;refine⟨a+3,a+2,?_⟩;rw [V.out];exact⟨rfl,⟨k.keep L.out,W.out.ext (F.trans k)⟩,k.keep X.out,B,C,by omega,by omega,F.trans k⟩
theorem P1{w:World}{BW BL i j:Nat}{l:Qa}{cs:List Value}{vo:Option Addr}{vc:Nat}{ws:Wd}{K:Nat->Prop}(a:J1 l=true)(g:ws.length<=32)(d:ws.length<=vc)(e:Z6 K (.slice vo ws.length vc))
  (c:∀ b,K b->b<w.heap.size) (f:∀ W,Q0 (fun b=>¬ K b) w W->W5 W BW BL i j l cs vo vc ws) :
  ∃ m,Ui Tryz.prog 42 #[.pointer (some ⟨BW,0,none⟩),.pointer (some ⟨BL,0,none⟩),.pointer (some ⟨i,0,none⟩),.pointer (some ⟨j,0,none⟩)] (Zn m) (Db m) (Qt l ws) K w:=by
 obtain⟨_,_,_,⟨o,p⟩,_⟩:=Y6 a;by_cases k:l.mode=1
 ·exact⟨9,Rq a k g d e c f⟩
 by_cases n:l.mode=2
 ·exact⟨2,Mp a n g d e c f⟩
 ·exact⟨2,Pi a oz g d e c f⟩
section
variable {α:Type} {H:List α->Nat->Bool} {P:List α->List α} {k m:Nat}
theorem Ue(w:List α):∀(n i:Nat) (d:List α),(Jd H P k w n i d).length<=n
 | 0,_,_=>by simp [Jd]
 | n+1,i,d=>by
  unfold Jd
  split
  ·rw [List.length_cons];split
   ·have:=Ue w n (i+1) (d++P ((w.drop i).take k)++(w.drop i).take 1);omega
   ·have:=Ue w n (i+k) (d++P ((w.drop i).take k));omega
  ·have:=Ue w n (i+1) (d++(w.drop i).take 1);omega
theorem Uq:∀(n:Nat) (w:List α) (i:Nat),(Xi H P k m n w i).length<=n
 | 0,_,_=>by simp [Xi]
 | n+1,w,i=>by
  unfold Xi
  split
  ·simp
  ·split
   ·rw [List.length_cons];have:=Uq n (Jl P k w i) (i+m+(if k=0 then 1 else 0));omega
   ·have:=Uq n w (i+1);omega
theorem Vg:∀(n:Nat) (w:List α) (i:Nat),(Xx H P k n w i).length<=n
 | 0,_,_=>by simp [Xx]
 | n+1,_,0=>by simp [Xx]
 | n+1,w,i+1=>by
  unfold Xx
  split
  ·rw [List.length_cons];have:=Vg n (Jl P k w i) (i+1 - max k 1);omega
  ·have:=Vg n w i;omega
end
theorem Wu(l:Qa)(ws:Wd):(Qt l ws).length<=ws.length+1:=by
 unfold Qt
 split
 ·exact Ue _ _ _ _
 ·split
  ·exact Uq _ _ _
  ·exact Vg _ _ _
def Zc(w:World)(v:Value)(u:Wd):Prop:=∃ ao c,v=.slice ao u.length c/\Q7 w (.slice ao u.length c) u/\u.length<=c
def Z9(w:World):List Value->List Wd->Prop
 | [],[]=>True
 | v::vs,u::us=>Zc w v u/\Z9 w vs us
 | _,_=>False
theorem Zc.ext{A B:World}{v:Value}{u:Wd}(h:Zc A v u)(f:Ext A B):Zc B v u:=by
 obtain⟨a,b,c,d,e⟩:=h;exact⟨a,b,c,d.ext f,e⟩
theorem Z9.ext{A B:World}:∀ {vs:List Value} {us:List Wd},Z9 A vs us->Ext A B->Z9 B vs us
 | [],[],_,_=>trivial
 | _::_,_::_,⟨h1,h2⟩,ht=>⟨h1.ext ht,h2.ext ht⟩
theorem Z9.snoc{w:World}{v:Value}{u:Wd}:∀ {vs:List Value} {us:List Wd},Z9 w vs us->Zc w v u->Z9 w (vs++[v]) (us++[u])
 | [],[],_,h=>⟨h,trivial⟩
 | _::_,_::_,⟨h1,h2⟩,h=>⟨h1,h2.snoc h⟩
theorem Z9.length{w:World}:∀ {vs:List Value} {us:List Wd},Z9 w vs us->vs.length=us.length
 | [],[],_=>rfl
 | _::_,_::_,⟨_,h2⟩=>by simp [h2.length]
theorem Z9.get{w:World}:∀ {vs:List Value} {us:List Wd},Z9 w vs us->∀ i,i<us.length->Zc w (vs.getD i undef) (us.getD i [])
 | [],[],_,i,h=>by simp at h
 | _::_,_::_,⟨h1,_⟩,0,_=>h1
 | _::_,_::_,⟨_,h2⟩,i+1,h=>h2.get i (by simpa using h)
theorem Gt{A:World}{p:Addr}{v:Value}(h:A.cell? p=some v):∃ o,A.heap[p.block]?=some o/\o.isCells=true:=by
 unfold World.cell? at h
 split at h
 ·exact⟨_,by assumption,rfl⟩
 ·cases h
theorem Me{base:Nat}{A B:World}(c:Q0 (Go.Ab.Shut base A) A B) {p:Addr} {v:Value} (h:A.cell? p=some v):B.cell? p=some v:=by
 obtain⟨d,a,b⟩:=Gt h;exact c.cell_some h (Go.Ab.Shut.not a b)
theorem Rd.shut{base:Nat}{A B:World}(a:Q0 (Go.Ab.Shut base A) A B) {v:Value} {n sz:Nat} {xs:List Value} (h:Rd A v n sz xs):Rd B v n sz xs:=by
 obtain⟨e,f,b,c,m,g⟩:=h;refine⟨e,f,b,c,m,fun hn=>?_⟩;obtain⟨d,o,i,l,k⟩:=g hn;exact⟨d,o,i,Nat.lt_of_lt_of_le l a.size,fun j hj=>Me a (k j hj)⟩
theorem Rd.nocells{r:Nat}{A B:World}(d:Q0 (fun b=>b=r) A B) (t:∃ o,A.heap[r]?=some o/\o.isCells=false) {v:Value} {n sz:Nat} {xs:List Value} (h:Rd A v n sz xs):Rd B v n sz xs:=by
 obtain⟨l,m,g,i,u,p⟩:=h;refine⟨l,m,g,i,u,fun hn=>?_⟩;obtain⟨k,w,q,s,c⟩:=p hn;refine⟨k,w,q,Nat.lt_of_lt_of_le s d.size,fun j hj=>d.cell_some (c j hj) (fun e=>?_)⟩;obtain⟨o,a,f⟩:=Gt (c j hj);obtain⟨z,x,y⟩:=t;simp only at e a;rw [e,x] at a;cases a;rw [y] at f;cases f
theorem Jm{base0:Nat}{A B:World}{base:Nat}{e:TypeId}{sz:Nat}{v:Value}{n:Nat}{xs:List Value}(h:A.ownsRow base e sz v n xs)(ht:Q0 (Go.Ab.Shut base0 A) A B):B.ownsRow base e sz v n xs:=
 Pm h ht fun _ _ hg ho=>Go.Ab.Shut.not hg ho
theorem Gz{W:World}{f i:Nat}{b c:TypeId}{s1 s2 o p:Nat}{d e:Value}{r s:List Value}(j:W.ownsRow f b s1 d o r)(k:W.ownsRow i c s2 e p s)(l:b≠c):∀ g,d.ownBlock=some g->e.ownBlock≠some g:=by
 intro g m n;obtain⟨t,q⟩:=Xf j m;obtain⟨u,a⟩:=Xf k n;rw [q] at a;simp only [Option.some.injEq,Obj.cells.injEq] at a;exact l a.2.1
theorem Xn{W:World}{g:Nat}{v:Value}{t:TypeId}(h:W.heap[g]?=some (.cells #[v] t (0,0))):∀ j u,[v][j]?=some u->W.cell? ((⟨g,0,none⟩:Addr).add j)=some u:=by
 intro j u a
 match j,a with
 | 0,a=>
  simp at a;subst a;exact cell_of_one h
theorem Zc.keepS{S:Nat->Prop}{A B:World}{v:Value}{u:Wd}(h:Zc A v u)(g:Q0 (fun b=>¬ S b) A B) (f:Z6 S v):Zc B v u:=by
 obtain⟨a,c,rfl,d,e⟩:=h;exact⟨a,c,rfl,Vn d g f,e⟩
theorem Zc.shut{base:Nat}{A B:World}(e:Q0 (Go.Ab.Shut base A) A B) {v:Value} {u:Wd} (h:Zc A v u):Zc B v u:=by
 obtain⟨b,c,rfl,a,d⟩:=h;exact⟨b,c,rfl,⟨Rd.shut e a.1,a.2⟩,d⟩
theorem Z9.keepS{S:Nat->Prop}{A B:World}(ht:Q0 (fun b=>¬ S b) A B):∀ {vs:List Value} {us:List Wd},Z9 A vs us->(∀ x∈vs,Z6 S x)->Z9 B vs us
 | [],[],_,_=>trivial
 | _::_,_::_,⟨h1,h2⟩,hS=>⟨h1.keepS ht (hS _ zy),h2.keepS ht (fun x hx=>hS x (by simp [hx]))⟩
theorem Z9.shut{base:Nat}{A B:World}(ht:Q0 (Go.Ab.Shut base A) A B):∀ {vs:List Value} {us:List Wd},Z9 A vs us->Z9 B vs us
 | [],[],_=>trivial
 | _::_,_::_,⟨h1,h2⟩=>⟨h1.shut ht,h2.shut ht⟩
theorem Z6.mono{S T:Nat->Prop}{v:Value}(h:Z6 S v)(hst:∀ b,S b->T b):Z6 T v:=fun g o n c e h0=>hst _ (h g o n c e h0)
def Xp(b:Nat)(W:World)(u v:Value)(t:List (Nat × Wd)):Prop:=
 W.ownsRow b 3 1 u t.length (Yt (t.map (·.1)))/\∃ vals,W.ownsRow b 32 1 v t.length vals/\Z9 W vals (t.map (·.2))
theorem Xp.nil(b:Nat)(W:World):Xp b W (.slice none 0 0) (.slice none 0 0) []:=⟨World.ownsRow_nil _ _ _ _,[],World.ownsRow_nil _ _ _ _,trivial⟩
theorem Xp.ext{b:Nat}{A B:World}{u v:Value}{t:List (Nat × Wd)} (h:Xp b A u v t) (a:Ext A B):Xp b B u v t:=by
 obtain⟨c,f,d,e⟩:=h;exact⟨Ql c a,f,Ql d a,e.ext a⟩
theorem Xp.base{b b':Nat}{A:World}{u v:Value}{t:List (Nat × Wd)} (h:Xp b A u v t) (a:b'<=b):Xp b' A u v t:=by
 obtain⟨c,f,d,e⟩:=h;exact⟨X4 c a,f,X4 d a,e⟩
theorem Xp.slices{b:Nat}{A:World}{u v:Value}{t:List (Nat × Wd)} (h:Xp b A u v t):∃ uo uc vo vc,u=.slice uo t.length uc/\v=.slice vo t.length vc/\t.length<=maxLen:=by
 obtain⟨a,f,c,e⟩:=h;obtain⟨_,_,uo,uc,rfl,_⟩:=Rd.of_own a;obtain⟨_,d,vo,vc,rfl,_⟩:=Rd.of_own c;exact⟨uo,uc,vo,vc,rfl,rfl,d⟩
theorem Xp.at{b:Nat}{A:World}{u j:Value}{t:List (Nat × Wd)} (h:Xp b A u j t) {i:Nat} (e:i<t.length) :
  ∃ g cap ao c,j=.slice (some ⟨g,0,none⟩) t.length cap/\A.cell? ⟨g,i,none⟩=some (.slice ao t[i].2.length c)/\Q7 A (.slice ao t[i].2.length c) t[i].2/\t[i].2.length<=c:=by
 obtain⟨_,w,d,k⟩:=h;obtain⟨s,v,ao,cap,rfl,o⟩:=Rd.of_own d;obtain⟨g,rfl⟩:=J0 d oz;obtain⟨q,r,f,_,p⟩:=o oz;simp only [Option.some.injEq,Addr.mk.injEq] at f;obtain⟨rfl,rfl,_⟩:=f;have a:=k.get i (by simpa using e);have m:(t.map (·.2)).getD i []=t[i].2:=by rw [List.getD_eq_getElem?_getD,List.getElem?_map,List.getElem?_eq_getElem e];rfl
 rw [m] at a;obtain⟨ao,c,n,a,l⟩:=a;have:=p i oz;rw [Nat.zero_add,n] at this;exact⟨g,cap,ao,c,rfl,this,a,l⟩
structure TrI (w:World) (B P D m:Nat) (O:Nat->Prop) (pre:List (Nat × Wd)) (V:World) (u v:Value) (vals:List Value):Prop where
 ru:V.heap[B+1]?=some (.cells #[.slice none 0 0] 45 (0,0))
 rv:V.heap[B+2]?=some (.cells #[.slice none 0 0] 46 (0,0))
 re:V.heap[B+3]?=some (.cells #[.int .i64 0] 35 (0,0))
 bu:V.heap[P]?=some (.cells #[u] 45 (0,0))
 bv:V.heap[P+1]?=some (.cells #[v] 46 (0,0))
 ou:V.ownsRow (D+2) 3 1 u pre.length (Yt (pre.map (·.1)))
 ov:V.ownsRow (D+2) 32 1 v pre.length vals
 wd:Z9 V vals (pre.map (·.2))
 ub:∀ g,u.ownBlock=some g->¬ O g
 vb:∀ g,v.ownBlock=some g->¬ O g
 wk:∀ x∈vals,Z6 (fun g=>D+2+m<=g/\g<V.heap.size/\u.ownBlock≠some g/\v.ownBlock≠some g) x
 ext:Ext w V
 short:Ug pre=false
section
variable {w:World} {B P D m:Nat} {O:Nat->Prop} {pre:List (Nat × Wd)} {V:World} {u v:Value} {vals:List Value}
theorem TrI.turn(h:TrI w B P D m O pre V u v vals){O':Nat->Prop}{W:World}(k:w.heap.size=B)(l:B+4<=P)(n:P+2<=D)(j:∀ b,O b->D+2<=b/\b<V.heap.size)
  (c:Q0 (fun b=>(O b/\Zn m (D+2) b)\/b=D+1) V W) (f:∀ b,O' b->(O b\/V.heap.size<=b)/\b<W.heap.size):TrI w B P D m O' pre W u v vals:=by
 have d:∀ b,b<D->¬ ((O b/\Zn m (D+2) b)\/b=D+1):=fun b hb hn=>by
  rcases hn with a | a
  ·have:=(j b a.1).1;omega
  ·omega
 have i:∀ {x:Value},(∀ g,x.ownBlock=some g->¬ O g)->(∀ g,x.ownBlock=some g->D+2<=g)->∀ g,x.ownBlock=some g->¬ ((O g/\Zn m (D+2) g)\/g=D+1):=fun a h2 g hg hn=>by
  rcases hn with e | e
  ·exact a g hg e.1
  ·have:=h2 g hg;omega
 refine⟨c.heap h.ru (d _ oz),c.heap h.rv (d _ oz),c.heap h.re (d _ oz),c.heap h.bu (d _ oz),c.heap h.bv (d _ oz),Qm h.ou c (i h.ub (fun g hg=>(h.ou.lt g hg).1)),Qm h.ov c (i h.vb (fun g hg=>(h.ov.lt g hg).1)),?_,fun g hg hg2=>?_,fun g hg hg2=>?_,fun x hx=>(h.wk x hx).mono fun b hb=>⟨hb.1,Nat.lt_of_lt_of_le hb.2.1 c.size,hb.2.2⟩,h.ext.after c (fun b hb hn=>d b oz hn),h.short⟩
 ·refine h.wd.keepS (S:=fun g=>D+2+m<=g) (c.mono fun b _ hb hn=>?_) (fun x hx=>(h.wk x hx).mono fun b hb=>hb.1);rcases hb with a | a
  ·have:=a.2;unfold Zn at this;omega
  ·omega
 ·rcases(f g hg2).1 with a | a
  ·exact h.ub g hg a
  ·have:=(h.ou.lt g hg).2;omega
 ·rcases(f g hg2).1 with a | a
  ·exact h.vb g hg a
  ·have:=(h.ov.lt g hg).2;omega
theorem TrI.push(h:TrI w B P D m O pre V u v vals)(a1:w.heap.size=B)(a2:B+4<=P)(a3:P+2<=D)(A:∀ b,O b->D+2<=b/\b<V.heap.size)(_hDV:D+2<=V.heap.size)
  {x:Nat × Wd} {ao:Option Addr} {c:Nat} (X:Q7 V (.slice ao x.2.length c) x.2) (N:x.2.length<=c) (Q:Z6 (fun g=>O g/\D+2+m<=g/\g<V.heap.size) (.slice ao x.2.length c)) (a0:x.2.length<=32)
  {W:World} {u' v':Value} (t:W.ownsRow (D+2) 3 1 u' (pre.length+1) (Yt (pre.map (·.1))++[.int .i64 (x.1:Int)])) (z:W.ownsRow (D+2) 32 1 v' (pre.length+1) (vals++[.slice ao x.2.length c]))
  (j:Q0 (fun b=>u.ownBlock=some b\/v.ownBlock=some b) V W) (C:u'.ownBlock=u.ownBlock\/∃ k,V.heap.size<=k/\u'.ownBlock=some k) (E:v'.ownBlock=v.ownBlock\/∃ k,V.heap.size<=k/\v'.ownBlock=some k) :
  (∃ u v vals,TrI w B P D m O (pre++[x]) ((W.setCell ⟨P,0,none⟩ u').setCell ⟨P+1,0,none⟩ v') u v vals)/\Q0 (fun b=>¬ ((b<D/\b≠P/\b≠P+1/\b≠B+1/\b≠B+2/\b≠B+3)\/O b\/b=D\/b=D+1)) V ((W.setCell ⟨P,0,none⟩ u').setCell ⟨P+1,0,none⟩ v'):=by
 obtain⟨o,q⟩:=zE ((W.setCell ⟨P,0,none⟩ u').setCell ⟨P+1,0,none⟩ v');have i:Q0 (fun b=>b=P\/b=P+1) W o:=by rw [<-q];exact((Q0.set1 W P 0 u').mono fun b _ a=>.inl a).trans ((Q0.set1 _ (P+1) 0 v').mono fun b _ a=>.inr a)
 have s:∀ b,(u.ownBlock=some b\/v.ownBlock=some b)->D+2<=b/\¬ O b/\b<V.heap.size:=fun b d=>by
  rcases d with d | d
  ·exact⟨(h.ou.lt b d).1,h.ub b d,(h.ou.lt b d).2⟩
  ·exact⟨(h.ov.lt b d).1,h.vb b d,(h.ov.lt b d).2⟩
 have n:∀ b,b<D->¬ (u.ownBlock=some b\/v.ownBlock=some b):=fun b d e=>by have:=(s b e).1;omega
 have I:=j.heap h.bu (n _ oz);have K:=j.heap h.bv (n _ oz);have J:o.heap[P]?=some (.cells #[u'] 45 (0,0)):=by
  rw [<-q];exact(Q0.set1 _ (P+1) 0 v').heap (Y1 u' I) oz
 have L:o.heap[P+1]?=some (.cells #[v'] 46 (0,0)):=by
  rw [<-q];exact Y1 v' ((Q0.set1 W P 0 u').heap K oz)
 have T:∀ g,u'.ownBlock=some g->D+2<=g:=fun g hg=>(t.lt g hg).1;have U:∀ g,v'.ownBlock=some g->D+2<=g:=fun g hg=>(z.lt g hg).1
 have G:∀ {y y':Value},(∀ g,y.ownBlock=some g->¬ O g)->(y'.ownBlock=y.ownBlock\/∃ k,V.heap.size<=k/\y'.ownBlock=some k)->∀ g,y'.ownBlock=some g->¬ O g:=fun h1 p g hg ho=>by
  rcases p with p | ⟨k,p,l⟩
  ·exact h1 g (p ▸ hg) ho
  ·rw [l] at hg;cases hg;have:=(A _ ho).2;omega
 have H:∀ {y y':Value} (g:Nat),y.ownBlock≠some g->g<V.heap.size->(y'.ownBlock=y.ownBlock\/∃ k,V.heap.size<=k/\y'.ownBlock=some k)->y'.ownBlock≠some g:=fun g h1 p l=>by
  rcases l with l | ⟨k,l,M⟩
  ·rw [l];exact h1
  ·rw [M];intro a;cases a;omega
 have R:=Nat.le_trans j.size i.size;have r:Q0 (fun b=>(u.ownBlock=some b\/v.ownBlock=some b)\/(b=P\/b=P+1)) V o:=(j.mono fun b _ a=>.inl a).trans (i.mono fun b _ a=>.inr a);have Y:Z6 (fun g=>D+2+m<=g/\g<V.heap.size/\u.ownBlock≠some g/\v.ownBlock≠some g) (.slice ao x.2.length c):=Q.mono fun b d=>⟨d.2.1,d.2.2,fun a=>h.ub b a d.1,fun a=>h.vb b a d.1⟩
 have F:∀ y∈vals++[.slice ao x.2.length c],Z6 (fun g=>D+2+m<=g/\g<V.heap.size/\u.ownBlock≠some g/\v.ownBlock≠some g) y:=fun y f=>by
  rcases List.mem_append.1 f with f | f
  ·exact h.wk y f
  ·simp only [List.mem_singleton] at f;subst f;exact Y
 rw [q];refine⟨⟨u',v',vals++[.slice ao x.2.length c],⟨?_,?_,?_,J,L,?_,?_,?_,G h.ub C,G h.vb E,fun y f=>(F y f).mono fun b d=>⟨d.1,Nat.lt_of_lt_of_le d.2.1 R,H b d.2.2.1 d.2.1 C,H b d.2.2.2 d.2.1 E⟩,?_,?_⟩⟩,r.mono fun b d a e=>?_⟩
 ·exact i.heap (j.heap h.ru (n _ oz)) oz
 ·exact i.heap (j.heap h.rv (n _ oz)) oz
 ·exact i.heap (j.heap h.re (n _ oz)) oz
 ·rw [List.length_append,List.map_append];show o.ownsRow _ _ _ _ _ (Yt (pre.map (·.1)++[x.1]));rw [Jy];exact Qm t i (fun g hg a=>by have:=T g hg;omega)
 ·rw [List.length_append];exact Qm z i (fun g hg a=>by have:=U g hg;omega)
 ·rw [List.map_append];refine(h.wd.snoc ⟨ao,c,rfl,X,N⟩).keepS (S:=fun g=>D+2+m<=g/\g<V.heap.size/\u.ownBlock≠some g/\v.ownBlock≠some g) (r.mono fun b _ a e=>?_) F;rcases a with (a | a) | a
  ·exact e.2.2.1 a
  ·exact e.2.2.2 a
  ·omega
 ·refine h.ext.after r (fun b d a=>?_);rcases a with a | a
  ·exact n b oz a
  ·omega
 ·have:=h.short;unfold Ug at this ⊢;rw [List.any_append,this];simp;omega
 ·rcases a with a | a
  ·obtain⟨a4,Z,a5⟩:=s b a;rcases e with e | e | e | e
   ·omega
   ·exact Z e
   ·omega
   ·omega
  ·rcases e with e | e | e | e
   ·omega
   ·have:=(A b e).1;omega
   ·omega
   ·omega
end
theorem Pd{V:World}{b c d:Nat}{x1 x2 x3:Value}{t1 t2 t3:TypeId}(h1:V.heap[b]?=some (.cells #[x1] t1 (0,0))) (h2:V.heap[c]?=some (.cells #[x2] t2 (0,0))) (h3:V.heap[d]?=some (.cells #[x3] t3 (0,0))) (hbc:b≠c) (hcd:c≠d) (hbd:b≠d) (y1 y2 y3:Value) :
  (((V.setCell ⟨b,0,none⟩ y1).setCell ⟨c,0,none⟩ y2).setCell ⟨d,0,none⟩ y3).heap[b]?=some (.cells #[y1] t1 (0,0))/\(((V.setCell ⟨b,0,none⟩ y1).setCell ⟨c,0,none⟩ y2).setCell ⟨d,0,none⟩ y3).heap[c]?=some (.cells #[y2] t2 (0,0))/\(((V.setCell ⟨b,0,none⟩ y1).setCell ⟨c,0,none⟩ y2).setCell ⟨d,0,none⟩ y3).heap[d]?=some (.cells #[y3] t3 (0,0)) /\
  Q0 (fun x=>x=b\/x=c\/x=d) V (((V.setCell ⟨b,0,none⟩ y1).setCell ⟨c,0,none⟩ y2).setCell ⟨d,0,none⟩ y3):=
 ⟨(Q0.set1 _ d 0 y3).heap ((Q0.set1 _ c 0 y2).heap (Y1 y1 h1) oz) oz,(Q0.set1 _ d 0 y3).heap (Y1 y2 ((Q0.set1 V b 0 y1).heap h2 oz)) oz,
  Y1 y3 ((Q0.set1 _ c 0 y2).heap ((Q0.set1 V b 0 y1).heap h3 oz) oz),(((Q0.set1 V b 0 y1).mono fun x _ e=>.inl e).trans ((Q0.set1 _ c 0 y2).mono fun x _ e=>.inr (.inl e))).trans ((Q0.set1 _ d 0 y3).mono fun x _ e=>.inr (.inr e))⟩
theorem X5{a:Func}{p q r:Tmp}(h:a.results=#[.cell p 45,.cell q 46,.cell r 35]){tmps:Array Value}{w:World}{b c d:Nat}{x y z:Value}
  (i:tmps.getD p undef=.pointer (some ⟨b,0,none⟩)) (k:tmps.getD q undef=.pointer (some ⟨c,0,none⟩)) (m:tmps.getD r undef=.pointer (some ⟨d,0,none⟩))
  (o:w.heap[b]?=some (.cells #[x] 45 (0,0))) (s:w.heap[c]?=some (.cells #[y] 46 (0,0))) (t:w.heap[d]?=some (.cells #[z] 35 (0,0))) :
  (results a tmps).run Tryz.prog w=.ok (.tuple #[x,y,z]) w:=by
 have j:tmps[p]?.getD undef=.pointer (some ⟨b,0,none⟩):=by simpa using i
 have l:tmps[q]?.getD undef=.pointer (some ⟨c,0,none⟩):=by simpa using k
 have n:tmps[r]?.getD undef=.pointer (some ⟨d,0,none⟩):=by simpa using m
 have e:=cell_of_one o;have f:=cell_of_one s;have g:=cell_of_one t;simp [results,h,j,l,n,asAddr,go_sem,e,f,g]
def Xw(b:Nat)(W:World)(u v:Value)(t:List (Nat × Wd)):Prop:=
 W.ownsRow b 3 1 u t.length (Yt (t.map (·.1)))/\∃ vals,W.ownsRow b 32 1 v t.length vals/\Z9 W vals (t.map (·.2))/\∀ x∈vals,Z6 (fun g=>b<=g) x
theorem Xw.out{b:Nat}{W:World}{u v:Value}{t:List (Nat × Wd)} (h:Xw b W u v t):Xp b W u v t:=by
 obtain⟨a,e,c,d,_⟩:=h;exact⟨a,e,c,d⟩
theorem Xw.nil(b:Nat)(W:World):Xw b W (.slice none 0 0) (.slice none 0 0) []:=⟨World.ownsRow_nil _ _ _ _,[],World.ownsRow_nil _ _ _ _,trivial,fun x hx=>by cases hx⟩
theorem Xw.fresh{b cap g:Nat}{A:World}{u:Value}{t:List (Nat × Wd)} (h:Xw b A u (.slice (some ⟨g,0,none⟩) t.length cap) t) {i:Nat} (f:i<t.length) {x:Value} (e:A.cell? ⟨g,i,none⟩=some x):Z6 (fun g=>b<=g) x:=by
 obtain⟨_,k,a,_,d⟩:=h;have j:=a.1;have c:=a.cellAt i oz;rw [e] at c;exact d x (List.mem_of_getElem? c.symm)
theorem Tryz.infoW:(Tryz.prog.info? 32).map (fun i=>(i.zero,i.size,i.bytes))=some (some (.slice none 0 0),1,24):=by kernel_rfl
theorem Nb{w:World}{l:Qa}{cs:List Value}{vo:Option Addr}{vc:Nat}{ws:Wd}(i5:Z3 w l cs)(l8:Q7 w (.slice vo ws.length vc) ws) (w2:ws.length<=vc) (q6:Tab w) :
  Calls Tryz.prog 13 #[.agg cs.toArray,.slice vo ws.length vc] w fun e w'=>∃ u v,e=.returned (.tuple #[u,v,.int .i64 (trE l ws)])/\Xw w.heap.size w' u v (trT l ws)/\Ext w w':=by
 have l2:=fun(d:World) (b9:Ext w d)=>Ju (i5.ext b9) (l8.ext b9) (q6.keep b9 id);have r3:=fun(d:World) (b9:Ext w d)=>Pf (i5.ext b9) (vo:=vo) (vn:=ws.length) (vc:=vc);obtain⟨A9,u8,y4⟩:=Zh3 i5 l8 q6
 have q8:Z6 (fun g=>g<w.heap.size) (.slice vo ws.length vc):=fun g o i b8 e h0=>by
  obtain⟨_,_,k7,C1,d9,p6⟩:=l8.1;rw [d9] at e;cases e;cases d9;obtain⟨C2,C4,G,H,_⟩:=p6 h0;cases G;exact H
 have l1:Ze l ws=0->J1 l=true/\ws.length<=32:=fun h0=>⟨(X1 h0).1,K0 (X1 h0).2⟩;have l6:trE l ws=if Ze l ws=0 then(if Ug (Qt l ws)=true then 11 else 0) else Ze l ws:=rfl
 have l7:trT l ws=if trE l ws=0 then Qt l ws else []:=rfl
 have z3:=Wu l ws;obtain⟨C6,l9⟩:=zE ws.length;rw [l9] at l2 r3 q8 l1 w2 z3 u8;rw [l9];obtain⟨s9,s1,t4,s4,s7,p2,p4,t0,o7,y,s2,t5,s5,s8,p3,p5,t1,o8,c2,s0,o9,r9,t3,p0,t2,s6,rfl,y3,B7,B8,A8,B6,B5,B1,B2,B3,B4,B0,C5,G,H,P,M⟩:=Zo i5;obtain⟨Y,v9⟩:=zE (Ze l ws);obtain⟨k3,b9⟩:=zE (trE l ws);obtain⟨p1,w1⟩:=zE (trT l ws);rw [v9] at l2 l1 l6;rw [b9] at l6 l7 ⊢;rw [w1] at l7 ⊢;obtain⟨u3,n7,y2,u2,n9,o0,g5⟩:=Zh7 l2 r3 q8 l1 l6 l7 l9;clear i5 l8 q6 l2 r3 q8 l1 l6 l7 v9 b9 w1 l9;refine Zd Tryz.func13 rfl ?_;simp only [Tryz.ntmps13,zS,Nat.reduceAdd,Nat.reduceSub];go_upto_region 1 with (fail)
 obtain⟨g1,d8⟩:=zE ((((w.alloc (.cells #[.string s9,.int .i64 s1,.int .u32 (t4:Int),.int .u32 (s4:Int),.bool s7,.int .i64 p2,.int .i64 p4,.slice t0 o7 y,.int .i64 s2,.int .u32 (t5:Int),.int .u32 (s5:Int),.bool s8,.int .i64 p3,.int .i64 p5,.slice t1 o8 c2,.slice s0 o9 r9,.slice t3 p0 t2,.int .i64 s6] 34)).alloc (.cells #[.slice none 0 0] 45)).alloc (.cells #[.slice none 0 0] 46)).alloc (.cells #[.int .i64 0] 35));have p9:Ext w g1:=by rw [<-d8];exact((((Q0.refl _ w).alloc _).alloc _).alloc _).alloc _
 have q9:g1.heap[w.heap.size]?=some (.cells #[.string s9,.int .i64 s1,.int .u32 (t4:Int),.int .u32 (s4:Int),.bool s7,.int .i64 p2,.int .i64 p4,.slice t0 o7 y,.int .i64 s2,.int .u32 (t5:Int),.int .u32 (s5:Int),.bool s8,.int .i64 p3,.int .i64 p5,.slice t1 o8 c2,.slice s0 o9 r9,.slice t3 p0 t2,.int .i64 s6] 34 (0,0)):=by rw [<-d8];exact Qb (Qb (Qb (Q5 rfl)))
 have r6:g1.heap[w.heap.size+1]?=some (.cells #[.slice none 0 0] 45 (0,0)):=by rw [<-d8];exact Qb (Qb (Q5 zy))
 have r7:g1.heap[w.heap.size+2]?=some (.cells #[.slice none 0 0] 46 (0,0)):=by rw [<-d8];exact Qb (Q5 zy)
 have q7:g1.heap[w.heap.size+3]?=some (.cells #[.int .i64 0] 35 (0,0)):=by rw [<-d8];exact Q5 zy
 have x2:g1.heap.size=w.heap.size+4:=by rw [<-d8];simp
 rw [d8];obtain⟨f,p7⟩:=zE w.heap.size;rw [p7] at q9 r6 r7 q7 x2 ⊢;have s:=Zh p7;have n1:=Zh q9;clear d8 p7 q9
 go_wp2_with (refine wpList_load_row rfl 34 (.tmp 2) rfl f rfl _ _ _ _ n1.out Tryz.underlying34 rfl Tryz.lawInfo ?_)
 refine(u3.out _ p9).mono ?_;rintro e e1 ⟨rfl,F⟩;have m:=p9.trans F;have u4:=Zh (F.keep n1.out);have f4:=F.keep r6;have f5:=F.keep r7;have f3:=F.keep q7;have r4:f+4<=e1.heap.size:=by have:=F.size;omega
 clear F p9 n1 u3 r6 r7 q7 x2;by_cases h0:Y=0;case neg=>
  have T:(Y != 0)=true:=by rw [bne_iff_ne];exact h0
  have a3:Hid (k3=Y):=Zh (by rw [n9.out,if_neg h0]);have e3:Hid (p1=[]):=Zh (by rw [o0.out,if_neg (by rw [a3.out];exact h0)]);have i7:=Pd f4 f5 f3 oz oz oz (.slice none 0 0) (.slice none 0 0) (.int .i64 Y);have n8:=Zh i7;have y7:=cell_of_one f4;have z0:=free_of_one f4;have y8:=cell_of_one f5;have z1:=free_of_one f5;have y6:=cell_of_one f3;have y9:=free_of_one f3;clear i7 f4 f5 f3 n7;go_wp2;obtain⟨G,H,P,M⟩:=n8.out;refine X8 (v:=.tuple #[.slice none 0 0,.slice none 0 0,.int .i64 Y]) (base:=f) _ _ trivial fun w' ht' i6=>⟨X5 rfl rfl rfl rfl (ht'.heap G (Go.Ab.Shut.not G rfl)) (ht'.heap H (Go.Ab.Shut.not H rfl)) (ht'.heap P (Go.Ab.Shut.not P rfl)),_,_,by rw [a3.out],by rw [e3.out];exact Xw.nil _ _,?_⟩
  exact(m.after M (fun b hb p=>by have:=s.out;omega)).after ht' (fun b T U=>by have:=U.1;have:=s.out;omega)
 subst h0;obtain⟨z6,A2⟩:=u2.out rfl;have u7:Hid (k3=if Ug (Qt l ws)=true then 11 else 0):=Zh (by rw [n9.out,if_pos rfl]);clear n9 u2;go_upto_region 6 with (fail)
 obtain⟨k1,f6⟩:=zE ((e1.alloc (.cells #[.slice none 0 0] 45)).alloc (.cells #[.slice none 0 0] 46));have f2:Ext e1 k1:=by rw [<-f6];exact((Q0.refl _ e1).alloc _).alloc _
 have r0:k1.heap[e1.heap.size]?=some (.cells #[.slice none 0 0] 45 (0,0)):=by rw [<-f6];exact Qb (Q5 rfl)
 have r1:k1.heap[e1.heap.size+1]?=some (.cells #[.slice none 0 0] 46 (0,0)):=by rw [<-f6];exact Q5 zy
 have r5:k1.heap.size=e1.heap.size+2:=by rw [<-f6];simp
 rw [f6];obtain⟨n,v8⟩:=zE e1.heap.size;rw [v8] at r0 r1 r5 r4 ⊢;have k8:=r4;have q0:=m.trans f2;have u5:=Zh (f2.keep u4.out);have x5:=f2.keep f4;have x7:=f2.keep f5;have w5:=f2.keep f3;clear f6 v8 f2 m u4 f4 f5 f3 r4
 go_wp2_with (refine wpList_load_row rfl 34 (.tmp 2) rfl f rfl _ _ _ _ u5.out Tryz.underlying34 rfl Tryz.lawInfo ?_)
 have r2:=n7.out k1 q0;rw [r5] at r2;have u6:=Zh r2;clear r2;refine u6.out.mono ?_;rintro e t9 ⟨y0,y1,rfl,q3,q5,q2,q4,z5,z8,F⟩;have q1:=q0.trans F;have x0:=F.keep r0;have x1:=F.keep r1;have x6:=F.keep x5;have i8:=F.keep x7;have w6:=F.keep w5;have x3:n+2<=t9.heap.size:=by have:=F.size;omega
 have v5:=(Array.getElem?_eq_some_iff.1 q3.1).1;have w0:=(Array.getElem?_eq_some_iff.1 q5).1;have v4:=(Array.getElem?_eq_some_iff.1 q2).1;have v6:=(Array.getElem?_eq_some_iff.1 q4).1;obtain⟨c,p8⟩:=zE t9.heap.size;rw [p8] at x3 v5 w0 v4 v6;have k9:=x3;have a8:=Zh p8;have z4:∃ f7,Ui Tryz.prog 42 #[.pointer (some ⟨n+2+1,0,none⟩),.pointer (some ⟨n+2,0,none⟩),.pointer (some ⟨y0,0,none⟩),.pointer (some ⟨y1,0,none⟩)] (Zn f7) (Db f7) (Qt l ws) (fun b=>b<c/\b≠n/\b≠n+1/\b≠f+1/\b≠f+2/\b≠f+3) t9:=by
  refine P1 (cs:=[.string s9,.int .i64 s1,.int .u32 (t4:Int),.int .u32 (s4:Int),.bool s7,.int .i64 p2,.int .i64 p4,.slice t0 o7 y,.int .i64 s2,.int .u32 (t5:Int),.int .u32 (s5:Int),.bool s8,.int .i64 p3,.int .i64 p5,.slice t1 o8 c2,.slice s0 o9 r9,.slice t3 p0 t2,.int .i64 s6]) (vo:=vo) (vc:=vc) z6 (by rw [g5.out];exact A2) (by rw [g5.out];exact w2) (by rw [g5.out];exact y2.out.mono fun b hb=>by have:=s.out;omega) (fun b hb=>by omega) (fun W r=>?_);have e5:Ext w W:=q1.after r (fun b hb p=>p (by have:=s.out;omega));exact⟨⟨r.heap q3.1 (fun p=>p oz),y3.out.ext e5⟩,by rw [g5.out];exact r.heap q5 (fun p=>p oz),by rw [g5.out];exact u8.out.ext e5,y4.out.keep e5 id,r.heap q2 (fun p=>p oz),r.heap q4 (fun p=>p oz)⟩
 obtain⟨f7,w7⟩:=z4;obtain⟨n0,o1,o3,m9,n5,n6⟩:=Zh6 w7 x6 i8 w6 x0 x1;clear w7 q3 q5 q2 q4 F q0 u5 r0 r1 x5 x7 w5 r5 x0 x1 x6 i8 w6 u6 n7 z5 z8 v5 w0 v4 v6 p8;go_wp2_with fail
 refine Uy (xs:=Qt l ws) (K:=fun b=>b<c/\b≠n/\b≠n+1/\b≠f+1/\b≠f+2/\b≠f+3) rfl (enters_of Tryz.func42 kz rfl) n0.out (fun b g8=>by rw [a8.out];exact g8.1) (fun _ _ x m8 e2 g8=>by obtain⟨k7,b8,rfl,_⟩:=g8;rfl) ?hEs
  (fun a9 a2 d=>∃ u v g0,TrI w f n c f7 a9 a2 d u v g0)
  (fun b8 _ a2 d=>b8=.ret/\d.heap[f+1]?=some (.cells #[.slice none 0 0] 45 (0,0))/\d.heap[f+2]?=some (.cells #[.slice none 0 0] 46 (0,0))/\d.heap[f+3]?=some (.cells #[.int .i64 11] 35 (0,0))/\Ext w d/\Ug a2=true) ?hI ?hIx ?h0 (fun e2 t=>(((t.setIfInBounds 21 (e2.getD 0 undef)).setIfInBounds 22 (e2.getD 1 undef)).setIfInBounds 10 (e2.getD 0 undef)).setIfInBounds 11 (e2.getD 1 undef)) ?assign ?body ?done ?stop
 case hEs=>
  rintro i a9 x m8 W e2 ⟨k7,b8,rfl,T,U,p6⟩ I A0;exact⟨k7,b8,rfl,⟨Rd.nocells I A0 T.1,T.2⟩,U,p6.mono fun b hb=>⟨hb.1,hb.2.1,Nat.lt_of_lt_of_le hb.2.2 I.size⟩⟩
 case hI=>
  rintro a9 y5 a2 m8 W ⟨u,v,g0,q⟩ a0 I v7;rw [a8.out] at a0 I;exact⟨u,v,g0,q.turn s.out k8 k9 a0 I v7⟩
 case hIx=>
  rintro b8 a9 y5 a2 m8 W ⟨A4,m2,m3,m4,r8,m5⟩ a0 I v7;rw [a8.out] at a0 I
  have m6:∀ b,b<c->¬ ((a9 b/\Zn f7 (c+2) b)\/b=c+1):=fun b hb p=>by
   rcases p with T | T
   ·have:=(a0 b T.1).1;omega
   ·omega
  exact⟨A4,I.heap m2 (m6 _ oz),I.heap m3 (m6 _ oz),I.heap m4 (m6 _ oz),r8.after I (fun b hb p=>m6 b (by have:=s.out;omega) p),m5⟩
 case h0=>
  intro W r i6;exact⟨_,_,[],r.keep o1.out,r.keep o3.out,r.keep m9.out,r.keep n5.out,r.keep n6.out,World.ownsRow_nil _ _ _ _,World.ownsRow_nil _ _ _ _,trivial,fun g hg=>(by cases hg),fun g hg=>(by cases hg),fun x a1=>(by cases a1),q1.trans r,rfl⟩
 case assign=>
  rintro i a9 x e2 d C0 ⟨k7,b8,rfl,_⟩ a;gi_wp2;exact a
 case done=>
  rintro a9 d ⟨u,v,g0,q⟩ a0 I f1;rw [a8.out] at f1;have a3:Hid (k3=0):=Zh (by rw [u7.out,if_neg (by rw [q.short];decide)]);have e3:Hid (p1=Qt l ws):=Zh (by rw [o0.out,if_pos a3.out]);obtain⟨D,e6⟩:=zE d.drew;have m:Ext d D:=by rw [<-e6];exact Q0.drew (Q0.refl _ d)
  obtain⟨b0,e9,f0,a5,g7,a4⟩:=Zh6 (m.keep q.ru) (m.keep q.bu) (m.keep q.bv) ((Q0.set1 D (f+1) 0 u).heap (m.keep q.rv) oz) ((Q0.set1 D (f+1) 0 u).heap (m.keep q.bv) oz) ((Q0.set1 (D.setCell ⟨f+1,0,none⟩ u) (f+2) 0 v).heap ((Q0.set1 D (f+1) 0 u).heap (m.keep q.re) oz) oz);obtain⟨G,H,P,M⟩:=Pd (m.keep q.ru) (m.keep q.rv) (m.keep q.re) oz oz oz u v (.int .i64 0);obtain⟨W,r⟩:=zE (((D.setCell ⟨f+1,0,none⟩ u).setCell ⟨f+2,0,none⟩ v).setCell ⟨f+3,0,none⟩ (.int .i64 0));rw [r] at G H P M;have M:Q0 (fun b=>b=f+1\/b=f+2\/b=f+3) d W:=(Ext.of m).trans M;have w9:Xw w.heap.size W u v (Qt l ws):=by
   refine⟨X4 (Qm q.ou M (fun g hg e=>by have:=(q.ou.lt g hg).1;omega)) (by have:=s.out;omega),g0,X4 (Qm q.ov M (fun g hg e=>by have:=(q.ov.lt g hg).1;omega)) (by have:=s.out;omega),?_,fun x a1=>(q.wk x a1).mono fun b hb=>(by have T:=s.out;have U:=hb.1;omega)⟩;exact q.wd.keepS (S:=fun g=>c+2+f7<=g) (M.mono fun b _ e p=>by omega) (fun x a1=>(q.wk x a1).mono fun b hb=>hb.1)
  have l3:Qq f ({ target:=.collected c,args:=#[] }::[]) W:=Qq.cons (base:=f) trivial oz (M.heap f1 oz) (fun e he=>by cases he);have e5:Ext w W:=q.ext.after M (fun b hb p=>by have:=s.out;omega);have k6:=Zh w9;have n2:=Zh l3;obtain⟨t8,t7,rfl⟩:=Z2 q.ou;obtain⟨u1,u0,rfl⟩:=Z2 q.ov;obtain⟨f9,x4⟩:=zE ((Qt l ws).length);rw [x4] at e9 f0 a5 g7 a4 r k6 G H;have o4:=Zh r;have u9:=Zh e6;clear w9 l3 q f1 I a0 n0 o1 o3 m9 n5 n6 q1 r e6 m x4;go_upto_region 12 with (fail)
  refine Qz (S:=fun _=>True) [0,1,2,3,4] kz trivial ?_;intro _;rw [u9.out];clear u9;refine rE [0,1] ?_;refine Q2.late rfl rfl (fun K a=>?_) (Q2.late rfl rfl (fun K a=>?_) Q2.nil)
  ·refine iw rfl ?_;have b1:=cell_of_one e9.out;go_simp;refine a.out _ _ ?_;clear a K b1;try simp only [Act.put,pq]
   refine rE [1,2] ?_;refine Q2.late rfl rfl (fun K a=>?_) (Q2.late rfl rfl (fun K a=>?_) Q2.nil)
   ·refine iw rfl ?_;have b1:=cell_of_one f0.out;go_simp;refine a.out _ _ ?_;clear a K b1;try simp only [Act.put,pq]
    refine rE [2] ?_;refine Q2.late rfl rfl (fun K a=>?_) Q2.nil;refine iw rfl ?_;have z:=cell_of_one b0.out;have A:=free_of_one b0.out;go_simp;refine a.out _ _ ?_;clear a K z A
    (try change Qg _ _ _ _ _ _ _ _ (Act.put _ none _) _)
    (try simp only [Act.put])
    refine rE [3] ?_;refine Q2.late rfl rfl (fun K a=>?_) Q2.nil;refine iw rfl ?_;have z:=cell_of_one a5.out;have A:=free_of_one a5.out;go_simp;refine a.out _ _ ?_;clear a K z A
    (try change Qg _ _ _ _ _ _ _ _ (Act.put _ none _) _)
    (try simp only [Act.put])
    refine rE [4] ?_;refine Q2.late rfl rfl (fun K a=>?_) Q2.nil;refine iw rfl ?_;have z:=cell_of_one a4.out;have A:=free_of_one a4.out;go_simp;refine a.out _ _ ?_;clear a K z A
    (try change Qg _ _ _ _ _ _ _ _ (Act.put _ none _) _)
    (try simp only [Act.put])
    refine Qn kz ?_ _;rw [o4.out];clear b0 e9 f0 a5 g7 a4;go_wp2;rw [a8.out];refine X8 (v:=.tuple #[.slice t8 f9 t7,.slice u1 f9 u0,.int .i64 0]) (base:=f) _ _ n2.out fun w' ht' i6=>⟨X5 rfl rfl rfl rfl (ht'.heap G (Go.Ab.Shut.not G rfl)) (ht'.heap H (Go.Ab.Shut.not H rfl)) (ht'.heap P (Go.Ab.Shut.not P rfl)),_,_,by rw [a3.out],?_,?_⟩
    ·rw [e3.out];obtain⟨j3,j8,j4,j5,j6⟩:=k6.out;exact⟨Jm j3 ht',j8,Jm j4 ht',j5.shut ht',j6⟩
    ·exact e5.after ht' (fun b T U=>by have:=U.1;have:=s.out;omega)
   ·refine iw rfl ?_;have z:=cell_of_one b0.out;have A:=free_of_one b0.out;go_simp;refine a.out _ _ ?_;clear a K z A
    (try change Qg _ _ _ _ _ _ _ _ (Act.put _ none _) _)
    (try simp only [Act.put])
    refine rE [1] ?_;refine Q2.late rfl rfl (fun K a=>?_) Q2.nil;refine iw rfl ?_;have b1:=cell_of_one g7.out;go_simp;refine a.out _ _ ?_;clear a K b1;try simp only [Act.put,pq]
    refine rE [3] ?_;refine Q2.late rfl rfl (fun K a=>?_) Q2.nil;refine iw rfl ?_;have z:=cell_of_one a5.out;have A:=free_of_one a5.out;go_simp;refine a.out _ _ ?_;clear a K z A
    (try change Qg _ _ _ _ _ _ _ _ (Act.put _ none _) _)
    (try simp only [Act.put])
    refine rE [4] ?_;refine Q2.late rfl rfl (fun K a=>?_) Q2.nil;refine iw rfl ?_;have z:=cell_of_one a4.out;have A:=free_of_one a4.out;go_simp;refine a.out _ _ ?_;clear a K z A
    (try change Qg _ _ _ _ _ _ _ _ (Act.put _ none _) _)
    (try simp only [Act.put])
    refine Qn kz ?_ _;rw [o4.out];clear b0 e9 f0 a5 g7 a4;go_wp2;rw [a8.out];refine X8 (v:=.tuple #[.slice t8 f9 t7,.slice u1 f9 u0,.int .i64 0]) (base:=f) _ _ n2.out fun w' ht' i6=>⟨X5 rfl rfl rfl rfl (ht'.heap G (Go.Ab.Shut.not G rfl)) (ht'.heap H (Go.Ab.Shut.not H rfl)) (ht'.heap P (Go.Ab.Shut.not P rfl)),_,_,by rw [a3.out],?_,?_⟩
    ·rw [e3.out];obtain⟨j3,j8,j4,j5,j6⟩:=k6.out;exact⟨Jm j3 ht',j8,Jm j4 ht',j5.shut ht',j6⟩
    ·exact e5.after ht' (fun b T U=>by have:=U.1;have:=s.out;omega)
  ·refine iw rfl ?_;have b1:=cell_of_one f0.out;go_simp;refine a.out _ _ ?_;clear a K b1;try simp only [Act.put,pq]
   refine rE [0] ?_;refine Q2.late rfl rfl (fun K a=>?_) Q2.nil;refine iw rfl ?_;have b1:=cell_of_one e9.out;go_simp;refine a.out _ _ ?_;clear a K b1;try simp only [Act.put,pq]
   refine rE [2] ?_;refine Q2.late rfl rfl (fun K a=>?_) Q2.nil;refine iw rfl ?_;have z:=cell_of_one b0.out;have A:=free_of_one b0.out;go_simp;refine a.out _ _ ?_;clear a K z A
   (try change Qg _ _ _ _ _ _ _ _ (Act.put _ none _) _)
   (try simp only [Act.put])
   refine rE [3] ?_;refine Q2.late rfl rfl (fun K a=>?_) Q2.nil;refine iw rfl ?_;have z:=cell_of_one a5.out;have A:=free_of_one a5.out;go_simp;refine a.out _ _ ?_;clear a K z A
   (try change Qg _ _ _ _ _ _ _ _ (Act.put _ none _) _)
   (try simp only [Act.put])
   refine rE [4] ?_;refine Q2.late rfl rfl (fun K a=>?_) Q2.nil;refine iw rfl ?_;have z:=cell_of_one a4.out;have A:=free_of_one a4.out;go_simp;refine a.out _ _ ?_;clear a K z A
   (try change Qg _ _ _ _ _ _ _ _ (Act.put _ none _) _)
   (try simp only [Act.put])
   refine Qn kz ?_ _;rw [o4.out];clear b0 e9 f0 a5 g7 a4;go_wp2;rw [a8.out];refine X8 (v:=.tuple #[.slice t8 f9 t7,.slice u1 f9 u0,.int .i64 0]) (base:=f) _ _ n2.out fun w' ht' i6=>⟨X5 rfl rfl rfl rfl (ht'.heap G (Go.Ab.Shut.not G rfl)) (ht'.heap H (Go.Ab.Shut.not H rfl)) (ht'.heap P (Go.Ab.Shut.not P rfl)),_,_,by rw [a3.out],?_,?_⟩
   ·rw [e3.out];obtain⟨j3,j8,j4,j5,j6⟩:=k6.out;exact⟨Jm j3 ht',j8,Jm j4 ht',j5.shut ht',j6⟩
   ·exact e5.after ht' (fun b T U=>by have:=U.1;have:=s.out;omega)
 case stop=>
  rintro b8 a9 a2 x t6 d a1 ⟨rfl,m2,m3,m4,r8,m5⟩ f1;rw [a8.out] at f1 ⊢;have z7:Ug (Qt l ws)=true:=by
   rw [a1];unfold Ug at m5 ⊢;rw [show a2++x::t6=(a2++[x])++t6 by simp,List.any_append,m5];rfl
  have a3:Hid (k3=11):=Zh (by rw [u7.out,if_pos z7]);have e3:Hid (p1=[]):=Zh (by rw [o0.out,if_neg (by rw [a3.out];decide)]);refine wp_ret ?_;have l3:Qq f ({ target:=.collected c,args:=#[] }::[]) d:=Qq.cons (base:=f) trivial oz f1 (fun e he=>by cases he);refine X8 (v:=.tuple #[.slice none 0 0,.slice none 0 0,.int .i64 11]) (base:=f) _ _ l3 fun w' ht' i6=>⟨X5 rfl rfl rfl rfl (ht'.heap m2 (Go.Ab.Shut.not m2 rfl)) (ht'.heap m3 (Go.Ab.Shut.not m3 rfl)) (ht'.heap m4 (Go.Ab.Shut.not m4 rfl)),_,_,by rw [a3.out],by rw [e3.out];exact Xw.nil _ _,?_⟩
  exact r8.after ht' (fun b T U=>by have:=U.1;have:=s.out;omega)
 case body=>
  rintro a9 a2 ⟨a7,k2⟩ t6 e2 d a1 A1 a0 I ⟨u,v,g0,q⟩ ⟨b5,b4,rfl,m1,j0,m0⟩;rw [a8.out] at A1 a0 m0 ⊢;simp only [pq];dsimp only at m1 j0 m0 ⊢;have z9:a2.length<=32:=by
   have:=congrArg List.length a1;rw [List.length_append,List.length_cons] at this;omega
  obtain⟨V,j1⟩:=zE k2.length;have g6:=Zh j1;have x8:=m1.1.2.1;unfold maxLen at x8;rw [j1] at x8;obtain⟨o6,o5,j,k5,B9⟩:=Zh5 m1 m0 q a0 a1;rw [j1];have A3:=j0;rw [j1] at A3;clear j1 m1 m0 q a0 a1 I n0 o1 o3 m9 n5 n6;by_cases g9:V<=32;case neg=>
   have z2:(32:Int)<(V:Int):=by omega
   have i7:=Pd j.out.ru j.out.rv j.out.re oz oz oz (.slice none 0 0) (.slice none 0 0) (.int .i64 11);have n8:=Zh i7;have y7:=cell_of_one j.out.ru;have z0:=free_of_one j.out.ru;have y8:=cell_of_one j.out.rv;have z1:=free_of_one j.out.rv;have y6:=cell_of_one j.out.re;have y9:=free_of_one j.out.re;clear i7;gi_wp2;obtain⟨G,H,P,M⟩:=n8.out;refine⟨M.mono fun b _ e p=>?_,rfl,G,H,P,j.out.ext.after M (fun b hb p=>by have:=s.out;omega),?_⟩
   ·rcases p with p | p | p | p
    ·omega
    ·have:=(k5.out b p).1;omega
    ·omega
    ·omega
   ·unfold Ug;rw [List.any_append];simp [g6.out];omega
  have z2:¬ (32:Int)<(V:Int):=by omega
  have g9:k2.length<=32:=by rw [g6.out];exact g9
  gi_wp2;obtain⟨i,p⟩:=zE a2.length;have e8:=Zh p;have l4:=j.out.ou;have l5:=j.out.ov;rw [p] at l4 l5 z9;have w4:=Gz l4 l5 zd;obtain⟨o2,n3,n4⟩:=Zh3 w4 l4 l5
  have w8:∀ d9,(d9=n\/d9=n+1)->¬ (u.ownBlock=some d9\/v.ownBlock=some d9):=fun d9 hq e=>by
   rcases e with e | e
   ·have:=(j.out.ou.lt _ e).1;omega
   ·have:=(j.out.ov.lt _ e).1;omega
  have X:=Zh w8;have w3:∀(W:World),Q0 (fun b=>u.ownBlock=some b\/v.ownBlock=some b) d W->W.cell? ⟨n,0,none⟩=some u/\W.cell? ⟨n+1,0,none⟩=some v:=fun W r=>⟨cell_of_one (r.heap j.out.bu (X.out _ (.inl rfl))),cell_of_one (r.heap j.out.bv (X.out _ (.inr rfl)))⟩;have Q:=Zh w3;clear p l4 l5 w4 w8 w3;refine J2 (S:=fun W=>W.cell? ⟨n,0,none⟩=some u/\W.cell? ⟨n+1,0,none⟩=some v) [8,9] kz kz (by rintro⟨_,_,g8⟩;exact g8) (Q.out _ (Q0.drew (Q0.refl _ d))) ?_;intro i3;obtain⟨D,e6⟩:=zE d.drew;have m:Ext d D:=by rw [<-e6];exact Q0.drew (Q0.refl _ d)
  have C3:=m.size;rw [e6] at i3 ⊢;clear e6;refine tE 0 26 i3 ?_;refine tE 1 27 i3 ?_;refine tE 4 30 i3 ?_;refine tE 5 31 i3 ?_;refine rE [2,6] ?_;refine Q2.cons rfl (fun K a=>?_) (Q2.cons rfl (fun K a=>?_) Q2.nil)
  ·refine iw rfl ?_;go_simp;obtain⟨N,b2⟩:=zE (D.alloc (.cells #[.int .i64 (a7:Int)] 3));have E:Ext D N:=by rw [<-b2];exact(Q0.refl _ _).alloc _
   have f8:N.heap[D.heap.size]?=some (.cells #[.int .i64 (a7:Int)] 3 (0,0)):=by rw [<-b2];exact Q5 rfl
   obtain⟨k4,i2⟩:=zE D.heap.size;rw [b2,i2];rw [i2] at f8;have A6:=E.size;clear b2;refine a.out _ _ (Q.out _ (Ext.of (m.trans E))) (fun _=>?_);clear a K;try simp only [Act.put,pq]
   refine rE [3,6] ?_;refine Q2.cons rfl (fun K a=>?_) (Q2.cons rfl (fun K a=>?_) Q2.nil)
   ·refine iw rfl ?_;refine Y8 (.tmp 26) (.tmp 28) 45 rfl (c+2) 3 _ 1 8 Tryz.underlying45 Tryz.infoI rfl zd _ _ _ rfl (Ql n3.out (m.trans E)) ⟨k4,0,none⟩ 1 1 [.int .i64 (a7:Int)] rfl rfl (Xn f8) ?c2 ?c3 ?c4 ?c5 ?_;case c2=>first | rfl | (intro u C;simp at C;rcases C with rfl;rfl)
    case c3=>unfold maxLen;omega
    case c4=>omega
    case c5=>omega
    intro L y R c9 a6 i0;have m7:Q0 (fun b=>u.ownBlock=some b\/v.ownBlock=some b) d R:=(Ext.of (m.trans E)).trans (a6.mono fun b _ e=>.inl e);have C7:=m7.size;refine a.out _ _ (Q.out _ (m7)) (fun _=>?_);clear a K;try simp only [Act.put,pq]
    have i8:=Qm n4.out (((Ext.of (m.trans E)).trans a6):Q0 (fun b=>u.ownBlock=some b) d R) (fun g hg e=>o2.out g e hg);refine rE [6] ?_;refine Q2.cons rfl (fun K a=>?_) Q2.nil;refine iw rfl ?_;go_simp;obtain⟨b7,l0⟩:=zE (R.alloc (.cells #[.slice b5 V b4] 32));have e4:Ext R b7:=by rw [<-l0];exact(Q0.refl _ _).alloc _
    have x9:b7.heap[R.heap.size]?=some (.cells #[.slice b5 V b4] 32 (0,0)):=by rw [<-l0];exact Q5 rfl
    obtain⟨g2,c1⟩:=zE R.heap.size;rw [l0,c1];rw [c1] at x9;have C8:=e4.size;clear l0;refine a.out _ _ (Q.out _ (m7.trans (Ext.of e4))) (fun _=>?_);clear a K;try simp only [Act.put,pq]
    refine rE [7] ?_;refine Q2.cons rfl (fun K a=>?_) Q2.nil;refine iw rfl ?_;refine Y8 (.tmp 30) (.tmp 32) 46 rfl (c+2) 32 _ 1 24 Tryz.underlying46 Tryz.infoW rfl zd _ _ _ rfl (Ql i8 e4) ⟨g2,0,none⟩ 1 1 [.slice b5 V b4] rfl rfl (Xn x9) ?d2 ?d3 ?d4 ?d5 ?_;case d2=>first | rfl | (intro u C;simp at C;rcases C with rfl;rfl)
    case d3=>unfold maxLen;omega
    case d4=>omega
    case d5=>omega
    intro Z c2 J i4 c8 i1;have e0:Q0 (fun b=>u.ownBlock=some b\/v.ownBlock=some b) d J:=(m7.trans (Ext.of e4)).trans (c8.mono fun b _ e=>.inr e);refine a.out _ _ (Q.out _ (e0)) (fun _=>?_);clear a K;try simp only [Act.put]
    have d0:=Qm (Ql c9 e4) c8 (fun g hg e=>Gz (Ql c9 e4) (Ql i8 e4) zd g hg e);have d1:=i4;have d6:(Value.slice L (i+1) y).ownBlock=u.ownBlock\/∃ k,d.heap.size<=k/\(Value.slice L (i+1) y).ownBlock=some k:=i0.imp id fun e=>⟨_,by omega,e⟩;have d7:(Value.slice Z (i+1) c2).ownBlock=v.ownBlock\/∃ k,d.heap.size<=k/\(Value.slice Z (i+1) c2).ownBlock=some k:=i1.imp id fun e=>⟨_,by omega,e⟩;have B:Q0 (fun b=>u.ownBlock=some b\/v.ownBlock=some b) d J:=e0;obtain⟨⟨j7,k0,j9,c0⟩,c6⟩:=j.out.push s.out k8 k9 k5.out oz o6.out j0 o5.out g9 (x:=(a7,k2)) (W:=J) (u':=.slice L (i+1) y) (v':=.slice Z (i+1) c2) (by rw [e8.out];exact d0) (by rw [e8.out,g6.out];exact d1) B d6 d7;have g3:=Zh c0;have g4:=Zh c6;have v0:=cell_of_one (B.heap j.out.bu (X.out n (.inl rfl)));have v2:=free_of_one (B.heap j.out.bu (X.out n (.inl rfl)));have c7:(J.setCell ⟨n,0,none⟩ (.slice L (i+1) y)).heap[n+1]?=some (.cells #[v] 46 (0,0)):=(Q0.set1 _ n 0 _).heap (B.heap j.out.bv (X.out _ (.inr rfl))) oz;have b6:=Zh c7;clear c0 c6 B d0 d1 d6 d7 c7;refine rE [8] ?_;refine Q2.late rfl rfl (fun K a=>?_) Q2.nil;refine iw rfl ?_;go_simp;refine a.out _ _ ?_;clear a K
    (try change Qg _ _ _ _ _ _ _ _ (Act.put _ none _) _)
    (try simp only [Act.put])
    have v1:=cell_of_one b6.out;have v3:=free_of_one b6.out;refine rE [9] ?_;refine Q2.late rfl rfl (fun K a=>?_) Q2.nil;refine iw rfl ?_;go_simp;refine a.out _ _ ?_;clear a K
    (try change Qg _ _ _ _ _ _ _ _ (Act.put _ none _) _)
    (try simp only [Act.put])
    refine Qn kz ?_ _;exact⟨g4.out,j7,k0,j9,g3.out⟩
   ·refine iw rfl ?_;go_simp;obtain⟨R,b3⟩:=zE (N.alloc (.cells #[.slice b5 V b4] 32));have O:Ext N R:=by rw [<-b3];exact(Q0.refl _ _).alloc _
    have j2:R.heap[N.heap.size]?=some (.cells #[.slice b5 V b4] 32 (0,0)):=by rw [<-b3];exact Q5 rfl
    obtain⟨g2,c1⟩:=zE N.heap.size;rw [b3,c1];rw [c1] at j2;have A7:=O.size;clear b3;refine a.out _ _ (Q.out _ (Ext.of ((m.trans E).trans O))) (fun _=>?_);clear a K;try simp only [Act.put,pq]
    refine rE [3] ?_;refine Q2.cons rfl (fun K a=>?_) Q2.nil;refine iw rfl ?_;refine Y8 (.tmp 26) (.tmp 28) 45 rfl (c+2) 3 _ 1 8 Tryz.underlying45 Tryz.infoI rfl zd _ _ _ rfl (Ql n3.out ((m.trans E).trans O)) ⟨k4,0,none⟩ 1 1 [.int .i64 (a7:Int)] rfl rfl (Xn (O.keep f8)) ?c2 ?c3 ?c4 ?c5 ?_;case c2=>first | rfl | (intro u C;simp at C;rcases C with rfl;rfl)
    case c3=>unfold maxLen;omega
    case c4=>omega
    case c5=>omega
    intro L y b7 c9 a6 i0;have e7:Q0 (fun b=>u.ownBlock=some b\/v.ownBlock=some b) d b7:=(Ext.of ((m.trans E).trans O)).trans (a6.mono fun b _ e=>.inl e);have A5:=e7.size;have s3:=a6.heap j2 (fun e=>by have:=(j.out.ou.lt _ e).2;omega);refine a.out _ _ (Q.out _ (e7)) (fun _=>?_);clear a K;try simp only [Act.put,pq]
    have i9:=Qm n4.out (((Ext.of ((m.trans E).trans O)).trans a6):Q0 (fun b=>u.ownBlock=some b) d b7) (fun g hg e=>o2.out g e hg);refine rE [7] ?_;refine Q2.cons rfl (fun K a=>?_) Q2.nil;refine iw rfl ?_;refine Y8 (.tmp 30) (.tmp 32) 46 rfl (c+2) 32 _ 1 24 Tryz.underlying46 Tryz.infoW rfl zd _ _ _ rfl i9 ⟨g2,0,none⟩ 1 1 [.slice b5 V b4] rfl rfl (Xn s3) ?d2 ?d3 ?d4 ?d5 ?_;case d2=>first | rfl | (intro u C;simp at C;rcases C with rfl;rfl)
    case d3=>unfold maxLen;omega
    case d4=>omega
    case d5=>omega
    intro Z c2 J i4 c8 i1;have e0:Q0 (fun b=>u.ownBlock=some b\/v.ownBlock=some b) d J:=e7.trans (c8.mono fun b _ e=>.inr e);refine a.out _ _ (Q.out _ (e0)) (fun _=>?_);clear a K;try simp only [Act.put]
    have d0:=Qm c9 c8 (fun g hg e=>Gz c9 i9 zd g hg e);have d1:=i4;have d6:(Value.slice L (i+1) y).ownBlock=u.ownBlock\/∃ k,d.heap.size<=k/\(Value.slice L (i+1) y).ownBlock=some k:=i0.imp id fun e=>⟨_,by omega,e⟩;have d7:(Value.slice Z (i+1) c2).ownBlock=v.ownBlock\/∃ k,d.heap.size<=k/\(Value.slice Z (i+1) c2).ownBlock=some k:=i1.imp id fun e=>⟨_,by omega,e⟩;have B:Q0 (fun b=>u.ownBlock=some b\/v.ownBlock=some b) d J:=e0;obtain⟨⟨j7,k0,j9,c0⟩,c6⟩:=j.out.push s.out k8 k9 k5.out oz o6.out j0 o5.out g9 (x:=(a7,k2)) (W:=J) (u':=.slice L (i+1) y) (v':=.slice Z (i+1) c2) (by rw [e8.out];exact d0) (by rw [e8.out,g6.out];exact d1) B d6 d7;have g3:=Zh c0;have g4:=Zh c6;have v0:=cell_of_one (B.heap j.out.bu (X.out n (.inl rfl)));have v2:=free_of_one (B.heap j.out.bu (X.out n (.inl rfl)));have c7:(J.setCell ⟨n,0,none⟩ (.slice L (i+1) y)).heap[n+1]?=some (.cells #[v] 46 (0,0)):=(Q0.set1 _ n 0 _).heap (B.heap j.out.bv (X.out _ (.inr rfl))) oz;have b6:=Zh c7;clear c0 c6 B d0 d1 d6 d7 c7;refine rE [8] ?_;refine Q2.late rfl rfl (fun K a=>?_) Q2.nil;refine iw rfl ?_;go_simp;refine a.out _ _ ?_;clear a K
    (try change Qg _ _ _ _ _ _ _ _ (Act.put _ none _) _)
    (try simp only [Act.put])
    have v1:=cell_of_one b6.out;have v3:=free_of_one b6.out;refine rE [9] ?_;refine Q2.late rfl rfl (fun K a=>?_) Q2.nil;refine iw rfl ?_;go_simp;refine a.out _ _ ?_;clear a K
    (try change Qg _ _ _ _ _ _ _ _ (Act.put _ none _) _)
    (try simp only [Act.put])
    refine Qn kz ?_ _;exact⟨g4.out,j7,k0,j9,g3.out⟩
  ·refine iw rfl ?_;go_simp;obtain⟨N,b2⟩:=zE (D.alloc (.cells #[.slice b5 V b4] 32));have E:Ext D N:=by rw [<-b2];exact(Q0.refl _ _).alloc _
   have f8:N.heap[D.heap.size]?=some (.cells #[.slice b5 V b4] 32 (0,0)):=by rw [<-b2];exact Q5 rfl
   obtain⟨g2,c1⟩:=zE D.heap.size;rw [b2,c1];rw [c1] at f8;have A6:=E.size;clear b2;refine a.out _ _ (Q.out _ (Ext.of (m.trans E))) (fun _=>?_);clear a K;try simp only [Act.put,pq]
   refine rE [2] ?_;refine Q2.cons rfl (fun K a=>?_) Q2.nil;refine iw rfl ?_;go_simp;obtain⟨R,b3⟩:=zE (N.alloc (.cells #[.int .i64 (a7:Int)] 3));have O:Ext N R:=by rw [<-b3];exact(Q0.refl _ _).alloc _
   have j2:R.heap[N.heap.size]?=some (.cells #[.int .i64 (a7:Int)] 3 (0,0)):=by rw [<-b3];exact Q5 rfl
   obtain⟨k4,i2⟩:=zE N.heap.size;rw [b3,i2];rw [i2] at j2;have A7:=O.size;clear b3;refine a.out _ _ (Q.out _ (Ext.of ((m.trans E).trans O))) (fun _=>?_);clear a K;try simp only [Act.put,pq]
   refine rE [3] ?_;refine Q2.cons rfl (fun K a=>?_) Q2.nil;refine iw rfl ?_;refine Y8 (.tmp 26) (.tmp 28) 45 rfl (c+2) 3 _ 1 8 Tryz.underlying45 Tryz.infoI rfl zd _ _ _ rfl (Ql n3.out ((m.trans E).trans O)) ⟨k4,0,none⟩ 1 1 [.int .i64 (a7:Int)] rfl rfl (Xn j2) ?c2 ?c3 ?c4 ?c5 ?_;case c2=>first | rfl | (intro u C;simp at C;rcases C with rfl;rfl)
   case c3=>unfold maxLen;omega
   case c4=>omega
   case c5=>omega
   intro L y b7 c9 a6 i0;have e7:Q0 (fun b=>u.ownBlock=some b\/v.ownBlock=some b) d b7:=(Ext.of ((m.trans E).trans O)).trans (a6.mono fun b _ e=>.inl e);have A5:=e7.size;have s3:=a6.heap (O.keep f8) (fun e=>by have:=(j.out.ou.lt _ e).2;omega);refine a.out _ _ (Q.out _ (e7)) (fun _=>?_);clear a K;try simp only [Act.put,pq]
   have i9:=Qm n4.out (((Ext.of ((m.trans E).trans O)).trans a6):Q0 (fun b=>u.ownBlock=some b) d b7) (fun g hg e=>o2.out g e hg);refine rE [7] ?_;refine Q2.cons rfl (fun K a=>?_) Q2.nil;refine iw rfl ?_;refine Y8 (.tmp 30) (.tmp 32) 46 rfl (c+2) 32 _ 1 24 Tryz.underlying46 Tryz.infoW rfl zd _ _ _ rfl i9 ⟨g2,0,none⟩ 1 1 [.slice b5 V b4] rfl rfl (Xn s3) ?d2 ?d3 ?d4 ?d5 ?_;case d2=>first | rfl | (intro u C;simp at C;rcases C with rfl;rfl)
   case d3=>unfold maxLen;omega
   case d4=>omega
   case d5=>omega
   intro Z c2 J i4 c8 i1;have e0:Q0 (fun b=>u.ownBlock=some b\/v.ownBlock=some b) d J:=e7.trans (c8.mono fun b _ e=>.inr e);refine a.out _ _ (Q.out _ (e0)) (fun _=>?_);clear a K;try simp only [Act.put]
   have d0:=Qm c9 c8 (fun g hg e=>Gz c9 i9 zd g hg e);have d1:=i4;have d6:(Value.slice L (i+1) y).ownBlock=u.ownBlock\/∃ k,d.heap.size<=k/\(Value.slice L (i+1) y).ownBlock=some k:=i0.imp id fun e=>⟨_,by omega,e⟩;have d7:(Value.slice Z (i+1) c2).ownBlock=v.ownBlock\/∃ k,d.heap.size<=k/\(Value.slice Z (i+1) c2).ownBlock=some k:=i1.imp id fun e=>⟨_,by omega,e⟩;have B:Q0 (fun b=>u.ownBlock=some b\/v.ownBlock=some b) d J:=e0;obtain⟨⟨j7,k0,j9,c0⟩,c6⟩:=j.out.push s.out k8 k9 k5.out oz o6.out j0 o5.out g9 (x:=(a7,k2)) (W:=J) (u':=.slice L (i+1) y) (v':=.slice Z (i+1) c2) (by rw [e8.out];exact d0) (by rw [e8.out,g6.out];exact d1) B d6 d7;have g3:=Zh c0;have g4:=Zh c6;have v0:=cell_of_one (B.heap j.out.bu (X.out n (.inl rfl)));have v2:=free_of_one (B.heap j.out.bu (X.out n (.inl rfl)));have c7:(J.setCell ⟨n,0,none⟩ (.slice L (i+1) y)).heap[n+1]?=some (.cells #[v] 46 (0,0)):=(Q0.set1 _ n 0 _).heap (B.heap j.out.bv (X.out _ (.inr rfl))) oz;have b6:=Zh c7;clear c0 c6 B d0 d1 d6 d7 c7;refine rE [8] ?_;refine Q2.late rfl rfl (fun K a=>?_) Q2.nil;refine iw rfl ?_;go_simp;refine a.out _ _ ?_;clear a K
   (try change Qg _ _ _ _ _ _ _ _ (Act.put _ none _) _)
   (try simp only [Act.put])
   have v1:=cell_of_one b6.out;have v3:=free_of_one b6.out;refine rE [9] ?_;refine Q2.late rfl rfl (fun K a=>?_) Q2.nil;refine iw rfl ?_;go_simp;refine a.out _ _ ?_;clear a K
   (try change Qg _ _ _ _ _ _ _ _ (Act.put _ none _) _)
   (try simp only [Act.put])
   refine Qn kz ?_ _;exact⟨g4.out,j7,k0,j9,g3.out⟩
theorem He{w:World}{v:Value}{ws:Wd}(j:Q7 w v ws)(E:ws.length<=1000000) :
  Calls Tryz.prog 14 #[v] w fun e w'=>∃ ao cap,e=.returned (.slice ao ws.length cap)/\w'.ownsRow w.heap.size 24 2 (.slice ao ws.length cap) ws.length (Qj ws)/\Ext w w':=by
 have c:=j.1;obtain⟨C,m,ao,cap,rfl,d⟩:=c;have y:=Zh j;obtain⟨f,i⟩:=zE ws.length;rw [i] at m d E ⊢;have l:=Zh i;clear j i C;unfold maxLen at m;cases ao with
 | none=>
  have F:f=0:=by
   apply Nat.eq_zero_of_not_pos;intro D;obtain⟨I,J,n,_⟩:=d D;cases n
  subst F;have H:ws=[]:=List.eq_nil_of_length_eq_zero l.out;subst H;clear d;have G:=fun(w:World)=>Lib.run_eql_slice_nil (P:=Tryz.prog) w 32 24 none 0 cap 0 0 Tryz.underlying32;go_enter Tryz.func14,Tryz.ntmps14;go_wp2;go_ret;exact⟨none,0,rfl,World.ownsRow_nil _ _ _ _,Q0.refl _ _⟩
 | some a=>
  clear d;have G:=fun(w:World)=>Lib.run_eql_slice_nil (P:=Tryz.prog) w 32 24 (some a) f cap 0 0 Tryz.underlying32;go_enter Tryz.func14,Tryz.ntmps14;have g:Ext w (w.alloc (.cells #[] 24)):=(Q0.refl _ w).alloc _;have p:=World.ownsRow_made (base:=w.heap.size) (e:=24) (size:=2) w #[] 0 (Nat.le_refl _) zd rfl;have c:=(y.out.ext g).1;rw [l.out] at c;obtain⟨t,x,k⟩:=Zh3 p c g;clear p c g
  go_wp2_with (at_builtin;refine Kp rfl (.tmp 5) (.tmp 6) 32 rfl w.heap.size 24 _ 2 8 Tryz.underlying32 @V3 rfl zd _ 0 [] rfl t.out _ _ _ _ rfl x.out (De ws) ?c3 ?c4 ?c5 ?_)
  case c3=>unfold maxLen;omega
  case c4=>omega
  case c5=>exact k.out.size
  intro A B z q r _;have o:Ext w z:=k.out.after r (fun b n e=>by simp [Value.ownBlock] at e;omega);have u:=Zh q;have s:=Zh o;clear q o r;go_wp2;go_ret;refine⟨A,B,?_,?_,s.out⟩
  ·first | rfl | simp
  ·have:=u.out
   simpa using this
theorem Zc.own{w:World}{base:Nat}{e:TypeId}{ao:Option Addr}{c:Nat}{u:Wd}(h:w.ownsRow base e 2 (.slice ao u.length c) u.length (Qj u)) (hok:Z5 u):Zc w (.slice ao u.length c) u:=⟨ao,c,rfl,G8 h hok,(Uk h).1⟩
theorem Zc.nil(w:World):Zc w (.slice none 0 0) []:=⟨none,0,rfl,⟨⟨rfl,by simp [maxLen],none,0,rfl,fun h=>by simp at h⟩,by simp [Z5]⟩,Nat.le_refl _⟩
theorem Rn{l:Qa}{ws:Wd}(h:Ze l ws≠0):trE l ws≠0:=by
 unfold trE;rw [if_neg h];exact h
theorem R7{l:Qa}{ws:Wd}(h:trE l ws=0):Ze l ws=0:=by
 apply Decidable.byContradiction;intro a;exact Rn a h
theorem P0{l:Qa}{ws:Wd}(h:trE l ws=0)(a:(trT l ws).length=0):X3 l ws=ws:=by
 unfold trT at a;rw [if_pos h] at a;unfold X3 Lj;rw [if_pos h,List.eq_nil_of_length_eq_zero a];rfl
theorem Nf{l:Qa}{ws:Wd}(h:trE l ws=0){k:Nat}(b:(trT l ws).length=k+1):∀(hk:k<(trT l ws).length),(trT l ws)[k].2=X3 l ws:=by
 intro hk;have a:trT l ws=Qt l ws:=by unfold trT;rw [if_pos h]
 unfold X3 Lj;rw [if_pos h,List.getLastD_eq_getLast?,List.getLast?_eq_getElem?,List.length_map,<-a,b,Nat.add_sub_cancel,List.getElem?_map,List.getElem?_eq_getElem hk];rfl
theorem Pq{l:Qa}{ws:Wd}(h:trE l ws≠0):X3 l ws=[]:=by unfold X3;rw [if_neg h]
theorem N6{w:World}{l:Qa}{cs:List Value}{vo:Option Addr}{vc:Nat}{ws:Wd}(U:Z3 w l cs)(C:Q7 w (.slice vo ws.length vc) ws) (f2:ws.length<=vc) (b5:Tab w) :
  Calls Tryz.prog 6 #[.agg cs.toArray,.slice vo ws.length vc] w fun e w'=>∃ u,e=.returned (.tuple #[u,.int .i64 (trE l ws)])/\Zc w' u (X3 l ws)/\Z6 (fun g=>w.heap.size<=g) u/\Ext w w':=by
 have t:=fun(V:World) (c:Ext w V)=>Nb (U.ext c) (C.ext c) f2 (b5.keep c id);have Q:=fun(V:World) (c:Ext w V) (d:ws.length<=32)=>He (C.ext c) (Nat.le_trans d zd);have c0:=C.2;have B:trE l ws=0->ws.length<=32:=fun m=>K0 (X1 (R7 m)).2;have n:=@P0 l ws;have p:=@Nf l ws;have z:=@Pq l ws;obtain⟨e2,Y⟩:=zE ws.length;rw [Y] at t Q B ⊢;obtain⟨d3,c6,d8,c8,d1,a8,b0,d4,a3,b2,c7,d9,c9,d2,a9,b1,d5,a4,b3,c5,a5,c4,d7,a6,d6,d0,rfl,f7,g5,g6,f6,g4,g3,f9,g0,g1,g2,f8,i6,i7,i8,i9,j0⟩:=Zo U;obtain⟨a0,c⟩:=zE (trE l ws);obtain⟨a7,b6⟩:=zE (trT l ws);obtain⟨v,b4⟩:=zE (X3 l ws);rw [c] at t B n p z ⊢;rw [b6] at t n p;rw [b4] at n p z ⊢;obtain⟨a2,I,e7,e6,F,G,H,f0⟩:=Zh8 t Q B c0 n p z Y;clear U C b5 t Q B c0 n p z c b6 b4 Y;go_enter Tryz.func6,Tryz.ntmps6;go_upto_region 1 with (fail)
 obtain⟨e0,E⟩:=zE (w.alloc (.cells #[.string d3,.int .i64 c6,.int .u32 (d8:Int),.int .u32 (c8:Int),.bool d1,.int .i64 a8,.int .i64 b0,.slice d4 a3 b2,.int .i64 c7,.int .u32 (d9:Int),.int .u32 (c9:Int),.bool d2,.int .i64 a9,.int .i64 b1,.slice d5 a4 b3,.slice c5 a5 c4,.slice d7 a6 d6,.int .i64 d0] 34));have A:Ext w e0:=by rw [<-E];exact(Q0.refl _ w).alloc _
 have W:e0.heap[w.heap.size]?=some (.cells #[.string d3,.int .i64 c6,.int .u32 (d8:Int),.int .u32 (c8:Int),.bool d1,.int .i64 a8,.int .i64 b0,.slice d4 a3 b2,.int .i64 c7,.int .u32 (d9:Int),.int .u32 (c9:Int),.bool d2,.int .i64 a9,.int .i64 b1,.slice d5 a4 b3,.slice c5 a5 c4,.slice d7 a6 d6,.int .i64 d0] 34 (0,0)):=by rw [<-E];exact Q5 rfl
 rw [E];obtain⟨e3,L⟩:=zE w.heap.size;rw [L] at W ⊢;have a1:=Zh W;have f5:=Zh L;clear E W L
 go_wp2_with (refine wpList_load_row rfl 34 (.tmp 2) rfl e3 rfl _ _ _ _ a1.out Tryz.underlying34 rfl Tryz.lawInfo ?_)
 refine(a2.out _ A).mono ?_;rintro e e1 ⟨u,j3,rfl,N,r⟩;have q:=A.trans r;have s:=N.out;obtain⟨j2,j1,j5,j4,rfl,rfl,c3⟩:=s.slices;obtain⟨e5,e8,e9⟩:=Zh3 N A.size q.size;clear N r A a1 a2;by_cases m:a0=0;case neg=>
  have i1:(a0 != 0)=true:=by rw [bne_iff_ne];exact m
  have i:=H.out m;subst i;clear s;go_wp2;go_ret2;exact⟨_,rfl,Zc.nil _,fun g o a y e h=>(by cases e),q⟩
 subst m;have f3:=e7.out rfl;obtain⟨a,d⟩:=zE a7.length;rw [d] at c3 ⊢;unfold maxLen at c3;by_cases b8:a=0
 ·subst b8;have i:=F.out rfl d;have e4:=Zh (I.out e1 q f3);clear s d F G H I;go_wp2_with fail;refine e4.out.mono ?_;rintro e f4 ⟨k,K,rfl,M,r⟩;have f1:=q.trans r;have c1:Zc f4 (.slice k e2 K) v:=by
   rw [i];have:=M;rw [<-f0.out] at this ⊢;exact Zc.own this e6.out
  have j:Z6 (fun g=>w.heap.size<=g) (.slice k e2 K):=fun g o a y e h=>by
   cases e;rcases M.2 with ⟨Z,_⟩ | ⟨i0,g8,g9,Z,i2,_⟩
   ·cases Z
   ·cases Z;have:=e9.out;omega
  have x:=Zh c1;have J:=Zh j;clear M r i c1 j;go_wp2;go_ret2;exact⟨_,rfl,x.out,J.out,f1⟩
 ·obtain⟨f,rfl⟩:∃ f,a=f+1:=⟨a - 1,by omega⟩;have S:f<a7.length:=by omega
  obtain⟨g,K,k,y,c2,O,X,P⟩:=s.at S;have i:=G.out rfl d S;rw [i] at O X P;rw [d] at c2;cases c2;have b9:=e5.out;have j:=(b9.fresh S O).mono (T:=fun g=>w.heap.size<=g) (fun g hg=>Nat.le_trans e8.out hg);have x:Hid (Zc e1 (.slice k v.length y) v):=Zh ⟨k,y,rfl,X,P⟩;obtain⟨g7,b7⟩:=zE v.length;rw [b7] at O x j;have J:=Zh j;have i3:((f+1:Nat):Int) - 1=(f:Int):=by omega
  have i4:(0:Int)<((f+1:Nat):Int):=by omega
  have i5:(f:Int)<((f+1:Nat):Int):=by omega
  clear s d F G H I X P i b7 b8 b9 j;go_wp2;go_ret2;exact⟨_,rfl,x.out,J.out,q⟩
theorem Xk{w:World}{l:Qa}{cs:List Value}{vo:Option Addr}{vc:Nat}{ws:Wd}(hl:Z3 w l cs)(hv:Q7 w (.slice vo ws.length vc) ws) (hcap:ws.length<=vc) (hT:Tab w) :
  Calls Tryz.prog 6 #[.agg cs.toArray,.slice vo ws.length vc] w fun e w'=>∃ u,e=.returned (.tuple #[u,.int .i64 (trE l ws)])/\Zc w' u (X3 l ws)/\Ext w w':=
 (N6 hl hv hcap hT).mono fun _ _ ⟨u,h1,h2,_,h3⟩=>⟨u,h1,h2,h3⟩
abbrev M8:Pat:=.node 1 4 0 false 0 0 []
abbrev Kv:Pat:=.node 0 0 0 false 0 0 []
abbrev Sf:Pat:=.node 6 0 0 false 0 0 []
abbrev Um:Qa:=⟨⟨#[86]⟩,M8,M8,[(2,0)],[⟨0,0,(1,0),0,0⟩],1⟩
abbrev Ul:Qa:=⟨⟨#[70]⟩,Kv,Sf,[(4,0)],[],1⟩
abbrev Yk:Wd:=[(5,2),(2,5),(5,2),(2,5),(5,2)]
abbrev Je:Wd:=[(5,2),(3,4),(5,2),(3,4),(5,2)]
abbrev Yw:Wd:=[(5,2),(2,5),(5,2)]
abbrev Vl:Wd:=[(5,2),(2,5)]
theorem Dn:trE Um Yk=0/\X3 Um Yk=Je:=by decide +kernel
theorem Wv:trE Ul Yw=0/\X3 Ul Yw=Vl:=by decide +kernel
theorem Wn:Ze Um Yk=0/\Gp Um Yk=[1,3]:=by decide +kernel
theorem Dx:Xc Ul=0/\Vv Ul=2:=by decide +kernel
theorem Xm{a:Func}{t u v:Tmp}(h:a.results=#[.tmp t,.tmp u,.tmp v])(tmps:Array Value)(P:Program)(w:World) :
  (results a tmps).run P w=.ok (.tuple #[tmps.getD t undef,tmps.getD u undef,tmps.getD v undef]) w:=by
 simp [results,h]
theorem M4(l:Qa)(ws:Wd)(z:Int):Ha l ws z=if Ze l ws=0 then(if z<0\/100<z then([],0,3) else Kd l z.toNat 0 ws) else([],0,Ze l ws):=rfl
theorem Nl(l:Qa)(f n:Nat)(u:Wd):Kd l (f+1) n u=if trE l u=0 then(if X3 l u=u then(u,n,0) else Kd l f (n+1) (X3 l u)) else([],0,trE l u):=rfl
theorem Fh{w:World}{l:Qa}{cs:List Value}{vo:Option Addr}{vc:Nat}{ws:Wd}(K:Z3 w l cs)(N:Q7 w (.slice vo ws.length vc) ws) (a3:Tab w) (z:Int) :
  Calls Tryz.prog 7 #[.agg cs.toArray,.slice vo ws.length vc,.int .i64 z] w fun e w'=>∃ u,e=.returned (.tuple #[u,.int .i64 ((Ha l ws z).2.1:Int),.int .i64 (Ha l ws z).2.2])/\Zc w' u (Ha l ws z).1/\Ext w w':=by
 have I:=fun(V:World) (k:Ext w V)=>Ju (K.ext k) (N.ext k) (a3.keep k id);have a6:=fun(V:World) (k:Ext w V) (hn:ws.length<=32)=>He (N.ext k) (Nat.le_trans hn zd);have e0:=fun(V:World) (k:Ext w V) (u:Wd) (i:Option Addr) (j:Nat) (hu:Q7 V (.slice i u.length j) u) (y:u.length<=j)=>Xk (K.ext k) hu y (a3.keep k id);have e2:=N.2;have L:Ze l ws=0->ws.length<=32:=fun o=>K0 (X1 o).2;have s:=M4 l ws z;obtain⟨j5,b0⟩:=zE ws.length;rw [b0] at I a6 L ⊢;obtain⟨f5,e8,g0,f0,f3,c6,c8,f6,c2,d0,e9,g1,f1,f4,c7,c9,f7,c3,d1,e7,c4,e6,f9,c5,f8,f2,rfl,j8,k7,k8,j7,k6,k5,k1,k2,k3,k4,k0,l2,l3,l4,l5,l6⟩:=Zo K;obtain⟨m,d7⟩:=zE (Ze l ws);obtain⟨F,d8⟩:=zE (Ha l ws z);rw [d7] at I L s;rw [d8] at s ⊢;obtain⟨b5,b6,g5,b9,g8,r,Y⟩:=Zh7 I a6 e0 L e2 s b0;clear K N a3 I a6 e0 L e2 s d7 d8 b0;go_enter Tryz.func7,Tryz.ntmps7;go_upto_region 1 with (fail)
 obtain⟨g2,O⟩:=zE (w.alloc (.cells #[.string f5,.int .i64 e8,.int .u32 (g0:Int),.int .u32 (f0:Int),.bool f3,.int .i64 c6,.int .i64 c8,.slice f6 c2 d0,.int .i64 e9,.int .u32 (g1:Int),.int .u32 (f1:Int),.bool f4,.int .i64 c7,.int .i64 c9,.slice f7 c3 d1,.slice e7 c4 e6,.slice f9 c5 f8,.int .i64 f2] 34));have a1:Ext w g2:=by rw [<-O];exact(Q0.refl _ w).alloc _
 have a7:g2.heap[w.heap.size]?=some (.cells #[.string f5,.int .i64 e8,.int .u32 (g0:Int),.int .u32 (f0:Int),.bool f3,.int .i64 c6,.int .i64 c8,.slice f6 c2 d0,.int .i64 e9,.int .u32 (g1:Int),.int .u32 (f1:Int),.bool f4,.int .i64 c7,.int .i64 c9,.slice f7 c3 d1,.slice e7 c4 e6,.slice f9 c5 f8,.int .i64 f2] 34 (0,0)):=by rw [<-O];exact Q5 rfl
 rw [O];obtain⟨S,a0⟩:=zE w.heap.size;rw [a0] at a7 ⊢;have U:=Zh a7;have j6:=Zh a0;clear O a7 a0
 go_wp2_with (refine wpList_load_row rfl 34 (.tmp 3) rfl S rfl _ _ _ _ U.out Tryz.underlying34 rfl Tryz.lawInfo ?_)
 refine(b5.out _ a1).mono ?_;rintro e j2 ⟨rfl,d⟩;have x:=a1.trans d;have b7:=Zh (d.keep U.out);clear d a1 U b5;by_cases o:m=0;case neg=>
  have i5:(m != 0)=true:=by rw [bne_iff_ne];exact o
  have c:=r.out;rw [if_neg o] at c;subst c;go_wp2;exact bodyPost_ret (Xm rfl _ _ _) rfl ⟨_,rfl,Zc.nil _,x⟩
 subst o;have j1:=b9.out rfl;have E:Hid (F=if z<0\/100<z then([],0,3) else Kd l z.toNat 0 ws):=Zh (by rw [r.out,if_pos rfl]);clear r b9;by_cases P:z<0
 ·have c:=E.out;rw [if_pos (.inl P)] at c;subst c;go_wp2;exact bodyPost_ret (Xm rfl _ _ _) rfl ⟨_,rfl,Zc.nil _,x⟩
 by_cases Q:100<z
 ·have c:=E.out;rw [if_pos (.inr Q)] at c;subst c;go_wp2;exact bodyPost_ret (Xm rfl _ _ _) rfl ⟨_,rfl,Zc.nil _,x⟩
 obtain⟨g,rfl⟩:=Int.eq_ofNat_of_zero_le (show 0<=z by omega);have b8:Hid (F=Kd l g 0 ws):=Zh (by rw [E.out,if_neg oz];rfl);have k9:g<=100:=by omega
 have b4:=Zh (b6.out j2 x j1);clear E b6 P Q;have P:¬ ((g:Int)<0):=by omega
 have Q:¬ ((100:Int)<(g:Int)):=by omega
 go_wp2_with fail;refine b4.out.mono ?_;rintro e g3 ⟨i,Z,rfl,a2,d⟩;have i6:=x.trans d;have g6:=Zh (d.keep b7.out);have d9:Q7 g3 (.slice i ws.length Z) ws:=by
  have d2:=a2;rw [<-Y.out] at d2;exact G8 d2 g8.out
 have a5:=(Uk a2).1;rw [<-Y.out] at a5;have c0:=Zh d9;rw [show j5=ws.length from Y.out.symm] at *;clear a2 d x b7 b4 P Q d9;go_wp2
 refine wp_loop (fun a B=>∃(f:Nat) (u:Wd) (p:Nat) (i:Option Addr) (j:Nat),f<=g/\a.defers=[]/\gS a [2,3,10,28,29]=(50,[.int .i64 g,.pointer (some ⟨S,0,none⟩),.slice i p j,.int .i64 g,.int .i64 f])/\u.length=p/\Q7 B (.slice i p j) u/\p<=j/\Kd l (g - f) f u=F/\Ext g3 B)
  (fun a _=>g - (intOf (a.tmps.getD 29 undef)).toNat) ?_ ?_
 ·exact⟨0,ws,_,i,Z,by omega,rfl,rfl,rfl,c0.out,a5,by rw [b8.out];rfl,Q0.refl _ _⟩
 clear c0 b8 a5 i Z;rintro⟨l7,_⟩ B ⟨f,q,p,i,j,l0,j0,e3,e4,e5,y,s,k⟩;subst j0;obtain⟨u,rfl⟩:=Zf e3;clear e3;have d6:=k.keep g6.out;have G:=i6.trans k;obtain⟨W,r,t,v⟩:=Zh4 d6 s e4 e5;clear d6 s e4 e5;by_cases l1:f<g;case neg=>
  obtain rfl:f=g:=by omega
  have i4:¬ ((f:Int)<(f:Int)):=by omega
  have c:=r.out;rw [Nat.sub_self] at c;have c:(q,f,(0:Int))=F:=c;subst c;have X:Hid (Zc B (.slice i p j) q):=Zh (by subst p;exact⟨i,j,rfl,v.out,y⟩);clear v r t;go_wp2;exact bodyPost_ret (Xm rfl _ _ _) rfl ⟨_,rfl,X.out,G⟩
 have i4:(f:Int)<(g:Int):=by omega
 have M:=Nl l (g - (f+1)) f q;rw [show g - (f+1)+1=g - f by omega,r.out] at M;have H:=g5.out B G q i j (by rw [t.out];exact v.out) (by rw [t.out];exact y);rw [t.out] at H;obtain⟨b2,d5⟩:=zE (trE l q);obtain⟨R,d3⟩:=zE (X3 l q);rw [d5,d3] at M H;have A:=Zh M;have b3:=Zh H;clear M H d5 d3 r
 go_wp2_with (refine wpList_load_row rfl 34 (.tmp 3) rfl S rfl _ _ _ _ W.out Tryz.underlying34 rfl Tryz.lawInfo ?_)
 refine b3.out.mono ?_;rintro e j3 ⟨l8,rfl,⟨i3,i2,rfl,a9,e1⟩,d⟩;have d4:=G.trans d;have i7:=k.trans d;have j9:=Zh (d.keep W.out);have c1:=Zh a9;have J:=eqW a9 (v.out.ext d);have X:Hid (Zc j3 (.slice i p j) q):=Zh (by rw [<-t.out] at y ⊢;exact⟨i,j,rfl,by rw [t.out];exact v.out.ext d,y⟩);obtain⟨i1,a4⟩:=zE R.length;rw [a4] at J e1 c1 ⊢;obtain⟨b1,a8⟩:=zE (decide (R=q));rw [a8] at J;obtain⟨T,g4,C⟩:=Zh3 J a4 a8;clear d a9 J a4 a8 G b3 W v;by_cases o:b2=0;case neg=>
  have i5:(b2 != 0)=true:=by rw [bne_iff_ne];exact o
  have c:=A.out;rw [if_neg o] at c;subst c;go_wp2;exact bodyPost_ret (Xm rfl _ _ _) rfl ⟨_,rfl,Zc.nil _,d4⟩
 subst o;go_wp2_with fail;refine T.out.mono ?_;rintro e j4 ⟨rfl,d⟩;have i9:=d4.trans d;have i8:=i7.trans d;cases b1
 ·have c:=A.out;rw [if_pos tz,if_neg (of_decide_eq_false C.out)] at c;have g9:=Zh c;have i0:=Zh (c1.out.ext d);clear c d T A C;go_wp2;exact⟨⟨f+1,R,i1,i3,i2,by omega,tz,rfl,g4.out,i0.out,e1,g9.out.symm,i8⟩,nz⟩
 ·have c:=A.out;rw [if_pos tz,if_pos (of_decide_eq_true C.out)] at c;subst c;have g7:Hid (Zc j4 (.slice i p j) q):=Zh (X.out.ext d);clear d T A C;go_wp2;exact bodyPost_ret (Xm rfl _ _ _) rfl ⟨_,rfl,g7.out,i9⟩
theorem No{w:World}{l:Qa}{cs:List Value}(d:Z3 w l cs){ws:Wd}(c:Z5 ws)(i:Nat):Z5 (Qv l ws i):=by
 obtain⟨_,_,_,_,_,_,_,_,_,e⟩:=d;unfold Qv Jl;intro b a;rw [List.mem_append,List.mem_append] at a;rcases a with (a | a) | a
 ·exact c b (List.mem_of_mem_take a)
 ·exact Vk (fun b a=>c b (List.mem_of_mem_drop (List.mem_of_mem_take a))) e.2 b a
 ·exact c b (List.mem_of_mem_drop a)
theorem Pb{w:World}{l:Qa}{cs:List Value}(b:Z3 w l cs){ws:Wd}(a:Z5 ws)(z:Int):Z5 (V6 l ws z):=by
 unfold V6
 split
 ·exact No b a _
 ·simp [Z5]
theorem Zc.of_own{w:World}{base:Nat}{e:TypeId}{v:Value}{u:Wd}(h:w.ownsRow base e 2 v u.length (Qj u)) (a:Z5 u):Zc w v u:=by
 obtain⟨_,_,b,c,rfl,_⟩:=Rd.of_own h;exact Zc.own h a
theorem Pu{w:World}{l:Qa}{cs:List Value}{vo:Option Addr}{vc:Nat}{ws:Wd}(hl:Z3 w l cs)(hv:Q7 w (.slice vo ws.length vc) ws) (hcap:ws.length<=vc) (hT:Tab w) (z:Int) :
  Calls Tryz.prog 10 #[.agg cs.toArray,.slice vo ws.length vc,.int .i64 z] w fun e w'=>∃ u,e=.returned (.tuple #[u,.int .i64 (Vr l ws z)])/\Zc w' u (V6 l ws z)/\Ext w w':=
 (N8 hl hv hcap hT z).mono fun _ _ ⟨u,h1,h2,h3⟩=>⟨u,h1,Zc.of_own h2 (Pb hl hv.2 z),h3⟩
abbrev S7:Pat:=.node 2 0 0 false 0 0 []
abbrev Uc:Qa:=⟨⟨#[69]⟩,S7,Kv,[],[⟨-1,0,(5,2),0,0⟩],1⟩
abbrev U0:Qa:=⟨⟨#[77]⟩,Kv,Kv,[(2,0),(4,0)],[⟨1,0,(0,0),0,0⟩,⟨0,0,(0,0),0,0⟩],1⟩
abbrev W4:Qa:=⟨⟨#[84]⟩,Kv,Kv,[(2,0),(2,0)],[⟨0,0,(0,0),1,1⟩,⟨1,0,(0,0),0,0⟩],3⟩
abbrev wPa:Wd:=[(2,5),(5,2)]
abbrev Dr:Wd:=[(5,2),(5,2),(5,2),(2,5),(5,2)]
abbrev Vt:Wd:=[(2,5),(5,2),(2,5),(5,2)]
abbrev Uf:Wd:=[(5,2),(2,5),(5,2),(2,5)]
abbrev Ga:Wd:=[(2,5),(2,5),(3,4)]
abbrev Vx:Wd:=[(2,5),(3,4),(3,4)]
theorem Wb:trE Uc wPa=0/\X3 Uc wPa=Yw:=by decide +kernel
theorem Nz:Ha Uc wPa 3=(Dr,3,0):=by decide +kernel
theorem Ds:Xc Uc=0/\Vv Uc=3:=by decide +kernel
theorem Fa:trE U0 Vt=0/\X3 U0 Vt=Uf:=by decide +kernel
theorem Fb:Xc U0=0/\Vv U0=4:=by decide +kernel
theorem Dh:trE W4 Ga=0/\X3 W4 Ga=Vx:=by decide +kernel
theorem Wp:Vr U0 wPa 1=5/\V6 U0 wPa 1=[]:=by decide +kernel
end Go.Proofs.YtedeckeahmkheaaGreatDoor
