/- law.run (printed by genlrun.py). -/
import Derived.Test.YtejenndedjabhaaGreatDoorU11
import Derived.Test.YtejenndedjabhaaGreatDoorU10
import Derived.Test.YtejenndedjabhaaGreatDoorU12
set_option maxRecDepth 100000
set_option maxHeartbeats 16000000
namespace Go.Proofs.YtejenndedjabhaaGreatDoor
open Go.RowKit Go.Ab
attribute [local go_sem] Oper.semAt_some Z6 Qn
theorem Q6i{w:World}{l:Q5}{cs:List Value}{vo:Option Addr}{vn vc:Nat}(a8:Y7 w l cs) :
  Calls Tryz.prog 200 #[.agg cs.toArray,.slice vo vn vc] w fun e w'=>∃ Bk Bm,e=.returned (.func (.func 209) #[] #[.pointer (some ⟨w.heap.size+1,0,none⟩),.pointer (some ⟨w.heap.size,0,none⟩),.pointer (some ⟨Bk,0,none⟩),.pointer (some ⟨Bm,0,none⟩)]) /\
   LBx w' w.heap.size l cs/\Yz w' (w.heap.size+1) (.slice vo vn vc)/\w'.heap[Bk]?=some (.cells #[.int .i64 (l.ifs.length:Int)] 3 (0,0))/\w'.heap[Bm]?=some (.cells #[.int .i64 (l.outs.length:Int)] 3 (0,0))/\w.heap.size<=Bk/\w.heap.size<=Bm/\Ext w w':=by
 obtain⟨b6,a9,b9,b1,b4,a0,a2,b7,Y,a4,b0,c0,b2,b5,a1,a3,b8,Z,a5,H,p,G,J,j,I,b3,rfl,W,d1,d2,c5,d0,c9,c7,c8,c1,c2,c6,d3,d4,d5,d6,d7⟩:=X5 a8;rw [c1.out,c2.out];clear a8;go_enter Tryz.func200,Tryz.ntmps200;go_upto_region 1 with (fail)
 obtain⟨c,z⟩:=zE ((w.alloc (.cells #[.string b6,.int .i64 a9,.int .u32 (b9:Int),.int .u32 (b1:Int),.bool b4,.int .i64 a0,.int .i64 a2,.slice b7 Y a4,.int .i64 b0,.int .u32 (c0:Int),.int .u32 (b2:Int),.bool b5,.int .i64 a1,.int .i64 a3,.slice b8 Z a5,.slice H p G,.slice J j I,.int .i64 b3] 50)).alloc (.cells #[.slice vo vn vc] 23));have F:Ext w c:=by rw [<-z];exact((Q0.refl _ w).alloc _).alloc _
 have R:c.heap[w.heap.size]?=some (.cells #[.string b6,.int .i64 a9,.int .u32 (b9:Int),.int .u32 (b1:Int),.bool b4,.int .i64 a0,.int .i64 a2,.slice b7 Y a4,.int .i64 b0,.int .u32 (c0:Int),.int .u32 (b2:Int),.bool b5,.int .i64 a1,.int .i64 a3,.slice b8 Z a5,.slice H p G,.slice J j I,.int .i64 b3] 50 (0,0)):=by rw [<-z];exact Q7 (new_at rfl)
 have U:Yz c (w.heap.size+1) (.slice vo vn vc):=by rw [<-z];exact new_at zy
 have T:c.heap.size=w.heap.size+2:=by rw [<-z];simp
 rw [z];clear z;obtain⟨a,Q⟩:=zE w.heap.size;rw [Q] at R U T ⊢;obtain⟨f,V,L,X⟩:=Zh4 T Q R U;have a7:∀(d:World),Q0 (fun b=>c.heap.size<=b) c d->d.cell? ⟨a,15,none⟩=some (.slice H p G)/\d.cell? ⟨a,16,none⟩=some (.slice J j I):=by
  intro d c3;have a6:=c3.heap L.out (by have:=f.out;omega);exact⟨cell_of_row _ _ 15 _ _ _ a6,cell_of_row _ _ 16 _ _ _ a6⟩
 have q:=Zh a7;clear a7 R U T Q;refine Zo (S:=fun d=>d.cell? ⟨a,15,none⟩=some (.slice H p G)/\d.cell? ⟨a,16,none⟩=some (.slice J j I)) [] kz (q.out _ (Q0.drew (Q0.refl _ c))) ?_;intro y;refine tE 0 7 y ?_;refine tE 1 8 y ?_;refine tE 2 9 y ?_;refine tE 3 10 y ?_;refine tE 4 11 y ?_;refine tE 5 12 y ?_;refine rE [6,7] ?_;refine Q1.cons rfl (fun K hK=>?_) (Q1.cons rfl (fun K hK=>?_) Q1.nil)
 ·refine iw rfl ?_;go_simp;have t:Ext c ((c.drew).alloc (.cells #[.int .i64 0] 3)):=Q0.alloc (Q0.drew (Q0.refl _ c)) _;refine hK.out _ _ (q.out _ (Ext.of t)) (fun hS2=>?_);clear hK K;try simp only [Act.put,pq]
  refine rE [7] ?_;refine Q1.cons rfl (fun K hK=>?_) Q1.nil;refine iw rfl ?_;go_simp;have A:Ext c ((c.drew.alloc (.cells #[.int .i64 0] 3)).alloc (.cells #[.int .i64 0] 3)):=Q0.alloc (t) _;refine hK.out _ _ (q.out _ (Ext.of A)) (fun hS3=>?_);clear hK K;try simp only [Act.put,pq]
  rw [f.out,show a+2+1=a+3 from rfl];obtain⟨g,n⟩:=zE (((c.alloc (.cells #[.int .i64 0] 3)).alloc (.cells #[.int .i64 0] 3)).drew);have r:Ext c g:=by rw [<-n];exact(((Q0.refl _ c).alloc _).alloc _).drew
  have v:g.heap[a+2]?=some (.cells #[.int .i64 0] 3 (0,0)):=by rw [<-n];exact Xw (Q7 (new_at f.out.symm))
  have x:g.heap[a+3]?=some (.cells #[.int .i64 0] 3 (0,0)):=by rw [<-n];exact Xw (new_at (by simp [f.out]))
  rw [n];clear n hS2 hS3 t A;refine rE [8] ?_;refine Q1.cons rfl (fun K hK=>?_) Q1.nil;refine iw rfl ?_;have M:=cell_of_one v;have O:=free_of_one v;go_simp;have i:Q0 (fun b=>b=a+2) g (g.setCell ⟨a+2,0,none⟩ (.int .i64 (p:Int))):=Q0.set1 g (a+2) 0 _;have m:=i.heap x oz;have u:=X2 (.int .i64 (p:Int)) v;refine hK.out _ _ (q.out _ ((Ext.of r).trans (i.mono (fun b hb e=>by have:=f.out;omega)))) (fun hS4=>?_);clear hK K M O
  (try change Qx _ _ _ _ _ _ _ _ (Act.put _ none _) _)
  (try simp only [Act.put])
  obtain⟨o,D⟩:=zE (g.setCell ⟨a+2,0,none⟩ (.int .i64 (p:Int)));rw [D] at i m u hS4 ⊢;clear D;refine rE [9] ?_;refine Q1.cons rfl (fun K hK=>?_) Q1.nil;refine iw rfl ?_;have N:=cell_of_one m;have P:=free_of_one m;go_simp;have s:Q0 (fun b=>b=a+3) o (o.setCell ⟨a+3,0,none⟩ (.int .i64 (j:Int))):=Q0.set1 o (a+3) 0 _;have B:=s.heap u oz;have C:=X2 (.int .i64 (j:Int)) m;refine hK.out _ _ (q.out _ (((Ext.of r).trans (i.mono (fun b hb e=>by have:=f.out;omega))).trans (s.mono (fun b hb e=>by have:=f.out;omega)))) (fun _=>?_);clear hK K N P
  (try change Qx _ _ _ _ _ _ _ _ (Act.put _ none _) _)
  (try simp only [Act.put])
  refine Qp kz ?_ _;have k:Ext c (o.setCell ⟨a+3,0,none⟩ (.int .i64 (j:Int))):=Q0.after (Q0.after r i (fun b hb e=>by have:=f.out;omega)) s (fun b hb e=>by have:=f.out;omega);obtain⟨c4,E⟩:=zE (o.setCell ⟨a+3,0,none⟩ (.int .i64 (j:Int)));rw [E] at B C k ⊢;clear E i s m u hS4 r v x;go_wp2;go_ret;refine⟨a+2,a+3,?_⟩;rw [V.out];exact⟨rfl,⟨k.keep L.out,W.out.ext (F.trans k)⟩,k.keep X.out,B,C,by omega,by omega,F.trans k⟩
 ·refine iw rfl ?_;go_simp;have t:Ext c ((c.drew).alloc (.cells #[.int .i64 0] 3)):=Q0.alloc (Q0.drew (Q0.refl _ c)) _;refine hK.out _ _ (q.out _ (Ext.of t)) (fun hS2=>?_);clear hK K;try simp only [Act.put,pq]
  refine rE [6] ?_;refine Q1.cons rfl (fun K hK=>?_) Q1.nil;refine iw rfl ?_;go_simp;have A:Ext c ((c.drew.alloc (.cells #[.int .i64 0] 3)).alloc (.cells #[.int .i64 0] 3)):=Q0.alloc (t) _;refine hK.out _ _ (q.out _ (Ext.of A)) (fun hS3=>?_);clear hK K;try simp only [Act.put,pq]
  rw [f.out,show a+2+1=a+3 from rfl];obtain⟨g,n⟩:=zE (((c.alloc (.cells #[.int .i64 0] 3)).alloc (.cells #[.int .i64 0] 3)).drew);have r:Ext c g:=by rw [<-n];exact(((Q0.refl _ c).alloc _).alloc _).drew
  have v:g.heap[a+2]?=some (.cells #[.int .i64 0] 3 (0,0)):=by rw [<-n];exact Xw (Q7 (new_at f.out.symm))
  have x:g.heap[a+3]?=some (.cells #[.int .i64 0] 3 (0,0)):=by rw [<-n];exact Xw (new_at (by simp [f.out]))
  rw [n];clear n hS2 hS3 t A;refine rE [8] ?_;refine Q1.cons rfl (fun K hK=>?_) Q1.nil;refine iw rfl ?_;have M:=cell_of_one x;have O:=free_of_one x;go_simp;have i:Q0 (fun b=>b=a+3) g (g.setCell ⟨a+3,0,none⟩ (.int .i64 (p:Int))):=Q0.set1 g (a+3) 0 _;have m:=i.heap v oz;have u:=X2 (.int .i64 (p:Int)) x;refine hK.out _ _ (q.out _ ((Ext.of r).trans (i.mono (fun b hb e=>by have:=f.out;omega)))) (fun hS4=>?_);clear hK K M O
  (try change Qx _ _ _ _ _ _ _ _ (Act.put _ none _) _)
  (try simp only [Act.put])
  obtain⟨o,D⟩:=zE (g.setCell ⟨a+3,0,none⟩ (.int .i64 (p:Int)));rw [D] at i m u hS4 ⊢;clear D;refine rE [9] ?_;refine Q1.cons rfl (fun K hK=>?_) Q1.nil;refine iw rfl ?_;have N:=cell_of_one m;have P:=free_of_one m;go_simp;have s:Q0 (fun b=>b=a+2) o (o.setCell ⟨a+2,0,none⟩ (.int .i64 (j:Int))):=Q0.set1 o (a+2) 0 _;have B:=s.heap u oz;have C:=X2 (.int .i64 (j:Int)) m;refine hK.out _ _ (q.out _ (((Ext.of r).trans (i.mono (fun b hb e=>by have:=f.out;omega))).trans (s.mono (fun b hb e=>by have:=f.out;omega)))) (fun _=>?_);clear hK K N P
  (try change Qx _ _ _ _ _ _ _ _ (Act.put _ none _) _)
  (try simp only [Act.put])
  refine Qp kz ?_ _;have k:Ext c (o.setCell ⟨a+2,0,none⟩ (.int .i64 (j:Int))):=Q0.after (Q0.after r i (fun b hb e=>by have:=f.out;omega)) s (fun b hb e=>by have:=f.out;omega);obtain⟨c4,E⟩:=zE (o.setCell ⟨a+2,0,none⟩ (.int .i64 (j:Int)));rw [E] at B C k ⊢;clear E i s m u hS4 r v x;go_wp2;go_ret;refine⟨a+3,a+2,?_⟩;rw [V.out];exact⟨rfl,⟨k.keep L.out,W.out.ext (F.trans k)⟩,k.keep X.out,B,C,by omega,by omega,F.trans k⟩
theorem Q5e{w:World}{BW BL i j:Nat}{l:Q5}{cs:List Value}{vo:Option Addr}{vc:Nat}{ws:Wd}{K:Nat->Prop}(a:Yj l=true)(g:ws.length<=32)(d:ws.length<=vc)(e:Ze K (.slice vo ws.length vc))
  (c:∀ b,K b->b<w.heap.size) (f:∀ W,Q0 (fun b=>¬ K b) w W->Sn W BW BL i j l cs vo vc ws) :
  ∃ m,Kj Tryz.prog 209 #[.pointer (some ⟨BW,0,none⟩),.pointer (some ⟨BL,0,none⟩),.pointer (some ⟨i,0,none⟩),.pointer (some ⟨j,0,none⟩)] (Yh m) (Ty m) (Qv l ws) K w:=by
 obtain⟨_,_,_,⟨o,p⟩,_⟩:=Gu a;by_cases k:l.mode=1
 ·exact⟨9,Q87 a k g d e c f⟩
 by_cases n:l.mode=2
 ·exact⟨2,Q38 a n g d e c f⟩
 ·exact⟨2,Q76 a oz g d e c f⟩
section
variable {α:Type} {H:List α->Nat->Bool} {P:List α->List α} {k m:Nat}
theorem Gp(w:List α):∀(n i:Nat) (d:List α),(Jn H P k w n i d).length<=n
 | 0,_,_=>by simp [Jn]
 | n+1,i,d=>by
  unfold Jn
  split
  ·rw [List.length_cons];split
   ·have:=Gp w n (i+1) (d++P ((w.drop i).take k)++(w.drop i).take 1);omega
   ·have:=Gp w n (i+k) (d++P ((w.drop i).take k));omega
  ·have:=Gp w n (i+1) (d++(w.drop i).take 1);omega
theorem Hg:∀(n:Nat) (w:List α) (i:Nat),(J5 H P k m n w i).length<=n
 | 0,_,_=>by simp [J5]
 | n+1,w,i=>by
  unfold J5
  split
  ·simp
  ·split
   ·rw [List.length_cons];have:=Hg n (Vg P k w i) (i+m+(if k=0 then 1 else 0));omega
   ·have:=Hg n w (i+1);omega
theorem Wi:∀(n:Nat) (w:List α) (i:Nat),(U2 H P k n w i).length<=n
 | 0,_,_=>by simp [U2]
 | n+1,_,0=>by simp [U2]
 | n+1,w,i+1=>by
  unfold U2
  split
  ·rw [List.length_cons];have:=Wi n (Vg P k w i) (i+1 - max k 1);omega
  ·have:=Wi n w i;omega
end
theorem Bo(l:Q5)(ws:Wd):(Qv l ws).length<=ws.length+1:=by
 unfold Qv
 split
 ·exact Gp _ _ _ _
 ·split
  ·exact Hg _ _ _
  ·exact Wi _ _ _
def Qm(w:World)(v:Value)(u:Wd):Prop:=∃ ao c,v=.slice ao u.length c/\Q4 w (.slice ao u.length c) u/\u.length<=c
def Z4(w:World):List Value->List Wd->Prop
 | [],[]=>True
 | v::vs,u::us=>Qm w v u/\Z4 w vs us
 | _,_=>False
theorem Qm.ext{A B:World}{v:Value}{u:Wd}(h:Qm A v u)(f:Ext A B):Qm B v u:=by
 obtain⟨a,b,c,d,e⟩:=h;exact⟨a,b,c,d.ext f,e⟩
theorem Z4.ext{A B:World}:∀ {vs:List Value} {us:List Wd},Z4 A vs us->Ext A B->Z4 B vs us
 | [],[],_,_=>trivial
 | _::_,_::_,⟨h1,h2⟩,ht=>⟨h1.ext ht,h2.ext ht⟩
theorem Z4.snoc{w:World}{v:Value}{u:Wd}:∀ {vs:List Value} {us:List Wd},Z4 w vs us->Qm w v u->Z4 w (vs++[v]) (us++[u])
 | [],[],_,h=>⟨h,trivial⟩
 | _::_,_::_,⟨h1,h2⟩,h=>⟨h1,h2.snoc h⟩
theorem Z4.length{w:World}:∀ {vs:List Value} {us:List Wd},Z4 w vs us->vs.length=us.length
 | [],[],_=>rfl
 | _::_,_::_,⟨_,h2⟩=>by simp [h2.length]
theorem Z4.get{w:World}:∀ {vs:List Value} {us:List Wd},Z4 w vs us->∀ i,i<us.length->Qm w (vs.getD i undef) (us.getD i [])
 | [],[],_,i,h=>by simp at h
 | _::_,_::_,⟨h1,_⟩,0,_=>h1
 | _::_,_::_,⟨_,h2⟩,i+1,h=>h2.get i (by simpa using h)
theorem Q3p{l:Q5}{ws:Wd}(h:J0 l ws=0):trE l ws=0\/trE l ws=11:=by
 unfold trE;rw [if_pos h];split
 ·exact .inr rfl
 ·exact .inl rfl
theorem Q7t{l:Q5}{ws:Wd}(h:J0 l ws≠0):trE l ws≠0:=by
 unfold trE;rw [if_neg h];exact h
theorem Ph{l:Q5}{ws:Wd}(h:trE l ws=0):J0 l ws=0:=by
 apply Decidable.byContradiction;intro a;exact Q7t a h
theorem Q2b{l:Q5}{ws:Wd}(h:trE l ws=0):Jo (Qv l ws)=false:=by
 have a:=Ph h;unfold trE at h;rw [if_pos a] at h;cases hl:Jo (Qv l ws) with
 | false=>rfl
 | true=>rw [hl,if_pos rfl] at h;cases h
theorem Q4r{t:List (Nat × Wd)} (h:Jo t=false) {x:Nat × Wd} (a:x∈t):x.2.length<=32:=by
 unfold Jo at h;rw [List.any_eq_false] at h;have:=h x a
 simpa using this
theorem Gn{A:World}{p:Addr}{v:Value}(h:A.cell? p=some v):∃ o,A.heap[p.block]?=some o/\o.isCells=true:=by
 unfold World.cell? at h
 split at h
 ·exact⟨_,by assumption,rfl⟩
 ·cases h
theorem Q3f{base:Nat}{A B:World}(c:Q0 (Go.Ab.Shut base A) A B) {p:Addr} {v:Value} (h:A.cell? p=some v):B.cell? p=some v:=by
 obtain⟨d,a,b⟩:=Gn h;exact c.cell_some h (Go.Ab.Shut.not a b)
theorem Rd.shut{base:Nat}{A B:World}(a:Q0 (Go.Ab.Shut base A) A B) {v:Value} {n sz:Nat} {xs:List Value} (h:Rd A v n sz xs):Rd B v n sz xs:=by
 obtain⟨e,f,b,c,m,g⟩:=h;refine⟨e,f,b,c,m,fun hn=>?_⟩;obtain⟨d,o,i,l,k⟩:=g hn;exact⟨d,o,i,Nat.lt_of_lt_of_le l a.size,fun j hj=>Q3f a (k j hj)⟩
theorem Rd.nocells{r:Nat}{A B:World}(d:Q0 (fun b=>b=r) A B) (t:∃ o,A.heap[r]?=some o/\o.isCells=false) {v:Value} {n sz:Nat} {xs:List Value} (h:Rd A v n sz xs):Rd B v n sz xs:=by
 obtain⟨l,m,g,i,u,p⟩:=h;refine⟨l,m,g,i,u,fun hn=>?_⟩;obtain⟨k,w,q,s,c⟩:=p hn;refine⟨k,w,q,Nat.lt_of_lt_of_le s d.size,fun j hj=>d.cell_some (c j hj) (fun e=>?_)⟩;obtain⟨o,a,f⟩:=Gn (c j hj);obtain⟨z,x,y⟩:=t;simp only at e a;rw [e,x] at a;cases a;rw [y] at f;cases f
theorem K9{base0:Nat}{A B:World}{base:Nat}{e:TypeId}{sz:Nat}{v:Value}{n:Nat}{xs:List Value}(h:A.ownsRow base e sz v n xs)(ht:Q0 (Go.Ab.Shut base0 A) A B):B.ownsRow base e sz v n xs:=
 Q6w h ht fun _ _ hg ho=>Go.Ab.Shut.not hg ho
theorem Kw{W:World}{f i:Nat}{b c:TypeId}{s1 s2 o p:Nat}{d e:Value}{r s:List Value}(j:W.ownsRow f b s1 d o r)(k:W.ownsRow i c s2 e p s)(l:b≠c):∀ g,d.ownBlock=some g->e.ownBlock≠some g:=by
 intro g m n;obtain⟨t,q⟩:=J4 j m;obtain⟨u,a⟩:=J4 k n;rw [q] at a;simp only [Option.some.injEq,Obj.cells.injEq] at a;exact l a.2.1
theorem Ui{W:World}{g:Nat}{v:Value}{t:TypeId}(h:W.heap[g]?=some (.cells #[v] t (0,0))):∀ j u,[v][j]?=some u->W.cell? ((⟨g,0,none⟩:Addr).add j)=some u:=by
 intro j u a
 match j,a with
 | 0,a=>
  simp at a;subst a;exact cell_of_one h
theorem Qm.keepS{S:Nat->Prop}{A B:World}{v:Value}{u:Wd}(h:Qm A v u)(g:Q0 (fun b=>¬ S b) A B) (f:Ze S v):Qm B v u:=by
 obtain⟨a,c,rfl,d,e⟩:=h;exact⟨a,c,rfl,Dv d g f,e⟩
theorem Qm.shut{base:Nat}{A B:World}(e:Q0 (Go.Ab.Shut base A) A B) {v:Value} {u:Wd} (h:Qm A v u):Qm B v u:=by
 obtain⟨b,c,rfl,a,d⟩:=h;exact⟨b,c,rfl,⟨Rd.shut e a.1,a.2⟩,d⟩
theorem Z4.keepS{S:Nat->Prop}{A B:World}(ht:Q0 (fun b=>¬ S b) A B):∀ {vs:List Value} {us:List Wd},Z4 A vs us->(∀ x∈vs,Ze S x)->Z4 B vs us
 | [],[],_,_=>trivial
 | _::_,_::_,⟨h1,h2⟩,hS=>⟨h1.keepS ht (hS _ zy),h2.keepS ht (fun x hx=>hS x (by simp [hx]))⟩
theorem Z4.shut{base:Nat}{A B:World}(ht:Q0 (Go.Ab.Shut base A) A B):∀ {vs:List Value} {us:List Wd},Z4 A vs us->Z4 B vs us
 | [],[],_=>trivial
 | _::_,_::_,⟨h1,h2⟩=>⟨h1.shut ht,h2.shut ht⟩
theorem Ze.mono{S T:Nat->Prop}{v:Value}(h:Ze S v)(hst:∀ b,S b->T b):Ze T v:=fun g o n c e h0=>hst _ (h g o n c e h0)
def U4(b:Nat)(W:World)(u v:Value)(t:List (Nat × Wd)):Prop:=
 W.ownsRow b 3 1 u t.length (Yt (t.map (·.1)))/\∃ vals,W.ownsRow b 23 1 v t.length vals/\Z4 W vals (t.map (·.2))
theorem U4.nil(b:Nat)(W:World):U4 b W (.slice none 0 0) (.slice none 0 0) []:=⟨World.ownsRow_nil _ _ _ _,[],World.ownsRow_nil _ _ _ _,trivial⟩
theorem U4.ext{b:Nat}{A B:World}{u v:Value}{t:List (Nat × Wd)} (h:U4 b A u v t) (a:Ext A B):U4 b B u v t:=by
 obtain⟨c,f,d,e⟩:=h;exact⟨Qb c a,f,Qb d a,e.ext a⟩
theorem U4.base{b b':Nat}{A:World}{u v:Value}{t:List (Nat × Wd)} (h:U4 b A u v t) (a:b'<=b):U4 b' A u v t:=by
 obtain⟨c,f,d,e⟩:=h;exact⟨Jj c a,f,Jj d a,e⟩
theorem U4.slices{b:Nat}{A:World}{u v:Value}{t:List (Nat × Wd)} (h:U4 b A u v t):∃ uo uc vo vc,u=.slice uo t.length uc/\v=.slice vo t.length vc/\t.length<=maxLen:=by
 obtain⟨a,f,c,e⟩:=h;obtain⟨_,_,uo,uc,rfl,_⟩:=Rd.of_own a;obtain⟨_,d,vo,vc,rfl,_⟩:=Rd.of_own c;exact⟨uo,uc,vo,vc,rfl,rfl,d⟩
theorem U4.at{b:Nat}{A:World}{u j:Value}{t:List (Nat × Wd)} (h:U4 b A u j t) {i:Nat} (e:i<t.length) :
  ∃ g cap ao c,j=.slice (some ⟨g,0,none⟩) t.length cap/\A.cell? ⟨g,i,none⟩=some (.slice ao t[i].2.length c)/\Q4 A (.slice ao t[i].2.length c) t[i].2/\t[i].2.length<=c:=by
 obtain⟨_,w,d,k⟩:=h;obtain⟨s,v,ao,cap,rfl,o⟩:=Rd.of_own d;obtain⟨g,rfl⟩:=Mq d oz;obtain⟨q,r,f,_,p⟩:=o oz;simp only [Option.some.injEq,Addr.mk.injEq] at f;obtain⟨rfl,rfl,_⟩:=f;have a:=k.get i (by simpa using e);have m:(t.map (·.2)).getD i []=t[i].2:=by rw [List.getD_eq_getElem?_getD,List.getElem?_map,List.getElem?_eq_getElem e];rfl
 rw [m] at a;obtain⟨ao,c,n,a,l⟩:=a;have:=p i oz;rw [Nat.zero_add,n] at this;exact⟨g,cap,ao,c,rfl,this,a,l⟩
structure TrI (w:World) (B P D m:Nat) (O:Nat->Prop) (pre:List (Nat × Wd)) (V:World) (u v:Value) (vals:List Value):Prop where
 ru:V.heap[B+1]?=some (.cells #[.slice none 0 0] 36 (0,0))
 rv:V.heap[B+2]?=some (.cells #[.slice none 0 0] 74 (0,0))
 re:V.heap[B+3]?=some (.cells #[.int .i64 0] 32 (0,0))
 bu:V.heap[P]?=some (.cells #[u] 36 (0,0))
 bv:V.heap[P+1]?=some (.cells #[v] 74 (0,0))
 ou:V.ownsRow (D+2) 3 1 u pre.length (Yt (pre.map (·.1)))
 ov:V.ownsRow (D+2) 23 1 v pre.length vals
 wd:Z4 V vals (pre.map (·.2))
 ub:∀ g,u.ownBlock=some g->¬ O g
 vb:∀ g,v.ownBlock=some g->¬ O g
 wk:∀ x∈vals,Ze (fun g=>D+2+m<=g/\g<V.heap.size/\u.ownBlock≠some g/\v.ownBlock≠some g) x
 ext:Ext w V
 short:Jo pre=false
section
variable {w:World} {B P D m:Nat} {O:Nat->Prop} {pre:List (Nat × Wd)} {V:World} {u v:Value} {vals:List Value}
theorem TrI.turn(h:TrI w B P D m O pre V u v vals){O':Nat->Prop}{W:World}(k:w.heap.size=B)(l:B+4<=P)(n:P+2<=D)(j:∀ b,O b->D+2<=b/\b<V.heap.size)
  (c:Q0 (fun b=>(O b/\Yh m (D+2) b)\/b=D+1) V W) (f:∀ b,O' b->(O b\/V.heap.size<=b)/\b<W.heap.size):TrI w B P D m O' pre W u v vals:=by
 have d:∀ b,b<D->¬ ((O b/\Yh m (D+2) b)\/b=D+1):=fun b hb hn=>by
  rcases hn with a | a
  ·have:=(j b a.1).1;omega
  ·omega
 have i:∀ {x:Value},(∀ g,x.ownBlock=some g->¬ O g)->(∀ g,x.ownBlock=some g->D+2<=g)->∀ g,x.ownBlock=some g->¬ ((O g/\Yh m (D+2) g)\/g=D+1):=fun a h2 g hg hn=>by
  rcases hn with e | e
  ·exact a g hg e.1
  ·have:=h2 g hg;omega
 refine⟨c.heap h.ru (d _ oz),c.heap h.rv (d _ oz),c.heap h.re (d _ oz),c.heap h.bu (d _ oz),c.heap h.bv (d _ oz),Qd h.ou c (i h.ub (fun g hg=>(h.ou.lt g hg).1)),Qd h.ov c (i h.vb (fun g hg=>(h.ov.lt g hg).1)),?_,fun g hg hg2=>?_,fun g hg hg2=>?_,fun x hx=>(h.wk x hx).mono fun b hb=>⟨hb.1,Nat.lt_of_lt_of_le hb.2.1 c.size,hb.2.2⟩,h.ext.after c (fun b hb hn=>d b oz hn),h.short⟩
 ·refine h.wd.keepS (S:=fun g=>D+2+m<=g) (c.mono fun b _ hb hn=>?_) (fun x hx=>(h.wk x hx).mono fun b hb=>hb.1);rcases hb with a | a
  ·have:=a.2;unfold Yh at this;omega
  ·omega
 ·rcases(f g hg2).1 with a | a
  ·exact h.ub g hg a
  ·have:=(h.ou.lt g hg).2;omega
 ·rcases(f g hg2).1 with a | a
  ·exact h.vb g hg a
  ·have:=(h.ov.lt g hg).2;omega
theorem TrI.push(h:TrI w B P D m O pre V u v vals)(a1:w.heap.size=B)(a2:B+4<=P)(a3:P+2<=D)(A:∀ b,O b->D+2<=b/\b<V.heap.size)(_hDV:D+2<=V.heap.size)
  {x:Nat × Wd} {ao:Option Addr} {c:Nat} (X:Q4 V (.slice ao x.2.length c) x.2) (N:x.2.length<=c) (Q:Ze (fun g=>O g/\D+2+m<=g/\g<V.heap.size) (.slice ao x.2.length c)) (a0:x.2.length<=32)
  {W:World} {u' v':Value} (t:W.ownsRow (D+2) 3 1 u' (pre.length+1) (Yt (pre.map (·.1))++[.int .i64 (x.1:Int)])) (z:W.ownsRow (D+2) 23 1 v' (pre.length+1) (vals++[.slice ao x.2.length c]))
  (j:Q0 (fun b=>u.ownBlock=some b\/v.ownBlock=some b) V W) (C:u'.ownBlock=u.ownBlock\/∃ k,V.heap.size<=k/\u'.ownBlock=some k) (E:v'.ownBlock=v.ownBlock\/∃ k,V.heap.size<=k/\v'.ownBlock=some k) :
  (∃ u v vals,TrI w B P D m O (pre++[x]) ((W.setCell ⟨P,0,none⟩ u').setCell ⟨P+1,0,none⟩ v') u v vals)/\Q0 (fun b=>¬ ((b<D/\b≠P/\b≠P+1/\b≠B+1/\b≠B+2/\b≠B+3)\/O b\/b=D\/b=D+1)) V ((W.setCell ⟨P,0,none⟩ u').setCell ⟨P+1,0,none⟩ v'):=by
 obtain⟨o,q⟩:=zE ((W.setCell ⟨P,0,none⟩ u').setCell ⟨P+1,0,none⟩ v');have i:Q0 (fun b=>b=P\/b=P+1) W o:=by rw [<-q];exact((Q0.set1 W P 0 u').mono fun b _ a=>.inl a).trans ((Q0.set1 _ (P+1) 0 v').mono fun b _ a=>.inr a)
 have s:∀ b,(u.ownBlock=some b\/v.ownBlock=some b)->D+2<=b/\¬ O b/\b<V.heap.size:=fun b d=>by
  rcases d with d | d
  ·exact⟨(h.ou.lt b d).1,h.ub b d,(h.ou.lt b d).2⟩
  ·exact⟨(h.ov.lt b d).1,h.vb b d,(h.ov.lt b d).2⟩
 have n:∀ b,b<D->¬ (u.ownBlock=some b\/v.ownBlock=some b):=fun b d e=>by have:=(s b e).1;omega
 have I:=j.heap h.bu (n _ oz);have K:=j.heap h.bv (n _ oz);have J:o.heap[P]?=some (.cells #[u'] 36 (0,0)):=by
  rw [<-q];exact(Q0.set1 _ (P+1) 0 v').heap (X2 u' I) oz
 have L:o.heap[P+1]?=some (.cells #[v'] 74 (0,0)):=by
  rw [<-q];exact X2 v' ((Q0.set1 W P 0 u').heap K oz)
 have T:∀ g,u'.ownBlock=some g->D+2<=g:=fun g hg=>(t.lt g hg).1;have U:∀ g,v'.ownBlock=some g->D+2<=g:=fun g hg=>(z.lt g hg).1
 have G:∀ {y y':Value},(∀ g,y.ownBlock=some g->¬ O g)->(y'.ownBlock=y.ownBlock\/∃ k,V.heap.size<=k/\y'.ownBlock=some k)->∀ g,y'.ownBlock=some g->¬ O g:=fun h1 p g hg ho=>by
  rcases p with p | ⟨k,p,l⟩
  ·exact h1 g (p ▸ hg) ho
  ·rw [l] at hg;cases hg;have:=(A _ ho).2;omega
 have H:∀ {y y':Value} (g:Nat),y.ownBlock≠some g->g<V.heap.size->(y'.ownBlock=y.ownBlock\/∃ k,V.heap.size<=k/\y'.ownBlock=some k)->y'.ownBlock≠some g:=fun g h1 p l=>by
  rcases l with l | ⟨k,l,M⟩
  ·rw [l];exact h1
  ·rw [M];intro a;cases a;omega
 have R:=Nat.le_trans j.size i.size;have r:Q0 (fun b=>(u.ownBlock=some b\/v.ownBlock=some b)\/(b=P\/b=P+1)) V o:=(j.mono fun b _ a=>.inl a).trans (i.mono fun b _ a=>.inr a);have Y:Ze (fun g=>D+2+m<=g/\g<V.heap.size/\u.ownBlock≠some g/\v.ownBlock≠some g) (.slice ao x.2.length c):=Q.mono fun b d=>⟨d.2.1,d.2.2,fun a=>h.ub b a d.1,fun a=>h.vb b a d.1⟩
 have F:∀ y∈vals++[.slice ao x.2.length c],Ze (fun g=>D+2+m<=g/\g<V.heap.size/\u.ownBlock≠some g/\v.ownBlock≠some g) y:=fun y f=>by
  rcases List.mem_append.1 f with f | f
  ·exact h.wk y f
  ·simp only [List.mem_singleton] at f;subst f;exact Y
 rw [q];refine⟨⟨u',v',vals++[.slice ao x.2.length c],⟨?_,?_,?_,J,L,?_,?_,?_,G h.ub C,G h.vb E,fun y f=>(F y f).mono fun b d=>⟨d.1,Nat.lt_of_lt_of_le d.2.1 R,H b d.2.2.1 d.2.1 C,H b d.2.2.2 d.2.1 E⟩,?_,?_⟩⟩,r.mono fun b d a e=>?_⟩
 ·exact i.heap (j.heap h.ru (n _ oz)) oz
 ·exact i.heap (j.heap h.rv (n _ oz)) oz
 ·exact i.heap (j.heap h.re (n _ oz)) oz
 ·rw [List.length_append,List.map_append];show o.ownsRow _ _ _ _ _ (Yt (pre.map (·.1)++[x.1]));rw [Kd];exact Qd t i (fun g hg a=>by have:=T g hg;omega)
 ·rw [List.length_append];exact Qd z i (fun g hg a=>by have:=U g hg;omega)
 ·rw [List.map_append];refine(h.wd.snoc ⟨ao,c,rfl,X,N⟩).keepS (S:=fun g=>D+2+m<=g/\g<V.heap.size/\u.ownBlock≠some g/\v.ownBlock≠some g) (r.mono fun b _ a e=>?_) F;rcases a with (a | a) | a
  ·exact e.2.2.1 a
  ·exact e.2.2.2 a
  ·omega
 ·refine h.ext.after r (fun b d a=>?_);rcases a with a | a
  ·exact n b oz a
  ·omega
 ·have:=h.short;unfold Jo at this ⊢;rw [List.any_append,this];simp;omega
 ·rcases a with a | a
  ·obtain⟨a4,Z,a5⟩:=s b a;rcases e with e | e | e | e
   ·omega
   ·exact Z e
   ·omega
   ·omega
  ·rcases e with e | e | e | e
   ·omega
   ·have:=(A b e).1;omega
   ·omega
   ·omega
end
theorem Q60{V:World}{b c d:Nat}{x1 x2 x3:Value}{t1 t2 t3:TypeId}(h1:V.heap[b]?=some (.cells #[x1] t1 (0,0))) (h2:V.heap[c]?=some (.cells #[x2] t2 (0,0))) (h3:V.heap[d]?=some (.cells #[x3] t3 (0,0))) (hbc:b≠c) (hcd:c≠d) (hbd:b≠d) (y1 y2 y3:Value) :
  (((V.setCell ⟨b,0,none⟩ y1).setCell ⟨c,0,none⟩ y2).setCell ⟨d,0,none⟩ y3).heap[b]?=some (.cells #[y1] t1 (0,0))/\(((V.setCell ⟨b,0,none⟩ y1).setCell ⟨c,0,none⟩ y2).setCell ⟨d,0,none⟩ y3).heap[c]?=some (.cells #[y2] t2 (0,0))/\(((V.setCell ⟨b,0,none⟩ y1).setCell ⟨c,0,none⟩ y2).setCell ⟨d,0,none⟩ y3).heap[d]?=some (.cells #[y3] t3 (0,0)) /\
  Q0 (fun x=>x=b\/x=c\/x=d) V (((V.setCell ⟨b,0,none⟩ y1).setCell ⟨c,0,none⟩ y2).setCell ⟨d,0,none⟩ y3):=
 ⟨(Q0.set1 _ d 0 y3).heap ((Q0.set1 _ c 0 y2).heap (X2 y1 h1) oz) oz,(Q0.set1 _ d 0 y3).heap (X2 y2 ((Q0.set1 V b 0 y1).heap h2 oz)) oz,
  X2 y3 ((Q0.set1 _ c 0 y2).heap ((Q0.set1 V b 0 y1).heap h3 oz) oz),(((Q0.set1 V b 0 y1).mono fun x _ e=>.inl e).trans ((Q0.set1 _ c 0 y2).mono fun x _ e=>.inr (.inl e))).trans ((Q0.set1 _ d 0 y3).mono fun x _ e=>.inr (.inr e))⟩
theorem Js{a:Func}{p q r:Tmp}(h:a.results=#[.cell p 36,.cell q 74,.cell r 32]){tmps:Array Value}{w:World}{b c d:Nat}{x y z:Value}
  (i:tmps.getD p undef=.pointer (some ⟨b,0,none⟩)) (k:tmps.getD q undef=.pointer (some ⟨c,0,none⟩)) (m:tmps.getD r undef=.pointer (some ⟨d,0,none⟩))
  (o:w.heap[b]?=some (.cells #[x] 36 (0,0))) (s:w.heap[c]?=some (.cells #[y] 74 (0,0))) (t:w.heap[d]?=some (.cells #[z] 32 (0,0))) :
  (results a tmps).run Tryz.prog w=.ok (.tuple #[x,y,z]) w:=by
 have j:tmps[p]?.getD undef=.pointer (some ⟨b,0,none⟩):=by simpa using i
 have l:tmps[q]?.getD undef=.pointer (some ⟨c,0,none⟩):=by simpa using k
 have n:tmps[r]?.getD undef=.pointer (some ⟨d,0,none⟩):=by simpa using m
 have e:=cell_of_one o;have f:=cell_of_one s;have g:=cell_of_one t;simp [results,h,j,l,n,asAddr,go_sem,e,f,g]
abbrev Qa5:Pat:=.node 0 0 0 false 0 0 []
def Qah(l:Q5)(s:Nat × Nat):Wd:=if Gb s (l.ifs.getD 0 (0,0))=true then Yn l [s] else [s]
def Zf:List Q5->Wd->Option Wd
 | [],w=>some w
 | l::ls,w=>if trE l w=0 then Zf ls (Ja l w) else none
def Zd(ls:List Q5):Int:=if 64<ls.length then 12 else if ls.all Yj=true then 0 else 17
def Zz(ls:List Q5)(w:Wd):Int:=if Zd ls=0 then wE w else Zd ls
def Jl(ls:List Q5)(w:Wd):Int:=if Zz ls w=0 then(if (Zf ls w).isSome=true then 0 else 11) else Zz ls w
def Xf(ls:List Q5)(w:Wd):Wd:=if Zz ls w=0 then(Zf ls w).getD [] else []
theorem Te{ls:List Q5}{w:Wd}(h:Zz ls w≠0):Jl ls w=Zz ls w/\Xf ls w=[]:=by
 unfold Jl Xf;rw [if_neg h,if_neg h];exact⟨rfl,rfl⟩
theorem Lh{ls:List Q5}{w:Wd}(h:Zz ls w=0)(a:Zf ls w=none):Jl ls w=11/\Xf ls w=[]:=by
 unfold Jl Xf;rw [if_pos h,if_pos h,a];exact⟨rfl,rfl⟩
theorem Li{ls:List Q5}{w v:Wd}(h:Zz ls w=0)(a:Zf ls w=some v):Jl ls w=0/\Xf ls w=v:=by
 unfold Jl Xf;rw [if_pos h,if_pos h,a];exact⟨rfl,rfl⟩
theorem Wl:∀(ls ms:List Q5) (w:Wd),Zf (ls++ms) w=(Zf ls w).bind (Zf ms)
 | [],_,_=>rfl
 | l::ls,ms,w=>by
  show Zf (l::(ls++ms)) w=_;unfold Zf;by_cases h:trE l w=0
  ·rw [if_pos h,if_pos h];exact Wl ls ms _
  ·rw [if_neg h,if_neg h];rfl
theorem R5{ls:List Q5}{k:Nat}(a:k<ls.length)(w:Wd):Zf (ls.take (k+1)) w=(Zf (ls.take k) w).bind fun u=>if trE ls[k] u=0 then some (Ja ls[k] u) else none:=by
 rw [List.take_succ_eq_append_getElem a,Wl]
 congr 1
theorem Q32{ls:List Q5}{k:Nat}{w u:Wd}(d:k<ls.length)(b:Zf (ls.take k) w=some u) (c:trE ls[k] u≠0):Zf ls w=none:=by
 have a:ls=ls.take (k+1)++ls.drop (k+1):=(List.take_append_drop _ _).symm;rw [a,Wl,R5 d,b];simp [c]
theorem Q5s{ls:List Q5}{k:Nat}{w:Wd}(a:ls.length<=k):Zf (ls.take k) w=Zf ls w:=by rw [List.take_of_length_le a]
section
variable {α:Type} {H:List α->Nat->Bool} {P:List α->List α} {k m:Nat} {p:α->Prop}
theorem Wx(d:∀ c,(∀ s∈c,p s)->∀ s∈P c,p s) {w:List α} (b:∀ s∈w,p s) (i:Nat):∀ s∈Vg P k w i,p s:=by
 intro s a;unfold Vg at a;rw [List.mem_append,List.mem_append] at a;rcases a with (a | a) | a
 ·exact b s (List.mem_of_mem_take a)
 ·exact d _ (fun s a=>b s (List.mem_of_mem_drop (List.mem_of_mem_take a))) s a
 ·exact b s (List.mem_of_mem_drop a)
theorem Dt(hP:∀ c,(∀ s∈c,p s)->∀ s∈P c,p s) {w:List α} (hw:∀ s∈w,p s):∀(n i:Nat) (d:List α),(∀ s∈d,p s)->∀ x∈Jn H P k w n i d,∀ s∈x.2,p s
 | 0,_,_,_=>fun x hx=>by cases hx
 | n+1,i,d,hd=>fun x hx=>by
  have hc:∀ s∈P ((w.drop i).take k),p s:=hP _ fun s hs=>hw s (List.mem_of_mem_drop (List.mem_of_mem_take hs));have h1:∀ s∈(w.drop i).take 1,p s:=fun s hs=>hw s (List.mem_of_mem_drop (List.mem_of_mem_take hs));have hdc:∀ s∈d++P ((w.drop i).take k),p s:=fun s hs=>(List.mem_append.1 hs).elim (hd s) (hc s);unfold Jn at hx
  split at hx
  ·rcases List.mem_cons.1 hx with rfl | hx
   ·intro s hs;rcases List.mem_append.1 hs with hs | hs
    ·exact hdc s hs
    ·exact hw s (List.mem_of_mem_drop hs)
   ·split at hx
    ·exact Dt hP hw n _ _ (fun s hs=>(List.mem_append.1 hs).elim (hdc s) (h1 s)) x hx
    ·exact Dt hP hw n _ _ hdc x hx
  ·exact Dt hP hw n _ _ (fun s hs=>(List.mem_append.1 hs).elim (hd s) (h1 s)) x hx
theorem Ds(hP:∀ c,(∀ s∈c,p s)->∀ s∈P c,p s):∀(n:Nat) (w:List α) (i:Nat),(∀ s∈w,p s)->∀ x∈J5 H P k m n w i,∀ s∈x.2,p s
 | 0,_,_,_=>fun x hx=>by cases hx
 | n+1,w,i,hw=>fun x hx=>by
  unfold J5 at hx
  split at hx
  ·cases hx
  ·split at hx
   ·rcases List.mem_cons.1 hx with rfl | hx
    ·exact Wx hP hw i
    ·exact Ds hP n _ _ (Wx hP hw i) x hx
   ·exact Ds hP n _ _ hw x hx
theorem Fj(hP:∀ c,(∀ s∈c,p s)->∀ s∈P c,p s):∀(n:Nat) (w:List α) (i:Nat),(∀ s∈w,p s)->∀ x∈U2 H P k n w i,∀ s∈x.2,p s
 | 0,_,_,_=>fun x hx=>by cases hx
 | _+1,_,0,_=>fun x hx=>by cases hx
 | n+1,w,i+1,hw=>fun x hx=>by
  unfold U2 at hx
  split at hx
  ·rcases List.mem_cons.1 hx with rfl | hx
   ·exact Wx hP hw i
   ·exact Fj hP n _ _ (Wx hP hw i) x hx
  ·exact Fj hP n _ _ hw x hx
end
theorem Q0y{p:Nat × Nat->Prop}{l:Q5}(a:∀ c:Wd,(∀ s∈c,p s)->∀ s∈Yn l c,p s) {ws:Wd} (b:∀ s∈ws,p s):∀ x∈Qv l ws,∀ s∈x.2,p s:=by
 unfold Qv
 split
 ·exact Dt a b _ _ _ (fun s hs=>by cases hs)
 ·split
  ·exact Ds a _ _ _ b
  ·exact Fj a _ _ _ b
theorem Q6d{p:Nat × Nat->Prop}{l:Q5}(g:∀ c:Wd,(∀ s∈c,p s)->∀ s∈Yn l c,p s) {ws:Wd} (f:∀ s∈ws,p s):∀ s∈Ja l ws,p s:=by
 unfold Ja
 split
 ·have m:∀(b:List Wd) (d:Wd),(∀ s∈d,p s)->(∀ x∈b,∀ s∈x,p s)->∀ s∈b.getLastD d,p s:=by
   intro b
   induction b with
   | nil=>intro d i _;exact i
   | cons a b ih=>intro d _ e;rw [List.getLastD_cons];exact ih a (e a zy) (fun x hx=>e x (by simp [hx]))
  refine m _ _ f (fun x hx=>?_);obtain⟨n,k,rfl⟩:=List.mem_map.1 hx;exact Q0y g f n k
 ·intro s j;cases j
abbrev okW(s:Nat × Nat):Prop:=Qe s/\okS s=true
theorem Eq{s f:Nat × Nat}{m:Nat}(c:Qe s)(b:Qe f):okW (Jk s m f).1:=by
 refine⟨Fq c b,?_⟩;unfold Jk;by_cases a:okS s=false\/okS f=false
 ·rw [if_pos a];rfl
 ·rw [if_neg a];rw [not_or,Bool.not_eq_false,Bool.not_eq_false] at a
  split
  ·rfl
  ·exact Q4a c b a.1 a.2
theorem Q7n{s f:Nat × Nat}{m:Nat}(c:Qe s)(b:Qe f):okW (Ut s f m).1:=by
 refine⟨Q47 c b,?_⟩;unfold Ut;by_cases a:okS s=false\/okS f=false
 ·rw [if_pos a];rfl
 ·rw [if_neg a];rw [not_or,Bool.not_eq_false,Bool.not_eq_false] at a
  split
  ·rfl
  ·exact Q4a c b a.1 a.2
theorem Q5y{l:Q5}(f:∀ x∈l.outs,Jh x)(c:Wd)(j:∀ s∈c,okW s):∀ s∈Yn l c,okW s:=by
 have k:Qw c:=fun s a=>(j s a).1;intro s a;obtain⟨x,g,rfl⟩:=List.mem_map.1 a
 have d:∀ i:Nat,Qe (c.getD i (0,0)):=fun i=>by
  by_cases b:i<c.length
  ·rw [List.getD_eq_getElem?_getD,List.getElem?_eq_getElem b];exact k _ (List.getElem_mem b)
  ·rw [List.getD_eq_getElem?_getD,List.getElem?_eq_none oz];exact⟨by decide,by decide⟩
 have e:Qe (if 0<=x.frm then c.getD x.frm.toNat (0,0) else(0,0)):=by
  split
  ·exact d _
  ·exact⟨by decide,by decide⟩
 unfold Uz
 split
 ·exact Eq e (f x g).2.1
 ·exact Q7n (Eq e (f x g).2.1).1 (d _)
theorem Sm{ws:Wd}:wE ws=0↔ws.length<=32/\∀ s∈ws,okS s=true:=by
 unfold wE;constructor
 ·intro a
  split at a
  ·cases a
  ·split at a
   ·rename_i c b
    exact⟨by omega,List.all_eq_true.1 b⟩
   ·cases a
 ·rintro⟨c,b⟩;have d:Xp ws=true:=List.all_eq_true.2 b;rw [if_neg oz,if_pos d]
theorem Q01{l:Q5}(j:∀ x∈l.outs,Jh x){ws:Wd}(g:Qw ws)(h:trE l ws=0):wE (Ja l ws)=0/\Qw (Ja l ws):=by
 have f:=Sm.1 (Hr (Ph h)).2;have d:=Q6d (p:=okW) (Q5y j) (ws:=ws) (fun s hs=>⟨g s hs,f.2 s hs⟩);refine⟨Sm.2 ⟨?_,fun s hs=>(d s hs).2⟩,fun s hs=>(d s hs).1⟩;have m:∀(b:List Wd) (c:Wd),c.length<=32->(∀ x∈b,x.length<=32)->(b.getLastD c).length<=32:=by
  intro b
  induction b with
  | nil=>intro c i _;exact i
  | cons a b ih=>intro c _ e;rw [List.getLastD_cons];exact ih a (e a zy) (fun x hx=>e x (by simp [hx]))
 unfold Ja Vm;rw [if_pos h];refine m _ _ f.1 (fun x hx=>?_);obtain⟨n,k,rfl⟩:=List.mem_map.1 hx;exact Q4r (Q2b h) k
theorem Q7a{l:Q5}(hl:Yj l=true){ws:Wd}(hw:wE ws=0):trE l ws=0\/trE l ws=11:=Q3p (by unfold J0;rw [if_pos hl];exact hw)
theorem Lv:∀ {ls:List Q5} {ws u:Wd},(∀ l∈ls,∀ x∈l.outs,Jh x)->Qw ws->wE ws=0->Zf ls ws=some u->wE u=0/\Qw u
 | [],_,_,_,hc,hw,h=>by cases h;exact⟨hw,hc⟩
 | l::ls,ws,u,ho,hc,hw,h=>by
  unfold Zf at h
  split at h
  ·rename_i h0
   have h1:=Q01 (ho l zy) hc h0;exact Lv (fun l hl=>ho l (by simp [hl])) h1.2 h1.1 h
  ·cases h
def Up(b:Nat)(W:World)(u v:Value)(t:List (Nat × Wd)):Prop:=
 W.ownsRow b 3 1 u t.length (Yt (t.map (·.1)))/\∃ vals,W.ownsRow b 23 1 v t.length vals/\Z4 W vals (t.map (·.2))/\∀ x∈vals,Ze (fun g=>b<=g) x
theorem Up.out{b:Nat}{W:World}{u v:Value}{t:List (Nat × Wd)} (h:Up b W u v t):U4 b W u v t:=by
 obtain⟨a,e,c,d,_⟩:=h;exact⟨a,e,c,d⟩
theorem Up.nil(b:Nat)(W:World):Up b W (.slice none 0 0) (.slice none 0 0) []:=⟨World.ownsRow_nil _ _ _ _,[],World.ownsRow_nil _ _ _ _,trivial,fun x hx=>by cases hx⟩
theorem Up.fresh{b cap g:Nat}{A:World}{u:Value}{t:List (Nat × Wd)} (h:Up b A u (.slice (some ⟨g,0,none⟩) t.length cap) t) {i:Nat} (f:i<t.length) {x:Value} (e:A.cell? ⟨g,i,none⟩=some x):Ze (fun g=>b<=g) x:=by
 obtain⟨_,k,a,_,d⟩:=h;have j:=a.1;have c:=a.cellAt i oz;rw [e] at c;exact d x (List.mem_of_getElem? c.symm)
theorem Tryz.infoW:(Tryz.prog.info? 23).map (fun i=>(i.zero,i.size,i.bytes))=some (some (.slice none 0 0),1,24):=by kernel_rfl
theorem Q35{w:World}{l:Q5}{cs:List Value}{vo:Option Addr}{vc:Nat}{ws:Wd}(i5:Y7 w l cs)(l8:Q4 w (.slice vo ws.length vc) ws) (w2:ws.length<=vc) (q6:Tab w) :
  Calls Tryz.prog 191 #[.agg cs.toArray,.slice vo ws.length vc] w fun e w'=>∃ u v,e=.returned (.tuple #[u,v,.int .i64 (trE l ws)])/\Up w.heap.size w' u v (trT l ws)/\Ext w w':=by
 have l2:=fun(d:World) (b9:Ext w d)=>Co (i5.ext b9) (l8.ext b9) (q6.keep b9 id);have r3:=fun(d:World) (b9:Ext w d)=>Q6i (i5.ext b9) (vo:=vo) (vn:=ws.length) (vc:=vc);obtain⟨A9,u8,y4⟩:=Zh3 i5 l8 q6
 have q8:Ze (fun g=>g<w.heap.size) (.slice vo ws.length vc):=fun g o i b8 e h0=>by
  obtain⟨_,_,k7,C1,d9,p6⟩:=l8.1;rw [d9] at e;cases e;cases d9;obtain⟨C2,C4,G,H,_⟩:=p6 h0;cases G;exact H
 have l1:J0 l ws=0->Yj l=true/\ws.length<=32:=fun h0=>⟨(Hr h0).1,U1 (Hr h0).2⟩;have l6:trE l ws=if J0 l ws=0 then(if Jo (Qv l ws)=true then 11 else 0) else J0 l ws:=rfl
 have l7:trT l ws=if trE l ws=0 then Qv l ws else []:=rfl
 have z3:=Bo l ws;obtain⟨C6,l9⟩:=zE ws.length;rw [l9] at l2 r3 q8 l1 w2 z3 u8;rw [l9];obtain⟨s9,s1,t4,s4,s7,p2,p4,t0,o7,y,s2,t5,s5,s8,p3,p5,t1,o8,c2,s0,o9,r9,t3,p0,t2,s6,rfl,y3,B7,B8,A8,B6,B5,B1,B2,B3,B4,B0,C5,G,H,P,M⟩:=X5 i5;obtain⟨Y,v9⟩:=zE (J0 l ws);obtain⟨k3,b9⟩:=zE (trE l ws);obtain⟨p1,w1⟩:=zE (trT l ws);rw [v9] at l2 l1 l6;rw [b9] at l6 l7 ⊢;rw [w1] at l7 ⊢;obtain⟨u3,n7,y2,u2,n9,o0,g5⟩:=Zh7 l2 r3 q8 l1 l6 l7 l9;clear i5 l8 q6 l2 r3 q8 l1 l6 l7 v9 b9 w1 l9;refine Zr Tryz.func191 rfl ?_;simp only [Tryz.ntmps191,zS,Nat.reduceAdd,Nat.reduceSub];go_upto_region 1 with (fail)
 obtain⟨g1,d8⟩:=zE ((((w.alloc (.cells #[.string s9,.int .i64 s1,.int .u32 (t4:Int),.int .u32 (s4:Int),.bool s7,.int .i64 p2,.int .i64 p4,.slice t0 o7 y,.int .i64 s2,.int .u32 (t5:Int),.int .u32 (s5:Int),.bool s8,.int .i64 p3,.int .i64 p5,.slice t1 o8 c2,.slice s0 o9 r9,.slice t3 p0 t2,.int .i64 s6] 50)).alloc (.cells #[.slice none 0 0] 36)).alloc (.cells #[.slice none 0 0] 74)).alloc (.cells #[.int .i64 0] 32));have p9:Ext w g1:=by rw [<-d8];exact((((Q0.refl _ w).alloc _).alloc _).alloc _).alloc _
 have q9:g1.heap[w.heap.size]?=some (.cells #[.string s9,.int .i64 s1,.int .u32 (t4:Int),.int .u32 (s4:Int),.bool s7,.int .i64 p2,.int .i64 p4,.slice t0 o7 y,.int .i64 s2,.int .u32 (t5:Int),.int .u32 (s5:Int),.bool s8,.int .i64 p3,.int .i64 p5,.slice t1 o8 c2,.slice s0 o9 r9,.slice t3 p0 t2,.int .i64 s6] 50 (0,0)):=by rw [<-d8];exact Q7 (Q7 (Q7 (new_at rfl)))
 have r6:g1.heap[w.heap.size+1]?=some (.cells #[.slice none 0 0] 36 (0,0)):=by rw [<-d8];exact Q7 (Q7 (new_at zy))
 have r7:g1.heap[w.heap.size+2]?=some (.cells #[.slice none 0 0] 74 (0,0)):=by rw [<-d8];exact Q7 (new_at zy)
 have q7:g1.heap[w.heap.size+3]?=some (.cells #[.int .i64 0] 32 (0,0)):=by rw [<-d8];exact new_at zy
 have x2:g1.heap.size=w.heap.size+4:=by rw [<-d8];simp
 rw [d8];obtain⟨f,p7⟩:=zE w.heap.size;rw [p7] at q9 r6 r7 q7 x2 ⊢;have s:=Zh p7;have n1:=Zh q9;clear d8 p7 q9
 go_wp2_with (refine wpList_load_row rfl 50 (.tmp 2) rfl f rfl _ _ _ _ n1.out Tryz.underlying50 rfl Tryz.lawInfo ?_)
 refine(u3.out _ p9).mono ?_;rintro e e1 ⟨rfl,F⟩;have m:=p9.trans F;have u4:=Zh (F.keep n1.out);have f4:=F.keep r6;have f5:=F.keep r7;have f3:=F.keep q7;have r4:f+4<=e1.heap.size:=by have:=F.size;omega
 clear F p9 n1 u3 r6 r7 q7 x2;by_cases h0:Y=0;case neg=>
  have T:(Y != 0)=true:=by rw [bne_iff_ne];exact h0
  have a3:Hid (k3=Y):=Zh (by rw [n9.out,if_neg h0]);have e3:Hid (p1=[]):=Zh (by rw [o0.out,if_neg (by rw [a3.out];exact h0)]);have i7:=Q60 f4 f5 f3 oz oz oz (.slice none 0 0) (.slice none 0 0) (.int .i64 Y);have n8:=Zh i7;have y7:=cell_of_one f4;have z0:=free_of_one f4;have y8:=cell_of_one f5;have z1:=free_of_one f5;have y6:=cell_of_one f3;have y9:=free_of_one f3;clear i7 f4 f5 f3 n7;go_wp2;obtain⟨G,H,P,M⟩:=n8.out;refine J8 (v:=.tuple #[.slice none 0 0,.slice none 0 0,.int .i64 Y]) (base:=f) _ _ trivial fun w' ht' i6=>⟨Js rfl rfl rfl rfl (ht'.heap G (Go.Ab.Shut.not G rfl)) (ht'.heap H (Go.Ab.Shut.not H rfl)) (ht'.heap P (Go.Ab.Shut.not P rfl)),_,_,by rw [a3.out],by rw [e3.out];exact Up.nil _ _,?_⟩
  exact(m.after M (fun b hb p=>by have:=s.out;omega)).after ht' (fun b T U=>by have:=U.1;have:=s.out;omega)
 subst h0;obtain⟨z6,A2⟩:=u2.out rfl;have u7:Hid (k3=if Jo (Qv l ws)=true then 11 else 0):=Zh (by rw [n9.out,if_pos rfl]);clear n9 u2;go_upto_region 6 with (fail)
 obtain⟨k1,f6⟩:=zE ((e1.alloc (.cells #[.slice none 0 0] 36)).alloc (.cells #[.slice none 0 0] 74));have f2:Ext e1 k1:=by rw [<-f6];exact((Q0.refl _ e1).alloc _).alloc _
 have r0:k1.heap[e1.heap.size]?=some (.cells #[.slice none 0 0] 36 (0,0)):=by rw [<-f6];exact Q7 (new_at rfl)
 have r1:k1.heap[e1.heap.size+1]?=some (.cells #[.slice none 0 0] 74 (0,0)):=by rw [<-f6];exact new_at zy
 have r5:k1.heap.size=e1.heap.size+2:=by rw [<-f6];simp
 rw [f6];obtain⟨n,v8⟩:=zE e1.heap.size;rw [v8] at r0 r1 r5 r4 ⊢;have k8:=r4;have q0:=m.trans f2;have u5:=Zh (f2.keep u4.out);have x5:=f2.keep f4;have x7:=f2.keep f5;have w5:=f2.keep f3;clear f6 v8 f2 m u4 f4 f5 f3 r4
 go_wp2_with (refine wpList_load_row rfl 50 (.tmp 2) rfl f rfl _ _ _ _ u5.out Tryz.underlying50 rfl Tryz.lawInfo ?_)
 have r2:=n7.out k1 q0;rw [r5] at r2;have u6:=Zh r2;clear r2;refine u6.out.mono ?_;rintro e t9 ⟨y0,y1,rfl,q3,q5,q2,q4,z5,z8,F⟩;have q1:=q0.trans F;have x0:=F.keep r0;have x1:=F.keep r1;have x6:=F.keep x5;have i8:=F.keep x7;have w6:=F.keep w5;have x3:n+2<=t9.heap.size:=by have:=F.size;omega
 have v5:=(Array.getElem?_eq_some_iff.1 q3.1).1;have w0:=(Array.getElem?_eq_some_iff.1 q5).1;have v4:=(Array.getElem?_eq_some_iff.1 q2).1;have v6:=(Array.getElem?_eq_some_iff.1 q4).1;obtain⟨c,p8⟩:=zE t9.heap.size;rw [p8] at x3 v5 w0 v4 v6;have k9:=x3;have a8:=Zh p8;have z4:∃ f7,Kj Tryz.prog 209 #[.pointer (some ⟨n+2+1,0,none⟩),.pointer (some ⟨n+2,0,none⟩),.pointer (some ⟨y0,0,none⟩),.pointer (some ⟨y1,0,none⟩)] (Yh f7) (Ty f7) (Qv l ws) (fun b=>b<c/\b≠n/\b≠n+1/\b≠f+1/\b≠f+2/\b≠f+3) t9:=by
  refine Q5e (cs:=[.string s9,.int .i64 s1,.int .u32 (t4:Int),.int .u32 (s4:Int),.bool s7,.int .i64 p2,.int .i64 p4,.slice t0 o7 y,.int .i64 s2,.int .u32 (t5:Int),.int .u32 (s5:Int),.bool s8,.int .i64 p3,.int .i64 p5,.slice t1 o8 c2,.slice s0 o9 r9,.slice t3 p0 t2,.int .i64 s6]) (vo:=vo) (vc:=vc) z6 (by rw [g5.out];exact A2) (by rw [g5.out];exact w2) (by rw [g5.out];exact y2.out.mono fun b hb=>by have:=s.out;omega) (fun b hb=>by omega) (fun W r=>?_);have e5:Ext w W:=q1.after r (fun b hb p=>p (by have:=s.out;omega));exact⟨⟨r.heap q3.1 (fun p=>p oz),y3.out.ext e5⟩,by rw [g5.out];exact r.heap q5 (fun p=>p oz),by rw [g5.out];exact u8.out.ext e5,y4.out.keep e5 id,r.heap q2 (fun p=>p oz),r.heap q4 (fun p=>p oz)⟩
 obtain⟨f7,w7⟩:=z4;obtain⟨n0,o1,o3,m9,n5,n6⟩:=Zh6 w7 x6 i8 w6 x0 x1;clear w7 q3 q5 q2 q4 F q0 u5 r0 r1 x5 x7 w5 r5 x0 x1 x6 i8 w6 u6 n7 z5 z8 v5 w0 v4 v6 p8;go_wp2_with fail
 refine Wb (xs:=Qv l ws) (K:=fun b=>b<c/\b≠n/\b≠n+1/\b≠f+1/\b≠f+2/\b≠f+3) rfl (enters_of Tryz.func209 kz rfl) n0.out (fun b g8=>by rw [a8.out];exact g8.1) (fun _ _ x m8 e2 g8=>by obtain⟨k7,b8,rfl,_⟩:=g8;rfl) ?hEs
  (fun a9 a2 d=>∃ u v g0,TrI w f n c f7 a9 a2 d u v g0)
  (fun b8 _ a2 d=>b8=.ret/\d.heap[f+1]?=some (.cells #[.slice none 0 0] 36 (0,0))/\d.heap[f+2]?=some (.cells #[.slice none 0 0] 74 (0,0))/\d.heap[f+3]?=some (.cells #[.int .i64 11] 32 (0,0))/\Ext w d/\Jo a2=true) ?hI ?hIx ?h0 (fun e2 t=>(((t.setIfInBounds 21 (e2.getD 0 undef)).setIfInBounds 22 (e2.getD 1 undef)).setIfInBounds 10 (e2.getD 0 undef)).setIfInBounds 11 (e2.getD 1 undef)) ?assign ?body ?done ?stop
 case hEs=>
  rintro i a9 x m8 W e2 ⟨k7,b8,rfl,T,U,p6⟩ I A0;exact⟨k7,b8,rfl,⟨Rd.nocells I A0 T.1,T.2⟩,U,p6.mono fun b hb=>⟨hb.1,hb.2.1,Nat.lt_of_lt_of_le hb.2.2 I.size⟩⟩
 case hI=>
  rintro a9 y5 a2 m8 W ⟨u,v,g0,q⟩ a0 I v7;rw [a8.out] at a0 I;exact⟨u,v,g0,q.turn s.out k8 k9 a0 I v7⟩
 case hIx=>
  rintro b8 a9 y5 a2 m8 W ⟨A4,m2,m3,m4,r8,m5⟩ a0 I v7;rw [a8.out] at a0 I
  have m6:∀ b,b<c->¬ ((a9 b/\Yh f7 (c+2) b)\/b=c+1):=fun b hb p=>by
   rcases p with T | T
   ·have:=(a0 b T.1).1;omega
   ·omega
  exact⟨A4,I.heap m2 (m6 _ oz),I.heap m3 (m6 _ oz),I.heap m4 (m6 _ oz),r8.after I (fun b hb p=>m6 b (by have:=s.out;omega) p),m5⟩
 case h0=>
  intro W r i6;exact⟨_,_,[],r.keep o1.out,r.keep o3.out,r.keep m9.out,r.keep n5.out,r.keep n6.out,World.ownsRow_nil _ _ _ _,World.ownsRow_nil _ _ _ _,trivial,fun g hg=>(by cases hg),fun g hg=>(by cases hg),fun x a1=>(by cases a1),q1.trans r,rfl⟩
 case assign=>
  rintro i a9 x e2 d C0 ⟨k7,b8,rfl,_⟩ a;gi_wp2;exact a
 case done=>
  rintro a9 d ⟨u,v,g0,q⟩ a0 I f1;rw [a8.out] at f1;have a3:Hid (k3=0):=Zh (by rw [u7.out,if_neg (by rw [q.short];decide)]);have e3:Hid (p1=Qv l ws):=Zh (by rw [o0.out,if_pos a3.out]);obtain⟨D,e6⟩:=zE d.drew;have m:Ext d D:=by rw [<-e6];exact Q0.drew (Q0.refl _ d)
  obtain⟨b0,e9,f0,a5,g7,a4⟩:=Zh6 (m.keep q.ru) (m.keep q.bu) (m.keep q.bv) ((Q0.set1 D (f+1) 0 u).heap (m.keep q.rv) oz) ((Q0.set1 D (f+1) 0 u).heap (m.keep q.bv) oz) ((Q0.set1 (D.setCell ⟨f+1,0,none⟩ u) (f+2) 0 v).heap ((Q0.set1 D (f+1) 0 u).heap (m.keep q.re) oz) oz);obtain⟨G,H,P,M⟩:=Q60 (m.keep q.ru) (m.keep q.rv) (m.keep q.re) oz oz oz u v (.int .i64 0);obtain⟨W,r⟩:=zE (((D.setCell ⟨f+1,0,none⟩ u).setCell ⟨f+2,0,none⟩ v).setCell ⟨f+3,0,none⟩ (.int .i64 0));rw [r] at G H P M;have M:Q0 (fun b=>b=f+1\/b=f+2\/b=f+3) d W:=(Ext.of m).trans M;have w9:Up w.heap.size W u v (Qv l ws):=by
   refine⟨Jj (Qd q.ou M (fun g hg e=>by have:=(q.ou.lt g hg).1;omega)) (by have:=s.out;omega),g0,Jj (Qd q.ov M (fun g hg e=>by have:=(q.ov.lt g hg).1;omega)) (by have:=s.out;omega),?_,fun x a1=>(q.wk x a1).mono fun b hb=>(by have T:=s.out;have U:=hb.1;omega)⟩;exact q.wd.keepS (S:=fun g=>c+2+f7<=g) (M.mono fun b _ e p=>by omega) (fun x a1=>(q.wk x a1).mono fun b hb=>hb.1)
  have l3:Qz f ({ target:=.collected c,args:=#[] }::[]) W:=Qz.cons (base:=f) trivial oz (M.heap f1 oz) (fun e he=>by cases he);have e5:Ext w W:=q.ext.after M (fun b hb p=>by have:=s.out;omega);have k6:=Zh w9;have n2:=Zh l3;obtain⟨t8,t7,rfl⟩:=Qk q.ou;obtain⟨u1,u0,rfl⟩:=Qk q.ov;obtain⟨f9,x4⟩:=zE ((Qv l ws).length);rw [x4] at e9 f0 a5 g7 a4 r k6 G H;have o4:=Zh r;have u9:=Zh e6;clear w9 l3 q f1 I a0 n0 o1 o3 m9 n5 n6 q1 r e6 m x4;go_upto_region 12 with (fail)
  refine Zo (S:=fun _=>True) [0,1,2,3,4] kz trivial ?_;intro _;rw [u9.out];clear u9;refine rE [0,1] ?_;refine Q1.late rfl rfl (fun K a=>?_) (Q1.late rfl rfl (fun K a=>?_) Q1.nil)
  ·refine iw rfl ?_;have b1:=cell_of_one e9.out;go_simp;refine a.out _ _ ?_;clear a K b1;try simp only [Act.put,pq]
   refine rE [1,2] ?_;refine Q1.late rfl rfl (fun K a=>?_) (Q1.late rfl rfl (fun K a=>?_) Q1.nil)
   ·refine iw rfl ?_;have b1:=cell_of_one f0.out;go_simp;refine a.out _ _ ?_;clear a K b1;try simp only [Act.put,pq]
    refine rE [2] ?_;refine Q1.late rfl rfl (fun K a=>?_) Q1.nil;refine iw rfl ?_;have z:=cell_of_one b0.out;have A:=free_of_one b0.out;go_simp;refine a.out _ _ ?_;clear a K z A
    (try change Qx _ _ _ _ _ _ _ _ (Act.put _ none _) _)
    (try simp only [Act.put])
    refine rE [3] ?_;refine Q1.late rfl rfl (fun K a=>?_) Q1.nil;refine iw rfl ?_;have z:=cell_of_one a5.out;have A:=free_of_one a5.out;go_simp;refine a.out _ _ ?_;clear a K z A
    (try change Qx _ _ _ _ _ _ _ _ (Act.put _ none _) _)
    (try simp only [Act.put])
    refine rE [4] ?_;refine Q1.late rfl rfl (fun K a=>?_) Q1.nil;refine iw rfl ?_;have z:=cell_of_one a4.out;have A:=free_of_one a4.out;go_simp;refine a.out _ _ ?_;clear a K z A
    (try change Qx _ _ _ _ _ _ _ _ (Act.put _ none _) _)
    (try simp only [Act.put])
    refine Qp kz ?_ _;rw [o4.out];clear b0 e9 f0 a5 g7 a4;go_wp2;rw [a8.out];refine J8 (v:=.tuple #[.slice t8 f9 t7,.slice u1 f9 u0,.int .i64 0]) (base:=f) _ _ n2.out fun w' ht' i6=>⟨Js rfl rfl rfl rfl (ht'.heap G (Go.Ab.Shut.not G rfl)) (ht'.heap H (Go.Ab.Shut.not H rfl)) (ht'.heap P (Go.Ab.Shut.not P rfl)),_,_,by rw [a3.out],?_,?_⟩
    ·rw [e3.out];obtain⟨j3,j8,j4,j5,j6⟩:=k6.out;exact⟨K9 j3 ht',j8,K9 j4 ht',j5.shut ht',j6⟩
    ·exact e5.after ht' (fun b T U=>by have:=U.1;have:=s.out;omega)
   ·refine iw rfl ?_;have z:=cell_of_one b0.out;have A:=free_of_one b0.out;go_simp;refine a.out _ _ ?_;clear a K z A
    (try change Qx _ _ _ _ _ _ _ _ (Act.put _ none _) _)
    (try simp only [Act.put])
    refine rE [1] ?_;refine Q1.late rfl rfl (fun K a=>?_) Q1.nil;refine iw rfl ?_;have b1:=cell_of_one g7.out;go_simp;refine a.out _ _ ?_;clear a K b1;try simp only [Act.put,pq]
    refine rE [3] ?_;refine Q1.late rfl rfl (fun K a=>?_) Q1.nil;refine iw rfl ?_;have z:=cell_of_one a5.out;have A:=free_of_one a5.out;go_simp;refine a.out _ _ ?_;clear a K z A
    (try change Qx _ _ _ _ _ _ _ _ (Act.put _ none _) _)
    (try simp only [Act.put])
    refine rE [4] ?_;refine Q1.late rfl rfl (fun K a=>?_) Q1.nil;refine iw rfl ?_;have z:=cell_of_one a4.out;have A:=free_of_one a4.out;go_simp;refine a.out _ _ ?_;clear a K z A
    (try change Qx _ _ _ _ _ _ _ _ (Act.put _ none _) _)
    (try simp only [Act.put])
    refine Qp kz ?_ _;rw [o4.out];clear b0 e9 f0 a5 g7 a4;go_wp2;rw [a8.out];refine J8 (v:=.tuple #[.slice t8 f9 t7,.slice u1 f9 u0,.int .i64 0]) (base:=f) _ _ n2.out fun w' ht' i6=>⟨Js rfl rfl rfl rfl (ht'.heap G (Go.Ab.Shut.not G rfl)) (ht'.heap H (Go.Ab.Shut.not H rfl)) (ht'.heap P (Go.Ab.Shut.not P rfl)),_,_,by rw [a3.out],?_,?_⟩
    ·rw [e3.out];obtain⟨j3,j8,j4,j5,j6⟩:=k6.out;exact⟨K9 j3 ht',j8,K9 j4 ht',j5.shut ht',j6⟩
    ·exact e5.after ht' (fun b T U=>by have:=U.1;have:=s.out;omega)
  ·refine iw rfl ?_;have b1:=cell_of_one f0.out;go_simp;refine a.out _ _ ?_;clear a K b1;try simp only [Act.put,pq]
   refine rE [0] ?_;refine Q1.late rfl rfl (fun K a=>?_) Q1.nil;refine iw rfl ?_;have b1:=cell_of_one e9.out;go_simp;refine a.out _ _ ?_;clear a K b1;try simp only [Act.put,pq]
   refine rE [2] ?_;refine Q1.late rfl rfl (fun K a=>?_) Q1.nil;refine iw rfl ?_;have z:=cell_of_one b0.out;have A:=free_of_one b0.out;go_simp;refine a.out _ _ ?_;clear a K z A
   (try change Qx _ _ _ _ _ _ _ _ (Act.put _ none _) _)
   (try simp only [Act.put])
   refine rE [3] ?_;refine Q1.late rfl rfl (fun K a=>?_) Q1.nil;refine iw rfl ?_;have z:=cell_of_one a5.out;have A:=free_of_one a5.out;go_simp;refine a.out _ _ ?_;clear a K z A
   (try change Qx _ _ _ _ _ _ _ _ (Act.put _ none _) _)
   (try simp only [Act.put])
   refine rE [4] ?_;refine Q1.late rfl rfl (fun K a=>?_) Q1.nil;refine iw rfl ?_;have z:=cell_of_one a4.out;have A:=free_of_one a4.out;go_simp;refine a.out _ _ ?_;clear a K z A
   (try change Qx _ _ _ _ _ _ _ _ (Act.put _ none _) _)
   (try simp only [Act.put])
   refine Qp kz ?_ _;rw [o4.out];clear b0 e9 f0 a5 g7 a4;go_wp2;rw [a8.out];refine J8 (v:=.tuple #[.slice t8 f9 t7,.slice u1 f9 u0,.int .i64 0]) (base:=f) _ _ n2.out fun w' ht' i6=>⟨Js rfl rfl rfl rfl (ht'.heap G (Go.Ab.Shut.not G rfl)) (ht'.heap H (Go.Ab.Shut.not H rfl)) (ht'.heap P (Go.Ab.Shut.not P rfl)),_,_,by rw [a3.out],?_,?_⟩
   ·rw [e3.out];obtain⟨j3,j8,j4,j5,j6⟩:=k6.out;exact⟨K9 j3 ht',j8,K9 j4 ht',j5.shut ht',j6⟩
   ·exact e5.after ht' (fun b T U=>by have:=U.1;have:=s.out;omega)
 case stop=>
  rintro b8 a9 a2 x t6 d a1 ⟨rfl,m2,m3,m4,r8,m5⟩ f1;rw [a8.out] at f1 ⊢;have z7:Jo (Qv l ws)=true:=by
   rw [a1];unfold Jo at m5 ⊢;rw [show a2++x::t6=(a2++[x])++t6 by simp,List.any_append,m5];rfl
  have a3:Hid (k3=11):=Zh (by rw [u7.out,if_pos z7]);have e3:Hid (p1=[]):=Zh (by rw [o0.out,if_neg (by rw [a3.out];decide)]);refine wp_ret ?_;have l3:Qz f ({ target:=.collected c,args:=#[] }::[]) d:=Qz.cons (base:=f) trivial oz f1 (fun e he=>by cases he);refine J8 (v:=.tuple #[.slice none 0 0,.slice none 0 0,.int .i64 11]) (base:=f) _ _ l3 fun w' ht' i6=>⟨Js rfl rfl rfl rfl (ht'.heap m2 (Go.Ab.Shut.not m2 rfl)) (ht'.heap m3 (Go.Ab.Shut.not m3 rfl)) (ht'.heap m4 (Go.Ab.Shut.not m4 rfl)),_,_,by rw [a3.out],by rw [e3.out];exact Up.nil _ _,?_⟩
  exact r8.after ht' (fun b T U=>by have:=U.1;have:=s.out;omega)
 case body=>
  rintro a9 a2 ⟨a7,k2⟩ t6 e2 d a1 A1 a0 I ⟨u,v,g0,q⟩ ⟨b5,b4,rfl,m1,j0,m0⟩;rw [a8.out] at A1 a0 m0 ⊢;simp only [pq];dsimp only at m1 j0 m0 ⊢;have z9:a2.length<=32:=by
   have:=congrArg List.length a1;rw [List.length_append,List.length_cons] at this;omega
  obtain⟨V,j1⟩:=zE k2.length;have g6:=Zh j1;have x8:=m1.1.2.1;unfold maxLen at x8;rw [j1] at x8;obtain⟨o6,o5,j,k5,B9⟩:=Zh5 m1 m0 q a0 a1;rw [j1];have A3:=j0;rw [j1] at A3;clear j1 m1 m0 q a0 a1 I n0 o1 o3 m9 n5 n6;by_cases g9:V<=32;case neg=>
   have z2:(32:Int)<(V:Int):=by omega
   have i7:=Q60 j.out.ru j.out.rv j.out.re oz oz oz (.slice none 0 0) (.slice none 0 0) (.int .i64 11);have n8:=Zh i7;have y7:=cell_of_one j.out.ru;have z0:=free_of_one j.out.ru;have y8:=cell_of_one j.out.rv;have z1:=free_of_one j.out.rv;have y6:=cell_of_one j.out.re;have y9:=free_of_one j.out.re;clear i7;gi_wp2;obtain⟨G,H,P,M⟩:=n8.out;refine⟨M.mono fun b _ e p=>?_,rfl,G,H,P,j.out.ext.after M (fun b hb p=>by have:=s.out;omega),?_⟩
   ·rcases p with p | p | p | p
    ·omega
    ·have:=(k5.out b p).1;omega
    ·omega
    ·omega
   ·unfold Jo;rw [List.any_append];simp [g6.out];omega
  have z2:¬ (32:Int)<(V:Int):=by omega
  have g9:k2.length<=32:=by rw [g6.out];exact g9
  gi_wp2;obtain⟨i,p⟩:=zE a2.length;have e8:=Zh p;have l4:=j.out.ou;have l5:=j.out.ov;rw [p] at l4 l5 z9;have w4:=Kw l4 l5 zd;obtain⟨o2,n3,n4⟩:=Zh3 w4 l4 l5
  have w8:∀ d9,(d9=n\/d9=n+1)->¬ (u.ownBlock=some d9\/v.ownBlock=some d9):=fun d9 hq e=>by
   rcases e with e | e
   ·have:=(j.out.ou.lt _ e).1;omega
   ·have:=(j.out.ov.lt _ e).1;omega
  have X:=Zh w8;have w3:∀(W:World),Q0 (fun b=>u.ownBlock=some b\/v.ownBlock=some b) d W->W.cell? ⟨n,0,none⟩=some u/\W.cell? ⟨n+1,0,none⟩=some v:=fun W r=>⟨cell_of_one (r.heap j.out.bu (X.out _ (.inl rfl))),cell_of_one (r.heap j.out.bv (X.out _ (.inr rfl)))⟩;have Q:=Zh w3;clear p l4 l5 w4 w8 w3;refine V4 (S:=fun W=>W.cell? ⟨n,0,none⟩=some u/\W.cell? ⟨n+1,0,none⟩=some v) [8,9] kz kz (by rintro⟨_,_,g8⟩;exact g8) (Q.out _ (Q0.drew (Q0.refl _ d))) ?_;intro i3;obtain⟨D,e6⟩:=zE d.drew;have m:Ext d D:=by rw [<-e6];exact Q0.drew (Q0.refl _ d)
  have C3:=m.size;rw [e6] at i3 ⊢;clear e6;refine tE 0 26 i3 ?_;refine tE 1 27 i3 ?_;refine tE 4 30 i3 ?_;refine tE 5 31 i3 ?_;refine rE [2,6] ?_;refine Q1.cons rfl (fun K a=>?_) (Q1.cons rfl (fun K a=>?_) Q1.nil)
  ·refine iw rfl ?_;go_simp;obtain⟨N,b2⟩:=zE (D.alloc (.cells #[.int .i64 (a7:Int)] 3));have E:Ext D N:=by rw [<-b2];exact(Q0.refl _ _).alloc _
   have f8:N.heap[D.heap.size]?=some (.cells #[.int .i64 (a7:Int)] 3 (0,0)):=by rw [<-b2];exact new_at rfl
   obtain⟨k4,i2⟩:=zE D.heap.size;rw [b2,i2];rw [i2] at f8;have A6:=E.size;clear b2;refine a.out _ _ (Q.out _ (Ext.of (m.trans E))) (fun _=>?_);clear a K;try simp only [Act.put,pq]
   refine rE [3,6] ?_;refine Q1.cons rfl (fun K a=>?_) (Q1.cons rfl (fun K a=>?_) Q1.nil)
   ·refine iw rfl ?_;refine Xe (.tmp 26) (.tmp 28) 36 rfl (c+2) 3 _ 1 8 Tryz.underlying36 Tryz.infoI rfl zd _ _ _ rfl (Qb n3.out (m.trans E)) ⟨k4,0,none⟩ 1 1 [.int .i64 (a7:Int)] rfl rfl (Ui f8) ?c2 ?c3 ?c4 ?c5 ?_;case c2=>first | rfl | (intro u C;simp at C;rcases C with rfl;rfl)
    case c3=>unfold maxLen;omega
    case c4=>omega
    case c5=>omega
    intro L y R c9 a6 i0;have m7:Q0 (fun b=>u.ownBlock=some b\/v.ownBlock=some b) d R:=(Ext.of (m.trans E)).trans (a6.mono fun b _ e=>.inl e);have C7:=m7.size;refine a.out _ _ (Q.out _ (m7)) (fun _=>?_);clear a K;try simp only [Act.put,pq]
    have i8:=Qd n4.out (((Ext.of (m.trans E)).trans a6):Q0 (fun b=>u.ownBlock=some b) d R) (fun g hg e=>o2.out g e hg);refine rE [6] ?_;refine Q1.cons rfl (fun K a=>?_) Q1.nil;refine iw rfl ?_;go_simp;obtain⟨b7,l0⟩:=zE (R.alloc (.cells #[.slice b5 V b4] 23));have e4:Ext R b7:=by rw [<-l0];exact(Q0.refl _ _).alloc _
    have x9:b7.heap[R.heap.size]?=some (.cells #[.slice b5 V b4] 23 (0,0)):=by rw [<-l0];exact new_at rfl
    obtain⟨g2,c1⟩:=zE R.heap.size;rw [l0,c1];rw [c1] at x9;have C8:=e4.size;clear l0;refine a.out _ _ (Q.out _ (m7.trans (Ext.of e4))) (fun _=>?_);clear a K;try simp only [Act.put,pq]
    refine rE [7] ?_;refine Q1.cons rfl (fun K a=>?_) Q1.nil;refine iw rfl ?_;refine Xe (.tmp 30) (.tmp 32) 74 rfl (c+2) 23 _ 1 24 Tryz.underlying74 Tryz.infoW rfl zd _ _ _ rfl (Qb i8 e4) ⟨g2,0,none⟩ 1 1 [.slice b5 V b4] rfl rfl (Ui x9) ?d2 ?d3 ?d4 ?d5 ?_;case d2=>first | rfl | (intro u C;simp at C;rcases C with rfl;rfl)
    case d3=>unfold maxLen;omega
    case d4=>omega
    case d5=>omega
    intro Z c2 J i4 c8 i1;have e0:Q0 (fun b=>u.ownBlock=some b\/v.ownBlock=some b) d J:=(m7.trans (Ext.of e4)).trans (c8.mono fun b _ e=>.inr e);refine a.out _ _ (Q.out _ (e0)) (fun _=>?_);clear a K;try simp only [Act.put]
    have d0:=Qd (Qb c9 e4) c8 (fun g hg e=>Kw (Qb c9 e4) (Qb i8 e4) zd g hg e);have d1:=i4;have d6:(Value.slice L (i+1) y).ownBlock=u.ownBlock\/∃ k,d.heap.size<=k/\(Value.slice L (i+1) y).ownBlock=some k:=i0.imp id fun e=>⟨_,by omega,e⟩;have d7:(Value.slice Z (i+1) c2).ownBlock=v.ownBlock\/∃ k,d.heap.size<=k/\(Value.slice Z (i+1) c2).ownBlock=some k:=i1.imp id fun e=>⟨_,by omega,e⟩;have B:Q0 (fun b=>u.ownBlock=some b\/v.ownBlock=some b) d J:=e0;obtain⟨⟨j7,k0,j9,c0⟩,c6⟩:=j.out.push s.out k8 k9 k5.out oz o6.out j0 o5.out g9 (x:=(a7,k2)) (W:=J) (u':=.slice L (i+1) y) (v':=.slice Z (i+1) c2) (by rw [e8.out];exact d0) (by rw [e8.out,g6.out];exact d1) B d6 d7;have g3:=Zh c0;have g4:=Zh c6;have v0:=cell_of_one (B.heap j.out.bu (X.out n (.inl rfl)));have v2:=free_of_one (B.heap j.out.bu (X.out n (.inl rfl)));have c7:(J.setCell ⟨n,0,none⟩ (.slice L (i+1) y)).heap[n+1]?=some (.cells #[v] 74 (0,0)):=(Q0.set1 _ n 0 _).heap (B.heap j.out.bv (X.out _ (.inr rfl))) oz;have b6:=Zh c7;clear c0 c6 B d0 d1 d6 d7 c7;refine rE [8] ?_;refine Q1.late rfl rfl (fun K a=>?_) Q1.nil;refine iw rfl ?_;go_simp;refine a.out _ _ ?_;clear a K
    (try change Qx _ _ _ _ _ _ _ _ (Act.put _ none _) _)
    (try simp only [Act.put])
    have v1:=cell_of_one b6.out;have v3:=free_of_one b6.out;refine rE [9] ?_;refine Q1.late rfl rfl (fun K a=>?_) Q1.nil;refine iw rfl ?_;go_simp;refine a.out _ _ ?_;clear a K
    (try change Qx _ _ _ _ _ _ _ _ (Act.put _ none _) _)
    (try simp only [Act.put])
    refine Qp kz ?_ _;exact⟨g4.out,j7,k0,j9,g3.out⟩
   ·refine iw rfl ?_;go_simp;obtain⟨R,b3⟩:=zE (N.alloc (.cells #[.slice b5 V b4] 23));have O:Ext N R:=by rw [<-b3];exact(Q0.refl _ _).alloc _
    have j2:R.heap[N.heap.size]?=some (.cells #[.slice b5 V b4] 23 (0,0)):=by rw [<-b3];exact new_at rfl
    obtain⟨g2,c1⟩:=zE N.heap.size;rw [b3,c1];rw [c1] at j2;have A7:=O.size;clear b3;refine a.out _ _ (Q.out _ (Ext.of ((m.trans E).trans O))) (fun _=>?_);clear a K;try simp only [Act.put,pq]
    refine rE [3] ?_;refine Q1.cons rfl (fun K a=>?_) Q1.nil;refine iw rfl ?_;refine Xe (.tmp 26) (.tmp 28) 36 rfl (c+2) 3 _ 1 8 Tryz.underlying36 Tryz.infoI rfl zd _ _ _ rfl (Qb n3.out ((m.trans E).trans O)) ⟨k4,0,none⟩ 1 1 [.int .i64 (a7:Int)] rfl rfl (Ui (O.keep f8)) ?c2 ?c3 ?c4 ?c5 ?_;case c2=>first | rfl | (intro u C;simp at C;rcases C with rfl;rfl)
    case c3=>unfold maxLen;omega
    case c4=>omega
    case c5=>omega
    intro L y b7 c9 a6 i0;have e7:Q0 (fun b=>u.ownBlock=some b\/v.ownBlock=some b) d b7:=(Ext.of ((m.trans E).trans O)).trans (a6.mono fun b _ e=>.inl e);have A5:=e7.size;have s3:=a6.heap j2 (fun e=>by have:=(j.out.ou.lt _ e).2;omega);refine a.out _ _ (Q.out _ (e7)) (fun _=>?_);clear a K;try simp only [Act.put,pq]
    have i9:=Qd n4.out (((Ext.of ((m.trans E).trans O)).trans a6):Q0 (fun b=>u.ownBlock=some b) d b7) (fun g hg e=>o2.out g e hg);refine rE [7] ?_;refine Q1.cons rfl (fun K a=>?_) Q1.nil;refine iw rfl ?_;refine Xe (.tmp 30) (.tmp 32) 74 rfl (c+2) 23 _ 1 24 Tryz.underlying74 Tryz.infoW rfl zd _ _ _ rfl i9 ⟨g2,0,none⟩ 1 1 [.slice b5 V b4] rfl rfl (Ui s3) ?d2 ?d3 ?d4 ?d5 ?_;case d2=>first | rfl | (intro u C;simp at C;rcases C with rfl;rfl)
    case d3=>unfold maxLen;omega
    case d4=>omega
    case d5=>omega
    intro Z c2 J i4 c8 i1;have e0:Q0 (fun b=>u.ownBlock=some b\/v.ownBlock=some b) d J:=e7.trans (c8.mono fun b _ e=>.inr e);refine a.out _ _ (Q.out _ (e0)) (fun _=>?_);clear a K;try simp only [Act.put]
    have d0:=Qd c9 c8 (fun g hg e=>Kw c9 i9 zd g hg e);have d1:=i4;have d6:(Value.slice L (i+1) y).ownBlock=u.ownBlock\/∃ k,d.heap.size<=k/\(Value.slice L (i+1) y).ownBlock=some k:=i0.imp id fun e=>⟨_,by omega,e⟩;have d7:(Value.slice Z (i+1) c2).ownBlock=v.ownBlock\/∃ k,d.heap.size<=k/\(Value.slice Z (i+1) c2).ownBlock=some k:=i1.imp id fun e=>⟨_,by omega,e⟩;have B:Q0 (fun b=>u.ownBlock=some b\/v.ownBlock=some b) d J:=e0;obtain⟨⟨j7,k0,j9,c0⟩,c6⟩:=j.out.push s.out k8 k9 k5.out oz o6.out j0 o5.out g9 (x:=(a7,k2)) (W:=J) (u':=.slice L (i+1) y) (v':=.slice Z (i+1) c2) (by rw [e8.out];exact d0) (by rw [e8.out,g6.out];exact d1) B d6 d7;have g3:=Zh c0;have g4:=Zh c6;have v0:=cell_of_one (B.heap j.out.bu (X.out n (.inl rfl)));have v2:=free_of_one (B.heap j.out.bu (X.out n (.inl rfl)));have c7:(J.setCell ⟨n,0,none⟩ (.slice L (i+1) y)).heap[n+1]?=some (.cells #[v] 74 (0,0)):=(Q0.set1 _ n 0 _).heap (B.heap j.out.bv (X.out _ (.inr rfl))) oz;have b6:=Zh c7;clear c0 c6 B d0 d1 d6 d7 c7;refine rE [8] ?_;refine Q1.late rfl rfl (fun K a=>?_) Q1.nil;refine iw rfl ?_;go_simp;refine a.out _ _ ?_;clear a K
    (try change Qx _ _ _ _ _ _ _ _ (Act.put _ none _) _)
    (try simp only [Act.put])
    have v1:=cell_of_one b6.out;have v3:=free_of_one b6.out;refine rE [9] ?_;refine Q1.late rfl rfl (fun K a=>?_) Q1.nil;refine iw rfl ?_;go_simp;refine a.out _ _ ?_;clear a K
    (try change Qx _ _ _ _ _ _ _ _ (Act.put _ none _) _)
    (try simp only [Act.put])
    refine Qp kz ?_ _;exact⟨g4.out,j7,k0,j9,g3.out⟩
  ·refine iw rfl ?_;go_simp;obtain⟨N,b2⟩:=zE (D.alloc (.cells #[.slice b5 V b4] 23));have E:Ext D N:=by rw [<-b2];exact(Q0.refl _ _).alloc _
   have f8:N.heap[D.heap.size]?=some (.cells #[.slice b5 V b4] 23 (0,0)):=by rw [<-b2];exact new_at rfl
   obtain⟨g2,c1⟩:=zE D.heap.size;rw [b2,c1];rw [c1] at f8;have A6:=E.size;clear b2;refine a.out _ _ (Q.out _ (Ext.of (m.trans E))) (fun _=>?_);clear a K;try simp only [Act.put,pq]
   refine rE [2] ?_;refine Q1.cons rfl (fun K a=>?_) Q1.nil;refine iw rfl ?_;go_simp;obtain⟨R,b3⟩:=zE (N.alloc (.cells #[.int .i64 (a7:Int)] 3));have O:Ext N R:=by rw [<-b3];exact(Q0.refl _ _).alloc _
   have j2:R.heap[N.heap.size]?=some (.cells #[.int .i64 (a7:Int)] 3 (0,0)):=by rw [<-b3];exact new_at rfl
   obtain⟨k4,i2⟩:=zE N.heap.size;rw [b3,i2];rw [i2] at j2;have A7:=O.size;clear b3;refine a.out _ _ (Q.out _ (Ext.of ((m.trans E).trans O))) (fun _=>?_);clear a K;try simp only [Act.put,pq]
   refine rE [3] ?_;refine Q1.cons rfl (fun K a=>?_) Q1.nil;refine iw rfl ?_;refine Xe (.tmp 26) (.tmp 28) 36 rfl (c+2) 3 _ 1 8 Tryz.underlying36 Tryz.infoI rfl zd _ _ _ rfl (Qb n3.out ((m.trans E).trans O)) ⟨k4,0,none⟩ 1 1 [.int .i64 (a7:Int)] rfl rfl (Ui j2) ?c2 ?c3 ?c4 ?c5 ?_;case c2=>first | rfl | (intro u C;simp at C;rcases C with rfl;rfl)
   case c3=>unfold maxLen;omega
   case c4=>omega
   case c5=>omega
   intro L y b7 c9 a6 i0;have e7:Q0 (fun b=>u.ownBlock=some b\/v.ownBlock=some b) d b7:=(Ext.of ((m.trans E).trans O)).trans (a6.mono fun b _ e=>.inl e);have A5:=e7.size;have s3:=a6.heap (O.keep f8) (fun e=>by have:=(j.out.ou.lt _ e).2;omega);refine a.out _ _ (Q.out _ (e7)) (fun _=>?_);clear a K;try simp only [Act.put,pq]
   have i9:=Qd n4.out (((Ext.of ((m.trans E).trans O)).trans a6):Q0 (fun b=>u.ownBlock=some b) d b7) (fun g hg e=>o2.out g e hg);refine rE [7] ?_;refine Q1.cons rfl (fun K a=>?_) Q1.nil;refine iw rfl ?_;refine Xe (.tmp 30) (.tmp 32) 74 rfl (c+2) 23 _ 1 24 Tryz.underlying74 Tryz.infoW rfl zd _ _ _ rfl i9 ⟨g2,0,none⟩ 1 1 [.slice b5 V b4] rfl rfl (Ui s3) ?d2 ?d3 ?d4 ?d5 ?_;case d2=>first | rfl | (intro u C;simp at C;rcases C with rfl;rfl)
   case d3=>unfold maxLen;omega
   case d4=>omega
   case d5=>omega
   intro Z c2 J i4 c8 i1;have e0:Q0 (fun b=>u.ownBlock=some b\/v.ownBlock=some b) d J:=e7.trans (c8.mono fun b _ e=>.inr e);refine a.out _ _ (Q.out _ (e0)) (fun _=>?_);clear a K;try simp only [Act.put]
   have d0:=Qd c9 c8 (fun g hg e=>Kw c9 i9 zd g hg e);have d1:=i4;have d6:(Value.slice L (i+1) y).ownBlock=u.ownBlock\/∃ k,d.heap.size<=k/\(Value.slice L (i+1) y).ownBlock=some k:=i0.imp id fun e=>⟨_,by omega,e⟩;have d7:(Value.slice Z (i+1) c2).ownBlock=v.ownBlock\/∃ k,d.heap.size<=k/\(Value.slice Z (i+1) c2).ownBlock=some k:=i1.imp id fun e=>⟨_,by omega,e⟩;have B:Q0 (fun b=>u.ownBlock=some b\/v.ownBlock=some b) d J:=e0;obtain⟨⟨j7,k0,j9,c0⟩,c6⟩:=j.out.push s.out k8 k9 k5.out oz o6.out j0 o5.out g9 (x:=(a7,k2)) (W:=J) (u':=.slice L (i+1) y) (v':=.slice Z (i+1) c2) (by rw [e8.out];exact d0) (by rw [e8.out,g6.out];exact d1) B d6 d7;have g3:=Zh c0;have g4:=Zh c6;have v0:=cell_of_one (B.heap j.out.bu (X.out n (.inl rfl)));have v2:=free_of_one (B.heap j.out.bu (X.out n (.inl rfl)));have c7:(J.setCell ⟨n,0,none⟩ (.slice L (i+1) y)).heap[n+1]?=some (.cells #[v] 74 (0,0)):=(Q0.set1 _ n 0 _).heap (B.heap j.out.bv (X.out _ (.inr rfl))) oz;have b6:=Zh c7;clear c0 c6 B d0 d1 d6 d7 c7;refine rE [8] ?_;refine Q1.late rfl rfl (fun K a=>?_) Q1.nil;refine iw rfl ?_;go_simp;refine a.out _ _ ?_;clear a K
   (try change Qx _ _ _ _ _ _ _ _ (Act.put _ none _) _)
   (try simp only [Act.put])
   have v1:=cell_of_one b6.out;have v3:=free_of_one b6.out;refine rE [9] ?_;refine Q1.late rfl rfl (fun K a=>?_) Q1.nil;refine iw rfl ?_;go_simp;refine a.out _ _ ?_;clear a K
   (try change Qx _ _ _ _ _ _ _ _ (Act.put _ none _) _)
   (try simp only [Act.put])
   refine Qp kz ?_ _;exact⟨g4.out,j7,k0,j9,g3.out⟩
theorem Hy{w:World}{v:Value}{ws:Wd}(j:Q4 w v ws)(E:ws.length<=1000000) :
  Calls Tryz.prog 17 #[v] w fun e w'=>∃ ao cap,e=.returned (.slice ao ws.length cap)/\w'.ownsRow w.heap.size 26 2 (.slice ao ws.length cap) ws.length (Ql ws)/\Ext w w':=by
 have c:=j.1;obtain⟨C,m,ao,cap,rfl,d⟩:=c;have y:=Zh j;obtain⟨f,i⟩:=zE ws.length;rw [i] at m d E ⊢;have l:=Zh i;clear j i C;unfold maxLen at m;cases ao with
 | none=>
  have F:f=0:=by
   apply Nat.eq_zero_of_not_pos;intro D;obtain⟨I,J,n,_⟩:=d D;cases n
  subst F;have H:ws=[]:=List.eq_nil_of_length_eq_zero l.out;subst H;clear d;have G:=fun(w:World)=>Lib.run_eql_slice_nil (P:=Tryz.prog) w 23 26 none 0 cap 0 0 Tryz.underlying23;go_enter Tryz.func17,Tryz.ntmps17;go_wp2;go_ret;exact⟨none,0,rfl,World.ownsRow_nil _ _ _ _,Q0.refl _ _⟩
 | some a=>
  clear d;have G:=fun(w:World)=>Lib.run_eql_slice_nil (P:=Tryz.prog) w 23 26 (some a) f cap 0 0 Tryz.underlying23;go_enter Tryz.func17,Tryz.ntmps17;have g:Ext w (w.alloc (.cells #[] 26)):=(Q0.refl _ w).alloc _;have p:=World.ownsRow_made (base:=w.heap.size) (e:=26) (size:=2) w #[] 0 (Nat.le_refl _) zd rfl;have c:=(y.out.ext g).1;rw [l.out] at c;obtain⟨t,x,k⟩:=Zh3 p c g;clear p c g
  go_wp2_with (at_builtin;refine V5 rfl (.tmp 5) (.tmp 6) 23 rfl w.heap.size 26 _ 2 8 Tryz.underlying23 @Ki rfl zd _ 0 [] rfl t.out _ _ _ _ rfl x.out (Bv ws) ?c3 ?c4 ?c5 ?_)
  case c3=>unfold maxLen;omega
  case c4=>omega
  case c5=>exact k.out.size
  intro A B z q r _;have o:Ext w z:=k.out.after r (fun b n e=>by simp [Value.ownBlock] at e;omega);have u:=Zh q;have s:=Zh o;clear q o r;go_wp2;go_ret;refine⟨A,B,?_,?_,s.out⟩
  ·first | rfl | simp
  ·have:=u.out
   simpa using this
theorem Qm.own{w:World}{base:Nat}{e:TypeId}{ao:Option Addr}{c:Nat}{u:Wd}(h:w.ownsRow base e 2 (.slice ao u.length c) u.length (Ql u)) (hok:Qw u):Qm w (.slice ao u.length c) u:=⟨ao,c,rfl,Dh h hok,(K5 h).1⟩
theorem Qm.nil(w:World):Qm w (.slice none 0 0) []:=⟨none,0,rfl,⟨⟨rfl,by simp [maxLen],none,0,rfl,fun h=>by simp at h⟩,by simp [Qw]⟩,Nat.le_refl _⟩
theorem Q70{l:Q5}{ws:Wd}(h:trE l ws=0)(a:(trT l ws).length=0):Ja l ws=ws:=by
 unfold trT at a;rw [if_pos h] at a;unfold Ja Vm;rw [if_pos h,List.eq_nil_of_length_eq_zero a];rfl
theorem Q3o{l:Q5}{ws:Wd}(h:trE l ws=0){k:Nat}(b:(trT l ws).length=k+1):∀(hk:k<(trT l ws).length),(trT l ws)[k].2=Ja l ws:=by
 intro hk;have a:trT l ws=Qv l ws:=by unfold trT;rw [if_pos h]
 unfold Ja Vm;rw [if_pos h,List.getLastD_eq_getLast?,List.getLast?_eq_getElem?,List.length_map,<-a,b,Nat.add_sub_cancel,List.getElem?_map,List.getElem?_eq_getElem hk];rfl
theorem Q6q{l:Q5}{ws:Wd}(h:trE l ws≠0):Ja l ws=[]:=by unfold Ja;rw [if_neg h]
theorem Q3e{w:World}{l:Q5}{cs:List Value}{vo:Option Addr}{vc:Nat}{ws:Wd}(U:Y7 w l cs)(C:Q4 w (.slice vo ws.length vc) ws) (f2:ws.length<=vc) (b5:Tab w) :
  Calls Tryz.prog 176 #[.agg cs.toArray,.slice vo ws.length vc] w fun e w'=>∃ u,e=.returned (.tuple #[u,.int .i64 (trE l ws)])/\Qm w' u (Ja l ws)/\Ze (fun g=>w.heap.size<=g) u/\Ext w w':=by
 have t:=fun(V:World) (c:Ext w V)=>Q35 (U.ext c) (C.ext c) f2 (b5.keep c id);have Q:=fun(V:World) (c:Ext w V) (d:ws.length<=32)=>Hy (C.ext c) (Nat.le_trans d zd);have c0:=C.2;have B:trE l ws=0->ws.length<=32:=fun m=>U1 (Hr (Ph m)).2;have n:=@Q70 l ws;have p:=@Q3o l ws;have z:=@Q6q l ws;obtain⟨e2,Y⟩:=zE ws.length;rw [Y] at t Q B ⊢;obtain⟨d3,c6,d8,c8,d1,a8,b0,d4,a3,b2,c7,d9,c9,d2,a9,b1,d5,a4,b3,c5,a5,c4,d7,a6,d6,d0,rfl,f7,g5,g6,f6,g4,g3,f9,g0,g1,g2,f8,i6,i7,i8,i9,j0⟩:=X5 U;obtain⟨a0,c⟩:=zE (trE l ws);obtain⟨a7,b6⟩:=zE (trT l ws);obtain⟨v,b4⟩:=zE (Ja l ws);rw [c] at t B n p z ⊢;rw [b6] at t n p;rw [b4] at n p z ⊢;obtain⟨a2,I,e7,e6,F,G,H,f0⟩:=Zh8 t Q B c0 n p z Y;clear U C b5 t Q B c0 n p z c b6 b4 Y;go_enter Tryz.func176,Tryz.ntmps176;go_upto_region 1 with (fail)
 obtain⟨e0,E⟩:=zE (w.alloc (.cells #[.string d3,.int .i64 c6,.int .u32 (d8:Int),.int .u32 (c8:Int),.bool d1,.int .i64 a8,.int .i64 b0,.slice d4 a3 b2,.int .i64 c7,.int .u32 (d9:Int),.int .u32 (c9:Int),.bool d2,.int .i64 a9,.int .i64 b1,.slice d5 a4 b3,.slice c5 a5 c4,.slice d7 a6 d6,.int .i64 d0] 50));have A:Ext w e0:=by rw [<-E];exact(Q0.refl _ w).alloc _
 have W:e0.heap[w.heap.size]?=some (.cells #[.string d3,.int .i64 c6,.int .u32 (d8:Int),.int .u32 (c8:Int),.bool d1,.int .i64 a8,.int .i64 b0,.slice d4 a3 b2,.int .i64 c7,.int .u32 (d9:Int),.int .u32 (c9:Int),.bool d2,.int .i64 a9,.int .i64 b1,.slice d5 a4 b3,.slice c5 a5 c4,.slice d7 a6 d6,.int .i64 d0] 50 (0,0)):=by rw [<-E];exact new_at rfl
 rw [E];obtain⟨e3,L⟩:=zE w.heap.size;rw [L] at W ⊢;have a1:=Zh W;have f5:=Zh L;clear E W L
 go_wp2_with (refine wpList_load_row rfl 50 (.tmp 2) rfl e3 rfl _ _ _ _ a1.out Tryz.underlying50 rfl Tryz.lawInfo ?_)
 refine(a2.out _ A).mono ?_;rintro e e1 ⟨u,j3,rfl,N,r⟩;have q:=A.trans r;have s:=N.out;obtain⟨j2,j1,j5,j4,rfl,rfl,c3⟩:=s.slices;obtain⟨e5,e8,e9⟩:=Zh3 N A.size q.size;clear N r A a1 a2;by_cases m:a0=0;case neg=>
  have i1:(a0 != 0)=true:=by rw [bne_iff_ne];exact m
  have i:=H.out m;subst i;clear s;go_wp2;go_ret2;exact⟨_,rfl,Qm.nil _,fun g o a y e h=>(by cases e),q⟩
 subst m;have f3:=e7.out rfl;obtain⟨a,d⟩:=zE a7.length;rw [d] at c3 ⊢;unfold maxLen at c3;by_cases b8:a=0
 ·subst b8;have i:=F.out rfl d;have e4:=Zh (I.out e1 q f3);clear s d F G H I;go_wp2_with fail;refine e4.out.mono ?_;rintro e f4 ⟨k,K,rfl,M,r⟩;have f1:=q.trans r;have c1:Qm f4 (.slice k e2 K) v:=by
   rw [i];have:=M;rw [<-f0.out] at this ⊢;exact Qm.own this e6.out
  have j:Ze (fun g=>w.heap.size<=g) (.slice k e2 K):=fun g o a y e h=>by
   cases e;rcases M.2 with ⟨Z,_⟩ | ⟨i0,g8,g9,Z,i2,_⟩
   ·cases Z
   ·cases Z;have:=e9.out;omega
  have x:=Zh c1;have J:=Zh j;clear M r i c1 j;go_wp2;go_ret2;exact⟨_,rfl,x.out,J.out,f1⟩
 ·obtain⟨f,rfl⟩:∃ f,a=f+1:=⟨a - 1,by omega⟩;have S:f<a7.length:=by omega
  obtain⟨g,K,k,y,c2,O,X,P⟩:=s.at S;have i:=G.out rfl d S;rw [i] at O X P;rw [d] at c2;cases c2;have b9:=e5.out;have j:=(b9.fresh S O).mono (T:=fun g=>w.heap.size<=g) (fun g hg=>Nat.le_trans e8.out hg);have x:Hid (Qm e1 (.slice k v.length y) v):=Zh ⟨k,y,rfl,X,P⟩;obtain⟨g7,b7⟩:=zE v.length;rw [b7] at O x j;have J:=Zh j;have i3:((f+1:Nat):Int) - 1=(f:Int):=by omega
  have i4:(0:Int)<((f+1:Nat):Int):=by omega
  have i5:(f:Int)<((f+1:Nat):Int):=by omega
  clear s d F G H I X P i b7 b8 b9 j;go_wp2;go_ret2;exact⟨_,rfl,x.out,J.out,q⟩
theorem Q1x{w:World}{l:Q5}{cs:List Value}{vo:Option Addr}{vc:Nat}{ws:Wd}(hl:Y7 w l cs)(hv:Q4 w (.slice vo ws.length vc) ws) (hcap:ws.length<=vc) (hT:Tab w) :
  Calls Tryz.prog 176 #[.agg cs.toArray,.slice vo ws.length vc] w fun e w'=>∃ u,e=.returned (.tuple #[u,.int .i64 (trE l ws)])/\Qm w' u (Ja l ws)/\Ext w w':=
 (Q3e hl hv hcap hT).mono fun _ _ ⟨u,h1,h2,_,h3⟩=>⟨u,h1,h2,h3⟩
theorem Q4k{w:World}{ao:Option Addr}{N cap:Nat}{ps:Zw}(H:Z9 w (.slice ao N cap) ps) (E:ps.length=N) (U:N<=maxLen) (f:Nat) (lb:Array Value) (m:∀ args w,(callFunc f args).run Tryz.prog w=.ok (.enter f args) w)
  (F:Q5->Bool) (D:∀ p∈ps,∀ V,Ext w V->Calls Tryz.prog f (#[.agg p.2.toArray]++lb) V fun e w'=>e=.returned (.bool (F p.1))/\Ext V w') :
  Calls Tryz.prog 149 #[.slice ao N cap,.func (.func f) #[] lb] w fun e w'=>∃ z:Int,e=.returned (.int .i64 z)/\decide (0<=z)=ps.any (fun p=>F p.1)/\Ext w w':=by
 unfold maxLen at U;obtain⟨M,L,y,K⟩:=Zh4 H D E m;clear H D E m;go_enter Tryz.func149,Tryz.ntmps149;go_wp2
 refine wp_loop (fun a r=>∃(b:Nat),b<=N/\a.defers=[]/\gS a [0,1,7,8]=(19,[.slice ao N cap,.func (.func f) #[] lb,.int .i64 N,.int .i64 b])/\(ps.take b).any (fun p=>F p.1)=false/\Ext w r)
  (fun a _=>N - (intOf (a.tmps.getD 8 undef)).toNat) ?_ ?_
 ·exact⟨0,by omega,rfl,rfl,by simp,Q0.refl _ _⟩
 rintro⟨a4,_⟩ r ⟨b,a3,R,J,G,g⟩;subst R;obtain⟨a5,rfl⟩:=Qt J;clear J;have u:=Zh G;clear G;by_cases S:b<N
 ·have Q:(b:Int)<(N:Int):=by omega
  have a1:(0:Int)<=(b:Int):=by omega
  have n:b<ps.length:=by rw [y.out];exact S
  obtain⟨P,X,a0,I,a2,o,T,l⟩:=(M.out.ext g).at n;simp only [zV] at I;obtain⟨rfl,W,rfl⟩:=I;clear W;have i:=L.out _ (List.getElem_mem n) r g;obtain⟨j,q⟩:=zE (ps[b]);have Y:Hid (ps[b]=j):=Zh q;rw [q] at o l i;obtain⟨k,s⟩:=zE (F j.1);rw [s] at i;have v:Hid (F ps[b].1=k):=Zh (by rw [q];exact s);obtain⟨a6,O⟩:=j;dsimp only at o l i;obtain⟨x,A,t⟩:=Zh3 i o l;clear i q s o l T;have m:=K.out
  go_wp2_with (refine Wt (by rfl) 50 (.tmp 14) rfl P (X+b*18) zr O _ A.out Tryz.underlying50 rfl (by rw [t.out];kernel_rfl) ?_)
  clear m;refine x.out.mono ?_;rintro e Z ⟨rfl,C⟩;have B:=g.trans C;clear x g C A t;cases k
  ·have c:(ps.take (b+1)).any (fun p=>F p.1)=false:=by
    rw [List.take_succ_eq_append_getElem n,List.any_append,u.out];simp [v.out]
   have d:=Zh c;clear c;go_wp2;exact⟨⟨b+1,by omega,tz,rfl,d.out,B⟩,nz⟩
  ·have c:ps.any (fun p=>F p.1)=true:=List.any_eq_true.2 ⟨_,List.getElem_mem n,v.out⟩;have d:=Zh c;clear c;go_wp2;go_ret;exact⟨_,rfl,by rw [d.out];simp,B⟩
 ·obtain rfl:b=N:=by omega
  have Q:¬ (b:Int)<(b:Int):=by omega
  have c:ps.any (fun p=>F p.1)=false:=by have:=u.out;rwa [List.take_of_length_le (by rw [y.out];exact Nat.le_refl _)] at this
  have d:=Zh c;clear c;go_wp2;go_ret;exact⟨_,rfl,by rw [d.out];simp,g⟩
theorem T9{w:World}{ao:Option Addr}{N cap:Nat}{ps:Zw}(g:Z9 w (.slice ao N cap) ps) (c:ps.length=N) (m:N<=maxLen) (a:Nat) (lb:Array Value) (d:∀ args w,(callFunc a args).run Tryz.prog w=.ok (.enter a args) w)
  (F:Q5->Bool) (b:∀ p∈ps,∀ V,Ext w V->Calls Tryz.prog a (#[.agg p.2.toArray]++lb) V fun e w'=>e=.returned (.bool (F p.1))/\Ext V w') :
  Calls Tryz.prog 111 #[.slice ao N cap,.func (.func a) #[] lb] w fun e w'=>e=.returned (.bool (ps.any fun p=>F p.1))/\Ext w w':=by
 have f:=Q4k g c m (cap:=cap) a lb d F b;have j:=Zh f;clear f b g d c;go_enter Tryz.func111,Tryz.ntmps111;go_wp2_with fail;refine j.out.mono ?_;rintro e n ⟨o,rfl,i,l⟩;have k:=Zh i;clear i;go_wp2;go_ret;exact⟨by rw [<-k.out];rfl,l⟩
theorem Q1e{w:World}{l:Q5}{cs:List Value}(g:Y7 w l cs)(z:Tab w) :
  Calls Tryz.prog 112 #[.agg cs.toArray] w fun e w'=>e=.returned (.bool (!Yj l))/\Ext w w':=by
 have f:=fun(V:World) (hE:Ext w V)=>Nx (g.ext hE) (z.keep hE id);obtain⟨L,E,Q,G,J,p,r,M,k,t,F,R,H,K,q,s,N,m,u,C,n,B,P,o,O,I,rfl,Y,a6,a7,X,a5,a4,a0,a1,a2,a3,Z,a8,a9,b0,b1,b2⟩:=X5 g;have d:Wh l=if Yj l=true then 0 else 17:=rfl
 obtain⟨a,A⟩:=zE (Yj l);rw [A] at d ⊢;rw [d] at f;have j:=Zh f;clear f g z d A;go_enter Tryz.func112,Tryz.ntmps112;go_upto_region 1 with (fail)
 obtain⟨S,b⟩:=zE (w.alloc (.cells #[.string L,.int .i64 E,.int .u32 (Q:Int),.int .u32 (G:Int),.bool J,.int .i64 p,.int .i64 r,.slice M k t,.int .i64 F,.int .u32 (R:Int),.int .u32 (H:Int),.bool K,.int .i64 q,.int .i64 s,.slice N m u,.slice C n B,.slice P o O,.int .i64 I] 50));have x:Ext w S:=by rw [<-b];exact(Q0.refl _ w).alloc _
 have i:S.heap[w.heap.size]?=some (.cells #[.string L,.int .i64 E,.int .u32 (Q:Int),.int .u32 (G:Int),.bool J,.int .i64 p,.int .i64 r,.slice M k t,.int .i64 F,.int .u32 (R:Int),.int .u32 (H:Int),.bool K,.int .i64 q,.int .i64 s,.slice N m u,.slice C n B,.slice P o O,.int .i64 I] 50 (0,0)):=by rw [<-b];exact new_at rfl
 rw [b];obtain⟨T,v⟩:=zE w.heap.size;rw [v] at i ⊢;have W:=Zh i;have c:=Zh x;clear b i v x
 go_wp2_with (refine wpList_load_row rfl 50 (.tmp 1) rfl T rfl _ _ _ _ W.out Tryz.underlying50 rfl Tryz.lawInfo ?_)
 refine(j.out _ c.out).mono ?_;rintro e b3 ⟨rfl,y⟩;have U:=Zh (c.out.trans y);clear y j c;cases a
 all_goals
  go_wp2;go_ret;exact⟨rfl,U.out⟩
theorem Gs{w:World}{ps:Zw}{lo:Option Addr}{n lc:Nat}(f:Z9 w (.slice lo n lc) ps) (g:ps.length=n) (o:Tab w) :
  Calls Tryz.prog 71 #[.slice lo n lc] w fun e w'=>e=.returned (.int .i64 (Zd (ps.map (·.1))))/\Ext w w':=by
 have q:n<=maxLen:=by rw [<-g];exact f.1.2.1
 have k:=T9 f g q 112 #[] (enters_of Tryz.func112 kz rfl) (fun l=>!Yj l) (fun a d V c=>Q1e ((f.2 a d).ext c) (o.keep c id));have r:Zd (ps.map (·.1))=if 64<n then 12 else if (ps.any fun a=>!Yj a.1)=true then 17 else 0:=by
  unfold Zd;rw [List.length_map,g];by_cases b:64<n
  ·rw [if_pos b,if_pos b]
  ·rw [if_neg b,if_neg b];cases h2:ps.any fun a=>!Yj a.1 with
   | false=>rw [if_pos (by rw [List.all_map,List.all_eq_true];intro a d;have:=List.any_eq_false.1 h2 a d;simpa using this)];rfl
   | true=>rw [if_neg (by rw [List.all_map,List.all_eq_true];intro u;obtain⟨a,d,m⟩:=List.any_eq_true.1 h2;have:=u a d;simp at m this;rw [m] at this;cases this)];rfl
 rw [r];obtain⟨j,p⟩:=zE (ps.any fun a=>!Yj a.1);rw [p] at k ⊢;unfold maxLen at q;have i:=Zh k;clear k r p f g o;go_enter Tryz.func71,Tryz.ntmps71;by_cases b:64<n
 ·have t:(n:Int) > 64:=by omega
  rw [if_pos b];clear i;go_wp2;go_ret;exact⟨rfl,Q0.refl _ _⟩
 have t:¬ (n:Int) > 64:=by omega
 rw [if_neg b];go_wp2_with fail;refine i.out.mono ?_;rintro e v ⟨rfl,c⟩;have s:=Zh c;clear c i;cases j
 all_goals
  go_wp2;go_ret;exact⟨rfl,s.out⟩
def Z0(a b:Wd)(s:Nat × Nat):Wd:=a++[s]++b
def Za(ls:List Q5)(a b:Wd):Int:=if Zd ls=0 then(if wE a=0 then wE b else wE a) else Zd ls
def Dc(ls:List Q5)(a b:Wd)(s:Nat × Nat):Int:=if Za ls a b=0 then(if okS s=true then Jl ls (Z0 a b s) else 14) else Za ls a b
def Db(ls:List Q5)(a b:Wd)(s:Nat × Nat):Wd:=if Za ls a b=0 then(if okS s=true then Xf ls (Z0 a b s) else []) else []
def Yp(ss:Wd)(most:Nat):Int:=if most<ss.length then 12 else if ss.all okS=true then(if ss.Nodup then 0 else 6) else 14
def Z5:List Int->Int
 | []=>0
 | e::l=>if e=0 then Z5 l else e
def Zg(ls:List Q5)(a b ss:Wd):Int:=if Za ls a b=0 then(if Yp ss 64=0 then Z5 (ss.map fun s=>Jl ls (Z0 a b s)) else Yp ss 64) else Za ls a b
def Zi(ls:List Q5)(a b ss:Wd):List Wd:=if Zg ls a b ss=0 then ss.map fun s=>Xf ls (Z0 a b s) else []
def Qac(l:List Wd):List Nat:=l.map fun w=>l.idxOf w
def Xt(pl:List Wd)(w:Wd):Nat->Int
 | 0=>-1
 | n+1=>if pl.getD n []=w then(n:Int) else Xt pl w n
def Wo(l pl:List Wd):List Int:=l.map fun w=>Xt pl w pl.length
theorem Kh{l:List Int}{n:Nat}(b:n<l.length)(h:Z5 (l.take n)=0):Z5 (l.take (n+1))=l[n]:=by
 induction l generalizing n with
 | nil=>cases b
 | cons e l ih=>
  cases n with
  | zero=>simp only [Nat.zero_add,List.take_succ_cons,List.take_zero,List.getElem_cons_zero];unfold Z5;split <;> rename_i a <;> simp [Z5,a]
  | succ n=>
   rw [List.take_succ_cons] at h ⊢;unfold Z5 at h ⊢
   split at h
   ·rename_i a
    rw [if_pos a,List.getElem_cons_succ];exact ih (by simpa using b) h
   ·contradiction
theorem Km{l:List Int}{n:Nat}(b:n<l.length)(h:Z5 (l.take n)=0) (a:l[n]≠0):Z5 l=l[n]:=by
 induction l generalizing n with
 | nil=>cases b
 | cons e l ih=>
  cases n with
  | zero=>rw [List.getElem_cons_zero] at a ⊢;unfold Z5;rw [if_neg a]
  | succ n=>
   rw [List.take_succ_cons] at h;unfold Z5 at h ⊢
   split at h
   ·rename_i c
    rw [if_pos c,List.getElem_cons_succ];exact ih (by simpa using b) h (by simpa using a)
   ·contradiction
theorem Rf(pl:List Wd)(w:Wd):∀ n,-1<=Xt pl w n/\Xt pl w n<n
 | 0=>⟨by unfold Xt;omega,by unfold Xt;omega⟩
 | n+1=>by
  have:=Rf pl w n;unfold Xt
  split <;> omega
def Qb7(ps:Zw)(k:Nat):Prop:=(ps.take k).all (fun p=>Yj p.1)=true
def Vh(W:World)(u v x:Value):Prop:=Ze (fun g=>g<W.heap.size/\u.ownBlock≠some g/\v.ownBlock≠some g) x
structure TrP (b:Nat) (W:World) (u v:Value) (vals:List Value) (tr:List (Nat × Wd)):Prop where
 ou:W.ownsRow b 3 1 u tr.length (Yt (tr.map (·.1)))
 ov:W.ownsRow b 23 1 v tr.length vals
 wd:Z4 W vals (tr.map (·.2))
 wk:∀ x∈vals,Vh W u v x
theorem TrP.nil(b:Nat)(W:World):TrP b W (.slice none 0 0) (.slice none 0 0) [] []:=⟨World.ownsRow_nil _ _ _ _,World.ownsRow_nil _ _ _ _,trivial,fun x hx=>by cases hx⟩
theorem TrP.ext{b:Nat}{A B:World}{u v:Value}{vals:List Value}{tr:List (Nat × Wd)} (h:TrP b A u v vals tr) (ht:Ext A B):TrP b B u v vals tr:=
 ⟨Qb h.ou ht,Qb h.ov ht,h.wd.ext ht,fun x hx=>(h.wk x hx).mono fun _g hg=>⟨Nat.lt_of_lt_of_le hg.1 ht.size,hg.2⟩⟩
theorem TrP.out{b:Nat}{A:World}{u v:Value}{vals:List Value}{tr:List (Nat × Wd)} (h:TrP b A u v vals tr):U4 b A u v tr:=⟨h.ou,vals,h.ov,h.wd⟩
theorem Vh.ext{A B:World}{u v x:Value}(h:Vh A u v x)(ht:Ext A B):Vh B u v x:=h.mono fun _g hg=>⟨Nat.lt_of_lt_of_le hg.1 ht.size,hg.2⟩
theorem Vh.own{W:World}{b k:Nat}{i j f:TypeId}{s1 s2 s p q r:Nat}{u v x:Value}{t w y:List Value}(n:W.ownsRow b i s1 u p t)(o:W.ownsRow b j s2 v q w)(d:W.ownsRow k f s x r y)(l:i≠f)(m:j≠f):Vh W u v x:=by
 intro c F E z a D;have g:x.ownBlock=some c:=by
  rcases d.2 with ⟨e,_⟩ | ⟨C,A,B,e,_⟩
  ·rw [e] at a;cases a
  ·rw [e] at a;cases a;rw [e];rfl
 exact⟨(d.lt c g).2,fun hu'=>Kw n d l c hu' g,fun hv'=>Kw o d m c hv' g⟩
theorem TrP.push{b:Nat}{V W:World}{u v u' v':Value}{e:List Value}{c:List (Nat × Wd)} (h:TrP b V u v e c) {i:Nat} {r:Wd} {x:Value} (o:Qm V x r) (j:Vh V u v x)
  (s:W.ownsRow b 3 1 u' (c.length+1) (Yt (c.map (·.1))++[.int .i64 (i:Int)])) (t:W.ownsRow b 23 1 v' (c.length+1) (e++[x]))
  (m:Q0 (fun b=>u.ownBlock=some b\/v.ownBlock=some b) V W) (z:u'.ownBlock=u.ownBlock\/∃ k,V.heap.size<=k/\u'.ownBlock=some k) (A:v'.ownBlock=v.ownBlock\/∃ k,V.heap.size<=k/\v'.ownBlock=some k) :
  TrP b W u' v' (e++[x]) (c++[(i,r)])/\Qm W x r/\Vh W u' v' x:=by
 have q:∀ {y y':Value} (g:Nat),y.ownBlock≠some g->g<V.heap.size->(y'.ownBlock=y.ownBlock\/∃ k,V.heap.size<=k/\y'.ownBlock=some k)->y'.ownBlock≠some g:=fun g h1 h2 d=>by
  rcases d with d | ⟨k,d,w⟩
  ·rw [d];exact h1
  ·rw [w];intro f;cases f;omega
 have l:∀ y∈e++[x],Vh V u v y:=fun y a=>by
  rcases List.mem_append.1 a with a | a
  ·exact h.wk y a
  ·simp only [List.mem_singleton] at a;subst a;exact j
 have p:∀ y,Vh V u v y->Vh W u' v' y:=fun y a=>a.mono fun g hg=>⟨Nat.lt_of_lt_of_le hg.1 m.size,q g hg.2.1 hg.1 z,q g hg.2.2 hg.1 A⟩;have n:Q0 (fun b=>¬ (b<V.heap.size/\u.ownBlock≠some b/\v.ownBlock≠some b)) V W:=m.mono fun b _ f hn=>f.elim hn.2.1 hn.2.2;refine⟨⟨?_,?_,?_,fun y a=>p y (l y a)⟩,o.keepS n j,p x j⟩
 ·rw [List.length_append,List.map_append];show W.ownsRow _ _ _ _ _ (Yt (c.map (·.1)++[i]));rw [Kd];exact s
 ·rw [List.length_append];exact t
 ·rw [List.map_append];exact(h.wd.snoc o).keepS n l
theorem Q4y{s:Nat × Nat}(k:Qe s)(w:World):Calls Tryz.prog 126 #[sV s] w fun e w'=>e=.returned (.bool (!okS s))/\Ext w w':=by
 obtain⟨b,c⟩:=s;have i:Ext w (w.alloc (.cells #[.int .u32 b,.int .u32 c] 26)):=(Q0.refl _ w).alloc _;have a:=Zh (Yg k (w.alloc (.cells #[.int .u32 b,.int .u32 c] 26)));have d:=Zh i;clear i k;obtain⟨f,j⟩:=zE (okS (b,c));rw [j] at a ⊢;clear j;unfold sV at a ⊢;go_enter Tryz.func126,Tryz.ntmps126;go_wp2_with fail;refine a.out.mono ?_;rintro e m ⟨rfl,g⟩;have l:=Zh (d.out.trans g);clear a g d;go_wp2;go_ret;exact⟨rfl,l.out⟩
theorem Q0q:∀ args w,(callFunc 126 args).run Tryz.prog w=.ok (.enter 126 args) w:=fun args w=>by simp [go_sem]
theorem Q3u{ss:Wd}{m:Nat}(c:¬ m<ss.length)(h:ss.any (fun s=>!okS s)=true):Yp ss m=14:=by
 unfold Yp;rw [if_neg c,if_neg];intro a;rw [List.any_eq_true] at h;obtain⟨e,d,b⟩:=h;rw [List.all_eq_true] at a;rw [a e d] at b;cases b
theorem Q1j{ss:Wd}{m:Nat}(a:¬ m<ss.length)(h:ss.any (fun s=>!okS s)=false):Yp ss m=if ss.Nodup then 0 else 6:=by
 unfold Yp;rw [if_neg a,if_pos];rw [List.all_eq_true];intro c b;rw [List.any_eq_false] at h;have:=h c b
 simpa using this
theorem Q22{l:Wd}{k:Nat}(c:k<l.length)(h:(l.take k).Nodup) (d:l[k] ∉ l.take k):(l.take (k+1)).Nodup:=by
 rw [List.take_succ_eq_append_getElem c];refine List.nodup_append.2 ⟨h,by simp,fun a ha b hb=>?_⟩;rw [List.mem_singleton] at hb;subst hb;rintro rfl;exact d ha
theorem Q2y{l:Wd}{k:Nat}(hk:k<l.length)(hn:l[k]∈l.take k):¬ l.Nodup:=fun h=>by
 have h2:(l.take (k+1)).Nodup:=h.sublist (List.take_sublist _ _);rw [List.take_succ_eq_append_getElem hk] at h2;exact(List.nodup_append.1 h2).2.2 _ hn _ zy rfl
theorem Pw{w:World}{ao:Option Addr}{N cap:Nat}{ss:Wd}(m:Nat)(x:Q4 w (.slice ao N cap) ss) (E:ss.length=N) (c3:N<=cap) :
  Calls Tryz.prog 93 #[.slice ao N cap,.int .i64 m] w fun e w'=>e=.returned (.int .i64 (Yp ss m))/\Ext w w':=by
 have U:=x.1.2.1;rw [E] at U;have u:=L3 x E U (cap:=cap) 126 #[] Q0q (fun g=>!okS g) (fun g L V hV=>Q4y (x.2 g L) V);unfold maxLen at U;obtain⟨a7,i,y⟩:=Zh3 x E u;clear x u;by_cases d3:N<=m;case neg=>
  have C:(N:Int) > (m:Int):=by omega
  have b3:Yp ss m=12:=by unfold Yp;rw [if_pos (by rw [i.out];omega)]
  rw [b3];clear b3 y;go_enter Tryz.func93,Tryz.ntmps93;go_wp2;go_ret;exact⟨rfl,Q0.refl _ _⟩
 have C:¬ (N:Int) > (m:Int):=by omega
 have W:¬ m<ss.length:=by rw [i.out];omega
 have F:=Q3u (ss:=ss) W;have G:=Q1j (ss:=ss) W;obtain⟨a2,b0⟩:=zE (Yp ss m);rw [b0] at F G ⊢;obtain⟨l,d⟩:=zE (ss.any (fun g=>!okS g));rw [d] at y F G;have O:=Zh F;have Q:=Zh G;clear F G d b0 W E;go_enter Tryz.func93,Tryz.ntmps93;go_wp2_with fail;refine y.out.mono ?_;rintro e d6 ⟨rfl,s⟩;have r:=Zh s;clear y s C;cases l;case true=>
  have o:=O.out rfl;subst o;clear Q O;go_wp2;go_ret;exact⟨rfl,r.out⟩
 have o:=Q.out rfl;have a3:=Zh o;clear o O Q;go_wp2
 refine wp_loop (fun a j=>∃(b:Nat),b<=N/\a.defers=[]/\gS a [0,13,14,15]=(26,[.slice ao N cap,.slice ao N cap,.int .i64 N,.int .i64 b])/\(ss.take b).Nodup/\Ext w j)
  (fun a _=>N - (intOf (a.tmps.getD 15 undef)).toNat) ?_ ?_
 ·exact⟨0,by omega,rfl,rfl,List.nodup_nil,r.out⟩
 clear r;rintro⟨d4,_⟩ j ⟨b,c6,c4,b5,f,a9⟩;subst c4;obtain⟨d5,rfl⟩:=Qt b5;clear b5;have a8:=Zh f;have B:=Zh a9;clear f a9;by_cases c7:b<N;case neg=>
  obtain rfl:b=N:=by omega
  have C:¬ (b:Int)<(b:Int):=by omega
  have f:=a8.out;rw [List.take_of_length_le (by rw [i.out];exact Nat.le_refl _)] at f;have d:=a3.out;rw [if_pos f] at d;subst d;clear f;go_wp2;go_ret;exact⟨rfl,B.out⟩
 have C:(b:Int)<(N:Int):=by omega
 have d2:(0:Int)<=(b:Int):=by omega
 have J:b<ss.length:=by rw [i.out];exact c7
 have b2:=(a7.out.ext B.out).at J;rw [i.out] at b2;obtain⟨R,a1,d1,b4,c5,H,I⟩:=b2;simp only [zV,true_and] at b4;obtain⟨rfl,rfl⟩:=b4;rw [List.getD_eq_getElem?_getD,List.getElem?_eq_getElem J,Option.getD_some] at H I;have Y:=Q22 J a8.out;have X:=Q2y J;obtain⟨g,L⟩:=zE (ss[b]);rw [L] at H I Y X;clear L;have c0:=Zh Y;have b9:=Zh X;clear Y X;have Z:=fun(D:World)=>Gy (P:=Tryz.prog) (A:=some ⟨R,a1,none⟩) (n:=N) (c:=cap) U6 Uu b oz D;have v:Q4 w (sliced (some ⟨R,a1,none⟩) 0 b cap 2) (ss.take b):=by
  have o:=a7.out;rw [<-i.out] at o;have:=o.cut (Nat.zero_le b) (by rw [i.out];exact c6) (by rw [i.out];exact c3)
  simpa using this
 obtain⟨b6,a0⟩:=zE (sliced (some ⟨R,a1,none⟩) 0 b cap 2);simp only [a0] at Z;rw [a0] at v;obtain⟨d0,c9,rfl,_⟩:=v.slice;have K:(ss.take b).length=b:=by rw [List.length_take];omega
 rw [K] at v;simp only [K] at Z;have b7:=Zh K;clear K;have a5:=Zh v;clear v a0;obtain⟨p,q⟩:=g;dsimp only at H I;go_wp2;obtain⟨k,S⟩:=zE j.heap.size;have M:(j.alloc (.cells #[.int .u32 p,.int .u32 q] 26)).heap[k]?=some (.cells #[.int .u32 p,.int .u32 q] 26 (0,0)):=new_at S.symm;have T:Ext j (j.alloc (.cells #[.int .u32 p,.int .u32 q] 26)):=(Q0.refl _ j).alloc _;rw [S];generalize (j.alloc (.cells #[.int .u32 p,.int .u32 q] 26))=t at M T ⊢;have c1:t.drew.cell? ⟨k,0,none⟩=some (.int .u32 p):=by rw [cell_of_row t.drew k 0 _ _ _ M];rfl
 have c2:t.drew.cell? ⟨k,1,none⟩=some (.int .u32 q):=by rw [cell_of_row t.drew k 1 _ _ _ M];rfl
 have s:Ext w t.drew:=(B.out.trans T).drew;have u:=S9 (a5.out.ext s) b7.out (p,q);have z:=Zh u;have r:=Zh s;clear u s M T S H I c5 B a5;obtain⟨l,d⟩:=zE (decide ((p,q)∈ss.take b));rw [d] at z;have a4:=Zh d;clear d;unfold sV at z;refine Hb 4 kz kz ?_;simp only [List.take_succ_cons,List.take_zero,List.drop_succ_cons,List.drop_zero];repeat still_step
 refine wpStill_nil ?_;go_wp2_with fail;refine z.out.mono ?_;rintro e c8 ⟨rfl,b1⟩;have a6:=Zh (r.out.trans b1);clear z b1 r c1 c2 Z;cases l;case true=>
  have f:=b9.out (of_decide_eq_true a4.out);have d:=a3.out;rw [if_neg f] at d;subst d;clear f;go_wp2;go_ret;exact⟨rfl,a6.out⟩
 case false=>
  have b8:=Zh (c0.out (of_decide_eq_false a4.out));go_wp2;exact⟨⟨b+1,by omega,by first | trivial | rfl,rfl,b8.out,a6.out⟩,nz⟩
def Gq{α:Type}(sz:Nat)(ok:World->α->List Value->Prop)(w:World)(v:Value)(ps:List (α × List Value)):Prop:=
 Rd w v ps.length sz (ps.flatMap (·.2))/\∀ p∈ps,p.2.length=sz/\ok w p.1 p.2
theorem Gq.ext{α:Type}{sz:Nat}{ok:World->α->List Value->Prop}(hok:∀ A B x cs,ok A x cs->Ext A B->ok B x cs){A B:World}{v:Value}{ps:List (α × List Value)} (h:Gq sz ok A v ps) (ht:Ext A B):Gq sz ok B v ps:=
 ⟨h.1.ext ht,fun p hp=>⟨(h.2 p hp).1,hok _ _ _ _ (h.2 p hp).2 ht⟩⟩
theorem Lf{α:Type}{sz:Nat}{ps:List (α × List Value)} (h:∀ p∈ps,p.2.length=sz) {i j:Nat} (b:i<ps.length) (c:j<sz):(ps.flatMap (·.2))[i*sz+j]?=ps[i].2[j]?:=by
 induction ps generalizing i with
 | nil=>cases b
 | cons p ps ih=>
  have a:=h p zy;rw [List.flatMap_cons];cases i with
  | zero=>rw [Nat.zero_mul,Nat.zero_add,List.getElem?_append_left oz];rfl
  | succ i=>
   rw [Nat.add_mul,Nat.one_mul,List.getElem?_append_right oz,a,show i*sz+sz+j - sz=i*sz+j by omega];exact ih (fun p a=>h p (by simp [a])) (by simpa using b)
theorem Gq.at{α:Type}{sz:Nat}{ok:World->α->List Value->Prop}{w:World}{v:Value}{ps:List (α × List Value)} (h:Gq sz ok w v ps) {i:Nat} (b:i<ps.length) :
  ∃ g off cap,(0<sz->v=.slice (some ⟨g,off,none⟩) ps.length cap/\g<w.heap.size)/\w.rangeAt g (off+i*sz) ps[i].2/\ok w ps[i].1 ps[i].2/\ps[i].2.length=sz:=by
 obtain⟨⟨r,s,q,cap,o,c⟩,a⟩:=h;obtain⟨g,off,d,f,e⟩:=c oz;subst d;obtain⟨n,l⟩:=a _ (List.getElem_mem b);refine⟨g,off,cap,fun _=>⟨o,f⟩,fun j u hu=>?_,l,n⟩;have k:j<sz:=by
  apply Nat.lt_of_not_le;intro t;rw [List.getElem?_eq_none oz] at hu;cases hu
 have m:i*sz+j<ps.length*sz:=by
  have:=Nat.mul_le_mul_right sz (show i+1<=ps.length by omega);rw [Nat.add_mul,Nat.one_mul] at this;omega
 have:=e (i*sz+j) m;rw [Nat.add_assoc,this,List.getD_eq_getElem?_getD,Lf (fun p hp=>(a p hp).1) b k,hu];rfl
def Vn(w:World)(p:Wd × Wd)(cs:List Value):Prop:=∃ u v,cs=[u,v]/\Qm w u p.1/\Qm w v p.2
theorem Vn.ext{A B:World}{p:Wd × Wd}{cs:List Value}(h:Vn A p cs)(a:Ext A B):Vn B p cs:=by
 obtain⟨e,f,b,c,d⟩:=h;exact⟨e,f,b,c.ext a,d.ext a⟩
abbrev Q45:=List ((Wd × Wd) × List Value)
abbrev Wr:=Gq 2 Vn
def Lr(w:World)(s:Option Wd)(cs:List Value):Prop:=∃ ao n c,cs=[.slice ao n c,.bool s.isNone]/\∀ u,s=some u->Qm w (.slice ao n c) u
theorem Lr.ext{A B:World}{s:Option Wd}{cs:List Value}(h:Lr A s cs)(e:Ext A B):Lr B s cs:=by
 obtain⟨a,f,b,c,d⟩:=h;exact⟨a,f,b,c,fun u hu=>(d u hu).ext e⟩
abbrev Q9w:=Gq 2 Lr
theorem Pr{A B:World}{v:Value}{qs:List ((Wd × Wd) × List Value)} (h:Wr A v qs) (ht:Ext A B):Wr B v qs:=Gq.ext (ok:=Vn) (fun _ _ _ _ h ht=>Vn.ext h ht) h ht
theorem Q0a{w:World}{g o:Nat}{a:Array Value}{t:TypeId}{m:Nat × Nat}(h:w.heap[g]?=some (.cells a t m)):w.cell? ⟨g,o,none⟩=a[o]?:=by simp [World.cell?,h]
def Gi(K:Value->Prop)(w:World)(v:Value):Prop:=∀ g cur t m,v.ownBlock=some g->w.heap[g]?=some (.cells cur t m)->∀ x∈cur.toList,K x
theorem Gi.nil{K:Value->Prop}(w:World):Gi K w (.slice none 0 0):=fun _ _ _ _ h=>by simp [Value.ownBlock] at h
theorem Gi.keep{K:Value->Prop}{S:Nat->Prop}{A B:World}{v:Value}{base:Nat}{e:TypeId}{sz n:Nat}{xs:List Value}(h:Gi K A v)(f:A.ownsRow base e sz v n xs)(i:Q0 S A B)(c:∀ g,v.ownBlock=some g->¬ S g):Gi K B v:=by
 intro g b k j a d;refine h g b k j a ?_;rw [<-d];exact(i.block g (f.lt g a).2 (c g a)).symm
def Q0o(v:Value):Prop:=∃ ao n c,v=.slice ao n c
theorem Q0b{w:World}{v u:Value}{base:Nat}{e:TypeId}{sz n:Nat}{xs:List Value}{ws:Wd}(q:Qm w u ws)(p:Gi Q0o w v)(o:w.ownsRow base e sz v n xs):Ze (fun b=>¬ v.ownBlock=some b) u:=by
 rintro k B A x rfl g d;obtain⟨t,y,a,r,_⟩:=q;simp only [zV] at a;obtain⟨rfl,rfl,rfl⟩:=a;obtain⟨⟨_,_,_,_,a,l⟩,_⟩:=r;cases a;obtain⟨z,C,a,_,m⟩:=l g;cases a;obtain⟨j,f⟩:=J4 o d;have c:=m 0 oz;cases ws with
 | nil=>cases g
 | cons s ws=>
  rw [Nat.add_zero,Q0a f] at c;obtain⟨_,_,_,i⟩:=p k j _ _ d f _ (Array.mem_toList_iff.2 (Array.mem_of_getElem? c));rw [U7] at i;cases i
theorem Qm.row{A B:World}{v u:Value}{base:Nat}{e:TypeId}{sz n:Nat}{xs:List Value}{ws:Wd}(h:Qm A u ws)(hr:Gi Q0o A v)(ho:A.ownsRow base e sz v n xs)(ht:Q0 (fun b=>v.ownBlock=some b) A B):Qm B u ws:=
 h.keepS (ht.mono fun _ _ hb hn=>hn hb) (Q0b h hr ho)
theorem Vn.row{A B:World}{v:Value}{base:Nat}{e:TypeId}{sz n:Nat}{xs cs:List Value}{p:Wd × Wd}(h:Vn A p cs)(c:Gi Q0o A v)(a:A.ownsRow base e sz v n xs)(d:Q0 (fun b=>v.ownBlock=some b) A B):Vn B p cs:=by
 obtain⟨j,v,f,g,i⟩:=h;exact⟨j,v,f,g.row c a d,i.row c a d⟩
def Yl(DS:List Wd)(w:Wd):Nat->Option Nat
 | 0=>none
 | n+1=>match Yl DS w n with
  | some j=>some j
  | none=>if DS.getD n []=w then some n else none
def Uo(DS:List Wd)(t:List UInt8):Nat->Option Nat
 | 0=>none
 | n+1=>match Uo DS t n with
  | some j=>some j
  | none=>if Qr (DS.getD n [])=t then some n else none
def Vm(PL:List Wd)(t:List UInt8):Nat->Option Nat
 | 0=>none
 | n+1=>if Qr (PL.getD n [])=t then some n else Vm PL t n
def Hu(DS:List Wd):Prop:=∀ u∈DS,∀ s∈u,Qe s
theorem Ho{DS:List Wd}(h:Hu DS)(i:Nat):∀ s∈DS.getD i [],Qe s:=by
 rw [List.getD_eq_getElem?_getD];cases e:DS[i]? with
 | none=>intro s a;cases a
 | some u=>exact h u (List.mem_of_getElem? e)
theorem Td{u v:Wd}(hu:∀ s∈u,Qe s)(hv:∀ s∈v,Qe s):Qr u=Qr v↔u=v:=⟨Hx hu hv,fun h=>by rw [h]⟩
theorem Fs{DS:List Wd}(hD:Hu DS){w:Wd}(hw:∀ s∈w,Qe s):∀ n,Uo DS (Qr w) n=Yl DS w n
 | 0=>rfl
 | n+1=>by
  unfold Uo Yl;rw [Fs hD hw n];cases Yl DS w n with
  | some j=>rfl
  | none=>
   simp only;by_cases h:DS.getD n []=w
   ·rw [if_pos h,if_pos (by rw [h])]
   ·rw [if_neg h,if_neg (fun e=>h ((Td (Ho hD n) hw).1 e))]
theorem Nz{PL:List Wd}(hD:Hu PL){w:Wd}(hw:∀ s∈w,Qe s):∀ n,(match Vm PL (Qr w) n with | some j=>(j:Int) | none=>-1)=Xt PL w n
 | 0=>rfl
 | n+1=>by
  unfold Vm Xt;by_cases h:PL.getD n []=w
  ·rw [if_pos h,if_pos (by rw [h])]
  ·rw [if_neg h,if_neg (fun e=>h ((Td (Ho hD n) hw).1 e))];exact Nz hD hw n
theorem Fr{DS:List Wd}{w:Wd}:∀ {n j:Nat},Yl DS w n=some j->j<n/\DS.getD j []=w/\∀ i,i<j->DS.getD i []≠w
 | 0,_,h=>by cases h
 | n + 1,j,h=>by
  unfold Yl at h;cases e:Yl DS w n with
  | some i=>
   rw [e] at h;cases h;obtain⟨h1,h2,h3⟩:=Fr e;exact⟨by omega,h2,h3⟩
  | none=>
   rw [e] at h;simp only at h
   split at h
   ·rename_i h1
    cases h;refine⟨by omega,h1,fun i hi=>?_⟩;have:∀ m,m<=n->Yl DS w m=none->∀ i,i<m->DS.getD i []≠w:=by
     intro m
     induction m with
     | zero=>intro _ _ i hi;omega
     | succ m ih=>
      intro hm he i hi;unfold Yl at he;cases e2:Yl DS w m with
      | some q=>rw [e2] at he;cases he
      | none=>
       rw [e2] at he;simp only at he;by_cases him:i=m
       ·subst him;intro h5;rw [if_pos h5] at he;cases he
       ·exact ih oz e2 i oz
    exact this n (Nat.le_refl _) e i hi
   ·cases h
theorem L4{DS:List Wd}{w:Wd}:∀ {n:Nat},Yl DS w n=none->∀ i,i<n->DS.getD i []≠w
 | 0,_,i,hi=>by omega
 | n+1,h,i,hi=>by
  unfold Yl at h;cases e:Yl DS w n with
  | some q=>rw [e] at h;cases h
  | none=>
   rw [e] at h;simp only at h;by_cases him:i=n
   ·subst him;intro h5;rw [if_pos h5] at h;cases h
   ·exact L4 e i oz
def Y8(DS:List Wd)(k:Nat):Nat:=(Yl DS (DS.getD k []) k).getD k
def Ln(DS:List Wd):List Nat:=(List.range DS.length).map (Y8 DS)
theorem Sc(DS:List Wd)(k:Nat):Y8 DS k<=k/\DS.getD (Y8 DS k) []=DS.getD k []/\∀ i,i<Y8 DS k->DS.getD i []≠DS.getD k []:=by
 unfold Y8;cases e:Yl DS (DS.getD k []) k with
 | some j=>
  obtain⟨c,a,b⟩:=Fr e;exact⟨by simp;omega,a,b⟩
 | none=>exact⟨Nat.le_refl _,rfl,L4 e⟩
def V3(DS:List Wd)(n:Nat)(t:List UInt8):Option Int:=match Uo DS t n with
 | some j=>some (j:Int)
 | none=>none
theorem Q3a{DS:List Wd}{n:Nat}{t:List UInt8}(h:V3 DS n t=none):Uo DS t n=none:=by
 unfold V3 at h;cases e:Uo DS t n with
 | some j=>rw [e] at h;cases h
 | none=>rfl
theorem Q5q{DS:List Wd}{n:Nat}(h:V3 DS n (Qr (DS.getD n []))=none) (y:List UInt8):V3 DS (n+1) y=if y=Qr (DS.getD n []) then some (n:Int) else V3 DS n y:=by
 have b:=Q3a h;unfold V3;conv=>lhs;unfold Uo
 by_cases a:y=Qr (DS.getD n [])
 ·subst a;rw [if_pos rfl,b];simp only;rw [if_pos trivial]
 ·rw [if_neg a];cases Uo DS y n with
  | some j=>rfl
  | none=>simp only;rw [if_neg (fun e=>a e.symm)]
theorem Q4e{DS:List Wd}{n:Nat}{j:Int}(h:V3 DS n (Qr (DS.getD n []))=some j) (y:List UInt8):V3 DS (n+1) y=V3 DS n y:=by
 unfold V3 at *;conv=>lhs;unfold Uo
 cases e:Uo DS y n with
 | some j=>rfl
 | none=>
  simp only;rw [if_neg];intro a;rw [a,e] at h;cases h
theorem Q82{DS:List Wd}(a:Hu DS)(n:Nat):(match V3 DS n (Qr (DS.getD n [])) with | some j=>j | none=>(n:Int))=(Y8 DS n:Int):=by
 unfold V3 Y8;rw [Fs a (Ho a n)];cases Yl DS (DS.getD n []) n <;> rfl
def Fa(PL:List Wd)(n:Nat)(t:List UInt8):Option Int:=match Vm PL t n with
 | some j=>some (j:Int)
 | none=>none
theorem Q5w(PL:List Wd)(n:Nat)(y:List UInt8):Fa PL (n+1) y=if y=Qr (PL.getD n []) then some (n:Int) else Fa PL n y:=by
 unfold Fa;conv=>lhs;unfold Vm
 by_cases a:y=Qr (PL.getD n [])
 ·rw [if_pos a,if_pos a.symm]
 ·rw [if_neg a,if_neg (fun e=>a e.symm)]
theorem Q44{PL:List Wd}(a:Hu PL){w:Wd}(b:∀ s∈w,Qe s)(n:Nat):Xt PL w n=(match Fa PL n (Qr w) with | some j=>j | none=>-1):=by
 rw [<-Nz a b n];unfold Fa;cases Vm PL (Qr w) n <;> rfl
end Go.Proofs.YtejenndedjabhaaGreatDoor
