/- law.run (printed by genlrun.py). -/
import Derived.Test.YtejenndedjabhaaGreatDoorS10
import Derived.Test.YtejenndedjabhaaGreatDoorS09
import Derived.Test.YtejenndedjabhaaGreatDoorS11
set_option maxRecDepth 100000
set_option maxHeartbeats 16000000
namespace Go.Proofs.YtejenndedjabhaaGreatDoor
open Go.RowKit Go.Ab
attribute [local go_sem] Oper.semAt_some Zm Qv
theorem Qaf{w:World}{l:Q7}{cs:List Value}{vo:Option Addr}{vn vc:Nat}(a8:Zq w l cs) :
  Calls Tryz.prog 200 #[.agg cs.toArray,.slice vo vn vc] w fun e w'=>∃ Bk Bm,e=.returned (.func (.func 209) #[] #[.pointer (some ⟨w.heap.size+1,0,none⟩),.pointer (some ⟨w.heap.size,0,none⟩),.pointer (some ⟨Bk,0,none⟩),.pointer (some ⟨Bm,0,none⟩)]) /\
   LBx w' w.heap.size l cs/\Jg w' (w.heap.size+1) (.slice vo vn vc)/\w'.heap[Bk]?=some (.cells #[.int .i64 (l.ifs.length:Int)] 3 (0,0))/\w'.heap[Bm]?=some (.cells #[.int .i64 (l.outs.length:Int)] 3 (0,0))/\w.heap.size<=Bk/\w.heap.size<=Bm/\Ext w w':=by
 obtain⟨b6,a9,b9,b1,b4,a0,a2,b7,Y,a4,b0,c0,b2,b5,a1,a3,b8,Z,a5,H,p,G,J,j,I,b3,rfl,W,d1,d2,c5,d0,c9,c7,c8,c1,c2,c6,d3,d4,d5,d6,d7⟩:=Zu a8;rw [c1.out,c2.out];clear a8;go_enter Tryz.func200,Tryz.ntmps200;go_upto_region 1 with (fail)
 obtain⟨c,z⟩:=zE ((w.alloc (.cells #[.string b6,.int .i64 a9,.int .u32 (b9:Int),.int .u32 (b1:Int),.bool b4,.int .i64 a0,.int .i64 a2,.slice b7 Y a4,.int .i64 b0,.int .u32 (c0:Int),.int .u32 (b2:Int),.bool b5,.int .i64 a1,.int .i64 a3,.slice b8 Z a5,.slice H p G,.slice J j I,.int .i64 b3] 50)).alloc (.cells #[.slice vo vn vc] 23));have F:Ext w c:=by rw [<-z];exact((Q0.refl _ w).alloc _).alloc _
 have R:c.heap[w.heap.size]?=some (.cells #[.string b6,.int .i64 a9,.int .u32 (b9:Int),.int .u32 (b1:Int),.bool b4,.int .i64 a0,.int .i64 a2,.slice b7 Y a4,.int .i64 b0,.int .u32 (c0:Int),.int .u32 (b2:Int),.bool b5,.int .i64 a1,.int .i64 a3,.slice b8 Z a5,.slice H p G,.slice J j I,.int .i64 b3] 50 (0,0)):=by rw [<-z];exact Q9 (Q3 rfl)
 have U:Jg c (w.heap.size+1) (.slice vo vn vc):=by rw [<-z];exact Q3 zy
 have T:c.heap.size=w.heap.size+2:=by rw [<-z];simp
 rw [z];clear z;obtain⟨a,Q⟩:=zE w.heap.size;rw [Q] at R U T ⊢;obtain⟨f,V,L,X⟩:=Zh4 T Q R U;have a7:∀(d:World),Q0 (fun b=>c.heap.size<=b) c d->d.cell? ⟨a,15,none⟩=some (.slice H p G)/\d.cell? ⟨a,16,none⟩=some (.slice J j I):=by
  intro d c3;have a6:=c3.heap L.out (by have:=f.out;omega);exact⟨cell_of_row _ _ 15 _ _ _ a6,cell_of_row _ _ 16 _ _ _ a6⟩
 have q:=Zh a7;clear a7 R U T Q;refine Z8 (S:=fun d=>d.cell? ⟨a,15,none⟩=some (.slice H p G)/\d.cell? ⟨a,16,none⟩=some (.slice J j I)) [] kz (q.out _ (Q0.drew (Q0.refl _ c))) ?_;intro y;refine tE 0 7 y ?_;refine tE 1 8 y ?_;refine tE 2 9 y ?_;refine tE 3 10 y ?_;refine tE 4 11 y ?_;refine tE 5 12 y ?_;refine rE [6,7] ?_;refine Q2.cons rfl (fun K hK=>?_) (Q2.cons rfl (fun K hK=>?_) Q2.nil)
 ·refine iw rfl ?_;go_simp;have t:Ext c ((c.drew).alloc (.cells #[.int .i64 0] 3)):=Q0.alloc (Q0.drew (Q0.refl _ c)) _;refine hK.out _ _ (q.out _ (Ext.of t)) (fun hS2=>?_);clear hK K;try simp only [Act.put,pq]
  refine rE [7] ?_;refine Q2.cons rfl (fun K hK=>?_) Q2.nil;refine iw rfl ?_;go_simp;have A:Ext c ((c.drew.alloc (.cells #[.int .i64 0] 3)).alloc (.cells #[.int .i64 0] 3)):=Q0.alloc (t) _;refine hK.out _ _ (q.out _ (Ext.of A)) (fun hS3=>?_);clear hK K;try simp only [Act.put,pq]
  rw [f.out,show a+2+1=a+3 from rfl];obtain⟨g,n⟩:=zE (((c.alloc (.cells #[.int .i64 0] 3)).alloc (.cells #[.int .i64 0] 3)).drew);have r:Ext c g:=by rw [<-n];exact(((Q0.refl _ c).alloc _).alloc _).drew
  have v:g.heap[a+2]?=some (.cells #[.int .i64 0] 3 (0,0)):=by rw [<-n];exact Xr (Q9 (Q3 f.out.symm))
  have x:g.heap[a+3]?=some (.cells #[.int .i64 0] 3 (0,0)):=by rw [<-n];exact Xr (Q3 (by simp [f.out]))
  rw [n];clear n hS2 hS3 t A;refine rE [8] ?_;refine Q2.cons rfl (fun K hK=>?_) Q2.nil;refine iw rfl ?_;have M:=cell_of_one v;have O:=free_of_one v;go_simp;have i:Q0 (fun b=>b=a+2) g (g.setCell ⟨a+2,0,none⟩ (.int .i64 (p:Int))):=Q0.set1 g (a+2) 0 _;have m:=i.heap x oz;have u:=Jl (.int .i64 (p:Int)) v;refine hK.out _ _ (q.out _ ((Ext.of r).trans (i.mono (fun b hb e=>by have:=f.out;omega)))) (fun hS4=>?_);clear hK K M O
  (try change Zd _ _ _ _ _ _ _ _ (Act.put _ none _) _)
  (try simp only [Act.put])
  obtain⟨o,D⟩:=zE (g.setCell ⟨a+2,0,none⟩ (.int .i64 (p:Int)));rw [D] at i m u hS4 ⊢;clear D;refine rE [9] ?_;refine Q2.cons rfl (fun K hK=>?_) Q2.nil;refine iw rfl ?_;have N:=cell_of_one m;have P:=free_of_one m;go_simp;have s:Q0 (fun b=>b=a+3) o (o.setCell ⟨a+3,0,none⟩ (.int .i64 (j:Int))):=Q0.set1 o (a+3) 0 _;have B:=s.heap u oz;have C:=Jl (.int .i64 (j:Int)) m;refine hK.out _ _ (q.out _ (((Ext.of r).trans (i.mono (fun b hb e=>by have:=f.out;omega))).trans (s.mono (fun b hb e=>by have:=f.out;omega)))) (fun _=>?_);clear hK K N P
  (try change Zd _ _ _ _ _ _ _ _ (Act.put _ none _) _)
  (try simp only [Act.put])
  refine Z0 kz ?_ _;have k:Ext c (o.setCell ⟨a+3,0,none⟩ (.int .i64 (j:Int))):=Q0.after (Q0.after r i (fun b hb e=>by have:=f.out;omega)) s (fun b hb e=>by have:=f.out;omega);obtain⟨c4,E⟩:=zE (o.setCell ⟨a+3,0,none⟩ (.int .i64 (j:Int)));rw [E] at B C k ⊢;clear E i s m u hS4 r v x;go_wp2;go_ret;refine⟨a+2,a+3,?_⟩;rw [V.out];exact⟨rfl,⟨k.keep L.out,W.out.ext (F.trans k)⟩,k.keep X.out,B,C,by omega,by omega,F.trans k⟩
 ·refine iw rfl ?_;go_simp;have t:Ext c ((c.drew).alloc (.cells #[.int .i64 0] 3)):=Q0.alloc (Q0.drew (Q0.refl _ c)) _;refine hK.out _ _ (q.out _ (Ext.of t)) (fun hS2=>?_);clear hK K;try simp only [Act.put,pq]
  refine rE [6] ?_;refine Q2.cons rfl (fun K hK=>?_) Q2.nil;refine iw rfl ?_;go_simp;have A:Ext c ((c.drew.alloc (.cells #[.int .i64 0] 3)).alloc (.cells #[.int .i64 0] 3)):=Q0.alloc (t) _;refine hK.out _ _ (q.out _ (Ext.of A)) (fun hS3=>?_);clear hK K;try simp only [Act.put,pq]
  rw [f.out,show a+2+1=a+3 from rfl];obtain⟨g,n⟩:=zE (((c.alloc (.cells #[.int .i64 0] 3)).alloc (.cells #[.int .i64 0] 3)).drew);have r:Ext c g:=by rw [<-n];exact(((Q0.refl _ c).alloc _).alloc _).drew
  have v:g.heap[a+2]?=some (.cells #[.int .i64 0] 3 (0,0)):=by rw [<-n];exact Xr (Q9 (Q3 f.out.symm))
  have x:g.heap[a+3]?=some (.cells #[.int .i64 0] 3 (0,0)):=by rw [<-n];exact Xr (Q3 (by simp [f.out]))
  rw [n];clear n hS2 hS3 t A;refine rE [8] ?_;refine Q2.cons rfl (fun K hK=>?_) Q2.nil;refine iw rfl ?_;have M:=cell_of_one x;have O:=free_of_one x;go_simp;have i:Q0 (fun b=>b=a+3) g (g.setCell ⟨a+3,0,none⟩ (.int .i64 (p:Int))):=Q0.set1 g (a+3) 0 _;have m:=i.heap v oz;have u:=Jl (.int .i64 (p:Int)) x;refine hK.out _ _ (q.out _ ((Ext.of r).trans (i.mono (fun b hb e=>by have:=f.out;omega)))) (fun hS4=>?_);clear hK K M O
  (try change Zd _ _ _ _ _ _ _ _ (Act.put _ none _) _)
  (try simp only [Act.put])
  obtain⟨o,D⟩:=zE (g.setCell ⟨a+3,0,none⟩ (.int .i64 (p:Int)));rw [D] at i m u hS4 ⊢;clear D;refine rE [9] ?_;refine Q2.cons rfl (fun K hK=>?_) Q2.nil;refine iw rfl ?_;have N:=cell_of_one m;have P:=free_of_one m;go_simp;have s:Q0 (fun b=>b=a+2) o (o.setCell ⟨a+2,0,none⟩ (.int .i64 (j:Int))):=Q0.set1 o (a+2) 0 _;have B:=s.heap u oz;have C:=Jl (.int .i64 (j:Int)) m;refine hK.out _ _ (q.out _ (((Ext.of r).trans (i.mono (fun b hb e=>by have:=f.out;omega))).trans (s.mono (fun b hb e=>by have:=f.out;omega)))) (fun _=>?_);clear hK K N P
  (try change Zd _ _ _ _ _ _ _ _ (Act.put _ none _) _)
  (try simp only [Act.put])
  refine Z0 kz ?_ _;have k:Ext c (o.setCell ⟨a+2,0,none⟩ (.int .i64 (j:Int))):=Q0.after (Q0.after r i (fun b hb e=>by have:=f.out;omega)) s (fun b hb e=>by have:=f.out;omega);obtain⟨c4,E⟩:=zE (o.setCell ⟨a+2,0,none⟩ (.int .i64 (j:Int)));rw [E] at B C k ⊢;clear E i s m u hS4 r v x;go_wp2;go_ret;refine⟨a+3,a+2,?_⟩;rw [V.out];exact⟨rfl,⟨k.keep L.out,W.out.ext (F.trans k)⟩,k.keep X.out,B,C,by omega,by omega,F.trans k⟩
theorem Qa2{w:World}{BW BL i j:Nat}{l:Q7}{cs:List Value}{vo:Option Addr}{vc:Nat}{ws:Wd}{K:Nat->Prop}(a:Zv l=true)(g:ws.length<=32)(d:ws.length<=vc)(e:Zj K (.slice vo ws.length vc))
  (c:∀ b,K b->b<w.heap.size) (f:∀ W,Q0 (fun b=>¬ K b) w W->Q09 W BW BL i j l cs vo vc ws) :
  ∃ m,Wg Tryz.prog 209 #[.pointer (some ⟨BW,0,none⟩),.pointer (some ⟨BL,0,none⟩),.pointer (some ⟨i,0,none⟩),.pointer (some ⟨j,0,none⟩)] (Xm m) (Q1i m) (Qq l ws) K w:=by
 obtain⟨_,_,_,⟨o,p⟩,_⟩:=Um a;by_cases k:l.mode=1
 ·exact⟨9,Qd9 a k g d e c f⟩
 by_cases n:l.mode=2
 ·exact⟨2,Q9c a n g d e c f⟩
 ·exact⟨2,Qav a oz g d e c f⟩
section
variable {α:Type} {H:List α->Nat->Bool} {P:List α->List α} {k m:Nat}
theorem Dm(w:List α):∀(n i:Nat) (d:List α),(Vg H P k w n i d).length<=n
 | 0,_,_=>by simp [Vg]
 | n+1,i,d=>by
  unfold Vg
  split
  ·rw [List.length_cons];split
   ·have:=Dm w n (i+1) (d++P ((w.drop i).take k)++(w.drop i).take 1);omega
   ·have:=Dm w n (i+k) (d++P ((w.drop i).take k));omega
  ·have:=Dm w n (i+1) (d++(w.drop i).take 1);omega
theorem Fl:∀(n:Nat) (w:List α) (i:Nat),(V0 H P k m n w i).length<=n
 | 0,_,_=>by simp [V0]
 | n+1,w,i=>by
  unfold V0
  split
  ·simp
  ·split
   ·rw [List.length_cons];have:=Fl n (Ke P k w i) (i+m+(if k=0 then 1 else 0));omega
   ·have:=Fl n w (i+1);omega
theorem Ln:∀(n:Nat) (w:List α) (i:Nat),(Kc H P k n w i).length<=n
 | 0,_,_=>by simp [Kc]
 | n+1,_,0=>by simp [Kc]
 | n+1,w,i+1=>by
  unfold Kc
  split
  ·rw [List.length_cons];have:=Ln n (Ke P k w i) (i+1 - max k 1);omega
  ·have:=Ln n w i;omega
end
theorem Q1s(l:Q7)(ws:Wd):(Qq l ws).length<=ws.length+1:=by
 unfold Qq
 split
 ·exact Dm _ _ _ _
 ·split
  ·exact Fl _ _ _
  ·exact Ln _ _ _
def Qk(w:World)(v:Value)(u:Wd):Prop:=∃ ao c,v=.slice ao u.length c/\Q4 w (.slice ao u.length c) u/\u.length<=c
def Zt(w:World):List Value->List Wd->Prop
 | [],[]=>True
 | v::vs,u::us=>Qk w v u/\Zt w vs us
 | _,_=>False
theorem Qk.ext{A B:World}{v:Value}{u:Wd}(h:Qk A v u)(f:Ext A B):Qk B v u:=by
 obtain⟨a,b,c,d,e⟩:=h;exact⟨a,b,c,d.ext f,e⟩
theorem Zt.ext{A B:World}:∀ {vs:List Value} {us:List Wd},Zt A vs us->Ext A B->Zt B vs us
 | [],[],_,_=>trivial
 | _::_,_::_,⟨h1,h2⟩,ht=>⟨h1.ext ht,h2.ext ht⟩
theorem Zt.snoc{w:World}{v:Value}{u:Wd}:∀ {vs:List Value} {us:List Wd},Zt w vs us->Qk w v u->Zt w (vs++[v]) (us++[u])
 | [],[],_,h=>⟨h,trivial⟩
 | _::_,_::_,⟨h1,h2⟩,h=>⟨h1,h2.snoc h⟩
theorem Zt.length{w:World}:∀ {vs:List Value} {us:List Wd},Zt w vs us->vs.length=us.length
 | [],[],_=>rfl
 | _::_,_::_,⟨_,h2⟩=>by simp [h2.length]
theorem Zt.get{w:World}:∀ {vs:List Value} {us:List Wd},Zt w vs us->∀ i,i<us.length->Qk w (vs.getD i undef) (us.getD i [])
 | [],[],_,i,h=>by simp at h
 | _::_,_::_,⟨h1,_⟩,0,_=>h1
 | _::_,_::_,⟨_,h2⟩,i+1,h=>h2.get i (by simpa using h)
theorem Q83{l:Q7}{ws:Wd}(h:X9 l ws=0):trE l ws=0\/trE l ws=11:=by
 unfold trE;rw [if_pos h];split
 ·exact .inr rfl
 ·exact .inl rfl
theorem Qcj{l:Q7}{ws:Wd}(h:X9 l ws≠0):trE l ws≠0:=by
 unfold trE;rw [if_neg h];exact h
theorem Px{l:Q7}{ws:Wd}(h:trE l ws=0):X9 l ws=0:=by
 apply Decidable.byContradiction;intro a;exact Qcj a h
theorem Bw{l:Q7}{ws:Wd}(h:trE l ws=0):X7 (Qq l ws)=false:=by
 have a:=Px h;unfold trE at h;rw [if_pos a] at h;cases hl:X7 (Qq l ws) with
 | false=>rfl
 | true=>rw [hl,if_pos rfl] at h;cases h
theorem Cw{t:List (Nat × Wd)} (h:X7 t=false) {x:Nat × Wd} (a:x∈t):x.2.length<=32:=by
 unfold X7 at h;rw [List.any_eq_false] at h;have:=h x a
 simpa using this
theorem Dl{A:World}{p:Addr}{v:Value}(h:A.cell? p=some v):∃ o,A.heap[p.block]?=some o/\o.isCells=true:=by
 unfold World.cell? at h
 split at h
 ·exact⟨_,by assumption,rfl⟩
 ·cases h
theorem Q7y{base:Nat}{A B:World}(c:Q0 (Go.Ab.Shut base A) A B) {p:Addr} {v:Value} (h:A.cell? p=some v):B.cell? p=some v:=by
 obtain⟨d,a,b⟩:=Dl h;exact c.cell_some h (Go.Ab.Shut.not a b)
theorem Rd.shut{base:Nat}{A B:World}(a:Q0 (Go.Ab.Shut base A) A B) {v:Value} {n sz:Nat} {xs:List Value} (h:Rd A v n sz xs):Rd B v n sz xs:=by
 obtain⟨e,f,b,c,m,g⟩:=h;refine⟨e,f,b,c,m,fun hn=>?_⟩;obtain⟨d,o,i,l,k⟩:=g hn;exact⟨d,o,i,Nat.lt_of_lt_of_le l a.size,fun j hj=>Q7y a (k j hj)⟩
theorem Rd.nocells{r:Nat}{A B:World}(d:Q0 (fun b=>b=r) A B) (t:∃ o,A.heap[r]?=some o/\o.isCells=false) {v:Value} {n sz:Nat} {xs:List Value} (h:Rd A v n sz xs):Rd B v n sz xs:=by
 obtain⟨l,m,g,i,u,p⟩:=h;refine⟨l,m,g,i,u,fun hn=>?_⟩;obtain⟨k,w,q,s,c⟩:=p hn;refine⟨k,w,q,Nat.lt_of_lt_of_le s d.size,fun j hj=>d.cell_some (c j hj) (fun e=>?_)⟩;obtain⟨o,a,f⟩:=Dl (c j hj);obtain⟨z,x,y⟩:=t;simp only at e a;rw [e,x] at a;cases a;rw [y] at f;cases f
theorem W4{base0:Nat}{A B:World}{base:Nat}{e:TypeId}{sz:Nat}{v:Value}{n:Nat}{xs:List Value}(h:A.ownsRow base e sz v n xs)(ht:Q0 (Go.Ab.Shut base0 A) A B):B.ownsRow base e sz v n xs:=
 Qc5 h ht fun _ _ hg ho=>Go.Ab.Shut.not hg ho
theorem Ji{W:World}{f i:Nat}{b c:TypeId}{r s o p:Nat}{d e:Value}{t u:List Value}(j:W.ownsRow f b r d o t)(k:W.ownsRow i c s e p u)(l:b≠c):∀ g,d.ownBlock=some g->e.ownBlock≠some g:=by
 intro g m n;obtain⟨v,q⟩:=Vb j m;obtain⟨w,a⟩:=Vb k n;rw [q] at a;simp only [Option.some.injEq,Obj.cells.injEq] at a;exact l a.2.1
theorem Gb{W:World}{g:Nat}{v:Value}{t:TypeId}(h:W.heap[g]?=some (.cells #[v] t (0,0))):∀ j u,[v][j]?=some u->W.cell? ((⟨g,0,none⟩:Addr).add j)=some u:=by
 intro j u a
 match j,a with
 | 0,a=>
  simp at a;subst a;exact cell_of_one h
theorem Qk.keepS{S:Nat->Prop}{A B:World}{v:Value}{u:Wd}(h:Qk A v u)(g:Q0 (fun b=>¬ S b) A B) (f:Zj S v):Qk B v u:=by
 obtain⟨a,c,rfl,d,e⟩:=h;exact⟨a,c,rfl,M6 d g f,e⟩
theorem Qk.shut{base:Nat}{A B:World}(e:Q0 (Go.Ab.Shut base A) A B) {v:Value} {u:Wd} (h:Qk A v u):Qk B v u:=by
 obtain⟨b,c,rfl,a,d⟩:=h;exact⟨b,c,rfl,⟨Rd.shut e a.1,a.2⟩,d⟩
theorem Zt.keepS{S:Nat->Prop}{A B:World}(ht:Q0 (fun b=>¬ S b) A B):∀ {vs:List Value} {us:List Wd},Zt A vs us->(∀ x∈vs,Zj S x)->Zt B vs us
 | [],[],_,_=>trivial
 | _::_,_::_,⟨h1,h2⟩,hS=>⟨h1.keepS ht (hS _ zy),h2.keepS ht (fun x hx=>hS x (by simp [hx]))⟩
theorem Zt.shut{base:Nat}{A B:World}(ht:Q0 (Go.Ab.Shut base A) A B):∀ {vs:List Value} {us:List Wd},Zt A vs us->Zt B vs us
 | [],[],_=>trivial
 | _::_,_::_,⟨h1,h2⟩=>⟨h1.shut ht,h2.shut ht⟩
theorem Zj.mono{S T:Nat->Prop}{v:Value}(h:Zj S v)(hst:∀ b,S b->T b):Zj T v:=fun g o n c e h0=>hst _ (h g o n c e h0)
def Xw(b:Nat)(W:World)(u v:Value)(t:List (Nat × Wd)):Prop:=
 W.ownsRow b 3 1 u t.length (Y4 (t.map (·.1)))/\∃ vals,W.ownsRow b 23 1 v t.length vals/\Zt W vals (t.map (·.2))
theorem Xw.nil(b:Nat)(W:World):Xw b W (.slice none 0 0) (.slice none 0 0) []:=⟨World.ownsRow_nil _ _ _ _,[],World.ownsRow_nil _ _ _ _,trivial⟩
theorem Xw.ext{b:Nat}{A B:World}{u v:Value}{t:List (Nat × Wd)} (h:Xw b A u v t) (a:Ext A B):Xw b B u v t:=by
 obtain⟨c,f,d,e⟩:=h;exact⟨Q6 c a,f,Q6 d a,e.ext a⟩
theorem Xw.base{b b':Nat}{A:World}{u v:Value}{t:List (Nat × Wd)} (h:Xw b A u v t) (a:b'<=b):Xw b' A u v t:=by
 obtain⟨c,f,d,e⟩:=h;exact⟨Z9 c a,f,Z9 d a,e⟩
theorem Xw.slices{b:Nat}{A:World}{u v:Value}{t:List (Nat × Wd)} (h:Xw b A u v t):∃ uo uc vo vc,u=.slice uo t.length uc/\v=.slice vo t.length vc/\t.length<=maxLen:=by
 obtain⟨a,f,c,e⟩:=h;obtain⟨_,_,uo,uc,rfl,_⟩:=Rd.of_own a;obtain⟨_,d,vo,vc,rfl,_⟩:=Rd.of_own c;exact⟨uo,uc,vo,vc,rfl,rfl,d⟩
theorem Xw.at{b:Nat}{A:World}{u j:Value}{t:List (Nat × Wd)} (h:Xw b A u j t) {i:Nat} (e:i<t.length) :
  ∃ g cap ao c,j=.slice (some ⟨g,0,none⟩) t.length cap/\A.cell? ⟨g,i,none⟩=some (.slice ao t[i].2.length c)/\Q4 A (.slice ao t[i].2.length c) t[i].2/\t[i].2.length<=c:=by
 obtain⟨_,w,d,k⟩:=h;obtain⟨s,v,ao,cap,rfl,o⟩:=Rd.of_own d;obtain⟨g,rfl⟩:=Rt d oz;obtain⟨q,r,f,_,p⟩:=o oz;simp only [Option.some.injEq,Addr.mk.injEq] at f;obtain⟨rfl,rfl,_⟩:=f;have a:=k.get i (by simpa using e);have m:(t.map (·.2)).getD i []=t[i].2:=by rw [List.getD_eq_getElem?_getD,List.getElem?_map,List.getElem?_eq_getElem e];rfl
 rw [m] at a;obtain⟨ao,c,n,a,l⟩:=a;have:=p i oz;rw [Nat.zero_add,n] at this;exact⟨g,cap,ao,c,rfl,this,a,l⟩
structure TrI (w:World) (B P D m:Nat) (O:Nat->Prop) (pre:List (Nat × Wd)) (V:World) (u v:Value) (vals:List Value):Prop where
 ru:V.heap[B+1]?=some (.cells #[.slice none 0 0] 36 (0,0))
 rv:V.heap[B+2]?=some (.cells #[.slice none 0 0] 74 (0,0))
 re:V.heap[B+3]?=some (.cells #[.int .i64 0] 32 (0,0))
 bu:V.heap[P]?=some (.cells #[u] 36 (0,0))
 bv:V.heap[P+1]?=some (.cells #[v] 74 (0,0))
 ou:V.ownsRow (D+2) 3 1 u pre.length (Y4 (pre.map (·.1)))
 ov:V.ownsRow (D+2) 23 1 v pre.length vals
 wd:Zt V vals (pre.map (·.2))
 ub:∀ g,u.ownBlock=some g->¬ O g
 vb:∀ g,v.ownBlock=some g->¬ O g
 wk:∀ x∈vals,Zj (fun g=>D+2+m<=g/\g<V.heap.size/\u.ownBlock≠some g/\v.ownBlock≠some g) x
 ext:Ext w V
 short:X7 pre=false
section
variable {w:World} {B P D m:Nat} {O:Nat->Prop} {pre:List (Nat × Wd)} {V:World} {u v:Value} {vals:List Value}
theorem TrI.turn(h:TrI w B P D m O pre V u v vals){O':Nat->Prop}{W:World}(k:w.heap.size=B)(l:B+4<=P)(n:P+2<=D)(j:∀ b,O b->D+2<=b/\b<V.heap.size)
  (c:Q0 (fun b=>(O b/\Xm m (D+2) b)\/b=D+1) V W) (f:∀ b,O' b->(O b\/V.heap.size<=b)/\b<W.heap.size):TrI w B P D m O' pre W u v vals:=by
 have d:∀ b,b<D->¬ ((O b/\Xm m (D+2) b)\/b=D+1):=fun b hb hn=>by
  rcases hn with a | a
  ·have:=(j b a.1).1;omega
  ·omega
 have i:∀ {x:Value},(∀ g,x.ownBlock=some g->¬ O g)->(∀ g,x.ownBlock=some g->D+2<=g)->∀ g,x.ownBlock=some g->¬ ((O g/\Xm m (D+2) g)\/g=D+1):=fun a h2 g hg hn=>by
  rcases hn with e | e
  ·exact a g hg e.1
  ·have:=h2 g hg;omega
 refine⟨c.heap h.ru (d _ oz),c.heap h.rv (d _ oz),c.heap h.re (d _ oz),c.heap h.bu (d _ oz),c.heap h.bv (d _ oz),Qi h.ou c (i h.ub (fun g hg=>(h.ou.lt g hg).1)),Qi h.ov c (i h.vb (fun g hg=>(h.ov.lt g hg).1)),?_,fun g hg hg2=>?_,fun g hg hg2=>?_,fun x hx=>(h.wk x hx).mono fun b hb=>⟨hb.1,Nat.lt_of_lt_of_le hb.2.1 c.size,hb.2.2⟩,h.ext.after c (fun b hb hn=>d b oz hn),h.short⟩
 ·refine h.wd.keepS (S:=fun g=>D+2+m<=g) (c.mono fun b _ hb hn=>?_) (fun x hx=>(h.wk x hx).mono fun b hb=>hb.1);rcases hb with a | a
  ·have:=a.2;unfold Xm at this;omega
  ·omega
 ·rcases(f g hg2).1 with a | a
  ·exact h.ub g hg a
  ·have:=(h.ou.lt g hg).2;omega
 ·rcases(f g hg2).1 with a | a
  ·exact h.vb g hg a
  ·have:=(h.ov.lt g hg).2;omega
theorem TrI.push(h:TrI w B P D m O pre V u v vals)(a1:w.heap.size=B)(a2:B+4<=P)(a3:P+2<=D)(A:∀ b,O b->D+2<=b/\b<V.heap.size)(_hDV:D+2<=V.heap.size)
  {x:Nat × Wd} {ao:Option Addr} {c:Nat} (X:Q4 V (.slice ao x.2.length c) x.2) (N:x.2.length<=c) (Q:Zj (fun g=>O g/\D+2+m<=g/\g<V.heap.size) (.slice ao x.2.length c)) (a0:x.2.length<=32)
  {W:World} {u' v':Value} (t:W.ownsRow (D+2) 3 1 u' (pre.length+1) (Y4 (pre.map (·.1))++[.int .i64 (x.1:Int)])) (z:W.ownsRow (D+2) 23 1 v' (pre.length+1) (vals++[.slice ao x.2.length c]))
  (j:Q0 (fun b=>u.ownBlock=some b\/v.ownBlock=some b) V W) (C:u'.ownBlock=u.ownBlock\/∃ k,V.heap.size<=k/\u'.ownBlock=some k) (E:v'.ownBlock=v.ownBlock\/∃ k,V.heap.size<=k/\v'.ownBlock=some k) :
  (∃ u v vals,TrI w B P D m O (pre++[x]) ((W.setCell ⟨P,0,none⟩ u').setCell ⟨P+1,0,none⟩ v') u v vals)/\Q0 (fun b=>¬ ((b<D/\b≠P/\b≠P+1/\b≠B+1/\b≠B+2/\b≠B+3)\/O b\/b=D\/b=D+1)) V ((W.setCell ⟨P,0,none⟩ u').setCell ⟨P+1,0,none⟩ v'):=by
 obtain⟨o,q⟩:=zE ((W.setCell ⟨P,0,none⟩ u').setCell ⟨P+1,0,none⟩ v');have i:Q0 (fun b=>b=P\/b=P+1) W o:=by rw [<-q];exact((Q0.set1 W P 0 u').mono fun b _ a=>.inl a).trans ((Q0.set1 _ (P+1) 0 v').mono fun b _ a=>.inr a)
 have s:∀ b,(u.ownBlock=some b\/v.ownBlock=some b)->D+2<=b/\¬ O b/\b<V.heap.size:=fun b d=>by
  rcases d with d | d
  ·exact⟨(h.ou.lt b d).1,h.ub b d,(h.ou.lt b d).2⟩
  ·exact⟨(h.ov.lt b d).1,h.vb b d,(h.ov.lt b d).2⟩
 have n:∀ b,b<D->¬ (u.ownBlock=some b\/v.ownBlock=some b):=fun b d e=>by have:=(s b e).1;omega
 have I:=j.heap h.bu (n _ oz);have K:=j.heap h.bv (n _ oz);have J:o.heap[P]?=some (.cells #[u'] 36 (0,0)):=by
  rw [<-q];exact(Q0.set1 _ (P+1) 0 v').heap (Jl u' I) oz
 have L:o.heap[P+1]?=some (.cells #[v'] 74 (0,0)):=by
  rw [<-q];exact Jl v' ((Q0.set1 W P 0 u').heap K oz)
 have T:∀ g,u'.ownBlock=some g->D+2<=g:=fun g hg=>(t.lt g hg).1;have U:∀ g,v'.ownBlock=some g->D+2<=g:=fun g hg=>(z.lt g hg).1
 have G:∀ {y y':Value},(∀ g,y.ownBlock=some g->¬ O g)->(y'.ownBlock=y.ownBlock\/∃ k,V.heap.size<=k/\y'.ownBlock=some k)->∀ g,y'.ownBlock=some g->¬ O g:=fun h1 p g hg ho=>by
  rcases p with p | ⟨k,p,l⟩
  ·exact h1 g (p ▸ hg) ho
  ·rw [l] at hg;cases hg;have:=(A _ ho).2;omega
 have H:∀ {y y':Value} (g:Nat),y.ownBlock≠some g->g<V.heap.size->(y'.ownBlock=y.ownBlock\/∃ k,V.heap.size<=k/\y'.ownBlock=some k)->y'.ownBlock≠some g:=fun g h1 p l=>by
  rcases l with l | ⟨k,l,M⟩
  ·rw [l];exact h1
  ·rw [M];intro a;cases a;omega
 have R:=Nat.le_trans j.size i.size;have r:Q0 (fun b=>(u.ownBlock=some b\/v.ownBlock=some b)\/(b=P\/b=P+1)) V o:=(j.mono fun b _ a=>.inl a).trans (i.mono fun b _ a=>.inr a);have Y:Zj (fun g=>D+2+m<=g/\g<V.heap.size/\u.ownBlock≠some g/\v.ownBlock≠some g) (.slice ao x.2.length c):=Q.mono fun b d=>⟨d.2.1,d.2.2,fun a=>h.ub b a d.1,fun a=>h.vb b a d.1⟩
 have F:∀ y∈vals++[.slice ao x.2.length c],Zj (fun g=>D+2+m<=g/\g<V.heap.size/\u.ownBlock≠some g/\v.ownBlock≠some g) y:=fun y f=>by
  rcases List.mem_append.1 f with f | f
  ·exact h.wk y f
  ·simp only [List.mem_singleton] at f;subst f;exact Y
 rw [q];refine⟨⟨u',v',vals++[.slice ao x.2.length c],⟨?_,?_,?_,J,L,?_,?_,?_,G h.ub C,G h.vb E,fun y f=>(F y f).mono fun b d=>⟨d.1,Nat.lt_of_lt_of_le d.2.1 R,H b d.2.2.1 d.2.1 C,H b d.2.2.2 d.2.1 E⟩,?_,?_⟩⟩,r.mono fun b d a e=>?_⟩
 ·exact i.heap (j.heap h.ru (n _ oz)) oz
 ·exact i.heap (j.heap h.rv (n _ oz)) oz
 ·exact i.heap (j.heap h.re (n _ oz)) oz
 ·rw [List.length_append,List.map_append];show o.ownsRow _ _ _ _ _ (Y4 (pre.map (·.1)++[x.1]));rw [Uq];exact Qi t i (fun g hg a=>by have:=T g hg;omega)
 ·rw [List.length_append];exact Qi z i (fun g hg a=>by have:=U g hg;omega)
 ·rw [List.map_append];refine(h.wd.snoc ⟨ao,c,rfl,X,N⟩).keepS (S:=fun g=>D+2+m<=g/\g<V.heap.size/\u.ownBlock≠some g/\v.ownBlock≠some g) (r.mono fun b _ a e=>?_) F;rcases a with (a | a) | a
  ·exact e.2.2.1 a
  ·exact e.2.2.2 a
  ·omega
 ·refine h.ext.after r (fun b d a=>?_);rcases a with a | a
  ·exact n b oz a
  ·omega
 ·have:=h.short;unfold X7 at this ⊢;rw [List.any_append,this];simp;omega
 ·rcases a with a | a
  ·obtain⟨a4,Z,a5⟩:=s b a;rcases e with e | e | e | e
   ·omega
   ·exact Z e
   ·omega
   ·omega
  ·rcases e with e | e | e | e
   ·omega
   ·have:=(A b e).1;omega
   ·omega
   ·omega
end
theorem Qab{V:World}{b c d:Nat}{x1 x2 x3:Value}{t1 t2 t3:TypeId}(h1:V.heap[b]?=some (.cells #[x1] t1 (0,0))) (h2:V.heap[c]?=some (.cells #[x2] t2 (0,0))) (h3:V.heap[d]?=some (.cells #[x3] t3 (0,0))) (hbc:b≠c) (hcd:c≠d) (hbd:b≠d) (y1 y2 y3:Value) :
  (((V.setCell ⟨b,0,none⟩ y1).setCell ⟨c,0,none⟩ y2).setCell ⟨d,0,none⟩ y3).heap[b]?=some (.cells #[y1] t1 (0,0))/\(((V.setCell ⟨b,0,none⟩ y1).setCell ⟨c,0,none⟩ y2).setCell ⟨d,0,none⟩ y3).heap[c]?=some (.cells #[y2] t2 (0,0))/\(((V.setCell ⟨b,0,none⟩ y1).setCell ⟨c,0,none⟩ y2).setCell ⟨d,0,none⟩ y3).heap[d]?=some (.cells #[y3] t3 (0,0)) /\
  Q0 (fun x=>x=b\/x=c\/x=d) V (((V.setCell ⟨b,0,none⟩ y1).setCell ⟨c,0,none⟩ y2).setCell ⟨d,0,none⟩ y3):=
 ⟨(Q0.set1 _ d 0 y3).heap ((Q0.set1 _ c 0 y2).heap (Jl y1 h1) oz) oz,(Q0.set1 _ d 0 y3).heap (Jl y2 ((Q0.set1 V b 0 y1).heap h2 oz)) oz,
  Jl y3 ((Q0.set1 _ c 0 y2).heap ((Q0.set1 V b 0 y1).heap h3 oz) oz),(((Q0.set1 V b 0 y1).mono fun x _ e=>.inl e).trans ((Q0.set1 _ c 0 y2).mono fun x _ e=>.inr (.inl e))).trans ((Q0.set1 _ d 0 y3).mono fun x _ e=>.inr (.inr e))⟩
theorem Vr{a:Func}{p q r:Tmp}(h:a.results=#[.cell p 36,.cell q 74,.cell r 32]){tmps:Array Value}{w:World}{b c d:Nat}{x y z:Value}
  (i:tmps.getD p undef=.pointer (some ⟨b,0,none⟩)) (k:tmps.getD q undef=.pointer (some ⟨c,0,none⟩)) (m:tmps.getD r undef=.pointer (some ⟨d,0,none⟩))
  (o:w.heap[b]?=some (.cells #[x] 36 (0,0))) (s:w.heap[c]?=some (.cells #[y] 74 (0,0))) (t:w.heap[d]?=some (.cells #[z] 32 (0,0))) :
  (results a tmps).run Tryz.prog w=.ok (.tuple #[x,y,z]) w:=by
 have j:tmps[p]?.getD undef=.pointer (some ⟨b,0,none⟩):=by simpa using i
 have l:tmps[q]?.getD undef=.pointer (some ⟨c,0,none⟩):=by simpa using k
 have n:tmps[r]?.getD undef=.pointer (some ⟨d,0,none⟩):=by simpa using m
 have e:=cell_of_one o;have f:=cell_of_one s;have g:=cell_of_one t;simp [results,h,j,l,n,asAddr,go_sem,e,f,g]
abbrev Qeq:Pat:=.node 0 0 0 false 0 0 []
def Qev(l:Q7)(s:Nat × Nat):Wd:=if Jk s (l.ifs.getD 0 (0,0))=true then Yz l [s] else [s]
def Zw:List Q7->Wd->Option Wd
 | [],w=>some w
 | l::ls,w=>if trE l w=0 then Zw ls (Jt l w) else none
def Z4(ls:List Q7):Int:=if 64<ls.length then 12 else if ls.all Zv=true then 0 else 17
def U4(ls:List Q7)(w:Wd):Int:=if Z4 ls=0 then wE w else Z4 ls
def Ye(ls:List Q7)(w:Wd):Int:=if U4 ls w=0 then(if (Zw ls w).isSome=true then 0 else 11) else U4 ls w
def Yj(ls:List Q7)(w:Wd):Wd:=if U4 ls w=0 then(Zw ls w).getD [] else []
theorem Mq{ls:List Q7}{w:Wd}(h:U4 ls w≠0):Ye ls w=U4 ls w/\Yj ls w=[]:=by
 unfold Ye Yj;rw [if_neg h,if_neg h];exact⟨rfl,rfl⟩
theorem Fx{ls:List Q7}{w:Wd}(h:U4 ls w=0)(a:Zw ls w=none):Ye ls w=11/\Yj ls w=[]:=by
 unfold Ye Yj;rw [if_pos h,if_pos h,a];exact⟨rfl,rfl⟩
theorem Ld{ls:List Q7}{w v:Wd}(h:U4 ls w=0)(a:Zw ls w=some v):Ye ls w=0/\Yj ls w=v:=by
 unfold Ye Yj;rw [if_pos h,if_pos h,a];exact⟨rfl,rfl⟩
theorem Qbf{ls:List Q7}{w:Wd}(h:Ye ls w≠0):Yj ls w=[]:=by
 by_cases a:U4 ls w=0
 ·cases hd:Zw ls w with
  | none=>exact(Fx a hd).2
  | some v=>exact absurd (Ld a hd).1 h
 ·exact(Mq a).2
theorem Vx:∀(ls ms:List Q7) (w:Wd),Zw (ls++ms) w=(Zw ls w).bind (Zw ms)
 | [],_,_=>rfl
 | l::ls,ms,w=>by
  show Zw (l::(ls++ms)) w=_;unfold Zw;by_cases h:trE l w=0
  ·rw [if_pos h,if_pos h];exact Vx ls ms _
  ·rw [if_neg h,if_neg h];rfl
theorem Na{ls:List Q7}{k:Nat}(a:k<ls.length)(w:Wd):Zw (ls.take (k+1)) w=(Zw (ls.take k) w).bind fun u=>if trE ls[k] u=0 then some (Jt ls[k] u) else none:=by
 rw [List.take_succ_eq_append_getElem a,Vx]
 congr 1
theorem Cl{ls:List Q7}{k:Nat}{w u:Wd}(d:k<ls.length)(b:Zw (ls.take k) w=some u) (c:trE ls[k] u≠0):Zw ls w=none:=by
 have a:ls=ls.take (k+1)++ls.drop (k+1):=(List.take_append_drop _ _).symm;rw [a,Vx,Na d,b];simp [c]
theorem Q1u{ls:List Q7}{k:Nat}{w:Wd}(a:ls.length<=k):Zw (ls.take k) w=Zw ls w:=by rw [List.take_of_length_le a]
section
variable {α:Type} {H:List α->Nat->Bool} {P:List α->List α} {k m:Nat} {p:α->Prop}
theorem Mc(d:∀ c,(∀ s∈c,p s)->∀ s∈P c,p s) {w:List α} (b:∀ s∈w,p s) (i:Nat):∀ s∈Ke P k w i,p s:=by
 intro s a;unfold Ke at a;rw [List.mem_append,List.mem_append] at a;rcases a with (a | a) | a
 ·exact b s (List.mem_of_mem_take a)
 ·exact d _ (fun s a=>b s (List.mem_of_mem_drop (List.mem_of_mem_take a))) s a
 ·exact b s (List.mem_of_mem_drop a)
theorem Ma(hP:∀ c,(∀ s∈c,p s)->∀ s∈P c,p s) {w:List α} (hw:∀ s∈w,p s):∀(n i:Nat) (d:List α),(∀ s∈d,p s)->∀ x∈Vg H P k w n i d,∀ s∈x.2,p s
 | 0,_,_,_=>fun x hx=>by cases hx
 | n+1,i,d,hd=>fun x hx=>by
  have hc:∀ s∈P ((w.drop i).take k),p s:=hP _ fun s hs=>hw s (List.mem_of_mem_drop (List.mem_of_mem_take hs));have h1:∀ s∈(w.drop i).take 1,p s:=fun s hs=>hw s (List.mem_of_mem_drop (List.mem_of_mem_take hs));have hdc:∀ s∈d++P ((w.drop i).take k),p s:=fun s hs=>(List.mem_append.1 hs).elim (hd s) (hc s);unfold Vg at hx
  split at hx
  ·rcases List.mem_cons.1 hx with rfl | hx
   ·intro s hs;rcases List.mem_append.1 hs with hs | hs
    ·exact hdc s hs
    ·exact hw s (List.mem_of_mem_drop hs)
   ·split at hx
    ·exact Ma hP hw n _ _ (fun s hs=>(List.mem_append.1 hs).elim (hdc s) (h1 s)) x hx
    ·exact Ma hP hw n _ _ hdc x hx
  ·exact Ma hP hw n _ _ (fun s hs=>(List.mem_append.1 hs).elim (hd s) (h1 s)) x hx
theorem Lz(hP:∀ c,(∀ s∈c,p s)->∀ s∈P c,p s):∀(n:Nat) (w:List α) (i:Nat),(∀ s∈w,p s)->∀ x∈V0 H P k m n w i,∀ s∈x.2,p s
 | 0,_,_,_=>fun x hx=>by cases hx
 | n+1,w,i,hw=>fun x hx=>by
  unfold V0 at hx
  split at hx
  ·cases hx
  ·split at hx
   ·rcases List.mem_cons.1 hx with rfl | hx
    ·exact Mc hP hw i
    ·exact Lz hP n _ _ (Mc hP hw i) x hx
   ·exact Lz hP n _ _ hw x hx
theorem Pb(hP:∀ c,(∀ s∈c,p s)->∀ s∈P c,p s):∀(n:Nat) (w:List α) (i:Nat),(∀ s∈w,p s)->∀ x∈Kc H P k n w i,∀ s∈x.2,p s
 | 0,_,_,_=>fun x hx=>by cases hx
 | _+1,_,0,_=>fun x hx=>by cases hx
 | n+1,w,i+1,hw=>fun x hx=>by
  unfold Kc at hx
  split at hx
  ·rcases List.mem_cons.1 hx with rfl | hx
   ·exact Mc hP hw i
   ·exact Pb hP n _ _ (Mc hP hw i) x hx
  ·exact Pb hP n _ _ hw x hx
end
theorem Q57{p:Nat × Nat->Prop}{l:Q7}(a:∀ c:Wd,(∀ s∈c,p s)->∀ s∈Yz l c,p s) {ws:Wd} (b:∀ s∈ws,p s):∀ x∈Qq l ws,∀ s∈x.2,p s:=by
 unfold Qq
 split
 ·exact Ma a b _ _ _ (fun s hs=>by cases hs)
 ·split
  ·exact Lz a _ _ _ b
  ·exact Pb a _ _ _ b
theorem Qac{p:Nat × Nat->Prop}{l:Q7}(g:∀ c:Wd,(∀ s∈c,p s)->∀ s∈Yz l c,p s) {ws:Wd} (f:∀ s∈ws,p s):∀ s∈Jt l ws,p s:=by
 unfold Jt
 split
 ·have m:∀(b:List Wd) (d:Wd),(∀ s∈d,p s)->(∀ x∈b,∀ s∈x,p s)->∀ s∈b.getLastD d,p s:=by
   intro b
   induction b with
   | nil=>intro d i _;exact i
   | cons a b ih=>intro d _ e;rw [List.getLastD_cons];exact ih a (e a zy) (fun x hx=>e x (by simp [hx]))
  refine m _ _ f (fun x hx=>?_);obtain⟨n,k,rfl⟩:=List.mem_map.1 hx;exact Q57 g f n k
 ·intro s j;cases j
abbrev okW(s:Nat × Nat):Prop:=Qh s/\okS s=true
theorem Q4i{s f:Nat × Nat}{m:Nat}(c:Qh s)(b:Qh f):okW (X5 s m f).1:=by
 refine⟨Fp c b,?_⟩;unfold X5;by_cases a:okS s=false\/okS f=false
 ·rw [if_pos a];rfl
 ·rw [if_neg a];rw [not_or,Bool.not_eq_false,Bool.not_eq_false] at a
  split
  ·rfl
  ·exact Q8c c b a.1 a.2
theorem Qcv{s f:Nat × Nat}{m:Nat}(c:Qh s)(b:Qh f):okW (Ju s f m).1:=by
 refine⟨Q7t c b,?_⟩;unfold Ju;by_cases a:okS s=false\/okS f=false
 ·rw [if_pos a];rfl
 ·rw [if_neg a];rw [not_or,Bool.not_eq_false,Bool.not_eq_false] at a
  split
  ·rfl
  ·exact Q8c c b a.1 a.2
theorem Qar{l:Q7}(f:∀ x∈l.outs,Xx x)(c:Wd)(j:∀ s∈c,okW s):∀ s∈Yz l c,okW s:=by
 have k:Zn c:=fun s a=>(j s a).1;intro s a;obtain⟨x,g,rfl⟩:=List.mem_map.1 a
 have d:∀ i:Nat,Qh (c.getD i (0,0)):=fun i=>by
  by_cases b:i<c.length
  ·rw [List.getD_eq_getElem?_getD,List.getElem?_eq_getElem b];exact k _ (List.getElem_mem b)
  ·rw [List.getD_eq_getElem?_getD,List.getElem?_eq_none oz];exact⟨by decide,by decide⟩
 have e:Qh (if 0<=x.frm then c.getD x.frm.toNat (0,0) else(0,0)):=by
  split
  ·exact d _
  ·exact⟨by decide,by decide⟩
 unfold U3
 split
 ·exact Q4i e (f x g).2.1
 ·exact Qcv (Q4i e (f x g).2.1).1 (d _)
theorem Pp{ws:Wd}:wE ws=0↔ws.length<=32/\∀ s∈ws,okS s=true:=by
 unfold wE;constructor
 ·intro a
  split at a
  ·cases a
  ·split at a
   ·rename_i c b
    exact⟨by omega,List.all_eq_true.1 b⟩
   ·cases a
 ·rintro⟨c,b⟩;have d:Xk ws=true:=List.all_eq_true.2 b;rw [if_neg oz,if_pos d]
theorem Q4f{l:Q7}(j:∀ x∈l.outs,Xx x){ws:Wd}(g:Zn ws)(h:trE l ws=0):wE (Jt l ws)=0/\Zn (Jt l ws):=by
 have f:=Pp.1 (Hi (Px h)).2;have d:=Qac (p:=okW) (Qar j) (ws:=ws) (fun s hs=>⟨g s hs,f.2 s hs⟩);refine⟨Pp.2 ⟨?_,fun s hs=>(d s hs).2⟩,fun s hs=>(d s hs).1⟩;have m:∀(b:List Wd) (c:Wd),c.length<=32->(∀ x∈b,x.length<=32)->(b.getLastD c).length<=32:=by
  intro b
  induction b with
  | nil=>intro c i _;exact i
  | cons a b ih=>intro c _ e;rw [List.getLastD_cons];exact ih a (e a zy) (fun x hx=>e x (by simp [hx]))
 unfold Jt Hq;rw [if_pos h];refine m _ _ f.1 (fun x hx=>?_);obtain⟨n,k,rfl⟩:=List.mem_map.1 hx;exact Cw (Bw h) k
theorem Q0h{l:Q7}(hl:Zv l=true){ws:Wd}(hw:wE ws=0):trE l ws=0\/trE l ws=11:=Q83 (by unfold X9;rw [if_pos hl];exact hw)
theorem Tx:∀ {ls:List Q7} {ws u:Wd},(∀ l∈ls,∀ x∈l.outs,Xx x)->Zn ws->wE ws=0->Zw ls ws=some u->wE u=0/\Zn u
 | [],_,_,_,hc,hw,h=>by cases h;exact⟨hw,hc⟩
 | l::ls,ws,u,ho,hc,hw,h=>by
  unfold Zw at h
  split at h
  ·rename_i h0
   have h1:=Q4f (ho l zy) hc h0;exact Tx (fun l hl=>ho l (by simp [hl])) h1.2 h1.1 h
  ·cases h
def Gl(b:Nat)(W:World)(u v:Value)(t:List (Nat × Wd)):Prop:=
 W.ownsRow b 3 1 u t.length (Y4 (t.map (·.1)))/\∃ vals,W.ownsRow b 23 1 v t.length vals/\Zt W vals (t.map (·.2))/\∀ x∈vals,Zj (fun g=>b<=g) x
theorem Gl.out{b:Nat}{W:World}{u v:Value}{t:List (Nat × Wd)} (h:Gl b W u v t):Xw b W u v t:=by
 obtain⟨a,e,c,d,_⟩:=h;exact⟨a,e,c,d⟩
theorem Gl.nil(b:Nat)(W:World):Gl b W (.slice none 0 0) (.slice none 0 0) []:=⟨World.ownsRow_nil _ _ _ _,[],World.ownsRow_nil _ _ _ _,trivial,fun x hx=>by cases hx⟩
theorem Gl.fresh{b cap g:Nat}{A:World}{u:Value}{t:List (Nat × Wd)} (h:Gl b A u (.slice (some ⟨g,0,none⟩) t.length cap) t) {i:Nat} (f:i<t.length) {x:Value} (e:A.cell? ⟨g,i,none⟩=some x):Zj (fun g=>b<=g) x:=by
 obtain⟨_,k,a,_,d⟩:=h;have j:=a.1;have c:=a.cellAt i oz;rw [e] at c;exact d x (List.mem_of_getElem? c.symm)
theorem Tryz.infoW:(Tryz.prog.info? 23).map (fun i=>(i.zero,i.size,i.bytes))=some (some (.slice none 0 0),1,24):=by kernel_rfl
theorem Q8r{w:World}{l:Q7}{cs:List Value}{vo:Option Addr}{vc:Nat}{ws:Wd}(i5:Zq w l cs)(l8:Q4 w (.slice vo ws.length vc) ws) (w2:ws.length<=vc) (q6:Tab w) :
  Calls Tryz.prog 191 #[.agg cs.toArray,.slice vo ws.length vc] w fun e w'=>∃ u v,e=.returned (.tuple #[u,v,.int .i64 (trE l ws)])/\Gl w.heap.size w' u v (trT l ws)/\Ext w w':=by
 have l2:=fun(d:World) (b9:Ext w d)=>Q33 (i5.ext b9) (l8.ext b9) (q6.keep b9 id);have r3:=fun(d:World) (b9:Ext w d)=>Qaf (i5.ext b9) (vo:=vo) (vn:=ws.length) (vc:=vc);obtain⟨A9,u8,y4⟩:=Zh3 i5 l8 q6
 have q8:Zj (fun g=>g<w.heap.size) (.slice vo ws.length vc):=fun g o i b8 e h0=>by
  obtain⟨_,_,k7,C1,d9,p6⟩:=l8.1;rw [d9] at e;cases e;cases d9;obtain⟨C2,C4,G,H,_⟩:=p6 h0;cases G;exact H
 have l1:X9 l ws=0->Zv l=true/\ws.length<=32:=fun h0=>⟨(Hi h0).1,Jy (Hi h0).2⟩;have l6:trE l ws=if X9 l ws=0 then(if X7 (Qq l ws)=true then 11 else 0) else X9 l ws:=rfl
 have l7:trT l ws=if trE l ws=0 then Qq l ws else []:=rfl
 have z3:=Q1s l ws;obtain⟨C6,l9⟩:=zE ws.length;rw [l9] at l2 r3 q8 l1 w2 z3 u8;rw [l9];obtain⟨s9,s1,t4,s4,s7,p2,p4,t0,o7,y,s2,t5,s5,s8,p3,p5,t1,o8,c2,s0,o9,r9,t3,p0,t2,s6,rfl,y3,B7,B8,A8,B6,B5,B1,B2,B3,B4,B0,C5,G,H,P,M⟩:=Zu i5;obtain⟨Y,v9⟩:=zE (X9 l ws);obtain⟨k3,b9⟩:=zE (trE l ws);obtain⟨p1,w1⟩:=zE (trT l ws);rw [v9] at l2 l1 l6;rw [b9] at l6 l7 ⊢;rw [w1] at l7 ⊢;obtain⟨u3,n7,y2,u2,n9,o0,g5⟩:=Zh7 l2 r3 q8 l1 l6 l7 l9;clear i5 l8 q6 l2 r3 q8 l1 l6 l7 v9 b9 w1 l9;refine Yn Tryz.func191 rfl ?_;simp only [Tryz.ntmps191,zS,Nat.reduceAdd,Nat.reduceSub];go_upto_region 1 with (fail)
 obtain⟨g1,d8⟩:=zE ((((w.alloc (.cells #[.string s9,.int .i64 s1,.int .u32 (t4:Int),.int .u32 (s4:Int),.bool s7,.int .i64 p2,.int .i64 p4,.slice t0 o7 y,.int .i64 s2,.int .u32 (t5:Int),.int .u32 (s5:Int),.bool s8,.int .i64 p3,.int .i64 p5,.slice t1 o8 c2,.slice s0 o9 r9,.slice t3 p0 t2,.int .i64 s6] 50)).alloc (.cells #[.slice none 0 0] 36)).alloc (.cells #[.slice none 0 0] 74)).alloc (.cells #[.int .i64 0] 32));have p9:Ext w g1:=by rw [<-d8];exact((((Q0.refl _ w).alloc _).alloc _).alloc _).alloc _
 have q9:g1.heap[w.heap.size]?=some (.cells #[.string s9,.int .i64 s1,.int .u32 (t4:Int),.int .u32 (s4:Int),.bool s7,.int .i64 p2,.int .i64 p4,.slice t0 o7 y,.int .i64 s2,.int .u32 (t5:Int),.int .u32 (s5:Int),.bool s8,.int .i64 p3,.int .i64 p5,.slice t1 o8 c2,.slice s0 o9 r9,.slice t3 p0 t2,.int .i64 s6] 50 (0,0)):=by rw [<-d8];exact Q9 (Q9 (Q9 (Q3 rfl)))
 have r6:g1.heap[w.heap.size+1]?=some (.cells #[.slice none 0 0] 36 (0,0)):=by rw [<-d8];exact Q9 (Q9 (Q3 zy))
 have r7:g1.heap[w.heap.size+2]?=some (.cells #[.slice none 0 0] 74 (0,0)):=by rw [<-d8];exact Q9 (Q3 zy)
 have q7:g1.heap[w.heap.size+3]?=some (.cells #[.int .i64 0] 32 (0,0)):=by rw [<-d8];exact Q3 zy
 have x2:g1.heap.size=w.heap.size+4:=by rw [<-d8];simp
 rw [d8];obtain⟨f,p7⟩:=zE w.heap.size;rw [p7] at q9 r6 r7 q7 x2 ⊢;have s:=Zh p7;have n1:=Zh q9;clear d8 p7 q9
 go_wp2_with (refine wpList_load_row rfl 50 (.tmp 2) rfl f rfl _ _ _ _ n1.out Tryz.underlying50 rfl Tryz.lawInfo ?_)
 refine(u3.out _ p9).mono ?_;rintro e e1 ⟨rfl,F⟩;have m:=p9.trans F;have u4:=Zh (F.keep n1.out);have f4:=F.keep r6;have f5:=F.keep r7;have f3:=F.keep q7;have r4:f+4<=e1.heap.size:=by have:=F.size;omega
 clear F p9 n1 u3 r6 r7 q7 x2;by_cases h0:Y=0;case neg=>
  have T:(Y != 0)=true:=by rw [bne_iff_ne];exact h0
  have a3:Hid (k3=Y):=Zh (by rw [n9.out,if_neg h0]);have e3:Hid (p1=[]):=Zh (by rw [o0.out,if_neg (by rw [a3.out];exact h0)]);have i7:=Qab f4 f5 f3 oz oz oz (.slice none 0 0) (.slice none 0 0) (.int .i64 Y);have n8:=Zh i7;have y7:=cell_of_one f4;have z0:=free_of_one f4;have y8:=cell_of_one f5;have z1:=free_of_one f5;have y6:=cell_of_one f3;have y9:=free_of_one f3;clear i7 f4 f5 f3 n7;go_wp2;obtain⟨G,H,P,M⟩:=n8.out;refine Ux (v:=.tuple #[.slice none 0 0,.slice none 0 0,.int .i64 Y]) (base:=f) _ _ trivial fun w' ht' i6=>⟨Vr rfl rfl rfl rfl (ht'.heap G (Go.Ab.Shut.not G rfl)) (ht'.heap H (Go.Ab.Shut.not H rfl)) (ht'.heap P (Go.Ab.Shut.not P rfl)),_,_,by rw [a3.out],by rw [e3.out];exact Gl.nil _ _,?_⟩
  exact(m.after M (fun b hb p=>by have:=s.out;omega)).after ht' (fun b T U=>by have:=U.1;have:=s.out;omega)
 subst h0;obtain⟨z6,A2⟩:=u2.out rfl;have u7:Hid (k3=if X7 (Qq l ws)=true then 11 else 0):=Zh (by rw [n9.out,if_pos rfl]);clear n9 u2;go_upto_region 6 with (fail)
 obtain⟨k1,f6⟩:=zE ((e1.alloc (.cells #[.slice none 0 0] 36)).alloc (.cells #[.slice none 0 0] 74));have f2:Ext e1 k1:=by rw [<-f6];exact((Q0.refl _ e1).alloc _).alloc _
 have r0:k1.heap[e1.heap.size]?=some (.cells #[.slice none 0 0] 36 (0,0)):=by rw [<-f6];exact Q9 (Q3 rfl)
 have r1:k1.heap[e1.heap.size+1]?=some (.cells #[.slice none 0 0] 74 (0,0)):=by rw [<-f6];exact Q3 zy
 have r5:k1.heap.size=e1.heap.size+2:=by rw [<-f6];simp
 rw [f6];obtain⟨n,v8⟩:=zE e1.heap.size;rw [v8] at r0 r1 r5 r4 ⊢;have k8:=r4;have q0:=m.trans f2;have u5:=Zh (f2.keep u4.out);have x5:=f2.keep f4;have x7:=f2.keep f5;have w5:=f2.keep f3;clear f6 v8 f2 m u4 f4 f5 f3 r4
 go_wp2_with (refine wpList_load_row rfl 50 (.tmp 2) rfl f rfl _ _ _ _ u5.out Tryz.underlying50 rfl Tryz.lawInfo ?_)
 have r2:=n7.out k1 q0;rw [r5] at r2;have u6:=Zh r2;clear r2;refine u6.out.mono ?_;rintro e t9 ⟨y0,y1,rfl,q3,q5,q2,q4,z5,z8,F⟩;have q1:=q0.trans F;have x0:=F.keep r0;have x1:=F.keep r1;have x6:=F.keep x5;have i8:=F.keep x7;have w6:=F.keep w5;have x3:n+2<=t9.heap.size:=by have:=F.size;omega
 have v5:=(Array.getElem?_eq_some_iff.1 q3.1).1;have w0:=(Array.getElem?_eq_some_iff.1 q5).1;have v4:=(Array.getElem?_eq_some_iff.1 q2).1;have v6:=(Array.getElem?_eq_some_iff.1 q4).1;obtain⟨c,p8⟩:=zE t9.heap.size;rw [p8] at x3 v5 w0 v4 v6;have k9:=x3;have a8:=Zh p8;have z4:∃ f7,Wg Tryz.prog 209 #[.pointer (some ⟨n+2+1,0,none⟩),.pointer (some ⟨n+2,0,none⟩),.pointer (some ⟨y0,0,none⟩),.pointer (some ⟨y1,0,none⟩)] (Xm f7) (Q1i f7) (Qq l ws) (fun b=>b<c/\b≠n/\b≠n+1/\b≠f+1/\b≠f+2/\b≠f+3) t9:=by
  refine Qa2 (cs:=[.string s9,.int .i64 s1,.int .u32 (t4:Int),.int .u32 (s4:Int),.bool s7,.int .i64 p2,.int .i64 p4,.slice t0 o7 y,.int .i64 s2,.int .u32 (t5:Int),.int .u32 (s5:Int),.bool s8,.int .i64 p3,.int .i64 p5,.slice t1 o8 c2,.slice s0 o9 r9,.slice t3 p0 t2,.int .i64 s6]) (vo:=vo) (vc:=vc) z6 (by rw [g5.out];exact A2) (by rw [g5.out];exact w2) (by rw [g5.out];exact y2.out.mono fun b hb=>by have:=s.out;omega) (fun b hb=>by omega) (fun W r=>?_);have e5:Ext w W:=q1.after r (fun b hb p=>p (by have:=s.out;omega));exact⟨⟨r.heap q3.1 (fun p=>p oz),y3.out.ext e5⟩,by rw [g5.out];exact r.heap q5 (fun p=>p oz),by rw [g5.out];exact u8.out.ext e5,y4.out.keep e5 id,r.heap q2 (fun p=>p oz),r.heap q4 (fun p=>p oz)⟩
 obtain⟨f7,w7⟩:=z4;obtain⟨n0,o1,o3,m9,n5,n6⟩:=Zh6 w7 x6 i8 w6 x0 x1;clear w7 q3 q5 q2 q4 F q0 u5 r0 r1 x5 x7 w5 r5 x0 x1 x6 i8 w6 u6 n7 z5 z8 v5 w0 v4 v6 p8;go_wp2_with fail
 refine Fr (xs:=Qq l ws) (K:=fun b=>b<c/\b≠n/\b≠n+1/\b≠f+1/\b≠f+2/\b≠f+3) rfl (enters_of Tryz.func209 kz rfl) n0.out (fun b g8=>by rw [a8.out];exact g8.1) (fun _ _ x m8 e2 g8=>by obtain⟨k7,b8,rfl,_⟩:=g8;rfl) ?hEs
  (fun a9 a2 d=>∃ u v g0,TrI w f n c f7 a9 a2 d u v g0)
  (fun b8 _ a2 d=>b8=.ret/\d.heap[f+1]?=some (.cells #[.slice none 0 0] 36 (0,0))/\d.heap[f+2]?=some (.cells #[.slice none 0 0] 74 (0,0))/\d.heap[f+3]?=some (.cells #[.int .i64 11] 32 (0,0))/\Ext w d/\X7 a2=true) ?hI ?hIx ?h0 (fun e2 t=>(((t.setIfInBounds 21 (e2.getD 0 undef)).setIfInBounds 22 (e2.getD 1 undef)).setIfInBounds 10 (e2.getD 0 undef)).setIfInBounds 11 (e2.getD 1 undef)) ?assign ?body ?done ?stop
 case hEs=>
  rintro i a9 x m8 W e2 ⟨k7,b8,rfl,T,U,p6⟩ I A0;exact⟨k7,b8,rfl,⟨Rd.nocells I A0 T.1,T.2⟩,U,p6.mono fun b hb=>⟨hb.1,hb.2.1,Nat.lt_of_lt_of_le hb.2.2 I.size⟩⟩
 case hI=>
  rintro a9 y5 a2 m8 W ⟨u,v,g0,q⟩ a0 I v7;rw [a8.out] at a0 I;exact⟨u,v,g0,q.turn s.out k8 k9 a0 I v7⟩
 case hIx=>
  rintro b8 a9 y5 a2 m8 W ⟨A4,m2,m3,m4,r8,m5⟩ a0 I v7;rw [a8.out] at a0 I
  have m6:∀ b,b<c->¬ ((a9 b/\Xm f7 (c+2) b)\/b=c+1):=fun b hb p=>by
   rcases p with T | T
   ·have:=(a0 b T.1).1;omega
   ·omega
  exact⟨A4,I.heap m2 (m6 _ oz),I.heap m3 (m6 _ oz),I.heap m4 (m6 _ oz),r8.after I (fun b hb p=>m6 b (by have:=s.out;omega) p),m5⟩
 case h0=>
  intro W r i6;exact⟨_,_,[],r.keep o1.out,r.keep o3.out,r.keep m9.out,r.keep n5.out,r.keep n6.out,World.ownsRow_nil _ _ _ _,World.ownsRow_nil _ _ _ _,trivial,fun g hg=>(by cases hg),fun g hg=>(by cases hg),fun x a1=>(by cases a1),q1.trans r,rfl⟩
 case assign=>
  rintro i a9 x e2 d C0 ⟨k7,b8,rfl,_⟩ a;gi_wp2;exact a
 case done=>
  rintro a9 d ⟨u,v,g0,q⟩ a0 I f1;rw [a8.out] at f1;have a3:Hid (k3=0):=Zh (by rw [u7.out,if_neg (by rw [q.short];decide)]);have e3:Hid (p1=Qq l ws):=Zh (by rw [o0.out,if_pos a3.out]);obtain⟨D,e6⟩:=zE d.drew;have m:Ext d D:=by rw [<-e6];exact Q0.drew (Q0.refl _ d)
  obtain⟨b0,e9,f0,a5,g7,a4⟩:=Zh6 (m.keep q.ru) (m.keep q.bu) (m.keep q.bv) ((Q0.set1 D (f+1) 0 u).heap (m.keep q.rv) oz) ((Q0.set1 D (f+1) 0 u).heap (m.keep q.bv) oz) ((Q0.set1 (D.setCell ⟨f+1,0,none⟩ u) (f+2) 0 v).heap ((Q0.set1 D (f+1) 0 u).heap (m.keep q.re) oz) oz);obtain⟨G,H,P,M⟩:=Qab (m.keep q.ru) (m.keep q.rv) (m.keep q.re) oz oz oz u v (.int .i64 0);obtain⟨W,r⟩:=zE (((D.setCell ⟨f+1,0,none⟩ u).setCell ⟨f+2,0,none⟩ v).setCell ⟨f+3,0,none⟩ (.int .i64 0));rw [r] at G H P M;have M:Q0 (fun b=>b=f+1\/b=f+2\/b=f+3) d W:=(Ext.of m).trans M;have w9:Gl w.heap.size W u v (Qq l ws):=by
   refine⟨Z9 (Qi q.ou M (fun g hg e=>by have:=(q.ou.lt g hg).1;omega)) (by have:=s.out;omega),g0,Z9 (Qi q.ov M (fun g hg e=>by have:=(q.ov.lt g hg).1;omega)) (by have:=s.out;omega),?_,fun x a1=>(q.wk x a1).mono fun b hb=>(by have T:=s.out;have U:=hb.1;omega)⟩;exact q.wd.keepS (S:=fun g=>c+2+f7<=g) (M.mono fun b _ e p=>by omega) (fun x a1=>(q.wk x a1).mono fun b hb=>hb.1)
  have l3:Zf f ({ target:=.collected c,args:=#[] }::[]) W:=Zf.cons (base:=f) trivial oz (M.heap f1 oz) (fun e he=>by cases he);have e5:Ext w W:=q.ext.after M (fun b hb p=>by have:=s.out;omega);have k6:=Zh w9;have n2:=Zh l3;obtain⟨t8,t7,rfl⟩:=Qu q.ou;obtain⟨u1,u0,rfl⟩:=Qu q.ov;obtain⟨f9,x4⟩:=zE ((Qq l ws).length);rw [x4] at e9 f0 a5 g7 a4 r k6 G H;have o4:=Zh r;have u9:=Zh e6;clear w9 l3 q f1 I a0 n0 o1 o3 m9 n5 n6 q1 r e6 m x4;go_upto_region 12 with (fail)
  refine Z8 (S:=fun _=>True) [0,1,2,3,4] kz trivial ?_;intro _;rw [u9.out];clear u9;refine rE [0,1] ?_;refine Q2.late rfl rfl (fun K a=>?_) (Q2.late rfl rfl (fun K a=>?_) Q2.nil)
  ·refine iw rfl ?_;have b1:=cell_of_one e9.out;go_simp;refine a.out _ _ ?_;clear a K b1;try simp only [Act.put,pq]
   refine rE [1,2] ?_;refine Q2.late rfl rfl (fun K a=>?_) (Q2.late rfl rfl (fun K a=>?_) Q2.nil)
   ·refine iw rfl ?_;have b1:=cell_of_one f0.out;go_simp;refine a.out _ _ ?_;clear a K b1;try simp only [Act.put,pq]
    refine rE [2] ?_;refine Q2.late rfl rfl (fun K a=>?_) Q2.nil;refine iw rfl ?_;have z:=cell_of_one b0.out;have A:=free_of_one b0.out;go_simp;refine a.out _ _ ?_;clear a K z A
    (try change Zd _ _ _ _ _ _ _ _ (Act.put _ none _) _)
    (try simp only [Act.put])
    refine rE [3] ?_;refine Q2.late rfl rfl (fun K a=>?_) Q2.nil;refine iw rfl ?_;have z:=cell_of_one a5.out;have A:=free_of_one a5.out;go_simp;refine a.out _ _ ?_;clear a K z A
    (try change Zd _ _ _ _ _ _ _ _ (Act.put _ none _) _)
    (try simp only [Act.put])
    refine rE [4] ?_;refine Q2.late rfl rfl (fun K a=>?_) Q2.nil;refine iw rfl ?_;have z:=cell_of_one a4.out;have A:=free_of_one a4.out;go_simp;refine a.out _ _ ?_;clear a K z A
    (try change Zd _ _ _ _ _ _ _ _ (Act.put _ none _) _)
    (try simp only [Act.put])
    refine Z0 kz ?_ _;rw [o4.out];clear b0 e9 f0 a5 g7 a4;go_wp2;rw [a8.out];refine Ux (v:=.tuple #[.slice t8 f9 t7,.slice u1 f9 u0,.int .i64 0]) (base:=f) _ _ n2.out fun w' ht' i6=>⟨Vr rfl rfl rfl rfl (ht'.heap G (Go.Ab.Shut.not G rfl)) (ht'.heap H (Go.Ab.Shut.not H rfl)) (ht'.heap P (Go.Ab.Shut.not P rfl)),_,_,by rw [a3.out],?_,?_⟩
    ·rw [e3.out];obtain⟨j3,j8,j4,j5,j6⟩:=k6.out;exact⟨W4 j3 ht',j8,W4 j4 ht',j5.shut ht',j6⟩
    ·exact e5.after ht' (fun b T U=>by have:=U.1;have:=s.out;omega)
   ·refine iw rfl ?_;have z:=cell_of_one b0.out;have A:=free_of_one b0.out;go_simp;refine a.out _ _ ?_;clear a K z A
    (try change Zd _ _ _ _ _ _ _ _ (Act.put _ none _) _)
    (try simp only [Act.put])
    refine rE [1] ?_;refine Q2.late rfl rfl (fun K a=>?_) Q2.nil;refine iw rfl ?_;have b1:=cell_of_one g7.out;go_simp;refine a.out _ _ ?_;clear a K b1;try simp only [Act.put,pq]
    refine rE [3] ?_;refine Q2.late rfl rfl (fun K a=>?_) Q2.nil;refine iw rfl ?_;have z:=cell_of_one a5.out;have A:=free_of_one a5.out;go_simp;refine a.out _ _ ?_;clear a K z A
    (try change Zd _ _ _ _ _ _ _ _ (Act.put _ none _) _)
    (try simp only [Act.put])
    refine rE [4] ?_;refine Q2.late rfl rfl (fun K a=>?_) Q2.nil;refine iw rfl ?_;have z:=cell_of_one a4.out;have A:=free_of_one a4.out;go_simp;refine a.out _ _ ?_;clear a K z A
    (try change Zd _ _ _ _ _ _ _ _ (Act.put _ none _) _)
    (try simp only [Act.put])
    refine Z0 kz ?_ _;rw [o4.out];clear b0 e9 f0 a5 g7 a4;go_wp2;rw [a8.out];refine Ux (v:=.tuple #[.slice t8 f9 t7,.slice u1 f9 u0,.int .i64 0]) (base:=f) _ _ n2.out fun w' ht' i6=>⟨Vr rfl rfl rfl rfl (ht'.heap G (Go.Ab.Shut.not G rfl)) (ht'.heap H (Go.Ab.Shut.not H rfl)) (ht'.heap P (Go.Ab.Shut.not P rfl)),_,_,by rw [a3.out],?_,?_⟩
    ·rw [e3.out];obtain⟨j3,j8,j4,j5,j6⟩:=k6.out;exact⟨W4 j3 ht',j8,W4 j4 ht',j5.shut ht',j6⟩
    ·exact e5.after ht' (fun b T U=>by have:=U.1;have:=s.out;omega)
  ·refine iw rfl ?_;have b1:=cell_of_one f0.out;go_simp;refine a.out _ _ ?_;clear a K b1;try simp only [Act.put,pq]
   refine rE [0] ?_;refine Q2.late rfl rfl (fun K a=>?_) Q2.nil;refine iw rfl ?_;have b1:=cell_of_one e9.out;go_simp;refine a.out _ _ ?_;clear a K b1;try simp only [Act.put,pq]
   refine rE [2] ?_;refine Q2.late rfl rfl (fun K a=>?_) Q2.nil;refine iw rfl ?_;have z:=cell_of_one b0.out;have A:=free_of_one b0.out;go_simp;refine a.out _ _ ?_;clear a K z A
   (try change Zd _ _ _ _ _ _ _ _ (Act.put _ none _) _)
   (try simp only [Act.put])
   refine rE [3] ?_;refine Q2.late rfl rfl (fun K a=>?_) Q2.nil;refine iw rfl ?_;have z:=cell_of_one a5.out;have A:=free_of_one a5.out;go_simp;refine a.out _ _ ?_;clear a K z A
   (try change Zd _ _ _ _ _ _ _ _ (Act.put _ none _) _)
   (try simp only [Act.put])
   refine rE [4] ?_;refine Q2.late rfl rfl (fun K a=>?_) Q2.nil;refine iw rfl ?_;have z:=cell_of_one a4.out;have A:=free_of_one a4.out;go_simp;refine a.out _ _ ?_;clear a K z A
   (try change Zd _ _ _ _ _ _ _ _ (Act.put _ none _) _)
   (try simp only [Act.put])
   refine Z0 kz ?_ _;rw [o4.out];clear b0 e9 f0 a5 g7 a4;go_wp2;rw [a8.out];refine Ux (v:=.tuple #[.slice t8 f9 t7,.slice u1 f9 u0,.int .i64 0]) (base:=f) _ _ n2.out fun w' ht' i6=>⟨Vr rfl rfl rfl rfl (ht'.heap G (Go.Ab.Shut.not G rfl)) (ht'.heap H (Go.Ab.Shut.not H rfl)) (ht'.heap P (Go.Ab.Shut.not P rfl)),_,_,by rw [a3.out],?_,?_⟩
   ·rw [e3.out];obtain⟨j3,j8,j4,j5,j6⟩:=k6.out;exact⟨W4 j3 ht',j8,W4 j4 ht',j5.shut ht',j6⟩
   ·exact e5.after ht' (fun b T U=>by have:=U.1;have:=s.out;omega)
 case stop=>
  rintro b8 a9 a2 x t6 d a1 ⟨rfl,m2,m3,m4,r8,m5⟩ f1;rw [a8.out] at f1 ⊢;have z7:X7 (Qq l ws)=true:=by
   rw [a1];unfold X7 at m5 ⊢;rw [show a2++x::t6=(a2++[x])++t6 by simp,List.any_append,m5];rfl
  have a3:Hid (k3=11):=Zh (by rw [u7.out,if_pos z7]);have e3:Hid (p1=[]):=Zh (by rw [o0.out,if_neg (by rw [a3.out];decide)]);refine wp_ret ?_;have l3:Zf f ({ target:=.collected c,args:=#[] }::[]) d:=Zf.cons (base:=f) trivial oz f1 (fun e he=>by cases he);refine Ux (v:=.tuple #[.slice none 0 0,.slice none 0 0,.int .i64 11]) (base:=f) _ _ l3 fun w' ht' i6=>⟨Vr rfl rfl rfl rfl (ht'.heap m2 (Go.Ab.Shut.not m2 rfl)) (ht'.heap m3 (Go.Ab.Shut.not m3 rfl)) (ht'.heap m4 (Go.Ab.Shut.not m4 rfl)),_,_,by rw [a3.out],by rw [e3.out];exact Gl.nil _ _,?_⟩
  exact r8.after ht' (fun b T U=>by have:=U.1;have:=s.out;omega)
 case body=>
  rintro a9 a2 ⟨a7,k2⟩ t6 e2 d a1 A1 a0 I ⟨u,v,g0,q⟩ ⟨b5,b4,rfl,m1,j0,m0⟩;rw [a8.out] at A1 a0 m0 ⊢;simp only [pq];dsimp only at m1 j0 m0 ⊢;have z9:a2.length<=32:=by
   have:=congrArg List.length a1;rw [List.length_append,List.length_cons] at this;omega
  obtain⟨V,j1⟩:=zE k2.length;have g6:=Zh j1;have x8:=m1.1.2.1;unfold maxLen at x8;rw [j1] at x8;obtain⟨o6,o5,j,k5,B9⟩:=Zh5 m1 m0 q a0 a1;rw [j1];have A3:=j0;rw [j1] at A3;clear j1 m1 m0 q a0 a1 I n0 o1 o3 m9 n5 n6;by_cases g9:V<=32;case neg=>
   have z2:(32:Int)<(V:Int):=by omega
   have i7:=Qab j.out.ru j.out.rv j.out.re oz oz oz (.slice none 0 0) (.slice none 0 0) (.int .i64 11);have n8:=Zh i7;have y7:=cell_of_one j.out.ru;have z0:=free_of_one j.out.ru;have y8:=cell_of_one j.out.rv;have z1:=free_of_one j.out.rv;have y6:=cell_of_one j.out.re;have y9:=free_of_one j.out.re;clear i7;gi_wp2;obtain⟨G,H,P,M⟩:=n8.out;refine⟨M.mono fun b _ e p=>?_,rfl,G,H,P,j.out.ext.after M (fun b hb p=>by have:=s.out;omega),?_⟩
   ·rcases p with p | p | p | p
    ·omega
    ·have:=(k5.out b p).1;omega
    ·omega
    ·omega
   ·unfold X7;rw [List.any_append];simp [g6.out];omega
  have z2:¬ (32:Int)<(V:Int):=by omega
  have g9:k2.length<=32:=by rw [g6.out];exact g9
  gi_wp2;obtain⟨i,p⟩:=zE a2.length;have e8:=Zh p;have l4:=j.out.ou;have l5:=j.out.ov;rw [p] at l4 l5 z9;have w4:=Ji l4 l5 zd;obtain⟨o2,n3,n4⟩:=Zh3 w4 l4 l5
  have w8:∀ d9,(d9=n\/d9=n+1)->¬ (u.ownBlock=some d9\/v.ownBlock=some d9):=fun d9 hq e=>by
   rcases e with e | e
   ·have:=(j.out.ou.lt _ e).1;omega
   ·have:=(j.out.ov.lt _ e).1;omega
  have X:=Zh w8;have w3:∀(W:World),Q0 (fun b=>u.ownBlock=some b\/v.ownBlock=some b) d W->W.cell? ⟨n,0,none⟩=some u/\W.cell? ⟨n+1,0,none⟩=some v:=fun W r=>⟨cell_of_one (r.heap j.out.bu (X.out _ (.inl rfl))),cell_of_one (r.heap j.out.bv (X.out _ (.inr rfl)))⟩;have Q:=Zh w3;clear p l4 l5 w4 w8 w3;refine Gx (S:=fun W=>W.cell? ⟨n,0,none⟩=some u/\W.cell? ⟨n+1,0,none⟩=some v) [8,9] kz kz (by rintro⟨_,_,g8⟩;exact g8) (Q.out _ (Q0.drew (Q0.refl _ d))) ?_;intro i3;obtain⟨D,e6⟩:=zE d.drew;have m:Ext d D:=by rw [<-e6];exact Q0.drew (Q0.refl _ d)
  have C3:=m.size;rw [e6] at i3 ⊢;clear e6;refine tE 0 26 i3 ?_;refine tE 1 27 i3 ?_;refine tE 4 30 i3 ?_;refine tE 5 31 i3 ?_;refine rE [2,6] ?_;refine Q2.cons rfl (fun K a=>?_) (Q2.cons rfl (fun K a=>?_) Q2.nil)
  ·refine iw rfl ?_;go_simp;obtain⟨N,b2⟩:=zE (D.alloc (.cells #[.int .i64 (a7:Int)] 3));have E:Ext D N:=by rw [<-b2];exact(Q0.refl _ _).alloc _
   have f8:N.heap[D.heap.size]?=some (.cells #[.int .i64 (a7:Int)] 3 (0,0)):=by rw [<-b2];exact Q3 rfl
   obtain⟨k4,i2⟩:=zE D.heap.size;rw [b2,i2];rw [i2] at f8;have A6:=E.size;clear b2;refine a.out _ _ (Q.out _ (Ext.of (m.trans E))) (fun _=>?_);clear a K;try simp only [Act.put,pq]
   refine rE [3,6] ?_;refine Q2.cons rfl (fun K a=>?_) (Q2.cons rfl (fun K a=>?_) Q2.nil)
   ·refine iw rfl ?_;refine Jf (.tmp 26) (.tmp 28) 36 rfl (c+2) 3 _ 1 8 Tryz.underlying36 Tryz.infoI rfl zd _ _ _ rfl (Q6 n3.out (m.trans E)) ⟨k4,0,none⟩ 1 1 [.int .i64 (a7:Int)] rfl rfl (Gb f8) ?c2 ?c3 ?c4 ?c5 ?_;case c2=>first | rfl | (intro u C;simp at C;rcases C with rfl;rfl)
    case c3=>unfold maxLen;omega
    case c4=>omega
    case c5=>omega
    intro L y R c9 a6 i0;have m7:Q0 (fun b=>u.ownBlock=some b\/v.ownBlock=some b) d R:=(Ext.of (m.trans E)).trans (a6.mono fun b _ e=>.inl e);have C7:=m7.size;refine a.out _ _ (Q.out _ (m7)) (fun _=>?_);clear a K;try simp only [Act.put,pq]
    have i8:=Qi n4.out (((Ext.of (m.trans E)).trans a6):Q0 (fun b=>u.ownBlock=some b) d R) (fun g hg e=>o2.out g e hg);refine rE [6] ?_;refine Q2.cons rfl (fun K a=>?_) Q2.nil;refine iw rfl ?_;go_simp;obtain⟨b7,l0⟩:=zE (R.alloc (.cells #[.slice b5 V b4] 23));have e4:Ext R b7:=by rw [<-l0];exact(Q0.refl _ _).alloc _
    have x9:b7.heap[R.heap.size]?=some (.cells #[.slice b5 V b4] 23 (0,0)):=by rw [<-l0];exact Q3 rfl
    obtain⟨g2,c1⟩:=zE R.heap.size;rw [l0,c1];rw [c1] at x9;have C8:=e4.size;clear l0;refine a.out _ _ (Q.out _ (m7.trans (Ext.of e4))) (fun _=>?_);clear a K;try simp only [Act.put,pq]
    refine rE [7] ?_;refine Q2.cons rfl (fun K a=>?_) Q2.nil;refine iw rfl ?_;refine Jf (.tmp 30) (.tmp 32) 74 rfl (c+2) 23 _ 1 24 Tryz.underlying74 Tryz.infoW rfl zd _ _ _ rfl (Q6 i8 e4) ⟨g2,0,none⟩ 1 1 [.slice b5 V b4] rfl rfl (Gb x9) ?d2 ?d3 ?d4 ?d5 ?_;case d2=>first | rfl | (intro u C;simp at C;rcases C with rfl;rfl)
    case d3=>unfold maxLen;omega
    case d4=>omega
    case d5=>omega
    intro Z c2 J i4 c8 i1;have e0:Q0 (fun b=>u.ownBlock=some b\/v.ownBlock=some b) d J:=(m7.trans (Ext.of e4)).trans (c8.mono fun b _ e=>.inr e);refine a.out _ _ (Q.out _ (e0)) (fun _=>?_);clear a K;try simp only [Act.put]
    have d0:=Qi (Q6 c9 e4) c8 (fun g hg e=>Ji (Q6 c9 e4) (Q6 i8 e4) zd g hg e);have d1:=i4;have d6:(Value.slice L (i+1) y).ownBlock=u.ownBlock\/∃ k,d.heap.size<=k/\(Value.slice L (i+1) y).ownBlock=some k:=i0.imp id fun e=>⟨_,by omega,e⟩;have d7:(Value.slice Z (i+1) c2).ownBlock=v.ownBlock\/∃ k,d.heap.size<=k/\(Value.slice Z (i+1) c2).ownBlock=some k:=i1.imp id fun e=>⟨_,by omega,e⟩;have B:Q0 (fun b=>u.ownBlock=some b\/v.ownBlock=some b) d J:=e0;obtain⟨⟨j7,k0,j9,c0⟩,c6⟩:=j.out.push s.out k8 k9 k5.out oz o6.out j0 o5.out g9 (x:=(a7,k2)) (W:=J) (u':=.slice L (i+1) y) (v':=.slice Z (i+1) c2) (by rw [e8.out];exact d0) (by rw [e8.out,g6.out];exact d1) B d6 d7;have g3:=Zh c0;have g4:=Zh c6;have v0:=cell_of_one (B.heap j.out.bu (X.out n (.inl rfl)));have v2:=free_of_one (B.heap j.out.bu (X.out n (.inl rfl)));have c7:(J.setCell ⟨n,0,none⟩ (.slice L (i+1) y)).heap[n+1]?=some (.cells #[v] 74 (0,0)):=(Q0.set1 _ n 0 _).heap (B.heap j.out.bv (X.out _ (.inr rfl))) oz;have b6:=Zh c7;clear c0 c6 B d0 d1 d6 d7 c7;refine rE [8] ?_;refine Q2.late rfl rfl (fun K a=>?_) Q2.nil;refine iw rfl ?_;go_simp;refine a.out _ _ ?_;clear a K
    (try change Zd _ _ _ _ _ _ _ _ (Act.put _ none _) _)
    (try simp only [Act.put])
    have v1:=cell_of_one b6.out;have v3:=free_of_one b6.out;refine rE [9] ?_;refine Q2.late rfl rfl (fun K a=>?_) Q2.nil;refine iw rfl ?_;go_simp;refine a.out _ _ ?_;clear a K
    (try change Zd _ _ _ _ _ _ _ _ (Act.put _ none _) _)
    (try simp only [Act.put])
    refine Z0 kz ?_ _;exact⟨g4.out,j7,k0,j9,g3.out⟩
   ·refine iw rfl ?_;go_simp;obtain⟨R,b3⟩:=zE (N.alloc (.cells #[.slice b5 V b4] 23));have O:Ext N R:=by rw [<-b3];exact(Q0.refl _ _).alloc _
    have j2:R.heap[N.heap.size]?=some (.cells #[.slice b5 V b4] 23 (0,0)):=by rw [<-b3];exact Q3 rfl
    obtain⟨g2,c1⟩:=zE N.heap.size;rw [b3,c1];rw [c1] at j2;have A7:=O.size;clear b3;refine a.out _ _ (Q.out _ (Ext.of ((m.trans E).trans O))) (fun _=>?_);clear a K;try simp only [Act.put,pq]
    refine rE [3] ?_;refine Q2.cons rfl (fun K a=>?_) Q2.nil;refine iw rfl ?_;refine Jf (.tmp 26) (.tmp 28) 36 rfl (c+2) 3 _ 1 8 Tryz.underlying36 Tryz.infoI rfl zd _ _ _ rfl (Q6 n3.out ((m.trans E).trans O)) ⟨k4,0,none⟩ 1 1 [.int .i64 (a7:Int)] rfl rfl (Gb (O.keep f8)) ?c2 ?c3 ?c4 ?c5 ?_;case c2=>first | rfl | (intro u C;simp at C;rcases C with rfl;rfl)
    case c3=>unfold maxLen;omega
    case c4=>omega
    case c5=>omega
    intro L y b7 c9 a6 i0;have e7:Q0 (fun b=>u.ownBlock=some b\/v.ownBlock=some b) d b7:=(Ext.of ((m.trans E).trans O)).trans (a6.mono fun b _ e=>.inl e);have A5:=e7.size;have s3:=a6.heap j2 (fun e=>by have:=(j.out.ou.lt _ e).2;omega);refine a.out _ _ (Q.out _ (e7)) (fun _=>?_);clear a K;try simp only [Act.put,pq]
    have i9:=Qi n4.out (((Ext.of ((m.trans E).trans O)).trans a6):Q0 (fun b=>u.ownBlock=some b) d b7) (fun g hg e=>o2.out g e hg);refine rE [7] ?_;refine Q2.cons rfl (fun K a=>?_) Q2.nil;refine iw rfl ?_;refine Jf (.tmp 30) (.tmp 32) 74 rfl (c+2) 23 _ 1 24 Tryz.underlying74 Tryz.infoW rfl zd _ _ _ rfl i9 ⟨g2,0,none⟩ 1 1 [.slice b5 V b4] rfl rfl (Gb s3) ?d2 ?d3 ?d4 ?d5 ?_;case d2=>first | rfl | (intro u C;simp at C;rcases C with rfl;rfl)
    case d3=>unfold maxLen;omega
    case d4=>omega
    case d5=>omega
    intro Z c2 J i4 c8 i1;have e0:Q0 (fun b=>u.ownBlock=some b\/v.ownBlock=some b) d J:=e7.trans (c8.mono fun b _ e=>.inr e);refine a.out _ _ (Q.out _ (e0)) (fun _=>?_);clear a K;try simp only [Act.put]
    have d0:=Qi c9 c8 (fun g hg e=>Ji c9 i9 zd g hg e);have d1:=i4;have d6:(Value.slice L (i+1) y).ownBlock=u.ownBlock\/∃ k,d.heap.size<=k/\(Value.slice L (i+1) y).ownBlock=some k:=i0.imp id fun e=>⟨_,by omega,e⟩;have d7:(Value.slice Z (i+1) c2).ownBlock=v.ownBlock\/∃ k,d.heap.size<=k/\(Value.slice Z (i+1) c2).ownBlock=some k:=i1.imp id fun e=>⟨_,by omega,e⟩;have B:Q0 (fun b=>u.ownBlock=some b\/v.ownBlock=some b) d J:=e0;obtain⟨⟨j7,k0,j9,c0⟩,c6⟩:=j.out.push s.out k8 k9 k5.out oz o6.out j0 o5.out g9 (x:=(a7,k2)) (W:=J) (u':=.slice L (i+1) y) (v':=.slice Z (i+1) c2) (by rw [e8.out];exact d0) (by rw [e8.out,g6.out];exact d1) B d6 d7;have g3:=Zh c0;have g4:=Zh c6;have v0:=cell_of_one (B.heap j.out.bu (X.out n (.inl rfl)));have v2:=free_of_one (B.heap j.out.bu (X.out n (.inl rfl)));have c7:(J.setCell ⟨n,0,none⟩ (.slice L (i+1) y)).heap[n+1]?=some (.cells #[v] 74 (0,0)):=(Q0.set1 _ n 0 _).heap (B.heap j.out.bv (X.out _ (.inr rfl))) oz;have b6:=Zh c7;clear c0 c6 B d0 d1 d6 d7 c7;refine rE [8] ?_;refine Q2.late rfl rfl (fun K a=>?_) Q2.nil;refine iw rfl ?_;go_simp;refine a.out _ _ ?_;clear a K
    (try change Zd _ _ _ _ _ _ _ _ (Act.put _ none _) _)
    (try simp only [Act.put])
    have v1:=cell_of_one b6.out;have v3:=free_of_one b6.out;refine rE [9] ?_;refine Q2.late rfl rfl (fun K a=>?_) Q2.nil;refine iw rfl ?_;go_simp;refine a.out _ _ ?_;clear a K
    (try change Zd _ _ _ _ _ _ _ _ (Act.put _ none _) _)
    (try simp only [Act.put])
    refine Z0 kz ?_ _;exact⟨g4.out,j7,k0,j9,g3.out⟩
  ·refine iw rfl ?_;go_simp;obtain⟨N,b2⟩:=zE (D.alloc (.cells #[.slice b5 V b4] 23));have E:Ext D N:=by rw [<-b2];exact(Q0.refl _ _).alloc _
   have f8:N.heap[D.heap.size]?=some (.cells #[.slice b5 V b4] 23 (0,0)):=by rw [<-b2];exact Q3 rfl
   obtain⟨g2,c1⟩:=zE D.heap.size;rw [b2,c1];rw [c1] at f8;have A6:=E.size;clear b2;refine a.out _ _ (Q.out _ (Ext.of (m.trans E))) (fun _=>?_);clear a K;try simp only [Act.put,pq]
   refine rE [2] ?_;refine Q2.cons rfl (fun K a=>?_) Q2.nil;refine iw rfl ?_;go_simp;obtain⟨R,b3⟩:=zE (N.alloc (.cells #[.int .i64 (a7:Int)] 3));have O:Ext N R:=by rw [<-b3];exact(Q0.refl _ _).alloc _
   have j2:R.heap[N.heap.size]?=some (.cells #[.int .i64 (a7:Int)] 3 (0,0)):=by rw [<-b3];exact Q3 rfl
   obtain⟨k4,i2⟩:=zE N.heap.size;rw [b3,i2];rw [i2] at j2;have A7:=O.size;clear b3;refine a.out _ _ (Q.out _ (Ext.of ((m.trans E).trans O))) (fun _=>?_);clear a K;try simp only [Act.put,pq]
   refine rE [3] ?_;refine Q2.cons rfl (fun K a=>?_) Q2.nil;refine iw rfl ?_;refine Jf (.tmp 26) (.tmp 28) 36 rfl (c+2) 3 _ 1 8 Tryz.underlying36 Tryz.infoI rfl zd _ _ _ rfl (Q6 n3.out ((m.trans E).trans O)) ⟨k4,0,none⟩ 1 1 [.int .i64 (a7:Int)] rfl rfl (Gb j2) ?c2 ?c3 ?c4 ?c5 ?_;case c2=>first | rfl | (intro u C;simp at C;rcases C with rfl;rfl)
   case c3=>unfold maxLen;omega
   case c4=>omega
   case c5=>omega
   intro L y b7 c9 a6 i0;have e7:Q0 (fun b=>u.ownBlock=some b\/v.ownBlock=some b) d b7:=(Ext.of ((m.trans E).trans O)).trans (a6.mono fun b _ e=>.inl e);have A5:=e7.size;have s3:=a6.heap (O.keep f8) (fun e=>by have:=(j.out.ou.lt _ e).2;omega);refine a.out _ _ (Q.out _ (e7)) (fun _=>?_);clear a K;try simp only [Act.put,pq]
   have i9:=Qi n4.out (((Ext.of ((m.trans E).trans O)).trans a6):Q0 (fun b=>u.ownBlock=some b) d b7) (fun g hg e=>o2.out g e hg);refine rE [7] ?_;refine Q2.cons rfl (fun K a=>?_) Q2.nil;refine iw rfl ?_;refine Jf (.tmp 30) (.tmp 32) 74 rfl (c+2) 23 _ 1 24 Tryz.underlying74 Tryz.infoW rfl zd _ _ _ rfl i9 ⟨g2,0,none⟩ 1 1 [.slice b5 V b4] rfl rfl (Gb s3) ?d2 ?d3 ?d4 ?d5 ?_;case d2=>first | rfl | (intro u C;simp at C;rcases C with rfl;rfl)
   case d3=>unfold maxLen;omega
   case d4=>omega
   case d5=>omega
   intro Z c2 J i4 c8 i1;have e0:Q0 (fun b=>u.ownBlock=some b\/v.ownBlock=some b) d J:=e7.trans (c8.mono fun b _ e=>.inr e);refine a.out _ _ (Q.out _ (e0)) (fun _=>?_);clear a K;try simp only [Act.put]
   have d0:=Qi c9 c8 (fun g hg e=>Ji c9 i9 zd g hg e);have d1:=i4;have d6:(Value.slice L (i+1) y).ownBlock=u.ownBlock\/∃ k,d.heap.size<=k/\(Value.slice L (i+1) y).ownBlock=some k:=i0.imp id fun e=>⟨_,by omega,e⟩;have d7:(Value.slice Z (i+1) c2).ownBlock=v.ownBlock\/∃ k,d.heap.size<=k/\(Value.slice Z (i+1) c2).ownBlock=some k:=i1.imp id fun e=>⟨_,by omega,e⟩;have B:Q0 (fun b=>u.ownBlock=some b\/v.ownBlock=some b) d J:=e0;obtain⟨⟨j7,k0,j9,c0⟩,c6⟩:=j.out.push s.out k8 k9 k5.out oz o6.out j0 o5.out g9 (x:=(a7,k2)) (W:=J) (u':=.slice L (i+1) y) (v':=.slice Z (i+1) c2) (by rw [e8.out];exact d0) (by rw [e8.out,g6.out];exact d1) B d6 d7;have g3:=Zh c0;have g4:=Zh c6;have v0:=cell_of_one (B.heap j.out.bu (X.out n (.inl rfl)));have v2:=free_of_one (B.heap j.out.bu (X.out n (.inl rfl)));have c7:(J.setCell ⟨n,0,none⟩ (.slice L (i+1) y)).heap[n+1]?=some (.cells #[v] 74 (0,0)):=(Q0.set1 _ n 0 _).heap (B.heap j.out.bv (X.out _ (.inr rfl))) oz;have b6:=Zh c7;clear c0 c6 B d0 d1 d6 d7 c7;refine rE [8] ?_;refine Q2.late rfl rfl (fun K a=>?_) Q2.nil;refine iw rfl ?_;go_simp;refine a.out _ _ ?_;clear a K
   (try change Zd _ _ _ _ _ _ _ _ (Act.put _ none _) _)
   (try simp only [Act.put])
   have v1:=cell_of_one b6.out;have v3:=free_of_one b6.out;refine rE [9] ?_;refine Q2.late rfl rfl (fun K a=>?_) Q2.nil;refine iw rfl ?_;go_simp;refine a.out _ _ ?_;clear a K
   (try change Zd _ _ _ _ _ _ _ _ (Act.put _ none _) _)
   (try simp only [Act.put])
   refine Z0 kz ?_ _;exact⟨g4.out,j7,k0,j9,g3.out⟩
theorem Wt{w:World}{v:Value}{ws:Wd}(j:Q4 w v ws)(E:ws.length<=1000000) :
  Calls Tryz.prog 17 #[v] w fun e w'=>∃ ao cap,e=.returned (.slice ao ws.length cap)/\w'.ownsRow w.heap.size 26 2 (.slice ao ws.length cap) ws.length (Qx ws)/\Ext w w':=by
 have c:=j.1;obtain⟨C,m,ao,cap,rfl,d⟩:=c;have y:=Zh j;obtain⟨f,i⟩:=zE ws.length;rw [i] at m d E ⊢;have l:=Zh i;clear j i C;unfold maxLen at m;cases ao with
 | none=>
  have F:f=0:=by
   apply Nat.eq_zero_of_not_pos;intro D;obtain⟨I,J,n,_⟩:=d D;cases n
  subst F;have H:ws=[]:=List.eq_nil_of_length_eq_zero l.out;subst H;clear d;have G:=fun(w:World)=>Lib.run_eql_slice_nil (P:=Tryz.prog) w 23 26 none 0 cap 0 0 Tryz.underlying23;go_enter Tryz.func17,Tryz.ntmps17;go_wp2;go_ret;exact⟨none,0,rfl,World.ownsRow_nil _ _ _ _,Q0.refl _ _⟩
 | some a=>
  clear d;have G:=fun(w:World)=>Lib.run_eql_slice_nil (P:=Tryz.prog) w 23 26 (some a) f cap 0 0 Tryz.underlying23;go_enter Tryz.func17,Tryz.ntmps17;have g:Ext w (w.alloc (.cells #[] 26)):=(Q0.refl _ w).alloc _;have p:=World.ownsRow_made (base:=w.heap.size) (e:=26) (size:=2) w #[] 0 (Nat.le_refl _) zd rfl;have c:=(y.out.ext g).1;rw [l.out] at c;obtain⟨t,x,k⟩:=Zh3 p c g;clear p c g
  go_wp2_with (at_builtin;refine X4 rfl (.tmp 5) (.tmp 6) 23 rfl w.heap.size 26 _ 2 8 Tryz.underlying23 @Yt rfl zd _ 0 [] rfl t.out _ _ _ _ rfl x.out (Jr ws) ?c3 ?c4 ?c5 ?_)
  case c3=>unfold maxLen;omega
  case c4=>omega
  case c5=>exact k.out.size
  intro A B z q r _;have o:Ext w z:=k.out.after r (fun b n e=>by simp [Value.ownBlock] at e;omega);have u:=Zh q;have s:=Zh o;clear q o r;go_wp2;go_ret;refine⟨A,B,?_,?_,s.out⟩
  ·first | rfl | simp
  ·have:=u.out
   simpa using this
theorem Qk.own{w:World}{base:Nat}{e:TypeId}{ao:Option Addr}{c:Nat}{u:Wd}(h:w.ownsRow base e 2 (.slice ao u.length c) u.length (Qx u)) (hok:Zn u):Qk w (.slice ao u.length c) u:=⟨ao,c,rfl,Q15 h hok,(Vz h).1⟩
theorem Qk.nil(w:World):Qk w (.slice none 0 0) []:=⟨none,0,rfl,⟨⟨rfl,by simp [maxLen],none,0,rfl,fun h=>by simp at h⟩,by simp [Zn]⟩,Nat.le_refl _⟩
theorem Q1l{l:Q7}{ws:Wd}(h:trE l ws=0)(a:(trT l ws).length=0):Jt l ws=ws:=by
 unfold trT at a;rw [if_pos h] at a;unfold Jt Hq;rw [if_pos h,List.eq_nil_of_length_eq_zero a];rfl
theorem Es{l:Q7}{ws:Wd}(h:trE l ws=0){k:Nat}(b:(trT l ws).length=k+1):∀(hk:k<(trT l ws).length),(trT l ws)[k].2=Jt l ws:=by
 intro hk;have a:trT l ws=Qq l ws:=by unfold trT;rw [if_pos h]
 unfold Jt Hq;rw [if_pos h,List.getLastD_eq_getLast?,List.getLast?_eq_getElem?,List.length_map,<-a,b,Nat.add_sub_cancel,List.getElem?_map,List.getElem?_eq_getElem hk];rfl
theorem Q0v{l:Q7}{ws:Wd}(h:trE l ws≠0):Jt l ws=[]:=by unfold Jt;rw [if_neg h]
theorem Q8m{w:World}{l:Q7}{cs:List Value}{vo:Option Addr}{vc:Nat}{ws:Wd}(U:Zq w l cs)(C:Q4 w (.slice vo ws.length vc) ws) (f2:ws.length<=vc) (b5:Tab w) :
  Calls Tryz.prog 176 #[.agg cs.toArray,.slice vo ws.length vc] w fun e w'=>∃ u,e=.returned (.tuple #[u,.int .i64 (trE l ws)])/\Qk w' u (Jt l ws)/\Zj (fun g=>w.heap.size<=g) u/\Ext w w':=by
 have t:=fun(V:World) (c:Ext w V)=>Q8r (U.ext c) (C.ext c) f2 (b5.keep c id);have Q:=fun(V:World) (c:Ext w V) (d:ws.length<=32)=>Wt (C.ext c) (Nat.le_trans d zd);have c0:=C.2;have B:trE l ws=0->ws.length<=32:=fun m=>Jy (Hi (Px m)).2;have n:=@Q1l l ws;have p:=@Es l ws;have z:=@Q0v l ws;obtain⟨e2,Y⟩:=zE ws.length;rw [Y] at t Q B ⊢;obtain⟨d3,c6,d8,c8,d1,a8,b0,d4,a3,b2,c7,d9,c9,d2,a9,b1,d5,a4,b3,c5,a5,c4,d7,a6,d6,d0,rfl,f7,g5,g6,f6,g4,g3,f9,g0,g1,g2,f8,i6,i7,i8,i9,j0⟩:=Zu U;obtain⟨a0,c⟩:=zE (trE l ws);obtain⟨a7,b6⟩:=zE (trT l ws);obtain⟨v,b4⟩:=zE (Jt l ws);rw [c] at t B n p z ⊢;rw [b6] at t n p;rw [b4] at n p z ⊢;obtain⟨a2,I,e7,e6,F,G,H,f0⟩:=Zh8 t Q B c0 n p z Y;clear U C b5 t Q B c0 n p z c b6 b4 Y;go_enter Tryz.func176,Tryz.ntmps176;go_upto_region 1 with (fail)
 obtain⟨e0,E⟩:=zE (w.alloc (.cells #[.string d3,.int .i64 c6,.int .u32 (d8:Int),.int .u32 (c8:Int),.bool d1,.int .i64 a8,.int .i64 b0,.slice d4 a3 b2,.int .i64 c7,.int .u32 (d9:Int),.int .u32 (c9:Int),.bool d2,.int .i64 a9,.int .i64 b1,.slice d5 a4 b3,.slice c5 a5 c4,.slice d7 a6 d6,.int .i64 d0] 50));have A:Ext w e0:=by rw [<-E];exact(Q0.refl _ w).alloc _
 have W:e0.heap[w.heap.size]?=some (.cells #[.string d3,.int .i64 c6,.int .u32 (d8:Int),.int .u32 (c8:Int),.bool d1,.int .i64 a8,.int .i64 b0,.slice d4 a3 b2,.int .i64 c7,.int .u32 (d9:Int),.int .u32 (c9:Int),.bool d2,.int .i64 a9,.int .i64 b1,.slice d5 a4 b3,.slice c5 a5 c4,.slice d7 a6 d6,.int .i64 d0] 50 (0,0)):=by rw [<-E];exact Q3 rfl
 rw [E];obtain⟨e3,L⟩:=zE w.heap.size;rw [L] at W ⊢;have a1:=Zh W;have f5:=Zh L;clear E W L
 go_wp2_with (refine wpList_load_row rfl 50 (.tmp 2) rfl e3 rfl _ _ _ _ a1.out Tryz.underlying50 rfl Tryz.lawInfo ?_)
 refine(a2.out _ A).mono ?_;rintro e e1 ⟨u,j3,rfl,N,r⟩;have q:=A.trans r;have s:=N.out;obtain⟨j2,j1,j5,j4,rfl,rfl,c3⟩:=s.slices;obtain⟨e5,e8,e9⟩:=Zh3 N A.size q.size;clear N r A a1 a2;by_cases m:a0=0;case neg=>
  have i1:(a0 != 0)=true:=by rw [bne_iff_ne];exact m
  have i:=H.out m;subst i;clear s;go_wp2;go_ret2;exact⟨_,rfl,Qk.nil _,fun g o a y e h=>(by cases e),q⟩
 subst m;have f3:=e7.out rfl;obtain⟨a,d⟩:=zE a7.length;rw [d] at c3 ⊢;unfold maxLen at c3;by_cases b8:a=0
 ·subst b8;have i:=F.out rfl d;have e4:=Zh (I.out e1 q f3);clear s d F G H I;go_wp2_with fail;refine e4.out.mono ?_;rintro e f4 ⟨k,K,rfl,M,r⟩;have f1:=q.trans r;have c1:Qk f4 (.slice k e2 K) v:=by
   rw [i];have:=M;rw [<-f0.out] at this ⊢;exact Qk.own this e6.out
  have j:Zj (fun g=>w.heap.size<=g) (.slice k e2 K):=fun g o a y e h=>by
   cases e;rcases M.2 with ⟨Z,_⟩ | ⟨i0,g8,g9,Z,i2,_⟩
   ·cases Z
   ·cases Z;have:=e9.out;omega
  have x:=Zh c1;have J:=Zh j;clear M r i c1 j;go_wp2;go_ret2;exact⟨_,rfl,x.out,J.out,f1⟩
 ·obtain⟨f,rfl⟩:∃ f,a=f+1:=⟨a - 1,by omega⟩;have S:f<a7.length:=by omega
  obtain⟨g,K,k,y,c2,O,X,P⟩:=s.at S;have i:=G.out rfl d S;rw [i] at O X P;rw [d] at c2;cases c2;have b9:=e5.out;have j:=(b9.fresh S O).mono (T:=fun g=>w.heap.size<=g) (fun g hg=>Nat.le_trans e8.out hg);have x:Hid (Qk e1 (.slice k v.length y) v):=Zh ⟨k,y,rfl,X,P⟩;obtain⟨g7,b7⟩:=zE v.length;rw [b7] at O x j;have J:=Zh j;have i3:((f+1:Nat):Int) - 1=(f:Int):=by omega
  have i4:(0:Int)<((f+1:Nat):Int):=by omega
  have i5:(f:Int)<((f+1:Nat):Int):=by omega
  clear s d F G H I X P i b7 b8 b9 j;go_wp2;go_ret2;exact⟨_,rfl,x.out,J.out,q⟩
theorem Q5x{w:World}{l:Q7}{cs:List Value}{vo:Option Addr}{vc:Nat}{ws:Wd}(hl:Zq w l cs)(hv:Q4 w (.slice vo ws.length vc) ws) (hcap:ws.length<=vc) (hT:Tab w) :
  Calls Tryz.prog 176 #[.agg cs.toArray,.slice vo ws.length vc] w fun e w'=>∃ u,e=.returned (.tuple #[u,.int .i64 (trE l ws)])/\Qk w' u (Jt l ws)/\Ext w w':=
 (Q8m hl hv hcap hT).mono fun _ _ ⟨u,h1,h2,_,h3⟩=>⟨u,h1,h2,h3⟩
theorem Q9s{w:World}{ao:Option Addr}{N cap:Nat}{ps:Qr}(H:Qt w (.slice ao N cap) ps) (E:ps.length=N) (U:N<=maxLen) (f:Nat) (lb:Array Value) (m:∀ args w,(callFunc f args).run Tryz.prog w=.ok (.enter f args) w)
  (F:Q7->Bool) (D:∀ p∈ps,∀ V,Ext w V->Calls Tryz.prog f (#[.agg p.2.toArray]++lb) V fun e w'=>e=.returned (.bool (F p.1))/\Ext V w') :
  Calls Tryz.prog 149 #[.slice ao N cap,.func (.func f) #[] lb] w fun e w'=>∃ z:Int,e=.returned (.int .i64 z)/\decide (0<=z)=ps.any (fun p=>F p.1)/\Ext w w':=by
 unfold maxLen at U;obtain⟨M,L,y,K⟩:=Zh4 H D E m;clear H D E m;go_enter Tryz.func149,Tryz.ntmps149;go_wp2
 refine wp_loop (fun a r=>∃(b:Nat),b<=N/\a.defers=[]/\gS a [0,1,7,8]=(19,[.slice ao N cap,.func (.func f) #[] lb,.int .i64 N,.int .i64 b])/\(ps.take b).any (fun p=>F p.1)=false/\Ext w r)
  (fun a _=>N - (intOf (a.tmps.getD 8 undef)).toNat) ?_ ?_
 ·exact⟨0,by omega,rfl,rfl,by simp,Q0.refl _ _⟩
 rintro⟨a4,_⟩ r ⟨b,a3,R,J,G,g⟩;subst R;obtain⟨a5,rfl⟩:=Qc J;clear J;have u:=Zh G;clear G;by_cases S:b<N
 ·have Q:(b:Int)<(N:Int):=by omega
  have a1:(0:Int)<=(b:Int):=by omega
  have n:b<ps.length:=by rw [y.out];exact S
  obtain⟨P,X,a0,I,a2,o,T,l⟩:=(M.out.ext g).at n;simp only [zV] at I;obtain⟨rfl,W,rfl⟩:=I;clear W;have i:=L.out _ (List.getElem_mem n) r g;obtain⟨j,q⟩:=zE (ps[b]);have Y:Hid (ps[b]=j):=Zh q;rw [q] at o l i;obtain⟨k,s⟩:=zE (F j.1);rw [s] at i;have v:Hid (F ps[b].1=k):=Zh (by rw [q];exact s);obtain⟨a6,O⟩:=j;dsimp only at o l i;obtain⟨x,A,t⟩:=Zh3 i o l;clear i q s o l T;have m:=K.out
  go_wp2_with (refine Ja (by rfl) 50 (.tmp 14) rfl P (X+b*18) zr O _ A.out Tryz.underlying50 rfl (by rw [t.out];kernel_rfl) ?_)
  clear m;refine x.out.mono ?_;rintro e Z ⟨rfl,C⟩;have B:=g.trans C;clear x g C A t;cases k
  ·have c:(ps.take (b+1)).any (fun p=>F p.1)=false:=by
    rw [List.take_succ_eq_append_getElem n,List.any_append,u.out];simp [v.out]
   have d:=Zh c;clear c;go_wp2;exact⟨⟨b+1,by omega,tz,rfl,d.out,B⟩,nz⟩
  ·have c:ps.any (fun p=>F p.1)=true:=List.any_eq_true.2 ⟨_,List.getElem_mem n,v.out⟩;have d:=Zh c;clear c;go_wp2;go_ret;exact⟨_,rfl,by rw [d.out];simp,B⟩
 ·obtain rfl:b=N:=by omega
  have Q:¬ (b:Int)<(b:Int):=by omega
  have c:ps.any (fun p=>F p.1)=false:=by have:=u.out;rwa [List.take_of_length_le (by rw [y.out];exact Nat.le_refl _)] at this
  have d:=Zh c;clear c;go_wp2;go_ret;exact⟨_,rfl,by rw [d.out];simp,g⟩
theorem Q16{w:World}{ao:Option Addr}{N cap:Nat}{ps:Qr}(g:Qt w (.slice ao N cap) ps) (c:ps.length=N) (m:N<=maxLen) (a:Nat) (lb:Array Value) (d:∀ args w,(callFunc a args).run Tryz.prog w=.ok (.enter a args) w)
  (F:Q7->Bool) (b:∀ p∈ps,∀ V,Ext w V->Calls Tryz.prog a (#[.agg p.2.toArray]++lb) V fun e w'=>e=.returned (.bool (F p.1))/\Ext V w') :
  Calls Tryz.prog 111 #[.slice ao N cap,.func (.func a) #[] lb] w fun e w'=>e=.returned (.bool (ps.any fun p=>F p.1))/\Ext w w':=by
 have f:=Q9s g c m (cap:=cap) a lb d F b;have j:=Zh f;clear f b g d c;go_enter Tryz.func111,Tryz.ntmps111;go_wp2_with fail;refine j.out.mono ?_;rintro e n ⟨o,rfl,i,l⟩;have k:=Zh i;clear i;go_wp2;go_ret;exact⟨by rw [<-k.out];rfl,l⟩
theorem Q6a{w:World}{l:Q7}{cs:List Value}(g:Zq w l cs)(z:Tab w) :
  Calls Tryz.prog 112 #[.agg cs.toArray] w fun e w'=>e=.returned (.bool (!Zv l))/\Ext w w':=by
 have f:=fun(V:World) (hE:Ext w V)=>Sy (g.ext hE) (z.keep hE id);obtain⟨L,E,Q,G,J,p,r,M,k,t,F,R,H,K,q,s,N,m,u,C,n,B,P,o,O,I,rfl,Y,a6,a7,X,a5,a4,a0,a1,a2,a3,Z,a8,a9,b0,b1,b2⟩:=Zu g;have d:Vm l=if Zv l=true then 0 else 17:=rfl
 obtain⟨a,A⟩:=zE (Zv l);rw [A] at d ⊢;rw [d] at f;have j:=Zh f;clear f g z d A;go_enter Tryz.func112,Tryz.ntmps112;go_upto_region 1 with (fail)
 obtain⟨S,b⟩:=zE (w.alloc (.cells #[.string L,.int .i64 E,.int .u32 (Q:Int),.int .u32 (G:Int),.bool J,.int .i64 p,.int .i64 r,.slice M k t,.int .i64 F,.int .u32 (R:Int),.int .u32 (H:Int),.bool K,.int .i64 q,.int .i64 s,.slice N m u,.slice C n B,.slice P o O,.int .i64 I] 50));have x:Ext w S:=by rw [<-b];exact(Q0.refl _ w).alloc _
 have i:S.heap[w.heap.size]?=some (.cells #[.string L,.int .i64 E,.int .u32 (Q:Int),.int .u32 (G:Int),.bool J,.int .i64 p,.int .i64 r,.slice M k t,.int .i64 F,.int .u32 (R:Int),.int .u32 (H:Int),.bool K,.int .i64 q,.int .i64 s,.slice N m u,.slice C n B,.slice P o O,.int .i64 I] 50 (0,0)):=by rw [<-b];exact Q3 rfl
 rw [b];obtain⟨T,v⟩:=zE w.heap.size;rw [v] at i ⊢;have W:=Zh i;have c:=Zh x;clear b i v x
 go_wp2_with (refine wpList_load_row rfl 50 (.tmp 1) rfl T rfl _ _ _ _ W.out Tryz.underlying50 rfl Tryz.lawInfo ?_)
 refine(j.out _ c.out).mono ?_;rintro e b3 ⟨rfl,y⟩;have U:=Zh (c.out.trans y);clear y j c;cases a
 all_goals
  go_wp2;go_ret;exact⟨rfl,U.out⟩
theorem Dg{w:World}{ps:Qr}{lo:Option Addr}{n lc:Nat}(f:Qt w (.slice lo n lc) ps) (g:ps.length=n) (o:Tab w) :
  Calls Tryz.prog 71 #[.slice lo n lc] w fun e w'=>e=.returned (.int .i64 (Z4 (ps.map (·.1))))/\Ext w w':=by
 have q:n<=maxLen:=by rw [<-g];exact f.1.2.1
 have k:=Q16 f g q 112 #[] (enters_of Tryz.func112 kz rfl) (fun l=>!Zv l) (fun a d V c=>Q6a ((f.2 a d).ext c) (o.keep c id));have r:Z4 (ps.map (·.1))=if 64<n then 12 else if (ps.any fun a=>!Zv a.1)=true then 17 else 0:=by
  unfold Z4;rw [List.length_map,g];by_cases b:64<n
  ·rw [if_pos b,if_pos b]
  ·rw [if_neg b,if_neg b];cases h2:ps.any fun a=>!Zv a.1 with
   | false=>rw [if_pos (by rw [List.all_map,List.all_eq_true];intro a d;have:=List.any_eq_false.1 h2 a d;simpa using this)];rfl
   | true=>rw [if_neg (by rw [List.all_map,List.all_eq_true];intro u;obtain⟨a,d,m⟩:=List.any_eq_true.1 h2;have:=u a d;simp at m this;rw [m] at this;cases this)];rfl
 rw [r];obtain⟨j,p⟩:=zE (ps.any fun a=>!Zv a.1);rw [p] at k ⊢;unfold maxLen at q;have i:=Zh k;clear k r p f g o;go_enter Tryz.func71,Tryz.ntmps71;by_cases b:64<n
 ·have t:(n:Int) > 64:=by omega
  rw [if_pos b];clear i;go_wp2;go_ret;exact⟨rfl,Q0.refl _ _⟩
 have t:¬ (n:Int) > 64:=by omega
 rw [if_neg b];go_wp2_with fail;refine i.out.mono ?_;rintro e v ⟨rfl,c⟩;have s:=Zh c;clear c i;cases j
 all_goals
  go_wp2;go_ret;exact⟨rfl,s.out⟩
def Qf(a b:Wd)(s:Nat × Nat):Wd:=a++[s]++b
def Qs(ls:List Q7)(a b:Wd):Int:=if Z4 ls=0 then(if wE a=0 then wE b else wE a) else Z4 ls
def Uc(ls:List Q7)(a b:Wd)(s:Nat × Nat):Int:=if Qs ls a b=0 then(if okS s=true then Ye ls (Qf a b s) else 14) else Qs ls a b
def Ua(ls:List Q7)(a b:Wd)(s:Nat × Nat):Wd:=if Qs ls a b=0 then(if okS s=true then Yj ls (Qf a b s) else []) else []
def Yk(ss:Wd)(most:Nat):Int:=if most<ss.length then 12 else if ss.all okS=true then(if ss.Nodup then 0 else 6) else 14
def Z2:List Int->Int
 | []=>0
 | e::l=>if e=0 then Z2 l else e
def Z1(ls:List Q7)(a b ss:Wd):Int:=if Qs ls a b=0 then(if Yk ss 64=0 then Z2 (ss.map fun s=>Ye ls (Qf a b s)) else Yk ss 64) else Qs ls a b
def Qy(ls:List Q7)(a b ss:Wd):List Wd:=if Z1 ls a b ss=0 then ss.map fun s=>Yj ls (Qf a b s) else []
def Qer(l:List Wd):List Nat:=l.map fun w=>l.idxOf w
def Yq(pl:List Wd)(w:Wd):Nat->Int
 | 0=>-1
 | n+1=>if pl.getD n []=w then(n:Int) else Yq pl w n
def Kq(l pl:List Wd):List Int:=l.map fun w=>Yq pl w pl.length
theorem Vv{l:List Int}{n:Nat}(b:n<l.length)(h:Z2 (l.take n)=0):Z2 (l.take (n+1))=l[n]:=by
 induction l generalizing n with
 | nil=>cases b
 | cons e l ih=>
  cases n with
  | zero=>simp only [Nat.zero_add,List.take_succ_cons,List.take_zero,List.getElem_cons_zero];unfold Z2;split <;> rename_i a <;> simp [Z2,a]
  | succ n=>
   rw [List.take_succ_cons] at h ⊢;unfold Z2 at h ⊢
   split at h
   ·rename_i a
    rw [if_pos a,List.getElem_cons_succ];exact ih (by simpa using b) h
   ·contradiction
theorem Vy{l:List Int}{n:Nat}(b:n<l.length)(h:Z2 (l.take n)=0) (a:l[n]≠0):Z2 l=l[n]:=by
 induction l generalizing n with
 | nil=>cases b
 | cons e l ih=>
  cases n with
  | zero=>rw [List.getElem_cons_zero] at a ⊢;unfold Z2;rw [if_neg a]
  | succ n=>
   rw [List.take_succ_cons] at h;unfold Z2 at h ⊢
   split at h
   ·rename_i c
    rw [if_pos c,List.getElem_cons_succ];exact ih (by simpa using b) h (by simpa using a)
   ·contradiction
theorem Cf(pl:List Wd)(w:Wd):∀ n,-1<=Yq pl w n/\Yq pl w n<n
 | 0=>⟨by unfold Yq;omega,by unfold Yq;omega⟩
 | n+1=>by
  have:=Cf pl w n;unfold Yq
  split <;> omega
def Nj(ps:Qr)(k:Nat):Prop:=(ps.take k).all (fun p=>Zv p.1)=true
theorem Q8x{ps:Qr}{k:Nat}(b:k<ps.length)(h:Nj ps k)(a:Zv ps[k].1=true):Nj ps (k+1):=by
 unfold Nj at *;rw [List.take_succ_eq_append_getElem b,List.all_append,h];simp [a]
theorem Qbr{ps:Qr}{k:Nat}(b:k<ps.length)(a:Zv ps[k].1=false):(ps.map (·.1)).all Zv=false:=by
 rw [List.all_map,List.all_eq_false];exact⟨_,List.getElem_mem b,by simp [a]⟩
theorem Qby{ps:Qr}{k:Nat}(a:ps.length<=k)(h:Nj ps k):(ps.map (·.1)).all Zv=true:=by
 unfold Nj at h;rw [List.take_of_length_le a] at h;rw [List.all_map];exact h
def Xg(W:World)(u v x:Value):Prop:=Zj (fun g=>g<W.heap.size/\u.ownBlock≠some g/\v.ownBlock≠some g) x
structure TrP (b:Nat) (W:World) (u v:Value) (vals:List Value) (tr:List (Nat × Wd)):Prop where
 ou:W.ownsRow b 3 1 u tr.length (Y4 (tr.map (·.1)))
 ov:W.ownsRow b 23 1 v tr.length vals
 wd:Zt W vals (tr.map (·.2))
 wk:∀ x∈vals,Xg W u v x
theorem TrP.nil(b:Nat)(W:World):TrP b W (.slice none 0 0) (.slice none 0 0) [] []:=⟨World.ownsRow_nil _ _ _ _,World.ownsRow_nil _ _ _ _,trivial,fun x hx=>by cases hx⟩
theorem TrP.ext{b:Nat}{A B:World}{u v:Value}{vals:List Value}{tr:List (Nat × Wd)} (h:TrP b A u v vals tr) (ht:Ext A B):TrP b B u v vals tr:=
 ⟨Q6 h.ou ht,Q6 h.ov ht,h.wd.ext ht,fun x hx=>(h.wk x hx).mono fun _g hg=>⟨Nat.lt_of_lt_of_le hg.1 ht.size,hg.2⟩⟩
theorem TrP.out{b:Nat}{A:World}{u v:Value}{vals:List Value}{tr:List (Nat × Wd)} (h:TrP b A u v vals tr):Xw b A u v tr:=⟨h.ou,vals,h.ov,h.wd⟩
theorem Xg.ext{A B:World}{u v x:Value}(h:Xg A u v x)(ht:Ext A B):Xg B u v x:=h.mono fun _g hg=>⟨Nat.lt_of_lt_of_le hg.1 ht.size,hg.2⟩
theorem Xg.low{W:World}{b:Nat}{e1 e2:TypeId}{s1 s2 n1 n2:Nat}{u v x:Value}{x1 x2:List Value}(hu:W.ownsRow b e1 s1 u n1 x1)(hv:W.ownsRow b e2 s2 v n2 x2)(hx:Zj (fun g=>g<b/\g<W.heap.size) x):Xg W u v x:=
 hx.mono fun g hg=>⟨hg.2,fun e=>by have:=(hu.lt g e).1;omega,fun e=>by have:=(hv.lt g e).1;omega⟩
theorem Xg.own{W:World}{b k:Nat}{i j f:TypeId}{s t w p q r:Nat}{u v x:Value}{y z A:List Value}(n:W.ownsRow b i s u p y)(o:W.ownsRow b j t v q z)(d:W.ownsRow k f w x r A)(l:i≠f)(m:j≠f):Xg W u v x:=by
 intro c H G B a F;have g:x.ownBlock=some c:=by
  rcases d.2 with ⟨e,_⟩ | ⟨E,C,D,e,_⟩
  ·rw [e] at a;cases a
  ·rw [e] at a;cases a;rw [e];rfl
 exact⟨(d.lt c g).2,fun hu'=>Ji n d l c hu' g,fun hv'=>Ji o d m c hv' g⟩
theorem TrP.push{b:Nat}{V W:World}{u v u' v':Value}{e:List Value}{c:List (Nat × Wd)} (h:TrP b V u v e c) {i:Nat} {r:Wd} {x:Value} (o:Qk V x r) (j:Xg V u v x)
  (s:W.ownsRow b 3 1 u' (c.length+1) (Y4 (c.map (·.1))++[.int .i64 (i:Int)])) (t:W.ownsRow b 23 1 v' (c.length+1) (e++[x]))
  (m:Q0 (fun b=>u.ownBlock=some b\/v.ownBlock=some b) V W) (z:u'.ownBlock=u.ownBlock\/∃ k,V.heap.size<=k/\u'.ownBlock=some k) (A:v'.ownBlock=v.ownBlock\/∃ k,V.heap.size<=k/\v'.ownBlock=some k) :
  TrP b W u' v' (e++[x]) (c++[(i,r)])/\Qk W x r/\Xg W u' v' x:=by
 have q:∀ {y y':Value} (g:Nat),y.ownBlock≠some g->g<V.heap.size->(y'.ownBlock=y.ownBlock\/∃ k,V.heap.size<=k/\y'.ownBlock=some k)->y'.ownBlock≠some g:=fun g h1 h2 d=>by
  rcases d with d | ⟨k,d,w⟩
  ·rw [d];exact h1
  ·rw [w];intro f;cases f;omega
 have l:∀ y∈e++[x],Xg V u v y:=fun y a=>by
  rcases List.mem_append.1 a with a | a
  ·exact h.wk y a
  ·simp only [List.mem_singleton] at a;subst a;exact j
 have p:∀ y,Xg V u v y->Xg W u' v' y:=fun y a=>a.mono fun g hg=>⟨Nat.lt_of_lt_of_le hg.1 m.size,q g hg.2.1 hg.1 z,q g hg.2.2 hg.1 A⟩;have n:Q0 (fun b=>¬ (b<V.heap.size/\u.ownBlock≠some b/\v.ownBlock≠some b)) V W:=m.mono fun b _ f hn=>f.elim hn.2.1 hn.2.2;refine⟨⟨?_,?_,?_,fun y a=>p y (l y a)⟩,o.keepS n j,p x j⟩
 ·rw [List.length_append,List.map_append];show W.ownsRow _ _ _ _ _ (Y4 (c.map (·.1)++[i]));rw [Uq];exact s
 ·rw [List.length_append];exact t
 ·rw [List.map_append];exact(h.wd.snoc o).keepS n l
theorem TrP.push2{b:Nat}{V W:World}{u v u' v':Value}{f:List Value}{c:List (Nat × Wd)} (h:TrP b V u v f c) {i:Nat} {r:Wd} {x:Value} (w:Qk W x r) (p:Xg W u' v' x)
  (m:W.ownsRow b 3 1 u' (c.length+1) (Y4 (c.map (·.1))++[.int .i64 (i:Int)])) (n:W.ownsRow b 23 1 v' (c.length+1) (f++[x]))
  (j:Q0 (fun b=>u.ownBlock=some b\/v.ownBlock=some b) V W) (s:u'.ownBlock=u.ownBlock\/∃ k,V.heap.size<=k/\u'.ownBlock=some k) (t:v'.ownBlock=v.ownBlock\/∃ k,V.heap.size<=k/\v'.ownBlock=some k) :
  TrP b W u' v' (f++[x]) (c++[(i,r)]):=by
 have l:∀ {y y':Value} (g:Nat),y.ownBlock≠some g->g<V.heap.size->(y'.ownBlock=y.ownBlock\/∃ k,V.heap.size<=k/\y'.ownBlock=some k)->y'.ownBlock≠some g:=fun g h1 h2 d=>by
  rcases d with d | ⟨k,d,o⟩
  ·rw [d];exact h1
  ·rw [o];intro e;cases e;omega
 have z:∀ y,Xg V u v y->Xg W u' v' y:=fun y a=>a.mono fun g hg=>⟨Nat.lt_of_lt_of_le hg.1 j.size,l g hg.2.1 hg.1 s,l g hg.2.2 hg.1 t⟩;have q:Q0 (fun b=>¬ (b<V.heap.size/\u.ownBlock≠some b/\v.ownBlock≠some b)) V W:=j.mono fun b _ e hn=>e.elim hn.2.1 hn.2.2;refine⟨?_,?_,?_,fun y a=>?_⟩
 ·rw [List.length_append,List.map_append];show W.ownsRow _ _ _ _ _ (Y4 (c.map (·.1)++[i]));rw [Uq];exact m
 ·rw [List.length_append];exact n
 ·rw [List.map_append];exact(h.wd.keepS q h.wk).snoc w
 ·rcases List.mem_append.1 a with a | a
  ·exact z y (h.wk y a)
  ·simp only [List.mem_singleton] at a;subst a;exact p
theorem Jd{a:Func}{t u v:Tmp}(h:a.results=#[.tmp t,.tmp u,.tmp v])(tmps:Array Value)(P:Program)(w:World) :
  (results a tmps).run P w=.ok (.tuple #[tmps.getD t undef,tmps.getD u undef,tmps.getD v undef]) w:=by
 simp [results,h]
theorem Qao{s:Nat × Nat}(k:Qh s)(w:World):Calls Tryz.prog 126 #[sV s] w fun e w'=>e=.returned (.bool (!okS s))/\Ext w w':=by
 obtain⟨b,c⟩:=s;have i:Ext w (w.alloc (.cells #[.int .u32 b,.int .u32 c] 26)):=(Q0.refl _ w).alloc _;have a:=Zh (Xo k (w.alloc (.cells #[.int .u32 b,.int .u32 c] 26)));have d:=Zh i;clear i k;obtain⟨f,j⟩:=zE (okS (b,c));rw [j] at a ⊢;clear j;unfold sV at a ⊢;go_enter Tryz.func126,Tryz.ntmps126;go_wp2_with fail;refine a.out.mono ?_;rintro e m ⟨rfl,g⟩;have l:=Zh (d.out.trans g);clear a g d;go_wp2;go_ret;exact⟨rfl,l.out⟩
theorem Q6k:∀ args w,(callFunc 126 args).run Tryz.prog w=.ok (.enter 126 args) w:=fun args w=>by simp [go_sem]
theorem Et{ss:Wd}{m:Nat}(c:¬ m<ss.length)(h:ss.any (fun s=>!okS s)=true):Yk ss m=14:=by
 unfold Yk;rw [if_neg c,if_neg];intro a;rw [List.any_eq_true] at h;obtain⟨e,d,b⟩:=h;rw [List.all_eq_true] at a;rw [a e d] at b;cases b
theorem Tk{ss:Wd}{m:Nat}(a:¬ m<ss.length)(h:ss.any (fun s=>!okS s)=false):Yk ss m=if ss.Nodup then 0 else 6:=by
 unfold Yk;rw [if_neg a,if_pos];rw [List.all_eq_true];intro c b;rw [List.any_eq_false] at h;have:=h c b
 simpa using this
theorem Sz{l:Wd}{k:Nat}(c:k<l.length)(h:(l.take k).Nodup) (d:l[k] ∉ l.take k):(l.take (k+1)).Nodup:=by
 rw [List.take_succ_eq_append_getElem c];refine List.nodup_append.2 ⟨h,by simp,fun a ha b hb=>?_⟩;rw [List.mem_singleton] at hb;subst hb;rintro rfl;exact d ha
theorem Ef{l:Wd}{k:Nat}(hk:k<l.length)(hn:l[k]∈l.take k):¬ l.Nodup:=fun h=>by
 have h2:(l.take (k+1)).Nodup:=h.sublist (List.take_sublist _ _);rw [List.take_succ_eq_append_getElem hk] at h2;exact(List.nodup_append.1 h2).2.2 _ hn _ zy rfl
theorem Q8t{w:World}{ao:Option Addr}{N cap:Nat}{ss:Wd}(m:Nat)(x:Q4 w (.slice ao N cap) ss) (E:ss.length=N) (c3:N<=cap) :
  Calls Tryz.prog 93 #[.slice ao N cap,.int .i64 m] w fun e w'=>e=.returned (.int .i64 (Yk ss m))/\Ext w w':=by
 have U:=x.1.2.1;rw [E] at U;have u:=P2 x E U (cap:=cap) 126 #[] Q6k (fun g=>!okS g) (fun g L V hV=>Qao (x.2 g L) V);unfold maxLen at U;obtain⟨a7,i,y⟩:=Zh3 x E u;clear x u;by_cases d3:N<=m;case neg=>
  have C:(N:Int) > (m:Int):=by omega
  have b3:Yk ss m=12:=by unfold Yk;rw [if_pos (by rw [i.out];omega)]
  rw [b3];clear b3 y;go_enter Tryz.func93,Tryz.ntmps93;go_wp2;go_ret;exact⟨rfl,Q0.refl _ _⟩
 have C:¬ (N:Int) > (m:Int):=by omega
 have W:¬ m<ss.length:=by rw [i.out];omega
 have F:=Et (ss:=ss) W;have G:=Tk (ss:=ss) W;obtain⟨a2,b0⟩:=zE (Yk ss m);rw [b0] at F G ⊢;obtain⟨l,d⟩:=zE (ss.any (fun g=>!okS g));rw [d] at y F G;have O:=Zh F;have Q:=Zh G;clear F G d b0 W E;go_enter Tryz.func93,Tryz.ntmps93;go_wp2_with fail;refine y.out.mono ?_;rintro e d6 ⟨rfl,s⟩;have r:=Zh s;clear y s C;cases l;case true=>
  have o:=O.out rfl;subst o;clear Q O;go_wp2;go_ret;exact⟨rfl,r.out⟩
 have o:=Q.out rfl;have a3:=Zh o;clear o O Q;go_wp2
 refine wp_loop (fun a j=>∃(b:Nat),b<=N/\a.defers=[]/\gS a [0,13,14,15]=(26,[.slice ao N cap,.slice ao N cap,.int .i64 N,.int .i64 b])/\(ss.take b).Nodup/\Ext w j)
  (fun a _=>N - (intOf (a.tmps.getD 15 undef)).toNat) ?_ ?_
 ·exact⟨0,by omega,rfl,rfl,List.nodup_nil,r.out⟩
 clear r;rintro⟨d4,_⟩ j ⟨b,c6,c4,b5,f,a9⟩;subst c4;obtain⟨d5,rfl⟩:=Qc b5;clear b5;have a8:=Zh f;have B:=Zh a9;clear f a9;by_cases c7:b<N;case neg=>
  obtain rfl:b=N:=by omega
  have C:¬ (b:Int)<(b:Int):=by omega
  have f:=a8.out;rw [List.take_of_length_le (by rw [i.out];exact Nat.le_refl _)] at f;have d:=a3.out;rw [if_pos f] at d;subst d;clear f;go_wp2;go_ret;exact⟨rfl,B.out⟩
 have C:(b:Int)<(N:Int):=by omega
 have d2:(0:Int)<=(b:Int):=by omega
 have J:b<ss.length:=by rw [i.out];exact c7
 have b2:=(a7.out.ext B.out).at J;rw [i.out] at b2;obtain⟨R,a1,d1,b4,c5,H,I⟩:=b2;simp only [zV,true_and] at b4;obtain⟨rfl,rfl⟩:=b4;rw [List.getD_eq_getElem?_getD,List.getElem?_eq_getElem J,Option.getD_some] at H I;have Y:=Sz J a8.out;have X:=Ef J;obtain⟨g,L⟩:=zE (ss[b]);rw [L] at H I Y X;clear L;have c0:=Zh Y;have b9:=Zh X;clear Y X;have Z:=fun(D:World)=>R0 (P:=Tryz.prog) (A:=some ⟨R,a1,none⟩) (n:=N) (c:=cap) Xs Jq b oz D;have v:Q4 w (sliced (some ⟨R,a1,none⟩) 0 b cap 2) (ss.take b):=by
  have o:=a7.out;rw [<-i.out] at o;have:=o.cut (Nat.zero_le b) (by rw [i.out];exact c6) (by rw [i.out];exact c3)
  simpa using this
 obtain⟨b6,a0⟩:=zE (sliced (some ⟨R,a1,none⟩) 0 b cap 2);simp only [a0] at Z;rw [a0] at v;obtain⟨d0,c9,rfl,_⟩:=v.slice;have K:(ss.take b).length=b:=by rw [List.length_take];omega
 rw [K] at v;simp only [K] at Z;have b7:=Zh K;clear K;have a5:=Zh v;clear v a0;obtain⟨p,q⟩:=g;dsimp only at H I;go_wp2;obtain⟨k,S⟩:=zE j.heap.size;have M:(j.alloc (.cells #[.int .u32 p,.int .u32 q] 26)).heap[k]?=some (.cells #[.int .u32 p,.int .u32 q] 26 (0,0)):=Q3 S.symm;have T:Ext j (j.alloc (.cells #[.int .u32 p,.int .u32 q] 26)):=(Q0.refl _ j).alloc _;rw [S];generalize (j.alloc (.cells #[.int .u32 p,.int .u32 q] 26))=t at M T ⊢;have c1:t.drew.cell? ⟨k,0,none⟩=some (.int .u32 p):=by rw [cell_of_row t.drew k 0 _ _ _ M];rfl
 have c2:t.drew.cell? ⟨k,1,none⟩=some (.int .u32 q):=by rw [cell_of_row t.drew k 1 _ _ _ M];rfl
 have s:Ext w t.drew:=(B.out.trans T).drew;have u:=Ev (a5.out.ext s) b7.out (p,q);have z:=Zh u;have r:=Zh s;clear u s M T S H I c5 B a5;obtain⟨l,d⟩:=zE (decide ((p,q)∈ss.take b));rw [d] at z;have a4:=Zh d;clear d;unfold sV at z;refine V3 4 kz kz ?_;simp only [List.take_succ_cons,List.take_zero,List.drop_succ_cons,List.drop_zero];repeat still_step
 refine wpStill_nil ?_;go_wp2_with fail;refine z.out.mono ?_;rintro e c8 ⟨rfl,b1⟩;have a6:=Zh (r.out.trans b1);clear z b1 r c1 c2 Z;cases l;case true=>
  have f:=b9.out (of_decide_eq_true a4.out);have d:=a3.out;rw [if_neg f] at d;subst d;clear f;go_wp2;go_ret;exact⟨rfl,a6.out⟩
 case false=>
  have b8:=Zh (c0.out (of_decide_eq_false a4.out));go_wp2;exact⟨⟨b+1,by omega,by first | trivial | rfl,rfl,b8.out,a6.out⟩,nz⟩
theorem Q42{ss:Wd}{k:Nat}(b:k<ss.length)(h:(ss.take k).any (fun s=>!okS s)=false) (a:okS ss[k]=true):(ss.take (k+1)).any (fun s=>!okS s)=false:=by
 rw [List.take_succ_eq_append_getElem b,List.any_append,h];simp [a]
theorem Q9y{ss:Wd}{k:Nat}(hk:k<ss.length)(h1:okS ss[k]=false):ss.any (fun s=>!okS s)=true:=List.any_eq_true.2 ⟨_,List.getElem_mem hk,by rw [h1];rfl⟩
theorem Q3v{w:World}{ao:Option Addr}{N cap:Nat}{ss:Wd}(m:Nat)(b1:Q4 w (.slice ao N cap) ss) (a6:ss.length=N) :
  Calls Tryz.prog 97 #[.slice ao N cap,.int .i64 m] w fun e w'=>e=.returned (.int .i64 (Yk ss m))/\Ext w w':=by
 have c5:=b1.1.2.1;rw [a6] at c5;unfold maxLen at c5;have O:=Zh b1;have p:=Zh a6;clear b1;by_cases e8:N<=m;case neg=>
  have A:(N:Int) > (m:Int):=by omega
  have q:Yk ss m=12:=by unfold Yk;rw [if_pos (by rw [p.out];omega)]
  rw [q];clear q;go_enter Tryz.func97,Tryz.ntmps97;go_wp2;go_ret;exact⟨rfl,Q0.refl _ _⟩
 have A:¬ (N:Int) > (m:Int):=by omega
 have b2:¬ m<ss.length:=by rw [p.out];omega
 have a7:=Et (ss:=ss) b2;have a8:=Tk (ss:=ss) b2;obtain⟨b9,c4⟩:=zE (Yk ss m);rw [c4] at a7 a8 ⊢;have Z:=Zh a7;have a0:=Zh a8;clear a7 a8 c4 b2 a6;go_enter Tryz.func97,Tryz.ntmps97;go_wp2;clear A
 refine wp_loop (fun a a2=>∃(d:Nat),d<=N/\a.defers=[]/\(a.tmps.size=44/\a.tmps.getD 0 undef=.slice ao N cap/\a.tmps.getD 5 undef=.int .i64 d)/\(ss.take d).any (fun o=>!okS o)=false/\Ext w a2)
  (fun a _=>N - (intOf (a.tmps.getD 5 undef)).toNat) ?_ ?_
 ·exact⟨0,by omega,rfl,⟨rfl,rfl,rfl⟩,by simp,Q0.refl _ _⟩
 rintro⟨L,_⟩ a2 ⟨d,f6,G,⟨u,n,a4⟩,k,E⟩;subst G;obtain⟨M,v⟩:=Z5 u;obtain⟨b,rfl⟩:∃ x,x=M:=⟨_,rfl⟩;have J:L=#[b 0,b 1,b 2,b 3,b 4,b 5,b 6,b 7,b 8,b 9,b 10,b 11,b 12,b 13,b 14,b 15,b 16,b 17,b 18,b 19,b 20,b 21,b 22,b 23,b 24,b 25,b 26,b 27,b 28,b 29,b 30,b 31,b 32,b 33,b 34,b 35,b 36,b 37,b 38,b 39,b 40,b 41,b 42,b 43]:=v;clear v;subst J;change b 0=_ at n;change b 5=_ at a4;rw [n,a4];clear n a4 u;have y:=Zh k;have j:=Zh E;clear k E;by_cases d9:d<N
 ·have A:(d:Int)<(N:Int):=by omega
  have e5:(0:Int)<=(d:Int):=by omega
  have H:d<ss.length:=by rw [p.out];exact d9
  have r:=(O.out.ext j.out).at H;rw [p.out] at r;obtain⟨c3,c7,d5,t,a9,g,i⟩:=r;simp only [zV,true_and] at t;obtain⟨rfl,rfl⟩:=t;rw [List.getD_eq_getElem?_getD,List.getElem?_eq_getElem H,Option.getD_some] at g i;have b6:=O.out.2 _ (List.getElem_mem H);have V:=Q42 H y.out;have T:=Q9y H;obtain⟨o,I⟩:=zE (ss[d]);rw [I] at g i b6 V T;clear I;have W:=Vo b6 a2;obtain⟨a3,s⟩:=zE (okS o);rw [s] at W V T;clear s;obtain⟨B,K⟩:=o;dsimp only at g i;unfold sV at W;obtain⟨c2,d4,d1⟩:=Zh3 W V T;clear W V T b6 a9;go_wp2_with fail;refine c2.out.mono ?_;rintro e e0 ⟨rfl,F⟩;have l:=Zh (j.out.trans F);clear c2 F j g i;cases a3;case false=>
   have q:=Z.out (d1.out rfl);subst q;clear Z a0;go_wp2;go_ret;exact⟨rfl,l.out⟩
  case true=>
   have C:=Zh (d4.out rfl);go_wp2;exact⟨⟨d+1,by omega,by first | trivial | rfl,⟨rfl,rfl,rfl⟩,C.out,l.out⟩,nz⟩
 obtain rfl:d=N:=by omega
 have A:¬ (d:Int)<(d:Int):=by omega
 have k:=y.out;rw [List.take_of_length_le (by rw [p.out];exact Nat.le_refl _)] at k;have Y:=Zh (a0.out k);clear k Z a0 y;go_wp2;clear A
 refine wp_loop (fun a a1=>∃(f:Nat),f<=d/\a.defers=[]/\(a.tmps.size=44/\a.tmps.getD 0 undef=.slice ao d cap/\a.tmps.getD 6 undef=.int .i64 f)/\(ss.take f).Nodup/\Ext w a1)
  (fun a _=>d - (intOf (a.tmps.getD 6 undef)).toNat) ?_ ?_
 ·exact⟨0,by omega,rfl,⟨rfl,rfl,rfl⟩,List.nodup_nil,j.out⟩
 clear j;rintro⟨L,_⟩ a1 ⟨f,f4,G,⟨u,n,z⟩,D,E⟩;subst G;obtain⟨M,v⟩:=Z5 u;obtain⟨b,rfl⟩:∃ x,x=M:=⟨_,rfl⟩;have J:L=#[b 0,b 1,b 2,b 3,b 4,b 5,b 6,b 7,b 8,b 9,b 10,b 11,b 12,b 13,b 14,b 15,b 16,b 17,b 18,b 19,b 20,b 21,b 22,b 23,b 24,b 25,b 26,b 27,b 28,b 29,b 30,b 31,b 32,b 33,b 34,b 35,b 36,b 37,b 38,b 39,b 40,b 41,b 42,b 43]:=v;clear v;subst J;change b 0=_ at n;change b 6=_ at z;rw [n,z];clear n z u;have c0:=Zh D;have j:=Zh E;clear D E;by_cases d8:f<d;case neg=>
  obtain rfl:f=d:=by omega
  have A:¬ (f:Int)<(f:Int):=by omega
  have D:=c0.out;rw [List.take_of_length_le (by rw [p.out];exact Nat.le_refl _)] at D;have s:=Y.out;rw [if_pos D] at s;subst s;clear D;go_wp2;go_ret;exact⟨rfl,j.out⟩
 have A:(f:Int)<(d:Int):=by omega
 have U:f<ss.length:=by rw [p.out];exact d8
 have r:=(O.out.ext j.out).at U;rw [p.out] at r;obtain⟨c3,c7,d5,t,a9,g,i⟩:=r;simp only [zV,true_and] at t;obtain⟨rfl,rfl⟩:=t;rw [List.getD_eq_getElem?_getD,List.getElem?_eq_getElem U,Option.getD_some] at g i;have b5:=Sz U c0.out;have b4:=Ef U;obtain⟨o,I⟩:=zE (ss[f]);rw [I] at g i b5 b4;clear I;obtain⟨B,K⟩:=o;dsimp only at g i;obtain⟨Q,P,c9,d0⟩:=Zh4 b5 b4 g i;clear b5 b4 g i a9;go_wp2
 refine wp_loop (fun a R=>∃(c:Nat),c<=f/\a.defers=[]/\(a.tmps.size=44/\a.tmps.getD 0 undef=.slice (some ⟨c3,c7,none⟩) d cap/\a.tmps.getD 6 undef=.int .i64 f/\a.tmps.getD 7 undef=.int .i64 c)/\(B,K) ∉ ss.take c/\Ext a1 R)
  (fun a _=>f - (intOf (a.tmps.getD 7 undef)).toNat) ?_ ?_
 ·exact⟨0,by omega,rfl,⟨rfl,rfl,rfl,rfl⟩,by simp,Q0.refl _ _⟩
 rintro⟨L,_⟩ R ⟨c,f0,G,⟨u,n,z,a5⟩,k,F⟩;subst G;obtain⟨M,v⟩:=Z5 u;obtain⟨b,rfl⟩:∃ x,x=M:=⟨_,rfl⟩;have J:L=#[b 0,b 1,b 2,b 3,b 4,b 5,b 6,b 7,b 8,b 9,b 10,b 11,b 12,b 13,b 14,b 15,b 16,b 17,b 18,b 19,b 20,b 21,b 22,b 23,b 24,b 25,b 26,b 27,b 28,b 29,b 30,b 31,b 32,b 33,b 34,b 35,b 36,b 37,b 38,b 39,b 40,b 41,b 42,b 43]:=v;clear v;subst J;change b 0=_ at n;change b 6=_ at z;change b 7=_ at a5;rw [n,z,a5];clear n z a5 u;have y:=Zh k;have l:=Zh F;clear k F;by_cases f2:c<f;case neg=>
  obtain rfl:c=f:=by omega
  have d6:¬ (c:Int)<(c:Int):=by omega
  have C:=Zh (Q.out y.out);have d2:=Zh (j.out.trans l.out);clear Q P y j l;go_wp2;exact⟨⟨c+1,by omega,by omega,C.out,d2.out⟩,nz⟩
 have d6:(c:Int)<(f:Int):=by omega
 have f3:(c:Int)<(d:Int):=by omega
 have f5:(0:Int)<=(f:Int):=by omega
 have f1:(0:Int)<=(c:Int):=by omega
 have b0:c<ss.length:=by omega
 have e2:=l.out.cell_some c9.out id;have e3:=l.out.cell_some d0.out id;have r:=(O.out.ext (j.out.trans l.out)).at b0;rw [p.out] at r;obtain⟨e4,f7,e1,t,e9,g,i⟩:=r;simp only [zV,Option.some.injEq,Addr.mk.injEq,and_true,true_and] at t;obtain⟨⟨rfl,rfl⟩,rfl⟩:=t;rw [List.getD_eq_getElem?_getD,List.getElem?_eq_getElem b0,Option.getD_some] at g i;have b7:ss.take (c+1)=ss.take c++[ss[c]]:=List.take_succ_eq_append_getElem b0;have b3:ss[c]∈ss.take f:=by
  rw [List.mem_take_iff_getElem];exact⟨c,by omega,rfl⟩
 obtain⟨b8,c6⟩:=zE (ss[c]);rw [c6] at g i b7 b3;clear c6;obtain⟨X,c8⟩:=b8;dsimp only at g i;have c1:=Zh b7;have d3:=Zh b3;clear b7 b3;by_cases q:B=X/\K=c8
 ·obtain⟨rfl,rfl⟩:=q;have s:=Y.out;rw [if_neg (P.out d3.out)] at s;subst s;clear c1 Q P;go_wp2
  go_quiet (fail)
  go_wp2;go_ret;exact⟨rfl,(j.out.trans l.out).drewN _⟩
 ·have k:(B,K) ∉ ss.take (c+1):=by
   rw [c1.out,List.mem_append,List.mem_singleton];rintro(S | S)
   ·exact y.out S
   ·simp only [Prod.mk.injEq] at S;exact q S
  have C:=Zh k;clear k Y Q P;by_cases e6:(B:Int)=(X:Int)
  ·have e7:((K:Int) ==(c8:Int))=false:=by simp;omega
   have d7:((B:Int) ==(X:Int))=true:=by simp;omega
   clear q;go_wp2
   go_quiet (fail)
   go_wp2;exact⟨⟨c+1,by omega,by first | trivial | rfl,⟨rfl,rfl,rfl,rfl⟩,C.out,l.out.trans ((Q0.refl _ R).drewN _)⟩,nz⟩
  ·have d7:((B:Int) ==(X:Int))=false:=by simp;omega
   clear q;go_wp2
   go_quiet (fail)
   go_wp2;exact⟨⟨c+1,by omega,by first | trivial | rfl,⟨rfl,rfl,rfl,rfl⟩,C.out,l.out.trans ((Q0.refl _ R).drewN _)⟩,nz⟩
def Df{α:Type}(sz:Nat)(ok:World->α->List Value->Prop)(w:World)(v:Value)(ps:List (α × List Value)):Prop:=
 Rd w v ps.length sz (ps.flatMap (·.2))/\∀ p∈ps,p.2.length=sz/\ok w p.1 p.2
theorem Df.ext{α:Type}{sz:Nat}{ok:World->α->List Value->Prop}(hok:∀ A B x cs,ok A x cs->Ext A B->ok B x cs){A B:World}{v:Value}{ps:List (α × List Value)} (h:Df sz ok A v ps) (ht:Ext A B):Df sz ok B v ps:=
 ⟨h.1.ext ht,fun p hp=>⟨(h.2 p hp).1,hok _ _ _ _ (h.2 p hp).2 ht⟩⟩
theorem Q8u{α:Type}{sz:Nat}{ps:List (α × List Value)} (h:∀ p∈ps,p.2.length=sz) {i j:Nat} (b:i<ps.length) (c:j<sz):(ps.flatMap (·.2))[i*sz+j]?=ps[i].2[j]?:=by
 induction ps generalizing i with
 | nil=>cases b
 | cons p ps ih=>
  have a:=h p zy;rw [List.flatMap_cons];cases i with
  | zero=>rw [Nat.zero_mul,Nat.zero_add,List.getElem?_append_left oz];rfl
  | succ i=>
   rw [Nat.add_mul,Nat.one_mul,List.getElem?_append_right oz,a,show i*sz+sz+j - sz=i*sz+j by omega];exact ih (fun p a=>h p (by simp [a])) (by simpa using b)
theorem Df.at{α:Type}{sz:Nat}{ok:World->α->List Value->Prop}{w:World}{v:Value}{ps:List (α × List Value)} (h:Df sz ok w v ps) {i:Nat} (b:i<ps.length) :
  ∃ g off cap,(0<sz->v=.slice (some ⟨g,off,none⟩) ps.length cap/\g<w.heap.size)/\w.rangeAt g (off+i*sz) ps[i].2/\ok w ps[i].1 ps[i].2/\ps[i].2.length=sz:=by
 obtain⟨⟨r,s,q,cap,o,c⟩,a⟩:=h;obtain⟨g,off,d,f,e⟩:=c oz;subst d;obtain⟨n,l⟩:=a _ (List.getElem_mem b);refine⟨g,off,cap,fun _=>⟨o,f⟩,fun j u hu=>?_,l,n⟩;have k:j<sz:=by
  apply Nat.lt_of_not_le;intro t;rw [List.getElem?_eq_none oz] at hu;cases hu
 have m:i*sz+j<ps.length*sz:=by
  have:=Nat.mul_le_mul_right sz (show i+1<=ps.length by omega);rw [Nat.add_mul,Nat.one_mul] at this;omega
 have:=e (i*sz+j) m;rw [Nat.add_assoc,this,List.getD_eq_getElem?_getD,Q8u (fun p hp=>(a p hp).1) b k,hu];rfl
def Kv(w:World)(p:Wd × Wd)(cs:List Value):Prop:=∃ u v,cs=[u,v]/\Qk w u p.1/\Qk w v p.2
theorem Kv.ext{A B:World}{p:Wd × Wd}{cs:List Value}(h:Kv A p cs)(a:Ext A B):Kv B p cs:=by
 obtain⟨e,f,b,c,d⟩:=h;exact⟨e,f,b,c.ext a,d.ext a⟩
abbrev Fb:=List ((Wd × Wd) × List Value)
abbrev Kx:=Df 2 Kv
def Pq(w:World)(s:Option Wd)(cs:List Value):Prop:=∃ ao n c,cs=[.slice ao n c,.bool s.isNone]/\∀ u,s=some u->Qk w (.slice ao n c) u
theorem Pq.ext{A B:World}{s:Option Wd}{cs:List Value}(h:Pq A s cs)(e:Ext A B):Pq B s cs:=by
 obtain⟨a,f,b,c,d⟩:=h;exact⟨a,f,b,c,fun u hu=>(d u hu).ext e⟩
abbrev Qen:=Df 2 Pq
theorem U5{A B:World}{v:Value}{qs:List ((Wd × Wd) × List Value)} (h:Kx A v qs) (ht:Ext A B):Kx B v qs:=Df.ext (ok:=Kv) (fun _ _ _ _ h ht=>Kv.ext h ht) h ht
theorem Q01{z:Array Value}{n:Nat}{x:Value}(h:x∈(Builtin.zeroCells z n).toList):x∈z.toList:=by
 rw [Array.mem_toList_iff] at h ⊢;unfold Builtin.zeroCells at h;obtain⟨c,a,rfl⟩:=Array.mem_map.1 h;rw [Array.mem_range] at a;have e:0<z.size:=by
  apply Nat.pos_of_ne_zero;intro d;rw [d,Nat.mul_zero] at a;omega
 have b:=Nat.mod_lt c e;rw [getElem!_pos z (c % z.size) b];exact Array.getElem_mem b
theorem Q68{w:World}{g o:Nat}{a:Array Value}{t:TypeId}{m:Nat × Nat}(h:w.heap[g]?=some (.cells a t m)):w.cell? ⟨g,o,none⟩=a[o]?:=by simp [World.cell?,h]
def Vi(K:Value->Prop)(w:World)(v:Value):Prop:=∀ g cur t m,v.ownBlock=some g->w.heap[g]?=some (.cells cur t m)->∀ x∈cur.toList,K x
theorem Vi.nil{K:Value->Prop}(w:World):Vi K w (.slice none 0 0):=fun _ _ _ _ h=>by simp [Value.ownBlock] at h
theorem Vi.keep{K:Value->Prop}{S:Nat->Prop}{A B:World}{v:Value}{base:Nat}{e:TypeId}{sz n:Nat}{xs:List Value}(h:Vi K A v)(f:A.ownsRow base e sz v n xs)(i:Q0 S A B)(c:∀ g,v.ownBlock=some g->¬ S g):Vi K B v:=by
 intro g b k j a d;refine h g b k j a ?_;rw [<-d];exact(i.block g (f.lt g a).2 (c g a)).symm
theorem Q41{K:Value->Prop}{P:Program}{w:World}{base:Nat}{t ty e:TypeId}{i:TypeInfo}{z:Value}(C:P.underlying t=some (.slice e)) (y:P.info? e=some i) (L:i.zero=some z)
  {v:Value} {n:Nat} {xs:List Value} (H:w.ownsRow base e i.size v n xs)
  (a:Addr) (m c:Nat) (l:List Value) (B:l.length=m*i.size) (G:∀ j u,l[j]?=some u->w.cell? (a.add j)=some u) (T:∀ u∈l,u.oneCell'=true)
  (U:n+m<=maxLen) (I:(n+m)*i.bytes<=140737488355328) {v':Value} {Q:World}
  (f:(Builtin.append_ #[t,t] ty #[v,.slice (some a) m c]).run P w=.ok v' Q) (a0:∀ x∈z.cells.toList,K x) (F:∀ x∈l,K x) (E:Vi K w v):Vi K Q v':=by
 have a4:n+m<=9223372036854775807:=by simp only [maxLen] at U;omega
 have M:∀ k,∀ x∈(Builtin.zeroCells z.cells k).toList,K x:=fun k x b=>a0 x (Q01 b);rcases H.2 with ⟨rfl,rfl⟩ | ⟨g,D,p,rfl,a1,o,a3,a2,V,Z⟩
 ·by_cases X:m=0
  ·subst X;have:(Builtin.append_ #[t,t] ty #[.slice none 0 0,.slice (some a) 0 c]).run P w=.ok (.slice none 0 0) w:=by
    simp [Builtin.append_,run_underlying C,sizeOf,typeInfo,y,Builtin.lenOf,Builtin.firstCells,loadCells,loadCellsFrom]
   rw [this] at f;cases f;exact E
  ·have r:=run_append_nil (P:=P) w t ty e i z C y L a m c l B G oz oz (by have d:=I;simp only [Nat.zero_add] at d;omega);rw [r] at f;cases f;intro g p O N o d x b;simp only [Value.ownBlock,Option.some.injEq] at o;subst o;rw [Q3 (A:=w.drew) (n:=w.heap.size) rfl] at d;cases d;simp only [Array.toList_append,List.mem_append] at b;exact b.elim (F x) (M _ x)
 ·by_cases J:n+m<=D
  ·have W:n*i.size+l.length<=p.size:=by rw [B,V,<-Nat.add_mul];exact Nat.mul_le_mul_right _ J
   have r:=run_append_room (P:=P) w t ty e i C y g n D p o a m c l B G T J W;rw [r] at f;cases f;intro S R O N q d x b;simp only [Value.ownBlock,Option.some.injEq] at q;subst q;rw [setRow_heap _ _ _ _ _ _ o] at d;cases d;have s:=E g p _ _ rfl o;simp only [List.mem_append] at b;rcases b with (b | b) | b
   ·exact s x (List.mem_of_mem_take b)
   ·exact F x b
   ·exact s x (List.mem_of_mem_drop b)
  ·have Y:∀ j u,xs[j]?=some u->w.cell? ((⟨g,0,none⟩:Addr).add j)=some u:=H.cells (g:=g) rfl;have r:=run_append_grow (P:=P) w t ty e i z C y L ⟨g,0,none⟩ n D xs H.1 Y a m c l B G oz oz (growslice_fits oz I);rw [r] at f;cases f;intro S R O N q d x b;simp only [Value.ownBlock,Option.some.injEq] at q;subst q;rw [Q3 (A:=w.drew) (n:=w.heap.size) rfl] at d;cases d;simp only [Array.toList_append,List.mem_append] at b;rcases b with (b | b) | b
   ·have s:=E g p _ _ rfl o;have:x∈p.toList.take (n*i.size):=by rw [Z];exact b
    exact s x (List.mem_of_mem_take this)
   ·exact F x b
   ·exact M _ x b
theorem Q3l{K:Value->Prop}{P:Program}{w:World}{ops:Array Oper}{rest:List Oper}{o:Oper}{a:Act}{Q:Exit->Act->World->Prop}(M:o.guard=none)(s x:Operand)(t:TypeId)
  (R:o.op=.call { callee:=.builtin .append,args:=#[s,x],argTypes:=#[t,t] })
  (base:Nat) (e:TypeId) (z:Value) (size g:Nat) (E:P.underlying t=some (.slice e)) (N:(P.info? e).map (fun i=>(i.zero,i.size,i.bytes))=some (some z,size,g))
  (X:z.cells.size=size) (U:0<size)
  (v:Value) (n:Nat) (xs:List Value) (S:a.eval s=v) (C:w.ownsRow base e size v n xs)
  (f:Addr) (m c:Nat) (d:List Value) (V:a.eval x=.slice (some f) m c) (A:d.length=m*size) (B:∀ j u,d[j]?=some u->w.cell? (f.add j)=some u) (l:∀ u∈d,u.oneCell'=true)
  (q:n+m<=maxLen) (r:(n+m)*g<=140737488355328) (L:base<=w.heap.size) (W:∀ x∈z.cells.toList,K x) (O:∀ x∈d,K x) (I:Vi K w v)
  (h:∀ ao c' w',w'.ownsRow base e size (.slice ao (n+m) c') (n+m) (xs++d)->Q0 (fun b=>v.ownBlock=some b) w w'->Vi K w' (.slice ao (n+m) c')->wpList P ops Q rest (a.put o.dst (.slice ao (n+m) c')) w'):wpList P ops Q (o::rest) a w:=by
 obtain⟨i,y,F,T,J⟩:=info_parts N;subst T;subst J;refine wpList_plain M fun K hK=>?_
 obtain⟨Z,w',D,p,G,Y⟩:=run_append_own (P:=P) w base t o.type e i z _ _ E y F rfl rfl X U v n xs C f m c d A B l q r L;have H:=Q41 E y F C f m c d A B l q r D W O I;unfold Oper.wp execOp;simp only [R,resolve,invoke,builtin,Sem.run_bind,Sem.run_pure,Result.andThen_ok,List.map_toArray,List.map_cons,List.map_nil,S,V,D];obtain⟨ao,c',rfl⟩:=Qu p;exact hK _ _ (h ao c' w' p ((Q0.refl _ w).grown G (fun k e=>.inr e)) H)
def Bg(v:Value):Prop:=∃ ao n c,v=.slice ao n c
theorem Q5m{w:World}{v u:Value}{base:Nat}{e:TypeId}{sz n:Nat}{xs:List Value}{ws:Wd}(q:Qk w u ws)(p:Vi Bg w v)(o:w.ownsRow base e sz v n xs):Zj (fun b=>¬ v.ownBlock=some b) u:=by
 rintro k B A x rfl g d;obtain⟨t,y,a,r,_⟩:=q;simp only [zV] at a;obtain⟨rfl,rfl,rfl⟩:=a;obtain⟨⟨_,_,_,_,a,l⟩,_⟩:=r;cases a;obtain⟨z,C,a,_,m⟩:=l g;cases a;obtain⟨j,f⟩:=Vb o d;have c:=m 0 oz;cases ws with
 | nil=>cases g
 | cons s ws=>
  rw [Nat.add_zero,Q68 f] at c;obtain⟨_,_,_,i⟩:=p k j _ _ d f _ (Array.mem_toList_iff.2 (Array.mem_of_getElem? c));rw [Kt] at i;cases i
theorem Qk.row{A B:World}{v u:Value}{base:Nat}{e:TypeId}{sz n:Nat}{xs:List Value}{ws:Wd}(h:Qk A u ws)(hr:Vi Bg A v)(ho:A.ownsRow base e sz v n xs)(ht:Q0 (fun b=>v.ownBlock=some b) A B):Qk B u ws:=
 h.keepS (ht.mono fun _ _ hb hn=>hn hb) (Q5m h hr ho)
theorem Kv.row{A B:World}{v:Value}{base:Nat}{e:TypeId}{sz n:Nat}{xs cs:List Value}{p:Wd × Wd}(h:Kv A p cs)(c:Vi Bg A v)(a:A.ownsRow base e sz v n xs)(d:Q0 (fun b=>v.ownBlock=some b) A B):Kv B p cs:=by
 obtain⟨j,v,f,g,i⟩:=h;exact⟨j,v,f,g.row c a d,i.row c a d⟩
def Xp(DS:List Wd)(w:Wd):Nat->Option Nat
 | 0=>none
 | n+1=>match Xp DS w n with
  | some j=>some j
  | none=>if DS.getD n []=w then some n else none
def Gj(DS:List Wd)(t:List UInt8):Nat->Option Nat
 | 0=>none
 | n+1=>match Gj DS t n with
  | some j=>some j
  | none=>if Y9 (DS.getD n [])=t then some n else none
def Hq(PL:List Wd)(t:List UInt8):Nat->Option Nat
 | 0=>none
 | n+1=>if Y9 (PL.getD n [])=t then some n else Hq PL t n
def Fu(DS:List Wd):Prop:=∀ u∈DS,∀ s∈u,Qh s
theorem Fz{DS:List Wd}(h:Fu DS)(i:Nat):∀ s∈DS.getD i [],Qh s:=by
 rw [List.getD_eq_getElem?_getD];cases e:DS[i]? with
 | none=>intro s a;cases a
 | some u=>exact h u (List.mem_of_getElem? e)
theorem Q14{u v:Wd}(hu:∀ s∈u,Qh s)(hv:∀ s∈v,Qh s):Y9 u=Y9 v↔u=v:=⟨Er hu hv,fun h=>by rw [h]⟩
theorem Nh{DS:List Wd}(hD:Fu DS){w:Wd}(hw:∀ s∈w,Qh s):∀ n,Gj DS (Y9 w) n=Xp DS w n
 | 0=>rfl
 | n+1=>by
  unfold Gj Xp;rw [Nh hD hw n];cases Xp DS w n with
  | some j=>rfl
  | none=>
   simp only;by_cases h:DS.getD n []=w
   ·rw [if_pos h,if_pos (by rw [h])]
   ·rw [if_neg h,if_neg (fun e=>h ((Q14 (Fz hD n) hw).1 e))]
theorem Th{PL:List Wd}(hD:Fu PL){w:Wd}(hw:∀ s∈w,Qh s):∀ n,(match Hq PL (Y9 w) n with | some j=>(j:Int) | none=>-1)=Yq PL w n
 | 0=>rfl
 | n+1=>by
  unfold Hq Yq;by_cases h:PL.getD n []=w
  ·rw [if_pos h,if_pos (by rw [h])]
  ·rw [if_neg h,if_neg (fun e=>h ((Q14 (Fz hD n) hw).1 e))];exact Th hD hw n
theorem Pm{DS:List Wd}{w:Wd}:∀ {n j:Nat},Xp DS w n=some j->j<n/\DS.getD j []=w/\∀ i,i<j->DS.getD i []≠w
 | 0,_,h=>by cases h
 | n + 1,j,h=>by
  unfold Xp at h;cases e:Xp DS w n with
  | some i=>
   rw [e] at h;cases h;obtain⟨h1,h2,h3⟩:=Pm e;exact⟨by omega,h2,h3⟩
  | none=>
   rw [e] at h;simp only at h
   split at h
   ·rename_i h1
    cases h;refine⟨by omega,h1,fun i hi=>?_⟩;have:∀ m,m<=n->Xp DS w m=none->∀ i,i<m->DS.getD i []≠w:=by
     intro m
     induction m with
     | zero=>intro _ _ i hi;omega
     | succ m ih=>
      intro hm he i hi;unfold Xp at he;cases e2:Xp DS w m with
      | some q=>rw [e2] at he;cases he
      | none=>
       rw [e2] at he;simp only at he;by_cases him:i=m
       ·subst him;intro h5;rw [if_pos h5] at he;cases he
       ·exact ih oz e2 i oz
    exact this n (Nat.le_refl _) e i hi
   ·cases h
theorem Nd{DS:List Wd}{w:Wd}:∀ {n:Nat},Xp DS w n=none->∀ i,i<n->DS.getD i []≠w
 | 0,_,i,hi=>by omega
 | n+1,h,i,hi=>by
  unfold Xp at h;cases e:Xp DS w n with
  | some q=>rw [e] at h;cases h
  | none=>
   rw [e] at h;simp only at h;by_cases him:i=n
   ·subst him;intro h5;rw [if_pos h5] at h;cases h
   ·exact Nd e i oz
def Ze(DS:List Wd)(k:Nat):Nat:=(Xp DS (DS.getD k []) k).getD k
def Ui(DS:List Wd):List Nat:=(List.range DS.length).map (Ze DS)
theorem Gp(DS:List Wd)(k:Nat):Ze DS k<=k/\DS.getD (Ze DS k) []=DS.getD k []/\∀ i,i<Ze DS k->DS.getD i []≠DS.getD k []:=by
 unfold Ze;cases e:Xp DS (DS.getD k []) k with
 | some j=>
  obtain⟨c,a,b⟩:=Pm e;exact⟨by simp;omega,a,b⟩
 | none=>exact⟨Nat.le_refl _,rfl,Nd e⟩
theorem Mz{DS:List Wd}{k j:Nat}(_:j<=k)(c:DS.getD j []=DS.getD k [])(d:∀ i,i<j->DS.getD i []≠DS.getD k []):j=Ze DS k:=by
 obtain⟨g,e,f⟩:=Gp DS k;by_cases a:j<Ze DS k
 ·exact absurd c (f j a)
 ·by_cases b:Ze DS k<j
  ·exact absurd e (d _ b)
  ·omega
def Gy(DS:List Wd)(n:Nat)(t:List UInt8):Option Int:=match Gj DS t n with
 | some j=>some (j:Int)
 | none=>none
theorem Q7g{DS:List Wd}{n:Nat}{t:List UInt8}(h:Gy DS n t=none):Gj DS t n=none:=by
 unfold Gy at h;cases e:Gj DS t n with
 | some j=>rw [e] at h;cases h
 | none=>rfl
theorem Qa6{DS:List Wd}{n:Nat}(h:Gy DS n (Y9 (DS.getD n []))=none) (y:List UInt8):Gy DS (n+1) y=if y=Y9 (DS.getD n []) then some (n:Int) else Gy DS n y:=by
 have b:=Q7g h;unfold Gy;conv=>lhs;unfold Gj
 by_cases a:y=Y9 (DS.getD n [])
 ·subst a;rw [if_pos rfl,b];simp only;rw [if_pos trivial]
 ·rw [if_neg a];cases Gj DS y n with
  | some j=>rfl
  | none=>simp only;rw [if_neg (fun e=>a e.symm)]
theorem Q8a{DS:List Wd}{n:Nat}{j:Int}(h:Gy DS n (Y9 (DS.getD n []))=some j) (y:List UInt8):Gy DS (n+1) y=Gy DS n y:=by
 unfold Gy at *;conv=>lhs;unfold Gj
 cases e:Gj DS y n with
 | some j=>rfl
 | none=>
  simp only;rw [if_neg];intro a;rw [a,e] at h;cases h
theorem Qcl{DS:List Wd}(a:Fu DS)(n:Nat):(match Gy DS n (Y9 (DS.getD n [])) with | some j=>j | none=>(n:Int))=(Ze DS n:Int):=by
 unfold Gy Ze;rw [Nh a (Fz a n)];cases Xp DS (DS.getD n []) n <;> rfl
def Mm(PL:List Wd)(n:Nat)(t:List UInt8):Option Int:=match Hq PL t n with
 | some j=>some (j:Int)
 | none=>none
theorem Qbb(PL:List Wd)(n:Nat)(y:List UInt8):Mm PL (n+1) y=if y=Y9 (PL.getD n []) then some (n:Int) else Mm PL n y:=by
 unfold Mm;conv=>lhs;unfold Hq
 by_cases a:y=Y9 (PL.getD n [])
 ·rw [if_pos a,if_pos a.symm]
 ·rw [if_neg a,if_neg (fun e=>a e.symm)]
theorem Q84{PL:List Wd}(a:Fu PL){w:Wd}(b:∀ s∈w,Qh s)(n:Nat):Yq PL w n=(match Mm PL n (Y9 w) with | some j=>j | none=>-1):=by
 rw [<-Th a b n];unfold Mm;cases Hq PL (Y9 w) n <;> rfl
end Go.Proofs.YtejenndedjabhaaGreatDoor
