/- law.run (printed by genlrun.py). -/
import Derived.Test.YtfdlhlghcbeblaaGreatDoorQ08
import Derived.Test.YtfdlhlghcbeblaaGreatDoorQ10
set_option maxRecDepth 100000
set_option maxHeartbeats 16000000
namespace Go.Proofs.YtfdlhlghcbeblaaGreatDoor
open Go.RowKit Go.Ab
attribute [local go_sem] Oper.semAt_some Zi Qz
theorem Qdu{w:World}{l:Q5}{cs:List Value}{vo:Option Addr}{vn vc:Nat}(a8:Zf w l cs) :
  Calls Tryz.prog 201 #[.agg cs.toArray,.slice vo vn vc] w fun e w'=>∃ Bk Bm,e=.returned (.func (.func 225) #[] #[.pointer (some ⟨w.heap.size+1,0,none⟩),.pointer (some ⟨w.heap.size,0,none⟩),.pointer (some ⟨Bk,0,none⟩),.pointer (some ⟨Bm,0,none⟩)]) /\
   LBx w' w.heap.size l cs/\Jf w' (w.heap.size+1) (.slice vo vn vc)/\w'.heap[Bk]?=some (.cells #[.int .i64 (l.ifs.length:Int)] 3 (0,0))/\w'.heap[Bm]?=some (.cells #[.int .i64 (l.outs.length:Int)] 3 (0,0))/\w.heap.size<=Bk/\w.heap.size<=Bm/\Ext w w':=by
 obtain⟨b6,a9,b9,b1,b4,a0,a2,b7,Y,a4,b0,c0,b2,b5,a1,a3,b8,Z,a5,H,p,G,J,j,I,b3,rfl,W,d1,d2,c5,d0,c9,c7,c8,c1,c2,c6,d3,d4,d5,d6,d7⟩:=Zr a8;rw [c1.out,c2.out];clear a8;go_enter Tryz.func201,Tryz.ntmps201;go_upto_region 1 with (fail)
 obtain⟨c,z⟩:=zE ((w.alloc (.cells #[.string b6,.int .i64 a9,.int .u32 (b9:Int),.int .u32 (b1:Int),.bool b4,.int .i64 a0,.int .i64 a2,.slice b7 Y a4,.int .i64 b0,.int .u32 (c0:Int),.int .u32 (b2:Int),.bool b5,.int .i64 a1,.int .i64 a3,.slice b8 Z a5,.slice H p G,.slice J j I,.int .i64 b3] 102)).alloc (.cells #[.slice vo vn vc] 99));have F:Ext w c:=by rw [<-z];exact((Q0.refl _ w).alloc _).alloc _
 have R:c.heap[w.heap.size]?=some (.cells #[.string b6,.int .i64 a9,.int .u32 (b9:Int),.int .u32 (b1:Int),.bool b4,.int .i64 a0,.int .i64 a2,.slice b7 Y a4,.int .i64 b0,.int .u32 (c0:Int),.int .u32 (b2:Int),.bool b5,.int .i64 a1,.int .i64 a3,.slice b8 Z a5,.slice H p G,.slice J j I,.int .i64 b3] 102 (0,0)):=by rw [<-z];exact Q8 (Q3 rfl)
 have U:Jf c (w.heap.size+1) (.slice vo vn vc):=by rw [<-z];exact Q3 zy
 have T:c.heap.size=w.heap.size+2:=by rw [<-z];simp
 rw [z];clear z;obtain⟨a,Q⟩:=zE w.heap.size;rw [Q] at R U T ⊢;obtain⟨f,V,L,X⟩:=Zh4 T Q R U;have a7:∀(d:World),Q0 (fun b=>c.heap.size<=b) c d->d.cell? ⟨a,15,none⟩=some (.slice H p G)/\d.cell? ⟨a,16,none⟩=some (.slice J j I):=by
  intro d c3;have a6:=c3.heap L.out (by have:=f.out;omega);exact⟨cell_of_row _ _ 15 _ _ _ a6,cell_of_row _ _ 16 _ _ _ a6⟩
 have q:=Zh a7;clear a7 R U T Q;refine Z0 (S:=fun d=>d.cell? ⟨a,15,none⟩=some (.slice H p G)/\d.cell? ⟨a,16,none⟩=some (.slice J j I)) [] kz (q.out _ (Q0.drew (Q0.refl _ c))) ?_;intro y;refine tE 0 7 y ?_;refine tE 1 8 y ?_;refine tE 2 9 y ?_;refine tE 3 10 y ?_;refine tE 4 11 y ?_;refine tE 5 12 y ?_;refine rE [6,7] ?_;refine Q1.cons rfl (fun K hK=>?_) (Q1.cons rfl (fun K hK=>?_) Q1.nil)
 ·refine iw rfl ?_;go_simp;have t:Ext c ((c.drew).alloc (.cells #[.int .i64 0] 3)):=Q0.alloc (Q0.drew (Q0.refl _ c)) _;refine hK.out _ _ (q.out _ (Ext.of t)) (fun hS2=>?_);clear hK K;try simp only [Act.put,pq]
  refine rE [7] ?_;refine Q1.cons rfl (fun K hK=>?_) Q1.nil;refine iw rfl ?_;go_simp;have A:Ext c ((c.drew.alloc (.cells #[.int .i64 0] 3)).alloc (.cells #[.int .i64 0] 3)):=Q0.alloc (t) _;refine hK.out _ _ (q.out _ (Ext.of A)) (fun hS3=>?_);clear hK K;try simp only [Act.put,pq]
  rw [f.out,show a+2+1=a+3 from rfl];obtain⟨g,n⟩:=zE (((c.alloc (.cells #[.int .i64 0] 3)).alloc (.cells #[.int .i64 0] 3)).drew);have r:Ext c g:=by rw [<-n];exact(((Q0.refl _ c).alloc _).alloc _).drew
  have v:g.heap[a+2]?=some (.cells #[.int .i64 0] 3 (0,0)):=by rw [<-n];exact Y4 (Q8 (Q3 f.out.symm))
  have x:g.heap[a+3]?=some (.cells #[.int .i64 0] 3 (0,0)):=by rw [<-n];exact Y4 (Q3 (by simp [f.out]))
  rw [n];clear n hS2 hS3 t A;refine rE [8] ?_;refine Q1.cons rfl (fun K hK=>?_) Q1.nil;refine iw rfl ?_;have M:=cell_of_one v;have O:=free_of_one v;go_simp;have i:Q0 (fun b=>b=a+2) g (g.setCell ⟨a+2,0,none⟩ (.int .i64 (p:Int))):=Q0.set1 g (a+2) 0 _;have m:=i.heap x oz;have u:=Jq (.int .i64 (p:Int)) v;refine hK.out _ _ (q.out _ ((Ext.of r).trans (i.mono (fun b hb e=>by have:=f.out;omega)))) (fun hS4=>?_);clear hK K M O
  (try change Qs _ _ _ _ _ _ _ _ (Act.put _ none _) _)
  (try simp only [Act.put])
  obtain⟨o,D⟩:=zE (g.setCell ⟨a+2,0,none⟩ (.int .i64 (p:Int)));rw [D] at i m u hS4 ⊢;clear D;refine rE [9] ?_;refine Q1.cons rfl (fun K hK=>?_) Q1.nil;refine iw rfl ?_;have N:=cell_of_one m;have P:=free_of_one m;go_simp;have s:Q0 (fun b=>b=a+3) o (o.setCell ⟨a+3,0,none⟩ (.int .i64 (j:Int))):=Q0.set1 o (a+3) 0 _;have B:=s.heap u oz;have C:=Jq (.int .i64 (j:Int)) m;refine hK.out _ _ (q.out _ (((Ext.of r).trans (i.mono (fun b hb e=>by have:=f.out;omega))).trans (s.mono (fun b hb e=>by have:=f.out;omega)))) (fun _=>?_);clear hK K N P
  (try change Qs _ _ _ _ _ _ _ _ (Act.put _ none _) _)
  (try simp only [Act.put])
  refine Ql kz ?_ _;have k:Ext c (o.setCell ⟨a+3,0,none⟩ (.int .i64 (j:Int))):=Q0.after (Q0.after r i (fun b hb e=>by have:=f.out;omega)) s (fun b hb e=>by have:=f.out;omega);obtain⟨c4,E⟩:=zE (o.setCell ⟨a+3,0,none⟩ (.int .i64 (j:Int)));rw [E] at B C k ⊢;clear E i s m u hS4 r v x;go_wp2;go_ret;refine⟨a+2,a+3,?_⟩;rw [V.out];exact⟨rfl,⟨k.keep L.out,W.out.ext (F.trans k)⟩,k.keep X.out,B,C,by omega,by omega,F.trans k⟩
 ·refine iw rfl ?_;go_simp;have t:Ext c ((c.drew).alloc (.cells #[.int .i64 0] 3)):=Q0.alloc (Q0.drew (Q0.refl _ c)) _;refine hK.out _ _ (q.out _ (Ext.of t)) (fun hS2=>?_);clear hK K;try simp only [Act.put,pq]
  refine rE [6] ?_;refine Q1.cons rfl (fun K hK=>?_) Q1.nil;refine iw rfl ?_;go_simp;have A:Ext c ((c.drew.alloc (.cells #[.int .i64 0] 3)).alloc (.cells #[.int .i64 0] 3)):=Q0.alloc (t) _;refine hK.out _ _ (q.out _ (Ext.of A)) (fun hS3=>?_);clear hK K;try simp only [Act.put,pq]
  rw [f.out,show a+2+1=a+3 from rfl];obtain⟨g,n⟩:=zE (((c.alloc (.cells #[.int .i64 0] 3)).alloc (.cells #[.int .i64 0] 3)).drew);have r:Ext c g:=by rw [<-n];exact(((Q0.refl _ c).alloc _).alloc _).drew
  have v:g.heap[a+2]?=some (.cells #[.int .i64 0] 3 (0,0)):=by rw [<-n];exact Y4 (Q8 (Q3 f.out.symm))
  have x:g.heap[a+3]?=some (.cells #[.int .i64 0] 3 (0,0)):=by rw [<-n];exact Y4 (Q3 (by simp [f.out]))
  rw [n];clear n hS2 hS3 t A;refine rE [8] ?_;refine Q1.cons rfl (fun K hK=>?_) Q1.nil;refine iw rfl ?_;have M:=cell_of_one x;have O:=free_of_one x;go_simp;have i:Q0 (fun b=>b=a+3) g (g.setCell ⟨a+3,0,none⟩ (.int .i64 (p:Int))):=Q0.set1 g (a+3) 0 _;have m:=i.heap v oz;have u:=Jq (.int .i64 (p:Int)) x;refine hK.out _ _ (q.out _ ((Ext.of r).trans (i.mono (fun b hb e=>by have:=f.out;omega)))) (fun hS4=>?_);clear hK K M O
  (try change Qs _ _ _ _ _ _ _ _ (Act.put _ none _) _)
  (try simp only [Act.put])
  obtain⟨o,D⟩:=zE (g.setCell ⟨a+3,0,none⟩ (.int .i64 (p:Int)));rw [D] at i m u hS4 ⊢;clear D;refine rE [9] ?_;refine Q1.cons rfl (fun K hK=>?_) Q1.nil;refine iw rfl ?_;have N:=cell_of_one m;have P:=free_of_one m;go_simp;have s:Q0 (fun b=>b=a+2) o (o.setCell ⟨a+2,0,none⟩ (.int .i64 (j:Int))):=Q0.set1 o (a+2) 0 _;have B:=s.heap u oz;have C:=Jq (.int .i64 (j:Int)) m;refine hK.out _ _ (q.out _ (((Ext.of r).trans (i.mono (fun b hb e=>by have:=f.out;omega))).trans (s.mono (fun b hb e=>by have:=f.out;omega)))) (fun _=>?_);clear hK K N P
  (try change Qs _ _ _ _ _ _ _ _ (Act.put _ none _) _)
  (try simp only [Act.put])
  refine Ql kz ?_ _;have k:Ext c (o.setCell ⟨a+2,0,none⟩ (.int .i64 (j:Int))):=Q0.after (Q0.after r i (fun b hb e=>by have:=f.out;omega)) s (fun b hb e=>by have:=f.out;omega);obtain⟨c4,E⟩:=zE (o.setCell ⟨a+2,0,none⟩ (.int .i64 (j:Int)));rw [E] at B C k ⊢;clear E i s m u hS4 r v x;go_wp2;go_ret;refine⟨a+3,a+2,?_⟩;rw [V.out];exact⟨rfl,⟨k.keep L.out,W.out.ext (F.trans k)⟩,k.keep X.out,B,C,by omega,by omega,F.trans k⟩
theorem Qby{w:World}{BW BL i j:Nat}{l:Q5}{cs:List Value}{vo:Option Addr}{vc:Nat}{ws:Wd}{K:Nat->Prop}(a:Yg l=true)(g:ws.length<=32)(d:ws.length<=vc)(e:Qw K (.slice vo ws.length vc))
  (c:∀ b,K b->b<w.heap.size) (f:∀ W,Q0 (fun b=>¬ K b) w W->Q1q W BW BL i j l cs vo vc ws) :
  ∃ m,Gt Tryz.prog 225 #[.pointer (some ⟨BW,0,none⟩),.pointer (some ⟨BL,0,none⟩),.pointer (some ⟨i,0,none⟩),.pointer (some ⟨j,0,none⟩)] (Xr m) (Q3z m) (Qt l ws) K w:=by
 obtain⟨_,_,_,⟨o,p⟩,_⟩:=Uv a;by_cases k:l.mode=1
 ·exact⟨9,Qfe a k g d e c f⟩
 by_cases n:l.mode=2
 ·exact⟨2,Q8x a n g d e c f⟩
 ·exact⟨2,Qc6 a oz g d e c f⟩
section
variable {α:Type} {H:List α->Nat->Bool} {P:List α->List α} {k m:Nat}
theorem Fn(w:List α):∀(n i:Nat) (d:List α),(Vw H P k w n i d).length<=n
 | 0,_,_=>by simp [Vw]
 | n+1,i,d=>by
  unfold Vw
  split
  ·rw [List.length_cons];split
   ·have:=Fn w n (i+1) (d++P ((w.drop i).take k)++(w.drop i).take 1);omega
   ·have:=Fn w n (i+k) (d++P ((w.drop i).take k));omega
  ·have:=Fn w n (i+1) (d++(w.drop i).take 1);omega
theorem Fv:∀(n:Nat) (w:List α) (i:Nat),(Vm H P k m n w i).length<=n
 | 0,_,_=>by simp [Vm]
 | n+1,w,i=>by
  unfold Vm
  split
  ·simp
  ·split
   ·rw [List.length_cons];have:=Fv n (Ku P k w i) (i+m+(if k=0 then 1 else 0));omega
   ·have:=Fv n w (i+1);omega
theorem Md:∀(n:Nat) (w:List α) (i:Nat),(Kj H P k n w i).length<=n
 | 0,_,_=>by simp [Kj]
 | n+1,_,0=>by simp [Kj]
 | n+1,w,i+1=>by
  unfold Kj
  split
  ·rw [List.length_cons];have:=Md n (Ku P k w i) (i+1 - max k 1);omega
  ·have:=Md n w i;omega
end
theorem Q3u(l:Q5)(ws:Wd):(Qt l ws).length<=ws.length+1:=by
 unfold Qt
 split
 ·exact Fn _ _ _ _
 ·split
  ·exact Fv _ _ _
  ·exact Md _ _ _
def Zl(w:World)(v:Value)(u:Wd):Prop:=∃ ao c,v=.slice ao u.length c/\Q6 w (.slice ao u.length c) u/\u.length<=c
def Yk(w:World):List Value->List Wd->Prop
 | [],[]=>True
 | v::vs,u::us=>Zl w v u/\Yk w vs us
 | _,_=>False
theorem Zl.ext{A B:World}{v:Value}{u:Wd}(h:Zl A v u)(f:Ext A B):Zl B v u:=by
 obtain⟨a,b,c,d,e⟩:=h;exact⟨a,b,c,d.ext f,e⟩
theorem Yk.ext{A B:World}:∀ {vs:List Value} {us:List Wd},Yk A vs us->Ext A B->Yk B vs us
 | [],[],_,_=>trivial
 | _::_,_::_,⟨h1,h2⟩,ht=>⟨h1.ext ht,h2.ext ht⟩
theorem Yk.snoc{w:World}{v:Value}{u:Wd}:∀ {vs:List Value} {us:List Wd},Yk w vs us->Zl w v u->Yk w (vs++[v]) (us++[u])
 | [],[],_,h=>⟨h,trivial⟩
 | _::_,_::_,⟨h1,h2⟩,h=>⟨h1,h2.snoc h⟩
theorem Yk.length{w:World}:∀ {vs:List Value} {us:List Wd},Yk w vs us->vs.length=us.length
 | [],[],_=>rfl
 | _::_,_::_,⟨_,h2⟩=>by simp [h2.length]
theorem Yk.get{w:World}:∀ {vs:List Value} {us:List Wd},Yk w vs us->∀ i,i<us.length->Zl w (vs.getD i undef) (us.getD i [])
 | [],[],_,i,h=>by simp at h
 | _::_,_::_,⟨h1,_⟩,0,_=>h1
 | _::_,_::_,⟨_,h2⟩,i+1,h=>h2.get i (by simpa using h)
def U9{α:Type}(sz:Nat)(ok:World->α->List Value->Prop)(w:World)(v:Value)(ps:List (α × List Value)):Prop:=
 Rd w v ps.length sz (ps.flatMap (·.2))/\∀ p∈ps,p.2.length=sz/\ok w p.1 p.2
theorem U9.ext{α:Type}{sz:Nat}{ok:World->α->List Value->Prop}(hok:∀ A B x cs,ok A x cs->Ext A B->ok B x cs){A B:World}{v:Value}{ps:List (α × List Value)} (h:U9 sz ok A v ps) (ht:Ext A B):U9 sz ok B v ps:=
 ⟨h.1.ext ht,fun p hp=>⟨(h.2 p hp).1,hok _ _ _ _ (h.2 p hp).2 ht⟩⟩
theorem Pc{α:Type}{a:Nat}{ps:List (α × List Value)} (h:∀ p∈ps,p.2.length=a) {i j:Nat} (c:i<ps.length) (d:j<a):(ps.flatMap (·.2))[i*a+j]?=ps[i].2[j]?:=by
 induction ps generalizing i with
 | nil=>cases c
 | cons p ps ih=>
  have b:=h p zy;rw [List.flatMap_cons];cases i with
  | zero=>rw [Nat.zero_mul,Nat.zero_add,List.getElem?_append_left oz];rfl
  | succ i=>
   rw [Nat.add_mul,Nat.one_mul,List.getElem?_append_right oz,b,show i*a+a+j - a=i*a+j by omega];exact ih (fun p b=>h p (by simp [b])) (by simpa using c)
theorem U9.at{α:Type}{a:Nat}{ok:World->α->List Value->Prop}{w:World}{v:Value}{ps:List (α × List Value)} (h:U9 a ok w v ps) {i:Nat} (c:i<ps.length) :
  ∃ g off cap,(0<a->v=.slice (some ⟨g,off,none⟩) ps.length cap/\g<w.heap.size)/\w.rangeAt g (off+i*a) ps[i].2/\ok w ps[i].1 ps[i].2/\ps[i].2.length=a:=by
 obtain⟨⟨s,t,r,cap,q,d⟩,b⟩:=h;obtain⟨g,off,e,k,f⟩:=d oz;subst e;obtain⟨o,m⟩:=b _ (List.getElem_mem c);refine⟨g,off,cap,fun _=>⟨q,k⟩,fun j u hu=>?_,m,o⟩;have l:j<a:=by
  apply Nat.lt_of_not_le;intro x;rw [List.getElem?_eq_none oz] at hu;cases hu
 have n:i*a+j<ps.length*a:=by
  have:=Nat.mul_le_mul_right a (show i+1<=ps.length by omega);rw [Nat.add_mul,Nat.one_mul] at this;omega
 have:=f (i*a+j) n;rw [Nat.add_assoc,this,List.getD_eq_getElem?_getD,Pc (fun p hp=>(b p hp).1) c l,hu];rfl
def Hz(w:World)(p:Wd × Wd)(cs:List Value):Prop:=∃ u v,cs=[u,v]/\Zl w u p.1/\Zl w v p.2
theorem Hz.ext{A B:World}{p:Wd × Wd}{cs:List Value}(h:Hz A p cs)(a:Ext A B):Hz B p cs:=by
 obtain⟨e,f,b,c,d⟩:=h;exact⟨e,f,b,c.ext a,d.ext a⟩
abbrev Z7:=U9 2 Hz
def Vg(w:World)(s:Option Wd)(cs:List Value):Prop:=∃ ao n c,cs=[.slice ao n c,.bool s.isNone]/\∀ u,s=some u->Zl w (.slice ao n c) u
theorem Vg.ext{A B:World}{s:Option Wd}{cs:List Value}(h:Vg A s cs)(e:Ext A B):Vg B s cs:=by
 obtain⟨a,f,b,c,d⟩:=h;exact⟨a,f,b,c,fun u hu=>(d u hu).ext e⟩
abbrev Xd:=U9 2 Vg
theorem Qg{A B:World}{v:Value}{qs:List ((Wd × Wd) × List Value)} (h:Z7 A v qs) (ht:Ext A B):Z7 B v qs:=U9.ext (ok:=Hz) (fun _ _ _ _ h ht=>Hz.ext h ht) h ht
theorem Tv{A B:World}{v:Value}{qs:List (Option Wd × List Value)} (h:Xd A v qs) (ht:Ext A B):Xd B v qs:=U9.ext (ok:=Vg) (fun _ _ _ _ h ht=>Vg.ext h ht) h ht
theorem Qbh{l:Q5}{ws:Wd}(h:X9 l ws=0):trE l ws=0\/trE l ws=11:=by
 unfold trE;rw [if_pos h];split
 ·exact .inr rfl
 ·exact .inl rfl
theorem Qfm{l:Q5}{ws:Wd}(h:X9 l ws≠0):trE l ws≠0:=by
 unfold trE;rw [if_neg h];exact h
theorem Rh{l:Q5}{ws:Wd}(h:trE l ws=0):X9 l ws=0:=by
 apply Decidable.byContradiction;intro a;exact Qfm a h
theorem Q0h{l:Q5}{ws:Wd}(h:trE l ws=0):X8 (Qt l ws)=false:=by
 have a:=Rh h;unfold trE at h;rw [if_pos a] at h;cases hl:X8 (Qt l ws) with
 | false=>rfl
 | true=>rw [hl,if_pos rfl] at h;cases h
theorem Ej{t:List (Nat × Wd)} (h:X8 t=false) {x:Nat × Wd} (a:x∈t):x.2.length<=32:=by
 unfold X8 at h;rw [List.any_eq_false] at h;have:=h x a
 simpa using this
theorem Fe{A:World}{p:Addr}{v:Value}(h:A.cell? p=some v):∃ o,A.heap[p.block]?=some o/\o.isCells=true:=by
 unfold World.cell? at h
 split at h
 ·exact⟨_,by assumption,rfl⟩
 ·cases h
theorem Q94{base:Nat}{A B:World}(c:Q0 (Go.Ab.Shut base A) A B) {p:Addr} {v:Value} (h:A.cell? p=some v):B.cell? p=some v:=by
 obtain⟨d,a,b⟩:=Fe h;exact c.cell_some h (Go.Ab.Shut.not a b)
theorem Rd.shut{base:Nat}{A B:World}(a:Q0 (Go.Ab.Shut base A) A B) {v:Value} {n b:Nat} {xs:List Value} (h:Rd A v n b xs):Rd B v n b xs:=by
 obtain⟨f,g,c,d,o,i⟩:=h;refine⟨f,g,c,d,o,fun hn=>?_⟩;obtain⟨e,p,k,m,l⟩:=i hn;exact⟨e,p,k,Nat.lt_of_lt_of_le m a.size,fun j hj=>Q94 a (l j hj)⟩
theorem Rd.nocells{r:Nat}{A B:World}(d:Q0 (fun b=>b=r) A B) (u:∃ o,A.heap[r]?=some o/\o.isCells=false) {v:Value} {n g:Nat} {xs:List Value} (h:Rd A v n g xs):Rd B v n g xs:=by
 obtain⟨m,p,i,k,w,q⟩:=h;refine⟨m,p,i,k,w,fun hn=>?_⟩;obtain⟨l,x,s,t,c⟩:=q hn;refine⟨l,x,s,Nat.lt_of_lt_of_le t d.size,fun j hj=>d.cell_some (c j hj) (fun e=>?_)⟩;obtain⟨o,a,f⟩:=Fe (c j hj);obtain⟨C,y,z⟩:=u;simp only at e a;rw [e,y] at a;cases a;rw [z] at f;cases f
theorem Wq{base0:Nat}{A B:World}{base:Nat}{e:TypeId}{sz:Nat}{v:Value}{n:Nat}{xs:List Value}(h:A.ownsRow base e sz v n xs)(ht:Q0 (Go.Ab.Shut base0 A) A B):B.ownsRow base e sz v n xs:=
 Q3d h ht fun _ _ hg ho=>Go.Ab.Shut.not hg ho
theorem Jp{W:World}{f i:Nat}{b c:TypeId}{r s o p:Nat}{d e:Value}{t u:List Value}(j:W.ownsRow f b r d o t)(k:W.ownsRow i c s e p u)(l:b≠c):∀ g,d.ownBlock=some g->e.ownBlock≠some g:=by
 intro g m n;obtain⟨v,q⟩:=Zg j m;obtain⟨w,a⟩:=Zg k n;rw [q] at a;simp only [Option.some.injEq,Obj.cells.injEq] at a;exact l a.2.1
theorem Gk{W:World}{g:Nat}{v:Value}{t:TypeId}(h:W.heap[g]?=some (.cells #[v] t (0,0))):∀ j u,[v][j]?=some u->W.cell? ((⟨g,0,none⟩:Addr).add j)=some u:=by
 intro j u a
 match j,a with
 | 0,a=>
  simp at a;subst a;exact cell_of_one h
theorem Zl.keepS{S:Nat->Prop}{A B:World}{v:Value}{u:Wd}(h:Zl A v u)(g:Q0 (fun b=>¬ S b) A B) (f:Qw S v):Zl B v u:=by
 obtain⟨a,c,rfl,d,e⟩:=h;exact⟨a,c,rfl,Fw d g f,e⟩
theorem Zl.shut{base:Nat}{A B:World}(e:Q0 (Go.Ab.Shut base A) A B) {v:Value} {u:Wd} (h:Zl A v u):Zl B v u:=by
 obtain⟨b,c,rfl,a,d⟩:=h;exact⟨b,c,rfl,⟨Rd.shut e a.1,a.2⟩,d⟩
theorem Yk.keepS{S:Nat->Prop}{A B:World}(ht:Q0 (fun b=>¬ S b) A B):∀ {vs:List Value} {us:List Wd},Yk A vs us->(∀ x∈vs,Qw S x)->Yk B vs us
 | [],[],_,_=>trivial
 | _::_,_::_,⟨h1,h2⟩,hS=>⟨h1.keepS ht (hS _ zy),h2.keepS ht (fun x hx=>hS x (by simp [hx]))⟩
theorem Yk.shut{base:Nat}{A B:World}(ht:Q0 (Go.Ab.Shut base A) A B):∀ {vs:List Value} {us:List Wd},Yk A vs us->Yk B vs us
 | [],[],_=>trivial
 | _::_,_::_,⟨h1,h2⟩=>⟨h1.shut ht,h2.shut ht⟩
theorem Qw.mono{S T:Nat->Prop}{v:Value}(h:Qw S v)(hst:∀ b,S b->T b):Qw T v:=fun g o n c e h0=>hst _ (h g o n c e h0)
def Xy(b:Nat)(W:World)(u v:Value)(t:List (Nat × Wd)):Prop:=
 W.ownsRow b 3 1 u t.length (Qc (t.map (·.1)))/\∃ vals,W.ownsRow b 99 1 v t.length vals/\Yk W vals (t.map (·.2))
theorem Xy.nil(b:Nat)(W:World):Xy b W (.slice none 0 0) (.slice none 0 0) []:=⟨World.ownsRow_nil _ _ _ _,[],World.ownsRow_nil _ _ _ _,trivial⟩
theorem Xy.ext{b:Nat}{A B:World}{u v:Value}{t:List (Nat × Wd)} (h:Xy b A u v t) (a:Ext A B):Xy b B u v t:=by
 obtain⟨c,f,d,e⟩:=h;exact⟨Q7 c a,f,Q7 d a,e.ext a⟩
theorem Xy.base{b b':Nat}{A:World}{u v:Value}{t:List (Nat × Wd)} (h:Xy b A u v t) (a:b'<=b):Xy b' A u v t:=by
 obtain⟨c,f,d,e⟩:=h;exact⟨Zb c a,f,Zb d a,e⟩
theorem Xy.slices{b:Nat}{A:World}{u v:Value}{t:List (Nat × Wd)} (h:Xy b A u v t):∃ uo uc vo vc,u=.slice uo t.length uc/\v=.slice vo t.length vc/\t.length<=maxLen:=by
 obtain⟨a,f,c,e⟩:=h;obtain⟨_,_,uo,uc,rfl,_⟩:=Rd.of_own a;obtain⟨_,d,vo,vc,rfl,_⟩:=Rd.of_own c;exact⟨uo,uc,vo,vc,rfl,rfl,d⟩
theorem Xy.at{b:Nat}{A:World}{u j:Value}{t:List (Nat × Wd)} (h:Xy b A u j t) {i:Nat} (e:i<t.length) :
  ∃ g cap ao c,j=.slice (some ⟨g,0,none⟩) t.length cap/\A.cell? ⟨g,i,none⟩=some (.slice ao t[i].2.length c)/\Q6 A (.slice ao t[i].2.length c) t[i].2/\t[i].2.length<=c:=by
 obtain⟨_,w,d,k⟩:=h;obtain⟨s,v,ao,cap,rfl,o⟩:=Rd.of_own d;obtain⟨g,rfl⟩:=Mz d oz;obtain⟨q,r,f,_,p⟩:=o oz;simp only [Option.some.injEq,Addr.mk.injEq] at f;obtain⟨rfl,rfl,_⟩:=f;have a:=k.get i (by simpa using e);have m:(t.map (·.2)).getD i []=t[i].2:=by rw [List.getD_eq_getElem?_getD,List.getElem?_map,List.getElem?_eq_getElem e];rfl
 rw [m] at a;obtain⟨ao,c,n,a,l⟩:=a;have:=p i oz;rw [Nat.zero_add,n] at this;exact⟨g,cap,ao,c,rfl,this,a,l⟩
structure TrI (w:World) (B P D m:Nat) (O:Nat->Prop) (pre:List (Nat × Wd)) (V:World) (u v:Value) (vals:List Value):Prop where
 ru:V.heap[B+1]?=some (.cells #[.slice none 0 0] 48 (0,0))
 rv:V.heap[B+2]?=some (.cells #[.slice none 0 0] 60 (0,0))
 re:V.heap[B+3]?=some (.cells #[.int .i64 0] 40 (0,0))
 bu:V.heap[P]?=some (.cells #[u] 48 (0,0))
 bv:V.heap[P+1]?=some (.cells #[v] 60 (0,0))
 ou:V.ownsRow (D+2) 3 1 u pre.length (Qc (pre.map (·.1)))
 ov:V.ownsRow (D+2) 99 1 v pre.length vals
 wd:Yk V vals (pre.map (·.2))
 ub:∀ g,u.ownBlock=some g->¬ O g
 vb:∀ g,v.ownBlock=some g->¬ O g
 wk:∀ x∈vals,Qw (fun g=>D+2+m<=g/\g<V.heap.size/\u.ownBlock≠some g/\v.ownBlock≠some g) x
 ext:Ext w V
 short:X8 pre=false
section
variable {w:World} {B P D m:Nat} {O:Nat->Prop} {pre:List (Nat × Wd)} {V:World} {u v:Value} {vals:List Value}
theorem TrI.turn(h:TrI w B P D m O pre V u v vals){O':Nat->Prop}{W:World}(k:w.heap.size=B)(l:B+4<=P)(n:P+2<=D)(j:∀ b,O b->D+2<=b/\b<V.heap.size)
  (c:Q0 (fun b=>(O b/\Xr m (D+2) b)\/b=D+1) V W) (f:∀ b,O' b->(O b\/V.heap.size<=b)/\b<W.heap.size):TrI w B P D m O' pre W u v vals:=by
 have d:∀ b,b<D->¬ ((O b/\Xr m (D+2) b)\/b=D+1):=fun b hb hn=>by
  rcases hn with a | a
  ·have:=(j b a.1).1;omega
  ·omega
 have i:∀ {x:Value},(∀ g,x.ownBlock=some g->¬ O g)->(∀ g,x.ownBlock=some g->D+2<=g)->∀ g,x.ownBlock=some g->¬ ((O g/\Xr m (D+2) g)\/g=D+1):=fun a h2 g hg hn=>by
  rcases hn with e | e
  ·exact a g hg e.1
  ·have:=h2 g hg;omega
 refine⟨c.heap h.ru (d _ oz),c.heap h.rv (d _ oz),c.heap h.re (d _ oz),c.heap h.bu (d _ oz),c.heap h.bv (d _ oz),Qf h.ou c (i h.ub (fun g hg=>(h.ou.lt g hg).1)),Qf h.ov c (i h.vb (fun g hg=>(h.ov.lt g hg).1)),?_,fun g hg hg2=>?_,fun g hg hg2=>?_,fun x hx=>(h.wk x hx).mono fun b hb=>⟨hb.1,Nat.lt_of_lt_of_le hb.2.1 c.size,hb.2.2⟩,h.ext.after c (fun b hb hn=>d b oz hn),h.short⟩
 ·refine h.wd.keepS (S:=fun g=>D+2+m<=g) (c.mono fun b _ hb hn=>?_) (fun x hx=>(h.wk x hx).mono fun b hb=>hb.1);rcases hb with a | a
  ·have:=a.2;unfold Xr at this;omega
  ·omega
 ·rcases(f g hg2).1 with a | a
  ·exact h.ub g hg a
  ·have:=(h.ou.lt g hg).2;omega
 ·rcases(f g hg2).1 with a | a
  ·exact h.vb g hg a
  ·have:=(h.ov.lt g hg).2;omega
theorem TrI.push(h:TrI w B P D m O pre V u v vals)(a1:w.heap.size=B)(a2:B+4<=P)(a3:P+2<=D)(A:∀ b,O b->D+2<=b/\b<V.heap.size)(_hDV:D+2<=V.heap.size)
  {x:Nat × Wd} {ao:Option Addr} {c:Nat} (X:Q6 V (.slice ao x.2.length c) x.2) (N:x.2.length<=c) (Q:Qw (fun g=>O g/\D+2+m<=g/\g<V.heap.size) (.slice ao x.2.length c)) (a0:x.2.length<=32)
  {W:World} {u' v':Value} (t:W.ownsRow (D+2) 3 1 u' (pre.length+1) (Qc (pre.map (·.1))++[.int .i64 (x.1:Int)])) (z:W.ownsRow (D+2) 99 1 v' (pre.length+1) (vals++[.slice ao x.2.length c]))
  (j:Q0 (fun b=>u.ownBlock=some b\/v.ownBlock=some b) V W) (C:u'.ownBlock=u.ownBlock\/∃ k,V.heap.size<=k/\u'.ownBlock=some k) (E:v'.ownBlock=v.ownBlock\/∃ k,V.heap.size<=k/\v'.ownBlock=some k) :
  (∃ u v vals,TrI w B P D m O (pre++[x]) ((W.setCell ⟨P,0,none⟩ u').setCell ⟨P+1,0,none⟩ v') u v vals)/\Q0 (fun b=>¬ ((b<D/\b≠P/\b≠P+1/\b≠B+1/\b≠B+2/\b≠B+3)\/O b\/b=D\/b=D+1)) V ((W.setCell ⟨P,0,none⟩ u').setCell ⟨P+1,0,none⟩ v'):=by
 obtain⟨o,q⟩:=zE ((W.setCell ⟨P,0,none⟩ u').setCell ⟨P+1,0,none⟩ v');have i:Q0 (fun b=>b=P\/b=P+1) W o:=by rw [<-q];exact((Q0.set1 W P 0 u').mono fun b _ a=>.inl a).trans ((Q0.set1 _ (P+1) 0 v').mono fun b _ a=>.inr a)
 have s:∀ b,(u.ownBlock=some b\/v.ownBlock=some b)->D+2<=b/\¬ O b/\b<V.heap.size:=fun b d=>by
  rcases d with d | d
  ·exact⟨(h.ou.lt b d).1,h.ub b d,(h.ou.lt b d).2⟩
  ·exact⟨(h.ov.lt b d).1,h.vb b d,(h.ov.lt b d).2⟩
 have n:∀ b,b<D->¬ (u.ownBlock=some b\/v.ownBlock=some b):=fun b d e=>by have:=(s b e).1;omega
 have I:=j.heap h.bu (n _ oz);have K:=j.heap h.bv (n _ oz);have J:o.heap[P]?=some (.cells #[u'] 48 (0,0)):=by
  rw [<-q];exact(Q0.set1 _ (P+1) 0 v').heap (Jq u' I) oz
 have L:o.heap[P+1]?=some (.cells #[v'] 60 (0,0)):=by
  rw [<-q];exact Jq v' ((Q0.set1 W P 0 u').heap K oz)
 have T:∀ g,u'.ownBlock=some g->D+2<=g:=fun g hg=>(t.lt g hg).1;have U:∀ g,v'.ownBlock=some g->D+2<=g:=fun g hg=>(z.lt g hg).1
 have G:∀ {y y':Value},(∀ g,y.ownBlock=some g->¬ O g)->(y'.ownBlock=y.ownBlock\/∃ k,V.heap.size<=k/\y'.ownBlock=some k)->∀ g,y'.ownBlock=some g->¬ O g:=fun h1 p g hg ho=>by
  rcases p with p | ⟨k,p,l⟩
  ·exact h1 g (p ▸ hg) ho
  ·rw [l] at hg;cases hg;have:=(A _ ho).2;omega
 have H:∀ {y y':Value} (g:Nat),y.ownBlock≠some g->g<V.heap.size->(y'.ownBlock=y.ownBlock\/∃ k,V.heap.size<=k/\y'.ownBlock=some k)->y'.ownBlock≠some g:=fun g h1 p l=>by
  rcases l with l | ⟨k,l,M⟩
  ·rw [l];exact h1
  ·rw [M];intro a;cases a;omega
 have R:=Nat.le_trans j.size i.size;have r:Q0 (fun b=>(u.ownBlock=some b\/v.ownBlock=some b)\/(b=P\/b=P+1)) V o:=(j.mono fun b _ a=>.inl a).trans (i.mono fun b _ a=>.inr a);have Y:Qw (fun g=>D+2+m<=g/\g<V.heap.size/\u.ownBlock≠some g/\v.ownBlock≠some g) (.slice ao x.2.length c):=Q.mono fun b d=>⟨d.2.1,d.2.2,fun a=>h.ub b a d.1,fun a=>h.vb b a d.1⟩
 have F:∀ y∈vals++[.slice ao x.2.length c],Qw (fun g=>D+2+m<=g/\g<V.heap.size/\u.ownBlock≠some g/\v.ownBlock≠some g) y:=fun y f=>by
  rcases List.mem_append.1 f with f | f
  ·exact h.wk y f
  ·simp only [List.mem_singleton] at f;subst f;exact Y
 rw [q];refine⟨⟨u',v',vals++[.slice ao x.2.length c],⟨?_,?_,?_,J,L,?_,?_,?_,G h.ub C,G h.vb E,fun y f=>(F y f).mono fun b d=>⟨d.1,Nat.lt_of_lt_of_le d.2.1 R,H b d.2.2.1 d.2.1 C,H b d.2.2.2 d.2.1 E⟩,?_,?_⟩⟩,r.mono fun b d a e=>?_⟩
 ·exact i.heap (j.heap h.ru (n _ oz)) oz
 ·exact i.heap (j.heap h.rv (n _ oz)) oz
 ·exact i.heap (j.heap h.re (n _ oz)) oz
 ·rw [List.length_append,List.map_append];show o.ownsRow _ _ _ _ _ (Qc (pre.map (·.1)++[x.1]));rw [Yu];exact Qf t i (fun g hg a=>by have:=T g hg;omega)
 ·rw [List.length_append];exact Qf z i (fun g hg a=>by have:=U g hg;omega)
 ·rw [List.map_append];refine(h.wd.snoc ⟨ao,c,rfl,X,N⟩).keepS (S:=fun g=>D+2+m<=g/\g<V.heap.size/\u.ownBlock≠some g/\v.ownBlock≠some g) (r.mono fun b _ a e=>?_) F;rcases a with (a | a) | a
  ·exact e.2.2.1 a
  ·exact e.2.2.2 a
  ·omega
 ·refine h.ext.after r (fun b d a=>?_);rcases a with a | a
  ·exact n b oz a
  ·omega
 ·have:=h.short;unfold X8 at this ⊢;rw [List.any_append,this];simp;omega
 ·rcases a with a | a
  ·obtain⟨a4,Z,a5⟩:=s b a;rcases e with e | e | e | e
   ·omega
   ·exact Z e
   ·omega
   ·omega
  ·rcases e with e | e | e | e
   ·omega
   ·have:=(A b e).1;omega
   ·omega
   ·omega
end
theorem Qcf{V:World}{b c d:Nat}{x1 x2 x3:Value}{t1 t2 t3:TypeId}(h1:V.heap[b]?=some (.cells #[x1] t1 (0,0))) (h2:V.heap[c]?=some (.cells #[x2] t2 (0,0))) (h3:V.heap[d]?=some (.cells #[x3] t3 (0,0))) (hbc:b≠c) (hcd:c≠d) (hbd:b≠d) (y1 y2 y3:Value) :
  (((V.setCell ⟨b,0,none⟩ y1).setCell ⟨c,0,none⟩ y2).setCell ⟨d,0,none⟩ y3).heap[b]?=some (.cells #[y1] t1 (0,0))/\(((V.setCell ⟨b,0,none⟩ y1).setCell ⟨c,0,none⟩ y2).setCell ⟨d,0,none⟩ y3).heap[c]?=some (.cells #[y2] t2 (0,0))/\(((V.setCell ⟨b,0,none⟩ y1).setCell ⟨c,0,none⟩ y2).setCell ⟨d,0,none⟩ y3).heap[d]?=some (.cells #[y3] t3 (0,0)) /\
  Q0 (fun x=>x=b\/x=c\/x=d) V (((V.setCell ⟨b,0,none⟩ y1).setCell ⟨c,0,none⟩ y2).setCell ⟨d,0,none⟩ y3):=
 ⟨(Q0.set1 _ d 0 y3).heap ((Q0.set1 _ c 0 y2).heap (Jq y1 h1) oz) oz,(Q0.set1 _ d 0 y3).heap (Jq y2 ((Q0.set1 V b 0 y1).heap h2 oz)) oz,
  Jq y3 ((Q0.set1 _ c 0 y2).heap ((Q0.set1 V b 0 y1).heap h3 oz) oz),(((Q0.set1 V b 0 y1).mono fun x _ e=>.inl e).trans ((Q0.set1 _ c 0 y2).mono fun x _ e=>.inr (.inl e))).trans ((Q0.set1 _ d 0 y3).mono fun x _ e=>.inr (.inr e))⟩
theorem Vy{a:Func}{p q r:Tmp}(h:a.results=#[.cell p 48,.cell q 60,.cell r 40]){tmps:Array Value}{w:World}{b c d:Nat}{x y z:Value}
  (i:tmps.getD p undef=.pointer (some ⟨b,0,none⟩)) (k:tmps.getD q undef=.pointer (some ⟨c,0,none⟩)) (m:tmps.getD r undef=.pointer (some ⟨d,0,none⟩))
  (o:w.heap[b]?=some (.cells #[x] 48 (0,0))) (s:w.heap[c]?=some (.cells #[y] 60 (0,0))) (t:w.heap[d]?=some (.cells #[z] 40 (0,0))) :
  (results a tmps).run Tryz.prog w=.ok (.tuple #[x,y,z]) w:=by
 have j:tmps[p]?.getD undef=.pointer (some ⟨b,0,none⟩):=by simpa using i
 have l:tmps[q]?.getD undef=.pointer (some ⟨c,0,none⟩):=by simpa using k
 have n:tmps[r]?.getD undef=.pointer (some ⟨d,0,none⟩):=by simpa using m
 have e:=cell_of_one o;have f:=cell_of_one s;have g:=cell_of_one t;simp [results,h,j,l,n,asAddr,go_sem,e,f,g]
abbrev Qhc:Pat:=.node 0 0 0 false 0 0 []
def Qhw(l:Q5)(s:Nat × Nat):Wd:=if Jr s (l.ifs.getD 0 (0,0))=true then Yz l [s] else [s]
def Xm:List Q5->Wd->Option Wd
 | [],w=>some w
 | l::ls,w=>if trE l w=0 then Xm ls (Jl l w) else none
def Ul(ls:List Q5):Int:=if 64<ls.length then 12 else if ls.all Yg=true then 0 else 17
def Gf(ls:List Q5)(w:Wd):Int:=if Ul ls=0 then wE w else Ul ls
def Vn(ls:List Q5)(w:Wd):Int:=if Gf ls w=0 then(if (Xm ls w).isSome=true then 0 else 11) else Gf ls w
def Kg(ls:List Q5)(w:Wd):Wd:=if Gf ls w=0 then(Xm ls w).getD [] else []
theorem Q3v{a:List Q5}{w:Wd}(h:Gf a w≠0):Vn a w=Gf a w/\Kg a w=[]:=by
 unfold Vn Kg;rw [if_neg h,if_neg h];exact⟨rfl,rfl⟩
theorem Pz{a:List Q5}{w:Wd}(h:Gf a w=0)(b:Xm a w=none):Vn a w=11/\Kg a w=[]:=by
 unfold Vn Kg;rw [if_pos h,if_pos h,b];exact⟨rfl,rfl⟩
theorem Lv{a:List Q5}{w v:Wd}(h:Gf a w=0)(b:Xm a w=some v):Vn a w=0/\Kg a w=v:=by
 unfold Vn Kg;rw [if_pos h,if_pos h,b];exact⟨rfl,rfl⟩
theorem Qdp{a:List Q5}{w:Wd}(h:Vn a w≠0):Kg a w=[]:=by
 by_cases b:Gf a w=0
 ·cases hd:Xm a w with
  | none=>exact(Pz b hd).2
  | some v=>exact absurd (Lv b hd).1 h
 ·exact(Q3v b).2
theorem Mb:∀(ls ms:List Q5) (w:Wd),Xm (ls++ms) w=(Xm ls w).bind (Xm ms)
 | [],_,_=>rfl
 | l::ls,ms,w=>by
  show Xm (l::(ls++ms)) w=_;unfold Xm;by_cases h:trE l w=0
  ·rw [if_pos h,if_pos h];exact Mb ls ms _
  ·rw [if_neg h,if_neg h];rfl
theorem Ee{a:List Q5}{k:Nat}(b:k<a.length)(w:Wd):Xm (a.take (k+1)) w=(Xm (a.take k) w).bind fun u=>if trE a[k] u=0 then some (Jl a[k] u) else none:=by
 rw [List.take_succ_eq_append_getElem b,Mb]
 congr 1
theorem Q9w{a:List Q5}{k:Nat}{w u:Wd}(e:k<a.length)(c:Xm (a.take k) w=some u) (d:trE a[k] u≠0):Xm a w=none:=by
 have b:a=a.take (k+1)++a.drop (k+1):=(List.take_append_drop _ _).symm;rw [b,Mb,Ee e,c];simp [d]
theorem Qd2{a:List Q5}{k:Nat}{w:Wd}(b:a.length<=k):Xm (a.take k) w=Xm a w:=by rw [List.take_of_length_le b]
abbrev Q9:=List ((Wd × Wd) × List Value)
def Wb(qs:Q9):List Value:=qs.flatMap fun q=>[q.2.getD 0 undef,.bool false]
def Ky(qs:Q9):List (Option Wd × List Value):=qs.map fun q=>(some q.1.1,[q.2.getD 0 undef,.bool false])
theorem Qag:(Tryz.prog.info? 240).map (fun i=>(i.zero,i.size,i.bytes))=some (some (.agg #[.slice none 0 0,.bool false]),2,32):=by kernel_rfl
theorem Q5b{qs:Q9}{k:Nat}(h:k<qs.length):Wb (qs.take (k+1))=Wb (qs.take k)++[qs[k].2.getD 0 undef,.bool false]:=by
 rw [List.take_succ_eq_append_getElem h];unfold Wb;rw [List.flatMap_append];rfl
theorem Pf{w:World}{v:Value}{qs:Q9}{n:Nat}{e:TypeId}{b:Nat}(k:qs.length=n)(h:w.ownsRow b e 2 v n (Wb qs)) (l:∀ q∈qs,Hz w q.1 q.2):Xd w v (Ky qs):=by
 refine⟨?_,fun p hp=>?_⟩
 ·have o:=Rd.of_own h;have d:(Ky qs).length=n:=by unfold Ky;rw [List.length_map,k]
  have f:(Ky qs).flatMap (·.2)=Wb qs:=by unfold Ky Wb;rw [List.flatMap_map]
  rw [d,f];exact o
 ·obtain⟨q,m,rfl⟩:=List.mem_map.1 hp;obtain⟨r,v,g,⟨a,c,rfl,i,j⟩,_⟩:=l q m;refine⟨rfl,a,_,c,by rw [g];rfl,fun x hx=>?_⟩;cases hx;exact⟨a,c,rfl,i,j⟩
theorem Q1a{w:World}{qs:Q9}{y:Option Addr}{n x:Nat}(J:Z7 w (.slice y n x) qs) (I:qs.length=n) (Z:n<=1000) :
  Calls Tryz.prog 135 #[.slice y n x] w fun e w'=>∃ ao c,e=.returned (.slice ao n c)/\w'.ownsRow w.heap.size 240 2 (.slice ao n c) n (Wb qs)/\Ext w w':=by
 have O:=Zh J;have z:=Zh I;clear J I;go_enter Tryz.func135,Tryz.ntmps135;go_wp2
 refine wp_loop (fun a g=>∃(f:Nat) (ao:Option Addr) (c:Nat),f<=n/\a.defers=[]/\(a.tmps.size=20/\a.tmps.getD 3 undef=.slice ao f c/\a.tmps.getD 6 undef=.slice y n x/\a.tmps.getD 7 undef=.int .i64 n/\a.tmps.getD 8 undef=.int .i64 f)/\g.ownsRow w.heap.size 240 2 (.slice ao f c) f (Wb (qs.take f))/\Ext w g)
  (fun a _=>((n:Int) - intOf (a.tmps.getD 8 undef)).toNat) ?_ ?_
 ·exact⟨0,none,0,by omega,rfl,⟨rfl,rfl,rfl,rfl,rfl⟩,World.ownsRow_nil _ _ _ _,Q0.refl _ _⟩
 rintro⟨a5,_⟩ g ⟨f,ao,c,b1,a0,⟨K,s,t,u,v⟩,i,m⟩;subst a0;obtain⟨a6,q⟩:=Qv K;obtain⟨d,rfl⟩:∃ l,l=a6:=⟨_,rfl⟩;have a2:a5=#[d 0,d 1,d 2,d 3,d 4,d 5,d 6,d 7,d 8,d 9,d 10,d 11,d 12,d 13,d 14,d 15,d 16,d 17,d 18,d 19]:=q;clear q;subst a2;change d 3=_ at s;change d 6=_ at t;change d 7=_ at u;change d 8=_ at v;rw [s,t,u,v];clear s t u v K;have p:=Zh i;clear i;by_cases a1:f<n
 ·have X:(f:Int)<(n:Int):=by omega
  have a9:(0:Int)<=(f:Int):=by omega
  have H:f<qs.length:=by rw [z.out];exact a1
  obtain⟨a8,b3,a7,j,k,⟨d,b7,E,q,a3⟩,_⟩:=U9.at (Qg O.out m) H;replace j:=j zd;obtain⟨j,b0⟩:=j;simp only [zV] at j;obtain⟨rfl,a4,rfl⟩:=j;clear a4;have o:=Q5b H;rw [E] at k o;obtain⟨W,U,rfl,_⟩:=q;obtain⟨b5,b4,rfl,_⟩:=a3;obtain⟨V,G⟩:=zE (qs[f].1.1.length);obtain⟨b6,L⟩:=zE (qs[f].1.2.length);rw [G] at k o;rw [L] at k o;have A:=k 0 _ rfl;have T:=k 1 _ rfl;rw [Nat.add_zero] at A;have b2:IntKind.i64.wrap ((f:Int)+1)=(f:Int)+1:=IntWalk.i64_in _ oz;have P:=Zh o;clear o k E G L
  go_wp2_with (at_builtin;refine Qk rfl (.tmp 12) (.tmp 16) 178 rfl w.heap.size 240 _ 2 32 Tryz.underlying178 @Qag rfl zd _ _ _ rfl (Q7 p.out (((Q0.refl _ g).alloc _).alloc _)) ⟨g.heap.size+1,0,none⟩ 1 1 [.slice W V U,.bool false] rfl rfl (Qq zy) (by intro l M;simp at M;rcases M with rfl | rfl <;> rfl) (by unfold maxLen;omega) oz (Nat.le_trans m.size (Q0.size (Q0.alloc (Q0.alloc (Q0.refl (fun _=>False) g) _) _))) ?_)
  intro R S Q C D Y;have B:Ext w Q:=Q0.after (m.trans (((Q0.refl _ g).alloc _).alloc _)) D (fun b Z e=>by have:=(p.out.lt _ e).1;omega);have r:=Zh C;have N:=Zh B;clear C B D Y m A T;go_wp2;exact⟨⟨f+1,R,S,by omega,tz,⟨rfl,rfl,rfl,rfl,rfl⟩,by rw [P.out];exact r.out,N.out⟩,mz⟩
 ·obtain rfl:f=n:=by omega
  have X:¬ (f:Int)<(f:Int):=by omega
  have F:qs.take f=qs:=List.take_of_length_le (by rw [z.out];exact Nat.le_refl _);have i:=p.out;rw [F] at i;have r:=Zh i;clear i F p;go_wp2;go_ret;exact⟨ao,c,rfl,r.out,m⟩
section
variable {α:Type} {H:List α->Nat->Bool} {P:List α->List α} {k m:Nat} {p:α->Prop}
theorem Ny(d:∀ c,(∀ s∈c,p s)->∀ s∈P c,p s) {w:List α} (b:∀ s∈w,p s) (i:Nat):∀ s∈Ku P k w i,p s:=by
 intro s a;unfold Ku at a;rw [List.mem_append,List.mem_append] at a;rcases a with (a | a) | a
 ·exact b s (List.mem_of_mem_take a)
 ·exact d _ (fun s a=>b s (List.mem_of_mem_drop (List.mem_of_mem_take a))) s a
 ·exact b s (List.mem_of_mem_drop a)
theorem My(hP:∀ c,(∀ s∈c,p s)->∀ s∈P c,p s) {w:List α} (hw:∀ s∈w,p s):∀(n i:Nat) (d:List α),(∀ s∈d,p s)->∀ x∈Vw H P k w n i d,∀ s∈x.2,p s
 | 0,_,_,_=>fun x hx=>by cases hx
 | n+1,i,d,hd=>fun x hx=>by
  have hc:∀ s∈P ((w.drop i).take k),p s:=hP _ fun s hs=>hw s (List.mem_of_mem_drop (List.mem_of_mem_take hs));have h1:∀ s∈(w.drop i).take 1,p s:=fun s hs=>hw s (List.mem_of_mem_drop (List.mem_of_mem_take hs));have hdc:∀ s∈d++P ((w.drop i).take k),p s:=fun s hs=>(List.mem_append.1 hs).elim (hd s) (hc s);unfold Vw at hx
  split at hx
  ·rcases List.mem_cons.1 hx with rfl | hx
   ·intro s hs;rcases List.mem_append.1 hs with hs | hs
    ·exact hdc s hs
    ·exact hw s (List.mem_of_mem_drop hs)
   ·split at hx
    ·exact My hP hw n _ _ (fun s hs=>(List.mem_append.1 hs).elim (hdc s) (h1 s)) x hx
    ·exact My hP hw n _ _ hdc x hx
  ·exact My hP hw n _ _ (fun s hs=>(List.mem_append.1 hs).elim (hd s) (h1 s)) x hx
theorem N7(hP:∀ c,(∀ s∈c,p s)->∀ s∈P c,p s):∀(n:Nat) (w:List α) (i:Nat),(∀ s∈w,p s)->∀ x∈Vm H P k m n w i,∀ s∈x.2,p s
 | 0,_,_,_=>fun x hx=>by cases hx
 | n+1,w,i,hw=>fun x hx=>by
  unfold Vm at hx
  split at hx
  ·cases hx
  ·split at hx
   ·rcases List.mem_cons.1 hx with rfl | hx
    ·exact Ny hP hw i
    ·exact N7 hP n _ _ (Ny hP hw i) x hx
   ·exact N7 hP n _ _ hw x hx
theorem R3(hP:∀ c,(∀ s∈c,p s)->∀ s∈P c,p s):∀(n:Nat) (w:List α) (i:Nat),(∀ s∈w,p s)->∀ x∈Kj H P k n w i,∀ s∈x.2,p s
 | 0,_,_,_=>fun x hx=>by cases hx
 | _+1,_,0,_=>fun x hx=>by cases hx
 | n+1,w,i+1,hw=>fun x hx=>by
  unfold Kj at hx
  split at hx
  ·rcases List.mem_cons.1 hx with rfl | hx
   ·exact Ny hP hw i
   ·exact R3 hP n _ _ (Ny hP hw i) x hx
  ·exact R3 hP n _ _ hw x hx
end
theorem Q7q{p:Nat × Nat->Prop}{l:Q5}(a:∀ c:Wd,(∀ s∈c,p s)->∀ s∈Yz l c,p s) {ws:Wd} (b:∀ s∈ws,p s):∀ x∈Qt l ws,∀ s∈x.2,p s:=by
 unfold Qt
 split
 ·exact My a b _ _ _ (fun s hs=>by cases hs)
 ·split
  ·exact N7 a _ _ _ b
  ·exact R3 a _ _ _ b
theorem Qcb{p:Nat × Nat->Prop}{l:Q5}(g:∀ c:Wd,(∀ s∈c,p s)->∀ s∈Yz l c,p s) {ws:Wd} (f:∀ s∈ws,p s):∀ s∈Jl l ws,p s:=by
 unfold Jl
 split
 ·have m:∀(b:List Wd) (d:Wd),(∀ s∈d,p s)->(∀ x∈b,∀ s∈x,p s)->∀ s∈b.getLastD d,p s:=by
   intro b
   induction b with
   | nil=>intro d i _;exact i
   | cons a b ih=>intro d _ e;rw [List.getLastD_cons];exact ih a (e a zy) (fun x hx=>e x (by simp [hx]))
  refine m _ _ f (fun x hx=>?_);obtain⟨n,k,rfl⟩:=List.mem_map.1 hx;exact Q7q g f n k
 ·intro s j;cases j
abbrev okW(s:Nat × Nat):Prop:=Z1 s/\okS s=true
theorem Q5u{s f:Nat × Nat}{m:Nat}(c:Z1 s)(b:Z1 f):okW (X5 s m f).1:=by
 refine⟨Ld c b,?_⟩;unfold X5;by_cases a:okS s=false\/okS f=false
 ·rw [if_pos a];rfl
 ·rw [if_neg a];rw [not_or,Bool.not_eq_false,Bool.not_eq_false] at a
  split
  ·rfl
  ·exact Q9l c b a.1 a.2
theorem Qel{s f:Nat × Nat}{m:Nat}(c:Z1 s)(b:Z1 f):okW (Jz s f m).1:=by
 refine⟨Q8p c b,?_⟩;unfold Jz;by_cases a:okS s=false\/okS f=false
 ·rw [if_pos a];rfl
 ·rw [if_neg a];rw [not_or,Bool.not_eq_false,Bool.not_eq_false] at a
  split
  ·rfl
  ·exact Q9l c b a.1 a.2
theorem Qdt{l:Q5}(f:∀ x∈l.outs,Jh x)(c:Wd)(j:∀ s∈c,okW s):∀ s∈Yz l c,okW s:=by
 have k:Yf c:=fun s a=>(j s a).1;intro s a;obtain⟨x,g,rfl⟩:=List.mem_map.1 a
 have d:∀ i:Nat,Z1 (c.getD i (0,0)):=fun i=>by
  by_cases b:i<c.length
  ·rw [List.getD_eq_getElem?_getD,List.getElem?_eq_getElem b];exact k _ (List.getElem_mem b)
  ·rw [List.getD_eq_getElem?_getD,List.getElem?_eq_none oz];exact⟨by decide,by decide⟩
 have e:Z1 (if 0<=x.frm then c.getD x.frm.toNat (0,0) else(0,0)):=by
  split
  ·exact d _
  ·exact⟨by decide,by decide⟩
 unfold U6
 split
 ·exact Q5u e (f x g).2.1
 ·exact Qel (Q5u e (f x g).2.1).1 (d _)
theorem Qeb{ws:Wd}:wE ws=0↔ws.length<=32/\∀ s∈ws,okS s=true:=by
 unfold wE;constructor
 ·intro a
  split at a
  ·cases a
  ·split at a
   ·rename_i c b
    exact⟨by omega,List.all_eq_true.1 b⟩
   ·cases a
 ·rintro⟨c,b⟩;have d:Xu ws=true:=List.all_eq_true.2 b;rw [if_neg oz,if_pos d]
theorem Qfv{l:Q5}(j:∀ x∈l.outs,Jh x){ws:Wd}(g:Yf ws)(h:trE l ws=0):wE (Jl l ws)=0/\Yf (Jl l ws):=by
 have f:=Qeb.1 (He (Rh h)).2;have d:=Qcb (p:=okW) (Qdt j) (ws:=ws) (fun s hs=>⟨g s hs,f.2 s hs⟩);refine⟨Qeb.2 ⟨?_,fun s hs=>(d s hs).2⟩,fun s hs=>(d s hs).1⟩;have m:∀(b:List Wd) (c:Wd),c.length<=32->(∀ x∈b,x.length<=32)->(b.getLastD c).length<=32:=by
  intro b
  induction b with
  | nil=>intro c i _;exact i
  | cons a b ih=>intro c _ e;rw [List.getLastD_cons];exact ih a (e a zy) (fun x hx=>e x (by simp [hx]))
 unfold Jl Q1s;rw [if_pos h];refine m _ _ f.1 (fun x hx=>?_);obtain⟨n,k,rfl⟩:=List.mem_map.1 hx;exact Ej (Q0h h) k
theorem Qd3{l:Q5}(hl:Yg l=true){ws:Wd}(hw:wE ws=0):trE l ws=0\/trE l ws=11:=Qbh (by unfold X9;rw [if_pos hl];exact hw)
theorem Q5v:∀ {ls:List Q5} {ws u:Wd},(∀ l∈ls,∀ x∈l.outs,Jh x)->Yf ws->wE ws=0->Xm ls ws=some u->wE u=0/\Yf u
 | [],_,_,_,hc,hw,h=>by cases h;exact⟨hw,hc⟩
 | l::ls,ws,u,ho,hc,hw,h=>by
  unfold Xm at h
  split at h
  ·rename_i h0
   have h1:=Qfv (ho l zy) hc h0;exact Q5v (fun l hl=>ho l (by simp [hl])) h1.2 h1.1 h
  ·cases h
def Q1m(a b:Wd)(s:Nat × Nat):Wd:=a++[s]++b
def P6(ls:List Q5)(a b:Wd):Int:=if Ul ls=0 then(if wE a=0 then wE b else wE a) else Ul ls
def Qib(ls:List Q5)(a b:Wd)(s:Nat × Nat):Int:=if P6 ls a b=0 then(if okS s=true then Vn ls (Q1m a b s) else 14) else P6 ls a b
def Qic(ls:List Q5)(a b:Wd)(s:Nat × Nat):Wd:=if P6 ls a b=0 then(if okS s=true then Kg ls (Q1m a b s) else []) else []
def Qea(ss:Wd)(most:Nat):Int:=if most<ss.length then 12 else if ss.all okS=true then(if ss.Nodup then 0 else 6) else 14
def Xf:List Int->Int
 | []=>0
 | e::l=>if e=0 then Xf l else e
def Qgx(ls:List Q5)(a b ss:Wd):Int:=if P6 ls a b=0 then(if Qea ss 64=0 then Xf (ss.map fun s=>Vn ls (Q1m a b s)) else Qea ss 64) else P6 ls a b
def Qhx(ls:List Q5)(a b ss:Wd):List Wd:=if Qgx ls a b ss=0 then ss.map fun s=>Kg ls (Q1m a b s) else []
def Qhq(l:List Wd):List Nat:=l.map fun w=>l.idxOf w
def Qaw(pl:List Wd)(w:Wd):Nat->Int
 | 0=>-1
 | n+1=>if pl.getD n []=w then(n:Int) else Qaw pl w n
def Qhv(l pl:List Wd):List Int:=l.map fun w=>Qaw pl w pl.length
theorem Sl{l:List Int}{n:Nat}(b:n<l.length)(h:Xf (l.take n)=0):Xf (l.take (n+1))=l[n]:=by
 induction l generalizing n with
 | nil=>cases b
 | cons e l ih=>
  cases n with
  | zero=>simp only [Nat.zero_add,List.take_succ_cons,List.take_zero,List.getElem_cons_zero];unfold Xf;split <;> rename_i a <;> simp [Xf,a]
  | succ n=>
   rw [List.take_succ_cons] at h ⊢;unfold Xf at h ⊢
   split at h
   ·rename_i a
    rw [if_pos a,List.getElem_cons_succ];exact ih (by simpa using b) h
   ·contradiction
theorem S7{l:List Int}{n:Nat}(b:n<l.length)(h:Xf (l.take n)=0) (a:l[n]≠0):Xf l=l[n]:=by
 induction l generalizing n with
 | nil=>cases b
 | cons e l ih=>
  cases n with
  | zero=>rw [List.getElem_cons_zero] at a ⊢;unfold Xf;rw [if_neg a]
  | succ n=>
   rw [List.take_succ_cons] at h;unfold Xf at h ⊢
   split at h
   ·rename_i c
    rw [if_pos c,List.getElem_cons_succ];exact ih (by simpa using b) h (by simpa using a)
   ·contradiction
def Gp(b:Nat)(W:World)(u v:Value)(t:List (Nat × Wd)):Prop:=
 W.ownsRow b 3 1 u t.length (Qc (t.map (·.1)))/\∃ vals,W.ownsRow b 99 1 v t.length vals/\Yk W vals (t.map (·.2))/\∀ x∈vals,Qw (fun g=>b<=g) x
theorem Gp.out{b:Nat}{W:World}{u v:Value}{t:List (Nat × Wd)} (h:Gp b W u v t):Xy b W u v t:=by
 obtain⟨a,e,c,d,_⟩:=h;exact⟨a,e,c,d⟩
theorem Gp.nil(b:Nat)(W:World):Gp b W (.slice none 0 0) (.slice none 0 0) []:=⟨World.ownsRow_nil _ _ _ _,[],World.ownsRow_nil _ _ _ _,trivial,fun x hx=>by cases hx⟩
theorem Gp.fresh{b cap g:Nat}{A:World}{u:Value}{t:List (Nat × Wd)} (h:Gp b A u (.slice (some ⟨g,0,none⟩) t.length cap) t) {i:Nat} (f:i<t.length) {x:Value} (e:A.cell? ⟨g,i,none⟩=some x):Qw (fun g=>b<=g) x:=by
 obtain⟨_,k,a,_,d⟩:=h;have j:=a.1;have c:=a.cellAt i oz;rw [e] at c;exact d x (List.mem_of_getElem? c.symm)
theorem Tryz.infoW:(Tryz.prog.info? 99).map (fun i=>(i.zero,i.size,i.bytes))=some (some (.slice none 0 0),1,24):=by kernel_rfl
theorem Q8g{w:World}{l:Q5}{cs:List Value}{vo:Option Addr}{vc:Nat}{ws:Wd}(i5:Zf w l cs)(l8:Q6 w (.slice vo ws.length vc) ws) (w2:ws.length<=vc) (q6:Tab w) :
  Calls Tryz.prog 175 #[.agg cs.toArray,.slice vo ws.length vc] w fun e w'=>∃ u v,e=.returned (.tuple #[u,v,.int .i64 (trE l ws)])/\Gp w.heap.size w' u v (trT l ws)/\Ext w w':=by
 have l2:=fun(d:World) (b9:Ext w d)=>Q4y (i5.ext b9) (l8.ext b9) (q6.keep b9 id);have r3:=fun(d:World) (b9:Ext w d)=>Qdu (i5.ext b9) (vo:=vo) (vn:=ws.length) (vc:=vc);obtain⟨A9,u8,y4⟩:=Zh3 i5 l8 q6
 have q8:Qw (fun g=>g<w.heap.size) (.slice vo ws.length vc):=fun g o i b8 e h0=>by
  obtain⟨_,_,k7,C1,d9,p6⟩:=l8.1;rw [d9] at e;cases e;cases d9;obtain⟨C2,C4,G,H,_⟩:=p6 h0;cases G;exact H
 have l1:X9 l ws=0->Yg l=true/\ws.length<=32:=fun h0=>⟨(He h0).1,Cc (He h0).2⟩;have l6:trE l ws=if X9 l ws=0 then(if X8 (Qt l ws)=true then 11 else 0) else X9 l ws:=rfl
 have l7:trT l ws=if trE l ws=0 then Qt l ws else []:=rfl
 have z3:=Q3u l ws;obtain⟨C6,l9⟩:=zE ws.length;rw [l9] at l2 r3 q8 l1 w2 z3 u8;rw [l9];obtain⟨s9,s1,t4,s4,s7,p2,p4,t0,o7,y,s2,t5,s5,s8,p3,p5,t1,o8,c2,s0,o9,r9,t3,p0,t2,s6,rfl,y3,B7,B8,A8,B6,B5,B1,B2,B3,B4,B0,C5,G,H,P,M⟩:=Zr i5;obtain⟨Y,v9⟩:=zE (X9 l ws);obtain⟨k3,b9⟩:=zE (trE l ws);obtain⟨p1,w1⟩:=zE (trT l ws);rw [v9] at l2 l1 l6;rw [b9] at l6 l7 ⊢;rw [w1] at l7 ⊢;obtain⟨u3,n7,y2,u2,n9,o0,g5⟩:=Zh7 l2 r3 q8 l1 l6 l7 l9;clear i5 l8 q6 l2 r3 q8 l1 l6 l7 v9 b9 w1 l9;refine Z4 Tryz.func175 rfl ?_;simp only [Tryz.ntmps175,zS,Nat.reduceAdd,Nat.reduceSub];go_upto_region 1 with (fail)
 obtain⟨g1,d8⟩:=zE ((((w.alloc (.cells #[.string s9,.int .i64 s1,.int .u32 (t4:Int),.int .u32 (s4:Int),.bool s7,.int .i64 p2,.int .i64 p4,.slice t0 o7 y,.int .i64 s2,.int .u32 (t5:Int),.int .u32 (s5:Int),.bool s8,.int .i64 p3,.int .i64 p5,.slice t1 o8 c2,.slice s0 o9 r9,.slice t3 p0 t2,.int .i64 s6] 102)).alloc (.cells #[.slice none 0 0] 48)).alloc (.cells #[.slice none 0 0] 60)).alloc (.cells #[.int .i64 0] 40));have p9:Ext w g1:=by rw [<-d8];exact((((Q0.refl _ w).alloc _).alloc _).alloc _).alloc _
 have q9:g1.heap[w.heap.size]?=some (.cells #[.string s9,.int .i64 s1,.int .u32 (t4:Int),.int .u32 (s4:Int),.bool s7,.int .i64 p2,.int .i64 p4,.slice t0 o7 y,.int .i64 s2,.int .u32 (t5:Int),.int .u32 (s5:Int),.bool s8,.int .i64 p3,.int .i64 p5,.slice t1 o8 c2,.slice s0 o9 r9,.slice t3 p0 t2,.int .i64 s6] 102 (0,0)):=by rw [<-d8];exact Q8 (Q8 (Q8 (Q3 rfl)))
 have r6:g1.heap[w.heap.size+1]?=some (.cells #[.slice none 0 0] 48 (0,0)):=by rw [<-d8];exact Q8 (Q8 (Q3 zy))
 have r7:g1.heap[w.heap.size+2]?=some (.cells #[.slice none 0 0] 60 (0,0)):=by rw [<-d8];exact Q8 (Q3 zy)
 have q7:g1.heap[w.heap.size+3]?=some (.cells #[.int .i64 0] 40 (0,0)):=by rw [<-d8];exact Q3 zy
 have x2:g1.heap.size=w.heap.size+4:=by rw [<-d8];simp
 rw [d8];obtain⟨f,p7⟩:=zE w.heap.size;rw [p7] at q9 r6 r7 q7 x2 ⊢;have s:=Zh p7;have n1:=Zh q9;clear d8 p7 q9
 go_wp2_with (refine wpList_load_row rfl 102 (.tmp 2) rfl f rfl _ _ _ _ n1.out Tryz.underlying102 rfl Tryz.lawInfo ?_)
 refine(u3.out _ p9).mono ?_;rintro e e1 ⟨rfl,F⟩;have m:=p9.trans F;have u4:=Zh (F.keep n1.out);have f4:=F.keep r6;have f5:=F.keep r7;have f3:=F.keep q7;have r4:f+4<=e1.heap.size:=by have:=F.size;omega
 clear F p9 n1 u3 r6 r7 q7 x2;by_cases h0:Y=0;case neg=>
  have T:(Y != 0)=true:=by rw [bne_iff_ne];exact h0
  have a3:Hid (k3=Y):=Zh (by rw [n9.out,if_neg h0]);have e3:Hid (p1=[]):=Zh (by rw [o0.out,if_neg (by rw [a3.out];exact h0)]);have i7:=Qcf f4 f5 f3 oz oz oz (.slice none 0 0) (.slice none 0 0) (.int .i64 Y);have n8:=Zh i7;have y7:=cell_of_one f4;have z0:=free_of_one f4;have y8:=cell_of_one f5;have z1:=free_of_one f5;have y6:=cell_of_one f3;have y9:=free_of_one f3;clear i7 f4 f5 f3 n7;go_wp2;obtain⟨G,H,P,M⟩:=n8.out;refine Ye (v:=.tuple #[.slice none 0 0,.slice none 0 0,.int .i64 Y]) (base:=f) _ _ trivial fun w' ht' i6=>⟨Vy rfl rfl rfl rfl (ht'.heap G (Go.Ab.Shut.not G rfl)) (ht'.heap H (Go.Ab.Shut.not H rfl)) (ht'.heap P (Go.Ab.Shut.not P rfl)),_,_,by rw [a3.out],by rw [e3.out];exact Gp.nil _ _,?_⟩
  exact(m.after M (fun b hb p=>by have:=s.out;omega)).after ht' (fun b T U=>by have:=U.1;have:=s.out;omega)
 subst h0;obtain⟨z6,A2⟩:=u2.out rfl;have u7:Hid (k3=if X8 (Qt l ws)=true then 11 else 0):=Zh (by rw [n9.out,if_pos rfl]);clear n9 u2;go_upto_region 6 with (fail)
 obtain⟨k1,f6⟩:=zE ((e1.alloc (.cells #[.slice none 0 0] 48)).alloc (.cells #[.slice none 0 0] 60));have f2:Ext e1 k1:=by rw [<-f6];exact((Q0.refl _ e1).alloc _).alloc _
 have r0:k1.heap[e1.heap.size]?=some (.cells #[.slice none 0 0] 48 (0,0)):=by rw [<-f6];exact Q8 (Q3 rfl)
 have r1:k1.heap[e1.heap.size+1]?=some (.cells #[.slice none 0 0] 60 (0,0)):=by rw [<-f6];exact Q3 zy
 have r5:k1.heap.size=e1.heap.size+2:=by rw [<-f6];simp
 rw [f6];obtain⟨n,v8⟩:=zE e1.heap.size;rw [v8] at r0 r1 r5 r4 ⊢;have k8:=r4;have q0:=m.trans f2;have u5:=Zh (f2.keep u4.out);have x5:=f2.keep f4;have x7:=f2.keep f5;have w5:=f2.keep f3;clear f6 v8 f2 m u4 f4 f5 f3 r4
 go_wp2_with (refine wpList_load_row rfl 102 (.tmp 2) rfl f rfl _ _ _ _ u5.out Tryz.underlying102 rfl Tryz.lawInfo ?_)
 have r2:=n7.out k1 q0;rw [r5] at r2;have u6:=Zh r2;clear r2;refine u6.out.mono ?_;rintro e t9 ⟨y0,y1,rfl,q3,q5,q2,q4,z5,z8,F⟩;have q1:=q0.trans F;have x0:=F.keep r0;have x1:=F.keep r1;have x6:=F.keep x5;have i8:=F.keep x7;have w6:=F.keep w5;have x3:n+2<=t9.heap.size:=by have:=F.size;omega
 have v5:=(Array.getElem?_eq_some_iff.1 q3.1).1;have w0:=(Array.getElem?_eq_some_iff.1 q5).1;have v4:=(Array.getElem?_eq_some_iff.1 q2).1;have v6:=(Array.getElem?_eq_some_iff.1 q4).1;obtain⟨c,p8⟩:=zE t9.heap.size;rw [p8] at x3 v5 w0 v4 v6;have k9:=x3;have a8:=Zh p8;have z4:∃ f7,Gt Tryz.prog 225 #[.pointer (some ⟨n+2+1,0,none⟩),.pointer (some ⟨n+2,0,none⟩),.pointer (some ⟨y0,0,none⟩),.pointer (some ⟨y1,0,none⟩)] (Xr f7) (Q3z f7) (Qt l ws) (fun b=>b<c/\b≠n/\b≠n+1/\b≠f+1/\b≠f+2/\b≠f+3) t9:=by
  refine Qby (cs:=[.string s9,.int .i64 s1,.int .u32 (t4:Int),.int .u32 (s4:Int),.bool s7,.int .i64 p2,.int .i64 p4,.slice t0 o7 y,.int .i64 s2,.int .u32 (t5:Int),.int .u32 (s5:Int),.bool s8,.int .i64 p3,.int .i64 p5,.slice t1 o8 c2,.slice s0 o9 r9,.slice t3 p0 t2,.int .i64 s6]) (vo:=vo) (vc:=vc) z6 (by rw [g5.out];exact A2) (by rw [g5.out];exact w2) (by rw [g5.out];exact y2.out.mono fun b hb=>by have:=s.out;omega) (fun b hb=>by omega) (fun W r=>?_);have e5:Ext w W:=q1.after r (fun b hb p=>p (by have:=s.out;omega));exact⟨⟨r.heap q3.1 (fun p=>p oz),y3.out.ext e5⟩,by rw [g5.out];exact r.heap q5 (fun p=>p oz),by rw [g5.out];exact u8.out.ext e5,y4.out.keep e5 id,r.heap q2 (fun p=>p oz),r.heap q4 (fun p=>p oz)⟩
 obtain⟨f7,w7⟩:=z4;obtain⟨n0,o1,o3,m9,n5,n6⟩:=Zh6 w7 x6 i8 w6 x0 x1;clear w7 q3 q5 q2 q4 F q0 u5 r0 r1 x5 x7 w5 r5 x0 x1 x6 i8 w6 u6 n7 z5 z8 v5 w0 v4 v6 p8;go_wp2_with fail
 refine Ut (xs:=Qt l ws) (K:=fun b=>b<c/\b≠n/\b≠n+1/\b≠f+1/\b≠f+2/\b≠f+3) rfl (enters_of Tryz.func225 kz rfl) n0.out (fun b g8=>by rw [a8.out];exact g8.1) (fun _ _ x m8 e2 g8=>by obtain⟨k7,b8,rfl,_⟩:=g8;rfl) ?hEs
  (fun a9 a2 d=>∃ u v g0,TrI w f n c f7 a9 a2 d u v g0)
  (fun b8 _ a2 d=>b8=.ret/\d.heap[f+1]?=some (.cells #[.slice none 0 0] 48 (0,0))/\d.heap[f+2]?=some (.cells #[.slice none 0 0] 60 (0,0))/\d.heap[f+3]?=some (.cells #[.int .i64 11] 40 (0,0))/\Ext w d/\X8 a2=true) ?hI ?hIx ?h0 (fun e2 t=>(((t.setIfInBounds 21 (e2.getD 0 undef)).setIfInBounds 22 (e2.getD 1 undef)).setIfInBounds 10 (e2.getD 0 undef)).setIfInBounds 11 (e2.getD 1 undef)) ?assign ?body ?done ?stop
 case hEs=>
  rintro i a9 x m8 W e2 ⟨k7,b8,rfl,T,U,p6⟩ I A0;exact⟨k7,b8,rfl,⟨Rd.nocells I A0 T.1,T.2⟩,U,p6.mono fun b hb=>⟨hb.1,hb.2.1,Nat.lt_of_lt_of_le hb.2.2 I.size⟩⟩
 case hI=>
  rintro a9 y5 a2 m8 W ⟨u,v,g0,q⟩ a0 I v7;rw [a8.out] at a0 I;exact⟨u,v,g0,q.turn s.out k8 k9 a0 I v7⟩
 case hIx=>
  rintro b8 a9 y5 a2 m8 W ⟨A4,m2,m3,m4,r8,m5⟩ a0 I v7;rw [a8.out] at a0 I
  have m6:∀ b,b<c->¬ ((a9 b/\Xr f7 (c+2) b)\/b=c+1):=fun b hb p=>by
   rcases p with T | T
   ·have:=(a0 b T.1).1;omega
   ·omega
  exact⟨A4,I.heap m2 (m6 _ oz),I.heap m3 (m6 _ oz),I.heap m4 (m6 _ oz),r8.after I (fun b hb p=>m6 b (by have:=s.out;omega) p),m5⟩
 case h0=>
  intro W r i6;exact⟨_,_,[],r.keep o1.out,r.keep o3.out,r.keep m9.out,r.keep n5.out,r.keep n6.out,World.ownsRow_nil _ _ _ _,World.ownsRow_nil _ _ _ _,trivial,fun g hg=>(by cases hg),fun g hg=>(by cases hg),fun x a1=>(by cases a1),q1.trans r,rfl⟩
 case assign=>
  rintro i a9 x e2 d C0 ⟨k7,b8,rfl,_⟩ a;gi_wp2;exact a
 case done=>
  rintro a9 d ⟨u,v,g0,q⟩ a0 I f1;rw [a8.out] at f1;have a3:Hid (k3=0):=Zh (by rw [u7.out,if_neg (by rw [q.short];decide)]);have e3:Hid (p1=Qt l ws):=Zh (by rw [o0.out,if_pos a3.out]);obtain⟨D,e6⟩:=zE d.drew;have m:Ext d D:=by rw [<-e6];exact Q0.drew (Q0.refl _ d)
  obtain⟨b0,e9,f0,a5,g7,a4⟩:=Zh6 (m.keep q.ru) (m.keep q.bu) (m.keep q.bv) ((Q0.set1 D (f+1) 0 u).heap (m.keep q.rv) oz) ((Q0.set1 D (f+1) 0 u).heap (m.keep q.bv) oz) ((Q0.set1 (D.setCell ⟨f+1,0,none⟩ u) (f+2) 0 v).heap ((Q0.set1 D (f+1) 0 u).heap (m.keep q.re) oz) oz);obtain⟨G,H,P,M⟩:=Qcf (m.keep q.ru) (m.keep q.rv) (m.keep q.re) oz oz oz u v (.int .i64 0);obtain⟨W,r⟩:=zE (((D.setCell ⟨f+1,0,none⟩ u).setCell ⟨f+2,0,none⟩ v).setCell ⟨f+3,0,none⟩ (.int .i64 0));rw [r] at G H P M;have M:Q0 (fun b=>b=f+1\/b=f+2\/b=f+3) d W:=(Ext.of m).trans M;have w9:Gp w.heap.size W u v (Qt l ws):=by
   refine⟨Zb (Qf q.ou M (fun g hg e=>by have:=(q.ou.lt g hg).1;omega)) (by have:=s.out;omega),g0,Zb (Qf q.ov M (fun g hg e=>by have:=(q.ov.lt g hg).1;omega)) (by have:=s.out;omega),?_,fun x a1=>(q.wk x a1).mono fun b hb=>(by have T:=s.out;have U:=hb.1;omega)⟩;exact q.wd.keepS (S:=fun g=>c+2+f7<=g) (M.mono fun b _ e p=>by omega) (fun x a1=>(q.wk x a1).mono fun b hb=>hb.1)
  have l3:Z3 f ({ target:=.collected c,args:=#[] }::[]) W:=Z3.cons (base:=f) trivial oz (M.heap f1 oz) (fun e he=>by cases he);have e5:Ext w W:=q.ext.after M (fun b hb p=>by have:=s.out;omega);have k6:=Zh w9;have n2:=Zh l3;obtain⟨t8,t7,rfl⟩:=Zd q.ou;obtain⟨u1,u0,rfl⟩:=Zd q.ov;obtain⟨f9,x4⟩:=zE ((Qt l ws).length);rw [x4] at e9 f0 a5 g7 a4 r k6 G H;have o4:=Zh r;have u9:=Zh e6;clear w9 l3 q f1 I a0 n0 o1 o3 m9 n5 n6 q1 r e6 m x4;go_upto_region 12 with (fail)
  refine Z0 (S:=fun _=>True) [0,1,2,3,4] kz trivial ?_;intro _;rw [u9.out];clear u9;refine rE [0,1] ?_;refine Q1.late rfl rfl (fun K a=>?_) (Q1.late rfl rfl (fun K a=>?_) Q1.nil)
  ·refine iw rfl ?_;have b1:=cell_of_one e9.out;go_simp;refine a.out _ _ ?_;clear a K b1;try simp only [Act.put,pq]
   refine rE [1,2] ?_;refine Q1.late rfl rfl (fun K a=>?_) (Q1.late rfl rfl (fun K a=>?_) Q1.nil)
   ·refine iw rfl ?_;have b1:=cell_of_one f0.out;go_simp;refine a.out _ _ ?_;clear a K b1;try simp only [Act.put,pq]
    refine rE [2] ?_;refine Q1.late rfl rfl (fun K a=>?_) Q1.nil;refine iw rfl ?_;have z:=cell_of_one b0.out;have A:=free_of_one b0.out;go_simp;refine a.out _ _ ?_;clear a K z A
    (try change Qs _ _ _ _ _ _ _ _ (Act.put _ none _) _)
    (try simp only [Act.put])
    refine rE [3] ?_;refine Q1.late rfl rfl (fun K a=>?_) Q1.nil;refine iw rfl ?_;have z:=cell_of_one a5.out;have A:=free_of_one a5.out;go_simp;refine a.out _ _ ?_;clear a K z A
    (try change Qs _ _ _ _ _ _ _ _ (Act.put _ none _) _)
    (try simp only [Act.put])
    refine rE [4] ?_;refine Q1.late rfl rfl (fun K a=>?_) Q1.nil;refine iw rfl ?_;have z:=cell_of_one a4.out;have A:=free_of_one a4.out;go_simp;refine a.out _ _ ?_;clear a K z A
    (try change Qs _ _ _ _ _ _ _ _ (Act.put _ none _) _)
    (try simp only [Act.put])
    refine Ql kz ?_ _;rw [o4.out];clear b0 e9 f0 a5 g7 a4;go_wp2;rw [a8.out];refine Ye (v:=.tuple #[.slice t8 f9 t7,.slice u1 f9 u0,.int .i64 0]) (base:=f) _ _ n2.out fun w' ht' i6=>⟨Vy rfl rfl rfl rfl (ht'.heap G (Go.Ab.Shut.not G rfl)) (ht'.heap H (Go.Ab.Shut.not H rfl)) (ht'.heap P (Go.Ab.Shut.not P rfl)),_,_,by rw [a3.out],?_,?_⟩
    ·rw [e3.out];obtain⟨j3,j8,j4,j5,j6⟩:=k6.out;exact⟨Wq j3 ht',j8,Wq j4 ht',j5.shut ht',j6⟩
    ·exact e5.after ht' (fun b T U=>by have:=U.1;have:=s.out;omega)
   ·refine iw rfl ?_;have z:=cell_of_one b0.out;have A:=free_of_one b0.out;go_simp;refine a.out _ _ ?_;clear a K z A
    (try change Qs _ _ _ _ _ _ _ _ (Act.put _ none _) _)
    (try simp only [Act.put])
    refine rE [1] ?_;refine Q1.late rfl rfl (fun K a=>?_) Q1.nil;refine iw rfl ?_;have b1:=cell_of_one g7.out;go_simp;refine a.out _ _ ?_;clear a K b1;try simp only [Act.put,pq]
    refine rE [3] ?_;refine Q1.late rfl rfl (fun K a=>?_) Q1.nil;refine iw rfl ?_;have z:=cell_of_one a5.out;have A:=free_of_one a5.out;go_simp;refine a.out _ _ ?_;clear a K z A
    (try change Qs _ _ _ _ _ _ _ _ (Act.put _ none _) _)
    (try simp only [Act.put])
    refine rE [4] ?_;refine Q1.late rfl rfl (fun K a=>?_) Q1.nil;refine iw rfl ?_;have z:=cell_of_one a4.out;have A:=free_of_one a4.out;go_simp;refine a.out _ _ ?_;clear a K z A
    (try change Qs _ _ _ _ _ _ _ _ (Act.put _ none _) _)
    (try simp only [Act.put])
    refine Ql kz ?_ _;rw [o4.out];clear b0 e9 f0 a5 g7 a4;go_wp2;rw [a8.out];refine Ye (v:=.tuple #[.slice t8 f9 t7,.slice u1 f9 u0,.int .i64 0]) (base:=f) _ _ n2.out fun w' ht' i6=>⟨Vy rfl rfl rfl rfl (ht'.heap G (Go.Ab.Shut.not G rfl)) (ht'.heap H (Go.Ab.Shut.not H rfl)) (ht'.heap P (Go.Ab.Shut.not P rfl)),_,_,by rw [a3.out],?_,?_⟩
    ·rw [e3.out];obtain⟨j3,j8,j4,j5,j6⟩:=k6.out;exact⟨Wq j3 ht',j8,Wq j4 ht',j5.shut ht',j6⟩
    ·exact e5.after ht' (fun b T U=>by have:=U.1;have:=s.out;omega)
  ·refine iw rfl ?_;have b1:=cell_of_one f0.out;go_simp;refine a.out _ _ ?_;clear a K b1;try simp only [Act.put,pq]
   refine rE [0] ?_;refine Q1.late rfl rfl (fun K a=>?_) Q1.nil;refine iw rfl ?_;have b1:=cell_of_one e9.out;go_simp;refine a.out _ _ ?_;clear a K b1;try simp only [Act.put,pq]
   refine rE [2] ?_;refine Q1.late rfl rfl (fun K a=>?_) Q1.nil;refine iw rfl ?_;have z:=cell_of_one b0.out;have A:=free_of_one b0.out;go_simp;refine a.out _ _ ?_;clear a K z A
   (try change Qs _ _ _ _ _ _ _ _ (Act.put _ none _) _)
   (try simp only [Act.put])
   refine rE [3] ?_;refine Q1.late rfl rfl (fun K a=>?_) Q1.nil;refine iw rfl ?_;have z:=cell_of_one a5.out;have A:=free_of_one a5.out;go_simp;refine a.out _ _ ?_;clear a K z A
   (try change Qs _ _ _ _ _ _ _ _ (Act.put _ none _) _)
   (try simp only [Act.put])
   refine rE [4] ?_;refine Q1.late rfl rfl (fun K a=>?_) Q1.nil;refine iw rfl ?_;have z:=cell_of_one a4.out;have A:=free_of_one a4.out;go_simp;refine a.out _ _ ?_;clear a K z A
   (try change Qs _ _ _ _ _ _ _ _ (Act.put _ none _) _)
   (try simp only [Act.put])
   refine Ql kz ?_ _;rw [o4.out];clear b0 e9 f0 a5 g7 a4;go_wp2;rw [a8.out];refine Ye (v:=.tuple #[.slice t8 f9 t7,.slice u1 f9 u0,.int .i64 0]) (base:=f) _ _ n2.out fun w' ht' i6=>⟨Vy rfl rfl rfl rfl (ht'.heap G (Go.Ab.Shut.not G rfl)) (ht'.heap H (Go.Ab.Shut.not H rfl)) (ht'.heap P (Go.Ab.Shut.not P rfl)),_,_,by rw [a3.out],?_,?_⟩
   ·rw [e3.out];obtain⟨j3,j8,j4,j5,j6⟩:=k6.out;exact⟨Wq j3 ht',j8,Wq j4 ht',j5.shut ht',j6⟩
   ·exact e5.after ht' (fun b T U=>by have:=U.1;have:=s.out;omega)
 case stop=>
  rintro b8 a9 a2 x t6 d a1 ⟨rfl,m2,m3,m4,r8,m5⟩ f1;rw [a8.out] at f1 ⊢;have z7:X8 (Qt l ws)=true:=by
   rw [a1];unfold X8 at m5 ⊢;rw [show a2++x::t6=(a2++[x])++t6 by simp,List.any_append,m5];rfl
  have a3:Hid (k3=11):=Zh (by rw [u7.out,if_pos z7]);have e3:Hid (p1=[]):=Zh (by rw [o0.out,if_neg (by rw [a3.out];decide)]);refine wp_ret ?_;have l3:Z3 f ({ target:=.collected c,args:=#[] }::[]) d:=Z3.cons (base:=f) trivial oz f1 (fun e he=>by cases he);refine Ye (v:=.tuple #[.slice none 0 0,.slice none 0 0,.int .i64 11]) (base:=f) _ _ l3 fun w' ht' i6=>⟨Vy rfl rfl rfl rfl (ht'.heap m2 (Go.Ab.Shut.not m2 rfl)) (ht'.heap m3 (Go.Ab.Shut.not m3 rfl)) (ht'.heap m4 (Go.Ab.Shut.not m4 rfl)),_,_,by rw [a3.out],by rw [e3.out];exact Gp.nil _ _,?_⟩
  exact r8.after ht' (fun b T U=>by have:=U.1;have:=s.out;omega)
 case body=>
  rintro a9 a2 ⟨a7,k2⟩ t6 e2 d a1 A1 a0 I ⟨u,v,g0,q⟩ ⟨b5,b4,rfl,m1,j0,m0⟩;rw [a8.out] at A1 a0 m0 ⊢;simp only [pq];dsimp only at m1 j0 m0 ⊢;have z9:a2.length<=32:=by
   have:=congrArg List.length a1;rw [List.length_append,List.length_cons] at this;omega
  obtain⟨V,j1⟩:=zE k2.length;have g6:=Zh j1;have x8:=m1.1.2.1;unfold maxLen at x8;rw [j1] at x8;obtain⟨o6,o5,j,k5,B9⟩:=Zh5 m1 m0 q a0 a1;rw [j1];have A3:=j0;rw [j1] at A3;clear j1 m1 m0 q a0 a1 I n0 o1 o3 m9 n5 n6;by_cases g9:V<=32;case neg=>
   have z2:(32:Int)<(V:Int):=by omega
   have i7:=Qcf j.out.ru j.out.rv j.out.re oz oz oz (.slice none 0 0) (.slice none 0 0) (.int .i64 11);have n8:=Zh i7;have y7:=cell_of_one j.out.ru;have z0:=free_of_one j.out.ru;have y8:=cell_of_one j.out.rv;have z1:=free_of_one j.out.rv;have y6:=cell_of_one j.out.re;have y9:=free_of_one j.out.re;clear i7;gi_wp2;obtain⟨G,H,P,M⟩:=n8.out;refine⟨M.mono fun b _ e p=>?_,rfl,G,H,P,j.out.ext.after M (fun b hb p=>by have:=s.out;omega),?_⟩
   ·rcases p with p | p | p | p
    ·omega
    ·have:=(k5.out b p).1;omega
    ·omega
    ·omega
   ·unfold X8;rw [List.any_append];simp [g6.out];omega
  have z2:¬ (32:Int)<(V:Int):=by omega
  have g9:k2.length<=32:=by rw [g6.out];exact g9
  gi_wp2;obtain⟨i,p⟩:=zE a2.length;have e8:=Zh p;have l4:=j.out.ou;have l5:=j.out.ov;rw [p] at l4 l5 z9;have w4:=Jp l4 l5 zd;obtain⟨o2,n3,n4⟩:=Zh3 w4 l4 l5
  have w8:∀ d9,(d9=n\/d9=n+1)->¬ (u.ownBlock=some d9\/v.ownBlock=some d9):=fun d9 hq e=>by
   rcases e with e | e
   ·have:=(j.out.ou.lt _ e).1;omega
   ·have:=(j.out.ov.lt _ e).1;omega
  have X:=Zh w8;have w3:∀(W:World),Q0 (fun b=>u.ownBlock=some b\/v.ownBlock=some b) d W->W.cell? ⟨n,0,none⟩=some u/\W.cell? ⟨n+1,0,none⟩=some v:=fun W r=>⟨cell_of_one (r.heap j.out.bu (X.out _ (.inl rfl))),cell_of_one (r.heap j.out.bv (X.out _ (.inr rfl)))⟩;have Q:=Zh w3;clear p l4 l5 w4 w8 w3;refine Gu (S:=fun W=>W.cell? ⟨n,0,none⟩=some u/\W.cell? ⟨n+1,0,none⟩=some v) [8,9] kz kz (by rintro⟨_,_,g8⟩;exact g8) (Q.out _ (Q0.drew (Q0.refl _ d))) ?_;intro i3;obtain⟨D,e6⟩:=zE d.drew;have m:Ext d D:=by rw [<-e6];exact Q0.drew (Q0.refl _ d)
  have C3:=m.size;rw [e6] at i3 ⊢;clear e6;refine tE 0 26 i3 ?_;refine tE 1 27 i3 ?_;refine tE 4 30 i3 ?_;refine tE 5 31 i3 ?_;refine rE [2,6] ?_;refine Q1.cons rfl (fun K a=>?_) (Q1.cons rfl (fun K a=>?_) Q1.nil)
  ·refine iw rfl ?_;go_simp;obtain⟨N,b2⟩:=zE (D.alloc (.cells #[.int .i64 (a7:Int)] 3));have E:Ext D N:=by rw [<-b2];exact(Q0.refl _ _).alloc _
   have f8:N.heap[D.heap.size]?=some (.cells #[.int .i64 (a7:Int)] 3 (0,0)):=by rw [<-b2];exact Q3 rfl
   obtain⟨k4,i2⟩:=zE D.heap.size;rw [b2,i2];rw [i2] at f8;have A6:=E.size;clear b2;refine a.out _ _ (Q.out _ (Ext.of (m.trans E))) (fun _=>?_);clear a K;try simp only [Act.put,pq]
   refine rE [3,6] ?_;refine Q1.cons rfl (fun K a=>?_) (Q1.cons rfl (fun K a=>?_) Q1.nil)
   ·refine iw rfl ?_;refine Yj (.tmp 26) (.tmp 28) 48 rfl (c+2) 3 _ 1 8 Tryz.underlying48 Tryz.infoI rfl zd _ _ _ rfl (Q7 n3.out (m.trans E)) ⟨k4,0,none⟩ 1 1 [.int .i64 (a7:Int)] rfl rfl (Gk f8) ?c2 ?c3 ?c4 ?c5 ?_;case c2=>first | rfl | (intro u C;simp at C;rcases C with rfl;rfl)
    case c3=>unfold maxLen;omega
    case c4=>omega
    case c5=>omega
    intro L y R c9 a6 i0;have m7:Q0 (fun b=>u.ownBlock=some b\/v.ownBlock=some b) d R:=(Ext.of (m.trans E)).trans (a6.mono fun b _ e=>.inl e);have C7:=m7.size;refine a.out _ _ (Q.out _ (m7)) (fun _=>?_);clear a K;try simp only [Act.put,pq]
    have i8:=Qf n4.out (((Ext.of (m.trans E)).trans a6):Q0 (fun b=>u.ownBlock=some b) d R) (fun g hg e=>o2.out g e hg);refine rE [6] ?_;refine Q1.cons rfl (fun K a=>?_) Q1.nil;refine iw rfl ?_;go_simp;obtain⟨b7,l0⟩:=zE (R.alloc (.cells #[.slice b5 V b4] 99));have e4:Ext R b7:=by rw [<-l0];exact(Q0.refl _ _).alloc _
    have x9:b7.heap[R.heap.size]?=some (.cells #[.slice b5 V b4] 99 (0,0)):=by rw [<-l0];exact Q3 rfl
    obtain⟨g2,c1⟩:=zE R.heap.size;rw [l0,c1];rw [c1] at x9;have C8:=e4.size;clear l0;refine a.out _ _ (Q.out _ (m7.trans (Ext.of e4))) (fun _=>?_);clear a K;try simp only [Act.put,pq]
    refine rE [7] ?_;refine Q1.cons rfl (fun K a=>?_) Q1.nil;refine iw rfl ?_;refine Yj (.tmp 30) (.tmp 32) 60 rfl (c+2) 99 _ 1 24 Tryz.underlying60 Tryz.infoW rfl zd _ _ _ rfl (Q7 i8 e4) ⟨g2,0,none⟩ 1 1 [.slice b5 V b4] rfl rfl (Gk x9) ?d2 ?d3 ?d4 ?d5 ?_;case d2=>first | rfl | (intro u C;simp at C;rcases C with rfl;rfl)
    case d3=>unfold maxLen;omega
    case d4=>omega
    case d5=>omega
    intro Z c2 J i4 c8 i1;have e0:Q0 (fun b=>u.ownBlock=some b\/v.ownBlock=some b) d J:=(m7.trans (Ext.of e4)).trans (c8.mono fun b _ e=>.inr e);refine a.out _ _ (Q.out _ (e0)) (fun _=>?_);clear a K;try simp only [Act.put]
    have d0:=Qf (Q7 c9 e4) c8 (fun g hg e=>Jp (Q7 c9 e4) (Q7 i8 e4) zd g hg e);have d1:=i4;have d6:(Value.slice L (i+1) y).ownBlock=u.ownBlock\/∃ k,d.heap.size<=k/\(Value.slice L (i+1) y).ownBlock=some k:=i0.imp id fun e=>⟨_,by omega,e⟩;have d7:(Value.slice Z (i+1) c2).ownBlock=v.ownBlock\/∃ k,d.heap.size<=k/\(Value.slice Z (i+1) c2).ownBlock=some k:=i1.imp id fun e=>⟨_,by omega,e⟩;have B:Q0 (fun b=>u.ownBlock=some b\/v.ownBlock=some b) d J:=e0;obtain⟨⟨j7,k0,j9,c0⟩,c6⟩:=j.out.push s.out k8 k9 k5.out oz o6.out j0 o5.out g9 (x:=(a7,k2)) (W:=J) (u':=.slice L (i+1) y) (v':=.slice Z (i+1) c2) (by rw [e8.out];exact d0) (by rw [e8.out,g6.out];exact d1) B d6 d7;have g3:=Zh c0;have g4:=Zh c6;have v0:=cell_of_one (B.heap j.out.bu (X.out n (.inl rfl)));have v2:=free_of_one (B.heap j.out.bu (X.out n (.inl rfl)));have c7:(J.setCell ⟨n,0,none⟩ (.slice L (i+1) y)).heap[n+1]?=some (.cells #[v] 60 (0,0)):=(Q0.set1 _ n 0 _).heap (B.heap j.out.bv (X.out _ (.inr rfl))) oz;have b6:=Zh c7;clear c0 c6 B d0 d1 d6 d7 c7;refine rE [8] ?_;refine Q1.late rfl rfl (fun K a=>?_) Q1.nil;refine iw rfl ?_;go_simp;refine a.out _ _ ?_;clear a K
    (try change Qs _ _ _ _ _ _ _ _ (Act.put _ none _) _)
    (try simp only [Act.put])
    have v1:=cell_of_one b6.out;have v3:=free_of_one b6.out;refine rE [9] ?_;refine Q1.late rfl rfl (fun K a=>?_) Q1.nil;refine iw rfl ?_;go_simp;refine a.out _ _ ?_;clear a K
    (try change Qs _ _ _ _ _ _ _ _ (Act.put _ none _) _)
    (try simp only [Act.put])
    refine Ql kz ?_ _;exact⟨g4.out,j7,k0,j9,g3.out⟩
   ·refine iw rfl ?_;go_simp;obtain⟨R,b3⟩:=zE (N.alloc (.cells #[.slice b5 V b4] 99));have O:Ext N R:=by rw [<-b3];exact(Q0.refl _ _).alloc _
    have j2:R.heap[N.heap.size]?=some (.cells #[.slice b5 V b4] 99 (0,0)):=by rw [<-b3];exact Q3 rfl
    obtain⟨g2,c1⟩:=zE N.heap.size;rw [b3,c1];rw [c1] at j2;have A7:=O.size;clear b3;refine a.out _ _ (Q.out _ (Ext.of ((m.trans E).trans O))) (fun _=>?_);clear a K;try simp only [Act.put,pq]
    refine rE [3] ?_;refine Q1.cons rfl (fun K a=>?_) Q1.nil;refine iw rfl ?_;refine Yj (.tmp 26) (.tmp 28) 48 rfl (c+2) 3 _ 1 8 Tryz.underlying48 Tryz.infoI rfl zd _ _ _ rfl (Q7 n3.out ((m.trans E).trans O)) ⟨k4,0,none⟩ 1 1 [.int .i64 (a7:Int)] rfl rfl (Gk (O.keep f8)) ?c2 ?c3 ?c4 ?c5 ?_;case c2=>first | rfl | (intro u C;simp at C;rcases C with rfl;rfl)
    case c3=>unfold maxLen;omega
    case c4=>omega
    case c5=>omega
    intro L y b7 c9 a6 i0;have e7:Q0 (fun b=>u.ownBlock=some b\/v.ownBlock=some b) d b7:=(Ext.of ((m.trans E).trans O)).trans (a6.mono fun b _ e=>.inl e);have A5:=e7.size;have s3:=a6.heap j2 (fun e=>by have:=(j.out.ou.lt _ e).2;omega);refine a.out _ _ (Q.out _ (e7)) (fun _=>?_);clear a K;try simp only [Act.put,pq]
    have i9:=Qf n4.out (((Ext.of ((m.trans E).trans O)).trans a6):Q0 (fun b=>u.ownBlock=some b) d b7) (fun g hg e=>o2.out g e hg);refine rE [7] ?_;refine Q1.cons rfl (fun K a=>?_) Q1.nil;refine iw rfl ?_;refine Yj (.tmp 30) (.tmp 32) 60 rfl (c+2) 99 _ 1 24 Tryz.underlying60 Tryz.infoW rfl zd _ _ _ rfl i9 ⟨g2,0,none⟩ 1 1 [.slice b5 V b4] rfl rfl (Gk s3) ?d2 ?d3 ?d4 ?d5 ?_;case d2=>first | rfl | (intro u C;simp at C;rcases C with rfl;rfl)
    case d3=>unfold maxLen;omega
    case d4=>omega
    case d5=>omega
    intro Z c2 J i4 c8 i1;have e0:Q0 (fun b=>u.ownBlock=some b\/v.ownBlock=some b) d J:=e7.trans (c8.mono fun b _ e=>.inr e);refine a.out _ _ (Q.out _ (e0)) (fun _=>?_);clear a K;try simp only [Act.put]
    have d0:=Qf c9 c8 (fun g hg e=>Jp c9 i9 zd g hg e);have d1:=i4;have d6:(Value.slice L (i+1) y).ownBlock=u.ownBlock\/∃ k,d.heap.size<=k/\(Value.slice L (i+1) y).ownBlock=some k:=i0.imp id fun e=>⟨_,by omega,e⟩;have d7:(Value.slice Z (i+1) c2).ownBlock=v.ownBlock\/∃ k,d.heap.size<=k/\(Value.slice Z (i+1) c2).ownBlock=some k:=i1.imp id fun e=>⟨_,by omega,e⟩;have B:Q0 (fun b=>u.ownBlock=some b\/v.ownBlock=some b) d J:=e0;obtain⟨⟨j7,k0,j9,c0⟩,c6⟩:=j.out.push s.out k8 k9 k5.out oz o6.out j0 o5.out g9 (x:=(a7,k2)) (W:=J) (u':=.slice L (i+1) y) (v':=.slice Z (i+1) c2) (by rw [e8.out];exact d0) (by rw [e8.out,g6.out];exact d1) B d6 d7;have g3:=Zh c0;have g4:=Zh c6;have v0:=cell_of_one (B.heap j.out.bu (X.out n (.inl rfl)));have v2:=free_of_one (B.heap j.out.bu (X.out n (.inl rfl)));have c7:(J.setCell ⟨n,0,none⟩ (.slice L (i+1) y)).heap[n+1]?=some (.cells #[v] 60 (0,0)):=(Q0.set1 _ n 0 _).heap (B.heap j.out.bv (X.out _ (.inr rfl))) oz;have b6:=Zh c7;clear c0 c6 B d0 d1 d6 d7 c7;refine rE [8] ?_;refine Q1.late rfl rfl (fun K a=>?_) Q1.nil;refine iw rfl ?_;go_simp;refine a.out _ _ ?_;clear a K
    (try change Qs _ _ _ _ _ _ _ _ (Act.put _ none _) _)
    (try simp only [Act.put])
    have v1:=cell_of_one b6.out;have v3:=free_of_one b6.out;refine rE [9] ?_;refine Q1.late rfl rfl (fun K a=>?_) Q1.nil;refine iw rfl ?_;go_simp;refine a.out _ _ ?_;clear a K
    (try change Qs _ _ _ _ _ _ _ _ (Act.put _ none _) _)
    (try simp only [Act.put])
    refine Ql kz ?_ _;exact⟨g4.out,j7,k0,j9,g3.out⟩
  ·refine iw rfl ?_;go_simp;obtain⟨N,b2⟩:=zE (D.alloc (.cells #[.slice b5 V b4] 99));have E:Ext D N:=by rw [<-b2];exact(Q0.refl _ _).alloc _
   have f8:N.heap[D.heap.size]?=some (.cells #[.slice b5 V b4] 99 (0,0)):=by rw [<-b2];exact Q3 rfl
   obtain⟨g2,c1⟩:=zE D.heap.size;rw [b2,c1];rw [c1] at f8;have A6:=E.size;clear b2;refine a.out _ _ (Q.out _ (Ext.of (m.trans E))) (fun _=>?_);clear a K;try simp only [Act.put,pq]
   refine rE [2] ?_;refine Q1.cons rfl (fun K a=>?_) Q1.nil;refine iw rfl ?_;go_simp;obtain⟨R,b3⟩:=zE (N.alloc (.cells #[.int .i64 (a7:Int)] 3));have O:Ext N R:=by rw [<-b3];exact(Q0.refl _ _).alloc _
   have j2:R.heap[N.heap.size]?=some (.cells #[.int .i64 (a7:Int)] 3 (0,0)):=by rw [<-b3];exact Q3 rfl
   obtain⟨k4,i2⟩:=zE N.heap.size;rw [b3,i2];rw [i2] at j2;have A7:=O.size;clear b3;refine a.out _ _ (Q.out _ (Ext.of ((m.trans E).trans O))) (fun _=>?_);clear a K;try simp only [Act.put,pq]
   refine rE [3] ?_;refine Q1.cons rfl (fun K a=>?_) Q1.nil;refine iw rfl ?_;refine Yj (.tmp 26) (.tmp 28) 48 rfl (c+2) 3 _ 1 8 Tryz.underlying48 Tryz.infoI rfl zd _ _ _ rfl (Q7 n3.out ((m.trans E).trans O)) ⟨k4,0,none⟩ 1 1 [.int .i64 (a7:Int)] rfl rfl (Gk j2) ?c2 ?c3 ?c4 ?c5 ?_;case c2=>first | rfl | (intro u C;simp at C;rcases C with rfl;rfl)
   case c3=>unfold maxLen;omega
   case c4=>omega
   case c5=>omega
   intro L y b7 c9 a6 i0;have e7:Q0 (fun b=>u.ownBlock=some b\/v.ownBlock=some b) d b7:=(Ext.of ((m.trans E).trans O)).trans (a6.mono fun b _ e=>.inl e);have A5:=e7.size;have s3:=a6.heap (O.keep f8) (fun e=>by have:=(j.out.ou.lt _ e).2;omega);refine a.out _ _ (Q.out _ (e7)) (fun _=>?_);clear a K;try simp only [Act.put,pq]
   have i9:=Qf n4.out (((Ext.of ((m.trans E).trans O)).trans a6):Q0 (fun b=>u.ownBlock=some b) d b7) (fun g hg e=>o2.out g e hg);refine rE [7] ?_;refine Q1.cons rfl (fun K a=>?_) Q1.nil;refine iw rfl ?_;refine Yj (.tmp 30) (.tmp 32) 60 rfl (c+2) 99 _ 1 24 Tryz.underlying60 Tryz.infoW rfl zd _ _ _ rfl i9 ⟨g2,0,none⟩ 1 1 [.slice b5 V b4] rfl rfl (Gk s3) ?d2 ?d3 ?d4 ?d5 ?_;case d2=>first | rfl | (intro u C;simp at C;rcases C with rfl;rfl)
   case d3=>unfold maxLen;omega
   case d4=>omega
   case d5=>omega
   intro Z c2 J i4 c8 i1;have e0:Q0 (fun b=>u.ownBlock=some b\/v.ownBlock=some b) d J:=e7.trans (c8.mono fun b _ e=>.inr e);refine a.out _ _ (Q.out _ (e0)) (fun _=>?_);clear a K;try simp only [Act.put]
   have d0:=Qf c9 c8 (fun g hg e=>Jp c9 i9 zd g hg e);have d1:=i4;have d6:(Value.slice L (i+1) y).ownBlock=u.ownBlock\/∃ k,d.heap.size<=k/\(Value.slice L (i+1) y).ownBlock=some k:=i0.imp id fun e=>⟨_,by omega,e⟩;have d7:(Value.slice Z (i+1) c2).ownBlock=v.ownBlock\/∃ k,d.heap.size<=k/\(Value.slice Z (i+1) c2).ownBlock=some k:=i1.imp id fun e=>⟨_,by omega,e⟩;have B:Q0 (fun b=>u.ownBlock=some b\/v.ownBlock=some b) d J:=e0;obtain⟨⟨j7,k0,j9,c0⟩,c6⟩:=j.out.push s.out k8 k9 k5.out oz o6.out j0 o5.out g9 (x:=(a7,k2)) (W:=J) (u':=.slice L (i+1) y) (v':=.slice Z (i+1) c2) (by rw [e8.out];exact d0) (by rw [e8.out,g6.out];exact d1) B d6 d7;have g3:=Zh c0;have g4:=Zh c6;have v0:=cell_of_one (B.heap j.out.bu (X.out n (.inl rfl)));have v2:=free_of_one (B.heap j.out.bu (X.out n (.inl rfl)));have c7:(J.setCell ⟨n,0,none⟩ (.slice L (i+1) y)).heap[n+1]?=some (.cells #[v] 60 (0,0)):=(Q0.set1 _ n 0 _).heap (B.heap j.out.bv (X.out _ (.inr rfl))) oz;have b6:=Zh c7;clear c0 c6 B d0 d1 d6 d7 c7;refine rE [8] ?_;refine Q1.late rfl rfl (fun K a=>?_) Q1.nil;refine iw rfl ?_;go_simp;refine a.out _ _ ?_;clear a K
   (try change Qs _ _ _ _ _ _ _ _ (Act.put _ none _) _)
   (try simp only [Act.put])
   have v1:=cell_of_one b6.out;have v3:=free_of_one b6.out;refine rE [9] ?_;refine Q1.late rfl rfl (fun K a=>?_) Q1.nil;refine iw rfl ?_;go_simp;refine a.out _ _ ?_;clear a K
   (try change Qs _ _ _ _ _ _ _ _ (Act.put _ none _) _)
   (try simp only [Act.put])
   refine Ql kz ?_ _;exact⟨g4.out,j7,k0,j9,g3.out⟩
theorem Qa2{w:World}{v:Value}{ws:Wd}(j:Q6 w v ws)(E:ws.length<=1000000) :
  Calls Tryz.prog 81 #[v] w fun e w'=>∃ ao cap,e=.returned (.slice ao ws.length cap)/\w'.ownsRow w.heap.size 95 2 (.slice ao ws.length cap) ws.length (Za ws)/\Ext w w':=by
 have c:=j.1;obtain⟨C,m,ao,cap,rfl,d⟩:=c;have y:=Zh j;obtain⟨f,i⟩:=zE ws.length;rw [i] at m d E ⊢;have l:=Zh i;clear j i C;unfold maxLen at m;cases ao with
 | none=>
  have F:f=0:=by
   apply Nat.eq_zero_of_not_pos;intro D;obtain⟨I,J,n,_⟩:=d D;cases n
  subst F;have H:ws=[]:=List.eq_nil_of_length_eq_zero l.out;subst H;clear d;have G:=fun(w:World)=>Lib.run_eql_slice_nil (P:=Tryz.prog) w 99 95 none 0 cap 0 0 Tryz.underlying99;go_enter Tryz.func81,Tryz.ntmps81;go_wp2;go_ret;exact⟨none,0,rfl,World.ownsRow_nil _ _ _ _,Q0.refl _ _⟩
 | some a=>
  clear d;have G:=fun(w:World)=>Lib.run_eql_slice_nil (P:=Tryz.prog) w 99 95 (some a) f cap 0 0 Tryz.underlying99;go_enter Tryz.func81,Tryz.ntmps81;have g:Ext w (w.alloc (.cells #[] 95)):=(Q0.refl _ w).alloc _;have p:=World.ownsRow_made (base:=w.heap.size) (e:=95) (size:=2) w #[] 0 (Nat.le_refl _) zd rfl;have c:=(y.out.ext g).1;rw [l.out] at c;obtain⟨t,x,k⟩:=Zh3 p c g;clear p c g
  go_wp2_with (at_builtin;refine Jo rfl (.tmp 5) (.tmp 6) 99 rfl w.heap.size 95 _ 2 8 Tryz.underlying99 @Xt rfl zd _ 0 [] rfl t.out _ _ _ _ rfl x.out (Uz ws) ?c3 ?c4 ?c5 ?_)
  case c3=>unfold maxLen;omega
  case c4=>omega
  case c5=>exact k.out.size
  intro A B z q r _;have o:Ext w z:=k.out.after r (fun b n e=>by simp [Value.ownBlock] at e;omega);have u:=Zh q;have s:=Zh o;clear q o r;go_wp2;go_ret;refine⟨A,B,?_,?_,s.out⟩
  ·first | rfl | simp
  ·have:=u.out
   simpa using this
theorem Zl.own{w:World}{base:Nat}{e:TypeId}{ao:Option Addr}{c:Nat}{u:Wd}(h:w.ownsRow base e 2 (.slice ao u.length c) u.length (Za u)) (hok:Yf u):Zl w (.slice ao u.length c) u:=⟨ao,c,rfl,Q2m h hok,(Vb h).1⟩
theorem Zl.nil(w:World):Zl w (.slice none 0 0) []:=⟨none,0,rfl,⟨⟨rfl,by simp [maxLen],none,0,rfl,fun h=>by simp at h⟩,by simp [Yf]⟩,Nat.le_refl _⟩
theorem Q4k{l:Q5}{ws:Wd}(h:trE l ws=0)(a:(trT l ws).length=0):Jl l ws=ws:=by
 unfold trT at a;rw [if_pos h] at a;unfold Jl Q1s;rw [if_pos h,List.eq_nil_of_length_eq_zero a];rfl
theorem Ez{l:Q5}{ws:Wd}(h:trE l ws=0){k:Nat}(b:(trT l ws).length=k+1):∀(hk:k<(trT l ws).length),(trT l ws)[k].2=Jl l ws:=by
 intro hk;have a:trT l ws=Qt l ws:=by unfold trT;rw [if_pos h]
 unfold Jl Q1s;rw [if_pos h,List.getLastD_eq_getLast?,List.getLast?_eq_getElem?,List.length_map,<-a,b,Nat.add_sub_cancel,List.getElem?_map,List.getElem?_eq_getElem hk];rfl
theorem Q1z{l:Q5}{ws:Wd}(h:trE l ws≠0):Jl l ws=[]:=by unfold Jl;rw [if_neg h]
theorem Qar{w:World}{l:Q5}{cs:List Value}{vo:Option Addr}{vc:Nat}{ws:Wd}(U:Zf w l cs)(C:Q6 w (.slice vo ws.length vc) ws) (f2:ws.length<=vc) (b5:Tab w) :
  Calls Tryz.prog 131 #[.agg cs.toArray,.slice vo ws.length vc] w fun e w'=>∃ u,e=.returned (.tuple #[u,.int .i64 (trE l ws)])/\Zl w' u (Jl l ws)/\Qw (fun g=>w.heap.size<=g) u/\Ext w w':=by
 have t:=fun(V:World) (c:Ext w V)=>Q8g (U.ext c) (C.ext c) f2 (b5.keep c id);have Q:=fun(V:World) (c:Ext w V) (d:ws.length<=32)=>Qa2 (C.ext c) (Nat.le_trans d zd);have c0:=C.2;have B:trE l ws=0->ws.length<=32:=fun m=>Cc (He (Rh m)).2;have n:=@Q4k l ws;have p:=@Ez l ws;have z:=@Q1z l ws;obtain⟨e2,Y⟩:=zE ws.length;rw [Y] at t Q B ⊢;obtain⟨d3,c6,d8,c8,d1,a8,b0,d4,a3,b2,c7,d9,c9,d2,a9,b1,d5,a4,b3,c5,a5,c4,d7,a6,d6,d0,rfl,f7,g5,g6,f6,g4,g3,f9,g0,g1,g2,f8,i6,i7,i8,i9,j0⟩:=Zr U;obtain⟨a0,c⟩:=zE (trE l ws);obtain⟨a7,b6⟩:=zE (trT l ws);obtain⟨v,b4⟩:=zE (Jl l ws);rw [c] at t B n p z ⊢;rw [b6] at t n p;rw [b4] at n p z ⊢;obtain⟨a2,I,e7,e6,F,G,H,f0⟩:=Zh8 t Q B c0 n p z Y;clear U C b5 t Q B c0 n p z c b6 b4 Y;go_enter Tryz.func131,Tryz.ntmps131;go_upto_region 1 with (fail)
 obtain⟨e0,E⟩:=zE (w.alloc (.cells #[.string d3,.int .i64 c6,.int .u32 (d8:Int),.int .u32 (c8:Int),.bool d1,.int .i64 a8,.int .i64 b0,.slice d4 a3 b2,.int .i64 c7,.int .u32 (d9:Int),.int .u32 (c9:Int),.bool d2,.int .i64 a9,.int .i64 b1,.slice d5 a4 b3,.slice c5 a5 c4,.slice d7 a6 d6,.int .i64 d0] 102));have A:Ext w e0:=by rw [<-E];exact(Q0.refl _ w).alloc _
 have W:e0.heap[w.heap.size]?=some (.cells #[.string d3,.int .i64 c6,.int .u32 (d8:Int),.int .u32 (c8:Int),.bool d1,.int .i64 a8,.int .i64 b0,.slice d4 a3 b2,.int .i64 c7,.int .u32 (d9:Int),.int .u32 (c9:Int),.bool d2,.int .i64 a9,.int .i64 b1,.slice d5 a4 b3,.slice c5 a5 c4,.slice d7 a6 d6,.int .i64 d0] 102 (0,0)):=by rw [<-E];exact Q3 rfl
 rw [E];obtain⟨e3,L⟩:=zE w.heap.size;rw [L] at W ⊢;have a1:=Zh W;have f5:=Zh L;clear E W L
 go_wp2_with (refine wpList_load_row rfl 102 (.tmp 2) rfl e3 rfl _ _ _ _ a1.out Tryz.underlying102 rfl Tryz.lawInfo ?_)
 refine(a2.out _ A).mono ?_;rintro e e1 ⟨u,j3,rfl,N,r⟩;have q:=A.trans r;have s:=N.out;obtain⟨j2,j1,j5,j4,rfl,rfl,c3⟩:=s.slices;obtain⟨e5,e8,e9⟩:=Zh3 N A.size q.size;clear N r A a1 a2;by_cases m:a0=0;case neg=>
  have i1:(a0 != 0)=true:=by rw [bne_iff_ne];exact m
  have i:=H.out m;subst i;clear s;go_wp2;go_ret2;exact⟨_,rfl,Zl.nil _,fun g o a y e h=>(by cases e),q⟩
 subst m;have f3:=e7.out rfl;obtain⟨a,d⟩:=zE a7.length;rw [d] at c3 ⊢;unfold maxLen at c3;by_cases b8:a=0
 ·subst b8;have i:=F.out rfl d;have e4:=Zh (I.out e1 q f3);clear s d F G H I;go_wp2_with fail;refine e4.out.mono ?_;rintro e f4 ⟨k,K,rfl,M,r⟩;have f1:=q.trans r;have c1:Zl f4 (.slice k e2 K) v:=by
   rw [i];have:=M;rw [<-f0.out] at this ⊢;exact Zl.own this e6.out
  have j:Qw (fun g=>w.heap.size<=g) (.slice k e2 K):=fun g o a y e h=>by
   cases e;rcases M.2 with ⟨Z,_⟩ | ⟨i0,g8,g9,Z,i2,_⟩
   ·cases Z
   ·cases Z;have:=e9.out;omega
  have x:=Zh c1;have J:=Zh j;clear M r i c1 j;go_wp2;go_ret2;exact⟨_,rfl,x.out,J.out,f1⟩
 ·obtain⟨f,rfl⟩:∃ f,a=f+1:=⟨a - 1,by omega⟩;have S:f<a7.length:=by omega
  obtain⟨g,K,k,y,c2,O,X,P⟩:=s.at S;have i:=G.out rfl d S;rw [i] at O X P;rw [d] at c2;cases c2;have b9:=e5.out;have j:=(b9.fresh S O).mono (T:=fun g=>w.heap.size<=g) (fun g hg=>Nat.le_trans e8.out hg);have x:Hid (Zl e1 (.slice k v.length y) v):=Zh ⟨k,y,rfl,X,P⟩;obtain⟨g7,b7⟩:=zE v.length;rw [b7] at O x j;have J:=Zh j;have i3:((f+1:Nat):Int) - 1=(f:Int):=by omega
  have i4:(0:Int)<((f+1:Nat):Int):=by omega
  have i5:(f:Int)<((f+1:Nat):Int):=by omega
  clear s d F G H I X P i b7 b8 b9 j;go_wp2;go_ret2;exact⟨_,rfl,x.out,J.out,q⟩
theorem Ji{a:Func}{t u v:Tmp}(h:a.results=#[.tmp t,.tmp u,.tmp v])(tmps:Array Value)(P:Program)(w:World) :
  (results a tmps).run P w=.ok (.tuple #[tmps.getD t undef,tmps.getD u undef,tmps.getD v undef]) w:=by
 simp [results,h]
theorem Qab:(Tryz.prog.info? 3).map (fun i=>(i.zero,i.size,i.bytes))=some (some (.int .i64 0),1,8):=by kernel_rfl
theorem Qc4{w:World}{ao:Option Addr}{n cap:Nat}{xs:List Value}(s:Rd w (.slice ao n cap) n 2 xs) (d:∀ u∈xs,u.oneCell'=true) (J:n<=1000000) :
  Calls Tryz.prog 179 #[.slice ao n cap] w fun e w'=>∃ bo c,e=.returned (.slice bo n c)/\w'.ownsRow w.heap.size 240 2 (.slice bo n c) n xs/\Ext w w':=by
 have A:=Zh s;have t:=Zh d;obtain⟨l,D,k,H,f,g⟩:=s;simp only [zV,true_and] at f;obtain⟨rfl,rfl⟩:=f;clear d;unfold maxLen at D;cases ao with
 | none=>
  have F:n=0:=by
   apply Nat.eq_zero_of_not_pos;intro E;obtain⟨I,K,d,_⟩:=g E;cases d
  subst F;have G:xs=[]:=List.eq_nil_of_length_eq_zero oz;subst G;clear g l;have f:=fun(w:World)=>Lib.run_eql_slice_nil (P:=Tryz.prog) w 178 240 none 0 cap 0 0 Tryz.underlying178;go_enter Tryz.func179,Tryz.ntmps179;go_wp2;go_ret;exact⟨none,0,rfl,World.ownsRow_nil _ _ _ _,Q0.refl _ _⟩
 | some a=>
  clear g l;have f:=fun(w:World)=>Lib.run_eql_slice_nil (P:=Tryz.prog) w 178 240 (some a) n cap 0 0 Tryz.underlying178;go_enter Tryz.func179,Tryz.ntmps179;have i:Ext w (w.alloc (.cells #[] 240)):=(Q0.refl _ w).alloc _;have o:=World.ownsRow_made (base:=w.heap.size) (e:=240) (size:=2) w #[] 0 (Nat.le_refl _) zd rfl;have r:=A.out.ext i;obtain⟨x,z,j⟩:=Zh3 o r i;clear o r i
  go_wp2_with (at_builtin;refine Jo rfl (.tmp 5) (.tmp 6) 178 rfl w.heap.size 240 _ 2 32 Tryz.underlying178 @Qag rfl zd _ 0 [] rfl x.out _ _ _ _ rfl z.out t.out ?c3 ?c4 ?c5 ?_)
  case c3=>unfold maxLen;omega
  case c4=>omega
  case c5=>exact j.out.size
  intro k C B p q _;have m:Ext w B:=j.out.after q (fun b d e=>by simp [Value.ownBlock] at e;omega);have y:=Zh p;have v:=Zh m;clear p m q;go_wp2;go_ret;refine⟨k,C,?_,?_,v.out⟩
  ·first | rfl | simp
  ·have:=y.out
   simpa using this
theorem Pm{w:World}{ao:Option Addr}{n cap:Nat}{xs:List Value}(s:Rd w (.slice ao n cap) n 1 xs) (d:∀ u∈xs,u.oneCell'=true) (J:n<=1000000) :
  Calls Tryz.prog 77 #[.slice ao n cap] w fun e w'=>∃ bo c,e=.returned (.slice bo n c)/\w'.ownsRow w.heap.size 3 1 (.slice bo n c) n xs/\Ext w w':=by
 have A:=Zh s;have t:=Zh d;obtain⟨l,D,k,H,f,g⟩:=s;simp only [zV,true_and] at f;obtain⟨rfl,rfl⟩:=f;clear d;unfold maxLen at D;cases ao with
 | none=>
  have F:n=0:=by
   apply Nat.eq_zero_of_not_pos;intro E;obtain⟨I,K,d,_⟩:=g E;cases d
  subst F;have G:xs=[]:=List.eq_nil_of_length_eq_zero oz;subst G;clear g l;have f:=fun(w:World)=>Lib.run_eql_slice_nil (P:=Tryz.prog) w 48 3 none 0 cap 0 0 Tryz.underlying48;go_enter Tryz.func77,Tryz.ntmps77;go_wp2;go_ret;exact⟨none,0,rfl,World.ownsRow_nil _ _ _ _,Q0.refl _ _⟩
 | some a=>
  clear g l;have f:=fun(w:World)=>Lib.run_eql_slice_nil (P:=Tryz.prog) w 48 3 (some a) n cap 0 0 Tryz.underlying48;go_enter Tryz.func77,Tryz.ntmps77;have i:Ext w (w.alloc (.cells #[] 3)):=(Q0.refl _ w).alloc _;have o:=World.ownsRow_made (base:=w.heap.size) (e:=3) (size:=1) w #[] 0 (Nat.le_refl _) zd rfl;have r:=A.out.ext i;obtain⟨x,z,j⟩:=Zh3 o r i;clear o r i
  go_wp2_with (at_builtin;refine Jo rfl (.tmp 5) (.tmp 6) 48 rfl w.heap.size 3 _ 1 8 Tryz.underlying48 @Qab rfl zd _ 0 [] rfl x.out _ _ _ _ rfl z.out t.out ?c3 ?c4 ?c5 ?_)
  case c3=>unfold maxLen;omega
  case c4=>omega
  case c5=>exact j.out.size
  intro k C B p q _;have m:Ext w B:=j.out.after q (fun b d e=>by simp [Value.ownBlock] at e;omega);have y:=Zh p;have v:=Zh m;clear p m q;go_wp2;go_ret;refine⟨k,C,?_,?_,v.out⟩
  ·first | rfl | simp
  ·have:=y.out
   simpa using this
theorem Qcl{w:World}{base:Nat}{e:TypeId}{a g n cap j:Nat}{xs cs:List Value}(h:w.ownsRow base e a (.slice (some ⟨g,0,none⟩) n cap) n xs) (t:j<n) (s:cs.length=a) :
  (w.setCells g (j*a) cs).ownsRow base e a (.slice (some ⟨g,0,none⟩) n cap) n (Uj xs (j*a) cs):=by
 have l:=h.1;rcases h.2 with ⟨b,_⟩ | ⟨r,q,c,b,d,k,o,f,i,p⟩
 ·cases b
 ·simp only [zV,Option.some.injEq,Addr.mk.injEq] at b;obtain⟨⟨rfl,_,_⟩,_,rfl⟩:=b;have m:j*a+cs.length<=n*a:=by
   have:=Nat.mul_le_mul_right a (show j+1<=n by omega);rw [Nat.add_mul,Nat.one_mul] at this;omega
  refine⟨by rw [Wf];exact l,.inr ⟨g,cap,_,rfl,d,Dv cs _ w c k,o,f,by simp [Wf,i],?_⟩⟩;rw [show ((Uj c.toList (j*a) cs).toArray.toList)=Uj c.toList (j*a) cs from rfl,Ng _ _ _ _ m,p]
theorem Ww{α:Type}{b:Nat}{a:List (α × List Value)} (h:∀ p∈a,p.2.length=b):(a.flatMap (·.2)).length=a.length*b:=by
 induction a with
 | nil=>simp
 | cons p ps ih=>
  rw [List.flatMap_cons,List.length_append,h p zy,ih (fun p hp=>h p (by simp [hp])),List.length_cons,Nat.add_mul,Nat.one_mul,Nat.add_comm]
theorem Qcv{α:Type}{a j:Nat}{b:List (α × List Value)} {x:α} {cs:List Value} (c:0<a) (h:∀ p∈b,p.2.length=a) (z:j<b.length) (k:cs.length=a):Uj (b.flatMap (·.2)) (j*a) cs=(b.set j (x,cs)).flatMap (·.2):=by
 have g:∀ p∈b.set j (x,cs),p.2.length=a:=fun p f=>by
  rcases List.mem_or_eq_of_mem_set f with f | rfl
  ·exact h p f
  ·exact k
 have l:j*a+cs.length<=(b.flatMap (·.2)).length:=by
  rw [Ww h];have:=Nat.mul_le_mul_right a (show j+1<=b.length by omega);rw [Nat.add_mul,Nat.one_mul] at this;omega
 apply List.ext_getElem?;intro i;rw [Q0z _ _ _ _ l];by_cases v:i<b.length*a
 ·have n:i % a<a:=Nat.mod_lt _ c;have m:i / a<b.length:=(Nat.div_lt_iff_lt_mul c).2 v;have u:i / a*a+i % a=i:=by rw [Nat.mul_comm];exact Nat.div_add_mod i a
  have r:=Pc g (i:=i / a) (j:=i % a) (by rw [List.length_set];exact m) n;have s:=Pc h (i:=i / a) (j:=i % a) m n;rw [u] at r s;rw [r,s];by_cases d:i / a=j
  ·subst d;rw [if_pos ⟨by omega,by omega⟩];simp only [List.getElem_set_self]
   congr 1;omega
  ·rw [if_neg,List.getElem_set_ne (fun e=>d e.symm)];rintro⟨o,q⟩;apply d;rw [k] at q;have w:j<=i / a:=(Nat.le_div_iff_mul_le c).2 o;have y:i / a<j+1:=(Nat.div_lt_iff_lt_mul c).2 (by rw [Nat.add_mul,Nat.one_mul];omega);omega
 ·have t:((b.set j (x,cs)).flatMap (·.2))[i]?=none:=List.getElem?_eq_none (by rw [Ww g,List.length_set];omega);rw [t,if_neg,List.getElem?_eq_none (by rw [Ww h];omega)];rintro⟨o,q⟩;rw [Ww h] at l;omega
def X6(l:Q5)(s:Option Wd):Option Wd:=s.bind fun u=>if trE l u=0 then some (Jl l u) else none
def Lh(S:Nat->Prop)(os:List (Option Wd × List Value)):Prop:=∀ p∈os,∀ u,p.1=some u->∀ v x,p.2=[v,x]->Qw S v
structure Kl (B:Nat) (S:Nat->Prop) (o:Value) (W:World) (n:Nat) (os:List (Option Wd × List Value)):Prop where
 own:W.ownsRow B 240 2 o n (os.flatMap (·.2))
 len:os.length=n
 two:∀ p∈os,p.2.length=2
 ok:∀ p∈os,Vg W p.1 p.2
 kept:Lh (fun g=>S g/\o.ownBlock≠some g) os
theorem Cu{W:World}{v:Value}{u:Wd}(h:Zl W v u):Qw (fun g=>g<W.heap.size) v:=by
 obtain⟨i,k,rfl,⟨⟨_,_,j,m,f,d⟩,_⟩,_⟩:=h;intro g p o l b c;cases b;cases f;obtain⟨n,q,a,e,_⟩:=d c;simp only [Option.some.injEq,Addr.mk.injEq] at a;rw [a.1];exact e
theorem Cn{S:Nat->Prop}{A B:World}{s:Option Wd}{cs:List Value}(h:Vg A s cs)(l:Q0 (fun b=>¬ S b) A B) (i:∀ u,s=some u->∀ v x,cs=[v,x]->Qw S v):Vg B s cs:=by
 obtain⟨c,n,e,rfl,g⟩:=h;refine⟨c,n,e,rfl,fun u hu=>?_⟩;obtain⟨d,f,k,m,j⟩:=g u hu;have a:=i u hu _ _ rfl;rw [k] at a ⊢;exact⟨d,f,rfl,Fw m l a,j⟩
theorem Kl.ext{b:Nat}{S:Nat->Prop}{o:Value}{A B:World}{n:Nat}{os:List (Option Wd × List Value)} (h:Kl b S o A n os) (ht:Ext A B):Kl b S o B n os:=
 ⟨Q7 h.own ht,h.len,h.two,fun p hp=>(h.ok p hp).ext ht,h.kept⟩
theorem Kl.at{b:Nat}{S:Nat->Prop}{o:Value}{A:World}{n:Nat}{a:List (Option Wd × List Value)} (h:Kl b S o A n a):Xd A o a:=by
 refine⟨by rw [h.len];exact Rd.of_own h.own,fun p hp=>⟨h.two p hp,h.ok p hp⟩⟩
theorem Kl.set{B:Nat}{S:Nat->Prop}{g cap:Nat}{A:World}{n j:Nat}{d:List (Option Wd × List Value)} (h:Kl B S (.slice (some ⟨g,0,none⟩) n cap) A n d) (k:j<n) {s:Option Wd} {v x:Value} (o:Vg A s [v,x]) (l:∀ u,s=some u->Qw (fun b=>S b/\b≠g) v) :
  Kl B S (.slice (some ⟨g,0,none⟩) n cap) (A.setCells g (j*2) [v,x]) n (d.set j (s,[v,x])):=by
 have c:=h.own;have i:=Q0.setCells A g [v,x] (j*2);have f:∀ p∈d.set j (s,[v,x]),p∈d\/p=(s,[v,x]):=fun p a=>List.mem_or_eq_of_mem_set a;have m:(Value.slice (some ⟨g,0,none⟩) n cap).ownBlock=some g:=rfl;refine⟨?_,by rw [List.length_set];exact h.len,fun p a=>?_,fun p a=>?_,fun p a u hu v' x' e=>?_⟩
 ·rw [<-Qcv zd h.two (by rw [h.len];exact k) rfl];exact Qcl c k rfl
 ·rcases f p a with a | rfl
  ·exact h.two p a
  ·rfl
 ·rcases f p a with a | rfl
  ·refine Cn (S:=fun b=>b≠g) (h.ok p a) (i.mono fun b _ e hn=>hn e) (fun u hu v' x' e=>(h.kept p a u hu v' x' e).mono fun b c e2=>c.2 (by rw [e2];rfl))
  ·exact Cn (S:=fun b=>b≠g) o (i.mono fun b _ e hn=>hn e) (fun u hu v' x' e=>by cases e;exact(l u hu).mono fun b c=>c.2)
 ·rcases f p a with a | rfl
  ·exact h.kept p a u hu v' x' e
  ·cases e;exact(l u hu).mono fun b c=>⟨c.1,fun e2=>c.2 (by rw [m] at e2;exact(Option.some.inj e2).symm)⟩
theorem Qcq{l:Q5}{b a:List (Option Wd × List Value)} {k:Nat} (d:k<a.length) (h:b.map (·.1)=(a.take k).map (fun p=>X6 l p.1)++(a.drop k).map (·.1)) :
  (∀ cs,(b.set k (X6 l a[k].1,cs)).map (·.1)=(a.take (k+1)).map (fun p=>X6 l p.1)++(a.drop (k+1)).map (·.1))/\(a[k].1=none->b.map (·.1)=(a.take (k+1)).map (fun p=>X6 l p.1)++(a.drop (k+1)).map (·.1)):=by
 have f:(a.drop k).map (·.1)=a[k].1::(a.drop (k+1)).map (·.1):=by rw [List.drop_eq_getElem_cons d];rfl
 have c:(a.take (k+1)).map (fun p=>X6 l p.1)=(a.take k).map (fun p=>X6 l p.1)++[X6 l a[k].1]:=by rw [List.take_succ_eq_append_getElem d,List.map_append];rfl
 have g:((a.take k).map (fun p=>X6 l p.1)).length=k:=by rw [List.length_map,List.length_take];omega
 rw [f] at h;constructor
 ·intro cs;rw [List.map_set,h,c,List.append_assoc];rw [List.set_append_right _ _ oz,g,Nat.sub_self];rfl
 ·intro e;rw [h,c,e,List.append_assoc];rfl
theorem Q1e{w:World}{l:Q5}{cs:List Value}{q:List (Option Wd × List Value)} {i0:Option Addr} {n b1:Nat} (e9:Zf w l cs) (L:Xd w (.slice i0 n b1) q) (a9:q.length=n) (a3:n<=1000) (J:Tab w) (O:Nat->Prop) (j3:Lh O q) :
  Calls Tryz.prog 136 #[.agg cs.toArray,.slice i0 n b1] w fun e w'=>∃ ao c os,e=.returned (.slice ao n c)/\Kl w.heap.size (fun g=>O g\/w.heap.size<=g) (.slice ao n c) w' n os/\os.map (·.1)=q.map (fun p=>X6 l p.1)/\Ext w w':=by
 have j1:∀ b∈q.flatMap (·.2),b.oneCell'=true:=fun b i=>by
  obtain⟨p,F,i⟩:=List.mem_flatMap.1 i;obtain⟨_,ao,m,c,Q,_⟩:=L.2 p F;rw [Q] at i;simp at i;rcases i with rfl | rfl <;> rfl
 have j7:=fun(V:World) (z:Ext w V)=>Qc4 (cap:=b1) (by have:=(Tv L z).1;rw [a9] at this;exact this) j1 oz
 have j6:=fun(A:World) (v:Value) (z:Ext w A) (a5:∃ f,w.heap.size<=f/\A.ownsRow f 240 2 v n (q.flatMap (·.2)))=>(show Kl w.heap.size (fun g=>O g\/w.heap.size<=g) v A n q from by
  obtain⟨f,a3,a5⟩:=a5;refine⟨Zb a5 a3,a9,fun p F=>(L.2 p F).1,fun p F=>((L.2 p F).2).ext z,fun p F b i v' x e=>?_⟩;obtain⟨ao,m,c,Q,n7⟩:=(L.2 p F).2;rw [Q] at e;cases e;exact fun g o' m' c' P U=>⟨.inl (j3 p F b i _ _ Q g o' m' c' P U),fun e2=>by have:=(a5.lt g e2).1;have:=Cu (n7 b i) g o' m' c' P U;omega⟩)
 have j5:=fun(V:World) (z:Ext w V) (vo:Option Addr) (vc:Nat) (ws:Wd) (hv:Q6 V (.slice vo ws.length vc) ws) (Y:ws.length<=vc)=>Qar (e9.ext z) hv Y (J.keep z id);obtain⟨g3,f8,g8,M,g1,c7,c9,g4,c2,d1,f9,g9,N,g2,c8,d0,g5,c3,d2,f7,c4,f6,g7,c5,g6,g0,rfl,o7,p4,p5,o6,p3,p2,E,o9,p0,p1,o8,q8,q9,r0,r1,r2⟩:=Zr e9;obtain⟨m8,b8,i4,i2,m0⟩:=Zh5 L a9 j7 j6 j5;clear L a9 j7 j6 j5 e9 J j1 j3;go_enter Tryz.func136,Tryz.ntmps136;go_upto_region 1 with (fail)
 obtain⟨b2,b0⟩:=zE (w.alloc (.cells #[.string g3,.int .i64 f8,.int .u32 (g8:Int),.int .u32 (M:Int),.bool g1,.int .i64 c7,.int .i64 c9,.slice g4 c2 d1,.int .i64 f9,.int .u32 (g9:Int),.int .u32 (N:Int),.bool g2,.int .i64 c8,.int .i64 d0,.slice g5 c3 d2,.slice f7 c4 f6,.slice g7 c5 g6,.int .i64 g0] 102));have W:Ext w b2:=by rw [<-b0];exact(Q0.refl _ w).alloc _
 have K:b2.heap[w.heap.size]?=some (.cells #[.string g3,.int .i64 f8,.int .u32 (g8:Int),.int .u32 (M:Int),.bool g1,.int .i64 c7,.int .i64 c9,.slice g4 c2 d1,.int .i64 f9,.int .u32 (g9:Int),.int .u32 (N:Int),.bool g2,.int .i64 c8,.int .i64 d0,.slice g5 c3 d2,.slice f7 c4 f6,.slice g7 c5 g6,.int .i64 g0] 102 (0,0)):=by rw [<-b0];exact Q3 rfl
 rw [b0];obtain⟨R,d8⟩:=zE w.heap.size;rw [d8] at K ⊢;have o5:=Zh d8;go_wp2_with fail;refine(i4.out _ W).mono ?_;rintro e b3 ⟨ao,c,rfl,e3,e0⟩;have r:=W.trans e0;have G:=i2.out b3 _ r ⟨_,W.size,e3⟩;have k5:=e0.keep K;have q3:R<b2.heap.size:=(Array.getElem?_eq_some_iff.1 K).1;have k8:∀ g,(Value.slice ao n c).ownBlock=some g->b2.heap.size<=g/\g<b3.heap.size:=fun g hg=>e3.lt g hg;obtain⟨I,i5,H,b6,m2⟩:=Zh5 G k5 r k8 W.size;clear G k5 r k8 e3 e0 W K b0 d8 i4 i2;go_wp2
 refine wp_loop (fun a u=>∃(d:Nat) (os:List (Option Wd × List Value)),d<=n/\a.defers=[]/\(a.tmps.size=37/\a.tmps.getD 2 undef=.pointer (some ⟨R,0,none⟩)/\a.tmps.getD 5 undef=.slice ao n c/\a.tmps.getD 12 undef=.slice i0 n b1/\a.tmps.getD 13 undef=.int .i64 n/\a.tmps.getD 14 undef=.int .i64 d)/\u.heap[R]?=some (.cells #[.string g3,.int .i64 f8,.int .u32 (g8:Int),.int .u32 (M:Int),.bool g1,.int .i64 c7,.int .i64 c9,.slice g4 c2 d1,.int .i64 f9,.int .u32 (g9:Int),.int .u32 (N:Int),.bool g2,.int .i64 c8,.int .i64 d0,.slice g5 c3 d2,.slice f7 c4 f6,.slice g7 c5 g6,.int .i64 g0] 102 (0,0))/\Kl w.heap.size (fun g=>O g\/w.heap.size<=g) (.slice ao n c) u n os/\os.map (·.1)=(q.take d).map (fun p=>X6 l p.1)++(q.drop d).map (·.1)/\b3.heap.size<=u.heap.size/\Ext w u)
  (fun a _=>((n:Int) - intOf (a.tmps.getD 14 undef)).toNat) ?_ ?_
 ·exact⟨0,q,by omega,rfl,⟨rfl,rfl,rfl,rfl,rfl,rfl⟩,i5.out,I.out,by simp,Nat.le_refl _,H.out⟩
 clear I i5 H;rintro⟨o2,_⟩ u ⟨d,os,q5,n8,⟨l5,d6,d7,d3,d4,d5⟩,k7,G,l0,l7,z⟩;subst n8;obtain⟨o3,i⟩:=Qv l5;obtain⟨b,rfl⟩:∃ x,x=o3:=⟨_,rfl⟩;have o0:o2=#[b 0,b 1,b 2,b 3,b 4,b 5,b 6,b 7,b 8,b 9,b 10,b 11,b 12,b 13,b 14,b 15,b 16,b 17,b 18,b 19,b 20,b 21,b 22,b 23,b 24,b 25,b 26,b 27,b 28,b 29,b 30,b 31,b 32,b 33,b 34,b 35,b 36]:=i;clear i;subst o0;change b 2=_ at d6;change b 5=_ at d7;change b 12=_ at d3;change b 13=_ at d4;change b 14=_ at d5;rw [d6,d7,d3,d4,d5];clear d6 d7 d3 d4 d5 l5;obtain⟨m7,I,b7,b9,S⟩:=Zh5 k7 G l0 l7 z;clear k7 G l0 l7 z;by_cases k3:d<n;case neg=>
  obtain rfl:d=n:=by omega
  have Q:¬ (d:Int)<(d:Int):=by omega
  have B:=b7.out;rw [List.take_of_length_le (by rw [b8.out];exact Nat.le_refl _),List.drop_eq_nil_of_le (by rw [b8.out];exact Nat.le_refl _),List.map_nil,List.append_nil] at B;have a0:=Zh B;clear B;go_wp2;go_ret;exact⟨ao,c,rfl,os,I.out,a0.out,S.out⟩
 have Q:(d:Int)<(n:Int):=by omega
 have q2:(0:Int)<=(d:Int):=by omega
 have e8:d<q.length:=by rw [b8.out];exact k3
 obtain⟨M,N⟩:=Qcq (l:=l) e8 b7.out;obtain⟨q1,q7,p8,C,a7,⟨j0,i9,i8,j8,e7⟩,o4⟩:=U9.at m8.out e8;replace C:=C zd;obtain⟨C,n9⟩:=C;simp only [zV] at C;obtain⟨rfl,o1,rfl⟩:=C;clear o1;rw [j8] at a7;have U:=S.out.cell_some (a7 0 _ rfl) id;have P:=S.out.cell_some (a7 1 _ rfl) id;rw [Nat.add_zero] at U;obtain⟨l9,G⟩:=zE (q[d].1);rw [G] at P e7 M N;obtain⟨m4,c0,c1⟩:=Zh3 e7 M N;have q6:IntKind.i64.wrap ((d:Int)+1)=(d:Int)+1:=IntWalk.i64_in _ oz;clear e7 G o4 j8 a7 e8 n9 M N b7;obtain⟨f,e5⟩:=zE l9.isNone;rw [e5] at P;have i1:=Zh e5;clear e5;go_upto_region 5 with (fail)
 obtain⟨c6,a1⟩:=zE (u.alloc (.cells #[.slice j0 i9 i8,.bool f] 240));have e1:Ext u c6:=by rw [<-a1];exact(Q0.refl _ u).alloc _
 have e4:c6.heap[u.heap.size]?=some (.cells #[.slice j0 i9 i8,.bool f] 240 (0,0)):=by rw [<-a1];exact Q3 rfl
 rw [a1];obtain⟨p6,j4⟩:=zE u.heap.size;rw [j4] at e4 ⊢;have p9:=zR e4;have K:=e1.keep m7.out;have b5:=Zh K;have E:=Zh e1;clear a1 e4 j4 U P K e1;cases l9 with
 | none=>
  obtain rfl:f=true:=i1.out.symm;have B:=c1.out uz;have a0:=Zh B;have r:=S.out.trans E.out;have l1:=I.out.ext E.out;have l8:=Nat.le_trans b9.out E.out.size;obtain⟨H,m9,n3⟩:=Zh3 r l1 l8;clear B r l1 l8 c0 c1;go_wp2;exact⟨⟨d+1,by omega,by simp,b5.out,os,m9.out,by first | exact a0.out | (have:=a0.out;simpa using this),n3.out,H.out⟩,mz⟩
 | some uw=>
  obtain rfl:f=false:=i1.out.symm;obtain⟨p7,q0,C,k1,j9⟩:=m4.out uw uz;simp only [zV] at C;obtain⟨rfl,k0,rfl⟩:=C;have r:=S.out.trans E.out;have Y:=m0.out c6 r _ _ uw (k1.ext r) j9;rw [<-k0] at Y;have B:=c0.out;obtain⟨g,k2⟩:=Mz I.out.own oz;obtain⟨m5,i3,H⟩:=Zh3 k2 Y r;clear k1 j9 r Y k0 c0 c1 k2;obtain rfl:=m5.out
  go_wp2_with (refine wpList_load_row rfl 102 (.tmp 2) rfl R rfl _ _ _ _ b5.out Tryz.underlying102 rfl Tryz.lawInfo ?_)
  refine i3.out.mono ?_;rintro e T ⟨r3,rfl,⟨t,s,rfl,a8,a6⟩,a4,X⟩;obtain⟨b4,f1⟩:=zE (trE l uw);obtain⟨i7,f2⟩:=zE (Jl l uw);obtain⟨k,e6⟩:=zE (b4 != 0);have f4:X6 l (some uw)=if k=true then none else some i7:=by
   unfold X6;rw [Option.bind_some,f1,f2,<-e6];by_cases n6:b4=0 <;> simp [n6]
  rw [f2] at a4 a8 a6 ⊢;rw [f1];obtain⟨y,Z⟩:=zE i7.length;rw [Z] at a4 a8 a6 ⊢;have l4:Vg T (X6 l (some uw)) [.slice t y s,.bool k]:=by
   refine⟨t,y,s,by rw [f4];cases k <;> rfl,fun b i=>?_⟩;rw [f4] at i;cases k with
   | true=>cases i
   | false=>cases i;exact⟨t,s,by rw [Z],by rw [Z];exact a8,by rw [Z];exact a6⟩
  have f3:=I.out.ext (E.out.trans X);have k4:Qw (fun f=>(O f\/w.heap.size<=f)/\f≠g) (.slice t y s):=a4.mono fun f a3=>⟨.inr (by have:=H.out.size;omega),fun e=>by have:=(b6.out g rfl).2;have:=b9.out;have:=E.out.size;omega⟩;have l2:=f3.set k3 l4 (fun _ _=>k4);have k9:=B [.slice t y s,.bool k];have k6:=X.keep b5.out;have J:=Q0.setCells T g (#[.slice t y s,.bool k]:Array Value).toList (d*2);have l6:=Dg f3.own (o:=d*2) (m:=2) oz;have j2:R≠g:=by have:=(b6.out g rfl).1;omega
  have f0:=J.heap k6 j2;have d9:Ext w (T.setCells g (d*2) (#[.slice t y s,.bool k]:Array Value).toList):=Q0.after (H.out.trans X) J (fun f a3 e=>by have:=(b6.out g rfl).1;have:=m2.out;omega);have f5:b3.heap.size<=(T.setCells g (d*2) (#[.slice t y s,.bool k]:Array Value).toList).heap.size:=by have:=b9.out;have:=E.out.size;have:=X.size;have:=J.size;omega
  obtain⟨n5,a2⟩:=zE (T.setCells g (d*2) (#[.slice t y s,.bool k]:Array Value).toList);have l3:Kl w.heap.size (fun g=>O g\/w.heap.size<=g) (.slice (some ⟨g,0,none⟩) n c) n5 n (os.set d (X6 l (some uw),[.slice t y s,.bool k])):=by rw [<-a2];exact l2
  rw [a2] at f0 d9 f5;obtain⟨n1,n2,n0,i6,m6,m3,n4,m1⟩:=Zh8 l6 a2 l3 k9 f0 d9 f5 e6;clear B f1 f2 f4 l4 f3 k4 l2 k9 k6 J a2 l3 f0 d9 f5 l6 a4 a8 a6 X Z i3 e6 j2;have q4:(b4 != 0)=k:=m1.out
  go_wp2_with (refine wpList_store_mid rfl 240 (.tmp 34) (.tmp 33) rfl g (d*2) #[.slice t y s,.bool k] (by first | rfl | (simp;done)) rfl n1.out kz kz ?_;rw [n2.out])
  exact⟨⟨d+1,_,by omega,tz,⟨rfl,rfl,rfl,rfl,rfl,rfl⟩,m6.out,n0.out,by first | exact i6.out | (have:=i6.out;simpa using this),n4.out,m3.out⟩,mz⟩
def xB(s:Option Wd)(t:Wd):Bool:=match s with | some u=>decide (u=t) | none=>false
def N8(ss:List (Option Wd × List Value)) (qs:Q9) (k:Nat):List Value:=(List.range k).map fun i=>.bool (xB (ss.getD i (none,[])).1 (qs.getD i (([],[]),[])).1.2)
theorem M2{V:World}{g:Nat}{vs:List Value}{t:TypeId}(h:V.heap[g]?=some (.cells vs.toArray t (0,0))):∀(j:Nat) (u:Value),vs[j]?=some u->V.cell? ((⟨g,0,none⟩:Addr).add j)=some u:=fun j u hu=>by
 have hadd:(⟨g,0,none⟩:Addr).add j=⟨g,j,none⟩:=by unfold Addr.add;split <;> simp_all
 rw [hadd,cell_of_row V g j _ t _ h]
 simpa using hu
theorem Qao:(Tryz.prog.info? 4).map (fun i=>(i.zero,i.size,i.bytes))=some (some (.bool false),1,1):=by kernel_rfl
theorem Q7g(a:List (Option Wd × List Value)) (qs:Q9) (k:Nat):N8 a qs (k+1)=N8 a qs k++[.bool (xB (a.getD k (none,[])).1 (qs.getD k (([],[]),[])).1.2)]:=by
 unfold N8;rw [List.range_succ,List.map_append];rfl
theorem Dx{w:World}{G:List (Option Wd × List Value)} {qs:Q9} {d9:Option Addr} {d8:Nat} {d7:Option Addr} {n d6:Nat} (f7:Xd w (.slice d9 n d8) G) (f8:G.length=n) (f6:Z7 w (.slice d7 n d6) qs) (f4:qs.length=n) (e8:n<=1000) :
  Calls Tryz.prog 101 #[.slice d9 n d8,.slice d7 n d6] w fun e w'=>∃ ao c,e=.returned (.slice ao n c)/\w'.ownsRow w.heap.size 4 1 (.slice ao n c) n (N8 G qs n)/\Ext w w':=by
 obtain⟨i1,g9,g8,i2⟩:=Zh4 f7 f6 f4 f8;clear f7 f6 f4 f8;go_enter Tryz.func101,Tryz.ntmps101;go_wp2
 refine wp_loop (fun a q=>∃(g:Nat) (ao:Option Addr) (c:Nat),g<=n/\a.defers=[]/\(a.tmps.size=33/\a.tmps.getD 1 undef=.slice d7 n d6/\a.tmps.getD 5 undef=.slice ao g c/\a.tmps.getD 8 undef=.slice d9 n d8/\a.tmps.getD 9 undef=.int .i64 n/\a.tmps.getD 10 undef=.int .i64 g)/\q.ownsRow w.heap.size 4 1 (.slice ao g c) g (N8 G qs g)/\Ext w q)
  (fun a _=>((n:Int) - intOf (a.tmps.getD 10 undef)).toNat) ?_ ?_
 ·exact⟨0,none,0,by omega,rfl,⟨rfl,rfl,rfl,rfl,rfl,rfl⟩,World.ownsRow_nil _ _ _ _,Q0.refl _ _⟩
 rintro⟨j0,_⟩ q ⟨g,ao,c,k2,i6,⟨g0,b7,b9,c0,c1,b8⟩,f5,e6⟩;subst i6;obtain⟨a8,g3⟩:=Qv g0;obtain⟨f,rfl⟩:∃ t,t=a8:=⟨_,rfl⟩;have i8:j0=#[f 0,f 1,f 2,f 3,f 4,f 5,f 6,f 7,f 8,f 9,f 10,f 11,f 12,f 13,f 14,f 15,f 16,f 17,f 18,f 19,f 20,f 21,f 22,f 23,f 24,f 25,f 26,f 27,f 28,f 29,f 30,f 31,f 32]:=g3;clear g3;subst i8;change f 1=_ at b7;change f 5=_ at b9;change f 8=_ at c0;change f 9=_ at c1;change f 10=_ at b8;rw [b7,b9,c0,c1,b8];clear b7 b9 c0 c1 b8 g0;have V:=Zh f5;have u:=Zh e6;clear f5 e6;by_cases f3:g<n
 ·have i4:(g:Int)<(n:Int):=by omega
  have k1:(0:Int)<=(g:Int):=by omega
  have d1:g<qs.length:=by rw [g8.out];exact f3
  have d2:g<G.length:=by rw [i2.out];exact f3
  obtain⟨p,O,j7,o,d4,⟨f,v,e9,j1,i9⟩,j2⟩:=U9.at g9.out d1;replace o:=o zd;obtain⟨o,T⟩:=o;simp only [zV] at o;obtain⟨rfl,d5,rfl⟩:=o;clear d5;rw [e9] at d4;obtain⟨Q,P,rfl,a7,j3⟩:=i9;have a2:=u.out.cell_some (d4 1 _ rfl) id;obtain⟨k0,k4,j8,o,a6,⟨C,B,A,f0,c9⟩,j4⟩:=U9.at i1.out d2;replace o:=o zd;obtain⟨o,i7⟩:=o;simp only [zV] at o;obtain⟨rfl,d5,rfl⟩:=o;clear d5;rw [f0] at a6;have e5:=u.out.cell_some (a6 0 _ rfl) id;have b6:=u.out.cell_some (a6 1 _ rfl) id;rw [Nat.add_zero] at e5;have s:=Q7g G qs g;have f2:G.getD g (none,[])=G[g]:=by rw [List.getD_eq_getElem?_getD,List.getElem?_eq_getElem d2];rfl
  have f1:qs.getD g (([],[]),[])=qs[g]:=by rw [List.getD_eq_getElem?_getD,List.getElem?_eq_getElem d1];rfl
  rw [f2,f1] at s;obtain⟨g4,f9⟩:=zE (G[g].1);obtain⟨g5,g2⟩:=zE (qs[g].1.2);rw [f9] at s b6 c9;rw [g2] at s a7 a2;obtain⟨R,g1⟩:=zE g5.length;rw [g1] at a2 a7;obtain⟨e2,g7,i3⟩:=Zh3 s c9 a7;have k3:IntKind.i64.wrap ((g:Int)+1)=(g:Int)+1:=IntWalk.i64_in _ oz;clear s c9 a7 f2 f1 f9 g2 g1 j1 j2 j3 j4 e9 f0 d4 a6 d1 d2;go_upto_region 5 with (fail)
  obtain⟨x,c6⟩:=zE g4.isNone;rw [c6] at b6 ⊢;have e0:=Zh c6;clear c6;obtain⟨b2,a5⟩:=zE (q.alloc (.cells #[.slice C B A,.bool x] 240));have c3:Ext q b2:=by rw [<-a5];exact(Q0.refl _ q).alloc _
  have c5:b2.heap[q.heap.size]?=some (.cells #[.slice C B A,.bool x] 240 (0,0)):=by rw [<-a5];exact Q3 rfl
  have e4:=c3.cell_some a2 id;rw [a5];obtain⟨L,c4⟩:=zE q.heap.size;rw [c4] at c5 ⊢;obtain⟨H,Z⟩:=zE b2.drew;have e7:Ext q H:=by rw [<-Z];exact c3.drew
  have k:H.heap[L]?=some (.cells #[.slice C B A,.bool x] 240 (0,0))/\H.cell? ⟨p,O+g*2+1,none⟩=some (.slice Q R P):=by rw [<-Z];exact⟨c5,e4⟩
  refine Z0 (S:=fun D=>D.heap[L]?=some (.cells #[.slice C B A,.bool x] 240 (0,0))/\D.cell? ⟨p,O+g*2+1,none⟩=some (.slice Q R P)) [] kz (by rw [Z];exact k) ?_;intro _;rw [Z];obtain⟨e3,b0,e1⟩:=Zh3 c4 e7 T;clear Z a5 c3 c5 a2 e4 e5 b6 c4 e7 T i7;refine tkE (i:=0) (d:=15) (v:=?_) rfl (Or.inl ⟨by rfl,?_⟩) k ?_;rotate_left
  ·intro w b;(try dsimp only at b);have l:=zR b.1;have m:=b.2;go_simp;try with_reducible rfl
  try simp only [Act.put,pq]
  cases g4 with
  | none=>
   obtain rfl:x=true:=e0.out.symm;refine tkE (i:=1) (d:=16) (v:=?_) rfl (Or.inl ⟨by rfl,?_⟩) k ?_;rotate_left
   ·intro w b;(try dsimp only at b);have l:=zR b.1;have m:=b.2;go_simp;try with_reducible rfl
   try simp only [Act.put,pq]
   refine tkE (i:=2) (d:=17) (v:=?_) rfl (Or.inl ⟨by rfl,?_⟩) k ?_;rotate_left
   ·intro w b;(try dsimp only at b);have l:=zR b.1;have m:=b.2;go_simp;try with_reducible rfl
   try simp only [Act.put,pq]
   refine tkE (i:=3) (d:=18) (v:=?_) rfl (Or.inl ⟨by rfl,?_⟩) k ?_;rotate_left
   ·intro w b;(try dsimp only at b);have l:=zR b.1;have m:=b.2;go_simp;try with_reducible rfl
   try simp only [Act.put,pq]
   refine tkE (i:=4) (d:=19) (v:=?_) rfl (Or.inl ⟨by rfl,?_⟩) k ?_;rotate_left
   ·intro w b;(try dsimp only at b);have l:=zR b.1;have m:=b.2;go_simp;try with_reducible rfl
   try simp only [Act.put,pq]
   refine tkE (i:=5) (d:=20) (v:=undef) rfl (Or.inr ⟨by rfl,rfl⟩) k ?_;try simp only [Act.put,pq]
   refine tkE (i:=6) (d:=21) (v:=undef) rfl (Or.inr ⟨by rfl,rfl⟩) k ?_;try simp only [Act.put,pq]
   refine tkE (i:=7) (d:=22) (v:=undef) rfl (Or.inr ⟨by rfl,rfl⟩) k ?_;try simp only [Act.put,pq]
   refine tkE (i:=8) (d:=23) (v:=undef) rfl (Or.inr ⟨by rfl,rfl⟩) k ?_;try simp only [Act.put,pq]
   refine tkE (i:=9) (d:=24) (v:=undef) rfl (Or.inr ⟨by rfl,rfl⟩) k ?_;try simp only [Act.put,pq]
   refine tkE (i:=10) (d:=25) (v:=undef) rfl (Or.inr ⟨by rfl,rfl⟩) k ?_;try simp only [Act.put,pq]
   refine tkE (i:=11) (d:=26) (v:=undef) rfl (Or.inr ⟨by rfl,rfl⟩) k ?_;try simp only [Act.put,pq]
   refine tkE (i:=12) (d:=27) (v:=undef) rfl (Or.inr ⟨by rfl,rfl⟩) k ?_;try simp only [Act.put,pq]
   refine tkE (i:=13) (d:=28) (v:=?_) rfl (Or.inl ⟨by rfl,?_⟩) k ?_;rotate_left
   ·intro w b;(try dsimp only at b);have l:=zR b.1;have m:=b.2;go_simp;try with_reducible rfl
   try simp only [Act.put,pq]
   refine rE [14] ?_;refine Q1.cons rfl (fun K hK=>?_) Q1.nil;refine iw rfl ?_;go_simp;obtain⟨z,r⟩:=zE (H.alloc (.cells #[.bool false] 4));have M:Ext q z:=by rw [<-r];exact b0.out.trans ((Q0.refl _ H).alloc _)
   have a1:z.heap[H.heap.size]?=some (.cells #[.bool false] 4 (0,0)):=by rw [<-r];exact Q3 rfl
   have N:z.heap[L]?=some (.cells #[.slice C B A,.bool true] 240 (0,0))/\z.cell? ⟨p,O+g*2+1,none⟩=some (.slice Q R P):=by rw [<-r];exact⟨Q8 k.1,((Q0.refl (fun _=>False) H).alloc _).cell_some k.2 id⟩
   rw [r];obtain⟨b3,a0⟩:=zE H.heap.size;rw [a0] at a1 ⊢;clear r a0;refine hK.out _ _ N (fun _=>?_);clear hK K;try simp only [Act.put,pq]
   refine rE [15] ?_;refine Q1.cons rfl (fun K hK=>?_) Q1.nil;refine iw rfl ?_;refine Yj (.tmp 15) (.tmp 29) 158 rfl w.heap.size 4 _ 1 1 Tryz.underlying158 @Qao rfl zd _ _ _ rfl (Q7 V.out M) ⟨b3,0,none⟩ 1 1 [.bool false] rfl rfl (M2 (vs:=[.bool false]) a1) (by intro t s;simp at s;subst s;rfl) (by unfold maxLen;omega) oz (Nat.le_trans u.out.size M.size) ?_;intro b4 b5 J X E c2;have F:=fun p T=>V.out.lt p T;have Y:J.heap[L]?=some (.cells #[.slice C B A,.bool true] 240 (0,0))/\J.cell? ⟨p,O+g*2+1,none⟩=some (.slice Q R P):=⟨E.heap N.1 (fun e=>by have:=F _ e;have:=e3.out;omega),E.cell_some N.2 (fun(e:Value.ownBlock _=some p)=>by have:=(F p e).1;have:=e1.out;omega)⟩;have W:Ext w J:=Q0.after (u.out.trans M) E (fun x e8 e=>by have:=(F _ e).1;omega);have b1:=Zh X;have a9:=Zh W;clear X W E c2 F;refine hK.out _ _ Y (fun _=>?_);clear hK K;try simp only [Act.put,pq]
   refine tkE (i:=16) (d:=5) (v:=?_) rfl (Or.inl ⟨by rfl,?_⟩) Y ?_;rotate_left
   ·intro w b;(try dsimp only at b);have l:=zR b.1;have m:=b.2;go_simp;try with_reducible rfl
   try simp only [Act.put]
   refine Ql kz ?_ _;go_wp2;exact⟨⟨g+1,b4,b5,by omega,tz,⟨rfl,rfl,rfl,rfl,rfl,rfl⟩,by rw [e2.out];exact b1.out,a9.out⟩,mz⟩
  | some a8=>
   obtain rfl:x=false:=e0.out.symm;obtain⟨j6,j9,o,d0,_⟩:=g7.out a8 rfl;simp only [zV] at o;obtain⟨rfl,c8,rfl⟩:=o;have j5:=Zh c8;rw [<-c8] at d0;have c7:=fun(D:World) (hD:Ext q D)=>eqW (d0.ext (u.out.trans hD)) (i3.out.ext (u.out.trans hD));obtain⟨U,d3⟩:=zE (decide (a8=g5));simp only [d3] at c7;have g6:=Zh c7;have i0:=Zh d3;clear c8 d0 c7 d3;refine tkE (i:=1) (d:=16) (v:=?_) rfl (Or.inl ⟨by rfl,?_⟩) k ?_;rotate_left
   ·intro w b;(try dsimp only at b);have l:=zR b.1;have m:=b.2;go_simp;try with_reducible rfl
   try simp only [Act.put,pq]
   refine tkE (i:=2) (d:=17) (v:=?_) rfl (Or.inl ⟨by rfl,?_⟩) k ?_;rotate_left
   ·intro w b;(try dsimp only at b);have l:=zR b.1;have m:=b.2;go_simp;try with_reducible rfl
   try simp only [Act.put,pq]
   refine tkE (i:=3) (d:=18) (v:=?_) rfl (Or.inl ⟨by rfl,?_⟩) k ?_;rotate_left
   ·intro w b;(try dsimp only at b);have l:=zR b.1;have m:=b.2;go_simp;try with_reducible rfl
   try simp only [Act.put,pq]
   refine tkE (i:=4) (d:=19) (v:=?_) rfl (Or.inl ⟨by rfl,?_⟩) k ?_;rotate_left
   ·intro w b;(try dsimp only at b);have l:=zR b.1;have m:=b.2;go_simp;try with_reducible rfl
   try simp only [Act.put,pq]
   refine tkE (i:=5) (d:=20) (v:=?_) rfl (Or.inl ⟨by rfl,?_⟩) k ?_;rotate_left
   ·intro w b;(try dsimp only at b);have l:=zR b.1;have m:=b.2;go_simp;try with_reducible rfl
   try simp only [Act.put,pq]
   refine tkE (i:=6) (d:=21) (v:=?_) rfl (Or.inl ⟨by rfl,?_⟩) k ?_;rotate_left
   ·intro w b;(try dsimp only at b);have l:=zR b.1;have m:=b.2;go_simp;try with_reducible rfl
   try simp only [Act.put,pq]
   refine tkE (i:=7) (d:=22) (v:=?_) rfl (Or.inl ⟨by rfl,?_⟩) k ?_;rotate_left
   ·intro w b;(try dsimp only at b);have l:=zR b.1;have m:=b.2;go_simp;try with_reducible rfl
   try simp only [Act.put,pq]
   refine tkE (i:=8) (d:=23) (v:=?_) rfl (Or.inl ⟨by rfl,?_⟩) k ?_;rotate_left
   ·intro w b;(try dsimp only at b);have l:=zR b.1;have m:=b.2;go_simp;try with_reducible rfl
   try simp only [Act.put,pq]
   refine tkE (i:=9) (d:=24) (v:=?_) rfl (Or.inl ⟨by rfl,?_⟩) k ?_;rotate_left
   ·intro w b;(try dsimp only at b);have l:=zR b.1;have m:=b.2;go_simp;try with_reducible rfl
   try simp only [Act.put,pq]
   refine tkE (i:=10) (d:=25) (v:=?_) rfl (Or.inl ⟨by rfl,?_⟩) k ?_;rotate_left
   ·intro w b;(try dsimp only at b);have l:=zR b.1;have m:=b.2;go_simp;try with_reducible rfl
   try simp only [Act.put,pq]
   refine tkE (i:=11) (d:=26) (v:=?_) rfl (Or.inl ⟨by rfl,?_⟩) k ?_;rotate_left
   ·intro w b;(try dsimp only at b);have l:=zR b.1;have m:=b.2;go_simp;try with_reducible rfl
   try simp only [Act.put,pq]
   refine rE [12] ?_;refine Q1.cons rfl (fun K hK=>?_) Q1.nil;refine iw rfl ?_;go_simp;refine(g6.out _ b0.out).mono ?_;rintro e I ⟨rfl,a3⟩;have a4:I.heap[L]?=some (.cells #[.slice C B A,.bool false] 240 (0,0))/\I.cell? ⟨p,O+g*2+1,none⟩=some (.slice Q R P):=⟨a3.keep k.1,a3.cell_some k.2 id⟩;have i5:=b0.out.trans a3;clear a3;refine hK.out _ _ a4 (fun _=>?_);clear hK K;try simp only [Act.put,pq]
   refine tkE (i:=13) (d:=28) (v:=?_) rfl (Or.inl ⟨by rfl,?_⟩) a4 ?_;rotate_left
   ·intro w b;(try dsimp only at b);have l:=zR b.1;have m:=b.2;go_simp;try with_reducible rfl
   try simp only [Act.put,pq]
   refine rE [14] ?_;refine Q1.cons rfl (fun K hK=>?_) Q1.nil;refine iw rfl ?_;go_simp;obtain⟨z,r⟩:=zE (I.alloc (.cells #[.bool U] 4));have M:Ext q z:=by rw [<-r];exact i5.trans ((Q0.refl _ I).alloc _)
   have a1:z.heap[I.heap.size]?=some (.cells #[.bool U] 4 (0,0)):=by rw [<-r];exact Q3 rfl
   have N:z.heap[L]?=some (.cells #[.slice C B A,.bool false] 240 (0,0))/\z.cell? ⟨p,O+g*2+1,none⟩=some (.slice Q R P):=by rw [<-r];exact⟨Q8 a4.1,((Q0.refl (fun _=>False) I).alloc _).cell_some a4.2 id⟩
   rw [r];obtain⟨b3,a0⟩:=zE I.heap.size;rw [a0] at a1 ⊢;clear r a0;refine hK.out _ _ N (fun _=>?_);clear hK K;try simp only [Act.put,pq]
   refine rE [15] ?_;refine Q1.cons rfl (fun K hK=>?_) Q1.nil;refine iw rfl ?_;refine Yj (.tmp 15) (.tmp 29) 158 rfl w.heap.size 4 _ 1 1 Tryz.underlying158 @Qao rfl zd _ _ _ rfl (Q7 V.out M) ⟨b3,0,none⟩ 1 1 [.bool U] rfl rfl (M2 (vs:=[.bool U]) a1) (by intro t s;simp at s;subst s;rfl) (by unfold maxLen;omega) oz (Nat.le_trans u.out.size M.size) ?_;intro b4 b5 J X E c2;have F:=fun p T=>V.out.lt p T;have Y:J.heap[L]?=some (.cells #[.slice C B A,.bool false] 240 (0,0))/\J.cell? ⟨p,O+g*2+1,none⟩=some (.slice Q R P):=⟨E.heap N.1 (fun e=>by have:=F _ e;have:=e3.out;omega),E.cell_some N.2 (fun(e:Value.ownBlock _=some p)=>by have:=(F p e).1;have:=e1.out;omega)⟩;have W:Ext w J:=Q0.after (u.out.trans M) E (fun x e8 e=>by have:=(F _ e).1;omega);have b1:=Zh X;have a9:=Zh W;clear X W E c2 F;refine hK.out _ _ Y (fun _=>?_);clear hK K;try simp only [Act.put,pq]
   refine tkE (i:=16) (d:=5) (v:=?_) rfl (Or.inl ⟨by rfl,?_⟩) Y ?_;rotate_left
   ·intro w b;(try dsimp only at b);have l:=zR b.1;have m:=b.2;go_simp;try with_reducible rfl
   try simp only [Act.put]
   refine Ql kz ?_ _;go_wp2;exact⟨⟨g+1,b4,b5,by omega,tz,⟨rfl,rfl,rfl,rfl,rfl,rfl⟩,by rw [e2.out];exact(by have:=b1.out;rw [<-i0.out] at this;exact this),a9.out⟩,mz⟩
 ·obtain rfl:g=n:=by omega
  have i4:¬ (g:Int)<(g:Int):=by omega
  go_wp2;go_ret;exact⟨ao,c,rfl,V.out,u.out⟩
def Jm(LD:List Q5)(ol:List Nat)(s:Option Wd):Option Wd:=ol.foldl (fun s x=>match LD[x]? with | some l=>X6 l s | none=>s) s
def Xb(LD:List Q5)(ol:List Nat)(qs:Q9):List Bool:=qs.map fun q=>xB (Jm LD ol (some q.1.1)) q.1.2
def Fh(W:World)(v:Value)(m:Nat)(T:List (Option Wd)):Prop:=∃ os,Xd W v os/\os.length=m/\os.map (·.1)=T
theorem Fh.ext{A B:World}{v:Value}{m:Nat}{T:List (Option Wd)} (h:Fh A v m T) (d:Ext A B):Fh B v m T:=by
 obtain⟨e,a,b,c⟩:=h;exact⟨e,Tv a d,b,c⟩
theorem Q93{LD:List Q5}{ol:List Nat}{k:Nat}(a:k<ol.length){l:Q5}(b:LD[ol[k]]?=some l)(s:Option Wd):Jm LD (ol.take (k+1)) s=X6 l (Jm LD (ol.take k) s):=by
 unfold Jm;rw [List.take_succ_eq_append_getElem a,List.foldl_append];simp only [List.foldl_cons,List.foldl_nil,b]
theorem Tc{LD:List Q5}{ol:List Nat}{qs:Q9}{b:List (Option Wd × List Value)} {m:Nat} (f:qs.length=m) (h:b.map (·.1)=qs.map (fun q=>Jm LD ol (some q.1.1))):N8 b qs m=(Xb LD ol qs).map .bool:=by
 unfold N8 Xb;apply List.ext_getElem
 ·simp [f]
 ·intro a d i;have c:a<qs.length:=by simp at d;omega
  have j:b.length=qs.length:=by have:=congrArg List.length h;simpa using this
  have e:(b.getD a (none,[])).1=Jm LD ol (some qs[a].1.1):=by
   have:=congrArg (fun l=>l[a]?) h;simp only [List.getElem?_map,List.getElem?_eq_getElem c,List.getElem?_eq_getElem (show a<b.length by omega),Option.map_some,Option.some.injEq] at this;rw [List.getD_eq_getElem?_getD,List.getElem?_eq_getElem (show a<b.length by omega)];exact this
  have g:qs.getD a (([],[]),[])=qs[a]:=by rw [List.getD_eq_getElem?_getD,List.getElem?_eq_getElem c];rfl
  rw [List.getElem_map,List.getElem_range,List.getElem_map,List.getElem_map,e,g]
theorem Qay{w:World}{ps:Qi}{qs:Q9}{ol:List Nat}{lo:Option Addr}{n lc:Nat}{oo:Option Addr}{f oc:Nat}{W:Option Addr}{m U:Nat}(I:Z5 w (.slice lo n lc) ps) (P:ps.length=n) (Q:Rd w (.slice oo f oc) f 1 (Qc ol)) (c2:ol.length=f) (b7:∀ x∈ol,x<n) (J:Z7 w (.slice W m U) qs) (o:qs.length=m) (M:m<=1000) (b1:Tab w) :
  Calls Tryz.prog 86 #[.slice lo n lc,.slice oo f oc,.slice W m U] w fun e w'=>∃ ao c,e=.returned (.slice ao m c)/\(∃ b,w.heap.size<=b/\w'.ownsRow b 4 1 (.slice ao m c) m ((Xb (ps.map (·.1)) ol qs).map .bool))/\Ext w w':=by
 have c4:=fun(V:World) (g:Ext w V)=>Q1a (Qg J g) o M;have b3:=fun(V A:World) (g:Ext w A) (v:Value) (b:Nat) (h:A.ownsRow b 240 2 v m (Wb qs))=>(show Fh A v m (qs.map fun q=>some q.1.1) from⟨Ky qs,Pf o h (fun q l=>((Qg J g).2 q l).2),by unfold Ky;rw [List.length_map,o],by unfold Ky;rw [List.map_map];rfl⟩);have b5:=fun(V:World) (g:Ext w V) (F:Option Addr) (E:Nat) (i:List (Option Wd × List Value)) (y:Xd V (.slice F m E) i) (h2:i.length=m)=>Dx y h2 (Qg J g) o M;have b2:=fun(V:World) (g:Ext w V) (d:Nat) (b6:d<ps.length) (F:Option Addr) (E:Nat) (i:List (Option Wd × List Value)) (y:Xd V (.slice F m E) i) (h2:i.length=m)=>Q1e ((I.ext g).2 ps[d] (List.getElem_mem b6)) y h2 M (b1.keep g id) (fun _=>True) (fun _ _ _ _ _ _ _ _ _ _ _ _ _=>trivial);obtain⟨a4,Y,d2,c8,d3,d6,d8,a1⟩:=Zh8 c4 b3 b5 b2 I P Q c2;have d4:=Zh b7;have d5:=Zh o;have e7:f<=maxLen:=Q.2.1;have e6:n<=maxLen:=by rw [<-P];exact I.1.2.1
 unfold maxLen at e7 e6;clear c4 b3 b5 b2 I P Q c2 b7 J o b1;go_enter Tryz.func86,Tryz.ntmps86;go_wp2_with fail;refine(a4.out _ (Q0.refl _ _)).mono ?_;rintro e f4 ⟨F,E,rfl,b0,L⟩;have B:=Y.out w f4 L _ _ b0;have t:=Zh B;have a0:=Zh L;clear B L b0 a4 Y;go_wp2
 refine wp_loop (fun a u=>∃(d:Nat) (ao:Option Addr) (c:Nat),d<=f/\a.defers=[]/\gS a [0,2,7,12,13,14]=(28,[.slice lo n lc,.slice W m U,.slice ao m c,.slice oo f oc,.int .i64 f,.int .i64 d])/\Fh u (.slice ao m c) m (qs.map fun q=>Jm (ps.map (·.1)) (ol.take d) (some q.1.1))/\Ext w u)
  (fun a _=>((f:Int) - intOf (a.tmps.getD 14 undef)).toNat) ?_ ?_
 ·exact⟨0,F,E,by omega,rfl,rfl,t.out,a0.out⟩
 clear t a0;rintro⟨g4,_⟩ u ⟨d,ao,c,b6,e2,c5,B,g⟩;subst e2;obtain⟨g5,rfl⟩:=Qj c5;clear c5;have t:=Zh B;have k:=Zh g;clear B g;by_cases e4:d<f;case neg=>
  obtain rfl:d=f:=by omega
  have y:¬ (d:Int)<(d:Int):=by omega
  obtain⟨i,C,D,r⟩:=t.out;rw [List.take_of_length_le (by rw [a1.out];exact Nat.le_refl _)] at r;have j:=d2.out u k.out ao c i C D;rw [Tc d5.out r] at j;have a5:=Zh j;clear j C D r;go_wp2_with fail;refine a5.out.mono ?_;rintro e g6 ⟨H,G,rfl,a7,a9⟩;have c9:=Zh a7;have d1:=Zh (k.out.trans a9);clear a7 a9 a5;go_wp2;go_ret;exact⟨H,G,rfl,⟨_,k.out.size,c9.out⟩,d1.out⟩
 have y:(d:Int)<(f:Int):=by omega
 have f9:(0:Int)<=(d:Int):=by omega
 have O:d<ol.length:=by rw [a1.out];exact e4
 obtain⟨x,j⟩:=zE (ol[d]);have e8:x<n:=by rw [<-j];exact d4.out _ (List.getElem_mem O)
 have T:x<ps.length:=by rw [d6.out];exact e8
 obtain⟨f2,f3,f5,f7,l,c6⟩:=d8.out.ext k.out;simp only [zV,true_and] at l;obtain⟨rfl,rfl⟩:=l;obtain⟨f8,g3,rfl,_,c7⟩:=c6 oz;have a6:=c7 d oz;have c0:(Qc ol).getD d undef=.int .i64 (x:Int):=by rw [<-j];unfold Qc;rw [List.getD_eq_getElem?_getD,List.getElem?_map,List.getElem?_eq_getElem O];rfl
 rw [c0] at a6;obtain⟨e1,f0,f6,l,e3,R,e5,K⟩:=(d3.out.ext k.out).at T;simp only [zV] at l;obtain⟨rfl,e9,rfl⟩:=l;obtain⟨i,C,D,r⟩:=t.out;have N:=c8.out u k.out x T ao c i C D;have c1:(fun q:(Wd × Wd) × List Value=>Jm (ps.map (·.1)) (ol.take (d+1)) (some q.1.1))=fun q=>X6 ps[x].1 (Jm (ps.map (·.1)) (ol.take d) (some q.1.1)):=by
  funext q
  exact Q93 O (by rw [j,List.getElem?_map,List.getElem?_eq_getElem T];rfl) _
 have c3:i.map (fun p=>X6 ps[x].1 p.1)=qs.map fun q=>Jm (ps.map (·.1)) (ol.take (d+1)) (some q.1.1):=by
  rw [c1,show (fun p:Option Wd × List Value=>X6 ps[x].1 p.1)=(fun s=>X6 ps[x].1 s) ∘ (fun p=>p.1) from rfl,<-List.map_map,r,List.map_map];rfl
 obtain⟨e0,b4⟩:=zE (ps[x].2);rw [b4] at R K N;have g0:(0:Int)<=(x:Int):=by omega
 have g1:(x:Int)<(n:Int):=by omega
 have g2:IntKind.i64.wrap ((d:Int)+1)=(d:Int)+1:=IntWalk.i64_in _ oz;obtain⟨a3,X,Z,a2⟩:=Zh4 R K N c3;clear e9 c0 f2 f3 c6 c7 R K e5 N c3 c1 b4 C D r j e3
 go_wp2_with (refine Y5 (by rfl) 102 (.tmp 20) rfl e1 (f0+x*18) zr e0 _ a3.out Tryz.underlying102 rfl (by rw [X.out];kernel_rfl) ?_)
 refine Z.out.mono ?_;rintro e d9 ⟨H,G,f1,rfl,S,b8,a8⟩;have b9:Fh d9 (.slice H m G) m (qs.map fun q=>Jm (ps.map (·.1)) (ol.take (d+1)) (some q.1.1)):=⟨f1,S.at,S.len,by rw [b8];exact a2.out⟩;have d7:=Zh b9;have d0:=Zh (k.out.trans a8);clear b9 S b8 a8 Z a3 X a2 a6;go_wp2;exact⟨⟨d+1,H,G,by omega,tz,rfl,d7.out,d0.out⟩,mz⟩
end Go.Proofs.YtfdlhlghcbeblaaGreatDoor
