/- word.valid, word.Check; good. -/
import Derived.Test.YtejenndedjabhaaGreatDoorT04
set_option maxRecDepth 100000
set_option maxHeartbeats 4000000
namespace Go.Proofs.YtejenndedjabhaaGreatDoor
open Go.RowKit Go.Ab
attribute [local go_sem] Oper.semAt_some Zi Qu
theorem Q3j(a b:Nat)(i:a<4294967296)(j:b<4294967296)(w:World) :
  Calls Tryz.prog 124 #[.agg #[.int .u32 (a:Int),.int .u32 (b:Int)]] w fun e w'=>e=.returned (.bool (Zk a b))/\Ext w w':=by
 obtain⟨q,r⟩:=Wg i j;have p:a ||| b<4294967296:=Nat.or_lt_two_pow (n:=32) i j;have d:Zk a b=((a &&& b == 0) && ((a ||| b) / 16777216 == 0)):=rfl;obtain⟨f,l⟩:=zE (a &&& b == 0);obtain⟨c,k⟩:=zE (a ||| b);rw [l] at q d;rw [k] at r d p;have s:((c:Int) / 16777216 == 0)=(c / 16777216 == 0):=by
  apply Bool.eq_iff_iff.2;rw [beq_iff_eq,beq_iff_eq];omega
 obtain⟨o,m⟩:=zE (c / 16777216 == 0);rw [m] at s d;have g:=Zh d;clear d l k m;go_enter Tryz.func124,Tryz.ntmps124;cases f
 ·go_wp2;go_ret;exact⟨by rw [g.out];rfl,(Qa.refl _ _).alloc _⟩
 ·go_wp2;go_ret;exact⟨by rw [g.out];rfl,(Qa.refl _ _).alloc _⟩
def wE(ws:Wd):Int:=if 32<ws.length then 11 else if Xy ws=true then 0 else 14
theorem Ht{w:World}{v:Value}{ws:Wd}(q:Qf w v ws) :
  Calls Tryz.prog 92 #[v] w fun e w'=>e=.returned (.int .i64 (wE ws))/\Ext w w':=by
 obtain⟨K,L,rfl,F⟩:=q.slice;unfold maxLen at F;have m:=Zh q;clear q;obtain⟨b,k⟩:=zE ws.length;have u:=Zh k;have f:Hid (wE ws=if 32<b then 11 else if Xy ws=true then 0 else 14):=Zh (by unfold wE;rw [k]);rw [k] at F m ⊢;clear k;by_cases A:32<b
 ·rw [if_pos A] at f;have z:(32:Int)<(b:Int):=by omega
  go_enter Tryz.func92,Tryz.ntmps92;go_wp2;go_ret;exact⟨by rw [f.out];rfl,Qa.refl _ _⟩
 rw [if_neg A] at f;have R:¬ (32:Int)<(b:Int):=by omega
 go_enter Tryz.func92,Tryz.ntmps92;go_wp2
 refine wp_loop (fun c n=>∃(a:Nat),a<=b/\c.defers=[]/\gS c [8,9,10]=(18,[.slice K b L,.int .i64 b,.int .i64 a])/\Xy (ws.take a)=true/\Ext w n)
  (fun c _=>b - (intOf (c.tmps.getD 10 undef)).toNat) ?_ ?_
 ·exact⟨0,by omega,rfl,rfl,by simp [Xy],Qa.refl _ _⟩
 rintro⟨V,_⟩ n ⟨a,T,M,I,D,j⟩;subst M;obtain⟨W,rfl⟩:=Qz I;clear I;have s:=Zh D;clear D;by_cases N:a<b
 ·have z:(a:Int)<(b:Int):=by omega
  have l:a<ws.length:=by rw [u.out];exact N
  obtain⟨Q,U,P,E,S,x,y⟩:=(m.out.ext j).at l;simp only [zV] at E;obtain⟨rfl,O,rfl⟩:=E;clear O;obtain⟨G,H⟩:=m.out.2.get a l;obtain⟨c,o⟩:=zE ((ws.getD a (0,0)).1);obtain⟨i,p⟩:=zE ((ws.getD a (0,0)).2);rw [o] at x G;rw [p] at y H;have r:=Zh o;have t:=Zh p;clear o p;go_wp2_with fail;refine(Q3j c i G H _).mono ?_;rintro e J ⟨rfl,C⟩;have B:Ext w J:=j.trans (Qa.trans ((Qa.refl _ n).alloc _) C);clear j C x y;cases hok:Zk c i
  ·have d:Xy ws=false:=Q1e l (by rw [r.out,t.out];exact hok);have g:=Zh d;clear d hok;go_wp2;go_ret;exact⟨by rw [f.out,g.out];rfl,B⟩
  ·have d:=Ti l s.out (by rw [r.out,t.out];exact hok);have g:=Zh d;clear d hok;go_wp2;exact⟨⟨a+1,by omega,tz,rfl,g.out,B⟩,nz⟩
 ·obtain rfl:a=b:=by omega
  have z:¬ (a:Int)<(a:Int):=by omega
  have d:Xy ws=true:=by have:=s.out;rwa [List.take_of_length_le (by rw [u.out];exact Nat.le_refl _)] at this
  have g:=Zh d;clear d;go_wp2;go_ret;exact⟨by rw [f.out,g.out];rfl,j⟩
def Qbd(p:Pat)(ws:Wd):Bool:=decide (ws.length<=32) && decide (wE ws=0) && decide (Yf p=0)
end Go.Proofs.YtejenndedjabhaaGreatDoor
namespace Go.Ab
open Go.RowKit
def Wr(xs:List Value)(j:Nat):List Value:=(xs.drop (j*7)).take 7
theorem Q5r{xs:List Value}{j i:Nat}(a:i<7):(Wr xs j)[i]?=xs[j*7+i]?:=by
 unfold Wr;rw [List.getElem?_take_of_lt a,List.getElem?_drop]
theorem Q22{xs:List Value}{j i:Nat}{v:Value}(h:(Wr xs j)[i]?=some v):xs[j*7+i]?=some v:=by
 have a:i<(Wr xs j).length:=(List.getElem?_eq_some_iff.1 h).1;have:i<7:=by unfold Wr at a;rw [List.length_take] at a;omega
 rw [<-Q5r this];exact h
theorem Q50{w:World}{base:Nat}{e:TypeId}{g n cap:Nat}{xs:List Value}(h:w.ownsRow base e 7 (.slice (some ⟨g,0,none⟩) n cap) n xs) (j:Nat):w.rangeAt g (j*7) (Wr xs j):=
 Sc h fun _ _ hv=>Q22 hv
inductive Vq (T:TypeId) (w:World):Pat->List Value->(Nat->Prop)->Prop
 | mk {k:Int} {pl mi:Nat} {nt:Bool} {mn mx:Int} {l:List Pat} {ao:Option Addr} {cap:Nat} {K:Nat->Prop} (xs:List Value) (Ks:Nat->Nat->Prop)
   (hpl:pl<4294967296) (hmi:mi<4294967296)
   (hO:w.ownsRow 0 T 7 (.slice ao l.length cap) l.length xs)
   (hg:∀ g,(Value.slice ao l.length cap).ownBlock=some g->K g/\∀ j,j<l.length->¬ Ks j g)
   (hs:∀ j b,j<l.length->Ks j b->K b)
   (hd:∀ i j b,i<l.length->j<l.length->i≠j->Ks i b->¬ Ks j b)
   (hc:∀ j (h:j<l.length),Vq T w l[j] (Wr xs j) (Ks j)):Vq T w (.node k pl mi nt mn mx l) (Qn k pl mi nt mn mx ao l.length cap) K
theorem Vq.keep{T:TypeId}{S:Nat->Prop}{A B:World}(d:Qa S A B):∀ {p:Pat} {cs:List Value} {K:Nat->Prop},Vq T A p cs K->(∀ b,K b->¬ S b)->Vq T B p cs K:=by
 intro p cs K a
 induction a with
 | mk xs Ks hpl hmi hO hg hs hd hc ih=>
  intro c;exact .mk xs Ks hpl hmi (Qq hO d fun g hb=>c g (hg g hb).1) hg hs hd fun j a=>ih j a fun b hb=>c b (hs j b a hb)
theorem Vq.mono{T:TypeId}{w:World}{p:Pat}{cs:List Value}{K L:Nat->Prop}(h:Vq T w p cs K)(a:∀ b,K b->L b):Vq T w p cs L:=by
 cases h with
 | mk xs Ks hpl hmi hO hg hs hd hc=>exact .mk xs Ks hpl hmi hO (fun g hb=>⟨a g (hg g hb).1,(hg g hb).2⟩) (fun j b h1 h2=>a b (hs j b h1 h2)) hd hc
theorem Gi{w:World}{base:Nat}{e:TypeId}{sz:Nat}{ao:Option Addr}{n cap:Nat}{xs:List Value}(h:w.ownsRow base e sz (.slice ao n cap) n xs):n<=cap/\cap<=maxLen:=by
 rcases h.2 with ⟨a,_⟩ | ⟨_,_,_,a,_,_,b,c,_⟩
 ·simp only [zV] at a;simp [a.2.1,a.2.2]
 ·simp only [zV] at a;obtain⟨_,_,rfl⟩:=a;exact⟨b,c⟩
theorem Nj{w:World}{base:Nat}{e:TypeId}{sz n cap:Nat}{ao:Option Addr}{xs:List Value}(h:w.ownsRow base e sz (.slice ao n cap) n xs) (b:0<n):∃ g,ao=some ⟨g,0,none⟩:=by
 rcases h.2 with ⟨a,_⟩ | ⟨g,_,_,a,_⟩
 ·simp only [zV] at a;omega
 ·cases a;exact⟨g,rfl⟩
theorem Vq.at{T:TypeId}{w:World}:∀ {p:Pat} {cs:List Value} {K:Nat->Prop},Vq T w p cs K->Qt K w p cs:=by
 intro p cs K c
 induction c with
 | @mk k pl mi nt mn mx l ao cap K xs Ks hpl hmi hO hg hs hd hc ih=>
  unfold Qt;obtain⟨d,e⟩:=Gi hO;refine⟨ao,cap,rfl,hpl,hmi,d,e,Z8.mk fun j hj=>?_⟩;obtain⟨a,rfl⟩:=Nj hO oz;refine⟨a,0,Wr xs j,rfl,(hg a rfl).1,(hO.lt a rfl).2,by rw [Nat.zero_add,Nat.zero_add];exact Q50 hO j,Qt.mono (fun b hb=>hs j b hj hb) (ih j hj)⟩
end Go.Ab
namespace Go.Ab
open Go.RowKit
theorem Q9q(b o j:Nat):(⟨b,o,none⟩:Addr).add j=⟨b,o+j,none⟩:=by
 unfold Addr.add;split
 ·rename_i a;subst a;rfl
 ·simp
theorem Tc:∀(ws:Wd) (a:Nat),Zj (ws.drop a)=(Zj ws).drop (a*2)
 | _,0=>rfl
 | [],a+1=>by simp [Zj]
 | s::ws,a+1=>by
  rw [List.drop_succ_cons,Tc ws a,Vf,show (a+1)*2=a*2+1+1 by omega,List.drop_succ_cons,List.drop_succ_cons]
theorem Td:∀(ws:Wd) (a:Nat),Zj (ws.take a)=(Zj ws).take (a*2)
 | _,0=>rfl
 | [],a+1=>by simp [Zj]
 | s::ws,a+1=>by
  rw [List.take_succ_cons,Vf,Td ws a,Vf,show (a+1)*2=a*2+1+1 by omega,List.take_succ_cons,List.take_succ_cons]
theorem Qf.cut{w:World}{A:Option Addr}{c:Nat}{ws:Wd}(h:Qf w (.slice A ws.length c) ws) {a b:Nat} (u:a<=b) (v:b<=ws.length) (x:ws.length<=c) :
  Qf w (sliced A a b c 2) ((ws.drop a).take (b - a)):=by
 have d:((ws.drop a).take (b - a)).length=b - a:=by rw [List.length_take,List.length_drop];omega
 obtain⟨⟨r,t,p,q,f,k⟩,l⟩:=h;simp only [zV,true_and] at f;obtain⟨rfl,rfl⟩:=f;refine⟨⟨by rw [Nh],by omega,_,_,by unfold sliced;rw [d],fun h0=>?_⟩,fun s hs=>l s (List.mem_of_mem_drop (List.mem_of_mem_take hs))⟩;rw [d] at h0;obtain⟨e,g,rfl,o,m⟩:=k oz
 have i:∀ j,j<(b - a)*2->w.cell? ⟨e,g+a*2+j,none⟩=some ((Zj ((ws.drop a).take (b - a))).getD j undef):=fun j hj=>by
  rw [Nat.add_assoc,m (a*2+j) oz,Td,Tc]
  congr 1
  rw [List.getD_eq_getElem?_getD,List.getD_eq_getElem?_getD,List.getElem?_take,if_pos hj,List.getElem?_drop]
 rw [d];by_cases n:c=a
 ·omega
 ·exact⟨e,g+a*2,by rw [if_neg n];simp [Q9q],o,fun j hj=>i j hj⟩
theorem Cc{ws:Wd}{a b:Nat}(h:b=ws.length):(ws.drop a).take (b - a)=ws.drop a:=by
 subst h;rw [<-List.length_drop,List.take_length]
theorem take_zero{ws:Wd}(b:Nat):(ws.drop 0).take (b - 0)=ws.take b:=by simp
section
variable {P:Program} {t:TypeId} {size:Nat}
theorem Cr{A:Option Addr}{n c:Nat}(e:P.underlying t=some (.slice (P.elem t))) (d:∀ D,(sizeOf (P.elem t)).run P D=.ok size D) (a b:Nat) (f:a<=b) (g:b<=c) (D:World) :
  (Instr.slice t (.slice A n c) (some (.int .i64 (a:Int))) (some (.int .i64 (b:Int))) none).run P D=.ok (sliced A a b c size) D:=by
 rw [run_slice_lh D t A n c e .i64 .i64 (a:Int) (b:Int) oz oz oz,d];rfl
theorem Rf{A:Option Addr}{n c:Nat}(d:P.underlying t=some (.slice (P.elem t))) (a:∀ D,(sizeOf (P.elem t)).run P D=.ok size D) (b:Nat) (e:b<=c) (D:World) :
  (Instr.slice t (.slice A n c) none (some (.int .i64 (b:Int))) none).run P D=.ok (sliced A 0 b c size) D:=by
 rw [run_slice_h D t A n c d .i64 (b:Int) oz oz,a];rfl
theorem Q1r{A:Option Addr}{n c:Nat}(d:P.underlying t=some (.slice (P.elem t))) (b:∀ D,(sizeOf (P.elem t)).run P D=.ok size D) (a:Nat) (e:a<=n) (D:World) :
  (Instr.slice t (.slice A n c) (some (.int .i64 (a:Int))) none none).run P D=.ok (sliced A a n c size) D:=by
 rw [run_slice_l D t A n c d .i64 (a:Int) oz oz,b];rfl
end
end Go.Ab
namespace Go.Proofs.YtejenndedjabhaaGreatDoor
open Go.RowKit Go.Ab
mutual
def Gd:Pat->Nat
 | .node _ _ _ _ _ _ l=>Xs l+1
def Xs:List Pat->Nat
 | []=>0
 | p::l=>Gd p+Xs l
end
theorem Q8v(p:Pat):Gd p=Xs p.l+1:=by cases p;unfold Gd;rfl
theorem Mx(a b:List Pat):Xs (a++b)=Xs a+Xs b:=by
 induction a with
 | nil=>simp [Xs]
 | cons p a ih=>simp only [List.cons_append,Xs,ih];omega
theorem Q1b:∀(f:Nat) (l:List Pat),szW f l=min f (Xs l)
 | 0,l=>by rw [Np];omega
 | f+1,[]=>by simp [szW,Xs]
 | f+1,p::l=>by
  show szW f (p.l++l)+1=_;rw [Q1b f,Mx];simp only [Xs,Q8v];omega
theorem Wz(p:Pat):Kw p=min 41 (Gd p):=by
 unfold Kw;rw [Q1b];simp [Xs]
mutual
def Pu:Pat->Bool
 | .node k _ _ _ mn _ l=>if k=0 then true else if k=3 then Q9l l else if k=4 then Q9s l else if k=5 then mn == 0 || Qa9 l else false
def Q9l:List Pat->Bool
 | []=>true
 | p::l=>Pu p && Q9l l
def Q9s:List Pat->Bool
 | []=>false
 | p::l=>Pu p || Q9s l
def Qa9:List Pat->Bool
 | []=>false
 | p::_=>Pu p
end
def Qaz(p:Pat):Bool:=decide (Yf p=0) && Pu p
end Go.Proofs.YtejenndedjabhaaGreatDoor
namespace Go.Ab
def Qaf(n:Nat):List Int:=(List.range n).map fun(i:Nat)=>(i:Int)
def Qap(F:List Int):Bool:=decide (F=Qaf F.length)
def Qac(F:List Int):Bool:=(List.range F.length).all fun i=>F.contains (i:Int)
def Qbf(F:List Int):Int:=if Qap F=true then 1 else if Qac F=true then 4 else 5
end Go.Ab
namespace Go.Proofs.YtejenndedjabhaaGreatDoor
open Go.RowKit Go.Ab
attribute [local go_sem] Oper.semAt_some Zi Qu
theorem Stk.append{K:Nat->Prop}{W:World}{ps qs:List Pat}{xs f:List Value}(h:Stk K W ps xs)(k:Stk K W qs f):Stk K W (ps++qs) (xs++f):=by
 refine⟨by rw [List.length_append,h.1,k.1,List.length_append];omega,fun i hi=>?_⟩;by_cases e:i<ps.length
 ·obtain⟨a,b,c,d⟩:=h.2 i e;refine⟨a,b,fun j v hj=>?_,by rw [List.getElem_append_left e];exact d⟩;have:=c j v hj;rw [List.getElem?_append_left (List.getElem?_eq_some_iff.1 this).1];exact this
 ·obtain⟨a,b,c,d⟩:=k.2 (i - ps.length) (by simp at hi;omega);refine⟨a,b,fun j v hj=>?_,by rw [List.getElem_append_right oz];exact d⟩;have:=c j v hj;rw [List.getElem?_append_right (by rw [h.1];omega),h.1];rw [show i*7+j - ps.length*7=(i - ps.length)*7+j by omega];exact this
theorem Z8.row{K:Nat->Prop}{w:World}{l:List Pat}{ao:Option Addr}(h:Z8 K w l ao 0)(cap:Nat):∀ T,T<=l.length->T<=maxLen ->
  ∃ news,Rd w (.slice ao T cap) T 7 news/\Stk K w (l.take T) news/\∀ v∈news,v.oneCell'=true
 | 0,_,_=>⟨[],⟨rfl,Nat.zero_le _,ao,cap,rfl,fun h=>absurd h zd⟩,Stk.nil K w,fun v hv=>by cases hv⟩
 | T+1,hT,hm=>by
  obtain⟨news,hr,hs,h1⟩:=Z8.row h cap T oz oz;obtain⟨g,off,c,rfl,hg,hgl,hra,hp⟩:=h.get T oz;obtain⟨qo,qcap,hc,_⟩:=Zz hp;have hc7:c.length=7:=by rw [hc];rfl
  rw [Nat.zero_add] at hra;obtain⟨hl,_,_,_,e,h3⟩:=hr;refine⟨news++c,⟨by rw [List.length_append,hl,hc7];omega,hm,_,cap,rfl,fun _=>⟨g,off,rfl,hgl,fun j hj=>?_⟩⟩,?_,?_⟩
  ·by_cases hjT:j<T*7
   ·obtain⟨g',off',e1,_,h4⟩:=h3 oz;simp only [zV] at e;obtain⟨e,_⟩:=e;rw [<-e] at e1;cases e1;rw [h4 j hjT,List.getD_eq_getElem?_getD,List.getD_eq_getElem?_getD,List.getElem?_append_left oz]
   ·have hjc:j - T*7<c.length:=by omega
    have:=hra (j - T*7) _ (List.getElem?_eq_getElem hjc);rw [show off+T*7+(j - T*7)=off+j by omega] at this;rw [this,List.getD_eq_getElem?_getD,List.getElem?_append_right oz,hl,List.getElem?_eq_getElem hjc,Option.getD_some]
  ·rw [List.take_succ_eq_append_getElem oz];exact hs.push hc7 hp
  ·intro v hv;rcases List.mem_append.1 hv with hv | hv
   ·exact h1 v hv
   ·rw [hc] at hv;exact Uz v hv
end Go.Proofs.YtejenndedjabhaaGreatDoor
