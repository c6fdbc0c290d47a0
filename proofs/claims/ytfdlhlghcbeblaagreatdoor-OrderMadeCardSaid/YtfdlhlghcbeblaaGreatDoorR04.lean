/- PLAIN: -/
import Derived.Test.YtfdlhlghcbeblaaGreatDoorR03
import Derived.Lib.AppendZeros
set_option maxRecDepth 100000
set_option maxHeartbeats 4000000
namespace Go.Ab
def X0(a b:Nat):Nat:=a &&& (4294967295 ^^^ b)
theorem Q50(i:Nat):(4294967295:Nat).testBit i=decide (i<32):=Nat.testBit_two_pow_sub_one 32 i
theorem V9{a:Nat}(h:a<4294967296){i:Nat}(hi:32<=i):a.testBit i=false:=
 Nat.testBit_lt_two_pow (Nat.lt_of_lt_of_le h (by
  have:=Nat.pow_le_pow_right (show 0<2 by decide) hi
  simpa using this))
theorem Vf{a:Nat}(b:Nat)(c:a<4294967296)(i:Nat):(X0 a b).testBit i=(a.testBit i && !b.testBit i):=by
 unfold X0;rw [Nat.testBit_and,Nat.testBit_xor,Q50];by_cases d:i<32
 ·simp [d]
 ·rw [V9 c (by omega)];rfl
theorem Rt{a:Nat}(h:∀ i,32<=i->a.testBit i=false):a<4294967296:=
 Nat.lt_pow_two_of_testBit (n:=32) a h
theorem Q1o{a b:Nat}(ha:a<4294967296):X0 a b<4294967296:=Rt fun i hi=>by rw [Vf b ha,V9 ha hi];rfl
def Gb(s f:Nat × Nat)(m:Nat):Nat × Nat:=(X0 s.1 m ||| (f.1 &&& m),X0 s.2 m ||| (f.2 &&& m))
def Q74(s:Nat × Nat)(f:Nat):Int:=if s.1.testBit f=true then 1 else if s.2.testBit f=true then -1 else 0
def Qe1(s:Nat × Nat)(f:Nat)(v:Int):Nat × Nat:=(X0 s.1 (2 ^ f) ||| (if v=1 then 2 ^ f else 0),X0 s.2 (2 ^ f) ||| (if v=-1 then 2 ^ f else 0))
def Zr(s:Nat × Nat):Prop:=s.1<4294967296/\s.2<4294967296
def okS(s:Nat × Nat):Bool:=Zl s.1 s.2
theorem Ep{s:Nat × Nat}(f:Nat × Nat)(m:Nat)(a:Zr s)(i:Nat):(Gb s f m).1.testBit i=if m.testBit i=true then f.1.testBit i else s.1.testBit i:=by
 unfold Gb;simp only [Nat.testBit_or,Nat.testBit_and,Vf m a.1];cases m.testBit i <;> simp
theorem Co{s:Nat × Nat}(f:Nat × Nat)(m:Nat)(a:Zr s)(i:Nat):(Gb s f m).2.testBit i=if m.testBit i=true then f.2.testBit i else s.2.testBit i:=by
 unfold Gb;simp only [Nat.testBit_or,Nat.testBit_and,Vf m a.2];cases m.testBit i <;> simp
theorem Ed{s f:Nat × Nat}(m:Nat)(hs:Zr s)(hf:Zr f):Zr (Gb s f m):=
 ⟨Rt fun i hi=>by rw [Ep f m hs,V9 hf.1 hi,V9 hs.1 hi];simp,Rt fun i hi=>by rw [Co f m hs,V9 hf.2 hi,V9 hs.2 hi];simp⟩
theorem S2{s:Nat × Nat}(l:Zr s):okS s=true↔∀ i,i<32->¬ (s.1.testBit i=true/\s.2.testBit i=true)/\((s.1.testBit i=true\/s.2.testBit i=true)->i<24):=by
 unfold okS Zl;rw [Bool.and_eq_true,beq_iff_eq,beq_iff_eq];constructor
 ·rintro⟨b,d⟩ i c;refine⟨fun⟨q1,q2⟩=>?_,fun a=>?_⟩
  ·have:=congrArg (fun x=>x.testBit i) b;simp [q1,q2] at this
  ·apply Nat.lt_of_not_le;intro m;have e:(s.1 ||| s.2)<2 ^ 24:=by
    have j:(s.1 ||| s.2)<16777216:=by omega
    simpa using j
   have k:=Nat.testBit_lt_two_pow (Nat.lt_of_lt_of_le e (Nat.pow_le_pow_right (show 0<2 by decide) m));rw [Nat.testBit_or] at k;rcases a with a | a <;> simp [a] at k
 ·intro a
  have f:∀ i,s.1.testBit i=true\/s.2.testBit i=true->i<24:=fun i c=>by
   apply (a i ?_).2 c;apply Nat.lt_of_not_le;intro g;rw [V9 l.1 g,V9 l.2 g] at c;simp at c
  refine⟨Nat.eq_of_testBit_eq fun i=>?_,?_⟩
  ·rw [Nat.testBit_and,Nat.zero_testBit];cases b:s.1.testBit i
   ·rfl
   ·cases d:s.2.testBit i
    ·rfl
    ·have c:=f i (.inl b);exact absurd ⟨b,d⟩ (a i (by omega)).1
  ·have e:(s.1 ||| s.2)<2 ^ 24:=Nat.lt_pow_two_of_testBit _ fun i c=>by
    rw [Nat.testBit_or];cases b:s.1.testBit i
    ·cases d:s.2.testBit i
     ·rfl
     ·have:=f i (.inr d);omega
    ·have:=f i (.inl b);omega
   have j:(s.1 ||| s.2)<16777216:=by simpa using e
   omega
theorem Q57{s f:Nat × Nat}{m:Nat}(a:Zr s)(c:Zr f)(j:okS s=true)(k:okS f=true):okS (Gb s f m)=true:=by
 rw [S2 (Ed m a c)];intro b d;rw [Ep f m a,Co f m a];have g:=(S2 a).1 j b d;have i:=(S2 c).1 k b d;by_cases e:m.testBit b=true
 ·simp only [e,if_true];exact i
 ·simp only [e];exact g
def Q93(s c:Nat × Nat):Bool:=c.1 &&& s.1 == c.1 && c.2 &&& s.2 == c.2
theorem Q9m{a b:Nat}:a &&& b=a↔∀ i,a.testBit i=true->b.testBit i=true:=by
 constructor
 ·intro c i d;have:=congrArg (fun x=>x.testBit i) c;simp [d] at this;exact this
 ·intro c;refine Nat.eq_of_testBit_eq fun i=>?_
  rw [Nat.testBit_and];cases h1:a.testBit i
  ·rfl
  ·rw [c i h1];rfl
theorem Ti{a b:Nat}(e:a<4294967296):X0 a b=0↔a &&& b=a:=by
 rw [Q9m];constructor
 ·intro d c f;have:=congrArg (fun x=>x.testBit c) d;simp only [Vf b e,Nat.zero_testBit,f,Bool.true_and] at this
  simpa using this
 ·intro d;refine Nat.eq_of_testBit_eq fun c=>?_
  rw [Vf b e,Nat.zero_testBit];cases h1:a.testBit c
  ·rfl
  ·rw [d c h1];rfl
end Go.Ab
namespace Go.Ab
open Go.RowKit
structure Ys where
 frm:Int
 cl:Nat
 st:Nat × Nat
 tk:Nat
 ofi:Int
structure Qe where
 name:ByteArray
 left:Pat
 right:Pat
 ifs:Wd
 outs:List Ys
 mode:Int
def Zu(x:Ys):List Value:=[.int .i64 x.frm,.int .u32 (x.cl:Int),.int .u32 (x.st.1:Int),.int .u32 (x.st.2:Int),.int .u32 (x.tk:Int),.int .i64 x.ofi]
def Pc(l:List Ys):List Value:=l.flatMap Zu
def Yu(x:Ys):Prop:=x.cl<4294967296/\Zr x.st/\x.tk<4294967296
theorem Fq(x:Ys)(l:List Ys):Pc (x::l)=Zu x++Pc l:=rfl
theorem Q0y(l:List Ys):(Pc l).length=l.length*6:=by
 induction l with
 | nil=>rfl
 | cons x l ih=>rw [Fq,List.length_append,ih];simp [Zu];omega
theorem Ef:∀(l:List Ys) (i j:Nat) (h:i<l.length),j<6->(Pc l)[i*6+j]?=(Zu l[i])[j]?
 | [],i,j,h,_=>by simp at h
 | x::l,0,j,_,hj=>by rw [Fq,Nat.zero_mul,Nat.zero_add,List.getElem?_append_left (by simpa [Zu] using hj)];rfl
 | x::l,i+1,j,h,hj=>by
  rw [Fq,List.getElem?_append_right (by simp [Zu];omega),show (i+1)*6+j - (Zu x).length=i*6+j by simp [Zu];omega];exact Ef l i j (by simpa using h) hj
def Jm(w:World)(v:Value)(l:List Ys):Prop:=Rd w v l.length 6 (Pc l)/\∀ x∈l,Yu x
theorem Jm.ext{A B:World}{v:Value}{l:List Ys}(h:Jm A v l)(ht:Ext A B):Jm B v l:=⟨h.1.ext ht,h.2⟩
theorem Jm.slice{w:World}{v:Value}{l:List Ys}(h:Jm w v l):∃ ao cap,v=.slice ao l.length cap/\l.length<=maxLen:=by
 obtain⟨⟨_,a,ao,cap,b,_⟩,_⟩:=h;exact⟨ao,cap,b,a⟩
theorem Jm.at{w:World}{v:Value}{l:List Ys}(h:Jm w v l){i:Nat}(b:i<l.length) :
  ∃ g off cap,v=.slice (some ⟨g,off,none⟩) l.length cap/\g<w.heap.size/\Yu l[i]/\w.cell? ⟨g,off+i*6,none⟩=some (.int .i64 l[i].frm)/\w.cell? ⟨g,off+i*6+1,none⟩=some (.int .u32 (l[i].cl:Int))/\w.cell? ⟨g,off+i*6+2,none⟩=some (.int .u32 (l[i].st.1:Int)) /\
   w.cell? ⟨g,off+i*6+3,none⟩=some (.int .u32 (l[i].st.2:Int))/\w.cell? ⟨g,off+i*6+4,none⟩=some (.int .u32 (l[i].tk:Int))/\w.cell? ⟨g,off+i*6+5,none⟩=some (.int .i64 l[i].ofi):=by
 obtain⟨⟨p,q,o,cap,n,d⟩,e⟩:=h;obtain⟨g,off,f,m,k⟩:=d oz
 have a:∀ j,j<6->w.cell? ⟨g,off+i*6+j,none⟩=(Zu l[i])[j]?:=fun j hj=>by
  have c:i*6+j<l.length*6:=by omega
  rw [Nat.add_assoc,k (i*6+j) c,<-Ef l i j b hj,List.getD_eq_getElem?_getD,List.getElem?_eq_getElem (by rw [Q0y];exact c)];rfl
 exact⟨g,off,cap,by rw [n,f],m,e _ (List.getElem_mem b),a 0 zd,a 1 zd,a 2 zd,a 3 zd,a 4 zd,a 5 zd⟩
def Er(name:ByteArray)(lc rc:List Value)(iv ov:Value)(mode:Int):List Value:=.string name::(lc++(rc++[iv,ov,.int .i64 mode]))
def Zm(w:World)(l:Qe)(cs:List Value):Prop:=
 ∃ lc rc iv ov,cs=Er l.name lc rc iv ov l.mode/\l.name.size<=maxLen/\Qy (fun g=>g<w.heap.size) w l.left lc/\Qy (fun g=>g<w.heap.size) w l.right rc/\Qk w iv l.ifs/\Jm w ov l.outs
theorem Zm.ext{A B:World}{l:Qe}{cs:List Value}(h:Zm A l cs)(a:Ext A B):Zm B l cs:=by
 obtain⟨m,o,k,n,c,d,e,f,i,j⟩:=h;have b:∀ g,g<A.heap.size->g<B.heap.size:=fun g hg=>Nat.lt_of_lt_of_le hg a.size;exact⟨m,o,k,n,c,d,Qy.mono b (e.ext a),Qy.mono b (f.ext a),i.ext a,j.ext a⟩
end Go.Ab
namespace Go.Ab
open Go.RowKit
def Qdg(l:Qe)(cs:List Value):Prop:=∃(io:Option Addr) (ic:Nat),cs[15]?=some (.slice io l.ifs.length ic)/\l.ifs.length<=ic
end Go.Ab
namespace Go.Proofs.YtfdlhlghcbeblaaGreatDoor
open Go.RowKit Go.Ab
attribute [local go_sem] Oper.semAt_some Zk Qx
theorem Q1y(a b:Nat)(i:a<4294967296)(j:b<4294967296)(w:World) :
  Calls Tryz.prog 109 #[.agg #[.int .u32 (a:Int),.int .u32 (b:Int)]] w fun e w'=>e=.returned (.bool (Zl a b))/\Ext w w':=by
 obtain⟨q,r⟩:=Hy i j;have p:a ||| b<4294967296:=Nat.or_lt_two_pow (n:=32) i j;have d:Zl a b=((a &&& b == 0) && ((a ||| b) / 16777216 == 0)):=rfl;obtain⟨f,l⟩:=zE (a &&& b == 0);obtain⟨c,k⟩:=zE (a ||| b);rw [l] at q d;rw [k] at r d p;have s:((c:Int) / 16777216 == 0)=(c / 16777216 == 0):=by
  apply Bool.eq_iff_iff.2;rw [beq_iff_eq,beq_iff_eq];omega
 obtain⟨o,m⟩:=zE (c / 16777216 == 0);rw [m] at s d;have g:=Zh d;clear d l k m;go_enter Tryz.func109,Tryz.ntmps109;cases f
 ·go_wp2;go_ret;exact⟨by rw [g.out];rfl,(Qa.refl _ _).alloc _⟩
 ·go_wp2;go_ret;exact⟨by rw [g.out];rfl,(Qa.refl _ _).alloc _⟩
def wE(ws:Wd):Int:=if 32<ws.length then 11 else if Xx ws=true then 0 else 14
theorem Uv{w:World}{v:Value}{ws:Wd}(q:Qk w v ws) :
  Calls Tryz.prog 60 #[v] w fun e w'=>e=.returned (.int .i64 (wE ws))/\Ext w w':=by
 obtain⟨K,L,rfl,F⟩:=q.slice;unfold maxLen at F;have m:=Zh q;clear q;obtain⟨b,k⟩:=zE ws.length;have u:=Zh k;have f:Hid (wE ws=if 32<b then 11 else if Xx ws=true then 0 else 14):=Zh (by unfold wE;rw [k]);rw [k] at F m ⊢;clear k;by_cases A:32<b
 ·rw [if_pos A] at f;have z:(32:Int)<(b:Int):=by omega
  go_enter Tryz.func60,Tryz.ntmps60;go_wp2;go_ret;exact⟨by rw [f.out];rfl,Qa.refl _ _⟩
 rw [if_neg A] at f;have R:¬ (32:Int)<(b:Int):=by omega
 go_enter Tryz.func60,Tryz.ntmps60;go_wp2
 refine wp_loop (fun c n=>∃(a:Nat),a<=b/\c.defers=[]/\gS c [8,9,10]=(18,[.slice K b L,.int .i64 b,.int .i64 a])/\Xx (ws.take a)=true/\Ext w n)
  (fun c _=>b - (intOf (c.tmps.getD 10 undef)).toNat) ?_ ?_
 ·exact⟨0,by omega,rfl,rfl,by simp [Xx],Qa.refl _ _⟩
 rintro⟨V,_⟩ n ⟨a,T,M,I,D,j⟩;subst M;obtain⟨W,rfl⟩:=Zd I;clear I;have s:=Zh D;clear D;by_cases N:a<b
 ·have z:(a:Int)<(b:Int):=by omega
  have l:a<ws.length:=by rw [u.out];exact N
  obtain⟨Q,U,P,E,S,x,y⟩:=(m.out.ext j).at l;simp only [zV] at E;obtain⟨rfl,O,rfl⟩:=E;clear O;obtain⟨G,H⟩:=m.out.2.get a l;obtain⟨c,o⟩:=zE ((ws.getD a (0,0)).1);obtain⟨i,p⟩:=zE ((ws.getD a (0,0)).2);rw [o] at x G;rw [p] at y H;have r:=Zh o;have t:=Zh p;clear o p;go_wp2_with fail;refine(Q1y c i G H _).mono ?_;rintro e J ⟨rfl,C⟩;have B:Ext w J:=j.trans (Qa.trans ((Qa.refl _ n).alloc _) C);clear j C x y;cases hok:Zl c i
  ·have d:Xx ws=false:=Q19 l (by rw [r.out,t.out];exact hok);have g:=Zh d;clear d hok;go_wp2;go_ret;exact⟨by rw [f.out,g.out];rfl,B⟩
  ·have d:=Sp l s.out (by rw [r.out,t.out];exact hok);have g:=Zh d;clear d hok;go_wp2;exact⟨⟨a+1,by omega,tz,rfl,g.out,B⟩,nz⟩
 ·obtain rfl:a=b:=by omega
  have z:¬ (a:Int)<(a:Int):=by omega
  have d:Xx ws=true:=by have:=s.out;rwa [List.take_of_length_le (by rw [u.out];exact Nat.le_refl _)] at this
  have g:=Zh d;clear d;go_wp2;go_ret;exact⟨by rw [f.out,g.out];rfl,j⟩
def Qd5(p:Pat)(ws:Wd):Bool:=decide (ws.length<=32) && decide (wE ws=0) && decide (Ym p=0)
mutual
def Ky:Pat->Nat
 | .node _ _ _ _ _ _ l=>Xs l+1
def Xs:List Pat->Nat
 | []=>0
 | p::l=>Ky p+Xs l
end
theorem Q9n(p:Pat):Ky p=Xs p.l+1:=by cases p;unfold Ky;rfl
theorem Nd(a b:List Pat):Xs (a++b)=Xs a+Xs b:=by
 induction a with
 | nil=>simp [Xs]
 | cons p a ih=>simp only [List.cons_append,Xs,ih];omega
theorem Q1a:∀(f:Nat) (l:List Pat),szW f l=min f (Xs l)
 | 0,l=>by rw [Nm];omega
 | f+1,[]=>by simp [szW,Xs]
 | f+1,p::l=>by
  show szW f (p.l++l)+1=_;rw [Q1a f,Nd];simp only [Xs,Q9n];omega
theorem Wj(p:Pat):Kf p=min 41 (Ky p):=by
 unfold Kf;rw [Q1a];simp [Xs]
mutual
def Rb:Pat->Bool
 | .node k _ _ _ mn _ l=>if k=0 then true else if k=3 then Qbd l else if k=4 then Qay l else if k=5 then mn == 0 || Qbr l else false
def Qbd:List Pat->Bool
 | []=>true
 | p::l=>Rb p && Qbd l
def Qay:List Pat->Bool
 | []=>false
 | p::l=>Rb p || Qay l
def Qbr:List Pat->Bool
 | []=>false
 | p::_=>Rb p
end
def Qcq(p:Pat):Bool:=decide (Ym p=0) && Rb p
theorem Stk.append{K:Nat->Prop}{W:World}{ps qs:List Pat}{xs f:List Value}(h:Stk K W ps xs)(k:Stk K W qs f):Stk K W (ps++qs) (xs++f):=by
 refine⟨by rw [List.length_append,h.1,k.1,List.length_append];omega,fun i hi=>?_⟩;by_cases e:i<ps.length
 ·obtain⟨a,b,c,d⟩:=h.2 i e;refine⟨a,b,fun j v hj=>?_,by rw [List.getElem_append_left e];exact d⟩;have:=c j v hj;rw [List.getElem?_append_left (List.getElem?_eq_some_iff.1 this).1];exact this
 ·obtain⟨a,b,c,d⟩:=k.2 (i - ps.length) (by simp at hi;omega);refine⟨a,b,fun j v hj=>?_,by rw [List.getElem_append_right oz];exact d⟩;have:=c j v hj;rw [List.getElem?_append_right (by rw [h.1];omega),h.1];rw [show i*7+j - ps.length*7=(i - ps.length)*7+j by omega];exact this
theorem Z9.row{K:Nat->Prop}{w:World}{l:List Pat}{ao:Option Addr}(h:Z9 K w l ao 0)(cap:Nat):∀ T,T<=l.length->T<=maxLen ->
  ∃ news,Rd w (.slice ao T cap) T 7 news/\Stk K w (l.take T) news/\∀ v∈news,v.oneCell'=true
 | 0,_,_=>⟨[],⟨rfl,Nat.zero_le _,ao,cap,rfl,fun h=>absurd h zd⟩,Stk.nil K w,fun v hv=>by cases hv⟩
 | T+1,hT,hm=>by
  obtain⟨news,hr,hs,h1⟩:=Z9.row h cap T oz oz;obtain⟨g,off,c,rfl,hg,hgl,hra,hp⟩:=h.get T oz;obtain⟨qo,qcap,hc,_⟩:=Y8 hp;have hc7:c.length=7:=by rw [hc];rfl
  rw [Nat.zero_add] at hra;obtain⟨hl,_,_,_,e,h3⟩:=hr;refine⟨news++c,⟨by rw [List.length_append,hl,hc7];omega,hm,_,cap,rfl,fun _=>⟨g,off,rfl,hgl,fun j hj=>?_⟩⟩,?_,?_⟩
  ·by_cases hjT:j<T*7
   ·obtain⟨g',off',e1,_,h4⟩:=h3 oz;simp only [zV] at e;obtain⟨e,_⟩:=e;rw [<-e] at e1;cases e1;rw [h4 j hjT,List.getD_eq_getElem?_getD,List.getD_eq_getElem?_getD,List.getElem?_append_left oz]
   ·have hjc:j - T*7<c.length:=by omega
    have:=hra (j - T*7) _ (List.getElem?_eq_getElem hjc);rw [show off+T*7+(j - T*7)=off+j by omega] at this;rw [this,List.getD_eq_getElem?_getD,List.getElem?_append_right oz,hl,List.getElem?_eq_getElem hjc,Option.getD_some]
  ·rw [List.take_succ_eq_append_getElem oz];exact hs.push hc7 hp
  ·intro v hv;rcases List.mem_append.1 hv with hv | hv
   ·exact h1 v hv
   ·rw [hc] at hv;exact Up v hv
end Go.Proofs.YtfdlhlghcbeblaaGreatDoor
namespace Go.Ab
open Go.RowKit
theorem Qar(a:Nat){b:Nat}(c:b<4294967296):a &&& (4294967295 - b)=X0 a b:=by
 unfold X0
 congr 1
 refine Nat.eq_of_testBit_eq fun i=>?_
 rw [Nat.testBit_xor,Q50];have:=Nat.testBit_two_pow_sub_succ (n:=32) (x:=b) c i;rw [show (2 ^ 32 - (b+1):Nat)=4294967295 - b by omega] at this;rw [this];by_cases d:i<32
 ·simp [d]
 ·rw [V9 c oz];simp [d]
theorem Fs(a b:Nat)(d:a<4294967296)(c:b<4294967296):bits .andNot .u32 (a:Int) (b:Int)=((X0 a b:Nat):Int):=by
 rw [u32_andNot_nat a b d c,Qar a c]
end Go.Ab
namespace Go.Ab
section
variable {α:Type} (H:List α->Nat->Bool) (P:List α->List α) (k:Nat)
def Vx(w:List α)(i:Nat):List α:=w.take i++P ((w.drop i).take k)++w.drop (i+k)
def Jz(w:List α):Nat->Nat->List α->List (Nat × List α)
 | 0,_,_=>[]
 | n+1,i,d=>
  if H w i then
   (i,d++P ((w.drop i).take k)++w.drop (i+k))::(if k=0 then Jz w n (i+1) (d++P ((w.drop i).take k)++(w.drop i).take 1) else Jz w n (i+k) (d++P ((w.drop i).take k)))
  else Jz w n (i+1) (d++(w.drop i).take 1)
def Jl(m:Nat):Nat->List α->Nat->List (Nat × List α)
 | 0,_,_=>[]
 | n+1,w,i=>
  if w.length<i+k then []
  else if H w i then(i,Vx P k w i)::Jl m n (Vx P k w i) (i+m+(if k=0 then 1 else 0))
  else Jl m n w (i+1)
def Ul:Nat->List α->Nat->List (Nat × List α)
 | 0,_,_=>[]
 | _+1,_,0=>[]
 | n+1,w,i+1=>
  if H w i then(i,Vx P k w i)::Ul n (Vx P k w i) (i+1 - max k 1)
  else Ul n w i
end
def Jw{α:Type}(t:List (Nat × List α)):Bool:=t.any fun x=>decide (32<x.2.length)
def Ba{α:Type}(w:List α)(t:List (Nat × List α)):List α:=(t.map (·.2)).getLastD w
section
variable {α:Type} {H:List α->Nat->Bool} {P:List α->List α} {k m:Nat}
theorem Q08(a:∀ c,c.length=k->(P c).length=m) {w:List α} {i:Nat} (h:i+k<=w.length):(Vx P k w i).length+k=w.length+m:=by
 unfold Vx;rw [List.length_append,List.length_append,List.length_take,List.length_drop,a _ (by rw [List.length_take,List.length_drop];omega)];omega
end
end Go.Ab
namespace Go.Ab
open Go.RowKit
def Ve{α:Type}(P:Program)(gf:Nat)(lb:Array Value)(M:Nat->Nat->Prop)(E:Nat->(Nat->Prop)->α->World->Array Value->Prop) (xs:List α) (K:Nat->Prop) (w:World):Prop:=
 ∀(l:Nat) (J Jx:(Nat->Prop)->List α->World->Prop) (W:World),Qa (fun b=>¬ K b) w W ->
  (∀ O O' pre A B,J O pre A->Qa (fun b=>O b/\M W.heap.size b) A B->(∀ b,O' b->(O b\/A.heap.size<=b)/\b<B.heap.size)->J O' pre B) ->
  (∀ O O' pre A B,Jx O pre A->Qa (fun b=>O b/\M W.heap.size b) A B->(∀ b,O' b->(O b\/A.heap.size<=b)/\b<B.heap.size)->Jx O' pre B) ->
  (∀ O pre x rest A ys,xs=pre++x::rest->J O pre A->E W.heap.size O x A ys->YieldAt Fence.wide 0 P l ys A fun e B=>
   (e=.returned (.bool true)/\J O (pre++[x]) B/\Qa (fun b=>¬ K b/\¬ O b) A B)\/(e=.returned (.bool false)/\Jx O (pre++[x]) B/\Qa (fun b=>¬ K b/\¬ O b) A B)) ->
  J (fun _=>False) [] W ->
  Calls P gf (#[.func (.yield l) #[] #[]]++lb) W fun e B=>(∃ v,e=.returned v)/\∃ O,(J O xs B\/∃ pre x rest,xs=pre++x::rest/\Jx O (pre++[x]) B)
theorem Jb{α:Type}{P:Program}{g:Operand}{ps:Array Tmp}{assign body:Code}{Q:Exit->Act->World->Prop}{a:Act}{w:World}
  {gf:Nat} {lb:Array Value} (c9:a.eval g=.func (.func gf) #[] lb) (b7:∀ args w,(callFunc gf args).run P w=.ok (.enter gf args) w)
  {M:Nat->Nat->Prop} {E:Nat->(Nat->Prop)->α->World->Array Value->Prop} {xs:List α} {K:Nat->Prop} (d2:Ve P gf lb M E xs K w) (b1:∀ b,K b->b<w.heap.size) (d1:∀ n O x A ys,E n O x A ys->ys.size=ps.size)
  (c1:∀ n O x A B ys,E n O x A ys->Qa (fun b=>b=w.heap.size+1) A B->(∃ o,A.heap[w.heap.size+1]?=some o/\o.isCells=false)->E n O x B ys)
  (I:(Nat->Prop)->List α->World->Prop) (J:Code->(Nat->Prop)->List α->World->Prop)
  (Y:∀ O O' pre A B,I O pre A->(∀ b,O b->w.heap.size+2<=b/\b<A.heap.size)->Qa (fun b=>(O b/\M (w.heap.size+2) b)\/b=w.heap.size+1) A B->(∀ b,O' b->(O b\/A.heap.size<=b)/\b<B.heap.size)->I O' pre B)
  (R:∀ c O O' pre A B,J c O pre A->(∀ b,O b->w.heap.size+2<=b/\b<A.heap.size)->Qa (fun b=>(O b/\M (w.heap.size+2) b)\/b=w.heap.size+1) A B->(∀ b,O' b->(O b\/A.heap.size<=b)/\b<B.heap.size)->J c O' pre B)
  (b8:∀ W,Ext w W->W.heap.size=w.heap.size+2->I (fun _=>False) [] W) (b6:Array Value->Array Value->Array Value)
  (c3:∀(n:Nat) (O:Nat->Prop) (x:α) (ys:Array Value) (W:World) (Kn:Act->World->Prop),E n O x W ys->Kn { tmps:=b6 ys a.tmps,defers:=[] } W ->
   assign.wpIn (Fence.wide.inRound (w.heap.size+1)) 0 P (Exit.then Kn (fun _ _ _=>False)) { tmps:=(ps.zip ys).foldl (fun t (p,v)=>t.setIfInBounds p v) a.tmps,defers:=[] } W)
  (c4:∀(O:Nat->Prop) (pre:List α) (x:α) (rest:List α) (ys:Array Value) (W:World),xs=pre++x::rest->w.heap.size+2<=W.heap.size->(∀ b,O b->w.heap.size+2<=b/\b<W.heap.size)->Qa (fun b=>¬ K b) w W->I O pre W->E (w.heap.size+2) O x W ys ->
   body.wpIn (Fence.wide.inRound (w.heap.size+1)) 0 P (Rm (fun b=>K b\/O b\/b=w.heap.size\/b=w.heap.size+1) (I O) (fun c=>J c O) (pre++[x]) W) { tmps:=b6 ys a.tmps,defers:=[] } W)
  (c7:∀ O W,I O xs W->(∀ b,O b->w.heap.size+2<=b/\b<W.heap.size)->Qa (fun b=>¬ K b) w W->W.heap[w.heap.size]?=some (.deferred (some []))->Q .normal { a with defers:={ target:=.collected w.heap.size,args:=#[] }::a.defers } W)
  (d3:∀ c O pre x rest W,xs=pre++x::rest->J c O (pre++[x]) W->W.heap[w.heap.size]?=some (.deferred (some []))->c.wp P Q { a with defers:={ target:=.collected w.heap.size,args:=#[] }::a.defers } W) :
  (Code.rangeFunc g ps assign body).wp P Q a w:=by
 refine(wpIn_wide (n:=0)).1 (wpIn_rangeFunc ?_);intro fn _;obtain⟨e,s⟩:∃ e:LoopState->Option Code->Loop,e=fun st pe=>{ state:=st,pending:=pe,fn,tmps:=a.tmps,params:=ps,assign,body,defers:=w.heap.size }:=⟨_,rfl⟩;obtain⟨q,S⟩:=zE ((w.alloc (.deferred (some []))).alloc (.loop (e .ready none)));have c2:q.heap[w.heap.size+1]?=some (.loop (e .ready none)):=by
  rw [<-S];have:=World.alloc_heap_new (w.alloc (.deferred (some []))) (.loop (e .ready none));rwa [World.size_alloc] at this
 have c0:q.heap[w.heap.size]?=some (.deferred (some [])):=by
  rw [<-S];exact(Below.heap_alloc _ _ _ zy).trans (World.alloc_heap_new w _)
 have a7:Ext w q:=by rw [<-S];exact((Qa.refl _ w).alloc _).alloc _
 have a1:q.heap.size=w.heap.size+2:=by rw [<-S];simp
 have D:∀(O:Nat->Prop) (X:World) o,Qa (fun b=>(O b/\M (w.heap.size+2) b)\/b=w.heap.size+1) X (X.putObj (w.heap.size+1) o):=fun O X o=>(Qa.refl _ X).putObj (.inr (.inr rfl)) o;have b5:∀(X:World) o,Qa (fun b=>¬ K b) X (X.putObj (w.heap.size+1) o):=fun X o=>(Qa.refl _ X).putObj (.inr (fun hk=>by have:=b1 _ hk;omega)) o
 refine⟨w.heap.size+1,[{ target:=.collected w.heap.size,args:=#[] }],q,{ target:=.fn (.func gf) lb,args:=#[.func (.yield (w.heap.size+1)) #[] #[]] },q,gf,
  #[.func (.yield (w.heap.size+1)) #[] #[]]++lb,q,?_,?_,fun _ _=>trivial,?_,fun h=>by simp [Fence.wide] at h,?_⟩
 ·rw [<-S,s];exact run_enterLoop_outer _ _ _ _ _
 ·simp only [resolve,c9];simp [go_sem]
 ·simp [invoke,go_sem,b7]
 ·refine callsIn_wide.2 ((d2 (w.heap.size+1)
   (fun O pre W=>I O pre W/\(∀ b,O b->w.heap.size+2<=b/\b<W.heap.size)/\W.heap[w.heap.size+1]?=some (.loop (e .ready none))/\W.heap[w.heap.size]?=some (.deferred (some []))/\Qa (fun b=>¬ K b) w W/\w.heap.size+2<=W.heap.size)
   (fun O pre W=>∃ c,J c O pre W/\(∀ b,O b->w.heap.size+2<=b/\b<W.heap.size)/\W.heap[w.heap.size+1]?=some (.loop (e .done (some c)))/\W.heap[w.heap.size]?=some (.deferred (some []))/\w.heap.size+2<=W.heap.size)
   q a7.of ?_ ?_ ?_ ⟨b8 _ a7 a1,fun b hb=>hb.elim,c2,c0,a7.of,by omega⟩).mono ?_)
  ·rintro O O' pre A B ⟨a2,r,a3,a4,b9,N⟩ f j;rw [a1] at f;refine⟨Y _ _ _ _ _ a2 r (f.mono fun b _ hb=>.inl hb) j,fun b hb=>?_,f.heap a3 (fun hb=>?_),f.heap a4 (fun hb=>?_),b9.after f (fun b b3 hb=>?_),Nat.le_trans N f.size⟩
   ·obtain⟨a5,a6⟩:=j b hb;exact⟨a5.elim (fun h=>(r b h).1) (fun h=>Nat.le_trans N h),a6⟩
   ·have:=(r _ hb.1).1;omega
   ·have:=(r _ hb.1).1;omega
   ·have:=(r _ hb.1).1;omega
  ·rintro O O' pre A B ⟨c,a2,r,a3,a4,N⟩ f j;rw [a1] at f;refine⟨c,R _ _ _ _ _ _ a2 r (f.mono fun b _ hb=>.inl hb) j,fun b hb=>?_,f.heap a3 (fun hb=>?_),f.heap a4 (fun hb=>?_),Nat.le_trans N f.size⟩
   ·obtain⟨a5,a6⟩:=j b hb;exact⟨a5.elim (fun h=>(r b h).1) (fun h=>Nat.le_trans N h),a6⟩
   ·have:=(r _ hb.1).1;omega
   ·have:=(r _ hb.1).1;omega
  · -- one round
   rintro O pre x rest W ys a8 ⟨U,j,z,T,f,G⟩ a0;rw [a1] at a0;have b3:w.heap.size+1<W.heap.size:=by omega
   have a9:=run_yield (P:=P) (args:=ys) z (by rw [s];exact d1 _ _ x _ _ a0);rw [s] at a9;refine⟨fn,_,assign,body,a9,roundIn_of_wpIn trivial (c3 _ _ x ys W _ a0 ?_)⟩;clear a9;refine⟨_,run_beginRound z (by rw [s]),?_⟩;have d0:(W.putObj (w.heap.size+1) (.loop { e .ready none with state:=.busy })).heap[w.heap.size+1]?=some (.loop { e .ready none with state:=.busy }):=World.putObj_heap_same b3;have c5:(W.putObj (w.heap.size+1) (.loop { e .ready none with state:=.busy })).heap[w.heap.size]?=some (.deferred (some [])):=(World.putObj_heap_other oz).trans T;have Z:∀ b,O b->w.heap.size+2<=b/\b<(W.putObj (w.heap.size+1) (.loop { e .ready none with state:=.busy })).heap.size:=fun b hb=>by simpa using j b hb
   have c8:E (w.heap.size+2) O x (W.putObj (w.heap.size+1) (.loop { e .ready none with state:=.busy })) ys:=c1 _ _ _ _ _ _ a0 ((Qa.refl (fun b=>b=w.heap.size+1) W).putObj (.inr rfl) _) ⟨_,z,rfl⟩;refine wpIn_mono (c4 O pre x rest ys _ a8 (by simpa using G) Z (f.trans (b5 W _)) (Y _ _ _ _ _ U j (D O W _) (fun b hb=>⟨.inl hb,(Z b hb).2⟩)) c8) ?_
   have V:∀(jump:Option Code) (d:World),Qa (fun b=>¬ (K b\/O b\/b=w.heap.size\/b=w.heap.size+1)) (W.putObj (w.heap.size+1) (.loop { e .ready none with state:=.busy })) d ->
     (Instr.endRound (w.heap.size+1) jump).run P d=.ok (.bool jump.isNone) (d.putObj (w.heap.size+1) (.loop (e (if jump.isNone then .ready else .done) jump))) /\
     (d.putObj (w.heap.size+1) (.loop (e (if jump.isNone then .ready else .done) jump))).heap[w.heap.size+1]?=some (.loop (e (if jump.isNone then .ready else .done) jump)) /\
     (d.putObj (w.heap.size+1) (.loop (e (if jump.isNone then .ready else .done) jump))).heap[w.heap.size]?=some (.deferred (some [])) /\
     Qa (fun b=>¬ K b/\¬ O b) W (d.putObj (w.heap.size+1) (.loop (e (if jump.isNone then .ready else .done) jump)))/\(∀ b,O b->w.heap.size+2<=b/\b<d.heap.size):=fun jump d k=>by
    have b2:=k.heap d0 (fun h=>h (.inr (.inr (.inr rfl))));have c6:=k.heap c5 (fun h=>h (.inr (.inr (.inl rfl))));have:=run_endRound (P:=P) jump b2;rw [s] at this ⊢;have b4:¬ K (w.heap.size+1)/\¬ O (w.heap.size+1):=⟨fun hk=>by have:=b1 _ hk;omega,fun ho=>by have:=(j _ ho).1;omega⟩;refine⟨this,World.putObj_heap_same (Array.getElem?_eq_some_iff.1 b2).1,(World.putObj_heap_other oz).trans c6,?_,fun b hb=>⟨(Z b hb).1,Nat.lt_of_lt_of_le (Z b hb).2 k.size⟩⟩;exact(((Qa.refl _ W).putObj (.inr b4) _).trans (k.mono fun b _ hb=>⟨fun hk=>hb (.inl hk),fun ho=>hb (.inr (.inl ho))⟩)).putObj (.inr b4) _
   rintro b0 d4 d H;cases b0 with
   | normal=>
    obtain⟨k,y⟩:=H;obtain⟨F,C,u,l,m⟩:=V none d k;have i:∀ o b,O b->w.heap.size+2<=b/\b<(d.putObj (w.heap.size+1) o).heap.size:=fun o b hb=>by simpa using m b hb
    exact⟨_,_,F,.inl ⟨rfl,⟨Y _ _ _ _ _ y m (D O d _) (fun b hb=>⟨.inl hb,(i _ b hb).2⟩),i _,C,u,f.trans (l.mono fun b _ hb=>hb.1),Nat.le_trans G l.size⟩,l⟩⟩
   | ret=>
    obtain⟨k,y⟩:=H;obtain⟨F,C,u,l,m⟩:=V (some .ret) d k;have i:∀ o b,O b->w.heap.size+2<=b/\b<(d.putObj (w.heap.size+1) o).heap.size:=fun o b hb=>by simpa using m b hb
    exact⟨_,_,F,.inr ⟨rfl,⟨.ret,R _ _ _ _ _ _ y m (D O d _) (fun b hb=>⟨.inl hb,(i _ b hb).2⟩),i _,C,u,Nat.le_trans G l.size⟩,l⟩⟩
   | exit id=>
    obtain⟨k,y⟩:=H;obtain⟨F,C,u,l,m⟩:=V (some (.exit id)) d k;have i:∀ o b,O b->w.heap.size+2<=b/\b<(d.putObj (w.heap.size+1) o).heap.size:=fun o b hb=>by simpa using m b hb
    exact⟨_,_,F,.inr ⟨rfl,⟨.exit id,R _ _ _ _ _ _ y m (D O d _) (fun b hb=>⟨.inl hb,(i _ b hb).2⟩),i _,C,u,Nat.le_trans G l.size⟩,l⟩⟩
   | goto t=>
    obtain⟨k,y⟩:=H;obtain⟨F,C,u,l,m⟩:=V (some (.goto t)) d k;have i:∀ o b,O b->w.heap.size+2<=b/\b<(d.putObj (w.heap.size+1) o).heap.size:=fun o b hb=>by simpa using m b hb
    exact⟨_,_,F,.inr ⟨rfl,⟨.goto t,R _ _ _ _ _ _ y m (D O d _) (fun b hb=>⟨.inl hb,(i _ b hb).2⟩),i _,C,u,Nat.le_trans G l.size⟩,l⟩⟩
   | panic ch=>exact H.elim
   | outgrown=>exact H.elim
  · -- behind the iterator
   rintro b0 L ⟨⟨v,rfl⟩,O,(⟨U,j,z,T,f,G⟩ | ⟨pre,x,rest,a8,c,U,j,z,T,G⟩)⟩
   ·refine⟨none,_,by have:=run_endLoop (P:=P) z (by rw [s];simp);rw [s] at this;exact this,?_⟩;have i:∀ o b,O b->w.heap.size+2<=b/\b<(L.putObj (w.heap.size+1) o).heap.size:=fun o b hb=>by simpa using j b hb
    exact c7 O _ (Y _ _ _ _ _ U j (D O L _) (fun b hb=>⟨.inl hb,(i _ b hb).2⟩)) (i _) (f.trans (b5 L _)) ((World.putObj_heap_other oz).trans T)
   ·refine⟨some c,_,by have:=run_endLoop (P:=P) z (by rw [s];simp);rw [s] at this;exact this,?_⟩;have i:∀ o b,O b->w.heap.size+2<=b/\b<(L.putObj (w.heap.size+1) o).heap.size:=fun o b hb=>by simpa using j b hb
    exact(wpIn_wide (n:=0)).2 (d3 c O pre x rest _ a8 (R _ _ _ _ _ _ U j (D O L _) (fun b hb=>⟨.inl hb,(i _ b hb).2⟩)) ((World.putObj_heap_other oz).trans T))
end Go.Ab
namespace Go.Ab
open Go.RowKit
section
variable {P:Program} {ops:Array Oper} {Q:Exit->Act->World->Prop} {md:Region.Mode} {S:World->Prop} {Lt:List Nat}
def W4(md:Region.Mode)(ops:Array Oper)(listed:Array Bool):Prop:=
 ∀ k o,ops[k]?=some o->listed.getD k false=true->∀ e∈o.after,Region.binds md e=true->listed.getD e.on false=true
def Hp(md:Region.Mode)(ops:Array Oper)(i:Nat):Nat->Nat->Bool
 | 0,_=>false
 | f+1,k=>match ops[k]? with
  | some o=>o.after.toList.any fun e=>Region.binds md e && (e.on == i || Hp md ops i f e.on)
  | none=>false
theorem Fy{listed:Array Bool}{i:Nat}(hc:W4 md ops listed)(hi:listed.getD i false=false):∀(f k:Nat),Hp md ops i f k=true->listed.getD k false=false/\¬ k∈Region.ready md ops listed
 | 0,_,h=>by cases h
 | f+1,k,h=>by
  unfold Hp at h;cases ho:ops[k]? with
  | none=>rw [ho] at h;cases h
  | some o=>
   rw [ho] at h;obtain⟨e,he,hb⟩:=List.any_eq_true.1 h;rw [Bool.and_eq_true,Bool.or_eq_true,beq_iff_eq] at hb;have he':e∈o.after:=by simpa using he
   have hon:listed.getD e.on false=false:=by
    rcases hb.2 with h1 | h1
    ·rw [h1];exact hi
    ·exact(Fy hc hi f e.on h1).1
   constructor
   ·cases hk:listed.getD k false with
    | false=>rfl
    | true=>rw [hc k o ho hk e he' hb.1] at hon;cases hon
   ·intro hr;obtain⟨_,o',ho',hall⟩:=mem_ready.1 hr;rw [ho] at ho';cases ho';rw [hall e he' hb.1] at hon;cases hon
theorem W4.step{a:Array Bool}{j:Nat}(m:W4 md ops a)(n:j∈Region.ready md ops a):W4 md ops (a.setIfInBounds j true):=by
 intro k o g e b d c;refine getD_set_true ?_;by_cases f:k=j
 ·subst f;obtain⟨_,p,i,l⟩:=mem_ready.1 n;rw [g] at i;cases i;exact l b d c
 ·rw [getD_set_ne false (Ne.symm f)] at e;exact m k o g e b d c
def Qt(P:Program)(md:Region.Mode)(ops:Array Oper)(Q:Exit->Act->World->Prop)(S:World->Prop)(Lt:List Nat):Nat->Array Bool->Act->World->Prop
 | 0,listed,a,w=>Region.ready md ops listed=[]/\Q .normal a w
 | fuel+1,listed,a,w=>
  (Region.ready md ops listed=[]->Q .normal a w) /\
  ∀ i∈Region.ready md ops listed,wpOp P ops Q i (fun a' w'=>(Lt.contains i=false->S w')/\Qt P md ops Q S Lt fuel (listed.setIfInBounds i true) a' w') a w
theorem Hi:∀(fuel:Nat) (listed:Array Bool) (a:Act) (w:World),Qt P md ops Q S Lt fuel listed a w->wpAny P md ops Q fuel listed a w
 | 0,_,_,_,h=>h
 | fuel+1,_,_,_,h=>⟨h.1,fun i hi=>wpOp_mono (fun a' w' h'=>Hi fuel _ a' w' h'.2) (h.2 i hi)⟩
theorem Eo{i:Nat}{g:Oper}{v:Value}(r:ops[i]?=some g)(B:∀(j:Nat) (o:Oper) cs b,ops[j]?=some o->o.op≠.select cs b)
  (D:∀ c a w,Q (.panic c) (a.put g.dst v) w->Q (.panic c) a w) (H:∀ j,Lt.contains j=true->Hp md ops i ops.size j=true) :
  ∀(fuel:Nat) (listed:Array Bool) (a:Act) (w:World),W4 md ops listed ->
   (∀ j oj,ops[j]?=some oj->j≠i->listed.getD j true=false->(∀ e∈oj.after,Region.binds md e=true->e.on≠i)->g.apart ops oj=true) ->
   i∈Region.ready md ops listed->YieldsIf P ops S g v a->S w ->
   Qt P md ops Q S Lt fuel (listed.setIfInBounds i true) (a.put g.dst v) w->Qt P md ops Q S Lt (fuel+1) listed a w:=by
 intro fuel
 induction fuel with
 | zero=>
  intro listed a w _ _ f p m l;refine⟨fun h=>(by rw [h] at f;cases f),fun j hj=>?_⟩;by_cases d:j=i
  ·subst d;exact p.wpOp r m ⟨fun _=>m,l⟩
  ·have:=ready_mono hj d;rw [l.1] at this;cases this
 | succ fuel ih=>
  intro listed a w u x f p m l;refine⟨fun h=>(by rw [h] at f;cases f),fun j hj=>?_⟩;by_cases d:j=i
  ·subst d;exact p.wpOp r m ⟨fun _=>m,l⟩
  ·have n:=l.2 j (ready_mono hj d);have y:listed.getD i false=false:=by
    have t:=(mem_ready.1 f).1;rcases Nat.lt_or_ge i listed.size with q | q
    ·simp [q] at t ⊢;exact t
    ·simp [Array.getElem?_eq_none q]
   have F:Lt.contains j=false:=by
    cases hl:Lt.contains j with
    | false=>rfl
    | true=>exact absurd hj (Fy u y _ _ (H j hl)).2
   obtain⟨A,oj,s,E⟩:=mem_ready.1 hj
   have I:∀ e∈oj.after,Region.binds md e=true->e.on≠i:=fun e he hb heq=>by
    have n:=E e he hb;rw [heq,y] at n;cases n
   have C:=wpOp_putIf s (x j oj s d A I) (fun cs b=>B i g cs b r) (fun cs b=>B j oj cs b s) D p n
   have G:∀ k ok,ops[k]?=some ok->k≠i->(listed.setIfInBounds j true).getD k true=false ->
     (∀ e∈ok.after,Region.binds md e=true->e.on≠i)->g.apart ops ok=true:=fun k ok hk hki hun hno=>by
    refine x k ok hk hki ?_ hno;by_cases z:j=k
    ·subst z;exact A
    ·rw [getD_set_ne true z] at hun;exact hun
   refine wpOp_mono (fun a' w' h3=>⟨h3.2.1,ih (listed.setIfInBounds j true) a' w' (u.step hj) G (ready_mono f (Ne.symm d)) h3.1 (h3.2.1 F) ?_⟩) C;rw [Array.setIfInBounds_comm _ _ d];exact h3.2.2
def Dk(md:Region.Mode)(ops:Array Oper)(listed:Array Bool):Bool:=
 (List.range ops.size).all fun k=>!listed.getD k false || match ops[k]? with
  | some o=>o.after.toList.all fun e=>!Region.binds md e || listed.getD e.on false
  | none=>true
theorem Ft{d:Array Bool}(h:Dk md ops d=true):W4 md ops d:=by
 intro j k c i e g f;have a:=List.all_eq_true.1 h j (List.mem_range.2 (Array.getElem?_eq_some_iff.1 c).1);rw [i,c] at a;simp only [Bool.not_true,Bool.false_or] at a;have b:=List.all_eq_true.1 a e (by simpa using g);rw [f] at b
 simpa using b
theorem Dc{i:Nat}{oi:Oper}{v:Value}{fuel:Nat}{listed:Array Bool}{a:Act}{w:World}(hi:ops[i]?=some oi)
  (hs:Region.noSelect ops=true) (hf:Region.free md ops listed i=true) (hr:(Region.ready md ops listed).contains i=true) (hc:Dk md ops listed=true) (hl:(Lt.all fun j=>Hp md ops i ops.size j)=true)
  (hQ:∀ c a w,Q (.panic c) (a.put oi.dst v) w->Q (.panic c) a w) (hy:YieldsIf P ops S oi v a) (hS:S w)
  (h:Qt P md ops Q S Lt fuel (listed.setIfInBounds i true) (a.put oi.dst v) w):Qt P md ops Q S Lt (fuel+1) listed a w:=
 Eo hi (Region.noSelect_spec hs) hQ (fun j hj=>List.all_eq_true.1 hl j (by simpa using hj)) fuel listed a w (Ft hc) (Region.free_spec hi hf) (by simpa using hr) hy hS h
theorem tkE{i d:Nat}{oi:Oper}{v:Value}{fuel:Nat}{listed:Array Bool}{a:Act}{w:World}(hi:ops[i]?=some oi)
  (hy:YieldsIf P ops S oi v a) (hS:S w) (h:Qt P md ops Q S Lt fuel (listed.setIfInBounds i true) (a.put (some d) v) w)
  (hs:Region.noSelect ops=true:=by kernel_rfl) (hf:Region.free md ops listed i=true:=by kernel_rfl) (hr:(Region.ready md ops listed).contains i=true:=by kernel_rfl) (hc:Dk md ops listed=true:=by kernel_rfl) (hl:(Lt.all fun j=>Hp md ops i ops.size j)=true:=by kernel_rfl) (hd:oi.dst=some d:=by rfl)
  (hQ:∀ c a w,Q (.panic c) (a.put (some d) v) w->Q (.panic c) a w:=by exact fun _ _ _ h=>h):Qt P md ops Q S Lt (fuel+1) listed a w:=
 Dc hi hs hf hr hc hl (by rw [hd];exact hQ) hy hS (by rw [hd];exact h)
theorem tE(i d:Nat){oi:Oper}{v:Value}{fuel:Nat}{listed:Array Bool}{a a':Act}{w:World}
  (hS:S w) (h:Qt P md ops Q S Lt fuel (listed.setIfInBounds i true) a' w) (hi:ops[i]?=some oi:=by exact rfl)
  (hy:YieldsIf P ops S oi v a:=by(exact Or.inl ⟨by rfl,by(intro w hSw;(try dsimp only at hSw);go_simp;try with_reducible rfl)⟩)) (ha:a.put (some d) v=a':=by((try simp only [Act.put,pq]);exact rfl))
  (hs:Region.noSelect ops=true:=by kernel_rfl) (hf:Region.free md ops listed i=true:=by kernel_rfl) (hr:(Region.ready md ops listed).contains i=true:=by kernel_rfl) (hc:Dk md ops listed=true:=by kernel_rfl) (hl:(Lt.all fun j=>Hp md ops i ops.size j)=true:=by kernel_rfl) (hd:oi.dst=some d:=by rfl)
  (hQ:∀ c a w,Q (.panic c) (a.put (some d) v) w->Q (.panic c) a w:=by exact fun _ _ _ h=>h):Qt P md ops Q S Lt (fuel+1) listed a w:=
 Dc hi hs hf hr hc hl (by rw [hd];exact hQ) hy hS (by rw [hd,ha];exact h)
def Qb(P:Program)(md:Region.Mode)(ops:Array Oper)(Q:Exit->Act->World->Prop)(S:World->Prop)(Lt:List Nat)(fuel:Nat)(listed:Array Bool)(a:Act)(w:World)(rs:List Nat):Prop:=
 ∀ i∈rs,wpOp P ops Q i (fun a' w'=>(Lt.contains i=false->S w')/\Qt P md ops Q S Lt fuel (listed.setIfInBounds i true) a' w') a w
theorem Qb.nil{fuel:Nat}{listed:Array Bool}{a:Act}{w:World}:Qb P md ops Q S Lt fuel listed a w []:=fun _ h=>by cases h
theorem Qb.cons{fuel:Nat}{listed:Array Bool}{a:Act}{w:World}{i:Nat}{o:Oper}{rs:List Nat}(ho:ops[i]?=some o)
  (h:∀ K':Act->World->Prop,Go.Shut (∀ a w,S w->(S w->Qt P md ops Q S Lt fuel (listed.setIfInBounds i true) a w)->K' a w)->if Region.wanted o (yielded ops a.tmps)=true then Oper.wp P o a w K' Q else K' (a.put o.dst undef) w)
  (hs:Qb P md ops Q S Lt fuel listed a w rs):Qb P md ops Q S Lt fuel listed a w (i::rs):=fun j hj=>by
 rcases List.mem_cons.1 hj with rfl | hj
 ·exact wpOp_step ho (fun K' hK=>h K' (fun a w hS hW=>hK a w ⟨fun _=>hS,hW hS⟩))
 ·exact hs j hj
theorem Qb.late{fuel:Nat}{listed:Array Bool}{a:Act}{w:World}{i:Nat}{o:Oper}{rs:List Nat}(ho:ops[i]?=some o)(hl:Lt.contains i=true)
  (h:∀ K':Act->World->Prop,Go.Shut (∀ a w,Qt P md ops Q S Lt fuel (listed.setIfInBounds i true) a w->K' a w)->if Region.wanted o (yielded ops a.tmps)=true then Oper.wp P o a w K' Q else K' (a.put o.dst undef) w)
  (hs:Qb P md ops Q S Lt fuel listed a w rs):Qb P md ops Q S Lt fuel listed a w (i::rs):=fun j hj=>by
 rcases List.mem_cons.1 hj with rfl | hj
 ·exact wpOp_step ho (fun K' hK=>h K' (fun a w hW=>hK a w ⟨fun q=>(by rw [hl] at q;cases q),hW⟩))
 ·exact hs j hj
theorem Cv{rs:List Nat}{fuel:Nat}{listed:Array Bool}{a:Act}{w:World}(hr:Region.ready md ops listed=rs)(hne:rs≠[])
  (h:Qb P md ops Q S Lt fuel listed a w rs):Qt P md ops Q S Lt (fuel+1) listed a w:=⟨fun h0=>absurd (hr ▸ h0) hne,hr ▸ h⟩
theorem rE(rs:List Nat){fuel:Nat}{listed:Array Bool}{a:Act}{w:World}(h:Qb P md ops Q S Lt fuel listed a w rs)
  (hr:Region.ready md ops listed=rs:=by kernel_rfl) (hne:rs≠[]:=by simp):Qt P md ops Q S Lt (fuel+1) listed a w:=Cv hr hne h
theorem Qv{listed:Array Bool}{a:Act}{w:World}(hr:Region.ready md ops listed=[])(h:Q .normal a w) :
  ∀ fuel,Qt P md ops Q S Lt fuel listed a w
 | 0=>⟨hr,h⟩
 | _+1=>⟨fun _=>h,by rw [hr];simp⟩
theorem Z7{id:Nat}{a:Act}{w:World}(Lt:List Nat)(hm:P.follows .mixedOrders=true)(hS:S w.drew)
  (h:S w.drew->Qt P .any ops Q S Lt ops.size (Array.replicate ops.size false) a w.drew):(Code.region id ops true).wp P Q a w:=
 wp_region_any hm (Hi _ _ _ _ (h hS))
theorem Vh{id l n:Nat}{a:Act}{w:World}(Lt:List Nat)(hm:P.follows .mixedOrders=true)(hd:Jo ops=true)(hQ:¬ LetsOut Q)(hS:S w.drew)
  (h:S w.drew->Qt P .any ops Q S Lt ops.size (Array.replicate ops.size false) a w.drew):(Code.region id ops true).wpIn (Fence.wide.inRound l) n P Q a w:=
 Vj hm hd hQ (Hi _ _ _ _ (h hS))
end
end Go.Ab
namespace Go.Proofs.YtfdlhlghcbeblaaGreatDoor
open Go.RowKit Go.Ab
theorem Yi{w:World}{g n cap a:Nat}{xs:List Value}{t:TypeId}(h:w.heap[g]?=some (.cells xs.toArray t (0,0))) (b:xs.length=n*a) (c:n<=maxLen):Rd w (.slice (some ⟨g,0,none⟩) n cap) n a xs:=by
 refine⟨b,c,_,cap,rfl,fun _=>⟨g,0,rfl,(Array.getElem?_eq_some_iff.1 h).1,fun j hj=>?_⟩⟩;rw [Nat.zero_add];have:j<xs.length:=by omega
 simp [World.cell?,h,List.getD_eq_getElem?_getD,this]
theorem Gi(K:Nat->Prop)(w:World)(k:Int){pl mi:Nat}(nt:Bool)(mn mx:Int)(a:pl<4294967296)(b:mi<4294967296):Qy K w (.node k pl mi nt mn mx []) [.int .i64 k,.int .u32 (pl:Int),.int .u32 (mi:Int),.bool nt,.int .i64 mn,.int .i64 mx,.slice none 0 0]:=by
 unfold Qy;exact⟨none,0,rfl,a,b,by simp,by simp [maxLen],by unfold Z9;trivial⟩
attribute [local go_sem] Oper.semAt_some Zk Qx
theorem Qb7(b o j:Nat):(⟨b,o,none⟩:Addr).add j=⟨b,o+j,none⟩:=by
 unfold Addr.add;split
 ·rename_i a;subst a;rfl
 ·simp
section
variable {P:Program} {w:World}
theorem Vo{ops:Array Oper}{rest:List Oper}{o:Oper}{a:Act}{Q:Exit->Act->World->Prop}(r:o.guard=none)(s x:Operand)(t:TypeId)
  (C:o.op=.call { callee:=.builtin .append,args:=#[s,x],argTypes:=#[t,t] })
  (base:Nat) (e:TypeId) (z:Value) (size g:Nat) (l:P.underlying t=some (.slice e)) (B:(P.info? e).map (fun i=>(i.zero,i.size,i.bytes))=some (some z,size,g))
  (Y:z.cells.size=size) (X:0<size)
  (v:Value) (n:Nat) (xs:List Value) (D:a.eval s=v) (f:w.ownsRow base e size v n xs)
  (A:Option Addr) (m c:Nat) (d:List Value) (F:a.eval x=.slice A m c) (V:Rd w (.slice A m c) m size d) (M:∀ u∈d,u.oneCell'=true)
  (N:n+m<=maxLen) (R:(n+m)*g<=140737488355328) (O:base<=w.heap.size)
  (h:∀ ao c' w',w'.ownsRow base e size (.slice ao (n+m) c') (n+m) (xs++d)->Qa (fun b=>v.ownBlock=some b) w w'->((Value.slice ao (n+m) c').ownBlock=v.ownBlock\/(Value.slice ao (n+m) c').ownBlock=some w.heap.size)->wpList P ops Q rest (a.put o.dst (.slice ao (n+m) c')) w'):wpList P ops Q (o::rest) a w:=by
 obtain⟨q,_,ao,I,E,G⟩:=V;simp only [zV,true_and] at E;obtain⟨rfl,rfl⟩:=E;rcases A with _ | H
 ·have k:m=0:=by
   apply Nat.le_antisymm _ (Nat.zero_le _);apply Nat.le_of_not_lt;intro L;obtain⟨_,_,p,_⟩:=G L;cases p
  subst k;obtain rfl:d=[]:=List.eq_nil_of_length_eq_zero (by simpa using q);obtain⟨i,y,a2,a1,a0⟩:=info_parts B;have W:(Builtin.append_ #[t,t] o.type #[v,.slice none 0 c]).run P w=.ok v w:=by
   rcases f.2 with ⟨rfl,rfl⟩ | ⟨J,I,Z,rfl,_,_,U,_⟩
   ·simp [Builtin.append_,run_underlying l,sizeOf,typeInfo,y,Builtin.lenOf,Builtin.firstCells]
   ·simp [Builtin.append_,run_underlying l,sizeOf,typeInfo,y,Builtin.lenOf,Builtin.firstCells,U,storeCells]
  refine wpList_plain r fun K hK=>?_
  unfold Oper.wp execOp;simp only [C,resolve,invoke,builtin,Sem.run_bind,Sem.run_pure,Result.andThen_ok,List.map_toArray,List.map_cons,List.map_nil,D,F,W];obtain⟨ao,c',rfl⟩:=Zn f;exact hK _ _ (h ao c' w (by simpa using f) (Qa.refl _ _) (.inl rfl))
 ·refine Zp r s x t C base e z size g l B Y X v n xs D f H m c d F q (fun j u hj=>?_) M N R O h;have T:j<m*size:=by rw [<-q];exact(List.getElem?_eq_some_iff.1 hj).1
  have k:0<m:=by
   apply Nat.pos_of_ne_zero;rintro rfl;omega
  obtain⟨J,a3,p,_,S⟩:=G k;cases p;rw [Qb7,S j T,List.getD_eq_getElem?_getD,hj];rfl
end
theorem Bo(w:Wd):∀ u∈Zv w,u.oneCell'=true:=by
 intro u a;obtain⟨b,_,a⟩:=List.mem_flatMap.1 a;simp only [List.mem_cons,List.not_mem_nil,or_false] at a;rcases a with rfl | rfl <;> rfl
theorem Da:(Tryz.prog.info? 95).map (fun i=>(i.zero,i.size,i.bytes))=some (some (.agg #[.int .u32 0,.int .u32 0]),2,8):=by kernel_rfl
theorem Q77(n:Nat)(s:n<=100000)(w:World) :
  Calls Tryz.prog 261 #[.slice none 0 0,.int .i64 n] w fun e w'=>∃ ao c,e=.returned (.slice ao 0 c)/\w'.ownsRow w.heap.size 95 2 (.slice ao 0 c) 0 []/\Ext w w':=by
 by_cases m:n=0
 ·subst m;go_enter Tryz.func261,Tryz.ntmps261;go_wp2;go_ret;exact⟨_,_,rfl,World.ownsRow_nil _ _ _ _,Qa.refl _ _⟩
 ·obtain⟨r,i,k,p,f⟩:=info_parts (@Da);have b:=Lib.run_append_nil_zeros (P:=Tryz.prog) w 99 3 99 95 r (.agg #[.int .u32 0,.int .u32 0]) .i64 .i64 Tryz.underlying99 Tryz.underlying3 i k n oz oz oz (by rw [f];omega);have o:=grownCap_ge w n 0 95;have j:=grownCap_le_maxLen w n 0 95 (by unfold maxLen;omega);obtain⟨c,g⟩:=zE (grownCap w n 0 95);rw [g] at b o j;obtain⟨a,d⟩:=zE (Builtin.zeroCells (Value.agg #[.int .u32 0,.int .u32 0]).cells n++Builtin.zeroCells (Value.agg #[.int .u32 0,.int .u32 0]).cells (c - n));have q:a.size=c*2:=by
   rw [<-d,Array.size_append,size_zeroCells,size_zeroCells];show n*2+(c - n)*2=c*2;omega
  rw [d] at b;have t:(0:Int)<(n:Int):=by omega
  have l:=Zh b;clear b d g i k p f;go_enter Tryz.func261,Tryz.ntmps261
  go_wp2_with (at_builtin;refine Lib.wpList_append_run _ rfl (.tmp 20) (.tmp 21) _ _ rfl (.slice none 0 0) (.int .i64 n) rfl rfl _ _ l.out ?_)
  go_ret;exact⟨_,_,rfl,⟨by simp,.inr ⟨w.heap.size,c,a,rfl,Nat.le_refl _,Qc zy,by omega,j,q,by simp⟩⟩,((Qa.refl _ w).drew).alloc _⟩
def Xw(us:List Wd)(k:Nat):Wd:=(us.take k).flatten
theorem Sv{us:List Wd}{k:Nat}(h:k<us.length):Xw us (k+1)=Xw us k++us[k]:=by
 unfold Xw;rw [List.take_succ_eq_append_getElem h,List.flatten_append];simp
theorem Bz{us:List Wd}{k:Nat}(h:us.length<=k):Xw us k=us.flatten:=by unfold Xw;rw [List.take_of_length_le h]
theorem Q1k{us:List Wd}(k:Nat):(Xw us k).length<=us.flatten.length:=by
 unfold Xw;conv=>rhs;rw [<-List.take_append_drop k us,List.flatten_append,List.length_append]
 omega
theorem Po{w:World}{ao:Option Addr}{cap:Nat}{vs:List Value}{us:List Wd}{F:Wd}(b1:us.flatten=F)(G:Rd w (.slice ao us.length cap) us.length 1 vs) (b7:∀ i (h:i<us.length),Qk w (vs.getD i undef) us[i]) (d1:F.length<=1000) :
  Calls Tryz.prog 227 #[.slice ao us.length cap] w fun e w'=>∃ u,e=.returned u/\w'.ownsRow w.heap.size 95 2 u F.length (Zv F)/\Ext w w':=by
 obtain⟨f,Y⟩:=zE us.length;have c4:f<=maxLen:=by have:=G.2.1;omega
 unfold maxLen at c4;rw [Y] at G ⊢;have o:=Zh Y;clear Y;have a5:=Zh b7;have C:=Zh b1;clear b1
 have b4:Hid (∀ c (b6:c<us.length),∃ l s,ao=some ⟨l,s,none⟩/\l<w.heap.size/\w.cell? ⟨l,s+c,none⟩=some (vs.getD c undef)):=Zh fun c b6=>by
  obtain⟨_,_,a9,b0,d2,c0⟩:=G;cases d2;obtain⟨l,s,c1,c2,c3⟩:=c0 (by have:=o.out;omega);exact⟨l,s,c1,c2,c3 c (by have:=o.out;omega)⟩
 clear G b7;go_enter Tryz.func227,Tryz.ntmps227;go_wp2
 refine wp_loop (fun a p=>∃(c:Nat),c<=f/\a.defers=[]/\(a.tmps.size=36/\a.tmps.getD 0 undef=.slice ao f cap/\a.tmps.getD 3 undef=.int .i64 ((Xw us c).length:Int)/\a.tmps.getD 9 undef=.slice ao f cap/\a.tmps.getD 10 undef=.int .i64 f/\a.tmps.getD 11 undef=.int .i64 c)/\w=p)
  (fun a _=>f - (intOf (a.tmps.getD 11 undef)).toNat) ?_ ?_
 ·exact⟨0,by omega,rfl,⟨rfl,rfl,by simp [Xw],rfl,rfl,rfl⟩,rfl⟩
 rintro⟨a3,_⟩ p ⟨c,b6,a0,⟨z,O,U,W,P,Q⟩,rfl⟩;subst a0;obtain⟨a4,A⟩:=Zi z;obtain⟨u,rfl⟩:∃ x,x=a4:=⟨_,rfl⟩;have a1:a3=#[u 0,u 1,u 2,u 3,u 4,u 5,u 6,u 7,u 8,u 9,u 10,u 11,u 12,u 13,u 14,u 15,u 16,u 17,u 18,u 19,u 20,u 21,u 22,u 23,u 24,u 25,u 26,u 27,u 28,u 29,u 30,u 31,u 32,u 33,u 34,u 35]:=A;clear A;subst a1;change u 0=_ at O;change u 3=_ at U;change u 9=_ at W;change u 10=_ at P;change u 11=_ at Q;rw [O,U,W,P,Q];clear O U W P Q z;by_cases d0:c<f
 ·have X:(c:Int)<(f:Int):=by omega
  have m:c<us.length:=by rw [o.out];exact d0
  obtain⟨l,s,rfl,c8,y⟩:=b4.out c m;obtain⟨d5,d4,B,a2⟩:=(a5.out c m).slice;rw [B] at y;have r:=Sv m;have k:=Q1k (us:=us) (c+1);rw [C.out] at k;have n:(Xw us (c+1)).length=(Xw us c).length+us[c].length:=by rw [r,List.length_append]
  rw [n] at k;obtain⟨L,J⟩:=zE ((Xw us c).length);obtain⟨K,I⟩:=zE (us[c].length);rw [J,I] at k;rw [J];rw [I] at y;have d8:¬ ((L:Int)+(K:Int)<0):=by omega
  have b8:Hid ((Xw us (c+1)).length=L+K):=Zh (by rw [n,J,I]);clear r n J I B a2;go_wp2;exact⟨⟨c+1,by omega,by rw [b8.out];simp,by simp⟩,nz⟩
 obtain rfl:c=f:=by omega
 have X:¬ (c:Int)<(c:Int):=by omega
 have q:(Xw us c)=F:=(Bz (by rw [o.out];exact Nat.le_refl _)).trans C.out;rw [q];clear q;obtain⟨N,Z⟩:=zE F.length;rw [Z] at d1 ⊢;have E:=Zh Z;clear Z
 go_wp2_with (go_at_call 261;refine(Q77 N oz _).mono ?_;rintro e d3 ⟨v,t,rfl,g,j⟩)
 refine wp_loop (fun a p=>∃(d:Nat) (v:Option Addr) (t:Nat),d<=c/\a.defers=[]/\(a.tmps.size=36/\a.tmps.getD 6 undef=.slice v (Xw us d).length t/\a.tmps.getD 25 undef=.slice ao c cap/\a.tmps.getD 26 undef=.int .i64 c/\a.tmps.getD 27 undef=.int .i64 d)/\p.ownsRow w.heap.size 95 2 (.slice v (Xw us d).length t) (Xw us d).length (Zv (Xw us d))/\Ext w p)
  (fun a _=>c - (intOf (a.tmps.getD 27 undef)).toNat) ?_ ?_
 ·exact⟨0,v,t,by omega,rfl,⟨rfl,rfl,rfl,rfl,rfl⟩,g,j⟩
 clear g j d3 v t;rintro⟨a3,_⟩ p ⟨d,v,t,d7,a0,⟨z,V,R,S,T⟩,g,j⟩;subst a0;obtain⟨a4,A⟩:=Zi z;obtain⟨u,rfl⟩:∃ x,x=a4:=⟨_,rfl⟩;have a1:a3=#[u 0,u 1,u 2,u 3,u 4,u 5,u 6,u 7,u 8,u 9,u 10,u 11,u 12,u 13,u 14,u 15,u 16,u 17,u 18,u 19,u 20,u 21,u 22,u 23,u 24,u 25,u 26,u 27,u 28,u 29,u 30,u 31,u 32,u 33,u 34,u 35]:=A;clear A;subst a1;change u 6=_ at V;change u 25=_ at R;change u 26=_ at S;change u 27=_ at T;rw [V,R,S,T];clear V R S T z;by_cases c9:d<c
 ·have X:(d:Int)<(c:Int):=by omega
  have m:d<us.length:=by rw [o.out];exact c9
  obtain⟨l,s,rfl,c8,b5⟩:=b4.out d m;have y:=j.cell_some b5 (fun h=>h);have H:=(a5.out d m).ext j;obtain⟨d5,d4,B,a2⟩:=H.slice;rw [B] at y H;have r:=Sv m;have k:=Q1k (us:=us) (d+1);rw [C.out] at k;have n:(Xw us (d+1)).length=(Xw us d).length+us[d].length:=by rw [r,List.length_append]
  rw [n,E.out] at k;obtain⟨M,D,a6⟩:=Zh3 r n H.1;have c7:=j.size;clear r n B a2 H b5;obtain⟨a7,b2⟩:=zE (Xw us d);obtain⟨a8,b3⟩:=zE (us[d]);rw [b2] at g k M D ⊢;rw [b3] at y k M D a6;clear b2 b3
  go_wp2_with (at_builtin;refine Vo rfl (.tmp 31) (.tmp 32) 99 rfl w.heap.size 95 _ 2 8 Tryz.underlying99 @Da rfl zd _ _ _ rfl g _ _ _ _ rfl a6.out (Bo _) (by unfold maxLen;omega) oz c7 ?_;intro a9 b0 d9 c5 c6 d6)
  refine⟨⟨d+1,a9,b0,by omega,tz,⟨rfl,by rw [D.out];rfl,rfl,rfl,rfl⟩,?_,?_⟩,nz⟩
  ·rw [D.out,M.out,V8];exact c5
  ·exact j.after c6 (fun b hb e=>by have:=(g.lt _ e).1;omega)
 ·obtain rfl:d=c:=by omega
  have X:¬ (d:Int)<(d:Int):=by omega
  have q:(Xw us d)=F:=(Bz (by rw [o.out];exact Nat.le_refl _)).trans C.out;rw [q,E.out] at g;rw [q,E.out];have b9:=Zh g;clear g q;go_wp2;go_ret;exact⟨_,rfl,by rw [E.out];exact b9.out,j⟩
end Go.Proofs.YtfdlhlghcbeblaaGreatDoor
namespace Go.Ab
def Qc0(n:Nat):List Int:=(List.range n).map fun(i:Nat)=>(i:Int)
def Qc9(F:List Int):Bool:=decide (F=Qc0 F.length)
def Qbx(F:List Int):Bool:=(List.range F.length).all fun i=>F.contains (i:Int)
def Qcz(F:List Int):Int:=if Qc9 F=true then 1 else if Qbx F=true then 4 else 5
end Go.Ab
namespace Go.Ab
open Go.RowKit
def Zw(L:List Int):List Value:=L.map fun x=>Value.int .i64 x
theorem Hx(L:List Int){i:Nat}(h:i<L.length):(Zw L)[i]?=some (.int .i64 (L.getD i 0)):=by
 unfold Zw;rw [List.getElem?_map,List.getElem?_eq_getElem h,List.getD_eq_getElem?_getD,List.getElem?_eq_getElem h];rfl
theorem Dp(L:List Int)(i:Nat)(x:Int):(Zw L).set i (.int .i64 x)=Zw (L.set i x):=by unfold Zw;rw [List.map_set]
theorem Q06(L:List Int)(x:Int):Zw (L++[x])=Zw L++[.int .i64 x]:=by simp [Zw]
def Qch(L:List Int):Bool:=decide (∀ i,i<L.length->i+1<L.length->L.getD i 0<=L.getD (i+1) 0)
theorem Eh{L:List Int}(h:∀ p q,p<q->q<L.length->L.getD p 0<=L.getD q 0):L.Pairwise (·<=·):=by
 rw [List.pairwise_iff_getElem];intro d e b a c;have:=h d e c a
 rwa [List.getD_eq_getElem?_getD,List.getElem?_eq_getElem b,List.getD_eq_getElem?_getD,List.getElem?_eq_getElem a] at this
def Kt(X:List Int)(j:Nat):List Int:=(X.set (j+1) (X.getD j 0)).set j (X.getD (j+1) 0)
theorem Tj(X:List Int){j:Nat}(h:j+1<X.length)(k:Nat):(Kt X j).getD k 0=if k=j then X.getD (j+1) 0 else if k=j+1 then X.getD j 0 else X.getD k 0:=by
 unfold Kt;rw [List.getD_eq_getElem?_getD,List.getElem?_set];by_cases a:j=k
 ·subst a;rw [if_pos rfl,if_pos rfl,List.length_set,if_pos oz];rfl
 ·rw [if_neg a,if_neg (fun e=>a e.symm),List.getElem?_set];by_cases b:j+1=k
  ·subst b;rw [if_pos rfl,if_pos rfl,if_pos h];rfl
  ·rw [if_neg b,if_neg (fun e=>b e.symm),List.getD_eq_getElem?_getD]
theorem Q2n(X:List Int){j:Nat}(h:j+1<X.length):(Kt X j).Perm X:=by
 have a:X.getD j 0=X[j]:=by rw [List.getD_eq_getElem?_getD,List.getElem?_eq_getElem oz];rfl
 have b:X.getD (j+1) 0=X[j+1]:=by rw [List.getD_eq_getElem?_getD,List.getElem?_eq_getElem h];rfl
 unfold Kt;rw [a,b];exact List.set_set_perm h (show j<X.length by omega)
def Gt(X:List Int)(i j:Nat):Prop:=∀ p q,p<q->q<=i->q≠j->X.getD p 0<=X.getD q 0
theorem Gt.start{X:List Int}{i:Nat}(h:∀ p q,p<q->q<i->X.getD p 0<=X.getD q 0):Gt X i i:=fun p q h1 h2 h3=>h p q h1 oz
theorem Gt.swap{X:List Int}{i j:Nat}(h:Gt X i (j+1)) (l:j+1<=i) (m:i<X.length) (n:X.getD (j+1) 0<X.getD j 0):Gt (Kt X j) i j:=by
 intro a d g e k;rw [Tj X oz,Tj X oz,if_neg k];by_cases c:d=j+1
 ·subst c;rw [if_pos rfl];by_cases b:a=j
  ·subst b;rw [if_pos rfl];omega
  ·rw [if_neg b,if_neg oz];exact h a j oz oz oz
 ·rw [if_neg c];by_cases b:a=j
  ·subst b;rw [if_pos rfl];exact h (a+1) d oz e c
  ·rw [if_neg b];by_cases f:a=j+1
   ·subst f;rw [if_pos rfl];exact h j d oz e c
   ·rw [if_neg f];exact h a d g e c
theorem Gt.stop{X:List Int}{i j:Nat}(h:Gt X i j)(f:j<=i)(d:j=0\/∃ k,j=k+1/\¬ X.getD (k+1) 0<X.getD k 0):∀ p q,p<q->q<i+1->X.getD p 0<=X.getD q 0:=by
 intro p q b e;by_cases a:q=j
 ·subst a;rcases d with rfl | ⟨k,rfl,g⟩
  ·omega
  ·by_cases c:p=k
   ·subst c;omega
   ·exact Int.le_trans (h p k oz oz oz) oz
 ·exact h p q b oz a
end Go.Ab
namespace Go.Ab
open Go.RowKit
section
variable {l n:Nat} {P:Program} {ops:Array Oper} {Q:Exit->Act->World->Prop} {md:Region.Mode} {S:World->Prop} {Lt:List Nat}
def Xj(l n:Nat)(P:Program)(md:Region.Mode)(ops:Array Oper)(Q:Exit->Act->World->Prop)(S:World->Prop)(Lt:List Nat):Nat->Array Bool->Act->World->Prop
 | 0,listed,a,w=>Region.ready md ops listed=[]/\Q .normal a w
 | fuel+1,listed,a,w=>
  (Region.ready md ops listed=[]->Q .normal a w) /\
  ∀ i∈Region.ready md ops listed,if Lt.contains i=true then wpOpIn (Fence.wide.inRound l) n P ops Q i (Xj l n P md ops Q S Lt fuel (listed.setIfInBounds i true)) a w
   else wpOp P ops Q i (fun a' w'=>S w'/\Xj l n P md ops Q S Lt fuel (listed.setIfInBounds i true) a' w') a w
theorem We(hd:Jo ops=true)(hQ:¬ LetsOut Q):∀(fuel:Nat) (listed:Array Bool) (a:Act) (w:World),Xj l n P md ops Q S Lt fuel listed a w->wpAnyIn (Fence.wide.inRound l) n P md ops Q fuel listed a w
 | 0,_,_,_,h=>h
 | fuel+1,_,_,_,h=>⟨h.1,fun i hi=>by
  have h2:=h.2 i hi;by_cases hl:Lt.contains i=true
  ·rw [if_pos hl] at h2;exact wpOpIn_mono (fun a w h=>We hd hQ fuel _ a w h) h2
  ·rw [if_neg hl] at h2;exact Dh hd hQ (fun a w h=>We hd hQ fuel _ a w h.2) h2⟩
theorem Ca{i:Nat}{g:Oper}{v:Value}(t:ops[i]?=some g)(K:Lt.contains i=false)(E:∀(j:Nat) (o:Oper) cs b,ops[j]?=some o->o.op≠.select cs b)
  (G:∀ c a w,Q (.panic c) (a.put g.dst v) w->Q (.panic c) a w) (M:∀ j,Lt.contains j=true->Hp md ops i ops.size j=true) :
  ∀(fuel:Nat) (listed:Array Bool) (a:Act) (w:World),W4 md ops listed ->
   (∀ j oj,ops[j]?=some oj->j≠i->listed.getD j true=false->(∀ e∈oj.after,Region.binds md e=true->e.on≠i)->g.apart ops oj=true) ->
   i∈Region.ready md ops listed->YieldsIf P ops S g v a->S w ->
   Xj l n P md ops Q S Lt fuel (listed.setIfInBounds i true) (a.put g.dst v) w->Xj l n P md ops Q S Lt (fuel+1) listed a w:=by
 have A:¬ Lt.contains i=true:=by rw [K];decide
 intro fuel
 induction fuel with
 | zero=>
  intro listed a w _ _ f r q m;refine⟨fun h=>(by rw [h] at f;cases f),fun j hj=>?_⟩;by_cases d:j=i
  ·subst d;rw [if_neg A];exact r.wpOp t q ⟨q,m⟩
  ·have:=ready_mono hj d;rw [m.1] at this;cases this
 | succ fuel ih=>
  intro listed a w y z f r q m;refine⟨fun h=>(by rw [h] at f;cases f),fun j hj=>?_⟩;by_cases d:j=i
  ·subst d;rw [if_neg A];exact r.wpOp t q ⟨q,m⟩
  ·have p:=m.2 j (ready_mono hj d);have B:listed.getD i false=false:=by
    have x:=(mem_ready.1 f).1;rcases Nat.lt_or_ge i listed.size with s | s
    ·simp [s] at x ⊢;exact x
    ·simp [Array.getElem?_eq_none s]
   have I:Lt.contains j=false:=by
    cases hl:Lt.contains j with
    | false=>rfl
    | true=>exact absurd hj (Fy y B _ _ (M j hl)).2
   have L:¬ Lt.contains j=true:=by rw [I];decide
   rw [if_neg L] at p ⊢;obtain⟨D,oj,u,H⟩:=mem_ready.1 hj
   have N:∀ e∈oj.after,Region.binds md e=true->e.on≠i:=fun e he hb heq=>by
    have p:=H e he hb;rw [heq,B] at p;cases p
   have F:=wpOp_putIf u (z j oj u d D N) (fun cs b=>E i g cs b t) (fun cs b=>E j oj cs b u) G r p
   have J:∀ k ok,ops[k]?=some ok->k≠i->(listed.setIfInBounds j true).getD k true=false ->
     (∀ e∈ok.after,Region.binds md e=true->e.on≠i)->g.apart ops ok=true:=fun k ok hk hki hun hno=>by
    refine z k ok hk hki ?_ hno;by_cases C:j=k
    ·subst C;exact D
    ·rw [getD_set_ne true C] at hun;exact hun
   refine wpOp_mono (fun a' w' h3=>⟨h3.2.1,ih (listed.setIfInBounds j true) a' w' (y.step hj) J (ready_mono f (Ne.symm d)) h3.1 h3.2.1 ?_⟩) F;rw [Array.setIfInBounds_comm _ _ d];exact h3.2.2
theorem Nh{i:Nat}{oi:Oper}{v:Value}{fuel:Nat}{listed:Array Bool}{a:Act}{w:World}(hi:ops[i]?=some oi)(hil:Lt.contains i=false)
  (hs:Region.noSelect ops=true) (hf:Region.free md ops listed i=true) (hr:(Region.ready md ops listed).contains i=true) (hc:Dk md ops listed=true) (hl:(Lt.all fun j=>Hp md ops i ops.size j)=true)
  (hQ:∀ c a w,Q (.panic c) (a.put oi.dst v) w->Q (.panic c) a w) (hy:YieldsIf P ops S oi v a) (hS:S w)
  (h:Xj l n P md ops Q S Lt fuel (listed.setIfInBounds i true) (a.put oi.dst v) w):Xj l n P md ops Q S Lt (fuel+1) listed a w:=
 Ca hi hil (Region.noSelect_spec hs) hQ (fun j hj=>List.all_eq_true.1 hl j (by simpa using hj)) fuel listed a w (Ft hc) (Region.free_spec hi hf) (by simpa using hr) hy hS h
def Y2(l n:Nat)(P:Program)(md:Region.Mode)(ops:Array Oper)(Q:Exit->Act->World->Prop)(S:World->Prop)(Lt:List Nat)(fuel:Nat)(listed:Array Bool)(a:Act)(w:World)(rs:List Nat):Prop:=
 ∀ i∈rs,if Lt.contains i=true then wpOpIn (Fence.wide.inRound l) n P ops Q i (Xj l n P md ops Q S Lt fuel (listed.setIfInBounds i true)) a w
   else wpOp P ops Q i (fun a' w'=>S w'/\Xj l n P md ops Q S Lt fuel (listed.setIfInBounds i true) a' w') a w
theorem Y2.nil{fuel:Nat}{listed:Array Bool}{a:Act}{w:World}:Y2 l n P md ops Q S Lt fuel listed a w []:=fun _ h=>by cases h
theorem Y2.cons{fuel:Nat}{listed:Array Bool}{a:Act}{w:World}{i:Nat}{o:Oper}{rs:List Nat}(ho:ops[i]?=some o)(hl:Lt.contains i=false)
  (h:∀ K':Act->World->Prop,Go.Shut (∀ a w,S w->(S w->Xj l n P md ops Q S Lt fuel (listed.setIfInBounds i true) a w)->K' a w)->if Region.wanted o (yielded ops a.tmps)=true then Oper.wp P o a w K' Q else K' (a.put o.dst undef) w)
  (hs:Y2 l n P md ops Q S Lt fuel listed a w rs):Y2 l n P md ops Q S Lt fuel listed a w (i::rs):=fun j hj=>by
 rcases List.mem_cons.1 hj with rfl | hj
 ·rw [if_neg (by rw [hl];decide)];exact wpOp_step ho (fun K' hK=>h K' (fun a w hS hW=>hK a w ⟨hS,hW hS⟩))
 ·exact hs j hj
theorem Y2.late{fuel:Nat}{listed:Array Bool}{a:Act}{w:World}{i:Nat}{o:Oper}{rs:List Nat}(ho:ops[i]?=some o)(hl:Lt.contains i=true)
  (h:∀ K':Act->World->Prop,Go.Shut (∀ a w,Xj l n P md ops Q S Lt fuel (listed.setIfInBounds i true) a w->K' a w)->if Region.wanted o (yielded ops a.tmps)=true then Oper.wpIn (Fence.wide.inRound l) n P o a w K' Q else(∀ f,o.about P w a.eval=some f->(Fence.wide.inRound l).fn f)/\K' (a.put o.dst undef) w)
  (hs:Y2 l n P md ops Q S Lt fuel listed a w rs):Y2 l n P md ops Q S Lt fuel listed a w (i::rs):=fun j hj=>by
 rcases List.mem_cons.1 hj with rfl | hj
 ·rw [if_pos hl];exact wpOpIn_step ho (fun K' hK=>h K' hK)
 ·exact hs j hj
theorem Kq{rs:List Nat}{fuel:Nat}{listed:Array Bool}{a:Act}{w:World}(hr:Region.ready md ops listed=rs)(hne:rs≠[])
  (h:Y2 l n P md ops Q S Lt fuel listed a w rs):Xj l n P md ops Q S Lt (fuel+1) listed a w:=⟨fun h0=>absurd (hr ▸ h0) hne,hr ▸ h⟩
theorem My{listed:Array Bool}{a:Act}{w:World}(hr:Region.ready md ops listed=[])(h:Q .normal a w) :
  ∀ fuel,Xj l n P md ops Q S Lt fuel listed a w
 | 0=>⟨hr,h⟩
 | _+1=>⟨fun _=>h,by rw [hr];simp⟩
theorem Mq{id:Nat}{a:Act}{w:World}(Lt:List Nat)(hm:P.follows .mixedOrders=true)(hd:Jo ops=true)(hQ:¬ LetsOut Q)(hS:S w.drew)
  (h:S w.drew->Xj l n P .any ops Q S Lt ops.size (Array.replicate ops.size false) a w.drew):(Code.region id ops true).wpIn (Fence.wide.inRound l) n P Q a w:=
 wpIn_region_any hm (We hd hQ _ _ _ _ (h hS))
end
end Go.Ab
namespace Go.Proofs.YtfdlhlghcbeblaaGreatDoor
open Go.RowKit Go.Ab
theorem Pf{P:Program}(w:World)(d:Nat)(t e:TypeId)(k:IntKind)(b c f g:Int)(s:P.underlying t=some (.array 2 e)) (i:P.underlying e=some (.int k)) (m:(P.info? e).map (·.size)=some 1) :
  (Op.equalIn (d+2) t (.agg #[.int k b,.int k c]) (.agg #[.int k f,.int k g])).run P w=.ok (b == f && c == g) w:=by
 have o:=run_equalIn_int w d e k k b f i;have l:=run_equalIn_int w d e k k c g i;obtain⟨a,q,r⟩:∃ a,P.info? e=some a/\a.size=1:=by
  cases h:P.info? e with
  | none=>simp [h] at m
  | some a=>exact⟨a,rfl,by simpa [h] using m⟩
 have p:(isAgg e).run P w=.ok false w:=by simp [isAgg,run_underlying i]
 rw [Op.equalIn];simp only [Sem.run_bind,run_underlying s,Result.andThen_ok];simp [Std.Legacy.Range.forIn_eq_forIn_range',sizeOf,typeInfo,q,r,List.range',part,o,p];by_cases j:b=f
 ·by_cases n:c=g
  ·subst n;simp [j,l]
  ·simp [j,n,l]
 ·simp [j]
def zs(l:List Nat):List Int:=l.map fun(x:Nat)=>(x:Int)
def S1(l:List Int):List Value:=l.map (Value.int .i64)
theorem Ss(l:List Int)(i:Nat)(h:i<l.length):(S1 l).getD i undef=.int .i64 (l.getD i 0):=by
 simp [S1,List.getD_eq_getElem?_getD,h]
def prs(l:List (Int × Int)):List Value:=l.flatMap fun p=>[Value.int .i64 p.1,Value.int .i64 p.2]
theorem Dq(p:Int × Int)(l:List (Int × Int)):prs (p::l)=.int .i64 p.1::.int .i64 p.2::prs l:=rfl
theorem Q3j(l m:List (Int × Int)):prs (l++m)=prs l++prs m:=by simp [prs]
theorem Sc:∀(l:List (Int × Int)) (i:Nat),i<l.length->(prs l).getD (i*2) undef=.int .i64 (l.getD i (0,0)).1
 | [],_,h=>by simp at h
 | p::l,0,_=>by simp [Dq]
 | p::l,i+1,h=>by
  rw [Dq,show (i+1)*2=i*2+1+1 by omega,List.getD_cons_succ,List.getD_cons_succ,List.getD_cons_succ];exact Sc l i (by simpa using h)
theorem S7:∀(l:List (Int × Int)) (i:Nat),i<l.length->(prs l).getD (i*2+1) undef=.int .i64 (l.getD i (0,0)).2
 | [],_,h=>by simp at h
 | p::l,0,_=>by simp [Dq]
 | p::l,i+1,h=>by
  rw [Dq,show (i+1)*2+1=i*2+1+1+1 by omega,List.getD_cons_succ,List.getD_cons_succ,List.getD_cons_succ];exact S7 l i (by simpa using h)
end Go.Proofs.YtfdlhlghcbeblaaGreatDoor
namespace Go.Ab
def bfR(n:Nat)(R:Nat->Nat->Bool)(x:Nat):Nat:=X1 n (fun a=>R a x)
def afR(n:Nat)(R:Nat->Nat->Bool)(x:Nat):Nat:=X1 n (fun b=>R x b)
structure Rel (n:Nat) (R:Nat->Nat->Bool):Prop where
 dom:∀ a b,R a b=true->a<n/\b<n
 irr:∀ a,R a a=false
 tr:∀ a b c,R a b=true->R b c=true->R a c=true
theorem Rel.empty(n:Nat):Rel n (fun _ _=>false):=⟨by simp,by simp,by simp⟩
theorem Rel.asym{n:Nat}{R:Nat->Nat->Bool}(h:Rel n R){a b:Nat}(c:R a b=true):R b a=false:=by
 cases hba:R b a with
 | false=>rfl
 | true=>have:=h.tr a b a c hba;rw [h.irr] at this;cases this
def Ly(R:Nat->Nat->Bool)(x y:Nat):Nat->Nat->Bool:=fun i k=>R i k || ((i == x || R i x) && (k == y || R y k))
theorem Q76{n:Nat}{R:Nat->Nat->Bool}(h:Rel n R){x y:Nat}(k:x<n)(m:y<n)(l:x≠y)(i:R y x=false):Rel n (Ly R x y):=by
 constructor
 ·intro d j c;simp only [Ly,Bool.or_eq_true,Bool.and_eq_true,beq_iff_eq] at c;rcases c with c | ⟨b,a⟩
  ·exact h.dom d j c
  ·constructor
   ·rcases b with rfl | b
    ·exact k
    ·exact(h.dom _ _ b).1
   ·rcases a with rfl | a
    ·exact m
    ·exact(h.dom _ _ a).2
 ·intro d;cases e:Ly R x y d d with
  | false=>rfl
  | true=>
   simp only [Ly,Bool.or_eq_true,Bool.and_eq_true,beq_iff_eq] at e;rcases e with e | ⟨b,a⟩
   ·rw [h.irr] at e;cases e
   ·rcases b with rfl | b <;> rcases a with a | a
    ·exact absurd a l
    ·rw [i] at a;cases a
    ·subst a;rw [i] at b;cases b
    ·have:=h.tr _ _ _ a b;rw [i] at this;cases this
 ·intro d j o c f;simp only [Ly,Bool.or_eq_true,Bool.and_eq_true,beq_iff_eq] at *;rcases c with c | ⟨b,a⟩ <;> rcases f with f | ⟨g,h4⟩
  ·exact .inl (h.tr _ _ _ c f)
  ·refine .inr ⟨?_,h4⟩;rcases g with rfl | g
   ·exact .inr c
   ·exact .inr (h.tr _ _ _ c g)
  ·refine .inr ⟨b,?_⟩;rcases a with rfl | a
   ·exact .inr f
   ·exact .inr (h.tr _ _ _ a f)
  ·exact .inr ⟨b,h4⟩
def rdy(n:Nat)(R:Nat->Nat->Bool)(l:List Nat)(x:Nat):Bool:=!l.contains x && (List.range n).all fun a=>!R a x || l.contains a
def Qbo(n:Nat)(R:Nat->Nat->Bool)(l:List Nat):Option Nat:=(List.range n).find? (rdy n R l)
def Q18(n:Nat)(R:Nat->Nat->Bool):Nat->List Nat->List Nat
 | 0,l=>l
 | k+1,l=>match Qbo n R l with | some x=>Q18 n R k (l++[x]) | none=>l
def Qcm(n:Nat)(R:Nat->Nat->Bool):List Nat:=Q18 n R n []
end Go.Ab
namespace Go.Ab
open Go.RowKit
def Qd4{α:Type}(P:Program)(gf:Nat)(lb:Array Value)(M:Nat->Nat->Prop)(E:Nat->(Nat->Prop)->α->World->Array Value->Prop) (xs:List α) (fin:Option (List PanicEntry)) (K:Nat->Prop) (w:World):Prop:=
 ∀(l:Nat) (J Jx:(Nat->Prop)->List α->World->Prop) (W:World),Qa (fun b=>¬ K b) w W ->
  (∀ O O' pre A B,J O pre A->Qa (fun b=>O b/\M W.heap.size b) A B->(∀ b,O' b->(O b\/A.heap.size<=b)/\b<B.heap.size)->J O' pre B) ->
  (∀ O O' pre A B,Jx O pre A->Qa (fun b=>O b/\M W.heap.size b) A B->(∀ b,O' b->(O b\/A.heap.size<=b)/\b<B.heap.size)->Jx O' pre B) ->
  (∀ O pre x rest A ys,xs=pre++x::rest->J O pre A->E W.heap.size O x A ys->YieldAt Fence.wide 0 P l ys A fun e B=>
   (e=.returned (.bool true)/\J O (pre++[x]) B/\Qa (fun b=>¬ K b/\¬ O b) A B)\/(e=.returned (.bool false)/\Jx O (pre++[x]) B/\Qa (fun b=>¬ K b/\¬ O b) A B)) ->
  J (fun _=>False) [] W ->
  Calls P gf (#[.func (.yield l) #[] #[]]++lb) W fun e B=>((∃ v,e=.returned v)/\∃ O,((fin=none/\J O xs B)\/∃ pre x rest,xs=pre++x::rest/\Jx O (pre++[x]) B))\/(∃ ch,fin=some ch/\e=.panicked ch/\∃ O,J O xs B)
theorem Fo{P:Program}{fn:Func}{tmps:Array Value}{R:Ending->World->Prop}{ch:List PanicEntry}{base:Nat} :
  ∀(ds:List Deferred) (w:World),Qz base ds w->(∀ w',Qa (Shut base w) w w'->w'.heap.size=w.heap.size->R (.panicked ch) w') ->
   LeavesInM Fence.wide 0 P fn tmps R ds (.panicking ch) w
 | [],w,_,h=>h w (Qa.refl _ _) rfl
 | d::ds,w,⟨r,hb,hd,hr,hn,hm⟩,h=>by
  refine⟨by simp,.inl ⟨r,_,by rw [hd],run_takeDeferred hr,?_⟩⟩;refine Fo ds _ (hm.keep' (S:=(·=r)) ((Qa.refl (·=r) w).putObj (.inr rfl) _) (fun b e=>by subst e;exact hn)) ?_;intro w' ht hs;have hput:Qa (Shut base w) w (w.putObj r (.deferred none)):=(Qa.refl _ w).putObj (.inr ⟨hb,fun o ho=>by rw [hr] at ho;cases ho;rfl⟩) _;refine h w' (hput.after ht fun b hlt hsh=>?_) (by rw [hs];simp);refine⟨hsh.1,fun o ho=>?_⟩;by_cases hbr:b=r
  ·subst hbr;rw [hr] at ho;cases ho;rfl
  ·exact hsh.2 o (by rw [World.putObj_heap_other hbr];exact ho)
theorem R7{P:Program}{fn:Func}{R:Ending->World->Prop}{a:Act}{w:World}{ch:List PanicEntry}{base:Nat}(hm:Qz base a.defers w)
  (hR:∀ w',Qa (Shut base w) w w'->w'.heap.size=w.heap.size->R (.panicked ch) w') :
  bodyPostM Fence.wide 0 P fn R (.panic ch) a w:=Fo _ _ hm hR
end Go.Ab
namespace Go.Ab
open Go.RowKit
def Q99{α:Type}(P:Program)(gf:Nat)(lb:Array Value)(M:Nat->Nat->Prop)(E:Nat->α->World->Array Value->Prop)(xs:List α)(fin:Option (List PanicEntry)) (T:Nat->Prop) (C:World->Prop) (w:World):Prop:=
 ∀(l:Nat) (J Jx:List α->World->Prop) (W:World),Qa T w W ->
  w.heap.size<=l->(∃ o,W.heap[l]?=some o/\o.isCells=false) ->
  (∀ pre A B,J pre A->Qa (fun b=>W.heap.size<=b/\M W.heap.size b) A B->J pre B) ->
  (∀ pre A B,Jx pre A->Qa (fun b=>W.heap.size<=b/\M W.heap.size b) A B->Jx pre B) ->
  (∀ pre A,J pre A->C A/\∃ o,A.heap[l]?=some o/\o.isCells=false) ->
  (∀ pre x rest A ys,xs=pre++x::rest->J pre A->E W.heap.size x A ys->YieldAt Fence.wide 0 P l ys A fun e B=>
   (e=.returned (.bool true)/\J (pre++[x]) B/\Qa (fun b=>T b\/b=l) A B)\/(e=.returned (.bool false)/\Jx (pre++[x]) B/\Qa (fun b=>T b\/b=l) A B)) ->
  J [] W ->
  Calls P gf (#[.func (.yield l) #[] #[]]++lb) W fun e B=>((∃ v,e=.returned v)/\((fin=none/\J xs B)\/∃ pre x rest,xs=pre++x::rest/\Jx (pre++[x]) B))\/(∃ ch,fin=some ch/\e=.panicked ch/\J xs B)
theorem Q6i{α:Type}{P:Program}{g:Operand}{ps:Array Tmp}{assign body:Code}{Q:Exit->Act->World->Prop}{a:Act}{w:World}
  {gf:Nat} {lb:Array Value} (c5:a.eval g=.func (.func gf) #[] lb) (b3:∀ args w,(callFunc gf args).run P w=.ok (.enter gf args) w)
  {M:Nat->Nat->Prop} {E:Nat->α->World->Array Value->Prop} {xs:List α} {u:Option (List PanicEntry)} {T:Nat->Prop} {C:World->Prop} (d0:Q99 P gf lb M E xs u T C w) (b8:∀ b,T b->b<w.heap.size) (c9:∀ n x A ys,E n x A ys->ys.size=ps.size)
  (_hEs:∀ n x A B ys,E n x A ys->Qa (fun b=>b=w.heap.size+1) A B->(∃ o,A.heap[w.heap.size+1]?=some o/\o.isCells=false)->E n x B ys)
  (I:List α->World->Prop) (L:Code->List α->World->Prop) (b6:∀ pre A,I pre A->C A)
  (U:∀ pre A B,I pre A->Qa (fun b=>(w.heap.size+2<=b/\M (w.heap.size+2) b)\/b=w.heap.size+1) A B->(∃ o,A.heap[w.heap.size+1]?=some o/\o.isCells=false)->I pre B)
  (O:∀ c pre A B,L c pre A->Qa (fun b=>(w.heap.size+2<=b/\M (w.heap.size+2) b)\/b=w.heap.size+1) A B->(∃ o,A.heap[w.heap.size+1]?=some o/\o.isCells=false)->L c pre B)
  (b4:∀ W,Ext w W->W.heap.size=w.heap.size+2->I [] W) (b2:Array Value->Array Value->Array Value)
  (c0:∀(n:Nat) (pre:List α) (x:α) (rest:List α) (ys:Array Value) (W:World) (Kn:Act->World->Prop),xs=pre++x::rest->I pre W->E n x W ys->(∀ W',Qa T W W'->I (pre++[x]) W'->Kn { tmps:=b2 ys a.tmps,defers:=[] } W') ->
   assign.wpIn (Fence.wide.inRound (w.heap.size+1)) 0 P (Exit.then Kn (fun _ _ _=>False)) { tmps:=(ps.zip ys).foldl (fun t (p,v)=>t.setIfInBounds p v) a.tmps,defers:=[] } W)
  (c1:∀(pre:List α) (x:α) (rest:List α) (ys:Array Value) (W:World),xs=pre++x::rest->w.heap.size+2<=W.heap.size->Qa (fun b=>T b\/w.heap.size<=b) w W->I (pre++[x]) W ->
   body.wpIn (Fence.wide.inRound (w.heap.size+1)) 0 P (Rm (fun b=>¬ T b) I (fun c=>L c) (pre++[x]) W) { tmps:=b2 ys a.tmps,defers:=[] } W)
  (c8:∀ ch W,u=some ch->I xs W->W.heap[w.heap.size]?=some (.deferred (some []))->w.heap.size+2<=W.heap.size->Q (.panic ch) { a with defers:={ target:=.collected w.heap.size,args:=#[] }::a.defers } W)
  (c4:u=none->∀ W,I xs W->W.heap[w.heap.size]?=some (.deferred (some []))->w.heap.size+2<=W.heap.size->Q .normal { a with defers:={ target:=.collected w.heap.size,args:=#[] }::a.defers } W)
  (d1:∀ c pre x rest W,xs=pre++x::rest->L c (pre++[x]) W->W.heap[w.heap.size]?=some (.deferred (some []))->c.wp P Q { a with defers:={ target:=.collected w.heap.size,args:=#[] }::a.defers } W) :
  (Code.rangeFunc g ps assign body).wp P Q a w:=by
 refine(wpIn_wide (n:=0)).1 (wpIn_rangeFunc ?_);intro fn _;obtain⟨f,r⟩:∃ f:LoopState->Option Code->Loop,f=fun st pe=>{ state:=st,pending:=pe,fn,tmps:=a.tmps,params:=ps,assign,body,defers:=w.heap.size }:=⟨_,rfl⟩;obtain⟨l,R⟩:=zE ((w.alloc (.deferred (some []))).alloc (.loop (f .ready none)));have b1:l.heap[w.heap.size+1]?=some (.loop (f .ready none)):=by
  rw [<-R];have:=World.alloc_heap_new (w.alloc (.deferred (some []))) (.loop (f .ready none));rwa [World.size_alloc] at this
 have b7:l.heap[w.heap.size]?=some (.deferred (some [])):=by
  rw [<-R];exact(Below.heap_alloc _ _ _ zy).trans (World.alloc_heap_new w _)
 have a5:Ext w l:=by rw [<-R];exact((Qa.refl _ w).alloc _).alloc _
 have Y:l.heap.size=w.heap.size+2:=by rw [<-R];simp
 have V:∀ b,w.heap.size<=b->¬ T b:=fun b hb d=>by have:=b8 b d;omega
 have H:∀(X:World) o,Qa (fun b=>(w.heap.size+2<=b/\M (w.heap.size+2) b)\/b=w.heap.size+1) X (X.putObj (w.heap.size+1) o):=fun X o=>(Qa.refl _ X).putObj (.inr (.inr rfl)) o
 refine⟨w.heap.size+1,[{ target:=.collected w.heap.size,args:=#[] }],l,{ target:=.fn (.func gf) lb,args:=#[.func (.yield (w.heap.size+1)) #[] #[]] },l,gf,
  #[.func (.yield (w.heap.size+1)) #[] #[]]++lb,l,?_,?_,fun _ _=>trivial,?_,fun h=>by simp [Fence.wide] at h,?_⟩
 ·rw [<-R,r];exact run_enterLoop_outer _ _ _ _ _
 ·simp only [resolve,c5];simp [go_sem]
 ·simp [invoke,go_sem,b3]
 ·refine callsIn_wide.2 ((d0 (w.heap.size+1)
   (fun pre W=>I pre W/\W.heap[w.heap.size+1]?=some (.loop (f .ready none))/\W.heap[w.heap.size]?=some (.deferred (some []))/\Qa (fun b=>T b\/w.heap.size<=b) w W/\w.heap.size+2<=W.heap.size)
   (fun pre W=>∃ c,L c pre W/\W.heap[w.heap.size+1]?=some (.loop (f .done (some c)))/\W.heap[w.heap.size]?=some (.deferred (some []))/\w.heap.size+2<=W.heap.size)
   l a5.of (Nat.le_succ _) ⟨_,b1,rfl⟩ ?_ ?_ ?_ ?_ ⟨b4 _ a5 Y,b1,b7,a5.of,by omega⟩).mono ?_)
  ·rintro pre A B ⟨N,y,a3,b5,a4⟩ d;rw [Y] at d;exact⟨U _ _ _ N (d.mono fun b _ hb=>.inl hb) ⟨_,y,rfl⟩,d.heap y (fun hb=>by have:=hb.1;omega),d.heap a3 (fun hb=>by have:=hb.1;omega),b5.after d (fun b a9 hb=>by have:=hb.1;omega),Nat.le_trans a4 d.size⟩
  ·rintro pre A B ⟨c,N,y,a3,a4⟩ d;rw [Y] at d;exact⟨c,O _ _ _ _ N (d.mono fun b _ hb=>.inl hb) ⟨_,y,rfl⟩,d.heap y (fun hb=>by have:=hb.1;omega),d.heap a3 (fun hb=>by have:=hb.1;omega),Nat.le_trans a4 d.size⟩
  ·rintro pre A ⟨N,y,_⟩;exact⟨b6 _ _ N,_,y,rfl⟩
  · -- one round
   rintro pre x rest W ys a0 ⟨q,i,m,d,s⟩ a6;rw [Y] at a6;have a9:w.heap.size+1<W.heap.size:=by omega
   have b0:=run_yield (P:=P) (args:=ys) i (by rw [r];exact c9 _ x _ _ a6);rw [r] at b0;refine⟨fn,_,assign,body,b0,roundIn_of_wpIn trivial (c0 _ pre x rest ys W _ a0 q a6 ?_)⟩;intro W' S q;clear b0;have i:=S.heap i (V _ oz);have m:=S.heap m (V _ oz);have d2:=d;have d:=d.trans (S.mono fun b _ h=>.inl h);have Z:=s;have s:=Nat.le_trans s S.size;have a9:w.heap.size+1<W'.heap.size:=by omega
   have d3:Qa (fun b=>T b\/b=w.heap.size+1) W W':=S.mono fun b _ h=>.inl h;refine⟨_,run_beginRound i (by rw [r]),?_⟩;have c7:(W'.putObj (w.heap.size+1) (.loop { f .ready none with state:=.busy })).heap[w.heap.size+1]?=some (.loop { f .ready none with state:=.busy }):=World.putObj_heap_same a9;have c2:(W'.putObj (w.heap.size+1) (.loop { f .ready none with state:=.busy })).heap[w.heap.size]?=some (.deferred (some [])):=(World.putObj_heap_other oz).trans m;have b9:Qa (fun b=>T b\/w.heap.size<=b) w (W'.putObj (w.heap.size+1) (.loop { f .ready none with state:=.busy })):=d.putObj (.inl (Nat.le_succ _)) _;refine wpIn_mono (c1 pre x rest ys _ a0 (by simpa using s) b9 (U _ _ _ q (H W' _) ⟨_,i,rfl⟩)) ?_
   have u:∀(jump:Option Code) (e:World),Qa (fun b=>¬ ¬ T b) (W'.putObj (w.heap.size+1) (.loop { f .ready none with state:=.busy })) e ->
     (Instr.endRound (w.heap.size+1) jump).run P e=.ok (.bool jump.isNone) (e.putObj (w.heap.size+1) (.loop (f (if jump.isNone then .ready else .done) jump))) /\
     (e.putObj (w.heap.size+1) (.loop (f (if jump.isNone then .ready else .done) jump))).heap[w.heap.size+1]?=some (.loop (f (if jump.isNone then .ready else .done) jump)) /\
     (e.putObj (w.heap.size+1) (.loop (f (if jump.isNone then .ready else .done) jump))).heap[w.heap.size]?=some (.deferred (some [])) /\
     Qa (fun b=>T b\/b=w.heap.size+1) W (e.putObj (w.heap.size+1) (.loop (f (if jump.isNone then .ready else .done) jump)))/\(∃ o,e.heap[w.heap.size+1]?=some o/\o.isCells=false):=fun jump e k=>by
    have a8:=k.heap c7 (fun h=>h (V _ oz));have c3:=k.heap c2 (fun h=>h (V _ oz));have:=run_endRound (P:=P) jump a8;rw [r] at this ⊢;refine⟨this,World.putObj_heap_same (Array.getElem?_eq_some_iff.1 a8).1,(World.putObj_heap_other oz).trans c3,?_,_,a8,rfl⟩;exact(d3.trans ((Qa.refl _ W').putObj (.inr (.inr rfl)) _)).trans (k.mono fun b _ hb=>.inl (Classical.byContradiction hb)) |>.putObj (.inr (.inr rfl)) _
   have c6:∀ {X:World},Qa (fun b=>T b\/b=w.heap.size+1) W X->Qa (fun b=>T b\/w.heap.size<=b) w X:=fun h=>d2.trans (h.mono fun b _ hb=>hb.imp id (fun a2=>by omega));rintro a2 d4 e K;cases a2 with
   | normal=>
    obtain⟨k,D⟩:=K;obtain⟨J,F,z,j,G⟩:=u none e k;exact⟨_,_,J,.inl ⟨rfl,⟨U _ _ _ D (H e _) G,F,z,c6 j,Nat.le_trans Z j.size⟩,j⟩⟩
   | ret=>
    obtain⟨k,D⟩:=K;obtain⟨J,F,z,j,G⟩:=u (some .ret) e k;exact⟨_,_,J,.inr ⟨rfl,⟨.ret,O _ _ _ _ D (H e _) G,F,z,Nat.le_trans Z j.size⟩,j⟩⟩
   | exit id=>
    obtain⟨k,D⟩:=K;obtain⟨J,F,z,j,G⟩:=u (some (.exit id)) e k;exact⟨_,_,J,.inr ⟨rfl,⟨.exit id,O _ _ _ _ D (H e _) G,F,z,Nat.le_trans Z j.size⟩,j⟩⟩
   | goto t=>
    obtain⟨k,D⟩:=K;obtain⟨J,F,z,j,G⟩:=u (some (.goto t)) e k;exact⟨_,_,J,.inr ⟨rfl,⟨.goto t,O _ _ _ _ D (H e _) G,F,z,Nat.le_trans Z j.size⟩,j⟩⟩
   | panic ch=>exact K.elim
   | outgrown=>exact K.elim
  · -- behind the iterator
   rintro a2 a1 (⟨⟨v,rfl⟩,(⟨a7,q,i,m,d,s⟩ | ⟨pre,x,rest,a0,c,q,i,m,s⟩)⟩ | ⟨ch,a7,rfl,q,i,m,d,s⟩)
   ·refine⟨none,_,by have:=run_endLoop (P:=P) i (by rw [r];simp);rw [r] at this;exact this,?_⟩;exact c4 a7 _ (U _ _ _ q (H a1 _) ⟨_,i,rfl⟩) ((World.putObj_heap_other oz).trans m) (by simpa using s)
   ·refine⟨some c,_,by have:=run_endLoop (P:=P) i (by rw [r];simp);rw [r] at this;exact this,?_⟩;exact(wpIn_wide (n:=0)).2 (d1 c pre x rest _ a0 (O _ _ _ _ q (H a1 _) ⟨_,i,rfl⟩) ((World.putObj_heap_other oz).trans m))
   ·exact c8 ch a1 a7 q m s
end Go.Ab
