/- word.valid, word.Check; good. -/
import Derived.Test.YtfdlhlghcbeblaaGreatDoorQ03
import Derived.Lib.AppendZeros
set_option maxRecDepth 100000
set_option maxHeartbeats 8000000
namespace Go.Proofs.YtfdlhlghcbeblaaGreatDoor
open Go.RowKit Go.Ab
attribute [local go_sem] Oper.semAt_some Zi Qz
theorem Q84(a b:Nat)(i:a<4294967296)(j:b<4294967296)(w:World) :
  Calls Tryz.prog 109 #[.agg #[.int .u32 (a:Int),.int .u32 (b:Int)]] w fun e w'=>e=.returned (.bool (Z8 a b))/\Ext w w':=by
 obtain⟨q,r⟩:=Wg i j;have p:a ||| b<4294967296:=Nat.or_lt_two_pow (n:=32) i j;have d:Z8 a b=((a &&& b == 0) && ((a ||| b) / 16777216 == 0)):=rfl;obtain⟨f,l⟩:=zE (a &&& b == 0);obtain⟨c,k⟩:=zE (a ||| b);rw [l] at q d;rw [k] at r d p;have s:((c:Int) / 16777216 == 0)=(c / 16777216 == 0):=by
  apply Bool.eq_iff_iff.2;rw [beq_iff_eq,beq_iff_eq];omega
 obtain⟨o,m⟩:=zE (c / 16777216 == 0);rw [m] at s d;have g:=Zh d;clear d l k m;go_enter Tryz.func109,Tryz.ntmps109;cases f
 ·go_wp2;go_ret;exact⟨by rw [g.out];rfl,(Q0.refl _ _).alloc _⟩
 ·go_wp2;go_ret;exact⟨by rw [g.out];rfl,(Q0.refl _ _).alloc _⟩
def wE(ws:Wd):Int:=if 32<ws.length then 11 else if Xu ws=true then 0 else 14
theorem Nu{w:World}{v:Value}{ws:Wd}(q:Q6 w v ws) :
  Calls Tryz.prog 60 #[v] w fun e w'=>e=.returned (.int .i64 (wE ws))/\Ext w w':=by
 obtain⟨K,L,rfl,F⟩:=q.slice;unfold maxLen at F;have m:=Zh q;clear q;obtain⟨b,k⟩:=zE ws.length;have u:=Zh k;have f:Hid (wE ws=if 32<b then 11 else if Xu ws=true then 0 else 14):=Zh (by unfold wE;rw [k]);rw [k] at F m ⊢;clear k;by_cases A:32<b
 ·rw [if_pos A] at f;have z:(32:Int)<(b:Int):=by omega
  go_enter Tryz.func60,Tryz.ntmps60;go_wp2;go_ret;exact⟨by rw [f.out];rfl,Q0.refl _ _⟩
 rw [if_neg A] at f;have R:¬ (32:Int)<(b:Int):=by omega
 go_enter Tryz.func60,Tryz.ntmps60;go_wp2
 refine wp_loop (fun c n=>∃(a:Nat),a<=b/\c.defers=[]/\gS c [8,9,10]=(18,[.slice K b L,.int .i64 b,.int .i64 a])/\Xu (ws.take a)=true/\Ext w n)
  (fun c _=>b - (intOf (c.tmps.getD 10 undef)).toNat) ?_ ?_
 ·exact⟨0,by omega,rfl,rfl,by simp [Xu],Q0.refl _ _⟩
 rintro⟨V,_⟩ n ⟨a,T,M,I,D,j⟩;subst M;obtain⟨W,rfl⟩:=Qj I;clear I;have s:=Zh D;clear D;by_cases N:a<b
 ·have z:(a:Int)<(b:Int):=by omega
  have l:a<ws.length:=by rw [u.out];exact N
  obtain⟨Q,U,P,E,S,x,y⟩:=(m.out.ext j).at l;simp only [zV] at E;obtain⟨rfl,O,rfl⟩:=E;clear O;obtain⟨G,H⟩:=m.out.2.get a l;obtain⟨c,o⟩:=zE ((ws.getD a (0,0)).1);obtain⟨i,p⟩:=zE ((ws.getD a (0,0)).2);rw [o] at x G;rw [p] at y H;have r:=Zh o;have t:=Zh p;clear o p;go_wp2_with fail;refine(Q84 c i G H _).mono ?_;rintro e J ⟨rfl,C⟩;have B:Ext w J:=j.trans (Q0.trans ((Q0.refl _ n).alloc _) C);clear j C x y;cases hok:Z8 c i
  ·have d:Xu ws=false:=Ce l (by rw [r.out,t.out];exact hok);have g:=Zh d;clear d hok;go_wp2;go_ret;exact⟨by rw [f.out,g.out];rfl,B⟩
  ·have d:=P7 l s.out (by rw [r.out,t.out];exact hok);have g:=Zh d;clear d hok;go_wp2;exact⟨⟨a+1,by omega,tz,rfl,g.out,B⟩,nz⟩
 ·obtain rfl:a=b:=by omega
  have z:¬ (a:Int)<(a:Int):=by omega
  have d:Xu ws=true:=by have:=s.out;rwa [List.take_of_length_le (by rw [u.out];exact Nat.le_refl _)] at this
  have g:=Zh d;clear d;go_wp2;go_ret;exact⟨by rw [f.out,g.out];rfl,j⟩
def Qi0(p:Pat)(ws:Wd):Bool:=decide (ws.length<=32) && decide (wE ws=0) && decide (Zw p=0)
mutual
def Gy:Pat->Nat
 | .node _ _ _ _ _ _ l=>Yr l+1
def Yr:List Pat->Nat
 | []=>0
 | p::l=>Gy p+Yr l
end
theorem Cq(p:Pat):Gy p=Yr p.l+1:=by cases p;unfold Gy;rfl
theorem Mj(a b:List Pat):Yr (a++b)=Yr a+Yr b:=by
 induction a with
 | nil=>simp [Yr]
 | cons p a ih=>simp only [List.cons_append,Yr,ih];omega
theorem Q6d:∀(f:Nat) (l:List Pat),szW f l=min f (Yr l)
 | 0,l=>by rw [Sp];omega
 | f+1,[]=>by simp [szW,Yr]
 | f+1,p::l=>by
  show szW f (p.l++l)+1=_;rw [Q6d f,Mj];simp only [Yr,Cq];omega
theorem Lx(p:Pat):W8 p=min 41 (Gy p):=by
 unfold W8;rw [Q6d];simp [Yr]
mutual
def Bl:Pat->Bool
 | .node k _ _ _ mn _ l=>if k=0 then true else if k=3 then Qg2 l else if k=4 then Qg3 l else if k=5 then mn == 0 || Qh4 l else false
def Qg2:List Pat->Bool
 | []=>true
 | p::l=>Bl p && Qg2 l
def Qg3:List Pat->Bool
 | []=>false
 | p::l=>Bl p || Qg3 l
def Qh4:List Pat->Bool
 | []=>false
 | p::_=>Bl p
end
def Qht(p:Pat):Bool:=decide (Zw p=0) && Bl p
def Jd(p:Pat)(ws:Wd):Int:=if Zw p=0 then(if 32<ws.length then 11 else if Xu ws=true then 0 else 14) else Zw p
def Vt(p:Pat)(ws:Wd):Qh:=if Jd p ws=0 then Ym ws p else noB
theorem S3{a:Func}{p u:Tmp}(h:a.results=#[.cell p 363,.tmp u]){tmps:Array Value}{w:World}{g:Nat}{f:Nat->Nat}(c:tmps.getD p undef=.pointer (some ⟨g,0,none⟩)) (b:Qb w g f) :
  (results a tmps).run Tryz.prog w=.ok (.tuple #[.agg (Q4 f),tmps.getD u undef]) w:=by
 have d:tmps[p]?.getD undef=.pointer (some ⟨g,0,none⟩):=by simpa using c
 simp [results,h,d,asAddr,run_loadVar_row w g _ _ _ _ _ b Tryz.underlying363 rfl (Tryz.relInfo f)]
theorem Ba{K:Nat->Prop}{w:World}{p:Pat}{cs:List Value}{v:Value}{ws:Wd}(J:Qm K w p cs)(b0:∀ g,K g->g<w.heap.size)(M:Q6 w v ws)(X:Tab w) :
  Calls Tryz.prog 291 #[.agg cs.toArray,v] w fun e w'=>e=.returned (.tuple #[.agg (Q4 (Q2 (Vt p ws))),.int .i64 (Jd p ws)])/\Ext w w':=by
 have b2:=fun(c:World) (hE:Ext w c)=>Pn (K:=K) (J.ext hE) (fun g hg=>Nat.lt_of_lt_of_le (b0 g hg) hE.size) (X.keep hE id);have b3:=fun(c:World) (hE:Ext w c)=>Sh p K c cs (J.ext hE);have b1:=fun(c:World) (hE:Ext w c)=>Q2i (M.ext hE);have a5:=Zh M;have c2:=Zh X;obtain⟨s,t,rfl,d2,d1,_⟩:=Zc J;obtain⟨d9,d8,rfl,d0⟩:=M.slice;clear J d2 d1 M X b0;obtain⟨S,a2,R⟩:=Zh3 b2 b3 b1;clear b2 b3 b1;obtain⟨r,N⟩:=zE (Zw p);obtain⟨a6,I⟩:=zE (Xu ws);obtain⟨q,H⟩:=zE ws.length;have d:Hid (Jd p ws=if r=0 then(if 32<q then 11 else if a6=true then 0 else 14) else r):=Zh (by unfold Jd;rw [N,I,H]);rw [N] at S;rw [I] at R;rw [H] at R a5 d0 ⊢;obtain⟨c3,d7,c1⟩:=Zh3 N I H;clear N I H;unfold Qd at S a2 ⊢;have e2:=Jc;have e3:=Z2 noB;have e4:=Xg noB;go_enter Tryz.func291,Tryz.ntmps291;go_wp2_with fail;obtain⟨a,x⟩:=zE w.heap.size;have a0:((w.alloc (.cells #[.int .i64 p.k,.int .u32 (p.pl:Int),.int .u32 (p.mi:Int),.bool p.nt,.int .i64 p.mn,.int .i64 p.mx,.slice s p.l.length t] 98)).alloc (.cells (Qa noB) 363)).heap[a]?=some (.cells #[.int .i64 p.k,.int .u32 (p.pl:Int),.int .u32 (p.mi:Int),.bool p.nt,.int .i64 p.mn,.int .i64 p.mx,.slice s p.l.length t] 98 (0,0)):=by
  subst x;exact Q8 (Q3 rfl)
 have Z:Qb ((w.alloc (.cells #[.int .i64 p.k,.int .u32 (p.pl:Int),.int .u32 (p.mi:Int),.bool p.nt,.int .i64 p.mn,.int .i64 p.mx,.slice s p.l.length t] 98)).alloc (.cells (Qa noB) 363)) (a+1) (Q2 noB):=by
  subst x;exact Q3 zy
 have F:Ext w ((w.alloc (.cells #[.int .i64 p.k,.int .u32 (p.pl:Int),.int .u32 (p.mi:Int),.bool p.nt,.int .i64 p.mn,.int .i64 p.mx,.slice s p.l.length t] 98)).alloc (.cells (Qa noB) 363)):=((Q0.refl _ w).alloc _).alloc _;generalize ((w.alloc (.cells #[.int .i64 p.k,.int .u32 (p.pl:Int),.int .u32 (p.mi:Int),.bool p.nt,.int .i64 p.mn,.int .i64 p.mx,.slice s p.l.length t] 98)).alloc (.cells (Qa noB) 363))=e1 at a0 Z F ⊢;rw [x];have B:=Zh x;clear x;refine(S.out _ F).mono ?_;rintro e P ⟨rfl,G⟩;have a1:=G.keep a0;have o:=Z.keep G id;have y:=F.trans G;clear F G a0 Z
 have a7:∀(c:World) (C:Int) (A:Array Value) (U:List Deferred),Qb c (a+1) (Q2 noB)->Ext w c->U=[]->C=Jd p ws->C≠0->A.getD 4 undef=.pointer (some ⟨a+1,0,none⟩)->A.getD 5 undef=.int .i64 C ->
   bodyPost Tryz.prog Tryz.f291 (fun e w'=>e=.returned (.tuple #[.agg (Q4 (Q2 (Vt p ws))),.int .i64 (Jd p ws)])/\Ext w w') .ret { tmps:=A,defers:=U } c:=by
  intro c C A U n u c4 a9 c5 c6 c7;subst c4;refine bodyPost_ret (S3 rfl c6 n) rfl ⟨?_,u⟩;have:Vt p ws=noB:=by unfold Vt;rw [if_neg (a9 ▸ c5)]
  rw [this,<-a9];show Ending.returned (.tuple #[_,A.getD 5 undef])=_;rw [c7]
 have Q:=Zh a7;clear a7;have T:=zR a1;by_cases O:r=0
 ·rw [if_pos O] at d;subst O;by_cases b4:32<q
  ·rw [if_pos b4] at d;have n:(32:Int)<(q:Int):=by omega
   have m:Qb (P.setRow (a+1) (Q4 (Q2 noB))) (a+1) (Q2 noB):=setRow_heap _ _ _ _ _ _ o;have i:Ext w (P.setRow (a+1) (Q4 (Q2 noB))):=y.after (Q0.setRow _ _ _) (fun b' n u=>by have:=B.out;omega)
   go_wp2_with (refine wpList_store_row rfl 363 (.tmp 4) (.tmp 18) rfl (a+1) (Q4 (Q2 noB)) rfl rfl _ _ o (Tryz.relInfo _) (by simp only [Qe]) (Qy _) ?_)
   exact Q.out _ 11 _ _ m i rfl d.out.symm oz rfl rfl
  ·rw [if_neg b4] at d;have n:¬ (32:Int)<(q:Int):=by omega
   go_wp2_with fail;refine(R.out _ y).mono ?_;rintro e b9 ⟨rfl,i⟩;have b7:=i.keep a1;have m:=o.keep i id;have D:=y.trans i;clear i a1 o y T;have T:=zR b7;cases a6
   ·have L:Qb (b9.setRow (a+1) (Q4 (Q2 noB))) (a+1) (Q2 noB):=setRow_heap _ _ _ _ _ _ m;have z:Ext w (b9.setRow (a+1) (Q4 (Q2 noB))):=D.after (Q0.setRow _ _ _) (fun b' n u=>by have:=B.out;omega)
    go_wp2_with (refine wpList_store_row rfl 363 (.tmp 4) (.tmp 22) rfl (a+1) (Q4 (Q2 noB)) rfl rfl _ _ m (Tryz.relInfo _) (by simp only [Qe]) (Qy _) ?_)
    exact Q.out _ 14 _ _ L z rfl d.out.symm oz rfl rfl
   ·have b5:Db p:=Qez c3.out;have a4:=Zh b5;clear b5;go_wp2_with fail;refine(a2.out _ D a4.out).mono ?_;rintro e d6 ⟨e0,rfl,W,z⟩;obtain⟨b8,rfl⟩:=Ui W;have d5:=Wy (cmp p) b8;have d4:=M0 (cmp p);have L:=m.keep z id;have E:=D.trans z;have Y:=Q2k (cmp p) _ d6 b8 _ ws W (a5.out.ext E) (by rw [c1.out];omega) (c2.out.keep E id);rw [N6 ws p a4.out] at Y;have a3:=Zh Y;clear Y z m D b7 T W;go_wp2_with fail;clear d5 d4;refine a3.out.mono ?_;rintro e c0 ⟨rfl,V⟩;have b6:=L.keep V id;have c8:=E.trans V;have d3:Qb (c0.setRow (a+1) (Q4 (Q2 (Ym ws p)))) (a+1) (Q2 (Ym ws p)):=setRow_heap _ _ _ _ _ _ b6;have c9:Ext w (c0.setRow (a+1) (Q4 (Q2 (Ym ws p)))):=c8.after (Q0.setRow _ _ _) (fun b' n u=>by have:=B.out;omega);clear a3 L E V
    go_wp2_with (refine wpList_store_row rfl 363 (.tmp 4) (.tmp 26) rfl (a+1) (Q4 (Q2 (Ym ws p))) rfl rfl _ _ b6 (Tryz.relInfo _) (by simp only [Qe]) (Qy _) ?_)
    refine bodyPost_ret (S3 rfl rfl d3) rfl ⟨?_,c9⟩;have a8:Jd p ws=0:=d.out;have:Vt p ws=Ym ws p:=by unfold Vt;rw [if_pos a8]
    rw [this,a8];rfl
 ·rw [if_neg O] at d;have m:Qb (P.setRow (a+1) (Q4 (Q2 noB))) (a+1) (Q2 noB):=setRow_heap _ _ _ _ _ _ o;have i:Ext w (P.setRow (a+1) (Q4 (Q2 noB))):=y.after (Q0.setRow _ _ _) (fun b' n u=>by have:=B.out;omega)
  go_wp2_with (refine wpList_store_row rfl 363 (.tmp 4) (.tmp 12) rfl (a+1) (Q4 (Q2 noB)) rfl rfl _ _ o (Tryz.relInfo _) (by simp only [Qe]) (Qy _) ?_)
  exact Q.out _ r _ _ m i rfl d.out.symm O rfl rfl
def exE(n:Nat)(at':Int):Int:=if at'<0\/(n:Int)<at' then 3 else 0
theorem Bo(ao:Option Addr)(n cap:Nat)(a:Int)(w:World) :
  Calls Tryz.prog 292 #[.slice ao n cap,.int .i64 a] w fun e w'=>e=.returned (.int .i64 (exE n a))/\w'=w:=by
 by_cases c:a<0
 ·have b:Hid (exE n a=3):=Zh (by unfold exE;rw [if_pos (.inl c)]);go_enter Tryz.func292,Tryz.ntmps292;go_wp2;go_ret;exact⟨by rw [b.out];rfl,rfl⟩
 ·by_cases d:(n:Int)<a
  ·have b:Hid (exE n a=3):=Zh (by unfold exE;rw [if_pos (.inr d)]);go_enter Tryz.func292,Tryz.ntmps292;go_wp2;go_ret;exact⟨by rw [b.out];rfl,rfl⟩
  ·have b:Hid (exE n a=0):=Zh (by unfold exE;rw [if_neg oz]);go_enter Tryz.func292,Tryz.ntmps292;go_wp2;go_ret;exact⟨by rw [b.out];rfl,rfl⟩
theorem Qhh(x n:Nat)(c:x<18446744073709551616):(bits .and .u64 ((x:Int) / 2 ^ n) 1 == 1)=x.testBit n:=by
 have a:((x:Int) / 2 ^ n)=((x / 2 ^ n:Nat):Int):=by simp
 have b:bits .and .u64 ((x / 2 ^ n:Nat):Int) ((1:Nat):Int)=((x / 2 ^ n &&& 1:Nat):Int):=u64_and_nat _ _ (Nat.lt_of_le_of_lt (Nat.div_le_self _ _) c) zd;rw [a,show (1:Int)=((1:Nat):Int) from rfl,b,Nat.and_one_is_mod,Nat.testBit_eq_decide_div_mod_eq,Bool.eq_iff_iff,beq_iff_eq,decide_eq_true_iff];omega
theorem Q73(R:Qh)(a n:Nat)(b:n<=32):(bits .and .u64 ((Q2 R a:Int) / 2 ^ n) 1 == 1)=R a n:=by
 rw [Qhh _ _ (by have:=Xe R a;omega),Qcz R oz]
theorem Q48{p:Pat}{ws:Wd}(h:Jd p ws=0):ws.length<=32:=by
 unfold Jd at h;by_cases a:Zw p=0
 ·rw [if_pos a] at h;by_cases b:32<ws.length
  ·rw [if_pos b] at h;cases h
  ·omega
 ·rw [if_neg a] at h;exact absurd h a
def Qia(p:Pat)(ws:Wd):Bool:=decide (Jd p ws=0) && Vt p ws 0 ws.length
theorem Zx{a:Func}{t u:Tmp}(h:a.results=#[.tmp t,.tmp u])(tmps:Array Value)(P:Program)(w:World) :
  (results a tmps).run P w=.ok (.tuple #[tmps.getD t undef,tmps.getD u undef]) w:=by
 simp [results,h]
theorem Stk.append{K:Nat->Prop}{W:World}{ps qs:List Pat}{xs f:List Value}(h:Stk K W ps xs)(k:Stk K W qs f):Stk K W (ps++qs) (xs++f):=by
 refine⟨by rw [List.length_append,h.1,k.1,List.length_append];omega,fun i hi=>?_⟩;by_cases e:i<ps.length
 ·obtain⟨a,b,c,d⟩:=h.2 i e;refine⟨a,b,fun j v hj=>?_,by rw [List.getElem_append_left e];exact d⟩;have:=c j v hj;rw [List.getElem?_append_left (List.getElem?_eq_some_iff.1 this).1];exact this
 ·obtain⟨a,b,c,d⟩:=k.2 (i - ps.length) (by simp at hi;omega);refine⟨a,b,fun j v hj=>?_,by rw [List.getElem_append_right oz];exact d⟩;have:=c j v hj;rw [List.getElem?_append_right (by rw [h.1];omega),h.1];rw [show i*7+j - ps.length*7=(i - ps.length)*7+j by omega];exact this
theorem Ze.row{K:Nat->Prop}{w:World}{l:List Pat}{ao:Option Addr}(h:Ze K w l ao 0)(cap:Nat):∀ T,T<=l.length->T<=maxLen ->
  ∃ news,Rd w (.slice ao T cap) T 7 news/\Stk K w (l.take T) news/\∀ v∈news,v.oneCell'=true
 | 0,_,_=>⟨[],⟨rfl,Nat.zero_le _,ao,cap,rfl,fun h=>absurd h zd⟩,Stk.nil K w,fun v hv=>by cases hv⟩
 | T+1,hT,hm=>by
  obtain⟨news,hr,hs,h1⟩:=Ze.row h cap T oz oz;obtain⟨g,off,c,rfl,hg,hgl,hra,hp⟩:=h.get T oz;obtain⟨qo,qcap,hc,_⟩:=Zc hp;have hc7:c.length=7:=by rw [hc];rfl
  rw [Nat.zero_add] at hra;obtain⟨hl,_,_,_,e,h3⟩:=hr;refine⟨news++c,⟨by rw [List.length_append,hl,hc7];omega,hm,_,cap,rfl,fun _=>⟨g,off,rfl,hgl,fun j hj=>?_⟩⟩,?_,?_⟩
  ·by_cases hjT:j<T*7
   ·obtain⟨g',off',e1,_,h4⟩:=h3 oz;simp only [zV] at e;obtain⟨e,_⟩:=e;rw [<-e] at e1;cases e1;rw [h4 j hjT,List.getD_eq_getElem?_getD,List.getD_eq_getElem?_getD,List.getElem?_append_left oz]
   ·have hjc:j - T*7<c.length:=by omega
    have:=hra (j - T*7) _ (List.getElem?_eq_getElem hjc);rw [show off+T*7+(j - T*7)=off+j by omega] at this;rw [this,List.getD_eq_getElem?_getD,List.getElem?_append_right oz,hl,List.getElem?_eq_getElem hjc,Option.getD_some]
  ·rw [List.take_succ_eq_append_getElem oz];exact hs.push hc7 hp
  ·intro v hv;rcases List.mem_append.1 hv with hv | hv
   ·exact h1 v hv
   ·rw [hc] at hv;exact Gc v hv
end Go.Proofs.YtfdlhlghcbeblaaGreatDoor
namespace Go.Ab
def Zv(a b:Nat):Nat:=a &&& (4294967295 ^^^ b)
theorem Q90(i:Nat):(4294967295:Nat).testBit i=decide (i<32):=Nat.testBit_two_pow_sub_one 32 i
theorem Vz{a:Nat}(h:a<4294967296){i:Nat}(hi:32<=i):a.testBit i=false:=
 Nat.testBit_lt_two_pow (Nat.lt_of_lt_of_le h (by
  have:=Nat.pow_le_pow_right (show 0<2 by decide) hi
  simpa using this))
theorem Vs{a:Nat}(b:Nat)(c:a<4294967296)(i:Nat):(Zv a b).testBit i=(a.testBit i && !b.testBit i):=by
 unfold Zv;rw [Nat.testBit_and,Nat.testBit_xor,Q90];by_cases d:i<32
 ·simp [d]
 ·rw [Vz c (by omega)];rfl
theorem Cr{a:Nat}(h:∀ i,32<=i->a.testBit i=false):a<4294967296:=
 Nat.lt_pow_two_of_testBit (n:=32) a h
theorem Rl{a b:Nat}(ha:a<4294967296):Zv a b<4294967296:=Cr fun i hi=>by rw [Vs b ha,Vz ha hi];rfl
def Xw(s f:Nat × Nat)(m:Nat):Nat × Nat:=(Zv s.1 m ||| (f.1 &&& m),Zv s.2 m ||| (f.2 &&& m))
def X4(s:Nat × Nat)(f:Nat):Int:=if s.1.testBit f=true then 1 else if s.2.testBit f=true then -1 else 0
def Wt(s:Nat × Nat)(f:Nat)(v:Int):Nat × Nat:=(Zv s.1 (2 ^ f) ||| (if v=1 then 2 ^ f else 0),Zv s.2 (2 ^ f) ||| (if v=-1 then 2 ^ f else 0))
def Z1(s:Nat × Nat):Prop:=s.1<4294967296/\s.2<4294967296
def okS(s:Nat × Nat):Bool:=Z8 s.1 s.2
theorem Gw{s:Nat × Nat}(f:Nat × Nat)(m:Nat)(a:Z1 s)(i:Nat):(Xw s f m).1.testBit i=if m.testBit i=true then f.1.testBit i else s.1.testBit i:=by
 unfold Xw;simp only [Nat.testBit_or,Nat.testBit_and,Vs m a.1];cases m.testBit i <;> simp
theorem Gv{s:Nat × Nat}(f:Nat × Nat)(m:Nat)(a:Z1 s)(i:Nat):(Xw s f m).2.testBit i=if m.testBit i=true then f.2.testBit i else s.2.testBit i:=by
 unfold Xw;simp only [Nat.testBit_or,Nat.testBit_and,Vs m a.2];cases m.testBit i <;> simp
theorem L9{s f:Nat × Nat}(m:Nat)(hs:Z1 s)(hf:Z1 f):Z1 (Xw s f m):=
 ⟨Cr fun i hi=>by rw [Gw f m hs,Vz hf.1 hi,Vz hs.1 hi];simp,Cr fun i hi=>by rw [Gv f m hs,Vz hf.2 hi,Vz hs.2 hi];simp⟩
theorem Qbp{s:Nat × Nat}(f:Nat)(v:Int)(d:Z1 s)(i:Nat):(Wt s f v).1.testBit i=if i=f then decide (v=1) else s.1.testBit i:=by
 unfold Wt;simp only [Nat.testBit_or,Vs (2 ^ f) d.1,Nat.testBit_two_pow];by_cases b:i=f
 ·subst b;by_cases a:v=1
  ·simp [a]
  ·simp [a]
 ·have c:¬ f=i:=fun e=>b e.symm;by_cases a:v=1
  ·simp [a,b,c]
  ·simp [a,b,c]
theorem Qc2{s:Nat × Nat}(f:Nat)(v:Int)(d:Z1 s)(i:Nat):(Wt s f v).2.testBit i=if i=f then decide (v=-1) else s.2.testBit i:=by
 unfold Wt;simp only [Nat.testBit_or,Vs (2 ^ f) d.2,Nat.testBit_two_pow];by_cases b:i=f
 ·subst b;by_cases a:v=-1
  ·simp [a]
  ·simp [a]
 ·have c:¬ f=i:=fun e=>b e.symm;by_cases a:v=-1
  ·simp [a,b,c]
  ·simp [a,b,c]
theorem Ss{a b:Nat × Nat}(h1:∀ i,a.1.testBit i=b.1.testBit i)(h2:∀ i,a.2.testBit i=b.2.testBit i):a=b:=
 Prod.ext (Nat.eq_of_testBit_eq h1) (Nat.eq_of_testBit_eq h2)
theorem Fs{s:Nat × Nat}(l:Z1 s):okS s=true↔∀ i,i<32->¬ (s.1.testBit i=true/\s.2.testBit i=true)/\((s.1.testBit i=true\/s.2.testBit i=true)->i<24):=by
 unfold okS Z8;rw [Bool.and_eq_true,beq_iff_eq,beq_iff_eq];constructor
 ·rintro⟨b,d⟩ i c;refine⟨fun⟨q1,q2⟩=>?_,fun a=>?_⟩
  ·have:=congrArg (fun x=>x.testBit i) b;simp [q1,q2] at this
  ·apply Nat.lt_of_not_le;intro m;have e:(s.1 ||| s.2)<2 ^ 24:=by
    have j:(s.1 ||| s.2)<16777216:=by omega
    simpa using j
   have k:=Nat.testBit_lt_two_pow (Nat.lt_of_lt_of_le e (Nat.pow_le_pow_right (show 0<2 by decide) m));rw [Nat.testBit_or] at k;rcases a with a | a <;> simp [a] at k
 ·intro a
  have f:∀ i,s.1.testBit i=true\/s.2.testBit i=true->i<24:=fun i c=>by
   apply (a i ?_).2 c;apply Nat.lt_of_not_le;intro g;rw [Vz l.1 g,Vz l.2 g] at c;simp at c
  refine⟨Nat.eq_of_testBit_eq fun i=>?_,?_⟩
  ·rw [Nat.testBit_and,Nat.zero_testBit];cases b:s.1.testBit i
   ·rfl
   ·cases d:s.2.testBit i
    ·rfl
    ·have c:=f i (.inl b);exact absurd ⟨b,d⟩ (a i (by omega)).1
  ·have e:(s.1 ||| s.2)<2 ^ 24:=Nat.lt_pow_two_of_testBit _ fun i c=>by
    rw [Nat.testBit_or];cases b:s.1.testBit i
    ·cases d:s.2.testBit i
     ·rfl
     ·have:=f i (.inr d);omega
    ·have:=f i (.inl b);omega
   have j:(s.1 ||| s.2)<16777216:=by simpa using e
   omega
theorem Tl{s:Nat × Nat}(a:Z1 s)(h:okS s=true)(i:Nat):¬ (s.1.testBit i=true/\s.2.testBit i=true)/\(24<=i->s.1.testBit i=false/\s.2.testBit i=false):=by
 rw [Fs a] at h;by_cases d:i<32
 ·refine⟨(h i d).1,fun h24=>?_⟩;have c:=(h i d).2;constructor
  ·cases h1:s.1.testBit i
   ·rfl
   ·have:=c (.inl h1);omega
  ·cases h1:s.2.testBit i
   ·rfl
   ·have:=c (.inr h1);omega
 ·have b:=Vz a.1 (show 32<=i by omega);have e:=Vz a.2 (show 32<=i by omega);exact⟨fun⟨q,_⟩=>(by rw [b] at q;cases q),fun _=>⟨b,e⟩⟩
theorem Q9l{s f:Nat × Nat}{m:Nat}(a:Z1 s)(c:Z1 f)(j:okS s=true)(k:okS f=true):okS (Xw s f m)=true:=by
 rw [Fs (L9 m a c)];intro b d;rw [Gw f m a,Gv f m a];have g:=(Fs a).1 j b d;have i:=(Fs c).1 k b d;by_cases e:m.testBit b=true
 ·simp only [e,if_true];exact i
 ·simp only [e];exact g
theorem Hh(m f i:Nat):(m % 2 ^ f).testBit i=(decide (i<f) && m.testBit i):=Nat.testBit_mod_two_pow m f i
theorem Q2p{s:Nat × Nat}(f:Nat × Nat)(hs:Z1 s):Xw s f 0=s:=
 Ss (fun i=>by rw [Gw f 0 hs];simp) (fun i=>by rw [Gv f 0 hs];simp)
theorem Qeo{s:Nat × Nat}{f:Nat}:decide (X4 s f=1)=s.1.testBit f:=by
 unfold X4;cases s.1.testBit f
 ·cases s.2.testBit f <;> simp
 ·simp
theorem Q9k{s:Nat × Nat}(a:Z1 s)(h:okS s=true){f:Nat}:decide (X4 s f=-1)=s.2.testBit f:=by
 unfold X4;have:=(Tl a h f).1;cases h1:s.1.testBit f
 ·cases s.2.testBit f <;> simp
 ·cases h2:s.2.testBit f
  ·simp
  ·exact absurd ⟨h1,h2⟩ this
theorem Q44{s f:Nat × Nat}(m k:Nat)(a:Z1 s)(d:Z1 f)(g:okS f=true) :
  Xw s f (m % 2 ^ (k+1))=if m.testBit k=true then Wt (Xw s f (m % 2 ^ k)) k (X4 f k) else Xw s f (m % 2 ^ k):=by
 by_cases c:m.testBit k=true
 ·rw [if_pos c];refine Ss (fun i=>?_) (fun i=>?_)
  ·rw [Qbp _ _ (L9 _ a d),Gw f _ a,Gw f _ a,Hh,Hh,Qeo];by_cases b:i=k
   ·subst b;simp [c]
   ·have:decide (i<k+1)=decide (i<k):=by rw [decide_eq_decide];omega
    rw [if_neg b,this]
  ·rw [Qc2 _ _ (L9 _ a d),Gv f _ a,Gv f _ a,Hh,Hh,Q9k d g];by_cases b:i=k
   ·subst b;simp [c]
   ·have:decide (i<k+1)=decide (i<k):=by rw [decide_eq_decide];omega
    rw [if_neg b,this]
 ·rw [if_neg c]
  have e:∀ i,(decide (i<k+1) && m.testBit i)=(decide (i<k) && m.testBit i):=fun i=>by
   by_cases b:i=k
   ·subst b;have:m.testBit i=false:=by simpa using c
    simp [this]
   ·have:decide (i<k+1)=decide (i<k):=by rw [decide_eq_decide];omega
    rw [this]
  refine Ss (fun i=>?_) (fun i=>?_)
  ·rw [Gw f _ a,Gw f _ a,Hh,Hh,e]
  ·rw [Gv f _ a,Gv f _ a,Hh,Hh,e]
theorem Qb8{m:Nat}(h:m<16777216):m % 2 ^ 24=m:=Nat.mod_eq_of_lt (by simpa using h)
def Cf(s c:Nat × Nat):Bool:=c.1 &&& s.1 == c.1 && c.2 &&& s.2 == c.2
theorem Cz{a b:Nat}:a &&& b=a↔∀ i,a.testBit i=true->b.testBit i=true:=by
 constructor
 ·intro c i d;have:=congrArg (fun x=>x.testBit i) c;simp [d] at this;exact this
 ·intro c;refine Nat.eq_of_testBit_eq fun i=>?_
  rw [Nat.testBit_and];cases h1:a.testBit i
  ·rfl
  ·rw [c i h1];rfl
theorem Q1c{a b:Nat}(e:a<4294967296):Zv a b=0↔a &&& b=a:=by
 rw [Cz];constructor
 ·intro d c f;have:=congrArg (fun x=>x.testBit c) d;simp only [Vs b e,Nat.zero_testBit,f,Bool.true_and] at this
  simpa using this
 ·intro d;refine Nat.eq_of_testBit_eq fun c=>?_
  rw [Vs b e,Nat.zero_testBit];cases h1:a.testBit c
  ·rfl
  ·rw [d c h1];rfl
theorem Q2e{s c:Nat × Nat}(y:Z1 s)(w:Z1 c)(u:okS s=true)(v:okS c=true):Cf s c=true↔∀ f,f<24->X4 c f≠0->X4 s f=X4 c f:=by
 unfold Cf;rw [Bool.and_eq_true,beq_iff_eq,beq_iff_eq,Cz,Cz];constructor
 ·rintro⟨m,n⟩ f _ e;have o:=m f;have j:=n f;have p:=(Tl y u f).1;unfold X4 at e ⊢;by_cases b:c.1.testBit f=true
  ·rw [if_pos b,if_pos (o b)]
  ·rw [if_neg b] at e ⊢;by_cases a:c.2.testBit f=true
   ·rw [if_pos a,if_neg (fun g=>p ⟨g,j a⟩),if_pos (j a)]
   ·rw [if_neg a] at e;exact absurd rfl e
 ·intro g
  have l:∀ f,(c.1.testBit f=true->s.1.testBit f=true)/\(c.2.testBit f=true->s.2.testBit f=true):=fun f=>by
   have k:=Tl w v f;by_cases x:f<24
   ·have d:=g f x;unfold X4 at d;refine⟨fun q=>?_,fun q=>?_⟩
    ·rw [if_pos q] at d;have:=d (by decide);by_cases a:s.1.testBit f=true
     ·exact a
     ·rw [if_neg a] at this
      split at this <;> cases this
    ·have b:¬ c.1.testBit f=true:=fun b=>k.1 ⟨b,q⟩;rw [if_neg b,if_pos q] at d;have:=d (by decide);by_cases a:s.2.testBit f=true
     ·exact a
     ·rw [if_neg a] at this
      split at this <;> cases this
   ·obtain⟨r,t⟩:=k.2 (by omega);exact⟨fun q=>(by rw [r] at q;cases q),fun q=>(by rw [t] at q;cases q)⟩
  exact⟨fun i=>(l i).1,fun i=>(l i).2⟩
end Go.Ab
namespace Go.Ab
open Go.RowKit
structure X3 where
 frm:Int
 cl:Nat
 st:Nat × Nat
 tk:Nat
 ofi:Int
structure Q5 where
 name:ByteArray
 left:Pat
 right:Pat
 ifs:Wd
 outs:List X3
 mode:Int
def Zu(x:X3):List Value:=[.int .i64 x.frm,.int .u32 (x.cl:Int),.int .u32 (x.st.1:Int),.int .u32 (x.st.2:Int),.int .u32 (x.tk:Int),.int .i64 x.ofi]
def T9(l:List X3):List Value:=l.flatMap Zu
def Jh(x:X3):Prop:=x.cl<4294967296/\Z1 x.st/\x.tk<4294967296
theorem Pu(x:X3)(l:List X3):T9 (x::l)=Zu x++T9 l:=rfl
theorem Q5d(l:List X3):(T9 l).length=l.length*6:=by
 induction l with
 | nil=>rfl
 | cons x l ih=>rw [Pu,List.length_append,ih];simp [Zu];omega
theorem Q2l:∀(l:List X3) (i j:Nat) (h:i<l.length),j<6->(T9 l)[i*6+j]?=(Zu l[i])[j]?
 | [],i,j,h,_=>by simp at h
 | x::l,0,j,_,hj=>by rw [Pu,Nat.zero_mul,Nat.zero_add,List.getElem?_append_left (by simpa [Zu] using hj)];rfl
 | x::l,i+1,j,h,hj=>by
  rw [Pu,List.getElem?_append_right (by simp [Zu];omega),show (i+1)*6+j - (Zu x).length=i*6+j by simp [Zu];omega];exact Q2l l i j (by simpa using h) hj
def Va(w:World)(v:Value)(l:List X3):Prop:=Rd w v l.length 6 (T9 l)/\∀ x∈l,Jh x
theorem Va.ext{A B:World}{v:Value}{l:List X3}(h:Va A v l)(ht:Ext A B):Va B v l:=⟨h.1.ext ht,h.2⟩
theorem Va.slice{w:World}{v:Value}{l:List X3}(h:Va w v l):∃ ao cap,v=.slice ao l.length cap/\l.length<=maxLen:=by
 obtain⟨⟨_,a,ao,cap,b,_⟩,_⟩:=h;exact⟨ao,cap,b,a⟩
theorem Va.at{w:World}{v:Value}{l:List X3}(h:Va w v l){i:Nat}(b:i<l.length) :
  ∃ g off cap,v=.slice (some ⟨g,off,none⟩) l.length cap/\g<w.heap.size/\Jh l[i]/\w.cell? ⟨g,off+i*6,none⟩=some (.int .i64 l[i].frm)/\w.cell? ⟨g,off+i*6+1,none⟩=some (.int .u32 (l[i].cl:Int))/\w.cell? ⟨g,off+i*6+2,none⟩=some (.int .u32 (l[i].st.1:Int)) /\
   w.cell? ⟨g,off+i*6+3,none⟩=some (.int .u32 (l[i].st.2:Int))/\w.cell? ⟨g,off+i*6+4,none⟩=some (.int .u32 (l[i].tk:Int))/\w.cell? ⟨g,off+i*6+5,none⟩=some (.int .i64 l[i].ofi):=by
 obtain⟨⟨p,q,o,cap,n,d⟩,e⟩:=h;obtain⟨g,off,f,m,k⟩:=d oz
 have a:∀ j,j<6->w.cell? ⟨g,off+i*6+j,none⟩=(Zu l[i])[j]?:=fun j hj=>by
  have c:i*6+j<l.length*6:=by omega
  rw [Nat.add_assoc,k (i*6+j) c,<-Q2l l i j b hj,List.getD_eq_getElem?_getD,List.getElem?_eq_getElem (by rw [Q5d];exact c)];rfl
 exact⟨g,off,cap,by rw [n,f],m,e _ (List.getElem_mem b),a 0 zd,a 1 zd,a 2 zd,a 3 zd,a 4 zd,a 5 zd⟩
def Q2y(name:ByteArray)(lc rc:List Value)(iv ov:Value)(mode:Int):List Value:=.string name::(lc++(rc++[iv,ov,.int .i64 mode]))
def Zf(w:World)(l:Q5)(cs:List Value):Prop:=
 ∃ lc rc iv ov,cs=Q2y l.name lc rc iv ov l.mode/\l.name.size<=maxLen/\Qm (fun g=>g<w.heap.size) w l.left lc/\Qm (fun g=>g<w.heap.size) w l.right rc/\Q6 w iv l.ifs/\Va w ov l.outs
theorem Zf.ext{A B:World}{l:Q5}{cs:List Value}(h:Zf A l cs)(a:Ext A B):Zf B l cs:=by
 obtain⟨m,o,k,n,c,d,e,f,i,j⟩:=h;have b:∀ g,g<A.heap.size->g<B.heap.size:=fun g hg=>Nat.lt_of_lt_of_le hg a.size;exact⟨m,o,k,n,c,d,Qm.mono b (e.ext a),Qm.mono b (f.ext a),i.ext a,j.ext a⟩
end Go.Ab
namespace Go.Ab
open Go.RowKit
theorem Qfn(a:Nat){b:Nat}(c:b<4294967296):a &&& (4294967295 - b)=Zv a b:=by
 unfold Zv
 congr 1
 refine Nat.eq_of_testBit_eq fun i=>?_
 rw [Nat.testBit_xor,Q90];have:=Nat.testBit_two_pow_sub_succ (n:=32) (x:=b) c i;rw [show (2 ^ 32 - (b+1):Nat)=4294967295 - b by omega] at this;rw [this];by_cases d:i<32
 ·simp [d]
 ·rw [Vz c oz];simp [d]
theorem Hx(a b:Nat)(d:a<4294967296)(c:b<4294967296):bits .andNot .u32 (a:Int) (b:Int)=((Zv a b:Nat):Int):=by
 rw [u32_andNot_nat a b d c,Qfn a c]
theorem Rr(x n:Nat)(d:x<4294967296):(bits .and .u32 ((x:Int) / 2 ^ n) 1 == 1)=x.testBit n:=by
 have a:((x:Int) / 2 ^ n)=((x / 2 ^ n:Nat):Int):=by simp
 have c:x / 2 ^ n<4294967296:=Nat.lt_of_le_of_lt (Nat.div_le_self _ _) d;have b:=u32_and_nat (x / 2 ^ n) 1 c zd;rw [a,show (1:Int)=((1:Nat):Int) from rfl,b,Nat.and_one_is_mod,Nat.testBit_eq_decide_div_mod_eq,Bool.eq_iff_iff,beq_iff_eq,decide_eq_true_iff];omega
theorem Qgm{f:Nat}(d:f<32):IntKind.u32.wrap (2 ^ f)=((2 ^ f:Nat):Int):=by
 have c:2 ^ f<4294967296:=by
  have:=Nat.pow_lt_pow_right (a:=2) zd d
  simpa using this
 rw [IntKind.wrap_u32];have b:((2:Int) ^ f)=((2 ^ f:Nat):Int):=by simp
 rw [b];generalize 2 ^ f=e at c;omega
theorem Qgy{f:Nat}(b:f<32):2 ^ f<4294967296:=by
 have:=Nat.pow_lt_pow_right (a:=2) zd b
 simpa using this
end Go.Ab
namespace Go.Proofs.YtfdlhlghcbeblaaGreatDoor
open Go.RowKit Go.Ab
attribute [local go_sem] Oper.semAt_some Zi Qz
def X1(p:Pat)(ws:Wd)(at':Int):Int:=if Jd p ws=0 then exE ws.length at' else Jd p ws
def Vh(p:Pat)(ws:Wd)(at':Int):List Nat:=if X1 p ws at'=0 then(List.range (ws.length+1)).filter (fun a=>Vt p ws a at'.toNat) else []
def Vj(p:Pat)(ws:Wd)(at':Int):List Nat:=if X1 p ws at'=0 then(List.range (ws.length+1)).filter (fun b=>Vt p ws at'.toNat b) else []
def Qc(l:List Nat):List Value:=l.map fun(x:Nat)=>Value.int .i64 (x:Int)
theorem Tryz.infoI:(Tryz.prog.info? 3).map (fun i=>(i.zero,i.size,i.bytes))=some (some (.int .i64 0),1,8):=by kernel_rfl
theorem Zg{w:World}{base:Nat}{e:TypeId}{c n g:Nat}{v:Value}{xs:List Value}(h:w.ownsRow base e c v n xs)(a:v.ownBlock=some g):∃ cur,w.heap[g]?=some (.cells cur e (0,0)):=by
 rcases h.2 with ⟨rfl,_⟩ | ⟨f,d,cur,rfl,_,b,_⟩
 ·cases a
 ·cases a;exact⟨cur,b⟩
theorem Yu(l:List Nat)(x:Nat):Qc (l++[x])=Qc l++[.int .i64 (x:Int)]:=by simp [Qc]
theorem Q6y{K:Nat->Prop}{w:World}{p:Pat}{cs:List Value}{v:Value}{ws:Wd}(G:Qm K w p cs)(N:∀ g,K g->g<w.heap.size)(H:Q6 w v ws)(O:Tab w)(d:Int) :
  Calls Tryz.prog 279 #[.agg cs.toArray,v,.int .i64 d] w fun e w'=>∃ u,e=.returned (.tuple #[u,.int .i64 (X1 p ws d)])/\w'.ownsRow w.heap.size 3 1 u (Vh p ws d).length (Qc (Vh p ws d))/\Ext w w':=by
 have U:=fun(V:World) (m:Ext w V)=>Ba (K:=K) (G.ext m) (fun g hg=>Nat.lt_of_lt_of_le (N g hg) m.size) (H.ext m) (O.keep m id);obtain⟨b2,b7,rfl,a8,a7,_⟩:=Zc G;obtain⟨b5,b4,rfl,a6⟩:=H.slice;clear G a8 a7 H O N;have s:=Zh U;clear U;obtain⟨o,B⟩:=zE (Jd p ws);obtain⟨c,n⟩:=zE (Vt p ws);obtain⟨j,t⟩:=zE ws.length;have l:Hid (X1 p ws d=if o=0 then exE j d else o):=Zh (by unfold X1;rw [B,t]);have z:Hid (Vh p ws d=if X1 p ws d=0 then(List.range (j+1)).filter (fun a=>c a d.toNat) else []):=Zh (by unfold Vh;rw [n,t])
 have T:o=0->j<=32:=fun h=>by
  subst B;subst t;exact Q48 h
 rw [B] at s;rw [n] at s;rw [t] at s a6 ⊢;clear B n t;have Z:=Zh T;clear T;unfold Qd at s ⊢;have a9:=Jc;have b0:=Z2 noB;have b1:=Xg noB;go_enter Tryz.func279,Tryz.ntmps279;go_wp2_with fail;refine(s.out _ ((Q0.refl _ w).alloc _)).mono ?_;rintro e k ⟨rfl,M⟩;have L:Ext w k:=Q0.trans ((Q0.refl _ w).alloc _) M;clear M;have C:(k.alloc (.cells (Qa noB) 363)).heap[k.heap.size]?=some (.cells (Qa noB) 363 (0,0)):=Q3 rfl;have D:Qb ((k.alloc (.cells (Qa noB) 363)).setRow k.heap.size (Q4 (Q2 c))) k.heap.size (Q2 c):=setRow_heap _ _ _ _ _ _ C;have A:Ext w ((k.alloc (.cells (Qa noB) 363)).setRow k.heap.size (Q4 (Q2 c))):=L.trans (((Q0.refl _ k).alloc _).after (Q0.setRow _ _ _) (fun b' J h2=>by omega));go_upto_region 2 with (refine wpList_store_row rfl 363 (.tmp 8) (.tmp 16) rfl k.heap.size (Q4 (Q2 c)) rfl rfl _ _ C (Tryz.relInfo _) (by rw [Z2,Qe]) (Qy _) ?_)
 generalize ((k.alloc (.cells (Qa noB) 363)).setRow k.heap.size (Q4 (Q2 c)))=d0 at D A ⊢;generalize k.heap.size=I at D ⊢;clear C L a9 b0 b1;by_cases r:o=0
 ·have c8:=Z.out r;rw [if_pos r] at l;subst r;go_wp2_with fail;refine(Bo _ _ _ _ _).mono ?_;rintro e d1 ⟨rfl,rfl⟩;by_cases F:d<0\/(j:Int)<d
  ·have x:exE j d=3:=by unfold exE;rw [if_pos F]
   rw [x] at l ⊢;clear x;go_wp2;refine bodyPost_ret (Zx rfl _ _ _) rfl ⟨_,by rw [l.out];rfl,?_,A⟩;rw [z.out,l.out,if_neg zd];exact World.ownsRow_nil _ _ _ _
  ·have x:exE j d=0:=by unfold exE;rw [if_neg F]
   rw [x] at l ⊢;obtain⟨f,rfl⟩:∃ f:Nat,d=f:=⟨d.toNat,by omega⟩;have Y:Hid (Vh p ws f=(List.range (j+1)).filter (fun a=>c a f)):=Zh (by rw [z.out,l.out];rfl);have c7:f<=j:=by omega
   clear x z F;go_wp2
   go_loopw [10,29] (fun v i wr=>∃ b:Nat,b<=j+1/\i=.int .i64 b/\wr.ownsRow w.heap.size 3 1 v ((List.range b).filter (fun a=>c a f)).length (Qc ((List.range b).filter (fun a=>c a f)))/\Ext w wr/\Qb wr I (Q2 c)) (fun _ i _=>j+1 - (intOf i).toNat)
   case atStart=>exact⟨0,Nat.zero_le _,rfl,World.ownsRow_nil _ _ _ _,A,D⟩
   case round=>
    obtain⟨b,b9,rfl,q,m,n⟩:=hrel;by_cases c6:b<j+1
    ·have a1:=n.cell (a:=b) oz;have c0:=Xe c b;have J:(b:Int)<(j:Int)+1:=by omega
     have S:(List.range (b+1)).filter (fun a=>c a f)=(List.range b).filter (fun a=>c a f)++if c b f then [b] else []:=by
      rw [List.range_succ,List.filter_append];cases hq:c b f <;> simp [hq]
     have Q:=Q73 c b f oz;have y:=Zh S;have c1:((List.range b).filter (fun a=>c a f)).length<=33:=by
      have:=List.length_filter_le (fun a=>c a f) (List.range b);simp at this;omega
     clear S;cases hq:c b f
     ·rw [hq] at Q y;have a0:=Zh hq;clear hq;go_wp2
      go_roundw
      case rel=>exact⟨b+1,by omega,by go_num,by rw [y.out];simpa using q,m,n⟩
      case measure=>simp [intOf];omega
     ·rw [hq] at Q y;have a0:=Zh hq;clear hq
      go_wp2_with (at_builtin;refine Qk rfl (.tmp 39) (.tmp 41) 48 rfl w.heap.size 3 _ 1 8 Tryz.underlying48 Tryz.infoI rfl zd _ _ _ rfl (Q7 q ((Q0.refl _ wr).alloc _)) ⟨wr.heap.size,0,none⟩ 1 1 [.int .i64 b] rfl rfl (Qq rfl) ?c2 ?c3 ?c4 ?c5 ?_)
      case c2=>first | rfl | (intro u W;simp at W;rcases W with rfl;rfl)
      case c3=>unfold maxLen;omega
      case c4=>omega
      case c5=>have:=m.size;simp;omega
      intro b3 b6 X a4 P _;have E:Q0 (fun b'=>u10.ownBlock=some b') wr X:=Q0.trans (Q0.alloc (Q0.refl _ wr) _) P;have a3:Ext w X:=m.after E (fun b' J e=>by have:=(q.lt _ e).1;omega);have a5:=n.keep E (fun e=>by obtain⟨b8,R⟩:=Zg q e;have a2:wr.heap[I]?=_:=n;rw [a2] at R;cases R);clear P E q m a1;go_wp2
      go_roundw
      case rel=>
       refine⟨b+1,by omega,by go_num,?_,a3,a5⟩;rw [y.out,if_pos tz,Yu,List.length_append];exact a4
      case measure=>simp [intOf];omega
    ·obtain rfl:b=j+1:=by omega
     go_wp2;refine bodyPost_ret (Zx rfl _ _ _) rfl ⟨_,by rw [l.out];rfl,?_,m⟩;rw [Y.out];exact q
 ·have c9:(o == 0)=false:=by rw [beq_eq_false_iff_ne];exact r
  rw [if_neg r] at l;go_wp2;refine bodyPost_ret (Zx rfl _ _ _) rfl ⟨_,by rw [l.out];rfl,?_,A⟩;rw [z.out,l.out,if_neg r];exact World.ownsRow_nil _ _ _ _
end Go.Proofs.YtfdlhlghcbeblaaGreatDoor
namespace Go.Ab
section
variable {α:Type} (H:List α->Nat->Bool) (P:List α->List α) (k:Nat)
def Ku(w:List α)(i:Nat):List α:=w.take i++P ((w.drop i).take k)++w.drop (i+k)
def Vw(w:List α):Nat->Nat->List α->List (Nat × List α)
 | 0,_,_=>[]
 | n+1,i,d=>
  if H w i then
   (i,d++P ((w.drop i).take k)++w.drop (i+k))::(if k=0 then Vw w n (i+1) (d++P ((w.drop i).take k)++(w.drop i).take 1) else Vw w n (i+k) (d++P ((w.drop i).take k)))
  else Vw w n (i+1) (d++(w.drop i).take 1)
def Vm(m:Nat):Nat->List α->Nat->List (Nat × List α)
 | 0,_,_=>[]
 | n+1,w,i=>
  if w.length<i+k then []
  else if H w i then(i,Ku P k w i)::Vm m n (Ku P k w i) (i+m+(if k=0 then 1 else 0))
  else Vm m n w (i+1)
def Kj:Nat->List α->Nat->List (Nat × List α)
 | 0,_,_=>[]
 | _+1,_,0=>[]
 | n+1,w,i+1=>
  if H w i then(i,Ku P k w i)::Kj n (Ku P k w i) (i+1 - max k 1)
  else Kj n w i
end
def X8{α:Type}(t:List (Nat × List α)):Bool:=t.any fun x=>decide (32<x.2.length)
def Q1s{α:Type}(w:List α)(t:List (Nat × List α)):List α:=(t.map (·.2)).getLastD w
section
variable {α:Type} {H:List α->Nat->Bool} {P:List α->List α} {k m:Nat}
theorem Q4o(a:∀ c,c.length=k->(P c).length=m) {w:List α} {i:Nat} (h:i+k<=w.length):(Ku P k w i).length+k=w.length+m:=by
 unfold Ku;rw [List.length_append,List.length_append,List.length_take,List.length_drop,a _ (by rw [List.length_take,List.length_drop];omega)];omega
end
end Go.Ab
namespace Go.Ab
open Go.RowKit
def Gt{α:Type}(P:Program)(gf:Nat)(lb:Array Value)(M:Nat->Nat->Prop)(E:Nat->(Nat->Prop)->α->World->Array Value->Prop) (xs:List α) (K:Nat->Prop) (w:World):Prop:=
 ∀(l:Nat) (J Jx:(Nat->Prop)->List α->World->Prop) (W:World),Q0 (fun b=>¬ K b) w W ->
  (∀ O O' pre A B,J O pre A->Q0 (fun b=>O b/\M W.heap.size b) A B->(∀ b,O' b->(O b\/A.heap.size<=b)/\b<B.heap.size)->J O' pre B) ->
  (∀ O O' pre A B,Jx O pre A->Q0 (fun b=>O b/\M W.heap.size b) A B->(∀ b,O' b->(O b\/A.heap.size<=b)/\b<B.heap.size)->Jx O' pre B) ->
  (∀ O pre x rest A ys,xs=pre++x::rest->J O pre A->E W.heap.size O x A ys->YieldAt Fence.wide 0 P l ys A fun e B=>
   (e=.returned (.bool true)/\J O (pre++[x]) B/\Q0 (fun b=>¬ K b/\¬ O b) A B)\/(e=.returned (.bool false)/\Jx O (pre++[x]) B/\Q0 (fun b=>¬ K b/\¬ O b) A B)) ->
  J (fun _=>False) [] W ->
  Calls P gf (#[.func (.yield l) #[] #[]]++lb) W fun e B=>(∃ v,e=.returned v)/\∃ O,(J O xs B\/∃ pre x rest,xs=pre++x::rest/\Jx O (pre++[x]) B)
theorem Ut{α:Type}{P:Program}{g:Operand}{ps:Array Tmp}{assign body:Code}{Q:Exit->Act->World->Prop}{a:Act}{w:World}
  {gf:Nat} {lb:Array Value} (c9:a.eval g=.func (.func gf) #[] lb) (b7:∀ args w,(callFunc gf args).run P w=.ok (.enter gf args) w)
  {M:Nat->Nat->Prop} {E:Nat->(Nat->Prop)->α->World->Array Value->Prop} {xs:List α} {K:Nat->Prop} (d2:Gt P gf lb M E xs K w) (b1:∀ b,K b->b<w.heap.size) (d1:∀ n O x A ys,E n O x A ys->ys.size=ps.size)
  (c1:∀ n O x A B ys,E n O x A ys->Q0 (fun b=>b=w.heap.size+1) A B->(∃ o,A.heap[w.heap.size+1]?=some o/\o.isCells=false)->E n O x B ys)
  (I:(Nat->Prop)->List α->World->Prop) (J:Code->(Nat->Prop)->List α->World->Prop)
  (Y:∀ O O' pre A B,I O pre A->(∀ b,O b->w.heap.size+2<=b/\b<A.heap.size)->Q0 (fun b=>(O b/\M (w.heap.size+2) b)\/b=w.heap.size+1) A B->(∀ b,O' b->(O b\/A.heap.size<=b)/\b<B.heap.size)->I O' pre B)
  (R:∀ c O O' pre A B,J c O pre A->(∀ b,O b->w.heap.size+2<=b/\b<A.heap.size)->Q0 (fun b=>(O b/\M (w.heap.size+2) b)\/b=w.heap.size+1) A B->(∀ b,O' b->(O b\/A.heap.size<=b)/\b<B.heap.size)->J c O' pre B)
  (b8:∀ W,Ext w W->W.heap.size=w.heap.size+2->I (fun _=>False) [] W) (b6:Array Value->Array Value->Array Value)
  (c3:∀(n:Nat) (O:Nat->Prop) (x:α) (ys:Array Value) (W:World) (Kn:Act->World->Prop),E n O x W ys->Kn { tmps:=b6 ys a.tmps,defers:=[] } W ->
   assign.wpIn (Fence.wide.inRound (w.heap.size+1)) 0 P (Exit.then Kn (fun _ _ _=>False)) { tmps:=(ps.zip ys).foldl (fun t (p,v)=>t.setIfInBounds p v) a.tmps,defers:=[] } W)
  (c4:∀(O:Nat->Prop) (pre:List α) (x:α) (rest:List α) (ys:Array Value) (W:World),xs=pre++x::rest->w.heap.size+2<=W.heap.size->(∀ b,O b->w.heap.size+2<=b/\b<W.heap.size)->Q0 (fun b=>¬ K b) w W->I O pre W->E (w.heap.size+2) O x W ys ->
   body.wpIn (Fence.wide.inRound (w.heap.size+1)) 0 P (Q2c (fun b=>K b\/O b\/b=w.heap.size\/b=w.heap.size+1) (I O) (fun c=>J c O) (pre++[x]) W) { tmps:=b6 ys a.tmps,defers:=[] } W)
  (c7:∀ O W,I O xs W->(∀ b,O b->w.heap.size+2<=b/\b<W.heap.size)->Q0 (fun b=>¬ K b) w W->W.heap[w.heap.size]?=some (.deferred (some []))->Q .normal { a with defers:={ target:=.collected w.heap.size,args:=#[] }::a.defers } W)
  (d3:∀ c O pre x rest W,xs=pre++x::rest->J c O (pre++[x]) W->W.heap[w.heap.size]?=some (.deferred (some []))->c.wp P Q { a with defers:={ target:=.collected w.heap.size,args:=#[] }::a.defers } W) :
  (Code.rangeFunc g ps assign body).wp P Q a w:=by
 refine(wpIn_wide (n:=0)).1 (wpIn_rangeFunc ?_);intro fn _;obtain⟨e,s⟩:∃ e:LoopState->Option Code->Loop,e=fun st pe=>{ state:=st,pending:=pe,fn,tmps:=a.tmps,params:=ps,assign,body,defers:=w.heap.size }:=⟨_,rfl⟩;obtain⟨q,S⟩:=zE ((w.alloc (.deferred (some []))).alloc (.loop (e .ready none)));have c2:q.heap[w.heap.size+1]?=some (.loop (e .ready none)):=by
  rw [<-S];have:=World.alloc_heap_new (w.alloc (.deferred (some []))) (.loop (e .ready none));rwa [World.size_alloc] at this
 have c0:q.heap[w.heap.size]?=some (.deferred (some [])):=by
  rw [<-S];exact(Below.heap_alloc _ _ _ zy).trans (World.alloc_heap_new w _)
 have a7:Ext w q:=by rw [<-S];exact((Q0.refl _ w).alloc _).alloc _
 have a1:q.heap.size=w.heap.size+2:=by rw [<-S];simp
 have D:∀(O:Nat->Prop) (X:World) o,Q0 (fun b=>(O b/\M (w.heap.size+2) b)\/b=w.heap.size+1) X (X.putObj (w.heap.size+1) o):=fun O X o=>(Q0.refl _ X).putObj (.inr (.inr rfl)) o;have b5:∀(X:World) o,Q0 (fun b=>¬ K b) X (X.putObj (w.heap.size+1) o):=fun X o=>(Q0.refl _ X).putObj (.inr (fun hk=>by have:=b1 _ hk;omega)) o
 refine⟨w.heap.size+1,[{ target:=.collected w.heap.size,args:=#[] }],q,{ target:=.fn (.func gf) lb,args:=#[.func (.yield (w.heap.size+1)) #[] #[]] },q,gf,
  #[.func (.yield (w.heap.size+1)) #[] #[]]++lb,q,?_,?_,fun _ _=>trivial,?_,fun h=>by simp [Fence.wide] at h,?_⟩
 ·rw [<-S,s];exact run_enterLoop_outer _ _ _ _ _
 ·simp only [resolve,c9];simp [go_sem]
 ·simp [invoke,go_sem,b7]
 ·refine callsIn_wide.2 ((d2 (w.heap.size+1)
   (fun O pre W=>I O pre W/\(∀ b,O b->w.heap.size+2<=b/\b<W.heap.size)/\W.heap[w.heap.size+1]?=some (.loop (e .ready none))/\W.heap[w.heap.size]?=some (.deferred (some []))/\Q0 (fun b=>¬ K b) w W/\w.heap.size+2<=W.heap.size)
   (fun O pre W=>∃ c,J c O pre W/\(∀ b,O b->w.heap.size+2<=b/\b<W.heap.size)/\W.heap[w.heap.size+1]?=some (.loop (e .done (some c)))/\W.heap[w.heap.size]?=some (.deferred (some []))/\w.heap.size+2<=W.heap.size)
   q a7.of ?_ ?_ ?_ ⟨b8 _ a7 a1,fun b hb=>hb.elim,c2,c0,a7.of,by omega⟩).mono ?_)
  ·rintro O O' pre A B ⟨a2,r,a3,a4,b9,N⟩ f j;rw [a1] at f;refine⟨Y _ _ _ _ _ a2 r (f.mono fun b _ hb=>.inl hb) j,fun b hb=>?_,f.heap a3 (fun hb=>?_),f.heap a4 (fun hb=>?_),b9.after f (fun b b3 hb=>?_),Nat.le_trans N f.size⟩
   ·obtain⟨a5,a6⟩:=j b hb;exact⟨a5.elim (fun h=>(r b h).1) (fun h=>Nat.le_trans N h),a6⟩
   ·have:=(r _ hb.1).1;omega
   ·have:=(r _ hb.1).1;omega
   ·have:=(r _ hb.1).1;omega
  ·rintro O O' pre A B ⟨c,a2,r,a3,a4,N⟩ f j;rw [a1] at f;refine⟨c,R _ _ _ _ _ _ a2 r (f.mono fun b _ hb=>.inl hb) j,fun b hb=>?_,f.heap a3 (fun hb=>?_),f.heap a4 (fun hb=>?_),Nat.le_trans N f.size⟩
   ·obtain⟨a5,a6⟩:=j b hb;exact⟨a5.elim (fun h=>(r b h).1) (fun h=>Nat.le_trans N h),a6⟩
   ·have:=(r _ hb.1).1;omega
   ·have:=(r _ hb.1).1;omega
  · -- one round
   rintro O pre x rest W ys a8 ⟨U,j,z,T,f,G⟩ a0;rw [a1] at a0;have b3:w.heap.size+1<W.heap.size:=by omega
   have a9:=run_yield (P:=P) (args:=ys) z (by rw [s];exact d1 _ _ x _ _ a0);rw [s] at a9;refine⟨fn,_,assign,body,a9,roundIn_of_wpIn trivial (c3 _ _ x ys W _ a0 ?_)⟩;clear a9;refine⟨_,run_beginRound z (by rw [s]),?_⟩;have d0:(W.putObj (w.heap.size+1) (.loop { e .ready none with state:=.busy })).heap[w.heap.size+1]?=some (.loop { e .ready none with state:=.busy }):=World.putObj_heap_same b3;have c5:(W.putObj (w.heap.size+1) (.loop { e .ready none with state:=.busy })).heap[w.heap.size]?=some (.deferred (some [])):=(World.putObj_heap_other oz).trans T;have Z:∀ b,O b->w.heap.size+2<=b/\b<(W.putObj (w.heap.size+1) (.loop { e .ready none with state:=.busy })).heap.size:=fun b hb=>by simpa using j b hb
   have c8:E (w.heap.size+2) O x (W.putObj (w.heap.size+1) (.loop { e .ready none with state:=.busy })) ys:=c1 _ _ _ _ _ _ a0 ((Q0.refl (fun b=>b=w.heap.size+1) W).putObj (.inr rfl) _) ⟨_,z,rfl⟩;refine wpIn_mono (c4 O pre x rest ys _ a8 (by simpa using G) Z (f.trans (b5 W _)) (Y _ _ _ _ _ U j (D O W _) (fun b hb=>⟨.inl hb,(Z b hb).2⟩)) c8) ?_
   have V:∀(jump:Option Code) (d:World),Q0 (fun b=>¬ (K b\/O b\/b=w.heap.size\/b=w.heap.size+1)) (W.putObj (w.heap.size+1) (.loop { e .ready none with state:=.busy })) d ->
     (Instr.endRound (w.heap.size+1) jump).run P d=.ok (.bool jump.isNone) (d.putObj (w.heap.size+1) (.loop (e (if jump.isNone then .ready else .done) jump))) /\
     (d.putObj (w.heap.size+1) (.loop (e (if jump.isNone then .ready else .done) jump))).heap[w.heap.size+1]?=some (.loop (e (if jump.isNone then .ready else .done) jump)) /\
     (d.putObj (w.heap.size+1) (.loop (e (if jump.isNone then .ready else .done) jump))).heap[w.heap.size]?=some (.deferred (some [])) /\
     Q0 (fun b=>¬ K b/\¬ O b) W (d.putObj (w.heap.size+1) (.loop (e (if jump.isNone then .ready else .done) jump)))/\(∀ b,O b->w.heap.size+2<=b/\b<d.heap.size):=fun jump d k=>by
    have b2:=k.heap d0 (fun h=>h (.inr (.inr (.inr rfl))));have c6:=k.heap c5 (fun h=>h (.inr (.inr (.inl rfl))));have:=run_endRound (P:=P) jump b2;rw [s] at this ⊢;have b4:¬ K (w.heap.size+1)/\¬ O (w.heap.size+1):=⟨fun hk=>by have:=b1 _ hk;omega,fun ho=>by have:=(j _ ho).1;omega⟩;refine⟨this,World.putObj_heap_same (Array.getElem?_eq_some_iff.1 b2).1,(World.putObj_heap_other oz).trans c6,?_,fun b hb=>⟨(Z b hb).1,Nat.lt_of_lt_of_le (Z b hb).2 k.size⟩⟩;exact(((Q0.refl _ W).putObj (.inr b4) _).trans (k.mono fun b _ hb=>⟨fun hk=>hb (.inl hk),fun ho=>hb (.inr (.inl ho))⟩)).putObj (.inr b4) _
   rintro b0 d4 d H;cases b0 with
   | normal=>
    obtain⟨k,y⟩:=H;obtain⟨F,C,u,l,m⟩:=V none d k;have i:∀ o b,O b->w.heap.size+2<=b/\b<(d.putObj (w.heap.size+1) o).heap.size:=fun o b hb=>by simpa using m b hb
    exact⟨_,_,F,.inl ⟨rfl,⟨Y _ _ _ _ _ y m (D O d _) (fun b hb=>⟨.inl hb,(i _ b hb).2⟩),i _,C,u,f.trans (l.mono fun b _ hb=>hb.1),Nat.le_trans G l.size⟩,l⟩⟩
   | ret=>
    obtain⟨k,y⟩:=H;obtain⟨F,C,u,l,m⟩:=V (some .ret) d k;have i:∀ o b,O b->w.heap.size+2<=b/\b<(d.putObj (w.heap.size+1) o).heap.size:=fun o b hb=>by simpa using m b hb
    exact⟨_,_,F,.inr ⟨rfl,⟨.ret,R _ _ _ _ _ _ y m (D O d _) (fun b hb=>⟨.inl hb,(i _ b hb).2⟩),i _,C,u,Nat.le_trans G l.size⟩,l⟩⟩
   | exit id=>
    obtain⟨k,y⟩:=H;obtain⟨F,C,u,l,m⟩:=V (some (.exit id)) d k;have i:∀ o b,O b->w.heap.size+2<=b/\b<(d.putObj (w.heap.size+1) o).heap.size:=fun o b hb=>by simpa using m b hb
    exact⟨_,_,F,.inr ⟨rfl,⟨.exit id,R _ _ _ _ _ _ y m (D O d _) (fun b hb=>⟨.inl hb,(i _ b hb).2⟩),i _,C,u,Nat.le_trans G l.size⟩,l⟩⟩
   | goto t=>
    obtain⟨k,y⟩:=H;obtain⟨F,C,u,l,m⟩:=V (some (.goto t)) d k;have i:∀ o b,O b->w.heap.size+2<=b/\b<(d.putObj (w.heap.size+1) o).heap.size:=fun o b hb=>by simpa using m b hb
    exact⟨_,_,F,.inr ⟨rfl,⟨.goto t,R _ _ _ _ _ _ y m (D O d _) (fun b hb=>⟨.inl hb,(i _ b hb).2⟩),i _,C,u,Nat.le_trans G l.size⟩,l⟩⟩
   | panic ch=>exact H.elim
   | outgrown=>exact H.elim
  · -- behind the iterator
   rintro b0 L ⟨⟨v,rfl⟩,O,(⟨U,j,z,T,f,G⟩ | ⟨pre,x,rest,a8,c,U,j,z,T,G⟩)⟩
   ·refine⟨none,_,by have:=run_endLoop (P:=P) z (by rw [s];simp);rw [s] at this;exact this,?_⟩;have i:∀ o b,O b->w.heap.size+2<=b/\b<(L.putObj (w.heap.size+1) o).heap.size:=fun o b hb=>by simpa using j b hb
    exact c7 O _ (Y _ _ _ _ _ U j (D O L _) (fun b hb=>⟨.inl hb,(i _ b hb).2⟩)) (i _) (f.trans (b5 L _)) ((World.putObj_heap_other oz).trans T)
   ·refine⟨some c,_,by have:=run_endLoop (P:=P) z (by rw [s];simp);rw [s] at this;exact this,?_⟩;have i:∀ o b,O b->w.heap.size+2<=b/\b<(L.putObj (w.heap.size+1) o).heap.size:=fun o b hb=>by simpa using j b hb
    exact(wpIn_wide (n:=0)).2 (d3 c O pre x rest _ a8 (R _ _ _ _ _ _ U j (D O L _) (fun b hb=>⟨.inl hb,(i _ b hb).2⟩)) ((World.putObj_heap_other oz).trans T))
end Go.Ab
namespace Go.Proofs.YtfdlhlghcbeblaaGreatDoor
open Go.RowKit Go.Ab
attribute [local go_sem] Oper.semAt_some Zi Qz
theorem Q6p{w:World}{bx v:Nat}(a9:v<18446744073709551616)(a4:bx≠0)(j:Kh w bx v)(O:Tab w)(b6:(evs v).length<=64) :
  Calls Tryz.prog 193 #[.slice none 0 0,.func (.func 301) #[] #[.pointer (some ⟨bx,0,none⟩)]] w fun e w'=>∃ u,e=.returned u/\w'.ownsRow w.heap.size 3 1 u (evs v).length (Qc (evs v))/\Q0 (·=bx) w w':=by
 refine Z4 Tryz.func193 rfl ?_;simp only [Tryz.ntmps193,zS,Nat.reduceAdd,Nat.reduceSub];go_wp2;obtain⟨a,p⟩:=zE w.heap.size;have b5:bx<a:=by rw [<-p];exact(Array.getElem?_eq_some_iff.1 j).1
 have b9:0<a:=by rw [<-p];exact Qb5 O
 have C:(w.alloc (.cells #[.slice none 0 0] 48)).heap[a]?=some (.cells #[.slice none 0 0] 48 (0,0)):=Q3 p.symm;have y:Ext w (w.alloc (.cells #[.slice none 0 0] 48)):=(Q0.refl _ w).alloc _;have a7:(w.alloc (.cells #[.slice none 0 0] 48)).heap.size=a+1:=by rw [<-p];simp
 generalize (w.alloc (.cells #[.slice none 0 0] 48))=G at C y a7 ⊢;have T:Kh G bx v:=y.keep j;have P:=O.keep y id;rw [p];have x:=Zh p;clear p
 refine Ln (xs:=evs v) (S:=(·=bx)) (K:=fun b'=>b'=bx\/b'=0) rfl (enters_of Tryz.func301 kz rfl)
  (Q2g _ a9 bx a4 G T P) (fun _ i=>.inl i) (fun b' i=>by omega) (fun _=>rfl)
  (fun d f=>∃ u,f.heap[a]?=some (.cells #[u] 48 (0,0))/\f.ownsRow a 3 1 u d.length (Qc d)/\(∀ c,u.ownBlock=some c->c≠a/\c≠a+1/\c≠a+2)/\Q0 (·=bx) w f)
  (fun _ _ _=>False) ?hI ?hIx ?h0 (fun q t=>(t.setIfInBounds 7 (.int .i64 q)).setIfInBounds 5 (.int .i64 q)) ?assign ?body ?done ?stop
 case hI=>
  rintro d Z a0 ⟨u,k,g,n,s⟩ a8;have r:Q0 (fun b=>b=bx\/b=a+2) Z a0:=a8.mono (fun b _ i=>by omega);exact⟨u,r.heap k oz,Qf g r (fun b j e=>by have:=n b j;have:=(g.lt _ j).1;omega),n,s.after r (fun b' h1 h2=>by have:=x.out;omega)⟩
 case hIx=>exact fun _ _ _ _ i _=>i
 case h0=>
  intro f R _;exact⟨.slice none 0 0,R.keep C,World.ownsRow_nil _ _ _ _,(fun c B=>by cases B),Ext.of (Q0.trans y R)⟩
 case assign=>
  intro q f K a3;gi_wp2;exact a3
 case body=>
  rintro d q c0 f F b8 r ⟨u,k,g,n,s⟩;simp only [pq];have b7:d.length<64:=by
   have:=congrArg List.length F;simp at this;omega
  have H:=cell_of_one k;have a1:=free_of_one k;have b3:a<f.heap.size:=(Array.getElem?_eq_some_iff.1 k).1;have b4:=Zh F;clear F;refine wpIn_block ?_;refine Xv kz (by rintro⟨_,_,i⟩;exact i) ?_;have Y:=Zh k;clear k
  go_wp2_with (at_builtin;refine Qk rfl (.tmp 8) (.tmp 10) 48 rfl a 3 _ 1 8 Tryz.underlying48 Tryz.infoI rfl zd _ _ _ rfl (Q7 g ((Q0.refl _ f).alloc _)) ⟨f.heap.size,0,none⟩ 1 1 [.int .i64 q] rfl rfl (Qq rfl) ?c2 ?c3 ?c4 ?c5 ?_)
  case c2=>first | rfl | (intro u V;simp at V;rcases V with rfl;rfl)
  case c3=>unfold maxLen;omega
  case c4=>omega
  case c5=>simp;omega
  intro l m o N Q I;have z:Q0 (fun b'=>u.ownBlock=some b') f o:=Q0.trans (Q0.alloc (Q0.refl _ f) _) Q;have D:=z.heap Y.out (fun e=>(n _ e).1 rfl);have J:Q0 (·=bx) w o:=s.after z (fun b' h1 e=>by have:=(g.lt _ e).1;have:=x.out;omega);have E:∀ c,(Value.slice l (d.length+1) m).ownBlock=some c->c≠a/\c≠a+1/\c≠a+2:=by
   intro c B;rcases I with e | e
   ·exact n c (e ▸ B)
   ·rw [B] at e;cases e;omega
  have b0:=cell_of_one D;have b2:=free_of_one D;have A:=Q0.set1 o a 0 (.slice l (d.length+1) m);have M:(o.setCell ⟨a,0,none⟩ (.slice l (d.length+1) m)).heap[a]?=some (.cells #[.slice l (d.length+1) m] 48 (0,0)):=by
   simp only [World.setCell,Array.getElem?_modify,D];simp
  have L:Q0 (fun b=>¬ ((b=bx\/b=0)\/b=a+1\/b=a+1+1)) f (o.setCell ⟨a,0,none⟩ (.slice l (d.length+1) m)):=
   (z.mono (fun b' _ e=>by have:=n _ e;have:=(g.lt _ e).1;omega)).trans (A.mono (fun b' _ e=>by omega))
  have U:∃ u,(o.setCell ⟨a,0,none⟩ (.slice l (d.length+1) m)).heap[a]?=some (.cells #[u] 48 (0,0))/\(o.setCell ⟨a,0,none⟩ (.slice l (d.length+1) m)).ownsRow a 3 1 u (d++[q]).length (Qc (d++[q]))/\(∀ c,u.ownBlock=some c->c≠a/\c≠a+1/\c≠a+2)/\Q0 (·=bx) w (o.setCell ⟨a,0,none⟩ (.slice l (d.length+1) m)):=by
   refine⟨_,M,?_,E,J.after A (fun b h1 h2=>by have:=x.out;omega)⟩;rw [Yu,List.length_append];exact Qf N A (fun b j e=>(E b j).1 e)
  have X:=Zh L;have W:=Zh U;clear L U M A E J z Q N I H a1 g n s r;go_wp2;exact⟨X.out,W.out⟩
 case done=>
  rintro f ⟨u,k,g,n,s⟩ r a2;have H:=cell_of_one k;clear y T P C;go_wp2;have a6:Z3 a ({ target:=.collected G.heap.size,args:=#[] }::[]) f:=Z3.cons (base:=a) trivial oz a2 (fun e he=>by cases he);refine Yv a6 (fun w'=>results_tmp rfl _ _ _) (fun w' ht' hs=>⟨u,rfl,?_,?_⟩)
  ·rw [x.out];exact Qf g ht' (fun b j e=>by obtain⟨b1,a5⟩:=Zg g j;exact Shut.not a5 rfl e)
  ·exact s.after ht' (fun b' h2 h3=>by have:=h3.1;have:=x.out;omega)
 case stop=>exact fun _ _ _ _ _ _ i=>i.elim
theorem Q5i{w:World}{bx v:Nat}(i:v<18446744073709551616)(f:bx≠0)(d:Kh w bx v)(c:Tab w)(g:(evs v).length<=64) :
  Calls Tryz.prog 163 #[.func (.func 301) #[] #[.pointer (some ⟨bx,0,none⟩)]] w fun e w'=>∃ u,e=.returned u/\w'.ownsRow w.heap.size 3 1 u (evs v).length (Qc (evs v))/\Q0 (·=bx) w w':=by
 go_enter Tryz.func163,Tryz.ntmps163;go_wp2_with fail;refine(Q6p i f d c g).mono ?_;rintro e j ⟨u,rfl,a,b⟩;go_wp2;go_ret;exact⟨_,rfl,a,b⟩
theorem Q65(R:Qh)(a:Nat):evs (Q2 R a)=(List.range 33).filter (R a):=Su R a
theorem Q6v{R:Qh}{a n:Nat}(g:n<=32)(e:∀ b,R a b=true->b<=n):(List.range 33).filter (R a)=(List.range (n+1)).filter (fun b=>R a b):=by
 have c:List.range 33=List.range (n+1)++(List.range (32 - n)).map (n+1+·):=by
  rw [<-List.range_add,show n+1+(32 - n)=33 by omega]
 rw [c,List.filter_append];have:((List.range (32 - n)).map (n+1+·)).filter (R a)=[]:=by
  rw [List.filter_eq_nil_iff];intro j f d;obtain⟨i,_,rfl⟩:=List.mem_map.1 f;have:=e _ d;omega
 rw [this,List.append_nil]
theorem Qdw{K:Nat->Prop}{w:World}{p:Pat}{cs:List Value}{v:Value}{ws:Wd}(F:Qm K w p cs)(L:∀ g,K g->g<w.heap.size)(G:Q6 w v ws)(D:Tab w)(c:Int) :
  Calls Tryz.prog 280 #[.agg cs.toArray,v,.int .i64 c] w fun e w'=>∃ u,e=.returned (.tuple #[u,.int .i64 (X1 p ws c)])/\w'.ownsRow w.heap.size 3 1 u (Vj p ws c).length (Qc (Vj p ws c))/\Ext w w':=by
 have x:Qp ws.length (Vt p ws):=by
  unfold Vt
  split
  ·exact Kq ws p
  ·exact Qp.no _
 have H:=Zh D;have P:=fun(V:World) (hE:Ext w V)=>Ba (K:=K) (F.ext hE) (fun g hg=>Nat.lt_of_lt_of_le (L g hg) hE.size) (G.ext hE) (D.keep hE id);obtain⟨a7,b1,rfl,a1,a0,_⟩:=Zc F;obtain⟨a9,a8,rfl,Z⟩:=G.slice;clear F a1 a0 G D L;have n:=Zh P;clear P;obtain⟨l,y⟩:=zE (Jd p ws);obtain⟨b,A⟩:=zE (Vt p ws);obtain⟨i,q⟩:=zE ws.length;have j:Hid (X1 p ws c=if l=0 then exE i c else l):=Zh (by unfold X1;rw [y,q]);have s:Hid (Vj p ws c=if X1 p ws c=0 then(List.range (i+1)).filter (fun k=>b c.toNat k) else []):=Zh (by unfold Vj;rw [A,q])
 have O:l=0->i<=32:=fun h=>by
  subst y;subst q;exact Q48 h
 rw [y] at n;rw [A] at n x;rw [q] at n Z x ⊢;have T:=Zh x;clear x;clear y A q;have U:=Zh O;clear O;unfold Qd at n ⊢;have a4:=Jc;have a5:=Z2 noB;have a6:=Xg noB;go_enter Tryz.func280,Tryz.ntmps280;go_wp2_with fail;refine(n.out _ ((Q0.refl _ w).alloc _)).mono ?_;rintro e f ⟨rfl,J⟩;have I:Ext w f:=Q0.trans ((Q0.refl _ w).alloc _) J;clear J;have B:(f.alloc (.cells (Qa noB) 363)).heap[f.heap.size]?=some (.cells (Qa noB) 363 (0,0)):=Q3 rfl;have C:Qb ((f.alloc (.cells (Qa noB) 363)).setRow f.heap.size (Q4 (Q2 b))) f.heap.size (Q2 b):=setRow_heap _ _ _ _ _ _ B;have o:Ext w ((f.alloc (.cells (Qa noB) 363)).setRow f.heap.size (Q4 (Q2 b))):=I.trans (((Q0.refl _ f).alloc _).after (Q0.setRow _ _ _) (fun b' h1 h2=>by omega));go_upto_region 2 with (refine wpList_store_row rfl 363 (.tmp 8) (.tmp 14) rfl f.heap.size (Q4 (Q2 b)) rfl rfl _ _ B (Tryz.relInfo _) (by rw [Z2,Qe]) (Qy _) ?_)
 generalize ((f.alloc (.cells (Qa noB) 363)).setRow f.heap.size (Q4 (Q2 b)))=b7 at C o ⊢;generalize f.heap.size=k at C ⊢;clear B I a4 a5 a6;by_cases m:l=0
 ·have a2:=U.out m;rw [if_pos m] at j;subst m;go_wp2_with fail;refine(Bo _ _ _ _ _).mono ?_;rintro e R ⟨rfl,rfl⟩;by_cases E:c<0\/(i:Int)<c
  ·have r:exE i c=3:=by unfold exE;rw [if_pos E]
   rw [r] at j ⊢;clear r;go_wp2;refine bodyPost_ret (Zx rfl _ _ _) rfl ⟨_,by rw [j.out];rfl,?_,o⟩;rw [s.out,j.out,if_neg zd];exact World.ownsRow_nil _ _ _ _
  ·have r:exE i c=0:=by unfold exE;rw [if_neg E]
   rw [r] at j ⊢;obtain⟨d,rfl⟩:∃ d:Nat,c=d:=⟨c.toNat,by omega⟩;have S:Hid (Vj p ws d=(List.range (i+1)).filter (fun k=>b d k)):=Zh (by rw [s.out,j.out];rfl);have b4:d<=i:=by omega
   have b0:=C.cell (a:=d) oz;have b3:=Xe b d;have Q:(List.range 33).filter (b d)=(List.range (i+1)).filter (fun k=>b d k):=Q6v a2 (fun k hb=>(T.out d k hb).2);have W:=Zh Q;clear r s E Q
   go_wp2_with (go_at_call 293;refine(Q6f _ _).mono ?_;rintro e w' ⟨rfl,rfl⟩)
   have b2:=Qb5 H.out;have b5:=o.size;have t:Ext w (R.alloc (.cells #[.int .u64 (Q2 b d:Int)] 361)):=Q0.alloc o _;have N:(evs (Q2 b d)).length<=64:=by
    rw [Q65];have:=List.length_filter_le (b d) (List.range 33);simp at this;omega
   refine(Q5i (v:=Q2 b d) (bx:=R.heap.size) oz oz (Q3 rfl) (H.out.keep t id) N).mono ?_;rintro e a3 ⟨u,rfl,z,M⟩;rw [Q65,W.out,<-S.out] at z;have X:Ext w a3:=t.after M (fun b' h1 h2=>by omega);have Y:=Zb z t.size;clear z M t N;go_wp2;exact bodyPost_ret (Zx rfl _ _ _) rfl ⟨_,by rw [j.out];rfl,Y,X⟩
 ·have b6:(l == 0)=false:=by rw [beq_eq_false_iff_ne];exact m
  rw [if_neg m] at j;go_wp2;refine bodyPost_ret (Zx rfl _ _ _) rfl ⟨_,by rw [j.out];rfl,?_,o⟩;rw [s.out,j.out,if_neg m];exact World.ownsRow_nil _ _ _ _
end Go.Proofs.YtfdlhlghcbeblaaGreatDoor
namespace Go.Ab
open Go.RowKit
section
variable {P:Program} {ops:Array Oper} {Q:Exit->Act->World->Prop} {md:Region.Mode} {S:World->Prop} {Lt:List Nat}
def Li(md:Region.Mode)(ops:Array Oper)(listed:Array Bool):Prop:=
 ∀ k o,ops[k]?=some o->listed.getD k false=true->∀ e∈o.after,Region.binds md e=true->listed.getD e.on false=true
def Fc(md:Region.Mode)(ops:Array Oper)(i:Nat):Nat->Nat->Bool
 | 0,_=>false
 | f+1,k=>match ops[k]? with
  | some o=>o.after.toList.any fun e=>Region.binds md e && (e.on == i || Fc md ops i f e.on)
  | none=>false
theorem Po{listed:Array Bool}{i:Nat}(hc:Li md ops listed)(hi:listed.getD i false=false):∀(f k:Nat),Fc md ops i f k=true->listed.getD k false=false/\¬ k∈Region.ready md ops listed
 | 0,_,h=>by cases h
 | f+1,k,h=>by
  unfold Fc at h;cases ho:ops[k]? with
  | none=>rw [ho] at h;cases h
  | some o=>
   rw [ho] at h;obtain⟨e,he,hb⟩:=List.any_eq_true.1 h;rw [Bool.and_eq_true,Bool.or_eq_true,beq_iff_eq] at hb;have he':e∈o.after:=by simpa using he
   have hon:listed.getD e.on false=false:=by
    rcases hb.2 with h1 | h1
    ·rw [h1];exact hi
    ·exact(Po hc hi f e.on h1).1
   constructor
   ·cases hk:listed.getD k false with
    | false=>rfl
    | true=>rw [hc k o ho hk e he' hb.1] at hon;cases hon
   ·intro hr;obtain⟨_,o',ho',hall⟩:=mem_ready.1 hr;rw [ho] at ho';cases ho';rw [hall e he' hb.1] at hon;cases hon
theorem Li.step{a:Array Bool}{j:Nat}(m:Li md ops a)(n:j∈Region.ready md ops a):Li md ops (a.setIfInBounds j true):=by
 intro k o g e b d c;refine getD_set_true ?_;by_cases f:k=j
 ·subst f;obtain⟨_,p,i,l⟩:=mem_ready.1 n;rw [g] at i;cases i;exact l b d c
 ·rw [getD_set_ne false (Ne.symm f)] at e;exact m k o g e b d c
def Qs(P:Program)(md:Region.Mode)(ops:Array Oper)(Q:Exit->Act->World->Prop)(S:World->Prop)(Lt:List Nat):Nat->Array Bool->Act->World->Prop
 | 0,listed,a,w=>Region.ready md ops listed=[]/\Q .normal a w
 | fuel+1,listed,a,w=>
  (Region.ready md ops listed=[]->Q .normal a w) /\
  ∀ i∈Region.ready md ops listed,wpOp P ops Q i (fun a' w'=>(Lt.contains i=false->S w')/\Qs P md ops Q S Lt fuel (listed.setIfInBounds i true) a' w') a w
theorem Dy:∀(fuel:Nat) (listed:Array Bool) (a:Act) (w:World),Qs P md ops Q S Lt fuel listed a w->wpAny P md ops Q fuel listed a w
 | 0,_,_,_,h=>h
 | fuel+1,_,_,_,h=>⟨h.1,fun i hi=>wpOp_mono (fun a' w' h'=>Dy fuel _ a' w' h'.2) (h.2 i hi)⟩
theorem Q4c{i:Nat}{g:Oper}{v:Value}(r:ops[i]?=some g)(B:∀(j:Nat) (o:Oper) cs b,ops[j]?=some o->o.op≠.select cs b)
  (D:∀ c a w,Q (.panic c) (a.put g.dst v) w->Q (.panic c) a w) (H:∀ j,Lt.contains j=true->Fc md ops i ops.size j=true) :
  ∀(fuel:Nat) (listed:Array Bool) (a:Act) (w:World),Li md ops listed ->
   (∀ j oj,ops[j]?=some oj->j≠i->listed.getD j true=false->(∀ e∈oj.after,Region.binds md e=true->e.on≠i)->g.apart ops oj=true) ->
   i∈Region.ready md ops listed->YieldsIf P ops S g v a->S w ->
   Qs P md ops Q S Lt fuel (listed.setIfInBounds i true) (a.put g.dst v) w->Qs P md ops Q S Lt (fuel+1) listed a w:=by
 intro fuel
 induction fuel with
 | zero=>
  intro listed a w _ _ f p m l;refine⟨fun h=>(by rw [h] at f;cases f),fun j hj=>?_⟩;by_cases d:j=i
  ·subst d;exact p.wpOp r m ⟨fun _=>m,l⟩
  ·have:=ready_mono hj d;rw [l.1] at this;cases this
 | succ fuel ih=>
  intro listed a w u x f p m l;refine⟨fun h=>(by rw [h] at f;cases f),fun j hj=>?_⟩;by_cases d:j=i
  ·subst d;exact p.wpOp r m ⟨fun _=>m,l⟩
  ·have n:=l.2 j (ready_mono hj d);have y:listed.getD i false=false:=by
    have t:=(mem_ready.1 f).1;rcases Nat.lt_or_ge i listed.size with q | q
    ·simp [q] at t ⊢;exact t
    ·simp [Array.getElem?_eq_none q]
   have F:Lt.contains j=false:=by
    cases hl:Lt.contains j with
    | false=>rfl
    | true=>exact absurd hj (Po u y _ _ (H j hl)).2
   obtain⟨A,oj,s,E⟩:=mem_ready.1 hj
   have I:∀ e∈oj.after,Region.binds md e=true->e.on≠i:=fun e he hb heq=>by
    have n:=E e he hb;rw [heq,y] at n;cases n
   have C:=wpOp_putIf s (x j oj s d A I) (fun cs b=>B i g cs b r) (fun cs b=>B j oj cs b s) D p n
   have G:∀ k ok,ops[k]?=some ok->k≠i->(listed.setIfInBounds j true).getD k true=false ->
     (∀ e∈ok.after,Region.binds md e=true->e.on≠i)->g.apart ops ok=true:=fun k ok hk hki hun hno=>by
    refine x k ok hk hki ?_ hno;by_cases z:j=k
    ·subst z;exact A
    ·rw [getD_set_ne true z] at hun;exact hun
   refine wpOp_mono (fun a' w' h3=>⟨h3.2.1,ih (listed.setIfInBounds j true) a' w' (u.step hj) G (ready_mono f (Ne.symm d)) h3.1 (h3.2.1 F) ?_⟩) C;rw [Array.setIfInBounds_comm _ _ d];exact h3.2.2
def Mt(md:Region.Mode)(ops:Array Oper)(listed:Array Bool):Bool:=
 (List.range ops.size).all fun k=>!listed.getD k false || match ops[k]? with
  | some o=>o.after.toList.all fun e=>!Region.binds md e || listed.getD e.on false
  | none=>true
theorem R0{d:Array Bool}(h:Mt md ops d=true):Li md ops d:=by
 intro j k c i e g f;have a:=List.all_eq_true.1 h j (List.mem_range.2 (Array.getElem?_eq_some_iff.1 c).1);rw [i,c] at a;simp only [Bool.not_true,Bool.false_or] at a;have b:=List.all_eq_true.1 a e (by simpa using g);rw [f] at b
 simpa using b
theorem Me{i:Nat}{oi:Oper}{v:Value}{fuel:Nat}{listed:Array Bool}{a:Act}{w:World}(hi:ops[i]?=some oi)
  (hs:Region.noSelect ops=true) (hf:Region.free md ops listed i=true) (hr:(Region.ready md ops listed).contains i=true) (hc:Mt md ops listed=true) (hl:(Lt.all fun j=>Fc md ops i ops.size j)=true)
  (hQ:∀ c a w,Q (.panic c) (a.put oi.dst v) w->Q (.panic c) a w) (hy:YieldsIf P ops S oi v a) (hS:S w)
  (h:Qs P md ops Q S Lt fuel (listed.setIfInBounds i true) (a.put oi.dst v) w):Qs P md ops Q S Lt (fuel+1) listed a w:=
 Q4c hi (Region.noSelect_spec hs) hQ (fun j hj=>List.all_eq_true.1 hl j (by simpa using hj)) fuel listed a w (R0 hc) (Region.free_spec hi hf) (by simpa using hr) hy hS h
theorem tkE{i d:Nat}{oi:Oper}{v:Value}{fuel:Nat}{listed:Array Bool}{a:Act}{w:World}(hi:ops[i]?=some oi)
  (hy:YieldsIf P ops S oi v a) (hS:S w) (h:Qs P md ops Q S Lt fuel (listed.setIfInBounds i true) (a.put (some d) v) w)
  (hs:Region.noSelect ops=true:=by kernel_rfl) (hf:Region.free md ops listed i=true:=by kernel_rfl) (hr:(Region.ready md ops listed).contains i=true:=by kernel_rfl) (hc:Mt md ops listed=true:=by kernel_rfl) (hl:(Lt.all fun j=>Fc md ops i ops.size j)=true:=by kernel_rfl) (hd:oi.dst=some d:=by rfl)
  (hQ:∀ c a w,Q (.panic c) (a.put (some d) v) w->Q (.panic c) a w:=by exact fun _ _ _ h=>h):Qs P md ops Q S Lt (fuel+1) listed a w:=
 Me hi hs hf hr hc hl (by rw [hd];exact hQ) hy hS (by rw [hd];exact h)
theorem tE(i d:Nat){oi:Oper}{v:Value}{fuel:Nat}{listed:Array Bool}{a a':Act}{w:World}
  (hS:S w) (h:Qs P md ops Q S Lt fuel (listed.setIfInBounds i true) a' w) (hi:ops[i]?=some oi:=by exact rfl)
  (hy:YieldsIf P ops S oi v a:=by(exact Or.inl ⟨by rfl,by(intro w hSw;(try dsimp only at hSw);go_simp;try with_reducible rfl)⟩)) (ha:a.put (some d) v=a':=by((try simp only [Act.put,pq]);exact rfl))
  (hs:Region.noSelect ops=true:=by kernel_rfl) (hf:Region.free md ops listed i=true:=by kernel_rfl) (hr:(Region.ready md ops listed).contains i=true:=by kernel_rfl) (hc:Mt md ops listed=true:=by kernel_rfl) (hl:(Lt.all fun j=>Fc md ops i ops.size j)=true:=by kernel_rfl) (hd:oi.dst=some d:=by rfl)
  (hQ:∀ c a w,Q (.panic c) (a.put (some d) v) w->Q (.panic c) a w:=by exact fun _ _ _ h=>h):Qs P md ops Q S Lt (fuel+1) listed a w:=
 Me hi hs hf hr hc hl (by rw [hd];exact hQ) hy hS (by rw [hd,ha];exact h)
def Q1(P:Program)(md:Region.Mode)(ops:Array Oper)(Q:Exit->Act->World->Prop)(S:World->Prop)(Lt:List Nat)(fuel:Nat)(listed:Array Bool)(a:Act)(w:World)(rs:List Nat):Prop:=
 ∀ i∈rs,wpOp P ops Q i (fun a' w'=>(Lt.contains i=false->S w')/\Qs P md ops Q S Lt fuel (listed.setIfInBounds i true) a' w') a w
theorem Q1.nil{fuel:Nat}{listed:Array Bool}{a:Act}{w:World}:Q1 P md ops Q S Lt fuel listed a w []:=fun _ h=>by cases h
theorem Q1.cons{fuel:Nat}{listed:Array Bool}{a:Act}{w:World}{i:Nat}{o:Oper}{rs:List Nat}(ho:ops[i]?=some o)
  (h:∀ K':Act->World->Prop,Go.Shut (∀ a w,S w->(S w->Qs P md ops Q S Lt fuel (listed.setIfInBounds i true) a w)->K' a w)->if Region.wanted o (yielded ops a.tmps)=true then Oper.wp P o a w K' Q else K' (a.put o.dst undef) w)
  (hs:Q1 P md ops Q S Lt fuel listed a w rs):Q1 P md ops Q S Lt fuel listed a w (i::rs):=fun j hj=>by
 rcases List.mem_cons.1 hj with rfl | hj
 ·exact wpOp_step ho (fun K' hK=>h K' (fun a w hS hW=>hK a w ⟨fun _=>hS,hW hS⟩))
 ·exact hs j hj
theorem Q1.late{fuel:Nat}{listed:Array Bool}{a:Act}{w:World}{i:Nat}{o:Oper}{rs:List Nat}(ho:ops[i]?=some o)(hl:Lt.contains i=true)
  (h:∀ K':Act->World->Prop,Go.Shut (∀ a w,Qs P md ops Q S Lt fuel (listed.setIfInBounds i true) a w->K' a w)->if Region.wanted o (yielded ops a.tmps)=true then Oper.wp P o a w K' Q else K' (a.put o.dst undef) w)
  (hs:Q1 P md ops Q S Lt fuel listed a w rs):Q1 P md ops Q S Lt fuel listed a w (i::rs):=fun j hj=>by
 rcases List.mem_cons.1 hj with rfl | hj
 ·exact wpOp_step ho (fun K' hK=>h K' (fun a w hW=>hK a w ⟨fun q=>(by rw [hl] at q;cases q),hW⟩))
 ·exact hs j hj
theorem Q2n{rs:List Nat}{fuel:Nat}{listed:Array Bool}{a:Act}{w:World}(hr:Region.ready md ops listed=rs)(hne:rs≠[])
  (h:Q1 P md ops Q S Lt fuel listed a w rs):Qs P md ops Q S Lt (fuel+1) listed a w:=⟨fun h0=>absurd (hr ▸ h0) hne,hr ▸ h⟩
theorem rE(rs:List Nat){fuel:Nat}{listed:Array Bool}{a:Act}{w:World}(h:Q1 P md ops Q S Lt fuel listed a w rs)
  (hr:Region.ready md ops listed=rs:=by kernel_rfl) (hne:rs≠[]:=by simp):Qs P md ops Q S Lt (fuel+1) listed a w:=Q2n hr hne h
theorem Ql{listed:Array Bool}{a:Act}{w:World}(hr:Region.ready md ops listed=[])(h:Q .normal a w) :
  ∀ fuel,Qs P md ops Q S Lt fuel listed a w
 | 0=>⟨hr,h⟩
 | _+1=>⟨fun _=>h,by rw [hr];simp⟩
theorem Z0{id:Nat}{a:Act}{w:World}(Lt:List Nat)(hm:P.follows .mixedOrders=true)(hS:S w.drew)
  (h:S w.drew->Qs P .any ops Q S Lt ops.size (Array.replicate ops.size false) a w.drew):(Code.region id ops true).wp P Q a w:=
 wp_region_any hm (Dy _ _ _ _ (h hS))
theorem Gu{id l n:Nat}{a:Act}{w:World}(Lt:List Nat)(hm:P.follows .mixedOrders=true)(hd:Vk ops=true)(hQ:¬ LetsOut Q)(hS:S w.drew)
  (h:S w.drew->Qs P .any ops Q S Lt ops.size (Array.replicate ops.size false) a w.drew):(Code.region id ops true).wpIn (Fence.wide.inRound l) n P Q a w:=
 Ha hm hd hQ (Dy _ _ _ _ (h hS))
end
end Go.Ab
namespace Go.Proofs.YtfdlhlghcbeblaaGreatDoor
open Go.RowKit Go.Ab
theorem X2{w:World}{g n cap a:Nat}{xs:List Value}{t:TypeId}(h:w.heap[g]?=some (.cells xs.toArray t (0,0))) (b:xs.length=n*a) (c:n<=maxLen):Rd w (.slice (some ⟨g,0,none⟩) n cap) n a xs:=by
 refine⟨b,c,_,cap,rfl,fun _=>⟨g,0,rfl,(Array.getElem?_eq_some_iff.1 h).1,fun j hj=>?_⟩⟩;rw [Nat.zero_add];have:j<xs.length:=by omega
 simp [World.cell?,h,List.getD_eq_getElem?_getD,this]
theorem Wh(K:Nat->Prop)(w:World)(k:Int){pl mi:Nat}(nt:Bool)(mn mx:Int)(a:pl<4294967296)(b:mi<4294967296):Qm K w (.node k pl mi nt mn mx []) [.int .i64 k,.int .u32 (pl:Int),.int .u32 (mi:Int),.bool nt,.int .i64 mn,.int .i64 mx,.slice none 0 0]:=by
 unfold Qm;exact⟨none,0,rfl,a,b,by simp,by simp [maxLen],by unfold Ze;trivial⟩
attribute [local go_sem] Oper.semAt_some Zi Qz
theorem Q9p(b o j:Nat):(⟨b,o,none⟩:Addr).add j=⟨b,o+j,none⟩:=by
 unfold Addr.add;split
 ·rename_i a;subst a;rfl
 ·simp
section
variable {P:Program} {w:World}
theorem Jo{ops:Array Oper}{rest:List Oper}{o:Oper}{a:Act}{Q:Exit->Act->World->Prop}(r:o.guard=none)(s x:Operand)(t:TypeId)
  (C:o.op=.call { callee:=.builtin .append,args:=#[s,x],argTypes:=#[t,t] })
  (base:Nat) (e:TypeId) (z:Value) (size g:Nat) (l:P.underlying t=some (.slice e)) (B:(P.info? e).map (fun i=>(i.zero,i.size,i.bytes))=some (some z,size,g))
  (Y:z.cells.size=size) (X:0<size)
  (v:Value) (n:Nat) (xs:List Value) (D:a.eval s=v) (f:w.ownsRow base e size v n xs)
  (A:Option Addr) (m c:Nat) (d:List Value) (F:a.eval x=.slice A m c) (V:Rd w (.slice A m c) m size d) (M:∀ u∈d,u.oneCell'=true)
  (N:n+m<=maxLen) (R:(n+m)*g<=140737488355328) (O:base<=w.heap.size)
  (h:∀ ao c' w',w'.ownsRow base e size (.slice ao (n+m) c') (n+m) (xs++d)->Q0 (fun b=>v.ownBlock=some b) w w'->((Value.slice ao (n+m) c').ownBlock=v.ownBlock\/(Value.slice ao (n+m) c').ownBlock=some w.heap.size)->wpList P ops Q rest (a.put o.dst (.slice ao (n+m) c')) w'):wpList P ops Q (o::rest) a w:=by
 obtain⟨q,_,ao,I,E,G⟩:=V;simp only [zV,true_and] at E;obtain⟨rfl,rfl⟩:=E;rcases A with _ | H
 ·have k:m=0:=by
   apply Nat.le_antisymm _ (Nat.zero_le _);apply Nat.le_of_not_lt;intro L;obtain⟨_,_,p,_⟩:=G L;cases p
  subst k;obtain rfl:d=[]:=List.eq_nil_of_length_eq_zero (by simpa using q);obtain⟨i,y,a2,a1,a0⟩:=info_parts B;have W:(Builtin.append_ #[t,t] o.type #[v,.slice none 0 c]).run P w=.ok v w:=by
   rcases f.2 with ⟨rfl,rfl⟩ | ⟨J,I,Z,rfl,_,_,U,_⟩
   ·simp [Builtin.append_,run_underlying l,sizeOf,typeInfo,y,Builtin.lenOf,Builtin.firstCells]
   ·simp [Builtin.append_,run_underlying l,sizeOf,typeInfo,y,Builtin.lenOf,Builtin.firstCells,U,storeCells]
  refine wpList_plain r fun K hK=>?_
  unfold Oper.wp execOp;simp only [C,resolve,invoke,builtin,Sem.run_bind,Sem.run_pure,Result.andThen_ok,List.map_toArray,List.map_cons,List.map_nil,D,F,W];obtain⟨ao,c',rfl⟩:=Zd f;exact hK _ _ (h ao c' w (by simpa using f) (Q0.refl _ _) (.inl rfl))
 ·refine Qk r s x t C base e z size g l B Y X v n xs D f H m c d F q (fun j u hj=>?_) M N R O h;have T:j<m*size:=by rw [<-q];exact(List.getElem?_eq_some_iff.1 hj).1
  have k:0<m:=by
   apply Nat.pos_of_ne_zero;rintro rfl;omega
  obtain⟨J,a3,p,_,S⟩:=G k;cases p;rw [Q9p,S j T,List.getD_eq_getElem?_getD,hj];rfl
end
theorem Uz(w:Wd):∀ u∈Za w,u.oneCell'=true:=by
 intro u a;obtain⟨b,_,a⟩:=List.mem_flatMap.1 a;simp only [List.mem_cons,List.not_mem_nil,or_false] at a;rcases a with rfl | rfl <;> rfl
theorem Xt:(Tryz.prog.info? 95).map (fun i=>(i.zero,i.size,i.bytes))=some (some (.agg #[.int .u32 0,.int .u32 0]),2,8):=by kernel_rfl
theorem Qdm(n:Nat)(s:n<=100000)(w:World) :
  Calls Tryz.prog 261 #[.slice none 0 0,.int .i64 n] w fun e w'=>∃ ao c,e=.returned (.slice ao 0 c)/\w'.ownsRow w.heap.size 95 2 (.slice ao 0 c) 0 []/\Ext w w':=by
 by_cases m:n=0
 ·subst m;go_enter Tryz.func261,Tryz.ntmps261;go_wp2;go_ret;exact⟨_,_,rfl,World.ownsRow_nil _ _ _ _,Q0.refl _ _⟩
 ·obtain⟨r,i,k,p,f⟩:=info_parts (@Xt);have b:=Lib.run_append_nil_zeros (P:=Tryz.prog) w 99 3 99 95 r (.agg #[.int .u32 0,.int .u32 0]) .i64 .i64 Tryz.underlying99 Tryz.underlying3 i k n oz oz oz (by rw [f];omega);have o:=grownCap_ge w n 0 95;have j:=grownCap_le_maxLen w n 0 95 (by unfold maxLen;omega);obtain⟨c,g⟩:=zE (grownCap w n 0 95);rw [g] at b o j;obtain⟨a,d⟩:=zE (Builtin.zeroCells (Value.agg #[.int .u32 0,.int .u32 0]).cells n++Builtin.zeroCells (Value.agg #[.int .u32 0,.int .u32 0]).cells (c - n));have q:a.size=c*2:=by
   rw [<-d,Array.size_append,size_zeroCells,size_zeroCells];show n*2+(c - n)*2=c*2;omega
  rw [d] at b;have t:(0:Int)<(n:Int):=by omega
  have l:=Zh b;clear b d g i k p f;go_enter Tryz.func261,Tryz.ntmps261
  go_wp2_with (at_builtin;refine Lib.wpList_append_run _ rfl (.tmp 20) (.tmp 21) _ _ rfl (.slice none 0 0) (.int .i64 n) rfl rfl _ _ l.out ?_)
  go_ret;exact⟨_,_,rfl,⟨by simp,.inr ⟨w.heap.size,c,a,rfl,Nat.le_refl _,Q3 zy,by omega,j,q,by simp⟩⟩,((Q0.refl _ w).drew).alloc _⟩
def Um(us:List Wd)(k:Nat):Wd:=(us.take k).flatten
theorem Eg{us:List Wd}{k:Nat}(h:k<us.length):Um us (k+1)=Um us k++us[k]:=by
 unfold Um;rw [List.take_succ_eq_append_getElem h,List.flatten_append];simp
theorem Q2b{us:List Wd}{k:Nat}(h:us.length<=k):Um us k=us.flatten:=by unfold Um;rw [List.take_of_length_le h]
theorem Q6g{us:List Wd}(k:Nat):(Um us k).length<=us.flatten.length:=by
 unfold Um;conv=>rhs;rw [<-List.take_append_drop k us,List.flatten_append,List.length_append]
 omega
theorem Bn{w:World}{ao:Option Addr}{cap:Nat}{vs:List Value}{us:List Wd}{F:Wd}(b1:us.flatten=F)(G:Rd w (.slice ao us.length cap) us.length 1 vs) (b7:∀ i (h:i<us.length),Q6 w (vs.getD i undef) us[i]) (d1:F.length<=1000) :
  Calls Tryz.prog 227 #[.slice ao us.length cap] w fun e w'=>∃ u,e=.returned u/\w'.ownsRow w.heap.size 95 2 u F.length (Za F)/\Ext w w':=by
 obtain⟨f,Y⟩:=zE us.length;have c4:f<=maxLen:=by have:=G.2.1;omega
 unfold maxLen at c4;rw [Y] at G ⊢;have o:=Zh Y;clear Y;have a5:=Zh b7;have C:=Zh b1;clear b1
 have b4:Hid (∀ c (b6:c<us.length),∃ l s,ao=some ⟨l,s,none⟩/\l<w.heap.size/\w.cell? ⟨l,s+c,none⟩=some (vs.getD c undef)):=Zh fun c b6=>by
  obtain⟨_,_,a9,b0,d2,c0⟩:=G;cases d2;obtain⟨l,s,c1,c2,c3⟩:=c0 (by have:=o.out;omega);exact⟨l,s,c1,c2,c3 c (by have:=o.out;omega)⟩
 clear G b7;go_enter Tryz.func227,Tryz.ntmps227;go_wp2
 refine wp_loop (fun a p=>∃(c:Nat),c<=f/\a.defers=[]/\(a.tmps.size=36/\a.tmps.getD 0 undef=.slice ao f cap/\a.tmps.getD 3 undef=.int .i64 ((Um us c).length:Int)/\a.tmps.getD 9 undef=.slice ao f cap/\a.tmps.getD 10 undef=.int .i64 f/\a.tmps.getD 11 undef=.int .i64 c)/\w=p)
  (fun a _=>f - (intOf (a.tmps.getD 11 undef)).toNat) ?_ ?_
 ·exact⟨0,by omega,rfl,⟨rfl,rfl,by simp [Um],rfl,rfl,rfl⟩,rfl⟩
 rintro⟨a3,_⟩ p ⟨c,b6,a0,⟨z,O,U,W,P,Q⟩,rfl⟩;subst a0;obtain⟨a4,A⟩:=Qv z;obtain⟨u,rfl⟩:∃ x,x=a4:=⟨_,rfl⟩;have a1:a3=#[u 0,u 1,u 2,u 3,u 4,u 5,u 6,u 7,u 8,u 9,u 10,u 11,u 12,u 13,u 14,u 15,u 16,u 17,u 18,u 19,u 20,u 21,u 22,u 23,u 24,u 25,u 26,u 27,u 28,u 29,u 30,u 31,u 32,u 33,u 34,u 35]:=A;clear A;subst a1;change u 0=_ at O;change u 3=_ at U;change u 9=_ at W;change u 10=_ at P;change u 11=_ at Q;rw [O,U,W,P,Q];clear O U W P Q z;by_cases d0:c<f
 ·have X:(c:Int)<(f:Int):=by omega
  have m:c<us.length:=by rw [o.out];exact d0
  obtain⟨l,s,rfl,c8,y⟩:=b4.out c m;obtain⟨d5,d4,B,a2⟩:=(a5.out c m).slice;rw [B] at y;have r:=Eg m;have k:=Q6g (us:=us) (c+1);rw [C.out] at k;have n:(Um us (c+1)).length=(Um us c).length+us[c].length:=by rw [r,List.length_append]
  rw [n] at k;obtain⟨L,J⟩:=zE ((Um us c).length);obtain⟨K,I⟩:=zE (us[c].length);rw [J,I] at k;rw [J];rw [I] at y;have d8:¬ ((L:Int)+(K:Int)<0):=by omega
  have b8:Hid ((Um us (c+1)).length=L+K):=Zh (by rw [n,J,I]);clear r n J I B a2;go_wp2;exact⟨⟨c+1,by omega,by rw [b8.out];simp,by simp⟩,nz⟩
 obtain rfl:c=f:=by omega
 have X:¬ (c:Int)<(c:Int):=by omega
 have q:(Um us c)=F:=(Q2b (by rw [o.out];exact Nat.le_refl _)).trans C.out;rw [q];clear q;obtain⟨N,Z⟩:=zE F.length;rw [Z] at d1 ⊢;have E:=Zh Z;clear Z
 go_wp2_with (go_at_call 261;refine(Qdm N oz _).mono ?_;rintro e d3 ⟨v,t,rfl,g,j⟩)
 refine wp_loop (fun a p=>∃(d:Nat) (v:Option Addr) (t:Nat),d<=c/\a.defers=[]/\(a.tmps.size=36/\a.tmps.getD 6 undef=.slice v (Um us d).length t/\a.tmps.getD 25 undef=.slice ao c cap/\a.tmps.getD 26 undef=.int .i64 c/\a.tmps.getD 27 undef=.int .i64 d)/\p.ownsRow w.heap.size 95 2 (.slice v (Um us d).length t) (Um us d).length (Za (Um us d))/\Ext w p)
  (fun a _=>c - (intOf (a.tmps.getD 27 undef)).toNat) ?_ ?_
 ·exact⟨0,v,t,by omega,rfl,⟨rfl,rfl,rfl,rfl,rfl⟩,g,j⟩
 clear g j d3 v t;rintro⟨a3,_⟩ p ⟨d,v,t,d7,a0,⟨z,V,R,S,T⟩,g,j⟩;subst a0;obtain⟨a4,A⟩:=Qv z;obtain⟨u,rfl⟩:∃ x,x=a4:=⟨_,rfl⟩;have a1:a3=#[u 0,u 1,u 2,u 3,u 4,u 5,u 6,u 7,u 8,u 9,u 10,u 11,u 12,u 13,u 14,u 15,u 16,u 17,u 18,u 19,u 20,u 21,u 22,u 23,u 24,u 25,u 26,u 27,u 28,u 29,u 30,u 31,u 32,u 33,u 34,u 35]:=A;clear A;subst a1;change u 6=_ at V;change u 25=_ at R;change u 26=_ at S;change u 27=_ at T;rw [V,R,S,T];clear V R S T z;by_cases c9:d<c
 ·have X:(d:Int)<(c:Int):=by omega
  have m:d<us.length:=by rw [o.out];exact c9
  obtain⟨l,s,rfl,c8,b5⟩:=b4.out d m;have y:=j.cell_some b5 (fun h=>h);have H:=(a5.out d m).ext j;obtain⟨d5,d4,B,a2⟩:=H.slice;rw [B] at y H;have r:=Eg m;have k:=Q6g (us:=us) (d+1);rw [C.out] at k;have n:(Um us (d+1)).length=(Um us d).length+us[d].length:=by rw [r,List.length_append]
  rw [n,E.out] at k;obtain⟨M,D,a6⟩:=Zh3 r n H.1;have c7:=j.size;clear r n B a2 H b5;obtain⟨a7,b2⟩:=zE (Um us d);obtain⟨a8,b3⟩:=zE (us[d]);rw [b2] at g k M D ⊢;rw [b3] at y k M D a6;clear b2 b3
  go_wp2_with (at_builtin;refine Jo rfl (.tmp 31) (.tmp 32) 99 rfl w.heap.size 95 _ 2 8 Tryz.underlying99 @Xt rfl zd _ _ _ rfl g _ _ _ _ rfl a6.out (Uz _) (by unfold maxLen;omega) oz c7 ?_;intro a9 b0 d9 c5 c6 d6)
  refine⟨⟨d+1,a9,b0,by omega,tz,⟨rfl,by rw [D.out];rfl,rfl,rfl,rfl⟩,?_,?_⟩,nz⟩
  ·rw [D.out,M.out,Zn];exact c5
  ·exact j.after c6 (fun b hb e=>by have:=(g.lt _ e).1;omega)
 ·obtain rfl:d=c:=by omega
  have X:¬ (d:Int)<(d:Int):=by omega
  have q:(Um us d)=F:=(Q2b (by rw [o.out];exact Nat.le_refl _)).trans C.out;rw [q,E.out] at g;rw [q,E.out];have b9:=Zh g;clear g q;go_wp2;go_ret;exact⟨_,rfl,by rw [E.out];exact b9.out,j⟩
theorem Fk{P:Program}{w:World}{o:Oper}{a:Act}{K:Act->World->Prop}{Q:Exit->Act->World->Prop}(s x:Operand)(t:TypeId)
  (B:o.op=.call { callee:=.builtin .append,args:=#[s,x],argTypes:=#[t,t] })
  (base:Nat) (e:TypeId) (z:Value) (size g:Nat) (l:P.underlying t=some (.slice e)) (y:(P.info? e).map (fun i=>(i.zero,i.size,i.bytes))=some (some z,size,g))
  (X:z.cells.size=size) (W:0<size)
  (v:Value) (n:Nat) (xs:List Value) (C:a.eval s=v) (f:w.ownsRow base e size v n xs)
  (A:Option Addr) (m c:Nat) (d:List Value) (E:a.eval x=.slice A m c) (U:Rd w (.slice A m c) m size d) (L:∀ u∈d,u.oneCell'=true)
  (M:n+m<=maxLen) (O:(n+m)*g<=140737488355328) (N:base<=w.heap.size)
  (h:∀ ao c' w',w'.ownsRow base e size (.slice ao (n+m) c') (n+m) (xs++d)->Q0 (fun b=>v.ownBlock=some b) w w'->((Value.slice ao (n+m) c').ownBlock=v.ownBlock\/(Value.slice ao (n+m) c').ownBlock=some w.heap.size)->K (a.put o.dst (.slice ao (n+m) c')) w'):Oper.wp P o a w K Q:=by
 obtain⟨q,_,ao,H,D,F⟩:=U;simp only [zV,true_and] at D;obtain⟨rfl,rfl⟩:=D;rcases A with _ | G
 ·have k:m=0:=by
   apply Nat.le_antisymm _ (Nat.zero_le _);apply Nat.le_of_not_lt;intro J;obtain⟨_,_,p,_⟩:=F J;cases p
  subst k;obtain rfl:d=[]:=List.eq_nil_of_length_eq_zero (by simpa using q);obtain⟨i,r,a1,a0,Z⟩:=info_parts y;have V:(Builtin.append_ #[t,t] o.type #[v,.slice none 0 c]).run P w=.ok v w:=by
   rcases f.2 with ⟨rfl,rfl⟩ | ⟨I,H,Y,rfl,_,_,T,_⟩
   ·simp [Builtin.append_,run_underlying l,sizeOf,typeInfo,r,Builtin.lenOf,Builtin.firstCells]
   ·simp [Builtin.append_,run_underlying l,sizeOf,typeInfo,r,Builtin.lenOf,Builtin.firstCells,T,storeCells]
  unfold Oper.wp execOp;simp only [B,resolve,invoke,builtin,Sem.run_bind,Sem.run_pure,Result.andThen_ok,List.map_toArray,List.map_cons,List.map_nil,C,E,V];obtain⟨ao,c',rfl⟩:=Zd f;exact h ao c' w (by simpa using f) (Q0.refl _ _) (.inl rfl)
 ·refine Yj s x t B base e z size g l y X W v n xs C f G m c d E q (fun j u hj=>?_) L M O N h;have S:j<m*size:=by rw [<-q];exact(List.getElem?_eq_some_iff.1 hj).1
  have k:0<m:=by
   apply Nat.pos_of_ne_zero;rintro rfl;omega
  obtain⟨I,a2,p,_,R⟩:=F k;cases p;rw [Q9p,R j S,List.getD_eq_getElem?_getD,hj];rfl
theorem Mn{W:World}{ao:Option Addr}{n c k:Nat}{u:Wd}(h:Q6 W (.slice ao n c) u) (a:u.length=k):n=k/\Rd W (.slice ao k c) k 2 (Za u):=by
 obtain⟨d,e,b,_⟩:=h.slice;cases b;subst a;exact⟨rfl,h.1⟩
end Go.Proofs.YtfdlhlghcbeblaaGreatDoor
namespace Go.Ab
def Qh0(n:Nat):List Int:=(List.range n).map fun(i:Nat)=>(i:Int)
def Qhi(F:List Int):Bool:=decide (F=Qh0 F.length)
def Qh3(F:List Int):Bool:=(List.range F.length).all fun i=>F.contains (i:Int)
def Qhy(F:List Int):Int:=if Qhi F=true then 1 else if Qh3 F=true then 4 else 5
end Go.Ab
namespace Go.Ab
open Go.RowKit
def Zq(L:List Int):List Value:=L.map fun x=>Value.int .i64 x
theorem Lb(L:List Int){i:Nat}(h:i<L.length):(Zq L)[i]?=some (.int .i64 (L.getD i 0)):=by
 unfold Zq;rw [List.getElem?_map,List.getElem?_eq_getElem h,List.getD_eq_getElem?_getD,List.getElem?_eq_getElem h];rfl
theorem Nd(L:List Int)(i:Nat)(x:Int):(Zq L).set i (.int .i64 x)=Zq (L.set i x):=by unfold Zq;rw [List.map_set]
theorem Q5l(L:List Int)(x:Int):Zq (L++[x])=Zq L++[.int .i64 x]:=by simp [Zq]
def Qhp(L:List Int):Bool:=decide (∀ i,i<L.length->i+1<L.length->L.getD i 0<=L.getD (i+1) 0)
theorem Q3a{L:List Int}(h:∀ p q,p<q->q<L.length->L.getD p 0<=L.getD q 0):L.Pairwise (·<=·):=by
 rw [List.pairwise_iff_getElem];intro d e b a c;have:=h d e c a
 rwa [List.getD_eq_getElem?_getD,List.getElem?_eq_getElem b,List.getD_eq_getElem?_getD,List.getElem?_eq_getElem a] at this
def Ho(X:List Int)(j:Nat):List Int:=(X.set (j+1) (X.getD j 0)).set j (X.getD (j+1) 0)
theorem Q0o(X:List Int){j:Nat}(h:j+1<X.length)(k:Nat):(Ho X j).getD k 0=if k=j then X.getD (j+1) 0 else if k=j+1 then X.getD j 0 else X.getD k 0:=by
 unfold Ho;rw [List.getD_eq_getElem?_getD,List.getElem?_set];by_cases a:j=k
 ·subst a;rw [if_pos rfl,if_pos rfl,List.length_set,if_pos oz];rfl
 ·rw [if_neg a,if_neg (fun e=>a e.symm),List.getElem?_set];by_cases b:j+1=k
  ·subst b;rw [if_pos rfl,if_pos rfl,if_pos h];rfl
  ·rw [if_neg b,if_neg (fun e=>b e.symm),List.getD_eq_getElem?_getD]
theorem Q7b(X:List Int){j:Nat}(h:j+1<X.length):(Ho X j).Perm X:=by
 have a:X.getD j 0=X[j]:=by rw [List.getD_eq_getElem?_getD,List.getElem?_eq_getElem oz];rfl
 have b:X.getD (j+1) 0=X[j+1]:=by rw [List.getD_eq_getElem?_getD,List.getElem?_eq_getElem h];rfl
 unfold Ho;rw [a,b];exact List.set_set_perm h (show j<X.length by omega)
def Dd(X:List Int)(i j:Nat):Prop:=∀ p q,p<q->q<=i->q≠j->X.getD p 0<=X.getD q 0
theorem Dd.start{X:List Int}{i:Nat}(h:∀ p q,p<q->q<i->X.getD p 0<=X.getD q 0):Dd X i i:=fun p q h1 h2 h3=>h p q h1 oz
theorem Dd.swap{X:List Int}{i j:Nat}(h:Dd X i (j+1)) (l:j+1<=i) (m:i<X.length) (n:X.getD (j+1) 0<X.getD j 0):Dd (Ho X j) i j:=by
 intro a d g e k;rw [Q0o X oz,Q0o X oz,if_neg k];by_cases c:d=j+1
 ·subst c;rw [if_pos rfl];by_cases b:a=j
  ·subst b;rw [if_pos rfl];omega
  ·rw [if_neg b,if_neg oz];exact h a j oz oz oz
 ·rw [if_neg c];by_cases b:a=j
  ·subst b;rw [if_pos rfl];exact h (a+1) d oz e c
  ·rw [if_neg b];by_cases f:a=j+1
   ·subst f;rw [if_pos rfl];exact h j d oz e c
   ·rw [if_neg f];exact h a d g e c
theorem Dd.stop{X:List Int}{i j:Nat}(h:Dd X i j)(f:j<=i)(d:j=0\/∃ k,j=k+1/\¬ X.getD (k+1) 0<X.getD k 0):∀ p q,p<q->q<i+1->X.getD p 0<=X.getD q 0:=by
 intro p q b e;by_cases a:q=j
 ·subst a;rcases d with rfl | ⟨k,rfl,g⟩
  ·omega
  ·by_cases c:p=k
   ·subst c;omega
   ·exact Int.le_trans (h p k oz oz oz) oz
 ·exact h p q b oz a
end Go.Ab
namespace Go.Ab
open Go.RowKit
section
variable {l n:Nat} {P:Program} {ops:Array Oper} {Q:Exit->Act->World->Prop} {md:Region.Mode} {S:World->Prop} {Lt:List Nat}
def U2(l n:Nat)(P:Program)(md:Region.Mode)(ops:Array Oper)(Q:Exit->Act->World->Prop)(S:World->Prop)(Lt:List Nat):Nat->Array Bool->Act->World->Prop
 | 0,listed,a,w=>Region.ready md ops listed=[]/\Q .normal a w
 | fuel+1,listed,a,w=>
  (Region.ready md ops listed=[]->Q .normal a w) /\
  ∀ i∈Region.ready md ops listed,if Lt.contains i=true then wpOpIn (Fence.wide.inRound l) n P ops Q i (U2 l n P md ops Q S Lt fuel (listed.setIfInBounds i true)) a w
   else wpOp P ops Q i (fun a' w'=>S w'/\U2 l n P md ops Q S Lt fuel (listed.setIfInBounds i true) a' w') a w
theorem Le(hd:Vk ops=true)(hQ:¬ LetsOut Q):∀(fuel:Nat) (listed:Array Bool) (a:Act) (w:World),U2 l n P md ops Q S Lt fuel listed a w->wpAnyIn (Fence.wide.inRound l) n P md ops Q fuel listed a w
 | 0,_,_,_,h=>h
 | fuel+1,_,_,_,h=>⟨h.1,fun i hi=>by
  have h2:=h.2 i hi;by_cases hl:Lt.contains i=true
  ·rw [if_pos hl] at h2;exact wpOpIn_mono (fun a w h=>Le hd hQ fuel _ a w h) h2
  ·rw [if_neg hl] at h2;exact Ml hd hQ (fun a w h=>Le hd hQ fuel _ a w h.2) h2⟩
theorem Q32{i:Nat}{g:Oper}{v:Value}(t:ops[i]?=some g)(K:Lt.contains i=false)(E:∀(j:Nat) (o:Oper) cs b,ops[j]?=some o->o.op≠.select cs b)
  (G:∀ c a w,Q (.panic c) (a.put g.dst v) w->Q (.panic c) a w) (M:∀ j,Lt.contains j=true->Fc md ops i ops.size j=true) :
  ∀(fuel:Nat) (listed:Array Bool) (a:Act) (w:World),Li md ops listed ->
   (∀ j oj,ops[j]?=some oj->j≠i->listed.getD j true=false->(∀ e∈oj.after,Region.binds md e=true->e.on≠i)->g.apart ops oj=true) ->
   i∈Region.ready md ops listed->YieldsIf P ops S g v a->S w ->
   U2 l n P md ops Q S Lt fuel (listed.setIfInBounds i true) (a.put g.dst v) w->U2 l n P md ops Q S Lt (fuel+1) listed a w:=by
 have A:¬ Lt.contains i=true:=by rw [K];decide
 intro fuel
 induction fuel with
 | zero=>
  intro listed a w _ _ f r q m;refine⟨fun h=>(by rw [h] at f;cases f),fun j hj=>?_⟩;by_cases d:j=i
  ·subst d;rw [if_neg A];exact r.wpOp t q ⟨q,m⟩
  ·have:=ready_mono hj d;rw [m.1] at this;cases this
 | succ fuel ih=>
  intro listed a w y z f r q m;refine⟨fun h=>(by rw [h] at f;cases f),fun j hj=>?_⟩;by_cases d:j=i
  ·subst d;rw [if_neg A];exact r.wpOp t q ⟨q,m⟩
  ·have p:=m.2 j (ready_mono hj d);have B:listed.getD i false=false:=by
    have x:=(mem_ready.1 f).1;rcases Nat.lt_or_ge i listed.size with s | s
    ·simp [s] at x ⊢;exact x
    ·simp [Array.getElem?_eq_none s]
   have I:Lt.contains j=false:=by
    cases hl:Lt.contains j with
    | false=>rfl
    | true=>exact absurd hj (Po y B _ _ (M j hl)).2
   have L:¬ Lt.contains j=true:=by rw [I];decide
   rw [if_neg L] at p ⊢;obtain⟨D,oj,u,H⟩:=mem_ready.1 hj
   have N:∀ e∈oj.after,Region.binds md e=true->e.on≠i:=fun e he hb heq=>by
    have p:=H e he hb;rw [heq,B] at p;cases p
   have F:=wpOp_putIf u (z j oj u d D N) (fun cs b=>E i g cs b t) (fun cs b=>E j oj cs b u) G r p
   have J:∀ k ok,ops[k]?=some ok->k≠i->(listed.setIfInBounds j true).getD k true=false ->
     (∀ e∈ok.after,Region.binds md e=true->e.on≠i)->g.apart ops ok=true:=fun k ok hk hki hun hno=>by
    refine z k ok hk hki ?_ hno;by_cases C:j=k
    ·subst C;exact D
    ·rw [getD_set_ne true C] at hun;exact hun
   refine wpOp_mono (fun a' w' h3=>⟨h3.2.1,ih (listed.setIfInBounds j true) a' w' (y.step hj) J (ready_mono f (Ne.symm d)) h3.1 h3.2.1 ?_⟩) F;rw [Array.setIfInBounds_comm _ _ d];exact h3.2.2
theorem Sj{i:Nat}{oi:Oper}{v:Value}{fuel:Nat}{listed:Array Bool}{a:Act}{w:World}(hi:ops[i]?=some oi)(hil:Lt.contains i=false)
  (hs:Region.noSelect ops=true) (hf:Region.free md ops listed i=true) (hr:(Region.ready md ops listed).contains i=true) (hc:Mt md ops listed=true) (hl:(Lt.all fun j=>Fc md ops i ops.size j)=true)
  (hQ:∀ c a w,Q (.panic c) (a.put oi.dst v) w->Q (.panic c) a w) (hy:YieldsIf P ops S oi v a) (hS:S w)
  (h:U2 l n P md ops Q S Lt fuel (listed.setIfInBounds i true) (a.put oi.dst v) w):U2 l n P md ops Q S Lt (fuel+1) listed a w:=
 Q32 hi hil (Region.noSelect_spec hs) hQ (fun j hj=>List.all_eq_true.1 hl j (by simpa using hj)) fuel listed a w (R0 hc) (Region.free_spec hi hf) (by simpa using hr) hy hS h
def Yc(l n:Nat)(P:Program)(md:Region.Mode)(ops:Array Oper)(Q:Exit->Act->World->Prop)(S:World->Prop)(Lt:List Nat)(fuel:Nat)(listed:Array Bool)(a:Act)(w:World)(rs:List Nat):Prop:=
 ∀ i∈rs,if Lt.contains i=true then wpOpIn (Fence.wide.inRound l) n P ops Q i (U2 l n P md ops Q S Lt fuel (listed.setIfInBounds i true)) a w
   else wpOp P ops Q i (fun a' w'=>S w'/\U2 l n P md ops Q S Lt fuel (listed.setIfInBounds i true) a' w') a w
theorem Yc.nil{fuel:Nat}{listed:Array Bool}{a:Act}{w:World}:Yc l n P md ops Q S Lt fuel listed a w []:=fun _ h=>by cases h
theorem Yc.cons{fuel:Nat}{listed:Array Bool}{a:Act}{w:World}{i:Nat}{o:Oper}{rs:List Nat}(ho:ops[i]?=some o)(hl:Lt.contains i=false)
  (h:∀ K':Act->World->Prop,Go.Shut (∀ a w,S w->(S w->U2 l n P md ops Q S Lt fuel (listed.setIfInBounds i true) a w)->K' a w)->if Region.wanted o (yielded ops a.tmps)=true then Oper.wp P o a w K' Q else K' (a.put o.dst undef) w)
  (hs:Yc l n P md ops Q S Lt fuel listed a w rs):Yc l n P md ops Q S Lt fuel listed a w (i::rs):=fun j hj=>by
 rcases List.mem_cons.1 hj with rfl | hj
 ·rw [if_neg (by rw [hl];decide)];exact wpOp_step ho (fun K' hK=>h K' (fun a w hS hW=>hK a w ⟨hS,hW hS⟩))
 ·exact hs j hj
theorem Yc.late{fuel:Nat}{listed:Array Bool}{a:Act}{w:World}{i:Nat}{o:Oper}{rs:List Nat}(ho:ops[i]?=some o)(hl:Lt.contains i=true)
  (h:∀ K':Act->World->Prop,Go.Shut (∀ a w,U2 l n P md ops Q S Lt fuel (listed.setIfInBounds i true) a w->K' a w)->if Region.wanted o (yielded ops a.tmps)=true then Oper.wpIn (Fence.wide.inRound l) n P o a w K' Q else(∀ f,o.about P w a.eval=some f->(Fence.wide.inRound l).fn f)/\K' (a.put o.dst undef) w)
  (hs:Yc l n P md ops Q S Lt fuel listed a w rs):Yc l n P md ops Q S Lt fuel listed a w (i::rs):=fun j hj=>by
 rcases List.mem_cons.1 hj with rfl | hj
 ·rw [if_pos hl];exact wpOpIn_step ho (fun K' hK=>h K' hK)
 ·exact hs j hj
theorem Ht{rs:List Nat}{fuel:Nat}{listed:Array Bool}{a:Act}{w:World}(hr:Region.ready md ops listed=rs)(hne:rs≠[])
  (h:Yc l n P md ops Q S Lt fuel listed a w rs):U2 l n P md ops Q S Lt (fuel+1) listed a w:=⟨fun h0=>absurd (hr ▸ h0) hne,hr ▸ h⟩
theorem Se{listed:Array Bool}{a:Act}{w:World}(hr:Region.ready md ops listed=[])(h:Q .normal a w) :
  ∀ fuel,U2 l n P md ops Q S Lt fuel listed a w
 | 0=>⟨hr,h⟩
 | _+1=>⟨fun _=>h,by rw [hr];simp⟩
theorem S2{id:Nat}{a:Act}{w:World}(Lt:List Nat)(hm:P.follows .mixedOrders=true)(hd:Vk ops=true)(hQ:¬ LetsOut Q)(hS:S w.drew)
  (h:S w.drew->U2 l n P .any ops Q S Lt ops.size (Array.replicate ops.size false) a w.drew):(Code.region id ops true).wpIn (Fence.wide.inRound l) n P Q a w:=
 wpIn_region_any hm (Le hd hQ _ _ _ _ (h hS))
end
end Go.Ab
namespace Go.Proofs.YtfdlhlghcbeblaaGreatDoor
open Go.RowKit Go.Ab
theorem Te{P:Program}(w:World)(d:Nat)(t e:TypeId)(k:IntKind)(b c f g:Int)(s:P.underlying t=some (.array 2 e)) (i:P.underlying e=some (.int k)) (m:(P.info? e).map (·.size)=some 1) :
  (Op.equalIn (d+2) t (.agg #[.int k b,.int k c]) (.agg #[.int k f,.int k g])).run P w=.ok (b == f && c == g) w:=by
 have o:=run_equalIn_int w d e k k b f i;have l:=run_equalIn_int w d e k k c g i;obtain⟨a,q,r⟩:∃ a,P.info? e=some a/\a.size=1:=by
  cases h:P.info? e with
  | none=>simp [h] at m
  | some a=>exact⟨a,rfl,by simpa [h] using m⟩
 have p:(isAgg e).run P w=.ok false w:=by simp [isAgg,run_underlying i]
 rw [Op.equalIn];simp only [Sem.run_bind,run_underlying s,Result.andThen_ok];simp [Std.Legacy.Range.forIn_eq_forIn_range',sizeOf,typeInfo,q,r,List.range',part,o,p];by_cases j:b=f
 ·by_cases n:c=g
  ·subst n;simp [j,l]
  ·simp [j,n,l]
 ·simp [j]
def zs(l:List Nat):List Int:=l.map fun(x:Nat)=>(x:Int)
def Sx(l:List Int):List Value:=l.map (Value.int .i64)
theorem Q0a(l:List Int)(i:Nat)(h:i<l.length):(Sx l).getD i undef=.int .i64 (l.getD i 0):=by
 simp [Sx,List.getD_eq_getElem?_getD,h]
def prs(l:List (Int × Int)):List Value:=l.flatMap fun p=>[Value.int .i64 p.1,Value.int .i64 p.2]
theorem Nb(p:Int × Int)(l:List (Int × Int)):prs (p::l)=.int .i64 p.1::.int .i64 p.2::prs l:=rfl
theorem Nf(l m:List (Int × Int)):prs (l++m)=prs l++prs m:=by simp [prs]
theorem Rj:∀(l:List (Int × Int)) (i:Nat),i<l.length->(prs l).getD (i*2) undef=.int .i64 (l.getD i (0,0)).1
 | [],_,h=>by simp at h
 | p::l,0,_=>by simp [Nb]
 | p::l,i+1,h=>by
  rw [Nb,show (i+1)*2=i*2+1+1 by omega,List.getD_cons_succ,List.getD_cons_succ,List.getD_cons_succ];exact Rj l i (by simpa using h)
theorem Rq:∀(l:List (Int × Int)) (i:Nat),i<l.length->(prs l).getD (i*2+1) undef=.int .i64 (l.getD i (0,0)).2
 | [],_,h=>by simp at h
 | p::l,0,_=>by simp [Nb]
 | p::l,i+1,h=>by
  rw [Nb,show (i+1)*2+1=i*2+1+1+1 by omega,List.getD_cons_succ,List.getD_cons_succ,List.getD_cons_succ];exact Rq l i (by simpa using h)
end Go.Proofs.YtfdlhlghcbeblaaGreatDoor
namespace Go.Ab
def bfR(n:Nat)(R:Nat->Nat->Bool)(x:Nat):Nat:=Yt n (fun a=>R a x)
def afR(n:Nat)(R:Nat->Nat->Bool)(x:Nat):Nat:=Yt n (fun b=>R x b)
theorem Qbz{n:Nat}(h:n<=64):2 ^ n<=18446744073709551616:=Nat.pow_le_pow_right (n:=2) (by decide) h
theorem Q0n{n:Nat}(h:n<=64)(p:Nat->Bool):Yt n p<18446744073709551616:=Nat.lt_of_lt_of_le (Hj n p) (Qbz h)
structure Rel (n:Nat) (R:Nat->Nat->Bool):Prop where
 dom:∀ a b,R a b=true->a<n/\b<n
 irr:∀ a,R a a=false
 tr:∀ a b c,R a b=true->R b c=true->R a c=true
theorem Rel.empty(n:Nat):Rel n (fun _ _=>false):=⟨by simp,by simp,by simp⟩
theorem Rel.asym{n:Nat}{R:Nat->Nat->Bool}(h:Rel n R){a b:Nat}(c:R a b=true):R b a=false:=by
 cases hba:R b a with
 | false=>rfl
 | true=>have:=h.tr a b a c hba;rw [h.irr] at this;cases this
def W4(R:Nat->Nat->Bool)(x y:Nat):Nat->Nat->Bool:=fun i k=>R i k || ((i == x || R i x) && (k == y || R y k))
theorem Qdx{n:Nat}{R:Nat->Nat->Bool}(h:Rel n R){x y:Nat}(k:x<n)(m:y<n)(l:x≠y)(i:R y x=false):Rel n (W4 R x y):=by
 constructor
 ·intro d j c;simp only [W4,Bool.or_eq_true,Bool.and_eq_true,beq_iff_eq] at c;rcases c with c | ⟨b,a⟩
  ·exact h.dom d j c
  ·constructor
   ·rcases b with rfl | b
    ·exact k
    ·exact(h.dom _ _ b).1
   ·rcases a with rfl | a
    ·exact m
    ·exact(h.dom _ _ a).2
 ·intro d;cases e:W4 R x y d d with
  | false=>rfl
  | true=>
   simp only [W4,Bool.or_eq_true,Bool.and_eq_true,beq_iff_eq] at e;rcases e with e | ⟨b,a⟩
   ·rw [h.irr] at e;cases e
   ·rcases b with rfl | b <;> rcases a with a | a
    ·exact absurd a l
    ·rw [i] at a;cases a
    ·subst a;rw [i] at b;cases b
    ·have:=h.tr _ _ _ a b;rw [i] at this;cases this
 ·intro d j o c f;simp only [W4,Bool.or_eq_true,Bool.and_eq_true,beq_iff_eq] at *;rcases c with c | ⟨b,a⟩ <;> rcases f with f | ⟨g,h4⟩
  ·exact .inl (h.tr _ _ _ c f)
  ·refine .inr ⟨?_,h4⟩;rcases g with rfl | g
   ·exact .inr c
   ·exact .inr (h.tr _ _ _ c g)
  ·refine .inr ⟨b,?_⟩;rcases a with rfl | a
   ·exact .inr f
   ·exact .inr (h.tr _ _ _ a f)
  ·exact .inr ⟨b,h4⟩
theorem Hw{n:Nat}(a:n<=64)(p:Nat->Bool)(i:Nat):i∈evs (Yt n p)↔i<n/\p i=true:=by
 rw [T4 n a];simp
theorem Qfp{n:Nat}(e:n<=64){R:Nat->Nat->Bool}(h:Rel n R){x y:Nat}(f:x<n)(o:y<n) :
  (fun i=>if i∈evs (bfR n R x ||| 2 ^ x) then afR n R i ||| (afR n R y ||| 2 ^ y) else afR n R i)=afR n (W4 R x y):=by
 funext i
 have g:bfR n R x ||| 2 ^ x=Yt n (fun a=>R a x || a == x):=by rw [bfR,Xp f,Gl]
 have j:afR n R y ||| 2 ^ y=Yt n (fun b=>R y b || b == y):=by rw [afR,Xp o,Gl]
 rw [g,j];by_cases d:i∈evs (Yt n (fun a=>R a x || a == x))
 ·rw [if_pos d];obtain⟨_,m⟩:=(Hw e _ _).1 d;rw [afR,Gl];refine X7 fun k _=>?_
  simp only [W4];have:(i == x || R i x)=true:=by rw [Bool.or_comm];exact m
  rw [this,Bool.true_and,Bool.or_comm (k == y)]
 ·rw [if_neg d];refine X7 fun k _=>?_
  have l:¬ (i<n/\(R i x || i == x)=true):=fun c=>d ((Hw e _ _).2 c);simp only [W4];have:(i == x || R i x)=false:=by
   cases c:(i == x || R i x) with
   | false=>rfl
   | true=>
    refine absurd ⟨?_,by rw [Bool.or_comm];exact c⟩ l;simp only [Bool.or_eq_true,beq_iff_eq] at c;rcases c with rfl | c
    ·exact f
    ·exact(h.dom _ _ c).1
  rw [this];simp
theorem Qfw{n:Nat}(e:n<=64){R:Nat->Nat->Bool}(h:Rel n R){x y:Nat}(o:x<n)(f:y<n) :
  (fun i=>if i∈evs (afR n R y ||| 2 ^ y) then bfR n R i ||| (bfR n R x ||| 2 ^ x) else bfR n R i)=bfR n (W4 R x y):=by
 funext i
 have g:bfR n R x ||| 2 ^ x=Yt n (fun a=>R a x || a == x):=by rw [bfR,Xp o,Gl]
 have j:afR n R y ||| 2 ^ y=Yt n (fun b=>R y b || b == y):=by rw [afR,Xp f,Gl]
 rw [g,j];by_cases d:i∈evs (Yt n (fun a=>R y a || a == y))
 ·rw [if_pos d];obtain⟨_,m⟩:=(Hw e _ _).1 d;rw [bfR,Gl];refine X7 fun k _=>?_
  simp only [W4];have:(i == y || R y i)=true:=by rw [Bool.or_comm];exact m
  rw [this,Bool.and_true,Bool.or_comm (k == x)]
 ·rw [if_neg d];refine X7 fun k _=>?_
  have l:¬ (i<n/\(R y i || i == y)=true):=fun c=>d ((Hw e _ _).2 c);simp only [W4];have:(i == y || R y i)=false:=by
   cases c:(i == y || R y i) with
   | false=>rfl
   | true=>
    refine absurd ⟨?_,by rw [Bool.or_comm];exact c⟩ l;simp only [Bool.or_eq_true,beq_iff_eq] at c;rcases c with rfl | c
    ·exact f
    ·exact(h.dom _ _ c).2
  rw [this];simp
def rdy(n:Nat)(R:Nat->Nat->Bool)(l:List Nat)(x:Nat):Bool:=!l.contains x && (List.range n).all fun a=>!R a x || l.contains a
def Qh7(n:Nat)(R:Nat->Nat->Bool)(l:List Nat):Option Nat:=(List.range n).find? (rdy n R l)
def Q5w(n:Nat)(R:Nat->Nat->Bool):Nat->List Nat->List Nat
 | 0,l=>l
 | k+1,l=>match Qh7 n R l with | some x=>Q5w n R k (l++[x]) | none=>l
def Qhu(n:Nat)(R:Nat->Nat->Bool):List Nat:=Q5w n R n []
end Go.Ab
namespace Go.Ab
open Go.RowKit
def Qhz(l:Q5)(cs:List Value):Prop:=∃(io:Option Addr) (ic:Nat),cs[15]?=some (.slice io l.ifs.length ic)/\l.ifs.length<=ic
end Go.Ab
