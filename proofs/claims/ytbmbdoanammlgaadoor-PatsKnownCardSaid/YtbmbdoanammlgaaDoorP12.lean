/- pats.relate. -/
import Derived.Test.YtbmbdoanammlgaaDoorP11
set_option maxRecDepth 100000
set_option maxHeartbeats 8000000
namespace Go.Proofs.YtbmbdoanammlgaaDoor
open Go.RowKit Go.Ab
attribute [local go_sem] Oper.semAt_some Zx Z4
def Y9(p:Pat)(ws:Wd):Int:=if Ze p=0 then(if 32<ws.length then 11 else if X5 ws=true then 0 else 14) else Ze p
def Y0(p:Pat)(ws:Wd):Qf:=if Y9 p ws=0 then Yn ws p else noB
theorem Vl{a:Func}{p u:Tmp}(h:a.results=#[.cell p 58,.tmp u]){tmps:Array Value}{w:World}{g:Nat}{f:Nat->Nat}(c:tmps.getD p undef=.pointer (some ⟨g,0,none⟩)) (b:Q8 w g f) :
  (results a tmps).run Tryd.prog w=.ok (.tuple #[.agg (Q4 f),tmps.getD u undef]) w:=by
 have d:tmps[p]?.getD undef=.pointer (some ⟨g,0,none⟩):=by simpa using c
 simp [results,h,d,asAddr,run_loadVar_row w g _ _ _ _ _ b Tryd.underlying58 rfl (Tryd.relInfo f)]
theorem J1{K:Nat->Prop}{w:World}{p:Pat}{cs:List Value}{v:Value}{ws:Wd}(J:Qc K w p cs)(b0:∀ g,K g->g<w.heap.size)(M:Qw w v ws)(X:Tab w) :
  Calls Tryd.prog 23 #[.agg cs.toArray,v] w fun e w'=>e=.returned (.tuple #[.agg (Q4 (Q3 (Y0 p ws))),.int .i64 (Y9 p ws)])/\Ext w w':=by
 have b2:=fun(c:World) (hE:Ext w c)=>Zp (K:=K) (J.ext hE) (fun g hg=>Nat.lt_of_lt_of_le (b0 g hg) hE.size) (X.keep hE id);have b3:=fun(c:World) (hE:Ext w c)=>Vt p K c cs (J.ext hE);have b1:=fun(c:World) (hE:Ext w c)=>Wa (M.ext hE);have a5:=Zh M;have c2:=Zh X;obtain⟨s,t,rfl,d2,d1,_⟩:=Qj J;obtain⟨d9,d8,rfl,d0⟩:=M.slice;clear J d2 d1 M X b0;obtain⟨S,a2,R⟩:=Zh3 b2 b3 b1;clear b2 b3 b1;obtain⟨r,N⟩:=zE (Ze p);obtain⟨a6,I⟩:=zE (X5 ws);obtain⟨q,H⟩:=zE ws.length;have d:Hid (Y9 p ws=if r=0 then(if 32<q then 11 else if a6=true then 0 else 14) else r):=Zh (by unfold Y9;rw [N,I,H]);rw [N] at S;rw [I] at R;rw [H] at R a5 d0 ⊢;obtain⟨c3,d7,c1⟩:=Zh3 N I H;clear N I H;unfold Q2 at S a2 ⊢;have e2:=Zg;have e3:=Qi noB;have e4:=Z6 noB;go_enter Tryd.func23,Tryd.ntmps23;go_wp2_with fail;obtain⟨a,x⟩:=zE w.heap.size;have a0:((w.alloc (.cells #[.int .i64 p.k,.int .u32 (p.pl:Int),.int .u32 (p.mi:Int),.bool p.nt,.int .i64 p.mn,.int .i64 p.mx,.slice s p.l.length t] 27)).alloc (.cells (Q6 noB) 58)).heap[a]?=some (.cells #[.int .i64 p.k,.int .u32 (p.pl:Int),.int .u32 (p.mi:Int),.bool p.nt,.int .i64 p.mn,.int .i64 p.mx,.slice s p.l.length t] 27 (0,0)):=by
  subst x;exact Qs (Q9 rfl)
 have Z:Q8 ((w.alloc (.cells #[.int .i64 p.k,.int .u32 (p.pl:Int),.int .u32 (p.mi:Int),.bool p.nt,.int .i64 p.mn,.int .i64 p.mx,.slice s p.l.length t] 27)).alloc (.cells (Q6 noB) 58)) (a+1) (Q3 noB):=by
  subst x;exact Q9 zy
 have F:Ext w ((w.alloc (.cells #[.int .i64 p.k,.int .u32 (p.pl:Int),.int .u32 (p.mi:Int),.bool p.nt,.int .i64 p.mn,.int .i64 p.mx,.slice s p.l.length t] 27)).alloc (.cells (Q6 noB) 58)):=((Q1.refl _ w).alloc _).alloc _;generalize ((w.alloc (.cells #[.int .i64 p.k,.int .u32 (p.pl:Int),.int .u32 (p.mi:Int),.bool p.nt,.int .i64 p.mn,.int .i64 p.mx,.slice s p.l.length t] 27)).alloc (.cells (Q6 noB) 58))=e1 at a0 Z F ⊢;rw [x];have B:=Zh x;clear x;refine(S.out _ F).mono ?_;rintro e P ⟨rfl,G⟩;have a1:=G.keep a0;have o:=Z.keep G id;have y:=F.trans G;clear F G a0 Z
 have a7:∀(c:World) (C:Int) (A:Array Value) (U:List Deferred),Q8 c (a+1) (Q3 noB)->Ext w c->U=[]->C=Y9 p ws->C≠0->A.getD 4 undef=.pointer (some ⟨a+1,0,none⟩)->A.getD 5 undef=.int .i64 C ->
   bodyPost Tryd.prog Tryd.f23 (fun e w'=>e=.returned (.tuple #[.agg (Q4 (Q3 (Y0 p ws))),.int .i64 (Y9 p ws)])/\Ext w w') .ret { tmps:=A,defers:=U } c:=by
  intro c C A U n u c4 a9 c5 c6 c7;subst c4;refine bodyPost_ret (Vl rfl c6 n) rfl ⟨?_,u⟩;have:Y0 p ws=noB:=by unfold Y0;rw [if_neg (a9 ▸ c5)]
  rw [this,<-a9];show Ending.returned (.tuple #[_,A.getD 5 undef])=_;rw [c7]
 have Q:=Zh a7;clear a7;have T:=zR a1;by_cases O:r=0
 ·rw [if_pos O] at d;subst O;by_cases b4:32<q
  ·rw [if_pos b4] at d;have n:(32:Int)<(q:Int):=by omega
   have m:Q8 (P.setRow (a+1) (Q4 (Q3 noB))) (a+1) (Q3 noB):=setRow_heap _ _ _ _ _ _ o;have i:Ext w (P.setRow (a+1) (Q4 (Q3 noB))):=y.after (Q1.setRow _ _ _) (fun b' n u=>by have:=B.out;omega)
   go_wp2_with (refine wpList_store_row rfl 58 (.tmp 4) (.tmp 18) rfl (a+1) (Q4 (Q3 noB)) rfl rfl _ _ o (Tryd.relInfo _) (by simp only [Qa]) (Qh _) ?_)
   exact Q.out _ 11 _ _ m i rfl d.out.symm oz rfl rfl
  ·rw [if_neg b4] at d;have n:¬ (32:Int)<(q:Int):=by omega
   go_wp2_with fail;refine(R.out _ y).mono ?_;rintro e b9 ⟨rfl,i⟩;have b7:=i.keep a1;have m:=o.keep i id;have D:=y.trans i;clear i a1 o y T;have T:=zR b7;cases a6
   ·have L:Q8 (b9.setRow (a+1) (Q4 (Q3 noB))) (a+1) (Q3 noB):=setRow_heap _ _ _ _ _ _ m;have z:Ext w (b9.setRow (a+1) (Q4 (Q3 noB))):=D.after (Q1.setRow _ _ _) (fun b' n u=>by have:=B.out;omega)
    go_wp2_with (refine wpList_store_row rfl 58 (.tmp 4) (.tmp 22) rfl (a+1) (Q4 (Q3 noB)) rfl rfl _ _ m (Tryd.relInfo _) (by simp only [Qa]) (Qh _) ?_)
    exact Q.out _ 14 _ _ L z rfl d.out.symm oz rfl rfl
   ·have b5:Yh p:=Kw c3.out;have a4:=Zh b5;clear b5;go_wp2_with fail;refine(a2.out _ D a4.out).mono ?_;rintro e d6 ⟨e0,rfl,W,z⟩;obtain⟨b8,rfl⟩:=Yb W;have d5:=Xt (cmp p) b8;have d4:=Ji (cmp p);have L:=m.keep z id;have E:=D.trans z;have Y:=He (cmp p) _ d6 b8 _ ws W (a5.out.ext E) (by rw [c1.out];omega) (c2.out.keep E id);rw [Uc ws p a4.out] at Y;have a3:=Zh Y;clear Y z m D b7 T W;go_wp2_with fail;clear d5 d4;refine a3.out.mono ?_;rintro e c0 ⟨rfl,V⟩;have b6:=L.keep V id;have c8:=E.trans V;have d3:Q8 (c0.setRow (a+1) (Q4 (Q3 (Yn ws p)))) (a+1) (Q3 (Yn ws p)):=setRow_heap _ _ _ _ _ _ b6;have c9:Ext w (c0.setRow (a+1) (Q4 (Q3 (Yn ws p)))):=c8.after (Q1.setRow _ _ _) (fun b' n u=>by have:=B.out;omega);clear a3 L E V
    go_wp2_with (refine wpList_store_row rfl 58 (.tmp 4) (.tmp 26) rfl (a+1) (Q4 (Q3 (Yn ws p))) rfl rfl _ _ b6 (Tryd.relInfo _) (by simp only [Qa]) (Qh _) ?_)
    refine bodyPost_ret (Vl rfl rfl d3) rfl ⟨?_,c9⟩;have a8:Y9 p ws=0:=d.out;have:Y0 p ws=Yn ws p:=by unfold Y0;rw [if_pos a8]
    rw [this,a8];rfl
 ·rw [if_neg O] at d;have m:Q8 (P.setRow (a+1) (Q4 (Q3 noB))) (a+1) (Q3 noB):=setRow_heap _ _ _ _ _ _ o;have i:Ext w (P.setRow (a+1) (Q4 (Q3 noB))):=y.after (Q1.setRow _ _ _) (fun b' n u=>by have:=B.out;omega)
  go_wp2_with (refine wpList_store_row rfl 58 (.tmp 4) (.tmp 12) rfl (a+1) (Q4 (Q3 noB)) rfl rfl _ _ o (Tryd.relInfo _) (by simp only [Qa]) (Qh _) ?_)
  exact Q.out _ r _ _ m i rfl d.out.symm O rfl rfl
def exE(n:Nat)(at':Int):Int:=if at'<0\/(n:Int)<at' then 3 else 0
theorem U1(ao:Option Addr)(n cap:Nat)(a:Int)(w:World) :
  Calls Tryd.prog 24 #[.slice ao n cap,.int .i64 a] w fun e w'=>e=.returned (.int .i64 (exE n a))/\w'=w:=by
 by_cases c:a<0
 ·have b:Hid (exE n a=3):=Zh (by unfold exE;rw [if_pos (.inl c)]);go_enter Tryd.func24,Tryd.ntmps24;go_wp2;go_ret;exact⟨by rw [b.out];rfl,rfl⟩
 ·by_cases d:(n:Int)<a
  ·have b:Hid (exE n a=3):=Zh (by unfold exE;rw [if_pos (.inr d)]);go_enter Tryd.func24,Tryd.ntmps24;go_wp2;go_ret;exact⟨by rw [b.out];rfl,rfl⟩
  ·have b:Hid (exE n a=0):=Zh (by unfold exE;rw [if_neg oz]);go_enter Tryd.func24,Tryd.ntmps24;go_wp2;go_ret;exact⟨by rw [b.out];rfl,rfl⟩
theorem Nq(x n:Nat)(c:x<18446744073709551616):(bits .and .u64 ((x:Int) / 2 ^ n) 1 == 1)=x.testBit n:=by
 have a:((x:Int) / 2 ^ n)=((x / 2 ^ n:Nat):Int):=by simp
 have b:bits .and .u64 ((x / 2 ^ n:Nat):Int) ((1:Nat):Int)=((x / 2 ^ n &&& 1:Nat):Int):=u64_and_nat _ _ (Nat.lt_of_le_of_lt (Nat.div_le_self _ _) c) zd;rw [a,show (1:Int)=((1:Nat):Int) from rfl,b,Nat.and_one_is_mod,Nat.testBit_eq_decide_div_mod_eq,Bool.eq_iff_iff,beq_iff_eq,decide_eq_true_iff];omega
theorem Ng(R:Qf)(a n:Nat)(b:n<=32):(bits .and .u64 ((Q3 R a:Int) / 2 ^ n) 1 == 1)=R a n:=by
 rw [Nq _ _ (by have:=Yq R a;omega),U7 R oz]
theorem Ua{p:Pat}{ws:Wd}(h:Y9 p ws=0):ws.length<=32:=by
 unfold Y9 at h;by_cases a:Ze p=0
 ·rw [if_pos a] at h;by_cases b:32<ws.length
  ·rw [if_pos b] at h;cases h
  ·omega
 ·rw [if_neg a] at h;exact absurd h a
def Hp(p:Pat)(ws:Wd):Bool:=decide (Y9 p ws=0) && Y0 p ws 0 ws.length
theorem Y4{a:Func}{t u:Tmp}(h:a.results=#[.tmp t,.tmp u])(tmps:Array Value)(P:Program)(w:World) :
  (results a tmps).run P w=.ok (.tuple #[tmps.getD t undef,tmps.getD u undef]) w:=by
 simp [results,h]
def Qu(p:Pat)(ws:Wd)(at':Int):Int:=if Y9 p ws=0 then exE ws.length at' else Y9 p ws
def Ux(p:Pat)(ws:Wd)(at':Int):List Nat:=if Qu p ws at'=0 then(List.range (ws.length+1)).filter (fun a=>Y0 p ws a at'.toNat) else []
def Xi(p:Pat)(ws:Wd)(at':Int):List Nat:=if Qu p ws at'=0 then(List.range (ws.length+1)).filter (fun b=>Y0 p ws at'.toNat b) else []
def Zl(l:List Nat):List Value:=l.map fun(x:Nat)=>Value.int .i64 (x:Int)
theorem Tryd.infoI:(Tryd.prog.info? 3).map (fun i=>(i.zero,i.size,i.bytes))=some (some (.int .i64 0),1,8):=by kernel_rfl
theorem Vd{w:World}{base:Nat}{e:TypeId}{sz n g:Nat}{v:Value}{xs:List Value}(h:w.ownsRow base e sz v n xs)(a:v.ownBlock=some g):∃ cur,w.heap[g]?=some (.cells cur e (0,0)):=by
 rcases h.2 with ⟨rfl,_⟩ | ⟨d,c,cur,rfl,_,b,_⟩
 ·cases a
 ·cases a;exact⟨cur,b⟩
theorem Vu(l:List Nat)(x:Nat):Zl (l++[x])=Zl l++[.int .i64 (x:Int)]:=by simp [Zl]
theorem U2{K:Nat->Prop}{w:World}{p:Pat}{cs:List Value}{v:Value}{ws:Wd}(G:Qc K w p cs)(N:∀ g,K g->g<w.heap.size)(H:Qw w v ws)(O:Tab w)(d:Int) :
  Calls Tryd.prog 13 #[.agg cs.toArray,v,.int .i64 d] w fun e w'=>∃ u,e=.returned (.tuple #[u,.int .i64 (Qu p ws d)])/\w'.ownsRow w.heap.size 3 1 u (Ux p ws d).length (Zl (Ux p ws d))/\Ext w w':=by
 have U:=fun(V:World) (m:Ext w V)=>J1 (K:=K) (G.ext m) (fun g hg=>Nat.lt_of_lt_of_le (N g hg) m.size) (H.ext m) (O.keep m id);obtain⟨b2,b7,rfl,a8,a7,_⟩:=Qj G;obtain⟨b5,b4,rfl,a6⟩:=H.slice;clear G a8 a7 H O N;have s:=Zh U;clear U;obtain⟨o,B⟩:=zE (Y9 p ws);obtain⟨c,n⟩:=zE (Y0 p ws);obtain⟨j,t⟩:=zE ws.length;have l:Hid (Qu p ws d=if o=0 then exE j d else o):=Zh (by unfold Qu;rw [B,t]);have z:Hid (Ux p ws d=if Qu p ws d=0 then(List.range (j+1)).filter (fun a=>c a d.toNat) else []):=Zh (by unfold Ux;rw [n,t])
 have T:o=0->j<=32:=fun h=>by
  subst B;subst t;exact Ua h
 rw [B] at s;rw [n] at s;rw [t] at s a6 ⊢;clear B n t;have Z:=Zh T;clear T;unfold Q2 at s ⊢;have a9:=Zg;have b0:=Qi noB;have b1:=Z6 noB;go_enter Tryd.func13,Tryd.ntmps13;go_wp2_with fail;refine(s.out _ ((Q1.refl _ w).alloc _)).mono ?_;rintro e k ⟨rfl,M⟩;have L:Ext w k:=Q1.trans ((Q1.refl _ w).alloc _) M;clear M;have C:(k.alloc (.cells (Q6 noB) 58)).heap[k.heap.size]?=some (.cells (Q6 noB) 58 (0,0)):=Q9 rfl;have D:Q8 ((k.alloc (.cells (Q6 noB) 58)).setRow k.heap.size (Q4 (Q3 c))) k.heap.size (Q3 c):=setRow_heap _ _ _ _ _ _ C;have A:Ext w ((k.alloc (.cells (Q6 noB) 58)).setRow k.heap.size (Q4 (Q3 c))):=L.trans (((Q1.refl _ k).alloc _).after (Q1.setRow _ _ _) (fun b' J h2=>by omega));go_upto_region 2 with (refine wpList_store_row rfl 58 (.tmp 8) (.tmp 16) rfl k.heap.size (Q4 (Q3 c)) rfl rfl _ _ C (Tryd.relInfo _) (by rw [Qi,Qa]) (Qh _) ?_)
 generalize ((k.alloc (.cells (Q6 noB) 58)).setRow k.heap.size (Q4 (Q3 c)))=d0 at D A ⊢;generalize k.heap.size=I at D ⊢;clear C L a9 b0 b1;by_cases r:o=0
 ·have c8:=Z.out r;rw [if_pos r] at l;subst r;go_wp2_with fail;refine(U1 _ _ _ _ _).mono ?_;rintro e d1 ⟨rfl,rfl⟩;by_cases F:d<0\/(j:Int)<d
  ·have x:exE j d=3:=by unfold exE;rw [if_pos F]
   rw [x] at l ⊢;clear x;go_wp2;refine bodyPost_ret (Y4 rfl _ _ _) rfl ⟨_,by rw [l.out];rfl,?_,A⟩;rw [z.out,l.out,if_neg zd];exact World.ownsRow_nil _ _ _ _
  ·have x:exE j d=0:=by unfold exE;rw [if_neg F]
   rw [x] at l ⊢;obtain⟨f,rfl⟩:∃ f:Nat,d=f:=⟨d.toNat,by omega⟩;have Y:Hid (Ux p ws f=(List.range (j+1)).filter (fun a=>c a f)):=Zh (by rw [z.out,l.out];rfl);have c7:f<=j:=by omega
   clear x z F;go_wp2
   go_loopw [10,29] (fun v i wr=>∃ b:Nat,b<=j+1/\i=.int .i64 b/\wr.ownsRow w.heap.size 3 1 v ((List.range b).filter (fun a=>c a f)).length (Zl ((List.range b).filter (fun a=>c a f)))/\Ext w wr/\Q8 wr I (Q3 c)) (fun _ i _=>j+1 - (intOf i).toNat)
   case atStart=>exact⟨0,Nat.zero_le _,rfl,World.ownsRow_nil _ _ _ _,A,D⟩
   case round=>
    obtain⟨b,b9,rfl,q,m,n⟩:=hrel;by_cases c6:b<j+1
    ·have a1:=n.cell (a:=b) oz;have c0:=Yq c b;have J:(b:Int)<(j:Int)+1:=by omega
     have S:(List.range (b+1)).filter (fun a=>c a f)=(List.range b).filter (fun a=>c a f)++if c b f then [b] else []:=by
      rw [List.range_succ,List.filter_append];cases hq:c b f <;> simp [hq]
     have Q:=Ng c b f oz;have y:=Zh S;have c1:((List.range b).filter (fun a=>c a f)).length<=33:=by
      have:=List.length_filter_le (fun a=>c a f) (List.range b);simp at this;omega
     clear S;cases hq:c b f
     ·rw [hq] at Q y;have a0:=Zh hq;clear hq;go_wp2
      go_roundw
      case rel=>exact⟨b+1,by omega,by go_num,by rw [y.out];simpa using q,m,n⟩
      case measure=>simp [intOf];omega
     ·rw [hq] at Q y;have a0:=Zh hq;clear hq
      go_wp2_with (at_builtin;refine Xj rfl (.tmp 39) (.tmp 41) 40 rfl w.heap.size 3 _ 1 8 Tryd.underlying40 Tryd.infoI rfl zd _ _ _ rfl (Y5 q ((Q1.refl _ wr).alloc _)) ⟨wr.heap.size,0,none⟩ 1 1 [.int .i64 b] rfl rfl (Xf rfl) ?c2 ?c3 ?c4 ?c5 ?_)
      case c2=>first | rfl | (intro u W;simp at W;rcases W with rfl;rfl)
      case c3=>unfold maxLen;omega
      case c4=>omega
      case c5=>have:=m.size;simp;omega
      intro b3 b6 X a4 P _;have E:Q1 (fun b'=>u10.ownBlock=some b') wr X:=Q1.trans (Q1.alloc (Q1.refl _ wr) _) P;have a3:Ext w X:=m.after E (fun b' J e=>by have:=(q.lt _ e).1;omega);have a5:=n.keep E (fun e=>by obtain⟨b8,R⟩:=Vd q e;have a2:wr.heap[I]?=_:=n;rw [a2] at R;cases R);clear P E q m a1;go_wp2
      go_roundw
      case rel=>
       refine⟨b+1,by omega,by go_num,?_,a3,a5⟩;rw [y.out,if_pos tz,Vu,List.length_append];exact a4
      case measure=>simp [intOf];omega
    ·obtain rfl:b=j+1:=by omega
     go_wp2;refine bodyPost_ret (Y4 rfl _ _ _) rfl ⟨_,by rw [l.out];rfl,?_,m⟩;rw [Y.out];exact q
 ·have c9:(o == 0)=false:=by rw [beq_eq_false_iff_ne];exact r
  rw [if_neg r] at l;go_wp2;refine bodyPost_ret (Y4 rfl _ _ _) rfl ⟨_,by rw [l.out];rfl,?_,A⟩;rw [z.out,l.out,if_neg r];exact World.ownsRow_nil _ _ _ _
theorem D9{w:World}{bx v:Nat}(a9:v<18446744073709551616)(a4:bx≠0)(j:Ys w bx v)(O:Tab w)(b6:(evs v).length<=64) :
  Calls Tryd.prog 38 #[.slice none 0 0,.func (.func 39) #[] #[.pointer (some ⟨bx,0,none⟩)]] w fun e w'=>∃ u,e=.returned u/\w'.ownsRow w.heap.size 3 1 u (evs v).length (Zl (evs v))/\Q1 (·=bx) w w':=by
 refine X3 Tryd.func38 rfl ?_;simp only [Tryd.ntmps38,zS,Nat.reduceAdd,Nat.reduceSub];go_wp2;obtain⟨a,p⟩:=zE w.heap.size;have b5:bx<a:=by rw [<-p];exact(Array.getElem?_eq_some_iff.1 j).1
 have b9:0<a:=by rw [<-p];exact Fu O
 have C:(w.alloc (.cells #[.slice none 0 0] 40)).heap[a]?=some (.cells #[.slice none 0 0] 40 (0,0)):=Q9 p.symm;have y:Ext w (w.alloc (.cells #[.slice none 0 0] 40)):=(Q1.refl _ w).alloc _;have a7:(w.alloc (.cells #[.slice none 0 0] 40)).heap.size=a+1:=by rw [<-p];simp
 generalize (w.alloc (.cells #[.slice none 0 0] 40))=G at C y a7 ⊢;have T:Ys G bx v:=y.keep j;have P:=O.keep y id;rw [p];have x:=Zh p;clear p
 refine Hw (xs:=evs v) (S:=(·=bx)) (K:=fun b'=>b'=bx\/b'=0) rfl (enters_of Tryd.func39 kz rfl)
  (Ha _ a9 bx a4 G T P) (fun _ i=>.inl i) (fun b' i=>by omega) (fun _=>rfl)
  (fun d f=>∃ u,f.heap[a]?=some (.cells #[u] 40 (0,0))/\f.ownsRow a 3 1 u d.length (Zl d)/\(∀ c,u.ownBlock=some c->c≠a/\c≠a+1/\c≠a+2)/\Q1 (·=bx) w f)
  (fun _ _ _=>False) ?hI ?hIx ?h0 (fun q t=>(t.setIfInBounds 7 (.int .i64 q)).setIfInBounds 5 (.int .i64 q)) ?assign ?body ?done ?stop
 case hI=>
  rintro d Z a0 ⟨u,k,g,n,s⟩ a8;have r:Q1 (fun b=>b=bx\/b=a+2) Z a0:=a8.mono (fun b _ i=>by omega);exact⟨u,r.heap k oz,Zz g r (fun b j e=>by have:=n b j;have:=(g.lt _ j).1;omega),n,s.after r (fun b' h1 h2=>by have:=x.out;omega)⟩
 case hIx=>exact fun _ _ _ _ i _=>i
 case h0=>
  intro f R _;exact⟨.slice none 0 0,R.keep C,World.ownsRow_nil _ _ _ _,(fun c B=>by cases B),Ext.of (Q1.trans y R)⟩
 case assign=>
  intro q f K a3;gi_wp2;exact a3
 case body=>
  rintro d q c0 f F b8 r ⟨u,k,g,n,s⟩;simp only [pq];have b7:d.length<64:=by
   have:=congrArg List.length F;simp at this;omega
  have H:=cell_of_one k;have a1:=free_of_one k;have b3:a<f.heap.size:=(Array.getElem?_eq_some_iff.1 k).1;have b4:=Zh F;clear F;refine wpIn_block ?_;refine Vk kz (by rintro⟨_,_,i⟩;exact i) ?_;have Y:=Zh k;clear k
  go_wp2_with (at_builtin;refine Xj rfl (.tmp 8) (.tmp 10) 40 rfl a 3 _ 1 8 Tryd.underlying40 Tryd.infoI rfl zd _ _ _ rfl (Y5 g ((Q1.refl _ f).alloc _)) ⟨f.heap.size,0,none⟩ 1 1 [.int .i64 q] rfl rfl (Xf rfl) ?c2 ?c3 ?c4 ?c5 ?_)
  case c2=>first | rfl | (intro u V;simp at V;rcases V with rfl;rfl)
  case c3=>unfold maxLen;omega
  case c4=>omega
  case c5=>simp;omega
  intro l m o N Q I;have z:Q1 (fun b'=>u.ownBlock=some b') f o:=Q1.trans (Q1.alloc (Q1.refl _ f) _) Q;have D:=z.heap Y.out (fun e=>(n _ e).1 rfl);have J:Q1 (·=bx) w o:=s.after z (fun b' h1 e=>by have:=(g.lt _ e).1;have:=x.out;omega);have E:∀ c,(Value.slice l (d.length+1) m).ownBlock=some c->c≠a/\c≠a+1/\c≠a+2:=by
   intro c B;rcases I with e | e
   ·exact n c (e ▸ B)
   ·rw [B] at e;cases e;omega
  have b0:=cell_of_one D;have b2:=free_of_one D;have A:=Q1.set1 o a 0 (.slice l (d.length+1) m);have M:(o.setCell ⟨a,0,none⟩ (.slice l (d.length+1) m)).heap[a]?=some (.cells #[.slice l (d.length+1) m] 40 (0,0)):=by
   simp only [World.setCell,Array.getElem?_modify,D];simp
  have L:Q1 (fun b=>¬ ((b=bx\/b=0)\/b=a+1\/b=a+1+1)) f (o.setCell ⟨a,0,none⟩ (.slice l (d.length+1) m)):=
   (z.mono (fun b' _ e=>by have:=n _ e;have:=(g.lt _ e).1;omega)).trans (A.mono (fun b' _ e=>by omega))
  have U:∃ u,(o.setCell ⟨a,0,none⟩ (.slice l (d.length+1) m)).heap[a]?=some (.cells #[u] 40 (0,0))/\(o.setCell ⟨a,0,none⟩ (.slice l (d.length+1) m)).ownsRow a 3 1 u (d++[q]).length (Zl (d++[q]))/\(∀ c,u.ownBlock=some c->c≠a/\c≠a+1/\c≠a+2)/\Q1 (·=bx) w (o.setCell ⟨a,0,none⟩ (.slice l (d.length+1) m)):=by
   refine⟨_,M,?_,E,J.after A (fun b h1 h2=>by have:=x.out;omega)⟩;rw [Vu,List.length_append];exact Zz N A (fun b j e=>(E b j).1 e)
  have X:=Zh L;have W:=Zh U;clear L U M A E J z Q N I H a1 g n s r;go_wp2;exact⟨X.out,W.out⟩
 case done=>
  rintro f ⟨u,k,g,n,s⟩ r a2;have H:=cell_of_one k;clear y T P C;go_wp2;have a6:Z2 a ({ target:=.collected G.heap.size,args:=#[] }::[]) f:=Z2.cons (base:=a) trivial oz a2 (fun e he=>by cases he);refine X8 a6 (fun w'=>results_tmp rfl _ _ _) (fun w' ht' hs=>⟨u,rfl,?_,?_⟩)
  ·rw [x.out];exact Zz g ht' (fun b j e=>by obtain⟨b1,a5⟩:=Vd g j;exact Shut.not a5 rfl e)
  ·exact s.after ht' (fun b' h2 h3=>by have:=h3.1;have:=x.out;omega)
 case stop=>exact fun _ _ _ _ _ _ i=>i.elim
theorem Wk{w:World}{bx v:Nat}(i:v<18446744073709551616)(f:bx≠0)(d:Ys w bx v)(c:Tab w)(g:(evs v).length<=64) :
  Calls Tryd.prog 25 #[.func (.func 39) #[] #[.pointer (some ⟨bx,0,none⟩)]] w fun e w'=>∃ u,e=.returned u/\w'.ownsRow w.heap.size 3 1 u (evs v).length (Zl (evs v))/\Q1 (·=bx) w w':=by
 go_enter Tryd.func25,Tryd.ntmps25;go_wp2_with fail;refine(D9 i f d c g).mono ?_;rintro e j ⟨u,rfl,a,b⟩;go_wp2;go_ret;exact⟨_,rfl,a,b⟩
theorem D4(R:Qf)(a:Nat):evs (Q3 R a)=(List.range 33).filter (R a):=Vy R a
theorem Dh{R:Qf}{a n:Nat}(g:n<=32)(e:∀ b,R a b=true->b<=n):(List.range 33).filter (R a)=(List.range (n+1)).filter (fun b=>R a b):=by
 have c:List.range 33=List.range (n+1)++(List.range (32 - n)).map (n+1+·):=by
  rw [<-List.range_add,show n+1+(32 - n)=33 by omega]
 rw [c,List.filter_append];have:((List.range (32 - n)).map (n+1+·)).filter (R a)=[]:=by
  rw [List.filter_eq_nil_iff];intro j f d;obtain⟨i,_,rfl⟩:=List.mem_map.1 f;have:=e _ d;omega
 rw [this,List.append_nil]
theorem Yo{K:Nat->Prop}{w:World}{p:Pat}{cs:List Value}{v:Value}{ws:Wd}(F:Qc K w p cs)(L:∀ g,K g->g<w.heap.size)(G:Qw w v ws)(D:Tab w)(c:Int) :
  Calls Tryd.prog 11 #[.agg cs.toArray,v,.int .i64 c] w fun e w'=>∃ u,e=.returned (.tuple #[u,.int .i64 (Qu p ws c)])/\w'.ownsRow w.heap.size 3 1 u (Xi p ws c).length (Zl (Xi p ws c))/\Ext w w':=by
 have x:Qk ws.length (Y0 p ws):=by
  unfold Y0
  split
  ·exact Yx ws p
  ·exact Qk.no _
 have H:=Zh D;have P:=fun(V:World) (hE:Ext w V)=>J1 (K:=K) (F.ext hE) (fun g hg=>Nat.lt_of_lt_of_le (L g hg) hE.size) (G.ext hE) (D.keep hE id);obtain⟨a7,b1,rfl,a1,a0,_⟩:=Qj F;obtain⟨a9,a8,rfl,Z⟩:=G.slice;clear F a1 a0 G D L;have n:=Zh P;clear P;obtain⟨l,y⟩:=zE (Y9 p ws);obtain⟨b,A⟩:=zE (Y0 p ws);obtain⟨i,q⟩:=zE ws.length;have j:Hid (Qu p ws c=if l=0 then exE i c else l):=Zh (by unfold Qu;rw [y,q]);have s:Hid (Xi p ws c=if Qu p ws c=0 then(List.range (i+1)).filter (fun k=>b c.toNat k) else []):=Zh (by unfold Xi;rw [A,q])
 have O:l=0->i<=32:=fun h=>by
  subst y;subst q;exact Ua h
 rw [y] at n;rw [A] at n x;rw [q] at n Z x ⊢;have T:=Zh x;clear x;clear y A q;have U:=Zh O;clear O;unfold Q2 at n ⊢;have a4:=Zg;have a5:=Qi noB;have a6:=Z6 noB;go_enter Tryd.func11,Tryd.ntmps11;go_wp2_with fail;refine(n.out _ ((Q1.refl _ w).alloc _)).mono ?_;rintro e f ⟨rfl,J⟩;have I:Ext w f:=Q1.trans ((Q1.refl _ w).alloc _) J;clear J;have B:(f.alloc (.cells (Q6 noB) 58)).heap[f.heap.size]?=some (.cells (Q6 noB) 58 (0,0)):=Q9 rfl;have C:Q8 ((f.alloc (.cells (Q6 noB) 58)).setRow f.heap.size (Q4 (Q3 b))) f.heap.size (Q3 b):=setRow_heap _ _ _ _ _ _ B;have o:Ext w ((f.alloc (.cells (Q6 noB) 58)).setRow f.heap.size (Q4 (Q3 b))):=I.trans (((Q1.refl _ f).alloc _).after (Q1.setRow _ _ _) (fun b' h1 h2=>by omega));go_upto_region 2 with (refine wpList_store_row rfl 58 (.tmp 8) (.tmp 14) rfl f.heap.size (Q4 (Q3 b)) rfl rfl _ _ B (Tryd.relInfo _) (by rw [Qi,Qa]) (Qh _) ?_)
 generalize ((f.alloc (.cells (Q6 noB) 58)).setRow f.heap.size (Q4 (Q3 b)))=b7 at C o ⊢;generalize f.heap.size=k at C ⊢;clear B I a4 a5 a6;by_cases m:l=0
 ·have a2:=U.out m;rw [if_pos m] at j;subst m;go_wp2_with fail;refine(U1 _ _ _ _ _).mono ?_;rintro e R ⟨rfl,rfl⟩;by_cases E:c<0\/(i:Int)<c
  ·have r:exE i c=3:=by unfold exE;rw [if_pos E]
   rw [r] at j ⊢;clear r;go_wp2;refine bodyPost_ret (Y4 rfl _ _ _) rfl ⟨_,by rw [j.out];rfl,?_,o⟩;rw [s.out,j.out,if_neg zd];exact World.ownsRow_nil _ _ _ _
  ·have r:exE i c=0:=by unfold exE;rw [if_neg E]
   rw [r] at j ⊢;obtain⟨d,rfl⟩:∃ d:Nat,c=d:=⟨c.toNat,by omega⟩;have S:Hid (Xi p ws d=(List.range (i+1)).filter (fun k=>b d k)):=Zh (by rw [s.out,j.out];rfl);have b4:d<=i:=by omega
   have b0:=C.cell (a:=d) oz;have b3:=Yq b d;have Q:(List.range 33).filter (b d)=(List.range (i+1)).filter (fun k=>b d k):=Dh a2 (fun k hb=>(T.out d k hb).2);have W:=Zh Q;clear r s E Q
   go_wp2_with (go_at_call 26;refine(Wn _ _).mono ?_;rintro e w' ⟨rfl,rfl⟩)
   have b2:=Fu H.out;have b5:=o.size;have t:Ext w (R.alloc (.cells #[.int .u64 (Q3 b d:Int)] 56)):=Q1.alloc o _;have N:(evs (Q3 b d)).length<=64:=by
    rw [D4];have:=List.length_filter_le (b d) (List.range 33);simp at this;omega
   refine(Wk (v:=Q3 b d) (bx:=R.heap.size) oz oz (Q9 rfl) (H.out.keep t id) N).mono ?_;rintro e a3 ⟨u,rfl,z,M⟩;rw [D4,W.out,<-S.out] at z;have X:Ext w a3:=t.after M (fun b' h1 h2=>by omega);have Y:=H4 z t.size;clear z M t N;go_wp2;exact bodyPost_ret (Y4 rfl _ _ _) rfl ⟨_,by rw [j.out];rfl,Y,X⟩
 ·have b6:(l == 0)=false:=by rw [beq_eq_false_iff_ne];exact m
  rw [if_neg m] at j;go_wp2;refine bodyPost_ret (Y4 rfl _ _ _) rfl ⟨_,by rw [j.out];rfl,?_,o⟩;rw [s.out,j.out,if_neg m];exact World.ownsRow_nil _ _ _ _
theorem Lh(l:List Nat){k:Nat}(h:k<l.length):(Zl l).getD k undef=.int .i64 (l[k]:Int):=by
 simp [Zl,List.getD_eq_getElem?_getD,h]
theorem F6{l m:List Nat}{k:Nat}(h1:k<l.length)(h2:k<m.length)(h:l.take k=m.take k)(e:l[k]=m[k]):l.take (k+1)=m.take (k+1):=by
 rw [List.take_succ_eq_append_getElem h1,List.take_succ_eq_append_getElem h2,h,e]
theorem Rd.int{w:World}{v:Value}{l:List Nat}(h:Rd w v l.length 1 (Zl l)):∃ ao cap,v=.slice ao l.length cap∧l.length≤maxLen∧∀ k (hk:k<l.length),∃ g off,ao=some ⟨g,off,none⟩∧w.cell? ⟨g,off+k,none⟩=some (.int .i64 (l[k]:Int)):=by
 obtain⟨h1,h2,ao,cap,hv,h3⟩:=h
 refine⟨ao,cap,hv,h2,fun k hk=>?_⟩
 obtain⟨g,off,ha,hg,hc⟩:=h3 (by omega)
 have:=hc k (by omega)
 rw [Lh l hk] at this
 exact⟨g,off,ha,this⟩
theorem X2{w:World}{u v:Value}{l m:List Nat}(hu:Rd w u l.length 1 (Zl l)) (hv:Rd w v m.length 1 (Zl m)) :
  Calls Tryd.prog 14 #[u,v] w fun e w'=>e=.returned (.bool (decide (l=m)))∧Ext w w':=by
 obtain⟨ao,cap,rfl,hlm,hl⟩:=Rd.int hu
 obtain⟨bo,bcap,rfl,hmm,hm⟩:=Rd.int hv
 unfold maxLen at hlm hmm
 have HL:=Lib.hid hl;have HM:=Lib.hid hm
 clear hl hm hu hv
 obtain⟨N,hN⟩:∃ N,l.length=N:=⟨_,rfl⟩
 obtain⟨M,hM⟩:∃ M,m.length=M:=⟨_,rfl⟩
 have HN:=Lib.hid hN;have HMM:=Lib.hid hM
 rw [hN] at hlm ⊢
 rw [hM] at hmm ⊢
 clear hN hM
 by_cases hNM:N=M
 ·subst hNM
  go_enter Tryd.func14,Tryd.ntmps14
  go_wp2
  refine wp_loop (fun a W=>∃(k:Nat),k≤N∧a.defers=[]∧(a.tmps.size=26∧a.tmps.getD 0 undef=.slice ao N cap∧a.tmps.getD 1 undef=.slice bo N bcap∧a.tmps.getD 5 undef=.int .i64 k)∧l.take k=m.take k∧Ext w W)
   (fun a _=>N - (intOf (a.tmps.getD 5 undef)).toNat) ?_ ?_
  ·exact⟨0,by omega,rfl,⟨rfl,rfl,rfl,rfl⟩,rfl,Q1.refl _ _⟩
  rintro⟨t,_⟩ W ⟨k,hk,hds,⟨hsz,f0,f1,f5⟩,hall,hE⟩
  subst hds
  obtain⟨u',hu⟩:=Zb hsz
  obtain⟨u,rfl⟩:∃ x,x=u':=⟨_,rfl⟩
  have hu':t=#[u 0,u 1,u 2,u 3,u 4,u 5,u 6,u 7,u 8,u 9,u 10,u 11,u 12,u 13,u 14,u 15,u 16,u 17,u 18,u 19,u 20,u 21,u 22,u 23,u 24,u 25]:=hu
  clear hu
  subst hu'
  change u 0=_ at f0
  change u 1=_ at f1
  change u 5=_ at f5
  rw [f0,f1,f5]
  clear f0 f1 f5 hsz
  have HALL:=Lib.hid hall
  clear hall
  by_cases hkN:k<N
  ·have h1:(k:Int)<(N:Int):=by omega
   have hkl:k<l.length:=by rw [HN.out];exact hkN
   have hkr:k<m.length:=by rw [HMM.out];exact hkN
   obtain⟨g,off,rfl,d1⟩:=HL.out k hkl
   obtain⟨g',off',rfl,d2⟩:=HM.out k hkr
   have c1:=hE.cell_some d1 id
   have c2:=hE.cell_some d2 id
   have HS:=Lib.hid (fun x=>F6 (l:=l) (m:=m) hkl hkr HALL.out x)
   have hne:l[k]≠m[k]→l≠m:=fun h e=>h (by simp [e])
   have HNE:=Lib.hid hne
   obtain⟨x,hx⟩:∃ x,l[k]=x:=⟨_,rfl⟩
   obtain⟨y,hy⟩:∃ y,m[k]=y:=⟨_,rfl⟩
   rw [hx,hy] at HS HNE
   rw [hx] at c1
   rw [hy] at c2
   clear hne d1 d2 hx hy
   by_cases hxy:x=y
   ·have HS2:=Lib.hid (HS.out hxy)
    have q1:((x:Int) ==(y:Int))=true:=by rw [beq_iff_eq];omega
    clear HS HNE
    subst hxy
    go_wp2
    go_quiet (fail)
    go_wp2
    exact⟨⟨k+1,by omega,by first | rfl | trivial,⟨rfl,rfl,rfl,rfl⟩,HS2.out,Q1.drewN hE _⟩,by simp [intOf];omega⟩
   ·have HS2:=Lib.hid (HNE.out hxy)
    have q1:((x:Int) ==(y:Int))=false:=by rw [beq_eq_false_iff_ne];omega
    clear HS HNE hxy
    go_wp2
    go_quiet (fail)
    go_wp2
    go_ret
    exact⟨by rw [decide_eq_false HS2.out];rfl,Q1.drewN hE _⟩
  ·obtain rfl:k=N:=by omega
   have h1:¬ (k:Int)<(k:Int):=by omega
   have hfin:l=m:=by
    have:=HALL.out
    rwa [List.take_of_length_le (by rw [HN.out];exact Nat.le_refl _),List.take_of_length_le (by rw [HMM.out];exact Nat.le_refl _)] at this
   have HFI:=Lib.hid hfin
   clear hfin
   go_wp2
   go_ret
   exact⟨by rw [decide_eq_true HFI.out];rfl,hE⟩
 ·have hfin:l≠m:=fun h=>hNM (by rw [← HN.out,← HMM.out,h])
  have HFI:=Lib.hid hfin
  have h1:((N:Int) ==(M:Int))=false:=by rw [beq_eq_false_iff_ne];omega
  clear hfin
  go_enter Tryd.func14,Tryd.ntmps14
  go_wp2
  go_ret
  exact⟨by rw [decide_eq_false HFI.out];rfl,Q1.refl _ _⟩
theorem Vn{K:Nat→Prop}{w:World}{p:Pat}{cs:List Value}{v:Value}{ws:Wd}(hp:Qc K w p cs)(hK:∀ g,K g→g<w.heap.size)(hv:Qw w v ws)(hT:Tab w) :
  Calls Tryd.prog 15 #[.agg cs.toArray,v] w fun e w'=>e=.returned (.tuple #[.bool (Hp p ws),.int .i64 (Y9 p ws)])∧Ext w w':=by
 have hre:=fun(V:World) (hE:Ext w V)=>J1 (K:=K) (hp.ext hE) (fun g hg=>Nat.lt_of_lt_of_le (hK g hg) hE.size) (hv.ext hE) (hT.keep hE id)
 obtain⟨ao,cap,rfl,hlc,hcm,_⟩:=Qj hp
 obtain⟨bo,bcap,rfl,hbm⟩:=hv.slice
 clear hp hlc hcm hv hT hK
 have HRE:=Lib.hid hre
 clear hre
 obtain⟨z,hz⟩:∃ z,Y9 p ws=z:=⟨_,rfl⟩
 obtain⟨R,hR⟩:∃ R,Y0 p ws=R:=⟨_,rfl⟩
 obtain⟨n,hN⟩:∃ n,ws.length=n:=⟨_,rfl⟩
 have HM:Hid (Hp p ws=(decide (z=0) && R 0 n)):=Lib.hid (by unfold Hp;rw [hz,hR,hN])
 have hn32:z=0→n≤32:=fun h=>by
  subst hz;subst hN
  exact Ua h
 rw [hz] at HRE ⊢
 rw [hR] at HRE
 rw [hN] at HRE hbm ⊢
 clear hz hR hN
 have HNL:=Lib.hid hn32
 clear hn32
 unfold Q2 at HRE ⊢
 have z1:=Zg
 have z2:=Qi noB
 have z3:=Z6 noB
 go_enter Tryd.func15,Tryd.ntmps15
 go_wp2_with fail
 refine(HRE.out _ ((Q1.refl _ w).alloc _)).mono ?_
 rintro e w2 ⟨rfl,hE2⟩
 have hE02:Ext w w2:=Q1.trans ((Q1.refl _ w).alloc _) hE2
 clear hE2
 have hR0:(w2.alloc (.cells (Q6 noB) 58)).heap[w2.heap.size]?=some (.cells (Q6 noB) 58 (0,0)):=Q9 rfl
 have hR3:Q8 ((w2.alloc (.cells (Q6 noB) 58)).setRow w2.heap.size (Q4 (Q3 R))) w2.heap.size (Q3 R):=setRow_heap _ _ _ _ _ _ hR0
 have hE3:Ext w ((w2.alloc (.cells (Q6 noB) 58)).setRow w2.heap.size (Q4 (Q3 R))):=hE02.trans (((Q1.refl _ w2).alloc _).after (Q1.setRow _ _ _) (fun b' h1 h2=>by omega))
 go_upto_region 2 with (refine wpList_store_row rfl 58 (.tmp 6) (.tmp 12) rfl w2.heap.size (Q4 (Q3 R)) rfl rfl _ _ hR0 (Tryd.relInfo _) (by rw [Qi,Qa]) (Qh _) ?_)
 generalize ((w2.alloc (.cells (Q6 noB) 58)).setRow w2.heap.size (Q4 (Q3 R)))=w3 at hR3 hE3 ⊢
 generalize w2.heap.size=b at hR3 ⊢
 clear hR0 hE02 z1 z2 z3
 by_cases hz0:z=0
 ·have hn:=HNL.out hz0
  subst hz0
  have c0:=hR3.cell (a:=0) (by decide)
  have hl:=Yq R 0
  go_wp2
  refine bodyPost_ret (Y4 rfl _ _ _) rfl ⟨?_,hE3⟩
  show Ending.returned (.tuple #[.bool (bits .and .u64 ((Q3 R 0:Int) / 2 ^ n) 1 == 1),.int .i64 0])=_
  rw [Ng R 0 n hn,HM.out];simp
 ·have hz1:(z == 0)=false:=by rw [beq_eq_false_iff_ne];exact hz0
  go_wp2
  refine bodyPost_ret (Y4 rfl _ _ _) rfl ⟨?_,hE3⟩
  rw [HM.out,decide_eq_false hz0]
  rfl
end Go.Proofs.YtbmbdoanammlgaaDoor
