/- pats.relate. -/
import Derived.Test.YtejenndedjabhaaGreatDoorU04
set_option maxRecDepth 100000
set_option maxHeartbeats 8000000
namespace Go.Proofs.YtejenndedjabhaaGreatDoor
open Go.RowKit Go.Ab
attribute [local go_sem] Oper.semAt_some Z3 Qj
def Vg(p:Pat)(ws:Wd):Int:=if Y6 p=0 then(if 32<ws.length then 11 else if Xm ws=true then 0 else 14) else Y6 p
def Vm(p:Pat)(ws:Wd):Qe:=if Vg p ws=0 then Vj ws p else noB
theorem Le{a:Func}{p u:Tmp}(h:a.results=#[.cell p 257,.tmp u]){tmps:Array Value}{w:World}{g:Nat}{f:Nat->Nat}(c:tmps.getD p undef=.pointer (some ⟨g,0,none⟩)) (b:Q7 w g f) :
  (results a tmps).run Tryz.prog w=.ok (.tuple #[.agg (Q3 f),tmps.getD u undef]) w:=by
 have d:tmps[p]?.getD undef=.pointer (some ⟨g,0,none⟩):=by simpa using c
 simp [results,h,d,asAddr,run_loadVar_row w g _ _ _ _ _ b Tryz.underlying257 rfl (Tryz.relInfo f)]
theorem Mi{K:Nat->Prop}{w:World}{p:Pat}{cs:List Value}{v:Value}{ws:Wd}(J:Qp K w p cs)(b0:∀ g,K g->g<w.heap.size)(M:Q5 w v ws)(X:Tab w) :
  Calls Tryz.prog 240 #[.agg cs.toArray,v] w fun e w'=>e=.returned (.tuple #[.agg (Q3 (Q2 (Vm p ws))),.int .i64 (Vg p ws)])/\Ext w w':=by
 have b2:=fun(c:World) (hE:Ext w c)=>Fk (K:=K) (J.ext hE) (fun g hg=>Nat.lt_of_lt_of_le (b0 g hg) hE.size) (X.keep hE id);have b3:=fun(c:World) (hE:Ext w c)=>L5 p K c cs (J.ext hE);have b1:=fun(c:World) (hE:Ext w c)=>T8 (M.ext hE);have a5:=Zh M;have c2:=Zh X;obtain⟨s,t,rfl,d2,d1,_⟩:=Yw J;obtain⟨d9,d8,rfl,d0⟩:=M.slice;clear J d2 d1 M X b0;obtain⟨S,a2,R⟩:=Zh3 b2 b3 b1;clear b2 b3 b1;obtain⟨r,N⟩:=zE (Y6 p);obtain⟨a6,I⟩:=zE (Xm ws);obtain⟨q,H⟩:=zE ws.length;have d:Hid (Vg p ws=if r=0 then(if 32<q then 11 else if a6=true then 0 else 14) else r):=Zh (by unfold Vg;rw [N,I,H]);rw [N] at S;rw [I] at R;rw [H] at R a5 d0 ⊢;obtain⟨c3,d7,c1⟩:=Zh3 N I H;clear N I H;unfold Qf at S a2 ⊢;have e2:=Yp;have e3:=Qk noB;have e4:=Yb noB;go_enter Tryz.func240,Tryz.ntmps240;go_wp2_with fail;obtain⟨a,x⟩:=zE w.heap.size;have a0:((w.alloc (.cells #[.int .i64 p.k,.int .u32 (p.pl:Int),.int .u32 (p.mi:Int),.bool p.nt,.int .i64 p.mn,.int .i64 p.mx,.slice s p.l.length t] 47)).alloc (.cells (Q6 noB) 257)).heap[a]?=some (.cells #[.int .i64 p.k,.int .u32 (p.pl:Int),.int .u32 (p.mi:Int),.bool p.nt,.int .i64 p.mn,.int .i64 p.mx,.slice s p.l.length t] 47 (0,0)):=by
  subst x;exact Q8 (new_at rfl)
 have Z:Q7 ((w.alloc (.cells #[.int .i64 p.k,.int .u32 (p.pl:Int),.int .u32 (p.mi:Int),.bool p.nt,.int .i64 p.mn,.int .i64 p.mx,.slice s p.l.length t] 47)).alloc (.cells (Q6 noB) 257)) (a+1) (Q2 noB):=by
  subst x;exact new_at zy
 have F:Ext w ((w.alloc (.cells #[.int .i64 p.k,.int .u32 (p.pl:Int),.int .u32 (p.mi:Int),.bool p.nt,.int .i64 p.mn,.int .i64 p.mx,.slice s p.l.length t] 47)).alloc (.cells (Q6 noB) 257)):=((Q0.refl _ w).alloc _).alloc _;generalize ((w.alloc (.cells #[.int .i64 p.k,.int .u32 (p.pl:Int),.int .u32 (p.mi:Int),.bool p.nt,.int .i64 p.mn,.int .i64 p.mx,.slice s p.l.length t] 47)).alloc (.cells (Q6 noB) 257))=e1 at a0 Z F ⊢;rw [x];have B:=Zh x;clear x;refine(S.out _ F).mono ?_;rintro e P ⟨rfl,G⟩;have a1:=G.keep a0;have o:=Z.keep G id;have y:=F.trans G;clear F G a0 Z
 have a7:∀(c:World) (C:Int) (A:Array Value) (U:List Deferred),Q7 c (a+1) (Q2 noB)->Ext w c->U=[]->C=Vg p ws->C≠0->A.getD 4 undef=.pointer (some ⟨a+1,0,none⟩)->A.getD 5 undef=.int .i64 C ->
   bodyPost Tryz.prog Tryz.f240 (fun e w'=>e=.returned (.tuple #[.agg (Q3 (Q2 (Vm p ws))),.int .i64 (Vg p ws)])/\Ext w w') .ret { tmps:=A,defers:=U } c:=by
  intro c C A U n u c4 a9 c5 c6 c7;subst c4;refine bodyPost_ret (Le rfl c6 n) rfl ⟨?_,u⟩;have:Vm p ws=noB:=by unfold Vm;rw [if_neg (a9 ▸ c5)]
  rw [this,<-a9];show Ending.returned (.tuple #[_,A.getD 5 undef])=_;rw [c7]
 have Q:=Zh a7;clear a7;have T:=zR a1;by_cases O:r=0
 ·rw [if_pos O] at d;subst O;by_cases b4:32<q
  ·rw [if_pos b4] at d;have n:(32:Int)<(q:Int):=by omega
   have m:Q7 (P.setRow (a+1) (Q3 (Q2 noB))) (a+1) (Q2 noB):=setRow_heap _ _ _ _ _ _ o;have i:Ext w (P.setRow (a+1) (Q3 (Q2 noB))):=y.after (Q0.setRow _ _ _) (fun b' n u=>by have:=B.out;omega)
   go_wp2_with (refine wpList_store_row rfl 257 (.tmp 4) (.tmp 18) rfl (a+1) (Q3 (Q2 noB)) rfl rfl _ _ o (Tryz.relInfo _) (by simp only [Q9]) (Qh _) ?_)
   exact Q.out _ 11 _ _ m i rfl d.out.symm oz rfl rfl
  ·rw [if_neg b4] at d;have n:¬ (32:Int)<(q:Int):=by omega
   go_wp2_with fail;refine(R.out _ y).mono ?_;rintro e b9 ⟨rfl,i⟩;have b7:=i.keep a1;have m:=o.keep i id;have D:=y.trans i;clear i a1 o y T;have T:=zR b7;cases a6
   ·have L:Q7 (b9.setRow (a+1) (Q3 (Q2 noB))) (a+1) (Q2 noB):=setRow_heap _ _ _ _ _ _ m;have z:Ext w (b9.setRow (a+1) (Q3 (Q2 noB))):=D.after (Q0.setRow _ _ _) (fun b' n u=>by have:=B.out;omega)
    go_wp2_with (refine wpList_store_row rfl 257 (.tmp 4) (.tmp 22) rfl (a+1) (Q3 (Q2 noB)) rfl rfl _ _ m (Tryz.relInfo _) (by simp only [Q9]) (Qh _) ?_)
    exact Q.out _ 14 _ _ L z rfl d.out.symm oz rfl rfl
   ·have b5:K3 p:=Q5o c3.out;have a4:=Zh b5;clear b5;go_wp2_with fail;refine(a2.out _ D a4.out).mono ?_;rintro e d6 ⟨e0,rfl,W,z⟩;obtain⟨b8,rfl⟩:=Xf W;have d5:=K0 (cmp p) b8;have d4:=Hi (cmp p);have L:=m.keep z id;have E:=D.trans z;have Y:=Rq (cmp p) _ d6 b8 _ ws W (a5.out.ext E) (by rw [c1.out];omega) (c2.out.keep E id);rw [We ws p a4.out] at Y;have a3:=Zh Y;clear Y z m D b7 T W;go_wp2_with fail;clear d5 d4;refine a3.out.mono ?_;rintro e c0 ⟨rfl,V⟩;have b6:=L.keep V id;have c8:=E.trans V;have d3:Q7 (c0.setRow (a+1) (Q3 (Q2 (Vj ws p)))) (a+1) (Q2 (Vj ws p)):=setRow_heap _ _ _ _ _ _ b6;have c9:Ext w (c0.setRow (a+1) (Q3 (Q2 (Vj ws p)))):=c8.after (Q0.setRow _ _ _) (fun b' n u=>by have:=B.out;omega);clear a3 L E V
    go_wp2_with (refine wpList_store_row rfl 257 (.tmp 4) (.tmp 26) rfl (a+1) (Q3 (Q2 (Vj ws p))) rfl rfl _ _ b6 (Tryz.relInfo _) (by simp only [Q9]) (Qh _) ?_)
    refine bodyPost_ret (Le rfl rfl d3) rfl ⟨?_,c9⟩;have a8:Vg p ws=0:=d.out;have:Vm p ws=Vj ws p:=by unfold Vm;rw [if_pos a8]
    rw [this,a8];rfl
 ·rw [if_neg O] at d;have m:Q7 (P.setRow (a+1) (Q3 (Q2 noB))) (a+1) (Q2 noB):=setRow_heap _ _ _ _ _ _ o;have i:Ext w (P.setRow (a+1) (Q3 (Q2 noB))):=y.after (Q0.setRow _ _ _) (fun b' n u=>by have:=B.out;omega)
  go_wp2_with (refine wpList_store_row rfl 257 (.tmp 4) (.tmp 12) rfl (a+1) (Q3 (Q2 noB)) rfl rfl _ _ o (Tryz.relInfo _) (by simp only [Q9]) (Qh _) ?_)
  exact Q.out _ r _ _ m i rfl d.out.symm O rfl rfl
def exE(n:Nat)(at':Int):Int:=if at'<0\/(n:Int)<at' then 3 else 0
theorem Mq(ao:Option Addr)(n cap:Nat)(a:Int)(w:World) :
  Calls Tryz.prog 241 #[.slice ao n cap,.int .i64 a] w fun e w'=>e=.returned (.int .i64 (exE n a))/\w'=w:=by
 by_cases c:a<0
 ·have b:Hid (exE n a=3):=Zh (by unfold exE;rw [if_pos (.inl c)]);go_enter Tryz.func241,Tryz.ntmps241;go_wp2;go_ret;exact⟨by rw [b.out];rfl,rfl⟩
 ·by_cases d:(n:Int)<a
  ·have b:Hid (exE n a=3):=Zh (by unfold exE;rw [if_pos (.inr d)]);go_enter Tryz.func241,Tryz.ntmps241;go_wp2;go_ret;exact⟨by rw [b.out];rfl,rfl⟩
  ·have b:Hid (exE n a=0):=Zh (by unfold exE;rw [if_neg oz]);go_enter Tryz.func241,Tryz.ntmps241;go_wp2;go_ret;exact⟨by rw [b.out];rfl,rfl⟩
theorem Q7k(x n:Nat)(c:x<18446744073709551616):(bits .and .u64 ((x:Int) / 2 ^ n) 1 == 1)=x.testBit n:=by
 have a:((x:Int) / 2 ^ n)=((x / 2 ^ n:Nat):Int):=by simp
 have b:bits .and .u64 ((x / 2 ^ n:Nat):Int) ((1:Nat):Int)=((x / 2 ^ n &&& 1:Nat):Int):=u64_and_nat _ _ (Nat.lt_of_le_of_lt (Nat.div_le_self _ _) c) zd;rw [a,show (1:Int)=((1:Nat):Int) from rfl,b,Nat.and_one_is_mod,Nat.testBit_eq_decide_div_mod_eq,Bool.eq_iff_iff,beq_iff_eq,decide_eq_true_iff];omega
theorem Q7j(R:Qe)(a n:Nat)(b:n<=32):(bits .and .u64 ((Q2 R a:Int) / 2 ^ n) 1 == 1)=R a n:=by
 rw [Q7k _ _ (by have:=Vl R a;omega),Q4u R oz]
theorem S6{p:Pat}{ws:Wd}(h:Vg p ws=0):ws.length<=32:=by
 unfold Vg at h;by_cases a:Y6 p=0
 ·rw [if_pos a] at h;by_cases b:32<ws.length
  ·rw [if_pos b] at h;cases h
  ·omega
 ·rw [if_neg a] at h;exact absurd h a
def Q91(p:Pat)(ws:Wd):Bool:=decide (Vg p ws=0) && Vm p ws 0 ws.length
theorem Jr{a:Func}{t u:Tmp}(h:a.results=#[.tmp t,.tmp u])(tmps:Array Value)(P:Program)(w:World) :
  (results a tmps).run P w=.ok (.tuple #[tmps.getD t undef,tmps.getD u undef]) w:=by
 simp [results,h]
def Jk(p:Pat)(ws:Wd)(at':Int):Int:=if Vg p ws=0 then exE ws.length at' else Vg p ws
def Dy(p:Pat)(ws:Wd)(at':Int):List Nat:=if Jk p ws at'=0 then(List.range (ws.length+1)).filter (fun a=>Vm p ws a at'.toNat) else []
def Dk(p:Pat)(ws:Wd)(at':Int):List Nat:=if Jk p ws at'=0 then(List.range (ws.length+1)).filter (fun b=>Vm p ws at'.toNat b) else []
def Ye(l:List Nat):List Value:=l.map fun(x:Nat)=>Value.int .i64 (x:Int)
theorem Tryz.infoI:(Tryz.prog.info? 3).map (fun i=>(i.zero,i.size,i.bytes))=some (some (.int .i64 0),1,8):=by kernel_rfl
theorem J7{w:World}{base:Nat}{e:TypeId}{sz n g:Nat}{v:Value}{xs:List Value}(h:w.ownsRow base e sz v n xs)(a:v.ownBlock=some g):∃ cur,w.heap[g]?=some (.cells cur e (0,0)):=by
 rcases h.2 with ⟨rfl,_⟩ | ⟨d,c,cur,rfl,_,b,_⟩
 ·cases a
 ·cases a;exact⟨cur,b⟩
theorem K5(l:List Nat)(x:Nat):Ye (l++[x])=Ye l++[.int .i64 (x:Int)]:=by simp [Ye]
theorem Ec{K:Nat->Prop}{w:World}{p:Pat}{cs:List Value}{v:Value}{ws:Wd}(G:Qp K w p cs)(N:∀ g,K g->g<w.heap.size)(H:Q5 w v ws)(O:Tab w)(d:Int) :
  Calls Tryz.prog 235 #[.agg cs.toArray,v,.int .i64 d] w fun e w'=>∃ u,e=.returned (.tuple #[u,.int .i64 (Jk p ws d)])/\w'.ownsRow w.heap.size 3 1 u (Dy p ws d).length (Ye (Dy p ws d))/\Ext w w':=by
 have U:=fun(V:World) (m:Ext w V)=>Mi (K:=K) (G.ext m) (fun g hg=>Nat.lt_of_lt_of_le (N g hg) m.size) (H.ext m) (O.keep m id);obtain⟨b2,b7,rfl,a8,a7,_⟩:=Yw G;obtain⟨b5,b4,rfl,a6⟩:=H.slice;clear G a8 a7 H O N;have s:=Zh U;clear U;obtain⟨o,B⟩:=zE (Vg p ws);obtain⟨c,n⟩:=zE (Vm p ws);obtain⟨j,t⟩:=zE ws.length;have l:Hid (Jk p ws d=if o=0 then exE j d else o):=Zh (by unfold Jk;rw [B,t]);have z:Hid (Dy p ws d=if Jk p ws d=0 then(List.range (j+1)).filter (fun a=>c a d.toNat) else []):=Zh (by unfold Dy;rw [n,t])
 have T:o=0->j<=32:=fun h=>by
  subst B;subst t;exact S6 h
 rw [B] at s;rw [n] at s;rw [t] at s a6 ⊢;clear B n t;have Z:=Zh T;clear T;unfold Qf at s ⊢;have a9:=Yp;have b0:=Qk noB;have b1:=Yb noB;go_enter Tryz.func235,Tryz.ntmps235;go_wp2_with fail;refine(s.out _ ((Q0.refl _ w).alloc _)).mono ?_;rintro e k ⟨rfl,M⟩;have L:Ext w k:=Q0.trans ((Q0.refl _ w).alloc _) M;clear M;have C:(k.alloc (.cells (Q6 noB) 257)).heap[k.heap.size]?=some (.cells (Q6 noB) 257 (0,0)):=new_at rfl;have D:Q7 ((k.alloc (.cells (Q6 noB) 257)).setRow k.heap.size (Q3 (Q2 c))) k.heap.size (Q2 c):=setRow_heap _ _ _ _ _ _ C;have A:Ext w ((k.alloc (.cells (Q6 noB) 257)).setRow k.heap.size (Q3 (Q2 c))):=L.trans (((Q0.refl _ k).alloc _).after (Q0.setRow _ _ _) (fun b' J h2=>by omega));go_upto_region 2 with (refine wpList_store_row rfl 257 (.tmp 8) (.tmp 16) rfl k.heap.size (Q3 (Q2 c)) rfl rfl _ _ C (Tryz.relInfo _) (by rw [Qk,Q9]) (Qh _) ?_)
 generalize ((k.alloc (.cells (Q6 noB) 257)).setRow k.heap.size (Q3 (Q2 c)))=d0 at D A ⊢;generalize k.heap.size=I at D ⊢;clear C L a9 b0 b1;by_cases r:o=0
 ·have c8:=Z.out r;rw [if_pos r] at l;subst r;go_wp2_with fail;refine(Mq _ _ _ _ _).mono ?_;rintro e d1 ⟨rfl,rfl⟩;by_cases F:d<0\/(j:Int)<d
  ·have x:exE j d=3:=by unfold exE;rw [if_pos F]
   rw [x] at l ⊢;clear x;go_wp2;refine bodyPost_ret (Jr rfl _ _ _) rfl ⟨_,by rw [l.out];rfl,?_,A⟩;rw [z.out,l.out,if_neg zd];exact World.ownsRow_nil _ _ _ _
  ·have x:exE j d=0:=by unfold exE;rw [if_neg F]
   rw [x] at l ⊢;obtain⟨f,rfl⟩:∃ f:Nat,d=f:=⟨d.toNat,by omega⟩;have Y:Hid (Dy p ws f=(List.range (j+1)).filter (fun a=>c a f)):=Zh (by rw [z.out,l.out];rfl);have c7:f<=j:=by omega
   clear x z F;go_wp2
   go_loopw [10,29] (fun v i wr=>∃ b:Nat,b<=j+1/\i=.int .i64 b/\wr.ownsRow w.heap.size 3 1 v ((List.range b).filter (fun a=>c a f)).length (Ye ((List.range b).filter (fun a=>c a f)))/\Ext w wr/\Q7 wr I (Q2 c)) (fun _ i _=>j+1 - (intOf i).toNat)
   case atStart=>exact⟨0,Nat.zero_le _,rfl,World.ownsRow_nil _ _ _ _,A,D⟩
   case round=>
    obtain⟨b,b9,rfl,q,m,n⟩:=hrel;by_cases c6:b<j+1
    ·have a1:=n.cell (a:=b) oz;have c0:=Vl c b;have J:(b:Int)<(j:Int)+1:=by omega
     have S:(List.range (b+1)).filter (fun a=>c a f)=(List.range b).filter (fun a=>c a f)++if c b f then [b] else []:=by
      rw [List.range_succ,List.filter_append];cases hq:c b f <;> simp [hq]
     have Q:=Q7j c b f oz;have y:=Zh S;have c1:((List.range b).filter (fun a=>c a f)).length<=33:=by
      have:=List.length_filter_le (fun a=>c a f) (List.range b);simp at this;omega
     clear S;cases hq:c b f
     ·rw [hq] at Q y;have a0:=Zh hq;clear hq;go_wp2
      go_roundw
      case rel=>exact⟨b+1,by omega,by go_num,by rw [y.out];simpa using q,m,n⟩
      case measure=>simp [intOf];omega
     ·rw [hq] at Q y;have a0:=Zh hq;clear hq
      go_wp2_with (at_builtin;refine Y1 rfl (.tmp 39) (.tmp 41) 36 rfl w.heap.size 3 _ 1 8 Tryz.underlying36 Tryz.infoI rfl zd _ _ _ rfl (Qa q ((Q0.refl _ wr).alloc _)) ⟨wr.heap.size,0,none⟩ 1 1 [.int .i64 b] rfl rfl (Y4 rfl) ?c2 ?c3 ?c4 ?c5 ?_)
      case c2=>first | rfl | (intro u W;simp at W;rcases W with rfl;rfl)
      case c3=>unfold maxLen;omega
      case c4=>omega
      case c5=>have:=m.size;simp;omega
      intro b3 b6 X a4 P _;have E:Q0 (fun b'=>u10.ownBlock=some b') wr X:=Q0.trans (Q0.alloc (Q0.refl _ wr) _) P;have a3:Ext w X:=m.after E (fun b' J e=>by have:=(q.lt _ e).1;omega);have a5:=n.keep E (fun e=>by obtain⟨b8,R⟩:=J7 q e;have a2:wr.heap[I]?=_:=n;rw [a2] at R;cases R);clear P E q m a1;go_wp2
      go_roundw
      case rel=>
       refine⟨b+1,by omega,by go_num,?_,a3,a5⟩;rw [y.out,if_pos tz,K5,List.length_append];exact a4
      case measure=>simp [intOf];omega
    ·obtain rfl:b=j+1:=by omega
     go_wp2;refine bodyPost_ret (Jr rfl _ _ _) rfl ⟨_,by rw [l.out];rfl,?_,m⟩;rw [Y.out];exact q
 ·have c9:(o == 0)=false:=by rw [beq_eq_false_iff_ne];exact r
  rw [if_neg r] at l;go_wp2;refine bodyPost_ret (Jr rfl _ _ _) rfl ⟨_,by rw [l.out];rfl,?_,A⟩;rw [z.out,l.out,if_neg r];exact World.ownsRow_nil _ _ _ _
theorem Q0d{w:World}{bx v:Nat}(a9:v<18446744073709551616)(a4:bx≠3)(j:Ju w bx v)(O:Tab w)(b6:(evs v).length<=64) :
  Calls Tryz.prog 117 #[.slice none 0 0,.func (.func 245) #[] #[.pointer (some ⟨bx,0,none⟩)]] w fun e w'=>∃ u,e=.returned u/\w'.ownsRow w.heap.size 3 1 u (evs v).length (Ye (evs v))/\Q0 (·=bx) w w':=by
 refine Zr Tryz.func117 rfl ?_;simp only [Tryz.ntmps117,zS,Nat.reduceAdd,Nat.reduceSub];go_wp2;obtain⟨a,p⟩:=zE w.heap.size;have b5:bx<a:=by rw [<-p];exact(Array.getElem?_eq_some_iff.1 j).1
 have b9:3<a:=by rw [<-p];exact Q1r O
 have C:(w.alloc (.cells #[.slice none 0 0] 36)).heap[a]?=some (.cells #[.slice none 0 0] 36 (0,0)):=new_at p.symm;have y:Ext w (w.alloc (.cells #[.slice none 0 0] 36)):=(Q0.refl _ w).alloc _;have a7:(w.alloc (.cells #[.slice none 0 0] 36)).heap.size=a+1:=by rw [<-p];simp
 generalize (w.alloc (.cells #[.slice none 0 0] 36))=G at C y a7 ⊢;have T:Ju G bx v:=y.keep j;have P:=O.keep y id;rw [p];have x:=Zh p;clear p
 refine S1 (xs:=evs v) (S:=(·=bx)) (K:=fun b'=>b'=bx\/b'=3) rfl (enters_of Tryz.func245 kz rfl)
  (Rx _ a9 bx a4 G T P) (fun _ i=>.inl i) (fun b' i=>by omega) (fun _=>rfl)
  (fun d f=>∃ u,f.heap[a]?=some (.cells #[u] 36 (0,0))/\f.ownsRow a 3 1 u d.length (Ye d)/\(∀ c,u.ownBlock=some c->c≠a/\c≠a+1/\c≠a+2)/\Q0 (·=bx) w f)
  (fun _ _ _=>False) ?hI ?hIx ?h0 (fun q t=>(t.setIfInBounds 7 (.int .i64 q)).setIfInBounds 5 (.int .i64 q)) ?assign ?body ?done ?stop
 case hI=>
  rintro d Z a0 ⟨u,k,g,n,s⟩ a8;have r:Q0 (fun b=>b=bx\/b=a+2) Z a0:=a8.mono (fun b _ i=>by omega);exact⟨u,r.heap k oz,Qc g r (fun b j e=>by have:=n b j;have:=(g.lt _ j).1;omega),n,s.after r (fun b' h1 h2=>by have:=x.out;omega)⟩
 case hIx=>exact fun _ _ _ _ i _=>i
 case h0=>
  intro f R _;exact⟨.slice none 0 0,R.keep C,World.ownsRow_nil _ _ _ _,(fun c B=>by cases B),Ext.of (Q0.trans y R)⟩
 case assign=>
  intro q f K a3;gi_wp2;exact a3
 case body=>
  rintro d q c0 f F b8 r ⟨u,k,g,n,s⟩;simp only [pq];have b7:d.length<64:=by
   have:=congrArg List.length F;simp at this;omega
  have H:=cell_of_one k;have a1:=free_of_one k;have b3:a<f.heap.size:=(Array.getElem?_eq_some_iff.1 k).1;have b4:=Zh F;clear F;refine wpIn_block ?_;refine Uc kz (by rintro⟨_,_,i⟩;exact i) ?_;have Y:=Zh k;clear k
  go_wp2_with (at_builtin;refine Y1 rfl (.tmp 8) (.tmp 10) 36 rfl a 3 _ 1 8 Tryz.underlying36 Tryz.infoI rfl zd _ _ _ rfl (Qa g ((Q0.refl _ f).alloc _)) ⟨f.heap.size,0,none⟩ 1 1 [.int .i64 q] rfl rfl (Y4 rfl) ?c2 ?c3 ?c4 ?c5 ?_)
  case c2=>first | rfl | (intro u V;simp at V;rcases V with rfl;rfl)
  case c3=>unfold maxLen;omega
  case c4=>omega
  case c5=>simp;omega
  intro l m o N Q I;have z:Q0 (fun b'=>u.ownBlock=some b') f o:=Q0.trans (Q0.alloc (Q0.refl _ f) _) Q;have D:=z.heap Y.out (fun e=>(n _ e).1 rfl);have J:Q0 (·=bx) w o:=s.after z (fun b' h1 e=>by have:=(g.lt _ e).1;have:=x.out;omega);have E:∀ c,(Value.slice l (d.length+1) m).ownBlock=some c->c≠a/\c≠a+1/\c≠a+2:=by
   intro c B;rcases I with e | e
   ·exact n c (e ▸ B)
   ·rw [B] at e;cases e;omega
  have b0:=cell_of_one D;have b2:=free_of_one D;have A:=Q0.set1 o a 0 (.slice l (d.length+1) m);have M:(o.setCell ⟨a,0,none⟩ (.slice l (d.length+1) m)).heap[a]?=some (.cells #[.slice l (d.length+1) m] 36 (0,0)):=by
   simp only [World.setCell,Array.getElem?_modify,D];simp
  have L:Q0 (fun b=>¬ ((b=bx\/b=3)\/b=a+1\/b=a+1+1)) f (o.setCell ⟨a,0,none⟩ (.slice l (d.length+1) m)):=
   (z.mono (fun b' _ e=>by have:=n _ e;have:=(g.lt _ e).1;omega)).trans (A.mono (fun b' _ e=>by omega))
  have U:∃ u,(o.setCell ⟨a,0,none⟩ (.slice l (d.length+1) m)).heap[a]?=some (.cells #[u] 36 (0,0))/\(o.setCell ⟨a,0,none⟩ (.slice l (d.length+1) m)).ownsRow a 3 1 u (d++[q]).length (Ye (d++[q]))/\(∀ c,u.ownBlock=some c->c≠a/\c≠a+1/\c≠a+2)/\Q0 (·=bx) w (o.setCell ⟨a,0,none⟩ (.slice l (d.length+1) m)):=by
   refine⟨_,M,?_,E,J.after A (fun b h1 h2=>by have:=x.out;omega)⟩;rw [K5,List.length_append];exact Qc N A (fun b j e=>(E b j).1 e)
  have X:=Zh L;have W:=Zh U;clear L U M A E J z Q N I H a1 g n s r;go_wp2;exact⟨X.out,W.out⟩
 case done=>
  rintro f ⟨u,k,g,n,s⟩ r a2;have H:=cell_of_one k;clear y T P C;go_wp2;have a6:Qt a ({ target:=.collected G.heap.size,args:=#[] }::[]) f:=Qt.cons (base:=a) trivial oz a2 (fun e he=>by cases he);refine Jo a6 (fun w'=>results_tmp rfl _ _ _) (fun w' ht' hs=>⟨u,rfl,?_,?_⟩)
  ·rw [x.out];exact Qc g ht' (fun b j e=>by obtain⟨b1,a5⟩:=J7 g j;exact Shut.not a5 rfl e)
  ·exact s.after ht' (fun b' h2 h3=>by have:=h3.1;have:=x.out;omega)
 case stop=>exact fun _ _ _ _ _ _ i=>i.elim
theorem Bi{w:World}{bx v:Nat}(i:v<18446744073709551616)(f:bx≠3)(d:Ju w bx v)(c:Tab w)(g:(evs v).length<=64) :
  Calls Tryz.prog 76 #[.func (.func 245) #[] #[.pointer (some ⟨bx,0,none⟩)]] w fun e w'=>∃ u,e=.returned u/\w'.ownsRow w.heap.size 3 1 u (evs v).length (Ye (evs v))/\Q0 (·=bx) w w':=by
 go_enter Tryz.func76,Tryz.ntmps76;go_wp2_with fail;refine(Q0d i f d c g).mono ?_;rintro e j ⟨u,rfl,a,b⟩;go_wp2;go_ret;exact⟨_,rfl,a,b⟩
theorem Ck(R:Qe)(a:Nat):evs (Q2 R a)=(List.range 33).filter (R a):=Lq R a
theorem Q0e{R:Qe}{a n:Nat}(g:n<=32)(e:∀ b,R a b=true->b<=n):(List.range 33).filter (R a)=(List.range (n+1)).filter (fun b=>R a b):=by
 have c:List.range 33=List.range (n+1)++(List.range (32 - n)).map (n+1+·):=by
  rw [<-List.range_add,show n+1+(32 - n)=33 by omega]
 rw [c,List.filter_append];have:((List.range (32 - n)).map (n+1+·)).filter (R a)=[]:=by
  rw [List.filter_eq_nil_iff];intro j f d;obtain⟨i,_,rfl⟩:=List.mem_map.1 f;have:=e _ d;omega
 rw [this,List.append_nil]
theorem Q52{K:Nat->Prop}{w:World}{p:Pat}{cs:List Value}{v:Value}{ws:Wd}(F:Qp K w p cs)(L:∀ g,K g->g<w.heap.size)(G:Q5 w v ws)(D:Tab w)(c:Int) :
  Calls Tryz.prog 236 #[.agg cs.toArray,v,.int .i64 c] w fun e w'=>∃ u,e=.returned (.tuple #[u,.int .i64 (Jk p ws c)])/\w'.ownsRow w.heap.size 3 1 u (Dk p ws c).length (Ye (Dk p ws c))/\Ext w w':=by
 have x:Qs ws.length (Vm p ws):=by
  unfold Vm
  split
  ·exact Kd ws p
  ·exact Qs.no _
 have H:=Zh D;have P:=fun(V:World) (hE:Ext w V)=>Mi (K:=K) (F.ext hE) (fun g hg=>Nat.lt_of_lt_of_le (L g hg) hE.size) (G.ext hE) (D.keep hE id);obtain⟨a7,b1,rfl,a1,a0,_⟩:=Yw F;obtain⟨a9,a8,rfl,Z⟩:=G.slice;clear F a1 a0 G D L;have n:=Zh P;clear P;obtain⟨l,y⟩:=zE (Vg p ws);obtain⟨b,A⟩:=zE (Vm p ws);obtain⟨i,q⟩:=zE ws.length;have j:Hid (Jk p ws c=if l=0 then exE i c else l):=Zh (by unfold Jk;rw [y,q]);have s:Hid (Dk p ws c=if Jk p ws c=0 then(List.range (i+1)).filter (fun k=>b c.toNat k) else []):=Zh (by unfold Dk;rw [A,q])
 have O:l=0->i<=32:=fun h=>by
  subst y;subst q;exact S6 h
 rw [y] at n;rw [A] at n x;rw [q] at n Z x ⊢;have T:=Zh x;clear x;clear y A q;have U:=Zh O;clear O;unfold Qf at n ⊢;have a4:=Yp;have a5:=Qk noB;have a6:=Yb noB;go_enter Tryz.func236,Tryz.ntmps236;go_wp2_with fail;refine(n.out _ ((Q0.refl _ w).alloc _)).mono ?_;rintro e f ⟨rfl,J⟩;have I:Ext w f:=Q0.trans ((Q0.refl _ w).alloc _) J;clear J;have B:(f.alloc (.cells (Q6 noB) 257)).heap[f.heap.size]?=some (.cells (Q6 noB) 257 (0,0)):=new_at rfl;have C:Q7 ((f.alloc (.cells (Q6 noB) 257)).setRow f.heap.size (Q3 (Q2 b))) f.heap.size (Q2 b):=setRow_heap _ _ _ _ _ _ B;have o:Ext w ((f.alloc (.cells (Q6 noB) 257)).setRow f.heap.size (Q3 (Q2 b))):=I.trans (((Q0.refl _ f).alloc _).after (Q0.setRow _ _ _) (fun b' h1 h2=>by omega));go_upto_region 2 with (refine wpList_store_row rfl 257 (.tmp 8) (.tmp 14) rfl f.heap.size (Q3 (Q2 b)) rfl rfl _ _ B (Tryz.relInfo _) (by rw [Qk,Q9]) (Qh _) ?_)
 generalize ((f.alloc (.cells (Q6 noB) 257)).setRow f.heap.size (Q3 (Q2 b)))=b7 at C o ⊢;generalize f.heap.size=k at C ⊢;clear B I a4 a5 a6;by_cases m:l=0
 ·have a2:=U.out m;rw [if_pos m] at j;subst m;go_wp2_with fail;refine(Mq _ _ _ _ _).mono ?_;rintro e R ⟨rfl,rfl⟩;by_cases E:c<0\/(i:Int)<c
  ·have r:exE i c=3:=by unfold exE;rw [if_pos E]
   rw [r] at j ⊢;clear r;go_wp2;refine bodyPost_ret (Jr rfl _ _ _) rfl ⟨_,by rw [j.out];rfl,?_,o⟩;rw [s.out,j.out,if_neg zd];exact World.ownsRow_nil _ _ _ _
  ·have r:exE i c=0:=by unfold exE;rw [if_neg E]
   rw [r] at j ⊢;obtain⟨d,rfl⟩:∃ d:Nat,c=d:=⟨c.toNat,by omega⟩;have S:Hid (Dk p ws d=(List.range (i+1)).filter (fun k=>b d k)):=Zh (by rw [s.out,j.out];rfl);have b4:d<=i:=by omega
   have b0:=C.cell (a:=d) oz;have b3:=Vl b d;have Q:(List.range 33).filter (b d)=(List.range (i+1)).filter (fun k=>b d k):=Q0e a2 (fun k hb=>(T.out d k hb).2);have W:=Zh Q;clear r s E Q
   go_wp2_with (go_at_call 242;refine(Cb _ _).mono ?_;rintro e w' ⟨rfl,rfl⟩)
   have b2:=Q1r H.out;have b5:=o.size;have t:Ext w (R.alloc (.cells #[.int .u64 (Q2 b d:Int)] 255)):=Q0.alloc o _;have N:(evs (Q2 b d)).length<=64:=by
    rw [Ck];have:=List.length_filter_le (b d) (List.range 33);simp at this;omega
   refine(Bi (v:=Q2 b d) (bx:=R.heap.size) oz oz (new_at rfl) (H.out.keep t id) N).mono ?_;rintro e a3 ⟨u,rfl,z,M⟩;rw [Ck,W.out,<-S.out] at z;have X:Ext w a3:=t.after M (fun b' h1 h2=>by omega);have Y:=Ji z t.size;clear z M t N;go_wp2;exact bodyPost_ret (Jr rfl _ _ _) rfl ⟨_,by rw [j.out];rfl,Y,X⟩
 ·have b6:(l == 0)=false:=by rw [beq_eq_false_iff_ne];exact m
  rw [if_neg m] at j;go_wp2;refine bodyPost_ret (Jr rfl _ _ _) rfl ⟨_,by rw [j.out];rfl,?_,o⟩;rw [s.out,j.out,if_neg m];exact World.ownsRow_nil _ _ _ _
end Go.Proofs.YtejenndedjabhaaGreatDoor
