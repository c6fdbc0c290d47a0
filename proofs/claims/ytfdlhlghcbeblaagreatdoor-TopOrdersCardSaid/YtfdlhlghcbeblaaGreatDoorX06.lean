/- pats.relate. -/
import Derived.Test.YtfdlhlghcbeblaaGreatDoorX04
set_option maxRecDepth 100000
set_option maxHeartbeats 8000000
namespace Go.Proofs.YtfdlhlghcbeblaaGreatDoor
open Go.RowKit Go.Ab
attribute [local go_sem] Oper.semAt_some Z8 Qp
def V0(p:Pat)(ws:Wd):Int:=if Y5 p=0 then(if 32<ws.length then 11 else if Xi ws=true then 0 else 14) else Y5 p
def Vh(p:Pat)(ws:Wd):Qi:=if V0 p ws=0 then V9 ws p else noB
theorem Fx{a:Func}{p u:Tmp}(h:a.results=#[.cell p 363,.tmp u]){tmps:Array Value}{w:World}{g:Nat}{f:Nat->Nat}(c:tmps.getD p undef=.pointer (some ⟨g,0,none⟩)) (b:Q8 w g f) :
  (results a tmps).run Tryz.prog w=.ok (.tuple #[.agg (Q4 f),tmps.getD u undef]) w:=by
 have d:tmps[p]?.getD undef=.pointer (some ⟨g,0,none⟩):=by simpa using c
 simp [results,h,d,asAddr,run_loadVar_row w g _ _ _ _ _ b Tryz.underlying363 rfl (Tryz.relInfo f)]
theorem Mk{K:Nat->Prop}{w:World}{p:Pat}{cs:List Value}{v:Value}{ws:Wd}(J:Qm K w p cs)(b0:∀ g,K g->g<w.heap.size)(M:Qa w v ws)(X:Tab w) :
  Calls Tryz.prog 291 #[.agg cs.toArray,v] w fun e w'=>e=.returned (.tuple #[.agg (Q4 (Q3 (Vh p ws))),.int .i64 (V0 p ws)])/\Ext w w':=by
 have b2:=fun(c:World) (hE:Ext w c)=>Du (K:=K) (J.ext hE) (fun g hg=>Nat.lt_of_lt_of_le (b0 g hg) hE.size) (X.keep hE id);have b3:=fun(c:World) (hE:Ext w c)=>Fw p K c cs (J.ext hE);have b1:=fun(c:World) (hE:Ext w c)=>T4 (M.ext hE);have a5:=Zh M;have c2:=Zh X;obtain⟨s,t,rfl,d2,d1,_⟩:=Y2 J;obtain⟨d9,d8,rfl,d0⟩:=M.slice;clear J d2 d1 M X b0;obtain⟨S,a2,R⟩:=Zh3 b2 b3 b1;clear b2 b3 b1;obtain⟨r,N⟩:=zE (Y5 p);obtain⟨a6,I⟩:=zE (Xi ws);obtain⟨q,H⟩:=zE ws.length;have d:Hid (V0 p ws=if r=0 then(if 32<q then 11 else if a6=true then 0 else 14) else r):=Zh (by unfold V0;rw [N,I,H]);rw [N] at S;rw [I] at R;rw [H] at R a5 d0 ⊢;obtain⟨c3,d7,c1⟩:=Zh3 N I H;clear N I H;unfold Qd at S a2 ⊢;have e2:=Ym;have e3:=Qn noB;have e4:=Y6 noB;go_enter Tryz.func291,Tryz.ntmps291;go_wp2_with fail;obtain⟨a,x⟩:=zE w.heap.size;have a0:((w.alloc (.cells #[.int .i64 p.k,.int .u32 (p.pl:Int),.int .u32 (p.mi:Int),.bool p.nt,.int .i64 p.mn,.int .i64 p.mx,.slice s p.l.length t] 98)).alloc (.cells (Q6 noB) 363)).heap[a]?=some (.cells #[.int .i64 p.k,.int .u32 (p.pl:Int),.int .u32 (p.mi:Int),.bool p.nt,.int .i64 p.mn,.int .i64 p.mx,.slice s p.l.length t] 98 (0,0)):=by
  subst x;exact Q7 (Q5 rfl)
 have Z:Q8 ((w.alloc (.cells #[.int .i64 p.k,.int .u32 (p.pl:Int),.int .u32 (p.mi:Int),.bool p.nt,.int .i64 p.mn,.int .i64 p.mx,.slice s p.l.length t] 98)).alloc (.cells (Q6 noB) 363)) (a+1) (Q3 noB):=by
  subst x;exact Q5 zy
 have F:Ext w ((w.alloc (.cells #[.int .i64 p.k,.int .u32 (p.pl:Int),.int .u32 (p.mi:Int),.bool p.nt,.int .i64 p.mn,.int .i64 p.mx,.slice s p.l.length t] 98)).alloc (.cells (Q6 noB) 363)):=((Q0.refl _ w).alloc _).alloc _;generalize ((w.alloc (.cells #[.int .i64 p.k,.int .u32 (p.pl:Int),.int .u32 (p.mi:Int),.bool p.nt,.int .i64 p.mn,.int .i64 p.mx,.slice s p.l.length t] 98)).alloc (.cells (Q6 noB) 363))=e1 at a0 Z F ⊢;rw [x];have B:=Zh x;clear x;refine(S.out _ F).mono ?_;rintro e P ⟨rfl,G⟩;have a1:=G.keep a0;have o:=Z.keep G id;have y:=F.trans G;clear F G a0 Z
 have a7:∀(c:World) (C:Int) (A:Array Value) (U:List Deferred),Q8 c (a+1) (Q3 noB)->Ext w c->U=[]->C=V0 p ws->C≠0->A.getD 4 undef=.pointer (some ⟨a+1,0,none⟩)->A.getD 5 undef=.int .i64 C ->
   bodyPost Tryz.prog Tryz.f291 (fun e w'=>e=.returned (.tuple #[.agg (Q4 (Q3 (Vh p ws))),.int .i64 (V0 p ws)])/\Ext w w') .ret { tmps:=A,defers:=U } c:=by
  intro c C A U n u c4 a9 c5 c6 c7;subst c4;refine bodyPost_ret (Fx rfl c6 n) rfl ⟨?_,u⟩;have:Vh p ws=noB:=by unfold Vh;rw [if_neg (a9 ▸ c5)]
  rw [this,<-a9];show Ending.returned (.tuple #[_,A.getD 5 undef])=_;rw [c7]
 have Q:=Zh a7;clear a7;have T:=zR a1;by_cases O:r=0
 ·rw [if_pos O] at d;subst O;by_cases b4:32<q
  ·rw [if_pos b4] at d;have n:(32:Int)<(q:Int):=by omega
   have m:Q8 (P.setRow (a+1) (Q4 (Q3 noB))) (a+1) (Q3 noB):=setRow_heap _ _ _ _ _ _ o;have i:Ext w (P.setRow (a+1) (Q4 (Q3 noB))):=y.after (Q0.setRow _ _ _) (fun b' n u=>by have:=B.out;omega)
   go_wp2_with (refine wpList_store_row rfl 363 (.tmp 4) (.tmp 18) rfl (a+1) (Q4 (Q3 noB)) rfl rfl _ _ o (Tryz.relInfo _) (by simp only [Q9]) (Ql _) ?_)
   exact Q.out _ 11 _ _ m i rfl d.out.symm oz rfl rfl
  ·rw [if_neg b4] at d;have n:¬ (32:Int)<(q:Int):=by omega
   go_wp2_with fail;refine(R.out _ y).mono ?_;rintro e b9 ⟨rfl,i⟩;have b7:=i.keep a1;have m:=o.keep i id;have D:=y.trans i;clear i a1 o y T;have T:=zR b7;cases a6
   ·have L:Q8 (b9.setRow (a+1) (Q4 (Q3 noB))) (a+1) (Q3 noB):=setRow_heap _ _ _ _ _ _ m;have z:Ext w (b9.setRow (a+1) (Q4 (Q3 noB))):=D.after (Q0.setRow _ _ _) (fun b' n u=>by have:=B.out;omega)
    go_wp2_with (refine wpList_store_row rfl 363 (.tmp 4) (.tmp 22) rfl (a+1) (Q4 (Q3 noB)) rfl rfl _ _ m (Tryz.relInfo _) (by simp only [Q9]) (Ql _) ?_)
    exact Q.out _ 14 _ _ L z rfl d.out.symm oz rfl rfl
   ·have b5:K2 p:=Q6e c3.out;have a4:=Zh b5;clear b5;go_wp2_with fail;refine(a2.out _ D a4.out).mono ?_;rintro e d6 ⟨e0,rfl,W,z⟩;obtain⟨b8,rfl⟩:=Xc W;have d5:=Vs (cmp p) b8;have d4:=Gm (cmp p);have L:=m.keep z id;have E:=D.trans z;have Y:=Sa (cmp p) _ d6 b8 _ ws W (a5.out.ext E) (by rw [c1.out];omega) (c2.out.keep E id);rw [Hv ws p a4.out] at Y;have a3:=Zh Y;clear Y z m D b7 T W;go_wp2_with fail;clear d5 d4;refine a3.out.mono ?_;rintro e c0 ⟨rfl,V⟩;have b6:=L.keep V id;have c8:=E.trans V;have d3:Q8 (c0.setRow (a+1) (Q4 (Q3 (V9 ws p)))) (a+1) (Q3 (V9 ws p)):=setRow_heap _ _ _ _ _ _ b6;have c9:Ext w (c0.setRow (a+1) (Q4 (Q3 (V9 ws p)))):=c8.after (Q0.setRow _ _ _) (fun b' n u=>by have:=B.out;omega);clear a3 L E V
    go_wp2_with (refine wpList_store_row rfl 363 (.tmp 4) (.tmp 26) rfl (a+1) (Q4 (Q3 (V9 ws p))) rfl rfl _ _ b6 (Tryz.relInfo _) (by simp only [Q9]) (Ql _) ?_)
    refine bodyPost_ret (Fx rfl rfl d3) rfl ⟨?_,c9⟩;have a8:V0 p ws=0:=d.out;have:Vh p ws=V9 ws p:=by unfold Vh;rw [if_pos a8]
    rw [this,a8];rfl
 ·rw [if_neg O] at d;have m:Q8 (P.setRow (a+1) (Q4 (Q3 noB))) (a+1) (Q3 noB):=setRow_heap _ _ _ _ _ _ o;have i:Ext w (P.setRow (a+1) (Q4 (Q3 noB))):=y.after (Q0.setRow _ _ _) (fun b' n u=>by have:=B.out;omega)
  go_wp2_with (refine wpList_store_row rfl 363 (.tmp 4) (.tmp 12) rfl (a+1) (Q4 (Q3 noB)) rfl rfl _ _ o (Tryz.relInfo _) (by simp only [Q9]) (Ql _) ?_)
  exact Q.out _ r _ _ m i rfl d.out.symm O rfl rfl
def exE(n:Nat)(at':Int):Int:=if at'<0\/(n:Int)<at' then 3 else 0
theorem Lp(ao:Option Addr)(n cap:Nat)(a:Int)(w:World) :
  Calls Tryz.prog 292 #[.slice ao n cap,.int .i64 a] w fun e w'=>e=.returned (.int .i64 (exE n a))/\w'=w:=by
 by_cases c:a<0
 ·have b:Hid (exE n a=3):=Zh (by unfold exE;rw [if_pos (.inl c)]);go_enter Tryz.func292,Tryz.ntmps292;go_wp2;go_ret;exact⟨by rw [b.out];rfl,rfl⟩
 ·by_cases d:(n:Int)<a
  ·have b:Hid (exE n a=3):=Zh (by unfold exE;rw [if_pos (.inr d)]);go_enter Tryz.func292,Tryz.ntmps292;go_wp2;go_ret;exact⟨by rw [b.out];rfl,rfl⟩
  ·have b:Hid (exE n a=0):=Zh (by unfold exE;rw [if_neg oz]);go_enter Tryz.func292,Tryz.ntmps292;go_wp2;go_ret;exact⟨by rw [b.out];rfl,rfl⟩
theorem Q8x(x n:Nat)(c:x<18446744073709551616):(bits .and .u64 ((x:Int) / 2 ^ n) 1 == 1)=x.testBit n:=by
 have a:((x:Int) / 2 ^ n)=((x / 2 ^ n:Nat):Int):=by simp
 have b:bits .and .u64 ((x / 2 ^ n:Nat):Int) ((1:Nat):Int)=((x / 2 ^ n &&& 1:Nat):Int):=u64_and_nat _ _ (Nat.lt_of_le_of_lt (Nat.div_le_self _ _) c) zd;rw [a,show (1:Int)=((1:Nat):Int) from rfl,b,Nat.and_one_is_mod,Nat.testBit_eq_decide_div_mod_eq,Bool.eq_iff_iff,beq_iff_eq,decide_eq_true_iff];omega
theorem Q8y(R:Qi)(a n:Nat)(b:n<=32):(bits .and .u64 ((Q3 R a:Int) / 2 ^ n) 1 == 1)=R a n:=by
 rw [Q8x _ _ (by have:=Vk R a;omega),Q59 R oz]
theorem Sx{p:Pat}{ws:Wd}(h:V0 p ws=0):ws.length<=32:=by
 unfold V0 at h;by_cases a:Y5 p=0
 ·rw [if_pos a] at h;by_cases b:32<ws.length
  ·rw [if_pos b] at h;cases h
  ·omega
 ·rw [if_neg a] at h;exact absurd h a
def Qas(p:Pat)(ws:Wd):Bool:=decide (V0 p ws=0) && Vh p ws 0 ws.length
theorem Ja{a:Func}{t u:Tmp}(h:a.results=#[.tmp t,.tmp u])(tmps:Array Value)(P:Program)(w:World) :
  (results a tmps).run P w=.ok (.tuple #[tmps.getD t undef,tmps.getD u undef]) w:=by
 simp [results,h]
def J7(p:Pat)(ws:Wd)(at':Int):Int:=if V0 p ws=0 then exE ws.length at' else V0 p ws
def Ww(p:Pat)(ws:Wd)(at':Int):List Nat:=if J7 p ws at'=0 then(List.range (ws.length+1)).filter (fun a=>Vh p ws a at'.toNat) else []
def Wx(p:Pat)(ws:Wd)(at':Int):List Nat:=if J7 p ws at'=0 then(List.range (ws.length+1)).filter (fun b=>Vh p ws at'.toNat b) else []
def Qj(l:List Nat):List Value:=l.map fun(x:Nat)=>Value.int .i64 (x:Int)
theorem Tryz.infoI:(Tryz.prog.info? 3).map (fun i=>(i.zero,i.size,i.bytes))=some (some (.int .i64 0),1,8):=by kernel_rfl
theorem Zc{w:World}{base:Nat}{e:TypeId}{sz n g:Nat}{v:Value}{xs:List Value}(h:w.ownsRow base e sz v n xs)(a:v.ownBlock=some g):∃ cur,w.heap[g]?=some (.cells cur e (0,0)):=by
 rcases h.2 with ⟨rfl,_⟩ | ⟨d,c,cur,rfl,_,b,_⟩
 ·cases a
 ·cases a;exact⟨cur,b⟩
theorem X8(l:List Nat)(x:Nat):Qj (l++[x])=Qj l++[.int .i64 (x:Int)]:=by simp [Qj]
theorem Q01{K:Nat->Prop}{w:World}{p:Pat}{cs:List Value}{v:Value}{ws:Wd}(G:Qm K w p cs)(N:∀ g,K g->g<w.heap.size)(H:Qa w v ws)(O:Tab w)(d:Int) :
  Calls Tryz.prog 279 #[.agg cs.toArray,v,.int .i64 d] w fun e w'=>∃ u,e=.returned (.tuple #[u,.int .i64 (J7 p ws d)])/\w'.ownsRow w.heap.size 3 1 u (Ww p ws d).length (Qj (Ww p ws d))/\Ext w w':=by
 have U:=fun(V:World) (m:Ext w V)=>Mk (K:=K) (G.ext m) (fun g hg=>Nat.lt_of_lt_of_le (N g hg) m.size) (H.ext m) (O.keep m id);obtain⟨b2,b7,rfl,a8,a7,_⟩:=Y2 G;obtain⟨b5,b4,rfl,a6⟩:=H.slice;clear G a8 a7 H O N;have s:=Zh U;clear U;obtain⟨o,B⟩:=zE (V0 p ws);obtain⟨c,n⟩:=zE (Vh p ws);obtain⟨j,t⟩:=zE ws.length;have l:Hid (J7 p ws d=if o=0 then exE j d else o):=Zh (by unfold J7;rw [B,t]);have z:Hid (Ww p ws d=if J7 p ws d=0 then(List.range (j+1)).filter (fun a=>c a d.toNat) else []):=Zh (by unfold Ww;rw [n,t])
 have T:o=0->j<=32:=fun h=>by
  subst B;subst t;exact Sx h
 rw [B] at s;rw [n] at s;rw [t] at s a6 ⊢;clear B n t;have Z:=Zh T;clear T;unfold Qd at s ⊢;have a9:=Ym;have b0:=Qn noB;have b1:=Y6 noB;go_enter Tryz.func279,Tryz.ntmps279;go_wp2_with fail;refine(s.out _ ((Q0.refl _ w).alloc _)).mono ?_;rintro e k ⟨rfl,M⟩;have L:Ext w k:=Q0.trans ((Q0.refl _ w).alloc _) M;clear M;have C:(k.alloc (.cells (Q6 noB) 363)).heap[k.heap.size]?=some (.cells (Q6 noB) 363 (0,0)):=Q5 rfl;have D:Q8 ((k.alloc (.cells (Q6 noB) 363)).setRow k.heap.size (Q4 (Q3 c))) k.heap.size (Q3 c):=setRow_heap _ _ _ _ _ _ C;have A:Ext w ((k.alloc (.cells (Q6 noB) 363)).setRow k.heap.size (Q4 (Q3 c))):=L.trans (((Q0.refl _ k).alloc _).after (Q0.setRow _ _ _) (fun b' J h2=>by omega));go_upto_region 2 with (refine wpList_store_row rfl 363 (.tmp 8) (.tmp 16) rfl k.heap.size (Q4 (Q3 c)) rfl rfl _ _ C (Tryz.relInfo _) (by rw [Qn,Q9]) (Ql _) ?_)
 generalize ((k.alloc (.cells (Q6 noB) 363)).setRow k.heap.size (Q4 (Q3 c)))=d0 at D A ⊢;generalize k.heap.size=I at D ⊢;clear C L a9 b0 b1;by_cases r:o=0
 ·have c8:=Z.out r;rw [if_pos r] at l;subst r;go_wp2_with fail;refine(Lp _ _ _ _ _).mono ?_;rintro e d1 ⟨rfl,rfl⟩;by_cases F:d<0\/(j:Int)<d
  ·have x:exE j d=3:=by unfold exE;rw [if_pos F]
   rw [x] at l ⊢;clear x;go_wp2;refine bodyPost_ret (Ja rfl _ _ _) rfl ⟨_,by rw [l.out];rfl,?_,A⟩;rw [z.out,l.out,if_neg zd];exact World.ownsRow_nil _ _ _ _
  ·have x:exE j d=0:=by unfold exE;rw [if_neg F]
   rw [x] at l ⊢;obtain⟨f,rfl⟩:∃ f:Nat,d=f:=⟨d.toNat,by omega⟩;have Y:Hid (Ww p ws f=(List.range (j+1)).filter (fun a=>c a f)):=Zh (by rw [z.out,l.out];rfl);have c7:f<=j:=by omega
   clear x z F;go_wp2
   go_loopw [10,29] (fun v i wr=>∃ b:Nat,b<=j+1/\i=.int .i64 b/\wr.ownsRow w.heap.size 3 1 v ((List.range b).filter (fun a=>c a f)).length (Qj ((List.range b).filter (fun a=>c a f)))/\Ext w wr/\Q8 wr I (Q3 c)) (fun _ i _=>j+1 - (intOf i).toNat)
   case atStart=>exact⟨0,Nat.zero_le _,rfl,World.ownsRow_nil _ _ _ _,A,D⟩
   case round=>
    obtain⟨b,b9,rfl,q,m,n⟩:=hrel;by_cases c6:b<j+1
    ·have a1:=n.cell (a:=b) oz;have c0:=Vk c b;have J:(b:Int)<(j:Int)+1:=by omega
     have S:(List.range (b+1)).filter (fun a=>c a f)=(List.range b).filter (fun a=>c a f)++if c b f then [b] else []:=by
      rw [List.range_succ,List.filter_append];cases hq:c b f <;> simp [hq]
     have Q:=Q8y c b f oz;have y:=Zh S;have c1:((List.range b).filter (fun a=>c a f)).length<=33:=by
      have:=List.length_filter_le (fun a=>c a f) (List.range b);simp at this;omega
     clear S;cases hq:c b f
     ·rw [hq] at Q y;have a0:=Zh hq;clear hq;go_wp2
      go_roundw
      case rel=>exact⟨b+1,by omega,by go_num,by rw [y.out];simpa using q,m,n⟩
      case measure=>simp [intOf];omega
     ·rw [hq] at Q y;have a0:=Zh hq;clear hq
      go_wp2_with (at_builtin;refine Zo rfl (.tmp 39) (.tmp 41) 48 rfl w.heap.size 3 _ 1 8 Tryz.underlying48 Tryz.infoI rfl zd _ _ _ rfl (Qc q ((Q0.refl _ wr).alloc _)) ⟨wr.heap.size,0,none⟩ 1 1 [.int .i64 b] rfl rfl (Ze rfl) ?c2 ?c3 ?c4 ?c5 ?_)
      case c2=>first | rfl | (intro u W;simp at W;rcases W with rfl;rfl)
      case c3=>unfold maxLen;omega
      case c4=>omega
      case c5=>have:=m.size;simp;omega
      intro b3 b6 X a4 P _;have E:Q0 (fun b'=>u10.ownBlock=some b') wr X:=Q0.trans (Q0.alloc (Q0.refl _ wr) _) P;have a3:Ext w X:=m.after E (fun b' J e=>by have:=(q.lt _ e).1;omega);have a5:=n.keep E (fun e=>by obtain⟨b8,R⟩:=Zc q e;have a2:wr.heap[I]?=_:=n;rw [a2] at R;cases R);clear P E q m a1;go_wp2
      go_roundw
      case rel=>
       refine⟨b+1,by omega,by go_num,?_,a3,a5⟩;rw [y.out,if_pos tz,X8,List.length_append];exact a4
      case measure=>simp [intOf];omega
    ·obtain rfl:b=j+1:=by omega
     go_wp2;refine bodyPost_ret (Ja rfl _ _ _) rfl ⟨_,by rw [l.out];rfl,?_,m⟩;rw [Y.out];exact q
 ·have c9:(o == 0)=false:=by rw [beq_eq_false_iff_ne];exact r
  rw [if_neg r] at l;go_wp2;refine bodyPost_ret (Ja rfl _ _ _) rfl ⟨_,by rw [l.out];rfl,?_,A⟩;rw [z.out,l.out,if_neg r];exact World.ownsRow_nil _ _ _ _
theorem Q2a(l:List Nat){k:Nat}(h:k<l.length):(Qj l).getD k undef=.int .i64 (l[k]:Int):=by
 simp [Qj,List.getD_eq_getElem?_getD,h]
theorem Ck{l m:List Nat}{k:Nat}(a:k<l.length)(b:k<m.length)(h:l.take k=m.take k)(e:l[k]=m[k]):l.take (k+1)=m.take (k+1):=by
 rw [List.take_succ_eq_append_getElem a,List.take_succ_eq_append_getElem b,h,e]
theorem Rd.intT{w:World}{v:Value}{l:List Nat}(h:Rd w v l.length 1 (Qj l)):∃ ao cap,v=.slice ao l.length cap/\l.length<=maxLen/\∀ k (hk:k<l.length),∃ g off,ao=some ⟨g,off,none⟩/\w.cell? ⟨g,off+k,none⟩=some (.int .i64 (l[k]:Int)):=by
 obtain⟨f,a,ao,cap,e,b⟩:=h;refine⟨ao,cap,e,a,fun k hk=>?_⟩;obtain⟨g,off,c,i,d⟩:=b oz;have:=d k oz;rw [Q2a l hk] at this;exact⟨g,off,c,this⟩
theorem Q10{w:World}{u v:Value}{l m:List Nat}(Q:Rd w u l.length 1 (Qj l)) (R:Rd w v m.length 1 (Qj m)) :
  Calls Tryz.prog 30 #[u,v] w fun e w'=>e=.returned (.bool (decide (l=m)))/\Ext w w':=by
 obtain⟨U,Z,rfl,L,K⟩:=Rd.intT Q;obtain⟨W,V,rfl,N,M⟩:=Rd.intT R;unfold maxLen at L N;have S:=Zh K;have T:=Zh M;clear K M Q R;obtain⟨c,x⟩:=zE l.length;obtain⟨n,t⟩:=zE m.length;have r:=Zh x;have q:=Zh t;rw [x] at L ⊢;rw [t] at N ⊢;clear x t;by_cases F:c=n
 ·subst F;go_enter Tryz.func30,Tryz.ntmps30;go_wp2
  refine wp_loop (fun a B=>∃(b:Nat),b<=c/\a.defers=[]/\gS a [0,1,5]=(26,[.slice U c Z,.slice W c V,.int .i64 b])/\l.take b=m.take b/\Ext w B)
   (fun a _=>c - (intOf (a.tmps.getD 5 undef)).toNat) ?_ ?_
  ·exact⟨0,by omega,rfl,rfl,rfl,Q0.refl _ _⟩
  rintro⟨a7,_⟩ B ⟨b,a4,a0,P,G,f⟩;subst a0;obtain⟨u,rfl⟩:=Z0 P;clear P;have A:=Zh G;clear G;by_cases H:b<c
  ·have E:(b:Int)<(c:Int):=by omega
   have I:b<l.length:=by rw [r.out];exact H
   have J:b<m.length:=by rw [q.out];exact H
   obtain⟨a2,a5,rfl,C⟩:=S.out b I;obtain⟨a3,a6,rfl,D⟩:=T.out b J;have X:=f.cell_some C id;have Y:=f.cell_some D id;have k:=Zh (fun d=>Ck (l:=l) (m:=m) I J A.out d);have O:l[b]≠m[b]->l≠m:=fun h e=>h (by simp [e]);have j:=Zh O;obtain⟨d,y⟩:=zE (l[b]);obtain⟨i,z⟩:=zE (m[b]);rw [y,z] at k j;rw [y] at X;rw [z] at Y;clear O C D y z;by_cases o:d=i
   ·have s:=Zh (k.out o);have a1:((d:Int) ==(i:Int))=true:=by rw [beq_iff_eq];omega
    clear k j;subst o;go_wp2
    go_quiet (fail)
    go_wp2;exact⟨⟨b+1,by omega,tz,rfl,s.out,Q0.drewN f _⟩,nz⟩
   ·have s:=Zh (j.out o);have a1:((d:Int) ==(i:Int))=false:=by rw [beq_eq_false_iff_ne];omega
    clear k j o;go_wp2
    go_quiet (fail)
    go_wp2;go_ret;exact⟨by rw [decide_eq_false s.out];rfl,Q0.drewN f _⟩
  ·obtain rfl:b=c:=by omega
   have E:¬ (b:Int)<(b:Int):=by omega
   have g:l=m:=by
    have:=A.out
    rwa [List.take_of_length_le (by rw [r.out];exact Nat.le_refl _),List.take_of_length_le (by rw [q.out];exact Nat.le_refl _)] at this
   have p:=Zh g;clear g;go_wp2;go_ret;exact⟨by rw [decide_eq_true p.out];rfl,f⟩
 ·have g:l≠m:=fun h=>F (by rw [<-r.out,<-q.out,h]);have p:=Zh g;have E:((c:Int) ==(n:Int))=false:=by rw [beq_eq_false_iff_ne];omega
  clear g;go_enter Tryz.func30,Tryz.ntmps30;go_wp2;go_ret;exact⟨by rw [decide_eq_false p.out];rfl,Q0.refl _ _⟩
theorem Q07{w:World}{bx v:Nat}(a9:v<18446744073709551616)(a4:bx≠0)(j:Je w bx v)(O:Tab w)(b6:(evs v).length<=64) :
  Calls Tryz.prog 193 #[.slice none 0 0,.func (.func 301) #[] #[.pointer (some ⟨bx,0,none⟩)]] w fun e w'=>∃ u,e=.returned u/\w'.ownsRow w.heap.size 3 1 u (evs v).length (Qj (evs v))/\Q0 (·=bx) w w':=by
 refine Z3 Tryz.func193 rfl ?_;simp only [Tryz.ntmps193,zS,Nat.reduceAdd,Nat.reduceSub];go_wp2;obtain⟨a,p⟩:=zE w.heap.size;have b5:bx<a:=by rw [<-p];exact(Array.getElem?_eq_some_iff.1 j).1
 have b9:0<a:=by rw [<-p];exact Q15 O
 have C:(w.alloc (.cells #[.slice none 0 0] 48)).heap[a]?=some (.cells #[.slice none 0 0] 48 (0,0)):=Q5 p.symm;have y:Ext w (w.alloc (.cells #[.slice none 0 0] 48)):=(Q0.refl _ w).alloc _;have a7:(w.alloc (.cells #[.slice none 0 0] 48)).heap.size=a+1:=by rw [<-p];simp
 generalize (w.alloc (.cells #[.slice none 0 0] 48))=G at C y a7 ⊢;have T:Je G bx v:=y.keep j;have P:=O.keep y id;rw [p];have x:=Zh p;clear p
 refine R4 (xs:=evs v) (S:=(·=bx)) (K:=fun b'=>b'=bx\/b'=0) rfl (enters_of Tryz.func301 kz rfl)
  (Sy _ a9 bx a4 G T P) (fun _ i=>.inl i) (fun b' i=>by omega) (fun _=>rfl)
  (fun d f=>∃ u,f.heap[a]?=some (.cells #[u] 48 (0,0))/\f.ownsRow a 3 1 u d.length (Qj d)/\(∀ c,u.ownBlock=some c->c≠a/\c≠a+1/\c≠a+2)/\Q0 (·=bx) w f)
  (fun _ _ _=>False) ?hI ?hIx ?h0 (fun q t=>(t.setIfInBounds 7 (.int .i64 q)).setIfInBounds 5 (.int .i64 q)) ?assign ?body ?done ?stop
 case hI=>
  rintro d Z a0 ⟨u,k,g,n,s⟩ a8;have r:Q0 (fun b=>b=bx\/b=a+2) Z a0:=a8.mono (fun b _ i=>by omega);exact⟨u,r.heap k oz,Qf g r (fun b j e=>by have:=n b j;have:=(g.lt _ j).1;omega),n,s.after r (fun b' h1 h2=>by have:=x.out;omega)⟩
 case hIx=>exact fun _ _ _ _ i _=>i
 case h0=>
  intro f R _;exact⟨.slice none 0 0,R.keep C,World.ownsRow_nil _ _ _ _,(fun c B=>by cases B),Ext.of (Q0.trans y R)⟩
 case assign=>
  intro q f K a3;gi_wp2;exact a3
 case body=>
  rintro d q c0 f F b8 r ⟨u,k,g,n,s⟩;simp only [pq];have b7:d.length<64:=by
   have:=congrArg List.length F;simp at this;omega
  have H:=cell_of_one k;have a1:=free_of_one k;have b3:a<f.heap.size:=(Array.getElem?_eq_some_iff.1 k).1;have b4:=Zh F;clear F;refine wpIn_block ?_;refine Xq kz (by rintro⟨_,_,i⟩;exact i) ?_;have Y:=Zh k;clear k
  go_wp2_with (at_builtin;refine Zo rfl (.tmp 8) (.tmp 10) 48 rfl a 3 _ 1 8 Tryz.underlying48 Tryz.infoI rfl zd _ _ _ rfl (Qc g ((Q0.refl _ f).alloc _)) ⟨f.heap.size,0,none⟩ 1 1 [.int .i64 q] rfl rfl (Ze rfl) ?c2 ?c3 ?c4 ?c5 ?_)
  case c2=>first | rfl | (intro u V;simp at V;rcases V with rfl;rfl)
  case c3=>unfold maxLen;omega
  case c4=>omega
  case c5=>simp;omega
  intro l m o N Q I;have z:Q0 (fun b'=>u.ownBlock=some b') f o:=Q0.trans (Q0.alloc (Q0.refl _ f) _) Q;have D:=z.heap Y.out (fun e=>(n _ e).1 rfl);have J:Q0 (·=bx) w o:=s.after z (fun b' h1 e=>by have:=(g.lt _ e).1;have:=x.out;omega);have E:∀ c,(Value.slice l (d.length+1) m).ownBlock=some c->c≠a/\c≠a+1/\c≠a+2:=by
   intro c B;rcases I with e | e
   ·exact n c (e ▸ B)
   ·rw [B] at e;cases e;omega
  have b0:=cell_of_one D;have b2:=free_of_one D;have A:=Q0.set1 o a 0 (.slice l (d.length+1) m);have M:(o.setCell ⟨a,0,none⟩ (.slice l (d.length+1) m)).heap[a]?=some (.cells #[.slice l (d.length+1) m] 48 (0,0)):=by
   simp only [World.setCell,Array.getElem?_modify,D];simp
  have L:Q0 (fun b=>¬ ((b=bx\/b=0)\/b=a+1\/b=a+1+1)) f (o.setCell ⟨a,0,none⟩ (.slice l (d.length+1) m)):=
   (z.mono (fun b' _ e=>by have:=n _ e;have:=(g.lt _ e).1;omega)).trans (A.mono (fun b' _ e=>by omega))
  have U:∃ u,(o.setCell ⟨a,0,none⟩ (.slice l (d.length+1) m)).heap[a]?=some (.cells #[u] 48 (0,0))/\(o.setCell ⟨a,0,none⟩ (.slice l (d.length+1) m)).ownsRow a 3 1 u (d++[q]).length (Qj (d++[q]))/\(∀ c,u.ownBlock=some c->c≠a/\c≠a+1/\c≠a+2)/\Q0 (·=bx) w (o.setCell ⟨a,0,none⟩ (.slice l (d.length+1) m)):=by
   refine⟨_,M,?_,E,J.after A (fun b h1 h2=>by have:=x.out;omega)⟩;rw [X8,List.length_append];exact Qf N A (fun b j e=>(E b j).1 e)
  have X:=Zh L;have W:=Zh U;clear L U M A E J z Q N I H a1 g n s r;go_wp2;exact⟨X.out,W.out⟩
 case done=>
  rintro f ⟨u,k,g,n,s⟩ r a2;have H:=cell_of_one k;clear y T P C;go_wp2;have a6:Qs a ({ target:=.collected G.heap.size,args:=#[] }::[]) f:=Qs.cons (base:=a) trivial oz a2 (fun e he=>by cases he);refine J9 a6 (fun w'=>results_tmp rfl _ _ _) (fun w' ht' hs=>⟨u,rfl,?_,?_⟩)
  ·rw [x.out];exact Qf g ht' (fun b j e=>by obtain⟨b1,a5⟩:=Zc g j;exact Shut.not a5 rfl e)
  ·exact s.after ht' (fun b' h2 h3=>by have:=h3.1;have:=x.out;omega)
 case stop=>exact fun _ _ _ _ _ _ i=>i.elim
theorem Tx{w:World}{bx v:Nat}(i:v<18446744073709551616)(f:bx≠0)(d:Je w bx v)(c:Tab w)(g:(evs v).length<=64) :
  Calls Tryz.prog 163 #[.func (.func 301) #[] #[.pointer (some ⟨bx,0,none⟩)]] w fun e w'=>∃ u,e=.returned u/\w'.ownsRow w.heap.size 3 1 u (evs v).length (Qj (evs v))/\Q0 (·=bx) w w':=by
 go_enter Tryz.func163,Tryz.ntmps163;go_wp2_with fail;refine(Q07 i f d c g).mono ?_;rintro e j ⟨u,rfl,a,b⟩;go_wp2;go_ret;exact⟨_,rfl,a,b⟩
theorem Bo(R:Qi)(a:Nat):evs (Q3 R a)=(List.range 33).filter (R a):=Lb R a
theorem Eq{R:Qi}{a n:Nat}(g:n<=32)(e:∀ b,R a b=true->b<=n):(List.range 33).filter (R a)=(List.range (n+1)).filter (fun b=>R a b):=by
 have c:List.range 33=List.range (n+1)++(List.range (32 - n)).map (n+1+·):=by
  rw [<-List.range_add,show n+1+(32 - n)=33 by omega]
 rw [c,List.filter_append];have:((List.range (32 - n)).map (n+1+·)).filter (R a)=[]:=by
  rw [List.filter_eq_nil_iff];intro j f d;obtain⟨i,_,rfl⟩:=List.mem_map.1 f;have:=e _ d;omega
 rw [this,List.append_nil]
theorem Q3a{K:Nat->Prop}{w:World}{p:Pat}{cs:List Value}{v:Value}{ws:Wd}(F:Qm K w p cs)(L:∀ g,K g->g<w.heap.size)(G:Qa w v ws)(D:Tab w)(c:Int) :
  Calls Tryz.prog 280 #[.agg cs.toArray,v,.int .i64 c] w fun e w'=>∃ u,e=.returned (.tuple #[u,.int .i64 (J7 p ws c)])/\w'.ownsRow w.heap.size 3 1 u (Wx p ws c).length (Qj (Wx p ws c))/\Ext w w':=by
 have x:Qx ws.length (Vh p ws):=by
  unfold Vh
  split
  ·exact K3 ws p
  ·exact Qx.no _
 have H:=Zh D;have P:=fun(V:World) (hE:Ext w V)=>Mk (K:=K) (F.ext hE) (fun g hg=>Nat.lt_of_lt_of_le (L g hg) hE.size) (G.ext hE) (D.keep hE id);obtain⟨a7,b1,rfl,a1,a0,_⟩:=Y2 F;obtain⟨a9,a8,rfl,Z⟩:=G.slice;clear F a1 a0 G D L;have n:=Zh P;clear P;obtain⟨l,y⟩:=zE (V0 p ws);obtain⟨b,A⟩:=zE (Vh p ws);obtain⟨i,q⟩:=zE ws.length;have j:Hid (J7 p ws c=if l=0 then exE i c else l):=Zh (by unfold J7;rw [y,q]);have s:Hid (Wx p ws c=if J7 p ws c=0 then(List.range (i+1)).filter (fun k=>b c.toNat k) else []):=Zh (by unfold Wx;rw [A,q])
 have O:l=0->i<=32:=fun h=>by
  subst y;subst q;exact Sx h
 rw [y] at n;rw [A] at n x;rw [q] at n Z x ⊢;have T:=Zh x;clear x;clear y A q;have U:=Zh O;clear O;unfold Qd at n ⊢;have a4:=Ym;have a5:=Qn noB;have a6:=Y6 noB;go_enter Tryz.func280,Tryz.ntmps280;go_wp2_with fail;refine(n.out _ ((Q0.refl _ w).alloc _)).mono ?_;rintro e f ⟨rfl,J⟩;have I:Ext w f:=Q0.trans ((Q0.refl _ w).alloc _) J;clear J;have B:(f.alloc (.cells (Q6 noB) 363)).heap[f.heap.size]?=some (.cells (Q6 noB) 363 (0,0)):=Q5 rfl;have C:Q8 ((f.alloc (.cells (Q6 noB) 363)).setRow f.heap.size (Q4 (Q3 b))) f.heap.size (Q3 b):=setRow_heap _ _ _ _ _ _ B;have o:Ext w ((f.alloc (.cells (Q6 noB) 363)).setRow f.heap.size (Q4 (Q3 b))):=I.trans (((Q0.refl _ f).alloc _).after (Q0.setRow _ _ _) (fun b' h1 h2=>by omega));go_upto_region 2 with (refine wpList_store_row rfl 363 (.tmp 8) (.tmp 14) rfl f.heap.size (Q4 (Q3 b)) rfl rfl _ _ B (Tryz.relInfo _) (by rw [Qn,Q9]) (Ql _) ?_)
 generalize ((f.alloc (.cells (Q6 noB) 363)).setRow f.heap.size (Q4 (Q3 b)))=b7 at C o ⊢;generalize f.heap.size=k at C ⊢;clear B I a4 a5 a6;by_cases m:l=0
 ·have a2:=U.out m;rw [if_pos m] at j;subst m;go_wp2_with fail;refine(Lp _ _ _ _ _).mono ?_;rintro e R ⟨rfl,rfl⟩;by_cases E:c<0\/(i:Int)<c
  ·have r:exE i c=3:=by unfold exE;rw [if_pos E]
   rw [r] at j ⊢;clear r;go_wp2;refine bodyPost_ret (Ja rfl _ _ _) rfl ⟨_,by rw [j.out];rfl,?_,o⟩;rw [s.out,j.out,if_neg zd];exact World.ownsRow_nil _ _ _ _
  ·have r:exE i c=0:=by unfold exE;rw [if_neg E]
   rw [r] at j ⊢;obtain⟨d,rfl⟩:∃ d:Nat,c=d:=⟨c.toNat,by omega⟩;have S:Hid (Wx p ws d=(List.range (i+1)).filter (fun k=>b d k)):=Zh (by rw [s.out,j.out];rfl);have b4:d<=i:=by omega
   have b0:=C.cell (a:=d) oz;have b3:=Vk b d;have Q:(List.range 33).filter (b d)=(List.range (i+1)).filter (fun k=>b d k):=Eq a2 (fun k hb=>(T.out d k hb).2);have W:=Zh Q;clear r s E Q
   go_wp2_with (go_at_call 293;refine(Ce _ _).mono ?_;rintro e w' ⟨rfl,rfl⟩)
   have b2:=Q15 H.out;have b5:=o.size;have t:Ext w (R.alloc (.cells #[.int .u64 (Q3 b d:Int)] 361)):=Q0.alloc o _;have N:(evs (Q3 b d)).length<=64:=by
    rw [Bo];have:=List.length_filter_le (b d) (List.range 33);simp at this;omega
   refine(Tx (v:=Q3 b d) (bx:=R.heap.size) oz oz (Q5 rfl) (H.out.keep t id) N).mono ?_;rintro e a3 ⟨u,rfl,z,M⟩;rw [Bo,W.out,<-S.out] at z;have X:Ext w a3:=t.after M (fun b' h1 h2=>by omega);have Y:=J2 z t.size;clear z M t N;go_wp2;exact bodyPost_ret (Ja rfl _ _ _) rfl ⟨_,by rw [j.out];rfl,Y,X⟩
 ·have b6:(l == 0)=false:=by rw [beq_eq_false_iff_ne];exact m
  rw [if_neg m] at j;go_wp2;refine bodyPost_ret (Ja rfl _ _ _) rfl ⟨_,by rw [j.out];rfl,?_,o⟩;rw [s.out,j.out,if_neg m];exact World.ownsRow_nil _ _ _ _
end Go.Proofs.YtfdlhlghcbeblaaGreatDoor
namespace Go.Ab
open Go.RowKit
def Gw(xs:List Value)(j:Nat):List Value:=(xs.drop (j*7)).take 7
theorem Q1q{xs:List Value}{j i:Nat}(a:i<7):(Gw xs j)[i]?=xs[j*7+i]?:=by
 unfold Gw;rw [List.getElem?_take_of_lt a,List.getElem?_drop]
theorem Cy{xs:List Value}{j i:Nat}{v:Value}(h:(Gw xs j)[i]?=some v):xs[j*7+i]?=some v:=by
 have a:i<(Gw xs j).length:=(List.getElem?_eq_some_iff.1 h).1;have:i<7:=by unfold Gw at a;rw [List.length_take] at a;omega
 rw [<-Q1q this];exact h
theorem Q23{w:World}{base:Nat}{e:TypeId}{g n cap:Nat}{xs:List Value}(h:w.ownsRow base e 7 (.slice (some ⟨g,0,none⟩) n cap) n xs) (j:Nat):w.rangeAt g (j*7) (Gw xs j):=
 K9 h fun _ _ hv=>Cy hv
theorem Nt:∀(vs cur:List Value) (o i:Nat),o+vs.length<=cur.length->(X1 cur o vs)[i]?=if o<=i/\i<o+vs.length then vs[i - o]? else cur[i]?
 | [],cur,o,i,_=>by unfold X1;rw [if_neg (by simp only [List.length_nil];omega)]
 | v::vs,cur,o,i,h=>by
  simp only [List.length_cons] at h ⊢;unfold X1;rw [Nt vs _ _ _ (by rw [List.length_set];omega)];by_cases h1:o+1<=i/\i<o+1+vs.length
  ·rw [if_pos h1,if_pos oz,show i - o=(i - (o+1))+1 by omega,List.getElem?_cons_succ]
  ·rw [if_neg h1];by_cases h2:i=o
   ·subst h2;rw [if_pos oz,Nat.sub_self,List.getElem?_set_self oz];rfl
   ·rw [if_neg oz,List.getElem?_set_ne oz]
inductive Ua (T:TypeId) (w:World):Pat->List Value->(Nat->Prop)->Prop
 | mk {k:Int} {pl mi:Nat} {nt:Bool} {mn mx:Int} {l:List Pat} {ao:Option Addr} {cap:Nat} {K:Nat->Prop} (xs:List Value) (Ks:Nat->Nat->Prop)
   (hpl:pl<4294967296) (hmi:mi<4294967296)
   (hO:w.ownsRow 0 T 7 (.slice ao l.length cap) l.length xs)
   (hg:∀ g,(Value.slice ao l.length cap).ownBlock=some g->K g/\∀ j,j<l.length->¬ Ks j g)
   (hs:∀ j b,j<l.length->Ks j b->K b)
   (hd:∀ i j b,i<l.length->j<l.length->i≠j->Ks i b->¬ Ks j b)
   (hc:∀ j (h:j<l.length),Ua T w l[j] (Gw xs j) (Ks j)):Ua T w (.node k pl mi nt mn mx l) (Qd k pl mi nt mn mx ao l.length cap) K
theorem Ua.keep{T:TypeId}{S:Nat->Prop}{A B:World}(d:Q0 S A B):∀ {p:Pat} {cs:List Value} {K:Nat->Prop},Ua T A p cs K->(∀ b,K b->¬ S b)->Ua T B p cs K:=by
 intro p cs K a
 induction a with
 | mk xs Ks hpl hmi hO hg hs hd hc ih=>
  intro c;exact .mk xs Ks hpl hmi (Qf hO d fun g hb=>c g (hg g hb).1) hg hs hd fun j a=>ih j a fun b hb=>c b (hs j b a hb)
theorem Ua.mono{T:TypeId}{w:World}{p:Pat}{cs:List Value}{K L:Nat->Prop}(h:Ua T w p cs K)(a:∀ b,K b->L b):Ua T w p cs L:=by
 cases h with
 | mk xs Ks hpl hmi hO hg hs hd hc=>exact .mk xs Ks hpl hmi hO (fun g hb=>⟨a g (hg g hb).1,(hg g hb).2⟩) (fun j b h1 h2=>a b (hs j b h1 h2)) hd hc
theorem Hp{w:World}{base:Nat}{e:TypeId}{sz:Nat}{ao:Option Addr}{n cap:Nat}{xs:List Value}(h:w.ownsRow base e sz (.slice ao n cap) n xs):n<=cap/\cap<=maxLen:=by
 rcases h.2 with ⟨a,_⟩ | ⟨_,_,_,a,_,_,b,c,_⟩
 ·simp only [zV] at a;simp [a.2.1,a.2.2]
 ·simp only [zV] at a;obtain⟨_,_,rfl⟩:=a;exact⟨b,c⟩
theorem Gk{w:World}{base:Nat}{e:TypeId}{sz n cap:Nat}{ao:Option Addr}{xs:List Value}(h:w.ownsRow base e sz (.slice ao n cap) n xs) (b:0<n):∃ g,ao=some ⟨g,0,none⟩:=by
 rcases h.2 with ⟨a,_⟩ | ⟨g,_,_,a,_⟩
 ·simp only [zV] at a;omega
 ·cases a;exact⟨g,rfl⟩
theorem Ua.at{T:TypeId}{w:World}:∀ {p:Pat} {cs:List Value} {K:Nat->Prop},Ua T w p cs K->Qm K w p cs:=by
 intro p cs K c
 induction c with
 | @mk k pl mi nt mn mx l ao cap K xs Ks hpl hmi hO hg hs hd hc ih=>
  unfold Qm;obtain⟨d,e⟩:=Hp hO;refine⟨ao,cap,rfl,hpl,hmi,d,e,Qy.mk fun j hj=>?_⟩;obtain⟨a,rfl⟩:=Gk hO oz;refine⟨a,0,Gw xs j,rfl,(hg a rfl).1,(hO.lt a rfl).2,by rw [Nat.zero_add,Nat.zero_add];exact Q23 hO j,Qm.mono (fun b hb=>hs j b hj hb) (ih j hj)⟩
end Go.Ab
namespace Go.Ab
open Go.RowKit
theorem Q19(b o j:Nat):(⟨b,o,none⟩:Addr).add j=⟨b,o+j,none⟩:=by
 unfold Addr.add;split
 ·rename_i a;subst a;rfl
 ·simp
theorem Ng:∀(ws:Wd) (a:Nat),Zn (ws.drop a)=(Zn ws).drop (a*2)
 | _,0=>rfl
 | [],a+1=>by simp [Zn]
 | s::ws,a+1=>by
  rw [List.drop_succ_cons,Ng ws a,Jo,show (a+1)*2=a*2+1+1 by omega,List.drop_succ_cons,List.drop_succ_cons]
theorem Nr:∀(ws:Wd) (a:Nat),Zn (ws.take a)=(Zn ws).take (a*2)
 | _,0=>rfl
 | [],a+1=>by simp [Zn]
 | s::ws,a+1=>by
  rw [List.take_succ_cons,Jo,Nr ws a,Jo,show (a+1)*2=a*2+1+1 by omega,List.take_succ_cons,List.take_succ_cons]
theorem Qa.cut{w:World}{A:Option Addr}{c:Nat}{ws:Wd}(h:Qa w (.slice A ws.length c) ws) {a b:Nat} (u:a<=b) (v:b<=ws.length) (x:ws.length<=c) :
  Qa w (sliced A a b c 2) ((ws.drop a).take (b - a)):=by
 have d:((ws.drop a).take (b - a)).length=b - a:=by rw [List.length_take,List.length_drop];omega
 obtain⟨⟨r,t,p,q,f,k⟩,l⟩:=h;simp only [zV,true_and] at f;obtain⟨rfl,rfl⟩:=f;refine⟨⟨by rw [Tm],by omega,_,_,by unfold sliced;rw [d],fun h0=>?_⟩,fun s hs=>l s (List.mem_of_mem_drop (List.mem_of_mem_take hs))⟩;rw [d] at h0;obtain⟨e,g,rfl,o,m⟩:=k oz
 have i:∀ j,j<(b - a)*2->w.cell? ⟨e,g+a*2+j,none⟩=some ((Zn ((ws.drop a).take (b - a))).getD j undef):=fun j hj=>by
  rw [Nat.add_assoc,m (a*2+j) oz,Nr,Ng]
  congr 1
  rw [List.getD_eq_getElem?_getD,List.getD_eq_getElem?_getD,List.getElem?_take,if_pos hj,List.getElem?_drop]
 rw [d];by_cases n:c=a
 ·omega
 ·exact⟨e,g+a*2,by rw [if_neg n];simp [Q19],o,fun j hj=>i j hj⟩
theorem Sr{ws:Wd}{a b:Nat}(h:b=ws.length):(ws.drop a).take (b - a)=ws.drop a:=by
 subst h;rw [<-List.length_drop,List.take_length]
theorem take_zero{ws:Wd}(b:Nat):(ws.drop 0).take (b - 0)=ws.take b:=by simp
section
variable {P:Program} {t:TypeId} {size:Nat}
theorem Sk{A:Option Addr}{n c:Nat}(e:P.underlying t=some (.slice (P.elem t))) (d:∀ D,(sizeOf (P.elem t)).run P D=.ok size D) (a b:Nat) (f:a<=b) (g:b<=c) (D:World) :
  (Instr.slice t (.slice A n c) (some (.int .i64 (a:Int))) (some (.int .i64 (b:Int))) none).run P D=.ok (sliced A a b c size) D:=by
 rw [run_slice_lh D t A n c e .i64 .i64 (a:Int) (b:Int) oz oz oz,d];rfl
theorem Ca{A:Option Addr}{n c:Nat}(d:P.underlying t=some (.slice (P.elem t))) (a:∀ D,(sizeOf (P.elem t)).run P D=.ok size D) (b:Nat) (e:b<=c) (D:World) :
  (Instr.slice t (.slice A n c) none (some (.int .i64 (b:Int))) none).run P D=.ok (sliced A 0 b c size) D:=by
 rw [run_slice_h D t A n c d .i64 (b:Int) oz oz,a];rfl
theorem Mo{A:Option Addr}{n c:Nat}(d:P.underlying t=some (.slice (P.elem t))) (b:∀ D,(sizeOf (P.elem t)).run P D=.ok size D) (a:Nat) (e:a<=n) (D:World) :
  (Instr.slice t (.slice A n c) (some (.int .i64 (a:Int))) none none).run P D=.ok (sliced A a n c size) D:=by
 rw [run_slice_l D t A n c d .i64 (a:Int) oz oz,b];rfl
end
end Go.Ab
namespace Go.Proofs.YtfdlhlghcbeblaaGreatDoor
open Go.RowKit Go.Ab
attribute [local go_sem] Oper.semAt_some Z8 Qp
def SetBox(w:World)(bx:Nat)(v:Nat):Prop:=w.heap[bx]?=some (.cells #[.int .u64 v] 183 (0,0))
theorem SetBox.cell{w:World}{bx v:Nat}(h:SetBox w bx v):w.cell? ⟨bx,0,none⟩=some (.int .u64 v):=cell_of_one h
theorem SetBox.free{w:World}{bx v:Nat}(h:SetBox w bx v):w.frozen? ⟨bx,0,none⟩=false:=free_of_one h
theorem SetBox.store{w:World}{bx v:Nat}(u:Nat)(h:SetBox w bx v):SetBox (w.setCell ⟨bx,0,none⟩ (.int .u64 u)) bx u:=one_setCell h
def Q96(w:World)(bx:Nat):Nat:=match w.cell? ⟨bx,0,none⟩ with | some (.int _ n)=>n.toNat | _=>0
def Fi(mk:Bool)(n:Nat)(bf af:Nat->Nat):List Value:=
 .bool mk::.int .i64 n::((List.range 64).map (fun i=>Value.int .u64 (bf i))++(List.range 64).map (fun i=>Value.int .u64 (af i)))
def Q2x(mk:Bool)(n:Nat)(bf af:Nat->Nat):Array Value:=(Fi mk n bf af).toArray
def Ord(w:World)(b:Nat)(mk:Bool)(n:Nat)(bf af:Nat->Nat):Prop:=
 w.heap[b]?=some (.cells (Q2x mk n bf af) 186 (0,0))
theorem Ord.get{w:World}{b:Nat}{d:Bool}{n:Nat}{c a:Nat->Nat}(h:Ord w b d n c a)(o:Nat) :
  w.cell? ⟨b,o,none⟩=(Fi d n c a)[o]?:=by
 unfold Ord at h;simp [World.cell?,h,Q2x]
theorem Ord.free{w:World}{b:Nat}{d:Bool}{n:Nat}{c a:Nat->Nat}(h:Ord w b d n c a)(o:Nat):w.frozen? ⟨b,o,none⟩=false:=by
 unfold Ord at h;simp [World.frozen?,h]
theorem Ord.n{w:World}{b:Nat}{d:Bool}{n:Nat}{c a:Nat->Nat}(h:Ord w b d n c a):w.cell? ⟨b,1,none⟩=some (.int .i64 n):=by
 rw [h.get];rfl
theorem Ord.bf{w:World}{b:Nat}{e:Bool}{n:Nat}{a c:Nat->Nat}(h:Ord w b e n a c)(i:Nat)(d:i<64):w.cell? ⟨b,2+i,none⟩=some (.int .u64 (a i)):=by
 rw [h.get,Nat.add_comm];simp [Fi,List.getElem?_append,d]
theorem Ord.af{w:World}{b:Nat}{e:Bool}{n:Nat}{c a:Nat->Nat}(h:Ord w b e n c a)(i:Nat)(d:i<64):w.cell? ⟨b,66+i,none⟩=some (.int .u64 (a i)):=by
 rw [h.get,show 66+i=(64+i)+1+1 by omega];simp [Fi,List.getElem?_append,d]
theorem Ord.keep{S:Nat->Prop}{A B:World}{b:Nat}{mk:Bool}{n:Nat}{bf af:Nat->Nat}(h:Ord A b mk n bf af)(ht:Q0 S A B)(hS:¬ S b):Ord B b mk n bf af:=ht.heap h hS
theorem Ord.lt{w:World}{b:Nat}{mk:Bool}{n:Nat}{bf af:Nat->Nat}(h:Ord w b mk n bf af):b<w.heap.size:=(Array.getElem?_eq_some_iff.1 h).1
def upd(f:Nat->Nat)(x v:Nat):Nat->Nat:=fun i=>if i=x then v else f i
theorem map_set(f:Nat->Nat)(x v:Nat)(g:Nat->Value)(m:Nat):((List.range m).map (fun i=>g (f i))).set x (g v)=(List.range m).map (fun i=>g (upd f x v i)):=by
 apply List.ext_getElem?;intro i;simp only [List.getElem?_set,List.getElem?_map,List.length_map,List.length_range,upd];by_cases b:x=i
 ·subst b;by_cases a:x<m
  ·simp [a]
  ·simp [a]
 ·rw [if_neg b];by_cases a:i<m
  ·simp [a,Ne.symm b]
  ·simp [a]
def Jd(n a:Int):Bool:=decide (0<=a) && decide (a<n)
theorem Sq{n a:Int}:Jd n a=true↔0<=a/\a<n:=by simp [Jd]
def isB(n:Nat)(af:Nat->Nat)(x y:Int):Bool:=Jd n x && Jd n y && (af x.toNat).testBit y.toNat
def Qah(n:Nat)(bf af:Nat->Nat):Prop:=n<=64/\(∀ i,bf i<18446744073709551616)/\(∀ i,af i<18446744073709551616)
def Q9p(n:Nat)(af:Nat->Nat)(x y:Int):Bool:=Jd n x && Jd n y && !(x == y) && !isB n af x y && !isB n af y x
theorem _root_.Go.Proofs.YtfdlhlghcbeblaaGreatDoor.SetBox.lt {w:World} {bx v:Nat} (h:SetBox w bx v):bx<w.heap.size:=(Array.getElem?_eq_some_iff.1 h).1
def Q7i(k:Nat)(af:Nat->Nat):List (Int × Int):=(List.range k).flatMap fun a=>(evs (af a)).map fun(b:Nat)=>((a:Int),(b:Int))
theorem Tryz.infoPair:(Tryz.prog.info? 73).map (fun i=>(i.zero,i.size,i.bytes))=some (some (.agg #[.int .i64 0,.int .i64 0]),2,16):=by kernel_rfl
def Q8l(bf af:Nat->Nat)(p:Int × Int):Bool:=af p.1.toNat &&& bf p.2.toNat == 0
def Q90(n:Nat)(bf af:Nat->Nat):List (Int × Int):=(Q7i n af).filter (Q8l bf af)
def Q43(w:World)(b n:Nat)(R:Nat->Nat->Bool):Prop:=Ord w b true n (bfR n R) (afR n R)
theorem Q43.keep{S:Nat->Prop}{A B:World}{b n:Nat}{R:Nat->Nat->Bool}(h:Q43 A b n R)(ht:Q0 S A B)(hS:¬ S b):Q43 B b n R:=Ord.keep h ht hS
def Qan(n:Nat)(l:List Nat):Nat:=Yo n (fun i=>l.contains i)
def isR(n:Nat)(R:Nat->Nat->Bool)(x y:Int):Bool:=Jd n x && Jd n y && R x.toNat y.toNat
def Qac(n:Nat)(R:Nat->Nat->Bool)(x y:Int):Bool:=Jd n x && Jd n y && !(x == y) && !isR n R x y && !isR n R y x
def Rx(n:Nat)(R:Nat->Nat->Bool)(x y:Int):Int:=if Jd n x && Jd n y then(if x == y || isR n R y x then 9 else 0) else 3
def Rb(n:Nat)(R:Nat->Nat->Bool)(x y:Int):Nat->Nat->Bool:=if Rx n R x y=0 then Dn R x.toNat y.toNat else R
theorem P4{n:Nat}{R:Nat->Nat->Bool}{x y:Int}:Rx n R x y=0↔Jd n x=true/\Jd n y=true/\x≠y/\isR n R y x=false:=by
 unfold Rx;cases Jd n x <;> cases Jd n y <;> simp
theorem Q3x{n:Nat}{R:Nat->Nat->Bool}(h:Rel n R)(x y:Int):Rel n (Rb n R x y):=by
 unfold Rb
 split
 ·rename_i c
  obtain⟨a,b,g,d⟩:=P4.1 c;have e:=Sq.1 a;have f:=Sq.1 b;refine Q4g h oz oz oz ?_
  simpa [isR,a,b] using d
 ·exact h
def Kz(n:Nat)(R:Nat->Nat->Bool):List (Int × Int):=(List.range n).flatMap fun a=>((List.range n).filter (R a)).map fun(b:Nat)=>((a:Int),(b:Int))
def Qai(n:Nat)(R:Nat->Nat->Bool):List (Int × Int):=(Kz n R).filter fun p=>(List.range n).all fun c=>!(R p.1.toNat c && R c p.2.toNat)
theorem Cs{n:Nat}{R:Nat->Nat->Bool}{p:Int × Int}:p∈Kz n R↔∃ a b:Nat,p=((a:Int),(b:Int))/\a<n/\b<n/\R a b=true:=by
 simp only [Kz,List.mem_flatMap,List.mem_range,List.mem_map,List.mem_filter];constructor
 ·rintro⟨a,c,b,⟨d,e⟩,rfl⟩;exact⟨a,b,rfl,c,d,e⟩
 ·rintro⟨a,b,rfl,c,d,e⟩;exact⟨a,c,b,⟨d,e⟩,rfl⟩
end Go.Proofs.YtfdlhlghcbeblaaGreatDoor
