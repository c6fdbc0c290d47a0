/- feats: -/
import Derived.Test.YtfdlhlghcbeblaaGreatDoorY04
set_option maxRecDepth 100000
set_option maxHeartbeats 8000000
namespace Go.Proofs.YtfdlhlghcbeblaaGreatDoor
open Go.RowKit Go.Ab
attribute [local go_sem] Oper.semAt_some Zf Qp
abbrev sV(s:Nat × Nat):Value:=.agg #[.int .u32 (s.1:Int),.int .u32 (s.2:Int)]
set_option maxHeartbeats 2000000 in
theorem Xw{s:Nat × Nat}(t:Y3 s)(w:World) :
  Calls Tryz.prog 170 #[sV s] w fun e w'=>e=.returned (.bool (okS s))/\Ext w w':=by
 obtain⟨b,c⟩:=s;obtain⟨i,j⟩:=t;obtain⟨u,v⟩:=Hj i j;have r:b ||| c<4294967296:=Nat.or_lt_two_pow (n:=32) i j;have d:okS (b,c)=((b &&& c == 0) && ((b ||| c) / 16777216 == 0)):=rfl;obtain⟨g,o⟩:=zE (b &&& c == 0);obtain⟨a,m⟩:=zE (b ||| c);rw [o] at u d;rw [m] at v d r;have p:(a / 16777216 == 0)=decide ((a:Int)<=16777215):=by
  apply Bool.eq_iff_iff.2;rw [beq_iff_eq,decide_eq_true_iff];omega
 rw [p] at d;obtain⟨k,f⟩:=zE (decide ((a:Int)<=16777215));rw [f] at d;have l:=Zh d;clear d o m p;dsimp only at i j;cases k
 ·have q:¬ (a:Int)<=16777215:=of_decide_eq_false f;clear f;go_enter Tryz.func170,Tryz.ntmps170;cases g
  all_goals
   go_wp2;go_ret;exact⟨by rw [l.out];rfl,(Q1.refl _ _).alloc _⟩
 ·have q:(a:Int)<=16777215:=of_decide_eq_true f;clear f;go_enter Tryz.func170,Tryz.ntmps170;cases g
  all_goals
   go_wp2;go_ret;exact⟨by rw [l.out];rfl,(Q1.refl _ _).alloc _⟩
set_option maxHeartbeats 2000000 in
theorem Q3o{s:Nat × Nat}(f:Y3 s)(w:World) :
  Calls Tryz.prog 281 #[sV s] w fun e w'=>e=.returned (.int .u32 ((s.1 ||| s.2:Nat):Int))/\Ext w w':=by
 obtain⟨c,d⟩:=s;obtain⟨a,b⟩:=f;have g:=u32_or_nat c d a b;dsimp only at a b ⊢;go_enter Tryz.func281,Tryz.ntmps281;go_wp2;go_ret;exact⟨rfl,(Q1.refl _ _).alloc _⟩
set_option maxHeartbeats 2000000 in
theorem Rf{s f:Nat × Nat}{m:Nat}(q:Y3 s)(p:Y3 f)(c:m<4294967296)(w:World) :
  Calls Tryz.prog 282 #[sV s,sV f,.int .u32 (m:Int)] w fun e w'=>e=.returned (sV (Gn s f m))/\Ext w w':=by
 obtain⟨d,g⟩:=s;obtain⟨a,b⟩:=f;obtain⟨i,j⟩:=q;obtain⟨k,l⟩:=p;dsimp only at i j k l;have r:=Fo d m i c;have t:=Fo g m j c;have u:=u32_and_nat a m k c;have v:=u32_and_nat b m l c;have n:a &&& m<4294967296:=Nat.lt_of_le_of_lt Nat.and_le_left k;have o:b &&& m<4294967296:=Nat.lt_of_le_of_lt Nat.and_le_left l;have x:=u32_or_nat (Ys d m) (a &&& m) (Br i) n;have y:=u32_or_nat (Ys g m) (b &&& m) (Br j) o;clear n o;go_enter Tryz.func282,Tryz.ntmps282;go_wp2;refine bodyPost_ret (results_cell_row rfl _ _ (w.heap.size+1+1) _ #[.int .u32 ((Ys d m ||| a &&& m:Nat):Int),.int .u32 ((Ys g m ||| b &&& m:Nat):Int)] _ _ rfl (Q3 zy) Tryz.underlying95 rfl kz) rfl ?_;exact⟨rfl,(((Q1.refl _ _).alloc _).alloc _).alloc _⟩
theorem Yt{a:Func}{p u:Tmp}(h:a.results=#[.cell p 95,.tmp u]){tmps:Array Value}{w:World}{g:Nat}{cs:Array Value}(d:tmps.getD p undef=.pointer (some ⟨g,0,none⟩)) (b:w.heap[g]?=some (.cells cs 95 (0,0))) (c:(Tryz.prog.info? 95).map (·.size)=some cs.size) :
  (results a tmps).run Tryz.prog w=.ok (.tuple #[.agg cs,tmps.getD u undef]) w:=by
 have e:tmps[p]?.getD undef=.pointer (some ⟨g,0,none⟩):=by simpa using d
 simp [results,h,e,asAddr,run_loadVar_row w g _ _ _ _ _ b Tryz.underlying95 rfl c]
def Gk(s c:Nat × Nat):Bool:=okS s && okS c && Q3u s c
theorem Q2e{s c:Nat × Nat}(a:Y3 c):Q3u s c=(Ys c.1 s.1 == 0 && Ys c.2 s.2 == 0):=by
 unfold Q3u;apply Bool.eq_iff_iff.2;simp only [Bool.and_eq_true,beq_iff_eq];rw [Pu a.1,Pu a.2]
set_option maxHeartbeats 4000000 in
theorem Q55{s c:Nat × Nat}(K:Y3 s)(g:Y3 c)(w:World) :
  Calls Tryz.prog 260 #[sV s,sV c] w fun e w'=>e=.returned (.bool (Gk s c))/\Ext w w':=by
 have y:=fun(V:World)=>Xw K V;have z:=fun(V:World)=>Xw g V;have r:Gk s c=(okS s && okS c && (Ys c.1 s.1 == 0 && Ys c.2 s.2 == 0)):=by unfold Gk;rw [Q2e g]
 obtain⟨b,d⟩:=s;obtain⟨c,f⟩:=c;obtain⟨H,I⟩:=K;obtain⟨g,J⟩:=g;dsimp only at H I g J;have Q:=Fo c b g H;have R:=Fo f d J I;dsimp only at r;obtain⟨a,A⟩:=zE (okS (b,d));obtain⟨S,B⟩:=zE (okS (c,f));obtain⟨Z,C⟩:=zE (Gk (b,d) (c,f));obtain⟨D,i⟩:=zE (Ys c b);obtain⟨N,x⟩:=zE (Ys f d);rw [A] at y;rw [B] at z;rw [A,B,C,i,x] at r;rw [i] at Q;rw [x] at R;rw [C];obtain⟨O,P,k⟩:=Zh3 y z r;clear y z r A B C i x;go_enter Tryz.func260,Tryz.ntmps260;go_wp2_with fail;have v:Ext w ((w.alloc (.cells #[.int .u32 (b:Int),.int .u32 (d:Int)] 95)).alloc (.cells #[.int .u32 (c:Int),.int .u32 (f:Int)] 95)):=((Q1.refl _ w).alloc _).alloc _;have n:((w.alloc (.cells #[.int .u32 (b:Int),.int .u32 (d:Int)] 95)).alloc (.cells #[.int .u32 (c:Int),.int .u32 (f:Int)] 95)).heap[w.heap.size]?=some (.cells #[.int .u32 (b:Int),.int .u32 (d:Int)] 95 (0,0)):=Q6 (Q3 rfl);have o:((w.alloc (.cells #[.int .u32 (b:Int),.int .u32 (d:Int)] 95)).alloc (.cells #[.int .u32 (c:Int),.int .u32 (f:Int)] 95)).heap[w.heap.size+1]?=some (.cells #[.int .u32 (c:Int),.int .u32 (f:Int)] 95 (0,0)):=Q3 zy;refine(O.out _).mono ?_;generalize ((w.alloc (.cells #[.int .u32 (b:Int),.int .u32 (d:Int)] 95)).alloc (.cells #[.int .u32 (c:Int),.int .u32 (f:Int)] 95))=W at v n o ⊢;generalize w.heap.size=T at n o ⊢;rintro e X ⟨rfl,p⟩;have t:=v.trans p;have l:=p.keep n;have m:=p.keep o;have F:=zR l;have G:=zR m;clear p n o v;cases a
 ·clear l m;go_wp2;go_ret;exact⟨by rw [k.out];rfl,t⟩
 ·go_wp2_with fail;refine(P.out _).mono ?_;rintro e Y ⟨rfl,q⟩;have u:=t.trans q;have L:=q.keep l;have M:=q.keep m;clear F G q t l m;have F:=zR L;have G:=zR M;clear L M;cases S
  ·go_wp2;go_ret;exact⟨by rw [k.out];rfl,u⟩
  ·by_cases i:D=0
   ·subst i;have E:((N:Int) == 0)=(N == 0):=by
     apply Bool.eq_iff_iff.2;rw [beq_iff_eq,beq_iff_eq];omega
    go_wp2;go_ret;refine⟨?_,u⟩;rw [k.out];simp
   ·have U:((D:Int) == 0)=false:=by rw [beq_eq_false_iff_ne];omega
    have E:(D == 0)=false:=by rw [beq_eq_false_iff_ne];exact i
    rw [E] at k;clear E;go_wp2;go_ret;exact⟨by rw [k.out];rfl,u⟩
def U4(s:Nat × Nat)(m:Nat)(f:Nat × Nat):(Nat × Nat) × Int:=
 if okS s=false\/okS f=false then((0,0),14) else if 16777215<m\/m &&& (f.1 ||| f.2)≠0 then((0,0),2) else(Gn s f (m ||| (f.1 ||| f.2)),0)
def Kh(s f:Nat × Nat)(m:Nat):(Nat × Nat) × Int:=
 if okS s=false\/okS f=false then((0,0),14) else if 16777215<m then((0,0),2) else(Gn s f m,0)
theorem Pd{s f:Nat × Nat}{m:Nat}(M:Y3 s)(K:Y3 f)(b3:m<4294967296)(w:World) :
  Calls Tryz.prog 263 #[sV s,sV f,.int .u32 (m:Int)] w fun e w'=>e=.returned (.tuple #[sV (Kh s f m).1,.int .i64 (Kh s f m).2])/\Ext w w':=by
 have N:=fun(V:World)=>Xw M V;have O:=fun(V:World)=>Xw K V;have L:=fun(V:World)=>Rf M K b3 V;obtain⟨d,b⟩:=s;obtain⟨g,i⟩:=f;obtain⟨a9,b0⟩:=M;obtain⟨b1,b2⟩:=K;dsimp only at a9 b0 b1 b2;obtain⟨t,P⟩:=zE (okS (d,b));obtain⟨a2,Q⟩:=zE (okS (g,i));rw [P] at N;rw [Q] at O;have a6:=Zh N;have a7:=Zh O;have k:Hid (Kh (d,b) (g,i) m=if t=false\/a2=false then((0,0),14) else if 16777215<m then((0,0),2) else(Gn (d,b) (g,i) m,0)):=Zh (by unfold Kh;rw [P,Q]);obtain⟨q,r,Z⟩:∃ q r,Kh (d,b) (g,i) m=(q,r):=⟨_,_,rfl⟩;rw [Z] at k ⊢;clear N O P Q Z;obtain⟨⟨R,S⟩,a0⟩:=zE (Gn (d,b) (g,i) m);rw [a0] at L k;have a5:=Zh L;clear L a0;go_enter Tryz.func263,Tryz.ntmps263;go_wp2_with fail;obtain⟨c,o⟩:=zE w.heap.size;have T:(((w.alloc (.cells #[.int .u32 (d:Int),.int .u32 (b:Int)] 95)).alloc (.cells #[.int .u32 (g:Int),.int .u32 (i:Int)] 95)).alloc (.cells #[.int .u32 0,.int .u32 0] 95)).heap[c]?=some (.cells #[.int .u32 (d:Int),.int .u32 (b:Int)] 95 (0,0)):=by subst o;exact Q6 (Q6 (Q3 rfl))
 have U:(((w.alloc (.cells #[.int .u32 (d:Int),.int .u32 (b:Int)] 95)).alloc (.cells #[.int .u32 (g:Int),.int .u32 (i:Int)] 95)).alloc (.cells #[.int .u32 0,.int .u32 0] 95)).heap[c+1]?=some (.cells #[.int .u32 (g:Int),.int .u32 (i:Int)] 95 (0,0)):=by subst o;exact Q6 (Q3 zy)
 have W:(((w.alloc (.cells #[.int .u32 (d:Int),.int .u32 (b:Int)] 95)).alloc (.cells #[.int .u32 (g:Int),.int .u32 (i:Int)] 95)).alloc (.cells #[.int .u32 0,.int .u32 0] 95)).heap[c+2]?=some (.cells #[.int .u32 0,.int .u32 0] 95 (0,0)):=by subst o;exact Q3 zy
 have F:Ext w (((w.alloc (.cells #[.int .u32 (d:Int),.int .u32 (b:Int)] 95)).alloc (.cells #[.int .u32 (g:Int),.int .u32 (i:Int)] 95)).alloc (.cells #[.int .u32 0,.int .u32 0] 95)):=(((Q1.refl _ w).alloc _).alloc _).alloc _;refine(a6.out _).mono ?_;generalize (((w.alloc (.cells #[.int .u32 (d:Int),.int .u32 (b:Int)] 95)).alloc (.cells #[.int .u32 (g:Int),.int .u32 (i:Int)] 95)).alloc (.cells #[.int .u32 0,.int .u32 0] 95))=b8 at T U W F ⊢;rw [o];have B:=Zh o;clear o;rintro e b4 ⟨rfl,a⟩;have G:=F.trans a;have C:=a.keep T;have D:=a.keep U;have E:=a.keep W;have I:=zR C;have J:=zR D;have H:=Zh E;clear a T U W F;cases t
 ·clear C D E;have n:q=(0,0)/\r=14:=by have:=k.out;rw [if_pos (.inl rfl)] at this;exact⟨congrArg Prod.fst this,congrArg Prod.snd this⟩
  obtain⟨rfl,rfl⟩:=n;clear k
  go_wp2_with (refine wpList_store_row rfl 95 (.tmp 6) (.tmp 16) rfl (c+2) #[.int .u32 0,.int .u32 0] rfl rfl _ _ H.out kz rfl kz ?_)
  have l:=Q1.setRow b4 (c+2) #[.int .u32 0,.int .u32 0];refine bodyPost_ret (Yt (p:=6) (u:=7) rfl rfl (setRow_heap _ _ _ _ _ _ H.out) kz) rfl ?_;exact⟨rfl,G.after l (fun b h1 e=>by have:=B.out;omega)⟩
 go_wp2_with fail;refine(a7.out _).mono ?_;rintro e a1 ⟨rfl,a⟩;have A:=G.trans a;have x:=a.keep C;have y:=a.keep D;have z:=a.keep E;clear I J H a C D E G;have I:=zR x;have J:=zR y;have v:=Zh z;cases a2
 ·clear x y z;have n:q=(0,0)/\r=14:=by have:=k.out;rw [if_pos (.inr rfl)] at this;exact⟨congrArg Prod.fst this,congrArg Prod.snd this⟩
  obtain⟨rfl,rfl⟩:=n;clear k
  go_wp2_with (refine wpList_store_row rfl 95 (.tmp 6) (.tmp 16) rfl (c+2) #[.int .u32 0,.int .u32 0] rfl rfl _ _ v.out kz rfl kz ?_)
  have l:=Q1.setRow a1 (c+2) #[.int .u32 0,.int .u32 0];refine bodyPost_ret (Yt (p:=6) (u:=7) rfl rfl (setRow_heap _ _ _ _ _ _ v.out) kz) rfl ?_;exact⟨rfl,A.after l (fun b h1 e=>by have:=B.out;omega)⟩
 by_cases Y:16777215<m
 ·have a8:(16777215:Int)<(m:Int):=by omega
  clear x y z;have n:q=(0,0)/\r=2:=by have:=k.out;rw [if_neg zd,if_pos Y] at this;exact⟨congrArg Prod.fst this,congrArg Prod.snd this⟩
  obtain⟨rfl,rfl⟩:=n;clear k
  go_wp2_with (refine wpList_store_row rfl 95 (.tmp 6) (.tmp 19) rfl (c+2) #[.int .u32 0,.int .u32 0] rfl rfl _ _ v.out kz rfl kz ?_)
  have l:=Q1.setRow a1 (c+2) #[.int .u32 0,.int .u32 0];refine bodyPost_ret (Yt (p:=6) (u:=7) rfl rfl (setRow_heap _ _ _ _ _ _ v.out) kz) rfl ?_;exact⟨rfl,A.after l (fun b h1 e=>by have:=B.out;omega)⟩
 have a8:¬ (16777215:Int)<(m:Int):=by omega
 have n:q=(R,S)/\r=0:=by have:=k.out;rw [if_neg zd,if_neg Y] at this;exact⟨congrArg Prod.fst this,congrArg Prod.snd this⟩
 obtain⟨rfl,rfl⟩:=n;clear k;go_wp2_with fail;refine(a5.out _).mono ?_;rintro e b5 ⟨rfl,a⟩;have a4:=A.trans a;have b6:=a.keep x;have b7:=a.keep y;have a3:=a.keep z;clear I J v a x y z A;have X:=Zh a3;clear b6 b7 a3
 go_wp2_with (refine wpList_store_row rfl 95 (.tmp 6) (.tmp 23) rfl (c+2) #[.int .u32 (R:Int),.int .u32 (S:Int)] rfl rfl _ _ X.out kz rfl kz ?_)
 have l:=Q1.setRow b5 (c+2) #[.int .u32 (R:Int),.int .u32 (S:Int)];refine bodyPost_ret (Yt (p:=6) (u:=7) rfl rfl (setRow_heap _ _ _ _ _ _ X.out) kz) rfl ?_;exact⟨rfl,a4.after l (fun b h1 e=>by have:=B.out;omega)⟩
theorem Lg{s f:Nat × Nat}{m:Nat}(a6:Y3 s)(y:Y3 f)(a5:m<4294967296)(w:World) :
  Calls Tryz.prog 262 #[sV s,.int .u32 (m:Int),sV f] w fun e w'=>e=.returned (.tuple #[sV (U4 s m f).1,.int .i64 (U4 s m f).2])/\Ext w w':=by
 have a7:=fun(V:World)=>Xw a6 V;have a8:=fun(V:World)=>Xw y V;have R:=fun(V:World)=>Q3o y V;have J:f.1 ||| f.2<4294967296:=Nat.or_lt_two_pow (n:=32) y.1 y.2;have T:m ||| (f.1 ||| f.2)<4294967296:=Nat.or_lt_two_pow (n:=32) a5 J;have z:=fun(V:World)=>Rf a6 y T V;have b1:=u32_and_nat m (f.1 ||| f.2) a5 J;have b2:=u32_or_nat m (f.1 ||| f.2) a5 J;obtain⟨k,c⟩:=s;obtain⟨d,g⟩:=f;obtain⟨d9,e0⟩:=a6;obtain⟨e1,e2⟩:=y;dsimp only at d9 e0 e1 e2;dsimp only at R J T z b1 b2;obtain⟨C,a9⟩:=zE (okS (k,c));obtain⟨d1,b0⟩:=zE (okS (d,g));rw [a9] at a7;rw [b0] at a8;have d4:=Zh a7;have d5:=Zh a8;have i:Hid (U4 (k,c) m (d,g)=if C=false\/d1=false then((0,0),14) else if 16777215<m\/m &&& (d ||| g)≠0 then((0,0),2) else(Gn (k,c) (d,g) (m ||| (d ||| g)),0)):=Zh (by unfold U4;rw [a9,b0]);obtain⟨r,t,L⟩:∃ r t,U4 (k,c) m (d,g)=(r,t):=⟨_,_,rfl⟩;rw [L] at i ⊢;clear a7 a8 a9 b0 L;obtain⟨⟨b3,b4⟩,c7⟩:=zE (Gn (k,c) (d,g) (m ||| (d ||| g)));obtain⟨Q,c4⟩:=zE (d ||| g);rw [c7] at z i;rw [c4] at R z i b1 b2 J T;obtain⟨A,c5⟩:=zE (m &&& Q);obtain⟨e7,L⟩:=zE (m ||| Q);rw [c5] at b1 i;rw [L] at b2 z;have d3:=Zh z;have c1:=Zh R;clear z R c7 c4 c5 L T;go_enter Tryz.func262,Tryz.ntmps262;go_wp2_with fail;obtain⟨a,x⟩:=zE w.heap.size;have b5:(((w.alloc (.cells #[.int .u32 (k:Int),.int .u32 (c:Int)] 95)).alloc (.cells #[.int .u32 (d:Int),.int .u32 (g:Int)] 95)).alloc (.cells #[.int .u32 0,.int .u32 0] 95)).heap[a]?=some (.cells #[.int .u32 (k:Int),.int .u32 (c:Int)] 95 (0,0)):=by subst x;exact Q6 (Q6 (Q3 rfl))
 have b6:(((w.alloc (.cells #[.int .u32 (k:Int),.int .u32 (c:Int)] 95)).alloc (.cells #[.int .u32 (d:Int),.int .u32 (g:Int)] 95)).alloc (.cells #[.int .u32 0,.int .u32 0] 95)).heap[a+1]?=some (.cells #[.int .u32 (d:Int),.int .u32 (g:Int)] 95 (0,0)):=by subst x;exact Q6 (Q3 zy)
 have b7:(((w.alloc (.cells #[.int .u32 (k:Int),.int .u32 (c:Int)] 95)).alloc (.cells #[.int .u32 (d:Int),.int .u32 (g:Int)] 95)).alloc (.cells #[.int .u32 0,.int .u32 0] 95)).heap[a+2]?=some (.cells #[.int .u32 0,.int .u32 0] 95 (0,0)):=by subst x;exact Q3 zy
 have a1:Ext w (((w.alloc (.cells #[.int .u32 (k:Int),.int .u32 (c:Int)] 95)).alloc (.cells #[.int .u32 (d:Int),.int .u32 (g:Int)] 95)).alloc (.cells #[.int .u32 0,.int .u32 0] 95)):=(((Q1.refl _ w).alloc _).alloc _).alloc _;refine(d4.out _).mono ?_;generalize (((w.alloc (.cells #[.int .u32 (k:Int),.int .u32 (c:Int)] 95)).alloc (.cells #[.int .u32 (d:Int),.int .u32 (g:Int)] 95)).alloc (.cells #[.int .u32 0,.int .u32 0] 95))=e8 at b5 b6 b7 a1 ⊢;rw [x];have D:=Zh x;clear x;rintro e e4 ⟨rfl,b⟩;have a2:=a1.trans b;have W:=b.keep b5;have Y:=b.keep b6;have a0:=b.keep b7;have G:=zR W;have H:=zR Y;have a3:=Zh a0;clear b b5 b6 b7 a1;cases C
 ·clear W Y a0;have q:r=(0,0)/\t=14:=by have:=i.out;rw [if_pos (.inl rfl)] at this;exact⟨congrArg Prod.fst this,congrArg Prod.snd this⟩
  obtain⟨rfl,rfl⟩:=q;clear i
  go_wp2_with (refine wpList_store_row rfl 95 (.tmp 6) (.tmp 16) rfl (a+2) #[.int .u32 0,.int .u32 0] rfl rfl _ _ a3.out kz rfl kz ?_)
  have o:=Q1.setRow e4 (a+2) #[.int .u32 0,.int .u32 0];refine bodyPost_ret (Yt (p:=6) (u:=7) rfl rfl (setRow_heap _ _ _ _ _ _ a3.out) kz) rfl ?_;exact⟨rfl,a2.after o (fun c v e=>by have:=D.out;omega)⟩
 go_wp2_with fail;refine(d5.out _).mono ?_;rintro e c9 ⟨rfl,b⟩;have P:=a2.trans b;have M:=b.keep W;have N:=b.keep Y;have O:=b.keep a0;clear G H a3 b W Y a0 a2;have G:=zR M;have H:=zR N;have F:=Zh O;cases d1
 ·clear M N O;have q:r=(0,0)/\t=14:=by have:=i.out;rw [if_pos (.inr rfl)] at this;exact⟨congrArg Prod.fst this,congrArg Prod.snd this⟩
  obtain⟨rfl,rfl⟩:=q;clear i
  go_wp2_with (refine wpList_store_row rfl 95 (.tmp 6) (.tmp 16) rfl (a+2) #[.int .u32 0,.int .u32 0] rfl rfl _ _ F.out kz rfl kz ?_)
  have o:=Q1.setRow c9 (a+2) #[.int .u32 0,.int .u32 0];refine bodyPost_ret (Yt (p:=6) (u:=7) rfl rfl (setRow_heap _ _ _ _ _ _ F.out) kz) rfl ?_;exact⟨rfl,P.after o (fun c v e=>by have:=D.out;omega)⟩
 by_cases e3:16777215<m
 ·have d7:(16777215:Int)<(m:Int):=by omega
  clear M N O;have q:r=(0,0)/\t=2:=by have:=i.out;rw [if_neg zd,if_pos (.inl e3)] at this;exact⟨congrArg Prod.fst this,congrArg Prod.snd this⟩
  obtain⟨rfl,rfl⟩:=q;clear i
  go_wp2_with (refine wpList_store_row rfl 95 (.tmp 6) (.tmp 26) rfl (a+2) #[.int .u32 0,.int .u32 0] rfl rfl _ _ F.out kz rfl kz ?_)
  have o:=Q1.setRow c9 (a+2) #[.int .u32 0,.int .u32 0];refine bodyPost_ret (Yt (p:=6) (u:=7) rfl rfl (setRow_heap _ _ _ _ _ _ F.out) kz) rfl ?_;exact⟨rfl,P.after o (fun c v e=>by have:=D.out;omega)⟩
 have d7:¬ (16777215:Int)<(m:Int):=by omega
 go_wp2_with fail;refine(c1.out _).mono ?_;rintro e B ⟨rfl,b⟩;have c0:=P.trans b;have X:=b.keep M;have Z:=b.keep N;have b8:=b.keep O;clear G H F b M N O P;have G:=zR X;have H:=zR Z;have a4:=Zh b8;by_cases c6:A=0;case neg=>
  have e6:((A:Int) != 0)=true:=by rw [bne_iff_ne];omega
  clear X Z b8;have q:r=(0,0)/\t=2:=by have:=i.out;rw [if_neg zd,if_pos (.inr c6)] at this;exact⟨congrArg Prod.fst this,congrArg Prod.snd this⟩
  obtain⟨rfl,rfl⟩:=q;clear i
  go_wp2_with (refine wpList_store_row rfl 95 (.tmp 6) (.tmp 26) rfl (a+2) #[.int .u32 0,.int .u32 0] rfl rfl _ _ a4.out kz rfl kz ?_)
  have o:=Q1.setRow B (a+2) #[.int .u32 0,.int .u32 0];refine bodyPost_ret (Yt (p:=6) (u:=7) rfl rfl (setRow_heap _ _ _ _ _ _ a4.out) kz) rfl ?_;exact⟨rfl,c0.after o (fun c v e=>by have:=D.out;omega)⟩
 subst c6;have q:r=(b3,b4)/\t=0:=by have:=i.out;rw [if_neg zd,if_neg oz] at this;exact⟨congrArg Prod.fst this,congrArg Prod.snd this⟩
 obtain⟨rfl,rfl⟩:=q;clear i;have c3:∀(l:World),Q1 (·=a+2) B l->l.cell? ⟨a,0,none⟩=some (.int .u32 (k:Int))/\l.cell? ⟨a,1,none⟩=some (.int .u32 (c:Int))/\l.cell? ⟨a+1,0,none⟩=some (.int .u32 (d:Int))/\l.cell? ⟨a+1,1,none⟩=some (.int .u32 (g:Int)):=by
  intro l c2;have d8:=c2.heap X oz;have v:=c2.heap Z oz;simp [World.cell?,d8,v]
 have E:=Zh c3;clear c3 X Z b8;go_wp2_with fail;clear G H;refine wp_region_held_drew (S:=fun l=>l.cell? ⟨a,0,none⟩=some (.int .u32 (k:Int))/\l.cell? ⟨a,1,none⟩=some (.int .u32 (c:Int))/\l.cell? ⟨a+1,0,none⟩=some (.int .u32 (d:Int))/\l.cell? ⟨a+1,1,none⟩=some (.int .u32 (g:Int))) kz (E.out _ (Q1.drew (Q1.refl _ B))) ?_;intro I;refine tH 0 27 I ?_;refine tH 1 28 I ?_;refine tH 2 29 I ?_;refine tH 3 30 I ?_;refine rH [4] ?_;refine AllReadyH.cons rfl (fun K hK=>?_) AllReadyH.nil;refine iw rfl ?_;go_simp;refine(c1.out _).mono ?_;rintro e e5 ⟨rfl,b⟩;have c8:Ext B e5:=Q1.trans (Q1.drew (Q1.refl _ B)) b;refine hK.out _ _ (E.out _ (Ext.of c8)) (fun hS1=>?_);clear hK K b;refine tH 5 32 hS1 ?_;refine rH [6] ?_;refine AllReadyH.cons rfl (fun K hK=>?_) AllReadyH.nil;refine iw rfl ?_;go_simp;refine(d3.out _).mono ?_;rintro e d0 ⟨rfl,b⟩;have U:Ext B d0:=Q1.trans c8 b;have b9:=U.keep a4.out;refine hK.out _ _ (E.out _ (Ext.of U)) (fun hS2=>?_);clear hK K b;refine rH [7] ?_;refine AllReadyH.cons rfl (fun K hK=>?_) AllReadyH.nil;refine iw rfl ?_;refine wp_store_row 95 (.tmp 6) (.tmp 33) rfl (a+2) #[.int .u32 (b3:Int),.int .u32 (b4:Int)] rfl rfl _ _ b9 kz rfl kz ?_;have o:=Q1.setRow d0 (a+2) #[.int .u32 (b3:Int),.int .u32 (b4:Int)];refine hK.out _ _ (E.out _ ((Ext.of U).trans o)) (fun hS3=>?_);clear hK K;change wpAnyH _ _ _ _ _ _ _ (Act.put _ none _) _;simp only [Act.put];refine tH 8 7 hS3 ?_;refine wpAnyH_done kz ?_ _;have d2:=c0.trans U;clear I hS1 hS2 hS3 E;have d6:=Zh b9;clear b9;go_wp2;refine bodyPost_ret (Yt (p:=6) (u:=7) rfl rfl (setRow_heap _ _ _ _ _ _ d6.out) kz) rfl ?_;exact⟨rfl,d2.after o (fun c v e=>by have:=D.out;omega)⟩
def Qa9(s:Nat × Nat)(f:Nat):Prop:=∀ i,i<f->¬ (s.1.testBit i=true/\s.2.testBit i=true)/\((s.1.testBit i=true\/s.2.testBit i=true)->i<24)
def Qa5(s c:Nat × Nat)(f:Nat):Prop:=∀ i,i<f->Q4h c i≠0->Q4h s i=Q4h c i
def byt(n i:Nat):UInt8:=UInt8.ofNat (n / 2 ^ (8*i))
def Q9d(s:Nat × Nat):List UInt8:=[byt s.1 0,byt s.2 0,byt s.1 1,byt s.2 1,byt s.1 2,byt s.2 2,byt s.1 3,byt s.2 3]
def Q93(u:Wd):List UInt8:=u.flatMap Q9d
def Qak(u:Wd):ByteArray:=⟨(Q93 u).toArray⟩
end Go.Proofs.YtfdlhlghcbeblaaGreatDoor
