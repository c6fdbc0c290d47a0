/- feats: -/
import Derived.Test.YtfdlhlghcbeblaaGreatDoorQ04
set_option maxRecDepth 100000
set_option maxHeartbeats 8000000
namespace Go.Proofs.YtfdlhlghcbeblaaGreatDoor
open Go.RowKit Go.Ab
attribute [local go_sem] Oper.semAt_some Zi Qz
abbrev sV(s:Nat × Nat):Value:=.agg #[.int .u32 (s.1:Int),.int .u32 (s.2:Int)]
set_option maxHeartbeats 2000000 in
theorem Uw{s:Nat × Nat}(t:Z1 s)(w:World) :
  Calls Tryz.prog 170 #[sV s] w fun e w'=>e=.returned (.bool (okS s))/\Ext w w':=by
 obtain⟨b,c⟩:=s;obtain⟨i,j⟩:=t;obtain⟨u,v⟩:=Wg i j;have r:b ||| c<4294967296:=Nat.or_lt_two_pow (n:=32) i j;have d:okS (b,c)=((b &&& c == 0) && ((b ||| c) / 16777216 == 0)):=rfl;obtain⟨g,o⟩:=zE (b &&& c == 0);obtain⟨a,m⟩:=zE (b ||| c);rw [o] at u d;rw [m] at v d r;have p:(a / 16777216 == 0)=decide ((a:Int)<=16777215):=by
  apply Bool.eq_iff_iff.2;rw [beq_iff_eq,decide_eq_true_iff];omega
 rw [p] at d;obtain⟨k,f⟩:=zE (decide ((a:Int)<=16777215));rw [f] at d;have l:=Zh d;clear d o m p;dsimp only at i j;cases k
 ·have q:¬ (a:Int)<=16777215:=of_decide_eq_false f;clear f;go_enter Tryz.func170,Tryz.ntmps170;cases g
  all_goals
   go_wp2;go_ret;exact⟨by rw [l.out];rfl,(Q0.refl _ _).alloc _⟩
 ·have q:(a:Int)<=16777215:=of_decide_eq_true f;clear f;go_enter Tryz.func170,Tryz.ntmps170;cases g
  all_goals
   go_wp2;go_ret;exact⟨by rw [l.out];rfl,(Q0.refl _ _).alloc _⟩
set_option maxHeartbeats 2000000 in
theorem Qch{s:Nat × Nat}(f:Z1 s)(w:World) :
  Calls Tryz.prog 281 #[sV s] w fun e w'=>e=.returned (.int .u32 ((s.1 ||| s.2:Nat):Int))/\Ext w w':=by
 obtain⟨c,d⟩:=s;obtain⟨a,b⟩:=f;have g:=u32_or_nat c d a b;dsimp only at a b ⊢;go_enter Tryz.func281,Tryz.ntmps281;go_wp2;go_ret;exact⟨rfl,(Q0.refl _ _).alloc _⟩
set_option maxHeartbeats 2000000 in
theorem Q3m{s f:Nat × Nat}{m:Nat}(q:Z1 s)(p:Z1 f)(c:m<4294967296)(w:World) :
  Calls Tryz.prog 282 #[sV s,sV f,.int .u32 (m:Int)] w fun e w'=>e=.returned (sV (Xw s f m))/\Ext w w':=by
 obtain⟨d,g⟩:=s;obtain⟨a,b⟩:=f;obtain⟨i,j⟩:=q;obtain⟨k,l⟩:=p;dsimp only at i j k l;have r:=Hx d m i c;have t:=Hx g m j c;have u:=u32_and_nat a m k c;have v:=u32_and_nat b m l c;have n:a &&& m<4294967296:=Nat.lt_of_le_of_lt Nat.and_le_left k;have o:b &&& m<4294967296:=Nat.lt_of_le_of_lt Nat.and_le_left l;have x:=u32_or_nat (Zv d m) (a &&& m) (Rl i) n;have y:=u32_or_nat (Zv g m) (b &&& m) (Rl j) o;clear n o;go_enter Tryz.func282,Tryz.ntmps282;go_wp2;refine bodyPost_ret (results_cell_row rfl _ _ (w.heap.size+1+1) _ #[.int .u32 ((Zv d m ||| a &&& m:Nat):Int),.int .u32 ((Zv g m ||| b &&& m:Nat):Int)] _ _ rfl (Q3 zy) Tryz.underlying95 rfl kz) rfl ?_;exact⟨rfl,(((Q0.refl _ _).alloc _).alloc _).alloc _⟩
theorem Zm{a:Func}{p u:Tmp}(h:a.results=#[.cell p 95,.tmp u]){tmps:Array Value}{w:World}{g:Nat}{cs:Array Value}(d:tmps.getD p undef=.pointer (some ⟨g,0,none⟩)) (b:w.heap[g]?=some (.cells cs 95 (0,0))) (c:(Tryz.prog.info? 95).map (·.size)=some cs.size) :
  (results a tmps).run Tryz.prog w=.ok (.tuple #[.agg cs,tmps.getD u undef]) w:=by
 have e:tmps[p]?.getD undef=.pointer (some ⟨g,0,none⟩):=by simpa using d
 simp [results,h,e,asAddr,run_loadVar_row w g _ _ _ _ _ b Tryz.underlying95 rfl c]
def Jr(s c:Nat × Nat):Bool:=okS s && okS c && Cf s c
theorem Q8h{s c:Nat × Nat}(a:Z1 c):Cf s c=(Zv c.1 s.1 == 0 && Zv c.2 s.2 == 0):=by
 unfold Cf;apply Bool.eq_iff_iff.2;simp only [Bool.and_eq_true,beq_iff_eq];rw [Q1c a.1,Q1c a.2]
set_option maxHeartbeats 4000000 in
theorem Qcd{s c:Nat × Nat}(K:Z1 s)(g:Z1 c)(w:World) :
  Calls Tryz.prog 260 #[sV s,sV c] w fun e w'=>e=.returned (.bool (Jr s c))/\Ext w w':=by
 have y:=fun(V:World)=>Uw K V;have z:=fun(V:World)=>Uw g V;have r:Jr s c=(okS s && okS c && (Zv c.1 s.1 == 0 && Zv c.2 s.2 == 0)):=by unfold Jr;rw [Q8h g]
 obtain⟨b,d⟩:=s;obtain⟨c,f⟩:=c;obtain⟨H,I⟩:=K;obtain⟨g,J⟩:=g;dsimp only at H I g J;have Q:=Hx c b g H;have R:=Hx f d J I;dsimp only at r;obtain⟨a,A⟩:=zE (okS (b,d));obtain⟨S,B⟩:=zE (okS (c,f));obtain⟨Z,C⟩:=zE (Jr (b,d) (c,f));obtain⟨D,i⟩:=zE (Zv c b);obtain⟨N,x⟩:=zE (Zv f d);rw [A] at y;rw [B] at z;rw [A,B,C,i,x] at r;rw [i] at Q;rw [x] at R;rw [C];obtain⟨O,P,k⟩:=Zh3 y z r;clear y z r A B C i x;go_enter Tryz.func260,Tryz.ntmps260;go_wp2_with fail;have v:Ext w ((w.alloc (.cells #[.int .u32 (b:Int),.int .u32 (d:Int)] 95)).alloc (.cells #[.int .u32 (c:Int),.int .u32 (f:Int)] 95)):=((Q0.refl _ w).alloc _).alloc _;have n:((w.alloc (.cells #[.int .u32 (b:Int),.int .u32 (d:Int)] 95)).alloc (.cells #[.int .u32 (c:Int),.int .u32 (f:Int)] 95)).heap[w.heap.size]?=some (.cells #[.int .u32 (b:Int),.int .u32 (d:Int)] 95 (0,0)):=Q8 (Q3 rfl);have o:((w.alloc (.cells #[.int .u32 (b:Int),.int .u32 (d:Int)] 95)).alloc (.cells #[.int .u32 (c:Int),.int .u32 (f:Int)] 95)).heap[w.heap.size+1]?=some (.cells #[.int .u32 (c:Int),.int .u32 (f:Int)] 95 (0,0)):=Q3 zy;refine(O.out _).mono ?_;generalize ((w.alloc (.cells #[.int .u32 (b:Int),.int .u32 (d:Int)] 95)).alloc (.cells #[.int .u32 (c:Int),.int .u32 (f:Int)] 95))=W at v n o ⊢;generalize w.heap.size=T at n o ⊢;rintro e X ⟨rfl,p⟩;have t:=v.trans p;have l:=p.keep n;have m:=p.keep o;have F:=zR l;have G:=zR m;clear p n o v;cases a
 ·clear l m;go_wp2;go_ret;exact⟨by rw [k.out];rfl,t⟩
 ·go_wp2_with fail;refine(P.out _).mono ?_;rintro e Y ⟨rfl,q⟩;have u:=t.trans q;have L:=q.keep l;have M:=q.keep m;clear F G q t l m;have F:=zR L;have G:=zR M;clear L M;cases S
  ·go_wp2;go_ret;exact⟨by rw [k.out];rfl,u⟩
  ·by_cases i:D=0
   ·subst i;have E:((N:Int) == 0)=(N == 0):=by
     apply Bool.eq_iff_iff.2;rw [beq_iff_eq,beq_iff_eq];omega
    go_wp2;go_ret;refine⟨?_,u⟩;rw [k.out];simp
   ·have U:((D:Int) == 0)=false:=by rw [beq_eq_false_iff_ne];omega
    have E:(D == 0)=false:=by rw [beq_eq_false_iff_ne];exact i
    rw [E] at k;clear E;go_wp2;go_ret;exact⟨by rw [k.out];rfl,u⟩
def X5(s:Nat × Nat)(m:Nat)(f:Nat × Nat):(Nat × Nat) × Int:=
 if okS s=false\/okS f=false then((0,0),14) else if 16777215<m\/m &&& (f.1 ||| f.2)≠0 then((0,0),2) else(Xw s f (m ||| (f.1 ||| f.2)),0)
def Jz(s f:Nat × Nat)(m:Nat):(Nat × Nat) × Int:=
 if okS s=false\/okS f=false then((0,0),14) else if 16777215<m then((0,0),2) else(Xw s f m,0)
theorem Q0b{s f:Nat × Nat}{m:Nat}(M:Z1 s)(K:Z1 f)(b3:m<4294967296)(w:World) :
  Calls Tryz.prog 263 #[sV s,sV f,.int .u32 (m:Int)] w fun e w'=>e=.returned (.tuple #[sV (Jz s f m).1,.int .i64 (Jz s f m).2])/\Ext w w':=by
 have N:=fun(V:World)=>Uw M V;have O:=fun(V:World)=>Uw K V;have L:=fun(V:World)=>Q3m M K b3 V;obtain⟨d,b⟩:=s;obtain⟨g,i⟩:=f;obtain⟨a9,b0⟩:=M;obtain⟨b1,b2⟩:=K;dsimp only at a9 b0 b1 b2;obtain⟨t,P⟩:=zE (okS (d,b));obtain⟨a2,Q⟩:=zE (okS (g,i));rw [P] at N;rw [Q] at O;have a6:=Zh N;have a7:=Zh O;have k:Hid (Jz (d,b) (g,i) m=if t=false\/a2=false then((0,0),14) else if 16777215<m then((0,0),2) else(Xw (d,b) (g,i) m,0)):=Zh (by unfold Jz;rw [P,Q]);obtain⟨q,r,Z⟩:∃ q r,Jz (d,b) (g,i) m=(q,r):=⟨_,_,rfl⟩;rw [Z] at k ⊢;clear N O P Q Z;obtain⟨⟨R,S⟩,a0⟩:=zE (Xw (d,b) (g,i) m);rw [a0] at L k;have a5:=Zh L;clear L a0;go_enter Tryz.func263,Tryz.ntmps263;go_wp2_with fail;obtain⟨c,o⟩:=zE w.heap.size;have T:(((w.alloc (.cells #[.int .u32 (d:Int),.int .u32 (b:Int)] 95)).alloc (.cells #[.int .u32 (g:Int),.int .u32 (i:Int)] 95)).alloc (.cells #[.int .u32 0,.int .u32 0] 95)).heap[c]?=some (.cells #[.int .u32 (d:Int),.int .u32 (b:Int)] 95 (0,0)):=by subst o;exact Q8 (Q8 (Q3 rfl))
 have U:(((w.alloc (.cells #[.int .u32 (d:Int),.int .u32 (b:Int)] 95)).alloc (.cells #[.int .u32 (g:Int),.int .u32 (i:Int)] 95)).alloc (.cells #[.int .u32 0,.int .u32 0] 95)).heap[c+1]?=some (.cells #[.int .u32 (g:Int),.int .u32 (i:Int)] 95 (0,0)):=by subst o;exact Q8 (Q3 zy)
 have W:(((w.alloc (.cells #[.int .u32 (d:Int),.int .u32 (b:Int)] 95)).alloc (.cells #[.int .u32 (g:Int),.int .u32 (i:Int)] 95)).alloc (.cells #[.int .u32 0,.int .u32 0] 95)).heap[c+2]?=some (.cells #[.int .u32 0,.int .u32 0] 95 (0,0)):=by subst o;exact Q3 zy
 have F:Ext w (((w.alloc (.cells #[.int .u32 (d:Int),.int .u32 (b:Int)] 95)).alloc (.cells #[.int .u32 (g:Int),.int .u32 (i:Int)] 95)).alloc (.cells #[.int .u32 0,.int .u32 0] 95)):=(((Q0.refl _ w).alloc _).alloc _).alloc _;refine(a6.out _).mono ?_;generalize (((w.alloc (.cells #[.int .u32 (d:Int),.int .u32 (b:Int)] 95)).alloc (.cells #[.int .u32 (g:Int),.int .u32 (i:Int)] 95)).alloc (.cells #[.int .u32 0,.int .u32 0] 95))=b8 at T U W F ⊢;rw [o];have B:=Zh o;clear o;rintro e b4 ⟨rfl,a⟩;have G:=F.trans a;have C:=a.keep T;have D:=a.keep U;have E:=a.keep W;have I:=zR C;have J:=zR D;have H:=Zh E;clear a T U W F;cases t
 ·clear C D E;have n:q=(0,0)/\r=14:=by have:=k.out;rw [if_pos (.inl rfl)] at this;exact⟨congrArg Prod.fst this,congrArg Prod.snd this⟩
  obtain⟨rfl,rfl⟩:=n;clear k
  go_wp2_with (refine wpList_store_row rfl 95 (.tmp 6) (.tmp 16) rfl (c+2) #[.int .u32 0,.int .u32 0] rfl rfl _ _ H.out kz rfl kz ?_)
  have l:=Q0.setRow b4 (c+2) #[.int .u32 0,.int .u32 0];refine bodyPost_ret (Zm (p:=6) (u:=7) rfl rfl (setRow_heap _ _ _ _ _ _ H.out) kz) rfl ?_;exact⟨rfl,G.after l (fun b h1 e=>by have:=B.out;omega)⟩
 go_wp2_with fail;refine(a7.out _).mono ?_;rintro e a1 ⟨rfl,a⟩;have A:=G.trans a;have x:=a.keep C;have y:=a.keep D;have z:=a.keep E;clear I J H a C D E G;have I:=zR x;have J:=zR y;have v:=Zh z;cases a2
 ·clear x y z;have n:q=(0,0)/\r=14:=by have:=k.out;rw [if_pos (.inr rfl)] at this;exact⟨congrArg Prod.fst this,congrArg Prod.snd this⟩
  obtain⟨rfl,rfl⟩:=n;clear k
  go_wp2_with (refine wpList_store_row rfl 95 (.tmp 6) (.tmp 16) rfl (c+2) #[.int .u32 0,.int .u32 0] rfl rfl _ _ v.out kz rfl kz ?_)
  have l:=Q0.setRow a1 (c+2) #[.int .u32 0,.int .u32 0];refine bodyPost_ret (Zm (p:=6) (u:=7) rfl rfl (setRow_heap _ _ _ _ _ _ v.out) kz) rfl ?_;exact⟨rfl,A.after l (fun b h1 e=>by have:=B.out;omega)⟩
 by_cases Y:16777215<m
 ·have a8:(16777215:Int)<(m:Int):=by omega
  clear x y z;have n:q=(0,0)/\r=2:=by have:=k.out;rw [if_neg zd,if_pos Y] at this;exact⟨congrArg Prod.fst this,congrArg Prod.snd this⟩
  obtain⟨rfl,rfl⟩:=n;clear k
  go_wp2_with (refine wpList_store_row rfl 95 (.tmp 6) (.tmp 19) rfl (c+2) #[.int .u32 0,.int .u32 0] rfl rfl _ _ v.out kz rfl kz ?_)
  have l:=Q0.setRow a1 (c+2) #[.int .u32 0,.int .u32 0];refine bodyPost_ret (Zm (p:=6) (u:=7) rfl rfl (setRow_heap _ _ _ _ _ _ v.out) kz) rfl ?_;exact⟨rfl,A.after l (fun b h1 e=>by have:=B.out;omega)⟩
 have a8:¬ (16777215:Int)<(m:Int):=by omega
 have n:q=(R,S)/\r=0:=by have:=k.out;rw [if_neg zd,if_neg Y] at this;exact⟨congrArg Prod.fst this,congrArg Prod.snd this⟩
 obtain⟨rfl,rfl⟩:=n;clear k;go_wp2_with fail;refine(a5.out _).mono ?_;rintro e b5 ⟨rfl,a⟩;have a4:=A.trans a;have b6:=a.keep x;have b7:=a.keep y;have a3:=a.keep z;clear I J v a x y z A;have X:=Zh a3;clear b6 b7 a3
 go_wp2_with (refine wpList_store_row rfl 95 (.tmp 6) (.tmp 23) rfl (c+2) #[.int .u32 (R:Int),.int .u32 (S:Int)] rfl rfl _ _ X.out kz rfl kz ?_)
 have l:=Q0.setRow b5 (c+2) #[.int .u32 (R:Int),.int .u32 (S:Int)];refine bodyPost_ret (Zm (p:=6) (u:=7) rfl rfl (setRow_heap _ _ _ _ _ _ X.out) kz) rfl ?_;exact⟨rfl,a4.after l (fun b h1 e=>by have:=B.out;omega)⟩
theorem S8{s f:Nat × Nat}{m:Nat}(a6:Z1 s)(y:Z1 f)(a5:m<4294967296)(w:World) :
  Calls Tryz.prog 262 #[sV s,.int .u32 (m:Int),sV f] w fun e w'=>e=.returned (.tuple #[sV (X5 s m f).1,.int .i64 (X5 s m f).2])/\Ext w w':=by
 have a7:=fun(V:World)=>Uw a6 V;have a8:=fun(V:World)=>Uw y V;have R:=fun(V:World)=>Qch y V;have J:f.1 ||| f.2<4294967296:=Nat.or_lt_two_pow (n:=32) y.1 y.2;have T:m ||| (f.1 ||| f.2)<4294967296:=Nat.or_lt_two_pow (n:=32) a5 J;have z:=fun(V:World)=>Q3m a6 y T V;have b1:=u32_and_nat m (f.1 ||| f.2) a5 J;have b2:=u32_or_nat m (f.1 ||| f.2) a5 J;obtain⟨k,c⟩:=s;obtain⟨d,g⟩:=f;obtain⟨d9,e0⟩:=a6;obtain⟨e1,e2⟩:=y;dsimp only at d9 e0 e1 e2;dsimp only at R J T z b1 b2;obtain⟨C,a9⟩:=zE (okS (k,c));obtain⟨d1,b0⟩:=zE (okS (d,g));rw [a9] at a7;rw [b0] at a8;have d4:=Zh a7;have d5:=Zh a8;have i:Hid (X5 (k,c) m (d,g)=if C=false\/d1=false then((0,0),14) else if 16777215<m\/m &&& (d ||| g)≠0 then((0,0),2) else(Xw (k,c) (d,g) (m ||| (d ||| g)),0)):=Zh (by unfold X5;rw [a9,b0]);obtain⟨r,t,L⟩:∃ r t,X5 (k,c) m (d,g)=(r,t):=⟨_,_,rfl⟩;rw [L] at i ⊢;clear a7 a8 a9 b0 L;obtain⟨⟨b3,b4⟩,c7⟩:=zE (Xw (k,c) (d,g) (m ||| (d ||| g)));obtain⟨Q,c4⟩:=zE (d ||| g);rw [c7] at z i;rw [c4] at R z i b1 b2 J T;obtain⟨A,c5⟩:=zE (m &&& Q);obtain⟨e7,L⟩:=zE (m ||| Q);rw [c5] at b1 i;rw [L] at b2 z;have d3:=Zh z;have c1:=Zh R;clear z R c7 c4 c5 L T;go_enter Tryz.func262,Tryz.ntmps262;go_wp2_with fail;obtain⟨a,x⟩:=zE w.heap.size;have b5:(((w.alloc (.cells #[.int .u32 (k:Int),.int .u32 (c:Int)] 95)).alloc (.cells #[.int .u32 (d:Int),.int .u32 (g:Int)] 95)).alloc (.cells #[.int .u32 0,.int .u32 0] 95)).heap[a]?=some (.cells #[.int .u32 (k:Int),.int .u32 (c:Int)] 95 (0,0)):=by subst x;exact Q8 (Q8 (Q3 rfl))
 have b6:(((w.alloc (.cells #[.int .u32 (k:Int),.int .u32 (c:Int)] 95)).alloc (.cells #[.int .u32 (d:Int),.int .u32 (g:Int)] 95)).alloc (.cells #[.int .u32 0,.int .u32 0] 95)).heap[a+1]?=some (.cells #[.int .u32 (d:Int),.int .u32 (g:Int)] 95 (0,0)):=by subst x;exact Q8 (Q3 zy)
 have b7:(((w.alloc (.cells #[.int .u32 (k:Int),.int .u32 (c:Int)] 95)).alloc (.cells #[.int .u32 (d:Int),.int .u32 (g:Int)] 95)).alloc (.cells #[.int .u32 0,.int .u32 0] 95)).heap[a+2]?=some (.cells #[.int .u32 0,.int .u32 0] 95 (0,0)):=by subst x;exact Q3 zy
 have a1:Ext w (((w.alloc (.cells #[.int .u32 (k:Int),.int .u32 (c:Int)] 95)).alloc (.cells #[.int .u32 (d:Int),.int .u32 (g:Int)] 95)).alloc (.cells #[.int .u32 0,.int .u32 0] 95)):=(((Q0.refl _ w).alloc _).alloc _).alloc _;refine(d4.out _).mono ?_;generalize (((w.alloc (.cells #[.int .u32 (k:Int),.int .u32 (c:Int)] 95)).alloc (.cells #[.int .u32 (d:Int),.int .u32 (g:Int)] 95)).alloc (.cells #[.int .u32 0,.int .u32 0] 95))=e8 at b5 b6 b7 a1 ⊢;rw [x];have D:=Zh x;clear x;rintro e e4 ⟨rfl,b⟩;have a2:=a1.trans b;have W:=b.keep b5;have Y:=b.keep b6;have a0:=b.keep b7;have G:=zR W;have H:=zR Y;have a3:=Zh a0;clear b b5 b6 b7 a1;cases C
 ·clear W Y a0;have q:r=(0,0)/\t=14:=by have:=i.out;rw [if_pos (.inl rfl)] at this;exact⟨congrArg Prod.fst this,congrArg Prod.snd this⟩
  obtain⟨rfl,rfl⟩:=q;clear i
  go_wp2_with (refine wpList_store_row rfl 95 (.tmp 6) (.tmp 16) rfl (a+2) #[.int .u32 0,.int .u32 0] rfl rfl _ _ a3.out kz rfl kz ?_)
  have o:=Q0.setRow e4 (a+2) #[.int .u32 0,.int .u32 0];refine bodyPost_ret (Zm (p:=6) (u:=7) rfl rfl (setRow_heap _ _ _ _ _ _ a3.out) kz) rfl ?_;exact⟨rfl,a2.after o (fun c v e=>by have:=D.out;omega)⟩
 go_wp2_with fail;refine(d5.out _).mono ?_;rintro e c9 ⟨rfl,b⟩;have P:=a2.trans b;have M:=b.keep W;have N:=b.keep Y;have O:=b.keep a0;clear G H a3 b W Y a0 a2;have G:=zR M;have H:=zR N;have F:=Zh O;cases d1
 ·clear M N O;have q:r=(0,0)/\t=14:=by have:=i.out;rw [if_pos (.inr rfl)] at this;exact⟨congrArg Prod.fst this,congrArg Prod.snd this⟩
  obtain⟨rfl,rfl⟩:=q;clear i
  go_wp2_with (refine wpList_store_row rfl 95 (.tmp 6) (.tmp 16) rfl (a+2) #[.int .u32 0,.int .u32 0] rfl rfl _ _ F.out kz rfl kz ?_)
  have o:=Q0.setRow c9 (a+2) #[.int .u32 0,.int .u32 0];refine bodyPost_ret (Zm (p:=6) (u:=7) rfl rfl (setRow_heap _ _ _ _ _ _ F.out) kz) rfl ?_;exact⟨rfl,P.after o (fun c v e=>by have:=D.out;omega)⟩
 by_cases e3:16777215<m
 ·have d7:(16777215:Int)<(m:Int):=by omega
  clear M N O;have q:r=(0,0)/\t=2:=by have:=i.out;rw [if_neg zd,if_pos (.inl e3)] at this;exact⟨congrArg Prod.fst this,congrArg Prod.snd this⟩
  obtain⟨rfl,rfl⟩:=q;clear i
  go_wp2_with (refine wpList_store_row rfl 95 (.tmp 6) (.tmp 26) rfl (a+2) #[.int .u32 0,.int .u32 0] rfl rfl _ _ F.out kz rfl kz ?_)
  have o:=Q0.setRow c9 (a+2) #[.int .u32 0,.int .u32 0];refine bodyPost_ret (Zm (p:=6) (u:=7) rfl rfl (setRow_heap _ _ _ _ _ _ F.out) kz) rfl ?_;exact⟨rfl,P.after o (fun c v e=>by have:=D.out;omega)⟩
 have d7:¬ (16777215:Int)<(m:Int):=by omega
 go_wp2_with fail;refine(c1.out _).mono ?_;rintro e B ⟨rfl,b⟩;have c0:=P.trans b;have X:=b.keep M;have Z:=b.keep N;have b8:=b.keep O;clear G H F b M N O P;have G:=zR X;have H:=zR Z;have a4:=Zh b8;by_cases c6:A=0;case neg=>
  have e6:((A:Int) != 0)=true:=by rw [bne_iff_ne];omega
  clear X Z b8;have q:r=(0,0)/\t=2:=by have:=i.out;rw [if_neg zd,if_pos (.inr c6)] at this;exact⟨congrArg Prod.fst this,congrArg Prod.snd this⟩
  obtain⟨rfl,rfl⟩:=q;clear i
  go_wp2_with (refine wpList_store_row rfl 95 (.tmp 6) (.tmp 26) rfl (a+2) #[.int .u32 0,.int .u32 0] rfl rfl _ _ a4.out kz rfl kz ?_)
  have o:=Q0.setRow B (a+2) #[.int .u32 0,.int .u32 0];refine bodyPost_ret (Zm (p:=6) (u:=7) rfl rfl (setRow_heap _ _ _ _ _ _ a4.out) kz) rfl ?_;exact⟨rfl,c0.after o (fun c v e=>by have:=D.out;omega)⟩
 subst c6;have q:r=(b3,b4)/\t=0:=by have:=i.out;rw [if_neg zd,if_neg oz] at this;exact⟨congrArg Prod.fst this,congrArg Prod.snd this⟩
 obtain⟨rfl,rfl⟩:=q;clear i;have c3:∀(l:World),Q0 (·=a+2) B l->l.cell? ⟨a,0,none⟩=some (.int .u32 (k:Int))/\l.cell? ⟨a,1,none⟩=some (.int .u32 (c:Int))/\l.cell? ⟨a+1,0,none⟩=some (.int .u32 (d:Int))/\l.cell? ⟨a+1,1,none⟩=some (.int .u32 (g:Int)):=by
  intro l c2;have d8:=c2.heap X oz;have v:=c2.heap Z oz;simp [World.cell?,d8,v]
 have E:=Zh c3;clear c3 X Z b8;go_wp2_with fail;clear G H;refine wp_region_held_drew (S:=fun l=>l.cell? ⟨a,0,none⟩=some (.int .u32 (k:Int))/\l.cell? ⟨a,1,none⟩=some (.int .u32 (c:Int))/\l.cell? ⟨a+1,0,none⟩=some (.int .u32 (d:Int))/\l.cell? ⟨a+1,1,none⟩=some (.int .u32 (g:Int))) kz (E.out _ (Q0.drew (Q0.refl _ B))) ?_;intro I;refine tH 0 27 I ?_;refine tH 1 28 I ?_;refine tH 2 29 I ?_;refine tH 3 30 I ?_;refine rH [4] ?_;refine AllReadyH.cons rfl (fun K hK=>?_) AllReadyH.nil;refine iw rfl ?_;go_simp;refine(c1.out _).mono ?_;rintro e e5 ⟨rfl,b⟩;have c8:Ext B e5:=Q0.trans (Q0.drew (Q0.refl _ B)) b;refine hK.out _ _ (E.out _ (Ext.of c8)) (fun hS1=>?_);clear hK K b;refine tH 5 32 hS1 ?_;refine rH [6] ?_;refine AllReadyH.cons rfl (fun K hK=>?_) AllReadyH.nil;refine iw rfl ?_;go_simp;refine(d3.out _).mono ?_;rintro e d0 ⟨rfl,b⟩;have U:Ext B d0:=Q0.trans c8 b;have b9:=U.keep a4.out;refine hK.out _ _ (E.out _ (Ext.of U)) (fun hS2=>?_);clear hK K b;refine rH [7] ?_;refine AllReadyH.cons rfl (fun K hK=>?_) AllReadyH.nil;refine iw rfl ?_;refine wp_store_row 95 (.tmp 6) (.tmp 33) rfl (a+2) #[.int .u32 (b3:Int),.int .u32 (b4:Int)] rfl rfl _ _ b9 kz rfl kz ?_;have o:=Q0.setRow d0 (a+2) #[.int .u32 (b3:Int),.int .u32 (b4:Int)];refine hK.out _ _ (E.out _ ((Ext.of U).trans o)) (fun hS3=>?_);clear hK K;change wpAnyH _ _ _ _ _ _ _ (Act.put _ none _) _;simp only [Act.put];refine tH 8 7 hS3 ?_;refine wpAnyH_done kz ?_ _;have d2:=c0.trans U;clear I hS1 hS2 hS3 E;have d6:=Zh b9;clear b9;go_wp2;refine bodyPost_ret (Zm (p:=6) (u:=7) rfl rfl (setRow_heap _ _ _ _ _ _ d6.out) kz) rfl ?_;exact⟨rfl,d2.after o (fun c v e=>by have:=D.out;omega)⟩
def byt(n i:Nat):UInt8:=UInt8.ofNat (n / 2 ^ (8*i))
def Qhb(s:Nat × Nat):List UInt8:=[byt s.1 0,byt s.2 0,byt s.1 1,byt s.2 1,byt s.1 2,byt s.2 2,byt s.1 3,byt s.2 3]
def Qgw(u:Wd):List UInt8:=u.flatMap Qhb
def Qi2(u:Wd):ByteArray:=⟨(Qgw u).toArray⟩
def Rx(s:Nat × Nat)(f:Nat):Prop:=∀ i,i<f->¬ (s.1.testBit i=true/\s.2.testBit i=true)/\((s.1.testBit i=true\/s.2.testBit i=true)->i<24)
theorem Qaj{s:Nat × Nat}{f:Nat}(h:Rx s f)(h1:¬ (s.1.testBit f=true/\s.2.testBit f=true)) (h2:(s.1.testBit f=true\/s.2.testBit f=true)->f<24):Rx s (f+1):=fun i hi=>by
 by_cases e:i=f
 ·subst e;exact⟨h1,h2⟩
 ·exact h i oz
theorem Q9u{s:Nat × Nat}(c:Z1 s){f:Nat}(b:f<32)(h:(s.1.testBit f=true/\s.2.testBit f=true)\/((s.1.testBit f=true\/s.2.testBit f=true)/\24<=f)):okS s=false:=by
 cases hq:okS s with
 | false=>rfl
 | true=>
  have:=(Fs c).1 hq f b;rcases h with h | ⟨a,d⟩
  ·exact absurd h this.1
  ·have:=this.2 a;omega
theorem Hy{s:Nat × Nat}(r:Z1 s)(w:World) :
  Calls Tryz.prog 183 #[sV s] w fun e w'=>e=.returned (.bool (okS s))/\Ext w w':=by
 have m:=fun(c:Nat) (H:c<32)=>Q9u r H;have A:Rx s 32->okS s=true:=fun h=>(Fs r).2 h;have n:=fun(c:Nat) (h:Rx s c)=>Qaj h;obtain⟨N,f⟩:=zE (okS s);rw [f] at m A ⊢;have F:=fun(c:Nat)=>Rr s.1 c r.1;have G:=fun(c:Nat)=>Rr s.2 c r.2;obtain⟨R,S,T,P,Q⟩:=Zh5 m A n F G;have E:Rx s 0:=fun i h=>by omega
 have B:=Zh E;clear m A n F G f E;go_enter Tryz.func183,Tryz.ntmps183;go_wp2;have o:(w.alloc (.cells #[.int .u32 (s.1:Int),.int .u32 (s.2:Int)] 95)).heap[w.heap.size]?=some (.cells #[.int .u32 (s.1:Int),.int .u32 (s.2:Int)] 95 (0,0)):=Q3 rfl;have p:Ext w (w.alloc (.cells #[.int .u32 (s.1:Int),.int .u32 (s.2:Int)] 95)):=(Q0.refl _ w).alloc _;generalize (w.alloc (.cells #[.int .u32 (s.1:Int),.int .u32 (s.2:Int)] 95))=a2 at o p ⊢;generalize w.heap.size=O at o ⊢;have U:=Zh o;clear o
 refine wp_loop (fun a D=>∃(c:Nat),c<=32/\a.defers=[]/\(a.tmps.size=36/\a.tmps.getD 1 undef=.pointer (some ⟨O,0,none⟩)/\a.tmps.getD 3 undef=.int .i64 c)/\Hid (Rx s c)/\Ext a2 D)
  (fun a _=>32 - (intOf (a.tmps.getD 3 undef)).toNat) ?_ ?_
 ·exact⟨0,by omega,rfl,⟨rfl,rfl,rfl⟩,B,Q0.refl _ _⟩
 clear B;rintro⟨a0,_⟩ D ⟨c,H,X,⟨K,t,u⟩,C,z⟩;subst X;obtain⟨a1,L⟩:=Qv K;obtain⟨b,rfl⟩:∃ x,x=a1:=⟨_,rfl⟩;have Z:a0=#[b 0,b 1,b 2,b 3,b 4,b 5,b 6,b 7,b 8,b 9,b 10,b 11,b 12,b 13,b 14,b 15,b 16,b 17,b 18,b 19,b 20,b 21,b 22,b 23,b 24,b 25,b 26,b 27,b 28,b 29,b 30,b 31,b 32,b 33,b 34,b 35]:=L;clear L;subst Z;change b 1=_ at t;change b 3=_ at u;rw [t,u];clear t u K;have o:=z.keep U.out;have a3:=zR o;have d:=Zh z;clear o z;by_cases Y:c<32
 ·have a4:(c:Int)<32:=by omega
  have V:=P.out c;have W:=Q.out c;have m:=R.out c Y;have n:=T.out c C.out;obtain⟨q,I⟩:=zE (s.1.testBit c);obtain⟨M,J⟩:=zE (s.2.testBit c);rw [I] at V m n;rw [J] at W m n;have g:=Zh m;have k:=Zh n;clear m n I J;cases q
  ·cases M
   ·have l:=Zh (k.out zy zy);clear g k;go_wp2;first | exact⟨⟨c+1,by omega,tz,⟨rfl,rfl,rfl⟩,l,d.out⟩,nz⟩ | exact⟨⟨c+1,by omega,by simp,l,d.out⟩,nz⟩
   ·by_cases y:24<=c
    ·have v:(24:Int)<=(c:Int):=by omega
     have f:=g.out (.inr ⟨.inr rfl,y⟩);subst f;clear g k;go_wp2;go_ret;exact⟨rfl,p.trans d.out⟩
    ·have v:¬ (24:Int)<=(c:Int):=by omega
     have l:=Zh (k.out zy (fun _=>by omega));clear g k;go_wp2;first | exact⟨⟨c+1,by omega,tz,⟨rfl,rfl,rfl⟩,l,d.out⟩,nz⟩ | exact⟨⟨c+1,by omega,by simp,l,d.out⟩,nz⟩
  ·cases M
   ·by_cases y:24<=c
    ·have v:(24:Int)<=(c:Int):=by omega
     have f:=g.out (.inr ⟨.inl rfl,y⟩);subst f;clear g k;go_wp2;go_ret;exact⟨rfl,p.trans d.out⟩
    ·have v:¬ (24:Int)<=(c:Int):=by omega
     have l:=Zh (k.out zy (fun _=>by omega));clear g k;go_wp2;first | exact⟨⟨c+1,by omega,tz,⟨rfl,rfl,rfl⟩,l,d.out⟩,nz⟩ | exact⟨⟨c+1,by omega,by simp,l,d.out⟩,nz⟩
   ·have f:=g.out (.inl ⟨rfl,rfl⟩);subst f;clear g k;go_wp2;go_ret;exact⟨rfl,p.trans d.out⟩
 ·obtain rfl:c=32:=by omega
  have f:=S.out C.out;subst f;go_wp2;go_ret;exact⟨rfl,p.trans d.out⟩
set_option maxHeartbeats 4000000 in
theorem Q4s{f:Nat}(c:f<24)(w:World) :
  Calls Tryz.prog 306 #[.int .i64 (f:Int)] w fun e w'=>e=.returned (.bool true)/\w'=w:=by
 have a:(0:Int)<=(f:Int):=by omega
 have b:(f:Int)<24:=by omega
 go_enter Tryz.func306,Tryz.ntmps306;go_wp2;go_ret;exact⟨rfl,rfl⟩
set_option maxHeartbeats 4000000 in
theorem Nn{s:Nat × Nat}(d:Z1 s)(m:okS s=true){f:Nat}(v:f<24)(w:World) :
  Calls Tryz.prog 302 #[sV s,.int .i64 (f:Int)] w fun e w'=>e=.returned (.int .i64 (X4 s f))/\Ext w w':=by
 have g:=fun(V:World)=>Hy d V;rw [m] at g;have t:=Rr s.1 f d.1;have u:=Rr s.2 f d.2;have b:X4 s f=if s.1.testBit f=true then 1 else if s.2.testBit f=true then -1 else 0:=rfl
 obtain⟨a,n⟩:=zE (s.1.testBit f);obtain⟨x,o⟩:=zE (s.2.testBit f);rw [n] at t b;rw [o] at u b;have r:=Zh g;have i:=Zh b;clear g b n o m;have z:(f:Int)<32:=by omega
 have A:(0:Int)<=(f:Int):=by omega
 go_enter Tryz.func302,Tryz.ntmps302;go_wp2_with fail;have p:(w.alloc (.cells #[.int .u32 (s.1:Int),.int .u32 (s.2:Int)] 95)).heap[w.heap.size]?=some (.cells #[.int .u32 (s.1:Int),.int .u32 (s.2:Int)] 95 (0,0)):=Q3 rfl;have k:Ext w (w.alloc (.cells #[.int .u32 (s.1:Int),.int .u32 (s.2:Int)] 95)):=(Q0.refl _ w).alloc _;refine(r.out _).mono ?_;rintro e B ⟨rfl,c⟩;have l:=k.trans c;have q:=c.keep p;have y:=zR q;clear p q k c;go_wp2_with fail;refine(Q4s v _).mono ?_;rintro e C ⟨rfl,rfl⟩;cases a
 ·cases x
  all_goals
   go_wp2;go_ret;exact⟨by rw [i.out];rfl,l⟩
 ·go_wp2;go_ret;exact⟨by rw [i.out];rfl,l⟩
set_option maxHeartbeats 4000000 in
theorem Q4f{s:Nat × Nat}(J:Z1 s){f:Nat}(N:f<24)(v:Int)(w:World) :
  Calls Tryz.prog 305 #[sV s,.int .i64 (f:Int),.int .i64 v] w fun e w'=>e=.returned (sV (Wt s f v))/\Ext w w':=by
 obtain⟨a,b⟩:=s;obtain⟨m,n⟩:=J;dsimp only at m n;have K:(2:Int) ^ f % 4294967296=((2 ^ f:Nat):Int):=by rw [<-IntKind.wrap_u32'];exact Qgm oz
 have j:=Qgy (show f<32 by omega);have F:=Hx a (2 ^ f) m j;have G:=Hx b (2 ^ f) n j;have t:=u32_or_nat (Zv a (2 ^ f)) (2 ^ f) (Rl m) j;have u:=u32_or_nat (Zv b (2 ^ f)) (2 ^ f) (Rl n) j;obtain⟨B,C⟩:∃ B:Int,((2 ^ f:Nat):Int)=B:=⟨_,rfl⟩;rw [C] at F G t u K;have D:Wt (a,b) f v=(Zv a (2 ^ f) ||| (if v=1 then 2 ^ f else 0),Zv b (2 ^ f) ||| (if v=-1 then 2 ^ f else 0)):=rfl;obtain⟨z,o⟩:=zE (Zv a (2 ^ f));obtain⟨A,p⟩:=zE (Zv b (2 ^ f));obtain⟨H,q⟩:=zE (Zv a (2 ^ f) ||| 2 ^ f);obtain⟨I,r⟩:=zE (Zv b (2 ^ f) ||| 2 ^ f);rw [q] at t;rw [r] at u;rw [o] at F t;rw [p] at G u
 have c:=Zh (show Wt (a,b) f v=(if v=1 then H else z,if v=-1 then I else A) by
  rw [D,<-o,<-p,<-q,<-r]
  congr 1
  ·split <;> simp
  ·split <;> simp)
 obtain⟨⟨d,g⟩,E⟩:=zE (Wt (a,b) f v);rw [E] at c ⊢;clear D o p q r E j C;have O:(f:Int)<32:=by omega
 have P:(0:Int)<=(f:Int):=by omega
 go_enter Tryz.func305,Tryz.ntmps305;by_cases k:v=1
 ·subst k;have i:d=H/\g=A:=by have:=c.out;simpa using this
  obtain⟨rfl,rfl⟩:=i;clear c;go_wp2;refine bodyPost_ret (results_cell_row rfl _ _ (w.heap.size+1) _ #[.int .u32 (d:Int),.int .u32 (g:Int)] _ _ rfl (Q8 (Q3 zy)) Tryz.underlying95 rfl kz) rfl ?_;exact⟨rfl,(((Q0.refl _ _).alloc _).alloc _).alloc _⟩
 by_cases l:v=-1
 ·subst l;have i:d=z/\g=I:=by have:=c.out;simpa using this
  obtain⟨rfl,rfl⟩:=i;clear c;go_wp2;refine bodyPost_ret (results_cell_row rfl _ _ (w.heap.size+1) _ #[.int .u32 (d:Int),.int .u32 (g:Int)] _ _ rfl (Q8 (Q3 zy)) Tryz.underlying95 rfl kz) rfl ?_;exact⟨rfl,(((Q0.refl _ _).alloc _).alloc _).alloc _⟩
 ·have i:d=z/\g=A:=by have:=c.out;rw [if_neg k,if_neg l] at this;exact⟨congrArg Prod.fst this,congrArg Prod.snd this⟩
  obtain⟨rfl,rfl⟩:=i;have L:(v == 1)=false:=by rw [beq_eq_false_iff_ne];exact k
  have M:(v == -1)=false:=by rw [beq_eq_false_iff_ne];exact l
  clear c;go_wp2;refine bodyPost_ret (results_cell_row rfl _ _ (w.heap.size+1) _ #[.int .u32 (d:Int),.int .u32 (g:Int)] _ _ rfl (Q8 (Q3 zy)) Tryz.underlying95 rfl kz) rfl ?_;exact⟨rfl,(((Q0.refl _ _).alloc _).alloc _).alloc _⟩
def Cb(s c:Nat × Nat)(f:Nat):Prop:=∀ i,i<f->X4 c i≠0->X4 s i=X4 c i
theorem Q7e{s c:Nat × Nat}{f:Nat}(h:Cb s c f)(h1:X4 c f≠0->X4 s f=X4 c f):Cb s c (f+1):=fun i hi=>by
 by_cases e:i=f
 ·subst e;exact h1
 ·exact h i oz
theorem Qck{s c:Nat × Nat}(I:Z1 s)(E:Z1 c)(w:World) :
  Calls Tryz.prog 294 #[sV s,sV c] w fun e w'=>e=.returned (.bool (Jr s c))/\Ext w w':=by
 have Z:=fun(l:World)=>Hy I l;have a0:=fun(l:World)=>Hy E l;have X:=fun(f:okS s=true) (b:Nat) (r:b<24) (l:World)=>Nn I f r l;have Y:=fun(f:okS c=true) (b:Nat) (r:b<24) (l:World)=>Nn E f r l;have y:okS s=false\/okS c=false->Jr s c=false:=fun f=>by unfold Jr;rcases f with f | f <;> rw [f] <;> simp
 have z:okS s=true->okS c=true->Cb s c 24->Jr s c=true:=fun x h2 f=>by unfold Jr;rw [x,h2,(Q2e I E x h2).2 f];rfl
 have A:okS s=true->okS c=true->∀ b,b<24->X4 c b≠0->X4 s b≠X4 c b->Jr s c=false:=fun x h2 b r h3 h4=>by
  unfold Jr;cases f:Cf s c with
  | false=>simp
  | true=>exact absurd ((Q2e I E x h2).1 f b r h3) h4
 obtain⟨q,o⟩:=zE (okS s);obtain⟨c6,p⟩:=zE (okS c);obtain⟨d4,k⟩:=zE (Jr s c);rw [o] at Z X y z A;rw [p] at a0 Y y z A;rw [k] at y z A ⊢;obtain⟨c1,v,b7,b8,a3,b9,c0⟩:=Zh7 Z a0 X Y y z A;have a2:Hid (Cb s c 0):=Zh (fun i f=>by omega);clear Z a0 X Y y z A o p k;go_enter Tryz.func294,Tryz.ntmps294;go_wp2_with fail;have Q:Ext w ((w.alloc (.cells #[.int .u32 (s.1:Int),.int .u32 (s.2:Int)] 95)).alloc (.cells #[.int .u32 (c.1:Int),.int .u32 (c.2:Int)] 95)):=((Q0.refl _ w).alloc _).alloc _;have K:((w.alloc (.cells #[.int .u32 (s.1:Int),.int .u32 (s.2:Int)] 95)).alloc (.cells #[.int .u32 (c.1:Int),.int .u32 (c.2:Int)] 95)).heap[w.heap.size]?=some (.cells #[.int .u32 (s.1:Int),.int .u32 (s.2:Int)] 95 (0,0)):=Q8 (Q3 rfl);have N:((w.alloc (.cells #[.int .u32 (s.1:Int),.int .u32 (s.2:Int)] 95)).alloc (.cells #[.int .u32 (c.1:Int),.int .u32 (c.2:Int)] 95)).heap[w.heap.size+1]?=some (.cells #[.int .u32 (c.1:Int),.int .u32 (c.2:Int)] 95 (0,0)):=Q3 zy;refine(c1.out _).mono ?_;generalize ((w.alloc (.cells #[.int .u32 (s.1:Int),.int .u32 (s.2:Int)] 95)).alloc (.cells #[.int .u32 (c.1:Int),.int .u32 (c.2:Int)] 95))=d2 at Q K N ⊢;generalize w.heap.size=a1 at K N ⊢;rintro e d3 ⟨rfl,d⟩;have R:=Q.trans d;have L:=d.keep K;have O:=d.keep N;have m:=zR L;have n:=zR O;clear d K N Q;cases q
 ·have k:=a3.out (.inl rfl);subst k;clear L O;go_wp2;go_ret;exact⟨rfl,R⟩
 go_wp2_with fail;refine(v.out _).mono ?_;rintro e c5 ⟨rfl,d⟩;have S:=R.trans d;have M:=d.keep L;have P:=d.keep O;clear m n;have m:=zR M;have n:=zR P;clear d L O R;cases c6
 ·have k:=a3.out (.inr rfl);subst k;clear M P;go_wp2;go_ret;exact⟨rfl,S⟩
 have c2:=Zh M;have c3:=Zh P;clear M P;go_wp2;clear m n
 refine wp_loop (fun a a6=>∃(b:Nat),b<=24/\a.defers=[]/\gS a [2,3,5]=(31,[.pointer (some ⟨a1,0,none⟩),.pointer (some ⟨a1+1,0,none⟩),.int .i64 b])/\Hid (Cb s c b)/\Ext c5 a6)
  (fun a _=>24 - (intOf (a.tmps.getD 5 undef)).toNat) ?_ ?_
 ·exact⟨0,by omega,rfl,rfl,a2,Q0.refl _ _⟩
 clear a2;rintro⟨d0,_⟩ a6 ⟨b,r,c4,b2,a4,D⟩;subst c4;obtain⟨d1,rfl⟩:=Qj b2;clear b2;have o:=D.keep c2.out;have p:=D.keep c3.out;have m:=zR o;have n:=zR p;have a5:=Zh D;clear D;by_cases W:b<24
 ·have x:(b:Int)<24:=by omega
  obtain⟨C,b0⟩:=zE (X4 c b);obtain⟨a7,b1⟩:=zE (X4 s b);have U:=b7.out tz b W;have V:=b8.out tz b W;have H:=c0.out tz tz b W;have J:=Q7e a4.out;rw [b1] at U H J;rw [b0] at V H J;obtain⟨b5,b6,B,u⟩:=Zh4 U V H J;clear U V H J b0 b1;go_wp2_with fail;refine(b6.out _).mono ?_;rintro e l ⟨rfl,d⟩;have a8:=a5.out.trans d;have b3:=d.keep o;have b4:=d.keep p;clear m n o p d;have m:=zR b3;have n:=zR b4;clear b3 b4;have T:=Zh a8;clear a8;by_cases F:C=0
  ·subst F;have t:=Zh (u.out (fun f=>absurd rfl f));clear B u;go_wp2;first | exact⟨⟨b+1,by omega,tz,rfl,t,T.out⟩,nz⟩ | exact⟨⟨b+1,by omega,by simp,t,T.out⟩,nz⟩
  ·have c8:(C != 0)=true:=by rw [bne_iff_ne];exact F
   go_wp2_with fail;refine(b5.out _).mono ?_;rintro e c7 ⟨rfl,d⟩;have a9:=T.out.trans d;have v:=Zh a9;clear m n d a9;by_cases G:a7=C
   ·subst G;have t:=Zh (u.out (fun _=>rfl));clear B u;go_wp2;first | exact⟨⟨b+1,by omega,tz,rfl,t,v.out⟩,nz⟩ | exact⟨⟨b+1,by omega,by simp,t,v.out⟩,nz⟩
   ·have k:=B.out F G;subst k;have c9:(a7 != C)=true:=by rw [bne_iff_ne];exact G
    clear B u F G;go_wp2;go_ret;exact⟨rfl,S.trans v.out⟩
 ·obtain rfl:b=24:=by omega
  have k:=b9.out tz tz a4.out;subst k;clear o p m n;go_wp2;go_ret;exact⟨rfl,S.trans a5.out⟩
theorem Es{s f:Nat × Nat}{m:Nat}(c6:Z1 s)(c4:Z1 f)(j3:m<4294967296)(w:World) :
  Calls Tryz.prog 298 #[sV s,sV f,.int .u32 (m:Int)] w fun e w'=>e=.returned (.tuple #[sV (Jz s f m).1,.int .i64 (Jz s f m).2])/\Ext w w':=by
 have e2:=fun(V:World)=>Hy c6 V;have e3:=fun(V:World)=>Hy c4 V;have I:=fun(h:okS f=true) (c:Nat) (c5:c<24) (V:World)=>Nn c4 h c5 V;have g5:=fun(c:Nat) (c5:c<24) (v:Int) (V:World)=>Q4f (L9 (s:=s) (f:=f) (m % 2 ^ c) c6 c4) c5 v V;have e1:=fun(h:okS f=true) (c:Nat)=>Q44 (s:=s) m c c6 c4 h;have c1:Xw s f (m % 2 ^ 0)=s:=by rw [Nat.pow_zero,Nat.mod_one];exact Q2p f c6
 have g0:m<16777216->m % 2 ^ 24=m:=Qb8;have f8:=fun(c:Nat)=>Rr m c j3;obtain⟨X,A⟩:=zE (okS s);obtain⟨g8,z⟩:=zE (okS f);rw [A] at e2;rw [z] at e3 I e1;have y:Hid (Jz s f m=if X=false\/g8=false then((0,0),14) else if 16777215<m then((0,0),2) else(Xw s f m,0)):=Zh (by unfold Jz;rw [A,z]);obtain⟨t,W,a9⟩:∃ t W,Jz s f m=(t,W):=⟨_,_,rfl⟩;rw [a9] at y ⊢;obtain⟨i4,i5,f5,i1,f6,f2,f4,g9⟩:=Zh8 e2 e3 I g5 e1 c1 g0 f8;clear e2 e3 I g5 e1 c1 g0 f8 A z a9;go_enter Tryz.func298,Tryz.ntmps298;go_wp2_with fail;obtain⟨d,R⟩:=zE w.heap.size;have e5:(((w.alloc (.cells #[.int .u32 (s.1:Int),.int .u32 (s.2:Int)] 95)).alloc (.cells #[.int .u32 (f.1:Int),.int .u32 (f.2:Int)] 95)).alloc (.cells #[.int .u32 0,.int .u32 0] 95)).heap[d]?=some (.cells #[.int .u32 (s.1:Int),.int .u32 (s.2:Int)] 95 (0,0)):=by subst R;exact Q8 (Q8 (Q3 rfl))
 have e7:(((w.alloc (.cells #[.int .u32 (s.1:Int),.int .u32 (s.2:Int)] 95)).alloc (.cells #[.int .u32 (f.1:Int),.int .u32 (f.2:Int)] 95)).alloc (.cells #[.int .u32 0,.int .u32 0] 95)).heap[d+1]?=some (.cells #[.int .u32 (f.1:Int),.int .u32 (f.2:Int)] 95 (0,0)):=by subst R;exact Q8 (Q3 zy)
 have e9:(((w.alloc (.cells #[.int .u32 (s.1:Int),.int .u32 (s.2:Int)] 95)).alloc (.cells #[.int .u32 (f.1:Int),.int .u32 (f.2:Int)] 95)).alloc (.cells #[.int .u32 0,.int .u32 0] 95)).heap[d+2]?=some (.cells #[.int .u32 0,.int .u32 0] 95 (0,0)):=by subst R;exact Q3 zy
 have d2:Ext w (((w.alloc (.cells #[.int .u32 (s.1:Int),.int .u32 (s.2:Int)] 95)).alloc (.cells #[.int .u32 (f.1:Int),.int .u32 (f.2:Int)] 95)).alloc (.cells #[.int .u32 0,.int .u32 0] 95)):=(((Q0.refl _ w).alloc _).alloc _).alloc _;refine(i4.out _).mono ?_;generalize (((w.alloc (.cells #[.int .u32 (s.1:Int),.int .u32 (s.2:Int)] 95)).alloc (.cells #[.int .u32 (f.1:Int),.int .u32 (f.2:Int)] 95)).alloc (.cells #[.int .u32 0,.int .u32 0] 95))=j8 at e5 e7 e9 d2 ⊢;rw [R];have N:=Zh R;clear R;rintro e j4 ⟨rfl,i⟩;have d3:=d2.trans i;have c9:=i.keep e5;have d0:=i.keep e7;have d1:=i.keep e9;have d8:=zR c9;have d9:=zR d0;have d5:=Zh d1;clear i e5 e7 e9 d2;cases X
 ·have L:t=(0,0)/\W=14:=by have:=y.out;rw [if_pos (.inl rfl)] at this;exact⟨congrArg Prod.fst this,congrArg Prod.snd this⟩
  obtain⟨rfl,rfl⟩:=L;clear y c9 d0 d1
  go_wp2_with (refine wpList_store_row rfl 95 (.tmp 6) (.tmp 18) rfl (d+2) #[.int .u32 0,.int .u32 0] rfl rfl _ _ d5.out kz rfl kz ?_)
  have q:=Q0.setRow j4 (d+2) #[.int .u32 0,.int .u32 0];refine bodyPost_ret (Zm (p:=6) (u:=7) rfl rfl (setRow_heap _ _ _ _ _ _ d5.out) kz) rfl ?_;exact⟨rfl,d3.after q (fun b Q e=>by have:=N.out;omega)⟩
 go_wp2_with fail;refine(i5.out _).mono ?_;rintro e x ⟨rfl,i⟩;have b7:=d3.trans i;have b2:=i.keep c9;have b4:=i.keep d0;have Y:=i.keep d1;clear d8 d9;have d8:=zR b2;have d9:=zR b4;have a5:=Zh Y;clear i c9 d0 d1 d3;cases g8
 ·have L:t=(0,0)/\W=14:=by have:=y.out;rw [if_pos (.inr rfl)] at this;exact⟨congrArg Prod.fst this,congrArg Prod.snd this⟩
  obtain⟨rfl,rfl⟩:=L;clear y b2 b4 Y
  go_wp2_with (refine wpList_store_row rfl 95 (.tmp 6) (.tmp 18) rfl (d+2) #[.int .u32 0,.int .u32 0] rfl rfl _ _ a5.out kz rfl kz ?_)
  have q:=Q0.setRow x (d+2) #[.int .u32 0,.int .u32 0];refine bodyPost_ret (Zm (p:=6) (u:=7) rfl rfl (setRow_heap _ _ _ _ _ _ a5.out) kz) rfl ?_;exact⟨rfl,b7.after q (fun b Q e=>by have:=N.out;omega)⟩
 by_cases g3:16777215<m
 ·have i8:(16777215:Int)<(m:Int):=by omega
  have L:t=(0,0)/\W=2:=by have:=y.out;rw [if_neg zd,if_pos g3] at this;exact⟨congrArg Prod.fst this,congrArg Prod.snd this⟩
  obtain⟨rfl,rfl⟩:=L;clear y b2 b4 Y
  go_wp2_with (refine wpList_store_row rfl 95 (.tmp 6) (.tmp 21) rfl (d+2) #[.int .u32 0,.int .u32 0] rfl rfl _ _ a5.out kz rfl kz ?_)
  have q:=Q0.setRow x (d+2) #[.int .u32 0,.int .u32 0];refine bodyPost_ret (Zm (p:=6) (u:=7) rfl rfl (setRow_heap _ _ _ _ _ _ a5.out) kz) rfl ?_;exact⟨rfl,b7.after q (fun b Q e=>by have:=N.out;omega)⟩
 have i8:¬ (16777215:Int)<(m:Int):=by omega
 have L:t=Xw s f m/\W=0:=by have:=y.out;rw [if_neg zd,if_neg g3] at this;exact⟨congrArg Prod.fst this,congrArg Prod.snd this⟩
 obtain⟨e0,rfl⟩:=L;rw [<-f4.out oz] at e0;have i2:=Zh e0;clear y e0 f4;go_wp2;have a7:Ext x (x.alloc (.cells #[.int .u32 (s.1:Int),.int .u32 (s.2:Int)] 95)):=(Q0.refl _ x).alloc _;have c8:(x.alloc (.cells #[.int .u32 (s.1:Int),.int .u32 (s.2:Int)] 95)).heap[x.heap.size]?=some (.cells #[.int .u32 (s.1:Int),.int .u32 (s.2:Int)] 95 (0,0)):=Q3 rfl;have j1:d+2<x.heap.size:=(Array.getElem?_eq_some_iff.1 Y).1;have e6:=a7.keep b2;have e8:=a7.keep b4;have f0:=a7.keep Y;have d4:Ext w _:=b7.trans a7;clear d8 d9 b2 b4 Y b7 a7 d5 a5;generalize (x.alloc (.cells #[.int .u32 (s.1:Int),.int .u32 (s.2:Int)] 95))=j9 at c8 e6 e8 f0 d4 ⊢;generalize x.heap.size=r at c8 j1 ⊢;have i0:=Zh (f5.out tz);have i3:=Zh (f6.out tz);clear f5 f6
 refine wp_loop (fun a l=>∃(c:Nat) (F:Nat × Nat),c<=24/\a.defers=[]/\gS a [2,3,4,6,8,9]=(39,[.int .u32 (m:Int),.pointer (some ⟨d,0,none⟩),.pointer (some ⟨d+1,0,none⟩),.pointer (some ⟨d+2,0,none⟩),.pointer (some ⟨r,0,none⟩),.int .i64 c])/\Hid (F=Xw s f (m % 2 ^ c)) /\
   l.heap[d]?=some (.cells #[.int .u32 (s.1:Int),.int .u32 (s.2:Int)] 95 (0,0))/\l.heap[d+1]?=some (.cells #[.int .u32 (f.1:Int),.int .u32 (f.2:Int)] 95 (0,0))/\l.heap[d+2]?=some (.cells #[.int .u32 0,.int .u32 0] 95 (0,0))/\l.heap[r]?=some (.cells #[.int .u32 (F.1:Int),.int .u32 (F.2:Int)] 95 (0,0))/\Ext w l)
  (fun a _=>24 - (intOf (a.tmps.getD 9 undef)).toNat) ?_ ?_
 ·exact⟨0,s,by omega,rfl,rfl,Zh f2.out.symm,e6,e8,f0,c8,d4⟩
 clear e6 e8 f0 c8 d4 f2;rintro⟨j7,_⟩ l ⟨c,F,c5,j2,g7,f3,A,z,c7,T,c2⟩;subst j2;obtain⟨u,rfl⟩:=Qj g7;clear g7;obtain⟨b8,b9,P,O,a0⟩:=Zh5 A z c7 T c2;by_cases g2:c<24
 ·have Q:(c:Int)<24:=by omega
  have j5:(c:Int)<32:=by omega
  have j6:(0:Int)<=(c:Int):=by omega
  have i6:=g9.out c;have a8:=i1.out c g2 (X4 f c);have I:=i0.out c g2;have U:=i3.out c;rw [<-f3.out] at a8 U;obtain⟨i9,g1⟩:=zE (X4 f c);obtain⟨k,g4⟩:=zE (Wt F c i9);obtain⟨e4,g6⟩:=zE (m.testBit c);rw [g1] at a8 I U;rw [g4] at a8 U;rw [g6] at i6 U;obtain⟨f1,f7,c0⟩:=Zh3 I a8 U;clear a8 I U g1 g4 g6;cases e4
  ·have J:=c0.out;rw [if_neg zd] at J;have C:=Zh J.symm;clear J c0 A z c7 T c2;go_wp2;first | exact⟨⟨c+1,F,by omega,tz,rfl,C,b8.out,b9.out,P.out,O.out,a0.out⟩,nz⟩ | exact⟨⟨c+1,F,by omega,by simp,C,b8.out,b9.out,P.out,O.out,a0.out⟩,nz⟩
  ·have J:=c0.out;rw [if_pos rfl] at J;have C:=Zh J.symm;have f9:∀(B:World),Q0 (·=r) l B->B.cell? ⟨d+1,0,none⟩=some (.int .u32 (f.1:Int))/\B.cell? ⟨d+1,1,none⟩=some (.int .u32 (f.2:Int)):=by
    intro B j0;have c1:=j0.heap z oz;simp [World.cell?,c1]
   have D:=Zh f9;have i7:=zR T;clear J c0 A z c7 T c2 f9;go_wp2;refine wp_region_held_drew (S:=fun B=>B.cell? ⟨d+1,0,none⟩=some (.int .u32 (f.1:Int))/\B.cell? ⟨d+1,1,none⟩=some (.int .u32 (f.2:Int))) kz (D.out _ (Q0.drew (Q0.refl _ l))) ?_;intro c3;refine tH 1 33 c3 ?_;refine tH 2 34 c3 ?_;refine tH 3 35 c3 ?_;refine rH [0,4] ?_;refine AllReadyH.cons rfl (fun K hK=>?_) (AllReadyH.cons rfl (fun K hK=>?_) (AllReadyH.nil))
   ·refine iw rfl ?_;go_simp;refine hK.out _ _ (c3) (fun _=>?_);clear hK K;try simp only [Act.put,pq]
    refine rH [4] ?_;refine AllReadyH.cons rfl (fun K hK=>?_) (AllReadyH.nil);refine iw rfl ?_;go_simp;refine(f1.out _).mono ?_;rintro e d6 ⟨rfl,i⟩;have G:Ext l d6:=Q0.trans (Q0.drew (Q0.refl _ l)) i;have b0:=G.keep O.out;have d7:=zR b0;refine hK.out _ _ (D.out _ (Ext.of G)) (fun hS1=>?_);clear hK K i;try simp only [Act.put,pq]
    clear d7;refine rH [5] ?_;refine AllReadyH.cons rfl (fun K hK=>?_) (AllReadyH.nil);refine iw rfl ?_;go_simp;refine(f7.out _).mono ?_;rintro e E ⟨rfl,i⟩;have H:Ext l E:=G.trans i;have M:=H.keep O.out;refine hK.out _ _ (D.out _ (Ext.of H)) (fun hS2=>?_);clear hK K i b0;try simp only [Act.put,pq]
    refine rH [6] ?_;refine AllReadyH.cons rfl (fun K hK=>?_) (AllReadyH.nil);refine iw rfl ?_;refine wp_store_row 95 (.tmp 8) (.tmp 37) rfl r #[.int .u32 (k.1:Int),.int .u32 (k.2:Int)] rfl rfl _ _ M kz rfl kz ?_;have q:=Q0.setRow E r #[.int .u32 (k.1:Int),.int .u32 (k.2:Int)];have b1:(E.setRow r #[.int .u32 (k.1:Int),.int .u32 (k.2:Int)]).heap[r]?=some (.cells #[.int .u32 (k.1:Int),.int .u32 (k.2:Int)] 95 (0,0)):=setRow_heap _ _ _ _ _ _ M;have o:=(Ext.of H).trans q;have b3:=o.heap b8.out oz;have b5:=o.heap b9.out oz;have b6:=o.heap P.out oz;have Z:Ext w _:=a0.out.after o (fun b Q e=>by have:=N.out;omega);obtain⟨a3,a4,a6,a2,a1⟩:=Zh5 b3 b5 b6 b1 Z;refine hK.out _ _ (D.out _ o) (fun hS3=>?_);clear hK K M b3 b5 b6 b1 Z o q hS1 hS2 hS3;change wpAnyH _ _ _ _ _ _ _ (Act.put _ none _) _;simp only [Act.put];refine wpAnyH_done kz ?_ _;go_wp2;first | exact⟨⟨c+1,k,by omega,tz,rfl,C,a3.out,a4.out,a6.out,a2.out,a1.out⟩,nz⟩ | exact⟨⟨c+1,k,by omega,by simp,C,a3.out,a4.out,a6.out,a2.out,a1.out⟩,nz⟩
   ·refine iw rfl ?_;go_simp;refine(f1.out _).mono ?_;rintro e d6 ⟨rfl,i⟩;have G:Ext l d6:=Q0.trans (Q0.drew (Q0.refl _ l)) i;have b0:=G.keep O.out;have d7:=zR b0;refine hK.out _ _ (D.out _ (Ext.of G)) (fun hS1=>?_);clear hK K i;try simp only [Act.put,pq]
    refine rH [0] ?_;refine AllReadyH.cons rfl (fun K hK=>?_) (AllReadyH.nil);refine iw rfl ?_;go_simp;refine hK.out _ _ (hS1) (fun _=>?_);clear hK K;try simp only [Act.put,pq]
    clear d7;refine rH [5] ?_;refine AllReadyH.cons rfl (fun K hK=>?_) (AllReadyH.nil);refine iw rfl ?_;go_simp;refine(f7.out _).mono ?_;rintro e E ⟨rfl,i⟩;have H:Ext l E:=G.trans i;have M:=H.keep O.out;refine hK.out _ _ (D.out _ (Ext.of H)) (fun hS2=>?_);clear hK K i b0;try simp only [Act.put,pq]
    refine rH [6] ?_;refine AllReadyH.cons rfl (fun K hK=>?_) (AllReadyH.nil);refine iw rfl ?_;refine wp_store_row 95 (.tmp 8) (.tmp 37) rfl r #[.int .u32 (k.1:Int),.int .u32 (k.2:Int)] rfl rfl _ _ M kz rfl kz ?_;have q:=Q0.setRow E r #[.int .u32 (k.1:Int),.int .u32 (k.2:Int)];have b1:(E.setRow r #[.int .u32 (k.1:Int),.int .u32 (k.2:Int)]).heap[r]?=some (.cells #[.int .u32 (k.1:Int),.int .u32 (k.2:Int)] 95 (0,0)):=setRow_heap _ _ _ _ _ _ M;have o:=(Ext.of H).trans q;have b3:=o.heap b8.out oz;have b5:=o.heap b9.out oz;have b6:=o.heap P.out oz;have Z:Ext w _:=a0.out.after o (fun b Q e=>by have:=N.out;omega);obtain⟨a3,a4,a6,a2,a1⟩:=Zh5 b3 b5 b6 b1 Z;refine hK.out _ _ (D.out _ o) (fun hS3=>?_);clear hK K M b3 b5 b6 b1 Z o q hS1 hS2 hS3;change wpAnyH _ _ _ _ _ _ _ (Act.put _ none _) _;simp only [Act.put];refine wpAnyH_done kz ?_ _;go_wp2;first | exact⟨⟨c+1,k,by omega,tz,rfl,C,a3.out,a4.out,a6.out,a2.out,a1.out⟩,nz⟩ | exact⟨⟨c+1,k,by omega,by simp,C,a3.out,a4.out,a6.out,a2.out,a1.out⟩,nz⟩
 ·obtain rfl:c=24:=by omega
  have a9:=i2.out;rw [<-f3.out] at a9;subst a9;have i7:=zR T;clear A z c7 T c2
  go_wp2_with (refine wpList_store_row rfl 95 (.tmp 6) (.tmp 38) rfl (d+2) #[.int .u32 (t.1:Int),.int .u32 (t.2:Int)] rfl rfl _ _ P.out kz rfl kz ?_)
  have q:=Q0.setRow l (d+2) #[.int .u32 (t.1:Int),.int .u32 (t.2:Int)];refine bodyPost_ret (Zm (p:=6) (u:=7) rfl rfl (setRow_heap _ _ _ _ _ _ P.out) kz) rfl ?_;exact⟨rfl,a0.out.after q (fun b Q e=>by have:=N.out;omega)⟩
theorem Qfz{f:Nat × Nat}(_hf:Z1 f)(h:okS f=true):f.1 ||| f.2<2 ^ 24:=by
 unfold okS Z8 at h;rw [Bool.and_eq_true,beq_iff_eq,beq_iff_eq] at h;have:f.1 ||| f.2<16777216:=by omega
 simpa using this
theorem Qd6{s f:Nat × Nat}(m k:Nat)(e:Z1 s)(c:Z1 f)(d:okS f=true)(_h:m &&& (f.1 ||| f.2)=0) :
  Xw s f ((m ||| (f.1 ||| f.2)) % 2 ^ (k+1))=if m.testBit k=true\/X4 f k≠0 then Wt (Xw s f ((m ||| (f.1 ||| f.2)) % 2 ^ k)) k (X4 f k) else Xw s f ((m ||| (f.1 ||| f.2)) % 2 ^ k):=by
 rw [Q44 _ _ e c d];have b:(m ||| (f.1 ||| f.2)).testBit k=true↔m.testBit k=true\/X4 f k≠0:=by
  rw [Nat.testBit_or,Nat.testBit_or,Bool.or_eq_true,Bool.or_eq_true];unfold X4;cases f.1.testBit k <;> cases f.2.testBit k <;> simp
 by_cases a:(m ||| (f.1 ||| f.2)).testBit k=true
 ·rw [if_pos a,if_pos (b.1 a)]
 ·rw [if_neg a,if_neg fun h=>a (b.2 h)]
theorem Sm{s f:Nat × Nat}{m:Nat}(d8:Z1 s)(M:Z1 f)(j5:m<4294967296)(w:World) :
  Calls Tryz.prog 297 #[sV s,.int .u32 (m:Int),sV f] w fun e w'=>e=.returned (.tuple #[sV (X5 s m f).1,.int .i64 (X5 s m f).2])/\Ext w w':=by
 have g0:=fun(V:World)=>Hy d8 V;have g1:=fun(V:World)=>Hy M V;have a6:=fun(I:okS f=true) (c:Nat) (b4:c<24) (V:World)=>Nn M I b4 V;have j2:f.1 ||| f.2<4294967296:=Nat.or_lt_two_pow (n:=32) M.1 M.2;have k0:=u32_and_nat m (f.1 ||| f.2) j5 j2;have l8:=u32_or_nat f.1 f.2 M.1 M.2;have j7:=fun(c:Nat) (b4:c<24) (v:Int) (V:World)=>Q4f (L9 (s:=s) (f:=f) ((m ||| (f.1 ||| f.2)) % 2 ^ c) d8 M) b4 v V;have f9:=fun(I:okS f=true) (c:Nat)=>Qd6 (s:=s) m c d8 M I;have d2:Xw s f ((m ||| (f.1 ||| f.2)) % 2 ^ 0)=s:=by rw [Nat.pow_zero,Nat.mod_one];exact Q2p f d8
 have f6:okS f=true->m<16777216->(m ||| (f.1 ||| f.2)) % 2 ^ 24=(m ||| (f.1 ||| f.2)):=fun J i6=>Qb8 (Nat.or_lt_two_pow (n:=24) i6 (Qfz M J));have i8:=fun(c:Nat)=>Rr m c j5;obtain⟨Z,X⟩:=zE (okS s);obtain⟨k1,O⟩:=zE (okS f);rw [X] at g0;rw [O] at g1 a6 f9 f6;have x:Hid (X5 s m f=if Z=false\/k1=false then((0,0),14) else if 16777215<m\/m &&& (f.1 ||| f.2)≠0 then((0,0),2) else(Xw s f (m ||| (f.1 ||| f.2)),0)):=Zh (by unfold X5;rw [X,O]);obtain⟨F,a8,c3⟩:∃ F a8,X5 s m f=(F,a8):=⟨_,_,rfl⟩;rw [c3] at x ⊢;obtain⟨k8,k9,i0,i2,d0,e7,e8,k2⟩:=Zh8 g0 g1 a6 j7 f9 d2 f6 i8
 have j1:m &&& (f.1 ||| f.2)=0->∀ c,m.testBit c=true->X4 f c=0:=fun I c b4=>by
  have:=congrArg (fun Z=>Z.testBit c) I;simp only [Nat.testBit_and,b4,Bool.true_and,Nat.testBit_or,Nat.zero_testBit,Bool.or_eq_false_iff] at this;unfold X4;rw [this.1,this.2];rfl
 have e9:=Zh j1;clear j1;obtain⟨d1,i7⟩:=zE (m ||| (f.1 ||| f.2));obtain⟨I,j3⟩:=zE (f.1 ||| f.2);obtain⟨Y,c2⟩:=zE (m &&& (f.1 ||| f.2));rw [c2] at x k0 d0 e9;rw [i7] at x i2 d0 e7 e8;rw [j3] at k0 l8;clear g0 g1 a6 j7 f9 d2 f6 i8 X O c3 i7 j3 c2 j2;go_enter Tryz.func297,Tryz.ntmps297;go_wp2_with fail;obtain⟨k,b2⟩:=zE w.heap.size;have g3:(((w.alloc (.cells #[.int .u32 (s.1:Int),.int .u32 (s.2:Int)] 95)).alloc (.cells #[.int .u32 (f.1:Int),.int .u32 (f.2:Int)] 95)).alloc (.cells #[.int .u32 0,.int .u32 0] 95)).heap[k]?=some (.cells #[.int .u32 (s.1:Int),.int .u32 (s.2:Int)] 95 (0,0)):=by subst b2;exact Q8 (Q8 (Q3 rfl))
 have g5:(((w.alloc (.cells #[.int .u32 (s.1:Int),.int .u32 (s.2:Int)] 95)).alloc (.cells #[.int .u32 (f.1:Int),.int .u32 (f.2:Int)] 95)).alloc (.cells #[.int .u32 0,.int .u32 0] 95)).heap[k+1]?=some (.cells #[.int .u32 (f.1:Int),.int .u32 (f.2:Int)] 95 (0,0)):=by subst b2;exact Q8 (Q3 zy)
 have g7:(((w.alloc (.cells #[.int .u32 (s.1:Int),.int .u32 (s.2:Int)] 95)).alloc (.cells #[.int .u32 (f.1:Int),.int .u32 (f.2:Int)] 95)).alloc (.cells #[.int .u32 0,.int .u32 0] 95)).heap[k+2]?=some (.cells #[.int .u32 0,.int .u32 0] 95 (0,0)):=by subst b2;exact Q3 zy
 have e4:Ext w (((w.alloc (.cells #[.int .u32 (s.1:Int),.int .u32 (s.2:Int)] 95)).alloc (.cells #[.int .u32 (f.1:Int),.int .u32 (f.2:Int)] 95)).alloc (.cells #[.int .u32 0,.int .u32 0] 95)):=(((Q0.refl _ w).alloc _).alloc _).alloc _;refine(k8.out _).mono ?_;generalize (((w.alloc (.cells #[.int .u32 (s.1:Int),.int .u32 (s.2:Int)] 95)).alloc (.cells #[.int .u32 (f.1:Int),.int .u32 (f.2:Int)] 95)).alloc (.cells #[.int .u32 0,.int .u32 0] 95))=m6 at g3 g5 g7 e4 ⊢;rw [b2];have P:=Zh b2;clear b2;rintro e l9 ⟨rfl,i⟩;have e5:=e4.trans i;have e1:=i.keep g3;have e2:=i.keep g5;have e3:=i.keep g7;have f5:=zR e1;have a3:=zR e2;have f0:=Zh e3;clear i g3 g5 g7 e4;cases Z
 ·have N:F=(0,0)/\a8=14:=by have:=x.out;rw [if_pos (.inl rfl)] at this;exact⟨congrArg Prod.fst this,congrArg Prod.snd this⟩
  obtain⟨rfl,rfl⟩:=N;clear x e1 e2 e3
  go_wp2_with (refine wpList_store_row rfl 95 (.tmp 6) (.tmp 18) rfl (k+2) #[.int .u32 0,.int .u32 0] rfl rfl _ _ f0.out kz rfl kz ?_)
  have r:=Q0.setRow l9 (k+2) #[.int .u32 0,.int .u32 0];refine bodyPost_ret (Zm (p:=6) (u:=7) rfl rfl (setRow_heap _ _ _ _ _ _ f0.out) kz) rfl ?_;exact⟨rfl,e5.after r (fun b J e=>by have:=P.out;omega)⟩
 go_wp2_with fail;refine(k9.out _).mono ?_;rintro e G ⟨rfl,i⟩;have b9:=e5.trans i;have b7:=i.keep e1;have b8:=i.keep e2;have a9:=i.keep e3;clear f5 a3;have f5:=zR b7;have a3:=zR b8;have a2:=Zh a9;clear i e1 e2 e3 e5;cases k1
 ·have N:F=(0,0)/\a8=14:=by have:=x.out;rw [if_pos (.inr rfl)] at this;exact⟨congrArg Prod.fst this,congrArg Prod.snd this⟩
  obtain⟨rfl,rfl⟩:=N;clear x b7 b8 a9
  go_wp2_with (refine wpList_store_row rfl 95 (.tmp 6) (.tmp 18) rfl (k+2) #[.int .u32 0,.int .u32 0] rfl rfl _ _ a2.out kz rfl kz ?_)
  have r:=Q0.setRow G (k+2) #[.int .u32 0,.int .u32 0];refine bodyPost_ret (Zm (p:=6) (u:=7) rfl rfl (setRow_heap _ _ _ _ _ _ a2.out) kz) rfl ?_;exact⟨rfl,b9.after r (fun b J e=>by have:=P.out;omega)⟩
 by_cases l7:16777215<m
 ·have l3:(16777215:Int)<(m:Int):=by omega
  have N:F=(0,0)/\a8=2:=by have:=x.out;rw [if_neg zd,if_pos (.inl l7)] at this;exact⟨congrArg Prod.fst this,congrArg Prod.snd this⟩
  obtain⟨rfl,rfl⟩:=N;clear x b7 b8 a9
  go_wp2_with (refine wpList_store_row rfl 95 (.tmp 6) (.tmp 31) rfl (k+2) #[.int .u32 0,.int .u32 0] rfl rfl _ _ a2.out kz rfl kz ?_)
  have r:=Q0.setRow G (k+2) #[.int .u32 0,.int .u32 0];refine bodyPost_ret (Zm (p:=6) (u:=7) rfl rfl (setRow_heap _ _ _ _ _ _ a2.out) kz) rfl ?_;exact⟨rfl,b9.after r (fun b J e=>by have:=P.out;omega)⟩
 have l3:¬ (16777215:Int)<(m:Int):=by omega
 by_cases j8:Y=0;case neg=>
  have m2:((Y:Int) != 0)=true:=by rw [bne_iff_ne];omega
  have N:F=(0,0)/\a8=2:=by have:=x.out;rw [if_neg zd,if_pos (.inr j8)] at this;exact⟨congrArg Prod.fst this,congrArg Prod.snd this⟩
  obtain⟨rfl,rfl⟩:=N;clear x b7 b8 a9
  go_wp2_with (refine wpList_store_row rfl 95 (.tmp 6) (.tmp 31) rfl (k+2) #[.int .u32 0,.int .u32 0] rfl rfl _ _ a2.out kz rfl kz ?_)
  have r:=Q0.setRow G (k+2) #[.int .u32 0,.int .u32 0];refine bodyPost_ret (Zm (p:=6) (u:=7) rfl rfl (setRow_heap _ _ _ _ _ _ a2.out) kz) rfl ?_;exact⟨rfl,b9.after r (fun b J e=>by have:=P.out;omega)⟩
 subst j8;have N:F=Xw s f d1/\a8=0:=by have:=x.out;rw [if_neg zd,if_neg oz] at this;exact⟨congrArg Prod.fst this,congrArg Prod.snd this⟩
 obtain⟨f8,rfl⟩:=N;rw [<-e8.out tz oz] at f8;have k6:=Zh f8;clear x f8 e8;go_wp2;have c1:Ext G (G.alloc (.cells #[.int .u32 (s.1:Int),.int .u32 (s.2:Int)] 95)):=(Q0.refl _ G).alloc _;have e0:(G.alloc (.cells #[.int .u32 (s.1:Int),.int .u32 (s.2:Int)] 95)).heap[G.heap.size]?=some (.cells #[.int .u32 (s.1:Int),.int .u32 (s.2:Int)] 95 (0,0)):=Q3 rfl;have l5:k+2<G.heap.size:=(Array.getElem?_eq_some_iff.1 a9).1;have g4:=c1.keep b7;have g6:=c1.keep b8;have g8:=c1.keep a9;have e6:Ext w _:=b9.trans c1;clear f5 a3 b7 b8 a9 b9 c1 f0 a2;generalize (G.alloc (.cells #[.int .u32 (s.1:Int),.int .u32 (s.2:Int)] 95))=m7 at e0 g4 g6 g8 e6 ⊢;generalize G.heap.size=o at e0 l5 ⊢;obtain⟨k3,k7,k4⟩:=Zh3 (i0.out tz) (fun c=>d0.out tz c tz) (e9.out tz);clear i0 d0 e9
 refine wp_loop (fun a q=>∃(c:Nat) (W:Nat × Nat),c<=24/\a.defers=[]/\gS a [1,3,5,6,8,9]=(56,[.int .u32 (m:Int),.pointer (some ⟨k,0,none⟩),.pointer (some ⟨k+1,0,none⟩),.pointer (some ⟨k+2,0,none⟩),.pointer (some ⟨o,0,none⟩),.int .i64 c])/\Hid (W=Xw s f (d1 % 2 ^ c)) /\
   q.heap[k]?=some (.cells #[.int .u32 (s.1:Int),.int .u32 (s.2:Int)] 95 (0,0))/\q.heap[k+1]?=some (.cells #[.int .u32 (f.1:Int),.int .u32 (f.2:Int)] 95 (0,0))/\q.heap[k+2]?=some (.cells #[.int .u32 0,.int .u32 0] 95 (0,0))/\q.heap[o]?=some (.cells #[.int .u32 (W.1:Int),.int .u32 (W.2:Int)] 95 (0,0))/\Ext w q)
  (fun a _=>24 - (intOf (a.tmps.getD 9 undef)).toNat) ?_ ?_
 ·exact⟨0,s,by omega,rfl,rfl,Zh e7.out.symm,g4,g6,g8,e0,e6⟩
 clear g4 g6 g8 e0 e6 e7;rintro⟨m5,_⟩ q ⟨c,W,b4,l6,j9,g9,X,O,d9,b5,d3⟩;subst l6;obtain⟨u,rfl⟩:=Qj j9;clear j9;obtain⟨C,A,y,t,z⟩:=Zh5 X O d9 b5 d3;by_cases j4:c<24
 ·have J:(c:Int)<24:=by omega
  have i6:(c:Int)<32:=by omega
  have m3:(0:Int)<=(c:Int):=by omega
  have l2:=k2.out c;have d7:=i2.out c j4;have a6:=k3.out c j4;have b6:=k7.out c;rw [<-g9.out] at d7 b6;obtain⟨b1,j0⟩:=zE (X4 f c);obtain⟨d,d6⟩:=zE (Wt W c b1);obtain⟨Y,c2⟩:=zE (m.testBit c);have a7:m.testBit c=true->X4 f c=0:=k4.out c;rw [j0] at a6 b6 a7;rw [d6] at b6;rw [c2] at l2 b6 a7;have i1:=Zh a7;clear a7;have f7:=d7 b1;rw [d6] at f7;have j6:b1=0->Wt W c 0=d:=fun I=>by rw [<-d6,I]
  obtain⟨c9,f1,i4,b0,i3⟩:=Zh5 a6 f7 (d7 0) b6 j6;clear d7 f7 a6 b6 j0 d6 c2 j6;cases Y
  ·have a3:=zR O;go_wp2_with fail;refine(c9.out _).mono ?_;rintro e l1 ⟨rfl,b3⟩;clear a3;obtain⟨C,A,y,t,z⟩:=Zh5 (b3.keep C.out) (b3.keep A.out) (b3.keep y.out) (b3.keep t.out) (z.out.trans b3);clear X O d9 b5 d3 b3;by_cases d5:b1=0
   ·have D:=b0.out;rw [if_neg (by simp [d5])] at D;have H:=Zh D.symm;subst d5;clear D b0;go_wp2;first | exact⟨⟨c+1,W,by omega,tz,rfl,H,C.out,A.out,y.out,t.out,z.out⟩,nz⟩ | exact⟨⟨c+1,W,by omega,by simp,H,C.out,A.out,y.out,t.out,z.out⟩,nz⟩
   ·have D:=b0.out;rw [if_pos (.inr d5)] at D;have H:=Zh D.symm;have m4:(b1 != 0)=true:=by rw [bne_iff_ne];exact d5
    generalize l1=q at C A y t z ⊢;have i9:∀(a0:World),Q0 (·=o) q a0->a0.cell? ⟨k+1,0,none⟩=some (.int .u32 (f.1:Int))/\a0.cell? ⟨k+1,1,none⟩=some (.int .u32 (f.2:Int)):=by
     intro a0 l4;have d2:=l4.heap A.out oz;simp [World.cell?,d2]
    have a1:=Zh i9;have f3:=zR t.out;clear D b0 i9;go_wp2;refine wp_region_held_drew (S:=fun a0=>a0.cell? ⟨k+1,0,none⟩=some (.int .u32 (f.1:Int))/\a0.cell? ⟨k+1,1,none⟩=some (.int .u32 (f.2:Int))) kz (a1.out _ (Q0.drew (Q0.refl _ q))) ?_;intro d4;refine tH 1 50 d4 ?_;refine tH 2 51 d4 ?_;refine tH 3 52 d4 ?_;refine rH [0,4] ?_;refine AllReadyH.cons rfl (fun K hK=>?_) (AllReadyH.cons rfl (fun K hK=>?_) (AllReadyH.nil))
    ·refine iw rfl ?_;go_simp;refine hK.out _ _ (d4) (fun _=>?_);clear hK K;try simp only [Act.put,pq]
     refine rH [4] ?_;refine AllReadyH.cons rfl (fun K hK=>?_) (AllReadyH.nil);refine iw rfl ?_;go_simp;refine(c9.out _).mono ?_;rintro e f2 ⟨rfl,i⟩;have a4:Ext q f2:=Q0.trans (Q0.drew (Q0.refl _ q)) i;have c4:=a4.keep t.out;have f4:=zR c4;refine hK.out _ _ (a1.out _ (Ext.of a4)) (fun hS1=>?_);clear hK K i;try simp only [Act.put,pq]
     clear f4;refine rH [5] ?_;refine AllReadyH.cons rfl (fun K hK=>?_) (AllReadyH.nil);refine iw rfl ?_;go_simp;refine(f1.out _).mono ?_;rintro e B ⟨rfl,i⟩;have a5:Ext q B:=a4.trans i;have E:=a5.keep t.out;refine hK.out _ _ (a1.out _ (Ext.of a5)) (fun hS2=>?_);clear hK K i c4;try simp only [Act.put,pq]
     refine rH [6] ?_;refine AllReadyH.cons rfl (fun K hK=>?_) (AllReadyH.nil);refine iw rfl ?_;refine wp_store_row 95 (.tmp 8) (.tmp 54) rfl o #[.int .u32 (d.1:Int),.int .u32 (d.2:Int)] rfl rfl _ _ E kz rfl kz ?_;have r:=Q0.setRow B o #[.int .u32 (d.1:Int),.int .u32 (d.2:Int)];have c5:(B.setRow o #[.int .u32 (d.1:Int),.int .u32 (d.2:Int)]).heap[o]?=some (.cells #[.int .u32 (d.1:Int),.int .u32 (d.2:Int)] 95 (0,0)):=setRow_heap _ _ _ _ _ _ E;have l:=(Ext.of a5).trans r;have c6:=l.heap C.out oz;have c7:=l.heap A.out oz;have c8:=l.heap y.out oz;have c0:Ext w _:=z.out.after l (fun b J e=>by have:=P.out;omega);obtain⟨T,L,U,R,Q⟩:=Zh5 c6 c7 c8 c5 c0;refine hK.out _ _ (a1.out _ l) (fun hS3=>?_);clear hK K E c6 c7 c8 c5 c0 l r hS1 hS2 hS3;change wpAnyH _ _ _ _ _ _ _ (Act.put _ none _) _;simp only [Act.put];refine wpAnyH_done kz ?_ _;go_wp2;first | exact⟨⟨c+1,d,by omega,tz,rfl,H,T.out,L.out,U.out,R.out,Q.out⟩,nz⟩ | exact⟨⟨c+1,d,by omega,by simp,H,T.out,L.out,U.out,R.out,Q.out⟩,nz⟩
    ·refine iw rfl ?_;go_simp;refine(c9.out _).mono ?_;rintro e f2 ⟨rfl,i⟩;have a4:Ext q f2:=Q0.trans (Q0.drew (Q0.refl _ q)) i;have c4:=a4.keep t.out;have f4:=zR c4;refine hK.out _ _ (a1.out _ (Ext.of a4)) (fun hS1=>?_);clear hK K i;try simp only [Act.put,pq]
     refine rH [0] ?_;refine AllReadyH.cons rfl (fun K hK=>?_) (AllReadyH.nil);refine iw rfl ?_;go_simp;refine hK.out _ _ (hS1) (fun _=>?_);clear hK K;try simp only [Act.put,pq]
     clear f4;refine rH [5] ?_;refine AllReadyH.cons rfl (fun K hK=>?_) (AllReadyH.nil);refine iw rfl ?_;go_simp;refine(f1.out _).mono ?_;rintro e B ⟨rfl,i⟩;have a5:Ext q B:=a4.trans i;have E:=a5.keep t.out;refine hK.out _ _ (a1.out _ (Ext.of a5)) (fun hS2=>?_);clear hK K i c4;try simp only [Act.put,pq]
     refine rH [6] ?_;refine AllReadyH.cons rfl (fun K hK=>?_) (AllReadyH.nil);refine iw rfl ?_;refine wp_store_row 95 (.tmp 8) (.tmp 54) rfl o #[.int .u32 (d.1:Int),.int .u32 (d.2:Int)] rfl rfl _ _ E kz rfl kz ?_;have r:=Q0.setRow B o #[.int .u32 (d.1:Int),.int .u32 (d.2:Int)];have c5:(B.setRow o #[.int .u32 (d.1:Int),.int .u32 (d.2:Int)]).heap[o]?=some (.cells #[.int .u32 (d.1:Int),.int .u32 (d.2:Int)] 95 (0,0)):=setRow_heap _ _ _ _ _ _ E;have l:=(Ext.of a5).trans r;have c6:=l.heap C.out oz;have c7:=l.heap A.out oz;have c8:=l.heap y.out oz;have c0:Ext w _:=z.out.after l (fun b J e=>by have:=P.out;omega);obtain⟨T,L,U,R,Q⟩:=Zh5 c6 c7 c8 c5 c0;refine hK.out _ _ (a1.out _ l) (fun hS3=>?_);clear hK K E c6 c7 c8 c5 c0 l r hS1 hS2 hS3;change wpAnyH _ _ _ _ _ _ _ (Act.put _ none _) _;simp only [Act.put];refine wpAnyH_done kz ?_ _;go_wp2;first | exact⟨⟨c+1,d,by omega,tz,rfl,H,T.out,L.out,U.out,R.out,Q.out⟩,nz⟩ | exact⟨⟨c+1,d,by omega,by simp,H,T.out,L.out,U.out,R.out,Q.out⟩,nz⟩
  ·have D:=b0.out;rw [if_pos (.inl rfl)] at D;have a7:b1=0:=i1.out rfl;have i5:=i3.out a7;have H:=Zh D.symm;have g2:=i4.out;rw [i5] at g2;have l0:=Zh g2;have f3:=zR b5;subst a7;clear D b0 X O d9 b5 d3 g2 i5 i3 i4 f1 i1;go_wp2_with fail;refine(l0.out _).mono ?_;rintro e B ⟨rfl,i⟩;have E:=i.keep t.out;have l:Q0 (·=o) q (B.setRow o #[.int .u32 (d.1:Int),.int .u32 (d.2:Int)]):=(Ext.of i).trans (Q0.setRow B o #[.int .u32 (d.1:Int),.int .u32 (d.2:Int)]);obtain⟨T,L,U,Q⟩:=Zh4 (l.heap C.out oz) (l.heap A.out oz) (l.heap y.out oz) (z.out.after l (fun b J e=>by have:=P.out;omega));have R:Hid ((B.setRow o #[.int .u32 (d.1:Int),.int .u32 (d.2:Int)]).heap[o]?=some (.cells #[.int .u32 (d.1:Int),.int .u32 (d.2:Int)] 95 (0,0))):=Zh (setRow_heap _ _ _ _ _ _ E);have k5:=Zh E;clear E l i f3
   go_wp2_with (refine wpList_store_row rfl 95 (.tmp 8) (.tmp 44) rfl o #[.int .u32 (d.1:Int),.int .u32 (d.2:Int)] rfl rfl _ _ k5.out kz rfl kz ?_;generalize B.setRow o #[.int .u32 (d.1:Int),.int .u32 (d.2:Int)]=m0 at T L U Q R ⊢;have a3:=zR L.out)
   refine(c9.out _).mono ?_;rintro e m1 ⟨rfl,i⟩;clear a3;obtain⟨C,A,y,t,z⟩:=Zh5 (i.keep T.out) (i.keep L.out) (i.keep U.out) (i.keep R.out) (Q.out.trans i);clear i;go_wp2;first | exact⟨⟨c+1,d,by omega,tz,rfl,H,C.out,A.out,y.out,t.out,z.out⟩,nz⟩ | exact⟨⟨c+1,d,by omega,by simp,H,C.out,A.out,y.out,t.out,z.out⟩,nz⟩
 ·obtain rfl:c=24:=by omega
  have c3:=k6.out;rw [<-g9.out] at c3;subst c3;have f3:=zR b5;clear X O d9 b5 d3
  go_wp2_with (refine wpList_store_row rfl 95 (.tmp 6) (.tmp 55) rfl (k+2) #[.int .u32 (F.1:Int),.int .u32 (F.2:Int)] rfl rfl _ _ y.out kz rfl kz ?_)
  have r:=Q0.setRow q (k+2) #[.int .u32 (F.1:Int),.int .u32 (F.2:Int)];refine bodyPost_ret (Zm (p:=6) (u:=7) rfl rfl (setRow_heap _ _ _ _ _ _ y.out) kz) rfl ?_;exact⟨rfl,z.out.after r (fun b J e=>by have:=P.out;omega)⟩
end Go.Proofs.YtfdlhlghcbeblaaGreatDoor
