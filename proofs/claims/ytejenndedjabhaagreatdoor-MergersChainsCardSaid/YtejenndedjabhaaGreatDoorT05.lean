/- feats: -/
import Derived.Test.YtejenndedjabhaaGreatDoorT04
set_option maxRecDepth 100000
set_option maxHeartbeats 8000000
namespace Go.Proofs.YtejenndedjabhaaGreatDoor
open Go.RowKit Go.Ab
attribute [local go_sem] Oper.semAt_some Y5 Z9
abbrev sV(s:Nat × Nat):Value:=.agg #[.int .u32 (s.1:Int),.int .u32 (s.2:Int)]
set_option maxHeartbeats 2000000 in
theorem Jn{s:Nat × Nat}(t:Qm s)(w:World) :
  Calls Tryz.prog 61 #[sV s] w fun e w'=>e=.returned (.bool (okS s))/\Ext w w':=by
 obtain⟨b,c⟩:=s;obtain⟨i,j⟩:=t;obtain⟨u,v⟩:=Fr i j;have r:b ||| c<4294967296:=Nat.or_lt_two_pow (n:=32) i j;have d:okS (b,c)=((b &&& c == 0) && ((b ||| c) / 16777216 == 0)):=rfl;obtain⟨g,o⟩:=zE (b &&& c == 0);obtain⟨a,m⟩:=zE (b ||| c);rw [o] at u d;rw [m] at v d r;have p:(a / 16777216 == 0)=decide ((a:Int)<=16777215):=by
  apply Bool.eq_iff_iff.2;rw [beq_iff_eq,decide_eq_true_iff];omega
 rw [p] at d;obtain⟨k,f⟩:=zE (decide ((a:Int)<=16777215));rw [f] at d;have l:=Zh d;clear d o m p;dsimp only at i j;cases k
 ·have q:¬ (a:Int)<=16777215:=of_decide_eq_false f;clear f;go_enter Tryz.func61,Tryz.ntmps61;cases g
  all_goals
   go_wp2;go_ret;exact⟨by rw [l.out];rfl,(Qa.refl _ _).alloc _⟩
 ·have q:(a:Int)<=16777215:=of_decide_eq_true f;clear f;go_enter Tryz.func61,Tryz.ntmps61;cases g
  all_goals
   go_wp2;go_ret;exact⟨by rw [l.out];rfl,(Qa.refl _ _).alloc _⟩
set_option maxHeartbeats 2000000 in
theorem Qir{s:Nat × Nat}(f:Qm s)(w:World) :
  Calls Tryz.prog 237 #[sV s] w fun e w'=>e=.returned (.int .u32 ((s.1 ||| s.2:Nat):Int))/\Ext w w':=by
 obtain⟨c,d⟩:=s;obtain⟨a,b⟩:=f;have g:=u32_or_nat c d a b;dsimp only at a b ⊢;go_enter Tryz.func237,Tryz.ntmps237;go_wp2;go_ret;exact⟨rfl,(Qa.refl _ _).alloc _⟩
set_option maxHeartbeats 2000000 in
theorem Q8e{s f:Nat × Nat}{m:Nat}(q:Qm s)(p:Qm f)(c:m<4294967296)(w:World) :
  Calls Tryz.prog 238 #[sV s,sV f,.int .u32 (m:Int)] w fun e w'=>e=.returned (sV (Jz s f m))/\Ext w w':=by
 obtain⟨d,g⟩:=s;obtain⟨a,b⟩:=f;obtain⟨i,j⟩:=q;obtain⟨k,l⟩:=p;dsimp only at i j k l;have r:=Fy d m i c;have t:=Fy g m j c;have u:=u32_and_nat a m k c;have v:=u32_and_nat b m l c;have n:a &&& m<4294967296:=Nat.lt_of_le_of_lt Nat.and_le_left k;have o:b &&& m<4294967296:=Nat.lt_of_le_of_lt Nat.and_le_left l;have x:=u32_or_nat (Yi d m) (a &&& m) (Eq i) n;have y:=u32_or_nat (Yi g m) (b &&& m) (Eq j) o;clear n o;go_enter Tryz.func238,Tryz.ntmps238;go_wp2;refine bodyPost_ret (results_cell_row rfl _ _ (w.heap.size+1+1) _ #[.int .u32 ((Yi d m ||| a &&& m:Nat):Int),.int .u32 ((Yi g m ||| b &&& m:Nat):Int)] _ _ rfl (new_at zy) Tryz.underlying26 rfl kz) rfl ?_;exact⟨rfl,(((Qa.refl _ _).alloc _).alloc _).alloc _⟩
theorem Y9{a:Func}{p u:Tmp}(h:a.results=#[.cell p 26,.tmp u]){tmps:Array Value}{w:World}{g:Nat}{cs:Array Value}(d:tmps.getD p undef=.pointer (some ⟨g,0,none⟩)) (b:w.heap[g]?=some (.cells cs 26 (0,0))) (c:(Tryz.prog.info? 26).map (·.size)=some cs.size) :
  (results a tmps).run Tryz.prog w=.ok (.tuple #[.agg cs,tmps.getD u undef]) w:=by
 have e:tmps[p]?.getD undef=.pointer (some ⟨g,0,none⟩):=by simpa using d
 simp [results,h,e,asAddr,run_loadVar_row w g _ _ _ _ _ b Tryz.underlying26 rfl c]
def Uv(s c:Nat × Nat):Bool:=okS s && okS c && Q2y s c
theorem Qgm{s c:Nat × Nat}(a:Qm c):Q2y s c=(Yi c.1 s.1 == 0 && Yi c.2 s.2 == 0):=by
 unfold Q2y;apply Bool.eq_iff_iff.2;simp only [Bool.and_eq_true,beq_iff_eq];rw [Q49 a.1,Q49 a.2]
set_option maxHeartbeats 4000000 in
theorem Qjk{s c:Nat × Nat}(K:Qm s)(g:Qm c)(w:World) :
  Calls Tryz.prog 224 #[sV s,sV c] w fun e w'=>e=.returned (.bool (Uv s c))/\Ext w w':=by
 have y:=fun(V:World)=>Jn K V;have z:=fun(V:World)=>Jn g V;have r:Uv s c=(okS s && okS c && (Yi c.1 s.1 == 0 && Yi c.2 s.2 == 0)):=by unfold Uv;rw [Qgm g]
 obtain⟨b,d⟩:=s;obtain⟨c,f⟩:=c;obtain⟨H,I⟩:=K;obtain⟨g,J⟩:=g;dsimp only at H I g J;have Q:=Fy c b g H;have R:=Fy f d J I;dsimp only at r;obtain⟨a,A⟩:=zE (okS (b,d));obtain⟨S,B⟩:=zE (okS (c,f));obtain⟨Z,C⟩:=zE (Uv (b,d) (c,f));obtain⟨D,i⟩:=zE (Yi c b);obtain⟨N,x⟩:=zE (Yi f d);rw [A] at y;rw [B] at z;rw [A,B,C,i,x] at r;rw [i] at Q;rw [x] at R;rw [C];obtain⟨O,P,k⟩:=Zh3 y z r;clear y z r A B C i x;go_enter Tryz.func224,Tryz.ntmps224;go_wp2_with fail;have v:Ext w ((w.alloc (.cells #[.int .u32 (b:Int),.int .u32 (d:Int)] 26)).alloc (.cells #[.int .u32 (c:Int),.int .u32 (f:Int)] 26)):=((Qa.refl _ w).alloc _).alloc _;have n:((w.alloc (.cells #[.int .u32 (b:Int),.int .u32 (d:Int)] 26)).alloc (.cells #[.int .u32 (c:Int),.int .u32 (f:Int)] 26)).heap[w.heap.size]?=some (.cells #[.int .u32 (b:Int),.int .u32 (d:Int)] 26 (0,0)):=Qi (new_at rfl);have o:((w.alloc (.cells #[.int .u32 (b:Int),.int .u32 (d:Int)] 26)).alloc (.cells #[.int .u32 (c:Int),.int .u32 (f:Int)] 26)).heap[w.heap.size+1]?=some (.cells #[.int .u32 (c:Int),.int .u32 (f:Int)] 26 (0,0)):=new_at zy;refine(O.out _).mono ?_;generalize ((w.alloc (.cells #[.int .u32 (b:Int),.int .u32 (d:Int)] 26)).alloc (.cells #[.int .u32 (c:Int),.int .u32 (f:Int)] 26))=W at v n o ⊢;generalize w.heap.size=T at n o ⊢;rintro e X ⟨rfl,p⟩;have t:=v.trans p;have l:=p.keep n;have m:=p.keep o;have F:=zR l;have G:=zR m;clear p n o v;cases a
 ·clear l m;go_wp2;go_ret;exact⟨by rw [k.out];rfl,t⟩
 ·go_wp2_with fail;refine(P.out _).mono ?_;rintro e Y ⟨rfl,q⟩;have u:=t.trans q;have L:=q.keep l;have M:=q.keep m;clear F G q t l m;have F:=zR L;have G:=zR M;clear L M;cases S
  ·go_wp2;go_ret;exact⟨by rw [k.out];rfl,u⟩
  ·by_cases i:D=0
   ·subst i;have E:((N:Int) == 0)=(N == 0):=by
     apply Bool.eq_iff_iff.2;rw [beq_iff_eq,beq_iff_eq];omega
    go_wp2;go_ret;refine⟨?_,u⟩;rw [k.out];simp
   ·have U:((D:Int) == 0)=false:=by rw [beq_eq_false_iff_ne];omega
    have E:(D == 0)=false:=by rw [beq_eq_false_iff_ne];exact i
    rw [E] at k;clear E;go_wp2;go_ret;exact⟨by rw [k.out];rfl,u⟩
def Xx(s:Nat × Nat)(m:Nat)(f:Nat × Nat):(Nat × Nat) × Int:=
 if okS s=false\/okS f=false then((0,0),14) else if 16777215<m\/m &&& (f.1 ||| f.2)≠0 then((0,0),2) else(Jz s f (m ||| (f.1 ||| f.2)),0)
def Vd(s f:Nat × Nat)(m:Nat):(Nat × Nat) × Int:=
 if okS s=false\/okS f=false then((0,0),14) else if 16777215<m then((0,0),2) else(Jz s f m,0)
theorem Q4e{s f:Nat × Nat}{m:Nat}(M:Qm s)(K:Qm f)(b3:m<4294967296)(w:World) :
  Calls Tryz.prog 226 #[sV s,sV f,.int .u32 (m:Int)] w fun e w'=>e=.returned (.tuple #[sV (Vd s f m).1,.int .i64 (Vd s f m).2])/\Ext w w':=by
 have N:=fun(V:World)=>Jn M V;have O:=fun(V:World)=>Jn K V;have L:=fun(V:World)=>Q8e M K b3 V;obtain⟨d,b⟩:=s;obtain⟨g,i⟩:=f;obtain⟨a9,b0⟩:=M;obtain⟨b1,b2⟩:=K;dsimp only at a9 b0 b1 b2;obtain⟨t,P⟩:=zE (okS (d,b));obtain⟨a2,Q⟩:=zE (okS (g,i));rw [P] at N;rw [Q] at O;have a6:=Zh N;have a7:=Zh O;have k:Hid (Vd (d,b) (g,i) m=if t=false\/a2=false then((0,0),14) else if 16777215<m then((0,0),2) else(Jz (d,b) (g,i) m,0)):=Zh (by unfold Vd;rw [P,Q]);obtain⟨q,r,Z⟩:∃ q r,Vd (d,b) (g,i) m=(q,r):=⟨_,_,rfl⟩;rw [Z] at k ⊢;clear N O P Q Z;obtain⟨⟨R,S⟩,a0⟩:=zE (Jz (d,b) (g,i) m);rw [a0] at L k;have a5:=Zh L;clear L a0;go_enter Tryz.func226,Tryz.ntmps226;go_wp2_with fail;obtain⟨c,o⟩:=zE w.heap.size;have T:(((w.alloc (.cells #[.int .u32 (d:Int),.int .u32 (b:Int)] 26)).alloc (.cells #[.int .u32 (g:Int),.int .u32 (i:Int)] 26)).alloc (.cells #[.int .u32 0,.int .u32 0] 26)).heap[c]?=some (.cells #[.int .u32 (d:Int),.int .u32 (b:Int)] 26 (0,0)):=by subst o;exact Qi (Qi (new_at rfl))
 have U:(((w.alloc (.cells #[.int .u32 (d:Int),.int .u32 (b:Int)] 26)).alloc (.cells #[.int .u32 (g:Int),.int .u32 (i:Int)] 26)).alloc (.cells #[.int .u32 0,.int .u32 0] 26)).heap[c+1]?=some (.cells #[.int .u32 (g:Int),.int .u32 (i:Int)] 26 (0,0)):=by subst o;exact Qi (new_at zy)
 have W:(((w.alloc (.cells #[.int .u32 (d:Int),.int .u32 (b:Int)] 26)).alloc (.cells #[.int .u32 (g:Int),.int .u32 (i:Int)] 26)).alloc (.cells #[.int .u32 0,.int .u32 0] 26)).heap[c+2]?=some (.cells #[.int .u32 0,.int .u32 0] 26 (0,0)):=by subst o;exact new_at zy
 have F:Ext w (((w.alloc (.cells #[.int .u32 (d:Int),.int .u32 (b:Int)] 26)).alloc (.cells #[.int .u32 (g:Int),.int .u32 (i:Int)] 26)).alloc (.cells #[.int .u32 0,.int .u32 0] 26)):=(((Qa.refl _ w).alloc _).alloc _).alloc _;refine(a6.out _).mono ?_;generalize (((w.alloc (.cells #[.int .u32 (d:Int),.int .u32 (b:Int)] 26)).alloc (.cells #[.int .u32 (g:Int),.int .u32 (i:Int)] 26)).alloc (.cells #[.int .u32 0,.int .u32 0] 26))=b8 at T U W F ⊢;rw [o];have B:=Zh o;clear o;rintro e b4 ⟨rfl,a⟩;have G:=F.trans a;have C:=a.keep T;have D:=a.keep U;have E:=a.keep W;have I:=zR C;have J:=zR D;have H:=Zh E;clear a T U W F;cases t
 ·clear C D E;have n:q=(0,0)/\r=14:=by have:=k.out;rw [if_pos (.inl rfl)] at this;exact⟨congrArg Prod.fst this,congrArg Prod.snd this⟩
  obtain⟨rfl,rfl⟩:=n;clear k
  go_wp2_with (refine wpList_store_row rfl 26 (.tmp 6) (.tmp 16) rfl (c+2) #[.int .u32 0,.int .u32 0] rfl rfl _ _ H.out kz rfl kz ?_)
  have l:=Qa.setRow b4 (c+2) #[.int .u32 0,.int .u32 0];refine bodyPost_ret (Y9 (p:=6) (u:=7) rfl rfl (setRow_heap _ _ _ _ _ _ H.out) kz) rfl ?_;exact⟨rfl,G.after l (fun b h1 e=>by have:=B.out;omega)⟩
 go_wp2_with fail;refine(a7.out _).mono ?_;rintro e a1 ⟨rfl,a⟩;have A:=G.trans a;have x:=a.keep C;have y:=a.keep D;have z:=a.keep E;clear I J H a C D E G;have I:=zR x;have J:=zR y;have v:=Zh z;cases a2
 ·clear x y z;have n:q=(0,0)/\r=14:=by have:=k.out;rw [if_pos (.inr rfl)] at this;exact⟨congrArg Prod.fst this,congrArg Prod.snd this⟩
  obtain⟨rfl,rfl⟩:=n;clear k
  go_wp2_with (refine wpList_store_row rfl 26 (.tmp 6) (.tmp 16) rfl (c+2) #[.int .u32 0,.int .u32 0] rfl rfl _ _ v.out kz rfl kz ?_)
  have l:=Qa.setRow a1 (c+2) #[.int .u32 0,.int .u32 0];refine bodyPost_ret (Y9 (p:=6) (u:=7) rfl rfl (setRow_heap _ _ _ _ _ _ v.out) kz) rfl ?_;exact⟨rfl,A.after l (fun b h1 e=>by have:=B.out;omega)⟩
 by_cases Y:16777215<m
 ·have a8:(16777215:Int)<(m:Int):=by omega
  clear x y z;have n:q=(0,0)/\r=2:=by have:=k.out;rw [if_neg zd,if_pos Y] at this;exact⟨congrArg Prod.fst this,congrArg Prod.snd this⟩
  obtain⟨rfl,rfl⟩:=n;clear k
  go_wp2_with (refine wpList_store_row rfl 26 (.tmp 6) (.tmp 19) rfl (c+2) #[.int .u32 0,.int .u32 0] rfl rfl _ _ v.out kz rfl kz ?_)
  have l:=Qa.setRow a1 (c+2) #[.int .u32 0,.int .u32 0];refine bodyPost_ret (Y9 (p:=6) (u:=7) rfl rfl (setRow_heap _ _ _ _ _ _ v.out) kz) rfl ?_;exact⟨rfl,A.after l (fun b h1 e=>by have:=B.out;omega)⟩
 have a8:¬ (16777215:Int)<(m:Int):=by omega
 have n:q=(R,S)/\r=0:=by have:=k.out;rw [if_neg zd,if_neg Y] at this;exact⟨congrArg Prod.fst this,congrArg Prod.snd this⟩
 obtain⟨rfl,rfl⟩:=n;clear k;go_wp2_with fail;refine(a5.out _).mono ?_;rintro e b5 ⟨rfl,a⟩;have a4:=A.trans a;have b6:=a.keep x;have b7:=a.keep y;have a3:=a.keep z;clear I J v a x y z A;have X:=Zh a3;clear b6 b7 a3
 go_wp2_with (refine wpList_store_row rfl 26 (.tmp 6) (.tmp 23) rfl (c+2) #[.int .u32 (R:Int),.int .u32 (S:Int)] rfl rfl _ _ X.out kz rfl kz ?_)
 have l:=Qa.setRow b5 (c+2) #[.int .u32 (R:Int),.int .u32 (S:Int)];refine bodyPost_ret (Y9 (p:=6) (u:=7) rfl rfl (setRow_heap _ _ _ _ _ _ X.out) kz) rfl ?_;exact⟨rfl,a4.after l (fun b h1 e=>by have:=B.out;omega)⟩
theorem Q0l{s f:Nat × Nat}{m:Nat}(a6:Qm s)(y:Qm f)(a5:m<4294967296)(w:World) :
  Calls Tryz.prog 225 #[sV s,.int .u32 (m:Int),sV f] w fun e w'=>e=.returned (.tuple #[sV (Xx s m f).1,.int .i64 (Xx s m f).2])/\Ext w w':=by
 have a7:=fun(V:World)=>Jn a6 V;have a8:=fun(V:World)=>Jn y V;have R:=fun(V:World)=>Qir y V;have J:f.1 ||| f.2<4294967296:=Nat.or_lt_two_pow (n:=32) y.1 y.2;have T:m ||| (f.1 ||| f.2)<4294967296:=Nat.or_lt_two_pow (n:=32) a5 J;have z:=fun(V:World)=>Q8e a6 y T V;have b1:=u32_and_nat m (f.1 ||| f.2) a5 J;have b2:=u32_or_nat m (f.1 ||| f.2) a5 J;obtain⟨k,c⟩:=s;obtain⟨d,g⟩:=f;obtain⟨d9,e0⟩:=a6;obtain⟨e1,e2⟩:=y;dsimp only at d9 e0 e1 e2;dsimp only at R J T z b1 b2;obtain⟨C,a9⟩:=zE (okS (k,c));obtain⟨d1,b0⟩:=zE (okS (d,g));rw [a9] at a7;rw [b0] at a8;have d4:=Zh a7;have d5:=Zh a8;have i:Hid (Xx (k,c) m (d,g)=if C=false\/d1=false then((0,0),14) else if 16777215<m\/m &&& (d ||| g)≠0 then((0,0),2) else(Jz (k,c) (d,g) (m ||| (d ||| g)),0)):=Zh (by unfold Xx;rw [a9,b0]);obtain⟨r,t,L⟩:∃ r t,Xx (k,c) m (d,g)=(r,t):=⟨_,_,rfl⟩;rw [L] at i ⊢;clear a7 a8 a9 b0 L;obtain⟨⟨b3,b4⟩,c7⟩:=zE (Jz (k,c) (d,g) (m ||| (d ||| g)));obtain⟨Q,c4⟩:=zE (d ||| g);rw [c7] at z i;rw [c4] at R z i b1 b2 J T;obtain⟨A,c5⟩:=zE (m &&& Q);obtain⟨e7,L⟩:=zE (m ||| Q);rw [c5] at b1 i;rw [L] at b2 z;have d3:=Zh z;have c1:=Zh R;clear z R c7 c4 c5 L T;go_enter Tryz.func225,Tryz.ntmps225;go_wp2_with fail;obtain⟨a,x⟩:=zE w.heap.size;have b5:(((w.alloc (.cells #[.int .u32 (k:Int),.int .u32 (c:Int)] 26)).alloc (.cells #[.int .u32 (d:Int),.int .u32 (g:Int)] 26)).alloc (.cells #[.int .u32 0,.int .u32 0] 26)).heap[a]?=some (.cells #[.int .u32 (k:Int),.int .u32 (c:Int)] 26 (0,0)):=by subst x;exact Qi (Qi (new_at rfl))
 have b6:(((w.alloc (.cells #[.int .u32 (k:Int),.int .u32 (c:Int)] 26)).alloc (.cells #[.int .u32 (d:Int),.int .u32 (g:Int)] 26)).alloc (.cells #[.int .u32 0,.int .u32 0] 26)).heap[a+1]?=some (.cells #[.int .u32 (d:Int),.int .u32 (g:Int)] 26 (0,0)):=by subst x;exact Qi (new_at zy)
 have b7:(((w.alloc (.cells #[.int .u32 (k:Int),.int .u32 (c:Int)] 26)).alloc (.cells #[.int .u32 (d:Int),.int .u32 (g:Int)] 26)).alloc (.cells #[.int .u32 0,.int .u32 0] 26)).heap[a+2]?=some (.cells #[.int .u32 0,.int .u32 0] 26 (0,0)):=by subst x;exact new_at zy
 have a1:Ext w (((w.alloc (.cells #[.int .u32 (k:Int),.int .u32 (c:Int)] 26)).alloc (.cells #[.int .u32 (d:Int),.int .u32 (g:Int)] 26)).alloc (.cells #[.int .u32 0,.int .u32 0] 26)):=(((Qa.refl _ w).alloc _).alloc _).alloc _;refine(d4.out _).mono ?_;generalize (((w.alloc (.cells #[.int .u32 (k:Int),.int .u32 (c:Int)] 26)).alloc (.cells #[.int .u32 (d:Int),.int .u32 (g:Int)] 26)).alloc (.cells #[.int .u32 0,.int .u32 0] 26))=e8 at b5 b6 b7 a1 ⊢;rw [x];have D:=Zh x;clear x;rintro e e4 ⟨rfl,b⟩;have a2:=a1.trans b;have W:=b.keep b5;have Y:=b.keep b6;have a0:=b.keep b7;have G:=zR W;have H:=zR Y;have a3:=Zh a0;clear b b5 b6 b7 a1;cases C
 ·clear W Y a0;have q:r=(0,0)/\t=14:=by have:=i.out;rw [if_pos (.inl rfl)] at this;exact⟨congrArg Prod.fst this,congrArg Prod.snd this⟩
  obtain⟨rfl,rfl⟩:=q;clear i
  go_wp2_with (refine wpList_store_row rfl 26 (.tmp 6) (.tmp 16) rfl (a+2) #[.int .u32 0,.int .u32 0] rfl rfl _ _ a3.out kz rfl kz ?_)
  have o:=Qa.setRow e4 (a+2) #[.int .u32 0,.int .u32 0];refine bodyPost_ret (Y9 (p:=6) (u:=7) rfl rfl (setRow_heap _ _ _ _ _ _ a3.out) kz) rfl ?_;exact⟨rfl,a2.after o (fun c v e=>by have:=D.out;omega)⟩
 go_wp2_with fail;refine(d5.out _).mono ?_;rintro e c9 ⟨rfl,b⟩;have P:=a2.trans b;have M:=b.keep W;have N:=b.keep Y;have O:=b.keep a0;clear G H a3 b W Y a0 a2;have G:=zR M;have H:=zR N;have F:=Zh O;cases d1
 ·clear M N O;have q:r=(0,0)/\t=14:=by have:=i.out;rw [if_pos (.inr rfl)] at this;exact⟨congrArg Prod.fst this,congrArg Prod.snd this⟩
  obtain⟨rfl,rfl⟩:=q;clear i
  go_wp2_with (refine wpList_store_row rfl 26 (.tmp 6) (.tmp 16) rfl (a+2) #[.int .u32 0,.int .u32 0] rfl rfl _ _ F.out kz rfl kz ?_)
  have o:=Qa.setRow c9 (a+2) #[.int .u32 0,.int .u32 0];refine bodyPost_ret (Y9 (p:=6) (u:=7) rfl rfl (setRow_heap _ _ _ _ _ _ F.out) kz) rfl ?_;exact⟨rfl,P.after o (fun c v e=>by have:=D.out;omega)⟩
 by_cases e3:16777215<m
 ·have d7:(16777215:Int)<(m:Int):=by omega
  clear M N O;have q:r=(0,0)/\t=2:=by have:=i.out;rw [if_neg zd,if_pos (.inl e3)] at this;exact⟨congrArg Prod.fst this,congrArg Prod.snd this⟩
  obtain⟨rfl,rfl⟩:=q;clear i
  go_wp2_with (refine wpList_store_row rfl 26 (.tmp 6) (.tmp 26) rfl (a+2) #[.int .u32 0,.int .u32 0] rfl rfl _ _ F.out kz rfl kz ?_)
  have o:=Qa.setRow c9 (a+2) #[.int .u32 0,.int .u32 0];refine bodyPost_ret (Y9 (p:=6) (u:=7) rfl rfl (setRow_heap _ _ _ _ _ _ F.out) kz) rfl ?_;exact⟨rfl,P.after o (fun c v e=>by have:=D.out;omega)⟩
 have d7:¬ (16777215:Int)<(m:Int):=by omega
 go_wp2_with fail;refine(c1.out _).mono ?_;rintro e B ⟨rfl,b⟩;have c0:=P.trans b;have X:=b.keep M;have Z:=b.keep N;have b8:=b.keep O;clear G H F b M N O P;have G:=zR X;have H:=zR Z;have a4:=Zh b8;by_cases c6:A=0;case neg=>
  have e6:((A:Int) != 0)=true:=by rw [bne_iff_ne];omega
  clear X Z b8;have q:r=(0,0)/\t=2:=by have:=i.out;rw [if_neg zd,if_pos (.inr c6)] at this;exact⟨congrArg Prod.fst this,congrArg Prod.snd this⟩
  obtain⟨rfl,rfl⟩:=q;clear i
  go_wp2_with (refine wpList_store_row rfl 26 (.tmp 6) (.tmp 26) rfl (a+2) #[.int .u32 0,.int .u32 0] rfl rfl _ _ a4.out kz rfl kz ?_)
  have o:=Qa.setRow B (a+2) #[.int .u32 0,.int .u32 0];refine bodyPost_ret (Y9 (p:=6) (u:=7) rfl rfl (setRow_heap _ _ _ _ _ _ a4.out) kz) rfl ?_;exact⟨rfl,c0.after o (fun c v e=>by have:=D.out;omega)⟩
 subst c6;have q:r=(b3,b4)/\t=0:=by have:=i.out;rw [if_neg zd,if_neg oz] at this;exact⟨congrArg Prod.fst this,congrArg Prod.snd this⟩
 obtain⟨rfl,rfl⟩:=q;clear i;have c3:∀(l:World),Qa (·=a+2) B l->l.cell? ⟨a,0,none⟩=some (.int .u32 (k:Int))/\l.cell? ⟨a,1,none⟩=some (.int .u32 (c:Int))/\l.cell? ⟨a+1,0,none⟩=some (.int .u32 (d:Int))/\l.cell? ⟨a+1,1,none⟩=some (.int .u32 (g:Int)):=by
  intro l c2;have d8:=c2.heap X oz;have v:=c2.heap Z oz;simp [World.cell?,d8,v]
 have E:=Zh c3;clear c3 X Z b8;go_wp2_with fail;clear G H;refine wp_region_held_drew (S:=fun l=>l.cell? ⟨a,0,none⟩=some (.int .u32 (k:Int))/\l.cell? ⟨a,1,none⟩=some (.int .u32 (c:Int))/\l.cell? ⟨a+1,0,none⟩=some (.int .u32 (d:Int))/\l.cell? ⟨a+1,1,none⟩=some (.int .u32 (g:Int))) kz (E.out _ (Qa.drew (Qa.refl _ B))) ?_;intro I;refine tH 0 27 I ?_;refine tH 1 28 I ?_;refine tH 2 29 I ?_;refine tH 3 30 I ?_;refine rH [4] ?_;refine AllReadyH.cons rfl (fun K hK=>?_) AllReadyH.nil;refine iw rfl ?_;go_simp;refine(c1.out _).mono ?_;rintro e e5 ⟨rfl,b⟩;have c8:Ext B e5:=Qa.trans (Qa.drew (Qa.refl _ B)) b;refine hK.out _ _ (E.out _ (Ext.of c8)) (fun hS1=>?_);clear hK K b;refine tH 5 32 hS1 ?_;refine rH [6] ?_;refine AllReadyH.cons rfl (fun K hK=>?_) AllReadyH.nil;refine iw rfl ?_;go_simp;refine(d3.out _).mono ?_;rintro e d0 ⟨rfl,b⟩;have U:Ext B d0:=Qa.trans c8 b;have b9:=U.keep a4.out;refine hK.out _ _ (E.out _ (Ext.of U)) (fun hS2=>?_);clear hK K b;refine rH [7] ?_;refine AllReadyH.cons rfl (fun K hK=>?_) AllReadyH.nil;refine iw rfl ?_;refine wp_store_row 26 (.tmp 6) (.tmp 33) rfl (a+2) #[.int .u32 (b3:Int),.int .u32 (b4:Int)] rfl rfl _ _ b9 kz rfl kz ?_;have o:=Qa.setRow d0 (a+2) #[.int .u32 (b3:Int),.int .u32 (b4:Int)];refine hK.out _ _ (E.out _ ((Ext.of U).trans o)) (fun hS3=>?_);clear hK K;change wpAnyH _ _ _ _ _ _ _ (Act.put _ none _) _;simp only [Act.put];refine tH 8 7 hS3 ?_;refine wpAnyH_done kz ?_ _;have d2:=c0.trans U;clear I hS1 hS2 hS3 E;have d6:=Zh b9;clear b9;go_wp2;refine bodyPost_ret (Y9 (p:=6) (u:=7) rfl rfl (setRow_heap _ _ _ _ _ _ d6.out) kz) rfl ?_;exact⟨rfl,d2.after o (fun c v e=>by have:=D.out;omega)⟩
def byt(n i:Nat):UInt8:=UInt8.ofNat (n / 2 ^ (8*i))
def Ka(s:Nat × Nat):List UInt8:=[byt s.1 0,byt s.2 0,byt s.1 1,byt s.2 1,byt s.1 2,byt s.2 2,byt s.1 3,byt s.2 3]
def Zn(u:Wd):List UInt8:=u.flatMap Ka
def Uy(u:Wd):ByteArray:=⟨(Zn u).toArray⟩
theorem Eo{n m i:Nat}(h:byt n i=byt m i):n / 2 ^ (8*i) % 256=m / 2 ^ (8*i) % 256:=by
 have:=congrArg UInt8.toNat h
 simpa [byt,UInt8.toNat_ofNat'] using this
theorem Qfq{n m:Nat}(k:n<4294967296)(j:m<4294967296)(e:byt n 0=byt m 0)(f:byt n 1=byt m 1)(g:byt n 2=byt m 2)(i:byt n 3=byt m 3):n=m:=by
 have a:=Eo e;have b:=Eo f;have c:=Eo g;have d:=Eo i;simp only [Nat.mul_zero,Nat.mul_one,Nat.pow_zero,Nat.div_one,show (2:Nat) ^ 8=256 from rfl,show (2:Nat) ^ (8*2)=65536 from rfl,show (2:Nat) ^ (8*3)=16777216 from rfl] at a b c d;omega
theorem Qj7{s t:Nat × Nat}(a:Qm s)(b:Qm t)(h:Ka s=Ka t):s=t:=by
 unfold Ka at h;simp only [List.cons.injEq,and_true] at h;obtain⟨c,g,d,i,e,j,f,k⟩:=h;exact Prod.ext (Qfq a.1 b.1 c d e f) (Qfq a.2 b.2 g i j k)
theorem Rf:∀ {u v:Wd},(∀ s∈u,Qm s)->(∀ s∈v,Qm s)->Zn u=Zn v->u=v
 | [],[],_,_,_=>rfl
 | [],t::v,_,_,h=>by simp [Zn,Ka] at h
 | s::u,[],_,_,h=>by simp [Zn,Ka] at h
 | s::u,t::v,hu,hv,h=>by
  have h':Ka s++Zn u=Ka t++Zn v:=h;have hl:(Ka s).length=(Ka t).length:=rfl;obtain⟨h1,h2⟩:=List.append_inj h' hl;rw [Qj7 (hu s zy) (hv t zy) h1,Rf (fun x hx=>hu x (by simp [hx])) (fun x hx=>hv x (by simp [hx])) h2]
theorem Fl(u:Wd):(Zn u).length=8*u.length:=by
 induction u with
 | nil=>rfl
 | cons s u ih=>show (Ka s++Zn u).length=_;rw [List.length_append,ih];simp [Ka];omega
def Jd(sh:List Int):Int:=if 64<sh.length then 12 else if sh.any (fun k=>decide (k < -1) || decide ((sh.length:Int)<=k))=true then 3 else 0
def Vs(sh:List Int):Nat->Int->List Int->List Int
 | 0,_,d=>d
 | n+1,k,d=>if 0<=k/\k ∉ d then Vs sh n (sh.getD k.toNat (-1)) (d++[k]) else d
def Fe(sh:List Int):Nat->Int->List Int->List Int
 | 0,_,d=>d
 | n+1,k,d=>if k ∉ d then Fe sh n (if sh.getD k.toNat (-1)≠-1/\sh.getD k.toNat (-1)≠k then sh.getD k.toNat (-1) else k) (d++[k]) else d
def Qh(sh:List Int)(i:Nat):List Int:=Vs sh 65 i []
def Ux(sh:List Int)(i:Nat):Bool:=decide (sh.getD i (-1)≠-1) && decide (sh.getD i (-1)≠i)
def toB(sh:List Int)(i:Nat):Bool:=(List.range sh.length).any fun k=>decide (k≠i) && decide (sh.getD k (-1)=i)
def Ys(sh:List Int):List (List Int):=((List.range sh.length).filter fun i=>Ux sh i && !toB sh i).map (Qh sh)
def Jm(sh:List Int)(i:Nat):Bool:=Ux sh i && decide (sh.getD ((Qh sh i).getLastD 0).toNat (-1)=i) && (Qh sh i).all fun k=>decide ((i:Int)<=k)
def Z6(sh:List Int):List (List Int):=((List.range sh.length).filter (Jm sh)).map (Qh sh)
theorem Bj{sh:List Int}(e:∀ k∈sh,-1<=k):∀(n:Nat) (k:Int) (d:List Int),0<=k->Vs sh n k d=Fe sh n k d
 | 0,_,_,_=>rfl
 | n+1,k,d,hk=>by
  have hg:-1<=sh.getD k.toNat (-1):=by
   rw [List.getD_eq_getElem?_getD];cases h:sh[k.toNat]? with
   | none=>exact Int.le_refl _
   | some x=>exact e x (List.mem_of_getElem? h)
  unfold Vs Fe;by_cases a:k∈d
  ·rw [if_neg (fun h=>h.2 a),if_neg (fun h=>h a)]
  ·rw [if_pos ⟨hk,a⟩,if_pos a];by_cases b:sh.getD k.toNat (-1)=-1
   ·rw [if_neg (fun h=>h.1 b),b];cases n with
    | zero=>rfl
    | succ n=>unfold Vs Fe;rw [if_neg (fun h=>by omega),if_neg (fun h=>h zy)]
   ·by_cases c:sh.getD k.toNat (-1)=k
    ·rw [if_neg (fun h=>h.2 c),c];cases n with
     | zero=>rfl
     | succ n=>unfold Vs Fe;rw [if_neg (fun h=>h.2 zy),if_neg (fun h=>h zy)]
    ·rw [if_pos ⟨b,c⟩];exact Bj e n _ _ oz
def Vt(l:List Int):Int:=if 256<l.length then 12 else if (List.range l.length).all (fun i=>decide (0<=l.getD i 0) && decide (l.getD i 0<=i) && decide (l.getD (l.getD i 0).toNat 0=l.getD i 0))=true then 0 else 2
def Wa(l:List Int)(i:Nat):Nat:=l.countP fun k=>decide (k=(i:Int))
def Q1x(l:List Int):List Nat:=((List.range l.length).map (Wa l)).filter fun n=>decide (n≠0)
def Z5(l:List Nat):List Value:=l.map fun(x:Nat)=>Value.int .i64 (x:Int)
def X9(l:List Int)(k j:Nat):Nat:=(l.take k).countP fun x=>decide (x=(j:Int))
def Yt(l:List Int)(n k:Nat):List Nat:=(List.range n).map (X9 l k)
theorem Kg(l:List Int)(n k:Nat):(Yt l n k).length=n:=by simp [Yt]
theorem Td(l:List Int)(k j:Nat):X9 l k j<=k:=Nat.le_trans List.countP_le_length (by rw [List.length_take];omega)
theorem Qdc{l:List Int}{k:Nat}(b:k<l.length)(j:Nat):X9 l (k+1) j=X9 l k j+if l[k]=(j:Int) then 1 else 0:=by
 unfold X9;rw [List.take_succ_eq_append_getElem b,List.countP_append];by_cases a:l[k]=(j:Int) <;> simp [a]
theorem Q06{l:List Int}{n k x:Nat}(c:k<l.length)(b:l[k]=(x:Int)):Z5 (Yt l n (k+1))=(Z5 (Yt l n k)).set x (.int .i64 ((X9 l k x:Nat)+1)):=by
 apply List.ext_getElem
 ·simp [Z5,Yt]
 ·intro d e f;rw [List.getElem_set];simp only [Z5,Yt,List.getElem_map,List.getElem_range];rw [Qdc c];by_cases a:x=d
  ·subst a;rw [if_pos b,if_pos rfl];rfl
  ·rw [if_neg (by rw [b];omega),if_neg a];rfl
theorem Fp{l:List Int}{n k x:Nat}(a:x<n):(Z5 (Yt l n k)).getD x undef=.int .i64 (X9 l k x:Nat):=by
 rw [List.getD_eq_getElem?_getD];simp [Z5,Yt,a]
theorem Rp(l:List Int)(n:Nat):Z5 (Yt l n 0)=List.replicate n (.int .i64 0):=by
 apply List.ext_getElem
 ·simp [Z5,Yt]
 ·intro c a b;simp [Z5,Yt,X9]
theorem Qbq(l:List Int):(Yt l l.length l.length).filter (fun n=>decide (n≠0))=Q1x l:=by
 unfold Q1x Yt
 congr 1
 apply List.map_congr_left;intro a _;unfold X9 Wa;rw [List.take_length]
def Qdd(l:List Int)(k:Nat):Prop:=∀ i,i<k->0<=l.getD i 0/\l.getD i 0<=i/\l.getD (l.getD i 0).toNat 0=l.getD i 0
theorem Qko{l:List Int}(h:l.length<=256)(e:Qdd l l.length):Vt l=0:=by
 unfold Vt;rw [if_neg oz,if_pos];rw [List.all_eq_true];intro f a;rw [List.mem_range] at a;obtain⟨b,c,d⟩:=e f a;rw [decide_eq_true b,decide_eq_true c,decide_eq_true d];rfl
theorem Qks{l:List Int}(h:l.length<=256){i:Nat}(c:i<l.length)(b:¬ (0<=l.getD i 0/\l.getD i 0<=i/\l.getD (l.getD i 0).toNat 0=l.getD i 0)):Vt l=2:=by
 unfold Vt;rw [if_neg oz,if_neg];intro a;have:=(List.all_eq_true.1 a) i (List.mem_range.2 c);simp only [Bool.and_eq_true,decide_eq_true_eq] at this;exact b ⟨this.1.1,this.1.2,this.2⟩
theorem Qhf{l:List Int}(h:¬ l.length<=256):Vt l=12:=by unfold Vt;rw [if_pos oz]
def Ft(l:List Int):List Nat:=if Vt l=0 then Q1x l else []
theorem Bs{α:Type}(p:α->Bool){f:List α}{i:Nat}(b:i<f.length):(f.take (i+1)).filter p=(f.take i).filter p++if p f[i]=true then [f[i]] else []:=by
 rw [List.take_succ_eq_append_getElem b,List.filter_append];by_cases a:p f[i]=true <;> simp [a]
def Eh(s:Nat × Nat)(f:Nat):Prop:=∀ i,i<f->¬ (s.1.testBit i=true/\s.2.testBit i=true)/\((s.1.testBit i=true\/s.2.testBit i=true)->i<24)
theorem Qdw{s:Nat × Nat}{f:Nat}(h:Eh s f)(h1:¬ (s.1.testBit f=true/\s.2.testBit f=true)) (h2:(s.1.testBit f=true\/s.2.testBit f=true)->f<24):Eh s (f+1):=fun i hi=>by
 by_cases e:i=f
 ·subst e;exact⟨h1,h2⟩
 ·exact h i oz
theorem Qeo{s:Nat × Nat}(c:Qm s){f:Nat}(b:f<32)(h:(s.1.testBit f=true/\s.2.testBit f=true)\/((s.1.testBit f=true\/s.2.testBit f=true)/\24<=f)):okS s=false:=by
 cases hq:okS s with
 | false=>rfl
 | true=>
  have:=(Ns c).1 hq f b;rcases h with h | ⟨a,d⟩
  ·exact absurd h this.1
  ·have:=this.2 a;omega
theorem Dd{s:Nat × Nat}(r:Qm s)(w:World) :
  Calls Tryz.prog 65 #[sV s] w fun e w'=>e=.returned (.bool (okS s))/\Ext w w':=by
 have m:=fun(c:Nat) (H:c<32)=>Qeo r H;have A:Eh s 32->okS s=true:=fun h=>(Ns r).2 h;have n:=fun(c:Nat) (h:Eh s c)=>Qdw h;obtain⟨N,f⟩:=zE (okS s);rw [f] at m A ⊢;have F:=fun(c:Nat)=>Eu s.1 c r.1;have G:=fun(c:Nat)=>Eu s.2 c r.2;obtain⟨R,S,T,P,Q⟩:=Zh5 m A n F G;have E:Eh s 0:=fun i h=>by omega
 have B:=Zh E;clear m A n F G f E;go_enter Tryz.func65,Tryz.ntmps65;go_wp2;have o:(w.alloc (.cells #[.int .u32 (s.1:Int),.int .u32 (s.2:Int)] 26)).heap[w.heap.size]?=some (.cells #[.int .u32 (s.1:Int),.int .u32 (s.2:Int)] 26 (0,0)):=new_at rfl;have p:Ext w (w.alloc (.cells #[.int .u32 (s.1:Int),.int .u32 (s.2:Int)] 26)):=(Qa.refl _ w).alloc _;generalize (w.alloc (.cells #[.int .u32 (s.1:Int),.int .u32 (s.2:Int)] 26))=a2 at o p ⊢;generalize w.heap.size=O at o ⊢;have U:=Zh o;clear o
 refine wp_loop (fun a D=>∃(c:Nat),c<=32/\a.defers=[]/\(a.tmps.size=36/\a.tmps.getD 1 undef=.pointer (some ⟨O,0,none⟩)/\a.tmps.getD 3 undef=.int .i64 c)/\Hid (Eh s c)/\Ext a2 D)
  (fun a _=>32 - (intOf (a.tmps.getD 3 undef)).toNat) ?_ ?_
 ·exact⟨0,by omega,rfl,⟨rfl,rfl,rfl⟩,B,Qa.refl _ _⟩
 clear B;rintro⟨a0,_⟩ D ⟨c,H,X,⟨K,t,u⟩,C,z⟩;subst X;obtain⟨a1,L⟩:=Qq K;obtain⟨b,rfl⟩:∃ x,x=a1:=⟨_,rfl⟩;have Z:a0=#[b 0,b 1,b 2,b 3,b 4,b 5,b 6,b 7,b 8,b 9,b 10,b 11,b 12,b 13,b 14,b 15,b 16,b 17,b 18,b 19,b 20,b 21,b 22,b 23,b 24,b 25,b 26,b 27,b 28,b 29,b 30,b 31,b 32,b 33,b 34,b 35]:=L;clear L;subst Z;change b 1=_ at t;change b 3=_ at u;rw [t,u];clear t u K;have o:=z.keep U.out;have a3:=zR o;have d:=Zh z;clear o z;by_cases Y:c<32
 ·have a4:(c:Int)<32:=by omega
  have V:=P.out c;have W:=Q.out c;have m:=R.out c Y;have n:=T.out c C.out;obtain⟨q,I⟩:=zE (s.1.testBit c);obtain⟨M,J⟩:=zE (s.2.testBit c);rw [I] at V m n;rw [J] at W m n;have g:=Zh m;have k:=Zh n;clear m n I J;cases q
  ·cases M
   ·have l:=Zh (k.out zy zy);clear g k;go_wp2;first | exact⟨⟨c+1,by omega,tz,⟨rfl,rfl,rfl⟩,l,d.out⟩,nz⟩ | exact⟨⟨c+1,by omega,by simp,l,d.out⟩,nz⟩
   ·by_cases y:24<=c
    ·have v:(24:Int)<=(c:Int):=by omega
     have f:=g.out (.inr ⟨.inr rfl,y⟩);subst f;clear g k;go_wp2;go_ret;exact⟨rfl,p.trans d.out⟩
    ·have v:¬ (24:Int)<=(c:Int):=by omega
     have l:=Zh (k.out zy (fun _=>by omega));clear g k;go_wp2;first | exact⟨⟨c+1,by omega,tz,⟨rfl,rfl,rfl⟩,l,d.out⟩,nz⟩ | exact⟨⟨c+1,by omega,by simp,l,d.out⟩,nz⟩
  ·cases M
   ·by_cases y:24<=c
    ·have v:(24:Int)<=(c:Int):=by omega
     have f:=g.out (.inr ⟨.inl rfl,y⟩);subst f;clear g k;go_wp2;go_ret;exact⟨rfl,p.trans d.out⟩
    ·have v:¬ (24:Int)<=(c:Int):=by omega
     have l:=Zh (k.out zy (fun _=>by omega));clear g k;go_wp2;first | exact⟨⟨c+1,by omega,tz,⟨rfl,rfl,rfl⟩,l,d.out⟩,nz⟩ | exact⟨⟨c+1,by omega,by simp,l,d.out⟩,nz⟩
   ·have f:=g.out (.inl ⟨rfl,rfl⟩);subst f;clear g k;go_wp2;go_ret;exact⟨rfl,p.trans d.out⟩
 ·obtain rfl:c=32:=by omega
  have f:=S.out C.out;subst f;go_wp2;go_ret;exact⟨rfl,p.trans d.out⟩
set_option maxHeartbeats 4000000 in
theorem Qa4{f:Nat}(c:f<24)(w:World) :
  Calls Tryz.prog 227 #[.int .i64 (f:Int)] w fun e w'=>e=.returned (.bool true)/\w'=w:=by
 have a:(0:Int)<=(f:Int):=by omega
 have b:(f:Int)<24:=by omega
 go_enter Tryz.func227,Tryz.ntmps227;go_wp2;go_ret;exact⟨rfl,rfl⟩
set_option maxHeartbeats 4000000 in
theorem Te{s:Nat × Nat}(d:Qm s)(m:okS s=true){f:Nat}(v:f<24)(w:World) :
  Calls Tryz.prog 214 #[sV s,.int .i64 (f:Int)] w fun e w'=>e=.returned (.int .i64 (Xt s f))/\Ext w w':=by
 have g:=fun(V:World)=>Dd d V;rw [m] at g;have t:=Eu s.1 f d.1;have u:=Eu s.2 f d.2;have b:Xt s f=if s.1.testBit f=true then 1 else if s.2.testBit f=true then -1 else 0:=rfl
 obtain⟨a,n⟩:=zE (s.1.testBit f);obtain⟨x,o⟩:=zE (s.2.testBit f);rw [n] at t b;rw [o] at u b;have r:=Zh g;have i:=Zh b;clear g b n o m;have z:(f:Int)<32:=by omega
 have A:(0:Int)<=(f:Int):=by omega
 go_enter Tryz.func214,Tryz.ntmps214;go_wp2_with fail;have p:(w.alloc (.cells #[.int .u32 (s.1:Int),.int .u32 (s.2:Int)] 26)).heap[w.heap.size]?=some (.cells #[.int .u32 (s.1:Int),.int .u32 (s.2:Int)] 26 (0,0)):=new_at rfl;have k:Ext w (w.alloc (.cells #[.int .u32 (s.1:Int),.int .u32 (s.2:Int)] 26)):=(Qa.refl _ w).alloc _;refine(r.out _).mono ?_;rintro e B ⟨rfl,c⟩;have l:=k.trans c;have q:=c.keep p;have y:=zR q;clear p q k c;go_wp2_with fail;refine(Qa4 v _).mono ?_;rintro e C ⟨rfl,rfl⟩;cases a
 ·cases x
  all_goals
   go_wp2;go_ret;exact⟨by rw [i.out];rfl,l⟩
 ·go_wp2;go_ret;exact⟨by rw [i.out];rfl,l⟩
set_option maxHeartbeats 4000000 in
theorem Q8s{s:Nat × Nat}(J:Qm s){f:Nat}(N:f<24)(v:Int)(w:World) :
  Calls Tryz.prog 217 #[sV s,.int .i64 (f:Int),.int .i64 v] w fun e w'=>e=.returned (sV (Li s f v))/\Ext w w':=by
 obtain⟨a,b⟩:=s;obtain⟨m,n⟩:=J;dsimp only at m n;have K:(2:Int) ^ f % 4294967296=((2 ^ f:Nat):Int):=by rw [<-IntKind.wrap_u32'];exact Qlo oz
 have j:=Qmi (show f<32 by omega);have F:=Fy a (2 ^ f) m j;have G:=Fy b (2 ^ f) n j;have t:=u32_or_nat (Yi a (2 ^ f)) (2 ^ f) (Eq m) j;have u:=u32_or_nat (Yi b (2 ^ f)) (2 ^ f) (Eq n) j;obtain⟨B,C⟩:∃ B:Int,((2 ^ f:Nat):Int)=B:=⟨_,rfl⟩;rw [C] at F G t u K;have D:Li (a,b) f v=(Yi a (2 ^ f) ||| (if v=1 then 2 ^ f else 0),Yi b (2 ^ f) ||| (if v=-1 then 2 ^ f else 0)):=rfl;obtain⟨z,o⟩:=zE (Yi a (2 ^ f));obtain⟨A,p⟩:=zE (Yi b (2 ^ f));obtain⟨H,q⟩:=zE (Yi a (2 ^ f) ||| 2 ^ f);obtain⟨I,r⟩:=zE (Yi b (2 ^ f) ||| 2 ^ f);rw [q] at t;rw [r] at u;rw [o] at F t;rw [p] at G u
 have c:=Zh (show Li (a,b) f v=(if v=1 then H else z,if v=-1 then I else A) by
  rw [D,<-o,<-p,<-q,<-r]
  congr 1
  ·split <;> simp
  ·split <;> simp)
 obtain⟨⟨d,g⟩,E⟩:=zE (Li (a,b) f v);rw [E] at c ⊢;clear D o p q r E j C;have O:(f:Int)<32:=by omega
 have P:(0:Int)<=(f:Int):=by omega
 go_enter Tryz.func217,Tryz.ntmps217;by_cases k:v=1
 ·subst k;have i:d=H/\g=A:=by have:=c.out;simpa using this
  obtain⟨rfl,rfl⟩:=i;clear c;go_wp2;refine bodyPost_ret (results_cell_row rfl _ _ (w.heap.size+1) _ #[.int .u32 (d:Int),.int .u32 (g:Int)] _ _ rfl (Qi (new_at zy)) Tryz.underlying26 rfl kz) rfl ?_;exact⟨rfl,(((Qa.refl _ _).alloc _).alloc _).alloc _⟩
 by_cases l:v=-1
 ·subst l;have i:d=z/\g=I:=by have:=c.out;simpa using this
  obtain⟨rfl,rfl⟩:=i;clear c;go_wp2;refine bodyPost_ret (results_cell_row rfl _ _ (w.heap.size+1) _ #[.int .u32 (d:Int),.int .u32 (g:Int)] _ _ rfl (Qi (new_at zy)) Tryz.underlying26 rfl kz) rfl ?_;exact⟨rfl,(((Qa.refl _ _).alloc _).alloc _).alloc _⟩
 ·have i:d=z/\g=A:=by have:=c.out;rw [if_neg k,if_neg l] at this;exact⟨congrArg Prod.fst this,congrArg Prod.snd this⟩
  obtain⟨rfl,rfl⟩:=i;have L:(v == 1)=false:=by rw [beq_eq_false_iff_ne];exact k
  have M:(v == -1)=false:=by rw [beq_eq_false_iff_ne];exact l
  clear c;go_wp2;refine bodyPost_ret (results_cell_row rfl _ _ (w.heap.size+1) _ #[.int .u32 (d:Int),.int .u32 (g:Int)] _ _ rfl (Qi (new_at zy)) Tryz.underlying26 rfl kz) rfl ?_;exact⟨rfl,(((Qa.refl _ _).alloc _).alloc _).alloc _⟩
def Q1r(s c:Nat × Nat)(f:Nat):Prop:=∀ i,i<f->Xt c i≠0->Xt s i=Xt c i
theorem Qbn{s c:Nat × Nat}{f:Nat}(h:Q1r s c f)(h1:Xt c f≠0->Xt s f=Xt c f):Q1r s c (f+1):=fun i hi=>by
 by_cases e:i=f
 ·subst e;exact h1
 ·exact h i oz
theorem Qhz{s c:Nat × Nat}(I:Qm s)(E:Qm c)(w:World) :
  Calls Tryz.prog 201 #[sV s,sV c] w fun e w'=>e=.returned (.bool (Uv s c))/\Ext w w':=by
 have Z:=fun(l:World)=>Dd I l;have a0:=fun(l:World)=>Dd E l;have X:=fun(f:okS s=true) (b:Nat) (r:b<24) (l:World)=>Te I f r l;have Y:=fun(f:okS c=true) (b:Nat) (r:b<24) (l:World)=>Te E f r l;have y:okS s=false\/okS c=false->Uv s c=false:=fun f=>by unfold Uv;rcases f with f | f <;> rw [f] <;> simp
 have z:okS s=true->okS c=true->Q1r s c 24->Uv s c=true:=fun x h2 f=>by unfold Uv;rw [x,h2,(Q67 I E x h2).2 f];rfl
 have A:okS s=true->okS c=true->∀ b,b<24->Xt c b≠0->Xt s b≠Xt c b->Uv s c=false:=fun x h2 b r h3 h4=>by
  unfold Uv;cases f:Q2y s c with
  | false=>simp
  | true=>exact absurd ((Q67 I E x h2).1 f b r h3) h4
 obtain⟨q,o⟩:=zE (okS s);obtain⟨c6,p⟩:=zE (okS c);obtain⟨d4,k⟩:=zE (Uv s c);rw [o] at Z X y z A;rw [p] at a0 Y y z A;rw [k] at y z A ⊢;obtain⟨c1,v,b7,b8,a3,b9,c0⟩:=Zh7 Z a0 X Y y z A;have a2:Hid (Q1r s c 0):=Zh (fun i f=>by omega);clear Z a0 X Y y z A o p k;go_enter Tryz.func201,Tryz.ntmps201;go_wp2_with fail;have Q:Ext w ((w.alloc (.cells #[.int .u32 (s.1:Int),.int .u32 (s.2:Int)] 26)).alloc (.cells #[.int .u32 (c.1:Int),.int .u32 (c.2:Int)] 26)):=((Qa.refl _ w).alloc _).alloc _;have K:((w.alloc (.cells #[.int .u32 (s.1:Int),.int .u32 (s.2:Int)] 26)).alloc (.cells #[.int .u32 (c.1:Int),.int .u32 (c.2:Int)] 26)).heap[w.heap.size]?=some (.cells #[.int .u32 (s.1:Int),.int .u32 (s.2:Int)] 26 (0,0)):=Qi (new_at rfl);have N:((w.alloc (.cells #[.int .u32 (s.1:Int),.int .u32 (s.2:Int)] 26)).alloc (.cells #[.int .u32 (c.1:Int),.int .u32 (c.2:Int)] 26)).heap[w.heap.size+1]?=some (.cells #[.int .u32 (c.1:Int),.int .u32 (c.2:Int)] 26 (0,0)):=new_at zy;refine(c1.out _).mono ?_;generalize ((w.alloc (.cells #[.int .u32 (s.1:Int),.int .u32 (s.2:Int)] 26)).alloc (.cells #[.int .u32 (c.1:Int),.int .u32 (c.2:Int)] 26))=d2 at Q K N ⊢;generalize w.heap.size=a1 at K N ⊢;rintro e d3 ⟨rfl,d⟩;have R:=Q.trans d;have L:=d.keep K;have O:=d.keep N;have m:=zR L;have n:=zR O;clear d K N Q;cases q
 ·have k:=a3.out (.inl rfl);subst k;clear L O;go_wp2;go_ret;exact⟨rfl,R⟩
 go_wp2_with fail;refine(v.out _).mono ?_;rintro e c5 ⟨rfl,d⟩;have S:=R.trans d;have M:=d.keep L;have P:=d.keep O;clear m n;have m:=zR M;have n:=zR P;clear d L O R;cases c6
 ·have k:=a3.out (.inr rfl);subst k;clear M P;go_wp2;go_ret;exact⟨rfl,S⟩
 have c2:=Zh M;have c3:=Zh P;clear M P;go_wp2;clear m n
 refine wp_loop (fun a a6=>∃(b:Nat),b<=24/\a.defers=[]/\gS a [2,3,5]=(31,[.pointer (some ⟨a1,0,none⟩),.pointer (some ⟨a1+1,0,none⟩),.int .i64 b])/\Hid (Q1r s c b)/\Ext c5 a6)
  (fun a _=>24 - (intOf (a.tmps.getD 5 undef)).toNat) ?_ ?_
 ·exact⟨0,by omega,rfl,rfl,a2,Qa.refl _ _⟩
 clear a2;rintro⟨d0,_⟩ a6 ⟨b,r,c4,b2,a4,D⟩;subst c4;obtain⟨d1,rfl⟩:=Qo b2;clear b2;have o:=D.keep c2.out;have p:=D.keep c3.out;have m:=zR o;have n:=zR p;have a5:=Zh D;clear D;by_cases W:b<24
 ·have x:(b:Int)<24:=by omega
  obtain⟨C,b0⟩:=zE (Xt c b);obtain⟨a7,b1⟩:=zE (Xt s b);have U:=b7.out tz b W;have V:=b8.out tz b W;have H:=c0.out tz tz b W;have J:=Qbn a4.out;rw [b1] at U H J;rw [b0] at V H J;obtain⟨b5,b6,B,u⟩:=Zh4 U V H J;clear U V H J b0 b1;go_wp2_with fail;refine(b6.out _).mono ?_;rintro e l ⟨rfl,d⟩;have a8:=a5.out.trans d;have b3:=d.keep o;have b4:=d.keep p;clear m n o p d;have m:=zR b3;have n:=zR b4;clear b3 b4;have T:=Zh a8;clear a8;by_cases F:C=0
  ·subst F;have t:=Zh (u.out (fun f=>absurd rfl f));clear B u;go_wp2;first | exact⟨⟨b+1,by omega,tz,rfl,t,T.out⟩,nz⟩ | exact⟨⟨b+1,by omega,by simp,t,T.out⟩,nz⟩
  ·have c8:(C != 0)=true:=by rw [bne_iff_ne];exact F
   go_wp2_with fail;refine(b5.out _).mono ?_;rintro e c7 ⟨rfl,d⟩;have a9:=T.out.trans d;have v:=Zh a9;clear m n d a9;by_cases G:a7=C
   ·subst G;have t:=Zh (u.out (fun _=>rfl));clear B u;go_wp2;first | exact⟨⟨b+1,by omega,tz,rfl,t,v.out⟩,nz⟩ | exact⟨⟨b+1,by omega,by simp,t,v.out⟩,nz⟩
   ·have k:=B.out F G;subst k;have c9:(a7 != C)=true:=by rw [bne_iff_ne];exact G
    clear B u F G;go_wp2;go_ret;exact⟨rfl,S.trans v.out⟩
 ·obtain rfl:b=24:=by omega
  have k:=b9.out tz tz a4.out;subst k;clear o p m n;go_wp2;go_ret;exact⟨rfl,S.trans a5.out⟩
theorem Q3o{s f:Nat × Nat}{m:Nat}(c6:Qm s)(c4:Qm f)(j3:m<4294967296)(w:World) :
  Calls Tryz.prog 205 #[sV s,sV f,.int .u32 (m:Int)] w fun e w'=>e=.returned (.tuple #[sV (Vd s f m).1,.int .i64 (Vd s f m).2])/\Ext w w':=by
 have e2:=fun(V:World)=>Dd c6 V;have e3:=fun(V:World)=>Dd c4 V;have I:=fun(h:okS f=true) (c:Nat) (c5:c<24) (V:World)=>Te c4 h c5 V;have g5:=fun(c:Nat) (c5:c<24) (v:Int) (V:World)=>Q8s (Pd (s:=s) (f:=f) (m % 2 ^ c) c6 c4) c5 v V;have e1:=fun(h:okS f=true) (c:Nat)=>Q6n (s:=s) m c c6 c4 h;have c1:Jz s f (m % 2 ^ 0)=s:=by rw [Nat.pow_zero,Nat.mod_one];exact Q7y f c6
 have g0:m<16777216->m % 2 ^ 24=m:=Qdz;have f8:=fun(c:Nat)=>Eu m c j3;obtain⟨X,A⟩:=zE (okS s);obtain⟨g8,z⟩:=zE (okS f);rw [A] at e2;rw [z] at e3 I e1;have y:Hid (Vd s f m=if X=false\/g8=false then((0,0),14) else if 16777215<m then((0,0),2) else(Jz s f m,0)):=Zh (by unfold Vd;rw [A,z]);obtain⟨t,W,a9⟩:∃ t W,Vd s f m=(t,W):=⟨_,_,rfl⟩;rw [a9] at y ⊢;obtain⟨i4,i5,f5,i1,f6,f2,f4,g9⟩:=Zh8 e2 e3 I g5 e1 c1 g0 f8;clear e2 e3 I g5 e1 c1 g0 f8 A z a9;go_enter Tryz.func205,Tryz.ntmps205;go_wp2_with fail;obtain⟨d,R⟩:=zE w.heap.size;have e5:(((w.alloc (.cells #[.int .u32 (s.1:Int),.int .u32 (s.2:Int)] 26)).alloc (.cells #[.int .u32 (f.1:Int),.int .u32 (f.2:Int)] 26)).alloc (.cells #[.int .u32 0,.int .u32 0] 26)).heap[d]?=some (.cells #[.int .u32 (s.1:Int),.int .u32 (s.2:Int)] 26 (0,0)):=by subst R;exact Qi (Qi (new_at rfl))
 have e7:(((w.alloc (.cells #[.int .u32 (s.1:Int),.int .u32 (s.2:Int)] 26)).alloc (.cells #[.int .u32 (f.1:Int),.int .u32 (f.2:Int)] 26)).alloc (.cells #[.int .u32 0,.int .u32 0] 26)).heap[d+1]?=some (.cells #[.int .u32 (f.1:Int),.int .u32 (f.2:Int)] 26 (0,0)):=by subst R;exact Qi (new_at zy)
 have e9:(((w.alloc (.cells #[.int .u32 (s.1:Int),.int .u32 (s.2:Int)] 26)).alloc (.cells #[.int .u32 (f.1:Int),.int .u32 (f.2:Int)] 26)).alloc (.cells #[.int .u32 0,.int .u32 0] 26)).heap[d+2]?=some (.cells #[.int .u32 0,.int .u32 0] 26 (0,0)):=by subst R;exact new_at zy
 have d2:Ext w (((w.alloc (.cells #[.int .u32 (s.1:Int),.int .u32 (s.2:Int)] 26)).alloc (.cells #[.int .u32 (f.1:Int),.int .u32 (f.2:Int)] 26)).alloc (.cells #[.int .u32 0,.int .u32 0] 26)):=(((Qa.refl _ w).alloc _).alloc _).alloc _;refine(i4.out _).mono ?_;generalize (((w.alloc (.cells #[.int .u32 (s.1:Int),.int .u32 (s.2:Int)] 26)).alloc (.cells #[.int .u32 (f.1:Int),.int .u32 (f.2:Int)] 26)).alloc (.cells #[.int .u32 0,.int .u32 0] 26))=j8 at e5 e7 e9 d2 ⊢;rw [R];have N:=Zh R;clear R;rintro e j4 ⟨rfl,i⟩;have d3:=d2.trans i;have c9:=i.keep e5;have d0:=i.keep e7;have d1:=i.keep e9;have d8:=zR c9;have d9:=zR d0;have d5:=Zh d1;clear i e5 e7 e9 d2;cases X
 ·have L:t=(0,0)/\W=14:=by have:=y.out;rw [if_pos (.inl rfl)] at this;exact⟨congrArg Prod.fst this,congrArg Prod.snd this⟩
  obtain⟨rfl,rfl⟩:=L;clear y c9 d0 d1
  go_wp2_with (refine wpList_store_row rfl 26 (.tmp 6) (.tmp 18) rfl (d+2) #[.int .u32 0,.int .u32 0] rfl rfl _ _ d5.out kz rfl kz ?_)
  have q:=Qa.setRow j4 (d+2) #[.int .u32 0,.int .u32 0];refine bodyPost_ret (Y9 (p:=6) (u:=7) rfl rfl (setRow_heap _ _ _ _ _ _ d5.out) kz) rfl ?_;exact⟨rfl,d3.after q (fun b Q e=>by have:=N.out;omega)⟩
 go_wp2_with fail;refine(i5.out _).mono ?_;rintro e x ⟨rfl,i⟩;have b7:=d3.trans i;have b2:=i.keep c9;have b4:=i.keep d0;have Y:=i.keep d1;clear d8 d9;have d8:=zR b2;have d9:=zR b4;have a5:=Zh Y;clear i c9 d0 d1 d3;cases g8
 ·have L:t=(0,0)/\W=14:=by have:=y.out;rw [if_pos (.inr rfl)] at this;exact⟨congrArg Prod.fst this,congrArg Prod.snd this⟩
  obtain⟨rfl,rfl⟩:=L;clear y b2 b4 Y
  go_wp2_with (refine wpList_store_row rfl 26 (.tmp 6) (.tmp 18) rfl (d+2) #[.int .u32 0,.int .u32 0] rfl rfl _ _ a5.out kz rfl kz ?_)
  have q:=Qa.setRow x (d+2) #[.int .u32 0,.int .u32 0];refine bodyPost_ret (Y9 (p:=6) (u:=7) rfl rfl (setRow_heap _ _ _ _ _ _ a5.out) kz) rfl ?_;exact⟨rfl,b7.after q (fun b Q e=>by have:=N.out;omega)⟩
 by_cases g3:16777215<m
 ·have i8:(16777215:Int)<(m:Int):=by omega
  have L:t=(0,0)/\W=2:=by have:=y.out;rw [if_neg zd,if_pos g3] at this;exact⟨congrArg Prod.fst this,congrArg Prod.snd this⟩
  obtain⟨rfl,rfl⟩:=L;clear y b2 b4 Y
  go_wp2_with (refine wpList_store_row rfl 26 (.tmp 6) (.tmp 21) rfl (d+2) #[.int .u32 0,.int .u32 0] rfl rfl _ _ a5.out kz rfl kz ?_)
  have q:=Qa.setRow x (d+2) #[.int .u32 0,.int .u32 0];refine bodyPost_ret (Y9 (p:=6) (u:=7) rfl rfl (setRow_heap _ _ _ _ _ _ a5.out) kz) rfl ?_;exact⟨rfl,b7.after q (fun b Q e=>by have:=N.out;omega)⟩
 have i8:¬ (16777215:Int)<(m:Int):=by omega
 have L:t=Jz s f m/\W=0:=by have:=y.out;rw [if_neg zd,if_neg g3] at this;exact⟨congrArg Prod.fst this,congrArg Prod.snd this⟩
 obtain⟨e0,rfl⟩:=L;rw [<-f4.out oz] at e0;have i2:=Zh e0;clear y e0 f4;go_wp2;have a7:Ext x (x.alloc (.cells #[.int .u32 (s.1:Int),.int .u32 (s.2:Int)] 26)):=(Qa.refl _ x).alloc _;have c8:(x.alloc (.cells #[.int .u32 (s.1:Int),.int .u32 (s.2:Int)] 26)).heap[x.heap.size]?=some (.cells #[.int .u32 (s.1:Int),.int .u32 (s.2:Int)] 26 (0,0)):=new_at rfl;have j1:d+2<x.heap.size:=(Array.getElem?_eq_some_iff.1 Y).1;have e6:=a7.keep b2;have e8:=a7.keep b4;have f0:=a7.keep Y;have d4:Ext w _:=b7.trans a7;clear d8 d9 b2 b4 Y b7 a7 d5 a5;generalize (x.alloc (.cells #[.int .u32 (s.1:Int),.int .u32 (s.2:Int)] 26))=j9 at c8 e6 e8 f0 d4 ⊢;generalize x.heap.size=r at c8 j1 ⊢;have i0:=Zh (f5.out tz);have i3:=Zh (f6.out tz);clear f5 f6
 refine wp_loop (fun a l=>∃(c:Nat) (F:Nat × Nat),c<=24/\a.defers=[]/\gS a [2,3,4,6,8,9]=(39,[.int .u32 (m:Int),.pointer (some ⟨d,0,none⟩),.pointer (some ⟨d+1,0,none⟩),.pointer (some ⟨d+2,0,none⟩),.pointer (some ⟨r,0,none⟩),.int .i64 c])/\Hid (F=Jz s f (m % 2 ^ c)) /\
   l.heap[d]?=some (.cells #[.int .u32 (s.1:Int),.int .u32 (s.2:Int)] 26 (0,0))/\l.heap[d+1]?=some (.cells #[.int .u32 (f.1:Int),.int .u32 (f.2:Int)] 26 (0,0))/\l.heap[d+2]?=some (.cells #[.int .u32 0,.int .u32 0] 26 (0,0))/\l.heap[r]?=some (.cells #[.int .u32 (F.1:Int),.int .u32 (F.2:Int)] 26 (0,0))/\Ext w l)
  (fun a _=>24 - (intOf (a.tmps.getD 9 undef)).toNat) ?_ ?_
 ·exact⟨0,s,by omega,rfl,rfl,Zh f2.out.symm,e6,e8,f0,c8,d4⟩
 clear e6 e8 f0 c8 d4 f2;rintro⟨j7,_⟩ l ⟨c,F,c5,j2,g7,f3,A,z,c7,T,c2⟩;subst j2;obtain⟨u,rfl⟩:=Qo g7;clear g7;obtain⟨b8,b9,P,O,a0⟩:=Zh5 A z c7 T c2;by_cases g2:c<24
 ·have Q:(c:Int)<24:=by omega
  have j5:(c:Int)<32:=by omega
  have j6:(0:Int)<=(c:Int):=by omega
  have i6:=g9.out c;have a8:=i1.out c g2 (Xt f c);have I:=i0.out c g2;have U:=i3.out c;rw [<-f3.out] at a8 U;obtain⟨i9,g1⟩:=zE (Xt f c);obtain⟨k,g4⟩:=zE (Li F c i9);obtain⟨e4,g6⟩:=zE (m.testBit c);rw [g1] at a8 I U;rw [g4] at a8 U;rw [g6] at i6 U;obtain⟨f1,f7,c0⟩:=Zh3 I a8 U;clear a8 I U g1 g4 g6;cases e4
  ·have J:=c0.out;rw [if_neg zd] at J;have C:=Zh J.symm;clear J c0 A z c7 T c2;go_wp2;first | exact⟨⟨c+1,F,by omega,tz,rfl,C,b8.out,b9.out,P.out,O.out,a0.out⟩,nz⟩ | exact⟨⟨c+1,F,by omega,by simp,C,b8.out,b9.out,P.out,O.out,a0.out⟩,nz⟩
  ·have J:=c0.out;rw [if_pos rfl] at J;have C:=Zh J.symm;have f9:∀(B:World),Qa (·=r) l B->B.cell? ⟨d+1,0,none⟩=some (.int .u32 (f.1:Int))/\B.cell? ⟨d+1,1,none⟩=some (.int .u32 (f.2:Int)):=by
    intro B j0;have c1:=j0.heap z oz;simp [World.cell?,c1]
   have D:=Zh f9;have i7:=zR T;clear J c0 A z c7 T c2 f9;go_wp2;refine wp_region_held_drew (S:=fun B=>B.cell? ⟨d+1,0,none⟩=some (.int .u32 (f.1:Int))/\B.cell? ⟨d+1,1,none⟩=some (.int .u32 (f.2:Int))) kz (D.out _ (Qa.drew (Qa.refl _ l))) ?_;intro c3;refine tH 1 33 c3 ?_;refine tH 2 34 c3 ?_;refine tH 3 35 c3 ?_;refine rH [0,4] ?_;refine AllReadyH.cons rfl (fun K hK=>?_) (AllReadyH.cons rfl (fun K hK=>?_) (AllReadyH.nil))
   ·refine iw rfl ?_;go_simp;refine hK.out _ _ (c3) (fun _=>?_);clear hK K;try simp only [Act.put,pq]
    refine rH [4] ?_;refine AllReadyH.cons rfl (fun K hK=>?_) (AllReadyH.nil);refine iw rfl ?_;go_simp;refine(f1.out _).mono ?_;rintro e d6 ⟨rfl,i⟩;have G:Ext l d6:=Qa.trans (Qa.drew (Qa.refl _ l)) i;have b0:=G.keep O.out;have d7:=zR b0;refine hK.out _ _ (D.out _ (Ext.of G)) (fun hS1=>?_);clear hK K i;try simp only [Act.put,pq]
    clear d7;refine rH [5] ?_;refine AllReadyH.cons rfl (fun K hK=>?_) (AllReadyH.nil);refine iw rfl ?_;go_simp;refine(f7.out _).mono ?_;rintro e E ⟨rfl,i⟩;have H:Ext l E:=G.trans i;have M:=H.keep O.out;refine hK.out _ _ (D.out _ (Ext.of H)) (fun hS2=>?_);clear hK K i b0;try simp only [Act.put,pq]
    refine rH [6] ?_;refine AllReadyH.cons rfl (fun K hK=>?_) (AllReadyH.nil);refine iw rfl ?_;refine wp_store_row 26 (.tmp 8) (.tmp 37) rfl r #[.int .u32 (k.1:Int),.int .u32 (k.2:Int)] rfl rfl _ _ M kz rfl kz ?_;have q:=Qa.setRow E r #[.int .u32 (k.1:Int),.int .u32 (k.2:Int)];have b1:(E.setRow r #[.int .u32 (k.1:Int),.int .u32 (k.2:Int)]).heap[r]?=some (.cells #[.int .u32 (k.1:Int),.int .u32 (k.2:Int)] 26 (0,0)):=setRow_heap _ _ _ _ _ _ M;have o:=(Ext.of H).trans q;have b3:=o.heap b8.out oz;have b5:=o.heap b9.out oz;have b6:=o.heap P.out oz;have Z:Ext w _:=a0.out.after o (fun b Q e=>by have:=N.out;omega);obtain⟨a3,a4,a6,a2,a1⟩:=Zh5 b3 b5 b6 b1 Z;refine hK.out _ _ (D.out _ o) (fun hS3=>?_);clear hK K M b3 b5 b6 b1 Z o q hS1 hS2 hS3;change wpAnyH _ _ _ _ _ _ _ (Act.put _ none _) _;simp only [Act.put];refine wpAnyH_done kz ?_ _;go_wp2;first | exact⟨⟨c+1,k,by omega,tz,rfl,C,a3.out,a4.out,a6.out,a2.out,a1.out⟩,nz⟩ | exact⟨⟨c+1,k,by omega,by simp,C,a3.out,a4.out,a6.out,a2.out,a1.out⟩,nz⟩
   ·refine iw rfl ?_;go_simp;refine(f1.out _).mono ?_;rintro e d6 ⟨rfl,i⟩;have G:Ext l d6:=Qa.trans (Qa.drew (Qa.refl _ l)) i;have b0:=G.keep O.out;have d7:=zR b0;refine hK.out _ _ (D.out _ (Ext.of G)) (fun hS1=>?_);clear hK K i;try simp only [Act.put,pq]
    refine rH [0] ?_;refine AllReadyH.cons rfl (fun K hK=>?_) (AllReadyH.nil);refine iw rfl ?_;go_simp;refine hK.out _ _ (hS1) (fun _=>?_);clear hK K;try simp only [Act.put,pq]
    clear d7;refine rH [5] ?_;refine AllReadyH.cons rfl (fun K hK=>?_) (AllReadyH.nil);refine iw rfl ?_;go_simp;refine(f7.out _).mono ?_;rintro e E ⟨rfl,i⟩;have H:Ext l E:=G.trans i;have M:=H.keep O.out;refine hK.out _ _ (D.out _ (Ext.of H)) (fun hS2=>?_);clear hK K i b0;try simp only [Act.put,pq]
    refine rH [6] ?_;refine AllReadyH.cons rfl (fun K hK=>?_) (AllReadyH.nil);refine iw rfl ?_;refine wp_store_row 26 (.tmp 8) (.tmp 37) rfl r #[.int .u32 (k.1:Int),.int .u32 (k.2:Int)] rfl rfl _ _ M kz rfl kz ?_;have q:=Qa.setRow E r #[.int .u32 (k.1:Int),.int .u32 (k.2:Int)];have b1:(E.setRow r #[.int .u32 (k.1:Int),.int .u32 (k.2:Int)]).heap[r]?=some (.cells #[.int .u32 (k.1:Int),.int .u32 (k.2:Int)] 26 (0,0)):=setRow_heap _ _ _ _ _ _ M;have o:=(Ext.of H).trans q;have b3:=o.heap b8.out oz;have b5:=o.heap b9.out oz;have b6:=o.heap P.out oz;have Z:Ext w _:=a0.out.after o (fun b Q e=>by have:=N.out;omega);obtain⟨a3,a4,a6,a2,a1⟩:=Zh5 b3 b5 b6 b1 Z;refine hK.out _ _ (D.out _ o) (fun hS3=>?_);clear hK K M b3 b5 b6 b1 Z o q hS1 hS2 hS3;change wpAnyH _ _ _ _ _ _ _ (Act.put _ none _) _;simp only [Act.put];refine wpAnyH_done kz ?_ _;go_wp2;first | exact⟨⟨c+1,k,by omega,tz,rfl,C,a3.out,a4.out,a6.out,a2.out,a1.out⟩,nz⟩ | exact⟨⟨c+1,k,by omega,by simp,C,a3.out,a4.out,a6.out,a2.out,a1.out⟩,nz⟩
 ·obtain rfl:c=24:=by omega
  have a9:=i2.out;rw [<-f3.out] at a9;subst a9;have i7:=zR T;clear A z c7 T c2
  go_wp2_with (refine wpList_store_row rfl 26 (.tmp 6) (.tmp 38) rfl (d+2) #[.int .u32 (t.1:Int),.int .u32 (t.2:Int)] rfl rfl _ _ P.out kz rfl kz ?_)
  have q:=Qa.setRow l (d+2) #[.int .u32 (t.1:Int),.int .u32 (t.2:Int)];refine bodyPost_ret (Y9 (p:=6) (u:=7) rfl rfl (setRow_heap _ _ _ _ _ _ P.out) kz) rfl ?_;exact⟨rfl,a0.out.after q (fun b Q e=>by have:=N.out;omega)⟩
theorem Qlw{f:Nat × Nat}(_hf:Qm f)(h:okS f=true):f.1 ||| f.2<2 ^ 24:=by
 unfold okS Zo at h;rw [Bool.and_eq_true,beq_iff_eq,beq_iff_eq] at h;have:f.1 ||| f.2<16777216:=by omega
 simpa using this
theorem Qho{s f:Nat × Nat}(m k:Nat)(e:Qm s)(c:Qm f)(d:okS f=true)(_h:m &&& (f.1 ||| f.2)=0) :
  Jz s f ((m ||| (f.1 ||| f.2)) % 2 ^ (k+1))=if m.testBit k=true\/Xt f k≠0 then Li (Jz s f ((m ||| (f.1 ||| f.2)) % 2 ^ k)) k (Xt f k) else Jz s f ((m ||| (f.1 ||| f.2)) % 2 ^ k):=by
 rw [Q6n _ _ e c d];have b:(m ||| (f.1 ||| f.2)).testBit k=true↔m.testBit k=true\/Xt f k≠0:=by
  rw [Nat.testBit_or,Nat.testBit_or,Bool.or_eq_true,Bool.or_eq_true];unfold Xt;cases f.1.testBit k <;> cases f.2.testBit k <;> simp
 by_cases a:(m ||| (f.1 ||| f.2)).testBit k=true
 ·rw [if_pos a,if_pos (b.1 a)]
 ·rw [if_neg a,if_neg fun h=>a (b.2 h)]
theorem Q0m{s f:Nat × Nat}{m:Nat}(d8:Qm s)(M:Qm f)(j5:m<4294967296)(w:World) :
  Calls Tryz.prog 204 #[sV s,.int .u32 (m:Int),sV f] w fun e w'=>e=.returned (.tuple #[sV (Xx s m f).1,.int .i64 (Xx s m f).2])/\Ext w w':=by
 have g0:=fun(V:World)=>Dd d8 V;have g1:=fun(V:World)=>Dd M V;have a6:=fun(I:okS f=true) (c:Nat) (b4:c<24) (V:World)=>Te M I b4 V;have j2:f.1 ||| f.2<4294967296:=Nat.or_lt_two_pow (n:=32) M.1 M.2;have k0:=u32_and_nat m (f.1 ||| f.2) j5 j2;have l8:=u32_or_nat f.1 f.2 M.1 M.2;have j7:=fun(c:Nat) (b4:c<24) (v:Int) (V:World)=>Q8s (Pd (s:=s) (f:=f) ((m ||| (f.1 ||| f.2)) % 2 ^ c) d8 M) b4 v V;have f9:=fun(I:okS f=true) (c:Nat)=>Qho (s:=s) m c d8 M I;have d2:Jz s f ((m ||| (f.1 ||| f.2)) % 2 ^ 0)=s:=by rw [Nat.pow_zero,Nat.mod_one];exact Q7y f d8
 have f6:okS f=true->m<16777216->(m ||| (f.1 ||| f.2)) % 2 ^ 24=(m ||| (f.1 ||| f.2)):=fun J i6=>Qdz (Nat.or_lt_two_pow (n:=24) i6 (Qlw M J));have i8:=fun(c:Nat)=>Eu m c j5;obtain⟨Z,X⟩:=zE (okS s);obtain⟨k1,O⟩:=zE (okS f);rw [X] at g0;rw [O] at g1 a6 f9 f6;have x:Hid (Xx s m f=if Z=false\/k1=false then((0,0),14) else if 16777215<m\/m &&& (f.1 ||| f.2)≠0 then((0,0),2) else(Jz s f (m ||| (f.1 ||| f.2)),0)):=Zh (by unfold Xx;rw [X,O]);obtain⟨F,a8,c3⟩:∃ F a8,Xx s m f=(F,a8):=⟨_,_,rfl⟩;rw [c3] at x ⊢;obtain⟨k8,k9,i0,i2,d0,e7,e8,k2⟩:=Zh8 g0 g1 a6 j7 f9 d2 f6 i8
 have j1:m &&& (f.1 ||| f.2)=0->∀ c,m.testBit c=true->Xt f c=0:=fun I c b4=>by
  have:=congrArg (fun Z=>Z.testBit c) I;simp only [Nat.testBit_and,b4,Bool.true_and,Nat.testBit_or,Nat.zero_testBit,Bool.or_eq_false_iff] at this;unfold Xt;rw [this.1,this.2];rfl
 have e9:=Zh j1;clear j1;obtain⟨d1,i7⟩:=zE (m ||| (f.1 ||| f.2));obtain⟨I,j3⟩:=zE (f.1 ||| f.2);obtain⟨Y,c2⟩:=zE (m &&& (f.1 ||| f.2));rw [c2] at x k0 d0 e9;rw [i7] at x i2 d0 e7 e8;rw [j3] at k0 l8;clear g0 g1 a6 j7 f9 d2 f6 i8 X O c3 i7 j3 c2 j2;go_enter Tryz.func204,Tryz.ntmps204;go_wp2_with fail;obtain⟨k,b2⟩:=zE w.heap.size;have g3:(((w.alloc (.cells #[.int .u32 (s.1:Int),.int .u32 (s.2:Int)] 26)).alloc (.cells #[.int .u32 (f.1:Int),.int .u32 (f.2:Int)] 26)).alloc (.cells #[.int .u32 0,.int .u32 0] 26)).heap[k]?=some (.cells #[.int .u32 (s.1:Int),.int .u32 (s.2:Int)] 26 (0,0)):=by subst b2;exact Qi (Qi (new_at rfl))
 have g5:(((w.alloc (.cells #[.int .u32 (s.1:Int),.int .u32 (s.2:Int)] 26)).alloc (.cells #[.int .u32 (f.1:Int),.int .u32 (f.2:Int)] 26)).alloc (.cells #[.int .u32 0,.int .u32 0] 26)).heap[k+1]?=some (.cells #[.int .u32 (f.1:Int),.int .u32 (f.2:Int)] 26 (0,0)):=by subst b2;exact Qi (new_at zy)
 have g7:(((w.alloc (.cells #[.int .u32 (s.1:Int),.int .u32 (s.2:Int)] 26)).alloc (.cells #[.int .u32 (f.1:Int),.int .u32 (f.2:Int)] 26)).alloc (.cells #[.int .u32 0,.int .u32 0] 26)).heap[k+2]?=some (.cells #[.int .u32 0,.int .u32 0] 26 (0,0)):=by subst b2;exact new_at zy
 have e4:Ext w (((w.alloc (.cells #[.int .u32 (s.1:Int),.int .u32 (s.2:Int)] 26)).alloc (.cells #[.int .u32 (f.1:Int),.int .u32 (f.2:Int)] 26)).alloc (.cells #[.int .u32 0,.int .u32 0] 26)):=(((Qa.refl _ w).alloc _).alloc _).alloc _;refine(k8.out _).mono ?_;generalize (((w.alloc (.cells #[.int .u32 (s.1:Int),.int .u32 (s.2:Int)] 26)).alloc (.cells #[.int .u32 (f.1:Int),.int .u32 (f.2:Int)] 26)).alloc (.cells #[.int .u32 0,.int .u32 0] 26))=m6 at g3 g5 g7 e4 ⊢;rw [b2];have P:=Zh b2;clear b2;rintro e l9 ⟨rfl,i⟩;have e5:=e4.trans i;have e1:=i.keep g3;have e2:=i.keep g5;have e3:=i.keep g7;have f5:=zR e1;have a3:=zR e2;have f0:=Zh e3;clear i g3 g5 g7 e4;cases Z
 ·have N:F=(0,0)/\a8=14:=by have:=x.out;rw [if_pos (.inl rfl)] at this;exact⟨congrArg Prod.fst this,congrArg Prod.snd this⟩
  obtain⟨rfl,rfl⟩:=N;clear x e1 e2 e3
  go_wp2_with (refine wpList_store_row rfl 26 (.tmp 6) (.tmp 18) rfl (k+2) #[.int .u32 0,.int .u32 0] rfl rfl _ _ f0.out kz rfl kz ?_)
  have r:=Qa.setRow l9 (k+2) #[.int .u32 0,.int .u32 0];refine bodyPost_ret (Y9 (p:=6) (u:=7) rfl rfl (setRow_heap _ _ _ _ _ _ f0.out) kz) rfl ?_;exact⟨rfl,e5.after r (fun b J e=>by have:=P.out;omega)⟩
 go_wp2_with fail;refine(k9.out _).mono ?_;rintro e G ⟨rfl,i⟩;have b9:=e5.trans i;have b7:=i.keep e1;have b8:=i.keep e2;have a9:=i.keep e3;clear f5 a3;have f5:=zR b7;have a3:=zR b8;have a2:=Zh a9;clear i e1 e2 e3 e5;cases k1
 ·have N:F=(0,0)/\a8=14:=by have:=x.out;rw [if_pos (.inr rfl)] at this;exact⟨congrArg Prod.fst this,congrArg Prod.snd this⟩
  obtain⟨rfl,rfl⟩:=N;clear x b7 b8 a9
  go_wp2_with (refine wpList_store_row rfl 26 (.tmp 6) (.tmp 18) rfl (k+2) #[.int .u32 0,.int .u32 0] rfl rfl _ _ a2.out kz rfl kz ?_)
  have r:=Qa.setRow G (k+2) #[.int .u32 0,.int .u32 0];refine bodyPost_ret (Y9 (p:=6) (u:=7) rfl rfl (setRow_heap _ _ _ _ _ _ a2.out) kz) rfl ?_;exact⟨rfl,b9.after r (fun b J e=>by have:=P.out;omega)⟩
 by_cases l7:16777215<m
 ·have l3:(16777215:Int)<(m:Int):=by omega
  have N:F=(0,0)/\a8=2:=by have:=x.out;rw [if_neg zd,if_pos (.inl l7)] at this;exact⟨congrArg Prod.fst this,congrArg Prod.snd this⟩
  obtain⟨rfl,rfl⟩:=N;clear x b7 b8 a9
  go_wp2_with (refine wpList_store_row rfl 26 (.tmp 6) (.tmp 31) rfl (k+2) #[.int .u32 0,.int .u32 0] rfl rfl _ _ a2.out kz rfl kz ?_)
  have r:=Qa.setRow G (k+2) #[.int .u32 0,.int .u32 0];refine bodyPost_ret (Y9 (p:=6) (u:=7) rfl rfl (setRow_heap _ _ _ _ _ _ a2.out) kz) rfl ?_;exact⟨rfl,b9.after r (fun b J e=>by have:=P.out;omega)⟩
 have l3:¬ (16777215:Int)<(m:Int):=by omega
 by_cases j8:Y=0;case neg=>
  have m2:((Y:Int) != 0)=true:=by rw [bne_iff_ne];omega
  have N:F=(0,0)/\a8=2:=by have:=x.out;rw [if_neg zd,if_pos (.inr j8)] at this;exact⟨congrArg Prod.fst this,congrArg Prod.snd this⟩
  obtain⟨rfl,rfl⟩:=N;clear x b7 b8 a9
  go_wp2_with (refine wpList_store_row rfl 26 (.tmp 6) (.tmp 31) rfl (k+2) #[.int .u32 0,.int .u32 0] rfl rfl _ _ a2.out kz rfl kz ?_)
  have r:=Qa.setRow G (k+2) #[.int .u32 0,.int .u32 0];refine bodyPost_ret (Y9 (p:=6) (u:=7) rfl rfl (setRow_heap _ _ _ _ _ _ a2.out) kz) rfl ?_;exact⟨rfl,b9.after r (fun b J e=>by have:=P.out;omega)⟩
 subst j8;have N:F=Jz s f d1/\a8=0:=by have:=x.out;rw [if_neg zd,if_neg oz] at this;exact⟨congrArg Prod.fst this,congrArg Prod.snd this⟩
 obtain⟨f8,rfl⟩:=N;rw [<-e8.out tz oz] at f8;have k6:=Zh f8;clear x f8 e8;go_wp2;have c1:Ext G (G.alloc (.cells #[.int .u32 (s.1:Int),.int .u32 (s.2:Int)] 26)):=(Qa.refl _ G).alloc _;have e0:(G.alloc (.cells #[.int .u32 (s.1:Int),.int .u32 (s.2:Int)] 26)).heap[G.heap.size]?=some (.cells #[.int .u32 (s.1:Int),.int .u32 (s.2:Int)] 26 (0,0)):=new_at rfl;have l5:k+2<G.heap.size:=(Array.getElem?_eq_some_iff.1 a9).1;have g4:=c1.keep b7;have g6:=c1.keep b8;have g8:=c1.keep a9;have e6:Ext w _:=b9.trans c1;clear f5 a3 b7 b8 a9 b9 c1 f0 a2;generalize (G.alloc (.cells #[.int .u32 (s.1:Int),.int .u32 (s.2:Int)] 26))=m7 at e0 g4 g6 g8 e6 ⊢;generalize G.heap.size=o at e0 l5 ⊢;obtain⟨k3,k7,k4⟩:=Zh3 (i0.out tz) (fun c=>d0.out tz c tz) (e9.out tz);clear i0 d0 e9
 refine wp_loop (fun a q=>∃(c:Nat) (W:Nat × Nat),c<=24/\a.defers=[]/\gS a [1,3,5,6,8,9]=(56,[.int .u32 (m:Int),.pointer (some ⟨k,0,none⟩),.pointer (some ⟨k+1,0,none⟩),.pointer (some ⟨k+2,0,none⟩),.pointer (some ⟨o,0,none⟩),.int .i64 c])/\Hid (W=Jz s f (d1 % 2 ^ c)) /\
   q.heap[k]?=some (.cells #[.int .u32 (s.1:Int),.int .u32 (s.2:Int)] 26 (0,0))/\q.heap[k+1]?=some (.cells #[.int .u32 (f.1:Int),.int .u32 (f.2:Int)] 26 (0,0))/\q.heap[k+2]?=some (.cells #[.int .u32 0,.int .u32 0] 26 (0,0))/\q.heap[o]?=some (.cells #[.int .u32 (W.1:Int),.int .u32 (W.2:Int)] 26 (0,0))/\Ext w q)
  (fun a _=>24 - (intOf (a.tmps.getD 9 undef)).toNat) ?_ ?_
 ·exact⟨0,s,by omega,rfl,rfl,Zh e7.out.symm,g4,g6,g8,e0,e6⟩
 clear g4 g6 g8 e0 e6 e7;rintro⟨m5,_⟩ q ⟨c,W,b4,l6,j9,g9,X,O,d9,b5,d3⟩;subst l6;obtain⟨u,rfl⟩:=Qo j9;clear j9;obtain⟨C,A,y,t,z⟩:=Zh5 X O d9 b5 d3;by_cases j4:c<24
 ·have J:(c:Int)<24:=by omega
  have i6:(c:Int)<32:=by omega
  have m3:(0:Int)<=(c:Int):=by omega
  have l2:=k2.out c;have d7:=i2.out c j4;have a6:=k3.out c j4;have b6:=k7.out c;rw [<-g9.out] at d7 b6;obtain⟨b1,j0⟩:=zE (Xt f c);obtain⟨d,d6⟩:=zE (Li W c b1);obtain⟨Y,c2⟩:=zE (m.testBit c);have a7:m.testBit c=true->Xt f c=0:=k4.out c;rw [j0] at a6 b6 a7;rw [d6] at b6;rw [c2] at l2 b6 a7;have i1:=Zh a7;clear a7;have f7:=d7 b1;rw [d6] at f7;have j6:b1=0->Li W c 0=d:=fun I=>by rw [<-d6,I]
  obtain⟨c9,f1,i4,b0,i3⟩:=Zh5 a6 f7 (d7 0) b6 j6;clear d7 f7 a6 b6 j0 d6 c2 j6;cases Y
  ·have a3:=zR O;go_wp2_with fail;refine(c9.out _).mono ?_;rintro e l1 ⟨rfl,b3⟩;clear a3;obtain⟨C,A,y,t,z⟩:=Zh5 (b3.keep C.out) (b3.keep A.out) (b3.keep y.out) (b3.keep t.out) (z.out.trans b3);clear X O d9 b5 d3 b3;by_cases d5:b1=0
   ·have D:=b0.out;rw [if_neg (by simp [d5])] at D;have H:=Zh D.symm;subst d5;clear D b0;go_wp2;first | exact⟨⟨c+1,W,by omega,tz,rfl,H,C.out,A.out,y.out,t.out,z.out⟩,nz⟩ | exact⟨⟨c+1,W,by omega,by simp,H,C.out,A.out,y.out,t.out,z.out⟩,nz⟩
   ·have D:=b0.out;rw [if_pos (.inr d5)] at D;have H:=Zh D.symm;have m4:(b1 != 0)=true:=by rw [bne_iff_ne];exact d5
    generalize l1=q at C A y t z ⊢;have i9:∀(a0:World),Qa (·=o) q a0->a0.cell? ⟨k+1,0,none⟩=some (.int .u32 (f.1:Int))/\a0.cell? ⟨k+1,1,none⟩=some (.int .u32 (f.2:Int)):=by
     intro a0 l4;have d2:=l4.heap A.out oz;simp [World.cell?,d2]
    have a1:=Zh i9;have f3:=zR t.out;clear D b0 i9;go_wp2;refine wp_region_held_drew (S:=fun a0=>a0.cell? ⟨k+1,0,none⟩=some (.int .u32 (f.1:Int))/\a0.cell? ⟨k+1,1,none⟩=some (.int .u32 (f.2:Int))) kz (a1.out _ (Qa.drew (Qa.refl _ q))) ?_;intro d4;refine tH 1 50 d4 ?_;refine tH 2 51 d4 ?_;refine tH 3 52 d4 ?_;refine rH [0,4] ?_;refine AllReadyH.cons rfl (fun K hK=>?_) (AllReadyH.cons rfl (fun K hK=>?_) (AllReadyH.nil))
    ·refine iw rfl ?_;go_simp;refine hK.out _ _ (d4) (fun _=>?_);clear hK K;try simp only [Act.put,pq]
     refine rH [4] ?_;refine AllReadyH.cons rfl (fun K hK=>?_) (AllReadyH.nil);refine iw rfl ?_;go_simp;refine(c9.out _).mono ?_;rintro e f2 ⟨rfl,i⟩;have a4:Ext q f2:=Qa.trans (Qa.drew (Qa.refl _ q)) i;have c4:=a4.keep t.out;have f4:=zR c4;refine hK.out _ _ (a1.out _ (Ext.of a4)) (fun hS1=>?_);clear hK K i;try simp only [Act.put,pq]
     clear f4;refine rH [5] ?_;refine AllReadyH.cons rfl (fun K hK=>?_) (AllReadyH.nil);refine iw rfl ?_;go_simp;refine(f1.out _).mono ?_;rintro e B ⟨rfl,i⟩;have a5:Ext q B:=a4.trans i;have E:=a5.keep t.out;refine hK.out _ _ (a1.out _ (Ext.of a5)) (fun hS2=>?_);clear hK K i c4;try simp only [Act.put,pq]
     refine rH [6] ?_;refine AllReadyH.cons rfl (fun K hK=>?_) (AllReadyH.nil);refine iw rfl ?_;refine wp_store_row 26 (.tmp 8) (.tmp 54) rfl o #[.int .u32 (d.1:Int),.int .u32 (d.2:Int)] rfl rfl _ _ E kz rfl kz ?_;have r:=Qa.setRow B o #[.int .u32 (d.1:Int),.int .u32 (d.2:Int)];have c5:(B.setRow o #[.int .u32 (d.1:Int),.int .u32 (d.2:Int)]).heap[o]?=some (.cells #[.int .u32 (d.1:Int),.int .u32 (d.2:Int)] 26 (0,0)):=setRow_heap _ _ _ _ _ _ E;have l:=(Ext.of a5).trans r;have c6:=l.heap C.out oz;have c7:=l.heap A.out oz;have c8:=l.heap y.out oz;have c0:Ext w _:=z.out.after l (fun b J e=>by have:=P.out;omega);obtain⟨T,L,U,R,Q⟩:=Zh5 c6 c7 c8 c5 c0;refine hK.out _ _ (a1.out _ l) (fun hS3=>?_);clear hK K E c6 c7 c8 c5 c0 l r hS1 hS2 hS3;change wpAnyH _ _ _ _ _ _ _ (Act.put _ none _) _;simp only [Act.put];refine wpAnyH_done kz ?_ _;go_wp2;first | exact⟨⟨c+1,d,by omega,tz,rfl,H,T.out,L.out,U.out,R.out,Q.out⟩,nz⟩ | exact⟨⟨c+1,d,by omega,by simp,H,T.out,L.out,U.out,R.out,Q.out⟩,nz⟩
    ·refine iw rfl ?_;go_simp;refine(c9.out _).mono ?_;rintro e f2 ⟨rfl,i⟩;have a4:Ext q f2:=Qa.trans (Qa.drew (Qa.refl _ q)) i;have c4:=a4.keep t.out;have f4:=zR c4;refine hK.out _ _ (a1.out _ (Ext.of a4)) (fun hS1=>?_);clear hK K i;try simp only [Act.put,pq]
     refine rH [0] ?_;refine AllReadyH.cons rfl (fun K hK=>?_) (AllReadyH.nil);refine iw rfl ?_;go_simp;refine hK.out _ _ (hS1) (fun _=>?_);clear hK K;try simp only [Act.put,pq]
     clear f4;refine rH [5] ?_;refine AllReadyH.cons rfl (fun K hK=>?_) (AllReadyH.nil);refine iw rfl ?_;go_simp;refine(f1.out _).mono ?_;rintro e B ⟨rfl,i⟩;have a5:Ext q B:=a4.trans i;have E:=a5.keep t.out;refine hK.out _ _ (a1.out _ (Ext.of a5)) (fun hS2=>?_);clear hK K i c4;try simp only [Act.put,pq]
     refine rH [6] ?_;refine AllReadyH.cons rfl (fun K hK=>?_) (AllReadyH.nil);refine iw rfl ?_;refine wp_store_row 26 (.tmp 8) (.tmp 54) rfl o #[.int .u32 (d.1:Int),.int .u32 (d.2:Int)] rfl rfl _ _ E kz rfl kz ?_;have r:=Qa.setRow B o #[.int .u32 (d.1:Int),.int .u32 (d.2:Int)];have c5:(B.setRow o #[.int .u32 (d.1:Int),.int .u32 (d.2:Int)]).heap[o]?=some (.cells #[.int .u32 (d.1:Int),.int .u32 (d.2:Int)] 26 (0,0)):=setRow_heap _ _ _ _ _ _ E;have l:=(Ext.of a5).trans r;have c6:=l.heap C.out oz;have c7:=l.heap A.out oz;have c8:=l.heap y.out oz;have c0:Ext w _:=z.out.after l (fun b J e=>by have:=P.out;omega);obtain⟨T,L,U,R,Q⟩:=Zh5 c6 c7 c8 c5 c0;refine hK.out _ _ (a1.out _ l) (fun hS3=>?_);clear hK K E c6 c7 c8 c5 c0 l r hS1 hS2 hS3;change wpAnyH _ _ _ _ _ _ _ (Act.put _ none _) _;simp only [Act.put];refine wpAnyH_done kz ?_ _;go_wp2;first | exact⟨⟨c+1,d,by omega,tz,rfl,H,T.out,L.out,U.out,R.out,Q.out⟩,nz⟩ | exact⟨⟨c+1,d,by omega,by simp,H,T.out,L.out,U.out,R.out,Q.out⟩,nz⟩
  ·have D:=b0.out;rw [if_pos (.inl rfl)] at D;have a7:b1=0:=i1.out rfl;have i5:=i3.out a7;have H:=Zh D.symm;have g2:=i4.out;rw [i5] at g2;have l0:=Zh g2;have f3:=zR b5;subst a7;clear D b0 X O d9 b5 d3 g2 i5 i3 i4 f1 i1;go_wp2_with fail;refine(l0.out _).mono ?_;rintro e B ⟨rfl,i⟩;have E:=i.keep t.out;have l:Qa (·=o) q (B.setRow o #[.int .u32 (d.1:Int),.int .u32 (d.2:Int)]):=(Ext.of i).trans (Qa.setRow B o #[.int .u32 (d.1:Int),.int .u32 (d.2:Int)]);obtain⟨T,L,U,Q⟩:=Zh4 (l.heap C.out oz) (l.heap A.out oz) (l.heap y.out oz) (z.out.after l (fun b J e=>by have:=P.out;omega));have R:Hid ((B.setRow o #[.int .u32 (d.1:Int),.int .u32 (d.2:Int)]).heap[o]?=some (.cells #[.int .u32 (d.1:Int),.int .u32 (d.2:Int)] 26 (0,0))):=Zh (setRow_heap _ _ _ _ _ _ E);have k5:=Zh E;clear E l i f3
   go_wp2_with (refine wpList_store_row rfl 26 (.tmp 8) (.tmp 44) rfl o #[.int .u32 (d.1:Int),.int .u32 (d.2:Int)] rfl rfl _ _ k5.out kz rfl kz ?_;generalize B.setRow o #[.int .u32 (d.1:Int),.int .u32 (d.2:Int)]=m0 at T L U Q R ⊢;have a3:=zR L.out)
   refine(c9.out _).mono ?_;rintro e m1 ⟨rfl,i⟩;clear a3;obtain⟨C,A,y,t,z⟩:=Zh5 (i.keep T.out) (i.keep L.out) (i.keep U.out) (i.keep R.out) (Q.out.trans i);clear i;go_wp2;first | exact⟨⟨c+1,d,by omega,tz,rfl,H,C.out,A.out,y.out,t.out,z.out⟩,nz⟩ | exact⟨⟨c+1,d,by omega,by simp,H,C.out,A.out,y.out,t.out,z.out⟩,nz⟩
 ·obtain rfl:c=24:=by omega
  have c3:=k6.out;rw [<-g9.out] at c3;subst c3;have f3:=zR b5;clear X O d9 b5 d3
  go_wp2_with (refine wpList_store_row rfl 26 (.tmp 6) (.tmp 55) rfl (k+2) #[.int .u32 (F.1:Int),.int .u32 (F.2:Int)] rfl rfl _ _ y.out kz rfl kz ?_)
  have r:=Qa.setRow q (k+2) #[.int .u32 (F.1:Int),.int .u32 (F.2:Int)];refine bodyPost_ret (Y9 (p:=6) (u:=7) rfl rfl (setRow_heap _ _ _ _ _ _ y.out) kz) rfl ?_;exact⟨rfl,z.out.after r (fun b J e=>by have:=P.out;omega)⟩
theorem Qcs{ws:Wd}{k:Nat}(h:k<ws.length):Zn (ws.take (k+1))=Zn (ws.take k)++Ka ws[k]:=by
 rw [List.take_succ_eq_append_getElem h];unfold Zn;rw [List.flatMap_append];simp only [List.flatMap_cons,List.flatMap_nil,List.append_nil]
theorem Qaq(n i:Nat):(n:Int) / 2 ^ (8*i) % 256=((byt n i).toNat:Int):=by
 unfold byt;rw [UInt8.toNat_ofNat'];obtain⟨a,b⟩:∃ a:Nat,2 ^ (8*i)=a:=⟨_,rfl⟩;have c:(2:Int) ^ (8*i)=(a:Int):=by rw [<-b,Int.natCast_pow];rfl
 rw [b,c,Int.natCast_emod,Int.natCast_ediv];rfl
theorem Qfz(s:Nat × Nat){i:Nat}(h:i<4):(Ka s).take (2*(i+1))=(Ka s).take (2*i)++[byt s.1 i]++[byt s.2 i]:=by
 have:i=0\/i=1\/i=2\/i=3:=by omega
 rcases this with rfl | rfl | rfl | rfl <;> rfl
theorem Qj6(s:Nat × Nat)(i:Nat):((Ka s).take i).length<=8:=by rw [List.length_take];have:(Ka s).length=8:=rfl;omega
theorem Q3x{V b:World}{B C:Nat}{cs:Array Value}(c:V.heap[C]?=some (.cells cs 26 (0,0))) (d:C≠B) (e:Qa (Qde B B V) V b):b.heap[C]?=some (.cells cs 26 (0,0)):=by
 refine e.heap c ?_;rintro(a | ⟨_,f,a⟩)
 ·exact d a
 ·rw [c] at a;simp only [Option.some.injEq,Obj.cells.injEq] at a;exact absurd a.2.1 zd
theorem Q7d{w V V':World}{B:Nat}(hE:Ext w V)(hB:w.heap.size<=B)(ht:Qa (Qde B B V) V V'):Ext w V':=hE.after ht fun b h1 h2=>by
 rcases h2 with h | ⟨h,_⟩
 ·omega
 ·omega
theorem Tz{w:World}{ao:Option Addr}{N cap:Nat}{ws:Wd}(p:Qd w (.slice ao N cap) ws) (a6:ws.length=N) (e2:N<=1000) :
  Calls Tryz.prog 70 #[.slice ao N cap] w fun e w'=>e=.returned (.string (Uy ws))/\Ext w w':=by
 have X:=Zh p;have A:=Zh a6;clear p a6;go_enter Tryz.func70,Tryz.ntmps70;obtain⟨g,C⟩:=zE w.heap.size;have D:(w.alloc (.cells #[.pointer none,.slice none 0 0] 144)).heap[g]?=some (.cells #[.pointer none,.slice none 0 0] 144 (0,0)):=new_at C.symm;have m:Ext w (w.alloc (.cells #[.pointer none,.slice none 0 0] 144)):=(Qa.refl _ w).alloc _;go_wp2;generalize (w.alloc (.cells #[.pointer none,.slice none 0 0] 144))=d0 at D m ⊢;have B:Lz g g d0 (Zn (ws.take 0)):=⟨_,_,D,.inl rfl,World.ownsRow_nil _ _ _ _⟩;obtain⟨S,r,v⟩:=Zh3 B m C;clear B D m C
 refine wp_loop (fun a l=>∃(f:Nat),f<=N/\a.defers=[]/\gS a [0,3,7,8,9]=(33,[.slice ao N cap,.pointer (some ⟨g,0,none⟩),.slice ao N cap,.int .i64 N,.int .i64 f])/\Lz g g l (Zn (ws.take f))/\Ext w l)
  (fun a _=>N - (intOf (a.tmps.getD 9 undef)).toNat) ?_ ?_
 ·exact⟨0,by omega,rfl,rfl,S.out,r.out⟩
 clear r S;rintro⟨c8,_⟩ l ⟨f,d9,M,u,t,s⟩;subst M;obtain⟨c9,rfl⟩:=Qo u;clear u;have j:=Zh t;have k:=Zh s;clear t s;by_cases c5:f<N;case neg=>
  obtain rfl:f=N:=by omega
  have a4:¬ (f:Int)<(f:Int):=by omega
  have n:=j.out;rw [List.take_of_length_le (by rw [A.out];exact Nat.le_refl _)] at n;have a0:=Zh (Qil n);clear n j;go_wp2_with fail;refine a0.out.mono ?_;rintro e c1 ⟨rfl,a7⟩;have b9:Hid (Ext w c1):=Zh (k.out.after a7 (fun b a4 h2=>by have:=v.out;omega));clear a7 a0;go_wp2;go_ret;exact⟨rfl,b9.out⟩
 have a4:(f:Int)<(N:Int):=by omega
 have B:(0:Int)<=(f:Int):=by omega
 have z:f<ws.length:=by rw [A.out];exact c5
 have a8:=(X.out.ext k.out).at z;rw [A.out] at a8;obtain⟨a3,b3,d4,b1,c3,I,J⟩:=a8;simp only [zV,true_and] at b1;obtain⟨rfl,rfl⟩:=b1;have P:=X.out.2 _ (List.getElem_mem z);rw [List.getD_eq_getElem?_getD,List.getElem?_eq_getElem z,Option.getD_some] at I J;have O:=Qcs z;obtain⟨c,b2⟩:=zE (ws[f]);rw [b2] at I J P O;clear b2;have d2:=Zh P;have Y:=Zh O;clear P O;go_wp2;obtain⟨i,y⟩:=zE l.heap.size;have Q:(l.alloc (.cells #[.int .u32 c.1,.int .u32 c.2] 26)).heap[i]?=some (.cells #[.int .u32 c.1,.int .u32 c.2] 26 (0,0)):=new_at y.symm;have m:Ext l (l.alloc (.cells #[.int .u32 c.1,.int .u32 c.2] 26)):=(Qa.refl _ l).alloc _;rw [y];generalize (l.alloc (.cells #[.int .u32 c.1,.int .u32 c.2] 26))=c0 at Q m ⊢;have G:Lz g g c0 (Zn (ws.take f)):=by
  obtain⟨b4,b5,R,c6,c7⟩:=j.out;exact⟨b4,b5,m.keep R,c6,Qe c7 m⟩
 obtain⟨q,p⟩:=zE (Zn (ws.take f));have e1:q.length<=8000:=by rw [<-p,Fl,List.length_take];omega
 rw [p] at G Y;obtain⟨Z,r,T,d1⟩:=Zh4 Q (k.out.trans m) G y;have d5:g<=i:=by have:=k.out.size;have:=v.out;omega
 have a5:i≠g:=by
  rintro rfl;obtain⟨b4,b5,R,_⟩:=j.out;have:=(Array.getElem?_eq_some_iff.1 R).1;omega
 clear Q m G y k j p I J c3
 refine wp_loop (fun a o=>∃(d:Nat),d<=4/\a.defers=[]/\gS a [0,3,5,7,8,9,13]=(33,[.slice (some ⟨a3,b3,none⟩) N cap,.pointer (some ⟨g,0,none⟩),.pointer (some ⟨i,0,none⟩),.slice (some ⟨a3,b3,none⟩) N cap,.int .i64 N,.int .i64 f,.int .i64 d])/\Lz g g o (q++(Ka c).take (2*d))/\o.heap[i]?=some (.cells #[.int .u32 c.1,.int .u32 c.2] 26 (0,0))/\Ext w o)
  (fun a _=>4 - (intOf (a.tmps.getD 13 undef)).toNat) ?_ ?_
 ·exact⟨0,by omega,rfl,rfl,by rw [Nat.mul_zero,List.take_zero,List.append_nil];exact T.out,Z.out,r.out⟩
 clear T Z r;rintro⟨c8,_⟩ o ⟨d,d6,M,u,t,K,s⟩;subst M;obtain⟨c9,rfl⟩:=Qo u;clear u;obtain⟨j,k,U⟩:=Zh3 t s K;have a2:o.cell? ⟨i,0,none⟩=some (.int .u32 c.1):=by rw [cell_of_row o i 0 _ _ _ K];rfl
 clear t s K;by_cases c4:d<4;case neg=>
  obtain rfl:d=4:=by omega
  have n:=j.out;rw [show (Ka c).take (2*4)=Ka c from rfl,<-Y.out] at n;have x:=Zh n;clear n j a2;go_wp2;exact⟨⟨f+1,by omega,by first | trivial | rfl,rfl,x.out,k.out⟩,nz⟩
 have d8:(d:Int)<4:=by omega
 have d7:(0:Int)<=(d:Int):=by omega
 have e0:=Qj6 c (2*d);go_wp2_with fail;rw [Qaq];refine(Q3p (byt c.1 d) j.out (Nat.le_refl _) (by rw [List.length_append];omega)).mono ?_;rintro e a1 ⟨rfl,a9,E⟩;have L:=Q3x U.out a5 E;have W:=Zh (Q7d k.out (by have:=v.out;omega) E);have c2:a1.cell? ⟨i,1,none⟩=some (.int .u32 c.2):=by rw [cell_of_row a1 i 1 _ _ _ L];rfl
 have x:=Zh a9;have V:=Zh L;clear a9 L E j k U a2;go_wp2_with fail;rw [Qaq];refine(Q3p (byt c.2 d) x.out (Nat.le_refl _) (by rw [List.length_append,List.length_append,List.length_singleton];omega)).mono ?_;rintro e d3 ⟨rfl,H,F⟩;have b0:=Q3x V.out a5 F;have b8:=Zh (Q7d W.out (by have:=v.out;omega) F);rw [show q++(Ka c).take (2*d)++[byt c.1 d]++[byt c.2 d]=q++(Ka c).take (2*(d+1)) by rw [Qfz c c4];simp only [List.append_assoc]] at H;have b6:=Zh H;have b7:=Zh b0;clear H b0 F x W V c2;go_wp2;exact⟨⟨d+1,by omega,by first | trivial | rfl,rfl,b6.out,b7.out,b8.out⟩,nz⟩
theorem Sz:∀(n:Nat) (l:List Int),l.Nodup->(∀ x∈l,0<=x/\x<(n:Int))->l.length<=n
 | 0,l,_,h=>by
  cases l with
  | nil=>exact Nat.le_refl _
  | cons x l=>have:=h x zy;omega
 | n+1,l,hn,h=>by
  by_cases hm:(n:Int)∈l
  ·have ih:=Sz n (l.erase (n:Int)) (hn.erase _) fun x hx=>by
    have h1:=h x (List.mem_of_mem_erase hx);have h2:x≠(n:Int):=fun e=>by subst e;exact(hn.mem_erase_iff.1 hx).1 rfl
    omega
   have hl:=List.length_erase_of_mem hm;have hpos:=List.length_pos_of_mem hm;omega
  ·have ih:=Sz n l hn fun x hx=>by
    have h1:=h x hx;have h2:x≠(n:Int):=fun e=>by subst e;exact hm hx
    omega
   omega
def X8(sh:List Int):Prop:=sh.length<=64/\∀ k∈sh,-1<=k/\k<(sh.length:Int)
theorem Q4b{sh:List Int}(h:Jd sh=0):X8 sh:=by
 unfold Jd at h
 split at h
 ·cases h
 ·split at h
  ·cases h
  ·rename_i b a
   refine⟨by omega,fun k hk=>?_⟩;rw [Bool.not_eq_true,List.any_eq_false] at a;have:=a k hk;simp only [Bool.or_eq_true,decide_eq_true_eq,not_or] at this;omega
theorem Mj{sh:List Int}(h:X8 sh)(i:Nat):-1<=sh.getD i (-1)/\(sh.getD i (-1)<(sh.length:Int)):=by
 rw [List.getD_eq_getElem?_getD];cases e:sh[i]? with
 | none=>exact⟨Int.le_refl _,by simp;omega⟩
 | some x=>exact h.2 x (List.mem_of_getElem? e)
theorem Tl(sh:List Int):∀(n:Nat) (k:Int) (d:List Int),∃ r,Vs sh n k d=d++r
 | 0,_,d=>⟨[],by simp [Vs]⟩
 | n+1,k,d=>by
  unfold Vs
  split
  ·obtain⟨r,hr⟩:=Tl sh n (sh.getD k.toNat (-1)) (d++[k]);exact⟨k::r,by rw [hr];simp⟩
  ·exact⟨[],by simp⟩
def Hl(sh:List Int)(d:List Int):Prop:=d.Nodup/\∀ k∈d,0<=k/\k<(sh.length:Int)
theorem Hl.le{sh d:List Int}(h:Hl sh d):d.length<=sh.length:=Sz sh.length d h.1 h.2
theorem Hl.snoc{sh d:List Int}{k:Int}(h:Hl sh d)(e:0<=k)(g:k<(sh.length:Int)) (f:k ∉ d):Hl sh (d++[k]):=by
 refine⟨List.nodup_append.2 ⟨h.1,by simp,fun a ha b hb=>?_⟩,fun x c=>?_⟩
 ·rw [List.mem_singleton] at hb;subst hb;rintro rfl;exact f ha
 ·rcases List.mem_append.1 c with c | c
  ·exact h.2 x c
  ·rw [List.mem_singleton] at c;subst c;exact⟨e,g⟩
theorem Q3v{sh:List Int}(hs:X8 sh):∀(n:Nat) (k:Int) (d:List Int),Hl sh d->k<(sh.length:Int)->Hl sh (Vs sh n k d)
 | 0,_,_,h,_=>h
 | n+1,k,d,h,hk=>by
  unfold Vs
  split
  ·rename_i h1
   exact Q3v hs n _ _ (h.snoc h1.1 hk h1.2) (Mj hs _).2
  ·exact h
theorem Mk{sh:List Int}(hs:X8 sh){i:Nat}(hi:i<sh.length):Hl sh (Qh sh i):=Q3v hs _ _ _ ⟨List.nodup_nil,fun _ h=>by cases h⟩ oz
theorem Q01(sh:List Int)(i:Nat):∃ r,Qh sh i=(i:Int)::r:=by
 unfold Qh Vs;rw [if_pos ⟨by omega,by simp⟩];obtain⟨r,a⟩:=Tl sh 64 (sh.getD (i:Int).toNat (-1)) ([]++[(i:Int)]);exact⟨r,by rw [a];simp⟩
structure Kf (sh:List Int) (i:Nat) (d:List Int) (k:Int):Prop where
 pre:Hl sh d
 lt:k<(sh.length:Int)
 way:Qh sh i=Vs sh (65 - d.length) k d
theorem Kf.start{sh:List Int}(i:Nat)(hi:i<sh.length):Kf sh i [] (i:Int):=⟨⟨List.nodup_nil,fun _ h=>by cases h⟩,by omega,rfl⟩
theorem Kf.more{sh d:List Int}{i:Nat}{k:Int}(f:X8 sh)(h:Kf sh i d k)(c:0<=k)(e:k ∉ d):Kf sh i (d++[k]) (sh.getD k.toNat (-1))/\∃ r,Qh sh i=d++k::r:=by
 have m:=h.pre.le;have l:=f.1;have a:=h.way;obtain⟨b,g⟩:∃ b,65 - d.length=b+1:=⟨64 - d.length,by omega⟩;rw [g] at a;unfold Vs at a;rw [if_pos ⟨c,e⟩] at a;refine⟨⟨h.pre.snoc c h.lt e,(Mj f _).2,?_⟩,?_⟩
 ·rw [a,List.length_append,List.length_singleton];have:65 - (d.length+1)=b:=by omega
  rw [this]
 ·obtain⟨r,j⟩:=Tl sh b (sh.getD k.toNat (-1)) (d++[k]);exact⟨r,by rw [a,j];simp⟩
theorem Kf.stop{sh d:List Int}{i:Nat}{k:Int}(f:X8 sh)(h:Kf sh i d k)(c:¬ (0<=k/\k ∉ d)):Qh sh i=d:=by
 have j:=h.pre.le;have g:=f.1;have a:=h.way;obtain⟨b,e⟩:∃ b,65 - d.length=b+1:=⟨64 - d.length,by omega⟩;rw [e] at a;unfold Vs at a;rw [if_neg c] at a;exact a
theorem Lw{sh:List Int}(b:X8 sh){i:Nat}(g:i<sh.length):(1<(Qh sh i).length)↔Ux sh i=true:=by
 have m:=Mj b i;have c:=(Kf.start (sh:=sh) i g).more b oz zy;have j:((i:Int)).toNat=i:=by simp
 rw [j] at c;unfold Ux;rw [Bool.and_eq_true,decide_eq_true_iff,decide_eq_true_iff];constructor
 ·intro d;by_cases a:0<=sh.getD i (-1)/\sh.getD i (-1) ∉ ([]++[(i:Int)])
  ·simp only [List.nil_append,List.mem_singleton] at a;exact⟨by omega,a.2⟩
  ·rw [c.1.stop b a] at d;simp at d
 ·rintro⟨l,e⟩;have a:0<=sh.getD i (-1):=by omega
  have f:=c.1.more b a (by simpa using e);obtain⟨n,k⟩:=f.2;rw [k];simp
theorem Qgh{sh:List Int}(b:X8 sh){i:Nat}(a:i<sh.length):Jm sh i=(decide (1<(Qh sh i).length) && decide (sh.getD ((Qh sh i).getLastD 0).toNat (-1)=i) && (Qh sh i).all fun k=>decide ((i:Int)<=k)):=by
 unfold Jm;rw [show Ux sh i=decide (1<(Qh sh i).length) from by rw [Bool.eq_iff_iff,decide_eq_true_iff];exact(Lw b a).symm]
def nxt(sh:List Int)(k:Int):Int:=sh.getD k.toNat (-1)
theorem gl{d e:List Int}{j:Nat}(h:j<d.length):(d++e).getD j 0=d.getD j 0:=by rw [List.getD_eq_getElem?_getD,List.getD_eq_getElem?_getD,List.getElem?_append_left h]
theorem gr{d:List Int}{k:Int}:(d++[k]).getD d.length 0=k:=by rw [List.getD_eq_getElem?_getD];simp
theorem gm{d:List Int}{j:Nat}(h:j<d.length):d.getD j 0∈d:=by
 rw [List.getD_eq_getElem?_getD,List.getElem?_eq_getElem h];exact List.getElem_mem h
theorem gx{d:List Int}{x:Int}(h:x∈d):∃ j,j<d.length/\d.getD j 0=x:=by
 obtain⟨j,a,b⟩:=List.getElem_of_mem h;refine⟨j,a,?_⟩;rw [List.getD_eq_getElem?_getD,List.getElem?_eq_getElem a];exact b
theorem gi{d:List Int}(g:d.Nodup){i j:Nat}(a:i<d.length)(b:j<d.length)(h:d.getD i 0=d.getD j 0):i=j:=by
 rw [List.getD_eq_getElem?_getD,List.getD_eq_getElem?_getD,List.getElem?_eq_getElem a,List.getElem?_eq_getElem b] at h;have c:=List.pairwise_iff_getElem.1 g;by_cases e:i<j
 ·exact absurd (Option.some.inj (by simpa using h)) (c i j a b e)
 ·by_cases f:j<i
  ·exact absurd (Option.some.inj (by simpa using h.symm)) (c j i b a f)
  ·omega
def Sg(sh d:List Int)(k:Int):Prop:=(∀ j,j+1<d.length->nxt sh (d.getD j 0)=d.getD (j+1) 0)/\∀ j,j+1=d.length->nxt sh (d.getD j 0)=k
theorem Sg.snoc{sh d:List Int}{k:Int}(h:Sg sh d k):Sg sh (d++[k]) (nxt sh k):=by
 refine⟨fun j hj=>?_,fun j hj=>?_⟩
 ·rw [List.length_append,List.length_singleton] at hj;rw [gl oz];by_cases b:j+1<d.length
  ·rw [gl b];exact h.1 j b
  ·have a:j+1=d.length:=by omega
   rw [a,gr];exact h.2 j a
 ·rw [List.length_append,List.length_singleton] at hj;rw [show j=d.length by omega,gr]
theorem Ql3{sh:List Int}(e:X8 sh){i:Nat}:∀(m:Nat) (d:List Int) (k:Int),sh.length - d.length=m->Kf sh i d k->Sg sh d k->∃ k',Sg sh (Qh sh i) k'/\¬ (0<=k'/\k' ∉ Qh sh i):=by
 intro m
 induction m with
 | zero=>
  intro d k g b c;by_cases a:0<=k/\k ∉ d
  ·have f:=(b.more e a.1 a.2).1.pre.le;rw [List.length_append,List.length_singleton] at f;omega
  ·exact⟨k,by rw [b.stop e a];exact⟨c,a⟩⟩
 | succ m ih=>
  intro d k g b c;by_cases a:0<=k/\k ∉ d
  ·exact ih (d++[k]) _ (by rw [List.length_append,List.length_singleton];omega) (b.more e a.1 a.2).1 c.snoc
  ·exact⟨k,by rw [b.stop e a];exact⟨c,a⟩⟩
theorem Pf{sh:List Int}{i:Nat}:(i:Int)∈Qh sh i:=by
 obtain⟨b,a⟩:=Q01 sh i;rw [a];exact List.mem_cons_self
theorem Kt{sh:List Int}{i:Nat}:(Qh sh i).getD 0 0=(i:Int)/\0<(Qh sh i).length:=by
 obtain⟨b,a⟩:=Q01 sh i;rw [a];exact⟨rfl,by simp⟩
section
variable {sh:List Int} (hs:X8 sh) {i s:Nat} (hi:i<sh.length)
include hs hi
theorem Kk:∃ k',Sg sh (Qh sh i) k'/\¬ (0<=k'/\k' ∉ Qh sh i):=Ql3 hs _ [] (i:Int) rfl (Kf.start i hi) ⟨fun j hj=>by simp at hj,fun j hj=>by simp at hj⟩
theorem Re:(Qh sh i).Nodup:=(Mk hs hi).1
theorem Da{x:Int}(h:x∈Qh sh i):0<=x/\x<(sh.length:Int):=(Mk hs hi).2 x h
theorem Na{x:Int}(h:x∈Qh sh i)(b:0<=nxt sh x):nxt sh x∈Qh sh i:=by
 obtain⟨j,d,f⟩:=Kk hs hi;obtain⟨a,g,rfl⟩:=gx h;by_cases c:a+1<(Qh sh i).length
 ·rw [d.1 a c];exact gm c
 ·have e:=d.2 a oz;rw [e] at b ⊢;exact Classical.byContradiction fun hn=>f ⟨b,hn⟩
theorem Qj3{x:Int}(h:x∈Qh sh i)(d:x≠(i:Int)):∃ y,y∈Qh sh i/\y≠x/\nxt sh y=x:=by
 obtain⟨f,c,_⟩:=Kk hs hi;obtain⟨a,b,rfl⟩:=gx h;cases a with
 | zero=>exact absurd Kt.1 d
 | succ a=>
  exact⟨(Qh sh i).getD a 0,gm oz,fun e=>by have:=gi (Re hs hi) oz b e;omega,c.1 a b⟩
theorem Rh(e:s<sh.length)(h:(i:Int)∈Qh sh s) {x:Int} (f:x∈Qh sh i):x∈Qh sh s:=by
 obtain⟨g,d,_⟩:=Kk hs hi;have:∀ a,a<(Qh sh i).length->(Qh sh i).getD a 0∈Qh sh s:=by
  intro a
  induction a with
  | zero=>intro _;rw [Kt.1];exact h
  | succ a ih=>
   intro b;have c:=d.1 a b;rw [<-c];refine Na hs e (ih oz) ?_;rw [c];exact(Da hs hi (gm b)).1
 obtain⟨a,b,rfl⟩:=gx f;exact this a b
end
theorem Q34(sh:List Int)(i:Nat):nxt sh (i:Int)=sh.getD i (-1):=by unfold nxt;rw [Int.toNat_natCast]
theorem Qe6{sh:List Int}{i:Nat}:Ux sh i=true↔nxt sh (i:Int)≠-1/\nxt sh (i:Int)≠(i:Int):=by
 unfold Ux;rw [Bool.and_eq_true,decide_eq_true_iff,decide_eq_true_iff,Q34]
theorem Qai{sh:List Int}{i:Nat}:toB sh i=true↔∃ p,p<sh.length/\p≠i/\nxt sh (p:Int)=(i:Int):=by
 unfold toB;rw [List.any_eq_true];constructor
 ·rintro⟨p,b,a⟩;rw [Bool.and_eq_true,decide_eq_true_iff,decide_eq_true_iff] at a;exact⟨p,List.mem_range.1 b,a.1,by rw [Q34];exact a.2⟩
 ·rintro⟨p,b,a,c⟩;exact⟨p,List.mem_range.2 b,by rw [Bool.and_eq_true,decide_eq_true_iff,decide_eq_true_iff];exact⟨a,by rw [<-Q34];exact c⟩⟩
theorem pig:∀(C B:List Nat),C.Nodup->(∀ x∈C,x∈B)->B.length<=C.length->∀ x∈B,x∈C
 | [],B,_,_,h,x,hx=>by
  have:=List.length_pos_of_mem hx;simp at h;subst h;cases hx
 | c::C,B,hn,hs,h,x,hx=>by
  rw [List.nodup_cons] at hn;have hc:=hs c zy;have hl:=List.length_erase_of_mem hc;have hp:=List.length_pos_of_mem hc;have ih:=pig C (B.erase c) hn.2 (fun y hy=>(List.mem_erase_of_ne (fun e=>hn.1 (by rw [<-e];exact hy))).2 (hs y (by simp [hy]))) (by rw [hl];simp at h;omega);by_cases hxc:x=c
  ·rw [hxc];simp
  ·exact List.mem_cons_of_mem _ (ih x ((List.mem_erase_of_ne hxc).2 hx))
theorem Qec{sh:List Int}(I:X8 sh){B:List Nat}(Q:B.Nodup)(a0:∀ b∈B,b<sh.length)(H:∀ b∈B,∃ p,p∈B/\p≠b/\nxt sh (p:Int)=(b:Int)) :
  ∀ b∈B,(∃ c,c∈B/\c≠b/\nxt sh (b:Int)=(c:Int))/\nxt sh ((Qh sh b).getLastD 0)=(b:Int):=by
 let f:Nat->Nat:=fun b=>if h:b∈B then Classical.choose (H b h) else 0
 have o:∀ b∈B,f b∈B/\f b≠b/\nxt sh (f b:Int)=(b:Int):=fun b h=>by
  have:=Classical.choose_spec (H b h);simp only [f,dif_pos h];exact this
 have X:∀ a∈B,∀ b∈B,f a=f b->a=b:=fun a ha b g e=>by
  have M:=(o a ha).2.2;have N:=(o b g).2.2;rw [e,N] at M;omega
 have R:∀(l:List Nat),l.Nodup->(∀ x∈l,x∈B)->(l.map f).Nodup:=by
  intro l
  induction l with
  | nil=>intro _ _;exact List.nodup_nil
  | cons a l ih=>
   intro k w;rw [List.nodup_cons] at k;rw [List.map_cons,List.nodup_cons];refine⟨fun h=>?_,ih k.2 fun x hx=>w x (by simp [hx])⟩;obtain⟨s,r,e⟩:=List.mem_map.1 h;exact k.1 (by rw [<-X s (w s (by simp [r])) a (w a zy) e];exact r)
 have a3:=pig (B.map f) B (R B Q fun _ h=>h) (fun x hx=>by obtain⟨s,r,rfl⟩:=List.mem_map.1 hx;exact(o s r).1) (by rw [List.length_map];exact Nat.le_refl _)
 have q:∀ b∈B,∃ c,c∈B/\c≠b/\nxt sh (b:Int)=(c:Int)/\f c=b:=fun b g=>by
  obtain⟨c,j,e⟩:=List.mem_map.1 (a3 b g);have:=o c j;rw [e] at this;exact⟨c,j,fun h=>this.2.1 h.symm,this.2.2,e⟩
 intro b g;obtain⟨J,S,U,a1,_⟩:=q b g;refine⟨⟨J,S,U,a1⟩,?_⟩;have E:=a0 b g;obtain⟨a7,v,Y⟩:=Kk I E;have D:∀ d,d<(Qh sh b).length->∃ c,c∈B/\(Qh sh b).getD d 0=(c:Int):=by
  intro d
  induction d with
  | zero=>intro _;exact⟨b,g,Kt.1⟩
  | succ d ih=>
   intro u;obtain⟨c,j,e⟩:=ih oz;obtain⟨n,F,_,y,_⟩:=q c j;exact⟨n,F,by rw [<-v.1 d u,e,y]⟩
 have a6:=(Kt (sh:=sh) (i:=b)).2;obtain⟨m,k⟩:∃ m,(Qh sh b).length=m+1:=⟨(Qh sh b).length - 1,by omega⟩;have Z:(Qh sh b).getLastD 0=(Qh sh b).getD m 0:=by
  rw [List.getLastD_eq_getLast?,List.getLast?_eq_getElem?,k,List.getD_eq_getElem?_getD];rfl
 rw [Z];have G:=v.2 m k.symm;obtain⟨c,j,A⟩:=D m oz;obtain⟨n,F,_,y,V⟩:=q c j;rw [A,y] at G ⊢;have W:(n:Int)∈Qh sh b:=Classical.byContradiction fun h=>Y ⟨by omega,by rw [<-G];exact h⟩;obtain⟨d,u,C⟩:=gx W;cases d with
 | zero=>rw [<-C];exact Kt.1
 | succ d=>
  exfalso
  obtain⟨K,T,z⟩:=D d oz;have O:=v.1 d u;obtain⟨L,a5,_,a2,t⟩:=q K T;rw [z,a2,C] at O;have P:L=n:=by omega
  rw [P] at t;rw [V] at t;have a4:=gi (Re I E) (show d < _ by omega) (show m < _ by omega) (by rw [z,A,t]);omega
section
variable {sh:List Int} (hs:X8 sh)
include hs
theorem Q30{i:Nat}(n:i<sh.length)(h:Ux sh i=true\/toB sh i=true) :
  (∃ s,s<sh.length/\Ux sh s=true/\toB sh s=false/\(i:Int)∈Qh sh s)\/∃ m,m<sh.length/\Jm sh m=true/\(i:Int)∈Qh sh m:=by
 by_cases q:∃ s,s<sh.length/\Ux sh s=true/\toB sh s=false/\(i:Int)∈Qh sh s
 ·exact .inl q
 right
 let B:=(List.range sh.length).filter fun b=>decide ((i:Int)∈Qh sh b)
 have k:∀ b,b∈B↔b<sh.length/\(i:Int)∈Qh sh b:=fun b=>by simp only [B,List.mem_filter,List.mem_range,decide_eq_true_eq]
 have R:∀ b∈B,toB sh b=true:=fun b hb=>by
  have l:=(k b).1 hb;by_cases K:b=i
  ·subst K;rcases h with h | h
   ·cases f:toB sh b with
    | true=>rfl
    | false=>exact absurd ⟨b,l.1,h,f,l.2⟩ q
   ·exact h
  ·cases f:toB sh b with
   | true=>rfl
   | false=>
    refine absurd ⟨b,l.1,(Lw hs l.1).1 ?_,f,l.2⟩ q;obtain⟨e,o,F⟩:=gx l.2;cases e with
    | zero=>have:=(Kt (sh:=sh) (i:=b)).1;omega
    | succ e=>omega
 have y:=Qec hs (B:=B) (List.nodup_range.filter _) (fun b hb=>((k b).1 hb).1) fun b hb=>by
  obtain⟨w,r,G,t⟩:=Qai.1 (R b hb);refine⟨w,(k w).2 ⟨r,?_⟩,G,t⟩;have L:(b:Int)∈Qh sh w:=by
   rw [<-t];exact Na hs r Pf (by rw [t];omega)
  exact Rh hs ((k b).1 hb).1 r L ((k b).1 hb).2
 have N:i∈B:=(k i).2 ⟨n,Pf⟩
 -- the least index of the way
 obtain⟨m,v,O⟩:∃ m:Nat,(m:Int)∈Qh sh i/\∀ d∈Qh sh i,(m:Int)<=d:=by
  have:∀(g:List Int),(∀ d∈g,0<=d)->g≠[]->∃ m:Nat,(m:Int)∈g/\∀ d∈g,(m:Int)<=d:=by
   intro g
   induction g with
   | nil=>intro _ h;exact absurd rfl h
   | cons a g ih=>
    intro x _;have H:=x a zy;by_cases p:g=[]
    ·subst p;exact⟨a.toNat,by simp;omega,fun d c=>by simp at c;omega⟩
    ·obtain⟨m,S,D⟩:=ih (fun d c=>x d (by simp [c])) p;by_cases P:(m:Int)<=a
     ·exact⟨m,by simp [S],fun d c=>by rcases List.mem_cons.1 c with rfl | c;exact P;exact D d c⟩
     ·exact⟨a.toNat,by rw [Int.toNat_of_nonneg H];simp,fun d c=>by rcases List.mem_cons.1 c with rfl | c;omega;have:=D d c;omega⟩
  exact this _ (fun d c=>(Da hs n c).1) (fun f=>by have:=Pf (sh:=sh) (i:=i);rw [f] at this;cases this)
 have U:=(Da hs n v).2;have A:m<sh.length:=by omega
 -- m leads to i again
 have z:m∈B:=by
  have I:∀ e,e<(Qh sh i).length->∃ j,j∈B/\(Qh sh i).getD e 0=(j:Int):=by
   obtain⟨V,p,_⟩:=Kk hs n;intro e
   induction e with
   | zero=>intro _;exact⟨i,N,Kt.1⟩
   | succ e ih=>
    intro o;obtain⟨j,u,f⟩:=ih oz;obtain⟨E,M,_,Q⟩:=(y j u).1;exact⟨E,M,by rw [<-p.1 e o,f,Q]⟩
  obtain⟨e,o,F⟩:=gx v;obtain⟨j,u,f⟩:=I e o;have:j=m:=by omega
  rw [<-this];exact u
 refine⟨m,A,?_,((k m).1 z).2⟩;obtain⟨⟨j,_,T,C⟩,J⟩:=y m z;unfold Jm;rw [Bool.and_eq_true,Bool.and_eq_true];refine⟨⟨Qe6.2 ⟨by rw [C];omega,by rw [C];omega⟩,decide_eq_true J⟩,?_⟩;rw [List.all_eq_true];intro d c;exact decide_eq_true (O d (Rh hs A n v c))
theorem Q1h{m:Nat}(d:m<sh.length)(c:Jm sh m=true){x:Nat}(j:(x:Int)∈Qh sh m):(m:Int)∈Qh sh x:=by
 unfold Jm at c;rw [Bool.and_eq_true,Bool.and_eq_true,decide_eq_true_iff] at c;obtain⟨⟨_,n⟩,_⟩:=c;obtain⟨s,p,_⟩:=Kk hs d;have k:x<sh.length:=by have:=(Da hs d j).2;omega
 obtain⟨b,r,l⟩:=gx j;have o:∀ a,b+a<(Qh sh m).length->(Qh sh m).getD (b+a) 0∈Qh sh x:=by
  intro a
  induction a with
  | zero=>intro _;rw [Nat.add_zero,l];exact Pf
  | succ a ih=>
   intro i;have e:=p.1 (b+a) oz;rw [show b+(a+1)=b+a+1 by omega,<-e];refine Na hs k (ih oz) ?_;rw [e];exact(Da hs d (gm oz)).1
 obtain⟨a,i⟩:∃ a,(Qh sh m).length=b+a+1:=⟨(Qh sh m).length - b - 1,by omega⟩;have q:(Qh sh m).getLastD 0=(Qh sh m).getD (b+a) 0:=by
  rw [List.getLastD_eq_getLast?,List.getLast?_eq_getElem?,i,List.getD_eq_getElem?_getD];rfl
 have f:=o a oz;rw [<-q] at f;have g:nxt sh ((Qh sh m).getLastD 0)=(m:Int):=n;rw [<-g];exact Na hs k f (by rw [g];omega)
theorem Qeq{m n:Nat}(c:m<sh.length)(e:n<sh.length)(a:Jm sh m=true)(b:Jm sh n=true){x:Nat}(d:(x:Int)∈Qh sh m) (g:(x:Int)∈Qh sh n):m=n:=by
 have f:x<sh.length:=by have:=(Da hs c d).2;omega
 have i:=Rh hs f e g (Q1h hs c a d);have j:=Rh hs f c d (Q1h hs e b g);unfold Jm at a b;rw [Bool.and_eq_true,List.all_eq_true] at a b;have k:=of_decide_eq_true (a.2 _ j);have l:=of_decide_eq_true (b.2 _ i);omega
end
end Go.Proofs.YtejenndedjabhaaGreatDoor
