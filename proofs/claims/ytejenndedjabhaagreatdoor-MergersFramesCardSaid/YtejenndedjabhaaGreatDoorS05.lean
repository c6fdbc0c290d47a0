/- feats: -/
import Derived.Test.YtejenndedjabhaaGreatDoorS04
set_option maxRecDepth 100000
set_option maxHeartbeats 8000000
namespace Go.Proofs.YtejenndedjabhaaGreatDoor
open Go.RowKit Go.Ab
attribute [local go_sem] Oper.semAt_some Zm Qv
abbrev sV(s:Nat × Nat):Value:=.agg #[.int .u32 (s.1:Int),.int .u32 (s.2:Int)]
set_option maxHeartbeats 2000000 in
theorem Xo{s:Nat × Nat}(t:Qh s)(w:World) :
  Calls Tryz.prog 61 #[sV s] w fun e w'=>e=.returned (.bool (okS s))/\Ext w w':=by
 obtain⟨b,c⟩:=s;obtain⟨i,j⟩:=t;obtain⟨u,v⟩:=Ho i j;have r:b ||| c<4294967296:=Nat.or_lt_two_pow (n:=32) i j;have d:okS (b,c)=((b &&& c == 0) && ((b ||| c) / 16777216 == 0)):=rfl;obtain⟨g,o⟩:=zE (b &&& c == 0);obtain⟨a,m⟩:=zE (b ||| c);rw [o] at u d;rw [m] at v d r;have p:(a / 16777216 == 0)=decide ((a:Int)<=16777215):=by
  apply Bool.eq_iff_iff.2;rw [beq_iff_eq,decide_eq_true_iff];omega
 rw [p] at d;obtain⟨k,f⟩:=zE (decide ((a:Int)<=16777215));rw [f] at d;have l:=Zh d;clear d o m p;dsimp only at i j;cases k
 ·have q:¬ (a:Int)<=16777215:=of_decide_eq_false f;clear f;go_enter Tryz.func61,Tryz.ntmps61;cases g
  all_goals
   go_wp2;go_ret;exact⟨by rw [l.out];rfl,(Q0.refl _ _).alloc _⟩
 ·have q:(a:Int)<=16777215:=of_decide_eq_true f;clear f;go_enter Tryz.func61,Tryz.ntmps61;cases g
  all_goals
   go_wp2;go_ret;exact⟨by rw [l.out];rfl,(Q0.refl _ _).alloc _⟩
set_option maxHeartbeats 2000000 in
theorem Qba{s:Nat × Nat}(f:Qh s)(w:World) :
  Calls Tryz.prog 237 #[sV s] w fun e w'=>e=.returned (.int .u32 ((s.1 ||| s.2:Nat):Int))/\Ext w w':=by
 obtain⟨c,d⟩:=s;obtain⟨a,b⟩:=f;have g:=u32_or_nat c d a b;dsimp only at a b ⊢;go_enter Tryz.func237,Tryz.ntmps237;go_wp2;go_ret;exact⟨rfl,(Q0.refl _ _).alloc _⟩
set_option maxHeartbeats 2000000 in
theorem Q0k{s f:Nat × Nat}{m:Nat}(q:Qh s)(p:Qh f)(c:m<4294967296)(w:World) :
  Calls Tryz.prog 238 #[sV s,sV f,.int .u32 (m:Int)] w fun e w'=>e=.returned (sV (Xt s f m))/\Ext w w':=by
 obtain⟨d,g⟩:=s;obtain⟨a,b⟩:=f;obtain⟨i,j⟩:=q;obtain⟨k,l⟩:=p;dsimp only at i j k l;have r:=Ht d m i c;have t:=Ht g m j c;have u:=u32_and_nat a m k c;have v:=u32_and_nat b m l c;have n:a &&& m<4294967296:=Nat.lt_of_le_of_lt Nat.and_le_left k;have o:b &&& m<4294967296:=Nat.lt_of_le_of_lt Nat.and_le_left l;have x:=u32_or_nat (Y3 d m) (a &&& m) (Pu i) n;have y:=u32_or_nat (Y3 g m) (b &&& m) (Pu j) o;clear n o;go_enter Tryz.func238,Tryz.ntmps238;go_wp2;refine bodyPost_ret (results_cell_row rfl _ _ (w.heap.size+1+1) _ #[.int .u32 ((Y3 d m ||| a &&& m:Nat):Int),.int .u32 ((Y3 g m ||| b &&& m:Nat):Int)] _ _ rfl (Q3 zy) Tryz.underlying26 rfl kz) rfl ?_;exact⟨rfl,(((Q0.refl _ _).alloc _).alloc _).alloc _⟩
theorem Zr{a:Func}{p u:Tmp}(h:a.results=#[.cell p 26,.tmp u]){tmps:Array Value}{w:World}{g:Nat}{cs:Array Value}(d:tmps.getD p undef=.pointer (some ⟨g,0,none⟩)) (b:w.heap[g]?=some (.cells cs 26 (0,0))) (c:(Tryz.prog.info? 26).map (·.size)=some cs.size) :
  (results a tmps).run Tryz.prog w=.ok (.tuple #[.agg cs,tmps.getD u undef]) w:=by
 have e:tmps[p]?.getD undef=.pointer (some ⟨g,0,none⟩):=by simpa using d
 simp [results,h,e,asAddr,run_loadVar_row w g _ _ _ _ _ b Tryz.underlying26 rfl c]
def Jk(s c:Nat × Nat):Bool:=okS s && okS c && Bf s c
theorem Q8y{s c:Nat × Nat}(a:Qh c):Bf s c=(Y3 c.1 s.1 == 0 && Y3 c.2 s.2 == 0):=by
 unfold Bf;apply Bool.eq_iff_iff.2;simp only [Bool.and_eq_true,beq_iff_eq];rw [Ct a.1,Ct a.2]
set_option maxHeartbeats 4000000 in
theorem Qa0{s c:Nat × Nat}(K:Qh s)(g:Qh c)(w:World) :
  Calls Tryz.prog 224 #[sV s,sV c] w fun e w'=>e=.returned (.bool (Jk s c))/\Ext w w':=by
 have y:=fun(V:World)=>Xo K V;have z:=fun(V:World)=>Xo g V;have r:Jk s c=(okS s && okS c && (Y3 c.1 s.1 == 0 && Y3 c.2 s.2 == 0)):=by unfold Jk;rw [Q8y g]
 obtain⟨b,d⟩:=s;obtain⟨c,f⟩:=c;obtain⟨H,I⟩:=K;obtain⟨g,J⟩:=g;dsimp only at H I g J;have Q:=Ht c b g H;have R:=Ht f d J I;dsimp only at r;obtain⟨a,A⟩:=zE (okS (b,d));obtain⟨S,B⟩:=zE (okS (c,f));obtain⟨Z,C⟩:=zE (Jk (b,d) (c,f));obtain⟨D,i⟩:=zE (Y3 c b);obtain⟨N,x⟩:=zE (Y3 f d);rw [A] at y;rw [B] at z;rw [A,B,C,i,x] at r;rw [i] at Q;rw [x] at R;rw [C];obtain⟨O,P,k⟩:=Zh3 y z r;clear y z r A B C i x;go_enter Tryz.func224,Tryz.ntmps224;go_wp2_with fail;have v:Ext w ((w.alloc (.cells #[.int .u32 (b:Int),.int .u32 (d:Int)] 26)).alloc (.cells #[.int .u32 (c:Int),.int .u32 (f:Int)] 26)):=((Q0.refl _ w).alloc _).alloc _;have n:((w.alloc (.cells #[.int .u32 (b:Int),.int .u32 (d:Int)] 26)).alloc (.cells #[.int .u32 (c:Int),.int .u32 (f:Int)] 26)).heap[w.heap.size]?=some (.cells #[.int .u32 (b:Int),.int .u32 (d:Int)] 26 (0,0)):=Q9 (Q3 rfl);have o:((w.alloc (.cells #[.int .u32 (b:Int),.int .u32 (d:Int)] 26)).alloc (.cells #[.int .u32 (c:Int),.int .u32 (f:Int)] 26)).heap[w.heap.size+1]?=some (.cells #[.int .u32 (c:Int),.int .u32 (f:Int)] 26 (0,0)):=Q3 zy;refine(O.out _).mono ?_;generalize ((w.alloc (.cells #[.int .u32 (b:Int),.int .u32 (d:Int)] 26)).alloc (.cells #[.int .u32 (c:Int),.int .u32 (f:Int)] 26))=W at v n o ⊢;generalize w.heap.size=T at n o ⊢;rintro e X ⟨rfl,p⟩;have t:=v.trans p;have l:=p.keep n;have m:=p.keep o;have F:=zR l;have G:=zR m;clear p n o v;cases a
 ·clear l m;go_wp2;go_ret;exact⟨by rw [k.out];rfl,t⟩
 ·go_wp2_with fail;refine(P.out _).mono ?_;rintro e Y ⟨rfl,q⟩;have u:=t.trans q;have L:=q.keep l;have M:=q.keep m;clear F G q t l m;have F:=zR L;have G:=zR M;clear L M;cases S
  ·go_wp2;go_ret;exact⟨by rw [k.out];rfl,u⟩
  ·by_cases i:D=0
   ·subst i;have E:((N:Int) == 0)=(N == 0):=by
     apply Bool.eq_iff_iff.2;rw [beq_iff_eq,beq_iff_eq];omega
    go_wp2;go_ret;refine⟨?_,u⟩;rw [k.out];simp
   ·have U:((D:Int) == 0)=false:=by rw [beq_eq_false_iff_ne];omega
    have E:(D == 0)=false:=by rw [beq_eq_false_iff_ne];exact i
    rw [E] at k;clear E;go_wp2;go_ret;exact⟨by rw [k.out];rfl,u⟩
def X5(s:Nat × Nat)(m:Nat)(f:Nat × Nat):(Nat × Nat) × Int:=
 if okS s=false\/okS f=false then((0,0),14) else if 16777215<m\/m &&& (f.1 ||| f.2)≠0 then((0,0),2) else(Xt s f (m ||| (f.1 ||| f.2)),0)
def Ju(s f:Nat × Nat)(m:Nat):(Nat × Nat) × Int:=
 if okS s=false\/okS f=false then((0,0),14) else if 16777215<m then((0,0),2) else(Xt s f m,0)
theorem En{s f:Nat × Nat}{m:Nat}(M:Qh s)(K:Qh f)(b3:m<4294967296)(w:World) :
  Calls Tryz.prog 226 #[sV s,sV f,.int .u32 (m:Int)] w fun e w'=>e=.returned (.tuple #[sV (Ju s f m).1,.int .i64 (Ju s f m).2])/\Ext w w':=by
 have N:=fun(V:World)=>Xo M V;have O:=fun(V:World)=>Xo K V;have L:=fun(V:World)=>Q0k M K b3 V;obtain⟨d,b⟩:=s;obtain⟨g,i⟩:=f;obtain⟨a9,b0⟩:=M;obtain⟨b1,b2⟩:=K;dsimp only at a9 b0 b1 b2;obtain⟨t,P⟩:=zE (okS (d,b));obtain⟨a2,Q⟩:=zE (okS (g,i));rw [P] at N;rw [Q] at O;have a6:=Zh N;have a7:=Zh O;have k:Hid (Ju (d,b) (g,i) m=if t=false\/a2=false then((0,0),14) else if 16777215<m then((0,0),2) else(Xt (d,b) (g,i) m,0)):=Zh (by unfold Ju;rw [P,Q]);obtain⟨q,r,Z⟩:∃ q r,Ju (d,b) (g,i) m=(q,r):=⟨_,_,rfl⟩;rw [Z] at k ⊢;clear N O P Q Z;obtain⟨⟨R,S⟩,a0⟩:=zE (Xt (d,b) (g,i) m);rw [a0] at L k;have a5:=Zh L;clear L a0;go_enter Tryz.func226,Tryz.ntmps226;go_wp2_with fail;obtain⟨c,o⟩:=zE w.heap.size;have T:(((w.alloc (.cells #[.int .u32 (d:Int),.int .u32 (b:Int)] 26)).alloc (.cells #[.int .u32 (g:Int),.int .u32 (i:Int)] 26)).alloc (.cells #[.int .u32 0,.int .u32 0] 26)).heap[c]?=some (.cells #[.int .u32 (d:Int),.int .u32 (b:Int)] 26 (0,0)):=by subst o;exact Q9 (Q9 (Q3 rfl))
 have U:(((w.alloc (.cells #[.int .u32 (d:Int),.int .u32 (b:Int)] 26)).alloc (.cells #[.int .u32 (g:Int),.int .u32 (i:Int)] 26)).alloc (.cells #[.int .u32 0,.int .u32 0] 26)).heap[c+1]?=some (.cells #[.int .u32 (g:Int),.int .u32 (i:Int)] 26 (0,0)):=by subst o;exact Q9 (Q3 zy)
 have W:(((w.alloc (.cells #[.int .u32 (d:Int),.int .u32 (b:Int)] 26)).alloc (.cells #[.int .u32 (g:Int),.int .u32 (i:Int)] 26)).alloc (.cells #[.int .u32 0,.int .u32 0] 26)).heap[c+2]?=some (.cells #[.int .u32 0,.int .u32 0] 26 (0,0)):=by subst o;exact Q3 zy
 have F:Ext w (((w.alloc (.cells #[.int .u32 (d:Int),.int .u32 (b:Int)] 26)).alloc (.cells #[.int .u32 (g:Int),.int .u32 (i:Int)] 26)).alloc (.cells #[.int .u32 0,.int .u32 0] 26)):=(((Q0.refl _ w).alloc _).alloc _).alloc _;refine(a6.out _).mono ?_;generalize (((w.alloc (.cells #[.int .u32 (d:Int),.int .u32 (b:Int)] 26)).alloc (.cells #[.int .u32 (g:Int),.int .u32 (i:Int)] 26)).alloc (.cells #[.int .u32 0,.int .u32 0] 26))=b8 at T U W F ⊢;rw [o];have B:=Zh o;clear o;rintro e b4 ⟨rfl,a⟩;have G:=F.trans a;have C:=a.keep T;have D:=a.keep U;have E:=a.keep W;have I:=zR C;have J:=zR D;have H:=Zh E;clear a T U W F;cases t
 ·clear C D E;have n:q=(0,0)/\r=14:=by have:=k.out;rw [if_pos (.inl rfl)] at this;exact⟨congrArg Prod.fst this,congrArg Prod.snd this⟩
  obtain⟨rfl,rfl⟩:=n;clear k
  go_wp2_with (refine wpList_store_row rfl 26 (.tmp 6) (.tmp 16) rfl (c+2) #[.int .u32 0,.int .u32 0] rfl rfl _ _ H.out kz rfl kz ?_)
  have l:=Q0.setRow b4 (c+2) #[.int .u32 0,.int .u32 0];refine bodyPost_ret (Zr (p:=6) (u:=7) rfl rfl (setRow_heap _ _ _ _ _ _ H.out) kz) rfl ?_;exact⟨rfl,G.after l (fun b h1 e=>by have:=B.out;omega)⟩
 go_wp2_with fail;refine(a7.out _).mono ?_;rintro e a1 ⟨rfl,a⟩;have A:=G.trans a;have x:=a.keep C;have y:=a.keep D;have z:=a.keep E;clear I J H a C D E G;have I:=zR x;have J:=zR y;have v:=Zh z;cases a2
 ·clear x y z;have n:q=(0,0)/\r=14:=by have:=k.out;rw [if_pos (.inr rfl)] at this;exact⟨congrArg Prod.fst this,congrArg Prod.snd this⟩
  obtain⟨rfl,rfl⟩:=n;clear k
  go_wp2_with (refine wpList_store_row rfl 26 (.tmp 6) (.tmp 16) rfl (c+2) #[.int .u32 0,.int .u32 0] rfl rfl _ _ v.out kz rfl kz ?_)
  have l:=Q0.setRow a1 (c+2) #[.int .u32 0,.int .u32 0];refine bodyPost_ret (Zr (p:=6) (u:=7) rfl rfl (setRow_heap _ _ _ _ _ _ v.out) kz) rfl ?_;exact⟨rfl,A.after l (fun b h1 e=>by have:=B.out;omega)⟩
 by_cases Y:16777215<m
 ·have a8:(16777215:Int)<(m:Int):=by omega
  clear x y z;have n:q=(0,0)/\r=2:=by have:=k.out;rw [if_neg zd,if_pos Y] at this;exact⟨congrArg Prod.fst this,congrArg Prod.snd this⟩
  obtain⟨rfl,rfl⟩:=n;clear k
  go_wp2_with (refine wpList_store_row rfl 26 (.tmp 6) (.tmp 19) rfl (c+2) #[.int .u32 0,.int .u32 0] rfl rfl _ _ v.out kz rfl kz ?_)
  have l:=Q0.setRow a1 (c+2) #[.int .u32 0,.int .u32 0];refine bodyPost_ret (Zr (p:=6) (u:=7) rfl rfl (setRow_heap _ _ _ _ _ _ v.out) kz) rfl ?_;exact⟨rfl,A.after l (fun b h1 e=>by have:=B.out;omega)⟩
 have a8:¬ (16777215:Int)<(m:Int):=by omega
 have n:q=(R,S)/\r=0:=by have:=k.out;rw [if_neg zd,if_neg Y] at this;exact⟨congrArg Prod.fst this,congrArg Prod.snd this⟩
 obtain⟨rfl,rfl⟩:=n;clear k;go_wp2_with fail;refine(a5.out _).mono ?_;rintro e b5 ⟨rfl,a⟩;have a4:=A.trans a;have b6:=a.keep x;have b7:=a.keep y;have a3:=a.keep z;clear I J v a x y z A;have X:=Zh a3;clear b6 b7 a3
 go_wp2_with (refine wpList_store_row rfl 26 (.tmp 6) (.tmp 23) rfl (c+2) #[.int .u32 (R:Int),.int .u32 (S:Int)] rfl rfl _ _ X.out kz rfl kz ?_)
 have l:=Q0.setRow b5 (c+2) #[.int .u32 (R:Int),.int .u32 (S:Int)];refine bodyPost_ret (Zr (p:=6) (u:=7) rfl rfl (setRow_heap _ _ _ _ _ _ X.out) kz) rfl ?_;exact⟨rfl,a4.after l (fun b h1 e=>by have:=B.out;omega)⟩
theorem Rm{s f:Nat × Nat}{m:Nat}(a6:Qh s)(y:Qh f)(a5:m<4294967296)(w:World) :
  Calls Tryz.prog 225 #[sV s,.int .u32 (m:Int),sV f] w fun e w'=>e=.returned (.tuple #[sV (X5 s m f).1,.int .i64 (X5 s m f).2])/\Ext w w':=by
 have a7:=fun(V:World)=>Xo a6 V;have a8:=fun(V:World)=>Xo y V;have R:=fun(V:World)=>Qba y V;have J:f.1 ||| f.2<4294967296:=Nat.or_lt_two_pow (n:=32) y.1 y.2;have T:m ||| (f.1 ||| f.2)<4294967296:=Nat.or_lt_two_pow (n:=32) a5 J;have z:=fun(V:World)=>Q0k a6 y T V;have b1:=u32_and_nat m (f.1 ||| f.2) a5 J;have b2:=u32_or_nat m (f.1 ||| f.2) a5 J;obtain⟨k,c⟩:=s;obtain⟨d,g⟩:=f;obtain⟨d9,e0⟩:=a6;obtain⟨e1,e2⟩:=y;dsimp only at d9 e0 e1 e2;dsimp only at R J T z b1 b2;obtain⟨C,a9⟩:=zE (okS (k,c));obtain⟨d1,b0⟩:=zE (okS (d,g));rw [a9] at a7;rw [b0] at a8;have d4:=Zh a7;have d5:=Zh a8;have i:Hid (X5 (k,c) m (d,g)=if C=false\/d1=false then((0,0),14) else if 16777215<m\/m &&& (d ||| g)≠0 then((0,0),2) else(Xt (k,c) (d,g) (m ||| (d ||| g)),0)):=Zh (by unfold X5;rw [a9,b0]);obtain⟨r,t,L⟩:∃ r t,X5 (k,c) m (d,g)=(r,t):=⟨_,_,rfl⟩;rw [L] at i ⊢;clear a7 a8 a9 b0 L;obtain⟨⟨b3,b4⟩,c7⟩:=zE (Xt (k,c) (d,g) (m ||| (d ||| g)));obtain⟨Q,c4⟩:=zE (d ||| g);rw [c7] at z i;rw [c4] at R z i b1 b2 J T;obtain⟨A,c5⟩:=zE (m &&& Q);obtain⟨e7,L⟩:=zE (m ||| Q);rw [c5] at b1 i;rw [L] at b2 z;have d3:=Zh z;have c1:=Zh R;clear z R c7 c4 c5 L T;go_enter Tryz.func225,Tryz.ntmps225;go_wp2_with fail;obtain⟨a,x⟩:=zE w.heap.size;have b5:(((w.alloc (.cells #[.int .u32 (k:Int),.int .u32 (c:Int)] 26)).alloc (.cells #[.int .u32 (d:Int),.int .u32 (g:Int)] 26)).alloc (.cells #[.int .u32 0,.int .u32 0] 26)).heap[a]?=some (.cells #[.int .u32 (k:Int),.int .u32 (c:Int)] 26 (0,0)):=by subst x;exact Q9 (Q9 (Q3 rfl))
 have b6:(((w.alloc (.cells #[.int .u32 (k:Int),.int .u32 (c:Int)] 26)).alloc (.cells #[.int .u32 (d:Int),.int .u32 (g:Int)] 26)).alloc (.cells #[.int .u32 0,.int .u32 0] 26)).heap[a+1]?=some (.cells #[.int .u32 (d:Int),.int .u32 (g:Int)] 26 (0,0)):=by subst x;exact Q9 (Q3 zy)
 have b7:(((w.alloc (.cells #[.int .u32 (k:Int),.int .u32 (c:Int)] 26)).alloc (.cells #[.int .u32 (d:Int),.int .u32 (g:Int)] 26)).alloc (.cells #[.int .u32 0,.int .u32 0] 26)).heap[a+2]?=some (.cells #[.int .u32 0,.int .u32 0] 26 (0,0)):=by subst x;exact Q3 zy
 have a1:Ext w (((w.alloc (.cells #[.int .u32 (k:Int),.int .u32 (c:Int)] 26)).alloc (.cells #[.int .u32 (d:Int),.int .u32 (g:Int)] 26)).alloc (.cells #[.int .u32 0,.int .u32 0] 26)):=(((Q0.refl _ w).alloc _).alloc _).alloc _;refine(d4.out _).mono ?_;generalize (((w.alloc (.cells #[.int .u32 (k:Int),.int .u32 (c:Int)] 26)).alloc (.cells #[.int .u32 (d:Int),.int .u32 (g:Int)] 26)).alloc (.cells #[.int .u32 0,.int .u32 0] 26))=e8 at b5 b6 b7 a1 ⊢;rw [x];have D:=Zh x;clear x;rintro e e4 ⟨rfl,b⟩;have a2:=a1.trans b;have W:=b.keep b5;have Y:=b.keep b6;have a0:=b.keep b7;have G:=zR W;have H:=zR Y;have a3:=Zh a0;clear b b5 b6 b7 a1;cases C
 ·clear W Y a0;have q:r=(0,0)/\t=14:=by have:=i.out;rw [if_pos (.inl rfl)] at this;exact⟨congrArg Prod.fst this,congrArg Prod.snd this⟩
  obtain⟨rfl,rfl⟩:=q;clear i
  go_wp2_with (refine wpList_store_row rfl 26 (.tmp 6) (.tmp 16) rfl (a+2) #[.int .u32 0,.int .u32 0] rfl rfl _ _ a3.out kz rfl kz ?_)
  have o:=Q0.setRow e4 (a+2) #[.int .u32 0,.int .u32 0];refine bodyPost_ret (Zr (p:=6) (u:=7) rfl rfl (setRow_heap _ _ _ _ _ _ a3.out) kz) rfl ?_;exact⟨rfl,a2.after o (fun c v e=>by have:=D.out;omega)⟩
 go_wp2_with fail;refine(d5.out _).mono ?_;rintro e c9 ⟨rfl,b⟩;have P:=a2.trans b;have M:=b.keep W;have N:=b.keep Y;have O:=b.keep a0;clear G H a3 b W Y a0 a2;have G:=zR M;have H:=zR N;have F:=Zh O;cases d1
 ·clear M N O;have q:r=(0,0)/\t=14:=by have:=i.out;rw [if_pos (.inr rfl)] at this;exact⟨congrArg Prod.fst this,congrArg Prod.snd this⟩
  obtain⟨rfl,rfl⟩:=q;clear i
  go_wp2_with (refine wpList_store_row rfl 26 (.tmp 6) (.tmp 16) rfl (a+2) #[.int .u32 0,.int .u32 0] rfl rfl _ _ F.out kz rfl kz ?_)
  have o:=Q0.setRow c9 (a+2) #[.int .u32 0,.int .u32 0];refine bodyPost_ret (Zr (p:=6) (u:=7) rfl rfl (setRow_heap _ _ _ _ _ _ F.out) kz) rfl ?_;exact⟨rfl,P.after o (fun c v e=>by have:=D.out;omega)⟩
 by_cases e3:16777215<m
 ·have d7:(16777215:Int)<(m:Int):=by omega
  clear M N O;have q:r=(0,0)/\t=2:=by have:=i.out;rw [if_neg zd,if_pos (.inl e3)] at this;exact⟨congrArg Prod.fst this,congrArg Prod.snd this⟩
  obtain⟨rfl,rfl⟩:=q;clear i
  go_wp2_with (refine wpList_store_row rfl 26 (.tmp 6) (.tmp 26) rfl (a+2) #[.int .u32 0,.int .u32 0] rfl rfl _ _ F.out kz rfl kz ?_)
  have o:=Q0.setRow c9 (a+2) #[.int .u32 0,.int .u32 0];refine bodyPost_ret (Zr (p:=6) (u:=7) rfl rfl (setRow_heap _ _ _ _ _ _ F.out) kz) rfl ?_;exact⟨rfl,P.after o (fun c v e=>by have:=D.out;omega)⟩
 have d7:¬ (16777215:Int)<(m:Int):=by omega
 go_wp2_with fail;refine(c1.out _).mono ?_;rintro e B ⟨rfl,b⟩;have c0:=P.trans b;have X:=b.keep M;have Z:=b.keep N;have b8:=b.keep O;clear G H F b M N O P;have G:=zR X;have H:=zR Z;have a4:=Zh b8;by_cases c6:A=0;case neg=>
  have e6:((A:Int) != 0)=true:=by rw [bne_iff_ne];omega
  clear X Z b8;have q:r=(0,0)/\t=2:=by have:=i.out;rw [if_neg zd,if_pos (.inr c6)] at this;exact⟨congrArg Prod.fst this,congrArg Prod.snd this⟩
  obtain⟨rfl,rfl⟩:=q;clear i
  go_wp2_with (refine wpList_store_row rfl 26 (.tmp 6) (.tmp 26) rfl (a+2) #[.int .u32 0,.int .u32 0] rfl rfl _ _ a4.out kz rfl kz ?_)
  have o:=Q0.setRow B (a+2) #[.int .u32 0,.int .u32 0];refine bodyPost_ret (Zr (p:=6) (u:=7) rfl rfl (setRow_heap _ _ _ _ _ _ a4.out) kz) rfl ?_;exact⟨rfl,c0.after o (fun c v e=>by have:=D.out;omega)⟩
 subst c6;have q:r=(b3,b4)/\t=0:=by have:=i.out;rw [if_neg zd,if_neg oz] at this;exact⟨congrArg Prod.fst this,congrArg Prod.snd this⟩
 obtain⟨rfl,rfl⟩:=q;clear i;have c3:∀(l:World),Q0 (·=a+2) B l->l.cell? ⟨a,0,none⟩=some (.int .u32 (k:Int))/\l.cell? ⟨a,1,none⟩=some (.int .u32 (c:Int))/\l.cell? ⟨a+1,0,none⟩=some (.int .u32 (d:Int))/\l.cell? ⟨a+1,1,none⟩=some (.int .u32 (g:Int)):=by
  intro l c2;have d8:=c2.heap X oz;have v:=c2.heap Z oz;simp [World.cell?,d8,v]
 have E:=Zh c3;clear c3 X Z b8;go_wp2_with fail;clear G H;refine wp_region_held_drew (S:=fun l=>l.cell? ⟨a,0,none⟩=some (.int .u32 (k:Int))/\l.cell? ⟨a,1,none⟩=some (.int .u32 (c:Int))/\l.cell? ⟨a+1,0,none⟩=some (.int .u32 (d:Int))/\l.cell? ⟨a+1,1,none⟩=some (.int .u32 (g:Int))) kz (E.out _ (Q0.drew (Q0.refl _ B))) ?_;intro I;refine tH 0 27 I ?_;refine tH 1 28 I ?_;refine tH 2 29 I ?_;refine tH 3 30 I ?_;refine rH [4] ?_;refine AllReadyH.cons rfl (fun K hK=>?_) AllReadyH.nil;refine iw rfl ?_;go_simp;refine(c1.out _).mono ?_;rintro e e5 ⟨rfl,b⟩;have c8:Ext B e5:=Q0.trans (Q0.drew (Q0.refl _ B)) b;refine hK.out _ _ (E.out _ (Ext.of c8)) (fun hS1=>?_);clear hK K b;refine tH 5 32 hS1 ?_;refine rH [6] ?_;refine AllReadyH.cons rfl (fun K hK=>?_) AllReadyH.nil;refine iw rfl ?_;go_simp;refine(d3.out _).mono ?_;rintro e d0 ⟨rfl,b⟩;have U:Ext B d0:=Q0.trans c8 b;have b9:=U.keep a4.out;refine hK.out _ _ (E.out _ (Ext.of U)) (fun hS2=>?_);clear hK K b;refine rH [7] ?_;refine AllReadyH.cons rfl (fun K hK=>?_) AllReadyH.nil;refine iw rfl ?_;refine wp_store_row 26 (.tmp 6) (.tmp 33) rfl (a+2) #[.int .u32 (b3:Int),.int .u32 (b4:Int)] rfl rfl _ _ b9 kz rfl kz ?_;have o:=Q0.setRow d0 (a+2) #[.int .u32 (b3:Int),.int .u32 (b4:Int)];refine hK.out _ _ (E.out _ ((Ext.of U).trans o)) (fun hS3=>?_);clear hK K;change wpAnyH _ _ _ _ _ _ _ (Act.put _ none _) _;simp only [Act.put];refine tH 8 7 hS3 ?_;refine wpAnyH_done kz ?_ _;have d2:=c0.trans U;clear I hS1 hS2 hS3 E;have d6:=Zh b9;clear b9;go_wp2;refine bodyPost_ret (Zr (p:=6) (u:=7) rfl rfl (setRow_heap _ _ _ _ _ _ d6.out) kz) rfl ?_;exact⟨rfl,d2.after o (fun c v e=>by have:=D.out;omega)⟩
def Pr(s:Nat × Nat)(f:Nat):Prop:=∀ i,i<f->¬ (s.1.testBit i=true/\s.2.testBit i=true)/\((s.1.testBit i=true\/s.2.testBit i=true)->i<24)
theorem Q8k{s:Nat × Nat}{f:Nat}(h:Pr s f)(h1:¬ (s.1.testBit f=true/\s.2.testBit f=true)) (h2:(s.1.testBit f=true\/s.2.testBit f=true)->f<24):Pr s (f+1):=fun i hi=>by
 by_cases e:i=f
 ·subst e;exact⟨h1,h2⟩
 ·exact h i oz
theorem Q8v{s:Nat × Nat}(c:Qh s){f:Nat}(b:f<32)(h:(s.1.testBit f=true/\s.2.testBit f=true)\/((s.1.testBit f=true\/s.2.testBit f=true)/\24<=f)):okS s=false:=by
 cases hq:okS s with
 | false=>rfl
 | true=>
  have:=(Dp c).1 hq f b;rcases h with h | ⟨a,d⟩
  ·exact absurd h this.1
  ·have:=this.2 a;omega
theorem Vo{s:Nat × Nat}(r:Qh s)(w:World) :
  Calls Tryz.prog 65 #[sV s] w fun e w'=>e=.returned (.bool (okS s))/\Ext w w':=by
 have m:=fun(c:Nat) (H:c<32)=>Q8v r H;have A:Pr s 32->okS s=true:=fun h=>(Dp r).2 h;have n:=fun(c:Nat) (h:Pr s c)=>Q8k h;obtain⟨N,f⟩:=zE (okS s);rw [f] at m A ⊢;have F:=fun(c:Nat)=>Pv s.1 c r.1;have G:=fun(c:Nat)=>Pv s.2 c r.2;obtain⟨R,S,T,P,Q⟩:=Zh5 m A n F G;have E:Pr s 0:=fun i h=>by omega
 have B:=Zh E;clear m A n F G f E;go_enter Tryz.func65,Tryz.ntmps65;go_wp2;have o:(w.alloc (.cells #[.int .u32 (s.1:Int),.int .u32 (s.2:Int)] 26)).heap[w.heap.size]?=some (.cells #[.int .u32 (s.1:Int),.int .u32 (s.2:Int)] 26 (0,0)):=Q3 rfl;have p:Ext w (w.alloc (.cells #[.int .u32 (s.1:Int),.int .u32 (s.2:Int)] 26)):=(Q0.refl _ w).alloc _;generalize (w.alloc (.cells #[.int .u32 (s.1:Int),.int .u32 (s.2:Int)] 26))=a2 at o p ⊢;generalize w.heap.size=O at o ⊢;have U:=Zh o;clear o
 refine wp_loop (fun a D=>∃(c:Nat),c<=32/\a.defers=[]/\(a.tmps.size=36/\a.tmps.getD 1 undef=.pointer (some ⟨O,0,none⟩)/\a.tmps.getD 3 undef=.int .i64 c)/\Hid (Pr s c)/\Ext a2 D)
  (fun a _=>32 - (intOf (a.tmps.getD 3 undef)).toNat) ?_ ?_
 ·exact⟨0,by omega,rfl,⟨rfl,rfl,rfl⟩,B,Q0.refl _ _⟩
 clear B;rintro⟨a0,_⟩ D ⟨c,H,X,⟨K,t,u⟩,C,z⟩;subst X;obtain⟨a1,L⟩:=Z5 K;obtain⟨b,rfl⟩:∃ x,x=a1:=⟨_,rfl⟩;have Z:a0=#[b 0,b 1,b 2,b 3,b 4,b 5,b 6,b 7,b 8,b 9,b 10,b 11,b 12,b 13,b 14,b 15,b 16,b 17,b 18,b 19,b 20,b 21,b 22,b 23,b 24,b 25,b 26,b 27,b 28,b 29,b 30,b 31,b 32,b 33,b 34,b 35]:=L;clear L;subst Z;change b 1=_ at t;change b 3=_ at u;rw [t,u];clear t u K;have o:=z.keep U.out;have a3:=zR o;have d:=Zh z;clear o z;by_cases Y:c<32
 ·have a4:(c:Int)<32:=by omega
  have V:=P.out c;have W:=Q.out c;have m:=R.out c Y;have n:=T.out c C.out;obtain⟨q,I⟩:=zE (s.1.testBit c);obtain⟨M,J⟩:=zE (s.2.testBit c);rw [I] at V m n;rw [J] at W m n;have g:=Zh m;have k:=Zh n;clear m n I J;cases q
  ·cases M
   ·have l:=Zh (k.out zy zy);clear g k;go_wp2;first | exact⟨⟨c+1,by omega,tz,⟨rfl,rfl,rfl⟩,l,d.out⟩,nz⟩ | exact⟨⟨c+1,by omega,by simp,l,d.out⟩,nz⟩
   ·by_cases y:24<=c
    ·have v:(24:Int)<=(c:Int):=by omega
     have f:=g.out (.inr ⟨.inr rfl,y⟩);subst f;clear g k;go_wp2;go_ret;exact⟨rfl,p.trans d.out⟩
    ·have v:¬ (24:Int)<=(c:Int):=by omega
     have l:=Zh (k.out zy (fun _=>by omega));clear g k;go_wp2;first | exact⟨⟨c+1,by omega,tz,⟨rfl,rfl,rfl⟩,l,d.out⟩,nz⟩ | exact⟨⟨c+1,by omega,by simp,l,d.out⟩,nz⟩
  ·cases M
   ·by_cases y:24<=c
    ·have v:(24:Int)<=(c:Int):=by omega
     have f:=g.out (.inr ⟨.inl rfl,y⟩);subst f;clear g k;go_wp2;go_ret;exact⟨rfl,p.trans d.out⟩
    ·have v:¬ (24:Int)<=(c:Int):=by omega
     have l:=Zh (k.out zy (fun _=>by omega));clear g k;go_wp2;first | exact⟨⟨c+1,by omega,tz,⟨rfl,rfl,rfl⟩,l,d.out⟩,nz⟩ | exact⟨⟨c+1,by omega,by simp,l,d.out⟩,nz⟩
   ·have f:=g.out (.inl ⟨rfl,rfl⟩);subst f;clear g k;go_wp2;go_ret;exact⟨rfl,p.trans d.out⟩
 ·obtain rfl:c=32:=by omega
  have f:=S.out C.out;subst f;go_wp2;go_ret;exact⟨rfl,p.trans d.out⟩
def byt(n i:Nat):UInt8:=UInt8.ofNat (n / 2 ^ (8*i))
def Ue(s:Nat × Nat):List UInt8:=[byt s.1 0,byt s.2 0,byt s.1 1,byt s.2 1,byt s.1 2,byt s.2 2,byt s.1 3,byt s.2 3]
def Y9(u:Wd):List UInt8:=u.flatMap Ue
def Uj(u:Wd):ByteArray:=⟨(Y9 u).toArray⟩
theorem Pt{n m i:Nat}(h:byt n i=byt m i):n / 2 ^ (8*i) % 256=m / 2 ^ (8*i) % 256:=by
 have:=congrArg UInt8.toNat h
 simpa [byt,UInt8.toNat_ofNat'] using this
theorem Q8n{n m:Nat}(k:n<4294967296)(j:m<4294967296)(e:byt n 0=byt m 0)(f:byt n 1=byt m 1)(g:byt n 2=byt m 2)(i:byt n 3=byt m 3):n=m:=by
 have a:=Pt e;have b:=Pt f;have c:=Pt g;have d:=Pt i;simp only [Nat.mul_zero,Nat.mul_one,Nat.pow_zero,Nat.div_one,show (2:Nat) ^ 8=256 from rfl,show (2:Nat) ^ (8*2)=65536 from rfl,show (2:Nat) ^ (8*3)=16777216 from rfl] at a b c d;omega
theorem Qaw{s t:Nat × Nat}(a:Qh s)(b:Qh t)(h:Ue s=Ue t):s=t:=by
 unfold Ue at h;simp only [List.cons.injEq,and_true] at h;obtain⟨c,g,d,i,e,j,f,k⟩:=h;exact Prod.ext (Q8n a.1 b.1 c d e f) (Q8n a.2 b.2 g i j k)
theorem Er:∀ {u v:Wd},(∀ s∈u,Qh s)->(∀ s∈v,Qh s)->Y9 u=Y9 v->u=v
 | [],[],_,_,_=>rfl
 | [],t::v,_,_,h=>by simp [Y9,Ue] at h
 | s::u,[],_,_,h=>by simp [Y9,Ue] at h
 | s::u,t::v,hu,hv,h=>by
  have h':Ue s++Y9 u=Ue t++Y9 v:=h;have hl:(Ue s).length=(Ue t).length:=rfl;obtain⟨h1,h2⟩:=List.append_inj h' hl;rw [Qaw (hu s zy) (hv t zy) h1,Er (fun x hx=>hu x (by simp [hx])) (fun x hx=>hv x (by simp [hx])) h2]
theorem Nq(u:Wd):(Y9 u).length=8*u.length:=by
 induction u with
 | nil=>rfl
 | cons s u ih=>show (Ue s++Y9 u).length=_;rw [List.length_append,ih];simp [Ue];omega
def Y6(sh:List Int):Int:=if 64<sh.length then 12 else if sh.any (fun k=>decide (k < -1) || decide ((sh.length:Int)<=k))=true then 3 else 0
def U7(sh:List Int):Nat->Int->List Int->List Int
 | 0,_,d=>d
 | n+1,k,d=>if 0<=k/\k ∉ d then U7 sh n (sh.getD k.toNat (-1)) (d++[k]) else d
def He(sh:List Int):Nat->Int->List Int->List Int
 | 0,_,d=>d
 | n+1,k,d=>if k ∉ d then He sh n (if sh.getD k.toNat (-1)≠-1/\sh.getD k.toNat (-1)≠k then sh.getD k.toNat (-1) else k) (d++[k]) else d
def Zy(sh:List Int)(i:Nat):List Int:=U7 sh 65 i []
def Vf(sh:List Int)(i:Nat):Bool:=decide (sh.getD i (-1)≠-1) && decide (sh.getD i (-1)≠i)
def toB(sh:List Int)(i:Nat):Bool:=(List.range sh.length).any fun k=>decide (k≠i) && decide (sh.getD k (-1)=i)
def Q4c(sh:List Int):List (List Int):=((List.range sh.length).filter fun i=>Vf sh i && !toB sh i).map (Zy sh)
def Di(sh:List Int)(i:Nat):Bool:=Vf sh i && decide (sh.getD ((Zy sh i).getLastD 0).toNat (-1)=i) && (Zy sh i).all fun k=>decide ((i:Int)<=k)
def Q49(sh:List Int):List (List Int):=((List.range sh.length).filter (Di sh)).map (Zy sh)
theorem P0{sh:List Int}(e:∀ k∈sh,-1<=k):∀(n:Nat) (k:Int) (d:List Int),0<=k->U7 sh n k d=He sh n k d
 | 0,_,_,_=>rfl
 | n+1,k,d,hk=>by
  have hg:-1<=sh.getD k.toNat (-1):=by
   rw [List.getD_eq_getElem?_getD];cases h:sh[k.toNat]? with
   | none=>exact Int.le_refl _
   | some x=>exact e x (List.mem_of_getElem? h)
  unfold U7 He;by_cases a:k∈d
  ·rw [if_neg (fun h=>h.2 a),if_neg (fun h=>h a)]
  ·rw [if_pos ⟨hk,a⟩,if_pos a];by_cases b:sh.getD k.toNat (-1)=-1
   ·rw [if_neg (fun h=>h.1 b),b];cases n with
    | zero=>rfl
    | succ n=>unfold U7 He;rw [if_neg (fun h=>by omega),if_neg (fun h=>h zy)]
   ·by_cases c:sh.getD k.toNat (-1)=k
    ·rw [if_neg (fun h=>h.2 c),c];cases n with
     | zero=>rfl
     | succ n=>unfold U7 He;rw [if_neg (fun h=>h.2 zy),if_neg (fun h=>h zy)]
    ·rw [if_pos ⟨b,c⟩];exact P0 e n _ _ oz
def Jj(l:List Int):Int:=if 256<l.length then 12 else if (List.range l.length).all (fun i=>decide (0<=l.getD i 0) && decide (l.getD i 0<=i) && decide (l.getD (l.getD i 0).toNat 0=l.getD i 0))=true then 0 else 2
def Wo(l:List Int)(i:Nat):Nat:=l.countP fun k=>decide (k=(i:Int))
def Q19(l:List Int):List Nat:=((List.range l.length).map (Wo l)).filter fun n=>decide (n≠0)
def X3(l:List Nat):List Value:=l.map fun(x:Nat)=>Value.int .i64 (x:Int)
def U1(l:List Int)(k j:Nat):Nat:=(l.take k).countP fun x=>decide (x=(j:Int))
def Jv(l:List Int)(n k:Nat):List Nat:=(List.range n).map (U1 l k)
theorem Ez(l:List Int)(n k:Nat):(Jv l n k).length=n:=by simp [Jv]
theorem Rz(l:List Int)(k j:Nat):U1 l k j<=k:=Nat.le_trans List.countP_le_length (by rw [List.length_take];omega)
theorem Sw{l:List Int}{k:Nat}(b:k<l.length)(j:Nat):U1 l (k+1) j=U1 l k j+if l[k]=(j:Int) then 1 else 0:=by
 unfold U1;rw [List.take_succ_eq_append_getElem b,List.countP_append];by_cases a:l[k]=(j:Int) <;> simp [a]
theorem Q3w{l:List Int}{n k x:Nat}(c:k<l.length)(b:l[k]=(x:Int)):X3 (Jv l n (k+1))=(X3 (Jv l n k)).set x (.int .i64 ((U1 l k x:Nat)+1)):=by
 apply List.ext_getElem
 ·simp [X3,Jv]
 ·intro d e f;rw [List.getElem_set];simp only [X3,Jv,List.getElem_map,List.getElem_range];rw [Sw c];by_cases a:x=d
  ·subst a;rw [if_pos b,if_pos rfl];rfl
  ·rw [if_neg (by rw [b];omega),if_neg a];rfl
theorem Q3o(l:List Int)(n:Nat):X3 (Jv l n 0)=List.replicate n (.int .i64 0):=by
 apply List.ext_getElem
 ·simp [X3,Jv]
 ·intro c a b;simp [X3,Jv,U1]
theorem Q6t(l:List Int):(Jv l l.length l.length).filter (fun n=>decide (n≠0))=Q19 l:=by
 unfold Q19 Jv
 congr 1
 apply List.map_congr_left;intro a _;unfold U1 Wo;rw [List.take_length]
def Tj(l:List Int)(k:Nat):Prop:=∀ i,i<k->0<=l.getD i 0/\l.getD i 0<=i/\l.getD (l.getD i 0).toNat 0=l.getD i 0
theorem Q4l{l:List Int}(h:l.length<=256)(e:Tj l l.length):Jj l=0:=by
 unfold Jj;rw [if_neg oz,if_pos];rw [List.all_eq_true];intro f a;rw [List.mem_range] at a;obtain⟨b,c,d⟩:=e f a;rw [decide_eq_true b,decide_eq_true c,decide_eq_true d];rfl
theorem Q4x{l:List Int}(h:l.length<=256){i:Nat}(c:i<l.length)(b:¬ (0<=l.getD i 0/\l.getD i 0<=i/\l.getD (l.getD i 0).toNat 0=l.getD i 0)):Jj l=2:=by
 unfold Jj;rw [if_neg oz,if_neg];intro a;have:=(List.all_eq_true.1 a) i (List.mem_range.2 c);simp only [Bool.and_eq_true,decide_eq_true_eq] at this;exact b ⟨this.1.1,this.1.2,this.2⟩
theorem Q0c{l:List Int}(h:¬ l.length<=256):Jj l=12:=by unfold Jj;rw [if_pos oz]
def Kd(l:List Int):List Nat:=if Jj l=0 then Q19 l else []
theorem Pe{α:Type}(p:α->Bool){f:List α}{i:Nat}(b:i<f.length):(f.take (i+1)).filter p=(f.take i).filter p++if p f[i]=true then [f[i]] else []:=by
 rw [List.take_succ_eq_append_getElem b,List.filter_append];by_cases a:p f[i]=true <;> simp [a]
set_option maxHeartbeats 4000000 in
theorem Q2v{f:Nat}(c:f<24)(w:World) :
  Calls Tryz.prog 227 #[.int .i64 (f:Int)] w fun e w'=>e=.returned (.bool true)/\w'=w:=by
 have a:(0:Int)<=(f:Int):=by omega
 have b:(f:Int)<24:=by omega
 go_enter Tryz.func227,Tryz.ntmps227;go_wp2;go_ret;exact⟨rfl,rfl⟩
set_option maxHeartbeats 4000000 in
theorem M2{s:Nat × Nat}(d:Qh s)(m:okS s=true){f:Nat}(v:f<24)(w:World) :
  Calls Tryz.prog 214 #[sV s,.int .i64 (f:Int)] w fun e w'=>e=.returned (.int .i64 (X2 s f))/\Ext w w':=by
 have g:=fun(V:World)=>Vo d V;rw [m] at g;have t:=Pv s.1 f d.1;have u:=Pv s.2 f d.2;have b:X2 s f=if s.1.testBit f=true then 1 else if s.2.testBit f=true then -1 else 0:=rfl
 obtain⟨a,n⟩:=zE (s.1.testBit f);obtain⟨x,o⟩:=zE (s.2.testBit f);rw [n] at t b;rw [o] at u b;have r:=Zh g;have i:=Zh b;clear g b n o m;have z:(f:Int)<32:=by omega
 have A:(0:Int)<=(f:Int):=by omega
 go_enter Tryz.func214,Tryz.ntmps214;go_wp2_with fail;have p:(w.alloc (.cells #[.int .u32 (s.1:Int),.int .u32 (s.2:Int)] 26)).heap[w.heap.size]?=some (.cells #[.int .u32 (s.1:Int),.int .u32 (s.2:Int)] 26 (0,0)):=Q3 rfl;have k:Ext w (w.alloc (.cells #[.int .u32 (s.1:Int),.int .u32 (s.2:Int)] 26)):=(Q0.refl _ w).alloc _;refine(r.out _).mono ?_;rintro e B ⟨rfl,c⟩;have l:=k.trans c;have q:=c.keep p;have y:=zR q;clear p q k c;go_wp2_with fail;refine(Q2v v _).mono ?_;rintro e C ⟨rfl,rfl⟩;cases a
 ·cases x
  all_goals
   go_wp2;go_ret;exact⟨by rw [i.out];rfl,l⟩
 ·go_wp2;go_ret;exact⟨by rw [i.out];rfl,l⟩
set_option maxHeartbeats 4000000 in
theorem Q2o{s:Nat × Nat}(J:Qh s){f:Nat}(N:f<24)(v:Int)(w:World) :
  Calls Tryz.prog 217 #[sV s,.int .i64 (f:Int),.int .i64 v] w fun e w'=>e=.returned (sV (W8 s f v))/\Ext w w':=by
 obtain⟨a,b⟩:=s;obtain⟨m,n⟩:=J;dsimp only at m n;have K:(2:Int) ^ f % 4294967296=((2 ^ f:Nat):Int):=by rw [<-IntKind.wrap_u32'];exact Qdq oz
 have j:=Qe9 (show f<32 by omega);have F:=Ht a (2 ^ f) m j;have G:=Ht b (2 ^ f) n j;have t:=u32_or_nat (Y3 a (2 ^ f)) (2 ^ f) (Pu m) j;have u:=u32_or_nat (Y3 b (2 ^ f)) (2 ^ f) (Pu n) j;obtain⟨B,C⟩:∃ B:Int,((2 ^ f:Nat):Int)=B:=⟨_,rfl⟩;rw [C] at F G t u K;have D:W8 (a,b) f v=(Y3 a (2 ^ f) ||| (if v=1 then 2 ^ f else 0),Y3 b (2 ^ f) ||| (if v=-1 then 2 ^ f else 0)):=rfl;obtain⟨z,o⟩:=zE (Y3 a (2 ^ f));obtain⟨A,p⟩:=zE (Y3 b (2 ^ f));obtain⟨H,q⟩:=zE (Y3 a (2 ^ f) ||| 2 ^ f);obtain⟨I,r⟩:=zE (Y3 b (2 ^ f) ||| 2 ^ f);rw [q] at t;rw [r] at u;rw [o] at F t;rw [p] at G u
 have c:=Zh (show W8 (a,b) f v=(if v=1 then H else z,if v=-1 then I else A) by
  rw [D,<-o,<-p,<-q,<-r]
  congr 1
  ·split <;> simp
  ·split <;> simp)
 obtain⟨⟨d,g⟩,E⟩:=zE (W8 (a,b) f v);rw [E] at c ⊢;clear D o p q r E j C;have O:(f:Int)<32:=by omega
 have P:(0:Int)<=(f:Int):=by omega
 go_enter Tryz.func217,Tryz.ntmps217;by_cases k:v=1
 ·subst k;have i:d=H/\g=A:=by have:=c.out;simpa using this
  obtain⟨rfl,rfl⟩:=i;clear c;go_wp2;refine bodyPost_ret (results_cell_row rfl _ _ (w.heap.size+1) _ #[.int .u32 (d:Int),.int .u32 (g:Int)] _ _ rfl (Q9 (Q3 zy)) Tryz.underlying26 rfl kz) rfl ?_;exact⟨rfl,(((Q0.refl _ _).alloc _).alloc _).alloc _⟩
 by_cases l:v=-1
 ·subst l;have i:d=z/\g=I:=by have:=c.out;simpa using this
  obtain⟨rfl,rfl⟩:=i;clear c;go_wp2;refine bodyPost_ret (results_cell_row rfl _ _ (w.heap.size+1) _ #[.int .u32 (d:Int),.int .u32 (g:Int)] _ _ rfl (Q9 (Q3 zy)) Tryz.underlying26 rfl kz) rfl ?_;exact⟨rfl,(((Q0.refl _ _).alloc _).alloc _).alloc _⟩
 ·have i:d=z/\g=A:=by have:=c.out;rw [if_neg k,if_neg l] at this;exact⟨congrArg Prod.fst this,congrArg Prod.snd this⟩
  obtain⟨rfl,rfl⟩:=i;have L:(v == 1)=false:=by rw [beq_eq_false_iff_ne];exact k
  have M:(v == -1)=false:=by rw [beq_eq_false_iff_ne];exact l
  clear c;go_wp2;refine bodyPost_ret (results_cell_row rfl _ _ (w.heap.size+1) _ #[.int .u32 (d:Int),.int .u32 (g:Int)] _ _ rfl (Q9 (Q3 zy)) Tryz.underlying26 rfl kz) rfl ?_;exact⟨rfl,(((Q0.refl _ _).alloc _).alloc _).alloc _⟩
def Tg(s c:Nat × Nat)(f:Nat):Prop:=∀ i,i<f->X2 c i≠0->X2 s i=X2 c i
theorem Q6h{s c:Nat × Nat}{f:Nat}(h:Tg s c f)(h1:X2 c f≠0->X2 s f=X2 c f):Tg s c (f+1):=fun i hi=>by
 by_cases e:i=f
 ·subst e;exact h1
 ·exact h i oz
theorem Qc3{s c:Nat × Nat}(I:Qh s)(E:Qh c)(w:World) :
  Calls Tryz.prog 201 #[sV s,sV c] w fun e w'=>e=.returned (.bool (Jk s c))/\Ext w w':=by
 have Z:=fun(l:World)=>Vo I l;have a0:=fun(l:World)=>Vo E l;have X:=fun(f:okS s=true) (b:Nat) (r:b<24) (l:World)=>M2 I f r l;have Y:=fun(f:okS c=true) (b:Nat) (r:b<24) (l:World)=>M2 E f r l;have y:okS s=false\/okS c=false->Jk s c=false:=fun f=>by unfold Jk;rcases f with f | f <;> rw [f] <;> simp
 have z:okS s=true->okS c=true->Tg s c 24->Jk s c=true:=fun x h2 f=>by unfold Jk;rw [x,h2,(Q0g I E x h2).2 f];rfl
 have A:okS s=true->okS c=true->∀ b,b<24->X2 c b≠0->X2 s b≠X2 c b->Jk s c=false:=fun x h2 b r h3 h4=>by
  unfold Jk;cases f:Bf s c with
  | false=>simp
  | true=>exact absurd ((Q0g I E x h2).1 f b r h3) h4
 obtain⟨q,o⟩:=zE (okS s);obtain⟨c6,p⟩:=zE (okS c);obtain⟨d4,k⟩:=zE (Jk s c);rw [o] at Z X y z A;rw [p] at a0 Y y z A;rw [k] at y z A ⊢;obtain⟨c1,v,b7,b8,a3,b9,c0⟩:=Zh7 Z a0 X Y y z A;have a2:Hid (Tg s c 0):=Zh (fun i f=>by omega);clear Z a0 X Y y z A o p k;go_enter Tryz.func201,Tryz.ntmps201;go_wp2_with fail;have Q:Ext w ((w.alloc (.cells #[.int .u32 (s.1:Int),.int .u32 (s.2:Int)] 26)).alloc (.cells #[.int .u32 (c.1:Int),.int .u32 (c.2:Int)] 26)):=((Q0.refl _ w).alloc _).alloc _;have K:((w.alloc (.cells #[.int .u32 (s.1:Int),.int .u32 (s.2:Int)] 26)).alloc (.cells #[.int .u32 (c.1:Int),.int .u32 (c.2:Int)] 26)).heap[w.heap.size]?=some (.cells #[.int .u32 (s.1:Int),.int .u32 (s.2:Int)] 26 (0,0)):=Q9 (Q3 rfl);have N:((w.alloc (.cells #[.int .u32 (s.1:Int),.int .u32 (s.2:Int)] 26)).alloc (.cells #[.int .u32 (c.1:Int),.int .u32 (c.2:Int)] 26)).heap[w.heap.size+1]?=some (.cells #[.int .u32 (c.1:Int),.int .u32 (c.2:Int)] 26 (0,0)):=Q3 zy;refine(c1.out _).mono ?_;generalize ((w.alloc (.cells #[.int .u32 (s.1:Int),.int .u32 (s.2:Int)] 26)).alloc (.cells #[.int .u32 (c.1:Int),.int .u32 (c.2:Int)] 26))=d2 at Q K N ⊢;generalize w.heap.size=a1 at K N ⊢;rintro e d3 ⟨rfl,d⟩;have R:=Q.trans d;have L:=d.keep K;have O:=d.keep N;have m:=zR L;have n:=zR O;clear d K N Q;cases q
 ·have k:=a3.out (.inl rfl);subst k;clear L O;go_wp2;go_ret;exact⟨rfl,R⟩
 go_wp2_with fail;refine(v.out _).mono ?_;rintro e c5 ⟨rfl,d⟩;have S:=R.trans d;have M:=d.keep L;have P:=d.keep O;clear m n;have m:=zR M;have n:=zR P;clear d L O R;cases c6
 ·have k:=a3.out (.inr rfl);subst k;clear M P;go_wp2;go_ret;exact⟨rfl,S⟩
 have c2:=Zh M;have c3:=Zh P;clear M P;go_wp2;clear m n
 refine wp_loop (fun a a6=>∃(b:Nat),b<=24/\a.defers=[]/\gS a [2,3,5]=(31,[.pointer (some ⟨a1,0,none⟩),.pointer (some ⟨a1+1,0,none⟩),.int .i64 b])/\Hid (Tg s c b)/\Ext c5 a6)
  (fun a _=>24 - (intOf (a.tmps.getD 5 undef)).toNat) ?_ ?_
 ·exact⟨0,by omega,rfl,rfl,a2,Q0.refl _ _⟩
 clear a2;rintro⟨d0,_⟩ a6 ⟨b,r,c4,b2,a4,D⟩;subst c4;obtain⟨d1,rfl⟩:=Qc b2;clear b2;have o:=D.keep c2.out;have p:=D.keep c3.out;have m:=zR o;have n:=zR p;have a5:=Zh D;clear D;by_cases W:b<24
 ·have x:(b:Int)<24:=by omega
  obtain⟨C,b0⟩:=zE (X2 c b);obtain⟨a7,b1⟩:=zE (X2 s b);have U:=b7.out tz b W;have V:=b8.out tz b W;have H:=c0.out tz tz b W;have J:=Q6h a4.out;rw [b1] at U H J;rw [b0] at V H J;obtain⟨b5,b6,B,u⟩:=Zh4 U V H J;clear U V H J b0 b1;go_wp2_with fail;refine(b6.out _).mono ?_;rintro e l ⟨rfl,d⟩;have a8:=a5.out.trans d;have b3:=d.keep o;have b4:=d.keep p;clear m n o p d;have m:=zR b3;have n:=zR b4;clear b3 b4;have T:=Zh a8;clear a8;by_cases F:C=0
  ·subst F;have t:=Zh (u.out (fun f=>absurd rfl f));clear B u;go_wp2;first | exact⟨⟨b+1,by omega,tz,rfl,t,T.out⟩,nz⟩ | exact⟨⟨b+1,by omega,by simp,t,T.out⟩,nz⟩
  ·have c8:(C != 0)=true:=by rw [bne_iff_ne];exact F
   go_wp2_with fail;refine(b5.out _).mono ?_;rintro e c7 ⟨rfl,d⟩;have a9:=T.out.trans d;have v:=Zh a9;clear m n d a9;by_cases G:a7=C
   ·subst G;have t:=Zh (u.out (fun _=>rfl));clear B u;go_wp2;first | exact⟨⟨b+1,by omega,tz,rfl,t,v.out⟩,nz⟩ | exact⟨⟨b+1,by omega,by simp,t,v.out⟩,nz⟩
   ·have k:=B.out F G;subst k;have c9:(a7 != C)=true:=by rw [bne_iff_ne];exact G
    clear B u F G;go_wp2;go_ret;exact⟨rfl,S.trans v.out⟩
 ·obtain rfl:b=24:=by omega
  have k:=b9.out tz tz a4.out;subst k;clear o p m n;go_wp2;go_ret;exact⟨rfl,S.trans a5.out⟩
theorem Ci{s f:Nat × Nat}{m:Nat}(c6:Qh s)(c4:Qh f)(j3:m<4294967296)(w:World) :
  Calls Tryz.prog 205 #[sV s,sV f,.int .u32 (m:Int)] w fun e w'=>e=.returned (.tuple #[sV (Ju s f m).1,.int .i64 (Ju s f m).2])/\Ext w w':=by
 have e2:=fun(V:World)=>Vo c6 V;have e3:=fun(V:World)=>Vo c4 V;have I:=fun(h:okS f=true) (c:Nat) (c5:c<24) (V:World)=>M2 c4 h c5 V;have g5:=fun(c:Nat) (c5:c<24) (v:Int) (V:World)=>Q2o (Fc (s:=s) (f:=f) (m % 2 ^ c) c6 c4) c5 v V;have e1:=fun(h:okS f=true) (c:Nat)=>Q18 (s:=s) m c c6 c4 h;have c1:Xt s f (m % 2 ^ 0)=s:=by rw [Nat.pow_zero,Nat.mod_one];exact Q1b f c6
 have g0:m<16777216->m % 2 ^ 24=m:=Q85;have f8:=fun(c:Nat)=>Pv m c j3;obtain⟨X,A⟩:=zE (okS s);obtain⟨g8,z⟩:=zE (okS f);rw [A] at e2;rw [z] at e3 I e1;have y:Hid (Ju s f m=if X=false\/g8=false then((0,0),14) else if 16777215<m then((0,0),2) else(Xt s f m,0)):=Zh (by unfold Ju;rw [A,z]);obtain⟨t,W,a9⟩:∃ t W,Ju s f m=(t,W):=⟨_,_,rfl⟩;rw [a9] at y ⊢;obtain⟨i4,i5,f5,i1,f6,f2,f4,g9⟩:=Zh8 e2 e3 I g5 e1 c1 g0 f8;clear e2 e3 I g5 e1 c1 g0 f8 A z a9;go_enter Tryz.func205,Tryz.ntmps205;go_wp2_with fail;obtain⟨d,R⟩:=zE w.heap.size;have e5:(((w.alloc (.cells #[.int .u32 (s.1:Int),.int .u32 (s.2:Int)] 26)).alloc (.cells #[.int .u32 (f.1:Int),.int .u32 (f.2:Int)] 26)).alloc (.cells #[.int .u32 0,.int .u32 0] 26)).heap[d]?=some (.cells #[.int .u32 (s.1:Int),.int .u32 (s.2:Int)] 26 (0,0)):=by subst R;exact Q9 (Q9 (Q3 rfl))
 have e7:(((w.alloc (.cells #[.int .u32 (s.1:Int),.int .u32 (s.2:Int)] 26)).alloc (.cells #[.int .u32 (f.1:Int),.int .u32 (f.2:Int)] 26)).alloc (.cells #[.int .u32 0,.int .u32 0] 26)).heap[d+1]?=some (.cells #[.int .u32 (f.1:Int),.int .u32 (f.2:Int)] 26 (0,0)):=by subst R;exact Q9 (Q3 zy)
 have e9:(((w.alloc (.cells #[.int .u32 (s.1:Int),.int .u32 (s.2:Int)] 26)).alloc (.cells #[.int .u32 (f.1:Int),.int .u32 (f.2:Int)] 26)).alloc (.cells #[.int .u32 0,.int .u32 0] 26)).heap[d+2]?=some (.cells #[.int .u32 0,.int .u32 0] 26 (0,0)):=by subst R;exact Q3 zy
 have d2:Ext w (((w.alloc (.cells #[.int .u32 (s.1:Int),.int .u32 (s.2:Int)] 26)).alloc (.cells #[.int .u32 (f.1:Int),.int .u32 (f.2:Int)] 26)).alloc (.cells #[.int .u32 0,.int .u32 0] 26)):=(((Q0.refl _ w).alloc _).alloc _).alloc _;refine(i4.out _).mono ?_;generalize (((w.alloc (.cells #[.int .u32 (s.1:Int),.int .u32 (s.2:Int)] 26)).alloc (.cells #[.int .u32 (f.1:Int),.int .u32 (f.2:Int)] 26)).alloc (.cells #[.int .u32 0,.int .u32 0] 26))=j8 at e5 e7 e9 d2 ⊢;rw [R];have N:=Zh R;clear R;rintro e j4 ⟨rfl,i⟩;have d3:=d2.trans i;have c9:=i.keep e5;have d0:=i.keep e7;have d1:=i.keep e9;have d8:=zR c9;have d9:=zR d0;have d5:=Zh d1;clear i e5 e7 e9 d2;cases X
 ·have L:t=(0,0)/\W=14:=by have:=y.out;rw [if_pos (.inl rfl)] at this;exact⟨congrArg Prod.fst this,congrArg Prod.snd this⟩
  obtain⟨rfl,rfl⟩:=L;clear y c9 d0 d1
  go_wp2_with (refine wpList_store_row rfl 26 (.tmp 6) (.tmp 18) rfl (d+2) #[.int .u32 0,.int .u32 0] rfl rfl _ _ d5.out kz rfl kz ?_)
  have q:=Q0.setRow j4 (d+2) #[.int .u32 0,.int .u32 0];refine bodyPost_ret (Zr (p:=6) (u:=7) rfl rfl (setRow_heap _ _ _ _ _ _ d5.out) kz) rfl ?_;exact⟨rfl,d3.after q (fun b Q e=>by have:=N.out;omega)⟩
 go_wp2_with fail;refine(i5.out _).mono ?_;rintro e x ⟨rfl,i⟩;have b7:=d3.trans i;have b2:=i.keep c9;have b4:=i.keep d0;have Y:=i.keep d1;clear d8 d9;have d8:=zR b2;have d9:=zR b4;have a5:=Zh Y;clear i c9 d0 d1 d3;cases g8
 ·have L:t=(0,0)/\W=14:=by have:=y.out;rw [if_pos (.inr rfl)] at this;exact⟨congrArg Prod.fst this,congrArg Prod.snd this⟩
  obtain⟨rfl,rfl⟩:=L;clear y b2 b4 Y
  go_wp2_with (refine wpList_store_row rfl 26 (.tmp 6) (.tmp 18) rfl (d+2) #[.int .u32 0,.int .u32 0] rfl rfl _ _ a5.out kz rfl kz ?_)
  have q:=Q0.setRow x (d+2) #[.int .u32 0,.int .u32 0];refine bodyPost_ret (Zr (p:=6) (u:=7) rfl rfl (setRow_heap _ _ _ _ _ _ a5.out) kz) rfl ?_;exact⟨rfl,b7.after q (fun b Q e=>by have:=N.out;omega)⟩
 by_cases g3:16777215<m
 ·have i8:(16777215:Int)<(m:Int):=by omega
  have L:t=(0,0)/\W=2:=by have:=y.out;rw [if_neg zd,if_pos g3] at this;exact⟨congrArg Prod.fst this,congrArg Prod.snd this⟩
  obtain⟨rfl,rfl⟩:=L;clear y b2 b4 Y
  go_wp2_with (refine wpList_store_row rfl 26 (.tmp 6) (.tmp 21) rfl (d+2) #[.int .u32 0,.int .u32 0] rfl rfl _ _ a5.out kz rfl kz ?_)
  have q:=Q0.setRow x (d+2) #[.int .u32 0,.int .u32 0];refine bodyPost_ret (Zr (p:=6) (u:=7) rfl rfl (setRow_heap _ _ _ _ _ _ a5.out) kz) rfl ?_;exact⟨rfl,b7.after q (fun b Q e=>by have:=N.out;omega)⟩
 have i8:¬ (16777215:Int)<(m:Int):=by omega
 have L:t=Xt s f m/\W=0:=by have:=y.out;rw [if_neg zd,if_neg g3] at this;exact⟨congrArg Prod.fst this,congrArg Prod.snd this⟩
 obtain⟨e0,rfl⟩:=L;rw [<-f4.out oz] at e0;have i2:=Zh e0;clear y e0 f4;go_wp2;have a7:Ext x (x.alloc (.cells #[.int .u32 (s.1:Int),.int .u32 (s.2:Int)] 26)):=(Q0.refl _ x).alloc _;have c8:(x.alloc (.cells #[.int .u32 (s.1:Int),.int .u32 (s.2:Int)] 26)).heap[x.heap.size]?=some (.cells #[.int .u32 (s.1:Int),.int .u32 (s.2:Int)] 26 (0,0)):=Q3 rfl;have j1:d+2<x.heap.size:=(Array.getElem?_eq_some_iff.1 Y).1;have e6:=a7.keep b2;have e8:=a7.keep b4;have f0:=a7.keep Y;have d4:Ext w _:=b7.trans a7;clear d8 d9 b2 b4 Y b7 a7 d5 a5;generalize (x.alloc (.cells #[.int .u32 (s.1:Int),.int .u32 (s.2:Int)] 26))=j9 at c8 e6 e8 f0 d4 ⊢;generalize x.heap.size=r at c8 j1 ⊢;have i0:=Zh (f5.out tz);have i3:=Zh (f6.out tz);clear f5 f6
 refine wp_loop (fun a l=>∃(c:Nat) (F:Nat × Nat),c<=24/\a.defers=[]/\gS a [2,3,4,6,8,9]=(39,[.int .u32 (m:Int),.pointer (some ⟨d,0,none⟩),.pointer (some ⟨d+1,0,none⟩),.pointer (some ⟨d+2,0,none⟩),.pointer (some ⟨r,0,none⟩),.int .i64 c])/\Hid (F=Xt s f (m % 2 ^ c)) /\
   l.heap[d]?=some (.cells #[.int .u32 (s.1:Int),.int .u32 (s.2:Int)] 26 (0,0))/\l.heap[d+1]?=some (.cells #[.int .u32 (f.1:Int),.int .u32 (f.2:Int)] 26 (0,0))/\l.heap[d+2]?=some (.cells #[.int .u32 0,.int .u32 0] 26 (0,0))/\l.heap[r]?=some (.cells #[.int .u32 (F.1:Int),.int .u32 (F.2:Int)] 26 (0,0))/\Ext w l)
  (fun a _=>24 - (intOf (a.tmps.getD 9 undef)).toNat) ?_ ?_
 ·exact⟨0,s,by omega,rfl,rfl,Zh f2.out.symm,e6,e8,f0,c8,d4⟩
 clear e6 e8 f0 c8 d4 f2;rintro⟨j7,_⟩ l ⟨c,F,c5,j2,g7,f3,A,z,c7,T,c2⟩;subst j2;obtain⟨u,rfl⟩:=Qc g7;clear g7;obtain⟨b8,b9,P,O,a0⟩:=Zh5 A z c7 T c2;by_cases g2:c<24
 ·have Q:(c:Int)<24:=by omega
  have j5:(c:Int)<32:=by omega
  have j6:(0:Int)<=(c:Int):=by omega
  have i6:=g9.out c;have a8:=i1.out c g2 (X2 f c);have I:=i0.out c g2;have U:=i3.out c;rw [<-f3.out] at a8 U;obtain⟨i9,g1⟩:=zE (X2 f c);obtain⟨k,g4⟩:=zE (W8 F c i9);obtain⟨e4,g6⟩:=zE (m.testBit c);rw [g1] at a8 I U;rw [g4] at a8 U;rw [g6] at i6 U;obtain⟨f1,f7,c0⟩:=Zh3 I a8 U;clear a8 I U g1 g4 g6;cases e4
  ·have J:=c0.out;rw [if_neg zd] at J;have C:=Zh J.symm;clear J c0 A z c7 T c2;go_wp2;first | exact⟨⟨c+1,F,by omega,tz,rfl,C,b8.out,b9.out,P.out,O.out,a0.out⟩,nz⟩ | exact⟨⟨c+1,F,by omega,by simp,C,b8.out,b9.out,P.out,O.out,a0.out⟩,nz⟩
  ·have J:=c0.out;rw [if_pos rfl] at J;have C:=Zh J.symm;have f9:∀(B:World),Q0 (·=r) l B->B.cell? ⟨d+1,0,none⟩=some (.int .u32 (f.1:Int))/\B.cell? ⟨d+1,1,none⟩=some (.int .u32 (f.2:Int)):=by
    intro B j0;have c1:=j0.heap z oz;simp [World.cell?,c1]
   have D:=Zh f9;have i7:=zR T;clear J c0 A z c7 T c2 f9;go_wp2;refine wp_region_held_drew (S:=fun B=>B.cell? ⟨d+1,0,none⟩=some (.int .u32 (f.1:Int))/\B.cell? ⟨d+1,1,none⟩=some (.int .u32 (f.2:Int))) kz (D.out _ (Q0.drew (Q0.refl _ l))) ?_;intro c3;refine tH 1 33 c3 ?_;refine tH 2 34 c3 ?_;refine tH 3 35 c3 ?_;refine rH [0,4] ?_;refine AllReadyH.cons rfl (fun K hK=>?_) (AllReadyH.cons rfl (fun K hK=>?_) (AllReadyH.nil))
   ·refine iw rfl ?_;go_simp;refine hK.out _ _ (c3) (fun _=>?_);clear hK K;try simp only [Act.put,pq]
    refine rH [4] ?_;refine AllReadyH.cons rfl (fun K hK=>?_) (AllReadyH.nil);refine iw rfl ?_;go_simp;refine(f1.out _).mono ?_;rintro e d6 ⟨rfl,i⟩;have G:Ext l d6:=Q0.trans (Q0.drew (Q0.refl _ l)) i;have b0:=G.keep O.out;have d7:=zR b0;refine hK.out _ _ (D.out _ (Ext.of G)) (fun hS1=>?_);clear hK K i;try simp only [Act.put,pq]
    clear d7;refine rH [5] ?_;refine AllReadyH.cons rfl (fun K hK=>?_) (AllReadyH.nil);refine iw rfl ?_;go_simp;refine(f7.out _).mono ?_;rintro e E ⟨rfl,i⟩;have H:Ext l E:=G.trans i;have M:=H.keep O.out;refine hK.out _ _ (D.out _ (Ext.of H)) (fun hS2=>?_);clear hK K i b0;try simp only [Act.put,pq]
    refine rH [6] ?_;refine AllReadyH.cons rfl (fun K hK=>?_) (AllReadyH.nil);refine iw rfl ?_;refine wp_store_row 26 (.tmp 8) (.tmp 37) rfl r #[.int .u32 (k.1:Int),.int .u32 (k.2:Int)] rfl rfl _ _ M kz rfl kz ?_;have q:=Q0.setRow E r #[.int .u32 (k.1:Int),.int .u32 (k.2:Int)];have b1:(E.setRow r #[.int .u32 (k.1:Int),.int .u32 (k.2:Int)]).heap[r]?=some (.cells #[.int .u32 (k.1:Int),.int .u32 (k.2:Int)] 26 (0,0)):=setRow_heap _ _ _ _ _ _ M;have o:=(Ext.of H).trans q;have b3:=o.heap b8.out oz;have b5:=o.heap b9.out oz;have b6:=o.heap P.out oz;have Z:Ext w _:=a0.out.after o (fun b Q e=>by have:=N.out;omega);obtain⟨a3,a4,a6,a2,a1⟩:=Zh5 b3 b5 b6 b1 Z;refine hK.out _ _ (D.out _ o) (fun hS3=>?_);clear hK K M b3 b5 b6 b1 Z o q hS1 hS2 hS3;change wpAnyH _ _ _ _ _ _ _ (Act.put _ none _) _;simp only [Act.put];refine wpAnyH_done kz ?_ _;go_wp2;first | exact⟨⟨c+1,k,by omega,tz,rfl,C,a3.out,a4.out,a6.out,a2.out,a1.out⟩,nz⟩ | exact⟨⟨c+1,k,by omega,by simp,C,a3.out,a4.out,a6.out,a2.out,a1.out⟩,nz⟩
   ·refine iw rfl ?_;go_simp;refine(f1.out _).mono ?_;rintro e d6 ⟨rfl,i⟩;have G:Ext l d6:=Q0.trans (Q0.drew (Q0.refl _ l)) i;have b0:=G.keep O.out;have d7:=zR b0;refine hK.out _ _ (D.out _ (Ext.of G)) (fun hS1=>?_);clear hK K i;try simp only [Act.put,pq]
    refine rH [0] ?_;refine AllReadyH.cons rfl (fun K hK=>?_) (AllReadyH.nil);refine iw rfl ?_;go_simp;refine hK.out _ _ (hS1) (fun _=>?_);clear hK K;try simp only [Act.put,pq]
    clear d7;refine rH [5] ?_;refine AllReadyH.cons rfl (fun K hK=>?_) (AllReadyH.nil);refine iw rfl ?_;go_simp;refine(f7.out _).mono ?_;rintro e E ⟨rfl,i⟩;have H:Ext l E:=G.trans i;have M:=H.keep O.out;refine hK.out _ _ (D.out _ (Ext.of H)) (fun hS2=>?_);clear hK K i b0;try simp only [Act.put,pq]
    refine rH [6] ?_;refine AllReadyH.cons rfl (fun K hK=>?_) (AllReadyH.nil);refine iw rfl ?_;refine wp_store_row 26 (.tmp 8) (.tmp 37) rfl r #[.int .u32 (k.1:Int),.int .u32 (k.2:Int)] rfl rfl _ _ M kz rfl kz ?_;have q:=Q0.setRow E r #[.int .u32 (k.1:Int),.int .u32 (k.2:Int)];have b1:(E.setRow r #[.int .u32 (k.1:Int),.int .u32 (k.2:Int)]).heap[r]?=some (.cells #[.int .u32 (k.1:Int),.int .u32 (k.2:Int)] 26 (0,0)):=setRow_heap _ _ _ _ _ _ M;have o:=(Ext.of H).trans q;have b3:=o.heap b8.out oz;have b5:=o.heap b9.out oz;have b6:=o.heap P.out oz;have Z:Ext w _:=a0.out.after o (fun b Q e=>by have:=N.out;omega);obtain⟨a3,a4,a6,a2,a1⟩:=Zh5 b3 b5 b6 b1 Z;refine hK.out _ _ (D.out _ o) (fun hS3=>?_);clear hK K M b3 b5 b6 b1 Z o q hS1 hS2 hS3;change wpAnyH _ _ _ _ _ _ _ (Act.put _ none _) _;simp only [Act.put];refine wpAnyH_done kz ?_ _;go_wp2;first | exact⟨⟨c+1,k,by omega,tz,rfl,C,a3.out,a4.out,a6.out,a2.out,a1.out⟩,nz⟩ | exact⟨⟨c+1,k,by omega,by simp,C,a3.out,a4.out,a6.out,a2.out,a1.out⟩,nz⟩
 ·obtain rfl:c=24:=by omega
  have a9:=i2.out;rw [<-f3.out] at a9;subst a9;have i7:=zR T;clear A z c7 T c2
  go_wp2_with (refine wpList_store_row rfl 26 (.tmp 6) (.tmp 38) rfl (d+2) #[.int .u32 (t.1:Int),.int .u32 (t.2:Int)] rfl rfl _ _ P.out kz rfl kz ?_)
  have q:=Q0.setRow l (d+2) #[.int .u32 (t.1:Int),.int .u32 (t.2:Int)];refine bodyPost_ret (Zr (p:=6) (u:=7) rfl rfl (setRow_heap _ _ _ _ _ _ P.out) kz) rfl ?_;exact⟨rfl,a0.out.after q (fun b Q e=>by have:=N.out;omega)⟩
theorem Qds{f:Nat × Nat}(_hf:Qh f)(h:okS f=true):f.1 ||| f.2<2 ^ 24:=by
 unfold okS Za at h;rw [Bool.and_eq_true,beq_iff_eq,beq_iff_eq] at h;have:f.1 ||| f.2<16777216:=by omega
 simpa using this
theorem Qbg{s f:Nat × Nat}(m k:Nat)(e:Qh s)(c:Qh f)(d:okS f=true)(_h:m &&& (f.1 ||| f.2)=0) :
  Xt s f ((m ||| (f.1 ||| f.2)) % 2 ^ (k+1))=if m.testBit k=true\/X2 f k≠0 then W8 (Xt s f ((m ||| (f.1 ||| f.2)) % 2 ^ k)) k (X2 f k) else Xt s f ((m ||| (f.1 ||| f.2)) % 2 ^ k):=by
 rw [Q18 _ _ e c d];have b:(m ||| (f.1 ||| f.2)).testBit k=true↔m.testBit k=true\/X2 f k≠0:=by
  rw [Nat.testBit_or,Nat.testBit_or,Bool.or_eq_true,Bool.or_eq_true];unfold X2;cases f.1.testBit k <;> cases f.2.testBit k <;> simp
 by_cases a:(m ||| (f.1 ||| f.2)).testBit k=true
 ·rw [if_pos a,if_pos (b.1 a)]
 ·rw [if_neg a,if_neg fun h=>a (b.2 h)]
theorem Re{s f:Nat × Nat}{m:Nat}(d8:Qh s)(M:Qh f)(j5:m<4294967296)(w:World) :
  Calls Tryz.prog 204 #[sV s,.int .u32 (m:Int),sV f] w fun e w'=>e=.returned (.tuple #[sV (X5 s m f).1,.int .i64 (X5 s m f).2])/\Ext w w':=by
 have g0:=fun(V:World)=>Vo d8 V;have g1:=fun(V:World)=>Vo M V;have a6:=fun(I:okS f=true) (c:Nat) (b4:c<24) (V:World)=>M2 M I b4 V;have j2:f.1 ||| f.2<4294967296:=Nat.or_lt_two_pow (n:=32) M.1 M.2;have k0:=u32_and_nat m (f.1 ||| f.2) j5 j2;have l8:=u32_or_nat f.1 f.2 M.1 M.2;have j7:=fun(c:Nat) (b4:c<24) (v:Int) (V:World)=>Q2o (Fc (s:=s) (f:=f) ((m ||| (f.1 ||| f.2)) % 2 ^ c) d8 M) b4 v V;have f9:=fun(I:okS f=true) (c:Nat)=>Qbg (s:=s) m c d8 M I;have d2:Xt s f ((m ||| (f.1 ||| f.2)) % 2 ^ 0)=s:=by rw [Nat.pow_zero,Nat.mod_one];exact Q1b f d8
 have f6:okS f=true->m<16777216->(m ||| (f.1 ||| f.2)) % 2 ^ 24=(m ||| (f.1 ||| f.2)):=fun J i6=>Q85 (Nat.or_lt_two_pow (n:=24) i6 (Qds M J));have i8:=fun(c:Nat)=>Pv m c j5;obtain⟨Z,X⟩:=zE (okS s);obtain⟨k1,O⟩:=zE (okS f);rw [X] at g0;rw [O] at g1 a6 f9 f6;have x:Hid (X5 s m f=if Z=false\/k1=false then((0,0),14) else if 16777215<m\/m &&& (f.1 ||| f.2)≠0 then((0,0),2) else(Xt s f (m ||| (f.1 ||| f.2)),0)):=Zh (by unfold X5;rw [X,O]);obtain⟨F,a8,c3⟩:∃ F a8,X5 s m f=(F,a8):=⟨_,_,rfl⟩;rw [c3] at x ⊢;obtain⟨k8,k9,i0,i2,d0,e7,e8,k2⟩:=Zh8 g0 g1 a6 j7 f9 d2 f6 i8
 have j1:m &&& (f.1 ||| f.2)=0->∀ c,m.testBit c=true->X2 f c=0:=fun I c b4=>by
  have:=congrArg (fun Z=>Z.testBit c) I;simp only [Nat.testBit_and,b4,Bool.true_and,Nat.testBit_or,Nat.zero_testBit,Bool.or_eq_false_iff] at this;unfold X2;rw [this.1,this.2];rfl
 have e9:=Zh j1;clear j1;obtain⟨d1,i7⟩:=zE (m ||| (f.1 ||| f.2));obtain⟨I,j3⟩:=zE (f.1 ||| f.2);obtain⟨Y,c2⟩:=zE (m &&& (f.1 ||| f.2));rw [c2] at x k0 d0 e9;rw [i7] at x i2 d0 e7 e8;rw [j3] at k0 l8;clear g0 g1 a6 j7 f9 d2 f6 i8 X O c3 i7 j3 c2 j2;go_enter Tryz.func204,Tryz.ntmps204;go_wp2_with fail;obtain⟨k,b2⟩:=zE w.heap.size;have g3:(((w.alloc (.cells #[.int .u32 (s.1:Int),.int .u32 (s.2:Int)] 26)).alloc (.cells #[.int .u32 (f.1:Int),.int .u32 (f.2:Int)] 26)).alloc (.cells #[.int .u32 0,.int .u32 0] 26)).heap[k]?=some (.cells #[.int .u32 (s.1:Int),.int .u32 (s.2:Int)] 26 (0,0)):=by subst b2;exact Q9 (Q9 (Q3 rfl))
 have g5:(((w.alloc (.cells #[.int .u32 (s.1:Int),.int .u32 (s.2:Int)] 26)).alloc (.cells #[.int .u32 (f.1:Int),.int .u32 (f.2:Int)] 26)).alloc (.cells #[.int .u32 0,.int .u32 0] 26)).heap[k+1]?=some (.cells #[.int .u32 (f.1:Int),.int .u32 (f.2:Int)] 26 (0,0)):=by subst b2;exact Q9 (Q3 zy)
 have g7:(((w.alloc (.cells #[.int .u32 (s.1:Int),.int .u32 (s.2:Int)] 26)).alloc (.cells #[.int .u32 (f.1:Int),.int .u32 (f.2:Int)] 26)).alloc (.cells #[.int .u32 0,.int .u32 0] 26)).heap[k+2]?=some (.cells #[.int .u32 0,.int .u32 0] 26 (0,0)):=by subst b2;exact Q3 zy
 have e4:Ext w (((w.alloc (.cells #[.int .u32 (s.1:Int),.int .u32 (s.2:Int)] 26)).alloc (.cells #[.int .u32 (f.1:Int),.int .u32 (f.2:Int)] 26)).alloc (.cells #[.int .u32 0,.int .u32 0] 26)):=(((Q0.refl _ w).alloc _).alloc _).alloc _;refine(k8.out _).mono ?_;generalize (((w.alloc (.cells #[.int .u32 (s.1:Int),.int .u32 (s.2:Int)] 26)).alloc (.cells #[.int .u32 (f.1:Int),.int .u32 (f.2:Int)] 26)).alloc (.cells #[.int .u32 0,.int .u32 0] 26))=m6 at g3 g5 g7 e4 ⊢;rw [b2];have P:=Zh b2;clear b2;rintro e l9 ⟨rfl,i⟩;have e5:=e4.trans i;have e1:=i.keep g3;have e2:=i.keep g5;have e3:=i.keep g7;have f5:=zR e1;have a3:=zR e2;have f0:=Zh e3;clear i g3 g5 g7 e4;cases Z
 ·have N:F=(0,0)/\a8=14:=by have:=x.out;rw [if_pos (.inl rfl)] at this;exact⟨congrArg Prod.fst this,congrArg Prod.snd this⟩
  obtain⟨rfl,rfl⟩:=N;clear x e1 e2 e3
  go_wp2_with (refine wpList_store_row rfl 26 (.tmp 6) (.tmp 18) rfl (k+2) #[.int .u32 0,.int .u32 0] rfl rfl _ _ f0.out kz rfl kz ?_)
  have r:=Q0.setRow l9 (k+2) #[.int .u32 0,.int .u32 0];refine bodyPost_ret (Zr (p:=6) (u:=7) rfl rfl (setRow_heap _ _ _ _ _ _ f0.out) kz) rfl ?_;exact⟨rfl,e5.after r (fun b J e=>by have:=P.out;omega)⟩
 go_wp2_with fail;refine(k9.out _).mono ?_;rintro e G ⟨rfl,i⟩;have b9:=e5.trans i;have b7:=i.keep e1;have b8:=i.keep e2;have a9:=i.keep e3;clear f5 a3;have f5:=zR b7;have a3:=zR b8;have a2:=Zh a9;clear i e1 e2 e3 e5;cases k1
 ·have N:F=(0,0)/\a8=14:=by have:=x.out;rw [if_pos (.inr rfl)] at this;exact⟨congrArg Prod.fst this,congrArg Prod.snd this⟩
  obtain⟨rfl,rfl⟩:=N;clear x b7 b8 a9
  go_wp2_with (refine wpList_store_row rfl 26 (.tmp 6) (.tmp 18) rfl (k+2) #[.int .u32 0,.int .u32 0] rfl rfl _ _ a2.out kz rfl kz ?_)
  have r:=Q0.setRow G (k+2) #[.int .u32 0,.int .u32 0];refine bodyPost_ret (Zr (p:=6) (u:=7) rfl rfl (setRow_heap _ _ _ _ _ _ a2.out) kz) rfl ?_;exact⟨rfl,b9.after r (fun b J e=>by have:=P.out;omega)⟩
 by_cases l7:16777215<m
 ·have l3:(16777215:Int)<(m:Int):=by omega
  have N:F=(0,0)/\a8=2:=by have:=x.out;rw [if_neg zd,if_pos (.inl l7)] at this;exact⟨congrArg Prod.fst this,congrArg Prod.snd this⟩
  obtain⟨rfl,rfl⟩:=N;clear x b7 b8 a9
  go_wp2_with (refine wpList_store_row rfl 26 (.tmp 6) (.tmp 31) rfl (k+2) #[.int .u32 0,.int .u32 0] rfl rfl _ _ a2.out kz rfl kz ?_)
  have r:=Q0.setRow G (k+2) #[.int .u32 0,.int .u32 0];refine bodyPost_ret (Zr (p:=6) (u:=7) rfl rfl (setRow_heap _ _ _ _ _ _ a2.out) kz) rfl ?_;exact⟨rfl,b9.after r (fun b J e=>by have:=P.out;omega)⟩
 have l3:¬ (16777215:Int)<(m:Int):=by omega
 by_cases j8:Y=0;case neg=>
  have m2:((Y:Int) != 0)=true:=by rw [bne_iff_ne];omega
  have N:F=(0,0)/\a8=2:=by have:=x.out;rw [if_neg zd,if_pos (.inr j8)] at this;exact⟨congrArg Prod.fst this,congrArg Prod.snd this⟩
  obtain⟨rfl,rfl⟩:=N;clear x b7 b8 a9
  go_wp2_with (refine wpList_store_row rfl 26 (.tmp 6) (.tmp 31) rfl (k+2) #[.int .u32 0,.int .u32 0] rfl rfl _ _ a2.out kz rfl kz ?_)
  have r:=Q0.setRow G (k+2) #[.int .u32 0,.int .u32 0];refine bodyPost_ret (Zr (p:=6) (u:=7) rfl rfl (setRow_heap _ _ _ _ _ _ a2.out) kz) rfl ?_;exact⟨rfl,b9.after r (fun b J e=>by have:=P.out;omega)⟩
 subst j8;have N:F=Xt s f d1/\a8=0:=by have:=x.out;rw [if_neg zd,if_neg oz] at this;exact⟨congrArg Prod.fst this,congrArg Prod.snd this⟩
 obtain⟨f8,rfl⟩:=N;rw [<-e8.out tz oz] at f8;have k6:=Zh f8;clear x f8 e8;go_wp2;have c1:Ext G (G.alloc (.cells #[.int .u32 (s.1:Int),.int .u32 (s.2:Int)] 26)):=(Q0.refl _ G).alloc _;have e0:(G.alloc (.cells #[.int .u32 (s.1:Int),.int .u32 (s.2:Int)] 26)).heap[G.heap.size]?=some (.cells #[.int .u32 (s.1:Int),.int .u32 (s.2:Int)] 26 (0,0)):=Q3 rfl;have l5:k+2<G.heap.size:=(Array.getElem?_eq_some_iff.1 a9).1;have g4:=c1.keep b7;have g6:=c1.keep b8;have g8:=c1.keep a9;have e6:Ext w _:=b9.trans c1;clear f5 a3 b7 b8 a9 b9 c1 f0 a2;generalize (G.alloc (.cells #[.int .u32 (s.1:Int),.int .u32 (s.2:Int)] 26))=m7 at e0 g4 g6 g8 e6 ⊢;generalize G.heap.size=o at e0 l5 ⊢;obtain⟨k3,k7,k4⟩:=Zh3 (i0.out tz) (fun c=>d0.out tz c tz) (e9.out tz);clear i0 d0 e9
 refine wp_loop (fun a q=>∃(c:Nat) (W:Nat × Nat),c<=24/\a.defers=[]/\gS a [1,3,5,6,8,9]=(56,[.int .u32 (m:Int),.pointer (some ⟨k,0,none⟩),.pointer (some ⟨k+1,0,none⟩),.pointer (some ⟨k+2,0,none⟩),.pointer (some ⟨o,0,none⟩),.int .i64 c])/\Hid (W=Xt s f (d1 % 2 ^ c)) /\
   q.heap[k]?=some (.cells #[.int .u32 (s.1:Int),.int .u32 (s.2:Int)] 26 (0,0))/\q.heap[k+1]?=some (.cells #[.int .u32 (f.1:Int),.int .u32 (f.2:Int)] 26 (0,0))/\q.heap[k+2]?=some (.cells #[.int .u32 0,.int .u32 0] 26 (0,0))/\q.heap[o]?=some (.cells #[.int .u32 (W.1:Int),.int .u32 (W.2:Int)] 26 (0,0))/\Ext w q)
  (fun a _=>24 - (intOf (a.tmps.getD 9 undef)).toNat) ?_ ?_
 ·exact⟨0,s,by omega,rfl,rfl,Zh e7.out.symm,g4,g6,g8,e0,e6⟩
 clear g4 g6 g8 e0 e6 e7;rintro⟨m5,_⟩ q ⟨c,W,b4,l6,j9,g9,X,O,d9,b5,d3⟩;subst l6;obtain⟨u,rfl⟩:=Qc j9;clear j9;obtain⟨C,A,y,t,z⟩:=Zh5 X O d9 b5 d3;by_cases j4:c<24
 ·have J:(c:Int)<24:=by omega
  have i6:(c:Int)<32:=by omega
  have m3:(0:Int)<=(c:Int):=by omega
  have l2:=k2.out c;have d7:=i2.out c j4;have a6:=k3.out c j4;have b6:=k7.out c;rw [<-g9.out] at d7 b6;obtain⟨b1,j0⟩:=zE (X2 f c);obtain⟨d,d6⟩:=zE (W8 W c b1);obtain⟨Y,c2⟩:=zE (m.testBit c);have a7:m.testBit c=true->X2 f c=0:=k4.out c;rw [j0] at a6 b6 a7;rw [d6] at b6;rw [c2] at l2 b6 a7;have i1:=Zh a7;clear a7;have f7:=d7 b1;rw [d6] at f7;have j6:b1=0->W8 W c 0=d:=fun I=>by rw [<-d6,I]
  obtain⟨c9,f1,i4,b0,i3⟩:=Zh5 a6 f7 (d7 0) b6 j6;clear d7 f7 a6 b6 j0 d6 c2 j6;cases Y
  ·have a3:=zR O;go_wp2_with fail;refine(c9.out _).mono ?_;rintro e l1 ⟨rfl,b3⟩;clear a3;obtain⟨C,A,y,t,z⟩:=Zh5 (b3.keep C.out) (b3.keep A.out) (b3.keep y.out) (b3.keep t.out) (z.out.trans b3);clear X O d9 b5 d3 b3;by_cases d5:b1=0
   ·have D:=b0.out;rw [if_neg (by simp [d5])] at D;have H:=Zh D.symm;subst d5;clear D b0;go_wp2;first | exact⟨⟨c+1,W,by omega,tz,rfl,H,C.out,A.out,y.out,t.out,z.out⟩,nz⟩ | exact⟨⟨c+1,W,by omega,by simp,H,C.out,A.out,y.out,t.out,z.out⟩,nz⟩
   ·have D:=b0.out;rw [if_pos (.inr d5)] at D;have H:=Zh D.symm;have m4:(b1 != 0)=true:=by rw [bne_iff_ne];exact d5
    generalize l1=q at C A y t z ⊢;have i9:∀(a0:World),Q0 (·=o) q a0->a0.cell? ⟨k+1,0,none⟩=some (.int .u32 (f.1:Int))/\a0.cell? ⟨k+1,1,none⟩=some (.int .u32 (f.2:Int)):=by
     intro a0 l4;have d2:=l4.heap A.out oz;simp [World.cell?,d2]
    have a1:=Zh i9;have f3:=zR t.out;clear D b0 i9;go_wp2;refine wp_region_held_drew (S:=fun a0=>a0.cell? ⟨k+1,0,none⟩=some (.int .u32 (f.1:Int))/\a0.cell? ⟨k+1,1,none⟩=some (.int .u32 (f.2:Int))) kz (a1.out _ (Q0.drew (Q0.refl _ q))) ?_;intro d4;refine tH 1 50 d4 ?_;refine tH 2 51 d4 ?_;refine tH 3 52 d4 ?_;refine rH [0,4] ?_;refine AllReadyH.cons rfl (fun K hK=>?_) (AllReadyH.cons rfl (fun K hK=>?_) (AllReadyH.nil))
    ·refine iw rfl ?_;go_simp;refine hK.out _ _ (d4) (fun _=>?_);clear hK K;try simp only [Act.put,pq]
     refine rH [4] ?_;refine AllReadyH.cons rfl (fun K hK=>?_) (AllReadyH.nil);refine iw rfl ?_;go_simp;refine(c9.out _).mono ?_;rintro e f2 ⟨rfl,i⟩;have a4:Ext q f2:=Q0.trans (Q0.drew (Q0.refl _ q)) i;have c4:=a4.keep t.out;have f4:=zR c4;refine hK.out _ _ (a1.out _ (Ext.of a4)) (fun hS1=>?_);clear hK K i;try simp only [Act.put,pq]
     clear f4;refine rH [5] ?_;refine AllReadyH.cons rfl (fun K hK=>?_) (AllReadyH.nil);refine iw rfl ?_;go_simp;refine(f1.out _).mono ?_;rintro e B ⟨rfl,i⟩;have a5:Ext q B:=a4.trans i;have E:=a5.keep t.out;refine hK.out _ _ (a1.out _ (Ext.of a5)) (fun hS2=>?_);clear hK K i c4;try simp only [Act.put,pq]
     refine rH [6] ?_;refine AllReadyH.cons rfl (fun K hK=>?_) (AllReadyH.nil);refine iw rfl ?_;refine wp_store_row 26 (.tmp 8) (.tmp 54) rfl o #[.int .u32 (d.1:Int),.int .u32 (d.2:Int)] rfl rfl _ _ E kz rfl kz ?_;have r:=Q0.setRow B o #[.int .u32 (d.1:Int),.int .u32 (d.2:Int)];have c5:(B.setRow o #[.int .u32 (d.1:Int),.int .u32 (d.2:Int)]).heap[o]?=some (.cells #[.int .u32 (d.1:Int),.int .u32 (d.2:Int)] 26 (0,0)):=setRow_heap _ _ _ _ _ _ E;have l:=(Ext.of a5).trans r;have c6:=l.heap C.out oz;have c7:=l.heap A.out oz;have c8:=l.heap y.out oz;have c0:Ext w _:=z.out.after l (fun b J e=>by have:=P.out;omega);obtain⟨T,L,U,R,Q⟩:=Zh5 c6 c7 c8 c5 c0;refine hK.out _ _ (a1.out _ l) (fun hS3=>?_);clear hK K E c6 c7 c8 c5 c0 l r hS1 hS2 hS3;change wpAnyH _ _ _ _ _ _ _ (Act.put _ none _) _;simp only [Act.put];refine wpAnyH_done kz ?_ _;go_wp2;first | exact⟨⟨c+1,d,by omega,tz,rfl,H,T.out,L.out,U.out,R.out,Q.out⟩,nz⟩ | exact⟨⟨c+1,d,by omega,by simp,H,T.out,L.out,U.out,R.out,Q.out⟩,nz⟩
    ·refine iw rfl ?_;go_simp;refine(c9.out _).mono ?_;rintro e f2 ⟨rfl,i⟩;have a4:Ext q f2:=Q0.trans (Q0.drew (Q0.refl _ q)) i;have c4:=a4.keep t.out;have f4:=zR c4;refine hK.out _ _ (a1.out _ (Ext.of a4)) (fun hS1=>?_);clear hK K i;try simp only [Act.put,pq]
     refine rH [0] ?_;refine AllReadyH.cons rfl (fun K hK=>?_) (AllReadyH.nil);refine iw rfl ?_;go_simp;refine hK.out _ _ (hS1) (fun _=>?_);clear hK K;try simp only [Act.put,pq]
     clear f4;refine rH [5] ?_;refine AllReadyH.cons rfl (fun K hK=>?_) (AllReadyH.nil);refine iw rfl ?_;go_simp;refine(f1.out _).mono ?_;rintro e B ⟨rfl,i⟩;have a5:Ext q B:=a4.trans i;have E:=a5.keep t.out;refine hK.out _ _ (a1.out _ (Ext.of a5)) (fun hS2=>?_);clear hK K i c4;try simp only [Act.put,pq]
     refine rH [6] ?_;refine AllReadyH.cons rfl (fun K hK=>?_) (AllReadyH.nil);refine iw rfl ?_;refine wp_store_row 26 (.tmp 8) (.tmp 54) rfl o #[.int .u32 (d.1:Int),.int .u32 (d.2:Int)] rfl rfl _ _ E kz rfl kz ?_;have r:=Q0.setRow B o #[.int .u32 (d.1:Int),.int .u32 (d.2:Int)];have c5:(B.setRow o #[.int .u32 (d.1:Int),.int .u32 (d.2:Int)]).heap[o]?=some (.cells #[.int .u32 (d.1:Int),.int .u32 (d.2:Int)] 26 (0,0)):=setRow_heap _ _ _ _ _ _ E;have l:=(Ext.of a5).trans r;have c6:=l.heap C.out oz;have c7:=l.heap A.out oz;have c8:=l.heap y.out oz;have c0:Ext w _:=z.out.after l (fun b J e=>by have:=P.out;omega);obtain⟨T,L,U,R,Q⟩:=Zh5 c6 c7 c8 c5 c0;refine hK.out _ _ (a1.out _ l) (fun hS3=>?_);clear hK K E c6 c7 c8 c5 c0 l r hS1 hS2 hS3;change wpAnyH _ _ _ _ _ _ _ (Act.put _ none _) _;simp only [Act.put];refine wpAnyH_done kz ?_ _;go_wp2;first | exact⟨⟨c+1,d,by omega,tz,rfl,H,T.out,L.out,U.out,R.out,Q.out⟩,nz⟩ | exact⟨⟨c+1,d,by omega,by simp,H,T.out,L.out,U.out,R.out,Q.out⟩,nz⟩
  ·have D:=b0.out;rw [if_pos (.inl rfl)] at D;have a7:b1=0:=i1.out rfl;have i5:=i3.out a7;have H:=Zh D.symm;have g2:=i4.out;rw [i5] at g2;have l0:=Zh g2;have f3:=zR b5;subst a7;clear D b0 X O d9 b5 d3 g2 i5 i3 i4 f1 i1;go_wp2_with fail;refine(l0.out _).mono ?_;rintro e B ⟨rfl,i⟩;have E:=i.keep t.out;have l:Q0 (·=o) q (B.setRow o #[.int .u32 (d.1:Int),.int .u32 (d.2:Int)]):=(Ext.of i).trans (Q0.setRow B o #[.int .u32 (d.1:Int),.int .u32 (d.2:Int)]);obtain⟨T,L,U,Q⟩:=Zh4 (l.heap C.out oz) (l.heap A.out oz) (l.heap y.out oz) (z.out.after l (fun b J e=>by have:=P.out;omega));have R:Hid ((B.setRow o #[.int .u32 (d.1:Int),.int .u32 (d.2:Int)]).heap[o]?=some (.cells #[.int .u32 (d.1:Int),.int .u32 (d.2:Int)] 26 (0,0))):=Zh (setRow_heap _ _ _ _ _ _ E);have k5:=Zh E;clear E l i f3
   go_wp2_with (refine wpList_store_row rfl 26 (.tmp 8) (.tmp 44) rfl o #[.int .u32 (d.1:Int),.int .u32 (d.2:Int)] rfl rfl _ _ k5.out kz rfl kz ?_;generalize B.setRow o #[.int .u32 (d.1:Int),.int .u32 (d.2:Int)]=m0 at T L U Q R ⊢;have a3:=zR L.out)
   refine(c9.out _).mono ?_;rintro e m1 ⟨rfl,i⟩;clear a3;obtain⟨C,A,y,t,z⟩:=Zh5 (i.keep T.out) (i.keep L.out) (i.keep U.out) (i.keep R.out) (Q.out.trans i);clear i;go_wp2;first | exact⟨⟨c+1,d,by omega,tz,rfl,H,C.out,A.out,y.out,t.out,z.out⟩,nz⟩ | exact⟨⟨c+1,d,by omega,by simp,H,C.out,A.out,y.out,t.out,z.out⟩,nz⟩
 ·obtain rfl:c=24:=by omega
  have c3:=k6.out;rw [<-g9.out] at c3;subst c3;have f3:=zR b5;clear X O d9 b5 d3
  go_wp2_with (refine wpList_store_row rfl 26 (.tmp 6) (.tmp 55) rfl (k+2) #[.int .u32 (F.1:Int),.int .u32 (F.2:Int)] rfl rfl _ _ y.out kz rfl kz ?_)
  have r:=Q0.setRow q (k+2) #[.int .u32 (F.1:Int),.int .u32 (F.2:Int)];refine bodyPost_ret (Zr (p:=6) (u:=7) rfl rfl (setRow_heap _ _ _ _ _ _ y.out) kz) rfl ?_;exact⟨rfl,z.out.after r (fun b J e=>by have:=P.out;omega)⟩
theorem Q6g{ws:Wd}{k:Nat}(h:k<ws.length):Y9 (ws.take (k+1))=Y9 (ws.take k)++Ue ws[k]:=by
 rw [List.take_succ_eq_append_getElem h];unfold Y9;rw [List.flatMap_append];simp only [List.flatMap_cons,List.flatMap_nil,List.append_nil]
theorem Q4e(n i:Nat):(n:Int) / 2 ^ (8*i) % 256=((byt n i).toNat:Int):=by
 unfold byt;rw [UInt8.toNat_ofNat'];obtain⟨a,b⟩:∃ a:Nat,2 ^ (8*i)=a:=⟨_,rfl⟩;have c:(2:Int) ^ (8*i)=(a:Int):=by rw [<-b,Int.natCast_pow];rfl
 rw [b,c,Int.natCast_emod,Int.natCast_ediv];rfl
theorem Q86(s:Nat × Nat){i:Nat}(h:i<4):(Ue s).take (2*(i+1))=(Ue s).take (2*i)++[byt s.1 i]++[byt s.2 i]:=by
 have:i=0\/i=1\/i=2\/i=3:=by omega
 rcases this with rfl | rfl | rfl | rfl <;> rfl
theorem Qay(s:Nat × Nat)(i:Nat):((Ue s).take i).length<=8:=by rw [List.length_take];have:(Ue s).length=8:=rfl;omega
theorem Eq{V b:World}{B C:Nat}{cs:Array Value}(c:V.heap[C]?=some (.cells cs 26 (0,0))) (d:C≠B) (e:Q0 (Q73 B B V) V b):b.heap[C]?=some (.cells cs 26 (0,0)):=by
 refine e.heap c ?_;rintro(a | ⟨_,f,a⟩)
 ·exact d a
 ·rw [c] at a;simp only [Option.some.injEq,Obj.cells.injEq] at a;exact absurd a.2.1 zd
theorem Q0f{w V V':World}{B:Nat}(hE:Ext w V)(hB:w.heap.size<=B)(ht:Q0 (Q73 B B V) V V'):Ext w V':=hE.after ht fun b h1 h2=>by
 rcases h2 with h | ⟨h,_⟩
 ·omega
 ·omega
theorem Q1n{w:World}{ao:Option Addr}{N cap:Nat}{ws:Wd}(p:Q4 w (.slice ao N cap) ws) (a6:ws.length=N) (e2:N<=1000) :
  Calls Tryz.prog 70 #[.slice ao N cap] w fun e w'=>e=.returned (.string (Uj ws))/\Ext w w':=by
 have X:=Zh p;have A:=Zh a6;clear p a6;go_enter Tryz.func70,Tryz.ntmps70;obtain⟨g,C⟩:=zE w.heap.size;have D:(w.alloc (.cells #[.pointer none,.slice none 0 0] 144)).heap[g]?=some (.cells #[.pointer none,.slice none 0 0] 144 (0,0)):=Q3 C.symm;have m:Ext w (w.alloc (.cells #[.pointer none,.slice none 0 0] 144)):=(Q0.refl _ w).alloc _;go_wp2;generalize (w.alloc (.cells #[.pointer none,.slice none 0 0] 144))=d0 at D m ⊢;have B:Wj g g d0 (Y9 (ws.take 0)):=⟨_,_,D,.inl rfl,World.ownsRow_nil _ _ _ _⟩;obtain⟨S,r,v⟩:=Zh3 B m C;clear B D m C
 refine wp_loop (fun a l=>∃(f:Nat),f<=N/\a.defers=[]/\gS a [0,3,7,8,9]=(33,[.slice ao N cap,.pointer (some ⟨g,0,none⟩),.slice ao N cap,.int .i64 N,.int .i64 f])/\Wj g g l (Y9 (ws.take f))/\Ext w l)
  (fun a _=>N - (intOf (a.tmps.getD 9 undef)).toNat) ?_ ?_
 ·exact⟨0,by omega,rfl,rfl,S.out,r.out⟩
 clear r S;rintro⟨c8,_⟩ l ⟨f,d9,M,u,t,s⟩;subst M;obtain⟨c9,rfl⟩:=Qc u;clear u;have j:=Zh t;have k:=Zh s;clear t s;by_cases c5:f<N;case neg=>
  obtain rfl:f=N:=by omega
  have a4:¬ (f:Int)<(f:Int):=by omega
  have n:=j.out;rw [List.take_of_length_le (by rw [A.out];exact Nat.le_refl _)] at n;have a0:=Zh (Qad n);clear n j;go_wp2_with fail;refine a0.out.mono ?_;rintro e c1 ⟨rfl,a7⟩;have b9:Hid (Ext w c1):=Zh (k.out.after a7 (fun b a4 h2=>by have:=v.out;omega));clear a7 a0;go_wp2;go_ret;exact⟨rfl,b9.out⟩
 have a4:(f:Int)<(N:Int):=by omega
 have B:(0:Int)<=(f:Int):=by omega
 have z:f<ws.length:=by rw [A.out];exact c5
 have a8:=(X.out.ext k.out).at z;rw [A.out] at a8;obtain⟨a3,b3,d4,b1,c3,I,J⟩:=a8;simp only [zV,true_and] at b1;obtain⟨rfl,rfl⟩:=b1;have P:=X.out.2 _ (List.getElem_mem z);rw [List.getD_eq_getElem?_getD,List.getElem?_eq_getElem z,Option.getD_some] at I J;have O:=Q6g z;obtain⟨c,b2⟩:=zE (ws[f]);rw [b2] at I J P O;clear b2;have d2:=Zh P;have Y:=Zh O;clear P O;go_wp2;obtain⟨i,y⟩:=zE l.heap.size;have Q:(l.alloc (.cells #[.int .u32 c.1,.int .u32 c.2] 26)).heap[i]?=some (.cells #[.int .u32 c.1,.int .u32 c.2] 26 (0,0)):=Q3 y.symm;have m:Ext l (l.alloc (.cells #[.int .u32 c.1,.int .u32 c.2] 26)):=(Q0.refl _ l).alloc _;rw [y];generalize (l.alloc (.cells #[.int .u32 c.1,.int .u32 c.2] 26))=c0 at Q m ⊢;have G:Wj g g c0 (Y9 (ws.take f)):=by
  obtain⟨b4,b5,R,c6,c7⟩:=j.out;exact⟨b4,b5,m.keep R,c6,Q6 c7 m⟩
 obtain⟨q,p⟩:=zE (Y9 (ws.take f));have e1:q.length<=8000:=by rw [<-p,Nq,List.length_take];omega
 rw [p] at G Y;obtain⟨Z,r,T,d1⟩:=Zh4 Q (k.out.trans m) G y;have d5:g<=i:=by have:=k.out.size;have:=v.out;omega
 have a5:i≠g:=by
  rintro rfl;obtain⟨b4,b5,R,_⟩:=j.out;have:=(Array.getElem?_eq_some_iff.1 R).1;omega
 clear Q m G y k j p I J c3
 refine wp_loop (fun a o=>∃(d:Nat),d<=4/\a.defers=[]/\gS a [0,3,5,7,8,9,13]=(33,[.slice (some ⟨a3,b3,none⟩) N cap,.pointer (some ⟨g,0,none⟩),.pointer (some ⟨i,0,none⟩),.slice (some ⟨a3,b3,none⟩) N cap,.int .i64 N,.int .i64 f,.int .i64 d])/\Wj g g o (q++(Ue c).take (2*d))/\o.heap[i]?=some (.cells #[.int .u32 c.1,.int .u32 c.2] 26 (0,0))/\Ext w o)
  (fun a _=>4 - (intOf (a.tmps.getD 13 undef)).toNat) ?_ ?_
 ·exact⟨0,by omega,rfl,rfl,by rw [Nat.mul_zero,List.take_zero,List.append_nil];exact T.out,Z.out,r.out⟩
 clear T Z r;rintro⟨c8,_⟩ o ⟨d,d6,M,u,t,K,s⟩;subst M;obtain⟨c9,rfl⟩:=Qc u;clear u;obtain⟨j,k,U⟩:=Zh3 t s K;have a2:o.cell? ⟨i,0,none⟩=some (.int .u32 c.1):=by rw [cell_of_row o i 0 _ _ _ K];rfl
 clear t s K;by_cases c4:d<4;case neg=>
  obtain rfl:d=4:=by omega
  have n:=j.out;rw [show (Ue c).take (2*4)=Ue c from rfl,<-Y.out] at n;have x:=Zh n;clear n j a2;go_wp2;exact⟨⟨f+1,by omega,by first | trivial | rfl,rfl,x.out,k.out⟩,nz⟩
 have d8:(d:Int)<4:=by omega
 have d7:(0:Int)<=(d:Int):=by omega
 have e0:=Qay c (2*d);go_wp2_with fail;rw [Q4e];refine(Bt (byt c.1 d) j.out (Nat.le_refl _) (by rw [List.length_append];omega)).mono ?_;rintro e a1 ⟨rfl,a9,E⟩;have L:=Eq U.out a5 E;have W:=Zh (Q0f k.out (by have:=v.out;omega) E);have c2:a1.cell? ⟨i,1,none⟩=some (.int .u32 c.2):=by rw [cell_of_row a1 i 1 _ _ _ L];rfl
 have x:=Zh a9;have V:=Zh L;clear a9 L E j k U a2;go_wp2_with fail;rw [Q4e];refine(Bt (byt c.2 d) x.out (Nat.le_refl _) (by rw [List.length_append,List.length_append,List.length_singleton];omega)).mono ?_;rintro e d3 ⟨rfl,H,F⟩;have b0:=Eq V.out a5 F;have b8:=Zh (Q0f W.out (by have:=v.out;omega) F);rw [show q++(Ue c).take (2*d)++[byt c.1 d]++[byt c.2 d]=q++(Ue c).take (2*(d+1)) by rw [Q86 c c4];simp only [List.append_assoc]] at H;have b6:=Zh H;have b7:=Zh b0;clear H b0 F x W V c2;go_wp2;exact⟨⟨d+1,by omega,by first | trivial | rfl,rfl,b6.out,b7.out,b8.out⟩,nz⟩
theorem Mj:∀(n:Nat) (l:List Int),l.Nodup->(∀ x∈l,0<=x/\x<(n:Int))->l.length<=n
 | 0,l,_,h=>by
  cases l with
  | nil=>exact Nat.le_refl _
  | cons x l=>have:=h x zy;omega
 | n+1,l,hn,h=>by
  by_cases hm:(n:Int)∈l
  ·have ih:=Mj n (l.erase (n:Int)) (hn.erase _) fun x hx=>by
    have h1:=h x (List.mem_of_mem_erase hx);have h2:x≠(n:Int):=fun e=>by subst e;exact(hn.mem_erase_iff.1 hx).1 rfl
    omega
   have hl:=List.length_erase_of_mem hm;have hpos:=List.length_pos_of_mem hm;omega
  ·have ih:=Mj n l hn fun x hx=>by
    have h1:=h x hx;have h2:x≠(n:Int):=fun e=>by subst e;exact hm hx
    omega
   omega
def Xq(sh:List Int):Prop:=sh.length<=64/\∀ k∈sh,-1<=k/\k<(sh.length:Int)
theorem Fv{sh:List Int}(h:Y6 sh=0):Xq sh:=by
 unfold Y6 at h
 split at h
 ·cases h
 ·split at h
  ·cases h
  ·rename_i b a
   refine⟨by omega,fun k hk=>?_⟩;rw [Bool.not_eq_true,List.any_eq_false] at a;have:=a k hk;simp only [Bool.or_eq_true,decide_eq_true_eq,not_or] at this;omega
theorem Ww{sh:List Int}(h:Xq sh)(i:Nat):-1<=sh.getD i (-1)/\(sh.getD i (-1)<(sh.length:Int)):=by
 rw [List.getD_eq_getElem?_getD];cases e:sh[i]? with
 | none=>exact⟨Int.le_refl _,by simp;omega⟩
 | some x=>exact h.2 x (List.mem_of_getElem? e)
theorem Mh(sh:List Int):∀(n:Nat) (k:Int) (d:List Int),∃ r,U7 sh n k d=d++r
 | 0,_,d=>⟨[],by simp [U7]⟩
 | n+1,k,d=>by
  unfold U7
  split
  ·obtain⟨r,hr⟩:=Mh sh n (sh.getD k.toNat (-1)) (d++[k]);exact⟨k::r,by rw [hr];simp⟩
  ·exact⟨[],by simp⟩
def Vt(sh:List Int)(d:List Int):Prop:=d.Nodup/\∀ k∈d,0<=k/\k<(sh.length:Int)
theorem Vt.le{sh d:List Int}(h:Vt sh d):d.length<=sh.length:=Mj sh.length d h.1 h.2
theorem Vt.snoc{sh d:List Int}{k:Int}(h:Vt sh d)(e:0<=k)(g:k<(sh.length:Int)) (f:k ∉ d):Vt sh (d++[k]):=by
 refine⟨List.nodup_append.2 ⟨h.1,by simp,fun a ha b hb=>?_⟩,fun x c=>?_⟩
 ·rw [List.mem_singleton] at hb;subst hb;rintro rfl;exact f ha
 ·rcases List.mem_append.1 c with c | c
  ·exact h.2 x c
  ·rw [List.mem_singleton] at c;subst c;exact⟨e,g⟩
theorem Ei{sh:List Int}(hs:Xq sh):∀(n:Nat) (k:Int) (d:List Int),Vt sh d->k<(sh.length:Int)->Vt sh (U7 sh n k d)
 | 0,_,_,h,_=>h
 | n+1,k,d,h,hk=>by
  unfold U7
  split
  ·rename_i h1
   exact Ei hs n _ _ (h.snoc h1.1 hk h1.2) (Ww hs _).2
  ·exact h
theorem L9{sh:List Int}(hs:Xq sh){i:Nat}(hi:i<sh.length):Vt sh (Zy sh i):=Ei hs _ _ _ ⟨List.nodup_nil,fun _ h=>by cases h⟩ oz
theorem Q2w(sh:List Int)(i:Nat):∃ r,Zy sh i=(i:Int)::r:=by
 unfold Zy U7;rw [if_pos ⟨by omega,by simp⟩];obtain⟨r,a⟩:=Mh sh 64 (sh.getD (i:Int).toNat (-1)) ([]++[(i:Int)]);exact⟨r,by rw [a];simp⟩
structure Vu (sh:List Int) (i:Nat) (d:List Int) (k:Int):Prop where
 pre:Vt sh d
 lt:k<(sh.length:Int)
 way:Zy sh i=U7 sh (65 - d.length) k d
theorem Vu.start{sh:List Int}(i:Nat)(hi:i<sh.length):Vu sh i [] (i:Int):=⟨⟨List.nodup_nil,fun _ h=>by cases h⟩,by omega,rfl⟩
theorem Vu.more{sh d:List Int}{i:Nat}{k:Int}(f:Xq sh)(h:Vu sh i d k)(c:0<=k)(e:k ∉ d):Vu sh i (d++[k]) (sh.getD k.toNat (-1))/\∃ r,Zy sh i=d++k::r:=by
 have m:=h.pre.le;have l:=f.1;have a:=h.way;obtain⟨b,g⟩:∃ b,65 - d.length=b+1:=⟨64 - d.length,by omega⟩;rw [g] at a;unfold U7 at a;rw [if_pos ⟨c,e⟩] at a;refine⟨⟨h.pre.snoc c h.lt e,(Ww f _).2,?_⟩,?_⟩
 ·rw [a,List.length_append,List.length_singleton];have:65 - (d.length+1)=b:=by omega
  rw [this]
 ·obtain⟨r,j⟩:=Mh sh b (sh.getD k.toNat (-1)) (d++[k]);exact⟨r,by rw [a,j];simp⟩
theorem Vu.stop{sh d:List Int}{i:Nat}{k:Int}(f:Xq sh)(h:Vu sh i d k)(c:¬ (0<=k/\k ∉ d)):Zy sh i=d:=by
 have j:=h.pre.le;have g:=f.1;have a:=h.way;obtain⟨b,e⟩:∃ b,65 - d.length=b+1:=⟨64 - d.length,by omega⟩;rw [e] at a;unfold U7 at a;rw [if_neg c] at a;exact a
theorem Q3c{sh:List Int}(b:Xq sh){i:Nat}(g:i<sh.length):(1<(Zy sh i).length)↔Vf sh i=true:=by
 have m:=Ww b i;have c:=(Vu.start (sh:=sh) i g).more b oz zy;have j:((i:Int)).toNat=i:=by simp
 rw [j] at c;unfold Vf;rw [Bool.and_eq_true,decide_eq_true_iff,decide_eq_true_iff];constructor
 ·intro d;by_cases a:0<=sh.getD i (-1)/\sh.getD i (-1) ∉ ([]++[(i:Int)])
  ·simp only [List.nil_append,List.mem_singleton] at a;exact⟨by omega,a.2⟩
  ·rw [c.1.stop b a] at d;simp at d
 ·rintro⟨l,e⟩;have a:0<=sh.getD i (-1):=by omega
  have f:=c.1.more b a (by simpa using e);obtain⟨n,k⟩:=f.2;rw [k];simp
theorem Q9h{sh:List Int}(b:Xq sh){i:Nat}(a:i<sh.length):Di sh i=(decide (1<(Zy sh i).length) && decide (sh.getD ((Zy sh i).getLastD 0).toNat (-1)=i) && (Zy sh i).all fun k=>decide ((i:Int)<=k)):=by
 unfold Di;rw [show Vf sh i=decide (1<(Zy sh i).length) from by rw [Bool.eq_iff_iff,decide_eq_true_iff];exact(Q3c b a).symm]
def nxt(sh:List Int)(k:Int):Int:=sh.getD k.toNat (-1)
theorem gl{d e:List Int}{j:Nat}(h:j<d.length):(d++e).getD j 0=d.getD j 0:=by rw [List.getD_eq_getElem?_getD,List.getD_eq_getElem?_getD,List.getElem?_append_left h]
theorem gr{d:List Int}{k:Int}:(d++[k]).getD d.length 0=k:=by rw [List.getD_eq_getElem?_getD];simp
def Q0t(sh d:List Int)(k:Int):Prop:=(∀ j,j+1<d.length->nxt sh (d.getD j 0)=d.getD (j+1) 0)/\∀ j,j+1=d.length->nxt sh (d.getD j 0)=k
theorem Q0t.snoc{sh d:List Int}{k:Int}(h:Q0t sh d k):Q0t sh (d++[k]) (nxt sh k):=by
 refine⟨fun j hj=>?_,fun j hj=>?_⟩
 ·rw [List.length_append,List.length_singleton] at hj;rw [gl oz];by_cases b:j+1<d.length
  ·rw [gl b];exact h.1 j b
  ·have a:j+1=d.length:=by omega
   rw [a,gr];exact h.2 j a
 ·rw [List.length_append,List.length_singleton] at hj;rw [show j=d.length by omega,gr]
theorem Q2l{sh:List Int}{i:Nat}:(i:Int)∈Zy sh i:=by
 obtain⟨b,a⟩:=Q2w sh i;rw [a];exact List.mem_cons_self
section
variable {sh:List Int} (hs:Xq sh) {i s:Nat} (hi:i<sh.length)
include hs hi
end
section
variable {sh:List Int} (hs:Xq sh)
include hs
end
end Go.Proofs.YtejenndedjabhaaGreatDoor
