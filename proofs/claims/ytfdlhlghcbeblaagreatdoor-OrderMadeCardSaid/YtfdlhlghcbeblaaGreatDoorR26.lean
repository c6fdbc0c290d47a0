/- ablautlaw14.Light, valid (printed by genlightw.py). -/
import Derived.Test.YtfdlhlghcbeblaaGreatDoorR25
set_option maxRecDepth 100000
set_option maxHeartbeats 16000000
namespace Go.Proofs.YtfdlhlghcbeblaaGreatDoor
open Go.RowKit Go.Ab
attribute [local go_sem] Oper.semAt_some Zk Qx
def Qce(n:Nat)(lv pv:Value)(w:World)(a:Act)(W:World):Prop:=∃(i z:Nat),i<=n/\i<=7/\z<=82*i/\a.defers=[]/\gS a [0,1,5,6]=(85,[lv,pv,.int .i64 z,.int .i64 i])/\Ext w W
def Qca(m z:Nat)(lv pv:Value)(w:World)(a:Act)(W:World):Prop:=∃(k:Nat),k<=m/\a.defers=[]/\gS a [0,1,5,7]=(85,[lv,pv,.int .i64 z,.int .i64 k])/\Ext w W
def Qbt(w:World)(e:Ending)(w':World):Prop:=∃ b:Bool,e=.returned (.bool b)/\Ext w w'
theorem Q3y{w:World}{ps:Qs}{qs:Qi}{lo:Option Addr}{n lc:Nat}{O:Option Addr}{m N:Nat}(J:Za w (.slice lo n lc) ps) (M:ps.length=n) (a5:Zg w (.slice O m N) qs) (a2:qs.length=m) :
  Calls Tryz.prog 32 #[.slice lo n lc,.slice O m N] w (Qbt w):=by
 have i7:n<=maxLen:=by rw [<-M];exact J.1.2.1
 have i5:m<=maxLen:=by rw [<-a2];exact a5.1.2.1
 unfold maxLen at i7 i5;have d9:=fun(c0:World) (p:Ext w c0)=>Q7u (J.ext p) M;obtain⟨G,g0,u,f8,r⟩:=Zh5 J M a5 a2 d9;clear J M a5 a2 d9;go_enter Tryz.func32,Tryz.ntmps32;by_cases X:(4<n/\n<=6)\/(5<m/\m<=32)
 ·clear G u r;by_cases I:4<n/\n<=6
  ·have z:(n:Int) > 4:=by omega
   have H:(n:Int)<=6:=by omega
   go_wp2;go_ret;exact⟨false,rfl,Qa.refl _ _⟩
  ·have d1:5<m/\m<=32:=X.resolve_left I;have R:(m:Int) > 5:=by omega
   have T:(m:Int)<=32:=by omega
   by_cases d2:4<n
   ·have z:(n:Int) > 4:=by omega
    have H:¬ (n:Int)<=6:=by omega
    go_wp2;go_ret;exact⟨false,rfl,Qa.refl _ _⟩
   ·have z:¬ (n:Int) > 4:=by omega
    go_wp2;go_ret;exact⟨false,rfl,Qa.refl _ _⟩
 rw [not_or] at X;have a4:n<=4\/6<n:=by omega
 have a3:m<=5\/32<m:=by omega
 clear X;rcases a4 with a4 | a4 <;> rcases a3 with a3 | a3
 all_goals
  first | have z:¬ (n:Int) > 4:=by omega | have z:(n:Int) > 4:=by omega
  first | have H:¬ (n:Int)<=6:=by omega | have H:(n:Int)<=6:=by omega
  first | have R:¬ (m:Int) > 5:=by omega | have R:(m:Int) > 5:=by omega
  first | have T:¬ (m:Int)<=32:=by omega | have T:(m:Int)<=32:=by omega
  go_wp2;refine wp_loop (Qce n (.slice lo n lc) (.slice O m N) w) (fun a _=>((n:Int) - intOf (a.tmps.getD 6 undef)).toNat) ?_ ?_
  ·exact⟨0,0,by omega,by omega,by omega,rfl,rfl,Qa.refl _ _⟩
  clear z H R T;rintro⟨k0,_⟩ c ⟨i,t,l3,l5,m0,a0,D,p⟩;subst a0;obtain⟨s,rfl⟩:=Zd D;clear D;have e:=Zh p;clear p;by_cases a1:i<n/\i<=6;case pos=>
   obtain⟨a1,l4⟩:=a1;have I:(i:Int)<(n:Int):=by omega
   have l0:(0:Int)<=(i:Int):=by omega
   have d1:(i:Int)<=6:=by omega
   have i2:i<ps.length:=by rw [g0.out];exact a1
   obtain⟨y,F,i0,k,d7,g,L,W⟩:=(G.out.ext e.out).at i2;simp only [zV] at k;obtain⟨rfl,j9,rfl⟩:=k;obtain⟨x,e3⟩:=zE (ps[i]);rw [e3] at g L W;obtain⟨P,k7⟩:=x;dsimp only at g L W;clear e3 j9 W G r u;obtain⟨m5,e4,f2,e6,e8,c1,c3,f0,b8,c5,e5,f3,e7,e9,c2,c4,f1,b9,c6,m3,k4,m2,m7,k5,m6,m4,rfl,f7,b4,b5,f6,g6,g5,g1,g2,g3,g4,f9,m8,m9,n0,n1,n2⟩:=Yb L;have d8:c.rangeAt y (F+i*18+1) [.int .i64 e4,.int .u32 (f2:Int),.int .u32 (e6:Int),.bool e8,.int .i64 c1,.int .i64 c3,.slice f0 b8 c5]:=Vu g 1 7;have e1:c.rangeAt y (F+i*18+8) [.int .i64 e5,.int .u32 (f3:Int),.int .u32 (e7:Int),.bool e9,.int .i64 c2,.int .i64 c4,.slice f1 b9 c6]:=Vu g 8 7;have Y:=fun(f:World) (o:Ext c f)=>Gk (b4.out.ext o);have Z:=fun(f:World) (o:Ext c f)=>Gk (b5.out.ext o);have i8:Kf P.left<=41:=by rw [Wj];omega
   have i9:Kf P.right<=41:=by rw [Wj];omega
   obtain⟨f4,c9⟩:=zE (Kf P.left);obtain⟨f5,d0⟩:=zE (Kf P.right);simp only [c9] at Y i8;simp only [d0] at Z i9;obtain⟨a8,j5⟩:=zE (t+f4);obtain⟨a9,j6⟩:=zE (a8+f5);have j3:IntKind.i64.wrap ((t:Int)+(f4:Int))=(a8:Int):=by rw [IntWalk.i64_in _ oz];omega
   have j4:IntKind.i64.wrap ((a8:Int)+(f5:Int))=(a9:Int):=by rw [IntWalk.i64_in _ oz];omega
   have j7:a9<=82*(i+1):=by omega
   obtain⟨b3,b6,b0,b1⟩:=Zh4 d8 e1 Y Z;clear d8 e1 g Y Z c9 d0 j5 j6 f6 g6 f7 g5 g1 g2 g3 g4 f9 b4 b5 L;go_upto_region 7 with (fail)
   have b:Ext c c.drew:=(Qa.refl _ c).drew;refine Z7 (S:=fun f=>Ext c f) [] kz b ?_;intro _;obtain⟨c0,d4⟩:=zE c.drew;rw [d4] at b ⊢;clear d4;refine tE 0 36 b ?_;refine tE 1 37 b ?_;refine tE 2 38 b ?_;refine tE 3 39 b ?_;refine tE 4 40 b ?_;refine tkE (i:=5) (d:=41) (v:=?_) rfl (Or.inl ⟨by rfl,?_⟩) b ?_;rotate_left
   ·intro f o;refine Kg (x:=.tmp 40) ?_ y (F+i*18+1) ?_ [.int .i64 e4,.int .u32 (f2:Int),.int .u32 (e6:Int),.bool e8,.int .i64 c1,.int .i64 c3,.slice f0 b8 c5] _ (fun j s E=>(show Ext c f from o).cell_some (b3.out j s E) id) Tryz.underlying98 rfl kz <;> first | rfl | (simp;done)
   try simp only [Act.put,pq]
   refine tE 8 44 b ?_;refine tE 9 45 b ?_;refine tE 10 46 b ?_;refine tE 11 47 b ?_;refine tkE (i:=12) (d:=48) (v:=?_) rfl (Or.inl ⟨by rfl,?_⟩) b ?_;rotate_left
   ·intro f o;refine Kg (x:=.tmp 47) ?_ y (F+i*18+8) ?_ [.int .i64 e5,.int .u32 (f3:Int),.int .u32 (e7:Int),.bool e9,.int .i64 c2,.int .i64 c4,.slice f1 b9 c6] _ (fun j s E=>(show Ext c f from o).cell_some (b6.out j s E) id) Tryz.underlying98 rfl kz <;> first | rfl | (simp;done)
   try simp only [Act.put,pq]
   refine rE [6] ?_;refine Qb.cons rfl (fun K hK=>?_) Qb.nil;refine iw rfl ?_;go_simp;refine(b0.out _ b).mono ?_;rintro c8 g8 ⟨rfl,A⟩;have B:Ext c g8:=b.trans A;clear A b;refine hK _ _ B (fun _=>?_);clear hK K;try simp only [Act.put,pq]
   refine tE 7 43 B ?_;refine rE [13] ?_;refine Qb.cons rfl (fun K hK=>?_) Qb.nil;refine iw rfl ?_;go_simp;refine(b1.out _ B).mono ?_;rintro c8 g9 ⟨rfl,d3⟩;have C:Ext c g9:=B.trans d3;clear d3 B;refine hK _ _ C (fun _=>?_);clear hK K;try simp only [Act.put,pq]
   refine tE 14 50 C ?_;refine tE 15 5 C ?_;refine Qv kz ?_ _;have g7:=Zh C;clear C b0 b1 b3 b6 j3 j4;go_wp2;exact⟨⟨i+1,a9,by omega,by omega,j7,tz,rfl,e.out.trans g7.out⟩,mz⟩
  have i6:¬ (i:Int)<(n:Int)\/((i:Int)<(n:Int)/\¬ (i:Int)<=6):=by omega
  rcases i6 with I | ⟨I,d1⟩
  try any_goals (exfalso;omega)
  all_goals
   clear G;go_wp2;refine wp_loop (Qca m t (.slice lo n lc) (.slice O m N) w) (fun a _=>((m:Int) - intOf (a.tmps.getD 7 undef)).toNat) ?_ ?_
   ·exact⟨0,by omega,rfl,rfl,e.out⟩
   clear e;rintro⟨k0,_⟩ c ⟨l,l6,a0,D,p⟩;subst a0;obtain⟨s,rfl⟩:=Zd D;clear D;have e:=Zh p;clear p;by_cases i3:l<m;case pos=>
    have d2:(l:Int)<(m:Int):=by omega
    have l1:(0:Int)<=(l:Int):=by omega
    have i4:l<qs.length:=by rw [f8.out];exact i3
    obtain⟨y,F,i0,k,g,⟨s,v,d5,E,j1⟩,k1⟩:=Jj.at (Z3 u.out e.out) i4;replace k:=k zd;obtain⟨k,d7⟩:=k;simp only [zV] at k;obtain⟨rfl,j8,rfl⟩:=k;rw [d5] at g;obtain⟨k9,k8,rfl,j0,k2⟩:=E;obtain⟨n4,n3,rfl,j2,k3⟩:=j1;have c7:=g 0 _ rfl;have i1:=g 1 _ rfl;rw [Nat.add_zero] at c7;obtain⟨Q,d6⟩:=zE (qs[l].1.1.length);obtain⟨a6,e2⟩:=zE (qs[l].1.2.length);rw [d6] at c7;rw [e2] at i1;clear g d5 j0 j2 k1 k2 k3 d7 d6 e2 j8 u r;by_cases l2:100<Q
    ·have U:(Q:Int) > 100:=by omega
     go_wp2;go_ret;exact⟨false,rfl,e.out⟩
    ·have U:¬ (Q:Int) > 100:=by omega
     by_cases l7:100<a6
     ·have V:(a6:Int) > 100:=by omega
      go_wp2;go_ret;exact⟨false,rfl,e.out⟩
     ·have V:¬ (a6:Int) > 100:=by omega
      go_wp2;exact⟨⟨l+1,by omega,tz,rfl,e.out⟩,mz⟩
   have d2:¬ (l:Int)<(m:Int):=by omega
   clear u;by_cases m1:t<=40
   ·have U:(t:Int)<=40:=by omega
    have e0:=r.out c e.out;have b7:=Zh e0;clear e0 r;go_wp2_with fail;refine b7.out.mono ?_;rintro c8 k6 ⟨a7,l8,rfl,A⟩;have b2:=Zh (e.out.trans A);clear A b7;by_cases l9:a7<=4
    ·have V:(a7:Int)<=4:=by omega
     go_wp2;go_ret;exact⟨_,rfl,b2.out⟩
    ·have V:¬ (a7:Int)<=4:=by omega
     go_wp2;go_ret;exact⟨_,rfl,b2.out⟩
   ·have U:¬ (t:Int)<=40:=by omega
    clear r;go_wp2;go_ret;exact⟨_,rfl,e.out⟩
def Q4b(ps:Qs)(qs:Qi)(w:World)(e:Ending)(w':World):Prop:=∃ b:Bool,e=.returned (.bool b)/\(b=true->Ka (ps.map (·.1)) (qs.map (·.1)))/\Ext w w'
def Qbz(m:Nat)(pv:Value)(QS:List (Wd × Wd)) (w:World) (a:Act) (W:World):Prop:=∃(k:Nat),k<=m/\a.defers=[]/\gS a [1,5]=(47,[pv,.int .i64 k])/\(∀ q∈QS.take k,wE q.1=0/\wE q.2=0)/\Ext w W
theorem Q2g{w:World}{ps:Qs}{qs:Qi}{lo:Option Addr}{n lc:Nat}{Z:Option Addr}{m Y:Nat}(L:Za w (.slice lo n lc) ps) (A:ps.length=n) (M:Zg w (.slice Z m Y) qs) (l:qs.length=m) (b5:Tab w) :
  Calls Tryz.prog 42 #[.slice lo n lc,.slice Z m Y] w (Q4b ps qs w):=by
 have e3:n<=maxLen:=by rw [<-A];exact L.1.2.1
 have e1:m<=maxLen:=by rw [<-l];exact M.1.2.1
 unfold maxLen at e3 e1;have c3:=Q3y L A M l;have z:=fun(V:World) (e:Ext w V)=>R9 (L.ext e) A (b5.keep e id);have d0:=fun(V:World) (e:Ext w V) (d1:Value) (a0:Wd) (h:Qk V d1 a0)=>Uv h;have F:n<=4->m<=5->Jv (ps.map (·.1))=0->(∀ q∈qs.map (·.1),wE q.1=0/\wE q.2=0)->Ka (ps.map (·.1)) (qs.map (·.1)):=fun u h2 T h4=>⟨by rw [List.length_map,A];exact u,by rw [List.length_map,l];exact h2,Q1m (by rw [List.length_map,A];omega) (Q28 T) (by rw [List.length_map,l];omega) h4⟩;obtain⟨a9,D⟩:=zE (Jv (ps.map (·.1)));simp only [D] at z F;obtain⟨d,E⟩:=zE (qs.map (·.1));rw [E] at F;have b4:d.length=m:=by rw [<-E,List.length_map,l]
 have b3:∀ b (h:b<qs.length) (h':b<d.length),d[b]=qs[b].1:=fun b h h'=>by subst E;rw [List.getElem_map]
 have X:∀(t:Bool) (s:World),(t=true->Ka (ps.map (·.1)) d)->Ext w s->Q4b ps qs w (.returned (.bool t)) s:=fun t s h e=>⟨t,rfl,fun hb=>by rw [E];exact h hb,e⟩;obtain⟨f1,W⟩:=zE (Ka (ps.map (·.1)) d);rw [W] at F;simp only [W] at X;obtain⟨a6,B,j,i,a7,d3,a8,d5⟩:=Zh8 c3 z d0 F M l b4 b3;have g:=Zh X;clear c3 z d0 F L A M l b5 D b4 b3 X E W;go_enter Tryz.func42,Tryz.ntmps42;go_wp2_with fail;refine a6.out.mono ?_;rintro S e7 ⟨t,rfl,v⟩;have r:=Zh v;clear v a6;cases t with
 | false=>
  clear B j i;go_wp2;go_ret;exact g.out false _ (fun h=>by cases h) r.out
 | true=>
  by_cases e2:n<=4;case neg=>
   have b0:(n:Int) > 4:=by omega
   clear B j i;go_wp2;go_ret;exact g.out false _ (fun h=>by cases h) r.out
  have b0:¬ (n:Int) > 4:=by omega
  by_cases e0:m<=5;case neg=>
   have b1:(m:Int) > 5:=by omega
   clear B j i;go_wp2;go_ret;exact g.out false _ (fun h=>by cases h) r.out
  have b1:¬ (m:Int) > 5:=by omega
  have z:=B.out e7 r.out;have a4:=Zh z;clear z B;go_wp2_with fail;refine a4.out.mono ?_;rintro S g6 ⟨rfl,y⟩;have f:=Zh (r.out.trans y);clear y a4 r;by_cases D:a9=0;case neg=>
   have f8:(a9 != 0)=true:=by rw [bne_iff_ne];exact D
   clear j i;go_wp2;go_ret;exact g.out false _ (fun h=>by cases h) f.out
  subst D;go_wp2;clear b0 b1;refine wp_loop (Qbz m (.slice Z m Y) d w) (fun a _=>((m:Int) - intOf (a.tmps.getD 5 undef)).toNat) ?_ ?_
  ·exact⟨0,by omega,rfl,rfl,(fun q h=>by cases h),f.out⟩
  clear f;rintro⟨g4,_⟩ s ⟨b,g0,d8,c5,b6,e⟩;subst d8;obtain⟨a0,rfl⟩:=Zd c5;clear c5;have o:=Zh e;have H:=Zh b6;clear e b6;by_cases c1:b<m;case neg=>
   obtain rfl:b=m:=by omega
   have T:¬ (b:Int)<(b:Int):=by omega
   have b9:=i.out e2 e0 uz (by have:=H.out;rwa [List.take_of_length_le (by rw [a8.out];exact Nat.le_refl _)] at this);have d2:=Zh b9;clear b9 j i a7 H;go_wp2;go_ret;exact g.out true _ (fun _=>d2.out) o.out
  have T:(b:Int)<(m:Int):=by omega
  have f9:(0:Int)<=(b:Int):=by omega
  have c2:b<qs.length:=by rw [d3.out];exact c1
  have c0:b<d.length:=by rw [a8.out];exact c1
  have c4:=d5.out b c2 c0;have c7:d.take (b+1)=d.take b++[d[b]]:=List.take_succ_eq_append_getElem c0;obtain⟨f7,g1,f3,c,N,⟨a0,d1,b7,e4,e5⟩,e8⟩:=Jj.at (Z3 a7.out o.out) c2;replace c:=c zd;obtain⟨c,d9⟩:=c;simp only [zV] at c;obtain⟨rfl,e6,rfl⟩:=c;rw [b7] at N;obtain⟨f6,f4,rfl,c8,e9⟩:=e4;obtain⟨g3,g2,rfl,c9,f0⟩:=e5;have R:=N 0 _ rfl;have C:=N 1 _ rfl;rw [Nat.add_zero] at R;have K:=j.out s o.out _ _ c8;have k:=fun(V:World) (hV:Ext s V)=>j.out V (o.out.trans hV) _ _ (c9.ext hV);obtain⟨O,U⟩:=zE (wE qs[b].1.1);obtain⟨P,v⟩:=zE (wE qs[b].1.2);rw [U] at K;simp only [v] at k
  have G:O=0->P=0->∀ q∈d.take (b+1),wE q.1=0/\wE q.2=0:=fun J u q c=>by
   rw [c7] at c;rcases List.mem_append.1 c with c | c
   ·exact H.out q c
   ·rw [List.mem_singleton] at c;subst c;rw [c4];exact⟨U.trans J,v.trans u⟩
  obtain⟨f5,b8⟩:=zE (qs[b].1.1.length);obtain⟨g5,c6⟩:=zE (qs[b].1.2.length);rw [b8] at R K;simp only [c6] at C k;obtain⟨a1,Q,I,a3⟩:=Zh4 K k G C;clear K k G N b7 c8 c9 e8 e9 f0 d9 b8 c6 e6 U v c4 c7 i H C;go_wp2_with fail;refine a1.out.mono ?_;rintro S d6 ⟨rfl,y⟩;have f:=Zh y;have C:=y.cell_some a3.out id;clear y a1 R a3;by_cases J:O=0;case neg=>
   have d7:(O != 0)=true:=by rw [bne_iff_ne];exact J
   clear Q I;go_wp2;go_ret;exact g.out false _ (fun h=>by cases h) (o.out.trans f.out)
  subst J;have k:=Q.out d6 f.out;have a2:=Zh k;clear k Q;go_wp2_with fail;refine a2.out.mono ?_;rintro S f2 ⟨rfl,b2⟩;have a5:=Zh (o.out.trans (f.out.trans b2));clear b2 a2 C;by_cases u:P=0;case neg=>
   have d7:(P != 0)=true:=by rw [bne_iff_ne];exact u
   clear I;go_wp2;go_ret;exact g.out false _ (fun h=>by cases h) a5.out
  subst u;have G:=I.out uz uz;have d4:=Zh G;clear G I;go_wp2;exact⟨⟨b+1,by omega,tz,rfl,d4.out,a5.out⟩,mz⟩
end Go.Proofs.YtfdlhlghcbeblaaGreatDoor
