/- ablautlaw14.Light, valid (printed by genlightw.py). -/
import Derived.Test.YtfdlhlghcbeblaaGreatDoorQ23
set_option maxRecDepth 100000
set_option maxHeartbeats 16000000
namespace Go.Proofs.YtfdlhlghcbeblaaGreatDoor
open Go.RowKit Go.Ab
attribute [local go_sem] Oper.semAt_some Zi Qz
def Qhm(n:Nat)(lv pv:Value)(w:World)(a:Act)(W:World):Prop:=∃(i z:Nat),i<=n/\i<=7/\z<=82*i/\a.defers=[]/\gS a [0,1,5,6]=(85,[lv,pv,.int .i64 z,.int .i64 i])/\Ext w W
def Qhg(m z:Nat)(lv pv:Value)(w:World)(a:Act)(W:World):Prop:=∃(k:Nat),k<=m/\a.defers=[]/\gS a [0,1,5,7]=(85,[lv,pv,.int .i64 z,.int .i64 k])/\Ext w W
def Qh5(w:World)(e:Ending)(w':World):Prop:=∃ b:Bool,e=.returned (.bool b)/\Ext w w'
theorem M6{w:World}{ps:Qi}{qs:Q9}{lo:Option Addr}{n lc:Nat}{O:Option Addr}{m N:Nat}(J:Z5 w (.slice lo n lc) ps) (M:ps.length=n) (a5:Z7 w (.slice O m N) qs) (a2:qs.length=m) :
  Calls Tryz.prog 32 #[.slice lo n lc,.slice O m N] w (Qh5 w):=by
 have i7:n<=maxLen:=by rw [<-M];exact J.1.2.1
 have i5:m<=maxLen:=by rw [<-a2];exact a5.1.2.1
 unfold maxLen at i7 i5;have d9:=fun(c0:World) (p:Ext w c0)=>Qcn (J.ext p) M;obtain⟨G,g0,u,f8,r⟩:=Zh5 J M a5 a2 d9;clear J M a5 a2 d9;go_enter Tryz.func32,Tryz.ntmps32;by_cases X:(4<n/\n<=6)\/(5<m/\m<=32)
 ·clear G u r;by_cases I:4<n/\n<=6
  ·have z:(n:Int) > 4:=by omega
   have H:(n:Int)<=6:=by omega
   go_wp2;go_ret;exact⟨false,rfl,Q0.refl _ _⟩
  ·have d1:5<m/\m<=32:=X.resolve_left I;have R:(m:Int) > 5:=by omega
   have T:(m:Int)<=32:=by omega
   by_cases d2:4<n
   ·have z:(n:Int) > 4:=by omega
    have H:¬ (n:Int)<=6:=by omega
    go_wp2;go_ret;exact⟨false,rfl,Q0.refl _ _⟩
   ·have z:¬ (n:Int) > 4:=by omega
    go_wp2;go_ret;exact⟨false,rfl,Q0.refl _ _⟩
 rw [not_or] at X;have a4:n<=4\/6<n:=by omega
 have a3:m<=5\/32<m:=by omega
 clear X;rcases a4 with a4 | a4 <;> rcases a3 with a3 | a3
 all_goals
  first | have z:¬ (n:Int) > 4:=by omega | have z:(n:Int) > 4:=by omega
  first | have H:¬ (n:Int)<=6:=by omega | have H:(n:Int)<=6:=by omega
  first | have R:¬ (m:Int) > 5:=by omega | have R:(m:Int) > 5:=by omega
  first | have T:¬ (m:Int)<=32:=by omega | have T:(m:Int)<=32:=by omega
  go_wp2;refine wp_loop (Qhm n (.slice lo n lc) (.slice O m N) w) (fun a _=>((n:Int) - intOf (a.tmps.getD 6 undef)).toNat) ?_ ?_
  ·exact⟨0,0,by omega,by omega,by omega,rfl,rfl,Q0.refl _ _⟩
  clear z H R T;rintro⟨k0,_⟩ c ⟨i,t,l3,l5,m0,a0,D,p⟩;subst a0;obtain⟨s,rfl⟩:=Qj D;clear D;have e:=Zh p;clear p;by_cases a1:i<n/\i<=6;case pos=>
   obtain⟨a1,l4⟩:=a1;have I:(i:Int)<(n:Int):=by omega
   have l0:(0:Int)<=(i:Int):=by omega
   have d1:(i:Int)<=6:=by omega
   have i2:i<ps.length:=by rw [g0.out];exact a1
   obtain⟨y,F,i0,k,d7,g,L,W⟩:=(G.out.ext e.out).at i2;simp only [zV] at k;obtain⟨rfl,j9,rfl⟩:=k;obtain⟨x,e3⟩:=zE (ps[i]);rw [e3] at g L W;obtain⟨P,k7⟩:=x;dsimp only at g L W;clear e3 j9 W G r u;obtain⟨m5,e4,f2,e6,e8,c1,c3,f0,b8,c5,e5,f3,e7,e9,c2,c4,f1,b9,c6,m3,k4,m2,m7,k5,m6,m4,rfl,f7,b4,b5,f6,g6,g5,g1,g2,g3,g4,f9,m8,m9,n0,n1,n2⟩:=Zr L;have d8:c.rangeAt y (F+i*18+1) [.int .i64 e4,.int .u32 (f2:Int),.int .u32 (e6:Int),.bool e8,.int .i64 c1,.int .i64 c3,.slice f0 b8 c5]:=Hb g 1 7;have e1:c.rangeAt y (F+i*18+8) [.int .i64 e5,.int .u32 (f3:Int),.int .u32 (e7:Int),.bool e9,.int .i64 c2,.int .i64 c4,.slice f1 b9 c6]:=Hb g 8 7;have Y:=fun(f:World) (o:Ext c f)=>Wx (b4.out.ext o);have Z:=fun(f:World) (o:Ext c f)=>Wx (b5.out.ext o);have i8:W8 P.left<=41:=by rw [Lx];omega
   have i9:W8 P.right<=41:=by rw [Lx];omega
   obtain⟨f4,c9⟩:=zE (W8 P.left);obtain⟨f5,d0⟩:=zE (W8 P.right);simp only [c9] at Y i8;simp only [d0] at Z i9;obtain⟨a8,j5⟩:=zE (t+f4);obtain⟨a9,j6⟩:=zE (a8+f5);have j3:IntKind.i64.wrap ((t:Int)+(f4:Int))=(a8:Int):=by rw [IntWalk.i64_in _ oz];omega
   have j4:IntKind.i64.wrap ((a8:Int)+(f5:Int))=(a9:Int):=by rw [IntWalk.i64_in _ oz];omega
   have j7:a9<=82*(i+1):=by omega
   obtain⟨b3,b6,b0,b1⟩:=Zh4 d8 e1 Y Z;clear d8 e1 g Y Z c9 d0 j5 j6 f6 g6 f7 g5 g1 g2 g3 g4 f9 b4 b5 L;go_upto_region 7 with (fail)
   have b:Ext c c.drew:=(Q0.refl _ c).drew;refine Z0 (S:=fun f=>Ext c f) [] kz b ?_;intro _;obtain⟨c0,d4⟩:=zE c.drew;rw [d4] at b ⊢;clear d4;refine tE 0 36 b ?_;refine tE 1 37 b ?_;refine tE 2 38 b ?_;refine tE 3 39 b ?_;refine tE 4 40 b ?_;refine tkE (i:=5) (d:=41) (v:=?_) rfl (Or.inl ⟨by rfl,?_⟩) b ?_;rotate_left
   ·intro f o;refine Vl (x:=.tmp 40) ?_ y (F+i*18+1) ?_ [.int .i64 e4,.int .u32 (f2:Int),.int .u32 (e6:Int),.bool e8,.int .i64 c1,.int .i64 c3,.slice f0 b8 c5] _ (fun j s E=>(show Ext c f from o).cell_some (b3.out j s E) id) Tryz.underlying98 rfl kz <;> first | rfl | (simp;done)
   try simp only [Act.put,pq]
   refine tE 8 44 b ?_;refine tE 9 45 b ?_;refine tE 10 46 b ?_;refine tE 11 47 b ?_;refine tkE (i:=12) (d:=48) (v:=?_) rfl (Or.inl ⟨by rfl,?_⟩) b ?_;rotate_left
   ·intro f o;refine Vl (x:=.tmp 47) ?_ y (F+i*18+8) ?_ [.int .i64 e5,.int .u32 (f3:Int),.int .u32 (e7:Int),.bool e9,.int .i64 c2,.int .i64 c4,.slice f1 b9 c6] _ (fun j s E=>(show Ext c f from o).cell_some (b6.out j s E) id) Tryz.underlying98 rfl kz <;> first | rfl | (simp;done)
   try simp only [Act.put,pq]
   refine rE [6] ?_;refine Q1.cons rfl (fun K hK=>?_) Q1.nil;refine iw rfl ?_;go_simp;refine(b0.out _ b).mono ?_;rintro c8 g8 ⟨rfl,A⟩;have B:Ext c g8:=b.trans A;clear A b;refine hK _ _ B (fun _=>?_);clear hK K;try simp only [Act.put,pq]
   refine tE 7 43 B ?_;refine rE [13] ?_;refine Q1.cons rfl (fun K hK=>?_) Q1.nil;refine iw rfl ?_;go_simp;refine(b1.out _ B).mono ?_;rintro c8 g9 ⟨rfl,d3⟩;have C:Ext c g9:=B.trans d3;clear d3 B;refine hK _ _ C (fun _=>?_);clear hK K;try simp only [Act.put,pq]
   refine tE 14 50 C ?_;refine tE 15 5 C ?_;refine Ql kz ?_ _;have g7:=Zh C;clear C b0 b1 b3 b6 j3 j4;go_wp2;exact⟨⟨i+1,a9,by omega,by omega,j7,tz,rfl,e.out.trans g7.out⟩,mz⟩
  have i6:¬ (i:Int)<(n:Int)\/((i:Int)<(n:Int)/\¬ (i:Int)<=6):=by omega
  rcases i6 with I | ⟨I,d1⟩
  try any_goals (exfalso;omega)
  all_goals
   clear G;go_wp2;refine wp_loop (Qhg m t (.slice lo n lc) (.slice O m N) w) (fun a _=>((m:Int) - intOf (a.tmps.getD 7 undef)).toNat) ?_ ?_
   ·exact⟨0,by omega,rfl,rfl,e.out⟩
   clear e;rintro⟨k0,_⟩ c ⟨l,l6,a0,D,p⟩;subst a0;obtain⟨s,rfl⟩:=Qj D;clear D;have e:=Zh p;clear p;by_cases i3:l<m;case pos=>
    have d2:(l:Int)<(m:Int):=by omega
    have l1:(0:Int)<=(l:Int):=by omega
    have i4:l<qs.length:=by rw [f8.out];exact i3
    obtain⟨y,F,i0,k,g,⟨s,v,d5,E,j1⟩,k1⟩:=U9.at (Qg u.out e.out) i4;replace k:=k zd;obtain⟨k,d7⟩:=k;simp only [zV] at k;obtain⟨rfl,j8,rfl⟩:=k;rw [d5] at g;obtain⟨k9,k8,rfl,j0,k2⟩:=E;obtain⟨n4,n3,rfl,j2,k3⟩:=j1;have c7:=g 0 _ rfl;have i1:=g 1 _ rfl;rw [Nat.add_zero] at c7;obtain⟨Q,d6⟩:=zE (qs[l].1.1.length);obtain⟨a6,e2⟩:=zE (qs[l].1.2.length);rw [d6] at c7;rw [e2] at i1;clear g d5 j0 j2 k1 k2 k3 d7 d6 e2 j8 u r;by_cases l2:100<Q
    ·have U:(Q:Int) > 100:=by omega
     go_wp2;go_ret;exact⟨false,rfl,e.out⟩
    ·have U:¬ (Q:Int) > 100:=by omega
     by_cases l7:100<a6
     ·have V:(a6:Int) > 100:=by omega
      go_wp2;go_ret;exact⟨false,rfl,e.out⟩
     ·have V:¬ (a6:Int) > 100:=by omega
      go_wp2;exact⟨⟨l+1,by omega,tz,rfl,e.out⟩,mz⟩
   have d2:¬ (l:Int)<(m:Int):=by omega
   clear u;by_cases m1:t<=40
   ·have U:(t:Int)<=40:=by omega
    have e0:=r.out c e.out;have b7:=Zh e0;clear e0 r;go_wp2_with fail;refine b7.out.mono ?_;rintro c8 k6 ⟨a7,l8,rfl,A⟩;have b2:=Zh (e.out.trans A);clear A b7;by_cases l9:a7<=4
    ·have V:(a7:Int)<=4:=by omega
     go_wp2;go_ret;exact⟨_,rfl,b2.out⟩
    ·have V:¬ (a7:Int)<=4:=by omega
     go_wp2;go_ret;exact⟨_,rfl,b2.out⟩
   ·have U:¬ (t:Int)<=40:=by omega
    clear r;go_wp2;go_ret;exact⟨_,rfl,e.out⟩
def Qhr(ps:Qi)(qs:Q9)(w:World)(e:Ending)(w':World):Prop:=∃ b:Bool,e=.returned (.bool b)/\(b=true->Qg7 (ps.map (·.1)) (qs.map (·.1)))/\Ext w w'
def Qi6(m:Nat)(pv:Value)(QS:List (Wd × Wd)) (w:World) (a:Act) (W:World):Prop:=∃(k:Nat),k<=m/\a.defers=[]/\gS a [1,5]=(47,[pv,.int .i64 k])/\(∀ q∈QS.take k,wE q.1=0/\wE q.2=0)/\Ext w W
end Go.Proofs.YtfdlhlghcbeblaaGreatDoor
