/- ablautlaw14.Light, valid (printed by genlightw.py). -/
import Derived.Test.YtfdlhlghcbeblaaGreatDoorW26
set_option maxRecDepth 100000
set_option maxHeartbeats 16000000
namespace Go.Proofs.YtfdlhlghcbeblaaGreatDoor
open Go.RowKit Go.Ab
attribute [local go_sem] Oper.semAt_some Z1 Qk
def Qcw(n:Nat)(lv pv:Value)(w:World)(a:Act)(W:World):Prop:=∃(i z:Nat),i<=n/\i<=7/\z<=82*i/\a.defers=[]/\gS a [0,1,5,6]=(85,[lv,pv,.int .i64 z,.int .i64 i])/\Ext w W
def Qcn(m z:Nat)(lv pv:Value)(w:World)(a:Act)(W:World):Prop:=∃(k:Nat),k<=m/\a.defers=[]/\gS a [0,1,5,7]=(85,[lv,pv,.int .i64 z,.int .i64 k])/\Ext w W
def Qch(w:World)(e:Ending)(w':World):Prop:=∃ b:Bool,e=.returned (.bool b)/\Ext w w'
theorem Q68{w:World}{ps:Qg}{qs:Q8}{lo:Option Addr}{n lc:Nat}{N:Option Addr}{m pc:Nat}(J:Qz w (.slice lo n lc) ps) (M:ps.length=n) (a4:Z3 w (.slice N m pc) qs) (a1:qs.length=m) :
  Calls Tryz.prog 32 #[.slice lo n lc,.slice N m pc] w (Qch w):=by
 have i6:n<=maxLen:=by rw [<-M];exact J.1.2.1
 have i4:m<=maxLen:=by rw [<-a1];exact a4.1.2.1
 unfold maxLen at i6 i4;have d8:=fun(b9:World) (p:Ext w b9)=>Q92 (J.ext p) M;obtain⟨G,f9,u,f7,r⟩:=Zh5 J M a4 a1 d8;clear J M a4 a1 d8;go_enter Tryz.func32,Tryz.ntmps32;by_cases W:(4<n/\n<=6)\/(5<m/\m<=32)
 ·clear G u r;by_cases I:4<n/\n<=6
  ·have z:(n:Int) > 4:=by omega
   have H:(n:Int)<=6:=by omega
   go_wp2;go_ret;exact⟨false,rfl,Q0.refl _ _⟩
  ·have d0:5<m/\m<=32:=W.resolve_left I;have Q:(m:Int) > 5:=by omega
   have R:(m:Int)<=32:=by omega
   by_cases d1:4<n
   ·have z:(n:Int) > 4:=by omega
    have H:¬ (n:Int)<=6:=by omega
    go_wp2;go_ret;exact⟨false,rfl,Q0.refl _ _⟩
   ·have z:¬ (n:Int) > 4:=by omega
    go_wp2;go_ret;exact⟨false,rfl,Q0.refl _ _⟩
 rw [not_or] at W;have a3:n<=4\/6<n:=by omega
 have a2:m<=5\/32<m:=by omega
 clear W;rcases a3 with a3 | a3 <;> rcases a2 with a2 | a2
 all_goals
  first | have z:¬ (n:Int) > 4:=by omega | have z:(n:Int) > 4:=by omega
  first | have H:¬ (n:Int)<=6:=by omega | have H:(n:Int)<=6:=by omega
  first | have Q:¬ (m:Int) > 5:=by omega | have Q:(m:Int) > 5:=by omega
  first | have R:¬ (m:Int)<=32:=by omega | have R:(m:Int)<=32:=by omega
  go_wp2;refine wp_loop (Qcw n (.slice lo n lc) (.slice N m pc) w) (fun a _=>((n:Int) - intOf (a.tmps.getD 6 undef)).toNat) ?_ ?_
  ·exact⟨0,0,by omega,by omega,by omega,rfl,rfl,Q0.refl _ _⟩
  clear z H Q R;rintro⟨j9,_⟩ c ⟨i,t,l2,l4,l9,Z,D,p⟩;subst Z;obtain⟨s,rfl⟩:=Qq D;clear D;have e:=Zh p;clear p;by_cases a0:i<n/\i<=6;case pos=>
   obtain⟨a0,l3⟩:=a0;have I:(i:Int)<(n:Int):=by omega
   have k9:(0:Int)<=(i:Int):=by omega
   have d0:(i:Int)<=6:=by omega
   have i1:i<ps.length:=by rw [f9.out];exact a0
   obtain⟨y,F,g9,k,d6,g,L,V⟩:=(G.out.ext e.out).at i1;simp only [zV] at k;obtain⟨rfl,j8,rfl⟩:=k;obtain⟨x,e2⟩:=zE (ps[i]);rw [e2] at g L V;obtain⟨O,k6⟩:=x;dsimp only at g L V;clear e2 j8 V G r u;obtain⟨m4,e3,f1,e5,e7,c0,c2,e9,b7,c4,e4,f2,e6,e8,c1,c3,f0,b8,c5,m2,k3,m1,m6,k4,m5,m3,rfl,f6,b3,b4,f5,g5,g4,g0,g1,g2,g3,f8,m7,m8,m9,n0,n1⟩:=Y9 L;have d7:c.rangeAt y (F+i*18+1) [.int .i64 e3,.int .u32 (f1:Int),.int .u32 (e5:Int),.bool e7,.int .i64 c0,.int .i64 c2,.slice e9 b7 c4]:=Vq g 1 7;have e0:c.rangeAt y (F+i*18+8) [.int .i64 e4,.int .u32 (f2:Int),.int .u32 (e6:Int),.bool e8,.int .i64 c1,.int .i64 c3,.slice f0 b8 c5]:=Vq g 8 7;have X:=fun(f:World) (o:Ext c f)=>Gk (b3.out.ext o);have Y:=fun(f:World) (o:Ext c f)=>Gk (b4.out.ext o);have i7:K2 O.left<=41:=by rw [Wr];omega
   have i8:K2 O.right<=41:=by rw [Wr];omega
   obtain⟨f3,c8⟩:=zE (K2 O.left);obtain⟨f4,c9⟩:=zE (K2 O.right);simp only [c8] at X i7;simp only [c9] at Y i8;obtain⟨a7,j4⟩:=zE (t+f3);obtain⟨a8,j5⟩:=zE (a7+f4);have j2:IntKind.i64.wrap ((t:Int)+(f3:Int))=(a7:Int):=by rw [IntWalk.i64_in _ oz];omega
   have j3:IntKind.i64.wrap ((a7:Int)+(f4:Int))=(a8:Int):=by rw [IntWalk.i64_in _ oz];omega
   have j6:a8<=82*(i+1):=by omega
   obtain⟨b2,b5,a9,b0⟩:=Zh4 d7 e0 X Y;clear d7 e0 g X Y c8 c9 j4 j5 f5 g5 f6 g4 g0 g1 g2 g3 f8 b3 b4 L;go_upto_region 7 with (fail)
   have b:Ext c c.drew:=(Q0.refl _ c).drew;refine Qv (S:=fun f=>Ext c f) [] kz b ?_;intro _;obtain⟨b9,d3⟩:=zE c.drew;rw [d3] at b ⊢;clear d3;refine tE 0 36 b ?_;refine tE 1 37 b ?_;refine tE 2 38 b ?_;refine tE 3 39 b ?_;refine tE 4 40 b ?_;refine tkE (i:=5) (d:=41) (v:=?_) rfl (Or.inl ⟨by rfl,?_⟩) b ?_;rotate_left
   ·intro f o;refine Ki (x:=.tmp 40) ?_ y (F+i*18+1) ?_ [.int .i64 e3,.int .u32 (f1:Int),.int .u32 (e5:Int),.bool e7,.int .i64 c0,.int .i64 c2,.slice e9 b7 c4] _ (fun j s E=>(show Ext c f from o).cell_some (b2.out j s E) id) Tryz.underlying98 rfl kz <;> first | rfl | (simp;done)
   try simp only [Act.put,pq]
   refine tE 8 44 b ?_;refine tE 9 45 b ?_;refine tE 10 46 b ?_;refine tE 11 47 b ?_;refine tkE (i:=12) (d:=48) (v:=?_) rfl (Or.inl ⟨by rfl,?_⟩) b ?_;rotate_left
   ·intro f o;refine Ki (x:=.tmp 47) ?_ y (F+i*18+8) ?_ [.int .i64 e4,.int .u32 (f2:Int),.int .u32 (e6:Int),.bool e8,.int .i64 c1,.int .i64 c3,.slice f0 b8 c5] _ (fun j s E=>(show Ext c f from o).cell_some (b5.out j s E) id) Tryz.underlying98 rfl kz <;> first | rfl | (simp;done)
   try simp only [Act.put,pq]
   refine rE [6] ?_;refine Q1.cons rfl (fun K hK=>?_) Q1.nil;refine iw rfl ?_;go_simp;refine(a9.out _ b).mono ?_;rintro c7 g7 ⟨rfl,A⟩;have B:Ext c g7:=b.trans A;clear A b;refine hK _ _ B (fun _=>?_);clear hK K;try simp only [Act.put,pq]
   refine tE 7 43 B ?_;refine rE [13] ?_;refine Q1.cons rfl (fun K hK=>?_) Q1.nil;refine iw rfl ?_;go_simp;refine(b0.out _ B).mono ?_;rintro c7 g8 ⟨rfl,d2⟩;have C:Ext c g8:=B.trans d2;clear d2 B;refine hK _ _ C (fun _=>?_);clear hK K;try simp only [Act.put,pq]
   refine tE 14 50 C ?_;refine tE 15 5 C ?_;refine Ql kz ?_ _;have g6:=Zh C;clear C a9 b0 b2 b5 j2 j3;go_wp2;exact⟨⟨i+1,a8,by omega,by omega,j6,tz,rfl,e.out.trans g6.out⟩,mz⟩
  have i5:¬ (i:Int)<(n:Int)\/((i:Int)<(n:Int)/\¬ (i:Int)<=6):=by omega
  rcases i5 with I | ⟨I,d0⟩
  try any_goals (exfalso;omega)
  all_goals
   clear G;go_wp2;refine wp_loop (Qcn m t (.slice lo n lc) (.slice N m pc) w) (fun a _=>((m:Int) - intOf (a.tmps.getD 7 undef)).toNat) ?_ ?_
   ·exact⟨0,by omega,rfl,rfl,e.out⟩
   clear e;rintro⟨j9,_⟩ c ⟨l,l5,Z,D,p⟩;subst Z;obtain⟨s,rfl⟩:=Qq D;clear D;have e:=Zh p;clear p;by_cases i2:l<m;case pos=>
    have d1:(l:Int)<(m:Int):=by omega
    have l0:(0:Int)<=(l:Int):=by omega
    have i3:l<qs.length:=by rw [f7.out];exact i2
    obtain⟨y,F,g9,k,g,⟨s,v,d4,E,j0⟩,k0⟩:=J5.at (Qj u.out e.out) i3;replace k:=k zd;obtain⟨k,d6⟩:=k;simp only [zV] at k;obtain⟨rfl,j7,rfl⟩:=k;rw [d4] at g;obtain⟨k8,k7,rfl,i9,k1⟩:=E;obtain⟨n3,n2,rfl,j1,k2⟩:=j0;have c6:=g 0 _ rfl;have i0:=g 1 _ rfl;rw [Nat.add_zero] at c6;obtain⟨P,d5⟩:=zE (qs[l].1.1.length);obtain⟨a5,e1⟩:=zE (qs[l].1.2.length);rw [d5] at c6;rw [e1] at i0;clear g d4 i9 j1 k0 k1 k2 d6 d5 e1 j7 u r;by_cases l1:100<P
    ·have T:(P:Int) > 100:=by omega
     go_wp2;go_ret;exact⟨false,rfl,e.out⟩
    ·have T:¬ (P:Int) > 100:=by omega
     by_cases l6:100<a5
     ·have U:(a5:Int) > 100:=by omega
      go_wp2;go_ret;exact⟨false,rfl,e.out⟩
     ·have U:¬ (a5:Int) > 100:=by omega
      go_wp2;exact⟨⟨l+1,by omega,tz,rfl,e.out⟩,mz⟩
   have d1:¬ (l:Int)<(m:Int):=by omega
   clear u;by_cases m0:t<=40
   ·have T:(t:Int)<=40:=by omega
    have d9:=r.out c e.out;have b6:=Zh d9;clear d9 r;go_wp2_with fail;refine b6.out.mono ?_;rintro c7 k5 ⟨a6,l7,rfl,A⟩;have b1:=Zh (e.out.trans A);clear A b6;by_cases l8:a6<=4
    ·have U:(a6:Int)<=4:=by omega
     go_wp2;go_ret;exact⟨_,rfl,b1.out⟩
    ·have U:¬ (a6:Int)<=4:=by omega
     go_wp2;go_ret;exact⟨_,rfl,b1.out⟩
   ·have T:¬ (t:Int)<=40:=by omega
    clear r;go_wp2;go_ret;exact⟨_,rfl,e.out⟩
def Q6j(ps:Qg)(qs:Q8)(w:World)(e:Ending)(w':World):Prop:=∃ b:Bool,e=.returned (.bool b)/\(b=true->W8 (ps.map (·.1)) (qs.map (·.1)))/\Ext w w'
def Qcj(m:Nat)(pv:Value)(QS:List (Wd × Wd)) (w:World) (a:Act) (W:World):Prop:=∃(k:Nat),k<=m/\a.defers=[]/\gS a [1,5]=(47,[pv,.int .i64 k])/\(∀ q∈QS.take k,wE q.1=0/\wE q.2=0)/\Ext w W
theorem Hn{w:World}{ps:Qg}{qs:Q8}{lo:Option Addr}{n lc:Nat}{Y:Option Addr}{m pc:Nat}(L:Qz w (.slice lo n lc) ps) (A:ps.length=n) (M:Z3 w (.slice Y m pc) qs) (l:qs.length=m) (b4:Tab w) :
  Calls Tryz.prog 42 #[.slice lo n lc,.slice Y m pc] w (Q6j ps qs w):=by
 have e2:n<=maxLen:=by rw [<-A];exact L.1.2.1
 have e0:m<=maxLen:=by rw [<-l];exact M.1.2.1
 unfold maxLen at e2 e0;have c2:=Q68 L A M l;have z:=fun(V:World) (e:Ext w V)=>Pf (L.ext e) A (b4.keep e id);have c9:=fun(V:World) (e:Ext w V) (d0:Value) (Z:Wd) (h:Qb V d0 Z)=>K5 h;have F:n<=4->m<=5->U2 (ps.map (·.1))=0->(∀ q∈qs.map (·.1),wE q.1=0/\wE q.2=0)->W8 (ps.map (·.1)) (qs.map (·.1)):=fun u h2 T h4=>⟨by rw [List.length_map,A];exact u,by rw [List.length_map,l];exact h2,Qa5 (by rw [List.length_map,A];omega) (Q2o T) (by rw [List.length_map,l];omega) h4⟩;obtain⟨a8,D⟩:=zE (U2 (ps.map (·.1)));simp only [D] at z F;obtain⟨d,E⟩:=zE (qs.map (·.1));rw [E] at F;have b3:d.length=m:=by rw [<-E,List.length_map,l]
 have b2:∀ b (h:b<qs.length) (h':b<d.length),d[b]=qs[b].1:=fun b h h'=>by subst E;rw [List.getElem_map]
 have X:∀(t:Bool) (s:World),(t=true->W8 (ps.map (·.1)) d)->Ext w s->Q6j ps qs w (.returned (.bool t)) s:=fun t s h e=>⟨t,rfl,fun hb=>by rw [E];exact h hb,e⟩;obtain⟨f0,W⟩:=zE (W8 (ps.map (·.1)) d);rw [W] at F;simp only [W] at X;obtain⟨a5,B,j,i,a6,d2,a7,d4⟩:=Zh8 c2 z c9 F M l b3 b2;have g:=Zh X;clear c2 z c9 F L A M l b4 D b3 b2 X E W;go_enter Tryz.func42,Tryz.ntmps42;go_wp2_with fail;refine a5.out.mono ?_;rintro S e6 ⟨t,rfl,v⟩;have r:=Zh v;clear v a5;cases t with
 | false=>
  clear B j i;go_wp2;go_ret;exact g.out false _ (fun h=>by cases h) r.out
 | true=>
  by_cases e1:n<=4;case neg=>
   have a9:(n:Int) > 4:=by omega
   clear B j i;go_wp2;go_ret;exact g.out false _ (fun h=>by cases h) r.out
  have a9:¬ (n:Int) > 4:=by omega
  by_cases d9:m<=5;case neg=>
   have b0:(m:Int) > 5:=by omega
   clear B j i;go_wp2;go_ret;exact g.out false _ (fun h=>by cases h) r.out
  have b0:¬ (m:Int) > 5:=by omega
  have z:=B.out e6 r.out;have a3:=Zh z;clear z B;go_wp2_with fail;refine a3.out.mono ?_;rintro S g5 ⟨rfl,y⟩;have f:=Zh (r.out.trans y);clear y a3 r;by_cases D:a8=0;case neg=>
   have f7:(a8 != 0)=true:=by rw [bne_iff_ne];exact D
   clear j i;go_wp2;go_ret;exact g.out false _ (fun h=>by cases h) f.out
  subst D;go_wp2;clear a9 b0;refine wp_loop (Qcj m (.slice Y m pc) d w) (fun a _=>((m:Int) - intOf (a.tmps.getD 5 undef)).toNat) ?_ ?_
  ·exact⟨0,by omega,rfl,rfl,(fun q h=>by cases h),f.out⟩
  clear f;rintro⟨g3,_⟩ s ⟨b,f9,d7,c4,b5,e⟩;subst d7;obtain⟨Z,rfl⟩:=Qq c4;clear c4;have o:=Zh e;have H:=Zh b5;clear e b5;by_cases c0:b<m;case neg=>
   obtain rfl:b=m:=by omega
   have T:¬ (b:Int)<(b:Int):=by omega
   have b8:=i.out e1 d9 uz (by have:=H.out;rwa [List.take_of_length_le (by rw [a7.out];exact Nat.le_refl _)] at this);have d1:=Zh b8;clear b8 j i a6 H;go_wp2;go_ret;exact g.out true _ (fun _=>d1.out) o.out
  have T:(b:Int)<(m:Int):=by omega
  have f8:(0:Int)<=(b:Int):=by omega
  have c1:b<qs.length:=by rw [d2.out];exact c0
  have b9:b<d.length:=by rw [a7.out];exact c0
  have c3:=d4.out b c1 b9;have c6:d.take (b+1)=d.take b++[d[b]]:=List.take_succ_eq_append_getElem b9;obtain⟨f6,g0,f2,c,N,⟨Z,d0,b6,e3,e4⟩,e7⟩:=J5.at (Qj a6.out o.out) c1;replace c:=c zd;obtain⟨c,d8⟩:=c;simp only [zV] at c;obtain⟨rfl,e5,rfl⟩:=c;rw [b6] at N;obtain⟨f5,f3,rfl,c7,e8⟩:=e3;obtain⟨g2,g1,rfl,c8,e9⟩:=e4;have R:=N 0 _ rfl;have C:=N 1 _ rfl;rw [Nat.add_zero] at R;have K:=j.out s o.out _ _ c7;have k:=fun(V:World) (hV:Ext s V)=>j.out V (o.out.trans hV) _ _ (c8.ext hV);obtain⟨O,U⟩:=zE (wE qs[b].1.1);obtain⟨P,v⟩:=zE (wE qs[b].1.2);rw [U] at K;simp only [v] at k
  have G:O=0->P=0->∀ q∈d.take (b+1),wE q.1=0/\wE q.2=0:=fun J u q c=>by
   rw [c6] at c;rcases List.mem_append.1 c with c | c
   ·exact H.out q c
   ·rw [List.mem_singleton] at c;subst c;rw [c3];exact⟨U.trans J,v.trans u⟩
  obtain⟨f4,b7⟩:=zE (qs[b].1.1.length);obtain⟨g4,c5⟩:=zE (qs[b].1.2.length);rw [b7] at R K;simp only [c5] at C k;obtain⟨a0,Q,I,a2⟩:=Zh4 K k G C;clear K k G N b6 c7 c8 e7 e8 e9 d8 b7 c5 e5 U v c3 c6 i H C;go_wp2_with fail;refine a0.out.mono ?_;rintro S d5 ⟨rfl,y⟩;have f:=Zh y;have C:=y.cell_some a2.out id;clear y a0 R a2;by_cases J:O=0;case neg=>
   have d6:(O != 0)=true:=by rw [bne_iff_ne];exact J
   clear Q I;go_wp2;go_ret;exact g.out false _ (fun h=>by cases h) (o.out.trans f.out)
  subst J;have k:=Q.out d5 f.out;have a1:=Zh k;clear k Q;go_wp2_with fail;refine a1.out.mono ?_;rintro S f1 ⟨rfl,b1⟩;have a4:=Zh (o.out.trans (f.out.trans b1));clear b1 a1 C;by_cases u:P=0;case neg=>
   have d6:(P != 0)=true:=by rw [bne_iff_ne];exact u
   clear I;go_wp2;go_ret;exact g.out false _ (fun h=>by cases h) a4.out
  subst u;have G:=I.out uz uz;have d3:=Zh G;clear G I;go_wp2;exact⟨⟨b+1,by omega,tz,rfl,d3.out,a4.out⟩,mz⟩
end Go.Proofs.YtfdlhlghcbeblaaGreatDoor
