/- ablautlaw14.OrderAlls: the walk (printed by genrows14.py). -/
import Derived.Test.YtfdlhlghcbeblaaGreatDoorQ24
set_option maxRecDepth 100000
set_option maxHeartbeats 16000000
namespace Go.Proofs.YtfdlhlghcbeblaaGreatDoor
open Go.RowKit Go.Ab
attribute [local go_sem] Oper.semAt_some Zi Qz
theorem Qdv{w:World}{ps:Qi}{qs:Q9}{lo:Option Addr}{n lc:Nat}{b1:Option Addr}{m b0:Nat}(g:Z5 w (.slice lo n lc) ps) (j:ps.length=n) (k:Z7 w (.slice b1 m b0) qs) (i:qs.length=m) (most:Int) (z:Tab w) :
  Calls Tryz.prog 6 #[.slice lo n lc,.slice b1 m b0,.int .i64 most] w fun e w'=>e=.returned (.bool true)/\Ext w w':=by
 have c0:n<=maxLen:=by rw [<-j];exact g.1.2.1
 have b9:m<=maxLen:=by rw [<-i];exact k.1.2.1
 unfold maxLen at c0 b9;have a8:=fun(V:World) (hE:Ext w V)=>M6 (g.ext hE) j (Qg k hE) i;have a9:=fun(V:World) (hE:Ext w V)=>Fb V (z.keep hE id);have x:=fun(V:World) (hE:Ext w V)=>Sf (g.ext hE) j (Qg k hE) i (z.keep hE id);have r:=fun(V:World) (hE:Ext w V)=>Q49 (g.ext hE) j (Qg k hE) i;simp only [Ph.1,Ph.2] at r;have A:=fun(V:World) (hE:Ext w V)=>Q29 (most:=most) (g.ext hE) j (Qg k hE) i (z.keep hE id);have v:=fun(V:World) (hE:Ext w V)=>Q6o (most:=most) (g.ext hE) j (Qg k hE) i;simp only [Qds] at v;obtain⟨c3,b⟩:=zE (Qu (ps.map (·.1)) (qs.map (·.1)));simp only [b] at x r A v;clear b;obtain⟨d,b⟩:=zE (Hn (ps.map (·.1)) qs);simp only [b] at x r;clear b;obtain⟨c2,b⟩:=zE (M7 (ps.map (·.1)) qs);simp only [b] at x r;clear b;obtain⟨o,b⟩:=zE (W3 (ps.map (·.1)) qs most);simp only [b] at A v;clear b;obtain⟨Q,S,I,H,E,G⟩:=Zh6 a8 a9 x r A v;clear g j k i z a8 a9 x r A v;go_enter Tryz.func6,Tryz.ntmps6;have b5:Ext w w:=Q0.refl _ _;go_wp2_with fail;refine(Q.out _ (Q0.refl _ _)).mono ?_;rintro e O ⟨b4,rfl,a⟩;have p:Ext w O:=a;clear a Q b5;cases b4 with
 | false=>
  clear I H E G;go_wp2_with fail;refine(S.out _ p).mono ?_;rintro e l ⟨rfl,a⟩;have b6:Ext O l:=a;have q:Ext w l:=p.trans a;clear a;have F:=Zh q;clear p q;go_wp2;go_ret;exact⟨rfl,F.out⟩
 | true=>
  go_wp2_with fail;refine(I.out _ p).mono ?_;rintro e l ⟨Z,Y,rfl,c,a⟩;have b6:Ext O l:=a;have q:Ext w l:=p.trans a;clear a;have X:Hid (∀ D,Ext l D->Rd D (.slice Z d.length Y) d.length 1 (Qc d)):=Zh (fun D hD=>c.ext hD);clear c;clear I;go_wp2_with fail;refine(H.out _ q).mono ?_;rintro e B ⟨a1,a0,rfl,c,a⟩;have b7:Ext l B:=a;have J:Ext w B:=q.trans a;clear a;have W:Hid (∀ D,Ext B D->Rd D (.slice a1 d.length a0) d.length 1 (Qc d)):=Zh (fun D hD=>c.ext hD);clear c;clear H;go_wp2_with fail;refine(E.out _ J).mono ?_;rintro e C ⟨a3,a2,rfl,c,a⟩;have a7:Ext B C:=a;have K:Ext w C:=J.trans a;clear a;have T:Hid (∀ D,Ext C D->X0 D (.slice a3 o.length a2) o):=Zh (fun D hD=>X0.ext c hD);clear c;clear E;go_wp2_with fail;refine(G.out _ K).mono ?_;rintro e s ⟨b2,rfl,c,a⟩;have M:Ext C s:=a;have a4:Ext w s:=K.trans a;clear a;have U:Hid (∀ D,Ext s D->X0 D b2 o):=Zh (fun D hD=>X0.ext c hD);clear c;clear G;have f:=Ka (.slice Z d.length Y) (.slice a1 d.length a0) d d s (X.out _ (b7.trans (a7.trans M))) (W.out _ (a7.trans M));rw [decide_eq_true rfl] at f;have t:=Zh f;clear f;go_wp2_with fail;refine t.out.mono ?_;rintro e y ⟨rfl,c1,u⟩;have N:Ext s y:=by rw [u];exact(Q0.refl _ s).drewN _
  have a5:Ext w y:=a4.trans N;clear u t X W;have f:=Q0l (.slice a3 o.length a2) b2 o o y (T.out _ (M.trans N)) (U.out _ N);rw [decide_eq_true rfl] at f;have t:=Zh f;clear f;go_wp2_with fail;refine t.out.mono ?_;rintro e P ⟨rfl,c1,u⟩;have b8:Ext y P:=by rw [u];exact(Q0.refl _ y).drewN _
  have L:Ext w P:=a5.trans b8;clear u t T U;go_wp2_with fail;refine(S.out _ L).mono ?_;rintro e b3 ⟨rfl,a⟩;have c4:Ext P b3:=a;have a6:Ext w b3:=L.trans a;clear a;have F:=Zh a6;clear p q J K a4 a5 L a6;go_wp2;go_ret;exact⟨rfl,F.out⟩
end Go.Proofs.YtfdlhlghcbeblaaGreatDoor
