/- ablautlaw14.OrderBests: the walk (printed by genrows14.py). -/
import Derived.Test.YtfdlhlghcbeblaaGreatDoorQ24
set_option maxRecDepth 100000
set_option maxHeartbeats 16000000
namespace Go.Proofs.YtfdlhlghcbeblaaGreatDoor
open Go.RowKit Go.Ab
attribute [local go_sem] Oper.semAt_some Zi Qz
theorem Qa0{w:World}{ps:Qi}{qs:Q9}{lo:Option Addr}{n lc:Nat}{S:Option Addr}{m Q:Nat}(k:Z5 w (.slice lo n lc) ps) (o:ps.length=n) (p:Z7 w (.slice S m Q) qs) (l:qs.length=m) (x:Tab w) :
  Calls Tryz.prog 8 #[.slice lo n lc,.slice S m Q] w fun e w'=>e=.returned (.bool true)/\Ext w w':=by
 have a1:n<=maxLen:=by rw [<-o];exact k.1.2.1
 have a0:m<=maxLen:=by rw [<-l];exact p.1.2.1
 unfold maxLen at a1 a0;have N:=fun(V:World) (hE:Ext w V)=>M6 (k.ext hE) o (Qg p hE) l;have P:=fun(V:World) (hE:Ext w V)=>Fb V (x.keep hE id);have r:=fun(V:World) (hE:Ext w V)=>Qc5 (k.ext hE) o (Qg p hE) l (x.keep hE id);have i:=fun(V:World) (hE:Ext w V)=>Qba (k.ext hE) o (Qg p hE) l;simp only [Ek.1,Ek.2] at i;obtain⟨a3,c⟩:=zE (Qu (ps.map (·.1)) (qs.map (·.1)));simp only [c] at r i;clear c;obtain⟨b,c⟩:=zE (Fd (ps.map (·.1)) qs);simp only [c] at r i;clear c;obtain⟨a2,c⟩:=zE (Ry (ps.map (·.1)) qs);simp only [c] at r i;clear c;obtain⟨C,E,u,t⟩:=Zh4 N P r i;clear k o p l x N P r i;go_enter Tryz.func8,Tryz.ntmps8;have W:Ext w w:=Q0.refl _ _;go_wp2_with fail;refine(C.out _ (Q0.refl _ _)).mono ?_;rintro e z ⟨U,rfl,a⟩;have f:Ext w z:=a;clear a C W;cases U with
 | false=>
  clear u t;go_wp2_with fail;refine(E.out _ f).mono ?_;rintro e d ⟨rfl,a⟩;have X:Ext z d:=a;have g:Ext w d:=f.trans a;clear a;have s:=Zh g;clear f g;go_wp2;go_ret;exact⟨rfl,s.out⟩
 | true=>
  go_wp2_with fail;refine(u.out _ f).mono ?_;rintro e d ⟨I,H,rfl,q,a⟩;have X:Ext z d:=a;have g:Ext w d:=f.trans a;clear a;have G:Hid (∀ D,Ext d D->Rd D (.slice I b.length H) b.length 1 (Qc b)):=Zh (fun D hD=>q.ext hD);clear q;clear u;go_wp2_with fail;refine(t.out _ g).mono ?_;rintro e j ⟨K,J,rfl,q,a⟩;have Y:Ext d j:=a;have L:Ext w j:=g.trans a;clear a;have F:Hid (∀ D,Ext j D->Rd D (.slice K b.length J) b.length 1 (Qc b)):=Zh (fun D hD=>q.ext hD);clear q;clear t;have y:=Ka (.slice I b.length H) (.slice K b.length J) b b j (G.out _ Y) (F.out _ (Q0.refl _ _));rw [decide_eq_true rfl] at y;have B:=Zh y;clear y;go_wp2_with fail;refine B.out.mono ?_;rintro e A ⟨rfl,a5,O⟩;have Z:Ext j A:=by rw [O];exact(Q0.refl _ j).drewN _
  have v:Ext w A:=L.trans Z;clear O B G F;go_wp2_with fail;refine(E.out _ v).mono ?_;rintro e T ⟨rfl,a⟩;have a4:Ext A T:=a;have M:Ext w T:=v.trans a;clear a;have s:=Zh M;clear f g L v M;go_wp2;go_ret;exact⟨rfl,s.out⟩
end Go.Proofs.YtfdlhlghcbeblaaGreatDoor
