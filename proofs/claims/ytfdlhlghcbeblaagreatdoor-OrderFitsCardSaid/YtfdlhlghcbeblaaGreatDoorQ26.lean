/- ablautlaw14.OrderFits: the walk (printed by genrows14.py). -/
import Derived.Test.YtfdlhlghcbeblaaGreatDoorQ24
set_option maxRecDepth 100000
set_option maxHeartbeats 16000000
namespace Go.Proofs.YtfdlhlghcbeblaaGreatDoor
open Go.RowKit Go.Ab
attribute [local go_sem] Oper.semAt_some Zi Qz
theorem Q6k{w:World}{ps:Qi}{qs:Q9}{lo:Option Addr}{n lc:Nat}{d0:Option Addr}{m c9:Nat}(o:Z5 w (.slice lo n lc) ps) (q:ps.length=n) (s:Z7 w (.slice d0 m c9) qs) (p:qs.length=m) {oo:Option Addr} {b oc:Nat} {xs:List Int} (r:Rd w (.slice oo b oc) b 1 (Zq xs)) (C:xs.length=b) (L:Tab w) :
  Calls Tryz.prog 5 #[.slice lo n lc,.slice oo b oc,.slice d0 m c9] w fun e w'=>e=.returned (.bool true)/\Ext w w':=by
 have e0:n<=maxLen:=by rw [<-q];exact o.1.2.1
 have d9:m<=maxLen:=by rw [<-p];exact s.1.2.1
 unfold maxLen at e0 d9;have c2:=fun(V:World) (hE:Ext w V)=>M6 (o.ext hE) q (Qg s hE) p;have c7:=fun(V:World) (hE:Ext w V)=>Fb V (L.keep hE id);have B:=fun(V:World) (hE:Ext w V)=>Ti (o.ext hE) q (r.ext hE) C (Qg s hE) p (L.keep hE id);have t:=fun(V:World) (hE:Ext w V)=>Q57 (o.ext hE) q (r.ext hE) C (Qg s hE) p;simp only [Q0k.1,Q0k.2] at t;have i:=fun(V:World) (hE:Ext w V)=>S5 (o.ext hE) q (r.ext hE) C (Qg s hE) p (L.keep hE id);have F:=fun(V:World) (hE:Ext w V)=>Q3c (o.ext hE) q (r.ext hE) C (Qg s hE) p;simp only [Qa7] at F;have e1:b<=maxLen:=r.2.1;unfold maxLen at e1;have c8:=C;obtain⟨e4,d⟩:=zE (Zs (ps.map (·.1)) xs (qs.map (·.1)));simp only [d] at B t i F;clear d;obtain⟨e5,d⟩:=zE (M8 (ps.map (·.1)) xs qs);simp only [d] at B t;clear d;obtain⟨e3,d⟩:=zE (Ly (ps.map (·.1)) xs qs);simp only [d] at B t;clear d;obtain⟨g,d⟩:=zE (Hu (ps.map (·.1)) xs qs);simp only [d] at i F;clear d;obtain⟨a5,N,H,J,I,K,z,a7⟩:=Zh8 c2 c7 B t i F r c8;clear o q s p L c2 c7 B t i F r c8;go_enter Tryz.func5,Tryz.ntmps5;have d4:Ext w w:=Q0.refl _ _;go_wp2_with fail;refine(a5.out _ (Q0.refl _ _)).mono ?_;rintro e c ⟨b3,rfl,a⟩;have j:Ext w c:=a;clear a a5 d4;cases b3 with
 | false=>
  clear H J I K z;go_wp2_with fail;refine(N.out _ j).mono ?_;rintro e f ⟨rfl,a⟩;have U:Ext c f:=a;have k:Ext w f:=j.trans a;clear a;have y:=Zh k;clear j k;go_wp2;go_ret;exact⟨rfl,y.out⟩
 | true=>
  by_cases e6:b<=100;case neg=>
   have d3:(b:Int) > 100:=by omega
   clear H J I K z;go_wp2_with fail;refine(N.out _ j).mono ?_;rintro e f ⟨rfl,a⟩;have U:Ext c f:=a;have k:Ext w f:=j.trans a;clear a;have y:=Zh k;clear j k;go_wp2;go_ret;exact⟨rfl,y.out⟩
  have d3:¬ (b:Int) > 100:=by omega
  have b6:(c.alloc (.cells #[] 3)).ownsRow c.heap.size 3 1 (.slice (some ⟨c.heap.size,0,none⟩) 0 0) 0 []:=World.ownsRow_lit c #[] 0 (Nat.le_refl _) (by unfold maxLen;omega) rfl;have a4:=Zh b6;clear b6;have c6:∀ u∈Zq xs,u.oneCell'=true:=fun u hu=>by obtain⟨_,_,rfl⟩:=List.mem_map.1 hu;rfl
  have a6:=Zh c6;clear c6
  go_wp2_with (at_builtin;refine Jo rfl (.tmp 28) (.tmp 29) 48 rfl c.heap.size 3 _ 1 8 Tryz.underlying48 Cp rfl zd _ 0 [] rfl a4.out _ b _ (Zq xs) rfl ((z.out.ext j).ext ((Q0.refl _ c).alloc _)) a6.out ?c3 ?c4 ?c5 ?_)
  case c3=>unfold maxLen;omega
  case c4=>omega
  case c5=>first | omega | (simp;done) | (simp;omega)
  intro a3 a2 f A c1 _;try rw [Nat.zero_add,List.nil_append] at A
  have A:f.ownsRow c.heap.size 3 1 (.slice a3 b a2) b (Zq xs):=A;have U:Ext c f:=Q0.after ((Q0.refl _ c).alloc (.cells #[] 3)) c1 (fun b3 hb e=>by simp only [Value.ownBlock,Option.some.injEq] at e;omega);have k:Ext w f:=j.trans U;have a9:Hid (∀ D,Ext f D->Rd D (.slice a3 b a2) b 1 (Zq xs)):=Zh (fun D hD=>(Rd.of_own A).ext hD);clear A c1 a4 a6;try rw [Nat.zero_add]
  go_wp2_with fail;refine(H.out _ k).mono ?_;rintro e Z ⟨rfl,a⟩;have d5:Ext f Z:=a;have O:Ext w Z:=k.trans a;clear a;clear H;go_wp2_with fail;refine(J.out _ O).mono ?_;rintro e a0 ⟨rfl,a⟩;have d6:Ext Z a0:=a;have P:Ext w a0:=O.trans a;clear a;clear J;go_wp2_with fail;refine(I.out _ P).mono ?_;rintro e M ⟨b2,b1,rfl,E,a⟩;have d7:Ext a0 M:=a;have Q:Ext w M:=P.trans a;clear a;have b0:Hid (∀ D,Ext M D->Rd D (.slice b2 g.length b1) g.length 1 (Qc g)):=Zh (fun D hD=>E.ext hD);clear E;clear I;go_wp2_with fail;refine(K.out _ Q).mono ?_;rintro e v ⟨b5,b4,rfl,E,a⟩;have b9:Ext M v:=a;have b7:Ext w v:=Q.trans a;clear a;have a8:Hid (∀ D,Ext v D->Rd D (.slice b5 g.length b4) g.length 1 (Qc g)):=Zh (fun D hD=>E.ext hD);clear E;clear K;have l:=Ka (.slice b2 g.length b1) (.slice b5 g.length b4) g g v (b0.out _ b9) (a8.out _ (Q0.refl _ _));rw [decide_eq_true rfl] at l;have x:=Zh l;clear l;go_wp2_with fail;refine x.out.mono ?_;rintro e G ⟨rfl,e2,i⟩;have c0:Ext v G:=by rw [i];exact(Q0.refl _ v).drewN _
  have S:Ext w G:=b7.trans c0;clear i x b0 a8;have X:=z.out.ext S;have Y:=a9.out _ (d5.trans (d6.trans (d7.trans (b9.trans c0))));have W:Zq xs=Sx xs:=rfl;rw [W] at X Y;have d2:=Zh W;clear W;have l:=S6 (.slice oo b oc) (.slice a3 b a2) xs xs G (by rw [a7.out];exact X) (by rw [a7.out];exact Y);rw [decide_eq_true rfl] at l;have x:=Zh l;clear l X Y d2 z a9;go_wp2_with fail;refine x.out.mono ?_;rintro e a1 ⟨rfl,e2,i⟩;have d8:Ext G a1:=by rw [i];exact(Q0.refl _ G).drewN _
  have T:Ext w a1:=S.trans d8;clear i x;go_wp2_with fail;refine(N.out _ T).mono ?_;rintro e d1 ⟨rfl,a⟩;have e7:Ext a1 d1:=a;have b8:Ext w d1:=T.trans a;clear a;have y:=Zh b8;clear j k O P Q b7 S T b8;go_wp2;go_ret;exact⟨rfl,y.out⟩
end Go.Proofs.YtfdlhlghcbeblaaGreatDoor
