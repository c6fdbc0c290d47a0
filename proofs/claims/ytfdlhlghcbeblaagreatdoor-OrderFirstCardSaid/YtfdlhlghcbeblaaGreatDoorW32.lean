/- ablautlaw14.OrderFirst: the walk (printed by genoutright.py). -/
import Derived.Test.YtfdlhlghcbeblaaGreatDoorW27
set_option maxRecDepth 100000
set_option maxHeartbeats 16000000
namespace Go.Proofs.YtfdlhlghcbeblaaGreatDoor
open Go.RowKit Go.Ab
attribute [local go_sem] Oper.semAt_some Z1 Qk
theorem Q4w{w:World}{A:Option Addr}{n c:Nat}{xs:List Value}(h:Rd w (.slice A n c) n 1 xs) {b:Nat} (p:b<=n):Rd w (.slice A b c) b 1 (xs.take b):=by
 obtain⟨a,o,l,m,d,f⟩:=h;simp only [zV,true_and] at d;obtain⟨rfl,rfl⟩:=d;rw [Nat.mul_one] at a;refine⟨by rw [List.length_take,a];omega,by omega,_,_,rfl,fun h0=>?_⟩;obtain⟨e,k,rfl,i,g⟩:=f oz
 ·refine⟨e,k,rfl,i,fun j hj=>?_⟩;rw [g j oz]
  congr 1
  rw [List.getD_eq_getElem?_getD,List.getD_eq_getElem?_getD,List.getElem?_take,if_pos oz]
theorem Q1q{w:World}{ao:Option Addr}{a:Nat}{L:List (List Nat)} (h:Za w (.slice ao L.length a) L) {q:Nat} (g:q<=L.length) (_hc:L.length<=a):Za w (.slice ao q a) (L.take q):=by
 obtain⟨l,e,f⟩:=h;have b:(L.take q).length=q:=by rw [List.length_take];omega
 refine⟨l.take q,by rw [b];exact Q4w e g,fun i hi=>?_⟩;rw [b] at hi;obtain⟨d,c,j,k⟩:=f i oz;rw [List.getElem_take];exact⟨d,c,by rw [List.getD_eq_getElem?_getD,List.getElem?_take,if_pos hi,<-List.getD_eq_getElem?_getD];exact j,k⟩
theorem Q0h{w:World}{ps:Qg}{qs:Q8}{lo:Option Addr}{n lc:Nat}{c2:Option Addr}{m pc:Nat}(s:Qz w (.slice lo n lc) ps) (g:ps.length=n) (v:Z3 w (.slice c2 m pc) qs) (u:qs.length=m) (most:Int) (r:Tab w) :
  Calls Tryz.prog 7 #[.slice lo n lc,.slice c2 m pc,.int .i64 most] w fun e w'=>e=.returned (.bool true)/\Ext w w':=by
 have d2:n<=maxLen:=by rw [<-g];exact s.1.2.1
 have d1:m<=maxLen:=by rw [<-u];exact v.1.2.1
 unfold maxLen at d2 d1;have c0:=fun(V:World) (hE:Ext w V)=>Hn (s.ext hE) g (Qj v hE) u (r.keep hE id);have c1:=fun(V:World) (hE:Ext w V)=>Hl V (r.keep hE id);have l:=fun(V:World) (hE:Ext w V)=>Q10 (most:=24) (s.ext hE) g (Qj v hE) u (r.keep hE id);have o:=fun(V:World) (hE:Ext w V)=>Fr (most:=most) (s.ext hE) g (Qj v hE) u (r.keep hE id);have b6:=g
 have N:n<=4->Qo (ps.map (·.1)) (qs.map (·.1))=0->Uj (ps.map (·.1)) qs 24=Z4 (ps.map (·.1)) qs n/\Uj (ps.map (·.1)) qs most=(Z4 (ps.map (·.1)) qs n).take most.toNat:=fun h4 h0=>by
  have d5:=Db (ps.map (·.1)) qs n h4;unfold Uj;rw [if_pos h0,if_pos h0,List.length_map,g];exact⟨List.take_of_length_le oz,rfl⟩
 obtain⟨b,k⟩:=zE (Z4 (ps.map (·.1)) qs n);simp only [k] at N;clear k;obtain⟨X,Y,H,I,G,W⟩:=Zh6 c0 c1 l o N b6;clear s g v u r c0 c1 l o N b6;go_enter Tryz.func7,Tryz.ntmps7;have c7:Ext w w:=Q0.refl _ _;go_wp2_with fail;refine(X.out _ (Q0.refl _ _)).mono ?_;rintro e Q ⟨c4,rfl,b3,a⟩;have i:Ext w Q:=a;have F:=Zh b3;clear a X c7 b3;cases c4 with
 | false=>
  clear H I G F W;go_wp2_with fail;refine(Y.out _ i).mono ?_;rintro e f ⟨rfl,a⟩;have c8:Ext Q f:=a;have j:Ext w f:=i.trans a;clear a;have E:=Zh j;clear i j;go_wp2;go_ret;exact⟨rfl,E.out⟩
 | true=>
  obtain⟨a7,c5,J⟩:=F.out uz;rw [List.length_map,W.out] at a7;obtain⟨b0,b1⟩:=G.out a7 J;have U:=Zh J;clear c5 J F G;have l:=H.out _ i;rw [b0,U.out] at l;have Z:=Zh l;clear l H b0;go_wp2_with fail;refine(Z.out).mono ?_;rintro e f ⟨B,q,rfl,⟨y,b2⟩,a⟩;have c8:Ext Q f:=a;have j:Ext w f:=i.trans a;clear a;have a1:Hid (∀ D,Ext f D->Za D (.slice B b.length q) b):=Zh (fun D hD=>Za.ext y hD);clear y;clear Z;have o:=I.out _ j;rw [b1,U.out] at o;have a0:=Zh o;clear o I;go_wp2_with fail;refine(a0.out).mono ?_;rintro e p ⟨a6,a5,rfl,y,a⟩;have c9:Ext f p:=a;have a8:Ext w p:=j.trans a;clear a;have a2:Hid (∀ D,Ext p D->Za D (.slice a6 (b.take most.toNat).length a5) (b.take most.toNat)):=Zh (fun D hD=>Za.ext y hD);clear y;clear a0;obtain⟨d,k⟩:=zE (min b.length most.toNat);have x:(b.take most.toNat).length=d:=by rw [List.length_take,Nat.min_comm];exact k
  have b7:d<=b.length:=by omega
  have b8:d<=q:=by omega
  have b5:min (b.length:Int) (max most 0)=(d:Int):=by omega
  have b9:=fun D=>Rg (P:=Tryz.prog) (t:=27) (size:=1) (A:=B) (n:=b.length) (c:=q) kz (fun D=>by rfl) d b8 D;have O:b.take most.toNat=b.take d:=by
   rw [<-k];by_cases c6:most.toNat<=b.length
   ·rw [Nat.min_eq_right c6]
   ·rw [Nat.min_eq_left oz,List.take_of_length_le oz,List.take_of_length_le (Nat.le_refl _)]
  have a4:Hid (∀ D,Ext f D->Za D (.slice B d q) (b.take d)):=Zh (fun D hD=>Q1q (a1.out D hD) b7 b2);have C:=a2.out;rw [O] at C x;simp only [x] at C;have a3:=Zh C;obtain⟨d4,L⟩:=zE b.length;rw [L] at b5 b9;have d3:=Zh x;simp only [O,x,L];clear C O a1 a2 k b7 b8 b2 b1 L x;have M:=Sk (.slice a6 d a5) (.slice B d q) (b.take d) (b.take d) p (a3.out _ (Q0.refl _ _)) (a4.out _ c9);rw [decide_eq_true rfl] at M;have T:=Zh M;clear M;go_wp2_with fail;refine T.out.mono ?_;rintro e S ⟨rfl,d7,b4⟩;have d0:Ext p S:=by rw [b4];exact(Q0.refl _ p).drewN _
  have K:Ext w S:=a8.trans d0;clear b4 T a3 a4 b5 b9;go_wp2_with fail;refine(Y.out _ K).mono ?_;rintro e c3 ⟨rfl,a⟩;have d6:Ext S c3:=a;have a9:Ext w c3:=K.trans a;clear a;have E:=Zh a9;clear i j a8 K a9;go_wp2;go_ret;exact⟨rfl,E.out⟩
end Go.Proofs.YtfdlhlghcbeblaaGreatDoor
