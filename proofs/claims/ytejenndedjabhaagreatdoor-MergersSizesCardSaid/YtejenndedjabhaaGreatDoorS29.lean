/- MergersSizes: the sizes of classes are those of the document. -/
import Derived.Test.YtejenndedjabhaaGreatDoorS21
set_option maxRecDepth 100000
set_option maxHeartbeats 16000000
namespace Go.Proofs.YtejenndedjabhaaGreatDoor
open Go.RowKit Go.Ab
attribute [local go_sem] Oper.semAt_some Zm Qv
theorem Q0n(l:List Nat):X3 l=Z3 (l.map fun(x:Nat)=>(x:Int)):=by simp [X3,Z3]
theorem Q5e{w:World}{ao:Option Addr}{N cap:Nat}{l:List Int}(c:Rd w (.slice ao N cap) N 1 (Z3 l)) (n:l.length=N) (H:Tab w) :
  Calls Tryz.prog 6 #[.slice ao N cap] w fun e w'=>e=.returned (.bool true)/\Ext w w':=by
 have L:=c.2.1;unfold maxLen at L;have i:=Q93 c n (cap:=cap);have j:=fun(V:World) (b:Ext w V)=>Q66 (c.ext b) n (cap:=cap);obtain⟨s,k⟩:=zE (Jj l);obtain⟨a,o⟩:=zE (Kd l);rw [k,o] at i;simp only [k,o] at j;obtain⟨t,y,A⟩:=Zh3 i j H;clear i j k o c n H;go_enter Tryz.func6,Tryz.ntmps6;by_cases U:N<=300;case neg=>
  have K:(N:Int) > 300:=by omega
  go_wp2_with fail;refine(Xi w A.out).mono ?_;rintro e R ⟨rfl,b⟩;have I:=Zh b;clear b;go_wp2;go_ret;exact⟨rfl,I.out⟩
 have K:¬ (N:Int) > 300:=by omega
 go_wp2_with fail;refine t.out.mono ?_;rintro e R ⟨u,rfl,q,D⟩;obtain⟨O,M,rfl⟩:=Qu q;have B:=Zh (Rd.of_own q);have d:=Zh D;clear t q D;go_wp2_with fail;refine(y.out _ d.out).mono ?_;rintro e S ⟨v,rfl,r,m⟩;obtain⟨Q,P,rfl⟩:=Qu r;have p:=Fs (w:=S) (u:=.slice O a.length M) (v:=.slice Q a.length P) (us:=a.map fun(x:Nat)=>(x:Int)) (vs:=a.map fun(x:Nat)=>(x:Int)) (by rw [<-Q0n,List.length_map];exact B.out.ext m) (by rw [<-Q0n,List.length_map];exact Rd.of_own r);rw [decide_eq_true rfl] at p;have g:=Zh p;have z:=Zh (d.out.trans m);clear y r m p B d;obtain⟨C,G⟩:=zE a.length;rw [G] at g ⊢;clear G;go_wp2_with fail;refine g.out.mono ?_;rintro e T ⟨rfl,E⟩;have f:=Zh (z.out.trans E);clear g E z;go_wp2_with fail;refine(Xi T (A.out.keep f.out id)).mono ?_;rintro e W ⟨rfl,F⟩;have J:=Zh (f.out.trans F);clear F f;go_wp2;go_ret;exact⟨rfl,J.out⟩
end Go.Proofs.YtejenndedjabhaaGreatDoor
