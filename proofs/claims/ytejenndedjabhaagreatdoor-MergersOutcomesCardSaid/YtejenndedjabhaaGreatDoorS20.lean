/- short: some bool for rows of words. -/
import Derived.Test.YtejenndedjabhaaGreatDoorS19
set_option maxRecDepth 100000
set_option maxHeartbeats 8000000
namespace Go.Proofs.YtejenndedjabhaaGreatDoor
open Go.RowKit Go.Ab
attribute [local go_sem] Oper.semAt_some Zm Qv
def Q11(w:World)(v:Value)(vs:List Value):Prop:=Rd w v vs.length 1 vs/\∀ u∈vs,∃ ao n c,u=.slice ao n c/\n<=maxLen
def Tr(u:Value):Prop:=∀ ao n c,u=.slice ao n c->n<=50
def Q9d(P:Prop)(w:World)(e:Ending)(w':World):Prop:=∃ b:Bool,e=.returned (.bool b)/\(b=true->P)/\Ext w w'
theorem Q6l(ao:Option Addr)(n c:Nat)(w:World):Calls Tryz.prog 82 #[.slice ao n c] w fun e w'=>e=.returned (.bool (decide (50<n)))/\Ext w w':=by
 by_cases a:50<n
 ·have b:(n:Int) > 50:=by omega
  rw [decide_eq_true a];go_enter Tryz.func82,Tryz.ntmps82;go_wp2;go_ret;exact⟨rfl,Q0.refl _ _⟩
 ·have b:¬ (n:Int) > 50:=by omega
  rw [decide_eq_false a];go_enter Tryz.func82,Tryz.ntmps82;go_wp2;go_ret;exact⟨rfl,Q0.refl _ _⟩
theorem Q3p{w:World}{ao:Option Addr}{N cap:Nat}{vs:List Value}(p:Q11 w (.slice ao N cap) vs) (n:vs.length=N) :
  Calls Tryz.prog 121 #[.slice ao N cap,.func (.func 82) #[] #[]] w fun e w'=>∃ z:Int,e=.returned (.int .i64 z)/\(z<0->∀ u∈vs,Tr u)/\Ext w w':=by
 have k:=p.1;rw [n] at k;have K:=k.2.1;unfold maxLen at K;obtain⟨E,H,t⟩:=Zh3 k p.2 n;clear p n k;go_enter Tryz.func121,Tryz.ntmps121;go_wp2
 refine wp_loop (fun b m=>∃(a:Nat),a<=N/\b.defers=[]/\gS b [0,1,7,8]=(19,[.slice ao N cap,.func (.func 82) #[] #[],.int .i64 N,.int .i64 a])/\(∀ u∈vs.take a,Tr u)/\Ext w m)
  (fun b _=>N - (intOf (b.tmps.getD 8 undef)).toNat) ?_ ?_
 ·exact⟨0,by omega,rfl,rfl,by simp,Q0.refl _ _⟩
 rintro⟨Y,_⟩ m ⟨a,V,J,C,c,v⟩;subst J;obtain⟨u,rfl⟩:=Qc C;clear C;have f:=Zh v;have l:=Zh c;clear v c;by_cases A:a<N
 ·have I:(a:Int)<(N:Int):=by omega
  have T:(0:Int)<=(a:Int):=by omega
  have i:a<vs.length:=by rw [t.out];exact A
  obtain⟨S,X,R,B,U,o⟩:=Z7 (E.out.ext f.out) A;simp only [zV,true_and] at B;obtain⟨rfl,rfl⟩:=B;rw [List.getD_eq_getElem?_getD,List.getElem?_eq_getElem i,Option.getD_some] at o;obtain⟨O,r,M,q,L⟩:=H.out _ (List.getElem_mem i);rw [q] at o;unfold maxLen at L
  have d:r<=50->∀ u∈vs.take (a+1),Tr u:=fun g u j=>by
   rw [List.take_succ_eq_append_getElem i,List.mem_append,List.mem_singleton] at j;rcases j with j | rfl
   ·exact l.out u j
   ·intro b W Q e;rw [q] at e;cases e;exact g
  have F:=Zh d;clear q i d;go_wp2_with fail;refine(Q6l O r M m).mono ?_;rintro e P ⟨rfl,x⟩;have s:=Zh (f.out.trans x);clear f x o;by_cases y:50<r
  ·rw [decide_eq_true y];go_wp2;go_ret;exact⟨_,rfl,fun g=>by omega,s.out⟩
  ·have d:=F.out oz;have G:=Zh d;clear d;rw [decide_eq_false y];go_wp2;exact⟨⟨a+1,by omega,tz,rfl,G.out,s.out⟩,nz⟩
 ·obtain rfl:a=N:=by omega
  have I:¬ (a:Int)<(a:Int):=by omega
  have c:∀ u∈vs,Tr u:=by
   have g:=l.out
   rwa [List.take_of_length_le (by rw [t.out];exact Nat.le_refl _)] at g
  have D:=Zh c;clear c l;go_wp2;go_ret;exact⟨_,rfl,fun _=>D.out,f.out⟩
theorem Q5h{w:World}{ao:Option Addr}{N cap:Nat}{vs:List Value}(f:Q11 w (.slice ao N cap) vs) (d:vs.length=N) :
  Calls Tryz.prog 81 #[.slice ao N cap,.func (.func 82) #[] #[]] w fun e w'=>∃ b:Bool,e=.returned (.bool b)/\(b=false->∀ u∈vs,Tr u)/\Ext w w':=by
 have a:=Zh (Q3p f d (cap:=cap));clear f d;go_enter Tryz.func81,Tryz.ntmps81;go_wp2_with fail;refine a.out.mono ?_;rintro e k ⟨l,rfl,g,c⟩;have i:=Zh c;have j:=Zh g;clear a c g;go_wp2;go_ret;exact⟨_,rfl,fun h=>j.out (by simpa using h),i.out⟩
theorem Cz{w:World}{ao:Option Addr}{N cap:Nat}{vs:List Value}(e:Q11 w (.slice ao N cap) vs) (c:vs.length=N) :
  Calls Tryz.prog 39 #[.slice ao N cap] w (Q9d (∀ u∈vs,Tr u) w):=by
 have a:=Zh (Q5h e c (cap:=cap));clear e c;go_enter Tryz.func39,Tryz.ntmps39;go_wp2_with fail;refine a.out.mono ?_;rintro j k ⟨i,rfl,d,b⟩;have g:=Zh b;have f:=Zh d;clear a b d;go_wp2;go_ret;exact⟨_,rfl,fun h=>f.out (by simpa using h),g.out⟩
end Go.Proofs.YtejenndedjabhaaGreatDoor
