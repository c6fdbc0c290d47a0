/- slices.Clone over ints. -/
import Derived.Test.YtejenndedjabhaaGreatDoorS06
set_option maxRecDepth 100000
set_option maxHeartbeats 8000000
namespace Go.Proofs.YtejenndedjabhaaGreatDoor
open Go.RowKit Go.Ab
attribute [local go_sem] Oper.semAt_some Zm Qv
theorem Qdi:(Tryz.prog.info? 3).map (fun i=>(i.zero,i.size,i.bytes))=some (some (.int .i64 0),1,8):=by kernel_rfl
theorem Q32{w:World}{ao:Option Addr}{n cap:Nat}{xs:List Value}(s:Rd w (.slice ao n cap) n 1 xs) (d:∀ u∈xs,u.oneCell'=true) (J:n<=1000000) :
  Calls Tryz.prog 45 #[.slice ao n cap] w fun e w'=>∃ bo c,e=.returned (.slice bo n c)/\w'.ownsRow w.heap.size 3 1 (.slice bo n c) n xs/\Ext w w':=by
 have A:=Zh s;have t:=Zh d;obtain⟨l,D,k,H,f,g⟩:=s;simp only [zV,true_and] at f;obtain⟨rfl,rfl⟩:=f;clear d;unfold maxLen at D;cases ao with
 | none=>
  have F:n=0:=by
   apply Nat.eq_zero_of_not_pos;intro E;obtain⟨I,K,d,_⟩:=g E;cases d
  subst F;have G:xs=[]:=List.eq_nil_of_length_eq_zero oz;subst G;clear g l;have f:=fun(w:World)=>Lib.run_eql_slice_nil (P:=Tryz.prog) w 36 3 none 0 cap 0 0 Tryz.underlying36;go_enter Tryz.func45,Tryz.ntmps45;go_wp2;go_ret;exact⟨none,0,rfl,World.ownsRow_nil _ _ _ _,Q0.refl _ _⟩
 | some a=>
  clear g l;have f:=fun(w:World)=>Lib.run_eql_slice_nil (P:=Tryz.prog) w 36 3 (some a) n cap 0 0 Tryz.underlying36;go_enter Tryz.func45,Tryz.ntmps45;have i:Ext w (w.alloc (.cells #[] 3)):=(Q0.refl _ w).alloc _;have o:=World.ownsRow_made (base:=w.heap.size) (e:=3) (size:=1) w #[] 0 (Nat.le_refl _) zd rfl;have r:=A.out.ext i;obtain⟨x,z,j⟩:=Zh3 o r i;clear o r i
  go_wp2_with (at_builtin;refine X4 rfl (.tmp 5) (.tmp 6) 36 rfl w.heap.size 3 _ 1 8 Tryz.underlying36 Qdi rfl zd _ 0 [] rfl x.out _ _ _ _ rfl z.out t.out ?c3 ?c4 ?c5 ?_)
  case c3=>unfold maxLen;omega
  case c4=>omega
  case c5=>exact j.out.size
  intro k C B p q _;have m:Ext w B:=j.out.after q (fun b d e=>by simp [Value.ownBlock] at e;omega);have y:=Zh p;have v:=Zh m;clear p m q;go_wp2;go_ret;refine⟨k,C,?_,?_,v.out⟩
  ·first | rfl | simp
  ·have:=y.out
   simpa using this
end Go.Proofs.YtejenndedjabhaaGreatDoor
