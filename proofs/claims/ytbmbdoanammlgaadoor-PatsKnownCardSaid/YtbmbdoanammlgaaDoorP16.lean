/- pats.Find. -/
import Derived.Test.YtbmbdoanammlgaaDoorP12
import Derived.Test.YtbmbdoanammlgaaDoorP07
import Derived.Lib.ItoaNum
set_option maxRecDepth 100000
set_option maxHeartbeats 8000000
namespace Go.Proofs.YtbmbdoanammlgaaDoor
open Go.RowKit Go.Ab
attribute [local go_sem] Oper.semAt_some Zx Z4
theorem Mt{v:Nat}(hv:v<18446744073709551616)(h0:v≠0):v.testBit (Lib.bitLen v - 1)=true∧∀ b,v.testBit b=true→b≤Lib.bitLen v - 1:=by
 obtain⟨h1,h2,h3⟩:=Lib.bitLenAux_bounds 64 v (by simpa using hv) h0
 change 1≤Lib.bitLen v at h1
 change 2 ^ (Lib.bitLen v - 1)≤v at h2
 change v<2 ^ Lib.bitLen v at h3
 refine⟨Nat.testBit_of_two_pow_le_and_two_pow_add_one_gt h2 (by rw [show Lib.bitLen v - 1+1=Lib.bitLen v by omega];omega),fun b hb=>?_⟩
 apply Nat.le_of_not_lt
 intro hlt
 have:=Nat.testBit_lt_two_pow (Nat.lt_of_lt_of_le h3 (Nat.pow_le_pow_right (n:=2) (by decide) (show Lib.bitLen v≤b by omega)))
 rw [this] at hb;cases hb
theorem L6{R:Qf}{n a:Nat}(hn:n≤32)(hR:Qk n R)(h:Q3 R a=0)(b:Nat):R a b=false:=by
 cases hb:R a b with
 | false=>rfl
 | true=>
  have:=(hR a b hb).2
  have h2:=U7 R (a:=a) (b:=b) (by omega)
  rw [h,hb] at h2;simp at h2
theorem Ms{R:Qf}{n a:Nat}(hn:n≤32)(hR:Qk n R)(h:Q3 R a≠0):R a (Lib.bitLen (Q3 R a) - 1)=true∧∀ b,R a b=true→b≤Lib.bitLen (Q3 R a) - 1:=by
 have hl:=Yq R a
 obtain⟨h1,h2⟩:=Mt (v:=Q3 R a) (by omega) h
 have hb:∀ b,(Q3 R a).testBit b=true→b<33:=fun b hb=>by
  apply Nat.lt_of_not_le
  intro hle
  have:=Nat.testBit_lt_two_pow (Nat.lt_of_lt_of_le hl (show 8589934592≤2 ^ b from Nat.pow_le_pow_right (n:=2) (by decide) hle))
  rw [this] at hb;cases hb
 refine⟨by rw [← U7 R (hb _ h1)];exact h1,fun b hR'=>h2 b ?_⟩
 have:=(hR a b hR').2
 rw [U7 R (by omega)];exact hR'
def Fz(R:Qf)(n m:Nat)(x y:Int)(ok:Bool):Prop:=
 (ok=false∧x=0∧y=0∧∀ a b,m≤a→a≤n→R a b=false) ∨
 (ok=true∧∃ a b:Nat,x=a∧y=b∧m≤a∧a≤n∧R a b=true∧(∀ a' b',m≤a'→a'<a→R a' b'=false)∧∀ b',R a b'=true→b'≤b)
def Nm(pe:Int)(R:Qf)(n:Nat)(at':Int)(e:Ending):Prop:=∃ x y ok,e=.returned (.tuple #[.int .i64 x,.int .i64 y,.bool ok,.int .i64 pe])∧(if pe=0 then Fz R n at'.toNat x y ok else x=0∧y=0∧ok=false)
theorem Xg{fn:Func}{t u v x:Tmp}(h:fn.results=#[.tmp t,.tmp u,.tmp v,.tmp x])(tmps:Array Value)(P:Program)(w:World) :
  (results fn tmps).run P w=.ok (.tuple #[tmps.getD t undef,tmps.getD u undef,tmps.getD v undef,tmps.getD x undef]) w:=by
 simp [results,h]
theorem Hq{K:Nat→Prop}{w:World}{p:Pat}{cs:List Value}{v:Value}{ws:Wd}(hp:Qc K w p cs)(hK:∀ g,K g→g<w.heap.size)(hv:Qw w v ws)(hT:Tab w)(at':Int) :
  Calls Tryd.prog 16 #[.agg cs.toArray,v,.int .i64 at'] w fun e w'=>Nm (Qu p ws at') (Y0 p ws) ws.length at' e∧Ext w w':=by
 have hmono:Qk ws.length (Y0 p ws):=by
  unfold Y0
  split
  ·exact Yx ws p
  ·exact Qk.no _
 have HT:=Lib.hid hT
 have hre:=fun(V:World) (hE:Ext w V)=>J1 (K:=K) (hp.ext hE) (fun g hg=>Nat.lt_of_lt_of_le (hK g hg) hE.size) (hv.ext hE) (hT.keep hE id)
 obtain⟨ao,cap,rfl,hlc,hcm,_⟩:=Qj hp
 obtain⟨bo,bcap,rfl,hbm⟩:=hv.slice
 clear hp hlc hcm hv hT hK
 have HRE:=Lib.hid hre
 clear hre
 obtain⟨z,hz⟩:∃ z,Y9 p ws=z:=⟨_,rfl⟩
 obtain⟨R,hR⟩:∃ R,Y0 p ws=R:=⟨_,rfl⟩
 rw [hR]
 obtain⟨n,hN⟩:∃ n,ws.length=n:=⟨_,rfl⟩
 have HP:Hid (Qu p ws at'=if z=0 then exE n at' else z):=Lib.hid (by unfold Qu;rw [hz,hN])
 have hn32:z=0→n≤32:=fun h=>by
  subst hz;subst hN
  exact Ua h
 rw [hz] at HRE
 rw [hR] at HRE hmono
 rw [hN] at HRE hbm hmono ⊢
 have HMO:=Lib.hid hmono
 clear hmono
 clear hz hR hN
 have HNL:=Lib.hid hn32
 clear hn32
 unfold Q2 at HRE ⊢
 have z1:=Zg
 have z2:=Qi noB
 have z3:=Z6 noB
 go_enter Tryd.func16,Tryd.ntmps16
 go_wp2_with fail
 refine(HRE.out _ ((Q1.refl _ w).alloc _)).mono ?_
 rintro e w2 ⟨rfl,hE2⟩
 have hE02:Ext w w2:=Q1.trans ((Q1.refl _ w).alloc _) hE2
 clear hE2
 have hR0:(w2.alloc (.cells (Q6 noB) 58)).heap[w2.heap.size]?=some (.cells (Q6 noB) 58 (0,0)):=Q9 rfl
 have hR3:Q8 ((w2.alloc (.cells (Q6 noB) 58)).setRow w2.heap.size (Q4 (Q3 R))) w2.heap.size (Q3 R):=setRow_heap _ _ _ _ _ _ hR0
 have hE3:Ext w ((w2.alloc (.cells (Q6 noB) 58)).setRow w2.heap.size (Q4 (Q3 R))):=hE02.trans (((Q1.refl _ w2).alloc _).after (Q1.setRow _ _ _) (fun b' h1 h2=>by omega))
 go_upto_region 2 with (refine wpList_store_row rfl 58 (.tmp 10) (.tmp 17) rfl w2.heap.size (Q4 (Q3 R)) rfl rfl _ _ hR0 (Tryd.relInfo _) (by rw [Qi,Qa]) (Qh _) ?_)
 generalize ((w2.alloc (.cells (Q6 noB) 58)).setRow w2.heap.size (Q4 (Q3 R)))=w3 at hR3 hE3 ⊢
 generalize w2.heap.size=b at hR3 ⊢
 clear hR0 hE02 z1 z2 z3
 by_cases hz0:z=0
 ·have hn:=HNL.out hz0
  rw [if_pos hz0] at HP
  subst hz0
  go_wp2_with fail
  refine(U1 _ _ _ _ _).mono ?_
  rintro e w4 ⟨rfl,rfl⟩
  by_cases hin:at'<0∨(n:Int)<at'
  ·have hex:exE n at'=3:=by unfold exE;rw [if_pos hin]
   rw [hex] at HP ⊢
   clear hex
   go_wp2
   exact bodyPost_ret (Xg rfl _ _ _) rfl ⟨⟨0,0,false,by rw [HP.out];rfl,by rw [HP.out,if_neg (by decide)];exact⟨rfl,rfl,rfl⟩⟩,hE3⟩
  ·have hex:exE n at'=0:=by unfold exE;rw [if_neg hin]
   rw [hex] at HP ⊢
   obtain⟨m,rfl⟩:∃ m:Nat,at'=m:=⟨at'.toNat,by omega⟩
   have hmn:m≤n:=by omega
   clear hex hin
   go_wp2
   go_loopw [12] (fun i wr=>∃ k:Nat,m≤k∧k≤n+1∧i=.int .i64 k∧wr=w4∧Hid (∀ a b,m≤a→a<k→R a b=false)) (fun i _=>n+1 - (intOf i).toNat)
   case atStart=>exact⟨m,Nat.le_refl _,by omega,rfl,rfl,Lib.hid (fun a b h1 h2=>by omega)⟩
   case round=>
    obtain⟨k,hmk,hk,rfl,rfl,HNO⟩:=hrel
    by_cases hlt:k<n+1
    ·have c0:=hR3.cell (a:=k) (by omega)
     have hl:=Yq R k
     have h1:(k:Int)≤(n:Int):=by omega
     obtain⟨r,hr⟩:∃ r,Q3 R k=r:=⟨_,rfl⟩
     have HR:=Lib.hid hr
     rw [hr] at c0 hl
     clear hr
     by_cases hr0:r=0
     ·have hno:∀ a b,m≤a→a<k+1→R a b=false:=fun a b h1 h2=>by
       by_cases he:a=k
       ·rw [he];exact L6 hn HMO.out (HR.out.trans hr0) b
       ·exact HNO.out a b h1 (by omega)
      have HNO2:=Lib.hid hno
      clear hno
      subst hr0
      go_wp2
      go_roundw
      case rel=>exact⟨k+1,by omega,by omega,by go_num,by first | rfl | trivial,HNO2⟩
      case measure=>simp [intOf];omega
     ·have h2:((r:Int) == 0)=false:=by rw [beq_eq_false_iff_ne];omega
      obtain⟨q1,q2⟩:=Ms hn HMO.out (a:=k) (by rw [HR.out];exact hr0)
      rw [HR.out] at q1 q2
      have HQ:=Lib.hid (And.intro q1 q2)
      have hbl:Lib.bitLen r≤64:=Lib.bitLen_le r 64 (by omega) (by omega)
      have hb1:1≤Lib.bitLen r:=(Lib.bitLenAux_bounds 64 r (by omega) hr0).1
      clear q1 q2
      go_wp2_with (go_at_call 27;refine(Mu r (by omega) _).mono ?_;rintro e w' ⟨rfl,rfl⟩)
      refine bodyPost_ret (Xg rfl _ _ _) rfl ⟨⟨(k:Int),(Lib.bitLen r:Int) - 1,true,by rw [HP.out];rfl,?_⟩,hE3⟩
      rw [HP.out,if_pos rfl]
      exact .inr ⟨rfl,k,Lib.bitLen r - 1,rfl,by omega,by omega,by omega,HQ.out.1,HNO.out,HQ.out.2⟩
    ·obtain rfl:k=n+1:=by omega
     have h1:¬ ((n:Int)+1≤(n:Int)):=by omega
     go_wp2
     refine bodyPost_ret (Xg rfl _ _ _) rfl ⟨⟨0,0,false,by rw [HP.out];rfl,?_⟩,hE3⟩
     rw [HP.out,if_pos rfl]
     exact .inl ⟨rfl,rfl,rfl,fun a b h1 h2=>HNO.out a b h1 (by omega)⟩
 ·have hz1:(z == 0)=false:=by rw [beq_eq_false_iff_ne];exact hz0
  rw [if_neg hz0] at HP
  go_wp2
  exact bodyPost_ret (Xg rfl _ _ _) rfl ⟨⟨0,0,false,by rw [HP.out];rfl,by rw [HP.out,if_neg hz0];exact⟨rfl,rfl,rfl⟩⟩,hE3⟩
end Go.Proofs.YtbmbdoanammlgaaDoor
