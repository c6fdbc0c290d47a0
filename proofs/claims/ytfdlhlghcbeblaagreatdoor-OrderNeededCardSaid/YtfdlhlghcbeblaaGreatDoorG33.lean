/- cmp.Less, slices.IsSorted, slices.Sort over at most twelve integers (printed by gensorti.py). slices.Values, slices.Sorted over ints; order.with. PLAIN: when a list is a permutation. -/
import Derived.Test.YtfdlhlghcbeblaaGreatDoorG32
import Derived.Test.YtfdlhlghcbeblaaGreatDoorG18
import Derived.Test.YtfdlhlghcbeblaaGreatDoorG12
import Derived.Test.YtfdlhlghcbeblaaGreatDoorG19
set_option maxRecDepth 100000
set_option maxHeartbeats 16000000
namespace Go.Proofs.YtfdlhlghcbeblaaGreatDoor
open Go.RowKit Go.Ab
attribute [local go_sem] Oper.semAt_some wide_fn wide_depth
theorem less_any(x y:Int)(w:World):Calls Tryz.prog 237 #[.int .i64 x,.int .i64 y] w fun e w'=>e=.returned (.bool (decide (x<y)))∧w=w':=by
 have h0:(x != x)=false:=by simp
 have h1:(y != y)=false:=by simp
 go_enter Tryz.func237,Tryz.ntmps237
 go_wp2
 go_ret
 exact⟨rfl,rfl⟩
theorem insert_any{w:World}{base n cap:Nat}{ao:Option Addr}{X0:List Int}(hO:w.ownsRow base 3 1 (.slice ao n cap) n (intV X0)) (hn:X0.length=n) (h100:n≤12) :
  Calls Tryz.prog 231 #[.slice ao n cap,.int .i64 0,.int .i64 n] w fun e w'=>e=.returned (.tuple #[])∧(∃ X:List Int,X.Perm X0∧X.Pairwise (·≤·)∧w'.ownsRow base 3 1 (.slice ao n cap) n (intV X))∧Turn (fun b=>(Value.slice ao n cap).ownBlock=some b) w w':=by
 have HO:=Lib.hid hO;have HN:=Lib.hid hn
 clear hO hn
 go_enter Tryz.func231,Tryz.ntmps231
 go_wp2
 refine wp_loop (fun a W=>∃(i:Nat) (X:List Int),1≤i∧i≤n+1∧a.defers=[]∧(a.tmps.size=49∧a.tmps.getD 0 undef=.slice ao n cap∧a.tmps.getD 1 undef=.int .i64 0∧a.tmps.getD 2 undef=.int .i64 n∧a.tmps.getD 6 undef=.int .i64 i)∧X.Perm X0∧(∀ p q,p<q→q<i→q<n→X.getD p 0≤X.getD q 0)∧W.ownsRow base 3 1 (.slice ao n cap) n (intV X)∧Turn (fun b=>(Value.slice ao n cap).ownBlock=some b) w W)
  (fun a _=>n+1 - (intOf (a.tmps.getD 6 undef)).toNat) ?_ ?_
 ·exact⟨1,X0,by omega,by omega,rfl,⟨rfl,rfl,rfl,rfl,rfl⟩,List.Perm.refl _,fun p q h1 h2=>by omega,HO.out,Turn.refl _ _⟩
 rintro⟨t,_⟩ W ⟨i,X,hi1,hi2,hds,⟨hsz,f0,f1,f2,f6⟩,hperm,hsor,hO,hT⟩
 subst hds
 obtain⟨u',hu⟩:=frame_fun hsz
 obtain⟨u,rfl⟩:∃ x,x=u':=⟨_,rfl⟩
 have hu':t=#[u 0,u 1,u 2,u 3,u 4,u 5,u 6,u 7,u 8,u 9,u 10,u 11,u 12,u 13,u 14,u 15,u 16,u 17,u 18,u 19,u 20,u 21,u 22,u 23,u 24,u 25,u 26,u 27,u 28,u 29,u 30,u 31,u 32,u 33,u 34,u 35,u 36,u 37,u 38,u 39,u 40,u 41,u 42,u 43,u 44,u 45,u 46,u 47,u 48]:=hu
 clear hu
 subst hu'
 change u 0=_ at f0
 change u 1=_ at f1
 change u 2=_ at f2
 change u 6=_ at f6
 rw [f0,f1,f2,f6]
 clear f0 f1 f2 f6 hsz
 have HP:=Lib.hid hperm;have HSO:=Lib.hid hsor;have HOW:=Lib.hid hO;have HT:=Lib.hid hT
 clear hperm hsor hO hT
 by_cases hin:i<n
 case neg=>
  have h1:¬ ((i:Int)<(n:Int)):=by omega
  have hs:=pairs_sorted (L:=X) (fun p q h1 h2=>HSO.out p q h1 (by have:=HP.out.length_eq;have:=HN.out;omega) (by have:=HP.out.length_eq;have:=HN.out;omega))
  have HS:=Lib.hid hs
  clear hs
  go_wp2
  exact bodyPost_end (results_none rfl _ _ _) rfl ⟨rfl,⟨X,HP.out,HS.out,HOW.out⟩,HT.out⟩
 have h1:(i:Int)<(n:Int):=by omega
 have hlen:X0.length=n:=HN.out
 have HLEN:=Lib.hid hlen
 clear hlen
 have hst:InsAt X i i:=InsAt.start (fun p q h1 h2=>HSO.out p q h1 h2 (by omega))
 have HST:=Lib.hid hst
 clear hst HSO
 go_wp2
 refine wp_loop (fun a W=>∃(j:Nat) (X:List Int),j≤i∧a.defers=[]∧(a.tmps.size=49∧a.tmps.getD 0 undef=.slice ao n cap∧a.tmps.getD 1 undef=.int .i64 0∧a.tmps.getD 2 undef=.int .i64 n∧a.tmps.getD 6 undef=.int .i64 i∧a.tmps.getD 7 undef=.int .i64 j)∧X.Perm X0∧InsAt X i j∧W.ownsRow base 3 1 (.slice ao n cap) n (intV X)∧Turn (fun b=>(Value.slice ao n cap).ownBlock=some b) w W)
  (fun a _=>(intOf (a.tmps.getD 7 undef)).toNat) ?_ ?_
 ·exact⟨i,X,by omega,rfl,⟨rfl,rfl,rfl,rfl,rfl,rfl⟩,HP.out,HST.out,HOW.out,HT.out⟩
 clear HP HST HOW HT X
 rintro⟨t,_⟩ W ⟨j,X,hj,hds,⟨hsz,f0,f1,f2,f6,f7⟩,hperm,hat,hO,hT⟩
 subst hds
 obtain⟨u',hu⟩:=frame_fun hsz
 obtain⟨u,rfl⟩:∃ x,x=u':=⟨_,rfl⟩
 have hu':t=#[u 0,u 1,u 2,u 3,u 4,u 5,u 6,u 7,u 8,u 9,u 10,u 11,u 12,u 13,u 14,u 15,u 16,u 17,u 18,u 19,u 20,u 21,u 22,u 23,u 24,u 25,u 26,u 27,u 28,u 29,u 30,u 31,u 32,u 33,u 34,u 35,u 36,u 37,u 38,u 39,u 40,u 41,u 42,u 43,u 44,u 45,u 46,u 47,u 48]:=hu
 clear hu
 subst hu'
 change u 0=_ at f0
 change u 1=_ at f1
 change u 2=_ at f2
 change u 6=_ at f6
 change u 7=_ at f7
 rw [f0,f1,f2,f6,f7]
 clear f0 f1 f2 f6 f7 hsz
 have HP:=Lib.hid hperm;have HAT:=Lib.hid hat;have HOW:=Lib.hid hO;have HT:=Lib.hid hT
 have hXn:X.length=n:=by rw [hperm.length_eq];exact HN.out
 have HXN:=Lib.hid hXn
 clear hperm hat hO hT hXn
 by_cases hj0:j=0
 ·subst hj0
  have hfin:=HAT.out.stop (by omega) (.inl rfl)
  have HF:=Lib.hid hfin
  clear hfin
  go_upto_region 4 with (fail)
  refine wp_region_late (S:=fun _=>True) [] (by kernel_rfl) trivial ?_
  intro hS0
  refine tkE (i:=0) (d:=16) (v:=?_) rfl (Or.inl ⟨by rfl,?_⟩) trivial ?_
  rotate_left
  ·intro w hSw;(try dsimp only at hSw);go_simp;try with_reducible rfl
  try simp only [Act.put,pq]
  refine tkE (i:=1) (d:=17) (v:=?_) rfl (Or.inl ⟨by rfl,?_⟩) trivial ?_
  rotate_left
  ·intro w hSw;(try dsimp only at hSw);go_simp;try with_reducible rfl
  try simp only [Act.put,pq]
  refine tkE (i:=2) (d:=18) (v:=?_) rfl (Or.inl ⟨by rfl,?_⟩) trivial ?_
  rotate_left
  ·intro w hSw;(try dsimp only at hSw);go_simp;try with_reducible rfl
  try simp only [Act.put,pq]
  refine tkE (i:=3) (d:=19) (v:=?_) rfl (Or.inl ⟨by rfl,?_⟩) trivial ?_
  rotate_left
  ·intro w hSw;(try dsimp only at hSw);go_simp;try with_reducible rfl
  try simp only [Act.put,pq]
  refine tkE (i:=4) (d:=20) (v:=undef) rfl (Or.inr ⟨by rfl,rfl⟩) trivial ?_
  try simp only [Act.put,pq]
  refine tkE (i:=5) (d:=21) (v:=undef) rfl (Or.inr ⟨by rfl,rfl⟩) trivial ?_
  try simp only [Act.put,pq]
  refine tkE (i:=6) (d:=22) (v:=undef) rfl (Or.inr ⟨by rfl,rfl⟩) trivial ?_
  try simp only [Act.put,pq]
  refine tkE (i:=7) (d:=23) (v:=undef) rfl (Or.inr ⟨by rfl,rfl⟩) trivial ?_
  try simp only [Act.put,pq]
  refine tkE (i:=8) (d:=24) (v:=undef) rfl (Or.inr ⟨by rfl,rfl⟩) trivial ?_
  try simp only [Act.put,pq]
  refine tkE (i:=9) (d:=25) (v:=undef) rfl (Or.inr ⟨by rfl,rfl⟩) trivial ?_
  try simp only [Act.put,pq]
  refine tkE (i:=10) (d:=26) (v:=undef) rfl (Or.inr ⟨by rfl,rfl⟩) trivial ?_
  try simp only [Act.put,pq]
  refine tkE (i:=11) (d:=27) (v:=undef) rfl (Or.inr ⟨by rfl,rfl⟩) trivial ?_
  try simp only [Act.put,pq]
  refine tkE (i:=12) (d:=28) (v:=undef) rfl (Or.inr ⟨by rfl,rfl⟩) trivial ?_
  try simp only [Act.put,pq]
  refine tkE (i:=13) (d:=29) (v:=undef) rfl (Or.inr ⟨by rfl,rfl⟩) trivial ?_
  try simp only [Act.put,pq]
  refine tkE (i:=14) (d:=30) (v:=?_) rfl (Or.inl ⟨by rfl,?_⟩) trivial ?_
  rotate_left
  ·intro w hSw;(try dsimp only at hSw);go_simp;try with_reducible rfl
  try simp only [Act.put,pq]
  refine wpAnyE_done (by kernel_rfl) ?_ _
  have HTd:=Lib.hid (HT.out.drew);have HOd:=Lib.hid (own_ext HOW.out (Turn.drew (Turn.refl _ W)))
  clear HT HOW
  go_wp2
  exact⟨⟨i+1,X,by omega,by omega,by first | rfl | trivial,⟨rfl,rfl,rfl,rfl,by first | rfl | simp⟩,HP.out,fun p q h1 h2 h3=>HF.out p q h1 (by omega),HOd.out,HTd.out⟩,by simp [intOf];omega⟩
 obtain⟨k,rfl⟩:∃ k,j=k+1:=⟨j - 1,by omega⟩
 obtain⟨g,rfl⟩:=own_some HOW.out (by omega)
 have c1:=HOW.out.cellAt (k+1) (by omega)
 have c0:=HOW.out.cellAt k (by omega)
 rw [intV_get X (by rw [HXN.out];omega)] at c1 c0
 obtain⟨x1,hx1⟩:∃ x,X.getD (k+1) 0=x:=⟨_,rfl⟩
 obtain⟨x0,hx0⟩:∃ x,X.getD k 0=x:=⟨_,rfl⟩
 rw [hx1] at c1
 rw [hx0] at c0
 have HX1:=Lib.hid hx1;have HX0:=Lib.hid hx0
 have hcs:∀(D:World),Ext W D→D.cell? ⟨g,k+1,none⟩=some (.int .i64 x1)∧D.cell? ⟨g,k,none⟩=some (.int .i64 x0):=fun D hD=>⟨hD.cell_some c1 id,hD.cell_some c0 id⟩
 have HS:=Lib.hid hcs
 clear hcs c1 c0 hx1 hx0
 have hsub:IntKind.i64.wrap (k:Int)=(k:Int):=IntWalk.i64_in _ (by omega)
 have ht1:((k:Int)+1).toNat=k+1:=by omega
 have hp0:(0:Int)<(k:Int)+1:=by omega
 have hp1:(0:Int)≤(k:Int)+1:=by omega
 have hp2:(k:Int)+1<(n:Int):=by omega
 have hp3:(k:Int)<(n:Int):=by omega
 go_upto_region 4 with (fail)
 refine wp_region_late (S:=fun D=>D.cell? ⟨g,k+1,none⟩=some (.int .i64 x1)∧D.cell? ⟨g,k,none⟩=some (.int .i64 x0)) [] (by kernel_rfl) (HS.out _ (Turn.drew (Turn.refl _ W))) ?_
 intro hS0
 refine tkE (i:=0) (d:=16) (v:=?_) rfl (Or.inl ⟨by rfl,?_⟩) hS0 ?_
 rotate_left
 ·intro w hSw;(try dsimp only at hSw);go_simp;try with_reducible rfl
 try simp only [Act.put,pq]
 refine tkE (i:=1) (d:=17) (v:=?_) rfl (Or.inl ⟨by rfl,?_⟩) hS0 ?_
 rotate_left
 ·intro w hSw;(try dsimp only at hSw);go_simp;try with_reducible rfl
 try simp only [Act.put,pq]
 refine tkE (i:=2) (d:=18) (v:=?_) rfl (Or.inl ⟨by rfl,?_⟩) hS0 ?_
 rotate_left
 ·intro w hSw;(try dsimp only at hSw);go_simp;try with_reducible rfl
 try simp only [Act.put,pq]
 refine tkE (i:=3) (d:=19) (v:=?_) rfl (Or.inl ⟨by rfl,?_⟩) hS0 ?_
 rotate_left
 ·intro w hSw;(try dsimp only at hSw);go_simp;try with_reducible rfl
 try simp only [Act.put,pq]
 refine tkE (i:=4) (d:=20) (v:=?_) rfl (Or.inl ⟨by rfl,?_⟩) hS0 ?_
 rotate_left
 ·intro w hSw;(try dsimp only at hSw);go_simp;try with_reducible rfl
 try simp only [Act.put,pq]
 refine tkE (i:=5) (d:=21) (v:=?_) rfl (Or.inl ⟨by rfl,?_⟩) hS0 ?_
 rotate_left
 ·intro w hSw;(try dsimp only at hSw);go_simp;try with_reducible rfl
 try simp only [Act.put,pq]
 refine tkE (i:=6) (d:=22) (v:=?_) rfl (Or.inl ⟨by rfl,?_⟩) hS0 ?_
 rotate_left
 ·intro w hSw;(try dsimp only at hSw);go_simp;try with_reducible rfl
 try simp only [Act.put,pq]
 refine tkE (i:=7) (d:=23) (v:=?_) rfl (Or.inl ⟨by rfl,?_⟩) hS0 ?_
 rotate_left
 ·intro w hSw;(try dsimp only at hSw);go_simp;try with_reducible rfl
 try simp only [Act.put,pq]
 refine tkE (i:=8) (d:=24) (v:=?_) rfl (Or.inl ⟨by rfl,?_⟩) hS0 ?_
 rotate_left
 ·intro w hSw;(try dsimp only at hSw);go_simp;try with_reducible rfl
 try simp only [Act.put,pq]
 refine tkE (i:=9) (d:=25) (v:=?_) rfl (Or.inl ⟨by rfl,?_⟩) hS0 ?_
 rotate_left
 ·intro w hSw;(try dsimp only at hSw);go_simp;try with_reducible rfl
 try simp only [Act.put,pq]
 refine tkE (i:=10) (d:=26) (v:=?_) rfl (Or.inl ⟨by rfl,?_⟩) hS0 ?_
 rotate_left
 ·intro w hSw;(try dsimp only at hSw);go_simp;try with_reducible rfl
 try simp only [Act.put,pq]
 refine tkE (i:=11) (d:=27) (v:=?_) rfl (Or.inl ⟨by rfl,?_⟩) hS0 ?_
 rotate_left
 ·intro w hSw;(try dsimp only at hSw);go_simp;try with_reducible rfl
 try simp only [Act.put,pq]
 refine tkE (i:=12) (d:=28) (v:=?_) rfl (Or.inl ⟨by rfl,?_⟩) hS0 ?_
 rotate_left
 ·intro w hSw;(try dsimp only at hSw);go_simp;try with_reducible rfl
 try simp only [Act.put,pq]
 refine wpAnyE_ready (rs:=[13]) (by kernel_rfl) (by simp) ?_
 refine AllReadyE.cons rfl (fun K hK=>?_) AllReadyE.nil
 (try rw [if_pos (show Region.wanted _ _=true from rfl)])
 go_simp
 refine(less_any _ _ _).mono ?_
 rintro e w5 ⟨rfl,rfl⟩
 refine hK.out _ _ hS0 (fun _=>?_)
 clear hK K
 try simp only [Act.put,pq]
 refine tkE (i:=14) (d:=30) (v:=?_) rfl (Or.inl ⟨by rfl,?_⟩) hS0 ?_
 rotate_left
 ·intro w hSw;(try dsimp only at hSw);go_simp;try with_reducible rfl
 try simp only [Act.put,pq]
 refine wpAnyE_done (by kernel_rfl) ?_ _
 have eD:Ext W W.drew:=Turn.drew (Turn.refl _ W)
 have HOD:=Lib.hid (own_ext HOW.out eD);have HTD:=Lib.hid (HT.out.drew)
 by_cases hlt:x1<x0
 case neg=>
  have hfin:=HAT.out.stop hj (.inr ⟨k,rfl,by rw [HX1.out,HX0.out];exact hlt⟩)
  have HF:=Lib.hid hfin
  clear hfin hS0 hsub ht1 hp0 hp1 hp2 hp3 HS HOW HT
  go_wp2
  first
   | exact⟨⟨i+1,X,by omega,by omega,by first | rfl | trivial,⟨rfl,rfl,rfl,rfl,by first | rfl | simp⟩,HP.out,fun p q h1 h2 h3=>HF.out p q h1 (by omega),HOD.out,HTD.out⟩,by simp [intOf];omega⟩
   | exact⟨⟨i+1,by omega,by omega,by simp,X,HP.out,fun p q h1 h2 h3=>HF.out p q h1 (by omega),HOD.out,HTD.out⟩,by simp [intOf];omega⟩
 have hsw:=HAT.out.swap hj (by rw [HXN.out];exact hin) (by rw [HX1.out,HX0.out];exact hlt)
 have hpm:=(swapL_perm X (j:=k) (by rw [HXN.out];omega)).trans HP.out
 have HSW:=Lib.hid hsw;have HPM:=Lib.hid hpm
 clear hsw hpm
 go_upto_region 6 with (fail)
 obtain⟨W6,hW6⟩:∃ D,W.drew.drew=D:=⟨_,rfl⟩
 have e6:Ext W W6:=by rw [← hW6];exact eD.drew
 have HO6:=Lib.hid (own_ext HOW.out e6)
 obtain⟨cx1,cx0⟩:=HS.out _ e6
 refine wp_region_late (S:=fun _=>True) [] (by kernel_rfl) trivial ?_
 intro hS0
 rw [hW6]
 clear hW6
 refine tkE (i:=0) (d:=33) (v:=?_) rfl (Or.inl ⟨by rfl,?_⟩) trivial ?_
 rotate_left
 ·intro w hSw;(try dsimp only at hSw);go_simp;try with_reducible rfl
 try simp only [Act.put,pq]
 refine tkE (i:=1) (d:=34) (v:=?_) rfl (Or.inl ⟨by rfl,?_⟩) trivial ?_
 rotate_left
 ·intro w hSw;(try dsimp only at hSw);go_simp;try with_reducible rfl
 try simp only [Act.put,pq]
 refine tkE (i:=2) (d:=35) (v:=?_) rfl (Or.inl ⟨by rfl,?_⟩) trivial ?_
 rotate_left
 ·intro w hSw;(try dsimp only at hSw);go_simp;try with_reducible rfl
 try simp only [Act.put,pq]
 refine tkE (i:=3) (d:=36) (v:=?_) rfl (Or.inl ⟨by rfl,?_⟩) trivial ?_
 rotate_left
 ·intro w hSw;(try dsimp only at hSw);go_simp;try with_reducible rfl
 try simp only [Act.put,pq]
 refine tkE (i:=4) (d:=37) (v:=?_) rfl (Or.inl ⟨by rfl,?_⟩) trivial ?_
 rotate_left
 ·intro w hSw;(try dsimp only at hSw);go_simp;try with_reducible rfl
 try simp only [Act.put,pq]
 refine tkE (i:=5) (d:=38) (v:=?_) rfl (Or.inl ⟨by rfl,?_⟩) trivial ?_
 rotate_left
 ·intro w hSw;(try dsimp only at hSw);go_simp;try with_reducible rfl
 try simp only [Act.put,pq]
 refine tkE (i:=6) (d:=39) (v:=?_) rfl (Or.inl ⟨by rfl,?_⟩) trivial ?_
 rotate_left
 ·intro w hSw;(try dsimp only at hSw);go_simp;try with_reducible rfl
 try simp only [Act.put,pq]
 refine tkE (i:=7) (d:=40) (v:=?_) rfl (Or.inl ⟨by rfl,?_⟩) trivial ?_
 rotate_left
 ·intro w hSw;(try dsimp only at hSw);go_simp;try with_reducible rfl
 try simp only [Act.put,pq]
 refine tkE (i:=8) (d:=41) (v:=?_) rfl (Or.inl ⟨by rfl,?_⟩) trivial ?_
 rotate_left
 ·intro w hSw;(try dsimp only at hSw);go_simp;try with_reducible rfl
 try simp only [Act.put,pq]
 refine tkE (i:=10) (d:=43) (v:=?_) rfl (Or.inl ⟨by rfl,?_⟩) trivial ?_
 rotate_left
 ·intro w hSw;(try dsimp only at hSw);go_simp;try with_reducible rfl
 try simp only [Act.put,pq]
 refine tkE (i:=11) (d:=44) (v:=?_) rfl (Or.inl ⟨by rfl,?_⟩) trivial ?_
 rotate_left
 ·intro w hSw;(try dsimp only at hSw);go_simp;try with_reducible rfl
 try simp only [Act.put,pq]
 refine tkE (i:=12) (d:=45) (v:=?_) rfl (Or.inl ⟨by rfl,?_⟩) trivial ?_
 rotate_left
 ·intro w hSw;(try dsimp only at hSw);go_simp;try with_reducible rfl
 try simp only [Act.put,pq]
 refine wpAnyE_ready (rs:=[9,13]) (by kernel_rfl) (by simp) ?_
 refine AllReadyE.cons rfl (fun K hK=>?_) (AllReadyE.cons rfl (fun K hK=>?_) AllReadyE.nil)
 ·(try rw [if_pos (show Region.wanted _ _=true from rfl)])
  go_simp
  refine hK.out _ _ trivial (fun _=>?_)
  clear hK K
  try simp only [Act.put,pq]
  refine wpAnyE_ready (rs:=[13]) (by kernel_rfl) (by simp) ?_
  refine AllReadyE.cons rfl (fun K hK=>?_) AllReadyE.nil
  (try rw [if_pos (show Region.wanted _ _=true from rfl)])
  go_simp
  refine hK.out _ _ trivial (fun _=>?_)
  clear hK K
  try simp only [Act.put,pq]
  refine tkE (i:=14) (d:=47) (v:=?_) rfl (Or.inl ⟨by rfl,?_⟩) trivial ?_
  rotate_left
  ·intro w hSw;(try dsimp only at hSw);go_simp;try with_reducible rfl
  try simp only [Act.put,pq]
  refine wpAnyE_ready (rs:=[15]) (by kernel_rfl) (by simp) ?_
  refine AllReadyE.cons rfl (fun K hK=>?_) AllReadyE.nil
  (try rw [if_pos (show Region.wanted _ _=true from rfl)])
  have cZ:=HO6.out.cellAt (k+1) (by omega)
  rw [intV_get X (by rw [HXN.out];omega),HX1.out] at cZ
  have fZ:=HO6.out.frozenAt (k+1)
  go_simp
  refine hK.out _ _ trivial (fun _=>?_)
  clear hK K cZ fZ
  (try change wpAnyE _ _ _ _ _ _ _ _ (Act.put _ none _) _)
  (try simp only [Act.put])
  have hO7:=own_store HO6.out (k+1) (.int .i64 x0)
  have t7:Turn (fun b=>b=g) W6 (W6.setCell ⟨g,k+1,none⟩ (.int .i64 x0)):=Turn.set1 W6 g (k+1) _
  obtain⟨W7,hW7⟩:∃ D,W6.setCell ⟨g,k+1,none⟩ (.int .i64 x0)=D:=⟨_,rfl⟩
  rw [hW7] at hO7 t7 ⊢
  clear hW7
  refine tkE (i:=16) (d:=48) (v:=?_) rfl (Or.inl ⟨by rfl,?_⟩) trivial ?_
  rotate_left
  ·intro w hSw;(try dsimp only at hSw);go_simp;try with_reducible rfl
  try simp only [Act.put,pq]
  refine wpAnyE_ready (rs:=[17]) (by kernel_rfl) (by simp) ?_
  refine AllReadyE.cons rfl (fun K hK=>?_) AllReadyE.nil
  (try rw [if_pos (show Region.wanted _ _=true from rfl)])
  have cZ:=hO7.cellAt k (by omega)
  rw [List.getElem?_set_ne (by omega),intV_get X (by rw [HXN.out];omega),HX0.out] at cZ
  have fZ:=hO7.frozenAt k
  go_simp
  refine hK.out _ _ trivial (fun _=>?_)
  clear hK K cZ fZ
  (try change wpAnyE _ _ _ _ _ _ _ _ (Act.put _ none _) _)
  (try simp only [Act.put])
  have hO8:=own_store hO7 k (.int .i64 x1)
  have t8:Turn (fun b=>b=g) W7 (W7.setCell ⟨g,k,none⟩ (.int .i64 x1)):=Turn.set1 W7 g k _
  obtain⟨W8,hW8⟩:∃ D,W7.setCell ⟨g,k,none⟩ (.int .i64 x1)=D:=⟨_,rfl⟩
  rw [hW8] at hO8 t8 ⊢
  clear hW8
  refine wpAnyE_done (by kernel_rfl) ?_ _
  have hrow:W8.ownsRow base 3 1 (.slice (some ⟨g,0,none⟩) n cap) n (intV (swapL X k)):=by
   rw [intV_set,intV_set] at hO8
   unfold swapL
   rw [HX1.out,HX0.out]
   exact hO8
  have hT8:Turn (fun b=>(Value.slice (some ⟨g,0,none⟩) n cap).ownBlock=some b) w W8:=HT.out.trans ((Ext.of e6).trans ((t7.trans t8).mono fun b _ e=>by subst e;rfl))
  have HROW:=Lib.hid hrow;have HT8:=Lib.hid hT8
  clear hrow hT8 hO8 hO7 t7 t8 ht1 hp0 hp1 hp2 hp3 HS HOW HT HOD HTD HO6 e6 eD
  go_wp2
  exact⟨⟨k,swapL X k,by omega,by first | rfl | trivial,⟨rfl,rfl,rfl,rfl,rfl,by first | rfl | simp⟩,HPM.out,HSW.out,HROW.out,HT8.out⟩,by first | (simp [intOf];done) | (simp [intOf];omega)⟩
 ·(try rw [if_pos (show Region.wanted _ _=true from rfl)])
  go_simp
  refine hK.out _ _ trivial (fun _=>?_)
  clear hK K
  try simp only [Act.put,pq]
  refine wpAnyE_ready (rs:=[9]) (by kernel_rfl) (by simp) ?_
  refine AllReadyE.cons rfl (fun K hK=>?_) AllReadyE.nil
  (try rw [if_pos (show Region.wanted _ _=true from rfl)])
  go_simp
  refine hK.out _ _ trivial (fun _=>?_)
  clear hK K
  try simp only [Act.put,pq]
  refine tkE (i:=14) (d:=47) (v:=?_) rfl (Or.inl ⟨by rfl,?_⟩) trivial ?_
  rotate_left
  ·intro w hSw;(try dsimp only at hSw);go_simp;try with_reducible rfl
  try simp only [Act.put,pq]
  refine wpAnyE_ready (rs:=[15]) (by kernel_rfl) (by simp) ?_
  refine AllReadyE.cons rfl (fun K hK=>?_) AllReadyE.nil
  (try rw [if_pos (show Region.wanted _ _=true from rfl)])
  have cZ:=HO6.out.cellAt (k+1) (by omega)
  rw [intV_get X (by rw [HXN.out];omega),HX1.out] at cZ
  have fZ:=HO6.out.frozenAt (k+1)
  go_simp
  refine hK.out _ _ trivial (fun _=>?_)
  clear hK K cZ fZ
  (try change wpAnyE _ _ _ _ _ _ _ _ (Act.put _ none _) _)
  (try simp only [Act.put])
  have hO7:=own_store HO6.out (k+1) (.int .i64 x0)
  have t7:Turn (fun b=>b=g) W6 (W6.setCell ⟨g,k+1,none⟩ (.int .i64 x0)):=Turn.set1 W6 g (k+1) _
  obtain⟨W7,hW7⟩:∃ D,W6.setCell ⟨g,k+1,none⟩ (.int .i64 x0)=D:=⟨_,rfl⟩
  rw [hW7] at hO7 t7 ⊢
  clear hW7
  refine tkE (i:=16) (d:=48) (v:=?_) rfl (Or.inl ⟨by rfl,?_⟩) trivial ?_
  rotate_left
  ·intro w hSw;(try dsimp only at hSw);go_simp;try with_reducible rfl
  try simp only [Act.put,pq]
  refine wpAnyE_ready (rs:=[17]) (by kernel_rfl) (by simp) ?_
  refine AllReadyE.cons rfl (fun K hK=>?_) AllReadyE.nil
  (try rw [if_pos (show Region.wanted _ _=true from rfl)])
  have cZ:=hO7.cellAt k (by omega)
  rw [List.getElem?_set_ne (by omega),intV_get X (by rw [HXN.out];omega),HX0.out] at cZ
  have fZ:=hO7.frozenAt k
  go_simp
  refine hK.out _ _ trivial (fun _=>?_)
  clear hK K cZ fZ
  (try change wpAnyE _ _ _ _ _ _ _ _ (Act.put _ none _) _)
  (try simp only [Act.put])
  have hO8:=own_store hO7 k (.int .i64 x1)
  have t8:Turn (fun b=>b=g) W7 (W7.setCell ⟨g,k,none⟩ (.int .i64 x1)):=Turn.set1 W7 g k _
  obtain⟨W8,hW8⟩:∃ D,W7.setCell ⟨g,k,none⟩ (.int .i64 x1)=D:=⟨_,rfl⟩
  rw [hW8] at hO8 t8 ⊢
  clear hW8
  refine wpAnyE_done (by kernel_rfl) ?_ _
  have hrow:W8.ownsRow base 3 1 (.slice (some ⟨g,0,none⟩) n cap) n (intV (swapL X k)):=by
   rw [intV_set,intV_set] at hO8
   unfold swapL
   rw [HX1.out,HX0.out]
   exact hO8
  have hT8:Turn (fun b=>(Value.slice (some ⟨g,0,none⟩) n cap).ownBlock=some b) w W8:=HT.out.trans ((Ext.of e6).trans ((t7.trans t8).mono fun b _ e=>by subst e;rfl))
  have HROW:=Lib.hid hrow;have HT8:=Lib.hid hT8
  clear hrow hT8 hO8 hO7 t7 t8 ht1 hp0 hp1 hp2 hp3 HS HOW HT HOD HTD HO6 e6 eD
  go_wp2
  exact⟨⟨k,swapL X k,by omega,by first | rfl | trivial,⟨rfl,rfl,rfl,rfl,rfl,by first | rfl | simp⟩,HPM.out,HSW.out,HROW.out,HT8.out⟩,by first | (simp [intOf];done) | (simp [intOf];omega)⟩
theorem pdq_any{w:World}{base n cap:Nat}{ao:Option Addr}{X0:List Int}(z:Int)(hO:w.ownsRow base 3 1 (.slice ao n cap) n (intV X0)) (hn:X0.length=n) (h100:n≤12) :
  Calls Tryz.prog 202 #[.slice ao n cap,.int .i64 0,.int .i64 n,.int .i64 z] w fun e w'=>e=.returned (.tuple #[])∧(∃ X:List Int,X.Perm X0∧X.Pairwise (·≤·)∧w'.ownsRow base 3 1 (.slice ao n cap) n (intV X))∧Turn (fun b=>(Value.slice ao n cap).ownBlock=some b) w w':=by
 have hc:=insert_any hO hn h100
 have HC:=Lib.hid hc
 have h12:(n:Int)≤12:=by omega
 clear hO hn hc
 go_enter Tryz.func202,Tryz.ntmps202
 go_wp2
 refine wp_loop (fun a W=>a.defers=[]∧(a.tmps.size=134∧a.tmps.getD 0 undef=.slice ao n cap∧a.tmps.getD 1 undef=.int .i64 0∧a.tmps.getD 2 undef=.int .i64 n)∧w=W) (fun _ _=>0) ?_ ?_
 ·exact⟨rfl,⟨rfl,rfl,rfl,rfl⟩,rfl⟩
 rintro⟨t,_⟩ W ⟨hds,⟨hsz,f0,f1,f2⟩,rfl⟩
 subst hds
 obtain⟨u',hu⟩:=frame_fun hsz
 obtain⟨u,rfl⟩:∃ x,x=u':=⟨_,rfl⟩
 have hu':t=#[u 0,u 1,u 2,u 3,u 4,u 5,u 6,u 7,u 8,u 9,u 10,u 11,u 12,u 13,u 14,u 15,u 16,u 17,u 18,u 19,u 20,u 21,u 22,u 23,u 24,u 25,u 26,u 27,u 28,u 29,u 30,u 31,u 32,u 33,u 34,u 35,u 36,u 37,u 38,u 39,u 40,u 41,u 42,u 43,u 44,u 45,u 46,u 47,u 48,u 49,u 50,u 51,u 52,u 53,u 54,u 55,u 56,u 57,u 58,u 59,u 60,u 61,u 62,u 63,u 64,u 65,u 66,u 67,u 68,u 69,u 70,u 71,u 72,u 73,u 74,u 75,u 76,u 77,u 78,u 79,u 80,u 81,u 82,u 83,u 84,u 85,u 86,u 87,u 88,u 89,u 90,u 91,u 92,u 93,u 94,u 95,u 96,u 97,u 98,u 99,u 100,u 101,u 102,u 103,u 104,u 105,u 106,u 107,u 108,u 109,u 110,u 111,u 112,u 113,u 114,u 115,u 116,u 117,u 118,u 119,u 120,u 121,u 122,u 123,u 124,u 125,u 126,u 127,u 128,u 129,u 130,u 131,u 132,u 133]:=hu
 clear hu
 subst hu'
 change u 0=_ at f0
 change u 1=_ at f1
 change u 2=_ at f2
 rw [f0,f1,f2]
 clear f0 f1 f2 hsz
 go_wp2_with fail
 refine HC.out.mono ?_
 rintro e w2 ⟨rfl,hX,hT⟩
 have HX:=Lib.hid hX;have HT:=Lib.hid hT
 clear hX hT
 go_wp2
 exact bodyPost_ret (results_none rfl _ _ _) rfl ⟨rfl,HX.out,HT.out⟩
theorem sort_any{w:World}{base n cap:Nat}{ao:Option Addr}{X0:List Int}(hO:w.ownsRow base 3 1 (.slice ao n cap) n (intV X0)) (hn:X0.length=n) (h100:n≤12) :
  Calls Tryz.prog 177 #[.slice ao n cap] w fun e w'=>e=.returned (.tuple #[])∧(∃ X:List Int,X.Perm X0∧X.Pairwise (·≤·)∧w'.ownsRow base 3 1 (.slice ao n cap) n (intV X))∧Turn (fun b=>(Value.slice ao n cap).ownBlock=some b) w w':=by
 have hc:=fun(z:Int)=>pdq_any z hO hn h100
 have HC:=Lib.hid hc
 have hl:=fun(W:World)=>len_core (n:Int) W (by omega) (by omega)
 have HL:=Lib.hid hl
 clear hO hn hc hl
 go_enter Tryz.func177,Tryz.ntmps177
 go_wp2_with (first | (go_at_call 241;refine(HL.out _).mono ?_;rintro e w' ⟨rfl,rfl⟩) | (go_at_call 203;go_in) | (go_at_call 202;refine(HC.out _).mono ?_;rintro e w2 ⟨rfl,hX,hT⟩))
 exact bodyPost_end (results_none rfl _ _ _) rfl ⟨rfl,hX,hT⟩
end Go.Proofs.YtfdlhlghcbeblaaGreatDoor
set_option maxRecDepth 100000
set_option maxHeartbeats 8000000
namespace Go.Proofs.YtfdlhlghcbeblaaGreatDoor
open Go.RowKit Go.Ab
attribute [local go_sem] Oper.semAt_some wide_fn wide_depth
theorem rd_at1{w:World}{v:Value}{n:Nat}{xs:List Value}(h:Rd w v n 1 xs){k:Nat}(hk:k<n):∃ g off cap,v=.slice (some ⟨g,off,none⟩) n cap∧g<w.heap.size∧w.cell? ⟨g,off+k,none⟩=some (xs.getD k undef):=by
 obtain⟨_,_,ao,cap,rfl,h3⟩:=h
 obtain⟨g,off,rfl,hg,hc⟩:=h3 (by omega)
 exact⟨g,off,cap,rfl,hg,hc k (by omega)⟩
theorem rd_keepS{S:Nat→Prop}{A B:World}{v:Value}{n sz:Nat}{xs:List Value}(h:Rd A v n sz xs)(ht:Turn (fun b=>¬ S b) A B) (hS:KeptIn S v):Rd B v n sz xs:=by
 obtain⟨h1,h2,ao,cap,rfl,h3⟩:=h
 refine⟨h1,h2,ao,cap,rfl,fun hn=>?_⟩
 obtain⟨g,off,rfl,hg,hc⟩:=h3 hn
 exact⟨g,off,rfl,Nat.lt_of_lt_of_le hg ht.size,fun j hj=>ht.cell_some (hc j hj) (fun h=>h (hS g off n cap rfl hn))⟩
theorem intV_getD(L:List Int){i:Nat}(h:i<L.length):(intV L).getD i undef=.int .i64 L[i]:=by
 unfold intV
 rw [List.getD_eq_getElem?_getD,List.getElem?_map,List.getElem?_eq_getElem h];rfl
theorem split_at{α:Type}{xs:List α}{k:Nat}(h:k<xs.length):xs=xs.take k++xs[k]::xs.drop (k+1):=by
 rw [← List.drop_eq_getElem_cons h,List.take_append_drop]
theorem values_iter{w:World}{B:Nat}{ao:Option Addr}{n c:Nat}{xs:List Int}{K:Nat→Prop}(hb:w.heap[B]?=some (.cells #[.slice ao n c] 48 (0,0))) (hKB:K B) (hr:Rd w (.slice ao n c) n 1 (intV xs)) (hn:xs.length=n) (hKr:KeptIn K (.slice ao n c)) :
  IterO Tryz.prog 178 #[.pointer (some ⟨B,0,none⟩)] (fun _ _=>False) intE xs K w:=by
 intro l J Jx W ht hJ hJx hY h0
 have hb1:=ht.heap hb (fun h=>h hKB)
 have hnm:n≤maxLen:=hr.2.1
 unfold maxLen at hnm
 have HR:=Lib.hid hr;have HKR:=Lib.hid hKr;have HY:=Lib.hid hY;have HN:=Lib.hid hn;have HT:=Lib.hid ht;have H0:=Lib.hid h0
 clear hr hKr hY hn ht h0 hJ hJx
 show Calls _ _ #[.func (.yield l) #[] #[],.pointer (some ⟨B,0,none⟩)] _ _
 go_enter Tryz.func178,Tryz.ntmps178
 have cB:=cell_of_one hb1
 go_wp2
 clear cB hb1 hb
 refine wp_loop (fun a V=>∃(k:Nat),k≤n∧a.defers=[]∧(a.tmps.size=16∧a.tmps.getD 0 undef=.func (.yield l) #[] #[]∧a.tmps.getD 5 undef=.slice ao n c∧a.tmps.getD 6 undef=.int .i64 n∧a.tmps.getD 7 undef=.int .i64 k)∧J (fun _=>False) (xs.take k) V∧Turn (fun b=>¬ K b) w V)
  (fun a _=>((n:Int) - intOf (a.tmps.getD 7 undef)).toNat) ?_ ?_
 ·exact⟨0,by omega,rfl,⟨rfl,rfl,rfl,rfl,rfl⟩,H0.out,HT.out⟩
 clear H0 HT
 rintro⟨t,_⟩ V ⟨k,hk,hds,⟨hsz,f0,f5,f6,f7⟩,hj,hT⟩
 subst hds
 obtain⟨u',hu⟩:=frame_fun hsz
 obtain⟨u,rfl⟩:∃ x,x=u':=⟨_,rfl⟩
 have hu':t=#[u 0,u 1,u 2,u 3,u 4,u 5,u 6,u 7,u 8,u 9,u 10,u 11,u 12,u 13,u 14,u 15]:=hu
 clear hu
 subst hu'
 change u 0=_ at f0
 change u 5=_ at f5
 change u 6=_ at f6
 change u 7=_ at f7
 rw [f0,f5,f6,f7]
 clear f0 f5 f6 f7 hsz
 have HJ:=Lib.hid hj;have HT:=Lib.hid hT
 clear hj hT
 by_cases hkN:k<n
 case neg=>
  obtain rfl:k=n:=by omega
  have h1:¬ (k:Int)<(k:Int):=by omega
  have hj:=HJ.out
  rw [List.take_of_length_le (by rw [HN.out];exact Nat.le_refl _)] at hj
  have HJ2:=Lib.hid hj
  clear hj
  go_wp2
  go_end0
  exact⟨⟨_,rfl⟩,_,.inl HJ2.out⟩
 have h1:(k:Int)<(n:Int):=by omega
 have h0:(0:Int)≤(k:Int):=by omega
 have hkl:k<xs.length:=by rw [HN.out];exact hkN
 have hrV:=rd_keepS HR.out HT.out HKR.out
 obtain⟨g,off,cap,hq,hg,hc⟩:=rd_at1 hrV hkN
 simp only [Value.slice.injEq,true_and] at hq
 obtain⟨rfl,rfl⟩:=hq
 rw [intV_getD xs hkl] at hc
 obtain⟨x,hx⟩:∃ x,xs[k]=x:=⟨_,rfl⟩
 rw [hx] at hc
 have hsp:=split_at hkl
 rw [hx] at hsp
 have htk:xs.take (k+1)=xs.take k++[x]:=by rw [List.take_succ_eq_append_getElem hkl,hx]
 have HTK:=Lib.hid htk;have HSP:=Lib.hid hsp
 obtain⟨fn,tmps,assign,body,hy,hYR⟩:=HY.out (fun _=>False) (xs.take k) x (xs.drop (k+1)) V #[.int .i64 x] hsp HJ.out rfl
 have HYR:=Lib.hid hYR
 have hwk:IntKind.i64.wrap ((k:Int)+1)=(k:Int)+1:=IntWalk.i64_in _ (by omega)
 clear hYR hsp htk hx hkl hrV
 go_upto_region 3 with (fail)
 refine(wpIn_wide (n:=0)).1 ?_
 gi_wp2
 refine HYR.out.mono ?_
 rintro e V3 (⟨rfl,hJ3,hk3⟩ | ⟨rfl,hJ3,hk3⟩)
 case inr=>
  gi_wp2
  go_wp2
  refine bodyPost_ret (results_none rfl _ _ _) rfl ?_
  exact⟨⟨_,rfl⟩,_,.inr ⟨xs.take k,x,_,HSP.out,hJ3⟩⟩
 have hT3:Turn (fun b=>¬ K b) w V3:=HT.out.trans (hk3.mono fun b _ h=>h.1)
 have HJ3:=Lib.hid hJ3;have HT3:=Lib.hid hT3
 clear hJ3 hT3 hk3 hy HYR HJ HT
 gi_wp2
 go_wp2
 exact⟨⟨k+1,by omega,by first | rfl | trivial,⟨rfl,rfl,rfl,rfl,rfl⟩,by rw [HTK.out];exact HJ3.out,HT3.out⟩,by first | (simp [intOf];done) | (simp [intOf];omega)⟩
theorem values_any(ao:Option Addr)(n c:Nat)(w:World) :
  Calls Tryz.prog 134 #[.slice ao n c] w fun e w'=>e=.returned (.func (.func 178) #[] #[.pointer (some ⟨w.heap.size,0,none⟩)])∧w'.heap[w.heap.size]?=some (.cells #[.slice ao n c] 48 (0,0))∧Ext w w':=by
 go_enter Tryz.func134,Tryz.ntmps134
 go_wp2
 go_ret
 exact⟨rfl,new_at rfl,(Turn.refl _ w).alloc _⟩
theorem sorted_vals{w:World}{B:Nat}{ao:Option Addr}{n c:Nat}{xs:List Int}(hb:w.heap[B]?=some (.cells #[.slice ao n c] 48 (0,0))) (hr:Rd w (.slice ao n c) n 1 (intV xs)) (hn:xs.length=n) (h12:n≤12) :
  Calls Tryz.prog 133 #[.func (.func 178) #[] #[.pointer (some ⟨B,0,none⟩)]] w fun e w'=>∃ u X,e=.returned u∧w'.ownsRow w.heap.size 3 1 u n (intV X)∧X.Perm xs∧X.Pairwise (·≤·)∧Ext w w':=by
 have hBlt:=(Array.getElem?_eq_some_iff.1 hb).1
 have hkr:KeptIn (fun b=>b<w.heap.size) (.slice ao n c):=fun g o m c' e h0=>by
  cases e
  obtain⟨g',off,cap,q,hg,_⟩:=rd_at1 hr h0
  cases q
  exact hg
 have hcoll:=collect_intI (w:=w) (gf:=178) (lb:=#[.pointer (some ⟨B,0,none⟩)]) (M:=fun _ _=>False) (xs:=xs) (fun args w=>by simp [go_sem]) (fun w1 hE=>values_iter (hE.keep hb) hBlt (hr.ext hE) hn hkr) (by omega)
 have HC:=Lib.hid hcoll;have HN:=Lib.hid hn
 clear hcoll hr hkr hb
 go_enter Tryz.func133,Tryz.ntmps133
 go_wp2_with fail
 refine HC.out.mono ?_
 rintro e w1 ⟨u,rfl,hO,hE⟩
 rw [HN.out] at hO
 obtain⟨uo,uc,rfl⟩:=own_slice hO
 have hs:=sort_any hO HN.out h12
 have HS:=Lib.hid hs;have HE:=Lib.hid hE;have HLT:=Lib.hid (fun g hg=>(hO.lt g hg).1)
 clear hs hE hO HC hn
 go_wp2_with fail
 refine HS.out.mono ?_
 rintro e w2 ⟨rfl,⟨X,hp,hpw,hO2⟩,hT⟩
 have hE2:Ext w w2:=HE.out.after hT (fun b hb e=>by have:=HLT.out b e;omega)
 have HO2:=Lib.hid hO2;have HE2:=Lib.hid hE2;have HP:=Lib.hid hp;have HPW:=Lib.hid hpw
 clear hO2 hE2 hp hpw hT HS HE HLT
 go_wp2
 go_ret
 exact⟨_,X,rfl,HO2.out,HP.out,HPW.out,HE2.out⟩
def permB(xs:List Int)(n:Nat):Bool:=decide (xs.Perm ((List.range n).map fun(i:Nat)=>(i:Int)))
def withE(LD:List LawD)(xs:List Int)(QS:List (Wd × Wd)):Int:=if ordE LD QS=0 then(if permB xs LD.length=true then 0 else 2) else ordE LD QS
theorem ordE_six{LD:List LawD}{QS:List (Wd × Wd)} (h:ordE LD QS=0):LD.length≤6∧LD.all lawB=true∧QS.length≤32∧firstE (QS.map wpE)=0:=by
 unfold ordE at h
 split at h
 ·cases h
 ·split at h
  ·split at h
   ·cases h
   ·exact⟨by omega,by assumption,by omega,h⟩
  ·cases h
def rangeI(n:Nat):List Int:=(List.range n).map fun(i:Nat)=>(i:Int)
theorem range_sorted(n:Nat):(rangeI n).Pairwise (·≤·):=by
 unfold rangeI
 rw [List.pairwise_map]
 exact List.Pairwise.imp (fun h=>by omega) (List.pairwise_lt_range (n:=n))
theorem sorted_eq:∀ {a b:List Int},a.Perm b→a.Pairwise (·≤·)→b.Pairwise (·≤·)→a=b
 | [],b,h,_,_=>h.nil_eq
 | x::a,[],h,_,_=>by cases h.symm.nil_eq
 | x::a,y::b,h,h1,h2=>by
  have hx:x∈y::b:=h.mem_iff.1 (by simp)
  have hy:y∈x::a:=h.mem_iff.2 (by simp)
  obtain⟨p1,p2⟩:=List.pairwise_cons.1 h1
  obtain⟨q1,q2⟩:=List.pairwise_cons.1 h2
  have e:x=y:=by
   rcases List.mem_cons.1 hx with e | e
   ·exact e
   ·rcases List.mem_cons.1 hy with e' | e'
    ·exact e'.symm
    ·exact Int.le_antisymm (p1 _ e') (q1 _ e)
  subst e
  rw [sorted_eq (List.Perm.cons_inv h) p2 q2]
def upTo(X:List Int)(k:Nat):Prop:=X.take k=rangeI k
theorem upTo_succ{X:List Int}{k:Nat}(hk:k<X.length)(h:upTo X k)(h1:X[k]=(k:Int)):upTo X (k+1):=by
 unfold upTo rangeI at *
 rw [List.take_succ_eq_append_getElem hk,h,h1,List.range_succ,List.map_append];rfl
theorem upTo_perm{X xs:List Int}{n:Nat}(hX:X.length=n)(h:upTo X n)(hp:X.Perm xs):permB xs n=true:=by
 unfold upTo at h
 rw [List.take_of_length_le (by omega)] at h
 unfold permB
 rw [decide_eq_true_eq]
 exact hp.symm.trans (by rw [h];rfl)
theorem upTo_not{X xs:List Int}{n k:Nat}(hs:X.Pairwise (·≤·)) (hp:X.Perm xs) (hk:k<X.length) (h1:X[k]≠(k:Int)):permB xs n=false:=by
 unfold permB
 rw [decide_eq_false_iff_not]
 intro h
 have h2:X=rangeI n:=sorted_eq (hp.trans h) hs (range_sorted n)
 apply h1
 have h3:k<(rangeI n).length:=by rw [← h2];exact hk
 have:X[k]?=(rangeI n)[k]?:=by rw [h2]
 rw [List.getElem?_eq_getElem hk] at this
 unfold rangeI at this h3
 rw [List.length_map,List.length_range] at h3
 rw [List.getElem?_map,List.getElem?_range h3] at this
 exact Option.some.inj this
theorem perm_length{xs:List Int}{n:Nat}(h:xs.length≠n):permB xs n=false:=by
 unfold permB
 rw [decide_eq_false_iff_not]
 intro h2
 have:=h2.length_eq
 rw [List.length_map,List.length_range] at this
 exact h this
theorem with_any{w:World}{ps:LawsL}{qs:PairsL}{lo:Option Addr}{n lc:Nat}{oo:Option Addr}{on oc:Nat}{xs:List Int}{po:Option Addr}{m pc:Nat}(hl:LawsAt w (.slice lo n lc) ps) (hn:ps.length=n) (ho:Rd w (.slice oo on oc) on 1 (intV xs)) (hon:xs.length=on) (hp:PairsAt w (.slice po m pc) qs) (hm:qs.length=m) (hT:Tab w) :
  Calls Tryz.prog 84 #[.slice lo n lc,.slice oo on oc,.slice po m pc] w fun e w'=>e=.returned (.int .i64 (withE (ps.map (·.1)) xs (qs.map (·.1))))∧Ext w w':=by
 have hck:=fun(V:World) (hE:Ext w V)=>ocheck_any (hl.ext hE) hn (pairs_ext hp hE) hm (hT.keep hE id)
 have hom:on≤maxLen:=ho.2.1
 have hnm:n≤maxLen:=by rw [← hn];exact hl.1.2.1
 unfold maxLen at hom hnm
 have hLn:(ps.map (·.1)).length=n:=by rw [List.length_map,hn]
 obtain⟨LD,hLD⟩:∃ x,ps.map (·.1)=x:=⟨_,rfl⟩
 obtain⟨QS,hQS⟩:∃ x,qs.map (·.1)=x:=⟨_,rfl⟩
 rw [hLD] at hLn ⊢
 rw [hQS]
 simp only [hLD,hQS] at hck
 have hval:(ordE LD QS≠0→withE LD xs QS=ordE LD QS)∧(ordE LD QS=0→permB xs n=true→withE LD xs QS=0)∧(ordE LD QS=0→permB xs n=false→withE LD xs QS=2)∧(ordE LD QS=0→n≤6):=by
  unfold withE
  rw [hLn]
  exact⟨fun h=>by rw [if_neg h],fun h h1=>by rw [if_pos h,if_pos h1],fun h h1=>by rw [if_pos h,if_neg (by rw [h1];decide)],fun h=>by rw [← hLn];exact(ordE_six h).1⟩
 obtain⟨E,hE0⟩:∃ x,ordE LD QS=x:=⟨_,rfl⟩
 obtain⟨R,hR⟩:∃ x,withE LD xs QS=x:=⟨_,rfl⟩
 rw [hE0,hR] at hval
 rw [hR]
 simp only [hE0] at hck
 obtain⟨v1,v2,v3,v4⟩:=hval
 have HV1:=Lib.hid v1;have HV2:=Lib.hid v2;have HV3:=Lib.hid v3;have HV4:=Lib.hid v4
 have HCK:=Lib.hid hck;have HO:=Lib.hid ho;have HON:=Lib.hid hon
 clear hE0 hR v1 v2 v3 v4 hck ho hon hl hp hT hLD hQS hLn hn hm
 go_enter Tryz.func84,Tryz.ntmps84
 go_wp2_with fail
 refine(HCK.out _ (Turn.refl _ _)).mono ?_
 rintro e w1 ⟨rfl,hE1⟩
 have HE1:=Lib.hid hE1
 clear hE1 HCK
 by_cases hE0:E=0
 case neg=>
  have hne:(E != 0)=true:=by simpa using hE0
  have he:=HV1.out hE0
  have HEQ:=Lib.hid he
  clear he
  go_wp2
  go_ret
  exact⟨by rw [HEQ.out];rfl,HE1.out⟩
 subst hE0
 by_cases hln:on=n
 case neg=>
  have he:=HV3.out rfl (perm_length (by rw [HON.out];exact hln))
  have HEQ:=Lib.hid he
  have hl2:¬ ((on:Int)=(n:Int)):=by omega
  clear he
  go_wp2
  go_ret
  exact⟨by rw [HEQ.out];rfl,HE1.out⟩
 subst hln
 have h6:=HV4.out rfl
 have hsv:=fun(V:World) (hE:Ext w V) (B:Nat) (hb:V.heap[B]?=some (.cells #[.slice oo on oc] 48 (0,0)))=>sorted_vals hb (HO.out.ext hE) HON.out (by omega)
 have HSV:=Lib.hid hsv
 clear hsv HV4 HV1
 go_wp2_with fail
 refine(values_any oo on oc _).mono ?_
 rintro e w2 ⟨rfl,hb2,hN2⟩
 have hE2:=HE1.out.trans hN2
 have hsr:=HSV.out w2 hE2 _ hb2
 have HSR:=Lib.hid hsr;have HE2:=Lib.hid hE2
 clear hsr hE2 hb2 hN2 HSV HE1
 go_wp2_with fail
 refine HSR.out.mono ?_
 rintro e w3 ⟨u,X,rfl,hO3,hp3,hs3,hN3⟩
 obtain⟨uo,uc,rfl⟩:=own_slice hO3
 have hX:X.length=on:=by rw [hp3.length_eq,HON.out]
 have HO3:=Lib.hid (Rd.of_own hO3);have HP3:=Lib.hid hp3;have HS3:=Lib.hid hs3;have HX:=Lib.hid hX;have HE3:=Lib.hid (HE2.out.trans hN3)
 clear hO3 hp3 hs3 hX hN3 HSR HE2
 go_wp2
 refine wp_loop (fun a W=>∃(k:Nat),k≤on∧a.defers=[]∧(a.tmps.size=36∧a.tmps.getD 25 undef=.slice uo on uc∧a.tmps.getD 26 undef=.int .i64 on∧a.tmps.getD 27 undef=.int .i64 k)∧upTo X k∧w3=W)
  (fun a _=>((on:Int) - intOf (a.tmps.getD 27 undef)).toNat) ?_ ?_
 ·exact⟨0,by omega,rfl,⟨rfl,rfl,rfl,rfl⟩,rfl,rfl⟩
 rintro⟨t,_⟩ W ⟨k,hk,hds,⟨hsz,f25,f26,f27⟩,hup,rfl⟩
 subst hds
 obtain⟨u',hu⟩:=frame_fun hsz
 obtain⟨u,rfl⟩:∃ x,x=u':=⟨_,rfl⟩
 have hu':t=#[u 0,u 1,u 2,u 3,u 4,u 5,u 6,u 7,u 8,u 9,u 10,u 11,u 12,u 13,u 14,u 15,u 16,u 17,u 18,u 19,u 20,u 21,u 22,u 23,u 24,u 25,u 26,u 27,u 28,u 29,u 30,u 31,u 32,u 33,u 34,u 35]:=hu
 clear hu
 subst hu'
 change u 25=_ at f25
 change u 26=_ at f26
 change u 27=_ at f27
 rw [f25,f26,f27]
 clear f25 f26 f27 hsz
 have HUP:=Lib.hid hup
 clear hup
 by_cases hkN:k<on
 case neg=>
  obtain rfl:k=on:=by omega
  have h1:¬ (k:Int)<(k:Int):=by omega
  have he:=HV2.out (by first | trivial | rfl) (upTo_perm HX.out HUP.out HP3.out)
  have HEQ:=Lib.hid he
  clear he
  go_wp2
  go_ret
  exact⟨by rw [HEQ.out];rfl,HE3.out⟩
 have h1:(k:Int)<(on:Int):=by omega
 have h0:(0:Int)≤(k:Int):=by omega
 have hkX:k<X.length:=by rw [HX.out];exact hkN
 obtain⟨g,off,cap,hq,hg,hc⟩:=rd_at1 HO3.out hkN
 simp only [Value.slice.injEq,true_and] at hq
 obtain⟨rfl,rfl⟩:=hq
 rw [intV_getD X hkX] at hc
 have hun:=fun(h:X[k]≠(k:Int))=>HV3.out (by first | trivial | rfl) (upTo_not HS3.out HP3.out hkX h)
 have hup2:=fun(h:X[k]=(k:Int))=>upTo_succ hkX HUP.out h
 obtain⟨x,hx⟩:∃ x,X[k]=x:=⟨_,rfl⟩
 rw [hx] at hc hun hup2
 have HUN:=Lib.hid hun;have HUP2:=Lib.hid hup2
 have hwk:IntKind.i64.wrap ((k:Int)+1)=(k:Int)+1:=IntWalk.i64_in _ (by omega)
 clear hx hun hup2 hkX
 by_cases hxk:x=(k:Int)
 case neg=>
  have hne:¬ ((k:Int)=x):=fun h=>hxk h.symm
  have he:=HUN.out hxk
  have HEQ:=Lib.hid he
  clear he
  go_wp2
  go_ret
  exact⟨by rw [HEQ.out];rfl,HE3.out⟩
 subst hxk
 have hu2:=HUP2.out rfl
 have HU2:=Lib.hid hu2
 clear hu2 HUN HUP2
 go_wp2
 exact⟨⟨k+1,by omega,by first | rfl | trivial,⟨rfl,rfl,rfl,rfl⟩,HU2.out,by first | trivial | rfl⟩,by first | (simp [intOf];done) | (simp [intOf];omega)⟩
end Go.Proofs.YtfdlhlghcbeblaaGreatDoor
namespace Go.Proofs.YtfdlhlghcbeblaaGreatDoor
open Go.RowKit Go.Ab
def goodP(xs:List Int)(n k:Nat):Prop:=(∀ x∈xs.take k,0≤x∧x<(n:Int))∧(xs.take k).Nodup
def seenL(xs:List Int)(n k:Nat):List Value:=(List.range n).map fun(i:Nat)=>.bool (decide ((i:Int)∈xs.take k))
end Go.Proofs.YtfdlhlghcbeblaaGreatDoor
