/- ablautlaw08.ints. What the laws of chapter 8 take from the contracts. -/
import Derived.Test.YtedhogbocifipaaGreatDoorGa08
import Derived.Test.YtedhogbocifipaaGreatDoorWorksW
set_option maxRecDepth 100000
set_option maxHeartbeats 4000000
namespace Go.Proofs.YtedhogbocifipaaGreatDoor
open Go.RowKit Go.Ab
attribute [local go_sem] Oper.semAt_some wide_fn wide_depth

theorem natV_get (l : List Nat) {k : Nat} (h : k < l.length) : (natV l).getD k undef = .int .i64 (l[k] : Int) := by
 simp [natV, List.getD_eq_getElem?_getD, h]
theorem take_same {l m : List Nat} {k : Nat} (h1 : k < l.length) (h2 : k < m.length) (h : l.take k = m.take k) (e : l[k] = m[k]) : l.take (k + 1) = m.take (k + 1) := by
 rw [List.take_succ_eq_append_getElem h1, List.take_succ_eq_append_getElem h2, h, e]
theorem Rd.int {w : World} {v : Value} {l : List Nat} (h : Rd w v l.length 1 (natV l)) : ∃ ao cap, v = .slice ao l.length cap ∧ l.length ≤ maxLen ∧ ∀ k (hk : k < l.length), ∃ g off, ao = some ⟨g, off, none⟩ ∧ w.cell? ⟨g, off + k, none⟩ = some (.int .i64 (l[k] : Int)) := by
 obtain ⟨h1, h2, ao, cap, hv, h3⟩ := h
 refine ⟨ao, cap, hv, h2, fun k hk => ?_⟩
 obtain ⟨g, off, ha, hg, hc⟩ := h3 (by omega)
 have := hc k (by omega)
 rw [natV_get l hk] at this
 exact ⟨g, off, ha, this⟩

theorem ints_any {w : World} {u v : Value} {l m : List Nat} (hu : Rd w u l.length 1 (natV l)) (hv : Rd w v m.length 1 (natV m)) :
  Calls Tryz.prog 22 #[u, v] w fun e w' => e = .returned (.bool (decide (l = m))) ∧ Ext w w' := by
 obtain ⟨ao, cap, rfl, hlm, hl⟩ := Rd.int hu
 obtain ⟨bo, bcap, rfl, hmm, hm⟩ := Rd.int hv
 unfold maxLen at hlm hmm
 have HL := Lib.hid hl; have HM := Lib.hid hm
 clear hl hm hu hv
 obtain ⟨N, hN⟩ : ∃ N, l.length = N := ⟨_, rfl⟩
 obtain ⟨M, hM⟩ : ∃ M, m.length = M := ⟨_, rfl⟩
 have HN := Lib.hid hN; have HMM := Lib.hid hM
 rw [hN] at hlm ⊢
 rw [hM] at hmm ⊢
 clear hN hM
 by_cases hNM : N = M
 ·subst hNM
  go_enter Tryz.func22, Tryz.ntmps22
  go_wp2
  refine wp_loop (fun a W => ∃ (k : Nat), k ≤ N ∧ a.defers = [] ∧ (a.tmps.size = 26 ∧ a.tmps.getD 0 undef = .slice ao N cap ∧ a.tmps.getD 1 undef = .slice bo N bcap ∧ a.tmps.getD 5 undef = .int .i64 k) ∧ l.take k = m.take k ∧ Ext w W)
   (fun a _ => N - (intOf (a.tmps.getD 5 undef)).toNat) ?_ ?_
  ·exact ⟨0, by omega, rfl, ⟨rfl, rfl, rfl, rfl⟩, rfl, Turn.refl _ _⟩
  rintro ⟨t, _⟩ W ⟨k, hk, hds, ⟨hsz, f0, f1, f5⟩, hall, hE⟩
  subst hds
  obtain ⟨u', hu⟩ := frame_fun hsz
  obtain ⟨u, rfl⟩ : ∃ x, x = u' := ⟨_, rfl⟩
  have hu' : t = #[u 0, u 1, u 2, u 3, u 4, u 5, u 6, u 7, u 8, u 9, u 10, u 11, u 12, u 13, u 14, u 15, u 16, u 17, u 18, u 19, u 20, u 21, u 22, u 23, u 24, u 25] := hu
  clear hu
  subst hu'
  change u 0 = _ at f0
  change u 1 = _ at f1
  change u 5 = _ at f5
  rw [f0, f1, f5]
  clear f0 f1 f5 hsz
  have HALL := Lib.hid hall
  clear hall
  by_cases hkN : k < N
  ·have h1 : (k : Int) < (N : Int) := by omega
   have hkl : k < l.length := by rw [HN.out]; exact hkN
   have hkr : k < m.length := by rw [HMM.out]; exact hkN
   obtain ⟨g, off, rfl, d1⟩ := HL.out k hkl
   obtain ⟨g', off', rfl, d2⟩ := HM.out k hkr
   have c1 := hE.cell_some d1 id
   have c2 := hE.cell_some d2 id
   have HS := Lib.hid (fun x => take_same (l := l) (m := m) hkl hkr HALL.out x)
   have hne : l[k] ≠ m[k] → l ≠ m := fun h e => h (by simp [e])
   have HNE := Lib.hid hne
   obtain ⟨x, hx⟩ : ∃ x, l[k] = x := ⟨_, rfl⟩
   obtain ⟨y, hy⟩ : ∃ y, m[k] = y := ⟨_, rfl⟩
   rw [hx, hy] at HS HNE
   rw [hx] at c1
   rw [hy] at c2
   clear hne d1 d2 hx hy
   by_cases hxy : x = y
   ·have HS2 := Lib.hid (HS.out hxy)
    have q1 : ((x : Int) == (y : Int)) = true := by rw [beq_iff_eq]; omega
    clear HS HNE
    subst hxy
    go_wp2
    go_quiet (fail)
    go_wp2
    exact ⟨⟨k + 1, by omega, by first | rfl | trivial, ⟨rfl, rfl, rfl, rfl⟩, HS2.out, Turn.drewN hE _⟩, by simp [intOf]; omega⟩
   ·have HS2 := Lib.hid (HNE.out hxy)
    have q1 : ((x : Int) == (y : Int)) = false := by rw [beq_eq_false_iff_ne]; omega
    clear HS HNE hxy
    go_wp2
    go_quiet (fail)
    go_wp2
    go_ret
    exact ⟨by rw [decide_eq_false HS2.out]; rfl, Turn.drewN hE _⟩
  ·obtain rfl : k = N := by omega
   have h1 : ¬ (k : Int) < (k : Int) := by omega
   have hfin : l = m := by
    have := HALL.out
    rwa [List.take_of_length_le (by rw [HN.out]; exact Nat.le_refl _), List.take_of_length_le (by rw [HMM.out]; exact Nat.le_refl _)] at this
   have HFI := Lib.hid hfin
   clear hfin
   go_wp2
   go_ret
   exact ⟨by rw [decide_eq_true HFI.out]; rfl, hE⟩
 ·have hfin : l ≠ m := fun h => hNM (by rw [← HN.out, ← HMM.out, h])
  have HFI := Lib.hid hfin
  have h1 : ((N : Int) == (M : Int)) = false := by rw [beq_eq_false_iff_ne]; omega
  clear hfin
  go_enter Tryz.func22, Tryz.ntmps22
  go_wp2
  go_ret
  exact ⟨by rw [decide_eq_false HFI.out]; rfl, Turn.refl _ _⟩


def NatsAt (w : World) (v : Value) (xs : List Nat) : Prop := Rd w v xs.length 1 (natV xs)
theorem NatsAt.ext {A B : World} {v : Value} {xs : List Nat} (h : NatsAt A v xs) (ht : Ext A B) : NatsAt B v xs := Rd.ext h ht
theorem NatsAt.slice {A : World} {v : Value} {xs : List Nat} (h : NatsAt A v xs) : ∃ ao c, v = .slice ao xs.length c := by
 obtain ⟨_, _, ao, c, hv, _⟩ := h
 exact ⟨ao, c, hv⟩
theorem hits_one {w : World} {l : LawD} {cs : List Value} {v : Value} {ws : Wd} (hl : LawAt w l cs) (hv : WordAt w v ws) (hT : Tab w) :
  Calls Tryz.prog 20 #[.agg cs.toArray, v] w fun e w' => ∃ ao c, e = .returned (.tuple #[.slice ao (hitsV l ws).length c, .int .i64 (lawW l ws)]) ∧ NatsAt w' (.slice ao (hitsV l ws).length c) (hitsV l ws) ∧ Ext w w' :=
 (lhits_any hl hv hT).mono fun _ _ ⟨u, h1, h2, h3⟩ => by
  have h4 : NatsAt _ u (hitsV l ws) := Rd.of_own h2
  obtain ⟨ao, c, rfl⟩ := h4.slice
  exact ⟨ao, c, h1, h4, h3⟩
theorem ints_same {w : World} {u v : Value} {l : List Nat} (hu : NatsAt w u l) (hv : NatsAt w v l) :
  Calls Tryz.prog 22 #[u, v] w fun e w' => e = .returned (.bool true) ∧ Ext w w' := by
 have h := ints_any hu hv
 rwa [decide_eq_true rfl] at h
theorem same_self {w : World} {u v : Value} {us : Wd} (hu : WordAt w u us) (hv : WordAt w v us) :
  Calls Tryz.prog 25 #[u, v] w fun e w' => e = .returned (.bool true) ∧ Ext w w' := by
 have h := same_any hu hv
 rwa [decide_eq_true rfl] at h
end Go.Proofs.YtedhogbocifipaaGreatDoor
