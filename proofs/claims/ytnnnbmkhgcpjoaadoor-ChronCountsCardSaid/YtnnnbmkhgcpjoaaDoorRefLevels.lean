/- ablautref13.Order: Levels. -/
import Derived.Test.YtnnnbmkhgcpjoaaDoorRefRed
import Derived.Test.YtnnnbmkhgcpjoaaDoorLevLaw
import Derived.Test.YtnnnbmkhgcpjoaaDoorRefFirst
import Derived.Test.YtnnnbmkhgcpjoaaDoorCnt
namespace Go.Proofs.YtnnnbmkhgcpjoaaDoor
open Go.RowKit Go.Ab

/-- What is lacking to the levels. -/
def lack (n : Nat) (lv f : Nat → Nat) : Nat := ((List.range n).map fun x => lv x - f x).sum
theorem lack_upd {n : Nat} {lv f : Nat → Nat} {b v : Nat} (hb : b < n) (h1 : f b < v) (h2 : v ≤ lv b) : lack n lv (upd f b v) < lack n lv f := by
  unfold lack
  induction n with
  | zero => omega
  | succ n ih =>
    rw [List.range_succ, List.map_append, List.map_append, List.sum_append, List.sum_append]
    simp only [List.map_cons, List.map_nil, List.sum_cons, List.sum_nil, Nat.add_zero]
    by_cases e : b = n
    · subst e
      have : (List.range b).map (fun x => lv x - upd f b v x) = (List.range b).map (fun x => lv x - f x) := by
        apply List.map_congr_left
        intro x hx
        have := List.mem_range.1 hx
        simp [upd, show x ≠ b by omega]
      rw [this]
      simp only [upd, if_true]
      omega
    · have := ih (by omega)
      have e2 : upd f b v n = f n := by simp [upd, Ne.symm e]
      rw [e2]
      omega
/-- A function below the levels that grows along all pairs is the levels. -/
theorem lvl_unique {n : Nat} {R : Bin} (hR : Rel n R) {f : Nat → Nat} (h1 : ∀ x, x < n → f x ≤ lvl n R x) (h2 : ∀ a b, R a b = true → f a < f b) : ∀ x, x < n → f x = lvl n R x := by
  have aux : ∀ m x, x < n → lvl n R x = m → m ≤ f x := by
    intro m
    induction m with
    | zero => intro x _ _; omega
    | succ m ih =>
      intro x hx hl
      obtain ⟨a, ha, hax, he⟩ := lvl_down hR hx (by omega)
      have := ih a ha (by omega)
      have := h2 a x hax
      omega
  intro x hx
  have := aux _ x hx rfl
  have := h1 x hx
  omega

def outF (W : World) (G : Nat) (x : Nat) : Nat := match W.cell? ⟨G, x, none⟩ with | some (.int _ z) => z.toNat | _ => 0
def agN (v : Value) : Nat := match v with | .bool true => 1 | _ => 0
theorem lack_congr {n : Nat} {lv f g : Nat → Nat} (h : ∀ x, x < n → f x = g x) : lack n lv f = lack n lv g := by
  unfold lack
  congr 1
  apply List.map_congr_left
  intro x hx
  rw [h x (List.mem_range.1 hx)]
theorem outF_row {W : World} {base G n c : Nat} {f : Nat → Nat} (h : W.ownsRow base 3 1 (.slice (some ⟨G, 0, none⟩) n c) n (lvRow n f)) (x : Nat) (hx : x < n) : outF W G x = f x := by
  have := h.cellAt x (by omega)
  rw [lvRow_get _ _ _ hx] at this
  unfold outF
  rw [this]
  simp

set_option maxRecDepth 100000 in
set_option maxHeartbeats 8000000 in
theorem refLevels_ok {w : World} {base b n : Nat} {R : Bin} (hn : n ≤ 64) (hR : Rel n R) (h : RefO w base b n R) :
    Calls Tryd.prog 45 #[.pointer (some ⟨b, 0, none⟩)] w fun e w' => ∃ v, e = .returned v ∧ Ext w w' ∧ w'.ownsRow w.heap.size 3 1 v n (lvRow n (lvl n R)) := by
  have cn := h.num
  go_enter Tryd.func45, Tryd.ntmps45
  go_wp2_with (first | (go_at_call 40; refine (refValid_ok h).mono ?_; rintro e w' ⟨rfl, rfl⟩) | (at_make; refine make_row1 rfl (.tmp 13) (.tmp 13) 23 rfl w.heap.size 3 _ 8 Tryd.underlying23 Tryd.infoInt rfl .i64 .i64 n n n rfl rfl rfl rfl ?c1 ?c2 (Nat.le_refl _) ?_))
  case c1 => omega
  case c2 => unfold maxLen; omega
  rw [lvRow_zero]
  intro w1 hO1 hE1
  have h1 := h.ext hE1
  have hG1 := (hO1.lt _ rfl).2
  go_wp2_with fail
  refine (refPairs_ok hn h1).mono ?_
  rintro e w2 ⟨vp, rfl, hE2, hOp⟩
  have hle := pairsU_le n R n
  rw [pairsU_all] at hle
  have hmul : n * n ≤ 64 * 64 := Nat.mul_le_mul hn hn
  have hmem : ∀ p ∈ pairsR n R, ∃ a b : Nat, p = ((a : Int), (b : Int)) ∧ a < n ∧ b < n ∧ R a b = true := fun p hp => mem_pairsR.1 hp
  have hall : ∀ a b, R a b = true → ((a : Int), (b : Int)) ∈ pairsR n R := fun a b hr => mem_pairsR.2 ⟨a, b, rfl, (hR.dom _ _ hr).1, (hR.dom _ _ hr).2, hr⟩
  have hgp : ∀ g, vp.ownBlock = some g → w1.heap.size ≤ g := fun g hg => (hOp.lt g hg).1
  obtain ⟨hl1, hm1, ap, cp, rfl, hRd⟩ := Rd.of_own hOp
  obtain ⟨L, hL⟩ : ∃ L, pairsR n R = L := ⟨_, rfl⟩
  rw [hL] at hle hl1 hm1 hRd hmem hall hgp ⊢
  have hR' : ∀ k (hk : k < L.length), ∃ (g off a b : Nat), ap = some ⟨g, off, none⟩ ∧ w1.heap.size ≤ g ∧ a < n ∧ b < n ∧ R a b = true ∧ L[k] = ((a : Int), (b : Int)) ∧ w2.cell? ⟨g, off + k * 2, none⟩ = some (.int .i64 a) ∧ w2.cell? ⟨g, off + k * 2 + 1, none⟩ = some (.int .i64 b) := fun k hk => by
    obtain ⟨g, off, e, _, hc⟩ := hRd (by omega)
    obtain ⟨a, b, hab, ha, hb, hr⟩ := hmem L[k] (List.getElem_mem hk)
    have hgd : L.getD k (0, 0) = ((a : Int), (b : Int)) := by simp [List.getD_eq_getElem?_getD, hk, hab]
    refine ⟨g, off, a, b, e, hgp g (by rw [e]; rfl), ha, hb, hr, hab, ?_, ?_⟩
    · rw [hc (k * 2) (by omega), prs_fst _ _ hk, hgd]
    · rw [Nat.add_assoc, hc (k * 2 + 1) (by omega), prs_snd _ _ hk, hgd]
  have hup : ∀ a b, R a b = true → lvl n R a < lvl n R b := fun a b h => lvl_up hR h
  have huniq : ∀ f : Nat → Nat, (∀ x, x < n → f x ≤ lvl n R x) → (∀ a b, R a b = true → f a < f b) → lvRow n f = lvRow n (lvl n R) := fun f q1 q2 => lvRow_congr (lvl_unique hR q1 q2)
  have hl64 : ∀ x, x < n → lvl n R x < n := fun x hx => lvl_lt hR hx
  obtain ⟨lv, hlv⟩ : ∃ lv, lvl n R = lv := ⟨_, rfl⟩
  rw [hlv] at hup huniq hl64
  have HLVV := Lib.hid hlv
  have HR := Lib.hid hR'; have HALL := Lib.hid hall; have HUP := Lib.hid hup; have HUN := Lib.hid huniq; have HL64 := Lib.hid hl64
  have hO2 := own_ext hO1 hE2
  have hE02 := hE1.trans hE2
  clear hR' hRd hmem hall hgp hl1 hm1 hup huniq hl64 hlv hL hOp hO1 h1 cn h
  go_wp2
  refine wp_loop (fun a W => ∃ (f : Nat → Nat) (ag : Bool), (∀ x, x < n → f x ≤ lv x) ∧ (ag = false → ∀ a b, R a b = true → f a < f b) ∧ a.defers = [] ∧ (a.tmps.size = 58 ∧ a.tmps.getD 3 undef = .slice (some ⟨w.heap.size, 0, none⟩) n n ∧ a.tmps.getD 4 undef = .slice ap L.length cp ∧ a.tmps.getD 5 undef = .bool ag) ∧ W.ownsRow w.heap.size 3 1 (.slice (some ⟨w.heap.size, 0, none⟩) n n) n (lvRow n f) ∧ Turn (· = w.heap.size) w2 W)
    (fun a W => 2 * lack n lv (outF W w.heap.size) + agN (a.tmps.getD 5 undef)) ?_ ?_
  · exact ⟨fun _ => 0, true, fun x hx => Nat.zero_le _, (fun q => by cases q), rfl, ⟨rfl, rfl, rfl, rfl⟩, hO2, Turn.refl _ _⟩
  rintro ⟨t, _⟩ W ⟨f, ag, hf, hgr, hds, ⟨hsz, f3, f4, f5⟩, hO, ht⟩
  subst hds
  obtain ⟨u', hu⟩ := frame_fun hsz
  obtain ⟨u, rfl⟩ : ∃ x, x = u' := ⟨_, rfl⟩
  have hu' : t = #[u 0, u 1, u 2, u 3, u 4, u 5, u 6, u 7, u 8, u 9, u 10, u 11, u 12, u 13, u 14, u 15, u 16, u 17, u 18, u 19, u 20, u 21, u 22, u 23, u 24, u 25, u 26, u 27, u 28, u 29, u 30, u 31, u 32, u 33, u 34, u 35, u 36, u 37, u 38, u 39, u 40, u 41, u 42, u 43, u 44, u 45, u 46, u 47, u 48, u 49, u 50, u 51, u 52, u 53, u 54, u 55, u 56, u 57] := hu
  clear hu
  subst hu'
  change u 3 = _ at f3
  change u 4 = _ at f4
  change u 5 = _ at f5
  rw [f3, f4, f5]
  clear f3 f4 f5 hsz
  have HF := Lib.hid hf; have HGR := Lib.hid hgr
  have hlk := lack_congr (lv := lv) (outF_row hO)
  have HLK := Lib.hid hlk
  clear hf hgr hlk
  cases ag with
  | false =>
    have hrow := HUN.out f HF.out (HGR.out rfl)
    rw [hrow] at hO
    have HO := Lib.hid hO
    clear hrow hO
    go_wp2
    go_goals
    go_ret
    exact ⟨_, rfl, hE02.after ht (fun b' h1 h2 => by omega), by rw [HLVV.out]; exact HO.out⟩
  | true =>
    go_wp2
    refine wp_loop (fun a W => ∃ (k : Nat) (f' : Nat → Nat) (ag' : Bool), k ≤ L.length ∧ (∀ x, x < n → f' x ≤ lv x) ∧ (ag' = false → f' = f ∧ ∀ j (hj : j < L.length), j < k → f L[j].1.toNat < f L[j].2.toNat) ∧ (ag' = true → lack n lv f' < lack n lv f) ∧ a.defers = [] ∧ (a.tmps.size = 58 ∧ a.tmps.getD 3 undef = .slice (some ⟨w.heap.size, 0, none⟩) n n ∧ a.tmps.getD 4 undef = .slice ap L.length cp ∧ a.tmps.getD 5 undef = .bool ag' ∧ a.tmps.getD 6 undef = .int .i64 k) ∧ W.ownsRow w.heap.size 3 1 (.slice (some ⟨w.heap.size, 0, none⟩) n n) n (lvRow n f') ∧ Turn (· = w.heap.size) w2 W)
      (fun a _ => L.length - (intOf (a.tmps.getD 6 undef)).toNat) ?_ ?_
    · exact ⟨0, f, false, by omega, HF.out, fun _ => ⟨rfl, fun j hj q => by omega⟩, (fun q => by cases q), rfl, ⟨rfl, rfl, rfl, rfl, rfl⟩, hO, ht⟩
    clear hO ht
    rintro ⟨t, _⟩ W ⟨k, f', ag, hk, hf', hno, hyes, hds, ⟨hsz, f3, f4, f5, f6⟩, hO, ht⟩
    subst hds
    obtain ⟨u', hu⟩ := frame_fun hsz
    obtain ⟨u, rfl⟩ : ∃ x, x = u' := ⟨_, rfl⟩
    have hu' : t = #[u 0, u 1, u 2, u 3, u 4, u 5, u 6, u 7, u 8, u 9, u 10, u 11, u 12, u 13, u 14, u 15, u 16, u 17, u 18, u 19, u 20, u 21, u 22, u 23, u 24, u 25, u 26, u 27, u 28, u 29, u 30, u 31, u 32, u 33, u 34, u 35, u 36, u 37, u 38, u 39, u 40, u 41, u 42, u 43, u 44, u 45, u 46, u 47, u 48, u 49, u 50, u 51, u 52, u 53, u 54, u 55, u 56, u 57] := hu
    clear hu
    subst hu'
    change u 3 = _ at f3
    change u 4 = _ at f4
    change u 5 = _ at f5
    change u 6 = _ at f6
    rw [f3, f4, f5, f6]
    clear f3 f4 f5 f6 hsz
    have HF' := Lib.hid hf'; have HNO := Lib.hid hno; have HYES := Lib.hid hyes
    clear hf' hno hyes
    by_cases hk2 : k < L.length
    · have hk3 : (k : Int) < (L.length : Int) := by omega
      obtain ⟨g, off, x, y, rfl, hg, hx, hy, hxy, hLk, c1, c2⟩ := HR.out k hk2
      have d1 := ht.cell_some c1 (show ¬ g = w.heap.size by omega)
      have d2 := ht.cell_some c2 (show ¬ g = w.heap.size by omega)
      have d3 := hO.cellAt x (by omega)
      have d4 := hO.cellAt y (by omega)
      rw [lvRow_get _ _ _ hx] at d3
      rw [lvRow_get _ _ _ hy] at d4
      have d5 := hO.frozenAt y
      have bx := HF'.out x hx
      have bxy := HUP.out x y hxy
      have by' := HL64.out y hy
      have hby := HF'.out y hy
      have hx3 : (x : Int) < (n : Int) := by omega
      have hy3 : (y : Int) < (n : Int) := by omega
      obtain ⟨p, hp⟩ : ∃ p, f' x = p := ⟨_, rfl⟩
      obtain ⟨q, hq⟩ : ∃ q, f' y = q := ⟨_, rfl⟩
      rw [hp] at d3 bx
      rw [hq] at d4 hby
      have hwr : IntKind.i64.wrap ((p : Int) + 1) = (p : Int) + 1 := IntWalk.i64_in _ (by omega)
      have hp64 : p < 64 := by omega
      have hq64 : q < 64 := by omega
      have C1 := Lib.hid c1; have C2 := Lib.hid c2; have HLk := Lib.hid hLk; have HP := Lib.hid hp; have HQ := Lib.hid hq
      clear c1 c2 hLk hp hq hxy
      by_cases hqp : q ≤ p
      · have s1 : (q : Int) ≤ (p : Int) := by omega
        have hstore := own_store (w := W) hO y (.int .i64 ((p + 1 : Nat) : Int))
        rw [lvRow_set] at hstore
        have hlt : lack n lv (upd f' y (p + 1)) < lack n lv f' := lack_upd hy (by rw [HQ.out]; omega) (by omega)
        have hle' : lack n lv f' ≤ lack n lv f := by
          cases hag : ag with
          | false => rw [(HNO.out hag).1]; exact Nat.le_refl _
          | true => exact Nat.le_of_lt (HYES.out hag)
        have hf2 : ∀ z, z < n → upd f' y (p + 1) z ≤ lv z := fun z hz => by
          unfold upd
          split
          · rename_i e; rw [e]; omega
          · exact HF'.out z hz
        have HST := Lib.hid hstore; have HLT := Lib.hid hlt; have HLE := Lib.hid hle'; have HF2 := Lib.hid hf2
        clear hstore hlt hle' hf2
        go_wp2
        go_quiet (fail)
        go_wp2
        refine region_still 15 (by kernel_rfl) (by kernel_rfl) ?_
        simp only [List.take_succ_cons, List.take_zero, List.drop_succ_cons, List.drop_zero]
        repeat still_step
        refine wpStill_nil ?_
        go_wp2
        have hst := own_store (w := (W.drewN nq).drew) (own_ext hO (((Turn.refl (fun _ => False) W).drewN nq).drew)) y (.int .i64 ((p + 1 : Nat) : Int))
        rw [lvRow_set] at hst
        exact ⟨⟨k + 1, upd f' y (p + 1), true, by omega, HF2.out, (fun q => by cases q), fun _ => Nat.lt_of_lt_of_le HLT.out HLE.out, by first | rfl | trivial, ⟨rfl, rfl, rfl, rfl, rfl⟩, hst, ((ht.drewN nq).drew).setCell (p := ⟨w.heap.size, y, none⟩) (.inr rfl) _⟩, by simp [intOf]; omega⟩
      · have s1 : ¬ q ≤ p := hqp
        have s2 : decide ((q : Int) ≤ (p : Int)) = false := decide_eq_false (by omega)
        have hn2 : ag = false → f' = f ∧ ∀ j (hj : j < L.length), j < k + 1 → f L[j].1.toNat < f L[j].2.toNat := fun hag => by
          obtain ⟨e1, e2⟩ := HNO.out hag
          refine ⟨e1, fun j hj hjk => ?_⟩
          by_cases e : j = k
          · subst e
            rw [HLk.out, ← e1]
            show f' x < f' y
            rw [HP.out, HQ.out]; omega
          · exact e2 j hj (by omega)
        have HN2 := Lib.hid hn2
        clear hn2 hqp
        go_wp2
        go_quiet (fail)
        go_wp2
        exact ⟨⟨k + 1, f', ag, by omega, HF'.out, HN2.out, HYES.out, by first | rfl | trivial, ⟨rfl, rfl, rfl, rfl, rfl⟩, own_ext hO ((Turn.refl (fun _ => False) W).drewN nq), ht.drewN nq⟩, by simp [intOf]; omega⟩
    · obtain rfl : k = L.length := by omega
      have hlk2 := lack_congr (lv := lv) (outF_row hO)
      have hend : ag = false → ∀ a b, R a b = true → f' a < f' b := fun hag a b hr => by
        obtain ⟨e1, e2⟩ := HNO.out hag
        obtain ⟨j, hj, e⟩ := List.getElem_of_mem (HALL.out a b hr)
        have := e2 j hj hj
        rw [e] at this
        rw [e1]
        exact this
      have HEND := Lib.hid hend; have HLK2 := Lib.hid hlk2
      clear hend hlk2
      go_wp2
      refine ⟨⟨f', ag, HF'.out, HEND.out, by first | rfl | trivial, ⟨rfl, rfl, rfl, rfl⟩, hO, ht⟩, ?_⟩
      have h1 := HLK.out
      have h2 := HLK2.out
      cases hag : ag with
      | false =>
        have h3 := (HNO.out hag).1
        rw [h3] at h2
        rw [h1, h2]
        simp [agN]
      | true =>
        have h3 := HYES.out hag
        rw [h1, h2]
        simp [agN]
        omega
end Go.Proofs.YtnnnbmkhgcpjoaaDoor
