/- chron.Order.Reduced. -/
import Derived.Test.YtnnnbmkhgcpjoaaDoorPairs
namespace Go.Proofs.YtnnnbmkhgcpjoaaDoor
open Go.RowKit Go.Ab

/-- Is nothing between the two? -/
def noneB (bf af : Nat → Nat) (p : Int × Int) : Bool := af p.1.toNat &&& bf p.2.toNat == 0
def reducedL (n : Nat) (bf af : Nat → Nat) : List (Int × Int) := (pairsL n af).filter (noneB bf af)

theorem mem_pairsL {n : Nat} {af : Nat → Nat} {p : Int × Int} (h : p ∈ pairsL n af) : ∃ a b : Nat, p = ((a : Int), (b : Int)) ∧ a < n ∧ b < 64 ∧ (af a).testBit b = true := by
  simp only [pairsL, List.mem_flatMap, List.mem_range, List.mem_map] at h
  obtain ⟨a, ha, b, hb, rfl⟩ := h
  have := mem_evs.1 hb
  exact ⟨a, b, rfl, ha, this.1, this.2⟩

theorem filter_take_succ {α : Type} (q : α → Bool) (l : List α) (k : Nat) (h : k < l.length) : (l.take (k + 1)).filter q = (l.take k).filter q ++ if q l[k] then [l[k]] else [] := by
  rw [List.take_succ_eq_append_getElem h, List.filter_append]
  by_cases hq : q l[k] = true <;> simp [hq]

set_option maxHeartbeats 4000000 in
theorem reduced_any (b : Nat) (mk : Bool) (n : Nat) (bf af : Nat → Nat) (w : World) (ho : Ord w b mk n bf af) (hf : Fits n bf af) (hT : Tab w) :
    Calls Tryd.prog 25 #[.pointer (some ⟨b, 0, none⟩)] w fun e w' => ∃ v, e = .returned v ∧ Ext w w' ∧ w'.ownsRow w.heap.size 33 2 v (reducedL n bf af).length (prs (reducedL n bf af)) := by
  have hlt := ho.lt
  have hn64 := hf.1
  have hPL := pairsL_length n af
  go_enter Tryd.func25, Tryd.ntmps25
  go_wp2_with fail
  refine (pairs_any b mk n bf af w ho hf hT).mono ?_
  rintro e w1 ⟨vp, rfl, hE1, hO1⟩
  obtain ⟨hl1, hm1, ap, cp, rfl, hR⟩ := Rd.of_own hO1
  have ho1 := ho.keep hE1 id
  have hlt1 := ho1.lt
  go_wp2
  go_loopw [3, 9] (fun v i wr => ∃ k : Nat, k ≤ (pairsL n af).length ∧ i = .int .i64 k ∧ wr.ownsRow w1.heap.size 33 2 v (((pairsL n af).take k).filter (noneB bf af)).length (prs (((pairsL n af).take k).filter (noneB bf af))) ∧ Ext w1 wr) (fun _ i _ => (pairsL n af).length - (intOf i).toNat)
  case atStart => exact ⟨0, Nat.zero_le _, rfl, by simpa [prs] using World.ownsRow_nil _ _ _ _, Turn.refl _ _⟩
  case round =>
    obtain ⟨k, hk, rfl, hO, hE⟩ := hrel
    by_cases hlt2 : k < (pairsL n af).length
    · obtain ⟨g, off, rfl, hg, hc⟩ := hR (by omega)
      obtain ⟨x, y, hp, hx, hy, hxy⟩ := mem_pairsL (List.getElem_mem hlt2)
      have c1 := hE.cell_some (hc (k * 2) (by omega)) id
      have c2 := hE.cell_some (hc (k * 2 + 1) (by omega)) id
      have hgd : (pairsL n af).getD k (0, 0) = ((x : Int), (y : Int)) := by rw [← hp]; simp [List.getD_eq_getElem?_getD, hlt2]
      rw [prs_fst _ _ hlt2, hgd] at c1
      rw [prs_snd _ _ hlt2, hgd, ← Nat.add_assoc] at c2
      have how := ho1.keep hE id
      have cA := how.af x (by omega)
      have cB := how.bf y hy
      have hltw := how.lt
      have hx1 : (x : Int) < 64 := by omega
      have hy1 : (y : Int) < 64 := by omega
      have hand := u64_and_nat (af x) (bf y) (hf.2.2 x) (hf.2.1 y)
      have HG := Lib.hid hgd
      have HP := Lib.hid hp
      clear hgd hp hc hR hl1 hO1
      have htk : ((pairsL n af).take (k + 1)).filter (noneB bf af) = ((pairsL n af).take k).filter (noneB bf af) ++ if noneB bf af ((x : Int), (y : Int)) then [((x : Int), (y : Int))] else [] := by
        rw [filter_take_succ _ _ _ hlt2, HP.out]
      have hlk : (((pairsL n af).take k).filter (noneB bf af)).length ≤ 64 * 64 := by
        have h1 := List.length_filter_le (noneB bf af) ((pairsL n af).take k)
        have h2 := List.length_take_le k (pairsL n af)
        omega
      have HT := Lib.hid htk
      clear htk
      go_wp2
      go_quiet (fail)
      by_cases hb0 : af x &&& bf y = 0
      · have hz : (((af x &&& bf y : Nat) : Int) == 0) = true := by simp [hb0]
        have hq : noneB bf af ((x : Int), (y : Int)) = true := by simp [noneB, hb0]
        rw [hq, if_pos rfl] at HT
        have HB := Lib.hid hb0
        clear hb0 hq
        go_wp2_with (at_builtin; refine append_row rfl (.tmp 29) (.tmp 31) 22 rfl w1.heap.size 33 _ 2 16 Tryd.underlying22 Tryd.infoPair rfl (by decide) _ _ _ rfl (own_ext hO ((((Turn.refl _ wr).alloc _).drewN _).alloc _)) ⟨wr.heap.size + 1, 0, none⟩ 1 1 [.int .i64 x, .int .i64 y] rfl rfl ?c1 ?c2 ?c3 ?c4 ?c5 ?_)
        case c1 => exact new_cells' (by simp)
        case c2 => intro u hu; simp at hu; rcases hu with rfl | rfl <;> rfl
        case c3 => unfold maxLen; omega
        case c4 => omega
        case c5 => have := hE.size; simp; omega
        intro ao c' w2 hO2 hT2 _
        have hE2 : Ext w1 w2 := (hE.trans ((((Turn.refl _ wr).alloc _).drewN _).alloc _)).after hT2 (fun b' h1 e => by have := (hO.lt _ e).1; omega)
        clear hT2 hO hE c1 c2 cA cB how
        go_wp2
        go_roundw
        case rel =>
          refine ⟨k + 1, by omega, by go_num, ?_, hE2⟩
          rw [HT.out, prs_append, List.length_append]
          exact hO2
        case measure => simp [intOf]; omega
      · have hz : (((af x &&& bf y : Nat) : Int) == 0) = false := by simp; omega
        have hq : noneB bf af ((x : Int), (y : Int)) = false := by simp [noneB, hb0]
        rw [hq, if_neg (by simp), List.append_nil] at HT
        have HB := Lib.hid hb0
        clear hb0 hq
        go_wp2
        go_roundw
        case rel =>
          refine ⟨k + 1, by omega, by go_num, ?_, hE.trans (((Turn.refl _ wr).alloc _).drewN _)⟩
          rw [HT.out]
          exact own_ext hO (((Turn.refl _ wr).alloc _).drewN _)
        case measure => simp [intOf]; omega
    · have hkn : k = (pairsL n af).length := by omega
      have HK := Lib.hid hkn
      clear hkn
      go_wp2
      go_ret
      refine ⟨_, rfl, hE1.trans hE, ?_⟩
      have h1 := hO
      rw [HK.out, List.take_length] at h1
      exact own_base h1 (hE1.size)
end Go.Proofs.YtnnnbmkhgcpjoaaDoor
