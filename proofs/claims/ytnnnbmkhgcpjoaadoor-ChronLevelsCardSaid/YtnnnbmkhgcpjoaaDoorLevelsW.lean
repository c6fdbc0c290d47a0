/- ablautlaw13.ChronLevels: the walk. -/
import Derived.Test.YtnnnbmkhgcpjoaaDoorSaid
import Derived.Test.YtnnnbmkhgcpjoaaDoorLevLaw
import Derived.Test.YtnnnbmkhgcpjoaaDoorRedLaw
import Derived.Test.YtnnnbmkhgcpjoaaDoorArgs

namespace Go.Proofs.YtnnnbmkhgcpjoaaDoor
open Go.RowKit Go.Ab

/-- What is found of the events below m. -/
def foundB (R : Bin) (lv : Nat → Nat) (level b m : Nat) : Bool := level == 0 || (List.range m).any fun a => R a b && lv a + 1 == level
theorem foundB_succ (R : Bin) (lv : Nat → Nat) (level b m : Nat) : foundB R lv level b (m + 1) = (foundB R lv level b m || (R m b && lv m + 1 == level)) := by
  simp [foundB, List.range_succ, Bool.or_assoc]
theorem foundB_all {n : Nat} {R : Bin} (hR : Rel n R) {b : Nat} (hb : b < n) : foundB R (lvl n R) (lvl n R b) b n = true := by
  unfold foundB
  by_cases h : lvl n R b = 0
  · simp [h]
  · obtain ⟨a, ha, hab, he⟩ := lvl_down hR hb h
    simp only [Bool.or_eq_true, List.any_eq_true, List.mem_range, Bool.and_eq_true, beq_iff_eq]
    exact .inr ⟨a, ha, hab, he⟩

set_option maxRecDepth 100000 in
set_option maxHeartbeats 8000000 in
theorem levels_law (w : World) (hT : Tab w) (v : Value) (l : List (Nat × Nat)) (hv : Rd w v l.length 2 (b8s l)) (hl : ∀ p ∈ l, p.1 < 256 ∧ p.2 < 256) :
    Calls Tryd.prog 5 #[v] w fun e w' => e = .returned (.bool true) ∧ Ext w w' := by
  have n64 : 12 ≤ 64 := by decide
  go_enter Tryd.func5, Tryd.ntmps5
  go_wp2_with fail
  refine (said_any 12 (by decide) n64 w hT v l hv hl).mono ?_
  rintro e w1 ⟨rfl, hE1, ho⟩
  have hRel := saidR_rel 12 (l.take 40)
  obtain ⟨R, hRR⟩ : ∃ R, saidR 12 (l.take 40) = R := ⟨_, rfl⟩
  rw [hRR] at ho hRel
  have hT1 := hT.keep hE1 id
  clear hRR hv hl
  have h0w := ho.lt
  go_wp2_with fail
  refine (levels_any _ 12 R n64 hRel w1 ho hT1).mono ?_
  rintro e w2 ⟨vk, rfl, hE2, hOk⟩
  have ho2 := ho.keep hE2 id
  go_wp2_with fail
  refine (first_any _ 12 R n64 hRel w2 ho2).mono ?_
  rintro e w3 ⟨vf, rfl, hE3, hOf, hlf⟩
  have ho3 := ho2.keep hE3 id
  have hOk3 := own_ext hOk hE3
  obtain ⟨_, _, ak, ck, rfl, hk⟩ := Rd.of_own hOk3
  have hrf := Rd.of_own hOf
  obtain ⟨_, _, af, cf, rfl, hf⟩ := Rd.of_own hOf
  obtain ⟨gk, ok, rfl, hgk, hck⟩ := hk (by decide)
  obtain ⟨gf, of, rfl, hgf, hcf⟩ := hf (by omega)
  have hlv : ∀ b, b < 12 → lvl 12 R b < 12 := fun b hb => lvl_lt hRel hb
  have hup : ∀ a b, R a b = true → lvl 12 R a < lvl 12 R b := fun a b h => lvl_up hRel h
  have hfound : ∀ b, b < 12 → foundB R (lvl 12 R) (lvl 12 R b) b 12 = true := fun b hb => foundB_all hRel hb
  have hck' : ∀ b, b < 12 → w3.cell? ⟨gk, ok + b, none⟩ = some (.int .i64 (lvl 12 R b)) := fun b hb => by
    rw [hck b (by omega), List.getD_eq_getElem?_getD, lvRow_get _ _ _ hb]; rfl
  have hE03 := (hE1.trans hE2).trans hE3
  have hal1 := first_allows hRel
  have hal2 := byLev_allows hRel
  have hbl := byLev_length hRel
  obtain ⟨lv, hlvv⟩ : ∃ lv, lvl 12 R = lv := ⟨_, rfl⟩
  rw [hlvv] at hlv hup hfound hck' hal2 hbl
  have HLV := Lib.hid hlv; have HUP := Lib.hid hup; have HFO := Lib.hid hfound; have HCK := Lib.hid hck'; have HCF := Lib.hid hcf
  have HA1 := Lib.hid hal1; have HA2 := Lib.hid hal2; have HBL := Lib.hid hbl; have HRF := Lib.hid hrf; have HLF := Lib.hid hlf
  have hT3 := hT.keep hE03 id
  clear hlv hup hfound hck' hck hcf hal1 hal2 hbl hrf hlvv hOk hOk3 hOf hk hf hT hT1 ho ho2 hE1 hE2 hE3
  rw [hlf]
  clear hlf
  have h0w3 := hE03.size
  go_wp2
  -- by levels
  refine wp_loop (fun a W => ∃ (i : Nat) (vo : Value), i ≤ 12 ∧ Ext w3 W ∧ a.defers = [] ∧ (a.tmps.size = 133 ∧ a.tmps.getD 3 undef = .pointer (some ⟨w.heap.size, 0, none⟩) ∧ a.tmps.getD 4 undef = .slice (some ⟨gk, ok, none⟩) 12 ck ∧ a.tmps.getD 5 undef = .slice (some ⟨gf, of, none⟩) 12 cf ∧ a.tmps.getD 6 undef = vo ∧ a.tmps.getD 7 undef = .int .i64 i) ∧ W.ownsRow w3.heap.size 3 1 vo (byLev 12 lv i).length (ints (zs (byLev 12 lv i))))
    (fun a _ => 12 - (intOf (a.tmps.getD 7 undef)).toNat) ?_ ?_
  · exact ⟨0, _, by omega, Turn.refl _ _, rfl, ⟨rfl, rfl, rfl, rfl, rfl, rfl⟩, by simpa [byLev, ints, zs] using World.ownsRow_nil _ _ _ _⟩
  rintro ⟨t, _⟩ W ⟨i, vo, hi, hEW, hds, ⟨hsz, f3, f4, f5, f6, f7⟩, hO⟩
  subst hds
  obtain ⟨u', hu⟩ := frame_fun hsz
  obtain ⟨u, rfl⟩ : ∃ x, x = u' := ⟨_, rfl⟩
  have hu' : t = #[u 0, u 1, u 2, u 3, u 4, u 5, u 6, u 7, u 8, u 9, u 10, u 11, u 12, u 13, u 14, u 15, u 16, u 17, u 18, u 19, u 20, u 21, u 22, u 23, u 24, u 25, u 26, u 27, u 28, u 29, u 30, u 31, u 32, u 33, u 34, u 35, u 36, u 37, u 38, u 39, u 40, u 41, u 42, u 43, u 44, u 45, u 46, u 47, u 48, u 49, u 50, u 51, u 52, u 53, u 54, u 55, u 56, u 57, u 58, u 59, u 60, u 61, u 62, u 63, u 64, u 65, u 66, u 67, u 68, u 69, u 70, u 71, u 72, u 73, u 74, u 75, u 76, u 77, u 78, u 79, u 80, u 81, u 82, u 83, u 84, u 85, u 86, u 87, u 88, u 89, u 90, u 91, u 92, u 93, u 94, u 95, u 96, u 97, u 98, u 99, u 100, u 101, u 102, u 103, u 104, u 105, u 106, u 107, u 108, u 109, u 110, u 111, u 112, u 113, u 114, u 115, u 116, u 117, u 118, u 119, u 120, u 121, u 122, u 123, u 124, u 125, u 126, u 127, u 128, u 129, u 130, u 131, u 132] := hu
  clear hu
  subst hu'
  change u 3 = _ at f3
  change u 4 = _ at f4
  change u 5 = _ at f5
  change u 6 = _ at f6
  change u 7 = _ at f7
  rw [f3, f4, f5, f6, f7]
  clear f3 f4 f5 f6 f7 hsz
  by_cases hi2 : i < 12
  · have hi3 : (i : Int) < 12 := by omega
    have hile := byLev_le 12 i lv
    go_wp2
    refine wp_loop (fun a W => ∃ (j : Nat) (vo : Value), j ≤ 12 ∧ Ext w3 W ∧ a.defers = [] ∧ (a.tmps.size = 133 ∧ a.tmps.getD 3 undef = .pointer (some ⟨w.heap.size, 0, none⟩) ∧ a.tmps.getD 4 undef = .slice (some ⟨gk, ok, none⟩) 12 ck ∧ a.tmps.getD 5 undef = .slice (some ⟨gf, of, none⟩) 12 cf ∧ a.tmps.getD 6 undef = vo ∧ a.tmps.getD 7 undef = .int .i64 i ∧ a.tmps.getD 8 undef = .int .i64 j) ∧ W.ownsRow w3.heap.size 3 1 vo (byLev 12 lv i ++ (List.range j).filter fun b => lv b == i).length (ints (zs (byLev 12 lv i ++ (List.range j).filter fun b => lv b == i))))
      (fun a _ => 12 - (intOf (a.tmps.getD 8 undef)).toNat) ?_ ?_
    · exact ⟨0, _, by omega, hEW, rfl, ⟨rfl, rfl, rfl, rfl, rfl, rfl, rfl⟩, by simpa using hO⟩
    clear hO hEW
    rintro ⟨t, _⟩ W ⟨j, vo, hj, hEW, hds, ⟨hsz, f3, f4, f5, f6, f7, f8⟩, hO⟩
    subst hds
    obtain ⟨u', hu⟩ := frame_fun hsz
    obtain ⟨u, rfl⟩ : ∃ x, x = u' := ⟨_, rfl⟩
    have hu' : t = #[u 0, u 1, u 2, u 3, u 4, u 5, u 6, u 7, u 8, u 9, u 10, u 11, u 12, u 13, u 14, u 15, u 16, u 17, u 18, u 19, u 20, u 21, u 22, u 23, u 24, u 25, u 26, u 27, u 28, u 29, u 30, u 31, u 32, u 33, u 34, u 35, u 36, u 37, u 38, u 39, u 40, u 41, u 42, u 43, u 44, u 45, u 46, u 47, u 48, u 49, u 50, u 51, u 52, u 53, u 54, u 55, u 56, u 57, u 58, u 59, u 60, u 61, u 62, u 63, u 64, u 65, u 66, u 67, u 68, u 69, u 70, u 71, u 72, u 73, u 74, u 75, u 76, u 77, u 78, u 79, u 80, u 81, u 82, u 83, u 84, u 85, u 86, u 87, u 88, u 89, u 90, u 91, u 92, u 93, u 94, u 95, u 96, u 97, u 98, u 99, u 100, u 101, u 102, u 103, u 104, u 105, u 106, u 107, u 108, u 109, u 110, u 111, u 112, u 113, u 114, u 115, u 116, u 117, u 118, u 119, u 120, u 121, u 122, u 123, u 124, u 125, u 126, u 127, u 128, u 129, u 130, u 131, u 132] := hu
    clear hu
    subst hu'
    change u 3 = _ at f3
    change u 4 = _ at f4
    change u 5 = _ at f5
    change u 6 = _ at f6
    change u 7 = _ at f7
    change u 8 = _ at f8
    rw [f3, f4, f5, f6, f7, f8]
    clear f3 f4 f5 f6 f7 f8 hsz
    by_cases hj2 : j < 12
    · have hj3 : (j : Int) < 12 := by omega
      have hfl := List.length_filter_le (fun b => lv b == i) (List.range j)
      rw [List.length_range] at hfl
      have c1 := hEW.cell_some (HCK.out j hj2) id
      obtain ⟨x, hx⟩ : ∃ x, lv j = x := ⟨_, rfl⟩
      rw [hx] at c1
      obtain ⟨M, hM⟩ : ∃ M, byLev 12 lv i ++ (List.range j).filter (fun b => lv b == i) = M := ⟨_, rfl⟩
      have hMl : M.length ≤ 200 := by rw [← hM, List.length_append]; omega
      have hM2 : byLev 12 lv i ++ (List.range (j + 1)).filter (fun b => lv b == i) = M ++ if x = i then [j] else [] := by
        rw [List.range_succ, List.filter_append, ← List.append_assoc, hM]
        congr 1
        by_cases h : x = i <;> simp [hx, h]
      rw [hM] at hO
      have HM := Lib.hid hM; have HM2 := Lib.hid hM2; have HX := Lib.hid hx
      clear hM hM2 hx hfl hile
      by_cases hxi : x = i
      · subst hxi
        obtain ⟨ao, cp, rfl⟩ := own_slice hO
        go_wp2_with (at_builtin; refine append_row rfl (.tmp 46) (.tmp 48) 23 rfl w3.heap.size 3 _ 1 8 Tryd.underlying23 Tryd.infoInt rfl (by decide) _ _ _ rfl (own_ext hO ((Turn.refl _ _).alloc _)) ⟨_, 0, none⟩ 1 1 [.int .i64 j] rfl rfl new_cells ?c2 ?c3 ?c4 ?c5 ?_)
        case c2 => first | rfl | (intro u hu; simp at hu; subst hu; rfl)
        case c3 => unfold maxLen; omega
        case c4 => omega
        case c5 => have := hEW.size; simp; omega
        intro ao2 c2 w4 hO2 hT2 _
        have hE4 : Ext w3 w4 := (hEW.alloc _).after hT2 (fun b' h1 e => by have := (hO.lt _ e).1; omega)
        clear hT2 hO hEW c1
        have ho4 := ho3.keep hE4 id
        have hM3 : M ++ [j] = byLev 12 lv x ++ (List.range (j + 1)).filter (fun b => lv b == x) := (HM2.out.trans (by first | simp | rfl)).symm
        have e1 : M.length + 1 = (byLev 12 lv x ++ (List.range (j + 1)).filter (fun b => lv b == x)).length := by rw [← hM3]; simp
        have hO3 : w4.ownsRow w3.heap.size 3 1 (.slice ao2 (M.length + 1) c2) (byLev 12 lv x ++ (List.range (j + 1)).filter (fun b => lv b == x)).length (ints (zs (byLev 12 lv x ++ (List.range (j + 1)).filter (fun b => lv b == x)))) := by
          rw [← e1, ← hM3]
          simpa [zs, ints] using hO2
        have HO := Lib.hid hO3
        clear hM3 e1 hO3 hO2 HM2 HM
        obtain ⟨q, hq⟩ : ∃ q, M.length + 1 = q := ⟨_, rfl⟩
        rw [hq] at HO ⊢
        clear hq hMl
        have hf0 : foundB R lv x j 0 = (x == 0) := by simp [foundB]
        have hf1 : ((x : Int) == 0) = foundB R lv x j 0 := by rw [hf0]; apply Bool.eq_iff_iff.2; simp only [beq_iff_eq]; omega
        have HF1 := Lib.hid hf1
        clear hf0 hf1
        go_wp2
        refine wp_loop (fun a W => ∃ (m : Nat), m ≤ 12 ∧ W = w4 ∧ a.defers = [] ∧ (a.tmps.size = 133 ∧ a.tmps.getD 3 undef = .pointer (some ⟨w.heap.size, 0, none⟩) ∧ a.tmps.getD 4 undef = .slice (some ⟨gk, ok, none⟩) 12 ck ∧ a.tmps.getD 5 undef = .slice (some ⟨gf, of, none⟩) 12 cf ∧ a.tmps.getD 6 undef = .slice ao2 q c2 ∧ a.tmps.getD 7 undef = .int .i64 x ∧ a.tmps.getD 8 undef = .int .i64 j ∧ a.tmps.getD 9 undef = .bool (foundB R lv x j m) ∧ a.tmps.getD 10 undef = .int .i64 m))
          (fun a _ => 12 - (intOf (a.tmps.getD 10 undef)).toNat) ?_ ?_
        · exact ⟨0, by omega, rfl, rfl, rfl, rfl, rfl, rfl, rfl, rfl, rfl, congrArg Value.bool HF1.out, rfl⟩
        rintro ⟨t, _⟩ W ⟨m, hm, rfl, hds, ⟨hsz, f3, f4, f5, f6, f7, f8, f9, f10⟩⟩
        subst hds
        obtain ⟨u', hu⟩ := frame_fun hsz
        obtain ⟨u, rfl⟩ : ∃ x, x = u' := ⟨_, rfl⟩
        have hu' : t = #[u 0, u 1, u 2, u 3, u 4, u 5, u 6, u 7, u 8, u 9, u 10, u 11, u 12, u 13, u 14, u 15, u 16, u 17, u 18, u 19, u 20, u 21, u 22, u 23, u 24, u 25, u 26, u 27, u 28, u 29, u 30, u 31, u 32, u 33, u 34, u 35, u 36, u 37, u 38, u 39, u 40, u 41, u 42, u 43, u 44, u 45, u 46, u 47, u 48, u 49, u 50, u 51, u 52, u 53, u 54, u 55, u 56, u 57, u 58, u 59, u 60, u 61, u 62, u 63, u 64, u 65, u 66, u 67, u 68, u 69, u 70, u 71, u 72, u 73, u 74, u 75, u 76, u 77, u 78, u 79, u 80, u 81, u 82, u 83, u 84, u 85, u 86, u 87, u 88, u 89, u 90, u 91, u 92, u 93, u 94, u 95, u 96, u 97, u 98, u 99, u 100, u 101, u 102, u 103, u 104, u 105, u 106, u 107, u 108, u 109, u 110, u 111, u 112, u 113, u 114, u 115, u 116, u 117, u 118, u 119, u 120, u 121, u 122, u 123, u 124, u 125, u 126, u 127, u 128, u 129, u 130, u 131, u 132] := hu
        clear hu
        subst hu'
        change u 3 = _ at f3
        change u 4 = _ at f4
        change u 5 = _ at f5
        change u 6 = _ at f6
        change u 7 = _ at f7
        change u 8 = _ at f8
        change u 9 = _ at f9
        change u 10 = _ at f10
        rw [f3, f4, f5, f6, f7, f8, f9, f10]
        clear f3 f4 f5 f6 f7 f8 f9 f10 hsz
        by_cases hm2 : m < 12
        · have hm3 : (m : Int) < 12 := by omega
          have g1 : isR 12 R m j = R m j := isR_nat hm2 hj2
          have hfs := foundB_succ R lv x j m
          have c1 := hE4.cell_some (HCK.out m hm2) id
          have hmj : R m j = true → lv m < lv j := HUP.out m j
          obtain ⟨y, hy⟩ : ∃ y, lv m = y := ⟨_, rfl⟩
          obtain ⟨fd, hfd⟩ : ∃ fd, foundB R lv x j m = fd := ⟨_, rfl⟩
          obtain ⟨fe, hfe⟩ : ∃ fe, foundB R lv x j (m + 1) = fe := ⟨_, rfl⟩
          rw [hfd, hfe, hy] at hfs
          rw [hfd]
          rw [hy] at c1 hmj
          rw [HX.out] at hmj
          have HFE := Lib.hid hfe
          clear hy hfd hfe
          cases hr : R m j
          · rw [hr] at g1 hfs
            simp only [Bool.false_and, Bool.or_false] at hfs
            have HFS := Lib.hid hfs
            have HR' := Lib.hid hr
            clear hmj hr hfs
            go_wp2_with (go_at_call 31; refine (is_R _ 12 R n64 _ ho4 _ _).mono ?_; rintro e w' ⟨rfl, rfl⟩)
            all_goals exact ⟨⟨m + 1, by omega, by first | rfl | trivial, by first | rfl | trivial, ⟨rfl, rfl, rfl, rfl, rfl, rfl, rfl, by rw [HFE.out, HFS.out]; rfl, rfl⟩⟩, by simp [intOf]; omega⟩
          · have hyx := hmj hr
            rw [hr] at g1 hfs
            simp only [Bool.true_and] at hfs
            have q1 : ¬ (x : Int) ≤ (y : Int) := by omega
            have hw : IntKind.i64.wrap ((x : Int) - 1) = (x : Int) - 1 := IntWalk.i64_in _ (by omega)
            have q2 : ((y : Int) == (x : Int) - 1) = (y + 1 == x) := by apply Bool.eq_iff_iff.2; simp only [beq_iff_eq]; omega
            have HR' := Lib.hid hr
            have HYX := Lib.hid hyx
            clear hmj hr
            cases fd
            · simp only [Bool.false_or] at hfs
              rw [← hfs] at q2
              have HFS := Lib.hid hfs
              clear hfs
              go_wp2_with (go_at_call 31; refine (is_R _ 12 R n64 _ ho4 _ _).mono ?_; rintro e w' ⟨rfl, rfl⟩)
              all_goals exact ⟨⟨m + 1, by omega, by first | rfl | trivial, by first | rfl | trivial, ⟨rfl, rfl, rfl, rfl, rfl, rfl, rfl, by rw [HFE.out]; rfl, rfl⟩⟩, by simp [intOf]; omega⟩
            · simp only [Bool.true_or] at hfs
              have HFS := Lib.hid hfs
              clear hfs
              go_wp2_with (go_at_call 31; refine (is_R _ 12 R n64 _ ho4 _ _).mono ?_; rintro e w' ⟨rfl, rfl⟩)
              all_goals exact ⟨⟨m + 1, by omega, by first | rfl | trivial, by first | rfl | trivial, ⟨rfl, rfl, rfl, rfl, rfl, rfl, rfl, by rw [HFE.out, HFS.out]; rfl, rfl⟩⟩, by simp [intOf]; omega⟩
        · have hmm : m = 12 := by omega
          have hft := HFO.out j hj2
          rw [HX.out, ← hmm] at hft
          rw [hft]
          have HMM := Lib.hid hmm
          clear hmm hft
          go_wp2
          exact ⟨⟨j + 1, _, by omega, hE4, by first | rfl | trivial, ⟨rfl, rfl, rfl, rfl, rfl, rfl, rfl⟩, HO.out⟩, by simp [intOf]; omega⟩
      · have t1 : ((x : Int) != (i : Int)) = true := by simp; omega
        have hM3 : byLev 12 lv i ++ (List.range (j + 1)).filter (fun b => lv b == i) = M := HM2.out.trans (by simp [hxi])
        rw [← hM3] at hO
        have HO := Lib.hid hO
        clear hM3 hO HM2 HM
        go_wp2
        exact ⟨⟨j + 1, _, by omega, hEW, by first | rfl | trivial, ⟨rfl, rfl, rfl, rfl, rfl, rfl, rfl⟩, HO.out⟩, by simp [intOf]; omega⟩
    · have hjj : j = 12 := by omega
      have HJ := Lib.hid hjj
      have hb := byLev_succ 12 lv i
      rw [show List.range 12 = List.range j by rw [hjj]] at hb
      rw [← hb] at hO
      have HO := Lib.hid hO
      clear hjj hb hO
      go_wp2
      exact ⟨⟨i + 1, _, by omega, hEW, by first | rfl | trivial, ⟨rfl, rfl, rfl, rfl, rfl, rfl⟩, HO.out⟩, by simp [intOf]; omega⟩
  · obtain rfl : i = 12 := by omega
    have hRd := Rd.of_own hO
    have hoW := ho3.keep hEW id
    have hRF := HRF.out.ext hEW
    obtain ⟨ao, cp, rfl⟩ := own_slice hO
    rw [HBL.out] at hRd ⊢
    rw [HLF.out] at hRF
    clear hO
    go_wp2_with fail
    refine (allows_any _ 12 R n64 W hoW _ (zs (byLev 12 lv 12)) (by rw [zs_length, HBL.out]; exact hRd)).mono ?_
    rintro e _ ⟨rfl, rfl⟩
    rw [HA2.out]
    go_wp2_with fail
    refine (allows_any _ 12 R n64 W hoW _ (zs (firstL 12 R)) (by rw [zs_length, HLF.out]; exact hRF)).mono ?_
    rintro e _ ⟨rfl, rfl⟩
    rw [HA1.out]
    clear hRd hRF hoW
    go_wp2
    refine wp_loop (fun a W => ∃ (k : Nat), 1 ≤ k ∧ k ≤ 12 ∧ Ext w3 W ∧ a.defers = [] ∧ (a.tmps.size = 133 ∧ a.tmps.getD 3 undef = .pointer (some ⟨w.heap.size, 0, none⟩) ∧ a.tmps.getD 5 undef = .slice (some ⟨gf, of, none⟩) 12 cf ∧ a.tmps.getD 15 undef = .int .i64 k))
      (fun a _ => 12 - (intOf (a.tmps.getD 15 undef)).toNat) ?_ ?_
    · exact ⟨1, by omega, by omega, hEW, rfl, rfl, rfl, rfl, rfl⟩
    clear hEW
    rintro ⟨t, _⟩ W ⟨k, hk1, hk, hEW, hds, ⟨hsz, f3, f5, f15⟩⟩
    subst hds
    obtain ⟨u', hu⟩ := frame_fun hsz
    obtain ⟨u, rfl⟩ : ∃ x, x = u' := ⟨_, rfl⟩
    have hu' : t = #[u 0, u 1, u 2, u 3, u 4, u 5, u 6, u 7, u 8, u 9, u 10, u 11, u 12, u 13, u 14, u 15, u 16, u 17, u 18, u 19, u 20, u 21, u 22, u 23, u 24, u 25, u 26, u 27, u 28, u 29, u 30, u 31, u 32, u 33, u 34, u 35, u 36, u 37, u 38, u 39, u 40, u 41, u 42, u 43, u 44, u 45, u 46, u 47, u 48, u 49, u 50, u 51, u 52, u 53, u 54, u 55, u 56, u 57, u 58, u 59, u 60, u 61, u 62, u 63, u 64, u 65, u 66, u 67, u 68, u 69, u 70, u 71, u 72, u 73, u 74, u 75, u 76, u 77, u 78, u 79, u 80, u 81, u 82, u 83, u 84, u 85, u 86, u 87, u 88, u 89, u 90, u 91, u 92, u 93, u 94, u 95, u 96, u 97, u 98, u 99, u 100, u 101, u 102, u 103, u 104, u 105, u 106, u 107, u 108, u 109, u 110, u 111, u 112, u 113, u 114, u 115, u 116, u 117, u 118, u 119, u 120, u 121, u 122, u 123, u 124, u 125, u 126, u 127, u 128, u 129, u 130, u 131, u 132] := hu
    clear hu
    subst hu'
    change u 3 = _ at f3
    change u 5 = _ at f5
    change u 15 = _ at f15
    rw [f3, f5, f15]
    clear f3 f5 f15 hsz
    have hoW := ho3.keep hEW id
    by_cases hk2 : k < 12
    · have hk3 : (k : Int) < 12 := by omega
      obtain ⟨j, rfl⟩ : ∃ j, k = j + 1 := ⟨k - 1, by omega⟩
      have l1 : j < (firstL 12 R).length := by rw [HLF.out]; omega
      have l2 : j + 1 < (firstL 12 R).length := by rw [HLF.out]; omega
      have c1 := hEW.cell_some (HCF.out j (by omega)) id
      have c2 := hEW.cell_some (HCF.out (j + 1) (by omega)) id
      obtain ⟨x, hx⟩ : ∃ x, (firstL 12 R)[j] = x := ⟨_, rfl⟩
      obtain ⟨y, hy⟩ : ∃ y, (firstL 12 R)[j + 1] = y := ⟨_, rfl⟩
      have hxn : x < 12 := firstL_lt hRel x (by rw [← hx]; exact List.getElem_mem l1)
      have hyn : y < 12 := firstL_lt hRel y (by rw [← hy]; exact List.getElem_mem l2)
      have g1 : (ints (zs (firstL 12 R))).getD j undef = .int .i64 x := by simp [ints, zs, List.getD_eq_getElem?_getD, l1, hx]
      have g2 : (ints (zs (firstL 12 R))).getD (j + 1) undef = .int .i64 y := by simp [ints, zs, List.getD_eq_getElem?_getD, l2, hy]
      rw [g1] at c1
      rw [g2] at c2
      have hst : y < x → R x y = true := first_steps (i := j) (by rw [List.getElem?_eq_getElem l1, hx]) (by rw [List.getElem?_eq_getElem l2, hy])
      have hD : ∀ m, OrdR (W.drewN m) w.heap.size 12 R := fun m => hoW.keep ((Turn.refl (fun _ => False) W).drewN m) id
      have hw2 : IntKind.i64.wrap (j : Int) = (j : Int) := IntWalk.i64_in _ (by omega)
      have hw : IntKind.i64.wrap ((j : Int) + 1 - 1) = (j : Int) := by rw [show (j : Int) + 1 - 1 = j by omega]; exact hw2
      have hj3 : (j : Int) < 12 := by omega
      have hj5 : (0 : Int) ≤ (j : Int) + 1 := by omega
      have hj6 : (j : Int) + 1 < 12 := by omega
      by_cases hyx : y < x
      · have i1 : isR 12 R x y = true := by rw [isR_nat hxn hyn]; exact hst hyx
        have hcall : ∀ m, Calls Tryd.prog 31 #[.pointer (some ⟨w.heap.size, 0, none⟩), .int .i64 x, .int .i64 y] (W.drewN m) fun e w' => e = .returned (.bool true) ∧ w' = W.drewN m := fun m =>
          (is_R _ 12 R n64 _ (hD m) x y).mono fun e w' ⟨h1, h2⟩ => ⟨by rw [h1, i1], h2.symm⟩
        have HC := Lib.hid hcall
        have t1 : (y : Int) < (x : Int) := by omega
        clear hcall hD hst hx hy g1 g2 i1
        go_wp2
        go_quiet ((go_at_call 31; exact Calls.quiet_of_same (HC.out _)))
        go_wp2
        exact ⟨⟨j + 1 + 1, by omega, by omega, hEW.drewN _, by first | rfl | trivial, ⟨rfl, rfl, rfl, rfl⟩⟩, by simp [intOf]; omega⟩
      · have t1 : x ≤ y := by omega
        have t2 : decide ((y : Int) < (x : Int)) = false := decide_eq_false (by omega)
        clear hD hst hx hy g1 g2 t1
        go_wp2
        go_quiet (fail)
        go_wp2
        exact ⟨⟨j + 1 + 1, by omega, by omega, hEW.drewN _, by first | rfl | trivial, ⟨rfl, rfl, rfl, rfl⟩⟩, by simp [intOf]; omega⟩
    · go_wp2_with fail
      refine (works_any W (hT3.keep hEW id)).mono ?_
      rintro e wh ⟨rfl, hEh⟩
      go_wp2
      go_ret
      exact ⟨rfl, (hE03.trans hEW).trans hEh⟩

theorem levels_card (w : World) (hT : Tab w) (v : Value) (l : List (Int × Int)) (hv : Rd w v l.length 2 (prsK .u8 l)) (hl : ∀ p ∈ l, (Lit.int .u8 p.1).wf = true ∧ (Lit.int .u8 p.2).wf = true) :
    Calls Tryd.prog 5 #[v] w fun e w' => e = .returned (.bool true) ∧ Ext w w' := by
  obtain ⟨m, h1, h2, h3⟩ := nat_pairs hl
  rw [← h1, h2] at hv
  exact levels_law w hT v m hv h3
end Go.Proofs.YtnnnbmkhgcpjoaaDoor
