/- PLAIN: the first order is possible; levels; the events by their levels are a possible order. -/
import Derived.Test.YtnnnbmkhgcpjoaaDoorLevels
import Derived.Test.YtnnnbmkhgcpjoaaDoorAllows
import Derived.Test.YtnnnbmkhgcpjoaaDoorClose
namespace Go.Proofs.YtnnnbmkhgcpjoaaDoor
open Go.RowKit Go.Ab

theorem snoc_ind {α : Type} {p : List α → Prop} (h0 : p []) (h1 : ∀ l x, p l → p (l ++ [x])) : ∀ l, p l := by
  intro l
  rw [← List.reverse_reverse l]
  induction l.reverse with
  | nil => exact h0
  | cons x m ih => rw [List.reverse_cons]; exact h1 _ _ ih
theorem nodup_le : ∀ (n : Nat) (l : List Nat), l.Nodup → (∀ x ∈ l, x < n) → l.length ≤ n
  | 0, l, _, h => by
    cases l with
    | nil => simp
    | cons x l => have := h x (List.mem_cons_self ..); omega
  | n + 1, l, hd, h => by
    have h1 := nodup_le n (l.erase n) (hd.erase n) fun x hx => by
      have h2 := (List.Nodup.mem_erase_iff hd).1 hx
      have := h x h2.2
      omega
    by_cases hn : n ∈ l
    · rw [List.length_erase_of_mem hn] at h1; omega
    · rw [List.erase_of_not_mem hn] at h1; omega

/-- Each element was the next one. -/
def Good (n : Nat) (R : Bin) (l : List Nat) : Prop := ∀ pre x post, l = pre ++ x :: post → nextR n R pre = some x
theorem split_snoc {α : Type} {l pre post : List α} {x y : α} (h : l ++ [x] = pre ++ y :: post) : (post = [] ∧ pre = l ∧ y = x) ∨ ∃ q, post = q ++ [x] ∧ l = pre ++ y :: q := by
  rcases List.eq_nil_or_concat post with rfl | ⟨q, z, rfl⟩
  · have h1 := List.append_inj' h rfl
    exact .inl ⟨rfl, h1.1.symm, by simpa using h1.2.symm⟩
  · right
    have e : pre ++ y :: (q ++ [z]) = (pre ++ y :: q) ++ [z] := by simp
    rw [List.concat_eq_append, e] at h
    have h1 := List.append_inj' h rfl
    have hz : x = z := by simpa using h1.2
    exact ⟨q, by simp [hz], h1.1⟩
theorem Good.nil (n : Nat) (R : Bin) : Good n R [] := fun pre x post h => by simp at h
theorem Good.snoc {n : Nat} {R : Bin} {l : List Nat} {x : Nat} (h : Good n R l) (hx : nextR n R l = some x) : Good n R (l ++ [x]) := by
  intro pre y post e
  rcases split_snoc e with ⟨_, rfl, rfl⟩ | ⟨q, _, e'⟩
  · exact hx
  · exact h pre y q e'
theorem firstGo_good {n : Nat} {R : Bin} : ∀ (k : Nat) (l : List Nat), Good n R l → Good n R (firstGo n R k l)
  | 0, l, h => h
  | k + 1, l, h => by
    unfold firstGo
    split
    · rename_i x hx; exact firstGo_good k _ (h.snoc hx)
    · exact h
theorem firstL_good (n : Nat) (R : Bin) : Good n R (firstL n R) := firstGo_good n [] (Good.nil n R)
theorem firstGo_length {n : Nat} {R : Bin} (hR : Rel n R) : ∀ (k : Nat) (l : List Nat), l.length + k ≤ n → (firstGo n R k l).length = l.length + k
  | 0, l, _ => rfl
  | k + 1, l, h => by
    obtain ⟨x, hx⟩ := nextR_some hR (l := l) (by omega)
    rw [firstGo, hx]
    simp only []
    rw [firstGo_length hR k _ (by simp; omega)]
    simp; omega
theorem firstL_length {n : Nat} {R : Bin} (hR : Rel n R) : (firstL n R).length = n := by
  rw [firstL, firstGo_length hR n [] (by simp)]; simp

/-- Each element lies below n, was not there, and all before it were. -/
def Topo (n : Nat) (R : Bin) (l : List Nat) : Prop := ∀ pre x post, l = pre ++ x :: post → x < n ∧ rdy n R pre x = true
theorem Good.topo {n : Nat} {R : Bin} {l : List Nat} (h : Good n R l) : Topo n R l := fun pre x post e => by
  have := nextR_spec (h pre x post e)
  exact ⟨this.1, this.2.1⟩
theorem Topo.front {n : Nat} {R : Bin} {l m : List Nat} (h : Topo n R (l ++ m)) : Topo n R l := fun pre x post e => h pre x (post ++ m) (by rw [e]; simp)
theorem Topo.allows {n : Nat} {R : Bin} : ∀ {l : List Nat}, Topo n R l → alGo n R (zs l) [] true = some (l, true) := by
  intro l
  refine snoc_ind (p := fun l => Topo n R l → alGo n R (zs l) [] true = some (l, true)) ?_ ?_ l
  · intro _; rfl
  · intro l x ih h
    obtain ⟨hx, hr⟩ := h l x [] rfl
    rw [zs_append, alGo_append, ih h.front]
    simp only [rdy, Bool.and_eq_true] at hr
    have e1 : isEv (n : Int) (x : Int) = true := isEv_true (by omega) (by omega)
    simp only [Option.bind_some, zs, List.map_cons, List.map_nil, alGo, e1, Int.toNat_natCast, hr.1, hr.2, Bool.and_self, if_true]
theorem Topo.allowsR {n : Nat} {R : Bin} {l : List Nat} (h : Topo n R l) (hl : l.length = n) : allowsR n R (zs l) = (true, 0) := by
  simp only [Go.Proofs.YtnnnbmkhgcpjoaaDoor.allowsR, h.allows, zs_length, hl, if_true]
theorem first_allows {n : Nat} {R : Bin} (hR : Rel n R) : allowsR n R (zs (firstL n R)) = (true, 0) := (firstL_good n R).topo.allowsR (firstL_length hR)

theorem rdy_iff {n : Nat} {R : Bin} {l : List Nat} {x : Nat} : rdy n R l x = true ↔ x ∉ l ∧ ∀ a, a < n → R a x = true → a ∈ l := by
  simp only [rdy, Bool.and_eq_true, Bool.not_eq_true', List.all_eq_true, List.mem_range, Bool.or_eq_true]
  constructor
  · rintro ⟨h1, h2⟩
    refine ⟨by simpa using h1, fun a ha hr => ?_⟩
    rcases h2 a ha with h | h
    · rw [hr] at h; cases h
    · simpa using h
  · rintro ⟨h1, h2⟩
    refine ⟨by simpa using h1, fun a ha => ?_⟩
    cases hr : R a x with
    | false => exact .inl rfl
    | true => right; simpa using h2 a ha hr

/-- Two neighbours of the first order: the first one is the smaller, or was before the other. -/
theorem first_steps {n : Nat} {R : Bin} {i : Nat} {x y : Nat} (hx : (firstL n R)[i]? = some x) (hy : (firstL n R)[i + 1]? = some y) (hlt : y < x) : R x y = true := by
  obtain ⟨h1, rfl⟩ := List.getElem?_eq_some_iff.1 hx
  obtain ⟨h2, rfl⟩ := List.getElem?_eq_some_iff.1 hy
  have e1 : firstL n R = (firstL n R).take i ++ (firstL n R)[i] :: ((firstL n R)[i + 1] :: (firstL n R).drop (i + 2)) := by
    rw [← List.drop_eq_getElem_cons, ← List.drop_eq_getElem_cons, List.take_append_drop]
  have e2 : firstL n R = ((firstL n R).take i ++ [(firstL n R)[i]]) ++ (firstL n R)[i + 1] :: (firstL n R).drop (i + 2) := by
    rw [List.append_assoc]; exact e1
  have g1 := nextR_spec (firstL_good n R _ _ _ e1)
  have g2 := nextR_spec (firstL_good n R _ _ _ e2)
  have hno := g1.2.2 _ hlt
  have hyes := rdy_iff.1 g2.2.1
  generalize (firstL n R)[i] = x at *
  generalize (firstL n R)[i + 1] = y at *
  generalize (firstL n R).take i = pre at *
  have : ¬ (y ∉ pre ∧ ∀ a, a < n → R a y = true → a ∈ pre) := fun h => by rw [rdy_iff.2 h] at hno; cases hno
  cases hxy : R x y with
  | true => rfl
  | false =>
    exfalso
    apply this
    refine ⟨fun h => hyes.1 (by simp [h]), fun a ha hr => ?_⟩
    have := hyes.2 a ha hr
    rcases List.mem_append.1 this with h | h
    · exact h
    · rw [List.mem_singleton.1 h, hxy] at hr; cases hr

/-! ### Levels -/

theorem levF_snoc (n : Nat) (R : Bin) (l : List Nat) (b : Nat) : levF n R (l ++ [b]) = upd (levF n R l) b (levAt n R (levF n R l) b ((List.range n).filter fun a => R a b)) := by
  simp [levF, levStep]
theorem levAt_spec (lv : Nat → Nat) : ∀ (l : List Nat) (i : Nat), i ≤ l.foldl (fun m a => max m (lv a + 1)) i ∧ (∀ a ∈ l, lv a < l.foldl (fun m a => max m (lv a + 1)) i) ∧ (l.foldl (fun m a => max m (lv a + 1)) i = i ∨ ∃ a ∈ l, l.foldl (fun m a => max m (lv a + 1)) i = lv a + 1)
  | [], i => ⟨Nat.le_refl _, by simp, .inl rfl⟩
  | a :: l, i => by
    obtain ⟨h1, h2, h3⟩ := levAt_spec lv l (max i (lv a + 1))
    simp only [List.foldl_cons]
    refine ⟨by omega, fun c hc => ?_, ?_⟩
    · rcases List.mem_cons.1 hc with rfl | hc
      · omega
      · exact h2 c hc
    · rcases h3 with h3 | ⟨c, hc, h3⟩
      · rcases Nat.le_total i (lv a + 1) with h | h
        · exact .inr ⟨a, List.mem_cons_self .., by rw [h3, Nat.max_eq_right h]⟩
        · exact .inl (by rw [h3, Nat.max_eq_left h])
      · exact .inr ⟨c, List.mem_cons_of_mem _ hc, h3⟩

theorem lev_spec {n : Nat} {R : Bin} (hR : Rel n R) : ∀ {l : List Nat}, Topo n R l →
    (∀ b, b ∉ l → levF n R l b = 0) ∧ (∀ b ∈ l, levF n R l b < l.length) ∧ (∀ a b, b ∈ l → R a b = true → levF n R l a < levF n R l b) ∧ (∀ b, b ∈ l → levF n R l b ≠ 0 → ∃ a, a < n ∧ R a b = true ∧ levF n R l a + 1 = levF n R l b) := by
  intro l
  refine snoc_ind (p := fun l => Topo n R l →
    (∀ b, b ∉ l → levF n R l b = 0) ∧ (∀ b ∈ l, levF n R l b < l.length) ∧ (∀ a b, b ∈ l → R a b = true → levF n R l a < levF n R l b) ∧ (∀ b, b ∈ l → levF n R l b ≠ 0 → ∃ a, a < n ∧ R a b = true ∧ levF n R l a + 1 = levF n R l b)) ?_ ?_ l
  · intro _; exact ⟨fun _ _ => rfl, by simp, by simp, by simp⟩
  · intro l x ih h
    obtain ⟨hx, hr⟩ := h l x [] rfl
    obtain ⟨hxl, hpre⟩ := rdy_iff.1 hr
    obtain ⟨i1, i2, i3, i4⟩ := ih h.front
    rw [levF_snoc]
    generalize levF n R l = lv at *
    have hsp := levAt_spec lv ((List.range n).filter fun a => R a x) (lv x)
    rw [i1 x hxl] at hsp
    have hat : levAt n R lv x ((List.range n).filter fun a => R a x) = ((List.range n).filter fun a => R a x).foldl (fun m a => max m (lv a + 1)) 0 := by rw [levAt, i1 x hxl]
    rw [hat]
    generalize ((List.range n).filter fun a => R a x).foldl (fun m a => max m (lv a + 1)) 0 = v at *
    obtain ⟨_, s2, s3⟩ := hsp
    have hpx : ∀ a, R a x = true → a ∈ l ∧ a ≠ x := fun a ha => ⟨hpre a (hR.dom _ _ ha).1 ha, fun e => by rw [e, hR.irr] at ha; cases ha⟩
    have hold : ∀ y, y ≠ x → upd lv x v y = lv y := fun y hy => by simp [upd, hy]
    have hnew : upd lv x v x = v := by simp [upd]
    have hne : ∀ y ∈ l, y ≠ x := fun y hy e => hxl (e ▸ hy)
    refine ⟨fun b hb => ?_, fun b hb => ?_, fun a b hb hab => ?_, fun b hb h0 => ?_⟩
    · simp only [List.mem_append, List.mem_singleton, not_or] at hb
      rw [hold b hb.2]; exact i1 b hb.1
    · simp only [List.length_append, List.length_cons, List.length_nil]
      rcases List.mem_append.1 hb with hb | hb
      · rw [hold b (hne b hb)]; have := i2 b hb; omega
      · rw [List.mem_singleton.1 hb, hnew]
        rcases s3 with s3 | ⟨a, ha, s3⟩
        · omega
        · rw [List.mem_filter] at ha
          have := i2 a (hpx a ha.2).1
          omega
    · rcases List.mem_append.1 hb with hb1 | hb1
      · have hb := hb1
        have hax : a ≠ x := fun e => by
          -- x lies before b, but b came first
          subst e
          obtain ⟨p, q, e⟩ := List.append_of_mem hb1
          have := rdy_iff.1 (h.front p b q e).2
          exact hxl (by rw [e]; exact List.mem_append_left _ (this.2 a hx hab))
        rw [hold a hax, hold b (hne b hb)]; exact i3 a b hb hab
      · obtain rfl := List.mem_singleton.1 hb1
        rw [hnew, hold a (hpx a hab).2]
        exact s2 a (List.mem_filter.2 ⟨List.mem_range.2 (hR.dom _ _ hab).1, hab⟩)
    · rcases List.mem_append.1 hb with hb1 | hb1
      · have hb := hb1
        rw [hold b (hne b hb)] at h0 ⊢
        obtain ⟨a, ha, hab, he⟩ := i4 b hb h0
        refine ⟨a, ha, hab, ?_⟩
        have hax : a ≠ x := fun e => by
          subst e
          obtain ⟨p, q, e⟩ := List.append_of_mem hb1
          have := rdy_iff.1 (h.front p b q e).2
          exact hxl (by rw [e]; exact List.mem_append_left _ (this.2 a hx hab))
        rw [hold a hax]; exact he
      · obtain rfl := List.mem_singleton.1 hb1
        rw [hnew] at h0 ⊢
        rcases s3 with s3 | ⟨a, ha, s3⟩
        · exact absurd s3 h0
        · rw [List.mem_filter, List.mem_range] at ha
          exact ⟨a, ha.1, ha.2, by rw [hold a (hpx a ha.2).2]; exact s3.symm⟩

theorem first_mem {n : Nat} {R : Bin} (hR : Rel n R) {b : Nat} (hb : b < n) : b ∈ firstL n R := by
  apply Classical.byContradiction
  intro hno
  have hnd : (firstL n R).Nodup := by
    rw [List.nodup_iff_pairwise_ne, List.pairwise_iff_getElem]
    intro i j hi hj hij e
    have e1 : firstL n R = (firstL n R).take j ++ (firstL n R)[j] :: (firstL n R).drop (j + 1) := by
      rw [← List.drop_eq_getElem_cons, List.take_append_drop]
    have g := rdy_iff.1 ((firstL_good n R).topo _ _ _ e1).2
    apply g.1
    rw [← e]
    exact List.mem_take_iff_getElem.2 ⟨i, by omega, rfl⟩
  have hsub : (b :: firstL n R).Nodup := List.nodup_cons.2 ⟨hno, hnd⟩
  have hs : ∀ x ∈ b :: firstL n R, x < n := by
    intro x hx
    rcases List.mem_cons.1 hx with rfl | hx
    · exact hb
    · exact firstL_lt hR x hx
  have := nodup_le n _ hsub hs
  simp [firstL_length hR] at this
  omega

/-- The levels. -/
def lvl (n : Nat) (R : Bin) : Nat → Nat := levF n R (firstL n R)
theorem lvl_lt {n : Nat} {R : Bin} (hR : Rel n R) {b : Nat} (hb : b < n) : lvl n R b < n := by
  have := (lev_spec hR (firstL_good n R).topo).2.1 b (first_mem hR hb)
  rwa [firstL_length hR] at this
theorem lvl_up {n : Nat} {R : Bin} (hR : Rel n R) {a b : Nat} (h : R a b = true) : lvl n R a < lvl n R b :=
  (lev_spec hR (firstL_good n R).topo).2.2.1 a b (first_mem hR (hR.dom _ _ h).2) h
theorem lvl_down {n : Nat} {R : Bin} (hR : Rel n R) {b : Nat} (hb : b < n) (h : lvl n R b ≠ 0) : ∃ a, a < n ∧ R a b = true ∧ lvl n R a + 1 = lvl n R b :=
  (lev_spec hR (firstL_good n R).topo).2.2.2 b (first_mem hR hb) h

/-- The events in the order of their levels, those below k. -/
def byLev (n : Nat) (lv : Nat → Nat) (k : Nat) : List Nat := (List.range k).flatMap fun level => (List.range n).filter fun b => lv b == level
theorem byLev_succ (n : Nat) (lv : Nat → Nat) (k : Nat) : byLev n lv (k + 1) = byLev n lv k ++ (List.range n).filter fun b => lv b == k := by simp [byLev, List.range_succ]
theorem mem_byLev {n k : Nat} {lv : Nat → Nat} {b : Nat} : b ∈ byLev n lv k ↔ b < n ∧ lv b < k := by
  simp only [byLev, List.mem_flatMap, List.mem_range, List.mem_filter, beq_iff_eq]
  constructor
  · rintro ⟨c, hc, hb, rfl⟩; exact ⟨hb, hc⟩
  · rintro ⟨hb, h⟩; exact ⟨_, h, hb, rfl⟩
def lex (lv : Nat → Nat) (a b : Nat) : Prop := lv a < lv b ∨ (lv a = lv b ∧ a < b)
theorem byLev_sorted (n k : Nat) (lv : Nat → Nat) : (byLev n lv k).Pairwise (lex lv) := by
  unfold byLev
  rw [List.pairwise_flatMap]
  constructor
  · intro c _
    have hp := (List.pairwise_lt_range (n := n)).filter (fun b => lv b == c)
    rw [List.pairwise_iff_getElem] at hp ⊢
    intro i j hi hj hij
    have h1 := List.getElem_mem hi
    have h2 := List.getElem_mem hj
    simp only [List.mem_filter, beq_iff_eq] at h1 h2
    exact .inr ⟨by rw [h1.2, h2.2], hp i j hi hj hij⟩
  · refine (List.pairwise_lt_range (n := k)).imp ?_
    intro a b h x hx y hy
    simp only [List.mem_filter, beq_iff_eq] at hx hy
    exact .inl (by rw [hx.2, hy.2]; exact h)
theorem byLev_topo {n : Nat} {R : Bin} (hR : Rel n R) : Topo n R (byLev n (lvl n R) n) := by
  intro pre x post e
  have hp := byLev_sorted n n (lvl n R)
  have hx : x ∈ byLev n (lvl n R) n := by rw [e]; simp
  have hxn := (mem_byLev.1 hx).1
  rw [e, List.pairwise_append] at hp
  obtain ⟨_, h2, h3⟩ := hp
  rw [List.pairwise_cons] at h2
  refine ⟨hxn, rdy_iff.2 ⟨fun hm => ?_, fun a ha hr => ?_⟩⟩
  · rcases h3 x hm x (List.mem_cons_self ..) with h | h <;> omega
  · have hl := lvl_up hR hr
    have hm : a ∈ byLev n (lvl n R) n := mem_byLev.2 ⟨ha, lvl_lt hR ha⟩
    rw [e] at hm
    rcases List.mem_append.1 hm with hm | hm
    · exact hm
    · rcases List.mem_cons.1 hm with rfl | hm
      · omega
      · rcases h2.1 a hm with h | h <;> omega
theorem byLev_length {n : Nat} {R : Bin} (hR : Rel n R) : (byLev n (lvl n R) n).length = n := by
  have hnd : (byLev n (lvl n R) n).Nodup := by
    rw [List.nodup_iff_pairwise_ne]
    refine (byLev_sorted n n (lvl n R)).imp ?_
    intro a b h e
    subst e
    rcases h with h | h <;> omega
  have hp := (List.perm_ext_iff_of_nodup hnd (List.nodup_range (n := n))).2 fun a => by
    rw [mem_byLev, List.mem_range]
    exact ⟨fun h => h.1, fun h => ⟨h, lvl_lt hR h⟩⟩
  have := hp.length_eq
  simpa using this
theorem byLev_allows {n : Nat} {R : Bin} (hR : Rel n R) : allowsR n R (zs (byLev n (lvl n R) n)) = (true, 0) := (byLev_topo hR).allowsR (byLev_length hR)
theorem byLev_le (n k : Nat) (lv : Nat → Nat) : (byLev n lv k).length ≤ k * n := by
  induction k with
  | zero => simp [byLev]
  | succ k ih =>
    rw [byLev_succ, List.length_append, Nat.succ_mul]
    have := List.length_filter_le (fun b => lv b == k) (List.range n)
    simp at this; omega
end Go.Proofs.YtnnnbmkhgcpjoaaDoor
