/- PLAIN: the relations that are said, and all that follows: the least transitive relation. -/
import Derived.Test.YtnnnbmkhgcpjoaaDoorRel
namespace Go.Ab

abbrev Bin := Nat → Nat → Bool
def Sub (R Q : Bin) : Prop := ∀ a b, R a b = true → Q a b = true
def Trans (Q : Bin) : Prop := ∀ a b c, Q a b = true → Q b c = true → Q a c = true
theorem Sub.antisymm {R Q : Bin} (h : Sub R Q) (k : Sub Q R) : R = Q := by
  funext a b
  cases h1 : R a b <;> cases h2 : Q a b <;> try rfl
  · have := k a b h2; rw [h1] at this; cases this
  · have := h a b h1; rw [h2] at this; cases this

theorem addR_sub (R : Bin) (x y : Nat) : Sub R (addR R x y) := fun a b h => by simp [addR, h]
theorem addR_mem (R : Bin) (x y : Nat) : addR R x y x y = true := by simp [addR]
theorem addR_least {R Q : Bin} {x y : Nat} (h : Sub R Q) (hq : Q x y = true) (ht : Trans Q) : Sub (addR R x y) Q := by
  intro a b hab
  simp only [addR, Bool.or_eq_true, Bool.and_eq_true, beq_iff_eq] at hab
  rcases hab with hab | ⟨h1, h2⟩
  · exact h a b hab
  · have ha : Q a y = true := by
      rcases h1 with rfl | h1
      · exact hq
      · exact ht a x y (h a x h1) hq
    rcases h2 with rfl | h2
    · exact ha
    · exact ht a y b ha (h y b h2)
theorem addR_same {n : Nat} {R : Bin} (hR : Rel n R) {x y : Nat} (h : R x y = true) : addR R x y = R :=
  Sub.antisymm (addR_least (fun _ _ h => h) h hR.tr) (addR_sub R x y)

/-- All that the pairs say, on top of R. -/
def addL (R : Bin) (l : List (Nat × Nat)) : Bin := l.foldl (fun R p => addR R p.1 p.2) R
theorem addL_snoc (R : Bin) (l : List (Nat × Nat)) (p : Nat × Nat) : addL R (l ++ [p]) = addR (addL R l) p.1 p.2 := by simp [addL]
theorem addL_sub (l : List (Nat × Nat)) : ∀ R, Sub R (addL R l) := by
  induction l with
  | nil => exact fun R a b h => h
  | cons p l ih => exact fun R a b h => ih _ a b (addR_sub R p.1 p.2 a b h)
theorem addL_mem (l : List (Nat × Nat)) : ∀ R, ∀ p ∈ l, addL R l p.1 p.2 = true := by
  induction l with
  | nil => intro R p h; cases h
  | cons q l ih =>
    intro R p h
    rcases List.mem_cons.1 h with rfl | h
    · exact addL_sub l _ _ _ (addR_mem R p.1 p.2)
    · exact ih _ p h
theorem addL_least {Q : Bin} (ht : Trans Q) (l : List (Nat × Nat)) : ∀ R, Sub R Q → (∀ p ∈ l, Q p.1 p.2 = true) → Sub (addL R l) Q := by
  induction l with
  | nil => exact fun R h _ => h
  | cons p l ih => exact fun R h hl => ih _ (addR_least h (hl p (List.mem_cons_self ..)) ht) fun q hq => hl q (List.mem_cons_of_mem _ hq)

/-- The empty relation. -/
def noR : Bin := fun _ _ => false
theorem noR_sub (Q : Bin) : Sub noR Q := fun _ _ h => by cases h

/-- Where all pairs lie in a strict order, each can be said, and a strict order comes of it. -/
theorem addL_rel {n : Nat} {Q : Bin} (hQ : Rel n Q) (l : List (Nat × Nat)) (hl : ∀ p ∈ l, Q p.1 p.2 = true) : Rel n (addL noR l) ∧ Sub (addL noR l) Q := by
  have hs : ∀ l' : List (Nat × Nat), (∀ p ∈ l', Q p.1 p.2 = true) → Sub (addL noR l') Q := fun l' h => addL_least hQ.tr l' _ (noR_sub Q) h
  refine ⟨?_, hs l hl⟩
  have aux : ∀ (m : List (Nat × Nat)) (R : Bin), Rel n R → Sub R Q → (∀ p ∈ m, Q p.1 p.2 = true) → Rel n (addL R m) := by
    intro m
    induction m with
    | nil => exact fun R h _ _ => h
    | cons p m ih =>
      intro R h hsub hm
      have hp := hm p (List.mem_cons_self ..)
      have hd := hQ.dom _ _ hp
      have hne : p.1 ≠ p.2 := fun e => by rw [e, hQ.irr] at hp; cases hp
      have hno : R p.2 p.1 = false := by
        cases hh : R p.2 p.1 with
        | false => rfl
        | true => have := hQ.asym hp; rw [hsub _ _ hh] at this; cases this
      exact ih _ (addR_rel h hd.1 hd.2 hne hno) (addR_least hsub hp hQ.tr) fun q hq => hm q (List.mem_cons_of_mem _ hq)
  exact aux l noR (Rel.empty n) (noR_sub Q) hl

theorem addL_perm {n : Nat} {Q : Bin} (hQ : Rel n Q) (l m : List (Nat × Nat)) (hl : ∀ p ∈ l, Q p.1 p.2 = true) (h : ∀ p, p ∈ l ↔ p ∈ m) : addL noR l = addL noR m := by
  have h1 := addL_rel hQ l hl
  have h2 := addL_rel hQ m fun p hp => hl p ((h p).2 hp)
  refine Sub.antisymm ?_ ?_
  · exact addL_least h2.1.tr l _ (noR_sub _) fun p hp => addL_mem m _ p ((h p).1 hp)
  · exact addL_least h1.1.tr m _ (noR_sub _) fun p hp => addL_mem l _ p ((h p).2 hp)

/-- The strict order of the first n numbers. -/
def ltR (n : Nat) : Bin := fun a b => decide (a < b) && decide (b < n)
theorem ltR_rel (n : Nat) : Rel n (ltR n) := by
  constructor
  · intro a b h; simp [ltR] at h; omega
  · intro a; simp [ltR]
  · intro a b c h1 h2; simp [ltR] at *; omega

/-! ### The reduction -/

/-- Nothing is between the two. -/
def isCov (n : Nat) (R : Bin) (a b : Nat) : Bool := R a b && (List.range n).all fun c => !(R a c && R c b)

/-- From the pairs between which nothing is all follow. -/
theorem cov_gen {n : Nat} {R Q : Bin} (hR : Rel n R) (hQ : Trans Q) (h : ∀ a b, isCov n R a b = true → Q a b = true) : Sub R Q := by
  have aux : ∀ (m : Nat) (a b : Nat), R a b = true → ((List.range n).filter fun c => R a c && R c b).length ≤ m → Q a b = true := by
    intro m
    induction m with
    | zero =>
      intro a b hab hm
      apply h
      rw [isCov, hab, Bool.true_and, List.all_eq_true]
      intro c hc
      have hnil : ((List.range n).filter fun c => R a c && R c b) = [] := List.eq_nil_of_length_eq_zero (by omega)
      rw [List.filter_eq_nil_iff] at hnil
      have := hnil c hc
      cases h1 : R a c <;> cases h2 : R c b <;> simp_all
    | succ m ih =>
      intro a b hab hm
      by_cases hc : isCov n R a b = true
      · exact h a b hc
      · have : ∃ c, R a c = true ∧ R c b = true := by
          apply Classical.byContradiction
          intro hno
          apply hc
          rw [isCov, hab, Bool.true_and, List.all_eq_true]
          intro c _
          cases h1 : R a c <;> cases h2 : R c b <;> simp
          exact hno ⟨c, h1, h2⟩
        obtain ⟨c, h1, h2⟩ := this
        have hcn := (hR.dom _ _ h1).2
        have lt_of : ∀ (p q : Nat → Bool), (∀ x, p x = true → q x = true) → p c = false → q c = true → ((List.range n).filter p).length < ((List.range n).filter q).length := by
          intro p q hpq hpc hqc
          have e : (List.range n).filter p = (((List.range n).filter q).erase c).filter p := by
            rw [List.Nodup.erase_eq_filter ((List.nodup_range).filter _), List.filter_filter, List.filter_filter]
            apply List.filter_congr
            intro x _
            by_cases hpx : p x = true
            · have : x ≠ c := fun e => by rw [e, hpc] at hpx; cases hpx
              simp [hpx, hpq x hpx, this]
            · simp [hpx]
          have hm' : c ∈ (List.range n).filter q := by simp [hcn, hqc]
          rw [e]
          have g1 := List.length_filter_le p (((List.range n).filter q).erase c)
          have g2 := List.length_erase_of_mem hm'
          have g3 := List.length_pos_of_mem hm'
          omega
        have k1 : ((List.range n).filter fun x => R a x && R x c).length < ((List.range n).filter fun x => R a x && R x b).length :=
          lt_of (fun x => R a x && R x c) (fun x => R a x && R x b) (fun x hx => by
            simp only [Bool.and_eq_true] at hx ⊢
            exact ⟨hx.1, hR.tr _ _ _ hx.2 h2⟩) (by simp [hR.irr]) (by simp [h1, h2])
        have k2 : ((List.range n).filter fun x => R c x && R x b).length < ((List.range n).filter fun x => R a x && R x b).length :=
          lt_of (fun x => R c x && R x b) (fun x => R a x && R x b) (fun x hx => by
            simp only [Bool.and_eq_true] at hx ⊢
            exact ⟨hR.tr _ _ _ h1 hx.1, hx.2⟩) (by simp [hR.irr]) (by simp [h1, h2])
        exact hQ a c b (ih a c h1 (by omega)) (ih c b h2 (by omega))
  exact fun a b hab => aux _ a b hab (Nat.le_refl _)

/-- Without one of them not all do. -/
theorem cov_need {n : Nat} {R : Bin} (hR : Rel n R) {x y : Nat} (hc : isCov n R x y = true) (l : List (Nat × Nat)) (hl : ∀ p ∈ l, R p.1 p.2 = true ∧ p ≠ (x, y)) : addL noR l x y = false := by
  have ht : Trans (fun a b => R a b && !(a == x && b == y)) := by
    intro a b c h1 h2
    simp only [Bool.and_eq_true, Bool.not_eq_true'] at *
    refine ⟨hR.tr _ _ _ h1.1 h2.1, ?_⟩
    by_cases e : a = x ∧ c = y
    · obtain ⟨rfl, rfl⟩ := e
      rw [isCov, Bool.and_eq_true, List.all_eq_true] at hc
      have := hc.2 b (by simpa using (hR.dom _ _ h1.1).2)
      rw [h1.1, h2.1] at this; simp at this
    · by_cases ea : a = x
      · have : ¬ c = y := fun ec => e ⟨ea, ec⟩
        simp [this]
      · simp [ea]
  have := addL_least ht l noR (noR_sub _) fun p hp => by
    obtain ⟨h1, h2⟩ := hl p hp
    simp only [h1, Bool.true_and, Bool.not_eq_true', Bool.and_eq_false_iff, beq_eq_false_iff_ne]
    by_cases e : p.1 = x
    · exact .inr fun e2 => h2 (Prod.ext e e2)
    · exact .inl e
  cases h : addL noR l x y with
  | false => rfl
  | true => have := this _ _ h; simp at this
end Go.Ab
