/- pats.empty, Empty. -/
import Derived.Test.YtapfoaiibjdfnaaDoorHas
namespace Go.Proofs.YtapfoaiibjdfnaaDoor
open Go.RowKit Go.Ab
attribute [local go_sem] Oper.semAt_some wide_fn wide_depth

mutual
/-- Does a valid pattern match nothing between two sounds? -/
def emptyP : Pat → Bool
  | .node k _ _ _ mn _ l => if k = 0 then true else if k = 3 then allE l else if k = 4 then anyE l else if k = 5 then mn == 0 || headE l else false
def allE : List Pat → Bool
  | [] => true
  | p :: l => emptyP p && allE l
def anyE : List Pat → Bool
  | [] => false
  | p :: l => emptyP p || anyE l
def headE : List Pat → Bool
  | [] => false
  | p :: _ => emptyP p
end
theorem emptyP_eq (k : Int) (pl mi : Nat) (nt : Bool) (mn mx : Int) (l : List Pat) : emptyP (.node k pl mi nt mn mx l) = if k = 0 then true else if k = 3 then allE l else if k = 4 then anyE l else if k = 5 then mn == 0 || headE l else false := by
  unfold emptyP; rfl
theorem anyE_eq (l : List Pat) : anyE l = l.any emptyP := by
  induction l with
  | nil => rfl
  | cons p l ih => unfold anyE; rw [ih]; rfl
theorem allE_eq (l : List Pat) : allE l = !(l.any fun p => !emptyP p) := by
  induction l with
  | nil => rfl
  | cons p l ih => unfold allE; rw [ih, List.any_cons, Bool.not_or, Bool.not_not]

def EmpOk (p : Pat) : Prop := ∀ (K : Nat → Prop) (w : World) (cs : List Value), PatAt K w p cs → okPat p →
  Calls Tryd.prog 55 #[.agg cs.toArray] w fun e w' => e = .returned (.bool (emptyP p)) ∧ Ext w w'

theorem not_empty {K : Nat → Prop} {w : World} {p : Pat} {cs : List Value} (h : EmpOk p) (hp : PatAt K w p cs) (hok : okPat p) :
    Calls Tryd.prog 81 #[.agg cs.toArray] w fun e w' => e = .returned (.bool (!emptyP p)) ∧ Ext w w' := by
  have hE1 : Ext w (w.alloc (.cells cs.toArray 27)) := (Turn.refl _ w).alloc _
  have hc := h K _ cs (hp.ext hE1) hok
  obtain ⟨qo, qcap, hcq, _, _, _⟩ := patAt_cells hp
  rw [hcq] at hc ⊢
  unfold patCells at hc ⊢
  obtain ⟨eb, heb⟩ : ∃ b, emptyP p = b := ⟨_, rfl⟩
  rw [heb] at hc ⊢
  have HC := Lib.hid hc
  clear hc hcq hE1 heb
  go_enter Tryd.func81, Tryd.ntmps81
  go_wp2_with fail
  refine HC.out.mono ?_
  rintro e w2 ⟨rfl, hE⟩
  have hE2 : Ext w w2 := Turn.trans ((Turn.refl _ w).alloc _) hE
  clear hE
  cases eb
  all_goals
    go_wp2
    go_ret
    exact ⟨rfl, hE2⟩

set_option maxRecDepth 100000 in
set_option maxHeartbeats 8000000 in
theorem empty_step (k : Int) (pl mi : Nat) (nt : Bool) (mn mx : Int) (l : List Pat) (ih : ∀ p ∈ l, EmpOk p) : EmpOk (.node k pl mi nt mn mx l) := by
  intro K w cs hp hok
  have hp0 := hp
  unfold PatAt at hp
  obtain ⟨ao, cap, rfl, hpl, hmi, hlc, hcm, hl⟩ := hp
  unfold okPat at hok
  obtain ⟨hn, hl40, hoks⟩ := hok
  obtain ⟨hk0, g1, g2, g3, h5, g4⟩ := nodeE_zero hn
  clear g1 g2 g3 g4
  have hok2 := okPats_iff.1 hoks
  have hlm : l.length ≤ maxLen := Nat.le_trans hlc hcm
  have HNOT : Hid (∀ V, Ext w V → Calls Tryd.prog 80 #[.slice ao l.length cap, .func (.func 81) #[] #[]] V fun e w' => e = .returned (.bool (l.any fun p => !emptyP p)) ∧ Ext V w') :=
    Lib.hid fun V hE => contains_pat (hl.ext hE) hlm _ (enters_of Tryd.func81 (by kernel_rfl) rfl) (fun p => !emptyP p) (fun p hm cs V2 _ hp => not_empty (ih p hm) hp (hok2 p hm))
  have HANY : Hid (∀ V, Ext w V → Calls Tryd.prog 80 #[.slice ao l.length cap, .func (.func 55) #[] #[]] V fun e w' => e = .returned (.bool (l.any emptyP)) ∧ Ext V w') :=
    Lib.hid fun V hE => contains_pat (hl.ext hE) hlm _ (enters_of Tryd.func55 (by kernel_rfl) rfl) emptyP (fun p hm cs V2 _ hp => ih p hm K V2 cs hp (hok2 p hm))
  have h1 : Hid (k = 5 → ∃ (q : Pat) (g off : Nat) (c : List Value), l = [q] ∧ ao = some ⟨g, off, none⟩ ∧ g < w.heap.size ∧ w.rangeAt g off c ∧ PatAt K w q c ∧ okPat q ∧ EmpOk q) := Lib.hid fun h => by
    obtain ⟨hl1, _⟩ := h5 h
    match l, hl1 with
    | [q], _ =>
      obtain ⟨g, off, c, h2, _, h3, h4, h6⟩ := hl.get 0 (by simp)
      exact ⟨q, g, off, c, rfl, h2, h3, by simpa using h4, h6, hok2 q (by simp), ih q (by simp)⟩
  have HE : Hid (emptyP (.node k pl mi nt mn mx l) = if k = 0 then true else if k = 3 then allE l else if k = 4 then anyE l else if k = 5 then mn == 0 || headE l else false) := Lib.hid (emptyP_eq ..)
  unfold patCells
  obtain ⟨N, hN⟩ : ∃ N, l.length = N := ⟨_, rfl⟩
  have HN5 : Hid (k = 5 → 0 < N) := Lib.hid fun h => by rw [← hN]; have := (h5 h).1; omega
  rw [hN] at HNOT HANY ⊢
  have hE1 : Ext w (w.alloc (.cells #[.int .i64 k, .int .u32 (pl : Int), .int .u32 (mi : Int), .bool nt, .int .i64 mn, .int .i64 mx, .slice ao N cap] 27)) := (Turn.refl _ w).alloc _
  clear hp0 hpl hmi hlc hcm hl hn hl40 hoks h5 hok2 hlm ih hN
  by_cases hk0 : k = 0
  · rw [if_pos hk0] at HE
    subst hk0
    go_enter Tryd.func55, Tryd.ntmps55
    go_wp2
    go_ret
    exact ⟨by rw [HE.out]; rfl, hE1⟩
  · rw [if_neg hk0] at HE
    by_cases hk3 : k = 3
    · rw [if_pos hk3] at HE
      subst hk3
      have hc := HNOT.out _ hE1
      obtain ⟨eb, heb⟩ : ∃ b, (l.any fun p => !emptyP p) = b := ⟨_, rfl⟩
      rw [heb] at hc
      rw [allE_eq, heb] at HE
      have HC := Lib.hid hc
      clear hc heb
      go_enter Tryd.func55, Tryd.ntmps55
      go_wp2_with fail
      refine HC.out.mono ?_
      rintro e w2 ⟨rfl, hE⟩
      have hE2 : Ext w w2 := hE1.trans hE
      clear hE hE1
      cases eb
      all_goals
        go_wp2
        go_ret
        exact ⟨by rw [HE.out]; rfl, hE2⟩
    · rw [if_neg hk3] at HE
      by_cases hk4 : k = 4
      · rw [if_pos hk4] at HE
        subst hk4
        have hc := HANY.out _ hE1
        rw [anyE_eq] at HE
        have HC := Lib.hid hc
        clear hc
        go_enter Tryd.func55, Tryd.ntmps55
        go_wp2_with fail
        refine HC.out.mono ?_
        rintro e w2 ⟨rfl, hE⟩
        have hE2 : Ext w w2 := hE1.trans hE
        clear hE hE1
        go_wp2
        go_ret
        exact ⟨by rw [HE.out]; rfl, hE2⟩
      · rw [if_neg hk4] at HE
        by_cases hk5 : k = 5
        · rw [if_pos hk5] at HE
          have hN0 := HN5.out hk5
          obtain ⟨q, g, off, c, rfl, rfl, hg, hra, hq, hokq, hem⟩ := h1.out hk5
          subst hk5
          obtain ⟨qo, qcap, hcq, _, _, _⟩ := patAt_cells hq
          have hc := hem K _ c (hq.ext hE1) hokq
          rw [hcq] at hc
          obtain ⟨c0, c1, c2, c3, c4, c5, c6⟩ := patCells_at (rangeAt_turn hE1 hra id) hcq
          have hh : headE [q] = emptyP q := by unfold headE; rfl
          rw [hh] at HE
          obtain ⟨eb, heb⟩ : ∃ b, emptyP q = b := ⟨_, rfl⟩
          rw [heb] at hc HE
          unfold patCells at hc
          have HC := Lib.hid hc
          clear hc heb hh hcq hra hq h1 HNOT HANY hem hokq
          by_cases hm : mn = 0
          · subst hm
            go_enter Tryd.func55, Tryd.ntmps55
            go_wp2
            go_ret
            exact ⟨by rw [HE.out]; rfl, hE1⟩
          · have hm2 : (mn == 0) = false := by rw [beq_eq_false_iff_ne]; exact hm
            go_enter Tryd.func55, Tryd.ntmps55
            rw [hm2, Bool.false_or] at HE
            go_wp2_with fail
            refine HC.out.mono ?_
            rintro e w2 ⟨rfl, hE⟩
            have hE2 : Ext w w2 := hE1.trans hE
            clear hE hE1 c0 c1 c2 c3 c4 c5 c6
            go_wp2
            go_ret
            exact ⟨by rw [HE.out]; rfl, hE2⟩
        · rw [if_neg hk5] at HE
          have q0 : (k == 0) = false := by rw [beq_eq_false_iff_ne]; exact hk0
          have q3 : (k == 3) = false := by rw [beq_eq_false_iff_ne]; exact hk3
          have q4 : (k == 4) = false := by rw [beq_eq_false_iff_ne]; exact hk4
          have q5 : (k == 5) = false := by rw [beq_eq_false_iff_ne]; exact hk5
          clear h1 HNOT HANY
          go_enter Tryd.func55, Tryd.ntmps55
          go_wp2
          go_ret
          exact ⟨by rw [HE.out]; rfl, hE1⟩

mutual
theorem empty_all : ∀ p : Pat, EmpOk p
  | .node k pl mi nt mn mx l => empty_step k pl mi nt mn mx l (empty_alls l)
theorem empty_alls : ∀ l : List Pat, ∀ p ∈ l, EmpOk p
  | [], _, h => by cases h
  | q :: l, p, h => (List.mem_cons.1 h).elim (fun e => e ▸ empty_all q) (fun h => empty_alls l p h)
end

/-- pats.Empty. -/
def emptyV (p : Pat) : Bool := decide (chkP p = 0) && emptyP p
theorem isempty_any {K : Nat → Prop} {w : World} {p : Pat} {cs : List Value} (hp : PatAt K w p cs) (hK : ∀ g, K g → g < w.heap.size) (hT : Tab w) :
    Calls Tryd.prog 28 #[.agg cs.toArray] w fun e w' => e = .returned (.bool (emptyV p)) ∧ Ext w w' := by
  have hck := fun (V : World) (hE : Ext w V) => check_any (K := K) (hp.ext hE) (fun g hg => Nat.lt_of_lt_of_le (hK g hg) hE.size) (hT.keep hE id)
  have hem := fun (V : World) (hE : Ext w V) => empty_all p K V cs (hp.ext hE)
  obtain ⟨ao, cap, rfl, hlc, hcm, _⟩ := patAt_cells hp
  clear hp hlc hcm hT hK
  have HCK := Lib.hid hck; have HEM := Lib.hid hem
  clear hck hem
  obtain ⟨z, hz⟩ : ∃ z, chkP p = z := ⟨_, rfl⟩
  obtain ⟨eb, heb⟩ : ∃ b, emptyP p = b := ⟨_, rfl⟩
  have HE : Hid (emptyV p = (decide (z = 0) && eb)) := Lib.hid (by unfold emptyV; rw [hz, heb])
  have HZ := Lib.hid hz
  rw [hz] at HCK
  rw [heb] at HEM
  clear hz heb
  unfold patCells at HCK HEM ⊢
  go_enter Tryd.func28, Tryd.ntmps28
  go_wp2_with fail
  refine (HCK.out _ ((Turn.refl _ w).alloc _)).mono ?_
  rintro e w2 ⟨rfl, hE2⟩
  have hE02 : Ext w w2 := Turn.trans ((Turn.refl _ w).alloc _) hE2
  have hx : w2.heap[w.heap.size]? = some (.cells #[.int .i64 p.k, .int .u32 (p.pl : Int), .int .u32 (p.mi : Int), .bool p.nt, .int .i64 p.mn, .int .i64 p.mx, .slice ao p.l.length cap] 27 (0, 0)) := hE2.keep (new_at rfl)
  have cX := fun j => cell_of_row _ _ j _ _ _ hx
  clear hE2
  by_cases hz0 : z = 0
  · have hz1 : (z == 0) = true := by rw [beq_iff_eq]; exact hz0
    have hem := HEM.out _ hE02 (chkP_ok (HZ.out.trans hz0))
    have HE2 := Lib.hid hem
    clear hem
    go_wp2_with fail
    refine HE2.out.mono ?_
    rintro e w3 ⟨rfl, hE3⟩
    have hE03 := hE02.trans hE3
    clear hE3
    go_wp2
    go_ret
    exact ⟨by rw [HE.out, decide_eq_true hz0, Bool.true_and]; rfl, hE03⟩
  · have hz1 : (z == 0) = false := by rw [beq_eq_false_iff_ne]; exact hz0
    go_wp2
    go_ret
    exact ⟨by rw [HE.out, decide_eq_false hz0]; rfl, hE02⟩
end Go.Proofs.YtapfoaiibjdfnaaDoor
