/- pats.exists, Matches, Begins. -/
import Derived.Test.YtapfoaiibjdfnaaDoorRelate
namespace Go.Proofs.YtapfoaiibjdfnaaDoor
open Go.RowKit Go.Ab
attribute [local go_sem] Oper.semAt_some wide_fn wide_depth

def exE (n : Nat) (at' : Int) : Int := if at' < 0 ∨ (n : Int) < at' then 3 else 0
theorem exists_any (ao : Option Addr) (n cap : Nat) (at' : Int) (w : World) :
    Calls Tryd.prog 48 #[.slice ao n cap, .int .i64 at'] w fun e w' => e = .returned (.int .i64 (exE n at')) ∧ w' = w := by
  by_cases h1 : at' < 0
  · have HZ : Hid (exE n at' = 3) := Lib.hid (by unfold exE; rw [if_pos (.inl h1)])
    go_enter Tryd.func48, Tryd.ntmps48
    go_wp2
    go_ret
    exact ⟨by rw [HZ.out]; rfl, rfl⟩
  · by_cases h2 : (n : Int) < at'
    · have HZ : Hid (exE n at' = 3) := Lib.hid (by unfold exE; rw [if_pos (.inr h2)])
      go_enter Tryd.func48, Tryd.ntmps48
      go_wp2
      go_ret
      exact ⟨by rw [HZ.out]; rfl, rfl⟩
    · have HZ : Hid (exE n at' = 0) := Lib.hid (by unfold exE; rw [if_neg (by omega)])
      go_enter Tryd.func48, Tryd.ntmps48
      go_wp2
      go_ret
      exact ⟨by rw [HZ.out]; rfl, rfl⟩

theorem bit1 (x n : Nat) (hx : x < 18446744073709551616) : (bits .and .u64 ((x : Int) / 2 ^ n) 1 == 1) = x.testBit n := by
  have e : ((x : Int) / 2 ^ n) = ((x / 2 ^ n : Nat) : Int) := by simp
  have h1 : bits .and .u64 ((x / 2 ^ n : Nat) : Int) ((1 : Nat) : Int) = ((x / 2 ^ n &&& 1 : Nat) : Int) := u64_and_nat _ _ (Nat.lt_of_le_of_lt (Nat.div_le_self _ _) hx) (by decide)
  rw [e, show (1 : Int) = ((1 : Nat) : Int) from rfl, h1, Nat.and_one_is_mod, Nat.testBit_eq_decide_div_mod_eq, Bool.eq_iff_iff, beq_iff_eq, decide_eq_true_iff]
  omega
theorem bitR (R : Bin2) (a n : Nat) (hn : n ≤ 32) : (bits .and .u64 ((rowM R a : Int) / 2 ^ n) 1 == 1) = R a n := by
  rw [bit1 _ _ (by have := rowM_lt R a; omega), rowM_bit R (by omega)]

theorem relE_len {p : Pat} {ws : Wd} (h : relE p ws = 0) : ws.length ≤ 32 := by
  unfold relE at h
  by_cases hc : chkP p = 0
  · rw [if_pos hc] at h
    by_cases hl : 32 < ws.length
    · rw [if_pos hl] at h; cases h
    · omega
  · rw [if_neg hc] at h; exact absurd h hc

def matV (p : Pat) (ws : Wd) : Bool := decide (relE p ws = 0) && relR p ws 0 ws.length
theorem results_two {fn : Func} {t u : Tmp} (h : fn.results = #[.tmp t, .tmp u]) (tmps : Array Value) (P : Program) (w : World) :
    (results fn tmps).run P w = .ok (.tuple #[tmps.getD t undef, tmps.getD u undef]) w := by
  simp [results, h]

set_option maxRecDepth 100000 in
set_option maxHeartbeats 8000000 in
theorem matches_any {K : Nat → Prop} {w : World} {p : Pat} {cs : List Value} {v : Value} {ws : Wd} (hp : PatAt K w p cs) (hK : ∀ g, K g → g < w.heap.size) (hv : WordAt w v ws) (hT : Tab w) :
    Calls Tryd.prog 21 #[.agg cs.toArray, v] w fun e w' => e = .returned (.tuple #[.bool (matV p ws), .int .i64 (relE p ws)]) ∧ Ext w w' := by
  have hre := fun (V : World) (hE : Ext w V) => relate_any (K := K) (hp.ext hE) (fun g hg => Nat.lt_of_lt_of_le (hK g hg) hE.size) (hv.ext hE) (hT.keep hE id)
  obtain ⟨ao, cap, rfl, hlc, hcm, _⟩ := patAt_cells hp
  obtain ⟨bo, bcap, rfl, hbm⟩ := hv.slice
  clear hp hlc hcm hv hT hK
  have HRE := Lib.hid hre
  clear hre
  obtain ⟨z, hz⟩ : ∃ z, relE p ws = z := ⟨_, rfl⟩
  obtain ⟨R, hR⟩ : ∃ R, relR p ws = R := ⟨_, rfl⟩
  obtain ⟨n, hN⟩ : ∃ n, ws.length = n := ⟨_, rfl⟩
  have HM : Hid (matV p ws = (decide (z = 0) && R 0 n)) := Lib.hid (by unfold matV; rw [hz, hR, hN])
  have hn32 : z = 0 → n ≤ 32 := fun h => by
    subst hz; subst hN
    exact relE_len h
  rw [hz] at HRE ⊢
  rw [hR] at HRE
  rw [hN] at HRE hbm ⊢
  clear hz hR hN
  have HNL := Lib.hid hn32
  clear hn32
  unfold patCells at HRE ⊢
  have z1 := zero_rel
  have z2 := relArr_size noB
  have z3 := relArr_ne noB
  go_enter Tryd.func21, Tryd.ntmps21
  go_wp2_with fail
  refine (HRE.out _ ((Turn.refl _ w).alloc _)).mono ?_
  rintro e w2 ⟨rfl, hE2⟩
  have hE02 : Ext w w2 := Turn.trans ((Turn.refl _ w).alloc _) hE2
  clear hE2
  have hR0 : (w2.alloc (.cells (relArr noB) 68)).heap[w2.heap.size]? = some (.cells (relArr noB) 68 (0, 0)) := new_at rfl
  have hR3 : RowsAt ((w2.alloc (.cells (relArr noB) 68)).setRow w2.heap.size (rowArr (rowM R))) w2.heap.size (rowM R) := setRow_heap _ _ _ _ _ _ hR0
  have hE3 : Ext w ((w2.alloc (.cells (relArr noB) 68)).setRow w2.heap.size (rowArr (rowM R))) := hE02.trans (((Turn.refl _ w2).alloc _).after (Turn.setRow _ _ _) (fun b' h1 h2 => by omega))
  go_upto_region 2 with (refine wpList_store_row rfl 68 (.tmp 6) (.tmp 12) rfl w2.heap.size (rowArr (rowM R)) rfl rfl _ _ hR0 (Tryd.relInfo _) (by rw [relArr_size, rowArr_size]) (rowArr_one _) ?_)
  generalize ((w2.alloc (.cells (relArr noB) 68)).setRow w2.heap.size (rowArr (rowM R))) = w3 at hR3 hE3 ⊢
  generalize w2.heap.size = b at hR3 ⊢
  clear hR0 hE02 z1 z2 z3
  by_cases hz0 : z = 0
  · have hn := HNL.out hz0
    subst hz0
    have c0 := hR3.cell (a := 0) (by decide)
    have hl := rowM_lt R 0
    go_wp2
    refine bodyPost_ret (results_two rfl _ _ _) rfl ⟨?_, hE3⟩
    show Ending.returned (.tuple #[.bool (bits .and .u64 ((rowM R 0 : Int) / 2 ^ n) 1 == 1), .int .i64 0]) = _
    rw [bitR R 0 n hn, HM.out]; simp
  · have hz1 : (z == 0) = false := by rw [beq_eq_false_iff_ne]; exact hz0
    go_wp2
    refine bodyPost_ret (results_two rfl _ _ _) rfl ⟨?_, hE3⟩
    rw [HM.out, decide_eq_false hz0]
    rfl
end Go.Proofs.YtapfoaiibjdfnaaDoor
