/- pats.relate. pats.exists, Matches, Begins. pats.Begins. PLAIN: the replacements of a law, in the three modes: places, and words. H: is a place hit; P: what is put in for what is cut out; k sounds are cut. No program is named. word.valid, word.Check; good. PLAIN: what a law is, and what it does to a word. PLAIN: what kind of change a law is. PLAIN: insertion sort of integers. No program is named. PLAIN: where the program stands in law.run, in its three modes. A range over a function whose iterator makes blocks of its own (O) and turns them, and whose yielded values are known by a relation. No program is named. -/
import Derived.Test.YtedhogbocifipaaGreatDoorCheckP
import Derived.Test.YtedhogbocifipaaGreatDoorGa00
import Derived.Test.YtedhogbocifipaaGreatDoorGa01
set_option maxRecDepth 100000
set_option maxHeartbeats 8000000
namespace Go.Proofs.YtedhogbocifipaaGreatDoor
open Go.RowKit Go.Ab
attribute [local go_sem] Oper.semAt_some wide_fn wide_depth

/-- The error of a pattern, or of a word. -/
def relE (p : Pat) (ws : Wd) : Int := if chkP p = 0 then (if 32 < ws.length then 11 else if allV ws = true then 0 else 14) else chkP p
def relR (p : Pat) (ws : Wd) : Bin2 := if relE p ws = 0 then relP ws p else noB

theorem rel_result2 {fn : Func} {p u : Tmp} (h : fn.results = #[.cell p 149, .tmp u]) {tmps : Array Value} {w : World} {g : Nat} {f : Nat → Nat} (hp : tmps.getD p undef = .pointer (some ⟨g, 0, none⟩)) (hg : RowsAt w g f) :
  (results fn tmps).run Tryz.prog w = .ok (.tuple #[.agg (rowArr f), tmps.getD u undef]) w := by
 have hp' : tmps[p]?.getD undef = .pointer (some ⟨g, 0, none⟩) := by simpa using hp
 simp [results, h, hp', asAddr, run_loadVar_row w g _ _ _ _ _ hg Tryz.underlying149 rfl (Tryz.relInfo f)]

theorem relate_any {K : Nat → Prop} {w : World} {p : Pat} {cs : List Value} {v : Value} {ws : Wd} (hp : PatAt K w p cs) (hK : ∀ g, K g → g < w.heap.size) (hv : WordAt w v ws) (hT : Tab w) :
  Calls Tryz.prog 146 #[.agg cs.toArray, v] w fun e w' => e = .returned (.tuple #[.agg (rowArr (rowM (relR p ws))), .int .i64 (relE p ws)]) ∧ Ext w w' := by
 have hck := fun (V : World) (hE : Ext w V) => check_any (K := K) (hp.ext hE) (fun g hg => Nat.lt_of_lt_of_le (hK g hg) hE.size) (hT.keep hE id)
 have hcp := fun (V : World) (hE : Ext w V) => compile_all p K V cs (hp.ext hE)
 have hbad := fun (V : World) (hE : Ext w V) => contains_bad (hv.ext hE)
 have HV := Lib.hid hv; have HT := Lib.hid hT
 obtain ⟨ao, cap, rfl, hlc, hcm, _⟩ := patAt_cells hp
 obtain ⟨bo, bcap, rfl, hbm⟩ := hv.slice
 clear hp hlc hcm hv hT hK
 have HCK := Lib.hid hck; have HCP := Lib.hid hcp; have HBAD := Lib.hid hbad
 clear hck hcp hbad
 obtain ⟨z, hz⟩ : ∃ z, chkP p = z := ⟨_, rfl⟩
 obtain ⟨bad, hbd⟩ : ∃ b, allV ws = b := ⟨_, rfl⟩
 obtain ⟨n, hN⟩ : ∃ n, ws.length = n := ⟨_, rfl⟩
 have HE : Hid (relE p ws = if z = 0 then (if 32 < n then 11 else if bad = true then 0 else 14) else z) := Lib.hid (by unfold relE; rw [hz, hbd, hN])
 rw [hz] at HCK
 rw [hbd] at HBAD
 rw [hN] at HBAD HV hbm ⊢
 have HZ := Lib.hid hz; have HBD := Lib.hid hbd; have HN := Lib.hid hN
 clear hz hbd hN
 unfold patCells at HCK HCP ⊢
 have z1 := zero_rel
 have z2 := relArr_size noB
 have z3 := relArr_ne noB
 go_enter Tryz.func146, Tryz.ntmps146
 go_wp2_with fail
 obtain ⟨B, hB⟩ : ∃ B, w.heap.size = B := ⟨_, rfl⟩
 have hx1 : ((w.alloc (.cells #[.int .i64 p.k, .int .u32 (p.pl : Int), .int .u32 (p.mi : Int), .bool p.nt, .int .i64 p.mn, .int .i64 p.mx, .slice ao p.l.length cap] 27)).alloc (.cells (relArr noB) 149)).heap[B]? = some (.cells #[.int .i64 p.k, .int .u32 (p.pl : Int), .int .u32 (p.mi : Int), .bool p.nt, .int .i64 p.mn, .int .i64 p.mx, .slice ao p.l.length cap] 27 (0, 0)) := by
  subst hB; exact new_keep (new_at rfl)
 have hr1 : RowsAt ((w.alloc (.cells #[.int .i64 p.k, .int .u32 (p.pl : Int), .int .u32 (p.mi : Int), .bool p.nt, .int .i64 p.mn, .int .i64 p.mx, .slice ao p.l.length cap] 27)).alloc (.cells (relArr noB) 149)) (B + 1) (rowM noB) := by
  subst hB; exact new_at (by simp)
 have hE1 : Ext w ((w.alloc (.cells #[.int .i64 p.k, .int .u32 (p.pl : Int), .int .u32 (p.mi : Int), .bool p.nt, .int .i64 p.mn, .int .i64 p.mx, .slice ao p.l.length cap] 27)).alloc (.cells (relArr noB) 149)) := ((Turn.refl _ w).alloc _).alloc _
 generalize ((w.alloc (.cells #[.int .i64 p.k, .int .u32 (p.pl : Int), .int .u32 (p.mi : Int), .bool p.nt, .int .i64 p.mn, .int .i64 p.mx, .slice ao p.l.length cap] 27)).alloc (.cells (relArr noB) 149)) = w1 at hx1 hr1 hE1 ⊢
 rw [hB]
 have HB := Lib.hid hB
 clear hB
 refine (HCK.out _ hE1).mono ?_
 rintro e w2 ⟨rfl, hE2⟩
 have hx2 := hE2.keep hx1
 have hr2 := hr1.keep hE2 id
 have hE02 := hE1.trans hE2
 clear hE1 hE2 hx1 hr1
 have fin : ∀ (V : World) (c : Int) (t : Array Value) (ds : List Deferred), RowsAt V (B + 1) (rowM noB) → Ext w V → ds = [] → c = relE p ws → c ≠ 0 → t.getD 4 undef = .pointer (some ⟨B + 1, 0, none⟩) → t.getD 5 undef = .int .i64 c →
   bodyPost Tryz.prog Tryz.f146 (fun e w' => e = .returned (.tuple #[.agg (rowArr (rowM (relR p ws))), .int .i64 (relE p ws)]) ∧ Ext w w') .ret { tmps := t, defers := ds } V := by
  intro V c t ds h1 h2 h3 h4 h5 h6 h7
  subst h3
  refine bodyPost_ret (rel_result2 rfl h6 h1) rfl ⟨?_, h2⟩
  have : relR p ws = noB := by unfold relR; rw [if_neg (h4 ▸ h5)]
  rw [this, ← h4]
  show Ending.returned (.tuple #[_, t.getD 5 undef]) = _
  rw [h7]
 have FIN := Lib.hid fin
 clear fin
 have cX := fun j => cell_of_row _ _ j _ _ _ hx2
 by_cases hz0 : z = 0
 ·rw [if_pos hz0] at HE
  subst hz0
  by_cases hn : 32 < n
  ·rw [if_pos hn] at HE
   have h1 : (32 : Int) < (n : Int) := by omega
   have hr3 : RowsAt (w2.setRow (B + 1) (rowArr (rowM noB))) (B + 1) (rowM noB) := setRow_heap _ _ _ _ _ _ hr2
   have hE3 : Ext w (w2.setRow (B + 1) (rowArr (rowM noB))) := hE02.after (Turn.setRow _ _ _) (fun b' h1 h2 => by have := HB.out; omega)
   go_wp2_with (refine wpList_store_row rfl 149 (.tmp 4) (.tmp 18) rfl (B + 1) (rowArr (rowM noB)) rfl rfl _ _ hr2 (Tryz.relInfo _) (by simp only [rowArr_size]) (rowArr_one _) ?_)
   exact FIN.out _ 11 _ _ hr3 hE3 rfl HE.out.symm (by omega) rfl rfl
  ·rw [if_neg hn] at HE
   have h1 : ¬ (32 : Int) < (n : Int) := by omega
   go_wp2_with fail
   refine (HBAD.out _ hE02).mono ?_
   rintro e w3 ⟨rfl, hE3⟩
   have hx3 := hE3.keep hx2
   have hr3 := hr2.keep hE3 id
   have hE03 := hE02.trans hE3
   clear hE3 hx2 hr2 hE02 cX
   have cX := fun j => cell_of_row _ _ j _ _ _ hx3
   cases bad
   ·have hr4 : RowsAt (w3.setRow (B + 1) (rowArr (rowM noB))) (B + 1) (rowM noB) := setRow_heap _ _ _ _ _ _ hr3
    have hE4 : Ext w (w3.setRow (B + 1) (rowArr (rowM noB))) := hE03.after (Turn.setRow _ _ _) (fun b' h1 h2 => by have := HB.out; omega)
    go_wp2_with (refine wpList_store_row rfl 149 (.tmp 4) (.tmp 22) rfl (B + 1) (rowArr (rowM noB)) rfl rfl _ _ hr3 (Tryz.relInfo _) (by simp only [rowArr_size]) (rowArr_one _) ?_)
    exact FIN.out _ 14 _ _ hr4 hE4 rfl HE.out.symm (by omega) rfl rfl
   ·have hok : okPat p := chkP_ok HZ.out
    have HOK := Lib.hid hok
    clear hok
    go_wp2_with fail
    refine (HCP.out _ hE03 HOK.out).mono ?_
    rintro e w4 ⟨u, rfl, hPA, hE4⟩
    obtain ⟨pay, rfl⟩ := partAt_iface hPA
    have pm := part_method (cmp p) pay
    have pc := part_call (cmp p)
    have hr4 := hr3.keep hE4 id
    have hE04 := hE03.trans hE4
    have hin := in_all (cmp p) _ w4 pay _ ws hPA (HV.out.ext hE04) (by rw [HN.out]; omega) (HT.out.keep hE04 id)
    rw [relS_cmp ws p HOK.out] at hin
    have HIN := Lib.hid hin
    clear hin hE4 hr3 hE03 hx3 cX hPA
    go_wp2_with fail
    clear pm pc
    refine HIN.out.mono ?_
    rintro e w5 ⟨rfl, hE5⟩
    have hr5 := hr4.keep hE5 id
    have hE05 := hE04.trans hE5
    have hr6 : RowsAt (w5.setRow (B + 1) (rowArr (rowM (relP ws p)))) (B + 1) (rowM (relP ws p)) := setRow_heap _ _ _ _ _ _ hr5
    have hE6 : Ext w (w5.setRow (B + 1) (rowArr (rowM (relP ws p)))) := hE05.after (Turn.setRow _ _ _) (fun b' h1 h2 => by have := HB.out; omega)
    clear HIN hr4 hE04 hE5
    go_wp2_with (refine wpList_store_row rfl 149 (.tmp 4) (.tmp 26) rfl (B + 1) (rowArr (rowM (relP ws p))) rfl rfl _ _ hr5 (Tryz.relInfo _) (by simp only [rowArr_size]) (rowArr_one _) ?_)
    refine bodyPost_ret (rel_result2 rfl rfl hr6) rfl ⟨?_, hE6⟩
    have h0 : relE p ws = 0 := HE.out
    have : relR p ws = relP ws p := by unfold relR; rw [if_pos h0]
    rw [this, h0]; rfl
 ·rw [if_neg hz0] at HE
  have hr3 : RowsAt (w2.setRow (B + 1) (rowArr (rowM noB))) (B + 1) (rowM noB) := setRow_heap _ _ _ _ _ _ hr2
  have hE3 : Ext w (w2.setRow (B + 1) (rowArr (rowM noB))) := hE02.after (Turn.setRow _ _ _) (fun b' h1 h2 => by have := HB.out; omega)
  go_wp2_with (refine wpList_store_row rfl 149 (.tmp 4) (.tmp 12) rfl (B + 1) (rowArr (rowM noB)) rfl rfl _ _ hr2 (Tryz.relInfo _) (by simp only [rowArr_size]) (rowArr_one _) ?_)
  exact FIN.out _ z _ _ hr3 hE3 rfl HE.out.symm hz0 rfl rfl


def exE (n : Nat) (at' : Int) : Int := if at' < 0 ∨ (n : Int) < at' then 3 else 0
theorem exists_any (ao : Option Addr) (n cap : Nat) (at' : Int) (w : World) :
  Calls Tryz.prog 147 #[.slice ao n cap, .int .i64 at'] w fun e w' => e = .returned (.int .i64 (exE n at')) ∧ w' = w := by
 by_cases h1 : at' < 0
 ·have HZ : Hid (exE n at' = 3) := Lib.hid (by unfold exE; rw [if_pos (.inl h1)])
  go_enter Tryz.func147, Tryz.ntmps147
  go_wp2
  go_ret
  exact ⟨by rw [HZ.out]; rfl, rfl⟩
 ·by_cases h2 : (n : Int) < at'
  ·have HZ : Hid (exE n at' = 3) := Lib.hid (by unfold exE; rw [if_pos (.inr h2)])
   go_enter Tryz.func147, Tryz.ntmps147
   go_wp2
   go_ret
   exact ⟨by rw [HZ.out]; rfl, rfl⟩
  ·have HZ : Hid (exE n at' = 0) := Lib.hid (by unfold exE; rw [if_neg (by omega)])
   go_enter Tryz.func147, Tryz.ntmps147
   go_wp2
   go_ret
   exact ⟨by rw [HZ.out]; rfl, rfl⟩

theorem bit1 (x n : Nat) (hx : x < 18446744073709551616) : (bits .and .u64 ((x : Int) / 2 ^ n) 1 == 1) = x.testBit n := by
 have e : ((x : Int) / 2 ^ n) = ((x / 2 ^ n : Nat) : Int) := by simp
 have h1 : bits .and .u64 ((x / 2 ^ n : Nat) : Int) ((1 : Nat) : Int) = ((x / 2 ^ n &&& 1 : Nat) : Int) := u64_and_nat _ _ (Nat.lt_of_le_of_lt (Nat.div_le_self _ _) hx) (by decide)
 rw [e, show (1 : Int) = ((1 : Nat) : Int) from rfl, h1, Nat.and_one_is_mod, Nat.testBit_eq_decide_div_mod_eq, Bool.eq_iff_iff, beq_iff_eq, decide_eq_true_iff]
 omega
theorem bitR (R : Bin2) (a n : Nat) (hn : n ≤ 32) : (bits .and .u64 ((rowM R a : Int) / 2 ^ n) 1 == 1) = R a n := by
 rw [bit1 _ _ (by have := rowM_lt R a; omega), rowM_bit R (by omega)]

theorem relE_len {p : Pat} {ws : Wd} (h : relE p ws = 0) : ws.length ≤ 32 := by
 unfold relE at h
 by_cases hc : chkP p = 0
 ·rw [if_pos hc] at h
  by_cases hl : 32 < ws.length
  ·rw [if_pos hl] at h; cases h
  ·omega
 ·rw [if_neg hc] at h; exact absurd h hc

def matV (p : Pat) (ws : Wd) : Bool := decide (relE p ws = 0) && relR p ws 0 ws.length
theorem results_two {fn : Func} {t u : Tmp} (h : fn.results = #[.tmp t, .tmp u]) (tmps : Array Value) (P : Program) (w : World) :
  (results fn tmps).run P w = .ok (.tuple #[tmps.getD t undef, tmps.getD u undef]) w := by
 simp [results, h]


def placeE (p : Pat) (ws : Wd) (at' : Int) : Int := if relE p ws = 0 then exE ws.length at' else relE p ws
def begL (p : Pat) (ws : Wd) (at' : Int) : List Nat := if placeE p ws at' = 0 then (List.range (ws.length + 1)).filter (fun a => relR p ws a at'.toNat) else []
def endL (p : Pat) (ws : Wd) (at' : Int) : List Nat := if placeE p ws at' = 0 then (List.range (ws.length + 1)).filter (fun b => relR p ws at'.toNat b) else []
def natV (l : List Nat) : List Value := l.map fun (x : Nat) => Value.int .i64 (x : Int)
theorem Tryz.infoI : (Tryz.prog.info? 3).map (fun i => (i.zero, i.size, i.bytes)) = some (some (.int .i64 0), 1, 8) := by kernel_rfl
theorem own_block_ty {w : World} {base : Nat} {e : TypeId} {sz n g : Nat} {v : Value} {xs : List Value} (h : w.ownsRow base e sz v n xs) (hg : v.ownBlock = some g) : ∃ cur, w.heap[g]? = some (.cells cur e (0, 0)) := by
 rcases h.2 with ⟨rfl, _⟩ | ⟨g', cap, cur, rfl, _, hh, _⟩
 ·cases hg
 ·cases hg; exact ⟨cur, hh⟩
theorem natV_append (l : List Nat) (x : Nat) : natV (l ++ [x]) = natV l ++ [.int .i64 (x : Int)] := by simp [natV]

theorem begins_any {K : Nat → Prop} {w : World} {p : Pat} {cs : List Value} {v : Value} {ws : Wd} (hp : PatAt K w p cs) (hK : ∀ g, K g → g < w.heap.size) (hv : WordAt w v ws) (hT : Tab w) (at' : Int) :
  Calls Tryz.prog 124 #[.agg cs.toArray, v, .int .i64 at'] w fun e w' => ∃ u, e = .returned (.tuple #[u, .int .i64 (placeE p ws at')]) ∧ w'.ownsRow w.heap.size 3 1 u (begL p ws at').length (natV (begL p ws at')) ∧ Ext w w' := by
 have hre := fun (V : World) (hE : Ext w V) => relate_any (K := K) (hp.ext hE) (fun g hg => Nat.lt_of_lt_of_le (hK g hg) hE.size) (hv.ext hE) (hT.keep hE id)
 obtain ⟨ao, cap, rfl, hlc, hcm, _⟩ := patAt_cells hp
 obtain ⟨bo, bcap, rfl, hbm⟩ := hv.slice
 clear hp hlc hcm hv hT hK
 have HRE := Lib.hid hre
 clear hre
 obtain ⟨z, hz⟩ : ∃ z, relE p ws = z := ⟨_, rfl⟩
 obtain ⟨R, hR⟩ : ∃ R, relR p ws = R := ⟨_, rfl⟩
 obtain ⟨n, hN⟩ : ∃ n, ws.length = n := ⟨_, rfl⟩
 have HP : Hid (placeE p ws at' = if z = 0 then exE n at' else z) := Lib.hid (by unfold placeE; rw [hz, hN])
 have HL : Hid (begL p ws at' = if placeE p ws at' = 0 then (List.range (n + 1)).filter (fun a => R a at'.toNat) else []) := Lib.hid (by unfold begL; rw [hR, hN])
 have hn32 : z = 0 → n ≤ 32 := fun h => by
  subst hz; subst hN
  exact relE_len h
 rw [hz] at HRE
 rw [hR] at HRE
 rw [hN] at HRE hbm ⊢
 clear hz hR hN
 have HNL := Lib.hid hn32
 clear hn32
 unfold patCells at HRE ⊢
 have z1 := zero_rel
 have z2 := relArr_size noB
 have z3 := relArr_ne noB
 go_enter Tryz.func124, Tryz.ntmps124
 go_wp2_with fail
 refine (HRE.out _ ((Turn.refl _ w).alloc _)).mono ?_
 rintro e w2 ⟨rfl, hE2⟩
 have hE02 : Ext w w2 := Turn.trans ((Turn.refl _ w).alloc _) hE2
 clear hE2
 have hR0 : (w2.alloc (.cells (relArr noB) 149)).heap[w2.heap.size]? = some (.cells (relArr noB) 149 (0, 0)) := new_at rfl
 have hR3 : RowsAt ((w2.alloc (.cells (relArr noB) 149)).setRow w2.heap.size (rowArr (rowM R))) w2.heap.size (rowM R) := setRow_heap _ _ _ _ _ _ hR0
 have hE3 : Ext w ((w2.alloc (.cells (relArr noB) 149)).setRow w2.heap.size (rowArr (rowM R))) := hE02.trans (((Turn.refl _ w2).alloc _).after (Turn.setRow _ _ _) (fun b' h1 h2 => by omega))
 go_upto_region 2 with (refine wpList_store_row rfl 149 (.tmp 8) (.tmp 16) rfl w2.heap.size (rowArr (rowM R)) rfl rfl _ _ hR0 (Tryz.relInfo _) (by rw [relArr_size, rowArr_size]) (rowArr_one _) ?_)
 generalize ((w2.alloc (.cells (relArr noB) 149)).setRow w2.heap.size (rowArr (rowM R))) = w3 at hR3 hE3 ⊢
 generalize w2.heap.size = b at hR3 ⊢
 clear hR0 hE02 z1 z2 z3
 by_cases hz0 : z = 0
 ·have hn := HNL.out hz0
  rw [if_pos hz0] at HP
  subst hz0
  go_wp2_with fail
  refine (exists_any _ _ _ _ _).mono ?_
  rintro e w4 ⟨rfl, rfl⟩
  by_cases hin : at' < 0 ∨ (n : Int) < at'
  ·have hex : exE n at' = 3 := by unfold exE; rw [if_pos hin]
   rw [hex] at HP ⊢
   clear hex
   go_wp2
   refine bodyPost_ret (results_two rfl _ _ _) rfl ⟨_, by rw [HP.out]; rfl, ?_, hE3⟩
   rw [HL.out, HP.out, if_neg (by decide)]
   exact World.ownsRow_nil _ _ _ _
  ·have hex : exE n at' = 0 := by unfold exE; rw [if_neg hin]
   rw [hex] at HP ⊢
   obtain ⟨m, rfl⟩ : ∃ m : Nat, at' = m := ⟨at'.toNat, by omega⟩
   have HL2 : Hid (begL p ws m = (List.range (n + 1)).filter (fun a => R a m)) := Lib.hid (by rw [HL.out, HP.out]; rfl)
   have hmn : m ≤ n := by omega
   clear hex HL hin
   go_wp2
   go_loopw [10, 29] (fun v i wr => ∃ k : Nat, k ≤ n + 1 ∧ i = .int .i64 k ∧ wr.ownsRow w.heap.size 3 1 v ((List.range k).filter (fun a => R a m)).length (natV ((List.range k).filter (fun a => R a m))) ∧ Ext w wr ∧ RowsAt wr b (rowM R)) (fun _ i _ => n + 1 - (intOf i).toNat)
   case atStart => exact ⟨0, Nat.zero_le _, rfl, World.ownsRow_nil _ _ _ _, hE3, hR3⟩
   case round =>
    obtain ⟨k, hk, rfl, hO, hE, hR⟩ := hrel
    by_cases hlt : k < n + 1
    ·have c0 := hR.cell (a := k) (by omega)
     have hl := rowM_lt R k
     have h1 : (k : Int) < (n : Int) + 1 := by omega
     have hfil : (List.range (k + 1)).filter (fun a => R a m) = (List.range k).filter (fun a => R a m) ++ if R k m then [k] else [] := by
      rw [List.range_succ, List.filter_append]; cases hq : R k m <;> simp [hq]
     have hb := bitR R k m (by omega)
     have HF := Lib.hid hfil
     have hlen : ((List.range k).filter (fun a => R a m)).length ≤ 33 := by
      have := List.length_filter_le (fun a => R a m) (List.range k); simp at this; omega
     clear hfil
     cases hq : R k m
     ·rw [hq] at hb HF
      have HQ := Lib.hid hq
      clear hq
      go_wp2
      go_roundw
      case rel => exact ⟨k + 1, by omega, by go_num, by rw [HF.out]; simpa using hO, hE, hR⟩
      case measure => simp [intOf]; omega
     ·rw [hq] at hb HF
      have HQ := Lib.hid hq
      clear hq
      go_wp2_with (at_builtin; refine append_row rfl (.tmp 39) (.tmp 41) 38 rfl w.heap.size 3 _ 1 8 Tryz.underlying38 Tryz.infoI rfl (by decide) _ _ _ rfl (own_ext hO ((Turn.refl _ wr).alloc _)) ⟨wr.heap.size, 0, none⟩ 1 1 [.int .i64 k] rfl rfl (new_cells' rfl) ?c2 ?c3 ?c4 ?c5 ?_)
      case c2 => first | rfl | (intro u hu; simp at hu; rcases hu with rfl; rfl)
      case c3 => unfold maxLen; omega
      case c4 => omega
      case c5 => have := hE.size; simp; omega
      intro ao' c' w5 hO5 hT5 _
      have hT6 : Turn (fun b' => u10.ownBlock = some b') wr w5 := Turn.trans (Turn.alloc (Turn.refl _ wr) _) hT5
      have hE5 : Ext w w5 := hE.after hT6 (fun b' h1 e => by have := (hO.lt _ e).1; omega)
      have hR5 := hR.keep hT6 (fun e => by obtain ⟨cur, hc⟩ := own_block_ty hO e; have h8 : wr.heap[b]? = _ := hR; rw [h8] at hc; cases hc)
      clear hT5 hT6 hO hE c0
      go_wp2
      go_roundw
      case rel =>
       refine ⟨k + 1, by omega, by go_num, ?_, hE5, hR5⟩
       rw [HF.out, if_pos (by first | rfl | trivial), natV_append, List.length_append]
       exact hO5
      case measure => simp [intOf]; omega
    ·obtain rfl : k = n + 1 := by omega
     go_wp2
     refine bodyPost_ret (results_two rfl _ _ _) rfl ⟨_, by rw [HP.out]; rfl, ?_, hE⟩
     rw [HL2.out]; exact hO
 ·have hz1 : (z == 0) = false := by rw [beq_eq_false_iff_ne]; exact hz0
  rw [if_neg hz0] at HP
  go_wp2
  refine bodyPost_ret (results_two rfl _ _ _) rfl ⟨_, by rw [HP.out]; rfl, ?_, hE3⟩
  rw [HL.out, HP.out, if_neg hz0]
  exact World.ownsRow_nil _ _ _ _
end Go.Proofs.YtedhogbocifipaaGreatDoor

namespace Go.Ab

section
variable {α : Type} (H : List α → Nat → Bool) (P : List α → List α) (k : Nat)

/-- A word after a replacement. -/
def repl (w : List α) (i : Nat) : List α := w.take i ++ P ((w.drop i).take k) ++ w.drop (i + k)

/-- All places of the word as it was, from i on; d: what has become of the beginning; n more steps. -/
def allT (w : List α) : Nat → Nat → List α → List (Nat × List α)
 | 0, _, _ => []
 | n + 1, i, d =>
  if H w i then
   (i, d ++ P ((w.drop i).take k) ++ w.drop (i + k)) :: (if k = 0 then allT w n (i + 1) (d ++ P ((w.drop i).take k) ++ (w.drop i).take 1) else allT w n (i + k) (d ++ P ((w.drop i).take k)))
  else allT w n (i + 1) (d ++ (w.drop i).take 1)
/-- From left to right, in the word as it is then. -/
def rightT (m : Nat) : Nat → List α → Nat → List (Nat × List α)
 | 0, _, _ => []
 | n + 1, w, i =>
  if w.length < i + k then []
  else if H w i then (i, repl P k w i) :: rightT m n (repl P k w i) (i + m + (if k = 0 then 1 else 0))
  else rightT m n w (i + 1)
/-- From right to left: the places below i. -/
def leftT : Nat → List α → Nat → List (Nat × List α)
 | 0, _, _ => []
 | _ + 1, _, 0 => []
 | n + 1, w, i + 1 =>
  if H w i then (i, repl P k w i) :: leftT n (repl P k w i) (i + 1 - max k 1)
  else leftT n w i
end

/-- The words, or that one is too long. -/
def longT {α : Type} (t : List (Nat × List α)) : Bool := t.any fun x => decide (32 < x.2.length)
/-- The last word. -/
def lastT {α : Type} (w : List α) (t : List (Nat × List α)) : List α := (t.map (·.2)).getLastD w

section
variable {α : Type} {H : List α → Nat → Bool} {P : List α → List α} {k m : Nat}

theorem repl_length (hP : ∀ c, c.length = k → (P c).length = m) {w : List α} {i : Nat} (h : i + k ≤ w.length) : (repl P k w i).length + k = w.length + m := by
 unfold repl
 rw [List.length_append, List.length_append, List.length_take, List.length_drop, hP _ (by rw [List.length_take, List.length_drop]; omega)]
 omega

/-! ### Lengths -/
theorem allT_len (hP : ∀ c, c.length = k → (P c).length = m) (w : List α) (hH : ∀ j, H w j = true → j + k ≤ w.length) : ∀ (n i : Nat) (d : List α) (c : Nat), (i ≤ w.length → d.length + c * k = i + c * m) → ∀ (j : Nat) (x : Nat × List α), (allT H P k w n i d)[j]? = some x → x.2.length + (c + j + 1) * k = w.length + (c + j + 1) * m
 | 0, _, _, _, _, j, x, h => by simp [allT] at h
 | n + 1, i, d, c, hd, j, x, h => by
  unfold allT at h
  by_cases hh : H w i = true
  ·rw [if_pos hh] at h
   have hi := hH i hh
   have hd := hd (by omega)
   have hp := hP ((w.drop i).take k) (by rw [List.length_take, List.length_drop]; omega)
   have e1 : (c + 1) * k = c * k + k := by rw [Nat.add_mul, Nat.one_mul]
   have e2 : (c + 1) * m = c * m + m := by rw [Nat.add_mul, Nat.one_mul]
   cases j with
   | zero =>
    simp only [List.getElem?_cons_zero, Option.some.injEq] at h
    subst h
    simp only [List.length_append, List.length_drop, hp, Nat.add_zero]
    omega
   | succ j =>
    simp only [List.getElem?_cons_succ] at h
    have e : c + (j + 1) + 1 = (c + 1) + j + 1 := by omega
    rw [e]
    by_cases hk : k = 0
    ·rw [if_pos hk] at h
     refine allT_len hP w hH n (i + 1) _ (c + 1) (fun hle => ?_) j x h
     simp only [List.length_append, List.length_take, List.length_drop, hp]
     subst hk
     omega
    ·rw [if_neg hk] at h
     refine allT_len hP w hH n (i + k) _ (c + 1) (fun hle => ?_) j x h
     simp only [List.length_append, hp]
     omega
  ·rw [if_neg hh] at h
   refine allT_len hP w hH n (i + 1) _ c (fun hle => ?_) j x h
   have := hd (by omega)
   simp only [List.length_append, List.length_take, List.length_drop]
   omega
theorem rightT_len (hP : ∀ c, c.length = k → (P c).length = m) : ∀ (n : Nat) (w : List α) (i j : Nat) (x : Nat × List α), (rightT H P k m n w i)[j]? = some x → x.2.length + (j + 1) * k = w.length + (j + 1) * m
 | 0, _, _, j, x, h => by simp [rightT] at h
 | n + 1, w, i, j, x, h => by
  unfold rightT at h
  by_cases h1 : w.length < i + k
  ·rw [if_pos h1] at h; simp at h
  ·rw [if_neg h1] at h
   by_cases hh : H w i = true
   ·rw [if_pos hh] at h
    have hr := repl_length hP (w := w) (i := i) (by omega)
    cases j with
    | zero =>
     simp only [List.getElem?_cons_zero, Option.some.injEq] at h
     subst h
     simp only [Nat.zero_add, Nat.one_mul]
     exact hr
    | succ j =>
     simp only [List.getElem?_cons_succ] at h
     have := rightT_len hP n _ _ j x h
     rw [Nat.add_mul (j + 1) 1 k, Nat.add_mul (j + 1) 1 m, Nat.one_mul, Nat.one_mul]
     omega
   ·rw [if_neg hh] at h
    exact rightT_len hP n w (i + 1) j x h
theorem leftT_len (hP : ∀ c, c.length = k → (P c).length = m) (hH : ∀ w j, H w j = true → j + k ≤ w.length) : ∀ (n : Nat) (w : List α) (i j : Nat) (x : Nat × List α), (leftT H P k n w i)[j]? = some x → x.2.length + (j + 1) * k = w.length + (j + 1) * m
 | 0, _, _, j, x, h => by simp [leftT] at h
 | n + 1, w, 0, j, x, h => by simp [leftT] at h
 | n + 1, w, i + 1, j, x, h => by
  unfold leftT at h
  by_cases hh : H w i = true
  ·rw [if_pos hh] at h
   have hr := repl_length hP (w := w) (i := i) (hH w i hh)
   cases j with
   | zero =>
    simp only [List.getElem?_cons_zero, Option.some.injEq] at h
    subst h
    simp only [Nat.zero_add, Nat.one_mul]
    exact hr
   | succ j =>
    simp only [List.getElem?_cons_succ] at h
    have := leftT_len hP hH n _ _ j x h
    rw [Nat.add_mul (j + 1) 1 k, Nat.add_mul (j + 1) 1 m, Nat.one_mul, Nat.one_mul]
    omega
  ·rw [if_neg hh] at h
   exact leftT_len hP hH n w i j x h

/-! ### The first replacement, and none -/
theorem allT_first (w : List α) (hH : ∀ j, H w j = true → j + k ≤ w.length) : ∀ (n i : Nat) (d : List α), w.length + 1 - i ≤ n → d = w.take i →
  (allT H P k w n i d).head? = ((List.range (w.length + 1)).filter fun j => decide (i ≤ j) && H w j).head?.map fun j => (j, repl P k w j)
 | 0, i, d, h, _ => by
  have : ((List.range (w.length + 1)).filter fun j => decide (i ≤ j) && H w j) = [] := by
   rw [List.filter_eq_nil_iff]
   intro j hj
   have := List.mem_range.1 hj
   simp; omega
  rw [this]; rfl
 | n + 1, i, d, h, hd => by
  unfold allT
  by_cases hh : H w i = true
  ·rw [if_pos hh]
   have hi := hH i hh
   have hf : ((List.range (w.length + 1)).filter fun j => decide (i ≤ j) && H w j).head? = some i := by
    rw [show w.length + 1 = i + (w.length + 1 - i) by omega, List.range_add, List.filter_append]
    have h1 : (List.range i).filter (fun j => decide (i ≤ j) && H w j) = [] := by
     rw [List.filter_eq_nil_iff]
     intro j hj
     have := List.mem_range.1 hj
     simp; omega
    rw [h1, List.nil_append]
    obtain ⟨r, hr⟩ : ∃ r, w.length + 1 - i = r + 1 := ⟨w.length - i, by omega⟩
    rw [hr, List.range_succ_eq_map, List.map_cons, List.filter_cons, if_pos (by simp [hh])]
    simp
   rw [hf]
   simp only [List.head?_cons, Option.map_some]
   rw [hd]; rfl
  ·rw [if_neg hh]
   have e : ((List.range (w.length + 1)).filter fun j => decide (i ≤ j) && H w j) = ((List.range (w.length + 1)).filter fun j => decide (i + 1 ≤ j) && H w j) := by
    apply List.filter_congr
    intro j _
    by_cases hj : j = i
    ·subst hj
     have : H w j = false := by simpa using hh
     simp [this]
    ·have : decide (i ≤ j) = decide (i + 1 ≤ j) := by rw [decide_eq_decide]; omega
     rw [this]
   rw [e]
   refine allT_first w hH n (i + 1) _ (by omega) ?_
   rw [hd, List.take_add]

theorem filter_first (Q : Nat → Bool) (L i : Nat) (hi : i < L) : ((List.range L).filter fun j => decide (i ≤ j) && Q j).head? = if Q i then some i else ((List.range L).filter fun j => decide (i + 1 ≤ j) && Q j).head? := by
 by_cases hq : Q i = true
 ·rw [if_pos hq, show L = i + (L - i) by omega, List.range_add, List.filter_append]
  have h1 : (List.range i).filter (fun j => decide (i ≤ j) && Q j) = [] := by
   rw [List.filter_eq_nil_iff]
   intro j hj
   have := List.mem_range.1 hj
   simp; omega
  rw [h1, List.nil_append]
  obtain ⟨r, hr⟩ : ∃ r, L - i = r + 1 := ⟨L - i - 1, by omega⟩
  rw [hr, List.range_succ_eq_map, List.map_cons, List.filter_cons, if_pos (by simp [hq])]
  simp
 ·rw [if_neg hq]
  congr 1
  apply List.filter_congr
  intro j _
  by_cases hj : j = i
  ·subst hj
   have : Q j = false := by simpa using hq
   simp [this]
  ·have : decide (i ≤ j) = decide (i + 1 ≤ j) := by rw [decide_eq_decide]; omega
   rw [this]
theorem filter_none (Q : Nat → Bool) (L i : Nat) (hi : L ≤ i) : ((List.range L).filter fun j => decide (i ≤ j) && Q j) = [] := by
 rw [List.filter_eq_nil_iff]
 intro j hj
 have := List.mem_range.1 hj
 simp; omega
theorem rightT_first (hH : ∀ w j, H w j = true → j + k ≤ w.length) : ∀ (n : Nat) (w : List α) (i : Nat), w.length + 1 - i ≤ n →
  (rightT H P k m n w i).head? = ((List.range (w.length + 1)).filter fun j => decide (i ≤ j) && H w j).head?.map fun j => (j, repl P k w j)
 | 0, w, i, h => by rw [filter_none _ _ _ (by omega)]; rfl
 | n + 1, w, i, h => by
  unfold rightT
  by_cases h1 : w.length < i + k
  ·rw [if_pos h1]
   have : ((List.range (w.length + 1)).filter fun j => decide (i ≤ j) && H w j) = [] := by
    rw [List.filter_eq_nil_iff]
    intro j _ hj
    simp only [Bool.and_eq_true, decide_eq_true_eq] at hj
    have := hH w j hj.2
    omega
   rw [this]; rfl
  ·rw [if_neg h1, filter_first _ _ _ (by omega)]
   by_cases hh : H w i = true
   ·rw [if_pos hh, if_pos hh]; rfl
   ·rw [if_neg hh, if_neg hh]
    exact rightT_first hH n w (i + 1) (by omega)
theorem leftT_first : ∀ (n : Nat) (w : List α) (i : Nat), i ≤ n → (leftT H P k n w i).head? = ((List.range i).filter (H w)).getLast?.map fun j => (j, repl P k w j)
 | 0, w, i, h => by
  obtain rfl : i = 0 := by omega
  rfl
 | n + 1, w, 0, h => rfl
 | n + 1, w, i + 1, h => by
  unfold leftT
  rw [List.range_succ, List.filter_append]
  by_cases hh : H w i = true
  ·rw [if_pos hh]
   simp [hh]
  ·rw [if_neg hh, leftT_first n w i (by omega)]
   simp [hh]

/-! ### Lengths, and the last word -/
theorem last_long {w : List α} {t : List (Nat × List α)} (hw : w.length ≤ 32) (hl : ∀ (j : Nat) (x : Nat × List α), t[j]? = some x → x.2.length + (j + 1) * k = w.length + (j + 1) * m) : longT t = decide (32 < (lastT w t).length) := by
 unfold longT lastT
 apply Bool.eq_iff_iff.2
 rw [List.any_eq_true, decide_eq_true_eq]
 have key : ∀ (j : Nat) (x : Nat × List α), t[j]? = some x → x.2.length = w.length + (j + 1) * m - (j + 1) * k := fun j x h => by have := hl j x h; omega
 by_cases ht : t = []
 ·subst ht; simp; omega
 ·have hpos : 0 < t.length := List.length_pos_iff.2 ht
  have hlast : (t.map (·.2)).getLastD w = (t[t.length - 1]'(by omega)).2 := by
   rw [List.getLastD_eq_getLast?, List.getLast?_eq_getElem?, List.length_map, List.getElem?_map, List.getElem?_eq_getElem (by omega)]; rfl
  rw [hlast]
  have hle : ∀ j, j < t.length → (j + 1) * m ≤ (j + 1) * k ∨ (j + 1) * m - (j + 1) * k ≤ (t.length - 1 + 1) * m - (t.length - 1 + 1) * k := fun j hj => by
   by_cases hkm : m ≤ k
   ·exact .inl (Nat.mul_le_mul_left _ hkm)
   ·right
    rw [← Nat.mul_sub, ← Nat.mul_sub]
    exact Nat.mul_le_mul_right _ (by omega)
  constructor
  ·rintro ⟨x, hx, h⟩
   obtain ⟨j, hj, rfl⟩ := List.getElem_of_mem hx
   have e1 := hl j _ (List.getElem?_eq_getElem hj)
   have e2 := hl (t.length - 1) _ (List.getElem?_eq_getElem (by omega))
   have h3 := of_decide_eq_true h
   rcases hle j hj with h4 | h4
   ·omega
   ·by_cases hkm : m ≤ k
    ·have := Nat.mul_le_mul_left (j + 1) hkm
     omega
    ·have := Nat.mul_le_mul_left (t.length - 1 + 1) (show k ≤ m by omega)
     have := Nat.mul_le_mul_left (j + 1) (show k ≤ m by omega)
     omega
  ·intro h
   exact ⟨t[t.length - 1]'(by omega), List.getElem_mem _, decide_eq_true h⟩

/-! ### The mirror -/
theorem repl_reverse {P' : List α → List α} (hP : ∀ c, c.length = k → P' c.reverse = (P c).reverse) {w : List α} {i : Nat} (h : i + k ≤ w.length) : repl P' k w.reverse (w.length - k - i) = (repl P k w i).reverse := by
 unfold repl
 rw [List.reverse_append, List.reverse_append, ← hP _ (by rw [List.length_take, List.length_drop]; omega), List.append_assoc]
 have e1 : w.reverse.take (w.length - k - i) = (w.drop (i + k)).reverse := by
  rw [List.take_reverse]; congr 2; omega
 have e2 : (w.reverse.drop (w.length - k - i)).take k = ((w.drop i).take k).reverse := by
  rw [List.drop_reverse, List.take_reverse, List.length_take, show w.length - (w.length - k - i) = i + k by omega, show min (i + k) w.length - k = i by omega]
  congr 1
  rw [List.drop_take]; congr 1; omega
 have e3 : w.reverse.drop (w.length - k - i + k) = (w.take i).reverse := by
  rw [List.drop_reverse]; congr 2; omega
 rw [e1, e2, e3]
theorem mirrorT {H' : List α → Nat → Bool} {P' : List α → List α} (hP : ∀ c, c.length = k → P' c.reverse = (P c).reverse) (hm : ∀ c, c.length = k → (P c).length = m) (hH : ∀ w i, i + k ≤ w.length → H' w.reverse (w.length - k - i) = H w i) :
  ∀ (n : Nat) (w : List α) (i : Nat), (leftT H' P' k n w.reverse (w.length + 1 - k - i)).map (·.2) = (rightT H P k m n w i).map fun x => x.2.reverse
 | 0, _, _ => rfl
 | n + 1, w, i => by
  unfold rightT
  by_cases h1 : w.length < i + k
  ·rw [if_pos h1, show w.length + 1 - k - i = 0 by omega]; rfl
  ·rw [if_neg h1]
   have e : w.length + 1 - k - i = (w.length - k - i) + 1 := by omega
   rw [e]
   unfold leftT
   rw [hH w i (by omega)]
   by_cases hh : H w i = true
   ·rw [if_pos hh, if_pos hh, List.map_cons, List.map_cons, repl_reverse hP (by omega)]
    have hr := repl_length hm (w := w) (i := i) (by omega)
    have := mirrorT hP hm hH n (repl P k w i) (i + m + (if k = 0 then 1 else 0))
    rw [← this]
    have e3 : w.length - k - i + 1 - max k 1 = (repl P k w i).length + 1 - k - (i + m + (if k = 0 then 1 else 0)) := by
     by_cases hk : k = 0
     ·rw [if_pos hk]; omega
     ·rw [if_neg hk]; omega
    rw [e3]
   ·rw [if_neg hh, if_neg hh]
    have := mirrorT hP hm hH n w (i + 1)
    rw [← this, show w.length + 1 - k - (i + 1) = w.length - k - i by omega]

/-! ### A law for each sound alone -/
theorem aloneT {C : α → Bool} (hH : ∀ (w : List α) (i : Nat), H w i = (match w[i]? with | some s => C s | none => false)) (w : List α) : ∀ (n i : Nat) (d : List α), w.length + 1 - i ≤ n →
  ((allT H P 1 w n i d).map (·.2)).getLastD (d ++ w.drop i) = d ++ (w.drop i).flatMap fun s => if C s then P [s] else [s]
 | 0, i, d, h => by
  rw [List.drop_of_length_le (by omega)]; rfl
 | n + 1, i, d, h => by
  unfold allT
  rw [hH w i]
  by_cases hi : i < w.length
  ·rw [List.getElem?_eq_getElem hi, List.drop_eq_getElem_cons hi]
   simp only [List.take_succ_cons, List.take_zero, List.flatMap_cons]
   by_cases hc : C w[i] = true
   ·rw [if_pos hc, if_pos hc, if_neg (by decide)]
    rw [List.map_cons, List.getLastD_cons]
    have := aloneT hH w n (i + 1) (d ++ P [w[i]]) (by omega)
    rw [this, List.append_assoc]
   ·rw [if_neg hc, if_neg hc]
    have := aloneT hH w n (i + 1) (d ++ [w[i]]) (by omega)
    rw [List.append_assoc] at this
    rw [List.singleton_append] at this
    rw [this, List.append_assoc]
  ·rw [List.getElem?_eq_none (by omega), List.drop_of_length_le (by omega)]
   simp only [Bool.false_eq_true, if_false, List.take_nil, List.append_nil, List.flatMap_nil]
   have := aloneT hH w n (i + 1) d (by omega)
   rw [List.drop_of_length_le (by omega)] at this
   simpa using this
end
end Go.Ab

namespace Go.Proofs.YtedhogbocifipaaGreatDoor
open Go.RowKit Go.Ab
attribute [local go_sem] Oper.semAt_some wide_fn wide_depth

theorem wvalid_any (a b : Nat) (ha : a < 4294967296) (hb : b < 4294967296) (w : World) :
  Calls Tryz.prog 122 #[.agg #[.int .u32 (a : Int), .int .u32 (b : Int)]] w fun e w' => e = .returned (.bool (okSound a b)) ∧ Ext w w' := by
 obtain ⟨o1, o2⟩ := okSound_bits ha hb
 have hl : a ||| b < 4294967296 := Nat.or_lt_two_pow (n := 32) ha hb
 have hok : okSound a b = ((a &&& b == 0) && ((a ||| b) / 16777216 == 0)) := rfl
 obtain ⟨x, hx⟩ : ∃ x, (a &&& b == 0) = x := ⟨_, rfl⟩
 obtain ⟨c, hc⟩ : ∃ c, a ||| b = c := ⟨_, rfl⟩
 rw [hx] at o1 hok
 rw [hc] at o2 hok hl
 have q : ((c : Int) / 16777216 == 0) = (c / 16777216 == 0) := by
  apply Bool.eq_iff_iff.2
  rw [beq_iff_eq, beq_iff_eq]; omega
 obtain ⟨y, hy⟩ : ∃ y, (c / 16777216 == 0) = y := ⟨_, rfl⟩
 rw [hy] at q hok
 have HOK := Lib.hid hok
 clear hok hx hc hy
 go_enter Tryz.func122, Tryz.ntmps122
 cases x
 ·go_wp2
  go_ret
  exact ⟨by rw [HOK.out]; rfl, (Turn.refl _ _).alloc _⟩
 ·go_wp2
  go_ret
  exact ⟨by rw [HOK.out]; rfl, (Turn.refl _ _).alloc _⟩

def wE (ws : Wd) : Int := if 32 < ws.length then 11 else if allV ws = true then 0 else 14

theorem wcheck_any {w : World} {v : Value} {ws : Wd} (hv : WordAt w v ws) :
  Calls Tryz.prog 85 #[v] w fun e w' => e = .returned (.int .i64 (wE ws)) ∧ Ext w w' := by
 obtain ⟨ao, cap, rfl, hlm⟩ := hv.slice
 unfold maxLen at hlm
 have HV := Lib.hid hv
 clear hv
 obtain ⟨N, hN⟩ : ∃ N, ws.length = N := ⟨_, rfl⟩
 have HN := Lib.hid hN
 have HE : Hid (wE ws = if 32 < N then 11 else if allV ws = true then 0 else 14) := Lib.hid (by unfold wE; rw [hN])
 rw [hN] at hlm HV ⊢
 clear hN
 by_cases h32 : 32 < N
 ·rw [if_pos h32] at HE
  have h1 : (32 : Int) < (N : Int) := by omega
  go_enter Tryz.func85, Tryz.ntmps85
  go_wp2
  go_ret
  exact ⟨by rw [HE.out]; rfl, Turn.refl _ _⟩
 rw [if_neg h32] at HE
 have h0 : ¬ (32 : Int) < (N : Int) := by omega
 go_enter Tryz.func85, Tryz.ntmps85
 go_wp2
 refine wp_loop (fun a W => ∃ (k : Nat), k ≤ N ∧ a.defers = [] ∧ (a.tmps.size = 18 ∧ a.tmps.getD 8 undef = .slice ao N cap ∧ a.tmps.getD 9 undef = .int .i64 N ∧ a.tmps.getD 10 undef = .int .i64 k) ∧ allV (ws.take k) = true ∧ Ext w W)
  (fun a _ => N - (intOf (a.tmps.getD 10 undef)).toNat) ?_ ?_
 ·exact ⟨0, by omega, rfl, ⟨rfl, rfl, rfl, rfl⟩, by simp [allV], Turn.refl _ _⟩
 rintro ⟨t, _⟩ W ⟨k, hk, hds, ⟨hsz, f8, f9, f10⟩, hall, hE⟩
 subst hds
 obtain ⟨u', hu⟩ := frame_fun hsz
 obtain ⟨u, rfl⟩ : ∃ x, x = u' := ⟨_, rfl⟩
 have hu' : t = #[u 0, u 1, u 2, u 3, u 4, u 5, u 6, u 7, u 8, u 9, u 10, u 11, u 12, u 13, u 14, u 15, u 16, u 17] := hu
 clear hu
 subst hu'
 change u 8 = _ at f8
 change u 9 = _ at f9
 change u 10 = _ at f10
 rw [f8, f9, f10]
 clear f8 f9 f10 hsz
 have HALL := Lib.hid hall
 clear hall
 by_cases hkN : k < N
 ·have h1 : (k : Int) < (N : Int) := by omega
  have hkl : k < ws.length := by rw [HN.out]; exact hkN
  obtain ⟨g, off, cap', he, hg, d1, d2⟩ := (HV.out.ext hE).at hkl
  simp only [Value.slice.injEq] at he
  obtain ⟨rfl, hq', rfl⟩ := he
  clear hq'
  obtain ⟨hs1, hs2⟩ := HV.out.2.get k hkl
  obtain ⟨a, ha⟩ : ∃ a, (ws.getD k (0, 0)).1 = a := ⟨_, rfl⟩
  obtain ⟨b, hb⟩ : ∃ b, (ws.getD k (0, 0)).2 = b := ⟨_, rfl⟩
  rw [ha] at d1 hs1
  rw [hb] at d2 hs2
  have HA := Lib.hid ha; have HB := Lib.hid hb
  clear ha hb
  go_wp2_with fail
  refine (wvalid_any a b hs1 hs2 _).mono ?_
  rintro e W2 ⟨rfl, hE2⟩
  have hE02 : Ext w W2 := hE.trans (Turn.trans ((Turn.refl _ W).alloc _) hE2)
  clear hE hE2 d1 d2
  cases hok : okSound a b
  ·have hfin : allV ws = false := allV_at hkl (by rw [HA.out, HB.out]; exact hok)
   have HF := Lib.hid hfin
   clear hfin hok
   go_wp2
   go_ret
   exact ⟨by rw [HE.out, HF.out]; rfl, hE02⟩
  ·have hfin := allV_take hkl HALL.out (by rw [HA.out, HB.out]; exact hok)
   have HF := Lib.hid hfin
   clear hfin hok
   go_wp2
   exact ⟨⟨k + 1, by omega, by first | rfl | trivial, ⟨rfl, rfl, rfl, rfl⟩, HF.out, hE02⟩, by simp [intOf]; omega⟩
 ·obtain rfl : k = N := by omega
  have h1 : ¬ (k : Int) < (k : Int) := by omega
  have hfin : allV ws = true := by have := HALL.out; rwa [List.take_of_length_le (by rw [HN.out]; exact Nat.le_refl _)] at this
  have HF := Lib.hid hfin
  clear hfin
  go_wp2
  go_ret
  exact ⟨by rw [HE.out, HF.out]; rfl, hE⟩

def goodV (p : Pat) (ws : Wd) : Bool := decide (ws.length ≤ 32) && decide (wE ws = 0) && decide (chkP p = 0)
end Go.Proofs.YtedhogbocifipaaGreatDoor

namespace Go.Proofs.YtedhogbocifipaaGreatDoor
open Go.RowKit Go.Ab

/-- Letters, digits, the hyphen. -/
def letB (c : UInt8) : Bool := (decide (97 ≤ c.toNat) && decide (c.toNat ≤ 122)) || (decide (65 ≤ c.toNat) && decide (c.toNat ≤ 90)) || (decide (48 ≤ c.toNat) && decide (c.toNat ≤ 57)) || decide (c.toNat = 45)
def nameB (s : ByteArray) : Bool := decide (1 ≤ s.size) && decide (s.size ≤ 24) && s.data.toList.all letB
/-- Is an element of Out as it has to be, with k conditions? -/
def fitB (k : Nat) (x : OutD) : Bool :=
 decide (-1 ≤ x.frm) && decide (x.frm < k) && okS x.st && decide (x.cl < 16777216) && decide (x.tk < 16777216) && decide (x.cl &&& (x.st.1 ||| x.st.2) = 0) && decide (x.tk &&& (x.st.1 ||| x.st.2) = 0) && decide (x.tk &&& x.cl = 0) &&
  (if x.tk = 0 then decide (x.ofi = 0) else decide (0 ≤ x.ofi) && decide (x.ofi < k))
/-- Is a law valid? -/
def lawB (l : LawD) : Bool :=
 nameB l.name && decide (chkP l.left = 0) && decide (chkP l.right = 0) && decide (l.ifs.length ≤ 4) && decide (l.outs.length ≤ 6) && decide (l.ifs.length + l.outs.length ≠ 0) && decide (1 ≤ l.mode) && decide (l.mode ≤ 3) && l.ifs.all okS && l.outs.all (fitB l.ifs.length)
def lawE (l : LawD) : Int := if lawB l = true then 0 else 17
def lawW (l : LawD) (ws : Wd) : Int := if lawB l = true then wE ws else 17

/-- Is a place hit? -/
def condB (l : LawD) (ws : Wd) (i : Nat) : Bool := decide (i + l.ifs.length ≤ ws.length) && (List.range l.ifs.length).all fun j => satV (ws.getD (i + j) (0, 0)) (l.ifs.getD j (0, 0))
def fitsB (l : LawD) (ws : Wd) (i : Nat) : Bool := !(begL l.left ws (i : Int)).isEmpty && !(endL l.right ws ((i + l.ifs.length : Nat) : Int)).isEmpty
def hitL (l : LawD) (ws : Wd) (i : Nat) : Bool := condB l ws i && fitsB l ws i
def hitsL (l : LawD) (ws : Wd) : List Nat := (List.range (ws.length + 1)).filter (hitL l ws)
/-- What is put in for what is cut out. -/
def outS (cut : Wd) (x : OutD) : Nat × Nat :=
 if x.tk = 0 then (chgV (if 0 ≤ x.frm then cut.getD x.frm.toNat (0, 0) else (0, 0)) x.cl x.st).1
 else (takV (chgV (if 0 ≤ x.frm then cut.getD x.frm.toNat (0, 0) else (0, 0)) x.cl x.st).1 (cut.getD x.ofi.toNat (0, 0)) x.tk).1
def putL (l : LawD) (cut : Wd) : Wd := l.outs.map (outS cut)
def replL (l : LawD) (ws : Wd) (i : Nat) : Wd := repl (putL l) l.ifs.length ws i
/-- The replacements. -/
def traceL (l : LawD) (ws : Wd) : List (Nat × Wd) :=
 if l.mode = 1 then allT (hitL l) (putL l) l.ifs.length ws (ws.length + 1) 0 []
 else if l.mode = 2 then rightT (hitL l) (putL l) l.ifs.length l.outs.length (ws.length + 1) ws 0
 else leftT (hitL l) (putL l) l.ifs.length (ws.length + 1) ws (ws.length + 1 - l.ifs.length)
/-- What Trace returns: its error, and the replacements. -/
def trE (l : LawD) (ws : Wd) : Int := if lawW l ws = 0 then (if longT (traceL l ws) = true then 11 else 0) else lawW l ws
def trT (l : LawD) (ws : Wd) : List (Nat × Wd) := if trE l ws = 0 then traceL l ws else []
def appL (l : LawD) (ws : Wd) : Wd := if trE l ws = 0 then lastT ws (traceL l ws) else []

theorem hit_le {l : LawD} {ws : Wd} {i : Nat} (h : hitL l ws i = true) : i + l.ifs.length ≤ ws.length := by
 unfold hitL condB at h
 simp only [Bool.and_eq_true, decide_eq_true_eq] at h
 exact h.1.1
theorem putL_length (l : LawD) (cut : Wd) : (putL l cut).length = l.outs.length := List.length_map ..
/-! ### All places: the hits, one after the other -/
section
variable {α : Type} {H : List α → Nat → Bool} {P : List α → List α} {k : Nat}
theorem allT_skip (w : List α) : ∀ (c n i : Nat) (d : List α), (∀ j, i ≤ j → j < i + c → H w j = false) → allT H P k w (n + c) i d = allT H P k w n (i + c) (d ++ (w.drop i).take c)
 | 0, n, i, d, _ => by simp
 | c + 1, n, i, d, h => by
  rw [show n + (c + 1) = (n + c) + 1 from by omega]
  conv => lhs; unfold allT
  rw [if_neg (by rw [h i (by omega) (by omega)]; decide), allT_skip w c n (i + 1) _ (fun j h1 h2 => h j (by omega) (by omega)), show i + 1 + c = i + (c + 1) by omega, List.append_assoc]
  congr 2
  rw [show (w.drop i).take (c + 1) = (w.drop i).take 1 ++ ((w.drop i).drop 1).take c from by
   rw [show c + 1 = 1 + c by omega, List.take_add]]
  rw [List.drop_drop]
theorem allT_none (w : List α) : ∀ (n i : Nat) (d : List α), (∀ j, i ≤ j → H w j = false) → allT H P k w n i d = []
 | 0, _, _, _ => rfl
 | n + 1, i, d, h => by
  unfold allT
  rw [if_neg (by rw [h i (by omega)]; decide)]
  exact allT_none w n (i + 1) _ (fun j hj => h j (by omega))
end

theorem pair_split {p : Nat → Bool} {n : Nat} {pre rest : List Nat} {a : Nat} (h : (List.range n).filter p = pre ++ a :: rest) :
  p a = true ∧ a < n ∧ (∀ j, j < a → p j = true → j ∈ pre) ∧ (∀ j ∈ pre, j < a) := by
 have hs : ((List.range n).filter p).Pairwise (· < ·) := List.Pairwise.filter _ List.pairwise_lt_range
 have ha : a ∈ (List.range n).filter p := by rw [h]; simp
 have ha := List.mem_filter.1 ha
 rw [h, List.pairwise_append] at hs
 obtain ⟨h1, h2, h3⟩ := hs
 refine ⟨ha.2, List.mem_range.1 ha.1, fun j hj hp => ?_, fun j hj => h3 j hj a (by simp)⟩
 have hm : j ∈ (List.range n).filter p := List.mem_filter.2 ⟨List.mem_range.2 (by have := List.mem_range.1 ha.1; omega), hp⟩
 rw [h] at hm
 rcases List.mem_append.1 hm with hm | hm
 ·exact hm
 ·rcases List.mem_cons.1 hm with rfl | hm
  ·omega
  ·have := (List.pairwise_cons.1 h2).1 j hm; omega

/-- Where the program stands in ModeAll: behind the hits pre; tr: what it has yielded; next; d: what has become of the beginning (before next). -/
def AllAt (l : LawD) (ws : Wd) (pre : List Nat) (tr : List (Nat × Wd)) (next : Nat) (d : Wd) : Prop :=
 (∃ n, ws.length + 1 - next ≤ n ∧ traceL l ws = tr ++ allT (hitL l) (putL l) l.ifs.length ws n next d) ∧ (∀ j ∈ pre, j < next) ∧ (next ≤ ws.length → d.length + tr.length * l.ifs.length = next + tr.length * l.outs.length)
theorem AllAt.start {l : LawD} {ws : Wd} (h : l.mode = 1) : AllAt l ws [] [] 0 [] :=
 ⟨⟨ws.length + 1, by omega, by unfold traceL; rw [if_pos h]; rfl⟩, fun _ h => by simp at h, fun _ => by simp⟩
theorem AllAt.pass {l : LawD} {ws : Wd} {pre : List Nat} {tr : List (Nat × Wd)} {next a : Nat} {d : Wd} (h : AllAt l ws pre tr next d) (ha : a < next) : AllAt l ws (pre ++ [a]) tr next d :=
 ⟨h.1, fun j hj => by rcases List.mem_append.1 hj with hj | hj; exact h.2.1 j hj; simp at hj; omega, h.2.2⟩
theorem AllAt.hit {l : LawD} {ws : Wd} {pre rest : List Nat} {tr : List (Nat × Wd)} {next a : Nat} {d : Wd} (h : AllAt l ws pre tr next d) (hx : hitsL l ws = pre ++ a :: rest) (ha : next ≤ a) :
  ∃ d1, d1 = d ++ (ws.drop next).take (a - next) ∧ d1.length + tr.length * l.ifs.length = a + tr.length * l.outs.length ∧
   AllAt l ws (pre ++ [a]) (tr ++ [(a, d1 ++ putL l ((ws.drop a).take l.ifs.length) ++ ws.drop (a + l.ifs.length))]) (a + max l.ifs.length 1) (if l.ifs.length = 0 then d1 ++ putL l ((ws.drop a).take l.ifs.length) ++ (ws.drop a).take 1 else d1 ++ putL l ((ws.drop a).take l.ifs.length)) := by
 obtain ⟨⟨n, hn, ht⟩, h2, h3⟩ := h
 obtain ⟨p1, p2, p3, p4⟩ := pair_split hx
 have hle := hit_le p1
 have hno : ∀ j, next ≤ j → j < next + (a - next) → hitL l ws j = false := fun j hj1 hj2 => by
  cases hh : hitL l ws j with
  | false => rfl
  | true => have := h2 j (p3 j (by omega) hh); omega
 have hlen : (d ++ (ws.drop next).take (a - next)).length + tr.length * l.ifs.length = a + tr.length * l.outs.length := by
  have := h3 (by omega)
  rw [List.length_append, List.length_take, List.length_drop]; omega
 refine ⟨_, rfl, hlen, ?_, ?_, ?_⟩
 ·obtain ⟨n', rfl⟩ : ∃ n', n = n' + (a - next) := ⟨n - (a - next), by omega⟩
  rw [allT_skip ws (a - next) n' next d hno, show next + (a - next) = a by omega] at ht
  obtain ⟨n'', rfl⟩ : ∃ n'', n' = n'' + 1 := ⟨n' - 1, by omega⟩
  unfold allT at ht
  rw [if_pos p1] at ht
  refine ⟨n'', by omega, ?_⟩
  rw [ht]
  by_cases hk : l.ifs.length = 0
  ·rw [if_pos hk, if_pos hk, show a + max l.ifs.length 1 = a + 1 by omega]; simp
  ·rw [if_neg hk, if_neg hk, show a + max l.ifs.length 1 = a + l.ifs.length by omega]; simp
 ·intro j hj
  rcases List.mem_append.1 hj with hj | hj
  ·have := p4 j hj; omega
  ·simp at hj; omega
 ·intro hlen2
  rw [List.length_append, List.length_singleton, Nat.add_mul, Nat.add_mul]
  by_cases hk : l.ifs.length = 0
  ·rw [if_pos hk, List.length_append, List.length_append, putL_length, List.length_take, List.length_drop]; rw [hk] at hlen hlen2 ⊢; simp at hlen hlen2 ⊢; omega
  ·rw [if_neg hk, List.length_append, putL_length]; omega
theorem AllAt.done {l : LawD} {ws : Wd} {tr : List (Nat × Wd)} {next : Nat} {d : Wd} (h : AllAt l ws (hitsL l ws) tr next d) : traceL l ws = tr := by
 obtain ⟨⟨n, hn, ht⟩, h2, h3⟩ := h
 rw [ht, allT_none, List.append_nil]
 intro j hj
 cases hh : hitL l ws j with
 | false => rfl
 | true =>
  have := h2 j (List.mem_filter.2 ⟨List.mem_range.2 (by have := hit_le hh; omega), hh⟩)
  omega
end Go.Proofs.YtedhogbocifipaaGreatDoor

namespace Go.Proofs.YtedhogbocifipaaGreatDoor
open Go.RowKit Go.Ab
/-- The numbers From. -/
def frmL (l : LawD) : List Int := l.outs.map (·.frm)
def kindV (l : LawD) : Int := if lawB l = true then (if l.outs.length < l.ifs.length then 2 else if l.ifs.length < l.outs.length then 3 else kindF (frmL l)) else 0
end Go.Proofs.YtedhogbocifipaaGreatDoor

namespace Go.Ab
open Go.RowKit

def intV (L : List Int) : List Value := L.map fun x => Value.int .i64 x
theorem intV_get (L : List Int) {i : Nat} (h : i < L.length) : (intV L)[i]? = some (.int .i64 (L.getD i 0)) := by
 unfold intV; rw [List.getElem?_map, List.getElem?_eq_getElem h, List.getD_eq_getElem?_getD, List.getElem?_eq_getElem h]; rfl
theorem intV_set (L : List Int) (i : Nat) (x : Int) : (intV L).set i (.int .i64 x) = intV (L.set i x) := by unfold intV; rw [List.map_set]
theorem intV_append (L : List Int) (x : Int) : intV (L ++ [x]) = intV L ++ [.int .i64 x] := by simp [intV]
/-- Neighbours in order. -/
def sortedB (L : List Int) : Bool := decide (∀ i, i < L.length → i + 1 < L.length → L.getD i 0 ≤ L.getD (i + 1) 0)
theorem pairs_sorted {L : List Int} (h : ∀ p q, p < q → q < L.length → L.getD p 0 ≤ L.getD q 0) : L.Pairwise (· ≤ ·) := by
 rw [List.pairwise_iff_getElem]
 intro i j hi hj hij
 have := h i j hij hj
 rwa [List.getD_eq_getElem?_getD, List.getElem?_eq_getElem hi, List.getD_eq_getElem?_getD, List.getElem?_eq_getElem hj] at this
theorem sorted_pairs {L : List Int} (h : L.Pairwise (· ≤ ·)) : ∀ p q, p < q → q < L.length → L.getD p 0 ≤ L.getD q 0 := by
 intro i j hij hj
 have := List.pairwise_iff_getElem.1 h i j (by omega) hj hij
 rwa [List.getD_eq_getElem?_getD, List.getElem?_eq_getElem (by omega), List.getD_eq_getElem?_getD, List.getElem?_eq_getElem hj]
theorem sortedB_iff {L : List Int} : sortedB L = true ↔ L.Pairwise (· ≤ ·) := by
 unfold sortedB
 rw [decide_eq_true_eq]
 constructor
 ·intro h
  refine pairs_sorted fun p q hpq hq => ?_
  obtain ⟨d, rfl⟩ : ∃ d, q = p + 1 + d := ⟨q - p - 1, by omega⟩
  induction d with
  | zero => exact h p (by omega) (by omega)
  | succ d ih => exact Int.le_trans (ih (by omega) (by omega)) (h (p + 1 + d) (by omega) (by omega))
 ·intro h i h1 h2
  exact sorted_pairs h i (i + 1) (by omega) h2
/-- The neighbours below j + 1 exchanged. -/
def swapL (X : List Int) (j : Nat) : List Int := (X.set (j + 1) (X.getD j 0)).set j (X.getD (j + 1) 0)
theorem swapL_get (X : List Int) {j : Nat} (h : j + 1 < X.length) (k : Nat) : (swapL X j).getD k 0 = if k = j then X.getD (j + 1) 0 else if k = j + 1 then X.getD j 0 else X.getD k 0 := by
 unfold swapL
 rw [List.getD_eq_getElem?_getD, List.getElem?_set]
 by_cases h1 : j = k
 ·subst h1
  rw [if_pos rfl, if_pos rfl, List.length_set, if_pos (by omega)]; rfl
 ·rw [if_neg h1, if_neg (fun e => h1 e.symm), List.getElem?_set]
  by_cases h2 : j + 1 = k
  ·subst h2; rw [if_pos rfl, if_pos rfl, if_pos h]; rfl
  ·rw [if_neg h2, if_neg (fun e => h2 e.symm), List.getD_eq_getElem?_getD]
theorem swapL_perm (X : List Int) {j : Nat} (h : j + 1 < X.length) : (swapL X j).Perm X := by
 have e1 : X.getD j 0 = X[j] := by rw [List.getD_eq_getElem?_getD, List.getElem?_eq_getElem (by omega)]; rfl
 have e2 : X.getD (j + 1) 0 = X[j + 1] := by rw [List.getD_eq_getElem?_getD, List.getElem?_eq_getElem h]; rfl
 unfold swapL
 rw [e1, e2]
 exact List.set_set_perm h (show j < X.length by omega)
/-- Sorted up to i but for the one at j. -/
def InsAt (X : List Int) (i j : Nat) : Prop := ∀ p q, p < q → q ≤ i → q ≠ j → X.getD p 0 ≤ X.getD q 0
theorem InsAt.start {X : List Int} {i : Nat} (h : ∀ p q, p < q → q < i → X.getD p 0 ≤ X.getD q 0) : InsAt X i i := fun p q h1 h2 h3 => h p q h1 (by omega)
theorem InsAt.swap {X : List Int} {i j : Nat} (h : InsAt X i (j + 1)) (hi : j + 1 ≤ i) (hl : i < X.length) (hlt : X.getD (j + 1) 0 < X.getD j 0) : InsAt (swapL X j) i j := by
 intro p q h1 h2 h3
 rw [swapL_get X (by omega), swapL_get X (by omega), if_neg h3]
 by_cases hq : q = j + 1
 ·subst hq
  rw [if_pos rfl]
  by_cases hp : p = j
  ·subst hp; rw [if_pos rfl]; omega
  ·rw [if_neg hp, if_neg (by omega)]; exact h p j (by omega) (by omega) (by omega)
 ·rw [if_neg hq]
  by_cases hp : p = j
  ·subst hp
   rw [if_pos rfl]
   exact h (p + 1) q (by omega) h2 hq
  ·rw [if_neg hp]
   by_cases hp2 : p = j + 1
   ·subst hp2
    rw [if_pos rfl]
    exact h j q (by omega) h2 hq
   ·rw [if_neg hp2]; exact h p q h1 h2 hq
theorem InsAt.stop {X : List Int} {i j : Nat} (h : InsAt X i j) (hj : j ≤ i) (hs : j = 0 ∨ ∃ k, j = k + 1 ∧ ¬ X.getD (k + 1) 0 < X.getD k 0) : ∀ p q, p < q → q < i + 1 → X.getD p 0 ≤ X.getD q 0 := by
 intro p q h1 h2
 by_cases hq : q = j
 ·subst hq
  rcases hs with rfl | ⟨k, rfl, hk⟩
  ·omega
  ·by_cases hp : p = k
   ·subst hp; omega
   ·exact Int.le_trans (h p k (by omega) (by omega) (by omega)) (by omega)
 ·exact h p q h1 (by omega) hq
end Go.Ab

namespace Go.Proofs.YtedhogbocifipaaGreatDoor
open Go.RowKit Go.Ab

/-- What is known of a valid law. -/
theorem lawB_parts {l : LawD} (h : lawB l = true) : l.ifs.length ≤ 4 ∧ l.outs.length ≤ 6 ∧ l.ifs.length + l.outs.length ≠ 0 ∧ (1 ≤ l.mode ∧ l.mode ≤ 3) ∧ (∀ x ∈ l.outs, fitB l.ifs.length x = true) ∧ chkP l.left = 0 ∧ chkP l.right = 0 ∧ (∀ s ∈ l.ifs, okS s = true) := by
 unfold lawB at h
 simp only [Bool.and_eq_true, decide_eq_true_eq] at h
 obtain ⟨⟨⟨⟨⟨⟨⟨⟨⟨_, h1⟩, h2⟩, h3⟩, h4⟩, h5⟩, h6⟩, h7⟩, h8⟩, h9⟩ := h
 exact ⟨h3, h4, h5, ⟨h6, h7⟩, List.all_eq_true.1 h9, h1, h2, List.all_eq_true.1 h8⟩
theorem replL_length {l : LawD} {u : Wd} {i : Nat} (h : i + l.ifs.length ≤ u.length) : (replL l u i).length + l.ifs.length = u.length + l.outs.length :=
 repl_length (fun c _ => putL_length l c) h

/-- ModeRight. -/
def RightAt (l : LawD) (ws : Wd) (tr : List (Nat × Wd)) (u : Wd) (i : Nat) : Prop :=
 (∃ n, u.length + 1 - i ≤ n ∧ traceL l ws = tr ++ rightT (hitL l) (putL l) l.ifs.length l.outs.length n u i) ∧ tr.length + (u.length + 1 - i) ≤ ws.length + 1 ∧ u.length ≤ ws.length + tr.length * l.outs.length ∧ i ≤ u.length + 1
theorem RightAt.start {l : LawD} {ws : Wd} (h : l.mode = 2) : RightAt l ws [] ws 0 :=
 ⟨⟨ws.length + 1, by omega, by unfold traceL; rw [if_neg (by omega), if_pos h]; rfl⟩, by simp, by simp, by omega⟩
theorem RightAt.miss {l : LawD} {ws : Wd} {tr : List (Nat × Wd)} {u : Wd} {i : Nat} (h : RightAt l ws tr u i) (hi : i + l.ifs.length ≤ u.length) (hh : hitL l u i = false) : RightAt l ws tr u (i + 1) := by
 obtain ⟨⟨n, hn, ht⟩, h2, h3, h4⟩ := h
 obtain ⟨n', rfl⟩ : ∃ n', n = n' + 1 := ⟨n - 1, by omega⟩
 unfold rightT at ht
 rw [if_neg (by omega), if_neg (by rw [hh]; decide)] at ht
 exact ⟨⟨n', by omega, ht⟩, by omega, h3, by omega⟩
theorem RightAt.hit {l : LawD} {ws : Wd} {tr : List (Nat × Wd)} {u : Wd} {i : Nat} (h : RightAt l ws tr u i) (hh : hitL l u i = true) :
  RightAt l ws (tr ++ [(i, replL l u i)]) (replL l u i) (i + l.outs.length + (if l.ifs.length = 0 then 1 else 0)) ∧ ∃ rest, traceL l ws = tr ++ (i, replL l u i) :: rest := by
 have hi := hit_le hh
 have hl := replL_length hi
 obtain ⟨⟨n, hn, ht⟩, h2, h3, h4⟩ := h
 obtain ⟨n', rfl⟩ : ∃ n', n = n' + 1 := ⟨n - 1, by omega⟩
 unfold rightT at ht
 rw [if_neg (by omega), if_pos hh] at ht
 have hz : (if l.ifs.length = 0 then 1 else 0 : Nat) + l.ifs.length ≥ 1 := by split <;> omega
 have hz2 : (if l.ifs.length = 0 then 1 else 0 : Nat) ≤ 1 := by split <;> omega
 obtain ⟨z, hze⟩ : ∃ z, (if l.ifs.length = 0 then 1 else 0 : Nat) = z := ⟨_, rfl⟩
 rw [hze] at ht hz hz2 ⊢
 refine ⟨⟨⟨n', by omega, by rw [ht]; simp [replL]⟩, ?_, ?_, by omega⟩, _, ht⟩
 ·rw [List.length_append, List.length_singleton]; omega
 ·rw [List.length_append, List.length_singleton, Nat.add_mul]; omega
theorem RightAt.done {l : LawD} {ws : Wd} {tr : List (Nat × Wd)} {u : Wd} {i : Nat} (h : RightAt l ws tr u i) (hi : u.length < i + l.ifs.length) : traceL l ws = tr := by
 obtain ⟨⟨n, hn, ht⟩, h2, h3, h4⟩ := h
 rw [ht]
 cases n with
 | zero => simp [rightT]
 | succ n => unfold rightT; rw [if_pos hi, List.append_nil]

/-- ModeLeft: the places below i are left. -/
def LeftAt (l : LawD) (ws : Wd) (tr : List (Nat × Wd)) (u : Wd) (i : Nat) : Prop :=
 (∃ n, i ≤ n ∧ traceL l ws = tr ++ leftT (hitL l) (putL l) l.ifs.length n u i) ∧ tr.length + i ≤ ws.length + 1 ∧ u.length ≤ ws.length + tr.length * l.outs.length ∧ i + l.ifs.length ≤ u.length + 1 + (if i = 0 then l.ifs.length else 0)
theorem LeftAt.start {l : LawD} {ws : Wd} (h : l.mode ≠ 1) (h2 : l.mode ≠ 2) : LeftAt l ws [] ws (ws.length + 1 - l.ifs.length) :=
 ⟨⟨ws.length + 1, by omega, by unfold traceL; rw [if_neg h, if_neg h2]; rfl⟩, by simp, by simp, by split <;> omega⟩
theorem LeftAt.miss {l : LawD} {ws : Wd} {tr : List (Nat × Wd)} {u : Wd} {i : Nat} (h : LeftAt l ws tr u (i + 1)) (hh : hitL l u i = false) : LeftAt l ws tr u i := by
 obtain ⟨⟨n, hn, ht⟩, h2, h3, h4⟩ := h
 obtain ⟨n', rfl⟩ : ∃ n', n = n' + 1 := ⟨n - 1, by omega⟩
 unfold leftT at ht
 rw [if_neg (by rw [hh]; decide)] at ht
 rw [if_neg (by omega)] at h4
 exact ⟨⟨n', by omega, ht⟩, by omega, h3, by omega⟩
theorem LeftAt.le {l : LawD} {ws : Wd} {tr : List (Nat × Wd)} {u : Wd} {i : Nat} (h : LeftAt l ws tr u (i + 1)) : i + l.ifs.length ≤ u.length := by
 obtain ⟨_, _, _, h4⟩ := h
 rw [if_neg (by omega)] at h4
 omega
theorem LeftAt.hit {l : LawD} {ws : Wd} {tr : List (Nat × Wd)} {u : Wd} {i : Nat} (h : LeftAt l ws tr u (i + 1)) (hh : hitL l u i = true) :
  LeftAt l ws (tr ++ [(i, replL l u i)]) (replL l u i) (i + 1 - max l.ifs.length 1) ∧ ∃ rest, traceL l ws = tr ++ (i, replL l u i) :: rest := by
 have hi := h.le
 have hl := replL_length hi
 obtain ⟨⟨n, hn, ht⟩, h2, h3, h4⟩ := h
 obtain ⟨n', rfl⟩ : ∃ n', n = n' + 1 := ⟨n - 1, by omega⟩
 unfold leftT at ht
 rw [if_pos hh] at ht
 refine ⟨⟨⟨n', by omega, by rw [ht]; simp [replL]⟩, ?_, ?_, ?_⟩, _, ht⟩
 ·rw [List.length_append, List.length_singleton]; omega
 ·rw [List.length_append, List.length_singleton, Nat.add_mul]; omega
 ·split <;> omega
theorem LeftAt.done {l : LawD} {ws : Wd} {tr : List (Nat × Wd)} {u : Wd} (h : LeftAt l ws tr u 0) : traceL l ws = tr := by
 obtain ⟨⟨n, hn, ht⟩, _⟩ := h
 rw [ht]
 cases n with
 | zero => simp [leftT]
 | succ n => simp [leftT]
theorem few {t n m : Nat} (h : t ≤ n) (hm : m ≤ 6) (hn : n ≤ 33) : t * m ≤ 198 := Nat.le_trans (Nat.mul_le_mul (Nat.le_trans h hn) hm) (by decide)
end Go.Proofs.YtedhogbocifipaaGreatDoor

namespace Go.Ab
open Go.RowKit

/-- THE ITERATOR gf, with what it has captured, hands out xs in their order. K: the blocks that a round must leave as they lie; O: the blocks that the iterator has made itself, and that a round leaves too; M: those of them that it turns (n: the heap's size at the call). -/
def IterO {α : Type} (P : Program) (gf : Nat) (lb : Array Value) (M : Nat → Nat → Prop) (E : Nat → (Nat → Prop) → α → World → Array Value → Prop) (xs : List α) (K : Nat → Prop) (w : World) : Prop :=
 ∀ (l : Nat) (J Jx : (Nat → Prop) → List α → World → Prop) (W : World), Turn (fun b => ¬ K b) w W →
  (∀ O O' pre A B, J O pre A → Turn (fun b => O b ∧ M W.heap.size b) A B → (∀ b, O' b → (O b ∨ A.heap.size ≤ b) ∧ b < B.heap.size) → J O' pre B) →
  (∀ O O' pre A B, Jx O pre A → Turn (fun b => O b ∧ M W.heap.size b) A B → (∀ b, O' b → (O b ∨ A.heap.size ≤ b) ∧ b < B.heap.size) → Jx O' pre B) →
  (∀ O pre x rest A ys, xs = pre ++ x :: rest → J O pre A → E W.heap.size O x A ys → YieldAt Fence.wide 0 P l ys A fun e B =>
   (e = .returned (.bool true) ∧ J O (pre ++ [x]) B ∧ Turn (fun b => ¬ K b ∧ ¬ O b) A B) ∨ (e = .returned (.bool false) ∧ Jx O (pre ++ [x]) B ∧ Turn (fun b => ¬ K b ∧ ¬ O b) A B)) →
  J (fun _ => False) [] W →
  Calls P gf (#[.func (.yield l) #[] #[]] ++ lb) W fun e B => (∃ v, e = .returned v) ∧ ∃ O, (J O xs B ∨ ∃ pre x rest, xs = pre ++ x :: rest ∧ Jx O (pre ++ [x]) B)

/-- 'for x := range seq { .. }'. D: the block of the rounds' deferred calls; D + 1: the loop's record. The body keeps K, O, D and D + 1. -/
theorem wp_rangeO {α : Type} {P : Program} {g : Operand} {ps : Array Tmp} {assign body : Code} {Q : Exit → Act → World → Prop} {a : Act} {w : World}
  {gf : Nat} {lb : Array Value} (hg : a.eval g = .func (.func gf) #[] lb) (eg : ∀ args w, (callFunc gf args).run P w = .ok (.enter gf args) w)
  {M : Nat → Nat → Prop} {E : Nat → (Nat → Prop) → α → World → Array Value → Prop} {xs : List α} {K : Nat → Prop} (hseq : IterO P gf lb M E xs K w) (hK : ∀ b, K b → b < w.heap.size) (hps : ∀ n O x A ys, E n O x A ys → ys.size = ps.size)
  (hEs : ∀ n O x A B ys, E n O x A ys → Turn (fun b => b = w.heap.size + 1) A B → (∃ o, A.heap[w.heap.size + 1]? = some o ∧ o.isCells = false) → E n O x B ys)
  (I : (Nat → Prop) → List α → World → Prop) (Ix : Code → (Nat → Prop) → List α → World → Prop)
  (hI : ∀ O O' pre A B, I O pre A → (∀ b, O b → w.heap.size + 2 ≤ b ∧ b < A.heap.size) → Turn (fun b => (O b ∧ M (w.heap.size + 2) b) ∨ b = w.heap.size + 1) A B → (∀ b, O' b → (O b ∨ A.heap.size ≤ b) ∧ b < B.heap.size) → I O' pre B)
  (hIx : ∀ c O O' pre A B, Ix c O pre A → (∀ b, O b → w.heap.size + 2 ≤ b ∧ b < A.heap.size) → Turn (fun b => (O b ∧ M (w.heap.size + 2) b) ∨ b = w.heap.size + 1) A B → (∀ b, O' b → (O b ∨ A.heap.size ≤ b) ∧ b < B.heap.size) → Ix c O' pre B)
  (h0 : ∀ W, Ext w W → W.heap.size = w.heap.size + 2 → I (fun _ => False) [] W) (up : Array Value → Array Value → Array Value)
  (hassign : ∀ (n : Nat) (O : Nat → Prop) (x : α) (ys : Array Value) (W : World) (Kn : Act → World → Prop), E n O x W ys → Kn { tmps := up ys a.tmps, defers := [] } W →
   assign.wpIn (Fence.wide.inRound (w.heap.size + 1)) 0 P (Exit.then Kn (fun _ _ _ => False)) { tmps := (ps.zip ys).foldl (fun t (p, v) => t.setIfInBounds p v) a.tmps, defers := [] } W)
  (hbody : ∀ (O : Nat → Prop) (pre : List α) (x : α) (rest : List α) (ys : Array Value) (W : World), xs = pre ++ x :: rest → w.heap.size + 2 ≤ W.heap.size → (∀ b, O b → w.heap.size + 2 ≤ b ∧ b < W.heap.size) → Turn (fun b => ¬ K b) w W → I O pre W → E (w.heap.size + 2) O x W ys →
   body.wpIn (Fence.wide.inRound (w.heap.size + 1)) 0 P (roundQ (fun b => K b ∨ O b ∨ b = w.heap.size ∨ b = w.heap.size + 1) (I O) (fun c => Ix c O) (pre ++ [x]) W) { tmps := up ys a.tmps, defers := [] } W)
  (hdone : ∀ O W, I O xs W → (∀ b, O b → w.heap.size + 2 ≤ b ∧ b < W.heap.size) → Turn (fun b => ¬ K b) w W → W.heap[w.heap.size]? = some (.deferred (some [])) → Q .normal { a with defers := { target := .collected w.heap.size, args := #[] } :: a.defers } W)
  (hstop : ∀ c O pre x rest W, xs = pre ++ x :: rest → Ix c O (pre ++ [x]) W → W.heap[w.heap.size]? = some (.deferred (some [])) → c.wp P Q { a with defers := { target := .collected w.heap.size, args := #[] } :: a.defers } W) :
  (Code.rangeFunc g ps assign body).wp P Q a w := by
 refine (wpIn_wide (n := 0)).1 (wpIn_rangeFunc ?_)
 intro fn _
 obtain ⟨rec, hrec⟩ : ∃ rec : LoopState → Option Code → Loop, rec = fun st pe => { state := st, pending := pe, fn, tmps := a.tmps, params := ps, assign, body, defers := w.heap.size } := ⟨_, rfl⟩
 obtain ⟨W1, hW1⟩ : ∃ W1, (w.alloc (.deferred (some []))).alloc (.loop (rec .ready none)) = W1 := ⟨_, rfl⟩
 have hL1 : W1.heap[w.heap.size + 1]? = some (.loop (rec .ready none)) := by
  rw [← hW1]; have := World.alloc_heap_new (w.alloc (.deferred (some []))) (.loop (rec .ready none)); rwa [World.size_alloc] at this
 have hD1 : W1.heap[w.heap.size]? = some (.deferred (some [])) := by
  rw [← hW1]; exact (Below.heap_alloc _ _ _ (by simp)).trans (World.alloc_heap_new w _)
 have hE1 : Ext w W1 := by rw [← hW1]; exact ((Turn.refl _ w).alloc _).alloc _
 have hs1 : W1.heap.size = w.heap.size + 2 := by rw [← hW1]; simp
 have hput : ∀ (O : Nat → Prop) (X : World) o, Turn (fun b => (O b ∧ M (w.heap.size + 2) b) ∨ b = w.heap.size + 1) X (X.putObj (w.heap.size + 1) o) := fun O X o => (Turn.refl _ X).putObj (.inr (.inr rfl)) o
 have hputK : ∀ (X : World) o, Turn (fun b => ¬ K b) X (X.putObj (w.heap.size + 1) o) := fun X o => (Turn.refl _ X).putObj (.inr (fun hk => by have := hK _ hk; omega)) o
 refine ⟨w.heap.size + 1, [{ target := .collected w.heap.size, args := #[] }], W1, { target := .fn (.func gf) lb, args := #[.func (.yield (w.heap.size + 1)) #[] #[]] }, W1, gf,
  #[.func (.yield (w.heap.size + 1)) #[] #[]] ++ lb, W1, ?_, ?_, fun _ _ => trivial, ?_, fun h => by simp [Fence.wide] at h, ?_⟩
 ·rw [← hW1, hrec]; exact run_enterLoop_outer _ _ _ _ _
 ·simp only [resolve, hg]
  simp [go_sem]
 ·simp [invoke, go_sem, eg]
 ·refine callsIn_wide.2 ((hseq (w.heap.size + 1)
   (fun O pre W => I O pre W ∧ (∀ b, O b → w.heap.size + 2 ≤ b ∧ b < W.heap.size) ∧ W.heap[w.heap.size + 1]? = some (.loop (rec .ready none)) ∧ W.heap[w.heap.size]? = some (.deferred (some [])) ∧ Turn (fun b => ¬ K b) w W ∧ w.heap.size + 2 ≤ W.heap.size)
   (fun O pre W => ∃ c, Ix c O pre W ∧ (∀ b, O b → w.heap.size + 2 ≤ b ∧ b < W.heap.size) ∧ W.heap[w.heap.size + 1]? = some (.loop (rec .done (some c))) ∧ W.heap[w.heap.size]? = some (.deferred (some [])) ∧ w.heap.size + 2 ≤ W.heap.size)
   W1 hE1.of ?_ ?_ ?_ ⟨h0 _ hE1 hs1, fun b hb => hb.elim, hL1, hD1, hE1.of, by omega⟩).mono ?_)
  ·rintro O O' pre A B ⟨h1, h6, h2, h3, h4, h5⟩ ht hO
   rw [hs1] at ht
   refine ⟨hI _ _ _ _ _ h1 h6 (ht.mono fun b _ hb => .inl hb) hO, fun b hb => ?_, ht.heap h2 (fun hb => ?_), ht.heap h3 (fun hb => ?_), h4.after ht (fun b hlt hb => ?_), Nat.le_trans h5 ht.size⟩
   ·obtain ⟨h7, h8⟩ := hO b hb
    exact ⟨h7.elim (fun h => (h6 b h).1) (fun h => Nat.le_trans h5 h), h8⟩
   ·have := (h6 _ hb.1).1; omega
   ·have := (h6 _ hb.1).1; omega
   ·have := (h6 _ hb.1).1; omega
  ·rintro O O' pre A B ⟨c, h1, h6, h2, h3, h5⟩ ht hO
   rw [hs1] at ht
   refine ⟨c, hIx _ _ _ _ _ _ h1 h6 (ht.mono fun b _ hb => .inl hb) hO, fun b hb => ?_, ht.heap h2 (fun hb => ?_), ht.heap h3 (fun hb => ?_), Nat.le_trans h5 ht.size⟩
   ·obtain ⟨h7, h8⟩ := hO b hb
    exact ⟨h7.elim (fun h => (h6 b h).1) (fun h => Nat.le_trans h5 h), h8⟩
   ·have := (h6 _ hb.1).1; omega
   ·have := (h6 _ hb.1).1; omega
  · -- one round
   rintro O pre x rest W ys hx ⟨hi, hO, hl, hd, ht, hsz⟩ hen
   rw [hs1] at hen
   have hlt : w.heap.size + 1 < W.heap.size := by omega
   have hy := run_yield (P := P) (args := ys) hl (by rw [hrec]; exact hps _ _ x _ _ hen)
   rw [hrec] at hy
   refine ⟨fn, _, assign, body, hy, roundIn_of_wpIn trivial (hassign _ _ x ys W _ hen ?_)⟩
   clear hy
   refine ⟨_, run_beginRound hl (by rw [hrec]), ?_⟩
   have hl2 : (W.putObj (w.heap.size + 1) (.loop { rec .ready none with state := .busy })).heap[w.heap.size + 1]? = some (.loop { rec .ready none with state := .busy }) := World.putObj_heap_same hlt
   have hd2 : (W.putObj (w.heap.size + 1) (.loop { rec .ready none with state := .busy })).heap[w.heap.size]? = some (.deferred (some [])) := (World.putObj_heap_other (by omega)).trans hd
   have hO2 : ∀ b, O b → w.heap.size + 2 ≤ b ∧ b < (W.putObj (w.heap.size + 1) (.loop { rec .ready none with state := .busy })).heap.size := fun b hb => by simpa using hO b hb
   have hen2 : E (w.heap.size + 2) O x (W.putObj (w.heap.size + 1) (.loop { rec .ready none with state := .busy })) ys := hEs _ _ _ _ _ _ hen ((Turn.refl (fun b => b = w.heap.size + 1) W).putObj (.inr rfl) _) ⟨_, hl, rfl⟩
   refine wpIn_mono (hbody O pre x rest ys _ hx (by simpa using hsz) hO2 (ht.trans (hputK W _)) (hI _ _ _ _ _ hi hO (hput O W _) (fun b hb => ⟨.inl hb, (hO2 b hb).2⟩)) hen2) ?_
   have fin : ∀ (jump : Option Code) (W3 : World), Turn (fun b => ¬ (K b ∨ O b ∨ b = w.heap.size ∨ b = w.heap.size + 1)) (W.putObj (w.heap.size + 1) (.loop { rec .ready none with state := .busy })) W3 →
     (Instr.endRound (w.heap.size + 1) jump).run P W3 = .ok (.bool jump.isNone) (W3.putObj (w.heap.size + 1) (.loop (rec (if jump.isNone then .ready else .done) jump))) ∧
     (W3.putObj (w.heap.size + 1) (.loop (rec (if jump.isNone then .ready else .done) jump))).heap[w.heap.size + 1]? = some (.loop (rec (if jump.isNone then .ready else .done) jump)) ∧
     (W3.putObj (w.heap.size + 1) (.loop (rec (if jump.isNone then .ready else .done) jump))).heap[w.heap.size]? = some (.deferred (some [])) ∧
     Turn (fun b => ¬ K b ∧ ¬ O b) W (W3.putObj (w.heap.size + 1) (.loop (rec (if jump.isNone then .ready else .done) jump))) ∧ (∀ b, O b → w.heap.size + 2 ≤ b ∧ b < W3.heap.size) := fun jump W3 hk3 => by
    have hl3 := hk3.heap hl2 (fun h => h (.inr (.inr (.inr rfl))))
    have hd3 := hk3.heap hd2 (fun h => h (.inr (.inr (.inl rfl))))
    have := run_endRound (P := P) jump hl3
    rw [hrec] at this ⊢
    have hne : ¬ K (w.heap.size + 1) ∧ ¬ O (w.heap.size + 1) := ⟨fun hk => by have := hK _ hk; omega, fun ho => by have := (hO _ ho).1; omega⟩
    refine ⟨this, World.putObj_heap_same (Array.getElem?_eq_some_iff.1 hl3).1, (World.putObj_heap_other (by omega)).trans hd3, ?_, fun b hb => ⟨(hO2 b hb).1, Nat.lt_of_lt_of_le (hO2 b hb).2 hk3.size⟩⟩
    exact (((Turn.refl _ W).putObj (.inr hne) _).trans (hk3.mono fun b _ hb => ⟨fun hk => hb (.inl hk), fun ho => hb (.inr (.inl ho))⟩)).putObj (.inr hne) _
   rintro e a3 W3 hp
   cases e with
   | normal =>
    obtain ⟨hk3, hi3⟩ := hp
    obtain ⟨hr, hl4, hd4, ht4, ho4⟩ := fin none W3 hk3
    have ho5 : ∀ o b, O b → w.heap.size + 2 ≤ b ∧ b < (W3.putObj (w.heap.size + 1) o).heap.size := fun o b hb => by simpa using ho4 b hb
    exact ⟨_, _, hr, .inl ⟨rfl, ⟨hI _ _ _ _ _ hi3 ho4 (hput O W3 _) (fun b hb => ⟨.inl hb, (ho5 _ b hb).2⟩), ho5 _, hl4, hd4, ht.trans (ht4.mono fun b _ hb => hb.1), Nat.le_trans hsz ht4.size⟩, ht4⟩⟩
   | ret =>
    obtain ⟨hk3, hi3⟩ := hp
    obtain ⟨hr, hl4, hd4, ht4, ho4⟩ := fin (some .ret) W3 hk3
    have ho5 : ∀ o b, O b → w.heap.size + 2 ≤ b ∧ b < (W3.putObj (w.heap.size + 1) o).heap.size := fun o b hb => by simpa using ho4 b hb
    exact ⟨_, _, hr, .inr ⟨rfl, ⟨.ret, hIx _ _ _ _ _ _ hi3 ho4 (hput O W3 _) (fun b hb => ⟨.inl hb, (ho5 _ b hb).2⟩), ho5 _, hl4, hd4, Nat.le_trans hsz ht4.size⟩, ht4⟩⟩
   | exit id =>
    obtain ⟨hk3, hi3⟩ := hp
    obtain ⟨hr, hl4, hd4, ht4, ho4⟩ := fin (some (.exit id)) W3 hk3
    have ho5 : ∀ o b, O b → w.heap.size + 2 ≤ b ∧ b < (W3.putObj (w.heap.size + 1) o).heap.size := fun o b hb => by simpa using ho4 b hb
    exact ⟨_, _, hr, .inr ⟨rfl, ⟨.exit id, hIx _ _ _ _ _ _ hi3 ho4 (hput O W3 _) (fun b hb => ⟨.inl hb, (ho5 _ b hb).2⟩), ho5 _, hl4, hd4, Nat.le_trans hsz ht4.size⟩, ht4⟩⟩
   | goto t =>
    obtain ⟨hk3, hi3⟩ := hp
    obtain ⟨hr, hl4, hd4, ht4, ho4⟩ := fin (some (.goto t)) W3 hk3
    have ho5 : ∀ o b, O b → w.heap.size + 2 ≤ b ∧ b < (W3.putObj (w.heap.size + 1) o).heap.size := fun o b hb => by simpa using ho4 b hb
    exact ⟨_, _, hr, .inr ⟨rfl, ⟨.goto t, hIx _ _ _ _ _ _ hi3 ho4 (hput O W3 _) (fun b hb => ⟨.inl hb, (ho5 _ b hb).2⟩), ho5 _, hl4, hd4, Nat.le_trans hsz ht4.size⟩, ht4⟩⟩
   | panic ch => exact hp.elim
   | outgrown => exact hp.elim
  · -- behind the iterator
   rintro e W2 ⟨⟨v, rfl⟩, O, (⟨hi, hO, hl, hd, ht, hsz⟩ | ⟨pre, x, rest, hx, c, hi, hO, hl, hd, hsz⟩)⟩
   ·refine ⟨none, _, by have := run_endLoop (P := P) hl (by rw [hrec]; simp); rw [hrec] at this; exact this, ?_⟩
    have ho5 : ∀ o b, O b → w.heap.size + 2 ≤ b ∧ b < (W2.putObj (w.heap.size + 1) o).heap.size := fun o b hb => by simpa using hO b hb
    exact hdone O _ (hI _ _ _ _ _ hi hO (hput O W2 _) (fun b hb => ⟨.inl hb, (ho5 _ b hb).2⟩)) (ho5 _) (ht.trans (hputK W2 _)) ((World.putObj_heap_other (by omega)).trans hd)
   ·refine ⟨some c, _, by have := run_endLoop (P := P) hl (by rw [hrec]; simp); rw [hrec] at this; exact this, ?_⟩
    have ho5 : ∀ o b, O b → w.heap.size + 2 ≤ b ∧ b < (W2.putObj (w.heap.size + 1) o).heap.size := fun o b hb => by simpa using hO b hb
    exact (wpIn_wide (n := 0)).2 (hstop c O pre x rest _ hx (hIx _ _ _ _ _ _ hi hO (hput O W2 _) (fun b hb => ⟨.inl hb, (ho5 _ b hb).2⟩)) ((World.putObj_heap_other (by omega)).trans hd))
end Go.Ab
