/- pats.relate. -/
import Derived.Test.YtapfoaiibjdfnaaDoorCheckP
namespace Go.Proofs.YtapfoaiibjdfnaaDoor
open Go.RowKit Go.Ab
attribute [local go_sem] Oper.semAt_some wide_fn wide_depth

/-- The error of a pattern, or of a word. -/
def relE (p : Pat) (ws : Wd) : Int := if chkP p = 0 then (if 32 < ws.length then 11 else if allV ws = true then 0 else 14) else chkP p
def relR (p : Pat) (ws : Wd) : Bin2 := if relE p ws = 0 then relP ws p else noB

theorem rel_result2 {fn : Func} {p u : Tmp} (h : fn.results = #[.cell p 68, .tmp u]) {tmps : Array Value} {w : World} {g : Nat} {f : Nat → Nat} (hp : tmps.getD p undef = .pointer (some ⟨g, 0, none⟩)) (hg : RowsAt w g f) :
    (results fn tmps).run Tryd.prog w = .ok (.tuple #[.agg (rowArr f), tmps.getD u undef]) w := by
  have hp' : tmps[p]?.getD undef = .pointer (some ⟨g, 0, none⟩) := by simpa using hp
  simp [results, h, hp', asAddr, run_loadVar_row w g _ _ _ _ _ hg Tryd.underlying68 rfl (Tryd.relInfo f)]

set_option maxRecDepth 100000 in
set_option maxHeartbeats 8000000 in
theorem relate_any {K : Nat → Prop} {w : World} {p : Pat} {cs : List Value} {v : Value} {ws : Wd} (hp : PatAt K w p cs) (hK : ∀ g, K g → g < w.heap.size) (hv : WordAt w v ws) (hT : Tab w) :
    Calls Tryd.prog 47 #[.agg cs.toArray, v] w fun e w' => e = .returned (.tuple #[.agg (rowArr (rowM (relR p ws))), .int .i64 (relE p ws)]) ∧ Ext w w' := by
  have hck := fun (V : World) (hE : Ext w V) => check_any (K := K) (hp.ext hE) (fun g hg => Nat.lt_of_lt_of_le (hK g hg) hE.size) (hT.keep hE id)
  have hcp := fun (V : World) (hE : Ext w V) => compile_all p K V cs (hp.ext hE)
  have hbad := fun (V : World) (hE : Ext w V) => contains_bad (hv.ext hE)
  have HV := Lib.hid hv; have HT := Lib.hid hT
  obtain ⟨ao, cap, rfl, hlc, hcm, _⟩ := patAt_cells hp
  obtain ⟨bo, bcap, rfl, hbm⟩ := hv.slice
  clear hp hlc hcm hv hT hK
  have HCK := Lib.hid hck; have HCP := Lib.hid hcp; have HBAD := Lib.hid hbad
  clear hck hcp hbad
  obtain ⟨z, hz⟩ : ∃ z, chkP p = z := ⟨_, rfl⟩
  obtain ⟨bad, hbd⟩ : ∃ b, allV ws = b := ⟨_, rfl⟩
  obtain ⟨n, hN⟩ : ∃ n, ws.length = n := ⟨_, rfl⟩
  have HE : Hid (relE p ws = if z = 0 then (if 32 < n then 11 else if bad = true then 0 else 14) else z) := Lib.hid (by unfold relE; rw [hz, hbd, hN])
  rw [hz] at HCK
  rw [hbd] at HBAD
  rw [hN] at HBAD HV hbm ⊢
  have HZ := Lib.hid hz; have HBD := Lib.hid hbd; have HN := Lib.hid hN
  clear hz hbd hN
  unfold patCells at HCK HCP ⊢
  have z1 := zero_rel
  have z2 := relArr_size noB
  have z3 := relArr_ne noB
  go_enter Tryd.func47, Tryd.ntmps47
  go_wp2_with fail
  obtain ⟨B, hB⟩ : ∃ B, w.heap.size = B := ⟨_, rfl⟩
  have hx1 : ((w.alloc (.cells #[.int .i64 p.k, .int .u32 (p.pl : Int), .int .u32 (p.mi : Int), .bool p.nt, .int .i64 p.mn, .int .i64 p.mx, .slice ao p.l.length cap] 27)).alloc (.cells (relArr noB) 68)).heap[B]? = some (.cells #[.int .i64 p.k, .int .u32 (p.pl : Int), .int .u32 (p.mi : Int), .bool p.nt, .int .i64 p.mn, .int .i64 p.mx, .slice ao p.l.length cap] 27 (0, 0)) := by
    subst hB; exact new_keep (new_at rfl)
  have hr1 : RowsAt ((w.alloc (.cells #[.int .i64 p.k, .int .u32 (p.pl : Int), .int .u32 (p.mi : Int), .bool p.nt, .int .i64 p.mn, .int .i64 p.mx, .slice ao p.l.length cap] 27)).alloc (.cells (relArr noB) 68)) (B + 1) (rowM noB) := by
    subst hB; exact new_at (by simp)
  have hE1 : Ext w ((w.alloc (.cells #[.int .i64 p.k, .int .u32 (p.pl : Int), .int .u32 (p.mi : Int), .bool p.nt, .int .i64 p.mn, .int .i64 p.mx, .slice ao p.l.length cap] 27)).alloc (.cells (relArr noB) 68)) := ((Turn.refl _ w).alloc _).alloc _
  generalize ((w.alloc (.cells #[.int .i64 p.k, .int .u32 (p.pl : Int), .int .u32 (p.mi : Int), .bool p.nt, .int .i64 p.mn, .int .i64 p.mx, .slice ao p.l.length cap] 27)).alloc (.cells (relArr noB) 68)) = w1 at hx1 hr1 hE1 ⊢
  rw [hB]
  have HB := Lib.hid hB
  clear hB
  refine (HCK.out _ hE1).mono ?_
  rintro e w2 ⟨rfl, hE2⟩
  have hx2 := hE2.keep hx1
  have hr2 := hr1.keep hE2 id
  have hE02 := hE1.trans hE2
  clear hE1 hE2 hx1 hr1
  have fin : ∀ (V : World) (c : Int) (t : Array Value) (ds : List Deferred), RowsAt V (B + 1) (rowM noB) → Ext w V → ds = [] → c = relE p ws → c ≠ 0 → t.getD 4 undef = .pointer (some ⟨B + 1, 0, none⟩) → t.getD 5 undef = .int .i64 c →
      bodyPost Tryd.prog Tryd.f47 (fun e w' => e = .returned (.tuple #[.agg (rowArr (rowM (relR p ws))), .int .i64 (relE p ws)]) ∧ Ext w w') .ret { tmps := t, defers := ds } V := by
    intro V c t ds h1 h2 h3 h4 h5 h6 h7
    subst h3
    refine bodyPost_ret (rel_result2 rfl h6 h1) rfl ⟨?_, h2⟩
    have : relR p ws = noB := by unfold relR; rw [if_neg (h4 ▸ h5)]
    rw [this, ← h4]
    show Ending.returned (.tuple #[_, t.getD 5 undef]) = _
    rw [h7]
  have FIN := Lib.hid fin
  clear fin
  have cX := fun j => cell_of_row _ _ j _ _ _ hx2
  by_cases hz0 : z = 0
  · rw [if_pos hz0] at HE
    subst hz0
    by_cases hn : 32 < n
    · rw [if_pos hn] at HE
      have h1 : (32 : Int) < (n : Int) := by omega
      have hr3 : RowsAt (w2.setRow (B + 1) (rowArr (rowM noB))) (B + 1) (rowM noB) := setRow_heap _ _ _ _ _ _ hr2
      have hE3 : Ext w (w2.setRow (B + 1) (rowArr (rowM noB))) := hE02.after (Turn.setRow _ _ _) (fun b' h1 h2 => by have := HB.out; omega)
      go_wp2_with (refine wpList_store_row rfl 68 (.tmp 4) (.tmp 18) rfl (B + 1) (rowArr (rowM noB)) rfl rfl _ _ hr2 (Tryd.relInfo _) (by simp only [rowArr_size]) (rowArr_one _) ?_)
      exact FIN.out _ 11 _ _ hr3 hE3 rfl HE.out.symm (by omega) rfl rfl
    · rw [if_neg hn] at HE
      have h1 : ¬ (32 : Int) < (n : Int) := by omega
      go_wp2_with fail
      refine (HBAD.out _ hE02).mono ?_
      rintro e w3 ⟨rfl, hE3⟩
      have hx3 := hE3.keep hx2
      have hr3 := hr2.keep hE3 id
      have hE03 := hE02.trans hE3
      clear hE3 hx2 hr2 hE02 cX
      have cX := fun j => cell_of_row _ _ j _ _ _ hx3
      cases bad
      · have hr4 : RowsAt (w3.setRow (B + 1) (rowArr (rowM noB))) (B + 1) (rowM noB) := setRow_heap _ _ _ _ _ _ hr3
        have hE4 : Ext w (w3.setRow (B + 1) (rowArr (rowM noB))) := hE03.after (Turn.setRow _ _ _) (fun b' h1 h2 => by have := HB.out; omega)
        go_wp2_with (refine wpList_store_row rfl 68 (.tmp 4) (.tmp 22) rfl (B + 1) (rowArr (rowM noB)) rfl rfl _ _ hr3 (Tryd.relInfo _) (by simp only [rowArr_size]) (rowArr_one _) ?_)
        exact FIN.out _ 14 _ _ hr4 hE4 rfl HE.out.symm (by omega) rfl rfl
      · have hok : okPat p := chkP_ok HZ.out
        have HOK := Lib.hid hok
        clear hok
        go_wp2_with fail
        refine (HCP.out _ hE03 HOK.out).mono ?_
        rintro e w4 ⟨u, rfl, hPA, hE4⟩
        obtain ⟨pay, rfl⟩ := partAt_iface hPA
        have pm := part_method (cmp p) pay
        have pc := part_call (cmp p)
        have hr4 := hr3.keep hE4 id
        have hE04 := hE03.trans hE4
        have hin := in_all (cmp p) _ w4 pay _ ws hPA (HV.out.ext hE04) (by rw [HN.out]; omega) (HT.out.keep hE04 id)
        rw [relS_cmp ws p HOK.out] at hin
        have HIN := Lib.hid hin
        clear hin hE4 hr3 hE03 hx3 cX hPA
        go_wp2_with fail
        clear pm pc
        refine HIN.out.mono ?_
        rintro e w5 ⟨rfl, hE5⟩
        have hr5 := hr4.keep hE5 id
        have hE05 := hE04.trans hE5
        have hr6 : RowsAt (w5.setRow (B + 1) (rowArr (rowM (relP ws p)))) (B + 1) (rowM (relP ws p)) := setRow_heap _ _ _ _ _ _ hr5
        have hE6 : Ext w (w5.setRow (B + 1) (rowArr (rowM (relP ws p)))) := hE05.after (Turn.setRow _ _ _) (fun b' h1 h2 => by have := HB.out; omega)
        clear HIN hr4 hE04 hE5
        go_wp2_with (refine wpList_store_row rfl 68 (.tmp 4) (.tmp 26) rfl (B + 1) (rowArr (rowM (relP ws p))) rfl rfl _ _ hr5 (Tryd.relInfo _) (by simp only [rowArr_size]) (rowArr_one _) ?_)
        refine bodyPost_ret (rel_result2 rfl rfl hr6) rfl ⟨?_, hE6⟩
        have h0 : relE p ws = 0 := HE.out
        have : relR p ws = relP ws p := by unfold relR; rw [if_pos h0]
        rw [this, h0]; rfl
  · rw [if_neg hz0] at HE
    have hr3 : RowsAt (w2.setRow (B + 1) (rowArr (rowM noB))) (B + 1) (rowM noB) := setRow_heap _ _ _ _ _ _ hr2
    have hE3 : Ext w (w2.setRow (B + 1) (rowArr (rowM noB))) := hE02.after (Turn.setRow _ _ _) (fun b' h1 h2 => by have := HB.out; omega)
    go_wp2_with (refine wpList_store_row rfl 68 (.tmp 4) (.tmp 12) rfl (B + 1) (rowArr (rowM noB)) rfl rfl _ _ hr2 (Tryd.relInfo _) (by simp only [rowArr_size]) (rowArr_one _) ?_)
    exact FIN.out _ z _ _ hr3 hE3 rfl HE.out.symm hz0 rfl rfl
end Go.Proofs.YtapfoaiibjdfnaaDoor
