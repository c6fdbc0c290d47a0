/- pats.Begins. -/
import Derived.Test.YtapfoaiibjdfnaaDoorMatch
namespace Go.Proofs.YtapfoaiibjdfnaaDoor
open Go.RowKit Go.Ab
attribute [local go_sem] Oper.semAt_some wide_fn wide_depth

def placeE (p : Pat) (ws : Wd) (at' : Int) : Int := if relE p ws = 0 then exE ws.length at' else relE p ws
def begL (p : Pat) (ws : Wd) (at' : Int) : List Nat := if placeE p ws at' = 0 then (List.range (ws.length + 1)).filter (fun a => relR p ws a at'.toNat) else []
def endL (p : Pat) (ws : Wd) (at' : Int) : List Nat := if placeE p ws at' = 0 then (List.range (ws.length + 1)).filter (fun b => relR p ws at'.toNat b) else []
def natV (l : List Nat) : List Value := l.map fun (x : Nat) => Value.int .i64 (x : Int)
theorem Tryd.infoI : (Tryd.prog.info? 3).map (fun i => (i.zero, i.size, i.bytes)) = some (some (.int .i64 0), 1, 8) := by kernel_rfl
theorem own_block_ty {w : World} {base : Nat} {e : TypeId} {sz n g : Nat} {v : Value} {xs : List Value} (h : w.ownsRow base e sz v n xs) (hg : v.ownBlock = some g) : ∃ cur, w.heap[g]? = some (.cells cur e (0, 0)) := by
  rcases h.2 with ⟨rfl, _⟩ | ⟨g', cap, cur, rfl, _, hh, _⟩
  · cases hg
  · cases hg; exact ⟨cur, hh⟩
theorem natV_append (l : List Nat) (x : Nat) : natV (l ++ [x]) = natV l ++ [.int .i64 (x : Int)] := by simp [natV]

set_option maxRecDepth 100000 in
set_option maxHeartbeats 8000000 in
theorem begins_any {K : Nat → Prop} {w : World} {p : Pat} {cs : List Value} {v : Value} {ws : Wd} (hp : PatAt K w p cs) (hK : ∀ g, K g → g < w.heap.size) (hv : WordAt w v ws) (hT : Tab w) (at' : Int) :
    Calls Tryd.prog 17 #[.agg cs.toArray, v, .int .i64 at'] w fun e w' => ∃ u, e = .returned (.tuple #[u, .int .i64 (placeE p ws at')]) ∧ w'.ownsRow w.heap.size 3 1 u (begL p ws at').length (natV (begL p ws at')) ∧ Ext w w' := by
  have hre := fun (V : World) (hE : Ext w V) => relate_any (K := K) (hp.ext hE) (fun g hg => Nat.lt_of_lt_of_le (hK g hg) hE.size) (hv.ext hE) (hT.keep hE id)
  obtain ⟨ao, cap, rfl, hlc, hcm, _⟩ := patAt_cells hp
  obtain ⟨bo, bcap, rfl, hbm⟩ := hv.slice
  clear hp hlc hcm hv hT hK
  have HRE := Lib.hid hre
  clear hre
  obtain ⟨z, hz⟩ : ∃ z, relE p ws = z := ⟨_, rfl⟩
  obtain ⟨R, hR⟩ : ∃ R, relR p ws = R := ⟨_, rfl⟩
  obtain ⟨n, hN⟩ : ∃ n, ws.length = n := ⟨_, rfl⟩
  have HP : Hid (placeE p ws at' = if z = 0 then exE n at' else z) := Lib.hid (by unfold placeE; rw [hz, hN])
  have HL : Hid (begL p ws at' = if placeE p ws at' = 0 then (List.range (n + 1)).filter (fun a => R a at'.toNat) else []) := Lib.hid (by unfold begL; rw [hR, hN])
  have hn32 : z = 0 → n ≤ 32 := fun h => by
    subst hz; subst hN
    exact relE_len h
  rw [hz] at HRE
  rw [hR] at HRE
  rw [hN] at HRE hbm ⊢
  clear hz hR hN
  have HNL := Lib.hid hn32
  clear hn32
  unfold patCells at HRE ⊢
  have z1 := zero_rel
  have z2 := relArr_size noB
  have z3 := relArr_ne noB
  go_enter Tryd.func17, Tryd.ntmps17
  go_wp2_with fail
  refine (HRE.out _ ((Turn.refl _ w).alloc _)).mono ?_
  rintro e w2 ⟨rfl, hE2⟩
  have hE02 : Ext w w2 := Turn.trans ((Turn.refl _ w).alloc _) hE2
  clear hE2
  have hR0 : (w2.alloc (.cells (relArr noB) 68)).heap[w2.heap.size]? = some (.cells (relArr noB) 68 (0, 0)) := new_at rfl
  have hR3 : RowsAt ((w2.alloc (.cells (relArr noB) 68)).setRow w2.heap.size (rowArr (rowM R))) w2.heap.size (rowM R) := setRow_heap _ _ _ _ _ _ hR0
  have hE3 : Ext w ((w2.alloc (.cells (relArr noB) 68)).setRow w2.heap.size (rowArr (rowM R))) := hE02.trans (((Turn.refl _ w2).alloc _).after (Turn.setRow _ _ _) (fun b' h1 h2 => by omega))
  go_upto_region 2 with (refine wpList_store_row rfl 68 (.tmp 8) (.tmp 16) rfl w2.heap.size (rowArr (rowM R)) rfl rfl _ _ hR0 (Tryd.relInfo _) (by rw [relArr_size, rowArr_size]) (rowArr_one _) ?_)
  generalize ((w2.alloc (.cells (relArr noB) 68)).setRow w2.heap.size (rowArr (rowM R))) = w3 at hR3 hE3 ⊢
  generalize w2.heap.size = b at hR3 ⊢
  clear hR0 hE02 z1 z2 z3
  by_cases hz0 : z = 0
  · have hn := HNL.out hz0
    rw [if_pos hz0] at HP
    subst hz0
    go_wp2_with fail
    refine (exists_any _ _ _ _ _).mono ?_
    rintro e w4 ⟨rfl, rfl⟩
    by_cases hin : at' < 0 ∨ (n : Int) < at'
    · have hex : exE n at' = 3 := by unfold exE; rw [if_pos hin]
      rw [hex] at HP ⊢
      clear hex
      go_wp2
      refine bodyPost_ret (results_two rfl _ _ _) rfl ⟨_, by rw [HP.out]; rfl, ?_, hE3⟩
      rw [HL.out, HP.out, if_neg (by decide)]
      exact World.ownsRow_nil _ _ _ _
    · have hex : exE n at' = 0 := by unfold exE; rw [if_neg hin]
      rw [hex] at HP ⊢
      obtain ⟨m, rfl⟩ : ∃ m : Nat, at' = m := ⟨at'.toNat, by omega⟩
      have HL2 : Hid (begL p ws m = (List.range (n + 1)).filter (fun a => R a m)) := Lib.hid (by rw [HL.out, HP.out]; rfl)
      have hmn : m ≤ n := by omega
      clear hex HL hin
      go_wp2
      go_loopw [10, 29] (fun v i wr => ∃ k : Nat, k ≤ n + 1 ∧ i = .int .i64 k ∧ wr.ownsRow w.heap.size 3 1 v ((List.range k).filter (fun a => R a m)).length (natV ((List.range k).filter (fun a => R a m))) ∧ Ext w wr ∧ RowsAt wr b (rowM R)) (fun _ i _ => n + 1 - (intOf i).toNat)
      case atStart => exact ⟨0, Nat.zero_le _, rfl, World.ownsRow_nil _ _ _ _, hE3, hR3⟩
      case round =>
        obtain ⟨k, hk, rfl, hO, hE, hR⟩ := hrel
        by_cases hlt : k < n + 1
        · have c0 := hR.cell (a := k) (by omega)
          have hl := rowM_lt R k
          have h1 : (k : Int) < (n : Int) + 1 := by omega
          have hfil : (List.range (k + 1)).filter (fun a => R a m) = (List.range k).filter (fun a => R a m) ++ if R k m then [k] else [] := by
            rw [List.range_succ, List.filter_append]; cases hq : R k m <;> simp [hq]
          have hb := bitR R k m (by omega)
          have HF := Lib.hid hfil
          have hlen : ((List.range k).filter (fun a => R a m)).length ≤ 33 := by
            have := List.length_filter_le (fun a => R a m) (List.range k); simp at this; omega
          clear hfil
          cases hq : R k m
          · rw [hq] at hb HF
            have HQ := Lib.hid hq
            clear hq
            go_wp2
            go_roundw
            case rel => exact ⟨k + 1, by omega, by go_num, by rw [HF.out]; simpa using hO, hE, hR⟩
            case measure => simp [intOf]; omega
          · rw [hq] at hb HF
            have HQ := Lib.hid hq
            clear hq
            go_wp2_with (at_builtin; refine append_row rfl (.tmp 39) (.tmp 41) 30 rfl w.heap.size 3 _ 1 8 Tryd.underlying30 Tryd.infoI rfl (by decide) _ _ _ rfl (own_ext hO ((Turn.refl _ wr).alloc _)) ⟨wr.heap.size, 0, none⟩ 1 1 [.int .i64 k] rfl rfl (new_cells' rfl) ?c2 ?c3 ?c4 ?c5 ?_)
            case c2 => first | rfl | (intro u hu; simp at hu; rcases hu with rfl; rfl)
            case c3 => unfold maxLen; omega
            case c4 => omega
            case c5 => have := hE.size; simp; omega
            intro ao' c' w5 hO5 hT5 _
            have hT6 : Turn (fun b' => u10.ownBlock = some b') wr w5 := Turn.trans (Turn.alloc (Turn.refl _ wr) _) hT5
            have hE5 : Ext w w5 := hE.after hT6 (fun b' h1 e => by have := (hO.lt _ e).1; omega)
            have hR5 := hR.keep hT6 (fun e => by obtain ⟨cur, hc⟩ := own_block_ty hO e; have h8 : wr.heap[b]? = _ := hR; rw [h8] at hc; cases hc)
            clear hT5 hT6 hO hE c0
            go_wp2
            go_roundw
            case rel =>
              refine ⟨k + 1, by omega, by go_num, ?_, hE5, hR5⟩
              rw [HF.out, if_pos (by first | rfl | trivial), natV_append, List.length_append]
              exact hO5
            case measure => simp [intOf]; omega
        · obtain rfl : k = n + 1 := by omega
          go_wp2
          refine bodyPost_ret (results_two rfl _ _ _) rfl ⟨_, by rw [HP.out]; rfl, ?_, hE⟩
          rw [HL2.out]; exact hO
  · have hz1 : (z == 0) = false := by rw [beq_eq_false_iff_ne]; exact hz0
    rw [if_neg hz0] at HP
    go_wp2
    refine bodyPost_ret (results_two rfl _ _ _) rfl ⟨_, by rw [HP.out]; rfl, ?_, hE3⟩
    rw [HL.out, HP.out, if_neg hz0]
    exact World.ownsRow_nil _ _ _ _
end Go.Proofs.YtapfoaiibjdfnaaDoor
