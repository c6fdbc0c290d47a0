/- What the laws' arguments read as: sounds, words, patterns. -/
import Derived.Test.YtapfoaiibjdfnaaDoorArgs
import Derived.Test.YtapfoaiibjdfnaaDoorWord
import Derived.Test.YtapfoaiibjdfnaaDoorPatMem
import Derived.Test.YtapfoaiibjdfnaaDoorProg
import Derived.ChangeSame
import Derived.Deep.Fields
namespace Go.Proofs.YtapfoaiibjdfnaaDoor
open Go.RowKit Go.Ab Go.ChangeShapes Go.WideShapes

section
variable {H : Type} {enc : TypeId × Value → H} {w : World} {base b0 : Nat} {held : Bool} {r : Reach} {v : Value} {d : DataW H} {ps : List MemPlace} {spare : Nat → Bool}

theorem cellsOf_snd : Tryd.prog.cellsOf 24 = 2 := by kernel_rfl
theorem cellsOf_pat : Tryd.prog.cellsOf 27 = 7 := by kernel_rfl
theorem cellsOf_u32 : Tryd.prog.cellsOf 22 = 1 := by kernel_rfl
theorem cellsOf_int : Tryd.prog.cellsOf 3 = 1 := by kernel_rfl
theorem cellsOf_bool : Tryd.prog.cellsOf 4 = 1 := by kernel_rfl
theorem cellsOf_pats : Tryd.prog.cellsOf 25 = 1 := by kernel_rfl

theorem nat_u32 {n : Int} (h : (Lit.int .u32 n).wf = true) : ∃ m : Nat, n = m ∧ m < 4294967296 := by
  have := bounds_u32 h
  exact ⟨n.toNat, by omega, by omega⟩

set_option maxRecDepth 100000 in
theorem trod_snd {fuel : Nat} {cs : List Value} {x : DataW H × List MemPlace} (h : DataW.trod enc Tryd.prog w base spare held fuel 24 cs = some x) :
    ∃ a b : Nat, cs = [.int .u32 (a : Int), .int .u32 (b : Int)] ∧ a < 4294967296 ∧ b < 4294967296 := by
  obtain ⟨y0, y1, n, _, hl, h0, h1⟩ := trod_struct2 Tryd.underlying24 h
  rw [cellsOf_snd] at hl
  match cs, hl with
  | [c0, c1], _ =>
    simp only [cellsOf_u32] at h0 h1
    obtain ⟨m0, e0, _, w0⟩ := DataW.trod_int Tryd.underlying22 h0
    obtain ⟨m1, e1, _, w1⟩ := DataW.trod_int Tryd.underlying22 h1
    simp at e0 e1
    obtain ⟨a, rfl, ha⟩ := nat_u32 w0
    obtain ⟨b, rfl, hb⟩ := nat_u32 w1
    exact ⟨a, b, by rw [e0, e1], ha, hb⟩

/-- The cells of an element of a slice. -/
theorem cells_range {a : Addr} {n : Nat} {cs : List Value} (hn : 0 < n) (h : w.cells? base a n = some cs) : a.spot = none ∧ a.block < w.heap.size ∧ cs.length = n ∧ w.rangeAt a.block a.off cs := by
  obtain ⟨_, hl, hx⟩ := World.cells?_some h
  have h0 := hx 0 hn
  rw [List.getElem?_eq_getElem (by omega)] at h0
  have hs : a.spot = none := World.cell?_spot (by simpa [Addr.add] using h0)
  have hb : a.block < w.heap.size := by simpa [Addr.add] using cell_lt h0
  refine ⟨hs, hb, hl, fun j u hj => ?_⟩
  have hlt := (List.getElem?_eq_some_iff.1 hj).1
  have := hx j (by omega)
  rw [hj] at this
  have e : a.add j = ⟨a.block, a.off + j, none⟩ := by
    obtain ⟨b, o, s⟩ := a
    simp only at hs
    subst hs
    exact add_plain _ _ _
  rw [← e]; exact this

set_option maxRecDepth 100000 in
theorem open_word (hval : Value.okWide Tryd.prog w r b0 28 v) (hd : DataW.Trod enc Tryd.prog w base (fun _ => true) held 28 v d ps) : ∃ ws : Wd, WordAt w v ws := by
  obtain ⟨ao, len, cap, rfl⟩ := okWide_slice Tryd.underlying28 hval
  obtain ⟨fuel, hf⟩ := hd
  rcases Deep.open_slice Tryd.underlying28 hf with ⟨h, _⟩ | ⟨a, len', cap', m, n, D, Pl, h, _, hl, hm, hmm, _, hx⟩
  · simp [Value.cells] at h
    obtain ⟨rfl, rfl, rfl⟩ := h
    exact ⟨[], ⟨rfl, by simp [maxLen], none, 0, rfl, fun h => by simp at h⟩, by simp [WdOk]⟩
  · simp [Value.cells] at h
    obtain ⟨rfl, rfl, rfl⟩ := h
    simp only [if_true] at hmm
    subst hmm
    rw [cellsOf_snd] at hx
    have each : ∀ i, i < len → ∃ p : Nat × Nat, w.cell? (a.add (i * 2)) = some (.int .u32 (p.1 : Int)) ∧ w.cell? ((a.add (i * 2)).add 1) = some (.int .u32 (p.2 : Int)) ∧ p.1 < 4294967296 ∧ p.2 < 4294967296 := by
      intro i hi
      obtain ⟨cs', h1, h2⟩ := hx i (by omega)
      obtain ⟨c0, c1, rfl, k0, k1⟩ := cells_two h1
      obtain ⟨x, y, he, w0, w1⟩ := trod_snd h2
      simp at he
      obtain ⟨rfl, rfl⟩ := he
      exact ⟨(x, y), k0, k1, w0, w1⟩
    obtain ⟨f, hfp⟩ := Deep.choose_lt each
    refine ⟨(List.range len).map f, ⟨by simp [sndL_length], by simp; omega, some a, m, by simp, fun h0 => ?_⟩, fun p hp => ?_⟩
    · simp at h0
      obtain ⟨b, off, spot⟩ := a
      have hspot : spot = none := by simpa [Addr.add] using World.cell?_spot (hfp 0 h0).1
      subst hspot
      have hlt := cell_lt (hfp 0 h0).1
      refine ⟨b, off, rfl, by simpa [Addr.add] using hlt, fun j hj => ?_⟩
      simp only [List.length_map, List.length_range] at hj
      have hi : j / 2 < len := by omega
      obtain ⟨q0, q1, _, _⟩ := hfp (j / 2) hi
      have g := sndL_get ((List.range len).map f) (j / 2) (by simpa using hi)
      have e : ((List.range len).map f).getD (j / 2) (0, 0) = f (j / 2) := by
        rw [List.getD_eq_getElem?_getD, List.getElem?_eq_getElem (by simpa using hi)]; simp
      rw [e] at g
      rw [← Go.WideShapes.add_plain, List.getD_eq_getElem?_getD]
      rcases Nat.mod_two_eq_zero_or_one j with hj2 | hj2
      · have ej : j / 2 * 2 = j := by omega
        rw [ej] at q0 g
        rw [q0, g.1]; rfl
      · have ej : j / 2 * 2 + 1 = j := by omega
        rw [Deep.add_add, ej] at q1
        rw [ej] at g
        rw [q1, g.2]; rfl
    · obtain ⟨i, hi, rfl⟩ := List.mem_map.1 hp
      have := hfp i (List.mem_range.1 hi)
      exact this.2.2

instance : Inhabited Pat := ⟨.node 0 0 0 false 0 0 []⟩

theorem take1 {cs : List Value} {i : Nat} (hl : cs.length = 7) (h : i < 7) : (cs.drop i).take 1 = [cs.getD i undef] := Deep.take1_drop cs i undef (by omega)

set_option maxRecDepth 100000 in
theorem trod_pat : ∀ (fuel : Nat) {cs : List Value} {x : DataW H × List MemPlace}, DataW.trod enc Tryd.prog w base (fun _ => true) held fuel 27 cs = some x →
    ∃ p : Pat, PatAt (fun g => g < w.heap.size) w p cs := by
  intro fuel
  induction fuel with
  | zero => intro cs x h; simp [DataW.trod] at h
  | succ n ih =>
    intro cs x h
    obtain ⟨xs, n', hn, _, hl, hxl, hf⟩ := DataW.trod_struct Tryd.underlying27 h
    obtain rfl : n = n' := by omega
    rw [cellsOf_pat] at hl
    have hxl : xs.length = 6 := hxl
    match xs, hxl with
    | [y0, y1, y2, y3, y4, y5], _ =>
    have h0 : DataW.trod enc Tryd.prog w base (fun _ => true) held n 3 ((cs.drop 0).take (Tryd.prog.cellsOf 3)) = some y0 := hf 0 _ rfl
    have h1 : DataW.trod enc Tryd.prog w base (fun _ => true) held n 24 ((cs.drop 1).take (Tryd.prog.cellsOf 24)) = some y1 := hf 1 _ rfl
    have h2 : DataW.trod enc Tryd.prog w base (fun _ => true) held n 4 ((cs.drop 3).take (Tryd.prog.cellsOf 4)) = some y2 := hf 2 _ rfl
    have h3 : DataW.trod enc Tryd.prog w base (fun _ => true) held n 3 ((cs.drop 4).take (Tryd.prog.cellsOf 3)) = some y3 := hf 3 _ rfl
    have h4 : DataW.trod enc Tryd.prog w base (fun _ => true) held n 3 ((cs.drop 5).take (Tryd.prog.cellsOf 3)) = some y4 := hf 4 _ rfl
    have h5 : DataW.trod enc Tryd.prog w base (fun _ => true) held n 25 ((cs.drop 6).take (Tryd.prog.cellsOf 25)) = some y5 := hf 5 _ rfl
    rw [cellsOf_int] at h0 h3 h4
    rw [cellsOf_bool] at h2
    rw [cellsOf_snd] at h1
    rw [cellsOf_pats] at h5
    match cs, hl with
    | [c0, c1, c2, c3, c4, c5, c6], _ =>
    obtain ⟨k, e0, _, _⟩ := DataW.trod_int Tryd.underlying3 h0
    obtain ⟨a, b, e1, ha, hb⟩ := trod_snd h1
    obtain ⟨nt, e2, _⟩ := DataW.trod_bool Tryd.underlying4 h2
    obtain ⟨mn, e3, _, _⟩ := DataW.trod_int Tryd.underlying3 h3
    obtain ⟨mx, e4, _, _⟩ := DataW.trod_int Tryd.underlying3 h4
    simp at e0 e1 e2 e3 e4
    obtain ⟨e1, e1'⟩ := e1
    subst e0 e1 e1' e2 e3 e4
    rcases DataW.trod_slice Tryd.underlying25 h5 with ⟨h, _⟩ | ⟨A, len, cap, elems, rest, n2, hn2, h, _, _, hlc, hcm, hel, hx, _, _⟩
    · simp at h
      subst h
      refine ⟨.node k a b nt mn mx [], ?_⟩
      unfold PatAt
      exact ⟨none, 0, rfl, ha, hb, by simp, by simp [maxLen], by unfold PatsAt; trivial⟩
    · simp at h
      subst h
      rw [cellsOf_pat] at hx
      have hsp : 0 < len → A.spot = none := by
        intro h0
        have key := hx 0 h0
        rw [List.getElem?_eq_getElem (by omega)] at key
        obtain ⟨cs', k1, k2⟩ := Option.bind_eq_some_iff.1 key
        obtain ⟨s1, _⟩ := cells_range (by decide) k1
        simpa [Addr.add] using s1
      have each : ∀ i, i < len → ∃ p : Pat × List Value, A.spot = none ∧ A.block < w.heap.size ∧ w.rangeAt A.block (A.off + i * 7) p.2 ∧ PatAt (fun g => g < w.heap.size) w p.1 p.2 := by
        intro i hi
        have key := hx i hi
        rw [List.getElem?_eq_getElem (by omega)] at key
        obtain ⟨cs', k1, k2⟩ := Option.bind_eq_some_iff.1 key
        obtain ⟨s1, s2, s3, s4⟩ := cells_range (by decide) k1
        have k3 := DataW.trod_le (show n2 ≤ n by omega) k2
        obtain ⟨p, hp⟩ := ih k3
        have hs := hsp (by omega)
        have e : A.add (i * 7) = ⟨A.block, A.off + i * 7, none⟩ := by
          obtain ⟨b, o, s⟩ := A
          simp only at hs
          subst hs
          exact add_plain _ _ _
        rw [e] at s2 s4
        exact ⟨(p, cs'), hs, s2, s4, hp⟩
      obtain ⟨f, hfp⟩ := Deep.choose_lt each
      refine ⟨.node k a b nt mn mx ((List.range len).map fun i => (f i).1), ?_⟩
      unfold PatAt
      refine ⟨some A, cap, by simp [patCells], ha, hb, by simpa using hlc, hcm, PatsAt.mk fun j hj => ?_⟩
      have hj' : j < len := by simpa using hj
      obtain ⟨q1, q2, q3, q4⟩ := hfp j hj'
      refine ⟨A.block, A.off, (f j).2, ?_, q2, q2, by rw [Nat.zero_add]; exact q3, by simpa using q4⟩
      obtain ⟨b, o, s⟩ := A
      simp only at q1
      subst q1; rfl

set_option maxRecDepth 100000 in
theorem open_pat (hval : Value.okWide Tryd.prog w r b0 27 v) (hd : DataW.Trod enc Tryd.prog w base (fun _ => true) held 27 v d ps) : ∃ (p : Pat) (cs : List Value), v = .agg cs.toArray ∧ PatAt (fun g => g < w.heap.size) w p cs := by
  have : ∃ cs, v = .agg cs ∧ cs.size = Tryd.prog.cellsOf 27 := by
    unfold Value.okWide at hval
    rw [Tryd.underlying27] at hval
    obtain ⟨cs, h1, h2, _⟩ := hval
    exact ⟨cs, h1, h2⟩
  obtain ⟨cs, rfl, hs⟩ := this
  obtain ⟨fuel, hf⟩ := hd
  obtain ⟨p, hp⟩ := trod_pat fuel hf
  exact ⟨p, cs.toList, by simp, by simpa [Value.cells] using hp⟩
end
end Go.Proofs.YtapfoaiibjdfnaaDoor
