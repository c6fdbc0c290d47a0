/- ablautlaw06.PatsKnown: the card: PatsKnown returns true. Conditions: the table of math/bits reads as its initialiser lays it (the given tie pays it). -/
import Derived.Test.YtbmbdoanammlgaaDoorP22
import Derived.Test.YtbmbdoanammlgaaDoorCards
import Derived.Test.YtbmbdoanammlgaaDoorTie
import Derived.Deep.DeepHandedRow
import Derived.Lib.LaidTab
set_option maxRecDepth 100000
namespace Go.Proofs.YtbmbdoanammlgaaDoor.patsKnown
open Go.ChangeShapes Go.WideShapes Go.ChangeAt Go.RowKit Go.Ab
theorem own:ownKnob Tryd.prog.godebug=none:=by kernel_rfl
theorem gTab : Tryd.prog.globalNamed "math/bits.deBruijn64tab" = some 0 := by kernel_rfl
theorem gTabType:(Tryd.prog.globals[0]?).map (·.type)=some 91:=by kernel_rfl
theorem cellsT:Tryd.prog.cellsOf 91=64:=by kernel_rfl
theorem cellsE:Tryd.prog.cellsOf 5=1:=by kernel_rfl
theorem table {W : World} (h : laidMetH Tryd.prog Rows.patsKnownRow.laid W) : Lib.TabIs Tryd.prog W "math/bits.deBruijn64tab" .u8 (Lib.deBruijn64tab.map fun (x : Nat) => (x : Int)) :=
 Lib.tabIs_of_head (rest:=[]) gTab gTabType Tryd.underlying91 Tryd.underlying5 cellsE cellsT h
theorem tab{W:World}(h:laidMetH Tryd.prog Rows.patsKnownRow.laid W):Tab W:=fun j hj=>by
 have hl:Lib.deBruijn64tab.length=64:=by decide
 have:=(table h).cell gTab j (by rw [List.length_map,hl];exact hj)
 rw [this]
 have hj':j<Lib.deBruijn64tab.length:=by omega
 simp [List.getD_eq_getElem?_getD,hj']
theorem contract(H:Type)(enc:TypeId × Value→H)(W:World)(args:Array Value)(ds gs:List (DataW H)) (before:List MemPlace)
  (hW:DataW.Whole enc Tryd.prog Tryd.f3.params.toList Rows.patsKnownSpec.vars false W args.toList ds gs before) (hL:laidMetH Tryd.prog Rows.patsKnownRow.laid W) :
  Calls Tryd.prog 3 args W fun e W'=>∃ v,e=.returned v∧Rows.patsKnownSpec.post enc Tryd.prog Tryd.f3 false true false false W args v W':=by
 have hW':=hW
 obtain⟨p,q,hA0,hV,rfl,hfz,hnd⟩:=hW
 have hA:DataW.TrodAll enc Tryd.prog W 0 (fun _=>true) true Tryd.f3.params.toList args.toList ds p:=hA0
 rw [Tryd.params3] at hA
 obtain⟨h1,rfl,rfl⟩:=trodAll_nil hA
 obtain rfl:args=#[]:=by cases args;simp_all
 obtain⟨rfl,rfl⟩:=trodVars_none hV
 refine(De W (tab hL)).mono fun e W' ⟨he,hg⟩=>?_
 subst he
 have hb:Below W.heap.size W W':=hg.below fun _ _ h=>h
 exact⟨_,rfl,[],[],_,[],[],[],hW',trodAll_cons_mk (shut_bool Tryd.underlying4 _) trodAll_mk0,trodAll_mk0,rfl,hb.frame _,fun h=>by cases h⟩
noncomputable def laidWorld (os:Os):World:=
 { World.holding Tryd.prog os ⟨#[],#[],[]⟩ with heap:=(World.holding Tryd.prog os ⟨#[],#[],[]⟩).heap.modify 0 fun
   | .cells _ t frozen=>.cells (Lib.deBruijn64tab.map fun(x:Nat)=>Value.int .u8 x).toArray t frozen
   | o=>o }
theorem laid_met(os:Os):laidMet Tryd.prog Rows.patsKnownRow.laid ((laidWorld os).forCall (fun _ _=>0) ⟨#[],#[],[]⟩).memory:=
 laidMet_of_run' 8 (by kernel_rfl) (by kernel_rfl)
theorem reads(os:Os){H:Type}(enc:TypeId × Value→H):∃ places,DataW.whole enc Tryd.prog ((laidWorld os).forCall (fun _ _=>0) ⟨#[],#[],[]⟩).memory Tryd.f3.params.toList Rows.patsKnownSpec.vars false (#[]:Array Value).toList 8=some ([],[],places):=
 ⟨[],by kernel_rfl⟩
theorem lifted(os:Os)(started:os.Started)(H:Type)(enc:TypeId × Value→H)(F:Stop.Interp) :
  ReturnsInHanded {} Tryd.checked os 3 .any ((OpenSpec.ofChange Rows.patsKnownSpec).preRow enc Tryd.prog Tryd.f3 Rows.patsKnownRow.domain false Rows.patsKnownRow.laid) (((OpenSpec.ofChange Rows.patsKnownSpec).at F).post enc Tryd.prog Tryd.f3 false true false false):=by
 obtain⟨places,hx⟩:=reads os enc
 refine returnsInHanded_of_row (C:=Tryd.checked) (s:=OpenSpec.ofChange Rows.patsKnownSpec) own started (by kernel_rfl) Tryd.func3
  (witness_row_at (enc:=enc) (C:=Tryd.checked) false (laidWorld os) #[] rfl (by kernel_rfl) (by kernel_rfl) (by kernel_rfl)
   (OpenSpec.preRow_of_cond 8 hx (by kernel_rfl) (fun k hk=>by cases hk) (by kernel_rfl) (laid_met os))) ?_
 intro W base args ds gs before hval hW _ _ _ hL _ _
 exact contract H enc W args ds gs before hW hL
theorem cell1:Rows.patsKnownRow.inPlace=Tryd.prog.inPlace 3:=by kernel_rfl
theorem cell2:Rows.patsKnownRow.unfollowed=Tryd.prog.unfollowed 3:=by kernel_rfl
theorem cell3:Rows.patsKnownRow.recurses=Tryd.prog.recurses 3:=by kernel_rfl
theorem cell4:Rows.patsKnownRow.named=Tryd.prog.varsNamed 3:=by kernel_rfl
theorem closed:joinedFacts Tryd.prog 3 Tryd.f3 (OpenSpec.ofChange Rows.patsKnownSpec).bare Rows.patsKnownRow=true:=by
 unfold joinedFacts
 rw [← cell1,← cell2,← cell3,← cell4]
 kernel_rfl
theorem said:Rows.PatsKnownSaid:=
 OpenClaim.holds_of_cond 3 Tryd.f3 rfl rfl rfl rfl rfl rfl rfl ⟨rfl,rfl,rfl,rfl,rfl⟩ rfl rfl rfl rfl rfl (by kernel_rfl) Tryd.func3 closed
  (of_decide_eq_true (by kernel_rfl)) (by unfold Func.isWrapper;first | (rw [if_pos (by decide +kernel)];kernel_rfl) | (rw [if_neg (by decide +kernel)];exact⟨rfl,rfl⟩))
  (fun os started H enc _ F=>by rw [OpenClaim.pre_eq_preRow];exact lifted os started H enc F)
theorem plain (f : FuncId) (fn : Func) (hf : Tryd.pinned.checked.prog.funcNamed "ablaut/ablautlaw06.PatsKnown" = some f) (hfn : Tryd.pinned.checked.prog.funcs[f]? = some fn) :
  false=Tryd.pinned.checked.prog.looks []∧∀(j:Nat) t,fn.params[j]?=some t→Tryd.pinned.checked.prog.wantsStandIn t=false:=by
 obtain rfl : f = 3 := Option.some.inj ((show Tryd.prog.funcNamed "ablaut/ablautlaw06.PatsKnown" = some 3 by kernel_rfl).symm.trans hf) |>.symm
 obtain rfl:fn=Tryd.f3:=(Option.some.inj (Tryd.func3.symm.trans hfn)).symm
 refine⟨by kernel_rfl,fun j t ht=>?_⟩
 rw [Tryd.params3] at ht
 simp at ht
theorem card:Rows.PatsKnownCardSaid:=
 Claim7.holds_tied_plain_at .later [] _ _ _ _ said (fun _ h=>by cases h) (by kernel_rfl) (fun _ h=>by cases h) patsKnown_row_tie rfl ⟨rfl,rfl⟩ (by kernel_rfl) rfl plain (by kernel_rfl)
end Go.Proofs.YtbmbdoanammlgaaDoor.patsKnown
