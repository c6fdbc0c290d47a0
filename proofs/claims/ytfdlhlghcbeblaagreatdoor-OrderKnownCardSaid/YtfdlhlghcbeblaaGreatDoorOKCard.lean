/- ablautlaw14.OrderKnown: the card. -/
import Derived.Test.YtfdlhlghcbeblaaGreatDoorY26
import Derived.Test.YtfdlhlghcbeblaaGreatDoorCards
import Derived.Test.YtfdlhlghcbeblaaGreatDoorTie
import Derived.Deep.DeepHandedRow
import Derived.Lib.LaidTab
set_option maxRecDepth 100000
namespace Go.Proofs.YtfdlhlghcbeblaaGreatDoor.orderKnown
open Go.ChangeShapes Go.WideShapes Go.ChangeAt Go.RowKit Go.Ab
theorem own:ownKnob Tryz.prog.godebug=none:=by kernel_rfl
theorem gTab : Tryz.prog.globalNamed "math/bits.deBruijn64tab" = some 0 := by kernel_rfl
theorem gTabType:(Tryz.prog.globals[0]?).map (·.type)=some 271:=by kernel_rfl
theorem cellsT:Tryz.prog.cellsOf 271=64:=by kernel_rfl
theorem cellsE:Tryz.prog.cellsOf 5=1:=by kernel_rfl
theorem table {W : World} (h : laidMetH Tryz.prog Rows.orderKnownRow.laid W) : Lib.TabIs Tryz.prog W "math/bits.deBruijn64tab" .u8 (Lib.deBruijn64tab.map fun (x : Nat) => (x : Int)) :=
 Lib.tabIs_of_head (rest := [("unicode/utf8.acceptRanges", Rows.laid_unicode_utf8_acceptRanges), ("unicode/utf8.first", Rows.laid_unicode_utf8_first)]) gTab gTabType Tryz.underlying271 Tryz.underlying5 cellsE cellsT h
theorem tab{W:World}(h:laidMetH Tryz.prog Rows.orderKnownRow.laid W):Tab W:=fun j hj=>by
 have hl:Lib.deBruijn64tab.length=64:=by decide
 have:=(table h).cell gTab j (by rw [List.length_map,hl];exact hj);rw [this];have hj':j<Lib.deBruijn64tab.length:=by omega
 simp [List.getD_eq_getElem?_getD,hj']
theorem contract(H:Type)(enc:TypeId × Value->H)(W:World)(args:Array Value)(a g:List (DataW H)) (d:List MemPlace)
  (c:DataW.Whole enc Tryz.prog Tryz.f11.params.toList Rows.orderKnownSpec.vars false W args.toList a g d) (j:laidMetH Tryz.prog Rows.orderKnownRow.laid W) :
  Calls Tryz.prog 11 args W fun e W'=>∃ v,e=.returned v/\Rows.orderKnownSpec.post enc Tryz.prog Tryz.f11 false true false false W args v W':=by
 have l:=c;obtain⟨n,r,i,k,rfl,p,q⟩:=c;have b:DataW.TrodAll enc Tryz.prog W 0 (fun _=>true) true Tryz.f11.params.toList args.toList a n:=i;rw [Tryz.params11] at b;obtain⟨o,rfl,rfl⟩:=trodAll_nil b;obtain rfl:args=#[]:=by cases args;simp_all
 obtain⟨rfl,rfl⟩:=trodVars_none k;refine(Be W (tab j)).mono fun e W' ⟨he,hg⟩=>?_
 subst he;have m:Below W.heap.size W W':=hg.below fun _ _ h=>h;exact⟨_,rfl,[],[],_,[],[],[],l,trodAll_cons_mk (shut_bool Tryz.underlying4 _) trodAll_mk0,trodAll_mk0,rfl,m.frame _,fun h=>by cases h⟩
def acceptZ:List Nat:=[128,191,160,191,128,159,144,191,128,143,0,0,0,0,0,0,0,0,0,0,0,0,0,0,0,0,0,0,0,0,0,0]
noncomputable def laidWorld (os:Os):World:=
 { World.holding Tryz.prog os ⟨#[],#[],[]⟩ with heap:=(((World.holding Tryz.prog os ⟨#[],#[],[]⟩).heap.modify 2 (fun | .cells _ t frozen=>.cells (acceptZ.map fun(x:Nat)=>Value.int .u8 x).toArray t frozen | o=>o)).modify 1 (fun | .cells _ t frozen=>.cells (Go.Pinned.utf8FirstZ.map fun(x:Nat)=>Value.int .u8 x).toArray t frozen | o=>o)).modify 0 (fun | .cells _ t frozen=>.cells (Lib.deBruijn64tab.map fun(x:Nat)=>Value.int .u8 x).toArray t frozen | o=>o) }
theorem laid_met(os:Os):laidMet Tryz.prog Rows.orderKnownRow.laid ((laidWorld os).forCall (fun _ _=>0) ⟨#[],#[],[]⟩).memory:=
 laidMet_of_run' 8 kz kz
theorem reads(os:Os){H:Type}(enc:TypeId × Value->H):∃ places,DataW.whole enc Tryz.prog ((laidWorld os).forCall (fun _ _=>0) ⟨#[],#[],[]⟩).memory Tryz.f11.params.toList Rows.orderKnownSpec.vars false (#[]:Array Value).toList 8=some ([],[],places):=
 ⟨[],by kernel_rfl⟩
theorem lifted(os:Os)(l:os.Started)(H:Type)(enc:TypeId × Value->H)(F:Stop.Interp) :
  ReturnsInHanded {} Tryz.checked os 11 .any ((OpenSpec.ofChange Rows.orderKnownSpec).preRow enc Tryz.prog Tryz.f11 Rows.orderKnownRow.domain false Rows.orderKnownRow.laid) (((OpenSpec.ofChange Rows.orderKnownSpec).at F).post enc Tryz.prog Tryz.f11 false true false false):=by
 obtain⟨o,j⟩:=reads os enc
 refine returnsInHanded_of_row (C:=Tryz.checked) (s:=OpenSpec.ofChange Rows.orderKnownSpec) own l kz Tryz.func11
  (witness_row_at (enc:=enc) (C:=Tryz.checked) false (laidWorld os) #[] rfl kz kz kz
   (OpenSpec.preRow_of_cond 8 j kz (fun k hk=>by cases hk) kz (laid_met os))) ?_
 intro a m b d e c n i _ _ _ g _ _;exact contract H enc a b d e c i g
theorem cell1:Rows.orderKnownRow.inPlace=Tryz.prog.inPlace 11:=by kernel_rfl
theorem cell2:Rows.orderKnownRow.unfollowed=Tryz.prog.unfollowed 11:=by kernel_rfl
theorem cell3:Rows.orderKnownRow.recurses=Tryz.prog.recurses 11:=by kernel_rfl
theorem cell4:Rows.orderKnownRow.named=Tryz.prog.varsNamed 11:=by kernel_rfl
theorem closed:joinedFacts Tryz.prog 11 Tryz.f11 (OpenSpec.ofChange Rows.orderKnownSpec).bare Rows.orderKnownRow=true:=by
 unfold joinedFacts
 rw [<-cell1,<-cell2,<-cell3,<-cell4]
 kernel_rfl
theorem said:Rows.OrderKnownSaid:=
 OpenClaim.holds_of_cond 11 Tryz.f11 rfl rfl rfl rfl rfl rfl rfl ⟨rfl,rfl,rfl,rfl,rfl⟩ rfl rfl rfl rfl rfl kz Tryz.func11 closed
  (of_decide_eq_true kz) (by unfold Func.isWrapper;first | (rw [if_pos (by decide +kernel)];kernel_rfl) | (rw [if_neg (by decide +kernel)];exact⟨rfl,rfl⟩))
  (fun os started H enc _ F=>by rw [OpenClaim.pre_eq_preRow];exact lifted os started H enc F)
theorem plain (f : FuncId) (a : Func) (b : Tryz.pinned.checked.prog.funcNamed "ablaut/ablautlaw14.OrderKnown" = some f) (c : Tryz.pinned.checked.prog.funcs[f]? = some a) :
  true=Tryz.pinned.checked.prog.looks []/\∀(j:Nat) t,a.params[j]?=some t->Tryz.pinned.checked.prog.wantsStandIn t=false:=by
 obtain rfl : f = 11 := Option.some.inj ((show Tryz.prog.funcNamed "ablaut/ablautlaw14.OrderKnown" = some 11 by kernel_rfl).symm.trans b) |>.symm;obtain rfl:a=Tryz.f11:=(Option.some.inj (Tryz.func11.symm.trans c)).symm;refine⟨by kernel_rfl,fun j t ht=>?_⟩;rw [Tryz.params11] at ht;simp at ht
theorem card:Rows.OrderKnownCardSaid:=
 Claim7.holds_tied_plain_at .later [] _ _ _ _ said (fun _ h=>by cases h) kz (fun _ h=>by cases h) orderKnown_row_tie rfl ⟨rfl,rfl⟩ kz rfl plain kz
end Go.Proofs.YtfdlhlghcbeblaaGreatDoor.orderKnown
