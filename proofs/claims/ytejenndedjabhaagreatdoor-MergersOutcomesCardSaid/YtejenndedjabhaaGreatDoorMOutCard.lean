/- ablautlaw15.MergersOutcomes: the card: whatever the arguments, MergersOutcomes returns true, and they read as before. Conditions: the table of math/bits reads as its initialiser lays it (the given tie pays it). -/
import Derived.Test.YtejenndedjabhaaGreatDoorS28
import Derived.Test.YtejenndedjabhaaGreatDoorS31
import Derived.Test.YtejenndedjabhaaGreatDoorCards
import Derived.Test.YtejenndedjabhaaGreatDoorTie
import Derived.Deep.DeepHandedRow
import Derived.Lib.LaidTab
set_option maxRecDepth 100000
namespace Go.Proofs.YtejenndedjabhaaGreatDoor.mergersOutcomes
open Go.ChangeShapes Go.WideShapes Go.ChangeAt Go.RowKit Go.Ab
theorem own:ownKnob Tryz.prog.godebug=none:=by kernel_rfl
theorem laidOut:laidOutB Tryz.prog=true:=by kernel_rfl
theorem gTab : Tryz.prog.globalNamed "math/bits.deBruijn64tab" = some 3 := by kernel_rfl
theorem gTabType:(Tryz.prog.globals[3]?).map (·.type)=some 275:=by kernel_rfl
theorem cellsT:Tryz.prog.cellsOf 275=64:=by kernel_rfl
theorem cellsE:Tryz.prog.cellsOf 5=1:=by kernel_rfl
theorem table {W : World} (h : laidMetH Tryz.prog Rows.mergersOutcomesRow.laid W) : Lib.TabIs Tryz.prog W "math/bits.deBruijn64tab" .u8 (Lib.deBruijn64tab.map fun (x : Nat) => (x : Int)) :=
 Lib.tabIs_of_head (rest := [("unicode/utf8.acceptRanges", Rows.laid_unicode_utf8_acceptRanges), ("unicode/utf8.first", Rows.laid_unicode_utf8_first)]) gTab gTabType Tryz.underlying275 Tryz.underlying5 cellsE cellsT h
theorem tab{W:World}(h:laidMetH Tryz.prog Rows.mergersOutcomesRow.laid W):Tab W:=fun j hj=>by
 have hl:Lib.deBruijn64tab.length=64:=by decide
 have:=(table h).cell gTab j (by rw [List.length_map,hl];exact hj);rw [this];have hj':j<Lib.deBruijn64tab.length:=by omega
 simp [List.getD_eq_getElem?_getD,hj']
theorem contract(H:Type)(enc:TypeId × Value->H)(W:World)(base:Nat)(args:Array Value)(a o:List (DataW H)) (n:List MemPlace)
   (l:∀(j:Nat) t v,Tryz.f3.params[j]?=some t->args[j]?=some v->Value.okWide Tryz.prog W .any base t v)
  (g:DataW.Whole enc Tryz.prog Tryz.f3.params.toList Rows.mergersOutcomesSpec.vars false W args.toList a o n) (p:laidMetH Tryz.prog Rows.mergersOutcomesRow.laid W) :
  Calls Tryz.prog 3 args W fun e W'=>∃ v,e=.returned v/\Rows.mergersOutcomesSpec.post enc Tryz.prog Tryz.f3 false true false false W args v W':=by
 have i:=g;obtain⟨s,S,d,q,rfl,N,O⟩:=g;have c:DataW.TrodAll enc Tryz.prog W 0 (fun _=>true) true Tryz.f3.params.toList args.toList a s:=d;rw [Tryz.params3] at c l;obtain⟨m,a2,F,G,u,T,M,rfl,rfl,b,w⟩:=trodAll_cons c;obtain⟨rfl,rfl,rfl⟩:=trodAll_nil w;obtain rfl:args=#[m]:=by cases args;simp_all
 obtain⟨rfl,rfl⟩:=trodVars_none q;clear d;obtain⟨P,Q,R,J,K,I,L,V,U,Y,a0,X,a1,Z,rfl,B,C,D,E,y,z,A⟩:=By (l 0 28 m rfl rfl) b;refine(Q04 B rfl C D rfl E rfl y rfl z A (tab p)).mono fun e W' ⟨he,hg⟩=>?_
 subst he;have k:Below W.heap.size W W':=hg.below fun _ _ h=>h;have r:∀ x∈(u++[])++[],x.block<W.heap.size:=fun x hx=>i.lt x hx;exact⟨_,rfl,_,_,_,[],_,[],i,trodAll_cons_mk (shut_bool Tryz.underlying4 _) trodAll_mk0,trodAll_cons_mk (Below.trod laidOut kz (of_decide_eq_true kz) b k (fun x hx=>r x (by simp [hx]))) (trodAll_mk0),rfl,k.frame _,fun h=>by cases h⟩
def acceptZ:List Nat:=[128,191,160,191,128,159,144,191,128,143,0,0,0,0,0,0,0,0,0,0,0,0,0,0,0,0,0,0,0,0,0,0]
noncomputable def laidWorld (os:Os):World:=
 { World.holding Tryz.prog os ⟨#[],#[],[]⟩ with heap:=(((World.holding Tryz.prog os ⟨#[],#[],[]⟩).heap.modify 1 (fun | .cells _ t frozen=>.cells (acceptZ.map fun(x:Nat)=>Value.int .u8 x).toArray t frozen | o=>o)).modify 0 (fun | .cells _ t frozen=>.cells (Go.Pinned.utf8FirstZ.map fun(x:Nat)=>Value.int .u8 x).toArray t frozen | o=>o)).modify 3 (fun | .cells _ t frozen=>.cells (Lib.deBruijn64tab.map fun(x:Nat)=>Value.int .u8 x).toArray t frozen | o=>o) }
theorem laid_met(os:Os):laidMet Tryz.prog Rows.mergersOutcomesRow.laid ((laidWorld os).forCall (fun _ _=>0) ⟨#[],#[.agg #[.slice none 0 0,.slice none 0 0,.slice none 0 0,.slice none 0 0,.int .u32 0,.int .u32 0]],[]⟩).memory:=
 laidMet_of_run' 8 kz kz
theorem reads(os:Os){H:Type}(enc:TypeId × Value->H):∃ places,DataW.whole enc Tryz.prog ((laidWorld os).forCall (fun _ _=>0) ⟨#[],#[.agg #[.slice none 0 0,.slice none 0 0,.slice none 0 0,.slice none 0 0,.int .u32 0,.int .u32 0]],[]⟩).memory Tryz.f3.params.toList Rows.mergersOutcomesSpec.vars false (#[.agg #[.slice none 0 0,.slice none 0 0,.slice none 0 0,.slice none 0 0,.int .u32 0,.int .u32 0]]:Array Value).toList 8=some ([.agg [.nil,.nil,.nil,.nil,.agg [.lit (.int .u32 0),.lit (.int .u32 0)]]],[],places):=
 ⟨[],by kernel_rfl⟩
theorem lifted(os:Os)(n:os.Started)(H:Type)(enc:TypeId × Value->H)(F:Stop.Interp) :
  ReturnsInHanded {} Tryz.checked os 3 .any ((OpenSpec.ofChange Rows.mergersOutcomesSpec).preRow enc Tryz.prog Tryz.f3 Rows.mergersOutcomesRow.domain false Rows.mergersOutcomesRow.laid) (((OpenSpec.ofChange Rows.mergersOutcomesSpec).at F).post enc Tryz.prog Tryz.f3 false true false false):=by
 obtain⟨o,m⟩:=reads os enc
 refine returnsInHanded_of_row (C:=Tryz.checked) (s:=OpenSpec.ofChange Rows.mergersOutcomesSpec) own n kz Tryz.func3
  (witness_row_at (enc:=enc) (C:=Tryz.checked) false (laidWorld os) #[.agg #[.slice none 0 0,.slice none 0 0,.slice none 0 0,.slice none 0 0,.int .u32 0,.int .u32 0]] rfl kz kz kz
   (OpenSpec.preRow_of_cond 8 m kz (fun k hk=>by cases hk) kz (laid_met os))) ?_
 intro a c b e g d l j _ _ _ i _ _;exact contract H enc a c b e g d l j i
theorem cell1:Rows.mergersOutcomesRow.inPlace=Tryz.prog.inPlace 3:=by kernel_rfl
theorem cell2:Rows.mergersOutcomesRow.unfollowed=Tryz.prog.unfollowed 3:=by kernel_rfl
theorem cell3:Rows.mergersOutcomesRow.recurses=Tryz.prog.recurses 3:=by kernel_rfl
theorem cell4:Rows.mergersOutcomesRow.named=Tryz.prog.varsNamed 3:=by kernel_rfl
theorem closed:joinedFacts Tryz.prog 3 Tryz.f3 (OpenSpec.ofChange Rows.mergersOutcomesSpec).bare Rows.mergersOutcomesRow=true:=by
 unfold joinedFacts;rw [<-cell1,<-cell2,<-cell3,<-cell4]
 kernel_rfl
theorem said:Rows.MergersOutcomesSaid:=
 OpenClaim.holds_of_cond 3 Tryz.f3 rfl rfl rfl rfl rfl rfl rfl ⟨rfl,rfl,rfl,rfl,rfl⟩ rfl rfl rfl rfl rfl kz Tryz.func3 closed
  (of_decide_eq_true kz) (by unfold Func.isWrapper;first | (rw [if_pos (by decide +kernel)];kernel_rfl) | (rw [if_neg (by decide +kernel)];exact⟨rfl,rfl⟩))
  (fun os started H enc _ F=>by rw [OpenClaim.pre_eq_preRow];exact lifted os started H enc F)
theorem plain (f : FuncId) (a : Func) (c : Tryz.pinned.checked.prog.funcNamed "ablaut/ablautlaw15.MergersOutcomes" = some f) (d : Tryz.pinned.checked.prog.funcs[f]? = some a) :
  true=Tryz.pinned.checked.prog.looks []/\∀(j:Nat) t,a.params[j]?=some t->Tryz.pinned.checked.prog.wantsStandIn t=false:=by
 obtain rfl : f = 3 := Option.some.inj ((show Tryz.prog.funcNamed "ablaut/ablautlaw15.MergersOutcomes" = some 3 by kernel_rfl).symm.trans c) |>.symm;obtain rfl:a=Tryz.f3:=(Option.some.inj (Tryz.func3.symm.trans d)).symm;refine⟨by kernel_rfl,fun j t ht=>?_⟩;rw [Tryz.params3] at ht;have e:Tryz.prog.wantsStandIn 28=false:=by kernel_rfl
 have b:=Array.mem_of_getElem? ht;simp only [List.mem_toArray,List.mem_cons,List.not_mem_nil,or_false] at b;subst b;exact e
theorem card:Rows.MergersOutcomesCardSaid:=
 Claim7.holds_tied_plain_at .later [] _ _ _ _ said (fun _ h=>by cases h) kz (fun _ h=>by cases h) mergersOutcomes_row_tie rfl ⟨rfl,rfl⟩ kz rfl plain kz
end Go.Proofs.YtejenndedjabhaaGreatDoor.mergersOutcomes
