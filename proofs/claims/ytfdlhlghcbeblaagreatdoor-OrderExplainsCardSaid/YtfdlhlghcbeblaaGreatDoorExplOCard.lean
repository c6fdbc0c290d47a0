/- ablautlaw14.OrderExplains: the card: whatever the arguments, OrderExplains returns true, and they read as before. Conditions: the table of math/bits reads as its initialiser lays it (the given tie pays it). -/
import Derived.Test.YtfdlhlghcbeblaaGreatDoorW31
import Derived.Test.YtfdlhlghcbeblaaGreatDoorW23
import Derived.Test.YtfdlhlghcbeblaaGreatDoorCards
import Derived.Test.YtfdlhlghcbeblaaGreatDoorTie
import Derived.Deep.DeepHandedRow
import Derived.Lib.LaidTab
set_option maxRecDepth 100000
namespace Go.Proofs.YtfdlhlghcbeblaaGreatDoor.orderExplains
open Go.ChangeShapes Go.WideShapes Go.ChangeAt Go.RowKit Go.Ab
theorem own:ownKnob Tryz.prog.godebug=none:=by kernel_rfl
theorem laidOut:laidOutB Tryz.prog=true:=by kernel_rfl
theorem gTab : Tryz.prog.globalNamed "math/bits.deBruijn64tab" = some 0 := by kernel_rfl
theorem gTabType:(Tryz.prog.globals[0]?).map (·.type)=some 271:=by kernel_rfl
theorem cellsT:Tryz.prog.cellsOf 271=64:=by kernel_rfl
theorem cellsE:Tryz.prog.cellsOf 5=1:=by kernel_rfl
theorem table {W : World} (h : laidMetH Tryz.prog Rows.orderExplainsRow.laid W) : Lib.TabIs Tryz.prog W "math/bits.deBruijn64tab" .u8 (Lib.deBruijn64tab.map fun (x : Nat) => (x : Int)) :=
 Lib.tabIs_of_head (rest := [("unicode/utf8.acceptRanges", Rows.laid_unicode_utf8_acceptRanges), ("unicode/utf8.first", Rows.laid_unicode_utf8_first)]) gTab gTabType Tryz.underlying271 Tryz.underlying5 cellsE cellsT h
theorem tab{W:World}(h:laidMetH Tryz.prog Rows.orderExplainsRow.laid W):Tab W:=fun j hj=>by
 have hl:Lib.deBruijn64tab.length=64:=by decide
 have:=(table h).cell gTab j (by rw [List.length_map,hl];exact hj);rw [this];have hj':j<Lib.deBruijn64tab.length:=by omega
 simp [List.getD_eq_getElem?_getD,hj']
theorem contract(H:Type)(enc:TypeId × Value->H)(W:World)(base:Nat)(args:Array Value)(c r:List (DataW H)) (q:List MemPlace)
   (b:∀(j:Nat) t v,Tryz.f13.params[j]?=some t->args[j]?=some v->Value.okWide Tryz.prog W .any base t v)
  (l:DataW.Whole enc Tryz.prog Tryz.f13.params.toList Rows.orderExplainsSpec.vars false W args.toList c r q) (s:laidMetH Tryz.prog Rows.orderExplainsRow.laid W) :
  Calls Tryz.prog 13 args W fun e W'=>∃ v,e=.returned v/\Rows.orderExplainsSpec.post enc Tryz.prog Tryz.f13 false true false false W args v W':=by
 have m:=l;obtain⟨w,S,k,u,rfl,K,L⟩:=l;have i:DataW.TrodAll enc Tryz.prog W 0 (fun _=>true) true Tryz.f13.params.toList args.toList c w:=k;rw [Tryz.params13] at i b;obtain⟨o,V,E,G,y,T,J,rfl,rfl,d,A⟩:=trodAll_cons i;obtain⟨p,X,F,I,z,U,rfl,rfl,rfl,g,B⟩:=trodAll_cons A;obtain⟨rfl,rfl,rfl⟩:=trodAll_nil B;obtain rfl:args=#[o,p]:=by cases args;simp_all
 obtain⟨rfl,rfl⟩:=trodVars_none u;clear k;obtain⟨M,O,Q,rfl,C,_⟩:=Wx (b 0 26 o rfl rfl) d;obtain⟨N,P,R,rfl,D,_⟩:=Dz (b 1 61 p rfl rfl) g;refine(Cy C rfl D rfl (tab s)).mono fun e W' ⟨he,hg⟩=>?_
 subst he;have a:Below W.heap.size W W':=hg.below fun _ _ h=>h;have n:∀ x∈(y++(z++[]))++[],x.block<W.heap.size:=fun x hx=>m.lt x hx;exact⟨_,rfl,_,_,_,[],_,[],m,trodAll_cons_mk (shut_bool Tryz.underlying4 _) trodAll_mk0,trodAll_cons_mk (Below.trod laidOut kz (of_decide_eq_true kz) d a (fun x hx=>n x (by simp [hx]))) (trodAll_cons_mk (Below.trod laidOut kz (of_decide_eq_true kz) g a (fun x hx=>n x (by simp [hx]))) (trodAll_mk0)),rfl,a.frame _,fun h=>by cases h⟩
def acceptZ:List Nat:=[128,191,160,191,128,159,144,191,128,143,0,0,0,0,0,0,0,0,0,0,0,0,0,0,0,0,0,0,0,0,0,0]
noncomputable def laidWorld (os:Os):World:=
 { World.holding Tryz.prog os ⟨#[],#[],[]⟩ with heap:=(((World.holding Tryz.prog os ⟨#[],#[],[]⟩).heap.modify 2 (fun | .cells _ t frozen=>.cells (acceptZ.map fun(x:Nat)=>Value.int .u8 x).toArray t frozen | o=>o)).modify 1 (fun | .cells _ t frozen=>.cells (Go.Pinned.utf8FirstZ.map fun(x:Nat)=>Value.int .u8 x).toArray t frozen | o=>o)).modify 0 (fun | .cells _ t frozen=>.cells (Lib.deBruijn64tab.map fun(x:Nat)=>Value.int .u8 x).toArray t frozen | o=>o) }
theorem laid_met(os:Os):laidMet Tryz.prog Rows.orderExplainsRow.laid ((laidWorld os).forCall (fun _ _=>0) ⟨#[],#[.slice none 0 0,.slice none 0 0],[]⟩).memory:=
 laidMet_of_run' 8 kz kz
theorem reads(os:Os){H:Type}(enc:TypeId × Value->H):∃ places,DataW.whole enc Tryz.prog ((laidWorld os).forCall (fun _ _=>0) ⟨#[],#[.slice none 0 0,.slice none 0 0],[]⟩).memory Tryz.f13.params.toList Rows.orderExplainsSpec.vars false (#[.slice none 0 0,.slice none 0 0]:Array Value).toList 8=some ([.nil,.nil],[],places):=
 ⟨[],by kernel_rfl⟩
theorem lifted(os:Os)(n:os.Started)(H:Type)(enc:TypeId × Value->H)(F:Stop.Interp) :
  ReturnsInHanded {} Tryz.checked os 13 .any ((OpenSpec.ofChange Rows.orderExplainsSpec).preRow enc Tryz.prog Tryz.f13 Rows.orderExplainsRow.domain false Rows.orderExplainsRow.laid) (((OpenSpec.ofChange Rows.orderExplainsSpec).at F).post enc Tryz.prog Tryz.f13 false true false false):=by
 obtain⟨o,m⟩:=reads os enc
 refine returnsInHanded_of_row (C:=Tryz.checked) (s:=OpenSpec.ofChange Rows.orderExplainsSpec) own n kz Tryz.func13
  (witness_row_at (enc:=enc) (C:=Tryz.checked) false (laidWorld os) #[.slice none 0 0,.slice none 0 0] rfl kz kz kz
   (OpenSpec.preRow_of_cond 8 m kz (fun k hk=>by cases hk) kz (laid_met os))) ?_
 intro a c b e g d l j _ _ _ i _ _;exact contract H enc a c b e g d l j i
theorem cell1:Rows.orderExplainsRow.inPlace=Tryz.prog.inPlace 13:=by kernel_rfl
theorem cell2:Rows.orderExplainsRow.unfollowed=Tryz.prog.unfollowed 13:=by kernel_rfl
theorem cell3:Rows.orderExplainsRow.recurses=Tryz.prog.recurses 13:=by kernel_rfl
theorem cell4:Rows.orderExplainsRow.named=Tryz.prog.varsNamed 13:=by kernel_rfl
theorem closed:joinedFacts Tryz.prog 13 Tryz.f13 (OpenSpec.ofChange Rows.orderExplainsSpec).bare Rows.orderExplainsRow=true:=by
 unfold joinedFacts;rw [<-cell1,<-cell2,<-cell3,<-cell4]
 kernel_rfl
theorem said:Rows.OrderExplainsSaid:=
 OpenClaim.holds_of_cond 13 Tryz.f13 rfl rfl rfl rfl rfl rfl rfl ⟨rfl,rfl,rfl,rfl,rfl⟩ rfl rfl rfl rfl rfl kz Tryz.func13 closed
  (of_decide_eq_true kz) (by unfold Func.isWrapper;first | (rw [if_pos (by decide +kernel)];kernel_rfl) | (rw [if_neg (by decide +kernel)];exact⟨rfl,rfl⟩))
  (fun os started H enc _ F=>by rw [OpenClaim.pre_eq_preRow];exact lifted os started H enc F)
theorem plain (f : FuncId) (a : Func) (c : Tryz.pinned.checked.prog.funcNamed "ablaut/ablautlaw14.OrderExplains" = some f) (d : Tryz.pinned.checked.prog.funcs[f]? = some a) :
  true=Tryz.pinned.checked.prog.looks []/\∀(j:Nat) t,a.params[j]?=some t->Tryz.pinned.checked.prog.wantsStandIn t=false:=by
 obtain rfl : f = 13 := Option.some.inj ((show Tryz.prog.funcNamed "ablaut/ablautlaw14.OrderExplains" = some 13 by kernel_rfl).symm.trans c) |>.symm;obtain rfl:a=Tryz.f13:=(Option.some.inj (Tryz.func13.symm.trans d)).symm;refine⟨by kernel_rfl,fun j t ht=>?_⟩;rw [Tryz.params13] at ht;have e:Tryz.prog.wantsStandIn 26=false:=by kernel_rfl
 have g:Tryz.prog.wantsStandIn 61=false:=by kernel_rfl
 have b:=Array.mem_of_getElem? ht;simp only [List.mem_toArray,List.mem_cons,List.not_mem_nil,or_false] at b;rcases b with rfl | rfl
 all_goals assumption
theorem card:Rows.OrderExplainsCardSaid:=
 Claim7.holds_tied_plain_at .later [] _ _ _ _ said (fun _ h=>by cases h) kz (fun _ h=>by cases h) orderExplains_row_tie rfl ⟨rfl,rfl⟩ kz rfl plain kz
end Go.Proofs.YtfdlhlghcbeblaaGreatDoor.orderExplains
