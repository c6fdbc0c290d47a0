/- ablautlaw14.OrderFirst: the card: whatever the arguments, OrderFirst returns true, and they read as before. Conditions: the table of math/bits reads as its initialiser lays it (the given tie pays it). -/
import Derived.Test.YtfdlhlghcbeblaaGreatDoorW32
import Derived.Test.YtfdlhlghcbeblaaGreatDoorW23
import Derived.Test.YtfdlhlghcbeblaaGreatDoorCards
import Derived.Test.YtfdlhlghcbeblaaGreatDoorTie
import Derived.Deep.DeepHandedRow
import Derived.Lib.LaidTab
set_option maxRecDepth 100000
namespace Go.Proofs.YtfdlhlghcbeblaaGreatDoor.orderFirst
open Go.ChangeShapes Go.WideShapes Go.ChangeAt Go.RowKit Go.Ab
theorem own:ownKnob Tryz.prog.godebug=none:=by kernel_rfl
theorem laidOut:laidOutB Tryz.prog=true:=by kernel_rfl
theorem gTab : Tryz.prog.globalNamed "math/bits.deBruijn64tab" = some 0 := by kernel_rfl
theorem gTabType:(Tryz.prog.globals[0]?).map (·.type)=some 271:=by kernel_rfl
theorem cellsT:Tryz.prog.cellsOf 271=64:=by kernel_rfl
theorem cellsE:Tryz.prog.cellsOf 5=1:=by kernel_rfl
theorem table {W : World} (h : laidMetH Tryz.prog Rows.orderFirstRow.laid W) : Lib.TabIs Tryz.prog W "math/bits.deBruijn64tab" .u8 (Lib.deBruijn64tab.map fun (x : Nat) => (x : Int)) :=
 Lib.tabIs_of_head (rest := [("unicode/utf8.acceptRanges", Rows.laid_unicode_utf8_acceptRanges), ("unicode/utf8.first", Rows.laid_unicode_utf8_first)]) gTab gTabType Tryz.underlying271 Tryz.underlying5 cellsE cellsT h
theorem tab{W:World}(h:laidMetH Tryz.prog Rows.orderFirstRow.laid W):Tab W:=fun j hj=>by
 have hl:Lib.deBruijn64tab.length=64:=by decide
 have:=(table h).cell gTab j (by rw [List.length_map,hl];exact hj);rw [this];have hj':j<Lib.deBruijn64tab.length:=by omega
 simp [List.getD_eq_getElem?_getD,hj']
theorem contract(H:Type)(enc:TypeId × Value->H)(W:World)(base:Nat)(args:Array Value)(d u:List (DataW H)) (s:List MemPlace)
   (b:∀(j:Nat) t v,Tryz.f7.params[j]?=some t->args[j]?=some v->Value.okWide Tryz.prog W .any base t v)
  (n:DataW.Whole enc Tryz.prog Tryz.f7.params.toList Rows.orderFirstSpec.vars false W args.toList d u s) (w:laidMetH Tryz.prog Rows.orderFirstRow.laid W) :
  Calls Tryz.prog 7 args W fun e W'=>∃ v,e=.returned v/\Rows.orderFirstSpec.post enc Tryz.prog Tryz.f7 false true false false W args v W':=by
 have o:=n;obtain⟨A,a0,m,y,rfl,R,S⟩:=n;have l:DataW.TrodAll enc Tryz.prog W 0 (fun _=>true) true Tryz.f7.params.toList args.toList d A:=m;rw [Tryz.params7] at l b;obtain⟨p,a4,K,N,B,a1,Q,rfl,rfl,g,E⟩:=trodAll_cons l;obtain⟨q,a5,L,O,C,a2,rfl,rfl,rfl,i,F⟩:=trodAll_cons E;obtain⟨r,a6,M,P,D,a3,rfl,rfl,rfl,k,G⟩:=trodAll_cons F;obtain⟨rfl,rfl,rfl⟩:=trodAll_nil G;obtain rfl:args=#[p,q,r]:=by cases args;simp_all
 obtain⟨rfl,rfl⟩:=trodVars_none y;clear m;obtain⟨T,V,Y,rfl,I,_⟩:=Wx (b 0 26 p rfl rfl) g;obtain⟨U,X,Z,rfl,J,_⟩:=Dz (b 1 61 q rfl rfl) i;obtain⟨z,rfl,_,_,a7⟩:=open_int Tryz.underlying3 (b 2 3 r rfl rfl) k;refine(Q0h I rfl J rfl z (tab w)).mono fun e W' ⟨he,hg⟩=>?_
 subst he;have a:Below W.heap.size W W':=hg.below fun _ _ h=>h;have c:∀ x∈(B++(C++(D++[])))++[],x.block<W.heap.size:=fun x hx=>o.lt x hx;exact⟨_,rfl,_,_,_,[],_,[],o,trodAll_cons_mk (shut_bool Tryz.underlying4 _) trodAll_mk0,trodAll_cons_mk (Below.trod laidOut kz (of_decide_eq_true kz) g a (fun x hx=>c x (by simp [hx]))) (trodAll_cons_mk (Below.trod laidOut kz (of_decide_eq_true kz) i a (fun x hx=>c x (by simp [hx]))) (trodAll_cons_mk (Below.trod laidOut kz (of_decide_eq_true kz) k a (fun x hx=>c x (by simp [hx]))) (trodAll_mk0))),rfl,a.frame _,fun h=>by cases h⟩
def acceptZ:List Nat:=[128,191,160,191,128,159,144,191,128,143,0,0,0,0,0,0,0,0,0,0,0,0,0,0,0,0,0,0,0,0,0,0]
noncomputable def laidWorld (os:Os):World:=
 { World.holding Tryz.prog os ⟨#[],#[],[]⟩ with heap:=(((World.holding Tryz.prog os ⟨#[],#[],[]⟩).heap.modify 2 (fun | .cells _ t frozen=>.cells (acceptZ.map fun(x:Nat)=>Value.int .u8 x).toArray t frozen | o=>o)).modify 1 (fun | .cells _ t frozen=>.cells (Go.Pinned.utf8FirstZ.map fun(x:Nat)=>Value.int .u8 x).toArray t frozen | o=>o)).modify 0 (fun | .cells _ t frozen=>.cells (Lib.deBruijn64tab.map fun(x:Nat)=>Value.int .u8 x).toArray t frozen | o=>o) }
theorem laid_met(os:Os):laidMet Tryz.prog Rows.orderFirstRow.laid ((laidWorld os).forCall (fun _ _=>0) ⟨#[],#[.slice none 0 0,.slice none 0 0,.int .i64 0],[]⟩).memory:=
 laidMet_of_run' 8 kz kz
theorem reads(os:Os){H:Type}(enc:TypeId × Value->H):∃ places,DataW.whole enc Tryz.prog ((laidWorld os).forCall (fun _ _=>0) ⟨#[],#[.slice none 0 0,.slice none 0 0,.int .i64 0],[]⟩).memory Tryz.f7.params.toList Rows.orderFirstSpec.vars false (#[.slice none 0 0,.slice none 0 0,.int .i64 0]:Array Value).toList 8=some ([.nil,.nil,.lit (.int .i64 0)],[],places):=
 ⟨[],by kernel_rfl⟩
theorem lifted(os:Os)(n:os.Started)(H:Type)(enc:TypeId × Value->H)(F:Stop.Interp) :
  ReturnsInHanded {} Tryz.checked os 7 .any ((OpenSpec.ofChange Rows.orderFirstSpec).preRow enc Tryz.prog Tryz.f7 Rows.orderFirstRow.domain false Rows.orderFirstRow.laid) (((OpenSpec.ofChange Rows.orderFirstSpec).at F).post enc Tryz.prog Tryz.f7 false true false false):=by
 obtain⟨o,m⟩:=reads os enc
 refine returnsInHanded_of_row (C:=Tryz.checked) (s:=OpenSpec.ofChange Rows.orderFirstSpec) own n kz Tryz.func7
  (witness_row_at (enc:=enc) (C:=Tryz.checked) false (laidWorld os) #[.slice none 0 0,.slice none 0 0,.int .i64 0] rfl kz kz kz
   (OpenSpec.preRow_of_cond 8 m kz (fun k hk=>by cases hk) kz (laid_met os))) ?_
 intro a c b e g d l j _ _ _ i _ _;exact contract H enc a c b e g d l j i
theorem cell1:Rows.orderFirstRow.inPlace=Tryz.prog.inPlace 7:=by kernel_rfl
theorem cell2:Rows.orderFirstRow.unfollowed=Tryz.prog.unfollowed 7:=by kernel_rfl
theorem cell3:Rows.orderFirstRow.recurses=Tryz.prog.recurses 7:=by kernel_rfl
theorem cell4:Rows.orderFirstRow.named=Tryz.prog.varsNamed 7:=by kernel_rfl
theorem closed:joinedFacts Tryz.prog 7 Tryz.f7 (OpenSpec.ofChange Rows.orderFirstSpec).bare Rows.orderFirstRow=true:=by
 unfold joinedFacts;rw [<-cell1,<-cell2,<-cell3,<-cell4]
 kernel_rfl
theorem said:Rows.OrderFirstSaid:=
 OpenClaim.holds_of_cond 7 Tryz.f7 rfl rfl rfl rfl rfl rfl rfl ⟨rfl,rfl,rfl,rfl,rfl⟩ rfl rfl rfl rfl rfl kz Tryz.func7 closed
  (of_decide_eq_true kz) (by unfold Func.isWrapper;first | (rw [if_pos (by decide +kernel)];kernel_rfl) | (rw [if_neg (by decide +kernel)];exact⟨rfl,rfl⟩))
  (fun os started H enc _ F=>by rw [OpenClaim.pre_eq_preRow];exact lifted os started H enc F)
theorem plain (f : FuncId) (a : Func) (c : Tryz.pinned.checked.prog.funcNamed "ablaut/ablautlaw14.OrderFirst" = some f) (d : Tryz.pinned.checked.prog.funcs[f]? = some a) :
  true=Tryz.pinned.checked.prog.looks []/\∀(j:Nat) t,a.params[j]?=some t->Tryz.pinned.checked.prog.wantsStandIn t=false:=by
 obtain rfl : f = 7 := Option.some.inj ((show Tryz.prog.funcNamed "ablaut/ablautlaw14.OrderFirst" = some 7 by kernel_rfl).symm.trans c) |>.symm;obtain rfl:a=Tryz.f7:=(Option.some.inj (Tryz.func7.symm.trans d)).symm;refine⟨by kernel_rfl,fun j t ht=>?_⟩;rw [Tryz.params7] at ht;have e:Tryz.prog.wantsStandIn 26=false:=by kernel_rfl
 have g:Tryz.prog.wantsStandIn 61=false:=by kernel_rfl
 have i:Tryz.prog.wantsStandIn 3=false:=by kernel_rfl
 have b:=Array.mem_of_getElem? ht;simp only [List.mem_toArray,List.mem_cons,List.not_mem_nil,or_false] at b;rcases b with rfl | rfl | rfl
 all_goals assumption
theorem card:Rows.OrderFirstCardSaid:=
 Claim7.holds_tied_plain_at .later [] _ _ _ _ said (fun _ h=>by cases h) kz (fun _ h=>by cases h) orderFirst_row_tie rfl ⟨rfl,rfl⟩ kz rfl plain kz
end Go.Proofs.YtfdlhlghcbeblaaGreatDoor.orderFirst
