/- ablautlaw15.MergersLabels: the card: whatever the arguments, MergersLabels returns true, and they read as before. Conditions: the table of math/bits reads as its initialiser lays it (the given tie pays it). -/
import Derived.Test.YtejenndedjabhaaGreatDoorT28
import Derived.Test.YtejenndedjabhaaGreatDoorT25
import Derived.Test.YtejenndedjabhaaGreatDoorCards
import Derived.Test.YtejenndedjabhaaGreatDoorTie
import Derived.Deep.DeepHandedRow
import Derived.Lib.LaidTab
set_option maxRecDepth 100000
namespace Go.Proofs.YtejenndedjabhaaGreatDoor.mergersLabels
open Go.ChangeShapes Go.WideShapes Go.ChangeAt Go.RowKit Go.Ab
theorem own:ownKnob Tryz.prog.godebug=none:=by kernel_rfl
theorem laidOut:laidOutB Tryz.prog=true:=by kernel_rfl
theorem gTab : Tryz.prog.globalNamed "math/bits.deBruijn64tab" = some 3 := by kernel_rfl
theorem gTabType:(Tryz.prog.globals[3]?).map (·.type)=some 275:=by kernel_rfl
theorem cellsT:Tryz.prog.cellsOf 275=64:=by kernel_rfl
theorem cellsE:Tryz.prog.cellsOf 5=1:=by kernel_rfl
theorem table {W : World} (h : laidMetH Tryz.prog Rows.mergersLabelsRow.laid W) : Lib.TabIs Tryz.prog W "math/bits.deBruijn64tab" .u8 (Lib.deBruijn64tab.map fun (x : Nat) => (x : Int)) :=
 Lib.tabIs_of_head (rest := [("unicode/utf8.acceptRanges", Rows.laid_unicode_utf8_acceptRanges), ("unicode/utf8.first", Rows.laid_unicode_utf8_first)]) gTab gTabType Tryz.underlying275 Tryz.underlying5 cellsE cellsT h
theorem tab{W:World}(h:laidMetH Tryz.prog Rows.mergersLabelsRow.laid W):Tab W:=fun j hj=>by
 have hl:Lib.deBruijn64tab.length=64:=by decide
 have:=(table h).cell gTab j (by rw [List.length_map,hl];exact hj);rw [this];have hj':j<Lib.deBruijn64tab.length:=by omega
 simp [List.getD_eq_getElem?_getD,hj']
theorem contract(H:Type)(enc:TypeId × Value->H)(W:World)(base:Nat)(args:Array Value)(d u:List (DataW H)) (s:List MemPlace)
   (b:∀(j:Nat) t v,Tryz.f10.params[j]?=some t->args[j]?=some v->Value.okWide Tryz.prog W .any base t v)
  (n:DataW.Whole enc Tryz.prog Tryz.f10.params.toList Rows.mergersLabelsSpec.vars false W args.toList d u s) (w:laidMetH Tryz.prog Rows.mergersLabelsRow.laid W) :
  Calls Tryz.prog 10 args W fun e W'=>∃ v,e=.returned v/\Rows.mergersLabelsSpec.post enc Tryz.prog Tryz.f10 false true false false W args v W':=by
 have o:=n;obtain⟨z,a8,m,y,rfl,X,Y⟩:=n;have l:DataW.TrodAll enc Tryz.prog W 0 (fun _=>true) true Tryz.f10.params.toList args.toList d z:=m;rw [Tryz.params10] at l b;obtain⟨p,b2,P,S,A,a9,V,rfl,rfl,g,D⟩:=trodAll_cons l;obtain⟨q,b3,Q,T,B,b0,rfl,rfl,rfl,i,E⟩:=trodAll_cons D;obtain⟨r,b4,R,U,C,b1,rfl,rfl,rfl,k,F⟩:=trodAll_cons E;obtain⟨rfl,rfl,rfl⟩:=trodAll_nil F;obtain rfl:args=#[p,q,r]:=by cases args;simp_all
 obtain⟨rfl,rfl⟩:=trodVars_none y;clear m;obtain⟨Z,a2,a5,rfl,G,K⟩:=Q4i (b 0 22 p rfl rfl) g;obtain⟨a0,a3,a6,rfl,I,L,N⟩:=Pm (b 1 40 q rfl rfl) i;obtain⟨a1,a4,a7,rfl,J,M,O⟩:=Pm (b 2 40 r rfl rfl) k;refine(Qac G rfl K I rfl N L J rfl O M (tab w)).mono fun e W' ⟨he,hg⟩=>?_
 subst he;have a:Below W.heap.size W W':=hg.below fun _ _ h=>h;have c:∀ x∈(A++(B++(C++[])))++[],x.block<W.heap.size:=fun x hx=>o.lt x hx;exact⟨_,rfl,_,_,_,[],_,[],o,trodAll_cons_mk (shut_bool Tryz.underlying4 _) trodAll_mk0,trodAll_cons_mk (Below.trod laidOut kz (of_decide_eq_true kz) g a (fun x hx=>c x (by simp [hx]))) (trodAll_cons_mk (Below.trod laidOut kz (of_decide_eq_true kz) i a (fun x hx=>c x (by simp [hx]))) (trodAll_cons_mk (Below.trod laidOut kz (of_decide_eq_true kz) k a (fun x hx=>c x (by simp [hx]))) (trodAll_mk0))),rfl,a.frame _,fun h=>by cases h⟩
def acceptZ:List Nat:=[128,191,160,191,128,159,144,191,128,143,0,0,0,0,0,0,0,0,0,0,0,0,0,0,0,0,0,0,0,0,0,0]
noncomputable def laidWorld (os:Os):World:=
 { World.holding Tryz.prog os ⟨#[],#[],[]⟩ with heap:=(((World.holding Tryz.prog os ⟨#[],#[],[]⟩).heap.modify 1 (fun | .cells _ t frozen=>.cells (acceptZ.map fun(x:Nat)=>Value.int .u8 x).toArray t frozen | o=>o)).modify 0 (fun | .cells _ t frozen=>.cells (Go.Pinned.utf8FirstZ.map fun(x:Nat)=>Value.int .u8 x).toArray t frozen | o=>o)).modify 3 (fun | .cells _ t frozen=>.cells (Lib.deBruijn64tab.map fun(x:Nat)=>Value.int .u8 x).toArray t frozen | o=>o) }
theorem laid_met(os:Os):laidMet Tryz.prog Rows.mergersLabelsRow.laid ((laidWorld os).forCall (fun _ _=>0) ⟨#[],#[.slice none 0 0,.slice none 0 0,.slice none 0 0],[]⟩).memory:=
 laidMet_of_run' 8 kz kz
theorem reads(os:Os){H:Type}(enc:TypeId × Value->H):∃ places,DataW.whole enc Tryz.prog ((laidWorld os).forCall (fun _ _=>0) ⟨#[],#[.slice none 0 0,.slice none 0 0,.slice none 0 0],[]⟩).memory Tryz.f10.params.toList Rows.mergersLabelsSpec.vars false (#[.slice none 0 0,.slice none 0 0,.slice none 0 0]:Array Value).toList 8=some ([.nil,.nil,.nil],[],places):=
 ⟨[],by kernel_rfl⟩
theorem lifted(os:Os)(n:os.Started)(H:Type)(enc:TypeId × Value->H)(F:Stop.Interp) :
  ReturnsInHanded {} Tryz.checked os 10 .any ((OpenSpec.ofChange Rows.mergersLabelsSpec).preRow enc Tryz.prog Tryz.f10 Rows.mergersLabelsRow.domain false Rows.mergersLabelsRow.laid) (((OpenSpec.ofChange Rows.mergersLabelsSpec).at F).post enc Tryz.prog Tryz.f10 false true false false):=by
 obtain⟨o,m⟩:=reads os enc
 refine returnsInHanded_of_row (C:=Tryz.checked) (s:=OpenSpec.ofChange Rows.mergersLabelsSpec) own n kz Tryz.func10
  (witness_row_at (enc:=enc) (C:=Tryz.checked) false (laidWorld os) #[.slice none 0 0,.slice none 0 0,.slice none 0 0] rfl kz kz kz
   (OpenSpec.preRow_of_cond 8 m kz (fun k hk=>by cases hk) kz (laid_met os))) ?_
 intro a c b e g d l j _ _ _ i _ _;exact contract H enc a c b e g d l j i
theorem cell1:Rows.mergersLabelsRow.inPlace=Tryz.prog.inPlace 10:=by kernel_rfl
theorem cell2:Rows.mergersLabelsRow.unfollowed=Tryz.prog.unfollowed 10:=by kernel_rfl
theorem cell3:Rows.mergersLabelsRow.recurses=Tryz.prog.recurses 10:=by kernel_rfl
theorem cell4:Rows.mergersLabelsRow.named=Tryz.prog.varsNamed 10:=by kernel_rfl
theorem closed:joinedFacts Tryz.prog 10 Tryz.f10 (OpenSpec.ofChange Rows.mergersLabelsSpec).bare Rows.mergersLabelsRow=true:=by
 unfold joinedFacts;rw [<-cell1,<-cell2,<-cell3,<-cell4]
 kernel_rfl
theorem said:Rows.MergersLabelsSaid:=
 OpenClaim.holds_of_cond 10 Tryz.f10 rfl rfl rfl rfl rfl rfl rfl ⟨rfl,rfl,rfl,rfl,rfl⟩ rfl rfl rfl rfl rfl kz Tryz.func10 closed
  (of_decide_eq_true kz) (by unfold Func.isWrapper;first | (rw [if_pos (by decide +kernel)];kernel_rfl) | (rw [if_neg (by decide +kernel)];exact⟨rfl,rfl⟩))
  (fun os started H enc _ F=>by rw [OpenClaim.pre_eq_preRow];exact lifted os started H enc F)
theorem plain (f : FuncId) (a : Func) (c : Tryz.pinned.checked.prog.funcNamed "ablaut/ablautlaw15.MergersLabels" = some f) (d : Tryz.pinned.checked.prog.funcs[f]? = some a) :
  true=Tryz.pinned.checked.prog.looks []/\∀(j:Nat) t,a.params[j]?=some t->Tryz.pinned.checked.prog.wantsStandIn t=false:=by
 obtain rfl : f = 10 := Option.some.inj ((show Tryz.prog.funcNamed "ablaut/ablautlaw15.MergersLabels" = some 10 by kernel_rfl).symm.trans c) |>.symm;obtain rfl:a=Tryz.f10:=(Option.some.inj (Tryz.func10.symm.trans d)).symm;refine⟨by kernel_rfl,fun j t ht=>?_⟩;rw [Tryz.params10] at ht;have e:Tryz.prog.wantsStandIn 22=false:=by kernel_rfl
 have g:Tryz.prog.wantsStandIn 40=false:=by kernel_rfl
 have i:Tryz.prog.wantsStandIn 40=false:=by kernel_rfl
 have b:=Array.mem_of_getElem? ht;simp only [List.mem_toArray,List.mem_cons,List.not_mem_nil,or_false] at b;rcases b with rfl | rfl | rfl
 all_goals assumption
theorem card:Rows.MergersLabelsCardSaid:=
 Claim7.holds_tied_plain_at .later [] _ _ _ _ said (fun _ h=>by cases h) kz (fun _ h=>by cases h) mergersLabels_row_tie rfl ⟨rfl,rfl⟩ kz rfl plain kz
end Go.Proofs.YtejenndedjabhaaGreatDoor.mergersLabels
