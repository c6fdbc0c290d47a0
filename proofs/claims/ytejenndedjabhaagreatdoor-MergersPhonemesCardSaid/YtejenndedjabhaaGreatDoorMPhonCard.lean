/- ablautlaw15.MergersPhonemes: the card: whatever the arguments, MergersPhonemes returns true, and they read as before. Conditions: the table of math/bits reads as its initialiser lays it (the given tie pays it). -/
import Derived.Test.YtejenndedjabhaaGreatDoorT27
import Derived.Test.YtejenndedjabhaaGreatDoorT29
import Derived.Test.YtejenndedjabhaaGreatDoorCards
import Derived.Test.YtejenndedjabhaaGreatDoorTie
import Derived.Deep.DeepHandedRow
import Derived.Lib.LaidTab
set_option maxRecDepth 100000
namespace Go.Proofs.YtejenndedjabhaaGreatDoor.mergersPhonemes
open Go.ChangeShapes Go.WideShapes Go.ChangeAt Go.RowKit Go.Ab
theorem own:ownKnob Tryz.prog.godebug=none:=by kernel_rfl
theorem laidOut:laidOutB Tryz.prog=true:=by kernel_rfl
theorem gTab : Tryz.prog.globalNamed "math/bits.deBruijn64tab" = some 3 := by kernel_rfl
theorem gTabType:(Tryz.prog.globals[3]?).map (·.type)=some 275:=by kernel_rfl
theorem cellsT:Tryz.prog.cellsOf 275=64:=by kernel_rfl
theorem cellsE:Tryz.prog.cellsOf 5=1:=by kernel_rfl
theorem table {W : World} (h : laidMetH Tryz.prog Rows.mergersPhonemesRow.laid W) : Lib.TabIs Tryz.prog W "math/bits.deBruijn64tab" .u8 (Lib.deBruijn64tab.map fun (x : Nat) => (x : Int)) :=
 Lib.tabIs_of_head (rest := [("unicode/utf8.acceptRanges", Rows.laid_unicode_utf8_acceptRanges), ("unicode/utf8.first", Rows.laid_unicode_utf8_first)]) gTab gTabType Tryz.underlying275 Tryz.underlying5 cellsE cellsT h
theorem tab{W:World}(h:laidMetH Tryz.prog Rows.mergersPhonemesRow.laid W):Tab W:=fun j hj=>by
 have hl:Lib.deBruijn64tab.length=64:=by decide
 have:=(table h).cell gTab j (by rw [List.length_map,hl];exact hj);rw [this];have hj':j<Lib.deBruijn64tab.length:=by omega
 simp [List.getD_eq_getElem?_getD,hj']
theorem contract(H:Type)(enc:TypeId × Value->H)(W:World)(base:Nat)(args:Array Value)(d u:List (DataW H)) (s:List MemPlace)
   (b:∀(j:Nat) t v,Tryz.f11.params[j]?=some t->args[j]?=some v->Value.okWide Tryz.prog W .any base t v)
  (n:DataW.Whole enc Tryz.prog Tryz.f11.params.toList Rows.mergersPhonemesSpec.vars false W args.toList d u s) (w:laidMetH Tryz.prog Rows.mergersPhonemesRow.laid W) :
  Calls Tryz.prog 11 args W fun e W'=>∃ v,e=.returned v/\Rows.mergersPhonemesSpec.post enc Tryz.prog Tryz.f11 false true false false W args v W':=by
 have o:=n;obtain⟨z,a6,m,y,rfl,U,V⟩:=n;have l:DataW.TrodAll enc Tryz.prog W 0 (fun _=>true) true Tryz.f11.params.toList args.toList d z:=m;rw [Tryz.params11] at l b;obtain⟨p,b0,N,Q,A,a7,T,rfl,rfl,g,D⟩:=trodAll_cons l;obtain⟨q,b1,O,R,B,a8,rfl,rfl,rfl,i,E⟩:=trodAll_cons D;obtain⟨r,b2,P,S,C,a9,rfl,rfl,rfl,k,F⟩:=trodAll_cons E;obtain⟨rfl,rfl,rfl⟩:=trodAll_nil F;obtain rfl:args=#[p,q,r]:=by cases args;simp_all
 obtain⟨rfl,rfl⟩:=trodVars_none y;clear m;obtain⟨X,a0,a3,rfl,G,K⟩:=Q4i (b 0 22 p rfl rfl) g;obtain⟨Y,a1,a4,rfl,I,L⟩:=Q9q (b 1 74 q rfl rfl) i;obtain⟨Z,a2,a5,rfl,J,M⟩:=Qd9 (b 2 23 r rfl rfl) k;refine(Q5b G rfl K I rfl L J rfl M (tab w)).mono fun e W' ⟨he,hg⟩=>?_
 subst he;have a:Below W.heap.size W W':=hg.below fun _ _ h=>h;have c:∀ x∈(A++(B++(C++[])))++[],x.block<W.heap.size:=fun x hx=>o.lt x hx;exact⟨_,rfl,_,_,_,[],_,[],o,trodAll_cons_mk (shut_bool Tryz.underlying4 _) trodAll_mk0,trodAll_cons_mk (Below.trod laidOut kz (of_decide_eq_true kz) g a (fun x hx=>c x (by simp [hx]))) (trodAll_cons_mk (Below.trod laidOut kz (of_decide_eq_true kz) i a (fun x hx=>c x (by simp [hx]))) (trodAll_cons_mk (Below.trod laidOut kz (of_decide_eq_true kz) k a (fun x hx=>c x (by simp [hx]))) (trodAll_mk0))),rfl,a.frame _,fun h=>by cases h⟩
def acceptZ:List Nat:=[128,191,160,191,128,159,144,191,128,143,0,0,0,0,0,0,0,0,0,0,0,0,0,0,0,0,0,0,0,0,0,0]
noncomputable def laidWorld (os:Os):World:=
 { World.holding Tryz.prog os ⟨#[],#[],[]⟩ with heap:=(((World.holding Tryz.prog os ⟨#[],#[],[]⟩).heap.modify 1 (fun | .cells _ t frozen=>.cells (acceptZ.map fun(x:Nat)=>Value.int .u8 x).toArray t frozen | o=>o)).modify 0 (fun | .cells _ t frozen=>.cells (Go.Pinned.utf8FirstZ.map fun(x:Nat)=>Value.int .u8 x).toArray t frozen | o=>o)).modify 3 (fun | .cells _ t frozen=>.cells (Lib.deBruijn64tab.map fun(x:Nat)=>Value.int .u8 x).toArray t frozen | o=>o) }
theorem laid_met(os:Os):laidMet Tryz.prog Rows.mergersPhonemesRow.laid ((laidWorld os).forCall (fun _ _=>0) ⟨#[],#[.slice none 0 0,.slice none 0 0,.slice none 0 0],[]⟩).memory:=
 laidMet_of_run' 8 kz kz
theorem reads(os:Os){H:Type}(enc:TypeId × Value->H):∃ places,DataW.whole enc Tryz.prog ((laidWorld os).forCall (fun _ _=>0) ⟨#[],#[.slice none 0 0,.slice none 0 0,.slice none 0 0],[]⟩).memory Tryz.f11.params.toList Rows.mergersPhonemesSpec.vars false (#[.slice none 0 0,.slice none 0 0,.slice none 0 0]:Array Value).toList 8=some ([.nil,.nil,.nil],[],places):=
 ⟨[],by kernel_rfl⟩
theorem lifted(os:Os)(n:os.Started)(H:Type)(enc:TypeId × Value->H)(F:Stop.Interp) :
  ReturnsInHanded {} Tryz.checked os 11 .any ((OpenSpec.ofChange Rows.mergersPhonemesSpec).preRow enc Tryz.prog Tryz.f11 Rows.mergersPhonemesRow.domain false Rows.mergersPhonemesRow.laid) (((OpenSpec.ofChange Rows.mergersPhonemesSpec).at F).post enc Tryz.prog Tryz.f11 false true false false):=by
 obtain⟨o,m⟩:=reads os enc
 refine returnsInHanded_of_row (C:=Tryz.checked) (s:=OpenSpec.ofChange Rows.mergersPhonemesSpec) own n kz Tryz.func11
  (witness_row_at (enc:=enc) (C:=Tryz.checked) false (laidWorld os) #[.slice none 0 0,.slice none 0 0,.slice none 0 0] rfl kz kz kz
   (OpenSpec.preRow_of_cond 8 m kz (fun k hk=>by cases hk) kz (laid_met os))) ?_
 intro a c b e g d l j _ _ _ i _ _;exact contract H enc a c b e g d l j i
theorem cell1:Rows.mergersPhonemesRow.inPlace=Tryz.prog.inPlace 11:=by kernel_rfl
theorem cell2:Rows.mergersPhonemesRow.unfollowed=Tryz.prog.unfollowed 11:=by kernel_rfl
theorem cell3:Rows.mergersPhonemesRow.recurses=Tryz.prog.recurses 11:=by kernel_rfl
theorem cell4:Rows.mergersPhonemesRow.named=Tryz.prog.varsNamed 11:=by kernel_rfl
theorem closed:joinedFacts Tryz.prog 11 Tryz.f11 (OpenSpec.ofChange Rows.mergersPhonemesSpec).bare Rows.mergersPhonemesRow=true:=by
 unfold joinedFacts;rw [<-cell1,<-cell2,<-cell3,<-cell4]
 kernel_rfl
theorem said:Rows.MergersPhonemesSaid:=
 OpenClaim.holds_of_cond 11 Tryz.f11 rfl rfl rfl rfl rfl rfl rfl ⟨rfl,rfl,rfl,rfl,rfl⟩ rfl rfl rfl rfl rfl kz Tryz.func11 closed
  (of_decide_eq_true kz) (by unfold Func.isWrapper;first | (rw [if_pos (by decide +kernel)];kernel_rfl) | (rw [if_neg (by decide +kernel)];exact⟨rfl,rfl⟩))
  (fun os started H enc _ F=>by rw [OpenClaim.pre_eq_preRow];exact lifted os started H enc F)
theorem plain (f : FuncId) (a : Func) (c : Tryz.pinned.checked.prog.funcNamed "ablaut/ablautlaw15.MergersPhonemes" = some f) (d : Tryz.pinned.checked.prog.funcs[f]? = some a) :
  true=Tryz.pinned.checked.prog.looks []/\∀(j:Nat) t,a.params[j]?=some t->Tryz.pinned.checked.prog.wantsStandIn t=false:=by
 obtain rfl : f = 11 := Option.some.inj ((show Tryz.prog.funcNamed "ablaut/ablautlaw15.MergersPhonemes" = some 11 by kernel_rfl).symm.trans c) |>.symm;obtain rfl:a=Tryz.f11:=(Option.some.inj (Tryz.func11.symm.trans d)).symm;refine⟨by kernel_rfl,fun j t ht=>?_⟩;rw [Tryz.params11] at ht;have e:Tryz.prog.wantsStandIn 22=false:=by kernel_rfl
 have g:Tryz.prog.wantsStandIn 74=false:=by kernel_rfl
 have i:Tryz.prog.wantsStandIn 23=false:=by kernel_rfl
 have b:=Array.mem_of_getElem? ht;simp only [List.mem_toArray,List.mem_cons,List.not_mem_nil,or_false] at b;rcases b with rfl | rfl | rfl
 all_goals assumption
theorem card:Rows.MergersPhonemesCardSaid:=
 Claim7.holds_tied_plain_at .later [] _ _ _ _ said (fun _ h=>by cases h) kz (fun _ h=>by cases h) mergersPhonemes_row_tie rfl ⟨rfl,rfl⟩ kz rfl plain kz
end Go.Proofs.YtejenndedjabhaaGreatDoor.mergersPhonemes
