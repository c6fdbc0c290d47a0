/- ablautlaw15.MergersNothing: the card: whatever the arguments, MergersNothing returns true, and they read as before. Conditions: the table of math/bits reads as its initialiser lays it (the given tie pays it). -/
import Derived.Test.YtejenndedjabhaaGreatDoorT26
import Derived.Test.YtejenndedjabhaaGreatDoorT25
import Derived.Test.YtejenndedjabhaaGreatDoorCards
import Derived.Test.YtejenndedjabhaaGreatDoorTie
import Derived.Deep.DeepHandedRow
import Derived.Lib.LaidTab
set_option maxRecDepth 100000
namespace Go.Proofs.YtejenndedjabhaaGreatDoor.mergersNothing
open Go.ChangeShapes Go.WideShapes Go.ChangeAt Go.RowKit Go.Ab
theorem own:ownKnob Tryz.prog.godebug=none:=by kernel_rfl
theorem laidOut:laidOutB Tryz.prog=true:=by kernel_rfl
theorem gTab : Tryz.prog.globalNamed "math/bits.deBruijn64tab" = some 3 := by kernel_rfl
theorem gTabType:(Tryz.prog.globals[3]?).map (·.type)=some 275:=by kernel_rfl
theorem cellsT:Tryz.prog.cellsOf 275=64:=by kernel_rfl
theorem cellsE:Tryz.prog.cellsOf 5=1:=by kernel_rfl
theorem table {W : World} (h : laidMetH Tryz.prog Rows.mergersNothingRow.laid W) : Lib.TabIs Tryz.prog W "math/bits.deBruijn64tab" .u8 (Lib.deBruijn64tab.map fun (x : Nat) => (x : Int)) :=
 Lib.tabIs_of_head (rest := [("unicode/utf8.acceptRanges", Rows.laid_unicode_utf8_acceptRanges), ("unicode/utf8.first", Rows.laid_unicode_utf8_first)]) gTab gTabType Tryz.underlying275 Tryz.underlying5 cellsE cellsT h
theorem tab{W:World}(h:laidMetH Tryz.prog Rows.mergersNothingRow.laid W):Tab W:=fun j hj=>by
 have hl:Lib.deBruijn64tab.length=64:=by decide
 have:=(table h).cell gTab j (by rw [List.length_map,hl];exact hj);rw [this];have hj':j<Lib.deBruijn64tab.length:=by omega
 simp [List.getD_eq_getElem?_getD,hj']
theorem contract(H:Type)(enc:TypeId × Value->H)(W:World)(base:Nat)(args:Array Value)(d A:List (DataW H)) (z:List MemPlace)
   (b:∀(j:Nat) t v,Tryz.f12.params[j]?=some t->args[j]?=some v->Value.okWide Tryz.prog W .any base t v)
  (o:DataW.Whole enc Tryz.prog Tryz.f12.params.toList Rows.mergersNothingSpec.vars false W args.toList d A z) (B:laidMetH Tryz.prog Rows.mergersNothingRow.laid W) :
  Calls Tryz.prog 12 args W fun e W'=>∃ v,e=.returned v/\Rows.mergersNothingSpec.post enc Tryz.prog Tryz.f12 false true false false W args v W':=by
 have p:=o;obtain⟨D,b3,n,C,rfl,a3,a4⟩:=o;have m:DataW.TrodAll enc Tryz.prog W 0 (fun _=>true) true Tryz.f12.params.toList args.toList d D:=n;rw [Tryz.params12] at m b;obtain⟨q,b8,T,Y,E,b4,a2,rfl,rfl,g,J⟩:=trodAll_cons m;obtain⟨r,b9,U,Z,F,b5,rfl,rfl,rfl,i,K⟩:=trodAll_cons J;obtain⟨s,c0,V,a0,G,b6,rfl,rfl,rfl,k,L⟩:=trodAll_cons K;obtain⟨u,c1,X,a1,I,b7,rfl,rfl,rfl,l,M⟩:=trodAll_cons L;obtain⟨rfl,rfl,rfl⟩:=trodAll_nil M;obtain rfl:args=#[q,r,s,u]:=by cases args;simp_all
 obtain⟨rfl,rfl⟩:=trodVars_none C;clear n;obtain⟨a9,rfl,_,_,w⟩:=open_int Tryz.underlying5 (b 0 5 q rfl rfl) g;obtain⟨b0,rfl,_,_,y⟩:=open_int Tryz.underlying5 (b 1 5 r rfl rfl) i;obtain⟨a5,a7,b1,rfl,N,P,R⟩:=Pm (b 2 40 s rfl rfl) k;obtain⟨a6,a8,b2,rfl,O,Q,S⟩:=Pm (b 3 40 u rfl rfl) l;refine(Q5i (bounds_u8 w).1 (by have:=(bounds_u8 w).2;omega) (bounds_u8 y).1 (by have:=(bounds_u8 y).2;omega) N rfl R P O rfl S Q (tab B)).mono fun e W' ⟨he,hg⟩=>?_
 subst he;have a:Below W.heap.size W W':=hg.below fun _ _ h=>h;have c:∀ x∈(E++(F++(G++(I++[]))))++[],x.block<W.heap.size:=fun x hx=>p.lt x hx;exact⟨_,rfl,_,_,_,[],_,[],p,trodAll_cons_mk (shut_bool Tryz.underlying4 _) trodAll_mk0,trodAll_cons_mk (Below.trod laidOut kz (of_decide_eq_true kz) g a (fun x hx=>c x (by simp [hx]))) (trodAll_cons_mk (Below.trod laidOut kz (of_decide_eq_true kz) i a (fun x hx=>c x (by simp [hx]))) (trodAll_cons_mk (Below.trod laidOut kz (of_decide_eq_true kz) k a (fun x hx=>c x (by simp [hx]))) (trodAll_cons_mk (Below.trod laidOut kz (of_decide_eq_true kz) l a (fun x hx=>c x (by simp [hx]))) (trodAll_mk0)))),rfl,a.frame _,fun h=>by cases h⟩
def acceptZ:List Nat:=[128,191,160,191,128,159,144,191,128,143,0,0,0,0,0,0,0,0,0,0,0,0,0,0,0,0,0,0,0,0,0,0]
noncomputable def laidWorld (os:Os):World:=
 { World.holding Tryz.prog os ⟨#[],#[],[]⟩ with heap:=(((World.holding Tryz.prog os ⟨#[],#[],[]⟩).heap.modify 1 (fun | .cells _ t frozen=>.cells (acceptZ.map fun(x:Nat)=>Value.int .u8 x).toArray t frozen | o=>o)).modify 0 (fun | .cells _ t frozen=>.cells (Go.Pinned.utf8FirstZ.map fun(x:Nat)=>Value.int .u8 x).toArray t frozen | o=>o)).modify 3 (fun | .cells _ t frozen=>.cells (Lib.deBruijn64tab.map fun(x:Nat)=>Value.int .u8 x).toArray t frozen | o=>o) }
theorem laid_met(os:Os):laidMet Tryz.prog Rows.mergersNothingRow.laid ((laidWorld os).forCall (fun _ _=>0) ⟨#[],#[.int .u8 0,.int .u8 0,.slice none 0 0,.slice none 0 0],[]⟩).memory:=
 laidMet_of_run' 8 kz kz
theorem reads(os:Os){H:Type}(enc:TypeId × Value->H):∃ places,DataW.whole enc Tryz.prog ((laidWorld os).forCall (fun _ _=>0) ⟨#[],#[.int .u8 0,.int .u8 0,.slice none 0 0,.slice none 0 0],[]⟩).memory Tryz.f12.params.toList Rows.mergersNothingSpec.vars false (#[.int .u8 0,.int .u8 0,.slice none 0 0,.slice none 0 0]:Array Value).toList 8=some ([.lit (.int .u8 0),.lit (.int .u8 0),.nil,.nil],[],places):=
 ⟨[],by kernel_rfl⟩
theorem lifted(os:Os)(n:os.Started)(H:Type)(enc:TypeId × Value->H)(F:Stop.Interp) :
  ReturnsInHanded {} Tryz.checked os 12 .any ((OpenSpec.ofChange Rows.mergersNothingSpec).preRow enc Tryz.prog Tryz.f12 Rows.mergersNothingRow.domain false Rows.mergersNothingRow.laid) (((OpenSpec.ofChange Rows.mergersNothingSpec).at F).post enc Tryz.prog Tryz.f12 false true false false):=by
 obtain⟨o,m⟩:=reads os enc
 refine returnsInHanded_of_row (C:=Tryz.checked) (s:=OpenSpec.ofChange Rows.mergersNothingSpec) own n kz Tryz.func12
  (witness_row_at (enc:=enc) (C:=Tryz.checked) false (laidWorld os) #[.int .u8 0,.int .u8 0,.slice none 0 0,.slice none 0 0] rfl kz kz kz
   (OpenSpec.preRow_of_cond 8 m kz (fun k hk=>by cases hk) kz (laid_met os))) ?_
 intro a c b e g d l j _ _ _ i _ _;exact contract H enc a c b e g d l j i
theorem cell1:Rows.mergersNothingRow.inPlace=Tryz.prog.inPlace 12:=by kernel_rfl
theorem cell2:Rows.mergersNothingRow.unfollowed=Tryz.prog.unfollowed 12:=by kernel_rfl
theorem cell3:Rows.mergersNothingRow.recurses=Tryz.prog.recurses 12:=by kernel_rfl
theorem cell4:Rows.mergersNothingRow.named=Tryz.prog.varsNamed 12:=by kernel_rfl
theorem closed:joinedFacts Tryz.prog 12 Tryz.f12 (OpenSpec.ofChange Rows.mergersNothingSpec).bare Rows.mergersNothingRow=true:=by
 unfold joinedFacts;rw [<-cell1,<-cell2,<-cell3,<-cell4]
 kernel_rfl
theorem said:Rows.MergersNothingSaid:=
 OpenClaim.holds_of_cond 12 Tryz.f12 rfl rfl rfl rfl rfl rfl rfl ⟨rfl,rfl,rfl,rfl,rfl⟩ rfl rfl rfl rfl rfl kz Tryz.func12 closed
  (of_decide_eq_true kz) (by unfold Func.isWrapper;first | (rw [if_pos (by decide +kernel)];kernel_rfl) | (rw [if_neg (by decide +kernel)];exact⟨rfl,rfl⟩))
  (fun os started H enc _ F=>by rw [OpenClaim.pre_eq_preRow];exact lifted os started H enc F)
theorem plain (f : FuncId) (a : Func) (c : Tryz.pinned.checked.prog.funcNamed "ablaut/ablautlaw15.MergersNothing" = some f) (d : Tryz.pinned.checked.prog.funcs[f]? = some a) :
  true=Tryz.pinned.checked.prog.looks []/\∀(j:Nat) t,a.params[j]?=some t->Tryz.pinned.checked.prog.wantsStandIn t=false:=by
 obtain rfl : f = 12 := Option.some.inj ((show Tryz.prog.funcNamed "ablaut/ablautlaw15.MergersNothing" = some 12 by kernel_rfl).symm.trans c) |>.symm;obtain rfl:a=Tryz.f12:=(Option.some.inj (Tryz.func12.symm.trans d)).symm;refine⟨by kernel_rfl,fun j t ht=>?_⟩;rw [Tryz.params12] at ht;have e:Tryz.prog.wantsStandIn 5=false:=by kernel_rfl
 have g:Tryz.prog.wantsStandIn 5=false:=by kernel_rfl
 have i:Tryz.prog.wantsStandIn 40=false:=by kernel_rfl
 have k:Tryz.prog.wantsStandIn 40=false:=by kernel_rfl
 have b:=Array.mem_of_getElem? ht;simp only [List.mem_toArray,List.mem_cons,List.not_mem_nil,or_false] at b;rcases b with rfl | rfl | rfl | rfl
 all_goals assumption
theorem card:Rows.MergersNothingCardSaid:=
 Claim7.holds_tied_plain_at .later [] _ _ _ _ said (fun _ h=>by cases h) kz (fun _ h=>by cases h) mergersNothing_row_tie rfl ⟨rfl,rfl⟩ kz rfl plain kz
end Go.Proofs.YtejenndedjabhaaGreatDoor.mergersNothing
