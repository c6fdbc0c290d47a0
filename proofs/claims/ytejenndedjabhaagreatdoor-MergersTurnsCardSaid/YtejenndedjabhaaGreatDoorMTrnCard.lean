/- ablautlaw15.MergersTurns: the card: whatever the arguments, MergersTurns returns true, and they read as before. Conditions: the table of math/bits reads as its initialiser lays it (the given tie pays it). -/
import Derived.Test.YtejenndedjabhaaGreatDoorU25
import Derived.Test.YtejenndedjabhaaGreatDoorCards
import Derived.Test.YtejenndedjabhaaGreatDoorTie
import Derived.Deep.DeepHandedRow
import Derived.Lib.LaidTab
set_option maxRecDepth 100000
namespace Go.Proofs.YtejenndedjabhaaGreatDoor.mergersTurns
open Go.ChangeShapes Go.WideShapes Go.ChangeAt Go.RowKit Go.Ab
theorem own:ownKnob Tryz.prog.godebug=none:=by kernel_rfl
theorem laidOut:laidOutB Tryz.prog=true:=by kernel_rfl
theorem gTab : Tryz.prog.globalNamed "math/bits.deBruijn64tab" = some 3 := by kernel_rfl
theorem gTabType:(Tryz.prog.globals[3]?).map (·.type)=some 275:=by kernel_rfl
theorem cellsT:Tryz.prog.cellsOf 275=64:=by kernel_rfl
theorem cellsE:Tryz.prog.cellsOf 5=1:=by kernel_rfl
theorem table {W : World} (h : laidMetH Tryz.prog Rows.mergersTurnsRow.laid W) : Lib.TabIs Tryz.prog W "math/bits.deBruijn64tab" .u8 (Lib.deBruijn64tab.map fun (x : Nat) => (x : Int)) :=
 Lib.tabIs_of_head (rest := [("unicode/utf8.acceptRanges", Rows.laid_unicode_utf8_acceptRanges), ("unicode/utf8.first", Rows.laid_unicode_utf8_first)]) gTab gTabType Tryz.underlying275 Tryz.underlying5 cellsE cellsT h
theorem tab{W:World}(h:laidMetH Tryz.prog Rows.mergersTurnsRow.laid W):Tab W:=fun j hj=>by
 have hl:Lib.deBruijn64tab.length=64:=by decide
 have:=(table h).cell gTab j (by rw [List.length_map,hl];exact hj);rw [this];have hj':j<Lib.deBruijn64tab.length:=by omega
 simp [List.getD_eq_getElem?_getD,hj']
theorem contract(H:Type)(enc:TypeId × Value->H)(W:World)(base:Nat)(args:Array Value)(c s:List (DataW H)) (r:List MemPlace)
   (b:∀(j:Nat) t v,Tryz.f14.params[j]?=some t->args[j]?=some v->Value.okWide Tryz.prog W .any base t v)
  (l:DataW.Whole enc Tryz.prog Tryz.f14.params.toList Rows.mergersTurnsSpec.vars false W args.toList c s r) (u:laidMetH Tryz.prog Rows.mergersTurnsRow.laid W) :
  Calls Tryz.prog 14 args W fun e W'=>∃ v,e=.returned v/\Rows.mergersTurnsSpec.post enc Tryz.prog Tryz.f14 false true false false W args v W':=by
 have m:=l;obtain⟨y,S,k,w,rfl,M,N⟩:=l;have i:DataW.TrodAll enc Tryz.prog W 0 (fun _=>true) true Tryz.f14.params.toList args.toList c y:=k;rw [Tryz.params14] at i b;obtain⟨o,V,G,J,z,T,L,rfl,rfl,d,B⟩:=trodAll_cons i;obtain⟨p,X,I,K,A,U,rfl,rfl,rfl,g,C⟩:=trodAll_cons B;obtain⟨rfl,rfl,rfl⟩:=trodAll_nil C;obtain rfl:args=#[o,p]:=by cases args;simp_all
 obtain⟨rfl,rfl⟩:=trodVars_none w;clear k;obtain⟨Q,rfl,_,_,q⟩:=open_int Tryz.underlying5 (b 0 5 o rfl rfl) d;obtain⟨O,P,R,rfl,D,E,F⟩:=Q33 (b 1 88 p rfl rfl) g;refine(Cl (bounds_u8 q).1 (by have:=(bounds_u8 q).2;omega) D E F (tab u)).mono fun e W' ⟨he,hg⟩=>?_
 subst he;have a:Below W.heap.size W W':=hg.below fun _ _ h=>h;have n:∀ x∈(z++(A++[]))++[],x.block<W.heap.size:=fun x hx=>m.lt x hx;exact⟨_,rfl,_,_,_,[],_,[],m,trodAll_cons_mk (shut_bool Tryz.underlying4 _) trodAll_mk0,trodAll_cons_mk (Below.trod laidOut kz (of_decide_eq_true kz) d a (fun x hx=>n x (by simp [hx]))) (trodAll_cons_mk (Below.trod laidOut kz (of_decide_eq_true kz) g a (fun x hx=>n x (by simp [hx]))) (trodAll_mk0)),rfl,a.frame _,fun h=>by cases h⟩
def acceptZ:List Nat:=[128,191,160,191,128,159,144,191,128,143,0,0,0,0,0,0,0,0,0,0,0,0,0,0,0,0,0,0,0,0,0,0]
noncomputable def laidWorld (os:Os):World:=
 { World.holding Tryz.prog os ⟨#[],#[],[]⟩ with heap:=(((World.holding Tryz.prog os ⟨#[],#[],[]⟩).heap.modify 1 (fun | .cells _ t frozen=>.cells (acceptZ.map fun(x:Nat)=>Value.int .u8 x).toArray t frozen | o=>o)).modify 0 (fun | .cells _ t frozen=>.cells (Go.Pinned.utf8FirstZ.map fun(x:Nat)=>Value.int .u8 x).toArray t frozen | o=>o)).modify 3 (fun | .cells _ t frozen=>.cells (Lib.deBruijn64tab.map fun(x:Nat)=>Value.int .u8 x).toArray t frozen | o=>o) }
theorem laid_met(os:Os):laidMet Tryz.prog Rows.mergersTurnsRow.laid ((laidWorld os).forCall (fun _ _=>0) ⟨#[],#[.int .u8 0,.slice none 0 0],[]⟩).memory:=
 laidMet_of_run' 8 kz kz
theorem reads(os:Os){H:Type}(enc:TypeId × Value->H):∃ places,DataW.whole enc Tryz.prog ((laidWorld os).forCall (fun _ _=>0) ⟨#[],#[.int .u8 0,.slice none 0 0],[]⟩).memory Tryz.f14.params.toList Rows.mergersTurnsSpec.vars false (#[.int .u8 0,.slice none 0 0]:Array Value).toList 8=some ([.lit (.int .u8 0),.nil],[],places):=
 ⟨[],by kernel_rfl⟩
theorem lifted(os:Os)(n:os.Started)(H:Type)(enc:TypeId × Value->H)(F:Stop.Interp) :
  ReturnsInHanded {} Tryz.checked os 14 .any ((OpenSpec.ofChange Rows.mergersTurnsSpec).preRow enc Tryz.prog Tryz.f14 Rows.mergersTurnsRow.domain false Rows.mergersTurnsRow.laid) (((OpenSpec.ofChange Rows.mergersTurnsSpec).at F).post enc Tryz.prog Tryz.f14 false true false false):=by
 obtain⟨o,m⟩:=reads os enc
 refine returnsInHanded_of_row (C:=Tryz.checked) (s:=OpenSpec.ofChange Rows.mergersTurnsSpec) own n kz Tryz.func14
  (witness_row_at (enc:=enc) (C:=Tryz.checked) false (laidWorld os) #[.int .u8 0,.slice none 0 0] rfl kz kz kz
   (OpenSpec.preRow_of_cond 8 m kz (fun k hk=>by cases hk) kz (laid_met os))) ?_
 intro a c b e g d l j _ _ _ i _ _;exact contract H enc a c b e g d l j i
theorem cell1:Rows.mergersTurnsRow.inPlace=Tryz.prog.inPlace 14:=by kernel_rfl
theorem cell2:Rows.mergersTurnsRow.unfollowed=Tryz.prog.unfollowed 14:=by kernel_rfl
theorem cell3:Rows.mergersTurnsRow.recurses=Tryz.prog.recurses 14:=by kernel_rfl
theorem cell4:Rows.mergersTurnsRow.named=Tryz.prog.varsNamed 14:=by kernel_rfl
theorem closed:joinedFacts Tryz.prog 14 Tryz.f14 (OpenSpec.ofChange Rows.mergersTurnsSpec).bare Rows.mergersTurnsRow=true:=by
 unfold joinedFacts;rw [<-cell1,<-cell2,<-cell3,<-cell4]
 kernel_rfl
theorem said:Rows.MergersTurnsSaid:=
 OpenClaim.holds_of_cond 14 Tryz.f14 rfl rfl rfl rfl rfl rfl rfl ⟨rfl,rfl,rfl,rfl,rfl⟩ rfl rfl rfl rfl rfl kz Tryz.func14 closed
  (of_decide_eq_true kz) (by unfold Func.isWrapper;first | (rw [if_pos (by decide +kernel)];kernel_rfl) | (rw [if_neg (by decide +kernel)];exact⟨rfl,rfl⟩))
  (fun os started H enc _ F=>by rw [OpenClaim.pre_eq_preRow];exact lifted os started H enc F)
theorem plain (f : FuncId) (a : Func) (c : Tryz.pinned.checked.prog.funcNamed "ablaut/ablautlaw15.MergersTurns" = some f) (d : Tryz.pinned.checked.prog.funcs[f]? = some a) :
  true=Tryz.pinned.checked.prog.looks []/\∀(j:Nat) t,a.params[j]?=some t->Tryz.pinned.checked.prog.wantsStandIn t=false:=by
 obtain rfl : f = 14 := Option.some.inj ((show Tryz.prog.funcNamed "ablaut/ablautlaw15.MergersTurns" = some 14 by kernel_rfl).symm.trans c) |>.symm;obtain rfl:a=Tryz.f14:=(Option.some.inj (Tryz.func14.symm.trans d)).symm;refine⟨by kernel_rfl,fun j t ht=>?_⟩;rw [Tryz.params14] at ht;have e:Tryz.prog.wantsStandIn 5=false:=by kernel_rfl
 have g:Tryz.prog.wantsStandIn 88=false:=by kernel_rfl
 have b:=Array.mem_of_getElem? ht;simp only [List.mem_toArray,List.mem_cons,List.not_mem_nil,or_false] at b;rcases b with rfl | rfl
 all_goals assumption
theorem card:Rows.MergersTurnsCardSaid:=
 Claim7.holds_tied_plain_at .later [] _ _ _ _ said (fun _ h=>by cases h) kz (fun _ h=>by cases h) mergersTurns_row_tie rfl ⟨rfl,rfl⟩ kz rfl plain kz
end Go.Proofs.YtejenndedjabhaaGreatDoor.mergersTurns
