/- ablautlaw15.MergersMore: the card: whatever the arguments, MergersMore returns true, and they read as before. Conditions: the table of math/bits reads as its initialiser lays it (the given tie pays it). -/
import Derived.Test.YtejenndedjabhaaGreatDoorS27
import Derived.Test.YtejenndedjabhaaGreatDoorS31
import Derived.Test.YtejenndedjabhaaGreatDoorCards
import Derived.Test.YtejenndedjabhaaGreatDoorTie
import Derived.Deep.DeepHandedRow
import Derived.Lib.LaidTab
set_option maxRecDepth 100000
namespace Go.Proofs.YtejenndedjabhaaGreatDoor.mergersMore
open Go.ChangeShapes Go.WideShapes Go.ChangeAt Go.RowKit Go.Ab
theorem own:ownKnob Tryz.prog.godebug=none:=by kernel_rfl
theorem laidOut:laidOutB Tryz.prog=true:=by kernel_rfl
theorem gTab : Tryz.prog.globalNamed "math/bits.deBruijn64tab" = some 3 := by kernel_rfl
theorem gTabType:(Tryz.prog.globals[3]?).map (·.type)=some 275:=by kernel_rfl
theorem cellsT:Tryz.prog.cellsOf 275=64:=by kernel_rfl
theorem cellsE:Tryz.prog.cellsOf 5=1:=by kernel_rfl
theorem table {W : World} (h : laidMetH Tryz.prog Rows.mergersMoreRow.laid W) : Lib.TabIs Tryz.prog W "math/bits.deBruijn64tab" .u8 (Lib.deBruijn64tab.map fun (x : Nat) => (x : Int)) :=
 Lib.tabIs_of_head (rest := [("unicode/utf8.acceptRanges", Rows.laid_unicode_utf8_acceptRanges), ("unicode/utf8.first", Rows.laid_unicode_utf8_first)]) gTab gTabType Tryz.underlying275 Tryz.underlying5 cellsE cellsT h
theorem tab{W:World}(h:laidMetH Tryz.prog Rows.mergersMoreRow.laid W):Tab W:=fun j hj=>by
 have hl:Lib.deBruijn64tab.length=64:=by decide
 have:=(table h).cell gTab j (by rw [List.length_map,hl];exact hj);rw [this];have hj':j<Lib.deBruijn64tab.length:=by omega
 simp [List.getD_eq_getElem?_getD,hj']
theorem contract(H:Type)(enc:TypeId × Value->H)(W:World)(base:Nat)(args:Array Value)(d y:List (DataW H)) (w:List MemPlace)
   (b:∀(j:Nat) t v,Tryz.f5.params[j]?=some t->args[j]?=some v->Value.okWide Tryz.prog W .any base t v)
  (o:DataW.Whole enc Tryz.prog Tryz.f5.params.toList Rows.mergersMoreSpec.vars false W args.toList d y w) (z:laidMetH Tryz.prog Rows.mergersMoreRow.laid W) :
  Calls Tryz.prog 5 args W fun e W'=>∃ v,e=.returned v/\Rows.mergersMoreSpec.post enc Tryz.prog Tryz.f5 false true false false W args v W':=by
 have p:=o;obtain⟨B,b9,n,A,rfl,a5,a6⟩:=o;have m:DataW.TrodAll enc Tryz.prog W 0 (fun _=>true) true Tryz.f5.params.toList args.toList d B:=n;rw [Tryz.params5] at m b;obtain⟨q,c4,V,a0,C,c0,a4,rfl,rfl,g,G⟩:=trodAll_cons m;obtain⟨r,c5,X,a1,D,c1,rfl,rfl,rfl,i,I⟩:=trodAll_cons G;obtain⟨s,c6,Y,a2,E,c2,rfl,rfl,rfl,k,J⟩:=trodAll_cons I;obtain⟨u,c7,Z,a3,F,c3,rfl,rfl,rfl,l,K⟩:=trodAll_cons J;obtain⟨rfl,rfl,rfl⟩:=trodAll_nil K;obtain rfl:args=#[q,r,s,u]:=by cases args;simp_all
 obtain⟨rfl,rfl⟩:=trodVars_none A;clear n;obtain⟨a7,b1,b5,rfl,L,P⟩:=P3 (b 0 22 q rfl rfl) g;obtain⟨a8,b2,b6,rfl,M,Q⟩:=P3 (b 1 22 r rfl rfl) i;obtain⟨a9,b3,b7,rfl,N,R,T⟩:=Q1y (b 2 40 s rfl rfl) k;obtain⟨b0,b4,b8,rfl,O,S,U⟩:=Q1y (b 3 40 u rfl rfl) l;refine(Q9a L rfl P M rfl Q N rfl T R O rfl U S (tab z)).mono fun e W' ⟨he,hg⟩=>?_
 subst he;have a:Below W.heap.size W W':=hg.below fun _ _ h=>h;have c:∀ x∈(C++(D++(E++(F++[]))))++[],x.block<W.heap.size:=fun x hx=>p.lt x hx;exact⟨_,rfl,_,_,_,[],_,[],p,trodAll_cons_mk (shut_bool Tryz.underlying4 _) trodAll_mk0,trodAll_cons_mk (Below.trod laidOut kz (of_decide_eq_true kz) g a (fun x hx=>c x (by simp [hx]))) (trodAll_cons_mk (Below.trod laidOut kz (of_decide_eq_true kz) i a (fun x hx=>c x (by simp [hx]))) (trodAll_cons_mk (Below.trod laidOut kz (of_decide_eq_true kz) k a (fun x hx=>c x (by simp [hx]))) (trodAll_cons_mk (Below.trod laidOut kz (of_decide_eq_true kz) l a (fun x hx=>c x (by simp [hx]))) (trodAll_mk0)))),rfl,a.frame _,fun h=>by cases h⟩
def acceptZ:List Nat:=[128,191,160,191,128,159,144,191,128,143,0,0,0,0,0,0,0,0,0,0,0,0,0,0,0,0,0,0,0,0,0,0]
noncomputable def laidWorld (os:Os):World:=
 { World.holding Tryz.prog os ⟨#[],#[],[]⟩ with heap:=(((World.holding Tryz.prog os ⟨#[],#[],[]⟩).heap.modify 1 (fun | .cells _ t frozen=>.cells (acceptZ.map fun(x:Nat)=>Value.int .u8 x).toArray t frozen | o=>o)).modify 0 (fun | .cells _ t frozen=>.cells (Go.Pinned.utf8FirstZ.map fun(x:Nat)=>Value.int .u8 x).toArray t frozen | o=>o)).modify 3 (fun | .cells _ t frozen=>.cells (Lib.deBruijn64tab.map fun(x:Nat)=>Value.int .u8 x).toArray t frozen | o=>o) }
theorem laid_met(os:Os):laidMet Tryz.prog Rows.mergersMoreRow.laid ((laidWorld os).forCall (fun _ _=>0) ⟨#[],#[.slice none 0 0,.slice none 0 0,.slice none 0 0,.slice none 0 0],[]⟩).memory:=
 laidMet_of_run' 8 kz kz
theorem reads(os:Os){H:Type}(enc:TypeId × Value->H):∃ places,DataW.whole enc Tryz.prog ((laidWorld os).forCall (fun _ _=>0) ⟨#[],#[.slice none 0 0,.slice none 0 0,.slice none 0 0,.slice none 0 0],[]⟩).memory Tryz.f5.params.toList Rows.mergersMoreSpec.vars false (#[.slice none 0 0,.slice none 0 0,.slice none 0 0,.slice none 0 0]:Array Value).toList 8=some ([.nil,.nil,.nil,.nil],[],places):=
 ⟨[],by kernel_rfl⟩
theorem lifted(os:Os)(n:os.Started)(H:Type)(enc:TypeId × Value->H)(F:Stop.Interp) :
  ReturnsInHanded {} Tryz.checked os 5 .any ((OpenSpec.ofChange Rows.mergersMoreSpec).preRow enc Tryz.prog Tryz.f5 Rows.mergersMoreRow.domain false Rows.mergersMoreRow.laid) (((OpenSpec.ofChange Rows.mergersMoreSpec).at F).post enc Tryz.prog Tryz.f5 false true false false):=by
 obtain⟨o,m⟩:=reads os enc
 refine returnsInHanded_of_row (C:=Tryz.checked) (s:=OpenSpec.ofChange Rows.mergersMoreSpec) own n kz Tryz.func5
  (witness_row_at (enc:=enc) (C:=Tryz.checked) false (laidWorld os) #[.slice none 0 0,.slice none 0 0,.slice none 0 0,.slice none 0 0] rfl kz kz kz
   (OpenSpec.preRow_of_cond 8 m kz (fun k hk=>by cases hk) kz (laid_met os))) ?_
 intro a c b e g d l j _ _ _ i _ _;exact contract H enc a c b e g d l j i
theorem cell1:Rows.mergersMoreRow.inPlace=Tryz.prog.inPlace 5:=by kernel_rfl
theorem cell2:Rows.mergersMoreRow.unfollowed=Tryz.prog.unfollowed 5:=by kernel_rfl
theorem cell3:Rows.mergersMoreRow.recurses=Tryz.prog.recurses 5:=by kernel_rfl
theorem cell4:Rows.mergersMoreRow.named=Tryz.prog.varsNamed 5:=by kernel_rfl
theorem closed:joinedFacts Tryz.prog 5 Tryz.f5 (OpenSpec.ofChange Rows.mergersMoreSpec).bare Rows.mergersMoreRow=true:=by
 unfold joinedFacts;rw [<-cell1,<-cell2,<-cell3,<-cell4]
 kernel_rfl
theorem said:Rows.MergersMoreSaid:=
 OpenClaim.holds_of_cond 5 Tryz.f5 rfl rfl rfl rfl rfl rfl rfl ⟨rfl,rfl,rfl,rfl,rfl⟩ rfl rfl rfl rfl rfl kz Tryz.func5 closed
  (of_decide_eq_true kz) (by unfold Func.isWrapper;first | (rw [if_pos (by decide +kernel)];kernel_rfl) | (rw [if_neg (by decide +kernel)];exact⟨rfl,rfl⟩))
  (fun os started H enc _ F=>by rw [OpenClaim.pre_eq_preRow];exact lifted os started H enc F)
theorem plain (f : FuncId) (a : Func) (c : Tryz.pinned.checked.prog.funcNamed "ablaut/ablautlaw15.MergersMore" = some f) (d : Tryz.pinned.checked.prog.funcs[f]? = some a) :
  true=Tryz.pinned.checked.prog.looks []/\∀(j:Nat) t,a.params[j]?=some t->Tryz.pinned.checked.prog.wantsStandIn t=false:=by
 obtain rfl : f = 5 := Option.some.inj ((show Tryz.prog.funcNamed "ablaut/ablautlaw15.MergersMore" = some 5 by kernel_rfl).symm.trans c) |>.symm;obtain rfl:a=Tryz.f5:=(Option.some.inj (Tryz.func5.symm.trans d)).symm;refine⟨by kernel_rfl,fun j t ht=>?_⟩;rw [Tryz.params5] at ht;have e:Tryz.prog.wantsStandIn 22=false:=by kernel_rfl
 have g:Tryz.prog.wantsStandIn 22=false:=by kernel_rfl
 have i:Tryz.prog.wantsStandIn 40=false:=by kernel_rfl
 have k:Tryz.prog.wantsStandIn 40=false:=by kernel_rfl
 have b:=Array.mem_of_getElem? ht;simp only [List.mem_toArray,List.mem_cons,List.not_mem_nil,or_false] at b;rcases b with rfl | rfl | rfl | rfl
 all_goals assumption
theorem card:Rows.MergersMoreCardSaid:=
 Claim7.holds_tied_plain_at .later [] _ _ _ _ said (fun _ h=>by cases h) kz (fun _ h=>by cases h) mergersMore_row_tie rfl ⟨rfl,rfl⟩ kz rfl plain kz
end Go.Proofs.YtejenndedjabhaaGreatDoor.mergersMore
