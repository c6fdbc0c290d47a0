/- derive.attempt. derive.check over one word; derive.Derive. ablautlaw14.by. PLAIN: pairs that one order explains and another one does not, one after the other. -/
import Derived.Test.YtfdlhlghcbeblaaGreatDoorH51
import Derived.Test.YtfdlhlghcbeblaaGreatDoorH12
import Derived.Test.YtfdlhlghcbeblaaGreatDoorH45
import Derived.Test.YtfdlhlghcbeblaaGreatDoorH40
import Derived.Test.YtfdlhlghcbeblaaGreatDoorH46
import Derived.Test.YtfdlhlghcbeblaaGreatDoorH43
import Derived.Test.YtfdlhlghcbeblaaGreatDoorH47
import Derived.Test.YtfdlhlghcbeblaaGreatDoorH49
import Derived.Test.YtfdlhlghcbeblaaGreatDoorH50
import Derived.Test.YtfdlhlghcbeblaaGreatDoorH14
import Derived.Test.YtfdlhlghcbeblaaGreatDoorH02
import Derived.Test.YtfdlhlghcbeblaaGreatDoorH09
import Derived.OpenShut
import Derived.Deep.Slices
import Derived.ProofKit
import Derived.Test.YtfdlhlghcbeblaaGreatDoorProg
import Derived.ChangeSame
import Derived.Deep.Fields
import Derived.Test.YtfdlhlghcbeblaaGreatDoorH34
import Derived.Test.YtfdlhlghcbeblaaGreatDoorH32
set_option maxRecDepth 100000
set_option maxHeartbeats 16000000
namespace Go.Proofs.YtfdlhlghcbeblaaGreatDoor
open Go.RowKit Go.Ab
attribute [local go_sem] Oper.semAt_some wide_fn wide_depth
theorem results_att{fn:Func}{p q:Tmp}{ty:TypeId}(h:fn.results=#[.cell p ty,.tmp q]){tmps:Array Value}{w:World}{g:Nat}{ao:Option Addr}{n c:Nat}{t:TypeId}{x:Value}(hp:tmps.getD p undef=.pointer (some ⟨g,0,none⟩)) (hq:tmps.getD q undef=x) (hu:(Tryz.prog.underlying ty).map (fun d=>match d with | .slice _=>true | _=>false)=some true) (hg:w.heap[g]?=some (.cells #[.slice ao n c] t (0,0))) :
  (results fn tmps).run Tryz.prog w=.ok (.tuple #[.slice ao n c,x]) w:=by
 have hc:=cell_of_one hg
 have hp':tmps[p]?.getD undef=.pointer (some ⟨g,0,none⟩):=by simpa using hp
 have hq':tmps[q]?.getD undef=x:=by simpa using hq
 cases hd:Tryz.prog.underlying ty with
 | none=>simp [hd] at hu
 | some d=>
  cases d with
  | slice e=>simp [results,h,hp',hq',asAddr,loadVar,isAgg,run_underlying hd,go_sem,hc]
  | _=>simp [hd] at hu
theorem attempt_any{w:World}{ps:LawsL}{lo:Option Addr}{n lc:Nat}{vo:Option Addr}{vn vc:Nat}{ws:Wd}(hlaws:LawsAt w (.slice lo n lc) ps) (hn:ps.length=n) (hok:∀ p∈ps,lawB p.1=true) (hw:WordAt w (.slice vo vn vc) ws) (hvn:ws.length=vn) (hwE:wE ws=0) (hT:Tab w) :
  Calls Tryz.prog 110 #[.slice lo n lc,.slice vo vn vc] w fun e w'=>∃ ao an c,e=.returned (.tuple #[.slice ao an c,.bool (derO (ps.map (·.1)) ws).isSome])∧(∀ u,derO (ps.map (·.1)) ws=some u→OneW w' (.slice ao an c) u)∧Ext w w':=by
 have hou:=fun(V:World) (hE:Ext w V)=>outcome_any (hlaws.ext hE) hn hok (hw.ext hE) hvn hwE (hT.keep hE id)
 have HOU:=Lib.hid hou
 clear hou hlaws hn hok hw hvn hwE hT
 obtain⟨DO,hDO⟩:∃ x,derO (ps.map (·.1)) ws=x:=⟨_,rfl⟩
 rw [hDO] at HOU ⊢
 clear hDO
 have hmf:∀(fn:Fn) (first cap:Array Value) (w:World),(Instr.makeFunc fn first cap).run Tryz.prog w=.ok (.func fn first cap) w:=fun _ _ _ _=>rfl
 go_enter Tryz.func110,Tryz.ntmps110
 go_upto_region 2 with (fail)
 obtain⟨w4,hw4⟩:∃ V,(((w.alloc (.cells #[.slice lo n lc] 26)).alloc (.cells #[.slice vo vn vc] 99)).alloc (.cells #[.slice none 0 0] 99)).alloc (.cells #[.int .i64 0] 40)=V:=⟨_,rfl⟩
 have hE4:Ext w w4:=by rw [← hw4];exact((((Turn.refl _ w).alloc _).alloc _).alloc _).alloc _
 have h0:w4.heap[w.heap.size]?=some (.cells #[.slice lo n lc] 26 (0,0)):=by rw [← hw4];exact new_keep (new_keep (new_keep (new_at rfl)))
 have h1:w4.heap[w.heap.size+1]?=some (.cells #[.slice vo vn vc] 99 (0,0)):=by rw [← hw4];exact new_keep (new_keep (new_at (by simp)))
 have h2:w4.heap[w.heap.size+1+1]?=some (.cells #[.slice none 0 0] 99 (0,0)):=by rw [← hw4];exact new_keep (new_at (by simp))
 have h3:w4.heap[w.heap.size+1+1+1]?=some (.cells #[.int .i64 0] 40 (0,0)):=by rw [← hw4];exact new_at (by simp)
 rw [hw4]
 obtain⟨B,hB⟩:∃ b,w.heap.size=b:=⟨_,rfl⟩
 rw [hB] at h0 h1 h2 h3 ⊢
 have HB:=Lib.hid hB
 have H0:=Lib.hid h0;have H1:=Lib.hid h1;have H2:=Lib.hid h2;have H3:=Lib.hid h3;have HE4:=Lib.hid hE4
 clear hw4 hB h0 h1 h2 h3 hE4
 go_wp2_with fail
 refine(attf_any H3.out H0.out H1.out H2.out (by omega) (HOU.out w4 HE4.out)).mono ?_
 rintro e w5 ⟨rfl,hT5,so,sn,sc,hO5,hcase⟩
 have hE5:Ext w w5:=Turn.after HE4.out hT5 (fun b hb h=>by have:=HB.out;rcases h with h | h <;> omega)
 have HE5:=Lib.hid hE5;have HO5:=Lib.hid hO5;have HCA:=Lib.hid hcase
 clear hT5 hE5 hO5 hcase HOU H0 H1 H2 H3 HE4
 rcases HCA.out with ⟨u,hdo,hone,he⟩ | ⟨hdo,he⟩
 ·subst hdo
  have HONE:=Lib.hid hone
  clear hone HCA
  have HEE:=Lib.hid he
  go_upto_region 3 with (fail)
  obtain⟨V0,hV⟩:∃ D,w5.drew=D:=⟨_,rfl⟩
  have e0:Ext w5 V0:=by rw [← hV];exact(Turn.refl _ w5).drew
  have hS0:V0.heap[B+1+1]?=some (.cells #[.slice so sn sc] 99 (0,0))∧V0.heap[B+1+1+1]?=some (.cells #[.int .i64 0] 40 (0,0)):=⟨e0.keep HO5.out,e0.keep HEE.out⟩
  refine wp_region_late (S:=fun D=>D.heap[B+1+1]?=some (.cells #[.slice so sn sc] 99 (0,0))∧D.heap[B+1+1+1]?=some (.cells #[.int .i64 0] 40 (0,0))) [] (by kernel_rfl) (by rw [hV];exact hS0) ?_
  intro _
  rw [hV]
  clear hV
  refine tkE (i:=0) (d:=9) (v:=?_) rfl (Or.inl ⟨by rfl,?_⟩) hS0 ?_
  rotate_left
  ·intro w hSw;(try dsimp only at hSw);have c1:=cell_of_one hSw.1;have c2:=cell_of_one hSw.2;go_simp;try with_reducible rfl
  try simp only [Act.put,pq]
  refine tkE (i:=1) (d:=10) (v:=?_) rfl (Or.inl ⟨by rfl,?_⟩) hS0 ?_
  rotate_left
  ·intro w hSw;(try dsimp only at hSw);have c1:=cell_of_one hSw.1;have c2:=cell_of_one hSw.2;go_simp;try with_reducible rfl
  try simp only [Act.put,pq]
  refine tkE (i:=2) (d:=11) (v:=?_) rfl (Or.inl ⟨by rfl,?_⟩) hS0 ?_
  rotate_left
  ·intro w hSw;(try dsimp only at hSw);have c1:=cell_of_one hSw.1;have c2:=cell_of_one hSw.2;go_simp;try with_reducible rfl
  try simp only [Act.put,pq]
  have c1:=cell_of_one hS0.1
  have f1:=free_of_one hS0.1
  have hset:Turn (fun b=>b=B+1+1) V0 (V0.setCell ⟨B+1+1,0,none⟩ (.slice so sn sc)):=Turn.set1 V0 (B+1+1) 0 _
  have hS1:(V0.setCell ⟨B+1+1,0,none⟩ (.slice so sn sc)).heap[B+1+1]?=some (.cells #[.slice so sn sc] 99 (0,0))∧(V0.setCell ⟨B+1+1,0,none⟩ (.slice so sn sc)).heap[B+1+1+1]?=some (.cells #[.int .i64 0] 40 (0,0)):=⟨by simp only [World.setCell,Array.getElem?_modify,hS0.1];simp,hset.heap hS0.2 (by omega)⟩
  have HS1:=Lib.hid hS1;have HSET:=Lib.hid hset;have HE0:=Lib.hid e0;have HS0:=Lib.hid hS0
  clear hS1 hset e0 hS0
  refine wpAnyE_ready (rs:=[3]) (by kernel_rfl) (by simp) ?_
  refine AllReadyE.cons rfl (fun K hK=>?_) AllReadyE.nil
  (try rw [if_pos (show Region.wanted _ _=true from rfl)])
  go_simp
  refine hK.out _ _ HS1.out (fun _=>?_)
  clear hK K
  (try simp only [Act.put,pq])
  refine tkE (i:=4) (d:=5) (v:=?_) rfl (Or.inl ⟨by rfl,?_⟩) HS1.out ?_
  rotate_left
  ·intro w hSw;(try dsimp only at hSw);have c1:=cell_of_one hSw.1;have c2:=cell_of_one hSw.2;go_simp;try with_reducible rfl
  try simp only [Act.put,pq]
  refine wpAnyE_done (by kernel_rfl) ?_ _
  go_wp2
  have hone2:=one_apart1 ((HONE.out).ext HE0.out) HSET.out HS0.out.1
  refine bodyPost_ret (results_att rfl rfl rfl (by kernel_rfl) HS1.out.1) rfl ⟨so,sn,sc,rfl,fun u2 h2=>?_,?_⟩
  ·cases h2;exact hone2
  ·exact Turn.after (HE5.out.trans HE0.out) HSET.out (fun b hb h=>by have:=HB.out;omega)
 ·subst hdo
  clear HCA
  have HEE:=Lib.hid he
  go_upto_region 3 with (fail)
  obtain⟨V0,hV⟩:∃ D,w5.drew=D:=⟨_,rfl⟩
  have e0:Ext w5 V0:=by rw [← hV];exact(Turn.refl _ w5).drew
  have hS0:V0.heap[B+1+1]?=some (.cells #[.slice so sn sc] 99 (0,0))∧V0.heap[B+1+1+1]?=some (.cells #[.int .i64 11] 40 (0,0)):=⟨e0.keep HO5.out,e0.keep HEE.out⟩
  refine wp_region_late (S:=fun D=>D.heap[B+1+1]?=some (.cells #[.slice so sn sc] 99 (0,0))∧D.heap[B+1+1+1]?=some (.cells #[.int .i64 11] 40 (0,0))) [] (by kernel_rfl) (by rw [hV];exact hS0) ?_
  intro _
  rw [hV]
  clear hV
  refine tkE (i:=0) (d:=9) (v:=?_) rfl (Or.inl ⟨by rfl,?_⟩) hS0 ?_
  rotate_left
  ·intro w hSw;(try dsimp only at hSw);have c1:=cell_of_one hSw.1;have c2:=cell_of_one hSw.2;go_simp;try with_reducible rfl
  try simp only [Act.put,pq]
  refine tkE (i:=1) (d:=10) (v:=?_) rfl (Or.inl ⟨by rfl,?_⟩) hS0 ?_
  rotate_left
  ·intro w hSw;(try dsimp only at hSw);have c1:=cell_of_one hSw.1;have c2:=cell_of_one hSw.2;go_simp;try with_reducible rfl
  try simp only [Act.put,pq]
  refine tkE (i:=2) (d:=11) (v:=?_) rfl (Or.inl ⟨by rfl,?_⟩) hS0 ?_
  rotate_left
  ·intro w hSw;(try dsimp only at hSw);have c1:=cell_of_one hSw.1;have c2:=cell_of_one hSw.2;go_simp;try with_reducible rfl
  try simp only [Act.put,pq]
  have c1:=cell_of_one hS0.1
  have f1:=free_of_one hS0.1
  have hset:Turn (fun b=>b=B+1+1) V0 (V0.setCell ⟨B+1+1,0,none⟩ (.slice so sn sc)):=Turn.set1 V0 (B+1+1) 0 _
  have hS1:(V0.setCell ⟨B+1+1,0,none⟩ (.slice so sn sc)).heap[B+1+1]?=some (.cells #[.slice so sn sc] 99 (0,0))∧(V0.setCell ⟨B+1+1,0,none⟩ (.slice so sn sc)).heap[B+1+1+1]?=some (.cells #[.int .i64 11] 40 (0,0)):=⟨by simp only [World.setCell,Array.getElem?_modify,hS0.1];simp,hset.heap hS0.2 (by omega)⟩
  have HS1:=Lib.hid hS1;have HSET:=Lib.hid hset;have HE0:=Lib.hid e0;have HS0:=Lib.hid hS0
  clear hS1 hset e0 hS0
  refine wpAnyE_ready (rs:=[3]) (by kernel_rfl) (by simp) ?_
  refine AllReadyE.cons rfl (fun K hK=>?_) AllReadyE.nil
  (try rw [if_pos (show Region.wanted _ _=true from rfl)])
  go_simp
  refine hK.out _ _ HS1.out (fun _=>?_)
  clear hK K
  (try simp only [Act.put,pq])
  refine tkE (i:=4) (d:=5) (v:=?_) rfl (Or.inl ⟨by rfl,?_⟩) HS1.out ?_
  rotate_left
  ·intro w hSw;(try dsimp only at hSw);have c1:=cell_of_one hSw.1;have c2:=cell_of_one hSw.2;go_simp;try with_reducible rfl
  try simp only [Act.put,pq]
  refine wpAnyE_done (by kernel_rfl) ?_ _
  go_wp2
  refine bodyPost_ret (results_att rfl rfl rfl (by kernel_rfl) HS1.out.1) rfl ⟨so,sn,sc,rfl,fun u2 h2=>(by cases h2),?_⟩
  exact Turn.after (HE5.out.trans HE0.out) HSET.out (fun b hb h=>by have:=HB.out;omega)
end Go.Proofs.YtfdlhlghcbeblaaGreatDoor
set_option maxRecDepth 100000
set_option maxHeartbeats 8000000
namespace Go.Proofs.YtfdlhlghcbeblaaGreatDoor
open Go.RowKit Go.Ab
attribute [local go_sem] Oper.semAt_some wide_fn wide_depth
theorem dcheck_one{w:World}{ps:LawsL}{lo:Option Addr}{n lc:Nat}{vo:Option Addr}{vn vc:Nat}{ws:Wd}{g:Nat}(hl:LawsAt w (.slice lo n lc) ps) (hn:ps.length=n) (hw:WordAt w (.slice vo vn vc) ws) (hg:w.heap[g]?=some (.cells #[.slice vo vn vc] 99 (0,0))) (hT:Tab w) :
  Calls Tryz.prog 79 #[.slice lo n lc,.slice (some ⟨g,0,none⟩) 1 1] w fun e w'=>e=.returned (.int .i64 (lwsE (ps.map (·.1)) ws))∧Ext w w':=by
 have hck:=fun(V:World) (hE:Ext w V)=>dCheck_any (hl.ext hE) hn (hT.keep hE id)
 have hwk:=fun(V:World) (hE:Ext w V)=>wcheck_any (hw.ext hE)
 unfold lwsE
 obtain⟨LE,hLE⟩:∃ x,lawsE (ps.map (·.1))=x:=⟨_,rfl⟩
 obtain⟨WE,hWE⟩:∃ x,wE ws=x:=⟨_,rfl⟩
 simp only [hLE] at hck
 simp only [hWE] at hwk
 rw [hLE,hWE]
 obtain⟨RE,hRE⟩:∃ x,(if LE=0 then WE else LE)=x:=⟨_,rfl⟩
 have hr1:LE≠0→RE=LE:=fun h=>by rw [← hRE,if_neg h]
 have hr2:LE=0→RE=WE:=fun h=>by rw [← hRE,if_pos h]
 rw [hRE]
 have HR1:=Lib.hid hr1;have HR2:=Lib.hid hr2
 clear hRE hr1 hr2
 have HCK:=Lib.hid hck;have HWK:=Lib.hid hwk;have HG:=Lib.hid hg
 clear hck hwk hLE hWE hl hn hw hg hT
 go_enter Tryz.func79,Tryz.ntmps79
 go_wp2_with fail
 refine(HCK.out _ (Turn.refl _ _)).mono ?_
 rintro e w2 ⟨rfl,hE2⟩
 by_cases h0:LE=0
 case neg=>
  have h9:(LE != 0)=true:=by rw [bne_iff_ne];exact h0
  have hre:LE=RE:=(HR1.out h0).symm
  subst hre
  clear HCK HWK HG
  go_wp2
  go_ret
  exact⟨rfl,hE2⟩
 subst h0
 have hre:WE=RE:=(HR2.out (by first | trivial | rfl)).symm
 subst hre
 have HE2:=Lib.hid hE2
 clear hE2 HCK
 go_wp2
 refine wp_loop (fun a W=>∃(k:Nat),k≤1∧a.defers=[]∧(a.tmps.size=29∧a.tmps.getD 17 undef=.slice (some ⟨g,0,none⟩) 1 1∧a.tmps.getD 18 undef=.int .i64 1∧a.tmps.getD 19 undef=.int .i64 k)∧(k=1→WE=0)∧Ext w W)
  (fun a _=>(1 - intOf (a.tmps.getD 19 undef)).toNat) ?_ ?_
 ·exact⟨0,by omega,rfl,⟨rfl,rfl,rfl,rfl⟩,fun h=>by omega,HE2.out⟩
 clear HE2
 rintro⟨t,_⟩ W ⟨k,hk,hds,⟨hsz,f17,f18,f19⟩,hall,hE⟩
 subst hds
 obtain⟨u',hu⟩:=frame_fun hsz
 obtain⟨u,rfl⟩:∃ x,x=u':=⟨_,rfl⟩
 have hu':t=#[u 0,u 1,u 2,u 3,u 4,u 5,u 6,u 7,u 8,u 9,u 10,u 11,u 12,u 13,u 14,u 15,u 16,u 17,u 18,u 19,u 20,u 21,u 22,u 23,u 24,u 25,u 26,u 27,u 28]:=hu
 clear hu
 subst hu'
 change u 17=_ at f17
 change u 18=_ at f18
 change u 19=_ at f19
 rw [f17,f18,f19]
 clear f17 f18 f19 hsz
 by_cases hk0:k=0
 case neg=>
  obtain rfl:k=1:=by omega
  have hw0:=hall rfl
  subst hw0
  clear hall HWK HG hk0
  go_wp2
  go_ret
  exact⟨rfl,hE⟩
 subst hk0
 clear hall
 have hgW:=hE.keep HG.out
 have cG:=cell_of_one hgW
 have HE:=Lib.hid hE
 clear hE hgW
 go_wp2_with fail
 refine(HWK.out _ HE.out).mono ?_
 rintro e W2 ⟨rfl,hN⟩
 have HE2:=Lib.hid (HE.out.trans hN)
 clear hN HE cG HWK HG
 by_cases h1:WE=0
 case neg=>
  have h9:(WE != 0)=true:=by rw [bne_iff_ne];exact h1
  go_wp2
  go_ret
  exact⟨rfl,HE2.out⟩
 subst h1
 go_wp2
 exact⟨⟨1,by omega,by first | rfl | trivial,⟨rfl,rfl,rfl,rfl⟩,fun _=>by first | trivial | rfl,HE2.out⟩,by simp [intOf]⟩
theorem oneW_nil(W:World):OneW W (.slice none 0 0) []:=⟨none,0,rfl,⟨⟨rfl,by simp [maxLen],none,0,rfl,fun h=>by simp at h⟩,by simp [WdOk]⟩,Nat.le_refl _⟩
theorem derive_any{w:World}{ps:LawsL}{lo:Option Addr}{n lc:Nat}{vo:Option Addr}{vn vc:Nat}{ws:Wd}(hl:LawsAt w (.slice lo n lc) ps) (hn:ps.length=n) (hw:WordAt w (.slice vo vn vc) ws) (hvn:ws.length=vn) (hT:Tab w) :
  Calls Tryz.prog 61 #[.slice lo n lc,.slice vo vn vc] w fun e w'=>∃ v,e=.returned (.tuple #[v,.int .i64 (derE (ps.map (·.1)) ws)])∧OneW w' v (derW (ps.map (·.1)) ws)∧Ext w w':=by
 have hck:=fun(V:World) (hE:Ext w V) (g:Nat) (hg:V.heap[g]?=some (.cells #[.slice vo vn vc] 99 (0,0)))=>dcheck_one (hl.ext hE) hn (hw.ext hE) hg (hT.keep hE id)
 have hat:=fun(V:World) (hE:Ext w V) (hok:∀ p∈ps,lawB p.1=true) (hwE:wE ws=0)=>attempt_any (hl.ext hE) hn hok (hw.ext hE) hvn hwE (hT.keep hE id)
 have hz:lwsE (ps.map (·.1)) ws=0→(∀ p∈ps,lawB p.1=true)∧wE ws=0:=fun h=>by
  unfold lwsE at h
  split at h
  ·rename_i h0
   unfold lawsE at h0
   split at h0
   ·cases h0
   ·split at h0
    ·rename_i h1
     rw [List.all_map,List.all_eq_true] at h1
     exact⟨h1,h⟩
    ·cases h0
  ·contradiction
 have hbad:=@derE_bad (ps.map (·.1)) ws
 have hnone:=@derE_none (ps.map (·.1)) ws
 have hsome:=fun v=>@derE_some (ps.map (·.1)) ws v
 obtain⟨E0,hq⟩:∃ x,lwsE (ps.map (·.1)) ws=x:=⟨_,rfl⟩
 simp only [hq] at hck hz hbad hnone hsome
 clear hq
 obtain⟨DO,hq⟩:∃ x,derO (ps.map (·.1)) ws=x:=⟨_,rfl⟩
 simp only [hq] at hat hnone hsome
 clear hq
 obtain⟨DE,hq⟩:∃ x,derE (ps.map (·.1)) ws=x:=⟨_,rfl⟩
 simp only [hq] at hbad hnone hsome ⊢
 clear hq
 obtain⟨DW,hq⟩:∃ x,derW (ps.map (·.1)) ws=x:=⟨_,rfl⟩
 simp only [hq] at hbad hnone hsome ⊢
 clear hq
 have HCK:=Lib.hid hck;have HAT:=Lib.hid hat;have HZ:=Lib.hid hz;have HBAD:=Lib.hid hbad;have HNONE:=Lib.hid hnone;have HSOME:=Lib.hid hsome
 clear hck hat hz hbad hnone hsome hl hn hw hvn hT
 go_enter Tryz.func61,Tryz.ntmps61
 go_wp2_with fail
 obtain⟨w1,hw1⟩:∃ V,w.alloc (.cells #[.slice vo vn vc] 99)=V:=⟨_,rfl⟩
 have hE1:Ext w w1:=by rw [← hw1];exact(Turn.refl _ w).alloc _
 have hg1:w1.heap[w.heap.size]?=some (.cells #[.slice vo vn vc] 99 (0,0)):=by rw [← hw1];exact new_at rfl
 rw [hw1]
 refine(HCK.out w1 hE1 w.heap.size hg1).mono ?_
 rintro e w2 ⟨rfl,hE2⟩
 have HE2:=Lib.hid (hE1.trans hE2)
 clear hw1 hg1 hE1 hE2 HCK
 by_cases h0:E0=0
 case neg=>
  have h9:(E0 != 0)=true:=by rw [bne_iff_ne];exact h0
  obtain⟨rfl,rfl⟩:=HBAD.out h0
  clear HAT HZ HBAD HNONE HSOME
  go_wp2
  go_ret2
  exact⟨_,rfl,oneW_nil _,HE2.out⟩
 subst h0
 obtain⟨z1,z2⟩:=HZ.out (by first | trivial | rfl)
 have hat:=HAT.out w2 HE2.out z1 z2
 have HA:=Lib.hid hat
 clear hat z1 z2 HAT HZ HBAD
 go_wp2_with fail
 refine HA.out.mono ?_
 rintro e w3 ⟨ao,an,c,rfl,hone,hN⟩
 have HE3:=Lib.hid (HE2.out.trans hN);have HON:=Lib.hid hone
 clear hN hone HA HE2
 cases DO with
 | none=>
  obtain⟨rfl,rfl⟩:=HNONE.out (by first | trivial | rfl) rfl
  clear HNONE HSOME HON
  go_wp2
  go_ret2
  exact⟨_,rfl,oneW_nil _,HE3.out⟩
 | some u=>
  obtain⟨rfl,rfl⟩:=HSOME.out u (by first | trivial | rfl) rfl
  have hu:=HON.out _ rfl
  have HU:=Lib.hid hu
  clear HNONE HSOME HON hu
  go_wp2
  go_ret2
  exact⟨_,rfl,HU.out,HE3.out⟩
end Go.Proofs.YtfdlhlghcbeblaaGreatDoor
set_option maxRecDepth 100000
set_option maxHeartbeats 16000000
namespace Go.Proofs.YtfdlhlghcbeblaaGreatDoor
open Go.RowKit Go.Ab
attribute [local go_sem] Oper.semAt_some wide_fn wide_depth
def byTo(B:List Bool)(k:Nat):Int:=if B.findIdx (fun b=>!b)<k then(B.findIdx (fun b=>!b):Nat) else -1
theorem byTo_zero(B:List Bool):byTo B 0=-1:=by simp [byTo]
theorem byTo_true{B:List Bool}{k:Nat}(hk:k<B.length)(h:B[k]=true):byTo B (k+1)=byTo B k:=by
 unfold byTo
 have:B.findIdx (fun b=>!b)≠k:=fun e=>by
  have h1:B.findIdx (fun b=>!b)<B.length:=by omega
  have h2:=List.findIdx_getElem (p:=fun b=>!b) (w:=h1)
  simp only [e,h] at h2
  cases h2
 by_cases h1:B.findIdx (fun b=>!b)<k
 ·rw [if_pos h1,if_pos (by omega)]
 ·rw [if_neg h1,if_neg (by omega)]
theorem byTo_false{B:List Bool}{k:Nat}(hk:k<B.length)(h:B[k]=false):byTo B (k+1)=if byTo B k<0 then(k:Int) else byTo B k:=by
 unfold byTo
 by_cases h1:B.findIdx (fun b=>!b)<k
 ·rw [if_pos h1,if_pos (by omega),if_neg (by omega)]
 ·have h2:B.findIdx (fun b=>!b)≤k:=by
   apply Nat.le_of_not_lt
   intro h3
   have:=List.not_of_lt_findIdx h3
   simp [h] at this
  rw [if_neg h1,if_pos (by omega),if_pos (by decide)]
  omega
theorem byTo_all{ps:LawsL}{qs:PairsL}{ol:List Nat}:byTo (explsR ps ol qs) qs.length=byI ps ol qs:=by
 have hl:(explsR ps ol qs).length=qs.length:=by unfold explsR;rw [List.length_map]
 have hle:(explsR ps ol qs).findIdx (fun b=>!b)≤(explsR ps ol qs).length:=List.findIdx_le_length
 unfold byTo byI firstR
 by_cases h:(explsR ps ol qs).findIdx (fun b=>!b)=qs.length
 ·rw [if_neg (by omega),if_pos h]
 ·rw [if_pos (by omega),if_neg h]
theorem byTo_lt(B:List Bool)(k:Nat):-1≤byTo B k∧byTo B k<k:=by
 unfold byTo
 split <;> omega
theorem oby_any{w:World}{ps:LawsL}{qs:PairsL}{lo:Option Addr}{n lc:Nat}{xo:Option Addr}{on xc:Nat}{ol:List Nat}{po:Option Addr}{m pc:Nat}(hl:LawsAt w (.slice lo n lc) ps) (hn:ps.length=n) (ho:Rd w (.slice xo on xc) on 1 (natV ol)) (hon:ol.length=on) (hx:∀ x∈ol,x<n) (hsm:on≤1000) (hp:PairsAt w (.slice po m pc) qs) (hm:qs.length=m) (hT:Tab w) :
  Calls Tryz.prog 51 #[.slice lo n lc,.slice xo on xc,.slice po m pc] w fun e w'=>e=.returned (.tuple #[.int .i64 (cntR ps qs ol:Nat),.int .i64 (byI ps ol qs)])∧Ext w w':=by
 have hlen:=putL_len (ps:=ps) (ol:=ol) fun x h=>by rw [hn];exact hx x h
 have hmm:m≤maxLen:=by rw [← hm];exact hp.1.2.1
 unfold maxLen at hmm
 have hder:=fun(V:World) (ao:Option Addr) (c:Nat) (hE:Ext w V) (hO:Rd V (.slice ao on c) on 18 ((putL' ps ol).flatMap (·.2))) (D:World) (hD:Ext V D) (vo:Option Addr) (vc:Nat) (u:Wd) (hf:WordAt D (.slice vo u.length vc) u)=>derive_any (w:=D) (ps:=putL' ps ol) (lo:=ao) (n:=on) (lc:=c) ⟨by rw [hlen,hon];exact hO.ext hD,fun p hp=>(hl.2 p (putL_mem hp)).ext (hE.trans hD)⟩ (by rw [hlen,hon]) hf rfl (hT.keep (hE.trans hD) id)
 obtain⟨B,hB⟩:∃ B,explsR ps ol qs=B:=⟨_,rfl⟩
 have hBl:B.length=m:=by rw [← hB];unfold explsR;rw [List.length_map,hm]
 have hBk:∀ k (hk:k<qs.length),∃ h:k<B.length,B[k]=(decide (derE ((putL' ps ol).map (·.1)) qs[k].1.1=0) && decide (derW ((putL' ps ol).map (·.1)) qs[k].1.1=qs[k].1.2)):=fun k hk=>by subst hB;exact⟨by unfold explsR;rw [List.length_map];exact hk,by unfold explsR explR;rw [List.getElem_map]⟩
 have hcc:cntR ps qs ol=B.countP id:=by unfold cntR;rw [hB]
 have hbi:byI ps ol qs=byTo B m:=by rw [← byTo_all,hB,hm]
 rw [hcc,hbi]
 obtain⟨PL,hPL⟩:∃ l,(putL' ps ol).map (·.1)=l:=⟨_,rfl⟩
 simp only [hPL] at hder hBk
 have hb0:=byTo_zero B
 have hb1:=fun k (hk:k<B.length) (h:B[k]=true)=>byTo_true hk h
 have hb2:=fun k (hk:k<B.length) (h:B[k]=false)=>byTo_false hk h
 have hc1:=fun k (hk:k<B.length)=>cntTo_succ hk
 have hbl:=byTo_lt B
 have HD:=Lib.hid hder;have HL:=Lib.hid hl;have HN:=Lib.hid hn;have HO:=Lib.hid ho;have HON:=Lib.hid hon;have HX:=Lib.hid hx;have HP:=Lib.hid hp;have HM:=Lib.hid hm;have HBLN:=Lib.hid hBl;have HBK:=Lib.hid hBk;have HB0:=Lib.hid hb0;have HB1:=Lib.hid hb1;have HB2:=Lib.hid hb2;have HC1:=Lib.hid hc1;have HBLT:=Lib.hid hbl
 clear hder hl hn ho hon hx hp hm hBl hBk hb0 hb1 hb2 hc1 hbl hcc hbi hB hPL hT hlen
 go_enter Tryz.func51,Tryz.ntmps51
 obtain⟨X,hX⟩:∃ b,w.heap.size=b:=⟨_,rfl⟩
 have HX0:=Lib.hid hX
 clear hX
 go_wp2
 refine wp_loop (fun a W=>∃(k:Nat) (ao:Option Addr) (c:Nat),k≤on∧a.defers=[]∧(a.tmps.size=65∧a.tmps.getD 0 undef=.slice lo n lc∧a.tmps.getD 1 undef=.slice xo on xc∧a.tmps.getD 2 undef=.slice po m pc∧a.tmps.getD 8 undef=.slice ao k c∧a.tmps.getD 9 undef=.int .i64 k)∧W.ownsRow X 102 18 (.slice ao k c) k ((putL' ps (ol.take k)).flatMap (·.2))∧Ext w W)
  (fun a _=>((on:Int) - intOf (a.tmps.getD 9 undef)).toNat) ?_ ?_
 ·exact⟨0,_,_,by omega,rfl,⟨rfl,rfl,rfl,rfl,rfl,rfl⟩,World.ownsRow_nil _ _ _ _,Turn.refl _ _⟩
 rintro⟨t,_⟩ W ⟨k,ao,c,hk,hds,⟨hsz,f0,f1,f2,f8,f9⟩,hO,hE⟩
 subst hds
 obtain⟨u',hu⟩:=frame_fun hsz
 obtain⟨u,rfl⟩:∃ x,x=u':=⟨_,rfl⟩
 have hu':t=#[u 0,u 1,u 2,u 3,u 4,u 5,u 6,u 7,u 8,u 9,u 10,u 11,u 12,u 13,u 14,u 15,u 16,u 17,u 18,u 19,u 20,u 21,u 22,u 23,u 24,u 25,u 26,u 27,u 28,u 29,u 30,u 31,u 32,u 33,u 34,u 35,u 36,u 37,u 38,u 39,u 40,u 41,u 42,u 43,u 44,u 45,u 46,u 47,u 48,u 49,u 50,u 51,u 52,u 53,u 54,u 55,u 56,u 57,u 58,u 59,u 60,u 61,u 62,u 63,u 64]:=hu
 clear hu
 subst hu'
 change u 0=_ at f0
 change u 1=_ at f1
 change u 2=_ at f2
 change u 8=_ at f8
 change u 9=_ at f9
 rw [f0,f1,f2,f8,f9]
 clear f0 f1 f2 f8 f9 hsz
 have HR:=Lib.hid hO;have HE:=Lib.hid hE
 clear hO hE
 by_cases hkN:k<on
 case pos=>
  have h1:(k:Int)<(on:Int):=by omega
  have h0:(0:Int)≤(k:Int):=by omega
  have hkl:k<ol.length:=by rw [HON.out];exact hkN
  obtain⟨go',offo,co,hoq,hgo,hco⟩:=rd_at_1 (HO.out.ext HE.out) hkN
  simp only [Value.slice.injEq] at hoq
  obtain⟨rfl,hoq2,rfl⟩:=hoq
  have hnv:(natV ol).getD k undef=.int .i64 (ol[k]:Int):=by unfold natV;rw [List.getD_eq_getElem?_getD,List.getElem?_map,List.getElem?_eq_getElem hkl];rfl
  rw [hnv] at hco
  have hxn:ol[k]<n:=HX.out _ (List.getElem_mem hkl)
  have hxp:ol[k]<ps.length:=by rw [HN.out];exact hxn
  have hsu:=putL_succ hkl hxp
  obtain⟨g,off,c9,hq,hg,hrg,hla,h18⟩:=(HL.out.ext HE.out).at hxp
  simp only [Value.slice.injEq] at hq
  obtain⟨rfl,hq2,rfl⟩:=hq
  obtain⟨x,hxe⟩:∃ x,ol[k]=x:=⟨_,rfl⟩
  simp only [hxe] at hco hxn hsu hrg hla h18
  obtain⟨p,hpe⟩:∃ p,ps[x]'(by rw [← hxe];exact hxp)=p:=⟨_,rfl⟩
  rw [hpe] at hsu hrg hla h18
  obtain⟨pl,pcs⟩:=p
  dsimp only at hsu hrg hla h18
  obtain⟨nm,k1,p1,m1,n1,a1,b1,o1,N1,c1,k2,p2,m2,n2,a2,b2,o2,N2,c2,io,N3,ic,oo,N4,oc,md,rfl,HLA,HPL,HPR,HIF,HOU,HNM,HN1,HN2,HN3,HN4,HMD,q0,q1,q2,q3,q4⟩:=law_gen hla
  have hsf:(putL' ps (ol.take (k+1))).flatMap (·.2)=(putL' ps (ol.take k)).flatMap (·.2)++[.string nm,.int .i64 k1,.int .u32 (p1:Int),.int .u32 (m1:Int),.bool n1,.int .i64 a1,.int .i64 b1,.slice o1 N1 c1,.int .i64 k2,.int .u32 (p2:Int),.int .u32 (m2:Int),.bool n2,.int .i64 a2,.int .i64 b2,.slice o2 N2 c2,.slice io N3 ic,.slice oo N4 oc,.int .i64 md]:=by rw [hsu,List.flatMap_append];simp
  have HSF:=Lib.hid hsf;have HRG:=Lib.hid hrg;have HCO:=Lib.hid hco
  have hx0:(0:Int)≤(x:Int):=by omega
  have hx1:(x:Int)<(n:Int):=by omega
  have hwB:=HE.out.size
  clear hsu hsf hrg hla h18 hpe hxe hxp hnv hoq2 hq2 hg hgo HPL HPR HIF HOU HLA HNM HN1 HN2 HN3 HN4 HMD
  have hO2:=own_ext HR.out ((Turn.refl _ W).alloc (.cells #[.string nm,.int .i64 k1,.int .u32 (p1:Int),.int .u32 (m1:Int),.bool n1,.int .i64 a1,.int .i64 b1,.slice o1 N1 c1,.int .i64 k2,.int .u32 (p2:Int),.int .u32 (m2:Int),.bool n2,.int .i64 a2,.int .i64 b2,.slice o2 N2 c2,.slice io N3 ic,.slice oo N4 oc,.int .i64 md] 102))
  have HO2:=Lib.hid hO2
  have hco:=HCO.out
  have hXB:X≤W.heap.size:=by have:=HE.out.size;have:=HX0.out;omega
  clear hO2
  go_wp2_with (first | (at_builtin;refine append_row rfl (.tmp 21) (.tmp 29) 26 rfl X 102 _ 18 200 Tryz.underlying26 infoLawG rfl (by decide) _ _ _ rfl HO2.out ⟨W.heap.size,0,none⟩ 1 1 [.string nm,.int .i64 k1,.int .u32 (p1:Int),.int .u32 (m1:Int),.bool n1,.int .i64 a1,.int .i64 b1,.slice o1 N1 c1,.int .i64 k2,.int .u32 (p2:Int),.int .u32 (m2:Int),.bool n2,.int .i64 a2,.int .i64 b2,.slice o2 N2 c2,.slice io N3 ic,.slice oo N4 oc,.int .i64 md] rfl rfl (new_cells' rfl) ?c2 ?c3 ?c4 ?c5 ?_) | (refine wpList_load_at (by rfl) 102 (.tmp 27) rfl g (off+x*18) (by first | rfl | simp) _ _ HRG.out Tryz.underlying102 rfl (by kernel_rfl) ?_))
  case c2=>first | (repeat (first | rfl | refine⟨rfl,?_⟩)) | (intro y hy;simp only [List.mem_cons,List.not_mem_nil,or_false] at hy;rcases hy with rfl | rfl | rfl | rfl | rfl | rfl | rfl | rfl | rfl | rfl | rfl | rfl | rfl | rfl | rfl | rfl | rfl | rfl <;> rfl)
  case c3=>unfold maxLen;omega
  case c4=>omega
  case c5=>first | omega | (simp;omega)
  intro ao5 c5 w5 hO5 hT5 _
  have hT6:Turn (fun b'=>(Value.slice ao k c).ownBlock=some b') W w5:=Turn.trans (Turn.alloc (Turn.refl _ W) _) hT5
  have hE5:=HE.out.after hT6 (fun b' h1 e=>by have:=(HR.out.lt _ e).1;have:=HX0.out;omega)
  rw [← HSF.out] at hO5
  have HO5:=Lib.hid hO5;have HE5:=Lib.hid hE5
  clear hO5 hE5 hT5 hT6 HO2 HR HE HRG HCO hco HSF
  go_wp2
  exact⟨⟨k+1,_,_,by omega,by first | rfl | trivial,⟨rfl,rfl,rfl,rfl,rfl,rfl⟩,HO5.out,HE5.out⟩,by first | (simp [intOf];done) | (simp [intOf];omega)⟩
 obtain rfl:k=on:=by omega
 have h1:¬ (k:Int)<(k:Int):=by omega
 have hrd:=Rd.of_own HR.out
 rw [List.take_of_length_le (by rw [HON.out];exact Nat.le_refl _)] at hrd
 have HDD:=Lib.hid (HD.out W ao c HE.out hrd)
 clear hrd HD HL HN HO HON HX HR
 go_wp2
 refine wp_loop (fun a V=>∃(j:Nat),j≤m∧a.defers=[]∧(a.tmps.size=65∧a.tmps.getD 2 undef=.slice po m pc∧a.tmps.getD 8 undef=.slice ao k c∧a.tmps.getD 10 undef=.int .i64 ((B.take j).countP id:Nat)∧a.tmps.getD 11 undef=.int .i64 (byTo B j)∧a.tmps.getD 12 undef=.int .i64 j)∧Ext W V)
  (fun a _=>((m:Int) - intOf (a.tmps.getD 12 undef)).toNat) ?_ ?_
 ·exact⟨0,by omega,rfl,⟨rfl,rfl,rfl,by simp,by rw [HB0.out];rfl,rfl⟩,Turn.refl _ _⟩
 rintro⟨t,_⟩ V ⟨j,hj,hds,⟨hsz,f2,f8,f10,f11,f12⟩,hEV⟩
 subst hds
 obtain⟨u',hu⟩:=frame_fun hsz
 obtain⟨u,rfl⟩:∃ x,x=u':=⟨_,rfl⟩
 have hu':t=#[u 0,u 1,u 2,u 3,u 4,u 5,u 6,u 7,u 8,u 9,u 10,u 11,u 12,u 13,u 14,u 15,u 16,u 17,u 18,u 19,u 20,u 21,u 22,u 23,u 24,u 25,u 26,u 27,u 28,u 29,u 30,u 31,u 32,u 33,u 34,u 35,u 36,u 37,u 38,u 39,u 40,u 41,u 42,u 43,u 44,u 45,u 46,u 47,u 48,u 49,u 50,u 51,u 52,u 53,u 54,u 55,u 56,u 57,u 58,u 59,u 60,u 61,u 62,u 63,u 64]:=hu
 clear hu
 subst hu'
 change u 2=_ at f2
 change u 8=_ at f8
 change u 10=_ at f10
 change u 11=_ at f11
 change u 12=_ at f12
 rw [f2,f8,f10,f11,f12]
 clear f2 f8 f10 f11 f12 hsz
 have HEV:=Lib.hid hEV
 clear hEV
 have hcle:(B.take j).countP id≤j:=Nat.le_trans List.countP_le_length (by rw [List.length_take];omega)
 have hbl:=HBLT.out j
 by_cases hjm:j<m
 case neg=>
  obtain rfl:j=m:=by omega
  have h2:¬ (j:Int)<(j:Int):=by omega
  rw [List.take_of_length_le (by rw [HBLN.out];exact Nat.le_refl _)] at hcle ⊢
  obtain⟨C0,hC0⟩:∃ c,B.countP id=c:=⟨_,rfl⟩
  obtain⟨D0,hD0⟩:∃ c,byTo B j=c:=⟨_,rfl⟩
  rw [hC0,hD0]
  have HC9:=Lib.hid hC0;have HD9:=Lib.hid hD0
  clear HDD HP HM HBLN HBK HB0 HB1 HB2 HC1 HBLT hbl hC0 hD0 hcle
  go_wp2
  go_ret2
  exact⟨by rw [HC9.out,HD9.out];rfl,HE.out.trans HEV.out⟩
 have h2:(j:Int)<(m:Int):=by omega
 have hj0:(0:Int)≤(j:Int):=by omega
 have hjq:j<qs.length:=by rw [HM.out];exact hjm
 obtain⟨hjB,hBe⟩:=HBK.out j hjq
 have hsu:=HC1.out j hjB
 have hb1:=HB1.out j hjB
 have hb2:=HB2.out j hjB
 obtain⟨g,off,c',hq,hrg,⟨u,v,hcs,hu,hv⟩,zz2⟩:=StrAt.at (pairs_ext HP.out (HE.out.trans HEV.out)) hjq
 replace hq:=hq (by decide)
 obtain⟨hq,hg⟩:=hq
 simp only [Value.slice.injEq] at hq
 obtain⟨rfl,hz,rfl⟩:=hq
 rw [hcs] at hrg
 obtain⟨fo,fc,rfl,huw,zz3⟩:=hu
 obtain⟨qo,qc,rfl,hvw,zz4⟩:=hv
 have d0:=hrg 0 _ rfl
 have d1:=hrg 1 _ rfl
 rw [Nat.add_zero] at d0
 have hc:=HDD.out V HEV.out fo fc _ huw
 have heq:=fun(D:World) (hD:Ext V D) (ro:Option Addr) (rc:Nat) (r:Wd) (h:WordAt D (.slice ro r.length rc) r)=>eqW h (hvw.ext hD)
 obtain⟨RE,hRE⟩:∃ x,derE PL qs[j].1.1=x:=⟨_,rfl⟩
 obtain⟨RW,hRW⟩:∃ x,derW PL qs[j].1.1=x:=⟨_,rfl⟩
 obtain⟨Q2,hQ2⟩:∃ x,qs[j].1.2=x:=⟨_,rfl⟩
 rw [hRE,hRW] at hc hBe
 simp only [hQ2] at heq
 rw [hQ2] at hBe d1
 obtain⟨fl,hfl⟩:∃ x,qs[j].1.1.length=x:=⟨_,rfl⟩
 obtain⟨tl,htl⟩:∃ x,Q2.length=x:=⟨_,rfl⟩
 rw [hfl] at hc d0
 simp only [htl] at heq
 rw [htl] at d1
 obtain⟨C0,hC0⟩:∃ c,(B.take j).countP id=c:=⟨_,rfl⟩
 obtain⟨D0,hD0⟩:∃ c,byTo B j=c:=⟨_,rfl⟩
 rw [hC0] at hsu hcle ⊢
 rw [hD0] at hb1 hb2 hbl ⊢
 have HSU:=Lib.hid hsu;have HC:=Lib.hid hc;have HEQ:=Lib.hid heq;have HBE:=Lib.hid hBe;have HB3:=Lib.hid hb1;have HB4:=Lib.hid hb2;have HD1:=Lib.hid d1
 clear hsu hc heq hBe hb1 hb2 hrg hfl htl hz hcs huw hvw zz2 zz3 zz4 hg hC0 hD0 hRE hRW hQ2 HBK HB0 HB1 HB2 HC1 HBLT HDD HBLN d1
 go_wp2_with fail
 refine HC.out.mono ?_
 rintro e V2 ⟨_,rfl,⟨ro,rc,rfl,hrw,_⟩,hE2⟩
 have HE2:=Lib.hid hE2
 have hqq:=HEQ.out V2 hE2 ro rc RW hrw
 have d1:=hE2.cell_some HD1.out id
 obtain⟨rl,hrl⟩:∃ x,RW.length=x:=⟨_,rfl⟩
 rw [hrl] at hqq ⊢
 have HQQ:=Lib.hid hqq
 clear hqq hE2 hrw HC HEQ hrl HD1 d0
 have hfin:∀(b:Bool) (V4:World),B[j]=b→Ext V V4→((B.take (j+1)).countP id=C0+if b=true then 1 else 0)∧byTo B (j+1)=(if b=true then D0 else if D0<0 then(j:Int) else D0)∧Ext W V4:=fun b V4 hb hV=>by
  refine⟨by rw [HSU.out,hb],?_,HEV.out.trans hV⟩
  cases b with
  | true=>rw [HB3.out hb,if_pos rfl]
  | false=>rw [HB4.out hb,if_neg Bool.false_ne_true]
 have HFIN:=Lib.hid hfin
 clear hfin HSU HB3 HB4
 by_cases h0:RE=0
 ·subst h0
  have hbe:=HBE.out
  rw [decide_eq_true rfl,Bool.true_and] at hbe
  obtain⟨b,hb⟩:∃ b,decide (RW=Q2)=b:=⟨_,rfl⟩
  have hqq:=HQQ.out
  rw [hb] at hbe hqq
  have HBE2:=Lib.hid hbe;have HQ2:=Lib.hid hqq
  clear hbe hqq hb HBE HQQ
  go_wp2_with fail
  refine HQ2.out.mono ?_
  rintro e V4 ⟨rfl,hE4⟩
  obtain⟨r1,r2,r3⟩:=HFIN.out b V4 HBE2.out (HE2.out.trans hE4)
  have R1:=Lib.hid r1;have R2:=Lib.hid r2;have R3:=Lib.hid r3
  clear r1 r2 r3 hE4 HFIN HQ2 HBE2 d1
  cases b with
  | true=>
   have r1:=R1.out;have r2:=R2.out
   rw [if_pos rfl] at r1 r2
   have R4:=Lib.hid r1;have R5:=Lib.hid r2
   clear r1 r2 R1 R2
   go_wp2
   exact⟨⟨j+1,by omega,by first | rfl | trivial,⟨rfl,rfl,rfl,by rw [R4.out];rfl,by rw [R5.out];rfl,rfl⟩,R3.out⟩,by first | (simp [intOf];done) | (simp [intOf];omega)⟩
  | false=>
   have r1:=R1.out;have r2:=R2.out
   rw [if_neg Bool.false_ne_true] at r1 r2
   rw [Nat.add_zero] at r1
   have R4:=Lib.hid r1;have R5:=Lib.hid r2
   clear r1 r2 R1 R2
   by_cases hD:D0<0
   ·have r2:=R5.out
    rw [if_pos hD] at r2
    have R6:=Lib.hid r2
    clear r2 R5
    go_wp2
    exact⟨⟨j+1,by omega,by first | rfl | trivial,⟨rfl,rfl,rfl,by rw [R4.out];rfl,by rw [R6.out];rfl,rfl⟩,R3.out⟩,by first | (simp [intOf];done) | (simp [intOf];omega)⟩
   ·have r2:=R5.out
    rw [if_neg hD] at r2
    have R6:=Lib.hid r2
    clear r2 R5
    go_wp2
    exact⟨⟨j+1,by omega,by first | rfl | trivial,⟨rfl,rfl,rfl,by rw [R4.out];rfl,by rw [R6.out];rfl,rfl⟩,R3.out⟩,by first | (simp [intOf];done) | (simp [intOf];omega)⟩
 ·have h8:(RE == 0)=false:=by rw [beq_eq_false_iff_ne];exact h0
  have hbe:=HBE.out
  rw [decide_eq_false h0,Bool.false_and] at hbe
  obtain⟨r1,r2,r3⟩:=HFIN.out false V2 hbe HE2.out
  rw [if_neg Bool.false_ne_true] at r1 r2
  rw [Nat.add_zero] at r1
  have R4:=Lib.hid r1;have R5:=Lib.hid r2;have R3:=Lib.hid r3
  clear r1 r2 r3 hbe HFIN HQQ HBE d1 h0
  by_cases hD:D0<0
  ·have r2:=R5.out
   rw [if_pos hD] at r2
   have R6:=Lib.hid r2
   clear r2 R5
   go_wp2
   exact⟨⟨j+1,by omega,by first | rfl | trivial,⟨rfl,rfl,rfl,by rw [R4.out];rfl,by rw [R6.out];rfl,rfl⟩,R3.out⟩,by first | (simp [intOf];done) | (simp [intOf];omega)⟩
  ·have r2:=R5.out
   rw [if_neg hD] at r2
   have R6:=Lib.hid r2
   clear r2 R5
   go_wp2
   exact⟨⟨j+1,by omega,by first | rfl | trivial,⟨rfl,rfl,rfl,by rw [R4.out];rfl,by rw [R6.out];rfl,rfl⟩,R3.out⟩,by first | (simp [intOf];done) | (simp [intOf];omega)⟩
end Go.Proofs.YtfdlhlghcbeblaaGreatDoor
namespace Go.Proofs.YtfdlhlghcbeblaaGreatDoor
open Go.RowKit Go.Ab
def exUp(F G:List Bool)(k:Nat):Bool:=(List.range k).any fun j=>F.getD j false && !G.getD j false
theorem exUp_succ(F G:List Bool)(k:Nat):exUp F G (k+1)=(exUp F G k || (F.getD k false && !G.getD k false)):=by
 unfold exUp
 rw [List.range_succ,List.any_append]
 simp
theorem exUp_all{F G:List Bool}{k:Nat}(h:F.length=k):exUp F G k=exB F G:=by subst h;rfl
end Go.Proofs.YtfdlhlghcbeblaaGreatDoor
set_option maxRecDepth 100000
set_option maxHeartbeats 16000000
namespace Go.Proofs.YtfdlhlghcbeblaaGreatDoor
open Go.RowKit Go.Ab
attribute [local go_sem] Oper.semAt_some wide_fn wide_depth
theorem pairs_one{w:World}{A:Option Addr}{m c:Nat}{qs:PairsL}(h:PairsAt w (.slice A m c) qs) (hm:qs.length=m) {j:Nat} (hj:j<m) (hc:m≤c):∃ ao c',sliced A j (j+1) c 2=.slice ao 1 c'∧PairsAt w (.slice ao 1 c') [qs[j]'(by rw [hm];exact hj)]:=by
 have hjq:j<qs.length:=by rw [hm];exact hj
 obtain⟨g,off,cap,hv,hrg,hok,hl⟩:=StrAt.at h hjq
 obtain⟨hv,hg⟩:=hv (by decide)
 simp only [Value.slice.injEq] at hv
 obtain⟨rfl,_,_⟩:=hv
 have e:sliced (some ⟨g,off,none⟩) j (j+1) c 2=.slice (some ⟨g,off+j*2,none⟩) 1 (c - j):=by
  unfold sliced
  rw [if_neg (by omega)]
  simp only [Option.map_some,cut_at]
  rw [show j+1 - j=1 by omega]
 refine⟨_,_,e,⟨by simp [hl],by unfold maxLen;simp,_,_,rfl,fun _=>⟨g,off+j*2,rfl,hg,fun i hi=>?_⟩⟩,fun p hp=>?_⟩
 ·have hi2:i<qs[j].2.length:=by rw [hl];simpa using hi
  have:=hrg i _ (List.getElem?_eq_getElem hi2)
  rw [this]
  simp [List.getD_eq_getElem?_getD,hi2]
 ·rw [List.mem_singleton] at hp
  subst hp
  exact⟨hl,hok⟩
theorem cnt_bit(ps:LawsL)(q:(Wd × Wd) × List Value) (x:List Nat):(cntR ps [q] x:Int)=if explR ps x q.1.1 q.1.2=true then 1 else 0:=by
 rw [cnt_one]
 split <;> rfl
theorem filt_range_at{Q:Nat→Bool}{mx i:Nat}(hi:i<mx)(h:Q i=true):((List.range mx).filter Q)[((List.range i).filter Q).length]?=some i:=by
 have:=filter_at (p:=Q) (L:=List.range mx) (i:=i) (by simpa using hi) (by simpa using h)
 rw [List.take_range] at this
 rw [Nat.min_eq_left (by omega)] at this
 simpa using this
def OMaO(lv pv rv mv:Value)(mx:Nat)(w2:World)(P:Nat→Nat)(a:Act)(W:World):Prop:=∃(i:Nat),i≤mx∧a.defers=[]∧(a.tmps.size=130∧a.tmps.getD 0 undef=lv∧a.tmps.getD 1 undef=pv∧a.tmps.getD 8 undef=rv∧a.tmps.getD 9 undef=mv∧a.tmps.getD 11 undef=.int .i64 (P i:Nat)∧a.tmps.getD 12 undef=.int .i64 i)∧Ext w2 W
def OMaI(m i K:Nat)(lv pv rv mv yv:Value)(F G:List Bool)(V:World)(a:Act)(W:World):Prop:=∃(k:Nat),k≤m∧a.defers=[]∧(a.tmps.size=130∧a.tmps.getD 0 undef=lv∧a.tmps.getD 1 undef=pv∧a.tmps.getD 8 undef=rv∧a.tmps.getD 9 undef=mv∧a.tmps.getD 11 undef=.int .i64 (K:Nat)∧a.tmps.getD 12 undef=.int .i64 i∧a.tmps.getD 13 undef=yv∧a.tmps.getD 14 undef=.bool (exUp F G k)∧a.tmps.getD 15 undef=.int .i64 k)∧Ext V W
theorem omatters_law{w:World}{ps:LawsL}{qs:PairsL}{lo:Option Addr}{n lc:Nat}{po:Option Addr}{m pc:Nat}(hl:LawsAt w (.slice lo n lc) ps) (hn:ps.length=n) (hp:PairsAt w (.slice po m pc) qs) (hm:qs.length=m) (hpc:m≤pc) (which:Nat) (hwh:which<256) (hT:Tab w) :
  Calls Tryz.prog 10 #[.slice lo n lc,.slice po m pc,.int .u8 (which:Int)] w fun e w'=>e=.returned (.bool true)∧Ext w w':=by
 have hva:=ovalid_any hl hn hp hm hT
 have hwo:=fun(V:World) (hE:Ext w V)=>oworks_any V (hT.keep hE id)
 have hal:=fun(V:World) (h:n≤4)=>oall_any (w:=V) h
 have hlt:=orders_lt n
 have hZb:=orders_four n
 have hZp:=orders_some n
 have hby:=fun(V:World) (hE:Ext w V) (ol:List Nat) (yo:Option Addr) (yc:Nat) (hy:Rd V (.slice yo n yc) n 1 (natV ol)) (hyl:ol.length=n) (hlt:∀ x∈ol,x<n) (h4:n≤4) (ao:Option Addr) (c:Nat) (q:(Wd × Wd) × List Value) (hq:PairsAt V (.slice ao 1 c) [q])=>oby_any (hl.ext hE) hn hy hyl hlt (by omega) hq rfl (hT.keep hE id)
 have hma:=fun(V:World) (hE:Ext w V) (x:List Nat) (yo:Option Addr) (yc:Nat) (hy:Rd V (.slice yo n yc) n 1 (natV x)) (hyl:x.length=n)=>matters_any (xs:=intsN x) (hl.ext hE) hn (by rw [intV_ints];exact hy) (by unfold intsN;rw [List.length_map,hyl]) (pairs_ext hp hE) hm (hT.keep hE id)
 have hmv:ordE (ps.map (·.1)) (qs.map (·.1))=0→∀ x∈ordersR n,withE (ps.map (·.1)) (intsN x) (qs.map (·.1))=0∧mattL (ps.map (·.1)) (intsN x) qs=(List.range (n - 1)).filter (fun i=>exB (explsR ps x qs) (explsR ps (swapN x i) qs)):=fun h x hx=>by
  have hw:=withE_orders (LD:=ps.map (·.1)) h (x:=x) (by rw [List.length_map,hn];exact hx)
  have hxl:=(hlt x hx).1
  have h6:=(ordE_zero h).1
  rw [List.length_map,hn] at h6
  refine⟨hw,?_⟩
  unfold mattL
  rw [if_pos hw,natsI_ints]
  unfold intsN
  rw [List.length_map,hxl]
  apply List.filter_congr
  intro i _
  unfold mattB
  rw [expls_fit h (by omega),expls_fit h (by rw [swapN_length];omega)]
 have hgd:GoodLP (ps.map (·.1)) (qs.map (·.1))→n≤4∧m≤5∧ordE (ps.map (·.1)) (qs.map (·.1))=0:=fun h=>by
  obtain⟨h1,h2,h3⟩:=h
  rw [List.length_map,hn] at h1
  rw [List.length_map,hm] at h2
  exact⟨h1,h2,h3⟩
 have hFl:∀ l,(explsR ps l qs).length=m:=fun l=>by unfold explsR;rw [List.length_map,hm]
 have hFk:∀ l k (h:k<qs.length),(explsR ps l qs).getD k false=explR ps l qs[k].1.1 qs[k].1.2:=fun l k h=>by unfold explsR;rw [List.getD_eq_getElem?_getD,List.getElem?_map,List.getElem?_eq_getElem h];rfl
 have hcb:=fun(q:(Wd × Wd) × List Value) (x:List Nat)=>cnt_bit ps q x
 obtain⟨RS,hRS⟩:∃ L,ordersR n=L:=⟨_,rfl⟩
 simp only [hRS] at hlt hZb hZp hmv hal
 obtain⟨E,hEE⟩:∃ x,ordE (ps.map (·.1)) (qs.map (·.1))=x:=⟨_,rfl⟩
 rw [hEE] at hmv hgd
 have HVA:=Lib.hid hva;have HWO:=Lib.hid hwo;have HAL:=Lib.hid hal;have HLT0:=Lib.hid hlt;have HZB:=Lib.hid hZb;have HBY:=Lib.hid hby;have HMA:=Lib.hid hma;have HMV:=Lib.hid hmv;have HGD:=Lib.hid hgd;have HFL:=Lib.hid hFl;have HFK:=Lib.hid hFk;have HPQ:=Lib.hid hp;have HM:=Lib.hid hm;have HCB:=Lib.hid hcb
 clear hva hwo hal hlt hZb hby hma hmv hgd hFl hFk hl hn hp hm hT hRS hEE hcb
 go_enter Tryz.func10,Tryz.ntmps10
 go_wp2_with fail
 refine HVA.out.mono ?_
 rintro e w1 ⟨b,rfl,hg,hE1⟩
 have HE1:=Lib.hid hE1
 have HG:=Lib.hid hg
 clear hE1 HVA hg
 cases b with
 | false=>
  clear HAL HBY HMA HMV HGD HFL HFK HG HLT0 HCB
  go_wp2_with fail
  refine(HWO.out w1 HE1.out).mono ?_
  rintro e w2 ⟨rfl,hN⟩
  have HE2:=Lib.hid (HE1.out.trans hN)
  clear hN
  go_wp2
  go_ret
  exact⟨rfl,HE2.out⟩
 | true=>
  obtain⟨hn4,hm5,hE0⟩:=HGD.out (HG.out (by first | trivial | rfl))
  have hZ24:=HZB.out hn4
  have hal:=HAL.out w1 hn4
  have HAL2:=Lib.hid hal
  clear hal HAL HG HGD HZB
  go_wp2_with fail
  refine HAL2.out.mono ?_
  rintro e w2 ⟨_,rfl,⟨ro,rc,rfl,hgr⟩,hE2⟩
  have HE2:=Lib.hid (HE1.out.trans hE2)
  obtain⟨vs,hvr,hrs⟩:=hgr
  have hidx:which % RS.length<RS.length:=Nat.mod_lt _ hZp
  obtain⟨x1,hx1⟩:∃ q,which % RS.length=q:=⟨_,rfl⟩
  rw [hx1] at hidx
  obtain⟨eo,ec,e1,e2⟩:=hrs x1 hidx
  obtain⟨gq,ofq,cq,hqq,_,hcq⟩:=rd_at_1 hvr hidx
  simp only [Value.slice.injEq] at hqq
  obtain⟨rfl,zz1,rfl⟩:=hqq
  rw [e1] at hcq
  have hxm:RS[x1]∈RS:=List.getElem_mem hidx
  have hxl:=HLT0.out _ hxm
  have hmv:=HMV.out (by first | exact hE0 | trivial | rfl) _ hxm
  obtain⟨ol,hol⟩:∃ x,RS[x1]=x:=⟨_,rfl⟩
  rw [hol] at hcq e2 hxl hmv
  obtain⟨hxl,hlt⟩:=hxl
  rw [hxl] at hcq e2
  have hrem:Int.tmod (which:Int) (RS.length:Int)=(x1:Int):=by rw [Int.tmod_eq_emod_of_nonneg (by omega),← hx1];rfl
  have hma:=HMA.out w2 HE2.out ol eo ec e2 hxl
  rw [hmv.1,hmv.2] at hma
  obtain⟨Q,hQ⟩:∃ q:Nat→Bool,(fun i=>exB (explsR ps ol qs) (explsR ps (swapN ol i) qs))=q:=⟨_,rfl⟩
  have hQi:∀ i,Q i=exB (explsR ps ol qs) (explsR ps (swapN ol i) qs):=fun i=>by rw [← hQ]
  rw [hQ] at hma
  obtain⟨mx,hmx⟩:∃ k,n - 1=k:=⟨_,rfl⟩
  rw [hmx] at hma
  have hom2:(mx=0∧n=0)∨mx+1=n:=by omega
  have hat:=fun(i:Nat) (hi:i<mx) (h:Q i=true)=>filt_range_at hi h
  obtain⟨M,hMM⟩:∃ l,(List.range mx).filter Q=l:=⟨_,rfl⟩
  rw [hMM] at hma
  simp only [hMM] at hat
  have hMlen:M.length≤mx:=by rw [← hMM];exact Nat.le_trans (List.length_filter_le _ _) (by simp)
  have HMM:=Lib.hid hMM;have HAT:=Lib.hid hat
  have HQI:=Lib.hid hQi;have HMA2:=Lib.hid hma;have HLL:=Lib.hid hxl;have HLT:=Lib.hid hlt;have HRD:=Lib.hid e2;have HREM:=Lib.hid hrem
  clear hma hvr hrs e1 e2 hxm hmv hol hxl hlt hQ hQi hmx zz1 hE2 HAL2 HE1 HLT0 HMV HMA hMM hat hx1
  obtain⟨Z,hZq⟩:∃ z,RS.length=z:=⟨_,rfl⟩
  have hrem:=HREM.out
  rw [hZq] at hidx hZ24 hZp hrem ⊢
  have hi1:(x1:Int)<(Z:Int):=by omega
  have hi0:(0:Int)≤(x1:Int):=by omega
  have hz0:¬ (Z:Int)=0:=by omega
  clear hZq HREM
  go_wp2_with fail
  clear hrem hz0 hi1 hi0
  refine HMA2.out.mono ?_
  rintro e w3 ⟨mo,mc,rfl,hrm,hE3⟩
  have HE3:=Lib.hid hE3;have HRM:=Lib.hid hrm
  obtain⟨ml,hml⟩:∃ k,M.length=k:=⟨_,rfl⟩
  have HML:=Lib.hid hml
  rw [hml] at hMlen ⊢
  clear hE3 hrm hml HMA2 hcq
  go_wp2
  refine wp_loop (OMaO (.slice lo n lc) (.slice po m pc) (.slice eo n ec) (.slice mo ml mc) mx w3 (fun i=>((List.range i).filter Q).length)) (fun a _=>((mx:Int) - intOf (a.tmps.getD 12 undef)).toNat) ?_ ?_
  ·exact⟨0,by omega,rfl,⟨rfl,rfl,rfl,rfl,rfl,rfl,rfl⟩,Turn.refl _ _⟩
  rintro⟨t,_⟩ W ⟨i,hi,hds,⟨hsz,f0,f1,f8,f9,f11,f12⟩,hE⟩
  dsimp only at f11
  subst hds
  obtain⟨u',hu⟩:=frame_fun hsz
  obtain⟨u,rfl⟩:∃ x,x=u':=⟨_,rfl⟩
  have hu':t=#[u 0,u 1,u 2,u 3,u 4,u 5,u 6,u 7,u 8,u 9,u 10,u 11,u 12,u 13,u 14,u 15,u 16,u 17,u 18,u 19,u 20,u 21,u 22,u 23,u 24,u 25,u 26,u 27,u 28,u 29,u 30,u 31,u 32,u 33,u 34,u 35,u 36,u 37,u 38,u 39,u 40,u 41,u 42,u 43,u 44,u 45,u 46,u 47,u 48,u 49,u 50,u 51,u 52,u 53,u 54,u 55,u 56,u 57,u 58,u 59,u 60,u 61,u 62,u 63,u 64,u 65,u 66,u 67,u 68,u 69,u 70,u 71,u 72,u 73,u 74,u 75,u 76,u 77,u 78,u 79,u 80,u 81,u 82,u 83,u 84,u 85,u 86,u 87,u 88,u 89,u 90,u 91,u 92,u 93,u 94,u 95,u 96,u 97,u 98,u 99,u 100,u 101,u 102,u 103,u 104,u 105,u 106,u 107,u 108,u 109,u 110,u 111,u 112,u 113,u 114,u 115,u 116,u 117,u 118,u 119,u 120,u 121,u 122,u 123,u 124,u 125,u 126,u 127,u 128,u 129]:=hu
  clear hu
  subst hu'
  change u 0=_ at f0
  change u 1=_ at f1
  change u 8=_ at f8
  change u 9=_ at f9
  change u 11=_ at f11
  change u 12=_ at f12
  rw [f0,f1,f8,f9,f11,f12]
  clear f0 f1 f8 f9 f11 f12 hsz
  have HEW:=Lib.hid hE
  have hsu:=filter_range_succ Q i
  have hle:((List.range i).filter Q).length≤i:=Nat.le_trans (List.length_filter_le _ _) (by simp)
  have hsl:((List.range (i+1)).filter Q).length=((List.range i).filter Q).length+if Q i=true then 1 else 0:=by rw [hsu,List.length_append];cases Q i <;> rfl
  have hat:=HAT.out i
  have hfin:i=mx→((List.range i).filter Q).length=ml:=fun h=>by subst h;rw [HMM.out];exact HML.out
  obtain⟨K,hK⟩:∃ k,((List.range i).filter Q).length=k:=⟨_,rfl⟩
  rw [hK] at hle hsl hat hfin ⊢
  have HSL:=Lib.hid hsl;have HATI:=Lib.hid hat;have HFIN:=Lib.hid hfin
  clear hE hsu hsl hat hK hfin
  have hwi:IntKind.i64.wrap ((i:Int)+1)=(i:Int)+1:=IntWalk.i64_in _ (by omega)
  by_cases hiN:i<mx
  case neg=>
   obtain rfl:i=mx:=by omega
   have h1:¬ (i:Int)+1<(n:Int):=by omega
   have hKm:=HFIN.out rfl
   subst hKm
   clear HRD HLT HBY HFL HFK HPQ HQI HATI HAT HSL HRM HFIN
   go_wp2_with fail
   refine(HWO.out W (HE2.out.trans (HE3.out.trans HEW.out))).mono ?_
   rintro e w4 ⟨rfl,hN⟩
   have HE4:=Lib.hid ((HE2.out.trans (HE3.out.trans HEW.out)).trans hN)
   clear hN
   go_wp2
   go_ret
   exact⟨rfl,HE4.out⟩
  have h0:(0:Int)≤(i:Int):=by omega
  have hion:i+1<n:=by omega
  have hi1:(i:Int)+1<(n:Int):=by omega
  have hi0:(0:Int)≤(i:Int)+1:=by omega
  have hi2:(i:Int)<(n:Int):=by omega
  have hin:((i:Int)+1).toNat=i+1:=by omega
  obtain⟨x0,hx0⟩:∃ x,ol.getD i 0=x:=⟨_,rfl⟩
  obtain⟨x1,hx1⟩:∃ x,ol.getD (i+1) 0=x:=⟨_,rfl⟩
  have hnj:∀ j,j<n→(natV ol).getD j undef=.int .i64 (ol.getD j 0:Nat):=fun j hj=>by
   unfold natV
   rw [List.getD_eq_getElem?_getD,List.getElem?_map,List.getD_eq_getElem?_getD,List.getElem?_eq_getElem (by rw [HLL.out];exact hj)]
   rfl
  have hrdW:=HRD.out.ext (HE3.out.trans HEW.out)
  obtain⟨gr,ofr,cr,hqr,hgr,hcr0⟩:=rd_at_1 hrdW (show i<n by omega)
  simp only [Value.slice.injEq] at hqr
  obtain⟨rfl,z1,rfl⟩:=hqr
  obtain⟨gr2,ofr2,cr2,hqr,_,hcr1⟩:=rd_at_1 hrdW hion
  simp only [Value.slice.injEq,Option.some.injEq,Addr.mk.injEq] at hqr
  obtain⟨⟨hq1,hq2,_⟩,z2,hq3⟩:=hqr
  subst hq1;subst hq2;subst hq3
  rw [hnj i (by omega),hx0] at hcr0
  rw [hnj (i+1) hion,hx1] at hcr1
  have HCR0:=Lib.hid hcr0;have HCR1:=Lib.hid hcr1;have HX0:=Lib.hid hx0;have HX1:=Lib.hid hx1;have HRDW:=Lib.hid hrdW;have HNJ:=Lib.hid hnj
  have hone:∀ u∈natV ol,u.oneCell'=true:=fun u hu=>by obtain⟨_,_,rfl⟩:=List.mem_map.1 hu;rfl
  have HONE:=Lib.hid hone
  have hA0:(W.alloc (.cells #[] 3)).ownsRow W.heap.size 3 1 (.slice (some ⟨W.heap.size,0,none⟩) 0 0) 0 []:=World.ownsRow_lit W #[] 0 (Nat.le_refl _) (by unfold maxLen;omega) rfl
  have HA0:=Lib.hid hA0
  clear hcr0 hcr1 hx0 hx1 hrdW hnj hone hA0 z1 z2
  go_wp2_with (at_builtin;refine append_rd rfl (.tmp 52) (.tmp 53) 48 rfl W.heap.size 3 _ 1 8 Tryz.underlying48 Tryz.infoI rfl (by decide) _ 0 [] rfl HA0.out _ n _ (natV ol) rfl (HRDW.out.ext ((Turn.refl _ W).alloc _)) HONE.out ?c3 ?c4 ?c5 ?_)
  case c3=>unfold maxLen;omega
  case c4=>omega
  case c5=>first | omega | (simp;done) | (simp;omega)
  intro yo yc V1 hO1 hT1 hB1
  have hE1:Ext W V1:=Turn.after ((Turn.refl _ W).alloc (.cells #[] 3)) hT1 (fun b hb e=>by simp only [Value.ownBlock,Option.some.injEq] at e;omega)
  try rw [Nat.zero_add,List.nil_append] at hO1
  have hO1:V1.ownsRow W.heap.size 3 1 (.slice yo n yc) n (natV ol):=hO1
  obtain⟨g,rfl⟩:=own_addr (n:=n - 1) (cap:=yc) (by rw [show n - 1+1=n by omega];exact hO1)
  have hcc:∀ j,j<n→∀ U,Ext V1 U→U.cell? ⟨g,j,none⟩=some (.int .i64 (ol.getD j 0:Nat)):=fun j hj U hU=>by
   have:=(own_ext hO1 hU).cellAt j (by omega)
   rw [this]
   have h5:=HNJ.out j hj
   rw [List.getD_eq_getElem?_getD] at h5
   cases h7:(natV ol)[j]? with
   | none=>rw [h7] at h5;cases h5
   | some q=>rw [h7] at h5;exact congrArg some h5
  have hc0:=hcc i (by omega)
  have hc1:=hcc (i+1) hion
  rw [HX0.out] at hc0
  rw [HX1.out] at hc1
  have hgW:W.heap.size≤g:=(hO1.lt g rfl).1
  have hgrg:¬ g=gr:=by omega
  have hR0:=hE1.cell_some HCR0.out id
  have hR1:=hE1.cell_some HCR1.out id
  have HC0:=Lib.hid hc0;have HC1:=Lib.hid hc1;have HO1:=Lib.hid hO1;have HN1:=Lib.hid hE1;have HR0:=Lib.hid hR0;have HR1:=Lib.hid hR1
  clear hcc hc0 hc1 hO1 hE1 hT1 hB1 hR0 hR1 HA0 HCR0 HCR1 HNJ HONE HRDW
  go_upto_region 13 with (fail)
  go_cut [] from 55 to 71 (fun wx=>wx.ownsRow W.heap.size 3 1 (.slice (some ⟨g,0,none⟩) n yc) n (natV (swapN ol i))∧Ext W wx)
  case first=>
   obtain⟨U0,hU0⟩:∃ D,V1.drew=D:=⟨_,rfl⟩
   have e0:Ext V1 U0:=by rw [← hU0];exact(Turn.refl _ V1).drew
   have ho0:=own_ext HO1.out e0
   have cr1:=e0.cell_some HR1.out id
   have cr0:=e0.cell_some HR0.out id
   have hc1:U0.cell? ⟨g,i+1,none⟩=some (.int .i64 (x1:Int)):=HC1.out U0 e0
   have hc0:U0.cell? ⟨g,i,none⟩=some (.int .i64 (x0:Int)):=HC0.out U0 e0
   have hS:U0.cell? ⟨gr,ofr+(i+1),none⟩=some (.int .i64 (x1:Int))∧U0.cell? ⟨gr,ofr+i,none⟩=some (.int .i64 (x0:Int)):=⟨cr1,cr0⟩
   refine wp_region_late (S:=fun D=>D.cell? ⟨gr,ofr+(i+1),none⟩=some (.int .i64 (x1:Int))∧D.cell? ⟨gr,ofr+i,none⟩=some (.int .i64 (x0:Int))) [17] (by kernel_rfl) (by rw [hU0];exact hS) ?_
   intro _
   rw [hU0]
   clear hU0 cr1 cr0
   refine tkE (i:=0) (d:=55) (v:=?_) rfl (Or.inl ⟨by rfl,?_⟩) hS ?_
   rotate_left
   ·intro w hSw;(try dsimp only at hSw);obtain⟨s1,s2⟩:=hSw;go_simp;try with_reducible rfl
   try simp only [Act.put,pq]
   refine tkE (i:=1) (d:=56) (v:=?_) rfl (Or.inl ⟨by rfl,?_⟩) hS ?_
   rotate_left
   ·intro w hSw;(try dsimp only at hSw);obtain⟨s1,s2⟩:=hSw;go_simp;try with_reducible rfl
   try simp only [Act.put,pq]
   refine tkE (i:=2) (d:=57) (v:=?_) rfl (Or.inl ⟨by rfl,?_⟩) hS ?_
   rotate_left
   ·intro w hSw;(try dsimp only at hSw);obtain⟨s1,s2⟩:=hSw;go_simp;try with_reducible rfl
   try simp only [Act.put,pq]
   refine tkE (i:=3) (d:=58) (v:=?_) rfl (Or.inl ⟨by rfl,?_⟩) hS ?_
   rotate_left
   ·intro w hSw;(try dsimp only at hSw);obtain⟨s1,s2⟩:=hSw;go_simp;try with_reducible rfl
   try simp only [Act.put,pq]
   refine tkE (i:=4) (d:=59) (v:=?_) rfl (Or.inl ⟨by rfl,?_⟩) hS ?_
   rotate_left
   ·intro w hSw;(try dsimp only at hSw);obtain⟨s1,s2⟩:=hSw;go_simp;try with_reducible rfl
   try simp only [Act.put,pq]
   refine tkE (i:=5) (d:=60) (v:=?_) rfl (Or.inl ⟨by rfl,?_⟩) hS ?_
   rotate_left
   ·intro w hSw;(try dsimp only at hSw);obtain⟨s1,s2⟩:=hSw;go_simp;try with_reducible rfl
   try simp only [Act.put,pq]
   refine tkE (i:=6) (d:=61) (v:=?_) rfl (Or.inl ⟨by rfl,?_⟩) hS ?_
   rotate_left
   ·intro w hSw;(try dsimp only at hSw);obtain⟨s1,s2⟩:=hSw;go_simp;try with_reducible rfl
   try simp only [Act.put,pq]
   refine tkE (i:=7) (d:=62) (v:=?_) rfl (Or.inl ⟨by rfl,?_⟩) hS ?_
   rotate_left
   ·intro w hSw;(try dsimp only at hSw);obtain⟨s1,s2⟩:=hSw;go_simp;try with_reducible rfl
   try simp only [Act.put,pq]
   refine tkE (i:=8) (d:=63) (v:=?_) rfl (Or.inl ⟨by rfl,?_⟩) hS ?_
   rotate_left
   ·intro w hSw;(try dsimp only at hSw);obtain⟨s1,s2⟩:=hSw;go_simp;try with_reducible rfl
   try simp only [Act.put,pq]
   refine tkE (i:=9) (d:=64) (v:=?_) rfl (Or.inl ⟨by rfl,?_⟩) hS ?_
   rotate_left
   ·intro w hSw;(try dsimp only at hSw);obtain⟨s1,s2⟩:=hSw;go_simp;try with_reducible rfl
   try simp only [Act.put,pq]
   refine tkE (i:=10) (d:=65) (v:=?_) rfl (Or.inl ⟨by rfl,?_⟩) hS ?_
   rotate_left
   ·intro w hSw;(try dsimp only at hSw);obtain⟨s1,s2⟩:=hSw;go_simp;try with_reducible rfl
   try simp only [Act.put,pq]
   refine tkE (i:=11) (d:=66) (v:=?_) rfl (Or.inl ⟨by rfl,?_⟩) hS ?_
   rotate_left
   ·intro w hSw;(try dsimp only at hSw);obtain⟨s1,s2⟩:=hSw;go_simp;try with_reducible rfl
   try simp only [Act.put,pq]
   refine tkE (i:=12) (d:=67) (v:=?_) rfl (Or.inl ⟨by rfl,?_⟩) hS ?_
   rotate_left
   ·intro w hSw;(try dsimp only at hSw);obtain⟨s1,s2⟩:=hSw;go_simp;try with_reducible rfl
   try simp only [Act.put,pq]
   refine tkE (i:=13) (d:=68) (v:=?_) rfl (Or.inl ⟨by rfl,?_⟩) hS ?_
   rotate_left
   ·intro w hSw;(try dsimp only at hSw);obtain⟨s1,s2⟩:=hSw;go_simp;try with_reducible rfl
   try simp only [Act.put,pq]
   refine tkE (i:=14) (d:=69) (v:=?_) rfl (Or.inl ⟨by rfl,?_⟩) hS ?_
   rotate_left
   ·intro w hSw;(try dsimp only at hSw);obtain⟨s1,s2⟩:=hSw;go_simp;try with_reducible rfl
   try simp only [Act.put,pq]
   refine wpAnyE_ready (rs:=[15]) (by kernel_rfl) (by simp) ?_
   refine AllReadyE.cons rfl (fun K hK=>?_) AllReadyE.nil
   (try rw [if_pos (show Region.wanted _ _=true from rfl)])
   have f0:=own_free ho0 (j:=i) (by omega)
   go_simp
   have hS2:(U0.setCell ⟨g,i,none⟩ (.int .i64 (x1:Int))).cell? ⟨gr,ofr+(i+1),none⟩=some (.int .i64 (x1:Int))∧(U0.setCell ⟨g,i,none⟩ (.int .i64 (x1:Int))).cell? ⟨gr,ofr+i,none⟩=some (.int .i64 (x0:Int)):=by
    refine⟨?_,?_⟩
    ·rw [World.cell?_setCell_other (h:=by intro e;simp only [Addr.mk.injEq] at e;exact hgrg e.1)];exact hS.1
    ·rw [World.cell?_setCell_other (h:=by intro e;simp only [Addr.mk.injEq] at e;exact hgrg e.1)];exact hS.2
   refine hK.out _ _ hS2 (fun _=>?_)
   clear hK K f0 hc0
   (try change wpAnyE _ _ _ _ _ _ _ _ (Act.put _ none _) _)
   (try simp only [Act.put])
   refine tkE (i:=16) (d:=70) (v:=?_) rfl (Or.inl ⟨by rfl,?_⟩) hS2 ?_
   rotate_left
   ·intro w hSw;(try dsimp only at hSw);obtain⟨s1,s2⟩:=hSw;go_simp;try with_reducible rfl
   try simp only [Act.put,pq]
   refine wpAnyE_ready (rs:=[17]) (by kernel_rfl) (by simp) ?_
   refine AllReadyE.late rfl rfl (fun K hK=>?_) AllReadyE.nil
   (try rw [if_pos (show Region.wanted _ _=true from rfl)])
   have ho1:=own_store ho0 i (.int .i64 (x1:Int))
   have f1:=own_free ho1 (j:=i+1) (by omega)
   go_simp
   refine hK.out _ _ ?_
   clear hK K f1
   (try change wpAnyE _ _ _ _ _ _ _ _ (Act.put _ none _) _)
   (try simp only [Act.put])
   refine wpAnyE_done (by kernel_rfl) ?_ _
   have ho2:=own_store ho1 (i+1) (.int .i64 (x0:Int))
   have t12:Turn (fun b=>b=g) U0 ((U0.setCell ⟨g,i,none⟩ (.int .i64 (x1:Int))).setCell ⟨g,i+1,none⟩ (.int .i64 (x0:Int))):=(Turn.set1 _ _ _ _).trans (Turn.set1 _ _ _ _)
   obtain⟨V2,hV2⟩:∃ D,(U0.setCell ⟨g,i,none⟩ (.int .i64 (x1:Int))).setCell ⟨g,i+1,none⟩ (.int .i64 (x0:Int))=D:=⟨_,rfl⟩
   rw [hV2] at ho2 t12 ⊢
   have ho3:V2.ownsRow W.heap.size 3 1 (.slice (some ⟨g,0,none⟩) n yc) n (natV (swapN ol i)):=by
    have e:=natV_swap ol i
    rw [HX0.out,HX1.out] at e
    rw [← e];exact ho2
   have hEX:Ext W V2:=(HN1.out.trans e0).after t12 (fun b hb e=>by omega)
   have HOX:=Lib.hid ho3;have HEX9:=Lib.hid hEX
   clear hV2 ho2 t12 ho3 hEX ho1 ho0 hS hS2
   go_wp2
   go_meet
   case rel=>exact⟨HOX.out,HEX9.out⟩
  case rest=>
   obtain⟨hy,hEX⟩:=hcut
   generalize wc=V2 at hy hEX ⊢
   have hry:=Rd.of_own hy
   obtain⟨F,hF⟩:∃ F,explsR ps ol qs=F:=⟨_,rfl⟩
   obtain⟨G,hG⟩:∃ G,explsR ps (swapN ol i) qs=G:=⟨_,rfl⟩
   have hFk:=HFK.out ol
   have hGk:=HFK.out (swapN ol i)
   have hFl:=HFL.out ol
   have hqi:=HQI.out i
   rw [hF] at hFk hFl hqi
   rw [hG] at hGk hqi
   have hb9:=HE2.out.trans (HE3.out.trans (HEW.out.trans hEX))
   have hexF:=fun(V:World) (hV:Ext V2 V)=>HBY.out V (hb9.trans hV) ol (some ⟨gr,ofr,none⟩) ec (HRD.out.ext (HE3.out.trans (HEW.out.trans (hEX.trans hV)))) HLL.out HLT.out hn4
   have hexG:=fun(V:World) (hV:Ext V2 V)=>HBY.out V (hb9.trans hV) (swapN ol i) (some ⟨g,0,none⟩) yc (hry.ext hV) (by rw [swapN_length,HLL.out]) (swapN_mem (by rw [HLL.out];exact hion) HLT.out) hn4
   have HFK2:=Lib.hid hFk;have HGK:=Lib.hid hGk;have HFL2:=Lib.hid hFl;have HQ:=Lib.hid hqi;have HEF:=Lib.hid hexF;have HEG:=Lib.hid hexG;have HEX2:=Lib.hid hEX;have HB9:=Lib.hid hb9
   clear hFk hGk hFl hqi hexF hexG hF hG hry hy hEX hb9 HBY HFK HFL HQI HC0 HC1 HO1 HN1 HR0 HR1 HX0 HX1
   go_wp2
   refine wp_loop (OMaI m i K (.slice lo n lc) (.slice po m pc) (.slice (some ⟨gr,ofr,none⟩) n ec) (.slice mo ml mc) (.slice (some ⟨g,0,none⟩) n yc) F G V2) (fun a _=>((m:Int) - intOf (a.tmps.getD 15 undef)).toNat) ?_ ?_
   ·exact⟨0,by omega,rfl,⟨rfl,rfl,rfl,rfl,rfl,rfl,rfl,rfl,rfl,rfl⟩,Turn.refl _ _⟩
   rintro⟨t,_⟩ V ⟨k,hk,hds,⟨hsz,f0,f1,f8,f9,f11,f12,f13,f14,f15⟩,hEV⟩
   subst hds
   obtain⟨u',hu⟩:=frame_fun hsz
   obtain⟨u,rfl⟩:∃ x,x=u':=⟨_,rfl⟩
   have hu':t=#[u 0,u 1,u 2,u 3,u 4,u 5,u 6,u 7,u 8,u 9,u 10,u 11,u 12,u 13,u 14,u 15,u 16,u 17,u 18,u 19,u 20,u 21,u 22,u 23,u 24,u 25,u 26,u 27,u 28,u 29,u 30,u 31,u 32,u 33,u 34,u 35,u 36,u 37,u 38,u 39,u 40,u 41,u 42,u 43,u 44,u 45,u 46,u 47,u 48,u 49,u 50,u 51,u 52,u 53,u 54,u 55,u 56,u 57,u 58,u 59,u 60,u 61,u 62,u 63,u 64,u 65,u 66,u 67,u 68,u 69,u 70,u 71,u 72,u 73,u 74,u 75,u 76,u 77,u 78,u 79,u 80,u 81,u 82,u 83,u 84,u 85,u 86,u 87,u 88,u 89,u 90,u 91,u 92,u 93,u 94,u 95,u 96,u 97,u 98,u 99,u 100,u 101,u 102,u 103,u 104,u 105,u 106,u 107,u 108,u 109,u 110,u 111,u 112,u 113,u 114,u 115,u 116,u 117,u 118,u 119,u 120,u 121,u 122,u 123,u 124,u 125,u 126,u 127,u 128,u 129]:=hu
   clear hu
   subst hu'
   change u 0=_ at f0
   change u 1=_ at f1
   change u 8=_ at f8
   change u 9=_ at f9
   change u 11=_ at f11
   change u 12=_ at f12
   change u 13=_ at f13
   change u 14=_ at f14
   change u 15=_ at f15
   rw [f0,f1,f8,f9,f11,f12,f13,f14,f15]
   clear f0 f1 f8 f9 f11 f12 f13 f14 f15 hsz
   have HEV:=Lib.hid hEV
   clear hEV
   by_cases hkm:k<m
   case pos=>
    have hk1:(k:Int)<(m:Int):=by omega
    have hk0:(0:Int)≤(k:Int):=by omega
    have hkq:k<qs.length:=by rw [HM.out];exact hkm
    have hwk:IntKind.i64.wrap ((k:Int)+1)=(k:Int)+1:=IntWalk.i64_in _ (by omega)
    have hsu:=exUp_succ F G k
    have hfk:=HFK2.out k hkq
    have hgk:=HGK.out k hkq
    rw [hfk,hgk] at hsu
    obtain⟨T0,hT0⟩:∃ b,exUp F G k=b:=⟨_,rfl⟩
    rw [hT0] at hsu ⊢
    obtain⟨so,sc,hse,hsp⟩:=pairs_one (pairs_ext HPQ.out (HB9.out.trans HEV.out)) HM.out hkm hpc
    have hk11:((k:Int)+1)=((k+1:Nat):Int):=by omega
    have s1:=fun D=>slice_lh (P:=Tryz.prog) (t:=61) (size:=2) (A:=po) (n:=m) (c:=pc) (by kernel_rfl) (fun D=>by rfl) k (k+1) (by omega) (by omega) D
    rw [hse,← hk11] at s1
    have hcF:=fun(D:World) (hD:Ext V D)=>HEF.out D (HEV.out.trans hD) so sc _ (pairs_ext hsp hD)
    have hcG:=fun(D:World) (hD:Ext V D)=>HEG.out D (HEV.out.trans hD) so sc _ (pairs_ext hsp hD)
    simp only [HCB.out] at hcF hcG
    obtain⟨b1,hb1⟩:∃ b,explR ps ol qs[k].1.1 qs[k].1.2=b:=⟨_,rfl⟩
    obtain⟨b2,hb2⟩:∃ b,explR ps (swapN ol i) qs[k].1.1 qs[k].1.2=b:=⟨_,rfl⟩
    rw [hb1,hb2] at hsu
    simp only [hb1] at hcF
    simp only [hb2] at hcG
    obtain⟨y1,hy1⟩:∃ y,byI ps ol [qs[k]]=y:=⟨_,rfl⟩
    obtain⟨y2,hy2⟩:∃ y,byI ps (swapN ol i) [qs[k]]=y:=⟨_,rfl⟩
    simp only [hy1] at hcF
    simp only [hy2] at hcG
    have HSU2:=Lib.hid hsu;have HCF:=Lib.hid hcF;have HCG:=Lib.hid hcG
    clear hsu hcF hcG hb1 hb2 hy1 hy2 hfk hgk hT0 hsp hse hk11 HEF HEG HFK2 HGK HFL2 HQ HRD HLT HATI HAT HSL HRM
    cases T0 <;> cases b1 <;> cases b2
    all_goals
     have hs:=HSU2.out
     have hcF:=HCF.out
     have hcG:=HCG.out
     simp only [Bool.and_true,Bool.and_false,Bool.not_true,Bool.not_false,Bool.or_false,Bool.or_true] at hs
     simp only [if_true,Bool.false_eq_true,if_false] at hcF hcG
     have HS2:=Lib.hid hs;have HCF2:=Lib.hid hcF;have HCG2:=Lib.hid hcG
     clear hs hcF hcG HSU2 HCF HCG
     go_wp2_with fail
     refine(HCF2.out V (Turn.refl _ V)).mono ?_
     rintro e V3 ⟨rfl,hE3⟩
     have HE9:=Lib.hid hE3
     clear hE3 HCF2
     go_wp2_with fail
     refine(HCG2.out V3 HE9.out).mono ?_
     rintro e V4 ⟨rfl,hE4⟩
     have HE8:=Lib.hid (HEV.out.trans (HE9.out.trans hE4))
     clear hE4 HCG2 HE9 s1
     go_wp2
     exact⟨⟨k+1,by omega,by first | rfl | trivial,⟨rfl,rfl,rfl,rfl,rfl,rfl,rfl,rfl,by rw [HS2.out];rfl,rfl⟩,HE8.out⟩,by first | (simp [intOf];done) | (simp [intOf];omega)⟩
   obtain rfl:k=m:=by omega
   have hk1:¬ (k:Int)<(k:Int):=by omega
   rw [exUp_all HFL2.out,← HQ.out]
   have hsl:=HSL.out
   have hat:=HATI.out hiN
   obtain⟨T0,hT0⟩:∃ b,Q i=b:=⟨_,rfl⟩
   rw [hT0] at hsl hat ⊢
   have HSL2:=Lib.hid hsl;have HAT2:=Lib.hid hat;have HE5:=Lib.hid (HEW.out.trans (HEX2.out.trans HEV.out))
   clear hsl hat hT0 HEF HEG HFK2 HGK HFL2 HQ HSL HATI HEX2 HEV HAT
   cases T0 with
   | false=>
    have h3:=HSL2.out
    rw [if_neg (by decide),Nat.add_zero] at h3
    have H3:=Lib.hid h3
    clear h3 HSL2 HAT2
    go_wp2
    exact⟨⟨i+1,by omega,by first | rfl | trivial,⟨rfl,rfl,rfl,rfl,rfl,by dsimp only;rw [H3.out];rfl,rfl⟩,HE5.out⟩,by first | (simp [intOf];done) | (simp [intOf];omega)⟩
   | true=>
    have h3:=HSL2.out
    rw [if_pos (by first | trivial | rfl)] at h3
    have hat:=HAT2.out (by first | trivial | rfl)
    have hKM:K<M.length:=(List.getElem?_eq_some_iff.1 hat).1
    rw [HML.out] at hKM
    have hrm:=HRM.out.ext HE5.out
    rw [HML.out] at hrm
    obtain⟨gm,ofm,cm,hqm,_,hcm⟩:=rd_at_1 hrm hKM
    simp only [Value.slice.injEq] at hqm
    obtain⟨rfl,zm,rfl⟩:=hqm
    have hnv:(natV M).getD K undef=.int .i64 (i:Int):=by unfold natV;rw [List.getD_eq_getElem?_getD,List.getElem?_map,hat];rfl
    rw [hnv] at hcm
    have g1:¬ (K:Int)≥(ml:Int):=by omega
    have g2:(K:Int)<(ml:Int):=by omega
    have g0:(0:Int)≤(K:Int):=by omega
    have H3:=Lib.hid h3
    clear h3 HSL2 HAT2 hat hnv zm hrm HRM
    go_wp2
    exact⟨⟨i+1,by omega,by first | rfl | trivial,⟨rfl,rfl,rfl,rfl,rfl,by dsimp only;rw [H3.out];rfl,rfl⟩,HE5.out⟩,by first | (simp [intOf];done) | (simp [intOf];omega)⟩
theorem omatters_int{w:World}{ps:LawsL}{qs:PairsL}{lo:Option Addr}{n lc:Nat}{po:Option Addr}{m pc:Nat}(hl:LawsAt w (.slice lo n lc) ps) (hn:ps.length=n) (hp:PairsAt w (.slice po m pc) qs) (hm:qs.length=m) (hpc:m≤pc) (x:Int) (h0:0≤x) (h1:x<256) (hT:Tab w) :
  Calls Tryz.prog 10 #[.slice lo n lc,.slice po m pc,.int .u8 x] w fun e w'=>e=.returned (.bool true)∧Ext w w':=by
 obtain⟨k,rfl⟩:=Int.eq_ofNat_of_zero_le h0
 exact omatters_law hl hn hp hm hpc k (by omega) hT
end Go.Proofs.YtfdlhlghcbeblaaGreatDoor
namespace Go.Ab
open Go.RowKit Go.ChangeShapes Go.WideShapes
section
variable {H:Type} {enc:TypeId × Value→H} {P:Program} {w:World} {base b0:Nat} {held:Bool} {r:Reach} {t e q:TypeId} {k:IntKind} {v:Value} {d:DataW H} {ps:List MemPlace}
def intsK(k:IntKind)(l:List Int):List Value:=l.map (Value.int k)
def prsK(k:IntKind)(l:List (Int × Int)):List Value:=l.flatMap fun p=>[Value.int k p.1,Value.int k p.2]
theorem cell_lt{w:World}{p:Addr}{v:Value}(h:w.cell? p=some v):p.block<w.heap.size:=by
 apply Nat.lt_of_not_le;intro hle
 simp [World.cell?,Array.getElem?_eq_none hle] at h
end
end Go.Ab
set_option maxRecDepth 100000
namespace Go.Proofs.YtfdlhlghcbeblaaGreatDoor
open Go.RowKit Go.Ab Go.ChangeShapes Go.WideShapes
section
variable {H:Type} {enc:TypeId × Value→H} {w:World} {base b0:Nat} {held:Bool} {r:Reach} {v:Value} {d:DataW H} {ps:List MemPlace} {spare:Nat→Bool}
theorem cellsOf_snd:Tryz.prog.cellsOf 95=2:=by kernel_rfl
theorem cellsOf_pat:Tryz.prog.cellsOf 98=7:=by kernel_rfl
theorem cellsOf_u32:Tryz.prog.cellsOf 93=1:=by kernel_rfl
theorem cellsOf_int:Tryz.prog.cellsOf 3=1:=by kernel_rfl
theorem cellsOf_bool:Tryz.prog.cellsOf 4=1:=by kernel_rfl
theorem cellsOf_pats:Tryz.prog.cellsOf 96=1:=by kernel_rfl
theorem nat_u32{n:Int}(h:(Lit.int .u32 n).wf=true):∃ m:Nat,n=m∧m<4294967296:=by
 have:=bounds_u32 h
 exact⟨n.toNat,by omega,by omega⟩
theorem trod_snd{fuel:Nat}{cs:List Value}{x:DataW H × List MemPlace}(h:DataW.trod enc Tryz.prog w base spare held fuel 95 cs=some x) :
  ∃ a b:Nat,cs=[.int .u32 (a:Int),.int .u32 (b:Int)]∧a<4294967296∧b<4294967296:=by
 obtain⟨y0,y1,n,_,hl,h0,h1⟩:=trod_struct2 Tryz.underlying95 h
 rw [cellsOf_snd] at hl
 match cs,hl with
 | [c0,c1],_=>
  simp only [cellsOf_u32] at h0 h1
  obtain⟨m0,e0,_,w0⟩:=DataW.trod_int Tryz.underlying93 h0
  obtain⟨m1,e1,_,w1⟩:=DataW.trod_int Tryz.underlying93 h1
  simp at e0 e1
  obtain⟨a,rfl,ha⟩:=nat_u32 w0
  obtain⟨b,rfl,hb⟩:=nat_u32 w1
  exact⟨a,b,by rw [e0,e1],ha,hb⟩
theorem cells_range{a:Addr}{n:Nat}{cs:List Value}(hn:0<n)(h:w.cells? base a n=some cs):a.spot=none∧a.block<w.heap.size∧cs.length=n∧w.rangeAt a.block a.off cs:=by
 obtain⟨_,hl,hx⟩:=World.cells?_some h
 have h0:=hx 0 hn
 rw [List.getElem?_eq_getElem (by omega)] at h0
 have hs:a.spot=none:=World.cell?_spot (by simpa [Addr.add] using h0)
 have hb:a.block<w.heap.size:=by simpa [Addr.add] using cell_lt h0
 refine⟨hs,hb,hl,fun j u hj=>?_⟩
 have hlt:=(List.getElem?_eq_some_iff.1 hj).1
 have:=hx j (by omega)
 rw [hj] at this
 have e:a.add j=⟨a.block,a.off+j,none⟩:=by
  obtain⟨b,o,s⟩:=a
  simp only at hs
  subst hs
  exact add_plain _ _ _
 rw [← e];exact this
instance:Inhabited Pat:=⟨.node 0 0 0 false 0 0 []⟩
theorem trod_pat:∀(fuel:Nat) {cs:List Value} {x:DataW H × List MemPlace},DataW.trod enc Tryz.prog w base (fun _=>true) held fuel 98 cs=some x →
  ∃ p:Pat,PatAt (fun g=>g<w.heap.size) w p cs:=by
 intro fuel
 induction fuel with
 | zero=>intro cs x h;simp [DataW.trod] at h
 | succ n ih=>
  intro cs x h
  obtain⟨xs,n',hn,_,hl,hxl,hf⟩:=DataW.trod_struct Tryz.underlying98 h
  obtain rfl:n=n':=by omega
  rw [cellsOf_pat] at hl
  have hxl:xs.length=6:=hxl
  match xs,hxl with
  | [y0,y1,y2,y3,y4,y5],_=>
  have h0:DataW.trod enc Tryz.prog w base (fun _=>true) held n 3 ((cs.drop 0).take (Tryz.prog.cellsOf 3))=some y0:=hf 0 _ rfl
  have h1:DataW.trod enc Tryz.prog w base (fun _=>true) held n 95 ((cs.drop 1).take (Tryz.prog.cellsOf 95))=some y1:=hf 1 _ rfl
  have h2:DataW.trod enc Tryz.prog w base (fun _=>true) held n 4 ((cs.drop 3).take (Tryz.prog.cellsOf 4))=some y2:=hf 2 _ rfl
  have h3:DataW.trod enc Tryz.prog w base (fun _=>true) held n 3 ((cs.drop 4).take (Tryz.prog.cellsOf 3))=some y3:=hf 3 _ rfl
  have h4:DataW.trod enc Tryz.prog w base (fun _=>true) held n 3 ((cs.drop 5).take (Tryz.prog.cellsOf 3))=some y4:=hf 4 _ rfl
  have h5:DataW.trod enc Tryz.prog w base (fun _=>true) held n 96 ((cs.drop 6).take (Tryz.prog.cellsOf 96))=some y5:=hf 5 _ rfl
  rw [cellsOf_int] at h0 h3 h4
  rw [cellsOf_bool] at h2
  rw [cellsOf_snd] at h1
  rw [cellsOf_pats] at h5
  match cs,hl with
  | [c0,c1,c2,c3,c4,c5,c6],_=>
  obtain⟨k,e0,_,_⟩:=DataW.trod_int Tryz.underlying3 h0
  obtain⟨a,b,e1,ha,hb⟩:=trod_snd h1
  obtain⟨nt,e2,_⟩:=DataW.trod_bool Tryz.underlying4 h2
  obtain⟨mn,e3,_,_⟩:=DataW.trod_int Tryz.underlying3 h3
  obtain⟨mx,e4,_,_⟩:=DataW.trod_int Tryz.underlying3 h4
  simp at e0 e1 e2 e3 e4
  obtain⟨e1,e1'⟩:=e1
  subst e0 e1 e1' e2 e3 e4
  rcases DataW.trod_slice Tryz.underlying96 h5 with ⟨h,_⟩ | ⟨A,len,cap,elems,rest,n2,hn2,h,_,_,hlc,hcm,hel,hx,_,_⟩
  ·simp at h
   subst h
   refine⟨.node k a b nt mn mx [],?_⟩
   unfold PatAt
   exact⟨none,0,rfl,ha,hb,by simp,by simp [maxLen],by unfold PatsAt;trivial⟩
  ·simp at h
   subst h
   rw [cellsOf_pat] at hx
   have hsp:0<len→A.spot=none:=by
    intro h0
    have key:=hx 0 h0
    rw [List.getElem?_eq_getElem (by omega)] at key
    obtain⟨cs',k1,k2⟩:=Option.bind_eq_some_iff.1 key
    obtain⟨s1,_⟩:=cells_range (by decide) k1
    simpa [Addr.add] using s1
   have each:∀ i,i<len→∃ p:Pat × List Value,A.spot=none∧A.block<w.heap.size∧w.rangeAt A.block (A.off+i*7) p.2∧PatAt (fun g=>g<w.heap.size) w p.1 p.2:=by
    intro i hi
    have key:=hx i hi
    rw [List.getElem?_eq_getElem (by omega)] at key
    obtain⟨cs',k1,k2⟩:=Option.bind_eq_some_iff.1 key
    obtain⟨s1,s2,s3,s4⟩:=cells_range (by decide) k1
    have k3:=DataW.trod_le (show n2≤n by omega) k2
    obtain⟨p,hp⟩:=ih k3
    have hs:=hsp (by omega)
    have e:A.add (i*7)=⟨A.block,A.off+i*7,none⟩:=by
     obtain⟨b,o,s⟩:=A
     simp only at hs
     subst hs
     exact add_plain _ _ _
    rw [e] at s2 s4
    exact⟨(p,cs'),hs,s2,s4,hp⟩
   obtain⟨f,hfp⟩:=Deep.choose_lt each
   refine⟨.node k a b nt mn mx ((List.range len).map fun i=>(f i).1),?_⟩
   unfold PatAt
   refine⟨some A,cap,by simp [patCells],ha,hb,by simpa using hlc,hcm,PatsAt.mk fun j hj=>?_⟩
   have hj':j<len:=by simpa using hj
   obtain⟨q1,q2,q3,q4⟩:=hfp j hj'
   refine⟨A.block,A.off,(f j).2,?_,q2,q2,by rw [Nat.zero_add];exact q3,by simpa using q4⟩
   obtain⟨b,o,s⟩:=A
   simp only at q1
   subst q1;rfl
end
end Go.Proofs.YtfdlhlghcbeblaaGreatDoor
namespace Go.Ab
open Go.RowKit
def IfCap(l:LawD)(cs:List Value):Prop:=∃(io:Option Addr) (ic:Nat),cs[15]?=some (.slice io l.ifs.length ic)∧l.ifs.length≤ic
end Go.Ab
set_option maxRecDepth 100000
namespace Go.Proofs.YtfdlhlghcbeblaaGreatDoor
open Go.RowKit Go.Ab Go.ChangeShapes Go.WideShapes
theorem flat_len(f:Nat→List Value)(sz:Nat):∀ n,(∀ i,i<n→(f i).length=sz)→((List.range n).flatMap f).length=n*sz
 | 0,_=>by simp
 | n+1,h=>by
  rw [List.range_succ,List.flatMap_append,List.length_append,flat_len f sz n fun i hi=>h i (by omega)]
  simp only [List.flatMap_cons,List.flatMap_nil,List.append_nil]
  rw [h n (by omega),Nat.add_mul,Nat.one_mul]
theorem flat_get(f:Nat→List Value)(sz:Nat):∀ n,(∀ i,i<n→(f i).length=sz)→∀ i r,i<n→r<sz→((List.range n).flatMap f)[i*sz+r]?=(f i)[r]?
 | 0,_,i,r,h,_=>by omega
 | n+1,h,i,r,hi,hr=>by
  have hl:=flat_len f sz n fun i hi=>h i (by omega)
  rw [List.range_succ,List.flatMap_append]
  by_cases hin:i<n
  ·have:i*sz+r<n*sz:=by
    have:=Nat.mul_le_mul_right sz (show i+1≤n by omega)
    rw [Nat.add_mul,Nat.one_mul] at this
    omega
   rw [List.getElem?_append_left (by rw [hl];exact this)]
   exact flat_get f sz n (fun i hi=>h i (by omega)) i r hin hr
  ·obtain rfl:i=n:=by omega
   rw [List.getElem?_append_right (by rw [hl];omega),hl,show i*sz+r - i*sz=r by omega]
   simp
theorem rd_rows{w:World}{g off len cap sz:Nat}(f:Nat→List Value)(hsz:0<sz)(hf:∀ i,i<len→(f i).length=sz∧w.rangeAt g (off+i*sz) (f i)) (hg:0<len→g<w.heap.size) (hl:len≤maxLen) :
  Rd w (.slice (some ⟨g,off,none⟩) len cap) len sz ((List.range len).flatMap f):=by
 have hlen:=flat_len f sz len fun i hi=>(hf i hi).1
 refine⟨hlen,hl,_,_,rfl,fun h0=>⟨g,off,rfl,hg h0,fun j hj=>?_⟩⟩
 have hi:j / sz<len:=(Nat.div_lt_iff_lt_mul hsz).2 hj
 have hr:j % sz<sz:=Nat.mod_lt _ hsz
 have he:j / sz*sz+j % sz=j:=by rw [Nat.mul_comm];exact Nat.div_add_mod j sz
 have h1:=flat_get f sz len (fun i hi=>(hf i hi).1) (j / sz) (j % sz) hi hr
 rw [he] at h1
 have h2:=(hf _ hi).2 (j % sz) _ (List.getElem?_eq_getElem (by rw [(hf _ hi).1];exact hr))
 rw [Nat.add_assoc,he] at h2
 rw [h2,List.getD_eq_getElem?_getD,h1,List.getElem?_eq_getElem (by rw [(hf _ hi).1];exact hr)]
 rfl
section
variable {H:Type} {enc:TypeId × Value→H} {w:World} {base b0:Nat} {held:Bool} {r:Reach} {v:Value} {d:DataW H} {ps:List MemPlace}
theorem cellsOf_out:Tryz.prog.cellsOf 109=6:=by kernel_rfl
theorem cellsOf_law:Tryz.prog.cellsOf 102=18:=by kernel_rfl
theorem cellsOf_outs:Tryz.prog.cellsOf 100=1:=by kernel_rfl
theorem cellsOf_word:Tryz.prog.cellsOf 99=1:=by kernel_rfl
theorem cellsOf_str:Tryz.prog.cellsOf 9=1:=by kernel_rfl
theorem trod_rowsc{α:Type} [Inhabited α] {t e:TypeId} {sz fuel:Nat} {c:Value} {x:DataW H × List MemPlace} (ht:Tryz.prog.underlying t=some (.slice e)) (hsz:Tryz.prog.cellsOf e=sz) (h0:0<sz) (cells:α→List Value) (ok:α→Prop)
  (hrow:∀ {n cs y},DataW.trod enc Tryz.prog w base (fun _=>true) held n e cs=some y→∃ p:α,cs=cells p∧ok p)
  (h:DataW.trod enc Tryz.prog w base (fun _=>true) held fuel t [c]=some x):∃ l:List α,Rd w c l.length sz (l.flatMap cells)∧(∀ p∈l,ok p)∧∃ vo vc,c=.slice vo l.length vc∧l.length≤vc:=by
 rcases DataW.trod_slice ht h with ⟨h,_⟩ | ⟨A,len,cap,elems,rest,n2,hn2,h,_,_,hlc,hcm,hel,hx,_,_⟩
 ·simp at h
  subst h
  exact⟨[],⟨by simp,by simp [maxLen],none,0,rfl,fun h=>by simp at h⟩,fun p hp=>by simp at hp,none,0,rfl,Nat.le_refl _⟩
 ·simp at h
  subst h
  rw [hsz] at hx
  have hsp:0<len→A.spot=none:=by
   intro hl
   have key:=hx 0 hl
   rw [List.getElem?_eq_getElem (by omega)] at key
   obtain⟨cs',k1,k2⟩:=Option.bind_eq_some_iff.1 key
   obtain⟨s1,_⟩:=cells_range h0 k1
   simpa [Addr.add] using s1
  have each:∀ i,i<len→∃ p:α,A.spot=none∧A.block<w.heap.size∧(cells p).length=sz∧w.rangeAt A.block (A.off+i*sz) (cells p)∧ok p:=by
   intro i hi
   have key:=hx i hi
   rw [List.getElem?_eq_getElem (by omega)] at key
   obtain⟨cs',k1,k2⟩:=Option.bind_eq_some_iff.1 key
   obtain⟨s1,s2,s3,s4⟩:=cells_range h0 k1
   obtain⟨p,rfl,hp⟩:=hrow k2
   have hs:=hsp (by omega)
   have e:A.add (i*sz)=⟨A.block,A.off+i*sz,none⟩:=by
    obtain⟨b,o,s⟩:=A
    simp only at hs
    subst hs
    exact add_plain _ _ _
   rw [e] at s2 s4
   exact⟨p,hs,s2,s3,s4,hp⟩
  obtain⟨f,hfp⟩:=Deep.choose_lt each
  have hlen:len≤maxLen:=Nat.le_trans hlc hcm
  refine⟨(List.range len).map f,?_,fun p hp=>?_,some A,cap,by rw [List.length_map,List.length_range],by rw [List.length_map,List.length_range];exact hlc⟩
  ·rw [List.length_map,List.length_range,List.flatMap_map]
   by_cases hl:0<len
   ·have hs:=(hfp 0 hl).1
    have e:A=⟨A.block,A.off,none⟩:=by obtain⟨b,o,s⟩:=A;simp only at hs;subst hs;rfl
    rw [e]
    exact rd_rows (fun i=>cells (f i)) h0 (fun i hi=>⟨(hfp i hi).2.2.1,(hfp i hi).2.2.2.1⟩) (fun _=>(hfp 0 hl).2.1) hlen
   ·obtain rfl:len=0:=by omega
    exact⟨by simp,hlen,some A,cap,rfl,fun h=>by omega⟩
  ·obtain⟨i,hi,rfl⟩:=List.mem_map.1 hp
   exact(hfp i (List.mem_range.1 hi)).2.2.2.2
theorem trod_rows{α:Type} [Inhabited α] {t e:TypeId} {sz fuel:Nat} {c:Value} {x:DataW H × List MemPlace} (ht:Tryz.prog.underlying t=some (.slice e)) (hsz:Tryz.prog.cellsOf e=sz) (h0:0<sz) (cells:α→List Value) (ok:α→Prop)
  (hrow:∀ {n cs y},DataW.trod enc Tryz.prog w base (fun _=>true) held n e cs=some y→∃ p:α,cs=cells p∧ok p)
  (h:DataW.trod enc Tryz.prog w base (fun _=>true) held fuel t [c]=some x):∃ l:List α,Rd w c l.length sz (l.flatMap cells)∧∀ p∈l,ok p:=by
 obtain⟨l,h1,h2,_⟩:=trod_rowsc ht hsz h0 cells ok hrow h
 exact⟨l,h1,h2⟩
theorem trod_wordc{fuel:Nat}{c:Value}{x:DataW H × List MemPlace}(h:DataW.trod enc Tryz.prog w base (fun _=>true) held fuel 99 [c]=some x):∃(ws:Wd) (vo:Option Addr) (vc:Nat),c=.slice vo ws.length vc∧WordAt w (.slice vo ws.length vc) ws∧ws.length≤vc:=by
 obtain⟨l,h1,h2,vo,vc,h3,h4⟩:=trod_rowsc (α:=Nat × Nat) Tryz.underlying99 cellsOf_snd (by decide) (fun s=>[Value.int .u32 (s.1:Int),Value.int .u32 (s.2:Int)]) (fun s=>s.1<4294967296∧s.2<4294967296)
  (fun h=>by obtain⟨a,b,q,ha,hb⟩:=trod_snd h;exact⟨(a,b),q,ha,hb⟩) h
 subst h3
 exact⟨l,vo,vc,rfl,⟨h1,h2⟩,h4⟩
instance:Inhabited OutD:=⟨⟨0,0,(0,0),0,0⟩⟩
theorem trod_out{fuel:Nat}{cs:List Value}{x:DataW H × List MemPlace}(h:DataW.trod enc Tryz.prog w base (fun _=>true) held fuel 109 cs=some x):∃ o:OutD,cs=outCells o∧OutOk o:=by
 obtain⟨xs,n,rfl,_,hl,hxl,hf⟩:=DataW.trod_struct Tryz.underlying109 h
 rw [cellsOf_out] at hl
 have hxl:xs.length=5:=hxl
 match xs,hxl with
 | [y0,y1,y2,y3,y4],_=>
 have h0:DataW.trod enc Tryz.prog w base (fun _=>true) held n 3 ((cs.drop 0).take (Tryz.prog.cellsOf 3))=some y0:=hf 0 _ rfl
 have h1:DataW.trod enc Tryz.prog w base (fun _=>true) held n 93 ((cs.drop 1).take (Tryz.prog.cellsOf 93))=some y1:=hf 1 _ rfl
 have h2:DataW.trod enc Tryz.prog w base (fun _=>true) held n 95 ((cs.drop 2).take (Tryz.prog.cellsOf 95))=some y2:=hf 2 _ rfl
 have h3:DataW.trod enc Tryz.prog w base (fun _=>true) held n 93 ((cs.drop 4).take (Tryz.prog.cellsOf 93))=some y3:=hf 3 _ rfl
 have h4:DataW.trod enc Tryz.prog w base (fun _=>true) held n 3 ((cs.drop 5).take (Tryz.prog.cellsOf 3))=some y4:=hf 4 _ rfl
 rw [cellsOf_int] at h0 h4
 rw [cellsOf_u32] at h1 h3
 rw [cellsOf_snd] at h2
 match cs,hl with
 | [c0,c1,c2,c3,c4,c5],_=>
 obtain⟨k,e0,_,_⟩:=DataW.trod_int Tryz.underlying3 h0
 obtain⟨m1,e1,_,w1⟩:=DataW.trod_int Tryz.underlying93 h1
 obtain⟨a,b,e2,ha,hb⟩:=trod_snd h2
 obtain⟨m3,e3,_,w3⟩:=DataW.trod_int Tryz.underlying93 h3
 obtain⟨m4,e4,_,_⟩:=DataW.trod_int Tryz.underlying3 h4
 obtain⟨cl,rfl,hcl⟩:=nat_u32 w1
 obtain⟨tk,rfl,htk⟩:=nat_u32 w3
 simp at e0 e1 e2 e3 e4
 obtain⟨e2,e2'⟩:=e2
 subst e0 e1 e2 e2' e3 e4
 exact⟨⟨k,cl,(a,b),tk,m4⟩,rfl,hcl,⟨ha,hb⟩,htk⟩
end
end Go.Proofs.YtfdlhlghcbeblaaGreatDoor
set_option maxRecDepth 100000
namespace Go.Proofs.YtfdlhlghcbeblaaGreatDoor
open Go.RowKit Go.Ab Go.ChangeShapes Go.WideShapes
section
variable {H:Type} {enc:TypeId × Value→H} {w:World} {base b0:Nat} {held:Bool} {r:Reach} {v:Value} {d:DataW H} {ps:List MemPlace}
theorem trod_law{fuel:Nat}{cs:List Value}{x:DataW H × List MemPlace}(hf:DataW.trod enc Tryz.prog w base (fun _=>true) held fuel 102 cs=some x):∃ p:LawD × List Value,cs=p.2∧LawAt w p.1 p.2:=by
 obtain⟨xs,n,rfl,_,hl,hxl,hf⟩:=DataW.trod_struct Tryz.underlying102 hf
 rw [cellsOf_law] at hl
 have hxl:xs.length=6:=hxl
 match xs,hxl with
 | [y0,y1,y2,y3,y4,y5],_=>
 have h0:DataW.trod enc Tryz.prog w base (fun _=>true) held n 9 ((cs.drop 0).take (Tryz.prog.cellsOf 9))=some y0:=hf 0 _ rfl
 have h1:DataW.trod enc Tryz.prog w base (fun _=>true) held n 98 ((cs.drop 1).take (Tryz.prog.cellsOf 98))=some y1:=hf 1 _ rfl
 have h2:DataW.trod enc Tryz.prog w base (fun _=>true) held n 98 ((cs.drop 8).take (Tryz.prog.cellsOf 98))=some y2:=hf 2 _ rfl
 have h3:DataW.trod enc Tryz.prog w base (fun _=>true) held n 99 ((cs.drop 15).take (Tryz.prog.cellsOf 99))=some y3:=hf 3 _ rfl
 have h4:DataW.trod enc Tryz.prog w base (fun _=>true) held n 100 ((cs.drop 16).take (Tryz.prog.cellsOf 100))=some y4:=hf 4 _ rfl
 have h5:DataW.trod enc Tryz.prog w base (fun _=>true) held n 3 ((cs.drop 17).take (Tryz.prog.cellsOf 3))=some y5:=hf 5 _ rfl
 rw [cellsOf_str] at h0
 rw [cellsOf_pat] at h1 h2
 rw [cellsOf_word] at h3
 rw [cellsOf_outs] at h4
 rw [cellsOf_int] at h5
 match cs,hl with
 | [c0,c1,c2,c3,c4,c5,c6,c7,c8,c9,c10,c11,c12,c13,c14,c15,c16,c17],_=>
 obtain⟨s,e0,_,hsz⟩:=DataW.trod_string Tryz.underlying9 h0
 obtain⟨left,hleft⟩:=trod_pat n h1
 obtain⟨right,hright⟩:=trod_pat n h2
 obtain⟨ws,vo,vc,rfl,hws,hcap⟩:=trod_wordc (c:=c15) h3
 obtain⟨outs,ho1,ho2⟩:=trod_rows (c:=c16) Tryz.underlying100 cellsOf_out (by decide) outCells OutOk (fun h=>trod_out h) h4
 obtain⟨mode,e5,_,_⟩:=DataW.trod_int Tryz.underlying3 h5
 simp at e0 e5
 subst e0 e5
 exact⟨(⟨s,left,right,ws,outs,mode⟩,_),rfl,⟨[c1,c2,c3,c4,c5,c6,c7],[c8,c9,c10,c11,c12,c13,c14],_,c16,rfl,hsz,hleft,hright,hws,ho1,ho2⟩⟩
instance:Inhabited LawD:=⟨⟨⟨#[]⟩,.node 0 0 0 false 0 0 [],.node 0 0 0 false 0 0 [],[],[],0⟩⟩
theorem open_laws(hval:Value.okWide Tryz.prog w r b0 26 v)(hd:DataW.Trod enc Tryz.prog w base (fun _=>true) held 26 v d ps):∃(ls:LawsL) (vo:Option Addr) (vc:Nat),v=.slice vo ls.length vc∧LawsAt w (.slice vo ls.length vc) ls∧ls.length≤vc:=by
 obtain⟨ao,len,cap,rfl⟩:=okWide_slice Tryz.underlying26 hval
 obtain⟨fuel,hf⟩:=hd
 have hf:DataW.trod enc Tryz.prog w base (fun _=>true) held fuel 26 [.slice ao len cap]=some (d,ps):=by simpa [Value.cells] using hf
 obtain⟨l,h1,h2,vo,vc,h3,h4⟩:=trod_rowsc (α:=LawD × List Value) Tryz.underlying26 cellsOf_law (by decide) (fun p=>p.2) (fun p=>LawAt w p.1 p.2) (fun h=>trod_law h) hf
 rw [h3] at h1
 exact⟨l,vo,vc,h3,⟨h1,h2⟩,h4⟩
theorem cellsOf_pair2:Tryz.prog.cellsOf 105=2:=by kernel_rfl
theorem trod_pair{fuel:Nat}{cs:List Value}{x:DataW H × List MemPlace}(hf:DataW.trod enc Tryz.prog w base (fun _=>true) held fuel 105 cs=some x):∃ p:(Wd × Wd) × List Value,cs=p.2∧(p.2.length=2∧PairOk w p.1 p.2):=by
 obtain⟨xs,n,rfl,_,hl,hxl,hf⟩:=DataW.trod_struct Tryz.underlying105 hf
 rw [cellsOf_pair2] at hl
 have hxl:xs.length=2:=hxl
 match xs,hxl with
 | [y0,y1],_=>
 have h0:DataW.trod enc Tryz.prog w base (fun _=>true) held n 99 ((cs.drop 0).take (Tryz.prog.cellsOf 99))=some y0:=hf 0 _ rfl
 have h1:DataW.trod enc Tryz.prog w base (fun _=>true) held n 99 ((cs.drop 1).take (Tryz.prog.cellsOf 99))=some y1:=hf 1 _ rfl
 rw [cellsOf_word] at h0 h1
 match cs,hl with
 | [c0,c1],_=>
 obtain⟨us,uo,uc,rfl,hus,hu⟩:=trod_wordc (c:=c0) h0
 obtain⟨vs,vo,vc,rfl,hvs,hv⟩:=trod_wordc (c:=c1) h1
 exact⟨((us,vs),[.slice uo us.length uc,.slice vo vs.length vc]),rfl,rfl,_,_,rfl,⟨uo,uc,rfl,hus,hu⟩,⟨vo,vc,rfl,hvs,hv⟩⟩
theorem open_prs(hval:Value.okWide Tryz.prog w r b0 61 v)(hd:DataW.Trod enc Tryz.prog w base (fun _=>true) held 61 v d ps):∃(ls:PairsL) (vo:Option Addr) (vc:Nat),v=.slice vo ls.length vc∧PairsAt w (.slice vo ls.length vc) ls∧ls.length≤vc:=by
 obtain⟨ao,len,cap,rfl⟩:=okWide_slice Tryz.underlying61 hval
 obtain⟨fuel,hf⟩:=hd
 have hf:DataW.trod enc Tryz.prog w base (fun _=>true) held fuel 61 [.slice ao len cap]=some (d,ps):=by simpa [Value.cells] using hf
 obtain⟨l,h1,h2,vo,vc,h3,h4⟩:=trod_rowsc (α:=(Wd × Wd) × List Value) Tryz.underlying61 cellsOf_pair2 (by decide) (fun p=>p.2) (fun p=>p.2.length=2∧PairOk w p.1 p.2) (fun h=>trod_pair h) hf
 rw [h3] at h1
 exact⟨l,vo,vc,h3,⟨h1,h2⟩,h4⟩
end
end Go.Proofs.YtfdlhlghcbeblaaGreatDoor
