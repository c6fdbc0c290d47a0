/- order.Explain. order.All. ablautref14.Orders. ablautref14.Orders: one number more. -/
import Derived.Test.YtfdlhlghcbeblaaGreatDoorG38
import Derived.Test.YtfdlhlghcbeblaaGreatDoorG19
import Derived.Test.YtfdlhlghcbeblaaGreatDoorG31
import Derived.Test.YtfdlhlghcbeblaaGreatDoorG33
set_option maxRecDepth 100000
set_option maxHeartbeats 16000000
namespace Go.Proofs.YtfdlhlghcbeblaaGreatDoor
open Go.RowKit Go.Ab
attribute [local go_sem] Oper.semAt_some wide_fn wide_depth
theorem res_c3{fn:Func}{p q r:Tmp}(h:fn.results=#[.cell p 48,.cell q 4,.cell r 40]){tmps:Array Value}{w:World}{b c d:Nat}{ao:Option Addr}{n k:Nat}{y z:Value}
  (hp:tmps.getD p undef=.pointer (some ⟨b,0,none⟩)) (hq:tmps.getD q undef=.pointer (some ⟨c,0,none⟩)) (hr:tmps.getD r undef=.pointer (some ⟨d,0,none⟩))
  (hb:w.heap[b]?=some (.cells #[.slice ao n k] 48 (0,0))) (hc:w.heap[c]?=some (.cells #[y] 4 (0,0))) (hd:w.heap[d]?=some (.cells #[z] 40 (0,0))) :
  (results fn tmps).run Tryz.prog w=.ok (.tuple #[.slice ao n k,y,z]) w:=by
 have c1:=cell_of_one hb
 have c2:=cell_of_one hc
 have c3:=cell_of_one hd
 have hp':tmps[p]?.getD undef=.pointer (some ⟨b,0,none⟩):=by simpa using hp
 have hq':tmps[q]?.getD undef=.pointer (some ⟨c,0,none⟩):=by simpa using hq
 have hr':tmps[r]?.getD undef=.pointer (some ⟨d,0,none⟩):=by simpa using hr
 simp [results,h,hp',hq',hr',asAddr,loadVar,isAgg,run_underlying Tryz.underlying48,run_underlying Tryz.underlying4,run_underlying Tryz.underlying40,go_sem,c1,c2,c3]
def explX(LD:List LawD)(qs:PairsL):List Nat:=if ordE LD (qs.map (·.1))=0 then(explL LD qs LD.length).headD [] else []
def explB(LD:List LawD)(qs:PairsL):Bool:=if ordE LD (qs.map (·.1))=0 then !(explL LD qs LD.length).isEmpty else false
def NoneYet(N:Nat)(w:World)(_:Nat→Prop)(pre:List (List Nat)) (V:World):Prop:=pre=[]∧V.heap[N]?=some (.cells #[.slice none 0 0] 48 (0,0))∧V.heap[N+1]?=some (.cells #[.bool false] 4 (0,0))∧V.heap[N+1+1]?=some (.cells #[.int .i64 0] 40 (0,0))∧Ext w V
def OneNow(N D:Nat)(w:World)(O:Nat→Prop)(pre:List (List Nat)) (V:World):Prop:=∃ x ao c,pre=[x]∧V.heap[N]?=some (.cells #[.slice ao x.length c] 48 (0,0))∧V.heap[N+1]?=some (.cells #[.bool true] 4 (0,0))∧V.heap[N+1+1]?=some (.cells #[.int .i64 0] 40 (0,0))∧V.ownsRow (D+2) 3 1 (.slice ao x.length c) x.length (natV x)∧(∀ g,(Value.slice ao x.length c).ownBlock=some g→¬ O g)∧Ext w V
theorem three_set{w:World}{N:Nat}{u0 v0 x0 u v x:Value}{t1 t2 t3:TypeId}(h0:w.heap[N]?=some (.cells #[u0] t1 (0,0))) (h1:w.heap[N+1]?=some (.cells #[v0] t2 (0,0))) (h2:w.heap[N+1+1]?=some (.cells #[x0] t3 (0,0))) :
  (((w.setCell ⟨N,0,none⟩ u).setCell ⟨N+1,0,none⟩ v).setCell ⟨N+1+1,0,none⟩ x).heap[N]?=some (.cells #[u] t1 (0,0))∧(((w.setCell ⟨N,0,none⟩ u).setCell ⟨N+1,0,none⟩ v).setCell ⟨N+1+1,0,none⟩ x).heap[N+1]?=some (.cells #[v] t2 (0,0)) ∧
   (((w.setCell ⟨N,0,none⟩ u).setCell ⟨N+1,0,none⟩ v).setCell ⟨N+1+1,0,none⟩ x).heap[N+1+1]?=some (.cells #[x] t3 (0,0))∧Turn (fun b=>b=N∨b=N+1∨b=N+1+1) w (((w.setCell ⟨N,0,none⟩ u).setCell ⟨N+1,0,none⟩ v).setCell ⟨N+1+1,0,none⟩ x):=by
 have t1':=Turn.set1 w N 0 u
 have t2':=Turn.set1 (w.setCell ⟨N,0,none⟩ u) (N+1) 0 v
 have t3':=Turn.set1 ((w.setCell ⟨N,0,none⟩ u).setCell ⟨N+1,0,none⟩ v) (N+1+1) 0 x
 have a1:=t1'.heap h1 (by omega)
 have a2:=t2'.heap (t1'.heap h2 (by omega)) (by omega)
 exact⟨t3'.heap (t2'.heap (set_one h0) (by omega)) (by omega),t3'.heap (set_one a1) (by omega),set_one a2,((t1'.mono fun b _ e=>.inl e).trans (t2'.mono fun b _ e=>.inr (.inl e))).trans (t3'.mono fun b _ e=>.inr (.inr e))⟩
theorem explain_any{w:World}{ps:LawsL}{qs:PairsL}{lo:Option Addr}{n lc:Nat}{po:Option Addr}{m pc:Nat}(hl:LawsAt w (.slice lo n lc) ps) (hn:ps.length=n) (hp:PairsAt w (.slice po m pc) qs) (hm:qs.length=m) (hT:Tab w) :
  Calls Tryz.prog 37 #[.slice lo n lc,.slice po m pc] w fun e w'=>∃ ao c,e=.returned (.tuple #[.slice ao (explX (ps.map (·.1)) qs).length c,.bool (explB (ps.map (·.1)) qs),.int .i64 (ordE (ps.map (·.1)) (qs.map (·.1)))])∧Rd w' (.slice ao (explX (ps.map (·.1)) qs).length c) (explX (ps.map (·.1)) qs).length 1 (natV (explX (ps.map (·.1)) qs))∧Ext w w':=by
 have hck:=fun(V:World) (hE:Ext w V)=>ocheck_any (hl.ext hE) hn (pairs_ext hp hE) hm (hT.keep hE id)
 obtain⟨LD,hLD⟩:∃ x,ps.map (·.1)=x:=⟨_,rfl⟩
 have hLn:LD.length=n:=by rw [← hLD,List.length_map,hn]
 have hsix:ordE LD (qs.map (·.1))=0→n≤6∧m≤1000:=fun h=>by have:=ordE_six h;rw [hLn,List.length_map,hm] at this;omega
 have hit:=fun(h:ordE LD (qs.map (·.1))=0) (V:World) (B1 B2:Nat) (hE:Ext w V) (h1:V.heap[B1]?=_) (h2:V.heap[B2]?=_)=>expl_iter hE hl hn (hsix h).1 hp hm (hsix h).2 hT h1 h2
 rw [hLD]
 simp only [hLD] at hck hit
 obtain⟨X,hX⟩:∃ x,explX LD qs=x:=⟨_,rfl⟩
 obtain⟨B,hB⟩:∃ x,explB LD qs=x:=⟨_,rfl⟩
 rw [hX,hB]
 unfold explX at hX
 unfold explB at hB
 rw [hLn] at hX hB
 obtain⟨L,hL⟩:∃ x,explL LD qs n=x:=⟨_,rfl⟩
 obtain⟨E,hE0⟩:∃ x,ordE LD (qs.map (·.1))=x:=⟨_,rfl⟩
 rw [hL,hE0] at hX hB
 rw [hE0] at hit ⊢
 simp only [hL] at hit
 simp only [hE0] at hck
 have HCK:=Lib.hid hck;have HIT:=Lib.hid hit;have HX:=Lib.hid hX;have HB:=Lib.hid hB
 clear hck hit hX hB hL hE0 hsix hLD hLn hl hn hp hm hT
 refine calls_of_wp_marks Tryz.func37 rfl ?_
 simp only [Tryz.ntmps37,List.size_toArray,List.length_cons,List.length_nil,Nat.reduceAdd,Nat.reduceSub,Array.replicate_succ,Array.replicate_zero,List.push_toArray,List.append_toArray,List.nil_append,List.cons_append]
 go_upto_region 1 with (fail)
 obtain⟨N,hN⟩:∃ N,w.heap.size=N:=⟨_,rfl⟩
 obtain⟨w1,hw1⟩:∃ D,((w.alloc (.cells #[.slice none 0 0] 48)).alloc (.cells #[.bool false] 4)).alloc (.cells #[.int .i64 0] 40)=D:=⟨_,rfl⟩
 have hE1:Ext w w1:=by rw [← hw1];exact(((Turn.refl _ w).alloc _).alloc _).alloc _
 have h10:w1.heap[N]?=some (.cells #[.slice none 0 0] 48 (0,0)):=by rw [← hw1];exact new_keep (new_keep (new_at hN.symm))
 have h11:w1.heap[N+1]?=some (.cells #[.bool false] 4 (0,0)):=by rw [← hw1];exact new_keep (new_at (by simp;omega))
 have h12:w1.heap[N+1+1]?=some (.cells #[.int .i64 0] 40 (0,0)):=by rw [← hw1];exact new_at (by simp;omega)
 rw [hN,hw1]
 have HE1:=Lib.hid hE1;have H10:=Lib.hid h10;have H11:=Lib.hid h11;have H12:=Lib.hid h12;have HN:=Lib.hid hN
 clear hE1 h10 h11 h12 hw1 hN
 go_wp2_with fail
 refine(HCK.out _ HE1.out).mono ?_
 rintro e w2 ⟨rfl,hN2⟩
 have h20:=hN2.keep H10.out
 have h21:=hN2.keep H11.out
 have h22:=hN2.keep H12.out
 have HE2:=Lib.hid (HE1.out.trans hN2);have H20:=Lib.hid h20;have H21:=Lib.hid h21;have H22:=Lib.hid h22
 clear hN2 HE1 H10 H11 H12 HCK h20 h21 h22
 have c0:=cell_of_one H20.out;have f0:=free_of_one H20.out;have c1:=cell_of_one H21.out;have f1:=free_of_one H21.out;have c2:=cell_of_one H22.out;have f2:=free_of_one H22.out
 by_cases hE0:E=0
 case neg=>
  have hne:(E != 0)=true:=by simpa using hE0
  have hx:=HX.out
  have hb:=HB.out
  rw [if_neg hE0] at hx hb
  subst hx hb
  go_wp2
  obtain⟨a1,a2,a3,a4⟩:=three_set H20.out H21.out H22.out (u:=.slice none 0 0) (v:=.bool false) (x:=.int .i64 E)
  have hE3:Ext w (((w2.setCell ⟨N,0,none⟩ (.slice none 0 0)).setCell ⟨N+1,0,none⟩ (.bool false)).setCell ⟨N+1+1,0,none⟩ (.int .i64 E)):=Turn.after HE2.out a4 (fun b hb h=>by have:=HN.out;omega)
  refine leavesM (v:=.tuple #[.slice none 0 0,.bool false,.int .i64 E]) (base:=N) _ _ trivial fun w' ht' hs=>⟨res_c3 rfl rfl rfl rfl (ht'.heap a1 (Go.Ab.Shut.not a1 rfl)) (ht'.heap a2 (Go.Ab.Shut.not a2 rfl)) (ht'.heap a3 (Go.Ab.Shut.not a3 rfl)),none,0,rfl,Rd.of_own (e:=3) (World.ownsRow_nil _ 0 _ _),Turn.after hE3 ht' (fun b hb h=>by have:=h.1;have:=HN.out;omega)⟩
 subst hE0
 have hx:=HX.out
 have hb:=HB.out
 rw [if_pos (by first | trivial | rfl)] at hx hb
 have HX2:=Lib.hid hx;have HB2:=Lib.hid hb
 clear hx hb HX HB c0 f0 c1 f1 c2 f2
 go_wp2_with fail
 refine(explaining_any _ _ _ _ _ _ _).mono ?_
 rintro e w3 ⟨rfl,hb1,hb2,hE3,hs3⟩
 obtain⟨Y,hY⟩:∃ Y,w2.heap.size=Y:=⟨_,rfl⟩
 rw [hY] at hb1 hb2 hs3 ⊢
 have hit:=HIT.out (by first | trivial | rfl) w3 Y (Y+1) (HE2.out.trans hE3) hb1 hb2
 have hNY:N+1+1<Y:=by rw [← hY];exact(Array.getElem?_eq_some_iff.1 H22.out).1
 have HE3:=Lib.hid (HE2.out.trans hE3);have HS3:=Lib.hid hs3;have HITT:=Lib.hid hit
 have H30:=Lib.hid (hE3.keep H20.out);have H31:=Lib.hid (hE3.keep H21.out);have H32:=Lib.hid (hE3.keep H22.out)
 clear hE3 hs3 hit hb1 hb2 hY HIT H20 H21 H22 HE2
 go_wp2
 refine wp_rangeO (xs:=L) (K:=fun b=>b<w.heap.size∨b=Y∨b=Y+1) rfl (fun args w=>by simp [go_sem]) HITT.out (fun b h=>by have:=HS3.out;have:=HN.out;rcases h with h | h | h <;> omega) (fun _ _ x A ys h=>by obtain⟨_,_,rfl,_⟩:=h;rfl) ?hEs
  (NoneYet N w) (fun c O pre V=>c=.ret∧OneNow N w3.heap.size w O pre V) ?hI ?hIx ?h0 (fun ys t=>(t.setIfInBounds 18 (ys.getD 0 undef)).setIfInBounds 8 (ys.getD 0 undef)) ?assign ?body ?done ?stop
 case hEs=>
  rintro n' O x A B ys ⟨vo,vc,rfl,h1,h2⟩ ht ⟨o,q1,q2⟩
  refine⟨vo,vc,rfl,own_keep h1 ht (fun g hg e=>?_),h2⟩
  subst e
  obtain⟨cur,hc⟩:=own_block_ty h1 hg
  rw [q1] at hc;cases hc;cases q2
 case hI=>
  rintro O O' pre A B ⟨rfl,h0,h1,h2,hE⟩ hO ht hO'
  have hz:=HS3.out
  have ht2:Turn (fun b=>w3.heap.size+1≤b) A B:=ht.mono fun b _ h=>h.elim (fun h=>by have:=(hO b h.1).1;omega) (fun h=>by omega)
  exact⟨rfl,ht2.heap h0 (by omega),ht2.heap h1 (by omega),ht2.heap h2 (by omega),hE.after ht2 fun b hb h=>by have:=HE3.out.size;omega⟩
 case hIx=>
  rintro c O O' pre A B ⟨rfl,x,ao,c,rfl,h0,h1,h2,h3,h4,hE⟩ hO ht hO'
  have hz:=HS3.out
  have ht2:Turn (fun b=>w3.heap.size+1≤b) A B:=ht.mono fun b _ h=>h.elim (fun h=>by have:=(hO b h.1).1;omega) (fun h=>by omega)
  refine⟨rfl,x,ao,c,rfl,ht2.heap h0 (by omega),ht2.heap h1 (by omega),ht2.heap h2 (by omega),own_keep h3 ht (fun g hg h=>?_),fun g hg h=>?_,hE.after ht2 fun b hb h=>by have:=HE3.out.size;omega⟩
  ·have:=(h3.lt g hg).1
   rcases h with h | h
   ·exact h4 g hg h.1
   ·omega
  ·rcases(hO' g h).1 with h | h
   ·exact h4 g hg h
   ·have:=(h3.lt g hg).2;omega
 case h0=>
  intro V hV hs
  exact⟨rfl,hV.keep H30.out,hV.keep H31.out,hV.keep H32.out,Turn.trans HE3.out hV⟩
 case assign=>
  rintro _ _ x ys V Kn ⟨vo,vc,rfl,_⟩ hK
  gi_wp2
  exact hK
 case done=>
  rintro O V ⟨hnil,h0,h1,h2,hE⟩ hO ht hD
  have hx:=HX2.out
  have hb:=HB2.out
  rw [hnil] at hx hb
  subst hx hb
  have HV0:=Lib.hid h0;have HV1:=Lib.hid h1;have HV2:=Lib.hid h2;have HEV:=Lib.hid hE;have HD:=Lib.hid hD
  have c0:=cell_of_one h0;have f0:=free_of_one h0;have c1:=cell_of_one h1;have f1:=free_of_one h1;have c2:=cell_of_one h2;have f2:=free_of_one h2
  clear h0 h1 h2 hE hD hO ht HX2 HB2
  go_wp2
  obtain⟨a1,a2,a3,a4⟩:=three_set HV0.out HV1.out HV2.out (u:=.slice none 0 0) (v:=.bool false) (x:=.int .i64 0)
  have hE3:Ext w (((V.setCell ⟨N,0,none⟩ (.slice none 0 0)).setCell ⟨N+1,0,none⟩ (.bool false)).setCell ⟨N+1+1,0,none⟩ (.int .i64 0)):=Turn.after HEV.out a4 (fun b hb h=>by have:=HN.out;omega)
  have hz:=HS3.out
  refine leavesM (v:=.tuple #[.slice none 0 0,.bool false,.int .i64 0]) (base:=N) _ _ (Marks.cons (base:=N) trivial (by omega) (a4.heap HD.out (by omega)) (fun e he=>by cases he)) fun w' ht' hs=>⟨res_c3 rfl rfl rfl rfl (ht'.heap a1 (Go.Ab.Shut.not a1 rfl)) (ht'.heap a2 (Go.Ab.Shut.not a2 rfl)) (ht'.heap a3 (Go.Ab.Shut.not a3 rfl)),none,0,rfl,Rd.of_own (e:=3) (World.ownsRow_nil _ 0 _ _),Turn.after hE3 ht' (fun b hb h=>by have:=h.1;have:=HN.out;omega)⟩
 case stop=>
  rintro c O pre x rest V hx ⟨rfl,x',ao,c,hpre,h0,h1,h2,h3,h4,hE⟩ hD
  obtain⟨rfl,rfl⟩:pre=[]∧x=x':=by
   cases pre with
   | nil=>simpa using hpre
   | cons a pre=>simp at hpre
  have hx2:=HX2.out
  have hb2:=HB2.out
  rw [hx] at hx2 hb2
  simp only [List.nil_append,List.headD_cons,List.isEmpty_cons,Bool.not_false] at hx2 hb2
  subst hx2 hb2
  refine wp_ret ?_
  have hz:=HS3.out
  refine leavesM (v:=.tuple #[.slice ao x.length c,.bool true,.int .i64 0]) (base:=N) _ _ (Marks.cons (base:=N) trivial (by omega) hD (fun e he=>by cases he)) fun w' ht' hs=>⟨res_c3 rfl rfl rfl rfl (ht'.heap h0 (Go.Ab.Shut.not h0 rfl)) (ht'.heap h1 (Go.Ab.Shut.not h1 rfl)) (ht'.heap h2 (Go.Ab.Shut.not h2 rfl)),ao,c,rfl,Rd.of_own (own_keep h3 ht' (fun g hg e=>by obtain⟨cur,hc⟩:=own_block_ty h3 hg;exact Go.Ab.Shut.not hc rfl e)),Turn.after hE ht' (fun b hb h=>by have:=h.1;have:=HN.out;omega)⟩
 case body=>
  rintro O pre x rest ys V hx hsz hO ht ⟨rfl,h0,h1,h2,hE⟩ ⟨vo,vc,rfl,hr,hg⟩
  simp only [pq]
  obtain⟨a1,a2,a3,a4⟩:=three_set h0 h1 h2 (u:=.slice vo x.length vc) (v:=.bool true) (x:=.int .i64 0)
  have hz:=HS3.out
  have hfin:Turn (fun b=>¬ ((b<w.heap.size∨b=Y∨b=Y+1)∨O b∨b=w3.heap.size∨b=w3.heap.size+1)) V (((V.setCell ⟨N,0,none⟩ (.slice vo x.length vc)).setCell ⟨N+1,0,none⟩ (.bool true)).setCell ⟨N+1+1,0,none⟩ (.int .i64 0))∧OneNow N w3.heap.size w O ([]++[x]) (((V.setCell ⟨N,0,none⟩ (.slice vo x.length vc)).setCell ⟨N+1,0,none⟩ (.bool true)).setCell ⟨N+1+1,0,none⟩ (.int .i64 0)):=by
   have hn:=HN.out
   refine⟨a4.mono fun b _ h hn=>?_,x,vo,vc,rfl,a1,a2,a3,own_keep hr a4 (fun g' hg' e=>?_),hg,Turn.after hE a4 (fun b hb h=>by omega)⟩
   ·rcases hn with (h5 | h5 | h5) | h5 | h5 | h5
    ·omega
    ·omega
    ·omega
    ·have:=(hO _ h5).1;omega
    ·omega
    ·omega
   ·have:=(hr.lt g' hg').1;omega
  have c0:=cell_of_one h0;have f0:=free_of_one h0;have c1:=cell_of_one h1;have f1:=free_of_one h1;have c2:=cell_of_one h2;have f2:=free_of_one h2
  have HF:=Lib.hid hfin
  obtain⟨xn,hxn⟩:∃ k,x.length=k:=⟨_,rfl⟩
  rw [hxn] at HF ⊢
  clear hfin a1 a2 a3 a4 h0 h1 h2 hE hr hg hO ht hx hsz hz hxn
  gi_wp2
  exact⟨HF.out.1,by first | exact HF.out.2 | exact⟨rfl,HF.out.2⟩⟩
end Go.Proofs.YtfdlhlghcbeblaaGreatDoor
namespace Go.Proofs.YtfdlhlghcbeblaaGreatDoor
open Go.RowKit Go.Ab
attribute [local go_sem] Oper.semAt_some wide_fn wide_depth
theorem orders_count:∀ n,n≤6→(ordersR n).length≤720:=by
 have h:∀ n,(ordersR (n+1)).length=(n+1)*(ordersR n).length:=fun n=>by
  conv=>lhs;unfold ordersR
  rw [List.length_flatMap]
  have e:(List.range (n+1)).map (fun f=>((ordersR n).map fun r=>f::r.map fun x=>if f≤x then x+1 else x).length)=List.replicate (n+1) (ordersR n).length:=by
   apply List.ext_getElem
   ·simp
   ·intro i h1 h2;simp
  rw [e]
  simp
 have h0:(ordersR 0).length=1:=rfl
 have h1:(ordersR 1).length=1*(ordersR 0).length:=h 0
 have h2:(ordersR 2).length=2*(ordersR 1).length:=h 1
 have h3:(ordersR 3).length=3*(ordersR 2).length:=h 2
 have h4:(ordersR 4).length=4*(ordersR 3).length:=h 3
 have h5:(ordersR 5).length=5*(ordersR 4).length:=h 4
 have h6:(ordersR 6).length=6*(ordersR 5).length:=h 5
 intro n hn
 have:n=0∨n=1∨n=2∨n=3∨n=4∨n=5∨n=6:=by omega
 rcases this with rfl | rfl | rfl | rfl | rfl | rfl | rfl <;> omega
theorem perms_count(n:Nat)(hn:n≤6):(permsF n (List.range n)).length≤720:=by rw [perms_range];exact orders_count n hn
theorem infoSI:(Tryz.prog.info? 48).map (fun i=>(i.zero,i.size,i.bytes))=some (some (.slice none 0 0),1,24):=by kernel_rfl
def GridV(base:Nat)(O:Nat→Prop)(V:World)(vs:List Value)(ls:List (List Nat)):Prop:=
 vs.length=ls.length∧∀ i (h:i<ls.length),∃ ao c,vs.getD i undef=.slice ao ls[i].length c∧V.ownsRow base 3 1 (.slice ao ls[i].length c) ls[i].length (natV ls[i])∧∀ g,(Value.slice ao ls[i].length c).ownBlock=some g→¬ O g
theorem GridV.keep{base:Nat}{O O' T:Nat→Prop}{A B:World}{vs:List Value}{ls:List (List Nat)} (h:GridV base O A vs ls) (ht:Turn T A B) (hT:∀ g cur,A.heap[g]?=some (.cells cur 3 (0,0))→base≤g→¬ O g→¬ T g) (hO:∀ g,g<A.heap.size→O' g→O g):GridV base O' B vs ls:=by
 refine⟨h.1,fun i hi=>?_⟩
 obtain⟨ao,c,h1,h2,h3⟩:=h.2 i hi
 refine⟨ao,c,h1,own_keep h2 ht (fun g hg e=>?_),fun g hg e=>h3 g hg (hO g (h2.lt g hg).2 e)⟩
 obtain⟨cur,hc⟩:=own_block_ty h2 hg
 exact hT g cur hc (h2.lt g hg).1 (h3 g hg) e
theorem GridV.push{base:Nat}{O:Nat→Prop}{A:World}{vs:List Value}{ls:List (List Nat)} {x:List Nat} {ao:Option Addr} {c:Nat} (h:GridV base O A vs ls) (h1:A.ownsRow base 3 1 (.slice ao x.length c) x.length (natV x)) (h2:∀ g,(Value.slice ao x.length c).ownBlock=some g→¬ O g) :
  GridV base O A (vs++[.slice ao x.length c]) (ls++[x]):=by
 refine⟨by simp [h.1],fun i hi=>?_⟩
 by_cases hl:i<ls.length
 ·obtain⟨ao',c',q1,q2,q3⟩:=h.2 i hl
  refine⟨ao',c',?_,?_,?_⟩
  ·rw [List.getD_eq_getElem?_getD,List.getElem?_append_left (by rw [h.1];exact hl),← List.getD_eq_getElem?_getD,q1,List.getElem_append_left hl]
  ·rw [List.getElem_append_left hl];exact q2
  ·rw [List.getElem_append_left hl];exact q3
 ·have he:i=ls.length:=by simp at hi;omega
  subst he
  have e:(ls++[x])[ls.length]'hi=x:=by simp
  refine⟨ao,c,?_,?_,?_⟩
  ·rw [e,List.getD_eq_getElem?_getD,← h.1,List.getElem?_append_right (Nat.le_refl _)];simp
  ·rw [e];exact h1
  ·rw [e];exact h2
def GridAt(w:World)(v:Value)(ls:List (List Nat)):Prop:=∃ vs,Rd w v ls.length 1 vs∧∀ i (h:i<ls.length),∃ ao c,vs.getD i undef=.slice ao ls[i].length c∧Rd w (.slice ao ls[i].length c) ls[i].length 1 (natV ls[i])
theorem GridAt.ext{A B:World}{v:Value}{ls:List (List Nat)} (h:GridAt A v ls) (ht:Ext A B):GridAt B v ls:=by
 obtain⟨vs,h1,h2⟩:=h
 refine⟨vs,h1.ext ht,fun i hi=>?_⟩
 obtain⟨ao,c,q1,q2⟩:=h2 i hi
 exact⟨ao,c,q1,q2.ext ht⟩
theorem grid_nil(w:World):GridAt w (.slice none 0 0) []:=⟨[],Rd.of_own (e:=3) (World.ownsRow_nil _ 0 _ _),fun i hi=>by cases hi⟩
def allL(LD:List LawD)(qs:PairsL)(most:Int):List (List Nat):=if ordE LD (qs.map (·.1))=0 then(explL LD qs LD.length).take most.toNat else []
def AllSt(BX BM base:Nat)(most:Int)(w:World)(O:Nat→Prop)(pre:List (List Nat)) (V:World):Prop:=
 ∃ ao c vs,V.heap[BX]?=some (.cells #[.slice ao pre.length c] 27 (0,0))∧V.heap[BM]?=some (.cells #[.int .i64 most] 3 (0,0))∧V.ownsRow base 48 1 (.slice ao pre.length c) pre.length vs∧(∀ g,(Value.slice ao pre.length c).ownBlock=some g→¬ O g)∧GridV base O V vs pre∧Ext w V
theorem AllSt.step{BX BM base D:Nat}{most:Int}{w A B:World}{O O':Nat→Prop}{pre:List (List Nat)} (h:AllSt BX BM base most w O pre A) (hw:w.heap.size≤D) (hXM:BX<D∧BM<D) (hb:base=D+2) (hO:∀ b,O b→D+2≤b∧b<A.heap.size) (ht:Turn (fun b=>O b∨b=D+1) A B)
  (hO':∀ b,O' b→(O b∨A.heap.size≤b)∧b<B.heap.size):AllSt BX BM base most w O' pre B:=by
 subst hb
 obtain⟨ao,c,vs,h1,h2,h3,h4,h5,h6⟩:=h
 have hoo:∀ g,g<A.heap.size→O' g→O g:=fun g hg hh=>(hO' g hh).1.elim id (fun h=>by omega)
 refine⟨ao,c,vs,ht.heap h1 (fun h=>?_),ht.heap h2 (fun h=>?_),own_keep h3 ht (fun g hg h=>?_),fun g hg h=>h4 g hg (hoo g (h3.lt g hg).2 h),h5.keep ht (fun g cur hc hg hn h=>?_) hoo,h6.after ht fun b hb h=>?_⟩
 ·rcases h with h | h
  ·have:=(hO _ h).1;omega
  ·omega
 ·rcases h with h | h
  ·have:=(hO _ h).1;omega
  ·omega
 ·have:=(h3.lt g hg).1
  rcases h with h | h
  ·exact h4 g hg h
  ·omega
 ·rcases h with h | h
  ·exact hn h
  ·omega
 ·rcases h with h | h
  ·have:=(hO _ h).1;omega
  ·omega
theorem AllSt.push{BX BM base:Nat}{most:Int}{w V w5:World}{O:Nat→Prop}{pre:List (List Nat)} {x:List Nat} {ao ao' vo:Option Addr} {c c' vc:Nat} {vs:List Value} (hw:w.heap.size≤BX) (hbx:BX<base) (hbm:BM<base) (hne:BX≠BM) (_hwb:w.heap.size≤base)
  (h1:V.heap[BX]?=some (.cells #[.slice ao pre.length c] 27 (0,0))) (h2:V.heap[BM]?=some (.cells #[.int .i64 most] 3 (0,0))) (h3:V.ownsRow base 48 1 (.slice ao pre.length c) pre.length vs) (h4:∀ g,(Value.slice ao pre.length c).ownBlock=some g→¬ O g) (h5:GridV base O V vs pre) (hE:Ext w V) (hO:∀ b,O b→b<V.heap.size)
  (hr:V.ownsRow base 3 1 (.slice vo x.length vc) x.length (natV x)) (hg:∀ g,(Value.slice vo x.length vc).ownBlock=some g→¬ O g)
  (hO5:w5.ownsRow base 48 1 (.slice ao' (pre.length+1) c') (pre.length+1) (vs++[.slice vo x.length vc])) (hT5:Turn (fun b=>(Value.slice ao pre.length c).ownBlock=some b) V w5) (hB5:(Value.slice ao' (pre.length+1) c').ownBlock=(Value.slice ao pre.length c).ownBlock∨∃ g,V.heap.size≤g∧(Value.slice ao' (pre.length+1) c').ownBlock=some g) :
  AllSt BX BM base most w O (pre++[x]) (w5.setCell ⟨BX,0,none⟩ (.slice ao' (pre.length+1) c'))∧Turn (fun b=>b=BX∨(base≤b∧¬ O b)) V (w5.setCell ⟨BX,0,none⟩ (.slice ao' (pre.length+1) c')):=by
 have t6:=Turn.set1 w5 BX 0 (.slice ao' (pre.length+1) c')
 have hlow:∀ g,(Value.slice ao pre.length c).ownBlock=some g→base≤g:=fun g hg=>(h3.lt g hg).1
 have b1:=hT5.heap h1 (fun e=>by have:=hlow _ e;omega)
 have hl':∀ g,(Value.slice ao' (pre.length+1) c').ownBlock=some g→base≤g∧¬ O g:=fun g hgg=>by
  refine⟨(hO5.lt g hgg).1,fun ho=>?_⟩
  rcases hB5 with e | ⟨g',e1,e2⟩
  ·rw [e] at hgg;exact h4 g hgg ho
  ·rw [e2] at hgg;cases hgg;have:=hO g ho;omega
 have hTT:Turn (fun b=>b=BX∨(Value.slice ao pre.length c).ownBlock=some b) V (w5.setCell ⟨BX,0,none⟩ (.slice ao' (pre.length+1) c')):=(hT5.mono fun b _ e=>.inr e).trans (t6.mono fun b _ e=>.inl e)
 have hkeep:∀ g cur,V.heap[g]?=some (.cells cur 3 (0,0))→base≤g→¬ O g→¬ (g=BX∨(Value.slice ao pre.length c).ownBlock=some g):=fun g cur hc hb _ h=>by
  rcases h with h | h
  ·omega
  ·obtain⟨cur',hc'⟩:=own_block_ty h3 h
   rw [hc] at hc';cases hc'
 have hlen:(pre++[x]).length=pre.length+1:=by simp
 refine⟨⟨ao',c',vs++[.slice vo x.length vc],?_,t6.heap (hT5.heap h2 (fun e=>by have:=hlow _ e;omega)) (by omega),?_,fun g hgg=>(hl' g (by rw [← hlen];exact hgg)).2,?_,?_⟩,hTT.mono fun b _ h=>?_⟩
 ·rw [hlen];exact set_one b1
 ·rw [hlen];exact own_keep hO5 t6 (fun g hgg e=>by have:=(hl' g hgg).1;omega)
 ·exact(h5.push hr hg).keep hTT hkeep (fun g _ h=>h)
 ·exact hE.after hTT fun b hb h=>by
   rcases h with h | h
   ·omega
   ·have:=hlow b h;omega
 ·exact h.imp id fun e=>⟨hlow b e,h4 b e⟩
end Go.Proofs.YtfdlhlghcbeblaaGreatDoor
set_option maxRecDepth 100000
set_option maxHeartbeats 8000000
namespace Go.Proofs.YtfdlhlghcbeblaaGreatDoor
open Go.RowKit Go.Ab
attribute [local go_sem] Oper.semAt_some wide_fn wide_depth
def upN(f:Nat)(r:List Nat):List Nat:=r.map fun x=>if f≤x then x+1 else x
def outTo(RS:List (List Nat)) (f i:Nat):List (List Nat):=((List.range f).flatMap fun f=>RS.map fun r=>f::upN f r)++(RS.take i).map fun r=>f::upN f r
def partN(f:Nat)(r:List Nat)(k:Nat):List Nat:=f::upN f (r.take k)
def OrdPost(L:List (List Nat)) (base:Nat) (v:Value) (w':World):Prop:=∃ ao c vs,v=.slice ao L.length c∧w'.ownsRow base 48 1 (.slice ao L.length c) L.length vs∧GridV base (fun _=>False) w' vs L
def OrdsOk(n:Nat):Prop:=∀ w,Calls Tryz.prog 102 #[.int .i64 (n:Int)] w fun e w'=>∃ v,e=.returned v∧OrdPost (ordersR n) w.heap.size v w'∧Ext w w'
end Go.Proofs.YtfdlhlghcbeblaaGreatDoor
set_option maxRecDepth 100000
set_option maxHeartbeats 16000000
namespace Go.Proofs.YtfdlhlghcbeblaaGreatDoor
open Go.RowKit Go.Ab
attribute [local go_sem] Oper.semAt_some wide_fn wide_depth
def OutSt(X:Nat)(K:Nat→Prop)(W:World)(ao:Option Addr)(c:Nat)(L:List (List Nat)):Prop:=∃ vs,W.ownsRow X 48 1 (.slice ao L.length c) L.length vs∧(∀ g,(Value.slice ao L.length c).ownBlock=some g→¬ K g)∧GridV X K W vs L
def RestSt(K:Nat→Prop)(W:World)(v:Value)(RS:List (List Nat)):Prop:=∃ rs,Rd W v RS.length 1 rs∧KeptIn K v∧∀ i (h:i<RS.length),∃ eo ec,rs.getD i undef=.slice eo RS[i].length ec∧Rd W (.slice eo RS[i].length ec) RS[i].length 1 (natV RS[i])∧KeptIn K (.slice eo RS[i].length ec)
theorem RestSt.keep{K:Nat→Prop}{A B:World}{v:Value}{RS:List (List Nat)} (h:RestSt K A v RS) (ht:Turn (fun b=>¬ K b) A B):RestSt K B v RS:=by
 obtain⟨rs,h1,h2,h3⟩:=h
 exact⟨rs,rd_keepS h1 ht h2,h2,fun i hi=>by obtain⟨eo,ec,q1,q2,q3⟩:=h3 i hi;exact⟨eo,ec,q1,rd_keepS q2 ht q3,q3⟩⟩
theorem RestSt.made{A:Nat}{W:World}{ro:Option Addr}{rc:Nat}{rs:List Value}{RS:List (List Nat)} (h1:W.ownsRow A 48 1 (.slice ro RS.length rc) RS.length rs) (h2:GridV A (fun _=>False) W rs RS):RestSt (fun b=>A≤b∧b<W.heap.size) W (.slice ro RS.length rc) RS:=by
 refine⟨rs,Rd.of_own h1,fun g o n c e h=>h1.lt g (by rw [e];simp [Value.ownBlock]),fun i hi=>?_⟩
 obtain⟨eo,ec,q1,q2,_⟩:=h2.2 i hi
 exact⟨eo,ec,q1,Rd.of_own q2,fun g o n c e h=>q2.lt g (by rw [e];simp [Value.ownBlock])⟩
theorem OutSt.keep{X A:Nat}{K:Nat→Prop}{W W2:World}{ao:Option Addr}{c:Nat}{L:List (List Nat)} (h:OutSt X (fun _=>False) W ao c L) (hA:A=W.heap.size) (ht:Ext W W2) (hK:∀ b,K b→A≤b):OutSt X K W2 ao c L:=by
 obtain⟨vs,h1,_,h3⟩:=h
 refine⟨vs,own_ext h1 ht,fun g hg hk=>?_,h3.keep ht (fun _ _ _ _ _ h=>h) fun g hg hk=>?_⟩
 ·have:=(h1.lt g hg).2;have:=hK g hk;omega
 ·have:=hK g hk;omega
theorem OutSt.free{X:Nat}{K:Nat→Prop}{W:World}{ao:Option Addr}{c:Nat}{L:List (List Nat)} (h:OutSt X K W ao c L):OutSt X (fun _=>False) W ao c L:=by
 obtain⟨vs,h1,_,h3⟩:=h
 exact⟨vs,h1,fun _ _ h=>h,h3.keep (Turn.refl (fun _=>False) W) (fun _ _ _ _ _ h=>h) fun _ _ h=>h.elim⟩
theorem OutSt.ext{X:Nat}{K:Nat→Prop}{W W2:World}{ao:Option Addr}{c:Nat}{L:List (List Nat)} (h:OutSt X K W ao c L) (ht:Ext W W2):OutSt X K W2 ao c L:=by
 obtain⟨vs,h1,h2,h3⟩:=h
 exact⟨vs,own_ext h1 ht,h2,h3.keep ht (fun _ _ _ _ _ h=>h) fun _ _ h=>h⟩
theorem OutSt.push{X:Nat}{K:Nat→Prop}{V w5:World}{ao ao' vo:Option Addr}{c c' vc:Nat}{L:List (List Nat)} {x:List Nat} {vs:List Value} (h1:V.ownsRow X 48 1 (.slice ao L.length c) L.length vs) (h2:∀ g,(Value.slice ao L.length c).ownBlock=some g→¬ K g) (h3:GridV X K V vs L)
  (hr:V.ownsRow X 3 1 (.slice vo x.length vc) x.length (natV x)) (hg:∀ g,(Value.slice vo x.length vc).ownBlock=some g→¬ K g) (hKV:∀ b,K b→b<V.heap.size)
  (hO5:w5.ownsRow X 48 1 (.slice ao' (L.length+1) c') (L.length+1) (vs++[.slice vo x.length vc])) (hT5:Turn (fun b=>(Value.slice ao L.length c).ownBlock=some b) V w5) (hB5:(Value.slice ao' (L.length+1) c').ownBlock=(Value.slice ao L.length c).ownBlock∨(Value.slice ao' (L.length+1) c').ownBlock=some V.heap.size) :
  OutSt X K w5 ao' c' (L++[x]):=by
 have hne:∀ g cur,V.heap[g]?=some (.cells cur 3 (0,0))→¬ (Value.slice ao L.length c).ownBlock=some g:=fun g cur hc e=>by
  obtain⟨cur',hc'⟩:=own_block_ty h1 e
  rw [hc'] at hc
  simp only [Option.some.injEq,Obj.cells.injEq] at hc
  exact absurd hc.2.1 (by decide)
 refine⟨vs++[.slice vo x.length vc],by rw [List.length_append];exact hO5,fun g hgg hk=>?_,?_⟩
 ·have hgg:(Value.slice ao' (L.length+1) c').ownBlock=some g:=by simpa [Value.ownBlock] using hgg
  rcases hB5 with e | e
  ·rw [e] at hgg;exact h2 g hgg hk
  ·rw [e] at hgg;cases hgg;have:=hKV _ hk;omega
 ·exact(h3.push hr hg).keep hT5 (fun g cur hc _ _=>hne g cur hc) fun _ _ h=>h
def OrdOut(M X:Nat)(RS:List (List Nat)) (w:World) (a:Act) (W:World):Prop:=∃(f:Nat) (ao:Option Addr) (c:Nat),f≤M∧a.defers=[]∧(a.tmps.size=57∧a.tmps.getD 0 undef=.int .i64 (M:Int)∧a.tmps.getD 3 undef=.slice ao (outTo RS f 0).length c∧a.tmps.getD 4 undef=.int .i64 f)∧OutSt X (fun _=>False) W ao c (outTo RS f 0)∧Ext w W
def OrdMid(M X f Z:Nat)(K:Nat→Prop)(rv:Value)(RS:List (List Nat)) (w W2:World) (a:Act) (V:World):Prop:=∃(i:Nat) (ao:Option Addr) (c:Nat),i≤Z∧a.defers=[]∧(a.tmps.size=57∧a.tmps.getD 0 undef=.int .i64 (M:Int)∧a.tmps.getD 3 undef=.slice ao (outTo RS f i).length c∧a.tmps.getD 4 undef=.int .i64 f∧a.tmps.getD 5 undef=rv∧a.tmps.getD 6 undef=.int .i64 i)∧OutSt X K V ao c (outTo RS f i)∧Turn (fun b=>¬ K b) W2 V∧Ext w V
def OrdIn(M N f i D:Nat)(ov rv:Value)(r:List Nat)(V:World)(a:Act)(U:World):Prop:=∃(k:Nat) (bo:Option Addr) (bc:Nat),k≤N∧a.defers=[]∧(a.tmps.size=57∧a.tmps.getD 0 undef=.int .i64 (M:Int)∧a.tmps.getD 3 undef=ov∧a.tmps.getD 4 undef=.int .i64 f∧a.tmps.getD 5 undef=rv∧a.tmps.getD 6 undef=.int .i64 i∧a.tmps.getD 7 undef=.slice bo (k+1) bc∧a.tmps.getD 8 undef=.int .i64 k)∧U.ownsRow D 3 1 (.slice bo (k+1) bc) (k+1) (natV (partN f r k))∧Ext V U
end Go.Proofs.YtfdlhlghcbeblaaGreatDoor
