/- order.Chronology. PLAIN: the reduction as a list; what is said of it is all that holds, and no pair can be left out. ablautlaw14.OrderNeeded (printed by genneedo.py). -/
import Derived.Test.YtfdlhlghcbeblaaGreatDoorG42
import Derived.Test.YtfdlhlghcbeblaaGreatDoorG48
import Derived.Test.YtfdlhlghcbeblaaGreatDoorG50
import Derived.Test.YtfdlhlghcbeblaaGreatDoorG47
import Derived.Test.YtfdlhlghcbeblaaGreatDoorG49
import Derived.Test.YtfdlhlghcbeblaaGreatDoorG40
import Derived.Test.YtfdlhlghcbeblaaGreatDoorG46
set_option maxRecDepth 100000
set_option maxHeartbeats 16000000
namespace Go.Proofs.YtfdlhlghcbeblaaGreatDoor
open Go.RowKit Go.Ab
attribute [local go_sem] Oper.semAt_some wide_fn wide_depth
def chronR(LD:List LawD)(qs:PairsL):Nat→Nat→Bool:=needR (pairsOf (explL LD qs LD.length))
theorem needE_rel{LD:List LawD}{qs:PairsL}(h:needE LD qs=0):Rel LD.length (chronR LD qs)∧needL LD qs=pairsR LD.length (chronR LD qs)∧LD.length≤6:=by
 have h2:needL LD qs=pairsR LD.length (chronR LD qs):=by unfold needL;rw [if_pos h];rfl
 unfold needE at h
 by_cases h0:ordE LD (qs.map (·.1))=0
 ·rw [if_pos h0] at h
  refine⟨needR_rel (expl_perms LD qs _) (fun e=>?_),h2,(ordE_six h0).1⟩
  rw [e] at h
  cases h
 ·rw [if_neg h0] at h;exact absurd h h0
def ChronV(E:Int)(n base:Nat)(R:Nat→Nat→Bool)(v:Option Addr)(W:World):Prop:=(E≠0→v=none)∧(E=0→∃ b,v=some ⟨b,0,none⟩∧base≤b∧OrdR W b n R)
theorem rd_low{w:World}{v:Value}{n sz:Nat}{xs:List Value}(h:Rd w v n sz xs):KeptIn (fun g=>g<w.heap.size) v:=by
 intro g o m c e h0
 subst e
 obtain⟨_,_,ao,cap,q,h3⟩:=h
 simp only [Value.slice.injEq] at q
 obtain⟨rfl,rfl,rfl⟩:=q
 obtain⟨g',off,q,hg,_⟩:=h3 h0
 cases q
 exact hg
theorem prs_two{X:List (Int × Int)} {k:Nat} (hk:k<X.length):(prs X).getD (k*2) undef=.int .i64 X[k].1∧(prs X).getD (k*2+1) undef=.int .i64 X[k].2:=by
 rw [prs_fst X k hk,prs_snd X k hk,List.getD_eq_getElem?_getD,List.getElem?_eq_getElem hk]
 exact⟨rfl,rfl⟩
theorem chron_any{w:World}{ps:LawsL}{qs:PairsL}{lo:Option Addr}{n lc:Nat}{po:Option Addr}{m pc:Nat}(hl:LawsAt w (.slice lo n lc) ps) (hn:ps.length=n) (hp:PairsAt w (.slice po m pc) qs) (hm:qs.length=m) (hT:Tab w) :
  Calls Tryz.prog 46 #[.slice lo n lc,.slice po m pc] w fun e w'=>∃ v,e=.returned (.tuple #[.pointer v,.int .i64 (needE (ps.map (·.1)) qs)])∧ChronV (needE (ps.map (·.1)) qs) n w.heap.size (chronR (ps.map (·.1)) qs) v w'∧Ext w w':=by
 have hnd:=needed_any hl hn hp hm hT
 have hnm:n≤maxLen:=by rw [← hn];exact hl.1.2.1
 have htab:0<w.heap.size:=by
  obtain⟨o,q,_⟩:=cell_cells (hT 0 (by decide))
  exact(Array.getElem?_eq_some_iff.1 q).1
 obtain⟨LD,hLD⟩:∃ x,ps.map (·.1)=x:=⟨_,rfl⟩
 have hLn:LD.length=n:=by rw [← hLD,List.length_map,hn]
 rw [hLD] at hnd ⊢
 have hrel:needE LD qs=0→Rel n (chronR LD qs)∧needL LD qs=pairsR n (chronR LD qs)∧n≤6:=fun h=>by have:=needE_rel h;rw [hLn] at this;exact this
 have hnil:needE LD qs≠0→needL LD qs=[]:=fun h=>by unfold needL;rw [if_neg h]
 obtain⟨R,hR⟩:∃ R,chronR LD qs=R:=⟨_,rfl⟩
 obtain⟨E,hE⟩:∃ E,needE LD qs=E:=⟨_,rfl⟩
 obtain⟨X,hX⟩:∃ X,needL LD qs=X:=⟨_,rfl⟩
 rw [hR,hE,hX] at hrel
 rw [hE,hX] at hnd hnil
 rw [hR,hE]
 have HND:=Lib.hid hnd;have HREL:=Lib.hid hrel;have HT:=Lib.hid hT;have HTAB:=Lib.hid htab
 clear hnd hrel hnil hE hX hR hLn hLD hl hn hp hm hT htab
 unfold maxLen at hnm
 go_enter Tryz.func46,Tryz.ntmps46
 go_wp2_with fail
 refine HND.out.mono ?_
 rintro e w1 ⟨xo,xc,rfl,hX1,hE1⟩
 have HX1:=Lib.hid hX1;have HE1:=Lib.hid hE1
 clear hX1 hE1 HND
 by_cases hE0:E=0
 case neg=>
  have hne:(E != 0)=true:=by simpa using hE0
  go_wp2
  go_ret2
  exact⟨none,rfl,⟨fun _=>rfl,fun h=>absurd h hE0⟩,HE1.out⟩
 subst hE0
 obtain⟨hrel,hxp,hn6⟩:=HREL.out (by first | trivial | rfl)
 have HR:=Lib.hid hrel;have HXP:=Lib.hid hxp
 clear hrel hxp HREL
 go_wp2_with fail
 refine(new_R n (by omega) w1).mono ?_
 rintro e w2 ⟨rfl,hE2,ho2⟩
 obtain⟨B,hB⟩:∃ B,w1.heap.size=B:=⟨_,rfl⟩
 rw [hB] at ho2 ⊢
 have hwB:w.heap.size≤B:=by rw [← hB];exact HE1.out.size
 obtain⟨xl,hxl⟩:∃ k,X.length=k:=⟨_,rfl⟩
 have hrx:=HX1.out.ext hE2
 rw [hxl] at hrx ⊢
 have hxm:xl≤maxLen:=hrx.2.1
 unfold maxLen at hxm
 have HXL:=Lib.hid hxl;have HRX:=Lib.hid hrx;have HE2:=Lib.hid hE2;have HO2:=Lib.hid ho2
 have hbx:=fun W (hW:Turn (fun b=>¬ b<w1.heap.size) w1 W)=>rd_keepS HX1.out hW (rd_low HX1.out)
 rw [hxl] at hbx
 have HBX:=Lib.hid hbx;have HBB:=Lib.hid hB
 clear hbx hB hxl hrx hE2 ho2
 go_wp2
 refine wp_loop (fun a W=>∃(k:Nat) (Rk:Nat→Nat→Bool),k≤xl∧a.defers=[]∧(a.tmps.size=47∧a.tmps.getD 8 undef=.pointer (some ⟨B,0,none⟩)∧a.tmps.getD 30 undef=.slice xo xl xc∧a.tmps.getD 31 undef=.int .i64 xl∧a.tmps.getD 32 undef=.int .i64 k)∧OrdR W B n Rk∧Und n R Rk (X.take k)∧Turn (fun b=>¬ b<w1.heap.size) w1 W)
  (fun a _=>((xl:Int) - intOf (a.tmps.getD 32 undef)).toNat) ?_ ?_
 ·exact⟨0,_,by omega,rfl,⟨rfl,rfl,rfl,rfl,rfl⟩,HO2.out,Und.start,Ext.of HE2.out⟩
 rintro⟨t,_⟩ W ⟨k,Rk,hk,hds,⟨hsz,f8,f30,f31,f32⟩,ho,hu,hT1⟩
 subst hds
 obtain⟨u',hu⟩:=frame_fun hsz
 obtain⟨u,rfl⟩:∃ x,x=u':=⟨_,rfl⟩
 have hu':t=#[u 0,u 1,u 2,u 3,u 4,u 5,u 6,u 7,u 8,u 9,u 10,u 11,u 12,u 13,u 14,u 15,u 16,u 17,u 18,u 19,u 20,u 21,u 22,u 23,u 24,u 25,u 26,u 27,u 28,u 29,u 30,u 31,u 32,u 33,u 34,u 35,u 36,u 37,u 38,u 39,u 40,u 41,u 42,u 43,u 44,u 45,u 46]:=hu
 clear hu
 subst hu'
 change u 8=_ at f8
 change u 30=_ at f30
 change u 31=_ at f31
 change u 32=_ at f32
 rw [f8,f30,f31,f32]
 clear f8 f30 f31 f32 hsz
 have HO:=Lib.hid ho;have HU:=Lib.hid hu;have HT1:=Lib.hid hT1
 clear ho hu hT1
 by_cases hkN:k<xl
 case neg=>
  obtain rfl:k=xl:=by omega
  have h1:¬ (k:Int)<(k:Int):=by omega
  have hd:=HU.out
  rw [List.take_of_length_le (by rw [HXL.out];exact Nat.le_refl _),HXP.out] at hd
  have he:=Und.done HR.out hd
  subst he
  clear hd
  go_wp2
  go_ret2
  exact⟨some ⟨B,0,none⟩,rfl,⟨fun h=>absurd rfl h,fun _=>⟨B,rfl,hwB,HO.out⟩⟩,Turn.after HE1.out HT1.out (fun b hb h=>by have:=HE1.out.size;omega)⟩
 have h1:(k:Int)<(xl:Int):=by omega
 have h0:(0:Int)≤(k:Int):=by omega
 have hkl:k<X.length:=by rw [HXL.out];exact hkN
 have hrW:=HBX.out W HT1.out
 obtain⟨_,_,ao',cap',hq,r3⟩:=hrW
 simp only [Value.slice.injEq,true_and] at hq
 obtain⟨rfl,rfl⟩:=hq
 obtain⟨g,off,rfl,hg,hc⟩:=r3 (by omega)
 have d0:=hc (k*2) (by omega)
 have d1:=hc (k*2+1) (by omega)
 obtain⟨p1,p2⟩:=prs_two hkl
 rw [p1] at d0
 rw [p2,← Nat.add_assoc] at d1
 have hmem:X[k]∈pairsR n R:=by rw [← HXP.out];exact List.getElem_mem hkl
 obtain⟨a,b,hab,ha,hb,hRab⟩:=mem_pairsR.1 hmem
 have htk:=List.take_succ_eq_append_getElem hkl
 rw [hab] at d0 d1 htk
 dsimp only at d0 d1
 obtain⟨hb0,hun⟩:=Und.step HR.out HU.out hRab
 have hbb:=fun(V:World) (hE:Ext W V)=>before_R B n Rk (by omega) HU.out.rel V (HO.out.keep hE id) (HT.out.keep (Turn.after HE1.out (HT1.out.trans hE.of) (fun b hb h=>by have:=HE1.out.size;omega):Ext w V) id) (by have:=HTAB.out;omega) (a:Int) (b:Int)
 rw [hb0] at hbb
 have HUN:=Lib.hid hun;have HBF:=Lib.hid hbb;have HTK:=Lib.hid htk
 have hwk:IntKind.i64.wrap ((k:Int)+1)=(k:Int)+1:=IntWalk.i64_in _ (by omega)
 clear hun hbb htk hb0 p1 p2 hab hmem hRab hc r3 hkl
 go_upto_region 10 with (fail)
 obtain⟨V1,hV1⟩:∃ D,W.alloc (.cells #[.int .i64 (a:Int),.int .i64 (b:Int)] 73)=D:=⟨_,rfl⟩
 have hN1:Ext W V1:=by rw [← hV1];exact(Turn.refl _ W).alloc _
 have hx1:V1.heap[W.heap.size]?=some (.cells #[.int .i64 (a:Int),.int .i64 (b:Int)] 73 (0,0)):=by rw [← hV1];exact new_at rfl
 obtain⟨Z,hZ⟩:∃ z,W.heap.size=z:=⟨_,rfl⟩
 rw [hZ] at hx1
 rw [hV1,hZ]
 have cX:=fun j=>cell_of_row _ _ j _ _ _ hx1
 have HN1:=Lib.hid hN1
 clear hV1 hN1 hx1 hZ d0 d1
 go_wp2_with fail
 refine(HBF.out V1 HN1.out).mono ?_
 rintro e V2 ⟨rfl,hT2,ho2⟩
 have hT3:Turn (fun b=>¬ b<w1.heap.size) w1 V2:=(HT1.out.trans HN1.out.of).trans (hT2.mono fun b _ e h=>by have:=HBB.out;omega)
 have HO3:=Lib.hid ho2;have HT3:=Lib.hid hT3
 clear ho2 hT3 hT2 HBF cX
 go_wp2
 exact⟨⟨k+1,_,by omega,by first | rfl | trivial,⟨rfl,rfl,rfl,rfl,rfl⟩,HO3.out,by rw [HTK.out];exact HUN.out,HT3.out⟩,by first | (simp [intOf];done) | (simp [intOf];omega)⟩
end Go.Proofs.YtfdlhlghcbeblaaGreatDoor
namespace Go.Proofs.YtfdlhlghcbeblaaGreatDoor
open Go.RowKit Go.Ab
theorem isR_nat{n:Nat}{R:Bin}{a b:Nat}(ha:a<n)(hb:b<n):isR n R a b=R a b:=by
 have e1:isEv (n:Int) (a:Int)=true:=isEv_true (by omega) (by omega)
 have e2:isEv (n:Int) (b:Int)=true:=isEv_true (by omega) (by omega)
 simp [isR,e1,e2]
def zps(l:List (Nat × Nat)):List (Int × Int):=l.map fun p=>((p.1:Int),(p.2:Int))
def covL(n:Nat)(R:Bin):List (Nat × Nat):=(List.range n).flatMap fun a=>((List.range n).filter fun b=>isCov n R a b).map fun b=>(a,b)
end Go.Proofs.YtfdlhlghcbeblaaGreatDoor
set_option maxRecDepth 100000
set_option maxHeartbeats 16000000
namespace Go.Proofs.YtfdlhlghcbeblaaGreatDoor
open Go.RowKit Go.Ab
attribute [local go_sem] Oper.semAt_some wide_fn wide_depth
def NdO(n:Nat)(lv av nv ov:Value)(P:Nat→Nat)(w2:World)(a:Act)(W:World):Prop:=∃(x:Nat),x≤n∧a.defers=[]∧(a.tmps.size=185∧a.tmps.getD 0 undef=lv∧a.tmps.getD 5 undef=av∧a.tmps.getD 7 undef=nv∧a.tmps.getD 9 undef=ov∧a.tmps.getD 11 undef=.int .i64 (P x:Nat)∧a.tmps.getD 12 undef=.int .i64 x)∧Ext w2 W
def NdM(n x:Nat)(lv av nv ov:Value)(P:Nat→Nat)(w2:World)(a:Act)(W:World):Prop:=∃(y:Nat),y≤n∧a.defers=[]∧(a.tmps.size=185∧a.tmps.getD 0 undef=lv∧a.tmps.getD 5 undef=av∧a.tmps.getD 7 undef=nv∧a.tmps.getD 9 undef=ov∧a.tmps.getD 11 undef=.int .i64 (P y:Nat)∧a.tmps.getD 12 undef=.int .i64 x∧a.tmps.getD 13 undef=.int .i64 y)∧Ext w2 W
def NdI(Z x y K:Nat)(lv av nv ov:Value)(T:Nat→Bool)(w2:World)(a:Act)(W:World):Prop:=∃(i:Nat),i≤Z∧a.defers=[]∧(a.tmps.size=185∧a.tmps.getD 0 undef=lv∧a.tmps.getD 5 undef=av∧a.tmps.getD 7 undef=nv∧a.tmps.getD 9 undef=ov∧a.tmps.getD 11 undef=.int .i64 K∧a.tmps.getD 12 undef=.int .i64 x∧a.tmps.getD 13 undef=.int .i64 y∧a.tmps.getD 14 undef=.bool (T i)∧a.tmps.getD 15 undef=.int .i64 i)∧Ext w2 W
def NdJ(c x y K i:Nat)(lv av nv ov:Value)(T:Nat→Bool)(w2:World)(a:Act)(W:World):Prop:=∃(j:Nat),j≤c∧a.defers=[]∧(a.tmps.size=185∧a.tmps.getD 0 undef=lv∧a.tmps.getD 5 undef=av∧a.tmps.getD 7 undef=nv∧a.tmps.getD 9 undef=ov∧a.tmps.getD 11 undef=.int .i64 K∧a.tmps.getD 12 undef=.int .i64 x∧a.tmps.getD 13 undef=.int .i64 y∧a.tmps.getD 14 undef=.bool (T j)∧a.tmps.getD 15 undef=.int .i64 i∧a.tmps.getD 16 undef=.int .i64 j)∧Ext w2 W
def NdA(Z K:Nat)(av nv ov:Value)(w2:World)(a:Act)(W:World):Prop:=∃(i:Nat),i≤Z∧a.defers=[]∧(a.tmps.size=185∧a.tmps.getD 5 undef=av∧a.tmps.getD 7 undef=nv∧a.tmps.getD 9 undef=ov∧a.tmps.getD 11 undef=.int .i64 K∧a.tmps.getD 17 undef=.int .i64 i)∧Ext w2 W
theorem neededO_law{w:World}{ps:LawsL}{qs:PairsL}{lo:Option Addr}{n lc:Nat}{po:Option Addr}{m pc:Nat}(hl:LawsAt w (.slice lo n lc) ps) (hn:ps.length=n) (hp:PairsAt w (.slice po m pc) qs) (hm:qs.length=m) (hT:Tab w) :
  Calls Tryz.prog 12 #[.slice lo n lc,.slice po m pc] w fun e w'=>e=.returned (.bool true)∧Ext w w':=by
 have hva:=ovalid_any hl hn hp hm hT
 have hwo:=fun(V:World) (hE:Ext w V)=>oworks_any V (hT.keep hE id)
 have ha:=fun(V:World) (hE:Ext w V)=>all_any' (most:=1000) (hl.ext hE) hn (pairs_ext hp hE) hm (hT.keep hE id)
 have hx:=fun(V:World) (hE:Ext w V)=>needed_any (hl.ext hE) hn (pairs_ext hp hE) hm (hT.keep hE id)
 have hc:=fun(V:World) (hE:Ext w V)=>chron_any (hl.ext hE) hn (pairs_ext hp hE) hm (hT.keep hE id)
 have hgd:GoodLP (ps.map (·.1)) (qs.map (·.1))→n≤4∧ordE (ps.map (·.1)) (qs.map (·.1))=0:=fun h=>by
  obtain⟨h1,_,h3⟩:=h
  rw [List.length_map,hn] at h1
  exact⟨h1,h3⟩
 have hall:n≤4→ordE (ps.map (·.1)) (qs.map (·.1))=0→allL (ps.map (·.1)) qs 1000=explL (ps.map (·.1)) qs n:=fun h4 h0=>by
  have h1:=expl_four (ps.map (·.1)) qs n h4
  unfold allL
  rw [if_pos h0,List.length_map,hn]
  exact List.take_of_length_le (by omega)
 have hzz:n≤4→(explL (ps.map (·.1)) qs n).length≤1000:=fun h4=>by
  have h1:=expl_four (ps.map (·.1)) qs n h4
  omega
 have hln:(ps.map (·.1)).length=n:=by rw [List.length_map,hn]
 have hne5:ordE (ps.map (·.1)) (qs.map (·.1))=0→explL (ps.map (·.1)) qs n=[]→needE (ps.map (·.1)) qs=5∧needL (ps.map (·.1)) qs=[]:=fun h0 hL=>by
  have h5:needE (ps.map (·.1)) qs=5:=by unfold needE;rw [if_pos h0,hln,hL];rfl
  refine⟨h5,?_⟩
  unfold needL
  rw [h5];rfl
 have hne0:ordE (ps.map (·.1)) (qs.map (·.1))=0→explL (ps.map (·.1)) qs n≠[]→needE (ps.map (·.1)) qs=0∧needL (ps.map (·.1)) qs=pairsR n (chronR (ps.map (·.1)) qs)∧∀ x y,x<n→y<n→chronR (ps.map (·.1)) qs x y=alwaysB (explL (ps.map (·.1)) qs n) x y:=fun h0 hL=>by
  have h5:needE (ps.map (·.1)) qs=0:=by
   unfold needE
   rw [if_pos h0,hln,if_neg (fun h=>hL (List.isEmpty_iff.1 h))]
  have h6:=(needE_rel h5).2.1
  rw [hln] at h6
  refine⟨h5,h6,fun x y hx hy=>?_⟩
  unfold chronR
  rw [hln]
  exact always_need (expl_perms _ _ _) hL hx hy
 have hro:∀ o∈explL (ps.map (·.1)) qs n,o.length=n∧(∀ x,x<n→x∈o)∧allowsR n (chronR (ps.map (·.1)) qs) (o.map fun(i:Nat)=>(i:Int))=(true,0):=fun o ho=>by
  have h1:o∈ordersR n:=by rw [explL_orders] at ho;exact(List.mem_filter.1 ho).1
  have h2:=(orders_lt n o h1).1
  refine⟨h2,fun x hx=>((expl_perms _ _ _ o ho).2 x).2 hx,?_⟩
  unfold chronR
  rw [hln]
  exact allows_need (expl_perms _ _ _) ho h2
 obtain⟨E,hEE⟩:∃ x,ordE (ps.map (·.1)) (qs.map (·.1))=x:=⟨_,rfl⟩
 simp only [hEE] at hgd hall hne5 hne0 ha
 obtain⟨L,hL⟩:∃ x,explL (ps.map (·.1)) qs n=x:=⟨_,rfl⟩
 simp only [hL] at hall hne5 hne0 hro hzz
 obtain⟨X,hX⟩:∃ x,needL (ps.map (·.1)) qs=x:=⟨_,rfl⟩
 obtain⟨NE,hNE⟩:∃ x,needE (ps.map (·.1)) qs=x:=⟨_,rfl⟩
 obtain⟨R,hR⟩:∃ x,chronR (ps.map (·.1)) qs=x:=⟨_,rfl⟩
 simp only [hX,hNE] at hx
 simp only [hNE,hR] at hc
 simp only [hX,hNE] at hne5
 simp only [hX,hNE,hR] at hne0
 simp only [hR] at hro
 have HVA:=Lib.hid hva;have HWO:=Lib.hid hwo;have HA:=Lib.hid ha;have HX:=Lib.hid hx;have HC:=Lib.hid hc;have HGD:=Lib.hid hgd;have HALL:=Lib.hid hall;have HN5:=Lib.hid hne5;have HN0:=Lib.hid hne0;have HRO:=Lib.hid hro
 clear hva hwo ha hx hc hgd hall hne5 hne0 hro hln hl hn hp hm hT hEE hL hX hNE hR
 go_enter Tryz.func12,Tryz.ntmps12
 go_wp2_with fail
 refine HVA.out.mono ?_
 rintro e w1 ⟨b,rfl,hg,hE1⟩
 have HE1:=Lib.hid hE1
 have HG:=Lib.hid hg
 clear hE1 HVA hg
 cases b with
 | false=>
  clear HA HX HC HGD HALL HN5 HN0 HRO HG
  go_wp2_with fail
  refine(HWO.out w1 HE1.out).mono ?_
  rintro e w2 ⟨rfl,hN⟩
  have HE2:=Lib.hid (HE1.out.trans hN)
  clear hN
  go_wp2
  go_ret
  exact⟨rfl,HE2.out⟩
 | true=>
  obtain⟨hn4,hE0⟩:=HGD.out (HG.out (by first | trivial | rfl))
  subst hE0
  have ha:=HA.out w1 HE1.out
  rw [HALL.out hn4 (by first | trivial | rfl)] at ha
  have hz4:=hzz hn4
  have h5:=HN5.out (by first | trivial | rfl)
  have h0:=HN0.out (by first | trivial | rfl)
  obtain⟨al,hal9⟩:∃ z,L.length=z:=⟨_,rfl⟩
  have HAL9:=Lib.hid hal9
  rw [hal9] at ha hz4
  have HA2:=Lib.hid ha;have H5:=Lib.hid h5;have H0:=Lib.hid h0
  clear ha h5 h0 hal9 hzz HG HGD HA HALL HN5 HN0
  go_wp2_with fail
  refine HA2.out.mono ?_
  rintro e w2 ⟨ao,ac,rfl,hgr,hN⟩
  have HE2:=Lib.hid (HE1.out.trans hN)
  have RA:Hid (∀ D,Ext w2 D→GridAt D (.slice ao al ac) L):=Lib.hid (fun D hD=>GridAt.ext hgr hD)
  clear hgr hN HA2 HE1
  go_wp2_with fail
  refine(HX.out w2 HE2.out).mono ?_
  rintro e w3 ⟨xo,xc,rfl,hr,hN⟩
  have HE3:=Lib.hid (HE2.out.trans hN)
  have h23:Ext w2 w3:=hN
  have RX:Hid (∀ D,Ext w3 D→Rd D (.slice xo X.length xc) X.length 2 (prs X)):=Lib.hid (fun D hD=>hr.ext hD)
  clear hr hN HX HE2
  go_wp2_with fail
  refine(HC.out w3 HE3.out).mono ?_
  rintro e w4 ⟨cv,rfl,hcv,hN⟩
  have HE4:=Lib.hid (HE3.out.trans hN)
  have h34:Ext w3 w4:=hN
  have HCV:=Lib.hid hcv
  have RX4:Hid (∀ D,Ext w4 D→Rd D (.slice xo X.length xc) X.length 2 (prs X)):=Lib.hid (fun D hD=>RX.out D (h34.trans hD))
  have RA4:Hid (∀ D,Ext w4 D→GridAt D (.slice ao al ac) L):=Lib.hid (fun D hD=>RA.out D (h23.trans (h34.trans hD)))
  clear hcv hN HC HE3 RX RA h23 h34
  by_cases hLe:L=[]
  ·obtain⟨hq5,hqX⟩:=H5.out hLe
   obtain rfl:al=0:=by rw [← HAL9.out,hLe];rfl
   obtain rfl:=HCV.out.1 (by rw [hq5];decide)
   subst hq5 hqX
   clear hLe H5 H0 HCV HRO HAL9 RX4 RA4
   go_wp2_with fail
   refine(HWO.out w4 HE4.out).mono ?_
   rintro e w5 ⟨rfl,hN⟩
   have HE5:=Lib.hid (HE4.out.trans hN)
   clear hN
   go_wp2
   go_ret
   exact⟨rfl,HE5.out⟩
  obtain⟨hq0,hqX,hqR⟩:=H0.out hLe
  have hlp:0<L.length:=List.length_pos_iff.2 hLe
  rw [HAL9.out] at hlp
  have hlp2:(al:Int) > 0:=by omega
  have hlp3:(0:Int)<(al:Int):=by omega
  obtain⟨b,hcb,_,ho⟩:=HCV.out.2 hq0
  subst hcb hq0
  have HOR:=Lib.hid ho;have HQX:=Lib.hid hqX;have HQR:=Lib.hid hqR
  obtain⟨xl,hxl⟩:∃ k,X.length=k:=⟨_,rfl⟩
  have HXL:=Lib.hid hxl
  have hxlb:xl≤maxLen:=by rw [← hxl];exact(RX4.out w4 (Turn.refl _ _)).2.1
  unfold maxLen at hxlb
  rw [hxl]
  clear hLe H5 H0 HCV ho hqX hqR hxl
  go_wp2
  refine wp_loop (NdO n (.slice lo n lc) (.slice ao al ac) (.slice xo xl xc) (.pointer (some ⟨b,0,none⟩)) (fun x=>(rowsN n R x).length) w4) (fun a _=>((n:Int) - intOf (a.tmps.getD 12 undef)).toNat) ?_ ?_
  ·exact⟨0,by omega,rfl,⟨rfl,rfl,rfl,rfl,rfl,rfl,rfl⟩,Turn.refl _ _⟩
  clear hlp hlp2 hlp3
  rintro⟨t,_⟩ W ⟨x,hx,hds,⟨hsz,f0,f5,f7,f9,f11,f12⟩,hE⟩
  dsimp only at f11
  subst hds
  obtain⟨u',hu⟩:=frame_fun hsz
  obtain⟨u,rfl⟩:∃ x,x=u':=⟨_,rfl⟩
  have hu':t=#[u 0,u 1,u 2,u 3,u 4,u 5,u 6,u 7,u 8,u 9,u 10,u 11,u 12,u 13,u 14,u 15,u 16,u 17,u 18,u 19,u 20,u 21,u 22,u 23,u 24,u 25,u 26,u 27,u 28,u 29,u 30,u 31,u 32,u 33,u 34,u 35,u 36,u 37,u 38,u 39,u 40,u 41,u 42,u 43,u 44,u 45,u 46,u 47,u 48,u 49,u 50,u 51,u 52,u 53,u 54,u 55,u 56,u 57,u 58,u 59,u 60,u 61,u 62,u 63,u 64,u 65,u 66,u 67,u 68,u 69,u 70,u 71,u 72,u 73,u 74,u 75,u 76,u 77,u 78,u 79,u 80,u 81,u 82,u 83,u 84,u 85,u 86,u 87,u 88,u 89,u 90,u 91,u 92,u 93,u 94,u 95,u 96,u 97,u 98,u 99,u 100,u 101,u 102,u 103,u 104,u 105,u 106,u 107,u 108,u 109,u 110,u 111,u 112,u 113,u 114,u 115,u 116,u 117,u 118,u 119,u 120,u 121,u 122,u 123,u 124,u 125,u 126,u 127,u 128,u 129,u 130,u 131,u 132,u 133,u 134,u 135,u 136,u 137,u 138,u 139,u 140,u 141,u 142,u 143,u 144,u 145,u 146,u 147,u 148,u 149,u 150,u 151,u 152,u 153,u 154,u 155,u 156,u 157,u 158,u 159,u 160,u 161,u 162,u 163,u 164,u 165,u 166,u 167,u 168,u 169,u 170,u 171,u 172,u 173,u 174,u 175,u 176,u 177,u 178,u 179,u 180,u 181,u 182,u 183,u 184]:=hu
  clear hu
  subst hu'
  change u 0=_ at f0
  change u 5=_ at f5
  change u 7=_ at f7
  change u 9=_ at f9
  change u 11=_ at f11
  change u 12=_ at f12
  rw [f0,f5,f7,f9,f11,f12]
  clear f0 f5 f7 f9 f11 f12 hsz
  have HEW:=Lib.hid hE
  clear hE
  by_cases hxn:x<n
  case neg=>
   obtain rfl:x=n:=by omega
   have hx1:¬ (x:Int)<(x:Int):=by omega
   have hK9:(rowsN x R x).length=xl:=by rw [← HXL.out,HQX.out];rfl
   rw [hK9]
   clear hK9 HQR HQX
   go_wp2
   refine wp_loop (NdA al xl (.slice ao al ac) (.slice xo xl xc) (.pointer (some ⟨b,0,none⟩)) w4) (fun a _=>((al:Int) - intOf (a.tmps.getD 17 undef)).toNat) ?_ ?_
   ·exact⟨0,by omega,rfl,⟨rfl,rfl,rfl,rfl,rfl,rfl⟩,HEW.out⟩
   clear HEW
   rintro⟨t,_⟩ V ⟨i,hi,hds,⟨hsz,f5,f7,f9,f11,f17⟩,hE⟩
   subst hds
   obtain⟨u',hu⟩:=frame_fun hsz
   obtain⟨u,rfl⟩:∃ x,x=u':=⟨_,rfl⟩
   have hu':t=#[u 0,u 1,u 2,u 3,u 4,u 5,u 6,u 7,u 8,u 9,u 10,u 11,u 12,u 13,u 14,u 15,u 16,u 17,u 18,u 19,u 20,u 21,u 22,u 23,u 24,u 25,u 26,u 27,u 28,u 29,u 30,u 31,u 32,u 33,u 34,u 35,u 36,u 37,u 38,u 39,u 40,u 41,u 42,u 43,u 44,u 45,u 46,u 47,u 48,u 49,u 50,u 51,u 52,u 53,u 54,u 55,u 56,u 57,u 58,u 59,u 60,u 61,u 62,u 63,u 64,u 65,u 66,u 67,u 68,u 69,u 70,u 71,u 72,u 73,u 74,u 75,u 76,u 77,u 78,u 79,u 80,u 81,u 82,u 83,u 84,u 85,u 86,u 87,u 88,u 89,u 90,u 91,u 92,u 93,u 94,u 95,u 96,u 97,u 98,u 99,u 100,u 101,u 102,u 103,u 104,u 105,u 106,u 107,u 108,u 109,u 110,u 111,u 112,u 113,u 114,u 115,u 116,u 117,u 118,u 119,u 120,u 121,u 122,u 123,u 124,u 125,u 126,u 127,u 128,u 129,u 130,u 131,u 132,u 133,u 134,u 135,u 136,u 137,u 138,u 139,u 140,u 141,u 142,u 143,u 144,u 145,u 146,u 147,u 148,u 149,u 150,u 151,u 152,u 153,u 154,u 155,u 156,u 157,u 158,u 159,u 160,u 161,u 162,u 163,u 164,u 165,u 166,u 167,u 168,u 169,u 170,u 171,u 172,u 173,u 174,u 175,u 176,u 177,u 178,u 179,u 180,u 181,u 182,u 183,u 184]:=hu
   clear hu
   subst hu'
   change u 5=_ at f5
   change u 7=_ at f7
   change u 9=_ at f9
   change u 11=_ at f11
   change u 17=_ at f17
   rw [f5,f7,f9,f11,f17]
   clear f5 f7 f9 f11 f17 hsz
   have HEV:=Lib.hid hE
   clear hE
   by_cases hia:i<al
   case neg=>
    obtain rfl:i=al:=by omega
    have hi1:¬ (i:Int)<(i:Int):=by omega
    clear RX4 RA4 HOR HRO HAL9
    go_wp2_with fail
    refine(HWO.out V (HE4.out.trans HEV.out)).mono ?_
    rintro e w5 ⟨rfl,hN⟩
    have HE5:=Lib.hid ((HE4.out.trans HEV.out).trans hN)
    clear hN
    go_wp2
    go_ret
    exact⟨rfl,HE5.out⟩
   have hi1:(i:Int)<(al:Int):=by omega
   have hi0:(0:Int)≤(i:Int):=by omega
   have hiL:i<L.length:=by rw [HAL9.out];exact hia
   obtain⟨us,hur,hus⟩:=RA4.out V HEV.out
   obtain⟨ro,rc,q1,q2⟩:=hus i hiL
   rw [HAL9.out] at hur
   obtain⟨ga,ofa,ca,hqa,_,hca⟩:=rd_at_1 hur hia
   simp only [Value.slice.injEq] at hqa
   obtain⟨hq1,z2,hq3⟩:=hqa
   subst hq1 hq3
   rw [q1] at hca
   obtain⟨o1,_,o3⟩:=HRO.out _ (List.getElem_mem hiL)
   obtain⟨o,hoo⟩:∃ o,L[i]=o:=⟨_,rfl⟩
   rw [hoo] at hca q2 o1 o3
   rw [o1] at hca q2
   have hin:=allows_any b x R (by omega) V (HOR.out.keep HEV.out id) (.slice ro x rc) (o.map fun(i:Nat)=>(i:Int)) (by rw [nat_ints,List.length_map,o1];exact q2)
   rw [o3] at hin
   have HIN:=Lib.hid hin
   have hwi:IntKind.i64.wrap ((i:Int)+1)=(i:Int)+1:=IntWalk.i64_in _ (by omega)
   clear hin hur hus q1 q2 o1 o3 hoo z2 RX4 RA4
   go_wp2_with fail
   refine HIN.out.mono ?_
   rintro e V2 ⟨rfl,rfl⟩
   clear HIN hca
   go_wp2
   exact⟨⟨i+1,by omega,by first | rfl | trivial,⟨rfl,rfl,rfl,rfl,rfl,rfl⟩,HEV.out⟩,by first | (simp [intOf];done) | (simp [intOf];omega)⟩
  have hx1:(x:Int)<(n:Int):=by omega
  have hwx:IntKind.i64.wrap ((x:Int)+1)=(x:Int)+1:=IntWalk.i64_in _ (by omega)
  have hrs:=rowsN_succ n R x
  have hrl:(rowsN n R (x+1)).length=(rowsN n R x).length+(rowN R x n).length:=by rw [hrs,List.length_append]
  have hat:=fun(y:Nat) (hy:y<n) (h:R x y=true)=>need_at (n:=n) hxn hy h
  rw [← HQX.out] at hat
  obtain⟨K0,hK0⟩:∃ k,(rowsN n R x).length=k:=⟨_,rfl⟩
  rw [hK0] at hrl ⊢
  simp only [hK0] at hat
  have hKb:K0≤xl:=by
   rw [← hK0,← HXL.out,HQX.out]
   have:=(rowsN_pre n R x (n - x)).length_le
   rw [show x+(n - x)=n by omega] at this
   exact this
  have HRL:=Lib.hid hrl;have HAT:=Lib.hid hat
  clear hrs hrl hat hK0
  go_wp2
  refine wp_loop (NdM n x (.slice lo n lc) (.slice ao al ac) (.slice xo xl xc) (.pointer (some ⟨b,0,none⟩)) (fun y=>K0+(rowN R x y).length) w4) (fun a _=>((n:Int) - intOf (a.tmps.getD 13 undef)).toNat) ?_ ?_
  ·exact⟨0,by omega,rfl,⟨rfl,rfl,rfl,rfl,rfl,rfl,rfl,rfl⟩,HEW.out⟩
  clear HEW
  rintro⟨t,_⟩ V ⟨y,hy,hds,⟨hsz,f0,f5,f7,f9,f11,f12,f13⟩,hE⟩
  dsimp only at f11
  subst hds
  obtain⟨u',hu⟩:=frame_fun hsz
  obtain⟨u,rfl⟩:∃ x,x=u':=⟨_,rfl⟩
  have hu':t=#[u 0,u 1,u 2,u 3,u 4,u 5,u 6,u 7,u 8,u 9,u 10,u 11,u 12,u 13,u 14,u 15,u 16,u 17,u 18,u 19,u 20,u 21,u 22,u 23,u 24,u 25,u 26,u 27,u 28,u 29,u 30,u 31,u 32,u 33,u 34,u 35,u 36,u 37,u 38,u 39,u 40,u 41,u 42,u 43,u 44,u 45,u 46,u 47,u 48,u 49,u 50,u 51,u 52,u 53,u 54,u 55,u 56,u 57,u 58,u 59,u 60,u 61,u 62,u 63,u 64,u 65,u 66,u 67,u 68,u 69,u 70,u 71,u 72,u 73,u 74,u 75,u 76,u 77,u 78,u 79,u 80,u 81,u 82,u 83,u 84,u 85,u 86,u 87,u 88,u 89,u 90,u 91,u 92,u 93,u 94,u 95,u 96,u 97,u 98,u 99,u 100,u 101,u 102,u 103,u 104,u 105,u 106,u 107,u 108,u 109,u 110,u 111,u 112,u 113,u 114,u 115,u 116,u 117,u 118,u 119,u 120,u 121,u 122,u 123,u 124,u 125,u 126,u 127,u 128,u 129,u 130,u 131,u 132,u 133,u 134,u 135,u 136,u 137,u 138,u 139,u 140,u 141,u 142,u 143,u 144,u 145,u 146,u 147,u 148,u 149,u 150,u 151,u 152,u 153,u 154,u 155,u 156,u 157,u 158,u 159,u 160,u 161,u 162,u 163,u 164,u 165,u 166,u 167,u 168,u 169,u 170,u 171,u 172,u 173,u 174,u 175,u 176,u 177,u 178,u 179,u 180,u 181,u 182,u 183,u 184]:=hu
  clear hu
  subst hu'
  change u 0=_ at f0
  change u 5=_ at f5
  change u 7=_ at f7
  change u 9=_ at f9
  change u 11=_ at f11
  change u 12=_ at f12
  change u 13=_ at f13
  rw [f0,f5,f7,f9,f11,f12,f13]
  clear f0 f5 f7 f9 f11 f12 f13 hsz
  have HEV:=Lib.hid hE
  clear hE
  by_cases hyn:y<n
  case neg=>
   obtain rfl:y=n:=by omega
   have hy1:¬ (y:Int)<(y:Int):=by omega
   rw [← HRL.out]
   obtain⟨K1,hK1⟩:∃ k,(rowsN y R (x+1)).length=k:=⟨_,rfl⟩
   rw [hK1]
   have HK1:=Lib.hid hK1
   clear hK1 HRL HAT HQR HOR HRO RX4 RA4
   go_wp2
   exact⟨⟨x+1,by omega,by first | rfl | trivial,⟨rfl,rfl,rfl,rfl,rfl,by dsimp only;rw [HK1.out];rfl,rfl⟩,HEV.out⟩,by first | (simp [intOf];done) | (simp [intOf];omega)⟩
  have hy1:(y:Int)<(n:Int):=by omega
  have hwy:IntKind.i64.wrap ((y:Int)+1)=(y:Int)+1:=IntWalk.i64_in _ (by omega)
  have hrs:(rowN R x (y+1)).length=(rowN R x y).length+if R x y=true then 1 else 0:=by rw [rowN_succ,List.length_append];cases R x y <;> rfl
  have hat:=HAT.out y hyn
  have hqr:=HQR.out x y hxn hyn
  obtain⟨K,hK⟩:∃ k,K0+(rowN R x y).length=k:=⟨_,rfl⟩
  obtain⟨K2,hK2⟩:∃ k,K0+(rowN R x (y+1)).length=k:=⟨_,rfl⟩
  have hKK:K2=K+if R x y=true then 1 else 0:=by rw [← hK2,← hK,hrs];omega
  rw [hK] at hat ⊢
  have hne:((x:Int) !=(y:Int))=decide (x≠y):=by
   rw [Bool.eq_iff_iff,bne_iff_ne,decide_eq_true_iff]
   exact⟨fun h e=>h (by rw [e]),fun h e=>h (by omega)⟩
  have HK2:=Lib.hid hK2;have HKK:=Lib.hid hKK;have HAT2:=Lib.hid hat;have HQR2:=Lib.hid hqr
  have ht0:alwTo L x y 0=decide (x≠y):=by unfold alwTo;simp
  obtain⟨T,hT⟩:∃ T:Nat→Bool,alwTo L x y=T:=⟨_,rfl⟩
  have hT0:decide (x≠y)=T 0:=by rw [← hT,ht0]
  have hTs:∀ i (h:i<L.length),T (i+1)=(T i && beforeB L[i] x y):=fun i h=>by rw [← hT];exact alwTo_succ h
  have hTa:T al=R x y:=by rw [← hT,hqr,← HAL9.out];exact alwTo_all
  have hTn:∀ i,T i=false→R x y=false:=fun i h=>by rw [hqr];rw [← hT] at h;exact alwTo_stop h
  rw [hT0] at hne
  have HTS:=Lib.hid hTs;have HTA:=Lib.hid hTa;have HTN:=Lib.hid hTn
  have hisb:(isR n R (x:Int) (y:Int))=R x y:=isR_nat hxn hyn
  have his:=fun(D:World) (hD:Ext V D)=>is_R b n R (by omega) D (HOR.out.keep (HEV.out.trans hD) id) (x:Int) (y:Int)
  simp only [hisb] at his
  have HIS:=Lib.hid his
  clear hrs hat hqr hK hK2 hKK ht0 hT hT0 hTs hTa hTn his hisb HRL HAT HQR
  obtain⟨RB,hRB⟩:∃ r,R x y=r:=⟨_,rfl⟩
  rw [hRB] at HKK HAT2 HTA HIS
  simp only [hRB] at HTN
  clear hRB HQR2
  go_wp2
  refine wp_loop (NdI al x y K (.slice lo n lc) (.slice ao al ac) (.slice xo xl xc) (.pointer (some ⟨b,0,none⟩)) T V) (fun a _=>((al:Int) - intOf (a.tmps.getD 15 undef)).toNat) ?_ ?_
  ·exact⟨0,by omega,rfl,⟨rfl,rfl,rfl,rfl,rfl,rfl,rfl,rfl,by first | rfl | (dsimp only;rw [hne];rfl),rfl⟩,Turn.refl _ _⟩
  clear hne
  rintro⟨t,_⟩ U ⟨i,hi,hds,⟨hsz,f0,f5,f7,f9,f11,f12,f13,f14,f15⟩,hE⟩
  subst hds
  obtain⟨u',hu⟩:=frame_fun hsz
  obtain⟨u,rfl⟩:∃ x,x=u':=⟨_,rfl⟩
  have hu':t=#[u 0,u 1,u 2,u 3,u 4,u 5,u 6,u 7,u 8,u 9,u 10,u 11,u 12,u 13,u 14,u 15,u 16,u 17,u 18,u 19,u 20,u 21,u 22,u 23,u 24,u 25,u 26,u 27,u 28,u 29,u 30,u 31,u 32,u 33,u 34,u 35,u 36,u 37,u 38,u 39,u 40,u 41,u 42,u 43,u 44,u 45,u 46,u 47,u 48,u 49,u 50,u 51,u 52,u 53,u 54,u 55,u 56,u 57,u 58,u 59,u 60,u 61,u 62,u 63,u 64,u 65,u 66,u 67,u 68,u 69,u 70,u 71,u 72,u 73,u 74,u 75,u 76,u 77,u 78,u 79,u 80,u 81,u 82,u 83,u 84,u 85,u 86,u 87,u 88,u 89,u 90,u 91,u 92,u 93,u 94,u 95,u 96,u 97,u 98,u 99,u 100,u 101,u 102,u 103,u 104,u 105,u 106,u 107,u 108,u 109,u 110,u 111,u 112,u 113,u 114,u 115,u 116,u 117,u 118,u 119,u 120,u 121,u 122,u 123,u 124,u 125,u 126,u 127,u 128,u 129,u 130,u 131,u 132,u 133,u 134,u 135,u 136,u 137,u 138,u 139,u 140,u 141,u 142,u 143,u 144,u 145,u 146,u 147,u 148,u 149,u 150,u 151,u 152,u 153,u 154,u 155,u 156,u 157,u 158,u 159,u 160,u 161,u 162,u 163,u 164,u 165,u 166,u 167,u 168,u 169,u 170,u 171,u 172,u 173,u 174,u 175,u 176,u 177,u 178,u 179,u 180,u 181,u 182,u 183,u 184]:=hu
  clear hu
  subst hu'
  change u 0=_ at f0
  change u 5=_ at f5
  change u 7=_ at f7
  change u 9=_ at f9
  change u 11=_ at f11
  change u 12=_ at f12
  change u 13=_ at f13
  change u 14=_ at f14
  change u 15=_ at f15
  rw [f0,f5,f7,f9,f11,f12,f13,f14,f15]
  clear f0 f5 f7 f9 f11 f12 f13 f14 f15 hsz
  have HEU:=Lib.hid hE
  clear hE
  by_cases hgo:i<al∧T i=true
  case neg=>
   have hRT:T i=RB:=by
    cases hq:T i with
    | false=>exact(HTN.out i hq).symm
    | true=>
     have:i=al:=by
      apply Nat.le_antisymm hi
      apply Nat.le_of_not_lt
      exact fun h=>hgo ⟨h,hq⟩
     rw [← hq,this];exact HTA.out
   have hst:¬ (i:Int)<(al:Int)∨RB=false:=by
    by_cases h:i<al
    ·right
     rw [← hRT]
     cases hq:T i with
     | false=>rfl
     | true=>exact absurd ⟨h,hq⟩ hgo
    ·left;omega
   rw [hRT]
   have HST:=Lib.hid hst
   clear hRT hst hgo HTN HTA HTS HRO RA4
   cases RB with
   | false=>
    have hk2:=HKK.out
    rw [if_neg Bool.false_ne_true,Nat.add_zero] at hk2
    subst hk2
    clear HKK HAT2 RX4 HST
    by_cases hial:i<al
    ·have hi1:(i:Int)<(al:Int):=by omega
     go_wp2_with fail
     refine(HIS.out U HEU.out).mono ?_
     rintro e U2 ⟨rfl,rfl⟩
     clear HIS
     go_wp2
     exact⟨⟨y+1,by omega,by first | rfl | trivial,⟨rfl,rfl,rfl,rfl,rfl,by dsimp only;rw [HK2.out];rfl,rfl,rfl⟩,HEV.out.trans HEU.out⟩,by first | (simp [intOf];done) | (simp [intOf];omega)⟩
    ·have hi1:¬ (i:Int)<(al:Int):=by omega
     go_wp2_with fail
     refine(HIS.out U HEU.out).mono ?_
     rintro e U2 ⟨rfl,rfl⟩
     clear HIS
     go_wp2
     exact⟨⟨y+1,by omega,by first | rfl | trivial,⟨rfl,rfl,rfl,rfl,rfl,by dsimp only;rw [HK2.out];rfl,rfl,rfl⟩,HEV.out.trans HEU.out⟩,by first | (simp [intOf];done) | (simp [intOf];omega)⟩
   | true=>
    have hi1:¬ (i:Int)<(al:Int):=by
     rcases HST.out with h | h
     ·exact h
     ·cases h
    have hk2:=HKK.out
    rw [if_pos rfl] at hk2
    have hat:=HAT2.out rfl
    have hKX:K<X.length:=(List.getElem?_eq_some_iff.1 hat).1
    have hXK:X[K]=((x:Int),(y:Int)):=(List.getElem?_eq_some_iff.1 hat).2
    have hrx:=RX4.out U (HEV.out.trans HEU.out)
    obtain⟨_,_,xo2,xc2,hqx,hcells⟩:=hrx
    simp only [Value.slice.injEq] at hqx
    obtain⟨hx9,_,hx8⟩:=hqx
    subst hx9 hx8
    obtain⟨gx,ox,hxa,_,hcx⟩:=hcells (by omega)
    subst hxa
    have c1:=hcx (K*2) (by omega)
    have c2:=hcx (K*2+1) (by omega)
    rw [prs_fst _ _ hKX,List.getD_eq_getElem?_getD,hat] at c1
    rw [prs_snd _ _ hKX,List.getD_eq_getElem?_getD,hat,← Nat.add_assoc] at c2
    dsimp only [Option.getD_some] at c1 c2
    rw [HXL.out] at hKX
    have hpair:=fun W x1 x2 y1 y2=>run_equalIn_pair (P:=Tryz.prog) W 9998 73 3 .i64 x1 x2 y1 y2 Tryz.underlying73 Tryz.underlying3 (by kernel_rfl)
    have g4:¬ (K:Int)≥(xl:Int):=by omega
    have g4a:¬ (xl:Int)≤(K:Int):=by omega
    have g4b:decide ((K:Int)≥(xl:Int))=false:=decide_eq_false g4
    have g5:(K:Int)<(xl:Int):=by omega
    have g6:(0:Int)≤(K:Int):=by omega
    have hwk:IntKind.i64.wrap ((K:Int)+1)=(K:Int)+1:=IntWalk.i64_in _ (by omega)
    have hk3:(K2:Int)=(K:Int)+1:=by omega
    have HK3:=Lib.hid hk3
    clear hk2 hk3 hat hXK hcx hcells HKK HAT2 RX4 HST
    go_wp2_with fail
    refine(HIS.out U HEU.out).mono ?_
    rintro e U2 ⟨rfl,rfl⟩
    clear HIS
    go_wp2
    exact⟨⟨y+1,by omega,by first | rfl | trivial,⟨rfl,rfl,rfl,rfl,rfl,by dsimp only;rw [HK2.out,HK3.out];rfl,rfl,rfl⟩,HEV.out.trans HEU.out⟩,by first | (simp [intOf];done) | (simp [intOf];omega)⟩
  obtain⟨hial,hTi⟩:=hgo
  rw [hTi]
  have hi1:(i:Int)<(al:Int):=by omega
  have hi0:(0:Int)≤(i:Int):=by omega
  have hiL:i<L.length:=by rw [HAL9.out];exact hial
  have hwi:IntKind.i64.wrap ((i:Int)+1)=(i:Int)+1:=IntWalk.i64_in _ (by omega)
  have hts:=HTS.out i hiL
  rw [hTi,Bool.true_and] at hts
  obtain⟨o1,o2,o9⟩:=HRO.out _ (List.getElem_mem hiL)
  clear o9
  obtain⟨us,hur,hus⟩:=RA4.out U (HEV.out.trans HEU.out)
  obtain⟨ro,rc,q1,q2⟩:=hus i hiL
  rw [HAL9.out] at hur
  obtain⟨ga,ofa,ca,hqa,_,hca⟩:=rd_at_1 hur hial
  simp only [Value.slice.injEq] at hqa
  obtain⟨hq1,z2,hq3⟩:=hqa
  subst hq1 hq3
  rw [q1] at hca
  obtain⟨o,hoo⟩:∃ o,L[i]=o:=⟨_,rfl⟩
  simp only [hoo] at hca q2 o1 o2 hts
  rw [o1] at hca q2
  have hix:o.idxOf x<o.length:=List.idxOf_lt_length_of_mem (o2 x hxn)
  rw [o1] at hix
  rw [← noY_bef] at hts
  obtain⟨c,hc⟩:∃ c,o.idxOf x=c:=⟨_,rfl⟩
  rw [hc] at hts hix
  have hcx:o[c]?=some x:=by rw [← hc];exact List.getElem?_eq_some_iff.2 ⟨List.idxOf_lt_length_of_mem (o2 x hxn),List.getElem_idxOf _⟩
  have hcn:∀ j (h:j<o.length),j<c→o[j]≠x:=fun j h hj e=>by
   rw [← hc] at hj
   exact absurd (List.not_of_lt_findIdx hj) (by simp [e])
  have hns:∀ j (h:j<o.length),noY o y (j+1)=(noY o y j && !(o[j] == y)):=fun j h=>noY_succ h
  have hn0:noY o y 0=true:=by unfold noY;simp
  obtain⟨S,hS⟩:∃ S:Nat→Bool,noY o y=S:=⟨_,rfl⟩
  simp only [hS] at hts hns hn0
  have HTS1:=Lib.hid hts;have HCX:=Lib.hid hcx;have HCN:=Lib.hid hcn;have HNS:=Lib.hid hns;have HN0:=Lib.hid hn0;have HOL:=Lib.hid o1;have HQ2:=Lib.hid q2;have HCA:=Lib.hid hca
  clear hts hcx hcn hns hn0 o1 o2 q1 q2 hca hur hus hoo hc hS z2 HTS HTA HTN HRO hTi RA4 HIS HKK HAT2 HK2 RX4 hiL
  go_wp2
  refine wp_loop (NdJ c x y K i (.slice lo n lc) (.slice (some ⟨ga,ofa,none⟩) al ac) (.slice xo xl xc) (.pointer (some ⟨b,0,none⟩)) S U) (fun a _=>((c:Int) - intOf (a.tmps.getD 16 undef)).toNat) ?_ ?_
  ·exact⟨0,by omega,rfl,⟨rfl,rfl,rfl,rfl,rfl,rfl,rfl,rfl,by dsimp only;rw [HN0.out];rfl,rfl,rfl⟩,Turn.refl _ _⟩
  rintro⟨t,_⟩ Y ⟨j,hj,hds,⟨hsz,f0,f5,f7,f9,f11,f12,f13,f14,f15,f16⟩,hE⟩
  subst hds
  obtain⟨u',hu⟩:=frame_fun hsz
  obtain⟨u,rfl⟩:∃ x,x=u':=⟨_,rfl⟩
  have hu':t=#[u 0,u 1,u 2,u 3,u 4,u 5,u 6,u 7,u 8,u 9,u 10,u 11,u 12,u 13,u 14,u 15,u 16,u 17,u 18,u 19,u 20,u 21,u 22,u 23,u 24,u 25,u 26,u 27,u 28,u 29,u 30,u 31,u 32,u 33,u 34,u 35,u 36,u 37,u 38,u 39,u 40,u 41,u 42,u 43,u 44,u 45,u 46,u 47,u 48,u 49,u 50,u 51,u 52,u 53,u 54,u 55,u 56,u 57,u 58,u 59,u 60,u 61,u 62,u 63,u 64,u 65,u 66,u 67,u 68,u 69,u 70,u 71,u 72,u 73,u 74,u 75,u 76,u 77,u 78,u 79,u 80,u 81,u 82,u 83,u 84,u 85,u 86,u 87,u 88,u 89,u 90,u 91,u 92,u 93,u 94,u 95,u 96,u 97,u 98,u 99,u 100,u 101,u 102,u 103,u 104,u 105,u 106,u 107,u 108,u 109,u 110,u 111,u 112,u 113,u 114,u 115,u 116,u 117,u 118,u 119,u 120,u 121,u 122,u 123,u 124,u 125,u 126,u 127,u 128,u 129,u 130,u 131,u 132,u 133,u 134,u 135,u 136,u 137,u 138,u 139,u 140,u 141,u 142,u 143,u 144,u 145,u 146,u 147,u 148,u 149,u 150,u 151,u 152,u 153,u 154,u 155,u 156,u 157,u 158,u 159,u 160,u 161,u 162,u 163,u 164,u 165,u 166,u 167,u 168,u 169,u 170,u 171,u 172,u 173,u 174,u 175,u 176,u 177,u 178,u 179,u 180,u 181,u 182,u 183,u 184]:=hu
  clear hu
  subst hu'
  change u 0=_ at f0
  change u 5=_ at f5
  change u 7=_ at f7
  change u 9=_ at f9
  change u 11=_ at f11
  change u 12=_ at f12
  change u 13=_ at f13
  change u 14=_ at f14
  change u 15=_ at f15
  change u 16=_ at f16
  rw [f0,f5,f7,f9,f11,f12,f13,f14,f15,f16]
  clear f0 f5 f7 f9 f11 f12 f13 f14 f15 f16 hsz
  have HEY:=Lib.hid hE
  have hca:=hE.cell_some HCA.out id
  clear hE
  have hj1:(j:Int)<(n:Int):=by omega
  have hj0:(0:Int)≤(j:Int):=by omega
  have hjo:j<o.length:=by rw [HOL.out];omega
  have hwj:IntKind.i64.wrap ((j:Int)+1)=(j:Int)+1:=IntWalk.i64_in _ (by omega)
  obtain⟨gr,ofr,cr,hqr,_,hcr⟩:=rd_at_1 (HQ2.out.ext HEY.out) (show j<n by omega)
  simp only [Value.slice.injEq] at hqr
  obtain⟨hr1,z1,hr3⟩:=hqr
  subst hr1 hr3
  have hnv:(natV o).getD j undef=.int .i64 (o[j]:Nat):=by unfold natV;rw [List.getD_eq_getElem?_getD,List.getElem?_map,List.getElem?_eq_getElem hjo];rfl
  rw [hnv] at hcr
  by_cases hjc:j<c
  case neg=>
   obtain rfl:j=c:=by omega
   have hox:o[j]=x:=(List.getElem?_eq_some_iff.1 HCX.out).2
   rw [hox] at hcr
   have hxx:((x:Int) !=(x:Int))=false:=by simp
   rw [← HTS1.out]
   clear hox hnv z1 HCX HCN HNS HN0 HQ2 hjo
   go_wp2
   exact⟨⟨i+1,by omega,by first | rfl | trivial,⟨rfl,rfl,rfl,rfl,rfl,rfl,rfl,rfl,rfl,rfl⟩,HEU.out.trans HEY.out⟩,by first | (simp [intOf];done) | (simp [intOf];omega)⟩
  have hxne:=HCN.out j hjo hjc
  have hsn:=HNS.out j hjo
  obtain⟨v,hv⟩:∃ v,o[j]=v:=⟨_,rfl⟩
  rw [hv] at hcr hxne hsn
  have hxb:((v:Int) !=(x:Int))=true:=by simp;omega
  have hyb:((v:Int) !=(y:Int))=!(v == y):=by
   rw [Bool.eq_iff_iff,bne_iff_ne,Bool.not_eq_true',beq_eq_false_iff_ne]
   exact⟨fun h e=>h (by rw [e]),fun h e=>h (by omega)⟩
  obtain⟨S0,hS0⟩:∃ s,S j=s:=⟨_,rfl⟩
  obtain⟨vy,hvy⟩:∃ s,(!(v == y))=s:=⟨_,rfl⟩
  rw [hvy] at hyb hsn
  rw [hS0] at hsn ⊢
  have HSN:=Lib.hid hsn
  clear hxne hsn hv hnv z1 hvy hS0 HCX HCN HNS HN0 HQ2 HTS1 hjo
  cases S0 <;> cases vy
  all_goals
   have h9:=HSN.out
   have HS9:=Lib.hid h9
   clear h9 HSN
   go_wp2
   exact⟨⟨j+1,by omega,by first | rfl | trivial,⟨rfl,rfl,rfl,rfl,rfl,rfl,rfl,rfl,by dsimp only;rw [HS9.out];rfl,rfl,rfl⟩,HEY.out⟩,by first | (simp [intOf];done) | (simp [intOf];omega)⟩
end Go.Proofs.YtfdlhlghcbeblaaGreatDoor
