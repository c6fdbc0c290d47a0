/- ablautref14.permutation. slices.Clone over rows of states and of ints (printed by genclone.py). An element of a row of structs written over. order.apply (first printed by genorda.py; since then changed by hand). order.explained (printed by genordx.py). -/
import Derived.Test.YtfdlhlghcbeblaaGreatDoorG33
import Derived.Test.YtfdlhlghcbeblaaGreatDoorG31
import Derived.Test.YtfdlhlghcbeblaaGreatDoorG19
import Derived.Test.YtfdlhlghcbeblaaGreatDoorG13
import Derived.Test.YtfdlhlghcbeblaaGreatDoorG18
import Derived.Test.YtfdlhlghcbeblaaGreatDoorG11
import Derived.Test.YtfdlhlghcbeblaaGreatDoorG29
import Derived.Test.YtfdlhlghcbeblaaGreatDoorG12
import Derived.Test.YtfdlhlghcbeblaaGreatDoorG05
import Derived.Lib.SliceRun
set_option maxRecDepth 100000
set_option maxHeartbeats 8000000
namespace Go.Proofs.YtfdlhlghcbeblaaGreatDoor
open Go.RowKit Go.Ab
attribute [local go_sem] Oper.semAt_some wide_fn wide_depth
end Go.Proofs.YtfdlhlghcbeblaaGreatDoor
set_option maxRecDepth 100000
set_option maxHeartbeats 8000000
namespace Go.Proofs.YtfdlhlghcbeblaaGreatDoor
open Go.RowKit Go.Ab
attribute [local go_sem] Oper.semAt_some wide_fn wide_depth
theorem infoI1:(Tryz.prog.info? 3).map (fun i=>(i.zero,i.size,i.bytes))=some (some (.int .i64 0),1,8):=by kernel_rfl
theorem clone_st{w:World}{ao:Option Addr}{n cap:Nat}{xs:List Value}(hv:Rd w (.slice ao n cap) n 2 xs) (h1:∀ u∈xs,u.oneCell'=true) (hn:n≤1000000) :
  Calls Tryz.prog 179 #[.slice ao n cap] w fun e w'=>∃ bo c,e=.returned (.slice bo n c)∧w'.ownsRow w.heap.size 240 2 (.slice bo n c) n xs∧Ext w w':=by
 have HV:=Lib.hid hv;have H1:=Lib.hid h1
 obtain⟨g1,g2,ao',cap',hq,g3⟩:=hv
 simp only [Value.slice.injEq,true_and] at hq
 obtain⟨rfl,rfl⟩:=hq
 clear h1
 unfold maxLen at g2
 cases ao with
 | none=>
  have hn0:n=0:=by
   apply Nat.eq_zero_of_not_pos
   intro h
   obtain⟨g,off,h1,_⟩:=g3 h
   cases h1
  subst hn0
  have hw:xs=[]:=List.eq_nil_of_length_eq_zero (by omega)
  subst hw
  clear g3 g1
  have hq:=fun(w:World)=>Lib.run_eql_slice_nil (P:=Tryz.prog) w 178 240 none 0 cap 0 0 Tryz.underlying178
  go_enter Tryz.func179,Tryz.ntmps179
  go_wp2
  go_ret
  exact⟨none,0,rfl,World.ownsRow_nil _ _ _ _,Turn.refl _ _⟩
 | some a=>
  clear g3 g1
  have hq:=fun(w:World)=>Lib.run_eql_slice_nil (P:=Tryz.prog) w 178 240 (some a) n cap 0 0 Tryz.underlying178
  go_enter Tryz.func179,Tryz.ntmps179
  have hA:Ext w (w.alloc (.cells #[] 240)):=(Turn.refl _ w).alloc _
  have hO:=World.ownsRow_made (base:=w.heap.size) (e:=240) (size:=2) w #[] 0 (Nat.le_refl _) (by decide) rfl
  have hrd:=HV.out.ext hA
  have HO:=Lib.hid hO;have HRD:=Lib.hid hrd;have HA:=Lib.hid hA
  clear hO hrd hA
  go_wp2_with (at_builtin;refine append_rd rfl (.tmp 5) (.tmp 6) 178 rfl w.heap.size 240 _ 2 32 Tryz.underlying178 @infoSt rfl (by decide) _ 0 [] rfl HO.out _ _ _ _ rfl HRD.out H1.out ?c3 ?c4 ?c5 ?_)
  case c3=>unfold maxLen;omega
  case c4=>omega
  case c5=>exact HA.out.size
  intro ao' c' W3 hO3 hT3 _
  have hE3:Ext w W3:=HA.out.after hT3 (fun b h1 e=>by simp [Value.ownBlock] at e;omega)
  have HO3:=Lib.hid hO3;have HE3:=Lib.hid hE3
  clear hO3 hE3 hT3
  go_wp2
  go_ret
  refine⟨ao',c',?_,?_,HE3.out⟩
  ·first | rfl | simp
  ·have:=HO3.out
   simpa using this
theorem clone_int{w:World}{ao:Option Addr}{n cap:Nat}{xs:List Value}(hv:Rd w (.slice ao n cap) n 1 xs) (h1:∀ u∈xs,u.oneCell'=true) (hn:n≤1000000) :
  Calls Tryz.prog 77 #[.slice ao n cap] w fun e w'=>∃ bo c,e=.returned (.slice bo n c)∧w'.ownsRow w.heap.size 3 1 (.slice bo n c) n xs∧Ext w w':=by
 have HV:=Lib.hid hv;have H1:=Lib.hid h1
 obtain⟨g1,g2,ao',cap',hq,g3⟩:=hv
 simp only [Value.slice.injEq,true_and] at hq
 obtain⟨rfl,rfl⟩:=hq
 clear h1
 unfold maxLen at g2
 cases ao with
 | none=>
  have hn0:n=0:=by
   apply Nat.eq_zero_of_not_pos
   intro h
   obtain⟨g,off,h1,_⟩:=g3 h
   cases h1
  subst hn0
  have hw:xs=[]:=List.eq_nil_of_length_eq_zero (by omega)
  subst hw
  clear g3 g1
  have hq:=fun(w:World)=>Lib.run_eql_slice_nil (P:=Tryz.prog) w 48 3 none 0 cap 0 0 Tryz.underlying48
  go_enter Tryz.func77,Tryz.ntmps77
  go_wp2
  go_ret
  exact⟨none,0,rfl,World.ownsRow_nil _ _ _ _,Turn.refl _ _⟩
 | some a=>
  clear g3 g1
  have hq:=fun(w:World)=>Lib.run_eql_slice_nil (P:=Tryz.prog) w 48 3 (some a) n cap 0 0 Tryz.underlying48
  go_enter Tryz.func77,Tryz.ntmps77
  have hA:Ext w (w.alloc (.cells #[] 3)):=(Turn.refl _ w).alloc _
  have hO:=World.ownsRow_made (base:=w.heap.size) (e:=3) (size:=1) w #[] 0 (Nat.le_refl _) (by decide) rfl
  have hrd:=HV.out.ext hA
  have HO:=Lib.hid hO;have HRD:=Lib.hid hrd;have HA:=Lib.hid hA
  clear hO hrd hA
  go_wp2_with (at_builtin;refine append_rd rfl (.tmp 5) (.tmp 6) 48 rfl w.heap.size 3 _ 1 8 Tryz.underlying48 @infoI1 rfl (by decide) _ 0 [] rfl HO.out _ _ _ _ rfl HRD.out H1.out ?c3 ?c4 ?c5 ?_)
  case c3=>unfold maxLen;omega
  case c4=>omega
  case c5=>exact HA.out.size
  intro ao' c' W3 hO3 hT3 _
  have hE3:Ext w W3:=HA.out.after hT3 (fun b h1 e=>by simp [Value.ownBlock] at e;omega)
  have HO3:=Lib.hid hO3;have HE3:=Lib.hid hE3
  clear hO3 hE3 hT3
  go_wp2
  go_ret
  refine⟨ao',c',?_,?_,HE3.out⟩
  ·first | rfl | simp
  ·have:=HO3.out
   simpa using this
end Go.Proofs.YtfdlhlghcbeblaaGreatDoor
namespace Go.Proofs.YtfdlhlghcbeblaaGreatDoor
open Go.RowKit Go.Ab
theorem own_setS{w:World}{base:Nat}{e:TypeId}{sz g n cap j:Nat}{xs cs:List Value}(h:w.ownsRow base e sz (.slice (some ⟨g,0,none⟩) n cap) n xs) (hj:j<n) (hc:cs.length=sz) :
  (w.setCells g (j*sz) cs).ownsRow base e sz (.slice (some ⟨g,0,none⟩) n cap) n (overL xs (j*sz) cs):=by
 have hl:=h.1
 rcases h.2 with ⟨q,_⟩ | ⟨g',cap',cur,q,hb,hg,hnc,hcm,hcs,htake⟩
 ·cases q
 ·simp only [Value.slice.injEq,Option.some.injEq,Addr.mk.injEq] at q
  obtain⟨⟨rfl,_,_⟩,_,rfl⟩:=q
  have hle:j*sz+cs.length≤n*sz:=by
   have:=Nat.mul_le_mul_right sz (show j+1≤n by omega)
   rw [Nat.add_mul,Nat.one_mul] at this
   omega
  refine⟨by rw [overL_length];exact hl,.inr ⟨g,cap,_,rfl,hb,setCells_heap cs _ w cur hg,hnc,hcm,by simp [overL_length,hcs],?_⟩⟩
  rw [show ((overL cur.toList (j*sz) cs).toArray.toList)=overL cur.toList (j*sz) cs from rfl,overL_take _ _ _ _ hle,htake]
theorem flat_length{α:Type}{sz:Nat}{os:List (α × List Value)} (h:∀ p∈os,p.2.length=sz):(os.flatMap (·.2)).length=os.length*sz:=by
 induction os with
 | nil=>simp
 | cons p ps ih=>
  rw [List.flatMap_cons,List.length_append,h p (by simp),ih (fun p hp=>h p (by simp [hp])),List.length_cons,Nat.add_mul,Nat.one_mul,Nat.add_comm]
theorem over_set{α:Type}{sz j:Nat}{os:List (α × List Value)} {x:α} {cs:List Value} (h0:0<sz) (h:∀ p∈os,p.2.length=sz) (hj:j<os.length) (hc:cs.length=sz):overL (os.flatMap (·.2)) (j*sz) cs=(os.set j (x,cs)).flatMap (·.2):=by
 have h2:∀ p∈os.set j (x,cs),p.2.length=sz:=fun p hp=>by
  rcases List.mem_or_eq_of_mem_set hp with hp | rfl
  ·exact h p hp
  ·exact hc
 have hle:j*sz+cs.length≤(os.flatMap (·.2)).length:=by
  rw [flat_length h]
  have:=Nat.mul_le_mul_right sz (show j+1≤os.length by omega)
  rw [Nat.add_mul,Nat.one_mul] at this
  omega
 apply List.ext_getElem?
 intro i
 rw [overL_get _ _ _ _ hle]
 by_cases hi:i<os.length*sz
 ·have hr:i % sz<sz:=Nat.mod_lt _ h0
  have hq:i / sz<os.length:=(Nat.div_lt_iff_lt_mul h0).2 hi
  have he:i / sz*sz+i % sz=i:=by rw [Nat.mul_comm];exact Nat.div_add_mod i sz
  have r1:=rows_flat h2 (i:=i / sz) (j:=i % sz) (by rw [List.length_set];exact hq) hr
  have r2:=rows_flat h (i:=i / sz) (j:=i % sz) hq hr
  rw [he] at r1 r2
  rw [r1,r2]
  by_cases hk:i / sz=j
  ·subst hk
   rw [if_pos ⟨by omega,by omega⟩]
   simp only [List.getElem_set_self]
   congr 1;omega
  ·rw [if_neg,List.getElem_set_ne (fun e=>hk e.symm)]
   rintro⟨q1,q2⟩
   apply hk
   rw [hc] at q2
   have a1:j≤i / sz:=(Nat.le_div_iff_mul_le h0).2 q1
   have a2:i / sz<j+1:=(Nat.div_lt_iff_lt_mul h0).2 (by rw [Nat.add_mul,Nat.one_mul];omega)
   omega
 ·have e1:((os.set j (x,cs)).flatMap (·.2))[i]?=none:=List.getElem?_eq_none (by rw [flat_length h2,List.length_set];omega)
  rw [e1,if_neg,List.getElem?_eq_none (by rw [flat_length h];omega)]
  rintro⟨q1,q2⟩
  rw [flat_length h] at hle
  omega
end Go.Proofs.YtfdlhlghcbeblaaGreatDoor
set_option maxRecDepth 100000
set_option maxHeartbeats 16000000
namespace Go.Proofs.YtfdlhlghcbeblaaGreatDoor
open Go.RowKit Go.Ab
attribute [local go_sem] Oper.semAt_some wide_fn wide_depth
def stepO(l:LawD)(s:Option Wd):Option Wd:=s.bind fun u=>if trE l u=0 then some (appL l u) else none
def KeptSt(S:Nat→Prop)(os:List (Option Wd × List Value)):Prop:=∀ p∈os,∀ u,p.1=some u→∀ v x,p.2=[v,x]→KeptIn S v
structure StRow (B:Nat) (S:Nat→Prop) (o:Value) (W:World) (n:Nat) (os:List (Option Wd × List Value)):Prop where
 own:W.ownsRow B 240 2 o n (os.flatMap (·.2))
 len:os.length=n
 two:∀ p∈os,p.2.length=2
 ok:∀ p∈os,StateOk W p.1 p.2
 kept:KeptSt (fun g=>S g∧o.ownBlock≠some g) os
theorem one_low{W:World}{v:Value}{u:Wd}(h:OneW W v u):KeptIn (fun g=>g<W.heap.size) v:=by
 obtain⟨ao,c,rfl,⟨⟨_,_,ao',cap,hv,h3⟩,_⟩,_⟩:=h
 intro g o n c' e h0
 cases e
 cases hv
 obtain⟨g',off,ha,hg,_⟩:=h3 h0
 simp only [Option.some.injEq,Addr.mk.injEq] at ha
 rw [ha.1];exact hg
theorem st_keep{S:Nat→Prop}{A B:World}{s:Option Wd}{cs:List Value}(h:StateOk A s cs)(ht:Turn (fun b=>¬ S b) A B) (hS:∀ u,s=some u→∀ v x,cs=[v,x]→KeptIn S v):StateOk B s cs:=by
 obtain⟨ao,n,c,rfl,h2⟩:=h
 refine⟨ao,n,c,rfl,fun u hu=>?_⟩
 obtain⟨ao',c',hq,hw,hc⟩:=h2 u hu
 have hk:=hS u hu _ _ rfl
 rw [hq] at hk ⊢
 exact⟨ao',c',rfl,wd_keepS hw ht hk,hc⟩
theorem StRow.ext{b:Nat}{S:Nat→Prop}{o:Value}{A B:World}{n:Nat}{os:List (Option Wd × List Value)} (h:StRow b S o A n os) (ht:Ext A B):StRow b S o B n os:=
 ⟨own_ext h.own ht,h.len,h.two,fun p hp=>(h.ok p hp).ext ht,h.kept⟩
theorem StRow.at{b:Nat}{S:Nat→Prop}{o:Value}{A:World}{n:Nat}{os:List (Option Wd × List Value)} (h:StRow b S o A n os):StatesAt A o os:=by
 refine⟨by rw [h.len];exact Rd.of_own h.own,fun p hp=>⟨h.two p hp,h.ok p hp⟩⟩
theorem StRow.set{B:Nat}{S:Nat→Prop}{g cap:Nat}{A:World}{n j:Nat}{os:List (Option Wd × List Value)} (h:StRow B S (.slice (some ⟨g,0,none⟩) n cap) A n os) (hj:j<n) {s:Option Wd} {v x:Value} (hs:StateOk A s [v,x]) (hk:∀ u,s=some u→KeptIn (fun b=>S b∧b≠g) v) :
  StRow B S (.slice (some ⟨g,0,none⟩) n cap) (A.setCells g (j*2) [v,x]) n (os.set j (s,[v,x])):=by
 have hb:=h.own
 have hT:=Turn.setCells A g [v,x] (j*2)
 have hmem:∀ p∈os.set j (s,[v,x]),p∈os∨p=(s,[v,x]):=fun p hp=>List.mem_or_eq_of_mem_set hp
 have hown:(Value.slice (some ⟨g,0,none⟩) n cap).ownBlock=some g:=rfl
 refine⟨?_,by rw [List.length_set];exact h.len,fun p hp=>?_,fun p hp=>?_,fun p hp u hu v' x' e=>?_⟩
 ·rw [← over_set (by decide) h.two (by rw [h.len];exact hj) rfl]
  exact own_setS hb hj rfl
 ·rcases hmem p hp with hp | rfl
  ·exact h.two p hp
  ·rfl
 ·rcases hmem p hp with hp | rfl
  ·refine st_keep (S:=fun b=>b≠g) (h.ok p hp) (hT.mono fun b _ e hn=>hn e) (fun u hu v' x' e=>(h.kept p hp u hu v' x' e).mono fun b hb e2=>hb.2 (by rw [e2];rfl))
  ·exact st_keep (S:=fun b=>b≠g) hs (hT.mono fun b _ e hn=>hn e) (fun u hu v' x' e=>by cases e;exact(hk u hu).mono fun b hb=>hb.2)
 ·rcases hmem p hp with hp | rfl
  ·exact h.kept p hp u hu v' x' e
  ·cases e
   exact(hk u hu).mono fun b hb=>⟨hb.1,fun e2=>hb.2 (by rw [hown] at e2;exact(Option.some.inj e2).symm)⟩
theorem step_map{l:LawD}{os ss:List (Option Wd × List Value)} {k:Nat} (hk:k<ss.length) (h:os.map (·.1)=(ss.take k).map (fun p=>stepO l p.1)++(ss.drop k).map (·.1)) :
  (∀ cs,(os.set k (stepO l ss[k].1,cs)).map (·.1)=(ss.take (k+1)).map (fun p=>stepO l p.1)++(ss.drop (k+1)).map (·.1))∧(ss[k].1=none→os.map (·.1)=(ss.take (k+1)).map (fun p=>stepO l p.1)++(ss.drop (k+1)).map (·.1)):=by
 have h1:(ss.drop k).map (·.1)=ss[k].1::(ss.drop (k+1)).map (·.1):=by rw [List.drop_eq_getElem_cons hk];rfl
 have h2:(ss.take (k+1)).map (fun p=>stepO l p.1)=(ss.take k).map (fun p=>stepO l p.1)++[stepO l ss[k].1]:=by rw [List.take_succ_eq_append_getElem hk,List.map_append];rfl
 have hlen:((ss.take k).map (fun p=>stepO l p.1)).length=k:=by rw [List.length_map,List.length_take];omega
 rw [h1] at h
 constructor
 ·intro cs
  rw [List.map_set,h,h2,List.append_assoc]
  rw [List.set_append_right _ _ (by omega),hlen,Nat.sub_self]
  rfl
 ·intro h0
  rw [h,h2,h0,List.append_assoc];rfl
theorem apply_any{w:World}{l:LawD}{cs:List Value}{ss:List (Option Wd × List Value)} {so:Option Addr} {n sc:Nat} (hl:LawAt w l cs) (hs:StatesAt w (.slice so n sc) ss) (hsn:ss.length=n) (hb:n≤1000) (hT:Tab w) (S0:Nat→Prop) (hS0:KeptSt S0 ss) :
  Calls Tryz.prog 136 #[.agg cs.toArray,.slice so n sc] w fun e w'=>∃ ao c os,e=.returned (.slice ao n c)∧StRow w.heap.size (fun g=>S0 g∨w.heap.size≤g) (.slice ao n c) w' n os∧os.map (·.1)=ss.map (fun p=>stepO l p.1)∧Ext w w':=by
 have h1c:∀ u∈ss.flatMap (·.2),u.oneCell'=true:=fun u hu=>by
  obtain⟨p,hp,hu⟩:=List.mem_flatMap.1 hu
  obtain⟨_,ao,m,c,h1,_⟩:=hs.2 p hp
  rw [h1] at hu
  simp at hu
  rcases hu with rfl | rfl <;> rfl
 have hcl:=fun(V:World) (hE:Ext w V)=>clone_st (cap:=sc) (by have:=(states_ext hs hE).1;rw [hsn] at this;exact this) h1c (by omega)
 have hbeg:=fun(A:World) (v:Value) (hE:Ext w A) (ho:∃ b,w.heap.size≤b∧A.ownsRow b 240 2 v n (ss.flatMap (·.2)))=>(show StRow w.heap.size (fun g=>S0 g∨w.heap.size≤g) v A n ss from by
  obtain⟨b,hb,ho⟩:=ho
  refine⟨own_base ho hb,hsn,fun p hp=>(hs.2 p hp).1,fun p hp=>((hs.2 p hp).2).ext hE,fun p hp u hu v' x e=>?_⟩
  obtain⟨ao,m,c,h1,h2⟩:=(hs.2 p hp).2
  rw [h1] at e
  cases e
  exact fun g o' m' c' e1 e0=>⟨.inl (hS0 p hp u hu _ _ h1 g o' m' c' e1 e0),fun e2=>by have:=(ho.lt g e2).1;have:=one_low (h2 u hu) g o' m' c' e1 e0;omega⟩)
 have hap:=fun(V:World) (hE:Ext w V) (vo:Option Addr) (vc:Nat) (ws:Wd) (hv:WordAt V (.slice vo ws.length vc) ws) (hc:ws.length≤vc)=>lapply_fr (hl.ext hE) hv hc (hT.keep hE id)
 obtain⟨nm,k1,p1,m1,n1,a1,b1,o1,N1,c1,k2,p2,m2,n2,a2,b2,o2,N2,c2,io,N3,ic,oo,N4,oc,md,rfl,HLA,HPL,HPR,HIF,HOU,HNM,HN1,HN2,HN3,HN4,HMD,q0,q1,q2,q3,q4⟩:=law_gen hl
 have HS:=Lib.hid hs;have HSL:=Lib.hid hsn;have HCL:=Lib.hid hcl;have HBEG:=Lib.hid hbeg;have HAP:=Lib.hid hap
 clear hs hsn hcl hbeg hap hl hT h1c hS0
 go_enter Tryz.func136,Tryz.ntmps136
 go_upto_region 1 with (fail)
 obtain⟨w1,hw1⟩:∃ D,w.alloc (.cells #[.string nm,.int .i64 k1,.int .u32 (p1:Int),.int .u32 (m1:Int),.bool n1,.int .i64 a1,.int .i64 b1,.slice o1 N1 c1,.int .i64 k2,.int .u32 (p2:Int),.int .u32 (m2:Int),.bool n2,.int .i64 a2,.int .i64 b2,.slice o2 N2 c2,.slice io N3 ic,.slice oo N4 oc,.int .i64 md] 102)=D:=⟨_,rfl⟩
 have hE1:Ext w w1:=by rw [← hw1];exact(Turn.refl _ w).alloc _
 have hl1:w1.heap[w.heap.size]?=some (.cells #[.string nm,.int .i64 k1,.int .u32 (p1:Int),.int .u32 (m1:Int),.bool n1,.int .i64 a1,.int .i64 b1,.slice o1 N1 c1,.int .i64 k2,.int .u32 (p2:Int),.int .u32 (m2:Int),.bool n2,.int .i64 a2,.int .i64 b2,.slice o2 N2 c2,.slice io N3 ic,.slice oo N4 oc,.int .i64 md] 102 (0,0)):=by rw [← hw1];exact new_at rfl
 rw [hw1]
 obtain⟨B,hB⟩:∃ b,w.heap.size=b:=⟨_,rfl⟩
 rw [hB] at hl1 ⊢
 have HB:=Lib.hid hB
 go_wp2_with fail
 refine(HCL.out _ hE1).mono ?_
 rintro e w2 ⟨ao,c,rfl,hO2,hN⟩
 have hE2:=hE1.trans hN
 have hst:=HBEG.out w2 _ hE2 ⟨_,hE1.size,hO2⟩
 have hl2:=hN.keep hl1
 have hBlt:B<w1.heap.size:=(Array.getElem?_eq_some_iff.1 hl1).1
 have hlow:∀ g,(Value.slice ao n c).ownBlock=some g→w1.heap.size≤g∧g<w2.heap.size:=fun g hg=>hO2.lt g hg
 have HST:=Lib.hid hst;have HL2:=Lib.hid hl2;have HE2:=Lib.hid hE2;have HLOW:=Lib.hid hlow;have HE1S:=Lib.hid hE1.size
 clear hst hl2 hE2 hlow hO2 hN hE1 hl1 hw1 hB HCL HBEG
 go_wp2
 refine wp_loop (fun a W=>∃(k:Nat) (os:List (Option Wd × List Value)),k≤n∧a.defers=[]∧(a.tmps.size=37∧a.tmps.getD 2 undef=.pointer (some ⟨B,0,none⟩)∧a.tmps.getD 5 undef=.slice ao n c∧a.tmps.getD 12 undef=.slice so n sc∧a.tmps.getD 13 undef=.int .i64 n∧a.tmps.getD 14 undef=.int .i64 k)∧W.heap[B]?=some (.cells #[.string nm,.int .i64 k1,.int .u32 (p1:Int),.int .u32 (m1:Int),.bool n1,.int .i64 a1,.int .i64 b1,.slice o1 N1 c1,.int .i64 k2,.int .u32 (p2:Int),.int .u32 (m2:Int),.bool n2,.int .i64 a2,.int .i64 b2,.slice o2 N2 c2,.slice io N3 ic,.slice oo N4 oc,.int .i64 md] 102 (0,0))∧StRow w.heap.size (fun g=>S0 g∨w.heap.size≤g) (.slice ao n c) W n os∧os.map (·.1)=(ss.take k).map (fun p=>stepO l p.1)++(ss.drop k).map (·.1)∧w2.heap.size≤W.heap.size∧Ext w W)
  (fun a _=>((n:Int) - intOf (a.tmps.getD 14 undef)).toNat) ?_ ?_
 ·exact⟨0,ss,by omega,rfl,⟨rfl,rfl,rfl,rfl,rfl,rfl⟩,HL2.out,HST.out,by simp,Nat.le_refl _,HE2.out⟩
 clear HST HL2 HE2
 rintro⟨t,_⟩ W ⟨k,os,hk,hds,⟨hsz,f2,f5,f12,f13,f14⟩,hlB,hst,hmap,hws,hE⟩
 subst hds
 obtain⟨u',hu⟩:=frame_fun hsz
 obtain⟨u,rfl⟩:∃ x,x=u':=⟨_,rfl⟩
 have hu':t=#[u 0,u 1,u 2,u 3,u 4,u 5,u 6,u 7,u 8,u 9,u 10,u 11,u 12,u 13,u 14,u 15,u 16,u 17,u 18,u 19,u 20,u 21,u 22,u 23,u 24,u 25,u 26,u 27,u 28,u 29,u 30,u 31,u 32,u 33,u 34,u 35,u 36]:=hu
 clear hu
 subst hu'
 change u 2=_ at f2
 change u 5=_ at f5
 change u 12=_ at f12
 change u 13=_ at f13
 change u 14=_ at f14
 rw [f2,f5,f12,f13,f14]
 clear f2 f5 f12 f13 f14 hsz
 have HLB:=Lib.hid hlB;have HST:=Lib.hid hst;have HMAP:=Lib.hid hmap;have HWS:=Lib.hid hws;have HE:=Lib.hid hE
 clear hlB hst hmap hws hE
 by_cases hkN:k<n
 case neg=>
  obtain rfl:k=n:=by omega
  have h1:¬ (k:Int)<(k:Int):=by omega
  have hm:=HMAP.out
  rw [List.take_of_length_le (by rw [HSL.out];exact Nat.le_refl _),List.drop_eq_nil_of_le (by rw [HSL.out];exact Nat.le_refl _),List.map_nil,List.append_nil] at hm
  have HM:=Lib.hid hm
  clear hm
  go_wp2
  go_ret
  exact⟨ao,c,rfl,os,HST.out,HM.out,HE.out⟩
 have h1:(k:Int)<(n:Int):=by omega
 have h0:(0:Int)≤(k:Int):=by omega
 have hks:k<ss.length:=by rw [HSL.out];exact hkN
 obtain⟨m1,m2⟩:=step_map (l:=l) hks HMAP.out
 obtain⟨g2,off2,c2',hq,hrg2,⟨fo,fl,fc,hcs2,hfu⟩,zz4⟩:=StrAt.at HS.out hks
 replace hq:=hq (by decide)
 obtain⟨hq,hg2⟩:=hq
 simp only [Value.slice.injEq] at hq
 obtain⟨rfl,hz,rfl⟩:=hq
 clear hz
 rw [hcs2] at hrg2
 have e0:=HE.out.cell_some (hrg2 0 _ rfl) id
 have e1:=HE.out.cell_some (hrg2 1 _ rfl) id
 rw [Nat.add_zero] at e0
 obtain⟨st,hst⟩:∃ x,ss[k].1=x:=⟨_,rfl⟩
 rw [hst] at e1 hfu m1 m2
 have HFU:=Lib.hid hfu;have M1:=Lib.hid m1;have M2:=Lib.hid m2
 have hwk:IntKind.i64.wrap ((k:Int)+1)=(k:Int)+1:=IntWalk.i64_in _ (by omega)
 clear hfu hst zz4 hcs2 hrg2 hks hg2 m1 m2 HMAP
 obtain⟨b,hbb⟩:∃ b,st.isNone=b:=⟨_,rfl⟩
 rw [hbb] at e1
 have HBB:=Lib.hid hbb
 clear hbb
 go_upto_region 5 with (fail)
 obtain⟨W1,hW1⟩:∃ D,W.alloc (.cells #[.slice fo fl fc,.bool b] 240)=D:=⟨_,rfl⟩
 have hN1:Ext W W1:=by rw [← hW1];exact(Turn.refl _ W).alloc _
 have hX1:W1.heap[W.heap.size]?=some (.cells #[.slice fo fl fc,.bool b] 240 (0,0)):=by rw [← hW1];exact new_at rfl
 rw [hW1]
 obtain⟨X,hX⟩:∃ x,W.heap.size=x:=⟨_,rfl⟩
 rw [hX] at hX1 ⊢
 have cX:=fun j=>cell_of_row _ _ j _ _ _ hX1
 have hl1:=hN1.keep HLB.out
 have HL1:=Lib.hid hl1;have HN1:=Lib.hid hN1
 clear hW1 hX1 hX e0 e1 hl1 hN1
 cases st with
 | none=>
  obtain rfl:b=true:=HBB.out.symm
  have hm:=M2.out (by first | trivial | rfl)
  have HM:=Lib.hid hm
  have hE2:=HE.out.trans HN1.out
  have hs2:=HST.out.ext HN1.out
  have hz2:=Nat.le_trans HWS.out HN1.out.size
  have HE2:=Lib.hid hE2;have HS2:=Lib.hid hs2;have HZ2:=Lib.hid hz2
  clear hm hE2 hs2 hz2 M1 M2
  go_wp2
  exact⟨⟨k+1,by omega,by simp,HL1.out,os,HS2.out,by first | exact HM.out | (have:=HM.out;simpa using this),HZ2.out,HE2.out⟩,by first | (simp [intOf];done) | (simp [intOf];omega)⟩
 | some uw=>
  obtain rfl:b=false:=HBB.out.symm
  obtain⟨ao1,cc1,hq,hfw,hfc⟩:=HFU.out uw (by first | trivial | rfl)
  simp only [Value.slice.injEq] at hq
  obtain⟨rfl,hfl,rfl⟩:=hq
  have hE2:=HE.out.trans HN1.out
  have hc:=HAP.out W1 hE2 _ _ uw (hfw.ext hE2) hfc
  rw [← hfl] at hc
  have hm:=M1.out
  obtain⟨g,hgo⟩:=own_some HST.out.own (by omega)
  have HGO:=Lib.hid hgo;have HC:=Lib.hid hc;have HE2:=Lib.hid hE2
  clear hfw hfc hE2 hc hfl M1 M2 hgo
  obtain rfl:=HGO.out
  go_wp2_with (refine wpList_load_row rfl 102 (.tmp 2) rfl B rfl _ _ _ _ HL1.out Tryz.underlying102 rfl Tryz.lawInfo ?_)
  refine HC.out.mono ?_
  rintro e W2 ⟨ru,rfl,⟨ro,rc,rfl,hrw,hrc⟩,hkp,hN2⟩
  obtain⟨E,hqE⟩:∃ x,trE l uw=x:=⟨_,rfl⟩
  obtain⟨R,hqR⟩:∃ x,appL l uw=x:=⟨_,rfl⟩
  obtain⟨bv,hbv⟩:∃ x,(E != 0)=x:=⟨_,rfl⟩
  have hstep:stepO l (some uw)=if bv=true then none else some R:=by
   unfold stepO
   rw [Option.bind_some,hqE,hqR,← hbv]
   by_cases h:E=0 <;> simp [h]
  rw [hqR] at hkp hrw hrc ⊢
  rw [hqE]
  obtain⟨rn,hrn⟩:∃ x,R.length=x:=⟨_,rfl⟩
  rw [hrn] at hkp hrw hrc ⊢
  have hso:StateOk W2 (stepO l (some uw)) [.slice ro rn rc,.bool bv]:=by
   refine⟨ro,rn,rc,by rw [hstep];cases bv <;> rfl,fun u hu=>?_⟩
   rw [hstep] at hu
   cases bv with
   | true=>cases hu
   | false=>cases hu;exact⟨ro,rc,by rw [hrn],by rw [hrn];exact hrw,by rw [hrn];exact hrc⟩
  have hs3:=HST.out.ext (HN1.out.trans hN2)
  have hkp2:KeptIn (fun b=>(S0 b∨w.heap.size≤b)∧b≠g) (.slice ro rn rc):=hkp.mono fun b hb=>⟨.inr (by have:=HE2.out.size;omega),fun e=>by have:=(HLOW.out g rfl).2;have:=HWS.out;have:=HN1.out.size;omega⟩
  have hs4:=hs3.set hkN hso (fun _ _=>hkp2)
  have hm4:=hm [.slice ro rn rc,.bool bv]
  have hl3:=hN2.keep HL1.out
  have hT:=Turn.setCells W2 g (#[.slice ro rn rc,.bool bv]:Array Value).toList (k*2)
  have hth:=own_there hs3.own (o:=k*2) (m:=2) (by omega)
  have hBg:B≠g:=by have:=(HLOW.out g rfl).1;omega
  have hl4:=hT.heap hl3 hBg
  have hE4:Ext w (W2.setCells g (k*2) (#[.slice ro rn rc,.bool bv]:Array Value).toList):=Turn.after (HE2.out.trans hN2) hT (fun b hb e=>by have:=(HLOW.out g rfl).1;have:=HE1S.out;omega)
  have hz4:w2.heap.size≤(W2.setCells g (k*2) (#[.slice ro rn rc,.bool bv]:Array Value).toList).heap.size:=by have:=HWS.out;have:=HN1.out.size;have:=hN2.size;have:=hT.size;omega
  obtain⟨W3,hW3⟩:∃ D,W2.setCells g (k*2) (#[.slice ro rn rc,.bool bv]:Array Value).toList=D:=⟨_,rfl⟩
  have hs5:StRow w.heap.size (fun g=>S0 g∨w.heap.size≤g) (.slice (some ⟨g,0,none⟩) n c) W3 n (os.set k (stepO l (some uw),[.slice ro rn rc,.bool bv])):=by rw [← hW3];exact hs4
  rw [hW3] at hl4 hE4 hz4
  have HTH:=Lib.hid hth;have HW3:=Lib.hid hW3;have HS5:=Lib.hid hs5;have HM4:=Lib.hid hm4;have HL4:=Lib.hid hl4;have HE4:=Lib.hid hE4;have HZ4:=Lib.hid hz4;have HBV:=Lib.hid hbv
  clear hm hqE hqR hstep hso hs3 hkp2 hs4 hm4 hl3 hT hW3 hs5 hl4 hE4 hz4 hth hkp hrw hrc hN2 hrn HC hbv hBg
  have hbv2:(E != 0)=bv:=HBV.out
  go_wp2_with (refine wpList_store_mid rfl 240 (.tmp 34) (.tmp 33) rfl g (k*2) #[.slice ro rn rc,.bool bv] (by first | rfl | (simp;done)) rfl HTH.out (by kernel_rfl) (by kernel_rfl) ?_;rw [HW3.out])
  exact⟨⟨k+1,_,by omega,by first | rfl | trivial,⟨rfl,rfl,rfl,rfl,rfl,rfl⟩,HL4.out,HS5.out,by first | exact HM4.out | (have:=HM4.out;simpa using this),HZ4.out,HE4.out⟩,by first | (simp [intOf];done) | (simp [intOf];omega)⟩
end Go.Proofs.YtfdlhlghcbeblaaGreatDoor
set_option maxRecDepth 100000
set_option maxHeartbeats 16000000
namespace Go.Proofs.YtfdlhlghcbeblaaGreatDoor
open Go.RowKit Go.Ab
attribute [local go_sem] Oper.semAt_some wide_fn wide_depth
def xB(s:Option Wd)(t:Wd):Bool:=match s with | some u=>decide (u=t) | none=>false
def explC(ss:List (Option Wd × List Value)) (qs:PairsL) (k:Nat):List Value:=(List.range k).map fun i=>.bool (xB (ss.getD i (none,[])).1 (qs.getD i (([],[]),[])).1.2)
theorem blk_cells{V:World}{g:Nat}{vs:List Value}{t:TypeId}(h:V.heap[g]?=some (.cells vs.toArray t (0,0))):∀(j:Nat) (u:Value),vs[j]?=some u→V.cell? ((⟨g,0,none⟩:Addr).add j)=some u:=fun j u hu=>by
 have hadd:(⟨g,0,none⟩:Addr).add j=⟨g,j,none⟩:=by unfold Addr.add;split <;> simp_all
 rw [hadd,cell_of_row V g j _ t _ h]
 simpa using hu
theorem infoB1:(Tryz.prog.info? 4).map (fun i=>(i.zero,i.size,i.bytes))=some (some (.bool false),1,1):=by kernel_rfl
theorem explC_succ(ss:List (Option Wd × List Value)) (qs:PairsL) (k:Nat):explC ss qs (k+1)=explC ss qs k++[.bool (xB (ss.getD k (none,[])).1 (qs.getD k (([],[]),[])).1.2)]:=by
 unfold explC;rw [List.range_succ,List.map_append];rfl
theorem explained_any{w:World}{ss:List (Option Wd × List Value)} {qs:PairsL} {so:Option Addr} {sc:Nat} {po:Option Addr} {n pc:Nat} (hs:StatesAt w (.slice so n sc) ss) (hsn:ss.length=n) (hp:PairsAt w (.slice po n pc) qs) (hn:qs.length=n) (hb:n≤1000) :
  Calls Tryz.prog 101 #[.slice so n sc,.slice po n pc] w fun e w'=>∃ ao c,e=.returned (.slice ao n c)∧w'.ownsRow w.heap.size 4 1 (.slice ao n c) n (explC ss qs n)∧Ext w w':=by
 have HS:=Lib.hid hs;have HP:=Lib.hid hp;have HN:=Lib.hid hn;have HSL:=Lib.hid hsn
 clear hs hp hn hsn
 go_enter Tryz.func101,Tryz.ntmps101
 go_wp2
 refine wp_loop (fun a W=>∃(k:Nat) (ao:Option Addr) (c:Nat),k≤n∧a.defers=[]∧(a.tmps.size=33∧a.tmps.getD 1 undef=.slice po n pc∧a.tmps.getD 5 undef=.slice ao k c∧a.tmps.getD 8 undef=.slice so n sc∧a.tmps.getD 9 undef=.int .i64 n∧a.tmps.getD 10 undef=.int .i64 k)∧W.ownsRow w.heap.size 4 1 (.slice ao k c) k (explC ss qs k)∧Ext w W)
  (fun a _=>((n:Int) - intOf (a.tmps.getD 10 undef)).toNat) ?_ ?_
 ·exact⟨0,none,0,by omega,rfl,⟨rfl,rfl,rfl,rfl,rfl,rfl⟩,World.ownsRow_nil _ _ _ _,Turn.refl _ _⟩
 rintro⟨t,_⟩ W ⟨k,ao,c,hk,hds,⟨hsz,f1,f5,f8,f9,f10⟩,ho,hE⟩
 subst hds
 obtain⟨u',hu⟩:=frame_fun hsz
 obtain⟨u,rfl⟩:∃ x,x=u':=⟨_,rfl⟩
 have hu':t=#[u 0,u 1,u 2,u 3,u 4,u 5,u 6,u 7,u 8,u 9,u 10,u 11,u 12,u 13,u 14,u 15,u 16,u 17,u 18,u 19,u 20,u 21,u 22,u 23,u 24,u 25,u 26,u 27,u 28,u 29,u 30,u 31,u 32]:=hu
 clear hu
 subst hu'
 change u 1=_ at f1
 change u 5=_ at f5
 change u 8=_ at f8
 change u 9=_ at f9
 change u 10=_ at f10
 rw [f1,f5,f8,f9,f10]
 clear f1 f5 f8 f9 f10 hsz
 have HO:=Lib.hid ho;have HE:=Lib.hid hE
 clear ho hE
 by_cases hkN:k<n
 ·have h1:(k:Int)<(n:Int):=by omega
  have h0:(0:Int)≤(k:Int):=by omega
  have hkl:k<qs.length:=by rw [HN.out];exact hkN
  have hks:k<ss.length:=by rw [HSL.out];exact hkN
  obtain⟨g,off,c',hq,hrg,⟨u,v,hcs,zz1,hv⟩,zz2⟩:=StrAt.at HP.out hkl
  replace hq:=hq (by decide)
  obtain⟨hq,hg⟩:=hq
  simp only [Value.slice.injEq] at hq
  obtain⟨rfl,hz,rfl⟩:=hq
  clear hz
  rw [hcs] at hrg
  obtain⟨qo,qc,rfl,hvw,zz3⟩:=hv
  have d1:=HE.out.cell_some (hrg 1 _ rfl) id
  obtain⟨g2,off2,c2',hq,hrg2,⟨fo,fl,fc,hcs2,hfu⟩,zz4⟩:=StrAt.at HS.out hks
  replace hq:=hq (by decide)
  obtain⟨hq,hg2⟩:=hq
  simp only [Value.slice.injEq] at hq
  obtain⟨rfl,hz,rfl⟩:=hq
  clear hz
  rw [hcs2] at hrg2
  have e0:=HE.out.cell_some (hrg2 0 _ rfl) id
  have e1:=HE.out.cell_some (hrg2 1 _ rfl) id
  rw [Nat.add_zero] at e0
  have hx:=explC_succ ss qs k
  have hgs:ss.getD k (none,[])=ss[k]:=by rw [List.getD_eq_getElem?_getD,List.getElem?_eq_getElem hks];rfl
  have hgq:qs.getD k (([],[]),[])=qs[k]:=by rw [List.getD_eq_getElem?_getD,List.getElem?_eq_getElem hkl];rfl
  rw [hgs,hgq] at hx
  obtain⟨st,hst⟩:∃ x,ss[k].1=x:=⟨_,rfl⟩
  obtain⟨tw,htw⟩:∃ x,qs[k].1.2=x:=⟨_,rfl⟩
  rw [hst] at hx e1 hfu
  rw [htw] at hx hvw d1
  obtain⟨tl,htl⟩:∃ x,tw.length=x:=⟨_,rfl⟩
  rw [htl] at d1 hvw
  have HX:=Lib.hid hx;have HFU:=Lib.hid hfu;have HVW:=Lib.hid hvw
  have hwk:IntKind.i64.wrap ((k:Int)+1)=(k:Int)+1:=IntWalk.i64_in _ (by omega)
  clear hx hfu hvw hgs hgq hst htw htl zz1 zz2 zz3 zz4 hcs hcs2 hrg hrg2 hkl hks
  go_upto_region 5 with (fail)
  obtain⟨b,hbb⟩:∃ b,st.isNone=b:=⟨_,rfl⟩
  rw [hbb] at e1 ⊢
  have HBB:=Lib.hid hbb
  clear hbb
  obtain⟨W1,hW1⟩:∃ D,W.alloc (.cells #[.slice fo fl fc,.bool b] 240)=D:=⟨_,rfl⟩
  have hN1:Ext W W1:=by rw [← hW1];exact(Turn.refl _ W).alloc _
  have hX1:W1.heap[W.heap.size]?=some (.cells #[.slice fo fl fc,.bool b] 240 (0,0)):=by rw [← hW1];exact new_at rfl
  have d2:=hN1.cell_some d1 id
  rw [hW1]
  obtain⟨X,hX⟩:∃ x,W.heap.size=x:=⟨_,rfl⟩
  rw [hX] at hX1 ⊢
  obtain⟨V0,hV0⟩:∃ D,W1.drew=D:=⟨_,rfl⟩
  have hN0:Ext W V0:=by rw [← hV0];exact hN1.drew
  have hS0:V0.heap[X]?=some (.cells #[.slice fo fl fc,.bool b] 240 (0,0))∧V0.cell? ⟨g,off+k*2+1,none⟩=some (.slice qo tl qc):=by rw [← hV0];exact⟨hX1,d2⟩
  refine wp_region_late (S:=fun D=>D.heap[X]?=some (.cells #[.slice fo fl fc,.bool b] 240 (0,0))∧D.cell? ⟨g,off+k*2+1,none⟩=some (.slice qo tl qc)) [] (by kernel_rfl) (by rw [hV0];exact hS0) ?_
  intro _
  rw [hV0]
  have HX0:=Lib.hid hX;have HN0:=Lib.hid hN0;have HG:=Lib.hid hg
  clear hV0 hW1 hN1 hX1 d1 d2 e0 e1 hX hN0 hg hg2
  refine tkE (i:=0) (d:=15) (v:=?_) rfl (Or.inl ⟨by rfl,?_⟩) hS0 ?_
  rotate_left
  ·intro w hSw;(try dsimp only at hSw);have c1:=fun j=>cell_of_row _ _ j _ _ _ hSw.1;have c2:=hSw.2;go_simp;try with_reducible rfl
  try simp only [Act.put,pq]
  cases st with
  | none=>
   obtain rfl:b=true:=HBB.out.symm
   refine tkE (i:=1) (d:=16) (v:=?_) rfl (Or.inl ⟨by rfl,?_⟩) hS0 ?_
   rotate_left
   ·intro w hSw;(try dsimp only at hSw);have c1:=fun j=>cell_of_row _ _ j _ _ _ hSw.1;have c2:=hSw.2;go_simp;try with_reducible rfl
   try simp only [Act.put,pq]
   refine tkE (i:=2) (d:=17) (v:=?_) rfl (Or.inl ⟨by rfl,?_⟩) hS0 ?_
   rotate_left
   ·intro w hSw;(try dsimp only at hSw);have c1:=fun j=>cell_of_row _ _ j _ _ _ hSw.1;have c2:=hSw.2;go_simp;try with_reducible rfl
   try simp only [Act.put,pq]
   refine tkE (i:=3) (d:=18) (v:=?_) rfl (Or.inl ⟨by rfl,?_⟩) hS0 ?_
   rotate_left
   ·intro w hSw;(try dsimp only at hSw);have c1:=fun j=>cell_of_row _ _ j _ _ _ hSw.1;have c2:=hSw.2;go_simp;try with_reducible rfl
   try simp only [Act.put,pq]
   refine tkE (i:=4) (d:=19) (v:=?_) rfl (Or.inl ⟨by rfl,?_⟩) hS0 ?_
   rotate_left
   ·intro w hSw;(try dsimp only at hSw);have c1:=fun j=>cell_of_row _ _ j _ _ _ hSw.1;have c2:=hSw.2;go_simp;try with_reducible rfl
   try simp only [Act.put,pq]
   refine tkE (i:=5) (d:=20) (v:=undef) rfl (Or.inr ⟨by rfl,rfl⟩) hS0 ?_
   try simp only [Act.put,pq]
   refine tkE (i:=6) (d:=21) (v:=undef) rfl (Or.inr ⟨by rfl,rfl⟩) hS0 ?_
   try simp only [Act.put,pq]
   refine tkE (i:=7) (d:=22) (v:=undef) rfl (Or.inr ⟨by rfl,rfl⟩) hS0 ?_
   try simp only [Act.put,pq]
   refine tkE (i:=8) (d:=23) (v:=undef) rfl (Or.inr ⟨by rfl,rfl⟩) hS0 ?_
   try simp only [Act.put,pq]
   refine tkE (i:=9) (d:=24) (v:=undef) rfl (Or.inr ⟨by rfl,rfl⟩) hS0 ?_
   try simp only [Act.put,pq]
   refine tkE (i:=10) (d:=25) (v:=undef) rfl (Or.inr ⟨by rfl,rfl⟩) hS0 ?_
   try simp only [Act.put,pq]
   refine tkE (i:=11) (d:=26) (v:=undef) rfl (Or.inr ⟨by rfl,rfl⟩) hS0 ?_
   try simp only [Act.put,pq]
   refine tkE (i:=12) (d:=27) (v:=undef) rfl (Or.inr ⟨by rfl,rfl⟩) hS0 ?_
   try simp only [Act.put,pq]
   refine tkE (i:=13) (d:=28) (v:=?_) rfl (Or.inl ⟨by rfl,?_⟩) hS0 ?_
   rotate_left
   ·intro w hSw;(try dsimp only at hSw);have c1:=fun j=>cell_of_row _ _ j _ _ _ hSw.1;have c2:=hSw.2;go_simp;try with_reducible rfl
   try simp only [Act.put,pq]
   refine wpAnyE_ready (rs:=[14]) (by kernel_rfl) (by simp) ?_
   refine AllReadyE.cons rfl (fun K hK=>?_) AllReadyE.nil
   (try rw [if_pos (show Region.wanted _ _=true from rfl)])
   go_simp
   obtain⟨V7,hV⟩:∃ D,V0.alloc (.cells #[.bool false] 4)=D:=⟨_,rfl⟩
   have hN7:Ext W V7:=by rw [← hV];exact HN0.out.trans ((Turn.refl _ V0).alloc _)
   have hb7:V7.heap[V0.heap.size]?=some (.cells #[.bool false] 4 (0,0)):=by rw [← hV];exact new_at rfl
   have hS7:V7.heap[X]?=some (.cells #[.slice fo fl fc,.bool true] 240 (0,0))∧V7.cell? ⟨g,off+k*2+1,none⟩=some (.slice qo tl qc):=by rw [← hV];exact⟨new_keep hS0.1,((Turn.refl (fun _=>False) V0).alloc _).cell_some hS0.2 id⟩
   rw [hV]
   obtain⟨Y,hY⟩:∃ y,V0.heap.size=y:=⟨_,rfl⟩
   rw [hY] at hb7 ⊢
   clear hV hY
   refine hK.out _ _ hS7 (fun _=>?_)
   clear hK K
   try simp only [Act.put,pq]
   refine wpAnyE_ready (rs:=[15]) (by kernel_rfl) (by simp) ?_
   refine AllReadyE.cons rfl (fun K hK=>?_) AllReadyE.nil
   (try rw [if_pos (show Region.wanted _ _=true from rfl)])
   refine append_oper (.tmp 15) (.tmp 29) 158 rfl w.heap.size 4 _ 1 1 Tryz.underlying158 @infoB1 rfl (by decide) _ _ _ rfl (own_ext HO.out hN7) ⟨Y,0,none⟩ 1 1 [.bool false] rfl rfl (blk_cells (vs:=[.bool false]) hb7) (by intro x hx;simp at hx;subst hx;rfl) (by unfold maxLen;omega) (by omega) (Nat.le_trans HE.out.size hN7.size) ?_
   intro ao' c3 V8 hO8 hT8 hB8
   have hlt:=fun g hg=>HO.out.lt g hg
   have hS8:V8.heap[X]?=some (.cells #[.slice fo fl fc,.bool true] 240 (0,0))∧V8.cell? ⟨g,off+k*2+1,none⟩=some (.slice qo tl qc):=⟨hT8.heap hS7.1 (fun e=>by have:=hlt _ e;have:=HX0.out;omega),hT8.cell_some hS7.2 (fun(e:Value.ownBlock _=some g)=>by have:=(hlt g e).1;have:=HG.out;omega)⟩
   have hE8:Ext w V8:=Turn.after (HE.out.trans hN7) hT8 (fun b hb e=>by have:=(hlt _ e).1;omega)
   have HO8:=Lib.hid hO8;have HE8:=Lib.hid hE8
   clear hO8 hE8 hT8 hB8 hlt
   refine hK.out _ _ hS8 (fun _=>?_)
   clear hK K
   try simp only [Act.put,pq]
   refine tkE (i:=16) (d:=5) (v:=?_) rfl (Or.inl ⟨by rfl,?_⟩) hS8 ?_
   rotate_left
   ·intro w hSw;(try dsimp only at hSw);have c1:=fun j=>cell_of_row _ _ j _ _ _ hSw.1;have c2:=hSw.2;go_simp;try with_reducible rfl
   try simp only [Act.put]
   refine wpAnyE_done (by kernel_rfl) ?_ _
   go_wp2
   exact⟨⟨k+1,ao',c3,by omega,by first | rfl | trivial,⟨rfl,rfl,rfl,rfl,rfl,rfl⟩,by rw [HX.out];exact HO8.out,HE8.out⟩,by first | (simp [intOf];done) | (simp [intOf];omega)⟩
  | some u'=>
   obtain rfl:b=false:=HBB.out.symm
   obtain⟨ao1,cc1,hq,hfw,_⟩:=HFU.out u' rfl
   simp only [Value.slice.injEq] at hq
   obtain⟨rfl,hfl,rfl⟩:=hq
   have HFL:=Lib.hid hfl
   rw [← hfl] at hfw
   have hce:=fun(D:World) (hD:Ext W D)=>eqW (hfw.ext (HE.out.trans hD)) (HVW.out.ext (HE.out.trans hD))
   obtain⟨r,hr⟩:∃ r,decide (u'=tw)=r:=⟨_,rfl⟩
   simp only [hr] at hce
   have HCE:=Lib.hid hce;have HR:=Lib.hid hr
   clear hfl hfw hce hr
   refine tkE (i:=1) (d:=16) (v:=?_) rfl (Or.inl ⟨by rfl,?_⟩) hS0 ?_
   rotate_left
   ·intro w hSw;(try dsimp only at hSw);have c1:=fun j=>cell_of_row _ _ j _ _ _ hSw.1;have c2:=hSw.2;go_simp;try with_reducible rfl
   try simp only [Act.put,pq]
   refine tkE (i:=2) (d:=17) (v:=?_) rfl (Or.inl ⟨by rfl,?_⟩) hS0 ?_
   rotate_left
   ·intro w hSw;(try dsimp only at hSw);have c1:=fun j=>cell_of_row _ _ j _ _ _ hSw.1;have c2:=hSw.2;go_simp;try with_reducible rfl
   try simp only [Act.put,pq]
   refine tkE (i:=3) (d:=18) (v:=?_) rfl (Or.inl ⟨by rfl,?_⟩) hS0 ?_
   rotate_left
   ·intro w hSw;(try dsimp only at hSw);have c1:=fun j=>cell_of_row _ _ j _ _ _ hSw.1;have c2:=hSw.2;go_simp;try with_reducible rfl
   try simp only [Act.put,pq]
   refine tkE (i:=4) (d:=19) (v:=?_) rfl (Or.inl ⟨by rfl,?_⟩) hS0 ?_
   rotate_left
   ·intro w hSw;(try dsimp only at hSw);have c1:=fun j=>cell_of_row _ _ j _ _ _ hSw.1;have c2:=hSw.2;go_simp;try with_reducible rfl
   try simp only [Act.put,pq]
   refine tkE (i:=5) (d:=20) (v:=?_) rfl (Or.inl ⟨by rfl,?_⟩) hS0 ?_
   rotate_left
   ·intro w hSw;(try dsimp only at hSw);have c1:=fun j=>cell_of_row _ _ j _ _ _ hSw.1;have c2:=hSw.2;go_simp;try with_reducible rfl
   try simp only [Act.put,pq]
   refine tkE (i:=6) (d:=21) (v:=?_) rfl (Or.inl ⟨by rfl,?_⟩) hS0 ?_
   rotate_left
   ·intro w hSw;(try dsimp only at hSw);have c1:=fun j=>cell_of_row _ _ j _ _ _ hSw.1;have c2:=hSw.2;go_simp;try with_reducible rfl
   try simp only [Act.put,pq]
   refine tkE (i:=7) (d:=22) (v:=?_) rfl (Or.inl ⟨by rfl,?_⟩) hS0 ?_
   rotate_left
   ·intro w hSw;(try dsimp only at hSw);have c1:=fun j=>cell_of_row _ _ j _ _ _ hSw.1;have c2:=hSw.2;go_simp;try with_reducible rfl
   try simp only [Act.put,pq]
   refine tkE (i:=8) (d:=23) (v:=?_) rfl (Or.inl ⟨by rfl,?_⟩) hS0 ?_
   rotate_left
   ·intro w hSw;(try dsimp only at hSw);have c1:=fun j=>cell_of_row _ _ j _ _ _ hSw.1;have c2:=hSw.2;go_simp;try with_reducible rfl
   try simp only [Act.put,pq]
   refine tkE (i:=9) (d:=24) (v:=?_) rfl (Or.inl ⟨by rfl,?_⟩) hS0 ?_
   rotate_left
   ·intro w hSw;(try dsimp only at hSw);have c1:=fun j=>cell_of_row _ _ j _ _ _ hSw.1;have c2:=hSw.2;go_simp;try with_reducible rfl
   try simp only [Act.put,pq]
   refine tkE (i:=10) (d:=25) (v:=?_) rfl (Or.inl ⟨by rfl,?_⟩) hS0 ?_
   rotate_left
   ·intro w hSw;(try dsimp only at hSw);have c1:=fun j=>cell_of_row _ _ j _ _ _ hSw.1;have c2:=hSw.2;go_simp;try with_reducible rfl
   try simp only [Act.put,pq]
   refine tkE (i:=11) (d:=26) (v:=?_) rfl (Or.inl ⟨by rfl,?_⟩) hS0 ?_
   rotate_left
   ·intro w hSw;(try dsimp only at hSw);have c1:=fun j=>cell_of_row _ _ j _ _ _ hSw.1;have c2:=hSw.2;go_simp;try with_reducible rfl
   try simp only [Act.put,pq]
   refine wpAnyE_ready (rs:=[12]) (by kernel_rfl) (by simp) ?_
   refine AllReadyE.cons rfl (fun K hK=>?_) AllReadyE.nil
   (try rw [if_pos (show Region.wanted _ _=true from rfl)])
   go_simp
   refine(HCE.out _ HN0.out).mono ?_
   rintro e V5 ⟨rfl,hN5⟩
   have hS5:V5.heap[X]?=some (.cells #[.slice fo fl fc,.bool false] 240 (0,0))∧V5.cell? ⟨g,off+k*2+1,none⟩=some (.slice qo tl qc):=⟨hN5.keep hS0.1,hN5.cell_some hS0.2 id⟩
   have hN5W:=HN0.out.trans hN5
   clear hN5
   refine hK.out _ _ hS5 (fun _=>?_)
   clear hK K
   try simp only [Act.put,pq]
   refine tkE (i:=13) (d:=28) (v:=?_) rfl (Or.inl ⟨by rfl,?_⟩) hS5 ?_
   rotate_left
   ·intro w hSw;(try dsimp only at hSw);have c1:=fun j=>cell_of_row _ _ j _ _ _ hSw.1;have c2:=hSw.2;go_simp;try with_reducible rfl
   try simp only [Act.put,pq]
   refine wpAnyE_ready (rs:=[14]) (by kernel_rfl) (by simp) ?_
   refine AllReadyE.cons rfl (fun K hK=>?_) AllReadyE.nil
   (try rw [if_pos (show Region.wanted _ _=true from rfl)])
   go_simp
   obtain⟨V7,hV⟩:∃ D,V5.alloc (.cells #[.bool r] 4)=D:=⟨_,rfl⟩
   have hN7:Ext W V7:=by rw [← hV];exact hN5W.trans ((Turn.refl _ V5).alloc _)
   have hb7:V7.heap[V5.heap.size]?=some (.cells #[.bool r] 4 (0,0)):=by rw [← hV];exact new_at rfl
   have hS7:V7.heap[X]?=some (.cells #[.slice fo fl fc,.bool false] 240 (0,0))∧V7.cell? ⟨g,off+k*2+1,none⟩=some (.slice qo tl qc):=by rw [← hV];exact⟨new_keep hS5.1,((Turn.refl (fun _=>False) V5).alloc _).cell_some hS5.2 id⟩
   rw [hV]
   obtain⟨Y,hY⟩:∃ y,V5.heap.size=y:=⟨_,rfl⟩
   rw [hY] at hb7 ⊢
   clear hV hY
   refine hK.out _ _ hS7 (fun _=>?_)
   clear hK K
   try simp only [Act.put,pq]
   refine wpAnyE_ready (rs:=[15]) (by kernel_rfl) (by simp) ?_
   refine AllReadyE.cons rfl (fun K hK=>?_) AllReadyE.nil
   (try rw [if_pos (show Region.wanted _ _=true from rfl)])
   refine append_oper (.tmp 15) (.tmp 29) 158 rfl w.heap.size 4 _ 1 1 Tryz.underlying158 @infoB1 rfl (by decide) _ _ _ rfl (own_ext HO.out hN7) ⟨Y,0,none⟩ 1 1 [.bool r] rfl rfl (blk_cells (vs:=[.bool r]) hb7) (by intro x hx;simp at hx;subst hx;rfl) (by unfold maxLen;omega) (by omega) (Nat.le_trans HE.out.size hN7.size) ?_
   intro ao' c3 V8 hO8 hT8 hB8
   have hlt:=fun g hg=>HO.out.lt g hg
   have hS8:V8.heap[X]?=some (.cells #[.slice fo fl fc,.bool false] 240 (0,0))∧V8.cell? ⟨g,off+k*2+1,none⟩=some (.slice qo tl qc):=⟨hT8.heap hS7.1 (fun e=>by have:=hlt _ e;have:=HX0.out;omega),hT8.cell_some hS7.2 (fun(e:Value.ownBlock _=some g)=>by have:=(hlt g e).1;have:=HG.out;omega)⟩
   have hE8:Ext w V8:=Turn.after (HE.out.trans hN7) hT8 (fun b hb e=>by have:=(hlt _ e).1;omega)
   have HO8:=Lib.hid hO8;have HE8:=Lib.hid hE8
   clear hO8 hE8 hT8 hB8 hlt
   refine hK.out _ _ hS8 (fun _=>?_)
   clear hK K
   try simp only [Act.put,pq]
   refine tkE (i:=16) (d:=5) (v:=?_) rfl (Or.inl ⟨by rfl,?_⟩) hS8 ?_
   rotate_left
   ·intro w hSw;(try dsimp only at hSw);have c1:=fun j=>cell_of_row _ _ j _ _ _ hSw.1;have c2:=hSw.2;go_simp;try with_reducible rfl
   try simp only [Act.put]
   refine wpAnyE_done (by kernel_rfl) ?_ _
   go_wp2
   exact⟨⟨k+1,ao',c3,by omega,by first | rfl | trivial,⟨rfl,rfl,rfl,rfl,rfl,rfl⟩,by rw [HX.out];exact(by have:=HO8.out;rw [← HR.out] at this;exact this),HE8.out⟩,by first | (simp [intOf];done) | (simp [intOf];omega)⟩
 ·obtain rfl:k=n:=by omega
  have h1:¬ (k:Int)<(k:Int):=by omega
  go_wp2
  go_ret
  exact⟨ao,c,rfl,HO.out,HE.out⟩
end Go.Proofs.YtfdlhlghcbeblaaGreatDoor
