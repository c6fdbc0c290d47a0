/- slices.ContainsFunc over laws; derive.Check (printed by genderchk.py). PLAIN: all orders as chapter 14's statements list them; the best order; what is needed. PLAIN: what chapter 14's outright statements ask. -/
import Derived.Test.YtfdlhlghcbeblaaGreatDoorH11
import Derived.Test.YtfdlhlghcbeblaaGreatDoorH16
import Derived.Test.YtfdlhlghcbeblaaGreatDoorH15
import Derived.Test.YtfdlhlghcbeblaaGreatDoorH38
import Derived.Test.YtfdlhlghcbeblaaGreatDoorH31
set_option maxRecDepth 100000
set_option maxHeartbeats 16000000
namespace Go.Proofs.YtfdlhlghcbeblaaGreatDoor
open Go.RowKit Go.Ab
attribute [local go_sem] Oper.semAt_some wide_fn wide_depth
theorem index_law{w:World}{ao:Option Addr}{N cap:Nat}{ps:LawsL}(hl:LawsAt w (.slice ao N cap) ps) (hN:ps.length=N) (hlm:N<=maxLen) (fn:Nat) (lb:Array Value) (hen:∀ args w,(callFunc fn args).run Tryz.prog w=.ok (.enter fn args) w)
  (F:LawD->Bool) (hF:∀ p∈ps,∀ V,Ext w V->Calls Tryz.prog fn (#[.agg p.2.toArray]++lb) V fun e w'=>e=.returned (.bool (F p.1))/\Ext V w') :
  Calls Tryz.prog 187 #[.slice ao N cap,.func (.func fn) #[] lb] w fun e w'=>∃ z:Int,e=.returned (.int .i64 z)/\decide (0<=z)=ps.any (fun p=>F p.1)/\Ext w w':=by
 unfold maxLen at hlm
 have HL:=Lib.hid hl;have HF:=Lib.hid hF;have HN:=Lib.hid hN;have HEN:=Lib.hid hen
 clear hl hF hN hen
 go_enter Tryz.func187,Tryz.ntmps187
 go_wp2
 refine wp_loop (fun a W=>∃(k:Nat),k<=N/\a.defers=[]/\(a.tmps.size=19/\a.tmps.getD 0 undef=.slice ao N cap/\a.tmps.getD 1 undef=.func (.func fn) #[] lb/\a.tmps.getD 7 undef=.int .i64 N/\a.tmps.getD 8 undef=.int .i64 k)/\(ps.take k).any (fun p=>F p.1)=false/\Ext w W)
  (fun a _=>N - (intOf (a.tmps.getD 8 undef)).toNat) ?_ ?_
 ·exact⟨0,by omega,rfl,⟨rfl,rfl,rfl,rfl,rfl⟩,by simp,Turn.refl _ _⟩
 rintro⟨t,_⟩ W ⟨k,hk,hds,⟨hsz,f0,f1,f7,f8⟩,hall,hE⟩
 subst hds
 obtain⟨u',hu⟩:=frame_fun hsz
 obtain⟨u,rfl⟩:∃ x,x=u':=⟨_,rfl⟩
 have hu':t=#[u 0,u 1,u 2,u 3,u 4,u 5,u 6,u 7,u 8,u 9,u 10,u 11,u 12,u 13,u 14,u 15,u 16,u 17,u 18]:=hu
 clear hu
 subst hu'
 change u 0=_ at f0
 change u 1=_ at f1
 change u 7=_ at f7
 change u 8=_ at f8
 rw [f0,f1,f7,f8]
 clear f0 f1 f7 f8 hsz
 have HALL:=Lib.hid hall
 clear hall
 by_cases hkN:k<N
 ·have h1:(k:Int)<(N:Int):=by omega
  have h0:(0:Int)<=(k:Int):=by omega
  have hkl:k<ps.length:=by rw [HN.out];exact hkN
  obtain⟨g,off,c',hq,hg,hrg,hla,h18⟩:=(HL.out.ext hE).at hkl
  simp only [Value.slice.injEq] at hq
  obtain⟨rfl,hz,rfl⟩:=hq
  clear hz
  have hc:=HF.out _ (List.getElem_mem hkl) W hE
  obtain⟨x,hx⟩:∃ x,ps[k]=x:=⟨_,rfl⟩
  have HX:Hid (ps[k]=x):=Lib.hid hx
  rw [hx] at hrg h18 hc
  obtain⟨b,hb⟩:∃ b,F x.1=b:=⟨_,rfl⟩
  rw [hb] at hc
  have HB:Hid (F ps[k].1=b):=Lib.hid (by rw [hx];exact hb)
  obtain⟨xl,cs⟩:=x
  dsimp only at hrg h18 hc
  have HC:=Lib.hid hc;have HRG:=Lib.hid hrg;have H18:=Lib.hid h18
  clear hc hx hb hrg h18 hla
  have hen:=HEN.out
  go_wp2_with (refine wpList_load_at (by rfl) 102 (.tmp 14) rfl g (off+k*18) (by first | rfl | simp) cs _ HRG.out Tryz.underlying102 rfl (by rw [H18.out];kernel_rfl) ?_)
  clear hen
  refine HC.out.mono ?_
  rintro e W2 ⟨rfl,hE2⟩
  have hE02:=hE.trans hE2
  clear HC hE hE2 HRG H18
  cases b
  ·have hfin:(ps.take (k+1)).any (fun p=>F p.1)=false:=by
    rw [List.take_succ_eq_append_getElem hkl,List.any_append,HALL.out];simp [HB.out]
   have HFI:=Lib.hid hfin
   clear hfin
   go_wp2
   exact⟨⟨k+1,by omega,by first | rfl | trivial,⟨rfl,rfl,rfl,rfl,rfl⟩,HFI.out,hE02⟩,by simp [intOf];omega⟩
  ·have hfin:ps.any (fun p=>F p.1)=true:=List.any_eq_true.2 ⟨_,List.getElem_mem hkl,HB.out⟩
   have HFI:=Lib.hid hfin
   clear hfin
   go_wp2
   go_ret
   exact⟨_,rfl,by rw [HFI.out];simp,hE02⟩
 ·obtain rfl:k=N:=by omega
  have h1:¬ (k:Int)<(k:Int):=by omega
  have hfin:ps.any (fun p=>F p.1)=false:=by have:=HALL.out;rwa [List.take_of_length_le (by rw [HN.out];exact Nat.le_refl _)] at this
  have HFI:=Lib.hid hfin
  clear hfin
  go_wp2
  go_ret
  exact⟨_,rfl,by rw [HFI.out];simp,hE⟩
theorem contains_law{w:World}{ao:Option Addr}{N cap:Nat}{ps:LawsL}(hl:LawsAt w (.slice ao N cap) ps) (hN:ps.length=N) (hlm:N<=maxLen) (fn:Nat) (lb:Array Value) (hen:∀ args w,(callFunc fn args).run Tryz.prog w=.ok (.enter fn args) w)
  (F:LawD->Bool) (hF:∀ p∈ps,∀ V,Ext w V->Calls Tryz.prog fn (#[.agg p.2.toArray]++lb) V fun e w'=>e=.returned (.bool (F p.1))/\Ext V w') :
  Calls Tryz.prog 147 #[.slice ao N cap,.func (.func fn) #[] lb] w fun e w'=>e=.returned (.bool (ps.any fun p=>F p.1))/\Ext w w':=by
 have hi:=index_law hl hN hlm (cap:=cap) fn lb hen F hF
 have HI:=Lib.hid hi
 clear hi hF hl hen hN
 go_enter Tryz.func147,Tryz.ntmps147
 go_wp2_with fail
 refine HI.out.mono ?_
 rintro e w2 ⟨z,rfl,hz,hE⟩
 have HZ:=Lib.hid hz
 clear hz
 go_wp2
 go_ret
 exact⟨by rw [<-HZ.out];rfl,hE⟩
theorem badlaw_any{w:World}{l:LawD}{cs:List Value}(hl:LawAt w l cs)(hT:Tab w) :
  Calls Tryz.prog 148 #[.agg cs.toArray] w fun e w'=>e=.returned (.bool (!lawB l))/\Ext w w':=by
 have hck:=fun(V:World) (hE:Ext w V)=>lcheck_any (hl.ext hE) (hT.keep hE id)
 obtain⟨nm,k1,p1,m1,n1,a1,b1,o1,N1,c1,k2,p2,m2,n2,a2,b2,o2,N2,c2,io,N3,ic,oo,N4,oc,md,rfl,HLA,HPL,HPR,HIF,HOU,HNM,HN1,HN2,HN3,HN4,HMD,q0,q1,q2,q3,q4⟩:=law_gen hl
 have hE0:lawE l=if lawB l=true then 0 else 17:=rfl
 obtain⟨b,hb⟩:∃ b,lawB l=b:=⟨_,rfl⟩
 rw [hb] at hE0 ⊢
 rw [hE0] at hck
 have HCK:=Lib.hid hck
 clear hck hl hT hE0 hb
 go_enter Tryz.func148,Tryz.ntmps148
 go_upto_region 1 with (fail)
 obtain⟨w1,hw1⟩:∃ D,w.alloc (.cells #[.string nm,.int .i64 k1,.int .u32 (p1:Int),.int .u32 (m1:Int),.bool n1,.int .i64 a1,.int .i64 b1,.slice o1 N1 c1,.int .i64 k2,.int .u32 (p2:Int),.int .u32 (m2:Int),.bool n2,.int .i64 a2,.int .i64 b2,.slice o2 N2 c2,.slice io N3 ic,.slice oo N4 oc,.int .i64 md] 102)=D:=⟨_,rfl⟩
 have hE1:Ext w w1:=by rw [<-hw1];exact(Turn.refl _ w).alloc _
 have hl1:w1.heap[w.heap.size]?=some (.cells #[.string nm,.int .i64 k1,.int .u32 (p1:Int),.int .u32 (m1:Int),.bool n1,.int .i64 a1,.int .i64 b1,.slice o1 N1 c1,.int .i64 k2,.int .u32 (p2:Int),.int .u32 (m2:Int),.bool n2,.int .i64 a2,.int .i64 b2,.slice o2 N2 c2,.slice io N3 ic,.slice oo N4 oc,.int .i64 md] 102 (0,0)):=by rw [<-hw1];exact new_at rfl
 rw [hw1]
 obtain⟨B,hB⟩:∃ b,w.heap.size=b:=⟨_,rfl⟩
 rw [hB] at hl1 ⊢
 have HL1:=Lib.hid hl1;have HE1:=Lib.hid hE1
 clear hw1 hl1 hB hE1
 go_wp2_with (refine wpList_load_row rfl 102 (.tmp 1) rfl B rfl _ _ _ _ HL1.out Tryz.underlying102 rfl Tryz.lawInfo ?_)
 refine(HCK.out _ HE1.out).mono ?_
 rintro e w2 ⟨rfl,hN⟩
 have HE2:=Lib.hid (HE1.out.trans hN)
 clear hN HCK HE1
 cases b
 all_goals
  go_wp2
  go_ret
  exact⟨rfl,HE2.out⟩
theorem dCheck_any{w:World}{ps:LawsL}{lo:Option Addr}{n lc:Nat}(hl:LawsAt w (.slice lo n lc) ps) (hn:ps.length=n) (hT:Tab w) :
  Calls Tryz.prog 99 #[.slice lo n lc] w fun e w'=>e=.returned (.int .i64 (lawsE (ps.map (·.1))))/\Ext w w':=by
 have hm:n<=maxLen:=by rw [<-hn];exact hl.1.2.1
 have hco:=contains_law hl hn hm 148 #[] (enters_of Tryz.func148 (by kernel_rfl) rfl) (fun l=>!lawB l) (fun p hp V hE=>badlaw_any ((hl.2 p hp).ext hE) (hT.keep hE id))
 have hv:lawsE (ps.map (·.1))=if 64<n then 12 else if (ps.any fun p=>!lawB p.1)=true then 17 else 0:=by
  unfold lawsE
  rw [List.length_map,hn]
  by_cases h:64<n
  ·rw [if_pos h,if_pos h]
  ·rw [if_neg h,if_neg h]
   cases h2:ps.any fun p=>!lawB p.1 with
   | false=>rw [if_pos (by rw [List.all_map,List.all_eq_true];intro p hp;have:=List.any_eq_false.1 h2 p hp;simpa using this)];rfl
   | true=>rw [if_neg (by rw [List.all_map,List.all_eq_true];intro h3;obtain⟨p,hp,h4⟩:=List.any_eq_true.1 h2;have:=h3 p hp;simp at h4 this;rw [h4] at this;cases this)];rfl
 rw [hv]
 obtain⟨b,hb⟩:∃ b,(ps.any fun p=>!lawB p.1)=b:=⟨_,rfl⟩
 rw [hb] at hco ⊢
 unfold maxLen at hm
 have HCO:=Lib.hid hco
 clear hco hv hb hl hn hT
 go_enter Tryz.func99,Tryz.ntmps99
 by_cases h:64<n
 ·have h1:(n:Int) > 64:=by omega
  rw [if_pos h]
  clear HCO
  go_wp2
  go_ret
  exact⟨rfl,Turn.refl _ _⟩
 have h1:¬ (n:Int) > 64:=by omega
 rw [if_neg h]
 go_wp2_with fail
 refine HCO.out.mono ?_
 rintro e w2 ⟨rfl,hE⟩
 have HE:=Lib.hid hE
 clear hE HCO
 cases b
 all_goals
  go_wp2
  go_ret
  exact⟨rfl,HE.out⟩
end Go.Proofs.YtfdlhlghcbeblaaGreatDoor
namespace Go.Proofs.YtfdlhlghcbeblaaGreatDoor
open Go.RowKit Go.Ab
def permStep(n:Nat)(L:List (List Nat)):List (List Nat):=L.flatMap fun o=>(restN n o).map fun x=>o++[x]
def permTo(n:Nat):Nat->List (List Nat)
 | 0=>[[]]
 | k+1=>permStep n (permTo n k)
theorem vis_step(n m:Nat)(p:List Nat):visL n (m+1) p=(restN n p).flatMap fun i=>visL n m (p++[i]):=by rw [<-visTo_all];rfl
theorem permTo_vis(n:Nat):∀ k m,k+m=n->(permTo n k).flatMap (visL n m)=visL n n []
 | 0,m,h=>by
  obtain rfl:m=n:=by omega
  simp [permTo]
 | k+1,m,h=>by
  rw [<-permTo_vis n k (m+1) (by omega)]
  show (permStep n (permTo n k)).flatMap (visL n m)=_
  unfold permStep
  rw [List.flatMap_assoc]
  apply flatMap_cong
  intro o _
  rw [vis_step,List.flatMap_map]
theorem permTo_all(n:Nat):permTo n n=ordersR n:=by
 have h:=permTo_vis n n 0 (by omega)
 have e:(permTo n n).flatMap (visL n 0)=permTo n n:=by
  have:visL n 0=fun p=>[p]:=funext (vis_zero n)
  rw [this];simp
 rw [e] at h
 rw [h]
 unfold visL
 have e2:restN n []=List.range n:=by unfold restN;simp
 rw [e2,perms_range]
 simp
theorem filter_at{α:Type}{p:α->Bool}{L:List α}{i:Nat}(hi:i<L.length)(hp:p L[i]=true):(L.filter p)[((L.take i).filter p).length]?=some L[i]:=by
 have e:L.filter p=(L.take i).filter p++L[i]::(L.drop (i+1)).filter p:=by
  have h1:(L.drop i).filter p=L[i]::(L.drop (i+1)).filter p:=by rw [List.drop_eq_getElem_cons hi,List.filter_cons_of_pos hp]
  rw [<-h1,<-List.filter_append,List.take_append_drop]
 rw [e,List.getElem?_append_right (Nat.le_refl _)]
 simp
section
variable {LD:List LawD} {qs:PairsL}
theorem bestS_take{L:List (List Nat)} {k:Nat} (hk:k<L.length):bestS LD qs (L.take (k+1))=bestStep LD qs (bestS LD qs (L.take k)) L[k]:=by
 rw [List.take_succ_eq_append_getElem hk,bestS_snoc]
theorem best_mono:∀(l:List (List Nat)) (s:List Nat × Int),s.2<=(l.foldl (bestStep LD qs) s).2
 | [],_=>Int.le_refl _
 | x::l,s=>by
  rw [List.foldl_cons]
  refine Int.le_trans ?_ (best_mono l _)
  unfold bestStep
  split
  ·dsimp only;omega
  ·exact Int.le_refl _
theorem best_stay:∀(l:List (List Nat)) (s:List Nat × Int),(l.foldl (bestStep LD qs) s).2<=s.2->l.foldl (bestStep LD qs) s=s
 | [],_,_=>rfl
 | x::l,s,h=>by
  rw [List.foldl_cons] at h ⊢
  have h1:=best_mono (LD:=LD) (qs:=qs) l (bestStep LD qs s x)
  have h2:bestStep LD qs s x=s:=by
   unfold bestStep at h1 ⊢
   split at h1
   ·dsimp only at h1
    rename_i h3
    unfold bestStep at h
    rw [if_pos h3] at h
    omega
   ·rename_i h3;rw [if_neg h3]
  rw [h2] at h ⊢
  exact best_stay l s h
theorem bestS_split(L:List (List Nat)) (k:Nat):bestS LD qs L=(L.drop k).foldl (bestStep LD qs) (bestS LD qs (L.take k)):=by
 unfold bestS
 rw [<-List.foldl_append,List.take_append_drop]
theorem best_at{L:List (List Nat)} {i:Nat} (hi:i<L.length) (h1:(bestS LD qs (L.take i)).2<(cntX LD qs L[i]:Int)) (h2:(cntX LD qs L[i]:Int)=(bestS LD qs L).2):(bestS LD qs L).1=L[i]:=by
 have h3:bestS LD qs (L.take (i+1))=(L[i],(cntX LD qs L[i]:Int)):=by rw [bestS_take hi];unfold bestStep;rw [if_pos h1]
 have h4:=bestS_split (LD:=LD) (qs:=qs) L (i+1)
 rw [h3] at h4
 rw [h4] at h2
 rw [h4,best_stay _ _ (by rw [<-h2];exact Int.le_refl _)]
theorem best_max{L:List (List Nat)} {x:List Nat} (hx:x∈L):(cntX LD qs x:Int)<=(bestS LD qs L).2:=by
 obtain⟨i,hi,rfl⟩:=List.getElem_of_mem hx
 have h4:=bestS_split (LD:=LD) (qs:=qs) L (i+1)
 have h5:=best_mono (LD:=LD) (qs:=qs) (L.drop (i+1)) (bestS LD qs (L.take (i+1)))
 rw [<-h4,bestS_take hi] at h5
 unfold bestStep at h5
 split at h5
 ·exact h5
 ·rename_i h6;omega
theorem best_some(L:List (List Nat)):(bestS LD qs L).2=-1\/∃ x∈L,(cntX LD qs x:Int)=(bestS LD qs L).2:=by
 unfold bestS
 have key:∀(l:List (List Nat)) (s:List Nat × Int),(l.foldl (bestStep LD qs) s).2=s.2\/∃ x∈l,(cntX LD qs x:Int)=(l.foldl (bestStep LD qs) s).2:=by
  intro l
  induction l with
  | nil=>intro s;exact .inl rfl
  | cons x l ih=>
   intro s
   rw [List.foldl_cons]
   rcases ih (bestStep LD qs s x) with h | ⟨y,hy,h⟩
   ·rw [h]
    unfold bestStep
    split
    ·exact .inr ⟨x,by simp,rfl⟩
    ·exact .inl rfl
   ·exact .inr ⟨y,by simp [hy],h⟩
 exact key L _
theorem fitL_len(x:List Nat):(fitL LD x qs).length=qs.length:=by unfold fitL;rw [List.length_map]
theorem fitsA_cnt{x:List Nat}:fitsA LD qs x=true↔cntX LD qs x=qs.length:=by
 unfold fitsA cntX cntB
 rw [<-fitL_len (LD:=LD) (qs:=qs) x,List.countP_eq_length,List.all_eq_true]
theorem best_full{L:List (List Nat)}:(bestS LD qs L).2=qs.length↔L.filter (fitsA LD qs)≠[]:=by
 constructor
 ·intro h
  rcases best_some (LD:=LD) (qs:=qs) L with h1 | ⟨x,hx,h1⟩
  ·omega
  ·have h2:fitsA LD qs x=true:=fitsA_cnt.2 (by omega)
   exact List.ne_nil_of_mem (List.mem_filter.2 ⟨hx,h2⟩)
 ·intro h
  obtain⟨x,hx⟩:=List.exists_mem_of_ne_nil _ h
  obtain⟨hx1,hx2⟩:=List.mem_filter.1 hx
  have h1:=best_max (LD:=LD) (qs:=qs) hx1
  rw [fitsA_cnt.1 hx2] at h1
  have h2:=(bestS_low LD qs L).2
  omega
theorem best_first{L:List (List Nat)} {y:List Nat} {r:List (List Nat)} (h:L.filter (fitsA LD qs)=y::r):(bestS LD qs L).1=y:=by
 rw [List.filter_eq_cons_iff] at h
 obtain⟨l1,l2,rfl,h1,h2,_⟩:=h
 have e:(l1++y::l2)[l1.length]?=some y:=by simp
 have hi:l1.length<(l1++y::l2).length:=by simp
 have e2:(l1++y::l2)[l1.length]=y:=by simp
 have e3:(l1++y::l2).take l1.length=l1:=by simp
 have hc:cntX LD qs y=qs.length:=fitsA_cnt.1 h2
 have hb:(bestS LD qs l1).2<(qs.length:Int):=by
  have hle:=(bestS_low LD qs l1).2
  have hne:(bestS LD qs l1).2≠qs.length:=fun q=>by
   have:=best_full.1 q
   apply this
   rw [List.filter_eq_nil_iff]
   exact h1
  omega
 have hfull:(bestS LD qs (l1++y::l2)).2=qs.length:=best_full.2 (List.ne_nil_of_mem (List.mem_filter.2 ⟨by simp,h2⟩))
 have:=best_at (LD:=LD) (qs:=qs) hi (by rw [e2,e3,hc];exact hb) (by rw [e2,hc,hfull])
 rw [this,e2]
end
def beforeB(o:List Nat)(x y:Nat):Bool:=!(o.take (o.idxOf x)).contains y
def alwaysB(L:List (List Nat)) (x y:Nat):Bool:=decide (x≠y) && L.all fun o=>beforeB o x y
end Go.Proofs.YtfdlhlghcbeblaaGreatDoor
namespace Go.Proofs.YtfdlhlghcbeblaaGreatDoor
open Go.RowKit Go.Ab
def GoodLP(LD:List LawD)(QS:List (Wd × Wd)):Prop:=LD.length<=4/\QS.length<=5/\ordE LD QS=0
theorem ordE_of{LD:List LawD}{QS:List (Wd × Wd)} (h1:LD.length<=6) (h2:LD.all lawB=true) (h3:QS.length<=32) (h4:∀ q∈QS,wE q.1=0/\wE q.2=0):ordE LD QS=0:=by
 unfold ordE
 rw [if_neg (by omega),if_pos h2,if_neg (by omega)]
 clear h3
 induction QS with
 | nil=>rfl
 | cons q QS ih=>
  have:=h4 q (by simp)
  have h5:wpE q=0:=by unfold wpE;rw [if_pos this.1];exact this.2
  rw [List.map_cons]
  unfold firstE
  rw [if_pos h5]
  exact ih fun q hq=>h4 q (by simp [hq])
theorem lawsE_zero{LD:List LawD}(h:lawsE LD=0):LD.all lawB=true:=by
 unfold lawsE at h
 split at h
 ·cases h
 ·split at h
  ·assumption
  ·cases h
theorem orders_four(n:Nat)(hn:n<=4):(ordersR n).length<=24:=by
 have h:∀ n,(ordersR (n+1)).length=(n+1)*(ordersR n).length:=fun n=>by
  conv=>lhs;unfold ordersR
  rw [List.length_flatMap]
  have e:(List.range (n+1)).map (fun f=>((ordersR n).map fun r=>f::r.map fun x=>if f<=x then x+1 else x).length)=List.replicate (n+1) (ordersR n).length:=by
   apply List.ext_getElem
   ·simp
   ·intro i h1 h2;simp
  rw [e]
  simp
 have h0:(ordersR 0).length=1:=rfl
 have h1:(ordersR 1).length=1*(ordersR 0).length:=h 0
 have h2:(ordersR 2).length=2*(ordersR 1).length:=h 1
 have h3:(ordersR 3).length=3*(ordersR 2).length:=h 2
 have h4:(ordersR 4).length=4*(ordersR 3).length:=h 3
 have:n=0\/n=1\/n=2\/n=3\/n=4:=by omega
 rcases this with rfl | rfl | rfl | rfl | rfl <;> omega
theorem expl_four(LD:List LawD)(qs:PairsL)(n:Nat)(hn:n<=4):(explL LD qs n).length<=24:=by
 have h1:=explL_length LD qs n
 rw [perms_range] at h1
 exact Nat.le_trans h1 (orders_four n hn)
theorem explL_orders(LD:List LawD)(qs:PairsL)(n:Nat):explL LD qs n=(ordersR n).filter (fitsA LD qs):=by unfold explL;rw [perms_range]
def intsN(x:List Nat):List Int:=x.map fun(i:Nat)=>(i:Int)
theorem natsI_ints(x:List Nat):natsI (intsN x)=x:=by
 unfold natsI intsN
 rw [List.map_map]
 conv=>rhs;rw [<-List.map_id x]
 apply List.map_congr_left
 intro i _
 simp
theorem intV_ints(x:List Nat):intV (intsN x)=natV x:=by
 unfold intV intsN natV
 rw [List.map_map];rfl
theorem permB_orders{n:Nat}{x:List Nat}(hx:x∈ordersR n):permB (intsN x) n=true:=by
 rw [<-perms_range] at hx
 obtain⟨h1,h2⟩:=orders_perm n x hx
 unfold permB intsN
 rw [decide_eq_true_iff]
 apply List.Perm.map
 rw [List.perm_ext_iff_of_nodup h1 List.nodup_range]
 intro a
 rw [h2,List.mem_range]
theorem withE_orders{LD:List LawD}{QS:List (Wd × Wd)} {x:List Nat} (h:ordE LD QS=0) (hx:x∈ordersR LD.length):withE LD (intsN x) QS=0:=by
 unfold withE
 rw [if_pos h,if_pos (permB_orders hx)]
def byI(ps:LawsL)(x:List Nat)(qs:PairsL):Int:=if firstR ps x qs=qs.length then -1 else(firstR ps x qs:Nat)
theorem fits_by{ps:LawsL}{qs:PairsL}{x:List Nat}(h:ordE (ps.map (·.1)) (qs.map (·.1))=0) (hx:x∈ordersR ps.length):fitsI (ps.map (·.1)) (intsN x) qs=max (byI ps x qs) 0/\fitsN (ps.map (·.1)) (intsN x) qs=decide (0<=byI ps x qs):=by
 have hw:=withE_orders h (x:=x) (by rw [List.length_map];exact hx)
 rw [<-fits_same.1,<-fits_same.2]
 unfold rfitI rfitN byI
 rw [if_pos hw,if_pos hw,natsI_ints]
 by_cases h1:firstR ps x qs=qs.length
 ·rw [if_pos h1,if_pos h1]
  refine⟨by decide,?_⟩
  rw [decide_eq_false (by simpa using h1)];decide
 ·rw [if_neg h1,if_neg h1]
  refine⟨by omega,?_⟩
  rw [decide_eq_true h1,decide_eq_true (by omega)]
theorem byI_all{ps:LawsL}{qs:PairsL}{x:List Nat}(h:ordE (ps.map (·.1)) (qs.map (·.1))=0) (hx:x∈ordersR ps.length):fitsA (ps.map (·.1)) qs x=decide (byI ps x qs<0):=by
 have hl:=(orders_lt _ x hx).1
 have h6:=(ordE_zero h).1
 rw [List.length_map] at h6
 have he:=expls_fit (ol:=x) h (by omega)
 unfold fitsA byI
 rw [<-he]
 by_cases h1:firstR ps x qs=qs.length
 ·rw [if_pos h1,firstR_all.1 h1];decide
 ·rw [if_neg h1,decide_eq_false (by omega)]
  cases hb:(explsR ps x qs).all id with
  | false=>rfl
  | true=>exact absurd (firstR_all.2 hb) h1
theorem cntR_X{ps:LawsL}{qs:PairsL}{x:List Nat}(h:ordE (ps.map (·.1)) (qs.map (·.1))=0) (hx:x∈ordersR ps.length):cntR ps qs x=cntX (ps.map (·.1)) qs x:=by
 have hl:=(orders_lt _ x hx).1
 have h6:=(ordE_zero h).1
 rw [List.length_map] at h6
 unfold cntR cntX cntB
 rw [expls_fit (ol:=x) h (by omega)]
theorem filt_take_succ{α:Type}(p:α->Bool){f:List α}{i:Nat}(hi:i<f.length):((f.take (i+1)).filter p).length=((f.take i).filter p).length+if p f[i]=true then 1 else 0:=by
 rw [List.take_succ_eq_append_getElem hi,List.filter_append,List.length_append]
 by_cases h:p f[i]=true <;> simp [h]
end Go.Proofs.YtfdlhlghcbeblaaGreatDoor
