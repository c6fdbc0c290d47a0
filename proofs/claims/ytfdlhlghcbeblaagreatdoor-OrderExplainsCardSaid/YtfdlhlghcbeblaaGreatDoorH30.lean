/- slices.Values, slices.Sorted over ints; order.with. PLAIN: when a list is a permutation. ablautref14.permutation. slices.Clone over rows of states and of ints (printed by genclone.py). An element of a row of structs written over. order.apply (first printed by genorda.py; since then changed by hand). -/
import Derived.Test.YtfdlhlghcbeblaaGreatDoorH29
import Derived.Test.YtfdlhlghcbeblaaGreatDoorH17
import Derived.Test.YtfdlhlghcbeblaaGreatDoorH15
import Derived.Test.YtfdlhlghcbeblaaGreatDoorH28
import Derived.Test.YtfdlhlghcbeblaaGreatDoorH16
import Derived.Test.YtfdlhlghcbeblaaGreatDoorH11
import Derived.Test.YtfdlhlghcbeblaaGreatDoorH10
import Derived.Test.YtfdlhlghcbeblaaGreatDoorH26
import Derived.Lib.SliceRun
set_option maxRecDepth 100000
set_option maxHeartbeats 8000000
namespace Go.Proofs.YtfdlhlghcbeblaaGreatDoor
open Go.RowKit Go.Ab
attribute [local go_sem] Oper.semAt_some wide_fn wide_depth
theorem rd_at1{w:World}{v:Value}{n:Nat}{xs:List Value}(h:Rd w v n 1 xs){k:Nat}(hk:k<n):∃ g off cap,v=.slice (some ⟨g,off,none⟩) n cap/\g<w.heap.size/\w.cell? ⟨g,off+k,none⟩=some (xs.getD k undef):=by
 obtain⟨_,_,ao,cap,rfl,h3⟩:=h
 obtain⟨g,off,rfl,hg,hc⟩:=h3 (by omega)
 exact⟨g,off,cap,rfl,hg,hc k (by omega)⟩
theorem rd_keepS{S:Nat->Prop}{A B:World}{v:Value}{n sz:Nat}{xs:List Value}(h:Rd A v n sz xs)(ht:Turn (fun b=>¬ S b) A B) (hS:KeptIn S v):Rd B v n sz xs:=by
 obtain⟨h1,h2,ao,cap,rfl,h3⟩:=h
 refine⟨h1,h2,ao,cap,rfl,fun hn=>?_⟩
 obtain⟨g,off,rfl,hg,hc⟩:=h3 hn
 exact⟨g,off,rfl,Nat.lt_of_lt_of_le hg ht.size,fun j hj=>ht.cell_some (hc j hj) (fun h=>h (hS g off n cap rfl hn))⟩
theorem intV_getD(L:List Int){i:Nat}(h:i<L.length):(intV L).getD i undef=.int .i64 L[i]:=by
 unfold intV
 rw [List.getD_eq_getElem?_getD,List.getElem?_map,List.getElem?_eq_getElem h];rfl
theorem split_at{α:Type}{xs:List α}{k:Nat}(h:k<xs.length):xs=xs.take k++xs[k]::xs.drop (k+1):=by
 rw [<-List.drop_eq_getElem_cons h,List.take_append_drop]
theorem values_iter{w:World}{B:Nat}{ao:Option Addr}{n c:Nat}{xs:List Int}{K:Nat->Prop}(hb:w.heap[B]?=some (.cells #[.slice ao n c] 48 (0,0))) (hKB:K B) (hr:Rd w (.slice ao n c) n 1 (intV xs)) (hn:xs.length=n) (hKr:KeptIn K (.slice ao n c)) :
  IterO Tryz.prog 178 #[.pointer (some ⟨B,0,none⟩)] (fun _ _=>False) intE xs K w:=by
 intro l J Jx W ht hJ hJx hY h0
 have hb1:=ht.heap hb (fun h=>h hKB)
 have hnm:n<=maxLen:=hr.2.1
 unfold maxLen at hnm
 have HR:=Lib.hid hr;have HKR:=Lib.hid hKr;have HY:=Lib.hid hY;have HN:=Lib.hid hn;have HT:=Lib.hid ht;have H0:=Lib.hid h0
 clear hr hKr hY hn ht h0 hJ hJx
 show Calls _ _ #[.func (.yield l) #[] #[],.pointer (some ⟨B,0,none⟩)] _ _
 go_enter Tryz.func178,Tryz.ntmps178
 have cB:=cell_of_one hb1
 go_wp2
 clear cB hb1 hb
 refine wp_loop (fun a V=>∃(k:Nat),k<=n/\a.defers=[]/\(a.tmps.size=16/\a.tmps.getD 0 undef=.func (.yield l) #[] #[]/\a.tmps.getD 5 undef=.slice ao n c/\a.tmps.getD 6 undef=.int .i64 n/\a.tmps.getD 7 undef=.int .i64 k)/\J (fun _=>False) (xs.take k) V/\Turn (fun b=>¬ K b) w V)
  (fun a _=>((n:Int) - intOf (a.tmps.getD 7 undef)).toNat) ?_ ?_
 ·exact⟨0,by omega,rfl,⟨rfl,rfl,rfl,rfl,rfl⟩,H0.out,HT.out⟩
 clear H0 HT
 rintro⟨t,_⟩ V ⟨k,hk,hds,⟨hsz,f0,f5,f6,f7⟩,hj,hT⟩
 subst hds
 obtain⟨u',hu⟩:=frame_fun hsz
 obtain⟨u,rfl⟩:∃ x,x=u':=⟨_,rfl⟩
 have hu':t=#[u 0,u 1,u 2,u 3,u 4,u 5,u 6,u 7,u 8,u 9,u 10,u 11,u 12,u 13,u 14,u 15]:=hu
 clear hu
 subst hu'
 change u 0=_ at f0
 change u 5=_ at f5
 change u 6=_ at f6
 change u 7=_ at f7
 rw [f0,f5,f6,f7]
 clear f0 f5 f6 f7 hsz
 have HJ:=Lib.hid hj;have HT:=Lib.hid hT
 clear hj hT
 by_cases hkN:k<n
 case neg=>
  obtain rfl:k=n:=by omega
  have h1:¬ (k:Int)<(k:Int):=by omega
  have hj:=HJ.out
  rw [List.take_of_length_le (by rw [HN.out];exact Nat.le_refl _)] at hj
  have HJ2:=Lib.hid hj
  clear hj
  go_wp2
  go_end0
  exact⟨⟨_,rfl⟩,_,.inl HJ2.out⟩
 have h1:(k:Int)<(n:Int):=by omega
 have h0:(0:Int)<=(k:Int):=by omega
 have hkl:k<xs.length:=by rw [HN.out];exact hkN
 have hrV:=rd_keepS HR.out HT.out HKR.out
 obtain⟨g,off,cap,hq,hg,hc⟩:=rd_at1 hrV hkN
 simp only [Value.slice.injEq,true_and] at hq
 obtain⟨rfl,rfl⟩:=hq
 rw [intV_getD xs hkl] at hc
 obtain⟨x,hx⟩:∃ x,xs[k]=x:=⟨_,rfl⟩
 rw [hx] at hc
 have hsp:=split_at hkl
 rw [hx] at hsp
 have htk:xs.take (k+1)=xs.take k++[x]:=by rw [List.take_succ_eq_append_getElem hkl,hx]
 have HTK:=Lib.hid htk;have HSP:=Lib.hid hsp
 obtain⟨fn,tmps,assign,body,hy,hYR⟩:=HY.out (fun _=>False) (xs.take k) x (xs.drop (k+1)) V #[.int .i64 x] hsp HJ.out rfl
 have HYR:=Lib.hid hYR
 have hwk:IntKind.i64.wrap ((k:Int)+1)=(k:Int)+1:=IntWalk.i64_in _ (by omega)
 clear hYR hsp htk hx hkl hrV
 go_upto_region 3 with (fail)
 refine(wpIn_wide (n:=0)).1 ?_
 gi_wp2
 refine HYR.out.mono ?_
 rintro e V3 (⟨rfl,hJ3,hk3⟩ | ⟨rfl,hJ3,hk3⟩)
 case inr=>
  gi_wp2
  go_wp2
  refine bodyPost_ret (results_none rfl _ _ _) rfl ?_
  exact⟨⟨_,rfl⟩,_,.inr ⟨xs.take k,x,_,HSP.out,hJ3⟩⟩
 have hT3:Turn (fun b=>¬ K b) w V3:=HT.out.trans (hk3.mono fun b _ h=>h.1)
 have HJ3:=Lib.hid hJ3;have HT3:=Lib.hid hT3
 clear hJ3 hT3 hk3 hy HYR HJ HT
 gi_wp2
 go_wp2
 exact⟨⟨k+1,by omega,by first | rfl | trivial,⟨rfl,rfl,rfl,rfl,rfl⟩,by rw [HTK.out];exact HJ3.out,HT3.out⟩,by first | (simp [intOf];done) | (simp [intOf];omega)⟩
theorem values_any(ao:Option Addr)(n c:Nat)(w:World) :
  Calls Tryz.prog 134 #[.slice ao n c] w fun e w'=>e=.returned (.func (.func 178) #[] #[.pointer (some ⟨w.heap.size,0,none⟩)])/\w'.heap[w.heap.size]?=some (.cells #[.slice ao n c] 48 (0,0))/\Ext w w':=by
 go_enter Tryz.func134,Tryz.ntmps134
 go_wp2
 go_ret
 exact⟨rfl,new_at rfl,(Turn.refl _ w).alloc _⟩
theorem sorted_vals{w:World}{B:Nat}{ao:Option Addr}{n c:Nat}{xs:List Int}(hb:w.heap[B]?=some (.cells #[.slice ao n c] 48 (0,0))) (hr:Rd w (.slice ao n c) n 1 (intV xs)) (hn:xs.length=n) (h12:n<=12) :
  Calls Tryz.prog 133 #[.func (.func 178) #[] #[.pointer (some ⟨B,0,none⟩)]] w fun e w'=>∃ u X,e=.returned u/\w'.ownsRow w.heap.size 3 1 u n (intV X)/\X.Perm xs/\X.Pairwise (·<=·)/\Ext w w':=by
 have hBlt:=(Array.getElem?_eq_some_iff.1 hb).1
 have hkr:KeptIn (fun b=>b<w.heap.size) (.slice ao n c):=fun g o m c' e h0=>by
  cases e
  obtain⟨g',off,cap,q,hg,_⟩:=rd_at1 hr h0
  cases q
  exact hg
 have hcoll:=collect_intI (w:=w) (gf:=178) (lb:=#[.pointer (some ⟨B,0,none⟩)]) (M:=fun _ _=>False) (xs:=xs) (fun args w=>by simp [go_sem]) (fun w1 hE=>values_iter (hE.keep hb) hBlt (hr.ext hE) hn hkr) (by omega)
 have HC:=Lib.hid hcoll;have HN:=Lib.hid hn
 clear hcoll hr hkr hb
 go_enter Tryz.func133,Tryz.ntmps133
 go_wp2_with fail
 refine HC.out.mono ?_
 rintro e w1 ⟨u,rfl,hO,hE⟩
 rw [HN.out] at hO
 obtain⟨uo,uc,rfl⟩:=own_slice hO
 have hs:=sort_any hO HN.out h12
 have HS:=Lib.hid hs;have HE:=Lib.hid hE;have HLT:=Lib.hid (fun g hg=>(hO.lt g hg).1)
 clear hs hE hO HC hn
 go_wp2_with fail
 refine HS.out.mono ?_
 rintro e w2 ⟨rfl,⟨X,hp,hpw,hO2⟩,hT⟩
 have hE2:Ext w w2:=HE.out.after hT (fun b hb e=>by have:=HLT.out b e;omega)
 have HO2:=Lib.hid hO2;have HE2:=Lib.hid hE2;have HP:=Lib.hid hp;have HPW:=Lib.hid hpw
 clear hO2 hE2 hp hpw hT HS HE HLT
 go_wp2
 go_ret
 exact⟨_,X,rfl,HO2.out,HP.out,HPW.out,HE2.out⟩
def permB(xs:List Int)(n:Nat):Bool:=decide (xs.Perm ((List.range n).map fun(i:Nat)=>(i:Int)))
def withE(LD:List LawD)(xs:List Int)(QS:List (Wd × Wd)):Int:=if ordE LD QS=0 then(if permB xs LD.length=true then 0 else 2) else ordE LD QS
theorem ordE_six{LD:List LawD}{QS:List (Wd × Wd)} (h:ordE LD QS=0):LD.length<=6/\LD.all lawB=true/\QS.length<=32/\firstE (QS.map wpE)=0:=by
 unfold ordE at h
 split at h
 ·cases h
 ·split at h
  ·split at h
   ·cases h
   ·exact⟨by omega,by assumption,by omega,h⟩
  ·cases h
def rangeI(n:Nat):List Int:=(List.range n).map fun(i:Nat)=>(i:Int)
theorem range_sorted(n:Nat):(rangeI n).Pairwise (·<=·):=by
 unfold rangeI
 rw [List.pairwise_map]
 exact List.Pairwise.imp (fun h=>by omega) (List.pairwise_lt_range (n:=n))
theorem sorted_eq:∀ {a b:List Int},a.Perm b->a.Pairwise (·<=·)->b.Pairwise (·<=·)->a=b
 | [],b,h,_,_=>h.nil_eq
 | x::a,[],h,_,_=>by cases h.symm.nil_eq
 | x::a,y::b,h,h1,h2=>by
  have hx:x∈y::b:=h.mem_iff.1 (by simp)
  have hy:y∈x::a:=h.mem_iff.2 (by simp)
  obtain⟨p1,p2⟩:=List.pairwise_cons.1 h1
  obtain⟨q1,q2⟩:=List.pairwise_cons.1 h2
  have e:x=y:=by
   rcases List.mem_cons.1 hx with e | e
   ·exact e
   ·rcases List.mem_cons.1 hy with e' | e'
    ·exact e'.symm
    ·exact Int.le_antisymm (p1 _ e') (q1 _ e)
  subst e
  rw [sorted_eq (List.Perm.cons_inv h) p2 q2]
def upTo(X:List Int)(k:Nat):Prop:=X.take k=rangeI k
theorem upTo_succ{X:List Int}{k:Nat}(hk:k<X.length)(h:upTo X k)(h1:X[k]=(k:Int)):upTo X (k+1):=by
 unfold upTo rangeI at *
 rw [List.take_succ_eq_append_getElem hk,h,h1,List.range_succ,List.map_append];rfl
theorem upTo_perm{X xs:List Int}{n:Nat}(hX:X.length=n)(h:upTo X n)(hp:X.Perm xs):permB xs n=true:=by
 unfold upTo at h
 rw [List.take_of_length_le (by omega)] at h
 unfold permB
 rw [decide_eq_true_eq]
 exact hp.symm.trans (by rw [h];rfl)
theorem upTo_not{X xs:List Int}{n k:Nat}(hs:X.Pairwise (·<=·)) (hp:X.Perm xs) (hk:k<X.length) (h1:X[k]≠(k:Int)):permB xs n=false:=by
 unfold permB
 rw [decide_eq_false_iff_not]
 intro h
 have h2:X=rangeI n:=sorted_eq (hp.trans h) hs (range_sorted n)
 apply h1
 have h3:k<(rangeI n).length:=by rw [<-h2];exact hk
 have:X[k]?=(rangeI n)[k]?:=by rw [h2]
 rw [List.getElem?_eq_getElem hk] at this
 unfold rangeI at this h3
 rw [List.length_map,List.length_range] at h3
 rw [List.getElem?_map,List.getElem?_range h3] at this
 exact Option.some.inj this
theorem perm_length{xs:List Int}{n:Nat}(h:xs.length≠n):permB xs n=false:=by
 unfold permB
 rw [decide_eq_false_iff_not]
 intro h2
 have:=h2.length_eq
 rw [List.length_map,List.length_range] at this
 exact h this
theorem with_any{w:World}{ps:LawsL}{qs:PairsL}{lo:Option Addr}{n lc:Nat}{oo:Option Addr}{on oc:Nat}{xs:List Int}{po:Option Addr}{m pc:Nat}(hl:LawsAt w (.slice lo n lc) ps) (hn:ps.length=n) (ho:Rd w (.slice oo on oc) on 1 (intV xs)) (hon:xs.length=on) (hp:PairsAt w (.slice po m pc) qs) (hm:qs.length=m) (hT:Tab w) :
  Calls Tryz.prog 84 #[.slice lo n lc,.slice oo on oc,.slice po m pc] w fun e w'=>e=.returned (.int .i64 (withE (ps.map (·.1)) xs (qs.map (·.1))))/\Ext w w':=by
 have hck:=fun(V:World) (hE:Ext w V)=>ocheck_any (hl.ext hE) hn (pairs_ext hp hE) hm (hT.keep hE id)
 have hom:on<=maxLen:=ho.2.1
 have hnm:n<=maxLen:=by rw [<-hn];exact hl.1.2.1
 unfold maxLen at hom hnm
 have hLn:(ps.map (·.1)).length=n:=by rw [List.length_map,hn]
 obtain⟨LD,hLD⟩:∃ x,ps.map (·.1)=x:=⟨_,rfl⟩
 obtain⟨QS,hQS⟩:∃ x,qs.map (·.1)=x:=⟨_,rfl⟩
 rw [hLD] at hLn ⊢
 rw [hQS]
 simp only [hLD,hQS] at hck
 have hval:(ordE LD QS≠0->withE LD xs QS=ordE LD QS)/\(ordE LD QS=0->permB xs n=true->withE LD xs QS=0)/\(ordE LD QS=0->permB xs n=false->withE LD xs QS=2)/\(ordE LD QS=0->n<=6):=by
  unfold withE
  rw [hLn]
  exact⟨fun h=>by rw [if_neg h],fun h h1=>by rw [if_pos h,if_pos h1],fun h h1=>by rw [if_pos h,if_neg (by rw [h1];decide)],fun h=>by rw [<-hLn];exact(ordE_six h).1⟩
 obtain⟨E,hE0⟩:∃ x,ordE LD QS=x:=⟨_,rfl⟩
 obtain⟨R,hR⟩:∃ x,withE LD xs QS=x:=⟨_,rfl⟩
 rw [hE0,hR] at hval
 rw [hR]
 simp only [hE0] at hck
 obtain⟨v1,v2,v3,v4⟩:=hval
 have HV1:=Lib.hid v1;have HV2:=Lib.hid v2;have HV3:=Lib.hid v3;have HV4:=Lib.hid v4
 have HCK:=Lib.hid hck;have HO:=Lib.hid ho;have HON:=Lib.hid hon
 clear hE0 hR v1 v2 v3 v4 hck ho hon hl hp hT hLD hQS hLn hn hm
 go_enter Tryz.func84,Tryz.ntmps84
 go_wp2_with fail
 refine(HCK.out _ (Turn.refl _ _)).mono ?_
 rintro e w1 ⟨rfl,hE1⟩
 have HE1:=Lib.hid hE1
 clear hE1 HCK
 by_cases hE0:E=0
 case neg=>
  have hne:(E != 0)=true:=by simpa using hE0
  have he:=HV1.out hE0
  have HEQ:=Lib.hid he
  clear he
  go_wp2
  go_ret
  exact⟨by rw [HEQ.out];rfl,HE1.out⟩
 subst hE0
 by_cases hln:on=n
 case neg=>
  have he:=HV3.out rfl (perm_length (by rw [HON.out];exact hln))
  have HEQ:=Lib.hid he
  have hl2:¬ ((on:Int)=(n:Int)):=by omega
  clear he
  go_wp2
  go_ret
  exact⟨by rw [HEQ.out];rfl,HE1.out⟩
 subst hln
 have h6:=HV4.out rfl
 have hsv:=fun(V:World) (hE:Ext w V) (B:Nat) (hb:V.heap[B]?=some (.cells #[.slice oo on oc] 48 (0,0)))=>sorted_vals hb (HO.out.ext hE) HON.out (by omega)
 have HSV:=Lib.hid hsv
 clear hsv HV4 HV1
 go_wp2_with fail
 refine(values_any oo on oc _).mono ?_
 rintro e w2 ⟨rfl,hb2,hN2⟩
 have hE2:=HE1.out.trans hN2
 have hsr:=HSV.out w2 hE2 _ hb2
 have HSR:=Lib.hid hsr;have HE2:=Lib.hid hE2
 clear hsr hE2 hb2 hN2 HSV HE1
 go_wp2_with fail
 refine HSR.out.mono ?_
 rintro e w3 ⟨u,X,rfl,hO3,hp3,hs3,hN3⟩
 obtain⟨uo,uc,rfl⟩:=own_slice hO3
 have hX:X.length=on:=by rw [hp3.length_eq,HON.out]
 have HO3:=Lib.hid (Rd.of_own hO3);have HP3:=Lib.hid hp3;have HS3:=Lib.hid hs3;have HX:=Lib.hid hX;have HE3:=Lib.hid (HE2.out.trans hN3)
 clear hO3 hp3 hs3 hX hN3 HSR HE2
 go_wp2
 refine wp_loop (fun a W=>∃(k:Nat),k<=on/\a.defers=[]/\(a.tmps.size=36/\a.tmps.getD 25 undef=.slice uo on uc/\a.tmps.getD 26 undef=.int .i64 on/\a.tmps.getD 27 undef=.int .i64 k)/\upTo X k/\w3=W)
  (fun a _=>((on:Int) - intOf (a.tmps.getD 27 undef)).toNat) ?_ ?_
 ·exact⟨0,by omega,rfl,⟨rfl,rfl,rfl,rfl⟩,rfl,rfl⟩
 rintro⟨t,_⟩ W ⟨k,hk,hds,⟨hsz,f25,f26,f27⟩,hup,rfl⟩
 subst hds
 obtain⟨u',hu⟩:=frame_fun hsz
 obtain⟨u,rfl⟩:∃ x,x=u':=⟨_,rfl⟩
 have hu':t=#[u 0,u 1,u 2,u 3,u 4,u 5,u 6,u 7,u 8,u 9,u 10,u 11,u 12,u 13,u 14,u 15,u 16,u 17,u 18,u 19,u 20,u 21,u 22,u 23,u 24,u 25,u 26,u 27,u 28,u 29,u 30,u 31,u 32,u 33,u 34,u 35]:=hu
 clear hu
 subst hu'
 change u 25=_ at f25
 change u 26=_ at f26
 change u 27=_ at f27
 rw [f25,f26,f27]
 clear f25 f26 f27 hsz
 have HUP:=Lib.hid hup
 clear hup
 by_cases hkN:k<on
 case neg=>
  obtain rfl:k=on:=by omega
  have h1:¬ (k:Int)<(k:Int):=by omega
  have he:=HV2.out (by first | trivial | rfl) (upTo_perm HX.out HUP.out HP3.out)
  have HEQ:=Lib.hid he
  clear he
  go_wp2
  go_ret
  exact⟨by rw [HEQ.out];rfl,HE3.out⟩
 have h1:(k:Int)<(on:Int):=by omega
 have h0:(0:Int)<=(k:Int):=by omega
 have hkX:k<X.length:=by rw [HX.out];exact hkN
 obtain⟨g,off,cap,hq,hg,hc⟩:=rd_at1 HO3.out hkN
 simp only [Value.slice.injEq,true_and] at hq
 obtain⟨rfl,rfl⟩:=hq
 rw [intV_getD X hkX] at hc
 have hun:=fun(h:X[k]≠(k:Int))=>HV3.out (by first | trivial | rfl) (upTo_not HS3.out HP3.out hkX h)
 have hup2:=fun(h:X[k]=(k:Int))=>upTo_succ hkX HUP.out h
 obtain⟨x,hx⟩:∃ x,X[k]=x:=⟨_,rfl⟩
 rw [hx] at hc hun hup2
 have HUN:=Lib.hid hun;have HUP2:=Lib.hid hup2
 have hwk:IntKind.i64.wrap ((k:Int)+1)=(k:Int)+1:=IntWalk.i64_in _ (by omega)
 clear hx hun hup2 hkX
 by_cases hxk:x=(k:Int)
 case neg=>
  have hne:¬ ((k:Int)=x):=fun h=>hxk h.symm
  have he:=HUN.out hxk
  have HEQ:=Lib.hid he
  clear he
  go_wp2
  go_ret
  exact⟨by rw [HEQ.out];rfl,HE3.out⟩
 subst hxk
 have hu2:=HUP2.out rfl
 have HU2:=Lib.hid hu2
 clear hu2 HUN HUP2
 go_wp2
 exact⟨⟨k+1,by omega,by first | rfl | trivial,⟨rfl,rfl,rfl,rfl⟩,HU2.out,by first | trivial | rfl⟩,by first | (simp [intOf];done) | (simp [intOf];omega)⟩
end Go.Proofs.YtfdlhlghcbeblaaGreatDoor
namespace Go.Proofs.YtfdlhlghcbeblaaGreatDoor
open Go.RowKit Go.Ab
def goodP(xs:List Int)(n k:Nat):Prop:=(∀ x∈xs.take k,0<=x/\x<(n:Int))/\(xs.take k).Nodup
def seenL(xs:List Int)(n k:Nat):List Value:=(List.range n).map fun(i:Nat)=>.bool (decide ((i:Int)∈xs.take k))
end Go.Proofs.YtfdlhlghcbeblaaGreatDoor
set_option maxRecDepth 100000
set_option maxHeartbeats 8000000
namespace Go.Proofs.YtfdlhlghcbeblaaGreatDoor
open Go.RowKit Go.Ab
attribute [local go_sem] Oper.semAt_some wide_fn wide_depth
end Go.Proofs.YtfdlhlghcbeblaaGreatDoor
set_option maxRecDepth 100000
set_option maxHeartbeats 8000000
namespace Go.Proofs.YtfdlhlghcbeblaaGreatDoor
open Go.RowKit Go.Ab
attribute [local go_sem] Oper.semAt_some wide_fn wide_depth
theorem infoI1:(Tryz.prog.info? 3).map (fun i=>(i.zero,i.size,i.bytes))=some (some (.int .i64 0),1,8):=by kernel_rfl
theorem clone_st{w:World}{ao:Option Addr}{n cap:Nat}{xs:List Value}(hv:Rd w (.slice ao n cap) n 2 xs) (h1:∀ u∈xs,u.oneCell'=true) (hn:n<=1000000) :
  Calls Tryz.prog 179 #[.slice ao n cap] w fun e w'=>∃ bo c,e=.returned (.slice bo n c)/\w'.ownsRow w.heap.size 240 2 (.slice bo n c) n xs/\Ext w w':=by
 have HV:=Lib.hid hv;have H1:=Lib.hid h1
 obtain⟨g1,g2,ao',cap',hq,g3⟩:=hv
 simp only [Value.slice.injEq,true_and] at hq
 obtain⟨rfl,rfl⟩:=hq
 clear h1
 unfold maxLen at g2
 cases ao with
 | none=>
  have hn0:n=0:=by
   apply Nat.eq_zero_of_not_pos
   intro h
   obtain⟨g,off,h1,_⟩:=g3 h
   cases h1
  subst hn0
  have hw:xs=[]:=List.eq_nil_of_length_eq_zero (by omega)
  subst hw
  clear g3 g1
  have hq:=fun(w:World)=>Lib.run_eql_slice_nil (P:=Tryz.prog) w 178 240 none 0 cap 0 0 Tryz.underlying178
  go_enter Tryz.func179,Tryz.ntmps179
  go_wp2
  go_ret
  exact⟨none,0,rfl,World.ownsRow_nil _ _ _ _,Turn.refl _ _⟩
 | some a=>
  clear g3 g1
  have hq:=fun(w:World)=>Lib.run_eql_slice_nil (P:=Tryz.prog) w 178 240 (some a) n cap 0 0 Tryz.underlying178
  go_enter Tryz.func179,Tryz.ntmps179
  have hA:Ext w (w.alloc (.cells #[] 240)):=(Turn.refl _ w).alloc _
  have hO:=World.ownsRow_made (base:=w.heap.size) (e:=240) (size:=2) w #[] 0 (Nat.le_refl _) (by decide) rfl
  have hrd:=HV.out.ext hA
  have HO:=Lib.hid hO;have HRD:=Lib.hid hrd;have HA:=Lib.hid hA
  clear hO hrd hA
  go_wp2_with (at_builtin;refine append_rd rfl (.tmp 5) (.tmp 6) 178 rfl w.heap.size 240 _ 2 32 Tryz.underlying178 @infoSt rfl (by decide) _ 0 [] rfl HO.out _ _ _ _ rfl HRD.out H1.out ?c3 ?c4 ?c5 ?_)
  case c3=>unfold maxLen;omega
  case c4=>omega
  case c5=>exact HA.out.size
  intro ao' c' W3 hO3 hT3 _
  have hE3:Ext w W3:=HA.out.after hT3 (fun b h1 e=>by simp [Value.ownBlock] at e;omega)
  have HO3:=Lib.hid hO3;have HE3:=Lib.hid hE3
  clear hO3 hE3 hT3
  go_wp2
  go_ret
  refine⟨ao',c',?_,?_,HE3.out⟩
  ·first | rfl | simp
  ·have:=HO3.out
   simpa using this
theorem clone_int{w:World}{ao:Option Addr}{n cap:Nat}{xs:List Value}(hv:Rd w (.slice ao n cap) n 1 xs) (h1:∀ u∈xs,u.oneCell'=true) (hn:n<=1000000) :
  Calls Tryz.prog 77 #[.slice ao n cap] w fun e w'=>∃ bo c,e=.returned (.slice bo n c)/\w'.ownsRow w.heap.size 3 1 (.slice bo n c) n xs/\Ext w w':=by
 have HV:=Lib.hid hv;have H1:=Lib.hid h1
 obtain⟨g1,g2,ao',cap',hq,g3⟩:=hv
 simp only [Value.slice.injEq,true_and] at hq
 obtain⟨rfl,rfl⟩:=hq
 clear h1
 unfold maxLen at g2
 cases ao with
 | none=>
  have hn0:n=0:=by
   apply Nat.eq_zero_of_not_pos
   intro h
   obtain⟨g,off,h1,_⟩:=g3 h
   cases h1
  subst hn0
  have hw:xs=[]:=List.eq_nil_of_length_eq_zero (by omega)
  subst hw
  clear g3 g1
  have hq:=fun(w:World)=>Lib.run_eql_slice_nil (P:=Tryz.prog) w 48 3 none 0 cap 0 0 Tryz.underlying48
  go_enter Tryz.func77,Tryz.ntmps77
  go_wp2
  go_ret
  exact⟨none,0,rfl,World.ownsRow_nil _ _ _ _,Turn.refl _ _⟩
 | some a=>
  clear g3 g1
  have hq:=fun(w:World)=>Lib.run_eql_slice_nil (P:=Tryz.prog) w 48 3 (some a) n cap 0 0 Tryz.underlying48
  go_enter Tryz.func77,Tryz.ntmps77
  have hA:Ext w (w.alloc (.cells #[] 3)):=(Turn.refl _ w).alloc _
  have hO:=World.ownsRow_made (base:=w.heap.size) (e:=3) (size:=1) w #[] 0 (Nat.le_refl _) (by decide) rfl
  have hrd:=HV.out.ext hA
  have HO:=Lib.hid hO;have HRD:=Lib.hid hrd;have HA:=Lib.hid hA
  clear hO hrd hA
  go_wp2_with (at_builtin;refine append_rd rfl (.tmp 5) (.tmp 6) 48 rfl w.heap.size 3 _ 1 8 Tryz.underlying48 @infoI1 rfl (by decide) _ 0 [] rfl HO.out _ _ _ _ rfl HRD.out H1.out ?c3 ?c4 ?c5 ?_)
  case c3=>unfold maxLen;omega
  case c4=>omega
  case c5=>exact HA.out.size
  intro ao' c' W3 hO3 hT3 _
  have hE3:Ext w W3:=HA.out.after hT3 (fun b h1 e=>by simp [Value.ownBlock] at e;omega)
  have HO3:=Lib.hid hO3;have HE3:=Lib.hid hE3
  clear hO3 hE3 hT3
  go_wp2
  go_ret
  refine⟨ao',c',?_,?_,HE3.out⟩
  ·first | rfl | simp
  ·have:=HO3.out
   simpa using this
end Go.Proofs.YtfdlhlghcbeblaaGreatDoor
namespace Go.Proofs.YtfdlhlghcbeblaaGreatDoor
open Go.RowKit Go.Ab
theorem own_setS{w:World}{base:Nat}{e:TypeId}{sz g n cap j:Nat}{xs cs:List Value}(h:w.ownsRow base e sz (.slice (some ⟨g,0,none⟩) n cap) n xs) (hj:j<n) (hc:cs.length=sz) :
  (w.setCells g (j*sz) cs).ownsRow base e sz (.slice (some ⟨g,0,none⟩) n cap) n (overL xs (j*sz) cs):=by
 have hl:=h.1
 rcases h.2 with ⟨q,_⟩ | ⟨g',cap',cur,q,hb,hg,hnc,hcm,hcs,htake⟩
 ·cases q
 ·simp only [Value.slice.injEq,Option.some.injEq,Addr.mk.injEq] at q
  obtain⟨⟨rfl,_,_⟩,_,rfl⟩:=q
  have hle:j*sz+cs.length<=n*sz:=by
   have:=Nat.mul_le_mul_right sz (show j+1<=n by omega)
   rw [Nat.add_mul,Nat.one_mul] at this
   omega
  refine⟨by rw [overL_length];exact hl,.inr ⟨g,cap,_,rfl,hb,setCells_heap cs _ w cur hg,hnc,hcm,by simp [overL_length,hcs],?_⟩⟩
  rw [show ((overL cur.toList (j*sz) cs).toArray.toList)=overL cur.toList (j*sz) cs from rfl,overL_take _ _ _ _ hle,htake]
theorem flat_length{α:Type}{sz:Nat}{os:List (α × List Value)} (h:∀ p∈os,p.2.length=sz):(os.flatMap (·.2)).length=os.length*sz:=by
 induction os with
 | nil=>simp
 | cons p ps ih=>
  rw [List.flatMap_cons,List.length_append,h p (by simp),ih (fun p hp=>h p (by simp [hp])),List.length_cons,Nat.add_mul,Nat.one_mul,Nat.add_comm]
theorem over_set{α:Type}{sz j:Nat}{os:List (α × List Value)} {x:α} {cs:List Value} (h0:0<sz) (h:∀ p∈os,p.2.length=sz) (hj:j<os.length) (hc:cs.length=sz):overL (os.flatMap (·.2)) (j*sz) cs=(os.set j (x,cs)).flatMap (·.2):=by
 have h2:∀ p∈os.set j (x,cs),p.2.length=sz:=fun p hp=>by
  rcases List.mem_or_eq_of_mem_set hp with hp | rfl
  ·exact h p hp
  ·exact hc
 have hle:j*sz+cs.length<=(os.flatMap (·.2)).length:=by
  rw [flat_length h]
  have:=Nat.mul_le_mul_right sz (show j+1<=os.length by omega)
  rw [Nat.add_mul,Nat.one_mul] at this
  omega
 apply List.ext_getElem?
 intro i
 rw [overL_get _ _ _ _ hle]
 by_cases hi:i<os.length*sz
 ·have hr:i % sz<sz:=Nat.mod_lt _ h0
  have hq:i / sz<os.length:=(Nat.div_lt_iff_lt_mul h0).2 hi
  have he:i / sz*sz+i % sz=i:=by rw [Nat.mul_comm];exact Nat.div_add_mod i sz
  have r1:=rows_flat h2 (i:=i / sz) (j:=i % sz) (by rw [List.length_set];exact hq) hr
  have r2:=rows_flat h (i:=i / sz) (j:=i % sz) hq hr
  rw [he] at r1 r2
  rw [r1,r2]
  by_cases hk:i / sz=j
  ·subst hk
   rw [if_pos ⟨by omega,by omega⟩]
   simp only [List.getElem_set_self]
   congr 1;omega
  ·rw [if_neg,List.getElem_set_ne (fun e=>hk e.symm)]
   rintro⟨q1,q2⟩
   apply hk
   rw [hc] at q2
   have a1:j<=i / sz:=(Nat.le_div_iff_mul_le h0).2 q1
   have a2:i / sz<j+1:=(Nat.div_lt_iff_lt_mul h0).2 (by rw [Nat.add_mul,Nat.one_mul];omega)
   omega
 ·have e1:((os.set j (x,cs)).flatMap (·.2))[i]?=none:=List.getElem?_eq_none (by rw [flat_length h2,List.length_set];omega)
  rw [e1,if_neg,List.getElem?_eq_none (by rw [flat_length h];omega)]
  rintro⟨q1,q2⟩
  rw [flat_length h] at hle
  omega
end Go.Proofs.YtfdlhlghcbeblaaGreatDoor
set_option maxRecDepth 100000
set_option maxHeartbeats 16000000
namespace Go.Proofs.YtfdlhlghcbeblaaGreatDoor
open Go.RowKit Go.Ab
attribute [local go_sem] Oper.semAt_some wide_fn wide_depth
def stepO(l:LawD)(s:Option Wd):Option Wd:=s.bind fun u=>if trE l u=0 then some (appL l u) else none
def KeptSt(S:Nat->Prop)(os:List (Option Wd × List Value)):Prop:=∀ p∈os,∀ u,p.1=some u->∀ v x,p.2=[v,x]->KeptIn S v
structure StRow (B:Nat) (S:Nat->Prop) (o:Value) (W:World) (n:Nat) (os:List (Option Wd × List Value)):Prop where
 own:W.ownsRow B 240 2 o n (os.flatMap (·.2))
 len:os.length=n
 two:∀ p∈os,p.2.length=2
 ok:∀ p∈os,StateOk W p.1 p.2
 kept:KeptSt (fun g=>S g/\o.ownBlock≠some g) os
theorem one_low{W:World}{v:Value}{u:Wd}(h:OneW W v u):KeptIn (fun g=>g<W.heap.size) v:=by
 obtain⟨ao,c,rfl,⟨⟨_,_,ao',cap,hv,h3⟩,_⟩,_⟩:=h
 intro g o n c' e h0
 cases e
 cases hv
 obtain⟨g',off,ha,hg,_⟩:=h3 h0
 simp only [Option.some.injEq,Addr.mk.injEq] at ha
 rw [ha.1];exact hg
theorem st_keep{S:Nat->Prop}{A B:World}{s:Option Wd}{cs:List Value}(h:StateOk A s cs)(ht:Turn (fun b=>¬ S b) A B) (hS:∀ u,s=some u->∀ v x,cs=[v,x]->KeptIn S v):StateOk B s cs:=by
 obtain⟨ao,n,c,rfl,h2⟩:=h
 refine⟨ao,n,c,rfl,fun u hu=>?_⟩
 obtain⟨ao',c',hq,hw,hc⟩:=h2 u hu
 have hk:=hS u hu _ _ rfl
 rw [hq] at hk ⊢
 exact⟨ao',c',rfl,wd_keepS hw ht hk,hc⟩
theorem StRow.ext{b:Nat}{S:Nat->Prop}{o:Value}{A B:World}{n:Nat}{os:List (Option Wd × List Value)} (h:StRow b S o A n os) (ht:Ext A B):StRow b S o B n os:=
 ⟨own_ext h.own ht,h.len,h.two,fun p hp=>(h.ok p hp).ext ht,h.kept⟩
theorem StRow.at{b:Nat}{S:Nat->Prop}{o:Value}{A:World}{n:Nat}{os:List (Option Wd × List Value)} (h:StRow b S o A n os):StatesAt A o os:=by
 refine⟨by rw [h.len];exact Rd.of_own h.own,fun p hp=>⟨h.two p hp,h.ok p hp⟩⟩
theorem StRow.set{B:Nat}{S:Nat->Prop}{g cap:Nat}{A:World}{n j:Nat}{os:List (Option Wd × List Value)} (h:StRow B S (.slice (some ⟨g,0,none⟩) n cap) A n os) (hj:j<n) {s:Option Wd} {v x:Value} (hs:StateOk A s [v,x]) (hk:∀ u,s=some u->KeptIn (fun b=>S b/\b≠g) v) :
  StRow B S (.slice (some ⟨g,0,none⟩) n cap) (A.setCells g (j*2) [v,x]) n (os.set j (s,[v,x])):=by
 have hb:=h.own
 have hT:=Turn.setCells A g [v,x] (j*2)
 have hmem:∀ p∈os.set j (s,[v,x]),p∈os\/p=(s,[v,x]):=fun p hp=>List.mem_or_eq_of_mem_set hp
 have hown:(Value.slice (some ⟨g,0,none⟩) n cap).ownBlock=some g:=rfl
 refine⟨?_,by rw [List.length_set];exact h.len,fun p hp=>?_,fun p hp=>?_,fun p hp u hu v' x' e=>?_⟩
 ·rw [<-over_set (by decide) h.two (by rw [h.len];exact hj) rfl]
  exact own_setS hb hj rfl
 ·rcases hmem p hp with hp | rfl
  ·exact h.two p hp
  ·rfl
 ·rcases hmem p hp with hp | rfl
  ·refine st_keep (S:=fun b=>b≠g) (h.ok p hp) (hT.mono fun b _ e hn=>hn e) (fun u hu v' x' e=>(h.kept p hp u hu v' x' e).mono fun b hb e2=>hb.2 (by rw [e2];rfl))
  ·exact st_keep (S:=fun b=>b≠g) hs (hT.mono fun b _ e hn=>hn e) (fun u hu v' x' e=>by cases e;exact(hk u hu).mono fun b hb=>hb.2)
 ·rcases hmem p hp with hp | rfl
  ·exact h.kept p hp u hu v' x' e
  ·cases e
   exact(hk u hu).mono fun b hb=>⟨hb.1,fun e2=>hb.2 (by rw [hown] at e2;exact(Option.some.inj e2).symm)⟩
theorem step_map{l:LawD}{os ss:List (Option Wd × List Value)} {k:Nat} (hk:k<ss.length) (h:os.map (·.1)=(ss.take k).map (fun p=>stepO l p.1)++(ss.drop k).map (·.1)) :
  (∀ cs,(os.set k (stepO l ss[k].1,cs)).map (·.1)=(ss.take (k+1)).map (fun p=>stepO l p.1)++(ss.drop (k+1)).map (·.1))/\(ss[k].1=none->os.map (·.1)=(ss.take (k+1)).map (fun p=>stepO l p.1)++(ss.drop (k+1)).map (·.1)):=by
 have h1:(ss.drop k).map (·.1)=ss[k].1::(ss.drop (k+1)).map (·.1):=by rw [List.drop_eq_getElem_cons hk];rfl
 have h2:(ss.take (k+1)).map (fun p=>stepO l p.1)=(ss.take k).map (fun p=>stepO l p.1)++[stepO l ss[k].1]:=by rw [List.take_succ_eq_append_getElem hk,List.map_append];rfl
 have hlen:((ss.take k).map (fun p=>stepO l p.1)).length=k:=by rw [List.length_map,List.length_take];omega
 rw [h1] at h
 constructor
 ·intro cs
  rw [List.map_set,h,h2,List.append_assoc]
  rw [List.set_append_right _ _ (by omega),hlen,Nat.sub_self]
  rfl
 ·intro h0
  rw [h,h2,h0,List.append_assoc];rfl
theorem apply_any{w:World}{l:LawD}{cs:List Value}{ss:List (Option Wd × List Value)} {so:Option Addr} {n sc:Nat} (hl:LawAt w l cs) (hs:StatesAt w (.slice so n sc) ss) (hsn:ss.length=n) (hb:n<=1000) (hT:Tab w) (S0:Nat->Prop) (hS0:KeptSt S0 ss) :
  Calls Tryz.prog 136 #[.agg cs.toArray,.slice so n sc] w fun e w'=>∃ ao c os,e=.returned (.slice ao n c)/\StRow w.heap.size (fun g=>S0 g\/w.heap.size<=g) (.slice ao n c) w' n os/\os.map (·.1)=ss.map (fun p=>stepO l p.1)/\Ext w w':=by
 have h1c:∀ u∈ss.flatMap (·.2),u.oneCell'=true:=fun u hu=>by
  obtain⟨p,hp,hu⟩:=List.mem_flatMap.1 hu
  obtain⟨_,ao,m,c,h1,_⟩:=hs.2 p hp
  rw [h1] at hu
  simp at hu
  rcases hu with rfl | rfl <;> rfl
 have hcl:=fun(V:World) (hE:Ext w V)=>clone_st (cap:=sc) (by have:=(states_ext hs hE).1;rw [hsn] at this;exact this) h1c (by omega)
 have hbeg:=fun(A:World) (v:Value) (hE:Ext w A) (ho:∃ b,w.heap.size<=b/\A.ownsRow b 240 2 v n (ss.flatMap (·.2)))=>(show StRow w.heap.size (fun g=>S0 g\/w.heap.size<=g) v A n ss from by
  obtain⟨b,hb,ho⟩:=ho
  refine⟨own_base ho hb,hsn,fun p hp=>(hs.2 p hp).1,fun p hp=>((hs.2 p hp).2).ext hE,fun p hp u hu v' x e=>?_⟩
  obtain⟨ao,m,c,h1,h2⟩:=(hs.2 p hp).2
  rw [h1] at e
  cases e
  exact fun g o' m' c' e1 e0=>⟨.inl (hS0 p hp u hu _ _ h1 g o' m' c' e1 e0),fun e2=>by have:=(ho.lt g e2).1;have:=one_low (h2 u hu) g o' m' c' e1 e0;omega⟩)
 have hap:=fun(V:World) (hE:Ext w V) (vo:Option Addr) (vc:Nat) (ws:Wd) (hv:WordAt V (.slice vo ws.length vc) ws) (hc:ws.length<=vc)=>lapply_fr (hl.ext hE) hv hc (hT.keep hE id)
 obtain⟨nm,k1,p1,m1,n1,a1,b1,o1,N1,c1,k2,p2,m2,n2,a2,b2,o2,N2,c2,io,N3,ic,oo,N4,oc,md,rfl,HLA,HPL,HPR,HIF,HOU,HNM,HN1,HN2,HN3,HN4,HMD,q0,q1,q2,q3,q4⟩:=law_gen hl
 have HS:=Lib.hid hs;have HSL:=Lib.hid hsn;have HCL:=Lib.hid hcl;have HBEG:=Lib.hid hbeg;have HAP:=Lib.hid hap
 clear hs hsn hcl hbeg hap hl hT h1c hS0
 go_enter Tryz.func136,Tryz.ntmps136
 go_upto_region 1 with (fail)
 obtain⟨w1,hw1⟩:∃ D,w.alloc (.cells #[.string nm,.int .i64 k1,.int .u32 (p1:Int),.int .u32 (m1:Int),.bool n1,.int .i64 a1,.int .i64 b1,.slice o1 N1 c1,.int .i64 k2,.int .u32 (p2:Int),.int .u32 (m2:Int),.bool n2,.int .i64 a2,.int .i64 b2,.slice o2 N2 c2,.slice io N3 ic,.slice oo N4 oc,.int .i64 md] 102)=D:=⟨_,rfl⟩
 have hE1:Ext w w1:=by rw [<-hw1];exact(Turn.refl _ w).alloc _
 have hl1:w1.heap[w.heap.size]?=some (.cells #[.string nm,.int .i64 k1,.int .u32 (p1:Int),.int .u32 (m1:Int),.bool n1,.int .i64 a1,.int .i64 b1,.slice o1 N1 c1,.int .i64 k2,.int .u32 (p2:Int),.int .u32 (m2:Int),.bool n2,.int .i64 a2,.int .i64 b2,.slice o2 N2 c2,.slice io N3 ic,.slice oo N4 oc,.int .i64 md] 102 (0,0)):=by rw [<-hw1];exact new_at rfl
 rw [hw1]
 obtain⟨B,hB⟩:∃ b,w.heap.size=b:=⟨_,rfl⟩
 rw [hB] at hl1 ⊢
 have HB:=Lib.hid hB
 go_wp2_with fail
 refine(HCL.out _ hE1).mono ?_
 rintro e w2 ⟨ao,c,rfl,hO2,hN⟩
 have hE2:=hE1.trans hN
 have hst:=HBEG.out w2 _ hE2 ⟨_,hE1.size,hO2⟩
 have hl2:=hN.keep hl1
 have hBlt:B<w1.heap.size:=(Array.getElem?_eq_some_iff.1 hl1).1
 have hlow:∀ g,(Value.slice ao n c).ownBlock=some g->w1.heap.size<=g/\g<w2.heap.size:=fun g hg=>hO2.lt g hg
 have HST:=Lib.hid hst;have HL2:=Lib.hid hl2;have HE2:=Lib.hid hE2;have HLOW:=Lib.hid hlow;have HE1S:=Lib.hid hE1.size
 clear hst hl2 hE2 hlow hO2 hN hE1 hl1 hw1 hB HCL HBEG
 go_wp2
 refine wp_loop (fun a W=>∃(k:Nat) (os:List (Option Wd × List Value)),k<=n/\a.defers=[]/\(a.tmps.size=37/\a.tmps.getD 2 undef=.pointer (some ⟨B,0,none⟩)/\a.tmps.getD 5 undef=.slice ao n c/\a.tmps.getD 12 undef=.slice so n sc/\a.tmps.getD 13 undef=.int .i64 n/\a.tmps.getD 14 undef=.int .i64 k)/\W.heap[B]?=some (.cells #[.string nm,.int .i64 k1,.int .u32 (p1:Int),.int .u32 (m1:Int),.bool n1,.int .i64 a1,.int .i64 b1,.slice o1 N1 c1,.int .i64 k2,.int .u32 (p2:Int),.int .u32 (m2:Int),.bool n2,.int .i64 a2,.int .i64 b2,.slice o2 N2 c2,.slice io N3 ic,.slice oo N4 oc,.int .i64 md] 102 (0,0))/\StRow w.heap.size (fun g=>S0 g\/w.heap.size<=g) (.slice ao n c) W n os/\os.map (·.1)=(ss.take k).map (fun p=>stepO l p.1)++(ss.drop k).map (·.1)/\w2.heap.size<=W.heap.size/\Ext w W)
  (fun a _=>((n:Int) - intOf (a.tmps.getD 14 undef)).toNat) ?_ ?_
 ·exact⟨0,ss,by omega,rfl,⟨rfl,rfl,rfl,rfl,rfl,rfl⟩,HL2.out,HST.out,by simp,Nat.le_refl _,HE2.out⟩
 clear HST HL2 HE2
 rintro⟨t,_⟩ W ⟨k,os,hk,hds,⟨hsz,f2,f5,f12,f13,f14⟩,hlB,hst,hmap,hws,hE⟩
 subst hds
 obtain⟨u',hu⟩:=frame_fun hsz
 obtain⟨u,rfl⟩:∃ x,x=u':=⟨_,rfl⟩
 have hu':t=#[u 0,u 1,u 2,u 3,u 4,u 5,u 6,u 7,u 8,u 9,u 10,u 11,u 12,u 13,u 14,u 15,u 16,u 17,u 18,u 19,u 20,u 21,u 22,u 23,u 24,u 25,u 26,u 27,u 28,u 29,u 30,u 31,u 32,u 33,u 34,u 35,u 36]:=hu
 clear hu
 subst hu'
 change u 2=_ at f2
 change u 5=_ at f5
 change u 12=_ at f12
 change u 13=_ at f13
 change u 14=_ at f14
 rw [f2,f5,f12,f13,f14]
 clear f2 f5 f12 f13 f14 hsz
 have HLB:=Lib.hid hlB;have HST:=Lib.hid hst;have HMAP:=Lib.hid hmap;have HWS:=Lib.hid hws;have HE:=Lib.hid hE
 clear hlB hst hmap hws hE
 by_cases hkN:k<n
 case neg=>
  obtain rfl:k=n:=by omega
  have h1:¬ (k:Int)<(k:Int):=by omega
  have hm:=HMAP.out
  rw [List.take_of_length_le (by rw [HSL.out];exact Nat.le_refl _),List.drop_eq_nil_of_le (by rw [HSL.out];exact Nat.le_refl _),List.map_nil,List.append_nil] at hm
  have HM:=Lib.hid hm
  clear hm
  go_wp2
  go_ret
  exact⟨ao,c,rfl,os,HST.out,HM.out,HE.out⟩
 have h1:(k:Int)<(n:Int):=by omega
 have h0:(0:Int)<=(k:Int):=by omega
 have hks:k<ss.length:=by rw [HSL.out];exact hkN
 obtain⟨m1,m2⟩:=step_map (l:=l) hks HMAP.out
 obtain⟨g2,off2,c2',hq,hrg2,⟨fo,fl,fc,hcs2,hfu⟩,zz4⟩:=StrAt.at HS.out hks
 replace hq:=hq (by decide)
 obtain⟨hq,hg2⟩:=hq
 simp only [Value.slice.injEq] at hq
 obtain⟨rfl,hz,rfl⟩:=hq
 clear hz
 rw [hcs2] at hrg2
 have e0:=HE.out.cell_some (hrg2 0 _ rfl) id
 have e1:=HE.out.cell_some (hrg2 1 _ rfl) id
 rw [Nat.add_zero] at e0
 obtain⟨st,hst⟩:∃ x,ss[k].1=x:=⟨_,rfl⟩
 rw [hst] at e1 hfu m1 m2
 have HFU:=Lib.hid hfu;have M1:=Lib.hid m1;have M2:=Lib.hid m2
 have hwk:IntKind.i64.wrap ((k:Int)+1)=(k:Int)+1:=IntWalk.i64_in _ (by omega)
 clear hfu hst zz4 hcs2 hrg2 hks hg2 m1 m2 HMAP
 obtain⟨b,hbb⟩:∃ b,st.isNone=b:=⟨_,rfl⟩
 rw [hbb] at e1
 have HBB:=Lib.hid hbb
 clear hbb
 go_upto_region 5 with (fail)
 obtain⟨W1,hW1⟩:∃ D,W.alloc (.cells #[.slice fo fl fc,.bool b] 240)=D:=⟨_,rfl⟩
 have hN1:Ext W W1:=by rw [<-hW1];exact(Turn.refl _ W).alloc _
 have hX1:W1.heap[W.heap.size]?=some (.cells #[.slice fo fl fc,.bool b] 240 (0,0)):=by rw [<-hW1];exact new_at rfl
 rw [hW1]
 obtain⟨X,hX⟩:∃ x,W.heap.size=x:=⟨_,rfl⟩
 rw [hX] at hX1 ⊢
 have cX:=fun j=>cell_of_row _ _ j _ _ _ hX1
 have hl1:=hN1.keep HLB.out
 have HL1:=Lib.hid hl1;have HN1:=Lib.hid hN1
 clear hW1 hX1 hX e0 e1 hl1 hN1
 cases st with
 | none=>
  obtain rfl:b=true:=HBB.out.symm
  have hm:=M2.out (by first | trivial | rfl)
  have HM:=Lib.hid hm
  have hE2:=HE.out.trans HN1.out
  have hs2:=HST.out.ext HN1.out
  have hz2:=Nat.le_trans HWS.out HN1.out.size
  have HE2:=Lib.hid hE2;have HS2:=Lib.hid hs2;have HZ2:=Lib.hid hz2
  clear hm hE2 hs2 hz2 M1 M2
  go_wp2
  exact⟨⟨k+1,by omega,by simp,HL1.out,os,HS2.out,by first | exact HM.out | (have:=HM.out;simpa using this),HZ2.out,HE2.out⟩,by first | (simp [intOf];done) | (simp [intOf];omega)⟩
 | some uw=>
  obtain rfl:b=false:=HBB.out.symm
  obtain⟨ao1,cc1,hq,hfw,hfc⟩:=HFU.out uw (by first | trivial | rfl)
  simp only [Value.slice.injEq] at hq
  obtain⟨rfl,hfl,rfl⟩:=hq
  have hE2:=HE.out.trans HN1.out
  have hc:=HAP.out W1 hE2 _ _ uw (hfw.ext hE2) hfc
  rw [<-hfl] at hc
  have hm:=M1.out
  obtain⟨g,hgo⟩:=own_some HST.out.own (by omega)
  have HGO:=Lib.hid hgo;have HC:=Lib.hid hc;have HE2:=Lib.hid hE2
  clear hfw hfc hE2 hc hfl M1 M2 hgo
  obtain rfl:=HGO.out
  go_wp2_with (refine wpList_load_row rfl 102 (.tmp 2) rfl B rfl _ _ _ _ HL1.out Tryz.underlying102 rfl Tryz.lawInfo ?_)
  refine HC.out.mono ?_
  rintro e W2 ⟨ru,rfl,⟨ro,rc,rfl,hrw,hrc⟩,hkp,hN2⟩
  obtain⟨E,hqE⟩:∃ x,trE l uw=x:=⟨_,rfl⟩
  obtain⟨R,hqR⟩:∃ x,appL l uw=x:=⟨_,rfl⟩
  obtain⟨bv,hbv⟩:∃ x,(E != 0)=x:=⟨_,rfl⟩
  have hstep:stepO l (some uw)=if bv=true then none else some R:=by
   unfold stepO
   rw [Option.bind_some,hqE,hqR,<-hbv]
   by_cases h:E=0 <;> simp [h]
  rw [hqR] at hkp hrw hrc ⊢
  rw [hqE]
  obtain⟨rn,hrn⟩:∃ x,R.length=x:=⟨_,rfl⟩
  rw [hrn] at hkp hrw hrc ⊢
  have hso:StateOk W2 (stepO l (some uw)) [.slice ro rn rc,.bool bv]:=by
   refine⟨ro,rn,rc,by rw [hstep];cases bv <;> rfl,fun u hu=>?_⟩
   rw [hstep] at hu
   cases bv with
   | true=>cases hu
   | false=>cases hu;exact⟨ro,rc,by rw [hrn],by rw [hrn];exact hrw,by rw [hrn];exact hrc⟩
  have hs3:=HST.out.ext (HN1.out.trans hN2)
  have hkp2:KeptIn (fun b=>(S0 b\/w.heap.size<=b)/\b≠g) (.slice ro rn rc):=hkp.mono fun b hb=>⟨.inr (by have:=HE2.out.size;omega),fun e=>by have:=(HLOW.out g rfl).2;have:=HWS.out;have:=HN1.out.size;omega⟩
  have hs4:=hs3.set hkN hso (fun _ _=>hkp2)
  have hm4:=hm [.slice ro rn rc,.bool bv]
  have hl3:=hN2.keep HL1.out
  have hT:=Turn.setCells W2 g (#[.slice ro rn rc,.bool bv]:Array Value).toList (k*2)
  have hth:=own_there hs3.own (o:=k*2) (m:=2) (by omega)
  have hBg:B≠g:=by have:=(HLOW.out g rfl).1;omega
  have hl4:=hT.heap hl3 hBg
  have hE4:Ext w (W2.setCells g (k*2) (#[.slice ro rn rc,.bool bv]:Array Value).toList):=Turn.after (HE2.out.trans hN2) hT (fun b hb e=>by have:=(HLOW.out g rfl).1;have:=HE1S.out;omega)
  have hz4:w2.heap.size<=(W2.setCells g (k*2) (#[.slice ro rn rc,.bool bv]:Array Value).toList).heap.size:=by have:=HWS.out;have:=HN1.out.size;have:=hN2.size;have:=hT.size;omega
  obtain⟨W3,hW3⟩:∃ D,W2.setCells g (k*2) (#[.slice ro rn rc,.bool bv]:Array Value).toList=D:=⟨_,rfl⟩
  have hs5:StRow w.heap.size (fun g=>S0 g\/w.heap.size<=g) (.slice (some ⟨g,0,none⟩) n c) W3 n (os.set k (stepO l (some uw),[.slice ro rn rc,.bool bv])):=by rw [<-hW3];exact hs4
  rw [hW3] at hl4 hE4 hz4
  have HTH:=Lib.hid hth;have HW3:=Lib.hid hW3;have HS5:=Lib.hid hs5;have HM4:=Lib.hid hm4;have HL4:=Lib.hid hl4;have HE4:=Lib.hid hE4;have HZ4:=Lib.hid hz4;have HBV:=Lib.hid hbv
  clear hm hqE hqR hstep hso hs3 hkp2 hs4 hm4 hl3 hT hW3 hs5 hl4 hE4 hz4 hth hkp hrw hrc hN2 hrn HC hbv hBg
  have hbv2:(E != 0)=bv:=HBV.out
  go_wp2_with (refine wpList_store_mid rfl 240 (.tmp 34) (.tmp 33) rfl g (k*2) #[.slice ro rn rc,.bool bv] (by first | rfl | (simp;done)) rfl HTH.out (by kernel_rfl) (by kernel_rfl) ?_;rw [HW3.out])
  exact⟨⟨k+1,_,by omega,by first | rfl | trivial,⟨rfl,rfl,rfl,rfl,rfl,rfl⟩,HL4.out,HS5.out,by first | exact HM4.out | (have:=HM4.out;simpa using this),HZ4.out,HE4.out⟩,by first | (simp [intOf];done) | (simp [intOf];omega)⟩
end Go.Proofs.YtfdlhlghcbeblaaGreatDoor
