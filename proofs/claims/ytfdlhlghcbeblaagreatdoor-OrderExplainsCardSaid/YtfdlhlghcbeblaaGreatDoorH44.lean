/- ablautlaw14.has, all. A range over a function whose iterator may end in a panic (fin) behind what it yields; marks among the deferred calls of a function that panics. No program is named. A range over a function whose rounds turn a few known blocks (T) alone, and whose iterator may end in a panic (fin). No program is named. -/
import Derived.Test.YtfdlhlghcbeblaaGreatDoorH43
import Derived.Test.YtfdlhlghcbeblaaGreatDoorH35
import Derived.Test.YtfdlhlghcbeblaaGreatDoorH40
import Derived.Test.YtfdlhlghcbeblaaGreatDoorH09
set_option maxRecDepth 100000
set_option maxHeartbeats 16000000
namespace Go.Proofs.YtfdlhlghcbeblaaGreatDoor
open Go.RowKit Go.Ab
attribute [local go_sem] Oper.semAt_some wide_fn wide_depth
theorem has_at{ol:List Nat}{x k:Nat}(hk:k<ol.length)(h1:ol[k]=x):ol.contains x=true:=by
 rw [List.contains_iff_mem,<-h1];exact List.getElem_mem hk
theorem has_end{ol:List Nat}{x:Nat}(h:notTo ol x ol.length):ol.contains x=false:=by
 cases hc:ol.contains x with
 | false=>rfl
 | true=>
  rw [List.contains_iff_mem] at hc
  obtain⟨j,hj,e⟩:=List.getElem_of_mem hc
  exact absurd e (h j hj hj)
theorem ohas_any{w:World}{oo:Option Addr}{on oc:Nat}{ol:List Nat}{x:Nat}(ho:Rd w (.slice oo on oc) on 1 (natV ol)) (hon:ol.length=on) :
  Calls Tryz.prog 107 #[.slice oo on oc,.int .i64 (x:Int)] w fun e w'=>e=.returned (.bool (ol.contains x))/\w'=w:=by
 have hmm:on<=maxLen:=ho.2.1
 unfold maxLen at hmm
 obtain⟨R,hR⟩:∃ R,ol.contains x=R:=⟨_,rfl⟩
 rw [hR]
 have hat:∀ k (hk:k<ol.length),notTo ol x k->ol[k]=x->R=true:=fun k hk h h1=>by rw [<-hR];exact has_at hk h1
 have hend:notTo ol x on->R=false:=fun h=>by rw [<-hR];exact has_end (by rwa [hon])
 have HO:=Lib.hid ho;have HON:=Lib.hid hon;have HAT:=Lib.hid hat;have HEND:=Lib.hid hend
 clear ho hon hR hat hend
 go_enter Tryz.func107,Tryz.ntmps107
 go_wp2
 refine wp_loop (fun a W=>∃(k:Nat),k<=on/\a.defers=[]/\(a.tmps.size=18/\a.tmps.getD 0 undef=.slice oo on oc/\a.tmps.getD 1 undef=.int .i64 (x:Int)/\a.tmps.getD 5 undef=.int .i64 k)/\notTo ol x k/\W=w)
  (fun a _=>((on:Int) - intOf (a.tmps.getD 5 undef)).toNat) ?_ ?_
 ·exact⟨0,by omega,rfl,⟨rfl,rfl,rfl,rfl⟩,fun j _ h=>by omega,rfl⟩
 rintro⟨t,_⟩ W ⟨k,hk,hds,⟨hsz,f0,f1,f5⟩,htr,hE⟩
 subst hds
 obtain⟨u',hu⟩:=frame_fun hsz
 obtain⟨u,rfl⟩:∃ x,x=u':=⟨_,rfl⟩
 have hu':t=#[u 0,u 1,u 2,u 3,u 4,u 5,u 6,u 7,u 8,u 9,u 10,u 11,u 12,u 13,u 14,u 15,u 16,u 17]:=hu
 clear hu
 subst hu'
 change u 0=_ at f0
 change u 1=_ at f1
 change u 5=_ at f5
 rw [f0,f1,f5]
 clear f0 f1 f5 hsz
 have HTR:=Lib.hid htr
 subst hE
 clear htr
 by_cases hkm:k<on
 case neg=>
  obtain rfl:k=on:=by omega
  have h1:¬ (k:Int)<(k:Int):=by omega
  have hr:=HEND.out HTR.out
  subst hr
  clear HAT HEND HO
  go_wp2
  go_ret
  exact⟨rfl,rfl⟩
 have h1:(k:Int)<(on:Int):=by omega
 have h0:(0:Int)<=(k:Int):=by omega
 have hkl:k<ol.length:=by rw [HON.out];exact hkm
 obtain⟨g,off,cq,hq,hg,hc⟩:=rd_at_1 (HO.out) hkm
 simp only [Value.slice.injEq] at hq
 obtain⟨rfl,hq2,rfl⟩:=hq
 have hnv:(natV ol).getD k undef=.int .i64 (ol[k]:Int):=by unfold natV;rw [List.getD_eq_getElem?_getD,List.getElem?_map,List.getElem?_eq_getElem hkl];rfl
 rw [hnv] at hc
 obtain⟨y,hy⟩:∃ y,ol[k]=y:=⟨_,rfl⟩
 have hat:=HAT.out k hkl HTR.out
 have hst:y≠x->notTo ol x (k+1):=fun h j hj hjk=>by
  by_cases e:j=k
  ·subst e;rw [hy];exact h
  ·exact HTR.out j hj (by omega)
 rw [hy] at hc hat
 have HAT2:=Lib.hid hat;have HST:=Lib.hid hst
 clear hat hst hy hq2 hnv hg HAT HEND HO HTR
 by_cases hyx:y=x
 ·have hr:=HAT2.out hyx
  subst hr
  have q1:((y:Int) ==(x:Int))=true:=by rw [beq_iff_eq];omega
  clear HAT2 HST hyx
  go_wp2
  go_ret
  exact⟨rfl,rfl⟩
 ·have hs2:=HST.out hyx
  have q1:((y:Int) ==(x:Int))=false:=by rw [beq_eq_false_iff_ne];omega
  have HS2:=Lib.hid hs2
  clear hs2 HST HAT2 hyx
  go_wp2
  exact⟨⟨k+1,by omega,by first | rfl | trivial,⟨rfl,rfl,rfl,rfl⟩,HS2.out,by first | trivial | rfl⟩,by first | (simp [intOf];done) | (simp [intOf];omega)⟩
def nextTo(n:Nat)(L:List (List Nat)) (i:Nat):List (List Nat):=(L.take i).flatMap fun o=>(restN n o).map fun x=>o++[x]
def nextIn(r:List (List Nat)) (o:List Nat) (x:Nat):List (List Nat):=r++(restN x o).map fun x=>o++[x]
theorem nextTo_succ{n:Nat}{L:List (List Nat)} {i:Nat} (hi:i<L.length):nextTo n L (i+1)=nextIn (nextTo n L i) L[i] n:=by
 unfold nextTo nextIn
 rw [List.take_succ_eq_append_getElem hi,List.flatMap_append]
 simp
theorem nextTo_all(n:Nat)(L:List (List Nat)):nextTo n L L.length=permStep n L:=by
 unfold nextTo permStep
 rw [List.take_of_length_le (Nat.le_refl _)]
theorem nextIn_zero(r:List (List Nat)) (o:List Nat):nextIn r o 0=r:=by simp [nextIn,restN]
theorem nextIn_in{r:List (List Nat)} {o:List Nat} {x:Nat} (h:o.contains x=true):nextIn r o (x+1)=nextIn r o x:=by
 unfold nextIn restN
 rw [List.range_succ,List.filter_append]
 simp only [List.filter_cons,h,Bool.not_true,List.filter_nil]
 simp
theorem nextIn_out{r:List (List Nat)} {o:List Nat} {x:Nat} (h:o.contains x=false):nextIn r o (x+1)=nextIn r o x++[o++[x]]:=by
 unfold nextIn restN
 rw [List.range_succ,List.filter_append]
 simp only [List.filter_cons,h,Bool.not_false,List.filter_nil]
 simp
theorem nextIn_len(r:List (List Nat)) (o:List Nat) (x:Nat):(nextIn r o x).length<=r.length+x:=by
 unfold nextIn restN
 rw [List.length_append,List.length_map]
 have:=List.length_filter_le (fun i=>!o.contains i) (List.range x)
 rw [List.length_range] at this
 omega
theorem nextTo_len(n:Nat)(L:List (List Nat)) (i:Nat):(nextTo n L i).length<=i*n:=by
 induction i with
 | zero=>simp [nextTo]
 | succ i ih=>
  by_cases hi:i<L.length
  ·rw [nextTo_succ hi,Nat.succ_mul]
   exact Nat.le_trans (nextIn_len _ _ _) (by omega)
  ·have:nextTo n L (i+1)=nextTo n L i:=by
    unfold nextTo
    rw [List.take_of_length_le (by omega),List.take_of_length_le (by omega)]
   rw [this,Nat.succ_mul];omega
theorem permTo_len(n:Nat)(hn:n<=4):∀ k,(permTo n k).length<=4 ^ k
 | 0=>Nat.le_refl _
 | k+1=>by
  have h1:=permTo_len n hn k
  have h2:=nextTo_len n (permTo n k) (permTo n k).length
  rw [nextTo_all] at h2
  show (permStep n (permTo n k)).length<=_
  rw [Nat.pow_succ]
  exact Nat.le_trans h2 (Nat.mul_le_mul h1 hn)
theorem permTo_in(n:Nat):∀ k,∀ o∈permTo n k,o.length=k
 | 0,o,h=>by rw [show permTo n 0=[[]] from rfl,List.mem_singleton] at h;subst h;rfl
 | k+1,o,h=>by
  have h:o∈permStep n (permTo n k):=h
  unfold permStep at h
  obtain⟨p,hp,h⟩:=List.mem_flatMap.1 h
  obtain⟨x,_,rfl⟩:=List.mem_map.1 h
  rw [List.length_append,permTo_in n k p hp];rfl
def GridL(W:World)(v:Value)(L:List (List Nat)):Prop:=∃ ao c,v=.slice ao L.length c/\GridAt W v L
theorem GridL.ext{A B:World}{v:Value}{L:List (List Nat)} (h:GridL A v L) (ht:Ext A B):GridL B v L:=by
 obtain⟨ao,c,rfl,vs,h1,h2⟩:=h
 exact⟨ao,c,rfl,vs,h1.ext ht,fun i hi=>by obtain⟨eo,ec,q1,q2⟩:=h2 i hi;exact⟨eo,ec,q1,q2.ext ht⟩⟩
theorem OutSt.grid{X:Nat}{W:World}{ao:Option Addr}{c:Nat}{L:List (List Nat)} (h:OutSt X (fun _=>False) W ao c L):GridL W (.slice ao L.length c) L:=by
 obtain⟨vs,h1,_,h3⟩:=h
 refine⟨ao,c,rfl,vs,Rd.of_own h1,fun i hi=>?_⟩
 obtain⟨eo,ec,q1,q2,_⟩:=h3.2 i hi
 exact⟨eo,ec,q1,Rd.of_own q2⟩
def OAllSt(n:Nat)(w:World)(a:Act)(W:World):Prop:=∃(k:Nat) (v:Value),k<=n/\a.defers=[]/\(a.tmps.size=47/\a.tmps.getD 0 undef=.int .i64 (n:Int)/\a.tmps.getD 3 undef=v/\a.tmps.getD 4 undef=.int .i64 k)/\GridL W v (permTo n k)/\Ext w W
def OAllMid(n X k Z:Nat)(gv:Value)(L:List (List Nat)) (W:World) (a:Act) (V:World):Prop:=∃(i:Nat) (ao:Option Addr) (c:Nat),i<=Z/\a.defers=[]/\(a.tmps.size=47/\a.tmps.getD 0 undef=.int .i64 (n:Int)/\a.tmps.getD 3 undef=gv/\a.tmps.getD 4 undef=.int .i64 k/\a.tmps.getD 5 undef=.slice ao (nextTo n L i).length c/\a.tmps.getD 6 undef=.int .i64 i)/\OutSt X (fun _=>False) V ao c (nextTo n L i)/\Ext W V
def OAllIn(n X k i:Nat)(gv:Value)(r:List (List Nat)) (o:List Nat) (W:World) (a:Act) (V:World):Prop:=∃(x:Nat) (ao:Option Addr) (c:Nat),x<=n/\a.defers=[]/\(a.tmps.size=47/\a.tmps.getD 0 undef=.int .i64 (n:Int)/\a.tmps.getD 3 undef=gv/\a.tmps.getD 4 undef=.int .i64 k/\a.tmps.getD 5 undef=.slice ao (nextIn r o x).length c/\a.tmps.getD 6 undef=.int .i64 i/\a.tmps.getD 7 undef=.int .i64 x)/\OutSt X (fun _=>False) V ao c (nextIn r o x)/\Ext W V
theorem oall_any{w:World}{n:Nat}(hn:n<=4) :
  Calls Tryz.prog 50 #[.int .i64 (n:Int)] w fun e w'=>∃ v,e=.returned v/\GridL w' v (ordersR n)/\Ext w w':=by
 have hall:=permTo_all n
 have hlen:=permTo_len n hn
 have hin:=permTo_in n
 rw [<-hall]
 have hst:∀ k,permTo n (k+1)=permStep n (permTo n k):=fun k=>rfl
 have HLEN:=Lib.hid hlen;have HIN:=Lib.hid hin;have HST:=Lib.hid hst
 clear hall hlen hin hst
 go_enter Tryz.func50,Tryz.ntmps50
 go_upto_region 3 with (fail)
 have hA:((w.alloc (.cells #[] 3)).alloc (.cells #[.slice (some ⟨w.heap.size,0,none⟩) 0 0] 48)).ownsRow w.heap.size 48 1 (.slice (some ⟨(w.alloc (.cells #[] 3)).heap.size,0,none⟩) 1 1) 1 [.slice (some ⟨w.heap.size,0,none⟩) 0 0]:=own_lit1 (by simp) _
 have hB:((w.alloc (.cells #[] 3)).alloc (.cells #[.slice (some ⟨w.heap.size,0,none⟩) 0 0] 48)).ownsRow w.heap.size 3 1 (.slice (some ⟨w.heap.size,0,none⟩) 0 0) 0 []:=own_ext (World.ownsRow_lit w #[] 0 (Nat.le_refl _) (by unfold maxLen;omega) rfl) ((Turn.refl _ _).alloc _)
 obtain⟨w1,hw1⟩:∃ D,(w.alloc (.cells #[] 3)).alloc (.cells #[.slice (some ⟨w.heap.size,0,none⟩) 0 0] 48)=D:=⟨_,rfl⟩
 have hE1:Ext w w1:=by rw [<-hw1];exact((Turn.refl _ w).alloc _).alloc _
 rw [hw1] at hA hB
 have hA2:w1.ownsRow w.heap.size 48 1 (.slice (some ⟨w.heap.size+1,0,none⟩) 1 1) 1 [.slice (some ⟨w.heap.size,0,none⟩) 0 0]:=by simpa using hA
 have hG:GridL w1 (.slice (some ⟨w.heap.size+1,0,none⟩) 1 1) [[]]:=⟨some ⟨w.heap.size+1,0,none⟩,1,rfl,[.slice (some ⟨w.heap.size,0,none⟩) 0 0],Rd.of_own hA2,fun i hi=>by
  obtain rfl:i=0:=by simpa using hi
  exact⟨_,_,rfl,Rd.of_own hB⟩⟩
 have hG:GridL w1 (.slice (some ⟨w.heap.size+1,0,none⟩) 1 1) (permTo n 0):=hG
 clear hA2
 rw [hw1]
 have HG:=Lib.hid hG;have HE1:=Lib.hid hE1
 clear hA hB hG hE1 hw1
 refine wp_loop (OAllSt n w) (fun a _=>((n:Int) - intOf (a.tmps.getD 4 undef)).toNat) ?_ ?_
 ·exact⟨0,_,by omega,rfl,⟨rfl,rfl,by first | rfl | (simp;done),rfl⟩,HG.out,HE1.out⟩
 clear HG HE1
 rintro⟨t,_⟩ W ⟨k,v,hk,hds,⟨hsz,f0,f3,f4⟩,hG,hE⟩
 subst hds
 obtain⟨u',hu⟩:=frame_fun hsz
 obtain⟨u,rfl⟩:∃ x,x=u':=⟨_,rfl⟩
 have hu':t=#[u 0,u 1,u 2,u 3,u 4,u 5,u 6,u 7,u 8,u 9,u 10,u 11,u 12,u 13,u 14,u 15,u 16,u 17,u 18,u 19,u 20,u 21,u 22,u 23,u 24,u 25,u 26,u 27,u 28,u 29,u 30,u 31,u 32,u 33,u 34,u 35,u 36,u 37,u 38,u 39,u 40,u 41,u 42,u 43,u 44,u 45,u 46]:=hu
 clear hu
 subst hu'
 change u 0=_ at f0
 change u 3=_ at f3
 change u 4=_ at f4
 rw [f0,f3,f4]
 clear f0 f3 f4 hsz
 have HG:=Lib.hid hG;have HE:=Lib.hid hE
 clear hG hE
 by_cases hkn:k<n
 case neg=>
  obtain rfl:k=n:=by omega
  have h1:¬ (k:Int)<(k:Int):=by omega
  clear HLEN HIN HST
  go_wp2
  go_ret
  exact⟨_,rfl,HG.out,HE.out⟩
 have h1:(k:Int)<(n:Int):=by omega
 have hLl:=HLEN.out k
 have h4k:4 ^ k<=256:=by
  have:k=0\/k=1\/k=2\/k=3:=by omega
  rcases this with rfl | rfl | rfl | rfl <;> decide
 have hLi:=HIN.out k
 have hs:=HST.out k
 obtain⟨L,hL⟩:∃ L,permTo n k=L:=⟨_,rfl⟩
 have hg:=HG.out
 rw [hL] at hLl hLi hs hg
 obtain⟨ao0,c0,rfl,hg⟩:=hg
 have HGR:=Lib.hid hg;have HLI:=Lib.hid hLi;have HS:=Lib.hid hs
 have hLb:L.length<=256:=by omega
 clear hLl hLi hs hg hL HG HLEN HIN HST
 obtain⟨X,hX⟩:∃ b,W.heap.size=b:=⟨_,rfl⟩
 have HX:=Lib.hid hX
 clear hX
 go_wp2
 refine wp_loop (OAllMid n X k L.length (.slice ao0 L.length c0) L W) (fun a _=>((L.length:Int) - intOf (a.tmps.getD 6 undef)).toNat) ?_ ?_
 ·exact⟨0,none,0,by omega,rfl,⟨rfl,rfl,rfl,rfl,rfl,rfl⟩,⟨[],World.ownsRow_nil _ _ _ _,fun _ _ h=>h,rfl,fun i h=>by simp [nextTo] at h⟩,Turn.refl _ _⟩
 rintro⟨t,_⟩ V ⟨i,ao,c,hi,hds,⟨hsz,f0,f3,f4,f5,f6⟩,hO,hEV⟩
 subst hds
 obtain⟨u',hu⟩:=frame_fun hsz
 obtain⟨u,rfl⟩:∃ x,x=u':=⟨_,rfl⟩
 have hu':t=#[u 0,u 1,u 2,u 3,u 4,u 5,u 6,u 7,u 8,u 9,u 10,u 11,u 12,u 13,u 14,u 15,u 16,u 17,u 18,u 19,u 20,u 21,u 22,u 23,u 24,u 25,u 26,u 27,u 28,u 29,u 30,u 31,u 32,u 33,u 34,u 35,u 36,u 37,u 38,u 39,u 40,u 41,u 42,u 43,u 44,u 45,u 46]:=hu
 clear hu
 subst hu'
 change u 0=_ at f0
 change u 3=_ at f3
 change u 4=_ at f4
 change u 5=_ at f5
 change u 6=_ at f6
 rw [f0,f3,f4,f5,f6]
 clear f0 f3 f4 f5 f6 hsz
 have HO:=Lib.hid hO;have HEV:=Lib.hid hEV
 clear hO hEV
 by_cases hiL:i<L.length
 case neg=>
  obtain rfl:i=L.length:=by omega
  have h2:¬ (L.length:Int)<(L.length:Int):=by omega
  have hgo:GridL V (.slice ao (nextTo n L L.length).length c) (permTo n (k+1)):=by rw [HS.out,<-nextTo_all];exact HO.out.grid
  have HGO:=Lib.hid hgo
  obtain⟨Z,hZ⟩:∃ z,L.length=z:=⟨_,rfl⟩
  rw [hZ] at h2 ⊢
  rw [hZ] at hgo
  have HGO:=Lib.hid hgo
  clear hgo hZ HO HGR HLI HS hLb hi hiL
  obtain⟨q,hq⟩:∃ q,(nextTo n L Z).length=q:=⟨_,rfl⟩
  rw [hq] at HGO ⊢
  clear hq
  go_wp2
  exact⟨⟨k+1,_,by omega,by first | rfl | trivial,⟨rfl,rfl,rfl,rfl⟩,HGO.out,HE.out.trans HEV.out⟩,by first | (simp [intOf];done) | (simp [intOf];omega)⟩
 have h2:(i:Int)<(L.length:Int):=by omega
 have h20:(0:Int)<=(i:Int):=by omega
 obtain⟨vs,hvr,hrs⟩:=HGR.out
 obtain⟨eo,ec,e1,e2⟩:=hrs i hiL
 obtain⟨gr,ofr,cr,hqr,_,hcr⟩:=rd_at_1 hvr hiL
 simp only [Value.slice.injEq] at hqr
 obtain⟨rfl,z1,rfl⟩:=hqr
 rw [e1] at hcr
 have hol:=HLI.out _ (List.getElem_mem hiL)
 have hsu:=nextTo_succ (n:=n) hiL
 have hnl:=nextTo_len n L i
 obtain⟨o,ho⟩:∃ o,L[i]=o:=⟨_,rfl⟩
 rw [ho] at hcr e2 hol hsu
 rw [hol] at hcr e2
 obtain⟨Z,hZ⟩:∃ z,L.length=z:=⟨_,rfl⟩
 rw [hZ] at h2 hLb ⊢
 have HZ:=Lib.hid hZ
 obtain⟨r,hr⟩:∃ r,nextTo n L i=r:=⟨_,rfl⟩
 rw [hr] at hsu hnl ⊢
 have hO2:=HO.out
 rw [hr] at hO2
 have hrb:r.length<=1024:=by
  have:i*n<=256*4:=Nat.mul_le_mul (by omega) hn
  omega
 have HCR:=Lib.hid hcr;have HE2:=Lib.hid e2;have HOL:=Lib.hid hol;have HSU:=Lib.hid hsu;have HO2:=Lib.hid hO2
 clear hcr e2 e1 hol hsu hnl ho hr hO2 hvr hrs z1 hZ HO HLI HGR
 obtain⟨rl,hrl⟩:∃ q,r.length=q:=⟨_,rfl⟩
 have HRL:=Lib.hid hrl
 rw [hrl] at hrb ⊢
 clear hrl
 go_wp2
 refine wp_loop (OAllIn n X k i (.slice (some ⟨gr,ofr,none⟩) Z c0) r o W) (fun a _=>((n:Int) - intOf (a.tmps.getD 7 undef)).toNat) ?_ ?_
 ·exact⟨0,ao,c,by omega,rfl,⟨rfl,rfl,rfl,rfl,by rw [nextIn_zero,HRL.out];rfl,rfl,rfl⟩,by rw [nextIn_zero];exact HO2.out,HEV.out⟩
 clear HO2 HEV
 rintro⟨t,_⟩ V ⟨x,ao,c,hx,hds,⟨hsz,f0,f3,f4,f5,f6,f7⟩,hO,hEV⟩
 subst hds
 obtain⟨u',hu⟩:=frame_fun hsz
 obtain⟨u,rfl⟩:∃ x,x=u':=⟨_,rfl⟩
 have hu':t=#[u 0,u 1,u 2,u 3,u 4,u 5,u 6,u 7,u 8,u 9,u 10,u 11,u 12,u 13,u 14,u 15,u 16,u 17,u 18,u 19,u 20,u 21,u 22,u 23,u 24,u 25,u 26,u 27,u 28,u 29,u 30,u 31,u 32,u 33,u 34,u 35,u 36,u 37,u 38,u 39,u 40,u 41,u 42,u 43,u 44,u 45,u 46]:=hu
 clear hu
 subst hu'
 change u 0=_ at f0
 change u 3=_ at f3
 change u 4=_ at f4
 change u 5=_ at f5
 change u 6=_ at f6
 change u 7=_ at f7
 rw [f0,f3,f4,f5,f6,f7]
 clear f0 f3 f4 f5 f6 f7 hsz
 have HO:=Lib.hid hO;have HEV:=Lib.hid hEV
 clear hO hEV
 by_cases hxn:x<n
 case neg=>
  obtain rfl:x=n:=by omega
  have h3:¬ (x:Int)<(x:Int):=by omega
  have hO:=HO.out
  rw [<-HSU.out] at hO ⊢
  have HO2:=Lib.hid hO
  obtain⟨q,hq⟩:∃ q,(nextTo x L (i+1)).length=q:=⟨_,rfl⟩
  have HQ:=Lib.hid hq
  clear hO hq HO HSU HCR HE2 HOL HRL
  go_wp2
  exact⟨⟨i+1,ao,c,by omega,by first | rfl | trivial,⟨rfl,rfl,by first | rfl | (rw [HZ.out];rfl),rfl,rfl,rfl⟩,HO2.out,HEV.out⟩,by first | (simp [intOf];done) | (simp [intOf];omega)⟩
 have h3:(x:Int)<(n:Int):=by omega
 have hcrV:=HEV.out.cell_some HCR.out id
 have hed:=HE2.out.ext HEV.out
 have hhas:=ohas_any (x:=x) hed HOL.out
 have hi1:=nextIn_in (r:=r) (o:=o) (x:=x)
 have hi2:=nextIn_out (r:=r) (o:=o) (x:=x)
 have hnl:=nextIn_len r o x
 rw [HRL.out] at hnl
 obtain⟨T0,hT0⟩:∃ b,o.contains x=b:=⟨_,rfl⟩
 rw [hT0] at hhas hi1 hi2
 obtain⟨S,hS⟩:∃ S,nextIn r o x=S:=⟨_,rfl⟩
 rw [hS] at hi1 hi2 hnl ⊢
 obtain⟨sl,hsl⟩:∃ q,S.length=q:=⟨_,rfl⟩
 have hO:=HO.out
 rw [hS] at hO
 rw [hsl] at hnl ⊢
 have HHAS:=Lib.hid hhas;have HI1:=Lib.hid hi1;have HI2:=Lib.hid hi2;have HSL:=Lib.hid hsl;have HO3:=Lib.hid hO;have HCRV:=Lib.hid hcrV;have HED:=Lib.hid hed
 clear hhas hi1 hi2 hsl hO hS hT0 HO hed
 go_wp2_with fail
 refine HHAS.out.mono ?_
 rintro e V1 ⟨rfl,rfl⟩
 clear HHAS
 cases T0 with
 | true=>
  have hs:=HI1.out rfl
  have HS1:=Lib.hid hs
  clear hs HI1 HI2 hcrV HCRV HED HSU HCR HE2
  go_wp2
  exact⟨⟨x+1,ao,c,by omega,by first | rfl | trivial,⟨rfl,rfl,rfl,rfl,by rw [HS1.out,HSL.out];rfl,rfl,rfl⟩,by rw [HS1.out];exact HO3.out,HEV.out⟩,by first | (simp [intOf];done) | (simp [intOf];omega)⟩
 | false=>
  have hs:=HI2.out rfl
  have HS1:=Lib.hid hs
  clear hs HI1 HI2 HSU HCR HE2
  obtain⟨D,hD⟩:∃ b,V1.heap.size=b:=⟨_,rfl⟩
  have hXD:X<=D:=by have:=HEV.out.size;have:=HX.out;omega
  have hA0:(V1.alloc (.cells #[] 3)).ownsRow D 3 1 (.slice (some ⟨V1.heap.size,0,none⟩) 0 0) 0 []:=by rw [<-hD];exact World.ownsRow_lit V1 #[] 0 (Nat.le_refl _) (by unfold maxLen;omega) rfl
  have HA0:=Lib.hid hA0;have HD:=Lib.hid hD
  have hone:∀ u∈natV o,u.oneCell'=true:=fun u hu=>by obtain⟨_,_,rfl⟩:=List.mem_map.1 hu;rfl
  have HONE:=Lib.hid hone
  have hcrA:(V1.alloc (.cells #[] 3)).cell? ⟨gr,ofr+i,none⟩=some (.slice eo k ec):=(show Ext V1 (V1.alloc (.cells #[] 3)) from(Turn.refl _ V1).alloc _).cell_some hcrV id
  clear hA0 hone hD hcrV
  go_wp2_with (at_builtin;refine append_rd rfl (.tmp 34) (.tmp 38) 48 rfl D 3 _ 1 8 Tryz.underlying48 infoI14 rfl (by decide) _ 0 [] rfl HA0.out _ k _ (natV o) rfl (HED.out.ext ((Turn.refl _ V1).alloc _)) HONE.out ?c3 ?c4 ?c5 ?_)
  case c3=>unfold maxLen;omega
  case c4=>omega
  case c5=>have:=HD.out;first | omega | (simp;omega)
  intro yo yc V2 hO1 hT1 _
  try rw [Nat.zero_add,List.nil_append] at hO1
  have hO1:V2.ownsRow D 3 1 (.slice yo k yc) k (natV o):=hO1
  have hE1:Ext V1 V2:=Turn.after ((Turn.refl _ V1).alloc (.cells #[] 3)) hT1 (fun b hb e=>by simp only [Value.ownBlock,Option.some.injEq] at e;omega)
  have hO2:=own_ext hO1 ((Turn.refl _ V2).alloc (.cells #[.int .i64 (x:Int)] 3))
  have HO2:=Lib.hid hO2;have HO1:=Lib.hid hO1;have HE1:=Lib.hid hE1
  have hDV:D<=V2.heap.size:=by have:=hE1.size;have:=HD.out;omega
  clear hO1 hO2 hE1 hT1 HA0 HED HONE hcrA
  try rw [Nat.zero_add]
  go_wp2_with (at_builtin;refine append_row rfl (.tmp 39) (.tmp 41) 48 rfl D 3 _ 1 8 Tryz.underlying48 infoI14 rfl (by decide) _ _ _ rfl HO2.out ⟨V2.heap.size,0,none⟩ 1 1 [.int .i64 (x:Int)] rfl rfl (new_cells' rfl) ?d2 ?d3 ?d4 ?d5 ?_)
  case d2=>first | rfl | (intro u hu;simp only [List.mem_cons,List.not_mem_nil,or_false] at hu;rcases hu with rfl;rfl)
  case d3=>unfold maxLen;omega
  case d4=>omega
  case d5=>first | omega | (simp;omega)
  intro zo zc V3 hO3 hT3 _
  have hT3':Turn (fun b'=>(Value.slice yo k yc).ownBlock=some b') V2 V3:=Turn.trans (Turn.alloc (Turn.refl _ V2) _) hT3
  have hE3:Ext V1 V3:=HE1.out.after hT3' (fun b' h1 e=>by have:=(HO1.out.lt _ e).1;have:=HD.out;omega)
  rw [<-natV_append] at hO3
  obtain⟨on,hon⟩:∃ y,o++[x]=y:=⟨_,rfl⟩
  have honl:on.length=k+1:=by rw [<-hon,List.length_append,HOL.out];rfl
  rw [hon] at hO3
  have hss:=HS1.out
  rw [hon] at hss
  have HSS:=Lib.hid hss;have HON:=Lib.hid honl
  have hA:Ext V3 (V3.alloc (.cells #[.slice zo (k+1) zc] 48)):=(Turn.refl _ V3).alloc _
  obtain⟨vs,p1,p2,p3⟩:=HO3.out.ext (hE3.trans hA)
  have p1':=p1
  rw [HSL.out] at p1'
  have hrow2:(V3.alloc (.cells #[.slice zo (k+1) zc] 48)).ownsRow X 3 1 (.slice zo on.length zc) on.length (natV on):=by rw [honl];exact own_base (own_ext hO3 hA) hXD
  have hgo:∀(a5:Option Addr) (c5:Nat) (w5:World),w5.ownsRow X 48 1 (.slice a5 (sl+1) c5) (sl+1) (vs++[.slice zo (k+1) zc])->Turn (fun b'=>(Value.slice ao sl c).ownBlock=some b') (V3.alloc (.cells #[.slice zo (k+1) zc] 48)) w5->((Value.slice a5 (sl+1) c5).ownBlock=(Value.slice ao sl c).ownBlock\/(Value.slice a5 (sl+1) c5).ownBlock=some (V3.alloc (.cells #[.slice zo (k+1) zc] 48)).heap.size)->OutSt X (fun _=>False) w5 a5 c5 (nextIn r o (x+1))/\Ext W w5:=fun a5 c5 w5 q1 q2 q3=>by
   have q2':=q2
   rw [<-HSL.out] at q1 q2 q3
   refine⟨by rw [HSS.out];exact OutSt.push p1 p2 p3 hrow2 (fun _ _ h=>h) (fun _ h=>h.elim) (by rw [honl];exact q1) q2 q3,?_⟩
   exact(HEV.out.trans (hE3.trans hA)).after q2 fun b' h1 e=>by have:=(p1.lt _ e).1;have:=HX.out;omega
  have hlen:(nextIn r o (x+1)).length=sl+1:=by rw [HSS.out,List.length_append,HSL.out];rfl
  have hXU:X<=(V3.alloc (.cells #[.slice zo (k+1) zc] 48)).heap.size:=by have:=hE3.size;have:=HD.out;simp;omega
  have HGO:=Lib.hid hgo;have HP:=Lib.hid p1';have HLEN:=Lib.hid hlen;have HXU:=Lib.hid hXU
  clear hss hA p1 p2 p3 p1' hrow2 hgo hlen hXU hO3 hT3 hT3' hE3 honl hon HO2 HO1 HE1 HO3 HS1
  go_wp2_with (at_builtin;refine append_row rfl (.tmp 33) (.tmp 43) 27 rfl X 48 _ 1 24 Tryz.underlying27 infoSI rfl (by decide) _ _ _ rfl HP.out ⟨V3.heap.size,0,none⟩ 1 1 [.slice zo (k+1) zc] rfl rfl (new_cells' rfl) ?e2 ?e3 ?e4 ?e5 ?_)
  case e2=>first | rfl | (intro u hu;simp only [List.mem_cons,List.not_mem_nil,or_false] at hu;rcases hu with rfl;rfl)
  case e3=>unfold maxLen;omega
  case e4=>omega
  case e5=>simpa using HXU.out
  intro a5 c5 w5 hO5 hT5 hB5
  obtain⟨hO6,hE6⟩:=HGO.out a5 c5 w5 hO5 hT5 (by simpa using hB5)
  have HO6:=Lib.hid hO6;have HE6:=Lib.hid hE6
  clear hO6 hE6 hO5 hT5 hB5 HP HGO
  go_wp2
  exact⟨⟨x+1,a5,c5,by omega,by first | rfl | trivial,⟨rfl,rfl,rfl,rfl,by rw [HLEN.out];rfl,rfl,rfl⟩,HO6.out,HE6.out⟩,by first | (simp [intOf];done) | (simp [intOf];omega)⟩
end Go.Proofs.YtfdlhlghcbeblaaGreatDoor
namespace Go.Ab
open Go.RowKit
def IterP{α:Type}(P:Program)(gf:Nat)(lb:Array Value)(M:Nat->Nat->Prop)(E:Nat->(Nat->Prop)->α->World->Array Value->Prop) (xs:List α) (fin:Option (List PanicEntry)) (K:Nat->Prop) (w:World):Prop:=
 ∀(l:Nat) (J Jx:(Nat->Prop)->List α->World->Prop) (W:World),Turn (fun b=>¬ K b) w W ->
  (∀ O O' pre A B,J O pre A->Turn (fun b=>O b/\M W.heap.size b) A B->(∀ b,O' b->(O b\/A.heap.size<=b)/\b<B.heap.size)->J O' pre B) ->
  (∀ O O' pre A B,Jx O pre A->Turn (fun b=>O b/\M W.heap.size b) A B->(∀ b,O' b->(O b\/A.heap.size<=b)/\b<B.heap.size)->Jx O' pre B) ->
  (∀ O pre x rest A ys,xs=pre++x::rest->J O pre A->E W.heap.size O x A ys->YieldAt Fence.wide 0 P l ys A fun e B=>
   (e=.returned (.bool true)/\J O (pre++[x]) B/\Turn (fun b=>¬ K b/\¬ O b) A B)\/(e=.returned (.bool false)/\Jx O (pre++[x]) B/\Turn (fun b=>¬ K b/\¬ O b) A B)) ->
  J (fun _=>False) [] W ->
  Calls P gf (#[.func (.yield l) #[] #[]]++lb) W fun e B=>((∃ v,e=.returned v)/\∃ O,((fin=none/\J O xs B)\/∃ pre x rest,xs=pre++x::rest/\Jx O (pre++[x]) B))\/(∃ ch,fin=some ch/\e=.panicked ch/\∃ O,J O xs B)
theorem leavesM_panic{P:Program}{fn:Func}{tmps:Array Value}{R:Ending->World->Prop}{ch:List PanicEntry}{base:Nat} :
  ∀(ds:List Deferred) (w:World),Marks base ds w->(∀ w',Turn (Shut base w) w w'->w'.heap.size=w.heap.size->R (.panicked ch) w') ->
   LeavesInM Fence.wide 0 P fn tmps R ds (.panicking ch) w
 | [],w,_,h=>h w (Turn.refl _ _) rfl
 | d::ds,w,⟨r,hb,hd,hr,hn,hm⟩,h=>by
  refine⟨by simp,.inl ⟨r,_,by rw [hd],run_takeDeferred hr,?_⟩⟩
  refine leavesM_panic ds _ (hm.keep' (S:=(·=r)) ((Turn.refl (·=r) w).putObj (.inr rfl) _) (fun b e=>by subst e;exact hn)) ?_
  intro w' ht hs
  have hput:Turn (Shut base w) w (w.putObj r (.deferred none)):=(Turn.refl _ w).putObj (.inr ⟨hb,fun o ho=>by rw [hr] at ho;cases ho;rfl⟩) _
  refine h w' (hput.after ht fun b hlt hsh=>?_) (by rw [hs];simp)
  refine⟨hsh.1,fun o ho=>?_⟩
  by_cases hbr:b=r
  ·subst hbr;rw [hr] at ho;cases ho;rfl
  ·exact hsh.2 o (by rw [World.putObj_heap_other hbr];exact ho)
theorem bodyPostM_panic{P:Program}{fn:Func}{R:Ending->World->Prop}{a:Act}{w:World}{ch:List PanicEntry}{base:Nat}(hm:Marks base a.defers w)
  (hR:∀ w',Turn (Shut base w) w w'->w'.heap.size=w.heap.size->R (.panicked ch) w') :
  bodyPostM Fence.wide 0 P fn R (.panic ch) a w:=leavesM_panic _ _ hm hR
end Go.Ab
namespace Go.Ab
open Go.RowKit
def IterF{α:Type}(P:Program)(gf:Nat)(lb:Array Value)(M:Nat->Nat->Prop)(E:Nat->α->World->Array Value->Prop)(xs:List α)(fin:Option (List PanicEntry)) (T:Nat->Prop) (C:World->Prop) (w:World):Prop:=
 ∀(l:Nat) (J Jx:List α->World->Prop) (W:World),Turn T w W ->
  w.heap.size<=l->(∃ o,W.heap[l]?=some o/\o.isCells=false) ->
  (∀ pre A B,J pre A->Turn (fun b=>W.heap.size<=b/\M W.heap.size b) A B->J pre B) ->
  (∀ pre A B,Jx pre A->Turn (fun b=>W.heap.size<=b/\M W.heap.size b) A B->Jx pre B) ->
  (∀ pre A,J pre A->C A/\∃ o,A.heap[l]?=some o/\o.isCells=false) ->
  (∀ pre x rest A ys,xs=pre++x::rest->J pre A->E W.heap.size x A ys->YieldAt Fence.wide 0 P l ys A fun e B=>
   (e=.returned (.bool true)/\J (pre++[x]) B/\Turn (fun b=>T b\/b=l) A B)\/(e=.returned (.bool false)/\Jx (pre++[x]) B/\Turn (fun b=>T b\/b=l) A B)) ->
  J [] W ->
  Calls P gf (#[.func (.yield l) #[] #[]]++lb) W fun e B=>((∃ v,e=.returned v)/\((fin=none/\J xs B)\/∃ pre x rest,xs=pre++x::rest/\Jx (pre++[x]) B))\/(∃ ch,fin=some ch/\e=.panicked ch/\J xs B)
theorem wp_rangeF{α:Type}{P:Program}{g:Operand}{ps:Array Tmp}{assign body:Code}{Q:Exit->Act->World->Prop}{a:Act}{w:World}
  {gf:Nat} {lb:Array Value} (hg:a.eval g=.func (.func gf) #[] lb) (eg:∀ args w,(callFunc gf args).run P w=.ok (.enter gf args) w)
  {M:Nat->Nat->Prop} {E:Nat->α->World->Array Value->Prop} {xs:List α} {fin:Option (List PanicEntry)} {T:Nat->Prop} {C:World->Prop} (hseq:IterF P gf lb M E xs fin T C w) (hT:∀ b,T b->b<w.heap.size) (hps:∀ n x A ys,E n x A ys->ys.size=ps.size)
  (_hEs:∀ n x A B ys,E n x A ys->Turn (fun b=>b=w.heap.size+1) A B->(∃ o,A.heap[w.heap.size+1]?=some o/\o.isCells=false)->E n x B ys)
  (I:List α->World->Prop) (Ix:Code->List α->World->Prop) (hC:∀ pre A,I pre A->C A)
  (hI:∀ pre A B,I pre A->Turn (fun b=>(w.heap.size+2<=b/\M (w.heap.size+2) b)\/b=w.heap.size+1) A B->(∃ o,A.heap[w.heap.size+1]?=some o/\o.isCells=false)->I pre B)
  (hIx:∀ c pre A B,Ix c pre A->Turn (fun b=>(w.heap.size+2<=b/\M (w.heap.size+2) b)\/b=w.heap.size+1) A B->(∃ o,A.heap[w.heap.size+1]?=some o/\o.isCells=false)->Ix c pre B)
  (h0:∀ W,Ext w W->W.heap.size=w.heap.size+2->I [] W) (up:Array Value->Array Value->Array Value)
  (hassign:∀(n:Nat) (pre:List α) (x:α) (rest:List α) (ys:Array Value) (W:World) (Kn:Act->World->Prop),xs=pre++x::rest->I pre W->E n x W ys->(∀ W',Turn T W W'->I (pre++[x]) W'->Kn { tmps:=up ys a.tmps,defers:=[] } W') ->
   assign.wpIn (Fence.wide.inRound (w.heap.size+1)) 0 P (Exit.then Kn (fun _ _ _=>False)) { tmps:=(ps.zip ys).foldl (fun t (p,v)=>t.setIfInBounds p v) a.tmps,defers:=[] } W)
  (hbody:∀(pre:List α) (x:α) (rest:List α) (ys:Array Value) (W:World),xs=pre++x::rest->w.heap.size+2<=W.heap.size->Turn (fun b=>T b\/w.heap.size<=b) w W->I (pre++[x]) W ->
   body.wpIn (Fence.wide.inRound (w.heap.size+1)) 0 P (roundQ (fun b=>¬ T b) I (fun c=>Ix c) (pre++[x]) W) { tmps:=up ys a.tmps,defers:=[] } W)
  (hpan:∀ ch W,fin=some ch->I xs W->W.heap[w.heap.size]?=some (.deferred (some []))->w.heap.size+2<=W.heap.size->Q (.panic ch) { a with defers:={ target:=.collected w.heap.size,args:=#[] }::a.defers } W)
  (hdone:fin=none->∀ W,I xs W->W.heap[w.heap.size]?=some (.deferred (some []))->w.heap.size+2<=W.heap.size->Q .normal { a with defers:={ target:=.collected w.heap.size,args:=#[] }::a.defers } W)
  (hstop:∀ c pre x rest W,xs=pre++x::rest->Ix c (pre++[x]) W->W.heap[w.heap.size]?=some (.deferred (some []))->c.wp P Q { a with defers:={ target:=.collected w.heap.size,args:=#[] }::a.defers } W) :
  (Code.rangeFunc g ps assign body).wp P Q a w:=by
 refine(wpIn_wide (n:=0)).1 (wpIn_rangeFunc ?_)
 intro fn _
 obtain⟨rec,hrec⟩:∃ rec:LoopState->Option Code->Loop,rec=fun st pe=>{ state:=st,pending:=pe,fn,tmps:=a.tmps,params:=ps,assign,body,defers:=w.heap.size }:=⟨_,rfl⟩
 obtain⟨W1,hW1⟩:∃ W1,(w.alloc (.deferred (some []))).alloc (.loop (rec .ready none))=W1:=⟨_,rfl⟩
 have hL1:W1.heap[w.heap.size+1]?=some (.loop (rec .ready none)):=by
  rw [<-hW1];have:=World.alloc_heap_new (w.alloc (.deferred (some []))) (.loop (rec .ready none));rwa [World.size_alloc] at this
 have hD1:W1.heap[w.heap.size]?=some (.deferred (some [])):=by
  rw [<-hW1];exact(Below.heap_alloc _ _ _ (by simp)).trans (World.alloc_heap_new w _)
 have hE1:Ext w W1:=by rw [<-hW1];exact((Turn.refl _ w).alloc _).alloc _
 have hs1:W1.heap.size=w.heap.size+2:=by rw [<-hW1];simp
 have hTn:∀ b,w.heap.size<=b->¬ T b:=fun b hb ht=>by have:=hT b ht;omega
 have hput:∀(X:World) o,Turn (fun b=>(w.heap.size+2<=b/\M (w.heap.size+2) b)\/b=w.heap.size+1) X (X.putObj (w.heap.size+1) o):=fun X o=>(Turn.refl _ X).putObj (.inr (.inr rfl)) o
 refine⟨w.heap.size+1,[{ target:=.collected w.heap.size,args:=#[] }],W1,{ target:=.fn (.func gf) lb,args:=#[.func (.yield (w.heap.size+1)) #[] #[]] },W1,gf,
  #[.func (.yield (w.heap.size+1)) #[] #[]]++lb,W1,?_,?_,fun _ _=>trivial,?_,fun h=>by simp [Fence.wide] at h,?_⟩
 ·rw [<-hW1,hrec];exact run_enterLoop_outer _ _ _ _ _
 ·simp only [resolve,hg]
  simp [go_sem]
 ·simp [invoke,go_sem,eg]
 ·refine callsIn_wide.2 ((hseq (w.heap.size+1)
   (fun pre W=>I pre W/\W.heap[w.heap.size+1]?=some (.loop (rec .ready none))/\W.heap[w.heap.size]?=some (.deferred (some []))/\Turn (fun b=>T b\/w.heap.size<=b) w W/\w.heap.size+2<=W.heap.size)
   (fun pre W=>∃ c,Ix c pre W/\W.heap[w.heap.size+1]?=some (.loop (rec .done (some c)))/\W.heap[w.heap.size]?=some (.deferred (some []))/\w.heap.size+2<=W.heap.size)
   W1 hE1.of (Nat.le_succ _) ⟨_,hL1,rfl⟩ ?_ ?_ ?_ ?_ ⟨h0 _ hE1 hs1,hL1,hD1,hE1.of,by omega⟩).mono ?_)
  ·rintro pre A B ⟨h1,h2,h3,h4,h5⟩ ht
   rw [hs1] at ht
   exact⟨hI _ _ _ h1 (ht.mono fun b _ hb=>.inl hb) ⟨_,h2,rfl⟩,ht.heap h2 (fun hb=>by have:=hb.1;omega),ht.heap h3 (fun hb=>by have:=hb.1;omega),h4.after ht (fun b hlt hb=>by have:=hb.1;omega),Nat.le_trans h5 ht.size⟩
  ·rintro pre A B ⟨c,h1,h2,h3,h5⟩ ht
   rw [hs1] at ht
   exact⟨c,hIx _ _ _ _ h1 (ht.mono fun b _ hb=>.inl hb) ⟨_,h2,rfl⟩,ht.heap h2 (fun hb=>by have:=hb.1;omega),ht.heap h3 (fun hb=>by have:=hb.1;omega),Nat.le_trans h5 ht.size⟩
  ·rintro pre A ⟨h1,h2,_⟩
   exact⟨hC _ _ h1,_,h2,rfl⟩
  ·-- one round
   rintro pre x rest W ys hx ⟨hi,hl,hd,ht,hsz⟩ hen
   rw [hs1] at hen
   have hlt:w.heap.size+1<W.heap.size:=by omega
   have hy:=run_yield (P:=P) (args:=ys) hl (by rw [hrec];exact hps _ x _ _ hen)
   rw [hrec] at hy
   refine⟨fn,_,assign,body,hy,roundIn_of_wpIn trivial (hassign _ pre x rest ys W _ hx hi hen ?_)⟩
   intro W' htw hi
   clear hy
   have hl:=htw.heap hl (hTn _ (by omega))
   have hd:=htw.heap hd (hTn _ (by omega))
   have ht0:=ht
   have ht:=ht.trans (htw.mono fun b _ h=>.inl h)
   have hsz0:=hsz
   have hsz:=Nat.le_trans hsz htw.size
   have hlt:w.heap.size+1<W'.heap.size:=by omega
   have htw':Turn (fun b=>T b\/b=w.heap.size+1) W W':=htw.mono fun b _ h=>.inl h
   refine⟨_,run_beginRound hl (by rw [hrec]),?_⟩
   have hl2:(W'.putObj (w.heap.size+1) (.loop { rec .ready none with state:=.busy })).heap[w.heap.size+1]?=some (.loop { rec .ready none with state:=.busy }):=World.putObj_heap_same hlt
   have hd2:(W'.putObj (w.heap.size+1) (.loop { rec .ready none with state:=.busy })).heap[w.heap.size]?=some (.deferred (some [])):=(World.putObj_heap_other (by omega)).trans hd
   have hTB:Turn (fun b=>T b\/w.heap.size<=b) w (W'.putObj (w.heap.size+1) (.loop { rec .ready none with state:=.busy })):=ht.putObj (.inl (Nat.le_succ _)) _
   refine wpIn_mono (hbody pre x rest ys _ hx (by simpa using hsz) hTB (hI _ _ _ hi (hput W' _) ⟨_,hl,rfl⟩)) ?_
   have fin:∀(jump:Option Code) (W3:World),Turn (fun b=>¬ ¬ T b) (W'.putObj (w.heap.size+1) (.loop { rec .ready none with state:=.busy })) W3 ->
     (Instr.endRound (w.heap.size+1) jump).run P W3=.ok (.bool jump.isNone) (W3.putObj (w.heap.size+1) (.loop (rec (if jump.isNone then .ready else .done) jump))) /\
     (W3.putObj (w.heap.size+1) (.loop (rec (if jump.isNone then .ready else .done) jump))).heap[w.heap.size+1]?=some (.loop (rec (if jump.isNone then .ready else .done) jump)) /\
     (W3.putObj (w.heap.size+1) (.loop (rec (if jump.isNone then .ready else .done) jump))).heap[w.heap.size]?=some (.deferred (some [])) /\
     Turn (fun b=>T b\/b=w.heap.size+1) W (W3.putObj (w.heap.size+1) (.loop (rec (if jump.isNone then .ready else .done) jump)))/\(∃ o,W3.heap[w.heap.size+1]?=some o/\o.isCells=false):=fun jump W3 hk3=>by
    have hl3:=hk3.heap hl2 (fun h=>h (hTn _ (by omega)))
    have hd3:=hk3.heap hd2 (fun h=>h (hTn _ (by omega)))
    have:=run_endRound (P:=P) jump hl3
    rw [hrec] at this ⊢
    refine⟨this,World.putObj_heap_same (Array.getElem?_eq_some_iff.1 hl3).1,(World.putObj_heap_other (by omega)).trans hd3,?_,_,hl3,rfl⟩
    exact(htw'.trans ((Turn.refl _ W').putObj (.inr (.inr rfl)) _)).trans (hk3.mono fun b _ hb=>.inl (Classical.byContradiction hb)) |>.putObj (.inr (.inr rfl)) _
   have hgrow:∀ {X:World},Turn (fun b=>T b\/b=w.heap.size+1) W X->Turn (fun b=>T b\/w.heap.size<=b) w X:=fun h=>ht0.trans (h.mono fun b _ hb=>hb.imp id (fun e=>by omega))
   rintro e a3 W3 hp
   cases e with
   | normal=>
    obtain⟨hk3,hi3⟩:=hp
    obtain⟨hr,hl4,hd4,ht4,hn4⟩:=fin none W3 hk3
    exact⟨_,_,hr,.inl ⟨rfl,⟨hI _ _ _ hi3 (hput W3 _) hn4,hl4,hd4,hgrow ht4,Nat.le_trans hsz0 ht4.size⟩,ht4⟩⟩
   | ret=>
    obtain⟨hk3,hi3⟩:=hp
    obtain⟨hr,hl4,hd4,ht4,hn4⟩:=fin (some .ret) W3 hk3
    exact⟨_,_,hr,.inr ⟨rfl,⟨.ret,hIx _ _ _ _ hi3 (hput W3 _) hn4,hl4,hd4,Nat.le_trans hsz0 ht4.size⟩,ht4⟩⟩
   | exit id=>
    obtain⟨hk3,hi3⟩:=hp
    obtain⟨hr,hl4,hd4,ht4,hn4⟩:=fin (some (.exit id)) W3 hk3
    exact⟨_,_,hr,.inr ⟨rfl,⟨.exit id,hIx _ _ _ _ hi3 (hput W3 _) hn4,hl4,hd4,Nat.le_trans hsz0 ht4.size⟩,ht4⟩⟩
   | goto t=>
    obtain⟨hk3,hi3⟩:=hp
    obtain⟨hr,hl4,hd4,ht4,hn4⟩:=fin (some (.goto t)) W3 hk3
    exact⟨_,_,hr,.inr ⟨rfl,⟨.goto t,hIx _ _ _ _ hi3 (hput W3 _) hn4,hl4,hd4,Nat.le_trans hsz0 ht4.size⟩,ht4⟩⟩
   | panic ch=>exact hp.elim
   | outgrown=>exact hp.elim
  ·-- behind the iterator
   rintro e W2 (⟨⟨v,rfl⟩,(⟨hf,hi,hl,hd,ht,hsz⟩ | ⟨pre,x,rest,hx,c,hi,hl,hd,hsz⟩)⟩ | ⟨ch,hf,rfl,hi,hl,hd,ht,hsz⟩)
   ·refine⟨none,_,by have:=run_endLoop (P:=P) hl (by rw [hrec];simp);rw [hrec] at this;exact this,?_⟩
    exact hdone hf _ (hI _ _ _ hi (hput W2 _) ⟨_,hl,rfl⟩) ((World.putObj_heap_other (by omega)).trans hd) (by simpa using hsz)
   ·refine⟨some c,_,by have:=run_endLoop (P:=P) hl (by rw [hrec];simp);rw [hrec] at this;exact this,?_⟩
    exact(wpIn_wide (n:=0)).2 (hstop c pre x rest _ hx (hIx _ _ _ _ hi (hput W2 _) ⟨_,hl,rfl⟩) ((World.putObj_heap_other (by omega)).trans hd))
   ·exact hpan ch W2 hf hi hd hsz
end Go.Ab
