/- MergersMany: -/
import Derived.Test.YtejenndedjabhaaGreatDoorU15
import Derived.Test.YtejenndedjabhaaGreatDoorU23
set_option maxRecDepth 100000
set_option maxHeartbeats 32000000
namespace Go.Proofs.YtejenndedjabhaaGreatDoor
open Go.RowKit Go.Ab
def U3:Wd:=Vp 64 0++[(64,0),(128,0)]
theorem Q2h:Zg [v15] [] [] (U3.take 62)=0/\Zg [v15] [] [] (U3.take 63)=0/\Zg [v15] [] [] (U3.take 64)=0/\Zg [v15] [] [] (U3.take 65)=12:=by decide +kernel
def mB(m most:Nat):Int:=if m<=most then 0 else 12
theorem Q39{m:Nat}(i:62<=m)(j:m<=65):Zg [v15] [] [] (U3.take m)=mB m 64/\(Zi [v15] [] [] (U3.take m)).length=if m<=64 then m else 0:=by
 have g:m=62\/m=63\/m=64\/m=65:=by omega
 obtain⟨b,c,d,e⟩:=Q2h
 have f:∀ k,k<=66->(U3.take k).length=k:=fun k hk=>by
  have:U3.length=66:=by decide
  rw [List.length_take,this];omega
 have a:∀ k,k<=66->Zg [v15] [] [] (U3.take k)=0->(Zi [v15] [] [] (U3.take k)).length=k:=fun k hk h=>by
  unfold Zi;rw [if_pos h,List.length_map];exact f k hk
 rcases g with rfl | rfl | rfl | rfl
 ·exact⟨b,a _ zd b⟩
 ·exact⟨c,a _ zd c⟩
 ·exact⟨d,a _ zd d⟩
 ·refine⟨e,?_⟩;unfold Zi;rw [if_neg (by rw [e];decide)];rfl
theorem Q5j:∀ m:Nat,m<66->62<=m->Yi (List.replicate m 0)=mB m 64/\K3 (List.replicate m 0)=[]/\(m<=64->(Jz (List.replicate m 0)).length=m - 1/\(Jz (List.replicate m 0)).getD 0 []=[1,0]):=by decide +kernel
theorem Q2p:∀ m:Nat,m<258->254<=m->Jc (List.replicate m 0)=mB m 256/\Ky (List.replicate m 0)=if m<=256 then [m] else []:=by decide +kernel
theorem Rx(n:Nat):Z5 (List.replicate n 0)=0:=by
 induction n with
 | zero=>rfl
 | succ n ih=>rw [List.replicate_succ];unfold Z5;rw [if_pos rfl];exact ih
theorem Q2z:Zd [v15]=0:=by decide +kernel
theorem N8:Jl [v15] (Z0 [(5,2)] [(5,2)] (2,5))=0/\Xf [v15] (Z0 [(5,2)] [(5,2)] (2,5))=[(5,2),(3,4),(5,2)]:=by decide +kernel
theorem Q9o:Za [] [(5,2)] [(5,2)]=0:=by decide +kernel
theorem Q78(m:Nat):Je [v15] (List.replicate m ([(5,2)],[(5,2)])) (2,5)=mB m 256/\Hk [v15] (List.replicate m ([(5,2)],[(5,2)])) (2,5)=if m<=256 then List.replicate m true else []:=by
 have b:Je [v15] (List.replicate m ([(5,2)],[(5,2)])) (2,5)=mB m 256:=by
  unfold Je mB;rw [if_pos Q2z,List.length_replicate];by_cases a:m<=256
  ·rw [if_neg oz,if_pos a];unfold Vd Fm;rw [List.map_replicate,List.map_replicate];dsimp only;rw [Q9o,N8.1,Rx,if_pos rfl,if_pos zd]
  ·rw [if_pos oz,if_neg a]
 refine⟨b,?_⟩;unfold Hk;rw [b];unfold mB;by_cases a:m<=256
 ·rw [if_pos a,if_pos rfl,if_pos a];unfold frB;rw [List.map_replicate];dsimp only;rw [N8.2];rfl
 ·rw [if_neg a,if_neg zd,if_neg a]
theorem Q8h:wE [(5,2),(2,5),(5,2)]=0:=by decide +kernel
theorem Q1o(m:Nat):J3 [v15] (List.replicate m [(5,2),(2,5),(5,2)]) [(2,5),(3,4)]=mB m 32:=by
 unfold J3 mB;rw [if_pos Q2z,List.length_replicate];by_cases a:m<=32
 ·rw [if_neg oz,if_pos a];unfold Kv;rw [List.map_replicate,Q8h,Rx,if_pos rfl];decide
 ·rw [if_pos oz,if_neg a]
theorem Q3i:∀ m:Nat,m<18->14<=m->J3 [v15] [] (Vp m 3)=mB m 16:=by decide +kernel
theorem Lb:Zg [v15] [] [] [(2,5),(3,4),(2,5)]=6/\Zg [v15] [] [] [(2,5),(2,5),(1,1)]=14:=by decide +kernel
attribute [local go_sem] Oper.semAt_some Z6 Qn
theorem Cg:∀ args w,(callFunc 94 args).run Tryz.prog w=.ok (.enter 94 args) w:=fun args w=>by simp [go_sem]
theorem Mt:∀ {W:World} {vs:List Value} {us:List Wd} {i:Nat},Z4 W vs us->(hi:i<us.length)->∃ uo uc,vs.getD i undef=.slice uo us[i].length uc/\Q4 W (.slice uo us[i].length uc) us[i]
 | _,[],[],_,_,h=>absurd h (Nat.not_lt_zero _)
 | _,_::_,_::_,0,h,_=>by
  obtain⟨⟨ao,c,h1,h2,_⟩,_⟩:=h
  exact⟨ao,c,h1,h2⟩
 | _,_::_,_::_,i+1,h,hi=>Mt (i:=i) h.2 (by simpa using hi)
structure H7 (w:World) (lo:Option Addr) (n lc K O P Q T s1 s2 t1 t2:Nat):Prop where
 j:w.heap[P]?=some (.cells #[.slice lo n lc,.map (some K),.map (some O)] 125 (0,0))
 s:w.heap[Q]?=some (.cells #[.int .u32 (s1:Int),.int .u32 (s2:Int)] 26 (0,0))
 t:w.heap[T]?=some (.cells #[.int .u32 (t1:Int),.int .u32 (t2:Int)] 26 (0,0))
 ne:P≠K/\P≠O/\Q≠K/\Q≠O/\T≠K/\T≠O
theorem H7.keep{w V:World}{lo:Option Addr}{n lc K O P Q T s1 s2 t1 t2:Nat}(h:H7 w lo n lc K O P Q T s1 s2 t1 t2)(ht:Q0 (fun q=>q=K\/q=O) w V):H7 V lo n lc K O P Q T s1 s2 t1 t2:=
 ⟨ht.heap h.j (by have:=h.ne;omega),ht.heap h.s (by have:=h.ne;omega),ht.heap h.t (by have:=h.ne;omega),h.ne⟩
def IxR(P:Program)(k e:TypeId)(ls:List Q5)(w:World)(K O:Nat)(OS:List (List UInt8)) (c:Nat) (b:Bool) (en:Ending) (w':World):Prop:=∃(z:Int) (R:List (List UInt8)),en=.returned (.int .i64 z)/\decide (0<=z)=b/\JAt P k e ls w' K O (OS++R) c/\Q0 (fun q=>q=K\/q=O) w w'
section
variable {w0:World} {ps:Zw} {lo:Option Addr} {n lc:Nat} (hl:Z9 w0 (.slice lo n lc) ps) (hn:ps.length=n) (hT:Tab w0) {K O:Nat} (hK:w0.heap.size<=K) (hO:w0.heap.size<=O) (hKO:K≠O) {s1 s2 t1 t2:Nat} (hs:Qe (s1,s2)) (ht:Qe (t1,t2)) (hsv:okS (s1,s2)=true) (htv:okS (t1,t2)=true) (hst:(s1,s2)≠(t1,t2))
include hl hn hT hK hO hKO hs ht hsv htv hst
theorem Q48{w:World}(hE:Ext w0 w){P Q T:Nat}(hB:H7 w lo n lc K O P Q T s1 s2 t1 t2){OS:List (List UInt8)} {c:Nat} (hJ:JAt Tryz.prog 9 3 (ps.map (·.1)) w K O OS c) (hc:c<=900000) {uw:Wd} {uo:Option Addr} {un uc:Nat} (hu:Q4 w0 (.slice uo un uc) uw) (hun:uw.length=un) (hlw:Zz (ps.map (·.1)) uw=0) :
  Calls Tryz.prog 94 #[.slice uo un uc,.pointer (some ⟨P,0,none⟩),.pointer (some ⟨Q,0,none⟩),.pointer (some ⟨T,0,none⟩)] w (ApR Tryz.prog 9 3 (ps.map (·.1)) w K O OS (c+64) (apB (ps.map (·.1)) uw (s1,s2) (t1,t2))):=by
 have HC:=Zh (Q1a hl hn hT hE hK hO hKO hJ hc hu hun hlw hs ht hsv htv hst)
 have d0:w.cell? ⟨P,0,none⟩=some (.slice lo n lc):=by rw [cell_of_row _ _ _ _ _ _ hB.j];rfl
 have d1:w.cell? ⟨P,1,none⟩=some (.map (some K)):=by rw [cell_of_row _ _ _ _ _ _ hB.j];rfl
 have d2:w.cell? ⟨P,2,none⟩=some (.map (some O)):=by rw [cell_of_row _ _ _ _ _ _ hB.j];rfl
 have e0:w.cell? ⟨Q,0,none⟩=some (.int .u32 (s1:Int)):=by rw [cell_of_row _ _ _ _ _ _ hB.s];rfl
 have e1:w.cell? ⟨Q,1,none⟩=some (.int .u32 (s2:Int)):=by rw [cell_of_row _ _ _ _ _ _ hB.s];rfl
 have f0:w.cell? ⟨T,0,none⟩=some (.int .u32 (t1:Int)):=by rw [cell_of_row _ _ _ _ _ _ hB.t];rfl
 have f1:w.cell? ⟨T,1,none⟩=some (.int .u32 (t2:Int)):=by rw [cell_of_row _ _ _ _ _ _ hB.t];rfl
 clear hl hn hT hE hK hO hKO hJ hc hu hun hlw hs ht hsv htv hst hB
 obtain⟨LD,hLD⟩:∃ x,ps.map (·.1)=x:=⟨_,rfl⟩
 rw [hLD] at HC ⊢
 clear hLD
 obtain⟨B,hB⟩:∃ b,apB LD uw (s1,s2) (t1,t2)=b:=⟨_,rfl⟩
 rw [hB] at HC ⊢
 clear hB
 go_enter Tryz.func94,Tryz.ntmps94
 go_wp2_with fail
 refine HC.out.mono ?_
 rintro e w2 ⟨R,rfl,hJ,hT⟩
 have HJ:=Zh hJ;have HT:=Zh hT
 clear hJ hT HC d0 d1 d2 e0 e1 f0 f1
 go_wp2
 go_ret
 exact⟨R,rfl,HJ.out,HT.out⟩
theorem Q1p{w:World}(hE:Ext w0 w){P Q T:Nat}(hB:H7 w lo n lc K O P Q T s1 s2 t1 t2){OS:List (List UInt8)} {c:Nat} (hJ:JAt Tryz.prog 9 3 (ps.map (·.1)) w K O OS c) (hc:c<=800000) {ao:Option Addr} {N cap:Nat} {us:List Wd} (hu:Vo w0 (.slice ao N cap) us) (hN:us.length=N) (hN32:N<=32) (hlw:∀ uw∈us,Zz (ps.map (·.1)) uw=0) :
  Calls Tryz.prog 121 #[.slice ao N cap,.func (.func 94) #[] #[.pointer (some ⟨P,0,none⟩),.pointer (some ⟨Q,0,none⟩),.pointer (some ⟨T,0,none⟩)]] w (IxR Tryz.prog 9 3 (ps.map (·.1)) w K O OS (c+64*N) (apL (ps.map (·.1)) us (s1,s2) (t1,t2))):=by
 obtain⟨vs,hr,hws⟩:=hu
 rw [hN] at hr
 have hcall:=fun {V:World} (hE:Ext w0 V) (hB:H7 V lo n lc K O P Q T s1 s2 t1 t2) {OS:List (List UInt8)} {c:Nat} (hJ:JAt Tryz.prog 9 3 (ps.map (·.1)) V K O OS c) (hc:c<=900000) {uw:Wd} {uo:Option Addr} {un uc:Nat} (hu:Q4 w0 (.slice uo un uc) uw) (hun:uw.length=un) (hlw:Zz (ps.map (·.1)) uw=0)=>Q48 hl hn hT hK hO hKO hs ht hsv htv hst hE hB hJ hc hu hun hlw
 obtain⟨LD,hLD⟩:∃ x,ps.map (·.1)=x:=⟨_,rfl⟩
 rw [hLD] at hJ ⊢
 simp only [hLD] at hcall hlw
 have HCALL:Hid (∀ {V:World},Ext w0 V->H7 V lo n lc K O P Q T s1 s2 t1 t2->∀ {OS:List (List UInt8)} {c:Nat},JAt Tryz.prog 9 3 LD V K O OS c->c<=900000->∀ {uw:Wd} {uo:Option Addr} {un uc:Nat},Q4 w0 (.slice uo un uc) uw->uw.length=un->Zz LD uw=0->_):=Zh hcall
 have HLW:=Zh hlw;have HR:=Zh hr;have HWS:=Zh hws;have HN:=Zh hN;have HE:=Zh hE;have HB:=Zh hB;have HJ:=Zh hJ;have HKb:=Zh hK;have HOb:=Zh hO
 clear hl hn hT hE hK hO hKO hJ hs ht hsv htv hst hB hcall hlw hr hws hN hLD
 have hen:=Cg
 have HEN:=Zh hen
 clear hen
 go_enter Tryz.func121,Tryz.ntmps121
 go_wp2
 refine wp_loop (fun a W=>∃(k:Nat) (R:List (List UInt8)),k<=N/\a.defers=[]/\(a.tmps.size=19/\a.tmps.getD 0 undef=.slice ao N cap/\a.tmps.getD 1 undef=.func (.func 94) #[] #[.pointer (some ⟨P,0,none⟩),.pointer (some ⟨Q,0,none⟩),.pointer (some ⟨T,0,none⟩)]/\a.tmps.getD 7 undef=.int .i64 N/\a.tmps.getD 8 undef=.int .i64 k)/\JAt Tryz.prog 9 3 LD W K O (OS++R) (c+64*k)/\(us.take k).any (fun uw=>apB LD uw (s1,s2) (t1,t2))=false/\Q0 (fun q=>q=K\/q=O) w W)
  (fun a _=>N - (intOf (a.tmps.getD 8 undef)).toNat) ?_ ?_
 ·exact⟨0,[],by omega,rfl,⟨rfl,rfl,rfl,rfl,rfl⟩,by rw [List.append_nil];exact HJ.out,rfl,Q0.refl _ _⟩
 clear HJ
 rintro⟨t,_⟩ W ⟨k,R,hk,hds,⟨hsz,f0,f1,f7,f8⟩,hJ,hall,hTW⟩
 subst hds
 obtain⟨u',hu⟩:=Z8 hsz
 obtain⟨u,rfl⟩:∃ x,x=u':=⟨_,rfl⟩
 have hu':t=#[u 0,u 1,u 2,u 3,u 4,u 5,u 6,u 7,u 8,u 9,u 10,u 11,u 12,u 13,u 14,u 15,u 16,u 17,u 18]:=hu
 clear hu
 subst hu'
 change u 0=_ at f0
 change u 1=_ at f1
 change u 7=_ at f7
 change u 8=_ at f8
 rw [f0,f1,f7,f8]
 clear f0 f1 f7 f8 hsz
 have HJ:=Zh hJ;have HALL:=Zh hall;have HTW:=Zh hTW
 clear hJ hall hTW
 by_cases hkN:k<N
 case neg=>
  obtain rfl:k=N:=by omega
  have h1:¬ (k:Int)<(k:Int):=by omega
  go_wp2
  go_ret
  have ha:=HALL.out
  rw [List.take_of_length_le (by rw [HN.out];exact Nat.le_refl _)] at ha
  exact⟨-1,R,rfl,by unfold apL;rw [ha];rfl,HJ.out,HTW.out⟩
 have h1:(k:Int)<(N:Int):=by omega
 have h0:(0:Int)<=(k:Int):=by omega
 have hkl:k<us.length:=by rw [HN.out];exact hkN
 have hEW:Ext w0 W:=HE.out.after HTW.out (fun b hb e=>by have:=HKb.out;have:=HOb.out;omega)
 obtain⟨g,off,c',hq,hg,hcl⟩:=Zq (HR.out.ext hEW) hkN
 simp only [Value.slice.injEq,true_and] at hq
 obtain⟨rfl,rfl⟩:=hq
 obtain⟨uo,uc,hv,hwu⟩:=Mt HWS.out hkl
 rw [hv] at hcl
 have hc2:=HCALL.out hEW (HB.out.keep HTW.out) HJ.out (by omega) hwu rfl (HLW.out _ (List.getElem_mem hkl))
 have htk:us.take (k+1)=us.take k++[us[k]]:=List.take_succ_eq_append_getElem hkl
 obtain⟨uw,huw⟩:∃ x,us[k]=x:=⟨_,rfl⟩
 rw [huw] at hcl hc2 htk
 have hmem:uw∈us:=by rw [<-huw];exact List.getElem_mem hkl
 obtain⟨un,hun⟩:∃ x,uw.length=x:=⟨_,rfl⟩
 rw [hun] at hcl hc2
 have HC2:=Zh hc2;have HTK:=Zh htk;have HMEM:=Zh hmem
 clear hc2 htk hv hwu huw hun hg hEW hmem hkl
 have hen:=HEN.out
 go_wp2_with fail
 clear hen
 refine HC2.out.mono ?_
 rintro e W2 ⟨R2,rfl,hJ2,hT2⟩
 obtain⟨b,hb⟩:∃ b,apB LD uw (s1,s2) (t1,t2)=b:=⟨_,rfl⟩
 rw [hb]
 have HBB:=Zh hb;have HJ2:=Zh hJ2;have HT2:=Zh (HTW.out.trans hT2)
 clear hb hJ2 hT2 HC2 hcl HTW HJ
 cases b
 ·go_wp2
  exact⟨⟨k+1,R++R2,by omega,by first | rfl | trivial,⟨rfl,rfl,rfl,rfl,rfl⟩,by have h:=HJ2.out.mono (d:=c+64*(k+1)) (by omega);simpa [List.append_assoc] using h,by rw [HTK.out,List.any_append,HALL.out];simp [HBB.out],HT2.out⟩,by simp [intOf];omega⟩
 ·go_wp2
  go_ret
  exact⟨(k:Int),R++R2,rfl,by unfold apL;rw [List.any_eq_true.2 ⟨uw,HMEM.out,HBB.out⟩];simp,by have h:=HJ2.out.mono (d:=c+64*N) (by omega);simpa [List.append_assoc] using h,HT2.out⟩
theorem S7{w:World}(hE:Ext w0 w){P Q T:Nat}(hB:H7 w lo n lc K O P Q T s1 s2 t1 t2){OS:List (List UInt8)} {c:Nat} (hJ:JAt Tryz.prog 9 3 (ps.map (·.1)) w K O OS c) (hc:c<=800000) {ao:Option Addr} {N cap:Nat} {us:List Wd} (hu:Vo w0 (.slice ao N cap) us) (hN:us.length=N) (hN32:N<=32) (hlw:∀ uw∈us,Zz (ps.map (·.1)) uw=0) :
  Calls Tryz.prog 81 #[.slice ao N cap,.func (.func 94) #[] #[.pointer (some ⟨P,0,none⟩),.pointer (some ⟨Q,0,none⟩),.pointer (some ⟨T,0,none⟩)]] w (ApR Tryz.prog 9 3 (ps.map (·.1)) w K O OS (c+64*N) (apL (ps.map (·.1)) us (s1,s2) (t1,t2))):=by
 have HI:=Zh (Q1p hl hn hT hK hO hKO hs ht hsv htv hst hE hB hJ hc hu hN hN32 hlw (cap:=cap))
 clear hl hn hT hE hK hO hKO hJ hs ht hsv htv hst hB hlw hu hN
 go_enter Tryz.func81,Tryz.ntmps81
 go_wp2_with fail
 refine HI.out.mono ?_
 rintro e w2 ⟨z,R,rfl,hz,hJ2,hT2⟩
 have HZ:=Zh hz;have HJ2:=Zh hJ2;have HT2:=Zh hT2
 clear hz hJ2 hT2 HI
 go_wp2
 go_ret
 exact⟨R,by rw [<-HZ.out];rfl,HJ2.out,HT2.out⟩
end
attribute [local go_sem high] Wa
theorem Q77{ls:List Q5}{us:List Wd}{ss:Wd}(h:J3 ls us ss≠0):W8 ls us ss=[]:=if_neg h
theorem W9{w:World}{base g n i:Nat}{xs:List Value}(b:w.ownsRow base 3 1 (.slice (some ⟨g,0,none⟩) n n) n xs) (d:i<n) {x:Value} (c:xs[i]?=some x):w.cell? ⟨g,i,none⟩=some x/\w.frozen? ⟨g,i,none⟩=false:=by
 have a:=b.cellAt i oz;rw [c] at a;exact⟨a,b.frozenAt i⟩
theorem Ht{xs:List Value}{i:Nat}(h:i<xs.length):xs[i]?=some (xs.getD i undef):=by
 rw [List.getD_eq_getElem?_getD,List.getElem?_eq_getElem h];rfl
theorem Ef{ss:Wd}{i k:Nat}(h:ss.Nodup)(b:i<ss.length)(c:k<i):ss.getD i (0,0)≠ss.getD k (0,0):=by
 intro a;rw [List.getD_eq_getElem?_getD,List.getD_eq_getElem?_getD,List.getElem?_eq_getElem b,List.getElem?_eq_getElem oz] at a;exact(List.pairwise_iff_getElem.1 h k i oz b c) (by simpa using a.symm)
theorem Q1s{ss:Wd}{m:Nat}(h:Yp ss m=0):ss.Nodup/\ss.length<=m/\∀ s∈ss,okS s=true:=by
 unfold Yp at h
 split at h
 ·cases h
 ·split at h
  ·rename_i c a
   split at h
   ·rename_i b;exact⟨b,by omega,fun s hs=>List.all_eq_true.1 a s hs⟩
   ·cases h
  ·cases h
theorem Uc{w:World}{ps:Zw}{lo:Option Addr}{n lc:Nat}(q1:Z9 w (.slice lo n lc) ps) (q4:ps.length=n) {uo:Option Addr} {N uc:Nat} {us:List Wd} (I:Vo w (.slice uo N uc) us) (c0:us.length=N) {j5:Option Addr} {M V:Nat} {ss:Wd} (a8:Q4 w (.slice j5 M V) ss) (i4:ss.length=M) (x3:M<=V) (o3:Tab w) :
  Calls Tryz.prog 50 #[.slice lo n lc,.slice uo N uc,.slice j5 M V] w fun e w'=>∃ vo vc,e=.returned (.tuple #[.slice vo (W8 (ps.map (·.1)) us ss).length vc,.int .i64 (J3 (ps.map (·.1)) us ss)])/\w'.ownsRow w.heap.size 3 1 (.slice vo (W8 (ps.map (·.1)) us ss).length vc) (W8 (ps.map (·.1)) us ss).length (Y2 (W8 (ps.map (·.1)) us ss))/\Ext w w':=by
 have D0:N<=maxLen:=by obtain⟨F1,F,_⟩:=I;rw [<-c0];exact F.2.1
 have C9:M<=maxLen:=by rw [<-i4];exact a8.1.2.1
 unfold maxLen at D0 C9;have F:=Gs q1 q4 o3;have Z:=fun(r:World) (a0:Ext w r)=>Pw 16 (a8.ext a0) i4 x3;have p4:=fun {r:World} {f O:Nat} (a0:Ext w r) (e1:w.heap.size<=f) (b1:w.heap.size<=O) (hKO:f≠O) {P Q T:Nat} {y A G H:Nat} (l1:Qe (y,A)) (e2:Qe (G,H)) (hav:okS (y,A)=true) (hbv:okS (G,H)=true) (l2:(y,A)≠(G,H)) (hB:H7 r lo n lc f O P Q T y A G H) {K:List (List UInt8)} {W:Nat} (e0:JAt Tryz.prog 9 3 (ps.map (·.1)) r f O K W) (l3:W<=800000) (o1:N<=32) (l8:∀ uw∈us,Zz (ps.map (·.1)) uw=0)=>S7 q1 q4 o3 e1 b1 hKO l1 e2 hav hbv l2 a0 hB e0 l3 I c0 o1 l8;obtain⟨l,o0⟩:=zE (ps.map (·.1));rw [o0] at F ⊢;simp only [o0] at p4;have q8:Zd l≠0->J3 l us ss=Zd l:=fun h=>by unfold J3;rw [if_neg h]
 have q9:Zd l=0->32<N->J3 l us ss=12:=fun h Z=>by unfold J3;rw [if_pos h,c0,if_pos Z]
 have e8:Zd l=0->¬ 32<N->Kv us≠0->J3 l us ss=Kv us:=fun h Z i0=>by unfold J3;rw [if_pos h,c0,if_neg Z,if_neg i0]
 have c3:Zd l=0->¬ 32<N->Kv us=0->J3 l us ss=Yp ss 16:=fun h Z i0=>by unfold J3;rw [if_pos h,c0,if_neg Z,if_pos i0]
 have q6:=@Q77 l us ss;obtain⟨q,o7⟩:∃ q:Nat->Nat->Bool,(fun i k=>apL l us (ss.getD i (0,0)) (ss.getD k (0,0)))=q:=⟨_,rfl⟩;have z9:Hid (∀ i k,q i k=apL l us (ss.getD i (0,0)) (ss.getD k (0,0))):=Zh fun i k=>by rw [<-o7]
 have c4:J3 l us ss=0->W8 l us ss=Vy q M:=fun h=>by unfold W8;rw [if_pos h,i4,o7]
 clear o7
 have g3:Zd l=0->Kv us=0->∀ uw∈us,Zz l uw=0:=fun h Z uw hm=>by
  unfold Zz;rw [if_pos h];exact Nw Z _ (List.mem_map.2 ⟨uw,hm,rfl⟩)
 have r0:=@Q1s ss 16;obtain⟨r2,k4⟩:=zE (Zd l);obtain⟨F2,b5⟩:=zE (Yp ss 16);obtain⟨z8,k6⟩:=zE (Kv us);obtain⟨v3,k9⟩:=zE (J3 l us ss);obtain⟨F3,o2⟩:=zE (W8 l us ss);rw [k4] at F;simp only [b5] at Z r0;rw [k4,k9] at q8 q9 e8 c3;rw [k6] at e8 c3;rw [b5] at c3;rw [k4,k6] at g3;rw [k9,o2] at q6 c4;rw [k9,o2];have z2:(us.map wE).length=N:=by rw [List.length_map,c0]
 have z1:Z5 (us.map wE)=z8:=k6;have r3:=Zh F;have r4:=Zh Z;have A4:Hid (∀ {r:World} {f O:Nat},Ext w r->w.heap.size<=f->w.heap.size<=O->f≠O->∀ {P Q T:Nat} {y A G H:Nat},Qe (y,A)->Qe (G,H)->okS (y,A)=true->okS (G,H)=true->(y,A)≠(G,H)->H7 r lo n lc f O P Q T y A G H->∀ {K:List (List UInt8)} {W:Nat},JAt Tryz.prog 9 3 l r f O K W->W<=800000->N<=32->(∀ uw∈us,Zz l uw=0)->Calls Tryz.prog 81 #[.slice uo N uc,.func (.func 94) #[] #[.pointer (some ⟨P,0,none⟩),.pointer (some ⟨Q,0,none⟩),.pointer (some ⟨T,0,none⟩)]] r (ApR Tryz.prog 9 3 l r f O K (W+64*N) (apL l us (y,A) (G,H)))):=Zh p4;obtain⟨u7,u8,u9,v1,g7,b9,t1,t8⟩:=Zh8 q8 q9 e8 c3 q6 c4 g3 r0;obtain⟨B9,t4,g8,m2,A3,u4,m4⟩:=Zh7 I c0 a8 i4 x3 z2 z1;clear q1 q4 I c0 a8 i4 o3 F Z p4 q8 q9 e8 c3 q6 c4 g3 r0 k4 b5 k6 k9 o2 o0 z2 z1;go_enter Tryz.func50,Tryz.ntmps50;go_wp2_with fail;refine r3.out.mono ?_;rintro e H1 ⟨rfl,b4⟩;have C:=Zh b4;clear r3 b4;by_cases t:r2=0;case neg=>
  have g4:(r2 != 0)=true:=by simpa using t
  have a7:=u7.out t;subst a7;have e9:=g7.out t;subst e9;go_wp2;refine bodyPost_ret (Qi rfl _ _ _) rfl ⟨_,_,rfl,World.ownsRow_nil _ _ _ _,C.out⟩
 subst t;by_cases p0:32<N
 ·have F:(N:Int) > 32:=by omega
  have a7:=u8.out uz p0;subst a7;have e9:=g7.out zd;subst e9;go_wp2;refine bodyPost_ret (Qi rfl _ _ _) rfl ⟨_,_,rfl,World.ownsRow_nil _ _ _ _,C.out⟩
 have F:¬ (N:Int) > 32:=by omega
 have e8:=u9.out uz p0;have c3:=v1.out uz p0;have g3:=t1.out uz;obtain⟨v0,v2,t2⟩:=Zh3 e8 c3 g3;clear u7 u8 u9 v1 t1 e8 c3 g3;go_wp2;clear F
 refine wp_loop (fun a m5=>∃(k:Nat),k<=N/\a.defers=[]/\(a.tmps.size=119/\a.tmps.getD 0 undef=.slice lo n lc/\a.tmps.getD 1 undef=.slice uo N uc/\a.tmps.getD 2 undef=.slice j5 M V/\a.tmps.getD 31 undef=.slice uo N uc/\a.tmps.getD 32 undef=.int .i64 N/\a.tmps.getD 33 undef=.int .i64 k)/\Z5 ((us.map wE).take k)=0/\Ext w m5)
  (fun a _=>N - (intOf (a.tmps.getD 33 undef)).toNat) ?_ ?_
 ·exact⟨0,by omega,rfl,⟨rfl,rfl,rfl,rfl,rfl,rfl,rfl⟩,rfl,C.out⟩
 clear C;rintro⟨f4,_⟩ m5 ⟨k,y0,e5,⟨a9,m8,S,U,n1,n2,n3⟩,i8,a0⟩;subst e5;obtain⟨f5,I⟩:=Z8 a9;obtain⟨c,rfl⟩:∃ o,o=f5:=⟨_,rfl⟩;have f1:f4=#[c 0,c 1,c 2,c 3,c 4,c 5,c 6,c 7,c 8,c 9,c 10,c 11,c 12,c 13,c 14,c 15,c 16,c 17,c 18,c 19,c 20,c 21,c 22,c 23,c 24,c 25,c 26,c 27,c 28,c 29,c 30,c 31,c 32,c 33,c 34,c 35,c 36,c 37,c 38,c 39,c 40,c 41,c 42,c 43,c 44,c 45,c 46,c 47,c 48,c 49,c 50,c 51,c 52,c 53,c 54,c 55,c 56,c 57,c 58,c 59,c 60,c 61,c 62,c 63,c 64,c 65,c 66,c 67,c 68,c 69,c 70,c 71,c 72,c 73,c 74,c 75,c 76,c 77,c 78,c 79,c 80,c 81,c 82,c 83,c 84,c 85,c 86,c 87,c 88,c 89,c 90,c 91,c 92,c 93,c 94,c 95,c 96,c 97,c 98,c 99,c 100,c 101,c 102,c 103,c 104,c 105,c 106,c 107,c 108,c 109,c 110,c 111,c 112,c 113,c 114,c 115,c 116,c 117,c 118]:=I;clear I;subst f1;change c 0=_ at m8;change c 1=_ at S;change c 2=_ at U;change c 31=_ at n1;change c 32=_ at n2;change c 33=_ at n3;rw [m8,S,U,n1,n2,n3];clear m8 S U n1 n2 n3 a9;have j7:=Zh i8;have B:=Zh a0;clear i8 a0;by_cases q0:k<N;case pos=>
  have F:(k:Int)<(N:Int):=by omega
  have C7:(0:Int)<=(k:Int):=by omega
  have y1:k<us.length:=by rw [t4.out];exact q0
  have p9:k<(us.map wE).length:=by rw [u4.out];exact q0
  obtain⟨F1,a7,z3⟩:=B9.out;rw [t4.out] at a7;obtain⟨m,G9,F7,g5,j0,p3⟩:=Zq (a7.ext B.out) q0;simp only [zV,true_and] at g5;obtain⟨rfl,rfl⟩:=g5;obtain⟨H6,H4,z0,z4⟩:=Mt z3 y1;rw [z0] at p3;have l5:=Ve (z4.ext B.out);have l6:=Kh p9 j7.out;have i9:=Km p9 j7.out;rw [List.getElem_map] at l6 i9;rw [m4.out] at i9;obtain⟨o,l9⟩:=zE (wE us[k]);rw [l9] at l5 l6 i9;obtain⟨H5,z6⟩:=zE (us[k].length);rw [z6] at p3 l5;obtain⟨r9,A6,A5⟩:=Zh3 l5 l6 i9;clear l5 l6 i9 a7 z3 z0 z4 l9 z6 j0 y1 p9;go_wp2_with fail;refine r9.out.mono ?_;rintro e F4 ⟨rfl,b4⟩;have C:=Zh (B.out.trans b4);clear r9 b4 p3 B;by_cases t:o=0;case neg=>
   have g4:(o != 0)=true:=by simpa using t
   have E9:=A5.out t;subst E9;have a7:=v0.out t;subst a7;have e9:=g7.out t;subst e9;go_wp2;refine bodyPost_ret (Qi rfl _ _ _) rfl ⟨_,_,rfl,World.ownsRow_nil _ _ _ _,C.out⟩
  subst t;go_wp2;exact⟨⟨k+1,by omega,by first | trivial | rfl,⟨rfl,rfl,rfl,rfl,rfl,rfl,rfl⟩,A6.out,C.out⟩,nz⟩
 obtain rfl:k=N:=by omega
 have F:¬ (k:Int)<(k:Int):=by omega
 have i8:=j7.out;rw [List.take_of_length_le (by rw [u4.out];exact Nat.le_refl _),m4.out] at i8;subst i8;have a7:=v2.out uz;subst a7;have l8:=t2.out uz;have B1:=Zh l8;clear v0 v2 t2 l8 j7 m4;go_wp2_with fail;refine(r4.out m5 B.out).mono ?_;rintro e J ⟨rfl,b5⟩;have c6:=Zh (B.out.trans b5);clear r4 b5 B F;by_cases t:v3=0;case neg=>
  have g4:(v3 != 0)=true:=by simpa using t
  have e9:=g7.out t;subst e9;go_wp2;refine bodyPost_ret (Qi rfl _ _ _) rfl ⟨_,_,rfl,World.ownsRow_nil _ _ _ _,c6.out⟩
 subst t;have F0:=b9.out uz;subst F0;obtain⟨y5,C8,b2⟩:=t8.out uz;rw [m2.out] at C8;have B2:=Zh y5;have t7:=Zh b2;clear y5 b2 b9 t8 g7;obtain⟨b3,x0⟩:=zE w.heap.size;have f8:=Zh x0;have D2:b3<=J.heap.size:=by have:=c6.out.size;omega
 clear x0;have E2:(Instr.makeMap 100 none).run Tryz.prog J=.ok (.map (some J.heap.size)) (J.alloc (.map #[] 0)):=rfl;have E3:(Instr.makeMap 100 none).run Tryz.prog (J.alloc (.map #[] 0))=.ok (.map (some (J.alloc (.map #[] 0)).heap.size)) ((J.alloc (.map #[] 0)).alloc (.map #[] 0)):=rfl;obtain⟨f,e1⟩:=zE J.heap.size;have E7:(J.alloc (.map #[] 0)).heap.size=f+1:=by simp [e1]
 have y2:Zb Tryz.prog 9 3 (J.alloc (.map #[] 0)) f 0 (fun _=>none) 0:=Zb.made rfl e1;have y3:Zb Tryz.prog 9 3 ((J.alloc (.map #[] 0)).alloc (.map #[] 0)) (f+1) 0 (fun _=>none) 0:=Zb.made rfl E7;obtain⟨c5,f2⟩:=zE (((J.alloc (.map #[] 0)).alloc (.map #[] 0)).alloc (.cells #[.slice lo n lc,.map (some f),.map (some (f+1))] 125));have w0:Ext J c5:=by rw [<-f2];exact(((Q0.refl _ J).alloc _).alloc _).alloc _
 have x7:c5.heap[f+2]?=some (.cells #[.slice lo n lc,.map (some f),.map (some (f+1))] 125 (0,0)):=by rw [<-f2];exact new_at (by simp [e1])
 have j2:JAt Tryz.prog 9 3 l c5 f (f+1) [] 0:=by
  have C5:Ext (J.alloc (.map #[] 0)) c5:=by rw [<-f2];exact((Q0.refl _ _).alloc _).alloc _
  have C6:Ext ((J.alloc (.map #[] 0)).alloc (.map #[] 0)) c5:=by rw [<-f2];exact(Q0.refl _ _).alloc _
  exact⟨_,_,0,y2.keep C5 id,y3.keep C6 id,JOk.start l,Nat.le_refl _⟩
 have y8:c5.heap.size=f+3:=by rw [<-f2];simp [e1]
 obtain⟨u3,A9,a1,j8,j6,m3⟩:=Zh6 f2 e1 x7 j2 (c6.out.trans w0) y8;have G3:b3<=f:=by omega
 clear f2 y2 y3 w0 x7 j2 y8 c6;go_upto_region 17 with (fail)
 rw [show f+1+1=f+2 from rfl,u3.out];clear E2 E3 u3;have x1:b3<=c5.heap.size:=by rw [m3.out];omega
 go_wp2_with (at_make;refine Jg rfl (.tmp 53) (.tmp 53) 36 rfl b3 3 _ 8 Tryz.underlying36 Tryz.infoD rfl .i64 .i64 M M M rfl rfl rfl rfl ?c1 ?c2 x1 ?_)
 case c1=>omega
 case c2=>unfold maxLen;omega
 intro H2 k8 k5;rw [<-Cq M] at k8;obtain⟨m,j0⟩:=zE c5.heap.size;rw [j0] at k8 ⊢;have x5:m=f+3:=by rw [<-j0];exact m3.out
 obtain⟨t6,s2,s5,s8,c7⟩:=Zh5 k8 (j6.out.trans k5) (j8.out.keep k5 id id) (k5.keep a1.out) x5;clear k8 k5 j0 x1 j6 j8 a1 m3 A9 D2 x5;go_wp2
 refine wp_loop (fun a r=>∃(i:Nat) (K:List (List UInt8)),i<=M/\a.defers=[]/\(a.tmps.size=119/\a.tmps.getD 1 undef=.slice uo k uc/\a.tmps.getD 2 undef=.slice j5 M V/\a.tmps.getD 13 undef=.pointer (some ⟨f+2,0,none⟩)/\a.tmps.getD 14 undef=.slice (some ⟨m,0,none⟩) M M/\a.tmps.getD 55 undef=.slice j5 M V/\a.tmps.getD 56 undef=.int .i64 M/\a.tmps.getD 57 undef=.int .i64 i)/\r.ownsRow b3 3 1 (.slice (some ⟨m,0,none⟩) M M) M (Y6 M (Vy q i))/\JAt Tryz.prog 9 3 l r f (f+1) K (i*32768)/\r.heap[f+2]?=some (.cells #[.slice lo n lc,.map (some f),.map (some (f+1))] 125 (0,0))/\Ext w r)
  (fun a _=>M - (intOf (a.tmps.getD 57 undef)).toNat) ?_ ?_
 ·exact⟨0,[],by omega,rfl,⟨rfl,rfl,rfl,rfl,rfl,rfl,rfl,rfl⟩,t6.out,s5.out,s8.out,s2.out⟩
 clear t6 s5 s8 s2;rintro⟨f4,_⟩ r ⟨i,K,G5,e5,⟨a9,S,U,a2,a3,a4,a5,a6⟩,b1,e0,i1,a0⟩;subst e5;obtain⟨f5,I⟩:=Z8 a9;obtain⟨c,rfl⟩:∃ o,o=f5:=⟨_,rfl⟩;have f1:f4=#[c 0,c 1,c 2,c 3,c 4,c 5,c 6,c 7,c 8,c 9,c 10,c 11,c 12,c 13,c 14,c 15,c 16,c 17,c 18,c 19,c 20,c 21,c 22,c 23,c 24,c 25,c 26,c 27,c 28,c 29,c 30,c 31,c 32,c 33,c 34,c 35,c 36,c 37,c 38,c 39,c 40,c 41,c 42,c 43,c 44,c 45,c 46,c 47,c 48,c 49,c 50,c 51,c 52,c 53,c 54,c 55,c 56,c 57,c 58,c 59,c 60,c 61,c 62,c 63,c 64,c 65,c 66,c 67,c 68,c 69,c 70,c 71,c 72,c 73,c 74,c 75,c 76,c 77,c 78,c 79,c 80,c 81,c 82,c 83,c 84,c 85,c 86,c 87,c 88,c 89,c 90,c 91,c 92,c 93,c 94,c 95,c 96,c 97,c 98,c 99,c 100,c 101,c 102,c 103,c 104,c 105,c 106,c 107,c 108,c 109,c 110,c 111,c 112,c 113,c 114,c 115,c 116,c 117,c 118]:=I;clear I;subst f1;change c 1=_ at S;change c 2=_ at U;change c 13=_ at a2;change c 14=_ at a3;change c 55=_ at a4;change c 56=_ at a5;change c 57=_ at a6;rw [S,U,a2,a3,a4,a5,a6];clear S U a2 a3 a4 a5 a6 a9;obtain⟨u,c8,a1,B⟩:=Zh4 b1 e0 i1 a0;clear b1 e0 i1 a0;by_cases g1:i<M;case neg=>
  obtain rfl:i=M:=by omega
  have F:¬ (i:Int)<(i:Int):=by omega
  have g:=u.out;rw [Q0e (V0 q i)] at g;have X:=Zh g;clear g u c8 a1;go_wp2;refine bodyPost_ret (Qi rfl _ _ _) rfl ⟨some ⟨m,0,none⟩,i,by rw [V0];rfl,by rw [V0,f8.out];exact X.out,B.out⟩
 have F:(i:Int)<(M:Int):=by omega
 have C7:(0:Int)<=(i:Int):=by omega
 have j1:i<ss.length:=by rw [m2.out];exact g1
 obtain⟨d9,f3,F8,g5,p7,e3,e4⟩:=(g8.out.ext B.out).at j1;simp only [zV] at g5;obtain⟨rfl,t,rfl⟩:=g5;clear t;have e6:ss.getD i (0,0)=ss[i]:=by rw [List.getD_eq_getElem?_getD,List.getElem?_eq_getElem j1];rfl
 have b2:okS (ss.getD i (0,0))=true:=by rw [e6];exact t7.out _ (List.getElem_mem j1)
 have e7:Qe (ss.getD i (0,0)):=by rw [e6];exact g8.out.2 _ (List.getElem_mem j1)
 have o8:∀ k,q i k=apL l us (ss.getD i (0,0)) (ss.getD k (0,0)):=z9.out i;have q5:∀ k,k<i->ss.getD i (0,0)≠ss.getD k (0,0):=fun k y0=>Ef B2.out j1 y0;obtain⟨⟨y,A⟩,a8⟩:=zE (ss.getD i (0,0));rw [a8] at e3 e4 b2 e7;simp only [a8] at o8 q5;dsimp only at e3 e4;have A0:=Zh o8;have B4:=Zh q5;have B6:Hid (okS (y,A)=true):=Zh b2;have B5:Hid (Qe (y,A)):=Zh e7;clear e6 b2 e7 o8 q5 a8 p7;obtain⟨d2,i6⟩:=zE (r.alloc (.cells #[.int .u32 (y:Int),.int .u32 (A:Int)] 26));obtain⟨b0,i7⟩:=zE r.heap.size;have Y:Ext r d2:=by rw [<-i6];exact(Q0.refl _ _).alloc _
 have v5:d2.heap[b0]?=some (.cells #[.int .u32 (y:Int),.int .u32 (A:Int)] 26 (0,0)):=by rw [<-i6];exact new_at i7.symm
 have x6:m<b0:=by rw [<-i7];exact(u.out.lt m rfl).2
 have b6:=Qb u.out Y;have b7:(Y6 M (Vy q i)).length=M:=Di (by rw [V0];omega);obtain⟨c1,c2⟩:=W9 b6 g1 (Ht (by rw [b7];exact g1));obtain⟨H3,z5⟩:=zE ((Y6 M (Vy q i)).getD i undef);rw [z5] at c1;have f0:=Yc b6 i (.int .i64 (i:Int));rw [Cu (V0 q i) g1,<-Wv q i] at f0;have g0:=Q0.set1 d2 m i (.int .i64 (i:Int));have k7:=(show f≠m/\f+1≠m/\f+2≠m by have:=c7.out;omega);have n8:=(c8.out.keep Y id id).keep g0 k7.1 k7.2.1;have n9:=g0.heap (Y.keep a1.out) k7.2.2;have p1:=g0.heap v5 oz;have b4:Ext w (d2.setCell ⟨m,i,none⟩ (.int .i64 (i:Int))):=(B.out.trans Y).after g0 (fun b e2 e=>by have:=f8.out;have:=c7.out;omega);have E6:=g0.size;have E8:d2.heap.size=b0+1:=by rw [<-i6];simp [i7]
 have o5:b0+1<=(d2.setCell ⟨m,i,none⟩ (.int .i64 (i:Int))).heap.size:=by omega
 obtain⟨C4,o4⟩:=zE (d2.setCell ⟨m,i,none⟩ (.int .i64 (i:Int)));rw [o4] at f0 n8 n9 p1 b4 o5;obtain⟨u1,C1,u2,X,c9,b8,f6,C⟩:=Zh8 i6 i7 o4 f0 n8 n9 p1 b4;have m1:=Zh x6;have C2:=Zh o5;clear i6 i7 o4 Y v5 b6 b7 z5 f0 g0 n8 n9 p1 b4 E6 u c8 a1 B x6 o5 k7 E8;go_upto_region 21 with (fail)
 rw [C1.out,u1.out];clear u1 e3 e4;go_upto_region 22 with (fail)
 rw [u2.out];clear u2 c1 c2;have D9:(i:Int)<=(V:Int):=by have:=A3.out;omega
 go_wp2;have D1:Q4 C4 (.slice (some ⟨d9,f3,none⟩) M V) ss:=g8.out.ext C.out;clear D9 F
 refine wp_loop (fun a R=>∃(k':Nat) (K:List (List UInt8)),k'<=i/\a.defers=[]/\(a.tmps.size=119/\a.tmps.getD 1 undef=.slice uo k uc/\a.tmps.getD 2 undef=.slice (some ⟨d9,f3,none⟩) M V/\a.tmps.getD 13 undef=.pointer (some ⟨f+2,0,none⟩)/\a.tmps.getD 14 undef=.slice (some ⟨m,0,none⟩) M M/\a.tmps.getD 15 undef=.int .i64 i/\a.tmps.getD 16 undef=.pointer (some ⟨b0,0,none⟩)/\a.tmps.getD 55 undef=.slice (some ⟨d9,f3,none⟩) M V/\a.tmps.getD 56 undef=.int .i64 M/\a.tmps.getD 57 undef=.int .i64 i/\a.tmps.getD 68 undef=.slice (some ⟨d9,f3,none⟩) i V/\a.tmps.getD 69 undef=.int .i64 i/\a.tmps.getD 70 undef=.int .i64 k')/\R.ownsRow b3 3 1 (.slice (some ⟨m,0,none⟩) M M) M (Y6 M (Ur q i (Vy q i) k'))/\JAt Tryz.prog 9 3 l R f (f+1) K (i*32768+k'*2048)/\R.heap[f+2]?=some (.cells #[.slice lo n lc,.map (some f),.map (some (f+1))] 125 (0,0))/\R.heap[b0]?=some (.cells #[.int .u32 (y:Int),.int .u32 (A:Int)] 26 (0,0))/\Ext w R)
  (fun a _=>i - (intOf (a.tmps.getD 70 undef)).toNat) ?_ ?_
 ·exact⟨0,K,by omega,rfl,⟨rfl,rfl,rfl,rfl,rfl,rfl,rfl,rfl,rfl,rfl,rfl,rfl,rfl⟩,X.out,c9.out,b8.out,f6.out,C.out⟩
 clear X c9 b8 f6 C D1 C2;rintro⟨f4,_⟩ R ⟨j,K,g5,e5,⟨a9,S,U,a2,a3,d4,d5,a4,a5,a6,d6,d7,d8⟩,b1,e0,i1,v8,a0⟩;subst e5;obtain⟨f5,I⟩:=Z8 a9;obtain⟨c,rfl⟩:∃ o,o=f5:=⟨_,rfl⟩;have f1:f4=#[c 0,c 1,c 2,c 3,c 4,c 5,c 6,c 7,c 8,c 9,c 10,c 11,c 12,c 13,c 14,c 15,c 16,c 17,c 18,c 19,c 20,c 21,c 22,c 23,c 24,c 25,c 26,c 27,c 28,c 29,c 30,c 31,c 32,c 33,c 34,c 35,c 36,c 37,c 38,c 39,c 40,c 41,c 42,c 43,c 44,c 45,c 46,c 47,c 48,c 49,c 50,c 51,c 52,c 53,c 54,c 55,c 56,c 57,c 58,c 59,c 60,c 61,c 62,c 63,c 64,c 65,c 66,c 67,c 68,c 69,c 70,c 71,c 72,c 73,c 74,c 75,c 76,c 77,c 78,c 79,c 80,c 81,c 82,c 83,c 84,c 85,c 86,c 87,c 88,c 89,c 90,c 91,c 92,c 93,c 94,c 95,c 96,c 97,c 98,c 99,c 100,c 101,c 102,c 103,c 104,c 105,c 106,c 107,c 108,c 109,c 110,c 111,c 112,c 113,c 114,c 115,c 116,c 117,c 118]:=I;clear I;subst f1;change c 1=_ at S;change c 2=_ at U;change c 13=_ at a2;change c 14=_ at a3;change c 15=_ at d4;change c 16=_ at d5;change c 55=_ at a4;change c 56=_ at a5;change c 57=_ at a6;change c 68=_ at d6;change c 69=_ at d7;change c 70=_ at d8;rw [S,U,a2,a3,d4,d5,a4,a5,a6,d6,d7,d8];clear S U a2 a3 d4 d5 a4 a5 a6 d6 d7 d8 a9;obtain⟨u,c8,a1,f6,B⟩:=Zh5 b1 e0 i1 v8 a0;clear b1 e0 i1 v8 a0;by_cases E5:j<i;case neg=>
  obtain rfl:j=i:=by omega
  have F:¬ (j:Int)<(j:Int):=by omega
  have g:=u.out;rw [<-L0] at g;have X:=Zh g;clear g u;go_wp2;exact⟨⟨j+1,by omega,by simp,X.out,⟨K,c8.out.mono oz⟩,a1.out,B.out⟩,nz⟩
 have F:(j:Int)<(i:Int):=by omega
 have Z:(0:Int)<=(j:Int):=by omega
 have G6:(i:Int)<(M:Int):=by omega
 have G8:(j:Int)<(M:Int):=by omega
 have j3:j<ss.length:=by rw [m2.out];omega
 obtain⟨G0,H0,F9,y6,p7,e3,e4⟩:=(g8.out.ext B.out).at j3;simp only [zV,Option.some.injEq,Addr.mk.injEq,and_true] at y6;obtain⟨⟨rfl,rfl⟩,t,rfl⟩:=y6;clear t;have e6:ss.getD j (0,0)=ss[j]:=by rw [List.getD_eq_getElem?_getD,List.getElem?_eq_getElem j3];rfl
 have b2:okS (ss.getD j (0,0))=true:=by rw [e6];exact t7.out _ (List.getElem_mem j3)
 have e7:Qe (ss.getD j (0,0)):=by rw [e6];exact g8.out.2 _ (List.getElem_mem j3)
 have g4:=B4.out j E5;have o9:=A0.out j;obtain⟨⟨G,H⟩,a8⟩:=zE (ss.getD j (0,0));rw [a8] at e3 e4 b2 e7 g4 o9;dsimp only at e3 e4;have B8:Hid (okS (G,H)=true):=Zh b2;have B7:Hid (Qe (G,H)):=Zh e7;have B3:Hid ((y,A)≠(G,H)):=Zh g4;have A1:=Zh o9;clear e6 b2 e7 g4 o9 a8 p7 j3;obtain⟨f9,l0⟩:=zE (R.alloc (.cells #[.int .u32 (G:Int),.int .u32 (H:Int)] 26));obtain⟨k3,o6⟩:=zE R.heap.size;have Y:Ext R f9:=by rw [<-l0];exact(Q0.refl _ _).alloc _
 have v6:f9.heap[k3]?=some (.cells #[.int .u32 (G:Int),.int .u32 (H:Int)] 26 (0,0)):=by rw [<-l0];exact new_at o6.symm
 obtain⟨L,i3⟩:=zE (Ur q i (Vy q i) j);have w4:L.length=i+1:=by rw [<-i3,Fp,V0]
 have w5:∀ o∈L,o<=i:=by rw [<-i3];exact Mm q i (fun o l9=>En q i o l9) j
 have y7:Ur q i (Vy q i) (j+1)=K2 q i L j:=by rw [Dd,i3]
 have b6:=Qb u.out Y;rw [i3] at b6;have l1:=Do (N:=M) (L:=L) (i:=i) oz;have e2:=Do (N:=M) (L:=L) (i:=j) oz;have l7:∀ p,p<L.length->L.getD p 0<=i:=fun p p8=>by rw [List.getD_eq_getElem?_getD,List.getElem?_eq_getElem p8];exact w5 _ (List.getElem_mem p8)
 have D3:=l7 i oz;have D5:=l7 j oz;have b7:(Y6 M L).length=M:=Di oz;have m6:=(W9 b6 (i:=i) g1 (Ht (by rw [b7];exact g1))).1;have m7:=(W9 b6 (i:=j) oz (Ht (by rw [b7];omega))).1;rw [l1] at m6;rw [e2] at m7;obtain⟨v,q2⟩:=zE (L.getD i 0);obtain⟨x,q3⟩:=zE (L.getD j 0);rw [q2] at m6 D3;rw [q3] at m7 D5;obtain⟨u0,u5,t5,k2,j9,s9,t0,A7⟩:=Zh8 l0 o6 b6 y7 w4 q2 q3 l7;obtain⟨s3,s6,r6,s1,r8⟩:=Zh5 (c8.out.keep Y id id) (Y.keep a1.out) (Y.keep f6.out) (B.out.trans Y) v6;have w3:f+2<k3/\b0<k3:=by
  have F5:=(Array.getElem?_eq_some_iff.1 a1.out).1;have F6:=(Array.getElem?_eq_some_iff.1 f6.out).1;omega
 have B0:=Zh w3;clear l0 o6 Y v6 i3 w4 w5 y7 b6 l1 e2 l7 b7 q2 q3 u c8 a1 f6 B w3;go_upto_region 25 with (fail)
 rw [u5.out,u0.out];clear u0 u5 e3 e4
 go_quiet (fail)
 have d3:Ext f9 (f9.drewN nq):=(Q0.refl _ f9).drewN _;obtain⟨X,c9,b8,g6,C,m0⟩:=Zh6 (Qb t5.out d3) (s3.out.keep d3 id id) (d3.keep s6.out) (d3.keep r6.out) (s1.out.trans d3) (d3.keep r8.out);obtain⟨C3,w9⟩:=zE (f9.drewN nq);rw [w9] at X c9 b8 g6 C m0 ⊢;clear d3 w9 m6 m7 t5 s3 s6 r6 s1 r8;by_cases l2:v=x
 ·have D4:((v:Int) ==(x:Int))=true:=by simp;omega
  have j4:K2 q i L j=L:=Rr (.inr (by rw [s9.out,t0.out];exact l2));have g:=X.out;rw [<-j4,<-k2.out] at g;have f7:=Zh g;clear g j4 l2 X;go_wp2;exact⟨⟨j+1,K,by omega,tz,⟨rfl,rfl,rfl,rfl,rfl,rfl,rfl,rfl,rfl,rfl,rfl,rfl,rfl⟩,f7.out,c9.out.mono oz,b8.out,g6.out,C.out⟩,nz⟩
 have D4:((v:Int) ==(x:Int))=false:=by simp;omega
 have o1:k<=32:=by omega
 have x9:H7 C3 lo n lc f (f+1) (f+2) b0 k3 y A G H:=⟨b8.out,g6.out,m0.out,by have:=B0.out;have:=m1.out;have:=c7.out;omega⟩;have p5:=A4.out C.out (by have:=f8.out;omega) (by have:=f8.out;omega) oz B5.out B7.out B6.out B8.out B3.out x9 c9.out oz o1 B1.out;rw [<-A1.out] at p5;have s0:=Zh p5;clear x9 p5;go_wp2_with fail;refine s0.out.mono ?_;rintro e v4 ⟨u6,rfl,w1,i5⟩;have w6:=Qd X.out i5 (fun z t e=>by simp only [Value.ownBlock,Option.some.injEq] at t;have:=c7.out;omega);have w2:=i5.heap b8.out oz;have v9:=i5.heap g6.out (by have:=m1.out;have:=c7.out;omega);have b5:Ext w v4:=C.out.after i5 (fun b e2 e=>by have:=f8.out;omega);obtain⟨z7,n7⟩:=zE (q i j);rw [n7];obtain⟨r5,f7,s4,s7,r7,c6⟩:=Zh6 n7 w6 (w1.mono (d:=i*32768+(j+1)*2048) oz) w2 v9 b5;clear n7 w6 w1 w2 v9 b5 i5 s0 X c9 b8 g6 C m0;cases z7;case true=>
  have j4:K2 q i L j=L:=Rr (.inl r5.out);have g:=f7.out;rw [<-j4,<-k2.out] at g;have k1:=Zh g;clear g j4 f7;go_wp2;exact⟨⟨j+1,K++u6,by omega,tz,⟨rfl,rfl,rfl,rfl,rfl,rfl,rfl,rfl,rfl,rfl,rfl,rfl,rfl⟩,k1.out,s4.out,s7.out,r7.out,c6.out⟩,nz⟩
 have y9:K2 q i L j=Ub L v x:=by rw [Q67 r5.out,s9.out,t0.out]
 have g:=f7.out;rw [<-Q0c L v x] at g;have C0:=Zh (k2.out.trans y9);have k1:=Zh g;have E0:(i:Int)+1<=(M:Int):=by omega
 have E1:(0:Int)<=(i:Int)+1:=by omega
 obtain⟨r1,y4⟩:=zE (min v x);have t3:=Zh y4;clear g y9 f7 k2 y4;go_wp2;clear E0 E1
 refine wp_loop (fun a R=>∃(p:Nat),p<=i+1/\a.defers=[]/\(a.tmps.size=119/\a.tmps.getD 1 undef=.slice uo k uc/\a.tmps.getD 2 undef=.slice (some ⟨d9,f3,none⟩) M V/\a.tmps.getD 13 undef=.pointer (some ⟨f+2,0,none⟩)/\a.tmps.getD 14 undef=.slice (some ⟨m,0,none⟩) M M/\a.tmps.getD 15 undef=.int .i64 i/\a.tmps.getD 16 undef=.pointer (some ⟨b0,0,none⟩)/\a.tmps.getD 19 undef=.int .i64 v/\a.tmps.getD 20 undef=.int .i64 x/\a.tmps.getD 55 undef=.slice (some ⟨d9,f3,none⟩) M V/\a.tmps.getD 56 undef=.int .i64 M/\a.tmps.getD 57 undef=.int .i64 i/\a.tmps.getD 68 undef=.slice (some ⟨d9,f3,none⟩) i V/\a.tmps.getD 69 undef=.int .i64 i/\a.tmps.getD 70 undef=.int .i64 j/\a.tmps.getD 94 undef=.slice (some ⟨m,0,none⟩) (i+1) M/\a.tmps.getD 95 undef=.int .i64 ((i:Int)+1)/\a.tmps.getD 96 undef=.int .i64 p)/\R.ownsRow b3 3 1 (.slice (some ⟨m,0,none⟩) M M) M (Y6 M (X9 L v x p))/\Q0 (fun b=>b=m) v4 R)
  (fun a _=>i+1 - (intOf (a.tmps.getD 96 undef)).toNat) ?_ ?_
 ·exact⟨0,by omega,rfl,⟨rfl,rfl,rfl,rfl,rfl,rfl,rfl,rfl,rfl,rfl,rfl,rfl,rfl,rfl,rfl,by first | rfl | (simp;done) | (simp;omega),by first | rfl | (simp;done) | (simp;omega),rfl⟩,k1.out,Q0.refl _ _⟩
 clear k1;rintro⟨f4,_⟩ R ⟨p,p8,e5,⟨a9,S,U,a2,a3,d4,d5,m9,n0,a4,a5,a6,d6,d7,d8,n4,n5,n6⟩,b1,w7⟩;subst e5;obtain⟨f5,I⟩:=Z8 a9;obtain⟨c,rfl⟩:∃ o,o=f5:=⟨_,rfl⟩;have f1:f4=#[c 0,c 1,c 2,c 3,c 4,c 5,c 6,c 7,c 8,c 9,c 10,c 11,c 12,c 13,c 14,c 15,c 16,c 17,c 18,c 19,c 20,c 21,c 22,c 23,c 24,c 25,c 26,c 27,c 28,c 29,c 30,c 31,c 32,c 33,c 34,c 35,c 36,c 37,c 38,c 39,c 40,c 41,c 42,c 43,c 44,c 45,c 46,c 47,c 48,c 49,c 50,c 51,c 52,c 53,c 54,c 55,c 56,c 57,c 58,c 59,c 60,c 61,c 62,c 63,c 64,c 65,c 66,c 67,c 68,c 69,c 70,c 71,c 72,c 73,c 74,c 75,c 76,c 77,c 78,c 79,c 80,c 81,c 82,c 83,c 84,c 85,c 86,c 87,c 88,c 89,c 90,c 91,c 92,c 93,c 94,c 95,c 96,c 97,c 98,c 99,c 100,c 101,c 102,c 103,c 104,c 105,c 106,c 107,c 108,c 109,c 110,c 111,c 112,c 113,c 114,c 115,c 116,c 117,c 118]:=I;clear I;subst f1;change c 1=_ at S;change c 2=_ at U;change c 13=_ at a2;change c 14=_ at a3;change c 15=_ at d4;change c 16=_ at d5;change c 19=_ at m9;change c 20=_ at n0;change c 55=_ at a4;change c 56=_ at a5;change c 57=_ at a6;change c 68=_ at d6;change c 69=_ at d7;change c 70=_ at d8;change c 94=_ at n4;change c 95=_ at n5;change c 96=_ at n6;rw [S,U,a2,a3,d4,d5,m9,n0,a4,a5,a6,d6,d7,d8,n4,n5,n6];clear S U a2 a3 d4 d5 m9 n0 a4 a5 a6 d6 d7 d8 n4 n5 n6 a9;have u:=Zh b1;have d1:=Zh w7;clear b1 w7;by_cases G7:p<i+1;case neg=>
  obtain rfl:p=i+1:=by omega
  have i0:¬ ((i+1:Nat):Int)<(i:Int)+1:=by omega
  have g:=u.out;rw [Q3q v x (by rw [j9.out];exact Nat.le_refl _),<-C0.out] at g;have i2:f≠m/\f+1≠m/\f+2≠m/\b0≠m:=by have:=c7.out;have:=m1.out;omega
  have j2:=s4.out.keep d1.out i2.1 i2.2.1;have x8:=d1.out.heap s7.out i2.2.2.1;have x2:=d1.out.heap r7.out i2.2.2.2;have x4:Ext w R:=c6.out.after d1.out (fun b e2 e=>by have:=f8.out;have:=c7.out;omega);obtain⟨d0,j8,A8,A2,j6⟩:=Zh5 g j2 x8 x2 x4;clear g i2 j2 x8 x2 x4 u d1;go_wp2;exact⟨⟨j+1,by omega,by simp,d0.out,⟨K++u6,j8.out⟩,A8.out,A2.out,j6.out⟩,nz⟩
 have i0:(p:Int)<(i:Int)+1:=by omega
 have G1:(0:Int)<=(p:Int):=by omega
 have G2:(p:Int)<(M:Int):=by omega
 have g2:p<L.length:=by rw [j9.out];omega
 have p6:=Do (N:=M) (L:=X9 L v x p) (i:=p) (by rw [W7];exact g2);rw [Q3t v x g2] at p6;have b7:(Y6 M (X9 L v x p)).length=M:=Di (by rw [W7,j9.out];omega);obtain⟨v7,G4⟩:=W9 u.out (i:=p) oz (Ht (by rw [b7];omega));rw [p6] at v7;have D8:=A7.out p g2;have c4:=Q3k (N:=M) (a:=v) (b:=x) g2 (by rw [j9.out];omega);have q7:=Q6a (a:=v) (b:=x) g2;obtain⟨W,l3⟩:=zE (L.getD p 0);rw [l3] at v7 D8 c4 q7;rw [t3.out] at c4;have E4:min (v:Int) (x:Int)=(r1:Int):=by have:=t3.out;omega
 have f0:=Yc u.out p (.int .i64 (r1:Int));have w8:=d1.out.trans (Q0.set1 R m p (.int .i64 (r1:Int)));obtain⟨b9,k0,g9,t9⟩:=Zh4 c4 q7 f0 w8;clear c4 q7 f0 w8 p6 b7 l3 g2;by_cases l4:W=v
 ·have D6:((W:Int) ==(v:Int))=true:=by simp;omega
  have g:=g9.out;rw [b9.out (.inl l4)] at g;have d0:=Zh g;clear g l4 u g9 b9 k0;go_wp2;exact⟨⟨p+1,by omega,tz,⟨rfl,rfl,rfl,rfl,rfl,rfl,rfl,rfl,rfl,rfl,rfl,rfl,rfl,rfl,rfl,rfl,rfl,rfl⟩,d0.out,t9.out⟩,nz⟩
 have D6:((W:Int) ==(v:Int))=false:=by simp;omega
 by_cases p2:W=x
 ·have D7:((W:Int) ==(x:Int))=true:=by simp;omega
  have g:=g9.out;rw [b9.out (.inr p2)] at g;have d0:=Zh g;clear g l4 p2 u g9 b9 k0;go_wp2;exact⟨⟨p+1,by omega,tz,⟨rfl,rfl,rfl,rfl,rfl,rfl,rfl,rfl,rfl,rfl,rfl,rfl,rfl,rfl,rfl,rfl,rfl,rfl⟩,d0.out,t9.out⟩,nz⟩
 have D7:((W:Int) ==(x:Int))=false:=by simp;omega
 have g:=u.out;rw [<-k0.out oz] at g;have d0:=Zh g;clear g l4 p2 u g9 b9 k0 E4;go_wp2;exact⟨⟨p+1,by omega,tz,⟨rfl,rfl,rfl,rfl,rfl,rfl,rfl,rfl,rfl,rfl,rfl,rfl,rfl,rfl,rfl,rfl,rfl,rfl⟩,d0.out,d1.out⟩,nz⟩
theorem Q6b{w:World}{A:Option Addr}{n c:Nat}{u:Wd}(h:Rd w (.slice A n c) n 2 (Ql u)) (x:u.length=n) (l:Qw u) {j:Nat} (v:j<=n):Q4 w (.slice A j c) (u.take j):=by
 have a:(u.take j).length=j:=by rw [List.length_take];omega
 refine⟨?_,fun s hs=>l s (List.mem_of_mem_take hs)⟩;obtain⟨r,t,p,q,b,f⟩:=h;simp only [zV,true_and] at b;obtain⟨rfl,rfl⟩:=b;refine⟨Kc _,by rw [a];omega,A,c,by rw [a],fun h0=>?_⟩;obtain⟨e,o,d,i,g⟩:=f oz;refine⟨e,o,d,i,fun k hk=>?_⟩;rw [g k (by rw [a] at hk;omega)]
 congr 1
 have m:Ql u=Ql (u.take j)++Ql (u.drop j):=by rw [<-Xx,List.take_append_drop]
 rw [m,List.getD_eq_getElem?_getD,List.getD_eq_getElem?_getD,List.getElem?_append_left (by rw [Kc];exact hk)]
theorem Q27:Ql U3=Ql (Vp 64 0)++[.int .u32 64,.int .u32 0,.int .u32 128,.int .u32 0]:=by unfold U3;rw [Xx];rfl
theorem R8:U3.length=66:=by decide
theorem Q62:Qw U3:=by unfold Qw;decide +kernel
theorem Bj{W:World}{X n c m sz:Nat}{ao:Option Addr}{xs:List Value}{e:TypeId}(h:W.ownsRow X e sz (.slice ao n c) m xs):n<=c:=by
 obtain⟨_,a⟩:=h;rcases a with ⟨h,_⟩ | ⟨g,d,f,h,_,_,b,_⟩
 ·simp only [zV] at h;omega
 ·simp only [zV] at h;obtain⟨_,rfl,rfl⟩:=h;exact b
theorem Uv{m cap nl want:Nat}{b x:Int}(c:mB m cap=b)(d:(if m<=cap then want else 0)=nl) (f:(cap:Int)+x=m):(decide (x > 0)=true->b=12/\(nl:Int)=0)/\(decide (x > 0)=false->b=0/\(nl:Int)=(want:Int)):=by
 refine⟨fun h=>?_,fun h=>?_⟩
 ·have e:x > 0:=of_decide_eq_true h;have a:¬ m<=cap:=by omega
  rw [<-c,<-d,if_neg a];unfold mB;rw [if_neg a];exact⟨rfl,rfl⟩
 ·have e:¬ x > 0:=of_decide_eq_false h;have a:m<=cap:=by omega
  rw [<-c,<-d,if_pos a];unfold mB;rw [if_pos a];exact⟨rfl,rfl⟩
theorem Rt(m:Nat):Y3 [.int .i64 0] m=Qh (List.replicate m 0):=by
 unfold Y3 Qh
 induction m with
 | zero=>rfl
 | succ m ih=>rw [List.replicate_succ,List.flatten_cons,ih,List.replicate_succ,List.map_cons];rfl
theorem Q6l(m:Nat):List.replicate m (Value.int .i64 0)=Qh (List.replicate m 0):=by unfold Qh;rw [List.map_replicate]
theorem Vb{W:World}{g:Nat}{T:TypeId}{cs:List Value}(h:W.heap[g]?=some (.cells cs.toArray T (0,0))):∀ j u,cs[j]?=some u->W.cell? ((⟨g,0,none⟩:Addr).add j)=some u:=fun j u hj=>by
 have:(⟨g,0,none⟩:Addr).add j=⟨g,j,none⟩:=by unfold Addr.add;split <;> simp_all
 rw [this,cell_of_row W g j _ _ _ h]
 simpa using hj
theorem Px{w:World}{X m c:Nat}{ao:Option Addr}{T:TypeId}{u v:Value}{p q:Wd}(e:w.ownsRow X T 2 (.slice ao m c) m (Y3 [u,v] m)) (b:Qm w u p) (d:Qm w v q):Wr w (.slice ao m c) (List.replicate m ((p,q),[u,v])):=by
 refine⟨?_,fun r hr=>?_⟩
 ·have a:=Rd.of_own e;rw [List.length_replicate,List.flatMap_def,List.map_replicate];exact a
 ·rw [(List.mem_replicate.1 hr).2];exact⟨rfl,u,v,rfl,b,d⟩
theorem Lz{w:World}{u:Value}{p:Wd}(h:Qm w u p):∀ m,Z4 w (List.replicate m u) (List.replicate m p)
 | 0=>trivial
 | m+1=>⟨h,Lz h m⟩
theorem Bx(u:Value):∀ m,(List.replicate m [u]).flatten=List.replicate m u
 | 0=>rfl
 | m+1=>by rw [List.replicate_succ,List.flatten_cons,Bx u m];rfl
theorem Hv{w:World}{X m c:Nat}{ao:Option Addr}{T:TypeId}{u:Value}{p:Wd}(e:w.ownsRow X T 1 (.slice ao m c) m (Y3 [u] m)) (d:Qm w u p):Vo w (.slice ao m c) (List.replicate m p):=by
 refine⟨List.replicate m u,?_,Lz d m⟩;have a:=Rd.of_own e;have b:Y3 [u] m=List.replicate m u:=by
  exact Bx u m
 rw [b] at a;rw [List.length_replicate];exact a
theorem Py(m:Nat):Vz (List.replicate m true) false=false:=by
 unfold Vz
 induction m with
 | zero=>rfl
 | succ m ih=>simp
theorem Ju(w:World):Q4 w (.slice none 0 0) []:=⟨⟨rfl,by simp [maxLen],none,0,rfl,fun h=>by simp at h⟩,by simp [Qw]⟩
theorem Q5h{w:World}{a b:Nat}(_:a<256)(_:b<256)(r6:Tab w) :
  Calls Tryz.prog 13 #[.int .u8 (a:Int),.int .u8 (b:Int)] w fun e w'=>e=.returned (.bool true)/\Ext w w':=by
 have s3:((a:Int).tmod 4)=((a % 4:Nat):Int):=rfl;have s4:((b:Int).tmod 6)=((b % 6:Nat):Int):=rfl;obtain⟨r,o⟩:=zE (a % 4);obtain⟨c1,b7⟩:=zE (b % 6);have y0:r<4:=by omega
 have v9:c1<6:=by omega
 rw [o] at s3;rw [b7] at s4;clear o b7;obtain⟨x,w7⟩:=zE ((r:Int) - 2);have c0:=Zh r6;have x3:=Zh w7;clear r6;go_enter Tryz.func13,Tryz.ntmps13;go_wp2_with fail;refine(Mb w).mono ?_;rintro e c5 ⟨v7,v8,rfl,t1,T⟩;have m6:=Zh t1;have a9:=Zh T;clear t1 T s3;unfold sV;obtain⟨N,i2⟩:=zE c5.heap.size;have s5:((((c5.alloc (.cells #[.int .u32 2,.int .u32 5] 26)).alloc (.cells #[.int .u32 3,.int .u32 4] 26)).alloc (.cells #[.int .u32 5,.int .u32 2] 26)).alloc (.cells #[.string ⟨#[]⟩,.int .i64 0,.int .u32 0,.int .u32 0,.bool false,.int .i64 0,.int .i64 0,.slice none 0 0,.int .i64 0,.int .u32 0,.int .u32 0,.bool false,.int .i64 0,.int .i64 0,.slice none 0 0,.slice none 0 0,.slice none 0 0,.int .i64 0] 50)).heap[N+3]?=some (.cells #[.string ⟨#[]⟩,.int .i64 0,.int .u32 0,.int .u32 0,.bool false,.int .i64 0,.int .i64 0,.slice none 0 0,.int .i64 0,.int .u32 0,.int .u32 0,.bool false,.int .i64 0,.int .i64 0,.slice none 0 0,.slice none 0 0,.slice none 0 0,.int .i64 0] 50 (0,0)):=by rw [<-i2];exact new_at zy
 have q5:((((c5.alloc (.cells #[.int .u32 2,.int .u32 5] 26)).alloc (.cells #[.int .u32 3,.int .u32 4] 26)).alloc (.cells #[.int .u32 5,.int .u32 2] 26)).alloc (.cells #[.string ⟨#[]⟩,.int .i64 0,.int .u32 0,.int .u32 0,.bool false,.int .i64 0,.int .i64 0,.slice none 0 0,.int .i64 0,.int .u32 0,.int .u32 0,.bool false,.int .i64 0,.int .i64 0,.slice none 0 0,.slice none 0 0,.slice none 0 0,.int .i64 0] 50)).heap[N]?=some (.cells #[.int .u32 2,.int .u32 5] 26 (0,0)):=by rw [<-i2];exact Q7 (Q7 (Q7 (new_at rfl)))
 have q6:((((c5.alloc (.cells #[.int .u32 2,.int .u32 5] 26)).alloc (.cells #[.int .u32 3,.int .u32 4] 26)).alloc (.cells #[.int .u32 5,.int .u32 2] 26)).alloc (.cells #[.string ⟨#[]⟩,.int .i64 0,.int .u32 0,.int .u32 0,.bool false,.int .i64 0,.int .i64 0,.slice none 0 0,.int .i64 0,.int .u32 0,.int .u32 0,.bool false,.int .i64 0,.int .i64 0,.slice none 0 0,.slice none 0 0,.slice none 0 0,.int .i64 0] 50)).heap[N+1]?=some (.cells #[.int .u32 3,.int .u32 4] 26 (0,0)):=by rw [<-i2];exact Q7 (Q7 (new_at zy))
 have q7:((((c5.alloc (.cells #[.int .u32 2,.int .u32 5] 26)).alloc (.cells #[.int .u32 3,.int .u32 4] 26)).alloc (.cells #[.int .u32 5,.int .u32 2] 26)).alloc (.cells #[.string ⟨#[]⟩,.int .i64 0,.int .u32 0,.int .u32 0,.bool false,.int .i64 0,.int .i64 0,.slice none 0 0,.int .i64 0,.int .u32 0,.int .u32 0,.bool false,.int .i64 0,.int .i64 0,.slice none 0 0,.slice none 0 0,.slice none 0 0,.int .i64 0] 50)).heap[N+2]?=some (.cells #[.int .u32 5,.int .u32 2] 26 (0,0)):=by rw [<-i2];exact Q7 (new_at zy)
 have q9:Ext c5 ((((c5.alloc (.cells #[.int .u32 2,.int .u32 5] 26)).alloc (.cells #[.int .u32 3,.int .u32 4] 26)).alloc (.cells #[.int .u32 5,.int .u32 2] 26)).alloc (.cells #[.string ⟨#[]⟩,.int .i64 0,.int .u32 0,.int .u32 0,.bool false,.int .i64 0,.int .i64 0,.slice none 0 0,.int .i64 0,.int .u32 0,.int .u32 0,.bool false,.int .i64 0,.int .i64 0,.slice none 0 0,.slice none 0 0,.slice none 0 0,.int .i64 0] 50)):=((((Q0.refl _ c5).alloc _).alloc _).alloc _).alloc _;obtain⟨m1,p0,p1,p2,p7⟩:=Zh5 s5 q5 q6 q7 q9;clear s5 q5 q6 q7 q9;obtain⟨a5,i3⟩:=zE (X3 v7 v8);have e9:(Tryz.prog.info? 50).map (·.size)=some a5.size:=by rw [<-i3];kernel_rfl
 have t5:a5.all (·.oneCell')=true:=by rw [<-i3];kernel_rfl
 have l9:a5.size=18:=by rw [<-i3];rfl
 rw [i3] at m6 ⊢;obtain⟨l3,i0,q1,q3⟩:=Zh4 l9 e9 t5 i3;clear e9 t5 l9 i3;go_upto_region 3 with (refine wpList_store_row rfl 50 (.tmp 9) (.tmp 35) rfl (N+3) a5 zr zr _ _ m1.out i0.out (by rw [l3.out];rfl) q1.out ?_)
 have k4:=Q0.setRow ((((c5.alloc (.cells #[.int .u32 2,.int .u32 5] 26)).alloc (.cells #[.int .u32 3,.int .u32 4] 26)).alloc (.cells #[.int .u32 5,.int .u32 2] 26)).alloc (.cells #[.string ⟨#[]⟩,.int .i64 0,.int .u32 0,.int .u32 0,.bool false,.int .i64 0,.int .i64 0,.slice none 0 0,.int .i64 0,.int .u32 0,.int .u32 0,.bool false,.int .i64 0,.int .i64 0,.slice none 0 0,.slice none 0 0,.slice none 0 0,.int .i64 0] 50)) (N+3) a5;have n3:=setRow_heap _ _ _ a5 _ _ m1.out;have n0:=k4.heap p0.out oz;have n1:=k4.heap p1.out oz;have n2:=k4.heap p2.out oz;have l5:Ext c5 (((((c5.alloc (.cells #[.int .u32 2,.int .u32 5] 26)).alloc (.cells #[.int .u32 3,.int .u32 4] 26)).alloc (.cells #[.int .u32 5,.int .u32 2] 26)).alloc (.cells #[.string ⟨#[]⟩,.int .i64 0,.int .u32 0,.int .u32 0,.bool false,.int .i64 0,.int .i64 0,.slice none 0 0,.int .i64 0,.int .u32 0,.int .u32 0,.bool false,.int .i64 0,.int .i64 0,.slice none 0 0,.slice none 0 0,.slice none 0 0,.int .i64 0] 50)).setRow (N+3) a5):=p7.out.after k4 (fun b h1 h2=>by omega);obtain⟨i1,r8⟩:=zE (((((c5.alloc (.cells #[.int .u32 2,.int .u32 5] 26)).alloc (.cells #[.int .u32 3,.int .u32 4] 26)).alloc (.cells #[.int .u32 5,.int .u32 2] 26)).alloc (.cells #[.string ⟨#[]⟩,.int .i64 0,.int .u32 0,.int .u32 0,.bool false,.int .i64 0,.int .i64 0,.slice none 0 0,.int .i64 0,.int .u32 0,.int .u32 0,.bool false,.int .i64 0,.int .i64 0,.slice none 0 0,.slice none 0 0,.slice none 0 0,.int .i64 0] 50)).setRow (N+3) a5);rw [r8] at n0 n1 n2 n3 l5 ⊢;try simp only [Act.put]
 obtain⟨p3,p4,p5,p6,p8,q0,u6⟩:=Zh7 n0 n1 n2 n3 (a9.out.trans l5) (m6.out.ext l5) i2;clear k4 n0 n1 n2 n3 l5 r8 m1 p0 p1 p2 p7 a9 m6 i2;have l9:=l3.out;go_upto_region 4 with (refine wpList_load_row rfl 50 (.tmp 9) rfl (N+3) rfl _ _ _ _ p6.out Tryz.underlying50 rfl i0.out ?_)
 have s7:Array.foldl (fun cs x=>cs.setIfInBounds x.snd x.fst) #[.string ⟨#[]⟩,.int .i64 0,.int .u32 0,.int .u32 0,.bool false,.int .i64 0,.int .i64 0,.slice none 0 0,.int .i64 0,.int .u32 0,.int .u32 0,.bool false,.int .i64 0,.int .i64 0,.slice none 0 0,.slice none 0 0,.slice none 0 0,.int .i64 0] a5.zipIdx 0 18=a5:=by rw [<-q3.out];kernel_rfl
 rw [s7];clear s7;have l7:(i1.alloc (.cells a5 50)).heap[i1.heap.size]?=some (.cells a5 50 (0,0)):=new_at rfl;have g4:Ext i1 (i1.alloc (.cells a5 50)):=(Q0.refl _ _).alloc _;obtain⟨A,r9⟩:=zE (i1.alloc (.cells a5 50));obtain⟨r0,s8⟩:=zE i1.heap.size;rw [r9] at l7 g4 ⊢;rw [s8] at l7 ⊢;have t2:Z9 A (.slice (some ⟨r0,0,none⟩) 1 1) [(v15,a5.toList)]:=by
  refine⟨Zm (xs:=([(v15,a5.toList)]:Zw).flatMap (·.2)) (by simpa using l7) (by simp [l3.out]) (by unfold maxLen;simp),fun p hp=>?_⟩;rw [List.mem_singleton] at hp;subst hp;exact q0.out.ext g4
 obtain⟨f6,m0,l2,b4,d6⟩:=Zh5 (g4.keep p3.out) (g4.keep p4.out) (g4.keep p5.out) (p8.out.trans g4) t2;clear l7 g4 r9 s8 t2 p3 p4 p5 p6 p8 q0 q3 l3 i0 q1 l9 u6;go_upto_region 9 with (fail)
 rename_i u7 o6 x4 w0
 have t8:∀(a:Act) (b0:World),(∃(e n want:Int) (k9:Bool),a.defers=[]/\(a.tmps.size=228/\a.tmps.getD 6 undef=.pointer (some ⟨N,0,none⟩)/\a.tmps.getD 7 undef=.pointer (some ⟨N+1,0,none⟩)/\a.tmps.getD 10 undef=.slice (some ⟨r0,0,none⟩) 1 1/\a.tmps.getD 11 undef=.int .i64 e/\a.tmps.getD 12 undef=.bool k9/\a.tmps.getD 13 undef=.int .i64 n/\a.tmps.getD 14 undef=.int .i64 want)/\(k9=true->e=12/\n=0)/\(k9=false->e=0/\n=want)/\Ext A b0)->u7 a b0:=by
  rintro⟨x1,_⟩ b0 ⟨e,n,want,k9,w2,⟨e9,o1,o2,n6,n7,n8,n9,o0⟩,i5,o9,r1⟩;subst w2;obtain⟨x2,E⟩:=Z8 e9;obtain⟨f,rfl⟩:∃ x,x=x2:=⟨_,rfl⟩;have w5:x1=#[f 0,f 1,f 2,f 3,f 4,f 5,f 6,f 7,f 8,f 9,f 10,f 11,f 12,f 13,f 14,f 15,f 16,f 17,f 18,f 19,f 20,f 21,f 22,f 23,f 24,f 25,f 26,f 27,f 28,f 29,f 30,f 31,f 32,f 33,f 34,f 35,f 36,f 37,f 38,f 39,f 40,f 41,f 42,f 43,f 44,f 45,f 46,f 47,f 48,f 49,f 50,f 51,f 52,f 53,f 54,f 55,f 56,f 57,f 58,f 59,f 60,f 61,f 62,f 63,f 64,f 65,f 66,f 67,f 68,f 69,f 70,f 71,f 72,f 73,f 74,f 75,f 76,f 77,f 78,f 79,f 80,f 81,f 82,f 83,f 84,f 85,f 86,f 87,f 88,f 89,f 90,f 91,f 92,f 93,f 94,f 95,f 96,f 97,f 98,f 99,f 100,f 101,f 102,f 103,f 104,f 105,f 106,f 107,f 108,f 109,f 110,f 111,f 112,f 113,f 114,f 115,f 116,f 117,f 118,f 119,f 120,f 121,f 122,f 123,f 124,f 125,f 126,f 127,f 128,f 129,f 130,f 131,f 132,f 133,f 134,f 135,f 136,f 137,f 138,f 139,f 140,f 141,f 142,f 143,f 144,f 145,f 146,f 147,f 148,f 149,f 150,f 151,f 152,f 153,f 154,f 155,f 156,f 157,f 158,f 159,f 160,f 161,f 162,f 163,f 164,f 165,f 166,f 167,f 168,f 169,f 170,f 171,f 172,f 173,f 174,f 175,f 176,f 177,f 178,f 179,f 180,f 181,f 182,f 183,f 184,f 185,f 186,f 187,f 188,f 189,f 190,f 191,f 192,f 193,f 194,f 195,f 196,f 197,f 198,f 199,f 200,f 201,f 202,f 203,f 204,f 205,f 206,f 207,f 208,f 209,f 210,f 211,f 212,f 213,f 214,f 215,f 216,f 217,f 218,f 219,f 220,f 221,f 222,f 223,f 224,f 225,f 226,f 227]:=E;clear E;subst w5;change f 6=_ at o1;change f 7=_ at o2;change f 10=_ at n6;change f 11=_ at n7;change f 12=_ at n8;change f 13=_ at n9;change f 14=_ at o0;rw [o1,o2,n6,n7,n8,n9,o0];clear o1 o2 n6 n7 n8 n9 o0 e9;have f8:=Zh r1;clear r1;apply o6;clear o6 w0;cases k9;case true=>
   obtain⟨rfl,rfl⟩:=i5 rfl;clear i5 o9;go_upto_region 35 with (fail)
   go_wp2_with (go_at_call 16;refine(Wj _ (c0.out.keep (b4.out.trans f8.out) id)).mono ?_)
   rintro e z ⟨rfl,r5⟩;have m3:=Zh ((b4.out.trans f8.out).trans r5);clear r5;go_wp2;go_ret;exact⟨rfl,m3.out⟩
  obtain⟨rfl,rfl⟩:=o9 rfl;clear i5 o9;have n4:b0.cell? ⟨N,0,none⟩=some (.int .u32 2):=by rw [cell_of_row b0 N 0 _ _ _ (f8.out.keep f6.out)];rfl
  have n5:b0.cell? ⟨N,1,none⟩=some (.int .u32 5):=by rw [cell_of_row b0 N 1 _ _ _ (f8.out.keep f6.out)];rfl
  have v5:b0.cell? ⟨N+1,0,none⟩=some (.int .u32 3):=by rw [cell_of_row b0 (N+1) 0 _ _ _ (f8.out.keep m0.out)];rfl
  have v6:b0.cell? ⟨N+1,1,none⟩=some (.int .u32 4):=by rw [cell_of_row b0 (N+1) 1 _ _ _ (f8.out.keep m0.out)];rfl
  obtain⟨b6,e6⟩:=zE (b0.alloc (.cells #[.int .u32 2,.int .u32 5,.int .u32 3,.int .u32 4,.int .u32 2,.int .u32 5] 26));have k1:Ext b0 b6:=by rw [<-e6];exact(Q0.refl _ _).alloc _
  obtain⟨j7,k3⟩:=zE b0.heap.size;have k2:b6.heap[j7]?=some (.cells #[.int .u32 2,.int .u32 5,.int .u32 3,.int .u32 4,.int .u32 2,.int .u32 5] 26 (0,0)):=by rw [<-e6];exact new_at k3.symm
  have k8:Q4 b6 (.slice (some ⟨j7,0,none⟩) 3 3) [(2,5),(3,4),(2,5)]:=⟨Zm (xs:=Ql [(2,5),(3,4),(2,5)]) k2 rfl zd,by simp [Qw]⟩;have f0:Ext A b6:=f8.out.trans k1;have b1:=Dm (d6.out.ext f0) rfl (Ju b6) (Ju b6) k8 rfl (Nat.le_refl 3) (c0.out.keep (b4.out.trans f0) id);simp only [List.map_cons,List.map_nil] at b1;rw [Ry (by rw [Lb.1];decide),Lb.1] at b1;obtain⟨f2,j9,j5⟩:=Zh3 b1 f0 e6;clear b1 f0 e6 k1 k2 k8;go_upto_region 36 with (fail)
  go_wp2_with (go_at_call 22;try rw [j5.out];refine f2.out.mono ?_)
  rintro e g3 ⟨w9,w8,rfl,_,r2⟩;have l4:=Zh (j9.out.trans r2);clear f2 r2 j9 j5 k3 n4 n5 v5 v6;have n4:g3.cell? ⟨N,0,none⟩=some (.int .u32 2):=by rw [cell_of_row g3 N 0 _ _ _ (Ext.keep l4.out f6.out)];rfl
  have n5:g3.cell? ⟨N,1,none⟩=some (.int .u32 5):=by rw [cell_of_row g3 N 1 _ _ _ (Ext.keep l4.out f6.out)];rfl
  obtain⟨b6,e6⟩:=zE (g3.alloc (.cells #[.int .u32 2,.int .u32 5,.int .u32 2,.int .u32 5,.int .u32 1,.int .u32 1] 26));have k1:Ext g3 b6:=by rw [<-e6];exact(Q0.refl _ _).alloc _
  obtain⟨j7,k3⟩:=zE g3.heap.size;have k2:b6.heap[j7]?=some (.cells #[.int .u32 2,.int .u32 5,.int .u32 2,.int .u32 5,.int .u32 1,.int .u32 1] 26 (0,0)):=by rw [<-e6];exact new_at k3.symm
  have k8:Q4 b6 (.slice (some ⟨j7,0,none⟩) 3 3) [(2,5),(2,5),(1,1)]:=⟨Zm (xs:=Ql [(2,5),(2,5),(1,1)]) k2 rfl zd,by simp [Qw]⟩;have f0:Ext A b6:=l4.out.trans k1;have b1:=S2 (d6.out.ext f0) rfl (Ju b6) (Ju b6) k8 rfl (Nat.le_refl 3) (c0.out.keep (b4.out.trans f0) id);simp only [List.map_cons,List.map_nil] at b1;rw [Lb.2] at b1;obtain⟨f2,j9,j5⟩:=Zh3 b1 f0 e6;clear b1 f0 e6 k1 k2 k8 l4;go_upto_region 37 with (fail)
  go_wp2_with (go_at_call 24;try rw [j5.out];refine f2.out.mono ?_)
  rintro e z ⟨y6,y5,rfl,_,r3⟩;have q4:=Zh (b4.out.trans (j9.out.trans r3));clear f2 r3 j9 j5 k3 n4 n5;go_upto_region 38 with (fail)
  go_wp2_with (go_at_call 16;refine(Wj _ (c0.out.keep q4.out id)).mono ?_)
  rintro e D ⟨rfl,r4⟩;have m3:=Zh (q4.out.trans r4);clear r4;go_wp2;go_ret;exact⟨rfl,m3.out⟩
 have b5:=Zh t8;clear t8 o6;have b7:c1=0\/c1=1\/c1=2\/c1=3\/c1=4\/c1=5:=by omega
 clear v9 s4;rcases b7 with rfl | b7
 case inl=>
  obtain⟨g,k5⟩:=zE (62+r);have c2:(64:Int)+x=(g:Int):=by omega
  have f5:g<=65:=by omega
  have e8:62<=g:=by omega
  obtain⟨d9,g5⟩:=zE A.heap.size;go_upto_region 10 with (fail)
  go_wp2_with (go_at_call 29;refine(Fd _ (n:=64) (sh:=0) zd zd).mono ?_)
  rintro e d8 ⟨k0,c,rfl,s,T⟩;rw [g5] at s;have s0:d9<=d8.heap.size:=by have:=T.size;rw [g5] at this;exact this
  have l6:Ext d8 (d8.alloc (.cells #[.int .u32 64,.int .u32 0,.int .u32 128,.int .u32 0] 26)):=(Q0.refl _ d8).alloc _;have t6:=Rd.of_own (World.ownsRow_lit (base:=d9) (e:=26) (size:=2) d8 #[.int .u32 64,.int .u32 0,.int .u32 128,.int .u32 0] 2 s0 zd rfl);have t4:=Qb s l6;have t7:d9<=(d8.alloc (.cells #[.int .u32 64,.int .u32 0,.int .u32 128,.int .u32 0] 26)).heap.size:=by have:=l6.size;omega
  obtain⟨q2,m8,p9,i0,j6⟩:=Zh5 t6 t4 (T.trans l6) t7 g5;clear s T s0 l6 t6 t4 t7 g5
  go_wp2_with (at_builtin;refine V5 rfl (.tmp 52) (.tmp 55) 23 rfl d9 26 _ 2 8 Tryz.underlying23 @Ki rfl zd _ _ _ rfl m8.out _ 2 _ _ rfl q2.out (by intro f E;simp at E;rcases E with rfl | rfl | rfl | rfl <;> rfl) ?c3 ?c4 i0.out ?_)
  case c3=>unfold maxLen;omega
  case c4=>omega
  intro x5 q8 e2 l8 r7 _;have a6:Ext A e2:=p9.out.after r7 (fun b a8 e=>by have:=(m8.out.lt b e).1;have:=j6.out;omega);have w1:=Bj l8;rw [<-Q27] at l8;have t9:=Q6b (Rd.of_own l8) R8 Q62 (show g<=66 by omega);have b1:=Dm (d6.out.ext a6) rfl (Ju e2) (Ju e2) t9 (by rw [List.length_take,R8];omega) (show g<=q8 by omega) (c0.out.keep (b4.out.trans a6) id);simp only [List.map_cons,List.map_nil] at b1;obtain⟨u1,u2⟩:=Q39 e8 f5;obtain⟨nl,g8⟩:=zE (if g<=64 then g else 0);obtain⟨Y,C⟩:=zE (mB g 64);rw [u1,u2,g8,C] at b1;have w4:(g:Int)<=(q8:Int):=by omega
  have y3:(0:Int)<=(g:Int):=by omega
  obtain⟨f2,g9,m7,O⟩:=Zh4 b1 a6 g8 C;clear b1 l8 r7 a6 t9 u1 u2 g8 C m8 p9 q2 i0 j6 w1
  go_wp2_with (go_at_call 22;refine f2.out.mono ?_)
  rintro e v0 ⟨w9,w8,rfl,_,f4⟩;have f9:=Zh (g9.out.trans f4);clear f2 g9 f4 w4;go_wp2;have Q:=Zh (Uv O.out m7.out c2);exact b5.out _ _ ⟨Y,nl,g,_,rfl,⟨rfl,rfl,rfl,rfl,rfl,rfl,rfl,rfl⟩,Q.out.1,Q.out.2,f9.out⟩
 rcases b7 with rfl | b7
 case inl=>
  obtain⟨g,k5⟩:=zE (62+r);have c2:(64:Int)+x=(g:Int):=by omega
  have y4:(63:Int)+x=((g - 1:Nat):Int):=by omega
  have f5:g<=65:=by omega
  have e8:62<=g:=by omega
  obtain⟨L,b9,u0⟩:=Q5j g oz e8;obtain⟨Y,C⟩:=zE (mB g 64);rw [C] at L;obtain⟨O,R,d5,m5⟩:=Zh4 C L b9 u0;clear C L b9 u0;obtain⟨y,e5⟩:=zE (A.alloc (.cells #[.int .i64 0] 3));have T:Ext A y:=by rw [<-e5];exact(Q0.refl _ _).alloc _
  have P:y.heap[A.heap.size]?=some (.cells #[.int .i64 0] 3 (0,0)):=by rw [<-e5];exact new_at rfl
  have d0:=Nh (xc:=1) (cs:=[.int .i64 0]) (Vb P) rfl (by intro f E;simp at E;subst E;rfl) (show 1<=g by omega) (show g<=1000 by omega);obtain⟨c8,a9,j4⟩:=Zh3 d0 T e5;clear d0 T P e5;go_upto_region 16 with (fail)
  go_wp2_with (go_at_call 54;try rw [j4.out];refine c8.out.mono ?_)
  rintro e d8 ⟨v,rfl,s,a6⟩;obtain⟨k0,c,rfl⟩:=Qk s;rw [Rt] at s;have f4:=a9.out.trans a6;have g7:=N7 (Rd.of_own s) zy;rw [R.out,d5.out] at g7;have j0:=Zh g7;have f9:=Zh f4;clear c8 j4 a9 s a6 f4 g7
  go_wp2_with (go_at_call 34;refine j0.out.mono ?_)
  rintro e e2 ⟨v,rfl,i4,a7⟩;obtain⟨x8,x6,rfl⟩:=Gv i4;have j1:=Zh (f9.out.trans a7);clear j0 f9 i4 a7;obtain⟨y,e5⟩:=zE (e2.alloc (.cells #[.int .i64 0] 3));have T:Ext e2 y:=by rw [<-e5];exact(Q0.refl _ _).alloc _
  have P:y.heap[e2.heap.size]?=some (.cells #[.int .i64 0] 3 (0,0)):=by rw [<-e5];exact new_at rfl
  have d0:=Nh (xc:=1) (cs:=[.int .i64 0]) (Vb P) rfl (by intro f E;simp at E;subst E;rfl) (show 1<=g by omega) (show g<=1000 by omega);obtain⟨c8,a9,j4⟩:=Zh3 d0 (j1.out.trans T) e5;clear d0 T P e5 j1;go_upto_region 17 with (fail)
  go_wp2_with (go_at_call 54;try rw [j4.out];refine c8.out.mono ?_)
  rintro e v0 ⟨v,rfl,s,a6⟩;obtain⟨k0,c,rfl⟩:=Qk s;rw [Rt] at s;have f4:=a9.out.trans a6;have g7:=Dn (Rd.of_own s) zy;rw [R.out] at g7;have j0:=Zh g7;have f9:=Zh f4;clear c8 j4 a9 s a6 f4 g7
  go_wp2_with (go_at_call 33;refine j0.out.mono ?_)
  rintro e v1 ⟨v,rfl,i4,a7⟩;obtain⟨x9,x7,rfl⟩:=Gv i4;have j1:=Zh (f9.out.trans a7);have m4:=Zh i4.grc;clear j0 f9 i4 a7;by_cases o4:g<=64
  ·obtain⟨L,b9⟩:=m5.out o4;have o8:0<(Jz (List.replicate g 0)).length:=by rw [L];omega
   obtain⟨o3,x0,v3,v4,v2,rfl,s6,_,_,_⟩:=Q2i (q:=0) (c:=[1,0]) m4.out rfl o8 (by rw [List.getD_eq_getElem?_getD,List.getElem?_eq_getElem o8] at b9;exact b9) zd;have y2:v1.cell? ⟨o3,x0,none⟩=some (.slice (some ⟨v3,v4,none⟩) 2 v2):=s6;clear s6;rw [L];have C:Y=0:=by rw [<-O.out];unfold mB;rw [if_pos o4]
   subst C;have d2:¬ x > 0:=by omega
   have F:decide (x > 0)=false:=decide_eq_false d2;have K:decide (0<x)=false:=F;have i5:(0:Int)<((g - 1:Nat):Int):=by omega
   clear m4 L b9 o8 m5 R d5;go_wp2;refine b5.out _ _ ⟨0,0,0,false,rfl,⟨rfl,rfl,rfl,rfl,rfl,rfl,rfl,rfl⟩,fun h=>?_,fun _=>⟨rfl,rfl⟩,j1.out⟩;cases h
  ·have C:Y=12:=by rw [<-O.out];unfold mB;rw [if_neg o4]
   subst C;have d2:x > 0:=by omega
   have F:decide (x > 0)=true:=decide_eq_true d2;have K:decide (0<x)=true:=F;clear m4 m5 R d5;go_wp2;refine b5.out _ _ ⟨12,0,0,true,rfl,⟨rfl,rfl,rfl,rfl,rfl,rfl,rfl,rfl⟩,fun _=>⟨rfl,rfl⟩,fun h=>?_,j1.out⟩;cases h
 rcases b7 with rfl | b7
 case inl=>
  obtain⟨g,k5⟩:=zE (254+r);have c2:(256:Int)+x=(g:Int):=by omega
  have f5:g<258:=by omega
  have e8:254<=g:=by omega
  obtain⟨L,b9⟩:=Q2p g f5 e8;obtain⟨Y,C⟩:=zE (mB g 256);rw [C] at L;obtain⟨nl,g8⟩:=zE (if g<=256 then 1 else 0);have t3:(Ky (List.replicate g 0)).length=nl:=by rw [b9,<-g8];split <;> rfl
  obtain⟨O,R,u5,m7⟩:=Zh4 C L t3 g8;obtain⟨d9,g5⟩:=zE A.heap.size;have j6:=Zh g5;clear C L b9 t3 g8 g5
  go_wp2_with (at_make;refine Jg rfl (.tmp 119) (.tmp 119) 36 rfl d9 3 _ 8 Tryz.underlying36 Tryz.infoD rfl .i64 .i64 g g g rfl rfl rfl rfl oz (by unfold maxLen;omega) (by rw [j6.out];exact Nat.le_refl _) ?_)
  intro d8 s T;rw [j6.out] at s ⊢;rw [Q6l] at s;have e9:=Q43 (Rd.of_own s) zy;rw [R.out,u5.out] at e9;have j2:=Zh e9;have a9:=Zh T;clear e9 s T
  go_wp2_with (go_at_call 31;refine j2.out.mono ?_)
  rintro e e2 ⟨v,rfl,s,a6⟩;obtain⟨k0,c,rfl⟩:=Qk s;have g9:=Zh (a9.out.trans a6);clear j2 a9 s a6;go_wp2;have Q:=Zh (Uv O.out m7.out c2);exact b5.out _ _ ⟨Y,nl,1,_,rfl,⟨rfl,rfl,rfl,rfl,rfl,rfl,rfl,rfl⟩,Q.out.1,Q.out.2,g9.out⟩
 have b7:c1=5\/c1=3\/c1=4:=by omega
 rcases b7 with rfl | b7
 case inl=>
  obtain⟨g,k5⟩:=zE (14+r);have c2:(16:Int)+x=(g:Int):=by omega
  have f5:g<18:=by omega
  have e8:14<=g:=by omega
  have L:=Q3i g f5 e8;obtain⟨Y,C⟩:=zE (mB g 16);rw [C] at L;have O:=Zh C;have R:=Zh L;clear C L;go_upto_region 7 with (fail)
  go_wp2_with (go_at_call 29;refine(Fd _ (n:=g) (sh:=3) oz zd).mono ?_)
  intro e d8 k0 c w3 s T;subst w3;have s9:=Bj s;have t0:Q4 d8 (.slice k0 g c) (Vp g 3):=⟨by rw [T6];exact Rd.of_own s,Q7w g 3⟩;clear s;have H:=Uc (d6.out.ext T) rfl (us:=[]) (uo:=none) (N:=0) (uc:=0) ⟨[],⟨rfl,by simp [maxLen],none,0,rfl,fun h=>by simp at h⟩,trivial⟩ rfl t0 (T6 g 3) s9 (c0.out.keep (b4.out.trans T) id);simp only [List.map_cons,List.map_nil] at H;rw [R.out] at H;have j2:=Zh H;have a9:=Zh T;clear H T t0 s9
  go_wp2_with (go_at_call 50;refine j2.out.mono ?_)
  rintro e e2 ⟨i7,i6,rfl,s,a6⟩;have g9:=Zh (a9.out.trans a6);clear j2 a9 s a6;go_wp2;have Q:=Zh (Uv (nl:=0) (want:=0) O.out (by split <;> rfl) c2);exact b5.out _ _ ⟨Y,0,0,_,rfl,⟨rfl,rfl,rfl,rfl,rfl,rfl,rfl,rfl⟩,Q.out.1,Q.out.2,g9.out⟩
 rcases b7 with rfl | rfl
 case inl=>
  obtain⟨g,k5⟩:=zE (254+r);have c2:(256:Int)+x=(g:Int):=by omega
  have f5:g<258:=by omega
  have e8:254<=g:=by omega
  have w6:IntKind.i64.wrap (g:Int)=(g:Int):=IntWalk.i64_in _ oz;obtain⟨L,b9⟩:=Q78 g;obtain⟨Y,C⟩:=zE (mB g 256);obtain⟨f3,o7⟩:=zE (if g<=256 then List.replicate g true else []);rw [C] at L;rw [o7] at b9;obtain⟨O,R,d5,f1⟩:=Zh4 C L b9 o7;clear C L b9 o7;go_upto_region 27 with (fail)
  obtain⟨U,e4⟩:=zE A.drew;have G:Ext A U:=by rw [<-e4];exact(Q0.refl _ A).drew
  refine Zo (S:=fun j=>Ext A j) [] kz (by rw [e4];exact G) ?_;intro _;rw [e4];clear e4;refine tkE (i:=0) (d:=131) (v:=?_) rfl (Or.inl ⟨by rfl,?_⟩) G ?_;rotate_left
  ·intro j l;(try dsimp only at l);go_simp;try with_reducible rfl
  try simp only [Act.put,pq]
  refine tkE (i:=1) (d:=132) (v:=?_) rfl (Or.inl ⟨by rfl,?_⟩) G ?_;rotate_left
  ·intro j l;(try dsimp only at l);refine Qq (x:=.tmp 8) ?_ (N+1+1) ?_ _ _ _ (Ext.keep (show Ext A j from l) l2.out) Tryz.underlying26 kz <;> rfl
  try simp only [Act.put,pq]
  refine tkE (i:=3) (d:=134) (v:=?_) rfl (Or.inl ⟨by rfl,?_⟩) G ?_;rotate_left
  ·intro j l;(try dsimp only at l);refine Qq (x:=.tmp 8) ?_ (N+1+1) ?_ _ _ _ (Ext.keep (show Ext A j from l) l2.out) Tryz.underlying26 kz <;> rfl
  try simp only [Act.put,pq]
  refine tkE (i:=7) (d:=138) (v:=?_) rfl (Or.inl ⟨by rfl,?_⟩) G ?_;rotate_left
  ·intro j l;(try dsimp only at l);go_simp;try with_reducible rfl
  try simp only [Act.put,pq]
  refine tkE (i:=8) (d:=139) (v:=?_) rfl (Or.inl ⟨by rfl,?_⟩) G ?_;rotate_left
  ·intro j l;(try dsimp only at l);go_simp;try with_reducible rfl
  try simp only [Act.put,pq]
  refine tkE (i:=10) (d:=141) (v:=?_) rfl (Or.inl ⟨by rfl,?_⟩) G ?_;rotate_left
  ·intro j l;(try dsimp only at l);refine Qq (x:=.tmp 6) ?_ (N) ?_ _ _ _ (Ext.keep (show Ext A j from l) f6.out) Tryz.underlying26 kz <;> rfl
  try simp only [Act.put,pq]
  refine rE [2,4] ?_;refine Q1.cons rfl (fun r o=>?_) (Q1.cons rfl (fun r o=>?_) Q1.nil)
  ·refine iw rfl ?_;go_simp;obtain⟨y,m⟩:=zE (U.alloc (.cells #[.int .u32 5,.int .u32 2] 26));have P:y.heap[U.heap.size]?=some (.cells #[.int .u32 5,.int .u32 2] 26 (0,0)):=by rw [<-m];exact new_at rfl
   have Z:Ext A y:=by rw [<-m];exact G.alloc _
   have d3:Ext U y:=by rw [<-m];exact(Q0.refl _ _).alloc _
   rw [m];obtain⟨M,u⟩:=zE U.heap.size;rw [u] at P ⊢;have e0:=Zh P;have m9:=Zh d3;clear m u P d3;refine o _ _ Z (fun _=>?_);clear o r;try simp only [Act.put,pq]
   refine rE [4] ?_;refine Q1.cons rfl (fun r o=>?_) Q1.nil;refine iw rfl ?_;go_simp;obtain⟨z,m⟩:=zE (y.alloc (.cells #[.int .u32 5,.int .u32 2] 26));have W:z.heap[y.heap.size]?=some (.cells #[.int .u32 5,.int .u32 2] 26 (0,0)):=by rw [<-m];exact new_at rfl
   have I:Ext A z:=by rw [<-m];exact Z.alloc _
   have b2:Ext y z:=by rw [<-m];exact(Q0.refl _ _).alloc _
   rw [m];obtain⟨a1,u⟩:=zE y.heap.size;rw [u] at W ⊢;have d4:=Zh W;have d7:=Zh b2;clear m u W b2;refine o _ _ I (fun _=>?_);clear o r;try simp only [Act.put,pq]
   refine tkE (i:=5) (d:=136) (v:=?_) rfl (Or.inl ⟨by rfl,?_⟩) I ?_;rotate_left
   ·intro j l;(try dsimp only at l);go_simp;try with_reducible rfl
   try simp only [Act.put,pq]
   refine rE [6] ?_;refine Q1.cons rfl (fun r o=>?_) Q1.nil;refine iw rfl ?_;go_simp;obtain⟨D,m⟩:=zE (z.alloc (.cells #[.slice (some ⟨M,0,none⟩) 1 1,.slice (some ⟨a1,0,none⟩) 1 1] 63));have X:D.heap[z.heap.size]?=some (.cells #[.slice (some ⟨M,0,none⟩) 1 1,.slice (some ⟨a1,0,none⟩) 1 1] 63 (0,0)):=by rw [<-m];exact new_at rfl
   have J:Ext A D:=by rw [<-m];exact I.alloc _
   have a0:Ext z D:=by rw [<-m];exact(Q0.refl _ _).alloc _
   rw [m];obtain⟨i8,u⟩:=zE z.heap.size;rw [u] at X ⊢;have e1:=Zh X;have a3:=Zh a0;clear m u X a0;refine o _ _ J (fun _=>?_);clear o r;try simp only [Act.put,pq]
   have F:Qm D (.slice (some ⟨M,0,none⟩) 1 1) [(5,2)]:=⟨_,1,rfl,⟨Zm (xs:=Ql [(5,2)]) ((a3.out.keep (d7.out.keep e0.out))) rfl zd,by simp [Qw]⟩,Nat.le_refl _⟩;have K:Qm D (.slice (some ⟨a1,0,none⟩) 1 1) [(5,2)]:=⟨_,1,rfl,⟨Zm (xs:=Ql [(5,2)]) ((a3.out.keep d4.out)) rfl zd,by simp [Qw]⟩,Nat.le_refl _⟩;have d0:=M0 (xc:=1) (cs:=[.slice (some ⟨M,0,none⟩) 1 1,.slice (some ⟨a1,0,none⟩) 1 1]) (Vb e1.out) rfl (by intro f E;simp at E;rcases E with rfl | rfl <;> rfl) (show 1<=g by omega) (show g<=1000 by omega);obtain⟨g1,g2,c8⟩:=Zh3 F K d0;clear F K d0;refine rE [9] ?_;refine Q1.cons rfl (fun r o=>?_) Q1.nil;refine iw rfl ?_;go_simp;refine c8.out.mono ?_;rintro e a4 ⟨v,rfl,s,a7⟩;obtain⟨l1,l0,rfl⟩:=Qk s;have k6:=Px s (g1.out.ext a7) (g2.out.ext a7);have B:=J.trans a7;have e7:=M8 (s1:=2) (s2:=5) (d6.out.ext B) rfl k6 (List.length_replicate ..) ⟨by decide,by decide⟩ (c0.out.keep (b4.out.trans B) id);simp only [List.map_cons,List.map_nil,List.map_replicate] at e7;rw [R.out,d5.out] at e7;have i9:=Zh e7;clear e7 k6 s c8 a7;refine o _ _ B (fun _=>?_);clear o r;try simp only [Act.put,pq]
   refine rE [11] ?_;refine Q1.cons rfl (fun r o=>?_) Q1.nil;refine iw rfl ?_;go_simp;refine i9.out.mono ?_;rintro e j8 ⟨i7,i6,rfl,s,a2⟩;have t:=B.trans a2;have f7:=Zh (Rd.of_own s);clear s i9 a2;refine o _ _ t (fun _=>?_);clear o r;try simp only [Act.put,pq]
   refine tkE (i:=12) (d:=130) (v:=?_) rfl (Or.inl ⟨by rfl,?_⟩) t ?_;rotate_left
   ·intro j l;(try dsimp only at l);go_simp;try with_reducible rfl
   try simp only [Act.put,pq]
   refine tkE (i:=13) (d:=143) (v:=?_) rfl (Or.inl ⟨by rfl,?_⟩) t ?_;rotate_left
   ·intro j l;(try dsimp only at l);go_simp;try with_reducible rfl
   try simp only [Act.put,pq]
   refine tkE (i:=14) (d:=144) (v:=?_) rfl (Or.inl ⟨by rfl,?_⟩) t ?_;rotate_left
   ·intro j l;(try dsimp only at l);go_simp;try with_reducible rfl
   try simp only [Act.put,pq]
   refine tkE (i:=15) (d:=21) (v:=?_) rfl (Or.inl ⟨by rfl,?_⟩) t ?_;rotate_left
   ·intro j l;(try dsimp only at l);go_simp;try with_reducible rfl
   try simp only [Act.put,pq]
   refine tkE (i:=16) (d:=11) (v:=?_) rfl (Or.inl ⟨by rfl,?_⟩) t ?_;rotate_left
   ·intro j l;(try dsimp only at l);go_simp;try with_reducible rfl
   try simp only [Act.put,pq]
   refine Qp kz ?_ _;have j3:=Zh t;clear G Z I J B t;by_cases e3:g<=256
   ·have a8:f3=List.replicate g true:=by rw [<-f1.out,if_pos e3]
    have b8:f3.length=g:=by rw [a8,List.length_replicate]
    have C:Y=0:=by rw [<-O.out];unfold mB;rw [if_pos e3]
    subst C;have g6:=Fc f7.out rfl false;rw [b8,a8,Py] at g6;rw [b8];have m2:=Zh g6;have d2:¬ x > 0:=by omega
    have F:decide (x > 0)=false:=decide_eq_false d2;have K:decide (0<x)=false:=F;have i5:¬ (g:Int)=0:=by omega
    clear g6 a8 b8 f7 R d5 f1 O g1 g2
    go_wp2_with (go_at_call 56;refine m2.out.mono ?_;rintro e u9 ⟨rfl,k7⟩;rw [k7];clear k7)
    refine b5.out _ _ ⟨0,g,g,false,rfl,⟨rfl,rfl,rfl,rfl,rfl,rfl,rfl,rfl⟩,fun h=>?_,fun _=>⟨rfl,rfl⟩,j3.out⟩;cases h
   ·have a8:f3=[]:=by rw [<-f1.out,if_neg e3]
    have b8:f3.length=0:=by rw [a8];rfl
    have C:Y=12:=by rw [<-O.out];unfold mB;rw [if_neg e3]
    subst C;rw [b8];have d2:x > 0:=by omega
    have F:decide (x > 0)=true:=decide_eq_true d2;have K:decide (0<x)=true:=F;clear a8 b8 f7 R d5 f1 O g1 g2;go_wp2;refine b5.out _ _ ⟨12,0,g,true,rfl,⟨rfl,rfl,rfl,rfl,rfl,rfl,rfl,rfl⟩,fun _=>⟨rfl,rfl⟩,fun h=>?_,j3.out⟩;cases h
  ·refine iw rfl ?_;go_simp;obtain⟨y,m⟩:=zE (U.alloc (.cells #[.int .u32 5,.int .u32 2] 26));have P:y.heap[U.heap.size]?=some (.cells #[.int .u32 5,.int .u32 2] 26 (0,0)):=by rw [<-m];exact new_at rfl
   have Z:Ext A y:=by rw [<-m];exact G.alloc _
   have d3:Ext U y:=by rw [<-m];exact(Q0.refl _ _).alloc _
   rw [m];obtain⟨M,u⟩:=zE U.heap.size;rw [u] at P ⊢;have e0:=Zh P;have m9:=Zh d3;clear m u P d3;refine o _ _ Z (fun _=>?_);clear o r;try simp only [Act.put,pq]
   refine rE [2] ?_;refine Q1.cons rfl (fun r o=>?_) Q1.nil;refine iw rfl ?_;go_simp;obtain⟨z,m⟩:=zE (y.alloc (.cells #[.int .u32 5,.int .u32 2] 26));have W:z.heap[y.heap.size]?=some (.cells #[.int .u32 5,.int .u32 2] 26 (0,0)):=by rw [<-m];exact new_at rfl
   have I:Ext A z:=by rw [<-m];exact Z.alloc _
   have b2:Ext y z:=by rw [<-m];exact(Q0.refl _ _).alloc _
   rw [m];obtain⟨a1,u⟩:=zE y.heap.size;rw [u] at W ⊢;have d4:=Zh W;have d7:=Zh b2;clear m u W b2;refine o _ _ I (fun _=>?_);clear o r;try simp only [Act.put,pq]
   refine tkE (i:=5) (d:=136) (v:=?_) rfl (Or.inl ⟨by rfl,?_⟩) I ?_;rotate_left
   ·intro j l;(try dsimp only at l);go_simp;try with_reducible rfl
   try simp only [Act.put,pq]
   refine rE [6] ?_;refine Q1.cons rfl (fun r o=>?_) Q1.nil;refine iw rfl ?_;go_simp;obtain⟨D,m⟩:=zE (z.alloc (.cells #[.slice (some ⟨a1,0,none⟩) 1 1,.slice (some ⟨M,0,none⟩) 1 1] 63));have X:D.heap[z.heap.size]?=some (.cells #[.slice (some ⟨a1,0,none⟩) 1 1,.slice (some ⟨M,0,none⟩) 1 1] 63 (0,0)):=by rw [<-m];exact new_at rfl
   have J:Ext A D:=by rw [<-m];exact I.alloc _
   have a0:Ext z D:=by rw [<-m];exact(Q0.refl _ _).alloc _
   rw [m];obtain⟨i8,u⟩:=zE z.heap.size;rw [u] at X ⊢;have e1:=Zh X;have a3:=Zh a0;clear m u X a0;refine o _ _ J (fun _=>?_);clear o r;try simp only [Act.put,pq]
   have F:Qm D (.slice (some ⟨a1,0,none⟩) 1 1) [(5,2)]:=⟨_,1,rfl,⟨Zm (xs:=Ql [(5,2)]) ((a3.out.keep d4.out)) rfl zd,by simp [Qw]⟩,Nat.le_refl _⟩;have K:Qm D (.slice (some ⟨M,0,none⟩) 1 1) [(5,2)]:=⟨_,1,rfl,⟨Zm (xs:=Ql [(5,2)]) ((a3.out.keep (d7.out.keep e0.out))) rfl zd,by simp [Qw]⟩,Nat.le_refl _⟩;have d0:=M0 (xc:=1) (cs:=[.slice (some ⟨a1,0,none⟩) 1 1,.slice (some ⟨M,0,none⟩) 1 1]) (Vb e1.out) rfl (by intro f E;simp at E;rcases E with rfl | rfl <;> rfl) (show 1<=g by omega) (show g<=1000 by omega);obtain⟨g1,g2,c8⟩:=Zh3 F K d0;clear F K d0;refine rE [9] ?_;refine Q1.cons rfl (fun r o=>?_) Q1.nil;refine iw rfl ?_;go_simp;refine c8.out.mono ?_;rintro e a4 ⟨v,rfl,s,a7⟩;obtain⟨l1,l0,rfl⟩:=Qk s;have k6:=Px s (g1.out.ext a7) (g2.out.ext a7);have B:=J.trans a7;have e7:=M8 (s1:=2) (s2:=5) (d6.out.ext B) rfl k6 (List.length_replicate ..) ⟨by decide,by decide⟩ (c0.out.keep (b4.out.trans B) id);simp only [List.map_cons,List.map_nil,List.map_replicate] at e7;rw [R.out,d5.out] at e7;have i9:=Zh e7;clear e7 k6 s c8 a7;refine o _ _ B (fun _=>?_);clear o r;try simp only [Act.put,pq]
   refine rE [11] ?_;refine Q1.cons rfl (fun r o=>?_) Q1.nil;refine iw rfl ?_;go_simp;refine i9.out.mono ?_;rintro e j8 ⟨i7,i6,rfl,s,a2⟩;have t:=B.trans a2;have f7:=Zh (Rd.of_own s);clear s i9 a2;refine o _ _ t (fun _=>?_);clear o r;try simp only [Act.put,pq]
   refine tkE (i:=12) (d:=130) (v:=?_) rfl (Or.inl ⟨by rfl,?_⟩) t ?_;rotate_left
   ·intro j l;(try dsimp only at l);go_simp;try with_reducible rfl
   try simp only [Act.put,pq]
   refine tkE (i:=13) (d:=143) (v:=?_) rfl (Or.inl ⟨by rfl,?_⟩) t ?_;rotate_left
   ·intro j l;(try dsimp only at l);go_simp;try with_reducible rfl
   try simp only [Act.put,pq]
   refine tkE (i:=14) (d:=144) (v:=?_) rfl (Or.inl ⟨by rfl,?_⟩) t ?_;rotate_left
   ·intro j l;(try dsimp only at l);go_simp;try with_reducible rfl
   try simp only [Act.put,pq]
   refine tkE (i:=15) (d:=21) (v:=?_) rfl (Or.inl ⟨by rfl,?_⟩) t ?_;rotate_left
   ·intro j l;(try dsimp only at l);go_simp;try with_reducible rfl
   try simp only [Act.put,pq]
   refine tkE (i:=16) (d:=11) (v:=?_) rfl (Or.inl ⟨by rfl,?_⟩) t ?_;rotate_left
   ·intro j l;(try dsimp only at l);go_simp;try with_reducible rfl
   try simp only [Act.put,pq]
   refine Qp kz ?_ _;have j3:=Zh t;clear G Z I J B t;by_cases e3:g<=256
   ·have a8:f3=List.replicate g true:=by rw [<-f1.out,if_pos e3]
    have b8:f3.length=g:=by rw [a8,List.length_replicate]
    have C:Y=0:=by rw [<-O.out];unfold mB;rw [if_pos e3]
    subst C;have g6:=Fc f7.out rfl false;rw [b8,a8,Py] at g6;rw [b8];have m2:=Zh g6;have d2:¬ x > 0:=by omega
    have F:decide (x > 0)=false:=decide_eq_false d2;have K:decide (0<x)=false:=F;have i5:¬ (g:Int)=0:=by omega
    clear g6 a8 b8 f7 R d5 f1 O g1 g2
    go_wp2_with (go_at_call 56;refine m2.out.mono ?_;rintro e u9 ⟨rfl,k7⟩;rw [k7];clear k7)
    refine b5.out _ _ ⟨0,g,g,false,rfl,⟨rfl,rfl,rfl,rfl,rfl,rfl,rfl,rfl⟩,fun h=>?_,fun _=>⟨rfl,rfl⟩,j3.out⟩;cases h
   ·have a8:f3=[]:=by rw [<-f1.out,if_neg e3]
    have b8:f3.length=0:=by rw [a8];rfl
    have C:Y=12:=by rw [<-O.out];unfold mB;rw [if_neg e3]
    subst C;rw [b8];have d2:x > 0:=by omega
    have F:decide (x > 0)=true:=decide_eq_true d2;have K:decide (0<x)=true:=F;clear a8 b8 f7 R d5 f1 O g1 g2;go_wp2;refine b5.out _ _ ⟨12,0,g,true,rfl,⟨rfl,rfl,rfl,rfl,rfl,rfl,rfl,rfl⟩,fun _=>⟨rfl,rfl⟩,fun h=>?_,j3.out⟩;cases h
 obtain⟨g,k5⟩:=zE (30+r);have c2:(32:Int)+x=(g:Int):=by omega
 have f5:g<34:=by omega
 have e8:30<=g:=by omega
 have w6:IntKind.i64.wrap (g:Int)=(g:Int):=IntWalk.i64_in _ oz;have L:=Q1o g;obtain⟨Y,C⟩:=zE (mB g 32);rw [C] at L;have O:=Zh C;have R:=Zh L;clear C L;go_upto_region 32 with (fail)
 obtain⟨U,e4⟩:=zE A.drew;have G:Ext A U:=by rw [<-e4];exact(Q0.refl _ A).drew
 refine Zo (S:=fun j=>Ext A j) [] kz (by rw [e4];exact G) ?_;intro _;rw [e4];clear e4;refine tkE (i:=0) (d:=165) (v:=?_) rfl (Or.inl ⟨by rfl,?_⟩) G ?_;rotate_left
 ·intro j l;(try dsimp only at l);go_simp;try with_reducible rfl
 try simp only [Act.put,pq]
 refine tkE (i:=1) (d:=166) (v:=?_) rfl (Or.inl ⟨by rfl,?_⟩) G ?_;rotate_left
 ·intro j l;(try dsimp only at l);refine Qq (x:=.tmp 8) ?_ (N+1+1) ?_ _ _ _ (Ext.keep (show Ext A j from l) l2.out) Tryz.underlying26 kz <;> rfl
 try simp only [Act.put,pq]
 refine tkE (i:=2) (d:=167) (v:=?_) rfl (Or.inl ⟨by rfl,?_⟩) G ?_;rotate_left
 ·intro j l;(try dsimp only at l);refine Qq (x:=.tmp 6) ?_ (N) ?_ _ _ _ (Ext.keep (show Ext A j from l) f6.out) Tryz.underlying26 kz <;> rfl
 try simp only [Act.put,pq]
 refine tkE (i:=3) (d:=168) (v:=?_) rfl (Or.inl ⟨by rfl,?_⟩) G ?_;rotate_left
 ·intro j l;(try dsimp only at l);refine Qq (x:=.tmp 8) ?_ (N+1+1) ?_ _ _ _ (Ext.keep (show Ext A j from l) l2.out) Tryz.underlying26 kz <;> rfl
 try simp only [Act.put,pq]
 refine tkE (i:=6) (d:=171) (v:=?_) rfl (Or.inl ⟨by rfl,?_⟩) G ?_;rotate_left
 ·intro j l;(try dsimp only at l);go_simp;try with_reducible rfl
 try simp only [Act.put,pq]
 refine tkE (i:=7) (d:=172) (v:=?_) rfl (Or.inl ⟨by rfl,?_⟩) G ?_;rotate_left
 ·intro j l;(try dsimp only at l);go_simp;try with_reducible rfl
 try simp only [Act.put,pq]
 refine tkE (i:=9) (d:=174) (v:=?_) rfl (Or.inl ⟨by rfl,?_⟩) G ?_;rotate_left
 ·intro j l;(try dsimp only at l);refine Qq (x:=.tmp 6) ?_ (N) ?_ _ _ _ (Ext.keep (show Ext A j from l) f6.out) Tryz.underlying26 kz <;> rfl
 try simp only [Act.put,pq]
 refine tkE (i:=10) (d:=175) (v:=?_) rfl (Or.inl ⟨by rfl,?_⟩) G ?_;rotate_left
 ·intro j l;(try dsimp only at l);refine Qq (x:=.tmp 7) ?_ (N+1) ?_ _ _ _ (Ext.keep (show Ext A j from l) m0.out) Tryz.underlying26 kz <;> rfl
 try simp only [Act.put,pq]
 refine rE [4,11] ?_;refine Q1.cons rfl (fun r o=>?_) (Q1.cons rfl (fun r o=>?_) Q1.nil)
 ·refine iw rfl ?_;go_simp;obtain⟨y,m⟩:=zE (U.alloc (.cells #[.int .u32 5,.int .u32 2,.int .u32 2,.int .u32 5,.int .u32 5,.int .u32 2] 26));have P:y.heap[U.heap.size]?=some (.cells #[.int .u32 5,.int .u32 2,.int .u32 2,.int .u32 5,.int .u32 5,.int .u32 2] 26 (0,0)):=by rw [<-m];exact new_at rfl
  have Z:Ext A y:=by rw [<-m];exact G.alloc _
  have d3:Ext U y:=by rw [<-m];exact(Q0.refl _ _).alloc _
  rw [m];obtain⟨M,u⟩:=zE U.heap.size;rw [u] at P ⊢;have e0:=Zh P;have m9:=Zh d3;clear m u P d3;refine o _ _ Z (fun _=>?_);clear o r;try simp only [Act.put,pq]
  refine rE [5,11] ?_;refine Q1.cons rfl (fun r o=>?_) (Q1.cons rfl (fun r o=>?_) Q1.nil)
  ·refine iw rfl ?_;go_simp;obtain⟨z,m⟩:=zE (y.alloc (.cells #[.slice (some ⟨M,0,none⟩) 3 3] 23));have W:z.heap[y.heap.size]?=some (.cells #[.slice (some ⟨M,0,none⟩) 3 3] 23 (0,0)):=by rw [<-m];exact new_at rfl
   have I:Ext A z:=by rw [<-m];exact Z.alloc _
   have b2:Ext y z:=by rw [<-m];exact(Q0.refl _ _).alloc _
   rw [m];obtain⟨a1,u⟩:=zE y.heap.size;rw [u] at W ⊢;have d4:=Zh W;have d7:=Zh b2;clear m u W b2;refine o _ _ I (fun _=>?_);clear o r;try simp only [Act.put,pq]
   refine rE [8,11] ?_;refine Q1.cons rfl (fun r o=>?_) (Q1.cons rfl (fun r o=>?_) Q1.nil)
   ·refine iw rfl ?_;go_simp;refine(Ke (xc:=1) (cs:=[.slice (some ⟨M,0,none⟩) 3 3]) (Vb (d4.out)) rfl (by intro f E;simp at E;subst E;rfl) (show 1<=g by omega) (show g<=1000 by omega)).mono ?_;rintro e D ⟨v,rfl,s,a0⟩;obtain⟨l1,l0,rfl⟩:=Qk s;have c6:=Zh s;have a3:=Zh a0;have J:=I.trans a0;clear s a0;refine o _ _ J (fun _=>?_);clear o r;try simp only [Act.put,pq]
    refine rE [11] ?_;refine Q1.cons rfl (fun r o=>?_) Q1.nil;refine iw rfl ?_;go_simp;obtain⟨a4,m⟩:=zE (D.alloc (.cells #[.int .u32 2,.int .u32 5,.int .u32 3,.int .u32 4] 26));have o5:a4.heap[D.heap.size]?=some (.cells #[.int .u32 2,.int .u32 5,.int .u32 3,.int .u32 4] 26 (0,0)):=by rw [<-m];exact new_at rfl
    have B:Ext A a4:=by rw [<-m];exact J.alloc _
    have b3:Ext D a4:=by rw [<-m];exact(Q0.refl _ _).alloc _
    rw [m];obtain⟨u3,u⟩:=zE D.heap.size;rw [u] at o5 ⊢;have u4:=Zh o5;have c9:=Zh b3;clear m u o5 b3;refine o _ _ B (fun _=>?_);clear o r;try simp only [Act.put,pq]
    have F:Qm a4 (.slice (some ⟨M,0,none⟩) 3 3) [(5,2),(2,5),(5,2)]:=⟨_,3,rfl,⟨Zm (xs:=Ql [(5,2),(2,5),(5,2)]) (c9.out.keep (a3.out.keep (d7.out.keep (e0.out)))) rfl zd,by simp [Qw]⟩,Nat.le_refl _⟩;have K:Q4 a4 (.slice (some ⟨u3,0,none⟩) 2 2) [(2,5),(3,4)]:=⟨Zm (xs:=Ql [(2,5),(3,4)]) (u4.out) rfl zd,by simp [Qw]⟩;have d1:=Hv (Qb c6.out (c9.out)) F;have H:=Uc (d6.out.ext B) rfl d1 (List.length_replicate ..) K rfl (Nat.le_refl 2) (c0.out.keep (b4.out.trans B) id);simp only [List.map_cons,List.map_nil] at H;rw [R.out] at H;have c7:=Zh H;clear F K d1 H c6;refine rE [12] ?_;refine Q1.cons rfl (fun r o=>?_) Q1.nil;refine iw rfl ?_;go_simp;refine c7.out.mono ?_;rintro e j8 ⟨i7,i6,rfl,_,a2⟩;have t:=B.trans a2;clear a2 c7;refine o _ _ t (fun _=>?_);clear o r;try simp only [Act.put,pq]
    refine tkE (i:=13) (d:=164) (v:=?_) rfl (Or.inl ⟨by rfl,?_⟩) t ?_;rotate_left
    ·intro j l;(try dsimp only at l);go_simp;try with_reducible rfl
    try simp only [Act.put,pq]
    refine tkE (i:=14) (d:=178) (v:=?_) rfl (Or.inl ⟨by rfl,?_⟩) t ?_;rotate_left
    ·intro j l;(try dsimp only at l);go_simp;try with_reducible rfl
    try simp only [Act.put,pq]
    refine tkE (i:=15) (d:=179) (v:=?_) rfl (Or.inl ⟨by rfl,?_⟩) t ?_;rotate_left
    ·intro j l;(try dsimp only at l);go_simp;try with_reducible rfl
    try simp only [Act.put,pq]
    refine tkE (i:=16) (d:=11) (v:=?_) rfl (Or.inl ⟨by rfl,?_⟩) t ?_;rotate_left
    ·intro j l;(try dsimp only at l);go_simp;try with_reducible rfl
    try simp only [Act.put,pq]
    refine Qp kz ?_ _;have g0:=Zh t;clear G Z I J B t;go_wp2;have Q:=Zh (Uv (nl:=0) (want:=0) O.out (by split <;> rfl) c2);exact b5.out _ _ ⟨Y,0,0,_,rfl,⟨rfl,rfl,rfl,rfl,rfl,rfl,rfl,rfl⟩,Q.out.1,Q.out.2,g0.out⟩
   ·refine iw rfl ?_;go_simp;obtain⟨D,m⟩:=zE (z.alloc (.cells #[.int .u32 2,.int .u32 5,.int .u32 3,.int .u32 4] 26));have X:D.heap[z.heap.size]?=some (.cells #[.int .u32 2,.int .u32 5,.int .u32 3,.int .u32 4] 26 (0,0)):=by rw [<-m];exact new_at rfl
    have J:Ext A D:=by rw [<-m];exact I.alloc _
    have a0:Ext z D:=by rw [<-m];exact(Q0.refl _ _).alloc _
    rw [m];obtain⟨i8,u⟩:=zE z.heap.size;rw [u] at X ⊢;have e1:=Zh X;have a3:=Zh a0;clear m u X a0;refine o _ _ J (fun _=>?_);clear o r;try simp only [Act.put,pq]
    refine rE [8] ?_;refine Q1.cons rfl (fun r o=>?_) Q1.nil;refine iw rfl ?_;go_simp;refine(Ke (xc:=1) (cs:=[.slice (some ⟨M,0,none⟩) 3 3]) (Vb (a3.out.keep (d4.out))) rfl (by intro f E;simp at E;subst E;rfl) (show 1<=g by omega) (show g<=1000 by omega)).mono ?_;rintro e a4 ⟨v,rfl,s,b3⟩;obtain⟨l1,l0,rfl⟩:=Qk s;have c6:=Zh s;have c9:=Zh b3;have B:=J.trans b3;clear s b3;refine o _ _ B (fun _=>?_);clear o r;try simp only [Act.put,pq]
    have F:Qm a4 (.slice (some ⟨M,0,none⟩) 3 3) [(5,2),(2,5),(5,2)]:=⟨_,3,rfl,⟨Zm (xs:=Ql [(5,2),(2,5),(5,2)]) (c9.out.keep (a3.out.keep (d7.out.keep (e0.out)))) rfl zd,by simp [Qw]⟩,Nat.le_refl _⟩;have K:Q4 a4 (.slice (some ⟨i8,0,none⟩) 2 2) [(2,5),(3,4)]:=⟨Zm (xs:=Ql [(2,5),(3,4)]) (c9.out.keep (e1.out)) rfl zd,by simp [Qw]⟩;have d1:=Hv c6.out F;have H:=Uc (d6.out.ext B) rfl d1 (List.length_replicate ..) K rfl (Nat.le_refl 2) (c0.out.keep (b4.out.trans B) id);simp only [List.map_cons,List.map_nil] at H;rw [R.out] at H;have c7:=Zh H;clear F K d1 H c6;refine rE [12] ?_;refine Q1.cons rfl (fun r o=>?_) Q1.nil;refine iw rfl ?_;go_simp;refine c7.out.mono ?_;rintro e j8 ⟨i7,i6,rfl,_,a2⟩;have t:=B.trans a2;clear a2 c7;refine o _ _ t (fun _=>?_);clear o r;try simp only [Act.put,pq]
    refine tkE (i:=13) (d:=164) (v:=?_) rfl (Or.inl ⟨by rfl,?_⟩) t ?_;rotate_left
    ·intro j l;(try dsimp only at l);go_simp;try with_reducible rfl
    try simp only [Act.put,pq]
    refine tkE (i:=14) (d:=178) (v:=?_) rfl (Or.inl ⟨by rfl,?_⟩) t ?_;rotate_left
    ·intro j l;(try dsimp only at l);go_simp;try with_reducible rfl
    try simp only [Act.put,pq]
    refine tkE (i:=15) (d:=179) (v:=?_) rfl (Or.inl ⟨by rfl,?_⟩) t ?_;rotate_left
    ·intro j l;(try dsimp only at l);go_simp;try with_reducible rfl
    try simp only [Act.put,pq]
    refine tkE (i:=16) (d:=11) (v:=?_) rfl (Or.inl ⟨by rfl,?_⟩) t ?_;rotate_left
    ·intro j l;(try dsimp only at l);go_simp;try with_reducible rfl
    try simp only [Act.put,pq]
    refine Qp kz ?_ _;have g0:=Zh t;clear G Z I J B t;go_wp2;have Q:=Zh (Uv (nl:=0) (want:=0) O.out (by split <;> rfl) c2);exact b5.out _ _ ⟨Y,0,0,_,rfl,⟨rfl,rfl,rfl,rfl,rfl,rfl,rfl,rfl⟩,Q.out.1,Q.out.2,g0.out⟩
  ·refine iw rfl ?_;go_simp;obtain⟨z,m⟩:=zE (y.alloc (.cells #[.int .u32 2,.int .u32 5,.int .u32 3,.int .u32 4] 26));have W:z.heap[y.heap.size]?=some (.cells #[.int .u32 2,.int .u32 5,.int .u32 3,.int .u32 4] 26 (0,0)):=by rw [<-m];exact new_at rfl
   have I:Ext A z:=by rw [<-m];exact Z.alloc _
   have b2:Ext y z:=by rw [<-m];exact(Q0.refl _ _).alloc _
   rw [m];obtain⟨a1,u⟩:=zE y.heap.size;rw [u] at W ⊢;have d4:=Zh W;have d7:=Zh b2;clear m u W b2;refine o _ _ I (fun _=>?_);clear o r;try simp only [Act.put,pq]
   refine rE [5] ?_;refine Q1.cons rfl (fun r o=>?_) Q1.nil;refine iw rfl ?_;go_simp;obtain⟨D,m⟩:=zE (z.alloc (.cells #[.slice (some ⟨M,0,none⟩) 3 3] 23));have X:D.heap[z.heap.size]?=some (.cells #[.slice (some ⟨M,0,none⟩) 3 3] 23 (0,0)):=by rw [<-m];exact new_at rfl
   have J:Ext A D:=by rw [<-m];exact I.alloc _
   have a0:Ext z D:=by rw [<-m];exact(Q0.refl _ _).alloc _
   rw [m];obtain⟨i8,u⟩:=zE z.heap.size;rw [u] at X ⊢;have e1:=Zh X;have a3:=Zh a0;clear m u X a0;refine o _ _ J (fun _=>?_);clear o r;try simp only [Act.put,pq]
   refine rE [8] ?_;refine Q1.cons rfl (fun r o=>?_) Q1.nil;refine iw rfl ?_;go_simp;refine(Ke (xc:=1) (cs:=[.slice (some ⟨M,0,none⟩) 3 3]) (Vb (e1.out)) rfl (by intro f E;simp at E;subst E;rfl) (show 1<=g by omega) (show g<=1000 by omega)).mono ?_;rintro e a4 ⟨v,rfl,s,b3⟩;obtain⟨l1,l0,rfl⟩:=Qk s;have c6:=Zh s;have c9:=Zh b3;have B:=J.trans b3;clear s b3;refine o _ _ B (fun _=>?_);clear o r;try simp only [Act.put,pq]
   have F:Qm a4 (.slice (some ⟨M,0,none⟩) 3 3) [(5,2),(2,5),(5,2)]:=⟨_,3,rfl,⟨Zm (xs:=Ql [(5,2),(2,5),(5,2)]) (c9.out.keep (a3.out.keep (d7.out.keep (e0.out)))) rfl zd,by simp [Qw]⟩,Nat.le_refl _⟩;have K:Q4 a4 (.slice (some ⟨a1,0,none⟩) 2 2) [(2,5),(3,4)]:=⟨Zm (xs:=Ql [(2,5),(3,4)]) (c9.out.keep (a3.out.keep (d4.out))) rfl zd,by simp [Qw]⟩;have d1:=Hv c6.out F;have H:=Uc (d6.out.ext B) rfl d1 (List.length_replicate ..) K rfl (Nat.le_refl 2) (c0.out.keep (b4.out.trans B) id);simp only [List.map_cons,List.map_nil] at H;rw [R.out] at H;have c7:=Zh H;clear F K d1 H c6;refine rE [12] ?_;refine Q1.cons rfl (fun r o=>?_) Q1.nil;refine iw rfl ?_;go_simp;refine c7.out.mono ?_;rintro e j8 ⟨i7,i6,rfl,_,a2⟩;have t:=B.trans a2;clear a2 c7;refine o _ _ t (fun _=>?_);clear o r;try simp only [Act.put,pq]
   refine tkE (i:=13) (d:=164) (v:=?_) rfl (Or.inl ⟨by rfl,?_⟩) t ?_;rotate_left
   ·intro j l;(try dsimp only at l);go_simp;try with_reducible rfl
   try simp only [Act.put,pq]
   refine tkE (i:=14) (d:=178) (v:=?_) rfl (Or.inl ⟨by rfl,?_⟩) t ?_;rotate_left
   ·intro j l;(try dsimp only at l);go_simp;try with_reducible rfl
   try simp only [Act.put,pq]
   refine tkE (i:=15) (d:=179) (v:=?_) rfl (Or.inl ⟨by rfl,?_⟩) t ?_;rotate_left
   ·intro j l;(try dsimp only at l);go_simp;try with_reducible rfl
   try simp only [Act.put,pq]
   refine tkE (i:=16) (d:=11) (v:=?_) rfl (Or.inl ⟨by rfl,?_⟩) t ?_;rotate_left
   ·intro j l;(try dsimp only at l);go_simp;try with_reducible rfl
   try simp only [Act.put,pq]
   refine Qp kz ?_ _;have g0:=Zh t;clear G Z I J B t;go_wp2;have Q:=Zh (Uv (nl:=0) (want:=0) O.out (by split <;> rfl) c2);exact b5.out _ _ ⟨Y,0,0,_,rfl,⟨rfl,rfl,rfl,rfl,rfl,rfl,rfl,rfl⟩,Q.out.1,Q.out.2,g0.out⟩
 ·refine iw rfl ?_;go_simp;obtain⟨y,m⟩:=zE (U.alloc (.cells #[.int .u32 2,.int .u32 5,.int .u32 3,.int .u32 4] 26));have P:y.heap[U.heap.size]?=some (.cells #[.int .u32 2,.int .u32 5,.int .u32 3,.int .u32 4] 26 (0,0)):=by rw [<-m];exact new_at rfl
  have Z:Ext A y:=by rw [<-m];exact G.alloc _
  have d3:Ext U y:=by rw [<-m];exact(Q0.refl _ _).alloc _
  rw [m];obtain⟨M,u⟩:=zE U.heap.size;rw [u] at P ⊢;have e0:=Zh P;have m9:=Zh d3;clear m u P d3;refine o _ _ Z (fun _=>?_);clear o r;try simp only [Act.put,pq]
  refine rE [4] ?_;refine Q1.cons rfl (fun r o=>?_) Q1.nil;refine iw rfl ?_;go_simp;obtain⟨z,m⟩:=zE (y.alloc (.cells #[.int .u32 5,.int .u32 2,.int .u32 2,.int .u32 5,.int .u32 5,.int .u32 2] 26));have W:z.heap[y.heap.size]?=some (.cells #[.int .u32 5,.int .u32 2,.int .u32 2,.int .u32 5,.int .u32 5,.int .u32 2] 26 (0,0)):=by rw [<-m];exact new_at rfl
  have I:Ext A z:=by rw [<-m];exact Z.alloc _
  have b2:Ext y z:=by rw [<-m];exact(Q0.refl _ _).alloc _
  rw [m];obtain⟨a1,u⟩:=zE y.heap.size;rw [u] at W ⊢;have d4:=Zh W;have d7:=Zh b2;clear m u W b2;refine o _ _ I (fun _=>?_);clear o r;try simp only [Act.put,pq]
  refine rE [5] ?_;refine Q1.cons rfl (fun r o=>?_) Q1.nil;refine iw rfl ?_;go_simp;obtain⟨D,m⟩:=zE (z.alloc (.cells #[.slice (some ⟨a1,0,none⟩) 3 3] 23));have X:D.heap[z.heap.size]?=some (.cells #[.slice (some ⟨a1,0,none⟩) 3 3] 23 (0,0)):=by rw [<-m];exact new_at rfl
  have J:Ext A D:=by rw [<-m];exact I.alloc _
  have a0:Ext z D:=by rw [<-m];exact(Q0.refl _ _).alloc _
  rw [m];obtain⟨i8,u⟩:=zE z.heap.size;rw [u] at X ⊢;have e1:=Zh X;have a3:=Zh a0;clear m u X a0;refine o _ _ J (fun _=>?_);clear o r;try simp only [Act.put,pq]
  refine rE [8] ?_;refine Q1.cons rfl (fun r o=>?_) Q1.nil;refine iw rfl ?_;go_simp;refine(Ke (xc:=1) (cs:=[.slice (some ⟨a1,0,none⟩) 3 3]) (Vb (e1.out)) rfl (by intro f E;simp at E;subst E;rfl) (show 1<=g by omega) (show g<=1000 by omega)).mono ?_;rintro e a4 ⟨v,rfl,s,b3⟩;obtain⟨l1,l0,rfl⟩:=Qk s;have c6:=Zh s;have c9:=Zh b3;have B:=J.trans b3;clear s b3;refine o _ _ B (fun _=>?_);clear o r;try simp only [Act.put,pq]
  have F:Qm a4 (.slice (some ⟨a1,0,none⟩) 3 3) [(5,2),(2,5),(5,2)]:=⟨_,3,rfl,⟨Zm (xs:=Ql [(5,2),(2,5),(5,2)]) (c9.out.keep (a3.out.keep (d4.out))) rfl zd,by simp [Qw]⟩,Nat.le_refl _⟩;have K:Q4 a4 (.slice (some ⟨M,0,none⟩) 2 2) [(2,5),(3,4)]:=⟨Zm (xs:=Ql [(2,5),(3,4)]) (c9.out.keep (a3.out.keep (d7.out.keep (e0.out)))) rfl zd,by simp [Qw]⟩;have d1:=Hv c6.out F;have H:=Uc (d6.out.ext B) rfl d1 (List.length_replicate ..) K rfl (Nat.le_refl 2) (c0.out.keep (b4.out.trans B) id);simp only [List.map_cons,List.map_nil] at H;rw [R.out] at H;have c7:=Zh H;clear F K d1 H c6;refine rE [12] ?_;refine Q1.cons rfl (fun r o=>?_) Q1.nil;refine iw rfl ?_;go_simp;refine c7.out.mono ?_;rintro e j8 ⟨i7,i6,rfl,_,a2⟩;have t:=B.trans a2;clear a2 c7;refine o _ _ t (fun _=>?_);clear o r;try simp only [Act.put,pq]
  refine tkE (i:=13) (d:=164) (v:=?_) rfl (Or.inl ⟨by rfl,?_⟩) t ?_;rotate_left
  ·intro j l;(try dsimp only at l);go_simp;try with_reducible rfl
  try simp only [Act.put,pq]
  refine tkE (i:=14) (d:=178) (v:=?_) rfl (Or.inl ⟨by rfl,?_⟩) t ?_;rotate_left
  ·intro j l;(try dsimp only at l);go_simp;try with_reducible rfl
  try simp only [Act.put,pq]
  refine tkE (i:=15) (d:=179) (v:=?_) rfl (Or.inl ⟨by rfl,?_⟩) t ?_;rotate_left
  ·intro j l;(try dsimp only at l);go_simp;try with_reducible rfl
  try simp only [Act.put,pq]
  refine tkE (i:=16) (d:=11) (v:=?_) rfl (Or.inl ⟨by rfl,?_⟩) t ?_;rotate_left
  ·intro j l;(try dsimp only at l);go_simp;try with_reducible rfl
  try simp only [Act.put,pq]
  refine Qp kz ?_ _;have g0:=Zh t;clear G Z I J B t;go_wp2;have Q:=Zh (Uv (nl:=0) (want:=0) O.out (by split <;> rfl) c2);exact b5.out _ _ ⟨Y,0,0,_,rfl,⟨rfl,rfl,rfl,rfl,rfl,rfl,rfl,rfl⟩,Q.out.1,Q.out.2,g0.out⟩
theorem Q2j{w:World}{a b:Int}(d:0<=a)(g:a<256)(f:0<=b)(i:b<256)(c:Tab w) :
  Calls Tryz.prog 13 #[.int .u8 a,.int .u8 b] w fun e w'=>e=.returned (.bool true)/\Ext w w':=by
 obtain⟨k,rfl⟩:=Int.eq_ofNat_of_zero_le d;obtain⟨j,rfl⟩:=Int.eq_ofNat_of_zero_le f;exact Q5h oz oz c
end Go.Proofs.YtejenndedjabhaaGreatDoor
