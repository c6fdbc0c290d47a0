/- slices.ContainsFunc over patterns; pats.empty, Empty. -/
import Derived.Test.YtbmbdoanammlgaaDoorP11
set_option maxRecDepth 100000
set_option maxHeartbeats 8000000
namespace Go.Proofs.YtbmbdoanammlgaaDoor
open Go.RowKit Go.Ab
attribute [local go_sem] Oper.semAt_some Zx Z4
theorem Ll{l:List Pat}{F:Pat→Bool}{k:Nat}(hk:k<l.length)(h0:(l.take k).any F=false) (h:F l[k]=false):(l.take (k+1)).any F=false:=by
 rw [List.take_succ_eq_append_getElem hk,List.any_append,h0];simp [h]
theorem N3{l:List Pat}{F:Pat→Bool}{k:Nat}(hk:k<l.length)(h:F l[k]=true):l.any F=true:=
 List.any_eq_true.2 ⟨_,List.getElem_mem hk,h⟩
theorem Fh{K:Nat→Prop}{w:World}{ao:Option Addr}{cap:Nat}{l:List Pat}(hl:Qe K w l ao 0)(hlm:l.length≤maxLen)(fn:Nat)(hen:∀ args w,(callFunc fn args).run Tryd.prog w=.ok (.enter fn args) w)
  (F:Pat→Bool) (hF:∀ p∈l,∀ cs V,Ext w V→Qc K V p cs→Calls Tryd.prog fn #[.agg cs.toArray] V fun e w'=>e=.returned (.bool (F p))∧Ext V w') :
  Calls Tryd.prog 44 #[.slice ao l.length cap,.func (.func fn) #[] #[]] w fun e w'=>∃ z:Int,e=.returned (.int .i64 z)∧decide (0≤z)=l.any F∧Ext w w':=by
 unfold maxLen at hlm
 have HL:=Lib.hid hl;have HF:=Lib.hid hF
 clear hl hF
 obtain⟨N,hN⟩:∃ N,l.length=N:=⟨_,rfl⟩
 have HN:=Lib.hid hN
 rw [hN] at hlm ⊢
 clear hN
 have HEN:=Lib.hid hen
 clear hen
 go_enter Tryd.func44,Tryd.ntmps44
 go_wp2
 refine wp_loop (fun a W=>∃(k:Nat),k≤N∧a.defers=[]∧(a.tmps.size=19∧a.tmps.getD 0 undef=.slice ao N cap∧a.tmps.getD 1 undef=.func (.func fn) #[] #[]∧a.tmps.getD 7 undef=.int .i64 N∧a.tmps.getD 8 undef=.int .i64 k)∧(l.take k).any F=false∧Ext w W)
  (fun a _=>N - (intOf (a.tmps.getD 8 undef)).toNat) ?_ ?_
 ·exact⟨0,by omega,rfl,⟨rfl,rfl,rfl,rfl,rfl⟩,by simp,Q1.refl _ _⟩
 rintro⟨t,_⟩ W ⟨k,hk,hds,⟨hsz,f0,f1,f7,f8⟩,hall,hE⟩
 subst hds
 obtain⟨u',hu⟩:=Zb hsz
 obtain⟨u,rfl⟩:∃ x,x=u':=⟨_,rfl⟩
 have hu':t=#[u 0,u 1,u 2,u 3,u 4,u 5,u 6,u 7,u 8,u 9,u 10,u 11,u 12,u 13,u 14,u 15,u 16,u 17,u 18]:=hu
 clear hu
 subst hu'
 change u 0=_ at f0
 change u 1=_ at f1
 change u 7=_ at f7
 change u 8=_ at f8
 rw [f0,f1,f7,f8]
 clear f0 f1 f7 f8 hsz
 have HALL:=Lib.hid hall
 clear hall
 by_cases hkN:k<N
 ·have h1:(k:Int)<(N:Int):=by omega
  have hkl:k<l.length:=by rw [HN.out];exact hkN
  obtain⟨g,off,c,rfl,hg,hgl,hra,hp⟩:=(HL.out.ext hE).get k hkl
  rw [Nat.zero_add] at hra
  obtain⟨qo,qcap,hcq,_,_,_⟩:=Qj hp
  obtain⟨c0,c1,c2,c3,c4,c5,c6⟩:=Zt hra hcq
  have hc:=HF.out _ (List.getElem_mem hkl) c W hE hp
  rw [hcq] at hc
  unfold Q2 at hc
  have HC:=Lib.hid hc
  have hen:=HEN.out
  clear hc hra hp hcq
  go_wp2_with fail
  clear hen
  refine HC.out.mono ?_
  rintro e W2 ⟨rfl,hE2⟩
  have hE02:=hE.trans hE2
  clear HC hE hE2 c0 c1 c2 c3 c4 c5 c6
  cases hok:F l[k]
  ·have hfin:=Ll hkl HALL.out hok
   have HFI:=Lib.hid hfin
   clear hfin hok
   go_wp2
   exact⟨⟨k+1,by omega,by first | rfl | trivial,⟨rfl,rfl,rfl,rfl,rfl⟩,HFI.out,hE02⟩,by simp [intOf];omega⟩
  ·have hfin:=N3 hkl hok
   have HFI:=Lib.hid hfin
   clear hfin hok
   go_wp2
   go_ret
   exact⟨_,rfl,by rw [HFI.out];simp,hE02⟩
 ·obtain rfl:k=N:=by omega
  have h1:¬ (k:Int)<(k:Int):=by omega
  have hfin:l.any F=false:=by have:=HALL.out;rwa [List.take_of_length_le (by rw [HN.out];exact Nat.le_refl _)] at this
  have HFI:=Lib.hid hfin
  clear hfin
  go_wp2
  go_ret
  exact⟨_,rfl,by rw [HFI.out];simp,hE⟩
theorem Uo{K:Nat→Prop}{w:World}{ao:Option Addr}{cap:Nat}{l:List Pat}(hl:Qe K w l ao 0)(hlm:l.length≤maxLen)(fn:Nat)(hen:∀ args w,(callFunc fn args).run Tryd.prog w=.ok (.enter fn args) w)
  (F:Pat→Bool) (hF:∀ p∈l,∀ cs V,Ext w V→Qc K V p cs→Calls Tryd.prog fn #[.agg cs.toArray] V fun e w'=>e=.returned (.bool (F p))∧Ext V w') :
  Calls Tryd.prog 41 #[.slice ao l.length cap,.func (.func fn) #[] #[]] w fun e w'=>e=.returned (.bool (l.any F))∧Ext w w':=by
 have hi:=Fh hl hlm (cap:=cap) fn hen F hF
 have HI:=Lib.hid hi
 clear hi hF hl hen
 go_enter Tryd.func41,Tryd.ntmps41
 go_wp2_with fail
 refine HI.out.mono ?_
 rintro e w2 ⟨z,rfl,hz,hE⟩
 have HZ:=Lib.hid hz
 clear hz
 go_wp2
 go_ret
 exact⟨by rw [← HZ.out];rfl,hE⟩
mutual
def Xh:Pat→Pat→Bool
 | .node k pl mi nt mn mx l,q=>k == q.k && (pl == q.pl && mi == q.mi) && nt == q.nt && mn == q.mn && mx == q.mx && Zm l q.l
def Zm:List Pat→List Pat→Bool
 | [],r=>r.isEmpty
 | p::l,r=>(match r with | []=>false | q::r=>Xh p q && Zm l r)
end
theorem La(k:Int)(pl mi:Nat)(nt:Bool)(mn mx:Int)(l:List Pat)(q:Pat):Xh (.node k pl mi nt mn mx l) q=(k == q.k && (pl == q.pl && mi == q.mi) && nt == q.nt && mn == q.mn && mx == q.mx && Zm l q.l):=by
 unfold Xh;rfl
theorem Km(p q:Pat)(l r:List Pat):Zm (p::l) (q::r)=(Xh p q && Zm l r):=by
 rw [Zm]
theorem Fs:Zm [] []=true:=by rw [Zm];rfl
theorem Gh:∀ {l r:List Pat},Zm l r=true→l.length=r.length
 | [],[],_=>rfl
 | [],q::r,h=>by rw [Zm] at h;cases h
 | p::l,[],h=>by rw [Zm] at h;cases h
 | p::l,q::r,h=>by
  rw [Km,Bool.and_eq_true] at h
  simp [Gh h.2]
theorem Dn{l r:List Pat}{k:Nat}(h1:k<l.length)(h2:k<r.length):Zm (l.drop k) (r.drop k)=(Xh l[k] r[k] && Zm (l.drop (k+1)) (r.drop (k+1))):=by
 rw [List.drop_eq_getElem_cons h1,List.drop_eq_getElem_cons h2,Km]
theorem Dw{K:Nat→Prop}{w:World}{ao bo:Option Addr}{cap bcap:Nat}{l r:List Pat}(hl:Qe K w l ao 0)(hr:Qe K w r bo 0)(hlm:l.length≤maxLen)(hrm:r.length≤maxLen)
  (hF:∀ p∈l,∀ q∈r,∀ cs ds V,Ext w V→Qc K V p cs→Qc K V q ds→Calls Tryd.prog 22 #[.agg cs.toArray,.agg ds.toArray] V fun e w'=>e=.returned (.bool (Xh p q))∧Ext V w') :
  Calls Tryd.prog 34 #[.slice ao l.length cap,.slice bo r.length bcap,.func (.func 22) #[] #[]] w fun e w'=>e=.returned (.bool (Zm l r))∧Ext w w':=by
 unfold maxLen at hlm hrm
 have HL:=Lib.hid hl;have HR:=Lib.hid hr;have HF:=Lib.hid hF
 clear hl hr hF
 obtain⟨N,hN⟩:∃ N,l.length=N:=⟨_,rfl⟩
 obtain⟨M,hM⟩:∃ M,r.length=M:=⟨_,rfl⟩
 have HN:=Lib.hid hN;have HM:=Lib.hid hM
 rw [hN] at hlm ⊢
 rw [hM] at hrm ⊢
 clear hN hM
 by_cases hNM:N=M
 ·subst hNM
  go_enter Tryd.func34,Tryd.ntmps34
  go_wp2
  refine wp_loop (fun a W=>∃(k:Nat),k≤N∧a.defers=[]∧(a.tmps.size=32∧a.tmps.getD 1 undef=.slice bo N bcap∧a.tmps.getD 2 undef=.func (.func 22) #[] #[]∧a.tmps.getD 15 undef=.slice ao N cap∧a.tmps.getD 16 undef=.int .i64 N∧a.tmps.getD 17 undef=.int .i64 k)∧Zm (l.drop k) (r.drop k)=Zm l r∧Ext w W)
   (fun a _=>N - (intOf (a.tmps.getD 17 undef)).toNat) ?_ ?_
  ·exact⟨0,by omega,rfl,⟨rfl,rfl,rfl,rfl,rfl,rfl⟩,rfl,Q1.refl _ _⟩
  rintro⟨t,_⟩ W ⟨k,hk,hds,⟨hsz,f1,f2,f15,f16,f17⟩,hall,hE⟩
  subst hds
  obtain⟨u',hu⟩:=Zb hsz
  obtain⟨u,rfl⟩:∃ x,x=u':=⟨_,rfl⟩
  have hu':t=#[u 0,u 1,u 2,u 3,u 4,u 5,u 6,u 7,u 8,u 9,u 10,u 11,u 12,u 13,u 14,u 15,u 16,u 17,u 18,u 19,u 20,u 21,u 22,u 23,u 24,u 25,u 26,u 27,u 28,u 29,u 30,u 31]:=hu
  clear hu
  subst hu'
  change u 1=_ at f1
  change u 2=_ at f2
  change u 15=_ at f15
  change u 16=_ at f16
  change u 17=_ at f17
  rw [f1,f2,f15,f16,f17]
  clear f1 f2 f15 f16 f17 hsz
  have HALL:=Lib.hid hall
  clear hall
  by_cases hkN:k<N
  ·have h1:(k:Int)<(N:Int):=by omega
   have hkl:k<l.length:=by rw [HN.out];exact hkN
   have hkr:k<r.length:=by rw [HM.out];exact hkN
   obtain⟨g,off,c,rfl,hg,hgl,hra,hp⟩:=(HL.out.ext hE).get k hkl
   obtain⟨g',off',c',rfl,hg',hgl',hra',hp'⟩:=(HR.out.ext hE).get k hkr
   rw [Nat.zero_add] at hra hra'
   obtain⟨qo,qcap,hcq,_,_,_⟩:=Qj hp
   obtain⟨qo',qcap',hcq',_,_,_⟩:=Qj hp'
   obtain⟨c0,c1,c2,c3,c4,c5,c6⟩:=Zt hra hcq
   obtain⟨d0,d1,d2,d3,d4,d5,d6⟩:=Zt hra' hcq'
   have hd:=Dn hkl hkr
   rw [HALL.out] at hd
   have hc:=fun V (hE2:Ext W V)=>HF.out _ (List.getElem_mem hkl) _ (List.getElem_mem hkr) c c' V (hE.trans hE2) (hp.ext hE2) (hp'.ext hE2)
   obtain⟨lb,hlb⟩:∃ b,Xh l[k] r[k]=b:=⟨_,rfl⟩
   rw [hlb] at hc hd
   rw [hcq,hcq'] at hc
   unfold Q2 at hc
   have HC:=Lib.hid hc;have HD:=Lib.hid hd
   clear hc hra hra' hp hp' hcq hcq' hd hlb
   go_wp2_with fail
   refine(HC.out _ (((Q1.refl _ W).alloc _).alloc _)).mono ?_
   rintro e W2 ⟨rfl,hE2⟩
   have hE02:Ext w W2:=hE.trans (Q1.trans (((Q1.refl _ W).alloc _).alloc _) hE2)
   clear hE hE2 c0 c1 c2 c3 c4 c5 c6 d0 d1 d2 d3 d4 d5 d6 HC
   cases lb
   ·go_wp2
    go_ret
    exact⟨by rw [HD.out,Bool.false_and];rfl,hE02⟩
   ·have hd:Zm (l.drop (k+1)) (r.drop (k+1))=Zm l r:=by rw [HD.out,Bool.true_and]
    have HD2:=Lib.hid hd
    clear hd
    go_wp2
    exact⟨⟨k+1,by omega,by first | rfl | trivial,⟨rfl,rfl,rfl,rfl,rfl,rfl⟩,HD2.out,hE02⟩,by simp [intOf];omega⟩
  ·obtain rfl:k=N:=by omega
   have h1:¬ (k:Int)<(k:Int):=by omega
   have hfin:Zm l r=true:=by
    rw [← HALL.out,List.drop_of_length_le (by rw [HN.out];exact Nat.le_refl _),List.drop_of_length_le (by rw [HM.out];exact Nat.le_refl _)];exact Fs
   have HFI:=Lib.hid hfin
   clear hfin
   go_wp2
   go_ret
   exact⟨by rw [HFI.out];rfl,hE⟩
 ·have hfin:Zm l r=false:=by
   cases h:Zm l r with
   | false=>rfl
   | true=>exact absurd (by rw [← HN.out,← HM.out];exact Gh h) hNM
  have HFI:=Lib.hid hfin
  have h1:((N:Int) ==(M:Int))=false:=by rw [beq_eq_false_iff_ne];omega
  clear hfin
  go_enter Tryd.func34,Tryd.ntmps34
  go_wp2
  go_ret
  exact⟨by rw [HFI.out];rfl,Q1.refl _ _⟩
def Kd(p:Pat):Prop:=∀(K:Nat→Prop) (w:World) (q:Pat) (cs ds:List Value),Qc K w p cs→Qc K w q ds →
 Calls Tryd.prog 22 #[.agg cs.toArray,.agg ds.toArray] w fun e w'=>e=.returned (.bool (Xh p q))∧Ext w w'
theorem F7(k:Int)(pl mi:Nat)(nt:Bool)(mn mx:Int)(l:List Pat)(ih:∀ p∈l,Kd p):Kd (.node k pl mi nt mn mx l):=by
 intro K w q cs ds hp hq
 unfold Qc at hp
 obtain⟨ao,cap,rfl,hpl,hmi,hlc,hcm,hl⟩:=hp
 obtain⟨qk,qpl,qmi,qnt,qmn,qmx,r⟩:=q
 unfold Qc at hq
 obtain⟨bo,bcap,rfl,hql,hqi,hrc,hbm,hr⟩:=hq
 have hE1:Ext w ((w.alloc (.cells (Q2 k pl mi nt mn mx ao l.length cap).toArray 27)).alloc (.cells (Q2 qk qpl qmi qnt qmn qmx bo r.length bcap).toArray 27)):=((Q1.refl _ w).alloc _).alloc _
 have hc:=Dw (cap:=cap) (bcap:=bcap) (hl.ext hE1) (hr.ext hE1) (Nat.le_trans hlc hcm) (Nat.le_trans hrc hbm) (fun p hm q _ cs ds V _ h1 h2=>ih p hm K V q cs ds h1 h2)
 have HE:Hid (Xh (.node k pl mi nt mn mx l) (.node qk qpl qmi qnt qmn qmx r)=(k == qk && (pl == qpl && mi == qmi) && nt == qnt && mn == qmn && mx == qmx && Zm l r)):=Lib.hid (La ..)
 unfold Q2 at hc hE1 ⊢
 obtain⟨N,hN⟩:∃ N,l.length=N:=⟨_,rfl⟩
 obtain⟨M,hM⟩:∃ M,r.length=M:=⟨_,rfl⟩
 rw [hN,hM] at hc hE1 ⊢
 obtain⟨lb,hlb⟩:∃ b,Zm l r=b:=⟨_,rfl⟩
 rw [hlb] at hc HE
 have HC:=Lib.hid hc
 clear hc hl hr ih hlc hcm hrc hbm hlb hN hM
 by_cases e1:k=qk
 ·by_cases e2:(pl=qpl∧mi=qmi)
  ·by_cases e3:nt=qnt
   ·by_cases e4:mn=qmn
    ·by_cases e5:mx=qmx
     ·obtain⟨rfl,rfl⟩:=e2
      subst e1;subst e3;subst e4;subst e5
      go_enter Tryd.func22,Tryd.ntmps22
      go_wp2_with fail
      refine HC.out.mono ?_
      rintro e w2 ⟨rfl,hE⟩
      have hE2:Ext w w2:=hE1.trans hE
      clear hE hE1 HC
      go_wp2
      go_ret
      exact⟨by rw [HE.out];simp,hE2⟩
     ·obtain⟨rfl,rfl⟩:=e2
      subst e1;subst e3;subst e4
      have q1:(mx == qmx)=false:=by rw [beq_eq_false_iff_ne];exact e5
      rw [q1] at HE
      go_enter Tryd.func22,Tryd.ntmps22
      go_wp2_with fail
      go_ret
      exact⟨by rw [HE.out];simp,hE1⟩
    ·obtain⟨rfl,rfl⟩:=e2
     subst e1;subst e3
     have q1:(mn == qmn)=false:=by rw [beq_eq_false_iff_ne];exact e4
     rw [q1] at HE
     go_enter Tryd.func22,Tryd.ntmps22
     go_wp2_with fail
     go_ret
     exact⟨by rw [HE.out];simp,hE1⟩
   ·obtain⟨rfl,rfl⟩:=e2
    subst e1
    have q1:(nt == qnt)=false:=by rw [beq_eq_false_iff_ne];exact e3
    rw [q1] at HE
    go_enter Tryd.func22,Tryd.ntmps22
    go_wp2_with fail
    go_ret
    exact⟨by rw [HE.out];simp,hE1⟩
  ·subst e1
   by_cases e6:pl=qpl
   ·subst e6
    have e7:mi≠qmi:=fun h=>e2 ⟨rfl,h⟩
    have q1:((mi:Int) ==(qmi:Int))=false:=by rw [beq_eq_false_iff_ne];omega
    have q2:(mi == qmi)=false:=by rw [beq_eq_false_iff_ne];exact e7
    rw [q2] at HE
    clear q2 e7 e2
    go_enter Tryd.func22,Tryd.ntmps22
    go_wp2_with fail
    go_ret
    exact⟨by rw [HE.out];simp,hE1⟩
   ·have q1:((pl:Int) ==(qpl:Int))=false:=by rw [beq_eq_false_iff_ne];omega
    have q2:(pl == qpl)=false:=by rw [beq_eq_false_iff_ne];exact e6
    rw [q2] at HE
    clear q2 e6 e2
    go_enter Tryd.func22,Tryd.ntmps22
    go_wp2_with fail
    go_ret
    exact⟨by rw [HE.out];simp,hE1⟩
 ·have q1:(k == qk)=false:=by rw [beq_eq_false_iff_ne];exact e1
  rw [q1] at HE
  go_enter Tryd.func22,Tryd.ntmps22
  go_wp2_with fail
  go_ret
  exact⟨by rw [HE.out];simp,hE1⟩
mutual
theorem Hu:∀ p:Pat,Kd p
 | .node k pl mi nt mn mx l=>F7 k pl mi nt mn mx l (Gp l)
theorem Gp:∀ l:List Pat,∀ p∈l,Kd p
 | [],_,h=>by cases h
 | q::l,p,h=>(List.mem_cons.1 h).elim (fun e=>e ▸ Hu q) (fun h=>Gp l p h)
end
def Jr(p q:Pat):Bool:=decide (Ze p=0) && decide (Ze q=0) && Xh p q
theorem G8{K:Nat→Prop}{w:World}{p q:Pat}{cs ds:List Value}(hp:Qc K w p cs)(hq:Qc K w q ds)(hK:∀ g,K g→g<w.heap.size)(hT:Tab w) :
  Calls Tryd.prog 10 #[.agg cs.toArray,.agg ds.toArray] w fun e w'=>e=.returned (.bool (Jr p q))∧Ext w w':=by
 have hck:=fun(V:World) (hE:Ext w V)=>Zp (K:=K) (hp.ext hE) (fun g hg=>Nat.lt_of_lt_of_le (hK g hg) hE.size) (hT.keep hE id)
 have hcq:=fun(V:World) (hE:Ext w V)=>Zp (K:=K) (hq.ext hE) (fun g hg=>Nat.lt_of_lt_of_le (hK g hg) hE.size) (hT.keep hE id)
 have hlk:=fun(V:World) (hE:Ext w V)=>Hu p K V q cs ds (hp.ext hE) (hq.ext hE)
 obtain⟨ao,cap,rfl,hlc,hcm,_⟩:=Qj hp
 obtain⟨bo,bcap,rfl,hlc',hcm',_⟩:=Qj hq
 clear hp hq hlc hcm hlc' hcm' hT hK
 obtain⟨z,hz⟩:∃ z,Ze p=z:=⟨_,rfl⟩
 obtain⟨y,hy⟩:∃ z,Ze q=z:=⟨_,rfl⟩
 obtain⟨lb,hlb⟩:∃ b,Xh p q=b:=⟨_,rfl⟩
 have HE:Hid (Jr p q=(decide (z=0) && decide (y=0) && lb)):=Lib.hid (by unfold Jr;rw [hz,hy,hlb])
 have HCK:=Lib.hid hck;have HCQ:=Lib.hid hcq;have HLK:=Lib.hid hlk
 rw [hz] at HCK
 rw [hy] at HCQ
 rw [hlb] at HLK
 clear hck hcq hlk hz hy hlb
 unfold Q2 at HCK HCQ HLK ⊢
 go_enter Tryd.func10,Tryd.ntmps10
 go_wp2_with fail
 refine(HCK.out _ (((Q1.refl _ w).alloc _).alloc _)).mono ?_
 rintro e w2 ⟨rfl,hE2⟩
 have hE02:Ext w w2:=Q1.trans (((Q1.refl _ w).alloc _).alloc _) hE2
 have hx:w2.heap[w.heap.size]?=some (.cells #[.int .i64 p.k,.int .u32 (p.pl:Int),.int .u32 (p.mi:Int),.bool p.nt,.int .i64 p.mn,.int .i64 p.mx,.slice ao p.l.length cap] 27 (0,0)):=hE2.keep (Qs (Q9 rfl))
 have hx':w2.heap[w.heap.size+1]?=some (.cells #[.int .i64 q.k,.int .u32 (q.pl:Int),.int .u32 (q.mi:Int),.bool q.nt,.int .i64 q.mn,.int .i64 q.mx,.slice bo q.l.length bcap] 27 (0,0)):=hE2.keep (Q9 (by simp))
 have cX:=fun j=>cell_of_row _ _ j _ _ _ hx
 have cY:=fun j=>cell_of_row _ _ j _ _ _ hx'
 clear hE2
 by_cases hz0:z=0
 ·have hz1:(z == 0)=true:=by rw [beq_iff_eq];exact hz0
  go_wp2_with fail
  refine(HCQ.out _ hE02).mono ?_
  rintro e w3 ⟨rfl,hE3⟩
  have hE03:=hE02.trans hE3
  have hx3:=hE3.keep hx
  have hx3':=hE3.keep hx'
  clear hE3 cX cY hx hx'
  have cX:=fun j=>cell_of_row _ _ j _ _ _ hx3
  have cY:=fun j=>cell_of_row _ _ j _ _ _ hx3'
  by_cases hy0:y=0
  ·have hy1:(y == 0)=true:=by rw [beq_iff_eq];exact hy0
   go_wp2_with fail
   refine(HLK.out _ hE03).mono ?_
   rintro e w4 ⟨rfl,hE4⟩
   have hE04:=hE03.trans hE4
   clear hE4 cX cY hx3 hx3'
   go_wp2
   go_ret
   exact⟨by rw [HE.out,decide_eq_true hz0,decide_eq_true hy0,Bool.true_and,Bool.true_and];rfl,hE04⟩
  ·have hy1:(y == 0)=false:=by rw [beq_eq_false_iff_ne];exact hy0
   go_wp2
   go_ret
   exact⟨by rw [HE.out,decide_eq_false hy0,Bool.and_false,Bool.false_and];rfl,hE03⟩
 ·have hz1:(z == 0)=false:=by rw [beq_eq_false_iff_ne];exact hz0
  go_wp2
  go_ret
  exact⟨by rw [HE.out,decide_eq_false hz0,Bool.false_and,Bool.false_and];rfl,hE02⟩
end Go.Proofs.YtbmbdoanammlgaaDoor
