/- pats.empty, Empty. -/
import Derived.Test.YtbmbdoanammlgaaDoorP13
import Derived.Test.YtbmbdoanammlgaaDoorP14
set_option maxRecDepth 100000
set_option maxHeartbeats 8000000
namespace Go.Proofs.YtbmbdoanammlgaaDoor
open Go.RowKit Go.Ab
attribute [local go_sem] Oper.semAt_some Zx Z4
def Vf(p:Pat):Prop:=∀(K:Nat→Prop) (w:World) (cs:List Value),Qc K w p cs→Yh p →
 Calls Tryd.prog 28 #[.agg cs.toArray] w fun e w'=>e=.returned (.bool (Zi p))∧Ext w w'
theorem Dt{K:Nat→Prop}{w:World}{p:Pat}{cs:List Value}(h:Vf p)(hp:Qc K w p cs)(hok:Yh p) :
  Calls Tryd.prog 42 #[.agg cs.toArray] w fun e w'=>e=.returned (.bool (!Zi p))∧Ext w w':=by
 have hE1:Ext w (w.alloc (.cells cs.toArray 27)):=(Q1.refl _ w).alloc _
 have hc:=h K _ cs (hp.ext hE1) hok
 obtain⟨qo,qcap,hcq,_,_,_⟩:=Qj hp
 rw [hcq] at hc ⊢
 unfold Q2 at hc ⊢
 obtain⟨eb,heb⟩:∃ b,Zi p=b:=⟨_,rfl⟩
 rw [heb] at hc ⊢
 have HC:=Lib.hid hc
 clear hc hcq hE1 heb
 go_enter Tryd.func42,Tryd.ntmps42
 go_wp2_with fail
 refine HC.out.mono ?_
 rintro e w2 ⟨rfl,hE⟩
 have hE2:Ext w w2:=Q1.trans ((Q1.refl _ w).alloc _) hE
 clear hE
 cases eb
 all_goals
  go_wp2
  go_ret
  exact⟨rfl,hE2⟩
theorem D5(k:Int)(pl mi:Nat)(nt:Bool)(mn mx:Int)(l:List Pat)(ih:∀ p∈l,Vf p):Vf (.node k pl mi nt mn mx l):=by
 intro K w cs hp hok
 have hp0:=hp
 unfold Qc at hp
 obtain⟨ao,cap,rfl,hpl,hmi,hlc,hcm,hl⟩:=hp
 unfold Yh at hok
 obtain⟨hn,hl40,hoks⟩:=hok
 obtain⟨hk0,g1,g2,g3,h5,g4⟩:=J0 hn
 clear g1 g2 g3 g4
 have hok2:=U5.1 hoks
 have hlm:l.length≤maxLen:=Nat.le_trans hlc hcm
 have HNOT:Hid (∀ V,Ext w V→Calls Tryd.prog 41 #[.slice ao l.length cap,.func (.func 42) #[] #[]] V fun e w'=>e=.returned (.bool (l.any fun p=>!Zi p))∧Ext V w'):=
  Lib.hid fun V hE=>Uo (hl.ext hE) hlm _ (enters_of Tryd.func42 (by kernel_rfl) rfl) (fun p=>!Zi p) (fun p hm cs V2 _ hp=>Dt (ih p hm) hp (hok2 p hm))
 have HANY:Hid (∀ V,Ext w V→Calls Tryd.prog 41 #[.slice ao l.length cap,.func (.func 28) #[] #[]] V fun e w'=>e=.returned (.bool (l.any Zi))∧Ext V w'):=
  Lib.hid fun V hE=>Uo (hl.ext hE) hlm _ (enters_of Tryd.func28 (by kernel_rfl) rfl) Zi (fun p hm cs V2 _ hp=>ih p hm K V2 cs hp (hok2 p hm))
 have h1:Hid (k=5→∃(q:Pat) (g off:Nat) (c:List Value),l=[q]∧ao=some ⟨g,off,none⟩∧g<w.heap.size∧w.rangeAt g off c∧Qc K w q c∧Yh q∧Vf q):=Lib.hid fun h=>by
  obtain⟨hl1,_⟩:=h5 h
  match l,hl1 with
  | [q],_=>
   obtain⟨g,off,c,h2,_,h3,h4,h6⟩:=hl.get 0 (by simp)
   exact⟨q,g,off,c,rfl,h2,h3,by simpa using h4,h6,hok2 q (by simp),ih q (by simp)⟩
 have HE:Hid (Zi (.node k pl mi nt mn mx l)=if k=0 then true else if k=3 then Kv l else if k=4 then Kz l else if k=5 then mn == 0 || Kk l else false):=Lib.hid (F9 ..)
 unfold Q2
 obtain⟨N,hN⟩:∃ N,l.length=N:=⟨_,rfl⟩
 have HN5:Hid (k=5→0<N):=Lib.hid fun h=>by rw [← hN];have:=(h5 h).1;omega
 rw [hN] at HNOT HANY ⊢
 have hE1:Ext w (w.alloc (.cells #[.int .i64 k,.int .u32 (pl:Int),.int .u32 (mi:Int),.bool nt,.int .i64 mn,.int .i64 mx,.slice ao N cap] 27)):=(Q1.refl _ w).alloc _
 clear hp0 hpl hmi hlc hcm hl hn hl40 hoks h5 hok2 hlm ih hN
 by_cases hk0:k=0
 ·rw [if_pos hk0] at HE
  subst hk0
  go_enter Tryd.func28,Tryd.ntmps28
  go_wp2
  go_ret
  exact⟨by rw [HE.out];rfl,hE1⟩
 ·rw [if_neg hk0] at HE
  by_cases hk3:k=3
  ·rw [if_pos hk3] at HE
   subst hk3
   have hc:=HNOT.out _ hE1
   obtain⟨eb,heb⟩:∃ b,(l.any fun p=>!Zi p)=b:=⟨_,rfl⟩
   rw [heb] at hc
   rw [Mg,heb] at HE
   have HC:=Lib.hid hc
   clear hc heb
   go_enter Tryd.func28,Tryd.ntmps28
   go_wp2_with fail
   refine HC.out.mono ?_
   rintro e w2 ⟨rfl,hE⟩
   have hE2:Ext w w2:=hE1.trans hE
   clear hE hE1
   cases eb
   all_goals
    go_wp2
    go_ret
    exact⟨by rw [HE.out];rfl,hE2⟩
  ·rw [if_neg hk3] at HE
   by_cases hk4:k=4
   ·rw [if_pos hk4] at HE
    subst hk4
    have hc:=HANY.out _ hE1
    rw [Ml] at HE
    have HC:=Lib.hid hc
    clear hc
    go_enter Tryd.func28,Tryd.ntmps28
    go_wp2_with fail
    refine HC.out.mono ?_
    rintro e w2 ⟨rfl,hE⟩
    have hE2:Ext w w2:=hE1.trans hE
    clear hE hE1
    go_wp2
    go_ret
    exact⟨by rw [HE.out];rfl,hE2⟩
   ·rw [if_neg hk4] at HE
    by_cases hk5:k=5
    ·rw [if_pos hk5] at HE
     have hN0:=HN5.out hk5
     obtain⟨q,g,off,c,rfl,rfl,hg,hra,hq,hokq,hem⟩:=h1.out hk5
     subst hk5
     obtain⟨qo,qcap,hcq,_,_,_⟩:=Qj hq
     have hc:=hem K _ c (hq.ext hE1) hokq
     rw [hcq] at hc
     obtain⟨c0,c1,c2,c3,c4,c5,c6⟩:=Zt (J8 hE1 hra id) hcq
     have hh:Kk [q]=Zi q:=by unfold Kk;rfl
     rw [hh] at HE
     obtain⟨eb,heb⟩:∃ b,Zi q=b:=⟨_,rfl⟩
     rw [heb] at hc HE
     unfold Q2 at hc
     have HC:=Lib.hid hc
     clear hc heb hh hcq hra hq h1 HNOT HANY hem hokq
     by_cases hm:mn=0
     ·subst hm
      go_enter Tryd.func28,Tryd.ntmps28
      go_wp2
      go_ret
      exact⟨by rw [HE.out];rfl,hE1⟩
     ·have hm2:(mn == 0)=false:=by rw [beq_eq_false_iff_ne];exact hm
      go_enter Tryd.func28,Tryd.ntmps28
      rw [hm2,Bool.false_or] at HE
      go_wp2_with fail
      refine HC.out.mono ?_
      rintro e w2 ⟨rfl,hE⟩
      have hE2:Ext w w2:=hE1.trans hE
      clear hE hE1 c0 c1 c2 c3 c4 c5 c6
      go_wp2
      go_ret
      exact⟨by rw [HE.out];rfl,hE2⟩
    ·rw [if_neg hk5] at HE
     have q0:(k == 0)=false:=by rw [beq_eq_false_iff_ne];exact hk0
     have q3:(k == 3)=false:=by rw [beq_eq_false_iff_ne];exact hk3
     have q4:(k == 4)=false:=by rw [beq_eq_false_iff_ne];exact hk4
     have q5:(k == 5)=false:=by rw [beq_eq_false_iff_ne];exact hk5
     clear h1 HNOT HANY
     go_enter Tryd.func28,Tryd.ntmps28
     go_wp2
     go_ret
     exact⟨by rw [HE.out];rfl,hE1⟩
mutual
theorem G7:∀ p:Pat,Vf p
 | .node k pl mi nt mn mx l=>D5 k pl mi nt mn mx l (Ki l)
theorem Ki:∀ l:List Pat,∀ p∈l,Vf p
 | [],_,h=>by cases h
 | q::l,p,h=>(List.mem_cons.1 h).elim (fun e=>e ▸ G7 q) (fun h=>Ki l p h)
end
theorem X7{K:Nat→Prop}{w:World}{p:Pat}{cs:List Value}(hp:Qc K w p cs)(hK:∀ g,K g→g<w.heap.size)(hT:Tab w) :
  Calls Tryd.prog 17 #[.agg cs.toArray] w fun e w'=>e=.returned (.bool (Xw p))∧Ext w w':=by
 have hck:=fun(V:World) (hE:Ext w V)=>Zp (K:=K) (hp.ext hE) (fun g hg=>Nat.lt_of_lt_of_le (hK g hg) hE.size) (hT.keep hE id)
 have hem:=fun(V:World) (hE:Ext w V)=>G7 p K V cs (hp.ext hE)
 obtain⟨ao,cap,rfl,hlc,hcm,_⟩:=Qj hp
 clear hp hlc hcm hT hK
 have HCK:=Lib.hid hck;have HEM:=Lib.hid hem
 clear hck hem
 obtain⟨z,hz⟩:∃ z,Ze p=z:=⟨_,rfl⟩
 obtain⟨eb,heb⟩:∃ b,Zi p=b:=⟨_,rfl⟩
 have HE:Hid (Xw p=(decide (z=0) && eb)):=Lib.hid (by unfold Xw;rw [hz,heb])
 have HZ:=Lib.hid hz
 rw [hz] at HCK
 rw [heb] at HEM
 clear hz heb
 unfold Q2 at HCK HEM ⊢
 go_enter Tryd.func17,Tryd.ntmps17
 go_wp2_with fail
 refine(HCK.out _ ((Q1.refl _ w).alloc _)).mono ?_
 rintro e w2 ⟨rfl,hE2⟩
 have hE02:Ext w w2:=Q1.trans ((Q1.refl _ w).alloc _) hE2
 have hx:w2.heap[w.heap.size]?=some (.cells #[.int .i64 p.k,.int .u32 (p.pl:Int),.int .u32 (p.mi:Int),.bool p.nt,.int .i64 p.mn,.int .i64 p.mx,.slice ao p.l.length cap] 27 (0,0)):=hE2.keep (Q9 rfl)
 have cX:=fun j=>cell_of_row _ _ j _ _ _ hx
 clear hE2
 by_cases hz0:z=0
 ·have hz1:(z == 0)=true:=by rw [beq_iff_eq];exact hz0
  have hem:=HEM.out _ hE02 (Kw (HZ.out.trans hz0))
  have HE2:=Lib.hid hem
  clear hem
  go_wp2_with fail
  refine HE2.out.mono ?_
  rintro e w3 ⟨rfl,hE3⟩
  have hE03:=hE02.trans hE3
  clear hE3
  go_wp2
  go_ret
  exact⟨by rw [HE.out,decide_eq_true hz0,Bool.true_and];rfl,hE03⟩
 ·have hz1:(z == 0)=false:=by rw [beq_eq_false_iff_ne];exact hz0
  go_wp2
  go_ret
  exact⟨by rw [HE.out,decide_eq_false hz0];rfl,hE02⟩
end Go.Proofs.YtbmbdoanammlgaaDoor
