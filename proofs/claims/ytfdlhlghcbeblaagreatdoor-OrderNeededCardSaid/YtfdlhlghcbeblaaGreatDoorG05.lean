/- pats.valid, and slices.ContainsFunc over the sounds of a word. pats.allowed: the error of a node alone. A range over a function whose loop variables are boxed. No program is named. Rows of the call's own: the last element taken away, and written over. No program is named. slices.Backward over patterns. -/
import Derived.Test.YtfdlhlghcbeblaaGreatDoorG04
import Derived.Test.YtfdlhlghcbeblaaGreatDoorG00
import Derived.Deep.MidRow
set_option maxRecDepth 100000
set_option maxHeartbeats 4000000
namespace Go.Proofs.YtfdlhlghcbeblaaGreatDoor
open Go.RowKit Go.Ab
theorem valid_any(a b:Nat)(ha:a<4294967296)(hb:b<4294967296)(w:World) :
  Calls Tryz.prog 223 #[.agg #[.int .u32 (a:Int),.int .u32 (b:Int)]] w fun e w'=>e=.returned (.bool (okSound a b))∧Ext w w':=by
 obtain⟨o1,o2⟩:=okSound_bits ha hb
 have hl:a ||| b<4294967296:=Nat.or_lt_two_pow (n:=32) ha hb
 have hok:okSound a b=((a &&& b == 0) && ((a ||| b) / 16777216 == 0)):=rfl
 obtain⟨x,hx⟩:∃ x,(a &&& b == 0)=x:=⟨_,rfl⟩
 obtain⟨c,hc⟩:∃ c,a ||| b=c:=⟨_,rfl⟩
 rw [hx] at o1 hok
 rw [hc] at o2 hok hl
 have q:((c:Int) / 16777216 == 0)=(c / 16777216 == 0):=by
  apply Bool.eq_iff_iff.2
  rw [beq_iff_eq,beq_iff_eq];omega
 obtain⟨y,hy⟩:∃ y,(c / 16777216 == 0)=y:=⟨_,rfl⟩
 rw [hy] at q hok
 have HOK:=Lib.hid hok
 clear hok hx hc hy
 go_enter Tryz.func223,Tryz.ntmps223
 cases x
 ·go_wp2
  go_ret
  exact⟨by rw [HOK.out];rfl,(Turn.refl _ _).alloc _⟩
 ·go_wp2
  go_ret
  exact⟨by rw [HOK.out];rfl,(Turn.refl _ _).alloc _⟩
theorem bad_any(a b:Nat)(ha:a<4294967296)(hb:b<4294967296)(w:World) :
  Calls Tryz.prog 299 #[.agg #[.int .u32 (a:Int),.int .u32 (b:Int)]] w fun e w'=>e=.returned (.bool (!okSound a b))∧Ext w w':=by
 go_enter Tryz.func299,Tryz.ntmps299
 go_wp2_with fail
 refine(valid_any a b ha hb _).mono ?_
 rintro e w2 ⟨rfl,hE2⟩
 have hE:=((Turn.refl (fun _=>False) w).alloc (.cells #[.int .u32 (a:Int),.int .u32 (b:Int)] 95)).trans hE2
 go_wp2
 go_ret
 exact⟨rfl,hE⟩
def allV(ws:Wd):Bool:=ws.all fun s=>okSound s.1 s.2
theorem allV_snoc(ws:Wd)(s:Nat × Nat):allV (ws++[s])=(allV ws && okSound s.1 s.2):=by simp [allV]
theorem allV_at{ws:Wd}{k:Nat}(hk:k<ws.length)(h:okSound (ws.getD k (0,0)).1 (ws.getD k (0,0)).2=false):allV ws=false:=by
 unfold allV
 rw [List.all_eq_false]
 refine⟨ws[k],List.getElem_mem hk,?_⟩
 rw [List.getD_eq_getElem?_getD,List.getElem?_eq_getElem hk] at h
 simpa using h
theorem allV_take{ws:Wd}{k:Nat}(hk:k<ws.length)(h0:allV (ws.take k)=true) (h:okSound (ws.getD k (0,0)).1 (ws.getD k (0,0)).2=true):allV (ws.take (k+1))=true:=by
 rw [List.take_succ_eq_append_getElem hk,allV_snoc,h0]
 rw [List.getD_eq_getElem?_getD,List.getElem?_eq_getElem hk] at h
 simpa using h
theorem index_bad{w:World}{v:Value}{ws:Wd}(hv:WordAt w v ws) :
  Calls Tryz.prog 198 #[v,.func (.func 299) #[] #[]] w fun e w'=>∃ z:Int,e=.returned (.int .i64 z)∧decide (0≤z)=(!allV ws)∧Ext w w':=by
 obtain⟨ao,cap,rfl,hlm⟩:=hv.slice
 unfold maxLen at hlm
 have HV:=Lib.hid hv
 clear hv
 obtain⟨N,hN⟩:∃ N,ws.length=N:=⟨_,rfl⟩
 have HN:=Lib.hid hN
 rw [hN] at hlm HV ⊢
 clear hN
 go_enter Tryz.func198,Tryz.ntmps198
 go_wp2
 refine wp_loop (fun a W=>∃(k:Nat),k≤N∧a.defers=[]∧(a.tmps.size=19∧a.tmps.getD 0 undef=.slice ao N cap∧a.tmps.getD 1 undef=.func (.func 299) #[] #[]∧a.tmps.getD 7 undef=.int .i64 N∧a.tmps.getD 8 undef=.int .i64 k)∧allV (ws.take k)=true∧Ext w W)
  (fun a _=>N - (intOf (a.tmps.getD 8 undef)).toNat) ?_ ?_
 ·exact⟨0,by omega,rfl,⟨rfl,rfl,rfl,rfl,rfl⟩,by simp [allV],Turn.refl _ _⟩
 rintro⟨t,_⟩ W ⟨k,hk,hds,⟨hsz,f0,f1,f7,f8⟩,hall,hE⟩
 subst hds
 obtain⟨u',hu⟩:=frame_fun hsz
 obtain⟨u,rfl⟩:∃ x,x=u':=⟨_,rfl⟩
 have hu':t=#[u 0,u 1,u 2,u 3,u 4,u 5,u 6,u 7,u 8,u 9,u 10,u 11,u 12,u 13,u 14,u 15,u 16,u 17,u 18]:=hu
 clear hu
 subst hu'
 change u 0=_ at f0
 change u 1=_ at f1
 change u 7=_ at f7
 change u 8=_ at f8
 rw [f0,f1,f7,f8]
 clear f0 f1 f7 f8 hsz
 have HALL:=Lib.hid hall
 clear hall
 by_cases hkN:k<N
 ·have h1:(k:Int)<(N:Int):=by omega
  have hkl:k<ws.length:=by rw [HN.out];exact hkN
  obtain⟨g,off,cap',he,hg,d1,d2⟩:=(HV.out.ext hE).at hkl
  simp only [Value.slice.injEq] at he
  obtain⟨rfl,hq',rfl⟩:=he
  clear hq'
  obtain⟨hs1,hs2⟩:=HV.out.2.get k hkl
  obtain⟨a,ha⟩:∃ a,(ws.getD k (0,0)).1=a:=⟨_,rfl⟩
  obtain⟨b,hb⟩:∃ b,(ws.getD k (0,0)).2=b:=⟨_,rfl⟩
  rw [ha] at d1 hs1
  rw [hb] at d2 hs2
  have HA:=Lib.hid ha;have HB:=Lib.hid hb
  clear ha hb
  go_wp2_with fail
  refine(bad_any a b hs1 hs2 W).mono ?_
  rintro e W2 ⟨rfl,hE2⟩
  have hE02:=hE.trans hE2
  clear hE hE2 d1 d2
  cases hok:okSound a b
  ·have hfin:allV ws=false:=allV_at hkl (by rw [HA.out,HB.out];exact hok)
   have HF:=Lib.hid hfin
   clear hfin hok
   go_wp2
   go_ret
   exact⟨_,rfl,by rw [HF.out];simp,hE02⟩
  ·have hfin:=allV_take hkl HALL.out (by rw [HA.out,HB.out];exact hok)
   have HF:=Lib.hid hfin
   clear hfin hok
   go_wp2
   exact⟨⟨k+1,by omega,by first | rfl | trivial,⟨rfl,rfl,rfl,rfl,rfl⟩,HF.out,hE02⟩,by simp [intOf];omega⟩
 ·obtain rfl:k=N:=by omega
  have h1:¬ (k:Int)<(k:Int):=by omega
  have hfin:allV ws=true:=by have:=HALL.out;rwa [List.take_of_length_le (by rw [HN.out];exact Nat.le_refl _)] at this
  have HF:=Lib.hid hfin
  clear hfin
  go_wp2
  go_ret
  exact⟨_,rfl,by rw [HF.out];simp,hE⟩
theorem contains_bad{w:World}{v:Value}{ws:Wd}(hv:WordAt w v ws) :
  Calls Tryz.prog 173 #[v,.func (.func 299) #[] #[]] w fun e w'=>e=.returned (.bool (!allV ws))∧Ext w w':=by
 go_enter Tryz.func173,Tryz.ntmps173
 go_wp2_with fail
 refine(index_bad hv).mono ?_
 rintro e w2 ⟨z,rfl,hz,hE⟩
 have HZ:=Lib.hid hz
 clear hz
 go_wp2
 go_ret
 exact⟨by rw [HZ.out];rfl,hE⟩
end Go.Proofs.YtfdlhlghcbeblaaGreatDoor
set_option maxRecDepth 100000
set_option maxHeartbeats 8000000
namespace Go.Proofs.YtfdlhlghcbeblaaGreatDoor
open Go.RowKit Go.Ab
def nodeV(k:Int)(pl mi:Nat)(nt:Bool)(mn mx:Int)(N:Nat):Int:=
  if k<0∨6<k then 2
  else if k≠1∧(pl≠0∨mi≠0∨nt=true) then 2
  else if k≠3∧k≠4∧k≠5∧N≠0 then 2
  else if k≠5∧(mn≠0∨mx≠0) then 2
  else if k=5∧(N≠1∨mn<0∨32<mn∨(mx≠-1∧(mx<mn∨32<mx))) then 2
  else if okSound pl mi=true then 0 else 14
theorem nodeV_eq(k:Int)(pl mi:Nat)(nt:Bool)(mn mx:Int)(l:List Pat):nodeE (.node k pl mi nt mn mx l)=nodeV k pl mi nt mn mx l.length:=rfl
theorem okSound_zero:okSound 0 0=true:=rfl
theorem allowed_out(k:Int)(pl mi:Nat)(nt:Bool)(mn mx:Int)(ao:Option Addr)(N cap:Nat)(w:World)(hk:k<0∨6<k) :
    Calls Tryz.prog 196 #[.agg #[.int .i64 k,.int .u32 (pl:Int),.int .u32 (mi:Int),.bool nt,.int .i64 mn,.int .i64 mx,.slice ao N cap]] w fun e w'=>e=.returned (.int .i64 (nodeV k pl mi nt mn mx N))∧Ext w w':=by
  have q0:(k == 0)=false:=by rw [beq_eq_false_iff_ne];omega
  have q1:(k == 1)=false:=by rw [beq_eq_false_iff_ne];omega
  have q2:(k == 2)=false:=by rw [beq_eq_false_iff_ne];omega
  have q3:(k == 3)=false:=by rw [beq_eq_false_iff_ne];omega
  have q4:(k == 4)=false:=by rw [beq_eq_false_iff_ne];omega
  have q5:(k == 5)=false:=by rw [beq_eq_false_iff_ne];omega
  have q6:(k == 6)=false:=by rw [beq_eq_false_iff_ne];omega
  have hz:nodeV k pl mi nt mn mx N=2:=by unfold nodeV;rw [if_pos hk]
  have HZ:=Lib.hid hz
  clear hk hz
  go_enter Tryz.func196,Tryz.ntmps196
  go_wp2
  go_ret
  exact⟨by rw [HZ.out];rfl,((Turn.refl _ _).alloc _).alloc _⟩
theorem allowed_0(pl mi:Nat)(nt:Bool)(mn mx:Int)(ao:Option Addr)(N cap:Nat)(w:World)(hpl:pl<4294967296)(hmi:mi<4294967296)(_hN:N≤9223372036854775807) :
    Calls Tryz.prog 196 #[.agg #[.int .i64 0,.int .u32 (pl:Int),.int .u32 (mi:Int),.bool nt,.int .i64 mn,.int .i64 mx,.slice ao N cap]] w fun e w'=>e=.returned (.int .i64 (nodeV 0 pl mi nt mn mx N))∧Ext w w':=by
  have hx:True:=trivial
  all_goals (go_enter Tryz.func196,Tryz.ntmps196)
  all_goals (go_wp2_with fail)
  all_goals first
    | (refine(valid_any _ _ (by assumption) (by assumption) _).mono ?_
       rintro e w2 ⟨rfl,hE2⟩
       have hE:=(((Turn.refl (fun _=>False) w).alloc _).alloc _).trans hE2
       have HE:=Lib.hid hE
       clear hE hE2
       obtain⟨z,hz⟩:∃ z,okSound pl mi=z:=⟨_,rfl⟩
       have HZ:=Lib.hid hz
       rw [hz]
       clear hz
       cases z
       all_goals
         go_wp2
         go_ret
         exact⟨ret_int (by have:=HZ.out;unfold nodeV;rw [this];(try subst ‹nt=true›);(try (have hnt:nt=false:=Bool.eq_false_iff.2 ‹¬nt=true›;subst hnt));simp <;> omega),HE.out⟩)
    | (refine(valid_any 0 0 (by decide) (by decide) _).mono ?_
       rintro e w2 ⟨rfl,hE2⟩
       have hE:=(((Turn.refl (fun _=>False) w).alloc _).alloc _).trans hE2
       have HE:=Lib.hid hE
       clear hE hE2
       rw [okSound_zero]
       go_wp2
       go_ret
       exact ⟨ret_int (by have:=okSound_zero;have h1:pl=0:=by assumption
                          have h2:mi=0:=by assumption
                          subst h1;subst h2;unfold nodeV;rw [this];(try (have hnt:nt=false:=Bool.eq_false_iff.2 ‹¬nt=true›;subst hnt));simp <;> omega),HE.out⟩)
    | (go_ret
       exact⟨ret_int (by unfold nodeV;(try subst ‹nt=true›);(try (have hnt:nt=false:=Bool.eq_false_iff.2 ‹¬nt=true›;subst hnt));simp <;> omega),((Turn.refl _ _).alloc _).alloc _⟩)
theorem allowed_1(pl mi:Nat)(nt:Bool)(mn mx:Int)(ao:Option Addr)(N cap:Nat)(w:World)(hpl:pl<4294967296)(hmi:mi<4294967296)(_hN:N≤9223372036854775807) :
    Calls Tryz.prog 196 #[.agg #[.int .i64 1,.int .u32 (pl:Int),.int .u32 (mi:Int),.bool nt,.int .i64 mn,.int .i64 mx,.slice ao N cap]] w fun e w'=>e=.returned (.int .i64 (nodeV 1 pl mi nt mn mx N))∧Ext w w':=by
  have hx:True:=trivial
  all_goals (go_enter Tryz.func196,Tryz.ntmps196)
  all_goals (go_wp2_with fail)
  all_goals first
    | (refine(valid_any _ _ (by assumption) (by assumption) _).mono ?_
       rintro e w2 ⟨rfl,hE2⟩
       have hE:=(((Turn.refl (fun _=>False) w).alloc _).alloc _).trans hE2
       have HE:=Lib.hid hE
       clear hE hE2
       obtain⟨z,hz⟩:∃ z,okSound pl mi=z:=⟨_,rfl⟩
       have HZ:=Lib.hid hz
       rw [hz]
       clear hz
       cases z
       all_goals
         go_wp2
         go_ret
         exact⟨ret_int (by have:=HZ.out;unfold nodeV;rw [this];(try subst ‹nt=true›);(try (have hnt:nt=false:=Bool.eq_false_iff.2 ‹¬nt=true›;subst hnt));simp <;> omega),HE.out⟩)
    | (refine(valid_any 0 0 (by decide) (by decide) _).mono ?_
       rintro e w2 ⟨rfl,hE2⟩
       have hE:=(((Turn.refl (fun _=>False) w).alloc _).alloc _).trans hE2
       have HE:=Lib.hid hE
       clear hE hE2
       rw [okSound_zero]
       go_wp2
       go_ret
       exact ⟨ret_int (by have:=okSound_zero;have h1:pl=0:=by assumption
                          have h2:mi=0:=by assumption
                          subst h1;subst h2;unfold nodeV;rw [this];(try (have hnt:nt=false:=Bool.eq_false_iff.2 ‹¬nt=true›;subst hnt));simp <;> omega),HE.out⟩)
    | (go_ret
       exact⟨ret_int (by unfold nodeV;(try subst ‹nt=true›);(try (have hnt:nt=false:=Bool.eq_false_iff.2 ‹¬nt=true›;subst hnt));simp <;> omega),((Turn.refl _ _).alloc _).alloc _⟩)
theorem allowed_2(pl mi:Nat)(nt:Bool)(mn mx:Int)(ao:Option Addr)(N cap:Nat)(w:World)(hpl:pl<4294967296)(hmi:mi<4294967296)(_hN:N≤9223372036854775807) :
    Calls Tryz.prog 196 #[.agg #[.int .i64 2,.int .u32 (pl:Int),.int .u32 (mi:Int),.bool nt,.int .i64 mn,.int .i64 mx,.slice ao N cap]] w fun e w'=>e=.returned (.int .i64 (nodeV 2 pl mi nt mn mx N))∧Ext w w':=by
  have hx:True:=trivial
  all_goals (go_enter Tryz.func196,Tryz.ntmps196)
  all_goals (go_wp2_with fail)
  all_goals first
    | (refine(valid_any _ _ (by assumption) (by assumption) _).mono ?_
       rintro e w2 ⟨rfl,hE2⟩
       have hE:=(((Turn.refl (fun _=>False) w).alloc _).alloc _).trans hE2
       have HE:=Lib.hid hE
       clear hE hE2
       obtain⟨z,hz⟩:∃ z,okSound pl mi=z:=⟨_,rfl⟩
       have HZ:=Lib.hid hz
       rw [hz]
       clear hz
       cases z
       all_goals
         go_wp2
         go_ret
         exact⟨ret_int (by have:=HZ.out;unfold nodeV;rw [this];(try subst ‹nt=true›);(try (have hnt:nt=false:=Bool.eq_false_iff.2 ‹¬nt=true›;subst hnt));simp <;> omega),HE.out⟩)
    | (refine(valid_any 0 0 (by decide) (by decide) _).mono ?_
       rintro e w2 ⟨rfl,hE2⟩
       have hE:=(((Turn.refl (fun _=>False) w).alloc _).alloc _).trans hE2
       have HE:=Lib.hid hE
       clear hE hE2
       rw [okSound_zero]
       go_wp2
       go_ret
       exact ⟨ret_int (by have:=okSound_zero;have h1:pl=0:=by assumption
                          have h2:mi=0:=by assumption
                          subst h1;subst h2;unfold nodeV;rw [this];(try (have hnt:nt=false:=Bool.eq_false_iff.2 ‹¬nt=true›;subst hnt));simp <;> omega),HE.out⟩)
    | (go_ret
       exact⟨ret_int (by unfold nodeV;(try subst ‹nt=true›);(try (have hnt:nt=false:=Bool.eq_false_iff.2 ‹¬nt=true›;subst hnt));simp <;> omega),((Turn.refl _ _).alloc _).alloc _⟩)
theorem allowed_3(pl mi:Nat)(nt:Bool)(mn mx:Int)(ao:Option Addr)(N cap:Nat)(w:World)(hpl:pl<4294967296)(hmi:mi<4294967296)(_hN:N≤9223372036854775807) :
    Calls Tryz.prog 196 #[.agg #[.int .i64 3,.int .u32 (pl:Int),.int .u32 (mi:Int),.bool nt,.int .i64 mn,.int .i64 mx,.slice ao N cap]] w fun e w'=>e=.returned (.int .i64 (nodeV 3 pl mi nt mn mx N))∧Ext w w':=by
  have hx:True:=trivial
  all_goals (go_enter Tryz.func196,Tryz.ntmps196)
  all_goals (go_wp2_with fail)
  all_goals first
    | (refine(valid_any _ _ (by assumption) (by assumption) _).mono ?_
       rintro e w2 ⟨rfl,hE2⟩
       have hE:=(((Turn.refl (fun _=>False) w).alloc _).alloc _).trans hE2
       have HE:=Lib.hid hE
       clear hE hE2
       obtain⟨z,hz⟩:∃ z,okSound pl mi=z:=⟨_,rfl⟩
       have HZ:=Lib.hid hz
       rw [hz]
       clear hz
       cases z
       all_goals
         go_wp2
         go_ret
         exact⟨ret_int (by have:=HZ.out;unfold nodeV;rw [this];(try subst ‹nt=true›);(try (have hnt:nt=false:=Bool.eq_false_iff.2 ‹¬nt=true›;subst hnt));simp <;> omega),HE.out⟩)
    | (refine(valid_any 0 0 (by decide) (by decide) _).mono ?_
       rintro e w2 ⟨rfl,hE2⟩
       have hE:=(((Turn.refl (fun _=>False) w).alloc _).alloc _).trans hE2
       have HE:=Lib.hid hE
       clear hE hE2
       rw [okSound_zero]
       go_wp2
       go_ret
       exact ⟨ret_int (by have:=okSound_zero;have h1:pl=0:=by assumption
                          have h2:mi=0:=by assumption
                          subst h1;subst h2;unfold nodeV;rw [this];(try (have hnt:nt=false:=Bool.eq_false_iff.2 ‹¬nt=true›;subst hnt));simp <;> omega),HE.out⟩)
    | (go_ret
       exact⟨ret_int (by unfold nodeV;(try subst ‹nt=true›);(try (have hnt:nt=false:=Bool.eq_false_iff.2 ‹¬nt=true›;subst hnt));simp <;> omega),((Turn.refl _ _).alloc _).alloc _⟩)
theorem allowed_4(pl mi:Nat)(nt:Bool)(mn mx:Int)(ao:Option Addr)(N cap:Nat)(w:World)(hpl:pl<4294967296)(hmi:mi<4294967296)(_hN:N≤9223372036854775807) :
    Calls Tryz.prog 196 #[.agg #[.int .i64 4,.int .u32 (pl:Int),.int .u32 (mi:Int),.bool nt,.int .i64 mn,.int .i64 mx,.slice ao N cap]] w fun e w'=>e=.returned (.int .i64 (nodeV 4 pl mi nt mn mx N))∧Ext w w':=by
  have hx:True:=trivial
  all_goals (go_enter Tryz.func196,Tryz.ntmps196)
  all_goals (go_wp2_with fail)
  all_goals first
    | (refine(valid_any _ _ (by assumption) (by assumption) _).mono ?_
       rintro e w2 ⟨rfl,hE2⟩
       have hE:=(((Turn.refl (fun _=>False) w).alloc _).alloc _).trans hE2
       have HE:=Lib.hid hE
       clear hE hE2
       obtain⟨z,hz⟩:∃ z,okSound pl mi=z:=⟨_,rfl⟩
       have HZ:=Lib.hid hz
       rw [hz]
       clear hz
       cases z
       all_goals
         go_wp2
         go_ret
         exact⟨ret_int (by have:=HZ.out;unfold nodeV;rw [this];(try subst ‹nt=true›);(try (have hnt:nt=false:=Bool.eq_false_iff.2 ‹¬nt=true›;subst hnt));simp <;> omega),HE.out⟩)
    | (refine(valid_any 0 0 (by decide) (by decide) _).mono ?_
       rintro e w2 ⟨rfl,hE2⟩
       have hE:=(((Turn.refl (fun _=>False) w).alloc _).alloc _).trans hE2
       have HE:=Lib.hid hE
       clear hE hE2
       rw [okSound_zero]
       go_wp2
       go_ret
       exact ⟨ret_int (by have:=okSound_zero;have h1:pl=0:=by assumption
                          have h2:mi=0:=by assumption
                          subst h1;subst h2;unfold nodeV;rw [this];(try (have hnt:nt=false:=Bool.eq_false_iff.2 ‹¬nt=true›;subst hnt));simp <;> omega),HE.out⟩)
    | (go_ret
       exact⟨ret_int (by unfold nodeV;(try subst ‹nt=true›);(try (have hnt:nt=false:=Bool.eq_false_iff.2 ‹¬nt=true›;subst hnt));simp <;> omega),((Turn.refl _ _).alloc _).alloc _⟩)
theorem allowed_5(pl mi:Nat)(nt:Bool)(mn mx:Int)(ao:Option Addr)(N cap:Nat)(w:World)(hpl:pl<4294967296)(hmi:mi<4294967296)(_hN:N≤9223372036854775807) :
    Calls Tryz.prog 196 #[.agg #[.int .i64 5,.int .u32 (pl:Int),.int .u32 (mi:Int),.bool nt,.int .i64 mn,.int .i64 mx,.slice ao N cap]] w fun e w'=>e=.returned (.int .i64 (nodeV 5 pl mi nt mn mx N))∧Ext w w':=by
  rcases(show (32<mx∧(mx != -1)=true)∨mx≤32 by rw [bne_iff_ne];omega) with ⟨hx,hq⟩ | hx
  all_goals (go_enter Tryz.func196,Tryz.ntmps196)
  all_goals (go_wp2_with fail)
  all_goals first
    | (refine(valid_any _ _ (by assumption) (by assumption) _).mono ?_
       rintro e w2 ⟨rfl,hE2⟩
       have hE:=(((Turn.refl (fun _=>False) w).alloc _).alloc _).trans hE2
       have HE:=Lib.hid hE
       clear hE hE2
       obtain⟨z,hz⟩:∃ z,okSound pl mi=z:=⟨_,rfl⟩
       have HZ:=Lib.hid hz
       rw [hz]
       clear hz
       cases z
       all_goals
         go_wp2
         go_ret
         exact⟨ret_int (by have:=HZ.out;unfold nodeV;rw [this];(try subst ‹nt=true›);(try (have hnt:nt=false:=Bool.eq_false_iff.2 ‹¬nt=true›;subst hnt));simp <;> omega),HE.out⟩)
    | (refine(valid_any 0 0 (by decide) (by decide) _).mono ?_
       rintro e w2 ⟨rfl,hE2⟩
       have hE:=(((Turn.refl (fun _=>False) w).alloc _).alloc _).trans hE2
       have HE:=Lib.hid hE
       clear hE hE2
       rw [okSound_zero]
       go_wp2
       go_ret
       exact ⟨ret_int (by have:=okSound_zero;have h1:pl=0:=by assumption
                          have h2:mi=0:=by assumption
                          subst h1;subst h2;unfold nodeV;rw [this];(try (have hnt:nt=false:=Bool.eq_false_iff.2 ‹¬nt=true›;subst hnt));simp <;> omega),HE.out⟩)
    | (go_ret
       exact⟨ret_int (by unfold nodeV;(try subst ‹nt=true›);(try (have hnt:nt=false:=Bool.eq_false_iff.2 ‹¬nt=true›;subst hnt));simp <;> omega),((Turn.refl _ _).alloc _).alloc _⟩)
theorem allowed_6(pl mi:Nat)(nt:Bool)(mn mx:Int)(ao:Option Addr)(N cap:Nat)(w:World)(hpl:pl<4294967296)(hmi:mi<4294967296)(_hN:N≤9223372036854775807) :
    Calls Tryz.prog 196 #[.agg #[.int .i64 6,.int .u32 (pl:Int),.int .u32 (mi:Int),.bool nt,.int .i64 mn,.int .i64 mx,.slice ao N cap]] w fun e w'=>e=.returned (.int .i64 (nodeV 6 pl mi nt mn mx N))∧Ext w w':=by
  have hx:True:=trivial
  all_goals (go_enter Tryz.func196,Tryz.ntmps196)
  all_goals (go_wp2_with fail)
  all_goals first
    | (refine(valid_any _ _ (by assumption) (by assumption) _).mono ?_
       rintro e w2 ⟨rfl,hE2⟩
       have hE:=(((Turn.refl (fun _=>False) w).alloc _).alloc _).trans hE2
       have HE:=Lib.hid hE
       clear hE hE2
       obtain⟨z,hz⟩:∃ z,okSound pl mi=z:=⟨_,rfl⟩
       have HZ:=Lib.hid hz
       rw [hz]
       clear hz
       cases z
       all_goals
         go_wp2
         go_ret
         exact⟨ret_int (by have:=HZ.out;unfold nodeV;rw [this];(try subst ‹nt=true›);(try (have hnt:nt=false:=Bool.eq_false_iff.2 ‹¬nt=true›;subst hnt));simp <;> omega),HE.out⟩)
    | (refine(valid_any 0 0 (by decide) (by decide) _).mono ?_
       rintro e w2 ⟨rfl,hE2⟩
       have hE:=(((Turn.refl (fun _=>False) w).alloc _).alloc _).trans hE2
       have HE:=Lib.hid hE
       clear hE hE2
       rw [okSound_zero]
       go_wp2
       go_ret
       exact ⟨ret_int (by have:=okSound_zero;have h1:pl=0:=by assumption
                          have h2:mi=0:=by assumption
                          subst h1;subst h2;unfold nodeV;rw [this];(try (have hnt:nt=false:=Bool.eq_false_iff.2 ‹¬nt=true›;subst hnt));simp <;> omega),HE.out⟩)
    | (go_ret
       exact⟨ret_int (by unfold nodeV;(try subst ‹nt=true›);(try (have hnt:nt=false:=Bool.eq_false_iff.2 ‹¬nt=true›;subst hnt));simp <;> omega),((Turn.refl _ _).alloc _).alloc _⟩)
theorem allowed_any{K:Nat→Prop}{w:World}{p:Pat}{cs:List Value}(h:PatAt K w p cs)(W:World) :
    Calls Tryz.prog 196 #[.agg cs.toArray] W fun e w'=>e=.returned (.int .i64 (nodeE p))∧Ext W w':=by
  obtain⟨k,pl,mi,nt,mn,mx,l⟩:=p
  unfold PatAt at h
  obtain⟨ao,cap,rfl,hpl,hmi,hlc,hcm,_⟩:=h
  unfold maxLen at hcm
  rw [nodeV_eq]
  unfold patCells
  by_cases hk:k<0∨6<k
  · exact allowed_out k pl mi nt mn mx ao l.length cap W hk
  · rcases(show k=0∨k=1∨k=2∨k=3∨k=4∨k=5∨k=6 by omega) with rfl | rfl | rfl | rfl | rfl | rfl | rfl
    · exact allowed_0 pl mi nt mn mx ao l.length cap W hpl hmi (by omega)
    · exact allowed_1 pl mi nt mn mx ao l.length cap W hpl hmi (by omega)
    · exact allowed_2 pl mi nt mn mx ao l.length cap W hpl hmi (by omega)
    · exact allowed_3 pl mi nt mn mx ao l.length cap W hpl hmi (by omega)
    · exact allowed_4 pl mi nt mn mx ao l.length cap W hpl hmi (by omega)
    · exact allowed_5 pl mi nt mn mx ao l.length cap W hpl hmi (by omega)
    · exact allowed_6 pl mi nt mn mx ao l.length cap W hpl hmi (by omega)
end Go.Proofs.YtfdlhlghcbeblaaGreatDoor
namespace Go.Ab
open Go.RowKit
theorem wp_range2{α:Type}{P:Program}{g:Operand}{ps:Array Tmp}{assign body:Code}{Q:Exit→Act→World→Prop}{a:Act}{w:World}
  {gf:Nat} {lb:Array Value} (hg:a.eval g=.func (.func gf) #[] lb) (eg:∀ args w,(callFunc gf args).run P w=.ok (.enter gf args) w)
  {encs:α→Array Value} {xs:List α} {S K:Nat→Prop} (hseq:Iter P gf lb encs xs S K w) (hSK:∀ b,S b→K b) (hK:∀ b,K b→b<w.heap.size) (hps:∀ x,(encs x).size=ps.size)
  (I:List α→World→Prop) (Ix:Code→List α→World→Prop)
  (hI:∀ pre A B,I pre A→Turn (fun b=>S b∨b=w.heap.size+1) A B→I pre B)
  (hIx:∀ c pre A B,Ix c pre A→Turn (fun b=>S b∨b=w.heap.size+1) A B→Ix c pre B)
  (h0:∀ W,Ext w W→W.heap.size=w.heap.size+2→I [] W) (Ax:α→Act→World→Prop) (hAx:∀ x a' A B,Ax x a' A→Turn (fun b=>b=w.heap.size+1) A B→Ax x a' B)
  (hassign:∀(pre:List α) (x:α) (W:World) (Kn:Act→World→Prop),x∈xs→I pre W→w.heap.size+2≤W.heap.size→(∀ a' W',Ext W W'→Ax x a' W'→Kn a' W') →
   assign.wpIn (Fence.wide.inRound (w.heap.size+1)) 0 P (Exit.then Kn (fun _ _ _=>False)) { tmps:=(ps.zip (encs x)).foldl (fun t (p,v)=>t.setIfInBounds p v) a.tmps,defers:=[] } W)
  (hbody:∀(pre:List α) (x:α) (rest:List α) (a':Act) (W:World),xs=pre++x::rest→w.heap.size+2≤W.heap.size→Turn (fun b=>¬ K b∨S b) w W→I pre W→Ax x a' W →
   body.wpIn (Fence.wide.inRound (w.heap.size+1)) 0 P (roundQ (fun b=>K b∨b=w.heap.size∨b=w.heap.size+1) I Ix (pre++[x]) W) a' W)
  (hdone:∀ W,I xs W→Turn (fun b=>¬ K b∨S b) w W→W.heap[w.heap.size]?=some (.deferred (some []))→Q .normal { a with defers:={ target:=.collected w.heap.size,args:=#[] }::a.defers } W)
  (hstop:∀ c pre x rest W,xs=pre++x::rest→Ix c (pre++[x]) W→W.heap[w.heap.size]?=some (.deferred (some []))→c.wp P Q { a with defers:={ target:=.collected w.heap.size,args:=#[] }::a.defers } W) :
  (Code.rangeFunc g ps assign body).wp P Q a w:=by
 refine(wpIn_wide (n:=0)).1 (wpIn_rangeFunc ?_)
 intro fn _
 obtain⟨rec,hrec⟩:∃ rec:LoopState→Option Code→Loop,rec=fun st pe=>{ state:=st,pending:=pe,fn,tmps:=a.tmps,params:=ps,assign,body,defers:=w.heap.size }:=⟨_,rfl⟩
 obtain⟨W1,hW1⟩:∃ W1,(w.alloc (.deferred (some []))).alloc (.loop (rec .ready none))=W1:=⟨_,rfl⟩
 have hL1:W1.heap[w.heap.size+1]?=some (.loop (rec .ready none)):=by
  rw [← hW1];have:=World.alloc_heap_new (w.alloc (.deferred (some []))) (.loop (rec .ready none));rwa [World.size_alloc] at this
 have hD1:W1.heap[w.heap.size]?=some (.deferred (some [])):=by
  rw [← hW1];exact(Below.heap_alloc _ _ _ (by simp)).trans (World.alloc_heap_new w _)
 have hE1:Ext w W1:=by rw [← hW1];exact((Turn.refl _ w).alloc _).alloc _
 have hs1:W1.heap.size=w.heap.size+2:=by rw [← hW1];simp
 have hnl:∀ b,S b→b≠w.heap.size+1∧b≠w.heap.size:=fun b hb=>by have:=hK b (hSK b hb);omega
 refine⟨w.heap.size+1,[{ target:=.collected w.heap.size,args:=#[] }],W1,{ target:=.fn (.func gf) lb,args:=#[.func (.yield (w.heap.size+1)) #[] #[]] },W1,gf,
  #[.func (.yield (w.heap.size+1)) #[] #[]]++lb,W1,?_,?_,fun _ _=>trivial,?_,fun h=>by simp [Fence.wide] at h,?_⟩
 ·rw [← hW1,hrec];exact run_enterLoop_outer _ _ _ _ _
 ·simp only [resolve,hg]
  simp [go_sem]
 ·simp [invoke,go_sem,eg]
 ·refine callsIn_wide.2 ((hseq (w.heap.size+1)
   (fun pre W=>I pre W∧W.heap[w.heap.size+1]?=some (.loop (rec .ready none))∧W.heap[w.heap.size]?=some (.deferred (some []))∧Turn (fun b=>¬ K b∨S b) w W∧w.heap.size+2≤W.heap.size)
   (fun pre W=>∃ c,Ix c pre W∧W.heap[w.heap.size+1]?=some (.loop (rec .done (some c)))∧W.heap[w.heap.size]?=some (.deferred (some [])))
   W1 hE1.of ?_ ?_ ?_ ⟨h0 _ hE1 hs1,hL1,hD1,hE1.of,by omega⟩).mono ?_)
  ·rintro pre A B ⟨h1,h2,h3,h4,h5⟩ ht
   exact⟨hI _ _ _ h1 (ht.mono fun b _ hb=>.inl hb),ht.heap h2 (fun hb=>(hnl _ hb).1 rfl),ht.heap h3 (fun hb=>(hnl _ hb).2 rfl),h4.after ht (fun b _ hb=>.inr hb),Nat.le_trans h5 ht.size⟩
  ·rintro pre A B ⟨c,h1,h2,h3⟩ ht
   exact⟨c,hIx _ _ _ _ h1 (ht.mono fun b _ hb=>.inl hb),ht.heap h2 (fun hb=>(hnl _ hb).1 rfl),ht.heap h3 (fun hb=>(hnl _ hb).2 rfl)⟩
  ·-- one round
   rintro pre x rest W hx ⟨hi,hl,hd,ht,hsz⟩
   have ht0:=ht
   have hsz0:=hsz
   have hlt:w.heap.size+1<W.heap.size:=by omega
   have hy:=run_yield (P:=P) (args:=encs x) hl (by rw [hrec];exact hps x)
   rw [hrec] at hy
   refine⟨fn,_,assign,body,hy,roundIn_of_wpIn trivial (hassign pre x W _ (by rw [hx];simp) hi hsz ?_)⟩
   clear hy
   intro a' W' hEW hax
   have hW0:=hEW
   have hi:=hI _ _ _ hi (Ext.of hEW)
   have hl:=hEW.keep hl
   have hd:=hEW.keep hd
   have ht:=ht.after hEW (fun b _ h=>h.elim)
   have hsz:w.heap.size+2≤W'.heap.size:=Nat.le_trans hsz hEW.size
   have hlt:w.heap.size+1<W'.heap.size:=by omega
   refine⟨_,run_beginRound hl (by rw [hrec]),?_⟩
   have hl2:(W'.putObj (w.heap.size+1) (.loop { rec .ready none with state:=.busy })).heap[w.heap.size+1]?=some (.loop { rec .ready none with state:=.busy }):=World.putObj_heap_same hlt
   have hd2:(W'.putObj (w.heap.size+1) (.loop { rec .ready none with state:=.busy })).heap[w.heap.size]?=some (.deferred (some [])):=(World.putObj_heap_other (by omega)).trans hd
   have hput:∀(X:World) o,Turn (fun b=>S b∨b=w.heap.size+1) X (X.putObj (w.heap.size+1) o):=fun X o=>(Turn.refl _ X).putObj (.inr (.inr rfl)) o
   have hputK:∀(X:World) o,Turn (fun b=>¬ K b) X (X.putObj (w.heap.size+1) o):=fun X o=>(Turn.refl _ X).putObj (.inr (fun hk=>by have:=hK _ hk;omega)) o
   refine wpIn_mono (hbody pre x rest a' _ hx (by simpa using hsz) (ht.after (hputK W' _) (fun b _ hb=>.inl hb)) (hI _ _ _ hi (hput W' _)) (hAx _ _ _ _ hax ((Turn.refl (fun b=>b=w.heap.size+1) W').putObj (.inr rfl) _))) ?_
   have fin:∀(jump:Option Code) (W3:World),Turn (fun b=>¬ (K b∨b=w.heap.size∨b=w.heap.size+1)) (W'.putObj (w.heap.size+1) (.loop { rec .ready none with state:=.busy })) W3 →
     (Instr.endRound (w.heap.size+1) jump).run P W3=.ok (.bool jump.isNone) (W3.putObj (w.heap.size+1) (.loop (rec (if jump.isNone then .ready else .done) jump))) ∧
     (W3.putObj (w.heap.size+1) (.loop (rec (if jump.isNone then .ready else .done) jump))).heap[w.heap.size+1]?=some (.loop (rec (if jump.isNone then .ready else .done) jump)) ∧
     (W3.putObj (w.heap.size+1) (.loop (rec (if jump.isNone then .ready else .done) jump))).heap[w.heap.size]?=some (.deferred (some [])) ∧
     Turn (fun b=>¬ K b) W (W3.putObj (w.heap.size+1) (.loop (rec (if jump.isNone then .ready else .done) jump))):=fun jump W3 hk3=>by
    have hl3:=hk3.heap hl2 (fun h=>h (.inr (.inr rfl)))
    have hd3:=hk3.heap hd2 (fun h=>h (.inr (.inl rfl)))
    have:=run_endRound (P:=P) jump hl3
    rw [hrec] at this ⊢
    refine⟨this,World.putObj_heap_same (Array.getElem?_eq_some_iff.1 hl3).1,(World.putObj_heap_other (by omega)).trans hd3,?_⟩
    exact(((hW0.of).trans (hputK W' _)).trans (hk3.mono fun b _ hb hk=>hb (.inl hk))).trans (hputK W3 _)
   rintro e a3 W3 hp
   cases e with
   | normal=>
    obtain⟨hk3,hi3⟩:=hp
    obtain⟨hr,hl4,hd4,ht4⟩:=fin none W3 hk3
    exact⟨_,_,hr,.inl ⟨rfl,⟨hI _ _ _ hi3 (hput W3 _),hl4,hd4,ht0.after ht4 (fun b _ hb=>.inl hb),Nat.le_trans hsz0 ht4.size⟩,ht4⟩⟩
   | ret=>
    obtain⟨hk3,hi3⟩:=hp
    obtain⟨hr,hl4,hd4,ht4⟩:=fin (some .ret) W3 hk3
    exact⟨_,_,hr,.inr ⟨rfl,.ret,hIx _ _ _ _ hi3 (hput W3 _),hl4,hd4⟩⟩
   | exit id=>
    obtain⟨hk3,hi3⟩:=hp
    obtain⟨hr,hl4,hd4,ht4⟩:=fin (some (.exit id)) W3 hk3
    exact⟨_,_,hr,.inr ⟨rfl,.exit id,hIx _ _ _ _ hi3 (hput W3 _),hl4,hd4⟩⟩
   | goto t=>
    obtain⟨hk3,hi3⟩:=hp
    obtain⟨hr,hl4,hd4,ht4⟩:=fin (some (.goto t)) W3 hk3
    exact⟨_,_,hr,.inr ⟨rfl,.goto t,hIx _ _ _ _ hi3 (hput W3 _),hl4,hd4⟩⟩
   | panic ch=>exact hp.elim
   | outgrown=>exact hp.elim
  ·-- behind the iterator
   have hput:∀(X:World) o,Turn (fun b=>S b∨b=w.heap.size+1) X (X.putObj (w.heap.size+1) o):=fun X o=>(Turn.refl _ X).putObj (.inr (.inr rfl)) o
   rintro e W2 ⟨⟨v,rfl⟩,(⟨hi,hl,hd,ht,hsz⟩ | ⟨pre,x,rest,hx,c,hi,hl,hd⟩)⟩
   ·refine⟨none,_,by have:=run_endLoop (P:=P) hl (by rw [hrec];simp);rw [hrec] at this;exact this,?_⟩
    exact hdone _ (hI _ _ _ hi (hput W2 _)) (ht.putObj (.inl (by omega)) _) ((World.putObj_heap_other (by omega)).trans hd)
   ·refine⟨some c,_,by have:=run_endLoop (P:=P) hl (by rw [hrec];simp);rw [hrec] at this;exact this,?_⟩
    exact(wpIn_wide (n:=0)).2 (hstop c pre x rest _ hx (hIx _ _ _ _ hi (hput W2 _)) ((World.putObj_heap_other (by omega)).trans hd))
theorem wpIn_region_held{P:Program}{ops:Array Oper}{Q:Exit→Act→World→Prop}{S:World→Prop}{id l n:Nat}{a:Act}{w:World}(hm:P.follows .mixedOrders=true)(hd:noDefer ops=true)(hQ:¬ LetsOut Q)(hS:S w.drew)
  (h:S w.drew→wpAnyH P .any ops Q S ops.size (Array.replicate ops.size false) a w.drew):(Code.region id ops true).wpIn (Fence.wide.inRound l) n P Q a w:=
 wpIn_region_any' hm hd hQ (wpAny_of_held _ _ _ _ (h hS))
end Go.Ab
namespace Go.Ab
open Go.RowKit
theorem own_pop{w:World}{base:Nat}{e:TypeId}{sz g n cap:Nat}{xs:List Value}(h:w.ownsRow base e sz (.slice (some ⟨g,0,none⟩) (n+1) cap) (n+1) xs) :
  w.ownsRow base e sz (.slice (some ⟨g,0,none⟩) n cap) n (xs.take (n*sz)):=by
 have hl:=h.1
 rcases h.2 with ⟨q,_⟩ | ⟨g',cap',cur,q,hb,hg,hnc,hcm,hcs,htake⟩
 ·cases q
 ·simp only [Value.slice.injEq,Option.some.injEq,Addr.mk.injEq] at q
  obtain⟨⟨rfl,_,_⟩,_,rfl⟩:=q
  refine⟨by rw [List.length_take,hl,Nat.min_eq_left (Nat.mul_le_mul_right _ (by omega))],.inr ⟨g,cap,cur,rfl,hb,hg,by omega,hcm,hcs,?_⟩⟩
  rw [← htake,List.take_take,Nat.min_eq_left (Nat.mul_le_mul_right _ (by omega))]
def overL:List Value→Nat→List Value→List Value
 | cur,_,[]=>cur
 | cur,o,v::vs=>overL (cur.set o v) (o+1) vs
theorem overL_length:∀(vs cur:List Value) (o:Nat),(overL cur o vs).length=cur.length
 | [],cur,o=>rfl
 | v::vs,cur,o=>by unfold overL;rw [overL_length vs,List.length_set]
theorem setCells_heap{t:TypeId}{b:Nat}:∀(vs:List Value) (o:Nat) (w:World) (cur:Array Value),w.heap[b]?=some (.cells cur t (0,0))→(w.setCells b o vs).heap[b]?=some (.cells (overL cur.toList o vs).toArray t (0,0))
 | [],o,w,cur,h=>h
 | v::vs,o,w,cur,h=>by
  have h1:(w.setCell ⟨b,o,none⟩ v).heap[b]?=some (.cells (cur.setIfInBounds o v) t (0,0)):=by
   simp only [World.setCell,Array.getElem?_modify,h];simp
  have:=setCells_heap vs (o+1) _ _ h1
  rw [Array.toList_setIfInBounds] at this
  exact this
theorem overL_end:∀(vs pre zs:List Value),vs.length=zs.length→overL (pre++zs) pre.length vs=pre++vs
 | [],pre,zs,h=>by
  obtain rfl:zs=[]:=List.eq_nil_of_length_eq_zero (by simpa using h.symm)
  rfl
 | v::vs,pre,z::zs,h=>by
  unfold overL
  have e:(pre++z::zs).set pre.length v=(pre++[v])++zs:=by
   rw [List.set_append_right _ _ (Nat.le_refl _)];simp
  rw [e]
  have:=overL_end vs (pre++[v]) zs (by simpa using h)
  rw [List.length_append] at this
  simpa using this
theorem overL_take:∀(vs cur:List Value) (o m:Nat),o+vs.length≤m→(overL cur o vs).take m=overL (cur.take m) o vs
 | [],cur,o,m,_=>rfl
 | v::vs,cur,o,m,h=>by
  unfold overL
  rw [overL_take vs _ _ _ (by simp at h;omega)]
  congr 1
  simp only [List.length_cons] at h
  rw [List.take_set]
theorem own_setLast{w:World}{base:Nat}{e:TypeId}{sz g n cap:Nat}{xs zs cs:List Value}(h:w.ownsRow base e sz (.slice (some ⟨g,0,none⟩) (n+1) cap) (n+1) (xs++zs)) (hx:xs.length=n*sz) (hc:cs.length=sz) :
  (w.setCells g (n*sz) cs).ownsRow base e sz (.slice (some ⟨g,0,none⟩) (n+1) cap) (n+1) (xs++cs):=by
 have hl:=h.1
 rcases h.2 with ⟨q,_⟩ | ⟨g',cap',cur,q,hb,hg,hnc,hcm,hcs,htake⟩
 ·cases q
 ·simp only [Value.slice.injEq,Option.some.injEq,Addr.mk.injEq] at q
  obtain⟨⟨rfl,_,_⟩,_,rfl⟩:=q
  have hzs:zs.length=sz:=by
   rw [List.length_append,hx,Nat.add_mul,Nat.one_mul] at hl;omega
  refine⟨by rw [List.length_append,hx,hc,Nat.add_mul,Nat.one_mul],.inr ⟨g,cap,_,rfl,hb,setCells_heap cs _ w cur hg,hnc,hcm,by simp [overL_length,hcs],?_⟩⟩
  have h1:n*sz+cs.length≤(n+1)*sz:=by rw [hc,Nat.add_mul,Nat.one_mul];exact Nat.le_refl _
  rw [show ((overL cur.toList (n*sz) cs).toArray.toList)=overL cur.toList (n*sz) cs from rfl,overL_take _ _ _ _ h1,htake,← hx]
  exact overL_end cs xs zs (by omega)
theorem Turn.setCells(A:World)(b:Nat):∀(vs:List Value) (o:Nat),Turn (·=b) A (A.setCells b o vs)
 | [],_=>Turn.refl _ _
 | v::vs,o=>(Turn.set1 A b o v).trans (Turn.setCells (A.setCell ⟨b,o,none⟩ v) b vs (o+1))
theorem own_there{w:World}{base:Nat}{e:TypeId}{sz g n cap:Nat}{xs:List Value}(h:w.ownsRow base e sz (.slice (some ⟨g,0,none⟩) n cap) n xs) {o m:Nat} (ho:o+m≤n*sz):w.there g o m:=fun j hj=>by
 have h1:=h.cellAt (o+j) (by omega)
 have h2:=h.frozenAt (o+j)
 have:(o+j)<xs.length:=by rw [h.1];omega
 rw [List.getElem?_eq_getElem this] at h1
 exact⟨by rw [h1];rfl,h2⟩
theorem own_range{w:World}{base:Nat}{e:TypeId}{sz g n cap:Nat}{xs:List Value}(h:w.ownsRow base e sz (.slice (some ⟨g,0,none⟩) n cap) n xs) {o:Nat} {cs:List Value} (hc:∀ j v,cs[j]?=some v→xs[o+j]?=some v):w.rangeAt g o cs:=fun j v hv=>by
 have h0:=hc j v hv
 have hlt:o+j<n*sz:=by rw [← h.1];exact(List.getElem?_eq_some_iff.1 h0).1
 rw [h.cellAt (o+j) hlt];exact h0
theorem own_addr{w:World}{base:Nat}{e:TypeId}{sz n m cap:Nat}{ao:Option Addr}{xs:List Value}(h:w.ownsRow base e sz (.slice ao (n+1) cap) m xs):∃ g,ao=some ⟨g,0,none⟩:=by
 rcases h.2 with ⟨q,_⟩ | ⟨g,_,_,q,_⟩
 ·cases q
 ·cases q;exact⟨g,rfl⟩
theorem own_cellsAt{w:World}{base:Nat}{e:TypeId}{sz g n m cap:Nat}{xs:List Value}(h:w.ownsRow base e sz (.slice (some ⟨g,0,none⟩) n cap) m xs):∃ cur,w.heap[g]?=some (.cells cur e (0,0)):=by
 rcases h.2 with ⟨q,_⟩ | ⟨_,_,cur,q,_,hg,_⟩
 ·cases q
 ·cases q;exact⟨cur,hg⟩
theorem append_oper{P:Program}{w:World}{o:Oper}{a:Act}{K:Act→World→Prop}{Q:Exit→Act→World→Prop}(s x:Operand)(t:TypeId)
  (ho:o.op=.call { callee:=.builtin .append,args:=#[s,x],argTypes:=#[t,t] })
  (base:Nat) (e:TypeId) (z:Value) (size bytes:Nat) (ht:P.underlying t=some (.slice e)) (hinfo:(P.info? e).map (fun i=>(i.zero,i.size,i.bytes))=some (some z,size,bytes))
  (hzs:z.cells.size=size) (hsz:0<size)
  (v:Value) (n:Nat) (xs:List Value) (hs:a.eval s=v) (hown:w.ownsRow base e size v n xs)
  (ad:Addr) (m c:Nat) (news:List Value) (hx:a.eval x=.slice (some ad) m c) (hl:news.length=m*size) (hnews:∀ j u,news[j]?=some u→w.cell? (ad.add j)=some u) (h1:∀ u∈news,u.oneCell'=true)
  (h63:n+m≤maxLen) (hbytes:(n+m)*bytes≤140737488355328) (hbase:base≤w.heap.size)
  (h:∀ ao c' w',w'.ownsRow base e size (.slice ao (n+m) c') (n+m) (xs++news)→Turn (fun b=>v.ownBlock=some b) w w'→((Value.slice ao (n+m) c').ownBlock=v.ownBlock∨(Value.slice ao (n+m) c').ownBlock=some w.heap.size)→K (a.put o.dst (.slice ao (n+m) c')) w'):Oper.wp P o a w K Q:=by
 obtain⟨i,hi,hz,hs1,hb1⟩:=info_parts hinfo
 subst hs1
 subst hb1
 obtain⟨v',w',hr,h2,h3,h4⟩:=run_append_own (P:=P) w base t o.type e i z _ _ ht hi hz rfl rfl hzs hsz v n xs hown ad m c news hl hnews h1 h63 hbytes hbase
 have h5:=append_block ht hi hz hsz hown ad m c news hl hnews h1 h63 hbytes hr
 unfold Oper.wp execOp
 simp only [ho,resolve,invoke,builtin,Sem.run_bind,Sem.run_pure,Result.andThen_ok,List.map_toArray,List.map_cons,List.map_nil,hs,hx,hr]
 obtain⟨ao,c',rfl⟩:=own_slice h2
 exact h ao c' w' h2 ((Turn.refl _ w).grown h3 (fun k e=>.inr e)) h5
end Go.Ab
set_option maxRecDepth 100000
set_option maxHeartbeats 4000000
namespace Go.Proofs.YtfdlhlghcbeblaaGreatDoor
open Go.RowKit Go.Ab
attribute [local go_sem] Oper.semAt_some wide_fn wide_depth
def xsB(cs:Nat→List Value):Nat→List (Nat × List Value)
 | 0=>[]
 | k+1=>(k,cs k)::xsB cs k
def CellsOk(w:World)(ao:Option Addr)(K:Nat→Prop)(i:Nat)(c:List Value):Prop:=
 ∃ g off k pl mi nt mn mx xo n cap,ao=some ⟨g,off,none⟩∧K g∧w.rangeAt g (off+i*7) c∧c=patCells k pl mi nt mn mx xo n cap
theorem backward_iter{w:World}{bx N cap:Nat}{ao:Option Addr}{cs:Nat→List Value}{K:Nat→Prop}(hK:K bx)(hb:w.heap[bx]?=some (.cells #[.slice ao N cap] 96 (0,0))) (hN:N≤maxLen) (hel:∀ i,i<N→CellsOk w ao K i (cs i)) :
  Iter Tryz.prog 224 #[.pointer (some ⟨bx,0,none⟩)] (fun x:Nat × List Value=>#[.int .i64 (x.1:Int),.agg x.2.toArray]) (xsB cs N) (fun _=>False) K w:=by
 intro l J Jx W ht hJ hJx hY h0
 unfold maxLen at hN
 have hbW:W.heap[bx]?=some (.cells #[.slice ao N cap] 96 (0,0)):=ht.heap hb (fun h=>h hK)
 have hz0:IntKind.i64.wrap ((N:Int) - 1)=(N:Int) - 1:=IntWalk.i64_in _ (by omega)
 have c0:=cell_of_one hbW
 refine callsIn_wide.1 (callsIn_of_wp (n:=0) Tryz.func224 rfl trivial ?_ rfl)
 simp only [Tryz.ntmps224,List.size_toArray,List.length_cons,List.length_nil,Nat.reduceAdd,Nat.reduceSub,Array.replicate_succ,Array.replicate_zero,List.push_toArray,List.append_toArray,List.nil_append,List.cons_append]
 gi_wp2
 clear hz0 c0
 gi_loopw [3] (fun v3 wr=>∃(c:Nat) (z:Int) (pre:List (Nat × List Value)),c≤N∧z+1=c∧v3=.int .i64 z∧xsB cs N=pre++xsB cs c∧J pre wr∧Turn (fun b=>¬ K b) w wr)
  (fun v3 _=>(intOf v3+1).toNat)
 case atStart=>exact⟨N,(N:Int) - 1,[],Nat.le_refl _,by omega,rfl,rfl,h0,ht⟩
 case round=>
  obtain⟨c,z,pre,hc,hz,rfl,hxs,hJs,htr⟩:=hrel
  cases c with
  | zero=>
   obtain rfl:z=-1:=by omega
   have hfin:J (xsB cs N) wr:=by rw [hxs];simpa [xsB] using hJs
   clear hxs
   gi_wp2
   go_end0
   exact⟨⟨_,rfl⟩,.inl hfin⟩
  | succ k=>
   obtain rfl:z=(k:Int):=by omega
   obtain⟨g,off,qk,pl,mi,nt,mn,mx,xo,n',cap',rfl,hKg,hra,hcs⟩:=hel k (by omega)
   have hra2:=rangeAt_turn htr hra (fun h=>h hKg)
   obtain⟨c0,c1,c2,c3,c4,c5,c6⟩:=patCells_at hra2 hcs
   have hb2:wr.heap[bx]?=some (.cells #[.slice (some ⟨g,off,none⟩) N cap] 96 (0,0)):=htr.heap hb (fun h=>h hK)
   have cb:=cell_of_one hb2
   have hx2:xsB cs N=pre++(k,cs k)::xsB cs k:=hxs
   obtain⟨fn,tmps,assign,body,hy,hR⟩:=hY pre _ _ wr hx2 hJs
   rw [hcs] at hy
   unfold patCells at hy
   dsimp only at hy
   have h1:(k:Int)<(N:Int):=by omega
   have h2:(0:Int)≤(k:Int):=by omega
   have HX:=Lib.hid hx2;have HT:=Lib.hid htr;have HR:=Lib.hid hR;have HN:=Lib.hid hN;have HCS:=Lib.hid hcs
   clear hx2 hxs htr hR hz hra hra2 hcs hel
   gi_wp2
   refine HR.out.mono ?_
   rintro e W3 (⟨rfl,hJ3,hk3⟩ | ⟨rfl,hJx3⟩)
   ·have ht3:=HT.out.trans hk3
    clear hy hJs c0 c1 c2 c3 c4 c5 c6 cb
    gi_wp2
    go_roundw
    case rel=>exact⟨k,(k:Int) - 1,pre++[(k,cs k)],by omega,by omega,by first | rfl | go_num,by rw [HX.out];simp,hJ3,ht3⟩
    case measure=>first | (simp [intOf];done) | (simp [intOf];omega)
   ·clear hy
    gi_wp2
    refine bodyPost_ret (results_none rfl _ _ _) rfl ?_
    exact⟨⟨_,rfl⟩,.inr ⟨pre,_,_,HX.out,hJx3⟩⟩
theorem backward_any(ao:Option Addr)(N cap:Nat)(w:World) :
  Calls Tryz.prog 197 #[.slice ao N cap] w fun e w'=>e=.returned (.func (.func 224) #[] #[.pointer (some ⟨w.heap.size,0,none⟩)])∧w'=w.alloc (.cells #[.slice ao N cap] 96):=by
 go_enter Tryz.func197,Tryz.ntmps197
 go_wp2
 go_ret
 exact⟨rfl,rfl⟩
end Go.Proofs.YtfdlhlghcbeblaaGreatDoor
