/- word.valid, word.Check; good. PLAIN: how many nodes a pattern has; does it match nothing between two sounds. pats.relate. pats.exists, Matches, Begins. PLAIN: which patterns are valid; sums, repetitions, empty patterns. PLAIN: mirrors. -/
import Derived.Test.YtfdlhlghcbeblaaGreatDoorH05
set_option maxRecDepth 100000
set_option maxHeartbeats 4000000
namespace Go.Proofs.YtfdlhlghcbeblaaGreatDoor
open Go.RowKit Go.Ab
attribute [local go_sem] Oper.semAt_some wide_fn wide_depth
theorem wvalid_any(a b:Nat)(ha:a<4294967296)(hb:b<4294967296)(w:World) :
  Calls Tryz.prog 109 #[.agg #[.int .u32 (a:Int),.int .u32 (b:Int)]] w fun e w'=>e=.returned (.bool (okSound a b))/\Ext w w':=by
 obtain⟨o1,o2⟩:=okSound_bits ha hb
 have hl:a ||| b<4294967296:=Nat.or_lt_two_pow (n:=32) ha hb
 have hok:okSound a b=((a &&& b == 0) && ((a ||| b) / 16777216 == 0)):=rfl
 obtain⟨x,hx⟩:∃ x,(a &&& b == 0)=x:=⟨_,rfl⟩
 obtain⟨c,hc⟩:∃ c,a ||| b=c:=⟨_,rfl⟩
 rw [hx] at o1 hok
 rw [hc] at o2 hok hl
 have q:((c:Int) / 16777216 == 0)=(c / 16777216 == 0):=by
  apply Bool.eq_iff_iff.2
  rw [beq_iff_eq,beq_iff_eq];omega
 obtain⟨y,hy⟩:∃ y,(c / 16777216 == 0)=y:=⟨_,rfl⟩
 rw [hy] at q hok
 have HOK:=Lib.hid hok
 clear hok hx hc hy
 go_enter Tryz.func109,Tryz.ntmps109
 cases x
 ·go_wp2
  go_ret
  exact⟨by rw [HOK.out];rfl,(Turn.refl _ _).alloc _⟩
 ·go_wp2
  go_ret
  exact⟨by rw [HOK.out];rfl,(Turn.refl _ _).alloc _⟩
def wE(ws:Wd):Int:=if 32<ws.length then 11 else if allV ws=true then 0 else 14
theorem wcheck_any{w:World}{v:Value}{ws:Wd}(hv:WordAt w v ws) :
  Calls Tryz.prog 60 #[v] w fun e w'=>e=.returned (.int .i64 (wE ws))/\Ext w w':=by
 obtain⟨ao,cap,rfl,hlm⟩:=hv.slice
 unfold maxLen at hlm
 have HV:=Lib.hid hv
 clear hv
 obtain⟨N,hN⟩:∃ N,ws.length=N:=⟨_,rfl⟩
 have HN:=Lib.hid hN
 have HE:Hid (wE ws=if 32<N then 11 else if allV ws=true then 0 else 14):=Lib.hid (by unfold wE;rw [hN])
 rw [hN] at hlm HV ⊢
 clear hN
 by_cases h32:32<N
 ·rw [if_pos h32] at HE
  have h1:(32:Int)<(N:Int):=by omega
  go_enter Tryz.func60,Tryz.ntmps60
  go_wp2
  go_ret
  exact⟨by rw [HE.out];rfl,Turn.refl _ _⟩
 rw [if_neg h32] at HE
 have h0:¬ (32:Int)<(N:Int):=by omega
 go_enter Tryz.func60,Tryz.ntmps60
 go_wp2
 refine wp_loop (fun a W=>∃(k:Nat),k<=N/\a.defers=[]/\(a.tmps.size=18/\a.tmps.getD 8 undef=.slice ao N cap/\a.tmps.getD 9 undef=.int .i64 N/\a.tmps.getD 10 undef=.int .i64 k)/\allV (ws.take k)=true/\Ext w W)
  (fun a _=>N - (intOf (a.tmps.getD 10 undef)).toNat) ?_ ?_
 ·exact⟨0,by omega,rfl,⟨rfl,rfl,rfl,rfl⟩,by simp [allV],Turn.refl _ _⟩
 rintro⟨t,_⟩ W ⟨k,hk,hds,⟨hsz,f8,f9,f10⟩,hall,hE⟩
 subst hds
 obtain⟨u',hu⟩:=frame_fun hsz
 obtain⟨u,rfl⟩:∃ x,x=u':=⟨_,rfl⟩
 have hu':t=#[u 0,u 1,u 2,u 3,u 4,u 5,u 6,u 7,u 8,u 9,u 10,u 11,u 12,u 13,u 14,u 15,u 16,u 17]:=hu
 clear hu
 subst hu'
 change u 8=_ at f8
 change u 9=_ at f9
 change u 10=_ at f10
 rw [f8,f9,f10]
 clear f8 f9 f10 hsz
 have HALL:=Lib.hid hall
 clear hall
 by_cases hkN:k<N
 ·have h1:(k:Int)<(N:Int):=by omega
  have hkl:k<ws.length:=by rw [HN.out];exact hkN
  obtain⟨g,off,cap',he,hg,d1,d2⟩:=(HV.out.ext hE).at hkl
  simp only [Value.slice.injEq] at he
  obtain⟨rfl,hq',rfl⟩:=he
  clear hq'
  obtain⟨hs1,hs2⟩:=HV.out.2.get k hkl
  obtain⟨a,ha⟩:∃ a,(ws.getD k (0,0)).1=a:=⟨_,rfl⟩
  obtain⟨b,hb⟩:∃ b,(ws.getD k (0,0)).2=b:=⟨_,rfl⟩
  rw [ha] at d1 hs1
  rw [hb] at d2 hs2
  have HA:=Lib.hid ha;have HB:=Lib.hid hb
  clear ha hb
  go_wp2_with fail
  refine(wvalid_any a b hs1 hs2 _).mono ?_
  rintro e W2 ⟨rfl,hE2⟩
  have hE02:Ext w W2:=hE.trans (Turn.trans ((Turn.refl _ W).alloc _) hE2)
  clear hE hE2 d1 d2
  cases hok:okSound a b
  ·have hfin:allV ws=false:=allV_at hkl (by rw [HA.out,HB.out];exact hok)
   have HF:=Lib.hid hfin
   clear hfin hok
   go_wp2
   go_ret
   exact⟨by rw [HE.out,HF.out];rfl,hE02⟩
  ·have hfin:=allV_take hkl HALL.out (by rw [HA.out,HB.out];exact hok)
   have HF:=Lib.hid hfin
   clear hfin hok
   go_wp2
   exact⟨⟨k+1,by omega,by first | rfl | trivial,⟨rfl,rfl,rfl,rfl⟩,HF.out,hE02⟩,by simp [intOf];omega⟩
 ·obtain rfl:k=N:=by omega
  have h1:¬ (k:Int)<(k:Int):=by omega
  have hfin:allV ws=true:=by have:=HALL.out;rwa [List.take_of_length_le (by rw [HN.out];exact Nat.le_refl _)] at this
  have HF:=Lib.hid hfin
  clear hfin
  go_wp2
  go_ret
  exact⟨by rw [HE.out,HF.out];rfl,hE⟩
def goodV(p:Pat)(ws:Wd):Bool:=decide (ws.length<=32) && decide (wE ws=0) && decide (chkP p=0)
end Go.Proofs.YtfdlhlghcbeblaaGreatDoor
namespace Go.Proofs.YtfdlhlghcbeblaaGreatDoor
open Go.RowKit Go.Ab
mutual
def totP:Pat->Nat
 | .node _ _ _ _ _ _ l=>totL l+1
def totL:List Pat->Nat
 | []=>0
 | p::l=>totP p+totL l
end
theorem totP_eq(p:Pat):totP p=totL p.l+1:=by cases p;unfold totP;rfl
theorem totL_append(a b:List Pat):totL (a++b)=totL a+totL b:=by
 induction a with
 | nil=>simp [totL]
 | cons p a ih=>simp only [List.cons_append,totL,ih];omega
theorem szW_tot:∀(f:Nat) (l:List Pat),szW f l=min f (totL l)
 | 0,l=>by rw [szW_zero];omega
 | f+1,[]=>by simp [szW,totL]
 | f+1,p::l=>by
  show szW f (p.l++l)+1=_
  rw [szW_tot f,totL_append]
  simp only [totL,totP_eq]
  omega
theorem sizeP_tot(p:Pat):sizeP p=min 41 (totP p):=by
 unfold sizeP;rw [szW_tot];simp [totL]
mutual
def emptyP:Pat->Bool
 | .node k _ _ _ mn _ l=>if k=0 then true else if k=3 then allE l else if k=4 then anyE l else if k=5 then mn == 0 || headE l else false
def allE:List Pat->Bool
 | []=>true
 | p::l=>emptyP p && allE l
def anyE:List Pat->Bool
 | []=>false
 | p::l=>emptyP p || anyE l
def headE:List Pat->Bool
 | []=>false
 | p::_=>emptyP p
end
def emptyV(p:Pat):Bool:=decide (chkP p=0) && emptyP p
end Go.Proofs.YtfdlhlghcbeblaaGreatDoor
set_option maxRecDepth 100000
set_option maxHeartbeats 8000000
namespace Go.Proofs.YtfdlhlghcbeblaaGreatDoor
open Go.RowKit Go.Ab
attribute [local go_sem] Oper.semAt_some wide_fn wide_depth
def relE(p:Pat)(ws:Wd):Int:=if chkP p=0 then(if 32<ws.length then 11 else if allV ws=true then 0 else 14) else chkP p
def relR(p:Pat)(ws:Wd):Bin2:=if relE p ws=0 then relP ws p else noB
theorem rel_result2{fn:Func}{p u:Tmp}(h:fn.results=#[.cell p 363,.tmp u]){tmps:Array Value}{w:World}{g:Nat}{f:Nat->Nat}(hp:tmps.getD p undef=.pointer (some ⟨g,0,none⟩)) (hg:RowsAt w g f) :
  (results fn tmps).run Tryz.prog w=.ok (.tuple #[.agg (rowArr f),tmps.getD u undef]) w:=by
 have hp':tmps[p]?.getD undef=.pointer (some ⟨g,0,none⟩):=by simpa using hp
 simp [results,h,hp',asAddr,run_loadVar_row w g _ _ _ _ _ hg Tryz.underlying363 rfl (Tryz.relInfo f)]
theorem relate_any{K:Nat->Prop}{w:World}{p:Pat}{cs:List Value}{v:Value}{ws:Wd}(hp:PatAt K w p cs)(hK:∀ g,K g->g<w.heap.size)(hv:WordAt w v ws)(hT:Tab w) :
  Calls Tryz.prog 291 #[.agg cs.toArray,v] w fun e w'=>e=.returned (.tuple #[.agg (rowArr (rowM (relR p ws))),.int .i64 (relE p ws)])/\Ext w w':=by
 have hck:=fun(V:World) (hE:Ext w V)=>check_any (K:=K) (hp.ext hE) (fun g hg=>Nat.lt_of_lt_of_le (hK g hg) hE.size) (hT.keep hE id)
 have hcp:=fun(V:World) (hE:Ext w V)=>compile_all p K V cs (hp.ext hE)
 have hbad:=fun(V:World) (hE:Ext w V)=>contains_bad (hv.ext hE)
 have HV:=Lib.hid hv;have HT:=Lib.hid hT
 obtain⟨ao,cap,rfl,hlc,hcm,_⟩:=patAt_cells hp
 obtain⟨bo,bcap,rfl,hbm⟩:=hv.slice
 clear hp hlc hcm hv hT hK
 have HCK:=Lib.hid hck;have HCP:=Lib.hid hcp;have HBAD:=Lib.hid hbad
 clear hck hcp hbad
 obtain⟨z,hz⟩:∃ z,chkP p=z:=⟨_,rfl⟩
 obtain⟨bad,hbd⟩:∃ b,allV ws=b:=⟨_,rfl⟩
 obtain⟨n,hN⟩:∃ n,ws.length=n:=⟨_,rfl⟩
 have HE:Hid (relE p ws=if z=0 then(if 32<n then 11 else if bad=true then 0 else 14) else z):=Lib.hid (by unfold relE;rw [hz,hbd,hN])
 rw [hz] at HCK
 rw [hbd] at HBAD
 rw [hN] at HBAD HV hbm ⊢
 have HZ:=Lib.hid hz;have HBD:=Lib.hid hbd;have HN:=Lib.hid hN
 clear hz hbd hN
 unfold patCells at HCK HCP ⊢
 have z1:=zero_rel
 have z2:=relArr_size noB
 have z3:=relArr_ne noB
 go_enter Tryz.func291,Tryz.ntmps291
 go_wp2_with fail
 obtain⟨B,hB⟩:∃ B,w.heap.size=B:=⟨_,rfl⟩
 have hx1:((w.alloc (.cells #[.int .i64 p.k,.int .u32 (p.pl:Int),.int .u32 (p.mi:Int),.bool p.nt,.int .i64 p.mn,.int .i64 p.mx,.slice ao p.l.length cap] 98)).alloc (.cells (relArr noB) 363)).heap[B]?=some (.cells #[.int .i64 p.k,.int .u32 (p.pl:Int),.int .u32 (p.mi:Int),.bool p.nt,.int .i64 p.mn,.int .i64 p.mx,.slice ao p.l.length cap] 98 (0,0)):=by
  subst hB;exact new_keep (new_at rfl)
 have hr1:RowsAt ((w.alloc (.cells #[.int .i64 p.k,.int .u32 (p.pl:Int),.int .u32 (p.mi:Int),.bool p.nt,.int .i64 p.mn,.int .i64 p.mx,.slice ao p.l.length cap] 98)).alloc (.cells (relArr noB) 363)) (B+1) (rowM noB):=by
  subst hB;exact new_at (by simp)
 have hE1:Ext w ((w.alloc (.cells #[.int .i64 p.k,.int .u32 (p.pl:Int),.int .u32 (p.mi:Int),.bool p.nt,.int .i64 p.mn,.int .i64 p.mx,.slice ao p.l.length cap] 98)).alloc (.cells (relArr noB) 363)):=((Turn.refl _ w).alloc _).alloc _
 generalize ((w.alloc (.cells #[.int .i64 p.k,.int .u32 (p.pl:Int),.int .u32 (p.mi:Int),.bool p.nt,.int .i64 p.mn,.int .i64 p.mx,.slice ao p.l.length cap] 98)).alloc (.cells (relArr noB) 363))=w1 at hx1 hr1 hE1 ⊢
 rw [hB]
 have HB:=Lib.hid hB
 clear hB
 refine(HCK.out _ hE1).mono ?_
 rintro e w2 ⟨rfl,hE2⟩
 have hx2:=hE2.keep hx1
 have hr2:=hr1.keep hE2 id
 have hE02:=hE1.trans hE2
 clear hE1 hE2 hx1 hr1
 have fin:∀(V:World) (c:Int) (t:Array Value) (ds:List Deferred),RowsAt V (B+1) (rowM noB)->Ext w V->ds=[]->c=relE p ws->c≠0->t.getD 4 undef=.pointer (some ⟨B+1,0,none⟩)->t.getD 5 undef=.int .i64 c ->
   bodyPost Tryz.prog Tryz.f291 (fun e w'=>e=.returned (.tuple #[.agg (rowArr (rowM (relR p ws))),.int .i64 (relE p ws)])/\Ext w w') .ret { tmps:=t,defers:=ds } V:=by
  intro V c t ds h1 h2 h3 h4 h5 h6 h7
  subst h3
  refine bodyPost_ret (rel_result2 rfl h6 h1) rfl ⟨?_,h2⟩
  have:relR p ws=noB:=by unfold relR;rw [if_neg (h4 ▸ h5)]
  rw [this,<-h4]
  show Ending.returned (.tuple #[_,t.getD 5 undef])=_
  rw [h7]
 have FIN:=Lib.hid fin
 clear fin
 have cX:=fun j=>cell_of_row _ _ j _ _ _ hx2
 by_cases hz0:z=0
 ·rw [if_pos hz0] at HE
  subst hz0
  by_cases hn:32<n
  ·rw [if_pos hn] at HE
   have h1:(32:Int)<(n:Int):=by omega
   have hr3:RowsAt (w2.setRow (B+1) (rowArr (rowM noB))) (B+1) (rowM noB):=setRow_heap _ _ _ _ _ _ hr2
   have hE3:Ext w (w2.setRow (B+1) (rowArr (rowM noB))):=hE02.after (Turn.setRow _ _ _) (fun b' h1 h2=>by have:=HB.out;omega)
   go_wp2_with (refine wpList_store_row rfl 363 (.tmp 4) (.tmp 18) rfl (B+1) (rowArr (rowM noB)) rfl rfl _ _ hr2 (Tryz.relInfo _) (by simp only [rowArr_size]) (rowArr_one _) ?_)
   exact FIN.out _ 11 _ _ hr3 hE3 rfl HE.out.symm (by omega) rfl rfl
  ·rw [if_neg hn] at HE
   have h1:¬ (32:Int)<(n:Int):=by omega
   go_wp2_with fail
   refine(HBAD.out _ hE02).mono ?_
   rintro e w3 ⟨rfl,hE3⟩
   have hx3:=hE3.keep hx2
   have hr3:=hr2.keep hE3 id
   have hE03:=hE02.trans hE3
   clear hE3 hx2 hr2 hE02 cX
   have cX:=fun j=>cell_of_row _ _ j _ _ _ hx3
   cases bad
   ·have hr4:RowsAt (w3.setRow (B+1) (rowArr (rowM noB))) (B+1) (rowM noB):=setRow_heap _ _ _ _ _ _ hr3
    have hE4:Ext w (w3.setRow (B+1) (rowArr (rowM noB))):=hE03.after (Turn.setRow _ _ _) (fun b' h1 h2=>by have:=HB.out;omega)
    go_wp2_with (refine wpList_store_row rfl 363 (.tmp 4) (.tmp 22) rfl (B+1) (rowArr (rowM noB)) rfl rfl _ _ hr3 (Tryz.relInfo _) (by simp only [rowArr_size]) (rowArr_one _) ?_)
    exact FIN.out _ 14 _ _ hr4 hE4 rfl HE.out.symm (by omega) rfl rfl
   ·have hok:okPat p:=chkP_ok HZ.out
    have HOK:=Lib.hid hok
    clear hok
    go_wp2_with fail
    refine(HCP.out _ hE03 HOK.out).mono ?_
    rintro e w4 ⟨u,rfl,hPA,hE4⟩
    obtain⟨pay,rfl⟩:=partAt_iface hPA
    have pm:=part_method (cmp p) pay
    have pc:=part_call (cmp p)
    have hr4:=hr3.keep hE4 id
    have hE04:=hE03.trans hE4
    have hin:=in_all (cmp p) _ w4 pay _ ws hPA (HV.out.ext hE04) (by rw [HN.out];omega) (HT.out.keep hE04 id)
    rw [relS_cmp ws p HOK.out] at hin
    have HIN:=Lib.hid hin
    clear hin hE4 hr3 hE03 hx3 cX hPA
    go_wp2_with fail
    clear pm pc
    refine HIN.out.mono ?_
    rintro e w5 ⟨rfl,hE5⟩
    have hr5:=hr4.keep hE5 id
    have hE05:=hE04.trans hE5
    have hr6:RowsAt (w5.setRow (B+1) (rowArr (rowM (relP ws p)))) (B+1) (rowM (relP ws p)):=setRow_heap _ _ _ _ _ _ hr5
    have hE6:Ext w (w5.setRow (B+1) (rowArr (rowM (relP ws p)))):=hE05.after (Turn.setRow _ _ _) (fun b' h1 h2=>by have:=HB.out;omega)
    clear HIN hr4 hE04 hE5
    go_wp2_with (refine wpList_store_row rfl 363 (.tmp 4) (.tmp 26) rfl (B+1) (rowArr (rowM (relP ws p))) rfl rfl _ _ hr5 (Tryz.relInfo _) (by simp only [rowArr_size]) (rowArr_one _) ?_)
    refine bodyPost_ret (rel_result2 rfl rfl hr6) rfl ⟨?_,hE6⟩
    have h0:relE p ws=0:=HE.out
    have:relR p ws=relP ws p:=by unfold relR;rw [if_pos h0]
    rw [this,h0];rfl
 ·rw [if_neg hz0] at HE
  have hr3:RowsAt (w2.setRow (B+1) (rowArr (rowM noB))) (B+1) (rowM noB):=setRow_heap _ _ _ _ _ _ hr2
  have hE3:Ext w (w2.setRow (B+1) (rowArr (rowM noB))):=hE02.after (Turn.setRow _ _ _) (fun b' h1 h2=>by have:=HB.out;omega)
  go_wp2_with (refine wpList_store_row rfl 363 (.tmp 4) (.tmp 12) rfl (B+1) (rowArr (rowM noB)) rfl rfl _ _ hr2 (Tryz.relInfo _) (by simp only [rowArr_size]) (rowArr_one _) ?_)
  exact FIN.out _ z _ _ hr3 hE3 rfl HE.out.symm hz0 rfl rfl
end Go.Proofs.YtfdlhlghcbeblaaGreatDoor
namespace Go.Proofs.YtfdlhlghcbeblaaGreatDoor
open Go.RowKit Go.Ab
attribute [local go_sem] Oper.semAt_some wide_fn wide_depth
def exE(n:Nat)(at':Int):Int:=if at'<0\/(n:Int)<at' then 3 else 0
theorem exists_any(ao:Option Addr)(n cap:Nat)(at':Int)(w:World) :
  Calls Tryz.prog 292 #[.slice ao n cap,.int .i64 at'] w fun e w'=>e=.returned (.int .i64 (exE n at'))/\w'=w:=by
 by_cases h1:at'<0
 ·have HZ:Hid (exE n at'=3):=Lib.hid (by unfold exE;rw [if_pos (.inl h1)])
  go_enter Tryz.func292,Tryz.ntmps292
  go_wp2
  go_ret
  exact⟨by rw [HZ.out];rfl,rfl⟩
 ·by_cases h2:(n:Int)<at'
  ·have HZ:Hid (exE n at'=3):=Lib.hid (by unfold exE;rw [if_pos (.inr h2)])
   go_enter Tryz.func292,Tryz.ntmps292
   go_wp2
   go_ret
   exact⟨by rw [HZ.out];rfl,rfl⟩
  ·have HZ:Hid (exE n at'=0):=Lib.hid (by unfold exE;rw [if_neg (by omega)])
   go_enter Tryz.func292,Tryz.ntmps292
   go_wp2
   go_ret
   exact⟨by rw [HZ.out];rfl,rfl⟩
theorem bit1(x n:Nat)(hx:x<18446744073709551616):(bits .and .u64 ((x:Int) / 2 ^ n) 1 == 1)=x.testBit n:=by
 have e:((x:Int) / 2 ^ n)=((x / 2 ^ n:Nat):Int):=by simp
 have h1:bits .and .u64 ((x / 2 ^ n:Nat):Int) ((1:Nat):Int)=((x / 2 ^ n &&& 1:Nat):Int):=u64_and_nat _ _ (Nat.lt_of_le_of_lt (Nat.div_le_self _ _) hx) (by decide)
 rw [e,show (1:Int)=((1:Nat):Int) from rfl,h1,Nat.and_one_is_mod,Nat.testBit_eq_decide_div_mod_eq,Bool.eq_iff_iff,beq_iff_eq,decide_eq_true_iff]
 omega
theorem bitR(R:Bin2)(a n:Nat)(hn:n<=32):(bits .and .u64 ((rowM R a:Int) / 2 ^ n) 1 == 1)=R a n:=by
 rw [bit1 _ _ (by have:=rowM_lt R a;omega),rowM_bit R (by omega)]
theorem relE_len{p:Pat}{ws:Wd}(h:relE p ws=0):ws.length<=32:=by
 unfold relE at h
 by_cases hc:chkP p=0
 ·rw [if_pos hc] at h
  by_cases hl:32<ws.length
  ·rw [if_pos hl] at h;cases h
  ·omega
 ·rw [if_neg hc] at h;exact absurd h hc
def matV(p:Pat)(ws:Wd):Bool:=decide (relE p ws=0) && relR p ws 0 ws.length
theorem results_two{fn:Func}{t u:Tmp}(h:fn.results=#[.tmp t,.tmp u])(tmps:Array Value)(P:Program)(w:World) :
  (results fn tmps).run P w=.ok (.tuple #[tmps.getD t undef,tmps.getD u undef]) w:=by
 simp [results,h]
end Go.Proofs.YtfdlhlghcbeblaaGreatDoor
namespace Go.Proofs.YtfdlhlghcbeblaaGreatDoor
open Go.RowKit Go.Ab
mutual
def allN:Pat->Prop
 | .node k pl mi nt mn mx l=>nodeE (.node k pl mi nt mn mx l)=0/\allNs l
def allNs:List Pat->Prop
 | []=>True
 | p::l=>allN p/\allNs l
end
end Go.Proofs.YtfdlhlghcbeblaaGreatDoor
namespace Go.Proofs.YtfdlhlghcbeblaaGreatDoor
open Go.RowKit Go.Ab
mutual
def mirP:Pat->Pat
 | .node k pl mi nt mn mx l=>.node (if k=2 then 6 else if k=6 then 2 else k) pl mi nt mn mx (if k=3 then(mirL l).reverse else mirL l)
def mirL:List Pat->List Pat
 | []=>[]
 | p::l=>mirP p::mirL l
end
def nodeF(k:Int)(pl mi:Nat)(nt:Bool)(mn mx:Int)(n:Nat):Int:=
 if k<0\/6<k then 2
 else if k≠1/\(pl≠0\/mi≠0\/nt=true) then 2
 else if k≠3/\k≠4/\k≠5/\n≠0 then 2
 else if k≠5/\(mn≠0\/mx≠0) then 2
 else if k=5/\(n≠1\/mn<0\/32<mn\/(mx≠-1/\(mx<mn\/32<mx))) then 2
 else if okSound pl mi=true then 0 else 14
def flipB(n:Nat)(X:Bin2):Bin2:=fun a b=>decide (a<=n) && decide (b<=n) && X (n - b) (n - a)
end Go.Proofs.YtfdlhlghcbeblaaGreatDoor
