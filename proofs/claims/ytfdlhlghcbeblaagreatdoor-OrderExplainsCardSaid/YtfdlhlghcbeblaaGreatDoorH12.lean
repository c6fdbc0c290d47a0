/- law.put (printed by genput.py). Parts of a word. No program is named. law.replace (printed by genrepl.py). law.run: what its iterator keeps (printed by genrun.py). -/
import Derived.Test.YtfdlhlghcbeblaaGreatDoorH10
import Derived.Test.YtfdlhlghcbeblaaGreatDoorH11
import Derived.Test.YtfdlhlghcbeblaaGreatDoorH02
import Derived.IntWalk
import Derived.Laws.Slices
set_option maxRecDepth 100000
set_option maxHeartbeats 16000000
namespace Go.Proofs.YtfdlhlghcbeblaaGreatDoor
open Go.RowKit Go.Ab
attribute [local go_sem] Oper.semAt_some wide_fn wide_depth
theorem one_snd2(a b:Nat):∀ v∈[Value.int .u32 (a:Int),Value.int .u32 (b:Int)],v.oneCell'=true:=by
 intro v hv
 simp only [List.mem_cons,List.not_mem_nil,or_false] at hv
 rcases hv with rfl | rfl <;> rfl
theorem chg_lt{s f:Nat × Nat}{m:Nat}(hs:lt32 s)(hf:lt32 f):lt32 (chgV s m f).1:=by
 unfold chgV;split
 ·exact⟨by decide,by decide⟩
 ·split
  ·exact⟨by decide,by decide⟩
  ·exact mix_lt _ hs hf
theorem tak_lt{s f:Nat × Nat}{m:Nat}(hs:lt32 s)(hf:lt32 f):lt32 (takV s f m).1:=by
 unfold takV;split
 ·exact⟨by decide,by decide⟩
 ·split
  ·exact⟨by decide,by decide⟩
  ·exact mix_lt _ hs hf
theorem fit_parts{k:Nat}{x:OutD}(h:fitB k x=true):x.frm<k/\(x.tk≠0->0<=x.ofi/\x.ofi<k):=by
 unfold fitB at h
 simp only [Bool.and_eq_true,decide_eq_true_eq] at h
 refine⟨h.1.1.1.1.1.1.1.2,fun h0=>?_⟩
 have:=h.2
 rw [if_neg h0] at this
 simpa using this
def putK(l:LawD)(cut:Wd)(n:Nat):Wd:=(l.outs.take n).map (outS cut)
theorem putK_succ{l:LawD}{cut:Wd}{n:Nat}{x:OutD}(h:n<l.outs.length)(hx:l.outs[n]?=some x):putK l cut (n+1)=putK l cut n++[outS cut x]:=by
 unfold putK
 rw [List.getElem?_eq_getElem h] at hx
 cases hx
 rw [List.take_succ_eq_append_getElem h,List.map_append];rfl
theorem putK_all(l:LawD)(cut:Wd){n:Nat}(h:l.outs.length=n):putK l cut n=putL l cut:=by unfold putK putL;rw [List.take_of_length_le (by omega)]
theorem own_word{w:World}{base:Nat}{e:TypeId}{v:Value}{ws:Wd}(h:w.ownsRow base e 2 v ws.length (sndL ws)) (hok:WdOk ws):WordAt w v ws:=⟨Rd.of_own h,hok⟩
theorem outS_lt{cut:Wd}{x:OutD}(hc:WdOk cut)(hx:OutOk x):lt32 (outS cut x):=by
 have h0:lt32 (if 0<=x.frm then cut.getD x.frm.toNat (0,0) else(0,0)):=by
  split
  ·by_cases h:x.frm.toNat<cut.length
   ·exact hc.get _ h
   ·rw [List.getD_eq_getElem?_getD,List.getElem?_eq_none (by omega)];exact⟨by decide,by decide⟩
  ·exact⟨by decide,by decide⟩
 have h1:lt32 (cut.getD x.ofi.toNat (0,0)):=by
  by_cases h:x.ofi.toNat<cut.length
  ·exact hc.get _ h
  ·rw [List.getD_eq_getElem?_getD,List.getElem?_eq_none (by omega)];exact⟨by decide,by decide⟩
 unfold outS
 split
 ·exact chg_lt h0 hx.2.1
 ·exact tak_lt (chg_lt h0 hx.2.1) h1
theorem putL_ok{l:LawD}{cut:Wd}(hc:WdOk cut)(ho:∀ x∈l.outs,OutOk x):WdOk (putL l cut):=by
 intro s hs
 obtain⟨x,hx,rfl⟩:=List.mem_map.1 hs
 exact outS_lt hc (ho x hx)
theorem put_any{w:World}{cs:List Value}{l:LawD}{v:Value}{cut:Wd}(hl:LawAt w l cs)(hv:WordAt w v cut)(hok:∀ x∈l.outs,fitB cut.length x=true)(hsm:l.outs.length<=1000) :
  Calls Tryz.prog 228 #[.agg cs.toArray,v] w fun e w'=>∃ u,e=.returned u/\w'.ownsRow w.heap.size 95 2 u l.outs.length (sndL (putL l cut))/\Ext w w':=by
 obtain⟨vo,vc,rfl,hvm⟩:=hv.slice
 obtain⟨nm,k1,p1,m1,n1,a1,b1,o1,N1,c1,k2,p2,m2,n2,a2,b2,o2,N2,c2,io,N3,ic,oo,N4,oc,md,rfl,HLA,HPL,HPR,HIF,HOU,HNM,HN1,HN2,HN3,HN4,HMD,q0,q1,q2,q3,q4⟩:=law_gen hl
 obtain⟨vn,hvn⟩:∃ n,cut.length=n:=⟨_,rfl⟩
 rw [hvn] at hv hvm hok
 rw [HN4.out] at hsm
 unfold maxLen at hvm
 have HV:=Lib.hid hv;have HVN:=Lib.hid hvn;have HOK:=Lib.hid hok
 rw [hvn]
 clear hl hv hvn hok
 have HPL:=putL_length l cut
 rw [HN4.out] at HPL
 have HPUT:=Lib.hid HPL
 clear HPL
 rw [HN4.out]
 go_enter Tryz.func228,Tryz.ntmps228
 go_wp2
 have hE1:Ext w (w.alloc (.cells #[.string nm,.int .i64 k1,.int .u32 (p1:Int),.int .u32 (m1:Int),.bool n1,.int .i64 a1,.int .i64 b1,.slice o1 N1 c1,.int .i64 k2,.int .u32 (p2:Int),.int .u32 (m2:Int),.bool n2,.int .i64 a2,.int .i64 b2,.slice o2 N2 c2,.slice io N3 ic,.slice oo N4 oc,.int .i64 md] 102)):=(Turn.refl _ w).alloc _
 refine wp_loop (fun a W=>∃(j:Nat) (ro:Option Addr) (rc:Nat),j<=N4/\a.defers=[]/\(a.tmps.size=54/\a.tmps.getD 1 undef=.slice vo vn vc/\a.tmps.getD 5 undef=.slice ro j rc/\a.tmps.getD 10 undef=.slice oo N4 oc/\a.tmps.getD 11 undef=.int .i64 N4/\a.tmps.getD 12 undef=.int .i64 j)/\W.ownsRow w.heap.size 95 2 (.slice ro j rc) j (sndL (putK l cut j))/\Ext w W)
  (fun a _=>N4 - (intOf (a.tmps.getD 12 undef)).toNat) ?_ ?_
 ·exact⟨0,none,0,by omega,rfl,⟨rfl,rfl,rfl,rfl,rfl,rfl⟩,World.ownsRow_nil _ _ _ _,hE1⟩
 clear hE1
 rintro⟨t,_⟩ V ⟨j,ro,rc,hj,hds,⟨hsz,f1,f5,f10,f11,f12⟩,hO,hE⟩
 subst hds
 obtain⟨u',hu⟩:=frame_fun hsz
 obtain⟨u,rfl⟩:∃ x,x=u':=⟨_,rfl⟩
 have hu':t=#[u 0,u 1,u 2,u 3,u 4,u 5,u 6,u 7,u 8,u 9,u 10,u 11,u 12,u 13,u 14,u 15,u 16,u 17,u 18,u 19,u 20,u 21,u 22,u 23,u 24,u 25,u 26,u 27,u 28,u 29,u 30,u 31,u 32,u 33,u 34,u 35,u 36,u 37,u 38,u 39,u 40,u 41,u 42,u 43,u 44,u 45,u 46,u 47,u 48,u 49,u 50,u 51,u 52,u 53]:=hu
 clear hu
 subst hu'
 change u 1=_ at f1
 change u 5=_ at f5
 change u 10=_ at f10
 change u 11=_ at f11
 change u 12=_ at f12
 rw [f1,f5,f10,f11,f12]
 clear f1 f5 f10 f11 f12 hsz
 by_cases hjN:j<N4
 case neg=>
  obtain rfl:j=N4:=by omega
  have h1:¬ ((j:Int)<(j:Int)):=by omega
  rw [putK_all l cut HN4.out] at hO
  have HO:=Lib.hid hO
  clear hO
  go_wp2
  go_ret
  exact⟨_,rfl,HO.out,hE⟩
 have h1:(j:Int)<(N4:Int):=by omega
 have hjl:j<l.outs.length:=by rw [HN4.out];exact hjN
 obtain⟨gx,ox,cx,hq,hgx,hok6,d0,d1,d2,d3,d4,d5⟩:=(HOU.out.ext hE).at hjl
 simp only [Value.slice.injEq] at hq
 obtain⟨rfl,hz,rfl⟩:=hq
 clear hz
 obtain⟨x,hxj⟩:∃ x,l.outs[j]=x:=⟨_,rfl⟩
 have HXJ:Hid (l.outs[j]?=some x):=Lib.hid (by rw [List.getElem?_eq_getElem hjl,hxj])
 have hfit:=fit_parts (HOK.out _ (List.getElem_mem hjl))
 rw [hxj] at d0 d1 d2 d3 d4 d5 hok6 hfit
 have hos:outS cut x=if x.tk=0 then(chgV (if 0<=x.frm then cut.getD x.frm.toNat (0,0) else(0,0)) x.cl x.st).1 else(takV (chgV (if 0<=x.frm then cut.getD x.frm.toNat (0,0) else(0,0)) x.cl x.st).1 (cut.getD x.ofi.toNat (0,0)) x.tk).1:=rfl
 have HJ:=Lib.hid hjl
 clear hxj hjl
 obtain⟨fr,hfr⟩:∃ y,x.frm=y:=⟨_,rfl⟩
 obtain⟨cl,hcl⟩:∃ y,x.cl=y:=⟨_,rfl⟩
 obtain⟨⟨sa,sb⟩,hst⟩:∃ y,x.st=y:=⟨_,rfl⟩
 obtain⟨tk,htk⟩:∃ y,x.tk=y:=⟨_,rfl⟩
 obtain⟨ofi,hofi⟩:∃ y,x.ofi=y:=⟨_,rfl⟩
 unfold OutOk at hok6
 rw [hfr] at d0 hfit hos
 rw [hcl] at d1 hok6 hos
 rw [hst] at d2 d3 hok6 hos
 rw [htk] at d4 hok6 hfit hos
 rw [hofi] at d5 hfit hos
 dsimp only at d2 d3
 clear hfr hcl hst htk hofi
 have HOS0:=Lib.hid hos
 obtain⟨hk1,hk2,hk3⟩:=hok6
 obtain⟨hfr1,hof1⟩:=hfit
 have HOF:=Lib.hid hof1
 clear hos hof1
 obtain⟨V1,hV1⟩:∃ D,(V.alloc (.cells #[.int .i64 fr,.int .u32 (cl:Int),.int .u32 (sa:Int),.int .u32 (sb:Int),.int .u32 (tk:Int),.int .i64 ofi] 109)).alloc (.cells #[.int .u32 0,.int .u32 0] 95)=D:=⟨_,rfl⟩
 have hEV1:Ext V V1:=by rw [<-hV1];exact((Turn.refl _ V).alloc _).alloc _
 have hx1:V1.heap[V.heap.size]?=some (.cells #[.int .i64 fr,.int .u32 (cl:Int),.int .u32 (sa:Int),.int .u32 (sb:Int),.int .u32 (tk:Int),.int .i64 ofi] 109 (0,0)):=by rw [<-hV1];exact new_keep (new_at rfl)
 have hs1:V1.heap[V.heap.size+1]?=some (.cells #[.int .u32 0,.int .u32 0] 95 (0,0)):=by rw [<-hV1];exact new_at (by simp)
 by_cases hf0:0<=fr
 case pos=>
  obtain⟨i,rfl⟩:=Int.eq_ofNat_of_zero_le hf0
  have hi2:i<vn:=by omega
  obtain⟨gv,ov,cv,hq,hgv,e1,e2⟩:=(HV.out.ext hE).at (i:=i) (by rw [HVN.out];exact hi2)
  simp only [Value.slice.injEq] at hq
  obtain⟨rfl,hz,rfl⟩:=hq
  clear hz
  obtain⟨⟨ta,tb⟩,hts⟩:∃ y,cut.getD i (0,0)=y:=⟨_,rfl⟩
  have hlt:=HV.out.2.get i (by rw [HVN.out];exact hi2)
  rw [hts] at e1 e2 hlt
  dsimp only at e1 e2
  have HOS1:Hid (outS cut x=if tk=0 then(chgV (ta,tb) cl (sa,sb)).1 else(takV (chgV (ta,tb) cl (sa,sb)).1 (cut.getD ofi.toNat (0,0)) tk).1):=Lib.hid (by rw [HOS0.out,if_pos hf0];simp only [Int.toNat_natCast,hts])
  clear hts HOS0
  go_upto_region 6 with (fail)
  obtain⟨X,hX⟩:∃ b,V.heap.size=b:=⟨_,rfl⟩
  obtain⟨S,hS⟩:∃ b,V.heap.size+1=b:=⟨_,rfl⟩
  have HXV:=Lib.hid hX;have HSV:=Lib.hid hS
  rw [hX] at hx1
  rw [hS] at hs1
  rw [hS,hX]
  clear hX hS hV1 d0 d1 d2 d3 d4 d5
  have cX:=fun j=>cell_of_row _ _ j _ _ _ hx1
  have cV1:=hEV1.cell_some e1 id
  have cV2:=hEV1.cell_some e2 id
  have HX1:=Lib.hid hx1;have HS1:=Lib.hid hs1
  clear hx1 hs1 e1 e2
  go_upto_region 8 with (refine wpList_store_row rfl 95 (.tmp 8) (.tmp 23) rfl S #[.int .u32 (ta:Int),.int .u32 (tb:Int)] rfl rfl _ _ HS1.out (by kernel_rfl) rfl (by kernel_rfl) ?_)
  have hT2:=Turn.setRow V1 S #[.int .u32 (ta:Int),.int .u32 (tb:Int)]
  have hs2:=setRow_heap _ _ _ #[.int .u32 (ta:Int),.int .u32 (tb:Int)] _ _ HS1.out
  have hx2:=hT2.heap HX1.out (by have:=HXV.out;have:=HSV.out;omega)
  have hEV2:Ext V (V1.setRow S #[.int .u32 (ta:Int),.int .u32 (tb:Int)]):=Turn.after hEV1 hT2 (fun b hb e=>by have:=HSV.out;omega)
  obtain⟨V2,hV2⟩:∃ D,V1.setRow S #[.int .u32 (ta:Int),.int .u32 (tb:Int)]=D:=⟨_,rfl⟩
  rw [hV2] at hs2 hx2 hEV2 ⊢
  clear hV2 hT2 cX cV1 cV2 HX1 HS1
  have hlt0:lt32 (ta,tb):=hlt
  have hch:=fun(D:World)=>fchange_any hlt0 hk2 hk1 D
  have hul:=chg_lt (m:=cl) hlt0 hk2
  obtain⟨⟨⟨ua,ub⟩,ue⟩,hue⟩:∃ y,chgV (ta,tb) cl (sa,sb)=y:=⟨_,rfl⟩
  rw [hue] at hch HOS1 hul
  dsimp only at hch HOS1 hul
  have HCH:=Lib.hid hch
  clear hch hue
  have cX:=fun j=>cell_of_row _ _ j _ _ _ hx2
  have cS:=fun j=>cell_of_row _ _ j _ _ _ hs2
  go_wp2_with fail
  refine(HCH.out _).mono ?_
  rintro e V3 ⟨rfl,hN⟩
  have hE3:=hEV2.trans hN
  have hx3:=hN.keep hx2
  have hs3:=hN.keep hs2
  have HS3:=Lib.hid hs3
  clear cX cS hx2 hs2 hEV2 hN HCH
  go_upto_region 9 with (refine wpList_store_row rfl 95 (.tmp 8) (.tmp 31) rfl S #[.int .u32 (ua:Int),.int .u32 (ub:Int)] rfl rfl _ _ HS3.out (by kernel_rfl) rfl (by kernel_rfl) ?_)
  have hT4:=Turn.setRow V3 S #[.int .u32 (ua:Int),.int .u32 (ub:Int)]
  have hs4:=setRow_heap _ _ _ #[.int .u32 (ua:Int),.int .u32 (ub:Int)] _ _ HS3.out
  have hx4:=hT4.heap hx3 (by have:=HXV.out;have:=HSV.out;omega)
  have hE4:Ext V (V3.setRow S #[.int .u32 (ua:Int),.int .u32 (ub:Int)]):=Turn.after hE3 hT4 (fun b hb e=>by have:=HSV.out;omega)
  obtain⟨w4,hw4⟩:∃ D,V3.setRow S #[.int .u32 (ua:Int),.int .u32 (ub:Int)]=D:=⟨_,rfl⟩
  rw [hw4] at hs4 hx4 hE4 ⊢
  clear hw4 hT4 hx3 hs3 HS3 hE3
  have cX:=fun j=>cell_of_row _ _ j _ _ _ hx4
  by_cases htk:tk=0
  case pos=>
   subst htk
   go_upto_region 11 with (fail)
   clear cX hx4
   have hfin:outS cut x=(ua,ub):=by rw [HOS1.out];simp
   have HFIN:=Lib.hid hfin
   clear hfin
   have hOx:=own_ext hO hE4
   have hbz:w.heap.size<=w4.heap.size:=Nat.le_trans hE.size hE4.size
   have cS:=fun j=>cell_of_row _ _ j _ _ _ hs4
   go_wp2_with (at_builtin;refine append_row rfl (.tmp 48) (.tmp 50) 99 rfl w.heap.size 95 _ 2 8 Tryz.underlying99 @infoS rfl (by decide) _ _ _ rfl (own_ext hOx ((Turn.refl _ _).alloc _)) ⟨w4.heap.size,0,none⟩ 1 1 [.int .u32 (ua:Int),.int .u32 (ub:Int)] rfl rfl (new_cells' rfl) (one_snd2 _ _) ?c3 ?c4 ?c5 ?_)
   case c3=>unfold maxLen;omega
   case c4=>omega
   case c5=>first | omega | (simp;omega) | exact Nat.le_trans hbz (Turn.alloc (Turn.refl (fun _=>False) _) _).size
   intro ao' c' w7 hO7 hT7 hB7
   have hE7:Ext w w7:=Turn.after (hE.trans (Turn.trans hE4 ((Turn.refl _ _).alloc _))) hT7 (fun b hb e=>by have:=(hO.lt _ e).1;omega)
   have HO7:=Lib.hid hO7;have HE7:=Lib.hid hE7
   clear hO7 hE7 hT7 hB7 cS hOx
   go_wp2
   exact⟨⟨j+1,ao',c',by omega,by first | rfl | trivial,⟨rfl,rfl,rfl,rfl,rfl,rfl⟩,by rw [putK_succ HJ.out HXJ.out,HFIN.out,sndL_append];exact HO7.out,HE7.out⟩,by simp [intOf];omega⟩
  obtain⟨ho0,ho1⟩:=HOF.out htk
  have htk2:((tk:Int) != 0)=true:=by rw [bne_iff_ne];omega
  obtain⟨oo',rfl⟩:=Int.eq_ofNat_of_zero_le ho0
  have ho2:oo'<vn:=by omega
  obtain⟨gw,ow,cw,hq,hgw,e1,e2⟩:=(HV.out.ext hE).at (i:=oo') (by rw [HVN.out];exact ho2)
  simp only [Value.slice.injEq,Option.some.injEq,Addr.mk.injEq] at hq
  obtain⟨⟨rfl,rfl,_⟩,hz,rfl⟩:=hq
  clear hz
  obtain⟨⟨qa,qb⟩,hqs⟩:∃ y,cut.getD oo' (0,0)=y:=⟨_,rfl⟩
  have hqlt:=HV.out.2.get oo' (by rw [HVN.out];exact ho2)
  rw [hqs] at e1 e2 hqlt
  have hqlt2:lt32 (qa,qb):=hqlt
  dsimp only at e1 e2
  have htak:=fun(D:World)=>ftake_any hul hqlt2 hk3 D
  obtain⟨⟨⟨ra,rb⟩,re⟩,hre⟩:∃ y,takV (ua,ub) (qa,qb) tk=y:=⟨_,rfl⟩
  rw [hre] at htak
  dsimp only at htak
  have HTK:=Lib.hid htak
  have HOS2:Hid (outS cut x=(ra,rb)):=Lib.hid (by rw [HOS1.out,if_neg htk,show ((oo':Int)).toNat=oo' from rfl,hqs,hre])
  clear htak hre hqs hqlt hqlt2
  have hcs:∀(D:World),Turn (·=S) w4 D->D.cell? ⟨X,4,none⟩=some (.int .u32 (tk:Int))/\D.cell? ⟨X,5,none⟩=some (.int .i64 oo')/\D.cell? ⟨gv,ov+oo'*2,none⟩=some (.int .u32 (qa:Int))/\D.cell? ⟨gv,ov+oo'*2+1,none⟩=some (.int .u32 (qb:Int)):=by
   intro D hD
   have h0:=hD.heap hx4 (by have:=HXV.out;have:=HSV.out;omega)
   have h1:Ext V D:=Turn.after hE4 hD (fun b hb e=>by have:=HSV.out;omega)
   exact⟨cell_of_row _ _ 4 _ _ _ h0,cell_of_row _ _ 5 _ _ _ h0,h1.cell_some e1 id,h1.cell_some e2 id⟩
  have HS:=Lib.hid hcs
  have HS4:=Lib.hid hs4
  clear hcs
  go_upto_region 10 with (fail)
  clear cX hx4 hs4 e1 e2
  refine wp_region_held_drew (S:=fun D=>D.cell? ⟨X,4,none⟩=some (.int .u32 (tk:Int))/\D.cell? ⟨X,5,none⟩=some (.int .i64 oo')/\D.cell? ⟨gv,ov+oo'*2,none⟩=some (.int .u32 (qa:Int))/\D.cell? ⟨gv,ov+oo'*2+1,none⟩=some (.int .u32 (qb:Int))) (by kernel_rfl) (HS.out _ (Turn.drew (Turn.refl _ w4))) ?_
  intro hS0
  refine tkH (i:=1) (d:=38) (v:=?_) rfl (Or.inl ⟨by rfl,?_⟩) hS0 ?_
  rotate_left
  ·intro w hSw;(try dsimp only at hSw);go_simp;try with_reducible rfl
  try simp only [Act.put,pq]
  refine tkH (i:=2) (d:=39) (v:=?_) rfl (Or.inl ⟨by rfl,?_⟩) hS0 ?_
  rotate_left
  ·intro w hSw;(try dsimp only at hSw);go_simp;try with_reducible rfl
  try simp only [Act.put,pq]
  refine tkH (i:=3) (d:=40) (v:=?_) rfl (Or.inl ⟨by rfl,?_⟩) hS0 ?_
  rotate_left
  ·intro w hSw;(try dsimp only at hSw);go_simp;try with_reducible rfl
  try simp only [Act.put,pq]
  refine tkH (i:=4) (d:=41) (v:=?_) rfl (Or.inl ⟨by rfl,?_⟩) hS0 ?_
  rotate_left
  ·intro w hSw;(try dsimp only at hSw);go_simp;try with_reducible rfl
  try simp only [Act.put,pq]
  refine tkH (i:=5) (d:=42) (v:=?_) rfl (Or.inl ⟨by rfl,?_⟩) hS0 ?_
  rotate_left
  ·intro w hSw;(try dsimp only at hSw);go_simp;try with_reducible rfl
  try simp only [Act.put,pq]
  refine tkH (i:=6) (d:=43) (v:=?_) rfl (Or.inl ⟨by rfl,?_⟩) hS0 ?_
  rotate_left
  ·intro w hSw;(try dsimp only at hSw);go_simp;try with_reducible rfl
  try simp only [Act.put,pq]
  refine tkH (i:=7) (d:=44) (v:=?_) rfl (Or.inl ⟨by rfl,?_⟩) hS0 ?_
  rotate_left
  ·intro w hSw;(try dsimp only at hSw);go_simp;try with_reducible rfl
  try simp only [Act.put,pq]
  refine wpAnyH_ready (rs:=[0]) (by kernel_rfl) (by simp) ?_
  refine AllReadyH.cons rfl (fun K hK=>?_) AllReadyH.nil
  (try rw [if_pos (show Region.wanted _ _=true from rfl)])
  have cS:=fun j=>cell_of_row _ _ j _ _ _ HS4.out
  go_simp
  refine hK.out _ _ hS0 (fun _=>?_)
  clear hK K cS
  try simp only [Act.put,pq]
  refine wpAnyH_ready (rs:=[8]) (by kernel_rfl) (by simp) ?_
  refine AllReadyH.cons rfl (fun K hK=>?_) AllReadyH.nil
  (try rw [if_pos (show Region.wanted _ _=true from rfl)])
  go_simp
  refine(HTK.out _).mono ?_
  rintro e w5 ⟨rfl,hN⟩
  have hw5:Ext w4 w5:=Turn.trans (Turn.drew (Turn.refl _ w4)) hN
  have z5:=hw5.keep HS4.out
  refine hK.out _ _ (HS.out _ (Ext.of hw5)) (fun hS1=>?_)
  clear hK K hN
  refine tkH (i:=9) (d:=36) (v:=?_) rfl (Or.inl ⟨by rfl,?_⟩) hS1 ?_
  rotate_left
  ·intro w hSw;(try dsimp only at hSw);go_simp;try with_reducible rfl
  try simp only [Act.put,pq]
  refine tkH (i:=10) (d:=46) (v:=?_) rfl (Or.inl ⟨by rfl,?_⟩) hS1 ?_
  rotate_left
  ·intro w hSw;(try dsimp only at hSw);go_simp;try with_reducible rfl
  try simp only [Act.put,pq]
  refine tkH (i:=11) (d:=47) (v:=?_) rfl (Or.inl ⟨by rfl,?_⟩) hS1 ?_
  rotate_left
  ·intro w hSw;(try dsimp only at hSw);go_simp;try with_reducible rfl
  try simp only [Act.put,pq]
  refine wpAnyH_ready (rs:=[12]) (by kernel_rfl) (by simp) ?_
  refine AllReadyH.cons rfl (fun K hK=>?_) AllReadyH.nil
  (try rw [if_pos (show Region.wanted _ _=true from rfl)])
  refine wp_store_row 95 (.tmp 8) (.tmp 46) rfl S #[.int .u32 (ra:Int),.int .u32 (rb:Int)] rfl rfl _ _ z5 (by kernel_rfl) rfl (by kernel_rfl) ?_
  have hT9:=Turn.setRow w5 S #[.int .u32 (ra:Int),.int .u32 (rb:Int)]
  have z6:=setRow_heap _ _ _ #[.int .u32 (ra:Int),.int .u32 (rb:Int)] _ _ z5
  refine hK.out _ _ (HS.out _ ((Ext.of hw5).trans hT9)) (fun hS3=>?_)
  clear hK K
  change wpAnyH _ _ _ _ _ _ _ (Act.put _ none _) _
  simp only [Act.put]
  refine wpAnyH_done (by kernel_rfl) ?_ _
  have hE6:Ext V (w5.setRow S #[.int .u32 (ra:Int),.int .u32 (rb:Int)]):=Turn.after (Turn.trans hE4 hw5) hT9 (fun b hb e=>by have:=HSV.out;omega)
  obtain⟨w6,hw6⟩:∃ D,w5.setRow S #[.int .u32 (ra:Int),.int .u32 (rb:Int)]=D:=⟨_,rfl⟩
  rw [hw6] at z6 hE6 ⊢
  clear hw6 hT9 hS0 hS1 hS3 HS z5 hw5 HOS1
  have HOS1:=HOS2
  go_upto_region 11 with (fail)
  have hfin:outS cut x=(ra,rb):=by rw [HOS1.out];skip
  have HFIN:=Lib.hid hfin
  clear hfin
  have hOx:=own_ext hO hE6
  have hbz:w.heap.size<=w6.heap.size:=Nat.le_trans hE.size hE6.size
  have cS:=fun j=>cell_of_row _ _ j _ _ _ z6
  go_wp2_with (at_builtin;refine append_row rfl (.tmp 48) (.tmp 50) 99 rfl w.heap.size 95 _ 2 8 Tryz.underlying99 @infoS rfl (by decide) _ _ _ rfl (own_ext hOx ((Turn.refl _ _).alloc _)) ⟨w6.heap.size,0,none⟩ 1 1 [.int .u32 (ra:Int),.int .u32 (rb:Int)] rfl rfl (new_cells' rfl) (one_snd2 _ _) ?c3 ?c4 ?c5 ?_)
  case c3=>unfold maxLen;omega
  case c4=>omega
  case c5=>first | omega | (simp;omega) | exact Nat.le_trans hbz (Turn.alloc (Turn.refl (fun _=>False) _) _).size
  intro ao' c' w7 hO7 hT7 hB7
  have hE7:Ext w w7:=Turn.after (hE.trans (Turn.trans hE6 ((Turn.refl _ _).alloc _))) hT7 (fun b hb e=>by have:=(hO.lt _ e).1;omega)
  have HO7:=Lib.hid hO7;have HE7:=Lib.hid hE7
  clear hO7 hE7 hT7 hB7 cS hOx
  go_wp2
  exact⟨⟨j+1,ao',c',by omega,by first | rfl | trivial,⟨rfl,rfl,rfl,rfl,rfl,rfl⟩,by rw [putK_succ HJ.out HXJ.out,HFIN.out,sndL_append];exact HO7.out,HE7.out⟩,by simp [intOf];omega⟩
 case neg=>
  have hf1:¬ (0:Int)<=fr:=hf0
  have hlt:(0:Nat)<4294967296/\(0:Nat)<4294967296:=⟨by decide,by decide⟩
  obtain⟨ta,hta⟩:∃ y:Nat,y=0:=⟨_,rfl⟩
  obtain⟨tb,htb⟩:∃ y:Nat,y=0:=⟨_,rfl⟩
  have hz0:(.int .u32 0:Value)=.int .u32 (ta:Int):=by rw [hta];rfl
  have hz1:(.int .u32 0:Value)=.int .u32 (tb:Int):=by rw [htb];rfl
  have hlt:ta<4294967296/\tb<4294967296:=by rw [hta,htb];exact hlt
  have HOS1:Hid (outS cut x=if tk=0 then(chgV (ta,tb) cl (sa,sb)).1 else(takV (chgV (ta,tb) cl (sa,sb)).1 (cut.getD ofi.toNat (0,0)) tk).1):=Lib.hid (by rw [HOS0.out,if_neg hf0,hta,htb])
  have hs1:V1.heap[V.heap.size+1]?=some (.cells #[.int .u32 (ta:Int),.int .u32 (tb:Int)] 95 (0,0)):=by rw [hta,htb];exact hs1
  clear HOS0 hz0 hz1 hta htb
  go_upto_region 6 with (fail)
  obtain⟨X,hX⟩:∃ b,V.heap.size=b:=⟨_,rfl⟩
  obtain⟨S,hS⟩:∃ b,V.heap.size+1=b:=⟨_,rfl⟩
  have HXV:=Lib.hid hX;have HSV:=Lib.hid hS
  rw [hX] at hx1
  rw [hS] at hs1
  rw [hS,hX]
  clear hX hS hV1 d0 d1 d2 d3 d4 d5
  have cX:=fun j=>cell_of_row _ _ j _ _ _ hx1
  go_upto_region 8 with (fail)
  clear cX
  obtain⟨V2,rfl⟩:∃ D,D=V1:=⟨_,rfl⟩
  have hs2:=hs1
  have hx2:=hx1
  have hEV2:=hEV1
  clear hs1 hx1 hEV1
  have hlt0:lt32 (ta,tb):=hlt
  have hch:=fun(D:World)=>fchange_any hlt0 hk2 hk1 D
  have hul:=chg_lt (m:=cl) hlt0 hk2
  obtain⟨⟨⟨ua,ub⟩,ue⟩,hue⟩:∃ y,chgV (ta,tb) cl (sa,sb)=y:=⟨_,rfl⟩
  rw [hue] at hch HOS1 hul
  dsimp only at hch HOS1 hul
  have HCH:=Lib.hid hch
  clear hch hue
  have cX:=fun j=>cell_of_row _ _ j _ _ _ hx2
  have cS:=fun j=>cell_of_row _ _ j _ _ _ hs2
  go_wp2_with fail
  refine(HCH.out _).mono ?_
  rintro e V3 ⟨rfl,hN⟩
  have hE3:=hEV2.trans hN
  have hx3:=hN.keep hx2
  have hs3:=hN.keep hs2
  have HS3:=Lib.hid hs3
  clear cX cS hx2 hs2 hEV2 hN HCH
  go_upto_region 9 with (refine wpList_store_row rfl 95 (.tmp 8) (.tmp 31) rfl S #[.int .u32 (ua:Int),.int .u32 (ub:Int)] rfl rfl _ _ HS3.out (by kernel_rfl) rfl (by kernel_rfl) ?_)
  have hT4:=Turn.setRow V3 S #[.int .u32 (ua:Int),.int .u32 (ub:Int)]
  have hs4:=setRow_heap _ _ _ #[.int .u32 (ua:Int),.int .u32 (ub:Int)] _ _ HS3.out
  have hx4:=hT4.heap hx3 (by have:=HXV.out;have:=HSV.out;omega)
  have hE4:Ext V (V3.setRow S #[.int .u32 (ua:Int),.int .u32 (ub:Int)]):=Turn.after hE3 hT4 (fun b hb e=>by have:=HSV.out;omega)
  obtain⟨w4,hw4⟩:∃ D,V3.setRow S #[.int .u32 (ua:Int),.int .u32 (ub:Int)]=D:=⟨_,rfl⟩
  rw [hw4] at hs4 hx4 hE4 ⊢
  clear hw4 hT4 hx3 hs3 HS3 hE3
  have cX:=fun j=>cell_of_row _ _ j _ _ _ hx4
  by_cases htk:tk=0
  case pos=>
   subst htk
   go_upto_region 11 with (fail)
   clear cX hx4
   have hfin:outS cut x=(ua,ub):=by rw [HOS1.out];simp
   have HFIN:=Lib.hid hfin
   clear hfin
   have hOx:=own_ext hO hE4
   have hbz:w.heap.size<=w4.heap.size:=Nat.le_trans hE.size hE4.size
   have cS:=fun j=>cell_of_row _ _ j _ _ _ hs4
   go_wp2_with (at_builtin;refine append_row rfl (.tmp 48) (.tmp 50) 99 rfl w.heap.size 95 _ 2 8 Tryz.underlying99 @infoS rfl (by decide) _ _ _ rfl (own_ext hOx ((Turn.refl _ _).alloc _)) ⟨w4.heap.size,0,none⟩ 1 1 [.int .u32 (ua:Int),.int .u32 (ub:Int)] rfl rfl (new_cells' rfl) (one_snd2 _ _) ?c3 ?c4 ?c5 ?_)
   case c3=>unfold maxLen;omega
   case c4=>omega
   case c5=>first | omega | (simp;omega) | exact Nat.le_trans hbz (Turn.alloc (Turn.refl (fun _=>False) _) _).size
   intro ao' c' w7 hO7 hT7 hB7
   have hE7:Ext w w7:=Turn.after (hE.trans (Turn.trans hE4 ((Turn.refl _ _).alloc _))) hT7 (fun b hb e=>by have:=(hO.lt _ e).1;omega)
   have HO7:=Lib.hid hO7;have HE7:=Lib.hid hE7
   clear hO7 hE7 hT7 hB7 cS hOx
   go_wp2
   exact⟨⟨j+1,ao',c',by omega,by first | rfl | trivial,⟨rfl,rfl,rfl,rfl,rfl,rfl⟩,by rw [putK_succ HJ.out HXJ.out,HFIN.out,sndL_append];exact HO7.out,HE7.out⟩,by simp [intOf];omega⟩
  obtain⟨ho0,ho1⟩:=HOF.out htk
  have htk2:((tk:Int) != 0)=true:=by rw [bne_iff_ne];omega
  obtain⟨oo',rfl⟩:=Int.eq_ofNat_of_zero_le ho0
  have ho2:oo'<vn:=by omega
  obtain⟨gw,ow,cw,hq,hgw,e1,e2⟩:=(HV.out.ext hE).at (i:=oo') (by rw [HVN.out];exact ho2)
  simp only [Value.slice.injEq] at hq
  obtain⟨rfl,hz,rfl⟩:=hq
  clear hz
  obtain⟨⟨qa,qb⟩,hqs⟩:∃ y,cut.getD oo' (0,0)=y:=⟨_,rfl⟩
  have hqlt:=HV.out.2.get oo' (by rw [HVN.out];exact ho2)
  rw [hqs] at e1 e2 hqlt
  have hqlt2:lt32 (qa,qb):=hqlt
  dsimp only at e1 e2
  have htak:=fun(D:World)=>ftake_any hul hqlt2 hk3 D
  obtain⟨⟨⟨ra,rb⟩,re⟩,hre⟩:∃ y,takV (ua,ub) (qa,qb) tk=y:=⟨_,rfl⟩
  rw [hre] at htak
  dsimp only at htak
  have HTK:=Lib.hid htak
  have HOS2:Hid (outS cut x=(ra,rb)):=Lib.hid (by rw [HOS1.out,if_neg htk,show ((oo':Int)).toNat=oo' from rfl,hqs,hre])
  clear htak hre hqs hqlt hqlt2
  have hcs:∀(D:World),Turn (·=S) w4 D->D.cell? ⟨X,4,none⟩=some (.int .u32 (tk:Int))/\D.cell? ⟨X,5,none⟩=some (.int .i64 oo')/\D.cell? ⟨gw,ow+oo'*2,none⟩=some (.int .u32 (qa:Int))/\D.cell? ⟨gw,ow+oo'*2+1,none⟩=some (.int .u32 (qb:Int)):=by
   intro D hD
   have h0:=hD.heap hx4 (by have:=HXV.out;have:=HSV.out;omega)
   have h1:Ext V D:=Turn.after hE4 hD (fun b hb e=>by have:=HSV.out;omega)
   exact⟨cell_of_row _ _ 4 _ _ _ h0,cell_of_row _ _ 5 _ _ _ h0,h1.cell_some e1 id,h1.cell_some e2 id⟩
  have HS:=Lib.hid hcs
  have HS4:=Lib.hid hs4
  clear hcs
  go_upto_region 10 with (fail)
  clear cX hx4 hs4 e1 e2
  refine wp_region_held_drew (S:=fun D=>D.cell? ⟨X,4,none⟩=some (.int .u32 (tk:Int))/\D.cell? ⟨X,5,none⟩=some (.int .i64 oo')/\D.cell? ⟨gw,ow+oo'*2,none⟩=some (.int .u32 (qa:Int))/\D.cell? ⟨gw,ow+oo'*2+1,none⟩=some (.int .u32 (qb:Int))) (by kernel_rfl) (HS.out _ (Turn.drew (Turn.refl _ w4))) ?_
  intro hS0
  refine tkH (i:=1) (d:=38) (v:=?_) rfl (Or.inl ⟨by rfl,?_⟩) hS0 ?_
  rotate_left
  ·intro w hSw;(try dsimp only at hSw);go_simp;try with_reducible rfl
  try simp only [Act.put,pq]
  refine tkH (i:=2) (d:=39) (v:=?_) rfl (Or.inl ⟨by rfl,?_⟩) hS0 ?_
  rotate_left
  ·intro w hSw;(try dsimp only at hSw);go_simp;try with_reducible rfl
  try simp only [Act.put,pq]
  refine tkH (i:=3) (d:=40) (v:=?_) rfl (Or.inl ⟨by rfl,?_⟩) hS0 ?_
  rotate_left
  ·intro w hSw;(try dsimp only at hSw);go_simp;try with_reducible rfl
  try simp only [Act.put,pq]
  refine tkH (i:=4) (d:=41) (v:=?_) rfl (Or.inl ⟨by rfl,?_⟩) hS0 ?_
  rotate_left
  ·intro w hSw;(try dsimp only at hSw);go_simp;try with_reducible rfl
  try simp only [Act.put,pq]
  refine tkH (i:=5) (d:=42) (v:=?_) rfl (Or.inl ⟨by rfl,?_⟩) hS0 ?_
  rotate_left
  ·intro w hSw;(try dsimp only at hSw);go_simp;try with_reducible rfl
  try simp only [Act.put,pq]
  refine tkH (i:=6) (d:=43) (v:=?_) rfl (Or.inl ⟨by rfl,?_⟩) hS0 ?_
  rotate_left
  ·intro w hSw;(try dsimp only at hSw);go_simp;try with_reducible rfl
  try simp only [Act.put,pq]
  refine tkH (i:=7) (d:=44) (v:=?_) rfl (Or.inl ⟨by rfl,?_⟩) hS0 ?_
  rotate_left
  ·intro w hSw;(try dsimp only at hSw);go_simp;try with_reducible rfl
  try simp only [Act.put,pq]
  refine wpAnyH_ready (rs:=[0]) (by kernel_rfl) (by simp) ?_
  refine AllReadyH.cons rfl (fun K hK=>?_) AllReadyH.nil
  (try rw [if_pos (show Region.wanted _ _=true from rfl)])
  have cS:=fun j=>cell_of_row _ _ j _ _ _ HS4.out
  go_simp
  refine hK.out _ _ hS0 (fun _=>?_)
  clear hK K cS
  try simp only [Act.put,pq]
  refine wpAnyH_ready (rs:=[8]) (by kernel_rfl) (by simp) ?_
  refine AllReadyH.cons rfl (fun K hK=>?_) AllReadyH.nil
  (try rw [if_pos (show Region.wanted _ _=true from rfl)])
  go_simp
  refine(HTK.out _).mono ?_
  rintro e w5 ⟨rfl,hN⟩
  have hw5:Ext w4 w5:=Turn.trans (Turn.drew (Turn.refl _ w4)) hN
  have z5:=hw5.keep HS4.out
  refine hK.out _ _ (HS.out _ (Ext.of hw5)) (fun hS1=>?_)
  clear hK K hN
  refine tkH (i:=9) (d:=36) (v:=?_) rfl (Or.inl ⟨by rfl,?_⟩) hS1 ?_
  rotate_left
  ·intro w hSw;(try dsimp only at hSw);go_simp;try with_reducible rfl
  try simp only [Act.put,pq]
  refine tkH (i:=10) (d:=46) (v:=?_) rfl (Or.inl ⟨by rfl,?_⟩) hS1 ?_
  rotate_left
  ·intro w hSw;(try dsimp only at hSw);go_simp;try with_reducible rfl
  try simp only [Act.put,pq]
  refine tkH (i:=11) (d:=47) (v:=?_) rfl (Or.inl ⟨by rfl,?_⟩) hS1 ?_
  rotate_left
  ·intro w hSw;(try dsimp only at hSw);go_simp;try with_reducible rfl
  try simp only [Act.put,pq]
  refine wpAnyH_ready (rs:=[12]) (by kernel_rfl) (by simp) ?_
  refine AllReadyH.cons rfl (fun K hK=>?_) AllReadyH.nil
  (try rw [if_pos (show Region.wanted _ _=true from rfl)])
  refine wp_store_row 95 (.tmp 8) (.tmp 46) rfl S #[.int .u32 (ra:Int),.int .u32 (rb:Int)] rfl rfl _ _ z5 (by kernel_rfl) rfl (by kernel_rfl) ?_
  have hT9:=Turn.setRow w5 S #[.int .u32 (ra:Int),.int .u32 (rb:Int)]
  have z6:=setRow_heap _ _ _ #[.int .u32 (ra:Int),.int .u32 (rb:Int)] _ _ z5
  refine hK.out _ _ (HS.out _ ((Ext.of hw5).trans hT9)) (fun hS3=>?_)
  clear hK K
  change wpAnyH _ _ _ _ _ _ _ (Act.put _ none _) _
  simp only [Act.put]
  refine wpAnyH_done (by kernel_rfl) ?_ _
  have hE6:Ext V (w5.setRow S #[.int .u32 (ra:Int),.int .u32 (rb:Int)]):=Turn.after (Turn.trans hE4 hw5) hT9 (fun b hb e=>by have:=HSV.out;omega)
  obtain⟨w6,hw6⟩:∃ D,w5.setRow S #[.int .u32 (ra:Int),.int .u32 (rb:Int)]=D:=⟨_,rfl⟩
  rw [hw6] at z6 hE6 ⊢
  clear hw6 hT9 hS0 hS1 hS3 HS z5 hw5 HOS1
  have HOS1:=HOS2
  go_upto_region 11 with (fail)
  have hfin:outS cut x=(ra,rb):=by rw [HOS1.out];skip
  have HFIN:=Lib.hid hfin
  clear hfin
  have hOx:=own_ext hO hE6
  have hbz:w.heap.size<=w6.heap.size:=Nat.le_trans hE.size hE6.size
  have cS:=fun j=>cell_of_row _ _ j _ _ _ z6
  go_wp2_with (at_builtin;refine append_row rfl (.tmp 48) (.tmp 50) 99 rfl w.heap.size 95 _ 2 8 Tryz.underlying99 @infoS rfl (by decide) _ _ _ rfl (own_ext hOx ((Turn.refl _ _).alloc _)) ⟨w6.heap.size,0,none⟩ 1 1 [.int .u32 (ra:Int),.int .u32 (rb:Int)] rfl rfl (new_cells' rfl) (one_snd2 _ _) ?c3 ?c4 ?c5 ?_)
  case c3=>unfold maxLen;omega
  case c4=>omega
  case c5=>first | omega | (simp;omega) | exact Nat.le_trans hbz (Turn.alloc (Turn.refl (fun _=>False) _) _).size
  intro ao' c' w7 hO7 hT7 hB7
  have hE7:Ext w w7:=Turn.after (hE.trans (Turn.trans hE6 ((Turn.refl _ _).alloc _))) hT7 (fun b hb e=>by have:=(hO.lt _ e).1;omega)
  have HO7:=Lib.hid hO7;have HE7:=Lib.hid hE7
  clear hO7 hE7 hT7 hB7 cS hOx
  go_wp2
  exact⟨⟨j+1,ao',c',by omega,by first | rfl | trivial,⟨rfl,rfl,rfl,rfl,rfl,rfl⟩,by rw [putK_succ HJ.out HXJ.out,HFIN.out,sndL_append];exact HO7.out,HE7.out⟩,by simp [intOf];omega⟩
end Go.Proofs.YtfdlhlghcbeblaaGreatDoor
namespace Go.Ab
open Go.RowKit
theorem cut_at(b o j:Nat):(⟨b,o,none⟩:Addr).add j=⟨b,o+j,none⟩:=by
 unfold Addr.add;split
 ·rename_i h;subst h;rfl
 ·simp
theorem sndL_drop:∀(ws:Wd) (a:Nat),sndL (ws.drop a)=(sndL ws).drop (a*2)
 | _,0=>rfl
 | [],a+1=>by simp [sndL]
 | s::ws,a+1=>by
  rw [List.drop_succ_cons,sndL_drop ws a,sndL_cons,show (a+1)*2=a*2+1+1 by omega,List.drop_succ_cons,List.drop_succ_cons]
theorem sndL_take:∀(ws:Wd) (a:Nat),sndL (ws.take a)=(sndL ws).take (a*2)
 | _,0=>rfl
 | [],a+1=>by simp [sndL]
 | s::ws,a+1=>by
  rw [List.take_succ_cons,sndL_cons,sndL_take ws a,sndL_cons,show (a+1)*2=a*2+1+1 by omega,List.take_succ_cons,List.take_succ_cons]
theorem WordAt.cut{w:World}{A:Option Addr}{c:Nat}{ws:Wd}(h:WordAt w (.slice A ws.length c) ws) {a b:Nat} (hab:a<=b) (hb:b<=ws.length) (hcap:ws.length<=c) :
  WordAt w (sliced A a b c 2) ((ws.drop a).take (b - a)):=by
 have hlen:((ws.drop a).take (b - a)).length=b - a:=by rw [List.length_take,List.length_drop];omega
 obtain⟨⟨h1,h2,ao,cap,hv,h3⟩,h4⟩:=h
 simp only [Value.slice.injEq,true_and] at hv
 obtain⟨rfl,rfl⟩:=hv
 refine⟨⟨by rw [sndL_length],by omega,_,_,by unfold sliced;rw [hlen],fun h0=>?_⟩,fun s hs=>h4 s (List.mem_of_mem_drop (List.mem_of_mem_take hs))⟩
 rw [hlen] at h0
 obtain⟨g,off,rfl,hg,hc⟩:=h3 (by omega)
 have cells:∀ j,j<(b - a)*2->w.cell? ⟨g,off+a*2+j,none⟩=some ((sndL ((ws.drop a).take (b - a))).getD j undef):=fun j hj=>by
  rw [Nat.add_assoc,hc (a*2+j) (by omega),sndL_take,sndL_drop]
  congr 1
  rw [List.getD_eq_getElem?_getD,List.getD_eq_getElem?_getD,List.getElem?_take,if_pos hj,List.getElem?_drop]
 rw [hlen]
 by_cases hca:c=a
 ·omega
 ·exact⟨g,off+a*2,by rw [if_neg hca];simp [cut_at],hg,fun j hj=>cells j hj⟩
theorem take_mid{ws:Wd}{a b:Nat}(h:b=ws.length):(ws.drop a).take (b - a)=ws.drop a:=by
 subst h;rw [<-List.length_drop,List.take_length]
theorem take_zero{ws:Wd}(b:Nat):(ws.drop 0).take (b - 0)=ws.take b:=by simp
section
variable {P:Program} {t:TypeId} {size:Nat}
theorem slice_lh{A:Option Addr}{n c:Nat}(ht:P.underlying t=some (.slice (P.elem t))) (hs:∀ D,(sizeOf (P.elem t)).run P D=.ok size D) (a b:Nat) (h1:a<=b) (h2:b<=c) (D:World) :
  (Instr.slice t (.slice A n c) (some (.int .i64 (a:Int))) (some (.int .i64 (b:Int))) none).run P D=.ok (sliced A a b c size) D:=by
 rw [run_slice_lh D t A n c ht .i64 .i64 (a:Int) (b:Int) (by omega) (by omega) (by omega),hs];rfl
theorem slice_h{A:Option Addr}{n c:Nat}(ht:P.underlying t=some (.slice (P.elem t))) (hs:∀ D,(sizeOf (P.elem t)).run P D=.ok size D) (b:Nat) (h2:b<=c) (D:World) :
  (Instr.slice t (.slice A n c) none (some (.int .i64 (b:Int))) none).run P D=.ok (sliced A 0 b c size) D:=by
 rw [run_slice_h D t A n c ht .i64 (b:Int) (by omega) (by omega),hs];rfl
theorem slice_l{A:Option Addr}{n c:Nat}(ht:P.underlying t=some (.slice (P.elem t))) (hs:∀ D,(sizeOf (P.elem t)).run P D=.ok size D) (a:Nat) (h2:a<=n) (D:World) :
  (Instr.slice t (.slice A n c) (some (.int .i64 (a:Int))) none none).run P D=.ok (sliced A a n c size) D:=by
 rw [run_slice_l D t A n c ht .i64 (a:Int) (by omega) (by omega),hs];rfl
end
end Go.Ab
set_option maxRecDepth 100000
set_option maxHeartbeats 16000000
namespace Go.Proofs.YtfdlhlghcbeblaaGreatDoor
open Go.RowKit Go.Ab
attribute [local go_sem] Oper.semAt_some wide_fn wide_depth
theorem size_snd(D:World):(sizeOf (Tryz.prog.elem 99)).run Tryz.prog D=.ok 2 D:=by
 have h:Tryz.prog.elem 99=95:=by kernel_rfl
 obtain⟨i,hi,_,h2,_⟩:=info_parts (@infoS)
 rw [h];simp [sizeOf,typeInfo,hi,h2]
theorem under_snd:Tryz.prog.underlying 99=some (.slice (Tryz.prog.elem 99)):=by kernel_rfl
theorem three_rd{w:World}{a b c:Value}{t:TypeId}:Rd (w.alloc (.cells #[a,b,c] t)) (.slice (some ⟨w.heap.size,0,none⟩) 3 3) 3 1 [a,b,c]:=by
 refine⟨rfl,by simp [maxLen],_,_,rfl,fun _=>⟨_,_,rfl,by simp,fun j hj=>?_⟩⟩
 rw [Nat.zero_add,World.cell?_alloc_new]
 match j,hj with
 | 0,_=>rfl
 | 1,_=>rfl
 | 2,_=>rfl
theorem replace_any{w:World}{cs:List Value}{l:LawD}{vo:Option Addr}{vn vc:Nat}{ws:Wd}(hl:LawAt w l cs)(hv:WordAt w (.slice vo vn vc) ws) (hn:ws.length=vn) (hcap:vn<=vc) (i:Nat) (hi:i+l.ifs.length<=vn)
  (hok:∀ x∈l.outs,fitB l.ifs.length x=true) (hsm:l.outs.length<=100) (hwm:vn<=800) :
  Calls Tryz.prog 230 #[.agg cs.toArray,.slice vo vn vc,.int .i64 i] w fun e w'=>∃ u,e=.returned u/\w'.ownsRow w.heap.size 95 2 u (replL l ws i).length (sndL (replL l ws i))/\Ext w w':=by
 subst hn
 obtain⟨nm,k1,p1,m1,n1,a1,b1,o1,N1,c1,k2,p2,m2,n2,a2,b2,o2,N2,c2,io,N3,ic,oo,N4,oc,md,rfl,HLA,HPL,HPR,HIF,HOU,HNM,HN1,HN2,HN3,HN4,HMD,q0,q1,q2,q3,q4⟩:=law_gen hl
 rw [HN3.out] at hi hok
 rw [HN4.out] at hsm
 have hw1:WordAt w _ _:=WordAt.cut hv (a:=0) (b:=i) (by omega) (by omega) hcap
 have hw2:WordAt w _ _:=WordAt.cut hv (a:=i) (b:=i+N3) (by omega) hi hcap
 have hw3:WordAt w _ _:=WordAt.cut hv (a:=i+N3) (b:=ws.length) hi (by omega) hcap
 rw [take_zero] at hw1
 rw [show i+N3 - i=N3 by omega] at hw2
 rw [take_mid rfl] at hw3
 have s1:=fun D=>slice_h (A:=vo) (n:=ws.length) (c:=vc) under_snd size_snd i (by omega) D
 have s2:=fun D=>slice_lh (A:=vo) (n:=ws.length) (c:=vc) under_snd size_snd i (i+N3) (by omega) (by omega) D
 have s3:=fun D=>slice_l (A:=vo) (n:=ws.length) (c:=vc) under_snd size_snd (i+N3) (by omega) D
 simp only [Int.natCast_add] at s2 s3
 obtain⟨y1,z1,e1,hx1⟩:∃ y z e,sliced vo 0 i vc 2=.slice y z e:=⟨_,_,_,rfl⟩
 obtain⟨y2,z2,e2,hx2⟩:∃ y z e,sliced vo i (i+N3) vc 2=.slice y z e:=⟨_,_,_,rfl⟩
 obtain⟨y3,z3,e3,hx3⟩:∃ y z e,sliced vo (i+N3) ws.length vc 2=.slice y z e:=⟨_,_,_,rfl⟩
 rw [hx1] at hw1 s1
 rw [hx2] at hw2 s2
 rw [hx3] at hw3 s3
 clear hx1 hx2 hx3
 have hmid:((ws.drop i).take N3).length=N3:=by rw [List.length_take,List.length_drop];omega
 have hE1:Ext w (w.alloc (.cells #[.string nm,.int .i64 k1,.int .u32 (p1:Int),.int .u32 (m1:Int),.bool n1,.int .i64 a1,.int .i64 b1,.slice o1 N1 c1,.int .i64 k2,.int .u32 (p2:Int),.int .u32 (m2:Int),.bool n2,.int .i64 a2,.int .i64 b2,.slice o2 N2 c2,.slice io N3 ic,.slice oo N4 oc,.int .i64 md] 102)):=(Turn.refl _ w).alloc _
 have hH1:(w.alloc (.cells #[.string nm,.int .i64 k1,.int .u32 (p1:Int),.int .u32 (m1:Int),.bool n1,.int .i64 a1,.int .i64 b1,.slice o1 N1 c1,.int .i64 k2,.int .u32 (p2:Int),.int .u32 (m2:Int),.bool n2,.int .i64 a2,.int .i64 b2,.slice o2 N2 c2,.slice io N3 ic,.slice oo N4 oc,.int .i64 md] 102)).heap[w.heap.size]?=some (.cells #[.string nm,.int .i64 k1,.int .u32 (p1:Int),.int .u32 (m1:Int),.bool n1,.int .i64 a1,.int .i64 b1,.slice o1 N1 c1,.int .i64 k2,.int .u32 (p2:Int),.int .u32 (m2:Int),.bool n2,.int .i64 a2,.int .i64 b2,.slice o2 N2 c2,.slice io N3 ic,.slice oo N4 oc,.int .i64 md] 102 (0,0)):=new_at rfl
 have hputs:=fun(D:World) (hE:Ext w D)=>put_any (HLA.out.ext hE) (hw2.ext hE) (by rw [hmid];exact hok) (by rw [HN4.out];omega)
 have HREP:Hid (replL l ws i=ws.take i++putL l ((ws.drop i).take N3)++ws.drop (i+N3)):=Lib.hid (by unfold replL repl;rw [HN3.out])
 have hpl:=putL_length l ((ws.drop i).take N3)
 rw [HN4.out] at hpl
 have hpok:WdOk (putL l ((ws.drop i).take N3)):=putL_ok hw2.2 HOU.out.2
 obtain⟨M,hM⟩:∃ M,putL l ((ws.drop i).take N3)=M:=⟨_,rfl⟩
 rw [hM] at hputs HREP hpl hpok
 obtain⟨F,hF⟩:∃ F,replL l ws i=F:=⟨_,rfl⟩
 rw [hF] at HREP ⊢
 have HCON:Hid (∀(uo:Option Addr) (uc:Nat) (w5:World),w5.ownsRow (w.heap.size+1) 95 2 (.slice uo N4 uc) N4 (sndL M)->Ext w w5->Calls Tryz.prog 227 #[.slice (some ⟨w5.heap.size,0,none⟩) 3 3] (w5.alloc (.cells #[.slice y1 z1 e1,.slice uo N4 uc,.slice y3 z3 e3] 99)) fun e w'=>∃ u,e=.returned u/\w'.ownsRow (w5.heap.size+1) 95 2 u F.length (sndL F)/\Ext (w5.alloc (.cells #[.slice y1 z1 e1,.slice uo N4 uc,.slice y3 z3 e3] 99)) w'):=Lib.hid fun uo uc w5 hO5 hE5=>by
  have hA:Ext w5 (w5.alloc (.cells #[.slice y1 z1 e1,.slice uo N4 uc,.slice y3 z3 e3] 99)):=(Turn.refl _ w5).alloc _
  have hr5:=Rd.of_own (own_ext hO5 hA)
  have hc:=concat_any (w:=w5.alloc (.cells #[.slice y1 z1 e1,.slice uo N4 uc,.slice y3 z3 e3] 99)) (us:=[ws.take i,M,ws.drop (i+N3)]) (F:=F) (by rw [HREP.out];simp) (three_rd (w:=w5))
   (fun j hj=>by
    match j,hj with
    | 0,_=>exact(hw1.ext hE5).ext hA
    | 1,_=>
     show WordAt _ (.slice uo N4 uc) M
     exact⟨by rw [hpl];exact hr5,hpok⟩
    | 2,_=>exact(hw3.ext hE5).ext hA) (by rw [HREP.out];simp [hpl];omega)
  rw [World.size_alloc] at hc
  exact hc
 have HPUTS:=Lib.hid hputs
 clear hl hv hw1 hw2 hw3 hok hputs hmid hpl hpok hM hF
 go_enter Tryz.func230,Tryz.ntmps230
 go_upto_region 2 with (fail)
 obtain⟨w1,hw1⟩:∃ D,w.alloc (.cells #[.string nm,.int .i64 k1,.int .u32 (p1:Int),.int .u32 (m1:Int),.bool n1,.int .i64 a1,.int .i64 b1,.slice o1 N1 c1,.int .i64 k2,.int .u32 (p2:Int),.int .u32 (m2:Int),.bool n2,.int .i64 a2,.int .i64 b2,.slice o2 N2 c2,.slice io N3 ic,.slice oo N4 oc,.int .i64 md] 102)=D:=⟨_,rfl⟩
 rw [hw1] at hE1 hH1 ⊢
 obtain⟨B,hB⟩:∃ b,w.heap.size=b:=⟨_,rfl⟩
 rw [hB] at hH1 HCON ⊢
 have hs1:w1.drew.heap.size=B+1:=by show w1.heap.size=B+1;rw [<-hw1,<-hB];simp
 have HL1:Hid (w1.drew.heap[B]?=some (.cells #[.string nm,.int .i64 k1,.int .u32 (p1:Int),.int .u32 (m1:Int),.bool n1,.int .i64 a1,.int .i64 b1,.slice o1 N1 c1,.int .i64 k2,.int .u32 (p2:Int),.int .u32 (m2:Int),.bool n2,.int .i64 a2,.int .i64 b2,.slice o2 N2 c2,.slice io N3 ic,.slice oo N4 oc,.int .i64 md] 102 (0,0))):=Lib.hid hH1
 have hp:=HPUTS.out w1.drew (Turn.drew hE1)
 rw [hs1,HN4.out] at hp
 have hED:Ext w w1.drew:=Turn.drew hE1
 clear hs1 hE1
 have HPUT:=Lib.hid hp
 have HB:=Lib.hid hB
 clear hp hH1 hw1 hB HPUTS
 refine wp_region_held_drew (S:=fun _=>True) (by kernel_rfl) trivial ?_
 intro hS0
 refine tkH (i:=0) (d:=13) (v:=?_) rfl (Or.inl ⟨by rfl,?_⟩) trivial ?_
 rotate_left
 ·intro w hSw;(try dsimp only at hSw);go_simp;try with_reducible rfl
 try simp only [Act.put,pq]
 refine tkH (i:=1) (d:=14) (v:=?_) rfl (Or.inl ⟨by rfl,?_⟩) trivial ?_
 rotate_left
 ·intro w hSw;(try dsimp only at hSw);go_simp;try with_reducible rfl
 try simp only [Act.put,pq]
 refine tkH (i:=2) (d:=15) (v:=?_) rfl (Or.inl ⟨by rfl,?_⟩) trivial ?_
 rotate_left
 ·intro w hSw;(try dsimp only at hSw);go_simp;try with_reducible rfl
 try simp only [Act.put,pq]
 refine tkH (i:=4) (d:=17) (v:=?_) rfl (Or.inl ⟨by rfl,?_⟩) trivial ?_
 rotate_left
 ·intro w hSw;(try dsimp only at hSw);go_simp;try with_reducible rfl
 try simp only [Act.put,pq]
 refine tkH (i:=5) (d:=18) (v:=?_) rfl (Or.inl ⟨by rfl,?_⟩) trivial ?_
 rotate_left
 ·intro w hSw;(try dsimp only at hSw);go_simp;try with_reducible rfl
 try simp only [Act.put,pq]
 refine tkH (i:=6) (d:=19) (v:=?_) rfl (Or.inl ⟨by rfl,?_⟩) trivial ?_
 rotate_left
 ·intro w hSw;(try dsimp only at hSw);go_simp;try with_reducible rfl
 try simp only [Act.put,pq]
 refine tkH (i:=7) (d:=20) (v:=?_) rfl (Or.inl ⟨by rfl,?_⟩) trivial ?_
 rotate_left
 ·intro w hSw;(try dsimp only at hSw);go_simp;try with_reducible rfl
 try simp only [Act.put,pq]
 refine tkH (i:=9) (d:=22) (v:=?_) rfl (Or.inl ⟨by rfl,?_⟩) trivial ?_
 rotate_left
 ·intro w hSw;(try dsimp only at hSw);go_simp;try with_reducible rfl
 try simp only [Act.put,pq]
 refine tkH (i:=10) (d:=23) (v:=?_) rfl (Or.inl ⟨by rfl,?_⟩) trivial ?_
 rotate_left
 ·intro w hSw;(try dsimp only at hSw);go_simp;try with_reducible rfl
 try simp only [Act.put,pq]
 refine tkH (i:=11) (d:=24) (v:=?_) rfl (Or.inl ⟨by rfl,?_⟩) trivial ?_
 rotate_left
 ·intro w hSw;(try dsimp only at hSw);go_simp;try with_reducible rfl
 try simp only [Act.put,pq]
 refine wpAnyH_ready (rs:=[3]) (by kernel_rfl) (by simp) ?_
 refine AllReadyH.cons rfl (fun K hK=>?_) AllReadyH.nil
 (try rw [if_pos (show Region.wanted _ _=true from rfl)])
 refine wp_load_row 102 (.tmp 3) rfl B rfl _ _ _ _ HL1.out Tryz.underlying102 rfl Tryz.lawInfo ?_
 refine hK.out _ _ trivial (fun _=>?_)
 clear hK K
 try simp only [Act.put,List.setIfInBounds_toArray]
 refine wpAnyH_ready (rs:=[8]) (by kernel_rfl) (by simp) ?_
 refine AllReadyH.cons rfl (fun K hK=>?_) AllReadyH.nil
 (try rw [if_pos (show Region.wanted _ _=true from rfl)])
 go_simp
 refine HPUT.out.mono ?_
 rintro e w5 ⟨u,rfl,hO5,hN5⟩
 refine hK.out _ _ trivial (fun _=>?_)
 clear hK K
 obtain⟨uo,uc,rfl⟩:=own_slice hO5
 try simp only [Act.put,pq]
 refine wpAnyH_ready (rs:=[12]) (by kernel_rfl) (by simp) ?_
 refine AllReadyH.cons rfl (fun K hK=>?_) AllReadyH.nil
 (try rw [if_pos (show Region.wanted _ _=true from rfl)])
 go_simp
 refine hK.out _ _ trivial (fun _=>?_)
 clear hK K
 try simp only [Act.put,pq]
 refine wpAnyH_ready (rs:=[13]) (by kernel_rfl) (by simp) ?_
 refine AllReadyH.cons rfl (fun K hK=>?_) AllReadyH.nil
 (try rw [if_pos (show Region.wanted _ _=true from rfl)])
 go_simp
 refine(HCON.out uo uc w5 hO5 (Turn.trans hED hN5)).mono ?_
 rintro e w6 ⟨u6,rfl,hO6,hN6⟩
 refine hK.out _ _ trivial (fun _=>?_)
 clear hK K
 try simp only [Act.put,pq]
 refine tkH (i:=14) (d:=6) (v:=?_) rfl (Or.inl ⟨by rfl,?_⟩) trivial ?_
 rotate_left
 ·intro w hSw;(try dsimp only at hSw);go_simp;try with_reducible rfl
 try simp only [Act.put,pq]
 refine wpAnyH_done (by kernel_rfl) ?_ _
 go_wp2
 go_ret
 have hEF:Ext w w6:=Turn.trans (Turn.trans hED hN5) (Turn.trans ((Turn.refl _ w5).alloc _) hN6)
 refine⟨_,rfl,own_base hO6 ?_,hEF⟩
 have h1:=(Turn.trans hED hN5).size
 omega
end Go.Proofs.YtfdlhlghcbeblaaGreatDoor
namespace Go.Proofs.YtfdlhlghcbeblaaGreatDoor
open Go.RowKit Go.Ab
attribute [local go_sem] Oper.semAt_some wide_fn wide_depth
def KeptIn(S:Nat->Prop)(v:Value):Prop:=∀ g o n c,v=.slice (some ⟨g,o,none⟩) n c->0<n->S g
def RunE(m n:Nat)(O:Nat->Prop)(x:Nat × Wd)(W:World)(ys:Array Value):Prop:=∃ ao c,ys=#[.int .i64 (x.1:Int),.slice ao x.2.length c]/\WordAt W (.slice ao x.2.length c) x.2/\x.2.length<=c/\KeptIn (fun g=>O g/\n+m<=g/\g<W.heap.size) (.slice ao x.2.length c)
def RunM(m n b:Nat):Prop:=b<n+m
structure RunSt (W:World) (BW BL Bk Bm:Nat) (l:LawD) (cs:List Value) (vo:Option Addr) (vc:Nat) (ws:Wd):Prop where
 law:LBx W BL l cs
 box:SlBox W BW (.slice vo ws.length vc)
 word:WordAt W (.slice vo ws.length vc) ws
 tab:Tab W
 bk:W.heap[Bk]?=some (.cells #[.int .i64 (l.ifs.length:Int)] 3 (0,0))
 bm:W.heap[Bm]?=some (.cells #[.int .i64 (l.outs.length:Int)] 3 (0,0))
theorem wd_keepS{S:Nat->Prop}{A B:World}{v:Value}{w:Wd}(h:WordAt A v w)(ht:Turn (fun b=>¬ S b) A B) (hS:KeptIn S v):WordAt B v w:=
 by
  cases w with
  | nil=>
   obtain⟨⟨h1,h2,ao,cap,hv,_⟩,h4⟩:=h
   exact⟨⟨h1,h2,ao,cap,hv,fun h=>by simp at h⟩,h4⟩
  | cons s w=>
   obtain⟨ao,cap,hv,_⟩:=h.slice
   exact⟨h.1.keep ht (fun g o n c e hn=>hn (hS g o n c e (by rw [hv] at e;cases e;simp))),h.2⟩
theorem box_set{W:World}{b:Nat}{v:Value}(u:Value)(h:SlBox W b v):SlBox (W.setCell ⟨b,0,none⟩ u) b u:=by
 unfold SlBox at h ⊢
 simp only [World.setCell,Array.getElem?_modify,h];simp
structure RunNow (w V:World) (K O:Nat->Prop) (J:(Nat->Prop)->List (Nat × Wd)->World->Prop) (Y0 lp:Nat) (tr:List (Nat × Wd)) (u:Wd) (uo:Option Addr) (uc:Nat):Prop where
 j:J O tr V
 oy:O Y0
 on:O (Y0+1)
 lt:∀ b,O b->Y0<=b/\b<V.heap.size
 t:Turn (fun b=>¬ K b) w V
 y:V.heap[Y0]?=some (.cells #[.func (.yield lp) #[] #[]] 266 (0,0))
 n:SlBox V (Y0+1) (.slice uo u.length uc)
 wd:WordAt V (.slice uo u.length uc) u
 cap:u.length<=uc
 kept:KeptIn (fun b=>K b\/O b) (.slice uo u.length uc)
section
variable {w V:World} {K O:Nat->Prop} {J:(Nat->Prop)->List (Nat × Wd)->World->Prop} {Y0 lp m:Nat} {tr:List (Nat × Wd)} {u:Wd} {uo:Option Addr} {uc:Nat}
theorem RunNow.ext{V':World}(h:RunNow w V K O J Y0 lp tr u uo uc)(hE:Ext V V')(hJ:∀ O O' pre A B,J O pre A->Turn (fun b=>O b/\RunM m Y0 b) A B->(∀ b,O' b->(O b\/A.heap.size<=b)/\b<B.heap.size)->J O' pre B):RunNow w V' K O J Y0 lp tr u uo uc:=
 ⟨hJ _ _ _ _ _ h.j (Ext.of hE) (fun b hb=>⟨.inl hb,Nat.lt_of_lt_of_le (h.lt b hb).2 hE.size⟩),h.oy,h.on,fun b hb=>⟨(h.lt b hb).1,Nat.lt_of_lt_of_le (h.lt b hb).2 hE.size⟩,h.t.trans (Ext.of hE),hE.keep h.y,hE.keep h.n,h.wd.ext hE,h.cap,h.kept⟩
theorem RunNow.yielded{B:World}{x:Nat × Wd}(h:RunNow w V K O J Y0 lp tr u uo uc)(hj:J O (tr++[x]) B) (ht:Turn (fun b=>¬ K b/\¬ O b) V B):RunNow w B K O J Y0 lp (tr++[x]) u uo uc:=
 ⟨hj,h.oy,h.on,fun b hb=>⟨(h.lt b hb).1,Nat.lt_of_lt_of_le (h.lt b hb).2 ht.size⟩,h.t.trans (ht.mono fun _b _ hb=>hb.1),ht.heap h.y (fun hb=>hb.2 h.oy),ht.heap h.n (fun hb=>hb.2 h.on),wd_keepS (S:=fun b=>K b\/O b) h.wd (ht.mono fun _b _ hb hn=>hn.elim hb.1 hb.2) h.kept,h.cap,h.kept⟩
theorem RunNow.put2{V1:World}{r:Wd}{ro:Option Addr}{rc:Nat}(h:RunNow w V K O J Y0 lp tr u uo uc)(hK:∀ b,K b->b<Y0)(hO1:V1.ownsRow V.heap.size 95 2 (.slice ro r.length rc) r.length (sndL r)) (hE:Ext V V1) (hr:WdOk r) (hm:2<=m)
  (hJ:∀ O O' pre A B,J O pre A->Turn (fun b=>O b/\RunM m Y0 b) A B->(∀ b,O' b->(O b\/A.heap.size<=b)/\b<B.heap.size)->J O' pre B):∃ O',RunNow w (V1.setCell ⟨Y0+1,0,none⟩ (.slice ro r.length rc)) K O' J Y0 lp tr r ro rc/\(∀ b,O b->O' b)/\KeptIn (fun g=>O' g/\V.heap.size<=g/\g<(V1.setCell ⟨Y0+1,0,none⟩ (.slice ro r.length rc)).heap.size) (.slice ro r.length rc):=by
 have hset:Turn (fun b=>b=Y0+1) V1 (V1.setCell ⟨Y0+1,0,none⟩ (.slice ro r.length rc)):=Turn.set1 V1 (Y0+1) 0 _
 have hlt1:=(h.lt _ h.on).2
 have hVM:Turn (fun b=>O b/\RunM m Y0 b) V (V1.setCell ⟨Y0+1,0,none⟩ (.slice ro r.length rc)):=Turn.trans (Ext.of hE) (hset.mono fun b _ e=>by rw [e];exact⟨h.on,by unfold RunM;omega⟩)
 have hVO:Turn O V (V1.setCell ⟨Y0+1,0,none⟩ (.slice ro r.length rc)):=Turn.trans (Ext.of hE) (hset.mono fun b _ e=>by rw [e];exact h.on)
 have hlen:=own_len hO1
 have hb:∀ g,(Value.slice ro r.length rc).ownBlock=some g->V.heap.size<=g/\g<V1.heap.size:=fun g hg=>hO1.lt g hg
 have hO2:=own_keep hO1 hset (fun g hg e=>by have:=hb g hg;omega)
 have hown:∀ g o n c,Value.slice ro r.length rc=.slice (some ⟨g,o,none⟩) n c->(Value.slice ro r.length rc).ownBlock=some g:=by
  intro g o n c e
  rw [e]
  rcases hO1.2 with ⟨q,_⟩ | ⟨g',c',cur,q,_⟩
  ·rw [q] at e;cases e
  ·rw [q] at e;cases e;rfl
 refine⟨fun b=>O b\/(Value.slice ro r.length rc).ownBlock=some b,⟨hJ _ _ _ _ _ h.j hVM (fun b hb'=>?_),.inl h.oy,.inl h.on,fun b hb'=>?_,?_,?_,box_set _ (hE.keep h.n),own_word hO2 hr,hlen.1,?_⟩,fun b hb=>.inl hb,fun g o n c e h0'=>by have:=hb g (hown g o n c e);exact⟨.inr (hown g o n c e),this.1,Nat.lt_of_lt_of_le this.2 hset.size⟩⟩
 ·rcases hb' with hb' | hb'
  ·exact⟨.inl hb',Nat.lt_of_lt_of_le (h.lt b hb').2 hVO.size⟩
  ·exact⟨.inr (hb b hb').1,Nat.lt_of_lt_of_le (hb b hb').2 hset.size⟩
 ·rcases hb' with hb' | hb'
  ·exact⟨(h.lt b hb').1,Nat.lt_of_lt_of_le (h.lt b hb').2 hVO.size⟩
  ·have:=(h.lt _ h.oy).2;exact⟨by have:=(hb b hb').1;omega,Nat.lt_of_lt_of_le (hb b hb').2 hset.size⟩
 ·exact(h.t.trans (Ext.of hE)).trans (hset.mono fun b _ e hk=>by have:=hK _ hk;omega)
 ·exact hset.heap (hE.keep h.y) (by omega)
 ·exact fun g o n c e h0'=>.inr (.inr (hown g o n c e))
theorem RunNow.put{V1:World}{r:Wd}{ro:Option Addr}{rc:Nat}(h:RunNow w V K O J Y0 lp tr u uo uc)(hK:∀ b,K b->b<Y0)(hO1:V1.ownsRow V.heap.size 95 2 (.slice ro r.length rc) r.length (sndL r)) (hE:Ext V V1) (hr:WdOk r) (hm:2<=m)
  (hJ:∀ O O' pre A B,J O pre A->Turn (fun b=>O b/\RunM m Y0 b) A B->(∀ b,O' b->(O b\/A.heap.size<=b)/\b<B.heap.size)->J O' pre B):∃ O',RunNow w (V1.setCell ⟨Y0+1,0,none⟩ (.slice ro r.length rc)) K O' J Y0 lp tr r ro rc:=by
 obtain⟨O',h1,_⟩:=h.put2 hK hO1 hE hr hm hJ
 exact⟨O',h1⟩
end
def boxLen(W:World)(b:Nat):Nat:=match W.cell? ⟨b,0,none⟩ with | some (.slice _ n _)=>n | _=>0
theorem boxLen_eq{W:World}{b:Nat}{ao:Option Addr}{n c:Nat}(h:SlBox W b (.slice ao n c)):boxLen W b=n:=by unfold boxLen;rw [cell_of_one h]
end Go.Proofs.YtfdlhlghcbeblaaGreatDoor
