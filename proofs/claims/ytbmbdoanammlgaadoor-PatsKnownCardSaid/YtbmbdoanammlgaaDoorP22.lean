/- PatsKnown: the walk (printed by genpk.py). -/
import Derived.Test.YtbmbdoanammlgaaDoorP21
set_option maxRecDepth 100000
set_option maxHeartbeats 16000000
namespace Go.Proofs.YtbmbdoanammlgaaDoor
open Go.RowKit Go.Ab
attribute [local go_sem] Oper.semAt_some Zx Z4
def Nx(Vb:World)(gF b2 b3 g4:Nat)(a:Act)(W:World):Prop:=∃(n:Nat) (cs:List Value),n≤39∧a.defers=[]∧(a.tmps.size=391∧a.tmps.getD 1 undef=.slice (some ⟨gF,0,none⟩) 40 40∧a.tmps.getD 2 undef=.pointer (some ⟨b2,0,none⟩)∧a.tmps.getD 3 undef=.pointer (some ⟨b3,0,none⟩)∧a.tmps.getD 4 undef=.pointer (some ⟨g4,0,none⟩)∧a.tmps.getD 5 undef=.int .i64 ((n:Int)+1))∧Ext Vb W∧W.heap[g4]?=some (.cells cs.toArray 27 (0,0))∧Qc (fun g=>g≠g4) W (Zj n) cs
theorem De(V0:World)(hT:Tab V0):Calls Tryd.prog 3 #[] V0 fun e w'=>e=.returned (.bool true)∧Ext V0 w':=by
 have EW:Hid (∀ D,Ext V0 D→Ext V0 D):=Lib.hid fun D hD=>hD
 have TB:Hid (∀ D,Ext V0 D→Tab D):=Lib.hid fun D hD=>hT.keep hD id
 clear hT
 go_enter Tryd.func3,Tryd.ntmps3
 have hmk:=Lu V0
 go_upto_region 2 with (fail)
 obtain⟨V1,hV⟩:∃ D,V0.alloc (.cells (Yt 40).toArray 27)=D:=⟨_,rfl⟩
 have hN:Ext V0 V1:=by rw [← hV];exact(Q1.refl _ V0).alloc _
 have hA0:V1.heap[V0.heap.size]?=some (.cells (Yt 40).toArray 27 (0,0)):=by rw [← hV];exact Q9 rfl
 rw [hV]
 obtain⟨gF,hg⟩:∃ g,V0.heap.size=g:=⟨_,rfl⟩
 rw [hg] at hA0 ⊢
 replace EW:=Q0 EW hN
 replace TB:=Q0 TB hN
 clear hmk
 have ZF:Hid (∀ D,Ext V1 D→D.heap[gF]?=some (.cells (Yt 40).toArray 27 (0,0))):=Lib.hid (fun D hD=>hD.keep hA0)
 clear hV hN hg hA0
 refine Uj 27 #[.int .i64 0,.int .u32 0,.int .u32 0,.bool false,.int .i64 0,.int .i64 0,.slice none 0 0] ShP [⟨5,2,7,40,1⟩,⟨6,3,8,43,4⟩] (Df gF) (by kernel_rfl) (by kernel_rfl) (by kernel_rfl) (by kernel_rfl) ?hlt (fun _=>by kernel_rfl) (fun _=>⟨_,_,_,_,_,_,_,_,_,rfl⟩) ?hZs (fun i v W W' h _=>L2 i v W W' h) ?hval ?hal (fun x hx v W=>?hR) ?hop ?hend
 case hlt=>exact fun i d h=>K6 (N:=391) (by kernel_rfl) h
 case hZs=>
  rintro cs ⟨kk,p,m,b,x,y,ao,n,c,rfl⟩
  exact⟨rfl,by simp [Value.oneCell']⟩
 case hval=>
  intro x hx v W hR
  simp only [List.mem_cons,List.not_mem_nil,or_false] at hx
  rcases hx with rfl | rfl
  ·obtain rfl:v=_:=hR
   exact⟨_,rfl,_,_,_,_,_,_,_,_,_,rfl⟩
  ·obtain rfl:v=_:=hR
   exact⟨_,rfl,_,_,_,_,_,_,_,_,_,rfl⟩
 case hal=>
  intro x hx b W K hK
  simp only [List.mem_cons,List.not_mem_nil,or_false] at hx
  rcases hx with rfl | rfl
  ·refine wpOp_step (o:=_) rfl fun K' hK'=>?_
   (try rw [if_pos (show Region.wanted _ _=true from rfl)])
   go_simp
   exact hK' _ _ (hK trivial)
  ·refine wpOp_step (o:=_) rfl fun K' hK'=>?_
   (try rw [if_pos (show Region.wanted _ _=true from rfl)])
   go_simp
   exact hK' _ _ (hK trivial)
 case hR=>
  simp only [List.mem_cons,List.not_mem_nil,or_false] at hx
  rcases hx with rfl | rfl <;> exact trivial
 case hop=>
  intro i o ho hbx b W hE hold hdep
  have hi:i<9:=(Array.getElem?_eq_some_iff.1 ho).1
  have hi2:i=0∨i=1∨i=2∨i=3∨i=4∨i=5∨i=6∨i=7∨i=8:=by omega
  have hb1:b.tmps.getD 1 undef=.slice (some ⟨gF,0,none⟩) 40 40:=hold 1 (Hc (by kernel_rfl))
  rw [Array.getD_eq_getD_getElem?] at hb1
  rcases hi2 with rfl | rfl | rfl | rfl | rfl | rfl | rfl | rfl | rfl
  ·obtain rfl:=Option.some.inj ho
   refine⟨39,rfl,fun K hK=>wpOp_step (o:=_) rfl fun K' hK'=>?_⟩
   (try rw [if_pos (show Region.wanted _ _=true from rfl)])
   go_simp
   exact hK' _ _ (hK _ _ (Q1.refl _ W) rfl)
  ·obtain rfl:=Option.some.inj ho
   have h0:b.tmps.getD 39 undef=_:=hdep { on:=0,ground:=.data } (by simp) rfl 39 rfl
   rw [Array.getD_eq_getD_getElem?] at h0
   refine⟨40,rfl,fun K hK=>wpOp_step (o:=_) rfl fun K' hK'=>?_⟩
   (try rw [if_pos (show Region.wanted _ _=true from rfl)])
   go_simp
   refine(Yf _ _ _ _).mono ?_
   rintro e W' ⟨rfl,hN⟩
   exact hK' _ _ (hK _ _ hN rfl)
  ·obtain rfl:=Option.some.inj ho
   refine⟨41,rfl,fun K hK=>wpOp_step (o:=_) rfl fun K' hK'=>?_⟩
   (try rw [if_pos (show Region.wanted _ _=true from rfl)])
   go_simp
   exact hK' _ _ (hK _ _ (Q1.refl _ W) rfl)
  ·obtain rfl:=Option.some.inj ho
   have h0:b.tmps.getD 41 undef=_:=hdep { on:=2,ground:=.data } (by simp) rfl 41 rfl
   rw [Array.getD_eq_getD_getElem?] at h0
   have hs:=M5 gF W
   refine⟨42,rfl,fun K hK=>wpOp_step (o:=_) rfl fun K' hK'=>?_⟩
   (try rw [if_pos (show Region.wanted _ _=true from rfl)])
   go_simp
   exact hK' _ _ (hK _ _ (Q1.refl _ W) rfl)
  ·obtain rfl:=Option.some.inj ho
   have h0:b.tmps.getD 42 undef=_:=hdep { on:=3,ground:=.data } (by simp) rfl 42 rfl
   rw [Array.getD_eq_getD_getElem?] at h0
   refine⟨43,rfl,fun K hK=>wpOp_step (o:=_) rfl fun K' hK'=>?_⟩
   (try rw [if_pos (show Region.wanted _ _=true from rfl)])
   go_simp
   refine(Yf _ _ _ _).mono ?_
   rintro e W' ⟨rfl,hN⟩
   exact hK' _ _ (hK _ _ hN rfl)
  ·exact absurd rfl (hbx _ (List.mem_cons_self ..)).1
  ·exact absurd rfl (hbx _ (List.mem_cons_of_mem _ (List.mem_cons_self ..))).1
  ·exact absurd rfl (hbx _ (List.mem_cons_self ..)).2
  ·exact absurd rfl (hbx _ (List.mem_cons_of_mem _ (List.mem_cons_self ..))).2
 intro vs V2 hE hR hB
 have hN:Ext V1 V2:=(Q1.refl (fun _=>False) V1).drew.trans hE
 have e1:vs 1=_:=hR 1 40 rfl
 have e4:vs 4=_:=hR 4 43 rfl
 obtain⟨b2,c2,p2,-,hb2,v2,-⟩:=hB _ (List.mem_cons_self ..)
 obtain⟨b3,c3,p3,-,hb3,v3,-⟩:=hB _ (List.mem_cons_of_mem _ (List.mem_cons_self ..))
 dsimp only at p2 p3 v2 v3
 rw [e1] at v2
 rw [e4] at v3
 simp only [Value.agg.injEq] at v2 v3
 subst v2 v3
 refine W4 (l:=[(0,39),(1,40),(2,41),(3,42),(4,43),(5,2),(6,3)]) (by kernel_rfl) ?_
 simp only [Kx,List.foldl_cons,List.foldl_nil,pq]
 rw [p2,p3]
 clear hB hR e1 e4 p2 p3 hE
 generalize vs 0=x0,vs 1=x1,vs 2=x2,vs 3=x3,vs 4=x4
 replace EW:=Q0 EW hN
 replace TB:=Q0 TB hN
 replace ZF:=Q0 ZF hN
 have B2:Hid (∀ D,Ext V2 D→D.heap[b2]?=some (.cells #[.int .i64 3,.int .u32 0,.int .u32 0,.bool false,.int .i64 0,.int .i64 0,.slice (some ⟨gF,0,none⟩) 40 40] 27 (0,0))):=Lib.hid (fun D hD=>hD.keep hb2)
 have B3:Hid (∀ D,Ext V2 D→D.heap[b3]?=some (.cells #[.int .i64 3,.int .u32 0,.int .u32 0,.bool false,.int .i64 0,.int .i64 0,.slice (some ⟨gF,7,none⟩) 39 39] 27 (0,0))):=Lib.hid (fun D hD=>hD.keep hb3)
 clear hN hb2 hb3
 go_wp2
 have hA0:(V2.alloc (.cells #[.int .i64 0,.int .u32 0,.int .u32 0,.bool false,.int .i64 0,.int .i64 0,.slice none 0 0] 27)).heap[V2.heap.size]?=some (.cells #[.int .i64 0,.int .u32 0,.int .u32 0,.bool false,.int .i64 0,.int .i64 0,.slice none 0 0] 27 (0,0)):=Q9 rfl
 obtain⟨g4,hg4⟩:∃ g,V2.heap.size=g:=⟨_,rfl⟩
 rw [hg4] at hA0 ⊢
 have HG4:Hid (V2.heap.size≤g4):=Lib.hid (Nat.le_of_eq hg4)
 refine wp_loop (Nx V2 gF b2 b3 g4) (fun a _=>(40 - intOf (a.tmps.getD 5 undef)).toNat) ?_ ?_
 ·exact⟨0,_,by omega,rfl,⟨rfl,rfl,rfl,rfl,rfl,rfl⟩,(Q1.refl _ _).alloc _,hA0,Z9 _ _ 0 false 0 0 (by decide) (by decide)⟩
 rintro⟨t,_⟩ V3 ⟨n,cs,hn,hds,⟨hsz,f1,f2,f3,f4,f5⟩,hN,hgc,hp⟩
 clear hA0 hg4
 subst hds
 obtain⟨u',hu⟩:=Zb hsz
 obtain⟨u,rfl⟩:∃ x,x=u':=⟨_,rfl⟩
 have hu':t=#[u 0,u 1,u 2,u 3,u 4,u 5,u 6,u 7,u 8,u 9,u 10,u 11,u 12,u 13,u 14,u 15,u 16,u 17,u 18,u 19,u 20,u 21,u 22,u 23,u 24,u 25,u 26,u 27,u 28,u 29,u 30,u 31,u 32,u 33,u 34,u 35,u 36,u 37,u 38,u 39,u 40,u 41,u 42,u 43,u 44,u 45,u 46,u 47,u 48,u 49,u 50,u 51,u 52,u 53,u 54,u 55,u 56,u 57,u 58,u 59,u 60,u 61,u 62,u 63,u 64,u 65,u 66,u 67,u 68,u 69,u 70,u 71,u 72,u 73,u 74,u 75,u 76,u 77,u 78,u 79,u 80,u 81,u 82,u 83,u 84,u 85,u 86,u 87,u 88,u 89,u 90,u 91,u 92,u 93,u 94,u 95,u 96,u 97,u 98,u 99,u 100,u 101,u 102,u 103,u 104,u 105,u 106,u 107,u 108,u 109,u 110,u 111,u 112,u 113,u 114,u 115,u 116,u 117,u 118,u 119,u 120,u 121,u 122,u 123,u 124,u 125,u 126,u 127,u 128,u 129,u 130,u 131,u 132,u 133,u 134,u 135,u 136,u 137,u 138,u 139,u 140,u 141,u 142,u 143,u 144,u 145,u 146,u 147,u 148,u 149,u 150,u 151,u 152,u 153,u 154,u 155,u 156,u 157,u 158,u 159,u 160,u 161,u 162,u 163,u 164,u 165,u 166,u 167,u 168,u 169,u 170,u 171,u 172,u 173,u 174,u 175,u 176,u 177,u 178,u 179,u 180,u 181,u 182,u 183,u 184,u 185,u 186,u 187,u 188,u 189,u 190,u 191,u 192,u 193,u 194,u 195,u 196,u 197,u 198,u 199,u 200,u 201,u 202,u 203,u 204,u 205,u 206,u 207,u 208,u 209,u 210,u 211,u 212,u 213,u 214,u 215,u 216,u 217,u 218,u 219,u 220,u 221,u 222,u 223,u 224,u 225,u 226,u 227,u 228,u 229,u 230,u 231,u 232,u 233,u 234,u 235,u 236,u 237,u 238,u 239,u 240,u 241,u 242,u 243,u 244,u 245,u 246,u 247,u 248,u 249,u 250,u 251,u 252,u 253,u 254,u 255,u 256,u 257,u 258,u 259,u 260,u 261,u 262,u 263,u 264,u 265,u 266,u 267,u 268,u 269,u 270,u 271,u 272,u 273,u 274,u 275,u 276,u 277,u 278,u 279,u 280,u 281,u 282,u 283,u 284,u 285,u 286,u 287,u 288,u 289,u 290,u 291,u 292,u 293,u 294,u 295,u 296,u 297,u 298,u 299,u 300,u 301,u 302,u 303,u 304,u 305,u 306,u 307,u 308,u 309,u 310,u 311,u 312,u 313,u 314,u 315,u 316,u 317,u 318,u 319,u 320,u 321,u 322,u 323,u 324,u 325,u 326,u 327,u 328,u 329,u 330,u 331,u 332,u 333,u 334,u 335,u 336,u 337,u 338,u 339,u 340,u 341,u 342,u 343,u 344,u 345,u 346,u 347,u 348,u 349,u 350,u 351,u 352,u 353,u 354,u 355,u 356,u 357,u 358,u 359,u 360,u 361,u 362,u 363,u 364,u 365,u 366,u 367,u 368,u 369,u 370,u 371,u 372,u 373,u 374,u 375,u 376,u 377,u 378,u 379,u 380,u 381,u 382,u 383,u 384,u 385,u 386,u 387,u 388,u 389,u 390]:=hu
 clear hu
 subst hu'
 change u 1=_ at f1
 change u 2=_ at f2
 change u 3=_ at f3
 change u 4=_ at f4
 change u 5=_ at f5
 rw [f1,f2,f3,f4,f5]
 clear f1 f2 f3 f4 f5 hsz
 obtain⟨ao,cap,hc,hlc,hcm,_⟩:=Qj hp
 have hk40:(Zj n).l.length≤1:=by cases n <;> simp [Zj,pZ,Pat.l]
 rw [hc] at hp hgc
 clear hc hlc hcm
 have HP:=Lib.hid hp
 clear hp
 obtain⟨kk,hkk⟩:∃ x,(Zj n).k=x:=⟨_,rfl⟩
 obtain⟨pl,hpl⟩:∃ x,(Zj n).pl=x:=⟨_,rfl⟩
 obtain⟨mi,hmi⟩:∃ x,(Zj n).mi=x:=⟨_,rfl⟩
 obtain⟨nt,hnt⟩:∃ x,(Zj n).nt=x:=⟨_,rfl⟩
 obtain⟨mn,hmn⟩:∃ x,(Zj n).mn=x:=⟨_,rfl⟩
 obtain⟨mx,hmx⟩:∃ x,(Zj n).mx=x:=⟨_,rfl⟩
 obtain⟨N,hN1⟩:∃ x,(Zj n).l.length=x:=⟨_,rfl⟩
 rw [hkk,hpl,hmi,hnt,hmn,hmx,hN1] at HP hgc
 unfold Q2 at hgc
 have HGC:=Lib.hid hgc
 clear hkk hpl hmi hnt hmn hmx hN1 hk40 hgc
 have HE0:Hid (Ext V2 V3):=Lib.hid hN
 by_cases hn39:n<39
 case pos=>
  clear hN
  have h1:(n:Int)+1<40:=by omega
  go_wp2_with (refine wpList_load_row rfl 27 (.tmp 4) rfl g4 rfl _ _ _ _ (HGC.out) Tryd.underlying27 rfl (Tryd.patSize _ rfl) ?_)
  refine(Jm HP.out 0 32).mono ?_
  rintro e W1 ⟨ds,rfl,hp1,hN⟩
  obtain⟨ao1,cap1,rfl,_⟩:=Qj hp1
  have HP1:=Lib.hid hp1
  clear hp1
  have hgc:=hN.keep HGC.out
  have hg4:g4<V3.heap.size:=(Array.getElem?_eq_some_iff.1 HGC.out).1
  have HG5:=Lib.hid hg4
  clear hg4
  have HN:=Lib.hid hN
  clear hN
  have HGC1:=Lib.hid hgc
  clear hgc
  go_wp2_with (refine wpList_store_row rfl 27 (.tmp 4) (.tmp 50) rfl g4 #[.int .i64 5,.int .u32 0,.int .u32 0,.bool false,.int .i64 0,.int .i64 32,.slice ao1 1 cap1] rfl rfl _ _ HGC1.out (by kernel_rfl) rfl (by kernel_rfl) ?_)
  go_wp2
  refine⟨⟨n+1,Q2 5 0 0 false 0 32 ao1 1 cap1,by omega,by first | rfl | trivial,⟨rfl,rfl,rfl,rfl,rfl,by simp⟩,?_,setRow_heap _ _ _ _ _ _ HGC1.out,?_⟩,by first | (simp [intOf];done) | (simp [intOf];omega)⟩
  ·exact(HE0.out.trans HN.out).after (Q1.setRow W1 g4 _) (fun b h1 e=>by have:=HG4.out;omega)
  ·refine Qc.keep (Q1.setRow W1 g4 _) (fun g h=>h) ((HP1.out).mono (fun g h=>?_))
   have:=HG5.out
   rcases h with h | h
   ·exact h
   ·intro e;omega
 replace EW:=Q0 EW hN
 replace TB:=Q0 TB hN
 replace ZF:=Q0 ZF hN
 replace B2:=Q0 B2 hN
 replace B3:=Q0 B3 hN
 obtain rfl:n=39:=by omega
 have B4:Hid (∀ D,Ext V3 D→D.heap[g4]?=some (.cells #[.int .i64 kk,.int .u32 pl,.int .u32 mi,.bool nt,.int .i64 mn,.int .i64 mx,.slice ao N cap] 27 (0,0))):=Lib.hid (fun D hD=>hD.keep HGC.out)
 have PD:Hid (∀ D,Ext V3 D→Qz D (Zj 39) [.int .i64 kk,.int .u32 pl,.int .u32 mi,.bool nt,.int .i64 mn,.int .i64 mx,.slice ao N cap]):=Lib.hid (fun D hD=>Qz.ext (Qc.bound HP.out) hD)
 have h1:¬ ((39:Nat):Int)+1<40:=by omega
 clear HGC HP HG4 HE0 hN hn39 hn
 have hc:=Zp (w:=V3) (D1 (ZF.out _ (Q1.refl _ V3))) (fun _ h=>h) (TB.out _ (Q1.refl _ V3))
 rw [Kb.1] at hc
 try unfold Q2 at hc
 have HC:=Lib.hid hc
 clear hc
 go_wp2_with (first | (refine Q7 (by rfl) 27 (.tmp 2) rfl b2 rfl _ _ _ _ (B2.out _ (Q1.refl _ V3)) Tryd.underlying27 rfl (Tryd.patSize _ rfl) ?_) | (refine Q7 (by rfl) 27 (.tmp 3) rfl b3 rfl _ _ _ _ (B3.out _ (Q1.refl _ V3)) Tryd.underlying27 rfl (Tryd.patSize _ rfl) ?_) | (refine Q7 (by rfl) 27 (.tmp 4) rfl g4 rfl _ _ _ _ (B4.out _ (Q1.refl _ V3)) Tryd.underlying27 rfl (Tryd.patSize _ rfl) ?_))
 refine(HC.out).mono ?_
 rintro e V4 ⟨rfl,hN⟩
 replace EW:=Q0 EW hN
 replace TB:=Q0 TB hN
 replace ZF:=Q0 ZF hN
 replace B2:=Q0 B2 hN
 replace B3:=Q0 B3 hN
 replace B4:=Q0 B4 hN
 replace PD:=Q0 PD hN
 clear HC hN
 have hc:=K5 (w:=V4) (D1 (ZF.out _ (Q1.refl _ V4))) (fun _ h=>h)
 rw [G3.1] at hc
 try unfold Q2 at hc
 have HC:=Lib.hid hc
 clear hc
 go_wp2_with (first | (refine Q7 (by rfl) 27 (.tmp 2) rfl b2 rfl _ _ _ _ (B2.out _ (Q1.refl _ V4)) Tryd.underlying27 rfl (Tryd.patSize _ rfl) ?_) | (refine Q7 (by rfl) 27 (.tmp 3) rfl b3 rfl _ _ _ _ (B3.out _ (Q1.refl _ V4)) Tryd.underlying27 rfl (Tryd.patSize _ rfl) ?_) | (refine Q7 (by rfl) 27 (.tmp 4) rfl g4 rfl _ _ _ _ (B4.out _ (Q1.refl _ V4)) Tryd.underlying27 rfl (Tryd.patSize _ rfl) ?_))
 refine(HC.out).mono ?_
 rintro e V5 ⟨rfl,hN⟩
 replace EW:=Q0 EW hN
 replace TB:=Q0 TB hN
 replace ZF:=Q0 ZF hN
 replace B2:=Q0 B2 hN
 replace B3:=Q0 B3 hN
 replace B4:=Q0 B4 hN
 replace PD:=Q0 PD hN
 clear HC hN
 have hc:=Zp (w:=V5) (J7 (ZF.out _ (Q1.refl _ V5))) (fun _ h=>h) (TB.out _ (Q1.refl _ V5))
 rw [Kb.2.1] at hc
 try unfold Q2 at hc
 have HC:=Lib.hid hc
 clear hc
 go_wp2_with (first | (refine Q7 (by rfl) 27 (.tmp 2) rfl b2 rfl _ _ _ _ (B2.out _ (Q1.refl _ V5)) Tryd.underlying27 rfl (Tryd.patSize _ rfl) ?_) | (refine Q7 (by rfl) 27 (.tmp 3) rfl b3 rfl _ _ _ _ (B3.out _ (Q1.refl _ V5)) Tryd.underlying27 rfl (Tryd.patSize _ rfl) ?_) | (refine Q7 (by rfl) 27 (.tmp 4) rfl g4 rfl _ _ _ _ (B4.out _ (Q1.refl _ V5)) Tryd.underlying27 rfl (Tryd.patSize _ rfl) ?_))
 refine(HC.out).mono ?_
 rintro e V6 ⟨rfl,hN⟩
 replace EW:=Q0 EW hN
 replace TB:=Q0 TB hN
 replace ZF:=Q0 ZF hN
 replace B2:=Q0 B2 hN
 replace B3:=Q0 B3 hN
 replace B4:=Q0 B4 hN
 replace PD:=Q0 PD hN
 clear HC hN
 have hc:=K5 (w:=V6) (J7 (ZF.out _ (Q1.refl _ V6))) (fun _ h=>h)
 rw [G3.2.1] at hc
 try unfold Q2 at hc
 have HC:=Lib.hid hc
 clear hc
 go_wp2_with (first | (refine Q7 (by rfl) 27 (.tmp 2) rfl b2 rfl _ _ _ _ (B2.out _ (Q1.refl _ V6)) Tryd.underlying27 rfl (Tryd.patSize _ rfl) ?_) | (refine Q7 (by rfl) 27 (.tmp 3) rfl b3 rfl _ _ _ _ (B3.out _ (Q1.refl _ V6)) Tryd.underlying27 rfl (Tryd.patSize _ rfl) ?_) | (refine Q7 (by rfl) 27 (.tmp 4) rfl g4 rfl _ _ _ _ (B4.out _ (Q1.refl _ V6)) Tryd.underlying27 rfl (Tryd.patSize _ rfl) ?_))
 refine(HC.out).mono ?_
 rintro e V7 ⟨rfl,hN⟩
 replace EW:=Q0 EW hN
 replace TB:=Q0 TB hN
 replace ZF:=Q0 ZF hN
 replace B2:=Q0 B2 hN
 replace B3:=Q0 B3 hN
 replace B4:=Q0 B4 hN
 replace PD:=Q0 PD hN
 clear HC hN
 have hc:=Zp (w:=V7) (PD.out _ (Q1.refl _ V7)) (fun _ h=>h) (TB.out _ (Q1.refl _ V7))
 rw [Kb.2.2.1] at hc
 try unfold Q2 at hc
 have HC:=Lib.hid hc
 clear hc
 go_wp2_with (first | (refine Q7 (by rfl) 27 (.tmp 2) rfl b2 rfl _ _ _ _ (B2.out _ (Q1.refl _ V7)) Tryd.underlying27 rfl (Tryd.patSize _ rfl) ?_) | (refine Q7 (by rfl) 27 (.tmp 3) rfl b3 rfl _ _ _ _ (B3.out _ (Q1.refl _ V7)) Tryd.underlying27 rfl (Tryd.patSize _ rfl) ?_) | (refine Q7 (by rfl) 27 (.tmp 4) rfl g4 rfl _ _ _ _ (B4.out _ (Q1.refl _ V7)) Tryd.underlying27 rfl (Tryd.patSize _ rfl) ?_))
 refine(HC.out).mono ?_
 rintro e V8 ⟨rfl,hN⟩
 replace EW:=Q0 EW hN
 replace TB:=Q0 TB hN
 replace ZF:=Q0 ZF hN
 replace B2:=Q0 B2 hN
 replace B3:=Q0 B3 hN
 replace B4:=Q0 B4 hN
 replace PD:=Q0 PD hN
 clear HC hN
 go_wp2_with (first | (refine Q7 (by rfl) 27 (.tmp 2) rfl b2 rfl _ _ _ _ (B2.out _ (Q1.refl _ V8)) Tryd.underlying27 rfl (Tryd.patSize _ rfl) ?_) | (refine Q7 (by rfl) 27 (.tmp 3) rfl b3 rfl _ _ _ _ (B3.out _ (Q1.refl _ V8)) Tryd.underlying27 rfl (Tryd.patSize _ rfl) ?_) | (refine Q7 (by rfl) 27 (.tmp 4) rfl g4 rfl _ _ _ _ (B4.out _ (Q1.refl _ V8)) Tryd.underlying27 rfl (Tryd.patSize _ rfl) ?_))
 refine(Xd (PD.out _ (Q1.refl _ V8)) 0 32).mono ?_
 rintro e V9 ⟨ao2,cap2,rfl,hp2,hN⟩
 replace EW:=Q0 EW hN
 replace TB:=Q0 TB hN
 replace ZF:=Q0 ZF hN
 replace B2:=Q0 B2 hN
 replace B3:=Q0 B3 hN
 replace B4:=Q0 B4 hN
 replace PD:=Q0 PD hN
 clear hN
 have HP2:=Lib.hid hp2
 clear hp2
 have hc:=Zp (w:=V9) HP2.out (fun _ h=>h) (TB.out _ (Q1.refl _ V9))
 rw [show Ze (.node 5 0 0 false 0 32 [Zj 39])=12 from Kb.2.2.2] at hc
 try unfold Q2 at hc
 have HC:=Lib.hid hc
 clear hc
 go_wp2_with fail
 refine(HC.out).mono ?_
 rintro e V10 ⟨rfl,hN⟩
 replace EW:=Q0 EW hN
 replace TB:=Q0 TB hN
 replace ZF:=Q0 ZF hN
 replace B2:=Q0 B2 hN
 replace B3:=Q0 B3 hN
 replace B4:=Q0 B4 hN
 replace PD:=Q0 PD hN
 clear HC hN
 clear HP2
 go_wp2_with (first | (refine Q7 (by rfl) 27 (.tmp 2) rfl b2 rfl _ _ _ _ (B2.out _ (Q1.refl _ V10)) Tryd.underlying27 rfl (Tryd.patSize _ rfl) ?_) | (refine Q7 (by rfl) 27 (.tmp 3) rfl b3 rfl _ _ _ _ (B3.out _ (Q1.refl _ V10)) Tryd.underlying27 rfl (Tryd.patSize _ rfl) ?_) | (refine Q7 (by rfl) 27 (.tmp 4) rfl g4 rfl _ _ _ _ (B4.out _ (Q1.refl _ V10)) Tryd.underlying27 rfl (Tryd.patSize _ rfl) ?_))
 obtain⟨V11,hV⟩:∃ D,V10.alloc (.cells #[.int .i64 3,.int .u32 0,.int .u32 0,.bool false,.int .i64 0,.int .i64 0,.slice (some ⟨gF,0,none⟩) 40 40,.int .i64 3,.int .u32 0,.int .u32 0,.bool false,.int .i64 0,.int .i64 0,.slice (some ⟨gF,0,none⟩) 40 40] 27)=D:=⟨_,rfl⟩
 have hN:Ext V10 V11:=by rw [← hV];exact(Q1.refl _ V10).alloc _
 have hA0:V11.heap[V10.heap.size]?=some (.cells #[.int .i64 3,.int .u32 0,.int .u32 0,.bool false,.int .i64 0,.int .i64 0,.slice (some ⟨gF,0,none⟩) 40 40,.int .i64 3,.int .u32 0,.int .u32 0,.bool false,.int .i64 0,.int .i64 0,.slice (some ⟨gF,0,none⟩) 40 40] 27 (0,0)):=by rw [← hV];exact Q9 rfl
 rw [hV]
 obtain⟨gS,hg⟩:∃ g,V10.heap.size=g:=⟨_,rfl⟩
 rw [hg] at hA0 ⊢
 replace EW:=Q0 EW hN
 replace TB:=Q0 TB hN
 replace ZF:=Q0 ZF hN
 replace B2:=Q0 B2 hN
 replace B3:=Q0 B3 hN
 replace B4:=Q0 B4 hN
 replace PD:=Q0 PD hN
 have PS:Hid (∀ D,Ext V11 D→Qz D (.node 3 0 0 false 0 0 [X0,X0]) (Q2 3 0 0 false 0 0 (some ⟨gS,0,none⟩) 2 2)):=Lib.hid (fun D hD=>J4 (hD.keep hA0) (J7 (ZF.out D hD)) (J7 (ZF.out D hD)) 3 0 0)
 clear hV hN hg hA0
 skip
 refine(Yf _ _ _ _).mono ?_
 rintro e V12 ⟨rfl,hN⟩
 replace EW:=Q0 EW hN
 replace TB:=Q0 TB hN
 replace ZF:=Q0 ZF hN
 replace B2:=Q0 B2 hN
 replace B3:=Q0 B3 hN
 replace B4:=Q0 B4 hN
 replace PD:=Q0 PD hN
 replace PS:=Q0 PS hN
 clear hN
 have hc:=K5 (w:=V12) (PS.out _ (Q1.refl _ V12)) (fun _ h=>h)
 rw [G3.2.2] at hc
 try unfold Q2 at hc
 have HC:=Lib.hid hc
 clear hc
 go_wp2_with (first | (refine Q7 (by rfl) 27 (.tmp 2) rfl b2 rfl _ _ _ _ (B2.out _ (Q1.refl _ V12)) Tryd.underlying27 rfl (Tryd.patSize _ rfl) ?_) | (refine Q7 (by rfl) 27 (.tmp 3) rfl b3 rfl _ _ _ _ (B3.out _ (Q1.refl _ V12)) Tryd.underlying27 rfl (Tryd.patSize _ rfl) ?_) | (refine Q7 (by rfl) 27 (.tmp 4) rfl g4 rfl _ _ _ _ (B4.out _ (Q1.refl _ V12)) Tryd.underlying27 rfl (Tryd.patSize _ rfl) ?_))
 refine(HC.out).mono ?_
 rintro e V13 ⟨rfl,hN⟩
 replace EW:=Q0 EW hN
 replace TB:=Q0 TB hN
 replace ZF:=Q0 ZF hN
 replace B2:=Q0 B2 hN
 replace B3:=Q0 B3 hN
 replace B4:=Q0 B4 hN
 replace PD:=Q0 PD hN
 replace PS:=Q0 PS hN
 clear HC hN
 clear PS
 rename_i K2 hK2 K1 hK1 K0 hK0
 have HK2:=Lib.hid hK2
 clear hK2
 go_wp2_with (first | (refine Q7 (by rfl) 27 (.tmp 2) rfl b2 rfl _ _ _ _ (B2.out _ (Q1.refl _ V13)) Tryd.underlying27 rfl (Tryd.patSize _ rfl) ?_) | (refine Q7 (by rfl) 27 (.tmp 3) rfl b3 rfl _ _ _ _ (B3.out _ (Q1.refl _ V13)) Tryd.underlying27 rfl (Tryd.patSize _ rfl) ?_) | (refine Q7 (by rfl) 27 (.tmp 4) rfl g4 rfl _ _ _ _ (B4.out _ (Q1.refl _ V13)) Tryd.underlying27 rfl (Tryd.patSize _ rfl) ?_))
 exact HK2.out _ _ (Lf V0 V13 gF b2 b3 g4 kk pl mi nt mn mx ao N cap _ ⟨by rfl,by rfl,by rfl,by rfl,by rfl,by rfl⟩ EW TB ZF B2 B3 B4 PD)
end Go.Proofs.YtbmbdoanammlgaaDoor
