/- PatsKnown: the table and the loop over it (printed by genpk.py). -/
import Derived.Test.YtbmbdoanammlgaaDoorP20
set_option maxRecDepth 100000
set_option maxHeartbeats 16000000
namespace Go.Proofs.YtbmbdoanammlgaaDoor
open Go.RowKit Go.Ab
attribute [local go_sem] Oper.semAt_some Zx Z4
theorem Lf(V0 V1:World)(gF b2 b3 g4:Nat)(kk:Int)(pl mi:Nat)(nt:Bool)(mn mx:Int)(ao:Option Addr)(N cap:Nat)(a:Act)(hst:a.defers=[]∧(a.tmps.size=391∧a.tmps.getD 1 undef=.slice (some ⟨gF,0,none⟩) 40 40∧a.tmps.getD 2 undef=.pointer (some ⟨b2,0,none⟩)∧a.tmps.getD 3 undef=.pointer (some ⟨b3,0,none⟩)∧a.tmps.getD 4 undef=.pointer (some ⟨g4,0,none⟩))) (EW:Hid (∀ D,Ext V1 D→Ext V0 D)) (TB:Hid (∀ D,Ext V1 D→Tab D)) (ZF:Hid (∀ D,Ext V1 D→D.heap[gF]?=some (.cells (Yt 40).toArray 27 (0,0)))) (B2:Hid (∀ D,Ext V1 D→D.heap[b2]?=some (.cells #[.int .i64 3,.int .u32 0,.int .u32 0,.bool false,.int .i64 0,.int .i64 0,.slice (some ⟨gF,0,none⟩) 40 40] 27 (0,0)))) (B3:Hid (∀ D,Ext V1 D→D.heap[b3]?=some (.cells #[.int .i64 3,.int .u32 0,.int .u32 0,.bool false,.int .i64 0,.int .i64 0,.slice (some ⟨gF,7,none⟩) 39 39] 27 (0,0)))) (B4:Hid (∀ D,Ext V1 D→D.heap[g4]?=some (.cells #[.int .i64 kk,.int .u32 pl,.int .u32 mi,.bool nt,.int .i64 mn,.int .i64 mx,.slice ao N cap] 27 (0,0)))) (PD:Hid (∀ D,Ext V1 D→Qz D (Zj 39) [.int .i64 kk,.int .u32 pl,.int .u32 mi,.bool nt,.int .i64 mn,.int .i64 mx,.slice ao N cap])):(Jt 6 Kl).wp Tryd.prog (bodyPost Tryd.prog Tryd.f3 fun e w'=>e=.returned (.bool true)∧Ext V0 w') a V1:=by
 obtain⟨t,_⟩:=a
 obtain⟨hds,hsz,f1,f2,f3,f4⟩:=hst
 subst hds
 obtain⟨u',hu⟩:=Zb hsz
 obtain⟨u,rfl⟩:∃ x,x=u':=⟨_,rfl⟩
 have hu':t=#[u 0,u 1,u 2,u 3,u 4,u 5,u 6,u 7,u 8,u 9,u 10,u 11,u 12,u 13,u 14,u 15,u 16,u 17,u 18,u 19,u 20,u 21,u 22,u 23,u 24,u 25,u 26,u 27,u 28,u 29,u 30,u 31,u 32,u 33,u 34,u 35,u 36,u 37,u 38,u 39,u 40,u 41,u 42,u 43,u 44,u 45,u 46,u 47,u 48,u 49,u 50,u 51,u 52,u 53,u 54,u 55,u 56,u 57,u 58,u 59,u 60,u 61,u 62,u 63,u 64,u 65,u 66,u 67,u 68,u 69,u 70,u 71,u 72,u 73,u 74,u 75,u 76,u 77,u 78,u 79,u 80,u 81,u 82,u 83,u 84,u 85,u 86,u 87,u 88,u 89,u 90,u 91,u 92,u 93,u 94,u 95,u 96,u 97,u 98,u 99,u 100,u 101,u 102,u 103,u 104,u 105,u 106,u 107,u 108,u 109,u 110,u 111,u 112,u 113,u 114,u 115,u 116,u 117,u 118,u 119,u 120,u 121,u 122,u 123,u 124,u 125,u 126,u 127,u 128,u 129,u 130,u 131,u 132,u 133,u 134,u 135,u 136,u 137,u 138,u 139,u 140,u 141,u 142,u 143,u 144,u 145,u 146,u 147,u 148,u 149,u 150,u 151,u 152,u 153,u 154,u 155,u 156,u 157,u 158,u 159,u 160,u 161,u 162,u 163,u 164,u 165,u 166,u 167,u 168,u 169,u 170,u 171,u 172,u 173,u 174,u 175,u 176,u 177,u 178,u 179,u 180,u 181,u 182,u 183,u 184,u 185,u 186,u 187,u 188,u 189,u 190,u 191,u 192,u 193,u 194,u 195,u 196,u 197,u 198,u 199,u 200,u 201,u 202,u 203,u 204,u 205,u 206,u 207,u 208,u 209,u 210,u 211,u 212,u 213,u 214,u 215,u 216,u 217,u 218,u 219,u 220,u 221,u 222,u 223,u 224,u 225,u 226,u 227,u 228,u 229,u 230,u 231,u 232,u 233,u 234,u 235,u 236,u 237,u 238,u 239,u 240,u 241,u 242,u 243,u 244,u 245,u 246,u 247,u 248,u 249,u 250,u 251,u 252,u 253,u 254,u 255,u 256,u 257,u 258,u 259,u 260,u 261,u 262,u 263,u 264,u 265,u 266,u 267,u 268,u 269,u 270,u 271,u 272,u 273,u 274,u 275,u 276,u 277,u 278,u 279,u 280,u 281,u 282,u 283,u 284,u 285,u 286,u 287,u 288,u 289,u 290,u 291,u 292,u 293,u 294,u 295,u 296,u 297,u 298,u 299,u 300,u 301,u 302,u 303,u 304,u 305,u 306,u 307,u 308,u 309,u 310,u 311,u 312,u 313,u 314,u 315,u 316,u 317,u 318,u 319,u 320,u 321,u 322,u 323,u 324,u 325,u 326,u 327,u 328,u 329,u 330,u 331,u 332,u 333,u 334,u 335,u 336,u 337,u 338,u 339,u 340,u 341,u 342,u 343,u 344,u 345,u 346,u 347,u 348,u 349,u 350,u 351,u 352,u 353,u 354,u 355,u 356,u 357,u 358,u 359,u 360,u 361,u 362,u 363,u 364,u 365,u 366,u 367,u 368,u 369,u 370,u 371,u 372,u 373,u 374,u 375,u 376,u 377,u 378,u 379,u 380,u 381,u 382,u 383,u 384,u 385,u 386,u 387,u 388,u 389,u 390]:=hu
 clear hu
 subst hu'
 change u 1=_ at f1
 change u 2=_ at f2
 change u 3=_ at f3
 change u 4=_ at f4
 rw [f1,f2,f3,f4]
 clear f1 f2 f3 f4 hsz
 conv=>arg 2;whnf
 go_upto_region 10 with (fail)
 refine Jo (Z1 gF) (by kernel_rfl) (by kernel_rfl) (by kernel_rfl) ?hlt10 Ff ?hop10 ?hend10
 case hlt10=>exact fun i d h=>K6 (N:=391) (by kernel_rfl) h
 case hop10=>
  intro i o ho b W hE hold hdep
  have hi:i<69:=(Array.getElem?_eq_some_iff.1 ho).1
  have hi2:i=0∨i=1∨i=2∨i=3∨i=4∨i=5∨i=6∨i=7∨i=8∨i=9∨i=10∨i=11∨i=12∨i=13∨i=14∨i=15∨i=16∨i=17∨i=18∨i=19∨i=20∨i=21∨i=22∨i=23∨i=24∨i=25∨i=26∨i=27∨i=28∨i=29∨i=30∨i=31∨i=32∨i=33∨i=34∨i=35∨i=36∨i=37∨i=38∨i=39∨i=40∨i=41∨i=42∨i=43∨i=44∨i=45∨i=46∨i=47∨i=48∨i=49∨i=50∨i=51∨i=52∨i=53∨i=54∨i=55∨i=56∨i=57∨i=58∨i=59∨i=60∨i=61∨i=62∨i=63∨i=64∨i=65∨i=66∨i=67∨i=68:=by omega
  have hEV:Ext V1 W:=(Q1.refl (fun _=>False) V1).drew.trans hE
  have hb2:b.tmps.getD 2 undef=.pointer (some ⟨b2,0,none⟩):=hold 2 (Hc (by kernel_rfl))
  have hb1:b.tmps.getD 1 undef=.slice (some ⟨gF,0,none⟩) 40 40:=hold 1 (Hc (by kernel_rfl))
  rw [Array.getD_eq_getD_getElem?] at hb1
  rcases hi2 with rfl | rfl | rfl | rfl | rfl | rfl | rfl | rfl | rfl | rfl | rfl | rfl | rfl | rfl | rfl | rfl | rfl | rfl | rfl | rfl | rfl | rfl | rfl | rfl | rfl | rfl | rfl | rfl | rfl | rfl | rfl | rfl | rfl | rfl | rfl | rfl | rfl | rfl | rfl | rfl | rfl | rfl | rfl | rfl | rfl | rfl | rfl | rfl | rfl | rfl | rfl | rfl | rfl | rfl | rfl | rfl | rfl | rfl | rfl | rfl | rfl | rfl | rfl | rfl | rfl | rfl | rfl | rfl | rfl
  ·obtain rfl:=Option.some.inj ho
   refine⟨88,rfl,fun K hK=>wpOp_step (o:=_) rfl fun K' hK'=>?_⟩
   (try rw [if_pos (show Region.wanted _ _=true from rfl)])
   go_simp
   exact hK' _ _ (hK _ _ (Q1.refl _ W) rfl)
  ·obtain rfl:=Option.some.inj ho
   have h0:b.tmps.getD 88 undef=_:=hdep { on:=0,ground:=.data } (by simp) rfl 88 rfl
   rw [Array.getD_eq_getD_getElem?] at h0
   refine⟨89,rfl,fun K hK=>wpOp_step (o:=_) rfl fun K' hK'=>?_⟩
   (try rw [if_pos (show Region.wanted _ _=true from rfl)])
   go_simp
   exact hK' _ _ (hK _ _ (Q1.refl _ W) rfl)
  ·obtain rfl:=Option.some.inj ho
   refine⟨90,rfl,fun K hK=>wpOp_step (o:=_) rfl fun K' hK'=>?_⟩
   (try rw [if_pos (show Region.wanted _ _=true from rfl)])
   go_simp
   exact hK' _ _ (hK _ _ (Q1.refl _ W) rfl)
  ·obtain rfl:=Option.some.inj ho
   have h0:b.tmps.getD 90 undef=_:=hdep { on:=2,ground:=.data } (by simp) rfl 90 rfl
   rw [Array.getD_eq_getD_getElem?] at h0
   refine⟨91,rfl,fun K hK=>wpOp_step (o:=_) rfl fun K' hK'=>?_⟩
   (try rw [if_pos (show Region.wanted _ _=true from rfl)])
   go_simp
   exact hK' _ _ (hK _ _ (Q1.refl _ W) rfl)
  ·obtain rfl:=Option.some.inj ho
   refine⟨92,rfl,fun K hK=>wpOp_step (o:=_) rfl fun K' hK'=>?_⟩
   (try rw [if_pos (show Region.wanted _ _=true from rfl)])
   go_simp
   exact hK' _ _ (hK _ _ (Q1.refl _ W) rfl)
  ·obtain rfl:=Option.some.inj ho
   have h0:b.tmps.getD 92 undef=_:=hdep { on:=4,ground:=.data } (by simp) rfl 92 rfl
   rw [Array.getD_eq_getD_getElem?] at h0
   refine⟨93,rfl,fun K hK=>wpOp_step (o:=_) rfl fun K' hK'=>?_⟩
   (try rw [if_pos (show Region.wanted _ _=true from rfl)])
   go_simp
   exact hK' _ _ (hK _ _ (Q1.refl _ W) rfl)
  ·obtain rfl:=Option.some.inj ho
   refine⟨94,rfl,fun K hK=>wpOp_step (o:=_) rfl fun K' hK'=>?_⟩
   (try rw [if_pos (show Region.wanted _ _=true from rfl)])
   go_simp
   exact hK' _ _ (hK _ _ (Q1.refl _ W) rfl)
  ·obtain rfl:=Option.some.inj ho
   have h0:b.tmps.getD 94 undef=_:=hdep { on:=6,ground:=.data } (by simp) rfl 94 rfl
   rw [Array.getD_eq_getD_getElem?] at h0
   refine⟨95,rfl,fun K hK=>wpOp_step (o:=_) rfl fun K' hK'=>?_⟩
   (try rw [if_pos (show Region.wanted _ _=true from rfl)])
   go_simp
   exact hK' _ _ (hK _ _ (Q1.refl _ W) rfl)
  ·obtain rfl:=Option.some.inj ho
   refine⟨96,rfl,fun K hK=>wpOp_step (o:=_) rfl fun K' hK'=>?_⟩
   (try rw [if_pos (show Region.wanted _ _=true from rfl)])
   go_simp
   exact hK' _ _ (hK _ _ (Q1.refl _ W) rfl)
  ·obtain rfl:=Option.some.inj ho
   have h0:b.tmps.getD 96 undef=_:=hdep { on:=8,ground:=.data } (by simp) rfl 96 rfl
   rw [Array.getD_eq_getD_getElem?] at h0
   refine⟨97,rfl,fun K hK=>wpOp_step (o:=_) rfl fun K' hK'=>?_⟩
   (try rw [if_pos (show Region.wanted _ _=true from rfl)])
   go_simp
   exact hK' _ _ (hK _ _ (Q1.refl _ W) rfl)
  ·obtain rfl:=Option.some.inj ho
   have h0:b.tmps.getD 97 undef=_:=hdep { on:=9,ground:=.data } (by simp) rfl 97 rfl
   rw [Array.getD_eq_getD_getElem?] at h0
   refine⟨98,rfl,fun K hK=>wpOp_step (o:=_) rfl fun K' hK'=>?_⟩
   (try rw [if_pos (show Region.wanted _ _=true from rfl)])
   go_simp
   exact hK' _ _ (hK _ _ (Q1.refl _ W) rfl)
  ·obtain rfl:=Option.some.inj ho
   refine⟨99,rfl,fun K hK=>wpOp_step (o:=_) rfl fun K' hK'=>?_⟩
   (try rw [if_pos (show Region.wanted _ _=true from rfl)])
   go_simp
   exact hK' _ _ (hK _ _ (Q1.refl _ W) rfl)
  ·obtain rfl:=Option.some.inj ho
   have h0:b.tmps.getD 99 undef=_:=hdep { on:=11,ground:=.data } (by simp) rfl 99 rfl
   rw [Array.getD_eq_getD_getElem?] at h0
   refine⟨100,rfl,fun K hK=>wpOp_step (o:=_) rfl fun K' hK'=>?_⟩
   (try rw [if_pos (show Region.wanted _ _=true from rfl)])
   go_simp
   exact hK' _ _ (hK _ _ (Q1.refl _ W) rfl)
  ·obtain rfl:=Option.some.inj ho
   have h0:b.tmps.getD 100 undef=_:=hdep { on:=12,ground:=.data } (by simp) rfl 100 rfl
   rw [Array.getD_eq_getD_getElem?] at h0
   refine⟨101,rfl,fun K hK=>wpOp_step (o:=_) rfl fun K' hK'=>?_⟩
   (try rw [if_pos (show Region.wanted _ _=true from rfl)])
   go_simp
   exact hK' _ _ (hK _ _ (Q1.refl _ W) rfl)
  ·obtain rfl:=Option.some.inj ho
   refine⟨102,rfl,fun K hK=>wpOp_step (o:=_) rfl fun K' hK'=>?_⟩
   (try rw [if_pos (show Region.wanted _ _=true from rfl)])
   go_simp
   exact hK' _ _ (hK _ _ (Q1.refl _ W) rfl)
  ·obtain rfl:=Option.some.inj ho
   have h0:b.tmps.getD 102 undef=_:=hdep { on:=14,ground:=.data } (by simp) rfl 102 rfl
   rw [Array.getD_eq_getD_getElem?] at h0
   refine⟨103,rfl,fun K hK=>wpOp_step (o:=_) rfl fun K' hK'=>?_⟩
   (try rw [if_pos (show Region.wanted _ _=true from rfl)])
   go_simp
   exact hK' _ _ (hK _ _ (Q1.refl _ W) rfl)
  ·obtain rfl:=Option.some.inj ho
   have h0:b.tmps.getD 103 undef=_:=hdep { on:=15,ground:=.data } (by simp) rfl 103 rfl
   rw [Array.getD_eq_getD_getElem?] at h0
   refine⟨104,rfl,fun K hK=>wpOp_step (o:=_) rfl fun K' hK'=>?_⟩
   (try rw [if_pos (show Region.wanted _ _=true from rfl)])
   go_simp
   exact hK' _ _ (hK _ _ (Q1.refl _ W) rfl)
  ·obtain rfl:=Option.some.inj ho
   refine⟨105,rfl,fun K hK=>wpOp_step (o:=_) rfl fun K' hK'=>?_⟩
   (try rw [if_pos (show Region.wanted _ _=true from rfl)])
   go_simp
   exact hK' _ _ (hK _ _ (Q1.refl _ W) rfl)
  ·obtain rfl:=Option.some.inj ho
   have h0:b.tmps.getD 105 undef=_:=hdep { on:=17,ground:=.data } (by simp) rfl 105 rfl
   rw [Array.getD_eq_getD_getElem?] at h0
   refine⟨106,rfl,fun K hK=>wpOp_step (o:=_) rfl fun K' hK'=>?_⟩
   (try rw [if_pos (show Region.wanted _ _=true from rfl)])
   go_simp
   exact hK' _ _ (hK _ _ (Q1.refl _ W) rfl)
  ·obtain rfl:=Option.some.inj ho
   refine⟨107,rfl,fun K hK=>wpOp_step (o:=_) rfl fun K' hK'=>?_⟩
   (try rw [if_pos (show Region.wanted _ _=true from rfl)])
   go_simp
   exact hK' _ _ (hK _ _ (Q1.refl _ W) rfl)
  ·obtain rfl:=Option.some.inj ho
   have h0:b.tmps.getD 107 undef=_:=hdep { on:=19,ground:=.data } (by simp) rfl 107 rfl
   rw [Array.getD_eq_getD_getElem?] at h0
   refine⟨108,rfl,fun K hK=>wpOp_step (o:=_) rfl fun K' hK'=>?_⟩
   (try rw [if_pos (show Region.wanted _ _=true from rfl)])
   go_simp
   exact hK' _ _ (hK _ _ ((Q1.refl _ W).alloc _) ⟨_,_,rfl,Mi (Q9 rfl) (Qd _ 0 false 0 0) 2 0 0⟩)
  ·obtain rfl:=Option.some.inj ho
   obtain⟨ao,c,h0,hp⟩:Z1 gF 20 (b.tmps.getD 108 undef) W:=hdep { on:=20,ground:=.data } (by simp) rfl 108 rfl
   rw [Array.getD_eq_getD_getElem?] at h0
   refine⟨109,rfl,fun K hK=>wpOp_step (o:=_) rfl fun K' hK'=>?_⟩
   (try rw [if_pos (show Region.wanted _ _=true from rfl)])
   go_simp
   exact hK' _ _ (hK _ _ (Q1.refl _ W) ⟨_,_,rfl,hp⟩)
  ·obtain rfl:=Option.some.inj ho
   obtain⟨ao,c,h0,hp⟩:Z1 gF 21 (b.tmps.getD 109 undef) W:=hdep { on:=21,ground:=.data } (by simp) rfl 109 rfl
   rw [Array.getD_eq_getD_getElem?] at h0
   refine⟨110,rfl,fun K hK=>wpOp_step (o:=_) rfl fun K' hK'=>?_⟩
   (try rw [if_pos (show Region.wanted _ _=true from rfl)])
   go_simp
   exact hK' _ _ (hK _ _ (Q1.refl _ W) ⟨_,_,rfl,hp⟩)
  ·obtain rfl:=Option.some.inj ho
   refine⟨111,rfl,fun K hK=>wpOp_step (o:=_) rfl fun K' hK'=>?_⟩
   (try rw [if_pos (show Region.wanted _ _=true from rfl)])
   go_simp
   exact hK' _ _ (hK _ _ (Q1.refl _ W) rfl)
  ·obtain rfl:=Option.some.inj ho
   have h0:b.tmps.getD 111 undef=_:=hdep { on:=23,ground:=.data } (by simp) rfl 111 rfl
   rw [Array.getD_eq_getD_getElem?] at h0
   refine⟨112,rfl,fun K hK=>wpOp_step (o:=_) rfl fun K' hK'=>?_⟩
   (try rw [if_pos (show Region.wanted _ _=true from rfl)])
   go_simp
   exact hK' _ _ (hK _ _ (Q1.refl _ W) rfl)
  ·obtain rfl:=Option.some.inj ho
   refine⟨113,rfl,fun K hK=>wpOp_step (o:=_) rfl fun K' hK'=>?_⟩
   (try rw [if_pos (show Region.wanted _ _=true from rfl)])
   go_simp
   exact hK' _ _ (hK _ _ (Q1.refl _ W) rfl)
  ·obtain rfl:=Option.some.inj ho
   have h0:b.tmps.getD 113 undef=_:=hdep { on:=25,ground:=.data } (by simp) rfl 113 rfl
   rw [Array.getD_eq_getD_getElem?] at h0
   refine⟨114,rfl,fun K hK=>wpOp_step (o:=_) rfl fun K' hK'=>?_⟩
   (try rw [if_pos (show Region.wanted _ _=true from rfl)])
   go_simp
   exact hK' _ _ (hK _ _ (Q1.refl _ W) rfl)
  ·obtain rfl:=Option.some.inj ho
   refine⟨115,rfl,fun K hK=>wpOp_step (o:=_) rfl fun K' hK'=>?_⟩
   (try rw [if_pos (show Region.wanted _ _=true from rfl)])
   go_simp
   exact hK' _ _ (hK _ _ (Q1.refl _ W) rfl)
  ·obtain rfl:=Option.some.inj ho
   have h0:b.tmps.getD 115 undef=_:=hdep { on:=27,ground:=.data } (by simp) rfl 115 rfl
   rw [Array.getD_eq_getD_getElem?] at h0
   refine⟨116,rfl,fun K hK=>wpOp_step (o:=_) rfl fun K' hK'=>?_⟩
   (try rw [if_pos (show Region.wanted _ _=true from rfl)])
   go_simp
   exact hK' _ _ (hK _ _ (Q1.refl _ W) rfl)
  ·obtain rfl:=Option.some.inj ho
   refine⟨117,rfl,fun K hK=>wpOp_step (o:=_) rfl fun K' hK'=>?_⟩
   (try rw [if_pos (show Region.wanted _ _=true from rfl)])
   go_simp
   refine(Zv _).mono ?_
   rintro e W' ⟨rfl,hN⟩
   exact hK' _ _ (hK _ _ hN rfl)
  ·obtain rfl:=Option.some.inj ho
   have h0:b.tmps.getD 117 undef=_:=hdep { on:=29,ground:=.data } (by simp) rfl 117 rfl
   rw [Array.getD_eq_getD_getElem?] at h0
   refine⟨118,rfl,fun K hK=>wpOp_step (o:=_) rfl fun K' hK'=>?_⟩
   (try rw [if_pos (show Region.wanted _ _=true from rfl)])
   go_simp
   refine(Xd (Qd W 1 (pl:=4) (mi:=0) false 0 0) 33 33).mono ?_
   rintro e W' ⟨ao,c,rfl,hp,hN⟩
   exact hK' _ _ (hK _ _ hN ⟨ao,c,rfl,hp⟩)
  ·obtain rfl:=Option.some.inj ho
   obtain⟨ao,c,h0,hp⟩:Z1 gF 30 (b.tmps.getD 118 undef) W:=hdep { on:=30,ground:=.data } (by simp) rfl 118 rfl
   rw [Array.getD_eq_getD_getElem?] at h0
   refine⟨119,rfl,fun K hK=>wpOp_step (o:=_) rfl fun K' hK'=>?_⟩
   (try rw [if_pos (show Region.wanted _ _=true from rfl)])
   go_simp
   exact hK' _ _ (hK _ _ (Q1.refl _ W) ⟨_,_,rfl,hp⟩)
  ·obtain rfl:=Option.some.inj ho
   refine⟨120,rfl,fun K hK=>wpOp_step (o:=_) rfl fun K' hK'=>?_⟩
   (try rw [if_pos (show Region.wanted _ _=true from rfl)])
   go_simp
   refine(Zv _).mono ?_
   rintro e W' ⟨rfl,hN⟩
   exact hK' _ _ (hK _ _ hN rfl)
  ·obtain rfl:=Option.some.inj ho
   have h0:b.tmps.getD 120 undef=_:=hdep { on:=32,ground:=.data } (by simp) rfl 120 rfl
   rw [Array.getD_eq_getD_getElem?] at h0
   refine⟨121,rfl,fun K hK=>wpOp_step (o:=_) rfl fun K' hK'=>?_⟩
   (try rw [if_pos (show Region.wanted _ _=true from rfl)])
   go_simp
   refine(Xd (Qd W 1 (pl:=4) (mi:=0) false 0 0) 32 32).mono ?_
   rintro e W' ⟨ao,c,rfl,hp,hN⟩
   exact hK' _ _ (hK _ _ hN ⟨ao,c,rfl,hp⟩)
  ·obtain rfl:=Option.some.inj ho
   obtain⟨ao,c,h0,hp⟩:Z1 gF 33 (b.tmps.getD 121 undef) W:=hdep { on:=33,ground:=.data } (by simp) rfl 121 rfl
   rw [Array.getD_eq_getD_getElem?] at h0
   refine⟨122,rfl,fun K hK=>wpOp_step (o:=_) rfl fun K' hK'=>?_⟩
   (try rw [if_pos (show Region.wanted _ _=true from rfl)])
   go_simp
   exact hK' _ _ (hK _ _ (Q1.refl _ W) ⟨_,_,rfl,hp⟩)
  ·obtain rfl:=Option.some.inj ho
   refine⟨123,rfl,fun K hK=>wpOp_step (o:=_) rfl fun K' hK'=>?_⟩
   (try rw [if_pos (show Region.wanted _ _=true from rfl)])
   go_simp
   refine(Zv _).mono ?_
   rintro e W' ⟨rfl,hN⟩
   exact hK' _ _ (hK _ _ hN rfl)
  ·obtain rfl:=Option.some.inj ho
   have h0:b.tmps.getD 123 undef=_:=hdep { on:=35,ground:=.data } (by simp) rfl 123 rfl
   rw [Array.getD_eq_getD_getElem?] at h0
   refine⟨124,rfl,fun K hK=>wpOp_step (o:=_) rfl fun K' hK'=>?_⟩
   (try rw [if_pos (show Region.wanted _ _=true from rfl)])
   go_simp
   refine(Xd (Qd W 1 (pl:=4) (mi:=0) false 0 0) 2 1).mono ?_
   rintro e W' ⟨ao,c,rfl,hp,hN⟩
   exact hK' _ _ (hK _ _ hN ⟨ao,c,rfl,hp⟩)
  ·obtain rfl:=Option.some.inj ho
   obtain⟨ao,c,h0,hp⟩:Z1 gF 36 (b.tmps.getD 124 undef) W:=hdep { on:=36,ground:=.data } (by simp) rfl 124 rfl
   rw [Array.getD_eq_getD_getElem?] at h0
   refine⟨125,rfl,fun K hK=>wpOp_step (o:=_) rfl fun K' hK'=>?_⟩
   (try rw [if_pos (show Region.wanted _ _=true from rfl)])
   go_simp
   exact hK' _ _ (hK _ _ (Q1.refl _ W) ⟨_,_,rfl,hp⟩)
  ·obtain rfl:=Option.some.inj ho
   refine⟨126,rfl,fun K hK=>wpOp_step (o:=_) rfl fun K' hK'=>?_⟩
   (try rw [if_pos (show Region.wanted _ _=true from rfl)])
   go_simp
   refine(Zv _).mono ?_
   rintro e W' ⟨rfl,hN⟩
   exact hK' _ _ (hK _ _ hN rfl)
  ·obtain rfl:=Option.some.inj ho
   have h0:b.tmps.getD 126 undef=_:=hdep { on:=38,ground:=.data } (by simp) rfl 126 rfl
   rw [Array.getD_eq_getD_getElem?] at h0
   refine⟨127,rfl,fun K hK=>wpOp_step (o:=_) rfl fun K' hK'=>?_⟩
   (try rw [if_pos (show Region.wanted _ _=true from rfl)])
   go_simp
   refine(Xd (Qd W 1 (pl:=4) (mi:=0) false 0 0) 0 (-2)).mono ?_
   rintro e W' ⟨ao,c,rfl,hp,hN⟩
   exact hK' _ _ (hK _ _ hN ⟨ao,c,rfl,hp⟩)
  ·obtain rfl:=Option.some.inj ho
   obtain⟨ao,c,h0,hp⟩:Z1 gF 39 (b.tmps.getD 127 undef) W:=hdep { on:=39,ground:=.data } (by simp) rfl 127 rfl
   rw [Array.getD_eq_getD_getElem?] at h0
   refine⟨128,rfl,fun K hK=>wpOp_step (o:=_) rfl fun K' hK'=>?_⟩
   (try rw [if_pos (show Region.wanted _ _=true from rfl)])
   go_simp
   exact hK' _ _ (hK _ _ (Q1.refl _ W) ⟨_,_,rfl,hp⟩)
  ·obtain rfl:=Option.some.inj ho
   refine⟨129,rfl,fun K hK=>wpOp_step (o:=_) rfl fun K' hK'=>?_⟩
   (try rw [if_pos (show Region.wanted _ _=true from rfl)])
   go_simp
   refine(Zv _).mono ?_
   rintro e W' ⟨rfl,hN⟩
   exact hK' _ _ (hK _ _ hN rfl)
  ·obtain rfl:=Option.some.inj ho
   have h0:b.tmps.getD 129 undef=_:=hdep { on:=41,ground:=.data } (by simp) rfl 129 rfl
   rw [Array.getD_eq_getD_getElem?] at h0
   refine⟨130,rfl,fun K hK=>wpOp_step (o:=_) rfl fun K' hK'=>?_⟩
   (try rw [if_pos (show Region.wanted _ _=true from rfl)])
   go_simp
   refine(Xd (Qd W 1 (pl:=4) (mi:=0) false 0 0) (-1) 2).mono ?_
   rintro e W' ⟨ao,c,rfl,hp,hN⟩
   exact hK' _ _ (hK _ _ hN ⟨ao,c,rfl,hp⟩)
  ·obtain rfl:=Option.some.inj ho
   obtain⟨ao,c,h0,hp⟩:Z1 gF 42 (b.tmps.getD 130 undef) W:=hdep { on:=42,ground:=.data } (by simp) rfl 130 rfl
   rw [Array.getD_eq_getD_getElem?] at h0
   refine⟨131,rfl,fun K hK=>wpOp_step (o:=_) rfl fun K' hK'=>?_⟩
   (try rw [if_pos (show Region.wanted _ _=true from rfl)])
   go_simp
   exact hK' _ _ (hK _ _ (Q1.refl _ W) ⟨_,_,rfl,hp⟩)
  ·obtain rfl:=Option.some.inj ho
   refine⟨132,rfl,fun K hK=>wpOp_step (o:=_) rfl fun K' hK'=>?_⟩
   (try rw [if_pos (show Region.wanted _ _=true from rfl)])
   go_simp
   refine(Zv _).mono ?_
   rintro e W' ⟨rfl,hN⟩
   exact hK' _ _ (hK _ _ hN rfl)
  ·obtain rfl:=Option.some.inj ho
   have h0:b.tmps.getD 132 undef=_:=hdep { on:=44,ground:=.data } (by simp) rfl 132 rfl
   rw [Array.getD_eq_getD_getElem?] at h0
   refine⟨133,rfl,fun K hK=>wpOp_step (o:=_) rfl fun K' hK'=>?_⟩
   (try rw [if_pos (show Region.wanted _ _=true from rfl)])
   go_simp
   refine(Xd (Qd W 1 (pl:=4) (mi:=0) false 0 0) 32 (-1)).mono ?_
   rintro e W' ⟨ao,c,rfl,hp,hN⟩
   exact hK' _ _ (hK _ _ hN ⟨ao,c,rfl,hp⟩)
  ·obtain rfl:=Option.some.inj ho
   obtain⟨ao,c,h0,hp⟩:Z1 gF 45 (b.tmps.getD 133 undef) W:=hdep { on:=45,ground:=.data } (by simp) rfl 133 rfl
   rw [Array.getD_eq_getD_getElem?] at h0
   refine⟨134,rfl,fun K hK=>wpOp_step (o:=_) rfl fun K' hK'=>?_⟩
   (try rw [if_pos (show Region.wanted _ _=true from rfl)])
   go_simp
   exact hK' _ _ (hK _ _ (Q1.refl _ W) ⟨_,_,rfl,hp⟩)
  ·obtain rfl:=Option.some.inj ho
   refine⟨135,rfl,fun K hK=>wpOp_step (o:=_) rfl fun K' hK'=>?_⟩
   (try rw [if_pos (show Region.wanted _ _=true from rfl)])
   go_simp
   refine(Zv _).mono ?_
   rintro e W' ⟨rfl,hN⟩
   exact hK' _ _ (hK _ _ hN rfl)
  ·obtain rfl:=Option.some.inj ho
   refine⟨136,rfl,fun K hK=>wpOp_step (o:=_) rfl fun K' hK'=>?_⟩
   (try rw [if_pos (show Region.wanted _ _=true from rfl)])
   go_simp
   refine(Zv _).mono ?_
   rintro e W' ⟨rfl,hN⟩
   exact hK' _ _ (hK _ _ hN rfl)
  ·obtain rfl:=Option.some.inj ho
   have h0:b.tmps.getD 135 undef=_:=hdep { on:=47,ground:=.data } (by simp) rfl 135 rfl
   rw [Array.getD_eq_getD_getElem?] at h0
   have h1:b.tmps.getD 136 undef=_:=hdep { on:=48,ground:=.data } (by simp) rfl 136 rfl
   rw [Array.getD_eq_getD_getElem?] at h1
   refine⟨137,rfl,fun K hK=>wpOp_step (o:=_) rfl fun K' hK'=>?_⟩
   (try rw [if_pos (show Region.wanted _ _=true from rfl)])
   go_simp
   exact hK' _ _ (hK _ _ ((Q1.refl _ W).alloc _) ⟨_,_,rfl,J4 (Q9 rfl) (Qd _ 1 (pl:=4) (mi:=0) false 0 0) (Qd _ 1 (pl:=4) (mi:=0) false 0 0) 5 0 1⟩)
  ·obtain rfl:=Option.some.inj ho
   obtain⟨ao,c,h0,hp⟩:Z1 gF 49 (b.tmps.getD 137 undef) W:=hdep { on:=49,ground:=.data } (by simp) rfl 137 rfl
   rw [Array.getD_eq_getD_getElem?] at h0
   refine⟨138,rfl,fun K hK=>wpOp_step (o:=_) rfl fun K' hK'=>?_⟩
   (try rw [if_pos (show Region.wanted _ _=true from rfl)])
   go_simp
   exact hK' _ _ (hK _ _ (Q1.refl _ W) ⟨_,_,rfl,hp⟩)
  ·obtain rfl:=Option.some.inj ho
   obtain⟨ao,c,h0,hp⟩:Z1 gF 50 (b.tmps.getD 138 undef) W:=hdep { on:=50,ground:=.data } (by simp) rfl 138 rfl
   rw [Array.getD_eq_getD_getElem?] at h0
   refine⟨139,rfl,fun K hK=>wpOp_step (o:=_) rfl fun K' hK'=>?_⟩
   (try rw [if_pos (show Region.wanted _ _=true from rfl)])
   go_simp
   exact hK' _ _ (hK _ _ (Q1.refl _ W) ⟨_,_,rfl,hp⟩)
  ·obtain rfl:=Option.some.inj ho
   refine⟨140,rfl,fun K hK=>wpOp_step (o:=_) rfl fun K' hK'=>?_⟩
   (try rw [if_pos (show Region.wanted _ _=true from rfl)])
   go_simp
   exact hK' _ _ (hK _ _ (Q1.refl _ W) rfl)
  ·obtain rfl:=Option.some.inj ho
   have h0:b.tmps.getD 140 undef=_:=hdep { on:=52,ground:=.data } (by simp) rfl 140 rfl
   rw [Array.getD_eq_getD_getElem?] at h0
   refine⟨141,rfl,fun K hK=>wpOp_step (o:=_) rfl fun K' hK'=>?_⟩
   (try rw [if_pos (show Region.wanted _ _=true from rfl)])
   go_simp
   exact hK' _ _ (hK _ _ (Q1.refl _ W) rfl)
  ·obtain rfl:=Option.some.inj ho
   refine⟨142,rfl,fun K hK=>wpOp_step (o:=_) rfl fun K' hK'=>?_⟩
   (try rw [if_pos (show Region.wanted _ _=true from rfl)])
   go_simp
   exact hK' _ _ (hK _ _ (Q1.refl _ W) rfl)
  ·obtain rfl:=Option.some.inj ho
   have h0:b.tmps.getD 141 undef=_:=hdep { on:=53,ground:=.data } (by simp) rfl 141 rfl
   rw [Array.getD_eq_getD_getElem?] at h0
   have h1:b.tmps.getD 142 undef=_:=hdep { on:=54,ground:=.data } (by simp) rfl 142 rfl
   rw [Array.getD_eq_getD_getElem?] at h1
   refine⟨143,rfl,fun K hK=>wpOp_step (o:=_) rfl fun K' hK'=>?_⟩
   (try rw [if_pos (show Region.wanted _ _=true from rfl)])
   go_simp
   exact hK' _ _ (hK _ _ ((Q1.refl _ W).alloc _) ⟨_,_,rfl,J4 (Q9 rfl) (Qd _ 1 (pl:=1) (mi:=1) false 0 0) (Qd _ 9 (pl:=0) (mi:=0) false 0 0) 3 0 0⟩)
  ·obtain rfl:=Option.some.inj ho
   obtain⟨ao,c,h0,hp⟩:Z1 gF 55 (b.tmps.getD 143 undef) W:=hdep { on:=55,ground:=.data } (by simp) rfl 143 rfl
   rw [Array.getD_eq_getD_getElem?] at h0
   refine⟨144,rfl,fun K hK=>wpOp_step (o:=_) rfl fun K' hK'=>?_⟩
   (try rw [if_pos (show Region.wanted _ _=true from rfl)])
   go_simp
   refine(Yf _ _ _ _).mono ?_
   rintro e W' ⟨rfl,hN⟩
   exact hK' _ _ (hK _ _ hN ⟨_,_,rfl,hp.ext hN⟩)
  ·obtain rfl:=Option.some.inj ho
   obtain⟨ao,c,h0,hp⟩:Z1 gF 56 (b.tmps.getD 144 undef) W:=hdep { on:=56,ground:=.data } (by simp) rfl 144 rfl
   rw [Array.getD_eq_getD_getElem?] at h0
   refine⟨145,rfl,fun K hK=>wpOp_step (o:=_) rfl fun K' hK'=>?_⟩
   (try rw [if_pos (show Region.wanted _ _=true from rfl)])
   go_simp
   exact hK' _ _ (hK _ _ (Q1.refl _ W) ⟨_,_,rfl,hp⟩)
  ·obtain rfl:=Option.some.inj ho
   have hrow:=B2.out W hEV
   refine⟨146,rfl,fun K hK=>wpOp_step (o:=_) rfl fun K' hK'=>?_⟩
   (try rw [if_pos (show Region.wanted _ _=true from rfl)])
   refine wp_load_row 27 (.tmp 2) rfl b2 hb2 _ _ _ _ hrow Tryd.underlying27 rfl (Tryd.patSize _ rfl) ?_
   exact hK' _ _ (hK _ _ (Q1.refl _ W) rfl)
  ·obtain rfl:=Option.some.inj ho
   refine⟨147,rfl,fun K hK=>wpOp_step (o:=_) rfl fun K' hK'=>?_⟩
   (try rw [if_pos (show Region.wanted _ _=true from rfl)])
   go_simp
   exact hK' _ _ (hK _ _ (Q1.refl _ W) rfl)
  ·obtain rfl:=Option.some.inj ho
   have h0:b.tmps.getD 146 undef=_:=hdep { on:=58,ground:=.data } (by simp) rfl 146 rfl
   rw [Array.getD_eq_getD_getElem?] at h0
   have h1:b.tmps.getD 147 undef=_:=hdep { on:=59,ground:=.data } (by simp) rfl 147 rfl
   rw [Array.getD_eq_getD_getElem?] at h1
   have hzf:=ZF.out (W.alloc (.cells #[.int .i64 3,.int .u32 0,.int .u32 0,.bool false,.int .i64 0,.int .i64 0,.slice (some ⟨gF,0,none⟩) 40 40,.int .i64 9,.int .u32 0,.int .u32 0,.bool false,.int .i64 0,.int .i64 0,.slice none 0 0] 27)) (hEV.alloc _)
   refine⟨148,rfl,fun K hK=>wpOp_step (o:=_) rfl fun K' hK'=>?_⟩
   (try rw [if_pos (show Region.wanted _ _=true from rfl)])
   go_simp
   exact hK' _ _ (hK _ _ ((Q1.refl _ W).alloc _) ⟨_,_,rfl,J4 (Q9 rfl) (J7 hzf) (Qd _ 9 (pl:=0) (mi:=0) false 0 0) 3 0 0⟩)
  ·obtain rfl:=Option.some.inj ho
   obtain⟨ao,c,h0,hp⟩:Z1 gF 60 (b.tmps.getD 148 undef) W:=hdep { on:=60,ground:=.data } (by simp) rfl 148 rfl
   rw [Array.getD_eq_getD_getElem?] at h0
   refine⟨149,rfl,fun K hK=>wpOp_step (o:=_) rfl fun K' hK'=>?_⟩
   (try rw [if_pos (show Region.wanted _ _=true from rfl)])
   go_simp
   refine(Yf _ _ _ _).mono ?_
   rintro e W' ⟨rfl,hN⟩
   exact hK' _ _ (hK _ _ hN ⟨_,_,rfl,hp.ext hN⟩)
  ·obtain rfl:=Option.some.inj ho
   obtain⟨ao,c,h0,hp⟩:Z1 gF 61 (b.tmps.getD 149 undef) W:=hdep { on:=61,ground:=.data } (by simp) rfl 149 rfl
   rw [Array.getD_eq_getD_getElem?] at h0
   refine⟨150,rfl,fun K hK=>wpOp_step (o:=_) rfl fun K' hK'=>?_⟩
   (try rw [if_pos (show Region.wanted _ _=true from rfl)])
   go_simp
   exact hK' _ _ (hK _ _ (Q1.refl _ W) ⟨_,_,rfl,hp⟩)
  ·obtain rfl:=Option.some.inj ho
   refine⟨151,rfl,fun K hK=>wpOp_step (o:=_) rfl fun K' hK'=>?_⟩
   (try rw [if_pos (show Region.wanted _ _=true from rfl)])
   go_simp
   exact hK' _ _ (hK _ _ (Q1.refl _ W) rfl)
  ·obtain rfl:=Option.some.inj ho
   have h0:b.tmps.getD 151 undef=_:=hdep { on:=63,ground:=.data } (by simp) rfl 151 rfl
   rw [Array.getD_eq_getD_getElem?] at h0
   refine⟨152,rfl,fun K hK=>wpOp_step (o:=_) rfl fun K' hK'=>?_⟩
   (try rw [if_pos (show Region.wanted _ _=true from rfl)])
   go_simp
   exact hK' _ _ (hK _ _ (Q1.refl _ W) rfl)
  ·obtain rfl:=Option.some.inj ho
   have h0:b.tmps.getD 152 undef=_:=hdep { on:=64,ground:=.data } (by simp) rfl 152 rfl
   rw [Array.getD_eq_getD_getElem?] at h0
   refine⟨153,rfl,fun K hK=>wpOp_step (o:=_) rfl fun K' hK'=>?_⟩
   (try rw [if_pos (show Region.wanted _ _=true from rfl)])
   go_simp
   exact hK' _ _ (hK _ _ (Q1.refl _ W) rfl)
  ·obtain rfl:=Option.some.inj ho
   have h89:b.tmps.getD 89 undef=_:=hdep { on:=1,ground:=.data } (by simp) rfl 89 rfl
   have h91:b.tmps.getD 91 undef=_:=hdep { on:=3,ground:=.data } (by simp) rfl 91 rfl
   have h93:b.tmps.getD 93 undef=_:=hdep { on:=5,ground:=.data } (by simp) rfl 93 rfl
   have h95:b.tmps.getD 95 undef=_:=hdep { on:=7,ground:=.data } (by simp) rfl 95 rfl
   have h98:b.tmps.getD 98 undef=_:=hdep { on:=10,ground:=.data } (by simp) rfl 98 rfl
   have h101:b.tmps.getD 101 undef=_:=hdep { on:=13,ground:=.data } (by simp) rfl 101 rfl
   have h104:b.tmps.getD 104 undef=_:=hdep { on:=16,ground:=.data } (by simp) rfl 104 rfl
   have h106:b.tmps.getD 106 undef=_:=hdep { on:=18,ground:=.data } (by simp) rfl 106 rfl
   obtain⟨ar110,cr110,h110,hp110⟩:Z1 gF 22 (b.tmps.getD 110 undef) W:=hdep { on:=22,ground:=.data } (by simp) rfl 110 rfl
   have h112:b.tmps.getD 112 undef=_:=hdep { on:=24,ground:=.data } (by simp) rfl 112 rfl
   have h114:b.tmps.getD 114 undef=_:=hdep { on:=26,ground:=.data } (by simp) rfl 114 rfl
   have h116:b.tmps.getD 116 undef=_:=hdep { on:=28,ground:=.data } (by simp) rfl 116 rfl
   obtain⟨ar119,cr119,h119,hp119⟩:Z1 gF 31 (b.tmps.getD 119 undef) W:=hdep { on:=31,ground:=.data } (by simp) rfl 119 rfl
   obtain⟨ar122,cr122,h122,hp122⟩:Z1 gF 34 (b.tmps.getD 122 undef) W:=hdep { on:=34,ground:=.data } (by simp) rfl 122 rfl
   obtain⟨ar125,cr125,h125,hp125⟩:Z1 gF 37 (b.tmps.getD 125 undef) W:=hdep { on:=37,ground:=.data } (by simp) rfl 125 rfl
   obtain⟨ar128,cr128,h128,hp128⟩:Z1 gF 40 (b.tmps.getD 128 undef) W:=hdep { on:=40,ground:=.data } (by simp) rfl 128 rfl
   obtain⟨ar131,cr131,h131,hp131⟩:Z1 gF 43 (b.tmps.getD 131 undef) W:=hdep { on:=43,ground:=.data } (by simp) rfl 131 rfl
   obtain⟨ar134,cr134,h134,hp134⟩:Z1 gF 46 (b.tmps.getD 134 undef) W:=hdep { on:=46,ground:=.data } (by simp) rfl 134 rfl
   obtain⟨ar139,cr139,h139,hp139⟩:Z1 gF 51 (b.tmps.getD 139 undef) W:=hdep { on:=51,ground:=.data } (by simp) rfl 139 rfl
   obtain⟨ar145,cr145,h145,hp145⟩:Z1 gF 57 (b.tmps.getD 145 undef) W:=hdep { on:=57,ground:=.data } (by simp) rfl 145 rfl
   obtain⟨ar150,cr150,h150,hp150⟩:Z1 gF 62 (b.tmps.getD 150 undef) W:=hdep { on:=62,ground:=.data } (by simp) rfl 150 rfl
   have h153:b.tmps.getD 153 undef=_:=hdep { on:=65,ground:=.data } (by simp) rfl 153 rfl
   have hzf:=ZF.out (W.alloc (.cells #[.int .i64 0,.int .u32 0,.int .u32 0,.bool false,.int .i64 0,.int .i64 0,.slice none 0 0,.int .i64 0,.int .i64 7,.int .u32 0,.int .u32 0,.bool false,.int .i64 0,.int .i64 0,.slice none 0 0,.int .i64 2,.int .i64 (-1),.int .u32 0,.int .u32 0,.bool false,.int .i64 0,.int .i64 0,.slice none 0 0,.int .i64 2,.int .i64 1,.int .u32 0,.int .u32 0,.bool false,.int .i64 0,.int .i64 0,.slice none 0 0,.int .i64 0,.int .i64 1,.int .u32 1,.int .u32 1,.bool false,.int .i64 0,.int .i64 0,.slice none 0 0,.int .i64 14,.int .i64 1,.int .u32 16777216,.int .u32 0,.bool false,.int .i64 0,.int .i64 1,.slice none 0 0,.int .i64 2,.int .i64 0,.int .u32 16777216,.int .u32 0,.bool false,.int .i64 0,.int .i64 0,.slice none 0 0,.int .i64 2,.int .i64 0,.int .u32 0,.int .u32 0,.bool true,.int .i64 0,.int .i64 0,.slice none 0 0,.int .i64 2,.int .i64 2,.int .u32 0,.int .u32 0,.bool false,.int .i64 0,.int .i64 0,.slice ar110 1 cr110,.int .i64 2,.int .i64 6,.int .u32 0,.int .u32 0,.bool false,.int .i64 1,.int .i64 0,.slice none 0 0,.int .i64 2,.int .i64 4,.int .u32 0,.int .u32 0,.bool false,.int .i64 0,.int .i64 0,.slice none 0 0,.int .i64 0,.int .i64 5,.int .u32 0,.int .u32 0,.bool false,.int .i64 0,.int .i64 0,.slice none 0 0,.int .i64 2,.int .i64 5,.int .u32 0,.int .u32 0,.bool false,.int .i64 33,.int .i64 33,.slice ar119 1 cr119,.int .i64 2,.int .i64 5,.int .u32 0,.int .u32 0,.bool false,.int .i64 32,.int .i64 32,.slice ar122 1 cr122,.int .i64 0,.int .i64 5,.int .u32 0,.int .u32 0,.bool false,.int .i64 2,.int .i64 1,.slice ar125 1 cr125,.int .i64 2,.int .i64 5,.int .u32 0,.int .u32 0,.bool false,.int .i64 0,.int .i64 (-2),.slice ar128 1 cr128,.int .i64 2,.int .i64 5,.int .u32 0,.int .u32 0,.bool false,.int .i64 (-1),.int .i64 2,.slice ar131 1 cr131,.int .i64 2,.int .i64 5,.int .u32 0,.int .u32 0,.bool false,.int .i64 32,.int .i64 (-1),.slice ar134 1 cr134,.int .i64 0,.int .i64 5,.int .u32 0,.int .u32 0,.bool false,.int .i64 0,.int .i64 1,.slice ar139 2 cr139,.int .i64 2,.int .i64 3,.int .u32 0,.int .u32 0,.bool false,.int .i64 0,.int .i64 0,.slice ar145 2 cr145,.int .i64 14,.int .i64 3,.int .u32 0,.int .u32 0,.bool false,.int .i64 0,.int .i64 0,.slice ar150 2 cr150,.int .i64 12,.int .i64 3,.int .u32 0,.int .u32 0,.bool false,.int .i64 0,.int .i64 1,.slice (some ⟨gF,0,none⟩) 40 40,.int .i64 2] 33)) (hEV.alloc _)
   refine⟨154,rfl,fun K hK=>wpOp_step (o:=_) rfl fun K' hK'=>?_⟩
   (try rw [if_pos (show Region.wanted _ _=true from rfl)])
   refine Ns gF ar110 cr110 ar119 cr119 ar122 cr122 ar125 cr125 ar128 cr128 ar131 cr131 ar134 cr134 ar139 cr139 ar145 cr145 ar150 cr150 rfl h89 h91 h93 h95 h98 h101 h104 h106 h110 h112 h114 h116 h119 h122 h125 h128 h131 h134 h139 h145 h150 h153 ?_
   refine hK' _ _ (hK _ _ ((Q1.refl _ W).alloc _) ⟨_,rfl,Mn [[.int .i64 0,.int .u32 0,.int .u32 0,.bool false,.int .i64 0,.int .i64 0,.slice none 0 0],[.int .i64 7,.int .u32 0,.int .u32 0,.bool false,.int .i64 0,.int .i64 0,.slice none 0 0],[.int .i64 (-1),.int .u32 0,.int .u32 0,.bool false,.int .i64 0,.int .i64 0,.slice none 0 0],[.int .i64 1,.int .u32 0,.int .u32 0,.bool false,.int .i64 0,.int .i64 0,.slice none 0 0],[.int .i64 1,.int .u32 1,.int .u32 1,.bool false,.int .i64 0,.int .i64 0,.slice none 0 0],[.int .i64 1,.int .u32 16777216,.int .u32 0,.bool false,.int .i64 0,.int .i64 1,.slice none 0 0],[.int .i64 0,.int .u32 16777216,.int .u32 0,.bool false,.int .i64 0,.int .i64 0,.slice none 0 0],[.int .i64 0,.int .u32 0,.int .u32 0,.bool true,.int .i64 0,.int .i64 0,.slice none 0 0],[.int .i64 2,.int .u32 0,.int .u32 0,.bool false,.int .i64 0,.int .i64 0,.slice ar110 1 cr110],[.int .i64 6,.int .u32 0,.int .u32 0,.bool false,.int .i64 1,.int .i64 0,.slice none 0 0],[.int .i64 4,.int .u32 0,.int .u32 0,.bool false,.int .i64 0,.int .i64 0,.slice none 0 0],[.int .i64 5,.int .u32 0,.int .u32 0,.bool false,.int .i64 0,.int .i64 0,.slice none 0 0],[.int .i64 5,.int .u32 0,.int .u32 0,.bool false,.int .i64 33,.int .i64 33,.slice ar119 1 cr119],[.int .i64 5,.int .u32 0,.int .u32 0,.bool false,.int .i64 32,.int .i64 32,.slice ar122 1 cr122],[.int .i64 5,.int .u32 0,.int .u32 0,.bool false,.int .i64 2,.int .i64 1,.slice ar125 1 cr125],[.int .i64 5,.int .u32 0,.int .u32 0,.bool false,.int .i64 0,.int .i64 (-2),.slice ar128 1 cr128],[.int .i64 5,.int .u32 0,.int .u32 0,.bool false,.int .i64 (-1),.int .i64 2,.slice ar131 1 cr131],[.int .i64 5,.int .u32 0,.int .u32 0,.bool false,.int .i64 32,.int .i64 (-1),.slice ar134 1 cr134],[.int .i64 5,.int .u32 0,.int .u32 0,.bool false,.int .i64 0,.int .i64 1,.slice ar139 2 cr139],[.int .i64 3,.int .u32 0,.int .u32 0,.bool false,.int .i64 0,.int .i64 0,.slice ar145 2 cr145],[.int .i64 3,.int .u32 0,.int .u32 0,.bool false,.int .i64 0,.int .i64 0,.slice ar150 2 cr150],[.int .i64 3,.int .u32 0,.int .u32 0,.bool false,.int .i64 0,.int .i64 1,.slice (some ⟨gF,0,none⟩) 40 40]] (Q9 rfl) rfl (fun j hj=>?_) (by rfl)⟩)
   have hj2:j=0∨j=1∨j=2∨j=3∨j=4∨j=5∨j=6∨j=7∨j=8∨j=9∨j=10∨j=11∨j=12∨j=13∨j=14∨j=15∨j=16∨j=17∨j=18∨j=19∨j=20∨j=21:=by omega
   rcases hj2 with rfl | rfl | rfl | rfl | rfl | rfl | rfl | rfl | rfl | rfl | rfl | rfl | rfl | rfl | rfl | rfl | rfl | rfl | rfl | rfl | rfl | rfl
   ·exact Qd _ 0 (pl:=0) (mi:=0) false 0 0
   ·exact Qd _ 7 (pl:=0) (mi:=0) false 0 0
   ·exact Qd _ (-1) (pl:=0) (mi:=0) false 0 0
   ·exact Qd _ 1 (pl:=0) (mi:=0) false 0 0
   ·exact Qd _ 1 (pl:=1) (mi:=1) false 0 0
   ·exact Qd _ 1 (pl:=16777216) (mi:=0) false 0 1
   ·exact Qd _ 0 (pl:=16777216) (mi:=0) false 0 0
   ·exact Qd _ 0 (pl:=0) (mi:=0) true 0 0
   ·exact hp110.ext ((Q1.refl _ W).alloc _)
   ·exact Qd _ 6 (pl:=0) (mi:=0) false 1 0
   ·exact Qd _ 4 (pl:=0) (mi:=0) false 0 0
   ·exact Qd _ 5 (pl:=0) (mi:=0) false 0 0
   ·exact hp119.ext ((Q1.refl _ W).alloc _)
   ·exact hp122.ext ((Q1.refl _ W).alloc _)
   ·exact hp125.ext ((Q1.refl _ W).alloc _)
   ·exact hp128.ext ((Q1.refl _ W).alloc _)
   ·exact hp131.ext ((Q1.refl _ W).alloc _)
   ·exact hp134.ext ((Q1.refl _ W).alloc _)
   ·exact hp139.ext ((Q1.refl _ W).alloc _)
   ·exact hp145.ext ((Q1.refl _ W).alloc _)
   ·exact hp150.ext ((Q1.refl _ W).alloc _)
   ·exact Lp hzf
  ·obtain rfl:=Option.some.inj ho
   obtain⟨g,h0,-⟩:Z1 gF 66 (b.tmps.getD 154 undef) W:=hdep { on:=66,ground:=.data } (by simp) rfl 154 rfl
   rw [Array.getD_eq_getD_getElem?] at h0
   refine⟨155,rfl,fun K hK=>wpOp_step (o:=_) rfl fun K' hK'=>?_⟩
   (try rw [if_pos (show Region.wanted _ _=true from rfl)])
   go_simp
   exact hK' _ _ (hK _ _ (Q1.refl _ W) rfl)
  ·obtain rfl:=Option.some.inj ho
   refine⟨156,rfl,fun K hK=>wpOp_step (o:=_) rfl fun K' hK'=>?_⟩
   (try rw [if_pos (show Region.wanted _ _=true from rfl)])
   go_simp
   exact hK' _ _ (hK _ _ (Q1.refl _ W) rfl)
 intro vs V2 hE hR
 have hN:Ext V1 V2:=(Q1.refl (fun _=>False) V1).drew.trans hE
 obtain⟨gR,e66,hRT⟩:Z1 gF 66 (vs 66) V2:=hR 66 154 rfl
 have e67:vs 67=.int .i64 22:=hR 67 155 rfl
 have e68:vs 68=.int .i64 0:=hR 68 156 rfl
 refine W4 (l:=[(0,88),(1,89),(2,90),(3,91),(4,92),(5,93),(6,94),(7,95),(8,96),(9,97),(10,98),(11,99),(12,100),(13,101),(14,102),(15,103),(16,104),(17,105),(18,106),(19,107),(20,108),(21,109),(22,110),(23,111),(24,112),(25,113),(26,114),(27,115),(28,116),(29,117),(30,118),(31,119),(32,120),(33,121),(34,122),(35,123),(36,124),(37,125),(38,126),(39,127),(40,128),(41,129),(42,130),(43,131),(44,132),(45,133),(46,134),(47,135),(48,136),(49,137),(50,138),(51,139),(52,140),(53,141),(54,142),(55,143),(56,144),(57,145),(58,146),(59,147),(60,148),(61,149),(62,150),(63,151),(64,152),(65,153),(66,154),(67,155),(68,156)]) (by kernel_rfl) ?_
 simp only [Kx,List.foldl_cons,List.foldl_nil,pq]
 rw [e66,e67,e68]
 clear hR e66 e67 e68 hE
 generalize vs 0=y0,vs 1=y1,vs 2=y2,vs 3=y3,vs 4=y4,vs 5=y5,vs 6=y6,vs 7=y7,vs 8=y8,vs 9=y9,vs 10=y10,vs 11=y11,vs 12=y12,vs 13=y13,vs 14=y14,vs 15=y15,vs 16=y16,vs 17=y17,vs 18=y18,vs 19=y19,vs 20=y20,vs 21=y21,vs 22=y22,vs 23=y23,vs 24=y24,vs 25=y25,vs 26=y26,vs 27=y27,vs 28=y28,vs 29=y29,vs 30=y30,vs 31=y31,vs 32=y32,vs 33=y33,vs 34=y34,vs 35=y35,vs 36=y36,vs 37=y37,vs 38=y38,vs 39=y39,vs 40=y40,vs 41=y41,vs 42=y42,vs 43=y43,vs 44=y44,vs 45=y45,vs 46=y46,vs 47=y47,vs 48=y48,vs 49=y49,vs 50=y50,vs 51=y51,vs 52=y52,vs 53=y53,vs 54=y54,vs 55=y55,vs 56=y56,vs 57=y57,vs 58=y58,vs 59=y59,vs 60=y60,vs 61=y61,vs 62=y62,vs 63=y63,vs 64=y64,vs 65=y65
 replace EW:=Q0 EW hN
 replace TB:=Q0 TB hN
 replace ZF:=Q0 ZF hN
 replace B2:=Q0 B2 hN
 replace B3:=Q0 B3 hN
 replace B4:=Q0 B4 hN
 replace PD:=Q0 PD hN
 have RT:Hid (∀ D,Ext V2 D→Uf D gR):=Lib.hid (fun D hD=>hRT.ext hD)
 clear hN hRT
 rename_i K1 hK1 K0 hK0
 refine hK0 _ _ ?_
 refine Mh (V0:=V2) (gR:=gR) (b2:=b2) (g4:=g4) ⟨by rfl,by rfl,by rfl,by rfl,by rfl,by rfl,by rfl⟩ TB RT (fun _ _ _ _ e h=>⟨e.trans h.1,h.2⟩) (fun a W hst hN=>hK1 _ _ ?_)
 replace EW:=Q0 EW hN
 replace TB:=Q0 TB hN
 replace ZF:=Q0 ZF hN
 replace B2:=Q0 B2 hN
 replace B4:=Q0 B4 hN
 replace PD:=Q0 PD hN
 exact Li V0 W gF b2 g4 kk pl mi nt mn mx ao N cap a hst EW TB ZF B2 B4 PD
end Go.Proofs.YtbmbdoanammlgaaDoor
