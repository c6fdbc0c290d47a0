/- PatsKnown: the loop over the table (printed by genpkl.py). -/
import Derived.Test.YtbmbdoanammlgaaDoorP19
import Derived.Test.YtbmbdoanammlgaaDoorP18
set_option maxRecDepth 100000
set_option maxHeartbeats 16000000
namespace Go.Proofs.YtbmbdoanammlgaaDoor
open Go.RowKit Go.Ab
attribute [local go_sem] Oper.semAt_some Zx Z4
theorem N6{k:Nat}(h:k<22):Yp.getD k (pZ,0)∈Yp:=by
 rw [List.getD_eq_getElem?_getD,List.getElem?_eq_getElem (show k<Yp.length from h)]
 exact List.getElem_mem _
theorem Jc{W:World}{g:Nat}{a0 a1 a2 a3 a4 a5 a6 a7:Value}{t:TypeId}(h:W.heap[g]?=some (.cells #[a0,a1,a2,a3,a4,a5,a6,a7] t (0,0))):W.rangeAt g 0 [a0,a1,a2,a3,a4,a5,a6]:=fun j u hu=>by
 have hj:j<7:=(List.getElem?_eq_some_iff.1 hu).1
 have h2:=D8 h j u
 refine h2 ?_
 have:j=0∨j=1∨j=2∨j=3∨j=4∨j=5∨j=6:=by omega
 rcases this with rfl | rfl | rfl | rfl | rfl | rfl | rfl <;> exact hu
theorem Nb{w:World}{p:Pat}{f:FuncId}{args:Array Value}{e0:Int}(h:Calls Tryd.prog f args w fun e w'=>∃ ds:List Value,e=.returned (.tuple #[.agg ds.toArray,.int .i64 e0]) ∧
   (e0=0→Zn 27 w' (Zq p) ds (fun b=>w.heap.size≤b∧b<w'.heap.size))∧(e0≠0→ds=Q2 0 0 0 false 0 0 none 0 0)∧Ext w w') :
  Calls Tryd.prog f args w fun e w'=>∃(dk:Int) (dpl dmi:Nat) (dnt:Bool) (dmn dmx:Int) (dao:Option Addr) (dN dcap:Nat),e=.returned (.tuple #[.agg #[.int .i64 dk,.int .u32 dpl,.int .u32 dmi,.bool dnt,.int .i64 dmn,.int .i64 dmx,.slice dao dN dcap],.int .i64 e0])∧(e0≠0→dk=0∧dN=0)∧Ext w w':=by
 refine h.mono ?_
 rintro e w' ⟨ds,rfl,h1,h2,hN⟩
 by_cases hz:e0=0
 ·obtain⟨ao,cap,rfl,_⟩:=Qj (h1 hz).at
  exact⟨_,_,_,_,_,_,_,_,_,rfl,fun h=>absurd hz h,hN⟩
 ·rw [h2 hz]
  exact⟨0,0,0,false,0,0,none,0,0,rfl,fun _=>⟨rfl,rfl⟩,hN⟩
theorem Jq{P:Program}(w:World)(g off:Nat)(ty:TypeId)(cs:List Value)(d:TypeDesc)(hr:w.rangeAt g off cs)
  (hu:P.underlying ty=some d) (hd:(match d with | .struct _ | .array _ _=>true | _=>false)=true) (hi:(P.info? ty).map (·.size)=some cs.length) :
  (loadVar ty ⟨g,off,none⟩).run P w=.ok (.agg cs.toArray) w:=by
 have hl:(loadCells ⟨g,off,none⟩ cs.length).run P w=.ok cs.toArray w:=
  run_loadCells_list (P:=P) w ⟨g,off,none⟩ cs (fun j v hv=>by
   have hadd:(⟨g,off,none⟩:Addr).add j=⟨g,off+j,none⟩:=by unfold Addr.add;split <;> simp_all
   rw [hadd]
   exact hr j v hv)
 cases hq:P.info? ty with
 | none=>simp [hq] at hi
 | some i=>
  have hs:i.size=cs.length:=by simpa [hq] using hi
  have hagg:(isAgg ty).run P w=.ok true w:=by
   unfold isAgg
   rw [Sem.run_bind,run_underlying hu w]
   cases d <;> simp_all
  simp [loadVar,Sem.run_bind,hagg,sizeOf,typeInfo,hq,hs,hl]
theorem Yi{P:Program}{o:Oper}{a:Act}{w:World}{ty:TypeId}{x:Operand}(ho:o.op=.load ty x)(g off:Nat)(hx:a.eval x=.pointer (some ⟨g,off,none⟩)) (cs:List Value) (d:TypeDesc) (hr:w.rangeAt g off cs)
  (hu:P.underlying ty=some d) (hd:(match d with | .struct _ | .array _ _=>true | _=>false)=true) (hi:(P.info? ty).map (·.size)=some cs.length):(execOp a.eval o).run P w=.ok (.value (.agg cs.toArray)) w:=by
 unfold execOp
 simp only [ho,hx,Instr.loadAt,Instr.sureAddr,Sem.run_bind,Sem.run_pure,Result.andThen_ok,Jq w g off ty cs d hr hu hd hi]
theorem Ds{P:Program}{o:Oper}{a:Act}{w:World}{K:Act→World→Prop}{Q:Exit→Act→World→Prop}(ty:TypeId)(x:Operand)(ho:o.op=.load ty x)
  (g off:Nat) (hx:a.eval x=.pointer (some ⟨g,off,none⟩)) (cs:List Value) (d:TypeDesc) (hr:w.rangeAt g off cs)
  (hu:P.underlying ty=some d) (hd:(match d with | .struct _ | .array _ _=>true | _=>false)=true) (hi:(P.info? ty).map (·.size)=some cs.length)
  (h:K (a.put o.dst (.agg cs.toArray)) w):o.wp P a w K Q:=by
 unfold Oper.wp execOp
 simp only [ho,hx,Instr.loadAt,Instr.sureAddr,Sem.run_bind,Sem.run_pure,Result.andThen_ok,Jq w g off ty cs d hr hu hd hi]
 exact h
theorem Ju{P:Program}{ops:Array Oper}{rest:List Oper}{o:Oper}{a:Act}{w:World}{Q:Exit→Act→World→Prop}(hgd:Region.wanted o (yielded ops a.tmps)=true) (ty:TypeId) (x:Operand) (ho:o.op=.load ty x)
  (g off:Nat) (hx:a.eval x=.pointer (some ⟨g,off,none⟩)) (cs:List Value) (d:TypeDesc) (hr:w.rangeAt g off cs)
  (hu:P.underlying ty=some d) (hd:(match d with | .struct _ | .array _ _=>true | _=>false)=true) (hi:(P.info? ty).map (·.size)=some cs.length)
  (h:wpList P ops Q rest (a.put o.dst (.agg cs.toArray)) w):wpList P ops Q (o::rest) a w:=
 wpList_step fun K hK=>by
  rw [if_pos hgd]
  exact Ds ty x ho g off hx cs d hr hu hd hi (hK _ _ h)
def No(Vb:World)(gR b2 g4:Nat)(a:Act)(W:World):Prop:=∃(k:Nat),k≤22∧a.defers=[]∧(a.tmps.size=391∧a.tmps.getD 2 undef=.pointer (some ⟨b2,0,none⟩)∧a.tmps.getD 4 undef=.pointer (some ⟨g4,0,none⟩)∧a.tmps.getD 154 undef=.slice (some ⟨gR,0,none⟩) 22 22∧a.tmps.getD 155 undef=.int .i64 22∧a.tmps.getD 156 undef=.int .i64 k)∧Ext Vb W
theorem Mh{V0:World}{gR b2 g4:Nat}{a:Act}{Q:Exit→Act→World→Prop}(hst:a.defers=[]∧(a.tmps.size=391∧a.tmps.getD 2 undef=.pointer (some ⟨b2,0,none⟩)∧a.tmps.getD 4 undef=.pointer (some ⟨g4,0,none⟩)∧a.tmps.getD 154 undef=.slice (some ⟨gR,0,none⟩) 22 22∧a.tmps.getD 155 undef=.int .i64 22∧a.tmps.getD 156 undef=.int .i64 0)) (TB:Hid (∀ D,Ext V0 D→Tab D)) (RT:Hid (∀ D,Ext V0 D→Uf D gR))
  (hP:∀(c:List PanicEntry) (a a':Act) (W:World),a'.defers=a.defers→Q (.panic c) a W→Q (.panic c) a' W) (hQ:∀(a:Act) (W:World),(a.defers=[]∧(a.tmps.size=391∧a.tmps.getD 2 undef=.pointer (some ⟨b2,0,none⟩)∧a.tmps.getD 4 undef=.pointer (some ⟨g4,0,none⟩)))→Ext V0 W→Q .normal a W):N2.wp Tryd.prog Q a V0:=by
 obtain⟨t,_⟩:=a
 obtain⟨hds,hsz,f2,f4,f154,f155,f156⟩:=hst
 subst hds
 obtain⟨u',hu⟩:=Zb hsz
 obtain⟨u,rfl⟩:∃ x,x=u':=⟨_,rfl⟩
 have hu':t=#[u 0,u 1,u 2,u 3,u 4,u 5,u 6,u 7,u 8,u 9,u 10,u 11,u 12,u 13,u 14,u 15,u 16,u 17,u 18,u 19,u 20,u 21,u 22,u 23,u 24,u 25,u 26,u 27,u 28,u 29,u 30,u 31,u 32,u 33,u 34,u 35,u 36,u 37,u 38,u 39,u 40,u 41,u 42,u 43,u 44,u 45,u 46,u 47,u 48,u 49,u 50,u 51,u 52,u 53,u 54,u 55,u 56,u 57,u 58,u 59,u 60,u 61,u 62,u 63,u 64,u 65,u 66,u 67,u 68,u 69,u 70,u 71,u 72,u 73,u 74,u 75,u 76,u 77,u 78,u 79,u 80,u 81,u 82,u 83,u 84,u 85,u 86,u 87,u 88,u 89,u 90,u 91,u 92,u 93,u 94,u 95,u 96,u 97,u 98,u 99,u 100,u 101,u 102,u 103,u 104,u 105,u 106,u 107,u 108,u 109,u 110,u 111,u 112,u 113,u 114,u 115,u 116,u 117,u 118,u 119,u 120,u 121,u 122,u 123,u 124,u 125,u 126,u 127,u 128,u 129,u 130,u 131,u 132,u 133,u 134,u 135,u 136,u 137,u 138,u 139,u 140,u 141,u 142,u 143,u 144,u 145,u 146,u 147,u 148,u 149,u 150,u 151,u 152,u 153,u 154,u 155,u 156,u 157,u 158,u 159,u 160,u 161,u 162,u 163,u 164,u 165,u 166,u 167,u 168,u 169,u 170,u 171,u 172,u 173,u 174,u 175,u 176,u 177,u 178,u 179,u 180,u 181,u 182,u 183,u 184,u 185,u 186,u 187,u 188,u 189,u 190,u 191,u 192,u 193,u 194,u 195,u 196,u 197,u 198,u 199,u 200,u 201,u 202,u 203,u 204,u 205,u 206,u 207,u 208,u 209,u 210,u 211,u 212,u 213,u 214,u 215,u 216,u 217,u 218,u 219,u 220,u 221,u 222,u 223,u 224,u 225,u 226,u 227,u 228,u 229,u 230,u 231,u 232,u 233,u 234,u 235,u 236,u 237,u 238,u 239,u 240,u 241,u 242,u 243,u 244,u 245,u 246,u 247,u 248,u 249,u 250,u 251,u 252,u 253,u 254,u 255,u 256,u 257,u 258,u 259,u 260,u 261,u 262,u 263,u 264,u 265,u 266,u 267,u 268,u 269,u 270,u 271,u 272,u 273,u 274,u 275,u 276,u 277,u 278,u 279,u 280,u 281,u 282,u 283,u 284,u 285,u 286,u 287,u 288,u 289,u 290,u 291,u 292,u 293,u 294,u 295,u 296,u 297,u 298,u 299,u 300,u 301,u 302,u 303,u 304,u 305,u 306,u 307,u 308,u 309,u 310,u 311,u 312,u 313,u 314,u 315,u 316,u 317,u 318,u 319,u 320,u 321,u 322,u 323,u 324,u 325,u 326,u 327,u 328,u 329,u 330,u 331,u 332,u 333,u 334,u 335,u 336,u 337,u 338,u 339,u 340,u 341,u 342,u 343,u 344,u 345,u 346,u 347,u 348,u 349,u 350,u 351,u 352,u 353,u 354,u 355,u 356,u 357,u 358,u 359,u 360,u 361,u 362,u 363,u 364,u 365,u 366,u 367,u 368,u 369,u 370,u 371,u 372,u 373,u 374,u 375,u 376,u 377,u 378,u 379,u 380,u 381,u 382,u 383,u 384,u 385,u 386,u 387,u 388,u 389,u 390]:=hu
 clear hu
 subst hu'
 change u 2=_ at f2
 change u 4=_ at f4
 change u 154=_ at f154
 change u 155=_ at f155
 change u 156=_ at f156
 rw [f2,f4,f154,f155,f156]
 clear f2 f4 f154 f155 f156 hsz
 conv=>arg 2;whnf
 have HP:=Lib.hid hP
 clear hP
 go_wp2
 refine wp_loop (No V0 gR b2 g4) (fun a _=>(22 - intOf (a.tmps.getD 156 undef)).toNat) ?_ ?_
 ·exact⟨0,by omega,rfl,⟨rfl,rfl,rfl,rfl,rfl,rfl⟩,Q1.refl _ _⟩
 rintro⟨t,_⟩ V1 ⟨k,hk,hds,⟨hsz,f2,f4,f154,f155,f156⟩,hN⟩
 subst hds
 obtain⟨u',hu⟩:=Zb hsz
 obtain⟨u,rfl⟩:∃ x,x=u':=⟨_,rfl⟩
 have hu':t=#[u 0,u 1,u 2,u 3,u 4,u 5,u 6,u 7,u 8,u 9,u 10,u 11,u 12,u 13,u 14,u 15,u 16,u 17,u 18,u 19,u 20,u 21,u 22,u 23,u 24,u 25,u 26,u 27,u 28,u 29,u 30,u 31,u 32,u 33,u 34,u 35,u 36,u 37,u 38,u 39,u 40,u 41,u 42,u 43,u 44,u 45,u 46,u 47,u 48,u 49,u 50,u 51,u 52,u 53,u 54,u 55,u 56,u 57,u 58,u 59,u 60,u 61,u 62,u 63,u 64,u 65,u 66,u 67,u 68,u 69,u 70,u 71,u 72,u 73,u 74,u 75,u 76,u 77,u 78,u 79,u 80,u 81,u 82,u 83,u 84,u 85,u 86,u 87,u 88,u 89,u 90,u 91,u 92,u 93,u 94,u 95,u 96,u 97,u 98,u 99,u 100,u 101,u 102,u 103,u 104,u 105,u 106,u 107,u 108,u 109,u 110,u 111,u 112,u 113,u 114,u 115,u 116,u 117,u 118,u 119,u 120,u 121,u 122,u 123,u 124,u 125,u 126,u 127,u 128,u 129,u 130,u 131,u 132,u 133,u 134,u 135,u 136,u 137,u 138,u 139,u 140,u 141,u 142,u 143,u 144,u 145,u 146,u 147,u 148,u 149,u 150,u 151,u 152,u 153,u 154,u 155,u 156,u 157,u 158,u 159,u 160,u 161,u 162,u 163,u 164,u 165,u 166,u 167,u 168,u 169,u 170,u 171,u 172,u 173,u 174,u 175,u 176,u 177,u 178,u 179,u 180,u 181,u 182,u 183,u 184,u 185,u 186,u 187,u 188,u 189,u 190,u 191,u 192,u 193,u 194,u 195,u 196,u 197,u 198,u 199,u 200,u 201,u 202,u 203,u 204,u 205,u 206,u 207,u 208,u 209,u 210,u 211,u 212,u 213,u 214,u 215,u 216,u 217,u 218,u 219,u 220,u 221,u 222,u 223,u 224,u 225,u 226,u 227,u 228,u 229,u 230,u 231,u 232,u 233,u 234,u 235,u 236,u 237,u 238,u 239,u 240,u 241,u 242,u 243,u 244,u 245,u 246,u 247,u 248,u 249,u 250,u 251,u 252,u 253,u 254,u 255,u 256,u 257,u 258,u 259,u 260,u 261,u 262,u 263,u 264,u 265,u 266,u 267,u 268,u 269,u 270,u 271,u 272,u 273,u 274,u 275,u 276,u 277,u 278,u 279,u 280,u 281,u 282,u 283,u 284,u 285,u 286,u 287,u 288,u 289,u 290,u 291,u 292,u 293,u 294,u 295,u 296,u 297,u 298,u 299,u 300,u 301,u 302,u 303,u 304,u 305,u 306,u 307,u 308,u 309,u 310,u 311,u 312,u 313,u 314,u 315,u 316,u 317,u 318,u 319,u 320,u 321,u 322,u 323,u 324,u 325,u 326,u 327,u 328,u 329,u 330,u 331,u 332,u 333,u 334,u 335,u 336,u 337,u 338,u 339,u 340,u 341,u 342,u 343,u 344,u 345,u 346,u 347,u 348,u 349,u 350,u 351,u 352,u 353,u 354,u 355,u 356,u 357,u 358,u 359,u 360,u 361,u 362,u 363,u 364,u 365,u 366,u 367,u 368,u 369,u 370,u 371,u 372,u 373,u 374,u 375,u 376,u 377,u 378,u 379,u 380,u 381,u 382,u 383,u 384,u 385,u 386,u 387,u 388,u 389,u 390]:=hu
 clear hu
 subst hu'
 change u 2=_ at f2
 change u 4=_ at f4
 change u 154=_ at f154
 change u 155=_ at f155
 change u 156=_ at f156
 rw [f2,f4,f154,f155,f156]
 clear f2 f4 f154 f155 f156 hsz
 replace TB:=Q0 TB hN
 (try replace EV:=Q0 EV hN)
 replace RT:=Q0 RT hN
 have HE0:Hid (Ext V0 V1):=Lib.hid hN
 clear hN
 by_cases hk22:k<22
 case pos=>
  have EV:Hid (∀ D,Ext V1 D→Ext V1 D):=Lib.hid (fun _ h=>h)
  obtain⟨cs,hr,hp⟩:=RT.out _ (Q1.refl _ V1) k hk22
  obtain⟨hq1,hq2⟩:=Md _ (N6 hk22)
  obtain⟨⟨p,e0⟩,hpe⟩:∃ x,Yp.getD k (pZ,0)=x:=⟨_,rfl⟩
  rw [hpe] at hr hp hq1 hq2
  dsimp only at hr hp hq1 hq2
  obtain⟨ao,cap,hc,_⟩:=Qj hp
  obtain⟨kk,hkk⟩:∃ x,p.k=x:=⟨_,rfl⟩
  obtain⟨pl,hpl⟩:∃ x,p.pl=x:=⟨_,rfl⟩
  obtain⟨mi,hmi⟩:∃ x,p.mi=x:=⟨_,rfl⟩
  obtain⟨nt,hnt⟩:∃ x,p.nt=x:=⟨_,rfl⟩
  obtain⟨mn,hmn⟩:∃ x,p.mn=x:=⟨_,rfl⟩
  obtain⟨mx,hmx⟩:∃ x,p.mx=x:=⟨_,rfl⟩
  obtain⟨N,hN⟩:∃ x,p.l.length=x:=⟨_,rfl⟩
  rw [hkk,hpl,hmi,hnt,hmn,hmx,hN] at hc
  unfold Q2 at hc
  subst hc
  clear hkk hpl hmi hnt hmn hmx hN hpe RT
  simp only [List.cons_append,List.nil_append] at hr
  have PP:Hid (∀ D,Ext V1 D→Qz D p [.int .i64 kk,.int .u32 pl,.int .u32 mi,.bool nt,.int .i64 mn,.int .i64 mx,.slice ao N cap]):=Lib.hid (fun D hD=>Qz.ext hp hD)
  have HR:=Lib.hid hr
  have HQ1:=Lib.hid hq1
  have HQ2:=Lib.hid hq2
  have h1:(k:Int)<22:=by omega
  have h0:(0:Int)≤(k:Int):=by omega
  clear hr hq1 hq2 hp hk hk22
  go_upto_region 13 with (refine Ju (by rfl) 33 (.tmp 158) rfl gR (k*8) (by first | rfl | simp) _ _ HR.out Tryd.underlying33 rfl (by kernel_rfl) ?_)
  obtain⟨V2,hV⟩:∃ D,V1.alloc (.cells #[.int .i64 kk,.int .u32 pl,.int .u32 mi,.bool nt,.int .i64 mn,.int .i64 mx,.slice ao N cap,.int .i64 e0] 33)=D:=⟨_,rfl⟩
  have hN:Ext V1 V2:=by rw [← hV];exact(Q1.refl _ V1).alloc _
  have hA0:V2.heap[V1.heap.size]?=some (.cells #[.int .i64 kk,.int .u32 pl,.int .u32 mi,.bool nt,.int .i64 mn,.int .i64 mx,.slice ao N cap,.int .i64 e0] 33 (0,0)):=by rw [← hV];exact Q9 rfl
  rw [hV]
  obtain⟨b7,hg⟩:∃ g,V1.heap.size=g:=⟨_,rfl⟩
  rw [hg] at hA0 ⊢
  replace TB:=Q0 TB hN
  (try replace EV:=Q0 EV hN)
  replace PP:=Q0 PP hN
  have B7:Hid (∀ D,Ext V2 D→D.heap[b7]?=some (.cells #[.int .i64 kk,.int .u32 pl,.int .u32 mi,.bool nt,.int .i64 mn,.int .i64 mx,.slice ao N cap,.int .i64 e0] 33 (0,0))):=Lib.hid (fun D hD=>hD.keep hA0)
  clear hV hN hg hA0
  clear HR
  have hc:=Di (PP.out _ (Q1.refl _ V2)) (fun _ h=>h) (TB.out _ (Q1.refl _ V2))
  rw [HQ1.out] at hc
  have hc2:=Nb hc
  have HC:=Lib.hid hc2
  clear hc hc2
  go_wp2_with (refine Ju (by rfl) 27 (.tmp 161) rfl b7 0 (by first | rfl | simp) [.int .i64 kk,.int .u32 pl,.int .u32 mi,.bool nt,.int .i64 mn,.int .i64 mx,.slice ao N cap] _ (Jc (B7.out _ (Q1.refl _ V2))) Tryd.underlying27 rfl (by kernel_rfl) ?_)
  refine(HC.out).mono ?_
  rintro e V3 ⟨dk,dpl,dmi,dnt,dmn,dmx,dao,dN,dcap,rfl,hdz,hN⟩
  replace TB:=Q0 TB hN
  (try replace EV:=Q0 EV hN)
  replace PP:=Q0 PP hN
  replace B7:=Q0 B7 hN
  clear HC hN
  have HDZ:=Lib.hid hdz
  clear hdz
  go_upto_region 14 with (fail)
  obtain⟨V4,hV⟩:∃ D,V3.alloc (.cells #[.int .i64 dk,.int .u32 dpl,.int .u32 dmi,.bool dnt,.int .i64 dmn,.int .i64 dmx,.slice dao dN dcap] 27)=D:=⟨_,rfl⟩
  have hN:Ext V3 V4:=by rw [← hV];exact(Q1.refl _ V3).alloc _
  have hA0:V4.heap[V3.heap.size]?=some (.cells #[.int .i64 dk,.int .u32 dpl,.int .u32 dmi,.bool dnt,.int .i64 dmn,.int .i64 dmx,.slice dao dN dcap] 27 (0,0)):=by rw [← hV];exact Q9 rfl
  rw [hV]
  obtain⟨b8,hg⟩:∃ g,V3.heap.size=g:=⟨_,rfl⟩
  rw [hg] at hA0 ⊢
  replace TB:=Q0 TB hN
  (try replace EV:=Q0 EV hN)
  replace PP:=Q0 PP hN
  replace B7:=Q0 B7 hN
  have B8:Hid (∀ D,Ext V4 D→D.heap[b8]?=some (.cells #[.int .i64 dk,.int .u32 dpl,.int .u32 dmi,.bool dnt,.int .i64 dmn,.int .i64 dmx,.slice dao dN dcap] 27 (0,0))):=Lib.hid (fun D hD=>hD.keep hA0)
  clear hV hN hg hA0
  have HV:Hid (Ext V0 V4):=Lib.hid (HE0.out.trans (EV.out _ (Q1.refl _ V4)))
  clear HE0 EV
  by_cases hz:e0=0
  case pos=>
   subst hz
   have HQ2b:Hid (Jr p p=true):=Lib.hid (by rw [HQ2.out];rfl)
   clear HQ2 HDZ B8
   have hS0:Ext V4 V4.drew:=(Q1.refl _ V4).drew
   refine Jw (S:=fun D=>Ext V4 D) [] (by kernel_rfl) hS0 ?_
   intro _
   obtain⟨U0,hU0⟩:∃ D,V4.drew=D:=⟨_,rfl⟩
   rw [hU0] at hS0 ⊢
   clear hU0
   refine Q5 (i:=0) (v:=?_) rfl (by kernel_rfl) (by kernel_rfl) (by kernel_rfl) (by kernel_rfl) (by kernel_rfl) (fun c a w h=>HP.out c _ a w (by rfl) h) (Or.inl ⟨by rfl,?_⟩) (hS0) ?_
   rotate_left
   ·intro w hSw;(try dsimp only at hSw);go_simp;try with_reducible rfl
   change Qb _ _ _ _ _ _ _ _ (Act.put _ (some 166) _) _
   try simp only [Act.put,pq]
   refine Q5 (i:=1) (v:=?_) rfl (by kernel_rfl) (by kernel_rfl) (by kernel_rfl) (by kernel_rfl) (by kernel_rfl) (fun c a w h=>HP.out c _ a w (by rfl) h) (Or.inl ⟨by rfl,?_⟩) (hS0) ?_
   rotate_left
   ·intro D hD;have hrow:=Jc (B7.out D (show Ext V4 D from hD));refine Yi (ty:=27) (x:=.tmp 166) ?_ b7 0 ?_ [.int .i64 kk,.int .u32 pl,.int .u32 mi,.bool nt,.int .i64 mn,.int .i64 mx,.slice ao N cap] _ hrow Tryd.underlying27 ?_ ?_ <;> first | rfl | kernel_rfl
   change Qb _ _ _ _ _ _ _ _ (Act.put _ (some 167) _) _
   try simp only [Act.put,pq]
   refine Q5 (i:=3) (v:=?_) rfl (by kernel_rfl) (by kernel_rfl) (by kernel_rfl) (by kernel_rfl) (by kernel_rfl) (fun c a w h=>HP.out c _ a w (by rfl) h) (Or.inl ⟨by rfl,?_⟩) (hS0) ?_
   rotate_left
   ·intro w hSw;(try dsimp only at hSw);go_simp;try with_reducible rfl
   change Qb _ _ _ _ _ _ _ _ (Act.put _ (some 169) _) _
   try simp only [Act.put,pq]
   refine Q5 (i:=4) (v:=?_) rfl (by kernel_rfl) (by kernel_rfl) (by kernel_rfl) (by kernel_rfl) (by kernel_rfl) (fun c a w h=>HP.out c _ a w (by rfl) h) (Or.inl ⟨by rfl,?_⟩) (hS0) ?_
   rotate_left
   ·intro D hD;have q9:=cell_of_row D _ 7 _ _ _ (B7.out D (show Ext V4 D from hD));simp only [List.getElem?_toArray,List.getElem?_cons_succ,List.getElem?_cons_zero] at q9;(try dsimp only at hD);go_simp;try with_reducible rfl
   change Qb _ _ _ _ _ _ _ _ (Act.put _ (some 170) _) _
   try simp only [Act.put,pq]
   refine Xk (rs:=[2]) (by kernel_rfl) (by simp) ?_
   refine Za.cons rfl (fun K hK=>?_) Za.nil
   (try rw [if_pos (show Region.wanted _ _=true from rfl)])
   go_simp
   have hc:=Zp (PP.out _ hS0) (fun _ h=>h) (TB.out _ hS0)
   rw [HQ1.out] at hc
   refine hc.mono ?_
   clear hc
   rintro e U3 ⟨rfl,hN3⟩
   have hS3:Ext V4 U3:=hS0.trans hN3
   refine hK.out _ _ hS3 (fun _=>?_)
   clear hK K hS0 hN3
   try simp only [Act.put,pq]
   clear HQ1
   refine Q5 (i:=5) (v:=?_) rfl (by kernel_rfl) (by kernel_rfl) (by kernel_rfl) (by kernel_rfl) (by kernel_rfl) (fun c a w h=>HP.out c _ a w (by rfl) h) (Or.inl ⟨by rfl,?_⟩) (hS3) ?_
   rotate_left
   ·intro w hSw;(try dsimp only at hSw);go_simp;try with_reducible rfl
   change Qb _ _ _ _ _ _ _ _ (Act.put _ (some 171) _) _
   try simp only [Act.put,pq]
   refine Q5 (i:=6) (v:=?_) rfl (by kernel_rfl) (by kernel_rfl) (by kernel_rfl) (by kernel_rfl) (by kernel_rfl) (fun c a w h=>HP.out c _ a w (by rfl) h) (Or.inl ⟨by rfl,?_⟩) (hS3) ?_
   rotate_left
   ·intro w hSw;(try dsimp only at hSw);go_simp;try with_reducible rfl
   change Qb _ _ _ _ _ _ _ _ (Act.put _ (some 172) _) _
   try simp only [Act.put,pq]
   refine Q5 (i:=7) (v:=?_) rfl (by kernel_rfl) (by kernel_rfl) (by kernel_rfl) (by kernel_rfl) (by kernel_rfl) (fun c a w h=>HP.out c _ a w (by rfl) h) (Or.inl ⟨by rfl,?_⟩) (hS3) ?_
   rotate_left
   ·intro w hSw;(try dsimp only at hSw);go_simp;try with_reducible rfl
   change Qb _ _ _ _ _ _ _ _ (Act.put _ (some 173) _) _
   try simp only [Act.put,pq]
   refine Q5 (i:=8) (v:=?_) rfl (by kernel_rfl) (by kernel_rfl) (by kernel_rfl) (by kernel_rfl) (by kernel_rfl) (fun c a w h=>HP.out c _ a w (by rfl) h) (Or.inl ⟨by rfl,?_⟩) (hS3) ?_
   rotate_left
   ·intro w hSw;(try dsimp only at hSw);go_simp;try with_reducible rfl
   change Qb _ _ _ _ _ _ _ _ (Act.put _ (some 174) _) _
   try simp only [Act.put,pq]
   refine Q5 (i:=9) (v:=?_) rfl (by kernel_rfl) (by kernel_rfl) (by kernel_rfl) (by kernel_rfl) (by kernel_rfl) (fun c a w h=>HP.out c _ a w (by rfl) h) (Or.inl ⟨by rfl,?_⟩) (hS3) ?_
   rotate_left
   ·intro D hD;have q9:=cell_of_row D _ 7 _ _ _ (B7.out D (show Ext V4 D from hD));simp only [List.getElem?_toArray,List.getElem?_cons_succ,List.getElem?_cons_zero] at q9;(try dsimp only at hD);go_simp;try with_reducible rfl
   change Qb _ _ _ _ _ _ _ _ (Act.put _ (some 175) _) _
   try simp only [Act.put,pq]
   refine Q5 (i:=10) (v:=?_) rfl (by kernel_rfl) (by kernel_rfl) (by kernel_rfl) (by kernel_rfl) (by kernel_rfl) (fun c a w h=>HP.out c _ a w (by rfl) h) (Or.inl ⟨by rfl,?_⟩) (hS3) ?_
   rotate_left
   ·intro w hSw;(try dsimp only at hSw);go_simp;try with_reducible rfl
   change Qb _ _ _ _ _ _ _ _ (Act.put _ (some 176) _) _
   try simp only [Act.put,pq]
   refine Q5 (i:=11) (v:=?_) rfl (by kernel_rfl) (by kernel_rfl) (by kernel_rfl) (by kernel_rfl) (by kernel_rfl) (fun c a w h=>HP.out c _ a w (by rfl) h) (Or.inl ⟨by rfl,?_⟩) (hS3) ?_
   rotate_left
   ·intro w hSw;(try dsimp only at hSw);go_simp;try with_reducible rfl
   change Qb _ _ _ _ _ _ _ _ (Act.put _ (some 177) _) _
   try simp only [Act.put,pq]
   refine Q5 (i:=12) (v:=?_) rfl (by kernel_rfl) (by kernel_rfl) (by kernel_rfl) (by kernel_rfl) (by kernel_rfl) (fun c a w h=>HP.out c _ a w (by rfl) h) (Or.inl ⟨by rfl,?_⟩) (hS3) ?_
   rotate_left
   ·intro w hSw;(try dsimp only at hSw);go_simp;try with_reducible rfl
   change Qb _ _ _ _ _ _ _ _ (Act.put _ (some 178) _) _
   try simp only [Act.put,pq]
   refine Q5 (i:=13) (v:=?_) rfl (by kernel_rfl) (by kernel_rfl) (by kernel_rfl) (by kernel_rfl) (by kernel_rfl) (fun c a w h=>HP.out c _ a w (by rfl) h) (Or.inl ⟨by rfl,?_⟩) (hS3) ?_
   rotate_left
   ·intro w hSw;(try dsimp only at hSw);go_simp;try with_reducible rfl
   change Qb _ _ _ _ _ _ _ _ (Act.put _ (some 179) _) _
   try simp only [Act.put,pq]
   refine Q5 (i:=14) (v:=?_) rfl (by kernel_rfl) (by kernel_rfl) (by kernel_rfl) (by kernel_rfl) (by kernel_rfl) (fun c a w h=>HP.out c _ a w (by rfl) h) (Or.inl ⟨by rfl,?_⟩) (hS3) ?_
   rotate_left
   ·intro w hSw;(try dsimp only at hSw);go_simp;try with_reducible rfl
   change Qb _ _ _ _ _ _ _ _ (Act.put _ (some 180) _) _
   try simp only [Act.put,pq]
   refine Q5 (i:=15) (v:=?_) rfl (by kernel_rfl) (by kernel_rfl) (by kernel_rfl) (by kernel_rfl) (by kernel_rfl) (fun c a w h=>HP.out c _ a w (by rfl) h) (Or.inl ⟨by rfl,?_⟩) (hS3) ?_
   rotate_left
   ·intro w hSw;(try dsimp only at hSw);go_simp;try with_reducible rfl
   change Qb _ _ _ _ _ _ _ _ (Act.put _ (some 181) _) _
   try simp only [Act.put,pq]
   refine Q5 (i:=16) (v:=undef) rfl (by kernel_rfl) (by kernel_rfl) (by kernel_rfl) (by kernel_rfl) (by kernel_rfl) (fun c a w h=>HP.out c _ a w (by rfl) h) (Or.inr ⟨by rfl,rfl⟩) (hS3) ?_
   change Qb _ _ _ _ _ _ _ _ (Act.put _ (some 182) _) _
   try simp only [Act.put,pq]
   refine Q5 (i:=17) (v:=undef) rfl (by kernel_rfl) (by kernel_rfl) (by kernel_rfl) (by kernel_rfl) (by kernel_rfl) (fun c a w h=>HP.out c _ a w (by rfl) h) (Or.inr ⟨by rfl,rfl⟩) (hS3) ?_
   change Qb _ _ _ _ _ _ _ _ (Act.put _ (some 183) _) _
   try simp only [Act.put,pq]
   refine Q5 (i:=18) (v:=undef) rfl (by kernel_rfl) (by kernel_rfl) (by kernel_rfl) (by kernel_rfl) (by kernel_rfl) (fun c a w h=>HP.out c _ a w (by rfl) h) (Or.inr ⟨by rfl,rfl⟩) (hS3) ?_
   change Qb _ _ _ _ _ _ _ _ (Act.put _ (some 184) _) _
   try simp only [Act.put,pq]
   refine Q5 (i:=19) (v:=undef) rfl (by kernel_rfl) (by kernel_rfl) (by kernel_rfl) (by kernel_rfl) (by kernel_rfl) (fun c a w h=>HP.out c _ a w (by rfl) h) (Or.inr ⟨by rfl,rfl⟩) (hS3) ?_
   change Qb _ _ _ _ _ _ _ _ (Act.put _ (some 185) _) _
   try simp only [Act.put,pq]
   refine Q5 (i:=20) (v:=undef) rfl (by kernel_rfl) (by kernel_rfl) (by kernel_rfl) (by kernel_rfl) (by kernel_rfl) (fun c a w h=>HP.out c _ a w (by rfl) h) (Or.inr ⟨by rfl,rfl⟩) (hS3) ?_
   change Qb _ _ _ _ _ _ _ _ (Act.put _ (some 186) _) _
   try simp only [Act.put,pq]
   refine Q5 (i:=21) (v:=undef) rfl (by kernel_rfl) (by kernel_rfl) (by kernel_rfl) (by kernel_rfl) (by kernel_rfl) (fun c a w h=>HP.out c _ a w (by rfl) h) (Or.inr ⟨by rfl,rfl⟩) (hS3) ?_
   change Qb _ _ _ _ _ _ _ _ (Act.put _ (some 187) _) _
   try simp only [Act.put,pq]
   refine Q5 (i:=22) (v:=undef) rfl (by kernel_rfl) (by kernel_rfl) (by kernel_rfl) (by kernel_rfl) (by kernel_rfl) (fun c a w h=>HP.out c _ a w (by rfl) h) (Or.inr ⟨by rfl,rfl⟩) (hS3) ?_
   change Qb _ _ _ _ _ _ _ _ (Act.put _ (some 188) _) _
   try simp only [Act.put,pq]
   refine Q5 (i:=23) (v:=undef) rfl (by kernel_rfl) (by kernel_rfl) (by kernel_rfl) (by kernel_rfl) (by kernel_rfl) (fun c a w h=>HP.out c _ a w (by rfl) h) (Or.inr ⟨by rfl,rfl⟩) (hS3) ?_
   change Qb _ _ _ _ _ _ _ _ (Act.put _ (some 189) _) _
   try simp only [Act.put,pq]
   refine Q5 (i:=24) (v:=undef) rfl (by kernel_rfl) (by kernel_rfl) (by kernel_rfl) (by kernel_rfl) (by kernel_rfl) (fun c a w h=>HP.out c _ a w (by rfl) h) (Or.inr ⟨by rfl,rfl⟩) (hS3) ?_
   change Qb _ _ _ _ _ _ _ _ (Act.put _ (some 190) _) _
   try simp only [Act.put,pq]
   refine Q5 (i:=25) (v:=?_) rfl (by kernel_rfl) (by kernel_rfl) (by kernel_rfl) (by kernel_rfl) (by kernel_rfl) (fun c a w h=>HP.out c _ a w (by rfl) h) (Or.inl ⟨by rfl,?_⟩) (hS3) ?_
   rotate_left
   ·intro w hSw;(try dsimp only at hSw);go_simp;try with_reducible rfl
   change Qb _ _ _ _ _ _ _ _ (Act.put _ (some 191) _) _
   try simp only [Act.put,pq]
   refine Q5 (i:=26) (v:=?_) rfl (by kernel_rfl) (by kernel_rfl) (by kernel_rfl) (by kernel_rfl) (by kernel_rfl) (fun c a w h=>HP.out c _ a w (by rfl) h) (Or.inl ⟨by rfl,?_⟩) (hS3) ?_
   rotate_left
   ·intro w hSw;(try dsimp only at hSw);go_simp;try with_reducible rfl
   change Qb _ _ _ _ _ _ _ _ (Act.put _ (some 192) _) _
   try simp only [Act.put,pq]
   refine Q5 (i:=27) (v:=?_) rfl (by kernel_rfl) (by kernel_rfl) (by kernel_rfl) (by kernel_rfl) (by kernel_rfl) (fun c a w h=>HP.out c _ a w (by rfl) h) (Or.inl ⟨by rfl,?_⟩) (hS3) ?_
   rotate_left
   ·intro w hSw;(try dsimp only at hSw);go_simp;try with_reducible rfl
   change Qb _ _ _ _ _ _ _ _ (Act.put _ (some 193) _) _
   try simp only [Act.put,pq]
   refine Q5 (i:=28) (v:=?_) rfl (by kernel_rfl) (by kernel_rfl) (by kernel_rfl) (by kernel_rfl) (by kernel_rfl) (fun c a w h=>HP.out c _ a w (by rfl) h) (Or.inl ⟨by rfl,?_⟩) (hS3) ?_
   rotate_left
   ·intro w hSw;(try dsimp only at hSw);go_simp;try with_reducible rfl
   change Qb _ _ _ _ _ _ _ _ (Act.put _ (some 194) _) _
   try simp only [Act.put,pq]
   refine Q5 (i:=29) (v:=?_) rfl (by kernel_rfl) (by kernel_rfl) (by kernel_rfl) (by kernel_rfl) (by kernel_rfl) (fun c a w h=>HP.out c _ a w (by rfl) h) (Or.inl ⟨by rfl,?_⟩) (hS3) ?_
   rotate_left
   ·intro D hD;have hrow:=Jc (B7.out D (show Ext V4 D from hD));refine Yi (ty:=27) (x:=.tmp 194) ?_ b7 0 ?_ [.int .i64 kk,.int .u32 pl,.int .u32 mi,.bool nt,.int .i64 mn,.int .i64 mx,.slice ao N cap] _ hrow Tryd.underlying27 ?_ ?_ <;> first | rfl | kernel_rfl
   change Qb _ _ _ _ _ _ _ _ (Act.put _ (some 195) _) _
   try simp only [Act.put,pq]
   refine Q5 (i:=30) (v:=?_) rfl (by kernel_rfl) (by kernel_rfl) (by kernel_rfl) (by kernel_rfl) (by kernel_rfl) (fun c a w h=>HP.out c _ a w (by rfl) h) (Or.inl ⟨by rfl,?_⟩) (hS3) ?_
   rotate_left
   ·intro w hSw;(try dsimp only at hSw);go_simp;try with_reducible rfl
   change Qb _ _ _ _ _ _ _ _ (Act.put _ (some 196) _) _
   try simp only [Act.put,pq]
   refine Q5 (i:=31) (v:=?_) rfl (by kernel_rfl) (by kernel_rfl) (by kernel_rfl) (by kernel_rfl) (by kernel_rfl) (fun c a w h=>HP.out c _ a w (by rfl) h) (Or.inl ⟨by rfl,?_⟩) (hS3) ?_
   rotate_left
   ·intro D hD;have hrow:=Jc (B7.out D (show Ext V4 D from hD));refine Yi (ty:=27) (x:=.tmp 196) ?_ b7 0 ?_ [.int .i64 kk,.int .u32 pl,.int .u32 mi,.bool nt,.int .i64 mn,.int .i64 mx,.slice ao N cap] _ hrow Tryd.underlying27 ?_ ?_ <;> first | rfl | kernel_rfl
   change Qb _ _ _ _ _ _ _ _ (Act.put _ (some 197) _) _
   try simp only [Act.put,pq]
   refine Q5 (i:=33) (v:=?_) rfl (by kernel_rfl) (by kernel_rfl) (by kernel_rfl) (by kernel_rfl) (by kernel_rfl) (fun c a w h=>HP.out c _ a w (by rfl) h) (Or.inl ⟨by rfl,?_⟩) (hS3) ?_
   rotate_left
   ·intro w hSw;(try dsimp only at hSw);go_simp;try with_reducible rfl
   change Qb _ _ _ _ _ _ _ _ (Act.put _ (some 199) _) _
   try simp only [Act.put,pq]
   refine Q5 (i:=34) (v:=?_) rfl (by kernel_rfl) (by kernel_rfl) (by kernel_rfl) (by kernel_rfl) (by kernel_rfl) (fun c a w h=>HP.out c _ a w (by rfl) h) (Or.inl ⟨by rfl,?_⟩) (hS3) ?_
   rotate_left
   ·intro D hD;have q9:=cell_of_row D _ 7 _ _ _ (B7.out D (show Ext V4 D from hD));simp only [List.getElem?_toArray,List.getElem?_cons_succ,List.getElem?_cons_zero] at q9;(try dsimp only at hD);go_simp;try with_reducible rfl
   change Qb _ _ _ _ _ _ _ _ (Act.put _ (some 200) _) _
   try simp only [Act.put,pq]
   refine Q5 (i:=35) (v:=?_) rfl (by kernel_rfl) (by kernel_rfl) (by kernel_rfl) (by kernel_rfl) (by kernel_rfl) (fun c a w h=>HP.out c _ a w (by rfl) h) (Or.inl ⟨by rfl,?_⟩) (hS3) ?_
   rotate_left
   ·intro w hSw;(try dsimp only at hSw);go_simp;try with_reducible rfl
   change Qb _ _ _ _ _ _ _ _ (Act.put _ (some 201) _) _
   try simp only [Act.put,pq]
   refine Xk (rs:=[32]) (by kernel_rfl) (by simp) ?_
   refine Za.cons rfl (fun K hK=>?_) Za.nil
   (try rw [if_pos (show Region.wanted _ _=true from rfl)])
   go_simp
   have hc:=G8 (PP.out _ hS3) (PP.out _ hS3) (fun _ h=>h) (TB.out _ hS3)
   rw [HQ2b.out] at hc
   refine hc.mono ?_
   clear hc
   rintro e U4 ⟨rfl,hN4⟩
   have hS4:Ext V4 U4:=hS3.trans hN4
   refine hK.out _ _ hS4 (fun _=>?_)
   clear hK K hS3 hN4
   try simp only [Act.put,pq]
   refine Q5 (i:=36) (v:=?_) rfl (by kernel_rfl) (by kernel_rfl) (by kernel_rfl) (by kernel_rfl) (by kernel_rfl) (fun c a w h=>HP.out c _ a w (by rfl) h) (Or.inl ⟨by rfl,?_⟩) (hS4) ?_
   rotate_left
   ·intro w hSw;(try dsimp only at hSw);go_simp;try with_reducible rfl
   change Qb _ _ _ _ _ _ _ _ (Act.put _ (some 202) _) _
   try simp only [Act.put,pq]
   refine Q5 (i:=37) (v:=?_) rfl (by kernel_rfl) (by kernel_rfl) (by kernel_rfl) (by kernel_rfl) (by kernel_rfl) (fun c a w h=>HP.out c _ a w (by rfl) h) (Or.inl ⟨by rfl,?_⟩) (hS4) ?_
   rotate_left
   ·intro w hSw;(try dsimp only at hSw);go_simp;try with_reducible rfl
   change Qb _ _ _ _ _ _ _ _ (Act.put _ (some 203) _) _
   try simp only [Act.put,pq]
   refine Vq (by kernel_rfl) ?_ _
   have HS4:Hid (Ext V0 U4):=Lib.hid (HV.out.trans hS4)
   clear hS4 PP B7 HQ2b TB
   go_wp2
   exact⟨⟨k+1,by omega,by first | rfl | trivial,⟨rfl,rfl,rfl,rfl,rfl,by simp⟩,HS4.out⟩,by first | (simp [intOf];done) | (simp [intOf];omega)⟩
  obtain⟨rfl,rfl⟩:dk=0∧dN=0:=HDZ.out hz
  have HQ2b:Hid (Jr p p=false):=Lib.hid (by rw [HQ2.out];exact decide_eq_false hz)
  have h2:(e0 == 0)=false:=by simpa using hz
  have h3:(e0 != 0)=true:=by simpa using hz
  clear HQ2 HDZ
  have hS0:Ext V4 V4.drew:=(Q1.refl _ V4).drew
  refine Jw (S:=fun D=>Ext V4 D) [] (by kernel_rfl) hS0 ?_
  intro _
  obtain⟨U0,hU0⟩:∃ D,V4.drew=D:=⟨_,rfl⟩
  rw [hU0] at hS0 ⊢
  clear hU0
  refine Q5 (i:=0) (v:=?_) rfl (by kernel_rfl) (by kernel_rfl) (by kernel_rfl) (by kernel_rfl) (by kernel_rfl) (fun c a w h=>HP.out c _ a w (by rfl) h) (Or.inl ⟨by rfl,?_⟩) (hS0) ?_
  rotate_left
  ·intro w hSw;(try dsimp only at hSw);go_simp;try with_reducible rfl
  change Qb _ _ _ _ _ _ _ _ (Act.put _ (some 166) _) _
  try simp only [Act.put,pq]
  refine Q5 (i:=1) (v:=?_) rfl (by kernel_rfl) (by kernel_rfl) (by kernel_rfl) (by kernel_rfl) (by kernel_rfl) (fun c a w h=>HP.out c _ a w (by rfl) h) (Or.inl ⟨by rfl,?_⟩) (hS0) ?_
  rotate_left
  ·intro D hD;have hrow:=Jc (B7.out D (show Ext V4 D from hD));refine Yi (ty:=27) (x:=.tmp 166) ?_ b7 0 ?_ [.int .i64 kk,.int .u32 pl,.int .u32 mi,.bool nt,.int .i64 mn,.int .i64 mx,.slice ao N cap] _ hrow Tryd.underlying27 ?_ ?_ <;> first | rfl | kernel_rfl
  change Qb _ _ _ _ _ _ _ _ (Act.put _ (some 167) _) _
  try simp only [Act.put,pq]
  refine Q5 (i:=3) (v:=?_) rfl (by kernel_rfl) (by kernel_rfl) (by kernel_rfl) (by kernel_rfl) (by kernel_rfl) (fun c a w h=>HP.out c _ a w (by rfl) h) (Or.inl ⟨by rfl,?_⟩) (hS0) ?_
  rotate_left
  ·intro w hSw;(try dsimp only at hSw);go_simp;try with_reducible rfl
  change Qb _ _ _ _ _ _ _ _ (Act.put _ (some 169) _) _
  try simp only [Act.put,pq]
  refine Q5 (i:=4) (v:=?_) rfl (by kernel_rfl) (by kernel_rfl) (by kernel_rfl) (by kernel_rfl) (by kernel_rfl) (fun c a w h=>HP.out c _ a w (by rfl) h) (Or.inl ⟨by rfl,?_⟩) (hS0) ?_
  rotate_left
  ·intro D hD;have q9:=cell_of_row D _ 7 _ _ _ (B7.out D (show Ext V4 D from hD));simp only [List.getElem?_toArray,List.getElem?_cons_succ,List.getElem?_cons_zero] at q9;(try dsimp only at hD);go_simp;try with_reducible rfl
  change Qb _ _ _ _ _ _ _ _ (Act.put _ (some 170) _) _
  try simp only [Act.put,pq]
  refine Xk (rs:=[2]) (by kernel_rfl) (by simp) ?_
  refine Za.cons rfl (fun K hK=>?_) Za.nil
  (try rw [if_pos (show Region.wanted _ _=true from rfl)])
  go_simp
  have hc:=Zp (PP.out _ hS0) (fun _ h=>h) (TB.out _ hS0)
  rw [HQ1.out] at hc
  refine hc.mono ?_
  clear hc
  rintro e U3 ⟨rfl,hN3⟩
  have hS3:Ext V4 U3:=hS0.trans hN3
  refine hK.out _ _ hS3 (fun _=>?_)
  clear hK K hS0 hN3
  try simp only [Act.put,pq]
  clear HQ1
  refine Q5 (i:=5) (v:=?_) rfl (by kernel_rfl) (by kernel_rfl) (by kernel_rfl) (by kernel_rfl) (by kernel_rfl) (fun c a w h=>HP.out c _ a w (by rfl) h) (Or.inl ⟨by rfl,?_⟩) (hS3) ?_
  rotate_left
  ·intro w hSw;(try dsimp only at hSw);go_simp;try with_reducible rfl
  change Qb _ _ _ _ _ _ _ _ (Act.put _ (some 171) _) _
  try simp only [Act.put,pq]
  refine Q5 (i:=6) (v:=?_) rfl (by kernel_rfl) (by kernel_rfl) (by kernel_rfl) (by kernel_rfl) (by kernel_rfl) (fun c a w h=>HP.out c _ a w (by rfl) h) (Or.inl ⟨by rfl,?_⟩) (hS3) ?_
  rotate_left
  ·intro w hSw;(try dsimp only at hSw);go_simp;try with_reducible rfl
  change Qb _ _ _ _ _ _ _ _ (Act.put _ (some 172) _) _
  try simp only [Act.put,pq]
  refine Q5 (i:=7) (v:=?_) rfl (by kernel_rfl) (by kernel_rfl) (by kernel_rfl) (by kernel_rfl) (by kernel_rfl) (fun c a w h=>HP.out c _ a w (by rfl) h) (Or.inl ⟨by rfl,?_⟩) (hS3) ?_
  rotate_left
  ·intro w hSw;(try dsimp only at hSw);go_simp;try with_reducible rfl
  change Qb _ _ _ _ _ _ _ _ (Act.put _ (some 173) _) _
  try simp only [Act.put,pq]
  refine Q5 (i:=8) (v:=?_) rfl (by kernel_rfl) (by kernel_rfl) (by kernel_rfl) (by kernel_rfl) (by kernel_rfl) (fun c a w h=>HP.out c _ a w (by rfl) h) (Or.inl ⟨by rfl,?_⟩) (hS3) ?_
  rotate_left
  ·intro w hSw;(try dsimp only at hSw);go_simp;try with_reducible rfl
  change Qb _ _ _ _ _ _ _ _ (Act.put _ (some 174) _) _
  try simp only [Act.put,pq]
  refine Q5 (i:=9) (v:=?_) rfl (by kernel_rfl) (by kernel_rfl) (by kernel_rfl) (by kernel_rfl) (by kernel_rfl) (fun c a w h=>HP.out c _ a w (by rfl) h) (Or.inl ⟨by rfl,?_⟩) (hS3) ?_
  rotate_left
  ·intro D hD;have q9:=cell_of_row D _ 7 _ _ _ (B7.out D (show Ext V4 D from hD));simp only [List.getElem?_toArray,List.getElem?_cons_succ,List.getElem?_cons_zero] at q9;(try dsimp only at hD);go_simp;try with_reducible rfl
  change Qb _ _ _ _ _ _ _ _ (Act.put _ (some 175) _) _
  try simp only [Act.put,pq]
  refine Q5 (i:=10) (v:=?_) rfl (by kernel_rfl) (by kernel_rfl) (by kernel_rfl) (by kernel_rfl) (by kernel_rfl) (fun c a w h=>HP.out c _ a w (by rfl) h) (Or.inl ⟨by rfl,?_⟩) (hS3) ?_
  rotate_left
  ·intro w hSw;(try dsimp only at hSw);go_simp;try with_reducible rfl
  change Qb _ _ _ _ _ _ _ _ (Act.put _ (some 176) _) _
  try simp only [Act.put,pq]
  refine Q5 (i:=11) (v:=?_) rfl (by kernel_rfl) (by kernel_rfl) (by kernel_rfl) (by kernel_rfl) (by kernel_rfl) (fun c a w h=>HP.out c _ a w (by rfl) h) (Or.inl ⟨by rfl,?_⟩) (hS3) ?_
  rotate_left
  ·intro w hSw;(try dsimp only at hSw);go_simp;try with_reducible rfl
  change Qb _ _ _ _ _ _ _ _ (Act.put _ (some 177) _) _
  try simp only [Act.put,pq]
  refine Q5 (i:=12) (v:=?_) rfl (by kernel_rfl) (by kernel_rfl) (by kernel_rfl) (by kernel_rfl) (by kernel_rfl) (fun c a w h=>HP.out c _ a w (by rfl) h) (Or.inl ⟨by rfl,?_⟩) (hS3) ?_
  rotate_left
  ·intro w hSw;(try dsimp only at hSw);go_simp;try with_reducible rfl
  change Qb _ _ _ _ _ _ _ _ (Act.put _ (some 178) _) _
  try simp only [Act.put,pq]
  refine Q5 (i:=13) (v:=?_) rfl (by kernel_rfl) (by kernel_rfl) (by kernel_rfl) (by kernel_rfl) (by kernel_rfl) (fun c a w h=>HP.out c _ a w (by rfl) h) (Or.inl ⟨by rfl,?_⟩) (hS3) ?_
  rotate_left
  ·intro w hSw;(try dsimp only at hSw);go_simp;try with_reducible rfl
  change Qb _ _ _ _ _ _ _ _ (Act.put _ (some 179) _) _
  try simp only [Act.put,pq]
  refine Q5 (i:=14) (v:=?_) rfl (by kernel_rfl) (by kernel_rfl) (by kernel_rfl) (by kernel_rfl) (by kernel_rfl) (fun c a w h=>HP.out c _ a w (by rfl) h) (Or.inl ⟨by rfl,?_⟩) (hS3) ?_
  rotate_left
  ·intro w hSw;(try dsimp only at hSw);go_simp;try with_reducible rfl
  change Qb _ _ _ _ _ _ _ _ (Act.put _ (some 180) _) _
  try simp only [Act.put,pq]
  refine Q5 (i:=15) (v:=?_) rfl (by kernel_rfl) (by kernel_rfl) (by kernel_rfl) (by kernel_rfl) (by kernel_rfl) (fun c a w h=>HP.out c _ a w (by rfl) h) (Or.inl ⟨by rfl,?_⟩) (hS3) ?_
  rotate_left
  ·intro w hSw;(try dsimp only at hSw);go_simp;try with_reducible rfl
  change Qb _ _ _ _ _ _ _ _ (Act.put _ (some 181) _) _
  try simp only [Act.put,pq]
  refine Q5 (i:=16) (v:=?_) rfl (by kernel_rfl) (by kernel_rfl) (by kernel_rfl) (by kernel_rfl) (by kernel_rfl) (fun c a w h=>HP.out c _ a w (by rfl) h) (Or.inl ⟨by rfl,?_⟩) (hS3) ?_
  rotate_left
  ·intro w hSw;(try dsimp only at hSw);go_simp;try with_reducible rfl
  change Qb _ _ _ _ _ _ _ _ (Act.put _ (some 182) _) _
  try simp only [Act.put,pq]
  refine Q5 (i:=17) (v:=?_) rfl (by kernel_rfl) (by kernel_rfl) (by kernel_rfl) (by kernel_rfl) (by kernel_rfl) (fun c a w h=>HP.out c _ a w (by rfl) h) (Or.inl ⟨by rfl,?_⟩) (hS3) ?_
  rotate_left
  ·intro D hD;have q9:=cell_of_row D _ 6 _ _ _ (B8.out D (show Ext V4 D from hD));simp only [List.getElem?_toArray,List.getElem?_cons_succ,List.getElem?_cons_zero] at q9;(try dsimp only at hD);go_simp;try with_reducible rfl
  change Qb _ _ _ _ _ _ _ _ (Act.put _ (some 183) _) _
  try simp only [Act.put,pq]
  refine Q5 (i:=18) (v:=?_) rfl (by kernel_rfl) (by kernel_rfl) (by kernel_rfl) (by kernel_rfl) (by kernel_rfl) (fun c a w h=>HP.out c _ a w (by rfl) h) (Or.inl ⟨by rfl,?_⟩) (hS3) ?_
  rotate_left
  ·intro w hSw;(try dsimp only at hSw);go_simp;try with_reducible rfl
  change Qb _ _ _ _ _ _ _ _ (Act.put _ (some 184) _) _
  try simp only [Act.put,pq]
  refine Q5 (i:=19) (v:=?_) rfl (by kernel_rfl) (by kernel_rfl) (by kernel_rfl) (by kernel_rfl) (by kernel_rfl) (fun c a w h=>HP.out c _ a w (by rfl) h) (Or.inl ⟨by rfl,?_⟩) (hS3) ?_
  rotate_left
  ·intro w hSw;(try dsimp only at hSw);go_simp;try with_reducible rfl
  change Qb _ _ _ _ _ _ _ _ (Act.put _ (some 185) _) _
  try simp only [Act.put,pq]
  refine Q5 (i:=20) (v:=?_) rfl (by kernel_rfl) (by kernel_rfl) (by kernel_rfl) (by kernel_rfl) (by kernel_rfl) (fun c a w h=>HP.out c _ a w (by rfl) h) (Or.inl ⟨by rfl,?_⟩) (hS3) ?_
  rotate_left
  ·intro w hSw;(try dsimp only at hSw);go_simp;try with_reducible rfl
  change Qb _ _ _ _ _ _ _ _ (Act.put _ (some 186) _) _
  try simp only [Act.put,pq]
  refine Q5 (i:=21) (v:=?_) rfl (by kernel_rfl) (by kernel_rfl) (by kernel_rfl) (by kernel_rfl) (by kernel_rfl) (fun c a w h=>HP.out c _ a w (by rfl) h) (Or.inl ⟨by rfl,?_⟩) (hS3) ?_
  rotate_left
  ·intro w hSw;(try dsimp only at hSw);go_simp;try with_reducible rfl
  change Qb _ _ _ _ _ _ _ _ (Act.put _ (some 187) _) _
  try simp only [Act.put,pq]
  refine Q5 (i:=22) (v:=?_) rfl (by kernel_rfl) (by kernel_rfl) (by kernel_rfl) (by kernel_rfl) (by kernel_rfl) (fun c a w h=>HP.out c _ a w (by rfl) h) (Or.inl ⟨by rfl,?_⟩) (hS3) ?_
  rotate_left
  ·intro D hD;have q9:=cell_of_row D _ 0 _ _ _ (B8.out D (show Ext V4 D from hD));simp only [List.getElem?_toArray,List.getElem?_cons_zero] at q9;(try dsimp only at hD);go_simp;try with_reducible rfl
  change Qb _ _ _ _ _ _ _ _ (Act.put _ (some 188) _) _
  try simp only [Act.put,pq]
  refine Q5 (i:=23) (v:=?_) rfl (by kernel_rfl) (by kernel_rfl) (by kernel_rfl) (by kernel_rfl) (by kernel_rfl) (fun c a w h=>HP.out c _ a w (by rfl) h) (Or.inl ⟨by rfl,?_⟩) (hS3) ?_
  rotate_left
  ·intro w hSw;(try dsimp only at hSw);go_simp;try with_reducible rfl
  change Qb _ _ _ _ _ _ _ _ (Act.put _ (some 189) _) _
  try simp only [Act.put,pq]
  refine Q5 (i:=24) (v:=?_) rfl (by kernel_rfl) (by kernel_rfl) (by kernel_rfl) (by kernel_rfl) (by kernel_rfl) (fun c a w h=>HP.out c _ a w (by rfl) h) (Or.inl ⟨by rfl,?_⟩) (hS3) ?_
  rotate_left
  ·intro w hSw;(try dsimp only at hSw);go_simp;try with_reducible rfl
  change Qb _ _ _ _ _ _ _ _ (Act.put _ (some 190) _) _
  try simp only [Act.put,pq]
  refine Q5 (i:=25) (v:=?_) rfl (by kernel_rfl) (by kernel_rfl) (by kernel_rfl) (by kernel_rfl) (by kernel_rfl) (fun c a w h=>HP.out c _ a w (by rfl) h) (Or.inl ⟨by rfl,?_⟩) (hS3) ?_
  rotate_left
  ·intro w hSw;(try dsimp only at hSw);go_simp;try with_reducible rfl
  change Qb _ _ _ _ _ _ _ _ (Act.put _ (some 191) _) _
  try simp only [Act.put,pq]
  refine Q5 (i:=26) (v:=?_) rfl (by kernel_rfl) (by kernel_rfl) (by kernel_rfl) (by kernel_rfl) (by kernel_rfl) (fun c a w h=>HP.out c _ a w (by rfl) h) (Or.inl ⟨by rfl,?_⟩) (hS3) ?_
  rotate_left
  ·intro w hSw;(try dsimp only at hSw);go_simp;try with_reducible rfl
  change Qb _ _ _ _ _ _ _ _ (Act.put _ (some 192) _) _
  try simp only [Act.put,pq]
  refine Q5 (i:=27) (v:=?_) rfl (by kernel_rfl) (by kernel_rfl) (by kernel_rfl) (by kernel_rfl) (by kernel_rfl) (fun c a w h=>HP.out c _ a w (by rfl) h) (Or.inl ⟨by rfl,?_⟩) (hS3) ?_
  rotate_left
  ·intro w hSw;(try dsimp only at hSw);go_simp;try with_reducible rfl
  change Qb _ _ _ _ _ _ _ _ (Act.put _ (some 193) _) _
  try simp only [Act.put,pq]
  refine Q5 (i:=28) (v:=?_) rfl (by kernel_rfl) (by kernel_rfl) (by kernel_rfl) (by kernel_rfl) (by kernel_rfl) (fun c a w h=>HP.out c _ a w (by rfl) h) (Or.inl ⟨by rfl,?_⟩) (hS3) ?_
  rotate_left
  ·intro w hSw;(try dsimp only at hSw);go_simp;try with_reducible rfl
  change Qb _ _ _ _ _ _ _ _ (Act.put _ (some 194) _) _
  try simp only [Act.put,pq]
  refine Q5 (i:=29) (v:=?_) rfl (by kernel_rfl) (by kernel_rfl) (by kernel_rfl) (by kernel_rfl) (by kernel_rfl) (fun c a w h=>HP.out c _ a w (by rfl) h) (Or.inl ⟨by rfl,?_⟩) (hS3) ?_
  rotate_left
  ·intro D hD;have hrow:=Jc (B7.out D (show Ext V4 D from hD));refine Yi (ty:=27) (x:=.tmp 194) ?_ b7 0 ?_ [.int .i64 kk,.int .u32 pl,.int .u32 mi,.bool nt,.int .i64 mn,.int .i64 mx,.slice ao N cap] _ hrow Tryd.underlying27 ?_ ?_ <;> first | rfl | kernel_rfl
  change Qb _ _ _ _ _ _ _ _ (Act.put _ (some 195) _) _
  try simp only [Act.put,pq]
  refine Q5 (i:=30) (v:=?_) rfl (by kernel_rfl) (by kernel_rfl) (by kernel_rfl) (by kernel_rfl) (by kernel_rfl) (fun c a w h=>HP.out c _ a w (by rfl) h) (Or.inl ⟨by rfl,?_⟩) (hS3) ?_
  rotate_left
  ·intro w hSw;(try dsimp only at hSw);go_simp;try with_reducible rfl
  change Qb _ _ _ _ _ _ _ _ (Act.put _ (some 196) _) _
  try simp only [Act.put,pq]
  refine Q5 (i:=31) (v:=?_) rfl (by kernel_rfl) (by kernel_rfl) (by kernel_rfl) (by kernel_rfl) (by kernel_rfl) (fun c a w h=>HP.out c _ a w (by rfl) h) (Or.inl ⟨by rfl,?_⟩) (hS3) ?_
  rotate_left
  ·intro D hD;have hrow:=Jc (B7.out D (show Ext V4 D from hD));refine Yi (ty:=27) (x:=.tmp 196) ?_ b7 0 ?_ [.int .i64 kk,.int .u32 pl,.int .u32 mi,.bool nt,.int .i64 mn,.int .i64 mx,.slice ao N cap] _ hrow Tryd.underlying27 ?_ ?_ <;> first | rfl | kernel_rfl
  change Qb _ _ _ _ _ _ _ _ (Act.put _ (some 197) _) _
  try simp only [Act.put,pq]
  refine Q5 (i:=33) (v:=?_) rfl (by kernel_rfl) (by kernel_rfl) (by kernel_rfl) (by kernel_rfl) (by kernel_rfl) (fun c a w h=>HP.out c _ a w (by rfl) h) (Or.inl ⟨by rfl,?_⟩) (hS3) ?_
  rotate_left
  ·intro w hSw;(try dsimp only at hSw);go_simp;try with_reducible rfl
  change Qb _ _ _ _ _ _ _ _ (Act.put _ (some 199) _) _
  try simp only [Act.put,pq]
  refine Q5 (i:=34) (v:=?_) rfl (by kernel_rfl) (by kernel_rfl) (by kernel_rfl) (by kernel_rfl) (by kernel_rfl) (fun c a w h=>HP.out c _ a w (by rfl) h) (Or.inl ⟨by rfl,?_⟩) (hS3) ?_
  rotate_left
  ·intro D hD;have q9:=cell_of_row D _ 7 _ _ _ (B7.out D (show Ext V4 D from hD));simp only [List.getElem?_toArray,List.getElem?_cons_succ,List.getElem?_cons_zero] at q9;(try dsimp only at hD);go_simp;try with_reducible rfl
  change Qb _ _ _ _ _ _ _ _ (Act.put _ (some 200) _) _
  try simp only [Act.put,pq]
  refine Q5 (i:=35) (v:=?_) rfl (by kernel_rfl) (by kernel_rfl) (by kernel_rfl) (by kernel_rfl) (by kernel_rfl) (fun c a w h=>HP.out c _ a w (by rfl) h) (Or.inl ⟨by rfl,?_⟩) (hS3) ?_
  rotate_left
  ·intro w hSw;(try dsimp only at hSw);go_simp;try with_reducible rfl
  change Qb _ _ _ _ _ _ _ _ (Act.put _ (some 201) _) _
  try simp only [Act.put,pq]
  refine Xk (rs:=[32]) (by kernel_rfl) (by simp) ?_
  refine Za.cons rfl (fun K hK=>?_) Za.nil
  (try rw [if_pos (show Region.wanted _ _=true from rfl)])
  go_simp
  have hc:=G8 (PP.out _ hS3) (PP.out _ hS3) (fun _ h=>h) (TB.out _ hS3)
  rw [HQ2b.out] at hc
  refine hc.mono ?_
  clear hc
  rintro e U4 ⟨rfl,hN4⟩
  have hS4:Ext V4 U4:=hS3.trans hN4
  refine hK.out _ _ hS4 (fun _=>?_)
  clear hK K hS3 hN4
  try simp only [Act.put,pq]
  refine Q5 (i:=36) (v:=?_) rfl (by kernel_rfl) (by kernel_rfl) (by kernel_rfl) (by kernel_rfl) (by kernel_rfl) (fun c a w h=>HP.out c _ a w (by rfl) h) (Or.inl ⟨by rfl,?_⟩) (hS4) ?_
  rotate_left
  ·intro w hSw;(try dsimp only at hSw);go_simp;try with_reducible rfl
  change Qb _ _ _ _ _ _ _ _ (Act.put _ (some 202) _) _
  try simp only [Act.put,pq]
  refine Q5 (i:=37) (v:=?_) rfl (by kernel_rfl) (by kernel_rfl) (by kernel_rfl) (by kernel_rfl) (by kernel_rfl) (fun c a w h=>HP.out c _ a w (by rfl) h) (Or.inl ⟨by rfl,?_⟩) (hS4) ?_
  rotate_left
  ·intro w hSw;(try dsimp only at hSw);go_simp;try with_reducible rfl
  change Qb _ _ _ _ _ _ _ _ (Act.put _ (some 203) _) _
  try simp only [Act.put,pq]
  refine Vq (by kernel_rfl) ?_ _
  have HS4:Hid (Ext V0 U4):=Lib.hid (HV.out.trans hS4)
  clear hS4 PP B7 HQ2b TB B8
  go_wp2
  exact⟨⟨k+1,by omega,by first | rfl | trivial,⟨rfl,rfl,rfl,rfl,rfl,by simp⟩,HS4.out⟩,by first | (simp [intOf];done) | (simp [intOf];omega)⟩
 have h1:¬ (k:Int)<22:=by omega
 have HQ:=Lib.hid hQ
 clear hQ TB RT hk hk22
 go_wp2
 exact HQ.out _ _ ⟨rfl,rfl,rfl,rfl⟩ HE0.out
end Go.Proofs.YtbmbdoanammlgaaDoor
