/- ablautlaw15.MergersLabels: the walk. -/
import Derived.Test.YtejenndedjabhaaGreatDoorT21
set_option maxRecDepth 100000
set_option maxHeartbeats 16000000
namespace Go.Proofs.YtejenndedjabhaaGreatDoor
open Go.RowKit Go.Ab
attribute [local go_sem] Oper.semAt_some Y5 Z9
theorem Qac{w:World}{M5:Zl}{M2:Option Addr}{o9 z1:Nat}(K4:Zk w (.slice M2 o9 z1) M5) (K8:M5.length=o9) (L:o9<=z1)
  {ao:Option Addr} {j1 s5:Nat} {j0:List Nat} (H8:Rd w (.slice ao j1 s5) j1 1 (u8V j0)) (I0:j0.length=j1) (I2:∀ x∈j0,x<256) (H9:j1<=s5) {F1:Option Addr} {j3 s6:Nat} {j2:List Nat} (k3:Rd w (.slice F1 j3 s6) j3 1 (u8V j2)) (I5:j2.length=j3) (I6:∀ x∈j2,x<256) (I4:j3<=s6) (n6:Tab w) :
  Calls Tryz.prog 10 #[.slice M2 o9 z1,.slice ao j1 s5,.slice F1 j3 s6] w fun e w'=>e=.returned (.bool true)/\Ext w w':=by
 have A6:=Zh (Qci K4 K8 L n6 (mo:=12) (by decide))
 have A7:=Zh (fun(A:World) (y:Ext w A)=>Mw (H8.ext y) I0 I2 H9 (mo:=10) (by decide))
 have A8:=Zh (fun(A:World) (y:Ext w A)=>Mw (k3.ext y) I5 I6 I4 (mo:=10) (by decide))
 have m4:=Zh n6
 have E3:=Zh (fun(W:World) (y:Ext w W)=>Jk W (n6.keep y id))
 obtain⟨y5,K5⟩:=Pu j0 (mo:=10) (by decide)
 obtain⟨y6,K6⟩:=Pu j2 (mo:=10) (by decide)
 obtain⟨r,R⟩:∃ r,Vm j0 10=r:=⟨_,rfl⟩
 obtain⟨s,v0⟩:∃ r,Vm j2 10=r:=⟨_,rfl⟩
 rw [R] at y5 K5
 rw [v0] at y6 K6
 have A9:=Zh R;have B4:=Zh v0;have E0:=Zh y5;have E1:=Zh y6
 have F5:r.length+s.length<=31:=by omega
 have N6:=Zh F5
 have N7:Hid (r.length+1+s.length<=1000):=Zh (by omega)
 clear K4 K8 L H8 I0 I2 H9 k3 I5 I6 I4 n6 R v0 y5 y6 K5 K6 F5
 go_enter Tryz.func10,Tryz.ntmps10
 go_wp2_with fail
 refine A6.out.mono ?_
 rintro e U2 ⟨D,A2,p7,rfl,G3,J3,S6,L7,v3⟩
 have C3:=Zh v3;have f8:=Zh G3;have P3:=Zh L7;have O1:=Zh J3
 obtain⟨z2,x9⟩:∃ m,D.length=m:=⟨_,rfl⟩
 rw [x9] at f8 S6 O1 ⊢
 have i5:=Zh x9
 have E5:=Zh (A7.out U2 v3)
 clear A6 A7 v3 G3 L7 J3 x9
 go_wp2_with fail
 refine E5.out.mono ?_
 rintro e U3 ⟨X0,rfl,b2,g3⟩
 rw [A9.out] at b2
 obtain⟨d1,d0,rfl,I3,I9⟩:=b2
 have N8:=Zh I9
 clear I9
 have q4:=Zh (C3.out.trans g3);have c3:=Zh (f8.out.ext g3);have c2:=Zh I3
 have E6:=Zh (A8.out U3 q4.out)
 clear E5 A8 g3 C3 f8 I3 A9
 go_wp2_with fail
 refine E6.out.mono ?_
 rintro e U4 ⟨X1,rfl,b2,n3⟩
 rw [B4.out] at b2
 obtain⟨d3,d2,rfl,I7,c5⟩:=b2
 have N9:=Zh c5
 clear c5
 have C4:=Zh (q4.out.trans n3);have f8:=Zh (c3.out.ext n3);have B0:=Zh (c2.out.ext n3);have B5:=Zh I7
 clear E6 n3 q4 c3 c2 I7 B4
 go_wp2_with fail
 refine(Df U4 (n:=8) (sh:=0) (by decide) (by decide)).mono ?_
 rintro e N0 ⟨M1,f0,rfl,B,j6⟩
 obtain⟨_,_,q,x5,x4⟩:=B
 cases q
 rw [Y4] at x5 x4
 have i3:=Zh (C4.out.trans j6);have c3:=Zh (f8.out.ext j6);have c2:=Zh (B0.out.ext j6);have i1:=Zh (B5.out.ext j6)
 have l8:=Zh x5;have D1:=Zh x4
 clear j6 C4 f8 B0 B5 x5 x4
 have x8:=Qdy P3.out (by rw [i5.out];omega)
 obtain⟨z7,p5,l2,l3,T7⟩:=Qiw x8 E0.out E1.out N6.out
 have L:=Ba c3.out i5.out c2.out i1.out l8.out (Y4 8 0) D1.out (m4.out.keep i3.out id)
 have a5:=fun(A:World) (y:Ext N0 A)=>Ea (c3.out.ext y) i5.out (c2.out.ext y) (i1.out.ext y) (l8.out.ext y) (Y4 8 0) D1.out (m4.out.keep (i3.out.trans y) id)
 have I8:=fun(A:World) (y:Ext N0 A) (c9:Nat × Nat) (a7:Qm c9)=>Bg (c3.out.ext y) i5.out (c2.out.ext y) (i1.out.ext y) a7 (m4.out.keep (i3.out.trans y) id) (lc:=p7)
 have x6:(lbE (D.map (·.1)) r s).length=8:=by simp [lbE,Qz]
 have x7:(lbW (D.map (·.1)) r s).length=8:=by simp [lbW,Qz]
 have x1:∀ f,f<8->(lbE (D.map (·.1)) r s)[f]?=some (Wm (D.map (·.1)) r s (Zc 0 f)):=fun f h=>by simp [lbE,Qz,h]
 have x2:∀ f,f<8->(lbW (D.map (·.1)) r s)[f]?=some (Dn (D.map (·.1)) r s (Zc 0 f)):=fun f h=>by simp [lbW,Qz,h]
 obtain⟨l6,b0⟩:∃ E,Y3 (D.map (·.1)) r s (Qz 8 0)=E:=⟨_,rfl⟩
 obtain⟨H,n4⟩:∃ E,Yb (D.map (·.1)) r s (Qz 8 0)=E:=⟨_,rfl⟩
 obtain⟨E8,c4⟩:∃ E,Vf (D.map (·.1)) r s (Qz 8 0)=E:=⟨_,rfl⟩
 obtain⟨i0,v6⟩:∃ E,lbE (D.map (·.1)) r s=E:=⟨_,rfl⟩
 obtain⟨i9,n9⟩:∃ E,lbW (D.map (·.1)) r s=E:=⟨_,rfl⟩
 have L4:l6=0->E8=Uu H (Zm r s (Qz 8 0)):=fun h=>by rw [<-c4];unfold Vf;rw [if_pos (by rw [b0];exact h),n4]
 rw [b0] at z7 p5 l2 l3
 rw [n4] at l2 l3
 rw [c4] at l3
 rw [v6] at p5
 rw [n9] at l2
 rw [b0,n4] at L
 simp only [b0,c4] at a5
 simp only [v6] at x1 x6
 simp only [n9] at x2 x7
 have s0:=Zh z7;have s1:=Zh p5;have s2:=Zh l2;have s3:=Zh l3;have p8:=Zh L;have p9:=Zh a5;have q0:=Zh I8
 have P6:=Zh n9;have O3:=Zh b0;have r6:=Zh L4;have q9:=Zh x6;have b6:=Zh x7;have C8:=Zh x1;have C9:=Zh x2;have O6:=Zh x8
 obtain⟨f1,o4⟩:∃ n,r.length=n:=⟨_,rfl⟩
 obtain⟨f2,o5⟩:∃ n,s.length=n:=⟨_,rfl⟩
 have D4:=Zh o4;have D5:=Zh o5
 rw [o4,o5] at p8 p9 q0
 rw [o4,o5]
 clear z7 p5 l2 l3 T7 L a5 I8 b0 n4 c4 v6 n9 o4 o5 L4 x6 x7 x1 x2 x8
 go_wp2_with fail
 refine p8.out.mono ?_
 rintro e U5 ⟨U0,z8,rfl,F,v4⟩
 have d8:=Zh (Rd.of_own F);have C5:=Zh v4
 have E4:=Zh (p9.out U5 v4)
 clear p8 p9 F v4
 go_wp2_with fail
 refine E4.out.mono ?_
 rintro e A1 ⟨U1,z9,rfl,F,v5⟩
 have r3:=Zh (Rd.of_own F);have r2:=Zh (d8.out.ext v5);have d7:=Zh (C5.out.trans v5)
 have q6:=Zh (l8.out.ext d7.out)
 obtain⟨T4,b9⟩:∃ n,H.length=n:=⟨_,rfl⟩
 obtain⟨T5,c0⟩:∃ n,E8.length=n:=⟨_,rfl⟩
 have r0:=Zh b9;have r1:=Zh c0
 rw [b9] at r2 ⊢
 rw [c0] at r3 ⊢
 clear E4 F v5 d8 C5 b9 c0
 obtain⟨g2,H7⟩:∃ g2,A1.heap.size=g2:=⟨_,rfl⟩
 have r8:=Zh H7
 clear H7
 go_wp2
 refine wp_loop (fun a W=>∃(f:Nat) (v:Value) (A0:List Value),f<=8/\a.defers=[]/\(a.tmps.size=295/\a.tmps.getD 0 undef=.slice A2 z2 p7/\a.tmps.getD 7 undef=.slice d1 f1 d0/\a.tmps.getD 8 undef=.slice d3 f2 d2/\a.tmps.getD 9 undef=.slice M1 8 f0/\a.tmps.getD 10 undef=.slice U0 T4 z8/\a.tmps.getD 11 undef=.int .i64 l6/\a.tmps.getD 12 undef=.slice U1 T5 z9/\a.tmps.getD 13 undef=.int .i64 l6/\a.tmps.getD 14 undef=v/\a.tmps.getD 15 undef=.int .i64 (Qw (i0.take f))/\a.tmps.getD 52 undef=.slice M1 8 f0/\a.tmps.getD 53 undef=.int .i64 8/\a.tmps.getD 54 undef=.int .i64 f)/\W.ownsRow g2 23 1 v f A0/\Gz Q2r W v/\Y1 W A0 (i9.take f)/\Ext A1 W)
  (fun a _=>8 - (intOf (a.tmps.getD 54 undef)).toNat) ?_ ?_
 ·exact⟨0,_,[],by omega,rfl,⟨rfl,rfl,rfl,rfl,rfl,rfl,rfl,rfl,rfl,rfl,rfl,rfl,rfl,rfl⟩,World.ownsRow_nil _ _ _ _,Gz.nil _,by rw [List.take_zero];trivial,Qa.refl _ _⟩
 rintro⟨f4,_⟩ W ⟨f,v,A0,J9,e8,⟨N,X,a1,a2,a3,Y,t3,Z,t7,a0,t8,u5,u6,u7⟩,w1,J,H3,y⟩
 subst e8
 obtain⟨f5,O⟩:=Qq N
 obtain⟨c,rfl⟩:∃ x,x=f5:=⟨_,rfl⟩
 have e9:f4=#[c 0,c 1,c 2,c 3,c 4,c 5,c 6,c 7,c 8,c 9,c 10,c 11,c 12,c 13,c 14,c 15,c 16,c 17,c 18,c 19,c 20,c 21,c 22,c 23,c 24,c 25,c 26,c 27,c 28,c 29,c 30,c 31,c 32,c 33,c 34,c 35,c 36,c 37,c 38,c 39,c 40,c 41,c 42,c 43,c 44,c 45,c 46,c 47,c 48,c 49,c 50,c 51,c 52,c 53,c 54,c 55,c 56,c 57,c 58,c 59,c 60,c 61,c 62,c 63,c 64,c 65,c 66,c 67,c 68,c 69,c 70,c 71,c 72,c 73,c 74,c 75,c 76,c 77,c 78,c 79,c 80,c 81,c 82,c 83,c 84,c 85,c 86,c 87,c 88,c 89,c 90,c 91,c 92,c 93,c 94,c 95,c 96,c 97,c 98,c 99,c 100,c 101,c 102,c 103,c 104,c 105,c 106,c 107,c 108,c 109,c 110,c 111,c 112,c 113,c 114,c 115,c 116,c 117,c 118,c 119,c 120,c 121,c 122,c 123,c 124,c 125,c 126,c 127,c 128,c 129,c 130,c 131,c 132,c 133,c 134,c 135,c 136,c 137,c 138,c 139,c 140,c 141,c 142,c 143,c 144,c 145,c 146,c 147,c 148,c 149,c 150,c 151,c 152,c 153,c 154,c 155,c 156,c 157,c 158,c 159,c 160,c 161,c 162,c 163,c 164,c 165,c 166,c 167,c 168,c 169,c 170,c 171,c 172,c 173,c 174,c 175,c 176,c 177,c 178,c 179,c 180,c 181,c 182,c 183,c 184,c 185,c 186,c 187,c 188,c 189,c 190,c 191,c 192,c 193,c 194,c 195,c 196,c 197,c 198,c 199,c 200,c 201,c 202,c 203,c 204,c 205,c 206,c 207,c 208,c 209,c 210,c 211,c 212,c 213,c 214,c 215,c 216,c 217,c 218,c 219,c 220,c 221,c 222,c 223,c 224,c 225,c 226,c 227,c 228,c 229,c 230,c 231,c 232,c 233,c 234,c 235,c 236,c 237,c 238,c 239,c 240,c 241,c 242,c 243,c 244,c 245,c 246,c 247,c 248,c 249,c 250,c 251,c 252,c 253,c 254,c 255,c 256,c 257,c 258,c 259,c 260,c 261,c 262,c 263,c 264,c 265,c 266,c 267,c 268,c 269,c 270,c 271,c 272,c 273,c 274,c 275,c 276,c 277,c 278,c 279,c 280,c 281,c 282,c 283,c 284,c 285,c 286,c 287,c 288,c 289,c 290,c 291,c 292,c 293,c 294]:=O
 clear O
 subst e9
 change c 0=_ at X
 change c 7=_ at a1
 change c 8=_ at a2
 change c 9=_ at a3
 change c 10=_ at Y
 change c 11=_ at t3
 change c 12=_ at Z
 change c 13=_ at t7
 change c 14=_ at a0
 change c 15=_ at t8
 change c 52=_ at u5
 change c 53=_ at u6
 change c 54=_ at u7
 rw [X,a1,a2,a3,Y,t3,Z,t7,a0,t8,u5,u6,u7]
 clear X a1 a2 a3 Y t3 Z t7 a0 t8 u5 u6 u7 N
 obtain⟨X3,M9,rfl⟩:=Zg w1
 have i6:=Zh w1;have q7:=Zh J;have m5:=Zh H3;have o:=Zh y
 clear w1 J H3 y
 by_cases g7:f<8
 case pos=>
  have V:(f:Int)<8:=by omega
  have R4:(0:Int)<=(f:Int):=by omega
  have o3:f<(Qz 8 0).length:=by rw [Y4];exact g7
  have K0:f<i0.length:=by rw [q9.out];exact g7
  have K1:f<i9.length:=by rw [b6.out];exact g7
  have I1:=(q6.out.ext o.out).at o3
  rw [Y4] at I1
  obtain⟨W0,T6,V6,q,S5,L,a5⟩:=I1
  simp only [Value.slice.injEq,true_and] at q
  obtain⟨rfl,rfl⟩:=q
  have J8:=Tp g7
  rw [J8] at L a5
  have a6:=Q82 K0
  have o8:i9.take (f+1)=i9.take f++[i9[f]]:=List.take_succ_eq_append_getElem K1
  have M:=C8.out f g7
  have x3:=C9.out f g7
  rw [List.getElem?_eq_getElem K0,Option.some.injEq] at M
  rw [List.getElem?_eq_getElem K1,Option.some.injEq] at x3
  rw [M] at a6
  rw [x3] at o8
  have j5:=fun(k:World) (z:Ext W k)=>q0.out k (d7.out.trans (o.out.trans z)) (Zc 0 f) (Nv 0 f)
  obtain⟨d6,v1⟩:∃ E,Wm (D.map (·.1)) r s (Zc 0 f)=E:=⟨_,rfl⟩
  obtain⟨N4,v2⟩:∃ E,Dn (D.map (·.1)) r s (Zc 0 f)=E:=⟨_,rfl⟩
  simp only [v1,v2] at j5
  rw [v1] at a6
  rw [v2] at o8
  obtain⟨⟨l0,l1⟩,a7⟩:∃ c9,Zc 0 f=c9:=⟨_,rfl⟩
  rw [a7] at L a5
  simp only [a7] at j5
  dsimp only at L a5
  unfold sV at j5
  obtain⟨l5,M0⟩:∃ E,Qw (i0.take f)=E:=⟨_,rfl⟩
  rw [M0] at a6 ⊢
  obtain⟨l4,y7⟩:∃ E,Qw (i0.take (f+1))=E:=⟨_,rfl⟩
  rw [y7] at a6
  have i2:=Zh j5;have P1:=Zh o8;have P5:=Zh y7
  clear J8 S5 o8 j5 v1 v2 a7 M0 y7 M x3
  obtain⟨d5,F6⟩:∃ d5,W.heap.size=d5:=⟨_,rfl⟩
  have o7:(W.alloc (.cells #[.int .u32 l0,.int .u32 l1] 26)).heap[d5]?=some (.cells #[.int .u32 l0,.int .u32 l1] 26 (0,0)):=new_at F6.symm
  have b0:Ext W (W.alloc (.cells #[.int .u32 l0,.int .u32 l1] 26)):=(Qa.refl _ W).alloc _
  go_upto_region 10 with (fail)
  generalize (W.alloc (.cells #[.int .u32 l0,.int .u32 l1] 26))=i8 at o7 b0 ⊢
  have R1:i8.cell? ⟨d5,0,none⟩=some (.int .u32 l0):=by rw [cell_of_row i8 d5 0 _ _ _ o7];rfl
  have R2:i8.cell? ⟨d5,1,none⟩=some (.int .u32 l1):=by rw [cell_of_row i8 d5 1 _ _ _ o7];rfl
  have q2:=Zh b0
  clear o7 b0 F6 L a5
  go_wp2_with fail
  refine(i2.out i8 q2.out).mono ?_
  rintro e g9 ⟨c,rfl,b2,j7⟩
  obtain⟨Q,P,rfl,_⟩:=Kh b2
  have g4:=q2.out.trans j7
  have w2:=Qe i6.out g4
  have G0:=q7.out.keep i6.out g4 (fun _ _ h=>h)
  have H4:=m5.out.ext g4
  have W1:g2<=g9.heap.size:=by have:=o.out.size;have:=g4.size;have:=r8.out;omega
  obtain⟨n0,J6⟩:∃ d,N4.length=d:=⟨_,rfl⟩
  rw [J6] at b2 ⊢
  obtain⟨m8,G9⟩:∃ A,g9.alloc (.cells #[.slice Q n0 P] 23)=A:=⟨_,rfl⟩
  have e1:Ext g9 m8:=by rw [<-G9];exact(Qa.refl _ g9).alloc _
  have G4:=Qe w2 e1
  have G1:=G0.keep w2 e1 (fun _ _ h=>h)
  have m1:=Zh G4;have q8:=Zh G1;have f9:=Zh (H4.ext e1);have D7:=Zh (b2.ext e1);have C6:=Zh (o.out.trans (g4.trans e1))
  have K9:∀ j c,[Value.slice Q n0 P][j]?=some c->m8.cell? ((⟨g9.heap.size,0,none⟩:Addr).add j)=some c:=by rw [<-G9];exact Zf rfl
  have D6:=Zh K9
  have R7:g2<=m8.heap.size:=by have:=e1.size;omega
  obtain⟨A5,R5⟩:∃ a9,g9.heap.size=a9:=⟨_,rfl⟩
  have O7:Hid (∀ j c,[Value.slice Q n0 P][j]?=some c->m8.cell? ((⟨A5,0,none⟩:Addr).add j)=some c):=Zh (by rw [<-R5];exact D6.out)
  have R9:(d6=0/\l4=l5)\/(d6≠0/\l5=0/\l4=d6)\/(d6≠0/\l5≠0/\l4=l5):=by
   by_cases b3:l5=0
   ·rw [if_pos b3] at a6
    by_cases g5:d6=0
    ·exact .inl ⟨g5,by rw [a6,g5,b3]⟩
    ·exact .inr (.inl ⟨g5,b3,a6⟩)
   ·rw [if_neg b3] at a6
    by_cases g5:d6=0
    ·exact .inl ⟨g5,a6⟩
    ·exact .inr (.inr ⟨g5,b3,a6⟩)
  clear w2 G0 H4 G4 G1 e1 K9 D6 i6 q7 m5 o q2 j7 g4 b2 J6 a6 i2 R1 R2
  rcases R9 with ⟨rfl,rfl⟩ | ⟨o6,rfl,rfl⟩ | ⟨o6,L1,rfl⟩
  case' inr.inl=>have R8:(l4 != 0)=true:=by simpa using o6
  case' inr.inr=>have R8:(d6 != 0)=true:=by simpa using o6
  case' inr.inr=>have W2:(l4 == 0)=false:=by simpa using L1
  all_goals (try clear o6)
  all_goals (try clear L1)
  all_goals go_wp2_with (at_builtin;refine Q9d (K:=Q2r) rfl (.tmp 73) (.tmp 75) 74 rfl g2 23 _ 1 24 Tryz.underlying74 Qj0 rfl (by decide) _ _ _ rfl m1.out ⟨A5,0,none⟩ 1 1 [.slice Q n0 P] rfl rfl O7.out (by intro c O;simp at O;subst O;rfl) (by unfold maxLen;omega) (by omega) R7 (by intro x c7;simp [Value.cells] at c7;subst c7;exact⟨_,_,_,rfl⟩) (by intro x c7;simp at c7;subst c7;exact⟨_,_,_,rfl⟩) q8.out ?_)
  all_goals intro X5 X4 Q6 G5 w4 G2
  all_goals have w5:=Y1.row q8.out m1.out w4 (f9.out.snoc D7.out)
  all_goals rw [<-P1.out] at w5
  all_goals have j7:Ext A1 Q6:=C6.out.after w4 (fun b k3 e=>by have:=(m1.out.lt _ e).1;have:=r8.out;omega)
  all_goals have O8:=Zh G5
  all_goals have O4:=Zh G2
  all_goals have P4:=Zh w5
  all_goals have O2:=Zh j7
  all_goals clear G5 w4 G2 w5 j7 m1 q8 f9 D7 C6
  all_goals go_wp2
  all_goals exact⟨⟨f+1,_,_,by omega,by first | trivial | rfl,⟨rfl,rfl,rfl,rfl,rfl,rfl,rfl,rfl,rfl,rfl,by rw [P5.out];rfl,rfl,rfl,rfl⟩,O8.out,O4.out,P4.out,O2.out⟩,by simp [intOf];omega⟩
 obtain rfl:f=8:=by omega
 have V:¬ ((8:Nat):Int)<8:=by decide
 have J7:Qw (i0.take 8)=l6:=by rw [List.take_of_length_le (by rw [q9.out];exact Nat.le_refl _)];exact s1.out
 rw [J7]
 have b3:=m5.out
 rw [List.take_of_length_le (by rw [b6.out];exact Nat.le_refl _)] at b3
 have f9:=Zh b3
 clear b3 m5 J7
 have d8:=Zh (r2.out.ext o.out);have m2:=Zh (r3.out.ext o.out);have i4:=Zh (i3.out.trans (d7.out.trans o.out))
 have m6:=Zh (Rd.of_own i6.out)
 have l9:=Zh (q6.out.ext o.out)
 clear r2 r3 i6 q7
 rcases s0.out with y8 | y8
 case inr=>
  subst y8
  obtain⟨b4,c8⟩:=s3.out rfl
  subst b4 c8
  have b9:=r0.out
  have c0:=r1.out
  simp only [List.length_nil] at b9 c0
  subst b9 c0
  clear d8 m2 m6 f9 s0 s1 s2 s3 r6 l9
  go_wp2_with fail
  refine(E3.out W i4.out).mono ?_
  rintro e U6 ⟨rfl,j9⟩
  have r9:=Zh (i4.out.trans j9)
  clear j9 i4
  go_wp2
  go_ret
  exact⟨rfl,r9.out⟩
 subst y8
 have P8:=O3
 have b4:=s2.out rfl
 have O9:Hid (H=lbW (D.map (·.1)) r s):=Zh (b4.trans P6.out.symm)
 have c8:=r6.out rfl
 subst b4 c8
 have b9:=r0.out
 rw [b6.out] at b9
 have c0:=r1.out
 have c6:(Uu H (Zm r s (Qz 8 0))).length=8:=by unfold Uu;rw [List.length_map,b6.out]
 rw [c6] at c0
 subst b9 c0
 have y1:=Qlu (a:=r) (b:=s) b6.out
 have D8:=Zh c6
 clear c6
 obtain⟨u8,z4,V2,q,_,_⟩:=Zb d8.out (show 0<8 by decide)
 simp only [Value.slice.injEq,true_and] at q
 obtain⟨rfl,rfl⟩:=q
 obtain⟨n1,p0,V3,q,_,_⟩:=Zb m2.out (show 0<8 by decide)
 simp only [Value.slice.injEq,true_and] at q
 obtain⟨rfl,rfl⟩:=q
 obtain⟨n2,p1,V4,q,_,_⟩:=Zb m6.out (show 0<8 by decide)
 simp only [Value.slice.injEq,true_and] at q
 obtain⟨rfl,rfl⟩:=q
 obtain⟨e5,f3,V5,q,_,_,_⟩:=l9.out.at (show 0<(Qz 8 0).length by rw [Y4];decide)
 simp only [Value.slice.injEq] at q
 obtain⟨rfl,q,rfl⟩:=q
 clear q
 have v9:∀ i,i<8->W.cell? ⟨u8,z4+i,none⟩=some (.int .i64 (Zi H i:Nat)):=fun i B=>by
  obtain⟨a9,z3,s7,q,_,e7⟩:=Zb d8.out B
  simp only [Value.slice.injEq,Option.some.injEq,Addr.mk.injEq,and_true,true_and] at q
  obtain⟨⟨rfl,rfl⟩,rfl⟩:=q
  rw [Qdn H (by rw [b6.out];exact B)] at e7
  exact e7
 have G6:∀ i,i<8->W.cell? ⟨n1,p0+i,none⟩=some (.int .i64 ((Uu H (Zm r s (Qz 8 0))).getD i 0)):=fun i B=>by
  obtain⟨a9,z3,s7,q,_,e7⟩:=Zb m2.out B
  simp only [Value.slice.injEq,Option.some.injEq,Addr.mk.injEq,and_true,true_and] at q
  obtain⟨⟨rfl,rfl⟩,rfl⟩:=q
  have K3:i<(Uu H (Zm r s (Qz 8 0))).length:=by rw [D8.out];exact B
  rw [Yo _ K3] at e7
  rw [e7,List.getD_eq_getElem?_getD,List.getElem?_eq_getElem K3];rfl
 have H5:∀ i,i<8->∃ Q P,W.cell? ⟨n2,p1+i,none⟩=some (.slice Q (H.getD i []).length P)/\Qd W (.slice Q (H.getD i []).length P) (H.getD i []):=fun i B=>by
  obtain⟨a9,z3,s7,q,_,e7⟩:=Zb m6.out B
  simp only [Value.slice.injEq,Option.some.injEq,Addr.mk.injEq,and_true,true_and] at q
  obtain⟨⟨rfl,rfl⟩,rfl⟩:=q
  obtain⟨Q,P,V,u9⟩:=Q3y f9.out (show i<H.length by rw [b6.out];exact B)
  exact⟨Q,P,by rw [e7,V],u9⟩
 have F9:∀ i,i<8->W.cell? ⟨e5,f3+i*2,none⟩=some (.int .u32 ((Zc 0 i).1:Int))/\W.cell? ⟨e5,f3+i*2+1,none⟩=some (.int .u32 ((Zc 0 i).2:Int)):=fun i B=>by
  obtain⟨a9,z3,s7,q,_,L,a5⟩:=l9.out.at (show i<(Qz 8 0).length by rw [Y4];exact B)
  simp only [Value.slice.injEq,Option.some.injEq,Addr.mk.injEq,and_true] at q
  obtain⟨⟨rfl,rfl⟩,_,rfl⟩:=q
  rw [Tp B] at L a5
  exact⟨L,a5⟩
 have N:=(Q8n b6.out)
 obtain⟨g0,w0⟩:∃ g0,Zi H=g0:=⟨_,rfl⟩
 obtain⟨S,w3⟩:∃ S,(fun i=>(Uu H (Zm r s (Qz 8 0))).getD i 0)=S:=⟨_,rfl⟩
 obtain⟨k,z⟩:∃ k,(fun i=>H.getD i [])=k:=⟨_,rfl⟩
 rw [w0,w3,z] at y1
 have J1:∀ i,i<8->Jr (D.map (·.1)) [(r,s)] (Zc 0 i)=0/\We (D.map (·.1)) [(r,s)] (Zc 0 i)=[!decide (Qp r s (Zc 0 i)=k i)]:=fun i B=>by rw [<-z];exact Qjy O6.out E0.out E1.out P8.out O9.out B
 have O0:=Zh J1
 clear J1
 have G7:∀ i,i<8->W.cell? ⟨n1,p0+i,none⟩=some (.int .i64 (S i)):=fun i B=>by rw [<-w3];exact G6 i B
 have H6:∀ i,i<8->∃ Q P,W.cell? ⟨n2,p1+i,none⟩=some (.slice Q (k i).length P)/\Qd W (.slice Q (k i).length P) (k i):=fun i B=>by rw [<-z];exact H5 i B
 rw [w0] at v9
 have i7:=Zh y1;have m0:=Zh v9;have r5:=Zh G7;have r7:=Zh H6;have D0:=Zh F9;have P0:=Zh N
 have B1:=Zh (c2.out.ext (d7.out.trans o.out));have B6:=Zh (i1.out.ext (d7.out.trans o.out));have O5:=Zh (c3.out.ext (d7.out.trans o.out))
 clear y1 s0 s1 s2 s3 r6 r0 r1 C8 C9 q9 D8 V v9 G6 G7 H5 H6 F9 N w0 w3 z m2 m6 f9 l9 c2 i1 l8 c3 q0 q6 d7 o r8 i3
 go_wp2
 refine wp_loop (fun a A=>∃(i:Nat),i<=8/\a.defers=[]/\(a.tmps.size=295/\a.tmps.getD 0 undef=.slice A2 z2 p7/\a.tmps.getD 7 undef=.slice d1 f1 d0/\a.tmps.getD 8 undef=.slice d3 f2 d2/\a.tmps.getD 9 undef=.slice (some ⟨e5,f3,none⟩) 8 f0/\a.tmps.getD 10 undef=.slice (some ⟨u8,z4,none⟩) 8 z8/\a.tmps.getD 12 undef=.slice (some ⟨n1,p0,none⟩) 8 z9/\a.tmps.getD 14 undef=.slice (some ⟨n2,p1,none⟩) 8 M9/\a.tmps.getD 113 undef=.slice (some ⟨e5,f3,none⟩) 8 f0/\a.tmps.getD 114 undef=.int .i64 8/\a.tmps.getD 115 undef=.int .i64 i)/\Ext W A)
  (fun a _=>8 - (intOf (a.tmps.getD 115 undef)).toNat) ?_ ?_
 ·exact⟨0,by omega,rfl,⟨rfl,rfl,rfl,rfl,rfl,rfl,rfl,rfl,rfl,rfl,rfl⟩,Qa.refl _ _⟩
 rintro⟨f4,_⟩ A ⟨i,B,e8,⟨N,X,a1,a2,a3,Y,Z,a0,e2,e3,e4⟩,y⟩
 subst e8
 obtain⟨f5,O⟩:=Qq N
 obtain⟨c,rfl⟩:∃ x,x=f5:=⟨_,rfl⟩
 have e9:f4=#[c 0,c 1,c 2,c 3,c 4,c 5,c 6,c 7,c 8,c 9,c 10,c 11,c 12,c 13,c 14,c 15,c 16,c 17,c 18,c 19,c 20,c 21,c 22,c 23,c 24,c 25,c 26,c 27,c 28,c 29,c 30,c 31,c 32,c 33,c 34,c 35,c 36,c 37,c 38,c 39,c 40,c 41,c 42,c 43,c 44,c 45,c 46,c 47,c 48,c 49,c 50,c 51,c 52,c 53,c 54,c 55,c 56,c 57,c 58,c 59,c 60,c 61,c 62,c 63,c 64,c 65,c 66,c 67,c 68,c 69,c 70,c 71,c 72,c 73,c 74,c 75,c 76,c 77,c 78,c 79,c 80,c 81,c 82,c 83,c 84,c 85,c 86,c 87,c 88,c 89,c 90,c 91,c 92,c 93,c 94,c 95,c 96,c 97,c 98,c 99,c 100,c 101,c 102,c 103,c 104,c 105,c 106,c 107,c 108,c 109,c 110,c 111,c 112,c 113,c 114,c 115,c 116,c 117,c 118,c 119,c 120,c 121,c 122,c 123,c 124,c 125,c 126,c 127,c 128,c 129,c 130,c 131,c 132,c 133,c 134,c 135,c 136,c 137,c 138,c 139,c 140,c 141,c 142,c 143,c 144,c 145,c 146,c 147,c 148,c 149,c 150,c 151,c 152,c 153,c 154,c 155,c 156,c 157,c 158,c 159,c 160,c 161,c 162,c 163,c 164,c 165,c 166,c 167,c 168,c 169,c 170,c 171,c 172,c 173,c 174,c 175,c 176,c 177,c 178,c 179,c 180,c 181,c 182,c 183,c 184,c 185,c 186,c 187,c 188,c 189,c 190,c 191,c 192,c 193,c 194,c 195,c 196,c 197,c 198,c 199,c 200,c 201,c 202,c 203,c 204,c 205,c 206,c 207,c 208,c 209,c 210,c 211,c 212,c 213,c 214,c 215,c 216,c 217,c 218,c 219,c 220,c 221,c 222,c 223,c 224,c 225,c 226,c 227,c 228,c 229,c 230,c 231,c 232,c 233,c 234,c 235,c 236,c 237,c 238,c 239,c 240,c 241,c 242,c 243,c 244,c 245,c 246,c 247,c 248,c 249,c 250,c 251,c 252,c 253,c 254,c 255,c 256,c 257,c 258,c 259,c 260,c 261,c 262,c 263,c 264,c 265,c 266,c 267,c 268,c 269,c 270,c 271,c 272,c 273,c 274,c 275,c 276,c 277,c 278,c 279,c 280,c 281,c 282,c 283,c 284,c 285,c 286,c 287,c 288,c 289,c 290,c 291,c 292,c 293,c 294]:=O
 clear O
 subst e9
 change c 0=_ at X
 change c 7=_ at a1
 change c 8=_ at a2
 change c 9=_ at a3
 change c 10=_ at Y
 change c 12=_ at Z
 change c 14=_ at a0
 change c 113=_ at e2
 change c 114=_ at e3
 change c 115=_ at e4
 rw [X,a1,a2,a3,Y,Z,a0,e2,e3,e4]
 clear X a1 a2 a3 Y Z a0 e2 e3 e4 N
 have o:=Zh y
 clear y
 by_cases T:i<8
 case neg=>
  obtain rfl:i=8:=by omega
  have V:¬ ((8:Nat):Int)<8:=by decide
  have y2:=d8.out.ext o.out
  rw [<-Qa6] at y2
  have c6:=Qfj y2 (by rw [List.length_map];unfold Xp;rw [List.length_map,List.length_range,b6.out])
  obtain⟨d4,c1⟩:=P0.out
  rw [d4] at c6
  obtain⟨d9,G8⟩:∃ l,Ft ((Xp H).map fun(x:Nat)=>(x:Int))=l:=⟨_,rfl⟩
  rw [G8] at c6 c1
  have i2:=Zh c6;have m3:=Zh c1;have C7:=Zh (i4.out.trans o.out)
  clear y2 c6 d4 c1 G8 o
  go_wp2_with fail
  refine i2.out.mono ?_
  rintro e g1 ⟨c,rfl,F,F8⟩
  obtain⟨Q,P,rfl⟩:=Zg F
  have r4:=Zh (Rd.of_own F);have f6:=Zh (C7.out.trans F8)
  have L0:=(Rd.of_own F).2.1
  unfold maxLen at L0
  obtain⟨n,y0⟩:∃ n,d9.length=n:=⟨_,rfl⟩
  have D3:=Zh y0
  rw [y0] at r4 L0 ⊢
  clear i2 F F8 C7 y0
  go_wp2
  clear V
  refine wp_loop (fun a A=>∃(f:Nat),f<=n/\a.defers=[]/\(a.tmps.size=295/\a.tmps.getD 25 undef=.int .i64 0/\a.tmps.getD 26 undef=.int .i64 ((d9.take f).sum:Nat)/\a.tmps.getD 276 undef=.slice Q n P/\a.tmps.getD 277 undef=.int .i64 n/\a.tmps.getD 278 undef=.int .i64 f)/\A=g1)
   (fun a _=>n - (intOf (a.tmps.getD 278 undef)).toNat) ?_ ?_
  ·exact⟨0,by omega,rfl,⟨rfl,rfl,rfl,rfl,rfl,rfl⟩,rfl⟩
  rintro⟨f4,_⟩ Q5 ⟨f,J9,e8,⟨N,u0,u1,u2,u3,u4⟩,R6⟩
  subst e8
  obtain⟨f5,O⟩:=Qq N
  obtain⟨c,rfl⟩:∃ x,x=f5:=⟨_,rfl⟩
  have e9:f4=#[c 0,c 1,c 2,c 3,c 4,c 5,c 6,c 7,c 8,c 9,c 10,c 11,c 12,c 13,c 14,c 15,c 16,c 17,c 18,c 19,c 20,c 21,c 22,c 23,c 24,c 25,c 26,c 27,c 28,c 29,c 30,c 31,c 32,c 33,c 34,c 35,c 36,c 37,c 38,c 39,c 40,c 41,c 42,c 43,c 44,c 45,c 46,c 47,c 48,c 49,c 50,c 51,c 52,c 53,c 54,c 55,c 56,c 57,c 58,c 59,c 60,c 61,c 62,c 63,c 64,c 65,c 66,c 67,c 68,c 69,c 70,c 71,c 72,c 73,c 74,c 75,c 76,c 77,c 78,c 79,c 80,c 81,c 82,c 83,c 84,c 85,c 86,c 87,c 88,c 89,c 90,c 91,c 92,c 93,c 94,c 95,c 96,c 97,c 98,c 99,c 100,c 101,c 102,c 103,c 104,c 105,c 106,c 107,c 108,c 109,c 110,c 111,c 112,c 113,c 114,c 115,c 116,c 117,c 118,c 119,c 120,c 121,c 122,c 123,c 124,c 125,c 126,c 127,c 128,c 129,c 130,c 131,c 132,c 133,c 134,c 135,c 136,c 137,c 138,c 139,c 140,c 141,c 142,c 143,c 144,c 145,c 146,c 147,c 148,c 149,c 150,c 151,c 152,c 153,c 154,c 155,c 156,c 157,c 158,c 159,c 160,c 161,c 162,c 163,c 164,c 165,c 166,c 167,c 168,c 169,c 170,c 171,c 172,c 173,c 174,c 175,c 176,c 177,c 178,c 179,c 180,c 181,c 182,c 183,c 184,c 185,c 186,c 187,c 188,c 189,c 190,c 191,c 192,c 193,c 194,c 195,c 196,c 197,c 198,c 199,c 200,c 201,c 202,c 203,c 204,c 205,c 206,c 207,c 208,c 209,c 210,c 211,c 212,c 213,c 214,c 215,c 216,c 217,c 218,c 219,c 220,c 221,c 222,c 223,c 224,c 225,c 226,c 227,c 228,c 229,c 230,c 231,c 232,c 233,c 234,c 235,c 236,c 237,c 238,c 239,c 240,c 241,c 242,c 243,c 244,c 245,c 246,c 247,c 248,c 249,c 250,c 251,c 252,c 253,c 254,c 255,c 256,c 257,c 258,c 259,c 260,c 261,c 262,c 263,c 264,c 265,c 266,c 267,c 268,c 269,c 270,c 271,c 272,c 273,c 274,c 275,c 276,c 277,c 278,c 279,c 280,c 281,c 282,c 283,c 284,c 285,c 286,c 287,c 288,c 289,c 290,c 291,c 292,c 293,c 294]:=O
  clear O
  subst e9
  change c 25=_ at u0
  change c 26=_ at u1
  change c 276=_ at u2
  change c 277=_ at u3
  change c 278=_ at u4
  rw [u0,u1,u2,u3,u4]
  clear u0 u1 u2 u3 u4 N
  subst R6
  by_cases K2:f<n
  ·have V:(f:Int)<(n:Int):=by omega
   have u9:(0:Int)<=(f:Int):=by omega
   have o3:f<d9.length:=by rw [D3.out];exact K2
   obtain⟨a9,T6,V1,q,_,J2⟩:=Zb r4.out K2
   simp only [Value.slice.injEq,true_and] at q
   obtain⟨rfl,rfl⟩:=q
   rw [Q97 d9 o3] at J2
   obtain⟨b4,c8⟩:=Qcn o3
   obtain⟨x,c7⟩:∃ x,d9[f]=x:=⟨_,rfl⟩
   rw [c7] at J2 b4 c8
   rw [m3.out] at c8
   obtain⟨p6,k9⟩:∃ p6,(d9.take f).sum=p6:=⟨_,rfl⟩
   rw [k9] at b4 c8 ⊢
   have b3:IntKind.i64.wrap ((p6:Int)+(x:Int))=((p6+x:Nat):Int):=by rw [IntWalk.i64_in _ (by omega)];omega
   have Q2:=Zh b4
   clear b4 c8 c7 k9
   go_wp2
   exact⟨⟨f+1,by omega,by first | rfl | trivial,⟨rfl,rfl,by rw [Q2.out];rfl,rfl,rfl,rfl⟩,by first | rfl | trivial⟩,by simp [intOf];omega⟩
  ·obtain rfl:f=n:=by omega
   have V:¬ (f:Int)<(f:Int):=by omega
   have a7:(d9.take f).sum=8:=by rw [List.take_of_length_le (by rw [D3.out];exact Nat.le_refl _)];exact m3.out
   rw [a7]
   clear a7 r4
   go_wp2_with fail
   refine(E3.out Q5 f6.out).mono ?_
   rintro e U6 ⟨rfl,j9⟩
   have r9:=Zh (f6.out.trans j9)
   clear j9 f6
   go_wp2
   go_ret
   exact⟨rfl,r9.out⟩
 have V:(i:Int)<8:=by omega
 have R4:(0:Int)<=(i:Int):=by omega
 go_wp2
 clear V
 refine wp_loop (fun a A=>∃(f:Nat),f<=8/\a.defers=[]/\(a.tmps.size=295/\a.tmps.getD 0 undef=.slice A2 z2 p7/\a.tmps.getD 7 undef=.slice d1 f1 d0/\a.tmps.getD 8 undef=.slice d3 f2 d2/\a.tmps.getD 9 undef=.slice (some ⟨e5,f3,none⟩) 8 f0/\a.tmps.getD 10 undef=.slice (some ⟨u8,z4,none⟩) 8 z8/\a.tmps.getD 12 undef=.slice (some ⟨n1,p0,none⟩) 8 z9/\a.tmps.getD 14 undef=.slice (some ⟨n2,p1,none⟩) 8 M9/\a.tmps.getD 20 undef=.int .i64 i/\a.tmps.getD 113 undef=.slice (some ⟨e5,f3,none⟩) 8 f0/\a.tmps.getD 114 undef=.int .i64 8/\a.tmps.getD 115 undef=.int .i64 i/\a.tmps.getD 118 undef=.slice (some ⟨e5,f3,none⟩) 8 f0/\a.tmps.getD 119 undef=.int .i64 8/\a.tmps.getD 120 undef=.int .i64 f)/\Ext W A)
  (fun a _=>8 - (intOf (a.tmps.getD 120 undef)).toNat) ?_ ?_
 ·exact⟨0,by omega,rfl,⟨rfl,rfl,rfl,rfl,rfl,rfl,rfl,rfl,rfl,rfl,rfl,rfl,rfl,rfl,rfl⟩,o.out⟩
 clear o
 rintro⟨f4,_⟩ A ⟨f,J9,e8,⟨N,X,a1,a2,a3,Y,Z,a0,t9,e2,e3,e4,t4,t5,t6⟩,y⟩
 subst e8
 obtain⟨f5,O⟩:=Qq N
 obtain⟨c,rfl⟩:∃ x,x=f5:=⟨_,rfl⟩
 have e9:f4=#[c 0,c 1,c 2,c 3,c 4,c 5,c 6,c 7,c 8,c 9,c 10,c 11,c 12,c 13,c 14,c 15,c 16,c 17,c 18,c 19,c 20,c 21,c 22,c 23,c 24,c 25,c 26,c 27,c 28,c 29,c 30,c 31,c 32,c 33,c 34,c 35,c 36,c 37,c 38,c 39,c 40,c 41,c 42,c 43,c 44,c 45,c 46,c 47,c 48,c 49,c 50,c 51,c 52,c 53,c 54,c 55,c 56,c 57,c 58,c 59,c 60,c 61,c 62,c 63,c 64,c 65,c 66,c 67,c 68,c 69,c 70,c 71,c 72,c 73,c 74,c 75,c 76,c 77,c 78,c 79,c 80,c 81,c 82,c 83,c 84,c 85,c 86,c 87,c 88,c 89,c 90,c 91,c 92,c 93,c 94,c 95,c 96,c 97,c 98,c 99,c 100,c 101,c 102,c 103,c 104,c 105,c 106,c 107,c 108,c 109,c 110,c 111,c 112,c 113,c 114,c 115,c 116,c 117,c 118,c 119,c 120,c 121,c 122,c 123,c 124,c 125,c 126,c 127,c 128,c 129,c 130,c 131,c 132,c 133,c 134,c 135,c 136,c 137,c 138,c 139,c 140,c 141,c 142,c 143,c 144,c 145,c 146,c 147,c 148,c 149,c 150,c 151,c 152,c 153,c 154,c 155,c 156,c 157,c 158,c 159,c 160,c 161,c 162,c 163,c 164,c 165,c 166,c 167,c 168,c 169,c 170,c 171,c 172,c 173,c 174,c 175,c 176,c 177,c 178,c 179,c 180,c 181,c 182,c 183,c 184,c 185,c 186,c 187,c 188,c 189,c 190,c 191,c 192,c 193,c 194,c 195,c 196,c 197,c 198,c 199,c 200,c 201,c 202,c 203,c 204,c 205,c 206,c 207,c 208,c 209,c 210,c 211,c 212,c 213,c 214,c 215,c 216,c 217,c 218,c 219,c 220,c 221,c 222,c 223,c 224,c 225,c 226,c 227,c 228,c 229,c 230,c 231,c 232,c 233,c 234,c 235,c 236,c 237,c 238,c 239,c 240,c 241,c 242,c 243,c 244,c 245,c 246,c 247,c 248,c 249,c 250,c 251,c 252,c 253,c 254,c 255,c 256,c 257,c 258,c 259,c 260,c 261,c 262,c 263,c 264,c 265,c 266,c 267,c 268,c 269,c 270,c 271,c 272,c 273,c 274,c 275,c 276,c 277,c 278,c 279,c 280,c 281,c 282,c 283,c 284,c 285,c 286,c 287,c 288,c 289,c 290,c 291,c 292,c 293,c 294]:=O
 clear O
 subst e9
 change c 0=_ at X
 change c 7=_ at a1
 change c 8=_ at a2
 change c 9=_ at a3
 change c 10=_ at Y
 change c 12=_ at Z
 change c 14=_ at a0
 change c 20=_ at t9
 change c 113=_ at e2
 change c 114=_ at e3
 change c 115=_ at e4
 change c 118=_ at t4
 change c 119=_ at t5
 change c 120=_ at t6
 rw [X,a1,a2,a3,Y,Z,a0,t9,e2,e3,e4,t4,t5,t6]
 clear X a1 a2 a3 Y Z a0 t9 e2 e3 e4 t4 t5 t6 N
 have o:=Zh y
 clear y
 by_cases k6:f<8
 case pos=>
  have V:(f:Int)<8:=by omega
  have u9:(0:Int)<=(f:Int):=by omega
  have m9:=Qa.cell_some o.out (m0.out i T) id
  have j4:=Qa.cell_some o.out (m0.out f k6) id
  have I:=Qa.cell_some o.out (r5.out i T) id
  have R0:=Qa.cell_some o.out (r5.out f k6) id
  obtain⟨T8,T9,C,G⟩:=r7.out i T
  obtain⟨W8,X2,t1,L9⟩:=r7.out f k6
  have C:=Qa.cell_some o.out C id
  have t1:=Qa.cell_some o.out t1 id
  have w6:=fun(d:Nat)=>Qlh (G.ext (o.out.drewN d)) (L9.ext (o.out.drewN d))
  have o2:=i7.out.iff i f T k6
  have g8:=i7.out.same i f T k6
  obtain⟨U,k7⟩:∃ m,g0 i=m:=⟨_,rfl⟩
  obtain⟨T3,K7⟩:∃ m,g0 f=m:=⟨_,rfl⟩
  obtain⟨t,k8⟩:∃ m,S i=m:=⟨_,rfl⟩
  obtain⟨M8,L5⟩:∃ m,S f=m:=⟨_,rfl⟩
  obtain⟨a8,e6⟩:∃ b,decide (k i=k f)=b:=⟨_,rfl⟩
  obtain⟨R3,g6⟩:∃ b,(k i).length=b:=⟨_,rfl⟩
  obtain⟨V8,x0⟩:∃ b,(k f).length=b:=⟨_,rfl⟩
  simp only [e6,g6,x0] at w6
  rw [g6] at C
  rw [x0] at t1
  rw [k7] at m9 o2 g8
  rw [K7] at j4 o2 g8
  rw [k8] at I g8
  rw [L5] at R0 g8
  have k3:((U:Int) ==(T3:Int))=a8:=by rw [<-e6,Bool.eq_iff_iff,beq_iff_eq,decide_eq_true_iff];exact o2
  have W3:(a8 != a8)=false:=by cases a8 <;> rfl
  have q1:=Zh w6
  have m3:=Zh g8
  clear w6 o2 g8 k7 K7 k8 L5 e6 g6 x0 G L9
  by_cases b1:t<0
  ·have k4:decide (t>=0)=false:=by simpa using b1
   have k5:decide (0<=t)=false:=by simpa using b1
   clear b1
   go_wp2
   go_quiet ((go_at_call 21;exact Calls.quiet_of (q1.out _)))
   go_wp2
   exact⟨⟨f+1,by omega,by first | rfl | trivial,⟨rfl,rfl,rfl,rfl,rfl,rfl,rfl,rfl,rfl,rfl,rfl,rfl,rfl,rfl,rfl⟩,o.out.drewN _⟩,by simp [intOf];omega⟩
  have M:0<=t:=by omega
  have k4:decide (t>=0)=true:=by simpa using M
  have k5:decide (0<=t)=true:=by simpa using M
  by_cases o1:t=M8
  ·have S7:=m3.out M o1
   subst S7 o1
   have T0:a8=true:=by rw [<-k3];simp
   subst T0
   have w9:(t == t)=true:=by simp
   have J5:((U:Int) !=(U:Int))=false:=by simp
   clear M b1
   go_wp2
   go_quiet ((go_at_call 21;exact Calls.quiet_of (q1.out _)))
   go_wp2
   exact⟨⟨f+1,by omega,by first | rfl | trivial,⟨rfl,rfl,rfl,rfl,rfl,rfl,rfl,rfl,rfl,rfl,rfl,rfl,rfl,rfl,rfl⟩,o.out.drewN _⟩,by simp [intOf];omega⟩
  ·have w9:(t == M8)=false:=by simpa using o1
   clear M b1 o1
   go_wp2
   go_quiet ((go_at_call 21;exact Calls.quiet_of (q1.out _)))
   go_wp2
   exact⟨⟨f+1,by omega,by first | rfl | trivial,⟨rfl,rfl,rfl,rfl,rfl,rfl,rfl,rfl,rfl,rfl,rfl,rfl,rfl,rfl,rfl⟩,o.out.drewN _⟩,by simp [intOf];omega⟩
 obtain rfl:f=8:=by omega
 have V:¬ ((8:Nat):Int)<8:=by decide
 obtain⟨M3,M4,z5,z6⟩:=i7.out.lt i T
 have p2:=i7.out.own i T
 have p3:=i7.out.back i T
 have m9:=Qa.cell_some o.out (m0.out i T) id
 have j4:=Qa.cell_some o.out (m0.out (g0 i) (by omega)) id
 rw [M4] at j4
 have I:=Qa.cell_some o.out (r5.out i T) id
 obtain⟨T8,T9,C,G⟩:=r7.out i T
 obtain⟨R3,g6⟩:∃ d,(k i).length=d:=⟨_,rfl⟩
 rw [g6] at C G
 clear g6
 have C:=Qa.cell_some o.out C id
 have G:=G.ext o.out
 obtain⟨b7,b8⟩:=D0.out i T
 have b7:=Qa.cell_some o.out b7 id
 have b8:=Qa.cell_some o.out b8 id
 have y9:=Nv 0 i
 have w7:=O0.out i T
 obtain⟨U,k7⟩:∃ m,g0 i=m:=⟨_,rfl⟩
 obtain⟨t,k8⟩:∃ m,S i=m:=⟨_,rfl⟩
 rw [k7] at m9 j4 M3
 rw [k8] at I z5 z6 p2 p3
 have y3:0<=t->t.toNat<8:=fun h=>by omega
 have s8:=fun(h:0<=t)=>D0.out t.toNat (y3 h)
 have y4:=Nv 0 t.toNat
 obtain⟨⟨N1,N2⟩,k9⟩:∃ c9,Zc 0 i=c9:=⟨_,rfl⟩
 obtain⟨⟨d4,c1⟩,z0⟩:∃ c9,Zc 0 t.toNat=c9:=⟨_,rfl⟩
 rw [k9] at b7 b8 p2 w7 y9
 rw [z0] at p3 y4
 simp only [z0] at s8
 dsimp only at b7 b8
 have E7:Hid (Qm (d4,c1)):=Zh y4
 have P7:Hid (Qm (N1,N2)):=Zh y9
 have T1:(0:Int)<=(U:Int):=by omega
 have T2:(U:Int)<8:=by omega
 have k4:decide ((U:Int)<0)=false:=by simp
 have k5:decide ((U:Int) > (i:Int))=false:=by simp;omega
 have w9:((U:Int) !=(U:Int))=false:=by simp
 have J5:decide (t < -1)=false:=by simp;omega
 have S0:decide (t > 7)=false:=by simp;omega
 have S1:decide (7<t)=false:=by simp;omega
 have S2:decide ((i:Int)<(U:Int))=false:=by simp;omega
 have S3:decide (i<U)=false:=by simp;omega
 have S4:¬ i<U:=by omega
 have Q0:=Zh p2;have Q1:=Zh p3;have N3:=Zh s8;have U7:=Zh y3;have C1:=Zh w7;have U8:=Zh z5;have P9:=Zh z6
 clear M3 M4 z5 z6 p2 p3 s8 y3 w7 k7 k8 k9 z0 y4 y9
 go_wp2
 go_quiet (fail)
 clear k4 k5 w9 J5 S0 S1 S2 S3 S4 m9 j4 T1 T2
 have f7:=Zh (o.out.drewN nq)
 have a4:Ext A (A.drewN nq):=(Qa.refl _ A).drewN _
 have I:=a4.cell_some I id
 have C:=a4.cell_some C id
 have b7:=a4.cell_some b7 id
 have b8:=a4.cell_some b8 id
 have G:=G.ext a4
 obtain⟨g1,H0⟩:∃ k,A.drewN nq=k:=⟨_,rfl⟩
 rw [H0] at f7 I C b7 b8 G ⊢
 clear a4 H0 o
 have B2:=Zh (B1.out.ext f7.out);have B7:=Zh (B6.out.ext f7.out);have D2:=Zh (O5.out.ext f7.out)
 have L2:=Q0b (W:=g1) (p:=(r,s)) ⟨_,_,rfl,⟨d1,d0,by rw [D4.out],B2.out,N8.out⟩,⟨d3,d2,by rw [D5.out],B7.out,N9.out⟩⟩
 have R:Ext g1 (g1.alloc (.cells #[.slice d1 f1 d0,.slice d3 f2 d2] 63)):=(Qa.refl _ g1).alloc _
 have o0:=Rn (D2.out.ext R) i5.out L2 rfl P7.out (m4.out.keep (i4.out.trans (f7.out.trans R)) id)
 obtain⟨M6,M7⟩:=C1.out
 rw [List.map_cons,List.map_nil,M6,M7] at o0
 rw [List.length_singleton] at o0
 have F2:=R.cell_some I id
 have F3:=R.cell_some C id
 have L8:=G.ext R
 have Q8:=R.cell_some b7 id
 have Q9:=R.cell_some b8 id
 have C0:=Zh o0;have f6:=Zh (f7.out.trans R);have A3:=Zh F2;have A4:=Zh F3;have E2:=Zh L8
 clear L2 R o0 M6 M7 C1 I C G F2 F3 L8 B2 B7 D2
 go_wp2_with fail
 refine C0.out.mono ?_
 rintro e u ⟨V0,U9,rfl,F,j8⟩
 have L3:=Rd.of_own F
 obtain⟨V9,W6,V7,q,_,c5⟩:=Zb L3 (show 0<1 by decide)
 simp only [Value.slice.injEq,true_and] at q
 obtain⟨rfl,rfl⟩:=q
 rw [Tx _ (show 0<1 by decide)] at c5
 have b5:=Zh (f6.out.trans j8)
 have I:=j8.cell_some A3.out id
 have C:=j8.cell_some A4.out id
 have G:=E2.out.ext j8
 clear C0 F j8 L3 Q8 Q9 b7 b8 f6 A3 A4 E2
 simp only [List.getElem_cons_zero] at c5
 rw [Nat.add_zero] at c5
 obtain⟨a8,e6⟩:∃ b,decide (Qp r s (N1,N2)=k i)=b:=⟨_,rfl⟩
 rw [e6] at c5
 have S8:(t ==(i:Int))=a8:=by rw [<-e6,Bool.eq_iff_iff,beq_iff_eq,decide_eq_true_iff];exact Q0.out
 have S9:((!a8) == a8)=false:=by cases a8 <;> rfl
 clear e6
 go_wp2
 go_quiet (fail)
 have q5:=Zh (b5.out.drewN nq)
 have a4:Ext u (u.drewN nq):=(Qa.refl _ u).drewN _
 have I:=a4.cell_some I id
 have C:=a4.cell_some C id
 have G:=G.ext a4
 obtain⟨Q7,H2⟩:∃ k,u.drewN nq=k:=⟨_,rfl⟩
 rw [H2] at q5 I C G ⊢
 clear a4 H2 b5 c5 S8 S9
 obtain⟨u,H1⟩:∃ k,Q7=k:=⟨_,rfl⟩
 rw [H1] at q5 I C G ⊢
 clear H1
 have b5:=Zh q5.out
 have B3:Hid (Qd u (.slice d1 f1 d0) r):=Zh (by rw [<-D4.out];exact B1.out.ext b5.out)
 have B8:Hid (Qd u (.slice d3 f2 d2) s):=Zh (by rw [<-D5.out];exact B6.out.ext b5.out)
 have W4:(i:Int)<8:=by omega
 by_cases b1:t<0
 ·have k4:decide (t>=0)=false:=by simpa using b1
  have k5:decide (0<=t)=false:=by simpa using b1
  clear b1
  go_upto_region 35 with (fail)
  have g:Ext u u.drew:=(Qa.refl _ u).drew
  refine Z7 (S:=fun k=>Ext u k) [] (by kernel_rfl) g ?_
  intro _
  obtain⟨m7,k2⟩:∃ k,u.drew=k:=⟨_,rfl⟩
  rw [k2] at g ⊢
  clear k2
  refine tE 0 245 g ?_
  refine tE 1 246 g ?_
  refine tE 2 247 g ?_
  refine tkE (i:=3) (d:=248) (v:=?_) rfl (Or.inl ⟨by rfl,?_⟩) g ?_
  rotate_left
  ·intro k z;have p4:=(show Ext u k from z).cell_some I id;(try dsimp only at z);go_simp;try with_reducible rfl
  try simp only [Act.put,pq]
  refine tE 4 249 g ?_
  refine tE 5 250 g ?_
  refine tkE (i:=6) (d:=251) (v:=undef) rfl (Or.inr ⟨by rfl,rfl⟩) g ?_
  try simp only [Act.put,pq]
  refine tkE (i:=7) (d:=252) (v:=undef) rfl (Or.inr ⟨by rfl,rfl⟩) g ?_
  try simp only [Act.put,pq]
  refine tkE (i:=8) (d:=253) (v:=undef) rfl (Or.inr ⟨by rfl,rfl⟩) g ?_
  try simp only [Act.put,pq]
  refine tkE (i:=9) (d:=254) (v:=undef) rfl (Or.inr ⟨by rfl,rfl⟩) g ?_
  try simp only [Act.put,pq]
  refine tkE (i:=10) (d:=255) (v:=undef) rfl (Or.inr ⟨by rfl,rfl⟩) g ?_
  try simp only [Act.put,pq]
  refine tkE (i:=11) (d:=256) (v:=undef) rfl (Or.inr ⟨by rfl,rfl⟩) g ?_
  try simp only [Act.put,pq]
  refine tkE (i:=12) (d:=257) (v:=undef) rfl (Or.inr ⟨by rfl,rfl⟩) g ?_
  try simp only [Act.put,pq]
  refine tkE (i:=13) (d:=258) (v:=undef) rfl (Or.inr ⟨by rfl,rfl⟩) g ?_
  try simp only [Act.put,pq]
  refine tkE (i:=14) (d:=259) (v:=undef) rfl (Or.inr ⟨by rfl,rfl⟩) g ?_
  try simp only [Act.put,pq]
  refine tkE (i:=15) (d:=260) (v:=undef) rfl (Or.inr ⟨by rfl,rfl⟩) g ?_
  try simp only [Act.put,pq]
  refine tkE (i:=16) (d:=261) (v:=undef) rfl (Or.inr ⟨by rfl,rfl⟩) g ?_
  try simp only [Act.put,pq]
  refine tkE (i:=17) (d:=262) (v:=undef) rfl (Or.inr ⟨by rfl,rfl⟩) g ?_
  try simp only [Act.put,pq]
  refine tkE (i:=18) (d:=263) (v:=undef) rfl (Or.inr ⟨by rfl,rfl⟩) g ?_
  try simp only [Act.put,pq]
  refine tkE (i:=19) (d:=264) (v:=undef) rfl (Or.inr ⟨by rfl,rfl⟩) g ?_
  try simp only [Act.put,pq]
  refine tkE (i:=20) (d:=265) (v:=undef) rfl (Or.inr ⟨by rfl,rfl⟩) g ?_
  try simp only [Act.put,pq]
  refine tkE (i:=21) (d:=266) (v:=undef) rfl (Or.inr ⟨by rfl,rfl⟩) g ?_
  try simp only [Act.put,pq]
  refine tkE (i:=22) (d:=267) (v:=undef) rfl (Or.inr ⟨by rfl,rfl⟩) g ?_
  try simp only [Act.put,pq]
  refine tkE (i:=23) (d:=268) (v:=undef) rfl (Or.inr ⟨by rfl,rfl⟩) g ?_
  try simp only [Act.put,pq]
  refine tE 24 269 g ?_
  refine Z1 (by kernel_rfl) ?_ _
  have q3:=Zh (b5.out.trans g)
  clear g
  go_wp2
  exact⟨⟨i+1,by omega,by first | rfl | trivial,⟨rfl,rfl,rfl,rfl,rfl,rfl,rfl,rfl,rfl,rfl,rfl⟩,q3.out⟩,by simp [intOf];omega⟩
 have M:0<=t:=by omega
 have k4:decide (t>=0)=true:=by simpa using M
 have k5:decide (0<=t)=true:=by simpa using M
 obtain⟨s9,t0⟩:=N3.out M
 have s9:=Qa.cell_some b5.out s9 id
 have t0:=Qa.cell_some b5.out t0 id
 have L6:=Q1.out M
 have P2:=Zh L6
 have W5:t<8:=by have:=P9.out;omega
 clear b1 L6
 go_upto_region 35 with (fail)
 have g:Ext u u.drew:=(Qa.refl _ u).drew
 refine Z7 (S:=fun k=>Ext u k) [] (by kernel_rfl) g ?_
 intro _
 obtain⟨m7,k2⟩:∃ k,u.drew=k:=⟨_,rfl⟩
 rw [k2] at g ⊢
 clear k2
 refine tE 0 245 g ?_
 refine tE 1 246 g ?_
 refine tE 2 247 g ?_
 refine tkE (i:=3) (d:=248) (v:=?_) rfl (Or.inl ⟨by rfl,?_⟩) g ?_
 rotate_left
 ·intro k z;have p4:=(show Ext u k from z).cell_some I id;(try dsimp only at z);go_simp;try with_reducible rfl
 try simp only [Act.put,pq]
 refine tE 4 249 g ?_
 refine tE 5 250 g ?_
 refine tE 6 251 g ?_
 refine tE 7 252 g ?_
 refine tE 8 253 g ?_
 refine tkE (i:=9) (d:=254) (v:=?_) rfl (Or.inl ⟨by rfl,?_⟩) g ?_
 rotate_left
 ·intro k z;have p4:=(show Ext u k from z).cell_some C id;(try dsimp only at z);go_simp;try with_reducible rfl
 try simp only [Act.put,pq]
 refine tE 10 255 g ?_
 refine tE 11 256 g ?_
 refine tE 12 257 g ?_
 refine tE 13 258 g ?_
 refine tE 14 259 g ?_
 refine tkE (i:=15) (d:=260) (v:=?_) rfl (Or.inl ⟨by rfl,?_⟩) g ?_
 rotate_left
 ·intro k z;have p4:=(show Ext u k from z).cell_some I id;(try dsimp only at z);go_simp;try with_reducible rfl
 try simp only [Act.put,pq]
 refine tE 16 261 g ?_
 refine tkE (i:=17) (d:=262) (v:=?_) rfl (Or.inl ⟨by rfl,?_⟩) g ?_
 rotate_left
 ·intro k z;have p4:=(show Ext u k from z).cell_some s9 id;have b4:=(show Ext u k from z).cell_some t0 id;(try dsimp only at z);go_simp;try with_reducible rfl
 try simp only [Act.put,pq]
 refine tE 19 264 g ?_
 refine rE [18] ?_
 refine Qb.cons rfl (fun K J=>?_) Qb.nil
 (try rw [if_pos (show Region.wanted _ _=true from rfl)])
 go_simp
 obtain⟨e0,n7⟩:∃ k,m7.alloc (.cells #[.int .u32 d4,.int .u32 c1] 26)=k:=⟨_,rfl⟩
 obtain⟨l7,v7⟩:∃ a9,m7.heap.size=a9:=⟨_,rfl⟩
 rw [n7,v7]
 have F4:Ext m7 e0:=by rw [<-n7];exact(Qa.refl _ _).alloc _
 have E9:e0.heap[l7]?=some (.cells #[.int .u32 d4,.int .u32 c1] 26 (0,0)):=by rw [<-n7];exact new_at v7.symm
 have c4:Ext u e0:=g.trans F4
 have D9:Hid (Qd e0 (.slice (some ⟨l7,0,none⟩) 1 1) [(d4,c1)]):=Zh ⟨Us (xs:=Z3 [(d4,c1)]) E9 rfl (by decide),by intro c9 a7;simp at a7;rw [a7];exact E7.out⟩
 clear n7 v7 F4 E9
 refine J _ _ c4 (fun _=>?_)
 clear J K g
 try simp only [Act.put,pq]
 refine rE [20] ?_
 refine Qb.cons rfl (fun K J=>?_) Qb.nil
 (try rw [if_pos (show Region.wanted _ _=true from rfl)])
 go_simp
 obtain⟨s4,n8⟩:∃ k,e0.alloc (.cells #[.slice d1 f1 d0,.slice (some ⟨l7,0,none⟩) 1 1,.slice d3 f2 d2] 23)=k:=⟨_,rfl⟩
 obtain⟨N5,v8⟩:∃ a9,e0.heap.size=a9:=⟨_,rfl⟩
 rw [n8,v8]
 have t2:Ext e0 s4:=by rw [<-n8];exact(Qa.refl _ _).alloc _
 have F0:s4.heap[N5]?=some (.cells #[.slice d1 f1 d0,.slice (some ⟨l7,0,none⟩) 1 1,.slice d3 f2 d2] 23 (0,0)):=by rw [<-n8];exact new_at v8.symm
 have k0:Ext u s4:=c4.trans t2
 have J0:=Q6a (B3.out.ext k0) (D9.out.ext t2) (B8.out.ext k0) F0 N7.out
 have B9:=Zh J0
 clear n8 v8 t2 F0 J0 D9
 refine J _ _ k0 (fun _=>?_)
 clear J K c4
 try simp only [Act.put,pq]
 refine rE [21] ?_
 refine Qb.cons rfl (fun K J=>?_) Qb.nil
 (try rw [if_pos (show Region.wanted _ _=true from rfl)])
 go_simp
 refine B9.out.mono ?_
 rintro e Q3 ⟨c,rfl,F,F7⟩
 have n5:Ext u Q3:=k0.trans F7
 have J4:=Ln F (Lg B3.out.2 B8.out.2 E7.out)
 obtain⟨W9,W7,rfl⟩:=Zg F
 have w8:=Qcx (G.ext n5) J4
 rw [P2.out,decide_eq_true rfl] at w8
 have C2:=Zh w8
 clear F F7 J4 w8 B9
 refine J _ _ n5 (fun _=>?_)
 clear J K k0
 try simp only [Act.put,pq]
 refine rE [22] ?_
 refine Qb.cons rfl (fun K J=>?_) Qb.nil
 (try rw [if_pos (show Region.wanted _ _=true from rfl)])
 go_simp
 refine C2.out.mono ?_
 rintro e Q4 ⟨rfl,g3⟩
 have k1:Ext u Q4:=n5.trans g3
 clear C2 g3
 refine J _ _ k1 (fun _=>?_)
 clear J K n5
 try simp only [Act.put,pq]
 refine tE 23 268 k1 ?_
 refine tE 24 269 k1 ?_
 refine Z1 (by kernel_rfl) ?_ _
 have q3:=Zh (b5.out.trans k1)
 clear k1
 go_wp2
 exact⟨⟨i+1,by omega,by first | rfl | trivial,⟨rfl,rfl,rfl,rfl,rfl,rfl,rfl,rfl,rfl,rfl,rfl⟩,q3.out⟩,by simp [intOf];omega⟩
end Go.Proofs.YtejenndedjabhaaGreatDoor
