/- ablautlaw14.OrderMade. -/
import Derived.Test.YtfdlhlghcbeblaaGreatDoorR26
set_option maxRecDepth 100000
set_option maxHeartbeats 16000000
namespace Go.Proofs.YtfdlhlghcbeblaaGreatDoor
open Go.RowKit Go.Ab
attribute [local go_sem] Oper.semAt_some Zk Qx
theorem Qbe:(Tryz.prog.info? 105).map (fun i=>(i.zero,i.size,i.bytes))=some (some (.agg #[.slice none 0 0,.slice none 0 0]),2,48):=by kernel_rfl
theorem Q3u(w:World):Zg w (.slice none 0 0) []:=⟨⟨rfl,by simp [maxLen],none,0,rfl,fun h=>by simp at h⟩,fun _ h=>by cases h⟩
def Hv(w:World)(v:Value)(us:List Wd):Prop:=∃ vs,Rd w v us.length 1 vs/\∀ i (h:i<us.length),Zc w (vs.getD i undef) us[i]
theorem Hv.ext{A B:World}{v:Value}{us:List Wd}(h:Hv A v us)(a:Ext A B):Hv B v us:=by
 obtain⟨d,b,c⟩:=h;exact⟨d,b.ext a,fun i hi=>(c i hi).ext a⟩
theorem Q24{w:World}{A:Option Addr}{m c:Nat}{q:(Wd × Wd) × List Value} {qs:Qi} (h:Zg w (.slice A m c) (q::qs)) (b:(q::qs).length=m) (s:m<=c):∃ ao c',sliced A 1 m c 2=.slice ao (m - 1) c'/\Zg w (.slice ao (m - 1) c') qs:=by
 rw [List.length_cons] at b;obtain⟨⟨g,i,ao,r,e,k⟩,a⟩:=h;simp only [zV] at e;obtain⟨rfl,t,rfl⟩:=e;obtain⟨f,o,rfl,n,l⟩:=k zy;have d:=(a q zy).1;refine⟨_,_,by unfold sliced;rfl,⟨⟨?_,by rw [List.length_cons] at i;omega,_,_,by rw [<-b];rfl,fun h0=>?_⟩,fun p hp=>a p (by simp [hp])⟩⟩
 ·rw [List.flatMap_cons,List.length_append,d,List.length_cons] at g;omega
 ·rw [if_neg oz];refine⟨f,o+2,by simp [Bf],n,fun j hj=>?_⟩;rw [Nat.add_assoc,l (2+j) (by rw [List.length_cons];omega),List.flatMap_cons,List.getD_eq_getElem?_getD,List.getElem?_append_right oz,d,Nat.add_sub_cancel_left,<-List.getD_eq_getElem?_getD]
theorem Qak{w:World}{base:Nat}{e:TypeId}{d n m c:Nat}{ao:Option Addr}{xs:List Value}(h:w.ownsRow base e d (.slice ao m c) n xs):m<=c:=by
 rcases h.2 with ⟨a,_⟩ | ⟨i,f,g,a,_,_,b,_⟩
 ·cases a;exact Nat.le_refl _
 ·cases a;exact b
def MkL(n:Nat)(lv wv ev xv:Value)(X:Nat)(F:Nat->List Value)(w2:World)(a:Act)(W:World):Prop:=∃(k:Nat) (ao:Option Addr) (c:Nat),k<=n/\a.defers=[]/\(a.tmps.size=251/\a.tmps.getD 0 undef=lv/\a.tmps.getD 1 undef=wv/\a.tmps.getD 7 undef=ev/\a.tmps.getD 8 undef=xv/\a.tmps.getD 9 undef=.slice ao k c/\a.tmps.getD 10 undef=.int .i64 k)/\W.ownsRow X 102 18 (.slice ao k c) k (F k)/\Ext w2 W
def Vb(PL:List Qe)(us:List Wd)(k:Nat)(W:World)(qs:Qi):Prop:=qs.length=k/\(∀ q∈qs,q.2.length=2/\Ur W q.1 q.2)/\qs.map (·.1)=Wq PL (us.take k)/\∀ u∈us.take k,wE u=0/\Ui PL u=0
def MkP(wl:Nat)(lv wv ev xv pv:Value)(Y:Nat)(PL:List Qe)(us:List Wd)(w3:World)(a:Act)(W:World):Prop:=∃(k:Nat) (ao:Option Addr) (c:Nat) (qs:Qi),k<=wl/\a.defers=[]/\(a.tmps.size=251/\a.tmps.getD 0 undef=lv/\a.tmps.getD 1 undef=wv/\a.tmps.getD 7 undef=ev/\a.tmps.getD 8 undef=xv/\a.tmps.getD 9 undef=pv/\a.tmps.getD 11 undef=.slice ao k c/\a.tmps.getD 12 undef=.int .i64 k)/\W.ownsRow Y 105 2 (.slice ao k c) k (qs.flatMap (·.2))/\Jk Np W (.slice ao k c)/\Vb PL us k W qs/\Ext w3 W
def MkF(al:Nat)(lv ev xv pv mv:Value)(F:Nat->Bool)(w4:World)(a:Act)(W:World):Prop:=∃(k:Nat),k<=al/\a.defers=[]/\(a.tmps.size=251/\a.tmps.getD 0 undef=lv/\a.tmps.getD 7 undef=ev/\a.tmps.getD 8 undef=xv/\a.tmps.getD 11 undef=pv/\a.tmps.getD 24 undef=mv/\a.tmps.getD 26 undef=.bool (F k)/\a.tmps.getD 27 undef=.int .i64 k)/\Ext w4 W
def MkG(fl:Nat)(mv fv:Value)(K:Nat->Nat)(w5:World)(a:Act)(W:World):Prop:=∃(i:Nat),i<=fl/\a.defers=[]/\(a.tmps.size=251/\a.tmps.getD 24 undef=mv/\a.tmps.getD 28 undef=fv/\a.tmps.getD 30 undef=.int .i64 (K i:Nat)/\a.tmps.getD 31 undef=.int .i64 i)/\Ext w5 W
theorem Vb.ext{PL:List Qe}{us:List Wd}{k:Nat}{A B:World}{qs:Qi}(h:Vb PL us k A qs)(ht:Ext A B):Vb PL us k B qs:=⟨h.1,fun q hq=>⟨(h.2.1 q hq).1,(h.2.1 q hq).2.ext ht⟩,h.2.2⟩
theorem Vb.row{PL:List Qe}{us:List Wd}{k:Nat}{A B:World}{qs:Qi}{v:Value}{base:Nat}{e:TypeId}{sz n:Nat}{xs:List Value}(h:Vb PL us k A qs)(hr:Jk Np A v)(ho:A.ownsRow base e sz v n xs)(ht:Qa (fun b=>v.ownBlock=some b) A B):Vb PL us k B qs:=
 ⟨h.1,fun q hq=>⟨(h.2.1 q hq).1,(h.2.1 q hq).2.row hr ho ht⟩,h.2.2⟩
theorem Vb.snoc{e:List Qe}{us:List Wd}{k:Nat}{W:World}{qs:Qi}(h:Vb e us k W qs)(r:k<us.length){a b:Value}(o:Zc W a us[k])(p:Zc W b (V5 e us[k])) (m:wE us[k]=0) (n:Ui e us[k]=0) :
  Vb e us (k+1) W (qs++[((us[k],V5 e us[k]),[a,b])]):=by
 obtain⟨g,i,j,l⟩:=h;have f:=List.take_succ_eq_append_getElem r;refine⟨by simp [g],fun q d=>?_,?_,fun u c=>?_⟩
 ·rcases List.mem_append.1 d with d | d
  ·exact i q d
  ·rw [List.mem_singleton] at d;subst d;exact⟨rfl,_,_,rfl,o,p⟩
 ·rw [List.map_append,j,f];unfold Wq;rw [List.map_append];rfl
 ·rw [f] at c;rcases List.mem_append.1 c with c | c
  ·exact l u c
  ·rw [List.mem_singleton] at c;subst c;exact⟨m,n⟩
theorem Q8t{w:World}{ps:Qs}{lo:Option Addr}{n lc:Nat}(a9:Za w (.slice lo n lc) ps) (W:ps.length=n) {us:List Wd} {q6:Option Addr} {I q5:Nat} (p8:Hv w (.slice q6 I q5) us) (w4:us.length=I) (l6:Nat) (P8:l6<256) (b7:Tab w) :
  Calls Tryz.prog 14 #[.slice lo n lc,.slice q6 I q5,.int .u8 (l6:Int)] w fun e w'=>e=.returned (.bool true)/\Ext w w':=by
 have M3:I<=maxLen:=by obtain⟨_,l1,_⟩:=p8;rw [<-w4];exact l1.2.1
 unfold maxLen at M3;have H1:=Q2g a9 W (Q3u w) rfl b7;have H5:=fun(i:World) (o:Ext w i)=>Q37 i (b7.keep o id);have g5:=fun(i:World) (h:n<=4)=>Q8v (w:=i) h;have d9:=Ju n;have v1:=Nb n;have o6:=Q04 n;have g7:=fun(s:List Nat) (hon:s.length=n) (w6:∀ x∈s,x<n) (i:World) (f9:Option Addr) (c:Nat) (o:Ext w i) (b6:Rd i (.slice f9 n c) n 18 ((Y6 ps s).flatMap (·.2))) (D:World) (hD:Ext i D) (i6:Option Addr) (vn i5:Nat) (f:Wd) (hvn:f.length=vn) (hf:Qk D (.slice i6 vn i5) f)=>Q32 (w:=D) (ps:=Y6 ps s) (lo:=f9) (n:=n) (lc:=c) ⟨by rw [Nr fun x h=>by rw [W];exact w6 x h,hon];exact b6.ext hD,fun p J=>(a9.2 p (Pa J)).ext (o.trans hD)⟩ (by rw [Nr fun x h=>by rw [W];exact w6 x h,hon]) hf hvn (b7.keep (o.trans hD) id);have g8:=fun(i:World) (o:Ext w i) (x:List Nat) (yo:Option Addr) (yc:Nat) (z:Rd i (.slice yo n yc) n 1 (Qq x)) (c8:x.length=n) (j:Qi) (F:Option Addr) (m E:Nat) (J:Zg i (.slice F m E) j) (hm:j.length=m)=>Nw (xs:=U3 x) (a9.ext o) W (by rw [Q3r];exact z) (by unfold U3;rw [List.length_map,c8]) J hm (b7.keep o id);have Y:=fun(i:World) (o:Ext w i) (j:Qi) (F:Option Addr) (m E:Nat) (J:Zg i (.slice F m E) j) (hm:j.length=m)=>Mw (a9.ext o) W J hm (b7.keep o id);have g6:=fun(i:World) (o:Ext w i) (j:Qi) (F:Option Addr) (m E:Nat) (J:Zg i (.slice F m E) j) (hm:j.length=m)=>Q7n (a9.ext o) W J hm (b7.keep o id);have O:=fun(i:World) (o:Ext w i) (j:Qi) (F:Option Addr) (m E:Nat) (J:Zg i (.slice F m E) j) (hm:j.length=m)=>Bc (most:=1000) (a9.ext o) W J hm (b7.keep o id)
 have F8:∀ p∈ps,∀ x∈p.1.outs,Yu x:=fun p J=>by
  obtain⟨_,_,_,_,_,_,_,_,_,K7⟩:=a9.2 p J;exact K7.2
 have D6:∀ f∈us,Yh f:=fun f B=>by
  obtain⟨_,_,u6⟩:=p8;obtain⟨r,E3,rfl⟩:=List.mem_iff_getElem.1 B;obtain⟨_,_,_,u7,_⟩:=u6 r E3;exact u7.2
 have E1:Ka (ps.map (·.1)) (([]:Qi).map (·.1))->n<=4/\Ka (ps.map (·.1)) []:=fun h=>⟨by have:=h.1;rwa [List.length_map,W] at this,h⟩;have e0:=fun(s:List Nat) (g9:Ka (ps.map (·.1)) []) (p5:s∈Qm n) (j:Qi) (m:Nat) (b1:List Wd) (p6:j.map (·.1)=Wq ((Y6 ps s).map (·.1)) b1) (hm:j.length=m) (B7:b1.length<=4) (hc:∀ f∈b1,Yh f) (he:∀ f∈b1,wE f=0/\Ui ((Y6 ps s).map (·.1)) f=0)=>Qb5 g9 F8 W p5 p6 hm B7 hc he;obtain⟨a1,o5⟩:=zE (Qm n);have F4:Ze (ps.map (·.1)) [] n=a1:=by rw [Q4f,o5]
 simp only [o5] at d9 v1 o6 g5 e0;obtain⟨B0,f6,q7,r7,s5,r0,l9,n4⟩:=Zh8 H1 H5 g5 d9 v1 g7 g8 Y;obtain⟨l8,c9,b3,r3,r9,f3,r6,s0⟩:=Zh8 g6 O D6 E1 e0 F4 a9 W;obtain⟨n1,a0,j2⟩:=Zh3 p8 w4 o5;clear H1 H5 g5 d9 v1 g7 g8 Y g6 O D6 E1 e0 F4 a9 W p8 w4 b7 o5 F8;go_enter Tryz.func14,Tryz.ntmps14;go_wp2_with fail;refine B0.out.mono ?_;rintro e I4 ⟨b,rfl,g9,C0⟩;have r1:=Zh C0;have r2:=Zh g9;clear C0 B0 g9;by_cases o8:b=true/\I<=4;case neg=>
  have E0:∀ i,Ext w i->Calls Tryz.prog 33 #[] i fun e w'=>e=.returned (.bool true)/\Ext w w':=fun i hV=>(f6.out i hV).mono fun _ _ h=>⟨h.1,hV.trans h.2⟩;have A0:=Zh (E0 I4 r1.out);clear E0 f6 q7 r7 s5 r0 l9 n4 l8 c9 b3 r3 r9 f3 r6 s0 n1 a0 j2 r2 o6;cases b with
  | false=>
   go_wp2_with fail;refine A0.out.mono ?_;rintro e q3 ⟨rfl,g⟩;go_wp2;go_ret;exact⟨rfl,g⟩
  | true=>
   have B7:(I:Int) > 4:=by
    have:¬ I<=4:=fun h=>o8 ⟨rfl,h⟩;omega
   go_wp2_with fail;refine A0.out.mono ?_;rintro e q3 ⟨rfl,g⟩;go_wp2;go_ret;exact⟨rfl,g⟩
 obtain⟨o8,M2⟩:=o8;subst o8;obtain⟨F3,E2⟩:=r3.out (r2.out uz);have A2:=Zh E2;have D4:=s5.out F3;have g5:=q7.out I4 F3;have z0:=Zh g5;have P6:¬ (I:Int) > 4:=by omega
 clear g5 q7 r2 r3 s5 E2;go_wp2_with fail;refine z0.out.mono ?_;rintro e q3 ⟨_,rfl,⟨q2,e4,rfl,L3⟩,j7⟩;have e8:=Zh (r1.out.trans j7);obtain⟨b1,M,G6⟩:=L3;have i0:l6 % a1.length<a1.length:=Nat.mod_lt _ o6;obtain⟨i7,p9⟩:=zE (l6 % a1.length);rw [p9] at i0;obtain⟨j6,j5,B6,n9⟩:=G6 i7 i0;obtain⟨u4,y1,N9,G4,_,v4⟩:=Vt M i0;simp only [zV] at G4;obtain⟨rfl,N1,rfl⟩:=G4;rw [B6] at v4;have l4:a1[i7]∈a1:=List.getElem_mem i0;have e3:=r7.out _ l4;obtain⟨s,p5⟩:=zE (a1[i7]);rw [p5] at v4 n9 e3 l4;obtain⟨e3,d9⟩:=e3;rw [e3] at v4 n9;have p7:Int.tmod (l6:Int) (a1.length:Int)=(i7:Int):=by rw [Int.tmod_eq_emod_of_nonneg oz,<-p9];rfl
 have g7:=r0.out s e3 d9;have e0:=r9.out s A2.out l4;have K8:a1.length<=24:=D4;obtain⟨n6,C7⟩:=zE ((Y6 ps s).map (·.1));simp only [C7] at g7 e0;obtain⟨z7,f1,n3,b4,A3,s2,A5⟩:=Zh7 g7 e0 l4 e3 d9 n9 p7;clear M G6 B6 n9 l4 p5 e3 d9 N1 j7 z0 r1 r7 r9 p9 g7 e0 C7 r0 A2;obtain⟨f8,v2⟩:=zE a1.length;have p7:=A5.out;rw [v2] at i0 D4 o6 K8 p7 ⊢;have n5:=Zh v2;have L4:(i7:Int)<(f8:Int):=by omega
 have E4:(0:Int)<=(i7:Int):=by omega
 have M5:¬ (f8:Int)=0:=by omega
 obtain⟨t1,D2⟩:=zE q3.heap.size;have B1:=Zh D2;clear v2 A5 D2;go_wp2;refine wp_loop (MkL n (.slice lo n lc) (.slice q6 I q5) (.slice (some ⟨u4,y1,none⟩) f8 e4) (.slice j6 n j5) t1 (fun v=>(Y6 ps (s.take v)).flatMap (·.2)) q3) (fun a _=>((n:Int) - intOf (a.tmps.getD 10 undef)).toNat) ?_ ?_
 ·exact⟨0,_,_,by omega,rfl,⟨rfl,rfl,rfl,rfl,rfl,rfl,rfl⟩,World.ownsRow_nil _ _ _ _,Qa.refl _ _⟩
 clear p7 L4 E4 M5 i0;rintro⟨t,_⟩ a7 ⟨v,f9,c,P3,d7,⟨X,T,d3,U,V,d6,t7⟩,b6,o⟩;dsimp only at b6;subst d7;obtain⟨e7,B⟩:=Zi X;obtain⟨f,rfl⟩:∃ x,x=e7:=⟨_,rfl⟩;have e2:t=#[f 0,f 1,f 2,f 3,f 4,f 5,f 6,f 7,f 8,f 9,f 10,f 11,f 12,f 13,f 14,f 15,f 16,f 17,f 18,f 19,f 20,f 21,f 22,f 23,f 24,f 25,f 26,f 27,f 28,f 29,f 30,f 31,f 32,f 33,f 34,f 35,f 36,f 37,f 38,f 39,f 40,f 41,f 42,f 43,f 44,f 45,f 46,f 47,f 48,f 49,f 50,f 51,f 52,f 53,f 54,f 55,f 56,f 57,f 58,f 59,f 60,f 61,f 62,f 63,f 64,f 65,f 66,f 67,f 68,f 69,f 70,f 71,f 72,f 73,f 74,f 75,f 76,f 77,f 78,f 79,f 80,f 81,f 82,f 83,f 84,f 85,f 86,f 87,f 88,f 89,f 90,f 91,f 92,f 93,f 94,f 95,f 96,f 97,f 98,f 99,f 100,f 101,f 102,f 103,f 104,f 105,f 106,f 107,f 108,f 109,f 110,f 111,f 112,f 113,f 114,f 115,f 116,f 117,f 118,f 119,f 120,f 121,f 122,f 123,f 124,f 125,f 126,f 127,f 128,f 129,f 130,f 131,f 132,f 133,f 134,f 135,f 136,f 137,f 138,f 139,f 140,f 141,f 142,f 143,f 144,f 145,f 146,f 147,f 148,f 149,f 150,f 151,f 152,f 153,f 154,f 155,f 156,f 157,f 158,f 159,f 160,f 161,f 162,f 163,f 164,f 165,f 166,f 167,f 168,f 169,f 170,f 171,f 172,f 173,f 174,f 175,f 176,f 177,f 178,f 179,f 180,f 181,f 182,f 183,f 184,f 185,f 186,f 187,f 188,f 189,f 190,f 191,f 192,f 193,f 194,f 195,f 196,f 197,f 198,f 199,f 200,f 201,f 202,f 203,f 204,f 205,f 206,f 207,f 208,f 209,f 210,f 211,f 212,f 213,f 214,f 215,f 216,f 217,f 218,f 219,f 220,f 221,f 222,f 223,f 224,f 225,f 226,f 227,f 228,f 229,f 230,f 231,f 232,f 233,f 234,f 235,f 236,f 237,f 238,f 239,f 240,f 241,f 242,f 243,f 244,f 245,f 246,f 247,f 248,f 249,f 250]:=B;clear B;subst e2;change f 0=_ at T;change f 1=_ at d3;change f 7=_ at U;change f 8=_ at V;change f 9=_ at d6;change f 10=_ at t7;rw [T,d3,U,V,d6,t7];clear T d3 U V d6 t7 X;have N:=Zh b6;have y:=Zh o;clear b6 o;by_cases E8:v<n;case pos=>
  have u5:(v:Int)<(n:Int):=by omega
  have O4:(0:Int)<=(v:Int):=by omega
  have v8:v<s.length:=by rw [b4.out];exact E8
  obtain⟨O2,Q3,N8,F7,L2,k3⟩:=Vt (s2.out.ext y.out) E8;simp only [zV] at F7;obtain⟨rfl,L7,rfl⟩:=F7;have F5:(Qq s).getD v undef=.int .i64 (s[v]:Int):=by unfold Qq;rw [List.getD_eq_getElem?_getD,List.getElem?_map,List.getElem?_eq_getElem v8];rfl
  rw [F5] at k3;have H7:s[v]<n:=A3.out _ (List.getElem_mem v8);have Y:s[v]<ps.length:=by rw [s0.out];exact H7
  have a4:=Q61 v8 Y;obtain⟨K3,I1,N6,p6,g9,l2,k8,o2⟩:=(r6.out.ext (e8.out.trans y.out)).at Y;simp only [zV] at p6;obtain⟨rfl,L8,rfl⟩:=p6;obtain⟨x,w8⟩:=zE (s[v]);simp only [w8] at k3 H7 a4 l2 k8 o2;obtain⟨p,F9⟩:∃ p,ps[x]'(by rw [<-w8];exact Y)=p:=⟨_,rfl⟩;rw [F9] at a4 l2 k8 o2;obtain⟨Q6,Q5⟩:=p;dsimp only at a4 l2 k8 o2;obtain⟨x7,x2,y3,Q,x5,t2,t4,x8,s6,t6,x3,y4,i3,x6,t3,t5,x9,s7,c2,x1,s8,x0,y2,s9,y0,x4,rfl,I9,J4,J5,I7,J3,J2,j0,R,S,f2,J1,Q7,i4,b0,Q8,Q9⟩:=Yb k8;have G8:(Y6 ps (s.take (v+1))).flatMap (·.2)=(Y6 ps (s.take v)).flatMap (·.2)++[.string x7,.int .i64 x2,.int .u32 (y3:Int),.int .u32 (Q:Int),.bool x5,.int .i64 t2,.int .i64 t4,.slice x8 s6 t6,.int .i64 x3,.int .u32 (y4:Int),.int .u32 (i3:Int),.bool x6,.int .i64 t3,.int .i64 t5,.slice x9 s7 c2,.slice x1 s8 x0,.slice y2 s9 y0,.int .i64 x4]:=by rw [a4,List.flatMap_append];simp
  obtain⟨A8,A6,z3⟩:=Zh3 G8 l2 k3;have M4:(0:Int)<=(x:Int):=by omega
  have p9:(x:Int)<(n:Int):=by omega
  clear a4 G8 l2 k8 o2 F9 w8 Y F5 L7 L8 g9 L2 J4 J5 I7 J3 I9 J2 j0 R S f2 J1;have k0:=Qo N.out ((Qa.refl _ a7).alloc (.cells #[.string x7,.int .i64 x2,.int .u32 (y3:Int),.int .u32 (Q:Int),.bool x5,.int .i64 t2,.int .i64 t4,.slice x8 s6 t6,.int .i64 x3,.int .u32 (y4:Int),.int .u32 (i3:Int),.bool x6,.int .i64 t3,.int .i64 t5,.slice x9 s7 c2,.slice x1 s8 x0,.slice y2 s9 y0,.int .i64 x4] 102));have f4:=Zh k0;have k3:=z3.out;have O7:t1<=a7.heap.size:=by have:=y.out.size;have:=B1.out;omega
  clear k0
  go_wp2_with (first | (at_builtin;refine Zp rfl (.tmp 58) (.tmp 66) 26 rfl t1 102 _ 18 200 Tryz.underlying26 Q72 rfl zd _ _ _ rfl f4.out ⟨a7.heap.size,0,none⟩ 1 1 [.string x7,.int .i64 x2,.int .u32 (y3:Int),.int .u32 (Q:Int),.bool x5,.int .i64 t2,.int .i64 t4,.slice x8 s6 t6,.int .i64 x3,.int .u32 (y4:Int),.int .u32 (i3:Int),.bool x6,.int .i64 t3,.int .i64 t5,.slice x9 s7 c2,.slice x1 s8 x0,.slice y2 s9 y0,.int .i64 x4] rfl rfl (Zo rfl) ?c2 ?c3 ?c4 ?c5 ?_) | (refine Yp (by rfl) 102 (.tmp 64) rfl K3 (I1+x*18) zr _ _ A6.out Tryz.underlying102 rfl kz ?_))
  case c2=>first | (repeat (first | rfl | refine⟨rfl,?_⟩)) | (intro C z;simp only [List.mem_cons,List.not_mem_nil,or_false] at z;rcases z with rfl | rfl | rfl | rfl | rfl | rfl | rfl | rfl | rfl | rfl | rfl | rfl | rfl | rfl | rfl | rfl | rfl | rfl <;> rfl)
  case c3=>unfold maxLen;omega
  case c4=>omega
  case c5=>first | omega | (simp;omega)
  intro B4 c5 q4 g3 g4 _;have C8:Qa (fun b'=>(Value.slice f9 v c).ownBlock=some b') a7 q4:=Qa.trans (Qa.alloc (Qa.refl _ a7) _) g4;have j9:=y.out.after C8 (fun b' u5 e=>by have:=(N.out.lt _ e).1;have:=B1.out;omega);rw [<-A8.out] at g3;have s1:=Zh g3;have e9:=Zh j9;clear g3 j9 g4 C8 f4 N y A6 z3 k3 A8;go_wp2;exact⟨⟨v+1,_,_,by omega,tz,⟨rfl,rfl,rfl,rfl,rfl,rfl,rfl⟩,s1.out,e9.out⟩,mz⟩
 obtain rfl:v=n:=by omega
 have u5:¬ (v:Int)<(v:Int):=by omega
 have w0:=Rd.of_own N.out;rw [List.take_of_length_le (by rw [b4.out];exact Nat.le_refl _)] at w0;obtain⟨q9,d0,m9⟩:=Zh3 (z7.out a7 f9 c (e8.out.trans y.out) w0) (e8.out.trans y.out) (s2.out.ext y.out);obtain⟨n7,D3⟩:=zE a7.heap.size;have s4:=Zh D3;clear w0 z7 r6 s0 A3 s2 N D3 e8 y;go_wp2;refine wp_loop (MkP I (.slice lo v lc) (.slice q6 I q5) (.slice (some ⟨u4,y1,none⟩) f8 e4) (.slice j6 v j5) (.slice f9 v c) n7 n6 us a7) (fun a _=>((I:Int) - intOf (a.tmps.getD 12 undef)).toNat) ?_ ?_
 ·exact⟨0,_,_,[],by omega,rfl,⟨rfl,rfl,rfl,rfl,rfl,rfl,rfl,rfl⟩,World.ownsRow_nil _ _ _ _,Jk.nil _,⟨rfl,(fun _ h=>by cases h),rfl,(fun _ h=>by simp at h)⟩,Qa.refl _ _⟩
 rintro⟨t,_⟩ i ⟨k,F,E,j,P0,d7,⟨X,T,d3,U,V,d6,d4,t8⟩,b6,g1,g2,o⟩;subst d7;obtain⟨e7,B⟩:=Zi X;obtain⟨f,rfl⟩:∃ x,x=e7:=⟨_,rfl⟩;have e2:t=#[f 0,f 1,f 2,f 3,f 4,f 5,f 6,f 7,f 8,f 9,f 10,f 11,f 12,f 13,f 14,f 15,f 16,f 17,f 18,f 19,f 20,f 21,f 22,f 23,f 24,f 25,f 26,f 27,f 28,f 29,f 30,f 31,f 32,f 33,f 34,f 35,f 36,f 37,f 38,f 39,f 40,f 41,f 42,f 43,f 44,f 45,f 46,f 47,f 48,f 49,f 50,f 51,f 52,f 53,f 54,f 55,f 56,f 57,f 58,f 59,f 60,f 61,f 62,f 63,f 64,f 65,f 66,f 67,f 68,f 69,f 70,f 71,f 72,f 73,f 74,f 75,f 76,f 77,f 78,f 79,f 80,f 81,f 82,f 83,f 84,f 85,f 86,f 87,f 88,f 89,f 90,f 91,f 92,f 93,f 94,f 95,f 96,f 97,f 98,f 99,f 100,f 101,f 102,f 103,f 104,f 105,f 106,f 107,f 108,f 109,f 110,f 111,f 112,f 113,f 114,f 115,f 116,f 117,f 118,f 119,f 120,f 121,f 122,f 123,f 124,f 125,f 126,f 127,f 128,f 129,f 130,f 131,f 132,f 133,f 134,f 135,f 136,f 137,f 138,f 139,f 140,f 141,f 142,f 143,f 144,f 145,f 146,f 147,f 148,f 149,f 150,f 151,f 152,f 153,f 154,f 155,f 156,f 157,f 158,f 159,f 160,f 161,f 162,f 163,f 164,f 165,f 166,f 167,f 168,f 169,f 170,f 171,f 172,f 173,f 174,f 175,f 176,f 177,f 178,f 179,f 180,f 181,f 182,f 183,f 184,f 185,f 186,f 187,f 188,f 189,f 190,f 191,f 192,f 193,f 194,f 195,f 196,f 197,f 198,f 199,f 200,f 201,f 202,f 203,f 204,f 205,f 206,f 207,f 208,f 209,f 210,f 211,f 212,f 213,f 214,f 215,f 216,f 217,f 218,f 219,f 220,f 221,f 222,f 223,f 224,f 225,f 226,f 227,f 228,f 229,f 230,f 231,f 232,f 233,f 234,f 235,f 236,f 237,f 238,f 239,f 240,f 241,f 242,f 243,f 244,f 245,f 246,f 247,f 248,f 249,f 250]:=B;clear B;subst e2;change f 0=_ at T;change f 1=_ at d3;change f 7=_ at U;change f 8=_ at V;change f 9=_ at d6;change f 11=_ at d4;change f 12=_ at t8;rw [T,d3,U,V,d6,d4,t8];clear T d3 U V d6 d4 t8 X;obtain⟨N,r5,m5,y⟩:=Zh4 b6 g1 g2 o;clear b6 o g2 g1;by_cases E7:k<I;case pos=>
  have u6:(k:Int)<(I:Int):=by omega
  have k7:(0:Int)<=(k:Int):=by omega
  have p4:k<us.length:=by rw [a0.out];exact E7
  obtain⟨b1,M,c1⟩:=n1.out.ext (d0.out.trans y.out);have F6:=c1 k p4;rw [a0.out] at M;obtain⟨O3,Q4,O0,G5,_,k4⟩:=Vt M E7;simp only [zV] at G5;obtain⟨rfl,M6,rfl⟩:=G5;have L0:=b3.out _ (List.getElem_mem p4);have i2:=fun(D:World) (b:Value) (hD:Ext i D)=>(m5.out.ext hD).snoc p4 (a:=b1.getD k undef) (b:=b) (F6.ext hD);obtain⟨i6,i5,H2,l3,M1⟩:=F6;rw [H2] at k4 i2;have k5:=fun(D:World) (hD:Ext i D)=>q9.out D (y.out.trans hD) i6 _ i5 us[k] rfl (l3.ext hD);have k2:=fun(D:World) (hD:Ext i D)=>Uv (l3.ext hD);obtain⟨f,B⟩:=zE (us[k]);simp only [B] at k4 i2 k5 k2 l3;obtain⟨l5,w2⟩:=zE f.length;have M0:l5<=maxLen:=by rw [<-w2];exact l3.1.2.1
  unfold maxLen at M0;simp only [w2] at k4 i2 k5 k2;obtain⟨B3,D1⟩:=zE (wE f);obtain⟨y6,B8⟩:=zE (Ui n6 f);obtain⟨y7,B9⟩:=zE (V5 n6 f);simp only [D1,B8,B9] at i2 k5 k2;have H4:=fun(D:World) (hD:Ext i D)=>(f6.out D ((d0.out.trans y.out).trans hD));obtain⟨A9,z6,z2,n2,z4⟩:=Zh5 i2 k5 k2 H4 k4;clear i2 k5 k2 H4 M c1 l3 H2 B w2 D1 B8 B9 M6 L0 M1 p4 b3 l9 n4 l8 c9 f1 f3 n1 a0 j2 n3 b4 m9 q9 f6;by_cases O9:(l5:Int) > 100
  ·go_wp2_with fail;refine(n2.out i (Qa.refl _ _)).mono ?_;rintro e j4 ⟨rfl,g⟩;have a5:=Zh ((d0.out.trans y.out).trans g);clear g;go_wp2;go_ret;exact⟨rfl,a5.out⟩
  go_wp2_with fail;refine(z2.out i (Qa.refl _ _)).mono ?_;rintro e j4 ⟨rfl,g⟩;have R:=Zh g;have p0:=g.cell_some z4.out id;have q8:=Zh p0;clear g k4 p0;by_cases H3:B3=0;case neg=>
   have o3:(B3 != 0)=true:=by rw [bne_iff_ne];exact H3
   go_wp2_with fail;refine(n2.out j4 R.out).mono ?_;rintro e a6 ⟨rfl,g⟩;have a5:=Zh ((d0.out.trans y.out).trans (R.out.trans g));clear g;go_wp2;go_ret;exact⟨rfl,a5.out⟩
  subst H3;have p0:=q8.out;go_wp2_with fail;refine(z6.out j4 R.out).mono ?_;rintro e a6 ⟨R0,rfl,w1,g⟩;have S:=Zh (R.out.trans g);have p1:=g.cell_some q8.out id;have z5:=Zh p1;obtain⟨e6,e5,rfl,_⟩:=id w1;have A7:=Zh w1;clear g p0 p1 w1 q8;obtain⟨n8,v5⟩:=zE y7.length;have I5:=Zh v5;rw [v5];clear v5;by_cases D8:y6=0;case neg=>
   have o3:(y6 != 0)=true:=by rw [bne_iff_ne];exact D8
   go_wp2_with fail;refine(n2.out a6 S.out).mono ?_;rintro e b5 ⟨rfl,g⟩;have a5:=Zh ((d0.out.trans y.out).trans (S.out.trans g));clear g;go_wp2;go_ret;exact⟨rfl,a5.out⟩
  subst D8;have p1:=z5.out;obtain⟨b5,D0⟩:=zE (a6.alloc (.cells #[.slice i6 l5 i5,.slice e6 n8 e5] 105));have u9:Ext a6 b5:=by rw [<-D0];exact(Qa.refl _ a6).alloc _
  have j8:Ext i b5:=S.out.trans u9;have k0:=Qo N.out j8;have C3:Jk Np b5 (.slice F k E):=r5.out.keep N.out j8 (fun _ _ h=>h);have F1:=A9.out b5 (.slice e6 n8 e5) j8 (by have o3:=A7.out;rw [I5.out] at o3;exact o3.ext u9) tz tz;have O8:n7<=a6.heap.size:=by have:=y.out.size;have:=S.out.size;have:=s4.out;omega
  obtain⟨f4,r4,A4,z8⟩:=Zh4 k0 C3 F1 j8;clear k0 C3 F1 j8 u9;subst D0
  go_wp2_with (at_builtin;refine Q0n (K:=Np) rfl (.tmp 101) (.tmp 108) 61 rfl n7 105 _ 2 48 Tryz.underlying61 Qbe rfl zd _ _ _ rfl f4.out ⟨a6.heap.size,0,none⟩ 1 1 [.slice i6 l5 i5,.slice e6 n8 e5] rfl rfl (Zo rfl) ?c2 ?c3 ?c4 ?c5 ?c6 ?c7 r4.out ?_)
  case c2=>intro C z;simp only [List.mem_cons,List.not_mem_nil,or_false] at z;rcases z with rfl | rfl <;> rfl
  case c3=>unfold maxLen;omega
  case c4=>omega
  case c5=>first | omega | (simp;omega)
  case c6=>intro C z;have z:C∈[Value.slice none 0 0,.slice none 0 0]:=z;simp only [List.mem_cons,List.not_mem_nil,or_false,or_self] at z;exact⟨_,_,_,z⟩
  case c7=>intro C z;simp only [List.mem_cons,List.not_mem_nil,or_false] at z;rcases z with rfl | rfl <;> exact⟨_,_,_,rfl⟩
  intro B4 c5 q4 g3 g4 C4;have j9:Ext a7 q4:=(y.out.trans z8.out).after g4 (fun b' u5 e=>by have:=(N.out.lt _ e).1;have:=s4.out;omega);have C5:=A4.out.row r4.out f4.out g4;have d8:∀(j:Qi) (p:(Wd × Wd) × List Value),(j++[p]).flatMap (·.2)=j.flatMap (·.2)++p.2:=fun j p=>by simp
  have C6:q4.ownsRow n7 105 2 (.slice B4 (k+1) c5) (k+1) ((j++([((f,y7),[Value.slice i6 l5 i5,Value.slice e6 n8 e5])]:Qi)).flatMap (·.2)):=by rw [d8];exact g3
  obtain⟨s1,e9,J0,I8⟩:=Zh4 C6 j9 C5 C4;clear g3 j9 g4 C5 C4 C6 d8 f4 r4 A4 z8 N m5 r5 y A9 z6 z2 n2 z4 z5 A7 R S p1;go_wp2;exact⟨⟨k+1,_,_,_,by omega,tz,⟨rfl,rfl,rfl,rfl,rfl,rfl,rfl,rfl⟩,s1.out,I8.out,J0.out,e9.out⟩,mz⟩
 obtain rfl:k=I:=by omega
 have u6:¬ (k:Int)<(k:Int):=by omega
 obtain⟨Q,i3,q0,q1⟩:=m5.out;rw [List.take_of_length_le (by rw [a0.out];exact Nat.le_refl _)] at q0 q1;have L6:=Qak N.out;have i1:Zg i (.slice F k E) j:=⟨by have:=Rd.of_own N.out;rw [Q];exact this,i3⟩;have H0:us.length<=4:=by rw [a0.out];exact M2
 have H:=f1.out j k us q0 Q H0 b3.out q1;have g0:=d0.out.trans y.out;have g8:=l9.out i g0 s j6 j5 (m9.out.ext y.out) b4.out j F k E i1 Q;have Y:=fun(D:World) (hD:Ext i D)=>n4.out D (g0.trans hD) j F k E (Z3 i1 hD) Q;have g6:=fun(D:World) (hD:Ext i D)=>l8.out D (g0.trans hD) j F k E (Z3 i1 hD) Q;have O:=fun(D:World) (hD:Ext i D)=>c9.out D (g0.trans hD) j F k E (Z3 i1 hD) Q;rw [H.fn,H.we] at g8;simp only [H.eb,H.oe,H.ex] at Y;simp only [H.bn,H.oe] at g6;simp only [H.al,H.oe] at O;have F2:=H.mem;obtain⟨r8,z9,B2,z1,y8,m6,d1,m7⟩:=Zh8 F2 g8 Y g6 O i1 Q q0;obtain⟨m8,I6,n0⟩:=Zh3 q1 g0 (m9.out.ext y.out);clear g8 Y g6 O F2 H i1 Q i3 q0 q1 g0 N m5 r5 y d0 m9 l9 n4 l8 H0 q9 n1 s4;go_wp2_with fail;refine z9.out.mono ?_;rintro e J6 ⟨rfl,g⟩;have j0:=Zh g;clear g z9;go_wp2_with fail;refine(B2.out J6 j0.out).mono ?_;rintro e j4 ⟨R2,R1,rfl,_,g⟩;have R:=Zh (j0.out.trans g);clear g B2 j0;go_wp2_with fail;refine(z1.out j4 R.out).mono ?_;rintro e a6 ⟨N5,N3,rfl,_,g⟩;have S:=Zh (R.out.trans g);clear g z1 R;obtain⟨N4,D5⟩:=zE ((Fk (ps.map (·.1)) j).length);rw [D5];clear D5;go_wp2_with fail;refine(y8.out a6 S.out).mono ?_;rintro e b5 ⟨I0,H9,rfl,k6,g⟩;have f2:=Zh (S.out.trans g);obtain⟨j3,g2⟩:=zE (Ze (ps.map (·.1)) j v);rw [g2] at k6 ⊢;obtain⟨d2,o7⟩:=zE j3.length;have Z:=Zh o7;have f0:=Zh g2;rw [o7] at k6 ⊢;have i9:=Zh k6;have K9:d2<=maxLen:=by obtain⟨_,l1,_⟩:=k6;rw [<-o7];exact l1.2.1
 unfold maxLen at K9;clear g y8 S g2 o7 k6;obtain⟨N2,C2⟩:=zE (Hs (ps.map (·.1)) (U3 s) j);try rw [C2]
 clear C2;go_wp2;refine wp_loop (MkF d2 (.slice lo v lc) (.slice (some ⟨u4,y1,none⟩) f8 e4) (.slice j6 v j5) (.slice F k E) (.slice I0 d2 H9) (fun r=>(j3.take r).contains s) b5) (fun a _=>((d2:Int) - intOf (a.tmps.getD 27 undef)).toNat) ?_ ?_
 ·exact⟨0,by omega,rfl,⟨rfl,rfl,rfl,rfl,rfl,rfl,rfl,rfl⟩,Qa.refl _ _⟩
 rintro⟨t,_⟩ f7 ⟨r,E3,d7,⟨X,T,U,V,d4,d5,o0,t9⟩,o⟩;dsimp only at o0;subst d7;obtain⟨e7,B⟩:=Zi X;obtain⟨f,rfl⟩:∃ x,x=e7:=⟨_,rfl⟩;have e2:t=#[f 0,f 1,f 2,f 3,f 4,f 5,f 6,f 7,f 8,f 9,f 10,f 11,f 12,f 13,f 14,f 15,f 16,f 17,f 18,f 19,f 20,f 21,f 22,f 23,f 24,f 25,f 26,f 27,f 28,f 29,f 30,f 31,f 32,f 33,f 34,f 35,f 36,f 37,f 38,f 39,f 40,f 41,f 42,f 43,f 44,f 45,f 46,f 47,f 48,f 49,f 50,f 51,f 52,f 53,f 54,f 55,f 56,f 57,f 58,f 59,f 60,f 61,f 62,f 63,f 64,f 65,f 66,f 67,f 68,f 69,f 70,f 71,f 72,f 73,f 74,f 75,f 76,f 77,f 78,f 79,f 80,f 81,f 82,f 83,f 84,f 85,f 86,f 87,f 88,f 89,f 90,f 91,f 92,f 93,f 94,f 95,f 96,f 97,f 98,f 99,f 100,f 101,f 102,f 103,f 104,f 105,f 106,f 107,f 108,f 109,f 110,f 111,f 112,f 113,f 114,f 115,f 116,f 117,f 118,f 119,f 120,f 121,f 122,f 123,f 124,f 125,f 126,f 127,f 128,f 129,f 130,f 131,f 132,f 133,f 134,f 135,f 136,f 137,f 138,f 139,f 140,f 141,f 142,f 143,f 144,f 145,f 146,f 147,f 148,f 149,f 150,f 151,f 152,f 153,f 154,f 155,f 156,f 157,f 158,f 159,f 160,f 161,f 162,f 163,f 164,f 165,f 166,f 167,f 168,f 169,f 170,f 171,f 172,f 173,f 174,f 175,f 176,f 177,f 178,f 179,f 180,f 181,f 182,f 183,f 184,f 185,f 186,f 187,f 188,f 189,f 190,f 191,f 192,f 193,f 194,f 195,f 196,f 197,f 198,f 199,f 200,f 201,f 202,f 203,f 204,f 205,f 206,f 207,f 208,f 209,f 210,f 211,f 212,f 213,f 214,f 215,f 216,f 217,f 218,f 219,f 220,f 221,f 222,f 223,f 224,f 225,f 226,f 227,f 228,f 229,f 230,f 231,f 232,f 233,f 234,f 235,f 236,f 237,f 238,f 239,f 240,f 241,f 242,f 243,f 244,f 245,f 246,f 247,f 248,f 249,f 250]:=B;clear B;subst e2;change f 0=_ at T;change f 7=_ at U;change f 8=_ at V;change f 11=_ at d4;change f 24=_ at d5;change f 26=_ at o0;change f 27=_ at t9;rw [T,U,V,d4,d5,o0,t9];clear T U V d4 d5 o0 t9 X;have G:=Zh o;clear o;obtain⟨B5,k1⟩:=zE ((j3.take r).contains s);rw [k1];by_cases E6:r<d2;case pos=>
  have u7:(r:Int)<(d2:Int):=by omega
  have E4:(0:Int)<=(r:Int):=by omega
  have E5:r<j3.length:=by rw [Z.out];exact E6
  have p3:=Q8m (x:=s) E5;have P9:IntKind.i64.wrap ((r:Int)+1)=(r:Int)+1:=IntWalk.i64_in _ oz;obtain⟨b1,M,c1⟩:=i9.out.ext G.out;obtain⟨q2,e4,i4,b0⟩:=c1 r E5;rw [Z.out] at M;obtain⟨K5,M9,J9,l0,_,b8⟩:=Vt M E6;simp only [zV] at l0;obtain⟨k9,l7,a3⟩:=l0;subst k9 a3;rw [i4] at b8;obtain⟨C,z⟩:=zE (j3[r]);rw [z] at b8 b0 p3;obtain⟨N0,c8⟩:=zE C.length;have b9:=fun(d:Nat)=>Va (.slice q2 C.length e4) (.slice j6 v j5) C s (f7.drewN d) (b0.drewN d) (by rw [b4.out];exact((n0.out.ext f2.out).ext G.out).drewN d);rw [c8] at b8 b9;rw [k1] at p3;have A1:=Zh p3;have j1:=Zh (b9 0);clear p3 b9 M c1 i4 b0 l7 k1 c8 z f0 i9 r8 m6 d1 m7 m8 c9 f3 b3 f1 a0 j2 n3 b4 n0 n5;cases B5 with
  | true=>
   clear j1;go_wp2;exact⟨⟨r+1,by omega,tz,⟨rfl,rfl,rfl,rfl,rfl,rfl,by dsimp only;rw [A1.out];rfl,rfl⟩,G.out⟩,mz⟩
  | false=>
   go_wp2_with fail;refine j1.out.mono ?_;rintro e t0 ⟨rfl,Q2,C9⟩;have j7:Ext b5 t0:=by rw [C9];exact G.out.drewN _
   have e8:=Zh j7;clear C9 j7 b8 j1;go_wp2;exact⟨⟨r+1,by omega,tz,⟨rfl,rfl,rfl,rfl,rfl,rfl,by dsimp only;rw [A1.out];rfl,rfl⟩,e8.out⟩,mz⟩
 obtain rfl:r=d2:=by omega
 have u7:¬ (r:Int)<(r:Int):=by omega
 have L1:B5=true:=by
  rw [<-k1,List.take_of_length_le (by rw [Z.out];exact Nat.le_refl _),List.contains_iff_mem,<-f0.out];exact r8.out
 subst L1;clear k1;have i8:=Zh (I6.out.trans (f2.out.trans G.out));clear r8;by_cases k7:k=0
 ·have L9:j=[]:=List.eq_nil_of_length_eq_zero (by rw [d1.out];exact k7);subst L9;have L5:r=f8:=by rw [<-Z.out,<-f0.out,f3.out];exact n5.out
  subst k7 L5;clear f0 i9 m6 d1 m7 m8 c9 f3 b3 f1 a0 j2 n3 b4 n0 n5 Z;go_wp2_with fail;refine(f6.out f7 i8.out).mono ?_;rintro e t0 ⟨rfl,g⟩;have a5:=Zh (i8.out.trans g);clear g;go_wp2;go_ret;exact⟨rfl,a5.out⟩
 cases j with
 | nil=>exact absurd d1.out.symm k7
 | cons q j=>
  have a3:=m7.out;have G2:=m8.out;have w5:=a0.out;have D7:=b3.out;cases us with
  | nil=>exact absurd w5.symm k7
  | cons u0 us=>
   have F0:j.map (·.1)=Wq n6 us:=by
    unfold Wq at a3 ⊢;rw [List.map_cons,List.map_cons,List.cons.injEq] at a3;exact a3.2
   rw [List.length_cons] at w5;have v9:j.length=k - 1:=by have:=d1.out;rw [List.length_cons] at this;omega
   have H:=f1.out j (k - 1) us F0 v9 oz (fun f B=>D7 f (by simp [B])) (fun f B=>G2 f (by simp [B]));obtain⟨e6,e5,G7,G1⟩:=Q24 (Z3 m6.out (f2.out.trans G.out)) d1.out L6
   have I3:∀ D,(Instr.slice 61 (.slice F k E) (some (.int .i64 1)) none none).run Tryz.prog D=.ok (.slice e6 (k - 1) e5) D:=fun D=>by
    have:=Mn (P:=Tryz.prog) (t:=61) (size:=2) (A:=F) (n:=k) (c:=E) kz (fun D=>by rfl) 1 oz D;rw [G7] at this;exact this
   have O:=c9.out f7 i8.out j e6 (k - 1) e5 G1 v9;simp only [H.al,H.oe] at O;have p2:=f0.out;rw [Q41] at p2;obtain⟨b2,C1⟩:=zE (Ze (ps.map (·.1)) j v);obtain⟨p,J⟩:∃ p:List Nat->Bool,(fun x=>xB (Yw (ps.map (·.1)) x (some q.1.1)) q.1.2)=p:=⟨_,rfl⟩;rw [C1] at O p2;rw [J] at p2;subst p2;obtain⟨Q1,v7⟩:=zE (k - 1);rw [v7] at O;simp only [v7] at I3;obtain⟨a8,d8⟩:=zE b2.length;rw [d8] at O;have P4:r<=a8:=by rw [<-d8,<-Z.out];exact List.length_filter_le _ _
   have P1:(0:Int)<(k:Int):=by omega
   have P2:¬ (k:Int)=0:=by omega
   have P5:¬ (a8:Int)<(r:Int):=by omega
   have y9:=Zh O;have m0:=Zh d8;clear G7 G1 O C1 J v7 d8 v9 H F0 w5 D7 a3 G2 f0 m6 d1 m7 m8 c9 f3 b3 f1 a0 j2 n3 b4 n0 n5;go_wp2_with fail;refine y9.out.mono ?_;rintro e J7 ⟨K2,K0,rfl,v6,g⟩;have K1:a8<=maxLen:=by obtain⟨_,l1,_⟩:=v6;rw [<-m0.out];exact l1.2.1
   unfold maxLen at K1;obtain⟨m1,e9,m2⟩:=Zh3 v6 (i8.out.trans g) ((i9.out.ext G.out).ext g);clear g v6 y9 i9 G f2 i8 I3;go_wp2;refine wp_loop (MkG a8 (.slice I0 r H9) (.slice K2 a8 K0) (fun x=>((b2.take x).filter p).length) J7) (fun a _=>((a8:Int) - intOf (a.tmps.getD 31 undef)).toNat) ?_ ?_
   ·exact⟨0,by omega,rfl,⟨rfl,rfl,rfl,rfl,rfl⟩,Qa.refl _ _⟩
   rintro⟨t,_⟩ f7 ⟨x,w6,d7,⟨X,d5,u1,o1,u2⟩,o⟩;dsimp only at o1;subst d7;obtain⟨e7,B⟩:=Zi X;obtain⟨f,rfl⟩:∃ x,x=e7:=⟨_,rfl⟩;have e2:t=#[f 0,f 1,f 2,f 3,f 4,f 5,f 6,f 7,f 8,f 9,f 10,f 11,f 12,f 13,f 14,f 15,f 16,f 17,f 18,f 19,f 20,f 21,f 22,f 23,f 24,f 25,f 26,f 27,f 28,f 29,f 30,f 31,f 32,f 33,f 34,f 35,f 36,f 37,f 38,f 39,f 40,f 41,f 42,f 43,f 44,f 45,f 46,f 47,f 48,f 49,f 50,f 51,f 52,f 53,f 54,f 55,f 56,f 57,f 58,f 59,f 60,f 61,f 62,f 63,f 64,f 65,f 66,f 67,f 68,f 69,f 70,f 71,f 72,f 73,f 74,f 75,f 76,f 77,f 78,f 79,f 80,f 81,f 82,f 83,f 84,f 85,f 86,f 87,f 88,f 89,f 90,f 91,f 92,f 93,f 94,f 95,f 96,f 97,f 98,f 99,f 100,f 101,f 102,f 103,f 104,f 105,f 106,f 107,f 108,f 109,f 110,f 111,f 112,f 113,f 114,f 115,f 116,f 117,f 118,f 119,f 120,f 121,f 122,f 123,f 124,f 125,f 126,f 127,f 128,f 129,f 130,f 131,f 132,f 133,f 134,f 135,f 136,f 137,f 138,f 139,f 140,f 141,f 142,f 143,f 144,f 145,f 146,f 147,f 148,f 149,f 150,f 151,f 152,f 153,f 154,f 155,f 156,f 157,f 158,f 159,f 160,f 161,f 162,f 163,f 164,f 165,f 166,f 167,f 168,f 169,f 170,f 171,f 172,f 173,f 174,f 175,f 176,f 177,f 178,f 179,f 180,f 181,f 182,f 183,f 184,f 185,f 186,f 187,f 188,f 189,f 190,f 191,f 192,f 193,f 194,f 195,f 196,f 197,f 198,f 199,f 200,f 201,f 202,f 203,f 204,f 205,f 206,f 207,f 208,f 209,f 210,f 211,f 212,f 213,f 214,f 215,f 216,f 217,f 218,f 219,f 220,f 221,f 222,f 223,f 224,f 225,f 226,f 227,f 228,f 229,f 230,f 231,f 232,f 233,f 234,f 235,f 236,f 237,f 238,f 239,f 240,f 241,f 242,f 243,f 244,f 245,f 246,f 247,f 248,f 249,f 250]:=B;clear B;subst e2;change f 24=_ at d5;change f 28=_ at u1;change f 30=_ at o1;change f 31=_ at u2;rw [d5,u1,o1,u2];clear d5 u1 o1 u2 X;have G:=Zh o;clear o;by_cases H6:x<a8;case neg=>
    obtain rfl:x=a8:=by omega
    have K6:¬ (x:Int)<(x:Int):=by omega
    have E9:((b2.take x).filter p).length=r:=by rw [List.take_of_length_le (by rw [m0.out];exact Nat.le_refl _)];exact Z.out
    rw [E9];clear E9 m1 m2;go_wp2_with fail;refine(f6.out f7 (e9.out.trans G.out)).mono ?_;rintro e t0 ⟨rfl,g⟩;have a5:=Zh ((e9.out.trans G.out).trans g);clear g;go_wp2;go_ret;exact⟨rfl,a5.out⟩
   have K6:(x:Int)<(a8:Int):=by omega
   have M4:(0:Int)<=(x:Int):=by omega
   have w7:x<b2.length:=by rw [m0.out];exact H6
   have Q0:IntKind.i64.wrap ((x:Int)+1)=(x:Int)+1:=IntWalk.i64_in _ oz;have a4:=S4 p w7;have a2:=Q0i (p:=p) w7;obtain⟨K,g1⟩:=zE (((b2.take x).filter p).length);have O6:K<=x:=by rw [<-g1];exact Nat.le_trans (List.length_filter_le _ _) (by rw [List.length_take];omega)
   rw [g1] at a4 a2 ⊢;have P7:IntKind.i64.wrap ((K:Int)+1)=(K:Int)+1:=IntWalk.i64_in _ oz;have O5:(0:Int)<=(K:Int):=by omega
   obtain⟨b1,M,c1⟩:=m1.out.ext G.out;obtain⟨q2,e4,i4,b0⟩:=c1 x w7;rw [m0.out] at M;obtain⟨O1,I1,N7,G3,_,o9⟩:=Vt M H6;simp only [zV] at G3;obtain⟨k9,l7,a3⟩:=G3;subst k9 a3;rw [i4] at o9;obtain⟨C,z⟩:=zE (b2[x]);rw [z] at o9 b0 a4 a2;rw [Z.out] at a2;have m4:=Zh a4;have m3:=Zh a2;clear a4 a2 M c1 i4 l7 z g1;by_cases o4:K<r;case neg=>
    have u3:¬ (K:Int)<(r:Int):=by omega
    have G0:¬ p C=true:=fun h=>o4 (m3.out.2 h).1;have c0:=m4.out;rw [if_neg G0,Nat.add_zero] at c0;have f5:=Zh c0;have K4:decide ((K:Int)<(r:Int))=false:=decide_eq_false u3;clear c0 G0 m4 m3 o9 b0 m1 m2;go_wp2
    go_quiet (fail)
    go_wp2;exact⟨⟨x+1,by omega,tz,⟨rfl,rfl,rfl,by dsimp only;rw [f5.out];rfl,rfl⟩,G.out.drewN _⟩,mz⟩
   have u3:(K:Int)<(r:Int):=by omega
   have K4:decide ((K:Int)<(r:Int))=true:=decide_eq_true u3;have v0:K<(b2.filter p).length:=by rw [Z.out];exact o4
   obtain⟨us,w3,G9⟩:=m2.out.ext G.out;obtain⟨M8,M7,I2,y5⟩:=G9 K v0;rw [Z.out] at w3;obtain⟨K5,M9,J9,l0,_,b8⟩:=Vt w3 o4;simp only [zV] at l0;obtain⟨k9,l7,a3⟩:=l0;subst k9 a3;rw [I2] at b8;have a2:=m3.out;rw [List.getElem?_eq_getElem v0] at a2;obtain⟨u,H8⟩:=zE ((b2.filter p)[K]);rw [H8] at b8 y5 a2;have D9:p C=decide (u=C):=by
    rw [Bool.eq_iff_iff,decide_eq_true_iff,<-a2];simp [o4]
   have c0:=m4.out;have b9:=fun(d:Nat)=>Va (.slice M8 u.length M7) (.slice q2 C.length e4) u C (f7.drewN d) (y5.drewN d) (b0.drewN d);rw [D9] at c0;obtain⟨J8,v3⟩:=zE (decide (u=C));rw [v3] at c0;simp only [v3] at b9;obtain⟨R3,w9⟩:=zE u.length;obtain⟨N0,c8⟩:=zE C.length;rw [w9] at b8;rw [c8] at o9;simp only [w9,c8] at b9;have f5:=Zh c0;have j1:=Zh b9;clear c0 b9 v3 D9 a2 H8 w9 c8 I2 y5 b0 w3 G9 l7 m3 m4 m1 m2 v0;go_wp2
   go_quiet ((go_at_call 36;exact Calls.quiet_of (j1.out _)))
   cases J8 with
   | true=>
    have e1:=f5.out;rw [if_pos rfl] at e1;have s3:=Zh e1;clear e1 f5;go_wp2;exact⟨⟨x+1,by omega,tz,⟨rfl,rfl,rfl,by dsimp only;rw [s3.out];rfl,rfl⟩,G.out.drewN _⟩,mz⟩
   | false=>
    have e1:=f5.out;rw [if_neg Bool.false_ne_true,Nat.add_zero] at e1;have s3:=Zh e1;clear e1 f5;go_wp2;exact⟨⟨x+1,by omega,tz,⟨rfl,rfl,rfl,by dsimp only;rw [s3.out];rfl,rfl⟩,G.out.drewN _⟩,mz⟩
end Go.Proofs.YtfdlhlghcbeblaaGreatDoor
