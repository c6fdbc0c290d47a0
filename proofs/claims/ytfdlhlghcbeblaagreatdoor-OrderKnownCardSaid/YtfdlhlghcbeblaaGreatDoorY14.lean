/- math/bits.Len64, of a row. -/
import Derived.Test.YtfdlhlghcbeblaaGreatDoorY13
import Derived.Lib.Strings
import Derived.Lib.Slices
import Derived.Lib.Small
import Derived.Lib.Walk
import Derived.Lib.BitFns
set_option maxRecDepth 100000
set_option maxHeartbeats 16000000
namespace Go.Proofs.YtfdlhlghcbeblaaGreatDoor
open Go.RowKit Go.Ab
theorem Rr:Lib.len8tab.size=256:=by decide +kernel
theorem Q7x:∀ n:Fin Lib.len8tab.size,(Lib.len8tab[n.val]).toNat=Lib.bitLen n.val:=by decide +kernel
theorem Cc(y:Nat)(h:y<Lib.len8tab.size):(Lib.len8tab[y]).toNat=Lib.bitLen y/\Lib.bitLen y<=8:=⟨Q7x ⟨y,h⟩,Lib.bitLen_le8 ⟨y,by rw [<-Rr];exact h⟩⟩
theorem Q77(x y s:Nat)(a:x<18446744073709551616)(b:y=x / 2 ^ s)(h:2 ^ s<=x):Lib.bitLen x=s+Lib.bitLen y:=by
 rw [b];exact Lib.bitLen_shift s x h a
theorem Mg(s:Int)(b:Nat)(c:0<=s/\s<=56)(a:b<=8):wrap64 (s+wrap64 (b:Int))=s+b:=by
 unfold wrap64;omega
theorem K9{x:Int}(e:0<=x)(j:x<=18446744073709551615)(y:Int)(s:Nat)(k:s<=56)(g:y=x / ((2 ^ s:Nat):Int)) (f:((2 ^ s:Nat):Int)<=x) (_hhi:y<256) (h:y.toNat<Lib.len8tab.size) :
  wrap64 ((s:Int)+wrap64 ((Lib.len8tab[y.toNat]).toNat:Int))=(Lib.bitLen x.toNat:Int):=by
 obtain⟨c,d⟩:=Cc y.toNat h;rw [c,Mg _ _ ⟨by omega,by omega⟩ d];obtain⟨a,rfl⟩:=Int.eq_ofNat_of_zero_le e;have i:y.toNat=a / 2 ^ s:=by
  have b:((a:Int) / ((2 ^ s:Nat):Int))=((a / 2 ^ s:Nat):Int):=(Int.natCast_ediv a (2 ^ s)).symm;rw [g,b,Int.toNat_natCast]
 have:=Q77 a y.toNat s oz i (by exact_mod_cast f);rw [Int.toNat_natCast,this];omega
theorem Q4p{x:Int}(_h0:0<=x)(_hhi:x<256)(h:x.toNat<Lib.len8tab.size) :
  wrap64 (wrap64 ((Lib.len8tab[x.toNat]).toNat:Int))=(Lib.bitLen x.toNat:Int):=by
 obtain⟨a,b⟩:=Cc x.toNat h;rw [a];have:=Mg 0 (Lib.bitLen x.toNat) oz b;rw [Int.zero_add,Int.zero_add] at this;exact this
theorem Q4w(x:Int)(w:World)(a:0<=x)(b:x<=18446744073709551615) :
  Calls Tryz.prog 241 #[.int .u64 x] w fun e w'=>e=.returned (.int .i64 (Lib.bitLen x.toNat))/\w'=w:=by
 have c:=Rr;go_enter Tryz.func241,Tryz.ntmps241;go_wp2
 all_goals
  refine bodyPost_ret (results_tmp rfl _ _ _) rfl ⟨?_,rfl⟩;show Ending.returned (.int .i64 _)=Ending.returned (.int .i64 _);refine Zm ?_
 all_goals first
  | exact K9 a b (x / 4294967296 / 65536 / 256) 56 oz oz oz oz _
  | exact K9 a b (x / 4294967296 / 65536) 48 oz oz oz oz _
  | exact K9 a b (x / 4294967296 / 256) 40 oz oz oz oz _
  | exact K9 a b (x / 4294967296) 32 oz oz oz oz _
  | exact K9 a b (x / 65536 / 256) 24 oz oz oz oz _
  | exact K9 a b (x / 65536) 16 oz oz oz oz _
  | exact K9 a b (x / 256) 8 oz oz oz oz _
  | exact Q4p a oz _
attribute [local go_sem] Oper.semAt_some Zf Qp
theorem Q5f(x y:Int)(w:World):Calls Tryz.prog 237 #[.int .i64 x,.int .i64 y] w fun e w'=>e=.returned (.bool (decide (x<y)))/\w=w':=by
 have a:(x != x)=false:=by simp
 have b:(y != y)=false:=by simp
 go_enter Tryz.func237,Tryz.ntmps237;go_wp2;go_ret;exact⟨rfl,rfl⟩
theorem Q0c{w:World}{base n cap:Nat}{ao:Option Addr}{I:List Int}(F:w.ownsRow base 3 1 (.slice ao n cap) n (Z7 I)) (e0:I.length=n) (f5:n<=12) :
  Calls Tryz.prog 231 #[.slice ao n cap,.int .i64 0,.int .i64 n] w fun e w'=>e=.returned (.tuple #[])/\(∃ X:List Int,X.Perm I/\X.Pairwise (·<=·)/\w'.ownsRow base 3 1 (.slice ao n cap) n (Z7 X))/\Q1 (fun b=>(Value.slice ao n cap).ownBlock=some b) w w':=by
 have e6:=Zh F;have a8:=Zh e0;clear F e0;go_enter Tryz.func231,Tryz.ntmps231;go_wp2
 refine wp_loop (fun a l=>∃(i:Nat) (X:List Int),1<=i/\i<=n+1/\a.defers=[]/\(a.tmps.size=49/\a.tmps.getD 0 undef=.slice ao n cap/\a.tmps.getD 1 undef=.int .i64 0/\a.tmps.getD 2 undef=.int .i64 n/\a.tmps.getD 6 undef=.int .i64 i)/\X.Perm I/\(∀ p q,p<q->q<i->q<n->X.getD p 0<=X.getD q 0)/\l.ownsRow base 3 1 (.slice ao n cap) n (Z7 X)/\Q1 (fun b=>(Value.slice ao n cap).ownBlock=some b) w l)
  (fun a _=>n+1 - (intOf (a.tmps.getD 6 undef)).toNat) ?_ ?_
 ·exact⟨1,I,by omega,by omega,rfl,⟨rfl,rfl,rfl,rfl,rfl⟩,List.Perm.refl _,fun p q r h2=>by omega,e6.out,Q1.refl _ _⟩
 rintro⟨c9,_⟩ l ⟨i,X,f6,f7,c0,⟨a5,J,M,N,O⟩,W,e3,F,Z⟩;subst c0;obtain⟨d0,a6⟩:=Zd a5;obtain⟨c,rfl⟩:∃ x,x=d0:=⟨_,rfl⟩;have c6:c9=#[c 0,c 1,c 2,c 3,c 4,c 5,c 6,c 7,c 8,c 9,c 10,c 11,c 12,c 13,c 14,c 15,c 16,c 17,c 18,c 19,c 20,c 21,c 22,c 23,c 24,c 25,c 26,c 27,c 28,c 29,c 30,c 31,c 32,c 33,c 34,c 35,c 36,c 37,c 38,c 39,c 40,c 41,c 42,c 43,c 44,c 45,c 46,c 47,c 48]:=a6;clear a6;subst c6;change c 0=_ at J;change c 1=_ at M;change c 2=_ at N;change c 6=_ at O;rw [J,M,N,O];clear J M N O a5;obtain⟨u,b6,m,o⟩:=Zh4 W e3 F Z;clear W e3 F Z;by_cases e9:i<n;case neg=>
  have r:¬ ((i:Int)<(n:Int)):=by omega
  have e2:=Tp (L:=X) (fun p q r h2=>b6.out p q r (by have:=u.out.length_eq;have:=a8.out;omega) (by have:=u.out.length_eq;have:=a8.out;omega));have G:=Zh e2;clear e2;go_wp2;exact bodyPost_end (results_none rfl _ _ _) rfl ⟨rfl,⟨X,u.out,G.out,m.out⟩,o.out⟩
 have r:(i:Int)<(n:Int):=by omega
 have d8:I.length=n:=a8.out;have f2:=Zh d8;clear d8;have e4:Kt X i i:=Kt.start (fun p q r h2=>b6.out p q r h2 oz);have d2:=Zh e4;clear e4 b6;go_wp2
 refine wp_loop (fun a l=>∃(j:Nat) (X:List Int),j<=i/\a.defers=[]/\(a.tmps.size=49/\a.tmps.getD 0 undef=.slice ao n cap/\a.tmps.getD 1 undef=.int .i64 0/\a.tmps.getD 2 undef=.int .i64 n/\a.tmps.getD 6 undef=.int .i64 i/\a.tmps.getD 7 undef=.int .i64 j)/\X.Perm I/\Kt X i j/\l.ownsRow base 3 1 (.slice ao n cap) n (Z7 X)/\Q1 (fun b=>(Value.slice ao n cap).ownBlock=some b) w l)
  (fun a _=>(intOf (a.tmps.getD 7 undef)).toNat) ?_ ?_
 ·exact⟨i,X,by omega,rfl,⟨rfl,rfl,rfl,rfl,rfl,rfl⟩,u.out,d2.out,m.out,o.out⟩
 clear u d2 m o X;rintro⟨c9,_⟩ l ⟨j,X,d7,c0,⟨a5,J,M,N,O,b8⟩,W,d5,F,Z⟩;subst c0;obtain⟨d0,a6⟩:=Zd a5;obtain⟨c,rfl⟩:∃ x,x=d0:=⟨_,rfl⟩;have c6:c9=#[c 0,c 1,c 2,c 3,c 4,c 5,c 6,c 7,c 8,c 9,c 10,c 11,c 12,c 13,c 14,c 15,c 16,c 17,c 18,c 19,c 20,c 21,c 22,c 23,c 24,c 25,c 26,c 27,c 28,c 29,c 30,c 31,c 32,c 33,c 34,c 35,c 36,c 37,c 38,c 39,c 40,c 41,c 42,c 43,c 44,c 45,c 46,c 47,c 48]:=a6;clear a6;subst c6;change c 0=_ at J;change c 1=_ at M;change c 2=_ at N;change c 6=_ at O;change c 7=_ at b8;rw [J,M,N,O,b8];clear J M N O b8 a5;obtain⟨u,b4,m,o⟩:=Zh4 W d5 F Z;have d4:X.length=n:=by rw [W.length_eq];exact a8.out
 have H:=Zh d4;clear W d5 F Z d4;by_cases f0:j=0
 ·subst f0;have a3:=b4.out.stop oz (.inl rfl);have a7:=Zh a3;clear a3;go_upto_region 4 with (fail)
  refine Z5 (S:=fun _=>True) [] kz trivial ?_;intro k;refine tE 0 16 trivial ?_;refine tE 1 17 trivial ?_;refine tE 2 18 trivial ?_;refine tE 3 19 trivial ?_;refine tkE (i:=4) (d:=20) (v:=undef) rfl (Or.inr ⟨by rfl,rfl⟩) trivial ?_;try simp only [Act.put,pq]
  refine tkE (i:=5) (d:=21) (v:=undef) rfl (Or.inr ⟨by rfl,rfl⟩) trivial ?_;try simp only [Act.put,pq]
  refine tkE (i:=6) (d:=22) (v:=undef) rfl (Or.inr ⟨by rfl,rfl⟩) trivial ?_;try simp only [Act.put,pq]
  refine tkE (i:=7) (d:=23) (v:=undef) rfl (Or.inr ⟨by rfl,rfl⟩) trivial ?_;try simp only [Act.put,pq]
  refine tkE (i:=8) (d:=24) (v:=undef) rfl (Or.inr ⟨by rfl,rfl⟩) trivial ?_;try simp only [Act.put,pq]
  refine tkE (i:=9) (d:=25) (v:=undef) rfl (Or.inr ⟨by rfl,rfl⟩) trivial ?_;try simp only [Act.put,pq]
  refine tkE (i:=10) (d:=26) (v:=undef) rfl (Or.inr ⟨by rfl,rfl⟩) trivial ?_;try simp only [Act.put,pq]
  refine tkE (i:=11) (d:=27) (v:=undef) rfl (Or.inr ⟨by rfl,rfl⟩) trivial ?_;try simp only [Act.put,pq]
  refine tkE (i:=12) (d:=28) (v:=undef) rfl (Or.inr ⟨by rfl,rfl⟩) trivial ?_;try simp only [Act.put,pq]
  refine tkE (i:=13) (d:=29) (v:=undef) rfl (Or.inr ⟨by rfl,rfl⟩) trivial ?_;try simp only [Act.put,pq]
  refine tE 14 30 trivial ?_;refine Qm kz ?_ _;have e8:=Zh (o.out.drew);have e7:=Zh (Qf m.out (Q1.drew (Q1.refl _ l)));clear o m;go_wp2;exact⟨⟨i+1,X,by omega,by omega,tz,⟨rfl,rfl,rfl,rfl,by first | rfl | simp⟩,u.out,fun p q r h2 h3=>a7.out p q r oz,e7.out,e8.out⟩,nz⟩
 obtain⟨f,rfl⟩:∃ f,j=f+1:=⟨j - 1,by omega⟩;obtain⟨g,rfl⟩:=Dd m.out oz;have b2:=m.out.cellAt (f+1) oz;have b1:=m.out.cellAt f oz;rw [H8 X (by rw [H.out];omega)] at b2 b1;obtain⟨C,c8⟩:=zE (X.getD (f+1) 0);obtain⟨B,c7⟩:=zE (X.getD f 0);rw [c8] at b2;rw [c7] at b1;have U:=Zh c8;have T:=Zh c7;have d6:∀(D:World),Ext l D->D.cell? ⟨g,f+1,none⟩=some (.int .i64 C)/\D.cell? ⟨g,f,none⟩=some (.int .i64 B):=fun D hD=>⟨hD.cell_some b2 id,hD.cell_some b1 id⟩;have G:=Zh d6;clear d6 b2 b1 c8 c7;have f1:IntKind.i64.wrap (f:Int)=(f:Int):=IntWalk.i64_in _ oz;have c5:((f:Int)+1).toNat=f+1:=by omega
 have c1:(0:Int)<(f:Int)+1:=by omega
 have c2:(0:Int)<=(f:Int)+1:=by omega
 have c3:(f:Int)+1<(n:Int):=by omega
 have c4:(f:Int)<(n:Int):=by omega
 go_upto_region 4 with (fail)
 refine Z5 (S:=fun D=>D.cell? ⟨g,f+1,none⟩=some (.int .i64 C)/\D.cell? ⟨g,f,none⟩=some (.int .i64 B)) [] kz (G.out _ (Q1.drew (Q1.refl _ l))) ?_;intro k;refine tE 0 16 k ?_;refine tE 1 17 k ?_;refine tE 2 18 k ?_;refine tE 3 19 k ?_;refine tE 4 20 k ?_;refine tE 5 21 k ?_;refine tE 6 22 k ?_;refine tE 7 23 k ?_;refine tE 8 24 k ?_;refine tE 9 25 k ?_;refine tE 10 26 k ?_;refine tE 11 27 k ?_;refine tE 12 28 k ?_;refine rE [13] ?_;refine Q2.cons rfl (fun K hK=>?_) Q2.nil;refine iw rfl ?_;go_simp;refine(Q5f _ _ _).mono ?_;rintro e f8 ⟨rfl,rfl⟩;refine hK.out _ _ k (fun _=>?_);clear hK K;try simp only [Act.put,pq]
 refine tE 14 30 k ?_;refine Qm kz ?_ _;have b3:Ext l l.drew:=Q1.drew (Q1.refl _ l);have a9:=Zh (Qf m.out b3);have b0:=Zh (o.out.drew);by_cases d9:C<B;case neg=>
  have a3:=b4.out.stop d7 (.inr ⟨f,rfl,by rw [U.out,T.out];exact d9⟩);have a7:=Zh a3;clear a3 k f1 c5 c1 c2 c3 c4 G m o;go_wp2
  first
   | exact⟨⟨i+1,X,by omega,by omega,tz,⟨rfl,rfl,rfl,rfl,by first | rfl | simp⟩,u.out,fun p q r h2 h3=>a7.out p q r oz,a9.out,b0.out⟩,nz⟩
   | exact⟨⟨i+1,by omega,by omega,by simp,X,u.out,fun p q r h2 h3=>a7.out p q r oz,a9.out,b0.out⟩,nz⟩
 have e5:=b4.out.swap d7 (by rw [H.out];exact e9) (by rw [U.out,T.out];exact d9);have e1:=(Eb X (j:=f) (by rw [H.out];omega)).trans u.out;have d3:=Zh e5;have d1:=Zh e1;clear e5 e1;go_upto_region 6 with (fail)
 obtain⟨y,b9⟩:=zE l.drew.drew;have V:Ext l y:=by rw [<-b9];exact b3.drew
 have E:=Zh (Qf m.out V);obtain⟨f4,f3⟩:=G.out _ V;refine Z5 (S:=fun _=>True) [] kz trivial ?_;intro k;rw [b9];clear b9;refine tE 0 33 trivial ?_;refine tE 1 34 trivial ?_;refine tE 2 35 trivial ?_;refine tE 3 36 trivial ?_;refine tE 4 37 trivial ?_;refine tE 5 38 trivial ?_;refine tE 6 39 trivial ?_;refine tE 7 40 trivial ?_;refine tE 8 41 trivial ?_;refine tE 10 43 trivial ?_;refine tE 11 44 trivial ?_;refine tE 12 45 trivial ?_;refine rE [9,13] ?_;refine Q2.cons rfl (fun K hK=>?_) (Q2.cons rfl (fun K hK=>?_) Q2.nil)
 ·refine iw rfl ?_;go_simp;refine hK.out _ _ trivial (fun _=>?_);clear hK K;try simp only [Act.put,pq]
  refine rE [13] ?_;refine Q2.cons rfl (fun K hK=>?_) Q2.nil;refine iw rfl ?_;go_simp;refine hK.out _ _ trivial (fun _=>?_);clear hK K;try simp only [Act.put,pq]
  refine tE 14 47 trivial ?_;refine rE [15] ?_;refine Q2.cons rfl (fun K hK=>?_) Q2.nil;refine iw rfl ?_;have s:=E.out.cellAt (f+1) oz;rw [H8 X (by rw [H.out];omega),U.out] at s;have P:=E.out.frozenAt (f+1);go_simp;refine hK.out _ _ trivial (fun _=>?_);clear hK K s P
  (try change Qj _ _ _ _ _ _ _ _ (Act.put _ none _) _)
  (try simp only [Act.put])
  have t:=Vd E.out (f+1) (.int .i64 B);have Q:Q1 (fun b=>b=g) y (y.setCell ⟨g,f+1,none⟩ (.int .i64 B)):=Q1.set1 y g (f+1) _;obtain⟨z,a1⟩:=zE (y.setCell ⟨g,f+1,none⟩ (.int .i64 B));rw [a1] at t Q ⊢;clear a1;refine tE 16 48 trivial ?_;refine rE [17] ?_;refine Q2.cons rfl (fun K hK=>?_) Q2.nil;refine iw rfl ?_;have s:=t.cellAt f oz;rw [List.getElem?_set_ne oz,H8 X (by rw [H.out];omega),T.out] at s;have P:=t.frozenAt f;go_simp;refine hK.out _ _ trivial (fun _=>?_);clear hK K s P
  (try change Qj _ _ _ _ _ _ _ _ (Act.put _ none _) _)
  (try simp only [Act.put])
  have A:=Vd t f (.int .i64 C);have R:Q1 (fun b=>b=g) z (z.setCell ⟨g,f,none⟩ (.int .i64 C)):=Q1.set1 z g f _;obtain⟨Y,a2⟩:=zE (z.setCell ⟨g,f,none⟩ (.int .i64 C));rw [a2] at A R ⊢;clear a2;refine Qm kz ?_ _;have a4:Y.ownsRow base 3 1 (.slice (some ⟨g,0,none⟩) n cap) n (Z7 (Vv X f)):=by
   rw [Dc,Dc] at A;unfold Vv;rw [U.out,T.out];exact A
  have a0:Q1 (fun b=>(Value.slice (some ⟨g,0,none⟩) n cap).ownBlock=some b) w Y:=o.out.trans ((Ext.of V).trans ((Q.trans R).mono fun b _ e=>by subst e;rfl));have b5:=Zh a4;have b7:=Zh a0;clear a4 a0 A t Q R c5 c1 c2 c3 c4 G m o a9 b0 E V b3;go_wp2;exact⟨⟨f,Vv X f,by omega,tz,⟨rfl,rfl,rfl,rfl,rfl,by first | rfl | simp⟩,d1.out,d3.out,b5.out,b7.out⟩,mz⟩
 ·refine iw rfl ?_;go_simp;refine hK.out _ _ trivial (fun _=>?_);clear hK K;try simp only [Act.put,pq]
  refine rE [9] ?_;refine Q2.cons rfl (fun K hK=>?_) Q2.nil;refine iw rfl ?_;go_simp;refine hK.out _ _ trivial (fun _=>?_);clear hK K;try simp only [Act.put,pq]
  refine tE 14 47 trivial ?_;refine rE [15] ?_;refine Q2.cons rfl (fun K hK=>?_) Q2.nil;refine iw rfl ?_;have s:=E.out.cellAt (f+1) oz;rw [H8 X (by rw [H.out];omega),U.out] at s;have P:=E.out.frozenAt (f+1);go_simp;refine hK.out _ _ trivial (fun _=>?_);clear hK K s P
  (try change Qj _ _ _ _ _ _ _ _ (Act.put _ none _) _)
  (try simp only [Act.put])
  have t:=Vd E.out (f+1) (.int .i64 B);have Q:Q1 (fun b=>b=g) y (y.setCell ⟨g,f+1,none⟩ (.int .i64 B)):=Q1.set1 y g (f+1) _;obtain⟨z,a1⟩:=zE (y.setCell ⟨g,f+1,none⟩ (.int .i64 B));rw [a1] at t Q ⊢;clear a1;refine tE 16 48 trivial ?_;refine rE [17] ?_;refine Q2.cons rfl (fun K hK=>?_) Q2.nil;refine iw rfl ?_;have s:=t.cellAt f oz;rw [List.getElem?_set_ne oz,H8 X (by rw [H.out];omega),T.out] at s;have P:=t.frozenAt f;go_simp;refine hK.out _ _ trivial (fun _=>?_);clear hK K s P
  (try change Qj _ _ _ _ _ _ _ _ (Act.put _ none _) _)
  (try simp only [Act.put])
  have A:=Vd t f (.int .i64 C);have R:Q1 (fun b=>b=g) z (z.setCell ⟨g,f,none⟩ (.int .i64 C)):=Q1.set1 z g f _;obtain⟨Y,a2⟩:=zE (z.setCell ⟨g,f,none⟩ (.int .i64 C));rw [a2] at A R ⊢;clear a2;refine Qm kz ?_ _;have a4:Y.ownsRow base 3 1 (.slice (some ⟨g,0,none⟩) n cap) n (Z7 (Vv X f)):=by
   rw [Dc,Dc] at A;unfold Vv;rw [U.out,T.out];exact A
  have a0:Q1 (fun b=>(Value.slice (some ⟨g,0,none⟩) n cap).ownBlock=some b) w Y:=o.out.trans ((Ext.of V).trans ((Q.trans R).mono fun b _ e=>by subst e;rfl));have b5:=Zh a4;have b7:=Zh a0;clear a4 a0 A t Q R c5 c1 c2 c3 c4 G m o a9 b0 E V b3;go_wp2;exact⟨⟨f,Vv X f,by omega,tz,⟨rfl,rfl,rfl,rfl,rfl,by first | rfl | simp⟩,d1.out,d3.out,b5.out,b7.out⟩,mz⟩
theorem Q6s{w:World}{base n cap:Nat}{ao:Option Addr}{d:List Int}(z:Int)(k:w.ownsRow base 3 1 (.slice ao n cap) n (Z7 d)) (p:d.length=n) (v:n<=12) :
  Calls Tryz.prog 202 #[.slice ao n cap,.int .i64 0,.int .i64 n,.int .i64 z] w fun e w'=>e=.returned (.tuple #[])/\(∃ X:List Int,X.Perm d/\X.Pairwise (·<=·)/\w'.ownsRow base 3 1 (.slice ao n cap) n (Z7 X))/\Q1 (fun b=>(Value.slice ao n cap).ownBlock=some b) w w':=by
 have o:=Q0c k p v;have s:=Zh o;have D:(n:Int)<=12:=by omega
 clear k p o;go_enter Tryz.func202,Tryz.ntmps202;go_wp2;refine wp_loop (fun a j=>a.defers=[]/\(a.tmps.size=134/\a.tmps.getD 0 undef=.slice ao n cap/\a.tmps.getD 1 undef=.int .i64 0/\a.tmps.getD 2 undef=.int .i64 n)/\w=j) (fun _ _=>0) ?_ ?_
 ·exact⟨rfl,⟨rfl,rfl,rfl,rfl⟩,rfl⟩
 rintro⟨B,_⟩ j ⟨y,⟨q,f,g,i⟩,rfl⟩;subst y;obtain⟨C,r⟩:=Zd q;obtain⟨c,rfl⟩:∃ x,x=C:=⟨_,rfl⟩;have A:B=#[c 0,c 1,c 2,c 3,c 4,c 5,c 6,c 7,c 8,c 9,c 10,c 11,c 12,c 13,c 14,c 15,c 16,c 17,c 18,c 19,c 20,c 21,c 22,c 23,c 24,c 25,c 26,c 27,c 28,c 29,c 30,c 31,c 32,c 33,c 34,c 35,c 36,c 37,c 38,c 39,c 40,c 41,c 42,c 43,c 44,c 45,c 46,c 47,c 48,c 49,c 50,c 51,c 52,c 53,c 54,c 55,c 56,c 57,c 58,c 59,c 60,c 61,c 62,c 63,c 64,c 65,c 66,c 67,c 68,c 69,c 70,c 71,c 72,c 73,c 74,c 75,c 76,c 77,c 78,c 79,c 80,c 81,c 82,c 83,c 84,c 85,c 86,c 87,c 88,c 89,c 90,c 91,c 92,c 93,c 94,c 95,c 96,c 97,c 98,c 99,c 100,c 101,c 102,c 103,c 104,c 105,c 106,c 107,c 108,c 109,c 110,c 111,c 112,c 113,c 114,c 115,c 116,c 117,c 118,c 119,c 120,c 121,c 122,c 123,c 124,c 125,c 126,c 127,c 128,c 129,c 130,c 131,c 132,c 133]:=r;clear r;subst A;change c 0=_ at f;change c 1=_ at g;change c 2=_ at i;rw [f,g,i];clear f g i q;go_wp2_with fail;refine s.out.mono ?_;rintro e E ⟨rfl,m,l⟩;have u:=Zh m;have t:=Zh l;clear m l;go_wp2;exact bodyPost_ret (results_none rfl _ _ _) rfl ⟨rfl,u.out,t.out⟩
theorem Q4t{w:World}{base n cap:Nat}{ao:Option Addr}{a:List Int}(c:w.ownsRow base 3 1 (.slice ao n cap) n (Z7 a)) (g:a.length=n) (k:n<=12) :
  Calls Tryz.prog 177 #[.slice ao n cap] w fun e w'=>e=.returned (.tuple #[])/\(∃ X:List Int,X.Perm a/\X.Pairwise (·<=·)/\w'.ownsRow base 3 1 (.slice ao n cap) n (Z7 X))/\Q1 (fun b=>(Value.slice ao n cap).ownBlock=some b) w w':=by
 have d:=fun(z:Int)=>Q6s z c g k;have i:=Zh d;have f:=fun(W:World)=>Q4w (n:Int) W oz oz;have j:=Zh f;clear c g d f;go_enter Tryz.func177,Tryz.ntmps177
 go_wp2_with (first | (go_at_call 241;refine(j.out _).mono ?_;rintro e w' ⟨rfl,rfl⟩) | (go_at_call 203;go_in) | (go_at_call 202;refine(i.out _).mono ?_;rintro e o ⟨rfl,m,l⟩))
 exact bodyPost_end (results_none rfl _ _ _) rfl ⟨rfl,m,l⟩
end Go.Proofs.YtfdlhlghcbeblaaGreatDoor
