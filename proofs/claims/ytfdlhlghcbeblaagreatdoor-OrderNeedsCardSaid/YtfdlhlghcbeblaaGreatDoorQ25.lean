/- order.Chronology. ablautlaw14.OrderNeeds: the walk (printed by genrows14.py). -/
import Derived.Test.YtfdlhlghcbeblaaGreatDoorQ24
set_option maxRecDepth 100000
set_option maxHeartbeats 16000000
namespace Go.Proofs.YtfdlhlghcbeblaaGreatDoor
open Go.RowKit Go.Ab
attribute [local go_sem] Oper.semAt_some Zi Qz
def Hs(LD:List Q5)(qs:Q9):Nat->Nat->Bool:=Fg (Y7 (Yp LD qs LD.length))
theorem Q0t{LD:List Q5}{qs:Q9}(h:Xs LD qs=0):Rel LD.length (Hs LD qs)/\U5 LD qs=Xh LD.length (Hs LD qs)/\LD.length<=6:=by
 have b:U5 LD qs=Xh LD.length (Hs LD qs):=by unfold U5;rw [if_pos h];rfl
 unfold Xs at h;by_cases a:Qu LD (qs.map (·.1))=0
 ·rw [if_pos a] at h;refine⟨Qax (Bu LD qs _) (fun e=>?_),b,(V4 a).1⟩;rw [e] at h;cases h
 ·rw [if_neg a] at h;exact absurd h a
def Qgb(E:Int)(n base:Nat)(R:Nat->Nat->Bool)(v:Option Addr)(W:World):Prop:=(E≠0->v=none)/\(E=0->∃ b,v=some ⟨b,0,none⟩/\base<=b/\Mh W b n R)
theorem Qg4{w:World}{v:Value}{n f:Nat}{xs:List Value}(h:Rd w v n f xs):Qw (fun g=>g<w.heap.size) v:=by
 intro g o m j b c;subst b;obtain⟨_,_,i,k,a,d⟩:=h;simp only [zV] at a;obtain⟨rfl,rfl,rfl⟩:=a;obtain⟨l,p,a,e,_⟩:=d c;cases a;exact e
theorem Qfs{X:List (Int × Int)} {k:Nat} (a:k<X.length):(prs X).getD (k*2) undef=.int .i64 X[k].1/\(prs X).getD (k*2+1) undef=.int .i64 X[k].2:=by
 rw [Rj X k a,Rq X k a,List.getD_eq_getElem?_getD,List.getElem?_eq_getElem a];exact⟨rfl,rfl⟩
theorem Q9o{w:World}{ps:Qi}{qs:Q9}{lo:Option Addr}{n lc:Nat}{d5:Option Addr}{m d4:Nat}(Z:Z5 w (.slice lo n lc) ps) (H:ps.length=n) (c5:Z7 w (.slice d5 m d4) qs) (c1:qs.length=m) (E:Tab w) :
  Calls Tryz.prog 46 #[.slice lo n lc,.slice d5 m d4] w fun e w'=>∃ v,e=.returned (.tuple #[.pointer v,.int .i64 (Xs (ps.map (·.1)) qs)])/\Qgb (Xs (ps.map (·.1)) qs) n w.heap.size (Hs (ps.map (·.1)) qs) v w'/\Ext w w':=by
 have I:=P0 Z H c5 c1 E;have f3:n<=maxLen:=by rw [<-H];exact Z.1.2.1
 have c8:0<w.heap.size:=by
  obtain⟨i2,f7,_⟩:=Fe (E 0 zd);exact(Array.getElem?_eq_some_iff.1 f7).1
 obtain⟨d,Q⟩:=zE (ps.map (·.1));have b1:d.length=n:=by rw [<-Q,List.length_map,H]
 rw [Q] at I ⊢;have r:Xs d qs=0->Rel n (Hs d qs)/\U5 d qs=Xh n (Hs d qs)/\n<=6:=fun h=>by have:=Q0t h;rw [b1] at this;exact this
 have c3:Xs d qs≠0->U5 d qs=[]:=fun h=>by unfold U5;rw [if_neg h]
 obtain⟨u,R⟩:=zE (Hs d qs);obtain⟨s,l⟩:=zE (Xs d qs);obtain⟨p,S⟩:=zE (U5 d qs);rw [R,l,S] at r;rw [l,S] at I c3;rw [R,l];obtain⟨a4,a7,e2,e4⟩:=Zh4 I r E c8;clear I r c3 l S R b1 Q Z H c5 c1 E c8;unfold maxLen at f3;go_enter Tryz.func46,Tryz.ntmps46;go_wp2_with fail;refine a4.out.mono ?_;rintro e i ⟨f9,f8,rfl,b7,b0⟩;have M:=Zh b7;have o:=Zh b0;clear b7 b0 a4;by_cases O:s=0;case neg=>
  have i0:(s != 0)=true:=by simpa using O
  go_wp2;go_ret2;exact⟨none,rfl,⟨fun _=>rfl,fun h=>absurd h O⟩,o.out⟩
 subst O;obtain⟨r,d1,g9⟩:=a7.out uz;have a6:=Zh r;have a9:=Zh d1;clear r d1 a7;go_wp2_with fail;refine(Qgs n oz i).mono ?_;rintro e i6 ⟨rfl,P,q⟩;obtain⟨f,C⟩:=zE i.heap.size;rw [C] at q ⊢;have f5:w.heap.size<=f:=by rw [<-C];exact o.out.size
 obtain⟨k,K⟩:=zE p.length;have J:=M.out.ext P;rw [K] at J ⊢;have f6:k<=maxLen:=J.2.1;unfold maxLen at f6;obtain⟨a8,g0,d9,e0⟩:=Zh4 K J P q;have W:=fun b (hW:Q0 (fun c=>¬ c<i.heap.size) i b)=>Lf M.out hW (Qg4 M.out);rw [K] at W;have d8:=Zh W;have d7:=Zh C;clear W C K J P q;go_wp2
 refine wp_loop (fun g b=>∃(a:Nat) (y:Nat->Nat->Bool),a<=k/\g.defers=[]/\gS g [8,30,31,32]=(47,[.pointer (some ⟨f,0,none⟩),.slice f9 k f8,.int .i64 k,.int .i64 a])/\Mh b f n y/\Und n u y (p.take a)/\Q0 (fun c=>¬ c<i.heap.size) i b)
  (fun g _=>((k:Int) - intOf (g.tmps.getD 32 undef)).toNat) ?_ ?_
 ·exact⟨0,_,by omega,rfl,rfl,e0.out,Und.start,Ext.of d9.out⟩
 rintro⟨i4,_⟩ b ⟨a,y,g8,f0,c7,c4,c9,b4⟩;subst f0;obtain⟨i5,rfl⟩:=Qj c7;clear c7;obtain⟨a5,L,t⟩:=Zh3 c4 c9 b4;clear c4 c9 b4;by_cases f2:a<k;case neg=>
  obtain rfl:a=k:=by omega
  have e9:¬ (a:Int)<(a:Int):=by omega
  have Y:=L.out;rw [List.take_of_length_le (by rw [a8.out];exact Nat.le_refl _),a9.out] at Y;have f1:=Und.done a6.out Y;subst f1;clear Y;go_wp2;go_ret2;exact⟨some ⟨f,0,none⟩,rfl,⟨fun h=>absurd rfl h,fun _=>⟨f,rfl,f5,a5.out⟩⟩,Q0.after o.out t.out (fun c b9 h=>by have:=o.out.size;omega)⟩
 have e9:(a:Int)<(k:Int):=by omega
 have g5:(0:Int)<=(a:Int):=by omega
 have G:a<p.length:=by rw [a8.out];exact f2
 have f4:=d8.out b t.out;obtain⟨_,_,g2,g3,c6,d6⟩:=f4;simp only [zV,true_and] at c6;obtain⟨rfl,rfl⟩:=c6;obtain⟨g4,i3,rfl,g7,X⟩:=d6 oz;have A:=X (a*2) oz;have B:=X (a*2+1) oz;obtain⟨d2,d3⟩:=Qfs G;rw [d2] at A;rw [d3,<-Nat.add_assoc] at B;have c2:p[a]∈Xh n u:=by rw [<-a9.out];exact List.getElem_mem G
 obtain⟨g,c,b8,g6,b9,b3⟩:=Bx.1 c2;have a0:=List.take_succ_eq_append_getElem G;rw [b8] at A B a0;dsimp only at A B;obtain⟨c0,d0⟩:=Und.step a6.out L.out b3;have U:=fun(V:World) (l:Ext b V)=>Qdd f n y oz L.out.rel V (a5.out.keep l id) (e2.out.keep (Q0.after o.out (t.out.trans l.of) (fun c b9 h=>by have:=o.out.size;omega):Ext w V) id) (by have:=e4.out;omega) (g:Int) (c:Int);rw [c0] at U;obtain⟨e6,a2,e5⟩:=Zh3 d0 U a0;have i1:IntKind.i64.wrap ((a:Int)+1)=(a:Int)+1:=IntWalk.i64_in _ oz;clear d0 U a0 c0 d2 d3 b8 c2 b3 X d6 G;go_upto_region 10 with (fail)
 obtain⟨N,F⟩:=zE (b.alloc (.cells #[.int .i64 (g:Int),.int .i64 (c:Int)] 73));have b2:Ext b N:=by rw [<-F];exact(Q0.refl _ b).alloc _
 have a1:N.heap[b.heap.size]?=some (.cells #[.int .i64 (g:Int),.int .i64 (c:Int)] 73 (0,0)):=by rw [<-F];exact Q3 rfl
 obtain⟨g1,T⟩:=zE b.heap.size;rw [T] at a1;rw [F,T];have e8:=zR a1;have a3:=Zh b2;clear F b2 a1 T A B;go_wp2_with fail;refine(a2.out N a3.out).mono ?_;rintro e e7 ⟨rfl,b5,q⟩;have b6:Q0 (fun c=>¬ c<i.heap.size) i e7:=(t.out.trans a3.out.of).trans (b5.mono fun c _ e h=>by have:=d7.out;omega);have e1:=Zh q;have e3:=Zh b6;clear q b6 b5 a2 e8;go_wp2;exact⟨⟨a+1,_,by omega,tz,rfl,e1.out,by rw [e5.out];exact e6.out,e3.out⟩,mz⟩
theorem Q4r{w:World}{ps:Qi}{qs:Q9}{lo:Option Addr}{n lc:Nat}{c6:Option Addr}{m c5:Nat}(v:Z5 w (.slice lo n lc) ps) (t:ps.length=n) (y:Z7 w (.slice c6 m c5) qs) (x:qs.length=m) (F:Tab w) :
  Calls Tryz.prog 9 #[.slice lo n lc,.slice c6 m c5] w fun e w'=>e=.returned (.bool true)/\Ext w w':=by
 have d6:n<=maxLen:=by rw [<-t];exact v.1.2.1
 have d4:m<=maxLen:=by rw [<-x];exact y.1.2.1
 unfold maxLen at d6 d4;have b6:=fun(V:World) (hE:Ext w V)=>M6 (v.ext hE) t (Qg y hE) x;have c2:=fun(V:World) (hE:Ext w V)=>Fb V (F.keep hE id);have P:=fun(V:World) (hE:Ext w V)=>P0 (v.ext hE) t (Qg y hE) x (F.keep hE id);have G:=fun(V:World) (hE:Ext w V)=>Q5g (v.ext hE) t (Qg y hE) x;simp only [Eh.1,Eh.2] at G;have O:=fun(V:World) (hE:Ext w V)=>Q9o (v.ext hE) t (Qg y hE) x (F.keep hE id);have g:=fun(h:Xs (ps.map (·.1)) qs=0)=>Q0t h;simp only [List.length_map,t] at g;have g:Xs (ps.map (·.1)) qs=0->U5 (ps.map (·.1)) qs=Xh n (Hs (ps.map (·.1)) qs)/\n<=64:=fun h=>⟨(g h).2.1,by have:=(g h).2.2;omega⟩;have b9:=F;obtain⟨b0,l⟩:=zE (Xs (ps.map (·.1)) qs);simp only [l] at P G O g;clear l;obtain⟨b,l⟩:=zE (U5 (ps.map (·.1)) qs);simp only [l] at P G g;clear l;obtain⟨p,l⟩:=zE (Hs (ps.map (·.1)) qs);simp only [l] at O g;clear l;obtain⟨a5,U,W,T,R,H,a9⟩:=Zh7 b6 c2 P G O g b9;clear v t y x F b6 c2 P G O g b9;go_enter Tryz.func9,Tryz.ntmps9;have d0:Ext w w:=Q0.refl _ _;go_wp2_with fail;refine(a5.out _ (Q0.refl _ _)).mono ?_;rintro e a3 ⟨J,rfl,a⟩;have q:Ext w a3:=a;clear a a5 d0;cases J with
 | false=>
  clear W T R H a9;go_wp2_with fail;refine(U.out _ q).mono ?_;rintro e u ⟨rfl,a⟩;have d1:Ext a3 u:=a;have r:Ext w u:=q.trans a;clear a;have z:=Zh r;clear q r;go_wp2;go_ret;exact⟨rfl,z.out⟩
 | true=>
  go_wp2_with fail;refine(W.out _ q).mono ?_;rintro e u ⟨Y,X,rfl,f,a⟩;have d1:Ext a3 u:=a;have r:Ext w u:=q.trans a;clear a;have I:Hid (∀ D,Ext u D->Rd D (.slice Y b.length X) b.length 2 (prs b)):=Zh (fun D hD=>f.ext hD);clear f;clear W;go_wp2_with fail;refine(T.out _ r).mono ?_;rintro e Q ⟨L,K,rfl,f,a⟩;have b3:Ext u Q:=a;have M:Ext w Q:=r.trans a;clear a;have A:Hid (∀ D,Ext Q D->Rd D (.slice L b.length K) b.length 2 (prs b)):=Zh (fun D hD=>f.ext hD);clear f;clear T;go_wp2_with fail;refine(R.out _ M).mono ?_;rintro e o ⟨d7,rfl,b4,a⟩;have C:Ext Q o:=a;have N:Ext w o:=M.trans a;clear a;have S:=Zh b4;clear b4 R;obtain⟨c0,c1⟩:=S.out;by_cases a2:b0=0;case neg=>
   obtain rfl:=c0 a2;have d9:(b0 != 0)=true:=by simp [a2]
   clear c1 S H;have c:=Nm (.slice Y b.length X) (.slice L b.length K) b b o (I.out _ (b3.trans C)) (A.out _ C);rw [decide_eq_true rfl] at c;have j:=Zh c;clear c;go_wp2_with fail;refine j.out.mono ?_;rintro e i ⟨rfl,c4,k⟩;have E:Ext o i:=by rw [k];exact(Q0.refl _ o).drewN _
   have s:Ext w i:=N.trans E;clear k j I A;go_wp2_with fail;refine(U.out _ s).mono ?_;rintro e d ⟨rfl,a⟩;have a0:Ext i d:=a;have B:Ext w d:=s.trans a;clear a;have z:=Zh B;clear q r M N s B;go_wp2;go_ret;exact⟨rfl,z.out⟩
  subst a2;obtain⟨J,rfl,d3,b7⟩:=c1 uz;obtain⟨c3,d5⟩:=H.out uz;have a7:=Zh b7;have c9:=Zh c3;clear c0 b7 d3 c3 S H;have c:=Nm (.slice Y b.length X) (.slice L b.length K) b b o (I.out _ (b3.trans C)) (A.out _ C);rw [decide_eq_true rfl] at c;have j:=Zh c;clear c;go_wp2_with fail;refine j.out.mono ?_;rintro e i ⟨rfl,c4,k⟩;have E:Ext o i:=by rw [k];exact(Q0.refl _ o).drewN _
  have s:Ext w i:=N.trans E;clear k j I;have a1:=a7.out.keep E id;have b5:=Nj J n i a1.n;have b8:=Qff J n p d5 i a1 (a9.out.keep s id);have a6:=Zh b5;have a8:=Zh b8;clear a1 b5 b8 a7;go_wp2_with fail;refine a6.out.mono ?_;rintro e d ⟨rfl,rfl⟩;clear a6;go_wp2_with fail;refine a8.out.mono ?_;rintro e d ⟨c7,rfl,a,f⟩;have a0:Ext i d:=a;have B:Ext w d:=s.trans a0;rw [<-c9.out] at f;have b1:Hid (Rd d c7 b.length 2 (prs b)):=Zh (Rd.of_own f);clear a f a8;have c:=Nm (c7) (.slice L b.length K) b b d (b1.out) (A.out _ (C.trans (E.trans a0)));rw [decide_eq_true rfl] at c;have j:=Zh c;clear c;go_wp2_with fail;refine j.out.mono ?_;rintro e a4 ⟨rfl,c4,k⟩;have d2:Ext d a4:=by rw [k];exact(Q0.refl _ d).drewN _
  have Z:Ext w a4:=B.trans d2;clear k j b1 A;go_wp2_with fail;refine(U.out _ Z).mono ?_;rintro e c8 ⟨rfl,a⟩;have d8:Ext a4 c8:=a;have b2:Ext w c8:=Z.trans a;clear a;have z:=Zh b2;clear q r M N s B Z b2;go_wp2;go_ret;exact⟨rfl,z.out⟩
end Go.Proofs.YtfdlhlghcbeblaaGreatDoor
