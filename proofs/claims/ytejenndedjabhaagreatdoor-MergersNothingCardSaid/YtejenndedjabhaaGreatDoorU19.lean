/- ablautref10.Check. -/
import Derived.Test.YtejenndedjabhaaGreatDoorU17
import Derived.Test.YtejenndedjabhaaGreatDoorU18
set_option maxRecDepth 100000
set_option maxHeartbeats 16000000
namespace Go.Proofs.YtejenndedjabhaaGreatDoor
open Go.RowKit Go.Ab
attribute [local go_sem] Oper.semAt_some Z3 Qj
def Xt(DS PL:List Wd)(N k:Nat):List Int:=(List.range N).map fun i=>if i<k then Y2 PL (DS.getD i []) N else 0
theorem Ps(DS PL:List Wd)(N:Nat):Za (Xt DS PL N 0)=List.replicate N (.int .i64 0):=by
 unfold Xt Za;apply List.ext_getElem
 ·simp
 ·intro c a b;simp
theorem Ry{DS PL:List Wd}{N:Nat}(h:DS.length=N)(c:PL.length=N):Xt DS PL N N=Kb DS PL:=by
 unfold Xt Kb;rw [c];apply List.ext_getElem
 ·simp [h]
 ·intro a b f;have d:a<N:=by simpa using b
  have e:a<DS.length:=by omega
  simp [d,e]
theorem Rc{DS PL:List Wd}{N k:Nat}(_:k<N):(Za (Xt DS PL N k)).set k (.int .i64 (Y2 PL (DS.getD k []) N))=Za (Xt DS PL N (k+1)):=by
 unfold Xt Za;apply List.ext_getElem
 ·simp
 ·intro a e d;have f:a<N:=by simpa using d
  rw [List.getElem_set];by_cases b:k=a
  ·subst b;simp
  ·rw [if_neg b];simp only [List.getElem_map,List.getElem_range];by_cases c:a<k
   ·rw [if_pos c,if_pos oz]
   ·rw [if_neg c,if_neg oz]
theorem Te{DS PL:List Wd}{N k i:Nat}(hi:i<N):∃ x:Int,(Za (Xt DS PL N k))[i]?=some (.int .i64 x):=⟨_,by unfold Xt Za;rw [List.getElem?_map,List.getElem?_map,List.getElem?_range hi];rfl⟩
def Zm(a b ss:Wd):List Wd:=ss.map (Qg a b)
theorem L4{a b ss:Wd}{k:Nat}(h:k<ss.length):(Zm a b ss).getD k []=Qg a b ss[k]:=by unfold Zm;simp [h]
theorem Q0b{a b ss:Wd}(c:Z8 a)(d:Z8 b)(e:Z8 ss):Hj (Zm a b ss):=by
 intro j f;obtain⟨i,g,rfl⟩:=List.mem_map.1 f;exact Gs c d (e i g)
theorem Tn{ls:List Q4}{a b ss:Wd}(h:Zx ls a b ss=0):a.length<=32/\b.length<=32:=by
 unfold Zx at h
 split at h
 ·rename_i c
  have:=Hb c;exact⟨Jy this.2.1,Jy this.2.2⟩
 ·rename_i c;exact absurd h c
def Jm(ls:List Q4)(a b ss:Wd):List Int:=if Zx ls a b ss=0 then Kb (Zi ls a b ss) (Zm a b ss) else []
theorem Nx{w:World}{ps:Ze}{lo:Option Addr}{n lc:Nat}{m4 m5:Value}{c f ss:Wd}{f9:Option Addr}{N d1:Nat}(e3:Z5 w (.slice lo n lc) ps) (l9:ps.length=n) (W:Q5 w m4 c) (E:Q5 w m5 f) (F:Q5 w (.slice f9 N d1) ss) (a0:ss.length=N) (p0:N<=d1) (l3:Tab w) :
  Calls Tryz.prog 24 #[.slice lo n lc,m4,m5,.slice f9 N d1] w fun e w'=>∃ vo vc,e=.returned (.tuple #[.slice vo (Jm (ps.map (·.1)) c f ss).length vc,.int .i64 (Zx (ps.map (·.1)) c f ss)])/\w'.ownsRow w.heap.size 3 1 (.slice vo (Jm (ps.map (·.1)) c f ss).length vc) (Jm (ps.map (·.1)) c f ss).length (Za (Jm (ps.map (·.1)) c f ss))/\Ext w w':=by
 have f0:=Fe e3 l9 W E F a0 p0 l3;obtain⟨e5,e4⟩:=Rf e3 W E F.2;have c7:=@M2 (ps.map (·.1)) c f ss;have c3:=@Tn (ps.map (·.1)) c f ss;have y:=@Fa (ps.map (·.1)) c f ss;have f2:=Q0b W.2 E.2 F.2;have M:=fun(k:Nat) (h:k<ss.length)=>L4 (a:=c) (b:=f) h;have f1:(Zm c f ss).length=N:=by unfold Zm;rw [List.length_map,a0]
 have L:=fun(i:World) (D:Ext w i) (a4:Nat × Nat) (hx:Qd a4) (a3:c.length+1+f.length<=1000)=>Gf (W.ext D) (E.ext D) hx a3;have f3:Zx (ps.map (·.1)) c f ss≠0->Jm (ps.map (·.1)) c f ss=[]:=fun h=>by unfold Jm;rw [if_neg h]
 have O:Zx (ps.map (·.1)) c f ss=0->Jm (ps.map (·.1)) c f ss=Kb (Zi (ps.map (·.1)) c f ss) (Zm c f ss):=fun h=>by unfold Jm;rw [if_pos h]
 have f5:(Kb (Zi (ps.map (·.1)) c f ss) (Zm c f ss)).length=(Zi (ps.map (·.1)) c f ss).length:=by unfold Kb;rw [List.length_map]
 obtain⟨o0,n9,rfl,o8⟩:=W.slice;obtain⟨o2,o1,rfl,o9⟩:=E.slice;obtain⟨p9,l0⟩:=zE (Jm (ps.map (·.1)) c f ss);obtain⟨k0,b7⟩:=zE (Zx (ps.map (·.1)) c f ss);obtain⟨DS,b2⟩:=zE (Zi (ps.map (·.1)) c f ss);obtain⟨PL,b6⟩:=zE (Zm c f ss);rw [b7,l0] at f3 O ⊢;rw [b2,b6] at O f5;rw [b7,b2] at f0 y;rw [b7] at c7 c3;rw [b2] at e5 e4;rw [b6] at f2 f1;simp only [b6] at M;rw [a0] at c7 y;obtain⟨i5,n3,n2,d4,j8,j9,d2,d6⟩:=Zh8 M f2 f1 L f3 O c3 f0;obtain⟨m7,m6,g6,j6,j2,d5,i0⟩:=Zh7 e5 e4 c7 y f5 F a0;clear f0 e5 e4 c7 y b7 b2 l0 b6 e3 l9 W E F a0 l3 o8 o9 M f2 f1 L f3 O c3 f5;obtain⟨p4,e7⟩:=zE c.length;obtain⟨p5,e8⟩:=zE f.length;rw [e7,e8] at d6 d2 d4 ⊢;have m9:=Zh e7;have n0:=Zh e8;clear e7 e8;go_enter Tryz.func24,Tryz.ntmps24;go_wp2_with fail;refine d6.out.mono ?_;rintro e s ⟨vo,vc,rfl,r,V⟩;have A:=Zh r;have z:=Zh V;clear d6 r V;by_cases a3:k0=0;case neg=>
  have q4:(k0 != 0)=true:=by simpa using a3
  have E:=j8.out a3;subst E;go_wp2;refine bodyPost_ret (Qi rfl _ _ _) rfl ⟨_,_,rfl,World.ownsRow_nil _ _ _ _,z.out⟩
 subst a3;have q1:=g6.out uz;have y:=j6.out uz;obtain⟨X,q3⟩:=d2.out uz;have O:=j9.out uz;have r:=A.out;have P:=j2.out;rw [y] at r P;rw [y];obtain⟨i8,n6,U,j7⟩:=Zh4 O P r y;clear r y A j6 g6 d2 j8 j9 O P j2;obtain⟨u,d8⟩:=zE w.heap.size;have a8:=Zh d8;have o7:u<=s.heap.size:=by have:=z.out.size;omega
 rw [d8] at U;clear d8;have p3:(Instr.makeMap 100 none).run Tryz.prog s=.ok (.map (some s.heap.size)) (s.alloc (.map #[] 0)):=rfl;obtain⟨j,v⟩:=zE s.heap.size;have e6:Z9 Tryz.prog 9 3 (s.alloc (.map #[] 0)) j 0 (Da PL 0) 0:=Z9.made rfl v;have K:Ext s (s.alloc (.map #[] 0)):=(Q0.refl _ s).alloc _;have k8:u<=j:=by omega
 go_upto_region 5 with (fail)
 clear p3;generalize (s.alloc (.map #[] 0))=q7 at e6 K ⊢;obtain⟨g8,a5,g9,i3⟩:=Zh4 e6 (z.out.trans K) k8 (Qa U.out K);have i2:Hid (∀ q,(Value.slice vo N vc).ownBlock=some q->q<j):=Zh fun q l=>by rw [<-v];exact(U.out.lt q l).2
 clear e6 K k8 v U z o7;have i1:Hid (∀ q,(Value.slice vo N vc).ownBlock=some q->q<j):=Zh i2.out;clear i2;go_wp2
 refine wp_loop (fun a i=>∃(k:Nat),k<=N/\a.defers=[]/\gS a [0,1,2,10,12,32,33,34]=(71,[.slice lo n lc,.slice o0 p4 n9,.slice o2 p5 o1,.slice vo N vc,.map (some j),.slice f9 N d1,.int .i64 N,.int .i64 k])/\(∃ g0,Z9 Tryz.prog 9 3 i j k (Da PL k) g0)/\i.ownsRow u 9 1 (.slice vo N vc) N (Di DS)/\Ext w i)
  (fun a _=>N - (intOf (a.tmps.getD 34 undef)).toNat) ?_ ?_
 ·exact⟨0,by omega,rfl,rfl,⟨0,g8.out⟩,i3.out,a5.out⟩
 clear g8 i3 a5;rintro⟨p7,_⟩ i ⟨k,q2,e1,G,⟨g0,v⟩,a1,D⟩;subst e1;obtain⟨p8,rfl⟩:=Qu G;clear G;obtain⟨t,I,p⟩:=Zh3 v a1 D;clear v a1 D;by_cases p1:k<N
 ·have C:(k:Int)<(N:Int):=by omega
  have o6:(0:Int)<=(k:Int):=by omega
  have c6:k<ss.length:=by rw [i0.out];exact p1
  have l4:=(d5.out.ext p.out).at c6;rw [i0.out] at l4;obtain⟨o5,p6,q0,l,l7,b9,c0⟩:=l4;simp only [zV,true_and] at l;obtain⟨rfl,rfl⟩:=l;rw [List.getD_eq_getElem?_getD,List.getElem?_eq_getElem c6,Option.getD_some] at b9 c0;have e9:=d5.out.2 _ (List.getElem_mem c6);have M:=i5.out k c6;obtain⟨a4,F⟩:=zE (ss[k]);rw [F] at b9 c0 e9 M;clear F;obtain⟨m,o⟩:=a4;dsimp only at b9 c0;have n1:Hid (Qd (m,o)):=Zh e9;have i6:=Zh M;clear e9 M;obtain⟨H,k1⟩:=zE i.heap.size;have d0:(i.alloc (.cells #[.int .u32 m,.int .u32 o] 26)).heap[H]?=some (.cells #[.int .u32 m,.int .u32 o] 26 (0,0)):=new_at k1.symm;have V:Ext i (i.alloc (.cells #[.int .u32 m,.int .u32 o] 26)):=(Q0.refl _ i).alloc _;go_upto_region 8 with (fail)
  generalize (i.alloc (.cells #[.int .u32 m,.int .u32 o] 26))=Z at d0 V ⊢;have o3:Z.cell? ⟨H,0,none⟩=some (.int .u32 m):=by rw [cell_of_row Z H 0 _ _ _ d0];rfl
  have o4:Z.cell? ⟨H,1,none⟩=some (.int .u32 o):=by rw [cell_of_row Z H 1 _ _ _ d0];rfl
  have z:=Zh V;clear d0 V k1 b9 c0 l7;have L:=d4.out Z (p.out.trans z.out) (m,o) n1.out oz;unfold sV at L;have g5:=Zh L;clear L;go_wp2_with fail;refine g5.out.mono ?_;rintro e q9 ⟨q6,q5,rfl,m0,k3⟩;obtain⟨_,_,l,m1⟩:=Jc m0;cases l;have c5:=Pf c f (m,o);rw [m9.out,n0.out] at c5;have f7:=Wz m1 rfl (by rw [c5];omega);have c8:=Q4t PL k;rw [i6.out] at c8;have S:(X1 (Qg c f (m,o))).size<=maxLen:=by rw [Ga,c5];unfold maxLen;omega
  have Q:=Vc (Qg c f (m,o));obtain⟨b0,a2⟩:=zE (X1 (Qg c f (m,o)));rw [a2] at f7 S Q;rw [<-Q] at c8;obtain⟨g3,j5,a7,n4⟩:=Zh4 (z.out.trans k3) f7 S c8;clear m0 m1 c5 f7 c8 S Q a2 k3 z o3 o4 g5 i6;go_wp2_with fail;refine j5.out.mono ?_;rintro e r0 ⟨rfl,k4⟩;have b4:=g3.out.trans k4;obtain⟨g7,j1,g4⟩:=Zh3 (t.out.keep b4 id) (Qa I.out b4) (p.out.trans b4);clear j5 k4 b4 t I p g3;have m2:(Lit.int .i64 (k:Int)).wf=true:=by
   show (decide (IntKind.i64.min<=(k:Int)) && decide ((k:Int)<=IntKind.i64.max))=true;rw [Bool.and_eq_true,decide_eq_true_iff,decide_eq_true_iff];have C:IntKind.i64.min=-9223372036854775808:=rfl;have J:IntKind.i64.max=9223372036854775807:=rfl;rw [C,J];omega
  have n7:=Zh m2;clear m2
  go_wp2_with (at_mapUpdate;refine J9 rfl (.tmp 39) (.tmp 44) (.tmp 45) 100 rfl Tryz.underlying9 Tryz.underlying100 Tryz.underlying3 rfl g7.out (by unfold maxLen;omega) b0 rfl a7.out (k:Int) rfl n7.out n4.out ?_)
  intro n8 r2 k6 d7;have l1:=Qc j1.out d7 (fun q l e=>by subst e;have:=i1.out _ l;omega);have K:Ext w n8:=g4.out.after d7 (fun b C e=>by have:=g9.out;have:=a8.out;omega);obtain⟨n5,m8,a5⟩:=Zh3 l1 k6 K;clear l1 k6 K d7 g7 j1 g4;go_wp2;exact⟨⟨k+1,by omega,by first | trivial | rfl,rfl,⟨_,m8.out⟩,n5.out,a5.out⟩,nz⟩
 obtain rfl:k=N:=by omega
 have C:¬ (k:Int)<(k:Int):=by omega
 clear d4 i5 d5;have d9:u<=i.heap.size:=by have:=p.out.size;have:=a8.out;omega
 go_wp2_with (at_make;refine Kj rfl (.tmp 48) (.tmp 48) 36 rfl u 3 _ 8 Tryz.underlying36 Tryz.infoD rfl .i64 .i64 k k k rfl rfl rfl rfl ?c1 ?c2 d9 ?_)
 case c1=>omega
 case c2=>unfold maxLen;omega
 intro q8 b5 b3;rw [<-Ps DS PL k] at b5;obtain⟨B,l6⟩:=zE i.heap.size;rw [l6] at b5 d9 ⊢;obtain⟨i4,g2,Y,j0⟩:=Zh4 b5 (p.out.trans b3) (t.out.keep b3 id) (Qa I.out b3);have d3:Hid (j<B):=Zh (by have:=t.out.lt;omega);clear b5 b3 l6 p t I d9 C;go_wp2
 refine wp_loop (fun a i=>∃(g:Nat),g<=k/\a.defers=[]/\gS a [0,12,15,50,51,52]=(71,[.slice lo n lc,.map (some j),.slice (some ⟨B,0,none⟩) k k,.slice vo k vc,.int .i64 k,.int .i64 g])/\i.ownsRow u 3 1 (.slice (some ⟨B,0,none⟩) k k) k (Za (Xt DS PL k g))/\Z9 Tryz.prog 9 3 i j k (Da PL k) g0/\i.ownsRow u 9 1 (.slice vo k vc) k (Di DS)/\Ext w i)
  (fun a _=>k - (intOf (a.tmps.getD 52 undef)).toNat) ?_ ?_
 ·exact⟨0,by omega,rfl,rfl,i4.out,Y.out,j0.out,g2.out⟩
 clear i4 Y j0 g2;rintro⟨p7,_⟩ i ⟨g,L,e1,G,k9,v,a1,D⟩;subst e1;obtain⟨p8,rfl⟩:=Qu G;clear G;obtain⟨A,t,I,p⟩:=Zh4 k9 v a1 D;clear k9 v a1 D;by_cases c4:g<k;case neg=>
  obtain rfl:g=k:=by omega
  have C:¬ (g:Int)<(g:Int):=by omega
  have r:=A.out;rw [Ry j7.out n2.out,<-i8.out] at r;have P:=n6.out;rw [<-i8.out] at P;have U:=Zh r;have j3:=Zh P;clear r A P;go_wp2;refine bodyPost_ret (Qi rfl _ _ _) rfl ⟨some ⟨B,0,none⟩,g,by rw [j3.out];rfl,by rw [j3.out,a8.out];exact U.out,p.out⟩
 have C:(g:Int)<(k:Int):=by omega
 have o6:(0:Int)<=(g:Int):=by omega
 have e2:g<DS.length:=by rw [j7.out];exact c4
 obtain⟨o5,p6,c2,l,l7,e0⟩:=Zq (Rd.of_own I.out) c4;simp only [zV,true_and] at l;obtain⟨rfl,rfl⟩:=l;rw [T5 e2] at e0;have X:=Q2j n3.out (Hl m7.out g) k;have G:(DS.getD g []).length<=32:=by
  rw [List.getD_eq_getElem?_getD,List.getElem?_eq_getElem e2];exact m6.out _ (List.getElem_mem e2)
 obtain⟨r1,m3⟩:=Te (DS:=DS) (PL:=PL) (k:=g) c4;have f4:=Rc (DS:=DS) (PL:=PL) c4;have l8:=Ny PL (DS.getD g []) k;obtain⟨a9,k5⟩:=zE (Y2 PL (DS.getD g []) k);rw [k5] at X f4 l8;obtain⟨b1,l5⟩:=zE (DS.getD g []);rw [l5] at e0 X G;have S:(X1 b1).size<=maxLen:=by rw [Ga];unfold maxLen;omega
 have Q:=Vc b1;obtain⟨b0,a2⟩:=zE (X1 b1);rw [a2] at e0 S Q;obtain⟨f8,c9⟩:=zE (Da PL k (Qm b1));rw [c9] at X;rw [<-Q] at c9;have p2:=A.out.cellAt g oz;rw [m3] at p2;have c3:=A.out.frozenAt g;have f6:=U4 A.out g (.int .i64 a9);rw [f4] at f6;have b8:=Q0.set1 i B g (.int .i64 a9);have l2:=Qc I.out b8 (fun q l e=>by have:=i1.out _ l;have:=d3.out;omega);have k7:=t.out.keep b8 (by have:=d3.out;omega);have k2:Ext w (i.setCell ⟨B,g,none⟩ (.int .i64 a9)):=p.out.after b8 (fun b C e=>by have:=g9.out;have:=a8.out;have:=d3.out;omega);obtain⟨i7,a7,a6,j4,i9,Y,g1⟩:=Zh7 c9 S X f6 l2 k7 k2;clear c9 S X f6 l2 k7 k2 b8 f4 m3 k5 l5 a2 Q G l8;cases f8;case none=>
  have J:=a6.out;simp only at J;subst J;clear a6
  go_wp2_with (at_lookup;refine Yg rfl (.tmp 58) (.tmp 59) 100 rfl Tryz.underlying9 Tryz.underlying100 Tryz.underlying3 (Tryz.zeroValue3 _) j k rfl t.out b0 rfl a7.out none i7.out ?_)
  exact⟨⟨g+1,by omega,by first | trivial | rfl,rfl,j4.out,Y.out,i9.out,g1.out⟩,nz⟩
 case some q=>
  have J:=a6.out;simp only at J;subst J;clear a6
  go_wp2_with (at_lookup;refine Yg rfl (.tmp 58) (.tmp 59) 100 rfl Tryz.underlying9 Tryz.underlying100 Tryz.underlying3 (Tryz.zeroValue3 _) j k rfl t.out b0 rfl a7.out (some a9) i7.out ?_)
  exact⟨⟨g+1,by omega,by first | trivial | rfl,rfl,j4.out,Y.out,i9.out,g1.out⟩,nz⟩
theorem Q0m:(Tryz.prog.info? 4).map (fun i=>(i.zero,i.size,i.bytes))=some (some (.bool false),1,1):=by kernel_rfl
def K1(BS:List Bool)(N k:Nat):List Value:=(List.range N).map fun i=>Value.bool (if i<k then BS.getD i false else false)
theorem Q0p(BS:List Bool)(N:Nat):K1 BS N 0=List.replicate N (.bool false):=by
 unfold K1;apply List.ext_getElem
 ·simp
 ·intro c a b;simp
theorem Q15{BS:List Bool}{N:Nat}(h:BS.length=N):K1 BS N N=boV BS:=by
 unfold K1 boV;apply List.ext_getElem
 ·simp [h]
 ·intro a b e;have c:a<N:=by simpa using b
  have d:a<BS.length:=by omega
  simp [c,d]
theorem Q2k{BS:List Bool}{N k:Nat}(_:k<N):(K1 BS N k).set k (.bool (BS.getD k false))=K1 BS N (k+1):=by
 unfold K1;apply List.ext_getElem
 ·simp
 ·intro a e d;have f:a<N:=by simpa using d
  rw [List.getElem_set];by_cases b:k=a
  ·subst b;simp
  ·rw [if_neg b];simp only [List.getElem_map,List.getElem_range]
   congr 1
   by_cases c:a<k
   ·rw [if_pos c,if_pos oz]
   ·rw [if_neg c,if_neg oz]
theorem Q2n{BS:List Bool}{N k i:Nat}(hi:i<N):∃ x,(K1 BS N k)[i]?=some (.bool x):=⟨_,by unfold K1;rw [List.getElem?_map,List.getElem?_range hi];rfl⟩
theorem U7(w:World):Z5 w (.slice none 0 0) []:=⟨⟨by simp,by simp [maxLen],none,0,rfl,fun h=>by simp at h⟩,fun p hp=>by cases hp⟩
theorem Np{w:World}{d:Option Addr}{m pc:Nat}{fr:Rg}(j:Vo w (.slice d m pc) fr) (_:fr.length=m) {k:Nat} (i:k<fr.length) :
  ∃ g off fo fc qo qc,d=some ⟨g,off,none⟩/\w.cell? ⟨g,off+k*2,none⟩=some (.slice fo fr[k].1.1.length fc)/\w.cell? ⟨g,off+k*2+1,none⟩=some (.slice qo fr[k].1.2.length qc) /\
   Q5 w (.slice fo fr[k].1.1.length fc) fr[k].1.1/\Q5 w (.slice qo fr[k].1.2.length qc) fr[k].1.2:=by
 obtain⟨g,off,q,a,b,⟨s,t,f,l,o⟩,_⟩:=Gg.at j i;obtain⟨a,r⟩:=a zd;simp only [zV] at a;obtain⟨rfl,_,rfl⟩:=a;rw [f] at b;obtain⟨fo,fc,rfl,n,_⟩:=l;obtain⟨qo,qc,rfl,p,_⟩:=o;have c:=b 0 _ rfl;have e:=b 1 _ rfl;rw [Nat.add_zero] at c;exact⟨g,off,fo,fc,qo,qc,rfl,c,e,n,p⟩
theorem Lf{w:World}{ps:Ze}{lo:Option Addr}{n lc:Nat}{fr:Rg}{c7:Option Addr}{m pc:Nat}{d f:Nat}(k0:Z5 w (.slice lo n lc) ps) (k4:ps.length=n) (k6:Vo w (.slice c7 m pc) fr) (f8:fr.length=m) (k8:Qd (d,f)) (f1:Tab w) :
  Calls Tryz.prog 40 #[.slice lo n lc,.slice c7 m pc,.agg #[.int .u32 (d:Int),.int .u32 (f:Int)]] w fun e w'=>∃ vo vc,e=.returned (.tuple #[.slice vo (Up (ps.map (·.1)) (fr.map (·.1)) (d,f)).length vc,.int .i64 (X4 (ps.map (·.1)) (fr.map (·.1)) (d,f))])/\w'.ownsRow w.heap.size 4 1 (.slice vo (Up (ps.map (·.1)) (fr.map (·.1)) (d,f)).length vc) (Up (ps.map (·.1)) (fr.map (·.1)) (d,f)).length (boV (Up (ps.map (·.1)) (fr.map (·.1)) (d,f)))/\Ext w w':=by
 have o4:=k6.1.2.1;rw [f8] at o4;unfold maxLen at o4;obtain⟨c,e9⟩:=zE (fr.map (·.1));have b8:c.length=m:=by rw [<-e9,List.length_map];exact f8
 have n7:∀ k (h:k<fr.length) (B:k<c.length),c[k]=fr[k].1:=fun k h B=>by subst e9;exact List.getElem_map _
 obtain⟨g,i6⟩:=zE (ps.map (·.1));rw [e9,i6];have K:=fun(o:World) (p:Ext w o)=>Gi (k0.ext p) k4 (f1.keep p id) (lc:=lc);have B:=fun(o:World)=>Yh k8 o;have Y:=fun(o:World) (p:Ext w o) {p0:Option Addr} {o9:Nat} {l:Wd} (c6:Q5 o (.slice p0 l.length o9) l)=>Gh (k0.ext p) k4 c6 rfl (f1.keep p id) (lc:=lc);have a9:=fun(o:World) (p:Ext w o) {A:Option Addr} {fn z:Nat} {H:Option Addr} {qn G:Nat} {l v:Wd} (Q:Q5 o (.slice A fn z) l) (t:Q5 o (.slice H qn G) v)=>Wa (U7 o) rfl Q t (f1.keep p id);simp only [List.map_nil] at a9;simp only [i6] at K Y;have k7:Qz g≠0->X4 g c (d,f)=Qz g:=fun h=>by unfold X4;rw [if_neg h]
 have f9:Qz g=0->256<c.length->X4 g c (d,f)=12:=fun h B=>by unfold X4;rw [if_pos h,if_pos B]
 have a2:Qz g=0->¬ 256<c.length->Ql (Uw c)≠0->X4 g c (d,f)=Ql (Uw c):=fun h B Y=>by unfold X4;rw [if_pos h,if_neg B,if_neg Y]
 have N:Qz g=0->¬ 256<c.length->Ql (Uw c)=0->okS (d,f)=false->X4 g c (d,f)=14:=fun h B Y a9=>by unfold X4;rw [if_pos h,if_neg B,if_pos Y,a9];rfl
 have F:Qz g=0->¬ 256<c.length->Ql (Uw c)=0->okS (d,f)=true->X4 g c (d,f)=Ql (Db g c (d,f)):=fun h B Y a9=>by unfold X4;rw [if_pos h,if_neg B,if_pos Y,a9];rfl
 have b9:X4 g c (d,f)≠0->Up g c (d,f)=[]:=Q5m;have f2:X4 g c (d,f)=0->Up g c (d,f)=frB g c (d,f):=Ci;have j5:=fun(k:Nat) (j9:k<c.length) (h:Ql (Uw c)=0)=>Q5k h j9;have j6:∀ k (h:k<c.length),(Uw c)[k]?=some (Z4 [] c[k].1 c[k].2):=fun k h=>by unfold Uw;rw [List.getElem?_map,List.getElem?_eq_getElem h];rfl
 have j8:∀ k (h:k<c.length),(Db g c (d,f))[k]?=some (Xu g (Qg c[k].1 c[k].2 (d,f))):=fun k h=>by unfold Db;rw [List.getElem?_map,List.getElem?_eq_getElem h];rfl
 have j7:∀ k (h:k<c.length),(frB g c (d,f)).getD k false=!decide (Qg c[k].1 c[k].2 (d,f)=X5 g (Qg c[k].1 c[k].2 (d,f))):=fun k h=>by rw [List.getD_eq_getElem?_getD];unfold frB;simp [h]
 have k1:(Uw c).length=m:=by simp [Uw,b8]
 have k3:(Db g c (d,f)).length=m:=by simp [Db,b8]
 have k2:(frB g c (d,f)).length=m:=by simp [frB,b8]
 obtain⟨l3,i3⟩:=zE (Uw c);obtain⟨l4,i4⟩:=zE (Db g c (d,f));obtain⟨BS,g9⟩:=zE (frB g c (d,f));obtain⟨r9,i8⟩:=zE (X4 g c (d,f));obtain⟨r8,o2⟩:=zE (Up g c (d,f));obtain⟨l2,r⟩:=zE (Qz g);obtain⟨q6,i7⟩:=zE (okS (d,f));rw [i8,o2] at b9 f2 ⊢;rw [g9] at f2;simp only [r] at K;simp only [i7] at B;rw [i8,r] at k7 f9 a2 N F;rw [i3] at a2 N F;rw [i7] at N F;rw [i4] at F;rw [b8] at f9 a2 N F;simp only [i3] at j5 j6 k1;simp only [i4] at j8 k3;simp only [g9] at j7 k2;obtain⟨m2,e3,m1,m0,q3,l6,l7,p6⟩:=Zh8 k6 f8 b8 n7 k8 K B Y;obtain⟨p7,m9,n0,n1,d2,d3,c8,p1⟩:=Zh8 a9 k7 f9 a2 N F b9 f2;obtain⟨q1,p3,p5,p4,m7,m8,g4⟩:=Zh7 j5 j6 j8 j7 k1 k3 k2;clear k0 k4 k6 f8 k8 f1 e9 b8 n7 K B Y a9 k7 f9 a2 N F b9 f2 j5 j6 j8 j7 k1 k3 k2 i3 i4 g9 i8 o2 r i7 i6;have i2:Ext w (w.alloc (.cells #[.int .u32 (d:Int),.int .u32 (f:Int)] 26)):=(Q0.refl _ w).alloc _;have e2:(w.alloc (.cells #[.int .u32 (d:Int),.int .u32 (f:Int)] 26)).heap[w.heap.size]?=some (.cells #[.int .u32 (d:Int),.int .u32 (f:Int)] 26 (0,0)):=new_at rfl;obtain⟨o,j0⟩:=zE (w.alloc (.cells #[.int .u32 (d:Int),.int .u32 (f:Int)] 26));obtain⟨y,j1⟩:=zE w.heap.size;rw [j0] at i2 e2;rw [j1] at e2;obtain⟨e5,d0,g1⟩:=Zh3 j1 j0 i2;clear j0 j1 i2;go_enter Tryz.func40,Tryz.ntmps40;go_upto_region 1 with (fail)
 rw [d0.out,e5.out];clear d0;have I:o.cell? ⟨y,0,none⟩=some (.int .u32 (d:Int)):=by rw [cell_of_row _ _ _ _ _ _ e2];rfl
 have O:o.cell? ⟨y,1,none⟩=some (.int .u32 (f:Int)):=by rw [cell_of_row _ _ _ _ _ _ e2];rfl
 clear e2;go_wp2_with fail;refine(l6.out o g1.out).mono ?_;rintro e r7 ⟨rfl,Z⟩;have a3:=Z.cell_some I id;have a4:=Z.cell_some O id;have V:=Zh (g1.out.trans Z);clear l6 Z I O g1;by_cases u:l2=0;case neg=>
  have c4:(l2 != 0)=true:=by simpa using u
  have C:=m9.out u;subst C;have P:=c8.out u;subst P;go_wp2;refine bodyPost_ret (Qi rfl _ _ _) rfl ⟨_,_,rfl,World.ownsRow_nil _ _ _ _,V.out⟩
 subst u;by_cases f3:256<m
 ·have K:(m:Int) > 256:=by omega
  have C:=n0.out uz f3;subst C;have P:=c8.out zd;subst P;go_wp2;refine bodyPost_ret (Qi rfl _ _ _) rfl ⟨_,_,rfl,World.ownsRow_nil _ _ _ _,V.out⟩
 have K:¬ (m:Int) > 256:=by omega
 have a2:=n1.out uz f3;have N:=d2.out uz f3;have F:=d3.out uz f3;obtain⟨n2,n3,n4⟩:=Zh3 a2 N F;clear m9 n0 n1 d2 d3 a2 N F;go_wp2;clear K
 refine wp_loop (fun a j=>∃(k:Nat),k<=m/\a.defers=[]/\gS a [0,1,5,26,27,28]=(78,[.slice lo n lc,.slice c7 m pc,.pointer (some ⟨y,0,none⟩),.slice c7 m pc,.int .i64 m,.int .i64 k])/\Ql (l3.take k)=0/\Ext r7 j)
  (fun a _=>m - (intOf (a.tmps.getD 28 undef)).toNat) ?_ ?_
 ·exact⟨0,by omega,rfl,rfl,rfl,Q0.refl _ _⟩
 rintro⟨r6,_⟩ j ⟨k,j9,j4,e0,x,p⟩;subst j4;obtain⟨l,rfl⟩:=Qu e0;clear e0;have W:=Zh x;have R:=p.cell_some a3 id;have S:=p.cell_some a4 id;have J:=Zh (V.out.trans p);have m5:=Zh p;clear x p a3 a4 V;by_cases f7:k<m;case pos=>
  have K:(k:Int)<(m:Int):=by omega
  have q9:(0:Int)<=(k:Int):=by omega
  have b4:k<fr.length:=by rw [e3.out];exact f7
  have a0:k<c.length:=by rw [m1.out];exact f7
  have f5:k<l3.length:=by rw [m7.out];exact f7
  obtain⟨g8,r5,A,z,H,G,rfl,a7,a8,Q,t⟩:=Np (Fh m2.out J.out) e3.out b4;have d7:=m0.out k b4 a0;have c0:=p3.out k a0;rw [List.getElem?_eq_getElem f5,Option.some.injEq] at c0;have b3:=Vu f5 W.out;have M:=K4 f5 W.out;rw [d7] at c0;obtain⟨⟨l,v⟩,e1⟩:=zE (fr[k].1);rw [e1] at a7 a8 Q t c0;dsimp only at a7 a8 Q t c0;rw [c0] at b3 M;have b7:=Zh b3;have b6:=Zh M;obtain⟨s,b0⟩:=zE j.heap.size;have a1:(j.alloc (.cells #[.slice A l.length z,.slice H v.length G] 63)).heap[s]?=some (.cells #[.slice A l.length z,.slice H v.length G] 63 (0,0)):=new_at b0.symm;have r:Ext j (j.alloc (.cells #[.slice A l.length z,.slice H v.length G] 63)):=(Q0.refl _ j).alloc _;have b2:=p7.out _ (J.out.trans r) (Q.ext r) (t.ext r);obtain⟨l5,i5⟩:=zE (Z4 [] l v);rw [i5] at b2;obtain⟨p8,U,a6,a5⟩:=Zh4 i5 b0 b2 r;clear b2 r c0 b3 M d7 e1 Q t i5 R S b4 a0 f5;go_upto_region 9 with (fail)
  obtain⟨X,d6⟩:=zE (j.alloc (.cells #[.slice A l.length z,.slice H v.length G] 63));rw [d6] at a1 a5 a6 ⊢;try rw [U.out]
  have g7:X.cell? ⟨s,0,none⟩=some (.slice A l.length z):=by rw [cell_of_row X s 0 _ _ _ a1];rfl
  have c1:X.cell? ⟨s,1,none⟩=some (.slice H v.length G):=by rw [cell_of_row X s 1 _ _ _ a1];rfl
  clear a1 d6 b0 U a7 a8;go_wp2_with fail;refine a6.out.mono ?_;rintro e n5 ⟨rfl,b1⟩;have b5:=Zh (a5.out.trans b1);clear b1 a5 a6 g7 c1;rw [p8.out] at b7 b6;by_cases u:l5=0;case neg=>
   have c4:(l5 != 0)=true:=by simpa using u
   have M:=b6.out u;have C:=n2.out (by rw [M];exact u);rw [M] at C;clear M;subst C;have P:=c8.out u;subst P;go_wp2;refine bodyPost_ret (Qi rfl _ _ _) rfl ⟨_,_,rfl,World.ownsRow_nil _ _ _ _,J.out.trans b5.out⟩
  subst u;go_wp2;exact⟨⟨k+1,by omega,by first | trivial | rfl,rfl,b7.out,m5.out.trans b5.out⟩,nz⟩
 obtain rfl:k=m:=by omega
 have K:¬ (k:Int)<(k:Int):=by omega
 have x:=W.out;rw [List.take_of_length_le (by rw [m7.out];exact Nat.le_refl _)] at x;have q0:=Zh x;have N:=n3.out x;have F:=n4.out x;have d2:=Zh N;have d3:=Zh F;clear N F n2 n3 n4 x W;have t:=l7.out j;unfold sV at t;have d0:=Zh t;clear t l7;go_wp2_with fail;refine d0.out.mono ?_;rintro e g6 ⟨rfl,Z⟩;have I:=Z.cell_some R id;have O:=Z.cell_some S id;have V:=Zh (J.out.trans Z);clear d0 Z R S J m5;cases q6 with
 | false=>
  have C:=d2.out uz;subst C;have P:=c8.out zd;subst P;go_wp2;refine bodyPost_ret (Qi rfl _ _ _) rfl ⟨_,_,rfl,World.ownsRow_nil _ _ _ _,V.out⟩
 | true=>
 have C:=d3.out uz;have m4:=Zh C;clear C d2 d3;have j3:y<=g6.heap.size:=by have:=V.out.size;rw [e5.out] at this;exact this
 go_wp2_with (at_make;refine Kj rfl (.tmp 45) (.tmp 45) 65 rfl y 4 _ 1 Tryz.underlying65 Q0m rfl .i64 .i64 k k k rfl rfl rfl rfl ?c1 ?c2 j3 ?_)
 case c1=>omega
 case c2=>unfold maxLen;omega
 intro s6 f0 e7;obtain⟨m,r3⟩:=zE k;subst r3;rw [<-Q0p BS k] at f0;obtain⟨T,n8⟩:=zE g6.heap.size;have a3:=e7.cell_some I id;have a4:=e7.cell_some O id;have j2:y<g6.heap.size:=by obtain⟨s5,g0,_⟩:=Gc I;exact(Array.getElem?_eq_some_iff.1 g0).1
 rw [n8] at f0 j3 j2 ⊢;obtain⟨m3,l9,q5⟩:=Zh3 f0 (V.out.trans e7) j2;clear j2 f0 e7 n8 I O V j3 K f7 j9;go_wp2
 refine wp_loop (fun a j=>∃(i:Nat),i<=k/\a.defers=[]/\gS a [0,1,5,12,47,48,49]=(78,[.slice lo n lc,.slice c7 k pc,.pointer (some ⟨y,0,none⟩),.slice (some ⟨T,0,none⟩) k k,.slice c7 k pc,.int .i64 k,.int .i64 i])/\j.ownsRow y 4 1 (.slice (some ⟨T,0,none⟩) k k) k (K1 BS k i)/\Ql (l4.take i)=0/\j.cell? ⟨y,0,none⟩=some (.int .u32 (d:Int))/\j.cell? ⟨y,1,none⟩=some (.int .u32 (f:Int))/\Ext w j)
  (fun a _=>k - (intOf (a.tmps.getD 49 undef)).toNat) ?_ ?_
 ·exact⟨0,by omega,rfl,rfl,m3.out,rfl,a3,a4,l9.out⟩
 clear m3 l9 a3 a4;rintro⟨r6,_⟩ j ⟨i,s4,j4,e0,o0,x,I,O,p⟩;subst j4;obtain⟨l,rfl⟩:=Qu e0;clear e0;obtain⟨e4,W,J⟩:=Zh3 o0 x p;clear o0 x p;by_cases d9:i<k;case neg=>
  obtain rfl:i=k:=by omega
  have K:¬ (i:Int)<(i:Int):=by omega
  have x:=W.out;rw [List.take_of_length_le (by rw [m8.out];exact Nat.le_refl _),<-m4.out] at x;subst x;have P:=p1.out uz;subst P;have k5:=e4.out;rw [Q15 g4.out] at k5;have q2:=Zh k5;clear k5 e4 I O;go_wp2;refine bodyPost_ret (Qi rfl _ _ _) rfl ⟨some ⟨T,0,none⟩,i,by rw [g4.out];rfl,by rw [g4.out,e5.out];exact q2.out,J.out⟩
 have K:(i:Int)<(k:Int):=by omega
 have q9:(0:Int)<=(i:Int):=by omega
 have b4:i<fr.length:=by rw [e3.out];exact d9
 have a0:i<c.length:=by rw [m1.out];exact d9
 have f6:i<l4.length:=by rw [m8.out];exact d9
 obtain⟨g8,r5,A,z,H,G,rfl,a7,a8,Q,t⟩:=Np (Fh m2.out J.out) e3.out b4;have d7:=m0.out i b4 a0;have c3:=p5.out i a0;rw [List.getElem?_eq_getElem f6,Option.some.injEq] at c3;have d8:=p4.out i a0;have c5:=q1.out i a0 q0.out;have b3:=Vu f6 W.out;have M:=K4 f6 W.out;rw [d7] at c3 d8 c5;obtain⟨⟨l,v⟩,e1⟩:=zE (fr[i].1);rw [e1] at a7 a8 Q t c3 d8 c5;dsimp only at a7 a8 Q t c3 d8 c5;rw [c3] at b3 M;rw [<-m4.out] at M;have r1:=Jy c5.1;have r2:=Jy c5.2;obtain⟨b7,b6,c9⟩:=Zh3 b3 M d8;obtain⟨s,b0⟩:=zE j.heap.size;have a1:(j.alloc (.cells #[.slice A l.length z,.slice H v.length G] 63)).heap[s]?=some (.cells #[.slice A l.length z,.slice H v.length G] 63 (0,0)):=new_at b0.symm;have r:Ext j (j.alloc (.cells #[.slice A l.length z,.slice H v.length G] 63)):=(Q0.refl _ j).alloc _;have b2:=Gf (Q.ext r) (t.ext r) q3.out oz;unfold sV at b2;have R:=r.cell_some I id;have S:=r.cell_some O id;obtain⟨U,a6,a5⟩:=Zh3 b0 b2 r;clear b2 r c3 d8 b3 M d7 e1 Q t I O b4 a0 f6 c5 r1 r2;go_upto_region 19 with (fail)
 obtain⟨X,d6⟩:=zE (j.alloc (.cells #[.slice A l.length z,.slice H v.length G] 63));rw [d6] at a1 a5 a6 R S ⊢;try rw [U.out]
 have g7:X.cell? ⟨s,0,none⟩=some (.slice A l.length z):=by rw [cell_of_row X s 0 _ _ _ a1];rfl
 have c1:X.cell? ⟨s,1,none⟩=some (.slice H v.length G):=by rw [cell_of_row X s 1 _ _ _ a1];rfl
 clear a1 d6 b0 U a7 a8;go_wp2_with fail;refine a6.out.mono ?_;rintro e n5 ⟨p0,o9,rfl,o6,b1⟩;obtain⟨_,_,r4,c6⟩:=Jc o6;cases r4;have I:=b1.cell_some R id;have O:=b1.cell_some S id;have b5:=Zh (a5.out.trans b1);have f4:=p6.out n5 (J.out.trans b5.out) c6;obtain⟨d1,n9⟩:=zE (Qg l v (d,f));rw [n9] at f4 c6 b7 b6 c9 ⊢;obtain⟨l1,i0⟩:=zE (Xu g d1);obtain⟨p2,i1⟩:=zE (X5 g d1);rw [i0,i1] at f4;rw [i0] at b7 b6;rw [i1] at c9;have m6:=Zh c6;have l8:=Zh f4;clear f4 c6 o6 b1 i0 i1 a6 a5 R S g7 c1 n9;go_wp2_with fail;refine l8.out.mono ?_;rintro e s0 ⟨s2,rfl,o5,d4⟩;obtain⟨vo,vc,rfl,o7⟩:=Jc o5;have a3:=d4.cell_some I id;have a4:=d4.cell_some O id;have g2:=Zh (b5.out.trans d4);have o3:=eqW (m6.out.ext d4) o7;have U:=Zh o3;clear l8 o5 d4 b5 o7 o3 m6 I O;by_cases u:l1=0;case neg=>
  have c4:(l1 != 0)=true:=by simpa using u
  have C:=b6.out u;subst C;have P:=c8.out u;subst P;go_wp2;refine bodyPost_ret (Qi rfl _ _ _) rfl ⟨_,_,rfl,World.ownsRow_nil _ _ _ _,J.out.trans g2.out⟩
 subst u;obtain⟨g5,o1⟩:=zE (decide (d1=p2));rw [o1] at U c9;clear o1;go_wp2_with fail;refine U.out.mono ?_;rintro e e6 ⟨rfl,e8⟩;have R:=e8.cell_some a3 id;have S:=e8.cell_some a4 id;have g3:=Zh (g2.out.trans e8);clear U e8 g2 a3 a4;have d5:=Qa e4.out g3.out;obtain⟨s1,b9⟩:=Q2n (BS:=BS) (k:=i) d9;have r0:=d5.cellAt i oz;rw [b9] at r0;have s3:=d5.frozenAt i;have l0:=U4 d5 i (.bool (!g5));have k9:=Q2k (BS:=BS) d9;rw [c9.out] at k9;rw [k9] at l0;have n6:Ext w (e6.setCell ⟨T,i,none⟩ (.bool (!g5))):=(J.out.trans g3.out).setCell (.inl (by rw [e5.out];exact(d5.lt T rfl).1)) _;have i9:Q0 (fun b=>b=T) e6 (e6.setCell ⟨T,i,none⟩ (.bool (!g5))):=by
  refine(Q0.refl (fun b=>b=T) e6).setCell ?_ _;exact .inr rfl
 have c4:¬ y=T:=by have:=q5.out;omega
 have o8:=i9.cell_some R c4;have g0:=i9.cell_some S c4;obtain⟨q4,p9,q7,q8⟩:=Zh4 l0 n6 o8 g0;clear l0 n6 k9 b9 d5 e4 J g3 W i9 c4 o8 g0 R S c9;go_wp2;exact⟨⟨i+1,by omega,by first | trivial | rfl,rfl,q4.out,b7.out,q7.out,q8.out,p9.out⟩,nz⟩
def W6(ls:List Q4)(fr:List (Wd × Wd)) (s:Nat × Nat):Bool:=if X4 ls fr s=0 then Jj (Up ls fr s) true && Jj (Up ls fr s) false else false
theorem Q3i{w:World}{ps:Ze}{lo:Option Addr}{n lc:Nat}{fr:Rg}{V:Option Addr}{m pc:Nat}{a c:Nat}(P:Z5 w (.slice lo n lc) ps) (R:ps.length=n) (T:Vo w (.slice V m pc) fr) (Q:fr.length=m) (U:Qd (a,c)) (O:Tab w) :
  Calls Tryz.prog 42 #[.slice lo n lc,.slice V m pc,.agg #[.int .u32 (a:Int),.int .u32 (c:Int)]] w fun e w'=>e=.returned (.tuple #[.bool (W6 (ps.map (·.1)) (fr.map (·.1)) (a,c)),.int .i64 (X4 (ps.map (·.1)) (fr.map (·.1)) (a,c))])/\Ext w w':=by
 have f:=fun(d:World) (hE:Ext w d)=>Lf (P.ext hE) R (Fh T hE) Q U (O.keep hE id) (lc:=lc) (pc:=pc);have B:X4 (ps.map (·.1)) (fr.map (·.1)) (a,c)≠0->W6 (ps.map (·.1)) (fr.map (·.1)) (a,c)=false:=fun h=>if_neg h;have p:X4 (ps.map (·.1)) (fr.map (·.1)) (a,c)=0->W6 (ps.map (·.1)) (fr.map (·.1)) (a,c)=(Jj (Up (ps.map (·.1)) (fr.map (·.1)) (a,c)) true && Jj (Up (ps.map (·.1)) (fr.map (·.1)) (a,c)) false):=fun h=>if_pos h;obtain⟨K,v⟩:=zE (X4 (ps.map (·.1)) (fr.map (·.1)) (a,c));obtain⟨g,u⟩:=zE (Up (ps.map (·.1)) (fr.map (·.1)) (a,c));obtain⟨a3,N⟩:=zE (W6 (ps.map (·.1)) (fr.map (·.1)) (a,c));rw [v,N] at B p ⊢;rw [u] at p;simp only [v,u] at f;have t:Ext w (w.alloc (.cells #[.int .u32 (a:Int),.int .u32 (c:Int)] 26)):=(Q0.refl _ w).alloc _;have i:(w.alloc (.cells #[.int .u32 (a:Int),.int .u32 (c:Int)] 26)).heap[w.heap.size]?=some (.cells #[.int .u32 (a:Int),.int .u32 (c:Int)] 26 (0,0)):=new_at rfl;obtain⟨j,F,G⟩:=Zh3 f B p;clear f B p v u N P R T Q U O;obtain⟨d,x⟩:=zE (w.alloc (.cells #[.int .u32 (a:Int),.int .u32 (c:Int)] 26));obtain⟨l,y⟩:=zE w.heap.size;rw [x] at t i;rw [y] at i;obtain⟨Y,I,q⟩:=Zh3 y x t;clear x y t;go_enter Tryz.func42,Tryz.ntmps42;go_upto_region 1 with (fail)
 rw [I.out,Y.out];clear I;have a1:d.cell? ⟨l,0,none⟩=some (.int .u32 (a:Int)):=by rw [cell_of_row _ _ _ _ _ _ i];rfl
 have a2:d.cell? ⟨l,1,none⟩=some (.int .u32 (c:Int)):=by rw [cell_of_row _ _ _ _ _ _ i];rfl
 clear i;go_wp2_with fail;refine(j.out d q.out).mono ?_;rintro e a6 ⟨a5,W,rfl,S,M⟩;have k:=Zh (Rd.of_own S);have r:=Zh (q.out.trans M);clear j M S a1 a2 q;by_cases D:K=0;case neg=>
  have a4:(K != 0)=true:=by simpa using D
  have C:=F.out D;subst C;go_wp2;refine bodyPost_ret (Qi rfl _ _ _) rfl ⟨rfl,r.out⟩
 subst D;have C:=G.out uz;subst C;obtain⟨J,o⟩:=zE g.length;rw [o] at k ⊢;have f:=Df k.out o true (cap:=W);have s:=Df k.out o false (cap:=W);obtain⟨L,z⟩:=zE (Jj g true);obtain⟨Z,A⟩:=zE (Jj g false);rw [z] at f;rw [A] at s;have j:=Zh f;have X:=Zh s;have H:Hid ((Jj g true && Jj g false)=(L && Z)):=Zh (by rw [z,A]);clear f s o z A F G k;go_wp2_with fail;refine j.out.mono ?_;rintro e a0 ⟨rfl,rfl⟩;cases L
 ·go_wp2;refine bodyPost_ret (Qi rfl _ _ _) rfl ⟨by rw [H.out];rfl,r.out⟩
 ·go_wp2_with fail;refine X.out.mono ?_;rintro e a0 ⟨rfl,rfl⟩;go_wp2;refine bodyPost_ret (Qi rfl _ _ _) rfl ⟨by rw [H.out];rfl,r.out⟩
def Y3(N:Nat)(L:List Nat):List Value:=Ja (L++List.replicate (N - L.length) 0)
theorem Wu{N:Nat}{L:List Nat}(h:L.length<=N):(Y3 N L).length=N:=by unfold Y3 Ja;simp;omega
theorem Bl(N:Nat):Y3 N []=List.replicate N (.int .i64 0):=by unfold Y3 Ja;simp
theorem Eu{N:Nat}{L:List Nat}(h:L.length=N):Y3 N L=Ja L:=by unfold Y3;rw [h];simp
theorem Wi{N i:Nat}{L:List Nat}(h:i<L.length):(Y3 N L).getD i undef=.int .i64 (L.getD i 0:Nat):=by
 unfold Y3 Ja;rw [List.getD_eq_getElem?_getD,List.getElem?_map,List.getElem?_append_left h,List.getD_eq_getElem?_getD,List.getElem?_eq_getElem h];rfl
theorem Ts{N i:Nat}{L:List Nat}(b:L.length=i)(h:i<N):(Y3 N L).set i (.int .i64 (i:Int))=Y3 N (L++[i]):=by
 subst b;unfold Y3 Ja;rw [<-List.map_set]
 congr 1
 rw [List.set_append_right _ _ (Nat.le_refl _),Nat.sub_self,List.length_append,List.length_singleton];obtain⟨a,c⟩:∃ a,N - L.length=a+1:=⟨N - L.length - 1,by omega⟩;rw [c,List.replicate_succ,List.set_cons_zero,show N - (L.length+1)=a by omega];simp
def Xa(L:List Nat)(a b n:Nat):List Nat:=U0 (L.take n) a b++L.drop n
theorem Ez(L:List Nat)(a b:Nat):Xa L a b 0=L:=by unfold Xa U0;simp
theorem Q13{L:List Nat}(a b:Nat){n:Nat}(h:L.length<=n):Xa L a b n=U0 L a b:=by unfold Xa;rw [List.take_of_length_le h,List.drop_eq_nil_of_le h,List.append_nil]
theorem Hf(L:List Nat)(a b n:Nat):(Xa L a b n).length=L.length:=by unfold Xa U0;simp;omega
theorem Q2d{L:List Nat}(a b:Nat){n:Nat}(h:n<L.length):(Xa L a b n).getD n 0=L.getD n 0:=by
 unfold Xa;have c:(U0 (L.take n) a b).length=n:=by rw [Lr,List.length_take];omega
 rw [List.getD_eq_getElem?_getD,List.getElem?_append_right oz,c,Nat.sub_self,List.drop_eq_getElem_cons h,List.getD_eq_getElem?_getD,List.getElem?_eq_getElem h];rfl
theorem M9{L:List Nat}(a b:Nat){n:Nat}(h:n<L.length):Xa L a b (n+1)=U0 (L.take n) a b++(if L.getD n 0=a\/L.getD n 0=b then min a b else L.getD n 0)::L.drop (n+1):=by
 unfold Xa U0;rw [List.take_succ_eq_append_getElem h,List.map_append,List.append_assoc,List.getD_eq_getElem?_getD,List.getElem?_eq_getElem h];rfl
theorem Q29{L:List Nat}{a b:Nat}{n N:Nat}(h:n<L.length)(_:L.length<=N)(c:L.getD n 0=a\/L.getD n 0=b):(Y3 N (Xa L a b n)).set n (.int .i64 ((min a b:Nat):Int))=Y3 N (Xa L a b (n+1)):=by
 have d:(U0 (L.take n) a b).length=n:=by rw [Lr,List.length_take];omega
 unfold Y3;rw [Hf,Hf,M9 a b h,if_pos c];unfold Xa Ja;rw [List.drop_eq_getElem_cons h,<-List.map_set]
 congr 1
 rw [List.append_assoc,List.append_assoc,List.set_append_right _ _ oz,d,Nat.sub_self];rfl
theorem Q3g{L:List Nat}{a b:Nat}{n:Nat}(h:n<L.length)(c:¬ (L.getD n 0=a\/L.getD n 0=b)):Xa L a b (n+1)=Xa L a b n:=by
 rw [M9 a b h,if_neg c];unfold Xa;rw [List.drop_eq_getElem_cons h,List.getD_eq_getElem?_getD,List.getElem?_eq_getElem h];rfl
theorem Nw{a:Nat->Nat->Bool}{i k:Nat}{L:List Nat}(h:a i k=true\/L.getD i 0=L.getD k 0):Ue a i L k=L:=by
 unfold Ue;rcases h with h | h
 ·rw [if_pos h]
 ·split
  ·rfl
  ·rw [h];exact Q1e L _
theorem Q3t{a:Nat->Nat->Bool}{i k:Nat}{L:List Nat}(h:a i k=false):Ue a i L k=U0 L (L.getD i 0) (L.getD k 0):=by
 unfold Ue;rw [h];rfl
def Q86(n mo X:Nat)(lv:Value)(ps:Ze)(w2:World)(a:Act)(W:World):Prop:=∃(k:Nat) (L:Ze) (yo:Option Addr) (yc:Nat),k<=n/\a.defers=[]/\gS a [1,5,11,12,13]=(33,[.int .i64 mo,.slice yo L.length yc,lv,.int .i64 n,.int .i64 k])/\L.length<=mo/\(∀ p∈L,p∈ps/\Y9 p.1=true)/\W.ownsRow X 50 18 (.slice yo L.length yc) L.length (L.flatMap (·.2))/\Ext w2 W
def Q89(_ps:Ze)(mo:Nat)(w:World)(e:Ending)(w':World):Prop:=∃(L:Ze) (yo:Option Addr) (yc:Nat),e=.returned (.slice yo L.length yc)/\Z5 w' (.slice yo L.length yc) L/\L.length<=yc/\L.length<=mo/\(∀ p∈L,Y9 p.1=true)/\Ext w w'
def Q80(l:Ze):List Value:=l.flatMap (·.2)
def Q8f(us:List (Ze)) (k:Nat):Ze:=(us.take k).flatten
abbrev Cc:Pat:=.node 1 4 0 false 0 0 []
abbrev v15:Q4:=⟨⟨#[86]⟩,Cc,Cc,[(2,0)],[⟨0,0,(1,0),0,0⟩],1⟩
def X6(g1 g2:Nat):Array Value:=#[.string ⟨#[86]⟩,.int .i64 1,.int .u32 4,.int .u32 0,.bool false,.int .i64 0,.int .i64 0,.slice none 0 0,.int .i64 1,.int .u32 4,.int .u32 0,.bool false,.int .i64 0,.int .i64 0,.slice none 0 0,.slice (some ⟨g1,0,none⟩) 1 1,.slice (some ⟨g2,0,none⟩) 1 1,.int .i64 1]
theorem K6{w:World}{g:Nat}{cs:Array Value}{t:TypeId}{fr:Nat × Nat}(h:w.heap[g]?=some (.cells cs t fr)):w.setRow g cs=w:=by
 unfold World.setRow;have b:∀ h',h'=w.heap->({ w with heap:=h' }:World)=w:=by rintro _ rfl;rfl
 refine b _ ?_;apply Array.ext_getElem?;intro c;rw [Array.getElem?_modify];by_cases a:g=c
 ·subst a;rw [if_pos rfl,h];rfl
 ·rw [if_neg a]
theorem Q73{k:Func}{a b c d:Tmp}(h:k.results=#[.cell a 26,.cell b 26,.cell c 26,.cell d 50]){tmps:Array Value}{w:World}{e f g i:Nat}{l m n o p q:Value}{cs:Array Value}
  (v:tmps.getD a undef=.pointer (some ⟨e,0,none⟩)) (x:tmps.getD b undef=.pointer (some ⟨f,0,none⟩)) (y:tmps.getD c undef=.pointer (some ⟨g,0,none⟩)) (z:tmps.getD d undef=.pointer (some ⟨i,0,none⟩))
  (B:w.heap[e]?=some (.cells #[l,m] 26 (0,0))) (C:w.heap[f]?=some (.cells #[n,o] 26 (0,0))) (D:w.heap[g]?=some (.cells #[p,q] 26 (0,0))) (E:w.heap[i]?=some (.cells cs 50 (0,0))) (A:(Tryz.prog.info? 50).map (·.size)=some cs.size:=by kernel_rfl) :
  (results k tmps).run Tryz.prog w=.ok (.tuple #[.agg #[l,m],.agg #[n,o],.agg #[p,q],.agg cs]) w:=by
 have r:tmps[a]?.getD undef=.pointer (some ⟨e,0,none⟩):=by simpa using v
 have s:tmps[b]?.getD undef=.pointer (some ⟨f,0,none⟩):=by simpa using x
 have t:tmps[c]?.getD undef=.pointer (some ⟨g,0,none⟩):=by simpa using y
 have u:tmps[d]?.getD undef=.pointer (some ⟨i,0,none⟩):=by simpa using z
 have j:(Tryz.prog.info? 26).map (·.size)=some 2:=by kernel_rfl
 simp [results,h,r,s,t,u,asAddr,run_loadVar_row w e _ _ _ _ _ B Tryz.underlying26 rfl j,run_loadVar_row w f _ _ _ _ _ C Tryz.underlying26 rfl j,run_loadVar_row w g _ _ _ _ _ D Tryz.underlying26 rfl j,run_loadVar_row w i _ _ _ _ _ E Tryz.underlying50 rfl A]
theorem Tz(w:World):Calls Tryz.prog 53 #[] w fun e w'=>∃ g1 g2:Nat,e=.returned (.tuple #[sV (2,5),sV (3,4),sV (5,2),.agg (X6 g1 g2)])/\Y5 w' v15 (X6 g1 g2).toList/\Ext w w':=by
 go_enter Tryz.func53,Tryz.ntmps53;obtain⟨a,n⟩:=zE w.heap.size;obtain⟨k,m⟩:=zE ((((w.alloc (.cells #[.int .u32 2,.int .u32 5] 26)).alloc (.cells #[.int .u32 3,.int .u32 4] 26)).alloc (.cells #[.int .u32 5,.int .u32 2] 26)).alloc (.cells #[.string ⟨#[]⟩,.int .i64 0,.int .u32 0,.int .u32 0,.bool false,.int .i64 0,.int .i64 0,.slice none 0 0,.int .i64 0,.int .u32 0,.int .u32 0,.bool false,.int .i64 0,.int .i64 0,.slice none 0 0,.slice none 0 0,.slice none 0 0,.int .i64 0] 50));have b9:Ext w k:=by rw [<-m];exact((((Q0.refl _ w).alloc _).alloc _).alloc _).alloc _
 have b2:k.heap[a]?=some (.cells #[.int .u32 2,.int .u32 5] 26 (0,0)):=by rw [<-m,<-n];exact Q8 (Q8 (Q8 (new_at rfl)))
 have b3:k.heap[a+1]?=some (.cells #[.int .u32 3,.int .u32 4] 26 (0,0)):=by rw [<-m,<-n];exact Q8 (Q8 (new_at zy))
 have b4:k.heap[a+2]?=some (.cells #[.int .u32 5,.int .u32 2] 26 (0,0)):=by rw [<-m,<-n];exact Q8 (new_at zy)
 have b5:k.heap[a+3]?=some (.cells #[.string ⟨#[]⟩,.int .i64 0,.int .u32 0,.int .u32 0,.bool false,.int .i64 0,.int .i64 0,.slice none 0 0,.int .i64 0,.int .u32 0,.int .u32 0,.bool false,.int .i64 0,.int .i64 0,.slice none 0 0,.slice none 0 0,.slice none 0 0,.int .i64 0] 50 (0,0)):=by rw [<-m,<-n];exact new_at zy
 have c2:k.heap.size=a+4:=by rw [<-m,<-n];simp
 go_upto_region 1 with (fail)
 go_upto_region 2 with (fail)
 try rw [m]
 obtain⟨Q,R,T,U,a6,z,d1⟩:=Zh7 b2 b3 b4 b5 b9 c2 n;clear b2 b3 b4 b5 b9 c2 m n;go_upto_region 3 with (fail)
 obtain⟨c,y⟩:=zE (k.alloc (.cells #[.int .i64 1,.int .u32 4,.int .u32 0,.bool false,.int .i64 0,.int .i64 0,.slice none 0 0] 47));have q:Ext k c:=by rw [<-y];exact(Q0.refl _ k).alloc _
 have b6:c.heap[a+4]?=some (.cells #[.int .i64 1,.int .u32 4,.int .u32 0,.bool false,.int .i64 0,.int .i64 0,.slice none 0 0] 47 (0,0)):=by rw [<-y];exact new_at z.out.symm
 have c3:c.heap.size=a+5:=by rw [<-y];simp [z.out]
 try rw [y]
 have c1:k.heap.size=a+4:=z.out;try rw [c1]
 obtain⟨l,a7,V,W,X,Y,A⟩:=Zh7 b6 (a6.out.trans q) (q.keep Q.out) (q.keep R.out) (q.keep T.out) (q.keep U.out) c3;clear b6 q c3 y c1 Q R T U a6 z;obtain⟨u,t⟩:=zE ((c.alloc (.cells #[.int .u32 2,.int .u32 0] 26)).alloc (.cells #[.int .i64 0,.int .u32 0,.int .u32 1,.int .u32 0,.int .u32 0,.int .i64 0] 131));have r:Ext c u:=by rw [<-t];exact((Q0.refl _ c).alloc _).alloc _
 have b7:u.heap[a+5]?=some (.cells #[.int .u32 2,.int .u32 0] 26 (0,0)):=by rw [<-t];exact Q8 (new_at A.out.symm)
 have b8:u.heap[a+6]?=some (.cells #[.int .i64 0,.int .u32 0,.int .u32 1,.int .u32 0,.int .u32 0,.int .i64 0] 131 (0,0)):=by rw [<-t];exact new_at (by simp [A.out])
 have L:=r.keep Y.out;have p:=Q0.setRow u (a+3) (X6 (a+5) (a+6));have O:=setRow_heap _ _ _ (X6 (a+5) (a+6)) _ _ L;have F:=p.heap (r.keep V.out) oz;have G:=p.heap (r.keep W.out) oz;have H:=p.heap (r.keep X.out) oz;have I:=p.heap b7 oz;have J:=p.heap b8 oz;have M:Ext w (u.setRow (a+3) (X6 (a+5) (a+6))):=(a7.out.trans r).after p (fun b h1 h2=>by have:=d1.out;omega);have d5:c.heap.size=a+5:=A.out;obtain⟨c4,P⟩:=zE (u.setRow (a+3) (X6 (a+5) (a+6)));rw [P] at O M F G H I J;obtain⟨Z,a9,a8,a1,a2,a3,a4,a5⟩:=Zh8 L O M F G H I J;have b0:=Zh t;have b1:=Zh P;have N:=Z.out;rw [<-t] at N;have a0:=Zh N;clear L O M F G H I J b7 b8 r p t P N;have d6:c.cell? ⟨a+4,0,none⟩=some (.int .i64 1):=by rw [cell_of_row c (a+4) 0 _ _ _ l.out];rfl
 have d7:c.cell? ⟨a+4,1,none⟩=some (.int .u32 4):=by rw [cell_of_row c (a+4) 1 _ _ _ l.out];rfl
 have d8:c.cell? ⟨a+4,2,none⟩=some (.int .u32 0):=by rw [cell_of_row c (a+4) 2 _ _ _ l.out];rfl
 have d9:c.cell? ⟨a+4,3,none⟩=some (.bool false):=by rw [cell_of_row c (a+4) 3 _ _ _ l.out];rfl
 have e0:c.cell? ⟨a+4,4,none⟩=some (.int .i64 0):=by rw [cell_of_row c (a+4) 4 _ _ _ l.out];rfl
 have e1:c.cell? ⟨a+4,5,none⟩=some (.int .i64 0):=by rw [cell_of_row c (a+4) 5 _ _ _ l.out];rfl
 have e2:c.cell? ⟨a+4,6,none⟩=some (.slice none 0 0):=by rw [cell_of_row c (a+4) 6 _ _ _ l.out];rfl
 go_wp2_with (refine wpList_store_row rfl 50 (.tmp 3) (.tmp 17) rfl (a+3) (X6 (a+5) (a+6)) zr (by first | rfl | simp [X6]) _ _ a0.out kz rfl kz ?_)
 rw [b0.out,b1.out];try simp only [Act.put]
 clear d5 Z a0 b0 b1 l V W X Y A a7 d6 d7 d8 d9 e0 e1 e2;obtain⟨g,j⟩:=zE c4.drew;have c5:g.heap[a]?=some (.cells #[.int .u32 2,.int .u32 5] 26 (0,0)):=by rw [<-j];exact a1.out
 have c6:g.heap[a+1]?=some (.cells #[.int .u32 3,.int .u32 4] 26 (0,0)):=by rw [<-j];exact a2.out
 have c7:g.heap[a+2]?=some (.cells #[.int .u32 5,.int .u32 2] 26 (0,0)):=by rw [<-j];exact a3.out
 have c8:g.heap[a+3]?=some (.cells (X6 (a+5) (a+6)) 50 (0,0)):=by rw [<-j];exact a9.out
 have c9:g.heap[a+5]?=some (.cells #[.int .u32 2,.int .u32 0] 26 (0,0)):=by rw [<-j];exact a4.out
 have d0:g.heap[a+6]?=some (.cells #[.int .i64 0,.int .u32 0,.int .u32 1,.int .u32 0,.int .u32 0,.int .i64 0] 131 (0,0)):=by rw [<-j];exact a5.out
 have c0:Ext w g:=by rw [<-j];exact a8.out.drew
 obtain⟨B,C,D,E,d3,d4,d2⟩:=Zh7 c5 c6 c7 c8 c9 d0 c0;clear c5 c6 c7 c8 c9 d0 c0 a1 a2 a3 a4 a5 a9 a8;have s:g=c4.drew:=j.symm;refine Ya (S:=fun f=>f=g) [] kz j ?_;intro _;rw [j];have s:g=g:=rfl;refine tkE (i:=0) (d:=18) (v:=?_) rfl (Or.inl ⟨by rfl,?_⟩) s ?_;rotate_left
 ·intro f o;subst o;refine Zp (x:=.tmp 0) ?_ a ?_ _ _ _ B.out Tryz.underlying26 kz <;> rfl
 try simp only [Act.put,pq]
 refine tkE (i:=1) (d:=19) (v:=?_) rfl (Or.inl ⟨by rfl,?_⟩) s ?_;rotate_left
 ·intro f o;subst o;refine Zp (x:=.tmp 1) ?_ (a+1) ?_ _ _ _ C.out Tryz.underlying26 kz <;> rfl
 try simp only [Act.put,pq]
 refine tkE (i:=2) (d:=20) (v:=?_) rfl (Or.inl ⟨by rfl,?_⟩) s ?_;rotate_left
 ·intro f o;subst o;refine Zp (x:=.tmp 2) ?_ (a+2) ?_ _ _ _ D.out Tryz.underlying26 kz <;> rfl
 try simp only [Act.put,pq]
 refine tkE (i:=3) (d:=21) (v:=?_) rfl (Or.inl ⟨by rfl,?_⟩) s ?_;rotate_left
 ·intro f o;subst o;refine Zp (x:=.tmp 3) ?_ (a+3) ?_ _ _ _ E.out Tryz.underlying50 kz <;> rfl
 try simp only [Act.put,pq]
 refine rE [4] ?_;refine Q1.cons rfl (fun K hK=>?_) Q1.nil;refine iw rfl ?_;refine wp_store_row 26 (.tmp 0) (.tmp 18) rfl a _ rfl rfl _ _ B.out kz kz kz ?_;rw [K6 B.out];refine hK _ _ rfl (fun _=>?_);clear hK K;try simp only [Act.put,pq]
 refine rE [5] ?_;refine Q1.cons rfl (fun K hK=>?_) Q1.nil;refine iw rfl ?_;refine wp_store_row 26 (.tmp 1) (.tmp 19) rfl (a+1) _ rfl rfl _ _ C.out kz kz kz ?_;rw [K6 C.out];refine hK _ _ rfl (fun _=>?_);clear hK K;try simp only [Act.put]
 refine rE [6] ?_;refine Q1.cons rfl (fun K hK=>?_) Q1.nil;refine iw rfl ?_;refine wp_store_row 26 (.tmp 2) (.tmp 20) rfl (a+2) _ rfl rfl _ _ D.out kz kz kz ?_;rw [K6 D.out];refine hK _ _ rfl (fun _=>?_);clear hK K;try simp only [Act.put]
 refine rE [7] ?_;refine Q1.cons rfl (fun K hK=>?_) Q1.nil;refine iw rfl ?_;refine wp_store_row 50 (.tmp 3) (.tmp 21) rfl (a+3) _ rfl rfl _ _ E.out kz kz kz ?_;rw [K6 E.out];refine hK _ _ rfl (fun _=>?_);clear hK K;try simp only [Act.put]
 refine Z0 kz ?_ _;clear s;go_wp2;refine bodyPost_ret (Q73 rfl rfl rfl rfl rfl B.out C.out D.out E.out) rfl ⟨a+5,a+6,rfl,?_,d2.out⟩;exact⟨[.int .i64 1,.int .u32 4,.int .u32 0,.bool false,.int .i64 0,.int .i64 0,.slice none 0 0],[.int .i64 1,.int .u32 4,.int .u32 0,.bool false,.int .i64 0,.int .i64 0,.slice none 0 0],_,_,rfl,by decide,S2 _ _ 1 false 0 0 zd zd,S2 _ _ 1 false 0 0 zd zd,⟨Xd (xs:=Qx [(2,0)]) d3.out rfl zd,by simp [Z8]⟩,⟨Xd (xs:=N5 [⟨0,0,(1,0),0,0⟩]) d4.out rfl zd,by simp [Je,Qd]⟩⟩
end Go.Proofs.YtejenndedjabhaaGreatDoor
