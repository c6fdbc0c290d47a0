/- What a row of pairs of bytes reads as, with its room. ablautlaw15.MergersTurns: the walk. -/
import Derived.Test.YtejenndedjabhaaGreatDoorU16
import Derived.Test.YtejenndedjabhaaGreatDoorU17
import Derived.Test.YtejenndedjabhaaGreatDoorU23
set_option maxRecDepth 100000
set_option maxHeartbeats 32000000
namespace Go.Proofs.YtejenndedjabhaaGreatDoor
open Go.RowKit Go.Ab Go.ChangeShapes Go.WideShapes
def p8V(l:List (Nat × Nat)):List Value:=l.flatMap fun p=>[Value.int .u8 (p.1:Int),Value.int .u8 (p.2:Int)]
theorem Q06:∀ {l:List (Nat × Nat)} {i:Nat} {a b:Nat},l[i]?=some (a,b)->(p8V l).getD (i*2) undef=.int .u8 (a:Int)/\(p8V l).getD (i*2+1) undef=.int .u8 (b:Int)
 | [],_,_,_,h=>by simp at h
 | p::l,0,a,b,h=>by
  simp only [List.getElem?_cons_zero,Option.some.injEq] at h;subst h;exact⟨rfl,rfl⟩
 | p::l,i+1,a,b,h=>by
  have ih:=Q06 (l:=l) (i:=i) (a:=a) (b:=b) (by simpa using h);rw [show (i+1)*2=i*2+1+1 by omega];exact ih
section
variable {H:Type} {enc:TypeId × Value->H} {w:World} {base b0:Nat} {held:Bool} {r:Reach} {v:Value} {d:DataW H} {ps:List MemPlace}
theorem Mc:Tryz.prog.cellsOf 89=2:=by kernel_rfl
theorem Cz:Tryz.prog.cellsOf 5=1:=by kernel_rfl
theorem Na{m:Int}(h:(Lit.int .u8 m).wf=true):0<=m/\m<256:=by
 have:=bounds_u8 h;omega
theorem Q33(z:Value.okWide Tryz.prog w r b0 88 v)(x:DataW.Trod enc Tryz.prog w base (fun _=>true) held 88 v d ps):∃(l:List (Nat × Nat)) (vo:Option Addr) (vc:Nat),v=.slice vo l.length vc/\Rd w (.slice vo l.length vc) l.length 2 (p8V l)/\l.length<=vc/\∀ p∈l,p.1<256/\p.2<256:=by
 obtain⟨i,A,j,rfl⟩:=okWide_slice Tryz.underlying88 z;obtain⟨o,c⟩:=x;have c:DataW.trod enc Tryz.prog w base (fun _=>true) held o 88 [.slice i A j]=some (d,ps):=by simpa [Value.cells] using c
 obtain⟨l,e,q,vo,vc,f,s⟩:=Q1f (α:=Nat × Nat) Tryz.underlying88 Mc zd (fun p=>[Value.int .u8 (p.1:Int),Value.int .u8 (p.2:Int)]) (fun p=>p.1<256/\p.2<256)
  (fun {n cs y} h=>by
   obtain⟨_,_,_,_,g,_,_⟩:=DataW.trod_array Tryz.underlying89 h;rw [Mc] at g
   match cs,g with
   | [c0,c1],_=>
    obtain⟨a,b,rfl,rfl,t,u⟩:=Q6t Tryz.underlying89 Tryz.underlying5 Cz h;have B:=Na t;have C:=Na u;refine⟨(a.toNat,b.toNat),?_,by show a.toNat<256;omega,by show b.toNat<256;omega⟩;have k:((a.toNat:Nat):Int)=a:=by omega
    have m:((b.toNat:Nat):Int)=b:=by omega
    dsimp only;rw [k,m]) c
 exact⟨l,vo,vc,f,by rw [f] at e;exact e,s,q⟩
end
end Go.Proofs.YtejenndedjabhaaGreatDoor
namespace Go.Proofs.YtejenndedjabhaaGreatDoor
open Go.RowKit Go.Ab
attribute [local go_sem] Oper.semAt_some Z6 Qn
attribute [local go_sem high] Wa
def Fx(n:Nat):List Int:=(List.range n).map fun(i:Nat)=>(i:Int)
theorem My(n:Nat):(Fx n).length=n:=by simp [Fx]
theorem Q6m{n k:Nat}(h:k<n):(Fx n).getD k (-1)=(k:Int):=by
 rw [List.getD_eq_getElem?_getD];simp [Fx,h]
def Hl(n:Nat)(l:List (Nat × Nat)):List Int:=l.foldl (fun sh p=>swI sh (p.1 % n) (p.2 % n)) (Fx n)
theorem Q1v{n k a b:Nat}{l:List (Nat × Nat)} (h:l[k]?=some (a,b)):Hl n (l.take (k+1))=swI (Hl n (l.take k)) (a % n) (b % n):=by
 obtain⟨d,c⟩:=List.getElem?_eq_some_iff.1 h;unfold Hl;rw [List.take_succ_eq_append_getElem d,List.foldl_append,c];rfl
theorem Q0t{n:Nat}(c:0<n)(l:List (Nat × Nat)):Y4 (Hl n l) n:=by
 have b:∀(l:List (Nat × Nat)) (a:List Int),Y4 a n->Y4 (l.foldl (fun a p=>swI a (p.1 % n) (p.2 % n)) a) n:=by
  intro l
  induction l with
  | nil=>intro a b;exact b
  | cons p l ih=>intro a b;exact ih _ (b.swap (Nat.mod_lt _ c) (Nat.mod_lt _ c))
 exact b l _ (Y4.start n)
theorem Q6n(sh:List Int)(a b:Nat):Qh (swI sh a b)=((Qh sh).set a (.int .i64 (sh.getD b (-1)))).set b (.int .i64 (sh.getD a (-1))):=by
 unfold swI Qh;rw [List.map_set,List.map_set]
theorem Q21{sh:List Int}{n a b:Nat}(h:sh.length=n)(e:b<n):((Qh sh).set a (.int .i64 (sh.getD b (-1))))[b]?=some (.int .i64 (sh.getD b (-1))):=by
 have d:b<sh.length:=by omega
 rw [List.getElem?_set];by_cases c:a=b
 ·rw [if_pos c,if_pos (by simp [Qh];omega)]
 ·rw [if_neg c];simp [Qh,d]
theorem Q6s{w:World}{X n:Nat}{v:Value}{l:List Int}(h:w.ownsRow X 3 1 v n (Qh l)) (d:l.length=n) (t:n<=65536) :
  Calls Tryz.prog 59 #[v] w fun e w'=>e=.returned (.tuple #[])/\w'.ownsRow X 3 1 v n (Qh (l.mergeSort fun x y=>decide (x<=y)))/\Q0 (fun b=>v.ownBlock=some b) w w':=by
 by_cases c:n=0
 ·subst c;obtain⟨f,g,rfl⟩:=Qk h;refine(Q1r w f g).mono ?_;rintro e w' ⟨rfl,rfl⟩;obtain rfl:=List.length_eq_zero_iff.1 d;exact⟨rfl,by rw [List.mergeSort_nil];exact h,Q0.refl _ _⟩
 ·obtain⟨m,o⟩:=h;rcases o with ⟨_,p⟩ | ⟨k,i,j,rfl,q⟩
  ·exact absurd p c
  ·refine(Q4q (l:=l) ⟨m,.inr ⟨k,i,j,rfl,q⟩⟩ d t).mono ?_;rintro e w' ⟨r,s,a⟩;exact⟨r,s,⟨a.os,a.tape,a.output,a.size,fun b hb hne=>a.block b hb (fun e=>hne (by subst e;rfl))⟩⟩
theorem Ch{sh:List Int}{n:Nat}(h:Y4 sh n)(a:n<=64):((Yk sh).flatten).length<=n:=by
 refine Vw n _ (L1 (h.ok a)) fun x hx=>?_
 obtain⟨c,rfl,b,_⟩:=Rp.1 ((L6 h a x).1 hx);omega
theorem Q28{w:World}{c:Nat}(t9:c<256){a9:Option Addr}{t M:Nat}{v:List (Nat × Nat)} (f1:Rd w (.slice a9 t M) t 2 (p8V v)) (m7:v.length=t) (l0:t<=M) (m8:∀ p∈v,p.1<256/\p.2<256) (k1:Tab w) :
  Calls Tryz.prog 14 #[.int .u8 (c:Int),.slice a9 t M] w fun e w'=>e=.returned (.bool true)/\Ext w w':=by
 have m6:=f1.2.1;unfold maxLen at m6;have l6:((c:Int).tmod 64)=((c % 64:Nat):Int):=rfl;have m4:c % 64<64:=Nat.mod_lt _ zd;obtain⟨c1,m1⟩:=zE (c % 64);rw [m1] at m4 l6;clear m1;obtain⟨n,r2⟩:=zE (1+c1);have r1:(1:Int)+(c1:Int)=(n:Int):=by omega
 have e7:n<=64:=by omega
 have t2:1<=n:=by omega
 clear r2;obtain⟨q,q0⟩:=zE (min t 200);have b5:min (t:Int) 200=(q:Int):=by omega
 have j9:q<=t:=by omega
 have q2:q<=M:=by omega
 have q1:q<=200:=by omega
 clear q0;obtain⟨i2,i3,i4,o6,o0,g7⟩:=Zh6 f1 m7 m8 k1 l0 j9;clear f1 m7 m8 k1 l0 j9;obtain⟨m,k4⟩:=zE w.heap.size;have S:=Zh k4;clear k4;have g5:=Zh b5;clear b5;go_enter Tryz.func14,Tryz.ntmps14
 go_wp2_with (at_make;refine Jg rfl (.tmp 24) (.tmp 24) 36 rfl m 3 _ 8 Tryz.underlying36 Tryz.infoD rfl .i64 .i64 n n n rfl rfl rfl rfl oz (by unfold maxLen;omega) (by rw [S.out];exact Nat.le_refl _) ?_)
 intro u9 b3 j1;rw [S.out] at b3 ⊢;clear l6 r1 m4;rw [<-Q4x (Fx n) n] at b3;have g8:=Zh b3;have f9:=Zh j1;clear b3 j1;go_wp2
 refine wp_loop (fun a d4=>∃(k:Nat),k<=n/\a.defers=[]/\gS a [1,5,6,26,27,28]=(117,[.slice a9 t M,.int .i64 n,.slice (some ⟨m,0,none⟩) n n,.slice (some ⟨m,0,none⟩) n n,.int .i64 n,.int .i64 k])/\d4.ownsRow m 3 1 (.slice (some ⟨m,0,none⟩) n n) n (Qh (K8 (Fx n) n k))/\Ext w d4)
  (fun a _=>n - (intOf (a.tmps.getD 28 undef)).toNat) ?_ ?_
 ·exact⟨0,by omega,rfl,rfl,g8.out,f9.out⟩
 clear g8 f9;rintro⟨n8,_⟩ d4 ⟨k,u1,a2,G,E,X⟩;subst a2;obtain⟨f6,rfl⟩:=Qt G;clear G;have i:=Zh E;have y:=Zh X;clear E X;by_cases e5:k<n;case pos=>
  have B:(k:Int)<(n:Int):=by omega
  have j0:(0:Int)<=(k:Int):=by omega
  have m5:=Q55 (My n) e5 (Q6m e5);have f3:=Yc i.out k (.int .i64 (k:Int));rw [m5] at f3;have u0:=i.out.frozenAt k;have q6:=Hz i.out (Q69 (My n) oz) e5 rfl (d:=-1);have Z:=y.out.setCell (p:=⟨m,k,none⟩) (.inl (by rw [S.out];exact Nat.le_refl _)) (.int .i64 (k:Int));obtain⟨O,n7⟩:=zE ((K8 (Fx n) n k).getD k (-1));rw [n7] at q6;have o5:=Zh f3;have d1:=Zh Z;clear f3 Z m5 n7 i y;go_wp2;exact⟨⟨k+1,by omega,tz,rfl,o5.out,d1.out⟩,nz⟩
 obtain rfl:k=n:=by omega
 have B:¬ (k:Int)<(k:Int):=by omega
 have l:=i.out;rw [Q57 (My k)] at l;have R:=Zh l;have b5:=g5.out;clear l i;go_wp2;clear B b5
 refine wp_loop (fun a r=>∃(g:Nat),g<=q/\a.defers=[]/\gS a [5,6,40,41,42]=(117,[.int .i64 k,.slice (some ⟨m,0,none⟩) k k,.slice a9 q M,.int .i64 q,.int .i64 g])/\r.ownsRow m 3 1 (.slice (some ⟨m,0,none⟩) k k) k (Qh (Hl k (v.take g)))/\Ext w r)
  (fun a _=>q - (intOf (a.tmps.getD 42 undef)).toNat) ?_ ?_
 ·exact⟨0,by omega,rfl,rfl,R.out,y.out⟩
 clear R y;rintro⟨n8,_⟩ r ⟨g,a4,a2,G,E,X⟩;subst a2;obtain⟨f6,rfl⟩:=Qt G;clear G;have i:=Zh E;have y:=Zh X;clear E X;have u:=Q0t (n:=k) oz (v.take g);by_cases u3:g<q;case pos=>
  have B:(g:Int)<(q:Int):=by omega
  have j0:(0:Int)<=(g:Int):=by omega
  have m0:g<t:=by have:=g7.out;omega
  have l9:g<v.length:=by rw [i3.out];exact m0
  obtain⟨⟨x,o⟩,b8⟩:∃ p,v[g]?=some p:=⟨_,List.getElem?_eq_getElem l9⟩;have J:=i4.out (x,o) (List.mem_of_getElem? b8)
  obtain⟨V,a8,q9,e1⟩:=(show ∃ V a8,a9=some ⟨V,a8,none⟩/\∀ j,j<t*2->r.cell? ⟨V,a8+j,none⟩=some ((p8V v).getD j undef) by
   obtain⟨f5,_,p0,s6,e,p8⟩:=i2.out;cases e;obtain⟨V,a8,p6,_,p9⟩:=p8 oz;exact⟨V,a8,p6,fun j hj=>y.out.cell_some (p9 j (by first | (rw [f5];exact hj) | exact hj | omega)) id⟩)
  subst q9;have e9:=Q06 b8;have i9:=e1 (g*2) oz;have c2:=e1 (g*2+1) oz;rw [e9.1] at i9;rw [e9.2,<-Nat.add_assoc] at c2;dsimp only at J;obtain⟨q4,q5⟩:=J;have a6:=Q1v (n:=k) b8;have m2:((x:Int).tmod k)=((x % k:Nat):Int):=rfl;have m3:((o:Int).tmod k)=((o % k:Nat):Int):=rfl;obtain⟨a,d9⟩:=zE (x % k);obtain⟨f,J⟩:=zE (o % k);have q3:a<k:=by rw [<-d9];exact Nat.mod_lt _ oz
  have k8:f<k:=by rw [<-J];exact Nat.mod_lt _ oz
  rw [d9] at m2 a6;rw [J] at m3 a6;have r3:((k:Int))≠0:=by omega
  have r4:((k:Int)=0)=False:=by simp;omega
  obtain⟨sh,a5⟩:=zE (Hl k (v.take g));have l:=i.out;rw [a5] at a6 u l;obtain⟨i5,R,K⟩:=Zh3 a6 l u;clear d9 J a6 b8 e9 e1 l9 m0 l u a5 i;go_upto_region 11 with (fail)
  obtain⟨I,a1⟩:=zE (r.alloc (.cells #[.int .u8 (x:Int),.int .u8 (o:Int)] 89));have j2:Ext r I:=by rw [<-a1];exact(Q0.refl _ r).alloc _
  have p4:I.cell? ⟨r.heap.size,0,none⟩=some (.int .u8 (x:Int)):=by rw [<-a1];exact cell_of_row _ _ 0 _ _ _ (new_at rfl)
  have p5:I.cell? ⟨r.heap.size,1,none⟩=some (.int .u8 (o:Int)):=by rw [<-a1];exact cell_of_row _ _ 1 _ _ _ (new_at rfl)
  rw [a1];clear a1 i9 c2
  go_quiet (fail)
  have j7:Ext I (I.drewN nq):=(Q0.refl _ I).drewN _;have C:=j2.trans j7;obtain⟨o9,k3⟩:=zE (I.drewN nq);rw [k3] at C ⊢;clear k3 j7 j2 p4 p5 m2 m3 r3 r4;have l:=Qb R.out C;have g3:=Zh (y.out.trans C);have b4:=K.out.1;have p2:=Hz l b4 k8 rfl (d:=-1);have p1:=Hz l b4 q3 rfl (d:=-1);have s7:=l.frozenAt a;have b1:=Yc l a (.int .i64 (sh.getD f (-1)));have p3:(o9.setCell ⟨m,a,none⟩ (.int .i64 (sh.getD f (-1)))).cell? ⟨m,f,none⟩=some (.int .i64 (sh.getD f (-1))):=by
   rw [b1.cellAt f oz,Q21 b4 k8]
  have p7:=b1.frozenAt f;have W:=Yc b1 f (.int .i64 (sh.getD a (-1)));rw [<-Q6n,<-i5.out] at W;obtain⟨r8,n3⟩:=zE (sh.getD a (-1));obtain⟨r9,n4⟩:=zE (sh.getD f (-1));rw [n3] at p1 W;rw [n4] at p2 p3 p7 W;have Z:=(g3.out.setCell (p:=⟨m,a,none⟩) (.inl (by rw [S.out];exact Nat.le_refl _)) (.int .i64 r9)).setCell (p:=⟨m,f,none⟩) (.inl (by rw [S.out];exact Nat.le_refl _)) (.int .i64 r8);have t5:(0:Int)<=(a:Int):=by omega
  have t6:(a:Int)<(k:Int):=by omega
  have t7:(0:Int)<=(f:Int):=by omega
  have t8:(f:Int)<(k:Int):=by omega
  have n9:=Zh W;have d1:=Zh Z;clear l b1 W Z n3 n4 b4 g3 R y C q4 q5 i5;go_wp2_with fail
  go_region
  go_wp2;exact⟨⟨g+1,by omega,tz,rfl,Qb n9.out ((Q0.refl (fun _=>False) _).drew),d1.out.drew⟩,nz⟩
 obtain rfl:g=q:=by omega
 have B:¬ (g:Int)<(g:Int):=by omega
 have l:=i.out;obtain⟨sh,a5⟩:=zE (Hl k (v.take g));rw [a5] at l u;clear a5;have l8:=u.ok e7;have f0:=Rd.of_own l;have e0:=Dn f0 u.1;have e2:=fun(z:World) (hU:Ext r z)=>N7 (f0.ext hU) u.1;have U:=Q8y l8;have k9:Jz sh=[]:=by unfold Jz;rw [if_pos U,u.chains]
 have n6:K3 sh=Yk sh:=by unfold K3;rw [if_pos U]
 rw [U,k9] at e0;simp only [U,n6] at e2;obtain⟨K,i0,f7,f8⟩:=Zh4 u l e0 e2;clear l f0 e0 e2 U k9 n6 i u l8 i2 i3 i4 o0 g7 g5 m6 q2 q1 a4;go_wp2_with fail;refine f7.out.mono ?_;rintro e s1 ⟨u5,rfl,l3,C⟩;obtain⟨t0,s8,rfl⟩:=Gv l3;have i6:=Zh (f8.out s1 C);have g0:=Zh C;clear f7 f8 l3 C B;go_wp2_with fail;refine i6.out.mono ?_;rintro e s2 ⟨u6,rfl,e4,j3⟩;obtain⟨t1,s9,rfl⟩:=Gv e4;obtain⟨u7,n1,n2⟩:=e4.grc;have c8:=Zh (g0.out.trans j3);have l2:=Ch K.out e7;have l1:=Em (F:=(Yk sh).flatten) rfl n1 (fun b l4=>by obtain⟨p0,c,f5,r7,_⟩:=n2 b l4;rw [f5];exact r7) oz;have c7:=Zh l1;have g4:=Zh l2;clear i6 e4 j3 g0 n1 n2 l1 l2;obtain⟨s3,d7⟩:=zE ((Yk sh).length);rw [d7] at c7;simp only [d7];clear d7;go_wp2_with fail;refine c7.out.mono ?_;rintro e v0 ⟨s0,rfl,e8,d6⟩;have f2:=Q6s e8 rfl (by have:=g4.out;omega);obtain⟨d3,a0⟩:=zE ((Yk sh).flatten.mergeSort fun x o=>decide (x<=o));have d8:d3=X8 sh k:=Q15 K.out e7 (by rw [<-a0];have:=List.pairwise_mergeSort (le:=fun(x o:Int)=>decide (x<=o)) (fun a f c=>by simp;omega) (fun a f=>by simp;omega) ((Yk sh).flatten);exact this.imp (fun h=>of_decide_eq_true h)) (by rw [<-a0];exact List.mergeSort_perm _ _);have j8:(Yk sh).flatten.length=(X8 sh k).length:=by rw [<-d8,<-a0,List.length_mergeSort]
 rw [a0,d8,j8] at f2;have l5:=e8.lt;obtain⟨b0,g1,d2,o1⟩:=Zh4 f2 (c8.out.trans d6) l5 d6;clear f2 e8 a0 d8 j8 d6 c7 g4 l5;obtain⟨d5,k5⟩:=zE s2.heap.size;rw [k5] at b0 d2;have k6:r.heap.size<=d5:=by have:=c8.out.size;omega
 have i7:=Zh k6;clear k6 k5 c8 o1;obtain⟨o7,b2⟩:=zE ((X8 sh k).length);rw [b2] at b0;have t3:o7<=64:=by rw [<-b2];have:=Rv sh k;omega
 have g6:=Zh b2;clear b2;go_wp2_with fail;refine b0.out.mono ?_;rintro e c6 ⟨rfl,l7,m9⟩;have j4:Ext r c6:=g1.out.after m9 (fun f B h2=>by have:=(d2.out f h2).1;have:=i7.out;omega);have g9:=Zh l7;have c9:=Zh j4;clear b0 g1 d2 i7 l7 m9 j4;obtain⟨T,k7⟩:=zE c6.heap.size;have i8:=Zh k7;clear k7;go_wp2
 refine wp_loop (fun a z=>∃(b H:Nat) (c0:Option Addr) (b9:Nat),b<=k/\(X8 sh b).length=H/\a.defers=[]/\gS a [5,6,16,17,96,97,98]=(117,[.int .i64 k,.slice (some ⟨m,0,none⟩) k k,s0,.slice c0 H b9,.slice (some ⟨m,0,none⟩) k k,.int .i64 k,.int .i64 b])/\z.ownsRow T 3 1 (.slice c0 H b9) H (Qh (X8 sh b))/\Ext c6 z)
  (fun a _=>k - (intOf (a.tmps.getD 98 undef)).toNat) ?_ ?_
 ·exact⟨0,0,none,0,by omega,rfl,rfl,rfl,World.ownsRow_nil _ _ _ _,Q0.refl _ _⟩
 rintro⟨n8,_⟩ z ⟨b,H,c0,b9,l4,e6,a2,G,E,j5⟩;subst a2;obtain⟨f6,rfl⟩:=Qt G;clear G;obtain⟨P,i,A⟩:=Zh3 e6 E j5;have u2:H<=64:=by rw [<-e6];have:=Rv sh b;omega
 clear e6 E j5;by_cases r0:b<k;case pos=>
  have B:(b:Int)<(k:Int):=by omega
  have j0:(0:Int)<=(b:Int):=by omega
  have q7:=Hz (Qb i0.out (c9.out.trans A.out)) K.out.1 r0 rfl (d:=-1);have b7:=fun h=>Q3y (sh:=sh) (k:=b) h;have b6:=fun h=>Q6x (sh:=sh) (k:=b) h;obtain⟨o,n5⟩:=zE (sh.getD b (-1));rw [n5] at q7 b7 b6;clear n5;by_cases a7:o=(b:Int)
  ·have a3:=b6 a7;subst a7;have Q:=Zh a3;clear a3 b7 b6;go_wp2;exact⟨⟨b+1,H,c0,b9,by omega,by rw [Q.out];exact P.out,tz,rfl,by rw [Q.out];exact i.out,A.out⟩,nz⟩
  ·have a3:=b7 a7;have u4:¬ (b:Int)=o:=fun e=>a7 e.symm;have Q:=Zh a3;clear a3 b7 b6 a7;have t4:T<=z.heap.size:=by have:=A.out.size;rw [i8.out] at this;exact this
   go_wp2_with (at_builtin;refine Zv rfl (.tmp 106) (.tmp 108) 36 rfl T 3 _ 1 8 Tryz.underlying36 @P7 rfl zd _ _ _ rfl (Qb i.out ((Q0.refl _ z).alloc _)) ⟨z.heap.size,0,none⟩ 1 1 [.int .i64 (b:Int)] rfl rfl (Zy rfl) ?c2 ?c3 ?c4 ?c5 ?_)
   case c2=>intro f6 n0;simp at n0;subst n0;rfl
   case c3=>unfold maxLen;omega
   case c4=>omega
   case c5=>simp;omega
   intro r6 r5 o8 k0 k2 _;have Y:Ext c6 o8:=(A.out.trans ((Q0.refl _ z).alloc _)).after k2 (fun f J e=>by have:=(i.out.lt f e).1;have:=i8.out;omega);have o4:=Zh k0;have o2:=Zh Y;clear k0 Y k2 i A;go_wp2;exact⟨⟨b+1,H+1,r6,r5,by omega,by rw [Q.out,List.length_append,P.out];rfl,tz,rfl,by have:=o4.out;rw [Q.out,Fg];exact this,o2.out⟩,nz⟩
 obtain rfl:b=k:=by omega
 have B:¬ (b:Int)<(b:Int):=by omega
 have e3:=Rd.of_own (Qb g9.out A.out);have f4:=Rd.of_own i.out;rw [<-g6.out] at e3;rw [<-P.out] at f4;have a4:=Sj e3 f4;rw [decide_eq_true rfl,P.out] at a4;have i1:=Zh a4;have g2:=Zh (y.out.trans (c9.out.trans A.out));clear a4 e3 f4 i g9 i0 P g6 A c9 K;go_upto_region 27 with (fail)
 go_wp2_with (go_at_call 26;refine i1.out.mono ?_)
 intro e s4 q8 Y;subst q8;have d0:=Zh (g2.out.trans Y);clear Y i1 g2
 go_wp2_with (go_at_call 16;refine(Wj _ (o6.out.keep d0.out id)).mono ?_)
 rintro e s5 ⟨rfl,j6⟩;have o3:=Zh (d0.out.trans j6);clear j6 d0;go_wp2;go_ret;exact⟨rfl,o3.out⟩
theorem Cl{w:World}{c:Int}(f:0<=c)(l:c<256){d:Option Addr}{b:Nat}{a:List (Nat × Nat)} (j:Rd w (.slice d a.length b) a.length 2 (p8V a)) (i:a.length<=b) (k:∀ p∈a,p.1<256/\p.2<256) (g:Tab w) :
  Calls Tryz.prog 14 #[.int .u8 c,.slice d a.length b] w fun e w'=>e=.returned (.bool true)/\Ext w w':=by
 obtain⟨m,rfl⟩:=Int.eq_ofNat_of_zero_le f;exact Q28 oz j rfl i k g
end Go.Proofs.YtejenndedjabhaaGreatDoor
