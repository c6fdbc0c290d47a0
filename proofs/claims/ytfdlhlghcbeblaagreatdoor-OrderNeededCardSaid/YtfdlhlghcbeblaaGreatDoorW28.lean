/- PLAIN: -/
import Derived.Test.YtfdlhlghcbeblaaGreatDoorW21
import Derived.Test.YtfdlhlghcbeblaaGreatDoorW27
set_option maxRecDepth 100000
set_option maxHeartbeats 16000000
namespace Go.Proofs.YtfdlhlghcbeblaaGreatDoor
open Go.RowKit Go.Ab
def K6(L:List (List Nat)) (x y i:Nat):Bool:=decide (x≠y) && (L.take i).all fun o=>Hv o x y
theorem Q2r{L:List (List Nat)} {x y i:Nat} (a:i<L.length):K6 L x y (i+1)=(K6 L x y i && Hv L[i] x y):=by
 unfold K6;rw [List.take_succ_eq_append_getElem a,List.all_append,Bool.and_assoc];simp
theorem Q6g{L:List (List Nat)} {x y:Nat}:K6 L x y L.length=Uz L x y:=by
 unfold K6 Uz;rw [List.take_length]
theorem Q2h{L:List (List Nat)} {x y i:Nat} (h:K6 L x y i=false):Uz L x y=false:=by
 have c:Uz L x y=true->K6 L x y i=true:=by
  unfold K6 Uz;simp only [Bool.and_eq_true,List.all_eq_true];exact fun⟨a,b⟩=>⟨a,fun o ho=>b o (List.mem_of_mem_take ho)⟩
 cases hq:Uz L x y with
 | false=>rfl
 | true=>rw [c hq] at h;cases h
def noY(o:List Nat)(y j:Nat):Bool:=!(o.take j).contains y
theorem Q7l{o:List Nat}{y j:Nat}(b:j<o.length):noY o y (j+1)=(noY o y j && !(o[j] == y)):=by
 unfold noY;have a:(o.take j++[o[j]]).contains y=((o.take j).contains y || o[j] == y):=by
  rw [Bool.eq_iff_iff,List.contains_iff_mem,Bool.or_eq_true,List.contains_iff_mem,List.mem_append,List.mem_singleton,beq_iff_eq];exact or_congr Iff.rfl eq_comm
 rw [List.take_succ_eq_append_getElem b,a,Bool.not_or]
theorem Q9n{o:List Nat}{x y:Nat}:noY o y (o.idxOf x)=Hv o x y:=rfl
theorem Lb(n:Nat)(R:Nat->Nat->Bool)(x:Nat):∀ d,Yi n R x <+: Yi n R (x+d)
 | 0=>List.prefix_rfl
 | d+1=>by
  rw [<-Nat.add_assoc,Ka];exact(Lb n R x d).trans (List.prefix_append _ _)
theorem Eh(R:Nat->Nat->Bool)(x y:Nat):∀ d,Xm R x y <+: Xm R x (y+d)
 | 0=>List.prefix_rfl
 | d+1=>by
  rw [<-Nat.add_assoc,Wv];exact(Eh R x y d).trans (List.prefix_append _ _)
theorem Q3b(n:Nat)(R:Nat->Nat->Bool):Jb n R=Yi n R n:=rfl
theorem Qa8{n:Nat}{R:Nat->Nat->Bool}{x y:Nat}(d:x<n)(e:y<n)(h:R x y=true):(Jb n R)[(Yi n R x).length+(Xm R x y).length]?=some ((x:Int),(y:Int)):=by
 have b:Yi n R x++Xm R x (y+1) <+: Yi n R (x+1):=by
  rw [Ka];refine(List.prefix_append_right_inj _).2 ?_;have:=Eh R x (y+1) (n - (y+1))
  rwa [show y+1+(n - (y+1))=n by omega] at this
 have a:=b.trans (Lb n R (x+1) (n - (x+1)));rw [show x+1+(n - (x+1))=n by omega] at a;obtain⟨f,c⟩:=a;rw [Q3b,<-c,Wv,if_pos h,List.append_assoc,List.getElem?_append_right oz,Nat.add_sub_cancel_left,List.append_assoc,List.getElem?_append_right (Nat.le_refl _),Nat.sub_self];rfl
theorem Q0f{n:Nat}{L:List (List Nat)} (g:Ml n L) {o:List Nat} (d:o∈L) (m:o.length=n):allowsR n (Ve (Zg L)) (o.map fun(i:Nat)=>(i:Int))=(true,0):=by
 obtain⟨c,r⟩:=g o d;have s:L≠[]:=List.ne_nil_of_mem d
 have t:okP n (o.map fun(i:Nat)=>(i:Int)) n:=fun i k=>by
  have b:i<o.length:=by omega
  refine⟨o[i],(r _).1 (List.getElem_mem b),?_,fun j hj e=>?_⟩
  ·rw [List.getElem?_map,List.getElem?_eq_getElem b];rfl
  ·rw [List.getElem?_map,List.getElem?_eq_getElem (by omega:j<o.length)] at e;simp only [Option.map_some,Option.some.injEq,Int.natCast_inj] at e;have a:=c.idxOf_getElem j oz;have v:=c.idxOf_getElem i b;rw [e] at a;omega
 rw [Q2j (by rw [List.length_map,m]) t];have q:(o.map fun(i:Nat)=>(i:Int)).map Int.toNat=o:=by
  rw [List.map_map];exact List.map_id _
 rw [q];have u:Dg n (Ve (Zg L)) o n=true:=by
  unfold Dg;rw [List.all_eq_true];intro i k;rw [List.all_eq_true];intro f w;have l:i<o.length:=by rw [m];exact List.mem_range.1 k
  rw [List.getD_eq_getElem?_getD,List.getElem?_eq_getElem l,Option.getD_some];cases hq:Ve (Zg L) f o[i] with
  | false=>rfl
  | true=>
   obtain⟨_,_,p⟩:=(Jy g s).1 hq;have a:=p o d;rw [c.idxOf_getElem i l] at a;rw [Bool.not_true,Bool.false_or,List.contains_iff_mem];exact List.mem_take_iff_getElem.2 ⟨o.idxOf f,by omega,List.getElem_idxOf oz⟩
 rw [u]
attribute [local go_sem] Oper.semAt_some Z1 Qk
def Jp(LD:List Q5)(qs:Q8):Nat->Nat->Bool:=Ve (Zg (Z4 LD qs LD.length))
theorem S4{LD:List Q5}{qs:Q8}(h:X9 LD qs=0):Rel LD.length (Jp LD qs)/\Xv LD qs=Jb LD.length (Jp LD qs)/\LD.length<=6:=by
 have b:Xv LD qs=Jb LD.length (Jp LD qs):=by unfold Xv;rw [if_pos h];rfl
 unfold X9 at h;by_cases a:Qo LD (qs.map (·.1))=0
 ·rw [if_pos a] at h;refine⟨Q4c (Hr LD qs _) (fun e=>?_),b,(Jg a).1⟩;rw [e] at h;cases h
 ·rw [if_neg a] at h;exact absurd h a
def Qc0(E:Int)(n base:Nat)(R:Nat->Nat->Bool)(v:Option Addr)(W:World):Prop:=(E≠0->v=none)/\(E=0->∃ b,v=some ⟨b,0,none⟩/\base<=b/\W1 W b n R)
theorem Qbg{w:World}{v:Value}{n sz:Nat}{xs:List Value}(h:Rd w v n sz xs):Qx (fun g=>g<w.heap.size) v:=by
 intro g m l i b c;subst b;obtain⟨_,_,f,j,a,d⟩:=h;simp only [zV] at a;obtain⟨rfl,rfl,rfl⟩:=a;obtain⟨k,o,a,e,_⟩:=d c;cases a;exact e
theorem Q9s{X:List (Int × Int)} {k:Nat} (a:k<X.length):(prs X).getD (k*2) undef=.int .i64 X[k].1/\(prs X).getD (k*2+1) undef=.int .i64 X[k].2:=by
 rw [Dr X k a,Dt X k a,List.getD_eq_getElem?_getD,List.getElem?_eq_getElem a];exact⟨rfl,rfl⟩
theorem Q4z{w:World}{ps:Qg}{qs:Q8}{lo:Option Addr}{n lc:Nat}{d4:Option Addr}{m pc:Nat}(Z:Qz w (.slice lo n lc) ps) (H:ps.length=n) (c5:Z3 w (.slice d4 m pc) qs) (c1:qs.length=m) (E:Tab w) :
  Calls Tryz.prog 46 #[.slice lo n lc,.slice d4 m pc] w fun e w'=>∃ v,e=.returned (.tuple #[.pointer v,.int .i64 (X9 (ps.map (·.1)) qs)])/\Qc0 (X9 (ps.map (·.1)) qs) n w.heap.size (Jp (ps.map (·.1)) qs) v w'/\Ext w w':=by
 have I:=Fw Z H c5 c1 E;have f2:n<=maxLen:=by rw [<-H];exact Z.1.2.1
 have c8:0<w.heap.size:=by
  obtain⟨i1,f6,_⟩:=Kp (E 0 zd);exact(Array.getElem?_eq_some_iff.1 f6).1
 obtain⟨d,Q⟩:=zE (ps.map (·.1));have b1:d.length=n:=by rw [<-Q,List.length_map,H]
 rw [Q] at I ⊢;have r:X9 d qs=0->Rel n (Jp d qs)/\Xv d qs=Jb n (Jp d qs)/\n<=6:=fun h=>by have:=S4 h;rw [b1] at this;exact this
 have c3:X9 d qs≠0->Xv d qs=[]:=fun h=>by unfold Xv;rw [if_neg h]
 obtain⟨u,R⟩:=zE (Jp d qs);obtain⟨s,l⟩:=zE (X9 d qs);obtain⟨p,S⟩:=zE (Xv d qs);rw [R,l,S] at r;rw [l,S] at I c3;rw [R,l];obtain⟨a4,a7,e1,e3⟩:=Zh4 I r E c8;clear I r c3 l S R b1 Q Z H c5 c1 E c8;unfold maxLen at f2;go_enter Tryz.func46,Tryz.ntmps46;go_wp2_with fail;refine a4.out.mono ?_;rintro e i ⟨f8,f7,rfl,b7,b0⟩;have M:=Zh b7;have o:=Zh b0;clear b7 b0 a4;by_cases O:s=0;case neg=>
  have g9:(s != 0)=true:=by simpa using O
  go_wp2;go_ret2;exact⟨none,rfl,⟨fun _=>rfl,fun h=>absurd h O⟩,o.out⟩
 subst O;obtain⟨r,d1,g8⟩:=a7.out uz;have a6:=Zh r;have a9:=Zh d1;clear r d1 a7;go_wp2_with fail;refine(Qcg n oz i).mono ?_;rintro e i5 ⟨rfl,P,q⟩;obtain⟨f,C⟩:=zE i.heap.size;rw [C] at q ⊢;have f4:w.heap.size<=f:=by rw [<-C];exact o.out.size
 obtain⟨k,K⟩:=zE p.length;have J:=M.out.ext P;rw [K] at J ⊢;have f5:k<=maxLen:=J.2.1;unfold maxLen at f5;obtain⟨a8,f9,d8,d9⟩:=Zh4 K J P q;have W:=fun b (hW:Q0 (fun c=>¬ c<i.heap.size) i b)=>Wa M.out hW (Qbg M.out);rw [K] at W;have d7:=Zh W;have d6:=Zh C;clear W C K J P q;go_wp2
 refine wp_loop (fun g b=>∃(a:Nat) (y:Nat->Nat->Bool),a<=k/\g.defers=[]/\gS g [8,30,31,32]=(47,[.pointer (some ⟨f,0,none⟩),.slice f8 k f7,.int .i64 k,.int .i64 a])/\W1 b f n y/\Und n u y (p.take a)/\Q0 (fun c=>¬ c<i.heap.size) i b)
  (fun g _=>((k:Int) - intOf (g.tmps.getD 32 undef)).toNat) ?_ ?_
 ·exact⟨0,_,by omega,rfl,rfl,d9.out,Und.start,Ext.of d8.out⟩
 rintro⟨i3,_⟩ b ⟨a,y,g7,e9,c7,c4,c9,b4⟩;subst e9;obtain⟨i4,rfl⟩:=Qq c7;clear c7;obtain⟨a5,L,t⟩:=Zh3 c4 c9 b4;clear c4 c9 b4;by_cases f1:a<k;case neg=>
  obtain rfl:a=k:=by omega
  have e8:¬ (a:Int)<(a:Int):=by omega
  have Y:=L.out;rw [List.take_of_length_le (by rw [a8.out];exact Nat.le_refl _),a9.out] at Y;have f0:=Und.done a6.out Y;subst f0;clear Y;go_wp2;go_ret2;exact⟨some ⟨f,0,none⟩,rfl,⟨fun h=>absurd rfl h,fun _=>⟨f,rfl,f4,a5.out⟩⟩,Q0.after o.out t.out (fun c b9 h=>by have:=o.out.size;omega)⟩
 have e8:(a:Int)<(k:Int):=by omega
 have g4:(0:Int)<=(a:Int):=by omega
 have G:a<p.length:=by rw [a8.out];exact f1
 have f3:=d7.out b t.out;obtain⟨_,_,g1,g2,c6,d5⟩:=f3;simp only [zV,true_and] at c6;obtain⟨rfl,rfl⟩:=c6;obtain⟨g3,i2,rfl,g6,X⟩:=d5 oz;have A:=X (a*2) oz;have B:=X (a*2+1) oz;obtain⟨d2,d3⟩:=Q9s G;rw [d2] at A;rw [d3,<-Nat.add_assoc] at B;have c2:p[a]∈Jb n u:=by rw [<-a9.out];exact List.getElem_mem G
 obtain⟨g,c,b8,g5,b9,b3⟩:=R2.1 c2;have a0:=List.take_succ_eq_append_getElem G;rw [b8] at A B a0;dsimp only at A B;obtain⟨c0,d0⟩:=Und.step a6.out L.out b3;have U:=fun(V:World) (l:Ext b V)=>Q81 f n y oz L.out.rel V (a5.out.keep l id) (e1.out.keep (Q0.after o.out (t.out.trans l.of) (fun c b9 h=>by have:=o.out.size;omega):Ext w V) id) (by have:=e3.out;omega) (g:Int) (c:Int);rw [c0] at U;obtain⟨e5,a2,e4⟩:=Zh3 d0 U a0;have i0:IntKind.i64.wrap ((a:Int)+1)=(a:Int)+1:=IntWalk.i64_in _ oz;clear d0 U a0 c0 d2 d3 b8 c2 b3 X d5 G;go_upto_region 10 with (fail)
 obtain⟨N,F⟩:=zE (b.alloc (.cells #[.int .i64 (g:Int),.int .i64 (c:Int)] 73));have b2:Ext b N:=by rw [<-F];exact(Q0.refl _ b).alloc _
 have a1:N.heap[b.heap.size]?=some (.cells #[.int .i64 (g:Int),.int .i64 (c:Int)] 73 (0,0)):=by rw [<-F];exact Q2 rfl
 obtain⟨g0,T⟩:=zE b.heap.size;rw [T] at a1;rw [F,T];have e7:=zR a1;have a3:=Zh b2;clear F b2 a1 T A B;go_wp2_with fail;refine(a2.out N a3.out).mono ?_;rintro e e6 ⟨rfl,b5,q⟩;have b6:Q0 (fun c=>¬ c<i.heap.size) i e6:=(t.out.trans a3.out.of).trans (b5.mono fun c _ e h=>by have:=d6.out;omega);have e0:=Zh q;have e2:=Zh b6;clear q b6 b5 a2 e7;go_wp2;exact⟨⟨a+1,_,by omega,tz,rfl,e0.out,by rw [e4.out];exact e5.out,e2.out⟩,mz⟩
def NdO(n:Nat)(lv av nv ov:Value)(P:Nat->Nat)(w2:World)(a:Act)(W:World):Prop:=∃(x:Nat),x<=n/\a.defers=[]/\gS a [0,5,7,9,11,12]=(185,[lv,av,nv,ov,.int .i64 (P x:Nat),.int .i64 x])/\Ext w2 W
def NdM(n x:Nat)(lv av nv ov:Value)(P:Nat->Nat)(w2:World)(a:Act)(W:World):Prop:=∃(y:Nat),y<=n/\a.defers=[]/\gS a [0,5,7,9,11,12,13]=(185,[lv,av,nv,ov,.int .i64 (P y:Nat),.int .i64 x,.int .i64 y])/\Ext w2 W
def NdI(Z x y K:Nat)(lv av nv ov:Value)(T:Nat->Bool)(w2:World)(a:Act)(W:World):Prop:=∃(i:Nat),i<=Z/\a.defers=[]/\gS a [0,5,7,9,11,12,13,14,15]=(185,[lv,av,nv,ov,.int .i64 K,.int .i64 x,.int .i64 y,.bool (T i),.int .i64 i])/\Ext w2 W
def NdJ(c x y K i:Nat)(lv av nv ov:Value)(T:Nat->Bool)(w2:World)(a:Act)(W:World):Prop:=∃(j:Nat),j<=c/\a.defers=[]/\gS a [0,5,7,9,11,12,13,14,15,16]=(185,[lv,av,nv,ov,.int .i64 K,.int .i64 x,.int .i64 y,.bool (T j),.int .i64 i,.int .i64 j])/\Ext w2 W
def NdA(Z K:Nat)(av nv ov:Value)(w2:World)(a:Act)(W:World):Prop:=∃(i:Nat),i<=Z/\a.defers=[]/\gS a [5,7,9,11,17]=(185,[av,nv,ov,.int .i64 K,.int .i64 i])/\Ext w2 W
theorem Q0k{w:World}{ps:Qg}{qs:Q8}{lo:Option Addr}{n lc:Nat}{r3:Option Addr}{m pc:Nat}(c4:Qz w (.slice lo n lc) ps) (W:ps.length=n) (c9:Z3 w (.slice r3 m pc) qs) (c5:qs.length=m) (C:Tab w) :
  Calls Tryz.prog 12 #[.slice lo n lc,.slice r3 m pc] w fun e w'=>e=.returned (.bool true)/\Ext w w':=by
 have q8:=Hn c4 W c9 c5 C;have r0:=fun(u:World) (i:Ext w u)=>Hl u (C.keep i id);have U:=fun(u:World) (i:Ext w u)=>Fr (most:=1000) (c4.ext i) W (Qj c9 i) c5 (C.keep i id);have X:=fun(u:World) (i:Ext w u)=>Fw (c4.ext i) W (Qj c9 i) c5 (C.keep i id);have V:=fun(u:World) (i:Ext w u)=>Q4z (c4.ext i) W (Qj c9 i) c5 (C.keep i id)
 have k4:W8 (ps.map (·.1)) (qs.map (·.1))->n<=4/\Qo (ps.map (·.1)) (qs.map (·.1))=0:=fun f=>by
  obtain⟨b2,_,s7⟩:=f;rw [List.length_map,W] at b2;exact⟨b2,s7⟩
 have f0:n<=4->Qo (ps.map (·.1)) (qs.map (·.1))=0->Uj (ps.map (·.1)) qs 1000=Z4 (ps.map (·.1)) qs n:=fun h4 S=>by
  have b2:=Db (ps.map (·.1)) qs n h4;unfold Uj;rw [if_pos S,List.length_map,W];exact List.take_of_length_le oz
 have l7:n<=4->(Z4 (ps.map (·.1)) qs n).length<=1000:=fun h4=>by
  have b2:=Db (ps.map (·.1)) qs n h4;omega
 have b5:(ps.map (·.1)).length=n:=by rw [List.length_map,W]
 have c7:Qo (ps.map (·.1)) (qs.map (·.1))=0->Z4 (ps.map (·.1)) qs n=[]->X9 (ps.map (·.1)) qs=5/\Xv (ps.map (·.1)) qs=[]:=fun S a1=>by
  have T:X9 (ps.map (·.1)) qs=5:=by unfold X9;rw [if_pos S,b5,a1];rfl
  refine⟨T,?_⟩;unfold Xv;rw [T];rfl
 have c6:Qo (ps.map (·.1)) (qs.map (·.1))=0->Z4 (ps.map (·.1)) qs n≠[]->X9 (ps.map (·.1)) qs=0/\Xv (ps.map (·.1)) qs=Jb n (Jp (ps.map (·.1)) qs)/\∀ b c,b<n->c<n->Jp (ps.map (·.1)) qs b c=Uz (Z4 (ps.map (·.1)) qs n) b c:=fun S a1=>by
  have T:X9 (ps.map (·.1)) qs=0:=by
   unfold X9;rw [if_pos S,b5,if_neg (fun f=>a1 (List.isEmpty_iff.1 f))]
  have n5:=(S4 T).2.1;rw [b5] at n5;refine⟨T,n5,fun b c X f5=>?_⟩;unfold Jp;rw [b5];exact Ex (Hr _ _ _) a1 X f5
 have f3:∀ g∈Z4 (ps.map (·.1)) qs n,g.length=n/\(∀ b,b<n->b∈g)/\allowsR n (Jp (ps.map (·.1)) qs) (g.map fun(d:Nat)=>(d:Int))=(true,0):=fun g a3=>by
  have b2:g∈Qa n:=by rw [Uq] at a3;exact(List.mem_filter.1 a3).1
  have n3:=(Xw n g b2).1;refine⟨n3,fun b X=>((Hr _ _ _ g a3).2 b).2 X,?_⟩;unfold Jp;rw [b5];exact Q0f (Hr _ _ _) a3 n3
 obtain⟨v1,n8⟩:=zE (Qo (ps.map (·.1)) (qs.map (·.1)));simp only [n8] at k4 f0 c7 c6 U;obtain⟨y,a1⟩:=zE (Z4 (ps.map (·.1)) qs n);simp only [a1] at f0 c7 c6 f3 l7;obtain⟨J,e9⟩:=zE (Xv (ps.map (·.1)) qs);obtain⟨v3,c0⟩:=zE (X9 (ps.map (·.1)) qs);obtain⟨o,e8⟩:=zE (Jp (ps.map (·.1)) qs);simp only [e9,c0] at X;simp only [c0,e8] at V;simp only [e9,c0] at c7;simp only [e9,c0,e8] at c6;simp only [e8] at f3;obtain⟨m4,j0,g3,j1,g6,i3,g4,i4⟩:=Zh8 q8 r0 U X V k4 f0 c7;have Z:=Zh c6;have O:=Zh f3;clear q8 r0 U X V k4 f0 c7 c6 f3 b5 c4 W c9 c5 C n8 a1 e9 c0 e8;go_enter Tryz.func12,Tryz.ntmps12;go_wp2_with fail;refine m4.out.mono ?_;rintro e r6 ⟨K,rfl,p0,n7⟩;have b8:=Zh n7;have i2:=Zh p0;clear n7 m4 p0;cases K with
 | false=>
  clear g3 j1 g6 i3 g4 i4 Z O i2;go_wp2_with fail;refine(j0.out r6 b8.out).mono ?_;rintro e f9 ⟨rfl,p⟩;have b9:=Zh (b8.out.trans p);clear p;go_wp2;go_ret;exact⟨rfl,b9.out⟩
 | true=>
  obtain⟨p8,s8⟩:=i3.out (i2.out uz);subst s8;have U:=g3.out r6 b8.out;rw [g4.out p8 uz] at U;have u6:=l7 p8;have T:=i4.out uz;have S:=Z.out uz;obtain⟨j,k2⟩:=zE y.length;have G:=Zh k2;rw [k2] at U u6;obtain⟨m0,g2,g1⟩:=Zh3 U T S;clear U T S k2 l7 i2 i3 g3 g4 i4 Z;go_wp2_with fail;refine m0.out.mono ?_;rintro e f9 ⟨b1,a0,rfl,p1,p⟩;have b9:=Zh (b8.out.trans p);have m6:Hid (∀ D,Ext f9 D->Za D (.slice b1 j a0) y):=Zh (fun D hD=>Za.ext p1 hD);clear p1 p m0 b8;go_wp2_with fail;refine(j1.out f9 b9.out).mono ?_;rintro e g0 ⟨a8,a7,rfl,q4,p⟩;have g9:=Zh (b9.out.trans p);have n4:Ext f9 g0:=p;have m7:Hid (∀ D,Ext g0 D->Rd D (.slice a8 J.length a7) J.length 2 (prs J)):=Zh (fun D hD=>q4.ext hD);clear q4 p j1 b9;go_wp2_with fail;refine(g6.out g0 g9.out).mono ?_;rintro e Y ⟨v7,rfl,o9,p⟩;have d7:=Zh (g9.out.trans p);have j4:Ext g0 Y:=p;have d6:=Zh o9;have I:Hid (∀ D,Ext Y D->Rd D (.slice a8 J.length a7) J.length 2 (prs J)):=Zh (fun D hD=>m7.out D (j4.trans hD));have Q:Hid (∀ D,Ext Y D->Za D (.slice b1 j a0) y):=Zh (fun D hD=>m6.out D (n4.trans (j4.trans hD)));clear o9 p g6 g9 m7 m6 n4 j4;by_cases b3:y=[]
  ·obtain⟨q1,f2⟩:=g2.out b3;obtain rfl:j=0:=by rw [<-G.out,b3];rfl
   obtain rfl:=d6.out.1 (by rw [q1];decide);subst q1 f2;clear b3 g2 g1 d6 O G I Q;go_wp2_with fail;refine(j0.out Y d7.out).mono ?_;rintro e v0 ⟨rfl,p⟩;have i0:=Zh (d7.out.trans p);clear p;go_wp2;go_ret;exact⟨rfl,i0.out⟩
  obtain⟨q0,f2,q2⟩:=g1.out b3;have p7:0<y.length:=List.length_pos_iff.2 b3;rw [G.out] at p7;have t3:(j:Int) > 0:=by omega
  have t4:(0:Int)<(j:Int):=by omega
  obtain⟨K,t0,_,a3⟩:=d6.out.2 q0;subst t0 q0;obtain⟨e0,e2,e1⟩:=Zh3 a3 f2 q2;obtain⟨A,f4⟩:=zE J.length;have j2:=Zh f4;have u3:A<=maxLen:=by rw [<-f4];exact(I.out Y (Q0.refl _ _)).2.1
  unfold maxLen at u3;rw [f4];clear b3 g2 g1 d6 a3 f2 q2 f4;go_wp2;refine wp_loop (NdO n (.slice lo n lc) (.slice b1 j a0) (.slice a8 A a7) (.pointer (some ⟨K,0,none⟩)) (fun b=>(Yi n o b).length) Y) (fun a _=>((n:Int) - intOf (a.tmps.getD 12 undef)).toNat) ?_ ?_
  ·exact⟨0,by omega,rfl,rfl,Q0.refl _ _⟩
  clear p7 t3 t4;rintro⟨f7,_⟩ m9 ⟨b,X,L,q,i⟩;dsimp only at q;subst L;obtain⟨f8,rfl⟩:=Qq q;clear q;have d8:=Zh i;clear i;by_cases d4:b<n;case neg=>
   obtain rfl:b=n:=by omega
   have t9:¬ (b:Int)<(b:Int):=by omega
   have n9:(Yi b o b).length=A:=by rw [<-j2.out,e2.out];rfl
   rw [n9];clear n9 e1 e2;go_wp2;refine wp_loop (NdA j A (.slice b1 j a0) (.slice a8 A a7) (.pointer (some ⟨K,0,none⟩)) Y) (fun a _=>((j:Int) - intOf (a.tmps.getD 17 undef)).toNat) ?_ ?_
   ·exact⟨0,by omega,rfl,rfl,d8.out⟩
   clear d8;rintro⟨f7,_⟩ u ⟨d,p2,L,q,i⟩;subst L;obtain⟨f8,rfl⟩:=Qq q;clear q;have x:=Zh i;clear i;by_cases p3:d<j;case neg=>
    obtain rfl:d=j:=by omega
    have c1:¬ (d:Int)<(d:Int):=by omega
    clear I Q e0 O G;go_wp2_with fail;refine(j0.out u (d7.out.trans x.out)).mono ?_;rintro e v0 ⟨rfl,p⟩;have i0:=Zh ((d7.out.trans x.out).trans p);clear p;go_wp2;go_ret;exact⟨rfl,i0.out⟩
   have c1:(d:Int)<(j:Int):=by omega
   have t1:(0:Int)<=(d:Int):=by omega
   have a2:d<y.length:=by rw [G.out];exact p3
   obtain⟨u8,a6,d3⟩:=Q.out u x.out;obtain⟨r5,r4,d5,M⟩:=d3 d a2;rw [G.out] at a6;obtain⟨n2,r2,s5,d0,_,E⟩:=Xk a6 p3;simp only [zV] at d0;obtain⟨l3,l9,l4⟩:=d0;subst l3 l4;rw [d5] at E;obtain⟨F,_,l8⟩:=O.out _ (List.getElem_mem a2);obtain⟨g,c8⟩:=zE (y[d]);rw [c8] at E M F l8;rw [F] at E M;have k6:=Q27 K b o oz u (e0.out.keep x.out id) (.slice r5 b r4) (g.map fun(d:Nat)=>(d:Int)) (by rw [Nl,List.length_map,F];exact M);rw [l8] at k6;have m1:=Zh k6;have t8:IntKind.i64.wrap ((d:Int)+1)=(d:Int)+1:=IntWalk.i64_in _ oz;clear k6 a6 d3 d5 M F l8 c8 l9 I Q;go_wp2_with fail;refine m1.out.mono ?_;rintro e v4 ⟨rfl,rfl⟩;clear m1 E;go_wp2;exact⟨⟨d+1,by omega,tz,rfl,x.out⟩,mz⟩
  have t9:(b:Int)<(n:Int):=by omega
  have x0:IntKind.i64.wrap ((b:Int)+1)=(b:Int)+1:=IntWalk.i64_in _ oz;have d1:=Ka n o b;have l5:(Yi n o (b+1)).length=(Yi n o b).length+(Xm o b n).length:=by rw [d1,List.length_append]
  have v:=fun(c:Nat) (f5:c<n) (f:o b c=true)=>Qa8 (n:=n) d4 f5 f;rw [<-e2.out] at v;obtain⟨e5,e7⟩:=zE ((Yi n o b).length);rw [e7] at l5 ⊢;simp only [e7] at v;have w4:e5<=A:=by
   rw [<-e7,<-j2.out,e2.out];have:=(Lb n o b (n - b)).length_le;rw [show b+(n - b)=n by omega] at this;exact this
  have i7:=Zh l5;have g5:=Zh v;clear d1 l5 v e7;go_wp2;refine wp_loop (NdM n b (.slice lo n lc) (.slice b1 j a0) (.slice a8 A a7) (.pointer (some ⟨K,0,none⟩)) (fun c=>e5+(Xm o b c).length) Y) (fun a _=>((n:Int) - intOf (a.tmps.getD 13 undef)).toNat) ?_ ?_
  ·exact⟨0,by omega,rfl,rfl,d8.out⟩
  clear d8;rintro⟨f7,_⟩ u ⟨c,f5,L,q,i⟩;dsimp only at q;subst L;obtain⟨f8,rfl⟩:=Qq q;clear q;have x:=Zh i;clear i;by_cases l6:c<n;case neg=>
   obtain rfl:c=n:=by omega
   have u4:¬ (c:Int)<(c:Int):=by omega
   rw [<-i7.out];obtain⟨v2,j6⟩:=zE ((Yi c o (b+1)).length);rw [j6];have r9:=Zh j6;clear j6 i7 g5 e1 e0 O I Q;go_wp2;exact⟨⟨b+1,by omega,tz,(Prod.ext rfl (lE rfl (lE rfl (lE rfl (lE rfl (lE (by dsimp only;rw [r9.out];rfl) rfl)))))),x.out⟩,mz⟩
  have u4:(c:Int)<(n:Int):=by omega
  have x3:IntKind.i64.wrap ((c:Int)+1)=(c:Int)+1:=IntWalk.i64_in _ oz;have d1:(Xm o b (c+1)).length=(Xm o b c).length+if o b c=true then 1 else 0:=by rw [Wv,List.length_append];cases o b c <;> rfl
  have v:=g5.out c l6;have a4:=e1.out b c d4 l6;obtain⟨t,j5⟩:=zE (e5+(Xm o b c).length);obtain⟨m5,j7⟩:=zE (e5+(Xm o b (c+1)).length);have o0:m5=t+if o b c=true then 1 else 0:=by rw [<-j7,<-j5,d1];omega
  rw [j5] at v ⊢;have l0:((b:Int) !=(c:Int))=decide (b≠c):=by
   rw [Bool.eq_iff_iff,bne_iff_ne,decide_eq_true_iff];exact⟨fun f e=>f (by rw [e]),fun f e=>f oz⟩
  obtain⟨d9,a9,b7,s2⟩:=Zh4 j7 o0 v a4;have q6:K6 y b c 0=decide (b≠c):=by unfold K6;simp
  obtain⟨B,C⟩:∃ B:Nat->Bool,K6 y b c=B:=⟨_,rfl⟩;have o3:decide (b≠c)=B 0:=by rw [<-C,q6]
  have o6:∀ d (f:d<y.length),B (d+1)=(B d && Hv y[d] b c):=fun d f=>by rw [<-C];exact Q2r f
  have o4:B j=o b c:=by rw [<-C,a4,<-G.out];exact Q6g
  have o5:∀ d,B d=false->o b c=false:=fun d f=>by rw [a4];rw [<-C] at f;exact Q2h f
  rw [o3] at l0;obtain⟨i9,e3,e4⟩:=Zh3 o6 o4 o5;have p4:(isR n o (b:Int) (c:Int))=o b c:=Qaa d4 l6;have k7:=fun(D:World) (hD:Ext u D)=>Qcu K n o oz D (e0.out.keep (x.out.trans hD) id) (b:Int) (c:Int);simp only [p4] at k7;have N:=Zh k7;clear d1 v a4 j5 j7 o0 q6 C o3 o6 o4 o5 k7 p4 i7 g5 e1;obtain⟨j3,j9⟩:=zE (o b c);rw [j9] at a9 b7 e3 N;simp only [j9] at e4;clear j9 s2;go_wp2;refine wp_loop (NdI j b c t (.slice lo n lc) (.slice b1 j a0) (.slice a8 A a7) (.pointer (some ⟨K,0,none⟩)) B u) (fun a _=>((j:Int) - intOf (a.tmps.getD 15 undef)).toNat) ?_ ?_
  ·exact⟨0,by omega,rfl,(Prod.ext rfl (lE rfl (lE rfl (lE rfl (lE rfl (lE rfl (lE rfl (lE rfl (lE (by first | rfl | (dsimp only;rw [l0];rfl)) rfl))))))))),Q0.refl _ _⟩
  clear l0;rintro⟨f7,_⟩ b0 ⟨d,p2,L,q,i⟩;subst L;obtain⟨f8,rfl⟩:=Qq q;clear q;have H:=Zh i;clear i;by_cases f1:d<j/\B d=true;case neg=>
   have k0:B d=j3:=by
    cases hq:B d with
    | false=>exact(e4.out d hq).symm
    | true=>
     have:d=j:=by
      apply Nat.le_antisymm p2;apply Nat.le_of_not_lt;exact fun f=>f1 ⟨f,hq⟩
     rw [<-hq,this];exact e3.out
   have q5:¬ (d:Int)<(j:Int)\/j3=false:=by
    by_cases f:d<j
    ·right
     rw [<-k0];cases hq:B d with
     | false=>rfl
     | true=>exact absurd ⟨f,hq⟩ f1
    ·left;omega
   rw [k0];have i8:=Zh q5;clear k0 q5 f1 e4 e3 i9 O Q;cases j3 with
   | false=>
    have c3:=a9.out;rw [if_neg Bool.false_ne_true,Nat.add_zero] at c3;subst c3;clear a9 b7 I i8;by_cases k5:d<j
    ·have c1:(d:Int)<(j:Int):=by omega
     go_wp2_with fail;refine(N.out b0 H.out).mono ?_;rintro e m8 ⟨rfl,rfl⟩;clear N;go_wp2;exact⟨⟨c+1,by omega,tz,(Prod.ext rfl (lE rfl (lE rfl (lE rfl (lE rfl (lE (by dsimp only;rw [d9.out];rfl) rfl)))))),x.out.trans H.out⟩,mz⟩
    ·have c1:¬ (d:Int)<(j:Int):=by omega
     go_wp2_with fail;refine(N.out b0 H.out).mono ?_;rintro e m8 ⟨rfl,rfl⟩;clear N;go_wp2;exact⟨⟨c+1,by omega,tz,(Prod.ext rfl (lE rfl (lE rfl (lE rfl (lE rfl (lE (by dsimp only;rw [d9.out];rfl) rfl)))))),x.out.trans H.out⟩,mz⟩
   | true=>
    have c1:¬ (d:Int)<(j:Int):=by
     rcases i8.out with f | f
     ·exact f
     ·cases f
    have c3:=a9.out;rw [if_pos rfl] at c3;have v:=b7.out rfl;have j8:t<J.length:=(List.getElem?_eq_some_iff.1 v).1;have s9:J[t]=((b:Int),(c:Int)):=(List.getElem?_eq_some_iff.1 v).2;have t7:=I.out b0 (x.out.trans H.out);obtain⟨_,_,x9,x8,q3,o7⟩:=t7;simp only [zV] at q3;obtain⟨u1,_,u0⟩:=q3;subst u1 u0;obtain⟨w3,x7,u2,_,b4⟩:=o7 oz;subst u2;have n0:=b4 (t*2) oz;have n1:=b4 (t*2+1) oz;rw [Dr _ _ j8,List.getD_eq_getElem?_getD,v] at n0;rw [Dt _ _ j8,List.getD_eq_getElem?_getD,v,<-Nat.add_assoc] at n1;dsimp only [Option.getD_some] at n0 n1;rw [j2.out] at j8;have w7:=fun m9 x1 x2 y1 y2=>Wg (P:=Tryz.prog) m9 9998 73 3 .i64 x1 x2 y1 y2 Tryz.underlying73 Tryz.underlying3 kz;have s6:¬ (t:Int)>=(A:Int):=by omega
    have v8:¬ (A:Int)<=(t:Int):=by omega
    have v9:decide ((t:Int)>=(A:Int))=false:=decide_eq_false s6;have w0:(t:Int)<(A:Int):=by omega
    have w1:(0:Int)<=(t:Int):=by omega
    have w9:IntKind.i64.wrap ((t:Int)+1)=(t:Int)+1:=IntWalk.i64_in _ oz;have p6:(m5:Int)=(t:Int)+1:=by omega
    have s0:=Zh p6;clear c3 p6 v s9 b4 o7 a9 b7 I i8;go_wp2_with fail;refine(N.out b0 H.out).mono ?_;rintro e m8 ⟨rfl,rfl⟩;clear N;go_wp2;exact⟨⟨c+1,by omega,tz,(Prod.ext rfl (lE rfl (lE rfl (lE rfl (lE rfl (lE (by dsimp only;rw [d9.out,s0.out];rfl) rfl)))))),x.out.trans H.out⟩,mz⟩
  obtain⟨k5,k1⟩:=f1;rw [k1];have c1:(d:Int)<(j:Int):=by omega
  have t1:(0:Int)<=(d:Int):=by omega
  have a2:d<y.length:=by rw [G.out];exact k5
  have t8:IntKind.i64.wrap ((d:Int)+1)=(d:Int)+1:=IntWalk.i64_in _ oz;have a5:=i9.out d a2;rw [k1,Bool.true_and] at a5;obtain⟨F,f6,u7⟩:=O.out _ (List.getElem_mem a2);clear u7;obtain⟨u8,a6,d3⟩:=Q.out b0 (x.out.trans H.out);obtain⟨r5,r4,d5,M⟩:=d3 d a2;rw [G.out] at a6;obtain⟨n2,r2,s5,d0,_,E⟩:=Xk a6 k5;simp only [zV] at d0;obtain⟨l3,l9,l4⟩:=d0;subst l3 l4;rw [d5] at E;obtain⟨g,c8⟩:=zE (y[d]);simp only [c8] at E M F f6 a5;rw [F] at E M;have p5:g.idxOf b<g.length:=List.idxOf_lt_length_of_mem (f6 b d4);rw [F] at p5;rw [<-Q9n] at a5;obtain⟨R,V⟩:=zE (g.idxOf b);rw [V] at a5 p5;have b4:g[R]?=some b:=by rw [<-V];exact List.getElem?_eq_some_iff.2 ⟨List.idxOf_lt_length_of_mem (f6 b d4),List.getElem_idxOf _⟩
  have o8:∀ l (f:l<g.length),l<R->g[l]≠b:=fun l f k8 e=>by
   rw [<-V] at k8;exact absurd (List.not_of_lt_findIdx k8) (by simp [e])
  have l1:∀ l (f:l<g.length),noY g c (l+1)=(noY g c l && !(g[l] == c)):=fun l f=>Q7l f;have k9:noY g c 0=true:=by unfold noY;simp
  obtain⟨e6,o1⟩:∃ e6:Nat->Bool,noY g c=e6:=⟨_,rfl⟩;simp only [o1] at a5 l1 k9;obtain⟨m3,g8,g7,i5,Z,s1,i6,r8⟩:=Zh8 a5 b4 o8 l1 k9 F M E;clear a5 b4 o8 l1 k9 F f6 d5 M E a6 d3 c8 V o1 l9 i9 e3 e4 O k1 Q N a9 b7 d9 I a2;go_wp2;refine wp_loop (NdJ R b c t d (.slice lo n lc) (.slice (some ⟨n2,r2,none⟩) j a0) (.slice a8 A a7) (.pointer (some ⟨K,0,none⟩)) e6 b0) (fun a _=>((R:Int) - intOf (a.tmps.getD 16 undef)).toNat) ?_ ?_
  ·exact⟨0,by omega,rfl,(Prod.ext rfl (lE rfl (lE rfl (lE rfl (lE rfl (lE rfl (lE rfl (lE rfl (lE (by dsimp only;rw [Z.out];rfl) rfl))))))))),Q0.refl _ _⟩
  rintro⟨f7,_⟩ v5 ⟨l,k8,L,q,i⟩;subst L;obtain⟨f8,rfl⟩:=Qq q;clear q;have i1:=Zh i;have E:=i.cell_some r8.out id;clear i;have w6:(l:Int)<(n:Int):=by omega
  have w5:(0:Int)<=(l:Int):=by omega
  have c2:l<g.length:=by rw [s1.out];omega
  have w8:IntKind.i64.wrap ((l:Int)+1)=(l:Int)+1:=IntWalk.i64_in _ oz;obtain⟨w2,x6,v6,a4,_,k3⟩:=Xk (i6.out.ext i1.out) (show l<n by omega);simp only [zV] at a4;obtain⟨t5,r7,t6⟩:=a4;subst t5 t6;have l2:(Qd g).getD l undef=.int .i64 (g[l]:Nat):=by unfold Qd;rw [List.getD_eq_getElem?_getD,List.getElem?_map,List.getElem?_eq_getElem c2];rfl
  rw [l2] at k3;by_cases t2:l<R;case neg=>
   obtain rfl:l=R:=by omega
   have p9:g[l]=b:=(List.getElem?_eq_some_iff.1 g8.out).2;rw [p9] at k3;have x5:((b:Int) !=(b:Int))=false:=by simp
   rw [<-m3.out];clear p9 l2 r7 g8 g7 i5 Z i6 c2;go_wp2;exact⟨⟨d+1,by omega,tz,rfl,H.out.trans i1.out⟩,mz⟩
  have r1:=g7.out l c2 t2;have d2:=i5.out l c2;obtain⟨b6,q7⟩:=zE (g[l]);rw [q7] at k3 r1 d2;have x4:((b6:Int) !=(b:Int))=true:=by simp;omega
  have u5:((b6:Int) !=(c:Int))=!(b6 == c):=by
   rw [Bool.eq_iff_iff,bne_iff_ne,Bool.not_eq_true',beq_eq_false_iff_ne];exact⟨fun f e=>f (by rw [e]),fun f e=>f oz⟩
  obtain⟨s4,o2⟩:=zE (e6 l);obtain⟨u9,q9⟩:=zE (!(b6 == c));rw [q9] at u5 d2;rw [o2] at d2 ⊢;have m2:=Zh d2;clear r1 d2 q7 l2 r7 q9 o2 g8 g7 i5 Z i6 m3 c2;cases s4 <;> cases u9
  all_goals
   have n6:=m2.out;have s3:=Zh n6;clear n6 m2;go_wp2;exact⟨⟨l+1,by omega,tz,(Prod.ext rfl (lE rfl (lE rfl (lE rfl (lE rfl (lE rfl (lE rfl (lE rfl (lE (by dsimp only;rw [s3.out];rfl) rfl))))))))),i1.out⟩,mz⟩
end Go.Proofs.YtfdlhlghcbeblaaGreatDoor
