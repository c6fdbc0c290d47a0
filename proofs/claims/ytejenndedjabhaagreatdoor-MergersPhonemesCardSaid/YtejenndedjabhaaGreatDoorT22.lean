/- Phonemes: -/
import Derived.Test.YtejenndedjabhaaGreatDoorT18
import Derived.Test.YtejenndedjabhaaGreatDoorT19
set_option maxRecDepth 100000
set_option maxHeartbeats 16000000
namespace Go.Proofs.YtejenndedjabhaaGreatDoor
open Go.RowKit Go.Ab
def Hr(ls:List Qg)(u v:Wd):Bool:=decide (Y2 ls u=Y2 ls v)
def Lp(ls:List Qg)(w:Wd)(s t:Nat × Nat)(i:Nat):Bool:=
 if w.getD i (0,0)=s then !Hr ls w (w.set i t) else if w.getD i (0,0)=t then !Hr ls w (w.set i s) else false
def apB(ls:List Qg)(w:Wd)(s t:Nat × Nat):Bool:=(List.range w.length).any (Lp ls w s t)
def apL(ls:List Qg)(l:List Wd)(s t:Nat × Nat):Bool:=l.any fun w=>apB ls w s t
def Vq(L:List Nat)(a b:Nat):List Nat:=L.map fun c=>if c=a\/c=b then min a b else c
theorem Qgu(L:List Nat)(a:Nat):Vq L a a=L:=by
 unfold Vq;conv=>rhs;rw [<-List.map_id L]
 apply List.map_congr_left;intro c _;by_cases b:c=a
 ·subst b;simp
 ·simp [b]
theorem Q1a(L:List Nat)(a b:Nat):(Vq L a b).length=L.length:=by simp [Vq]
def Hc(ap:Nat->Nat->Bool)(i:Nat)(L:List Nat)(k:Nat):List Nat:=if ap i k=true then L else Vq L (L.getD i 0) (L.getD k 0)
def Vy(ap:Nat->Nat->Bool)(i:Nat)(L:List Nat)(k:Nat):List Nat:=(List.range k).foldl (Hc ap i) (L++[i])
def Vn(ap:Nat->Nat->Bool)(n:Nat):List Nat:=(List.range n).foldl (fun L i=>Vy ap i L i) []
theorem Ni(ap:Nat->Nat->Bool)(i:Nat)(L:List Nat):Vy ap i L 0=L++[i]:=rfl
theorem Ws(a:Nat->Nat->Bool)(i:Nat)(L:List Nat)(k:Nat):Vy a i L (k+1)=Hc a i (Vy a i L k) k:=by
 unfold Vy;rw [List.range_succ,List.foldl_append];rfl
theorem Ds(a:Nat->Nat->Bool)(n:Nat):Vn a (n+1)=Vy a n (Vn a n) n:=by
 unfold Vn;rw [List.range_succ,List.foldl_append];rfl
theorem Qhd(a:Nat->Nat->Bool)(i:Nat)(L:List Nat)(k:Nat):(Hc a i L k).length=L.length:=by
 unfold Hc;split
 ·rfl
 ·exact Q1a _ _ _
theorem Ri(ap:Nat->Nat->Bool)(i:Nat)(L:List Nat):∀ k,(Vy ap i L k).length=L.length+1
 | 0=>by rw [Ni];simp
 | k+1=>by rw [Ws,Qhd,Ri ap i L k]
theorem Kq(ap:Nat->Nat->Bool):∀ n,(Vn ap n).length=n
 | 0=>rfl
 | n+1=>by rw [Ds,Ri,Kq ap n]
theorem Qk0{L:List Nat}{a b m:Nat}(h:∀ x∈L,x<=m)(ha:a<=m):∀ x∈Vq L a b,x<=m:=fun x hx=>by
 unfold Vq at hx;obtain⟨c,hc,rfl⟩:=List.mem_map.1 hx
 split
 ·omega
 ·exact h c hc
theorem Su(ap:Nat->Nat->Bool)(i:Nat){L:List Nat}(h:∀ x∈L,x<=i):∀ k,∀ x∈Vy ap i L k,x<=i
 | 0=>fun x hx=>by
  rw [Ni] at hx;rcases List.mem_append.1 hx with hx | hx
  ·exact h x hx
  ·rw [List.mem_singleton] at hx;omega
 | k+1=>by
  have ih:=Su ap i h k;rw [Ws];unfold Hc
  split
  ·exact ih
  ·refine Qk0 ih ?_;rw [List.getD_eq_getElem?_getD];cases e:(Vy ap i L k)[i]? with
   | none=>simp
   | some x=>exact ih x (List.mem_of_getElem? e)
theorem Q2v(ap:Nat->Nat->Bool):∀ n,∀ x∈Vn ap n,x<=n
 | 0=>fun x hx=>by cases hx
 | n+1=>fun x hx=>by
  rw [Ds] at hx;exact Nat.le_succ_of_le (Su ap n (fun y hy=>Q2v ap n y hy) n x hx)
def Gg(l:List Wd):Int:=Qw (l.map wE)
def Xh(ls:List Qg)(l:List Wd)(ss:Wd):Int:=if Z4 ls=0 then(if 32<l.length then 12 else if Gg l=0 then Yz ss 16 else Gg l) else Z4 ls
def Vw(ls:List Qg)(l:List Wd)(ss:Wd):List Nat:=if Xh ls l ss=0 then Vn (fun i k=>apL ls l (ss.getD i (0,0)) (ss.getD k (0,0))) ss.length else []
def Vu(ls:List Qg)(u:Wd):List UInt8:=match Y2 ls u with
 | some v=>Zn v
 | none=>[45]
theorem Mm{ls:List Qg}{u v:Wd}(h:Y2 ls u=some v):Vu ls u=Zn v:=by unfold Vu;rw [h]
theorem Me{ls:List Qg}{u:Wd}(h:Y2 ls u=none):Vu ls u=[45]:=by unfold Vu;rw [h]
theorem Qiq{ls:List Qg}{u v:Wd}(c:∀ x,Y2 ls u=some x->∀ s∈x,Qm s)(d:∀ x,Y2 ls v=some x->∀ s∈x,Qm s):decide (Vu ls u=Vu ls v)=Hr ls u v:=by
 unfold Hr;cases e1:Y2 ls u with
 | none=>
  cases e2:Y2 ls v with
  | none=>rw [Me e1,Me e2];simp
  | some y=>
   rw [Me e1,Mm e2]
   have:[45]≠Zn y:=fun e=>by
    have:=congrArg List.length e;rw [Fl] at this;simp at this;omega
   simp [this]
 | some x=>
  cases e2:Y2 ls v with
  | none=>
   rw [Mm e1,Me e2]
   have:Zn x≠[45]:=fun e=>by
    have:=congrArg List.length e;rw [Fl] at this;simp at this;omega
   simp [this]
  | some y=>
   rw [Mm e1,Mm e2];by_cases a:x=y
   ·subst a;simp
   ·have b:Zn x≠Zn y:=fun e=>a (Rf (c x e1) (d y e2) e);simp [a,b]
structure JOk (ls:List Qg) (OS:List (List UInt8)) (kf of:List UInt8->Option Int) (z:Nat):Prop where
 len:z=OS.length
 outs:∀ t n,of t=some n↔∃ j:Nat,OS[j]?=some t/\n=(j:Int)
 known:∀ u:Wd,(∀ s∈u,Qm s)->∀ n,kf (Zn u)=some n->∃ j:Nat,OS[j]?=some (Vu ls u)/\n=(j:Int)
theorem JOk.start(ls:List Qg):JOk ls [] (fun _=>none) (fun _=>none) 0:=⟨rfl,fun t n=>⟨fun h=>(by cases h),fun⟨j,h,_⟩=>(by simp at h)⟩,fun u _ n h=>(by cases h)⟩
theorem JOk.known_put{ls:List Qg}{a:List (List UInt8)} {c d:List UInt8->Option Int} {z:Nat} (h:JOk ls a c d z) {u:Wd} (f:∀ s∈u,Qm s) {j:Nat} (e:a[j]?=some (Vu ls u)):JOk ls a (fun y=>if y=Zn u then some (j:Int) else c y) d z:=by
 refine⟨h.len,h.outs,fun v hv n hn=>?_⟩;by_cases b:Zn v=Zn u
 ·rw [if_pos b] at hn;have:=Rf hv f b;subst this;exact⟨j,e,(Option.some.inj hn).symm⟩
 ·rw [if_neg b] at hn;exact h.known v hv n hn
theorem JOk.outs_put{ls:List Qg}{c:List (List UInt8)} {j i:List UInt8->Option Int} {z:Nat} (h:JOk ls c j i z) {t:List UInt8} (k:i t=none):JOk ls (c++[t]) j (fun y=>if y=t then some (c.length:Int) else i y) (z+1):=by
 refine⟨by rw [h.len];simp,fun y n=>?_,fun v hv n g=>?_⟩
 ·by_cases d:y=t
  ·subst d;simp only [if_true];constructor
   ·intro g;exact⟨c.length,by simp,(Option.some.inj g).symm⟩
   ·rintro⟨b,a,rfl⟩;by_cases e:b<c.length
    ·rw [List.getElem?_append_left e] at a;have:=(h.outs y b).2 ⟨b,a,rfl⟩;rw [k] at this;cases this
    ·have f:b<(c++[y]).length:=(List.getElem?_eq_some_iff.1 a).1;rw [List.length_append,List.length_singleton] at f;have:b=c.length:=by omega
     rw [this]
  ·rw [if_neg d,h.outs];constructor
   ·rintro⟨b,a,rfl⟩;exact⟨b,by rw [List.getElem?_append_left (List.getElem?_eq_some_iff.1 a).1];exact a,rfl⟩
   ·rintro⟨b,a,rfl⟩;refine⟨b,?_,rfl⟩;by_cases e:b<c.length
    ·rwa [List.getElem?_append_left e] at a
    ·have f:b<(c++[t]).length:=(List.getElem?_eq_some_iff.1 a).1;rw [List.length_append,List.length_singleton] at f;have:b=c.length:=by omega
     subst this;simp at a;exact absurd a.symm d
 ·obtain⟨b,a,rfl⟩:=h.known v hv n g;exact⟨b,by rw [List.getElem?_append_left (List.getElem?_eq_some_iff.1 a).1];exact a,rfl⟩
theorem JOk.new_at{a:List (List UInt8)} {t:List UInt8}:(a++[t])[a.length]?=some t:=by simp
theorem Qlv{a R:List (List UInt8)} {t:List UInt8} {j:Nat} (h:a[j]?=some t):(a++R)[j]?=some t:=by rw [List.getElem?_append_left (List.getElem?_eq_some_iff.1 h).1];exact h
theorem JOk.same{ls:List Qg}{a:List (List UInt8)} {f g:List UInt8->Option Int} {z:Nat} (h:JOk ls a f g z) {s t:List UInt8} {i j:Nat} (d:a[i]?=some s) (b:a[j]?=some t):(i=j)↔s=t:=by
 constructor
 ·rintro rfl;rw [d] at b;exact Option.some.inj b
 ·rintro rfl;have e:=(h.outs s i).2 ⟨i,d,rfl⟩;have c:=(h.outs s j).2 ⟨j,b,rfl⟩;rw [e] at c;have:=Option.some.inj c;omega
def JAt(P:Program)(k e:TypeId)(ls:List Qg)(w:World)(K O:Nat)(OS:List (List UInt8)) (c:Nat):Prop:=∃ kf of kz,Yl P k e w K c kf kz/\Yl P k e w O c of OS.length/\JOk ls OS kf of OS.length/\OS.length<=c
theorem JAt.mono{P:Program}{k e:TypeId}{ls:List Qg}{w:World}{K O:Nat}{a:List (List UInt8)} {c d:Nat} (h:JAt P k e ls w K O a c) (b:c<=d):JAt P k e ls w K O a d:=by
 obtain⟨j,l,kz,f,g,i,m⟩:=h;exact⟨j,l,kz,f.mono b,g.mono b,i,by omega⟩
theorem JAt.keep{P:Program}{k e:TypeId}{ls:List Qg}{w V:World}{K O:Nat}{a:List (List UInt8)} {c:Nat} {S:Nat->Prop} (h:JAt P k e ls w K O a c) (b:Qa S w V) (j:¬ S K) (l:¬ S O):JAt P k e ls V K O a c:=by
 obtain⟨m,n,kz,d,f,g,i⟩:=h;exact⟨m,n,kz,d.keep b j,f.keep b l,g,i⟩
attribute [local go_sem] Oper.semAt_some Y5 Z9
theorem Q4j{u:Wd}(h:u.length<=1000):(Uy u).size<=maxLen:=by rw [Mv];unfold maxLen;omega
def Qmx(P:Program)(k e:TypeId)(ls:List Qg)(w:World)(K O:Nat)(OS:List (List UInt8)) (c:Nat) (u:Wd) (en:Ending) (w':World):Prop:=∃(R:List (List UInt8)) (j:Nat),en=.returned (.int .i64 (j:Int))/\(OS++R)[j]?=some (Vu ls u)/\JAt P k e ls w' K O (OS++R) (c+1)/\Qa (fun q=>q=K\/q=O) w w'
theorem Q1v{n:Nat}(h:n<=1000000):(Lit.int .i64 (n:Int)).wf=true:=by
 show (decide (IntKind.i64.min<=(n:Int)) && decide ((n:Int)<=IntKind.i64.max))=true;rw [Bool.and_eq_true,decide_eq_true_iff,decide_eq_true_iff];have a:IntKind.i64.min=-9223372036854775808:=rfl;have b:IntKind.i64.max=9223372036854775807:=rfl;rw [a,b];omega
theorem Q1t{P:Program}{k e:TypeId}{w:World}{b n z:Nat}{f g:List UInt8->Option Int}{ops:Array Oper}{rest:List Oper}{o:Oper}{a:Act}{Q:Exit->Act->World->Prop}(hg:o.guard=none)(m x v:Operand)(t:TypeId)(hop:o.op=Op.mapUpdate t m x v)
  (hk:P.underlying k=some .string) (ht:P.underlying t=some (.map k e)) (he:P.underlying e=some (.int .i64)) (hm:a.eval m=.map (some b)) (h:Yl P k e w b n f z) (hn:n<maxLen)
  (s:ByteArray) (hx:a.eval x=.string s) (hs:s.size<=maxLen) (c:Int) (hv:a.eval v=.int .i64 c) (hc:(Lit.int .i64 c).wf=true) (hf:f s.data.toList=none) (hG:∀ y,g y=if y=s.data.toList then some c else f y)
  (hK:∀ V,Yl P k e V b (n+1) g (z+1)->Qa (fun q=>q=b) w V->wpList P ops Q rest (a.put o.dst undef) V):wpList P ops Q (o::rest) a w:=
 Q00 hg m x v t hop hk ht he b n hm h hn s hx hs c hv hc fun V h1 h2=>hK V (by rw [hf] at h1;exact h1.fn hG) h2
theorem Q9j{w0 w:World}{ps:Zl}{lo:Option Addr}{n lc:Nat}(e2:Zk w0 (.slice lo n lc) ps) (f9:ps.length=n) (f6:Tab w0) (d4:Ext w0 w) {K O:Nat} (_:w0.heap.size<=K) (_:w0.heap.size<=O) (f3:K≠O) {a:List (List UInt8)} {c:Nat} (i2:JAt Tryz.prog 9 3 (ps.map (·.1)) w K O a c) (i6:c<=1000000) {u:Wd} {g5:Option Addr} {c5 g4:Nat} (b7:Qd w (.slice g5 c5 g4) u) (b8:u.length=c5) (X:Zw (ps.map (·.1)) u=0) :
  Calls Tryz.prog 127 #[.agg #[.slice lo n lc,.map (some K),.map (some O)],.slice g5 c5 g4] w (Qmx Tryz.prog 9 3 (ps.map (·.1)) w K O a c u):=by
 obtain⟨E,z,kz,e3,R,e0,f5⟩:=i2;have f4:a.length<=1000000:=by omega
 have a1:=Zh f5;clear f5;have g2:wE u=0:=by
  unfold Zw at X
  split at X
  ·exact X
  ·contradiction
 have i7:c5<=32:=by rw [<-b8];exact Vx g2
 have i3:=e3.lt;have i4:=R.lt;have f8:∀ s∈u,Qm s:=b7.2;have d8:=fun(B:World) (D:Ext w B)=>Nb (e2.ext (d4.trans D)) f9 (b7.ext D) b8 (f6.keep (d4.trans D) id);have d9:=Eg (Dz e2) b7.2;have b6:=fun(B:World) (D:Ext w B)=>Tz (b7.ext D) b8 oz;obtain⟨e,d5⟩:=zE (ps.map (·.1));rw [d5] at e0 X d9 ⊢;simp only [d5] at d8;have a6:Ext w (w.alloc (.cells #[.slice lo n lc,.map (some K),.map (some O)] 125)):=(Qa.refl _ w).alloc _;have c4:(w.alloc (.cells #[.slice lo n lc,.map (some K),.map (some O)] 125)).heap[w.heap.size]?=some (.cells #[.slice lo n lc,.map (some K),.map (some O)] 125 (0,0)):=new_at rfl;obtain⟨B,D⟩:=zE (w.alloc (.cells #[.slice lo n lc,.map (some K),.map (some O)] 125));obtain⟨l,d7⟩:=zE w.heap.size;rw [D] at a6 c4;rw [d7] at c4 i3 i4;obtain⟨f1,g7,c6,e6,J,L,G,e7⟩:=Zh8 D d7 a6 c4 (e3.keep a6 id) (R.keep a6 id) e0 d8;obtain⟨f0,c7,e8,a0,g6,U⟩:=Zh6 b6 d9 X f8 b8 f3;clear e2 f9 f6 d4 f3 e3 R e0 g2 d8 d9 b6 d5 a6 c4 D d7 b7 X f8 b8;go_enter Tryz.func127,Tryz.ntmps127;go_upto_region 1 with (fail)
 rw [f1.out,g7.out];clear f1;go_wp2_with fail;refine(f0.out B c6.out).mono ?_;rintro v d2 ⟨rfl,a8⟩;obtain⟨f,b,b9,c1⟩:=Zh4 (J.out.keep a8 id) (L.out.keep a8 id) (a8.keep e6.out) (c6.out.trans a8);clear f0 J L e6 c6 a8;have a4:d2.cell? ⟨l,1,none⟩=some (.map (some K)):=by rw [cell_of_row _ _ _ _ _ _ b9.out];rfl
 have p:=Fj u;obtain⟨H,W⟩:=zE (Uy u);rw [W] at p ⊢;have g1:H.size<=maxLen:=by rw [<-W];exact Q4j (by rw [g6.out];omega)
 have V:=Zh g1;have a2:=Zh p;clear g1 p W;obtain⟨q,I⟩:=zE (E H.data.toList);have d0:=Zh I;clear I;cases q;case some m=>
  have b3:=G.out.known u a0.out m (by rw [<-a2.out];exact d0.out);obtain⟨j,i,rfl⟩:=b3;have Z:=Zh i;clear i
  go_wp2_with (at_lookup;refine Jj rfl (.tmp 15) (.tmp 16) 100 rfl Tryz.underlying9 Tryz.underlying100 Tryz.underlying3 (Tryz.zeroValue3 _) K c rfl f.out H rfl V.out (some (j:Int)) d0.out ?_)
  go_ret;exact⟨[],j,rfl,by rw [List.append_nil];exact Z.out,⟨E,z,kz,f.out.mono (Nat.le_succ c),by rw [List.append_nil];exact b.out.mono (Nat.le_succ c),by rw [List.append_nil];exact G.out,by rw [List.append_nil];have:=a1.out;omega⟩,c1.out.mono fun _ _ h=>h.elim⟩
 case none=>
  have i0:d2.cell? ⟨l,0,none⟩=some (.slice lo n lc):=by rw [cell_of_row _ _ _ _ _ _ b9.out];rfl
  go_wp2_with (at_lookup;refine Jj rfl (.tmp 15) (.tmp 16) 100 rfl Tryz.underlying9 Tryz.underlying100 Tryz.underlying3 (Tryz.zeroValue3 _) K c rfl f.out H rfl V.out none d0.out ?_)
  refine(e7.out d2 c1.out).mono ?_;rintro v g8 ⟨i8,rfl,g0,a9⟩;obtain⟨j0,i9,rfl,g3⟩:=Kh g0;obtain⟨J,L,c0,c2,f2⟩:=Zh5 (f.out.keep a9 id) (b.out.keep a9 id) (a9.keep b9.out) (c1.out.trans a9) g3;clear e7 f b b9 c1 a9 g0 g3 i0 a4;have i5:∀(r:World) (Q:ByteArray),Ext w r->Yl Tryz.prog 9 3 r K c E kz->Yl Tryz.prog 9 3 r O c z a.length->r.heap[l]?=some (.cells #[.slice lo n lc,.map (some K),.map (some O)] 125 (0,0))->Q.size<=maxLen->Q.data.toList=Vu e u->True:=fun _ _ _ _ _ _ _ _=>trivial;clear i5;cases hdr:Y2 e u with
  | some x=>
   obtain⟨a5,c3⟩:=Jy e8.out hdr;have b4:=Mm hdr;rw [a5];rw [c3] at f2 c7 ⊢;have b6:=Tz f2.out rfl (by have:=c7.out.1;omega);have e9:=Zh b6;clear b6 a5 c3 hdr;go_wp2_with fail;refine e9.out.mono ?_;rintro v r ⟨rfl,b0⟩;obtain⟨f,b,F,S⟩:=Zh4 (J.out.keep b0 id) (L.out.keep b0 id) (b0.keep c0.out) (c2.out.trans b0);have p:=Fj x;rw [<-b4] at p;have Y:=Q4j (u:=x) (by have:=c7.out.1;omega);obtain⟨Q,W⟩:=zE (Uy x);rw [W] at p Y ⊢;have N:=Zh p;have P:=Zh Y;clear e9 J L c0 c2 b0 p Y W b4;have a4:r.cell? ⟨l,1,none⟩=some (.map (some K)):=by rw [cell_of_row _ _ _ _ _ _ F.out];rfl
   have d3:r.cell? ⟨l,2,none⟩=some (.map (some O)):=by rw [cell_of_row _ _ _ _ _ _ F.out];rfl
   obtain⟨q,I⟩:=zE (z Q.data.toList);have k:=Zh I;clear I;cases q;case some m=>
    have b3:=(G.out.outs (Vu e u) m).1 (by rw [<-N.out];exact k.out);obtain⟨j,i,rfl⟩:=b3;have o:=G.out.known_put a0.out i;have e1:j<a.length:=(List.getElem?_eq_some_iff.1 i).1;obtain⟨Z,M,A⟩:=Zh3 i o (Q1v (n:=j) oz);clear i o e1
    go_wp2_with (first
     | (at_lookup;refine Jj rfl (.tmp 35) (.tmp 36) 100 rfl Tryz.underlying9 Tryz.underlying100 Tryz.underlying3 (Tryz.zeroValue3 _) O c rfl b.out Q rfl P.out (some (j:Int)) k.out ?_)
     | (at_mapUpdate;refine Gp rfl (.tmp 50) (.tmp 51) (.tmp 52) 100 rfl Tryz.underlying9 Tryz.underlying100 Tryz.underlying3 rfl f.out (by unfold maxLen;omega) H rfl V.out (j:Int) rfl A.out (g:=fun y=>if y=Zn u then some (j:Int) else E y) (fun y=>by rw [a2.out]) ?_))
    intro a3 e4 C d;go_wp2;go_ret;exact⟨[],j,rfl,by rw [List.append_nil];exact Z.out,⟨_,z,e4,C,by rw [List.append_nil];exact(b.out.keep d (fun v=>U.out v.symm)).mono (Nat.le_succ c),by rw [List.append_nil];exact M.out,by rw [List.append_nil];have:=a1.out;omega⟩,(S.out.mono fun _ _ h=>h.elim).trans (d.mono fun _ _ h=>.inl h)⟩
   case none=>
    have b5:=G.out.outs_put (t:=Vu e u) (by rw [<-N.out];exact k.out);have o:=b5.known_put a0.out (j:=a.length) JOk.new_at;have M:=Zh o;have A:=Zh (Q1v (n:=a.length) f4);clear b5 o
    go_wp2_with (first
     | (at_lookup;refine Jj rfl (.tmp 35) (.tmp 36) 100 rfl Tryz.underlying9 Tryz.underlying100 Tryz.underlying3 (Tryz.zeroValue3 _) O c rfl b.out Q rfl P.out none k.out ?_)
     | (refine Q7a rfl (.tmp 43) 100 rfl Tryz.underlying100 O c rfl b.out ?_)
     | (at_mapUpdate;refine Q1t rfl (.tmp 46) (.tmp 47) (.tmp 48) 100 rfl Tryz.underlying9 Tryz.underlying100 Tryz.underlying3 rfl b.out (by unfold maxLen;omega) Q rfl P.out (a.length:Int) rfl A.out k.out (g:=fun y=>if y=Vu e u then some (a.length:Int) else z y) (fun y=>by rw [N.out]) ?_))
    intro a3 C d;have b1:=f.out.keep d U.out;have a7:=d.heap F.out oz;obtain⟨c9,c8,d1⟩:=Zh3 C b1 d;have i1:a3.cell? ⟨l,1,none⟩=some (.map (some K)):=by rw [cell_of_row _ _ _ _ _ _ a7];rfl
    clear C b1 d a7 a4 d3
    go_wp2_with (at_mapUpdate;refine Gp rfl (.tmp 50) (.tmp 51) (.tmp 52) 100 rfl Tryz.underlying9 Tryz.underlying100 Tryz.underlying3 rfl c8.out (by unfold maxLen;omega) H rfl V.out (a.length:Int) rfl A.out (g:=fun y=>if y=Zn u then some (a.length:Int) else E y) (fun y=>by rw [a2.out]) ?_)
    intro g9 e5 d6 b2;go_wp2;go_ret;have R:=c9.out.keep b2 (fun v=>U.out v.symm);refine⟨[Vu e u],a.length,rfl,JOk.new_at,⟨(fun y=>if y=Zn u then some (a.length:Int) else E y),(fun y=>if y=Vu e u then some (a.length:Int) else z y),e5,d6,?_,?_,by rw [List.length_append,List.length_singleton];have:=a1.out;omega⟩,(S.out.mono fun _ _ h=>h.elim).trans ((d1.out.mono fun _ _ h=>.inr h).trans (b2.mono fun _ _ h=>.inl h))⟩
    ·rw [List.length_append,List.length_singleton];exact R
    ·rw [List.length_append,List.length_singleton];exact M.out
  | none=>
   obtain⟨a5,c3⟩:=Uq e8.out hdr;have b4:=Me hdr;rw [a5];have p:(ByteArray.mk #[45]).data.toList=Vu e u:=by rw [b4]
   have Y:(ByteArray.mk #[45]).size<=maxLen:=by decide
   have N:=Zh p;have P:=Zh Y;have f:=J;have b:=L;have F:=c0;have S:=c2;clear J L c0 c2 p Y b4 a5 c3 hdr;obtain⟨r,f7⟩:=zE g8;rw [f7] at f b F S ⊢;clear f7;have a4:r.cell? ⟨l,1,none⟩=some (.map (some K)):=by rw [cell_of_row _ _ _ _ _ _ F.out];rfl
   have d3:r.cell? ⟨l,2,none⟩=some (.map (some O)):=by rw [cell_of_row _ _ _ _ _ _ F.out];rfl
   obtain⟨q,I⟩:=zE (z (ByteArray.mk #[45]).data.toList);have k:=Zh I;clear I;cases q;case some m=>
    have b3:=(G.out.outs (Vu e u) m).1 (by rw [<-N.out];exact k.out);obtain⟨j,i,rfl⟩:=b3;have o:=G.out.known_put a0.out i;have e1:j<a.length:=(List.getElem?_eq_some_iff.1 i).1;obtain⟨Z,M,A⟩:=Zh3 i o (Q1v (n:=j) oz);clear i o e1
    go_wp2_with (first
     | (at_lookup;refine Jj rfl (.tmp 35) (.tmp 36) 100 rfl Tryz.underlying9 Tryz.underlying100 Tryz.underlying3 (Tryz.zeroValue3 _) O c rfl b.out (ByteArray.mk #[45]) rfl P.out (some (j:Int)) k.out ?_)
     | (at_mapUpdate;refine Gp rfl (.tmp 50) (.tmp 51) (.tmp 52) 100 rfl Tryz.underlying9 Tryz.underlying100 Tryz.underlying3 rfl f.out (by unfold maxLen;omega) H rfl V.out (j:Int) rfl A.out (g:=fun y=>if y=Zn u then some (j:Int) else E y) (fun y=>by rw [a2.out]) ?_))
    intro a3 e4 C d;go_wp2;go_ret;exact⟨[],j,rfl,by rw [List.append_nil];exact Z.out,⟨_,z,e4,C,by rw [List.append_nil];exact(b.out.keep d (fun v=>U.out v.symm)).mono (Nat.le_succ c),by rw [List.append_nil];exact M.out,by rw [List.append_nil];have:=a1.out;omega⟩,(S.out.mono fun _ _ h=>h.elim).trans (d.mono fun _ _ h=>.inl h)⟩
   case none=>
    have b5:=G.out.outs_put (t:=Vu e u) (by rw [<-N.out];exact k.out);have o:=b5.known_put a0.out (j:=a.length) JOk.new_at;have M:=Zh o;have A:=Zh (Q1v (n:=a.length) f4);clear b5 o
    go_wp2_with (first
     | (at_lookup;refine Jj rfl (.tmp 35) (.tmp 36) 100 rfl Tryz.underlying9 Tryz.underlying100 Tryz.underlying3 (Tryz.zeroValue3 _) O c rfl b.out (ByteArray.mk #[45]) rfl P.out none k.out ?_)
     | (refine Q7a rfl (.tmp 43) 100 rfl Tryz.underlying100 O c rfl b.out ?_)
     | (at_mapUpdate;refine Q1t rfl (.tmp 46) (.tmp 47) (.tmp 48) 100 rfl Tryz.underlying9 Tryz.underlying100 Tryz.underlying3 rfl b.out (by unfold maxLen;omega) (ByteArray.mk #[45]) rfl P.out (a.length:Int) rfl A.out k.out (g:=fun y=>if y=Vu e u then some (a.length:Int) else z y) (fun y=>by rw [N.out]) ?_))
    intro a3 C d;have b1:=f.out.keep d U.out;have a7:=d.heap F.out oz;obtain⟨c9,c8,d1⟩:=Zh3 C b1 d;have i1:a3.cell? ⟨l,1,none⟩=some (.map (some K)):=by rw [cell_of_row _ _ _ _ _ _ a7];rfl
    clear C b1 d a7 a4 d3
    go_wp2_with (at_mapUpdate;refine Gp rfl (.tmp 50) (.tmp 51) (.tmp 52) 100 rfl Tryz.underlying9 Tryz.underlying100 Tryz.underlying3 rfl c8.out (by unfold maxLen;omega) H rfl V.out (a.length:Int) rfl A.out (g:=fun y=>if y=Zn u then some (a.length:Int) else E y) (fun y=>by rw [a2.out]) ?_)
    intro g9 e5 d6 b2;go_wp2;go_ret;have R:=c9.out.keep b2 (fun v=>U.out v.symm);refine⟨[Vu e u],a.length,rfl,JOk.new_at,⟨(fun y=>if y=Zn u then some (a.length:Int) else E y),(fun y=>if y=Vu e u then some (a.length:Int) else z y),e5,d6,?_,?_,by rw [List.length_append,List.length_singleton];have:=a1.out;omega⟩,(S.out.mono fun _ _ h=>h.elim).trans ((d1.out.mono fun _ _ h=>.inr h).trans (b2.mono fun _ _ h=>.inl h))⟩
    ·rw [List.length_append,List.length_singleton];exact R
    ·rw [List.length_append,List.length_singleton];exact M.out
theorem Tt{w:World}{base:Nat}{e:TypeId}{sz g n cap j:Nat}{xs cs:List Value}(h:w.ownsRow base e sz (.slice (some ⟨g,0,none⟩) n cap) n xs) (s:j<n) (r:cs.length=sz) :
  (w.setCells g (j*sz) cs).ownsRow base e sz (.slice (some ⟨g,0,none⟩) n cap) n (Vk xs (j*sz) cs):=by
 have k:=h.1;rcases h.2 with ⟨a,_⟩ | ⟨q,p,b,a,c,i,m,d,f,o⟩
 ·cases a
 ·simp only [zV,Option.some.injEq,Addr.mk.injEq] at a;obtain⟨⟨rfl,_,_⟩,_,rfl⟩:=a;have l:j*sz+cs.length<=n*sz:=by
   have:=Nat.mul_le_mul_right sz (show j+1<=n by omega);rw [Nat.add_mul,Nat.one_mul] at this;omega
  refine⟨by rw [La];exact k,.inr ⟨g,cap,_,rfl,c,Mp cs _ w b i,m,d,by simp [La,f],?_⟩⟩;rw [show ((Vk b.toList (j*sz) cs).toArray.toList)=Vk b.toList (j*sz) cs from rfl,Sr _ _ _ _ l,o]
theorem Mb{α:Type}{sz:Nat}{os:List (α × List Value)} (h:∀ p∈os,p.2.length=sz):(os.flatMap (·.2)).length=os.length*sz:=by
 induction os with
 | nil=>simp
 | cons p ps ih=>
  rw [List.flatMap_cons,List.length_append,h p zy,ih (fun p hp=>h p (by simp [hp])),List.length_cons,Nat.add_mul,Nat.one_mul,Nat.add_comm]
theorem Qiv{α:Type}{sz j:Nat}{os:List (α × List Value)} {x:α} {cs:List Value} (a:0<sz) (h:∀ p∈os,p.2.length=sz) (w:j<os.length) (f:cs.length=sz):Vk (os.flatMap (·.2)) (j*sz) cs=(os.set j (x,cs)).flatMap (·.2):=by
 have d:∀ p∈os.set j (x,cs),p.2.length=sz:=fun p c=>by
  rcases List.mem_or_eq_of_mem_set c with c | rfl
  ·exact h p c
  ·exact f
 have g:j*sz+cs.length<=(os.flatMap (·.2)).length:=by
  rw [Mb h];have:=Nat.mul_le_mul_right sz (show j+1<=os.length by omega);rw [Nat.add_mul,Nat.one_mul] at this;omega
 apply List.ext_getElem?;intro i;rw [Q52 _ _ _ _ g];by_cases t:i<os.length*sz
 ·have l:i % sz<sz:=Nat.mod_lt _ a;have k:i / sz<os.length:=(Nat.div_lt_iff_lt_mul a).2 t;have s:i / sz*sz+i % sz=i:=by rw [Nat.mul_comm];exact Nat.div_add_mod i sz
  have o:=Bq d (i:=i / sz) (j:=i % sz) (by rw [List.length_set];exact k) l;have q:=Bq h (i:=i / sz) (j:=i % sz) k l;rw [s] at o q;rw [o,q];by_cases b:i / sz=j
  ·subst b;rw [if_pos ⟨by omega,by omega⟩];simp only [List.getElem_set_self]
   congr 1;omega
  ·rw [if_neg,List.getElem_set_ne (fun e=>b e.symm)];rintro⟨m,n⟩;apply b;rw [f] at n;have u:j<=i / sz:=(Nat.le_div_iff_mul_le a).2 m;have v:i / sz<j+1:=(Nat.div_lt_iff_lt_mul a).2 (by rw [Nat.add_mul,Nat.one_mul];omega);omega
 ·have r:((os.set j (x,cs)).flatMap (·.2))[i]?=none:=List.getElem?_eq_none (by rw [Mb d,List.length_set];omega);rw [r,if_neg,List.getElem?_eq_none (by rw [Mb h];omega)];rintro⟨m,n⟩;rw [Mb h] at g;omega
def Q37(s:Nat × Nat):List Value:=[.int .u32 (s.1:Int),.int .u32 (s.2:Int)]
theorem Q7w(u:Wd):Z3 u=(u.map fun s=>(s,Q37 s)).flatMap (·.2):=by unfold Z3;rw [List.flatMap_map];rfl
theorem Sy{u:Wd}{j:Nat}(a:j<u.length)(x:Nat × Nat):Vk (Z3 u) (j*2) (Q37 x)=Z3 (u.set j x):=by
 rw [Q7w,Qiv (sz:=2) (x:=x) zd (fun p hp=>by obtain⟨b,_,rfl⟩:=List.mem_map.1 hp;rfl) (by simpa using a) rfl,Q7w,List.map_set]
theorem Ep{ls:List Qg}{u:Wd}(h:Zw ls u=0){x:Nat × Nat}(e:okS x=true)(j:Nat):Zw ls (u.set j x)=0:=by
 have d:Z4 ls=0:=Classical.byContradiction fun h0=>by
  unfold Zw at h;rw [if_neg h0] at h;exact h0 h
 unfold Zw at h ⊢;rw [if_pos d] at h ⊢;obtain⟨b,c⟩:=Ra.1 h;refine Ra.2 ⟨by rw [List.length_set];exact b,fun s a=>?_⟩;rcases List.mem_or_eq_of_mem_set a with a | rfl
 ·exact c s a
 ·exact e
theorem Ed{u:Wd}(h:Zs u){x:Nat × Nat}(hx:Qm x)(j:Nat):Zs (u.set j x):=fun s hs=>by
 rcases List.mem_or_eq_of_mem_set hs with hs | rfl
 ·exact h s hs
 ·exact hx
theorem Ts{f:Nat->Bool}{k:Nat}:(List.range (k+1)).any f=((List.range k).any f || f k):=by rw [List.range_succ,List.any_append];simp
theorem Q1q{f:Nat->Bool}{k n:Nat}(hk:k<n)(h:f k=true):(List.range n).any f=true:=List.any_eq_true.2 ⟨k,List.mem_range.2 hk,h⟩
theorem Ha{a b c d:Nat}(h:¬ (a,b)=(c,d)):(((a:Int) ==(c:Int))=false)\/(((a:Int) ==(c:Int))=true/\((b:Int) ==(d:Int))=false):=by
 by_cases f:a=c
 ·have e:¬ b=d:=fun e=>h (by rw [f,e]);exact .inr ⟨by simp;omega,by simp;omega⟩
 ·exact .inl (by simp;omega)
def ApR(P:Program)(k e:TypeId)(ls:List Qg)(w:World)(K O:Nat)(OS:List (List UInt8)) (c:Nat) (b:Bool) (en:Ending) (w':World):Prop:=∃ R:List (List UInt8),en=.returned (.bool b)/\JAt P k e ls w' K O (OS++R) c/\Qa (fun q=>q=K\/q=O) w w'
theorem Qjr{P:Program}{k e:TypeId}{ls:List Qg}{w:World}{K O c i j:Nat}{a R:List (List UInt8)} {s t:List UInt8} (b:JAt P k e ls w K O (a++R) c) (f:a[i]?=some s) (g:(a++R)[j]?=some t):(((i:Int) !=(j:Int))=!decide (s=t)):=by
 obtain⟨l,m,kz,_,_,b,_⟩:=b;have d:=b.same (Qlv (R:=R) f) g;by_cases e:i=j
 ·rw [decide_eq_true (d.1 e),e];simp
 ·rw [decide_eq_false (fun e2=>e (d.2 e2))];simp;omega
theorem Qbv{w0 w:World}{ps:Zl}{lo:Option Addr}{n lc:Nat}(k2:Zk w0 (.slice lo n lc) ps) (q7:ps.length=n) (q4:Tab w0) (q2:Ext w0 w) {K O:Nat} (E:w0.heap.size<=K) (m4:w0.heap.size<=O) (q3:K≠O) {g1:List (List UInt8)} {c:Nat} (R:JAt Tryz.prog 9 3 (ps.map (·.1)) w K O g1 c) (q6:c<=900000) {f:Wd} {k5:Option Addr} {r k4:Nat} (n9:Qd w0 (.slice k5 r k4) f) (o0:f.length=r) (d4:Zw (ps.map (·.1)) f=0) {k l g j:Nat} (q8:Qm (k,l)) (r2:Qm (g,j)) (r0:okS (k,l)=true) (r3:okS (g,j)=true) (q9:(k,l)≠(g,j)) :
  Calls Tryz.prog 95 #[.agg #[.slice lo n lc,.map (some K),.map (some O)],.slice k5 r k4,.agg #[.int .u32 (k:Int),.int .u32 (l:Int)],.agg #[.int .u32 (g:Int),.int .u32 (j:Int)]] w (ApR Tryz.prog 9 3 (ps.map (·.1)) w K O g1 (c+64) (apB (ps.map (·.1)) f (k,l) (g,j))):=by
 have o2:wE f=0:=by
  unfold Zw at d4
  split at d4
  ·exact d4
  ·contradiction
 have u0:r<=32:=by rw [<-o0];exact Vx o2
 have m9:=fun(B:World) (a0:Ext w0 B) (g1:List (List UInt8)) (c:Nat) (R:JAt Tryz.prog 9 3 (ps.map (·.1)) B K O g1 c) (q6:c<=1000000) {v:Wd} {vo:Option Addr} {vc:Nat} (hv:Qd B (.slice vo r vc) v) (hvn:v.length=r) (c1:Zw (ps.map (·.1)) v=0)=>Q9j k2 q7 q4 a0 E m4 q3 R q6 hv hvn c1
 have n5:∀ v,Zw (ps.map (·.1)) v=0->Zs v->decide (Vu (ps.map (·.1)) f=Vu (ps.map (·.1)) v)=Hr (ps.map (·.1)) f v:=fun v hv hok=>Qiq (fun x d5=>(Se (Dz k2) n9.2 o2 d5).2) (fun x d5=>by
  have t0:wE v=0:=by
   unfold Zw at hv
   split at hv
   ·exact hv
   ·contradiction
  exact(Se (Dz k2) hok t0 d5).2)
 have s4:=(show K<w.heap.size by obtain⟨_,_,_,t,_⟩:=R;exact t.lt);have s5:=(show O<w.heap.size by obtain⟨_,_,_,_,t,_⟩:=R;exact t.lt);obtain⟨U,m3⟩:=zE (ps.map (·.1));rw [m3] at R d4 ⊢;simp only [m3] at m9 n5;obtain⟨B,a0⟩:=zE (((w.alloc (.cells #[.slice lo n lc,.map (some K),.map (some O)] 125)).alloc (.cells #[.int .u32 (k:Int),.int .u32 (l:Int)] 26)).alloc (.cells #[.int .u32 (g:Int),.int .u32 (j:Int)] 26));have m2:Ext w B:=by rw [<-a0];exact(((Qa.refl _ w).alloc _).alloc _).alloc _
 obtain⟨p,d3⟩:=zE w.heap.size;have p7:B.heap[p]?=some (.cells #[.slice lo n lc,.map (some K),.map (some O)] 125 (0,0)):=by rw [<-a0,<-d3];exact Qi (Qi (new_at rfl))
 have p8:B.heap[p+1]?=some (.cells #[.int .u32 (k:Int),.int .u32 (l:Int)] 26 (0,0)):=by rw [<-a0,<-d3];exact Qi (new_at zy)
 have p9:B.heap[p+2]?=some (.cells #[.int .u32 (g:Int),.int .u32 (j:Int)] 26 (0,0)):=by rw [<-a0,<-d3];exact new_at zy
 rw [d3] at s4 s5;obtain⟨p1,s1,d7,r5,r6,o8,c7,j8⟩:=Zh8 a0 d3 m2 p7 p8 p9 (R.keep m2 id id) m9;obtain⟨p0,a4,H,j9,o9,r7,r9,r8⟩:=Zh8 n5 n9 o0 d4 q2 q8 r2 r0;obtain⟨s0,t5,f0,l1⟩:=Zh4 r3 q9 E m4;clear k2 q7 q4 q2 E m4 q3 R n9 o0 d4 q8 r2 r0 r3 q9 o2 m9 n5 m3 a0 d3 m2 p7 p8 p9;go_enter Tryz.func95,Tryz.ntmps95;go_upto_region 1 with (fail)
 try rw [s1.out]
 try rw [p1.out]
 clear p1;go_wp2
 refine wp_loop (fun a Z=>∃(i:Nat) (Y:List (List UInt8)),i<=r/\a.defers=[]/\gS a [1,4,6,7,13,14,15]=(43,[.slice k5 r k4,.pointer (some ⟨p,0,none⟩),.pointer (some ⟨p+1,0,none⟩),.pointer (some ⟨p+2,0,none⟩),.slice k5 r k4,.int .i64 r,.int .i64 i])/\JAt Tryz.prog 9 3 U Z K O (g1++Y) (c+2*i)/\(List.range i).any (Lp U f (k,l) (g,j))=false/\Qa (fun q=>q=K\/q=O) B Z)
  (fun a _=>r - (intOf (a.tmps.getD 15 undef)).toNat) ?_ ?_
 ·exact⟨0,[],by omega,rfl,rfl,by rw [List.append_nil];exact c7.out,rfl,Qa.refl _ _⟩
 clear c7;rintro⟨u2,_⟩ Z ⟨i,Y,t9,s8,r1,R,q5,d1⟩;subst s8;obtain⟨u3,rfl⟩:=Qo r1;clear r1;obtain⟨c7,j7,k0⟩:=Zh3 R q5 d1;have k9:Hid (Ext w0 Z):=Zh ((o9.out.trans d7.out).after d1 (fun b hb e=>by have:=f0.out;have:=l1.out;rcases e with e | e <;> omega));have g6:=d1.heap r5.out oz;have a8:=d1.heap r6.out oz;have c9:=d1.heap o8.out oz;clear R q5 d1;by_cases i4:i<r;case neg=>
  obtain rfl:i=r:=by omega
  have s3:¬ (i:Int)<(i:Int):=by omega
  clear g6 a8 c9;go_wp2;go_ret;have a1:=j7.out;rw [<-H.out] at a1;exact⟨Y,by unfold apB;rw [a1];rfl,c7.out.mono oz,(d7.out.mono fun _ _ t=>t.elim).trans k0.out⟩
 have s3:(i:Int)<(r:Int):=by omega
 have t8:(0:Int)<=(i:Int):=by omega
 have n6:i<f.length:=by rw [H.out];exact i4
 obtain⟨t7,u1,t6,C,s9,l8,l9⟩:=(a4.out.ext k9.out).at n6;simp only [zV] at C;obtain⟨rfl,t1,rfl⟩:=C;clear t1;have m8:Lp U f (k,l) (g,j) i=if f.getD i (0,0)=(k,l) then !Hr U f (f.set i (g,j)) else if f.getD i (0,0)=(g,j) then !Hr U f (f.set i (k,l)) else false:=rfl
 obtain⟨⟨j3,j4⟩,d5⟩:=zE (f.getD i (0,0));rw [d5] at l8 l9 m8;dsimp only at l8 l9;have k8:=Zh m8;clear m8 d5 s9;obtain⟨a6,g9⟩:=zE (Z.alloc (.cells #[.int .u32 (j3:Int),.int .u32 (j4:Int)] 26));obtain⟨y,k1⟩:=zE Z.heap.size;have m0:Ext Z a6:=by rw [<-g9];exact(Qa.refl _ _).alloc _
 have q1:a6.heap[y]?=some (.cells #[.int .u32 (j3:Int),.int .u32 (j4:Int)] 26 (0,0)):=by rw [<-g9];exact new_at k1.symm
 have m6:a6.heap.size=y+1:=by rw [<-g9];simp [k1]
 obtain⟨I,i0⟩:=zE (a6.alloc (.cells #[.int .u32 (k:Int),.int .u32 (l:Int)] 26));have m1:Ext a6 I:=by rw [<-i0];exact(Qa.refl _ _).alloc _
 have q0:I.heap[y+1]?=some (.cells #[.int .u32 (k:Int),.int .u32 (l:Int)] 26 (0,0)):=by rw [<-i0];exact new_at m6.symm
 obtain⟨p2,p5,p6,p3,s6⟩:=Zh5 g9 k1 m6 i0 i0;go_upto_region 4 with (fail)
 try rw [p5.out]
 try rw [p2.out]
 clear g9 k1 i0 p2;have l7:=m0.keep a8;have j5:a6.cell? ⟨p+1,0,none⟩=some (.int .u32 (k:Int)):=by rw [cell_of_row _ _ _ _ _ _ l7];rfl
 have j6:a6.cell? ⟨p+1,1,none⟩=some (.int .u32 (l:Int)):=by rw [cell_of_row _ _ _ _ _ _ l7];rfl
 clear l8 l9 l7;go_upto_region 5 with (fail)
 try rw [p6.out]
 try rw [p3.out]
 clear j5 j6 p3 m6;have a9:Ext Z I:=m0.trans m1;have l6:=m1.keep q1;have g6:=a9.keep g6;have a8:=a9.keep a8;have c9:=a9.keep c9;have o6:I.cell? ⟨y,0,none⟩=some (.int .u32 (j3:Int)):=by rw [cell_of_row _ _ _ _ _ _ l6];rfl
 have o7:I.cell? ⟨y,1,none⟩=some (.int .u32 (j4:Int)):=by rw [cell_of_row _ _ _ _ _ _ l6];rfl
 have j5:I.cell? ⟨p+1,0,none⟩=some (.int .u32 (k:Int)):=by rw [cell_of_row _ _ _ _ _ _ a8];rfl
 have j6:I.cell? ⟨p+1,1,none⟩=some (.int .u32 (l:Int)):=by rw [cell_of_row _ _ _ _ _ _ a8];rfl
 have c4:I.cell? ⟨p+2,0,none⟩=some (.int .u32 (g:Int)):=by rw [cell_of_row _ _ _ _ _ _ c9];rfl
 have c5:I.cell? ⟨p+2,1,none⟩=some (.int .u32 (j:Int)):=by rw [cell_of_row _ _ _ _ _ _ c9];rfl
 obtain⟨L,c8,e6,c6,e2⟩:=Zh5 (c7.out.keep a9 id id) (k0.out.trans a9.of) (k9.out.trans a9) q0 g6;have i1:B.heap.size<=y:=by have:=k0.out.size;have:=p5.out;omega
 have m5:p+2<B.heap.size:=(Array.getElem?_eq_some_iff.1 o8.out).1;have k3:I.heap.size=y+2:=by have t:=p6.out;rw [<-s6.out];simp [t]
 have o1:w0.heap.size<=B.heap.size:=(o9.out.trans d7.out).size;clear q1 l6 g6 a8 c9 m0 m1 a9 q0 c7 k0 k9;by_cases a2:(j3,j4)=(k,l)
 ·have C:=a2;simp only [Prod.mk.injEq] at C;have o3:=C.1.symm;have o4:=C.2.symm;subst o3 o4;clear C;have P:=k8.out;rw [if_pos rfl] at P;have d9:=Zh P;have d0:=Qa.setRow I (y+1) #[.int .u32 (g:Int),.int .u32 (j:Int)];have n0:=setRow_heap _ _ _ #[.int .u32 (g:Int),.int .u32 (j:Int)] _ _ c6.out;have m7:=L.out.keep d0 oz oz;have n1:=d0.heap e2.out oz;have n8:=c8.out.after d0 (fun b hb e=>by omega);have n3:Ext w0 _:=e6.out.after d0 (fun b hb e=>by omega);have r4:=d0.size;obtain⟨g5,d2⟩:=zE (I.setRow (y+1) #[.int .u32 (g:Int),.int .u32 (j:Int)]);rw [d2] at n0 m7 n1 n8 n3 r4;obtain⟨p4,k6,l2,k7,l4,a3⟩:=Zh6 d2 n0 m7 n1 n8 n3;have a5:Hid (y+2<=g5.heap.size/\p+2<y):=Zh oz;have l3:Hid (B.heap.size<=y):=Zh i1;clear P d0 n0 m7 n1 n8 n3 r4 d2 L c8 e6 e2 k3 i1 m5 o1 a2;go_upto_region 9 with (refine wpList_store_row rfl 26 (.tmp 11) (.tmp 25) rfl (y+1) #[.int .u32 (g:Int),.int .u32 (j:Int)] (by first | rfl | (simp;done)) rfl _ _ c6.out kz kz kz ?_;rw [p4.out])
  clear o6 o7 j5 j6 c4 c5 p4 c6;have b8:=Py (a4.out.ext a3.out) (by rw [H.out];omega);rw [H.out] at b8;have e4:=Zh b8;clear b8;go_wp2_with fail;refine e4.out.mono ?_;rintro e V ⟨t4,o5,rfl,Q,D⟩;obtain⟨u,n4⟩:=Dh (n:=r - 1) (by rw [show r - 1+1=r by omega];exact Q);subst n4;have i7:=Q.lt u rfl;have n7:=D.size;have a7:=D.keep k6.out;have c4:V.cell? ⟨y+1,0,none⟩=some (.int .u32 (g:Int)):=by rw [cell_of_row _ _ _ _ _ _ a7];rfl
  have c5:V.cell? ⟨y+1,1,none⟩=some (.int .u32 (j:Int)):=by rw [cell_of_row _ _ _ _ _ _ a7];rfl
  have j0:=Gr Q (o:=i*2) (m:=2) oz;have c2:=Tt (cs:=Q37 (g,j)) Q i4 rfl;rw [Sy n6] at c2;have N:=Qa.setCells V u (#[.int .u32 (g:Int),.int .u32 (j:Int)]:Array Value).toList (i*2);have F:u≠K/\u≠O/\u≠p:=by have:=a5.out;omega
  have c0:=(l2.out.keep D id id).keep N (fun e=>F.1 e.symm) (fun e=>F.2.1 e.symm);have b7:=N.heap (D.keep k7.out) (fun e=>F.2.2 e.symm);have c3:=(l4.out.trans D.of).after N (fun b hb e=>by have:=a5.out;have:=l3.out;omega);have b9:Ext w0 _:=(a3.out.trans D).after N (fun b hb e=>by have:=a5.out;have:=F;have:=a3.out.size;have:=i7;have:=f0.out;omega);obtain⟨J,W⟩:=zE (V.setCells u (i*2) (#[.int .u32 (g:Int),.int .u32 (j:Int)]:Array Value).toList);have i9:J.ownsRow g5.heap.size 26 2 (.slice (some ⟨u,0,none⟩) r o5) r (Z3 (f.set i (g,j))):=by rw [<-W];exact c2
  rw [W] at c0 b7 c3 b9;obtain⟨f5,g0,f2,e8,e3,f4,T⟩:=Zh7 j0 W i9 c0 b7 c3 b9;have l0:Hid (u≠K/\u≠O):=Zh ⟨F.1,F.2.1⟩;clear i7 n7 a7 j0 c2 N F c0 b7 c3 b9 W i9 Q D e4;go_upto_region 11 with (refine wpList_store_mid rfl 26 (.tmp 34) (.tmp 33) rfl u (i*2) #[.int .u32 (g:Int),.int .u32 (j:Int)] (by first | rfl | (simp;done)) rfl f5.out kz kz ?_;rw [g0.out])
  clear c4 c5 f5 g0;have z:J.drew.heap[p]?=some (.cells #[.slice lo n lc,.map (some K),.map (some O)] 125 (0,0)):=e3.out;have A:Ext J J.drew:=(Qa.refl _ J).drew;refine Z7 (S:=fun s=>s.heap[p]?=some (.cells #[.slice lo n lc,.map (some K),.map (some O)] 125 (0,0))) [] kz z ?_;intro _;obtain⟨l5,g8⟩:=zE J.drew;rw [g8] at z A ⊢;clear g8;have j1:Zs (f.set i (g,j)):=Ed a4.out.2 r9.out i;have c1:=Ep j9.out s0.out i;have X:=j8.out l5 (T.out.trans A) _ _ (e8.out.keep A id id) oz (a4.out.ext (T.out.trans A)) H.out j9.out;obtain⟨e0,f3,e5,f6,f9,f1⟩:=Zh6 X (Qe f2.out A) (T.out.trans A) (f4.out.trans A.of) j1 c1;clear X A j1 c1 f2 e8 f4 T e3;refine tkE (i:=0) (d:=35) (v:=?_) rfl (Or.inl ⟨by rfl,?_⟩) z ?_;rotate_left
  ·intro s b1;refine Ym (x:=.tmp 4) ?_ p ?_ _ _ _ b1 Tryz.underlying125 kz <;> rfl
  try simp only [Act.put,pq]
  refine tE 1 36 z ?_;refine tkE (i:=3) (d:=38) (v:=?_) rfl (Or.inl ⟨by rfl,?_⟩) z ?_;rotate_left
  ·intro s b1;refine Ym (x:=.tmp 4) ?_ p ?_ _ _ _ b1 Tryz.underlying125 kz <;> rfl
  try simp only [Act.put,pq]
  refine tE 4 39 z ?_;refine rE [2] ?_;refine Qb.cons rfl (fun K E=>?_) Qb.nil;refine iw rfl ?_;go_simp;refine e0.out.mono ?_;rintro e g4 ⟨g2,t2,rfl,i5,g7,M⟩;have b3:=M.heap z oz;have i8:=Qs f3.out M (fun q C e=>by simp only [Value.ownBlock,Option.some.injEq] at C;have:=l0.out;omega);have i3:Ext w0 g4:=e5.out.after M (fun b hb e=>by have:=f0.out;have:=l1.out;omega);have b6:=j8.out g4 i3 _ _ g7 oz (v:=f.set i (g,j)) (by have t:=Ln (ws:=f.set i (g,j)) (by rw [List.length_set,H.out];exact i8) f9.out;exact t) (by rw [List.length_set];exact H.out) f1.out;obtain⟨e1,e7,f7⟩:=Zh3 b6 i5 (f6.out.trans M);clear b6 i8 i3 i5 g7 M e0 f3 f6 e5;refine E _ _ b3 (fun _=>?_);clear E K z;try simp only [Act.put,pq]
  refine rE [5] ?_;refine Qb.cons rfl (fun K E=>?_) Qb.nil;refine iw rfl ?_;go_simp;refine e1.out.mono ?_;rintro e s2 ⟨g3,t3,rfl,i6,b2,b5⟩;have b4:=b5.heap b3 oz;have G:=Qjr b2 e7.out i6;rw [p0.out _ f1.out f9.out] at G;obtain⟨e9,L,f8⟩:=Zh3 G b2 (f7.out.trans b5);clear G i6 b2 b5 e1 e7 f7;refine E _ _ b4 (fun _=>?_);clear E K b3;try simp only [Act.put,pq]
  refine tE 6 41 b4 ?_;refine Z1 kz ?_ _;clear b4;obtain⟨d6,b0⟩:=zE (Hr U f (f.set i (g,j)));have G:=e9.out;rw [b0] at G;have i2:Lp U f (k,l) (g,j) i=!d6:=by rw [<-b0];exact d9.out
  have d8:=Zh i2;clear i2 b0 e9;cases d6
  ·rw [Bool.not_false] at G;go_wp2;go_ret;have a1:=Q1q i4 d8.out;rw [<-H.out] at a1;exact⟨Y++(g2++g3),by unfold apB;rw [a1];rfl,by have t:=L.out.mono (d:=c+64) oz;simpa [List.append_assoc] using t,(d7.out.mono fun _ _ t=>t.elim).trans f8.out⟩
  ·rw [Bool.not_true] at G;go_wp2;exact⟨⟨i+1,Y++(g2++g3),by omega,tz,rfl,by have t:=L.out.mono (d:=c+2*(i+1)) oz;simpa [List.append_assoc] using t,by rw [Ts,j7.out,d8.out];rfl,f8.out⟩,nz⟩
 by_cases j2:(j3,j4)=(g,j)
 ·have C:=j2;simp only [Prod.mk.injEq] at C;have o3:=C.1.symm;have o4:=C.2.symm;subst o3 o4;clear C;have P:=k8.out;rw [if_neg a2,if_pos rfl] at P;have d9:=Zh P;obtain⟨g5,d2⟩:=zE I;rw [d2] at c6 L e2 c8 e6 k3 o6 o7 j5 j6 c4 c5 ⊢;clear d2;have k6:=c6;have l2:=L;have k7:=e2;have l4:=c8;have a3:=e6;have a5:Hid (y+2<=g5.heap.size/\p+2<y):=Zh oz;have l3:Hid (B.heap.size<=y):=Zh i1;have n2:=Ha a2;clear P c6 L c8 e6 e2 k3 i1 m5 o1 a2 j2;rcases n2 with X | ⟨X,b6⟩
  all_goals
   go_upto_region 9 with (fail)
   clear o6 o7 j5 j6 c4 c5;have b8:=Py (a4.out.ext a3.out) (by rw [H.out];omega);rw [H.out] at b8;have e4:=Zh b8;clear b8;go_wp2_with fail;refine e4.out.mono ?_;rintro e V ⟨t4,o5,rfl,Q,D⟩;obtain⟨u,n4⟩:=Dh (n:=r - 1) (by rw [show r - 1+1=r by omega];exact Q);subst n4;have i7:=Q.lt u rfl;have n7:=D.size;have a7:=D.keep k6.out;have c4:V.cell? ⟨y+1,0,none⟩=some (.int .u32 (k:Int)):=by rw [cell_of_row _ _ _ _ _ _ a7];rfl
   have c5:V.cell? ⟨y+1,1,none⟩=some (.int .u32 (l:Int)):=by rw [cell_of_row _ _ _ _ _ _ a7];rfl
   have j0:=Gr Q (o:=i*2) (m:=2) oz;have c2:=Tt (cs:=Q37 (k,l)) Q i4 rfl;rw [Sy n6] at c2;have N:=Qa.setCells V u (#[.int .u32 (k:Int),.int .u32 (l:Int)]:Array Value).toList (i*2);have F:u≠K/\u≠O/\u≠p:=by have:=a5.out;omega
   have c0:=(l2.out.keep D id id).keep N (fun e=>F.1 e.symm) (fun e=>F.2.1 e.symm);have b7:=N.heap (D.keep k7.out) (fun e=>F.2.2 e.symm);have c3:=(l4.out.trans D.of).after N (fun b hb e=>by have:=a5.out;have:=l3.out;omega);have b9:Ext w0 _:=(a3.out.trans D).after N (fun b hb e=>by have:=a5.out;have:=F;have:=a3.out.size;have:=i7;have:=f0.out;omega);obtain⟨J,W⟩:=zE (V.setCells u (i*2) (#[.int .u32 (k:Int),.int .u32 (l:Int)]:Array Value).toList);have i9:J.ownsRow g5.heap.size 26 2 (.slice (some ⟨u,0,none⟩) r o5) r (Z3 (f.set i (k,l))):=by rw [<-W];exact c2
   rw [W] at c0 b7 c3 b9;obtain⟨f5,g0,f2,e8,e3,f4,T⟩:=Zh7 j0 W i9 c0 b7 c3 b9;have l0:Hid (u≠K/\u≠O):=Zh ⟨F.1,F.2.1⟩;clear i7 n7 a7 j0 c2 N F c0 b7 c3 b9 W i9 Q D e4;go_upto_region 11 with (refine wpList_store_mid rfl 26 (.tmp 34) (.tmp 33) rfl u (i*2) #[.int .u32 (k:Int),.int .u32 (l:Int)] (by first | rfl | (simp;done)) rfl f5.out kz kz ?_;rw [g0.out])
   clear c4 c5 f5 g0;have z:J.drew.heap[p]?=some (.cells #[.slice lo n lc,.map (some K),.map (some O)] 125 (0,0)):=e3.out;have A:Ext J J.drew:=(Qa.refl _ J).drew;refine Z7 (S:=fun s=>s.heap[p]?=some (.cells #[.slice lo n lc,.map (some K),.map (some O)] 125 (0,0))) [] kz z ?_;intro _;obtain⟨l5,g8⟩:=zE J.drew;rw [g8] at z A ⊢;clear g8;have j1:Zs (f.set i (k,l)):=Ed a4.out.2 r7.out i;have c1:=Ep j9.out r8.out i;have X:=j8.out l5 (T.out.trans A) _ _ (e8.out.keep A id id) oz (a4.out.ext (T.out.trans A)) H.out j9.out;obtain⟨e0,f3,e5,f6,f9,f1⟩:=Zh6 X (Qe f2.out A) (T.out.trans A) (f4.out.trans A.of) j1 c1;clear X A j1 c1 f2 e8 f4 T e3;refine tkE (i:=0) (d:=35) (v:=?_) rfl (Or.inl ⟨by rfl,?_⟩) z ?_;rotate_left
   ·intro s b1;refine Ym (x:=.tmp 4) ?_ p ?_ _ _ _ b1 Tryz.underlying125 kz <;> rfl
   try simp only [Act.put,pq]
   refine tE 1 36 z ?_;refine tkE (i:=3) (d:=38) (v:=?_) rfl (Or.inl ⟨by rfl,?_⟩) z ?_;rotate_left
   ·intro s b1;refine Ym (x:=.tmp 4) ?_ p ?_ _ _ _ b1 Tryz.underlying125 kz <;> rfl
   try simp only [Act.put,pq]
   refine tE 4 39 z ?_;refine rE [2] ?_;refine Qb.cons rfl (fun K E=>?_) Qb.nil;refine iw rfl ?_;go_simp;refine e0.out.mono ?_;rintro e g4 ⟨g2,t2,rfl,i5,g7,M⟩;have b3:=M.heap z oz;have i8:=Qs f3.out M (fun q C e=>by simp only [Value.ownBlock,Option.some.injEq] at C;have:=l0.out;omega);have i3:Ext w0 g4:=e5.out.after M (fun b hb e=>by have:=f0.out;have:=l1.out;omega);have b6:=j8.out g4 i3 _ _ g7 oz (v:=f.set i (k,l)) (by have t:=Ln (ws:=f.set i (k,l)) (by rw [List.length_set,H.out];exact i8) f9.out;exact t) (by rw [List.length_set];exact H.out) f1.out;obtain⟨e1,e7,f7⟩:=Zh3 b6 i5 (f6.out.trans M);clear b6 i8 i3 i5 g7 M e0 f3 f6 e5;refine E _ _ b3 (fun _=>?_);clear E K z;try simp only [Act.put,pq]
   refine rE [5] ?_;refine Qb.cons rfl (fun K E=>?_) Qb.nil;refine iw rfl ?_;go_simp;refine e1.out.mono ?_;rintro e s2 ⟨g3,t3,rfl,i6,b2,b5⟩;have b4:=b5.heap b3 oz;have G:=Qjr b2 e7.out i6;rw [p0.out _ f1.out f9.out] at G;obtain⟨e9,L,f8⟩:=Zh3 G b2 (f7.out.trans b5);clear G i6 b2 b5 e1 e7 f7;refine E _ _ b4 (fun _=>?_);clear E K b3;try simp only [Act.put,pq]
   refine tE 6 41 b4 ?_;refine Z1 kz ?_ _;clear b4;obtain⟨d6,b0⟩:=zE (Hr U f (f.set i (k,l)));have G:=e9.out;rw [b0] at G;have i2:Lp U f (k,l) (g,j) i=!d6:=by rw [<-b0];exact d9.out
   have d8:=Zh i2;clear i2 b0 e9;cases d6
   ·rw [Bool.not_false] at G;go_wp2;go_ret;have a1:=Q1q i4 d8.out;rw [<-H.out] at a1;exact⟨Y++(g2++g3),by unfold apB;rw [a1];rfl,by have t:=L.out.mono (d:=c+64) oz;simpa [List.append_assoc] using t,(d7.out.mono fun _ _ t=>t.elim).trans f8.out⟩
   ·rw [Bool.not_true] at G;go_wp2;exact⟨⟨i+1,Y++(g2++g3),by omega,tz,rfl,by have t:=L.out.mono (d:=c+2*(i+1)) oz;simpa [List.append_assoc] using t,by rw [Ts,j7.out,d8.out];rfl,f8.out⟩,nz⟩
 have n2:=Ha a2;have s7:=Ha j2;have P:=k8.out;rw [if_neg a2,if_neg j2] at P;have d9:=Zh P;clear P a2 j2 k3 i1 m5 o1;rcases n2 with X | ⟨X,b6⟩ <;> rcases s7 with hb3 | ⟨hb3,hb4⟩
 all_goals go_wp2
 all_goals exact⟨⟨i+1,Y,by omega,tz,rfl,L.out.mono oz,by rw [Ts,j7.out,d9.out];rfl,c8.out⟩,nz⟩
theorem Q9n:∀ args w,(callFunc 94 args).run Tryz.prog w=.ok (.enter 94 args) w:=fun args w=>by simp [go_sem]
theorem Lk:∀ {W:World} {vs:List Value} {us:List Wd} {i:Nat},Y1 W vs us->(hi:i<us.length)->∃ uo uc,vs.getD i undef=.slice uo us[i].length uc/\Qd W (.slice uo us[i].length uc) us[i]
 | _,[],[],_,_,h=>absurd h (Nat.not_lt_zero _)
 | _,_::_,_::_,0,h,_=>by
  obtain⟨⟨ao,c,h1,h2,_⟩,_⟩:=h
  exact⟨ao,c,h1,h2⟩
 | _,_::_,_::_,i+1,h,hi=>Lk (i:=i) h.2 (by simpa using hi)
structure Pg (w:World) (lo:Option Addr) (n lc K O P Q T s1 s2 t1 t2:Nat):Prop where
 j:w.heap[P]?=some (.cells #[.slice lo n lc,.map (some K),.map (some O)] 125 (0,0))
 s:w.heap[Q]?=some (.cells #[.int .u32 (s1:Int),.int .u32 (s2:Int)] 26 (0,0))
 t:w.heap[T]?=some (.cells #[.int .u32 (t1:Int),.int .u32 (t2:Int)] 26 (0,0))
 ne:P≠K/\P≠O/\Q≠K/\Q≠O/\T≠K/\T≠O
theorem Pg.keep{w V:World}{lo:Option Addr}{n lc K O P Q T s1 s2 t1 t2:Nat}(h:Pg w lo n lc K O P Q T s1 s2 t1 t2)(ht:Qa (fun q=>q=K\/q=O) w V):Pg V lo n lc K O P Q T s1 s2 t1 t2:=
 ⟨ht.heap h.j (by have:=h.ne;omega),ht.heap h.s (by have:=h.ne;omega),ht.heap h.t (by have:=h.ne;omega),h.ne⟩
def IxR(P:Program)(k e:TypeId)(ls:List Qg)(w:World)(K O:Nat)(OS:List (List UInt8)) (c:Nat) (b:Bool) (en:Ending) (w':World):Prop:=∃(z:Int) (R:List (List UInt8)),en=.returned (.int .i64 z)/\decide (0<=z)=b/\JAt P k e ls w' K O (OS++R) c/\Qa (fun q=>q=K\/q=O) w w'
section
variable {w0:World} {ps:Zl} {lo:Option Addr} {n lc:Nat} (hl:Zk w0 (.slice lo n lc) ps) (hn:ps.length=n) (hT:Tab w0) {K O:Nat} (hK:w0.heap.size<=K) (hO:w0.heap.size<=O) (hKO:K≠O) {s1 s2 t1 t2:Nat} (hs:Qm (s1,s2)) (ht:Qm (t1,t2)) (hsv:okS (s1,s2)=true) (htv:okS (t1,t2)=true) (hst:(s1,s2)≠(t1,t2))
include hl hn hT hK hO hKO hs ht hsv htv hst
theorem Qfi{w:World}(hE:Ext w0 w){P Q T:Nat}(hB:Pg w lo n lc K O P Q T s1 s2 t1 t2){OS:List (List UInt8)} {c:Nat} (hJ:JAt Tryz.prog 9 3 (ps.map (·.1)) w K O OS c) (hc:c<=900000) {uw:Wd} {uo:Option Addr} {un uc:Nat} (hu:Qd w0 (.slice uo un uc) uw) (hun:uw.length=un) (hlw:Zw (ps.map (·.1)) uw=0) :
  Calls Tryz.prog 94 #[.slice uo un uc,.pointer (some ⟨P,0,none⟩),.pointer (some ⟨Q,0,none⟩),.pointer (some ⟨T,0,none⟩)] w (ApR Tryz.prog 9 3 (ps.map (·.1)) w K O OS (c+64) (apB (ps.map (·.1)) uw (s1,s2) (t1,t2))):=by
 have HC:=Zh (Qbv hl hn hT hE hK hO hKO hJ hc hu hun hlw hs ht hsv htv hst)
 have d0:w.cell? ⟨P,0,none⟩=some (.slice lo n lc):=by rw [cell_of_row _ _ _ _ _ _ hB.j];rfl
 have d1:w.cell? ⟨P,1,none⟩=some (.map (some K)):=by rw [cell_of_row _ _ _ _ _ _ hB.j];rfl
 have d2:w.cell? ⟨P,2,none⟩=some (.map (some O)):=by rw [cell_of_row _ _ _ _ _ _ hB.j];rfl
 have e0:w.cell? ⟨Q,0,none⟩=some (.int .u32 (s1:Int)):=by rw [cell_of_row _ _ _ _ _ _ hB.s];rfl
 have e1:w.cell? ⟨Q,1,none⟩=some (.int .u32 (s2:Int)):=by rw [cell_of_row _ _ _ _ _ _ hB.s];rfl
 have f0:w.cell? ⟨T,0,none⟩=some (.int .u32 (t1:Int)):=by rw [cell_of_row _ _ _ _ _ _ hB.t];rfl
 have f1:w.cell? ⟨T,1,none⟩=some (.int .u32 (t2:Int)):=by rw [cell_of_row _ _ _ _ _ _ hB.t];rfl
 clear hl hn hT hE hK hO hKO hJ hc hu hun hlw hs ht hsv htv hst hB
 obtain⟨LD,hLD⟩:∃ x,ps.map (·.1)=x:=⟨_,rfl⟩
 rw [hLD] at HC ⊢
 clear hLD
 obtain⟨B,hB⟩:∃ b,apB LD uw (s1,s2) (t1,t2)=b:=⟨_,rfl⟩
 rw [hB] at HC ⊢
 clear hB
 go_enter Tryz.func94,Tryz.ntmps94
 go_wp2_with fail
 refine HC.out.mono ?_
 rintro e w2 ⟨R,rfl,hJ,hT⟩
 have HJ:=Zh hJ;have HT:=Zh hT
 clear hJ hT HC d0 d1 d2 e0 e1 f0 f1
 go_wp2
 go_ret
 exact⟨R,rfl,HJ.out,HT.out⟩
theorem Qcr{w:World}(hE:Ext w0 w){P Q T:Nat}(hB:Pg w lo n lc K O P Q T s1 s2 t1 t2){OS:List (List UInt8)} {c:Nat} (hJ:JAt Tryz.prog 9 3 (ps.map (·.1)) w K O OS c) (hc:c<=800000) {ao:Option Addr} {N cap:Nat} {us:List Wd} (hu:Gc w0 (.slice ao N cap) us) (hN:us.length=N) (hN32:N<=32) (hlw:∀ uw∈us,Zw (ps.map (·.1)) uw=0) :
  Calls Tryz.prog 121 #[.slice ao N cap,.func (.func 94) #[] #[.pointer (some ⟨P,0,none⟩),.pointer (some ⟨Q,0,none⟩),.pointer (some ⟨T,0,none⟩)]] w (IxR Tryz.prog 9 3 (ps.map (·.1)) w K O OS (c+64*N) (apL (ps.map (·.1)) us (s1,s2) (t1,t2))):=by
 obtain⟨vs,hr,hws⟩:=hu
 rw [hN] at hr
 have hcall:=fun {V:World} (hE:Ext w0 V) (hB:Pg V lo n lc K O P Q T s1 s2 t1 t2) {OS:List (List UInt8)} {c:Nat} (hJ:JAt Tryz.prog 9 3 (ps.map (·.1)) V K O OS c) (hc:c<=900000) {uw:Wd} {uo:Option Addr} {un uc:Nat} (hu:Qd w0 (.slice uo un uc) uw) (hun:uw.length=un) (hlw:Zw (ps.map (·.1)) uw=0)=>Qfi hl hn hT hK hO hKO hs ht hsv htv hst hE hB hJ hc hu hun hlw
 obtain⟨LD,hLD⟩:∃ x,ps.map (·.1)=x:=⟨_,rfl⟩
 rw [hLD] at hJ ⊢
 simp only [hLD] at hcall hlw
 have HCALL:Hid (∀ {V:World},Ext w0 V->Pg V lo n lc K O P Q T s1 s2 t1 t2->∀ {OS:List (List UInt8)} {c:Nat},JAt Tryz.prog 9 3 LD V K O OS c->c<=900000->∀ {uw:Wd} {uo:Option Addr} {un uc:Nat},Qd w0 (.slice uo un uc) uw->uw.length=un->Zw LD uw=0->_):=Zh hcall
 have HLW:=Zh hlw;have HR:=Zh hr;have HWS:=Zh hws;have HN:=Zh hN;have HE:=Zh hE;have HB:=Zh hB;have HJ:=Zh hJ;have HKb:=Zh hK;have HOb:=Zh hO
 clear hl hn hT hE hK hO hKO hJ hs ht hsv htv hst hB hcall hlw hr hws hN hLD
 have hen:=Q9n
 have HEN:=Zh hen
 clear hen
 go_enter Tryz.func121,Tryz.ntmps121
 go_wp2
 refine wp_loop (fun a W=>∃(k:Nat) (R:List (List UInt8)),k<=N/\a.defers=[]/\(a.tmps.size=19/\a.tmps.getD 0 undef=.slice ao N cap/\a.tmps.getD 1 undef=.func (.func 94) #[] #[.pointer (some ⟨P,0,none⟩),.pointer (some ⟨Q,0,none⟩),.pointer (some ⟨T,0,none⟩)]/\a.tmps.getD 7 undef=.int .i64 N/\a.tmps.getD 8 undef=.int .i64 k)/\JAt Tryz.prog 9 3 LD W K O (OS++R) (c+64*k)/\(us.take k).any (fun uw=>apB LD uw (s1,s2) (t1,t2))=false/\Qa (fun q=>q=K\/q=O) w W)
  (fun a _=>N - (intOf (a.tmps.getD 8 undef)).toNat) ?_ ?_
 ·exact⟨0,[],by omega,rfl,⟨rfl,rfl,rfl,rfl,rfl⟩,by rw [List.append_nil];exact HJ.out,rfl,Qa.refl _ _⟩
 clear HJ
 rintro⟨t,_⟩ W ⟨k,R,hk,hds,⟨hsz,f0,f1,f7,f8⟩,hJ,hall,hTW⟩
 subst hds
 obtain⟨u',hu⟩:=Qq hsz
 obtain⟨u,rfl⟩:∃ x,x=u':=⟨_,rfl⟩
 have hu':t=#[u 0,u 1,u 2,u 3,u 4,u 5,u 6,u 7,u 8,u 9,u 10,u 11,u 12,u 13,u 14,u 15,u 16,u 17,u 18]:=hu
 clear hu
 subst hu'
 change u 0=_ at f0
 change u 1=_ at f1
 change u 7=_ at f7
 change u 8=_ at f8
 rw [f0,f1,f7,f8]
 clear f0 f1 f7 f8 hsz
 have HJ:=Zh hJ;have HALL:=Zh hall;have HTW:=Zh hTW
 clear hJ hall hTW
 by_cases hkN:k<N
 case neg=>
  obtain rfl:k=N:=by omega
  have h1:¬ (k:Int)<(k:Int):=by omega
  go_wp2
  go_ret
  have ha:=HALL.out
  rw [List.take_of_length_le (by rw [HN.out];exact Nat.le_refl _)] at ha
  exact⟨-1,R,rfl,by unfold apL;rw [ha];rfl,HJ.out,HTW.out⟩
 have h1:(k:Int)<(N:Int):=by omega
 have h0:(0:Int)<=(k:Int):=by omega
 have hkl:k<us.length:=by rw [HN.out];exact hkN
 have hEW:Ext w0 W:=HE.out.after HTW.out (fun b hb e=>by have:=HKb.out;have:=HOb.out;omega)
 obtain⟨g,off,c',hq,hg,hcl⟩:=Zb (HR.out.ext hEW) hkN
 simp only [Value.slice.injEq,true_and] at hq
 obtain⟨rfl,rfl⟩:=hq
 obtain⟨uo,uc,hv,hwu⟩:=Lk HWS.out hkl
 rw [hv] at hcl
 have hc2:=HCALL.out hEW (HB.out.keep HTW.out) HJ.out (by omega) hwu rfl (HLW.out _ (List.getElem_mem hkl))
 have htk:us.take (k+1)=us.take k++[us[k]]:=List.take_succ_eq_append_getElem hkl
 obtain⟨uw,huw⟩:∃ x,us[k]=x:=⟨_,rfl⟩
 rw [huw] at hcl hc2 htk
 have hmem:uw∈us:=by rw [<-huw];exact List.getElem_mem hkl
 obtain⟨un,hun⟩:∃ x,uw.length=x:=⟨_,rfl⟩
 rw [hun] at hcl hc2
 have HC2:=Zh hc2;have HTK:=Zh htk;have HMEM:=Zh hmem
 clear hc2 htk hv hwu huw hun hg hEW hmem hkl
 have hen:=HEN.out
 go_wp2_with fail
 clear hen
 refine HC2.out.mono ?_
 rintro e W2 ⟨R2,rfl,hJ2,hT2⟩
 obtain⟨b,hb⟩:∃ b,apB LD uw (s1,s2) (t1,t2)=b:=⟨_,rfl⟩
 rw [hb]
 have HBB:=Zh hb;have HJ2:=Zh hJ2;have HT2:=Zh (HTW.out.trans hT2)
 clear hb hJ2 hT2 HC2 hcl HTW HJ
 cases b
 ·go_wp2
  exact⟨⟨k+1,R++R2,by omega,by first | rfl | trivial,⟨rfl,rfl,rfl,rfl,rfl⟩,by have h:=HJ2.out.mono (d:=c+64*(k+1)) (by omega);simpa [List.append_assoc] using h,by rw [HTK.out,List.any_append,HALL.out];simp [HBB.out],HT2.out⟩,by simp [intOf];omega⟩
 ·go_wp2
  go_ret
  exact⟨(k:Int),R++R2,rfl,by unfold apL;rw [List.any_eq_true.2 ⟨uw,HMEM.out,HBB.out⟩];simp,by have h:=HJ2.out.mono (d:=c+64*N) (by omega);simpa [List.append_assoc] using h,HT2.out⟩
theorem Q5j{w:World}(hE:Ext w0 w){P Q T:Nat}(hB:Pg w lo n lc K O P Q T s1 s2 t1 t2){OS:List (List UInt8)} {c:Nat} (hJ:JAt Tryz.prog 9 3 (ps.map (·.1)) w K O OS c) (hc:c<=800000) {ao:Option Addr} {N cap:Nat} {us:List Wd} (hu:Gc w0 (.slice ao N cap) us) (hN:us.length=N) (hN32:N<=32) (hlw:∀ uw∈us,Zw (ps.map (·.1)) uw=0) :
  Calls Tryz.prog 81 #[.slice ao N cap,.func (.func 94) #[] #[.pointer (some ⟨P,0,none⟩),.pointer (some ⟨Q,0,none⟩),.pointer (some ⟨T,0,none⟩)]] w (ApR Tryz.prog 9 3 (ps.map (·.1)) w K O OS (c+64*N) (apL (ps.map (·.1)) us (s1,s2) (t1,t2))):=by
 have HI:=Zh (Qcr hl hn hT hK hO hKO hs ht hsv htv hst hE hB hJ hc hu hN hN32 hlw (cap:=cap))
 clear hl hn hT hE hK hO hKO hJ hs ht hsv htv hst hB hlw hu hN
 go_enter Tryz.func81,Tryz.ntmps81
 go_wp2_with fail
 refine HI.out.mono ?_
 rintro e w2 ⟨z,R,rfl,hz,hJ2,hT2⟩
 have HZ:=Zh hz;have HJ2:=Zh hJ2;have HT2:=Zh hT2
 clear hz hJ2 hT2 HI
 go_wp2
 go_ret
 exact⟨R,by rw [<-HZ.out];rfl,HJ2.out,HT2.out⟩
end
def Xv(N:Nat)(L:List Nat):List Value:=Z5 (L++List.replicate (N - L.length) 0)
theorem Tg{N:Nat}{L:List Nat}(h:L.length<=N):(Xv N L).length=N:=by unfold Xv Z5;simp;omega
theorem Q9y(N:Nat):Xv N []=List.replicate N (.int .i64 0):=by unfold Xv Z5;simp
theorem Qcu{N:Nat}{L:List Nat}(h:L.length=N):Xv N L=Z5 L:=by unfold Xv;rw [h];simp
theorem Tf{N i:Nat}{L:List Nat}(h:i<L.length):(Xv N L).getD i undef=.int .i64 (L.getD i 0:Nat):=by
 unfold Xv Z5;rw [List.getD_eq_getElem?_getD,List.getElem?_map,List.getElem?_append_left h,List.getD_eq_getElem?_getD,List.getElem?_eq_getElem h];rfl
theorem Q9m{N i:Nat}{L:List Nat}(b:L.length=i)(h:i<N):(Xv N L).set i (.int .i64 (i:Int))=Xv N (L++[i]):=by
 subst b;unfold Xv Z5;rw [<-List.map_set]
 congr 1
 rw [List.set_append_right _ _ (Nat.le_refl _),Nat.sub_self,List.length_append,List.length_singleton];obtain⟨a,c⟩:∃ a,N - L.length=a+1:=⟨N - L.length - 1,by omega⟩;rw [c,List.replicate_succ,List.set_cons_zero,show N - (L.length+1)=a by omega];simp
def Vh(L:List Nat)(a b n:Nat):List Nat:=Vq (L.take n) a b++L.drop n
theorem Qbg(L:List Nat)(a b:Nat):Vh L a b 0=L:=by unfold Vh Vq;simp
theorem Qfs{L:List Nat}(a b:Nat){n:Nat}(h:L.length<=n):Vh L a b n=Vq L a b:=by unfold Vh;rw [List.take_of_length_le h,List.drop_eq_nil_of_le h,List.append_nil]
theorem Rk(L:List Nat)(a b n:Nat):(Vh L a b n).length=L.length:=by unfold Vh Vq;simp;omega
theorem Qf6{L:List Nat}(a b:Nat){n:Nat}(h:n<L.length):(Vh L a b n).getD n 0=L.getD n 0:=by
 unfold Vh;have c:(Vq (L.take n) a b).length=n:=by rw [Q1a,List.length_take];omega
 rw [List.getD_eq_getElem?_getD,List.getElem?_append_right oz,c,Nat.sub_self,List.drop_eq_getElem_cons h,List.getD_eq_getElem?_getD,List.getElem?_eq_getElem h];rfl
theorem Q1w{L:List Nat}(a b:Nat){n:Nat}(h:n<L.length):Vh L a b (n+1)=Vq (L.take n) a b++(if L.getD n 0=a\/L.getD n 0=b then min a b else L.getD n 0)::L.drop (n+1):=by
 unfold Vh Vq;rw [List.take_succ_eq_append_getElem h,List.map_append,List.append_assoc,List.getD_eq_getElem?_getD,List.getElem?_eq_getElem h];rfl
theorem Qg3{L:List Nat}{a b:Nat}{n N:Nat}(h:n<L.length)(_:L.length<=N)(c:L.getD n 0=a\/L.getD n 0=b):(Xv N (Vh L a b n)).set n (.int .i64 ((min a b:Nat):Int))=Xv N (Vh L a b (n+1)):=by
 have d:(Vq (L.take n) a b).length=n:=by rw [Q1a,List.length_take];omega
 unfold Xv;rw [Rk,Rk,Q1w a b h,if_pos c];unfold Vh Z5;rw [List.drop_eq_getElem_cons h,<-List.map_set]
 congr 1
 rw [List.append_assoc,List.append_assoc,List.set_append_right _ _ oz,d,Nat.sub_self];rfl
theorem Qht{L:List Nat}{a b:Nat}{n:Nat}(h:n<L.length)(c:¬ (L.getD n 0=a\/L.getD n 0=b)):Vh L a b (n+1)=Vh L a b n:=by
 rw [Q1w a b h,if_neg c];unfold Vh;rw [List.drop_eq_getElem_cons h,List.getD_eq_getElem?_getD,List.getElem?_eq_getElem h];rfl
theorem Cb{a:Nat->Nat->Bool}{i k:Nat}{L:List Nat}(h:a i k=true\/L.getD i 0=L.getD k 0):Hc a i L k=L:=by
 unfold Hc;rcases h with h | h
 ·rw [if_pos h]
 ·split
  ·rfl
  ·rw [h];exact Qgu L _
theorem Q72{a:Nat->Nat->Bool}{i k:Nat}{L:List Nat}(h:a i k=false):Hc a i L k=Vq L (L.getD i 0) (L.getD k 0):=by
 unfold Hc;rw [h];rfl
theorem En:(Tryz.prog.info? 3).map (fun i=>(i.zero,i.size,i.bytes))=some (some (.int .i64 0),1,8):=by kernel_rfl
attribute [local go_sem high] Fd
theorem Q8h{ls:List Qg}{us:List Wd}{ss:Wd}(h:Xh ls us ss≠0):Vw ls us ss=[]:=if_neg h
theorem Rl{w:World}{base g n i:Nat}{xs:List Value}(b:w.ownsRow base 3 1 (.slice (some ⟨g,0,none⟩) n n) n xs) (d:i<n) {x:Value} (c:xs[i]?=some x):w.cell? ⟨g,i,none⟩=some x/\w.frozen? ⟨g,i,none⟩=false:=by
 have a:=b.cellAt i oz;rw [c] at a;exact⟨a,b.frozenAt i⟩
theorem Dv{xs:List Value}{i:Nat}(h:i<xs.length):xs[i]?=some (xs.getD i undef):=by
 rw [List.getD_eq_getElem?_getD,List.getElem?_eq_getElem h];rfl
theorem Q09{ss:Wd}{i k:Nat}(h:ss.Nodup)(b:i<ss.length)(c:k<i):ss.getD i (0,0)≠ss.getD k (0,0):=by
 intro a;rw [List.getD_eq_getElem?_getD,List.getD_eq_getElem?_getD,List.getElem?_eq_getElem b,List.getElem?_eq_getElem oz] at a;exact(List.pairwise_iff_getElem.1 h k i oz b c) (by simpa using a.symm)
theorem Q2k{ss:Wd}{m:Nat}(h:Yz ss m=0):ss.Nodup/\ss.length<=m/\∀ s∈ss,okS s=true:=by
 unfold Yz at h
 split at h
 ·cases h
 ·split at h
  ·rename_i c a
   split at h
   ·rename_i b;exact⟨b,by omega,fun s hs=>List.all_eq_true.1 a s hs⟩
   ·cases h
  ·cases h
theorem Cr{w:World}{ps:Zl}{lo:Option Addr}{n lc:Nat}(q3:Zk w (.slice lo n lc) ps) (q6:ps.length=n) {c6:Option Addr} {N c5:Nat} {us:List Wd} (I:Gc w (.slice c6 N c5) us) (c0:us.length=N) {j7:Option Addr} {M V:Nat} {ss:Wd} (a8:Qd w (.slice j7 M V) ss) (i6:ss.length=M) (x5:M<=V) (o5:Tab w) :
  Calls Tryz.prog 50 #[.slice lo n lc,.slice c6 N c5,.slice j7 M V] w fun e w'=>∃ vo vc,e=.returned (.tuple #[.slice vo (Vw (ps.map (·.1)) us ss).length vc,.int .i64 (Xh (ps.map (·.1)) us ss)])/\w'.ownsRow w.heap.size 3 1 (.slice vo (Vw (ps.map (·.1)) us ss).length vc) (Vw (ps.map (·.1)) us ss).length (Z5 (Vw (ps.map (·.1)) us ss))/\Ext w w':=by
 have D2:N<=maxLen:=by obtain⟨F3,F,_⟩:=I;rw [<-c0];exact F.2.1
 have D1:M<=maxLen:=by rw [<-i6];exact a8.1.2.1
 unfold maxLen at D2 D1;have F:=Fw q3 q6 o5;have Z:=fun(r:World) (a0:Ext w r)=>Q3i 16 (a8.ext a0) i6 x5;have p6:=fun {r:World} {f O:Nat} (a0:Ext w r) (e3:w.heap.size<=f) (b1:w.heap.size<=O) (hKO:f≠O) {P Q T:Nat} {y A G H:Nat} (l3:Qm (y,A)) (e4:Qm (G,H)) (hav:okS (y,A)=true) (hbv:okS (G,H)=true) (l4:(y,A)≠(G,H)) (hB:Pg r lo n lc f O P Q T y A G H) {K:List (List UInt8)} {W:Nat} (e2:JAt Tryz.prog 9 3 (ps.map (·.1)) r f O K W) (l5:W<=800000) (o3:N<=32) (m0:∀ uw∈us,Zw (ps.map (·.1)) uw=0)=>Q5j q3 q6 o5 e3 b1 hKO l3 e4 hav hbv l4 a0 hB e2 l5 I c0 o3 m0;obtain⟨l,o2⟩:=zE (ps.map (·.1));rw [o2] at F ⊢;simp only [o2] at p6;have r0:Z4 l≠0->Xh l us ss=Z4 l:=fun h=>by unfold Xh;rw [if_neg h]
 have r1:Z4 l=0->32<N->Xh l us ss=12:=fun h Z=>by unfold Xh;rw [if_pos h,c0,if_pos Z]
 have f0:Z4 l=0->¬ 32<N->Gg us≠0->Xh l us ss=Gg us:=fun h Z i2=>by unfold Xh;rw [if_pos h,c0,if_neg Z,if_neg i2]
 have c3:Z4 l=0->¬ 32<N->Gg us=0->Xh l us ss=Yz ss 16:=fun h Z i2=>by unfold Xh;rw [if_pos h,c0,if_neg Z,if_pos i2]
 have q8:=@Q8h l us ss;obtain⟨q,o9⟩:∃ q:Nat->Nat->Bool,(fun i k=>apL l us (ss.getD i (0,0)) (ss.getD k (0,0)))=q:=⟨_,rfl⟩;have A1:Hid (∀ i k,q i k=apL l us (ss.getD i (0,0)) (ss.getD k (0,0))):=Zh fun i k=>by rw [<-o9]
 have c4:Xh l us ss=0->Vw l us ss=Vn q M:=fun h=>by unfold Vw;rw [if_pos h,i6,o9]
 clear o9
 have g5:Z4 l=0->Gg us=0->∀ uw∈us,Zw l uw=0:=fun h Z uw hm=>by
  unfold Zw;rw [if_pos h];exact Nl Z _ (List.mem_map.2 ⟨uw,hm,rfl⟩)
 have r2:=@Q2k ss 16;obtain⟨r4,k6⟩:=zE (Z4 l);obtain⟨F4,b5⟩:=zE (Yz ss 16);obtain⟨A0,k8⟩:=zE (Gg us);obtain⟨v5,l1⟩:=zE (Xh l us ss);obtain⟨F5,o4⟩:=zE (Vw l us ss);rw [k6] at F;simp only [b5] at Z r2;rw [k6,l1] at r0 r1 f0 c3;rw [k8] at f0 c3;rw [b5] at c3;rw [k6,k8] at g5;rw [l1,o4] at q8 c4;rw [l1,o4];have z4:(us.map wE).length=N:=by rw [List.length_map,c0]
 have z3:Qw (us.map wE)=A0:=k8;have r5:=Zh F;have r6:=Zh Z;have A6:Hid (∀ {r:World} {f O:Nat},Ext w r->w.heap.size<=f->w.heap.size<=O->f≠O->∀ {P Q T:Nat} {y A G H:Nat},Qm (y,A)->Qm (G,H)->okS (y,A)=true->okS (G,H)=true->(y,A)≠(G,H)->Pg r lo n lc f O P Q T y A G H->∀ {K:List (List UInt8)} {W:Nat},JAt Tryz.prog 9 3 l r f O K W->W<=800000->N<=32->(∀ uw∈us,Zw l uw=0)->Calls Tryz.prog 81 #[.slice c6 N c5,.func (.func 94) #[] #[.pointer (some ⟨P,0,none⟩),.pointer (some ⟨Q,0,none⟩),.pointer (some ⟨T,0,none⟩)]] r (ApR Tryz.prog 9 3 l r f O K (W+64*N) (apL l us (y,A) (G,H)))):=Zh p6;obtain⟨u9,v0,v1,v3,g9,b9,t3,u0⟩:=Zh8 r0 r1 f0 c3 q8 c4 g5 r2;obtain⟨C1,t6,i0,m4,A5,u6,m6⟩:=Zh7 I c0 a8 i6 x5 z4 z3;clear q3 q6 I c0 a8 i6 o5 F Z p6 r0 r1 f0 c3 q8 c4 g5 r2 k6 b5 k8 l1 o4 o2 z4 z3;go_enter Tryz.func50,Tryz.ntmps50;go_wp2_with fail;refine r5.out.mono ?_;rintro e H3 ⟨rfl,b4⟩;have C:=Zh b4;clear r5 b4;by_cases t:r4=0;case neg=>
  have g6:(r4 != 0)=true:=by simpa using t
  have a7:=u9.out t;subst a7;have f1:=g9.out t;subst f1;go_wp2;refine bodyPost_ret (Qt rfl _ _ _) rfl ⟨_,_,rfl,World.ownsRow_nil _ _ _ _,C.out⟩
 subst t;by_cases p2:32<N
 ·have F:(N:Int) > 32:=by omega
  have a7:=v0.out uz p2;subst a7;have f1:=g9.out zd;subst f1;go_wp2;refine bodyPost_ret (Qt rfl _ _ _) rfl ⟨_,_,rfl,World.ownsRow_nil _ _ _ _,C.out⟩
 have F:¬ (N:Int) > 32:=by omega
 have f0:=v1.out uz p2;have c3:=v3.out uz p2;have g5:=t3.out uz;obtain⟨v2,v4,t4⟩:=Zh3 f0 c3 g5;clear u9 v0 v1 v3 t3 f0 c3 g5;go_wp2;clear F
 refine wp_loop (fun a m7=>∃(k:Nat),k<=N/\a.defers=[]/\(a.tmps.size=119/\a.tmps.getD 0 undef=.slice lo n lc/\a.tmps.getD 1 undef=.slice c6 N c5/\a.tmps.getD 2 undef=.slice j7 M V/\a.tmps.getD 31 undef=.slice c6 N c5/\a.tmps.getD 32 undef=.int .i64 N/\a.tmps.getD 33 undef=.int .i64 k)/\Qw ((us.map wE).take k)=0/\Ext w m7)
  (fun a _=>N - (intOf (a.tmps.getD 33 undef)).toNat) ?_ ?_
 ·exact⟨0,by omega,rfl,⟨rfl,rfl,rfl,rfl,rfl,rfl,rfl⟩,rfl,C.out⟩
 clear C;rintro⟨f6,_⟩ m7 ⟨k,y2,e7,⟨a9,n0,S,U,n3,n4,n5⟩,j0,a0⟩;subst e7;obtain⟨f7,I⟩:=Qq a9;obtain⟨c,rfl⟩:∃ o,o=f7:=⟨_,rfl⟩;have f3:f6=#[c 0,c 1,c 2,c 3,c 4,c 5,c 6,c 7,c 8,c 9,c 10,c 11,c 12,c 13,c 14,c 15,c 16,c 17,c 18,c 19,c 20,c 21,c 22,c 23,c 24,c 25,c 26,c 27,c 28,c 29,c 30,c 31,c 32,c 33,c 34,c 35,c 36,c 37,c 38,c 39,c 40,c 41,c 42,c 43,c 44,c 45,c 46,c 47,c 48,c 49,c 50,c 51,c 52,c 53,c 54,c 55,c 56,c 57,c 58,c 59,c 60,c 61,c 62,c 63,c 64,c 65,c 66,c 67,c 68,c 69,c 70,c 71,c 72,c 73,c 74,c 75,c 76,c 77,c 78,c 79,c 80,c 81,c 82,c 83,c 84,c 85,c 86,c 87,c 88,c 89,c 90,c 91,c 92,c 93,c 94,c 95,c 96,c 97,c 98,c 99,c 100,c 101,c 102,c 103,c 104,c 105,c 106,c 107,c 108,c 109,c 110,c 111,c 112,c 113,c 114,c 115,c 116,c 117,c 118]:=I;clear I;subst f3;change c 0=_ at n0;change c 1=_ at S;change c 2=_ at U;change c 31=_ at n3;change c 32=_ at n4;change c 33=_ at n5;rw [n0,S,U,n3,n4,n5];clear n0 S U n3 n4 n5 a9;have j9:=Zh j0;have B:=Zh a0;clear j0 a0;by_cases q2:k<N;case pos=>
  have F:(k:Int)<(N:Int):=by omega
  have C9:(0:Int)<=(k:Int):=by omega
  have y3:k<us.length:=by rw [t6.out];exact q2
  have q1:k<(us.map wE).length:=by rw [u6.out];exact q2
  obtain⟨F3,a7,z5⟩:=C1.out;rw [t6.out] at a7;obtain⟨m,H1,F9,g7,j2,p5⟩:=Zb (a7.ext B.out) q2;simp only [zV,true_and] at g7;obtain⟨rfl,rfl⟩:=g7;obtain⟨H8,H6,z2,z6⟩:=Lk z5 y3;rw [z2] at p5;have l7:=Fu (z6.ext B.out);have l8:=Hn q1 j9.out;have j1:=Dc q1 j9.out;rw [List.getElem_map] at l8 j1;rw [m6.out] at j1;obtain⟨o,m1⟩:=zE (wE us[k]);rw [m1] at l7 l8 j1;obtain⟨H7,z8⟩:=zE (us[k].length);rw [z8] at p5 l7;obtain⟨s1,A8,A7⟩:=Zh3 l7 l8 j1;clear l7 l8 j1 a7 z5 z2 z6 m1 z8 j2 y3 q1;go_wp2_with fail;refine s1.out.mono ?_;rintro e F6 ⟨rfl,b4⟩;have C:=Zh (B.out.trans b4);clear s1 b4 p5 B;by_cases t:o=0;case neg=>
   have g6:(o != 0)=true:=by simpa using t
   have F1:=A7.out t;subst F1;have a7:=v2.out t;subst a7;have f1:=g9.out t;subst f1;go_wp2;refine bodyPost_ret (Qt rfl _ _ _) rfl ⟨_,_,rfl,World.ownsRow_nil _ _ _ _,C.out⟩
  subst t;go_wp2;exact⟨⟨k+1,by omega,by first | trivial | rfl,⟨rfl,rfl,rfl,rfl,rfl,rfl,rfl⟩,A8.out,C.out⟩,nz⟩
 obtain rfl:k=N:=by omega
 have F:¬ (k:Int)<(k:Int):=by omega
 have j0:=j9.out;rw [List.take_of_length_le (by rw [u6.out];exact Nat.le_refl _),m6.out] at j0;subst j0;have a7:=v4.out uz;subst a7;have m0:=t4.out uz;have B3:=Zh m0;clear v2 v4 t4 m0 j9 m6;go_wp2_with fail;refine(r6.out m7 B.out).mono ?_;rintro e J ⟨rfl,b5⟩;have c8:=Zh (B.out.trans b5);clear r6 b5 B F;by_cases t:v5=0;case neg=>
  have g6:(v5 != 0)=true:=by simpa using t
  have f1:=g9.out t;subst f1;go_wp2;refine bodyPost_ret (Qt rfl _ _ _) rfl ⟨_,_,rfl,World.ownsRow_nil _ _ _ _,c8.out⟩
 subst t;have F2:=b9.out uz;subst F2;obtain⟨y7,D0,b2⟩:=u0.out uz;rw [m4.out] at D0;have B4:=Zh y7;have t9:=Zh b2;clear y7 b2 b9 u0 g9;obtain⟨b3,x2⟩:=zE w.heap.size;have g0:=Zh x2;have D4:b3<=J.heap.size:=by have:=c8.out.size;omega
 clear x2;have E4:(Instr.makeMap 100 none).run Tryz.prog J=.ok (.map (some J.heap.size)) (J.alloc (.map #[] 0)):=rfl;have E5:(Instr.makeMap 100 none).run Tryz.prog (J.alloc (.map #[] 0))=.ok (.map (some (J.alloc (.map #[] 0)).heap.size)) ((J.alloc (.map #[] 0)).alloc (.map #[] 0)):=rfl;obtain⟨f,e3⟩:=zE J.heap.size;have E9:(J.alloc (.map #[] 0)).heap.size=f+1:=by simp [e3]
 have y4:Yl Tryz.prog 9 3 (J.alloc (.map #[] 0)) f 0 (fun _=>none) 0:=Yl.made rfl e3;have y5:Yl Tryz.prog 9 3 ((J.alloc (.map #[] 0)).alloc (.map #[] 0)) (f+1) 0 (fun _=>none) 0:=Yl.made rfl E9;obtain⟨c7,f4⟩:=zE (((J.alloc (.map #[] 0)).alloc (.map #[] 0)).alloc (.cells #[.slice lo n lc,.map (some f),.map (some (f+1))] 125));have w2:Ext J c7:=by rw [<-f4];exact(((Qa.refl _ J).alloc _).alloc _).alloc _
 have x9:c7.heap[f+2]?=some (.cells #[.slice lo n lc,.map (some f),.map (some (f+1))] 125 (0,0)):=by rw [<-f4];exact new_at (by simp [e3])
 have j4:JAt Tryz.prog 9 3 l c7 f (f+1) [] 0:=by
  have C7:Ext (J.alloc (.map #[] 0)) c7:=by rw [<-f4];exact((Qa.refl _ _).alloc _).alloc _
  have C8:Ext ((J.alloc (.map #[] 0)).alloc (.map #[] 0)) c7:=by rw [<-f4];exact(Qa.refl _ _).alloc _
  exact⟨_,_,0,y4.keep C7 id,y5.keep C8 id,JOk.start l,Nat.le_refl _⟩
 have z0:c7.heap.size=f+3:=by rw [<-f4];simp [e3]
 obtain⟨u5,B1,a1,k0,j8,m5⟩:=Zh6 f4 e3 x9 j4 (c8.out.trans w2) z0;have G5:b3<=f:=by omega
 clear f4 y4 y5 w2 x9 j4 z0 c8;go_upto_region 17 with (fail)
 rw [show f+1+1=f+2 from rfl,u5.out];clear E4 E5 u5;have x3:b3<=c7.heap.size:=by rw [m5.out];omega
 go_wp2_with (at_make;refine Yu rfl (.tmp 53) (.tmp 53) 36 rfl b3 3 _ 8 Tryz.underlying36 Tryz.infoD rfl .i64 .i64 M M M rfl rfl rfl rfl ?c1 ?c2 x3 ?_)
 case c1=>omega
 case c2=>unfold maxLen;omega
 intro H4 l0 k7;rw [<-Q9y M] at l0;obtain⟨m,j2⟩:=zE c7.heap.size;rw [j2] at l0 ⊢;have x7:m=f+3:=by rw [<-j2];exact m5.out
 obtain⟨t8,s4,s7,t0,c9⟩:=Zh5 l0 (j8.out.trans k7) (k0.out.keep k7 id id) (k7.keep a1.out) x7;clear l0 k7 j2 x3 j8 k0 a1 m5 B1 D4 x7;go_wp2
 refine wp_loop (fun a r=>∃(i:Nat) (K:List (List UInt8)),i<=M/\a.defers=[]/\(a.tmps.size=119/\a.tmps.getD 1 undef=.slice c6 k c5/\a.tmps.getD 2 undef=.slice j7 M V/\a.tmps.getD 13 undef=.pointer (some ⟨f+2,0,none⟩)/\a.tmps.getD 14 undef=.slice (some ⟨m,0,none⟩) M M/\a.tmps.getD 55 undef=.slice j7 M V/\a.tmps.getD 56 undef=.int .i64 M/\a.tmps.getD 57 undef=.int .i64 i)/\r.ownsRow b3 3 1 (.slice (some ⟨m,0,none⟩) M M) M (Xv M (Vn q i))/\JAt Tryz.prog 9 3 l r f (f+1) K (i*32768)/\r.heap[f+2]?=some (.cells #[.slice lo n lc,.map (some f),.map (some (f+1))] 125 (0,0))/\Ext w r)
  (fun a _=>M - (intOf (a.tmps.getD 57 undef)).toNat) ?_ ?_
 ·exact⟨0,[],by omega,rfl,⟨rfl,rfl,rfl,rfl,rfl,rfl,rfl,rfl⟩,t8.out,s7.out,t0.out,s4.out⟩
 clear t8 s7 t0 s4;rintro⟨f6,_⟩ r ⟨i,K,G7,e7,⟨a9,S,U,a2,a3,a4,a5,a6⟩,b1,e2,i3,a0⟩;subst e7;obtain⟨f7,I⟩:=Qq a9;obtain⟨c,rfl⟩:∃ o,o=f7:=⟨_,rfl⟩;have f3:f6=#[c 0,c 1,c 2,c 3,c 4,c 5,c 6,c 7,c 8,c 9,c 10,c 11,c 12,c 13,c 14,c 15,c 16,c 17,c 18,c 19,c 20,c 21,c 22,c 23,c 24,c 25,c 26,c 27,c 28,c 29,c 30,c 31,c 32,c 33,c 34,c 35,c 36,c 37,c 38,c 39,c 40,c 41,c 42,c 43,c 44,c 45,c 46,c 47,c 48,c 49,c 50,c 51,c 52,c 53,c 54,c 55,c 56,c 57,c 58,c 59,c 60,c 61,c 62,c 63,c 64,c 65,c 66,c 67,c 68,c 69,c 70,c 71,c 72,c 73,c 74,c 75,c 76,c 77,c 78,c 79,c 80,c 81,c 82,c 83,c 84,c 85,c 86,c 87,c 88,c 89,c 90,c 91,c 92,c 93,c 94,c 95,c 96,c 97,c 98,c 99,c 100,c 101,c 102,c 103,c 104,c 105,c 106,c 107,c 108,c 109,c 110,c 111,c 112,c 113,c 114,c 115,c 116,c 117,c 118]:=I;clear I;subst f3;change c 1=_ at S;change c 2=_ at U;change c 13=_ at a2;change c 14=_ at a3;change c 55=_ at a4;change c 56=_ at a5;change c 57=_ at a6;rw [S,U,a2,a3,a4,a5,a6];clear S U a2 a3 a4 a5 a6 a9;obtain⟨u,d0,a1,B⟩:=Zh4 b1 e2 i3 a0;clear b1 e2 i3 a0;by_cases g3:i<M;case neg=>
  obtain rfl:i=M:=by omega
  have F:¬ (i:Int)<(i:Int):=by omega
  have g:=u.out;rw [Qcu (Kq q i)] at g;have X:=Zh g;clear g u d0 a1;go_wp2;refine bodyPost_ret (Qt rfl _ _ _) rfl ⟨some ⟨m,0,none⟩,i,by rw [Kq];rfl,by rw [Kq,g0.out];exact X.out,B.out⟩
 have F:(i:Int)<(M:Int):=by omega
 have C9:(0:Int)<=(i:Int):=by omega
 have j3:i<ss.length:=by rw [m4.out];exact g3
 obtain⟨e1,f5,G0,g7,p9,e5,e6⟩:=(i0.out.ext B.out).at j3;simp only [zV] at g7;obtain⟨rfl,t,rfl⟩:=g7;clear t;have e8:ss.getD i (0,0)=ss[i]:=by rw [List.getD_eq_getElem?_getD,List.getElem?_eq_getElem j3];rfl
 have b2:okS (ss.getD i (0,0))=true:=by rw [e8];exact t9.out _ (List.getElem_mem j3)
 have e9:Qm (ss.getD i (0,0)):=by rw [e8];exact i0.out.2 _ (List.getElem_mem j3)
 have p0:∀ k,q i k=apL l us (ss.getD i (0,0)) (ss.getD k (0,0)):=A1.out i;have q7:∀ k,k<i->ss.getD i (0,0)≠ss.getD k (0,0):=fun k y2=>Q09 B4.out j3 y2;obtain⟨⟨y,A⟩,a8⟩:=zE (ss.getD i (0,0));rw [a8] at e5 e6 b2 e9;simp only [a8] at p0 q7;dsimp only at e5 e6;have A2:=Zh p0;have B6:=Zh q7;have B8:Hid (okS (y,A)=true):=Zh b2;have B7:Hid (Qm (y,A)):=Zh e9;clear e8 b2 e9 p0 q7 a8 p9;obtain⟨d4,i8⟩:=zE (r.alloc (.cells #[.int .u32 (y:Int),.int .u32 (A:Int)] 26));obtain⟨b0,i9⟩:=zE r.heap.size;have Y:Ext r d4:=by rw [<-i8];exact(Qa.refl _ _).alloc _
 have v7:d4.heap[b0]?=some (.cells #[.int .u32 (y:Int),.int .u32 (A:Int)] 26 (0,0)):=by rw [<-i8];exact new_at i9.symm
 have x8:m<b0:=by rw [<-i9];exact(u.out.lt m rfl).2
 have b6:=Qe u.out Y;have b7:(Xv M (Vn q i)).length=M:=Tg (by rw [Kq];omega);obtain⟨c1,c2⟩:=Rl b6 g3 (Dv (by rw [b7];exact g3));obtain⟨H5,z7⟩:=zE ((Xv M (Vn q i)).getD i undef);rw [z7] at c1;have f2:=Y6 b6 i (.int .i64 (i:Int));rw [Q9m (Kq q i) g3,<-Ni q i] at f2;have g2:=Qa.set1 d4 m i (.int .i64 (i:Int));have k9:=(show f≠m/\f+1≠m/\f+2≠m by have:=c9.out;omega);have o0:=(d0.out.keep Y id id).keep g2 k9.1 k9.2.1;have o1:=g2.heap (Y.keep a1.out) k9.2.2;have p3:=g2.heap v7 oz;have b4:Ext w (d4.setCell ⟨m,i,none⟩ (.int .i64 (i:Int))):=(B.out.trans Y).after g2 (fun b e4 e=>by have:=g0.out;have:=c9.out;omega);have E8:=g2.size;have F0:d4.heap.size=b0+1:=by rw [<-i8];simp [i9]
 have o7:b0+1<=(d4.setCell ⟨m,i,none⟩ (.int .i64 (i:Int))).heap.size:=by omega
 obtain⟨C6,o6⟩:=zE (d4.setCell ⟨m,i,none⟩ (.int .i64 (i:Int)));rw [o6] at f2 o0 o1 p3 b4 o7;obtain⟨u3,C3,u4,X,d1,b8,f8,C⟩:=Zh8 i8 i9 o6 f2 o0 o1 p3 b4;have m3:=Zh x8;have C4:=Zh o7;clear i8 i9 o6 Y v7 b6 b7 z7 f2 g2 o0 o1 p3 b4 E8 u d0 a1 B x8 o7 k9 F0;go_upto_region 21 with (fail)
 rw [C3.out,u3.out];clear u3 e5 e6;go_upto_region 22 with (fail)
 rw [u4.out];clear u4 c1 c2;have E1:(i:Int)<=(V:Int):=by have:=A5.out;omega
 go_wp2;have D3:Qd C6 (.slice (some ⟨e1,f5,none⟩) M V) ss:=i0.out.ext C.out;clear E1 F
 refine wp_loop (fun a R=>∃(k':Nat) (K:List (List UInt8)),k'<=i/\a.defers=[]/\(a.tmps.size=119/\a.tmps.getD 1 undef=.slice c6 k c5/\a.tmps.getD 2 undef=.slice (some ⟨e1,f5,none⟩) M V/\a.tmps.getD 13 undef=.pointer (some ⟨f+2,0,none⟩)/\a.tmps.getD 14 undef=.slice (some ⟨m,0,none⟩) M M/\a.tmps.getD 15 undef=.int .i64 i/\a.tmps.getD 16 undef=.pointer (some ⟨b0,0,none⟩)/\a.tmps.getD 55 undef=.slice (some ⟨e1,f5,none⟩) M V/\a.tmps.getD 56 undef=.int .i64 M/\a.tmps.getD 57 undef=.int .i64 i/\a.tmps.getD 68 undef=.slice (some ⟨e1,f5,none⟩) i V/\a.tmps.getD 69 undef=.int .i64 i/\a.tmps.getD 70 undef=.int .i64 k')/\R.ownsRow b3 3 1 (.slice (some ⟨m,0,none⟩) M M) M (Xv M (Vy q i (Vn q i) k'))/\JAt Tryz.prog 9 3 l R f (f+1) K (i*32768+k'*2048)/\R.heap[f+2]?=some (.cells #[.slice lo n lc,.map (some f),.map (some (f+1))] 125 (0,0))/\R.heap[b0]?=some (.cells #[.int .u32 (y:Int),.int .u32 (A:Int)] 26 (0,0))/\Ext w R)
  (fun a _=>i - (intOf (a.tmps.getD 70 undef)).toNat) ?_ ?_
 ·exact⟨0,K,by omega,rfl,⟨rfl,rfl,rfl,rfl,rfl,rfl,rfl,rfl,rfl,rfl,rfl,rfl,rfl⟩,X.out,d1.out,b8.out,f8.out,C.out⟩
 clear X d1 b8 f8 C D3 C4;rintro⟨f6,_⟩ R ⟨j,K,g7,e7,⟨a9,S,U,a2,a3,d6,d7,a4,a5,a6,d8,d9,e0⟩,b1,e2,i3,w0,a0⟩;subst e7;obtain⟨f7,I⟩:=Qq a9;obtain⟨c,rfl⟩:∃ o,o=f7:=⟨_,rfl⟩;have f3:f6=#[c 0,c 1,c 2,c 3,c 4,c 5,c 6,c 7,c 8,c 9,c 10,c 11,c 12,c 13,c 14,c 15,c 16,c 17,c 18,c 19,c 20,c 21,c 22,c 23,c 24,c 25,c 26,c 27,c 28,c 29,c 30,c 31,c 32,c 33,c 34,c 35,c 36,c 37,c 38,c 39,c 40,c 41,c 42,c 43,c 44,c 45,c 46,c 47,c 48,c 49,c 50,c 51,c 52,c 53,c 54,c 55,c 56,c 57,c 58,c 59,c 60,c 61,c 62,c 63,c 64,c 65,c 66,c 67,c 68,c 69,c 70,c 71,c 72,c 73,c 74,c 75,c 76,c 77,c 78,c 79,c 80,c 81,c 82,c 83,c 84,c 85,c 86,c 87,c 88,c 89,c 90,c 91,c 92,c 93,c 94,c 95,c 96,c 97,c 98,c 99,c 100,c 101,c 102,c 103,c 104,c 105,c 106,c 107,c 108,c 109,c 110,c 111,c 112,c 113,c 114,c 115,c 116,c 117,c 118]:=I;clear I;subst f3;change c 1=_ at S;change c 2=_ at U;change c 13=_ at a2;change c 14=_ at a3;change c 15=_ at d6;change c 16=_ at d7;change c 55=_ at a4;change c 56=_ at a5;change c 57=_ at a6;change c 68=_ at d8;change c 69=_ at d9;change c 70=_ at e0;rw [S,U,a2,a3,d6,d7,a4,a5,a6,d8,d9,e0];clear S U a2 a3 d6 d7 a4 a5 a6 d8 d9 e0 a9;obtain⟨u,d0,a1,f8,B⟩:=Zh5 b1 e2 i3 w0 a0;clear b1 e2 i3 w0 a0;by_cases E7:j<i;case neg=>
  obtain rfl:j=i:=by omega
  have F:¬ (j:Int)<(j:Int):=by omega
  have g:=u.out;rw [<-Ds] at g;have X:=Zh g;clear g u;go_wp2;exact⟨⟨j+1,by omega,by simp,X.out,⟨K,d0.out.mono oz⟩,a1.out,B.out⟩,nz⟩
 have F:(j:Int)<(i:Int):=by omega
 have Z:(0:Int)<=(j:Int):=by omega
 have G8:(i:Int)<(M:Int):=by omega
 have H0:(j:Int)<(M:Int):=by omega
 have j5:j<ss.length:=by rw [m4.out];omega
 obtain⟨G2,H2,G1,y8,p9,e5,e6⟩:=(i0.out.ext B.out).at j5;simp only [zV,Option.some.injEq,Addr.mk.injEq,and_true] at y8;obtain⟨⟨rfl,rfl⟩,t,rfl⟩:=y8;clear t;have e8:ss.getD j (0,0)=ss[j]:=by rw [List.getD_eq_getElem?_getD,List.getElem?_eq_getElem j5];rfl
 have b2:okS (ss.getD j (0,0))=true:=by rw [e8];exact t9.out _ (List.getElem_mem j5)
 have e9:Qm (ss.getD j (0,0)):=by rw [e8];exact i0.out.2 _ (List.getElem_mem j5)
 have g6:=B6.out j E7;have p1:=A2.out j;obtain⟨⟨G,H⟩,a8⟩:=zE (ss.getD j (0,0));rw [a8] at e5 e6 b2 e9 g6 p1;dsimp only at e5 e6;have C0:Hid (okS (G,H)=true):=Zh b2;have B9:Hid (Qm (G,H)):=Zh e9;have B5:Hid ((y,A)≠(G,H)):=Zh g6;have A3:=Zh p1;clear e8 b2 e9 g6 p1 a8 p9 j5;obtain⟨g1,l2⟩:=zE (R.alloc (.cells #[.int .u32 (G:Int),.int .u32 (H:Int)] 26));obtain⟨k5,o8⟩:=zE R.heap.size;have Y:Ext R g1:=by rw [<-l2];exact(Qa.refl _ _).alloc _
 have v8:g1.heap[k5]?=some (.cells #[.int .u32 (G:Int),.int .u32 (H:Int)] 26 (0,0)):=by rw [<-l2];exact new_at o8.symm
 obtain⟨L,i5⟩:=zE (Vy q i (Vn q i) j);have w6:L.length=i+1:=by rw [<-i5,Ri,Kq]
 have w7:∀ o∈L,o<=i:=by rw [<-i5];exact Su q i (fun o m1=>Q2v q i o m1) j
 have y9:Vy q i (Vn q i) (j+1)=Hc q i L j:=by rw [Ws,i5]
 have b6:=Qe u.out Y;rw [i5] at b6;have l3:=Tf (N:=M) (L:=L) (i:=i) oz;have e4:=Tf (N:=M) (L:=L) (i:=j) oz;have l9:∀ p,p<L.length->L.getD p 0<=i:=fun p q0=>by rw [List.getD_eq_getElem?_getD,List.getElem?_eq_getElem q0];exact w7 _ (List.getElem_mem q0)
 have D5:=l9 i oz;have D7:=l9 j oz;have b7:(Xv M L).length=M:=Tg oz;have m8:=(Rl b6 (i:=i) g3 (Dv (by rw [b7];exact g3))).1;have m9:=(Rl b6 (i:=j) oz (Dv (by rw [b7];omega))).1;rw [l3] at m8;rw [e4] at m9;obtain⟨v,q4⟩:=zE (L.getD i 0);obtain⟨x,q5⟩:=zE (L.getD j 0);rw [q4] at m8 D5;rw [q5] at m9 D7;obtain⟨u2,u7,t7,k4,k1,t1,t2,A9⟩:=Zh8 l2 o8 b6 y9 w6 q4 q5 l9;obtain⟨s5,s8,r8,s3,s0⟩:=Zh5 (d0.out.keep Y id id) (Y.keep a1.out) (Y.keep f8.out) (B.out.trans Y) v8;have w5:f+2<k5/\b0<k5:=by
  have F7:=(Array.getElem?_eq_some_iff.1 a1.out).1;have F8:=(Array.getElem?_eq_some_iff.1 f8.out).1;omega
 have B2:=Zh w5;clear l2 o8 Y v8 i5 w6 w7 y9 b6 l3 e4 l9 b7 q4 q5 u d0 a1 f8 B w5;go_upto_region 25 with (fail)
 rw [u7.out,u2.out];clear u2 u7 e5 e6
 go_quiet (fail)
 have d5:Ext g1 (g1.drewN nq):=(Qa.refl _ g1).drewN _;obtain⟨X,d1,b8,g8,C,m2⟩:=Zh6 (Qe t7.out d5) (s5.out.keep d5 id id) (d5.keep s8.out) (d5.keep r8.out) (s3.out.trans d5) (d5.keep s0.out);obtain⟨C5,x1⟩:=zE (g1.drewN nq);rw [x1] at X d1 b8 g8 C m2 ⊢;clear d5 x1 m8 m9 t7 s5 s8 r8 s3 s0;by_cases l4:v=x
 ·have D6:((v:Int) ==(x:Int))=true:=by simp;omega
  have j6:Hc q i L j=L:=Cb (.inr (by rw [t1.out,t2.out];exact l4));have g:=X.out;rw [<-j6,<-k4.out] at g;have f9:=Zh g;clear g j6 l4 X;go_wp2;exact⟨⟨j+1,K,by omega,tz,⟨rfl,rfl,rfl,rfl,rfl,rfl,rfl,rfl,rfl,rfl,rfl,rfl,rfl⟩,f9.out,d1.out.mono oz,b8.out,g8.out,C.out⟩,nz⟩
 have D6:((v:Int) ==(x:Int))=false:=by simp;omega
 have o3:k<=32:=by omega
 have y1:Pg C5 lo n lc f (f+1) (f+2) b0 k5 y A G H:=⟨b8.out,g8.out,m2.out,by have:=B2.out;have:=m3.out;have:=c9.out;omega⟩;have p7:=A6.out C.out (by have:=g0.out;omega) (by have:=g0.out;omega) oz B7.out B9.out B8.out C0.out B5.out y1 d1.out oz o3 B3.out;rw [<-A3.out] at p7;have s2:=Zh p7;clear y1 p7;go_wp2_with fail;refine s2.out.mono ?_;rintro e v6 ⟨u8,rfl,w3,i7⟩;have w8:=Qs X.out i7 (fun z t e=>by simp only [Value.ownBlock,Option.some.injEq] at t;have:=c9.out;omega);have w4:=i7.heap b8.out oz;have w1:=i7.heap g8.out (by have:=m3.out;have:=c9.out;omega);have b5:Ext w v6:=C.out.after i7 (fun b e4 e=>by have:=g0.out;omega);obtain⟨z9,n9⟩:=zE (q i j);rw [n9];obtain⟨r7,f9,s6,s9,r9,c8⟩:=Zh6 n9 w8 (w3.mono (d:=i*32768+(j+1)*2048) oz) w4 w1 b5;clear n9 w8 w3 w4 w1 b5 i7 s2 X d1 b8 g8 C m2;cases z9;case true=>
  have j6:Hc q i L j=L:=Cb (.inl r7.out);have g:=f9.out;rw [<-j6,<-k4.out] at g;have k3:=Zh g;clear g j6 f9;go_wp2;exact⟨⟨j+1,K++u8,by omega,tz,⟨rfl,rfl,rfl,rfl,rfl,rfl,rfl,rfl,rfl,rfl,rfl,rfl,rfl⟩,k3.out,s6.out,s9.out,r9.out,c8.out⟩,nz⟩
 have z1:Hc q i L j=Vq L v x:=by rw [Q72 r7.out,t1.out,t2.out]
 have g:=f9.out;rw [<-Qbg L v x] at g;have C2:=Zh (k4.out.trans z1);have k3:=Zh g;have E2:(i:Int)+1<=(M:Int):=by omega
 have E3:(0:Int)<=(i:Int)+1:=by omega
 obtain⟨r3,y6⟩:=zE (min v x);have t5:=Zh y6;clear g z1 f9 k4 y6;go_wp2;clear E2 E3
 refine wp_loop (fun a R=>∃(p:Nat),p<=i+1/\a.defers=[]/\(a.tmps.size=119/\a.tmps.getD 1 undef=.slice c6 k c5/\a.tmps.getD 2 undef=.slice (some ⟨e1,f5,none⟩) M V/\a.tmps.getD 13 undef=.pointer (some ⟨f+2,0,none⟩)/\a.tmps.getD 14 undef=.slice (some ⟨m,0,none⟩) M M/\a.tmps.getD 15 undef=.int .i64 i/\a.tmps.getD 16 undef=.pointer (some ⟨b0,0,none⟩)/\a.tmps.getD 19 undef=.int .i64 v/\a.tmps.getD 20 undef=.int .i64 x/\a.tmps.getD 55 undef=.slice (some ⟨e1,f5,none⟩) M V/\a.tmps.getD 56 undef=.int .i64 M/\a.tmps.getD 57 undef=.int .i64 i/\a.tmps.getD 68 undef=.slice (some ⟨e1,f5,none⟩) i V/\a.tmps.getD 69 undef=.int .i64 i/\a.tmps.getD 70 undef=.int .i64 j/\a.tmps.getD 94 undef=.slice (some ⟨m,0,none⟩) (i+1) M/\a.tmps.getD 95 undef=.int .i64 ((i:Int)+1)/\a.tmps.getD 96 undef=.int .i64 p)/\R.ownsRow b3 3 1 (.slice (some ⟨m,0,none⟩) M M) M (Xv M (Vh L v x p))/\Qa (fun b=>b=m) v6 R)
  (fun a _=>i+1 - (intOf (a.tmps.getD 96 undef)).toNat) ?_ ?_
 ·exact⟨0,by omega,rfl,⟨rfl,rfl,rfl,rfl,rfl,rfl,rfl,rfl,rfl,rfl,rfl,rfl,rfl,rfl,rfl,by first | rfl | (simp;done) | (simp;omega),by first | rfl | (simp;done) | (simp;omega),rfl⟩,k3.out,Qa.refl _ _⟩
 clear k3;rintro⟨f6,_⟩ R ⟨p,q0,e7,⟨a9,S,U,a2,a3,d6,d7,n1,n2,a4,a5,a6,d8,d9,e0,n6,n7,n8⟩,b1,w9⟩;subst e7;obtain⟨f7,I⟩:=Qq a9;obtain⟨c,rfl⟩:∃ o,o=f7:=⟨_,rfl⟩;have f3:f6=#[c 0,c 1,c 2,c 3,c 4,c 5,c 6,c 7,c 8,c 9,c 10,c 11,c 12,c 13,c 14,c 15,c 16,c 17,c 18,c 19,c 20,c 21,c 22,c 23,c 24,c 25,c 26,c 27,c 28,c 29,c 30,c 31,c 32,c 33,c 34,c 35,c 36,c 37,c 38,c 39,c 40,c 41,c 42,c 43,c 44,c 45,c 46,c 47,c 48,c 49,c 50,c 51,c 52,c 53,c 54,c 55,c 56,c 57,c 58,c 59,c 60,c 61,c 62,c 63,c 64,c 65,c 66,c 67,c 68,c 69,c 70,c 71,c 72,c 73,c 74,c 75,c 76,c 77,c 78,c 79,c 80,c 81,c 82,c 83,c 84,c 85,c 86,c 87,c 88,c 89,c 90,c 91,c 92,c 93,c 94,c 95,c 96,c 97,c 98,c 99,c 100,c 101,c 102,c 103,c 104,c 105,c 106,c 107,c 108,c 109,c 110,c 111,c 112,c 113,c 114,c 115,c 116,c 117,c 118]:=I;clear I;subst f3;change c 1=_ at S;change c 2=_ at U;change c 13=_ at a2;change c 14=_ at a3;change c 15=_ at d6;change c 16=_ at d7;change c 19=_ at n1;change c 20=_ at n2;change c 55=_ at a4;change c 56=_ at a5;change c 57=_ at a6;change c 68=_ at d8;change c 69=_ at d9;change c 70=_ at e0;change c 94=_ at n6;change c 95=_ at n7;change c 96=_ at n8;rw [S,U,a2,a3,d6,d7,n1,n2,a4,a5,a6,d8,d9,e0,n6,n7,n8];clear S U a2 a3 d6 d7 n1 n2 a4 a5 a6 d8 d9 e0 n6 n7 n8 a9;have u:=Zh b1;have d3:=Zh w9;clear b1 w9;by_cases G9:p<i+1;case neg=>
  obtain rfl:p=i+1:=by omega
  have i2:¬ ((i+1:Nat):Int)<(i:Int)+1:=by omega
  have g:=u.out;rw [Qfs v x (by rw [k1.out];exact Nat.le_refl _),<-C2.out] at g;have i4:f≠m/\f+1≠m/\f+2≠m/\b0≠m:=by have:=c9.out;have:=m3.out;omega
  have j4:=s6.out.keep d3.out i4.1 i4.2.1;have y0:=d3.out.heap s9.out i4.2.2.1;have x4:=d3.out.heap r9.out i4.2.2.2;have x6:Ext w R:=c8.out.after d3.out (fun b e4 e=>by have:=g0.out;have:=c9.out;omega);obtain⟨d2,k0,B0,A4,j8⟩:=Zh5 g j4 y0 x4 x6;clear g i4 j4 y0 x4 x6 u d3;go_wp2;exact⟨⟨j+1,by omega,by simp,d2.out,⟨K++u8,k0.out⟩,B0.out,A4.out,j8.out⟩,nz⟩
 have i2:(p:Int)<(i:Int)+1:=by omega
 have G3:(0:Int)<=(p:Int):=by omega
 have G4:(p:Int)<(M:Int):=by omega
 have g4:p<L.length:=by rw [k1.out];omega
 have p8:=Tf (N:=M) (L:=Vh L v x p) (i:=p) (by rw [Rk];exact g4);rw [Qf6 v x g4] at p8;have b7:(Xv M (Vh L v x p)).length=M:=Tg (by rw [Rk,k1.out];omega);obtain⟨v9,G6⟩:=Rl u.out (i:=p) oz (Dv (by rw [b7];omega));rw [p8] at v9;have E0:=A9.out p g4;have c4:=Qg3 (N:=M) (a:=v) (b:=x) g4 (by rw [k1.out];omega);have q9:=Qht (a:=v) (b:=x) g4;obtain⟨W,l5⟩:=zE (L.getD p 0);rw [l5] at v9 E0 c4 q9;rw [t5.out] at c4;have E6:min (v:Int) (x:Int)=(r3:Int):=by have:=t5.out;omega
 have f2:=Y6 u.out p (.int .i64 (r3:Int));have x0:=d3.out.trans (Qa.set1 R m p (.int .i64 (r3:Int)));obtain⟨b9,k2,i1,u1⟩:=Zh4 c4 q9 f2 x0;clear c4 q9 f2 x0 p8 b7 l5 g4;by_cases l6:W=v
 ·have D8:((W:Int) ==(v:Int))=true:=by simp;omega
  have g:=i1.out;rw [b9.out (.inl l6)] at g;have d2:=Zh g;clear g l6 u i1 b9 k2;go_wp2;exact⟨⟨p+1,by omega,tz,⟨rfl,rfl,rfl,rfl,rfl,rfl,rfl,rfl,rfl,rfl,rfl,rfl,rfl,rfl,rfl,rfl,rfl,rfl⟩,d2.out,u1.out⟩,nz⟩
 have D8:((W:Int) ==(v:Int))=false:=by simp;omega
 by_cases p4:W=x
 ·have D9:((W:Int) ==(x:Int))=true:=by simp;omega
  have g:=i1.out;rw [b9.out (.inr p4)] at g;have d2:=Zh g;clear g l6 p4 u i1 b9 k2;go_wp2;exact⟨⟨p+1,by omega,tz,⟨rfl,rfl,rfl,rfl,rfl,rfl,rfl,rfl,rfl,rfl,rfl,rfl,rfl,rfl,rfl,rfl,rfl,rfl⟩,d2.out,u1.out⟩,nz⟩
 have D9:((W:Int) ==(x:Int))=false:=by simp;omega
 have g:=u.out;rw [<-k2.out oz] at g;have d2:=Zh g;clear g l6 p4 u i1 b9 k2 E6;go_wp2;exact⟨⟨p+1,by omega,tz,⟨rfl,rfl,rfl,rfl,rfl,rfl,rfl,rfl,rfl,rfl,rfl,rfl,rfl,rfl,rfl,rfl,rfl,rfl⟩,d2.out,d3.out⟩,nz⟩
end Go.Proofs.YtejenndedjabhaaGreatDoor
