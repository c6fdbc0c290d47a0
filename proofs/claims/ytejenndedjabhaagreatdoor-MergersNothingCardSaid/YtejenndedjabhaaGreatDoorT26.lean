/- mergers.Conditioned. MergersNothing: the plain law. ablautlaw15.MergersNothing: the walk. -/
import Derived.Test.YtejenndedjabhaaGreatDoorT21
import Derived.Test.YtejenndedjabhaaGreatDoorT22
set_option maxRecDepth 100000
set_option maxHeartbeats 16000000
namespace Go.Proofs.YtejenndedjabhaaGreatDoor
open Go.RowKit Go.Ab
attribute [local go_sem] Oper.semAt_some Y5 Z9
def Sb(ls:List Qg)(fr:List (Wd × Wd)) (s:Nat × Nat):Bool:=if Jr ls fr s=0 then Hf (We ls fr s) true && Hf (We ls fr s) false else false
theorem Qhn{w:World}{ps:Zl}{lo:Option Addr}{n lc:Nat}{fr:Q5v}{V:Option Addr}{m pc:Nat}{a c:Nat}(P:Zk w (.slice lo n lc) ps) (R:ps.length=n) (T:Lm w (.slice V m pc) fr) (Q:fr.length=m) (U:Qm (a,c)) (O:Tab w) :
  Calls Tryz.prog 42 #[.slice lo n lc,.slice V m pc,.agg #[.int .u32 (a:Int),.int .u32 (c:Int)]] w fun e w'=>e=.returned (.tuple #[.bool (Sb (ps.map (·.1)) (fr.map (·.1)) (a,c)),.int .i64 (Jr (ps.map (·.1)) (fr.map (·.1)) (a,c))])/\Ext w w':=by
 have f:=fun(d:World) (hE:Ext w d)=>Rn (P.ext hE) R (Bo T hE) Q U (O.keep hE id) (lc:=lc) (pc:=pc);have B:Jr (ps.map (·.1)) (fr.map (·.1)) (a,c)≠0->Sb (ps.map (·.1)) (fr.map (·.1)) (a,c)=false:=fun h=>if_neg h;have p:Jr (ps.map (·.1)) (fr.map (·.1)) (a,c)=0->Sb (ps.map (·.1)) (fr.map (·.1)) (a,c)=(Hf (We (ps.map (·.1)) (fr.map (·.1)) (a,c)) true && Hf (We (ps.map (·.1)) (fr.map (·.1)) (a,c)) false):=fun h=>if_pos h;obtain⟨K,v⟩:=zE (Jr (ps.map (·.1)) (fr.map (·.1)) (a,c));obtain⟨g,u⟩:=zE (We (ps.map (·.1)) (fr.map (·.1)) (a,c));obtain⟨a3,N⟩:=zE (Sb (ps.map (·.1)) (fr.map (·.1)) (a,c));rw [v,N] at B p ⊢;rw [u] at p;simp only [v,u] at f;have t:Ext w (w.alloc (.cells #[.int .u32 (a:Int),.int .u32 (c:Int)] 26)):=(Qa.refl _ w).alloc _;have i:(w.alloc (.cells #[.int .u32 (a:Int),.int .u32 (c:Int)] 26)).heap[w.heap.size]?=some (.cells #[.int .u32 (a:Int),.int .u32 (c:Int)] 26 (0,0)):=new_at rfl;obtain⟨j,F,G⟩:=Zh3 f B p;clear f B p v u N P R T Q U O;obtain⟨d,x⟩:=zE (w.alloc (.cells #[.int .u32 (a:Int),.int .u32 (c:Int)] 26));obtain⟨l,y⟩:=zE w.heap.size;rw [x] at t i;rw [y] at i;obtain⟨Y,I,q⟩:=Zh3 y x t;clear x y t;go_enter Tryz.func42,Tryz.ntmps42;go_upto_region 1 with (fail)
 rw [I.out,Y.out];clear I;have a1:d.cell? ⟨l,0,none⟩=some (.int .u32 (a:Int)):=by rw [cell_of_row _ _ _ _ _ _ i];rfl
 have a2:d.cell? ⟨l,1,none⟩=some (.int .u32 (c:Int)):=by rw [cell_of_row _ _ _ _ _ _ i];rfl
 clear i;go_wp2_with fail;refine(j.out d q.out).mono ?_;rintro e a6 ⟨a5,W,rfl,S,M⟩;have k:=Zh (Rd.of_own S);have r:=Zh (q.out.trans M);clear j M S a1 a2 q;by_cases D:K=0;case neg=>
  have a4:(K != 0)=true:=by simpa using D
  have C:=F.out D;subst C;go_wp2;refine bodyPost_ret (Qt rfl _ _ _) rfl ⟨rfl,r.out⟩
 subst D;have C:=G.out uz;subst C;obtain⟨J,o⟩:=zE g.length;rw [o] at k ⊢;have f:=Bd k.out o true (cap:=W);have s:=Bd k.out o false (cap:=W);obtain⟨L,z⟩:=zE (Hf g true);obtain⟨Z,A⟩:=zE (Hf g false);rw [z] at f;rw [A] at s;have j:=Zh f;have X:=Zh s;have H:Hid ((Hf g true && Hf g false)=(L && Z)):=Zh (by rw [z,A]);clear f s o z A F G k;go_wp2_with fail;refine j.out.mono ?_;rintro e a0 ⟨rfl,rfl⟩;cases L
 ·go_wp2;refine bodyPost_ret (Qt rfl _ _ _) rfl ⟨by rw [H.out];rfl,r.out⟩
 ·go_wp2_with fail;refine X.out.mono ?_;rintro e a0 ⟨rfl,rfl⟩;go_wp2;refine bodyPost_ret (Qt rfl _ _ _) rfl ⟨by rw [H.out];rfl,r.out⟩
theorem Qmf:∀ q:Nat,q<64->okS (q,63 - q)=true:=by decide
theorem Q76(n sh:Nat):∀ s∈Qz n sh,okS s=true:=fun s hs=>by
 obtain⟨i,_,rfl⟩:=List.mem_map.1 hs;exact Qmf _ (Nat.mod_lt _ zd)
theorem Q0y{sh i j:Nat}(b:i<64)(c:j<64)(h:Zc sh i=Zc sh j):i=j:=by
 unfold Zc at h;have a:=(Prod.mk.inj h).1;omega
theorem Q8c{n sh i:Nat}(h:i<n):(Qz n sh).getD i (0,0)=Zc sh i:=by
 rw [List.getD_eq_getElem?_getD];simp [Qz,h]
theorem Qcp{n sh:Nat}(a:n<=64):(Qz n sh).Nodup:=by
 unfold Qz;refine List.pairwise_map.2 ((List.pairwise_iff_getElem.2 fun i j hi hj hij e=>?_));rw [List.length_range] at hi hj;simp only [List.getElem_range] at e;have:=Q0y oz oz e;omega
theorem Q4y{n sh:Nat}(m:Nat)(a:n<=64)(b:n<=m):Yz (Qz n sh) m=0:=by
 unfold Yz;rw [if_neg (by rw [Y4];omega),if_pos (List.all_eq_true.2 (Q76 n sh)),if_pos (Qcp a)]
theorem Qaz{u:Wd}(h:wE u=0):Yp [] u=0/\Yv [] u=u:=Jy (ls:=[]) (by unfold Zw;rw [if_pos (show Z4 []=0 from rfl)];exact h) rfl
section
variable {a b:Wd} (ha:wE a=0) (hb:wE b=0) (hab:a.length+b.length<=31)
include ha hb hab
theorem Qfv{n sh:Nat}(g:n<=64):Y3 [] a b (Qz n sh)=0/\Yb [] a b (Qz n sh)=Zm a b (Qz n sh):=by
 have f:∀ c∈Qz n sh,Yp [] (Qp a b c)=0/\Yv [] (Qp a b c)=Qp a b c:=fun c d=>Qaz (Sj ha hb (Q76 n sh c d) hab);have e:Y3 [] a b (Qz n sh)=0:=by
  unfold Y3;rw [if_pos (by unfold Zt;rw [if_pos (show Z4 []=0 from rfl),if_pos ha];exact hb),if_pos (Q4y 64 g g)];have:∀ l:List Int,(∀ x∈l,x=0)->Qw l=0:=fun l h=>(Pe (fun x hx=>.inl (h x hx))).2.2 h;refine this _ fun x hx=>?_
  obtain⟨c,d,rfl⟩:=List.mem_map.1 hx;exact(f c d).1
 refine⟨e,?_⟩;unfold Yb Zm;rw [if_pos e];exact List.map_congr_left fun c d=>(f c d).2
end
theorem Mn{a b:Wd}{n sh i:Nat}(h:i<n):(Zm a b (Qz n sh)).getD i []=Qp a b (Zc sh i):=by
 rw [Rm (by rw [Y4];exact h)];simp [Qz]
theorem Q9e{a b:Wd}{n sh:Nat}(d:n<=64):Xp (Zm a b (Qz n sh))=List.range n:=by
 have c:(Zm a b (Qz n sh)).length=n:=by simp [Zm,Y4]
 unfold Xp;rw [c];conv=>rhs;rw [<-List.map_id (List.range n)]
 refine List.map_congr_left fun k hk=>?_
 rw [List.mem_range] at hk;refine(Q5e (Nat.le_refl k) rfl fun i hi e=>?_).symm;rw [Mn oz,Mn hk] at e;have:=Q0y oz oz (Ck e);omega
theorem Qef{a b:Wd}{n sh:Nat}(g:n<=64){k:Nat}(e:k<n):Xj (Zm a b (Qz n sh)) (Qp a b (Zc sh k)) n=(k:Int):=by
 rcases Wy (Zm a b (Qz n sh)) (Qp a b (Zc sh k)) n with ⟨_,c⟩ | ⟨i,f,c,d⟩
 ·exact absurd (Mn e) (c k e)
 ·rw [Mn f] at d;have:=Q0y oz oz (Ck d);rw [c,this]
def Gi(n:Nat):List Int:=(List.range n).map fun(i:Nat)=>(i:Int)
theorem Qbl{a b:Wd}{n sh:Nat}(g:n<=64):Uu (Zm a b (Qz n sh)) (Zm a b (Qz n sh))=Gi n:=by
 have d:(Zm a b (Qz n sh)).length=n:=by simp [Zm,Y4]
 unfold Uu Gi;rw [d];apply List.ext_getElem
 ·simp [d]
 ·intro i j f;have c:i<n:=by simpa using f
  have e:=Mn (a:=a) (b:=b) (sh:=sh) c;rw [List.getD_eq_getElem?_getD,List.getElem?_eq_getElem (by rw [d];exact c),Option.getD_some] at e;rw [List.getElem_map,List.getElem_map,List.getElem_range,e];exact Qef g c
theorem Qhi{n i:Nat}(h:i<n):(Gi n).getD i (-1)=(i:Int):=by
 rw [List.getD_eq_getElem?_getD];simp [Gi,h]
theorem Gy(n:Nat):(Gi n).length=n:=by simp [Gi]
theorem Qd3{n:Nat}(f:n<=64):Jd (Gi n)=0/\Ys (Gi n)=[]/\Z6 (Gi n)=[]:=by
 have d:∀ b,b<n->Ux (Gi n) b=false:=fun b a=>by
  unfold Ux;rw [Qhi a];simp
 refine⟨?_,?_,?_⟩
 ·unfold Jd;rw [if_neg (by rw [Gy];omega),if_neg];intro c;obtain⟨g,e,c⟩:=List.any_eq_true.1 c;obtain⟨b,a,rfl⟩:=List.mem_map.1 e;rw [List.mem_range] at a;rw [Gy,Bool.or_eq_true,decide_eq_true_iff,decide_eq_true_iff] at c;omega
 ·unfold Ys;rw [Gy,List.filter_eq_nil_iff.2,List.map_nil];intro b a;rw [List.mem_range] at a;rw [d b a];simp
 ·unfold Z6;rw [Gy,List.filter_eq_nil_iff.2,List.map_nil];intro b a;rw [List.mem_range] at a;unfold Jm;rw [d b a];simp
-- what words keep apart
def Q5p(A B:Wd)(i:Nat):Bool:=decide (Zc 0 i∈A) || decide (Zc 0 i∈B)
theorem Qdv{w:Wd}{i:Nat}{s t:Nat × Nat}(c:i<w.length)(h:w.getD i (0,0)=s) (d:s≠t):w≠w.set i t:=by
 intro b;have a:(w.set i t).getD i (0,0)=t:=by rw [List.getD_eq_getElem?_getD];simp [c]
 rw [<-b,h] at a;exact d a
theorem Qbc{u v:Wd}(h:u≠v):Hr [] u v=false:=by
 unfold Hr;exact decide_eq_false fun e=>h (Option.some.inj e)
theorem Qb8{w:Wd}{s t:Nat × Nat}(k:s≠t):apB [] w s t=(decide (s∈w) || decide (t∈w)):=by
 have i:∀ {x},x∈w->∃ a,a<w.length/\w.getD a (0,0)=x:=fun {x} hx=>by
  obtain⟨a,b,d⟩:=List.getElem_of_mem hx;exact⟨a,b,by rw [List.getD_eq_getElem?_getD,List.getElem?_eq_getElem b];exact d⟩
 have g:∀ a,a<w.length->Lp [] w s t a=(decide (w.getD a (0,0)=s) || decide (w.getD a (0,0)=t)):=fun a b=>by
  unfold Lp;by_cases e:w.getD a (0,0)=s
  ·rw [if_pos e,Qbc (Qdv b e k),decide_eq_true e];rfl
  ·rw [if_neg e,decide_eq_false e];by_cases f:w.getD a (0,0)=t
   ·rw [if_pos f,Qbc (Qdv b f (Ne.symm k)),decide_eq_true f];rfl
   ·rw [if_neg f,decide_eq_false f];rfl
 unfold apB;rw [Bool.eq_iff_iff,List.any_eq_true,Bool.or_eq_true,decide_eq_true_iff,decide_eq_true_iff];constructor
 ·rintro⟨a,b,c⟩;rw [List.mem_range] at b;rw [g a b,Bool.or_eq_true,decide_eq_true_iff,decide_eq_true_iff] at c;have j:w.getD a (0,0)∈w:=by rw [List.getD_eq_getElem?_getD,List.getElem?_eq_getElem b];exact List.getElem_mem b
  rcases c with c | c
  ·exact .inl (c ▸ j)
  ·exact .inr (c ▸ j)
 ·rintro(c | c)
  ·obtain⟨a,b,d⟩:=i c;exact⟨a,List.mem_range.2 b,by rw [g a b,d];simp⟩
  ·obtain⟨a,b,d⟩:=i c;exact⟨a,List.mem_range.2 b,by rw [g a b,d];simp⟩
theorem Qc4{f g:Nat->Nat->Bool}{i:Nat}(h:∀ k,k<i->f i k=g i k)(L:List Nat){k:Nat}(a:k<i):Hc f i L k=Hc g i L k:=by unfold Hc;rw [h k a]
theorem Q0n{f g:Nat->Nat->Bool}{i:Nat}(h:∀ k,k<i->f i k=g i k)(L:List Nat):∀ k,k<=i->Vy f i L k=Vy g i L k
 | 0,_=>rfl
 | k+1,hk=>by rw [Ws,Ws,Q0n h L k oz,Qc4 h _ oz]
theorem Tn{f g:Nat->Nat->Bool}:∀ n,(∀ i,i<n->∀ k,k<i->f i k=g i k)->Vn f n=Vn g n
 | 0,_=>rfl
 | n+1,h=>by rw [Ds,Ds,Tn n fun i hi=>h i oz,Q0n (h n oz) _ n (Nat.le_refl n)]
def Kb(U:Nat->Bool):Nat->Int
 | 0=>-1
 | k+1=>if Kb U k<0 then(if U k=true then -1 else(k:Int)) else Kb U k
def Mo(U:Nat->Bool)(k:Nat):Nat:=if U k=true then k else(Kb U (k+1)).toNat
def us(l:List Bool)(i:Nat):Bool:=l.getD i true
theorem Qmu:∀ b0 b1 b2 b3 b4 b5 b6 b7:Bool,Vn (fun i k=>us [b0,b1,b2,b3,b4,b5,b6,b7] i || us [b0,b1,b2,b3,b4,b5,b6,b7] k) 8=(List.range 8).map (Mo (us [b0,b1,b2,b3,b4,b5,b6,b7])):=by decide
theorem Q2f{U V:Nat->Bool}:∀ n,(∀ i,i<n->U i=V i)->Kb U n=Kb V n
 | 0,_=>rfl
 | n+1,h=>by unfold Kb;rw [Q2f n fun i hi=>h i oz,h n oz]
theorem Qmp(U:Nat->Bool):Vn (fun i k=>U i || U k) 8=(List.range 8).map (Mo U):=by
 have a:∀ i,i<8->us [U 0,U 1,U 2,U 3,U 4,U 5,U 6,U 7] i=U i:=fun i hi=>by
  have:i=0\/i=1\/i=2\/i=3\/i=4\/i=5\/i=6\/i=7:=by omega
  rcases this with rfl | rfl | rfl | rfl | rfl | rfl | rfl | rfl <;> rfl
 have b:=Qmu (U 0) (U 1) (U 2) (U 3) (U 4) (U 5) (U 6) (U 7);rw [Tn (g:=fun i k=>U i || U k) 8 fun i hi k hk=>by rw [a i hi,a k oz]] at b;rw [b];refine List.map_congr_left fun k hk=>?_
 rw [List.mem_range] at hk;unfold Mo;rw [a k hk,Q2f (k+1) fun i hi=>a i oz]
theorem Qij{U:Nat->Bool}{k:Nat}(h:U k=false):0<=Kb U (k+1):=by
 unfold Kb
 split
 ·rw [h];simp
 ·omega
theorem Qea{A B:Wd}(c:wE A=0)(d:wE B=0):Xh [] [A,B] (Qz 8 0)=0/\Vw [] [A,B] (Qz 8 0)=(List.range 8).map (Mo (Q5p A B)):=by
 have a:Xh [] [A,B] (Qz 8 0)=0:=by
  unfold Xh;rw [if_pos (show Z4 []=0 from rfl),if_neg zy,if_pos,Q4y 16 zd zd];unfold Gg;rw [List.map_cons,List.map_cons,c,d];rfl
 refine⟨a,?_⟩;unfold Vw;rw [if_pos a,Y4,<-Qmp];refine Tn 8 fun i hi k hk=>?_
 rw [Q8c hi,Q8c oz];have b:Zc 0 i≠Zc 0 k:=fun e=>by have:=Q81 i hi k oz e;omega
 unfold apL Q5p;rw [List.any_cons,List.any_cons,List.any_nil,Qb8 b,Qb8 b];cases decide (Zc 0 i∈A) <;> cases decide (Zc 0 k∈A) <;> cases decide (Zc 0 i∈B) <;> cases decide (Zc 0 k∈B) <;> rfl
theorem Q80{fr:List (Wd × Wd)} {s:Nat × Nat} (b:∀ p∈fr,wE p.1=0/\wE p.2=0/\p.1.length+p.2.length<=31) (e:okS s=true) (j:fr.length<=256):Jr [] fr s=0/\We [] fr s=fr.map fun _=>false:=by
 have d:∀ p∈fr,Yp [] (Qp p.1 p.2 s)=0/\Yv [] (Qp p.1 p.2 s)=Qp p.1 p.2 s:=fun p a=>Qaz (Sj (b p a).1 (b p a).2.1 e (b p a).2.2);have f:∀ l:List Int,(∀ x∈l,x=0)->Qw l=0:=fun l h=>(Pe (fun x hx=>.inl (h x hx))).2.2 h
 have g:Qw (Hz fr)=0:=f _ fun x hx=>by
  unfold Hz at hx;obtain⟨p,a,rfl⟩:=List.mem_map.1 hx;unfold Zt;rw [if_pos (show Z4 []=0 from rfl),if_pos (b p a).1];exact(b p a).2.1
 have i:Qw (Nw [] fr s)=0:=f _ fun x hx=>by
  unfold Nw at hx;obtain⟨p,a,rfl⟩:=List.mem_map.1 hx;exact(d p a).1
 have c:Jr [] fr s=0:=by
  unfold Jr;simp only [show Z4 []=0 from rfl,g,i,e,if_true];rw [if_neg oz]
 refine⟨c,?_⟩;rw [Q3e c];unfold frB;refine List.map_congr_left fun p a=>?_
 rw [(d p a).2];simp
theorem Q7x{c:Int}(h0:0<=c)(h1:c<256):∃ n:Nat,c=(n:Int)/\n<256:=⟨c.toNat,by omega,by omega⟩
theorem Q8t{X:Nat}{W:World}{v:Value}{L:List (List Int)} (h:Xo X W v L):∃ ao c,v=.slice ao L.length c:=by
 obtain⟨b,a,_⟩:=h
 exact Zg a
theorem Qfk(n:Nat):Yn (List.range n)=Zd (Gi n):=by simp [Yn,Zd,Gi]
theorem Qk3{n k:Nat}(h:k<n):(Zd (Gi n)).getD k undef=.int .i64 (k:Int):=by
 rw [List.getD_eq_getElem?_getD];simp [Zd,Gi,h]
theorem Ql7{l:List Nat}{k:Nat}(h:k<l.length):(Z5 l).getD k undef=.int .i64 (l.getD k 0:Nat):=by
 rw [List.getD_eq_getElem?_getD,List.getD_eq_getElem?_getD];simp [Z5,h]
theorem Qgt{W:World}{ao e:Option Addr}{c d:Nat}{a b:Wd}(j:Qd W (.slice ao a.length c) a) (l:a.length<=c) (k:Qd W (.slice e b.length d) b) (m:b.length<=d) {g i:Nat} (o:a.length=g) (p:b.length=i) :
  Gc (W.alloc (.cells #[.slice ao g c,.slice e i d] 23)) (.slice (some ⟨W.heap.size,0,none⟩) 2 2) [a,b]:=by
 subst o p
 have f:Ext W (W.alloc (.cells #[.slice ao a.length c,.slice e b.length d] 23)):=(Qa.refl _ W).alloc _
 exact⟨[.slice ao a.length c,.slice e b.length d],Us (n:=2) (cap:=2) (xs:=[.slice ao a.length c,.slice e b.length d]) (new_at rfl) rfl (by decide),⟨ao,c,rfl,j.ext f,l⟩,⟨e,d,rfl,k.ext f,m⟩,trivial⟩
theorem Q90{W:World}{a b vc c:Value}{p q:Wd × Wd}(h:Hg W p [a,b])(e:Hg W q [vc,c]):Lm (W.alloc (.cells #[a,b,vc,c] 63)) (.slice (some ⟨W.heap.size,0,none⟩) 2 2) [(p,[a,b]),(q,[vc,c])]:=by
 have d:Ext W (W.alloc (.cells #[a,b,vc,c] 63)):=(Qa.refl _ W).alloc _
 refine⟨Us (xs:=[a,b,vc,c]) (new_at rfl) rfl (by decide),fun x hx=>?_⟩
 simp only [List.mem_cons,List.not_mem_nil,or_false] at hx
 rcases hx with rfl | rfl
 ·exact⟨rfl,h.ext d⟩
 ·exact⟨rfl,e.ext d⟩
theorem Qm5{U:Nat->Bool}{k:Nat}(h:k<8):((List.range 8).map (Mo U)).getD k 0=Mo U k:=by
 rw [List.getD_eq_getElem?_getD];simp [h]
theorem Q7h(U:Nat->Bool)(k:Nat):Kb U (k+1)=if Kb U k<0 then(if U k=true then -1 else(k:Int)) else Kb U k:=rfl
theorem Qek(U:Nat->Bool):∀ k,-1<=Kb U k/\Kb U k<k
 | 0=>by simp [Kb]
 | k+1=>by
  have h:=Qek U k
  rw [Q7h]
  split
  ·split <;> omega
  ·omega
theorem Q6p{w:World}{e0 sh:Nat}(C3:e0<256)(x2:sh<256)
  {ao:Option Addr} {b5 j1:Nat} {b4:List Nat} (u0:Rd w (.slice ao b5 j1) b5 1 (u8V b4)) (u3:b4.length=b5) (u5:∀ x∈b4,x<256) (u2:b5<=j1) {s9:Option Addr} {b7 j2:Nat} {b6:List Nat} (u7:Rd w (.slice s9 b7 j2) b7 1 (u8V b6)) (v1:b6.length=b7) (v2:∀ x∈b6,x<256) (v0:b7<=j2) (l5:Tab w) :
  Calls Tryz.prog 12 #[.int .u8 (e0:Int),.int .u8 (sh:Int),.slice ao b5 j1,.slice s9 b7 j2] w fun e w'=>e=.returned (.bool true)/\Ext w w':=by
 have o5:=Zh (fun(d:World) (t:Ext w d)=>Mw (u0.ext t) u3 u5 u2 (mo:=15) (by decide))
 have o6:=Zh (fun(d:World) (t:Ext w d)=>Mw (u7.ext t) v1 v2 v0 (mo:=15) (by decide))
 have b0:=Zh l5
 have y7:=Zh (fun(W:World) (t:Ext w W)=>Jk W (l5.keep t id))
 obtain⟨n3,w4⟩:=Pu b4 (mo:=15) (by decide)
 obtain⟨n4,w5⟩:=Pu b6 (mo:=15) (by decide)
 obtain⟨i,k5⟩:∃ i,Vm b4 15=i:=⟨_,rfl⟩
 obtain⟨r,k8⟩:∃ i,Vm b6 15=i:=⟨_,rfl⟩
 rw [k5] at n3 w4
 rw [k8] at n4 w5
 have e5:i.length+r.length<=31:=by omega
 obtain⟨n,z8⟩:∃ n,e0 % 65=n:=⟨_,rfl⟩
 have c5:n<=64:=by omega
 have z9:(e0:Int) % 65=(n:Int):=by omega
 have o7:=Zh k5;have p4:=Zh k8;have d8:=Zh n3;have d9:=Zh n4;have p0:=Zh e5;have A9:=Zh x2
 have o4:=Zh (Df w (n:=n) (sh:=sh) c5 x2)
 clear u0 u3 u5 u2 u7 v1 v2 v0 l5 k5 k8 n3 n4 w4 w5 e5 z8
 go_enter Tryz.func12,Tryz.ntmps12
 go_wp2_with fail
 refine o4.out.mono ?_
 rintro e A3 ⟨C9,C8,rfl,m4,P⟩
 obtain⟨_,_,m,Z,Y⟩:=m4
 simp only [Value.slice.injEq] at m
 obtain⟨rfl,n6,rfl⟩:=m
 clear n6
 rw [Y4] at Z Y
 have O:=Zh P;have r1:=Zh Z;have a0:=Zh Y
 have s6:=Zh (o5.out A3 P)
 clear o4 o5 P Z Y z9
 go_wp2_with fail
 refine s6.out.mono ?_
 rintro e A4 ⟨D4,rfl,c6,X⟩
 rw [o7.out] at c6
 obtain⟨z,y,rfl,u6,v5⟩:=c6
 have p9:=Zh v5;have I:=Zh (O.out.trans X);have p1:=Zh u6;have r2:=Zh (r1.out.ext X)
 have s7:=Zh (o6.out A4 I.out)
 clear s6 o6 X O u6 v5 o7 r1
 go_wp2_with fail
 refine s7.out.mono ?_
 rintro e y1 ⟨D5,rfl,c6,e7⟩
 rw [p4.out] at c6
 obtain⟨B,A,rfl,v3,v6⟩:=c6
 have q1:=Zh v6;have S:=Zh (I.out.trans e7);have g9:=Zh (p1.out.ext e7);have i2:=Zh v3;have i9:=Zh (r2.out.ext e7)
 clear s7 e7 I v3 v6 p4 r2 p1
 obtain⟨g0,g1⟩:=Qfv d8.out d9.out p0.out (n:=n) (sh:=sh) c5
 have x3:Vf [] i r (Qz n sh)=Gi n:=by unfold Vf;rw [if_pos g0,g1,Qbl c5]
 have w7:Yn (Xp (Yb [] i r (Qz n sh)))=Zd (Gi n):=by rw [g1,Q9e c5,Qfk]
 have w8:(Yb [] i r (Qz n sh)).length=n:=by rw [g1];simp [Zm,Y4]
 have m8:=fun(d:World)=>Hv d
 have L:=Ba (m8 y1) rfl g9.out i2.out i9.out (Y4 n sh) a0.out (b0.out.keep S.out id)
 have M:=fun(d:World) (t:Ext y1 d)=>Ea (m8 d) rfl (g9.out.ext t) (i2.out.ext t) (i9.out.ext t) (Y4 n sh) a0.out (b0.out.keep (S.out.trans t) id)
 simp only [List.map_nil] at L M
 rw [w8,w7,g0] at L
 simp only [x3,Gy,g0] at M
 obtain⟨C,m6⟩:∃ n,i.length=n:=⟨_,rfl⟩
 obtain⟨E,m7⟩:∃ n,r.length=n:=⟨_,rfl⟩
 have d5:=Zh m6;have d6:=Zh m7
 rw [m6,m7] at L M ⊢
 have p7:=Zh L;have p8:=Zh M
 clear L M g0 g1 x3 w7 w8 m6 m7 m8
 go_wp2_with fail
 refine p7.out.mono ?_
 rintro e A5 ⟨o3,o2,rfl,N,l0⟩
 have a1:=Zh (Rd.of_own N);have q6:=Zh l0
 have s5:=Zh (p8.out A5 l0)
 clear p7 p8 N l0
 go_wp2_with fail
 refine s5.out.mono ?_
 rintro e A6 ⟨y0,x9,rfl,N,l1⟩
 have f7:=Rd.of_own N
 have r8:=Zh f7;have r7:=Zh (a1.out.ext l1);have q7:=Zh (q6.out.trans l1)
 obtain⟨c9,y3,y4⟩:=Qd3 c5
 have a4:=To f7 (Gy n)
 have m0:=fun(d:World) (t:Ext A6 d)=>Q1m (f7.ext t) (Gy n)
 have v4:Wt (Gi n)=[]:=by unfold Wt;rw [if_pos c9,y3]
 have x4:Fc (Gi n)=[]:=by unfold Fc;rw [if_pos c9,y4]
 rw [c9,v4] at a4
 simp only [c9,x4] at m0
 have a8:=Zh a4;have q4:=Zh m0
 clear s5 N l1 a1 q6 f7 c9 y3 y4 a4 m0 v4 x4
 go_wp2_with fail
 refine a8.out.mono ?_
 rintro e A7 ⟨D2,rfl,v9,l2⟩
 obtain⟨B8,B5,rfl⟩:=Q8t v9
 have s8:=Zh (q4.out A7 l2);have d2:=Zh l2
 clear a8 q4 v9 l2
 go_wp2_with fail
 refine s8.out.mono ?_
 rintro e y2 ⟨D3,rfl,w0,e8⟩
 obtain⟨B9,B6,rfl⟩:=Q8t w0
 have q8:=Zh (q7.out.trans (d2.out.trans e8))
 have a1:=Zh (r7.out.ext (d2.out.trans e8));have r9:=Zh (r8.out.ext (d2.out.trans e8))
 have x1:Calls Tryz.prog 26 #[.slice o3 n o2,.slice y0 n x9] y2 fun e w'=>e=.returned (.bool true)/\Ext y2 w':=by
  have G:=Q2n (us:=Gi n) (vs:=Gi n) (u:=.slice o3 n o2) (v:=.slice y0 n x9) (by rw [Gy];exact a1.out) (by rw [Gy];exact r9.out)
  rw [decide_eq_true rfl] at G
  exact G
 have s2:=Zh x1
 simp only [List.length_nil]
 clear s8 w0 e8 d2 r7 r8 r9 q7 x1
 go_wp2_with fail
 refine s2.out.mono ?_
 rintro e A8 ⟨rfl,l3⟩
 have i6:=Zh (q8.out.trans l3);have a2:=Zh (a1.out.ext l3)
 clear s2 l3 q8 a1
 go_wp2
 refine wp_loop (fun a W=>∃(k:Nat),k<=n/\a.defers=[]/\(a.tmps.size=201/\a.tmps.getD 10 undef=.slice z C y/\a.tmps.getD 11 undef=.slice B E A/\a.tmps.getD 100 undef=.slice o3 n o2/\a.tmps.getD 101 undef=.int .i64 n/\a.tmps.getD 102 undef=.int .i64 k)/\W=A8)
  (fun a _=>n - (intOf (a.tmps.getD 102 undef)).toNat) ?_ ?_
 ·exact⟨0,by omega,rfl,⟨rfl,rfl,rfl,rfl,rfl,rfl⟩,rfl⟩
 rintro⟨o0,_⟩ W ⟨k,C5,m1,⟨c8,U,V,j5,j6,j7⟩,z7⟩
 subst m1
 obtain⟨o1,o⟩:=Qq c8
 obtain⟨u,rfl⟩:∃ x,x=o1:=⟨_,rfl⟩
 have n2:o0=#[u 0,u 1,u 2,u 3,u 4,u 5,u 6,u 7,u 8,u 9,u 10,u 11,u 12,u 13,u 14,u 15,u 16,u 17,u 18,u 19,u 20,u 21,u 22,u 23,u 24,u 25,u 26,u 27,u 28,u 29,u 30,u 31,u 32,u 33,u 34,u 35,u 36,u 37,u 38,u 39,u 40,u 41,u 42,u 43,u 44,u 45,u 46,u 47,u 48,u 49,u 50,u 51,u 52,u 53,u 54,u 55,u 56,u 57,u 58,u 59,u 60,u 61,u 62,u 63,u 64,u 65,u 66,u 67,u 68,u 69,u 70,u 71,u 72,u 73,u 74,u 75,u 76,u 77,u 78,u 79,u 80,u 81,u 82,u 83,u 84,u 85,u 86,u 87,u 88,u 89,u 90,u 91,u 92,u 93,u 94,u 95,u 96,u 97,u 98,u 99,u 100,u 101,u 102,u 103,u 104,u 105,u 106,u 107,u 108,u 109,u 110,u 111,u 112,u 113,u 114,u 115,u 116,u 117,u 118,u 119,u 120,u 121,u 122,u 123,u 124,u 125,u 126,u 127,u 128,u 129,u 130,u 131,u 132,u 133,u 134,u 135,u 136,u 137,u 138,u 139,u 140,u 141,u 142,u 143,u 144,u 145,u 146,u 147,u 148,u 149,u 150,u 151,u 152,u 153,u 154,u 155,u 156,u 157,u 158,u 159,u 160,u 161,u 162,u 163,u 164,u 165,u 166,u 167,u 168,u 169,u 170,u 171,u 172,u 173,u 174,u 175,u 176,u 177,u 178,u 179,u 180,u 181,u 182,u 183,u 184,u 185,u 186,u 187,u 188,u 189,u 190,u 191,u 192,u 193,u 194,u 195,u 196,u 197,u 198,u 199,u 200]:=o
 clear o
 subst n2
 change u 10=_ at U
 change u 11=_ at V
 change u 100=_ at j5
 change u 101=_ at j6
 change u 102=_ at j7
 rw [U,V,j5,j6,j7]
 clear U V j5 j6 j7 c8
 subst z7
 by_cases w2:k<n
 case pos=>
  have e2:(k:Int)<(n:Int):=by omega
  have z6:(0:Int)<=(k:Int):=by omega
  obtain⟨g,A0,B1,m,_,a5⟩:=Zb a2.out w2
  simp only [Value.slice.injEq,true_and] at m
  obtain⟨rfl,rfl⟩:=m
  rw [Qk3 w2] at a5
  have e9:((k:Int) !=(k:Int))=false:=by simp
  go_wp2
  exact⟨⟨k+1,by omega,by first | rfl | trivial,⟨rfl,rfl,rfl,rfl,rfl,rfl⟩,by first | rfl | trivial⟩,by simp [intOf];omega⟩
 obtain rfl:k=n:=by omega
 have e2:¬ (k:Int)<(k:Int):=by omega
 have p2:=Zh (g9.out.ext i6.out);have p5:=Zh (i2.out.ext i6.out)
 have y5:=Zh (S.out.trans i6.out)
 clear a2 i9 a0
 go_wp2_with fail
 refine(Df W (n:=8) (sh:=0) (by decide) (by decide)).mono ?_
 rintro e g5 ⟨x6,x5,rfl,m4,e6⟩
 obtain⟨_,_,m,Z,Y⟩:=m4
 cases m
 rw [Y4] at Z Y
 have i7:=Zh Z;have a0:=Zh Y;have i5:=Zh (y5.out.trans e6);have i0:=Zh (p2.out.ext e6);have i3:=Zh (p5.out.ext e6)
 clear e6 Z Y p2 p5 e2
 have e3:Ext g5 (g5.alloc (.cells #[.slice z C y,.slice B E A] 23)):=(Qa.refl _ g5).alloc _
 have t8:=Qgt i0.out p9.out i3.out q1.out d5.out d6.out
 have f6:=Cr (Hv _) rfl t8 rfl (i7.out.ext e3) (Y4 8 0) a0.out (b0.out.keep (i5.out.trans e3) id)
 obtain⟨x7,x8⟩:=Qea d8.out d9.out
 simp only [List.map_nil,x7,x8] at f6
 have w3:((List.range 8).map (Mo (Q5p i r))).length=8:=by simp
 rw [w3] at f6
 have r5:=Zh f6;have o8:=Zh e3
 clear e3 t8 f6 x7 x8 w3
 go_wp2_with fail
 refine r5.out.mono ?_
 rintro e g6 ⟨A2,A1,rfl,N,t3⟩
 have a2:=Zh (Rd.of_own N)
 have c0:Ext g5 g6:=o8.out.trans t3
 have q5:=Zh (i5.out.trans c0);have i1:=Zh (i0.out.ext c0);have i4:=Zh (i3.out.ext c0);have i8:=Zh (i7.out.ext c0)
 obtain⟨j,l6⟩:∃ j,Q5p i r=j:=⟨_,rfl⟩
 rw [l6] at a2
 have s3:Hid (∀ k,j k=(decide (Zc 0 k∈i) || decide (Zc 0 k∈r))):=Zh fun k=>by rw [<-l6];rfl
 clear r5 N t3 c0 o8 i5 i0 i3 i7 l6
 go_wp2
 refine wp_loop (fun a d=>∃(k:Nat),k<=8/\a.defers=[]/\(a.tmps.size=201/\a.tmps.getD 10 undef=.slice z C y/\a.tmps.getD 11 undef=.slice B E A/\a.tmps.getD 22 undef=.slice x6 8 x5/\a.tmps.getD 23 undef=.slice A2 8 A1/\a.tmps.getD 24 undef=.int .i64 0/\a.tmps.getD 25 undef=.int .i64 (Kb j k)/\a.tmps.getD 120 undef=.slice x6 8 x5/\a.tmps.getD 121 undef=.int .i64 8/\a.tmps.getD 122 undef=.int .i64 k)/\Ext g6 d)
  (fun a _=>8 - (intOf (a.tmps.getD 122 undef)).toNat) ?_ ?_
 ·exact⟨0,by omega,rfl,⟨rfl,rfl,rfl,rfl,rfl,rfl,rfl,rfl,rfl,rfl⟩,Qa.refl _ _⟩
 rintro⟨o0,_⟩ d ⟨c,C4,m1,⟨c8,U,V,k1,k2,k3,k4,j8,j9,k0⟩,t⟩
 subst m1
 obtain⟨o1,o⟩:=Qq c8
 obtain⟨u,rfl⟩:∃ x,x=o1:=⟨_,rfl⟩
 have n2:o0=#[u 0,u 1,u 2,u 3,u 4,u 5,u 6,u 7,u 8,u 9,u 10,u 11,u 12,u 13,u 14,u 15,u 16,u 17,u 18,u 19,u 20,u 21,u 22,u 23,u 24,u 25,u 26,u 27,u 28,u 29,u 30,u 31,u 32,u 33,u 34,u 35,u 36,u 37,u 38,u 39,u 40,u 41,u 42,u 43,u 44,u 45,u 46,u 47,u 48,u 49,u 50,u 51,u 52,u 53,u 54,u 55,u 56,u 57,u 58,u 59,u 60,u 61,u 62,u 63,u 64,u 65,u 66,u 67,u 68,u 69,u 70,u 71,u 72,u 73,u 74,u 75,u 76,u 77,u 78,u 79,u 80,u 81,u 82,u 83,u 84,u 85,u 86,u 87,u 88,u 89,u 90,u 91,u 92,u 93,u 94,u 95,u 96,u 97,u 98,u 99,u 100,u 101,u 102,u 103,u 104,u 105,u 106,u 107,u 108,u 109,u 110,u 111,u 112,u 113,u 114,u 115,u 116,u 117,u 118,u 119,u 120,u 121,u 122,u 123,u 124,u 125,u 126,u 127,u 128,u 129,u 130,u 131,u 132,u 133,u 134,u 135,u 136,u 137,u 138,u 139,u 140,u 141,u 142,u 143,u 144,u 145,u 146,u 147,u 148,u 149,u 150,u 151,u 152,u 153,u 154,u 155,u 156,u 157,u 158,u 159,u 160,u 161,u 162,u 163,u 164,u 165,u 166,u 167,u 168,u 169,u 170,u 171,u 172,u 173,u 174,u 175,u 176,u 177,u 178,u 179,u 180,u 181,u 182,u 183,u 184,u 185,u 186,u 187,u 188,u 189,u 190,u 191,u 192,u 193,u 194,u 195,u 196,u 197,u 198,u 199,u 200]:=o
 clear o
 subst n2
 change u 10=_ at U
 change u 11=_ at V
 change u 22=_ at k1
 change u 23=_ at k2
 change u 24=_ at k3
 change u 25=_ at k4
 change u 120=_ at j8
 change u 121=_ at j9
 change u 122=_ at k0
 rw [U,V,k1,k2,k3,k4,j8,j9,k0]
 clear U V k1 k2 k3 k4 j8 j9 k0 c8
 have F:=Zh t
 clear t
 by_cases c3:c<8
 case pos=>
  have e2:(c:Int)<8:=by omega
  have z6:(0:Int)<=(c:Int):=by omega
  have w1:c<(Qz 8 0).length:=by rw [Y4];exact c3
  have u4:=(i8.out.ext F.out).at w1
  rw [Y4] at u4
  obtain⟨C1,A0,B2,m,_,L,M⟩:=u4
  simp only [Value.slice.injEq,true_and] at m
  obtain⟨rfl,rfl⟩:=m
  rw [Tp c3] at L M
  obtain⟨C0,C6,B4,m,_,a5⟩:=Zb (a2.out.ext F.out) c3
  simp only [Value.slice.injEq,true_and] at m
  obtain⟨rfl,rfl⟩:=m
  rw [Ql7 (by simpa using c3),Qm5 c3] at a5
  have u1:Qd g6 (.slice z C y) i:=by rw [<-d5.out];exact i1.out
  have u9:Qd g6 (.slice B E A) r:=by rw [<-d6.out];exact i4.out
  have c2:=fun(D:World) (hD:Ext d D)=>Mt (u1.ext (F.out.trans hD)) d5.out (Zc 0 c)
  have Q:=fun(D:World) (hD:Ext d D)=>Mt (u9.ext (F.out.trans hD)) d6.out (Zc 0 c)
  clear u1 u9
  have l7:=s3.out c
  obtain⟨z0,l8⟩:∃ b,decide (Zc 0 c∈i)=b:=⟨_,rfl⟩
  obtain⟨z1,l9⟩:∃ b,decide (Zc 0 c∈r)=b:=⟨_,rfl⟩
  rw [l8,l9] at l7
  simp only [l8] at c2
  simp only [l9] at Q
  obtain⟨⟨a6,a7⟩,m9⟩:∃ s,Zc 0 c=s:=⟨_,rfl⟩
  rw [m9] at L M
  simp only [m9] at c2 Q
  dsimp only at L M
  unfold sV at c2 Q
  have n1:=Q7h j c
  have m5:j c=true->((Mo j c:Nat):Int)=(c:Int):=fun G=>by unfold Mo;rw [if_pos G]
  have f3:j c=false->((Mo j c:Nat):Int)=Kb j (c+1):=fun G=>by unfold Mo;rw [G,if_neg (by decide)];exact Int.toNat_of_nonneg (Qij G)
  obtain⟨f9,w6⟩:∃ l,Mo j c=l:=⟨_,rfl⟩
  rw [w6] at a5 m5 f3
  obtain⟨K,f0⟩:∃ f,Kb j c=f:=⟨_,rfl⟩
  obtain⟨e1,f1⟩:∃ f,Kb j (c+1)=f:=⟨_,rfl⟩
  rw [f0,f1] at n1
  rw [f1] at f3
  rw [f0]
  have m2:=Qek j c
  rw [f0] at m2
  have r0:=Zh m2
  clear m2
  have q0:=Zh c2;have q2:=Zh Q;have j0:=Zh l7;have d7:=Zh n1;have r4:=Zh m5;have y6:=Zh f3;have d4:=Zh f1;have a9:=Zh a5
  clear c2 Q l7 n1 m5 f3 l8 l9 m9 w6 f0 f1 w1 a5
  obtain⟨J,t2⟩:∃ J,d.heap.size=J:=⟨_,rfl⟩
  have c7:(d.alloc (.cells #[.int .u32 a6,.int .u32 a7] 26)).heap[J]?=some (.cells #[.int .u32 a6,.int .u32 a7] 26 (0,0)):=new_at t2.symm
  have k9:Ext d (d.alloc (.cells #[.int .u32 a6,.int .u32 a7] 26)):=(Qa.refl _ d).alloc _
  go_upto_region 21 with (fail)
  generalize (d.alloc (.cells #[.int .u32 a6,.int .u32 a7] 26))=b1 at c7 k9 ⊢
  have s1:=Zh c7;have d1:=Zh k9
  have j3:b1.cell? ⟨J,0,none⟩=some (.int .u32 a6):=by rw [cell_of_row b1 J 0 _ _ _ c7];rfl
  have j4:b1.cell? ⟨J,1,none⟩=some (.int .u32 a7):=by rw [cell_of_row b1 J 1 _ _ _ c7];rfl
  clear c7 k9 t2 L M
  go_wp2_with fail
  refine(q0.out b1 d1.out).mono ?_
  rintro e b2 ⟨rfl,P⟩
  have v8:=(d1.out.trans P).cell_some a9.out id
  have n0:=P.keep s1.out
  have O:=Zh (d1.out.trans P)
  clear q0 d1 P s1 j3 j4 a9
  cases z0
  case true=>
   have o:j c=true:=by rw [j0.out];rfl
   have c4:=r4.out o
   have e9:((f9:Int) !=(c:Int))=false:=by rw [c4];simp
   have H:e1=K:=by
    rw [d7.out,o]
    by_cases R:K<0
    ·rw [if_pos R,if_pos rfl];have:=r0.out;omega
    ·rw [if_neg R]
   have T:Hid (Kb j (c+1)=K):=Zh (d4.out.trans H)
   have I:=Zh (F.out.trans O.out)
   clear c4 H o O F
   go_wp2
   exact⟨⟨c+1,by omega,by first | rfl | trivial,⟨rfl,rfl,rfl,rfl,rfl,rfl,by rw [T.out];rfl,rfl,rfl,rfl⟩,I.out⟩,by simp [intOf];omega⟩
  case false=>
   have j3:b2.cell? ⟨J,0,none⟩=some (.int .u32 a6):=by rw [cell_of_row b2 J 0 _ _ _ n0];rfl
   have j4:b2.cell? ⟨J,1,none⟩=some (.int .u32 a7):=by rw [cell_of_row b2 J 1 _ _ _ n0];rfl
   clear n0
   have a9:=Zh v8
   clear v8
   go_wp2_with fail
   refine(q2.out b2 O.out).mono ?_
   rintro e B0 ⟨rfl,X⟩
   have C2:=X.cell_some a9.out id
   have I:=Zh (F.out.trans (O.out.trans X))
   clear q2 O X F j3 j4 a9
   cases z1
   case true=>
    have o:j c=true:=by rw [j0.out];rfl
    have c4:=r4.out o
    have e9:((f9:Int) !=(c:Int))=false:=by rw [c4];simp
    have H:e1=K:=by
     rw [d7.out,o]
     by_cases R:K<0
     ·rw [if_pos R,if_pos rfl];have:=r0.out;omega
     ·rw [if_neg R]
    have T:Hid (Kb j (c+1)=K):=Zh (d4.out.trans H)
    clear c4 H o
    go_wp2
    exact⟨⟨c+1,by omega,by first | rfl | trivial,⟨rfl,rfl,rfl,rfl,rfl,rfl,by rw [T.out];rfl,rfl,rfl,rfl⟩,I.out⟩,by simp [intOf];omega⟩
   case false=>
    have o:j c=false:=by rw [j0.out];rfl
    have f2:=y6.out o
    by_cases R:K<0
    ·have H:e1=(c:Int):=by rw [d7.out,o,if_pos R,if_neg (by decide)]
     have e9:((f9:Int) !=(c:Int))=false:=by rw [f2,H];simp
     have T:Hid (Kb j (c+1)=(c:Int)):=Zh (d4.out.trans H)
     clear f2 H o
     go_wp2
     exact⟨⟨c+1,by omega,by first | rfl | trivial,⟨rfl,rfl,rfl,rfl,rfl,rfl,by rw [T.out];rfl,rfl,rfl,rfl⟩,I.out⟩,by simp [intOf];omega⟩
    ·have H:e1=K:=by rw [d7.out,o,if_neg R]
     have e9:((f9:Int) != K)=false:=by rw [f2,H];simp
     have T:Hid (Kb j (c+1)=K):=Zh (d4.out.trans H)
     clear f2 H o
     go_wp2
     exact⟨⟨c+1,by omega,by first | rfl | trivial,⟨rfl,rfl,rfl,rfl,rfl,rfl,by rw [T.out];rfl,rfl,rfl,rfl⟩,I.out⟩,by simp [intOf];omega⟩
 obtain rfl:c=8:=by omega
 have e2:¬ ((8:Nat):Int)<8:=by decide
 have p3:=Zh (i1.out.ext F.out);have p6:=Zh (i4.out.ext F.out);have r3:=Zh (i8.out.ext F.out);have d3:=Zh (q5.out.trans F.out)
 clear F i1 i4 i8 q5 a2
 have f4:Qy d (.slice z C y) i:=⟨z,y,by rw [d5.out],p3.out,p9.out⟩
 have f5:Qy d (.slice B E A) r:=⟨B,A,by rw [d6.out],p6.out,q1.out⟩
 have k6:Ext d (d.alloc (.cells #[.slice z C y,.slice B E A,.slice B E A,.slice z C y] 63)):=(Qa.refl _ d).alloc _
 have w9:=Q90 (W:=d) (p:=(i,r)) (q:=(r,i)) ⟨_,_,rfl,f4,f5⟩ ⟨_,_,rfl,f5,f4⟩
 have m3:∀ p∈[(i,r),(r,i)],wE p.1=0/\wE p.2=0/\p.1.length+p.2.length<=31:=fun p hp=>by
  have e5:=p0.out
  simp only [List.mem_cons,List.not_mem_nil,or_false] at hp
  rcases hp with rfl | rfl
  ·exact⟨d8.out,d9.out,e5⟩
  ·exact⟨d9.out,d8.out,by dsimp only;omega⟩
 obtain⟨n7,n8⟩:=Q80 (s:=Zc 0 3) m3 (Ec 3 (by decide)) (by simp)
 obtain⟨g2,n9⟩:=Q80 (fr:=[(i,r)]) (s:=Zc 0 3) (fun p hp=>m3 p (by simp at hp;simp [hp])) (Ec 3 (by decide)) (by simp)
 obtain⟨⟨g7,g8⟩,f8⟩:∃ s,Zc 0 3=s:=⟨_,rfl⟩
 have n5:Qm (g7,g8):=by rw [<-f8];exact Nv 0 3
 obtain⟨B7,C7,B3,m,_,b8,b9⟩:=r3.out.at (show 3<(Qz 8 0).length by rw [Y4];decide)
 simp only [Value.slice.injEq] at m
 obtain⟨rfl,n6,rfl⟩:=m
 clear n6
 rw [Tp (by decide),f8] at b8 b9
 dsimp only at b8 b9
 rw [f8] at n7 n8 g2 n9
 have Q:Sb [] [(i,r)] (g7,g8)=false:=by unfold Sb;rw [g2,if_pos rfl,n9];rfl
 have a4:Calls Tryz.prog 40 #[.slice none 0 0,.slice (some ⟨d.heap.size,0,none⟩) 2 2,.agg #[.int .u32 (g7:Int),.int .u32 (g8:Int)]] (d.alloc (.cells #[.slice z C y,.slice B E A,.slice B E A,.slice z C y] 63)) fun e w'=>∃ g4 g3,e=.returned (.tuple #[.slice g4 2 g3,.int .i64 0])/\Rd w' (.slice g4 2 g3) 2 1 (boV [false,false])/\Ext (d.alloc (.cells #[.slice z C y,.slice B E A,.slice B E A,.slice z C y] 63)) w':=by
  have G:=Rn (Hv _) rfl w9 rfl n5 (b0.out.keep (d3.out.trans k6) id)
  simp only [List.map_nil,List.map_cons,n7,n8] at G
  refine G.mono ?_
  rintro e w' ⟨g4,g3,rfl,N,t⟩
  exact⟨g4,g3,rfl,Rd.of_own N,t⟩
 have v7:∀(D:World),Ext d D->Calls Tryz.prog 42 #[.slice none 0 0,.slice (some ⟨D.heap.size,0,none⟩) 1 1,.agg #[.int .u32 (g7:Int),.int .u32 (g8:Int)]] (D.alloc (.cells #[.slice z C y,.slice B E A] 63)) fun e w'=>e=.returned (.tuple #[.bool false,.int .i64 0])/\Ext (D.alloc (.cells #[.slice z C y,.slice B E A] 63)) w':=fun D hD=>by
  have G:=Qhn (Hv (D.alloc (.cells #[.slice z C y,.slice B E A] 63))) rfl (Q0b (W:=D) (p:=(i,r)) ⟨_,_,rfl,f4.ext hD,f5.ext hD⟩) rfl n5 (b0.out.keep (d3.out.trans (hD.trans ((Qa.refl _ D).alloc _))) id)
  simp only [List.map_nil,List.map_cons,g2,Q] at G
  exact G
 have a8:=Zh a4;have q3:=Zh v7;have d0:=Zh k6
 clear w9 m3 n7 n8 g2 n9 a4 v7 Q f4 f5 k6 f8 n5 p3 p6 r3 s3 a0
 have z2:=d0.out.cell_some b8 id
 have z3:=d0.out.cell_some b9 id
 go_wp2_with fail
 refine a8.out.mono ?_
 rintro e a3 ⟨D1,D0,rfl,x0,t4⟩
 have c1:Ext d a3:=d0.out.trans t4
 have t0:=c1.cell_some b8 id
 have t1:=c1.cell_some b9 id
 have t9:=q3.out a3 c1
 have e4:Ext a3 (a3.alloc (.cells #[.slice z C y,.slice B E A] 63)):=(Qa.refl _ a3).alloc _
 have z4:=e4.cell_some t0 id
 have z5:=e4.cell_some t1 id
 have s4:=Zh t9;have s0:=Zh x0;have q9:=Zh c1;have o9:=Zh e4
 clear a8 q3 t4 x0 t9 b8 b9 z2 z3 c1 e4 d0
 go_wp2_with fail
 refine s4.out.mono ?_
 rintro e b3 ⟨rfl,t5⟩
 have l4:Ext a3 b3:=o9.out.trans t5
 have k7:Ext b3 (b3.alloc (.cells #[.bool false,.bool false] 4)):=(Qa.refl _ b3).alloc _
 have m:=Qmg (us:=[false,false]) (vs:=[false,false]) (s0.out.ext (l4.trans k7)) (Us (g:=b3.heap.size) (n:=2) (cap:=2) (xs:=boV [false,false]) (new_at rfl) rfl (by decide))
 rw [decide_eq_true rfl] at m
 have r6:=Zh m;have I:=Zh (d3.out.trans (q9.out.trans (l4.trans k7)))
 clear s4 t5 l4 k7 m t0 t1 z4 z5 s0 q9 o9 d3
 go_wp2_with fail
 refine r6.out.mono ?_
 rintro e y9 ⟨rfl,t6⟩
 have S:=Zh (I.out.trans t6)
 clear r6 t6 I
 go_wp2_with fail
 refine(y7.out y9 S.out).mono ?_
 rintro e D6 ⟨rfl,t7⟩
 have y8:=Zh (S.out.trans t7)
 clear t7 S
 go_wp2
 go_ret
 exact⟨rfl,y8.out⟩
theorem Q5i{w:World}{c s:Int}(u:0<=c)(v:c<256)(A:0<=s)(B:s<256)
  {ao:Option Addr} {a d:Nat} {f:List Nat} (l:Rd w (.slice ao a d) a 1 (u8V f)) (n:f.length=a) (o:∀ x∈f,x<256) (m:a<=d) {j:Option Addr} {b g:Nat} {i:List Nat} (p:Rd w (.slice j b g) b 1 (u8V i)) (r:i.length=b) (t:∀ x∈i,x<256) (q:b<=g) (k:Tab w) :
  Calls Tryz.prog 12 #[.int .u8 c,.int .u8 s,.slice ao a d,.slice j b g] w fun e w'=>e=.returned (.bool true)/\Ext w w':=by
 obtain⟨D,rfl,z⟩:=Q7x u v
 obtain⟨C,rfl,y⟩:=Q7x A B
 exact Q6p z y l n o m p r t q k
end Go.Proofs.YtejenndedjabhaaGreatDoor
