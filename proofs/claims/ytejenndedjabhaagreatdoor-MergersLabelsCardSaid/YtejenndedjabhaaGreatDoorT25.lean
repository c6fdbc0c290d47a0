/- MergersMore: -/
import Derived.Test.YtejenndedjabhaaGreatDoorT23
set_option maxRecDepth 100000
set_option maxHeartbeats 16000000
namespace Go.Proofs.YtejenndedjabhaaGreatDoor
open Go.RowKit Go.Ab
theorem Q1v:∀ i:Nat,i<8->okS (Zf 0 i)=true:=by decide
theorem Lu:Xj (Z5 8 0) 64=0:=by decide
theorem Rz(l:List Nat){mo:Nat}(h:mo<=15):wE (Ub l mo)=0/\(Ub l mo).length<=mo:=by
 have a:(Ub l mo).length<=mo:=by unfold Ub;rw [List.length_map];exact List.length_take_le _ _
 refine⟨Ml.2 ⟨by omega,fun s hs=>?_⟩,a⟩;obtain⟨b,_,rfl⟩:=List.mem_map.1 hs;exact Q1v _ (Nat.mod_lt _ zd)
theorem El{a b:Wd}{s:Nat × Nat}(d:wE a=0)(e:wE b=0)(f:okS s=true)(g:a.length+b.length<=31):wE (Ql a b s)=0:=by
 refine Ml.2 ⟨by unfold Ql;simp;omega,fun x c=>?_⟩;unfold Ql at c;simp only [List.mem_append,List.mem_singleton] at c;rcases c with (c | rfl) | c
 ·exact(Ml.1 d).2 x c
 ·exact f
 ·exact(Ml.1 e).2 x c
theorem Q5s{L:Zl}(h:∀ p∈L,Y8 p.1=true)(c:L.length<=64):Zx (L.map (·.1))=0:=by
 unfold Zx;rw [if_neg (by rw [List.length_map];omega),if_pos];rw [List.all_eq_true];intro d b;obtain⟨p,a,rfl⟩:=List.mem_map.1 b;exact h p a
theorem Br{l:List Int}(h:∀ x∈l,x=0\/x=11):(Qr l=0\/Qr l=11)/\(Qr l=0↔∀ x∈l,x=0):=by
 induction l with
 | nil=>exact⟨.inl rfl,by simp [Qr]⟩
 | cons e l ih=>
  obtain⟨d,f⟩:=ih (fun x hx=>h x (List.mem_cons_of_mem _ hx));by_cases a:e=0
  ·subst a;have c:Qr (0::l)=Qr l:=by rw [Qr,if_pos rfl]
   rw [c];exact⟨d,by rw [f];simp⟩
  ·have c:Qr (e::l)=e:=by rw [Qr,if_neg a]
   rw [c];have g:=(h e zy).resolve_left a;refine⟨.inr g,?_⟩;constructor
   ·intro b;exact absurd b a
   ·intro b;exact b e zy
theorem Q4m{ls:List Qg}{a b ss:Wd}(m:Zx ls=0)(i:wE a=0)(j:wE b=0)(o:a.length+b.length<=31)(r:Xj ss 64=0)(q:∀ s∈ss,okS s=true) :
  (Zc ls a b ss=0\/Zc ls a b ss=11)/\(Zc ls a b ss=0↔∀ s∈ss,(Y9 ls (Ql a b s)).isSome=true)/\(Zc ls a b ss=0->Zm ls a b ss=ss.map fun s=>(Y9 ls (Ql a b s)).getD []):=by
 have p:Z7 ls a b=0:=by unfold Z7;rw [if_pos m,if_pos i];exact j
 have g:Zc ls a b ss=Qr (ss.map fun s=>Yu ls (Ql a b s)):=by unfold Zc;rw [if_pos p,if_pos r]
 have n:∀ s∈ss,Uu ls (Ql a b s)=0:=fun s c=>by unfold Uu;rw [if_pos m];exact El i j (q s c) o
 have e:∀ s∈ss,Yu ls (Ql a b s)=if (Y9 ls (Ql a b s)).isSome=true then 0 else 11:=fun s c=>by unfold Yu;rw [if_pos (n s c)]
 have k:=Br (l:=ss.map fun s=>Yu ls (Ql a b s)) (fun t f=>by
  obtain⟨s,c,rfl⟩:=List.mem_map.1 f;simp only [e s c]
  split
  ·exact .inl rfl
  ·exact .inr rfl)
 refine⟨by rw [g];exact k.1,?_,fun h0=>?_⟩
 ·rw [g,k.2];constructor
  ·intro d s c;have:=d _ (List.mem_map.2 ⟨s,c,rfl⟩);rw [e s c] at this
   split at this
   ·assumption
   ·cases this
  ·intro d t f;obtain⟨s,c,rfl⟩:=List.mem_map.1 f;simp only [e s c];rw [if_pos (d s c)]
 ·unfold Zm;rw [if_pos h0];apply List.map_congr_left;intro s c;unfold Xa;rw [if_pos (n s c)]
theorem Gq(pl:List Wd)(w:Wd):∀ n,(Ya pl w n=-1/\∀ j,j<n->pl.getD j []≠w)\/∃ j,j<n/\Ya pl w n=(j:Int)/\pl.getD j []=w
 | 0=>.inl ⟨rfl,fun j h=>absurd h (Nat.not_lt_zero j)⟩
 | n+1=>by
  by_cases h:pl.getD n []=w
  ·exact .inr ⟨n,by omega,by unfold Ya;rw [if_pos h],h⟩
  ·have hu:Ya pl w (n+1)=Ya pl w n:=by rw [Ya,if_neg h]
   rw [hu];rcases Gq pl w n with ⟨b,a⟩ | ⟨j,b,a,d⟩
   ·refine .inl ⟨b,fun j hj=>?_⟩;by_cases c:j=n
    ·subst c;exact h
    ·exact a j oz
   ·exact .inr ⟨j,by omega,a,d⟩
theorem Q44{a b:Wd}{s t:Nat × Nat}(h:Ql a b s=Ql a b t):s=t:=by
 unfold Ql at h;have c:=List.append_cancel_right h;have d:=List.append_cancel_left c
 simpa using d
theorem Q6g:∀ i:Nat,i<8->∀ j:Nat,j<8->Zf 0 i=Zf 0 j->i=j:=by decide
theorem Nw{a b:Wd}{i:Nat}(h:i<8):(Zr a b (Z5 8 0)).getD i []=Ql a b (Zf 0 i):=by
 rw [Nc (by rw [Yx];exact h)];simp [Z5]
theorem Fp{DS:List Wd}{i k:Nat}:Z0 DS i=Z0 DS k↔DS.getD i []=DS.getD k []:=by
 obtain⟨j,b,f⟩:=Xf DS i;obtain⟨l,c,g⟩:=Xf DS k;constructor
 ·intro a;rw [<-b,<-c,a]
 ·intro a;by_cases d:Z0 DS i<Z0 DS k
  ·exact absurd (b.trans a) (g _ d)
  ·by_cases e:Z0 DS k<Z0 DS i
   ·exact absurd (c.trans a.symm) (f _ e)
   ·omega
theorem Ni(DS:List Wd)(i:Nat):Z0 DS (Z0 DS i)=Z0 DS i:=Fp.2 (Xf DS i).2.1
theorem De{a b:Wd}{DS:List Wd}(i:Nat)(hi:i<8) :
  let S:=fun i=>Ya (Zr a b (Z5 8 0)) (DS.getD i []) 8
  (-1<=S i/\S i<=7)/\(0<=S i->DS.getD i []=Ql a b (Zf 0 (S i).toNat))/\(S i=(i:Int)↔Ql a b (Zf 0 i)=DS.getD i [])/\(∀ k,k<8->0<=S i->S i=S k->Z0 DS i=Z0 DS k):=by
 intro S
 have hc:∀ j,j<8->0<=S j->DS.getD j []=Ql a b (Zf 0 (S j).toNat):=fun j hj h0=>by
  rcases Gq (Zr a b (Z5 8 0)) (DS.getD j []) 8 with ⟨h1,_⟩ | ⟨x,h1,h2,h3⟩
  ·have:S j=-1:=h1;omega
  ·have hs:S j=(x:Int):=h2;rw [hs,Int.toNat_natCast,<-h3,Nw h1]
 refine⟨?_,hc i hi,?_,fun k hk h0 he=>?_⟩
 ·rcases Gq (Zr a b (Z5 8 0)) (DS.getD i []) 8 with ⟨h1,_⟩ | ⟨x,h1,h2,_⟩
  ·have:S i=-1:=h1;omega
  ·have:S i=(x:Int):=h2;omega
 ·rcases Gq (Zr a b (Z5 8 0)) (DS.getD i []) 8 with ⟨h1,h2⟩ | ⟨x,h1,h2,h3⟩
  ·have hs:S i=-1:=h1;have:=h2 i hi;rw [Nw hi] at this;constructor
   ·intro h;omega
   ·intro h;exact absurd h this
  ·have hs:S i=(x:Int):=h2;rw [Nw h1] at h3;constructor
   ·intro h;have hx:x=i:=by omega
    rw [hx] at h3;exact h3
   ·intro h;have:=Q6g _ h1 _ hi (Q44 (h3.trans h.symm));omega
 ·have h1:=hc i hi h0;have h2:=hc k hk (by rw [<-he];exact h0);rw [<-he] at h2;exact Fp.2 (h1.trans h2.symm)
theorem Tf(n:Nat):∀ l:List Int,(∀ x∈l,0<=x/\x<n)->((List.range n).map (Uy l)).sum=l.length
 | [],_=>by
  have:(List.range n).map (Uy [])=List.replicate n 0:=by
   apply List.ext_getElem
   ·simp
   ·intro m d j;simp [Uy]
  rw [this];simp
 | x::l,h=>by
  have i:=Tf n l (fun y hy=>h y (List.mem_cons_of_mem _ hy));obtain⟨k,g⟩:=h x zy;have d:∀ a:Nat,((List.range a).map (Uy (x::l))).sum=((List.range a).map (Uy l)).sum+if x<a then 1 else 0:=by
   intro a
   induction a with
   | zero=>simp;omega
   | succ a ihm=>
    rw [List.range_succ,List.map_append,List.map_append,List.sum_append,List.sum_append,ihm];simp only [List.map_cons,List.map_nil,List.sum_cons,List.sum_nil,Nat.add_zero];have f:Uy (x::l) a=Uy l a+if x=(a:Int) then 1 else 0:=by
     unfold Uy;rw [List.countP_cons]
     congr 1
     by_cases e:x=(a:Int) <;> simp [e]
    rw [f];by_cases b:x<(a:Int)
    ·rw [if_pos b,if_neg oz,if_pos oz];omega
    ·by_cases c:x=(a:Int)
     ·rw [if_neg b,if_pos c,if_pos oz];omega
     ·rw [if_neg b,if_neg c,if_neg oz];omega
  rw [d,i,if_pos g];rfl
theorem Fq:∀ l:List Nat,(l.filter fun n=>decide (n≠0)).sum=l.sum
 | []=>rfl
 | x::l=>by
  by_cases h:x=0
  ·subst h;have:(0::l).filter (fun n=>decide (n≠0))=l.filter (fun n=>decide (n≠0)):=by simp
   rw [this,Fq l];simp
  ·have:(x::l).filter (fun n=>decide (n≠0))=x::l.filter (fun n=>decide (n≠0)):=by simp [h]
   rw [this,List.sum_cons,Fq l,List.sum_cons]
theorem Eg{DS:List Wd}(d:DS.length=8):Xw ((Yo DS).map fun(x:Nat)=>(x:Int))=0/\(Ku ((Yo DS).map fun(x:Nat)=>(x:Int))).sum=8:=by
 have c:((Yo DS).map fun(x:Nat)=>(x:Int)).length=8:=by simp [Yo,d]
 have e:∀ a,a<8->((Yo DS).map fun(x:Nat)=>(x:Int)).getD a 0=(Z0 DS a:Nat):=fun a b=>by
  rw [List.getD_eq_getElem?_getD];simp [Yo,d,b]
 have f:Xw ((Yo DS).map fun(x:Nat)=>(x:Int))=0:=by
  unfold Xw;rw [if_neg (by rw [c];decide),if_pos];rw [List.all_eq_true];intro a b;rw [List.mem_range,c] at b;have i:=(Xf DS a).1;rw [e a b,Int.toNat_natCast,e _ oz,Ni];simp;omega
 refine⟨f,?_⟩;unfold Ku;rw [if_pos f];unfold Pn;rw [Fq,Tf]
 ·exact c
 ·intro x j;rw [c];obtain⟨k,g,rfl⟩:=List.mem_map.1 j;unfold Yo at g;obtain⟨a,b,rfl⟩:=List.mem_map.1 g;rw [List.mem_range,d] at b;have i:=(Xf DS a).1;omega
attribute [local go_sem] Oper.semAt_some Zi Qu
theorem Q0v(w:World)(m2:Tab w):Calls Tryz.prog 16 #[] w fun e w'=>e=.returned (.bool true)/\Ext w w':=by
 have j9:=Zh m2;clear m2;go_enter Tryz.func16,Tryz.ntmps16;go_wp2_with fail;refine(Q08 w).mono ?_;rintro e B ⟨g0,g1,rfl,m8,m0⟩;have d8:=Zh m8;have i8:=Zh m0;clear m8 m0;unfold sV;obtain⟨N,a4⟩:=zE B.heap.size;have g4:((((B.alloc (.cells #[.int .u32 2,.int .u32 5] 26)).alloc (.cells #[.int .u32 3,.int .u32 4] 26)).alloc (.cells #[.int .u32 5,.int .u32 2] 26)).alloc (.cells #[.string ⟨#[]⟩,.int .i64 0,.int .u32 0,.int .u32 0,.bool false,.int .i64 0,.int .i64 0,.slice none 0 0,.int .i64 0,.int .u32 0,.int .u32 0,.bool false,.int .i64 0,.int .i64 0,.slice none 0 0,.slice none 0 0,.slice none 0 0,.int .i64 0] 50)).heap[N+3]?=some (.cells #[.string ⟨#[]⟩,.int .i64 0,.int .u32 0,.int .u32 0,.bool false,.int .i64 0,.int .i64 0,.slice none 0 0,.int .i64 0,.int .u32 0,.int .u32 0,.bool false,.int .i64 0,.int .i64 0,.slice none 0 0,.slice none 0 0,.slice none 0 0,.int .i64 0] 50 (0,0)):=by rw [<-a4];exact Qd zy
 have l5:((((B.alloc (.cells #[.int .u32 2,.int .u32 5] 26)).alloc (.cells #[.int .u32 3,.int .u32 4] 26)).alloc (.cells #[.int .u32 5,.int .u32 2] 26)).alloc (.cells #[.string ⟨#[]⟩,.int .i64 0,.int .u32 0,.int .u32 0,.bool false,.int .i64 0,.int .i64 0,.slice none 0 0,.int .i64 0,.int .u32 0,.int .u32 0,.bool false,.int .i64 0,.int .i64 0,.slice none 0 0,.slice none 0 0,.slice none 0 0,.int .i64 0] 50)).heap[N]?=some (.cells #[.int .u32 2,.int .u32 5] 26 (0,0)):=by rw [<-a4];exact Qj (Qj (Qj (Qd rfl)))
 have l6:((((B.alloc (.cells #[.int .u32 2,.int .u32 5] 26)).alloc (.cells #[.int .u32 3,.int .u32 4] 26)).alloc (.cells #[.int .u32 5,.int .u32 2] 26)).alloc (.cells #[.string ⟨#[]⟩,.int .i64 0,.int .u32 0,.int .u32 0,.bool false,.int .i64 0,.int .i64 0,.slice none 0 0,.int .i64 0,.int .u32 0,.int .u32 0,.bool false,.int .i64 0,.int .i64 0,.slice none 0 0,.slice none 0 0,.slice none 0 0,.int .i64 0] 50)).heap[N+1]?=some (.cells #[.int .u32 3,.int .u32 4] 26 (0,0)):=by rw [<-a4];exact Qj (Qj (Qd zy))
 have l7:((((B.alloc (.cells #[.int .u32 2,.int .u32 5] 26)).alloc (.cells #[.int .u32 3,.int .u32 4] 26)).alloc (.cells #[.int .u32 5,.int .u32 2] 26)).alloc (.cells #[.string ⟨#[]⟩,.int .i64 0,.int .u32 0,.int .u32 0,.bool false,.int .i64 0,.int .i64 0,.slice none 0 0,.int .i64 0,.int .u32 0,.int .u32 0,.bool false,.int .i64 0,.int .i64 0,.slice none 0 0,.slice none 0 0,.slice none 0 0,.int .i64 0] 50)).heap[N+2]?=some (.cells #[.int .u32 5,.int .u32 2] 26 (0,0)):=by rw [<-a4];exact Qj (Qd zy)
 have l8:Ext B ((((B.alloc (.cells #[.int .u32 2,.int .u32 5] 26)).alloc (.cells #[.int .u32 3,.int .u32 4] 26)).alloc (.cells #[.int .u32 5,.int .u32 2] 26)).alloc (.cells #[.string ⟨#[]⟩,.int .i64 0,.int .u32 0,.int .u32 0,.bool false,.int .i64 0,.int .i64 0,.slice none 0 0,.int .i64 0,.int .u32 0,.int .u32 0,.bool false,.int .i64 0,.int .i64 0,.slice none 0 0,.slice none 0 0,.slice none 0 0,.int .i64 0] 50)):=((((Qa.refl _ B).alloc _).alloc _).alloc _).alloc _;obtain⟨a1,i0,i1,i2,i6⟩:=Zh5 g4 l5 l6 l7 l8;clear g4 l5 l6 l7 l8;obtain⟨y,a5⟩:=zE (Xg g0 g1);have n1:(Tryz.prog.info? 50).map (·.size)=some y.size:=by rw [<-a5];kernel_rfl
 have b9:y.all (·.oneCell')=true:=by rw [<-a5];kernel_rfl
 have n2:y.size=18:=by rw [<-a5];rfl
 rw [a5] at d8 ⊢;obtain⟨e2,e1,j5,a8⟩:=Zh4 n2 n1 b9 a5;clear n1 b9 n2 a5
 go_wp2_with (refine wpList_store_row rfl 50 (.tmp 4) (.tmp 20) rfl (N+3) y zr zr _ _ a1.out e1.out (by rw [e2.out];rfl) j5.out ?_)
 have b7:=Qa.setRow ((((B.alloc (.cells #[.int .u32 2,.int .u32 5] 26)).alloc (.cells #[.int .u32 3,.int .u32 4] 26)).alloc (.cells #[.int .u32 5,.int .u32 2] 26)).alloc (.cells #[.string ⟨#[]⟩,.int .i64 0,.int .u32 0,.int .u32 0,.bool false,.int .i64 0,.int .i64 0,.slice none 0 0,.int .i64 0,.int .u32 0,.int .u32 0,.bool false,.int .i64 0,.int .i64 0,.slice none 0 0,.slice none 0 0,.slice none 0 0,.int .i64 0] 50)) (N+3) y;have f7:=setRow_heap _ _ _ y _ _ a1.out;have f4:=b7.heap i0.out oz;have f5:=b7.heap i1.out oz;have f6:=b7.heap i2.out oz;have c8:Ext B (((((B.alloc (.cells #[.int .u32 2,.int .u32 5] 26)).alloc (.cells #[.int .u32 3,.int .u32 4] 26)).alloc (.cells #[.int .u32 5,.int .u32 2] 26)).alloc (.cells #[.string ⟨#[]⟩,.int .i64 0,.int .u32 0,.int .u32 0,.bool false,.int .i64 0,.int .i64 0,.slice none 0 0,.int .i64 0,.int .u32 0,.int .u32 0,.bool false,.int .i64 0,.int .i64 0,.slice none 0 0,.slice none 0 0,.slice none 0 0,.int .i64 0] 50)).setRow (N+3) y):=i6.out.after b7 (fun b h1 h2=>by omega);obtain⟨E,m4⟩:=zE (((((B.alloc (.cells #[.int .u32 2,.int .u32 5] 26)).alloc (.cells #[.int .u32 3,.int .u32 4] 26)).alloc (.cells #[.int .u32 5,.int .u32 2] 26)).alloc (.cells #[.string ⟨#[]⟩,.int .i64 0,.int .u32 0,.int .u32 0,.bool false,.int .i64 0,.int .i64 0,.slice none 0 0,.int .i64 0,.int .u32 0,.int .u32 0,.bool false,.int .i64 0,.int .i64 0,.slice none 0 0,.slice none 0 0,.slice none 0 0,.int .i64 0] 50)).setRow (N+3) y);rw [m4] at f4 f5 f6 f7 c8 ⊢;try simp only [Act.put]
 obtain⟨i3,i4,d4,i5,d5,i9,n8⟩:=Zh7 f4 f5 f6 f7 (i8.out.trans c8) (d8.out.ext c8) a4;clear b7 f4 f5 f6 f7 c8 m4 a1 i0 i1 i2 i6 i8 d8 a4
 go_cut [5,6] from 15 to 24 (fun v5 v6 wx=>∃ d0 c9:Nat,v5=.slice (some ⟨d0,0,none⟩) 1 1/\v6=.slice (some ⟨c9,0,none⟩) 1 1/\wx.heap[d0]?=some (.cells y 50 (0,0))/\wx.heap[c9]?=some (.cells #[.int .u32 5,.int .u32 2] 26 (0,0))/\Ext E wx)
 case first=>
  obtain⟨I,d2⟩:=zE E.drew;have a0:Ext E I:=by rw [<-d2];exact(Qa.refl _ E).drew
  refine Y1 (S:=fun c=>Ext E c) [] kz (by rw [d2];exact a0) ?_;intro _;rw [d2];clear d2;refine tkE (i:=0) (d:=21) (v:=?_) rfl (Or.inl ⟨by rfl,?_⟩) a0 ?_;rotate_left
  ·intro c z;(try dsimp only at z);refine Xe (x:=.tmp 4) ?_ (N+3) ?_ _ _ _ ((show Ext E c from z).keep i5.out) Tryz.underlying50 e1.out <;> rfl
  try simp only [Act.put,pq]
  refine tkE (i:=2) (d:=23) (v:=?_) rfl (Or.inl ⟨by rfl,?_⟩) a0 ?_;rotate_left
  ·intro c z;(try dsimp only at z);refine Xe (x:=.tmp 3) ?_ (N+2) ?_ _ _ _ ((show Ext E c from z).keep d4.out) Tryz.underlying26 kz <;> rfl
  try simp only [Act.put,pq]
  refine rE [1,3] ?_;refine Qb.cons rfl (fun K hK=>?_) (Qb.cons rfl (fun K hK=>?_) Qb.nil)
  ·refine iw rfl ?_;rw [<-a8.out];unfold Xg;go_simp;obtain⟨o,j⟩:=zE (I.alloc (.cells (Xg g0 g1) 50));have Y:o.heap[I.heap.size]?=some (.cells y 50 (0,0)):=by rw [<-j,<-a8.out];exact Qd rfl
   have R:Ext E o:=by rw [<-j];exact a0.alloc _
   have g5:Ext I o:=by rw [<-j];exact(Qa.refl _ _).alloc _
   unfold Xg at j;rw [j];obtain⟨d6,G⟩:=zE I.heap.size;rw [G] at Y ⊢;clear j G;refine hK _ _ R (fun _=>?_);clear hK K;try simp only [Act.put,pq]
   refine tkE (i:=4) (d:=5) (v:=?_) rfl (Or.inl ⟨by rfl,?_⟩) R ?_;rotate_left
   ·intro c z;(try dsimp only at z);go_simp;try with_reducible rfl
   try simp only [Act.put,pq]
   refine rE [3] ?_;refine Qb.cons rfl (fun K hK=>?_) Qb.nil;refine iw rfl ?_;go_simp;obtain⟨X,j⟩:=zE (o.alloc (.cells #[.int .u32 5,.int .u32 2] 26));have Z:X.heap[o.heap.size]?=some (.cells #[.int .u32 5,.int .u32 2] 26 (0,0)):=by rw [<-j];exact Qd rfl
   have H:Ext E X:=by rw [<-j];exact R.alloc _
   have c1:Ext o X:=by rw [<-j];exact(Qa.refl _ _).alloc _
   rw [j];obtain⟨d7,G⟩:=zE o.heap.size;rw [G] at Z ⊢;clear j G;refine hK _ _ H (fun _=>?_);clear hK K;try simp only [Act.put,pq]
   refine tkE (i:=5) (d:=6) (v:=?_) rfl (Or.inl ⟨by rfl,?_⟩) H ?_;rotate_left
   ·intro c z;(try dsimp only at z);go_simp;try with_reducible rfl
   try simp only [Act.put,pq]
   refine Za kz ?_ _;obtain⟨e4,e5,e6⟩:=Zh3 (c1.keep Y) Z H;clear Y Z a0 R H g5 c1;go_wp2
   go_meet
   case rel=>exact⟨d6,d7,rfl,rfl,e4.out,e5.out,e6.out⟩
  ·refine iw rfl ?_;go_simp;obtain⟨o,j⟩:=zE (I.alloc (.cells #[.int .u32 5,.int .u32 2] 26));have Y:o.heap[I.heap.size]?=some (.cells #[.int .u32 5,.int .u32 2] 26 (0,0)):=by rw [<-j];exact Qd rfl
   have R:Ext E o:=by rw [<-j];exact a0.alloc _
   have g5:Ext I o:=by rw [<-j];exact(Qa.refl _ _).alloc _
   rw [j];obtain⟨d6,G⟩:=zE I.heap.size;rw [G] at Y ⊢;clear j G;refine hK _ _ R (fun _=>?_);clear hK K;try simp only [Act.put,pq]
   refine rE [1] ?_;refine Qb.cons rfl (fun K hK=>?_) Qb.nil;refine iw rfl ?_;rw [<-a8.out];unfold Xg;go_simp;obtain⟨X,j⟩:=zE (o.alloc (.cells (Xg g0 g1) 50));have Z:X.heap[o.heap.size]?=some (.cells y 50 (0,0)):=by rw [<-j,<-a8.out];exact Qd rfl
   have H:Ext E X:=by rw [<-j];exact R.alloc _
   have c1:Ext o X:=by rw [<-j];exact(Qa.refl _ _).alloc _
   unfold Xg at j;rw [j];obtain⟨d7,G⟩:=zE o.heap.size;rw [G] at Z ⊢;clear j G;refine hK _ _ H (fun _=>?_);clear hK K;try simp only [Act.put,pq]
   refine tkE (i:=4) (d:=5) (v:=?_) rfl (Or.inl ⟨by rfl,?_⟩) H ?_;rotate_left
   ·intro c z;(try dsimp only at z);go_simp;try with_reducible rfl
   try simp only [Act.put,pq]
   refine tkE (i:=5) (d:=6) (v:=?_) rfl (Or.inl ⟨by rfl,?_⟩) H ?_;rotate_left
   ·intro c z;(try dsimp only at z);go_simp;try with_reducible rfl
   try simp only [Act.put,pq]
   refine Za kz ?_ _;obtain⟨e4,e5,e6⟩:=Zh3 (c1.keep Y) Z H;clear Y Z a0 R H g5 c1;go_wp2
   go_meet
   case rel=>exact⟨d7,d6,rfl,rfl,e5.out,e4.out,e6.out⟩
 obtain⟨d0,c9,rfl,rfl,g6,g7,Q⟩:=hcut;clear e1 j5;generalize wc=J at g6 g7 Q ⊢;have m9:Zg J (.slice (some ⟨d0,0,none⟩) 1 1) [(v15,y.toList)]:=by
  refine⟨Jg (xs:=([(v15,y.toList)]:Zl).flatMap (·.2)) (by simpa using g6) (by simp [e2.out]) (by unfold maxLen;simp),fun p hp=>?_⟩;rw [List.mem_singleton] at hp;subst hp;exact i9.out.ext Q
 have n4:Qf J (.slice (some ⟨c9,0,none⟩) 1 1) [(5,2)]:=⟨Jg (xs:=Zj [(5,2)]) g7 rfl zd,by simp [Zt]⟩;have m3:Tab J:=j9.out.keep (d5.out.trans Q) id;obtain⟨c2,U,c3,W,a2,a3,n6⟩:=Zh7 m9 n4 m3 (Q.keep i3.out) (Q.keep i4.out) (Q.keep d4.out) (d5.out.trans Q);clear m9 n4 m3 g6 g7 Q i3 i4 d4 i5 i9 j9 d5 a8 e2 n8
 -- Outcome
 have o1:J.cell? ⟨N,0,none⟩=some (.int .u32 2):=by rw [cell_of_row J N 0 _ _ _ W.out];rfl
 have o2:J.cell? ⟨N,1,none⟩=some (.int .u32 5):=by rw [cell_of_row J N 1 _ _ _ W.out];rfl
 have b6:=Fs (s:=(2,5)) c2.out rfl U.out U.out ⟨by decide,by decide⟩ c3.out;simp only [List.map_cons,List.map_nil] at b6;rw [Q1i.1,Q1i.2] at b6;unfold sV at b6;have j4:=Zh b6;clear b6;go_wp2_with fail;refine j4.out.mono ?_;rintro e r ⟨v,rfl,b9,m1⟩;obtain⟨p2,p1,rfl,n3⟩:=Ug b9;have e3:=Zh n3;have M:=Zh m1;clear j4 b9 n3 m1 o1 o2;rw [show ([(5,2),(3,4),(5,2)]:Wd).length=3 from rfl] at e3 ⊢;have f8:r.cell? ⟨N,0,none⟩=some (.int .u32 2):=by rw [cell_of_row r N 0 _ _ _ (Ext.keep M.out W.out)];rfl
 have f9:r.cell? ⟨N,1,none⟩=some (.int .u32 5):=by rw [cell_of_row r N 1 _ _ _ (Ext.keep M.out W.out)];rfl
 have b1:r.cell? ⟨N+1,0,none⟩=some (.int .u32 3):=by rw [cell_of_row r (N+1) 0 _ _ _ (Ext.keep M.out a2.out)];rfl
 have b2:r.cell? ⟨N+1,1,none⟩=some (.int .u32 4):=by rw [cell_of_row r (N+1) 1 _ _ _ (Ext.keep M.out a2.out)];rfl
 have b3:r.cell? ⟨N+2,0,none⟩=some (.int .u32 5):=by rw [cell_of_row r (N+2) 0 _ _ _ (Ext.keep M.out a3.out)];rfl
 have b4:r.cell? ⟨N+2,1,none⟩=some (.int .u32 2):=by rw [cell_of_row r (N+2) 1 _ _ _ (Ext.keep M.out a3.out)];rfl
 obtain⟨c6,a⟩:=zE (r.alloc (.cells #[.int .u32 2,.int .u32 5,.int .u32 3,.int .u32 4,.int .u32 5,.int .u32 2] 26));have f:Ext r c6:=by rw [<-a];exact(Qa.refl _ _).alloc _
 obtain⟨O,m⟩:=zE r.heap.size;have l:c6.heap[O]?=some (.cells #[.int .u32 2,.int .u32 5,.int .u32 3,.int .u32 4,.int .u32 5,.int .u32 2] 26 (0,0)):=by rw [<-a];exact Qd m.symm
 have T:Qf c6 (.slice (some ⟨O,0,none⟩) 3 3) [(2,5),(3,4),(5,2)]:=⟨Jg (xs:=Zj [(2,5),(3,4),(5,2)]) l rfl zd,by simp [Zt]⟩;have A:Ext J c6:=M.out.trans f;have L:=Rc (c2.out.ext A) rfl (U.out.ext A) (U.out.ext A) T rfl (Nat.le_refl 3) (c3.out.keep A id);simp only [List.map_cons,List.map_nil] at L;rw [Ns.1,Ns.2,Q38] at L;obtain⟨a7,b0,k,k5⟩:=Zh4 L A a (e3.out.ext f);clear L A a f l T e3;go_wp2_with fail;try rw [k.out]
 refine a7.out.mono ?_;rintro e q ⟨p0,o9,rfl,b8,g3⟩;obtain⟨d9,P,k0⟩:=Zh3 (Rd.of_own b8) (b0.out.trans g3) (k5.out.ext g3);clear a7 b8 g3 b0 k k5 m;clear f8 f9 b1 b2 b3 b4;rw [show ([[(5,2),(3,4),(5,2)],[(5,2),(3,4),(5,2)],[(5,2),(5,2),(5,2)]]:List Wd).length=3 from rfl] at d9 ⊢;have f8:q.cell? ⟨N,0,none⟩=some (.int .u32 2):=by rw [cell_of_row q N 0 _ _ _ (Ext.keep P.out W.out)];rfl
 have f9:q.cell? ⟨N,1,none⟩=some (.int .u32 5):=by rw [cell_of_row q N 1 _ _ _ (Ext.keep P.out W.out)];rfl
 have b1:q.cell? ⟨N+1,0,none⟩=some (.int .u32 3):=by rw [cell_of_row q (N+1) 0 _ _ _ (Ext.keep P.out a2.out)];rfl
 have b2:q.cell? ⟨N+1,1,none⟩=some (.int .u32 4):=by rw [cell_of_row q (N+1) 1 _ _ _ (Ext.keep P.out a2.out)];rfl
 have b3:q.cell? ⟨N+2,0,none⟩=some (.int .u32 5):=by rw [cell_of_row q (N+2) 0 _ _ _ (Ext.keep P.out a3.out)];rfl
 have b4:q.cell? ⟨N+2,1,none⟩=some (.int .u32 2):=by rw [cell_of_row q (N+2) 1 _ _ _ (Ext.keep P.out a3.out)];rfl
 obtain⟨c4,a⟩:=zE (q.alloc (.cells #[.int .u32 2,.int .u32 5,.int .u32 3,.int .u32 4,.int .u32 5,.int .u32 2] 26));have f:Ext q c4:=by rw [<-a];exact(Qa.refl _ _).alloc _
 obtain⟨O,m⟩:=zE q.heap.size;have l:c4.heap[O]?=some (.cells #[.int .u32 2,.int .u32 5,.int .u32 3,.int .u32 4,.int .u32 5,.int .u32 2] 26 (0,0)):=by rw [<-a];exact Qd m.symm
 have T:Qf c4 (.slice (some ⟨O,0,none⟩) 3 3) [(2,5),(3,4),(5,2)]:=⟨Jg (xs:=Zj [(2,5),(3,4),(5,2)]) l rfl zd,by simp [Zt]⟩;have A:Ext J c4:=P.out.trans f;have L:=Sy (c2.out.ext A) rfl (U.out.ext A) (U.out.ext A) T rfl (Nat.le_refl 3) (c3.out.keep A id);simp only [List.map_cons,List.map_nil] at L;rw [Ns.1,Q5e] at L;obtain⟨a7,b0,k,k1,j0⟩:=Zh5 L A a (k0.out.ext f) (d9.out.ext f);clear L A a f l T k0 d9;go_wp2_with fail;try rw [k.out]
 refine a7.out.mono ?_;rintro e e7 ⟨o8,g4,rfl,b8,d1⟩;obtain⟨e0,l3,k2,j1⟩:=Zh4 (Rd.of_own b8) (b0.out.trans d1) (k1.out.ext d1) (j0.out.ext d1);clear a7 b8 d1 b0 k k1 j0 m c2 U c3;clear f8 f9 b1 b2 b3 b4;rw [show ([1,1,2]:List Int).length=3 from rfl] at e0 ⊢;obtain⟨e8,a⟩:=zE (e7.alloc (.cells #[.int .i64 1,.int .i64 2,.int .i64 (-1),.int .i64 3] 3));have f:Ext e7 e8:=by rw [<-a];exact(Qa.refl _ _).alloc _
 obtain⟨O,m⟩:=zE e7.heap.size;have l:e8.heap[O]?=some (.cells #[.int .i64 1,.int .i64 2,.int .i64 (-1),.int .i64 3] 3 (0,0)):=by rw [<-a];exact Qd m.symm
 have g2:=Q3e (w:=e8) (ao:=some ⟨O,0,none⟩) (N:=4) (cap:=4) (sh:=[1,2,-1,3]) (Jg (xs:=Zq [1,2,-1,3]) l rfl zd) rfl;rw [Pj.1,Pj.2] at g2;obtain⟨a1,l4,k,k3,j2,j7⟩:=Zh6 g2 (Qa.trans l3.out f) a (k2.out.ext f) (j1.out.ext f) (e0.out.ext f);clear g2 a f l k2 j1 e0 l3;go_wp2_with fail;try rw [k.out]
 refine a1.out.mono ?_;rintro e u ⟨o6,rfl,m5,b5⟩;obtain⟨o7,⟨_,_,o5,o4,rfl,m6⟩,m7⟩:=m5.rd;obtain⟨l9,n5,rfl,_,d3⟩:=m6 zd;have a6:=d3 0 zd;obtain⟨g8,g9,n0,c0⟩:=m7 0 zd;rw [n0] at a6;obtain⟨a9,k4,j3,j8,i7,j6⟩:=Zh6 (Qa.trans l4.out b5) (k3.out.ext b5) (j2.out.ext b5) (j7.out.ext b5) a6 c0;clear a1 m5 b5 l4 k k3 j2 j7 m m6 m7 d3 a6 c0 n0;have a6:u.cell? ⟨l9,n5,none⟩=some (.slice g8 3 g9):=i7.out;have c0:Rd u (.slice g8 3 g9) 3 1 (Zq [0,1,2]):=j6.out;have n7:=Zh a6;have n9:=Zh c0;rw [show ([[0,1,2]]:List (List Int)).length=1 from rfl];clear i7 j6 a6 c0 M P W;have b1:u.cell? ⟨N+1,0,none⟩=some (.int .u32 3):=by rw [cell_of_row u (N+1) 0 _ _ _ (Ext.keep a9.out a2.out)];rfl
 have b2:u.cell? ⟨N+1,1,none⟩=some (.int .u32 4):=by rw [cell_of_row u (N+1) 1 _ _ _ (Ext.keep a9.out a2.out)];rfl
 have b3:u.cell? ⟨N+2,0,none⟩=some (.int .u32 5):=by rw [cell_of_row u (N+2) 0 _ _ _ (Ext.keep a9.out a3.out)];rfl
 have b4:u.cell? ⟨N+2,1,none⟩=some (.int .u32 2):=by rw [cell_of_row u (N+2) 1 _ _ _ (Ext.keep a9.out a3.out)];rfl
 obtain⟨e9,a⟩:=zE (u.alloc (.cells #[.int .u32 5,.int .u32 2,.int .u32 3,.int .u32 4,.int .u32 5,.int .u32 2] 26));have f:Ext u e9:=by rw [<-a];exact(Qa.refl _ _).alloc _
 obtain⟨k6,m⟩:=zE u.heap.size;have l:e9.heap[k6]?=some (.cells #[.int .u32 5,.int .u32 2,.int .u32 3,.int .u32 4,.int .u32 5,.int .u32 2] 26 (0,0)):=by rw [<-a];exact Qd m.symm
 have T:Qf e9 (.slice (some ⟨k6,0,none⟩) 3 3) [(5,2),(3,4),(5,2)]:=⟨Jg (xs:=Zj [(5,2),(3,4),(5,2)]) l rfl zd,by simp [Zt]⟩;have t:=Q24 (k4.out.ext f) T;rw [decide_eq_true (rfl:([(5,2),(3,4),(5,2)]:Wd)=[(5,2),(3,4),(5,2)])] at t;obtain⟨D,k,C⟩:=Zh3 t a f;clear t a f l T k4;go_wp2_with fail;try rw [k.out]
 refine D.out.mono ?_;rintro e f0 ⟨rfl,F⟩;have f2:=Zh (Qa.trans C.out F);clear D k C F b1 b2 b3 b4;obtain⟨l0,a⟩:=zE (f0.alloc (.cells #[.int .i64 0,.int .i64 0,.int .i64 2] 3));have f:Ext f0 l0:=by rw [<-a];exact(Qa.refl _ _).alloc _
 obtain⟨k7,m⟩:=zE f0.heap.size;have l:l0.heap[k7]?=some (.cells #[.int .i64 0,.int .i64 0,.int .i64 2] 3 (0,0)):=by rw [<-a];exact Qd m.symm
 have t:=Q2v (us:=[0,0,2]) (vs:=[0,0,2]) (j3.out.ext (Qa.trans f2.out f)) (Jg (g:=k7) (n:=3) (cap:=3) (xs:=Zq [0,0,2]) l rfl zd);rw [decide_eq_true (rfl:([0,0,2]:List Int)=[0,0,2])] at t;obtain⟨D,k,C⟩:=Zh3 t a f;clear t a f l;go_wp2_with fail;try rw [k.out]
 refine D.out.mono ?_;rintro e f1 ⟨rfl,F⟩;have f3:=Zh (Qa.trans f2.out (Qa.trans C.out F));clear D k C F f2 j3 m;obtain⟨l1,a⟩:=zE (f1.alloc (.cells #[.int .i64 1,.int .i64 1,.int .i64 2] 3));have f:Ext f1 l1:=by rw [<-a];exact(Qa.refl _ _).alloc _
 obtain⟨k8,m⟩:=zE f1.heap.size;have l:l1.heap[k8]?=some (.cells #[.int .i64 1,.int .i64 1,.int .i64 2] 3 (0,0)):=by rw [<-a];exact Qd m.symm
 have t:=Q2v (us:=[1,1,2]) (vs:=[1,1,2]) (j8.out.ext (Qa.trans f3.out f)) (Jg (g:=k8) (n:=3) (cap:=3) (xs:=Zq [1,1,2]) l rfl zd);rw [decide_eq_true (rfl:([1,1,2]:List Int)=[1,1,2])] at t;obtain⟨D,k,C⟩:=Zh3 t a f;clear t a f l;go_wp2_with fail;try rw [k.out]
 refine D.out.mono ?_;rintro e c5 ⟨rfl,F⟩;have c7:=Zh (Qa.trans f3.out (Qa.trans C.out F));clear D k C F f3 j8 m;have d3:c5.cell? ⟨l9,n5,none⟩=some (.slice g8 3 g9):=Qa.cell_some c7.out n7.out id;obtain⟨l2,a⟩:=zE (c5.alloc (.cells #[.int .i64 0,.int .i64 1,.int .i64 2] 3));have f:Ext c5 l2:=by rw [<-a];exact(Qa.refl _ _).alloc _
 obtain⟨k9,m⟩:=zE c5.heap.size;have l:l2.heap[k9]?=some (.cells #[.int .i64 0,.int .i64 1,.int .i64 2] 3 (0,0)):=by rw [<-a];exact Qd m.symm
 have t:=Q2v (us:=[0,1,2]) (vs:=[0,1,2]) (n9.out.ext (Qa.trans c7.out f)) (Jg (g:=k9) (n:=3) (cap:=3) (xs:=Zq [0,1,2]) l rfl zd);rw [decide_eq_true (rfl:([0,1,2]:List Int)=[0,1,2])] at t;obtain⟨D,k,C⟩:=Zh3 t a f;clear t a f l;go_wp2_with fail;try rw [k.out]
 refine D.out.mono ?_;rintro e o3 ⟨rfl,F⟩;have o0:=Zh (Qa.trans n6.out (Qa.trans a9.out (Qa.trans c7.out (Qa.trans C.out F))));clear D k C F c7 d3;go_wp2;go_ret;exact⟨rfl,o0.out⟩
end Go.Proofs.YtejenndedjabhaaGreatDoor
