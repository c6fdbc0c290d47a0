/- PLAIN: -/
import Derived.Test.YtbmbdoanammlgaaDoorP11
import Derived.Test.YtbmbdoanammlgaaDoorP08
set_option maxRecDepth 100000
set_option maxHeartbeats 16000000
namespace Go.Proofs.YtbmbdoanammlgaaDoor
open Go.RowKit Go.Ab
mutual
def Wc:Pat->Nat
 | .node _ _ _ _ _ _ l=>Zo l+1
def Zo:List Pat->Nat
 | []=>0
 | p::l=>Wc p+Zo l
end
theorem Vg(p:Pat):Wc p=Zo p.l+1:=by cases p;unfold Wc;rfl
theorem X6(a b:List Pat):Zo (a++b)=Zo a+Zo b:=by
 induction a with
 | nil=>simp [Zo]
 | cons p a ih=>simp only [List.cons_append,Zo,ih];omega
theorem Hv(l:List Pat):l.length<=Zo l:=by
 induction l with
 | nil=>simp
 | cons p l ih=>simp only [Zo,List.length_cons,Vg];omega
theorem Ws:∀(f:Nat) (l:List Pat),szW f l=min f (Zo l)
 | 0,l=>by rw [L1];omega
 | f+1,[]=>by simp [szW,Zo]
 | f+1,p::l=>by
  show szW f (p.l++l)+1=_;rw [Ws f,X6];simp only [Zo,Vg];omega
theorem Fv(p:Pat):Ub p=min 41 (Wc p):=by
 unfold Ub;rw [Ws];simp [Zo]
theorem U9(l:List Pat)(c:Nat):min c (Zo (l.take 41))=min c (Zo l)\/41<c:=by
 by_cases a:l.length<=41
 ·rw [List.take_of_length_le a];exact .inl rfl
 ·by_cases d:41<c
  ·exact .inr d
  ·left
   have b:=Hv (l.take 41);have e:=Hv l;rw [List.length_take] at b;omega
mutual
def Zi:Pat->Bool
 | .node k _ _ _ mn _ l=>if k=0 then true else if k=3 then Kv l else if k=4 then Kz l else if k=5 then mn == 0 || Kk l else false
def Kv:List Pat->Bool
 | []=>true
 | p::l=>Zi p && Kv l
def Kz:List Pat->Bool
 | []=>false
 | p::l=>Zi p || Kz l
def Kk:List Pat->Bool
 | []=>false
 | p::_=>Zi p
end
theorem F9(k:Int)(pl mi:Nat)(nt:Bool)(mn mx:Int)(l:List Pat):Zi (.node k pl mi nt mn mx l)=if k=0 then true else if k=3 then Kv l else if k=4 then Kz l else if k=5 then mn == 0 || Kk l else false:=by
 unfold Zi;rfl
theorem Ml(l:List Pat):Kz l=l.any Zi:=by
 induction l with
 | nil=>rfl
 | cons p l ih=>unfold Kz;rw [ih];rfl
theorem Mg(l:List Pat):Kv l=!(l.any fun p=>!Zi p):=by
 induction l with
 | nil=>rfl
 | cons p l ih=>unfold Kv;rw [ih,List.any_cons,Bool.not_or,Bool.not_not]
def Xw(p:Pat):Bool:=decide (Ze p=0) && Zi p
attribute [local go_sem] Oper.semAt_some Zx Z4
theorem Tryd.patSize (cs:Array Value) (h:cs.size=7):(Tryd.prog.info? 27).map (·.size)=some cs.size:=by rw [h];kernel_rfl
theorem Tryd.sndSize (cs:Array Value) (h:cs.size=2):(Tryd.prog.info? 25).map (·.size)=some cs.size:=by rw [h];kernel_rfl
theorem K7{fn:Func}{p:Tmp}(h:fn.results=#[.cell p 25]){tmps:Array Value}{w:World}{g:Nat}{cs:Array Value}(hs:cs.size=2)(hp:tmps.getD p undef=.pointer (some ⟨g,0,none⟩)) (hg:w.heap[g]?=some (.cells cs 25 (0,0))) :
  (results fn tmps).run Tryd.prog w=.ok (.agg cs) w:=results_cell_row h tmps w g _ _ _ _ hp hg Tryd.underlying25 rfl (Tryd.sndSize _ hs)
theorem J3{fn:Func}{p:Tmp}(h:fn.results=#[.cell p 27]){tmps:Array Value}{w:World}{g:Nat}{cs:Array Value}(hs:cs.size=7)(hp:tmps.getD p undef=.pointer (some ⟨g,0,none⟩)) (hg:w.heap[g]?=some (.cells cs 27 (0,0))) :
  (results fn tmps).run Tryd.prog w=.ok (.agg cs) w:=results_cell_row h tmps w g _ _ _ _ hp hg Tryd.underlying27 rfl (Tryd.patSize _ hs)
theorem Vi(w:World):Calls Tryd.prog 12 #[] w fun e w'=>e=.returned (.agg #[.int .u32 2,.int .u32 5])∧Ext w w':=by
 go_enter Tryd.func12,Tryd.ntmps12
 go_wp2
 exact bodyPost_ret (K7 rfl rfl rfl (Q9 rfl)) rfl ⟨rfl,(Q1.refl _ w).alloc _⟩
theorem K9(w:World):Calls Tryd.prog 29 #[] w fun e w'=>e=.returned (.agg #[.int .u32 4,.int .u32 2])∧Ext w w':=by
 go_enter Tryd.func29,Tryd.ntmps29
 go_wp2
 exact bodyPost_ret (K7 rfl rfl rfl (Q9 rfl)) rfl ⟨rfl,(Q1.refl _ w).alloc _⟩
theorem Nl(w:World):Calls Tryd.prog 8 #[] w fun e w'=>e=.returned (.agg (Q2 1 4 0 false 0 0 none 0 0).toArray)∧Ext w w':=by
 go_enter Tryd.func8,Tryd.ntmps8
 go_wp2
 exact bodyPost_ret (J3 rfl rfl rfl (Q9 rfl)) rfl ⟨rfl,(Q1.refl _ w).alloc _⟩
theorem Nn(w:World):Calls Tryd.prog 30 #[] w fun e w'=>e=.returned (.agg (Q2 1 2 0 false 0 0 none 0 0).toArray)∧Ext w w':=by
 go_enter Tryd.func30,Tryd.ntmps30
 go_wp2
 exact bodyPost_ret (J3 rfl rfl rfl (Q9 rfl)) rfl ⟨rfl,(Q1.refl _ w).alloc _⟩
theorem Mo(ao:Option Addr)(n cap:Nat)(w:World):Calls Tryd.prog 4 #[.slice ao n cap] w fun e w'=>e=.returned (.agg (Q2 3 0 0 false 0 0 ao n cap).toArray)∧Ext w w':=by
 go_enter Tryd.func4,Tryd.ntmps4
 go_wp2
 exact bodyPost_ret (J3 rfl rfl rfl (Q9 rfl)) rfl ⟨rfl,(Q1.refl _ w).alloc _⟩
theorem Jm{K:Nat→Prop}{w:World}{p:Pat}{cs:List Value}(hp:Qc K w p cs)(lo hi:Int) :
  Calls Tryd.prog 5 #[.agg cs.toArray,.int .i64 lo,.int .i64 hi] w fun e w'=>∃ ds,e=.returned (.agg ds.toArray)∧Qc (fun g=>K g∨w.heap.size≤g) w' (.node 5 0 0 false lo hi [p]) ds∧Ext w w':=by
 have hp0:=hp
 obtain⟨ao,cap,hc,hlc,hcm,_⟩:=Qj hp
 rw [hc] at hp0 ⊢
 clear hc hp
 have HP:=Lib.hid hp0
 obtain⟨N,hN⟩:∃ N,p.l.length=N:=⟨_,rfl⟩
 rw [hN] at HP ⊢
 clear hp0 hlc hcm hN
 obtain⟨k,hk⟩:∃ x,p.k=x:=⟨_,rfl⟩
 obtain⟨pl,hpl⟩:∃ x,p.pl=x:=⟨_,rfl⟩
 obtain⟨mi,hmi⟩:∃ x,p.mi=x:=⟨_,rfl⟩
 obtain⟨nt,hnt⟩:∃ x,p.nt=x:=⟨_,rfl⟩
 obtain⟨mn,hmn⟩:∃ x,p.mn=x:=⟨_,rfl⟩
 obtain⟨mx,hmx⟩:∃ x,p.mx=x:=⟨_,rfl⟩
 rw [hk,hpl,hmi,hnt,hmn,hmx] at HP ⊢
 clear hk hpl hmi hnt hmn hmx
 unfold Q2
 go_enter Tryd.func5,Tryd.ntmps5
 go_wp2
 refine bodyPost_ret (J3 (g:=w.heap.size+1) (cs:=(Q2 5 0 0 false lo hi (some ⟨w.heap.size+2,0,none⟩) 1 1).toArray) rfl rfl rfl ?_) rfl ⟨Q2 5 0 0 false lo hi (some ⟨w.heap.size+2,0,none⟩) 1 1,rfl,?_,?_⟩
 ·exact Qs (Q9 (by simp))
 ·have hE:Ext w _:=(((Q1.refl (fun _=>False) w).alloc (.cells #[.int .i64 k,.int .u32 (pl:Int),.int .u32 (mi:Int),.bool nt,.int .i64 mn,.int .i64 mx,.slice ao N cap] 27)).alloc (.cells (Q2 5 0 0 false lo hi (some ⟨w.heap.size+2,0,none⟩) 1 1).toArray 27)).alloc (.cells #[.int .i64 k,.int .u32 (pl:Int),.int .u32 (mi:Int),.bool nt,.int .i64 mn,.int .i64 mx,.slice ao N cap] 27)
  have hp:=(HP.out.mono (L:=fun g=>K g∨w.heap.size≤g) (fun g h=>.inl h)).ext hE
  unfold Qc
  refine⟨_,_,rfl,by decide,by decide,by simp,by decide,Qe.mk fun j hj=>?_⟩
  obtain rfl:j=0:=by simpa using hj
  refine⟨w.heap.size+2,0,_,rfl,.inr (by omega),by simp,fun j v hv=>?_,hp⟩
  have:=Xf (w:=((w.alloc (.cells #[.int .i64 k,.int .u32 (pl:Int),.int .u32 (mi:Int),.bool nt,.int .i64 mn,.int .i64 mx,.slice ao N cap] 27)).alloc (.cells (Q2 5 0 0 false lo hi (some ⟨w.heap.size+2,0,none⟩) 1 1).toArray 27))) (n:=w.heap.size+2) (t:=27) (by simp) j v hv
  rw [Addr.add_mid] at this
  have h2:0+(0+0)*7+j=0+j:=by omega
  rw [h2]
  exact this
 ·exact(((Q1.refl _ w).alloc _).alloc _).alloc _
theorem Lx{xs:List Value}(h:xs.length=7):∃ a0 a1 a2 a3 a4 a5 a6,xs=[a0,a1,a2,a3,a4,a5,a6]:=by
 match xs,h with
 | [a0,a1,a2,a3,a4,a5,a6],_=>exact⟨_,_,_,_,_,_,_,rfl⟩
theorem Fq{w:World}{g o:Nat}{cs:List Value}{a0 a1 a2 a3 a4 a5 a6:Value}(h:w.rangeAt g o cs)(e:cs=[a0,a1,a2,a3,a4,a5,a6]) :
  w.cell? ⟨g,o,none⟩=some a0∧w.cell? ⟨g,o+1,none⟩=some a1∧w.cell? ⟨g,o+2,none⟩=some a2∧w.cell? ⟨g,o+3,none⟩=some a3∧w.cell? ⟨g,o+4,none⟩=some a4∧w.cell? ⟨g,o+5,none⟩=some a5∧w.cell? ⟨g,o+6,none⟩=some a6:=by
 subst e
 exact⟨h 0 _ rfl,h 1 _ rfl,h 2 _ rfl,h 3 _ rfl,h 4 _ rfl,h 5 _ rfl,h 6 _ rfl⟩
theorem K3:∀ {cs cur:List Value} {o:Nat} {v:Value},v∈Zf cur o cs→v∈cur∨v∈cs
 | [],_,_,_,h=>.inl h
 | c::cs,cur,o,v,h=>by
  unfold Zf at h
  rcases K3 h with h | h
  ·rcases List.mem_or_eq_of_mem_set h with h | rfl
   ·exact .inl h
   ·exact .inr (List.mem_cons_self ..)
  ·exact .inr (List.mem_cons_of_mem _ h)
theorem Xb{xs:List Value}{j:Nat}{v:Value}(h:v∈Qo xs j):v∈xs:=List.mem_of_mem_drop (List.mem_of_mem_take h)
theorem Xm{l:List Value}(h:∀ v∈l,v.oneCell'=true):l.toArray.all (·.oneCell')=true:=by
 rw [Array.all_eq_true]
 intro i hi
 exact h _ (by simp)
theorem W5{xs ys A B:List Value}{n i j:Nat}(hl:ys.length=n*7)(hj:j<n)(hi:i<j)(hz:(j:Int)=(n:Int) - 1 - i) (hch:∀ k,k<n→Qo ys k=if k<i∨(j:Int)<(k:Int) then Qo xs (n - 1 - k) else Qo xs k)
  (ea:Qo ys i=A) (eb:Qo ys j=B) (hA:A.length=7) (hB:B.length=7) :
  ∀ k,k<n→Qo (Zf (Zf ys (i*7) B) (j*7) A) k=if k<i+1∨(j:Int) - 1<(k:Int) then Qo xs (n - 1 - k) else Qo xs k:=by
 intro k hk
 rw [Kj (n:=n) (by rw [Yv];exact hl) hj hA]
 by_cases h1:k=j
 ·subst h1
  rw [if_pos rfl,if_pos (by omega),← ea,hch i (by omega),if_neg (by omega)]
  congr 1;omega
 ·rw [if_neg h1,Kj (n:=n) hl (by omega) hB]
  by_cases h2:k=i
  ·subst h2
   rw [if_pos rfl,if_pos (by omega),← eb,hch j hj,if_neg (by omega)]
   congr 1;omega
  ·rw [if_neg h2,hch k hk]
   by_cases h3:k<i∨(j:Int)<(k:Int)
   ·rw [if_pos h3,if_pos (by omega)]
   ·rw [if_neg h3,if_neg (by omega)]
theorem Wy{ys A B:List Value}{i j:Nat}(h:∀ v∈ys,v.oneCell'=true)(ea:Qo ys i=A)(eb:Qo ys j=B):∀ v∈Zf (Zf ys (i*7) B) (j*7) A,v.oneCell'=true:=by
 intro v hv
 rcases K3 hv with hv | hv
 ·rcases K3 hv with hv | hv
  ·exact h v hv
  ·exact h v (Xb (by rw [eb];exact hv))
 ·exact h v (Xb (by rw [ea];exact hv))
theorem Wm{w W A B:World}{v:Value}{g:Nat}(hT:Q1 (fun b=>v.ownBlock=some b) w W) (h2:Q1 (·=g) W.drew A) (h3:Q1 (·=g) A B) (hv:v.ownBlock=some g):Q1 (fun b=>v.ownBlock=some b) w B:=
 ((hT.drew).trans (h2.mono (fun b _ e=>by rw [hv,e]))).trans (h3.mono (fun b _ e=>by rw [hv,e]))
theorem Hr{w:World}{base n cap:Nat}{ao:Option Addr}{xs:List Value}(hO:w.ownsRow base 27 7 (.slice ao n cap) n xs) (h1:∀ v∈xs,v.oneCell'=true) :
  Calls Tryd.prog 33 #[.slice ao n cap] w fun e w'=>e=.returned (.tuple #[])∧∃ xs',w'.ownsRow base 27 7 (.slice ao n cap) n xs'∧(∀ k,k<n→Qo xs' k=Qo xs (n - 1 - k))∧Q1 (fun b=>(Value.slice ao n cap).ownBlock=some b) w w':=by
 have hnm:=Nat.le_trans (Kt hO).1 (Kt hO).2
 unfold maxLen at hnm
 have HO:=Lib.hid hO;have HX:=Lib.hid h1
 clear hO h1
 go_enter Tryd.func33,Tryd.ntmps33
 go_wp2
 refine wp_loop (fun a W=>∃(i:Nat) (z:Int) (ys:List Value),i≤n∧z=(n:Int) - 1 - i∧((i:Int)≤z+2)∧a.defers=[]∧(a.tmps.size=28∧a.tmps.getD 0 undef=.slice ao n cap∧a.tmps.getD 2 undef=.int .i64 i∧a.tmps.getD 3 undef=.int .i64 z)∧W.ownsRow base 27 7 (.slice ao n cap) n ys∧(∀ v∈ys,v.oneCell'=true) ∧
   (∀ k,k<n→Qo ys k=if k<i∨z<(k:Int) then Qo xs (n - 1 - k) else Qo xs k)∧Q1 (fun b=>(Value.slice ao n cap).ownBlock=some b) w W)
  (fun a _=>n - (intOf (a.tmps.getD 2 undef)).toNat) ?_ ?_
 ·refine⟨0,(n:Int) - 1,xs,by omega,by omega,by omega,rfl,⟨rfl,rfl,rfl,by go_num⟩,HO.out,HX.out,?_,Q1.refl _ _⟩
  intro k hk
  rw [if_neg (by omega)]
 rintro⟨t,_⟩ W ⟨i,z,ys,hi,hz,hiz,hds,⟨hsz,f0,f2,f3⟩,hOW,hX1,hch,hT⟩
 subst hds
 obtain⟨u',hu⟩:=Zb hsz
 obtain⟨u,rfl⟩:∃ x,x=u':=⟨_,rfl⟩
 have hu':t=#[u 0,u 1,u 2,u 3,u 4,u 5,u 6,u 7,u 8,u 9,u 10,u 11,u 12,u 13,u 14,u 15,u 16,u 17,u 18,u 19,u 20,u 21,u 22,u 23,u 24,u 25,u 26,u 27]:=hu
 clear hu
 subst hu'
 change u 0=_ at f0
 change u 2=_ at f2
 change u 3=_ at f3
 rw [f0,f2,f3]
 clear f0 f2 f3 hsz
 have HOW:=Lib.hid hOW;have HX1:=Lib.hid hX1;have HCH:=Lib.hid hch;have HT:=Lib.hid hT
 clear hOW hX1 hch hT
 by_cases hlt:(i:Int)<z
 ·obtain⟨j,rfl⟩:∃ j:Nat,z=j:=⟨z.toNat,by omega⟩
  have hjn:(j:Int)<(n:Int):=by omega
  have hin:(i:Int)<(n:Int):=by omega
  have hj0:(0:Int)≤(j:Int):=by omega
  have hi0:(0:Int)≤(i:Int):=by omega
  obtain⟨g,rfl⟩:=H3 HOW.out (by omega)
  obtain⟨a0,a1,a2,a3,a4,a5,a6,ea⟩:=Lx (Un HOW.out.1 (show i<n by omega))
  obtain⟨b0,b1,b2,b3,b4,b5,b6,eb⟩:=Lx (Un HOW.out.1 (show j<n by omega))
  obtain⟨c0,c1,c2,c3,c4,c5,c6⟩:=Fq (Uw HOW.out i) ea
  obtain⟨d0,d1,d2,d3,d4,d5,d6⟩:=Fq (Uw HOW.out j) eb
  have EA:=Lib.hid ea;have EB:=Lib.hid eb;have HZ:=Lib.hid hz
  clear ea eb hz
  go_wp2
  refine wp_region_held_drew (S:=fun _=>True) (by kernel_rfl) trivial ?_
  intro _
  -- WALK
  refine tkH (i:=0) (d:=14) (v:=?_) rfl (Or.inl ⟨by rfl,?_⟩) trivial ?_
  rotate_left
  ·intro w hSw;(try dsimp only at hSw);go_simp;try with_reducible rfl
  try simp only [Act.put,pq]
  refine tkH (i:=1) (d:=15) (v:=?_) rfl (Or.inl ⟨by rfl,?_⟩) trivial ?_
  rotate_left
  ·intro w hSw;(try dsimp only at hSw);go_simp;try with_reducible rfl
  try simp only [Act.put,pq]
  refine tkH (i:=2) (d:=16) (v:=?_) rfl (Or.inl ⟨by rfl,?_⟩) trivial ?_
  rotate_left
  ·intro w hSw;(try dsimp only at hSw);go_simp;try with_reducible rfl
  try simp only [Act.put,pq]
  refine tkH (i:=3) (d:=17) (v:=?_) rfl (Or.inl ⟨by rfl,?_⟩) trivial ?_
  rotate_left
  ·intro w hSw;(try dsimp only at hSw);go_simp;try with_reducible rfl
  try simp only [Act.put,pq]
  refine tkH (i:=4) (d:=18) (v:=?_) rfl (Or.inl ⟨by rfl,?_⟩) trivial ?_
  rotate_left
  ·intro w hSw;(try dsimp only at hSw);go_simp;try with_reducible rfl
  try simp only [Act.put,pq]
  refine tkH (i:=5) (d:=19) (v:=?_) rfl (Or.inl ⟨by rfl,?_⟩) trivial ?_
  rotate_left
  ·intro w hSw;(try dsimp only at hSw);go_simp;try with_reducible rfl
  try simp only [Act.put,pq]
  refine tkH (i:=6) (d:=20) (v:=?_) rfl (Or.inl ⟨by rfl,?_⟩) trivial ?_
  rotate_left
  ·intro w hSw;(try dsimp only at hSw);go_simp;try with_reducible rfl
  try simp only [Act.put,pq]
  refine tkH (i:=8) (d:=22) (v:=?_) rfl (Or.inl ⟨by rfl,?_⟩) trivial ?_
  rotate_left
  ·intro w hSw;(try dsimp only at hSw);go_simp;try with_reducible rfl
  try simp only [Act.put,pq]
  refine tkH (i:=9) (d:=23) (v:=?_) rfl (Or.inl ⟨by rfl,?_⟩) trivial ?_
  rotate_left
  ·intro w hSw;(try dsimp only at hSw);go_simp;try with_reducible rfl
  try simp only [Act.put,pq]
  refine tkH (i:=10) (d:=24) (v:=?_) rfl (Or.inl ⟨by rfl,?_⟩) trivial ?_
  rotate_left
  ·intro w hSw;(try dsimp only at hSw);go_simp;try with_reducible rfl
  try simp only [Act.put,pq]
  refine wpAnyH_ready (rs:=[7,11]) (by kernel_rfl) (by simp) ?_
  refine AllReadyH.cons rfl (fun K hK=>?_) (AllReadyH.cons rfl (fun K hK=>?_) (AllReadyH.nil))
  ·(try rw [if_pos (show Region.wanted _ _=true from rfl)])
   go_simp
   refine hK.out _ _ trivial (fun _=>?_)
   clear hK K
   try simp only [Act.put,pq]
   refine wpAnyH_ready (rs:=[11]) (by kernel_rfl) (by simp) ?_
   refine AllReadyH.cons rfl (fun K hK=>?_) (AllReadyH.nil)
   (try rw [if_pos (show Region.wanted _ _=true from rfl)])
   go_simp
   refine hK.out _ _ trivial (fun _=>?_)
   clear hK K
   try simp only [Act.put,pq]
   have hO1:=Y5 HOW.out ((Q1.refl (fun _=>False) W).drew)
   refine tkH (i:=12) (d:=26) (v:=?_) rfl (Or.inl ⟨by rfl,?_⟩) trivial ?_
   rotate_left
   ·intro w hSw;(try dsimp only at hSw);go_simp;try with_reducible rfl
   try simp only [Act.put,pq]
   refine wpAnyH_ready (rs:=[13]) (by kernel_rfl) (by simp) ?_
   refine AllReadyH.cons rfl (fun K hK=>?_) (AllReadyH.nil)
   (try rw [if_pos (show Region.wanted _ _=true from rfl)])
   refine wp_store_mid 27 (.tmp 26) (.tmp 21) rfl g (i*7) #[b0,b1,b2,b3,b4,b5,b6] rfl rfl (Yl hO1 (by simp only [List.size_toArray,List.length_cons,List.length_nil];omega)) (by kernel_rfl) (Xm ?hone) ?_
   case hone=>intro v hv;exact HX1.out v (Xb (j:=j) (by rw [EB.out];exact hv))
   refine hK.out _ _ trivial (fun _=>?_)
   clear hK K
   change wpAnyH _ _ _ _ _ _ _ (Act.put _ none _) _
   simp only [Act.put]
   have hO2:=J2 (cs:=[b0,b1,b2,b3,b4,b5,b6]) hO1 (show i<n by omega) rfl
   refine tkH (i:=14) (d:=27) (v:=?_) rfl (Or.inl ⟨by rfl,?_⟩) trivial ?_
   rotate_left
   ·intro w hSw;(try dsimp only at hSw);go_simp;try with_reducible rfl
   try simp only [Act.put,pq]
   refine wpAnyH_ready (rs:=[15]) (by kernel_rfl) (by simp) ?_
   refine AllReadyH.cons rfl (fun K hK=>?_) (AllReadyH.nil)
   (try rw [if_pos (show Region.wanted _ _=true from rfl)])
   refine wp_store_mid 27 (.tmp 27) (.tmp 25) rfl g (j*7) #[a0,a1,a2,a3,a4,a5,a6] rfl rfl (Yl hO2 (by simp only [List.size_toArray,List.length_cons,List.length_nil];omega)) (by kernel_rfl) (Xm ?hone) ?_
   case hone=>intro v hv;exact HX1.out v (Xb (j:=i) (by rw [EA.out];exact hv))
   refine hK.out _ _ trivial (fun _=>?_)
   clear hK K
   change wpAnyH _ _ _ _ _ _ _ (Act.put _ none _) _
   simp only [Act.put]
   have hO3:=J2 (cs:=[a0,a1,a2,a3,a4,a5,a6]) hO2 (show j<n by omega) rfl
   refine wpAnyH_done (by kernel_rfl) ?_ _
   have hT3:=(Q1.setCells (W.drew.setCells g (i*7) [b0,b1,b2,b3,b4,b5,b6]) g [a0,a1,a2,a3,a4,a5,a6] (j*7))
   have hT2:=(Q1.setCells W.drew g [b0,b1,b2,b3,b4,b5,b6] (i*7))
   have hFI:=Wm HT.out hT2 hT3 rfl
   have HO3:=Lib.hid hO3;have HFI:=Lib.hid hFI
   have hCH:=W5 HOW.out.1 (show j<n by omega) (show i<j by omega) HZ.out HCH.out EA.out EB.out rfl rfl
   have HC2:=Lib.hid hCH
   have hX2:=Wy HX1.out EA.out EB.out (i:=i) (j:=j)
   have HX2:=Lib.hid hX2
   clear hO1 hO2 hO3 hT2 hT3 hFI hCH hX2 c0 c1 c2 c3 c4 c5 c6 d0 d1 d2 d3 d4 d5 d6
   go_wp2
   have hz2:=HZ.out
   exact⟨⟨i+1,(j:Int) - 1,_,by omega,by omega,by omega,by first | rfl | trivial,⟨rfl,rfl,by simp,rfl⟩,HO3.out,HX2.out,HC2.out,HFI.out⟩,by simp [intOf];omega⟩
  ·(try rw [if_pos (show Region.wanted _ _=true from rfl)])
   go_simp
   refine hK.out _ _ trivial (fun _=>?_)
   clear hK K
   try simp only [Act.put,pq]
   refine wpAnyH_ready (rs:=[7]) (by kernel_rfl) (by simp) ?_
   refine AllReadyH.cons rfl (fun K hK=>?_) (AllReadyH.nil)
   (try rw [if_pos (show Region.wanted _ _=true from rfl)])
   go_simp
   refine hK.out _ _ trivial (fun _=>?_)
   clear hK K
   try simp only [Act.put,pq]
   have hO1:=Y5 HOW.out ((Q1.refl (fun _=>False) W).drew)
   refine tkH (i:=12) (d:=26) (v:=?_) rfl (Or.inl ⟨by rfl,?_⟩) trivial ?_
   rotate_left
   ·intro w hSw;(try dsimp only at hSw);go_simp;try with_reducible rfl
   try simp only [Act.put,pq]
   refine wpAnyH_ready (rs:=[13]) (by kernel_rfl) (by simp) ?_
   refine AllReadyH.cons rfl (fun K hK=>?_) (AllReadyH.nil)
   (try rw [if_pos (show Region.wanted _ _=true from rfl)])
   refine wp_store_mid 27 (.tmp 26) (.tmp 21) rfl g (i*7) #[b0,b1,b2,b3,b4,b5,b6] rfl rfl (Yl hO1 (by simp only [List.size_toArray,List.length_cons,List.length_nil];omega)) (by kernel_rfl) (Xm ?hone) ?_
   case hone=>intro v hv;exact HX1.out v (Xb (j:=j) (by rw [EB.out];exact hv))
   refine hK.out _ _ trivial (fun _=>?_)
   clear hK K
   change wpAnyH _ _ _ _ _ _ _ (Act.put _ none _) _
   simp only [Act.put]
   have hO2:=J2 (cs:=[b0,b1,b2,b3,b4,b5,b6]) hO1 (show i<n by omega) rfl
   refine tkH (i:=14) (d:=27) (v:=?_) rfl (Or.inl ⟨by rfl,?_⟩) trivial ?_
   rotate_left
   ·intro w hSw;(try dsimp only at hSw);go_simp;try with_reducible rfl
   try simp only [Act.put,pq]
   refine wpAnyH_ready (rs:=[15]) (by kernel_rfl) (by simp) ?_
   refine AllReadyH.cons rfl (fun K hK=>?_) (AllReadyH.nil)
   (try rw [if_pos (show Region.wanted _ _=true from rfl)])
   refine wp_store_mid 27 (.tmp 27) (.tmp 25) rfl g (j*7) #[a0,a1,a2,a3,a4,a5,a6] rfl rfl (Yl hO2 (by simp only [List.size_toArray,List.length_cons,List.length_nil];omega)) (by kernel_rfl) (Xm ?hone) ?_
   case hone=>intro v hv;exact HX1.out v (Xb (j:=i) (by rw [EA.out];exact hv))
   refine hK.out _ _ trivial (fun _=>?_)
   clear hK K
   change wpAnyH _ _ _ _ _ _ _ (Act.put _ none _) _
   simp only [Act.put]
   have hO3:=J2 (cs:=[a0,a1,a2,a3,a4,a5,a6]) hO2 (show j<n by omega) rfl
   refine wpAnyH_done (by kernel_rfl) ?_ _
   have hT3:=(Q1.setCells (W.drew.setCells g (i*7) [b0,b1,b2,b3,b4,b5,b6]) g [a0,a1,a2,a3,a4,a5,a6] (j*7))
   have hT2:=(Q1.setCells W.drew g [b0,b1,b2,b3,b4,b5,b6] (i*7))
   have hFI:=Wm HT.out hT2 hT3 rfl
   have HO3:=Lib.hid hO3;have HFI:=Lib.hid hFI
   have hCH:=W5 HOW.out.1 (show j<n by omega) (show i<j by omega) HZ.out HCH.out EA.out EB.out rfl rfl
   have HC2:=Lib.hid hCH
   have hX2:=Wy HX1.out EA.out EB.out (i:=i) (j:=j)
   have HX2:=Lib.hid hX2
   clear hO1 hO2 hO3 hT2 hT3 hFI hCH hX2 c0 c1 c2 c3 c4 c5 c6 d0 d1 d2 d3 d4 d5 d6
   go_wp2
   have hz2:=HZ.out
   exact⟨⟨i+1,(j:Int) - 1,_,by omega,by omega,by omega,by first | rfl | trivial,⟨rfl,rfl,by simp,rfl⟩,HO3.out,HX2.out,HC2.out,HFI.out⟩,by simp [intOf];omega⟩
  -- END
 ·have h1:¬ (i:Int)<z:=hlt
  have hfin:∀ k,k<n→Qo ys k=Qo xs (n - 1 - k):=by
   intro k hk
   rw [HCH.out k hk]
   by_cases h3:k<i∨z<(k:Int)
   ·rw [if_pos h3]
   ·rw [if_neg h3];congr 1;omega
  have HF:=Lib.hid hfin
  clear hfin hz hiz
  go_wp2
  refine bodyPost_end (results_none rfl _ _ _) rfl ?_
  exact⟨rfl,ys,HOW.out,HF.out,HT.out⟩
theorem Stk.append{K:Nat->Prop}{W:World}{ps qs:List Pat}{xs f:List Value}(h:Stk K W ps xs)(k:Stk K W qs f):Stk K W (ps++qs) (xs++f):=by
 refine⟨by rw [List.length_append,h.1,k.1,List.length_append];omega,fun i hi=>?_⟩;by_cases e:i<ps.length
 ·obtain⟨a,b,c,d⟩:=h.2 i e;refine⟨a,b,fun j v hj=>?_,by rw [List.getElem_append_left e];exact d⟩;have:=c j v hj;rw [List.getElem?_append_left (List.getElem?_eq_some_iff.1 this).1];exact this
 ·obtain⟨a,b,c,d⟩:=k.2 (i - ps.length) (by simp at hi;omega);refine⟨a,b,fun j v hj=>?_,by rw [List.getElem_append_right oz];exact d⟩;have:=c j v hj;rw [List.getElem?_append_right (by rw [h.1];omega),h.1];rw [show i*7+j - ps.length*7=(i - ps.length)*7+j by omega];exact this
theorem Qe.row{K:Nat->Prop}{w:World}{l:List Pat}{ao:Option Addr}(h:Qe K w l ao 0)(cap:Nat):∀ T,T<=l.length->T<=maxLen ->
  ∃ news,Rd w (.slice ao T cap) T 7 news/\Stk K w (l.take T) news/\∀ v∈news,v.oneCell'=true
 | 0,_,_=>⟨[],⟨rfl,Nat.zero_le _,ao,cap,rfl,fun h=>absurd h zd⟩,Stk.nil K w,fun v hv=>by cases hv⟩
 | T+1,hT,hm=>by
  obtain⟨news,hr,hs,h1⟩:=Qe.row h cap T oz oz;obtain⟨g,off,c,rfl,hg,hgl,hra,hp⟩:=h.get T oz;obtain⟨qo,qcap,hc,_⟩:=Qj hp;have hc7:c.length=7:=by rw [hc];rfl
  rw [Nat.zero_add] at hra;obtain⟨hl,_,_,_,e,h3⟩:=hr;refine⟨news++c,⟨by rw [List.length_append,hl,hc7];omega,hm,_,cap,rfl,fun _=>⟨g,off,rfl,hgl,fun j hj=>?_⟩⟩,?_,?_⟩
  ·by_cases hjT:j<T*7
   ·obtain⟨g',off',e1,_,h4⟩:=h3 oz;simp only [zV] at e;obtain⟨e,_⟩:=e;rw [<-e] at e1;cases e1;rw [h4 j hjT,List.getD_eq_getElem?_getD,List.getD_eq_getElem?_getD,List.getElem?_append_left oz]
   ·have hjc:j - T*7<c.length:=by omega
    have:=hra (j - T*7) _ (List.getElem?_eq_getElem hjc);rw [show off+T*7+(j - T*7)=off+j by omega] at this;rw [this,List.getD_eq_getElem?_getD,List.getElem?_append_right oz,hl,List.getElem?_eq_getElem hjc,Option.getD_some]
  ·rw [List.take_succ_eq_append_getElem oz];exact hs.push hc7 hp
  ·intro v hv;rcases List.mem_append.1 hv with hv | hv
   ·exact h1 v hv
   ·rw [hc] at hv;exact Qv v hv
theorem K5{K:Nat->Prop}{w:World}{p:Pat}{cs:List Value}(b5:Qc K w p cs)(f2:∀ g,K g->g<w.heap.size) :
  Calls Tryd.prog 7 #[.agg cs.toArray] w fun e w'=>e=.returned (.int .i64 (Ub p))/\Ext w w':=by
 have b6:=b5;obtain⟨f,i,rfl,f5,f4,_⟩:=Qj b5;obtain⟨t,d4⟩:=zE p.k;obtain⟨B,d9⟩:=zE p.pl;obtain⟨u,d5⟩:=zE p.mi;obtain⟨A,d8⟩:=zE p.nt;obtain⟨y,d6⟩:=zE p.mn;obtain⟨z,d7⟩:=zE p.mx;obtain⟨s,d3⟩:=zE p.l.length;rw [d4,d9,d5,d8,d6,d7,d3] at b6 ⊢;have e5:=Zh b6;obtain⟨C,b4⟩:=zE (Ub p);have e6:Hid (C=min 41 (Wc p)):=Zh (by rw [<-b4,Fv]);rw [b4];unfold Q2;clear b5 b6 d4 d9 d5 d8 d6 d7 d3 f5 f4 b4;obtain⟨n,G⟩:=zE w.heap.size;have M:=Zh G;clear G;go_enter Tryd.func7,Tryd.ntmps7;go_wp2;have G:=M.out;have f3:Stk (·<n) w [p] (Q2 t B u A y z f s i):=by
  subst G;have:=(Stk.nil (·<w.heap.size) w).push (c:=Q2 t B u A y z f s i) rfl (e5.out.mono (fun g h=>f2 g h))
  simpa using this
 have b9:((w.alloc (.cells (Q2 t B u A y z f s i).toArray 27)).alloc (.cells (Q2 t B u A y z f s i).toArray 27)).ownsRow n 27 7 (.slice (some ⟨n+1,0,none⟩) 1 1) 1 (Q2 t B u A y z f s i):=by
  subst G;exact⟨rfl,.inr ⟨_,_,_,rfl,by omega,Q9 zy,by omega,by decide,rfl,rfl⟩⟩
 have Z:Ext w ((w.alloc (.cells (Q2 t B u A y z f s i).toArray 27)).alloc (.cells (Q2 t B u A y z f s i).toArray 27)):=((Q1.refl _ _).alloc _).alloc _;unfold Q2 at b9 Z;generalize ((w.alloc (.cells [.int .i64 t,.int .u32 (B:Int),.int .u32 (u:Int),.bool A,.int .i64 y,.int .i64 z,.slice f s i].toArray 27)).alloc (.cells [.int .i64 t,.int .u32 (B:Int),.int .u32 (u:Int),.bool A,.int .i64 y,.int .i64 z,.slice f s i].toArray 27))=g8 at b9 Z ⊢;rw [G];clear G
 go_loopw [3,4] (fun v nV wr=>∃(d:Nat) (E:List Pat) (f:Option Addr) (i:Nat) (c0:List Value),d<=41/\nV=.int .i64 d/\v=.slice f E.length i/\wr.ownsRow n 27 7 (.slice f E.length i) E.length c0/\Stk (·<n) wr E c0/\Hid (d+min (41 - d) (Zo E)=C)/\Ext w wr/\E.length<=41*d+1)
  (fun _ nV _=>41 - (intOf nV).toNat)
 case atStart=>exact⟨0,[p],_,_,_,by omega,rfl,rfl,b9,f3.ext Z (fun _ _ h=>h),Zh (by rw [e6.out];simp [Zo]),Z,by simp⟩
 case round=>
  obtain⟨d,E,g1,b0,c0,g6,rfl,rfl,r,b3,Y,D,f8⟩:=hrel;rcases List.eq_nil_or_concat E with rfl | ⟨q,a,e0⟩
  ·have e3:C=d:=by have:=Y.out;simp [Zo] at this;omega
   go_wp2;go_ret;exact⟨Qr oz,D⟩
  ·rw [List.concat_eq_append] at e0;subst e0;obtain⟨L,c,d1,a1,b8⟩:=b3.pop;obtain⟨m,a0⟩:=zE q.length;have f6:(q++[a]).length=m+1:=by rw [List.length_append,a0];rfl
   rw [f6] at r f8 ⊢;rw [a0] at L a1;obtain⟨g,rfl⟩:=Vx r;by_cases f7:d=41
   ·have e3:C=41:=by have:=Y.out;omega
    subst f7;clear r L a1 d1 b8 b3;go_wp2;go_ret;exact⟨Qr (by rw [e3]),D⟩
   ·obtain⟨e4,W,d2,e1,f9,e2⟩:=Qj b8;have d0:=D3 r;obtain⟨c7,c8,c9,c3,c4,c5,a9⟩:=Zt (Uu r (o:=m*7) a1) d2;have c2:=Zh e1;have c6:=Zh e2;obtain⟨j,b7⟩:=zE a.l.length;rw [b7] at a9 c2;have J:=Zh b7;have g2:m<=b0:=by
     rcases r.2 with ⟨e,_⟩ | ⟨_,_,_,e,_,_,g7,_⟩
     ·cases e
     ·cases e;omega
    have g4:g<wr.heap.size:=(r.lt _ rfl).2;have g3:n<=g:=(r.lt _ rfl).1;have g5:j<=W:=c2.out;have c1:=Zh d0;clear e1 b8 a1 d2 e2 b7 d1 r d0 b3;unfold maxLen at f9;rcases Nat.lt_or_ge 41 j with f0 | f0
    ·have f1:¬ (j:Int)<=41:=by omega
     obtain⟨g0,U,V,T⟩:=Qe.row c6.out W 41 (by rw [J.out];omega) (by unfold maxLen;omega);have Q:a.l.take 41=a.l.take 41:=rfl;have S:d+1+min (41 - (d+1)) (Zo (q++a.l.take 41))=C:=by
      rw [Q,X6,<-Y.out,X6];have N:Zo [a]=Zo a.l+1:=by simp [Zo,Vg]
      have b1:=U9 a.l 40;have e9:=U9 a.l (40 - d - Zo q);rw [N];omega
     have R:(q++a.l.take 41).length=m+41:=by rw [List.length_append,a0,List.length_take,Nat.min_eq_left (by rw [J.out];omega)]
     obtain⟨a5,a8,a4,a2,F,a6⟩:=Zh6 U V T S R L;clear U V T S R Q L
     go_wp2_with (at_builtin;refine Gl rfl (.tmp 28) (.tmp 35) 22 rfl n 27 _ 7 64 Tryd.underlying22 Tryd.infoPat rfl zd (.slice (some ⟨g,0,none⟩) m b0) m _ rfl (Y5 c1.out ((Q1.refl _ wr).alloc _)) (.slice e4 41 W) 41 _ rfl (a5.out.ext ((Q1.refl _ wr).alloc _)) a4.out ?c3 ?c4 ?c5 ?_)
     case c3=>unfold maxLen;omega
     case c4=>omega
     case c5=>have:=D.size;have:=M.out;simp;omega
     intro e7 e8 X H P _;have I:Q1 (·=g) wr X:=((Q1.refl (·=g) wr).alloc _).trans (P.mono (fun b _ e=>by cases e;rfl));have O:=(a6.out.append a8.out).ext I (fun b hb e=>by omega);have b2:Ext w X:=D.after I (fun b N b1=>by have:=M.out;omega);rw [<-F.out] at H;have a3:=Zh H;have a7:=Zh O;clear H O P I D c7 c8 c9 c3 c4 c5 a9;go_wp2
     go_roundw
     case rel=>exact⟨d+1,q++a.l.take 41,_,_,_,by omega,by go_num,by rw [F.out],a3.out,a7.out,a2,b2,by rw [F.out];omega⟩
     case measure=>simp [intOf];omega
    ·have f1:(j:Int)<=41:=by omega
     obtain⟨g0,U,V,T⟩:=Qe.row c6.out W j (by rw [J.out];omega) (by unfold maxLen;omega);have Q:a.l.take j=a.l.take 41:=by rw [List.take_of_length_le (by rw [J.out];omega),List.take_of_length_le (by rw [J.out];omega)]
     have S:d+1+min (41 - (d+1)) (Zo (q++a.l.take j))=C:=by
      rw [Q,X6,<-Y.out,X6];have N:Zo [a]=Zo a.l+1:=by simp [Zo,Vg]
      have b1:=U9 a.l 40;have e9:=U9 a.l (40 - d - Zo q);rw [N];omega
     have R:(q++a.l.take j).length=m+j:=by rw [List.length_append,a0,List.length_take,Nat.min_eq_left (by rw [J.out];omega)]
     obtain⟨a5,a8,a4,a2,F,a6⟩:=Zh6 U V T S R L;clear U V T S R Q L
     go_wp2_with (at_builtin;refine Gl rfl (.tmp 28) (.tmp 35) 22 rfl n 27 _ 7 64 Tryd.underlying22 Tryd.infoPat rfl zd (.slice (some ⟨g,0,none⟩) m b0) m _ rfl (Y5 c1.out ((Q1.refl _ wr).alloc _)) (.slice e4 j W) j _ rfl (a5.out.ext ((Q1.refl _ wr).alloc _)) a4.out ?c3 ?c4 ?c5 ?_)
     case c3=>unfold maxLen;omega
     case c4=>omega
     case c5=>have:=D.size;have:=M.out;simp;omega
     intro e7 e8 X H P _;have I:Q1 (·=g) wr X:=((Q1.refl (·=g) wr).alloc _).trans (P.mono (fun b _ e=>by cases e;rfl));have O:=(a6.out.append a8.out).ext I (fun b hb e=>by omega);have b2:Ext w X:=D.after I (fun b N b1=>by have:=M.out;omega);rw [<-F.out] at H;have a3:=Zh H;have a7:=Zh O;clear H O P I D c7 c8 c9 c3 c4 c5 a9;go_wp2
     go_roundw
     case rel=>exact⟨d+1,q++a.l.take j,_,_,_,by omega,by go_num,by rw [F.out],a3.out,a7.out,a2,b2,by rw [F.out];omega⟩
     case measure=>simp [intOf];omega
end Go.Proofs.YtbmbdoanammlgaaDoor
