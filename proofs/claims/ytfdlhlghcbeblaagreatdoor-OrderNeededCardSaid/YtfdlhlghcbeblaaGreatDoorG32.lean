/- ablautref14.first. PLAIN: what kind of change a law is, by the numbers From of its Out. No program is named. PLAIN: insertion sort of integers. No program is named. slices.Collect of ints of any sign over an iterator with blocks of its own (turned from XCollO). math/bits.Len64, of a row. -/
import Derived.Test.YtfdlhlghcbeblaaGreatDoorG31
import Derived.Test.YtfdlhlghcbeblaaGreatDoorG02
import Derived.Test.YtfdlhlghcbeblaaGreatDoorG18
import Derived.Test.YtfdlhlghcbeblaaGreatDoorG00
import Derived.WalkKit
import Derived.Lib.Strings
import Derived.Lib.Slices
import Derived.Lib.Small
import Derived.Lib.Walk
import Derived.Lib.BitFns
set_option maxRecDepth 100000
set_option maxHeartbeats 8000000
namespace Go.Proofs.YtfdlhlghcbeblaaGreatDoor
open Go.RowKit Go.Ab
attribute [local go_sem] Oper.semAt_some wide_fn wide_depth
def explsR(ps:LawsL)(ol:List Nat)(qs:PairsL):List Bool:=qs.map fun q=>explR ps ol q.1.1 q.1.2
def firstR(ps:LawsL)(ol:List Nat)(qs:PairsL):Nat:=(explsR ps ol qs).findIdx fun b=>!b
def trueTo(L:List Bool)(k:Nat):Prop:=∀ j (h:j<L.length),j<k→L[j]=true
end Go.Proofs.YtfdlhlghcbeblaaGreatDoor
namespace Go.Ab
def upToK(n:Nat):List Int:=(List.range n).map fun(i:Nat)=>(i:Int)
def ownB(F:List Int):Bool:=decide (F=upToK F.length)
def seenB(F:List Int):Bool:=(List.range F.length).all fun i=>F.contains (i:Int)
def kindF(F:List Int):Int:=if ownB F=true then 1 else if seenB F=true then 4 else 5
end Go.Ab
namespace Go.Ab
open Go.RowKit
def intV(L:List Int):List Value:=L.map fun x=>Value.int .i64 x
theorem intV_get(L:List Int){i:Nat}(h:i<L.length):(intV L)[i]?=some (.int .i64 (L.getD i 0)):=by
 unfold intV;rw [List.getElem?_map,List.getElem?_eq_getElem h,List.getD_eq_getElem?_getD,List.getElem?_eq_getElem h];rfl
theorem intV_set(L:List Int)(i:Nat)(x:Int):(intV L).set i (.int .i64 x)=intV (L.set i x):=by unfold intV;rw [List.map_set]
theorem intV_append(L:List Int)(x:Int):intV (L++[x])=intV L++[.int .i64 x]:=by simp [intV]
def sortedB(L:List Int):Bool:=decide (∀ i,i<L.length→i+1<L.length→L.getD i 0≤L.getD (i+1) 0)
theorem pairs_sorted{L:List Int}(h:∀ p q,p<q→q<L.length→L.getD p 0≤L.getD q 0):L.Pairwise (·≤·):=by
 rw [List.pairwise_iff_getElem]
 intro i j hi hj hij
 have:=h i j hij hj
 rwa [List.getD_eq_getElem?_getD,List.getElem?_eq_getElem hi,List.getD_eq_getElem?_getD,List.getElem?_eq_getElem hj] at this
def swapL(X:List Int)(j:Nat):List Int:=(X.set (j+1) (X.getD j 0)).set j (X.getD (j+1) 0)
theorem swapL_get(X:List Int){j:Nat}(h:j+1<X.length)(k:Nat):(swapL X j).getD k 0=if k=j then X.getD (j+1) 0 else if k=j+1 then X.getD j 0 else X.getD k 0:=by
 unfold swapL
 rw [List.getD_eq_getElem?_getD,List.getElem?_set]
 by_cases h1:j=k
 ·subst h1
  rw [if_pos rfl,if_pos rfl,List.length_set,if_pos (by omega)];rfl
 ·rw [if_neg h1,if_neg (fun e=>h1 e.symm),List.getElem?_set]
  by_cases h2:j+1=k
  ·subst h2;rw [if_pos rfl,if_pos rfl,if_pos h];rfl
  ·rw [if_neg h2,if_neg (fun e=>h2 e.symm),List.getD_eq_getElem?_getD]
theorem swapL_perm(X:List Int){j:Nat}(h:j+1<X.length):(swapL X j).Perm X:=by
 have e1:X.getD j 0=X[j]:=by rw [List.getD_eq_getElem?_getD,List.getElem?_eq_getElem (by omega)];rfl
 have e2:X.getD (j+1) 0=X[j+1]:=by rw [List.getD_eq_getElem?_getD,List.getElem?_eq_getElem h];rfl
 unfold swapL
 rw [e1,e2]
 exact List.set_set_perm h (show j<X.length by omega)
def InsAt(X:List Int)(i j:Nat):Prop:=∀ p q,p<q→q≤i→q≠j→X.getD p 0≤X.getD q 0
theorem InsAt.start{X:List Int}{i:Nat}(h:∀ p q,p<q→q<i→X.getD p 0≤X.getD q 0):InsAt X i i:=fun p q h1 h2 h3=>h p q h1 (by omega)
theorem InsAt.swap{X:List Int}{i j:Nat}(h:InsAt X i (j+1)) (hi:j+1≤i) (hl:i<X.length) (hlt:X.getD (j+1) 0<X.getD j 0):InsAt (swapL X j) i j:=by
 intro p q h1 h2 h3
 rw [swapL_get X (by omega),swapL_get X (by omega),if_neg h3]
 by_cases hq:q=j+1
 ·subst hq
  rw [if_pos rfl]
  by_cases hp:p=j
  ·subst hp;rw [if_pos rfl];omega
  ·rw [if_neg hp,if_neg (by omega)];exact h p j (by omega) (by omega) (by omega)
 ·rw [if_neg hq]
  by_cases hp:p=j
  ·subst hp
   rw [if_pos rfl]
   exact h (p+1) q (by omega) h2 hq
  ·rw [if_neg hp]
   by_cases hp2:p=j+1
   ·subst hp2
    rw [if_pos rfl]
    exact h j q (by omega) h2 hq
   ·rw [if_neg hp2];exact h p q h1 h2 hq
theorem InsAt.stop{X:List Int}{i j:Nat}(h:InsAt X i j)(hj:j≤i)(hs:j=0∨∃ k,j=k+1∧¬ X.getD (k+1) 0<X.getD k 0):∀ p q,p<q→q<i+1→X.getD p 0≤X.getD q 0:=by
 intro p q h1 h2
 by_cases hq:q=j
 ·subst hq
  rcases hs with rfl | ⟨k,rfl,hk⟩
  ·omega
  ·by_cases hp:p=k
   ·subst hp;omega
   ·exact Int.le_trans (h p k (by omega) (by omega) (by omega)) (by omega)
 ·exact h p q h1 (by omega) hq
end Go.Ab
set_option maxRecDepth 100000
set_option maxHeartbeats 8000000
namespace Go.Proofs.YtfdlhlghcbeblaaGreatDoor
open Go.RowKit Go.Ab
attribute [local go_sem] Oper.semAt_some wide_fn wide_depth
abbrev intE:Nat→(Nat→Prop)→Int→World→Array Value→Prop:=fun _ _ x _ ys=>ys=#[.int .i64 x]
theorem append_seqI{w:World}{gf:Nat}{lb:Array Value}(hen:∀ args w,(callFunc gf args).run Tryz.prog w=.ok (.enter gf args) w) {M:Nat→Nat→Prop} {xs:List Int} (hseq:∀ w1,Ext w w1→IterO Tryz.prog gf lb M intE xs (fun b=>b<w.heap.size) w1) (hl:xs.length≤1000) :
  Calls Tryz.prog 193 #[.slice none 0 0,.func (.func gf) #[] lb] w fun e w'=>∃ u,e=.returned u∧w'.ownsRow w.heap.size 3 1 u xs.length (intV xs)∧Ext w w':=by
 refine calls_of_wp_marks Tryz.func193 rfl ?_
 simp only [Tryz.ntmps193,List.size_toArray,List.length_cons,List.length_nil,Nat.reduceAdd,Nat.reduceSub,Array.replicate_succ,Array.replicate_zero,List.push_toArray,List.append_toArray,List.nil_append,List.cons_append]
 have HSEQ:=Lib.hid hseq;have HEN:=Lib.hid hen
 clear hseq hen
 go_wp2
 obtain⟨B,hB⟩:∃ B,w.heap.size=B:=⟨_,rfl⟩
 have hL1:(w.alloc (.cells #[.slice none 0 0] 48)).heap[B]?=some (.cells #[.slice none 0 0] 48 (0,0)):=new_at hB.symm
 have hE1:Ext w (w.alloc (.cells #[.slice none 0 0] 48)):=(Turn.refl _ w).alloc _
 have hs1:(w.alloc (.cells #[.slice none 0 0] 48)).heap.size=B+1:=by rw [← hB];simp
 generalize (w.alloc (.cells #[.slice none 0 0] 48))=w1 at hL1 hE1 hs1 ⊢
 have hit:=HSEQ.out w1 hE1
 rw [hB] at hit ⊢
 have HB:=Lib.hid hB
 clear hB
 refine wp_rangeO (xs:=xs) (K:=fun b=>b<B) rfl HEN.out hit (fun b h=>by omega) (fun _ _ x A ys h=>by rw [h];rfl) (fun _ _ x A D ys h _ _=>h)
  (fun O pre V=>∃ u,V.heap[B]?=some (.cells #[u] 48 (0,0))∧V.ownsRow B 3 1 u pre.length (intV pre)∧(∀ g,u.ownBlock=some g→g≠B∧g≠B+1∧g≠B+2∧¬ O g)∧Ext w V)
  (fun _ _ _ _=>False) ?hI ?hIx ?h0 (fun ys t=>(t.setIfInBounds 7 (ys.getD 0 undef)).setIfInBounds 5 (ys.getD 0 undef)) ?assign ?body ?done ?stop
 case hI=>
  rintro O O' pre P Q ⟨u,i1,i2,i3,i4⟩ hO ht0 hO'
  have ht:Turn (fun b=>O b∨b=B+2) P Q:=ht0.mono (fun b _ h=>h.elim (fun q=>.inl q.1) (fun q=>.inr (by omega)))
  refine⟨u,ht.heap i1 (fun h=>?_),own_keep i2 ht (fun b hb e=>?_),fun g hg=>?_,i4.after ht (fun b' h1 h2=>?_)⟩
  ·rcases h with h | h
   ·have:=(hO _ h).1;omega
   ·omega
  ·have:=i3 b hb
   exact e.elim this.2.2.2 (fun q=>this.2.2.1 q)
  ·obtain⟨q1,q2,q3,q4⟩:=i3 g hg
   exact⟨q1,q2,q3,fun h=>by rcases(hO' g h).1 with h | h;exact q4 h;have:=(i2.lt _ hg).2;omega⟩
  ·have:=HB.out
   rcases h2 with h | h
   ·have:=(hO _ h).1;omega
   ·omega
 case hIx=>exact fun _ _ _ _ _ _ h _ _ _=>h
 case h0=>
  intro V hV _
  exact⟨.slice none 0 0,hV.keep hL1,World.ownsRow_nil _ _ _ _,(fun g hg=>by cases hg),Turn.trans hE1 hV⟩
 case assign=>
  rintro _ _ i ys V Kn rfl hK
  gi_wp2
  exact hK
 case body=>
  rintro O pre i rest ys V hx hsz hO ht ⟨u,i1,i2,i3,i4⟩ rfl
  simp only [pq]
  have hpl:pre.length<1000:=by
   have:=congrArg List.length hx
   simp at this
   omega
  have cL:=cell_of_one i1
  have fL:=free_of_one i1
  have hBV:B<V.heap.size:=(Array.getElem?_eq_some_iff.1 i1).1
  have hX:=Lib.hid hx;have HO:=Lib.hid hO
  clear hx hO
  refine wpIn_block ?_
  refine wpIn_region_plain (by kernel_rfl) (by rintro⟨_,_,h⟩;exact h) ?_
  have I1:=Lib.hid i1
  clear i1
  go_wp2_with (at_builtin;refine append_row rfl (.tmp 8) (.tmp 10) 48 rfl B 3 _ 1 8 Tryz.underlying48 Tryz.infoI rfl (by decide) _ _ _ rfl (own_ext i2 ((Turn.refl _ V).alloc _)) ⟨V.heap.size,0,none⟩ 1 1 [.int .i64 i] rfl rfl (new_cells' rfl) ?c2 ?c3 ?c4 ?c5 ?_)
  case c2=>first | rfl | (intro u hu;simp at hu;rcases hu with rfl;rfl)
  case c3=>unfold maxLen;omega
  case c4=>omega
  case c5=>simp;omega
  intro ao' c' w5 hO5 hT5 hB5
  have hT6:Turn (fun b'=>u.ownBlock=some b') V w5:=Turn.trans (Turn.alloc (Turn.refl _ V) _) hT5
  have hL5:=hT6.heap I1.out (fun e=>(i3 _ e).1 rfl)
  have hE5:Ext w w5:=Turn.after i4 hT6 (fun b' h1 e=>by have:=(i2.lt _ e).1;have:=HB.out;omega)
  have hg5:∀ g,(Value.slice ao' (pre.length+1) c').ownBlock=some g→g≠B∧g≠B+1∧g≠B+2∧¬ O g:=by
   intro g hg
   rcases hB5 with e | e
   ·exact i3 g (e ▸ hg)
   ·rw [hg] at e;cases e
    exact⟨by first | omega | (simp;omega),by first | omega | (simp;omega),by first | omega | (simp;omega),fun h=>by have:=(HO.out _ h).2;first | omega | (simp at this;omega)⟩
  have cL5:=cell_of_one hL5
  have fL5:=free_of_one hL5
  have hT7:=Turn.set1 w5 B 0 (.slice ao' (pre.length+1) c')
  have hL7:(w5.setCell ⟨B,0,none⟩ (.slice ao' (pre.length+1) c')).heap[B]?=some (.cells #[.slice ao' (pre.length+1) c'] 48 (0,0)):=by
   simp only [World.setCell,Array.getElem?_modify,hL5]
   simp
  have hKV:Turn (fun b=>¬ (b<B∨O b∨b=B+1∨b=B+1+1)) V (w5.setCell ⟨B,0,none⟩ (.slice ao' (pre.length+1) c')):=by
   refine(hT6.mono (fun b' _ e hn=>?_)).trans (hT7.mono (fun b' _ e hn=>?_))
   ·obtain⟨q1,q2,q3,q4⟩:=i3 _ e
    have:=(i2.lt _ e).1
    rcases hn with h | h | h
    ·omega
    ·exact q4 h
    ·omega
   ·rcases hn with h | h | h
    ·omega
    ·have:=(HO.out _ h).1;omega
    ·omega
  have hfin:∃ u,(w5.setCell ⟨B,0,none⟩ (.slice ao' (pre.length+1) c')).heap[B]?=some (.cells #[u] 48 (0,0))∧(w5.setCell ⟨B,0,none⟩ (.slice ao' (pre.length+1) c')).ownsRow B 3 1 u (pre++[i]).length (intV (pre++[i]))∧(∀ g,u.ownBlock=some g→g≠B∧g≠B+1∧g≠B+2∧¬ O g)∧Ext w (w5.setCell ⟨B,0,none⟩ (.slice ao' (pre.length+1) c')):=by
   refine⟨_,hL7,?_,hg5,Turn.after hE5 hT7 (fun b h1 h2=>by have:=HB.out;omega)⟩
   rw [intV_append,List.length_append]
   exact own_keep hO5 hT7 (fun b hb e=>(hg5 b hb).1 e)
  have HKV:=Lib.hid hKV;have HFIN:=Lib.hid hfin
  clear hKV hfin hL7 hT7 hg5 hE5 hT6 hT5 hO5 hB5 cL fL i2 i3 i4 ht
  go_wp2
  exact⟨HKV.out,HFIN.out⟩
 case done=>
  rintro O V ⟨u,i1,i2,i3,i4⟩ hO ht hD
  have cL:=cell_of_one i1
  clear hE1 hL1 hit
  go_wp2
  have hm:Marks B ({ target:=.collected w1.heap.size,args:=#[] }::[]) V:=Marks.cons (base:=B) trivial (by omega) hD (fun e he=>by cases he)
  refine bodyPostM_ret hm (fun w'=>results_tmp rfl _ _ _) (fun w' ht' hs=>⟨u,rfl,?_,?_⟩)
  ·rw [HB.out]
   exact own_keep i2 ht' (fun b hb e=>by obtain⟨cur,hc⟩:=own_block_ty i2 hb;exact Shut.not hc rfl e)
  ·exact Turn.after i4 ht' (fun b' h2 h3=>by have:=h3.1;have:=HB.out;omega)
 case stop=>exact fun _ _ _ _ _ _ _ h=>h.elim
theorem collect_intI{w:World}{gf:Nat}{lb:Array Value}(hen:∀ args w,(callFunc gf args).run Tryz.prog w=.ok (.enter gf args) w) {M:Nat→Nat→Prop} {xs:List Int} (hseq:∀ w1,Ext w w1→IterO Tryz.prog gf lb M intE xs (fun b=>b<w.heap.size) w1) (hl:xs.length≤1000) :
  Calls Tryz.prog 163 #[.func (.func gf) #[] lb] w fun e w'=>∃ u,e=.returned u∧w'.ownsRow w.heap.size 3 1 u xs.length (intV xs)∧Ext w w':=by
 have h:=append_seqI hen hseq hl
 have H:=Lib.hid h
 clear h hseq hen
 go_enter Tryz.func163,Tryz.ntmps163
 go_wp2_with fail
 refine H.out.mono ?_
 rintro e w' ⟨u,rfl,hO,hE⟩
 obtain⟨uo,uc,rfl⟩:=own_slice hO
 have HO:=Lib.hid hO
 clear hO
 go_wp2
 go_ret
 exact⟨_,rfl,HO.out,hE⟩
end Go.Proofs.YtfdlhlghcbeblaaGreatDoor
set_option maxRecDepth 100000
set_option maxHeartbeats 4000000
namespace Go.Proofs.YtfdlhlghcbeblaaGreatDoor
open Go.RowKit Go.Ab
theorem len_size:Lib.len8tab.size=256:=by decide +kernel
theorem len_at:∀ n:Fin Lib.len8tab.size,(Lib.len8tab[n.val]).toNat=Lib.bitLen n.val:=by decide +kernel
theorem len_fin(y:Nat)(h:y<Lib.len8tab.size):(Lib.len8tab[y]).toNat=Lib.bitLen y∧Lib.bitLen y≤8:=⟨len_at ⟨y,h⟩,Lib.bitLen_le8 ⟨y,by rw [← len_size];exact h⟩⟩
theorem len_sum(x y s:Nat)(hx:x<18446744073709551616)(hy:y=x / 2 ^ s)(h:2 ^ s≤x):Lib.bitLen x=s+Lib.bitLen y:=by
 rw [hy];exact Lib.bitLen_shift s x h hx
theorem wrap_small(s:Int)(b:Nat)(hs:0≤s∧s≤56)(hb:b≤8):wrap64 (s+wrap64 (b:Int))=s+b:=by
 unfold wrap64;omega
theorem len_fit{x:Int}(h0:0≤x)(h1:x≤18446744073709551615)(y:Int)(s:Nat)(hs:s≤56)(hy:y=x / ((2 ^ s:Nat):Int)) (hlo:((2 ^ s:Nat):Int)≤x) (_hhi:y<256) (h:y.toNat<Lib.len8tab.size) :
  wrap64 ((s:Int)+wrap64 ((Lib.len8tab[y.toNat]).toNat:Int))=(Lib.bitLen x.toNat:Int):=by
 obtain⟨e1,e2⟩:=len_fin y.toNat h
 rw [e1,wrap_small _ _ ⟨by omega,by omega⟩ e2]
 obtain⟨n,rfl⟩:=Int.eq_ofNat_of_zero_le h0
 have hy2:y.toNat=n / 2 ^ s:=by
  have e:((n:Int) / ((2 ^ s:Nat):Int))=((n / 2 ^ s:Nat):Int):=(Int.natCast_ediv n (2 ^ s)).symm
  rw [hy,e,Int.toNat_natCast]
 have:=len_sum n y.toNat s (by omega) hy2 (by exact_mod_cast hlo)
 rw [Int.toNat_natCast,this]
 omega
theorem len_fit0{x:Int}(_h0:0≤x)(_hhi:x<256)(h:x.toNat<Lib.len8tab.size) :
  wrap64 (wrap64 ((Lib.len8tab[x.toNat]).toNat:Int))=(Lib.bitLen x.toNat:Int):=by
 obtain⟨e1,e2⟩:=len_fin x.toNat h
 rw [e1]
 have:=wrap_small 0 (Lib.bitLen x.toNat) (by omega) e2
 rw [Int.zero_add,Int.zero_add] at this
 exact this
theorem len_core(x:Int)(w:World)(h0:0≤x)(h1:x≤18446744073709551615) :
  Calls Tryz.prog 241 #[.int .u64 x] w fun e w'=>e=.returned (.int .i64 (Lib.bitLen x.toNat))∧w'=w:=by
 have hsz:=len_size
 go_enter Tryz.func241,Tryz.ntmps241
 go_wp2
 all_goals
  refine bodyPost_ret (results_tmp rfl _ _ _) rfl ⟨?_,rfl⟩
  show Ending.returned (.int .i64 _)=Ending.returned (.int .i64 _)
  refine ret_int ?_
 all_goals first
  | exact len_fit h0 h1 (x / 4294967296 / 65536 / 256) 56 (by omega) (by omega) (by omega) (by omega) _
  | exact len_fit h0 h1 (x / 4294967296 / 65536) 48 (by omega) (by omega) (by omega) (by omega) _
  | exact len_fit h0 h1 (x / 4294967296 / 256) 40 (by omega) (by omega) (by omega) (by omega) _
  | exact len_fit h0 h1 (x / 4294967296) 32 (by omega) (by omega) (by omega) (by omega) _
  | exact len_fit h0 h1 (x / 65536 / 256) 24 (by omega) (by omega) (by omega) (by omega) _
  | exact len_fit h0 h1 (x / 65536) 16 (by omega) (by omega) (by omega) (by omega) _
  | exact len_fit h0 h1 (x / 256) 8 (by omega) (by omega) (by omega) (by omega) _
  | exact len_fit0 h0 (by omega) _
end Go.Proofs.YtfdlhlghcbeblaaGreatDoor
