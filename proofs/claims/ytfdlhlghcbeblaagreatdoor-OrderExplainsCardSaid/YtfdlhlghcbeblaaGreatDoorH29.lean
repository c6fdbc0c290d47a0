/- ablautref14.first. PLAIN: what kind of change a law is, by the numbers From of its Out. No program is named. PLAIN: insertion sort of integers. No program is named. slices.Collect of ints of any sign over an iterator with blocks of its own (turned from XCollO). math/bits.Len64, of a row. cmp.Less, slices.IsSorted, slices.Sort over at most twelve integers (printed by gensorti.py). -/
import Derived.Test.YtfdlhlghcbeblaaGreatDoorH28
import Derived.Test.YtfdlhlghcbeblaaGreatDoorH02
import Derived.Test.YtfdlhlghcbeblaaGreatDoorH15
import Derived.Test.YtfdlhlghcbeblaaGreatDoorH00
import Derived.Test.YtfdlhlghcbeblaaGreatDoorH16
import Derived.Test.YtfdlhlghcbeblaaGreatDoorH10
import Derived.WalkKit
import Derived.Lib.Strings
import Derived.Lib.Slices
import Derived.Lib.Small
import Derived.Lib.Walk
import Derived.Lib.BitFns
set_option maxRecDepth 100000
set_option maxHeartbeats 8000000
namespace Go.Proofs.YtfdlhlghcbeblaaGreatDoor
open Go.RowKit Go.Ab
attribute [local go_sem] Oper.semAt_some wide_fn wide_depth
def explsR(ps:LawsL)(ol:List Nat)(qs:PairsL):List Bool:=qs.map fun q=>explR ps ol q.1.1 q.1.2
def firstR(ps:LawsL)(ol:List Nat)(qs:PairsL):Nat:=(explsR ps ol qs).findIdx fun b=>!b
def trueTo(L:List Bool)(k:Nat):Prop:=∀ j (h:j<L.length),j<k->L[j]=true
end Go.Proofs.YtfdlhlghcbeblaaGreatDoor
namespace Go.Ab
def upToK(n:Nat):List Int:=(List.range n).map fun(i:Nat)=>(i:Int)
def ownB(F:List Int):Bool:=decide (F=upToK F.length)
def seenB(F:List Int):Bool:=(List.range F.length).all fun i=>F.contains (i:Int)
def kindF(F:List Int):Int:=if ownB F=true then 1 else if seenB F=true then 4 else 5
end Go.Ab
namespace Go.Ab
open Go.RowKit
def intV(L:List Int):List Value:=L.map fun x=>Value.int .i64 x
theorem intV_get(L:List Int){i:Nat}(h:i<L.length):(intV L)[i]?=some (.int .i64 (L.getD i 0)):=by
 unfold intV;rw [List.getElem?_map,List.getElem?_eq_getElem h,List.getD_eq_getElem?_getD,List.getElem?_eq_getElem h];rfl
theorem intV_set(L:List Int)(i:Nat)(x:Int):(intV L).set i (.int .i64 x)=intV (L.set i x):=by unfold intV;rw [List.map_set]
theorem intV_append(L:List Int)(x:Int):intV (L++[x])=intV L++[.int .i64 x]:=by simp [intV]
def sortedB(L:List Int):Bool:=decide (∀ i,i<L.length->i+1<L.length->L.getD i 0<=L.getD (i+1) 0)
theorem pairs_sorted{L:List Int}(h:∀ p q,p<q->q<L.length->L.getD p 0<=L.getD q 0):L.Pairwise (·<=·):=by
 rw [List.pairwise_iff_getElem]
 intro i j hi hj hij
 have:=h i j hij hj
 rwa [List.getD_eq_getElem?_getD,List.getElem?_eq_getElem hi,List.getD_eq_getElem?_getD,List.getElem?_eq_getElem hj] at this
def swapL(X:List Int)(j:Nat):List Int:=(X.set (j+1) (X.getD j 0)).set j (X.getD (j+1) 0)
theorem swapL_get(X:List Int){j:Nat}(h:j+1<X.length)(k:Nat):(swapL X j).getD k 0=if k=j then X.getD (j+1) 0 else if k=j+1 then X.getD j 0 else X.getD k 0:=by
 unfold swapL
 rw [List.getD_eq_getElem?_getD,List.getElem?_set]
 by_cases h1:j=k
 ·subst h1
  rw [if_pos rfl,if_pos rfl,List.length_set,if_pos (by omega)];rfl
 ·rw [if_neg h1,if_neg (fun e=>h1 e.symm),List.getElem?_set]
  by_cases h2:j+1=k
  ·subst h2;rw [if_pos rfl,if_pos rfl,if_pos h];rfl
  ·rw [if_neg h2,if_neg (fun e=>h2 e.symm),List.getD_eq_getElem?_getD]
theorem swapL_perm(X:List Int){j:Nat}(h:j+1<X.length):(swapL X j).Perm X:=by
 have e1:X.getD j 0=X[j]:=by rw [List.getD_eq_getElem?_getD,List.getElem?_eq_getElem (by omega)];rfl
 have e2:X.getD (j+1) 0=X[j+1]:=by rw [List.getD_eq_getElem?_getD,List.getElem?_eq_getElem h];rfl
 unfold swapL
 rw [e1,e2]
 exact List.set_set_perm h (show j<X.length by omega)
def InsAt(X:List Int)(i j:Nat):Prop:=∀ p q,p<q->q<=i->q≠j->X.getD p 0<=X.getD q 0
theorem InsAt.start{X:List Int}{i:Nat}(h:∀ p q,p<q->q<i->X.getD p 0<=X.getD q 0):InsAt X i i:=fun p q h1 h2 h3=>h p q h1 (by omega)
theorem InsAt.swap{X:List Int}{i j:Nat}(h:InsAt X i (j+1)) (hi:j+1<=i) (hl:i<X.length) (hlt:X.getD (j+1) 0<X.getD j 0):InsAt (swapL X j) i j:=by
 intro p q h1 h2 h3
 rw [swapL_get X (by omega),swapL_get X (by omega),if_neg h3]
 by_cases hq:q=j+1
 ·subst hq
  rw [if_pos rfl]
  by_cases hp:p=j
  ·subst hp;rw [if_pos rfl];omega
  ·rw [if_neg hp,if_neg (by omega)];exact h p j (by omega) (by omega) (by omega)
 ·rw [if_neg hq]
  by_cases hp:p=j
  ·subst hp
   rw [if_pos rfl]
   exact h (p+1) q (by omega) h2 hq
  ·rw [if_neg hp]
   by_cases hp2:p=j+1
   ·subst hp2
    rw [if_pos rfl]
    exact h j q (by omega) h2 hq
   ·rw [if_neg hp2];exact h p q h1 h2 hq
theorem InsAt.stop{X:List Int}{i j:Nat}(h:InsAt X i j)(hj:j<=i)(hs:j=0\/∃ k,j=k+1/\¬ X.getD (k+1) 0<X.getD k 0):∀ p q,p<q->q<i+1->X.getD p 0<=X.getD q 0:=by
 intro p q h1 h2
 by_cases hq:q=j
 ·subst hq
  rcases hs with rfl | ⟨k,rfl,hk⟩
  ·omega
  ·by_cases hp:p=k
   ·subst hp;omega
   ·exact Int.le_trans (h p k (by omega) (by omega) (by omega)) (by omega)
 ·exact h p q h1 (by omega) hq
end Go.Ab
set_option maxRecDepth 100000
set_option maxHeartbeats 8000000
namespace Go.Proofs.YtfdlhlghcbeblaaGreatDoor
open Go.RowKit Go.Ab
attribute [local go_sem] Oper.semAt_some wide_fn wide_depth
abbrev intE:Nat->(Nat->Prop)->Int->World->Array Value->Prop:=fun _ _ x _ ys=>ys=#[.int .i64 x]
theorem append_seqI{w:World}{gf:Nat}{lb:Array Value}(hen:∀ args w,(callFunc gf args).run Tryz.prog w=.ok (.enter gf args) w) {M:Nat->Nat->Prop} {xs:List Int} (hseq:∀ w1,Ext w w1->IterO Tryz.prog gf lb M intE xs (fun b=>b<w.heap.size) w1) (hl:xs.length<=1000) :
  Calls Tryz.prog 193 #[.slice none 0 0,.func (.func gf) #[] lb] w fun e w'=>∃ u,e=.returned u/\w'.ownsRow w.heap.size 3 1 u xs.length (intV xs)/\Ext w w':=by
 refine calls_of_wp_marks Tryz.func193 rfl ?_
 simp only [Tryz.ntmps193,List.size_toArray,List.length_cons,List.length_nil,Nat.reduceAdd,Nat.reduceSub,Array.replicate_succ,Array.replicate_zero,List.push_toArray,List.append_toArray,List.nil_append,List.cons_append]
 have HSEQ:=Lib.hid hseq;have HEN:=Lib.hid hen
 clear hseq hen
 go_wp2
 obtain⟨B,hB⟩:∃ B,w.heap.size=B:=⟨_,rfl⟩
 have hL1:(w.alloc (.cells #[.slice none 0 0] 48)).heap[B]?=some (.cells #[.slice none 0 0] 48 (0,0)):=new_at hB.symm
 have hE1:Ext w (w.alloc (.cells #[.slice none 0 0] 48)):=(Turn.refl _ w).alloc _
 have hs1:(w.alloc (.cells #[.slice none 0 0] 48)).heap.size=B+1:=by rw [<-hB];simp
 generalize (w.alloc (.cells #[.slice none 0 0] 48))=w1 at hL1 hE1 hs1 ⊢
 have hit:=HSEQ.out w1 hE1
 rw [hB] at hit ⊢
 have HB:=Lib.hid hB
 clear hB
 refine wp_rangeO (xs:=xs) (K:=fun b=>b<B) rfl HEN.out hit (fun b h=>by omega) (fun _ _ x A ys h=>by rw [h];rfl) (fun _ _ x A D ys h _ _=>h)
  (fun O pre V=>∃ u,V.heap[B]?=some (.cells #[u] 48 (0,0))/\V.ownsRow B 3 1 u pre.length (intV pre)/\(∀ g,u.ownBlock=some g->g≠B/\g≠B+1/\g≠B+2/\¬ O g)/\Ext w V)
  (fun _ _ _ _=>False) ?hI ?hIx ?h0 (fun ys t=>(t.setIfInBounds 7 (ys.getD 0 undef)).setIfInBounds 5 (ys.getD 0 undef)) ?assign ?body ?done ?stop
 case hI=>
  rintro O O' pre P Q ⟨u,i1,i2,i3,i4⟩ hO ht0 hO'
  have ht:Turn (fun b=>O b\/b=B+2) P Q:=ht0.mono (fun b _ h=>h.elim (fun q=>.inl q.1) (fun q=>.inr (by omega)))
  refine⟨u,ht.heap i1 (fun h=>?_),own_keep i2 ht (fun b hb e=>?_),fun g hg=>?_,i4.after ht (fun b' h1 h2=>?_)⟩
  ·rcases h with h | h
   ·have:=(hO _ h).1;omega
   ·omega
  ·have:=i3 b hb
   exact e.elim this.2.2.2 (fun q=>this.2.2.1 q)
  ·obtain⟨q1,q2,q3,q4⟩:=i3 g hg
   exact⟨q1,q2,q3,fun h=>by rcases(hO' g h).1 with h | h;exact q4 h;have:=(i2.lt _ hg).2;omega⟩
  ·have:=HB.out
   rcases h2 with h | h
   ·have:=(hO _ h).1;omega
   ·omega
 case hIx=>exact fun _ _ _ _ _ _ h _ _ _=>h
 case h0=>
  intro V hV _
  exact⟨.slice none 0 0,hV.keep hL1,World.ownsRow_nil _ _ _ _,(fun g hg=>by cases hg),Turn.trans hE1 hV⟩
 case assign=>
  rintro _ _ i ys V Kn rfl hK
  gi_wp2
  exact hK
 case body=>
  rintro O pre i rest ys V hx hsz hO ht ⟨u,i1,i2,i3,i4⟩ rfl
  simp only [pq]
  have hpl:pre.length<1000:=by
   have:=congrArg List.length hx
   simp at this
   omega
  have cL:=cell_of_one i1
  have fL:=free_of_one i1
  have hBV:B<V.heap.size:=(Array.getElem?_eq_some_iff.1 i1).1
  have hX:=Lib.hid hx;have HO:=Lib.hid hO
  clear hx hO
  refine wpIn_block ?_
  refine wpIn_region_plain (by kernel_rfl) (by rintro⟨_,_,h⟩;exact h) ?_
  have I1:=Lib.hid i1
  clear i1
  go_wp2_with (at_builtin;refine append_row rfl (.tmp 8) (.tmp 10) 48 rfl B 3 _ 1 8 Tryz.underlying48 Tryz.infoI rfl (by decide) _ _ _ rfl (own_ext i2 ((Turn.refl _ V).alloc _)) ⟨V.heap.size,0,none⟩ 1 1 [.int .i64 i] rfl rfl (new_cells' rfl) ?c2 ?c3 ?c4 ?c5 ?_)
  case c2=>first | rfl | (intro u hu;simp at hu;rcases hu with rfl;rfl)
  case c3=>unfold maxLen;omega
  case c4=>omega
  case c5=>simp;omega
  intro ao' c' w5 hO5 hT5 hB5
  have hT6:Turn (fun b'=>u.ownBlock=some b') V w5:=Turn.trans (Turn.alloc (Turn.refl _ V) _) hT5
  have hL5:=hT6.heap I1.out (fun e=>(i3 _ e).1 rfl)
  have hE5:Ext w w5:=Turn.after i4 hT6 (fun b' h1 e=>by have:=(i2.lt _ e).1;have:=HB.out;omega)
  have hg5:∀ g,(Value.slice ao' (pre.length+1) c').ownBlock=some g->g≠B/\g≠B+1/\g≠B+2/\¬ O g:=by
   intro g hg
   rcases hB5 with e | e
   ·exact i3 g (e ▸ hg)
   ·rw [hg] at e;cases e
    exact⟨by first | omega | (simp;omega),by first | omega | (simp;omega),by first | omega | (simp;omega),fun h=>by have:=(HO.out _ h).2;first | omega | (simp at this;omega)⟩
  have cL5:=cell_of_one hL5
  have fL5:=free_of_one hL5
  have hT7:=Turn.set1 w5 B 0 (.slice ao' (pre.length+1) c')
  have hL7:(w5.setCell ⟨B,0,none⟩ (.slice ao' (pre.length+1) c')).heap[B]?=some (.cells #[.slice ao' (pre.length+1) c'] 48 (0,0)):=by
   simp only [World.setCell,Array.getElem?_modify,hL5]
   simp
  have hKV:Turn (fun b=>¬ (b<B\/O b\/b=B+1\/b=B+1+1)) V (w5.setCell ⟨B,0,none⟩ (.slice ao' (pre.length+1) c')):=by
   refine(hT6.mono (fun b' _ e hn=>?_)).trans (hT7.mono (fun b' _ e hn=>?_))
   ·obtain⟨q1,q2,q3,q4⟩:=i3 _ e
    have:=(i2.lt _ e).1
    rcases hn with h | h | h
    ·omega
    ·exact q4 h
    ·omega
   ·rcases hn with h | h | h
    ·omega
    ·have:=(HO.out _ h).1;omega
    ·omega
  have hfin:∃ u,(w5.setCell ⟨B,0,none⟩ (.slice ao' (pre.length+1) c')).heap[B]?=some (.cells #[u] 48 (0,0))/\(w5.setCell ⟨B,0,none⟩ (.slice ao' (pre.length+1) c')).ownsRow B 3 1 u (pre++[i]).length (intV (pre++[i]))/\(∀ g,u.ownBlock=some g->g≠B/\g≠B+1/\g≠B+2/\¬ O g)/\Ext w (w5.setCell ⟨B,0,none⟩ (.slice ao' (pre.length+1) c')):=by
   refine⟨_,hL7,?_,hg5,Turn.after hE5 hT7 (fun b h1 h2=>by have:=HB.out;omega)⟩
   rw [intV_append,List.length_append]
   exact own_keep hO5 hT7 (fun b hb e=>(hg5 b hb).1 e)
  have HKV:=Lib.hid hKV;have HFIN:=Lib.hid hfin
  clear hKV hfin hL7 hT7 hg5 hE5 hT6 hT5 hO5 hB5 cL fL i2 i3 i4 ht
  go_wp2
  exact⟨HKV.out,HFIN.out⟩
 case done=>
  rintro O V ⟨u,i1,i2,i3,i4⟩ hO ht hD
  have cL:=cell_of_one i1
  clear hE1 hL1 hit
  go_wp2
  have hm:Marks B ({ target:=.collected w1.heap.size,args:=#[] }::[]) V:=Marks.cons (base:=B) trivial (by omega) hD (fun e he=>by cases he)
  refine bodyPostM_ret hm (fun w'=>results_tmp rfl _ _ _) (fun w' ht' hs=>⟨u,rfl,?_,?_⟩)
  ·rw [HB.out]
   exact own_keep i2 ht' (fun b hb e=>by obtain⟨cur,hc⟩:=own_block_ty i2 hb;exact Shut.not hc rfl e)
  ·exact Turn.after i4 ht' (fun b' h2 h3=>by have:=h3.1;have:=HB.out;omega)
 case stop=>exact fun _ _ _ _ _ _ _ h=>h.elim
theorem collect_intI{w:World}{gf:Nat}{lb:Array Value}(hen:∀ args w,(callFunc gf args).run Tryz.prog w=.ok (.enter gf args) w) {M:Nat->Nat->Prop} {xs:List Int} (hseq:∀ w1,Ext w w1->IterO Tryz.prog gf lb M intE xs (fun b=>b<w.heap.size) w1) (hl:xs.length<=1000) :
  Calls Tryz.prog 163 #[.func (.func gf) #[] lb] w fun e w'=>∃ u,e=.returned u/\w'.ownsRow w.heap.size 3 1 u xs.length (intV xs)/\Ext w w':=by
 have h:=append_seqI hen hseq hl
 have H:=Lib.hid h
 clear h hseq hen
 go_enter Tryz.func163,Tryz.ntmps163
 go_wp2_with fail
 refine H.out.mono ?_
 rintro e w' ⟨u,rfl,hO,hE⟩
 obtain⟨uo,uc,rfl⟩:=own_slice hO
 have HO:=Lib.hid hO
 clear hO
 go_wp2
 go_ret
 exact⟨_,rfl,HO.out,hE⟩
end Go.Proofs.YtfdlhlghcbeblaaGreatDoor
set_option maxRecDepth 100000
set_option maxHeartbeats 4000000
namespace Go.Proofs.YtfdlhlghcbeblaaGreatDoor
open Go.RowKit Go.Ab
theorem len_size:Lib.len8tab.size=256:=by decide +kernel
theorem len_at:∀ n:Fin Lib.len8tab.size,(Lib.len8tab[n.val]).toNat=Lib.bitLen n.val:=by decide +kernel
theorem len_fin(y:Nat)(h:y<Lib.len8tab.size):(Lib.len8tab[y]).toNat=Lib.bitLen y/\Lib.bitLen y<=8:=⟨len_at ⟨y,h⟩,Lib.bitLen_le8 ⟨y,by rw [<-len_size];exact h⟩⟩
theorem len_sum(x y s:Nat)(hx:x<18446744073709551616)(hy:y=x / 2 ^ s)(h:2 ^ s<=x):Lib.bitLen x=s+Lib.bitLen y:=by
 rw [hy];exact Lib.bitLen_shift s x h hx
theorem wrap_small(s:Int)(b:Nat)(hs:0<=s/\s<=56)(hb:b<=8):wrap64 (s+wrap64 (b:Int))=s+b:=by
 unfold wrap64;omega
theorem len_fit{x:Int}(h0:0<=x)(h1:x<=18446744073709551615)(y:Int)(s:Nat)(hs:s<=56)(hy:y=x / ((2 ^ s:Nat):Int)) (hlo:((2 ^ s:Nat):Int)<=x) (_hhi:y<256) (h:y.toNat<Lib.len8tab.size) :
  wrap64 ((s:Int)+wrap64 ((Lib.len8tab[y.toNat]).toNat:Int))=(Lib.bitLen x.toNat:Int):=by
 obtain⟨e1,e2⟩:=len_fin y.toNat h
 rw [e1,wrap_small _ _ ⟨by omega,by omega⟩ e2]
 obtain⟨n,rfl⟩:=Int.eq_ofNat_of_zero_le h0
 have hy2:y.toNat=n / 2 ^ s:=by
  have e:((n:Int) / ((2 ^ s:Nat):Int))=((n / 2 ^ s:Nat):Int):=(Int.natCast_ediv n (2 ^ s)).symm
  rw [hy,e,Int.toNat_natCast]
 have:=len_sum n y.toNat s (by omega) hy2 (by exact_mod_cast hlo)
 rw [Int.toNat_natCast,this]
 omega
theorem len_fit0{x:Int}(_h0:0<=x)(_hhi:x<256)(h:x.toNat<Lib.len8tab.size) :
  wrap64 (wrap64 ((Lib.len8tab[x.toNat]).toNat:Int))=(Lib.bitLen x.toNat:Int):=by
 obtain⟨e1,e2⟩:=len_fin x.toNat h
 rw [e1]
 have:=wrap_small 0 (Lib.bitLen x.toNat) (by omega) e2
 rw [Int.zero_add,Int.zero_add] at this
 exact this
theorem len_core(x:Int)(w:World)(h0:0<=x)(h1:x<=18446744073709551615) :
  Calls Tryz.prog 241 #[.int .u64 x] w fun e w'=>e=.returned (.int .i64 (Lib.bitLen x.toNat))/\w'=w:=by
 have hsz:=len_size
 go_enter Tryz.func241,Tryz.ntmps241
 go_wp2
 all_goals
  refine bodyPost_ret (results_tmp rfl _ _ _) rfl ⟨?_,rfl⟩
  show Ending.returned (.int .i64 _)=Ending.returned (.int .i64 _)
  refine ret_int ?_
 all_goals first
  | exact len_fit h0 h1 (x / 4294967296 / 65536 / 256) 56 (by omega) (by omega) (by omega) (by omega) _
  | exact len_fit h0 h1 (x / 4294967296 / 65536) 48 (by omega) (by omega) (by omega) (by omega) _
  | exact len_fit h0 h1 (x / 4294967296 / 256) 40 (by omega) (by omega) (by omega) (by omega) _
  | exact len_fit h0 h1 (x / 4294967296) 32 (by omega) (by omega) (by omega) (by omega) _
  | exact len_fit h0 h1 (x / 65536 / 256) 24 (by omega) (by omega) (by omega) (by omega) _
  | exact len_fit h0 h1 (x / 65536) 16 (by omega) (by omega) (by omega) (by omega) _
  | exact len_fit h0 h1 (x / 256) 8 (by omega) (by omega) (by omega) (by omega) _
  | exact len_fit0 h0 (by omega) _
end Go.Proofs.YtfdlhlghcbeblaaGreatDoor
set_option maxRecDepth 100000
set_option maxHeartbeats 16000000
namespace Go.Proofs.YtfdlhlghcbeblaaGreatDoor
open Go.RowKit Go.Ab
attribute [local go_sem] Oper.semAt_some wide_fn wide_depth
theorem less_any(x y:Int)(w:World):Calls Tryz.prog 237 #[.int .i64 x,.int .i64 y] w fun e w'=>e=.returned (.bool (decide (x<y)))/\w=w':=by
 have h0:(x != x)=false:=by simp
 have h1:(y != y)=false:=by simp
 go_enter Tryz.func237,Tryz.ntmps237
 go_wp2
 go_ret
 exact⟨rfl,rfl⟩
theorem insert_any{w:World}{base n cap:Nat}{ao:Option Addr}{X0:List Int}(hO:w.ownsRow base 3 1 (.slice ao n cap) n (intV X0)) (hn:X0.length=n) (h100:n<=12) :
  Calls Tryz.prog 231 #[.slice ao n cap,.int .i64 0,.int .i64 n] w fun e w'=>e=.returned (.tuple #[])/\(∃ X:List Int,X.Perm X0/\X.Pairwise (·<=·)/\w'.ownsRow base 3 1 (.slice ao n cap) n (intV X))/\Turn (fun b=>(Value.slice ao n cap).ownBlock=some b) w w':=by
 have HO:=Lib.hid hO;have HN:=Lib.hid hn
 clear hO hn
 go_enter Tryz.func231,Tryz.ntmps231
 go_wp2
 refine wp_loop (fun a W=>∃(i:Nat) (X:List Int),1<=i/\i<=n+1/\a.defers=[]/\(a.tmps.size=49/\a.tmps.getD 0 undef=.slice ao n cap/\a.tmps.getD 1 undef=.int .i64 0/\a.tmps.getD 2 undef=.int .i64 n/\a.tmps.getD 6 undef=.int .i64 i)/\X.Perm X0/\(∀ p q,p<q->q<i->q<n->X.getD p 0<=X.getD q 0)/\W.ownsRow base 3 1 (.slice ao n cap) n (intV X)/\Turn (fun b=>(Value.slice ao n cap).ownBlock=some b) w W)
  (fun a _=>n+1 - (intOf (a.tmps.getD 6 undef)).toNat) ?_ ?_
 ·exact⟨1,X0,by omega,by omega,rfl,⟨rfl,rfl,rfl,rfl,rfl⟩,List.Perm.refl _,fun p q h1 h2=>by omega,HO.out,Turn.refl _ _⟩
 rintro⟨t,_⟩ W ⟨i,X,hi1,hi2,hds,⟨hsz,f0,f1,f2,f6⟩,hperm,hsor,hO,hT⟩
 subst hds
 obtain⟨u',hu⟩:=frame_fun hsz
 obtain⟨u,rfl⟩:∃ x,x=u':=⟨_,rfl⟩
 have hu':t=#[u 0,u 1,u 2,u 3,u 4,u 5,u 6,u 7,u 8,u 9,u 10,u 11,u 12,u 13,u 14,u 15,u 16,u 17,u 18,u 19,u 20,u 21,u 22,u 23,u 24,u 25,u 26,u 27,u 28,u 29,u 30,u 31,u 32,u 33,u 34,u 35,u 36,u 37,u 38,u 39,u 40,u 41,u 42,u 43,u 44,u 45,u 46,u 47,u 48]:=hu
 clear hu
 subst hu'
 change u 0=_ at f0
 change u 1=_ at f1
 change u 2=_ at f2
 change u 6=_ at f6
 rw [f0,f1,f2,f6]
 clear f0 f1 f2 f6 hsz
 have HP:=Lib.hid hperm;have HSO:=Lib.hid hsor;have HOW:=Lib.hid hO;have HT:=Lib.hid hT
 clear hperm hsor hO hT
 by_cases hin:i<n
 case neg=>
  have h1:¬ ((i:Int)<(n:Int)):=by omega
  have hs:=pairs_sorted (L:=X) (fun p q h1 h2=>HSO.out p q h1 (by have:=HP.out.length_eq;have:=HN.out;omega) (by have:=HP.out.length_eq;have:=HN.out;omega))
  have HS:=Lib.hid hs
  clear hs
  go_wp2
  exact bodyPost_end (results_none rfl _ _ _) rfl ⟨rfl,⟨X,HP.out,HS.out,HOW.out⟩,HT.out⟩
 have h1:(i:Int)<(n:Int):=by omega
 have hlen:X0.length=n:=HN.out
 have HLEN:=Lib.hid hlen
 clear hlen
 have hst:InsAt X i i:=InsAt.start (fun p q h1 h2=>HSO.out p q h1 h2 (by omega))
 have HST:=Lib.hid hst
 clear hst HSO
 go_wp2
 refine wp_loop (fun a W=>∃(j:Nat) (X:List Int),j<=i/\a.defers=[]/\(a.tmps.size=49/\a.tmps.getD 0 undef=.slice ao n cap/\a.tmps.getD 1 undef=.int .i64 0/\a.tmps.getD 2 undef=.int .i64 n/\a.tmps.getD 6 undef=.int .i64 i/\a.tmps.getD 7 undef=.int .i64 j)/\X.Perm X0/\InsAt X i j/\W.ownsRow base 3 1 (.slice ao n cap) n (intV X)/\Turn (fun b=>(Value.slice ao n cap).ownBlock=some b) w W)
  (fun a _=>(intOf (a.tmps.getD 7 undef)).toNat) ?_ ?_
 ·exact⟨i,X,by omega,rfl,⟨rfl,rfl,rfl,rfl,rfl,rfl⟩,HP.out,HST.out,HOW.out,HT.out⟩
 clear HP HST HOW HT X
 rintro⟨t,_⟩ W ⟨j,X,hj,hds,⟨hsz,f0,f1,f2,f6,f7⟩,hperm,hat,hO,hT⟩
 subst hds
 obtain⟨u',hu⟩:=frame_fun hsz
 obtain⟨u,rfl⟩:∃ x,x=u':=⟨_,rfl⟩
 have hu':t=#[u 0,u 1,u 2,u 3,u 4,u 5,u 6,u 7,u 8,u 9,u 10,u 11,u 12,u 13,u 14,u 15,u 16,u 17,u 18,u 19,u 20,u 21,u 22,u 23,u 24,u 25,u 26,u 27,u 28,u 29,u 30,u 31,u 32,u 33,u 34,u 35,u 36,u 37,u 38,u 39,u 40,u 41,u 42,u 43,u 44,u 45,u 46,u 47,u 48]:=hu
 clear hu
 subst hu'
 change u 0=_ at f0
 change u 1=_ at f1
 change u 2=_ at f2
 change u 6=_ at f6
 change u 7=_ at f7
 rw [f0,f1,f2,f6,f7]
 clear f0 f1 f2 f6 f7 hsz
 have HP:=Lib.hid hperm;have HAT:=Lib.hid hat;have HOW:=Lib.hid hO;have HT:=Lib.hid hT
 have hXn:X.length=n:=by rw [hperm.length_eq];exact HN.out
 have HXN:=Lib.hid hXn
 clear hperm hat hO hT hXn
 by_cases hj0:j=0
 ·subst hj0
  have hfin:=HAT.out.stop (by omega) (.inl rfl)
  have HF:=Lib.hid hfin
  clear hfin
  go_upto_region 4 with (fail)
  refine wp_region_late (S:=fun _=>True) [] (by kernel_rfl) trivial ?_
  intro hS0
  refine tkE (i:=0) (d:=16) (v:=?_) rfl (Or.inl ⟨by rfl,?_⟩) trivial ?_
  rotate_left
  ·intro w hSw;(try dsimp only at hSw);go_simp;try with_reducible rfl
  try simp only [Act.put,pq]
  refine tkE (i:=1) (d:=17) (v:=?_) rfl (Or.inl ⟨by rfl,?_⟩) trivial ?_
  rotate_left
  ·intro w hSw;(try dsimp only at hSw);go_simp;try with_reducible rfl
  try simp only [Act.put,pq]
  refine tkE (i:=2) (d:=18) (v:=?_) rfl (Or.inl ⟨by rfl,?_⟩) trivial ?_
  rotate_left
  ·intro w hSw;(try dsimp only at hSw);go_simp;try with_reducible rfl
  try simp only [Act.put,pq]
  refine tkE (i:=3) (d:=19) (v:=?_) rfl (Or.inl ⟨by rfl,?_⟩) trivial ?_
  rotate_left
  ·intro w hSw;(try dsimp only at hSw);go_simp;try with_reducible rfl
  try simp only [Act.put,pq]
  refine tkE (i:=4) (d:=20) (v:=undef) rfl (Or.inr ⟨by rfl,rfl⟩) trivial ?_
  try simp only [Act.put,pq]
  refine tkE (i:=5) (d:=21) (v:=undef) rfl (Or.inr ⟨by rfl,rfl⟩) trivial ?_
  try simp only [Act.put,pq]
  refine tkE (i:=6) (d:=22) (v:=undef) rfl (Or.inr ⟨by rfl,rfl⟩) trivial ?_
  try simp only [Act.put,pq]
  refine tkE (i:=7) (d:=23) (v:=undef) rfl (Or.inr ⟨by rfl,rfl⟩) trivial ?_
  try simp only [Act.put,pq]
  refine tkE (i:=8) (d:=24) (v:=undef) rfl (Or.inr ⟨by rfl,rfl⟩) trivial ?_
  try simp only [Act.put,pq]
  refine tkE (i:=9) (d:=25) (v:=undef) rfl (Or.inr ⟨by rfl,rfl⟩) trivial ?_
  try simp only [Act.put,pq]
  refine tkE (i:=10) (d:=26) (v:=undef) rfl (Or.inr ⟨by rfl,rfl⟩) trivial ?_
  try simp only [Act.put,pq]
  refine tkE (i:=11) (d:=27) (v:=undef) rfl (Or.inr ⟨by rfl,rfl⟩) trivial ?_
  try simp only [Act.put,pq]
  refine tkE (i:=12) (d:=28) (v:=undef) rfl (Or.inr ⟨by rfl,rfl⟩) trivial ?_
  try simp only [Act.put,pq]
  refine tkE (i:=13) (d:=29) (v:=undef) rfl (Or.inr ⟨by rfl,rfl⟩) trivial ?_
  try simp only [Act.put,pq]
  refine tkE (i:=14) (d:=30) (v:=?_) rfl (Or.inl ⟨by rfl,?_⟩) trivial ?_
  rotate_left
  ·intro w hSw;(try dsimp only at hSw);go_simp;try with_reducible rfl
  try simp only [Act.put,pq]
  refine wpAnyE_done (by kernel_rfl) ?_ _
  have HTd:=Lib.hid (HT.out.drew);have HOd:=Lib.hid (own_ext HOW.out (Turn.drew (Turn.refl _ W)))
  clear HT HOW
  go_wp2
  exact⟨⟨i+1,X,by omega,by omega,by first | rfl | trivial,⟨rfl,rfl,rfl,rfl,by first | rfl | simp⟩,HP.out,fun p q h1 h2 h3=>HF.out p q h1 (by omega),HOd.out,HTd.out⟩,by simp [intOf];omega⟩
 obtain⟨k,rfl⟩:∃ k,j=k+1:=⟨j - 1,by omega⟩
 obtain⟨g,rfl⟩:=own_some HOW.out (by omega)
 have c1:=HOW.out.cellAt (k+1) (by omega)
 have c0:=HOW.out.cellAt k (by omega)
 rw [intV_get X (by rw [HXN.out];omega)] at c1 c0
 obtain⟨x1,hx1⟩:∃ x,X.getD (k+1) 0=x:=⟨_,rfl⟩
 obtain⟨x0,hx0⟩:∃ x,X.getD k 0=x:=⟨_,rfl⟩
 rw [hx1] at c1
 rw [hx0] at c0
 have HX1:=Lib.hid hx1;have HX0:=Lib.hid hx0
 have hcs:∀(D:World),Ext W D->D.cell? ⟨g,k+1,none⟩=some (.int .i64 x1)/\D.cell? ⟨g,k,none⟩=some (.int .i64 x0):=fun D hD=>⟨hD.cell_some c1 id,hD.cell_some c0 id⟩
 have HS:=Lib.hid hcs
 clear hcs c1 c0 hx1 hx0
 have hsub:IntKind.i64.wrap (k:Int)=(k:Int):=IntWalk.i64_in _ (by omega)
 have ht1:((k:Int)+1).toNat=k+1:=by omega
 have hp0:(0:Int)<(k:Int)+1:=by omega
 have hp1:(0:Int)<=(k:Int)+1:=by omega
 have hp2:(k:Int)+1<(n:Int):=by omega
 have hp3:(k:Int)<(n:Int):=by omega
 go_upto_region 4 with (fail)
 refine wp_region_late (S:=fun D=>D.cell? ⟨g,k+1,none⟩=some (.int .i64 x1)/\D.cell? ⟨g,k,none⟩=some (.int .i64 x0)) [] (by kernel_rfl) (HS.out _ (Turn.drew (Turn.refl _ W))) ?_
 intro hS0
 refine tkE (i:=0) (d:=16) (v:=?_) rfl (Or.inl ⟨by rfl,?_⟩) hS0 ?_
 rotate_left
 ·intro w hSw;(try dsimp only at hSw);go_simp;try with_reducible rfl
 try simp only [Act.put,pq]
 refine tkE (i:=1) (d:=17) (v:=?_) rfl (Or.inl ⟨by rfl,?_⟩) hS0 ?_
 rotate_left
 ·intro w hSw;(try dsimp only at hSw);go_simp;try with_reducible rfl
 try simp only [Act.put,pq]
 refine tkE (i:=2) (d:=18) (v:=?_) rfl (Or.inl ⟨by rfl,?_⟩) hS0 ?_
 rotate_left
 ·intro w hSw;(try dsimp only at hSw);go_simp;try with_reducible rfl
 try simp only [Act.put,pq]
 refine tkE (i:=3) (d:=19) (v:=?_) rfl (Or.inl ⟨by rfl,?_⟩) hS0 ?_
 rotate_left
 ·intro w hSw;(try dsimp only at hSw);go_simp;try with_reducible rfl
 try simp only [Act.put,pq]
 refine tkE (i:=4) (d:=20) (v:=?_) rfl (Or.inl ⟨by rfl,?_⟩) hS0 ?_
 rotate_left
 ·intro w hSw;(try dsimp only at hSw);go_simp;try with_reducible rfl
 try simp only [Act.put,pq]
 refine tkE (i:=5) (d:=21) (v:=?_) rfl (Or.inl ⟨by rfl,?_⟩) hS0 ?_
 rotate_left
 ·intro w hSw;(try dsimp only at hSw);go_simp;try with_reducible rfl
 try simp only [Act.put,pq]
 refine tkE (i:=6) (d:=22) (v:=?_) rfl (Or.inl ⟨by rfl,?_⟩) hS0 ?_
 rotate_left
 ·intro w hSw;(try dsimp only at hSw);go_simp;try with_reducible rfl
 try simp only [Act.put,pq]
 refine tkE (i:=7) (d:=23) (v:=?_) rfl (Or.inl ⟨by rfl,?_⟩) hS0 ?_
 rotate_left
 ·intro w hSw;(try dsimp only at hSw);go_simp;try with_reducible rfl
 try simp only [Act.put,pq]
 refine tkE (i:=8) (d:=24) (v:=?_) rfl (Or.inl ⟨by rfl,?_⟩) hS0 ?_
 rotate_left
 ·intro w hSw;(try dsimp only at hSw);go_simp;try with_reducible rfl
 try simp only [Act.put,pq]
 refine tkE (i:=9) (d:=25) (v:=?_) rfl (Or.inl ⟨by rfl,?_⟩) hS0 ?_
 rotate_left
 ·intro w hSw;(try dsimp only at hSw);go_simp;try with_reducible rfl
 try simp only [Act.put,pq]
 refine tkE (i:=10) (d:=26) (v:=?_) rfl (Or.inl ⟨by rfl,?_⟩) hS0 ?_
 rotate_left
 ·intro w hSw;(try dsimp only at hSw);go_simp;try with_reducible rfl
 try simp only [Act.put,pq]
 refine tkE (i:=11) (d:=27) (v:=?_) rfl (Or.inl ⟨by rfl,?_⟩) hS0 ?_
 rotate_left
 ·intro w hSw;(try dsimp only at hSw);go_simp;try with_reducible rfl
 try simp only [Act.put,pq]
 refine tkE (i:=12) (d:=28) (v:=?_) rfl (Or.inl ⟨by rfl,?_⟩) hS0 ?_
 rotate_left
 ·intro w hSw;(try dsimp only at hSw);go_simp;try with_reducible rfl
 try simp only [Act.put,pq]
 refine wpAnyE_ready (rs:=[13]) (by kernel_rfl) (by simp) ?_
 refine AllReadyE.cons rfl (fun K hK=>?_) AllReadyE.nil
 (try rw [if_pos (show Region.wanted _ _=true from rfl)])
 go_simp
 refine(less_any _ _ _).mono ?_
 rintro e w5 ⟨rfl,rfl⟩
 refine hK.out _ _ hS0 (fun _=>?_)
 clear hK K
 try simp only [Act.put,pq]
 refine tkE (i:=14) (d:=30) (v:=?_) rfl (Or.inl ⟨by rfl,?_⟩) hS0 ?_
 rotate_left
 ·intro w hSw;(try dsimp only at hSw);go_simp;try with_reducible rfl
 try simp only [Act.put,pq]
 refine wpAnyE_done (by kernel_rfl) ?_ _
 have eD:Ext W W.drew:=Turn.drew (Turn.refl _ W)
 have HOD:=Lib.hid (own_ext HOW.out eD);have HTD:=Lib.hid (HT.out.drew)
 by_cases hlt:x1<x0
 case neg=>
  have hfin:=HAT.out.stop hj (.inr ⟨k,rfl,by rw [HX1.out,HX0.out];exact hlt⟩)
  have HF:=Lib.hid hfin
  clear hfin hS0 hsub ht1 hp0 hp1 hp2 hp3 HS HOW HT
  go_wp2
  first
   | exact⟨⟨i+1,X,by omega,by omega,by first | rfl | trivial,⟨rfl,rfl,rfl,rfl,by first | rfl | simp⟩,HP.out,fun p q h1 h2 h3=>HF.out p q h1 (by omega),HOD.out,HTD.out⟩,by simp [intOf];omega⟩
   | exact⟨⟨i+1,by omega,by omega,by simp,X,HP.out,fun p q h1 h2 h3=>HF.out p q h1 (by omega),HOD.out,HTD.out⟩,by simp [intOf];omega⟩
 have hsw:=HAT.out.swap hj (by rw [HXN.out];exact hin) (by rw [HX1.out,HX0.out];exact hlt)
 have hpm:=(swapL_perm X (j:=k) (by rw [HXN.out];omega)).trans HP.out
 have HSW:=Lib.hid hsw;have HPM:=Lib.hid hpm
 clear hsw hpm
 go_upto_region 6 with (fail)
 obtain⟨W6,hW6⟩:∃ D,W.drew.drew=D:=⟨_,rfl⟩
 have e6:Ext W W6:=by rw [<-hW6];exact eD.drew
 have HO6:=Lib.hid (own_ext HOW.out e6)
 obtain⟨cx1,cx0⟩:=HS.out _ e6
 refine wp_region_late (S:=fun _=>True) [] (by kernel_rfl) trivial ?_
 intro hS0
 rw [hW6]
 clear hW6
 refine tkE (i:=0) (d:=33) (v:=?_) rfl (Or.inl ⟨by rfl,?_⟩) trivial ?_
 rotate_left
 ·intro w hSw;(try dsimp only at hSw);go_simp;try with_reducible rfl
 try simp only [Act.put,pq]
 refine tkE (i:=1) (d:=34) (v:=?_) rfl (Or.inl ⟨by rfl,?_⟩) trivial ?_
 rotate_left
 ·intro w hSw;(try dsimp only at hSw);go_simp;try with_reducible rfl
 try simp only [Act.put,pq]
 refine tkE (i:=2) (d:=35) (v:=?_) rfl (Or.inl ⟨by rfl,?_⟩) trivial ?_
 rotate_left
 ·intro w hSw;(try dsimp only at hSw);go_simp;try with_reducible rfl
 try simp only [Act.put,pq]
 refine tkE (i:=3) (d:=36) (v:=?_) rfl (Or.inl ⟨by rfl,?_⟩) trivial ?_
 rotate_left
 ·intro w hSw;(try dsimp only at hSw);go_simp;try with_reducible rfl
 try simp only [Act.put,pq]
 refine tkE (i:=4) (d:=37) (v:=?_) rfl (Or.inl ⟨by rfl,?_⟩) trivial ?_
 rotate_left
 ·intro w hSw;(try dsimp only at hSw);go_simp;try with_reducible rfl
 try simp only [Act.put,pq]
 refine tkE (i:=5) (d:=38) (v:=?_) rfl (Or.inl ⟨by rfl,?_⟩) trivial ?_
 rotate_left
 ·intro w hSw;(try dsimp only at hSw);go_simp;try with_reducible rfl
 try simp only [Act.put,pq]
 refine tkE (i:=6) (d:=39) (v:=?_) rfl (Or.inl ⟨by rfl,?_⟩) trivial ?_
 rotate_left
 ·intro w hSw;(try dsimp only at hSw);go_simp;try with_reducible rfl
 try simp only [Act.put,pq]
 refine tkE (i:=7) (d:=40) (v:=?_) rfl (Or.inl ⟨by rfl,?_⟩) trivial ?_
 rotate_left
 ·intro w hSw;(try dsimp only at hSw);go_simp;try with_reducible rfl
 try simp only [Act.put,pq]
 refine tkE (i:=8) (d:=41) (v:=?_) rfl (Or.inl ⟨by rfl,?_⟩) trivial ?_
 rotate_left
 ·intro w hSw;(try dsimp only at hSw);go_simp;try with_reducible rfl
 try simp only [Act.put,pq]
 refine tkE (i:=10) (d:=43) (v:=?_) rfl (Or.inl ⟨by rfl,?_⟩) trivial ?_
 rotate_left
 ·intro w hSw;(try dsimp only at hSw);go_simp;try with_reducible rfl
 try simp only [Act.put,pq]
 refine tkE (i:=11) (d:=44) (v:=?_) rfl (Or.inl ⟨by rfl,?_⟩) trivial ?_
 rotate_left
 ·intro w hSw;(try dsimp only at hSw);go_simp;try with_reducible rfl
 try simp only [Act.put,pq]
 refine tkE (i:=12) (d:=45) (v:=?_) rfl (Or.inl ⟨by rfl,?_⟩) trivial ?_
 rotate_left
 ·intro w hSw;(try dsimp only at hSw);go_simp;try with_reducible rfl
 try simp only [Act.put,pq]
 refine wpAnyE_ready (rs:=[9,13]) (by kernel_rfl) (by simp) ?_
 refine AllReadyE.cons rfl (fun K hK=>?_) (AllReadyE.cons rfl (fun K hK=>?_) AllReadyE.nil)
 ·(try rw [if_pos (show Region.wanted _ _=true from rfl)])
  go_simp
  refine hK.out _ _ trivial (fun _=>?_)
  clear hK K
  try simp only [Act.put,pq]
  refine wpAnyE_ready (rs:=[13]) (by kernel_rfl) (by simp) ?_
  refine AllReadyE.cons rfl (fun K hK=>?_) AllReadyE.nil
  (try rw [if_pos (show Region.wanted _ _=true from rfl)])
  go_simp
  refine hK.out _ _ trivial (fun _=>?_)
  clear hK K
  try simp only [Act.put,pq]
  refine tkE (i:=14) (d:=47) (v:=?_) rfl (Or.inl ⟨by rfl,?_⟩) trivial ?_
  rotate_left
  ·intro w hSw;(try dsimp only at hSw);go_simp;try with_reducible rfl
  try simp only [Act.put,pq]
  refine wpAnyE_ready (rs:=[15]) (by kernel_rfl) (by simp) ?_
  refine AllReadyE.cons rfl (fun K hK=>?_) AllReadyE.nil
  (try rw [if_pos (show Region.wanted _ _=true from rfl)])
  have cZ:=HO6.out.cellAt (k+1) (by omega)
  rw [intV_get X (by rw [HXN.out];omega),HX1.out] at cZ
  have fZ:=HO6.out.frozenAt (k+1)
  go_simp
  refine hK.out _ _ trivial (fun _=>?_)
  clear hK K cZ fZ
  (try change wpAnyE _ _ _ _ _ _ _ _ (Act.put _ none _) _)
  (try simp only [Act.put])
  have hO7:=own_store HO6.out (k+1) (.int .i64 x0)
  have t7:Turn (fun b=>b=g) W6 (W6.setCell ⟨g,k+1,none⟩ (.int .i64 x0)):=Turn.set1 W6 g (k+1) _
  obtain⟨W7,hW7⟩:∃ D,W6.setCell ⟨g,k+1,none⟩ (.int .i64 x0)=D:=⟨_,rfl⟩
  rw [hW7] at hO7 t7 ⊢
  clear hW7
  refine tkE (i:=16) (d:=48) (v:=?_) rfl (Or.inl ⟨by rfl,?_⟩) trivial ?_
  rotate_left
  ·intro w hSw;(try dsimp only at hSw);go_simp;try with_reducible rfl
  try simp only [Act.put,pq]
  refine wpAnyE_ready (rs:=[17]) (by kernel_rfl) (by simp) ?_
  refine AllReadyE.cons rfl (fun K hK=>?_) AllReadyE.nil
  (try rw [if_pos (show Region.wanted _ _=true from rfl)])
  have cZ:=hO7.cellAt k (by omega)
  rw [List.getElem?_set_ne (by omega),intV_get X (by rw [HXN.out];omega),HX0.out] at cZ
  have fZ:=hO7.frozenAt k
  go_simp
  refine hK.out _ _ trivial (fun _=>?_)
  clear hK K cZ fZ
  (try change wpAnyE _ _ _ _ _ _ _ _ (Act.put _ none _) _)
  (try simp only [Act.put])
  have hO8:=own_store hO7 k (.int .i64 x1)
  have t8:Turn (fun b=>b=g) W7 (W7.setCell ⟨g,k,none⟩ (.int .i64 x1)):=Turn.set1 W7 g k _
  obtain⟨W8,hW8⟩:∃ D,W7.setCell ⟨g,k,none⟩ (.int .i64 x1)=D:=⟨_,rfl⟩
  rw [hW8] at hO8 t8 ⊢
  clear hW8
  refine wpAnyE_done (by kernel_rfl) ?_ _
  have hrow:W8.ownsRow base 3 1 (.slice (some ⟨g,0,none⟩) n cap) n (intV (swapL X k)):=by
   rw [intV_set,intV_set] at hO8
   unfold swapL
   rw [HX1.out,HX0.out]
   exact hO8
  have hT8:Turn (fun b=>(Value.slice (some ⟨g,0,none⟩) n cap).ownBlock=some b) w W8:=HT.out.trans ((Ext.of e6).trans ((t7.trans t8).mono fun b _ e=>by subst e;rfl))
  have HROW:=Lib.hid hrow;have HT8:=Lib.hid hT8
  clear hrow hT8 hO8 hO7 t7 t8 ht1 hp0 hp1 hp2 hp3 HS HOW HT HOD HTD HO6 e6 eD
  go_wp2
  exact⟨⟨k,swapL X k,by omega,by first | rfl | trivial,⟨rfl,rfl,rfl,rfl,rfl,by first | rfl | simp⟩,HPM.out,HSW.out,HROW.out,HT8.out⟩,by first | (simp [intOf];done) | (simp [intOf];omega)⟩
 ·(try rw [if_pos (show Region.wanted _ _=true from rfl)])
  go_simp
  refine hK.out _ _ trivial (fun _=>?_)
  clear hK K
  try simp only [Act.put,pq]
  refine wpAnyE_ready (rs:=[9]) (by kernel_rfl) (by simp) ?_
  refine AllReadyE.cons rfl (fun K hK=>?_) AllReadyE.nil
  (try rw [if_pos (show Region.wanted _ _=true from rfl)])
  go_simp
  refine hK.out _ _ trivial (fun _=>?_)
  clear hK K
  try simp only [Act.put,pq]
  refine tkE (i:=14) (d:=47) (v:=?_) rfl (Or.inl ⟨by rfl,?_⟩) trivial ?_
  rotate_left
  ·intro w hSw;(try dsimp only at hSw);go_simp;try with_reducible rfl
  try simp only [Act.put,pq]
  refine wpAnyE_ready (rs:=[15]) (by kernel_rfl) (by simp) ?_
  refine AllReadyE.cons rfl (fun K hK=>?_) AllReadyE.nil
  (try rw [if_pos (show Region.wanted _ _=true from rfl)])
  have cZ:=HO6.out.cellAt (k+1) (by omega)
  rw [intV_get X (by rw [HXN.out];omega),HX1.out] at cZ
  have fZ:=HO6.out.frozenAt (k+1)
  go_simp
  refine hK.out _ _ trivial (fun _=>?_)
  clear hK K cZ fZ
  (try change wpAnyE _ _ _ _ _ _ _ _ (Act.put _ none _) _)
  (try simp only [Act.put])
  have hO7:=own_store HO6.out (k+1) (.int .i64 x0)
  have t7:Turn (fun b=>b=g) W6 (W6.setCell ⟨g,k+1,none⟩ (.int .i64 x0)):=Turn.set1 W6 g (k+1) _
  obtain⟨W7,hW7⟩:∃ D,W6.setCell ⟨g,k+1,none⟩ (.int .i64 x0)=D:=⟨_,rfl⟩
  rw [hW7] at hO7 t7 ⊢
  clear hW7
  refine tkE (i:=16) (d:=48) (v:=?_) rfl (Or.inl ⟨by rfl,?_⟩) trivial ?_
  rotate_left
  ·intro w hSw;(try dsimp only at hSw);go_simp;try with_reducible rfl
  try simp only [Act.put,pq]
  refine wpAnyE_ready (rs:=[17]) (by kernel_rfl) (by simp) ?_
  refine AllReadyE.cons rfl (fun K hK=>?_) AllReadyE.nil
  (try rw [if_pos (show Region.wanted _ _=true from rfl)])
  have cZ:=hO7.cellAt k (by omega)
  rw [List.getElem?_set_ne (by omega),intV_get X (by rw [HXN.out];omega),HX0.out] at cZ
  have fZ:=hO7.frozenAt k
  go_simp
  refine hK.out _ _ trivial (fun _=>?_)
  clear hK K cZ fZ
  (try change wpAnyE _ _ _ _ _ _ _ _ (Act.put _ none _) _)
  (try simp only [Act.put])
  have hO8:=own_store hO7 k (.int .i64 x1)
  have t8:Turn (fun b=>b=g) W7 (W7.setCell ⟨g,k,none⟩ (.int .i64 x1)):=Turn.set1 W7 g k _
  obtain⟨W8,hW8⟩:∃ D,W7.setCell ⟨g,k,none⟩ (.int .i64 x1)=D:=⟨_,rfl⟩
  rw [hW8] at hO8 t8 ⊢
  clear hW8
  refine wpAnyE_done (by kernel_rfl) ?_ _
  have hrow:W8.ownsRow base 3 1 (.slice (some ⟨g,0,none⟩) n cap) n (intV (swapL X k)):=by
   rw [intV_set,intV_set] at hO8
   unfold swapL
   rw [HX1.out,HX0.out]
   exact hO8
  have hT8:Turn (fun b=>(Value.slice (some ⟨g,0,none⟩) n cap).ownBlock=some b) w W8:=HT.out.trans ((Ext.of e6).trans ((t7.trans t8).mono fun b _ e=>by subst e;rfl))
  have HROW:=Lib.hid hrow;have HT8:=Lib.hid hT8
  clear hrow hT8 hO8 hO7 t7 t8 ht1 hp0 hp1 hp2 hp3 HS HOW HT HOD HTD HO6 e6 eD
  go_wp2
  exact⟨⟨k,swapL X k,by omega,by first | rfl | trivial,⟨rfl,rfl,rfl,rfl,rfl,by first | rfl | simp⟩,HPM.out,HSW.out,HROW.out,HT8.out⟩,by first | (simp [intOf];done) | (simp [intOf];omega)⟩
theorem pdq_any{w:World}{base n cap:Nat}{ao:Option Addr}{X0:List Int}(z:Int)(hO:w.ownsRow base 3 1 (.slice ao n cap) n (intV X0)) (hn:X0.length=n) (h100:n<=12) :
  Calls Tryz.prog 202 #[.slice ao n cap,.int .i64 0,.int .i64 n,.int .i64 z] w fun e w'=>e=.returned (.tuple #[])/\(∃ X:List Int,X.Perm X0/\X.Pairwise (·<=·)/\w'.ownsRow base 3 1 (.slice ao n cap) n (intV X))/\Turn (fun b=>(Value.slice ao n cap).ownBlock=some b) w w':=by
 have hc:=insert_any hO hn h100
 have HC:=Lib.hid hc
 have h12:(n:Int)<=12:=by omega
 clear hO hn hc
 go_enter Tryz.func202,Tryz.ntmps202
 go_wp2
 refine wp_loop (fun a W=>a.defers=[]/\(a.tmps.size=134/\a.tmps.getD 0 undef=.slice ao n cap/\a.tmps.getD 1 undef=.int .i64 0/\a.tmps.getD 2 undef=.int .i64 n)/\w=W) (fun _ _=>0) ?_ ?_
 ·exact⟨rfl,⟨rfl,rfl,rfl,rfl⟩,rfl⟩
 rintro⟨t,_⟩ W ⟨hds,⟨hsz,f0,f1,f2⟩,rfl⟩
 subst hds
 obtain⟨u',hu⟩:=frame_fun hsz
 obtain⟨u,rfl⟩:∃ x,x=u':=⟨_,rfl⟩
 have hu':t=#[u 0,u 1,u 2,u 3,u 4,u 5,u 6,u 7,u 8,u 9,u 10,u 11,u 12,u 13,u 14,u 15,u 16,u 17,u 18,u 19,u 20,u 21,u 22,u 23,u 24,u 25,u 26,u 27,u 28,u 29,u 30,u 31,u 32,u 33,u 34,u 35,u 36,u 37,u 38,u 39,u 40,u 41,u 42,u 43,u 44,u 45,u 46,u 47,u 48,u 49,u 50,u 51,u 52,u 53,u 54,u 55,u 56,u 57,u 58,u 59,u 60,u 61,u 62,u 63,u 64,u 65,u 66,u 67,u 68,u 69,u 70,u 71,u 72,u 73,u 74,u 75,u 76,u 77,u 78,u 79,u 80,u 81,u 82,u 83,u 84,u 85,u 86,u 87,u 88,u 89,u 90,u 91,u 92,u 93,u 94,u 95,u 96,u 97,u 98,u 99,u 100,u 101,u 102,u 103,u 104,u 105,u 106,u 107,u 108,u 109,u 110,u 111,u 112,u 113,u 114,u 115,u 116,u 117,u 118,u 119,u 120,u 121,u 122,u 123,u 124,u 125,u 126,u 127,u 128,u 129,u 130,u 131,u 132,u 133]:=hu
 clear hu
 subst hu'
 change u 0=_ at f0
 change u 1=_ at f1
 change u 2=_ at f2
 rw [f0,f1,f2]
 clear f0 f1 f2 hsz
 go_wp2_with fail
 refine HC.out.mono ?_
 rintro e w2 ⟨rfl,hX,hT⟩
 have HX:=Lib.hid hX;have HT:=Lib.hid hT
 clear hX hT
 go_wp2
 exact bodyPost_ret (results_none rfl _ _ _) rfl ⟨rfl,HX.out,HT.out⟩
theorem sort_any{w:World}{base n cap:Nat}{ao:Option Addr}{X0:List Int}(hO:w.ownsRow base 3 1 (.slice ao n cap) n (intV X0)) (hn:X0.length=n) (h100:n<=12) :
  Calls Tryz.prog 177 #[.slice ao n cap] w fun e w'=>e=.returned (.tuple #[])/\(∃ X:List Int,X.Perm X0/\X.Pairwise (·<=·)/\w'.ownsRow base 3 1 (.slice ao n cap) n (intV X))/\Turn (fun b=>(Value.slice ao n cap).ownBlock=some b) w w':=by
 have hc:=fun(z:Int)=>pdq_any z hO hn h100
 have HC:=Lib.hid hc
 have hl:=fun(W:World)=>len_core (n:Int) W (by omega) (by omega)
 have HL:=Lib.hid hl
 clear hO hn hc hl
 go_enter Tryz.func177,Tryz.ntmps177
 go_wp2_with (first | (go_at_call 241;refine(HL.out _).mono ?_;rintro e w' ⟨rfl,rfl⟩) | (go_at_call 203;go_in) | (go_at_call 202;refine(HC.out _).mono ?_;rintro e w2 ⟨rfl,hX,hT⟩))
 exact bodyPost_end (results_none rfl _ _ _) rfl ⟨rfl,hX,hT⟩
end Go.Proofs.YtfdlhlghcbeblaaGreatDoor
