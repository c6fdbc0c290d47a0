/- slices.Collect over a set; pats.Ends. slices.Collect over a set; pats.Ends. Patterns of one's own: rows of nodes, no block twice. No program is named. -/
import Derived.Test.YtfdlhlghcbeblaaGreatDoorG10
import Derived.Test.YtfdlhlghcbeblaaGreatDoorG05
import Derived.Test.YtfdlhlghcbeblaaGreatDoorG03
set_option maxRecDepth 100000
set_option maxHeartbeats 8000000
namespace Go.Proofs.YtfdlhlghcbeblaaGreatDoor
open Go.RowKit Go.Ab
attribute [local go_sem] Oper.semAt_some wide_fn wide_depth
theorem append_seq{w:World}{bx v:Nat}(hv:v<18446744073709551616)(hbx:bx≠0)(hb:SBox w bx v)(hT:Tab w)(hl:(evs v).length≤64) :
  Calls Tryz.prog 193 #[.slice none 0 0,.func (.func 301) #[] #[.pointer (some ⟨bx,0,none⟩)]] w fun e w'=>∃ u,e=.returned u∧w'.ownsRow w.heap.size 3 1 u (evs v).length (natV (evs v))∧Turn (·=bx) w w':=by
 refine calls_of_wp_marks Tryz.func193 rfl ?_
 simp only [Tryz.ntmps193,List.size_toArray,List.length_cons,List.length_nil,Nat.reduceAdd,Nat.reduceSub,Array.replicate_succ,Array.replicate_zero,List.push_toArray,List.append_toArray,List.nil_append,List.cons_append]
 go_wp2
 obtain⟨B,hB⟩:∃ B,w.heap.size=B:=⟨_,rfl⟩
 have hbl:bx<B:=by rw [← hB];exact(Array.getElem?_eq_some_iff.1 hb).1
 have htl:0<B:=by rw [← hB];exact tab_lt hT
 have hL1:(w.alloc (.cells #[.slice none 0 0] 48)).heap[B]?=some (.cells #[.slice none 0 0] 48 (0,0)):=new_at hB.symm
 have hE1:Ext w (w.alloc (.cells #[.slice none 0 0] 48)):=(Turn.refl _ w).alloc _
 have hs1:(w.alloc (.cells #[.slice none 0 0] 48)).heap.size=B+1:=by rw [← hB];simp
 generalize (w.alloc (.cells #[.slice none 0 0] 48))=w1 at hL1 hE1 hs1 ⊢
 have hb1:SBox w1 bx v:=hE1.keep hb
 have hT1:=hT.keep hE1 id
 rw [hB]
 have HB:=Lib.hid hB
 clear hB
 refine wp_range (xs:=evs v) (S:=(·=bx)) (K:=fun b'=>b'=bx∨b'=0) rfl (enters_of Tryz.func301 (by kernel_rfl) rfl)
  (all_iter _ hv bx hbx w1 hb1 hT1) (fun _ h=>.inl h) (fun b' h=>by omega) (fun _=>rfl)
  (fun pre V=>∃ u,V.heap[B]?=some (.cells #[u] 48 (0,0))∧V.ownsRow B 3 1 u pre.length (natV pre)∧(∀ g,u.ownBlock=some g→g≠B∧g≠B+1∧g≠B+2)∧Turn (·=bx) w V)
  (fun _ _ _=>False) ?hI ?hIx ?h0 (fun i t=>(t.setIfInBounds 7 (.int .i64 i)).setIfInBounds 5 (.int .i64 i)) ?assign ?body ?done ?stop
 case hI=>
  rintro pre P Q ⟨u,i1,i2,i3,i4⟩ ht0
  have ht:Turn (fun b=>b=bx∨b=B+2) P Q:=ht0.mono (fun b _ h=>by omega)
  exact⟨u,ht.heap i1 (by omega),own_keep i2 ht (fun b hb e=>by have:=i3 b hb;have:=(i2.lt _ hb).1;omega),i3,i4.after ht (fun b' h1 h2=>by have:=HB.out;omega)⟩
 case hIx=>exact fun _ _ _ _ h _=>h
 case h0=>
  intro V hV _
  exact⟨.slice none 0 0,hV.keep hL1,World.ownsRow_nil _ _ _ _,(fun g hg=>by cases hg),Ext.of (Turn.trans hE1 hV)⟩
 case assign=>
  intro i V K hK
  gi_wp2
  exact hK
 case body=>
  rintro pre i rest V hx hsz ht ⟨u,i1,i2,i3,i4⟩
  simp only [pq]
  have hpl:pre.length<64:=by
   have:=congrArg List.length hx
   simp at this
   omega
  have cL:=cell_of_one i1
  have fL:=free_of_one i1
  have hBV:B<V.heap.size:=(Array.getElem?_eq_some_iff.1 i1).1
  have hX:=Lib.hid hx
  clear hx
  refine wpIn_block ?_
  refine wpIn_region_plain (by kernel_rfl) (by rintro⟨_,_,h⟩;exact h) ?_
  have I1:=Lib.hid i1
  clear i1
  go_wp2_with (at_builtin;refine append_row rfl (.tmp 8) (.tmp 10) 48 rfl B 3 _ 1 8 Tryz.underlying48 Tryz.infoI rfl (by decide) _ _ _ rfl (own_ext i2 ((Turn.refl _ V).alloc _)) ⟨V.heap.size,0,none⟩ 1 1 [.int .i64 i] rfl rfl (new_cells' rfl) ?c2 ?c3 ?c4 ?c5 ?_)
  case c2=>first | rfl | (intro u hu;simp at hu;rcases hu with rfl;rfl)
  case c3=>unfold maxLen;omega
  case c4=>omega
  case c5=>simp;omega
  intro ao' c' w5 hO5 hT5 hB5
  have hT6:Turn (fun b'=>u.ownBlock=some b') V w5:=Turn.trans (Turn.alloc (Turn.refl _ V) _) hT5
  have hL5:=hT6.heap I1.out (fun e=>(i3 _ e).1 rfl)
  have hE5:Turn (·=bx) w w5:=i4.after hT6 (fun b' h1 e=>by have:=(i2.lt _ e).1;have:=HB.out;omega)
  have hg5:∀ g,(Value.slice ao' (pre.length+1) c').ownBlock=some g→g≠B∧g≠B+1∧g≠B+2:=by
   intro g hg
   rcases hB5 with e | e
   ·exact i3 g (e ▸ hg)
   ·rw [hg] at e;cases e;omega
  have cL5:=cell_of_one hL5
  have fL5:=free_of_one hL5
  have hT7:=Turn.set1 w5 B 0 (.slice ao' (pre.length+1) c')
  have hL7:(w5.setCell ⟨B,0,none⟩ (.slice ao' (pre.length+1) c')).heap[B]?=some (.cells #[.slice ao' (pre.length+1) c'] 48 (0,0)):=by
   simp only [World.setCell,Array.getElem?_modify,hL5]
   simp
  have hKV:Turn (fun b=>¬ ((b=bx∨b=0)∨b=B+1∨b=B+1+1)) V (w5.setCell ⟨B,0,none⟩ (.slice ao' (pre.length+1) c')):=
   (hT6.mono (fun b' _ e=>by have:=i3 _ e;have:=(i2.lt _ e).1;omega)).trans (hT7.mono (fun b' _ e=>by omega))
  have hfin:∃ u,(w5.setCell ⟨B,0,none⟩ (.slice ao' (pre.length+1) c')).heap[B]?=some (.cells #[u] 48 (0,0))∧(w5.setCell ⟨B,0,none⟩ (.slice ao' (pre.length+1) c')).ownsRow B 3 1 u (pre++[i]).length (natV (pre++[i]))∧(∀ g,u.ownBlock=some g→g≠B∧g≠B+1∧g≠B+2)∧Turn (·=bx) w (w5.setCell ⟨B,0,none⟩ (.slice ao' (pre.length+1) c')):=by
   refine⟨_,hL7,?_,hg5,hE5.after hT7 (fun b h1 h2=>by have:=HB.out;omega)⟩
   rw [natV_append,List.length_append]
   exact own_keep hO5 hT7 (fun b hb e=>(hg5 b hb).1 e)
  have HKV:=Lib.hid hKV;have HFIN:=Lib.hid hfin
  clear hKV hfin hL7 hT7 hg5 hE5 hT6 hT5 hO5 hB5 cL fL i2 i3 i4 ht
  go_wp2
  exact⟨HKV.out,HFIN.out⟩
 case done=>
  rintro V ⟨u,i1,i2,i3,i4⟩ ht hD
  have cL:=cell_of_one i1
  clear hE1 hb1 hT1 hL1
  go_wp2
  have hm:Marks B ({ target:=.collected w1.heap.size,args:=#[] }::[]) V:=Marks.cons (base:=B) trivial (by omega) hD (fun e he=>by cases he)
  refine bodyPostM_ret hm (fun w'=>results_tmp rfl _ _ _) (fun w' ht' hs=>⟨u,rfl,?_,?_⟩)
  ·rw [HB.out]
   exact own_keep i2 ht' (fun b hb e=>by obtain⟨cur,hc⟩:=own_block_ty i2 hb;exact Shut.not hc rfl e)
  ·exact i4.after ht' (fun b' h2 h3=>by have:=h3.1;have:=HB.out;omega)
 case stop=>exact fun _ _ _ _ _ _ h=>h.elim
end Go.Proofs.YtfdlhlghcbeblaaGreatDoor
set_option maxRecDepth 100000
set_option maxHeartbeats 8000000
namespace Go.Proofs.YtfdlhlghcbeblaaGreatDoor
open Go.RowKit Go.Ab
attribute [local go_sem] Oper.semAt_some wide_fn wide_depth
theorem collect_any{w:World}{bx v:Nat}(hv:v<18446744073709551616)(hbx:bx≠0)(hb:SBox w bx v)(hT:Tab w)(hl:(evs v).length≤64) :
  Calls Tryz.prog 163 #[.func (.func 301) #[] #[.pointer (some ⟨bx,0,none⟩)]] w fun e w'=>∃ u,e=.returned u∧w'.ownsRow w.heap.size 3 1 u (evs v).length (natV (evs v))∧Turn (·=bx) w w':=by
 go_enter Tryz.func163,Tryz.ntmps163
 go_wp2_with fail
 refine(append_seq hv hbx hb hT hl).mono ?_
 rintro e w2 ⟨u,rfl,h1,h2⟩
 go_wp2
 go_ret
 exact⟨_,rfl,h1,h2⟩
theorem evs_row(R:Bin2)(a:Nat):evs (rowM R a)=(List.range 33).filter (R a):=evs_rowM R a
theorem rng_filter{R:Bin2}{a n:Nat}(hn:n≤32)(hR:∀ b,R a b=true→b≤n):(List.range 33).filter (R a)=(List.range (n+1)).filter (fun b=>R a b):=by
 have e:List.range 33=List.range (n+1)++(List.range (32 - n)).map (n+1+·):=by
  rw [← List.range_add,show n+1+(32 - n)=33 by omega]
 rw [e,List.filter_append]
 have:((List.range (32 - n)).map (n+1+·)).filter (R a)=[]:=by
  rw [List.filter_eq_nil_iff]
  intro x hx h
  obtain⟨i,_,rfl⟩:=List.mem_map.1 hx
  have:=hR _ h
  omega
 rw [this,List.append_nil]
theorem ends_any{K:Nat→Prop}{w:World}{p:Pat}{cs:List Value}{v:Value}{ws:Wd}(hp:PatAt K w p cs)(hK:∀ g,K g→g<w.heap.size)(hv:WordAt w v ws)(hT:Tab w)(at':Int) :
  Calls Tryz.prog 280 #[.agg cs.toArray,v,.int .i64 at'] w fun e w'=>∃ u,e=.returned (.tuple #[u,.int .i64 (placeE p ws at')])∧w'.ownsRow w.heap.size 3 1 u (endL p ws at').length (natV (endL p ws at'))∧Ext w w':=by
 have hmono:Mono ws.length (relR p ws):=by
  unfold relR
  split
  ·exact relP_mono ws p
  ·exact Mono.no _
 have HT:=Lib.hid hT
 have hre:=fun(V:World) (hE:Ext w V)=>relate_any (K:=K) (hp.ext hE) (fun g hg=>Nat.lt_of_lt_of_le (hK g hg) hE.size) (hv.ext hE) (hT.keep hE id)
 obtain⟨ao,cap,rfl,hlc,hcm,_⟩:=patAt_cells hp
 obtain⟨bo,bcap,rfl,hbm⟩:=hv.slice
 clear hp hlc hcm hv hT hK
 have HRE:=Lib.hid hre
 clear hre
 obtain⟨z,hz⟩:∃ z,relE p ws=z:=⟨_,rfl⟩
 obtain⟨R,hR⟩:∃ R,relR p ws=R:=⟨_,rfl⟩
 obtain⟨n,hN⟩:∃ n,ws.length=n:=⟨_,rfl⟩
 have HP:Hid (placeE p ws at'=if z=0 then exE n at' else z):=Lib.hid (by unfold placeE;rw [hz,hN])
 have HL:Hid (endL p ws at'=if placeE p ws at'=0 then(List.range (n+1)).filter (fun b=>R at'.toNat b) else []):=Lib.hid (by unfold endL;rw [hR,hN])
 have hn32:z=0→n≤32:=fun h=>by
  subst hz;subst hN
  exact relE_len h
 rw [hz] at HRE
 rw [hR] at HRE hmono
 rw [hN] at HRE hbm hmono ⊢
 have HMO:=Lib.hid hmono
 clear hmono
 clear hz hR hN
 have HNL:=Lib.hid hn32
 clear hn32
 unfold patCells at HRE ⊢
 have z1:=zero_rel
 have z2:=relArr_size noB
 have z3:=relArr_ne noB
 go_enter Tryz.func280,Tryz.ntmps280
 go_wp2_with fail
 refine(HRE.out _ ((Turn.refl _ w).alloc _)).mono ?_
 rintro e w2 ⟨rfl,hE2⟩
 have hE02:Ext w w2:=Turn.trans ((Turn.refl _ w).alloc _) hE2
 clear hE2
 have hR0:(w2.alloc (.cells (relArr noB) 363)).heap[w2.heap.size]?=some (.cells (relArr noB) 363 (0,0)):=new_at rfl
 have hR3:RowsAt ((w2.alloc (.cells (relArr noB) 363)).setRow w2.heap.size (rowArr (rowM R))) w2.heap.size (rowM R):=setRow_heap _ _ _ _ _ _ hR0
 have hE3:Ext w ((w2.alloc (.cells (relArr noB) 363)).setRow w2.heap.size (rowArr (rowM R))):=hE02.trans (((Turn.refl _ w2).alloc _).after (Turn.setRow _ _ _) (fun b' h1 h2=>by omega))
 go_upto_region 2 with (refine wpList_store_row rfl 363 (.tmp 8) (.tmp 14) rfl w2.heap.size (rowArr (rowM R)) rfl rfl _ _ hR0 (Tryz.relInfo _) (by rw [relArr_size,rowArr_size]) (rowArr_one _) ?_)
 generalize ((w2.alloc (.cells (relArr noB) 363)).setRow w2.heap.size (rowArr (rowM R)))=w3 at hR3 hE3 ⊢
 generalize w2.heap.size=b at hR3 ⊢
 clear hR0 hE02 z1 z2 z3
 by_cases hz0:z=0
 ·have hn:=HNL.out hz0
  rw [if_pos hz0] at HP
  subst hz0
  go_wp2_with fail
  refine(exists_any _ _ _ _ _).mono ?_
  rintro e w4 ⟨rfl,rfl⟩
  by_cases hin:at'<0∨(n:Int)<at'
  ·have hex:exE n at'=3:=by unfold exE;rw [if_pos hin]
   rw [hex] at HP ⊢
   clear hex
   go_wp2
   refine bodyPost_ret (results_two rfl _ _ _) rfl ⟨_,by rw [HP.out];rfl,?_,hE3⟩
   rw [HL.out,HP.out,if_neg (by decide)]
   exact World.ownsRow_nil _ _ _ _
  ·have hex:exE n at'=0:=by unfold exE;rw [if_neg hin]
   rw [hex] at HP ⊢
   obtain⟨m,rfl⟩:∃ m:Nat,at'=m:=⟨at'.toNat,by omega⟩
   have HL2:Hid (endL p ws m=(List.range (n+1)).filter (fun b=>R m b)):=Lib.hid (by rw [HL.out,HP.out];rfl)
   have hmn:m≤n:=by omega
   have c0:=hR3.cell (a:=m) (by omega)
   have hl:=rowM_lt R m
   have hrg:(List.range 33).filter (R m)=(List.range (n+1)).filter (fun b=>R m b):=rng_filter hn (fun b hb=>(HMO.out m b hb).2)
   have HRG:=Lib.hid hrg
   clear hex HL hin hrg
   go_wp2_with (go_at_call 293;refine(all_any _ _).mono ?_;rintro e w' ⟨rfl,rfl⟩)
   have hTl:=tab_lt HT.out
   have hs4:=hE3.size
   have hE4:Ext w (w4.alloc (.cells #[.int .u64 (rowM R m:Int)] 361)):=Turn.alloc hE3 _
   have hlen:(evs (rowM R m)).length≤64:=by
    rw [evs_row]
    have:=List.length_filter_le (R m) (List.range 33)
    simp at this
    omega
   refine(collect_any (v:=rowM R m) (bx:=w4.heap.size) (by omega) (by omega) (new_at rfl) (HT.out.keep hE4 id) hlen).mono ?_
   rintro e w6 ⟨u,rfl,hO6,hT6⟩
   rw [evs_row,HRG.out,← HL2.out] at hO6
   have hE6:Ext w w6:=hE4.after hT6 (fun b' h1 h2=>by omega)
   have hO7:=own_base hO6 hE4.size
   clear hO6 hT6 hE4 hlen
   go_wp2
   exact bodyPost_ret (results_two rfl _ _ _) rfl ⟨_,by rw [HP.out];rfl,hO7,hE6⟩
 ·have hz1:(z == 0)=false:=by rw [beq_eq_false_iff_ne];exact hz0
  rw [if_neg hz0] at HP
  go_wp2
  refine bodyPost_ret (results_two rfl _ _ _) rfl ⟨_,by rw [HP.out];rfl,?_,hE3⟩
  rw [HL.out,HP.out,if_neg hz0]
  exact World.ownsRow_nil _ _ _ _
end Go.Proofs.YtfdlhlghcbeblaaGreatDoor
namespace Go.Ab
open Go.RowKit
def chunk(xs:List Value)(j:Nat):List Value:=(xs.drop (j*7)).take 7
theorem chunk_get{xs:List Value}{j i:Nat}(hi:i<7):(chunk xs j)[i]?=xs[j*7+i]?:=by
 unfold chunk
 rw [List.getElem?_take_of_lt hi,List.getElem?_drop]
theorem chunk_some{xs:List Value}{j i:Nat}{v:Value}(h:(chunk xs j)[i]?=some v):xs[j*7+i]?=some v:=by
 have hl:i<(chunk xs j).length:=(List.getElem?_eq_some_iff.1 h).1
 have:i<7:=by unfold chunk at hl;rw [List.length_take] at hl;omega
 rw [← chunk_get this];exact h
theorem own_chunk{w:World}{base:Nat}{e:TypeId}{g n cap:Nat}{xs:List Value}(h:w.ownsRow base e 7 (.slice (some ⟨g,0,none⟩) n cap) n xs) (j:Nat):w.rangeAt g (j*7) (chunk xs j):=
 own_range h fun _ _ hv=>chunk_some hv
theorem overL_get:∀(vs cur:List Value) (o i:Nat),o+vs.length≤cur.length→(overL cur o vs)[i]?=if o≤i∧i<o+vs.length then vs[i - o]? else cur[i]?
 | [],cur,o,i,_=>by unfold overL;rw [if_neg (by simp only [List.length_nil];omega)]
 | v::vs,cur,o,i,h=>by
  simp only [List.length_cons] at h ⊢
  unfold overL
  rw [overL_get vs _ _ _ (by rw [List.length_set];omega)]
  by_cases h1:o+1≤i∧i<o+1+vs.length
  ·rw [if_pos h1,if_pos (by omega),show i - o=(i - (o+1))+1 by omega,List.getElem?_cons_succ]
  ·rw [if_neg h1]
   by_cases h2:i=o
   ·subst h2
    rw [if_pos (by omega),Nat.sub_self,List.getElem?_set_self (by omega)];rfl
   ·rw [if_neg (by omega),List.getElem?_set_ne (by omega)]
inductive PatSep (T:TypeId) (w:World):Pat→List Value→(Nat→Prop)→Prop
 | mk {k:Int} {pl mi:Nat} {nt:Bool} {mn mx:Int} {l:List Pat} {ao:Option Addr} {cap:Nat} {K:Nat→Prop} (xs:List Value) (Ks:Nat→Nat→Prop)
   (hpl:pl<4294967296) (hmi:mi<4294967296)
   (hO:w.ownsRow 0 T 7 (.slice ao l.length cap) l.length xs)
   (hg:∀ g,(Value.slice ao l.length cap).ownBlock=some g→K g∧∀ j,j<l.length→¬ Ks j g)
   (hs:∀ j b,j<l.length→Ks j b→K b)
   (hd:∀ i j b,i<l.length→j<l.length→i≠j→Ks i b→¬ Ks j b)
   (hc:∀ j (h:j<l.length),PatSep T w l[j] (chunk xs j) (Ks j)):PatSep T w (.node k pl mi nt mn mx l) (patCells k pl mi nt mn mx ao l.length cap) K
theorem PatSep.keep{T:TypeId}{S:Nat→Prop}{A B:World}(ht:Turn S A B):∀ {p:Pat} {cs:List Value} {K:Nat→Prop},PatSep T A p cs K→(∀ b,K b→¬ S b)→PatSep T B p cs K:=by
 intro p cs K h
 induction h with
 | mk xs Ks hpl hmi hO hg hs hd hc ih=>
  intro hS
  exact .mk xs Ks hpl hmi (own_keep hO ht fun g hb=>hS g (hg g hb).1) hg hs hd fun j h=>ih j h fun b hb=>hS b (hs j b h hb)
theorem PatSep.mono{T:TypeId}{w:World}{p:Pat}{cs:List Value}{K L:Nat→Prop}(h:PatSep T w p cs K)(hL:∀ b,K b→L b):PatSep T w p cs L:=by
 cases h with
 | mk xs Ks hpl hmi hO hg hs hd hc=>exact .mk xs Ks hpl hmi hO (fun g hb=>⟨hL g (hg g hb).1,(hg g hb).2⟩) (fun j b h1 h2=>hL b (hs j b h1 h2)) hd hc
theorem own_len{w:World}{base:Nat}{e:TypeId}{sz:Nat}{ao:Option Addr}{n cap:Nat}{xs:List Value}(h:w.ownsRow base e sz (.slice ao n cap) n xs):n≤cap∧cap≤maxLen:=by
 rcases h.2 with ⟨q,_⟩ | ⟨_,_,_,q,_,_,h1,h2,_⟩
 ·simp only [Value.slice.injEq] at q;simp [q.2.1,q.2.2]
 ·simp only [Value.slice.injEq] at q;obtain⟨_,_,rfl⟩:=q;exact⟨h1,h2⟩
theorem own_some{w:World}{base:Nat}{e:TypeId}{sz n cap:Nat}{ao:Option Addr}{xs:List Value}(h:w.ownsRow base e sz (.slice ao n cap) n xs) (hn:0<n):∃ g,ao=some ⟨g,0,none⟩:=by
 rcases h.2 with ⟨q,_⟩ | ⟨g,_,_,q,_⟩
 ·simp only [Value.slice.injEq] at q;omega
 ·cases q;exact⟨g,rfl⟩
theorem PatSep.at{T:TypeId}{w:World}:∀ {p:Pat} {cs:List Value} {K:Nat→Prop},PatSep T w p cs K→PatAt K w p cs:=by
 intro p cs K h
 induction h with
 | @mk k pl mi nt mn mx l ao cap K xs Ks hpl hmi hO hg hs hd hc ih=>
  unfold PatAt
  obtain⟨h1,h2⟩:=own_len hO
  refine⟨ao,cap,rfl,hpl,hmi,h1,h2,PatsAt.mk fun j hj=>?_⟩
  obtain⟨g,rfl⟩:=own_some hO (by omega)
  refine⟨g,0,chunk xs j,rfl,(hg g rfl).1,(hO.lt g rfl).2,by rw [Nat.zero_add,Nat.zero_add];exact own_chunk hO j,PatAt.mono (fun b hb=>hs j b hj hb) (ih j hj)⟩
end Go.Ab
