/- Patterns of one's own: rows of nodes, no block twice. No program is named. law.around, hits: the places that are hit, one after the other; law.hit. A region that draws its order, in which a cell that is loaded is stored into by a LATE operation: S is asked behind the early operations only. No program is named. -/
import Derived.Test.YtfdlhlghcbeblaaGreatDoorH05
import Derived.Test.YtfdlhlghcbeblaaGreatDoorH02
import Derived.Test.YtfdlhlghcbeblaaGreatDoorH09
import Derived.Test.YtfdlhlghcbeblaaGreatDoorH00
import Derived.BigQuiet
import Derived.IntWalk
namespace Go.Ab
open Go.RowKit
def chunk(xs:List Value)(j:Nat):List Value:=(xs.drop (j*7)).take 7
theorem chunk_get{xs:List Value}{j i:Nat}(hi:i<7):(chunk xs j)[i]?=xs[j*7+i]?:=by
 unfold chunk
 rw [List.getElem?_take_of_lt hi,List.getElem?_drop]
theorem chunk_some{xs:List Value}{j i:Nat}{v:Value}(h:(chunk xs j)[i]?=some v):xs[j*7+i]?=some v:=by
 have hl:i<(chunk xs j).length:=(List.getElem?_eq_some_iff.1 h).1
 have:i<7:=by unfold chunk at hl;rw [List.length_take] at hl;omega
 rw [<-chunk_get this];exact h
theorem own_chunk{w:World}{base:Nat}{e:TypeId}{g n cap:Nat}{xs:List Value}(h:w.ownsRow base e 7 (.slice (some ⟨g,0,none⟩) n cap) n xs) (j:Nat):w.rangeAt g (j*7) (chunk xs j):=
 own_range h fun _ _ hv=>chunk_some hv
theorem overL_get:∀(vs cur:List Value) (o i:Nat),o+vs.length<=cur.length->(overL cur o vs)[i]?=if o<=i/\i<o+vs.length then vs[i - o]? else cur[i]?
 | [],cur,o,i,_=>by unfold overL;rw [if_neg (by simp only [List.length_nil];omega)]
 | v::vs,cur,o,i,h=>by
  simp only [List.length_cons] at h ⊢
  unfold overL
  rw [overL_get vs _ _ _ (by rw [List.length_set];omega)]
  by_cases h1:o+1<=i/\i<o+1+vs.length
  ·rw [if_pos h1,if_pos (by omega),show i - o=(i - (o+1))+1 by omega,List.getElem?_cons_succ]
  ·rw [if_neg h1]
   by_cases h2:i=o
   ·subst h2
    rw [if_pos (by omega),Nat.sub_self,List.getElem?_set_self (by omega)];rfl
   ·rw [if_neg (by omega),List.getElem?_set_ne (by omega)]
inductive PatSep (T:TypeId) (w:World):Pat->List Value->(Nat->Prop)->Prop
 | mk {k:Int} {pl mi:Nat} {nt:Bool} {mn mx:Int} {l:List Pat} {ao:Option Addr} {cap:Nat} {K:Nat->Prop} (xs:List Value) (Ks:Nat->Nat->Prop)
   (hpl:pl<4294967296) (hmi:mi<4294967296)
   (hO:w.ownsRow 0 T 7 (.slice ao l.length cap) l.length xs)
   (hg:∀ g,(Value.slice ao l.length cap).ownBlock=some g->K g/\∀ j,j<l.length->¬ Ks j g)
   (hs:∀ j b,j<l.length->Ks j b->K b)
   (hd:∀ i j b,i<l.length->j<l.length->i≠j->Ks i b->¬ Ks j b)
   (hc:∀ j (h:j<l.length),PatSep T w l[j] (chunk xs j) (Ks j)):PatSep T w (.node k pl mi nt mn mx l) (patCells k pl mi nt mn mx ao l.length cap) K
theorem PatSep.keep{T:TypeId}{S:Nat->Prop}{A B:World}(ht:Turn S A B):∀ {p:Pat} {cs:List Value} {K:Nat->Prop},PatSep T A p cs K->(∀ b,K b->¬ S b)->PatSep T B p cs K:=by
 intro p cs K h
 induction h with
 | mk xs Ks hpl hmi hO hg hs hd hc ih=>
  intro hS
  exact .mk xs Ks hpl hmi (own_keep hO ht fun g hb=>hS g (hg g hb).1) hg hs hd fun j h=>ih j h fun b hb=>hS b (hs j b h hb)
theorem PatSep.mono{T:TypeId}{w:World}{p:Pat}{cs:List Value}{K L:Nat->Prop}(h:PatSep T w p cs K)(hL:∀ b,K b->L b):PatSep T w p cs L:=by
 cases h with
 | mk xs Ks hpl hmi hO hg hs hd hc=>exact .mk xs Ks hpl hmi hO (fun g hb=>⟨hL g (hg g hb).1,(hg g hb).2⟩) (fun j b h1 h2=>hL b (hs j b h1 h2)) hd hc
theorem own_len{w:World}{base:Nat}{e:TypeId}{sz:Nat}{ao:Option Addr}{n cap:Nat}{xs:List Value}(h:w.ownsRow base e sz (.slice ao n cap) n xs):n<=cap/\cap<=maxLen:=by
 rcases h.2 with ⟨q,_⟩ | ⟨_,_,_,q,_,_,h1,h2,_⟩
 ·simp only [Value.slice.injEq] at q;simp [q.2.1,q.2.2]
 ·simp only [Value.slice.injEq] at q;obtain⟨_,_,rfl⟩:=q;exact⟨h1,h2⟩
theorem own_some{w:World}{base:Nat}{e:TypeId}{sz n cap:Nat}{ao:Option Addr}{xs:List Value}(h:w.ownsRow base e sz (.slice ao n cap) n xs) (hn:0<n):∃ g,ao=some ⟨g,0,none⟩:=by
 rcases h.2 with ⟨q,_⟩ | ⟨g,_,_,q,_⟩
 ·simp only [Value.slice.injEq] at q;omega
 ·cases q;exact⟨g,rfl⟩
theorem PatSep.at{T:TypeId}{w:World}:∀ {p:Pat} {cs:List Value} {K:Nat->Prop},PatSep T w p cs K->PatAt K w p cs:=by
 intro p cs K h
 induction h with
 | @mk k pl mi nt mn mx l ao cap K xs Ks hpl hmi hO hg hs hd hc ih=>
  unfold PatAt
  obtain⟨h1,h2⟩:=own_len hO
  refine⟨ao,cap,rfl,hpl,hmi,h1,h2,PatsAt.mk fun j hj=>?_⟩
  obtain⟨g,rfl⟩:=own_some hO (by omega)
  refine⟨g,0,chunk xs j,rfl,(hg g rfl).1,(hO.lt g rfl).2,by rw [Nat.zero_add,Nat.zero_add];exact own_chunk hO j,PatAt.mono (fun b hb=>hs j b hj hb) (ih j hj)⟩
end Go.Ab
set_option maxRecDepth 100000
set_option maxHeartbeats 8000000
namespace Go.Proofs.YtfdlhlghcbeblaaGreatDoor
open Go.RowKit Go.Ab
attribute [local go_sem] Oper.semAt_some wide_fn wide_depth
def LBox(w:World)(B:Nat)(l:LawD):Prop:=∃ cs:List Value,w.heap[B]?=some (.cells cs.toArray 102 (0,0))/\LawAt w l cs
def SlBox(w:World)(B:Nat)(v:Value):Prop:=w.heap[B]?=some (.cells #[v] 99 (0,0))
def LBx(w:World)(B:Nat)(l:LawD)(cs:List Value):Prop:=w.heap[B]?=some (.cells cs.toArray 102 (0,0))/\LawAt w l cs
theorem LBx.box{w:World}{B:Nat}{l:LawD}{cs:List Value}(h:LBx w B l cs):LBox w B l:=⟨cs,h⟩
theorem LBx.ext{A B:World}{b:Nat}{l:LawD}{cs:List Value}(h:LBx A b l cs)(ht:Ext A B):LBx B b l cs:=⟨ht.keep h.1,h.2.ext ht⟩
theorem LBox.ext{A B:World}{b:Nat}{l:LawD}(h:LBox A b l)(ht:Ext A B):LBox B b l:=by
 obtain⟨cs,h1,h2⟩:=h
 exact⟨cs,ht.keep h1,h2.ext ht⟩
theorem Tryz.lawInfo:(Tryz.prog.info? 102).map (·.size)=some 18:=by kernel_rfl
def lawC(nm:ByteArray)(k1:Int)(p1 m1:Nat)(n1:Bool)(a1 b1:Int)(s1:Value)(k2:Int)(p2 m2:Nat)(n2:Bool)(a2 b2:Int)(s2:Value)(iv ov:Value)(md:Int):List Value:=
 [.string nm,.int .i64 k1,.int .u32 (p1:Int),.int .u32 (m1:Int),.bool n1,.int .i64 a1,.int .i64 b1,s1,.int .i64 k2,.int .u32 (p2:Int),.int .u32 (m2:Int),.bool n2,.int .i64 a2,.int .i64 b2,s2,iv,ov,.int .i64 md]
theorem law_open{w:World}{l:LawD}{cs:List Value}(h:LawAt w l cs) :
  ∃(k1:Int) (p1 m1:Nat) (n1:Bool) (a1 b1:Int) (o1:Option Addr) (c1:Nat) (k2:Int) (p2 m2:Nat) (n2:Bool) (a2 b2:Int) (o2:Option Addr) (c2:Nat) (io:Option Addr) (ic:Nat) (oo:Option Addr) (oc:Nat),
   cs=lawC l.name k1 p1 m1 n1 a1 b1 (.slice o1 l.left.l.length c1) k2 p2 m2 n2 a2 b2 (.slice o2 l.right.l.length c2) (.slice io l.ifs.length ic) (.slice oo l.outs.length oc) l.mode /\
   PatAt (fun g=>g<w.heap.size) w l.left [.int .i64 k1,.int .u32 (p1:Int),.int .u32 (m1:Int),.bool n1,.int .i64 a1,.int .i64 b1,.slice o1 l.left.l.length c1] /\
   PatAt (fun g=>g<w.heap.size) w l.right [.int .i64 k2,.int .u32 (p2:Int),.int .u32 (m2:Int),.bool n2,.int .i64 a2,.int .i64 b2,.slice o2 l.right.l.length c2] /\
   WordAt w (.slice io l.ifs.length ic) l.ifs/\OutsAt w (.slice oo l.outs.length oc) l.outs/\l.name.size<=maxLen/\l.left.l.length<=maxLen/\l.right.l.length<=maxLen/\l.ifs.length<=maxLen/\l.outs.length<=maxLen:=by
 obtain⟨lc,rc,iv,ov,rfl,h2,h3,h4,h5,h6⟩:=h
 obtain⟨o1,c1,rfl,q1,q1',_⟩:=patAt_cells h3
 obtain⟨o2,c2,rfl,q2,q2',_⟩:=patAt_cells h4
 obtain⟨io,ic,rfl,hi⟩:=h5.slice
 obtain⟨oo,oc,rfl,ho⟩:=h6.slice
 exact⟨_,_,_,_,_,_,o1,c1,_,_,_,_,_,_,o2,c2,io,ic,oo,oc,rfl,h3,h4,h5,h6,h2,Nat.le_trans q1 q1',Nat.le_trans q2 q2',hi,ho⟩
theorem LBox.ifs{w:World}{B:Nat}{l:LawD}(h:LBox w B l):∃ io ic,w.cell? ⟨B,15,none⟩=some (.slice io l.ifs.length ic)/\WordAt w (.slice io l.ifs.length ic) l.ifs/\l.ifs.length<=maxLen:=by
 obtain⟨cs,h1,h2⟩:=h
 obtain⟨_,_,_,_,_,_,_,_,_,_,_,_,_,_,_,_,io,ic,_,_,rfl,_,_,h3,_,_,_,_,h4,_⟩:=law_open h2
 exact⟨io,ic,cell_of_row _ _ 15 _ _ _ h1,h3,h4⟩
theorem LBox.outs{w:World}{B:Nat}{l:LawD}(h:LBox w B l):∃ io ic,w.cell? ⟨B,16,none⟩=some (.slice io l.outs.length ic)/\OutsAt w (.slice io l.outs.length ic) l.outs/\l.outs.length<=maxLen:=by
 obtain⟨cs,h1,h2⟩:=h
 obtain⟨_,_,_,_,_,_,_,_,_,_,_,_,_,_,_,_,_,_,io,ic,rfl,_,_,_,h3,_,_,_,_,h4⟩:=law_open h2
 exact⟨io,ic,cell_of_row _ _ 16 _ _ _ h1,h3,h4⟩
theorem LBox.mode{w:World}{B:Nat}{l:LawD}(h:LBox w B l):w.cell? ⟨B,17,none⟩=some (.int .i64 l.mode):=by
 obtain⟨cs,h1,h2⟩:=h
 obtain⟨_,_,_,_,_,_,_,_,_,_,_,_,_,_,_,_,_,_,_,_,rfl,_⟩:=law_open h2
 exact cell_of_row _ _ 17 _ _ _ h1
theorem law_gen{w:World}{l:LawD}{cs:List Value}(h:LawAt w l cs) :
  ∃(nm:ByteArray) (k1:Int) (p1 m1:Nat) (n1:Bool) (a1 b1:Int) (o1:Option Addr) (N1 c1:Nat) (k2:Int) (p2 m2:Nat) (n2:Bool) (a2 b2:Int) (o2:Option Addr) (N2 c2:Nat) (io:Option Addr) (N3 ic:Nat) (oo:Option Addr) (N4 oc:Nat) (md:Int),
   cs=[.string nm,.int .i64 k1,.int .u32 (p1:Int),.int .u32 (m1:Int),.bool n1,.int .i64 a1,.int .i64 b1,.slice o1 N1 c1,.int .i64 k2,.int .u32 (p2:Int),.int .u32 (m2:Int),.bool n2,.int .i64 a2,.int .i64 b2,.slice o2 N2 c2,.slice io N3 ic,.slice oo N4 oc,.int .i64 md] /\
   Hid (LawAt w l [.string nm,.int .i64 k1,.int .u32 (p1:Int),.int .u32 (m1:Int),.bool n1,.int .i64 a1,.int .i64 b1,.slice o1 N1 c1,.int .i64 k2,.int .u32 (p2:Int),.int .u32 (m2:Int),.bool n2,.int .i64 a2,.int .i64 b2,.slice o2 N2 c2,.slice io N3 ic,.slice oo N4 oc,.int .i64 md]) /\
   Hid (PatAt (fun g=>g<w.heap.size) w l.left [.int .i64 k1,.int .u32 (p1:Int),.int .u32 (m1:Int),.bool n1,.int .i64 a1,.int .i64 b1,.slice o1 N1 c1]) /\
   Hid (PatAt (fun g=>g<w.heap.size) w l.right [.int .i64 k2,.int .u32 (p2:Int),.int .u32 (m2:Int),.bool n2,.int .i64 a2,.int .i64 b2,.slice o2 N2 c2]) /\
   Hid (WordAt w (.slice io N3 ic) l.ifs)/\Hid (OutsAt w (.slice oo N4 oc) l.outs) /\
   Hid (l.name=nm)/\Hid (l.left.l.length=N1)/\Hid (l.right.l.length=N2)/\Hid (l.ifs.length=N3)/\Hid (l.outs.length=N4)/\Hid (l.mode=md) /\
   nm.size<=9223372036854775807/\N1<=9223372036854775807/\N2<=9223372036854775807/\N3<=9223372036854775807/\N4<=9223372036854775807:=by
 obtain⟨k1,p1,m1,n1,a1,b1,o1,c1,k2,p2,m2,n2,a2,b2,o2,c2,io,ic,oo,oc,hcs,h1,h2,h3,h4,q0,q1,q2,q3,q4⟩:=law_open h
 unfold lawC at hcs
 subst hcs
 exact⟨_,k1,p1,m1,n1,a1,b1,o1,_,c1,k2,p2,m2,n2,a2,b2,o2,_,c2,io,_,ic,oo,_,oc,_,rfl,Lib.hid h,Lib.hid h1,Lib.hid h2,Lib.hid h3,Lib.hid h4,Lib.hid rfl,Lib.hid rfl,Lib.hid rfl,Lib.hid rfl,Lib.hid rfl,Lib.hid rfl,q0,q1,q2,q3,q4⟩
theorem around_any{w:World}{cs:List Value}{l:LawD}(hl:LawAt w l cs){ao:Option Addr}{n c:Nat} :
  Calls Tryz.prog 259 #[.agg cs.toArray,.slice ao n c] w fun e w'=>e=.returned (.func (.func 278) #[] #[.pointer (some ⟨w.heap.size,0,none⟩),.pointer (some ⟨w.heap.size+1,0,none⟩)])/\LBx w' w.heap.size l cs/\SlBox w' (w.heap.size+1) (.slice ao n c)/\Ext w w':=by
 have hl0:=hl
 obtain⟨k1,p1,m1,n1,a1,b1,o1,c1,k2,p2,m2,n2,a2,b2,o2,c2,io,ic,oo,oc,rfl,_⟩:=law_open hl
 have HL:=Lib.hid hl0
 clear hl hl0
 unfold lawC at HL ⊢
 go_enter Tryz.func259,Tryz.ntmps259
 go_wp2
 go_ret
 have hE:Ext w (w.alloc (.cells (lawC l.name k1 p1 m1 n1 a1 b1 (.slice o1 l.left.l.length c1) k2 p2 m2 n2 a2 b2 (.slice o2 l.right.l.length c2) (.slice io l.ifs.length ic) (.slice oo l.outs.length oc) l.mode).toArray 102)):=(Turn.refl _ w).alloc _
 exact⟨rfl,⟨new_keep (new_at rfl),(HL.out.ext hE).ext ((Turn.refl _ _).alloc _)⟩,new_at (by simp),hE.alloc _⟩
theorem hits_any{w:World}{cs:List Value}{l:LawD}(hl:LawAt w l cs){ao:Option Addr}{n c:Nat}(k:Int) :
  Calls Tryz.prog 226 #[.agg cs.toArray,.slice ao n c,.int .i64 k] w fun e w'=>e=.returned (.func (.func 258) #[] #[.pointer (some ⟨w.heap.size,0,none⟩),.pointer (some ⟨w.heap.size+1,0,none⟩),.pointer (some ⟨w.heap.size+2,0,none⟩)]) /\
   w'.heap.size=w.heap.size+3/\LBx w' w.heap.size l cs/\SlBox w' (w.heap.size+1) (.slice ao n c)/\w'.heap[w.heap.size+2]?=some (.cells #[.int .i64 k] 3 (0,0))/\Ext w w':=by
 have hl0:=hl
 obtain⟨k1,p1,m1,n1,a1,b1,o1,c1,k2,p2,m2,n2,a2,b2,o2,c2,io,ic,oo,oc,rfl,_⟩:=law_open hl
 have HL:=Lib.hid hl0
 clear hl hl0
 unfold lawC at HL ⊢
 go_enter Tryz.func226,Tryz.ntmps226
 go_wp2
 go_ret
 have hE:Ext w (w.alloc (.cells (lawC l.name k1 p1 m1 n1 a1 b1 (.slice o1 l.left.l.length c1) k2 p2 m2 n2 a2 b2 (.slice o2 l.right.l.length c2) (.slice io l.ifs.length ic) (.slice oo l.outs.length oc) l.mode).toArray 102)):=(Turn.refl _ w).alloc _
 exact⟨rfl,by simp,⟨new_keep (new_keep (new_at rfl)),((HL.out.ext hE).ext ((Turn.refl _ _).alloc _)).ext ((Turn.refl _ _).alloc _)⟩,new_keep (new_at (by simp)),new_at (by simp),(hE.alloc _).alloc _⟩
theorem fit_any{w:World}{BL BW:Nat}{l:LawD}{v:Value}{ws:Wd}(hL:LBox w BL l)(hW:SlBox w BW v)(hv:WordAt w v ws)(hT:Tab w)(i:Nat)(hi:i+l.ifs.length<=ws.length) :
  Calls Tryz.prog 278 #[.int .i64 i,.pointer (some ⟨BL,0,none⟩),.pointer (some ⟨BW,0,none⟩)] w fun e w'=>e=.returned (.bool (fitsB l ws i))/\Ext w w':=by
 obtain⟨cs,hL1,hL2⟩:=hL
 obtain⟨k1,p1,m1,n1,a1,b1,o1,c1,k2,p2,m2,n2,a2,b2,o2,c2,io,ic,oo,oc,rfl,h1,h2,_,_,_,q1,q2,q3,q4⟩:=law_open hL2
 have hb:=begins_any h1 (fun g hg=>hg) hv hT (i:Int)
 have he:=fun(V:World) (hE:Ext w V)=>ends_any (h2.ext hE) (fun g hg=>Nat.lt_of_lt_of_le hg hE.size) (hv.ext hE) (hT.keep hE id) ((i+l.ifs.length:Nat):Int)
 have HF:Hid (fitsB l ws i=(!(begL l.left ws (i:Int)).isEmpty && !(endL l.right ws ((i+l.ifs.length:Nat):Int)).isEmpty)):=Lib.hid rfl
 obtain⟨X,hX⟩:∃ X,begL l.left ws (i:Int)=X:=⟨_,rfl⟩
 obtain⟨Y,hY⟩:∃ X,endL l.right ws ((i+l.ifs.length:Nat):Int)=X:=⟨_,rfl⟩
 obtain⟨e1,he1⟩:∃ X,placeE l.left ws (i:Int)=X:=⟨_,rfl⟩
 obtain⟨e2,he2⟩:∃ X,placeE l.right ws ((i+l.ifs.length:Nat):Int)=X:=⟨_,rfl⟩
 rw [hX,he1] at hb
 rw [hY,he2] at he
 rw [hX,hY] at HF
 clear hX hY he1 he2 hL2 h1 h2 hT
 obtain⟨F,hF⟩:∃ F,fitsB l ws i=F:=⟨_,rfl⟩
 rw [hF] at HF ⊢
 clear hF
 obtain⟨nm,hnm⟩:∃ x,l.name=x:=⟨_,rfl⟩
 obtain⟨N1,hN1⟩:∃ x,l.left.l.length=x:=⟨_,rfl⟩
 obtain⟨N2,hN2⟩:∃ x,l.right.l.length=x:=⟨_,rfl⟩
 obtain⟨N3,hN3⟩:∃ x,l.ifs.length=x:=⟨_,rfl⟩
 obtain⟨N4,hN4⟩:∃ x,l.outs.length=x:=⟨_,rfl⟩
 obtain⟨md,hmd⟩:∃ x,l.mode=x:=⟨_,rfl⟩
 rw [hnm,hN1,hN2,hN3,hN4,hmd] at hL1
 rw [hN1] at hb q1
 rw [hN2,hN3] at he
 rw [hN2] at q2
 rw [hN3] at q3 hi
 rw [hN4] at q4
 clear hnm hN1 hN2 hN3 hN4 hmd
 obtain⟨vo,vc,rfl,hvm⟩:=hv.slice
 obtain⟨N5,hN5⟩:∃ x,ws.length=x:=⟨_,rfl⟩
 rw [hN5] at hb he hW hvm hi
 clear hN5 hv
 unfold maxLen at q1 q2 q3 q4 hvm
 unfold lawC at hL1
 have HB:=Lib.hid hb;have HE:=Lib.hid he
 clear hb he
 have cX:=fun j=>cell_of_row _ _ j _ _ _ hL1
 have cW:=cell_of_one hW
 have H1:=Lib.hid hL1;have H2:=Lib.hid hW
 clear hL1 hW
 go_enter Tryz.func278,Tryz.ntmps278
 go_wp2_with fail
 refine HB.out.mono ?_
 rintro e w2 ⟨u,rfl,hO,hE2⟩
 obtain⟨uo,uc,rfl⟩:=own_slice hO
 obtain⟨n,hn⟩:∃ n,X.length=n:=⟨_,rfl⟩
 have hle:=own_len hO
 rw [hn] at hle ⊢
 have hnm:=Nat.le_trans hle.1 hle.2
 unfold maxLen at hnm
 have HXN:Hid (X.isEmpty=decide (n=0)):=Lib.hid (by rw [<-hn];cases X <;> simp)
 clear hO hn hle HB cX cW
 by_cases hn0:n=0
 ·subst hn0
  go_wp2
  go_ret
  exact⟨by rw [HF.out,HXN.out];simp,hE2⟩
 ·have hn1:((n:Int) == 0)=false:=by rw [beq_eq_false_iff_ne];omega
  have cX:=fun j=>cell_of_row _ _ j _ _ _ (hE2.keep H1.out)
  have cW:=cell_of_one (hE2.keep H2.out)
  have hc:=HE.out w2 hE2
  have HC:=Lib.hid hc
  clear hc
  go_wp2_with fail
  refine HC.out.mono ?_
  rintro e w3 ⟨u3,rfl,hO3,hE3⟩
  obtain⟨zo,zc,rfl⟩:=own_slice hO3
  obtain⟨m,hm⟩:∃ n,Y.length=n:=⟨_,rfl⟩
  have hle:=own_len hO3
  rw [hm] at hle ⊢
  have hmm:=Nat.le_trans hle.1 hle.2
  unfold maxLen at hmm
  have HYN:Hid (Y.isEmpty=decide (m=0)):=Lib.hid (by rw [<-hm];cases Y <;> simp)
  have hE23:=hE2.trans hE3
  clear hO3 hm hle HE HC cX cW hE2 hE3
  go_wp2
  go_ret
  refine⟨?_,hE23⟩
  rw [HF.out,HXN.out,HYN.out]
  apply ret_bool
  apply Bool.eq_iff_iff.2
  simp [hn0];omega
theorem hit_cond{l:LawD}{ws:Wd}{i j:Nat}(hj:j<l.ifs.length)(h:satV (ws.getD (i+j) (0,0)) (l.ifs.getD j (0,0))=false):hitL l ws i=false:=by
 cases hh:hitL l ws i with
 | false=>rfl
 | true=>
  unfold hitL condB at hh
  simp only [Bool.and_eq_true,List.all_eq_true,List.mem_range] at hh
  rw [hh.1.2 j hj] at h;cases h
theorem hit_all{l:LawD}{ws:Wd}{i:Nat}(hi:i+l.ifs.length<=ws.length)(h:∀ j,j<l.ifs.length->satV (ws.getD (i+j) (0,0)) (l.ifs.getD j (0,0))=true):hitL l ws i=fitsB l ws i:=by
 unfold hitL condB
 rw [decide_eq_true hi,(List.all_eq_true (l:=List.range l.ifs.length)).2 fun j hj=>h j (List.mem_range.1 hj)];rfl
def hitsF(l:LawD)(ws:Wd)(a:Nat):List Nat:=(List.range' a (ws.length+1 - a)).filter (hitL l ws)
theorem hitsF_zero(l:LawD)(ws:Wd):hitsF l ws 0=hitsL l ws:=by unfold hitsF hitsL;rw [List.range_eq_range'];rfl
theorem hitsF_no{l:LawD}{ws:Wd}{a:Nat}(h:hitL l ws a=false):hitsF l ws a=hitsF l ws (a+1):=by
 unfold hitsF
 by_cases ha:a<=ws.length
 ·rw [show ws.length+1 - a=(ws.length+1 - (a+1))+1 by omega,List.range'_succ,List.filter_cons,h];simp
 ·rw [show ws.length+1 - a=0 by omega,show ws.length+1 - (a+1)=0 by omega];rfl
theorem hitsF_yes{l:LawD}{ws:Wd}{a:Nat}(h:hitL l ws a=true):hitsF l ws a=a::hitsF l ws (a+1):=by
 have:=hit_le h
 unfold hitsF
 rw [show ws.length+1 - a=(ws.length+1 - (a+1))+1 by omega,List.range'_succ,List.filter_cons,h];simp
theorem hitsF_end{l:LawD}{ws:Wd}{a:Nat}(h:ws.length<a+l.ifs.length):hitsF l ws a=[]:=by
 unfold hitsF
 rw [List.filter_eq_nil_iff]
 intro j hj hh
 have:=hit_le hh
 have:=(List.mem_range'_1.1 hj).1
 omega
theorem hits_iter{w:World}{BL BW BF:Nat}{l:LawD}{cs:List Value}{v:Value}{ws:Wd}{K:Nat->Prop}(st:Nat)(hst2:st<=ws.length+1)(hsm:l.ifs.length+ws.length<=100000)
  (hst:∀ W,Turn (fun b=>¬ K b) w W->LBx W BL l cs/\SlBox W BW v/\WordAt W v ws/\Tab W/\W.heap[BF]?=some (.cells #[.int .i64 st] 3 (0,0))) :
  IterO Tryz.prog 258 #[.pointer (some ⟨BL,0,none⟩),.pointer (some ⟨BW,0,none⟩),.pointer (some ⟨BF,0,none⟩)] (fun _ _=>False) (fun _ _ (x:Nat) _ ys=>ys=#[.int .i64 x]) (hitsF l ws st) K w:=by
 intro lp J Jx W ht hJ0 hJx hY h0
 have hJ:∀ O O' pre A B,J O pre A->Ext A B->(∀ b,O' b->(O b\/A.heap.size<=b)/\b<B.heap.size)->J O' pre B:=fun O O' pre A B h1 h2 h3=>hJ0 O O' pre A B h1 (Ext.of h2) h3
 clear hJ0
 obtain⟨hL,hW,hv,hT,hF⟩:=hst W ht
 obtain⟨hL1,hL2⟩:=hL
 obtain⟨nm,k1,p1,m1,n1,a1,b1,o1,N1,c1,k2,p2,m2,n2,a2,b2,o2,N2,c2,io,N3,ic,oo,N4,oc,md,rfl,HLA,HPL,HPR,HIF,HOU,HNM,HN1,HN2,HN3,HN4,HMD,q0,q1,q2,q3,q4⟩:=law_gen hL2
 obtain⟨wn,hwn⟩:∃ n,ws.length=n:=⟨_,rfl⟩
 obtain⟨vo,vc,rfl,hvm⟩:=hv.slice
 rw [hwn] at hvm hst2 hsm
 rw [HN3.out] at hsm
 unfold maxLen at hvm
 have HWN:=Lib.hid hwn
 have har:=around_any HLA.out (ao:=vo) (n:=wn) (c:=vc)
 have HST:=Lib.hid hst
 have HAR:=Lib.hid har
 clear hst har
 rw [hwn] at hW
 clear hwn hv hT hL2
 have cX:=fun j=>cell_of_row _ _ j _ _ _ hL1
 have cW:=cell_of_one hW
 have cF:=cell_of_one hF
 have HL1:=Lib.hid hL1;have HW1:=Lib.hid hW;have HF1:=Lib.hid hF
 clear hL1 hW hF cX
 show Calls _ _ #[.func (.yield lp) #[] #[],.pointer (some ⟨BL,0,none⟩),.pointer (some ⟨BW,0,none⟩),.pointer (some ⟨BF,0,none⟩)] _ _
 go_enter Tryz.func258,Tryz.ntmps258
 refine wp_scope_straight ?_
 go_wp2_with (first | (refine wpList_load_row rfl 102 (.tmp 1) rfl BL rfl _ _ _ _ HL1.out Tryz.underlying102 rfl Tryz.lawInfo ?_) | (go_at_call 259;refine HAR.out.mono ?_;rintro e w2 ⟨rfl,hLB,hSB,hE⟩))
 refine wp_label ?_
 have cF:=cell_of_one (hE.keep HF1.out)
 go_wp2_with fail
 have hO1:∀ b,(b=W.heap.size\/b=W.heap.size+1)->((False\/W.heap.size<=b)/\b<w2.heap.size):=by
  have h1:=(Array.getElem?_eq_some_iff.1 hLB.1).1
  have h2:=(Array.getElem?_eq_some_iff.1 hSB).1
  intro b hb;omega
 have hJ1:=hJ (fun _=>False) (fun b=>b=W.heap.size\/b=W.heap.size+1) [] W w2 h0 hE hO1
 have hT2:Turn (fun b=>¬ K b) w w2:=ht.trans hE.of
 obtain⟨A0,hA0⟩:∃ A0,W.heap.size=A0:=⟨_,rfl⟩
 rw [hA0] at hJ1 hLB hSB hO1 ⊢
 have hA1:A0<w2.heap.size/\A0+1<w2.heap.size:=⟨(hO1 A0 (.inl rfl)).2,(hO1 (A0+1) (.inr rfl)).2⟩
 have HJ:=Lib.hid hJ;have HJ1:=Lib.hid hJ1;have HY:=Lib.hid hY
 clear hJ hY hJ1 hJx h0 hO1 hA0 cF HF1 HW1 HL1 HAR ht hE HLA HPL HPR HIF HOU
 have H0:Hid (LBx w2 A0 l _/\SlBox w2 (A0+1) (.slice vo wn vc)):=Lib.hid ⟨hLB,hSB⟩
 clear hLB hSB
 refine wp_loop (fun a V=>∃(pre:List Nat) (i:Nat),i<=wn+1/\a.defers=[]/\(a.tmps.size=50/\a.tmps.getD 0 undef=.func (.yield lp) #[] #[]/\a.tmps.getD 1 undef=.pointer (some ⟨BL,0,none⟩)/\a.tmps.getD 2 undef=.pointer (some ⟨BW,0,none⟩)/\a.tmps.getD 3 undef=.pointer (some ⟨BF,0,none⟩)/\a.tmps.getD 5 undef=.func (.func 278) #[] #[.pointer (some ⟨A0,0,none⟩),.pointer (some ⟨A0+1,0,none⟩)]/\a.tmps.getD 6 undef=.int .i64 i)/\hitsF l ws st=pre++hitsF l ws i/\J (fun b=>b=A0\/b=A0+1) pre V/\Turn (fun b=>¬ K b) w V/\Turn (fun b=>b≠A0/\b≠A0+1) w2 V)
  (fun a _=>wn+1 - (intOf (a.tmps.getD 6 undef)).toNat) ?_ ?_
 ·exact⟨[],st,hst2,rfl,⟨rfl,rfl,rfl,rfl,rfl,rfl,rfl⟩,rfl,HJ1.out,hT2,Turn.refl _ _⟩
 clear HJ1 hT2
 rintro⟨t,_⟩ V ⟨pre,at_,hat,hds,⟨hsz,f0,f1,f2,f3,f5,f6⟩,hsp,hJV,hTV,hLV⟩
 subst hds
 obtain⟨u',hu⟩:=frame_fun hsz
 obtain⟨u,rfl⟩:∃ x,x=u':=⟨_,rfl⟩
 have hu':t=#[u 0,u 1,u 2,u 3,u 4,u 5,u 6,u 7,u 8,u 9,u 10,u 11,u 12,u 13,u 14,u 15,u 16,u 17,u 18,u 19,u 20,u 21,u 22,u 23,u 24,u 25,u 26,u 27,u 28,u 29,u 30,u 31,u 32,u 33,u 34,u 35,u 36,u 37,u 38,u 39,u 40,u 41,u 42,u 43,u 44,u 45,u 46,u 47,u 48,u 49]:=hu
 clear hu
 subst hu'
 change u 0=_ at f0
 change u 1=_ at f1
 change u 2=_ at f2
 change u 3=_ at f3
 change u 5=_ at f5
 change u 6=_ at f6
 rw [f0,f1,f2,f3,f5,f6]
 clear f0 f1 f2 f3 f5 f6 hsz
 have HSP:=Lib.hid hsp;have HJV:=Lib.hid hJV
 clear hsp hJV
 obtain⟨hL,hW,hv,hT,hF⟩:=HST.out V hTV
 obtain⟨xio,xic,cX,hif,_⟩:=hL.box.ifs
 rw [HN3.out] at cX hif
 rw [HWN.out] at hv hW
 have cW:=cell_of_one hW
 have HV1:Hid (WordAt V (.slice vo wn vc) ws):=Lib.hid hv
 have HWB:Hid (SlBox V BW (.slice vo wn vc)):=Lib.hid hW
 have HIF:Hid (WordAt V (.slice xio N3 xic) l.ifs):=Lib.hid hif
 clear hL hW hv hF hT hif
 by_cases hle:at_+N3<=wn
 case neg=>
  have h1:¬ ((at_:Int)+(N3:Int)<=(wn:Int)):=by omega
  have he:hitsF l ws at_=[]:=hitsF_end (by rw [HWN.out,HN3.out];omega)
  have HEE:=Lib.hid he
  clear he
  go_wp2
  show bodyPost _ _ _ .normal _ _
  go_end0
  refine⟨⟨_,rfl⟩,(fun b=>b=A0\/b=A0+1),.inl ?_⟩
  have:=HSP.out
  rw [HEE.out,List.append_nil] at this
  rw [this];exact HJV.out
 have h1:(at_:Int)+(N3:Int)<=(wn:Int):=by omega
 go_wp2
 clear cX cW
 refine wp_loop (fun a V2=>∃(j:Nat),j<=N3/\a.defers=[]/\(a.tmps.size=50/\a.tmps.getD 0 undef=.func (.yield lp) #[] #[]/\a.tmps.getD 1 undef=.pointer (some ⟨BL,0,none⟩)/\a.tmps.getD 2 undef=.pointer (some ⟨BW,0,none⟩)/\a.tmps.getD 3 undef=.pointer (some ⟨BF,0,none⟩)/\a.tmps.getD 5 undef=.func (.func 278) #[] #[.pointer (some ⟨A0,0,none⟩),.pointer (some ⟨A0+1,0,none⟩)]/\a.tmps.getD 6 undef=.int .i64 at_/\a.tmps.getD 24 undef=.slice xio N3 xic/\a.tmps.getD 25 undef=.int .i64 N3/\a.tmps.getD 26 undef=.int .i64 j)/\(∀ i,i<j->satV (ws.getD (at_+i) (0,0)) (l.ifs.getD i (0,0))=true)/\Ext V V2)
  (fun a _=>N3 - (intOf (a.tmps.getD 26 undef)).toNat) ?_ ?_
 ·exact⟨0,by omega,rfl,⟨rfl,rfl,rfl,rfl,rfl,rfl,rfl,rfl,rfl,rfl⟩,fun i hi=>by omega,Turn.refl _ _⟩
 rintro⟨t,_⟩ V2 ⟨j,hj,hds,⟨hsz,f0,f1,f2,f3,f5,f6,f24,f25,f26⟩,hall,hE2⟩
 subst hds
 obtain⟨u',hu⟩:=frame_fun hsz
 obtain⟨u,rfl⟩:∃ x,x=u':=⟨_,rfl⟩
 have hu':t=#[u 0,u 1,u 2,u 3,u 4,u 5,u 6,u 7,u 8,u 9,u 10,u 11,u 12,u 13,u 14,u 15,u 16,u 17,u 18,u 19,u 20,u 21,u 22,u 23,u 24,u 25,u 26,u 27,u 28,u 29,u 30,u 31,u 32,u 33,u 34,u 35,u 36,u 37,u 38,u 39,u 40,u 41,u 42,u 43,u 44,u 45,u 46,u 47,u 48,u 49]:=hu
 clear hu
 subst hu'
 change u 0=_ at f0
 change u 1=_ at f1
 change u 2=_ at f2
 change u 3=_ at f3
 change u 5=_ at f5
 change u 6=_ at f6
 change u 24=_ at f24
 change u 25=_ at f25
 change u 26=_ at f26
 rw [f0,f1,f2,f3,f5,f6,f24,f25,f26]
 clear f0 f1 f2 f3 f5 f6 f24 f25 f26 hsz
 have HALL:=Lib.hid hall
 clear hall
 have hT2:Turn (fun b=>¬ K b) w V2:=hTV.trans hE2.of
 by_cases hjN:j<N3
 case pos=>
  have h2:(j:Int)<(N3:Int):=by omega
  have h3:((at_:Int)+(j:Int))<(wn:Int):=by omega
  have h30:(0:Int)<=(at_:Int)+(j:Int):=by omega
  obtain⟨gc,oc1,cc,hq1,hgc,d1,d2⟩:=(HIF.out.ext hE2).at (i:=j) (by rw [HN3.out];exact hjN)
  obtain⟨gw,ow,cw,hq2,hgw,e1,e2⟩:=(HV1.out.ext hE2).at (i:=at_+j) (by rw [HWN.out];omega)
  simp only [Value.slice.injEq] at hq1 hq2
  obtain⟨rfl,hz1,rfl⟩:=hq1
  obtain⟨rfl,hz2,rfl⟩:=hq2
  clear hz1 hz2
  obtain⟨⟨ca,cb⟩,hcd⟩:∃ x,l.ifs.getD j (0,0)=x:=⟨_,rfl⟩
  obtain⟨⟨sa,sb⟩,hsd⟩:∃ x,ws.getD (at_+j) (0,0)=x:=⟨_,rfl⟩
  have hclt:=HIF.out.2.get j (by rw [HN3.out];exact hjN)
  have hslt:=HV1.out.2.get (at_+j) (by rw [HWN.out];omega)
  rw [hcd] at d1 d2 hclt
  rw [hsd] at e1 e2 hslt
  dsimp only at d1 d2 e1 e2
  have hsat:=fun(D:World)=>fsat_any hslt hclt D
  obtain⟨bs,hbs⟩:∃ b,satV (sa,sb) (ca,cb)=b:=⟨_,rfl⟩
  rw [hbs] at hsat
  have HSAT:=Lib.hid hsat
  have HBS:Hid (satV (ws.getD (at_+j) (0,0)) (l.ifs.getD j (0,0))=bs):=Lib.hid (by rw [hcd,hsd];exact hbs)
  have HW2:Hid (SlBox V2 BW (.slice (some ⟨gw,ow,none⟩) wn vc)):=Lib.hid (hE2.keep HWB.out)
  have cW:=cell_of_one HW2.out
  have HE1:=Lib.hid e1;have HE2c:=Lib.hid e2
  clear hcd hsd hclt hslt hsat hbs e1 e2
  go_wp2_with fail
  obtain⟨w4,hw4⟩:∃ D,V2.alloc (.cells #[.int .u32 (ca:Int),.int .u32 (cb:Int)] 95)=D:=⟨_,rfl⟩
  have hE4:Ext V2 w4:=by rw [<-hw4];exact(Turn.refl _ V2).alloc _
  have h8:w4.heap[V2.heap.size]?=some (.cells #[.int .u32 (ca:Int),.int .u32 (cb:Int)] 95 (0,0)):=by rw [<-hw4];exact new_at rfl
  rw [hw4]
  obtain⟨Bx,hBx⟩:∃ b,V2.heap.size=b:=⟨_,rfl⟩
  rw [hBx] at h8 ⊢
  have hcs:∀(D:World),Ext w4 D->D.cell? ⟨BW,0,none⟩=some (.slice (some ⟨gw,ow,none⟩) wn vc)/\D.cell? ⟨gw,ow+(at_+j)*2,none⟩=some (.int .u32 (sa:Int))/\D.cell? ⟨gw,ow+(at_+j)*2+1,none⟩=some (.int .u32 (sb:Int))/\D.cell? ⟨Bx,0,none⟩=some (.int .u32 (ca:Int))/\D.cell? ⟨Bx,1,none⟩=some (.int .u32 (cb:Int)):=by
   intro D hD
   have h0:=hD.keep h8
   have hED:=hE4.trans hD
   refine⟨cell_of_one (Ext.keep hED HW2.out),hED.cell_some HE1.out id,hED.cell_some HE2c.out id,cell_of_row _ _ 0 _ _ _ h0,cell_of_row _ _ 1 _ _ _ h0⟩
  have HS:=Lib.hid hcs
  have HE4:=Lib.hid hE4
  clear hcs hw4 h8 hBx hE4 cW d1 d2 HE1 HE2c HW2
  have hwr:IntKind.i64.wrap ((at_:Int)+(j:Int))=(at_:Int)+(j:Int):=IntWalk.i64_in _ (by omega)
  have htn:((at_:Int)+(j:Int)).toNat=at_+j:=by omega
  refine wp_region_held_drew (S:=fun D=>D.cell? ⟨BW,0,none⟩=some (.slice (some ⟨gw,ow,none⟩) wn vc)/\D.cell? ⟨gw,ow+(at_+j)*2,none⟩=some (.int .u32 (sa:Int))/\D.cell? ⟨gw,ow+(at_+j)*2+1,none⟩=some (.int .u32 (sb:Int))/\D.cell? ⟨Bx,0,none⟩=some (.int .u32 (ca:Int))/\D.cell? ⟨Bx,1,none⟩=some (.int .u32 (cb:Int))) (by kernel_rfl) (HS.out _ (Turn.drew (Turn.refl _ w4))) ?_
  intro hS0
  refine tkH (i:=0) (d:=31) (v:=?_) rfl (Or.inl ⟨by rfl,?_⟩) hS0 ?_
  rotate_left
  ·intro w hSw;(try dsimp only at hSw);go_simp;try with_reducible rfl
  try simp only [Act.put,pq]
  refine tkH (i:=1) (d:=32) (v:=?_) rfl (Or.inl ⟨by rfl,?_⟩) hS0 ?_
  rotate_left
  ·intro w hSw;(try dsimp only at hSw);go_simp;try with_reducible rfl
  try simp only [Act.put,pq]
  refine tkH (i:=2) (d:=33) (v:=?_) rfl (Or.inl ⟨by rfl,?_⟩) hS0 ?_
  rotate_left
  ·intro w hSw;(try dsimp only at hSw);go_simp;try with_reducible rfl
  try simp only [Act.put,pq]
  refine tkH (i:=3) (d:=34) (v:=?_) rfl (Or.inl ⟨by rfl,?_⟩) hS0 ?_
  rotate_left
  ·intro w hSw;(try dsimp only at hSw);go_simp;try with_reducible rfl
  try simp only [Act.put,pq]
  refine tkH (i:=4) (d:=35) (v:=?_) rfl (Or.inl ⟨by rfl,?_⟩) hS0 ?_
  rotate_left
  ·intro w hSw;(try dsimp only at hSw);go_simp;try with_reducible rfl
  try simp only [Act.put,pq]
  refine tkH (i:=5) (d:=36) (v:=?_) rfl (Or.inl ⟨by rfl,?_⟩) hS0 ?_
  rotate_left
  ·intro w hSw;(try dsimp only at hSw);go_simp;try with_reducible rfl
  try simp only [Act.put,pq]
  refine tkH (i:=6) (d:=37) (v:=?_) rfl (Or.inl ⟨by rfl,?_⟩) hS0 ?_
  rotate_left
  ·intro w hSw;(try dsimp only at hSw);go_simp;try with_reducible rfl
  try simp only [Act.put,pq]
  refine wpAnyH_ready (rs:=[7]) (by kernel_rfl) (by simp) ?_
  refine AllReadyH.cons rfl (fun K hK=>?_) AllReadyH.nil
  (try rw [if_pos (show Region.wanted _ _=true from rfl)])
  go_simp
  refine(HSAT.out _).mono ?_
  rintro e w5 ⟨rfl,hN⟩
  have hw5:Ext w4 w5:=Turn.trans (Turn.drew (Turn.refl _ w4)) hN
  refine hK.out _ _ (HS.out _ hw5) (fun hS1=>?_)
  clear hK K hN
  refine tkH (i:=8) (d:=39) (v:=?_) rfl (Or.inl ⟨by rfl,?_⟩) hS1 ?_
  rotate_left
  ·intro w hSw;(try dsimp only at hSw);go_simp;try with_reducible rfl
  try simp only [Act.put,pq]
  refine wpAnyH_done (by kernel_rfl) ?_ _
  have hE5:=(hE2.trans HE4.out).trans hw5
  clear hS0 hS1 HS hwr htn
  have hJ5:=HJ.out _ (fun b=>b=A0\/b=A0+1) pre _ _ HJV.out hE5 (fun b hb=>⟨.inl hb,by have:=hLV.size;have:=hE5.size;omega⟩)
  have HJ5:=Lib.hid hJ5
  clear hJ5 HE4
  cases bs
  ·have hno:=hitsF_no (hit_cond (by rw [HN3.out];exact hjN) HBS.out)
   have HNO:=Lib.hid hno
   clear hno
   go_wp2
   exact⟨⟨pre,at_+1,by omega,by first | rfl | trivial,⟨rfl,rfl,rfl,rfl,rfl,rfl,rfl⟩,by rw [HSP.out,HNO.out],HJ5.out,hTV.trans (Ext.of hE5),hLV.trans (Ext.of hE5)⟩,by simp [intOf];omega⟩
  ·have hall2:∀ i,i<j+1->satV (ws.getD (at_+i) (0,0)) (l.ifs.getD i (0,0))=true:=fun i hi=>by
    by_cases hij:i<j
    ·exact HALL.out i hij
    ·obtain rfl:i=j:=by omega
     exact HBS.out
   have HA2:=Lib.hid hall2
   clear hall2
   go_wp2
   exact⟨⟨j+1,by omega,by first | rfl | trivial,⟨rfl,rfl,rfl,rfl,rfl,rfl,rfl,rfl,rfl,rfl⟩,HA2.out,hE5⟩,by simp [intOf];omega⟩
 obtain rfl:j=N3:=by omega
 have h2:¬ ((j:Int)<(j:Int)):=by omega
 have hfit:hitL l ws at_=fitsB l ws at_:=hit_all (by rw [HWN.out,HN3.out];exact hle) (by rw [HN3.out];exact HALL.out)
 obtain⟨bf,hbf⟩:∃ b,fitsB l ws at_=b:=⟨_,rfl⟩
 have hst9:=HST.out V2 hT2
 obtain⟨hL9,hW9,hv9,hT9,_⟩:=hst9
 rw [HWN.out] at hv9
 have hL2':=hLV.trans hE2.of
 have hB0:=hL2'.size
 obtain⟨q1,q2⟩:=H0.out
 have hLB2:LBox V2 A0 l:=⟨_,hL2'.heap q1.1 (by omega),hL9.2⟩
 have hSB2:SlBox V2 (A0+1) (.slice vo wn vc):=hL2'.heap q2 (by omega)
 have hfc:=fit_any hLB2 hSB2 hv9 hT9 at_ (by rw [HWN.out,HN3.out];exact hle)
 rw [hbf] at hfc
 rw [hbf] at hfit
 have HFC:=Lib.hid hfc;have HFIT:=Lib.hid hfit
 clear hfc hfit hbf hL9 hW9 hv9 hT9 q1 q2 hLB2 hSB2
 go_upto_region 9 with (fail)
 refine(wpIn_wide (n:=0)).1 ?_
 gi_wp2_with fail
 refine(callsIn_wide.2 HFC.out).mono ?_
 rintro e w6 ⟨rfl,hE6⟩
 have hE7:=hE2.trans hE6
 have hJ6:=HJ.out _ (fun b=>b=A0\/b=A0+1) pre _ _ HJV.out hE7 (fun b hb=>⟨.inl hb,by have:=hLV.size;have:=hE7.size;omega⟩)
 have HJ6:=Lib.hid hJ6
 clear hJ6 HFC
 cases bf
 ·have hno:=hitsF_no HFIT.out
  have HNO:=Lib.hid hno
  clear hno
  gi_wp2
  go_wp2
  exact⟨⟨pre,at_+1,by omega,by first | rfl | trivial,⟨rfl,rfl,rfl,rfl,rfl,rfl,rfl⟩,by rw [HSP.out,HNO.out],HJ6.out,hTV.trans (Ext.of hE7),hLV.trans (Ext.of hE7)⟩,by simp [intOf];omega⟩
 ·have hyes:=hitsF_yes HFIT.out
  have hsp2:=HSP.out
  rw [hyes] at hsp2
  obtain⟨fn,tmps,assign,body,hy,hR⟩:=HY.out (fun b=>b=A0\/b=A0+1) pre at_ _ w6 #[.int .i64 at_] hsp2 HJ6.out rfl
  have HR:=Lib.hid hR;have HSP2:=Lib.hid hsp2
  clear hR hyes hsp2
  gi_wp2
  refine HR.out.mono ?_
  rintro e W3 (⟨rfl,hJ3,hk3⟩ | ⟨rfl,hJx3,_⟩)
  ·clear hy
   have hT3:Turn (fun b=>¬ K b) w W3:=(hTV.trans (Ext.of hE7)).trans (hk3.mono fun b _ hb=>hb.1)
   have hL3:Turn (fun b=>b≠A0/\b≠A0+1) w2 W3:=(hLV.trans (Ext.of hE7)).trans (hk3.mono fun b _ hb=>⟨fun h=>hb.2 (.inl h),fun h=>hb.2 (.inr h)⟩)
   have HJ3:=Lib.hid hJ3
   clear hJ3 hk3
   gi_wp2
   go_wp2
   exact⟨⟨pre++[at_],at_+1,by omega,by first | rfl | trivial,⟨rfl,rfl,rfl,rfl,rfl,rfl,rfl⟩,by rw [HSP2.out];simp,HJ3.out,hT3,hL3⟩,by simp [intOf];omega⟩
  ·clear hy
   have HJX:=Lib.hid hJx3
   clear hJx3
   gi_wp2
   go_wp2
   unfold Exit.noGoto
   dsimp only
   refine bodyPost_ret (results_none rfl _ _ _) rfl ?_
   exact⟨⟨_,rfl⟩,(fun b=>b=A0\/b=A0+1),.inr ⟨pre,at_,_,HSP2.out,HJX.out⟩⟩
end Go.Proofs.YtfdlhlghcbeblaaGreatDoor
namespace Go.Ab
open Go.RowKit
section
variable {P:Program} {ops:Array Oper} {Q:Exit->Act->World->Prop} {md:Region.Mode} {S:World->Prop} {Lt:List Nat}
def Closed(md:Region.Mode)(ops:Array Oper)(listed:Array Bool):Prop:=
 ∀ k o,ops[k]?=some o->listed.getD k false=true->∀ e∈o.after,Region.binds md e=true->listed.getD e.on false=true
def waits(md:Region.Mode)(ops:Array Oper)(i:Nat):Nat->Nat->Bool
 | 0,_=>false
 | f+1,k=>match ops[k]? with
  | some o=>o.after.toList.any fun e=>Region.binds md e && (e.on == i || waits md ops i f e.on)
  | none=>false
theorem waits_not{listed:Array Bool}{i:Nat}(hc:Closed md ops listed)(hi:listed.getD i false=false):∀(f k:Nat),waits md ops i f k=true->listed.getD k false=false/\¬ k∈Region.ready md ops listed
 | 0,_,h=>by cases h
 | f+1,k,h=>by
  unfold waits at h
  cases ho:ops[k]? with
  | none=>rw [ho] at h;cases h
  | some o=>
   rw [ho] at h
   obtain⟨e,he,hb⟩:=List.any_eq_true.1 h
   rw [Bool.and_eq_true,Bool.or_eq_true,beq_iff_eq] at hb
   have he':e∈o.after:=by simpa using he
   have hon:listed.getD e.on false=false:=by
    rcases hb.2 with h1 | h1
    ·rw [h1];exact hi
    ·exact(waits_not hc hi f e.on h1).1
   constructor
   ·cases hk:listed.getD k false with
    | false=>rfl
    | true=>rw [hc k o ho hk e he' hb.1] at hon;cases hon
   ·intro hr
    obtain⟨_,o',ho',hall⟩:=mem_ready.1 hr
    rw [ho] at ho'
    cases ho'
    rw [hall e he' hb.1] at hon;cases hon
theorem Closed.step{listed:Array Bool}{j:Nat}(hc:Closed md ops listed)(hj:j∈Region.ready md ops listed):Closed md ops (listed.setIfInBounds j true):=by
 intro k o ho hk e he hb
 refine getD_set_true ?_
 by_cases hkj:k=j
 ·subst hkj
  obtain⟨_,o',ho',hall⟩:=mem_ready.1 hj
  rw [ho] at ho'
  cases ho'
  exact hall e he hb
 ·rw [getD_set_ne false (Ne.symm hkj)] at hk
  exact hc k o ho hk e he hb
def wpAnyE(P:Program)(md:Region.Mode)(ops:Array Oper)(Q:Exit->Act->World->Prop)(S:World->Prop)(Lt:List Nat):Nat->Array Bool->Act->World->Prop
 | 0,listed,a,w=>Region.ready md ops listed=[]/\Q .normal a w
 | fuel+1,listed,a,w=>
  (Region.ready md ops listed=[]->Q .normal a w) /\
  ∀ i∈Region.ready md ops listed,wpOp P ops Q i (fun a' w'=>(Lt.contains i=false->S w')/\wpAnyE P md ops Q S Lt fuel (listed.setIfInBounds i true) a' w') a w
theorem wpAny_of_late:∀(fuel:Nat) (listed:Array Bool) (a:Act) (w:World),wpAnyE P md ops Q S Lt fuel listed a w->wpAny P md ops Q fuel listed a w
 | 0,_,_,_,h=>h
 | fuel+1,_,_,_,h=>⟨h.1,fun i hi=>wpOp_mono (fun a' w' h'=>wpAny_of_late fuel _ a' w' h'.2) (h.2 i hi)⟩
theorem wpAnyE_first{i:Nat}{oi:Oper}{v:Value}(hi:ops[i]?=some oi)(hsel:∀(j:Nat) (o:Oper) cs b,ops[j]?=some o->o.op≠.select cs b)
  (hQ:∀ c a w,Q (.panic c) (a.put oi.dst v) w->Q (.panic c) a w) (hlate:∀ j,Lt.contains j=true->waits md ops i ops.size j=true) :
  ∀(fuel:Nat) (listed:Array Bool) (a:Act) (w:World),Closed md ops listed ->
   (∀ j oj,ops[j]?=some oj->j≠i->listed.getD j true=false->(∀ e∈oj.after,Region.binds md e=true->e.on≠i)->oi.apart ops oj=true) ->
   i∈Region.ready md ops listed->YieldsIf P ops S oi v a->S w ->
   wpAnyE P md ops Q S Lt fuel (listed.setIfInBounds i true) (a.put oi.dst v) w->wpAnyE P md ops Q S Lt (fuel+1) listed a w:=by
 intro fuel
 induction fuel with
 | zero=>
  intro listed a w _ _ hr hy hS H
  refine⟨fun h=>(by rw [h] at hr;cases hr),fun j hj=>?_⟩
  by_cases hji:j=i
  ·subst hji;exact hy.wpOp hi hS ⟨fun _=>hS,H⟩
  ·have:=ready_mono hj hji
   rw [H.1] at this
   cases this
 | succ fuel ih=>
  intro listed a w hcl hfree hr hy hS H
  refine⟨fun h=>(by rw [h] at hr;cases hr),fun j hj=>?_⟩
  by_cases hji:j=i
  ·subst hji;exact hy.wpOp hi hS ⟨fun _=>hS,H⟩
  ·have h1:=H.2 j (ready_mono hj hji)
   have hiun:listed.getD i false=false:=by
    have h0:=(mem_ready.1 hr).1
    rcases Nat.lt_or_ge i listed.size with h' | h'
    ·simp [h'] at h0 ⊢;exact h0
    ·simp [Array.getElem?_eq_none h']
   have hearly:Lt.contains j=false:=by
    cases hl:Lt.contains j with
    | false=>rfl
    | true=>exact absurd hj (waits_not hcl hiun _ _ (hlate j hl)).2
   obtain⟨hjun,oj,hoj,hall⟩:=mem_ready.1 hj
   have hnot:∀ e∈oj.after,Region.binds md e=true->e.on≠i:=fun e he hb heq=>by
    have h1:=hall e he hb
    rw [heq,hiun] at h1;cases h1
   have h2:=wpOp_putIf hoj (hfree j oj hoj hji hjun hnot) (fun cs b=>hsel i oi cs b hi) (fun cs b=>hsel j oj cs b hoj) hQ hy h1
   have hfree':∀ k ok,ops[k]?=some ok->k≠i->(listed.setIfInBounds j true).getD k true=false ->
     (∀ e∈ok.after,Region.binds md e=true->e.on≠i)->oi.apart ops ok=true:=fun k ok hk hki hun hno=>by
    refine hfree k ok hk hki ?_ hno
    by_cases hjk:j=k
    ·subst hjk;exact hjun
    ·rw [getD_set_ne true hjk] at hun;exact hun
   refine wpOp_mono (fun a' w' h3=>⟨h3.2.1,ih (listed.setIfInBounds j true) a' w' (hcl.step hj) hfree' (ready_mono hr (Ne.symm hji)) h3.1 (h3.2.1 hearly) ?_⟩) h2
   rw [Array.setIfInBounds_comm _ _ hji]
   exact h3.2.2
def closedB(md:Region.Mode)(ops:Array Oper)(listed:Array Bool):Bool:=
 (List.range ops.size).all fun k=>!listed.getD k false || match ops[k]? with
  | some o=>o.after.toList.all fun e=>!Region.binds md e || listed.getD e.on false
  | none=>true
theorem closedB_spec{listed:Array Bool}(h:closedB md ops listed=true):Closed md ops listed:=by
 intro k o ho hk e he hb
 have h1:=List.all_eq_true.1 h k (List.mem_range.2 (Array.getElem?_eq_some_iff.1 ho).1)
 rw [hk,ho] at h1
 simp only [Bool.not_true,Bool.false_or] at h1
 have h2:=List.all_eq_true.1 h1 e (by simpa using he)
 rw [hb] at h2
 simpa using h2
theorem wpAnyE_take{i:Nat}{oi:Oper}{v:Value}{fuel:Nat}{listed:Array Bool}{a:Act}{w:World}(hi:ops[i]?=some oi)
  (hs:Region.noSelect ops=true) (hf:Region.free md ops listed i=true) (hr:(Region.ready md ops listed).contains i=true) (hc:closedB md ops listed=true) (hl:(Lt.all fun j=>waits md ops i ops.size j)=true)
  (hQ:∀ c a w,Q (.panic c) (a.put oi.dst v) w->Q (.panic c) a w) (hy:YieldsIf P ops S oi v a) (hS:S w)
  (h:wpAnyE P md ops Q S Lt fuel (listed.setIfInBounds i true) (a.put oi.dst v) w):wpAnyE P md ops Q S Lt (fuel+1) listed a w:=
 wpAnyE_first hi (Region.noSelect_spec hs) hQ (fun j hj=>List.all_eq_true.1 hl j (by simpa using hj)) fuel listed a w (closedB_spec hc) (Region.free_spec hi hf) (by simpa using hr) hy hS h
theorem tkE{i d:Nat}{oi:Oper}{v:Value}{fuel:Nat}{listed:Array Bool}{a:Act}{w:World}(hi:ops[i]?=some oi)
  (hy:YieldsIf P ops S oi v a) (hS:S w) (h:wpAnyE P md ops Q S Lt fuel (listed.setIfInBounds i true) (a.put (some d) v) w)
  (hs:Region.noSelect ops=true:=by kernel_rfl) (hf:Region.free md ops listed i=true:=by kernel_rfl) (hr:(Region.ready md ops listed).contains i=true:=by kernel_rfl) (hc:closedB md ops listed=true:=by kernel_rfl) (hl:(Lt.all fun j=>waits md ops i ops.size j)=true:=by kernel_rfl) (hd:oi.dst=some d:=by rfl)
  (hQ:∀ c a w,Q (.panic c) (a.put (some d) v) w->Q (.panic c) a w:=by exact fun _ _ _ h=>h):wpAnyE P md ops Q S Lt (fuel+1) listed a w:=
 wpAnyE_take hi hs hf hr hc hl (by rw [hd];exact hQ) hy hS (by rw [hd];exact h)
def AllReadyE(P:Program)(md:Region.Mode)(ops:Array Oper)(Q:Exit->Act->World->Prop)(S:World->Prop)(Lt:List Nat)(fuel:Nat)(listed:Array Bool)(a:Act)(w:World)(rs:List Nat):Prop:=
 ∀ i∈rs,wpOp P ops Q i (fun a' w'=>(Lt.contains i=false->S w')/\wpAnyE P md ops Q S Lt fuel (listed.setIfInBounds i true) a' w') a w
theorem AllReadyE.nil{fuel:Nat}{listed:Array Bool}{a:Act}{w:World}:AllReadyE P md ops Q S Lt fuel listed a w []:=fun _ h=>by cases h
theorem AllReadyE.cons{fuel:Nat}{listed:Array Bool}{a:Act}{w:World}{i:Nat}{o:Oper}{rs:List Nat}(ho:ops[i]?=some o)
  (h:∀ K':Act->World->Prop,Go.Shut (∀ a w,S w->(S w->wpAnyE P md ops Q S Lt fuel (listed.setIfInBounds i true) a w)->K' a w)->if Region.wanted o (yielded ops a.tmps)=true then Oper.wp P o a w K' Q else K' (a.put o.dst undef) w)
  (hs:AllReadyE P md ops Q S Lt fuel listed a w rs):AllReadyE P md ops Q S Lt fuel listed a w (i::rs):=fun j hj=>by
 rcases List.mem_cons.1 hj with rfl | hj
 ·exact wpOp_step ho (fun K' hK=>h K' (fun a w hS hW=>hK a w ⟨fun _=>hS,hW hS⟩))
 ·exact hs j hj
theorem AllReadyE.late{fuel:Nat}{listed:Array Bool}{a:Act}{w:World}{i:Nat}{o:Oper}{rs:List Nat}(ho:ops[i]?=some o)(hl:Lt.contains i=true)
  (h:∀ K':Act->World->Prop,Go.Shut (∀ a w,wpAnyE P md ops Q S Lt fuel (listed.setIfInBounds i true) a w->K' a w)->if Region.wanted o (yielded ops a.tmps)=true then Oper.wp P o a w K' Q else K' (a.put o.dst undef) w)
  (hs:AllReadyE P md ops Q S Lt fuel listed a w rs):AllReadyE P md ops Q S Lt fuel listed a w (i::rs):=fun j hj=>by
 rcases List.mem_cons.1 hj with rfl | hj
 ·exact wpOp_step ho (fun K' hK=>h K' (fun a w hW=>hK a w ⟨fun q=>(by rw [hl] at q;cases q),hW⟩))
 ·exact hs j hj
theorem wpAnyE_ready{rs:List Nat}{fuel:Nat}{listed:Array Bool}{a:Act}{w:World}(hr:Region.ready md ops listed=rs)(hne:rs≠[])
  (h:AllReadyE P md ops Q S Lt fuel listed a w rs):wpAnyE P md ops Q S Lt (fuel+1) listed a w:=⟨fun h0=>absurd (hr ▸ h0) hne,hr ▸ h⟩
theorem wpAnyE_done{listed:Array Bool}{a:Act}{w:World}(hr:Region.ready md ops listed=[])(h:Q .normal a w) :
  ∀ fuel,wpAnyE P md ops Q S Lt fuel listed a w
 | 0=>⟨hr,h⟩
 | _+1=>⟨fun _=>h,by rw [hr];simp⟩
theorem wp_region_late{id:Nat}{a:Act}{w:World}(Lt:List Nat)(hm:P.follows .mixedOrders=true)(hS:S w.drew)
  (h:S w.drew->wpAnyE P .any ops Q S Lt ops.size (Array.replicate ops.size false) a w.drew):(Code.region id ops true).wp P Q a w:=
 wp_region_any hm (wpAny_of_late _ _ _ _ (h hS))
theorem wpIn_region_late{id l n:Nat}{a:Act}{w:World}(Lt:List Nat)(hm:P.follows .mixedOrders=true)(hd:noDefer ops=true)(hQ:¬ LetsOut Q)(hS:S w.drew)
  (h:S w.drew->wpAnyE P .any ops Q S Lt ops.size (Array.replicate ops.size false) a w.drew):(Code.region id ops true).wpIn (Fence.wide.inRound l) n P Q a w:=
 wpIn_region_any' hm hd hQ (wpAny_of_late _ _ _ _ (h hS))
end
end Go.Ab
