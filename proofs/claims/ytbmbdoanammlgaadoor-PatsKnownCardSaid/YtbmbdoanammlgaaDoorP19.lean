/- PLAIN: -/
import Derived.Test.YtbmbdoanammlgaaDoorP16
import Derived.Test.YtbmbdoanammlgaaDoorP17
import Derived.Test.YtbmbdoanammlgaaDoorP15
import Derived.Test.YtbmbdoanammlgaaDoorP09
import Derived.Great.BuildSlice
set_option maxRecDepth 100000
set_option maxHeartbeats 16000000
namespace Go.Proofs.YtbmbdoanammlgaaDoor
open Go.RowKit Go.Ab
def wV:Pat:=.node 1 4 0 false 0 0 []
def wC:Pat:=.node 1 2 0 false 0 0 []
def Z0(x:Pat)(lo hi:Int):Pat:=.node 5 0 0 false lo hi [x]
def Ug:Wd:=[(4,2),(2,5),(4,2)]
def Kp:Wd:=[(2,5),(2,5),(4,2)]
theorem M9:Qu wV Ug 0=0∧Xi wV Ug 0=[1]:=by decide +kernel
theorem Ma:Qu (Z0 wC 0 (-1)) Kp 0=0∧Xi (Z0 wC 0 (-1)) Kp 0=[0,1,2]:=by decide +kernel
theorem Mm:Qu (Z0 wC 0 (-1)) Kp 2=0∧Ux (Z0 wC 0 (-1)) Kp 2=[0,1,2]:=by decide +kernel
theorem M0:Y9 (.node 3 0 0 false 0 0 [wC,wV,wC,wV]) [(2,5),(4,2),(2,5),(4,2)]=0∧Hp (.node 3 0 0 false 0 0 [wC,wV,wC,wV]) [(2,5),(4,2),(2,5),(4,2)]=true:=by decide +kernel
theorem Me:Qu (.node 3 0 0 false 0 0 [wV,.node 6 0 0 false 0 0 []]) Ug 0=0:=by decide +kernel
theorem Wq:Xw (Z0 wV 0 1)=true∧Ze (.node 1 0 0 false 1 0 [])=2:=by decide +kernel
theorem Wp:∀ a,a<4→∀ b,b<4→Y0 (.node 3 0 0 false 0 0 [wV,.node 6 0 0 false 0 0 []]) Ug a b=(a == 2 && b == 3):=by decide +kernel
theorem Mv{x y:Int}{ok:Bool}(h:Fz (Y0 (.node 3 0 0 false 0 0 [wV,.node 6 0 0 false 0 0 []]) Ug) 3 0 x y ok):x=2∧y=3∧ok=true:=by
 rcases h with ⟨_,_,_,h⟩ | ⟨h1,a,b,h2,h3,h4,h5,h6,h7,h8⟩
 ·have:=h 2 3 (by omega) (by omega)
  rw [Wp 2 (by omega) 3 (by omega)] at this
  simp at this
 ·have hm:Qk 3 (Y0 (.node 3 0 0 false 0 0 [wV,.node 6 0 0 false 0 0 []]) Ug):=by
   unfold Y0
   split
   ·exact Yx Ug _
   ·exact Qk.no _
  have hb:=(hm a b h6).2
  rw [Wp a (by omega) b (by omega)] at h6
  simp at h6
  exact⟨by omega,by omega,h1⟩
def pZ:Pat:=.node 0 0 0 false 0 0 []
def X0:Pat:=.node 3 0 0 false 0 0 (List.replicate 40 pZ)
def Dl:Pat:=.node 3 0 0 false 0 0 (List.replicate 39 pZ)
def Zj:Nat→Pat
 | 0=>pZ
 | n+1=>.node 5 0 0 false 0 32 [Zj n]
def Z8:Wd:=List.replicate 32 (0,0)
def pBE:Pat:=.node 3 0 0 false 0 0 [.node 2 0 0 false 0 0 [],.node 6 0 0 false 0 0 []]
def Xn:Pat:=.node 1 0 0 false 0 0 []
theorem Kb:Ze Dl=0∧Ze X0=12∧Ze (Zj 39)=0∧Ze (Zj 40)=12:=by decide +kernel
theorem G3:Ub Dl=40∧Ub X0=41∧Ub (.node 3 0 0 false 0 0 [X0,X0])=41:=by decide +kernel
def Yp:List (Pat × Int):=[(pZ,0),(.node 7 0 0 false 0 0 [],2),(.node (-1) 0 0 false 0 0 [],2),(Xn,0),(.node 1 1 1 false 0 0 [],14),(.node 1 16777216 0 false 0 1 [],2),(.node 0 16777216 0 false 0 0 [],2),(.node 0 0 0 true 0 0 [],2),
 (.node 2 0 0 false 0 0 [pZ],2),(.node 6 0 0 false 1 0 [],2),(.node 4 0 0 false 0 0 [],0),(.node 5 0 0 false 0 0 [],2),(Z0 wV 33 33,2),(Z0 wV 32 32,0),(Z0 wV 2 1,2),(Z0 wV 0 (-2),2),(Z0 wV (-1) 2,2),(Z0 wV 32 (-1),0),
 (.node 5 0 0 false 0 1 [wV,wV],2),(.node 3 0 0 false 0 0 [.node 1 1 1 false 0 0 [],.node 9 0 0 false 0 0 []],14),(.node 3 0 0 false 0 0 [X0,.node 9 0 0 false 0 0 []],12),(.node 3 0 0 false 0 1 (List.replicate 40 pZ),2)]
theorem Md:∀ x∈Yp,Ze x.1=x.2∧Jr x.1 x.1=decide (x.2=0):=by decide +kernel
theorem H0:Qu pBE [] 0=0∧Xi pBE [] 0=[0]∧Qu pBE [(2,5)] 0=0∧Xi pBE [(2,5)] 0=[]:=by decide +kernel
theorem Jv:Qu (.node 9 0 0 false 0 0 []) (List.replicate 33 (0,0)) (-1)=2∧Qu wV (List.replicate 32 (0,0)++[(1,1)]) (-1)=11∧Y9 wV [(1,1)]=14∧Qu wV [] 1=3∧Qu wV [] (-1)=3:=by decide +kernel
theorem Jz:Xw (.node 6 0 0 false 0 0 [])=false∧Xw (.node 4 0 0 false 0 0 [])=false∧Xw (.node 3 0 0 false 0 0 [])=true∧Xw X0=false:=by decide +kernel
theorem Fw:Qu (.node 1 0 0 true 0 0 []) Z8 0=0∧Xi (.node 1 0 0 true 0 0 []) Z8 0=[]:=by decide +kernel
theorem Hd{a b:Nat}:Z5 Z8 (0,0) false a b=true↔b=a+1∧a<32:=by
 unfold Z5
 simp only [Bool.and_eq_true,beq_iff_eq,decide_eq_true_eq]
 constructor
 ·rintro⟨⟨h1,h2⟩,_⟩
  exact⟨h1,by simpa [Z8] using h2⟩
 ·rintro⟨h1,h2⟩
  refine⟨⟨h1,by simpa [Z8] using h2⟩,?_⟩
  simp [sat,Z8]
theorem Vj:∀ {k a b:Nat},a≤32→(Ql (Z5 Z8 (0,0) false) 32 k a b=true↔b=a+k∧b≤32)
 | 0,a,b,ha=>by unfold Ql;rw [Yz];omega
 | k+1,a,b,ha=>by
  unfold Ql
  rw [Ya]
  constructor
  ·rintro⟨c,hc,h1,h2⟩
   rw [Hd] at h1
   rw [Vj (by omega)] at h2
   omega
  ·rintro⟨h1,h2⟩
   exact⟨a+1,by omega,Hd.2 ⟨rfl,by omega⟩,(Vj (by omega)).2 ⟨by omega,h2⟩⟩
theorem L5:Qk 32 (Z5 Z8 (0,0) false):=Qk.sound Z8 (0,0) false
theorem D2{lo hi:Int}{a b:Nat}(h1:Y9 (Z0 Xn lo hi) Z8=0) (h2:0≤hi) (ha:a≤32):Y0 (Z0 Xn lo hi) Z8 a b=true↔∃ j,j≤(hi - lo).toNat∧b=a+(lo.toNat+j)∧b≤32:=by
 unfold Y0
 rw [if_pos h1]
 have hq:Yn Z8 (Z0 Xn lo hi)=Jl (Z5 Z8 (0,0) false) 32 lo.toNat (hi - lo).toNat:=by
  unfold Z0 Yn
  rw [if_neg (by decide),if_neg (by decide),if_neg (by decide),if_neg (by decide),if_pos rfl]
  unfold Vw Xz
  rw [if_neg (by omega)]
  unfold Xn Yn
  rw [if_pos rfl]
  rfl
 rw [hq,W0 (by omega) L5,Ye]
 constructor
 ·rintro⟨j,hj,h⟩
  rw [Vj ha] at h
  exact⟨j,hj,h⟩
 ·rintro⟨j,hj,h⟩
  exact⟨j,hj,(Vj ha).2 h⟩
theorem Gk{n:Nat}{p q:Nat→Bool}(h:∀ b,b<n→p b=q b):(List.range n).filter p=(List.range n).filter q:=List.filter_congr fun b hb=>h b (List.mem_range.1 hb)
theorem Lz:Y9 (Z0 Xn 32 32) Z8=0∧Y9 (Z0 Xn 0 31) Z8=0:=by decide +kernel
theorem Gz:Qu (Z0 Xn 32 32) Z8 0=0∧Qu (Z0 Xn 0 31) Z8 32=0:=by decide +kernel
theorem Nw:Xi (Z0 Xn 32 32) Z8 0=[32]:=by
 unfold Xi
 rw [if_pos Gz.1,Gk (q:=fun b=>b == 32) (fun b hb=>?_)]
 ·decide
 ·rw [Bool.eq_iff_iff,show (0:Int).toNat=0 from rfl,D2 Lz.1 (by decide) (by omega),beq_iff_eq]
  constructor
  ·rintro⟨j,h1,h2,h3⟩
   have:(32:Int).toNat=32:=rfl
   omega
  ·intro h
   exact⟨0,by omega,by simpa using h,by omega⟩
theorem Nu:Ux (Z0 Xn 0 31) Z8 32=(List.range 32).map (·+1):=by
 unfold Ux
 rw [if_pos Gz.2,Gk (q:=fun b=>decide (1≤b)) (fun b hb=>?_)]
 ·decide
 ·have hb':b≤32:=by
   have:Z8.length=32:=rfl
   omega
  rw [Bool.eq_iff_iff,show (32:Int).toNat=32 from rfl,D2 Lz.2 (by decide) hb',decide_eq_true_eq]
  constructor
  ·rintro⟨j,h1,h2,h3⟩
   have h4:(0:Int).toNat=0:=rfl
   have h5:((31:Int) - 0).toNat=31:=rfl
   omega
  ·intro h
   have h5:((31:Int) - 0).toNat=31:=rfl
   exact⟨32 - b,by omega,by have h4:(0:Int).toNat=0:=rfl;omega,by omega⟩
theorem N8(lo e:Nat):Jl (idB 32) 32 lo e=idB 32:=by
 have hp:∀ k,Ql (idB 32) 32 k=idB 32:=fun k=>by
  induction k with
  | zero=>rfl
  | succ k ih=>unfold Ql;rw [ih];exact Wu (by omega) (Qk.id 32)
 rw [W0 (by omega) (Qk.id 32)]
 apply J5
 intro a b
 rw [Ye]
 constructor
 ·rintro⟨j,_,h⟩
  rwa [hp] at h
 ·intro h
  exact⟨0,by omega,by rwa [hp]⟩
theorem Ht:∀ n,Yn Z8 (Zj n)=idB 32
 | 0=>by
  unfold Zj pZ Yn
  rw [if_neg (by decide),if_neg (by decide),if_neg (by decide),if_neg (by decide),if_neg (by decide)]
  unfold Ue
  rfl
 | n+1=>by
  unfold Zj Yn
  rw [if_neg (by decide),if_neg (by decide),if_neg (by decide),if_neg (by decide),if_pos rfl]
  unfold Vw
  rw [Ht n]
  exact N8 _ _
theorem Dg:Qu (Zj 39) Z8 5=0∧Y9 (Zj 39) Z8=0:=by decide +kernel
theorem Ny:Xi (Zj 39) Z8 5=[5]:=by
 unfold Xi
 rw [if_pos Dg.1]
 unfold Y0
 rw [if_pos Dg.2,Ht]
 decide
attribute [local go_sem] Oper.semAt_some Zx Z4
theorem Yd{w:World}{g n cap sz:Nat}{xs:List Value}{t:TypeId}(h:w.heap[g]?=some (.cells xs.toArray t (0,0))) (hl:xs.length=n*sz) (hn:n≤maxLen):Rd w (.slice (some ⟨g,0,none⟩) n cap) n sz xs:=by
 refine⟨hl,hn,_,cap,rfl,fun _=>⟨g,0,rfl,(Array.getElem?_eq_some_iff.1 h).1,fun j hj=>?_⟩⟩
 rw [Nat.zero_add]
 have:j<xs.length:=by omega
 simp [World.cell?,h,this]
theorem Z9(K:Nat→Prop)(w:World)(k:Int){pl mi:Nat}(nt:Bool)(mn mx:Int)(h1:pl<4294967296)(h2:mi<4294967296):Qc K w (.node k pl mi nt mn mx []) (Q2 k pl mi nt mn mx none 0 0):=by
 unfold Qc
 exact⟨none,0,rfl,h1,h2,by simp,by simp [maxLen],by unfold Qe;trivial⟩
theorem Jk:∀(css:List (List Value)),(∀ c∈css,c.length=7)→∀ j i,j<css.length→i<7→css.flatten[j*7+i]?=(css.getD j [])[i]?
 | [],_,j,i,h,_=>by simp at h
 | c::css,h7,0,i,_,hi=>by
  have:=h7 c (List.mem_cons_self ..)
  rw [List.flatten_cons,List.getElem?_append_left (by omega)]
  simp
 | c::css,h7,j+1,i,hj,hi=>by
  have h1:=h7 c (List.mem_cons_self ..)
  rw [List.flatten_cons,List.getElem?_append_right (by omega),show (j+1)*7+i - c.length=j*7+i by omega,Jk css (fun x hx=>h7 x (List.mem_cons_of_mem _ hx)) j i (by simpa using hj) hi]
  simp
theorem Qe.block{K:Nat→Prop}{w:World}{g:Nat}{t:TypeId}{l:List Pat}{css:List (List Value)} (h:w.heap[g]?=some (.cells css.flatten.toArray t (0,0))) (hl:css.length=l.length) (h7:∀ c∈css,c.length=7)
  (hp:∀ j (hj:j<l.length),Qc K w l[j] (css.getD j [])) (hK:K g):Qe K w l (some ⟨g,0,none⟩) 0:=by
 refine Qe.mk fun j hj=>⟨g,0,css.getD j [],rfl,hK,(Array.getElem?_eq_some_iff.1 h).1,fun i v hv=>?_,hp j hj⟩
 have hc:(css.getD j []).length=7:=by
  rw [List.getD_eq_getElem?_getD,List.getElem?_eq_getElem (by omega)]
  exact h7 _ (List.getElem_mem _)
 have hi:i<7:=by rw [← hc];exact(List.getElem?_eq_some_iff.1 hv).1
 have:=Jk css h7 j i (by omega) hi
 rw [hv] at this
 rw [show 0+(0+j)*7+i=j*7+i by omega]
 simp only [World.cell?,h]
 simpa using this
def Um(W:World)(g:Nat):Prop:=g<W.heap.size
theorem Um.ext{A B:World}{g:Nat}(h:Um A g)(ht:Ext A B):Um B g:=Nat.lt_of_lt_of_le h ht.size
theorem Yf(ao:Option Addr)(n cap:Nat)(w:World):Calls Tryd.prog 4 #[.slice ao n cap] w fun e w'=>e=.returned (.agg #[.int .i64 3,.int .u32 0,.int .u32 0,.bool false,.int .i64 0,.int .i64 0,.slice ao n cap])∧Ext w w':=Mo ao n cap w
theorem Zv(w:World):Calls Tryd.prog 8 #[] w fun e w'=>e=.returned (.agg #[.int .i64 1,.int .u32 4,.int .u32 0,.bool false,.int .i64 0,.int .i64 0,.slice none 0 0])∧Ext w w':=Nl w
theorem Kf(w:World):Calls Tryd.prog 30 #[] w fun e w'=>e=.returned (.agg #[.int .i64 1,.int .u32 2,.int .u32 0,.bool false,.int .i64 0,.int .i64 0,.slice none 0 0])∧Ext w w':=Nn w
mutual
theorem Qc.bound{K:Nat→Prop}{A:World}:∀ {p:Pat} {cs:List Value},Qc K A p cs→Qc (fun g=>g<A.heap.size) A p cs
 | .node k pl mi nt mn mx l,cs,h=>by
  unfold Qc at h ⊢
  obtain⟨ao,cap,h1,h2,h3,h4,h5,h6⟩:=h
  exact⟨ao,cap,h1,h2,h3,h4,h5,Qe.bound h6⟩
theorem Qe.bound{K:Nat→Prop}{A:World}:∀ {l:List Pat} {ao:Option Addr} {i:Nat},Qe K A l ao i→Qe (fun g=>g<A.heap.size) A l ao i
 | [],_,_,_=>by unfold Qe;trivial
 | p::l,ao,i,h=>by
  unfold Qe at h ⊢
  obtain⟨⟨g,off,cs,h1,h2,h3,h4,h5⟩,h6⟩:=h
  exact⟨⟨g,off,cs,h1,h3,h3,h4,Qc.bound h5⟩,Qe.bound h6⟩
end
theorem Du(w:World)(hT:Tab w) :
  Calls Tryd.prog 18 #[] w fun e w'=>e=.returned (.bool true)∧Ext w w':=by
 have E:Ext w w:=Q1.refl _ w
 go_enter Tryd.func18,Tryd.ntmps18
 go_wp2_with fail
 refine(K9 _).mono ?_
 rintro e w1 ⟨rfl,hN⟩
 replace E:=E.trans hN
 clear hN
 go_wp2_with fail
 refine(Vi _).mono ?_
 rintro e w2 ⟨rfl,hN⟩
 replace E:=E.trans hN
 clear hN
 go_wp2_with fail
 refine(K9 _).mono ?_
 rintro e w3 ⟨rfl,hN⟩
 replace E:=E.trans hN
 clear hN
 go_wp2_with fail
 have hA:(w3.alloc (.cells #[.int .u32 4,.int .u32 2,.int .u32 2,.int .u32 5,.int .u32 4,.int .u32 2] 25)).heap[w3.heap.size]?=some (.cells #[.int .u32 4,.int .u32 2,.int .u32 2,.int .u32 5,.int .u32 4,.int .u32 2] 25 (0,0)):=Q9 rfl
 have hN:Ext w3 (w3.alloc (.cells #[.int .u32 4,.int .u32 2,.int .u32 2,.int .u32 5,.int .u32 4,.int .u32 2] 25)):=(Q1.refl _ w3).alloc _
 have hB:w3.heap.size<(w3.alloc (.cells #[.int .u32 4,.int .u32 2,.int .u32 2,.int .u32 5,.int .u32 4,.int .u32 2] 25)).heap.size:=by simp
 replace E:=E.trans hN
 clear hN
 generalize w3.alloc (.cells #[.int .u32 4,.int .u32 2,.int .u32 2,.int .u32 5,.int .u32 4,.int .u32 2] 25)=w4 at hA hB E  ⊢
 generalize w3.heap.size=gA at hA hB ⊢
 have WA:Qw w4 (.slice (some ⟨gA,0,none⟩) 3 3) [(4,2),(2,5),(4,2)]:=⟨Yd (xs:=Y1 [(4,2),(2,5),(4,2)]) hA rfl (by decide),by simp [Xq]⟩
 clear hA hB
 go_wp2_with fail
 refine(Vi _).mono ?_
 rintro e w5 ⟨rfl,hN⟩
 replace WA:=WA.ext hN
 replace E:=E.trans hN
 clear hN
 go_wp2_with fail
 refine(Vi _).mono ?_
 rintro e w6 ⟨rfl,hN⟩
 replace WA:=WA.ext hN
 replace E:=E.trans hN
 clear hN
 go_wp2_with fail
 refine(K9 _).mono ?_
 rintro e w7 ⟨rfl,hN⟩
 replace WA:=WA.ext hN
 replace E:=E.trans hN
 clear hN
 go_wp2_with fail
 have hA:(w7.alloc (.cells #[.int .u32 2,.int .u32 5,.int .u32 2,.int .u32 5,.int .u32 4,.int .u32 2] 25)).heap[w7.heap.size]?=some (.cells #[.int .u32 2,.int .u32 5,.int .u32 2,.int .u32 5,.int .u32 4,.int .u32 2] 25 (0,0)):=Q9 rfl
 have hN:Ext w7 (w7.alloc (.cells #[.int .u32 2,.int .u32 5,.int .u32 2,.int .u32 5,.int .u32 4,.int .u32 2] 25)):=(Q1.refl _ w7).alloc _
 have hB:w7.heap.size<(w7.alloc (.cells #[.int .u32 2,.int .u32 5,.int .u32 2,.int .u32 5,.int .u32 4,.int .u32 2] 25)).heap.size:=by simp
 replace WA:=WA.ext hN
 replace E:=E.trans hN
 clear hN
 generalize w7.alloc (.cells #[.int .u32 2,.int .u32 5,.int .u32 2,.int .u32 5,.int .u32 4,.int .u32 2] 25)=w8 at hA hB E WA ⊢
 generalize w7.heap.size=gP at hA hB ⊢
 have WP:Qw w8 (.slice (some ⟨gP,0,none⟩) 3 3) [(2,5),(2,5),(4,2)]:=⟨Yd (xs:=Y1 [(2,5),(2,5),(4,2)]) hA rfl (by decide),by simp [Xq]⟩
 clear hA hB
 go_wp2_with fail
 refine(Zv _).mono ?_
 rintro e w9 ⟨rfl,hN⟩
 replace WA:=WA.ext hN
 replace WP:=WP.ext hN
 replace E:=E.trans hN
 clear hN
 go_wp2_with fail
 have hc:=Yo (K:=fun _=>False) (Z9 (fun _=>False) _ 1 false 0 0 (show 4<4294967296 by decide) (show 0<4294967296 by decide)) (fun _ h=>h.elim) WA (hT.keep E id) 0
 have q:=M9
 simp only [wV,Ug] at q
 rw [q.1,q.2] at hc
 clear q
 refine hc.mono ?_
 clear hc
 rintro e w10 ⟨xX,rfl,hO,hN⟩
 replace WA:=WA.ext hN
 replace WP:=WP.ext hN
 replace E:=E.trans hN
 have X:=Rd.of_own hO
 obtain⟨aX,cX,rfl⟩:=Zc hO
 clear hO
 clear hN
 go_wp2_with fail
 refine(Kf _).mono ?_
 rintro e w11 ⟨rfl,hN⟩
 replace WA:=WA.ext hN
 replace WP:=WP.ext hN
 replace X:=X.ext hN
 replace E:=E.trans hN
 clear hN
 go_wp2_with fail
 refine(Jm (Z9 (fun _=>False) _ 1 false 0 0 (show 2<4294967296 by decide) (show 0<4294967296 by decide)) 0 (-1)).mono ?_
 rintro e w12 ⟨ds,rfl,hP,hN⟩
 replace WA:=WA.ext hN
 replace WP:=WP.ext hN
 replace X:=X.ext hN
 replace E:=E.trans hN
 replace hP:=Qc.bound (p:=.node 5 0 0 false 0 (-1) [.node 1 2 0 false 0 0 []]) hP
 clear hN
 go_wp2_with fail
 have hc:=Yo (K:=fun g=>g<w12.heap.size) (p:=.node 5 0 0 false 0 (-1) [.node 1 2 0 false 0 0 []]) hP (fun _ h=>h) WP (hT.keep E id) 0
 have q:=Ma
 simp only [wC,Z0,Kp] at q
 rw [q.1,q.2] at hc
 clear q
 refine hc.mono ?_
 clear hc
 rintro e w13 ⟨xY,rfl,hO,hN⟩
 replace WA:=WA.ext hN
 replace WP:=WP.ext hN
 replace X:=X.ext hN
 replace E:=E.trans hN
 have Y:=Rd.of_own hO
 obtain⟨aY,cY,rfl⟩:=Zc hO
 clear hO
 clear hN
 clear hP
 go_wp2_with fail
 refine(Kf _).mono ?_
 rintro e w14 ⟨rfl,hN⟩
 replace WA:=WA.ext hN
 replace WP:=WP.ext hN
 replace X:=X.ext hN
 replace Y:=Y.ext hN
 replace E:=E.trans hN
 clear hN
 go_wp2_with fail
 refine(Jm (Z9 (fun _=>False) _ 1 false 0 0 (show 2<4294967296 by decide) (show 0<4294967296 by decide)) 0 (-1)).mono ?_
 rintro e w15 ⟨ds,rfl,hP,hN⟩
 replace WA:=WA.ext hN
 replace WP:=WP.ext hN
 replace X:=X.ext hN
 replace Y:=Y.ext hN
 replace E:=E.trans hN
 replace hP:=Qc.bound (p:=.node 5 0 0 false 0 (-1) [.node 1 2 0 false 0 0 []]) hP
 clear hN
 go_wp2_with fail
 have hc:=U2 (K:=fun g=>g<w15.heap.size) (p:=.node 5 0 0 false 0 (-1) [.node 1 2 0 false 0 0 []]) hP (fun _ h=>h) WP (hT.keep E id) 2
 have q:=Mm
 simp only [wC,Z0,Kp] at q
 rw [q.1,q.2] at hc
 clear q
 refine hc.mono ?_
 clear hc
 rintro e w16 ⟨xZ,rfl,hO,hN⟩
 replace WA:=WA.ext hN
 replace WP:=WP.ext hN
 replace X:=X.ext hN
 replace Y:=Y.ext hN
 replace E:=E.trans hN
 have Z:=Rd.of_own hO
 obtain⟨aZ,cZ,rfl⟩:=Zc hO
 clear hO
 clear hN
 clear hP
 go_wp2_with fail
 refine(Kf _).mono ?_
 rintro e w17 ⟨rfl,hN⟩
 replace WA:=WA.ext hN
 replace WP:=WP.ext hN
 replace X:=X.ext hN
 replace Y:=Y.ext hN
 replace Z:=Z.ext hN
 replace E:=E.trans hN
 clear hN
 go_wp2_with fail
 refine(Zv _).mono ?_
 rintro e w18 ⟨rfl,hN⟩
 replace WA:=WA.ext hN
 replace WP:=WP.ext hN
 replace X:=X.ext hN
 replace Y:=Y.ext hN
 replace Z:=Z.ext hN
 replace E:=E.trans hN
 clear hN
 go_wp2_with fail
 refine(Kf _).mono ?_
 rintro e w19 ⟨rfl,hN⟩
 replace WA:=WA.ext hN
 replace WP:=WP.ext hN
 replace X:=X.ext hN
 replace Y:=Y.ext hN
 replace Z:=Z.ext hN
 replace E:=E.trans hN
 clear hN
 go_wp2_with fail
 refine(Zv _).mono ?_
 rintro e w20 ⟨rfl,hN⟩
 replace WA:=WA.ext hN
 replace WP:=WP.ext hN
 replace X:=X.ext hN
 replace Y:=Y.ext hN
 replace Z:=Z.ext hN
 replace E:=E.trans hN
 clear hN
 go_wp2_with fail
 have hA:(w20.alloc (.cells #[.int .i64 1,.int .u32 2,.int .u32 0,.bool false,.int .i64 0,.int .i64 0,.slice none 0 0,.int .i64 1,.int .u32 4,.int .u32 0,.bool false,.int .i64 0,.int .i64 0,.slice none 0 0,.int .i64 1,.int .u32 2,.int .u32 0,.bool false,.int .i64 0,.int .i64 0,.slice none 0 0,.int .i64 1,.int .u32 4,.int .u32 0,.bool false,.int .i64 0,.int .i64 0,.slice none 0 0] 27)).heap[w20.heap.size]?=some (.cells #[.int .i64 1,.int .u32 2,.int .u32 0,.bool false,.int .i64 0,.int .i64 0,.slice none 0 0,.int .i64 1,.int .u32 4,.int .u32 0,.bool false,.int .i64 0,.int .i64 0,.slice none 0 0,.int .i64 1,.int .u32 2,.int .u32 0,.bool false,.int .i64 0,.int .i64 0,.slice none 0 0,.int .i64 1,.int .u32 4,.int .u32 0,.bool false,.int .i64 0,.int .i64 0,.slice none 0 0] 27 (0,0)):=Q9 rfl
 have hN:Ext w20 (w20.alloc (.cells #[.int .i64 1,.int .u32 2,.int .u32 0,.bool false,.int .i64 0,.int .i64 0,.slice none 0 0,.int .i64 1,.int .u32 4,.int .u32 0,.bool false,.int .i64 0,.int .i64 0,.slice none 0 0,.int .i64 1,.int .u32 2,.int .u32 0,.bool false,.int .i64 0,.int .i64 0,.slice none 0 0,.int .i64 1,.int .u32 4,.int .u32 0,.bool false,.int .i64 0,.int .i64 0,.slice none 0 0] 27)):=(Q1.refl _ w20).alloc _
 have hB:w20.heap.size<(w20.alloc (.cells #[.int .i64 1,.int .u32 2,.int .u32 0,.bool false,.int .i64 0,.int .i64 0,.slice none 0 0,.int .i64 1,.int .u32 4,.int .u32 0,.bool false,.int .i64 0,.int .i64 0,.slice none 0 0,.int .i64 1,.int .u32 2,.int .u32 0,.bool false,.int .i64 0,.int .i64 0,.slice none 0 0,.int .i64 1,.int .u32 4,.int .u32 0,.bool false,.int .i64 0,.int .i64 0,.slice none 0 0] 27)).heap.size:=by simp
 replace WA:=WA.ext hN
 replace WP:=WP.ext hN
 replace X:=X.ext hN
 replace Y:=Y.ext hN
 replace Z:=Z.ext hN
 replace E:=E.trans hN
 clear hN
 generalize w20.alloc (.cells #[.int .i64 1,.int .u32 2,.int .u32 0,.bool false,.int .i64 0,.int .i64 0,.slice none 0 0,.int .i64 1,.int .u32 4,.int .u32 0,.bool false,.int .i64 0,.int .i64 0,.slice none 0 0,.int .i64 1,.int .u32 2,.int .u32 0,.bool false,.int .i64 0,.int .i64 0,.slice none 0 0,.int .i64 1,.int .u32 4,.int .u32 0,.bool false,.int .i64 0,.int .i64 0,.slice none 0 0] 27)=w21 at hA hB E WA WP X Y Z ⊢
 generalize w20.heap.size=gS at hA hB ⊢
 have PS:Qe (fun x=>x=gS) w21 [(.node 1 2 0 false 0 0 []),(.node 1 4 0 false 0 0 []),(.node 1 2 0 false 0 0 []),(.node 1 4 0 false 0 0 [])] (some ⟨gS,0,none⟩) 0:=Qe.block (css:=[[.int .i64 1,.int .u32 2,.int .u32 0,.bool false,.int .i64 0,.int .i64 0,.slice none 0 0],[.int .i64 1,.int .u32 4,.int .u32 0,.bool false,.int .i64 0,.int .i64 0,.slice none 0 0],[.int .i64 1,.int .u32 2,.int .u32 0,.bool false,.int .i64 0,.int .i64 0,.slice none 0 0],[.int .i64 1,.int .u32 4,.int .u32 0,.bool false,.int .i64 0,.int .i64 0,.slice none 0 0]]) hA rfl (by simp) (fun j hj=>by match j,hj with | 0,_=>exact Z9 _ _ 1 false 0 0 (by decide) (by decide) | 1,_=>exact Z9 _ _ 1 false 0 0 (by decide) (by decide) | 2,_=>exact Z9 _ _ 1 false 0 0 (by decide) (by decide) | 3,_=>exact Z9 _ _ 1 false 0 0 (by decide) (by decide)) rfl
 clear hA
 have PSB:Um w21 gS:=hB
 clear hB
 go_wp2_with fail
 refine(Yf (some ⟨gS,0,none⟩) 4 4 _).mono ?_
 rintro e w22 ⟨rfl,hN⟩
 replace WA:=WA.ext hN
 replace WP:=WP.ext hN
 replace X:=X.ext hN
 replace Y:=Y.ext hN
 replace Z:=Z.ext hN
 replace PS:=PS.ext hN
 replace PSB:=PSB.ext hN
 replace E:=E.trans hN
 clear hN
 go_wp2_with fail
 refine(Vi _).mono ?_
 rintro e w23 ⟨rfl,hN⟩
 replace WA:=WA.ext hN
 replace WP:=WP.ext hN
 replace X:=X.ext hN
 replace Y:=Y.ext hN
 replace Z:=Z.ext hN
 replace PS:=PS.ext hN
 replace PSB:=PSB.ext hN
 replace E:=E.trans hN
 clear hN
 go_wp2_with fail
 refine(K9 _).mono ?_
 rintro e w24 ⟨rfl,hN⟩
 replace WA:=WA.ext hN
 replace WP:=WP.ext hN
 replace X:=X.ext hN
 replace Y:=Y.ext hN
 replace Z:=Z.ext hN
 replace PS:=PS.ext hN
 replace PSB:=PSB.ext hN
 replace E:=E.trans hN
 clear hN
 go_wp2_with fail
 refine(Vi _).mono ?_
 rintro e w25 ⟨rfl,hN⟩
 replace WA:=WA.ext hN
 replace WP:=WP.ext hN
 replace X:=X.ext hN
 replace Y:=Y.ext hN
 replace Z:=Z.ext hN
 replace PS:=PS.ext hN
 replace PSB:=PSB.ext hN
 replace E:=E.trans hN
 clear hN
 go_wp2_with fail
 refine(K9 _).mono ?_
 rintro e w26 ⟨rfl,hN⟩
 replace WA:=WA.ext hN
 replace WP:=WP.ext hN
 replace X:=X.ext hN
 replace Y:=Y.ext hN
 replace Z:=Z.ext hN
 replace PS:=PS.ext hN
 replace PSB:=PSB.ext hN
 replace E:=E.trans hN
 clear hN
 go_wp2_with fail
 have hA:(w26.alloc (.cells #[.int .u32 2,.int .u32 5,.int .u32 4,.int .u32 2,.int .u32 2,.int .u32 5,.int .u32 4,.int .u32 2] 25)).heap[w26.heap.size]?=some (.cells #[.int .u32 2,.int .u32 5,.int .u32 4,.int .u32 2,.int .u32 2,.int .u32 5,.int .u32 4,.int .u32 2] 25 (0,0)):=Q9 rfl
 have hN:Ext w26 (w26.alloc (.cells #[.int .u32 2,.int .u32 5,.int .u32 4,.int .u32 2,.int .u32 2,.int .u32 5,.int .u32 4,.int .u32 2] 25)):=(Q1.refl _ w26).alloc _
 have hB:w26.heap.size<(w26.alloc (.cells #[.int .u32 2,.int .u32 5,.int .u32 4,.int .u32 2,.int .u32 2,.int .u32 5,.int .u32 4,.int .u32 2] 25)).heap.size:=by simp
 replace WA:=WA.ext hN
 replace WP:=WP.ext hN
 replace X:=X.ext hN
 replace Y:=Y.ext hN
 replace Z:=Z.ext hN
 replace PS:=PS.ext hN
 replace PSB:=PSB.ext hN
 replace E:=E.trans hN
 clear hN
 generalize w26.alloc (.cells #[.int .u32 2,.int .u32 5,.int .u32 4,.int .u32 2,.int .u32 2,.int .u32 5,.int .u32 4,.int .u32 2] 25)=w27 at hA hB E WA WP X Y Z PS PSB ⊢
 generalize w26.heap.size=gQ at hA hB ⊢
 have WQ:Qw w27 (.slice (some ⟨gQ,0,none⟩) 4 4) [(2,5),(4,2),(2,5),(4,2)]:=⟨Yd (xs:=Y1 [(2,5),(4,2),(2,5),(4,2)]) hA rfl (by decide),by simp [Xq]⟩
 clear hA hB
 have hP:Qc (fun x=>x=gS) w27 (.node 3 0 0 false 0 0 [(.node 1 2 0 false 0 0 []),(.node 1 4 0 false 0 0 []),(.node 1 2 0 false 0 0 []),(.node 1 4 0 false 0 0 [])]) (Q2 3 0 0 false 0 0 (some ⟨gS,0,none⟩) 4 4):=by
  unfold Qc
  exact⟨_,_,rfl,by decide,by decide,by decide,by decide,PS⟩
 go_wp2_with fail
 have hc:=Vn hP (fun x h=>h ▸ PSB) WQ (hT.keep E id)
 have q:=M0
 simp only [wV,wC] at q
 rw [q.1,q.2] at hc
 clear q
 refine hc.mono ?_
 clear hc
 rintro e w28 ⟨rfl,hN⟩
 replace WA:=WA.ext hN
 replace WP:=WP.ext hN
 replace X:=X.ext hN
 replace Y:=Y.ext hN
 replace Z:=Z.ext hN
 replace PS:=PS.ext hN
 replace PSB:=PSB.ext hN
 replace WQ:=WQ.ext hN
 replace E:=E.trans hN
 clear hP
 clear hN
 clear PS PSB WQ
 go_wp2_with fail
 refine(Zv _).mono ?_
 rintro e w29 ⟨rfl,hN⟩
 replace WA:=WA.ext hN
 replace WP:=WP.ext hN
 replace X:=X.ext hN
 replace Y:=Y.ext hN
 replace Z:=Z.ext hN
 replace E:=E.trans hN
 clear hN
 go_wp2_with fail
 have hA:(w29.alloc (.cells #[.int .i64 1,.int .u32 4,.int .u32 0,.bool false,.int .i64 0,.int .i64 0,.slice none 0 0,.int .i64 6,.int .u32 0,.int .u32 0,.bool false,.int .i64 0,.int .i64 0,.slice none 0 0] 27)).heap[w29.heap.size]?=some (.cells #[.int .i64 1,.int .u32 4,.int .u32 0,.bool false,.int .i64 0,.int .i64 0,.slice none 0 0,.int .i64 6,.int .u32 0,.int .u32 0,.bool false,.int .i64 0,.int .i64 0,.slice none 0 0] 27 (0,0)):=Q9 rfl
 have hN:Ext w29 (w29.alloc (.cells #[.int .i64 1,.int .u32 4,.int .u32 0,.bool false,.int .i64 0,.int .i64 0,.slice none 0 0,.int .i64 6,.int .u32 0,.int .u32 0,.bool false,.int .i64 0,.int .i64 0,.slice none 0 0] 27)):=(Q1.refl _ w29).alloc _
 have hB:w29.heap.size<(w29.alloc (.cells #[.int .i64 1,.int .u32 4,.int .u32 0,.bool false,.int .i64 0,.int .i64 0,.slice none 0 0,.int .i64 6,.int .u32 0,.int .u32 0,.bool false,.int .i64 0,.int .i64 0,.slice none 0 0] 27)).heap.size:=by simp
 replace WA:=WA.ext hN
 replace WP:=WP.ext hN
 replace X:=X.ext hN
 replace Y:=Y.ext hN
 replace Z:=Z.ext hN
 replace E:=E.trans hN
 clear hN
 generalize w29.alloc (.cells #[.int .i64 1,.int .u32 4,.int .u32 0,.bool false,.int .i64 0,.int .i64 0,.slice none 0 0,.int .i64 6,.int .u32 0,.int .u32 0,.bool false,.int .i64 0,.int .i64 0,.slice none 0 0] 27)=w30 at hA hB E WA WP X Y Z ⊢
 generalize w29.heap.size=gF at hA hB ⊢
 have PF:Qe (fun x=>x=gF) w30 [(.node 1 4 0 false 0 0 []),(.node 6 0 0 false 0 0 [])] (some ⟨gF,0,none⟩) 0:=Qe.block (css:=[[.int .i64 1,.int .u32 4,.int .u32 0,.bool false,.int .i64 0,.int .i64 0,.slice none 0 0],[.int .i64 6,.int .u32 0,.int .u32 0,.bool false,.int .i64 0,.int .i64 0,.slice none 0 0]]) hA rfl (by simp) (fun j hj=>by match j,hj with | 0,_=>exact Z9 _ _ 1 false 0 0 (by decide) (by decide) | 1,_=>exact Z9 _ _ 6 false 0 0 (by decide) (by decide)) rfl
 clear hA
 have PFB:Um w30 gF:=hB
 clear hB
 go_wp2_with fail
 refine(Yf (some ⟨gF,0,none⟩) 2 2 _).mono ?_
 rintro e w31 ⟨rfl,hN⟩
 replace WA:=WA.ext hN
 replace WP:=WP.ext hN
 replace X:=X.ext hN
 replace Y:=Y.ext hN
 replace Z:=Z.ext hN
 replace PF:=PF.ext hN
 replace PFB:=PFB.ext hN
 replace E:=E.trans hN
 clear hN
 have hP:Qc (fun x=>x=gF) w31 (.node 3 0 0 false 0 0 [(.node 1 4 0 false 0 0 []),(.node 6 0 0 false 0 0 [])]) (Q2 3 0 0 false 0 0 (some ⟨gF,0,none⟩) 2 2):=by
  unfold Qc
  exact⟨_,_,rfl,by decide,by decide,by decide,by decide,PF⟩
 go_wp2_with fail
 have hc:=Hq hP (fun x h=>h ▸ PFB) WA (hT.keep E id) 0
 have q:=Me
 simp only [wV,Ug] at q
 rw [q] at hc
 clear q
 refine hc.mono ?_
 clear hc
 rintro e w32 ⟨hF,hN⟩
 replace WA:=WA.ext hN
 replace WP:=WP.ext hN
 replace X:=X.ext hN
 replace Y:=Y.ext hN
 replace Z:=Z.ext hN
 replace PF:=PF.ext hN
 replace PFB:=PFB.ext hN
 replace E:=E.trans hN
 clear hP
 obtain⟨x,y,ok,rfl,hf⟩:=hF
 rw [if_pos rfl] at hf
 obtain⟨rfl,rfl,rfl⟩:=Mv hf
 clear hf
 clear hN
 clear PF PFB WA WP
 go_wp2_with fail
 have hA:(w32.alloc (.cells #[.int .i64 1] 3)).heap[w32.heap.size]?=some (.cells #[.int .i64 1] 3 (0,0)):=Q9 rfl
 have hN:Ext w32 (w32.alloc (.cells #[.int .i64 1] 3)):=(Q1.refl _ w32).alloc _
 have hB:w32.heap.size<(w32.alloc (.cells #[.int .i64 1] 3)).heap.size:=by simp
 replace X:=X.ext hN
 replace Y:=Y.ext hN
 replace Z:=Z.ext hN
 replace E:=E.trans hN
 clear hN
 generalize w32.alloc (.cells #[.int .i64 1] 3)=w33 at hA hB E X Y Z ⊢
 generalize w32.heap.size=g1 at hA hB ⊢
 have R1:Rd w33 (.slice (some ⟨g1,0,none⟩) 1 1) [1].length 1 (Zl [1]):=Yd (xs:=Zl [1]) hA rfl (by decide)
 clear hA hB
 have hc:=X2 X R1
 rw [decide_eq_true rfl] at hc
 refine hc.mono ?_
 clear hc
 rintro e w34 ⟨rfl,hN⟩
 clear R1
 replace X:=X.ext hN
 replace Y:=Y.ext hN
 replace Z:=Z.ext hN
 replace E:=E.trans hN
 clear hN
 go_wp2_with fail
 have hA:(w34.alloc (.cells #[.int .i64 0,.int .i64 1,.int .i64 2] 3)).heap[w34.heap.size]?=some (.cells #[.int .i64 0,.int .i64 1,.int .i64 2] 3 (0,0)):=Q9 rfl
 have hN:Ext w34 (w34.alloc (.cells #[.int .i64 0,.int .i64 1,.int .i64 2] 3)):=(Q1.refl _ w34).alloc _
 have hB:w34.heap.size<(w34.alloc (.cells #[.int .i64 0,.int .i64 1,.int .i64 2] 3)).heap.size:=by simp
 replace X:=X.ext hN
 replace Y:=Y.ext hN
 replace Z:=Z.ext hN
 replace E:=E.trans hN
 clear hN
 generalize w34.alloc (.cells #[.int .i64 0,.int .i64 1,.int .i64 2] 3)=w35 at hA hB E X Y Z ⊢
 generalize w34.heap.size=g2 at hA hB ⊢
 have R1:Rd w35 (.slice (some ⟨g2,0,none⟩) 3 3) [0,1,2].length 1 (Zl [0,1,2]):=Yd (xs:=Zl [0,1,2]) hA rfl (by decide)
 clear hA hB
 have hc:=X2 Y R1
 rw [decide_eq_true rfl] at hc
 refine hc.mono ?_
 clear hc
 rintro e w36 ⟨rfl,hN⟩
 clear R1
 replace X:=X.ext hN
 replace Y:=Y.ext hN
 replace Z:=Z.ext hN
 replace E:=E.trans hN
 clear hN
 go_wp2_with fail
 have hA:(w36.alloc (.cells #[.int .i64 0,.int .i64 1,.int .i64 2] 3)).heap[w36.heap.size]?=some (.cells #[.int .i64 0,.int .i64 1,.int .i64 2] 3 (0,0)):=Q9 rfl
 have hN:Ext w36 (w36.alloc (.cells #[.int .i64 0,.int .i64 1,.int .i64 2] 3)):=(Q1.refl _ w36).alloc _
 have hB:w36.heap.size<(w36.alloc (.cells #[.int .i64 0,.int .i64 1,.int .i64 2] 3)).heap.size:=by simp
 replace X:=X.ext hN
 replace Y:=Y.ext hN
 replace Z:=Z.ext hN
 replace E:=E.trans hN
 clear hN
 generalize w36.alloc (.cells #[.int .i64 0,.int .i64 1,.int .i64 2] 3)=w37 at hA hB E X Y Z ⊢
 generalize w36.heap.size=g3 at hA hB ⊢
 have R1:Rd w37 (.slice (some ⟨g3,0,none⟩) 3 3) [0,1,2].length 1 (Zl [0,1,2]):=Yd (xs:=Zl [0,1,2]) hA rfl (by decide)
 clear hA hB
 have hc:=X2 Z R1
 rw [decide_eq_true rfl] at hc
 refine hc.mono ?_
 clear hc
 rintro e w38 ⟨rfl,hN⟩
 clear R1
 replace X:=X.ext hN
 replace Y:=Y.ext hN
 replace Z:=Z.ext hN
 replace E:=E.trans hN
 clear hN
 clear X Y Z
 go_wp2_with fail
 refine(Zv _).mono ?_
 rintro e w39 ⟨rfl,hN⟩
 replace E:=E.trans hN
 clear hN
 go_wp2_with fail
 refine(Jm (Z9 (fun _=>False) _ 1 false 0 0 (show 4<4294967296 by decide) (show 0<4294967296 by decide)) 0 1).mono ?_
 rintro e w40 ⟨ds,rfl,hP,hN⟩
 replace E:=E.trans hN
 replace hP:=Qc.bound (p:=.node 5 0 0 false 0 1 [(.node 1 4 0 false 0 0 [])]) hP
 clear hN
 go_wp2_with fail
 have hc:=X7 (K:=fun g=>g<w40.heap.size) (p:=.node 5 0 0 false 0 1 [(.node 1 4 0 false 0 0 [])]) hP (fun _ h=>h) (hT.keep E id)
 have q:=Wq.1
 simp only [wV,Z0] at q
 rw [q] at hc
 clear q
 refine hc.mono ?_
 clear hc
 rintro e w41 ⟨rfl,hN⟩
 replace E:=E.trans hN
 clear hP
 clear hN
 go_wp2_with fail
 have hc:=Zp (Z9 (fun _=>False) _ 1 false 1 0 (show 0<4294967296 by decide) (show 0<4294967296 by decide)) (fun _ h=>h.elim) (hT.keep E id)
 have q:=Wq.2
 rw [q] at hc
 clear q
 refine hc.mono ?_
 clear hc
 rintro e w42 ⟨rfl,hN⟩
 replace E:=E.trans hN
 clear hN
 go_wp2
 go_ret
 exact⟨rfl,E⟩
theorem H8:(Tryd.prog.info? 25).map (fun i=>(i.zero,i.size,i.bytes))=some (some (.agg #[.int .u32 0,.int .u32 0]),2,8):=by kernel_rfl
def zW(n:Nat):Wd:=List.replicate n (0,0)
def HWd(W:World)(g:Nat)(ws:Wd):Prop:=W.heap[g]?=some (.cells (Y1 ws).toArray 25 (0,0))
theorem Q0{F:World→Prop}{A B:World}(h:Hid (∀ D,Ext A D→F D)) (e:Ext A B):Hid (∀ D,Ext B D→F D):=Lib.hid fun D hD=>h.out D (e.trans hD)
theorem K6{ops:Array Oper}{N:Nat}(h:((List.range ops.size).all fun i=>match Qn ops i with | some d=>decide (d<N) | none=>true)=true) {i d:Nat} (hd:Qn ops i=some d):d<N:=by
 have hi:i<ops.size:=by
  unfold Qn at hd
  cases ho:ops[i]? with
  | none=>rw [ho] at hd;cases hd
  | some o=>exact(Array.getElem?_eq_some_iff.1 ho).1
 have h1:=List.all_eq_true.1 h i (List.mem_range.2 hi)
 rw [hd] at h1
 simpa using h1
def Kx(l:List (Nat × Nat)) (vs:Nat→Value) (t:Array Value):Array Value:=l.foldl (fun t p=>t.setIfInBounds p.2 (vs p.1)) t
def K4(ops:Array Oper):List (Nat × Nat):=(List.range ops.size).filterMap fun i=>(Qn ops i).map fun d=>(i,d)
theorem W9{ops:Array Oper}{l:List (Nat × Nat)} (h:K4 ops=l) (vs:Nat→Value) (t:Array Value):Yw ops vs (List.range ops.size) t=Kx l vs t:=by
 subst h
 unfold K4 Kx Yw
 generalize List.range ops.size=r
 induction r generalizing t with
 | nil=>rfl
 | cons i r ih=>
  rw [List.foldl_cons,List.filterMap_cons]
  cases hd:Qn ops i with
  | none=>exact ih t
  | some d=>exact ih _
theorem W4{ops:Array Oper}{l:List (Nat × Nat)} (h:K4 ops=l) {vs:Nat→Value} {t:Array Value} {Q:Exit→Act→World→Prop} {ds:List Deferred} {W:World} (hq:Q .normal { tmps:=Kx l vs t,defers:=ds } W):Q .normal { tmps:=Yw ops vs (List.range ops.size) t,defers:=ds } W:=by
 rw [W9 h];exact hq
theorem Hc{ops:Array Oper}{s:Nat}(h:((List.range ops.size).all fun i=>Qn ops i != some s)=true):∀ k,Qn ops k≠some s:=fun k hk=>by
 have hi:k<ops.size:=by
  unfold Qn at hk
  cases ho:ops[k]? with
  | none=>rw [ho] at hk;cases hk
  | some o=>exact(Array.getElem?_eq_some_iff.1 ho).1
 have h1:=List.all_eq_true.1 h k (List.mem_range.2 hi)
 rw [hk] at h1
 simp at h1
theorem D8{W:World}{g:Nat}{cs:Array Value}{t:TypeId}{fr:Nat × Nat}(h:W.heap[g]?=some (.cells cs t fr)):W.rangeAt g 0 cs.toList:=fun j u hu=>by
 rw [Nat.zero_add,cell_of_row W g j cs t fr h,← Array.getElem?_toList];exact hu
theorem Ls(W:World):(Instr.makeSlice 39 (.int .i64 33) (.int .i64 33)).run Tryd.prog W=.ok (.slice (some ⟨W.heap.size,0,none⟩) 33 33) (W.alloc (.cells (Y1 (zW 33)).toArray 25)):=by
 obtain⟨i,hi,hz,hs,hb⟩:=info_parts (@H8)
 have h:=run_makeSlice (P:=Tryd.prog) W 39 25 i _ Tryd.underlying39 hi hz .i64 .i64 33 33 (by decide) (by decide) (by rw [hs];decide) (by rw [hb];decide) (by decide)
 have e:madeCells (Value.agg #[.int .u32 0,.int .u32 0]).cells 66=(Y1 (zW 33)).toArray:=by kernel_rfl
 rw [h,hs]
 show Result.ok (Value.slice (some ⟨W.heap.size,0,none⟩) 33 33) (W.alloc (.cells (madeCells (Value.agg #[.int .u32 0,.int .u32 0]).cells 66) 25))=_
 rw [e]
theorem H5(W:World):(Instr.makeSlice 39 (.int .i64 32) (.int .i64 32)).run Tryd.prog W=.ok (.slice (some ⟨W.heap.size,0,none⟩) 32 32) (W.alloc (.cells (Y1 (zW 32)).toArray 25)):=by
 obtain⟨i,hi,hz,hs,hb⟩:=info_parts (@H8)
 have h:=run_makeSlice (P:=Tryd.prog) W 39 25 i _ Tryd.underlying39 hi hz .i64 .i64 32 32 (by decide) (by decide) (by rw [hs];decide) (by rw [hb];decide) (by decide)
 have e:madeCells (Value.agg #[.int .u32 0,.int .u32 0]).cells 64=(Y1 (zW 32)).toArray:=by kernel_rfl
 rw [h,hs]
 show Result.ok (Value.slice (some ⟨W.heap.size,0,none⟩) 32 32) (W.alloc (.cells (madeCells (Value.agg #[.int .u32 0,.int .u32 0]).cells 64) 25))=_
 rw [e]
theorem K8{W:World}{g n:Nat}{ws:Wd}(h:HWd W g ws)(hl:(Y1 ws).length=n*2) (hn:n≤maxLen) (hok:Xq ws):Qw W (.slice (some ⟨g,0,none⟩) n n) ws:=by
 have e:ws.length=n:=by rw [Wi] at hl;omega
 subst e
 exact⟨Yd h hl hn,hok⟩
theorem Hf{W:World}{g:Nat}{xs:List Value}{t:TypeId}(h:W.heap[g]?=some (.cells xs.toArray t (0,0))):∀(j:Nat) (u:Value),xs[j]?=some u→W.cell? ((⟨g,0,none⟩:Addr).add j)=some u:=fun j u hu=>by
 have hadd:(⟨g,0,none⟩:Addr).add j=⟨g,j,none⟩:=by unfold Addr.add;split <;> simp_all
 rw [hadd,cell_of_row W g j _ t _ h]
 simpa using hu
theorem Nj{P:Program}{o:Oper}{b:Act}{W W':World}{K:Act→World→Prop}{Q:Exit→Act→World→Prop}{s x:Operand}{t1 t2:TypeId}{v1 v2 v:Value}(ho:o.op=.call { callee:=.builtin .append,args:=#[s,x],argTypes:=#[t1,t2] }) (hs:b.eval s=v1) (hx:b.eval x=v2)
  (hr:(Builtin.append_ #[t1,t2] o.type #[v1,v2]).run P W=.ok v W') (h:K (b.put o.dst v) W'):o.wp P b W K Q:=by
 unfold Oper.wp execOp
 simp only [ho,resolve,invoke,builtin,Sem.run_bind,Sem.run_pure,Result.andThen_ok,List.map_toArray,List.map_cons,List.map_nil,hs,hx,hr]
 exact h
def Qz(D:World)(p:Pat)(cs:List Value):Prop:=Qc (fun g=>g<D.heap.size) D p cs
theorem Qz.ext{V D:World}{p:Pat}{cs:List Value}(h:Qz V p cs)(hE:Ext V D):Qz D p cs:=Qc.bound (Qc.ext h hE)
theorem Qd(D:World)(k:Int){pl mi:Nat}(nt:Bool)(mn mx:Int)(h1:pl<4294967296:=by decide) (h2:mi<4294967296:=by decide):Qz D (.node k pl mi nt mn mx []) (Q2 k pl mi nt mn mx none 0 0):=Z9 _ D k nt mn mx h1 h2
def Vh:List Value:=Q2 0 0 0 false 0 0 none 0 0
def Yt(n:Nat):List Value:=(List.replicate n Vh).flatten
theorem Lu(W:World):(Instr.makeSlice 22 (.int .i64 40) (.int .i64 40)).run Tryd.prog W=.ok (.slice (some ⟨W.heap.size,0,none⟩) 40 40) (W.alloc (.cells (Yt 40).toArray 27)):=by
 obtain⟨i,hi,hz,hs,hb⟩:=info_parts (Tryd.infoPat)
 have h:=run_makeSlice (P:=Tryd.prog) W 22 27 i _ Tryd.underlying22 hi hz .i64 .i64 40 40 (by decide) (by decide) (by rw [hs];decide) (by rw [hb];decide) (by decide)
 have e:madeCells (Value.agg #[.int .i64 0,.int .u32 0,.int .u32 0,.bool false,.int .i64 0,.int .i64 0,.slice none 0 0]).cells 280=(Yt 40).toArray:=by kernel_rfl
 rw [h,hs]
 show Result.ok (Value.slice (some ⟨W.heap.size,0,none⟩) 40 40) (W.alloc (.cells (madeCells (Value.agg #[.int .i64 0,.int .u32 0,.int .u32 0,.bool false,.int .i64 0,.int .i64 0,.slice none 0 0]).cells 280) 27))=_
 rw [e]
theorem Lc{D:World}{g m:Nat}{t:TypeId}(h:D.heap[g]?=some (.cells (Yt m).toArray t (0,0))) {j:Nat} (hj:j<m):D.rangeAt g (j*7) Vh:=fun i u hu=>by
 have hi:i<7:=(List.getElem?_eq_some_iff.1 hu).1
 have h1:=Jk (List.replicate m Vh) (fun c hc=>by rw [List.eq_of_mem_replicate hc];rfl) j i (by simpa using hj) hi
 rw [show (List.replicate m Vh).getD j []=Vh by simp [List.getD_eq_getElem?_getD,hj]] at h1
 rw [cell_of_row D g (j*7+i) _ t _ h,List.getElem?_toArray]
 exact h1.trans hu
theorem Vr{D:World}{g m o:Nat}{t:TypeId}(h:D.heap[g]?=some (.cells (Yt m).toArray t (0,0))):∀ n i,o+i+n≤m→Qe (fun g=>g<D.heap.size) D (List.replicate n pZ) (some ⟨g,o*7,none⟩) i
 | 0,_,_=>by unfold Qe;trivial
 | n+1,i,hh=>by
  have hg:g<D.heap.size:=(Array.getElem?_eq_some_iff.1 h).1
  rw [List.replicate_succ]
  unfold Qe
  refine⟨⟨g,o*7,Vh,rfl,hg,hg,?_,Qd D 0 false 0 0⟩,Vr h n (i+1) (by omega)⟩
  rw [← Nat.add_mul]
  exact Lc h (by omega)
theorem Ku{D:World}{g m o:Nat}{t:TypeId}(h:D.heap[g]?=some (.cells (Yt m).toArray t (0,0))) (n:Nat) (hn:o+n≤m) (hm:n≤maxLen) (k mn mx:Int):Qz D (.node k 0 0 false mn mx (List.replicate n pZ)) (Q2 k 0 0 false mn mx (some ⟨g,o*7,none⟩) n n):=by
 unfold Qz Qc
 refine⟨_,n,?_,by decide,by decide,by simp,hm,Vr h n 0 (by omega)⟩
 rw [List.length_replicate]
theorem J7{D:World}{g:Nat}{t:TypeId}(h:D.heap[g]?=some (.cells (Yt 40).toArray t (0,0))):Qz D X0 (Q2 3 0 0 false 0 0 (some ⟨g,0,none⟩) 40 40):=Ku (o:=0) h 40 (by omega) (by decide) 3 0 0
theorem D1{D:World}{g:Nat}{t:TypeId}(h:D.heap[g]?=some (.cells (Yt 40).toArray t (0,0))):Qz D Dl (Q2 3 0 0 false 0 0 (some ⟨g,7,none⟩) 39 39):=Ku (o:=1) h 39 (by omega) (by decide) 3 0 0
theorem Lp{D:World}{g:Nat}{t:TypeId}(h:D.heap[g]?=some (.cells (Yt 40).toArray t (0,0))):Qz D (.node 3 0 0 false 0 1 (List.replicate 40 pZ)) (Q2 3 0 0 false 0 1 (some ⟨g,0,none⟩) 40 40):=Ku (o:=0) h 40 (by omega) (by decide) 3 0 1
theorem Jn{D:World}{p:Pat}{cs:List Value}(h:Qz D p cs):cs.length=7:=by
 obtain⟨ao,cap,rfl,_⟩:=Qj h
 rfl
theorem Mi{D:World}{g:Nat}{t:TypeId}{a:Pat}{ca:List Value}{cs:Array Value}(h:D.heap[g]?=some (.cells cs t (0,0))) (ha:Qz D a ca) (k mn mx:Int) (e:cs.toList=ca:=by rfl):Qz D (.node k 0 0 false mn mx [a]) (Q2 k 0 0 false mn mx (some ⟨g,0,none⟩) 1 1):=by
 have hg:g<D.heap.size:=(Array.getElem?_eq_some_iff.1 h).1
 unfold Qz Qc
 refine⟨_,1,rfl,by decide,by decide,Nat.le_refl 1,by decide,?_⟩
 refine Qe.block (t:=t) (css:=[ca]) (by rw [h,← e];simp) rfl (fun c hc=>?_) (fun j hj=>?_) hg
 ·simp only [List.mem_cons,List.not_mem_nil,or_false] at hc
  subst hc
  exact Jn ha
 ·obtain rfl:j=0:=by simpa using hj
  exact ha
theorem J4{D:World}{g:Nat}{t:TypeId}{a b:Pat}{ca cb:List Value}{cs:Array Value}(h:D.heap[g]?=some (.cells cs t (0,0))) (ha:Qz D a ca) (hb:Qz D b cb) (k mn mx:Int) (e:cs.toList=ca++cb:=by rfl):Qz D (.node k 0 0 false mn mx [a,b]) (Q2 k 0 0 false mn mx (some ⟨g,0,none⟩) 2 2):=by
 have hg:g<D.heap.size:=(Array.getElem?_eq_some_iff.1 h).1
 unfold Qz Qc
 refine⟨_,2,rfl,by decide,by decide,Nat.le_refl 2,by decide,?_⟩
 refine Qe.block (t:=t) (css:=[ca,cb]) (by rw [h,show [ca,cb].flatten=ca++cb by simp,← e]) rfl (fun c hc=>?_) (fun j hj=>?_) hg
 ·simp only [List.mem_cons,List.not_mem_nil,or_false] at hc
  rcases hc with rfl | rfl
  ·exact Jn ha
  ·exact Jn hb
 ·have:j=0∨j=1:=by simp only [List.length_cons,List.length_nil] at hj;omega
  rcases this with rfl | rfl
  ·exact ha
  ·exact hb
theorem Xd{w:World}{p:Pat}{cs:List Value}(hp:Qz w p cs)(lo hi:Int) :
  Calls Tryd.prog 5 #[.agg cs.toArray,.int .i64 lo,.int .i64 hi] w fun e w'=>∃ ao cap,e=.returned (.agg #[.int .i64 5,.int .u32 0,.int .u32 0,.bool false,.int .i64 lo,.int .i64 hi,.slice ao 1 cap])∧Qz w' (.node 5 0 0 false lo hi [p]) (Q2 5 0 0 false lo hi ao 1 cap)∧Ext w w':=by
 refine(Jm hp lo hi).mono ?_
 rintro e w' ⟨ds,rfl,h,hN⟩
 obtain⟨ao,cap,rfl,_⟩:=Qj h
 exact⟨ao,cap,rfl,Qc.bound h,hN⟩
theorem M5(g:Nat)(D:World):(Instr.slice 22 (.slice (some ⟨g,0,none⟩) 40 40) (some (.int .i64 1)) none none).run Tryd.prog D=.ok (.slice (some ⟨g,7,none⟩) 39 39) D:=by
 have h:=Mr (P:=Tryd.prog) (t:=22) (size:=7) (A:=some ⟨g,0,none⟩) (n:=40) (c:=40) (by kernel_rfl) (fun D=>by rfl) 1 (by omega) D
 exact h
def ShP(cs:Array Value):Prop:=∃ k p m b x y ao n c,cs=#[.int .i64 k,.int .u32 p,.int .u32 m,.bool b,.int .i64 x,.int .i64 y,.slice ao n c]
def Df(gF:Nat):Nat→Value→World→Prop
 | 0,v,_=>v=.slice (some ⟨gF,0,none⟩) 40 40
 | 1,v,_=>v=.agg #[.int .i64 3,.int .u32 0,.int .u32 0,.bool false,.int .i64 0,.int .i64 0,.slice (some ⟨gF,0,none⟩) 40 40]
 | 2,v,_=>v=.slice (some ⟨gF,0,none⟩) 40 40
 | 3,v,_=>v=.slice (some ⟨gF,7,none⟩) 39 39
 | 4,v,_=>v=.agg #[.int .i64 3,.int .u32 0,.int .u32 0,.bool false,.int .i64 0,.int .i64 0,.slice (some ⟨gF,7,none⟩) 39 39]
 | _,_,_=>True
theorem L2{gF:Nat}(i:Nat)(v:Value)(W W':World)(h:Df gF i v W):Df gF i v W':=by
 unfold Df at h ⊢
 split at h <;> first | exact h | trivial
theorem Q7{P:Program}{ops:Array Oper}{rest:List Oper}{o:Oper}{a:Act}{w:World}{Q:Exit→Act→World→Prop}(hw:Region.wanted o (yielded ops a.tmps)=true) (ty:TypeId) (x:Operand) (ho:o.op=.load ty x)
  (g:Nat) (hx:a.eval x=.pointer (some ⟨g,0,none⟩)) (t:TypeId) (cs:Array Value) (fr:Nat × Nat) (d:TypeDesc) (hg:w.heap[g]?=some (.cells cs t fr))
  (hu:P.underlying ty=some d) (hd:(match d with | .struct _ | .array _ _=>true | _=>false)=true) (hi:(P.info? ty).map (·.size)=some cs.size)
  (h:wpList P ops Q rest (a.put o.dst (.agg cs)) w):wpList P ops Q (o::rest) a w:=
 wpList_step fun K hK=>by rw [if_pos hw];exact wp_load_row ty x ho g hx t cs fr d hg hu hd hi (hK _ _ h)
def Uf(D:World)(g:Nat):Prop:=∀ j,j<22→∃ cs,D.rangeAt g (j*8) (cs++[.int .i64 (Yp.getD j (pZ,0)).2])∧Qz D (Yp.getD j (pZ,0)).1 cs
theorem Wt(n:Nat):∀(css:List (List Value)),(∀ c∈css,c.length=n)→∀ j i,j<css.length→i<n→css.flatten[j*n+i]?=(css.getD j [])[i]?
 | [],_,j,i,h,_=>by simp at h
 | c::css,h7,0,i,_,hi=>by
  have:=h7 c (List.mem_cons_self ..)
  rw [List.flatten_cons,List.getElem?_append_left (by omega)]
  simp
 | c::css,h7,j+1,i,hj,hi=>by
  have h1:=h7 c (List.mem_cons_self ..)
  have h2:(j+1)*n=j*n+n:=Nat.succ_mul j n
  rw [List.flatten_cons,List.getElem?_append_right (by omega),show (j+1)*n+i - c.length=j*n+i by omega,Wt n css (fun x hx=>h7 x (List.mem_cons_of_mem _ hx)) j i (by simpa using hj) hi]
  simp
theorem Mn{D:World}{g:Nat}{t:TypeId}{cs:Array Value}(pcs:List (List Value)) (h:D.heap[g]?=some (.cells cs t (0,0))) (hl:pcs.length=22) (hp:∀ j,j<22→Qz D (Yp.getD j (pZ,0)).1 (pcs.getD j []))
  (e:cs.toList=(List.zipWith (fun p (x:Pat × Int)=>p++[Value.int .i64 x.2]) pcs Yp).flatten):Uf D g:=fun j hj=>by
 have hr:Yp.length=22:=rfl
 refine⟨pcs.getD j [],?_,hp j hj⟩
 intro i u hu
 have h7:=Jn (hp j hj)
 have hi:i<8:=by
  have:=(List.getElem?_eq_some_iff.1 hu).1
  rw [List.length_append,h7] at this
  exact this
 have h1:=Wt 8 (List.zipWith (fun p (x:Pat × Int)=>p++[Value.int .i64 x.2]) pcs Yp) (fun c hc=>?_) j i (by simp;omega) hi
 ·rw [cell_of_row D g (j*8+i) _ t _ h,← Array.getElem?_toList,e,h1,← hu]
  congr 1
  rw [List.getD_eq_getElem?_getD,List.getElem?_zipWith,List.getD_eq_getElem?_getD,List.getD_eq_getElem?_getD,List.getElem?_eq_getElem (show j<pcs.length by omega),List.getElem?_eq_getElem (show j<Yp.length by omega)]
  rfl
 ·obtain⟨m,hm,rfl⟩:=List.getElem_of_mem hc
  have hm2:m<22:=by simp at hm;omega
  have:=Jn (hp m hm2)
  rw [List.getD_eq_getElem?_getD,List.getElem?_eq_getElem (show m<pcs.length by omega)] at this
  simp at this
  simp [this]
def KP(f:Option Addr→Nat→Value)(p:Pat)(cs:Option Addr→Nat→List Value)(v:Value)(W:World):Prop:=∃ ao c,v=f ao c∧Qz W p (cs ao c)
theorem KP.ext{f:Option Addr→Nat→Value}{p:Pat}{cs:Option Addr→Nat→List Value}{v:Value}{W W':World}(h:KP f p cs v W)(ht:Ext W W'):KP f p cs v W':=by
 obtain⟨ao,c,h1,h2⟩:=h
 exact⟨ao,c,h1,h2.ext ht⟩
theorem Uf.ext{W W':World}{g:Nat}(h:Uf W g)(ht:Ext W W'):Uf W' g:=fun j hj=>by
 obtain⟨cs,h1,h2⟩:=h j hj
 exact⟨cs,fun i u hu=>ht.cell_some (h1 i u hu) id,h2.ext ht⟩
def Z1(gF:Nat):Nat→Value→World→Prop
 | 0,v,_=>v=.agg #[.int .i64 0,.int .u32 0,.int .u32 0,.bool false,.int .i64 0,.int .i64 0,.slice none 0 0]
 | 1,v,_=>v=.agg #[.int .i64 0,.int .u32 0,.int .u32 0,.bool false,.int .i64 0,.int .i64 0,.slice none 0 0,.int .i64 0]
 | 2,v,_=>v=.agg #[.int .i64 7,.int .u32 0,.int .u32 0,.bool false,.int .i64 0,.int .i64 0,.slice none 0 0]
 | 3,v,_=>v=.agg #[.int .i64 7,.int .u32 0,.int .u32 0,.bool false,.int .i64 0,.int .i64 0,.slice none 0 0,.int .i64 2]
 | 4,v,_=>v=.agg #[.int .i64 (-1),.int .u32 0,.int .u32 0,.bool false,.int .i64 0,.int .i64 0,.slice none 0 0]
 | 5,v,_=>v=.agg #[.int .i64 (-1),.int .u32 0,.int .u32 0,.bool false,.int .i64 0,.int .i64 0,.slice none 0 0,.int .i64 2]
 | 6,v,_=>v=.agg #[.int .i64 1,.int .u32 0,.int .u32 0,.bool false,.int .i64 0,.int .i64 0,.slice none 0 0]
 | 7,v,_=>v=.agg #[.int .i64 1,.int .u32 0,.int .u32 0,.bool false,.int .i64 0,.int .i64 0,.slice none 0 0,.int .i64 0]
 | 8,v,_=>v=.agg #[.int .u32 1,.int .u32 1]
 | 9,v,_=>v=.agg #[.int .i64 1,.int .u32 1,.int .u32 1,.bool false,.int .i64 0,.int .i64 0,.slice none 0 0]
 | 10,v,_=>v=.agg #[.int .i64 1,.int .u32 1,.int .u32 1,.bool false,.int .i64 0,.int .i64 0,.slice none 0 0,.int .i64 14]
 | 11,v,_=>v=.agg #[.int .u32 16777216,.int .u32 0]
 | 12,v,_=>v=.agg #[.int .i64 1,.int .u32 16777216,.int .u32 0,.bool false,.int .i64 0,.int .i64 1,.slice none 0 0]
 | 13,v,_=>v=.agg #[.int .i64 1,.int .u32 16777216,.int .u32 0,.bool false,.int .i64 0,.int .i64 1,.slice none 0 0,.int .i64 2]
 | 14,v,_=>v=.agg #[.int .u32 16777216,.int .u32 0]
 | 15,v,_=>v=.agg #[.int .i64 0,.int .u32 16777216,.int .u32 0,.bool false,.int .i64 0,.int .i64 0,.slice none 0 0]
 | 16,v,_=>v=.agg #[.int .i64 0,.int .u32 16777216,.int .u32 0,.bool false,.int .i64 0,.int .i64 0,.slice none 0 0,.int .i64 2]
 | 17,v,_=>v=.agg #[.int .i64 0,.int .u32 0,.int .u32 0,.bool true,.int .i64 0,.int .i64 0,.slice none 0 0]
 | 18,v,_=>v=.agg #[.int .i64 0,.int .u32 0,.int .u32 0,.bool true,.int .i64 0,.int .i64 0,.slice none 0 0,.int .i64 2]
 | 19,v,_=>v=.agg #[.int .i64 0,.int .u32 0,.int .u32 0,.bool false,.int .i64 0,.int .i64 0,.slice none 0 0]
 | 20,v,W=>KP (fun ao c=>.slice ao 1 c) (.node 2 0 0 false 0 0 [pZ]) (fun ao c=>Q2 2 0 0 false 0 0 ao 1 c) v W
 | 21,v,W=>KP (fun ao c=>.agg #[.int .i64 2,.int .u32 0,.int .u32 0,.bool false,.int .i64 0,.int .i64 0,.slice ao 1 c]) (.node 2 0 0 false 0 0 [pZ]) (fun ao c=>Q2 2 0 0 false 0 0 ao 1 c) v W
 | 22,v,W=>KP (fun ao c=>.agg #[.int .i64 2,.int .u32 0,.int .u32 0,.bool false,.int .i64 0,.int .i64 0,.slice ao 1 c,.int .i64 2]) (.node 2 0 0 false 0 0 [pZ]) (fun ao c=>Q2 2 0 0 false 0 0 ao 1 c) v W
 | 23,v,_=>v=.agg #[.int .i64 6,.int .u32 0,.int .u32 0,.bool false,.int .i64 1,.int .i64 0,.slice none 0 0]
 | 24,v,_=>v=.agg #[.int .i64 6,.int .u32 0,.int .u32 0,.bool false,.int .i64 1,.int .i64 0,.slice none 0 0,.int .i64 2]
 | 25,v,_=>v=.agg #[.int .i64 4,.int .u32 0,.int .u32 0,.bool false,.int .i64 0,.int .i64 0,.slice none 0 0]
 | 26,v,_=>v=.agg #[.int .i64 4,.int .u32 0,.int .u32 0,.bool false,.int .i64 0,.int .i64 0,.slice none 0 0,.int .i64 0]
 | 27,v,_=>v=.agg #[.int .i64 5,.int .u32 0,.int .u32 0,.bool false,.int .i64 0,.int .i64 0,.slice none 0 0]
 | 28,v,_=>v=.agg #[.int .i64 5,.int .u32 0,.int .u32 0,.bool false,.int .i64 0,.int .i64 0,.slice none 0 0,.int .i64 2]
 | 29,v,_=>v=.agg #[.int .i64 1,.int .u32 4,.int .u32 0,.bool false,.int .i64 0,.int .i64 0,.slice none 0 0]
 | 30,v,W=>KP (fun ao c=>.agg #[.int .i64 5,.int .u32 0,.int .u32 0,.bool false,.int .i64 33,.int .i64 33,.slice ao 1 c]) (Z0 wV 33 33) (fun ao c=>Q2 5 0 0 false 33 33 ao 1 c) v W
 | 31,v,W=>KP (fun ao c=>.agg #[.int .i64 5,.int .u32 0,.int .u32 0,.bool false,.int .i64 33,.int .i64 33,.slice ao 1 c,.int .i64 2]) (Z0 wV 33 33) (fun ao c=>Q2 5 0 0 false 33 33 ao 1 c) v W
 | 32,v,_=>v=.agg #[.int .i64 1,.int .u32 4,.int .u32 0,.bool false,.int .i64 0,.int .i64 0,.slice none 0 0]
 | 33,v,W=>KP (fun ao c=>.agg #[.int .i64 5,.int .u32 0,.int .u32 0,.bool false,.int .i64 32,.int .i64 32,.slice ao 1 c]) (Z0 wV 32 32) (fun ao c=>Q2 5 0 0 false 32 32 ao 1 c) v W
 | 34,v,W=>KP (fun ao c=>.agg #[.int .i64 5,.int .u32 0,.int .u32 0,.bool false,.int .i64 32,.int .i64 32,.slice ao 1 c,.int .i64 0]) (Z0 wV 32 32) (fun ao c=>Q2 5 0 0 false 32 32 ao 1 c) v W
 | 35,v,_=>v=.agg #[.int .i64 1,.int .u32 4,.int .u32 0,.bool false,.int .i64 0,.int .i64 0,.slice none 0 0]
 | 36,v,W=>KP (fun ao c=>.agg #[.int .i64 5,.int .u32 0,.int .u32 0,.bool false,.int .i64 2,.int .i64 1,.slice ao 1 c]) (Z0 wV 2 1) (fun ao c=>Q2 5 0 0 false 2 1 ao 1 c) v W
 | 37,v,W=>KP (fun ao c=>.agg #[.int .i64 5,.int .u32 0,.int .u32 0,.bool false,.int .i64 2,.int .i64 1,.slice ao 1 c,.int .i64 2]) (Z0 wV 2 1) (fun ao c=>Q2 5 0 0 false 2 1 ao 1 c) v W
 | 38,v,_=>v=.agg #[.int .i64 1,.int .u32 4,.int .u32 0,.bool false,.int .i64 0,.int .i64 0,.slice none 0 0]
 | 39,v,W=>KP (fun ao c=>.agg #[.int .i64 5,.int .u32 0,.int .u32 0,.bool false,.int .i64 0,.int .i64 (-2),.slice ao 1 c]) (Z0 wV 0 (-2)) (fun ao c=>Q2 5 0 0 false 0 (-2) ao 1 c) v W
 | 40,v,W=>KP (fun ao c=>.agg #[.int .i64 5,.int .u32 0,.int .u32 0,.bool false,.int .i64 0,.int .i64 (-2),.slice ao 1 c,.int .i64 2]) (Z0 wV 0 (-2)) (fun ao c=>Q2 5 0 0 false 0 (-2) ao 1 c) v W
 | 41,v,_=>v=.agg #[.int .i64 1,.int .u32 4,.int .u32 0,.bool false,.int .i64 0,.int .i64 0,.slice none 0 0]
 | 42,v,W=>KP (fun ao c=>.agg #[.int .i64 5,.int .u32 0,.int .u32 0,.bool false,.int .i64 (-1),.int .i64 2,.slice ao 1 c]) (Z0 wV (-1) 2) (fun ao c=>Q2 5 0 0 false (-1) 2 ao 1 c) v W
 | 43,v,W=>KP (fun ao c=>.agg #[.int .i64 5,.int .u32 0,.int .u32 0,.bool false,.int .i64 (-1),.int .i64 2,.slice ao 1 c,.int .i64 2]) (Z0 wV (-1) 2) (fun ao c=>Q2 5 0 0 false (-1) 2 ao 1 c) v W
 | 44,v,_=>v=.agg #[.int .i64 1,.int .u32 4,.int .u32 0,.bool false,.int .i64 0,.int .i64 0,.slice none 0 0]
 | 45,v,W=>KP (fun ao c=>.agg #[.int .i64 5,.int .u32 0,.int .u32 0,.bool false,.int .i64 32,.int .i64 (-1),.slice ao 1 c]) (Z0 wV 32 (-1)) (fun ao c=>Q2 5 0 0 false 32 (-1) ao 1 c) v W
 | 46,v,W=>KP (fun ao c=>.agg #[.int .i64 5,.int .u32 0,.int .u32 0,.bool false,.int .i64 32,.int .i64 (-1),.slice ao 1 c,.int .i64 0]) (Z0 wV 32 (-1)) (fun ao c=>Q2 5 0 0 false 32 (-1) ao 1 c) v W
 | 47,v,_=>v=.agg #[.int .i64 1,.int .u32 4,.int .u32 0,.bool false,.int .i64 0,.int .i64 0,.slice none 0 0]
 | 48,v,_=>v=.agg #[.int .i64 1,.int .u32 4,.int .u32 0,.bool false,.int .i64 0,.int .i64 0,.slice none 0 0]
 | 49,v,W=>KP (fun ao c=>.slice ao 2 c) (.node 5 0 0 false 0 1 [wV,wV]) (fun ao c=>Q2 5 0 0 false 0 1 ao 2 c) v W
 | 50,v,W=>KP (fun ao c=>.agg #[.int .i64 5,.int .u32 0,.int .u32 0,.bool false,.int .i64 0,.int .i64 1,.slice ao 2 c]) (.node 5 0 0 false 0 1 [wV,wV]) (fun ao c=>Q2 5 0 0 false 0 1 ao 2 c) v W
 | 51,v,W=>KP (fun ao c=>.agg #[.int .i64 5,.int .u32 0,.int .u32 0,.bool false,.int .i64 0,.int .i64 1,.slice ao 2 c,.int .i64 2]) (.node 5 0 0 false 0 1 [wV,wV]) (fun ao c=>Q2 5 0 0 false 0 1 ao 2 c) v W
 | 52,v,_=>v=.agg #[.int .u32 1,.int .u32 1]
 | 53,v,_=>v=.agg #[.int .i64 1,.int .u32 1,.int .u32 1,.bool false,.int .i64 0,.int .i64 0,.slice none 0 0]
 | 54,v,_=>v=.agg #[.int .i64 9,.int .u32 0,.int .u32 0,.bool false,.int .i64 0,.int .i64 0,.slice none 0 0]
 | 55,v,W=>KP (fun ao c=>.slice ao 2 c) (.node 3 0 0 false 0 0 [.node 1 1 1 false 0 0 [],.node 9 0 0 false 0 0 []]) (fun ao c=>Q2 3 0 0 false 0 0 ao 2 c) v W
 | 56,v,W=>KP (fun ao c=>.agg #[.int .i64 3,.int .u32 0,.int .u32 0,.bool false,.int .i64 0,.int .i64 0,.slice ao 2 c]) (.node 3 0 0 false 0 0 [.node 1 1 1 false 0 0 [],.node 9 0 0 false 0 0 []]) (fun ao c=>Q2 3 0 0 false 0 0 ao 2 c) v W
 | 57,v,W=>KP (fun ao c=>.agg #[.int .i64 3,.int .u32 0,.int .u32 0,.bool false,.int .i64 0,.int .i64 0,.slice ao 2 c,.int .i64 14]) (.node 3 0 0 false 0 0 [.node 1 1 1 false 0 0 [],.node 9 0 0 false 0 0 []]) (fun ao c=>Q2 3 0 0 false 0 0 ao 2 c) v W
 | 58,v,_=>v=.agg #[.int .i64 3,.int .u32 0,.int .u32 0,.bool false,.int .i64 0,.int .i64 0,.slice (some ⟨gF,0,none⟩) 40 40]
 | 59,v,_=>v=.agg #[.int .i64 9,.int .u32 0,.int .u32 0,.bool false,.int .i64 0,.int .i64 0,.slice none 0 0]
 | 60,v,W=>KP (fun ao c=>.slice ao 2 c) (.node 3 0 0 false 0 0 [X0,.node 9 0 0 false 0 0 []]) (fun ao c=>Q2 3 0 0 false 0 0 ao 2 c) v W
 | 61,v,W=>KP (fun ao c=>.agg #[.int .i64 3,.int .u32 0,.int .u32 0,.bool false,.int .i64 0,.int .i64 0,.slice ao 2 c]) (.node 3 0 0 false 0 0 [X0,.node 9 0 0 false 0 0 []]) (fun ao c=>Q2 3 0 0 false 0 0 ao 2 c) v W
 | 62,v,W=>KP (fun ao c=>.agg #[.int .i64 3,.int .u32 0,.int .u32 0,.bool false,.int .i64 0,.int .i64 0,.slice ao 2 c,.int .i64 12]) (.node 3 0 0 false 0 0 [X0,.node 9 0 0 false 0 0 []]) (fun ao c=>Q2 3 0 0 false 0 0 ao 2 c) v W
 | 63,v,_=>v=.slice (some ⟨gF,0,none⟩) 40 40
 | 64,v,_=>v=.agg #[.int .i64 3,.int .u32 0,.int .u32 0,.bool false,.int .i64 0,.int .i64 1,.slice (some ⟨gF,0,none⟩) 40 40]
 | 65,v,_=>v=.agg #[.int .i64 3,.int .u32 0,.int .u32 0,.bool false,.int .i64 0,.int .i64 1,.slice (some ⟨gF,0,none⟩) 40 40,.int .i64 2]
 | 66,v,W=>∃ g,v=.slice (some ⟨g,0,none⟩) 22 22∧Uf W g
 | 67,v,_=>v=.int .i64 22
 | 68,v,_=>v=.int .i64 0
 | _,_,_=>True
theorem Mj:(Tryd.prog.info? 33).map (fun i=>(i.zero,i.size,i.bytes))=some (some (.agg #[.int .i64 0,.int .u32 0,.int .u32 0,.bool false,.int .i64 0,.int .i64 0,.slice none 0 0,.int .i64 0]),8,72):=by kernel_rfl
theorem N5(gF:Nat)(ar110:Option Addr)(cr110:Nat)(ar119:Option Addr)(cr119:Nat)(ar122:Option Addr)(cr122:Nat)(ar125:Option Addr)(cr125:Nat)(ar128:Option Addr)(cr128:Nat)(ar131:Option Addr)(cr131:Nat)(ar134:Option Addr)(cr134:Nat)(ar139:Option Addr)(cr139:Nat)(ar145:Option Addr)(cr145:Nat)(ar150:Option Addr)(cr150:Nat):Instr.fill (fun i=>some (i*8,8)) ((Array.range (22*8)).map ((Value.agg #[.int .i64 0,.int .u32 0,.int .u32 0,.bool false,.int .i64 0,.int .i64 0,.slice none 0 0,.int .i64 0]).cells[· % (Value.agg #[.int .i64 0,.int .u32 0,.int .u32 0,.bool false,.int .i64 0,.int .i64 0,.slice none 0 0,.int .i64 0]).cells.size]!)) #[(0,.agg #[.int .i64 0,.int .u32 0,.int .u32 0,.bool false,.int .i64 0,.int .i64 0,.slice none 0 0,.int .i64 0]),(1,.agg #[.int .i64 7,.int .u32 0,.int .u32 0,.bool false,.int .i64 0,.int .i64 0,.slice none 0 0,.int .i64 2]),(2,.agg #[.int .i64 (-1),.int .u32 0,.int .u32 0,.bool false,.int .i64 0,.int .i64 0,.slice none 0 0,.int .i64 2]),(3,.agg #[.int .i64 1,.int .u32 0,.int .u32 0,.bool false,.int .i64 0,.int .i64 0,.slice none 0 0,.int .i64 0]),(4,.agg #[.int .i64 1,.int .u32 1,.int .u32 1,.bool false,.int .i64 0,.int .i64 0,.slice none 0 0,.int .i64 14]),(5,.agg #[.int .i64 1,.int .u32 16777216,.int .u32 0,.bool false,.int .i64 0,.int .i64 1,.slice none 0 0,.int .i64 2]),(6,.agg #[.int .i64 0,.int .u32 16777216,.int .u32 0,.bool false,.int .i64 0,.int .i64 0,.slice none 0 0,.int .i64 2]),(7,.agg #[.int .i64 0,.int .u32 0,.int .u32 0,.bool true,.int .i64 0,.int .i64 0,.slice none 0 0,.int .i64 2]),(8,.agg #[.int .i64 2,.int .u32 0,.int .u32 0,.bool false,.int .i64 0,.int .i64 0,.slice ar110 1 cr110,.int .i64 2]),(9,.agg #[.int .i64 6,.int .u32 0,.int .u32 0,.bool false,.int .i64 1,.int .i64 0,.slice none 0 0,.int .i64 2]),(10,.agg #[.int .i64 4,.int .u32 0,.int .u32 0,.bool false,.int .i64 0,.int .i64 0,.slice none 0 0,.int .i64 0]),(11,.agg #[.int .i64 5,.int .u32 0,.int .u32 0,.bool false,.int .i64 0,.int .i64 0,.slice none 0 0,.int .i64 2]),(12,.agg #[.int .i64 5,.int .u32 0,.int .u32 0,.bool false,.int .i64 33,.int .i64 33,.slice ar119 1 cr119,.int .i64 2]),(13,.agg #[.int .i64 5,.int .u32 0,.int .u32 0,.bool false,.int .i64 32,.int .i64 32,.slice ar122 1 cr122,.int .i64 0]),(14,.agg #[.int .i64 5,.int .u32 0,.int .u32 0,.bool false,.int .i64 2,.int .i64 1,.slice ar125 1 cr125,.int .i64 2]),(15,.agg #[.int .i64 5,.int .u32 0,.int .u32 0,.bool false,.int .i64 0,.int .i64 (-2),.slice ar128 1 cr128,.int .i64 2]),(16,.agg #[.int .i64 5,.int .u32 0,.int .u32 0,.bool false,.int .i64 (-1),.int .i64 2,.slice ar131 1 cr131,.int .i64 2]),(17,.agg #[.int .i64 5,.int .u32 0,.int .u32 0,.bool false,.int .i64 32,.int .i64 (-1),.slice ar134 1 cr134,.int .i64 0]),(18,.agg #[.int .i64 5,.int .u32 0,.int .u32 0,.bool false,.int .i64 0,.int .i64 1,.slice ar139 2 cr139,.int .i64 2]),(19,.agg #[.int .i64 3,.int .u32 0,.int .u32 0,.bool false,.int .i64 0,.int .i64 0,.slice ar145 2 cr145,.int .i64 14]),(20,.agg #[.int .i64 3,.int .u32 0,.int .u32 0,.bool false,.int .i64 0,.int .i64 0,.slice ar150 2 cr150,.int .i64 12]),(21,.agg #[.int .i64 3,.int .u32 0,.int .u32 0,.bool false,.int .i64 0,.int .i64 1,.slice (some ⟨gF,0,none⟩) 40 40,.int .i64 2])].toList=some #[.int .i64 0,.int .u32 0,.int .u32 0,.bool false,.int .i64 0,.int .i64 0,.slice none 0 0,.int .i64 0,.int .i64 7,.int .u32 0,.int .u32 0,.bool false,.int .i64 0,.int .i64 0,.slice none 0 0,.int .i64 2,.int .i64 (-1),.int .u32 0,.int .u32 0,.bool false,.int .i64 0,.int .i64 0,.slice none 0 0,.int .i64 2,.int .i64 1,.int .u32 0,.int .u32 0,.bool false,.int .i64 0,.int .i64 0,.slice none 0 0,.int .i64 0,.int .i64 1,.int .u32 1,.int .u32 1,.bool false,.int .i64 0,.int .i64 0,.slice none 0 0,.int .i64 14,.int .i64 1,.int .u32 16777216,.int .u32 0,.bool false,.int .i64 0,.int .i64 1,.slice none 0 0,.int .i64 2,.int .i64 0,.int .u32 16777216,.int .u32 0,.bool false,.int .i64 0,.int .i64 0,.slice none 0 0,.int .i64 2,.int .i64 0,.int .u32 0,.int .u32 0,.bool true,.int .i64 0,.int .i64 0,.slice none 0 0,.int .i64 2,.int .i64 2,.int .u32 0,.int .u32 0,.bool false,.int .i64 0,.int .i64 0,.slice ar110 1 cr110,.int .i64 2,.int .i64 6,.int .u32 0,.int .u32 0,.bool false,.int .i64 1,.int .i64 0,.slice none 0 0,.int .i64 2,.int .i64 4,.int .u32 0,.int .u32 0,.bool false,.int .i64 0,.int .i64 0,.slice none 0 0,.int .i64 0,.int .i64 5,.int .u32 0,.int .u32 0,.bool false,.int .i64 0,.int .i64 0,.slice none 0 0,.int .i64 2,.int .i64 5,.int .u32 0,.int .u32 0,.bool false,.int .i64 33,.int .i64 33,.slice ar119 1 cr119,.int .i64 2,.int .i64 5,.int .u32 0,.int .u32 0,.bool false,.int .i64 32,.int .i64 32,.slice ar122 1 cr122,.int .i64 0,.int .i64 5,.int .u32 0,.int .u32 0,.bool false,.int .i64 2,.int .i64 1,.slice ar125 1 cr125,.int .i64 2,.int .i64 5,.int .u32 0,.int .u32 0,.bool false,.int .i64 0,.int .i64 (-2),.slice ar128 1 cr128,.int .i64 2,.int .i64 5,.int .u32 0,.int .u32 0,.bool false,.int .i64 (-1),.int .i64 2,.slice ar131 1 cr131,.int .i64 2,.int .i64 5,.int .u32 0,.int .u32 0,.bool false,.int .i64 32,.int .i64 (-1),.slice ar134 1 cr134,.int .i64 0,.int .i64 5,.int .u32 0,.int .u32 0,.bool false,.int .i64 0,.int .i64 1,.slice ar139 2 cr139,.int .i64 2,.int .i64 3,.int .u32 0,.int .u32 0,.bool false,.int .i64 0,.int .i64 0,.slice ar145 2 cr145,.int .i64 14,.int .i64 3,.int .u32 0,.int .u32 0,.bool false,.int .i64 0,.int .i64 0,.slice ar150 2 cr150,.int .i64 12,.int .i64 3,.int .u32 0,.int .u32 0,.bool false,.int .i64 0,.int .i64 1,.slice (some ⟨gF,0,none⟩) 40 40,.int .i64 2]:=by kernel_rfl
theorem Ns(gF:Nat)(ar110:Option Addr)(cr110:Nat)(ar119:Option Addr)(cr119:Nat)(ar122:Option Addr)(cr122:Nat)(ar125:Option Addr)(cr125:Nat)(ar128:Option Addr)(cr128:Nat)(ar131:Option Addr)(cr131:Nat)(ar134:Option Addr)(cr134:Nat)(ar139:Option Addr)(cr139:Nat)(ar145:Option Addr)(cr145:Nat)(ar150:Option Addr)(cr150:Nat){o:Oper}{b:Act}{W:World}{K:Act→World→Prop}{Q:Exit→Act→World→Prop}(ho:o.op=.buildSlice 35 22 #[(0,.tmp 89),(1,.tmp 91),(2,.tmp 93),(3,.tmp 95),(4,.tmp 98),(5,.tmp 101),(6,.tmp 104),(7,.tmp 106),(8,.tmp 110),(9,.tmp 112),(10,.tmp 114),(11,.tmp 116),(12,.tmp 119),(13,.tmp 122),(14,.tmp 125),(15,.tmp 128),(16,.tmp 131),(17,.tmp 134),(18,.tmp 139),(19,.tmp 145),(20,.tmp 150),(21,.tmp 153)]) (h89:b.tmps.getD 89 undef=.agg #[.int .i64 0,.int .u32 0,.int .u32 0,.bool false,.int .i64 0,.int .i64 0,.slice none 0 0,.int .i64 0]) (h91:b.tmps.getD 91 undef=.agg #[.int .i64 7,.int .u32 0,.int .u32 0,.bool false,.int .i64 0,.int .i64 0,.slice none 0 0,.int .i64 2]) (h93:b.tmps.getD 93 undef=.agg #[.int .i64 (-1),.int .u32 0,.int .u32 0,.bool false,.int .i64 0,.int .i64 0,.slice none 0 0,.int .i64 2]) (h95:b.tmps.getD 95 undef=.agg #[.int .i64 1,.int .u32 0,.int .u32 0,.bool false,.int .i64 0,.int .i64 0,.slice none 0 0,.int .i64 0]) (h98:b.tmps.getD 98 undef=.agg #[.int .i64 1,.int .u32 1,.int .u32 1,.bool false,.int .i64 0,.int .i64 0,.slice none 0 0,.int .i64 14]) (h101:b.tmps.getD 101 undef=.agg #[.int .i64 1,.int .u32 16777216,.int .u32 0,.bool false,.int .i64 0,.int .i64 1,.slice none 0 0,.int .i64 2]) (h104:b.tmps.getD 104 undef=.agg #[.int .i64 0,.int .u32 16777216,.int .u32 0,.bool false,.int .i64 0,.int .i64 0,.slice none 0 0,.int .i64 2]) (h106:b.tmps.getD 106 undef=.agg #[.int .i64 0,.int .u32 0,.int .u32 0,.bool true,.int .i64 0,.int .i64 0,.slice none 0 0,.int .i64 2]) (h110:b.tmps.getD 110 undef=.agg #[.int .i64 2,.int .u32 0,.int .u32 0,.bool false,.int .i64 0,.int .i64 0,.slice ar110 1 cr110,.int .i64 2]) (h112:b.tmps.getD 112 undef=.agg #[.int .i64 6,.int .u32 0,.int .u32 0,.bool false,.int .i64 1,.int .i64 0,.slice none 0 0,.int .i64 2]) (h114:b.tmps.getD 114 undef=.agg #[.int .i64 4,.int .u32 0,.int .u32 0,.bool false,.int .i64 0,.int .i64 0,.slice none 0 0,.int .i64 0]) (h116:b.tmps.getD 116 undef=.agg #[.int .i64 5,.int .u32 0,.int .u32 0,.bool false,.int .i64 0,.int .i64 0,.slice none 0 0,.int .i64 2]) (h119:b.tmps.getD 119 undef=.agg #[.int .i64 5,.int .u32 0,.int .u32 0,.bool false,.int .i64 33,.int .i64 33,.slice ar119 1 cr119,.int .i64 2]) (h122:b.tmps.getD 122 undef=.agg #[.int .i64 5,.int .u32 0,.int .u32 0,.bool false,.int .i64 32,.int .i64 32,.slice ar122 1 cr122,.int .i64 0]) (h125:b.tmps.getD 125 undef=.agg #[.int .i64 5,.int .u32 0,.int .u32 0,.bool false,.int .i64 2,.int .i64 1,.slice ar125 1 cr125,.int .i64 2]) (h128:b.tmps.getD 128 undef=.agg #[.int .i64 5,.int .u32 0,.int .u32 0,.bool false,.int .i64 0,.int .i64 (-2),.slice ar128 1 cr128,.int .i64 2]) (h131:b.tmps.getD 131 undef=.agg #[.int .i64 5,.int .u32 0,.int .u32 0,.bool false,.int .i64 (-1),.int .i64 2,.slice ar131 1 cr131,.int .i64 2]) (h134:b.tmps.getD 134 undef=.agg #[.int .i64 5,.int .u32 0,.int .u32 0,.bool false,.int .i64 32,.int .i64 (-1),.slice ar134 1 cr134,.int .i64 0]) (h139:b.tmps.getD 139 undef=.agg #[.int .i64 5,.int .u32 0,.int .u32 0,.bool false,.int .i64 0,.int .i64 1,.slice ar139 2 cr139,.int .i64 2]) (h145:b.tmps.getD 145 undef=.agg #[.int .i64 3,.int .u32 0,.int .u32 0,.bool false,.int .i64 0,.int .i64 0,.slice ar145 2 cr145,.int .i64 14]) (h150:b.tmps.getD 150 undef=.agg #[.int .i64 3,.int .u32 0,.int .u32 0,.bool false,.int .i64 0,.int .i64 0,.slice ar150 2 cr150,.int .i64 12]) (h153:b.tmps.getD 153 undef=.agg #[.int .i64 3,.int .u32 0,.int .u32 0,.bool false,.int .i64 0,.int .i64 1,.slice (some ⟨gF,0,none⟩) 40 40,.int .i64 2])
  (h:K (b.put o.dst (.slice (some ⟨W.heap.size,0,none⟩) 22 22)) (W.alloc (.cells #[.int .i64 0,.int .u32 0,.int .u32 0,.bool false,.int .i64 0,.int .i64 0,.slice none 0 0,.int .i64 0,.int .i64 7,.int .u32 0,.int .u32 0,.bool false,.int .i64 0,.int .i64 0,.slice none 0 0,.int .i64 2,.int .i64 (-1),.int .u32 0,.int .u32 0,.bool false,.int .i64 0,.int .i64 0,.slice none 0 0,.int .i64 2,.int .i64 1,.int .u32 0,.int .u32 0,.bool false,.int .i64 0,.int .i64 0,.slice none 0 0,.int .i64 0,.int .i64 1,.int .u32 1,.int .u32 1,.bool false,.int .i64 0,.int .i64 0,.slice none 0 0,.int .i64 14,.int .i64 1,.int .u32 16777216,.int .u32 0,.bool false,.int .i64 0,.int .i64 1,.slice none 0 0,.int .i64 2,.int .i64 0,.int .u32 16777216,.int .u32 0,.bool false,.int .i64 0,.int .i64 0,.slice none 0 0,.int .i64 2,.int .i64 0,.int .u32 0,.int .u32 0,.bool true,.int .i64 0,.int .i64 0,.slice none 0 0,.int .i64 2,.int .i64 2,.int .u32 0,.int .u32 0,.bool false,.int .i64 0,.int .i64 0,.slice ar110 1 cr110,.int .i64 2,.int .i64 6,.int .u32 0,.int .u32 0,.bool false,.int .i64 1,.int .i64 0,.slice none 0 0,.int .i64 2,.int .i64 4,.int .u32 0,.int .u32 0,.bool false,.int .i64 0,.int .i64 0,.slice none 0 0,.int .i64 0,.int .i64 5,.int .u32 0,.int .u32 0,.bool false,.int .i64 0,.int .i64 0,.slice none 0 0,.int .i64 2,.int .i64 5,.int .u32 0,.int .u32 0,.bool false,.int .i64 33,.int .i64 33,.slice ar119 1 cr119,.int .i64 2,.int .i64 5,.int .u32 0,.int .u32 0,.bool false,.int .i64 32,.int .i64 32,.slice ar122 1 cr122,.int .i64 0,.int .i64 5,.int .u32 0,.int .u32 0,.bool false,.int .i64 2,.int .i64 1,.slice ar125 1 cr125,.int .i64 2,.int .i64 5,.int .u32 0,.int .u32 0,.bool false,.int .i64 0,.int .i64 (-2),.slice ar128 1 cr128,.int .i64 2,.int .i64 5,.int .u32 0,.int .u32 0,.bool false,.int .i64 (-1),.int .i64 2,.slice ar131 1 cr131,.int .i64 2,.int .i64 5,.int .u32 0,.int .u32 0,.bool false,.int .i64 32,.int .i64 (-1),.slice ar134 1 cr134,.int .i64 0,.int .i64 5,.int .u32 0,.int .u32 0,.bool false,.int .i64 0,.int .i64 1,.slice ar139 2 cr139,.int .i64 2,.int .i64 3,.int .u32 0,.int .u32 0,.bool false,.int .i64 0,.int .i64 0,.slice ar145 2 cr145,.int .i64 14,.int .i64 3,.int .u32 0,.int .u32 0,.bool false,.int .i64 0,.int .i64 0,.slice ar150 2 cr150,.int .i64 12,.int .i64 3,.int .u32 0,.int .u32 0,.bool false,.int .i64 0,.int .i64 1,.slice (some ⟨gF,0,none⟩) 40 40,.int .i64 2] 33))):o.wp Tryd.prog b W K Q:=by
 obtain⟨i,hi,hz,hs,hb⟩:=info_parts (@Mj)
 refine wp_buildSlice 35 33 22 _ ho _ i _ (by kernel_rfl) hi hz (by rw [hs];decide) (by rw [hs];decide) ?_ h
 rw [hs]
 have hp:(#[(0,.tmp 89),(1,.tmp 91),(2,.tmp 93),(3,.tmp 95),(4,.tmp 98),(5,.tmp 101),(6,.tmp 104),(7,.tmp 106),(8,.tmp 110),(9,.tmp 112),(10,.tmp 114),(11,.tmp 116),(12,.tmp 119),(13,.tmp 122),(14,.tmp 125),(15,.tmp 128),(16,.tmp 131),(17,.tmp 134),(18,.tmp 139),(19,.tmp 145),(20,.tmp 150),(21,.tmp 153)].map fun(x:Nat × Operand)=>(x.1,b.eval x.2)).toList=#[(0,.agg #[.int .i64 0,.int .u32 0,.int .u32 0,.bool false,.int .i64 0,.int .i64 0,.slice none 0 0,.int .i64 0]),(1,.agg #[.int .i64 7,.int .u32 0,.int .u32 0,.bool false,.int .i64 0,.int .i64 0,.slice none 0 0,.int .i64 2]),(2,.agg #[.int .i64 (-1),.int .u32 0,.int .u32 0,.bool false,.int .i64 0,.int .i64 0,.slice none 0 0,.int .i64 2]),(3,.agg #[.int .i64 1,.int .u32 0,.int .u32 0,.bool false,.int .i64 0,.int .i64 0,.slice none 0 0,.int .i64 0]),(4,.agg #[.int .i64 1,.int .u32 1,.int .u32 1,.bool false,.int .i64 0,.int .i64 0,.slice none 0 0,.int .i64 14]),(5,.agg #[.int .i64 1,.int .u32 16777216,.int .u32 0,.bool false,.int .i64 0,.int .i64 1,.slice none 0 0,.int .i64 2]),(6,.agg #[.int .i64 0,.int .u32 16777216,.int .u32 0,.bool false,.int .i64 0,.int .i64 0,.slice none 0 0,.int .i64 2]),(7,.agg #[.int .i64 0,.int .u32 0,.int .u32 0,.bool true,.int .i64 0,.int .i64 0,.slice none 0 0,.int .i64 2]),(8,.agg #[.int .i64 2,.int .u32 0,.int .u32 0,.bool false,.int .i64 0,.int .i64 0,.slice ar110 1 cr110,.int .i64 2]),(9,.agg #[.int .i64 6,.int .u32 0,.int .u32 0,.bool false,.int .i64 1,.int .i64 0,.slice none 0 0,.int .i64 2]),(10,.agg #[.int .i64 4,.int .u32 0,.int .u32 0,.bool false,.int .i64 0,.int .i64 0,.slice none 0 0,.int .i64 0]),(11,.agg #[.int .i64 5,.int .u32 0,.int .u32 0,.bool false,.int .i64 0,.int .i64 0,.slice none 0 0,.int .i64 2]),(12,.agg #[.int .i64 5,.int .u32 0,.int .u32 0,.bool false,.int .i64 33,.int .i64 33,.slice ar119 1 cr119,.int .i64 2]),(13,.agg #[.int .i64 5,.int .u32 0,.int .u32 0,.bool false,.int .i64 32,.int .i64 32,.slice ar122 1 cr122,.int .i64 0]),(14,.agg #[.int .i64 5,.int .u32 0,.int .u32 0,.bool false,.int .i64 2,.int .i64 1,.slice ar125 1 cr125,.int .i64 2]),(15,.agg #[.int .i64 5,.int .u32 0,.int .u32 0,.bool false,.int .i64 0,.int .i64 (-2),.slice ar128 1 cr128,.int .i64 2]),(16,.agg #[.int .i64 5,.int .u32 0,.int .u32 0,.bool false,.int .i64 (-1),.int .i64 2,.slice ar131 1 cr131,.int .i64 2]),(17,.agg #[.int .i64 5,.int .u32 0,.int .u32 0,.bool false,.int .i64 32,.int .i64 (-1),.slice ar134 1 cr134,.int .i64 0]),(18,.agg #[.int .i64 5,.int .u32 0,.int .u32 0,.bool false,.int .i64 0,.int .i64 1,.slice ar139 2 cr139,.int .i64 2]),(19,.agg #[.int .i64 3,.int .u32 0,.int .u32 0,.bool false,.int .i64 0,.int .i64 0,.slice ar145 2 cr145,.int .i64 14]),(20,.agg #[.int .i64 3,.int .u32 0,.int .u32 0,.bool false,.int .i64 0,.int .i64 0,.slice ar150 2 cr150,.int .i64 12]),(21,.agg #[.int .i64 3,.int .u32 0,.int .u32 0,.bool false,.int .i64 0,.int .i64 1,.slice (some ⟨gF,0,none⟩) 40 40,.int .i64 2])].toList:=by
  rw [Array.toList_map]
  show [(0,b.tmps.getD 89 undef),(1,b.tmps.getD 91 undef),(2,b.tmps.getD 93 undef),(3,b.tmps.getD 95 undef),(4,b.tmps.getD 98 undef),(5,b.tmps.getD 101 undef),(6,b.tmps.getD 104 undef),(7,b.tmps.getD 106 undef),(8,b.tmps.getD 110 undef),(9,b.tmps.getD 112 undef),(10,b.tmps.getD 114 undef),(11,b.tmps.getD 116 undef),(12,b.tmps.getD 119 undef),(13,b.tmps.getD 122 undef),(14,b.tmps.getD 125 undef),(15,b.tmps.getD 128 undef),(16,b.tmps.getD 131 undef),(17,b.tmps.getD 134 undef),(18,b.tmps.getD 139 undef),(19,b.tmps.getD 145 undef),(20,b.tmps.getD 150 undef),(21,b.tmps.getD 153 undef)]=_
  rw [h89,h91,h93,h95,h98,h101,h104,h106,h110,h112,h114,h116,h119,h122,h125,h128,h131,h134,h139,h145,h150,h153]
 exact(congrArg (Instr.fill _ _) hp).trans (N5 gF ar110 cr110 ar119 cr119 ar122 cr122 ar125 cr125 ar128 cr128 ar131 cr131 ar134 cr134 ar139 cr139 ar145 cr145 ar150 cr150)
theorem Ff{gF:Nat}(i:Nat)(v:Value)(W W':World)(h:Z1 gF i v W)(ht:Ext W W'):Z1 gF i v W':=by
 unfold Z1 at h ⊢
 split at h <;> first | exact h | exact KP.ext h ht | exact trivial | (obtain⟨g,h1,h2⟩:=h;exact⟨g,h1,h2.ext ht⟩)
def Jt:Nat→Code→Code
 | n+1,.seq _ b=>Jt n b
 | _,c=>c
noncomputable def Kl:Code:=match Tryd.f3.body with
 | some c=>c
 | none=>.skip
noncomputable def N2:Code:=match Jt 6 Kl with
 | .seq (.seq _ b) _=>b
 | _=>.skip
theorem Hl(D:World)(ao:Option Addr):Qw D (.slice ao 0 0) []:=⟨⟨rfl,by simp [maxLen],ao,0,rfl,fun h=>by simp at h⟩,by simp [Xq]⟩
theorem N0{w:World}{g n cap sz:Nat}{xs:List Value}{more:Array Value}{t:TypeId}(h:w.heap[g]?=some (.cells (xs.toArray++more) t (0,0))) (hl:xs.length=n*sz) (hn:n≤maxLen):Rd w (.slice (some ⟨g,0,none⟩) n cap) n sz xs:=by
 refine⟨hl,hn,_,cap,rfl,fun _=>⟨g,0,rfl,(Array.getElem?_eq_some_iff.1 h).1,fun j hj=>?_⟩⟩
 rw [Nat.zero_add,cell_of_row w g j _ t _ h,Array.getElem?_append_left (by simp;omega),List.getElem?_toArray,List.getD_eq_getElem?_getD,List.getElem?_eq_getElem (by omega)]
 rfl
def G2:Wd:=List.replicate 32 (0,0)++[(1,1)]
theorem M2{W:World}{g h:Nat}(hg:HWd W g (zW 32)) (hh:HWd W h [(1,1)]):∃(g2 c2:Nat) (W':World),(Builtin.append_ #[39,39] 39 #[.slice (some ⟨g,0,none⟩) 32 32,.slice (some ⟨h,0,none⟩) 1 1]).run Tryd.prog W=.ok (.slice (some ⟨g2,0,none⟩) 33 c2) W'∧Ext W W'∧Qw W' (.slice (some ⟨g2,0,none⟩) 33 c2) G2:=by
 obtain⟨i,hi,hz,hs,hb⟩:=info_parts (@H8)
 have hr:=run_append_grow (P:=Tryd.prog) W 39 39 25 i _ Tryd.underlying39 hi hz ⟨g,0,none⟩ 32 32 (Y1 (zW 32)) (by rw [hs];kernel_rfl) (Hf hg) ⟨h,0,none⟩ 1 1 (Y1 [(1,1)]) (by rw [hs];rfl) (Hf hh) (by decide) (by decide) (growslice_fits (by omega) (by rw [hb];decide))
 refine⟨_,_,_,hr,((Q1.refl _ W).drew).alloc _,?_,by simp [Xq,G2]⟩
 have e:(Y1 (zW 32)).toArray++(Y1 [(1,1)]).toArray=(Y1 G2).toArray:=by kernel_rfl
 refine N0 (t:=25) (sz:=2) (xs:=Y1 G2) (more:=Builtin.zeroCells (Value.agg #[.int .u32 0,.int .u32 0]).cells (grownCap W (32+1) 32 25 - (32+1))) ?_ (by kernel_rfl) (by decide)
 rw [← e]
 exact Q9 rfl
def VA:Value:=.agg #[.int .i64 1,.int .u32 4,.int .u32 0,.bool false,.int .i64 0,.int .i64 0,.slice none 0 0]
def Xr:Nat→Value→World→Prop
 | 0,v,_=>v=.agg #[.int .i64 1,.int .u32 4,.int .u32 0,.bool false,.int .i64 0,.int .i64 0,.slice none 0 0]
 | 1,v,W=>∃ g,v=.slice (some ⟨g,0,none⟩) 32 32∧HWd W g (zW 32)
 | 2,v,_=>v=.agg #[.int .u32 1,.int .u32 1]
 | 3,v,W=>∃ g,v=.slice (some ⟨g,0,none⟩) 1 1∧HWd W g [(1,1)]
 | 4,v,W=>∃ g c,v=.slice (some ⟨g,0,none⟩) 33 c∧Qw W (.slice (some ⟨g,0,none⟩) 33 c) G2
 | 5,v,_=>∃ x,v=.tuple #[x,.int .i64 11]
 | 6,v,_=>∃ x,v=.tuple #[x,.int .i64 11]
 | 8,v,_=>v=.int .i64 11
 | 10,v,_=>v=.int .i64 11
 | _,_,_=>True
theorem HWd.ext{W W':World}{g:Nat}{ws:Wd}(h:HWd W g ws)(ht:Ext W W'):HWd W' g ws:=ht.keep h
theorem F4(i:Nat)(v:Value)(W W':World)(h:Xr i v W)(ht:Ext W W'):Xr i v W':=by
 unfold Xr at h ⊢
 split at h <;> first | exact h | exact trivial | (obtain⟨g,h1,h2⟩:=h;exact⟨g,h1,h2.ext ht⟩) | (obtain⟨g,c,h1,h2⟩:=h;exact⟨g,c,h1,h2.ext ht⟩)
theorem Fc(V0 V1:World)(gF b2 b11 gE:Nat)(a:Act)(hst:a.defers=[]∧(a.tmps.size=391∧a.tmps.getD 2 undef=.pointer (some ⟨b2,0,none⟩)∧a.tmps.getD 11 undef=.pointer (some ⟨b11,0,none⟩)∧a.tmps.getD 12 undef=.slice (some ⟨gE,0,none⟩) 0 0)) (EW:Hid (∀ D,Ext V1 D→Ext V0 D)) (TB:Hid (∀ D,Ext V1 D→Tab D)) (ZF:Hid (∀ D,Ext V1 D→D.heap[gF]?=some (.cells (Yt 40).toArray 27 (0,0)))) (B2:Hid (∀ D,Ext V1 D→D.heap[b2]?=some (.cells #[.int .i64 3,.int .u32 0,.int .u32 0,.bool false,.int .i64 0,.int .i64 0,.slice (some ⟨gF,0,none⟩) 40 40] 27 (0,0)))) (B11:Hid (∀ D,Ext V1 D→D.heap[b11]?=some (.cells #[.int .i64 6,.int .u32 0,.int .u32 0,.bool false,.int .i64 0,.int .i64 0,.slice none 0 0] 27 (0,0)))):(Jt 17 Kl).wp Tryd.prog (bodyPost Tryd.prog Tryd.f3 fun e w'=>e=.returned (.bool true)∧Ext V0 w') a V1:=by
 obtain⟨t,_⟩:=a
 obtain⟨hds,hsz,f2,f11,f12⟩:=hst
 subst hds
 obtain⟨u',hu⟩:=Zb hsz
 obtain⟨u,rfl⟩:∃ x,x=u':=⟨_,rfl⟩
 have hu':t=#[u 0,u 1,u 2,u 3,u 4,u 5,u 6,u 7,u 8,u 9,u 10,u 11,u 12,u 13,u 14,u 15,u 16,u 17,u 18,u 19,u 20,u 21,u 22,u 23,u 24,u 25,u 26,u 27,u 28,u 29,u 30,u 31,u 32,u 33,u 34,u 35,u 36,u 37,u 38,u 39,u 40,u 41,u 42,u 43,u 44,u 45,u 46,u 47,u 48,u 49,u 50,u 51,u 52,u 53,u 54,u 55,u 56,u 57,u 58,u 59,u 60,u 61,u 62,u 63,u 64,u 65,u 66,u 67,u 68,u 69,u 70,u 71,u 72,u 73,u 74,u 75,u 76,u 77,u 78,u 79,u 80,u 81,u 82,u 83,u 84,u 85,u 86,u 87,u 88,u 89,u 90,u 91,u 92,u 93,u 94,u 95,u 96,u 97,u 98,u 99,u 100,u 101,u 102,u 103,u 104,u 105,u 106,u 107,u 108,u 109,u 110,u 111,u 112,u 113,u 114,u 115,u 116,u 117,u 118,u 119,u 120,u 121,u 122,u 123,u 124,u 125,u 126,u 127,u 128,u 129,u 130,u 131,u 132,u 133,u 134,u 135,u 136,u 137,u 138,u 139,u 140,u 141,u 142,u 143,u 144,u 145,u 146,u 147,u 148,u 149,u 150,u 151,u 152,u 153,u 154,u 155,u 156,u 157,u 158,u 159,u 160,u 161,u 162,u 163,u 164,u 165,u 166,u 167,u 168,u 169,u 170,u 171,u 172,u 173,u 174,u 175,u 176,u 177,u 178,u 179,u 180,u 181,u 182,u 183,u 184,u 185,u 186,u 187,u 188,u 189,u 190,u 191,u 192,u 193,u 194,u 195,u 196,u 197,u 198,u 199,u 200,u 201,u 202,u 203,u 204,u 205,u 206,u 207,u 208,u 209,u 210,u 211,u 212,u 213,u 214,u 215,u 216,u 217,u 218,u 219,u 220,u 221,u 222,u 223,u 224,u 225,u 226,u 227,u 228,u 229,u 230,u 231,u 232,u 233,u 234,u 235,u 236,u 237,u 238,u 239,u 240,u 241,u 242,u 243,u 244,u 245,u 246,u 247,u 248,u 249,u 250,u 251,u 252,u 253,u 254,u 255,u 256,u 257,u 258,u 259,u 260,u 261,u 262,u 263,u 264,u 265,u 266,u 267,u 268,u 269,u 270,u 271,u 272,u 273,u 274,u 275,u 276,u 277,u 278,u 279,u 280,u 281,u 282,u 283,u 284,u 285,u 286,u 287,u 288,u 289,u 290,u 291,u 292,u 293,u 294,u 295,u 296,u 297,u 298,u 299,u 300,u 301,u 302,u 303,u 304,u 305,u 306,u 307,u 308,u 309,u 310,u 311,u 312,u 313,u 314,u 315,u 316,u 317,u 318,u 319,u 320,u 321,u 322,u 323,u 324,u 325,u 326,u 327,u 328,u 329,u 330,u 331,u 332,u 333,u 334,u 335,u 336,u 337,u 338,u 339,u 340,u 341,u 342,u 343,u 344,u 345,u 346,u 347,u 348,u 349,u 350,u 351,u 352,u 353,u 354,u 355,u 356,u 357,u 358,u 359,u 360,u 361,u 362,u 363,u 364,u 365,u 366,u 367,u 368,u 369,u 370,u 371,u 372,u 373,u 374,u 375,u 376,u 377,u 378,u 379,u 380,u 381,u 382,u 383,u 384,u 385,u 386,u 387,u 388,u 389,u 390]:=hu
 clear hu
 subst hu'
 change u 2=_ at f2
 change u 11=_ at f11
 change u 12=_ at f12
 rw [f2,f11,f12]
 clear f2 f11 f12 hsz
 conv=>arg 2;whnf
 have hmk:=Ls V1
 go_wp2_with fail
 obtain⟨V2,hV⟩:∃ D,V1.alloc (.cells (Y1 (zW 33)).toArray 25)=D:=⟨_,rfl⟩
 have hN:Ext V1 V2:=by rw [← hV];exact(Q1.refl _ V1).alloc _
 have hA0:V2.heap[V1.heap.size]?=some (.cells (Y1 (zW 33)).toArray 25 (0,0)):=by rw [← hV];exact Q9 rfl
 rw [hV]
 obtain⟨gz,hg⟩:∃ g,V1.heap.size=g:=⟨_,rfl⟩
 rw [hg] at hA0 ⊢
 replace EW:=Q0 EW hN
 replace TB:=Q0 TB hN
 replace ZF:=Q0 ZF hN
 replace B2:=Q0 B2 hN
 replace B11:=Q0 B11 hN
 clear hmk
 have WZ:Hid (∀ D,Ext V2 D→Qw D (.slice (some ⟨gz,0,none⟩) 33 33) (zW 33)):=Lib.hid (fun D hD=>K8 (ws:=zW 33) (hD.keep hA0) rfl (by decide) (by simp [Xq,zW]))
 clear hV hN hg hA0
 have hc:=Yo (p:=.node 9 0 0 false 0 0 []) (w:=V2) (Qd V2 9 (pl:=0) (mi:=0) false 0 0) (fun _ h=>h) (WZ.out _ (Q1.refl _ V2)) (TB.out _ (Q1.refl _ V2)) (-1)
 rw [show Qu (.node 9 0 0 false 0 0 []) (zW 33) (-1)=2 from Jv.1] at hc
 try unfold Q2 at hc
 have HC:=Lib.hid hc
 clear hc
 skip
 refine HC.out.mono ?_
 rintro e V3 ⟨x26,rfl,hO,hN⟩
 replace EW:=Q0 EW hN
 replace TB:=Q0 TB hN
 replace ZF:=Q0 ZF hN
 replace B2:=Q0 B2 hN
 replace B11:=Q0 B11 hN
 replace WZ:=Q0 WZ hN
 clear HC
 clear hO hN
 clear WZ
 go_upto_region 29 with (fail)
 refine Jo Xr (by kernel_rfl) (by kernel_rfl) (by kernel_rfl) ?hlt29 F4 ?hop29 ?hend29
 case hlt29=>exact fun i d h=>K6 (N:=391) (by kernel_rfl) h
 case hop29=>
  intro i o ho b W hE hold hdep
  have hi:i<11:=(Array.getElem?_eq_some_iff.1 ho).1
  have hi2:i=0∨i=1∨i=2∨i=3∨i=4∨i=5∨i=6∨i=7∨i=8∨i=9∨i=10:=by omega
  have hEV:Ext V3 W:=(Q1.refl (fun _=>False) V3).drew.trans hE
  rcases hi2 with rfl | rfl | rfl | rfl | rfl | rfl | rfl | rfl | rfl | rfl | rfl
  ·obtain rfl:=Option.some.inj ho
   refine⟨322,rfl,fun K hK=>wpOp_step (o:=_) rfl fun K' hK'=>?_⟩
   (try rw [if_pos (show Region.wanted _ _=true from rfl)])
   go_simp
   refine(Zv _).mono ?_
   rintro e W' ⟨rfl,hN⟩
   exact hK' _ _ (hK _ _ hN rfl)
  ·obtain rfl:=Option.some.inj ho
   have hmk:=H5 W
   refine⟨323,rfl,fun K hK=>wpOp_step (o:=_) rfl fun K' hK'=>?_⟩
   (try rw [if_pos (show Region.wanted _ _=true from rfl)])
   go_simp
   exact hK' _ _ (hK _ _ ((Q1.refl _ W).alloc _) ⟨_,rfl,Q9 rfl⟩)
  ·obtain rfl:=Option.some.inj ho
   refine⟨324,rfl,fun K hK=>wpOp_step (o:=_) rfl fun K' hK'=>?_⟩
   (try rw [if_pos (show Region.wanted _ _=true from rfl)])
   go_simp
   exact hK' _ _ (hK _ _ (Q1.refl _ W) rfl)
  ·obtain rfl:=Option.some.inj ho
   have h0:b.tmps.getD 324 undef=_:=hdep { on:=2,ground:=.data } (by simp) rfl 324 rfl
   rw [Array.getD_eq_getD_getElem?] at h0
   refine⟨325,rfl,fun K hK=>wpOp_step (o:=_) rfl fun K' hK'=>?_⟩
   (try rw [if_pos (show Region.wanted _ _=true from rfl)])
   go_simp
   exact hK' _ _ (hK _ _ ((Q1.refl _ W).alloc _) ⟨_,rfl,Q9 rfl⟩)
  ·obtain rfl:=Option.some.inj ho
   obtain⟨g,hg,hgw⟩:Xr 1 (b.tmps.getD 323 undef) W:=hdep { on:=1,ground:=.data } (by simp) rfl 323 rfl
   obtain⟨h,hh,hhw⟩:Xr 3 (b.tmps.getD 325 undef) W:=hdep { on:=3,ground:=.data } (by simp) rfl 325 rfl
   obtain⟨g2,c2,W',hrun,hEW,hwd⟩:=M2 hgw hhw
   refine⟨326,rfl,fun K hK=>wpOp_step (o:=_) rfl fun K' hK'=>?_⟩
   (try rw [if_pos (show Region.wanted _ _=true from rfl)])
   refine Nj rfl hg hh hrun ?_
   exact hK' _ _ (hK _ _ hEW ⟨_,_,rfl,hwd⟩)
  ·obtain rfl:=Option.some.inj ho
   have h0:b.tmps.getD 322 undef=_:=hdep { on:=0,ground:=.data } (by simp) rfl 322 rfl
   obtain⟨g,c,hg,hgw⟩:Xr 4 (b.tmps.getD 326 undef) W:=hdep { on:=4,ground:=.data } (by simp) rfl 326 rfl
   rw [Array.getD_eq_getD_getElem?] at h0 hg
   have hc:=U2 (p:=wV) (w:=W) (Qd W 1 (pl:=4) (mi:=0) false 0 0) (fun _ h=>h) hgw (TB.out W hEV) (-1)
   rw [show Qu wV G2 (-1)=11 from Jv.2.1] at hc
   try unfold Q2 at hc
   have HC:=Lib.hid hc
   clear hc
   refine⟨327,rfl,fun K hK=>wpOp_step (o:=_) rfl fun K' hK'=>?_⟩
   (try rw [if_pos (show Region.wanted _ _=true from rfl)])
   go_simp
   refine HC.out.mono ?_
   rintro e W' ⟨u,rfl,-,hN⟩
   exact hK' _ _ (hK _ _ hN ⟨u,rfl⟩)
  ·obtain rfl:=Option.some.inj ho
   obtain⟨x,hx⟩:Xr 5 (b.tmps.getD 327 undef) W:=hdep { on:=5,ground:=.data } (by simp) rfl 327 rfl
   rw [Array.getD_eq_getD_getElem?] at hx
   refine⟨321,rfl,fun K hK=>wpOp_step (o:=_) rfl fun K' hK'=>?_⟩
   (try rw [if_pos (show Region.wanted _ _=true from rfl)])
   go_simp
   exact hK' _ _ (hK _ _ (Q1.refl _ W) ⟨x,rfl⟩)
  ·obtain rfl:=Option.some.inj ho
   obtain⟨x,hx⟩:Xr 6 (b.tmps.getD 321 undef) W:=hdep { on:=6,ground:=.data } (by simp) rfl 321 rfl
   rw [Array.getD_eq_getD_getElem?] at hx
   refine⟨328,rfl,fun K hK=>wpOp_step (o:=_) rfl fun K' hK'=>?_⟩
   (try rw [if_pos (show Region.wanted _ _=true from rfl)])
   go_simp
   exact hK' _ _ (hK _ _ (Q1.refl _ W) trivial)
  ·obtain rfl:=Option.some.inj ho
   obtain⟨x,hx⟩:Xr 6 (b.tmps.getD 321 undef) W:=hdep { on:=6,ground:=.data } (by simp) rfl 321 rfl
   rw [Array.getD_eq_getD_getElem?] at hx
   refine⟨329,rfl,fun K hK=>wpOp_step (o:=_) rfl fun K' hK'=>?_⟩
   (try rw [if_pos (show Region.wanted _ _=true from rfl)])
   go_simp
   exact hK' _ _ (hK _ _ (Q1.refl _ W) rfl)
  ·obtain rfl:=Option.some.inj ho
   refine⟨28,rfl,fun K hK=>wpOp_step (o:=_) rfl fun K' hK'=>?_⟩
   (try rw [if_pos (show Region.wanted _ _=true from rfl)])
   go_simp
   exact hK' _ _ (hK _ _ (Q1.refl _ W) trivial)
  ·obtain rfl:=Option.some.inj ho
   have h0:b.tmps.getD 329 undef=_:=hdep { on:=8,ground:=.data } (by simp) rfl 329 rfl
   rw [Array.getD_eq_getD_getElem?] at h0
   refine⟨29,rfl,fun K hK=>wpOp_step (o:=_) rfl fun K' hK'=>?_⟩
   (try rw [if_pos (show Region.wanted _ _=true from rfl)])
   go_simp
   exact hK' _ _ (hK _ _ (Q1.refl _ W) rfl)
 intro vs V4 hE hR
 have hN:Ext V3 V4:=(Q1.refl (fun _=>False) V3).drew.trans hE
 have e10:vs 10=.int .i64 11:=hR 10 29 rfl
 refine W4 (l:=[(0,322),(1,323),(2,324),(3,325),(4,326),(5,327),(6,321),(7,328),(8,329),(9,28),(10,29)]) (by kernel_rfl) ?_
 simp only [Kx,List.foldl_cons,List.foldl_nil,pq]
 rw [e10]
 clear hR e10 hE
 generalize vs 0=z0,vs 1=z1,vs 2=z2,vs 3=z3,vs 4=z4,vs 5=z5,vs 6=z6,vs 7=z7,vs 8=z8,vs 9=z9
 replace EW:=Q0 EW hN
 replace TB:=Q0 TB hN
 replace ZF:=Q0 ZF hN
 replace B2:=Q0 B2 hN
 replace B11:=Q0 B11 hN
 clear hN
 go_wp2_with fail
 refine(Zv _).mono ?_
 rintro e V5 ⟨rfl,hN⟩
 replace EW:=Q0 EW hN
 replace TB:=Q0 TB hN
 replace ZF:=Q0 ZF hN
 replace B2:=Q0 B2 hN
 replace B11:=Q0 B11 hN
 clear hN
 go_wp2_with fail
 obtain⟨V6,hV⟩:∃ D,V5.alloc (.cells #[.int .u32 1,.int .u32 1] 25)=D:=⟨_,rfl⟩
 have hN:Ext V5 V6:=by rw [← hV];exact(Q1.refl _ V5).alloc _
 have hA0:V6.heap[V5.heap.size]?=some (.cells #[.int .u32 1,.int .u32 1] 25 (0,0)):=by rw [← hV];exact Q9 rfl
 rw [hV]
 obtain⟨gs,hg⟩:∃ g,V5.heap.size=g:=⟨_,rfl⟩
 rw [hg] at hA0 ⊢
 replace EW:=Q0 EW hN
 replace TB:=Q0 TB hN
 replace ZF:=Q0 ZF hN
 replace B2:=Q0 B2 hN
 replace B11:=Q0 B11 hN
 have WS:Hid (∀ D,Ext V6 D→Qw D (.slice (some ⟨gs,0,none⟩) 1 1) [(1,1)]):=Lib.hid (fun D hD=>K8 (ws:=[(1,1)]) (hD.keep hA0) rfl (by decide) (by simp [Xq]))
 clear hV hN hg hA0
 have hc:=Vn (p:=wV) (w:=V6) (Qd V6 1 (pl:=4) (mi:=0) false 0 0) (fun _ h=>h) (WS.out _ (Q1.refl _ V6)) (TB.out _ (Q1.refl _ V6))
 rw [Jv.2.2.1] at hc
 obtain⟨bm,hbm⟩:∃ b,Hp wV [(1,1)]=b:=⟨_,rfl⟩
 rw [hbm] at hc
 try unfold Q2 at hc
 have HC:=Lib.hid hc
 clear hc hbm
 skip
 refine(HC.out).mono ?_
 rintro e V7 ⟨rfl,hN⟩
 replace EW:=Q0 EW hN
 replace TB:=Q0 TB hN
 replace ZF:=Q0 ZF hN
 replace B2:=Q0 B2 hN
 replace B11:=Q0 B11 hN
 replace WS:=Q0 WS hN
 clear HC hN
 clear WS
 go_wp2_with fail
 refine(Zv _).mono ?_
 rintro e V8 ⟨rfl,hN⟩
 replace EW:=Q0 EW hN
 replace TB:=Q0 TB hN
 replace ZF:=Q0 ZF hN
 replace B2:=Q0 B2 hN
 replace B11:=Q0 B11 hN
 clear hN
 have hc:=Hq (p:=wV) (w:=V8) (Qd V8 1 (pl:=4) (mi:=0) false 0 0) (fun _ h=>h) (Hl V8 (some ⟨gE,0,none⟩)) (TB.out _ (Q1.refl _ V8)) 1
 rw [Jv.2.2.2.1] at hc
 try unfold Q2 at hc
 have HC:=Lib.hid hc
 clear hc
 go_wp2_with fail
 refine(HC.out).mono ?_
 rintro e V9 ⟨⟨x31,y31,ok31,rfl,-⟩,hN⟩
 replace EW:=Q0 EW hN
 replace TB:=Q0 TB hN
 replace ZF:=Q0 ZF hN
 replace B2:=Q0 B2 hN
 replace B11:=Q0 B11 hN
 clear HC hN
 go_wp2_with fail
 refine(Zv _).mono ?_
 rintro e V10 ⟨rfl,hN⟩
 replace EW:=Q0 EW hN
 replace TB:=Q0 TB hN
 replace ZF:=Q0 ZF hN
 replace B2:=Q0 B2 hN
 replace B11:=Q0 B11 hN
 clear hN
 have hc:=Yo (p:=wV) (w:=V10) (Qd V10 1 (pl:=4) (mi:=0) false 0 0) (fun _ h=>h) (Hl V10 (some ⟨gE,0,none⟩)) (TB.out _ (Q1.refl _ V10)) (-1)
 rw [Jv.2.2.2.2] at hc
 try unfold Q2 at hc
 have HC:=Lib.hid hc
 clear hc
 go_wp2_with fail
 refine HC.out.mono ?_
 rintro e V11 ⟨x36,rfl,hO,hN⟩
 replace EW:=Q0 EW hN
 replace TB:=Q0 TB hN
 replace ZF:=Q0 ZF hN
 replace B2:=Q0 B2 hN
 replace B11:=Q0 B11 hN
 clear HC
 clear hO hN
 have hc:=X7 (p:=.node 6 0 0 false 0 0 []) (w:=V11) (Qd V11 6 (pl:=0) (mi:=0) false 0 0) (fun _ h=>h) (TB.out _ (Q1.refl _ V11))
 rw [Jz.1] at hc
 try unfold Q2 at hc
 have HC:=Lib.hid hc
 clear hc
 go_wp2_with (refine Q7 (by rfl) 27 (.tmp 11) rfl b11 rfl _ _ _ _ (B11.out _ (Q1.refl _ V11)) Tryd.underlying27 rfl (Tryd.patSize _ rfl) ?_)
 refine(HC.out).mono ?_
 rintro e V12 ⟨rfl,hN⟩
 replace EW:=Q0 EW hN
 replace TB:=Q0 TB hN
 replace ZF:=Q0 ZF hN
 replace B2:=Q0 B2 hN
 replace B11:=Q0 B11 hN
 clear HC hN
 clear B11
 have hc:=X7 (p:=.node 4 0 0 false 0 0 []) (w:=V12) (Qd V12 4 (pl:=0) (mi:=0) false 0 0) (fun _ h=>h) (TB.out _ (Q1.refl _ V12))
 rw [Jz.2.1] at hc
 try unfold Q2 at hc
 have HC:=Lib.hid hc
 clear hc
 go_wp2_with fail
 refine(HC.out).mono ?_
 rintro e V13 ⟨rfl,hN⟩
 replace EW:=Q0 EW hN
 replace TB:=Q0 TB hN
 replace ZF:=Q0 ZF hN
 replace B2:=Q0 B2 hN
 clear HC hN
 go_wp2_with fail
 refine(Yf _ _ _ _).mono ?_
 rintro e V14 ⟨rfl,hN⟩
 replace EW:=Q0 EW hN
 replace TB:=Q0 TB hN
 replace ZF:=Q0 ZF hN
 replace B2:=Q0 B2 hN
 clear hN
 have hc:=X7 (p:=.node 3 0 0 false 0 0 []) (w:=V14) (Qd V14 3 (pl:=0) (mi:=0) false 0 0) (fun _ h=>h) (TB.out _ (Q1.refl _ V14))
 rw [Jz.2.2.1] at hc
 try unfold Q2 at hc
 have HC:=Lib.hid hc
 clear hc
 go_wp2_with fail
 refine(HC.out).mono ?_
 rintro e V15 ⟨rfl,hN⟩
 replace EW:=Q0 EW hN
 replace TB:=Q0 TB hN
 replace ZF:=Q0 ZF hN
 replace B2:=Q0 B2 hN
 clear HC hN
 have hc:=X7 (p:=X0) (w:=V15) (J7 (ZF.out _ (Q1.refl _ V15))) (fun _ h=>h) (TB.out _ (Q1.refl _ V15))
 rw [Jz.2.2.2] at hc
 try unfold Q2 at hc
 have HC:=Lib.hid hc
 clear hc
 go_wp2_with (refine Q7 (by rfl) 27 (.tmp 2) rfl b2 rfl _ _ _ _ (B2.out _ (Q1.refl _ V15)) Tryd.underlying27 rfl (Tryd.patSize _ rfl) ?_)
 refine(HC.out).mono ?_
 rintro e V16 ⟨rfl,hN⟩
 replace EW:=Q0 EW hN
 replace TB:=Q0 TB hN
 replace ZF:=Q0 ZF hN
 replace B2:=Q0 B2 hN
 clear HC hN
 clear B2 ZF
 go_wp2_with fail
 refine(Du _ (TB.out _ (Q1.refl _ V16))).mono ?_
 rintro e V17 ⟨rfl,hN⟩
 replace EW:=Q0 EW hN
 replace TB:=Q0 TB hN
 clear hN
 have HEND:=EW
 clear EW TB
 go_wp2
 go_ret
 exact⟨rfl,HEND.out _ (Q1.refl _ V17)⟩
theorem Li(V0 V1:World)(gF b2 g4:Nat)(kk:Int)(pl mi:Nat)(nt:Bool)(mn mx:Int)(ao:Option Addr)(N cap:Nat)(a:Act)(hst:a.defers=[]∧(a.tmps.size=391∧a.tmps.getD 2 undef=.pointer (some ⟨b2,0,none⟩)∧a.tmps.getD 4 undef=.pointer (some ⟨g4,0,none⟩))) (EW:Hid (∀ D,Ext V1 D→Ext V0 D)) (TB:Hid (∀ D,Ext V1 D→Tab D)) (ZF:Hid (∀ D,Ext V1 D→D.heap[gF]?=some (.cells (Yt 40).toArray 27 (0,0)))) (B2:Hid (∀ D,Ext V1 D→D.heap[b2]?=some (.cells #[.int .i64 3,.int .u32 0,.int .u32 0,.bool false,.int .i64 0,.int .i64 0,.slice (some ⟨gF,0,none⟩) 40 40] 27 (0,0)))) (B4:Hid (∀ D,Ext V1 D→D.heap[g4]?=some (.cells #[.int .i64 kk,.int .u32 pl,.int .u32 mi,.bool nt,.int .i64 mn,.int .i64 mx,.slice ao N cap] 27 (0,0)))) (PD:Hid (∀ D,Ext V1 D→Qz D (Zj 39) [.int .i64 kk,.int .u32 pl,.int .u32 mi,.bool nt,.int .i64 mn,.int .i64 mx,.slice ao N cap])):(Jt 7 Kl).wp Tryd.prog (bodyPost Tryd.prog Tryd.f3 fun e w'=>e=.returned (.bool true)∧Ext V0 w') a V1:=by
 obtain⟨t,_⟩:=a
 obtain⟨hds,hsz,f2,f4⟩:=hst
 subst hds
 obtain⟨u',hu⟩:=Zb hsz
 obtain⟨u,rfl⟩:∃ x,x=u':=⟨_,rfl⟩
 have hu':t=#[u 0,u 1,u 2,u 3,u 4,u 5,u 6,u 7,u 8,u 9,u 10,u 11,u 12,u 13,u 14,u 15,u 16,u 17,u 18,u 19,u 20,u 21,u 22,u 23,u 24,u 25,u 26,u 27,u 28,u 29,u 30,u 31,u 32,u 33,u 34,u 35,u 36,u 37,u 38,u 39,u 40,u 41,u 42,u 43,u 44,u 45,u 46,u 47,u 48,u 49,u 50,u 51,u 52,u 53,u 54,u 55,u 56,u 57,u 58,u 59,u 60,u 61,u 62,u 63,u 64,u 65,u 66,u 67,u 68,u 69,u 70,u 71,u 72,u 73,u 74,u 75,u 76,u 77,u 78,u 79,u 80,u 81,u 82,u 83,u 84,u 85,u 86,u 87,u 88,u 89,u 90,u 91,u 92,u 93,u 94,u 95,u 96,u 97,u 98,u 99,u 100,u 101,u 102,u 103,u 104,u 105,u 106,u 107,u 108,u 109,u 110,u 111,u 112,u 113,u 114,u 115,u 116,u 117,u 118,u 119,u 120,u 121,u 122,u 123,u 124,u 125,u 126,u 127,u 128,u 129,u 130,u 131,u 132,u 133,u 134,u 135,u 136,u 137,u 138,u 139,u 140,u 141,u 142,u 143,u 144,u 145,u 146,u 147,u 148,u 149,u 150,u 151,u 152,u 153,u 154,u 155,u 156,u 157,u 158,u 159,u 160,u 161,u 162,u 163,u 164,u 165,u 166,u 167,u 168,u 169,u 170,u 171,u 172,u 173,u 174,u 175,u 176,u 177,u 178,u 179,u 180,u 181,u 182,u 183,u 184,u 185,u 186,u 187,u 188,u 189,u 190,u 191,u 192,u 193,u 194,u 195,u 196,u 197,u 198,u 199,u 200,u 201,u 202,u 203,u 204,u 205,u 206,u 207,u 208,u 209,u 210,u 211,u 212,u 213,u 214,u 215,u 216,u 217,u 218,u 219,u 220,u 221,u 222,u 223,u 224,u 225,u 226,u 227,u 228,u 229,u 230,u 231,u 232,u 233,u 234,u 235,u 236,u 237,u 238,u 239,u 240,u 241,u 242,u 243,u 244,u 245,u 246,u 247,u 248,u 249,u 250,u 251,u 252,u 253,u 254,u 255,u 256,u 257,u 258,u 259,u 260,u 261,u 262,u 263,u 264,u 265,u 266,u 267,u 268,u 269,u 270,u 271,u 272,u 273,u 274,u 275,u 276,u 277,u 278,u 279,u 280,u 281,u 282,u 283,u 284,u 285,u 286,u 287,u 288,u 289,u 290,u 291,u 292,u 293,u 294,u 295,u 296,u 297,u 298,u 299,u 300,u 301,u 302,u 303,u 304,u 305,u 306,u 307,u 308,u 309,u 310,u 311,u 312,u 313,u 314,u 315,u 316,u 317,u 318,u 319,u 320,u 321,u 322,u 323,u 324,u 325,u 326,u 327,u 328,u 329,u 330,u 331,u 332,u 333,u 334,u 335,u 336,u 337,u 338,u 339,u 340,u 341,u 342,u 343,u 344,u 345,u 346,u 347,u 348,u 349,u 350,u 351,u 352,u 353,u 354,u 355,u 356,u 357,u 358,u 359,u 360,u 361,u 362,u 363,u 364,u 365,u 366,u 367,u 368,u 369,u 370,u 371,u 372,u 373,u 374,u 375,u 376,u 377,u 378,u 379,u 380,u 381,u 382,u 383,u 384,u 385,u 386,u 387,u 388,u 389,u 390]:=hu
 clear hu
 subst hu'
 change u 2=_ at f2
 change u 4=_ at f4
 rw [f2,f4]
 clear f2 f4 hsz
 conv=>arg 2;whnf
 go_upto_region 18 with (fail)
 obtain⟨V2,hV⟩:∃ D,(V1.alloc (.cells #[.int .i64 2,.int .u32 0,.int .u32 0,.bool false,.int .i64 0,.int .i64 0,.slice none 0 0] 27)).alloc (.cells #[.int .i64 6,.int .u32 0,.int .u32 0,.bool false,.int .i64 0,.int .i64 0,.slice none 0 0] 27)=D:=⟨_,rfl⟩
 have hN:Ext V1 V2:=by rw [← hV];exact((Q1.refl _ V1).alloc _).alloc _
 have hA0:V2.heap[V1.heap.size]?=some (.cells #[.int .i64 2,.int .u32 0,.int .u32 0,.bool false,.int .i64 0,.int .i64 0,.slice none 0 0] 27 (0,0)):=by rw [← hV];exact Qs (Q9 rfl)
 have hA1:V2.heap[V1.heap.size+1]?=some (.cells #[.int .i64 6,.int .u32 0,.int .u32 0,.bool false,.int .i64 0,.int .i64 0,.slice none 0 0] 27 (0,0)):=by rw [← hV];exact Q9 (by simp)
 try simp only [Nat.add_assoc,Nat.reduceAdd]
 rw [hV]
 obtain⟨b10,hg⟩:∃ g,V1.heap.size=g:=⟨_,rfl⟩
 rw [hg] at hA0 hA1 ⊢
 replace EW:=Q0 EW hN
 replace TB:=Q0 TB hN
 replace ZF:=Q0 ZF hN
 replace B2:=Q0 B2 hN
 replace B4:=Q0 B4 hN
 replace PD:=Q0 PD hN
 have B10:Hid (∀ D,Ext V2 D→D.heap[b10]?=some (.cells #[.int .i64 2,.int .u32 0,.int .u32 0,.bool false,.int .i64 0,.int .i64 0,.slice none 0 0] 27 (0,0))):=Lib.hid (fun D hD=>hD.keep hA0)
 have B11:Hid (∀ D,Ext V2 D→D.heap[b10+1]?=some (.cells #[.int .i64 6,.int .u32 0,.int .u32 0,.bool false,.int .i64 0,.int .i64 0,.slice none 0 0] 27 (0,0))):=Lib.hid (fun D hD=>hD.keep hA1)
 clear hV hN hg hA0 hA1
 go_upto_region 19 with (fail)
 obtain⟨V3,hV⟩:∃ D,V2.alloc (.cells #[] 25)=D:=⟨_,rfl⟩
 have hN:Ext V2 V3:=by rw [← hV];exact(Q1.refl _ V2).alloc _
 have hA0:V3.heap[V2.heap.size]?=some (.cells #[] 25 (0,0)):=by rw [← hV];exact Q9 rfl
 rw [hV]
 obtain⟨gE,hg⟩:∃ g,V2.heap.size=g:=⟨_,rfl⟩
 rw [hg] at hA0 ⊢
 replace EW:=Q0 EW hN
 replace TB:=Q0 TB hN
 replace ZF:=Q0 ZF hN
 replace B2:=Q0 B2 hN
 replace B4:=Q0 B4 hN
 replace PD:=Q0 PD hN
 replace B10:=Q0 B10 hN
 replace B11:=Q0 B11 hN
 clear hV hN hg hA0
 go_wp2_with (first | (refine Q7 (by rfl) 27 (.tmp 10) rfl b10 rfl _ _ _ _ (B10.out _ (Q1.refl _ V3)) Tryd.underlying27 rfl (Tryd.patSize _ rfl) ?_) | (refine Q7 (by rfl) 27 (.tmp 11) rfl (b10+1) rfl _ _ _ _ (B11.out _ (Q1.refl _ V3)) Tryd.underlying27 rfl (Tryd.patSize _ rfl) ?_))
 obtain⟨V4,hV⟩:∃ D,V3.alloc (.cells #[.int .i64 2,.int .u32 0,.int .u32 0,.bool false,.int .i64 0,.int .i64 0,.slice none 0 0,.int .i64 6,.int .u32 0,.int .u32 0,.bool false,.int .i64 0,.int .i64 0,.slice none 0 0] 27)=D:=⟨_,rfl⟩
 have hN:Ext V3 V4:=by rw [← hV];exact(Q1.refl _ V3).alloc _
 have hA0:V4.heap[V3.heap.size]?=some (.cells #[.int .i64 2,.int .u32 0,.int .u32 0,.bool false,.int .i64 0,.int .i64 0,.slice none 0 0,.int .i64 6,.int .u32 0,.int .u32 0,.bool false,.int .i64 0,.int .i64 0,.slice none 0 0] 27 (0,0)):=by rw [← hV];exact Q9 rfl
 rw [hV]
 obtain⟨gB1,hg⟩:∃ g,V3.heap.size=g:=⟨_,rfl⟩
 rw [hg] at hA0 ⊢
 replace EW:=Q0 EW hN
 replace TB:=Q0 TB hN
 replace ZF:=Q0 ZF hN
 replace B2:=Q0 B2 hN
 replace B4:=Q0 B4 hN
 replace PD:=Q0 PD hN
 replace B10:=Q0 B10 hN
 replace B11:=Q0 B11 hN
 have PB:Hid (∀ D,Ext V4 D→Qz D pBE (Q2 3 0 0 false 0 0 (some ⟨gB1,0,none⟩) 2 2)):=Lib.hid (fun D hD=>J4 (hD.keep hA0) (Qd D 2 false 0 0) (Qd D 6 false 0 0) 3 0 0)
 clear hV hN hg hA0
 skip
 refine(Yf _ _ _ _).mono ?_
 rintro e V5 ⟨rfl,hN⟩
 replace EW:=Q0 EW hN
 replace TB:=Q0 TB hN
 replace ZF:=Q0 ZF hN
 replace B2:=Q0 B2 hN
 replace B4:=Q0 B4 hN
 replace PD:=Q0 PD hN
 replace B10:=Q0 B10 hN
 replace B11:=Q0 B11 hN
 replace PB:=Q0 PB hN
 clear hN
 have hc:=Yo (p:=pBE) (w:=V5) (PB.out _ (Q1.refl _ V5)) (fun _ h=>h) (Hl V5 (some ⟨gE,0,none⟩)) (TB.out _ (Q1.refl _ V5)) 0
 rw [H0.1,H0.2.1] at hc
 try unfold Q2 at hc
 have HC:=Lib.hid hc
 clear hc
 go_wp2_with fail
 refine HC.out.mono ?_
 rintro e V6 ⟨x13,rfl,hO,hN⟩
 replace EW:=Q0 EW hN
 replace TB:=Q0 TB hN
 replace ZF:=Q0 ZF hN
 replace B2:=Q0 B2 hN
 replace B4:=Q0 B4 hN
 replace PD:=Q0 PD hN
 replace B10:=Q0 B10 hN
 replace B11:=Q0 B11 hN
 replace PB:=Q0 PB hN
 clear HC
 have hR:=Rd.of_own hO
 obtain⟨a13,c13,rfl⟩:=Zc hO
 simp only [List.length_cons,List.length_nil,Nat.zero_add] at hR ⊢
 have R13:Hid (∀ D,Ext V6 D→Rd D (.slice a13 1 c13) 1 1 (Zl [0])):=Lib.hid (fun D hD=>hR.ext hD)
 clear hR
 clear hO hN
 clear PB
 go_wp2_with (first | (refine Q7 (by rfl) 27 (.tmp 10) rfl b10 rfl _ _ _ _ (B10.out _ (Q1.refl _ V6)) Tryd.underlying27 rfl (Tryd.patSize _ rfl) ?_) | (refine Q7 (by rfl) 27 (.tmp 11) rfl (b10+1) rfl _ _ _ _ (B11.out _ (Q1.refl _ V6)) Tryd.underlying27 rfl (Tryd.patSize _ rfl) ?_))
 obtain⟨V7,hV⟩:∃ D,V6.alloc (.cells #[.int .i64 2,.int .u32 0,.int .u32 0,.bool false,.int .i64 0,.int .i64 0,.slice none 0 0,.int .i64 6,.int .u32 0,.int .u32 0,.bool false,.int .i64 0,.int .i64 0,.slice none 0 0] 27)=D:=⟨_,rfl⟩
 have hN:Ext V6 V7:=by rw [← hV];exact(Q1.refl _ V6).alloc _
 have hA0:V7.heap[V6.heap.size]?=some (.cells #[.int .i64 2,.int .u32 0,.int .u32 0,.bool false,.int .i64 0,.int .i64 0,.slice none 0 0,.int .i64 6,.int .u32 0,.int .u32 0,.bool false,.int .i64 0,.int .i64 0,.slice none 0 0] 27 (0,0)):=by rw [← hV];exact Q9 rfl
 rw [hV]
 obtain⟨gB2,hg⟩:∃ g,V6.heap.size=g:=⟨_,rfl⟩
 rw [hg] at hA0 ⊢
 replace EW:=Q0 EW hN
 replace TB:=Q0 TB hN
 replace ZF:=Q0 ZF hN
 replace B2:=Q0 B2 hN
 replace B4:=Q0 B4 hN
 replace PD:=Q0 PD hN
 replace B10:=Q0 B10 hN
 replace B11:=Q0 B11 hN
 replace R13:=Q0 R13 hN
 have PB:Hid (∀ D,Ext V7 D→Qz D pBE (Q2 3 0 0 false 0 0 (some ⟨gB2,0,none⟩) 2 2)):=Lib.hid (fun D hD=>J4 (hD.keep hA0) (Qd D 2 false 0 0) (Qd D 6 false 0 0) 3 0 0)
 clear hV hN hg hA0
 skip
 refine(Yf _ _ _ _).mono ?_
 rintro e V8 ⟨rfl,hN⟩
 replace EW:=Q0 EW hN
 replace TB:=Q0 TB hN
 replace ZF:=Q0 ZF hN
 replace B2:=Q0 B2 hN
 replace B4:=Q0 B4 hN
 replace PD:=Q0 PD hN
 replace B10:=Q0 B10 hN
 replace B11:=Q0 B11 hN
 replace R13:=Q0 R13 hN
 replace PB:=Q0 PB hN
 clear hN
 go_wp2_with fail
 refine(Vi _).mono ?_
 rintro e V9 ⟨rfl,hN⟩
 replace EW:=Q0 EW hN
 replace TB:=Q0 TB hN
 replace ZF:=Q0 ZF hN
 replace B2:=Q0 B2 hN
 replace B4:=Q0 B4 hN
 replace PD:=Q0 PD hN
 replace B10:=Q0 B10 hN
 replace B11:=Q0 B11 hN
 replace R13:=Q0 R13 hN
 replace PB:=Q0 PB hN
 clear hN
 go_wp2_with fail
 obtain⟨V10,hV⟩:∃ D,V9.alloc (.cells #[.int .u32 2,.int .u32 5] 25)=D:=⟨_,rfl⟩
 have hN:Ext V9 V10:=by rw [← hV];exact(Q1.refl _ V9).alloc _
 have hA0:V10.heap[V9.heap.size]?=some (.cells #[.int .u32 2,.int .u32 5] 25 (0,0)):=by rw [← hV];exact Q9 rfl
 rw [hV]
 obtain⟨gp,hg⟩:∃ g,V9.heap.size=g:=⟨_,rfl⟩
 rw [hg] at hA0 ⊢
 replace EW:=Q0 EW hN
 replace TB:=Q0 TB hN
 replace ZF:=Q0 ZF hN
 replace B2:=Q0 B2 hN
 replace B4:=Q0 B4 hN
 replace PD:=Q0 PD hN
 replace B10:=Q0 B10 hN
 replace B11:=Q0 B11 hN
 replace R13:=Q0 R13 hN
 replace PB:=Q0 PB hN
 have WP:Hid (∀ D,Ext V10 D→Qw D (.slice (some ⟨gp,0,none⟩) 1 1) [(2,5)]):=Lib.hid (fun D hD=>K8 (ws:=[(2,5)]) (hD.keep hA0) rfl (by decide) (by simp [Xq]))
 clear hV hN hg hA0
 have hc:=Yo (p:=pBE) (w:=V10) (PB.out _ (Q1.refl _ V10)) (fun _ h=>h) (WP.out _ (Q1.refl _ V10)) (TB.out _ (Q1.refl _ V10)) 0
 rw [H0.2.2.1,H0.2.2.2] at hc
 try unfold Q2 at hc
 have HC:=Lib.hid hc
 clear hc
 skip
 refine HC.out.mono ?_
 rintro e V11 ⟨x15,rfl,hO,hN⟩
 replace EW:=Q0 EW hN
 replace TB:=Q0 TB hN
 replace ZF:=Q0 ZF hN
 replace B2:=Q0 B2 hN
 replace B4:=Q0 B4 hN
 replace PD:=Q0 PD hN
 replace B10:=Q0 B10 hN
 replace B11:=Q0 B11 hN
 replace R13:=Q0 R13 hN
 replace PB:=Q0 PB hN
 replace WP:=Q0 WP hN
 clear HC
 have hR:=Rd.of_own hO
 obtain⟨a15,c15,rfl⟩:=Zc hO
 simp only [List.length_nil] at hR ⊢
 have R15:Hid (∀ D,Ext V11 D→Rd D (.slice a15 0 c15) 0 1 (Zl [])):=Lib.hid (fun D hD=>hR.ext hD)
 clear hR
 clear hO hN
 clear PB WP B10 R15
 have hmk:=H5 V11
 go_upto_region 22 with (fail)
 obtain⟨V12,hV⟩:∃ D,V11.alloc (.cells (Y1 (zW 32)).toArray 25)=D:=⟨_,rfl⟩
 have hN:Ext V11 V12:=by rw [← hV];exact(Q1.refl _ V11).alloc _
 have hA0:V12.heap[V11.heap.size]?=some (.cells (Y1 (zW 32)).toArray 25 (0,0)):=by rw [← hV];exact Q9 rfl
 rw [hV]
 obtain⟨gl,hg⟩:∃ g,V11.heap.size=g:=⟨_,rfl⟩
 rw [hg] at hA0 ⊢
 replace EW:=Q0 EW hN
 replace TB:=Q0 TB hN
 replace ZF:=Q0 ZF hN
 replace B2:=Q0 B2 hN
 replace B4:=Q0 B4 hN
 replace PD:=Q0 PD hN
 replace B11:=Q0 B11 hN
 replace R13:=Q0 R13 hN
 clear hmk
 have WL:Hid (∀ D,Ext V12 D→Qw D (.slice (some ⟨gl,0,none⟩) 32 32) Z8):=Lib.hid (fun D hD=>K8 (ws:=Z8) (hD.keep hA0) rfl (by decide) (by simp [Xq,Z8]))
 clear hV hN hg hA0
 go_wp2_with fail
 refine(Xd (Qd V12 1 (pl:=0) (mi:=0) false 0 0) 32 32).mono ?_
 rintro e V13 ⟨ao22,cap22,rfl,hp22,hN⟩
 replace EW:=Q0 EW hN
 replace TB:=Q0 TB hN
 replace ZF:=Q0 ZF hN
 replace B2:=Q0 B2 hN
 replace B4:=Q0 B4 hN
 replace PD:=Q0 PD hN
 replace B11:=Q0 B11 hN
 replace R13:=Q0 R13 hN
 replace WL:=Q0 WL hN
 have HP22:=Lib.hid hp22
 clear hN hp22
 have hc:=Yo (p:=Z0 Xn 32 32) (w:=V13) HP22.out (fun _ h=>h) (WL.out _ (Q1.refl _ V13)) (TB.out _ (Q1.refl _ V13)) 0
 rw [Gz.1,Nw] at hc
 try unfold Q2 at hc
 have HC:=Lib.hid hc
 clear hc
 go_wp2_with fail
 refine HC.out.mono ?_
 rintro e V14 ⟨x18,rfl,hO,hN⟩
 replace EW:=Q0 EW hN
 replace TB:=Q0 TB hN
 replace ZF:=Q0 ZF hN
 replace B2:=Q0 B2 hN
 replace B4:=Q0 B4 hN
 replace PD:=Q0 PD hN
 replace B11:=Q0 B11 hN
 replace R13:=Q0 R13 hN
 replace WL:=Q0 WL hN
 clear HC
 have hR:=Rd.of_own hO
 obtain⟨a18,c18,rfl⟩:=Zc hO
 simp only [List.length_cons,List.length_nil,Nat.zero_add] at hR ⊢
 have R18:Hid (∀ D,Ext V14 D→Rd D (.slice a18 1 c18) 1 1 (Zl [32])):=Lib.hid (fun D hD=>hR.ext hD)
 clear hR
 clear hO hN
 clear HP22
 go_wp2_with fail
 refine(Xd (Qd V14 1 (pl:=0) (mi:=0) false 0 0) 0 31).mono ?_
 rintro e V15 ⟨ao23,cap23,rfl,hp23,hN⟩
 replace EW:=Q0 EW hN
 replace TB:=Q0 TB hN
 replace ZF:=Q0 ZF hN
 replace B2:=Q0 B2 hN
 replace B4:=Q0 B4 hN
 replace PD:=Q0 PD hN
 replace B11:=Q0 B11 hN
 replace R13:=Q0 R13 hN
 replace WL:=Q0 WL hN
 replace R18:=Q0 R18 hN
 have HP23:=Lib.hid hp23
 clear hN hp23
 have hc:=U2 (p:=Z0 Xn 0 31) (w:=V15) HP23.out (fun _ h=>h) (WL.out _ (Q1.refl _ V15)) (TB.out _ (Q1.refl _ V15)) 32
 rw [Gz.2,Nu] at hc
 try unfold Q2 at hc
 have HC:=Lib.hid hc
 clear hc
 go_wp2_with fail
 refine HC.out.mono ?_
 rintro e V16 ⟨x20,rfl,hO,hN⟩
 replace EW:=Q0 EW hN
 replace TB:=Q0 TB hN
 replace ZF:=Q0 ZF hN
 replace B2:=Q0 B2 hN
 replace B4:=Q0 B4 hN
 replace PD:=Q0 PD hN
 replace B11:=Q0 B11 hN
 replace R13:=Q0 R13 hN
 replace WL:=Q0 WL hN
 replace R18:=Q0 R18 hN
 clear HC
 have hR:=Rd.of_own hO
 obtain⟨a20,c20,rfl⟩:=Zc hO
 simp only [List.length_map,List.length_range] at hR ⊢
 obtain⟨_,_,hq,_,hl⟩:=Rd.int (l:=(List.range 32).map (·+1)) hR
 cases hq
 obtain⟨g20,o20,rfl,hcell⟩:=hl 0 (by decide)
 clear hl
 simp only [Nat.add_zero,List.getElem_map,List.getElem_range,Nat.zero_add] at hcell
 have C20:Hid (∀ D,Ext V16 D→D.cell? ⟨g20,o20,none⟩=some (.int .i64 1)):=Lib.hid (fun D hD=>hD.cell_some hcell id)
 clear hcell
 clear hR
 clear hO hN
 clear HP23
 have hc:=Yo (p:=Zj 39) (w:=V16) (PD.out _ (Q1.refl _ V16)) (fun _ h=>h) (WL.out _ (Q1.refl _ V16)) (TB.out _ (Q1.refl _ V16)) 5
 rw [Dg.1,Ny] at hc
 try unfold Q2 at hc
 have HC:=Lib.hid hc
 clear hc
 go_wp2_with (refine Q7 (by rfl) 27 (.tmp 4) rfl g4 rfl _ _ _ _ (B4.out _ (Q1.refl _ V16)) Tryd.underlying27 rfl (Tryd.patSize _ rfl) ?_)
 refine HC.out.mono ?_
 rintro e V17 ⟨x22,rfl,hO,hN⟩
 replace EW:=Q0 EW hN
 replace TB:=Q0 TB hN
 replace ZF:=Q0 ZF hN
 replace B2:=Q0 B2 hN
 replace B4:=Q0 B4 hN
 replace PD:=Q0 PD hN
 replace B11:=Q0 B11 hN
 replace R13:=Q0 R13 hN
 replace WL:=Q0 WL hN
 replace R18:=Q0 R18 hN
 replace C20:=Q0 C20 hN
 clear HC
 have hR:=Rd.of_own hO
 obtain⟨a22,c22,rfl⟩:=Zc hO
 simp only [List.length_cons,List.length_nil,Nat.zero_add] at hR ⊢
 have R22:Hid (∀ D,Ext V17 D→Rd D (.slice a22 1 c22) 1 1 (Zl [5])):=Lib.hid (fun D hD=>hR.ext hD)
 clear hR
 clear hO hN
 clear PD B4
 have hc:=Yo (p:=.node 1 0 0 true 0 0 []) (w:=V17) (Qd V17 1 (pl:=0) (mi:=0) true 0 0) (fun _ h=>h) (WL.out _ (Q1.refl _ V17)) (TB.out _ (Q1.refl _ V17)) 0
 rw [Fw.1,Fw.2] at hc
 try unfold Q2 at hc
 have HC:=Lib.hid hc
 clear hc
 go_wp2_with fail
 refine HC.out.mono ?_
 rintro e V18 ⟨x24,rfl,hO,hN⟩
 replace EW:=Q0 EW hN
 replace TB:=Q0 TB hN
 replace ZF:=Q0 ZF hN
 replace B2:=Q0 B2 hN
 replace B11:=Q0 B11 hN
 replace R13:=Q0 R13 hN
 replace WL:=Q0 WL hN
 replace R18:=Q0 R18 hN
 replace C20:=Q0 C20 hN
 replace R22:=Q0 R22 hN
 clear HC
 have hR:=Rd.of_own hO
 obtain⟨a24,c24,rfl⟩:=Zc hO
 simp only [List.length_nil] at hR ⊢
 have R24:Hid (∀ D,Ext V18 D→Rd D (.slice a24 0 c24) 0 1 (Zl [])):=Lib.hid (fun D hD=>hR.ext hD)
 clear hR
 clear hO hN
 clear WL R24
 go_wp2_with fail
 obtain⟨V19,hV⟩:∃ D,V18.alloc (.cells #[.int .i64 0] 3)=D:=⟨_,rfl⟩
 have hN:Ext V18 V19:=by rw [← hV];exact(Q1.refl _ V18).alloc _
 have hA0:V19.heap[V18.heap.size]?=some (.cells #[.int .i64 0] 3 (0,0)):=by rw [← hV];exact Q9 rfl
 rw [hV]
 obtain⟨gi1,hg⟩:∃ g,V18.heap.size=g:=⟨_,rfl⟩
 rw [hg] at hA0 ⊢
 replace EW:=Q0 EW hN
 replace TB:=Q0 TB hN
 replace ZF:=Q0 ZF hN
 replace B2:=Q0 B2 hN
 replace B11:=Q0 B11 hN
 replace R13:=Q0 R13 hN
 replace R18:=Q0 R18 hN
 replace C20:=Q0 C20 hN
 replace R22:=Q0 R22 hN
 have hc:=X2 (l:=[0]) (m:=[0]) (R13.out _ (Q1.refl _ V19)) (Yd (cap:=1) (xs:=Zl [0]) hA0 rfl (by decide))
 rw [decide_eq_true rfl] at hc
 have HC:=Lib.hid hc
 clear hc
 clear hV hN hg hA0
 skip
 refine(HC.out).mono ?_
 rintro e V20 ⟨rfl,hN⟩
 replace EW:=Q0 EW hN
 replace TB:=Q0 TB hN
 replace ZF:=Q0 ZF hN
 replace B2:=Q0 B2 hN
 replace B11:=Q0 B11 hN
 replace R13:=Q0 R13 hN
 replace R18:=Q0 R18 hN
 replace C20:=Q0 C20 hN
 replace R22:=Q0 R22 hN
 clear HC hN
 clear R13
 go_wp2_with fail
 obtain⟨V21,hV⟩:∃ D,V20.alloc (.cells #[.int .i64 32] 3)=D:=⟨_,rfl⟩
 have hN:Ext V20 V21:=by rw [← hV];exact(Q1.refl _ V20).alloc _
 have hA0:V21.heap[V20.heap.size]?=some (.cells #[.int .i64 32] 3 (0,0)):=by rw [← hV];exact Q9 rfl
 rw [hV]
 obtain⟨gi2,hg⟩:∃ g,V20.heap.size=g:=⟨_,rfl⟩
 rw [hg] at hA0 ⊢
 replace EW:=Q0 EW hN
 replace TB:=Q0 TB hN
 replace ZF:=Q0 ZF hN
 replace B2:=Q0 B2 hN
 replace B11:=Q0 B11 hN
 replace R18:=Q0 R18 hN
 replace C20:=Q0 C20 hN
 replace R22:=Q0 R22 hN
 have hc:=X2 (l:=[32]) (m:=[32]) (R18.out _ (Q1.refl _ V21)) (Yd (cap:=1) (xs:=Zl [32]) hA0 rfl (by decide))
 rw [decide_eq_true rfl] at hc
 have HC:=Lib.hid hc
 clear hc
 clear hV hN hg hA0
 skip
 refine(HC.out).mono ?_
 rintro e V22 ⟨rfl,hN⟩
 replace EW:=Q0 EW hN
 replace TB:=Q0 TB hN
 replace ZF:=Q0 ZF hN
 replace B2:=Q0 B2 hN
 replace B11:=Q0 B11 hN
 replace R18:=Q0 R18 hN
 replace C20:=Q0 C20 hN
 replace R22:=Q0 R22 hN
 clear HC hN
 clear R18
 have hc1:=C20.out _ (Q1.refl _ V22)
 go_wp2_with fail
 obtain⟨V23,hV⟩:∃ D,V22.alloc (.cells #[.int .i64 5] 3)=D:=⟨_,rfl⟩
 have hN:Ext V22 V23:=by rw [← hV];exact(Q1.refl _ V22).alloc _
 have hA0:V23.heap[V22.heap.size]?=some (.cells #[.int .i64 5] 3 (0,0)):=by rw [← hV];exact Q9 rfl
 rw [hV]
 obtain⟨gi3,hg⟩:∃ g,V22.heap.size=g:=⟨_,rfl⟩
 rw [hg] at hA0 ⊢
 replace EW:=Q0 EW hN
 replace TB:=Q0 TB hN
 replace ZF:=Q0 ZF hN
 replace B2:=Q0 B2 hN
 replace B11:=Q0 B11 hN
 replace C20:=Q0 C20 hN
 replace R22:=Q0 R22 hN
 have hc:=X2 (l:=[5]) (m:=[5]) (R22.out _ (Q1.refl _ V23)) (Yd (cap:=1) (xs:=Zl [5]) hA0 rfl (by decide))
 rw [decide_eq_true rfl] at hc
 have HC:=Lib.hid hc
 clear hc
 clear hV hN hg hA0
 skip
 refine(HC.out).mono ?_
 rintro e V24 ⟨rfl,hN⟩
 replace EW:=Q0 EW hN
 replace TB:=Q0 TB hN
 replace ZF:=Q0 ZF hN
 replace B2:=Q0 B2 hN
 replace B11:=Q0 B11 hN
 replace C20:=Q0 C20 hN
 replace R22:=Q0 R22 hN
 clear HC hN
 clear R22
 clear hc1
 clear C20
 rename_i K2 hK2 K1 hK1 K0 hK0
 have HK2:=Lib.hid hK2
 clear hK2
 go_wp2_with fail
 exact HK2.out _ _ (Fc V0 V24 gF b2 (b10+1) gE _ ⟨by rfl,by rfl,by rfl,by rfl,by rfl⟩ EW TB ZF B2 B11)
end Go.Proofs.YtbmbdoanammlgaaDoor
