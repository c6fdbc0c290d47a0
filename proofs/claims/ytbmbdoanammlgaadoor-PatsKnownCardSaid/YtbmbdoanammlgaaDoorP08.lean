/- Patterns of one's own: -/
import Derived.Test.YtbmbdoanammlgaaDoorP03
namespace Go.Ab
open Go.RowKit
def Qo(xs:List Value)(j:Nat):List Value:=(xs.drop (j*7)).take 7
theorem Jf{xs:List Value}{j i:Nat}(a:i<7):(Qo xs j)[i]?=xs[j*7+i]?:=by
 unfold Qo;rw [List.getElem?_take_of_lt a,List.getElem?_drop]
theorem Do{xs:List Value}{j i:Nat}{v:Value}(h:(Qo xs j)[i]?=some v):xs[j*7+i]?=some v:=by
 have a:i<(Qo xs j).length:=(List.getElem?_eq_some_iff.1 h).1;have:i<7:=by unfold Qo at a;rw [List.length_take] at a;omega
 rw [<-Jf this];exact h
theorem W7{xs a:List Value}{n j:Nat}(c:xs.length=n*7)(b:j<n):Qo (xs++a) j=Qo xs j:=by
 unfold Qo;rw [List.drop_append_of_le_length oz,List.take_append_of_le_length (by rw [List.length_drop];omega)]
theorem F8{xs a:List Value}{n:Nat}(b:xs.length=n*7)(c:a.length=7):Qo (xs++a) n=a:=by
 unfold Qo;rw [<-b,List.drop_left,List.take_of_length_le oz]
theorem Un{xs:List Value}{n j:Nat}(b:xs.length=n*7)(a:j<n):(Qo xs j).length=7:=by
 unfold Qo;rw [List.length_take,List.length_drop];omega
theorem Uw{w:World}{base:Nat}{e:TypeId}{g n cap:Nat}{xs:List Value}(h:w.ownsRow base e 7 (.slice (some ⟨g,0,none⟩) n cap) n xs) (j:Nat):w.rangeAt g (j*7) (Qo xs j):=
 Uu h fun _ _ hv=>Do hv
theorem G9:∀(vs cur:List Value) (o i:Nat),o+vs.length<=cur.length->(Zf cur o vs)[i]?=if o<=i/\i<o+vs.length then vs[i - o]? else cur[i]?
 | [],cur,o,i,_=>by unfold Zf;rw [if_neg (by simp only [List.length_nil];omega)]
 | v::vs,cur,o,i,h=>by
  simp only [List.length_cons] at h ⊢;unfold Zf;rw [G9 vs _ _ _ (by rw [List.length_set];omega)];by_cases h1:o+1<=i/\i<o+1+vs.length
  ·rw [if_pos h1,if_pos oz,show i - o=(i - (o+1))+1 by omega,List.getElem?_cons_succ]
  ·rw [if_neg h1];by_cases h2:i=o
   ·subst h2;rw [if_pos oz,Nat.sub_self,List.getElem?_set_self oz];rfl
   ·rw [if_neg oz,List.getElem?_set_ne oz]
theorem J2{w:World}{base:Nat}{e:TypeId}{g n cap j:Nat}{xs cs:List Value}(h:w.ownsRow base e 7 (.slice (some ⟨g,0,none⟩) n cap) n xs) (r:j<n) (q:cs.length=7) :
  (w.setCells g (j*7) cs).ownsRow base e 7 (.slice (some ⟨g,0,none⟩) n cap) n (Zf xs (j*7) cs):=by
 have k:=h.1;rcases h.2 with ⟨a,_⟩ | ⟨p,o,b,a,c,i,l,d,f,m⟩
 ·cases a
 ·simp only [zV,Option.some.injEq,Addr.mk.injEq] at a;obtain⟨⟨rfl,_,_⟩,_,rfl⟩:=a;refine⟨by rw [Yv];exact k,.inr ⟨g,cap,_,rfl,c,Xy cs _ w b i,l,d,by simp [Yv,f],?_⟩⟩;rw [show ((Zf b.toList (j*7) cs).toArray.toList)=Zf b.toList (j*7) cs from rfl,Ud _ _ _ _ oz,m]
theorem Kj{xs cs:List Value}{n j k:Nat}(g:xs.length=n*7)(f:j<n)(e:cs.length=7):Qo (Zf xs (j*7) cs) k=if k=j then cs else Qo xs k:=by
 apply List.ext_getElem?;intro c;by_cases a:c<7
 ·rw [Jf a,G9 _ _ _ _ oz];by_cases b:k=j
  ·subst b;rw [if_pos oz,if_pos rfl];congr 1;omega
  ·rw [if_neg oz,if_neg b,Jf a]
 ·have d:(Qo (Zf xs (j*7) cs) k)[c]?=none:=by
   apply List.getElem?_eq_none;unfold Qo;rw [List.length_take];omega
  rw [d];symm
  apply List.getElem?_eq_none
  split
  ·omega
  ·unfold Qo;rw [List.length_take];omega
inductive Zn (T:TypeId) (w:World):Pat->List Value->(Nat->Prop)->Prop
 | mk {k:Int} {pl mi:Nat} {nt:Bool} {mn mx:Int} {l:List Pat} {ao:Option Addr} {cap:Nat} {K:Nat->Prop} (xs:List Value) (Ks:Nat->Nat->Prop)
   (hpl:pl<4294967296) (hmi:mi<4294967296)
   (hO:w.ownsRow 0 T 7 (.slice ao l.length cap) l.length xs)
   (hg:∀ g,(Value.slice ao l.length cap).ownBlock=some g->K g/\∀ j,j<l.length->¬ Ks j g)
   (hs:∀ j b,j<l.length->Ks j b->K b)
   (hd:∀ i j b,i<l.length->j<l.length->i≠j->Ks i b->¬ Ks j b)
   (hc:∀ j (h:j<l.length),Zn T w l[j] (Qo xs j) (Ks j)):Zn T w (.node k pl mi nt mn mx l) (Q2 k pl mi nt mn mx ao l.length cap) K
theorem Zn.keep{T:TypeId}{S:Nat->Prop}{A B:World}(d:Q1 S A B):∀ {p:Pat} {cs:List Value} {K:Nat->Prop},Zn T A p cs K->(∀ b,K b->¬ S b)->Zn T B p cs K:=by
 intro p cs K a
 induction a with
 | mk xs Ks hpl hmi hO hg hs hd hc ih=>
  intro c;exact .mk xs Ks hpl hmi (Zz hO d fun g hb=>c g (hg g hb).1) hg hs hd fun j a=>ih j a fun b hb=>c b (hs j b a hb)
theorem Zn.mono{T:TypeId}{w:World}{p:Pat}{cs:List Value}{K L:Nat->Prop}(h:Zn T w p cs K)(a:∀ b,K b->L b):Zn T w p cs L:=by
 cases h with
 | mk xs Ks hpl hmi hO hg hs hd hc=>exact .mk xs Ks hpl hmi hO (fun g hb=>⟨a g (hg g hb).1,(hg g hb).2⟩) (fun j b h1 h2=>a b (hs j b h1 h2)) hd hc
theorem Kt{w:World}{base:Nat}{e:TypeId}{sz:Nat}{ao:Option Addr}{n cap:Nat}{xs:List Value}(h:w.ownsRow base e sz (.slice ao n cap) n xs):n<=cap/\cap<=maxLen:=by
 rcases h.2 with ⟨a,_⟩ | ⟨_,_,_,a,_,_,b,c,_⟩
 ·simp only [zV] at a;simp [a.2.1,a.2.2]
 ·simp only [zV] at a;obtain⟨_,_,rfl⟩:=a;exact⟨b,c⟩
theorem H3{w:World}{base:Nat}{e:TypeId}{sz n cap:Nat}{ao:Option Addr}{xs:List Value}(h:w.ownsRow base e sz (.slice ao n cap) n xs) (b:0<n):∃ g,ao=some ⟨g,0,none⟩:=by
 rcases h.2 with ⟨a,_⟩ | ⟨g,_,_,a,_⟩
 ·simp only [zV] at a;omega
 ·cases a;exact⟨g,rfl⟩
theorem Zn.at{T:TypeId}{w:World}:∀ {p:Pat} {cs:List Value} {K:Nat->Prop},Zn T w p cs K->Qc K w p cs:=by
 intro p cs K c
 induction c with
 | @mk k pl mi nt mn mx l ao cap K xs Ks hpl hmi hO hg hs hd hc ih=>
  unfold Qc;obtain⟨d,e⟩:=Kt hO;refine⟨ao,cap,rfl,hpl,hmi,d,e,Qe.mk fun j hj=>?_⟩;obtain⟨a,rfl⟩:=H3 hO oz;refine⟨a,0,Qo xs j,rfl,(hg a rfl).1,(hO.lt a rfl).2,by rw [Nat.zero_add,Nat.zero_add];exact Uw hO j,Qc.mono (fun b hb=>hs j b hj hb) (ih j hj)⟩
end Go.Ab
namespace Go.Ab
open Go.RowKit
def Zd(T:TypeId)(W:World)(lo:Nat)(v:Value)(qs:List Pat)(xs:List Value):Prop:=
 W.ownsRow lo T 7 v qs.length xs∧∃ Ks:Nat→Nat→Prop,(∀ i (h:i<qs.length),Zn T W qs[i] (Qo xs i) (Ks i))∧(∀ i b,Ks i b→lo≤b∧b<W.heap.size∧v.ownBlock≠some b)∧(∀ i i' b,i≠i'→Ks i b→¬ Ks i' b)
theorem Zd.nil(T:TypeId)(W:World)(lo:Nat):Zd T W lo (.slice none 0 0) [] []:=
 ⟨World.ownsRow_nil _ _ _ _,fun _ _=>False,fun i h=>by simp at h,fun _ _ h=>h.elim,fun _ _ _ _ h=>h.elim⟩
theorem Zd.ext{T:TypeId}{A B:World}{lo:Nat}{v:Value}{qs:List Pat}{xs:List Value}(h:Zd T A lo v qs xs){S:Nat→Prop}(ht:Q1 S A B)(hS:∀ b,lo≤b→b<A.heap.size→¬ S b):Zd T B lo v qs xs:=by
 obtain⟨h1,Ks,h2,h3,h4⟩:=h
 refine⟨Zz h1 ht fun g hg=>hS g (h1.lt g hg).1 (h1.lt g hg).2,Ks,fun i hi=>(h2 i hi).keep ht fun b hb=>hS b (h3 i b hb).1 (h3 i b hb).2.1,fun i b hb=>?_,h4⟩
 obtain⟨q1,q2,q3⟩:=h3 i b hb
 exact⟨q1,Nat.lt_of_lt_of_le q2 ht.size,q3⟩
theorem Zd.own{T:TypeId}{W:World}{lo:Nat}{v:Value}{qs:List Pat}{xs:List Value}(h:Zd T W lo v qs xs):W.ownsRow lo T 7 v qs.length xs:=h.1
theorem Zd.push{T:TypeId}{W W2 W3:World}{lo m:Nat}{v v':Value}{qs:List Pat}{q:Pat}{xs cs:List Value}(h:Zd T W lo v qs xs)(hE:Ext W W2)(hm:W.heap.size≤m)
  (hq:Zn T W2 q cs (fun b=>m≤b∧b<W2.heap.size)) (hc:cs.length=7) (hlo:lo≤m)
  (hT:Q1 (fun b=>v.ownBlock=some b) W2 W3) (hO:W3.ownsRow lo T 7 v' (qs.length+1) (xs++cs)) (hB:v'.ownBlock=v.ownBlock∨∃ b,v'.ownBlock=some b∧W2.heap.size≤b):Zd T W3 lo v' (qs++[q]) (xs++cs):=by
 obtain⟨h1,Ks,h2,h3,h4⟩:=h
 have hvb:∀ b,v.ownBlock=some b→b<W.heap.size:=fun b hb=>(h1.lt b hb).2
 have hne:∀ b,b<W2.heap.size→v.ownBlock≠some b→v'.ownBlock≠some b:=fun b hb hn e=>by
  rcases hB with h | ⟨b',h,hh⟩
  ·exact hn (h ▸ e)
  ·rw [h] at e;cases e;omega
 have hsz:=hE.size
 have hsz3:=hT.size
 refine⟨by rw [List.length_append];exact hO,fun i b=>if i<qs.length then Ks i b else i=qs.length∧m≤b∧b<W2.heap.size,fun i hi=>?_,fun i b hb=>?_,fun i i' b hii hb hb'=>?_⟩
 ·rw [List.length_append,List.length_singleton] at hi
  by_cases hiq:i<qs.length
  ·rw [List.getElem_append_left hiq,W7 h1.1 hiq]
   have h5:=((h2 i hiq).keep hE fun _ _ h=>h).keep hT fun b hb e=>(h3 i b hb).2.2 e
   exact h5.mono fun b hb=>by simp only [if_pos hiq];exact hb
  ·have e:i=qs.length:=by omega
   subst e
   have e2:(qs++[q])[qs.length]=q:=by simp
   rw [e2,F8 h1.1 hc]
   have h5:=hq.keep hT fun b hb e=>by have:=hvb b e;omega
   exact h5.mono fun b hb=>by show (if qs.length<qs.length then _ else _);rw [if_neg (by omega)];exact⟨rfl,hb⟩
 ·by_cases hiq:i<qs.length
  ·simp only [if_pos hiq] at hb
   obtain⟨q1,q2,q3⟩:=h3 i b hb
   exact⟨q1,by omega,hne b (by omega) q3⟩
  ·simp only [if_neg hiq] at hb
   exact⟨by omega,by omega,hne b (by omega) fun e=>by have:=hvb b e;omega⟩
 ·by_cases hiq:i<qs.length
  ·simp only [if_pos hiq] at hb
   by_cases hiq':i'<qs.length
   ·simp only [if_pos hiq'] at hb'
    exact h4 i i' b hii hb hb'
   ·simp only [if_neg hiq'] at hb'
    have:=(h3 i b hb).2.1
    omega
  ·simp only [if_neg hiq] at hb
   by_cases hiq':i'<qs.length
   ·simp only [if_pos hiq'] at hb'
    have:=(h3 i' b hb').2.1
    omega
   ·simp only [if_neg hiq'] at hb'
    omega
theorem Zd.reverse{T:TypeId}{W W2:World}{lo:Nat}{v:Value}{qs:List Pat}{xs ys:List Value}(h:Zd T W lo v qs xs)(hT:Q1 (fun b=>v.ownBlock=some b) W W2) (hO:W2.ownsRow lo T 7 v qs.length ys)
  (hch:∀ k,k<qs.length→Qo ys k=Qo xs (qs.length - 1 - k)):Zd T W2 lo v qs.reverse ys:=by
 obtain⟨h1,Ks,h2,h3,h4⟩:=h
 refine⟨by rw [List.length_reverse];exact hO,fun i b=>i<qs.length∧Ks (qs.length - 1 - i) b,fun i hi=>?_,fun i b hb=>?_,fun i i' b hii hb hb'=>?_⟩
 ·rw [List.length_reverse] at hi
  rw [hch i hi]
  have e:qs.reverse[i]'(by rw [List.length_reverse];exact hi)=qs[qs.length - 1 - i]:=by rw [List.getElem_reverse]
  rw [e]
  exact((h2 (qs.length - 1 - i) (by omega)).keep hT fun b hb e=>(h3 _ b hb).2.2 e).mono fun b hb=>⟨hi,hb⟩
 ·obtain⟨q1,q2,q3⟩:=h3 _ b hb.2
  exact⟨q1,Nat.lt_of_lt_of_le q2 hT.size,q3⟩
 ·exact h4 _ _ b (by omega) hb.2 hb'.2
theorem Zd.node{T:TypeId}{W:World}{lo:Nat}{ao:Option Addr}{n cap:Nat}{qs:List Pat}{xs:List Value}(h:Zd T W lo (.slice ao n cap) qs xs) (hn:qs.length=n) (k:Int) {pl mi:Nat} (hpl:pl<4294967296) (hmi:mi<4294967296) (nt:Bool) (mn mx:Int) {lo':Nat} (hlo:lo'≤lo) :
  Zn T W (.node k pl mi nt mn mx qs) (Q2 k pl mi nt mn mx ao n cap) (fun b=>lo'≤b∧b<W.heap.size):=by
 subst hn
 obtain⟨h1,Ks,h2,h3,h4⟩:=h
 exact .mk xs Ks hpl hmi (H4 h1 (by omega)) (fun g hg=>⟨⟨Nat.le_trans hlo (h1.lt g hg).1,(h1.lt g hg).2⟩,fun j _ hk=>(h3 j g hk).2.2 hg⟩) (fun j b _ hk=>⟨Nat.le_trans hlo (h3 j b hk).1,(h3 j b hk).2.1⟩) (fun i j b _ _ hij hi=>h4 i j b hij hi) h2
theorem Zn.cells{T:TypeId}{w:World}{p:Pat}{cs:List Value}{K:Nat→Prop}(h:Zn T w p cs K):cs.length=7∧∀ v∈cs,v.oneCell'=true:=by
 cases h
 refine⟨rfl,fun v hv=>?_⟩
 simp only [Q2,List.mem_cons,List.not_mem_nil,or_false] at hv
 rcases hv with rfl | rfl | rfl | rfl | rfl | rfl | rfl <;> rfl
theorem Zd.one{T:TypeId}{W:World}{lo:Nat}{v:Value}{qs:List Pat}{xs:List Value}(h:Zd T W lo v qs xs):∀ u∈xs,u.oneCell'=true:=by
 obtain⟨h1,Ks,h2,h3,h4⟩:=h
 intro u hu
 obtain⟨i,hi,rfl⟩:=List.getElem_of_mem hu
 have hl:=h1.1
 have hi7:i / 7<qs.length:=by omega
 refine(h2 (i / 7) hi7).cells.2 _ ?_
 have e:(Qo xs (i / 7))[i % 7]?=xs[i]?:=by
  rw [Jf (by omega)];congr 1;omega
 rw [List.getElem?_eq_getElem hi] at e
 exact List.mem_of_getElem? e
end Go.Ab
