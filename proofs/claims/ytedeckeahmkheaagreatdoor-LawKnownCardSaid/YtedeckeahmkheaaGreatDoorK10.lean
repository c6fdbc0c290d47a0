/- Patterns of one's own: -/
import Derived.Test.YtedeckeahmkheaaGreatDoorK04
import Derived.Test.YtedeckeahmkheaaGreatDoorK05
namespace Go.Ab
open Go.RowKit
def Ux(xs:List Value)(j:Nat):List Value:=(xs.drop (j*7)).take 7
theorem Mm{xs:List Value}{j i:Nat}(a:i<7):(Ux xs j)[i]?=xs[j*7+i]?:=by
 unfold Ux;rw [List.getElem?_take_of_lt a,List.getElem?_drop]
theorem M5{xs:List Value}{j i:Nat}{v:Value}(h:(Ux xs j)[i]?=some v):xs[j*7+i]?=some v:=by
 have a:i<(Ux xs j).length:=(List.getElem?_eq_some_iff.1 h).1;have:i<7:=by unfold Ux at a;rw [List.length_take] at a;omega
 rw [<-Mm this];exact h
theorem Mf{w:World}{base:Nat}{e:TypeId}{g n cap:Nat}{xs:List Value}(h:w.ownsRow base e 7 (.slice (some ⟨g,0,none⟩) n cap) n xs) (j:Nat):w.rangeAt g (j*7) (Ux xs j):=
 Hg h fun _ _ hv=>M5 hv
inductive Xv (T:TypeId) (w:World):Pat->List Value->(Nat->Prop)->Prop
 | mk {k:Int} {pl mi:Nat} {nt:Bool} {mn mx:Int} {l:List Pat} {ao:Option Addr} {cap:Nat} {K:Nat->Prop} (xs:List Value) (Ks:Nat->Nat->Prop)
   (hpl:pl<4294967296) (hmi:mi<4294967296)
   (hO:w.ownsRow 0 T 7 (.slice ao l.length cap) l.length xs)
   (hg:∀ g,(Value.slice ao l.length cap).ownBlock=some g->K g/\∀ j,j<l.length->¬ Ks j g)
   (hs:∀ j b,j<l.length->Ks j b->K b)
   (hd:∀ i j b,i<l.length->j<l.length->i≠j->Ks i b->¬ Ks j b)
   (hc:∀ j (h:j<l.length),Xv T w l[j] (Ux xs j) (Ks j)):Xv T w (.node k pl mi nt mn mx l) (Qd k pl mi nt mn mx ao l.length cap) K
theorem Xv.keep{T:TypeId}{S:Nat->Prop}{A B:World}(d:Q0 S A B):∀ {p:Pat} {cs:List Value} {K:Nat->Prop},Xv T A p cs K->(∀ b,K b->¬ S b)->Xv T B p cs K:=by
 intro p cs K a
 induction a with
 | mk xs Ks hpl hmi hO hg hs hd hc ih=>
  intro c;exact .mk xs Ks hpl hmi (Qm hO d fun g hb=>c g (hg g hb).1) hg hs hd fun j a=>ih j a fun b hb=>c b (hs j b a hb)
theorem Xv.mono{T:TypeId}{w:World}{p:Pat}{cs:List Value}{K L:Nat->Prop}(h:Xv T w p cs K)(a:∀ b,K b->L b):Xv T w p cs L:=by
 cases h with
 | mk xs Ks hpl hmi hO hg hs hd hc=>exact .mk xs Ks hpl hmi hO (fun g hb=>⟨a g (hg g hb).1,(hg g hb).2⟩) (fun j b h1 h2=>a b (hs j b h1 h2)) hd hc
theorem Uk{w:World}{base:Nat}{e:TypeId}{sz:Nat}{ao:Option Addr}{n cap:Nat}{xs:List Value}(h:w.ownsRow base e sz (.slice ao n cap) n xs):n<=cap/\cap<=maxLen:=by
 rcases h.2 with ⟨a,_⟩ | ⟨_,_,_,a,_,_,b,c,_⟩
 ·simp only [zV] at a;simp [a.2.1,a.2.2]
 ·simp only [zV] at a;obtain⟨_,_,rfl⟩:=a;exact⟨b,c⟩
theorem J0{w:World}{base:Nat}{e:TypeId}{sz n cap:Nat}{ao:Option Addr}{xs:List Value}(h:w.ownsRow base e sz (.slice ao n cap) n xs) (b:0<n):∃ g,ao=some ⟨g,0,none⟩:=by
 rcases h.2 with ⟨a,_⟩ | ⟨g,_,_,a,_⟩
 ·simp only [zV] at a;omega
 ·cases a;exact⟨g,rfl⟩
theorem Xv.at{T:TypeId}{w:World}:∀ {p:Pat} {cs:List Value} {K:Nat->Prop},Xv T w p cs K->Qo K w p cs:=by
 intro p cs K c
 induction c with
 | @mk k pl mi nt mn mx l ao cap K xs Ks hpl hmi hO hg hs hd hc ih=>
  unfold Qo;obtain⟨d,e⟩:=Uk hO;refine⟨ao,cap,rfl,hpl,hmi,d,e,Qs.mk fun j hj=>?_⟩;obtain⟨a,rfl⟩:=J0 hO oz;refine⟨a,0,Ux xs j,rfl,(hg a rfl).1,(hO.lt a rfl).2,by rw [Nat.zero_add,Nat.zero_add];exact Mf hO j,Qo.mono (fun b hb=>hs j b hj hb) (ih j hj)⟩
end Go.Ab
namespace Go.Ab
open Go.RowKit
theorem Rw(b o j:Nat):(⟨b,o,none⟩:Addr).add j=⟨b,o+j,none⟩:=by
 unfold Addr.add;split
 ·rename_i a;subst a;rfl
 ·simp
theorem Hn:∀(ws:Wd) (a:Nat),Qj (ws.drop a)=(Qj ws).drop (a*2)
 | _,0=>rfl
 | [],a+1=>by simp [Qj]
 | s::ws,a+1=>by
  rw [List.drop_succ_cons,Hn ws a,J5,show (a+1)*2=a*2+1+1 by omega,List.drop_succ_cons,List.drop_succ_cons]
theorem Hc:∀(ws:Wd) (a:Nat),Qj (ws.take a)=(Qj ws).take (a*2)
 | _,0=>rfl
 | [],a+1=>by simp [Qj]
 | s::ws,a+1=>by
  rw [List.take_succ_cons,J5,Hc ws a,J5,show (a+1)*2=a*2+1+1 by omega,List.take_succ_cons,List.take_succ_cons]
theorem Q7.cut{w:World}{A:Option Addr}{c:Nat}{ws:Wd}(h:Q7 w (.slice A ws.length c) ws) {a b:Nat} (u:a<=b) (v:b<=ws.length) (x:ws.length<=c) :
  Q7 w (sliced A a b c 2) ((ws.drop a).take (b - a)):=by
 have d:((ws.drop a).take (b - a)).length=b - a:=by rw [List.length_take,List.length_drop];omega
 obtain⟨⟨r,t,p,q,f,k⟩,l⟩:=h;simp only [zV,true_and] at f;obtain⟨rfl,rfl⟩:=f;refine⟨⟨by rw [Ff],by omega,_,_,by unfold sliced;rw [d],fun h0=>?_⟩,fun s hs=>l s (List.mem_of_mem_drop (List.mem_of_mem_take hs))⟩;rw [d] at h0;obtain⟨e,g,rfl,o,m⟩:=k oz
 have i:∀ j,j<(b - a)*2->w.cell? ⟨e,g+a*2+j,none⟩=some ((Qj ((ws.drop a).take (b - a))).getD j undef):=fun j hj=>by
  rw [Nat.add_assoc,m (a*2+j) oz,Hc,Hn]
  congr 1
  rw [List.getD_eq_getElem?_getD,List.getD_eq_getElem?_getD,List.getElem?_take,if_pos hj,List.getElem?_drop]
 rw [d];by_cases n:c=a
 ·omega
 ·exact⟨e,g+a*2,by rw [if_neg n];simp [Rw],o,fun j hj=>i j hj⟩
theorem Dq{ws:Wd}{a b:Nat}(h:b=ws.length):(ws.drop a).take (b - a)=ws.drop a:=by
 subst h;rw [<-List.length_drop,List.take_length]
theorem take_zero{ws:Wd}(b:Nat):(ws.drop 0).take (b - 0)=ws.take b:=by simp
section
variable {P:Program} {t:TypeId} {size:Nat}
theorem Dc{A:Option Addr}{n c:Nat}(e:P.underlying t=some (.slice (P.elem t))) (d:∀ D,(sizeOf (P.elem t)).run P D=.ok size D) (a b:Nat) (f:a<=b) (g:b<=c) (D:World) :
  (Instr.slice t (.slice A n c) (some (.int .i64 (a:Int))) (some (.int .i64 (b:Int))) none).run P D=.ok (sliced A a b c size) D:=by
 rw [run_slice_lh D t A n c e .i64 .i64 (a:Int) (b:Int) oz oz oz,d];rfl
theorem L0{A:Option Addr}{n c:Nat}(d:P.underlying t=some (.slice (P.elem t))) (a:∀ D,(sizeOf (P.elem t)).run P D=.ok size D) (b:Nat) (e:b<=c) (D:World) :
  (Instr.slice t (.slice A n c) none (some (.int .i64 (b:Int))) none).run P D=.ok (sliced A 0 b c size) D:=by
 rw [run_slice_h D t A n c d .i64 (b:Int) oz oz,a];rfl
theorem L8{A:Option Addr}{n c:Nat}(d:P.underlying t=some (.slice (P.elem t))) (b:∀ D,(sizeOf (P.elem t)).run P D=.ok size D) (a:Nat) (e:a<=n) (D:World) :
  (Instr.slice t (.slice A n c) (some (.int .i64 (a:Int))) none none).run P D=.ok (sliced A a n c size) D:=by
 rw [run_slice_l D t A n c d .i64 (a:Int) oz oz,b];rfl
end
end Go.Ab
