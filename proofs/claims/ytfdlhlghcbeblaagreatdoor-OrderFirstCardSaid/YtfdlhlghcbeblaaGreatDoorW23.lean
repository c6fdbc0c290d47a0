/- What the laws' arguments read as: -/
import Derived.Test.YtfdlhlghcbeblaaGreatDoorW22
import Derived.Test.YtfdlhlghcbeblaaGreatDoorW12
import Derived.Deep.Fields
set_option maxRecDepth 100000
namespace Go.Proofs.YtfdlhlghcbeblaaGreatDoor
open Go.RowKit Go.Ab Go.ChangeShapes Go.WideShapes
section
variable {H:Type} {enc:TypeId × Value->H} {w:World} {base b0:Nat} {held:Bool} {r:Reach} {v:Value} {d:DataW H} {ps:List MemPlace} {spare:Nat->Bool}
theorem Gs:Tryz.prog.cellsOf 95=2:=by kernel_rfl
theorem Dh:Tryz.prog.cellsOf 98=7:=by kernel_rfl
theorem My:Tryz.prog.cellsOf 93=1:=by kernel_rfl
theorem Dl:Tryz.prog.cellsOf 3=1:=by kernel_rfl
theorem Cl:Tryz.prog.cellsOf 4=1:=by kernel_rfl
theorem Bp:Tryz.prog.cellsOf 96=1:=by kernel_rfl
theorem Mn{n:Int}(h:(Lit.int .u32 n).wf=true):∃ m:Nat,n=m/\m<4294967296:=by
 have:=bounds_u32 h;exact⟨n.toNat,by omega,by omega⟩
theorem Ny{i:Nat}{cs:List Value}{x:DataW H × List MemPlace}(h:DataW.trod enc Tryz.prog w base spare held i 95 cs=some x) :
  ∃ a b:Nat,cs=[.int .u32 (a:Int),.int .u32 (b:Int)]/\a<4294967296/\b<4294967296:=by
 obtain⟨q,r,p,_,g,e,f⟩:=trod_struct2 Tryz.underlying95 h;rw [Gs] at g
 match cs,g with
 | [c0,c1],_=>
  simp only [My] at e f;obtain⟨n,c,_,l⟩:=DataW.trod_int Tryz.underlying93 e;obtain⟨o,d,_,m⟩:=DataW.trod_int Tryz.underlying93 f;simp at c d;obtain⟨a,rfl,j⟩:=Mn l;obtain⟨b,rfl,k⟩:=Mn m;exact⟨a,b,by rw [c,d],j,k⟩
theorem Gi{a:Addr}{n:Nat}{cs:List Value}(i:0<n)(h:w.cells? base a n=some cs):a.spot=none/\a.block<w.heap.size/\cs.length=n/\w.rangeAt a.block a.off cs:=by
 obtain⟨_,g,d⟩:=World.cells?_some h;have b:=d 0 i;rw [List.getElem?_eq_getElem oz] at b;have c:a.spot=none:=World.cell?_spot (by simpa [Addr.add] using b);have f:a.block<w.heap.size:=by simpa [Addr.add] using Qa3 b
 refine⟨c,f,g,fun j u hj=>?_⟩;have l:=(List.getElem?_eq_some_iff.1 hj).1;have:=d j oz;rw [hj] at this;have e:a.add j=⟨a.block,a.off+j,none⟩:=by
  obtain⟨k,m,o⟩:=a;simp only at c;subst c;exact add_plain _ _ _
 rw [<-e];exact this
instance:Inhabited Pat:=⟨.node 0 0 0 false 0 0 []⟩
theorem Co:∀(fuel:Nat) {cs:List Value} {x:DataW H × List MemPlace},DataW.trod enc Tryz.prog w base (fun _=>true) held fuel 98 cs=some x ->
  ∃ p:Pat,Qr (fun g=>g<w.heap.size) w p cs:=by
 intro fuel
 induction fuel with
 | zero=>intro cs x b;simp [DataW.trod] at b
 | succ n ih=>
  intro cs x b;obtain⟨U,a7,b5,_,J,q,d⟩:=DataW.trod_struct Tryz.underlying98 b;obtain rfl:n=a7:=by omega
  rw [Dh] at J;have q:U.length=6:=q
  match U,q with
  | [y0,y1,y2,y3,y4,y5],_=>
  have k:DataW.trod enc Tryz.prog w base (fun _=>true) held n 3 ((cs.drop 0).take (Tryz.prog.cellsOf 3))=some y0:=d 0 _ rfl;have B:DataW.trod enc Tryz.prog w base (fun _=>true) held n 95 ((cs.drop 1).take (Tryz.prog.cellsOf 95))=some y1:=d 1 _ rfl;have C:DataW.trod enc Tryz.prog w base (fun _=>true) held n 4 ((cs.drop 3).take (Tryz.prog.cellsOf 4))=some y2:=d 2 _ rfl;have D:DataW.trod enc Tryz.prog w base (fun _=>true) held n 3 ((cs.drop 4).take (Tryz.prog.cellsOf 3))=some y3:=d 3 _ rfl;have E:DataW.trod enc Tryz.prog w base (fun _=>true) held n 3 ((cs.drop 5).take (Tryz.prog.cellsOf 3))=some y4:=d 4 _ rfl;have F:DataW.trod enc Tryz.prog w base (fun _=>true) held n 96 ((cs.drop 6).take (Tryz.prog.cellsOf 96))=some y5:=d 5 _ rfl;rw [Dl] at k D E;rw [Cl] at C;rw [Gs] at B;rw [Bp] at F
  match cs,J with
  | [c0,c1,c2,c3,c4,c5,c6],_=>
  obtain⟨K,u,_,_⟩:=DataW.trod_int Tryz.underlying3 k;obtain⟨s,f,i,G,I⟩:=Ny B;obtain⟨O,v,_⟩:=DataW.trod_bool Tryz.underlying4 C;obtain⟨M,y,_,_⟩:=DataW.trod_int Tryz.underlying3 D;obtain⟨N,z,_,_⟩:=DataW.trod_int Tryz.underlying3 E;simp at u i v y z;obtain⟨i,X⟩:=i;subst u i X v y z;rcases DataW.trod_slice Tryz.underlying96 F with ⟨b,_⟩ | ⟨a,l,V,b3,b7,a8,b6,b,_,_,a3,Z,b4,o,_,_⟩
  ·simp at b;subst b;refine⟨.node K s f O M N [],?_⟩;unfold Qr;exact⟨none,0,rfl,G,I,by simp,by simp [maxLen],by unfold Z5;trivial⟩
  ·simp at b;subst b;rw [Dh] at o;have a5:0<l->a.spot=none:=by
    intro k;have e:=o 0 k;rw [List.getElem?_eq_getElem oz] at e;obtain⟨t,r,L⟩:=Option.bind_eq_some_iff.1 e;obtain⟨R,_⟩:=Gi zd r
    simpa [Addr.add] using R
   have Y:∀ c,c<l->∃ p:Pat × List Value,a.spot=none/\a.block<w.heap.size/\w.rangeAt a.block (a.off+c*7) p.2/\Qr (fun g=>g<w.heap.size) w p.1 p.2:=by
    intro c a1;have e:=o c a1;rw [List.getElem?_eq_getElem oz] at e;obtain⟨t,r,L⟩:=Option.bind_eq_some_iff.1 e;obtain⟨R,S,b8,T⟩:=Gi zd r;have a6:=DataW.trod_le (show a8<=n by omega) L;obtain⟨p,a4⟩:=ih a6;have m:=a5 oz;have W:a.add (c*7)=⟨a.block,a.off+c*7,none⟩:=by
     obtain⟨f,a9,b2⟩:=a;simp only at m;subst m;exact add_plain _ _ _
    rw [W] at S T;exact⟨(p,t),m,S,T,a4⟩
   obtain⟨A,a0⟩:=Deep.choose_lt Y;refine⟨.node K s f O M N ((List.range l).map fun c=>(A c).1),?_⟩;unfold Qr;refine⟨some a,V,by simp [Qh],G,I,by simpa using a3,Z,Z5.mk fun j hj=>?_⟩;have a2:j<l:=by simpa using hj
   obtain⟨P,Q,b0,b1⟩:=a0 j a2;refine⟨a.block,a.off,(A j).2,?_,Q,Q,by rw [Nat.zero_add];exact b0,by simpa using b1⟩;obtain⟨f,a9,b2⟩:=a;simp only at P;subst P;rfl
end
end Go.Proofs.YtfdlhlghcbeblaaGreatDoor
namespace Go.Proofs.YtfdlhlghcbeblaaGreatDoor
open Go.RowKit Go.Ab Go.ChangeShapes Go.WideShapes
theorem P7(f:Nat->List Value)(sz:Nat):∀ n,(∀ i,i<n->(f i).length=sz)->((List.range n).flatMap f).length=n*sz
 | 0,_=>by simp
 | n+1,h=>by
  rw [List.range_succ,List.flatMap_append,List.length_append,P7 f sz n fun i hi=>h i oz];simp only [List.flatMap_cons,List.flatMap_nil,List.append_nil];rw [h n oz,Nat.add_mul,Nat.one_mul]
theorem Ca(f:Nat->List Value)(sz:Nat):∀ n,(∀ i,i<n->(f i).length=sz)->∀ i r,i<n->r<sz->((List.range n).flatMap f)[i*sz+r]?=(f i)[r]?
 | 0,_,i,r,h,_=>by omega
 | n+1,h,i,r,hi,hr=>by
  have hl:=P7 f sz n fun i hi=>h i oz;rw [List.range_succ,List.flatMap_append];by_cases hin:i<n
  ·have:i*sz+r<n*sz:=by
    have:=Nat.mul_le_mul_right sz (show i+1<=n by omega);rw [Nat.add_mul,Nat.one_mul] at this;omega
   rw [List.getElem?_append_left (by rw [hl];exact this)];exact Ca f sz n (fun i hi=>h i oz) i r hin hr
  ·obtain rfl:i=n:=by omega
   rw [List.getElem?_append_right (by rw [hl];omega),hl,show i*sz+r - i*sz=r by omega];simp
theorem Q9z{w:World}{g off a cap sz:Nat}(f:Nat->List Value)(m:0<sz)(c:∀ i,i<a->(f i).length=sz/\w.rangeAt g (off+i*sz) (f i)) (n:0<a->g<w.heap.size) (o:a<=maxLen) :
  Rd w (.slice (some ⟨g,off,none⟩) a cap) a sz ((List.range a).flatMap f):=by
 have p:=P7 f sz a fun i b=>(c i b).1;refine⟨p,o,_,_,rfl,fun h0=>⟨g,off,rfl,n h0,fun j hj=>?_⟩⟩;have b:j / sz<a:=(Nat.div_lt_iff_lt_mul m).2 hj;have d:j % sz<sz:=Nat.mod_lt _ m;have l:j / sz*sz+j % sz=j:=by rw [Nat.mul_comm];exact Nat.div_add_mod j sz
 have e:=Ca f sz a (fun i b=>(c i b).1) (j / sz) (j % sz) b d;rw [l] at e;have k:=(c _ b).2 (j % sz) _ (List.getElem?_eq_getElem (by rw [(c _ b).1];exact d));rw [Nat.add_assoc,l] at k;rw [k,List.getD_eq_getElem?_getD,e,List.getElem?_eq_getElem (by rw [(c _ b).1];exact d)];rfl
section
variable {H:Type} {enc:TypeId × Value->H} {w:World} {base b0:Nat} {held:Bool} {r:Reach} {v:Value} {d:DataW H} {ps:List MemPlace}
theorem N7:Tryz.prog.cellsOf 109=6:=by kernel_rfl
theorem N0:Tryz.prog.cellsOf 102=18:=by kernel_rfl
theorem Cz:Tryz.prog.cellsOf 100=1:=by kernel_rfl
theorem M2:Tryz.prog.cellsOf 99=1:=by kernel_rfl
theorem Ev:Tryz.prog.cellsOf 9=1:=by kernel_rfl
theorem Hs{α:Type} [Inhabited α] {t e:TypeId} {sz fuel:Nat} {c:Value} {x:DataW H × List MemPlace} (ht:Tryz.prog.underlying t=some (.slice e)) (hsz:Tryz.prog.cellsOf e=sz) (h0:0<sz) (cells:α->List Value) (ok:α->Prop)
  (hrow:∀ {n cs y},DataW.trod enc Tryz.prog w base (fun _=>true) held n e cs=some y->∃ p:α,cs=cells p/\ok p)
  (h:DataW.trod enc Tryz.prog w base (fun _=>true) held fuel t [c]=some x):∃ l:List α,Rd w c l.length sz (l.flatMap cells)/\(∀ p∈l,ok p)/\∃ vo vc,c=.slice vo l.length vc/\l.length<=vc:=by
 rcases DataW.trod_slice ht h with ⟨h,_⟩ | ⟨a,g,r,M,Q,P,O,h,_,_,u,G,N,o,_,_⟩
 ·simp at h;subst h;exact⟨[],⟨by simp,by simp [maxLen],none,0,rfl,fun h=>by simp at h⟩,fun p j=>by simp at j,none,0,rfl,Nat.le_refl _⟩
 ·simp at h;subst h;rw [hsz] at o;have I:0<g->a.spot=none:=by
   intro m;have k:=o 0 m;rw [List.getElem?_eq_getElem oz] at k;obtain⟨E,q,z⟩:=Option.bind_eq_some_iff.1 k;obtain⟨A,_⟩:=Gi h0 q
   simpa [Addr.add] using A
  have F:∀ b,b<g->∃ p:α,a.spot=none/\a.block<w.heap.size/\(cells p).length=sz/\w.rangeAt a.block (a.off+b*sz) (cells p)/\ok p:=by
   intro b d;have k:=o b d;rw [List.getElem?_eq_getElem oz] at k;obtain⟨E,q,z⟩:=Option.bind_eq_some_iff.1 k;obtain⟨A,B,L,C⟩:=Gi h0 q;obtain⟨p,rfl,j⟩:=hrow z;have f:=I oz;have e:a.add (b*sz)=⟨a.block,a.off+b*sz,none⟩:=by
    obtain⟨D,J,K⟩:=a;simp only at f;subst f;exact add_plain _ _ _
   rw [e] at B C;exact⟨p,f,B,L,C,j⟩
  obtain⟨s,i⟩:=Deep.choose_lt F;have v:g<=maxLen:=Nat.le_trans u G;refine⟨(List.range g).map s,?_,fun p j=>?_,some a,r,by rw [List.length_map,List.length_range],by rw [List.length_map,List.length_range];exact u⟩
  ·rw [List.length_map,List.length_range,List.flatMap_map];by_cases m:0<g
   ·have f:=(i 0 m).1;have e:a=⟨a.block,a.off,none⟩:=by obtain⟨D,J,K⟩:=a;simp only at f;subst f;rfl
    rw [e];exact Q9z (fun b=>cells (s b)) h0 (fun b d=>⟨(i b d).2.2.1,(i b d).2.2.2.1⟩) (fun _=>(i 0 m).2.1) v
   ·obtain rfl:g=0:=by omega
    exact⟨by simp,v,some a,r,rfl,fun h=>by omega⟩
  ·obtain⟨b,d,rfl⟩:=List.mem_map.1 j;exact(i b (List.mem_range.1 d)).2.2.2.2
theorem Q4u{α:Type} [Inhabited α] {t e:TypeId} {sz fuel:Nat} {c:Value} {x:DataW H × List MemPlace} (ht:Tryz.prog.underlying t=some (.slice e)) (hsz:Tryz.prog.cellsOf e=sz) (h0:0<sz) (cells:α->List Value) (ok:α->Prop)
  (hrow:∀ {n cs y},DataW.trod enc Tryz.prog w base (fun _=>true) held n e cs=some y->∃ p:α,cs=cells p/\ok p)
  (h:DataW.trod enc Tryz.prog w base (fun _=>true) held fuel t [c]=some x):∃ l:List α,Rd w c l.length sz (l.flatMap cells)/\∀ p∈l,ok p:=by
 obtain⟨l,a,b,_⟩:=Hs ht hsz h0 cells ok hrow h;exact⟨l,a,b⟩
theorem Fp{d:Nat}{c:Value}{x:DataW H × List MemPlace}(h:DataW.trod enc Tryz.prog w base (fun _=>true) held d 99 [c]=some x):∃(ws:Wd) (vo:Option Addr) (vc:Nat),c=.slice vo ws.length vc/\Qb w (.slice vo ws.length vc) ws/\ws.length<=vc:=by
 obtain⟨l,e,f,vo,vc,g,i⟩:=Hs (α:=Nat × Nat) Tryz.underlying99 Gs zd (fun s=>[Value.int .u32 (s.1:Int),Value.int .u32 (s.2:Int)]) (fun s=>s.1<4294967296/\s.2<4294967296)
  (fun h=>by obtain⟨a,b,m,j,k⟩:=Ny h;exact⟨(a,b),m,j,k⟩) h
 subst g;exact⟨l,vo,vc,rfl,⟨e,f⟩,i⟩
instance:Inhabited Yt:=⟨⟨0,0,(0,0),0,0⟩⟩
theorem Q90{v:Nat}{cs:List Value}{x:DataW H × List MemPlace}(h:DataW.trod enc Tryz.prog w base (fun _=>true) held v 109 cs=some x):∃ o:Yt,cs=Zs o/\Jl o:=by
 obtain⟨q,b,rfl,_,p,d,a⟩:=DataW.trod_struct Tryz.underlying109 h;rw [N7] at p;have d:q.length=5:=d
 match q,d with
 | [y0,y1,y2,y3,y4],_=>
 have j:DataW.trod enc Tryz.prog w base (fun _=>true) held b 3 ((cs.drop 0).take (Tryz.prog.cellsOf 3))=some y0:=a 0 _ rfl;have k:DataW.trod enc Tryz.prog w base (fun _=>true) held b 93 ((cs.drop 1).take (Tryz.prog.cellsOf 93))=some y1:=a 1 _ rfl;have l:DataW.trod enc Tryz.prog w base (fun _=>true) held b 95 ((cs.drop 2).take (Tryz.prog.cellsOf 95))=some y2:=a 2 _ rfl;have m:DataW.trod enc Tryz.prog w base (fun _=>true) held b 93 ((cs.drop 4).take (Tryz.prog.cellsOf 93))=some y3:=a 3 _ rfl;have n:DataW.trod enc Tryz.prog w base (fun _=>true) held b 3 ((cs.drop 5).take (Tryz.prog.cellsOf 3))=some y4:=a 4 _ rfl;rw [Dl] at j n;rw [My] at k m;rw [Gs] at l
 match cs,p with
 | [c0,c1,c2,c3,c4,c5],_=>
 obtain⟨C,e,_,_⟩:=DataW.trod_int Tryz.underlying3 j;obtain⟨I,f,_,F⟩:=DataW.trod_int Tryz.underlying93 k;obtain⟨r,s,c,y,z⟩:=Ny l;obtain⟨J,g,_,G⟩:=DataW.trod_int Tryz.underlying93 m;obtain⟨D,i,_,_⟩:=DataW.trod_int Tryz.underlying3 n;obtain⟨t,rfl,A⟩:=Mn F;obtain⟨E,rfl,B⟩:=Mn G;simp at e f c g i;obtain⟨c,u⟩:=c;subst e f c u g i;exact⟨⟨C,t,(r,s),E,D⟩,rfl,A,⟨y,z⟩,B⟩
end
end Go.Proofs.YtfdlhlghcbeblaaGreatDoor
namespace Go.Proofs.YtfdlhlghcbeblaaGreatDoor
open Go.RowKit Go.Ab Go.ChangeShapes Go.WideShapes
section
variable {H:Type} {enc:TypeId × Value->H} {w:World} {base b0:Nat} {held:Bool} {r:Reach} {v:Value} {d:DataW H} {ps:List MemPlace}
theorem Q7r{q:Nat}{cs:List Value}{x:DataW H × List MemPlace}(a:DataW.trod enc Tryz.prog w base (fun _=>true) held q 102 cs=some x):∃ p:Q5 × List Value,cs=p.2/\Zf w p.1 p.2:=by
 obtain⟨o,b,rfl,_,n,d,a⟩:=DataW.trod_struct Tryz.underlying102 a;rw [N0] at n;have d:o.length=6:=d
 match o,d with
 | [y0,y1,y2,y3,y4,y5],_=>
 have g:DataW.trod enc Tryz.prog w base (fun _=>true) held b 9 ((cs.drop 0).take (Tryz.prog.cellsOf 9))=some y0:=a 0 _ rfl;have i:DataW.trod enc Tryz.prog w base (fun _=>true) held b 98 ((cs.drop 1).take (Tryz.prog.cellsOf 98))=some y1:=a 1 _ rfl;have j:DataW.trod enc Tryz.prog w base (fun _=>true) held b 98 ((cs.drop 8).take (Tryz.prog.cellsOf 98))=some y2:=a 2 _ rfl;have k:DataW.trod enc Tryz.prog w base (fun _=>true) held b 99 ((cs.drop 15).take (Tryz.prog.cellsOf 99))=some y3:=a 3 _ rfl;have l:DataW.trod enc Tryz.prog w base (fun _=>true) held b 100 ((cs.drop 16).take (Tryz.prog.cellsOf 100))=some y4:=a 4 _ rfl;have m:DataW.trod enc Tryz.prog w base (fun _=>true) held b 3 ((cs.drop 17).take (Tryz.prog.cellsOf 3))=some y5:=a 5 _ rfl;rw [Ev] at g;rw [Dh] at i j;rw [M2] at k;rw [Cz] at l;rw [Dl] at m
 match cs,n with
 | [c0,c1,c2,c3,c4,c5,c6,c7,c8,c9,c10,c11,c12,c13,c14,c15,c16,c17],_=>
 obtain⟨D,e,_,v⟩:=DataW.trod_string Tryz.underlying9 g;obtain⟨z,r⟩:=Co b i;obtain⟨C,u⟩:=Co b j;obtain⟨E,I,G,rfl,y,F⟩:=Fp (c:=c15) k;obtain⟨B,s,t⟩:=Q4u (c:=c16) Tryz.underlying100 N7 zd Zs Jl (fun h=>Q90 h) l;obtain⟨A,f,_,_⟩:=DataW.trod_int Tryz.underlying3 m;simp at e f;subst e f;exact⟨(⟨D,z,C,E,B,A⟩,_),rfl,⟨[c1,c2,c3,c4,c5,c6,c7],[c8,c9,c10,c11,c12,c13,c14],_,c16,rfl,v,r,u,y,s,t⟩⟩
instance:Inhabited Q5:=⟨⟨⟨#[]⟩,.node 0 0 0 false 0 0 [],.node 0 0 0 false 0 0 [],[],[],0⟩⟩
theorem Wx(l:Value.okWide Tryz.prog w r b0 26 v)(k:DataW.Trod enc Tryz.prog w base (fun _=>true) held 26 v d ps):∃(ls:Qg) (vo:Option Addr) (vc:Nat),v=.slice vo ls.length vc/\Qz w (.slice vo ls.length vc) ls/\ls.length<=vc:=by
 obtain⟨e,n,f,rfl⟩:=okWide_slice Tryz.underlying26 l;obtain⟨g,a⟩:=k;have a:DataW.trod enc Tryz.prog w base (fun _=>true) held g 26 [.slice e n f]=some (d,ps):=by simpa [Value.cells] using a
 obtain⟨m,b,i,vo,vc,c,j⟩:=Hs (α:=Q5 × List Value) Tryz.underlying26 N0 zd (fun p=>p.2) (fun p=>Zf w p.1 p.2) (fun h=>Q7r h) a;rw [c] at b;exact⟨m,vo,vc,c,⟨b,i⟩,j⟩
theorem L1:Tryz.prog.cellsOf 105=2:=by kernel_rfl
theorem Q59{q:Nat}{cs:List Value}{x:DataW H × List MemPlace}(a:DataW.trod enc Tryz.prog w base (fun _=>true) held q 105 cs=some x):∃ p:(Wd × Wd) × List Value,cs=p.2/\(p.2.length=2/\K0 w p.1 p.2):=by
 obtain⟨o,g,rfl,_,f,b,a⟩:=DataW.trod_struct Tryz.underlying105 a;rw [L1] at f;have b:o.length=2:=b
 match o,b with
 | [y0,y1],_=>
 have d:DataW.trod enc Tryz.prog w base (fun _=>true) held g 99 ((cs.drop 0).take (Tryz.prog.cellsOf 99))=some y0:=a 0 _ rfl;have e:DataW.trod enc Tryz.prog w base (fun _=>true) held g 99 ((cs.drop 1).take (Tryz.prog.cellsOf 99))=some y1:=a 1 _ rfl;rw [M2] at d e
 match cs,f with
 | [c0,c1],_=>
 obtain⟨k,j,i,rfl,s,r⟩:=Fp (c:=c0) d;obtain⟨n,m,l,rfl,u,t⟩:=Fp (c:=c1) e;exact⟨((k,n),[.slice j k.length i,.slice m n.length l]),rfl,rfl,_,_,rfl,⟨j,i,rfl,s,r⟩,⟨m,l,rfl,u,t⟩⟩
theorem Dz(l:Value.okWide Tryz.prog w r b0 61 v)(k:DataW.Trod enc Tryz.prog w base (fun _=>true) held 61 v d ps):∃(ls:Q8) (vo:Option Addr) (vc:Nat),v=.slice vo ls.length vc/\Z3 w (.slice vo ls.length vc) ls/\ls.length<=vc:=by
 obtain⟨e,n,f,rfl⟩:=okWide_slice Tryz.underlying61 l;obtain⟨g,a⟩:=k;have a:DataW.trod enc Tryz.prog w base (fun _=>true) held g 61 [.slice e n f]=some (d,ps):=by simpa [Value.cells] using a
 obtain⟨m,b,i,vo,vc,c,j⟩:=Hs (α:=(Wd × Wd) × List Value) Tryz.underlying61 L1 zd (fun p=>p.2) (fun p=>p.2.length=2/\K0 w p.1 p.2) (fun h=>Q59 h) a;rw [c] at b;exact⟨m,vo,vc,c,⟨b,i⟩,j⟩
end
end Go.Proofs.YtfdlhlghcbeblaaGreatDoor
