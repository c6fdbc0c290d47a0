/- What the laws' arguments read as: -/
import Derived.Test.YtfdlhlghcbeblaaGreatDoorX14
import Derived.Test.YtfdlhlghcbeblaaGreatDoorX16
import Derived.Deep.Fields
set_option maxRecDepth 100000
namespace Go.Proofs.YtfdlhlghcbeblaaGreatDoor
open Go.RowKit Go.Ab Go.ChangeShapes Go.WideShapes
section
variable {H:Type} {enc:TypeId × Value->H} {w:World} {base b0:Nat} {held:Bool} {r:Reach} {v:Value} {d:DataW H} {ps:List MemPlace} {spare:Nat->Bool}
theorem Vw:Tryz.prog.cellsOf 95=2:=by kernel_rfl
theorem Hf:Tryz.prog.cellsOf 98=7:=by kernel_rfl
theorem Fy:Tryz.prog.cellsOf 93=1:=by kernel_rfl
theorem H9:Tryz.prog.cellsOf 3=1:=by kernel_rfl
theorem Rg:Tryz.prog.cellsOf 4=1:=by kernel_rfl
theorem Rj:Tryz.prog.cellsOf 96=1:=by kernel_rfl
theorem Fh{n:Int}(h:(Lit.int .u32 n).wf=true):∃ m:Nat,n=m/\m<4294967296:=by
 have:=bounds_u32 h;exact⟨n.toNat,by omega,by omega⟩
theorem La{i:Nat}{cs:List Value}{x:DataW H × List MemPlace}(h:DataW.trod enc Tryz.prog w base spare held i 95 cs=some x) :
  ∃ a b:Nat,cs=[.int .u32 (a:Int),.int .u32 (b:Int)]/\a<4294967296/\b<4294967296:=by
 obtain⟨q,r,p,_,g,e,f⟩:=trod_struct2 Tryz.underlying95 h;rw [Vw] at g
 match cs,g with
 | [c0,c1],_=>
  simp only [Fy] at e f;obtain⟨n,c,_,l⟩:=DataW.trod_int Tryz.underlying93 e;obtain⟨o,d,_,m⟩:=DataW.trod_int Tryz.underlying93 f;simp at c d;obtain⟨a,rfl,j⟩:=Fh l;obtain⟨b,rfl,k⟩:=Fh m;exact⟨a,b,by rw [c,d],j,k⟩
theorem K1{a:Addr}{n:Nat}{cs:List Value}(i:0<n)(h:w.cells? base a n=some cs):a.spot=none/\a.block<w.heap.size/\cs.length=n/\w.rangeAt a.block a.off cs:=by
 obtain⟨_,g,d⟩:=World.cells?_some h;have b:=d 0 i;rw [List.getElem?_eq_getElem oz] at b;have c:a.spot=none:=World.cell?_spot (by simpa [Addr.add] using b);have f:a.block<w.heap.size:=by simpa [Addr.add] using Q6b b
 refine⟨c,f,g,fun j u hj=>?_⟩;have l:=(List.getElem?_eq_some_iff.1 hj).1;have:=d j oz;rw [hj] at this;have e:a.add j=⟨a.block,a.off+j,none⟩:=by
  obtain⟨k,m,o⟩:=a;simp only at c;subst c;exact add_plain _ _ _
 rw [<-e];exact this
instance:Inhabited Pat:=⟨.node 0 0 0 false 0 0 []⟩
theorem S3:∀(fuel:Nat) {cs:List Value} {x:DataW H × List MemPlace},DataW.trod enc Tryz.prog w base (fun _=>true) held fuel 98 cs=some x ->
  ∃ p:Pat,Qm (fun g=>g<w.heap.size) w p cs:=by
 intro fuel
 induction fuel with
 | zero=>intro cs x b;simp [DataW.trod] at b
 | succ n ih=>
  intro cs x b;obtain⟨U,a7,b5,_,J,q,d⟩:=DataW.trod_struct Tryz.underlying98 b;obtain rfl:n=a7:=by omega
  rw [Hf] at J;have q:U.length=6:=q
  match U,q with
  | [y0,y1,y2,y3,y4,y5],_=>
  have k:DataW.trod enc Tryz.prog w base (fun _=>true) held n 3 ((cs.drop 0).take (Tryz.prog.cellsOf 3))=some y0:=d 0 _ rfl;have B:DataW.trod enc Tryz.prog w base (fun _=>true) held n 95 ((cs.drop 1).take (Tryz.prog.cellsOf 95))=some y1:=d 1 _ rfl;have C:DataW.trod enc Tryz.prog w base (fun _=>true) held n 4 ((cs.drop 3).take (Tryz.prog.cellsOf 4))=some y2:=d 2 _ rfl;have D:DataW.trod enc Tryz.prog w base (fun _=>true) held n 3 ((cs.drop 4).take (Tryz.prog.cellsOf 3))=some y3:=d 3 _ rfl;have E:DataW.trod enc Tryz.prog w base (fun _=>true) held n 3 ((cs.drop 5).take (Tryz.prog.cellsOf 3))=some y4:=d 4 _ rfl;have F:DataW.trod enc Tryz.prog w base (fun _=>true) held n 96 ((cs.drop 6).take (Tryz.prog.cellsOf 96))=some y5:=d 5 _ rfl;rw [H9] at k D E;rw [Rg] at C;rw [Vw] at B;rw [Rj] at F
  match cs,J with
  | [c0,c1,c2,c3,c4,c5,c6],_=>
  obtain⟨K,u,_,_⟩:=DataW.trod_int Tryz.underlying3 k;obtain⟨s,f,i,G,I⟩:=La B;obtain⟨O,v,_⟩:=DataW.trod_bool Tryz.underlying4 C;obtain⟨M,y,_,_⟩:=DataW.trod_int Tryz.underlying3 D;obtain⟨N,z,_,_⟩:=DataW.trod_int Tryz.underlying3 E;simp at u i v y z;obtain⟨i,X⟩:=i;subst u i X v y z;rcases DataW.trod_slice Tryz.underlying96 F with ⟨b,_⟩ | ⟨a,l,V,b3,b7,a8,b6,b,_,_,a3,Z,b4,o,_,_⟩
  ·simp at b;subst b;refine⟨.node K s f O M N [],?_⟩;unfold Qm;exact⟨none,0,rfl,G,I,by simp,by simp [maxLen],by unfold Qy;trivial⟩
  ·simp at b;subst b;rw [Hf] at o;have a5:0<l->a.spot=none:=by
    intro k;have e:=o 0 k;rw [List.getElem?_eq_getElem oz] at e;obtain⟨t,r,L⟩:=Option.bind_eq_some_iff.1 e;obtain⟨R,_⟩:=K1 zd r
    simpa [Addr.add] using R
   have Y:∀ c,c<l->∃ p:Pat × List Value,a.spot=none/\a.block<w.heap.size/\w.rangeAt a.block (a.off+c*7) p.2/\Qm (fun g=>g<w.heap.size) w p.1 p.2:=by
    intro c a1;have e:=o c a1;rw [List.getElem?_eq_getElem oz] at e;obtain⟨t,r,L⟩:=Option.bind_eq_some_iff.1 e;obtain⟨R,S,b8,T⟩:=K1 zd r;have a6:=DataW.trod_le (show a8<=n by omega) L;obtain⟨p,a4⟩:=ih a6;have m:=a5 oz;have W:a.add (c*7)=⟨a.block,a.off+c*7,none⟩:=by
     obtain⟨f,a9,b2⟩:=a;simp only at m;subst m;exact add_plain _ _ _
    rw [W] at S T;exact⟨(p,t),m,S,T,a4⟩
   obtain⟨A,a0⟩:=Deep.choose_lt Y;refine⟨.node K s f O M N ((List.range l).map fun c=>(A c).1),?_⟩;unfold Qm;refine⟨some a,V,by simp [Qd],G,I,by simpa using a3,Z,Qy.mk fun j hj=>?_⟩;have a2:j<l:=by simpa using hj
   obtain⟨P,Q,b0,b1⟩:=a0 j a2;refine⟨a.block,a.off,(A j).2,?_,Q,Q,by rw [Nat.zero_add];exact b0,by simpa using b1⟩;obtain⟨f,a9,b2⟩:=a;simp only at P;subst P;rfl
end
end Go.Proofs.YtfdlhlghcbeblaaGreatDoor
namespace Go.Proofs.YtfdlhlghcbeblaaGreatDoor
open Go.RowKit Go.Ab Go.ChangeShapes Go.WideShapes
theorem Ln(f:Nat->List Value)(sz:Nat):∀ n,(∀ i,i<n->(f i).length=sz)->((List.range n).flatMap f).length=n*sz
 | 0,_=>by simp
 | n+1,h=>by
  rw [List.range_succ,List.flatMap_append,List.length_append,Ln f sz n fun i hi=>h i oz];simp only [List.flatMap_cons,List.flatMap_nil,List.append_nil];rw [h n oz,Nat.add_mul,Nat.one_mul]
theorem R5(f:Nat->List Value)(sz:Nat):∀ n,(∀ i,i<n->(f i).length=sz)->∀ i r,i<n->r<sz->((List.range n).flatMap f)[i*sz+r]?=(f i)[r]?
 | 0,_,i,r,h,_=>by omega
 | n+1,h,i,r,hi,hr=>by
  have hl:=Ln f sz n fun i hi=>h i oz;rw [List.range_succ,List.flatMap_append];by_cases hin:i<n
  ·have:i*sz+r<n*sz:=by
    have:=Nat.mul_le_mul_right sz (show i+1<=n by omega);rw [Nat.add_mul,Nat.one_mul] at this;omega
   rw [List.getElem?_append_left (by rw [hl];exact this)];exact R5 f sz n (fun i hi=>h i oz) i r hin hr
  ·obtain rfl:i=n:=by omega
   rw [List.getElem?_append_right (by rw [hl];omega),hl,show i*sz+r - i*sz=r by omega];simp
theorem Q6n{w:World}{g off a cap sz:Nat}(f:Nat->List Value)(m:0<sz)(c:∀ i,i<a->(f i).length=sz/\w.rangeAt g (off+i*sz) (f i)) (n:0<a->g<w.heap.size) (o:a<=maxLen) :
  Rd w (.slice (some ⟨g,off,none⟩) a cap) a sz ((List.range a).flatMap f):=by
 have p:=Ln f sz a fun i b=>(c i b).1;refine⟨p,o,_,_,rfl,fun h0=>⟨g,off,rfl,n h0,fun j hj=>?_⟩⟩;have b:j / sz<a:=(Nat.div_lt_iff_lt_mul m).2 hj;have d:j % sz<sz:=Nat.mod_lt _ m;have l:j / sz*sz+j % sz=j:=by rw [Nat.mul_comm];exact Nat.div_add_mod j sz
 have e:=R5 f sz a (fun i b=>(c i b).1) (j / sz) (j % sz) b d;rw [l] at e;have k:=(c _ b).2 (j % sz) _ (List.getElem?_eq_getElem (by rw [(c _ b).1];exact d));rw [Nat.add_assoc,l] at k;rw [k,List.getD_eq_getElem?_getD,e,List.getElem?_eq_getElem (by rw [(c _ b).1];exact d)];rfl
section
variable {H:Type} {enc:TypeId × Value->H} {w:World} {base b0:Nat} {held:Bool} {r:Reach} {v:Value} {d:DataW H} {ps:List MemPlace}
theorem Fv:Tryz.prog.cellsOf 109=6:=by kernel_rfl
theorem L3:Tryz.prog.cellsOf 102=18:=by kernel_rfl
theorem T6:Tryz.prog.cellsOf 100=1:=by kernel_rfl
theorem Si:Tryz.prog.cellsOf 99=1:=by kernel_rfl
theorem Tp:Tryz.prog.cellsOf 9=1:=by kernel_rfl
theorem Ko{α:Type} [Inhabited α] {t e:TypeId} {sz fuel:Nat} {c:Value} {x:DataW H × List MemPlace} (ht:Tryz.prog.underlying t=some (.slice e)) (hsz:Tryz.prog.cellsOf e=sz) (h0:0<sz) (cells:α->List Value) (ok:α->Prop)
  (hrow:∀ {n cs y},DataW.trod enc Tryz.prog w base (fun _=>true) held n e cs=some y->∃ p:α,cs=cells p/\ok p)
  (h:DataW.trod enc Tryz.prog w base (fun _=>true) held fuel t [c]=some x):∃ l:List α,Rd w c l.length sz (l.flatMap cells)/\(∀ p∈l,ok p)/\∃ vo vc,c=.slice vo l.length vc/\l.length<=vc:=by
 rcases DataW.trod_slice ht h with ⟨h,_⟩ | ⟨a,g,r,M,Q,P,O,h,_,_,u,G,N,o,_,_⟩
 ·simp at h;subst h;exact⟨[],⟨by simp,by simp [maxLen],none,0,rfl,fun h=>by simp at h⟩,fun p j=>by simp at j,none,0,rfl,Nat.le_refl _⟩
 ·simp at h;subst h;rw [hsz] at o;have I:0<g->a.spot=none:=by
   intro m;have k:=o 0 m;rw [List.getElem?_eq_getElem oz] at k;obtain⟨E,q,z⟩:=Option.bind_eq_some_iff.1 k;obtain⟨A,_⟩:=K1 h0 q
   simpa [Addr.add] using A
  have F:∀ b,b<g->∃ p:α,a.spot=none/\a.block<w.heap.size/\(cells p).length=sz/\w.rangeAt a.block (a.off+b*sz) (cells p)/\ok p:=by
   intro b d;have k:=o b d;rw [List.getElem?_eq_getElem oz] at k;obtain⟨E,q,z⟩:=Option.bind_eq_some_iff.1 k;obtain⟨A,B,L,C⟩:=K1 h0 q;obtain⟨p,rfl,j⟩:=hrow z;have f:=I oz;have e:a.add (b*sz)=⟨a.block,a.off+b*sz,none⟩:=by
    obtain⟨D,J,K⟩:=a;simp only at f;subst f;exact add_plain _ _ _
   rw [e] at B C;exact⟨p,f,B,L,C,j⟩
  obtain⟨s,i⟩:=Deep.choose_lt F;have v:g<=maxLen:=Nat.le_trans u G;refine⟨(List.range g).map s,?_,fun p j=>?_,some a,r,by rw [List.length_map,List.length_range],by rw [List.length_map,List.length_range];exact u⟩
  ·rw [List.length_map,List.length_range,List.flatMap_map];by_cases m:0<g
   ·have f:=(i 0 m).1;have e:a=⟨a.block,a.off,none⟩:=by obtain⟨D,J,K⟩:=a;simp only at f;subst f;rfl
    rw [e];exact Q6n (fun b=>cells (s b)) h0 (fun b d=>⟨(i b d).2.2.1,(i b d).2.2.2.1⟩) (fun _=>(i 0 m).2.1) v
   ·obtain rfl:g=0:=by omega
    exact⟨by simp,v,some a,r,rfl,fun h=>by omega⟩
  ·obtain⟨b,d,rfl⟩:=List.mem_map.1 j;exact(i b (List.mem_range.1 d)).2.2.2.2
theorem Q37{α:Type} [Inhabited α] {t e:TypeId} {sz fuel:Nat} {c:Value} {x:DataW H × List MemPlace} (ht:Tryz.prog.underlying t=some (.slice e)) (hsz:Tryz.prog.cellsOf e=sz) (h0:0<sz) (cells:α->List Value) (ok:α->Prop)
  (hrow:∀ {n cs y},DataW.trod enc Tryz.prog w base (fun _=>true) held n e cs=some y->∃ p:α,cs=cells p/\ok p)
  (h:DataW.trod enc Tryz.prog w base (fun _=>true) held fuel t [c]=some x):∃ l:List α,Rd w c l.length sz (l.flatMap cells)/\∀ p∈l,ok p:=by
 obtain⟨l,a,b,_⟩:=Ko ht hsz h0 cells ok hrow h;exact⟨l,a,b⟩
theorem M8{d:Nat}{c:Value}{x:DataW H × List MemPlace}(h:DataW.trod enc Tryz.prog w base (fun _=>true) held d 99 [c]=some x):∃(ws:Wd) (vo:Option Addr) (vc:Nat),c=.slice vo ws.length vc/\Qa w (.slice vo ws.length vc) ws/\ws.length<=vc:=by
 obtain⟨l,e,f,vo,vc,g,i⟩:=Ko (α:=Nat × Nat) Tryz.underlying99 Vw zd (fun s=>[Value.int .u32 (s.1:Int),Value.int .u32 (s.2:Int)]) (fun s=>s.1<4294967296/\s.2<4294967296)
  (fun h=>by obtain⟨a,b,m,j,k⟩:=La h;exact⟨(a,b),m,j,k⟩) h
 subst g;exact⟨l,vo,vc,rfl,⟨e,f⟩,i⟩
instance:Inhabited Ye:=⟨⟨0,0,(0,0),0,0⟩⟩
theorem Q4f{v:Nat}{cs:List Value}{x:DataW H × List MemPlace}(h:DataW.trod enc Tryz.prog w base (fun _=>true) held v 109 cs=some x):∃ o:Ye,cs=Zi o/\Xe o:=by
 obtain⟨q,b,rfl,_,p,d,a⟩:=DataW.trod_struct Tryz.underlying109 h;rw [Fv] at p;have d:q.length=5:=d
 match q,d with
 | [y0,y1,y2,y3,y4],_=>
 have j:DataW.trod enc Tryz.prog w base (fun _=>true) held b 3 ((cs.drop 0).take (Tryz.prog.cellsOf 3))=some y0:=a 0 _ rfl;have k:DataW.trod enc Tryz.prog w base (fun _=>true) held b 93 ((cs.drop 1).take (Tryz.prog.cellsOf 93))=some y1:=a 1 _ rfl;have l:DataW.trod enc Tryz.prog w base (fun _=>true) held b 95 ((cs.drop 2).take (Tryz.prog.cellsOf 95))=some y2:=a 2 _ rfl;have m:DataW.trod enc Tryz.prog w base (fun _=>true) held b 93 ((cs.drop 4).take (Tryz.prog.cellsOf 93))=some y3:=a 3 _ rfl;have n:DataW.trod enc Tryz.prog w base (fun _=>true) held b 3 ((cs.drop 5).take (Tryz.prog.cellsOf 3))=some y4:=a 4 _ rfl;rw [H9] at j n;rw [Fy] at k m;rw [Vw] at l
 match cs,p with
 | [c0,c1,c2,c3,c4,c5],_=>
 obtain⟨C,e,_,_⟩:=DataW.trod_int Tryz.underlying3 j;obtain⟨I,f,_,F⟩:=DataW.trod_int Tryz.underlying93 k;obtain⟨r,s,c,y,z⟩:=La l;obtain⟨J,g,_,G⟩:=DataW.trod_int Tryz.underlying93 m;obtain⟨D,i,_,_⟩:=DataW.trod_int Tryz.underlying3 n;obtain⟨t,rfl,A⟩:=Fh F;obtain⟨E,rfl,B⟩:=Fh G;simp at e f c g i;obtain⟨c,u⟩:=c;subst e f c u g i;exact⟨⟨C,t,(r,s),E,D⟩,rfl,A,⟨y,z⟩,B⟩
end
end Go.Proofs.YtfdlhlghcbeblaaGreatDoor
namespace Go.Proofs.YtfdlhlghcbeblaaGreatDoor
open Go.RowKit Go.Ab Go.ChangeShapes Go.WideShapes
theorem Co:Tryz.prog.cellsOf 99=1:=by kernel_rfl
theorem Su:∀ l:List (Wd × Value),l.flatMap (fun p=>[p.2])=l.map (·.2)
 | []=>rfl
 | p::l=>by rw [List.flatMap_cons,Su l];rfl
section
variable {H:Type} {enc:TypeId × Value->H} {w:World} {base b0:Nat} {held:Bool} {r:Reach} {v:Value} {d:DataW H} {ps:List MemPlace}
theorem El(x:Value.okWide Tryz.prog w r b0 60 v)(u:DataW.Trod enc Tryz.prog w base (fun _=>true) held 60 v d ps):∃(us:List Wd) (vo:Option Addr) (vc:Nat),v=.slice vo us.length vc/\Zz w (.slice vo us.length vc) us:=by
 obtain⟨o,l,g,rfl⟩:=okWide_slice Tryz.underlying60 x;obtain⟨q,e⟩:=u;have e:DataW.trod enc Tryz.prog w base (fun _=>true) held q 60 [.slice o l g]=some (d,ps):=by simpa [Value.cells] using e
 obtain⟨b,j,s,vo,vc,k,_⟩:=Ko (α:=Wd × Value) (hrow:=fun {n cs y} a=>by
  obtain⟨c,rfl⟩:∃ c,cs=[c]:=by
   rcases DataW.trod_slice Tryz.underlying99 a with ⟨a,_⟩ | ⟨A,l,g,B,E,D,C,a,_⟩
   ·exact⟨_,a⟩
   ·exact⟨_,a⟩
  obtain⟨m,vo,vc,rfl,z,t⟩:=M8 (c:=c) a;exact⟨(m,.slice vo m.length vc),rfl,vo,vc,rfl,z,t⟩) Tryz.underlying60 Co zd (fun p=>[p.2]) (fun p=>Qo w p.2 p.1) e
 rw [k] at j;have f:(b.map (·.1)).length=b.length:=List.length_map ..;refine⟨b.map (·.1),vo,vc,by rw [f];exact k,b.map (·.2),by rw [f,<-Su];exact j,fun i hi=>?_⟩;rw [f] at hi;rw [List.getElem_map,List.getD_eq_getElem?_getD,List.getElem?_map,List.getElem?_eq_getElem hi];exact s _ (List.getElem_mem hi)
end
end Go.Proofs.YtfdlhlghcbeblaaGreatDoor
namespace Go.Proofs.YtfdlhlghcbeblaaGreatDoor
open Go.RowKit Go.Ab Go.ChangeShapes Go.WideShapes
section
variable {H:Type} {enc:TypeId × Value->H} {w:World} {base b0:Nat} {held:Bool} {r:Reach} {v:Value} {d:DataW H} {ps:List MemPlace}
theorem Q5n{q:Nat}{cs:List Value}{x:DataW H × List MemPlace}(a:DataW.trod enc Tryz.prog w base (fun _=>true) held q 102 cs=some x):∃ p:Q2 × List Value,cs=p.2/\Zk w p.1 p.2:=by
 obtain⟨o,b,rfl,_,n,d,a⟩:=DataW.trod_struct Tryz.underlying102 a;rw [L3] at n;have d:o.length=6:=d
 match o,d with
 | [y0,y1,y2,y3,y4,y5],_=>
 have g:DataW.trod enc Tryz.prog w base (fun _=>true) held b 9 ((cs.drop 0).take (Tryz.prog.cellsOf 9))=some y0:=a 0 _ rfl;have i:DataW.trod enc Tryz.prog w base (fun _=>true) held b 98 ((cs.drop 1).take (Tryz.prog.cellsOf 98))=some y1:=a 1 _ rfl;have j:DataW.trod enc Tryz.prog w base (fun _=>true) held b 98 ((cs.drop 8).take (Tryz.prog.cellsOf 98))=some y2:=a 2 _ rfl;have k:DataW.trod enc Tryz.prog w base (fun _=>true) held b 99 ((cs.drop 15).take (Tryz.prog.cellsOf 99))=some y3:=a 3 _ rfl;have l:DataW.trod enc Tryz.prog w base (fun _=>true) held b 100 ((cs.drop 16).take (Tryz.prog.cellsOf 100))=some y4:=a 4 _ rfl;have m:DataW.trod enc Tryz.prog w base (fun _=>true) held b 3 ((cs.drop 17).take (Tryz.prog.cellsOf 3))=some y5:=a 5 _ rfl;rw [Tp] at g;rw [Hf] at i j;rw [Si] at k;rw [T6] at l;rw [H9] at m
 match cs,n with
 | [c0,c1,c2,c3,c4,c5,c6,c7,c8,c9,c10,c11,c12,c13,c14,c15,c16,c17],_=>
 obtain⟨D,e,_,v⟩:=DataW.trod_string Tryz.underlying9 g;obtain⟨z,r⟩:=S3 b i;obtain⟨C,u⟩:=S3 b j;obtain⟨E,I,G,rfl,y,F⟩:=M8 (c:=c15) k;obtain⟨B,s,t⟩:=Q37 (c:=c16) Tryz.underlying100 Fv zd Zi Xe (fun h=>Q4f h) l;obtain⟨A,f,_,_⟩:=DataW.trod_int Tryz.underlying3 m;simp at e f;subst e f;exact⟨(⟨D,z,C,E,B,A⟩,_),rfl,⟨[c1,c2,c3,c4,c5,c6,c7],[c8,c9,c10,c11,c12,c13,c14],_,c16,rfl,v,r,u,y,s,t⟩⟩
instance:Inhabited Q2:=⟨⟨⟨#[]⟩,.node 0 0 0 false 0 0 [],.node 0 0 0 false 0 0 [],[],[],0⟩⟩
theorem Q2n(l:Value.okWide Tryz.prog w r b0 26 v)(k:DataW.Trod enc Tryz.prog w base (fun _=>true) held 26 v d ps):∃(ls:Qk) (vo:Option Addr) (vc:Nat),v=.slice vo ls.length vc/\Qv w (.slice vo ls.length vc) ls/\ls.length<=vc:=by
 obtain⟨e,n,f,rfl⟩:=okWide_slice Tryz.underlying26 l;obtain⟨g,a⟩:=k;have a:DataW.trod enc Tryz.prog w base (fun _=>true) held g 26 [.slice e n f]=some (d,ps):=by simpa [Value.cells] using a
 obtain⟨m,b,i,vo,vc,c,j⟩:=Ko (α:=Q2 × List Value) Tryz.underlying26 L3 zd (fun p=>p.2) (fun p=>Zk w p.1 p.2) (fun h=>Q5n h) a;rw [c] at b;exact⟨m,vo,vc,c,⟨b,i⟩,j⟩
end
end Go.Proofs.YtfdlhlghcbeblaaGreatDoor
