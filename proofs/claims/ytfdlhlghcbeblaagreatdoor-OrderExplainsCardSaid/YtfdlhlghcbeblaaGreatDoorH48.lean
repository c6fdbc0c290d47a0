/- What the laws' arguments read as: sounds, words, patterns. The conditions of a law, as a slice with room. What the laws' arguments read as: laws. What the arguments of chapter 14 read as: rows of laws and of pairs. -/
import Derived.Test.YtfdlhlghcbeblaaGreatDoorH47
import Derived.Test.YtfdlhlghcbeblaaGreatDoorH02
import Derived.Test.YtfdlhlghcbeblaaGreatDoorH08
import Derived.Test.YtfdlhlghcbeblaaGreatDoorH31
import Derived.Test.YtfdlhlghcbeblaaGreatDoorH29
import Derived.Test.YtfdlhlghcbeblaaGreatDoorProg
import Derived.ChangeSame
import Derived.Deep.Fields
set_option maxRecDepth 100000
namespace Go.Proofs.YtfdlhlghcbeblaaGreatDoor
open Go.RowKit Go.Ab Go.ChangeShapes Go.WideShapes
section
variable {H:Type} {enc:TypeId × Value->H} {w:World} {base b0:Nat} {held:Bool} {r:Reach} {v:Value} {d:DataW H} {ps:List MemPlace} {spare:Nat->Bool}
theorem cellsOf_snd:Tryz.prog.cellsOf 95=2:=by kernel_rfl
theorem cellsOf_pat:Tryz.prog.cellsOf 98=7:=by kernel_rfl
theorem cellsOf_u32:Tryz.prog.cellsOf 93=1:=by kernel_rfl
theorem cellsOf_int:Tryz.prog.cellsOf 3=1:=by kernel_rfl
theorem cellsOf_bool:Tryz.prog.cellsOf 4=1:=by kernel_rfl
theorem cellsOf_pats:Tryz.prog.cellsOf 96=1:=by kernel_rfl
theorem nat_u32{n:Int}(h:(Lit.int .u32 n).wf=true):∃ m:Nat,n=m/\m<4294967296:=by
 have:=bounds_u32 h
 exact⟨n.toNat,by omega,by omega⟩
theorem trod_snd{fuel:Nat}{cs:List Value}{x:DataW H × List MemPlace}(h:DataW.trod enc Tryz.prog w base spare held fuel 95 cs=some x) :
  ∃ a b:Nat,cs=[.int .u32 (a:Int),.int .u32 (b:Int)]/\a<4294967296/\b<4294967296:=by
 obtain⟨y0,y1,n,_,hl,h0,h1⟩:=trod_struct2 Tryz.underlying95 h
 rw [cellsOf_snd] at hl
 match cs,hl with
 | [c0,c1],_=>
  simp only [cellsOf_u32] at h0 h1
  obtain⟨m0,e0,_,w0⟩:=DataW.trod_int Tryz.underlying93 h0
  obtain⟨m1,e1,_,w1⟩:=DataW.trod_int Tryz.underlying93 h1
  simp at e0 e1
  obtain⟨a,rfl,ha⟩:=nat_u32 w0
  obtain⟨b,rfl,hb⟩:=nat_u32 w1
  exact⟨a,b,by rw [e0,e1],ha,hb⟩
theorem cells_range{a:Addr}{n:Nat}{cs:List Value}(hn:0<n)(h:w.cells? base a n=some cs):a.spot=none/\a.block<w.heap.size/\cs.length=n/\w.rangeAt a.block a.off cs:=by
 obtain⟨_,hl,hx⟩:=World.cells?_some h
 have h0:=hx 0 hn
 rw [List.getElem?_eq_getElem (by omega)] at h0
 have hs:a.spot=none:=World.cell?_spot (by simpa [Addr.add] using h0)
 have hb:a.block<w.heap.size:=by simpa [Addr.add] using cell_lt h0
 refine⟨hs,hb,hl,fun j u hj=>?_⟩
 have hlt:=(List.getElem?_eq_some_iff.1 hj).1
 have:=hx j (by omega)
 rw [hj] at this
 have e:a.add j=⟨a.block,a.off+j,none⟩:=by
  obtain⟨b,o,s⟩:=a
  simp only at hs
  subst hs
  exact add_plain _ _ _
 rw [<-e];exact this
theorem open_word(hval:Value.okWide Tryz.prog w r b0 99 v)(hd:DataW.Trod enc Tryz.prog w base (fun _=>true) held 99 v d ps):∃ ws:Wd,WordAt w v ws:=by
 obtain⟨ao,len,cap,rfl⟩:=okWide_slice Tryz.underlying99 hval
 obtain⟨fuel,hf⟩:=hd
 rcases Deep.open_slice Tryz.underlying99 hf with ⟨h,_⟩ | ⟨a,len',cap',m,n,D,Pl,h,_,hl,hm,hmm,_,hx⟩
 ·simp [Value.cells] at h
  obtain⟨rfl,rfl,rfl⟩:=h
  exact⟨[],⟨rfl,by simp [maxLen],none,0,rfl,fun h=>by simp at h⟩,by simp [WdOk]⟩
 ·simp [Value.cells] at h
  obtain⟨rfl,rfl,rfl⟩:=h
  simp only [if_true] at hmm
  subst hmm
  rw [cellsOf_snd] at hx
  have each:∀ i,i<len->∃ p:Nat × Nat,w.cell? (a.add (i*2))=some (.int .u32 (p.1:Int))/\w.cell? ((a.add (i*2)).add 1)=some (.int .u32 (p.2:Int))/\p.1<4294967296/\p.2<4294967296:=by
   intro i hi
   obtain⟨cs',h1,h2⟩:=hx i (by omega)
   obtain⟨c0,c1,rfl,k0,k1⟩:=cells_two h1
   obtain⟨x,y,he,w0,w1⟩:=trod_snd h2
   simp at he
   obtain⟨rfl,rfl⟩:=he
   exact⟨(x,y),k0,k1,w0,w1⟩
  obtain⟨f,hfp⟩:=Deep.choose_lt each
  refine⟨(List.range len).map f,⟨by simp [sndL_length],by simp;omega,some a,m,by simp,fun h0=>?_⟩,fun p hp=>?_⟩
  ·simp at h0
   obtain⟨b,off,spot⟩:=a
   have hspot:spot=none:=by simpa [Addr.add] using World.cell?_spot (hfp 0 h0).1
   subst hspot
   have hlt:=cell_lt (hfp 0 h0).1
   refine⟨b,off,rfl,by simpa [Addr.add] using hlt,fun j hj=>?_⟩
   simp only [List.length_map,List.length_range] at hj
   have hi:j / 2<len:=by omega
   obtain⟨q0,q1,_,_⟩:=hfp (j / 2) hi
   have g:=sndL_get ((List.range len).map f) (j / 2) (by simpa using hi)
   have e:((List.range len).map f).getD (j / 2) (0,0)=f (j / 2):=by
    rw [List.getD_eq_getElem?_getD,List.getElem?_eq_getElem (by simpa using hi)];simp
   rw [e] at g
   rw [<-Go.WideShapes.add_plain,List.getD_eq_getElem?_getD]
   rcases Nat.mod_two_eq_zero_or_one j with hj2 | hj2
   ·have ej:j / 2*2=j:=by omega
    rw [ej] at q0 g
    rw [q0,g.1];rfl
   ·have ej:j / 2*2+1=j:=by omega
    rw [Deep.add_add,ej] at q1
    rw [ej] at g
    rw [q1,g.2];rfl
  ·obtain⟨i,hi,rfl⟩:=List.mem_map.1 hp
   have:=hfp i (List.mem_range.1 hi)
   exact this.2.2
instance:Inhabited Pat:=⟨.node 0 0 0 false 0 0 []⟩
theorem take1{cs:List Value}{i:Nat}(hl:cs.length=7)(h:i<7):(cs.drop i).take 1=[cs.getD i undef]:=Deep.take1_drop cs i undef (by omega)
theorem trod_pat:∀(fuel:Nat) {cs:List Value} {x:DataW H × List MemPlace},DataW.trod enc Tryz.prog w base (fun _=>true) held fuel 98 cs=some x ->
  ∃ p:Pat,PatAt (fun g=>g<w.heap.size) w p cs:=by
 intro fuel
 induction fuel with
 | zero=>intro cs x h;simp [DataW.trod] at h
 | succ n ih=>
  intro cs x h
  obtain⟨xs,n',hn,_,hl,hxl,hf⟩:=DataW.trod_struct Tryz.underlying98 h
  obtain rfl:n=n':=by omega
  rw [cellsOf_pat] at hl
  have hxl:xs.length=6:=hxl
  match xs,hxl with
  | [y0,y1,y2,y3,y4,y5],_=>
  have h0:DataW.trod enc Tryz.prog w base (fun _=>true) held n 3 ((cs.drop 0).take (Tryz.prog.cellsOf 3))=some y0:=hf 0 _ rfl
  have h1:DataW.trod enc Tryz.prog w base (fun _=>true) held n 95 ((cs.drop 1).take (Tryz.prog.cellsOf 95))=some y1:=hf 1 _ rfl
  have h2:DataW.trod enc Tryz.prog w base (fun _=>true) held n 4 ((cs.drop 3).take (Tryz.prog.cellsOf 4))=some y2:=hf 2 _ rfl
  have h3:DataW.trod enc Tryz.prog w base (fun _=>true) held n 3 ((cs.drop 4).take (Tryz.prog.cellsOf 3))=some y3:=hf 3 _ rfl
  have h4:DataW.trod enc Tryz.prog w base (fun _=>true) held n 3 ((cs.drop 5).take (Tryz.prog.cellsOf 3))=some y4:=hf 4 _ rfl
  have h5:DataW.trod enc Tryz.prog w base (fun _=>true) held n 96 ((cs.drop 6).take (Tryz.prog.cellsOf 96))=some y5:=hf 5 _ rfl
  rw [cellsOf_int] at h0 h3 h4
  rw [cellsOf_bool] at h2
  rw [cellsOf_snd] at h1
  rw [cellsOf_pats] at h5
  match cs,hl with
  | [c0,c1,c2,c3,c4,c5,c6],_=>
  obtain⟨k,e0,_,_⟩:=DataW.trod_int Tryz.underlying3 h0
  obtain⟨a,b,e1,ha,hb⟩:=trod_snd h1
  obtain⟨nt,e2,_⟩:=DataW.trod_bool Tryz.underlying4 h2
  obtain⟨mn,e3,_,_⟩:=DataW.trod_int Tryz.underlying3 h3
  obtain⟨mx,e4,_,_⟩:=DataW.trod_int Tryz.underlying3 h4
  simp at e0 e1 e2 e3 e4
  obtain⟨e1,e1'⟩:=e1
  subst e0 e1 e1' e2 e3 e4
  rcases DataW.trod_slice Tryz.underlying96 h5 with ⟨h,_⟩ | ⟨A,len,cap,elems,rest,n2,hn2,h,_,_,hlc,hcm,hel,hx,_,_⟩
  ·simp at h
   subst h
   refine⟨.node k a b nt mn mx [],?_⟩
   unfold PatAt
   exact⟨none,0,rfl,ha,hb,by simp,by simp [maxLen],by unfold PatsAt;trivial⟩
  ·simp at h
   subst h
   rw [cellsOf_pat] at hx
   have hsp:0<len->A.spot=none:=by
    intro h0
    have key:=hx 0 h0
    rw [List.getElem?_eq_getElem (by omega)] at key
    obtain⟨cs',k1,k2⟩:=Option.bind_eq_some_iff.1 key
    obtain⟨s1,_⟩:=cells_range (by decide) k1
    simpa [Addr.add] using s1
   have each:∀ i,i<len->∃ p:Pat × List Value,A.spot=none/\A.block<w.heap.size/\w.rangeAt A.block (A.off+i*7) p.2/\PatAt (fun g=>g<w.heap.size) w p.1 p.2:=by
    intro i hi
    have key:=hx i hi
    rw [List.getElem?_eq_getElem (by omega)] at key
    obtain⟨cs',k1,k2⟩:=Option.bind_eq_some_iff.1 key
    obtain⟨s1,s2,s3,s4⟩:=cells_range (by decide) k1
    have k3:=DataW.trod_le (show n2<=n by omega) k2
    obtain⟨p,hp⟩:=ih k3
    have hs:=hsp (by omega)
    have e:A.add (i*7)=⟨A.block,A.off+i*7,none⟩:=by
     obtain⟨b,o,s⟩:=A
     simp only at hs
     subst hs
     exact add_plain _ _ _
    rw [e] at s2 s4
    exact⟨(p,cs'),hs,s2,s4,hp⟩
   obtain⟨f,hfp⟩:=Deep.choose_lt each
   refine⟨.node k a b nt mn mx ((List.range len).map fun i=>(f i).1),?_⟩
   unfold PatAt
   refine⟨some A,cap,by simp [patCells],ha,hb,by simpa using hlc,hcm,PatsAt.mk fun j hj=>?_⟩
   have hj':j<len:=by simpa using hj
   obtain⟨q1,q2,q3,q4⟩:=hfp j hj'
   refine⟨A.block,A.off,(f j).2,?_,q2,q2,by rw [Nat.zero_add];exact q3,by simpa using q4⟩
   obtain⟨b,o,s⟩:=A
   simp only at q1
   subst q1;rfl
theorem open_pat(hval:Value.okWide Tryz.prog w r b0 98 v)(hd:DataW.Trod enc Tryz.prog w base (fun _=>true) held 98 v d ps):∃(p:Pat) (cs:List Value),v=.agg cs.toArray/\PatAt (fun g=>g<w.heap.size) w p cs:=by
 have:∃ cs,v=.agg cs/\cs.size=Tryz.prog.cellsOf 98:=by
  unfold Value.okWide at hval
  rw [Tryz.underlying98] at hval
  obtain⟨cs,h1,h2,_⟩:=hval
  exact⟨cs,h1,h2⟩
 obtain⟨cs,rfl,hs⟩:=this
 obtain⟨fuel,hf⟩:=hd
 obtain⟨p,hp⟩:=trod_pat fuel hf
 exact⟨p,cs.toList,by simp,by simpa [Value.cells] using hp⟩
end
end Go.Proofs.YtfdlhlghcbeblaaGreatDoor
namespace Go.Ab
open Go.RowKit
def IfCap(l:LawD)(cs:List Value):Prop:=∃(io:Option Addr) (ic:Nat),cs[15]?=some (.slice io l.ifs.length ic)/\l.ifs.length<=ic
end Go.Ab
set_option maxRecDepth 100000
namespace Go.Proofs.YtfdlhlghcbeblaaGreatDoor
open Go.RowKit Go.Ab Go.ChangeShapes Go.WideShapes
theorem flat_len(f:Nat->List Value)(sz:Nat):∀ n,(∀ i,i<n->(f i).length=sz)->((List.range n).flatMap f).length=n*sz
 | 0,_=>by simp
 | n+1,h=>by
  rw [List.range_succ,List.flatMap_append,List.length_append,flat_len f sz n fun i hi=>h i (by omega)]
  simp only [List.flatMap_cons,List.flatMap_nil,List.append_nil]
  rw [h n (by omega),Nat.add_mul,Nat.one_mul]
theorem flat_get(f:Nat->List Value)(sz:Nat):∀ n,(∀ i,i<n->(f i).length=sz)->∀ i r,i<n->r<sz->((List.range n).flatMap f)[i*sz+r]?=(f i)[r]?
 | 0,_,i,r,h,_=>by omega
 | n+1,h,i,r,hi,hr=>by
  have hl:=flat_len f sz n fun i hi=>h i (by omega)
  rw [List.range_succ,List.flatMap_append]
  by_cases hin:i<n
  ·have:i*sz+r<n*sz:=by
    have:=Nat.mul_le_mul_right sz (show i+1<=n by omega)
    rw [Nat.add_mul,Nat.one_mul] at this
    omega
   rw [List.getElem?_append_left (by rw [hl];exact this)]
   exact flat_get f sz n (fun i hi=>h i (by omega)) i r hin hr
  ·obtain rfl:i=n:=by omega
   rw [List.getElem?_append_right (by rw [hl];omega),hl,show i*sz+r - i*sz=r by omega]
   simp
theorem rd_rows{w:World}{g off len cap sz:Nat}(f:Nat->List Value)(hsz:0<sz)(hf:∀ i,i<len->(f i).length=sz/\w.rangeAt g (off+i*sz) (f i)) (hg:0<len->g<w.heap.size) (hl:len<=maxLen) :
  Rd w (.slice (some ⟨g,off,none⟩) len cap) len sz ((List.range len).flatMap f):=by
 have hlen:=flat_len f sz len fun i hi=>(hf i hi).1
 refine⟨hlen,hl,_,_,rfl,fun h0=>⟨g,off,rfl,hg h0,fun j hj=>?_⟩⟩
 have hi:j / sz<len:=(Nat.div_lt_iff_lt_mul hsz).2 hj
 have hr:j % sz<sz:=Nat.mod_lt _ hsz
 have he:j / sz*sz+j % sz=j:=by rw [Nat.mul_comm];exact Nat.div_add_mod j sz
 have h1:=flat_get f sz len (fun i hi=>(hf i hi).1) (j / sz) (j % sz) hi hr
 rw [he] at h1
 have h2:=(hf _ hi).2 (j % sz) _ (List.getElem?_eq_getElem (by rw [(hf _ hi).1];exact hr))
 rw [Nat.add_assoc,he] at h2
 rw [h2,List.getD_eq_getElem?_getD,h1,List.getElem?_eq_getElem (by rw [(hf _ hi).1];exact hr)]
 rfl
section
variable {H:Type} {enc:TypeId × Value->H} {w:World} {base b0:Nat} {held:Bool} {r:Reach} {v:Value} {d:DataW H} {ps:List MemPlace}
theorem cellsOf_out:Tryz.prog.cellsOf 109=6:=by kernel_rfl
theorem cellsOf_law:Tryz.prog.cellsOf 102=18:=by kernel_rfl
theorem cellsOf_outs:Tryz.prog.cellsOf 100=1:=by kernel_rfl
theorem cellsOf_word:Tryz.prog.cellsOf 99=1:=by kernel_rfl
theorem cellsOf_str:Tryz.prog.cellsOf 9=1:=by kernel_rfl
theorem trod_rowsc{α:Type} [Inhabited α] {t e:TypeId} {sz fuel:Nat} {c:Value} {x:DataW H × List MemPlace} (ht:Tryz.prog.underlying t=some (.slice e)) (hsz:Tryz.prog.cellsOf e=sz) (h0:0<sz) (cells:α->List Value) (ok:α->Prop)
  (hrow:∀ {n cs y},DataW.trod enc Tryz.prog w base (fun _=>true) held n e cs=some y->∃ p:α,cs=cells p/\ok p)
  (h:DataW.trod enc Tryz.prog w base (fun _=>true) held fuel t [c]=some x):∃ l:List α,Rd w c l.length sz (l.flatMap cells)/\(∀ p∈l,ok p)/\∃ vo vc,c=.slice vo l.length vc/\l.length<=vc:=by
 rcases DataW.trod_slice ht h with ⟨h,_⟩ | ⟨A,len,cap,elems,rest,n2,hn2,h,_,_,hlc,hcm,hel,hx,_,_⟩
 ·simp at h
  subst h
  exact⟨[],⟨by simp,by simp [maxLen],none,0,rfl,fun h=>by simp at h⟩,fun p hp=>by simp at hp,none,0,rfl,Nat.le_refl _⟩
 ·simp at h
  subst h
  rw [hsz] at hx
  have hsp:0<len->A.spot=none:=by
   intro hl
   have key:=hx 0 hl
   rw [List.getElem?_eq_getElem (by omega)] at key
   obtain⟨cs',k1,k2⟩:=Option.bind_eq_some_iff.1 key
   obtain⟨s1,_⟩:=cells_range h0 k1
   simpa [Addr.add] using s1
  have each:∀ i,i<len->∃ p:α,A.spot=none/\A.block<w.heap.size/\(cells p).length=sz/\w.rangeAt A.block (A.off+i*sz) (cells p)/\ok p:=by
   intro i hi
   have key:=hx i hi
   rw [List.getElem?_eq_getElem (by omega)] at key
   obtain⟨cs',k1,k2⟩:=Option.bind_eq_some_iff.1 key
   obtain⟨s1,s2,s3,s4⟩:=cells_range h0 k1
   obtain⟨p,rfl,hp⟩:=hrow k2
   have hs:=hsp (by omega)
   have e:A.add (i*sz)=⟨A.block,A.off+i*sz,none⟩:=by
    obtain⟨b,o,s⟩:=A
    simp only at hs
    subst hs
    exact add_plain _ _ _
   rw [e] at s2 s4
   exact⟨p,hs,s2,s3,s4,hp⟩
  obtain⟨f,hfp⟩:=Deep.choose_lt each
  have hlen:len<=maxLen:=Nat.le_trans hlc hcm
  refine⟨(List.range len).map f,?_,fun p hp=>?_,some A,cap,by rw [List.length_map,List.length_range],by rw [List.length_map,List.length_range];exact hlc⟩
  ·rw [List.length_map,List.length_range,List.flatMap_map]
   by_cases hl:0<len
   ·have hs:=(hfp 0 hl).1
    have e:A=⟨A.block,A.off,none⟩:=by obtain⟨b,o,s⟩:=A;simp only at hs;subst hs;rfl
    rw [e]
    exact rd_rows (fun i=>cells (f i)) h0 (fun i hi=>⟨(hfp i hi).2.2.1,(hfp i hi).2.2.2.1⟩) (fun _=>(hfp 0 hl).2.1) hlen
   ·obtain rfl:len=0:=by omega
    exact⟨by simp,hlen,some A,cap,rfl,fun h=>by omega⟩
  ·obtain⟨i,hi,rfl⟩:=List.mem_map.1 hp
   exact(hfp i (List.mem_range.1 hi)).2.2.2.2
theorem trod_rows{α:Type} [Inhabited α] {t e:TypeId} {sz fuel:Nat} {c:Value} {x:DataW H × List MemPlace} (ht:Tryz.prog.underlying t=some (.slice e)) (hsz:Tryz.prog.cellsOf e=sz) (h0:0<sz) (cells:α->List Value) (ok:α->Prop)
  (hrow:∀ {n cs y},DataW.trod enc Tryz.prog w base (fun _=>true) held n e cs=some y->∃ p:α,cs=cells p/\ok p)
  (h:DataW.trod enc Tryz.prog w base (fun _=>true) held fuel t [c]=some x):∃ l:List α,Rd w c l.length sz (l.flatMap cells)/\∀ p∈l,ok p:=by
 obtain⟨l,h1,h2,_⟩:=trod_rowsc ht hsz h0 cells ok hrow h
 exact⟨l,h1,h2⟩
theorem trod_wordc{fuel:Nat}{c:Value}{x:DataW H × List MemPlace}(h:DataW.trod enc Tryz.prog w base (fun _=>true) held fuel 99 [c]=some x):∃(ws:Wd) (vo:Option Addr) (vc:Nat),c=.slice vo ws.length vc/\WordAt w (.slice vo ws.length vc) ws/\ws.length<=vc:=by
 obtain⟨l,h1,h2,vo,vc,h3,h4⟩:=trod_rowsc (α:=Nat × Nat) Tryz.underlying99 cellsOf_snd (by decide) (fun s=>[Value.int .u32 (s.1:Int),Value.int .u32 (s.2:Int)]) (fun s=>s.1<4294967296/\s.2<4294967296)
  (fun h=>by obtain⟨a,b,q,ha,hb⟩:=trod_snd h;exact⟨(a,b),q,ha,hb⟩) h
 subst h3
 exact⟨l,vo,vc,rfl,⟨h1,h2⟩,h4⟩
theorem open_wordc(hval:Value.okWide Tryz.prog w r b0 99 v)(hd:DataW.Trod enc Tryz.prog w base (fun _=>true) held 99 v d ps):∃(ws:Wd) (vo:Option Addr) (vc:Nat),v=.slice vo ws.length vc/\WordAt w (.slice vo ws.length vc) ws/\ws.length<=vc:=by
 obtain⟨ao,len,cap,rfl⟩:=okWide_slice Tryz.underlying99 hval
 obtain⟨fuel,hf⟩:=hd
 have hf:DataW.trod enc Tryz.prog w base (fun _=>true) held fuel 99 [.slice ao len cap]=some (d,ps):=by simpa [Value.cells] using hf
 exact trod_wordc hf
theorem trod_word{fuel:Nat}{c:Value}{x:DataW H × List MemPlace}(h:DataW.trod enc Tryz.prog w base (fun _=>true) held fuel 99 [c]=some x):∃ ws:Wd,WordAt w c ws:=by
 obtain⟨l,h1,h2⟩:=trod_rows (α:=Nat × Nat) Tryz.underlying99 cellsOf_snd (by decide) (fun s=>[Value.int .u32 (s.1:Int),Value.int .u32 (s.2:Int)]) (fun s=>s.1<4294967296/\s.2<4294967296)
  (fun h=>by obtain⟨a,b,q,ha,hb⟩:=trod_snd h;exact⟨(a,b),q,ha,hb⟩) h
 exact⟨l,h1,h2⟩
instance:Inhabited OutD:=⟨⟨0,0,(0,0),0,0⟩⟩
theorem trod_out{fuel:Nat}{cs:List Value}{x:DataW H × List MemPlace}(h:DataW.trod enc Tryz.prog w base (fun _=>true) held fuel 109 cs=some x):∃ o:OutD,cs=outCells o/\OutOk o:=by
 obtain⟨xs,n,rfl,_,hl,hxl,hf⟩:=DataW.trod_struct Tryz.underlying109 h
 rw [cellsOf_out] at hl
 have hxl:xs.length=5:=hxl
 match xs,hxl with
 | [y0,y1,y2,y3,y4],_=>
 have h0:DataW.trod enc Tryz.prog w base (fun _=>true) held n 3 ((cs.drop 0).take (Tryz.prog.cellsOf 3))=some y0:=hf 0 _ rfl
 have h1:DataW.trod enc Tryz.prog w base (fun _=>true) held n 93 ((cs.drop 1).take (Tryz.prog.cellsOf 93))=some y1:=hf 1 _ rfl
 have h2:DataW.trod enc Tryz.prog w base (fun _=>true) held n 95 ((cs.drop 2).take (Tryz.prog.cellsOf 95))=some y2:=hf 2 _ rfl
 have h3:DataW.trod enc Tryz.prog w base (fun _=>true) held n 93 ((cs.drop 4).take (Tryz.prog.cellsOf 93))=some y3:=hf 3 _ rfl
 have h4:DataW.trod enc Tryz.prog w base (fun _=>true) held n 3 ((cs.drop 5).take (Tryz.prog.cellsOf 3))=some y4:=hf 4 _ rfl
 rw [cellsOf_int] at h0 h4
 rw [cellsOf_u32] at h1 h3
 rw [cellsOf_snd] at h2
 match cs,hl with
 | [c0,c1,c2,c3,c4,c5],_=>
 obtain⟨k,e0,_,_⟩:=DataW.trod_int Tryz.underlying3 h0
 obtain⟨m1,e1,_,w1⟩:=DataW.trod_int Tryz.underlying93 h1
 obtain⟨a,b,e2,ha,hb⟩:=trod_snd h2
 obtain⟨m3,e3,_,w3⟩:=DataW.trod_int Tryz.underlying93 h3
 obtain⟨m4,e4,_,_⟩:=DataW.trod_int Tryz.underlying3 h4
 obtain⟨cl,rfl,hcl⟩:=nat_u32 w1
 obtain⟨tk,rfl,htk⟩:=nat_u32 w3
 simp at e0 e1 e2 e3 e4
 obtain⟨e2,e2'⟩:=e2
 subst e0 e1 e2 e2' e3 e4
 exact⟨⟨k,cl,(a,b),tk,m4⟩,rfl,hcl,⟨ha,hb⟩,htk⟩
theorem open_lawc(hval:Value.okWide Tryz.prog w r b0 102 v)(hd:DataW.Trod enc Tryz.prog w base (fun _=>true) held 102 v d ps):∃(l:LawD) (cs:List Value),v=.agg cs.toArray/\LawAt w l cs/\IfCap l cs:=by
 have:∃ cs,v=.agg cs/\cs.size=Tryz.prog.cellsOf 102:=by
  unfold Value.okWide at hval
  rw [Tryz.underlying102] at hval
  obtain⟨cs,h1,h2,_⟩:=hval
  exact⟨cs,h1,h2⟩
 obtain⟨cs,rfl,hs⟩:=this
 obtain⟨fuel,hf⟩:=hd
 obtain⟨cs,rfl⟩:∃ l:List Value,cs=l.toArray:=⟨cs.toList,by simp⟩
 have hf:DataW.trod enc Tryz.prog w base (fun _=>true) held fuel 102 cs=some (d,ps):=by simpa [Value.cells] using hf
 obtain⟨xs,n,rfl,_,hl,hxl,hf⟩:=DataW.trod_struct Tryz.underlying102 hf
 rw [cellsOf_law] at hl
 have hxl:xs.length=6:=hxl
 match xs,hxl with
 | [y0,y1,y2,y3,y4,y5],_=>
 have h0:DataW.trod enc Tryz.prog w base (fun _=>true) held n 9 ((cs.drop 0).take (Tryz.prog.cellsOf 9))=some y0:=hf 0 _ rfl
 have h1:DataW.trod enc Tryz.prog w base (fun _=>true) held n 98 ((cs.drop 1).take (Tryz.prog.cellsOf 98))=some y1:=hf 1 _ rfl
 have h2:DataW.trod enc Tryz.prog w base (fun _=>true) held n 98 ((cs.drop 8).take (Tryz.prog.cellsOf 98))=some y2:=hf 2 _ rfl
 have h3:DataW.trod enc Tryz.prog w base (fun _=>true) held n 99 ((cs.drop 15).take (Tryz.prog.cellsOf 99))=some y3:=hf 3 _ rfl
 have h4:DataW.trod enc Tryz.prog w base (fun _=>true) held n 100 ((cs.drop 16).take (Tryz.prog.cellsOf 100))=some y4:=hf 4 _ rfl
 have h5:DataW.trod enc Tryz.prog w base (fun _=>true) held n 3 ((cs.drop 17).take (Tryz.prog.cellsOf 3))=some y5:=hf 5 _ rfl
 rw [cellsOf_str] at h0
 rw [cellsOf_pat] at h1 h2
 rw [cellsOf_word] at h3
 rw [cellsOf_outs] at h4
 rw [cellsOf_int] at h5
 match cs,hl with
 | [c0,c1,c2,c3,c4,c5,c6,c7,c8,c9,c10,c11,c12,c13,c14,c15,c16,c17],_=>
 obtain⟨s,e0,_,hsz⟩:=DataW.trod_string Tryz.underlying9 h0
 obtain⟨left,hleft⟩:=trod_pat n h1
 obtain⟨right,hright⟩:=trod_pat n h2
 obtain⟨ws,vo,vc,rfl,hws,hcap⟩:=trod_wordc (c:=c15) h3
 obtain⟨outs,ho1,ho2⟩:=trod_rows (c:=c16) Tryz.underlying100 cellsOf_out (by decide) outCells OutOk (fun h=>trod_out h) h4
 obtain⟨mode,e5,_,_⟩:=DataW.trod_int Tryz.underlying3 h5
 simp at e0 e5
 subst e0 e5
 exact⟨⟨s,left,right,ws,outs,mode⟩,_,rfl,⟨[c1,c2,c3,c4,c5,c6,c7],[c8,c9,c10,c11,c12,c13,c14],_,c16,rfl,hsz,hleft,hright,hws,ho1,ho2⟩,vo,vc,rfl,hcap⟩
theorem open_law(hval:Value.okWide Tryz.prog w r b0 102 v)(hd:DataW.Trod enc Tryz.prog w base (fun _=>true) held 102 v d ps):∃(l:LawD) (cs:List Value),v=.agg cs.toArray/\LawAt w l cs:=by
 obtain⟨l,cs,h1,h2,_⟩:=open_lawc hval hd
 exact⟨l,cs,h1,h2⟩
end
end Go.Proofs.YtfdlhlghcbeblaaGreatDoor
set_option maxRecDepth 100000
namespace Go.Proofs.YtfdlhlghcbeblaaGreatDoor
open Go.RowKit Go.Ab Go.ChangeShapes Go.WideShapes
section
variable {H:Type} {enc:TypeId × Value->H} {w:World} {base b0:Nat} {held:Bool} {r:Reach} {v:Value} {d:DataW H} {ps:List MemPlace}
theorem trod_law{fuel:Nat}{cs:List Value}{x:DataW H × List MemPlace}(hf:DataW.trod enc Tryz.prog w base (fun _=>true) held fuel 102 cs=some x):∃ p:LawD × List Value,cs=p.2/\LawAt w p.1 p.2:=by
 obtain⟨xs,n,rfl,_,hl,hxl,hf⟩:=DataW.trod_struct Tryz.underlying102 hf
 rw [cellsOf_law] at hl
 have hxl:xs.length=6:=hxl
 match xs,hxl with
 | [y0,y1,y2,y3,y4,y5],_=>
 have h0:DataW.trod enc Tryz.prog w base (fun _=>true) held n 9 ((cs.drop 0).take (Tryz.prog.cellsOf 9))=some y0:=hf 0 _ rfl
 have h1:DataW.trod enc Tryz.prog w base (fun _=>true) held n 98 ((cs.drop 1).take (Tryz.prog.cellsOf 98))=some y1:=hf 1 _ rfl
 have h2:DataW.trod enc Tryz.prog w base (fun _=>true) held n 98 ((cs.drop 8).take (Tryz.prog.cellsOf 98))=some y2:=hf 2 _ rfl
 have h3:DataW.trod enc Tryz.prog w base (fun _=>true) held n 99 ((cs.drop 15).take (Tryz.prog.cellsOf 99))=some y3:=hf 3 _ rfl
 have h4:DataW.trod enc Tryz.prog w base (fun _=>true) held n 100 ((cs.drop 16).take (Tryz.prog.cellsOf 100))=some y4:=hf 4 _ rfl
 have h5:DataW.trod enc Tryz.prog w base (fun _=>true) held n 3 ((cs.drop 17).take (Tryz.prog.cellsOf 3))=some y5:=hf 5 _ rfl
 rw [cellsOf_str] at h0
 rw [cellsOf_pat] at h1 h2
 rw [cellsOf_word] at h3
 rw [cellsOf_outs] at h4
 rw [cellsOf_int] at h5
 match cs,hl with
 | [c0,c1,c2,c3,c4,c5,c6,c7,c8,c9,c10,c11,c12,c13,c14,c15,c16,c17],_=>
 obtain⟨s,e0,_,hsz⟩:=DataW.trod_string Tryz.underlying9 h0
 obtain⟨left,hleft⟩:=trod_pat n h1
 obtain⟨right,hright⟩:=trod_pat n h2
 obtain⟨ws,vo,vc,rfl,hws,hcap⟩:=trod_wordc (c:=c15) h3
 obtain⟨outs,ho1,ho2⟩:=trod_rows (c:=c16) Tryz.underlying100 cellsOf_out (by decide) outCells OutOk (fun h=>trod_out h) h4
 obtain⟨mode,e5,_,_⟩:=DataW.trod_int Tryz.underlying3 h5
 simp at e0 e5
 subst e0 e5
 exact⟨(⟨s,left,right,ws,outs,mode⟩,_),rfl,⟨[c1,c2,c3,c4,c5,c6,c7],[c8,c9,c10,c11,c12,c13,c14],_,c16,rfl,hsz,hleft,hright,hws,ho1,ho2⟩⟩
instance:Inhabited LawD:=⟨⟨⟨#[]⟩,.node 0 0 0 false 0 0 [],.node 0 0 0 false 0 0 [],[],[],0⟩⟩
theorem open_laws(hval:Value.okWide Tryz.prog w r b0 26 v)(hd:DataW.Trod enc Tryz.prog w base (fun _=>true) held 26 v d ps):∃(ls:LawsL) (vo:Option Addr) (vc:Nat),v=.slice vo ls.length vc/\LawsAt w (.slice vo ls.length vc) ls/\ls.length<=vc:=by
 obtain⟨ao,len,cap,rfl⟩:=okWide_slice Tryz.underlying26 hval
 obtain⟨fuel,hf⟩:=hd
 have hf:DataW.trod enc Tryz.prog w base (fun _=>true) held fuel 26 [.slice ao len cap]=some (d,ps):=by simpa [Value.cells] using hf
 obtain⟨l,h1,h2,vo,vc,h3,h4⟩:=trod_rowsc (α:=LawD × List Value) Tryz.underlying26 cellsOf_law (by decide) (fun p=>p.2) (fun p=>LawAt w p.1 p.2) (fun h=>trod_law h) hf
 rw [h3] at h1
 exact⟨l,vo,vc,h3,⟨h1,h2⟩,h4⟩
theorem cellsOf_pair2:Tryz.prog.cellsOf 105=2:=by kernel_rfl
theorem trod_pair{fuel:Nat}{cs:List Value}{x:DataW H × List MemPlace}(hf:DataW.trod enc Tryz.prog w base (fun _=>true) held fuel 105 cs=some x):∃ p:(Wd × Wd) × List Value,cs=p.2/\(p.2.length=2/\PairOk w p.1 p.2):=by
 obtain⟨xs,n,rfl,_,hl,hxl,hf⟩:=DataW.trod_struct Tryz.underlying105 hf
 rw [cellsOf_pair2] at hl
 have hxl:xs.length=2:=hxl
 match xs,hxl with
 | [y0,y1],_=>
 have h0:DataW.trod enc Tryz.prog w base (fun _=>true) held n 99 ((cs.drop 0).take (Tryz.prog.cellsOf 99))=some y0:=hf 0 _ rfl
 have h1:DataW.trod enc Tryz.prog w base (fun _=>true) held n 99 ((cs.drop 1).take (Tryz.prog.cellsOf 99))=some y1:=hf 1 _ rfl
 rw [cellsOf_word] at h0 h1
 match cs,hl with
 | [c0,c1],_=>
 obtain⟨us,uo,uc,rfl,hus,hu⟩:=trod_wordc (c:=c0) h0
 obtain⟨vs,vo,vc,rfl,hvs,hv⟩:=trod_wordc (c:=c1) h1
 exact⟨((us,vs),[.slice uo us.length uc,.slice vo vs.length vc]),rfl,rfl,_,_,rfl,⟨uo,uc,rfl,hus,hu⟩,⟨vo,vc,rfl,hvs,hv⟩⟩
theorem open_prs(hval:Value.okWide Tryz.prog w r b0 61 v)(hd:DataW.Trod enc Tryz.prog w base (fun _=>true) held 61 v d ps):∃(ls:PairsL) (vo:Option Addr) (vc:Nat),v=.slice vo ls.length vc/\PairsAt w (.slice vo ls.length vc) ls/\ls.length<=vc:=by
 obtain⟨ao,len,cap,rfl⟩:=okWide_slice Tryz.underlying61 hval
 obtain⟨fuel,hf⟩:=hd
 have hf:DataW.trod enc Tryz.prog w base (fun _=>true) held fuel 61 [.slice ao len cap]=some (d,ps):=by simpa [Value.cells] using hf
 obtain⟨l,h1,h2,vo,vc,h3,h4⟩:=trod_rowsc (α:=(Wd × Wd) × List Value) Tryz.underlying61 cellsOf_pair2 (by decide) (fun p=>p.2) (fun p=>p.2.length=2/\PairOk w p.1 p.2) (fun h=>trod_pair h) hf
 rw [h3] at h1
 exact⟨l,vo,vc,h3,⟨h1,h2⟩,h4⟩
theorem open_intsV(hval:Value.okWide Tryz.prog w r b0 48 v)(hd:DataW.Trod enc Tryz.prog w base (fun _=>true) held 48 v d ps):∃(xs:List Int) (vo:Option Addr) (vc:Nat),v=.slice vo xs.length vc/\Rd w (.slice vo xs.length vc) xs.length 1 (intV xs):=by
 obtain⟨l,h,_⟩:=open_ints_rd Tryz.underlying48 Tryz.underlying3 (by kernel_rfl) hval hd
 have h2:=h
 obtain⟨_,_,ao,cap,rfl,_⟩:=h2
 exact⟨l,ao,cap,rfl,h⟩
end
end Go.Proofs.YtfdlhlghcbeblaaGreatDoor
