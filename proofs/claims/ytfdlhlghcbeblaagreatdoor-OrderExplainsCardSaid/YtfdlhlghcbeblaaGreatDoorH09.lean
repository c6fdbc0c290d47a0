/- PLAIN: the replacements of a law, in the three modes: places, and words. H: is a place hit; P: what is put in for what is cut out; k sounds are cut. No program is named. PLAIN: what a law is, and what it does to a word. A range over a function whose iterator makes blocks of its own (O) and turns them, and whose yielded values are known by a relation. No program is named. slices.Collect over a set; pats.Ends. slices.Collect over a set; pats.Ends. -/
import Derived.Test.YtfdlhlghcbeblaaGreatDoorH00
import Derived.Test.YtfdlhlghcbeblaaGreatDoorH08
import Derived.Test.YtfdlhlghcbeblaaGreatDoorH06
namespace Go.Ab
section
variable {α:Type} (H:List α->Nat->Bool) (P:List α->List α) (k:Nat)
def repl(w:List α)(i:Nat):List α:=w.take i++P ((w.drop i).take k)++w.drop (i+k)
def allT(w:List α):Nat->Nat->List α->List (Nat × List α)
 | 0,_,_=>[]
 | n+1,i,d=>
  if H w i then
   (i,d++P ((w.drop i).take k)++w.drop (i+k))::(if k=0 then allT w n (i+1) (d++P ((w.drop i).take k)++(w.drop i).take 1) else allT w n (i+k) (d++P ((w.drop i).take k)))
  else allT w n (i+1) (d++(w.drop i).take 1)
def rightT(m:Nat):Nat->List α->Nat->List (Nat × List α)
 | 0,_,_=>[]
 | n+1,w,i=>
  if w.length<i+k then []
  else if H w i then(i,repl P k w i)::rightT m n (repl P k w i) (i+m+(if k=0 then 1 else 0))
  else rightT m n w (i+1)
def leftT:Nat->List α->Nat->List (Nat × List α)
 | 0,_,_=>[]
 | _+1,_,0=>[]
 | n+1,w,i+1=>
  if H w i then(i,repl P k w i)::leftT n (repl P k w i) (i+1 - max k 1)
  else leftT n w i
end
def longT{α:Type}(t:List (Nat × List α)):Bool:=t.any fun x=>decide (32<x.2.length)
def lastT{α:Type}(w:List α)(t:List (Nat × List α)):List α:=(t.map (·.2)).getLastD w
section
variable {α:Type} {H:List α->Nat->Bool} {P:List α->List α} {k m:Nat}
theorem repl_length(hP:∀ c,c.length=k->(P c).length=m) {w:List α} {i:Nat} (h:i+k<=w.length):(repl P k w i).length+k=w.length+m:=by
 unfold repl
 rw [List.length_append,List.length_append,List.length_take,List.length_drop,hP _ (by rw [List.length_take,List.length_drop];omega)]
 omega
end
end Go.Ab
namespace Go.Proofs.YtfdlhlghcbeblaaGreatDoor
open Go.RowKit Go.Ab
def letB(c:UInt8):Bool:=(decide (97<=c.toNat) && decide (c.toNat<=122)) || (decide (65<=c.toNat) && decide (c.toNat<=90)) || (decide (48<=c.toNat) && decide (c.toNat<=57)) || decide (c.toNat=45)
def nameB(s:ByteArray):Bool:=decide (1<=s.size) && decide (s.size<=24) && s.data.toList.all letB
def fitB(k:Nat)(x:OutD):Bool:=
 decide (-1<=x.frm) && decide (x.frm<k) && okS x.st && decide (x.cl<16777216) && decide (x.tk<16777216) && decide (x.cl &&& (x.st.1 ||| x.st.2)=0) && decide (x.tk &&& (x.st.1 ||| x.st.2)=0) && decide (x.tk &&& x.cl=0) &&
  (if x.tk=0 then decide (x.ofi=0) else decide (0<=x.ofi) && decide (x.ofi<k))
def lawB(l:LawD):Bool:=
 nameB l.name && decide (chkP l.left=0) && decide (chkP l.right=0) && decide (l.ifs.length<=4) && decide (l.outs.length<=6) && decide (l.ifs.length+l.outs.length≠0) && decide (1<=l.mode) && decide (l.mode<=3) && l.ifs.all okS && l.outs.all (fitB l.ifs.length)
def lawE(l:LawD):Int:=if lawB l=true then 0 else 17
def lawW(l:LawD)(ws:Wd):Int:=if lawB l=true then wE ws else 17
def condB(l:LawD)(ws:Wd)(i:Nat):Bool:=decide (i+l.ifs.length<=ws.length) && (List.range l.ifs.length).all fun j=>satV (ws.getD (i+j) (0,0)) (l.ifs.getD j (0,0))
def fitsB(l:LawD)(ws:Wd)(i:Nat):Bool:=!(begL l.left ws (i:Int)).isEmpty && !(endL l.right ws ((i+l.ifs.length:Nat):Int)).isEmpty
def hitL(l:LawD)(ws:Wd)(i:Nat):Bool:=condB l ws i && fitsB l ws i
def hitsL(l:LawD)(ws:Wd):List Nat:=(List.range (ws.length+1)).filter (hitL l ws)
def outS(cut:Wd)(x:OutD):Nat × Nat:=
 if x.tk=0 then(chgV (if 0<=x.frm then cut.getD x.frm.toNat (0,0) else(0,0)) x.cl x.st).1
 else(takV (chgV (if 0<=x.frm then cut.getD x.frm.toNat (0,0) else(0,0)) x.cl x.st).1 (cut.getD x.ofi.toNat (0,0)) x.tk).1
def putL(l:LawD)(cut:Wd):Wd:=l.outs.map (outS cut)
def replL(l:LawD)(ws:Wd)(i:Nat):Wd:=repl (putL l) l.ifs.length ws i
def traceL(l:LawD)(ws:Wd):List (Nat × Wd):=
 if l.mode=1 then allT (hitL l) (putL l) l.ifs.length ws (ws.length+1) 0 []
 else if l.mode=2 then rightT (hitL l) (putL l) l.ifs.length l.outs.length (ws.length+1) ws 0
 else leftT (hitL l) (putL l) l.ifs.length (ws.length+1) ws (ws.length+1 - l.ifs.length)
def trE(l:LawD)(ws:Wd):Int:=if lawW l ws=0 then(if longT (traceL l ws)=true then 11 else 0) else lawW l ws
def trT(l:LawD)(ws:Wd):List (Nat × Wd):=if trE l ws=0 then traceL l ws else []
def appL(l:LawD)(ws:Wd):Wd:=if trE l ws=0 then lastT ws (traceL l ws) else []
theorem hit_le{l:LawD}{ws:Wd}{i:Nat}(h:hitL l ws i=true):i+l.ifs.length<=ws.length:=by
 unfold hitL condB at h
 simp only [Bool.and_eq_true,decide_eq_true_eq] at h
 exact h.1.1
theorem putL_length(l:LawD)(cut:Wd):(putL l cut).length=l.outs.length:=List.length_map ..
section
variable {α:Type} {H:List α->Nat->Bool} {P:List α->List α} {k:Nat}
theorem allT_skip(w:List α):∀(c n i:Nat) (d:List α),(∀ j,i<=j->j<i+c->H w j=false)->allT H P k w (n+c) i d=allT H P k w n (i+c) (d++(w.drop i).take c)
 | 0,n,i,d,_=>by simp
 | c+1,n,i,d,h=>by
  rw [show n+(c+1)=(n+c)+1 from by omega]
  conv=>lhs;unfold allT
  rw [if_neg (by rw [h i (by omega) (by omega)];decide),allT_skip w c n (i+1) _ (fun j h1 h2=>h j (by omega) (by omega)),show i+1+c=i+(c+1) by omega,List.append_assoc]
  congr 2
  rw [show (w.drop i).take (c+1)=(w.drop i).take 1++((w.drop i).drop 1).take c from by
   rw [show c+1=1+c by omega,List.take_add]]
  rw [List.drop_drop]
theorem allT_none(w:List α):∀(n i:Nat) (d:List α),(∀ j,i<=j->H w j=false)->allT H P k w n i d=[]
 | 0,_,_,_=>rfl
 | n+1,i,d,h=>by
  unfold allT
  rw [if_neg (by rw [h i (by omega)];decide)]
  exact allT_none w n (i+1) _ (fun j hj=>h j (by omega))
end
theorem pair_split{p:Nat->Bool}{n:Nat}{pre rest:List Nat}{a:Nat}(h:(List.range n).filter p=pre++a::rest) :
  p a=true/\a<n/\(∀ j,j<a->p j=true->j∈pre)/\(∀ j∈pre,j<a):=by
 have hs:((List.range n).filter p).Pairwise (· < ·):=List.Pairwise.filter _ List.pairwise_lt_range
 have ha:a∈(List.range n).filter p:=by rw [h];simp
 have ha:=List.mem_filter.1 ha
 rw [h,List.pairwise_append] at hs
 obtain⟨h1,h2,h3⟩:=hs
 refine⟨ha.2,List.mem_range.1 ha.1,fun j hj hp=>?_,fun j hj=>h3 j hj a (by simp)⟩
 have hm:j∈(List.range n).filter p:=List.mem_filter.2 ⟨List.mem_range.2 (by have:=List.mem_range.1 ha.1;omega),hp⟩
 rw [h] at hm
 rcases List.mem_append.1 hm with hm | hm
 ·exact hm
 ·rcases List.mem_cons.1 hm with rfl | hm
  ·omega
  ·have:=(List.pairwise_cons.1 h2).1 j hm;omega
def AllAt(l:LawD)(ws:Wd)(pre:List Nat)(tr:List (Nat × Wd)) (next:Nat) (d:Wd):Prop:=
 (∃ n,ws.length+1 - next<=n/\traceL l ws=tr++allT (hitL l) (putL l) l.ifs.length ws n next d)/\(∀ j∈pre,j<next)/\(next<=ws.length->d.length+tr.length*l.ifs.length=next+tr.length*l.outs.length)
theorem AllAt.start{l:LawD}{ws:Wd}(h:l.mode=1):AllAt l ws [] [] 0 []:=
 ⟨⟨ws.length+1,by omega,by unfold traceL;rw [if_pos h];rfl⟩,fun _ h=>by simp at h,fun _=>by simp⟩
theorem AllAt.pass{l:LawD}{ws:Wd}{pre:List Nat}{tr:List (Nat × Wd)} {next a:Nat} {d:Wd} (h:AllAt l ws pre tr next d) (ha:a<next):AllAt l ws (pre++[a]) tr next d:=
 ⟨h.1,fun j hj=>by rcases List.mem_append.1 hj with hj | hj;exact h.2.1 j hj;simp at hj;omega,h.2.2⟩
theorem AllAt.hit{l:LawD}{ws:Wd}{pre rest:List Nat}{tr:List (Nat × Wd)} {next a:Nat} {d:Wd} (h:AllAt l ws pre tr next d) (hx:hitsL l ws=pre++a::rest) (ha:next<=a) :
  ∃ d1,d1=d++(ws.drop next).take (a - next)/\d1.length+tr.length*l.ifs.length=a+tr.length*l.outs.length /\
   AllAt l ws (pre++[a]) (tr++[(a,d1++putL l ((ws.drop a).take l.ifs.length)++ws.drop (a+l.ifs.length))]) (a+max l.ifs.length 1) (if l.ifs.length=0 then d1++putL l ((ws.drop a).take l.ifs.length)++(ws.drop a).take 1 else d1++putL l ((ws.drop a).take l.ifs.length)):=by
 obtain⟨⟨n,hn,ht⟩,h2,h3⟩:=h
 obtain⟨p1,p2,p3,p4⟩:=pair_split hx
 have hle:=hit_le p1
 have hno:∀ j,next<=j->j<next+(a - next)->hitL l ws j=false:=fun j hj1 hj2=>by
  cases hh:hitL l ws j with
  | false=>rfl
  | true=>have:=h2 j (p3 j (by omega) hh);omega
 have hlen:(d++(ws.drop next).take (a - next)).length+tr.length*l.ifs.length=a+tr.length*l.outs.length:=by
  have:=h3 (by omega)
  rw [List.length_append,List.length_take,List.length_drop];omega
 refine⟨_,rfl,hlen,?_,?_,?_⟩
 ·obtain⟨n',rfl⟩:∃ n',n=n'+(a - next):=⟨n - (a - next),by omega⟩
  rw [allT_skip ws (a - next) n' next d hno,show next+(a - next)=a by omega] at ht
  obtain⟨n'',rfl⟩:∃ n'',n'=n''+1:=⟨n' - 1,by omega⟩
  unfold allT at ht
  rw [if_pos p1] at ht
  refine⟨n'',by omega,?_⟩
  rw [ht]
  by_cases hk:l.ifs.length=0
  ·rw [if_pos hk,if_pos hk,show a+max l.ifs.length 1=a+1 by omega];simp
  ·rw [if_neg hk,if_neg hk,show a+max l.ifs.length 1=a+l.ifs.length by omega];simp
 ·intro j hj
  rcases List.mem_append.1 hj with hj | hj
  ·have:=p4 j hj;omega
  ·simp at hj;omega
 ·intro hlen2
  rw [List.length_append,List.length_singleton,Nat.add_mul,Nat.add_mul]
  by_cases hk:l.ifs.length=0
  ·rw [if_pos hk,List.length_append,List.length_append,putL_length,List.length_take,List.length_drop];rw [hk] at hlen hlen2 ⊢;simp at hlen hlen2 ⊢;omega
  ·rw [if_neg hk,List.length_append,putL_length];omega
theorem AllAt.done{l:LawD}{ws:Wd}{tr:List (Nat × Wd)} {next:Nat} {d:Wd} (h:AllAt l ws (hitsL l ws) tr next d):traceL l ws=tr:=by
 obtain⟨⟨n,hn,ht⟩,h2,h3⟩:=h
 rw [ht,allT_none,List.append_nil]
 intro j hj
 cases hh:hitL l ws j with
 | false=>rfl
 | true=>
  have:=h2 j (List.mem_filter.2 ⟨List.mem_range.2 (by have:=hit_le hh;omega),hh⟩)
  omega
end Go.Proofs.YtfdlhlghcbeblaaGreatDoor
namespace Go.Ab
open Go.RowKit
def IterO{α:Type}(P:Program)(gf:Nat)(lb:Array Value)(M:Nat->Nat->Prop)(E:Nat->(Nat->Prop)->α->World->Array Value->Prop) (xs:List α) (K:Nat->Prop) (w:World):Prop:=
 ∀(l:Nat) (J Jx:(Nat->Prop)->List α->World->Prop) (W:World),Turn (fun b=>¬ K b) w W ->
  (∀ O O' pre A B,J O pre A->Turn (fun b=>O b/\M W.heap.size b) A B->(∀ b,O' b->(O b\/A.heap.size<=b)/\b<B.heap.size)->J O' pre B) ->
  (∀ O O' pre A B,Jx O pre A->Turn (fun b=>O b/\M W.heap.size b) A B->(∀ b,O' b->(O b\/A.heap.size<=b)/\b<B.heap.size)->Jx O' pre B) ->
  (∀ O pre x rest A ys,xs=pre++x::rest->J O pre A->E W.heap.size O x A ys->YieldAt Fence.wide 0 P l ys A fun e B=>
   (e=.returned (.bool true)/\J O (pre++[x]) B/\Turn (fun b=>¬ K b/\¬ O b) A B)\/(e=.returned (.bool false)/\Jx O (pre++[x]) B/\Turn (fun b=>¬ K b/\¬ O b) A B)) ->
  J (fun _=>False) [] W ->
  Calls P gf (#[.func (.yield l) #[] #[]]++lb) W fun e B=>(∃ v,e=.returned v)/\∃ O,(J O xs B\/∃ pre x rest,xs=pre++x::rest/\Jx O (pre++[x]) B)
theorem wp_rangeO{α:Type}{P:Program}{g:Operand}{ps:Array Tmp}{assign body:Code}{Q:Exit->Act->World->Prop}{a:Act}{w:World}
  {gf:Nat} {lb:Array Value} (hg:a.eval g=.func (.func gf) #[] lb) (eg:∀ args w,(callFunc gf args).run P w=.ok (.enter gf args) w)
  {M:Nat->Nat->Prop} {E:Nat->(Nat->Prop)->α->World->Array Value->Prop} {xs:List α} {K:Nat->Prop} (hseq:IterO P gf lb M E xs K w) (hK:∀ b,K b->b<w.heap.size) (hps:∀ n O x A ys,E n O x A ys->ys.size=ps.size)
  (hEs:∀ n O x A B ys,E n O x A ys->Turn (fun b=>b=w.heap.size+1) A B->(∃ o,A.heap[w.heap.size+1]?=some o/\o.isCells=false)->E n O x B ys)
  (I:(Nat->Prop)->List α->World->Prop) (Ix:Code->(Nat->Prop)->List α->World->Prop)
  (hI:∀ O O' pre A B,I O pre A->(∀ b,O b->w.heap.size+2<=b/\b<A.heap.size)->Turn (fun b=>(O b/\M (w.heap.size+2) b)\/b=w.heap.size+1) A B->(∀ b,O' b->(O b\/A.heap.size<=b)/\b<B.heap.size)->I O' pre B)
  (hIx:∀ c O O' pre A B,Ix c O pre A->(∀ b,O b->w.heap.size+2<=b/\b<A.heap.size)->Turn (fun b=>(O b/\M (w.heap.size+2) b)\/b=w.heap.size+1) A B->(∀ b,O' b->(O b\/A.heap.size<=b)/\b<B.heap.size)->Ix c O' pre B)
  (h0:∀ W,Ext w W->W.heap.size=w.heap.size+2->I (fun _=>False) [] W) (up:Array Value->Array Value->Array Value)
  (hassign:∀(n:Nat) (O:Nat->Prop) (x:α) (ys:Array Value) (W:World) (Kn:Act->World->Prop),E n O x W ys->Kn { tmps:=up ys a.tmps,defers:=[] } W ->
   assign.wpIn (Fence.wide.inRound (w.heap.size+1)) 0 P (Exit.then Kn (fun _ _ _=>False)) { tmps:=(ps.zip ys).foldl (fun t (p,v)=>t.setIfInBounds p v) a.tmps,defers:=[] } W)
  (hbody:∀(O:Nat->Prop) (pre:List α) (x:α) (rest:List α) (ys:Array Value) (W:World),xs=pre++x::rest->w.heap.size+2<=W.heap.size->(∀ b,O b->w.heap.size+2<=b/\b<W.heap.size)->Turn (fun b=>¬ K b) w W->I O pre W->E (w.heap.size+2) O x W ys ->
   body.wpIn (Fence.wide.inRound (w.heap.size+1)) 0 P (roundQ (fun b=>K b\/O b\/b=w.heap.size\/b=w.heap.size+1) (I O) (fun c=>Ix c O) (pre++[x]) W) { tmps:=up ys a.tmps,defers:=[] } W)
  (hdone:∀ O W,I O xs W->(∀ b,O b->w.heap.size+2<=b/\b<W.heap.size)->Turn (fun b=>¬ K b) w W->W.heap[w.heap.size]?=some (.deferred (some []))->Q .normal { a with defers:={ target:=.collected w.heap.size,args:=#[] }::a.defers } W)
  (hstop:∀ c O pre x rest W,xs=pre++x::rest->Ix c O (pre++[x]) W->W.heap[w.heap.size]?=some (.deferred (some []))->c.wp P Q { a with defers:={ target:=.collected w.heap.size,args:=#[] }::a.defers } W) :
  (Code.rangeFunc g ps assign body).wp P Q a w:=by
 refine(wpIn_wide (n:=0)).1 (wpIn_rangeFunc ?_)
 intro fn _
 obtain⟨rec,hrec⟩:∃ rec:LoopState->Option Code->Loop,rec=fun st pe=>{ state:=st,pending:=pe,fn,tmps:=a.tmps,params:=ps,assign,body,defers:=w.heap.size }:=⟨_,rfl⟩
 obtain⟨W1,hW1⟩:∃ W1,(w.alloc (.deferred (some []))).alloc (.loop (rec .ready none))=W1:=⟨_,rfl⟩
 have hL1:W1.heap[w.heap.size+1]?=some (.loop (rec .ready none)):=by
  rw [<-hW1];have:=World.alloc_heap_new (w.alloc (.deferred (some []))) (.loop (rec .ready none));rwa [World.size_alloc] at this
 have hD1:W1.heap[w.heap.size]?=some (.deferred (some [])):=by
  rw [<-hW1];exact(Below.heap_alloc _ _ _ (by simp)).trans (World.alloc_heap_new w _)
 have hE1:Ext w W1:=by rw [<-hW1];exact((Turn.refl _ w).alloc _).alloc _
 have hs1:W1.heap.size=w.heap.size+2:=by rw [<-hW1];simp
 have hput:∀(O:Nat->Prop) (X:World) o,Turn (fun b=>(O b/\M (w.heap.size+2) b)\/b=w.heap.size+1) X (X.putObj (w.heap.size+1) o):=fun O X o=>(Turn.refl _ X).putObj (.inr (.inr rfl)) o
 have hputK:∀(X:World) o,Turn (fun b=>¬ K b) X (X.putObj (w.heap.size+1) o):=fun X o=>(Turn.refl _ X).putObj (.inr (fun hk=>by have:=hK _ hk;omega)) o
 refine⟨w.heap.size+1,[{ target:=.collected w.heap.size,args:=#[] }],W1,{ target:=.fn (.func gf) lb,args:=#[.func (.yield (w.heap.size+1)) #[] #[]] },W1,gf,
  #[.func (.yield (w.heap.size+1)) #[] #[]]++lb,W1,?_,?_,fun _ _=>trivial,?_,fun h=>by simp [Fence.wide] at h,?_⟩
 ·rw [<-hW1,hrec];exact run_enterLoop_outer _ _ _ _ _
 ·simp only [resolve,hg]
  simp [go_sem]
 ·simp [invoke,go_sem,eg]
 ·refine callsIn_wide.2 ((hseq (w.heap.size+1)
   (fun O pre W=>I O pre W/\(∀ b,O b->w.heap.size+2<=b/\b<W.heap.size)/\W.heap[w.heap.size+1]?=some (.loop (rec .ready none))/\W.heap[w.heap.size]?=some (.deferred (some []))/\Turn (fun b=>¬ K b) w W/\w.heap.size+2<=W.heap.size)
   (fun O pre W=>∃ c,Ix c O pre W/\(∀ b,O b->w.heap.size+2<=b/\b<W.heap.size)/\W.heap[w.heap.size+1]?=some (.loop (rec .done (some c)))/\W.heap[w.heap.size]?=some (.deferred (some []))/\w.heap.size+2<=W.heap.size)
   W1 hE1.of ?_ ?_ ?_ ⟨h0 _ hE1 hs1,fun b hb=>hb.elim,hL1,hD1,hE1.of,by omega⟩).mono ?_)
  ·rintro O O' pre A B ⟨h1,h6,h2,h3,h4,h5⟩ ht hO
   rw [hs1] at ht
   refine⟨hI _ _ _ _ _ h1 h6 (ht.mono fun b _ hb=>.inl hb) hO,fun b hb=>?_,ht.heap h2 (fun hb=>?_),ht.heap h3 (fun hb=>?_),h4.after ht (fun b hlt hb=>?_),Nat.le_trans h5 ht.size⟩
   ·obtain⟨h7,h8⟩:=hO b hb
    exact⟨h7.elim (fun h=>(h6 b h).1) (fun h=>Nat.le_trans h5 h),h8⟩
   ·have:=(h6 _ hb.1).1;omega
   ·have:=(h6 _ hb.1).1;omega
   ·have:=(h6 _ hb.1).1;omega
  ·rintro O O' pre A B ⟨c,h1,h6,h2,h3,h5⟩ ht hO
   rw [hs1] at ht
   refine⟨c,hIx _ _ _ _ _ _ h1 h6 (ht.mono fun b _ hb=>.inl hb) hO,fun b hb=>?_,ht.heap h2 (fun hb=>?_),ht.heap h3 (fun hb=>?_),Nat.le_trans h5 ht.size⟩
   ·obtain⟨h7,h8⟩:=hO b hb
    exact⟨h7.elim (fun h=>(h6 b h).1) (fun h=>Nat.le_trans h5 h),h8⟩
   ·have:=(h6 _ hb.1).1;omega
   ·have:=(h6 _ hb.1).1;omega
  ·-- one round
   rintro O pre x rest W ys hx ⟨hi,hO,hl,hd,ht,hsz⟩ hen
   rw [hs1] at hen
   have hlt:w.heap.size+1<W.heap.size:=by omega
   have hy:=run_yield (P:=P) (args:=ys) hl (by rw [hrec];exact hps _ _ x _ _ hen)
   rw [hrec] at hy
   refine⟨fn,_,assign,body,hy,roundIn_of_wpIn trivial (hassign _ _ x ys W _ hen ?_)⟩
   clear hy
   refine⟨_,run_beginRound hl (by rw [hrec]),?_⟩
   have hl2:(W.putObj (w.heap.size+1) (.loop { rec .ready none with state:=.busy })).heap[w.heap.size+1]?=some (.loop { rec .ready none with state:=.busy }):=World.putObj_heap_same hlt
   have hd2:(W.putObj (w.heap.size+1) (.loop { rec .ready none with state:=.busy })).heap[w.heap.size]?=some (.deferred (some [])):=(World.putObj_heap_other (by omega)).trans hd
   have hO2:∀ b,O b->w.heap.size+2<=b/\b<(W.putObj (w.heap.size+1) (.loop { rec .ready none with state:=.busy })).heap.size:=fun b hb=>by simpa using hO b hb
   have hen2:E (w.heap.size+2) O x (W.putObj (w.heap.size+1) (.loop { rec .ready none with state:=.busy })) ys:=hEs _ _ _ _ _ _ hen ((Turn.refl (fun b=>b=w.heap.size+1) W).putObj (.inr rfl) _) ⟨_,hl,rfl⟩
   refine wpIn_mono (hbody O pre x rest ys _ hx (by simpa using hsz) hO2 (ht.trans (hputK W _)) (hI _ _ _ _ _ hi hO (hput O W _) (fun b hb=>⟨.inl hb,(hO2 b hb).2⟩)) hen2) ?_
   have fin:∀(jump:Option Code) (W3:World),Turn (fun b=>¬ (K b\/O b\/b=w.heap.size\/b=w.heap.size+1)) (W.putObj (w.heap.size+1) (.loop { rec .ready none with state:=.busy })) W3 ->
     (Instr.endRound (w.heap.size+1) jump).run P W3=.ok (.bool jump.isNone) (W3.putObj (w.heap.size+1) (.loop (rec (if jump.isNone then .ready else .done) jump))) /\
     (W3.putObj (w.heap.size+1) (.loop (rec (if jump.isNone then .ready else .done) jump))).heap[w.heap.size+1]?=some (.loop (rec (if jump.isNone then .ready else .done) jump)) /\
     (W3.putObj (w.heap.size+1) (.loop (rec (if jump.isNone then .ready else .done) jump))).heap[w.heap.size]?=some (.deferred (some [])) /\
     Turn (fun b=>¬ K b/\¬ O b) W (W3.putObj (w.heap.size+1) (.loop (rec (if jump.isNone then .ready else .done) jump)))/\(∀ b,O b->w.heap.size+2<=b/\b<W3.heap.size):=fun jump W3 hk3=>by
    have hl3:=hk3.heap hl2 (fun h=>h (.inr (.inr (.inr rfl))))
    have hd3:=hk3.heap hd2 (fun h=>h (.inr (.inr (.inl rfl))))
    have:=run_endRound (P:=P) jump hl3
    rw [hrec] at this ⊢
    have hne:¬ K (w.heap.size+1)/\¬ O (w.heap.size+1):=⟨fun hk=>by have:=hK _ hk;omega,fun ho=>by have:=(hO _ ho).1;omega⟩
    refine⟨this,World.putObj_heap_same (Array.getElem?_eq_some_iff.1 hl3).1,(World.putObj_heap_other (by omega)).trans hd3,?_,fun b hb=>⟨(hO2 b hb).1,Nat.lt_of_lt_of_le (hO2 b hb).2 hk3.size⟩⟩
    exact(((Turn.refl _ W).putObj (.inr hne) _).trans (hk3.mono fun b _ hb=>⟨fun hk=>hb (.inl hk),fun ho=>hb (.inr (.inl ho))⟩)).putObj (.inr hne) _
   rintro e a3 W3 hp
   cases e with
   | normal=>
    obtain⟨hk3,hi3⟩:=hp
    obtain⟨hr,hl4,hd4,ht4,ho4⟩:=fin none W3 hk3
    have ho5:∀ o b,O b->w.heap.size+2<=b/\b<(W3.putObj (w.heap.size+1) o).heap.size:=fun o b hb=>by simpa using ho4 b hb
    exact⟨_,_,hr,.inl ⟨rfl,⟨hI _ _ _ _ _ hi3 ho4 (hput O W3 _) (fun b hb=>⟨.inl hb,(ho5 _ b hb).2⟩),ho5 _,hl4,hd4,ht.trans (ht4.mono fun b _ hb=>hb.1),Nat.le_trans hsz ht4.size⟩,ht4⟩⟩
   | ret=>
    obtain⟨hk3,hi3⟩:=hp
    obtain⟨hr,hl4,hd4,ht4,ho4⟩:=fin (some .ret) W3 hk3
    have ho5:∀ o b,O b->w.heap.size+2<=b/\b<(W3.putObj (w.heap.size+1) o).heap.size:=fun o b hb=>by simpa using ho4 b hb
    exact⟨_,_,hr,.inr ⟨rfl,⟨.ret,hIx _ _ _ _ _ _ hi3 ho4 (hput O W3 _) (fun b hb=>⟨.inl hb,(ho5 _ b hb).2⟩),ho5 _,hl4,hd4,Nat.le_trans hsz ht4.size⟩,ht4⟩⟩
   | exit id=>
    obtain⟨hk3,hi3⟩:=hp
    obtain⟨hr,hl4,hd4,ht4,ho4⟩:=fin (some (.exit id)) W3 hk3
    have ho5:∀ o b,O b->w.heap.size+2<=b/\b<(W3.putObj (w.heap.size+1) o).heap.size:=fun o b hb=>by simpa using ho4 b hb
    exact⟨_,_,hr,.inr ⟨rfl,⟨.exit id,hIx _ _ _ _ _ _ hi3 ho4 (hput O W3 _) (fun b hb=>⟨.inl hb,(ho5 _ b hb).2⟩),ho5 _,hl4,hd4,Nat.le_trans hsz ht4.size⟩,ht4⟩⟩
   | goto t=>
    obtain⟨hk3,hi3⟩:=hp
    obtain⟨hr,hl4,hd4,ht4,ho4⟩:=fin (some (.goto t)) W3 hk3
    have ho5:∀ o b,O b->w.heap.size+2<=b/\b<(W3.putObj (w.heap.size+1) o).heap.size:=fun o b hb=>by simpa using ho4 b hb
    exact⟨_,_,hr,.inr ⟨rfl,⟨.goto t,hIx _ _ _ _ _ _ hi3 ho4 (hput O W3 _) (fun b hb=>⟨.inl hb,(ho5 _ b hb).2⟩),ho5 _,hl4,hd4,Nat.le_trans hsz ht4.size⟩,ht4⟩⟩
   | panic ch=>exact hp.elim
   | outgrown=>exact hp.elim
  ·-- behind the iterator
   rintro e W2 ⟨⟨v,rfl⟩,O,(⟨hi,hO,hl,hd,ht,hsz⟩ | ⟨pre,x,rest,hx,c,hi,hO,hl,hd,hsz⟩)⟩
   ·refine⟨none,_,by have:=run_endLoop (P:=P) hl (by rw [hrec];simp);rw [hrec] at this;exact this,?_⟩
    have ho5:∀ o b,O b->w.heap.size+2<=b/\b<(W2.putObj (w.heap.size+1) o).heap.size:=fun o b hb=>by simpa using hO b hb
    exact hdone O _ (hI _ _ _ _ _ hi hO (hput O W2 _) (fun b hb=>⟨.inl hb,(ho5 _ b hb).2⟩)) (ho5 _) (ht.trans (hputK W2 _)) ((World.putObj_heap_other (by omega)).trans hd)
   ·refine⟨some c,_,by have:=run_endLoop (P:=P) hl (by rw [hrec];simp);rw [hrec] at this;exact this,?_⟩
    have ho5:∀ o b,O b->w.heap.size+2<=b/\b<(W2.putObj (w.heap.size+1) o).heap.size:=fun o b hb=>by simpa using hO b hb
    exact(wpIn_wide (n:=0)).2 (hstop c O pre x rest _ hx (hIx _ _ _ _ _ _ hi hO (hput O W2 _) (fun b hb=>⟨.inl hb,(ho5 _ b hb).2⟩)) ((World.putObj_heap_other (by omega)).trans hd))
end Go.Ab
set_option maxRecDepth 100000
set_option maxHeartbeats 8000000
namespace Go.Proofs.YtfdlhlghcbeblaaGreatDoor
open Go.RowKit Go.Ab
attribute [local go_sem] Oper.semAt_some wide_fn wide_depth
theorem append_seq{w:World}{bx v:Nat}(hv:v<18446744073709551616)(hbx:bx≠0)(hb:SBox w bx v)(hT:Tab w)(hl:(evs v).length<=64) :
  Calls Tryz.prog 193 #[.slice none 0 0,.func (.func 301) #[] #[.pointer (some ⟨bx,0,none⟩)]] w fun e w'=>∃ u,e=.returned u/\w'.ownsRow w.heap.size 3 1 u (evs v).length (natV (evs v))/\Turn (·=bx) w w':=by
 refine calls_of_wp_marks Tryz.func193 rfl ?_
 simp only [Tryz.ntmps193,List.size_toArray,List.length_cons,List.length_nil,Nat.reduceAdd,Nat.reduceSub,Array.replicate_succ,Array.replicate_zero,List.push_toArray,List.append_toArray,List.nil_append,List.cons_append]
 go_wp2
 obtain⟨B,hB⟩:∃ B,w.heap.size=B:=⟨_,rfl⟩
 have hbl:bx<B:=by rw [<-hB];exact(Array.getElem?_eq_some_iff.1 hb).1
 have htl:0<B:=by rw [<-hB];exact tab_lt hT
 have hL1:(w.alloc (.cells #[.slice none 0 0] 48)).heap[B]?=some (.cells #[.slice none 0 0] 48 (0,0)):=new_at hB.symm
 have hE1:Ext w (w.alloc (.cells #[.slice none 0 0] 48)):=(Turn.refl _ w).alloc _
 have hs1:(w.alloc (.cells #[.slice none 0 0] 48)).heap.size=B+1:=by rw [<-hB];simp
 generalize (w.alloc (.cells #[.slice none 0 0] 48))=w1 at hL1 hE1 hs1 ⊢
 have hb1:SBox w1 bx v:=hE1.keep hb
 have hT1:=hT.keep hE1 id
 rw [hB]
 have HB:=Lib.hid hB
 clear hB
 refine wp_range (xs:=evs v) (S:=(·=bx)) (K:=fun b'=>b'=bx\/b'=0) rfl (enters_of Tryz.func301 (by kernel_rfl) rfl)
  (all_iter _ hv bx hbx w1 hb1 hT1) (fun _ h=>.inl h) (fun b' h=>by omega) (fun _=>rfl)
  (fun pre V=>∃ u,V.heap[B]?=some (.cells #[u] 48 (0,0))/\V.ownsRow B 3 1 u pre.length (natV pre)/\(∀ g,u.ownBlock=some g->g≠B/\g≠B+1/\g≠B+2)/\Turn (·=bx) w V)
  (fun _ _ _=>False) ?hI ?hIx ?h0 (fun i t=>(t.setIfInBounds 7 (.int .i64 i)).setIfInBounds 5 (.int .i64 i)) ?assign ?body ?done ?stop
 case hI=>
  rintro pre P Q ⟨u,i1,i2,i3,i4⟩ ht0
  have ht:Turn (fun b=>b=bx\/b=B+2) P Q:=ht0.mono (fun b _ h=>by omega)
  exact⟨u,ht.heap i1 (by omega),own_keep i2 ht (fun b hb e=>by have:=i3 b hb;have:=(i2.lt _ hb).1;omega),i3,i4.after ht (fun b' h1 h2=>by have:=HB.out;omega)⟩
 case hIx=>exact fun _ _ _ _ h _=>h
 case h0=>
  intro V hV _
  exact⟨.slice none 0 0,hV.keep hL1,World.ownsRow_nil _ _ _ _,(fun g hg=>by cases hg),Ext.of (Turn.trans hE1 hV)⟩
 case assign=>
  intro i V K hK
  gi_wp2
  exact hK
 case body=>
  rintro pre i rest V hx hsz ht ⟨u,i1,i2,i3,i4⟩
  simp only [pq]
  have hpl:pre.length<64:=by
   have:=congrArg List.length hx
   simp at this
   omega
  have cL:=cell_of_one i1
  have fL:=free_of_one i1
  have hBV:B<V.heap.size:=(Array.getElem?_eq_some_iff.1 i1).1
  have hX:=Lib.hid hx
  clear hx
  refine wpIn_block ?_
  refine wpIn_region_plain (by kernel_rfl) (by rintro⟨_,_,h⟩;exact h) ?_
  have I1:=Lib.hid i1
  clear i1
  go_wp2_with (at_builtin;refine append_row rfl (.tmp 8) (.tmp 10) 48 rfl B 3 _ 1 8 Tryz.underlying48 Tryz.infoI rfl (by decide) _ _ _ rfl (own_ext i2 ((Turn.refl _ V).alloc _)) ⟨V.heap.size,0,none⟩ 1 1 [.int .i64 i] rfl rfl (new_cells' rfl) ?c2 ?c3 ?c4 ?c5 ?_)
  case c2=>first | rfl | (intro u hu;simp at hu;rcases hu with rfl;rfl)
  case c3=>unfold maxLen;omega
  case c4=>omega
  case c5=>simp;omega
  intro ao' c' w5 hO5 hT5 hB5
  have hT6:Turn (fun b'=>u.ownBlock=some b') V w5:=Turn.trans (Turn.alloc (Turn.refl _ V) _) hT5
  have hL5:=hT6.heap I1.out (fun e=>(i3 _ e).1 rfl)
  have hE5:Turn (·=bx) w w5:=i4.after hT6 (fun b' h1 e=>by have:=(i2.lt _ e).1;have:=HB.out;omega)
  have hg5:∀ g,(Value.slice ao' (pre.length+1) c').ownBlock=some g->g≠B/\g≠B+1/\g≠B+2:=by
   intro g hg
   rcases hB5 with e | e
   ·exact i3 g (e ▸ hg)
   ·rw [hg] at e;cases e;omega
  have cL5:=cell_of_one hL5
  have fL5:=free_of_one hL5
  have hT7:=Turn.set1 w5 B 0 (.slice ao' (pre.length+1) c')
  have hL7:(w5.setCell ⟨B,0,none⟩ (.slice ao' (pre.length+1) c')).heap[B]?=some (.cells #[.slice ao' (pre.length+1) c'] 48 (0,0)):=by
   simp only [World.setCell,Array.getElem?_modify,hL5]
   simp
  have hKV:Turn (fun b=>¬ ((b=bx\/b=0)\/b=B+1\/b=B+1+1)) V (w5.setCell ⟨B,0,none⟩ (.slice ao' (pre.length+1) c')):=
   (hT6.mono (fun b' _ e=>by have:=i3 _ e;have:=(i2.lt _ e).1;omega)).trans (hT7.mono (fun b' _ e=>by omega))
  have hfin:∃ u,(w5.setCell ⟨B,0,none⟩ (.slice ao' (pre.length+1) c')).heap[B]?=some (.cells #[u] 48 (0,0))/\(w5.setCell ⟨B,0,none⟩ (.slice ao' (pre.length+1) c')).ownsRow B 3 1 u (pre++[i]).length (natV (pre++[i]))/\(∀ g,u.ownBlock=some g->g≠B/\g≠B+1/\g≠B+2)/\Turn (·=bx) w (w5.setCell ⟨B,0,none⟩ (.slice ao' (pre.length+1) c')):=by
   refine⟨_,hL7,?_,hg5,hE5.after hT7 (fun b h1 h2=>by have:=HB.out;omega)⟩
   rw [natV_append,List.length_append]
   exact own_keep hO5 hT7 (fun b hb e=>(hg5 b hb).1 e)
  have HKV:=Lib.hid hKV;have HFIN:=Lib.hid hfin
  clear hKV hfin hL7 hT7 hg5 hE5 hT6 hT5 hO5 hB5 cL fL i2 i3 i4 ht
  go_wp2
  exact⟨HKV.out,HFIN.out⟩
 case done=>
  rintro V ⟨u,i1,i2,i3,i4⟩ ht hD
  have cL:=cell_of_one i1
  clear hE1 hb1 hT1 hL1
  go_wp2
  have hm:Marks B ({ target:=.collected w1.heap.size,args:=#[] }::[]) V:=Marks.cons (base:=B) trivial (by omega) hD (fun e he=>by cases he)
  refine bodyPostM_ret hm (fun w'=>results_tmp rfl _ _ _) (fun w' ht' hs=>⟨u,rfl,?_,?_⟩)
  ·rw [HB.out]
   exact own_keep i2 ht' (fun b hb e=>by obtain⟨cur,hc⟩:=own_block_ty i2 hb;exact Shut.not hc rfl e)
  ·exact i4.after ht' (fun b' h2 h3=>by have:=h3.1;have:=HB.out;omega)
 case stop=>exact fun _ _ _ _ _ _ h=>h.elim
end Go.Proofs.YtfdlhlghcbeblaaGreatDoor
set_option maxRecDepth 100000
set_option maxHeartbeats 8000000
namespace Go.Proofs.YtfdlhlghcbeblaaGreatDoor
open Go.RowKit Go.Ab
attribute [local go_sem] Oper.semAt_some wide_fn wide_depth
theorem collect_any{w:World}{bx v:Nat}(hv:v<18446744073709551616)(hbx:bx≠0)(hb:SBox w bx v)(hT:Tab w)(hl:(evs v).length<=64) :
  Calls Tryz.prog 163 #[.func (.func 301) #[] #[.pointer (some ⟨bx,0,none⟩)]] w fun e w'=>∃ u,e=.returned u/\w'.ownsRow w.heap.size 3 1 u (evs v).length (natV (evs v))/\Turn (·=bx) w w':=by
 go_enter Tryz.func163,Tryz.ntmps163
 go_wp2_with fail
 refine(append_seq hv hbx hb hT hl).mono ?_
 rintro e w2 ⟨u,rfl,h1,h2⟩
 go_wp2
 go_ret
 exact⟨_,rfl,h1,h2⟩
theorem evs_row(R:Bin2)(a:Nat):evs (rowM R a)=(List.range 33).filter (R a):=evs_rowM R a
theorem rng_filter{R:Bin2}{a n:Nat}(hn:n<=32)(hR:∀ b,R a b=true->b<=n):(List.range 33).filter (R a)=(List.range (n+1)).filter (fun b=>R a b):=by
 have e:List.range 33=List.range (n+1)++(List.range (32 - n)).map (n+1+·):=by
  rw [<-List.range_add,show n+1+(32 - n)=33 by omega]
 rw [e,List.filter_append]
 have:((List.range (32 - n)).map (n+1+·)).filter (R a)=[]:=by
  rw [List.filter_eq_nil_iff]
  intro x hx h
  obtain⟨i,_,rfl⟩:=List.mem_map.1 hx
  have:=hR _ h
  omega
 rw [this,List.append_nil]
theorem ends_any{K:Nat->Prop}{w:World}{p:Pat}{cs:List Value}{v:Value}{ws:Wd}(hp:PatAt K w p cs)(hK:∀ g,K g->g<w.heap.size)(hv:WordAt w v ws)(hT:Tab w)(at':Int) :
  Calls Tryz.prog 280 #[.agg cs.toArray,v,.int .i64 at'] w fun e w'=>∃ u,e=.returned (.tuple #[u,.int .i64 (placeE p ws at')])/\w'.ownsRow w.heap.size 3 1 u (endL p ws at').length (natV (endL p ws at'))/\Ext w w':=by
 have hmono:Mono ws.length (relR p ws):=by
  unfold relR
  split
  ·exact relP_mono ws p
  ·exact Mono.no _
 have HT:=Lib.hid hT
 have hre:=fun(V:World) (hE:Ext w V)=>relate_any (K:=K) (hp.ext hE) (fun g hg=>Nat.lt_of_lt_of_le (hK g hg) hE.size) (hv.ext hE) (hT.keep hE id)
 obtain⟨ao,cap,rfl,hlc,hcm,_⟩:=patAt_cells hp
 obtain⟨bo,bcap,rfl,hbm⟩:=hv.slice
 clear hp hlc hcm hv hT hK
 have HRE:=Lib.hid hre
 clear hre
 obtain⟨z,hz⟩:∃ z,relE p ws=z:=⟨_,rfl⟩
 obtain⟨R,hR⟩:∃ R,relR p ws=R:=⟨_,rfl⟩
 obtain⟨n,hN⟩:∃ n,ws.length=n:=⟨_,rfl⟩
 have HP:Hid (placeE p ws at'=if z=0 then exE n at' else z):=Lib.hid (by unfold placeE;rw [hz,hN])
 have HL:Hid (endL p ws at'=if placeE p ws at'=0 then(List.range (n+1)).filter (fun b=>R at'.toNat b) else []):=Lib.hid (by unfold endL;rw [hR,hN])
 have hn32:z=0->n<=32:=fun h=>by
  subst hz;subst hN
  exact relE_len h
 rw [hz] at HRE
 rw [hR] at HRE hmono
 rw [hN] at HRE hbm hmono ⊢
 have HMO:=Lib.hid hmono
 clear hmono
 clear hz hR hN
 have HNL:=Lib.hid hn32
 clear hn32
 unfold patCells at HRE ⊢
 have z1:=zero_rel
 have z2:=relArr_size noB
 have z3:=relArr_ne noB
 go_enter Tryz.func280,Tryz.ntmps280
 go_wp2_with fail
 refine(HRE.out _ ((Turn.refl _ w).alloc _)).mono ?_
 rintro e w2 ⟨rfl,hE2⟩
 have hE02:Ext w w2:=Turn.trans ((Turn.refl _ w).alloc _) hE2
 clear hE2
 have hR0:(w2.alloc (.cells (relArr noB) 363)).heap[w2.heap.size]?=some (.cells (relArr noB) 363 (0,0)):=new_at rfl
 have hR3:RowsAt ((w2.alloc (.cells (relArr noB) 363)).setRow w2.heap.size (rowArr (rowM R))) w2.heap.size (rowM R):=setRow_heap _ _ _ _ _ _ hR0
 have hE3:Ext w ((w2.alloc (.cells (relArr noB) 363)).setRow w2.heap.size (rowArr (rowM R))):=hE02.trans (((Turn.refl _ w2).alloc _).after (Turn.setRow _ _ _) (fun b' h1 h2=>by omega))
 go_upto_region 2 with (refine wpList_store_row rfl 363 (.tmp 8) (.tmp 14) rfl w2.heap.size (rowArr (rowM R)) rfl rfl _ _ hR0 (Tryz.relInfo _) (by rw [relArr_size,rowArr_size]) (rowArr_one _) ?_)
 generalize ((w2.alloc (.cells (relArr noB) 363)).setRow w2.heap.size (rowArr (rowM R)))=w3 at hR3 hE3 ⊢
 generalize w2.heap.size=b at hR3 ⊢
 clear hR0 hE02 z1 z2 z3
 by_cases hz0:z=0
 ·have hn:=HNL.out hz0
  rw [if_pos hz0] at HP
  subst hz0
  go_wp2_with fail
  refine(exists_any _ _ _ _ _).mono ?_
  rintro e w4 ⟨rfl,rfl⟩
  by_cases hin:at'<0\/(n:Int)<at'
  ·have hex:exE n at'=3:=by unfold exE;rw [if_pos hin]
   rw [hex] at HP ⊢
   clear hex
   go_wp2
   refine bodyPost_ret (results_two rfl _ _ _) rfl ⟨_,by rw [HP.out];rfl,?_,hE3⟩
   rw [HL.out,HP.out,if_neg (by decide)]
   exact World.ownsRow_nil _ _ _ _
  ·have hex:exE n at'=0:=by unfold exE;rw [if_neg hin]
   rw [hex] at HP ⊢
   obtain⟨m,rfl⟩:∃ m:Nat,at'=m:=⟨at'.toNat,by omega⟩
   have HL2:Hid (endL p ws m=(List.range (n+1)).filter (fun b=>R m b)):=Lib.hid (by rw [HL.out,HP.out];rfl)
   have hmn:m<=n:=by omega
   have c0:=hR3.cell (a:=m) (by omega)
   have hl:=rowM_lt R m
   have hrg:(List.range 33).filter (R m)=(List.range (n+1)).filter (fun b=>R m b):=rng_filter hn (fun b hb=>(HMO.out m b hb).2)
   have HRG:=Lib.hid hrg
   clear hex HL hin hrg
   go_wp2_with (go_at_call 293;refine(all_any _ _).mono ?_;rintro e w' ⟨rfl,rfl⟩)
   have hTl:=tab_lt HT.out
   have hs4:=hE3.size
   have hE4:Ext w (w4.alloc (.cells #[.int .u64 (rowM R m:Int)] 361)):=Turn.alloc hE3 _
   have hlen:(evs (rowM R m)).length<=64:=by
    rw [evs_row]
    have:=List.length_filter_le (R m) (List.range 33)
    simp at this
    omega
   refine(collect_any (v:=rowM R m) (bx:=w4.heap.size) (by omega) (by omega) (new_at rfl) (HT.out.keep hE4 id) hlen).mono ?_
   rintro e w6 ⟨u,rfl,hO6,hT6⟩
   rw [evs_row,HRG.out,<-HL2.out] at hO6
   have hE6:Ext w w6:=hE4.after hT6 (fun b' h1 h2=>by omega)
   have hO7:=own_base hO6 hE4.size
   clear hO6 hT6 hE4 hlen
   go_wp2
   exact bodyPost_ret (results_two rfl _ _ _) rfl ⟨_,by rw [HP.out];rfl,hO7,hE6⟩
 ·have hz1:(z == 0)=false:=by rw [beq_eq_false_iff_ne];exact hz0
  rw [if_neg hz0] at HP
  go_wp2
  refine bodyPost_ret (results_two rfl _ _ _) rfl ⟨_,by rw [HP.out];rfl,?_,hE3⟩
  rw [HL.out,HP.out,if_neg hz0]
  exact World.ownsRow_nil _ _ _ _
end Go.Proofs.YtfdlhlghcbeblaaGreatDoor
