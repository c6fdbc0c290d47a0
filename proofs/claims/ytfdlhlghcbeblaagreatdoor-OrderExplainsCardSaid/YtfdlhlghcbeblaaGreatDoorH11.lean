/- Rows of laws in memory; the load of a whole struct out of a row. Blocks that read as they were laid; patterns without parts. PLAIN: where the program stands in law.run, in its three modes. law.hit. append of a whole word, nil or not; slices.Grow, slices.Concat over sounds. -/
import Derived.Test.YtfdlhlghcbeblaaGreatDoorH10
import Derived.Test.YtfdlhlghcbeblaaGreatDoorH08
import Derived.Test.YtfdlhlghcbeblaaGreatDoorH02
import Derived.Test.YtfdlhlghcbeblaaGreatDoorH09
import Derived.Test.YtfdlhlghcbeblaaGreatDoorH05
import Derived.Test.YtfdlhlghcbeblaaGreatDoorH01
import Derived.Test.YtfdlhlghcbeblaaGreatDoorProg
import Derived.WalkLawsBesides
import Derived.Handy
import Derived.Lib.Hide
import Derived.Lib.SliceRun
import Derived.Lib.AppendZeros
namespace Go.Ab
open Go.RowKit
theorem run_loadVar_at{P:Program}(w:World)(g off:Nat)(ty:TypeId)(cs:List Value)(d:TypeDesc)(hr:w.rangeAt g off cs)
  (hu:P.underlying ty=some d) (hd:(match d with | .struct _ | .array _ _=>true | _=>false)=true) (hi:(P.info? ty).map (·.size)=some cs.length) :
  (loadVar ty ⟨g,off,none⟩).run P w=.ok (.agg cs.toArray) w:=by
 have hl:(loadCells ⟨g,off,none⟩ cs.length).run P w=.ok cs.toArray w:=
  run_loadCells_list (P:=P) w ⟨g,off,none⟩ cs (fun j v hv=>by
   have hadd:(⟨g,off,none⟩:Addr).add j=⟨g,off+j,none⟩:=by unfold Addr.add;split <;> simp_all
   rw [hadd]
   exact hr j v hv)
 cases hq:P.info? ty with
 | none=>simp [hq] at hi
 | some i=>
  have hs:i.size=cs.length:=by simpa [hq] using hi
  have hagg:(isAgg ty).run P w=.ok true w:=by
   unfold isAgg
   rw [Sem.run_bind,run_underlying hu w]
   cases d <;> simp_all
  simp [loadVar,Sem.run_bind,hagg,sizeOf,typeInfo,hq,hs,hl]
theorem exec_load_at{P:Program}{o:Oper}{a:Act}{w:World}{ty:TypeId}{x:Operand}(ho:o.op=.load ty x)(g off:Nat)(hx:a.eval x=.pointer (some ⟨g,off,none⟩)) (cs:List Value) (d:TypeDesc) (hr:w.rangeAt g off cs)
  (hu:P.underlying ty=some d) (hd:(match d with | .struct _ | .array _ _=>true | _=>false)=true) (hi:(P.info? ty).map (·.size)=some cs.length):(execOp a.eval o).run P w=.ok (.value (.agg cs.toArray)) w:=by
 unfold execOp
 simp only [ho,hx,Instr.loadAt,Instr.sureAddr,Sem.run_bind,Sem.run_pure,Result.andThen_ok,run_loadVar_at w g off ty cs d hr hu hd hi]
theorem wp_load_at{P:Program}{o:Oper}{a:Act}{w:World}{K:Act->World->Prop}{Q:Exit->Act->World->Prop}(ty:TypeId)(x:Operand)(ho:o.op=.load ty x)
  (g off:Nat) (hx:a.eval x=.pointer (some ⟨g,off,none⟩)) (cs:List Value) (d:TypeDesc) (hr:w.rangeAt g off cs)
  (hu:P.underlying ty=some d) (hd:(match d with | .struct _ | .array _ _=>true | _=>false)=true) (hi:(P.info? ty).map (·.size)=some cs.length)
  (h:K (a.put o.dst (.agg cs.toArray)) w):o.wp P a w K Q:=by
 unfold Oper.wp execOp
 simp only [ho,hx,Instr.loadAt,Instr.sureAddr,Sem.run_bind,Sem.run_pure,Result.andThen_ok,run_loadVar_at w g off ty cs d hr hu hd hi]
 exact h
theorem wpList_load_at{P:Program}{ops:Array Oper}{rest:List Oper}{o:Oper}{a:Act}{w:World}{Q:Exit->Act->World->Prop}(hgd:Region.wanted o (yielded ops a.tmps)=true) (ty:TypeId) (x:Operand) (ho:o.op=.load ty x)
  (g off:Nat) (hx:a.eval x=.pointer (some ⟨g,off,none⟩)) (cs:List Value) (d:TypeDesc) (hr:w.rangeAt g off cs)
  (hu:P.underlying ty=some d) (hd:(match d with | .struct _ | .array _ _=>true | _=>false)=true) (hi:(P.info? ty).map (·.size)=some cs.length)
  (h:wpList P ops Q rest (a.put o.dst (.agg cs.toArray)) w):wpList P ops Q (o::rest) a w:=
 wpList_step fun K hK=>by
  rw [if_pos hgd]
  exact wp_load_at ty x ho g off hx cs d hr hu hd hi (hK _ _ h)
abbrev LawsL:=List (LawD × List Value)
def LawsAt(w:World)(v:Value)(ps:LawsL):Prop:=Rd w v ps.length 18 (ps.flatMap (·.2))/\∀ p∈ps,LawAt w p.1 p.2
theorem LawsAt.ext{A B:World}{v:Value}{ps:LawsL}(h:LawsAt A v ps)(ht:Ext A B):LawsAt B v ps:=⟨h.1.ext ht,fun p hp=>(h.2 p hp).ext ht⟩
theorem LawsAt.slice{w:World}{v:Value}{ps:LawsL}(h:LawsAt w v ps):∃ ao cap,v=.slice ao ps.length cap/\ps.length<=maxLen:=by
 obtain⟨⟨_,h2,ao,cap,hv,_⟩,_⟩:=h
 exact⟨ao,cap,hv,h2⟩
theorem pat_7{K:Nat->Prop}{W:World}{p:Pat}{c:List Value}(h:PatAt K W p c):c.length=7:=by
 obtain⟨k,pl,mi,nt,mn,mx,l⟩:=p
 unfold PatAt at h
 obtain⟨ao,cap,rfl,_⟩:=h
 rfl
theorem law_18{w:World}{l:LawD}{cs:List Value}(h:LawAt w l cs):cs.length=18:=by
 obtain⟨lc,rc,iv,ov,rfl,_,hl,hr,_⟩:=h
 have h1:=pat_7 hl
 have h2:=pat_7 hr
 unfold lawCells
 simp [h1,h2]
theorem flatMap_at{ps:LawsL}{w:World}(h:∀ p∈ps,LawAt w p.1 p.2){i j:Nat}(hi:i<ps.length)(hj:j<18):(ps.flatMap (·.2))[i*18+j]?=ps[i].2[j]?:=by
 induction ps generalizing i with
 | nil=>cases hi
 | cons p ps ih=>
  have hp:=law_18 (h p (by simp))
  rw [List.flatMap_cons]
  cases i with
  | zero=>rw [Nat.zero_mul,Nat.zero_add,List.getElem?_append_left (by omega)];rfl
  | succ i=>
   rw [List.getElem?_append_right (by omega),hp,show (i+1)*18+j - 18=i*18+j by omega]
   exact ih (fun p hp=>h p (by simp [hp])) (by simpa using hi)
theorem LawsAt.at{w:World}{v:Value}{ps:LawsL}(h:LawsAt w v ps){i:Nat}(hi:i<ps.length) :
  ∃ g off cap,v=.slice (some ⟨g,off,none⟩) ps.length cap/\g<w.heap.size/\w.rangeAt g (off+i*18) ps[i].2/\LawAt w ps[i].1 ps[i].2/\ps[i].2.length=18:=by
 obtain⟨⟨h1,h2,ao,cap,hv,h3⟩,h4⟩:=h
 obtain⟨g,off,ha,hg,hc⟩:=h3 (by omega)
 subst ha
 have hl:=h4 _ (List.getElem_mem hi)
 have h18:=law_18 hl
 refine⟨g,off,cap,hv,hg,fun j u hu=>?_,hl,h18⟩
 have hj:j<18:=by
  apply Nat.lt_of_not_le;intro hle
  rw [List.getElem?_eq_none (by omega)] at hu;cases hu
 have:=hc (i*18+j) (by rw [show ps.length*18=(ps.length - 1 - i)*18+i*18+18 by omega];omega)
 rw [Nat.add_assoc,this,List.getD_eq_getElem?_getD,flatMap_at h4 hi hj,hu]
 rfl
end Go.Ab
namespace Go.Proofs.YtfdlhlghcbeblaaGreatDoor
open Go.RowKit Go.Ab
theorem rd_blk{w:World}{g n cap sz:Nat}{xs:List Value}{t:TypeId}(h:w.heap[g]?=some (.cells xs.toArray t (0,0))) (hl:xs.length=n*sz) (hn:n<=maxLen):Rd w (.slice (some ⟨g,0,none⟩) n cap) n sz xs:=by
 refine⟨hl,hn,_,cap,rfl,fun _=>⟨g,0,rfl,(Array.getElem?_eq_some_iff.1 h).1,fun j hj=>?_⟩⟩
 rw [Nat.zero_add]
 have:j<xs.length:=by omega
 simp [World.cell?,h,List.getD_eq_getElem?_getD,this]
theorem pat_leaf(K:Nat->Prop)(w:World)(k:Int){pl mi:Nat}(nt:Bool)(mn mx:Int)(h1:pl<4294967296)(h2:mi<4294967296):PatAt K w (.node k pl mi nt mn mx []) [.int .i64 k,.int .u32 (pl:Int),.int .u32 (mi:Int),.bool nt,.int .i64 mn,.int .i64 mx,.slice none 0 0]:=by
 unfold PatAt
 exact⟨none,0,rfl,h1,h2,by simp,by simp [maxLen],by unfold PatsAt;trivial⟩
end Go.Proofs.YtfdlhlghcbeblaaGreatDoor
namespace Go.Proofs.YtfdlhlghcbeblaaGreatDoor
open Go.RowKit Go.Ab
theorem lawB_parts{l:LawD}(h:lawB l=true):l.ifs.length<=4/\l.outs.length<=6/\l.ifs.length+l.outs.length≠0/\(1<=l.mode/\l.mode<=3)/\(∀ x∈l.outs,fitB l.ifs.length x=true)/\chkP l.left=0/\chkP l.right=0/\(∀ s∈l.ifs,okS s=true):=by
 unfold lawB at h
 simp only [Bool.and_eq_true,decide_eq_true_eq] at h
 obtain⟨⟨⟨⟨⟨⟨⟨⟨⟨_,h1⟩,h2⟩,h3⟩,h4⟩,h5⟩,h6⟩,h7⟩,h8⟩,h9⟩:=h
 exact⟨h3,h4,h5,⟨h6,h7⟩,List.all_eq_true.1 h9,h1,h2,List.all_eq_true.1 h8⟩
theorem replL_length{l:LawD}{u:Wd}{i:Nat}(h:i+l.ifs.length<=u.length):(replL l u i).length+l.ifs.length=u.length+l.outs.length:=
 repl_length (fun c _=>putL_length l c) h
def RightAt(l:LawD)(ws:Wd)(tr:List (Nat × Wd)) (u:Wd) (i:Nat):Prop:=
 (∃ n,u.length+1 - i<=n/\traceL l ws=tr++rightT (hitL l) (putL l) l.ifs.length l.outs.length n u i)/\tr.length+(u.length+1 - i)<=ws.length+1/\u.length<=ws.length+tr.length*l.outs.length/\i<=u.length+1
theorem RightAt.start{l:LawD}{ws:Wd}(h:l.mode=2):RightAt l ws [] ws 0:=
 ⟨⟨ws.length+1,by omega,by unfold traceL;rw [if_neg (by omega),if_pos h];rfl⟩,by simp,by simp,by omega⟩
theorem RightAt.miss{l:LawD}{ws:Wd}{tr:List (Nat × Wd)} {u:Wd} {i:Nat} (h:RightAt l ws tr u i) (hi:i+l.ifs.length<=u.length) (hh:hitL l u i=false):RightAt l ws tr u (i+1):=by
 obtain⟨⟨n,hn,ht⟩,h2,h3,h4⟩:=h
 obtain⟨n',rfl⟩:∃ n',n=n'+1:=⟨n - 1,by omega⟩
 unfold rightT at ht
 rw [if_neg (by omega),if_neg (by rw [hh];decide)] at ht
 exact⟨⟨n',by omega,ht⟩,by omega,h3,by omega⟩
theorem RightAt.hit{l:LawD}{ws:Wd}{tr:List (Nat × Wd)} {u:Wd} {i:Nat} (h:RightAt l ws tr u i) (hh:hitL l u i=true) :
  RightAt l ws (tr++[(i,replL l u i)]) (replL l u i) (i+l.outs.length+(if l.ifs.length=0 then 1 else 0))/\∃ rest,traceL l ws=tr++(i,replL l u i)::rest:=by
 have hi:=hit_le hh
 have hl:=replL_length hi
 obtain⟨⟨n,hn,ht⟩,h2,h3,h4⟩:=h
 obtain⟨n',rfl⟩:∃ n',n=n'+1:=⟨n - 1,by omega⟩
 unfold rightT at ht
 rw [if_neg (by omega),if_pos hh] at ht
 have hz:(if l.ifs.length=0 then 1 else 0:Nat)+l.ifs.length>=1:=by split <;> omega
 have hz2:(if l.ifs.length=0 then 1 else 0:Nat)<=1:=by split <;> omega
 obtain⟨z,hze⟩:∃ z,(if l.ifs.length=0 then 1 else 0:Nat)=z:=⟨_,rfl⟩
 rw [hze] at ht hz hz2 ⊢
 refine⟨⟨⟨n',by omega,by rw [ht];simp [replL]⟩,?_,?_,by omega⟩,_,ht⟩
 ·rw [List.length_append,List.length_singleton];omega
 ·rw [List.length_append,List.length_singleton,Nat.add_mul];omega
theorem RightAt.done{l:LawD}{ws:Wd}{tr:List (Nat × Wd)} {u:Wd} {i:Nat} (h:RightAt l ws tr u i) (hi:u.length<i+l.ifs.length):traceL l ws=tr:=by
 obtain⟨⟨n,hn,ht⟩,h2,h3,h4⟩:=h
 rw [ht]
 cases n with
 | zero=>simp [rightT]
 | succ n=>unfold rightT;rw [if_pos hi,List.append_nil]
def LeftAt(l:LawD)(ws:Wd)(tr:List (Nat × Wd)) (u:Wd) (i:Nat):Prop:=
 (∃ n,i<=n/\traceL l ws=tr++leftT (hitL l) (putL l) l.ifs.length n u i)/\tr.length+i<=ws.length+1/\u.length<=ws.length+tr.length*l.outs.length/\i+l.ifs.length<=u.length+1+(if i=0 then l.ifs.length else 0)
theorem LeftAt.start{l:LawD}{ws:Wd}(h:l.mode≠1)(h2:l.mode≠2):LeftAt l ws [] ws (ws.length+1 - l.ifs.length):=
 ⟨⟨ws.length+1,by omega,by unfold traceL;rw [if_neg h,if_neg h2];rfl⟩,by simp,by simp,by split <;> omega⟩
theorem LeftAt.miss{l:LawD}{ws:Wd}{tr:List (Nat × Wd)} {u:Wd} {i:Nat} (h:LeftAt l ws tr u (i+1)) (hh:hitL l u i=false):LeftAt l ws tr u i:=by
 obtain⟨⟨n,hn,ht⟩,h2,h3,h4⟩:=h
 obtain⟨n',rfl⟩:∃ n',n=n'+1:=⟨n - 1,by omega⟩
 unfold leftT at ht
 rw [if_neg (by rw [hh];decide)] at ht
 rw [if_neg (by omega)] at h4
 exact⟨⟨n',by omega,ht⟩,by omega,h3,by omega⟩
theorem LeftAt.le{l:LawD}{ws:Wd}{tr:List (Nat × Wd)} {u:Wd} {i:Nat} (h:LeftAt l ws tr u (i+1)):i+l.ifs.length<=u.length:=by
 obtain⟨_,_,_,h4⟩:=h
 rw [if_neg (by omega)] at h4
 omega
theorem LeftAt.hit{l:LawD}{ws:Wd}{tr:List (Nat × Wd)} {u:Wd} {i:Nat} (h:LeftAt l ws tr u (i+1)) (hh:hitL l u i=true) :
  LeftAt l ws (tr++[(i,replL l u i)]) (replL l u i) (i+1 - max l.ifs.length 1)/\∃ rest,traceL l ws=tr++(i,replL l u i)::rest:=by
 have hi:=h.le
 have hl:=replL_length hi
 obtain⟨⟨n,hn,ht⟩,h2,h3,h4⟩:=h
 obtain⟨n',rfl⟩:∃ n',n=n'+1:=⟨n - 1,by omega⟩
 unfold leftT at ht
 rw [if_pos hh] at ht
 refine⟨⟨⟨n',by omega,by rw [ht];simp [replL]⟩,?_,?_,?_⟩,_,ht⟩
 ·rw [List.length_append,List.length_singleton];omega
 ·rw [List.length_append,List.length_singleton,Nat.add_mul];omega
 ·split <;> omega
theorem LeftAt.done{l:LawD}{ws:Wd}{tr:List (Nat × Wd)} {u:Wd} (h:LeftAt l ws tr u 0):traceL l ws=tr:=by
 obtain⟨⟨n,hn,ht⟩,_⟩:=h
 rw [ht]
 cases n with
 | zero=>simp [leftT]
 | succ n=>simp [leftT]
theorem few{t n m:Nat}(h:t<=n)(hm:m<=6)(hn:n<=33):t*m<=198:=Nat.le_trans (Nat.mul_le_mul (Nat.le_trans h hn) hm) (by decide)
end Go.Proofs.YtfdlhlghcbeblaaGreatDoor
set_option maxRecDepth 100000
set_option maxHeartbeats 8000000
namespace Go.Proofs.YtfdlhlghcbeblaaGreatDoor
open Go.RowKit Go.Ab
attribute [local go_sem] Oper.semAt_some wide_fn wide_depth
theorem results_cell_bool{fn:Func}{p:Tmp}(h:fn.results=#[.cell p 4]){tmps:Array Value}{w:World}{g:Nat}{v:Value}(hp:tmps.getD p undef=.pointer (some ⟨g,0,none⟩)) (hg:w.heap[g]?=some (.cells #[v] 4 (0,0))) :
  (results fn tmps).run Tryz.prog w=.ok v w:=by
 have hp':tmps[p]?.getD undef=.pointer (some ⟨g,0,none⟩):=by simpa using hp
 have hc:=cell_of_one hg
 simp [results,h,hp',asAddr,go_sem,hc]
theorem hitsF_head{l:LawD}{ws:Wd}{a x:Nat}{r:List Nat}(h:hitsF l ws a=x::r):hitL l ws a=decide (x=a):=by
 cases hh:hitL l ws a with
 | true=>rw [hitsF_yes hh] at h;simp at h;simp [h.1]
 | false=>
  rw [hitsF_no hh] at h
  have hm:x∈hitsF l ws (a+1):=by rw [h];simp
  have:=(List.mem_range'_1.1 (List.mem_filter.1 hm).1).1
  rw [eq_comm,decide_eq_false_iff_not];omega
theorem hitsF_none{l:LawD}{ws:Wd}{a:Nat}(h:hitsF l ws a=[]):hitL l ws a=false:=by
 cases hh:hitL l ws a with
 | true=>rw [hitsF_yes hh] at h;cases h
 | false=>rfl
theorem hit_any{w:World}{cs:List Value}{l:LawD}{v:Value}{ws:Wd}(hl:LawAt w l cs)(hv:WordAt w v ws)(hT:Tab w)(at':Nat)(hat:at'<=ws.length+1)(hsm:l.ifs.length+ws.length<=100000) :
  Calls Tryz.prog 229 #[.agg cs.toArray,v,.int .i64 at'] w fun e w'=>e=.returned (.bool (hitL l ws at'))/\Ext w w':=by
 obtain⟨vo,vc,rfl,hvm⟩:=hv.slice
 obtain⟨nm,k1,p1,m1,n1,a1,b1,o1,N1,c1,k2,p2,m2,n2,a2,b2,o2,N2,c2,io,N3,ic,oo,N4,oc,md,rfl,HLA,HPL,HPR,HIF,HOU,HNM,HN1,HN2,HN3,HN4,HMD,q0,q1,q2,q3,q4⟩:=law_gen hl
 obtain⟨wn,hwn⟩:∃ n,ws.length=n:=⟨_,rfl⟩
 rw [hwn] at hv hat
 have HV:=Lib.hid hv;have HT:=Lib.hid hT;have HWN:=Lib.hid hwn;have HSM:=Lib.hid hsm
 rw [hwn]
 clear hl hv hT hwn hvm hsm
 refine calls_of_wp_marks Tryz.func229 rfl ?_
 simp only [Tryz.ntmps229,List.size_toArray,List.length_cons,List.length_nil,Nat.reduceAdd,Nat.reduceSub,Array.replicate_succ,Array.replicate_zero,List.push_toArray,List.append_toArray,List.nil_append,List.cons_append]
 go_wp2_with (refine wpList_load_row rfl 102 (.tmp 3) rfl w.heap.size rfl _ _ _ _ (new_keep (new_keep (new_at rfl))) Tryz.underlying102 rfl Tryz.lawInfo ?_)
 obtain⟨w1,hw1⟩:∃ D,((w.alloc (.cells #[.string nm,.int .i64 k1,.int .u32 (p1:Int),.int .u32 (m1:Int),.bool n1,.int .i64 a1,.int .i64 b1,.slice o1 N1 c1,.int .i64 k2,.int .u32 (p2:Int),.int .u32 (m2:Int),.bool n2,.int .i64 a2,.int .i64 b2,.slice o2 N2 c2,.slice io N3 ic,.slice oo N4 oc,.int .i64 md] 102)).alloc (.cells #[.int .i64 (at':Int)] 3)).alloc (.cells #[.bool false] 4)=D:=⟨_,rfl⟩
 have hE1:Ext w w1:=by rw [<-hw1];exact(((Turn.refl _ w).alloc _).alloc _).alloc _
 have hs1:w1.heap.size=w.heap.size+3:=by rw [<-hw1];simp
 have hr1:w1.heap[w.heap.size+2]?=some (.cells #[.bool false] 4 (0,0)):=by rw [<-hw1];exact new_at (by simp)
 have ha1:w1.heap[w.heap.size+1]?=some (.cells #[.int .i64 (at':Int)] 3 (0,0)):=by rw [<-hw1];exact new_keep (new_at (by simp))
 rw [hw1]
 clear hw1
 have hc:=hits_any (HLA.out.ext hE1) (ao:=vo) (n:=wn) (c:=vc) (at':Int)
 obtain⟨B,hB⟩:∃ B,w.heap.size=B:=⟨_,rfl⟩
 rw [hs1,hB] at hc
 rw [hB] at hr1 ha1 hs1 ⊢
 have HC:=Lib.hid hc;have HB:=Lib.hid hB
 clear hc hB
 refine HC.out.mono ?_
 rintro e w2 ⟨rfl,hs2,hLB,hSB,hFB,hE2⟩
 have hE02:=hE1.trans hE2
 have hs2':w2.heap.size=B+6:=by omega
 have hr2:=hE2.keep hr1
 have ha2:=hE2.keep ha1
 have hwB:∀ W,Turn (fun b=>¬ (b<B+6/\b≠B+2)) w2 W->Ext w W:=fun W hW=>Turn.after hE02 hW (fun b hb hn=>hn ⟨by have:=HB.out;omega,by have:=HB.out;omega⟩)
 have HS2:=Lib.hid hs2'
 clear hr1 ha1 hs1 hE1 hE2 hs2 HC
 go_wp2_with fail
 have hst:∀ W,Turn (fun b=>¬ (b<B+6/\b≠B+2)) w2 W->LBx W (B+3) l _/\SlBox W (B+3+1) (.slice vo wn vc)/\WordAt W (.slice vo wn vc) ws/\Tab W/\W.heap[B+3+2]?=some (.cells #[.int .i64 (at':Int)] 3 (0,0)):=fun W hW=>
  ⟨⟨hW.heap hLB.1 (fun h=>h ⟨by omega,by omega⟩),HLA.out.ext (hwB W hW)⟩,hW.heap hSB (fun h=>h ⟨by omega,by omega⟩),HV.out.ext (hwB W hW),HT.out.keep (hwB W hW) id,hW.heap hFB (fun h=>h ⟨by omega,by omega⟩)⟩
 refine wp_rangeO (xs:=hitsF l ws at') (K:=fun b=>b<B+6/\b≠B+2) rfl (enters_of Tryz.func258 (by kernel_rfl) rfl)
  (hits_iter at' (by rw [HWN.out];exact hat) HSM.out hst) (fun b h=>by omega) (fun _ _ x A ys h=>by rw [h];rfl) (fun _ _ x A D ys h _ _=>h)
  (fun _ pre W=>pre=[]/\W.heap[B+2]?=some (.cells #[.bool false] 4 (0,0))/\W.heap[B+1]?=some (.cells #[.int .i64 (at':Int)] 3 (0,0))/\Ext w W)
  (fun c _ pre W=>c=.ret/\∃ x,pre=[x]/\W.heap[B+2]?=some (.cells #[.bool (decide (x=at'))] 4 (0,0))/\Ext w W) ?hI ?hIx ?h0 (fun ys t=>(t.setIfInBounds 12 (ys.getD 0 undef)).setIfInBounds 7 (ys.getD 0 undef)) ?assign ?body ?done ?stop
 case hI=>
  rintro O O' pre A D ⟨i1,i2,i3,i4⟩ hO ht _
  exact⟨i1,ht.heap i2 (by rintro(h | h);exact h.2.elim;omega),ht.heap i3 (by rintro(h | h);exact h.2.elim;omega),Turn.after i4 ht (fun b hb hn=>by have:=HB.out;rcases hn with h | h;exact h.2.elim;omega)⟩
 case hIx=>
  rintro c O O' pre A D ⟨i0,x,i1,i2,i4⟩ hO ht _
  exact⟨i0,x,i1,ht.heap i2 (by rintro(h | h);exact h.2.elim;omega),Turn.after i4 ht (fun b hb hn=>by have:=HB.out;rcases hn with h | h;exact h.2.elim;omega)⟩
 case h0=>
  intro W hW _
  exact⟨rfl,hW.keep hr2,hW.keep ha2,hE02.trans hW⟩
 case assign=>
  rintro _ _ i ys W Kn rfl hK
  gi_wp2
  exact hK
 case body=>
  rintro O pre x rest ys V hx hsz hO ht ⟨rfl,i2,i3,i4⟩ rfl
  simp only [pq]
  have cL:=cell_of_one i3
  have cR:=cell_of_one i2
  have fR:=free_of_one i2
  have I2:=Lib.hid i2;have HX:=Lib.hid hx;have HO:=Lib.hid hO;have HI4:=Lib.hid i4
  clear i2 i3 hx hO i4 ht hst hwB hE02 hr2 ha2 hLB hSB hFB hs2'
  refine wpIn_block ?_
  refine wpIn_seq ?_
  refine wpIn_region_plain (by kernel_rfl) (by rintro⟨_,_,h⟩;exact h) ?_
  obtain⟨d,hd⟩:∃ d,decide (x=at')=d:=⟨_,rfl⟩
  have hd2:((x:Int) ==(at':Int))=d:=by
   rw [<-hd]
   apply Bool.eq_iff_iff.2
   rw [beq_iff_eq,decide_eq_true_iff];omega
  have HD:=Lib.hid hd
  clear hd
  go_wp2
  refine wpIn_ret ?_
  have hset:Turn (fun b=>b=B+2) V (V.setCell ⟨B+2,0,none⟩ (.bool d)):=Turn.set1 V (B+2) 0 _
  have hheap:(V.setCell ⟨B+2,0,none⟩ (.bool d)).heap[B+2]?=some (.cells #[.bool d] 4 (0,0)):=by
   simp only [World.setCell,Array.getElem?_modify,I2.out];simp
  refine⟨hset.mono (fun b _ hb hn=>?_),rfl,x,by simp,by rw [HD.out];exact hheap,Turn.after HI4.out hset (fun b hb hn=>by have:=HB.out;omega)⟩
  subst hb
  rcases hn with h | h | h
  ·omega
  ·have:=(HO.out _ h).1;have:=HS2.out;omega
  ·have:=HS2.out;omega
 case done=>
  rintro O V ⟨hx,i2,i3,i4⟩ hO ht hD
  have hno:=hitsF_none hx
  have cR:=cell_of_one i2
  have fR:=free_of_one i2
  have I2:=Lib.hid i2;have HNO:=Lib.hid hno;have HI4:=Lib.hid i4;have HDD:=Lib.hid hD
  clear i2 i3 hx i4 ht hst hwB hE02 hr2 ha2 hLB hSB hFB hs2' hno hD hO
  go_wp2
  have hheap:(V.setCell ⟨B+2,0,none⟩ (.bool false)).heap[B+2]?=some (.cells #[.bool false] 4 (0,0)):=by
   simp only [World.setCell,Array.getElem?_modify,I2.out];simp
  have hset:Turn (fun b=>b=B+2) V (V.setCell ⟨B+2,0,none⟩ (.bool false)):=Turn.set1 V (B+2) 0 _
  have hm:Marks B ({ target:=.collected w2.heap.size,args:=#[] }::[]) (V.setCell ⟨B+2,0,none⟩ (.bool false)):=Marks.cons (base:=B) trivial (by have:=HS2.out;omega) (hset.heap HDD.out (by have:=HS2.out;omega)) (fun e he=>by cases he)
  refine leavesM (v:=.bool false) _ _ hm fun w' ht' hs=>⟨results_cell_bool rfl rfl (ht'.heap hheap (Shut.not hheap rfl)),by rw [HNO.out],?_⟩
  exact(Turn.after HI4.out hset (fun b hb hn=>by have:=HB.out;omega)).after ht' (fun b h1 h2=>by have:=h2.1;have:=HB.out;omega)
 case stop=>
  rintro c O pre x rest V hx ⟨rfl,y,hp,i2,i4⟩ hD
  have hy:y=x/\pre=[]:=by
   cases pre with
   | nil=>simp at hp;exact⟨hp.symm,rfl⟩
   | cons a l=>have:=congrArg List.length hp;simp at this
  obtain⟨rfl,rfl⟩:=hy
  have hyes:=hitsF_head hx
  have HY:=Lib.hid hyes
  clear hst hwB hE02 hr2 ha2 hLB hSB hFB hs2' hx hp
  refine wp_ret ?_
  have hm:Marks B ({ target:=.collected w2.heap.size,args:=#[] }::[]) V:=Marks.cons (base:=B) trivial (by have:=HS2.out;omega) hD (fun e he=>by cases he)
  refine leavesM (v:=.bool (decide (y=at'))) _ _ hm fun w' ht' hs=>⟨results_cell_bool rfl rfl (ht'.heap i2 (Shut.not i2 rfl)),by rw [HY.out],?_⟩
  exact Turn.after i4 ht' (fun b h1 h2=>by have:=h2.1;have:=HB.out;omega)
end Go.Proofs.YtfdlhlghcbeblaaGreatDoor
set_option maxRecDepth 100000
set_option maxHeartbeats 4000000
namespace Go.Proofs.YtfdlhlghcbeblaaGreatDoor
open Go.RowKit Go.Ab
attribute [local go_sem] Oper.semAt_some wide_fn wide_depth
theorem add_at(b o j:Nat):(⟨b,o,none⟩:Addr).add j=⟨b,o+j,none⟩:=by
 unfold Addr.add;split
 ·rename_i h;subst h;rfl
 ·simp
section
variable {P:Program} {w:World}
theorem append_rd{ops:Array Oper}{rest:List Oper}{o:Oper}{a:Act}{Q:Exit->Act->World->Prop}(hgd:o.guard=none)(s x:Operand)(t:TypeId)
  (ho:o.op=.call { callee:=.builtin .append,args:=#[s,x],argTypes:=#[t,t] })
  (base:Nat) (e:TypeId) (z:Value) (size bytes:Nat) (ht:P.underlying t=some (.slice e)) (hinfo:(P.info? e).map (fun i=>(i.zero,i.size,i.bytes))=some (some z,size,bytes))
  (hzs:z.cells.size=size) (hsz:0<size)
  (v:Value) (n:Nat) (xs:List Value) (hs:a.eval s=v) (hown:w.ownsRow base e size v n xs)
  (A:Option Addr) (m c:Nat) (news:List Value) (hx:a.eval x=.slice A m c) (hr:Rd w (.slice A m c) m size news) (h1:∀ u∈news,u.oneCell'=true)
  (h63:n+m<=maxLen) (hbytes:(n+m)*bytes<=140737488355328) (hbase:base<=w.heap.size)
  (h:∀ ao c' w',w'.ownsRow base e size (.slice ao (n+m) c') (n+m) (xs++news)->Turn (fun b=>v.ownBlock=some b) w w'->((Value.slice ao (n+m) c').ownBlock=v.ownBlock\/(Value.slice ao (n+m) c').ownBlock=some w.heap.size)->wpList P ops Q rest (a.put o.dst (.slice ao (n+m) c')) w'):wpList P ops Q (o::rest) a w:=by
 obtain⟨r1,_,ao,cap,hv,r3⟩:=hr
 simp only [Value.slice.injEq,true_and] at hv
 obtain⟨rfl,rfl⟩:=hv
 rcases A with _ | ad
 ·have hm:m=0:=by
   apply Nat.le_antisymm _ (Nat.zero_le _)
   apply Nat.le_of_not_lt;intro h0
   obtain⟨_,_,q,_⟩:=r3 h0
   cases q
  subst hm
  obtain rfl:news=[]:=List.eq_nil_of_length_eq_zero (by simpa using r1)
  obtain⟨i,hi,hz,hs1,hb1⟩:=info_parts hinfo
  have hrun:(Builtin.append_ #[t,t] o.type #[v,.slice none 0 c]).run P w=.ok v w:=by
   rcases hown.2 with ⟨rfl,rfl⟩ | ⟨g,cap,cur,rfl,_,_,hnc,_⟩
   ·simp [Builtin.append_,run_underlying ht,sizeOf,typeInfo,hi,Builtin.lenOf,Builtin.firstCells]
   ·simp [Builtin.append_,run_underlying ht,sizeOf,typeInfo,hi,Builtin.lenOf,Builtin.firstCells,hnc,storeCells]
  refine wpList_plain hgd fun K hK=>?_
  unfold Oper.wp execOp
  simp only [ho,resolve,invoke,builtin,Sem.run_bind,Sem.run_pure,Result.andThen_ok,List.map_toArray,List.map_cons,List.map_nil,hs,hx,hrun]
  obtain⟨ao,c',rfl⟩:=own_slice hown
  exact hK _ _ (h ao c' w (by simpa using hown) (Turn.refl _ _) (.inl rfl))
 ·refine append_row hgd s x t ho base e z size bytes ht hinfo hzs hsz v n xs hs hown ad m c news hx r1 (fun j u hj=>?_) h1 h63 hbytes hbase h
  have hj2:j<m*size:=by rw [<-r1];exact(List.getElem?_eq_some_iff.1 hj).1
  have hm:0<m:=by
   apply Nat.pos_of_ne_zero;rintro rfl;omega
  obtain⟨g,off,q,_,hc⟩:=r3 hm
  cases q
  rw [add_at,hc j hj2,List.getD_eq_getElem?_getD,hj]
  rfl
end
theorem one_sndL(w:Wd):∀ u∈sndL w,u.oneCell'=true:=by
 intro u hu
 obtain⟨s,_,hu⟩:=List.mem_flatMap.1 hu
 simp only [List.mem_cons,List.not_mem_nil,or_false] at hu
 rcases hu with rfl | rfl <;> rfl
theorem infoS:(Tryz.prog.info? 95).map (fun i=>(i.zero,i.size,i.bytes))=some (some (.agg #[.int .u32 0,.int .u32 0]),2,8):=by kernel_rfl
theorem grow_any(n:Nat)(hn:n<=100000)(w:World) :
  Calls Tryz.prog 261 #[.slice none 0 0,.int .i64 n] w fun e w'=>∃ ao c,e=.returned (.slice ao 0 c)/\w'.ownsRow w.heap.size 95 2 (.slice ao 0 c) 0 []/\Ext w w':=by
 by_cases h0:n=0
 ·subst h0
  go_enter Tryz.func261,Tryz.ntmps261
  go_wp2
  go_ret
  exact⟨_,_,rfl,World.ownsRow_nil _ _ _ _,Turn.refl _ _⟩
 ·obtain⟨i,hi,hz,hs1,hb1⟩:=info_parts (@infoS)
  have hrun:=Lib.run_append_nil_zeros (P:=Tryz.prog) w 99 3 99 95 i (.agg #[.int .u32 0,.int .u32 0]) .i64 .i64 Tryz.underlying99 Tryz.underlying3 hi hz n (by omega) (by omega) (by omega) (by rw [hb1];omega)
  have hge:=grownCap_ge w n 0 95
  have hle:=grownCap_le_maxLen w n 0 95 (by unfold maxLen;omega)
  obtain⟨c,hc⟩:∃ c,grownCap w n 0 95=c:=⟨_,rfl⟩
  rw [hc] at hrun hge hle
  obtain⟨cs,hcs⟩:∃ cs,Builtin.zeroCells (Value.agg #[.int .u32 0,.int .u32 0]).cells n++Builtin.zeroCells (Value.agg #[.int .u32 0,.int .u32 0]).cells (c - n)=cs:=⟨_,rfl⟩
  have hsz:cs.size=c*2:=by
   rw [<-hcs,Array.size_append,size_zeroCells,size_zeroCells]
   show n*2+(c - n)*2=c*2
   omega
  rw [hcs] at hrun
  have hn1:(0:Int)<(n:Int):=by omega
  have HR:=Lib.hid hrun
  clear hrun hcs hc hi hz hs1 hb1
  go_enter Tryz.func261,Tryz.ntmps261
  go_wp2_with (at_builtin;refine Lib.wpList_append_run _ rfl (.tmp 20) (.tmp 21) _ _ rfl (.slice none 0 0) (.int .i64 n) rfl rfl _ _ HR.out ?_)
  go_ret
  exact⟨_,_,rfl,⟨by simp,.inr ⟨w.heap.size,c,cs,rfl,Nat.le_refl _,new_at (by simp),by omega,hle,hsz,by simp⟩⟩,((Turn.refl _ w).drew).alloc _⟩
def preW(us:List Wd)(k:Nat):Wd:=(us.take k).flatten
theorem flat_take{us:List Wd}{k:Nat}(h:k<us.length):preW us (k+1)=preW us k++us[k]:=by
 unfold preW
 rw [List.take_succ_eq_append_getElem h,List.flatten_append];simp
theorem flat_all{us:List Wd}{k:Nat}(h:us.length<=k):preW us k=us.flatten:=by unfold preW;rw [List.take_of_length_le h]
theorem flat_le{us:List Wd}(k:Nat):(preW us k).length<=us.flatten.length:=by
 unfold preW
 conv=>rhs;rw [<-List.take_append_drop k us,List.flatten_append,List.length_append]
 omega
theorem concat_any{w:World}{ao:Option Addr}{cap:Nat}{vs:List Value}{us:List Wd}{F:Wd}(hF:us.flatten=F)(hr:Rd w (.slice ao us.length cap) us.length 1 vs) (hv:∀ i (h:i<us.length),WordAt w (vs.getD i undef) us[i]) (hsum:F.length<=1000) :
  Calls Tryz.prog 227 #[.slice ao us.length cap] w fun e w'=>∃ u,e=.returned u/\w'.ownsRow w.heap.size 95 2 u F.length (sndL F)/\Ext w w':=by
 obtain⟨N,hN⟩:∃ N,us.length=N:=⟨_,rfl⟩
 have hNm:N<=maxLen:=by have:=hr.2.1;omega
 unfold maxLen at hNm
 rw [hN] at hr ⊢
 have HN:=Lib.hid hN
 clear hN
 have HV:=Lib.hid hv;have HF:=Lib.hid hF
 clear hF
 have hat:Hid (∀ k (hk:k<us.length),∃ g off,ao=some ⟨g,off,none⟩/\g<w.heap.size/\w.cell? ⟨g,off+k,none⟩=some (vs.getD k undef)):=Lib.hid fun k hk=>by
  obtain⟨_,_,ao',c',q,h3⟩:=hr
  cases q
  obtain⟨g,off,h4,h5,h6⟩:=h3 (by have:=HN.out;omega)
  exact⟨g,off,h4,h5,h6 k (by have:=HN.out;omega)⟩
 clear hr hv
 go_enter Tryz.func227,Tryz.ntmps227
 go_wp2
 refine wp_loop (fun a W=>∃(k:Nat),k<=N/\a.defers=[]/\(a.tmps.size=36/\a.tmps.getD 0 undef=.slice ao N cap/\a.tmps.getD 3 undef=.int .i64 ((preW us k).length:Int)/\a.tmps.getD 9 undef=.slice ao N cap/\a.tmps.getD 10 undef=.int .i64 N/\a.tmps.getD 11 undef=.int .i64 k)/\w=W)
  (fun a _=>N - (intOf (a.tmps.getD 11 undef)).toNat) ?_ ?_
 ·exact⟨0,by omega,rfl,⟨rfl,rfl,by simp [preW],rfl,rfl,rfl⟩,rfl⟩
 rintro⟨t,_⟩ W ⟨k,hk,hds,⟨hsz,f0,f3,f9,f10,f11⟩,rfl⟩
 subst hds
 obtain⟨u',hu⟩:=frame_fun hsz
 obtain⟨u,rfl⟩:∃ x,x=u':=⟨_,rfl⟩
 have hu':t=#[u 0,u 1,u 2,u 3,u 4,u 5,u 6,u 7,u 8,u 9,u 10,u 11,u 12,u 13,u 14,u 15,u 16,u 17,u 18,u 19,u 20,u 21,u 22,u 23,u 24,u 25,u 26,u 27,u 28,u 29,u 30,u 31,u 32,u 33,u 34,u 35]:=hu
 clear hu
 subst hu'
 change u 0=_ at f0
 change u 3=_ at f3
 change u 9=_ at f9
 change u 10=_ at f10
 change u 11=_ at f11
 rw [f0,f3,f9,f10,f11]
 clear f0 f3 f9 f10 f11 hsz
 by_cases hkN:k<N
 ·have h1:(k:Int)<(N:Int):=by omega
  have hkl:k<us.length:=by rw [HN.out];exact hkN
  obtain⟨g,off,rfl,hg,hc⟩:=hat.out k hkl
  obtain⟨xo,xc,hx,hxm⟩:=(HV.out k hkl).slice
  rw [hx] at hc
  have hft:=flat_take hkl
  have hfl:=flat_le (us:=us) (k+1)
  rw [HF.out] at hfl
  have hlen:(preW us (k+1)).length=(preW us k).length+us[k].length:=by rw [hft,List.length_append]
  rw [hlen] at hfl
  obtain⟨z,hz⟩:∃ z,(preW us k).length=z:=⟨_,rfl⟩
  obtain⟨y,hy⟩:∃ y,us[k].length=y:=⟨_,rfl⟩
  rw [hz,hy] at hfl
  rw [hz]
  rw [hy] at hc
  have hnn:¬ ((z:Int)+(y:Int)<0):=by omega
  have HLN:Hid ((preW us (k+1)).length=z+y):=Lib.hid (by rw [hlen,hz,hy])
  clear hft hlen hz hy hx hxm
  go_wp2
  exact⟨⟨k+1,by omega,by rw [HLN.out];simp,by simp⟩,by simp [intOf];omega⟩
 obtain rfl:k=N:=by omega
 have h1:¬ (k:Int)<(k:Int):=by omega
 have hall:(preW us k)=F:=(flat_all (by rw [HN.out];exact Nat.le_refl _)).trans HF.out
 rw [hall]
 clear hall
 obtain⟨T,hT⟩:∃ T,F.length=T:=⟨_,rfl⟩
 rw [hT] at hsum ⊢
 have HT:=Lib.hid hT
 clear hT
 go_wp2_with (go_at_call 261;refine(grow_any T (by omega) _).mono ?_;rintro e w2 ⟨ro,rc,rfl,hO,hE⟩)
 refine wp_loop (fun a W=>∃(j:Nat) (ro:Option Addr) (rc:Nat),j<=k/\a.defers=[]/\(a.tmps.size=36/\a.tmps.getD 6 undef=.slice ro (preW us j).length rc/\a.tmps.getD 25 undef=.slice ao k cap/\a.tmps.getD 26 undef=.int .i64 k/\a.tmps.getD 27 undef=.int .i64 j)/\W.ownsRow w.heap.size 95 2 (.slice ro (preW us j).length rc) (preW us j).length (sndL (preW us j))/\Ext w W)
  (fun a _=>k - (intOf (a.tmps.getD 27 undef)).toNat) ?_ ?_
 ·exact⟨0,ro,rc,by omega,rfl,⟨rfl,rfl,rfl,rfl,rfl⟩,hO,hE⟩
 clear hO hE w2 ro rc
 rintro⟨t,_⟩ W ⟨j,ro,rc,hj,hds,⟨hsz,f6,f25,f26,f27⟩,hO,hE⟩
 subst hds
 obtain⟨u',hu⟩:=frame_fun hsz
 obtain⟨u,rfl⟩:∃ x,x=u':=⟨_,rfl⟩
 have hu':t=#[u 0,u 1,u 2,u 3,u 4,u 5,u 6,u 7,u 8,u 9,u 10,u 11,u 12,u 13,u 14,u 15,u 16,u 17,u 18,u 19,u 20,u 21,u 22,u 23,u 24,u 25,u 26,u 27,u 28,u 29,u 30,u 31,u 32,u 33,u 34,u 35]:=hu
 clear hu
 subst hu'
 change u 6=_ at f6
 change u 25=_ at f25
 change u 26=_ at f26
 change u 27=_ at f27
 rw [f6,f25,f26,f27]
 clear f6 f25 f26 f27 hsz
 by_cases hjN:j<k
 ·have h1:(j:Int)<(k:Int):=by omega
  have hkl:j<us.length:=by rw [HN.out];exact hjN
  obtain⟨g,off,rfl,hg,hc0⟩:=hat.out j hkl
  have hc:=hE.cell_some hc0 (fun h=>h)
  have hw:=(HV.out j hkl).ext hE
  obtain⟨xo,xc,hx,hxm⟩:=hw.slice
  rw [hx] at hc hw
  have hft:=flat_take hkl
  have hfl:=flat_le (us:=us) (j+1)
  rw [HF.out] at hfl
  have hlen:(preW us (j+1)).length=(preW us j).length+us[j].length:=by rw [hft,List.length_append]
  rw [hlen,HT.out] at hfl
  have HFT:=Lib.hid hft;have HLEN:=Lib.hid hlen;have HW:=Lib.hid hw.1
  have hbz:=hE.size
  clear hft hlen hx hxm hw hc0
  obtain⟨Y,hY⟩:∃ Y,(preW us j)=Y:=⟨_,rfl⟩
  obtain⟨Z,hZ⟩:∃ Z,us[j]=Z:=⟨_,rfl⟩
  rw [hY] at hO hfl HFT HLEN ⊢
  rw [hZ] at hc hfl HFT HLEN HW
  clear hY hZ
  go_wp2_with (at_builtin;refine append_rd rfl (.tmp 31) (.tmp 32) 99 rfl w.heap.size 95 _ 2 8 Tryz.underlying99 @infoS rfl (by decide) _ _ _ rfl hO _ _ _ _ rfl HW.out (one_sndL _) (by unfold maxLen;omega) (by omega) hbz ?_;intro ao' c' w5 hO5 hT5 hB5)
  refine⟨⟨j+1,ao',c',by omega,by first | rfl | trivial,⟨rfl,by rw [HLEN.out];rfl,rfl,rfl,rfl⟩,?_,?_⟩,by simp [intOf];omega⟩
  ·rw [HLEN.out,HFT.out,sndL_append];exact hO5
  ·exact hE.after hT5 (fun b hb e=>by have:=(hO.lt _ e).1;omega)
 ·obtain rfl:j=k:=by omega
  have h1:¬ (j:Int)<(j:Int):=by omega
  have hall:(preW us j)=F:=(flat_all (by rw [HN.out];exact Nat.le_refl _)).trans HF.out
  rw [hall,HT.out] at hO
  rw [hall,HT.out]
  have HO:=Lib.hid hO
  clear hO hall
  go_wp2
  go_ret
  exact⟨_,rfl,by rw [HT.out];exact HO.out,hE⟩
end Go.Proofs.YtfdlhlghcbeblaaGreatDoor
