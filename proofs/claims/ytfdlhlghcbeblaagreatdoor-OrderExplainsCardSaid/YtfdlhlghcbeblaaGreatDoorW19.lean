/- ablautref08.Hit (printed by genrefhit.py). -/
import Derived.Test.YtfdlhlghcbeblaaGreatDoorW15
import Derived.Test.YtfdlhlghcbeblaaGreatDoorW18
set_option maxRecDepth 100000
set_option maxHeartbeats 16000000
namespace Go.Proofs.YtfdlhlghcbeblaaGreatDoor
open Go.RowKit Go.Ab
attribute [local go_sem] Oper.semAt_some Z1 Qk
def Qeo(t:List (Nat × Wd)):Int:=if U4 t=true then 11 else 0
def Qec(t:List (Nat × Wd)):List (Nat × Wd):=if U4 t=true then [] else t
def Qeg(v:Value):Nat:=match v with | .slice _ n _=>n | _=>0
def Off(dv:Value)(vals:List Value):Prop:=∀ x∈vals,Qx (fun g=>dv.ownBlock≠some g) x
theorem Off.same{dv dv':Value}{vals:List Value}{W:World}(h:Off dv vals)(hk:∀ x∈vals,Qx (fun g=>g<W.heap.size) x) (hb:dv'.ownBlock=dv.ownBlock\/∃ k,W.heap.size<=k/\dv'.ownBlock=some k):Off dv' vals:=fun x hx g o n c e h0=>by
 rcases hb with hb | ⟨k,h1,h2⟩
 ·rw [hb];exact h x hx g o n c e h0
 ·rw [h2];intro q;cases q;have:=hk x hx g o n c e h0;omega
theorem TrP.turn{b:Nat}{A B:World}{u v dv:Value}{vals:List Value}{tr:List (Nat × Wd)} {b3 n3:Nat} {x3:List Value} (h:TrP b A u v vals tr) (hd:A.ownsRow b3 95 2 dv n3 x3) (ht:Q0 (fun g=>dv.ownBlock=some g) A B) (ho:Off dv vals):TrP b B u v vals tr:=
 ⟨Qf h.ou ht (fun g hg e=>Gy h.ou hd zd g hg e),Qf h.ov ht (fun g hg e=>Gy h.ov hd zd g hg e),h.wd.keepS (S:=fun g=>dv.ownBlock≠some g) (ht.mono fun _ _ e hn=>hn e) ho,fun x hx=>(h.wk x hx).mono fun g hg=>⟨Nat.lt_of_lt_of_le hg.1 ht.size,hg.2⟩⟩
theorem Q93{w:World}{e:TypeId}{base:Nat}(hb:base<=w.heap.size)(u:Value):(w.alloc (.cells #[u] e)).ownsRow base e 1 (.slice (some ⟨w.heap.size,0,none⟩) 1 1) 1 [u]:=
 World.ownsRow_lit w #[u] 1 hb (by unfold maxLen;omega) rfl
theorem Xk{w:World}{v:Value}{n:Nat}{xs:List Value}(h:Rd w v n 1 xs){k:Nat}(l:k<n):∃ g off cap,v=.slice (some ⟨g,off,none⟩) n cap/\g<w.heap.size/\w.cell? ⟨g,off+k,none⟩=some (xs.getD k undef):=by
 obtain⟨i,j,f,cap,e,a⟩:=h;obtain⟨g,off,b,d,c⟩:=a oz;exact⟨g,off,cap,by rw [e,b],d,c k oz⟩
def Qdc(E:Int)(n:Nat)(W:World)(v:Value)(u:Wd):Prop:=(E≠0->v=.slice none 0 0)/\(E=0->∃ ao c vs,v=.slice ao (n+1) c/\Rd W v (n+1) 1 vs/\Zc W (vs.getD n undef) u)
theorem Q8j:(Tryz.prog.info? 102).map (fun i=>(i.zero,i.size,i.bytes))=some (some (.agg #[.string ⟨#[]⟩,.int .i64 0,.int .u32 0,.int .u32 0,.bool false,.int .i64 0,.int .i64 0,.slice none 0 0,.int .i64 0,.int .u32 0,.int .u32 0,.bool false,.int .i64 0,.int .i64 0,.slice none 0 0,.slice none 0 0,.slice none 0 0,.int .i64 0]),18,200):=by kernel_rfl
def Yj(ps:Qg)(ol:List Nat):Qg:=ol.filterMap fun x=>ps[x]?
theorem Cm{ps:Qg}:∀ {ol:List Nat},(∀ x∈ol,x<ps.length)->(Yj ps ol).length=ol.length
 | [],_=>rfl
 | x::ol,h=>by
  have hx:=h x zy;have:=Cm (ps:=ps) (ol:=ol) fun y hy=>h y (by simp [hy]);unfold Yj at *;rw [List.filterMap_cons,List.getElem?_eq_getElem hx];simp [this]
theorem Q3n{ps:Qg}{ol:List Nat}{k:Nat}(a:k<ol.length)(b:ol[k]<ps.length):Yj ps (ol.take (k+1))=Yj ps (ol.take k)++[ps[ol[k]]]:=by
 unfold Yj;rw [List.take_succ_eq_append_getElem a,List.filterMap_append];simp [List.getElem?_eq_getElem b]
theorem Cp{ps:Qg}{ol:List Nat}{p:Q5 × List Value}(h:p∈Yj ps ol):p∈ps:=by
 unfold Yj at h;obtain⟨b,_,a⟩:=List.mem_filterMap.1 h;exact List.mem_of_getElem? a
def Gl(ps:Qg)(ol:List Nat)(u v:Wd):Bool:=decide (Gc ((Yj ps ol).map (·.1)) u=0) && decide (Ga ((Yj ps ol).map (·.1)) u=v)
def Z8(ps:Qg)(ol:List Nat)(qs:Q8):List Bool:=qs.map fun q=>Gl ps ol q.1.1 q.1.2
def J3(ps:Qg)(ol:List Nat)(qs:Q8):Nat:=(Z8 ps ol qs).findIdx fun b=>!b
def Qdb(L:List Bool)(k:Nat):Prop:=∀ j (h:j<L.length),j<k->L[j]=true
end Go.Proofs.YtfdlhlghcbeblaaGreatDoor
