/- ablautref08.Trace, Apply, Changes (printed by genreftr.py). ablautref02.Copy as an own word; ablautref10.Forms, Derive (printed by genrforms.py). ablautref14.explains. -/
import Derived.Test.YtfdlhlghcbeblaaGreatDoorH27
import Derived.Test.YtfdlhlghcbeblaaGreatDoorH26
import Derived.Test.YtfdlhlghcbeblaaGreatDoorH18
import Derived.Test.YtfdlhlghcbeblaaGreatDoorH16
import Derived.Test.YtfdlhlghcbeblaaGreatDoorH17
import Derived.Test.YtfdlhlghcbeblaaGreatDoorH14
import Derived.Test.YtfdlhlghcbeblaaGreatDoorH07
import Derived.Test.YtfdlhlghcbeblaaGreatDoorH02
import Derived.Test.YtfdlhlghcbeblaaGreatDoorH10
set_option maxRecDepth 100000
set_option maxHeartbeats 16000000
namespace Go.Proofs.YtfdlhlghcbeblaaGreatDoor
open Go.RowKit Go.Ab
attribute [local go_sem] Oper.semAt_some wide_fn wide_depth
end Go.Proofs.YtfdlhlghcbeblaaGreatDoor
set_option maxRecDepth 100000
set_option maxHeartbeats 16000000
namespace Go.Proofs.YtfdlhlghcbeblaaGreatDoor
open Go.RowKit Go.Ab
attribute [local go_sem] Oper.semAt_some wide_fn wide_depth
theorem own_lit1{w:World}{e:TypeId}{base:Nat}(hb:base<=w.heap.size)(u:Value):(w.alloc (.cells #[u] e)).ownsRow base e 1 (.slice (some ⟨w.heap.size,0,none⟩) 1 1) 1 [u]:=
 World.ownsRow_lit w #[u] 1 hb (by unfold maxLen;omega) rfl
theorem rd_at_1{w:World}{v:Value}{n:Nat}{xs:List Value}(h:Rd w v n 1 xs){k:Nat}(hk:k<n):∃ g off cap,v=.slice (some ⟨g,off,none⟩) n cap/\g<w.heap.size/\w.cell? ⟨g,off+k,none⟩=some (xs.getD k undef):=by
 obtain⟨h1,h2,ao,cap,hv,h3⟩:=h
 obtain⟨g,off,ha,hg,hc⟩:=h3 (by omega)
 exact⟨g,off,cap,by rw [hv,ha],hg,hc k (by omega)⟩
def FormsV(E:Int)(n:Nat)(W:World)(v:Value)(u:Wd):Prop:=(E≠0->v=.slice none 0 0)/\(E=0->∃ ao c vs,v=.slice ao (n+1) c/\Rd W v (n+1) 1 vs/\OneW W (vs.getD n undef) u)
end Go.Proofs.YtfdlhlghcbeblaaGreatDoor
set_option maxRecDepth 100000
set_option maxHeartbeats 16000000
namespace Go.Proofs.YtfdlhlghcbeblaaGreatDoor
open Go.RowKit Go.Ab
attribute [local go_sem] Oper.semAt_some wide_fn wide_depth
theorem infoLawG:(Tryz.prog.info? 102).map (fun i=>(i.zero,i.size,i.bytes))=some (some (.agg #[.string ⟨#[]⟩,.int .i64 0,.int .u32 0,.int .u32 0,.bool false,.int .i64 0,.int .i64 0,.slice none 0 0,.int .i64 0,.int .u32 0,.int .u32 0,.bool false,.int .i64 0,.int .i64 0,.slice none 0 0,.slice none 0 0,.slice none 0 0,.int .i64 0]),18,200):=by kernel_rfl
def putL'(ps:LawsL)(ol:List Nat):LawsL:=ol.filterMap fun x=>ps[x]?
theorem putL_len{ps:LawsL}:∀ {ol:List Nat},(∀ x∈ol,x<ps.length)->(putL' ps ol).length=ol.length
 | [],_=>rfl
 | x::ol,h=>by
  have hx:=h x (by simp)
  have:=putL_len (ps:=ps) (ol:=ol) fun y hy=>h y (by simp [hy])
  unfold putL' at *
  rw [List.filterMap_cons,List.getElem?_eq_getElem hx]
  simp [this]
theorem putL_succ{ps:LawsL}{ol:List Nat}{k:Nat}(hk:k<ol.length)(hx:ol[k]<ps.length):putL' ps (ol.take (k+1))=putL' ps (ol.take k)++[ps[ol[k]]]:=by
 unfold putL'
 rw [List.take_succ_eq_append_getElem hk,List.filterMap_append]
 simp [List.getElem?_eq_getElem hx]
theorem putL_mem{ps:LawsL}{ol:List Nat}{p:LawD × List Value}(h:p∈putL' ps ol):p∈ps:=by
 unfold putL' at h
 obtain⟨x,_,hx⟩:=List.mem_filterMap.1 h
 exact List.mem_of_getElem? hx
def explR(ps:LawsL)(ol:List Nat)(u v:Wd):Bool:=decide (derE ((putL' ps ol).map (·.1)) u=0) && decide (derW ((putL' ps ol).map (·.1)) u=v)
end Go.Proofs.YtfdlhlghcbeblaaGreatDoor
