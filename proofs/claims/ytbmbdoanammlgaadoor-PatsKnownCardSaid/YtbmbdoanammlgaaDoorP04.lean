/- Words in memory; what a sound satisfies. No program is named. -/
import Derived.Test.YtbmbdoanammlgaaDoorP00
import Derived.Test.YtbmbdoanammlgaaDoorP01
namespace Go.Ab
open Go.RowKit
def Y1(w:Wd):List Value:=w.flatMap fun s=>[Value.int .u32 (s.1:Int),Value.int .u32 (s.2:Int)]
theorem Uq(s:Nat × Nat)(w:Wd):Y1 (s::w)=.int .u32 (s.1:Int)::.int .u32 (s.2:Int)::Y1 w:=rfl
theorem Wi(w:Wd):(Y1 w).length=w.length*2:=by
 induction w with
 | nil=>rfl
 | cons s w ih=>simp [Uq,ih];omega
theorem Lo(w:Wd)(i:Nat)(h:i<w.length):(Y1 w)[i*2]?=some (.int .u32 ((w.getD i (0,0)).1:Int))/\(Y1 w)[i*2+1]?=some (.int .u32 ((w.getD i (0,0)).2:Int)):=by
 induction w generalizing i with
 | nil=>simp at h
 | cons s w ih=>
  cases i with
  | zero=>simp [Uq]
  | succ i=>
   rw [Uq,show (i+1)*2=i*2+1+1 by omega]
   simpa using ih i (by simpa using h)
def Xq(w:Wd):Prop:=∀ s∈w,s.1<4294967296/\s.2<4294967296
theorem Xq.get{w:Wd}(h:Xq w)(i:Nat)(a:i<w.length):(w.getD i (0,0)).1<4294967296/\(w.getD i (0,0)).2<4294967296:=by
 refine h _ ?_;rw [List.getD_eq_getElem?_getD,List.getElem?_eq_getElem a];exact List.getElem_mem a
def Qw(W:World)(v:Value)(w:Wd):Prop:=Rd W v w.length 2 (Y1 w)/\Xq w
theorem Qw.ext{A B:World}{v:Value}{w:Wd}(h:Qw A v w)(ht:Ext A B):Qw B v w:=⟨h.1.ext ht,h.2⟩
theorem Qw.at{W:World}{v:Value}{w:Wd}(h:Qw W v w){i:Nat}(k:i<w.length) :
  ∃ g off cap,v=.slice (some ⟨g,off,none⟩) w.length cap/\g<W.heap.size/\W.cell? ⟨g,off+i*2,none⟩=some (.int .u32 ((w.getD i (0,0)).1:Int))/\W.cell? ⟨g,off+i*2+1,none⟩=some (.int .u32 ((w.getD i (0,0)).2:Int)):=by
 obtain⟨⟨n,o,m,cap,l,e⟩,p⟩:=h;obtain⟨g,off,f,j,d⟩:=e oz;have c:=Lo w i k;have a:=d (i*2) oz;have b:=d (i*2+1) oz;rw [List.getD_eq_getElem?_getD,c.1] at a;rw [List.getD_eq_getElem?_getD,c.2,<-Nat.add_assoc] at b;exact⟨g,off,cap,by rw [l,f],j,a,b⟩
theorem Qw.slice{W:World}{v:Value}{w:Wd}(h:Qw W v w):∃ ao cap,v=.slice ao w.length cap/\w.length<=maxLen:=by
 obtain⟨⟨c,a,ao,cap,b,d⟩,e⟩:=h;exact⟨ao,cap,b,a⟩
theorem Gb(a b:Nat)(g:a<4294967296)(j:b<4294967296):a &&& (4294967295 - b)=0↔a &&& b=a:=by
 have f:∀ c,(4294967295 - b).testBit c=(decide (c<32) && !b.testBit c):=fun c=>by
  have:=Nat.testBit_two_pow_sub_succ (n:=32) (x:=b) (by simpa using j) c
  simpa using this
 have i:∀ c,32<=c->a.testBit c=false:=fun c e=>Nat.testBit_lt_two_pow (Nat.lt_of_lt_of_le g (Nat.pow_le_pow_right (n:=2) zd e));constructor
 ·intro d;apply Nat.eq_of_testBit_eq;intro c;have:=congrArg (fun v=>Nat.testBit v c) d;simp only [Nat.testBit_and,f,Nat.zero_testBit] at this;rw [Nat.testBit_and];by_cases e:c<32
  ·cases q:a.testBit c <;> cases r:b.testBit c <;> simp_all
  ·rw [i c oz];rfl
 ·intro d;apply Nat.eq_of_testBit_eq;intro c;have:=congrArg (fun v=>Nat.testBit v c) d;simp only [Nat.testBit_and] at this;rw [Nat.testBit_and,f,Nat.zero_testBit];cases q:a.testBit c <;> cases r:b.testBit c <;> simp_all
theorem Lw{s c:Nat × Nat}(e:s.1<4294967296)(f:s.2<4294967296)(b:c.1<4294967296)(d:c.2<4294967296) :
  (bits .or .u32 (bits .andNot .u32 (c.1:Int) (s.1:Int)) (bits .andNot .u32 (c.2:Int) (s.2:Int)) == 0)=sat s c:=by
 have g:c.1 &&& (4294967295 - s.1)<4294967296:=Nat.lt_of_le_of_lt Nat.and_le_left b;have i:c.2 &&& (4294967295 - s.2)<4294967296:=Nat.lt_of_le_of_lt Nat.and_le_left d;rw [u32_andNot_nat _ _ b e,u32_andNot_nat _ _ d f,u32_or_nat _ _ g i];apply Bool.eq_iff_iff.2;rw [beq_iff_eq,sat,Bool.and_eq_true,beq_iff_eq,beq_iff_eq,<-Gb _ _ b e,<-Gb _ _ d f];constructor
 ·intro a;have a:(c.1 &&& (4294967295 - s.1) ||| c.2 &&& (4294967295 - s.2))=0:=by exact_mod_cast a
  exact Nat.or_eq_zero_iff.1 a
 ·intro a;have:(c.1 &&& (4294967295 - s.1) ||| c.2 &&& (4294967295 - s.2))=0:=Nat.or_eq_zero_iff.2 a
  exact_mod_cast this
theorem Wb{a b:Nat}(c:a<4294967296)(d:b<4294967296):((bits .and .u32 (a:Int) (b:Int) == 0)=(a &&& b == 0))/\bits .or .u32 (a:Int) (b:Int)=((a ||| b:Nat):Int):=by
 rw [u32_and_nat _ _ c d,u32_or_nat _ _ c d];refine⟨?_,rfl⟩;apply Bool.eq_iff_iff.2;rw [beq_iff_eq,beq_iff_eq];exact⟨fun h=>by exact_mod_cast h,fun h=>by rw [h];rfl⟩
end Go.Ab
