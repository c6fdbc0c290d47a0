/- PLAIN: sounds as bits: their features one by one, and all at once. No program is named. Laws: as data, and in memory. No program is named. PLAIN: the program's words for the bits of sounds. No program is named. feats: Valid, has, mix, Satisfies, Change, Take. feats.Change, Take (printed by genfeats2.py). pats.Begins. -/
import Derived.Test.YtfdlhlghcbeblaaGreatDoorH01
import Derived.Test.YtfdlhlghcbeblaaGreatDoorH00
import Derived.Test.YtfdlhlghcbeblaaGreatDoorH02
import Derived.Test.YtfdlhlghcbeblaaGreatDoorH06
import Derived.Laws.BitsAllLaws
import Derived.Test.YtfdlhlghcbeblaaGreatDoorProg
import Derived.WalkLawsBesides
import Derived.Handy
import Derived.Lib.Hide
namespace Go.Ab
def andn(a b:Nat):Nat:=a &&& (4294967295 ^^^ b)
theorem ones32(i:Nat):(4294967295:Nat).testBit i=decide (i<32):=Nat.testBit_two_pow_sub_one 32 i
theorem high32{a:Nat}(h:a<4294967296){i:Nat}(hi:32<=i):a.testBit i=false:=
 Nat.testBit_lt_two_pow (Nat.lt_of_lt_of_le h (by
  have:=Nat.pow_le_pow_right (show 0<2 by decide) hi
  simpa using this))
theorem andn_bit{a:Nat}(b:Nat)(ha:a<4294967296)(i:Nat):(andn a b).testBit i=(a.testBit i && !b.testBit i):=by
 unfold andn
 rw [Nat.testBit_and,Nat.testBit_xor,ones32]
 by_cases hi:i<32
 ·simp [hi]
 ·rw [high32 ha (by omega)];rfl
theorem lt32_of{a:Nat}(h:∀ i,32<=i->a.testBit i=false):a<4294967296:=
 Nat.lt_pow_two_of_testBit (n:=32) a h
theorem andn_lt{a b:Nat}(ha:a<4294967296):andn a b<4294967296:=lt32_of fun i hi=>by rw [andn_bit b ha,high32 ha hi];rfl
def mixS(s f:Nat × Nat)(m:Nat):Nat × Nat:=(andn s.1 m ||| (f.1 &&& m),andn s.2 m ||| (f.2 &&& m))
def getS(s:Nat × Nat)(f:Nat):Int:=if s.1.testBit f=true then 1 else if s.2.testBit f=true then -1 else 0
def putS(s:Nat × Nat)(f:Nat)(v:Int):Nat × Nat:=(andn s.1 (2 ^ f) ||| (if v=1 then 2 ^ f else 0),andn s.2 (2 ^ f) ||| (if v=-1 then 2 ^ f else 0))
def lt32(s:Nat × Nat):Prop:=s.1<4294967296/\s.2<4294967296
def okS(s:Nat × Nat):Bool:=okSound s.1 s.2
theorem mix_bit1{s:Nat × Nat}(f:Nat × Nat)(m:Nat)(hs:lt32 s)(i:Nat):(mixS s f m).1.testBit i=if m.testBit i=true then f.1.testBit i else s.1.testBit i:=by
 unfold mixS
 simp only [Nat.testBit_or,Nat.testBit_and,andn_bit m hs.1]
 cases m.testBit i <;> simp
theorem mix_bit2{s:Nat × Nat}(f:Nat × Nat)(m:Nat)(hs:lt32 s)(i:Nat):(mixS s f m).2.testBit i=if m.testBit i=true then f.2.testBit i else s.2.testBit i:=by
 unfold mixS
 simp only [Nat.testBit_or,Nat.testBit_and,andn_bit m hs.2]
 cases m.testBit i <;> simp
theorem mix_lt{s f:Nat × Nat}(m:Nat)(hs:lt32 s)(hf:lt32 f):lt32 (mixS s f m):=
 ⟨lt32_of fun i hi=>by rw [mix_bit1 f m hs,high32 hf.1 hi,high32 hs.1 hi];simp,lt32_of fun i hi=>by rw [mix_bit2 f m hs,high32 hf.2 hi,high32 hs.2 hi];simp⟩
theorem okS_iff{s:Nat × Nat}(hs:lt32 s):okS s=true↔∀ i,i<32->¬ (s.1.testBit i=true/\s.2.testBit i=true)/\((s.1.testBit i=true\/s.2.testBit i=true)->i<24):=by
 unfold okS okSound
 rw [Bool.and_eq_true,beq_iff_eq,beq_iff_eq]
 constructor
 ·rintro⟨h1,h2⟩ i hi
  refine⟨fun⟨q1,q2⟩=>?_,fun h=>?_⟩
  ·have:=congrArg (fun x=>x.testBit i) h1
   simp [q1,q2] at this
  ·apply Nat.lt_of_not_le
   intro h24
   have h3:(s.1 ||| s.2)<2 ^ 24:=by
    have h4:(s.1 ||| s.2)<16777216:=by omega
    simpa using h4
   have h5:=Nat.testBit_lt_two_pow (Nat.lt_of_lt_of_le h3 (Nat.pow_le_pow_right (show 0<2 by decide) h24))
   rw [Nat.testBit_or] at h5
   rcases h with h | h <;> simp [h] at h5
 ·intro h
  have hb:∀ i,s.1.testBit i=true\/s.2.testBit i=true->i<24:=fun i hi=>by
   apply (h i ?_).2 hi
   apply Nat.lt_of_not_le
   intro h32
   rw [high32 hs.1 h32,high32 hs.2 h32] at hi
   simp at hi
  refine⟨Nat.eq_of_testBit_eq fun i=>?_,?_⟩
  ·rw [Nat.testBit_and,Nat.zero_testBit]
   cases h1:s.1.testBit i
   ·rfl
   ·cases h2:s.2.testBit i
    ·rfl
    ·have hi:=hb i (.inl h1)
     exact absurd ⟨h1,h2⟩ (h i (by omega)).1
  ·have h3:(s.1 ||| s.2)<2 ^ 24:=Nat.lt_pow_two_of_testBit _ fun i hi=>by
    rw [Nat.testBit_or]
    cases h1:s.1.testBit i
    ·cases h2:s.2.testBit i
     ·rfl
     ·have:=hb i (.inr h2);omega
    ·have:=hb i (.inl h1);omega
   have h4:(s.1 ||| s.2)<16777216:=by simpa using h3
   omega
theorem mix_ok{s f:Nat × Nat}{m:Nat}(hs:lt32 s)(hf:lt32 f)(h1:okS s=true)(h2:okS f=true):okS (mixS s f m)=true:=by
 rw [okS_iff (mix_lt m hs hf)]
 intro i hi
 rw [mix_bit1 f m hs,mix_bit2 f m hs]
 have a1:=(okS_iff hs).1 h1 i hi
 have a2:=(okS_iff hf).1 h2 i hi
 by_cases hm:m.testBit i=true
 ·simp only [hm,if_true];exact a2
 ·simp only [hm];exact a1
def satS(s c:Nat × Nat):Bool:=c.1 &&& s.1 == c.1 && c.2 &&& s.2 == c.2
theorem sub_iff{a b:Nat}:a &&& b=a↔∀ i,a.testBit i=true->b.testBit i=true:=by
 constructor
 ·intro h i hi
  have:=congrArg (fun x=>x.testBit i) h
  simp [hi] at this
  exact this
 ·intro h
  refine Nat.eq_of_testBit_eq fun i=>?_
  rw [Nat.testBit_and]
  cases h1:a.testBit i
  ·rfl
  ·rw [h i h1];rfl
theorem andn_zero{a b:Nat}(ha:a<4294967296):andn a b=0↔a &&& b=a:=by
 rw [sub_iff]
 constructor
 ·intro h i hi
  have:=congrArg (fun x=>x.testBit i) h
  simp only [andn_bit b ha,Nat.zero_testBit,hi,Bool.true_and] at this
  simpa using this
 ·intro h
  refine Nat.eq_of_testBit_eq fun i=>?_
  rw [andn_bit b ha,Nat.zero_testBit]
  cases h1:a.testBit i
  ·rfl
  ·rw [h i h1];rfl
end Go.Ab
namespace Go.Ab
open Go.RowKit
structure OutD where
 frm:Int
 cl:Nat
 st:Nat × Nat
 tk:Nat
 ofi:Int
structure LawD where
 name:ByteArray
 left:Pat
 right:Pat
 ifs:Wd
 outs:List OutD
 mode:Int
def outCells(x:OutD):List Value:=[.int .i64 x.frm,.int .u32 (x.cl:Int),.int .u32 (x.st.1:Int),.int .u32 (x.st.2:Int),.int .u32 (x.tk:Int),.int .i64 x.ofi]
def outL(l:List OutD):List Value:=l.flatMap outCells
def OutOk(x:OutD):Prop:=x.cl<4294967296/\lt32 x.st/\x.tk<4294967296
theorem outL_cons(x:OutD)(l:List OutD):outL (x::l)=outCells x++outL l:=rfl
theorem outL_length(l:List OutD):(outL l).length=l.length*6:=by
 induction l with
 | nil=>rfl
 | cons x l ih=>rw [outL_cons,List.length_append,ih];simp [outCells];omega
theorem outL_get:∀(l:List OutD) (i j:Nat) (h:i<l.length),j<6->(outL l)[i*6+j]?=(outCells l[i])[j]?
 | [],i,j,h,_=>by simp at h
 | x::l,0,j,_,hj=>by rw [outL_cons,Nat.zero_mul,Nat.zero_add,List.getElem?_append_left (by simpa [outCells] using hj)];rfl
 | x::l,i+1,j,h,hj=>by
  rw [outL_cons,List.getElem?_append_right (by simp [outCells];omega),show (i+1)*6+j - (outCells x).length=i*6+j by simp [outCells];omega]
  exact outL_get l i j (by simpa using h) hj
def OutsAt(w:World)(v:Value)(l:List OutD):Prop:=Rd w v l.length 6 (outL l)/\∀ x∈l,OutOk x
theorem OutsAt.ext{A B:World}{v:Value}{l:List OutD}(h:OutsAt A v l)(ht:Ext A B):OutsAt B v l:=⟨h.1.ext ht,h.2⟩
theorem OutsAt.slice{w:World}{v:Value}{l:List OutD}(h:OutsAt w v l):∃ ao cap,v=.slice ao l.length cap/\l.length<=maxLen:=by
 obtain⟨⟨_,h2,ao,cap,hv,_⟩,_⟩:=h
 exact⟨ao,cap,hv,h2⟩
theorem OutsAt.at{w:World}{v:Value}{l:List OutD}(h:OutsAt w v l){i:Nat}(hi:i<l.length) :
  ∃ g off cap,v=.slice (some ⟨g,off,none⟩) l.length cap/\g<w.heap.size/\OutOk l[i]/\w.cell? ⟨g,off+i*6,none⟩=some (.int .i64 l[i].frm)/\w.cell? ⟨g,off+i*6+1,none⟩=some (.int .u32 (l[i].cl:Int))/\w.cell? ⟨g,off+i*6+2,none⟩=some (.int .u32 (l[i].st.1:Int)) /\
   w.cell? ⟨g,off+i*6+3,none⟩=some (.int .u32 (l[i].st.2:Int))/\w.cell? ⟨g,off+i*6+4,none⟩=some (.int .u32 (l[i].tk:Int))/\w.cell? ⟨g,off+i*6+5,none⟩=some (.int .i64 l[i].ofi):=by
 obtain⟨⟨h1,h2,ao,cap,hv,h3⟩,h4⟩:=h
 obtain⟨g,off,ha,hg,hc⟩:=h3 (by omega)
 have key:∀ j,j<6->w.cell? ⟨g,off+i*6+j,none⟩=(outCells l[i])[j]?:=fun j hj=>by
  have hlt:i*6+j<l.length*6:=by omega
  rw [Nat.add_assoc,hc (i*6+j) hlt,<-outL_get l i j hi hj,List.getD_eq_getElem?_getD,List.getElem?_eq_getElem (by rw [outL_length];exact hlt)]
  rfl
 exact⟨g,off,cap,by rw [hv,ha],hg,h4 _ (List.getElem_mem hi),key 0 (by decide),key 1 (by decide),key 2 (by decide),key 3 (by decide),key 4 (by decide),key 5 (by decide)⟩
def lawCells(name:ByteArray)(lc rc:List Value)(iv ov:Value)(mode:Int):List Value:=.string name::(lc++(rc++[iv,ov,.int .i64 mode]))
def LawAt(w:World)(l:LawD)(cs:List Value):Prop:=
 ∃ lc rc iv ov,cs=lawCells l.name lc rc iv ov l.mode/\l.name.size<=maxLen/\PatAt (fun g=>g<w.heap.size) w l.left lc/\PatAt (fun g=>g<w.heap.size) w l.right rc/\WordAt w iv l.ifs/\OutsAt w ov l.outs
theorem LawAt.ext{A B:World}{l:LawD}{cs:List Value}(h:LawAt A l cs)(ht:Ext A B):LawAt B l cs:=by
 obtain⟨lc,rc,iv,ov,h1,h2,h3,h4,h5,h6⟩:=h
 have hb:∀ g,g<A.heap.size->g<B.heap.size:=fun g hg=>Nat.lt_of_lt_of_le hg ht.size
 exact⟨lc,rc,iv,ov,h1,h2,PatAt.mono hb (h3.ext ht),PatAt.mono hb (h4.ext ht),h5.ext ht,h6.ext ht⟩
end Go.Ab
namespace Go.Ab
open Go.RowKit
theorem andn_eq(a:Nat){b:Nat}(hb:b<4294967296):a &&& (4294967295 - b)=andn a b:=by
 unfold andn
 congr 1
 refine Nat.eq_of_testBit_eq fun i=>?_
 rw [Nat.testBit_xor,ones32]
 have:=Nat.testBit_two_pow_sub_succ (n:=32) (x:=b) hb i
 rw [show (2 ^ 32 - (b+1):Nat)=4294967295 - b by omega] at this
 rw [this]
 by_cases hi:i<32
 ·simp [hi]
 ·rw [high32 hb (by omega)];simp [hi]
theorem andn32(a b:Nat)(ha:a<4294967296)(hb:b<4294967296):bits .andNot .u32 (a:Int) (b:Int)=((andn a b:Nat):Int):=by
 rw [u32_andNot_nat a b ha hb,andn_eq a hb]
end Go.Ab
namespace Go.Proofs.YtfdlhlghcbeblaaGreatDoor
open Go.RowKit Go.Ab
attribute [local go_sem] Oper.semAt_some wide_fn wide_depth
abbrev sV(s:Nat × Nat):Value:=.agg #[.int .u32 (s.1:Int),.int .u32 (s.2:Int)]
set_option maxHeartbeats 2000000 in
theorem fvalid_any{s:Nat × Nat}(hs:lt32 s)(w:World) :
  Calls Tryz.prog 170 #[sV s] w fun e w'=>e=.returned (.bool (okS s))/\Ext w w':=by
 obtain⟨a,b⟩:=s
 obtain⟨ha,hb⟩:=hs
 obtain⟨o1,o2⟩:=okSound_bits ha hb
 have hl:a ||| b<4294967296:=Nat.or_lt_two_pow (n:=32) ha hb
 have hok:okS (a,b)=((a &&& b == 0) && ((a ||| b) / 16777216 == 0)):=rfl
 obtain⟨x,hx⟩:∃ x,(a &&& b == 0)=x:=⟨_,rfl⟩
 obtain⟨c,hc⟩:∃ c,a ||| b=c:=⟨_,rfl⟩
 rw [hx] at o1 hok
 rw [hc] at o2 hok hl
 have hy:(c / 16777216 == 0)=decide ((c:Int)<=16777215):=by
  apply Bool.eq_iff_iff.2
  rw [beq_iff_eq,decide_eq_true_iff];omega
 rw [hy] at hok
 obtain⟨y,hyy⟩:∃ y,decide ((c:Int)<=16777215)=y:=⟨_,rfl⟩
 rw [hyy] at hok
 have HOK:=Lib.hid hok
 clear hok hx hc hy
 dsimp only at ha hb
 cases y
 ·have h2:¬ (c:Int)<=16777215:=of_decide_eq_false hyy
  clear hyy
  go_enter Tryz.func170,Tryz.ntmps170
  cases x
  all_goals
   go_wp2
   go_ret
   exact⟨by rw [HOK.out];rfl,(Turn.refl _ _).alloc _⟩
 ·have h2:(c:Int)<=16777215:=of_decide_eq_true hyy
  clear hyy
  go_enter Tryz.func170,Tryz.ntmps170
  cases x
  all_goals
   go_wp2
   go_ret
   exact⟨by rw [HOK.out];rfl,(Turn.refl _ _).alloc _⟩
set_option maxHeartbeats 2000000 in
theorem fhas_any{s:Nat × Nat}(hs:lt32 s)(w:World) :
  Calls Tryz.prog 281 #[sV s] w fun e w'=>e=.returned (.int .u32 ((s.1 ||| s.2:Nat):Int))/\Ext w w':=by
 obtain⟨a,b⟩:=s
 obtain⟨ha,hb⟩:=hs
 have o2:=u32_or_nat a b ha hb
 dsimp only at ha hb ⊢
 go_enter Tryz.func281,Tryz.ntmps281
 go_wp2
 go_ret
 exact⟨rfl,(Turn.refl _ _).alloc _⟩
set_option maxHeartbeats 2000000 in
theorem fmix_any{s f:Nat × Nat}{m:Nat}(hs:lt32 s)(hf:lt32 f)(hm:m<4294967296)(w:World) :
  Calls Tryz.prog 282 #[sV s,sV f,.int .u32 (m:Int)] w fun e w'=>e=.returned (sV (mixS s f m))/\Ext w w':=by
 obtain⟨a,b⟩:=s
 obtain⟨c,d⟩:=f
 obtain⟨ha,hb⟩:=hs
 obtain⟨hc,hd⟩:=hf
 dsimp only at ha hb hc hd
 have o1:=andn32 a m ha hm
 have o2:=andn32 b m hb hm
 have o3:=u32_and_nat c m hc hm
 have o4:=u32_and_nat d m hd hm
 have l3:c &&& m<4294967296:=Nat.lt_of_le_of_lt Nat.and_le_left hc
 have l4:d &&& m<4294967296:=Nat.lt_of_le_of_lt Nat.and_le_left hd
 have o5:=u32_or_nat (andn a m) (c &&& m) (andn_lt ha) l3
 have o6:=u32_or_nat (andn b m) (d &&& m) (andn_lt hb) l4
 clear l3 l4
 go_enter Tryz.func282,Tryz.ntmps282
 go_wp2
 refine bodyPost_ret (results_cell_row rfl _ _ (w.heap.size+1+1) _ #[.int .u32 ((andn a m ||| c &&& m:Nat):Int),.int .u32 ((andn b m ||| d &&& m:Nat):Int)] _ _ rfl (new_at (by simp)) Tryz.underlying95 rfl (by kernel_rfl)) rfl ?_
 exact⟨rfl,(((Turn.refl _ _).alloc _).alloc _).alloc _⟩
theorem snd_result2{fn:Func}{p u:Tmp}(h:fn.results=#[.cell p 95,.tmp u]){tmps:Array Value}{w:World}{g:Nat}{cs:Array Value}(hp:tmps.getD p undef=.pointer (some ⟨g,0,none⟩)) (hg:w.heap[g]?=some (.cells cs 95 (0,0))) (hi:(Tryz.prog.info? 95).map (·.size)=some cs.size) :
  (results fn tmps).run Tryz.prog w=.ok (.tuple #[.agg cs,tmps.getD u undef]) w:=by
 have hp':tmps[p]?.getD undef=.pointer (some ⟨g,0,none⟩):=by simpa using hp
 simp [results,h,hp',asAddr,run_loadVar_row w g _ _ _ _ _ hg Tryz.underlying95 rfl hi]
def satV(s c:Nat × Nat):Bool:=okS s && okS c && satS s c
theorem satS_andn{s c:Nat × Nat}(hc:lt32 c):satS s c=(andn c.1 s.1 == 0 && andn c.2 s.2 == 0):=by
 unfold satS
 apply Bool.eq_iff_iff.2
 simp only [Bool.and_eq_true,beq_iff_eq]
 rw [andn_zero hc.1,andn_zero hc.2]
set_option maxHeartbeats 4000000 in
theorem fsat_any{s c:Nat × Nat}(hs:lt32 s)(hc:lt32 c)(w:World) :
  Calls Tryz.prog 260 #[sV s,sV c] w fun e w'=>e=.returned (.bool (satV s c))/\Ext w w':=by
 have hv1:=fun(V:World)=>fvalid_any hs V
 have hv2:=fun(V:World)=>fvalid_any hc V
 have hsat:satV s c=(okS s && okS c && (andn c.1 s.1 == 0 && andn c.2 s.2 == 0)):=by unfold satV;rw [satS_andn hc]
 obtain⟨a,b⟩:=s
 obtain⟨c,d⟩:=c
 obtain⟨ha,hb⟩:=hs
 obtain⟨hc,hd⟩:=hc
 dsimp only at ha hb hc hd
 have o1:=andn32 c a hc ha
 have o2:=andn32 d b hd hb
 dsimp only at hsat
 obtain⟨x,hx⟩:∃ x,okS (a,b)=x:=⟨_,rfl⟩
 obtain⟨y,hy⟩:∃ x,okS (c,d)=x:=⟨_,rfl⟩
 obtain⟨z,hz⟩:∃ x,satV (a,b) (c,d)=x:=⟨_,rfl⟩
 obtain⟨p,hp⟩:∃ x,andn c a=x:=⟨_,rfl⟩
 obtain⟨q,hq⟩:∃ x,andn d b=x:=⟨_,rfl⟩
 rw [hx] at hv1
 rw [hy] at hv2
 rw [hx,hy,hz,hp,hq] at hsat
 rw [hp] at o1
 rw [hq] at o2
 rw [hz]
 have HV1:=Lib.hid hv1;have HV2:=Lib.hid hv2;have HS:=Lib.hid hsat
 clear hv1 hv2 hsat hx hy hz hp hq
 go_enter Tryz.func260,Tryz.ntmps260
 go_wp2_with fail
 have hE1:Ext w ((w.alloc (.cells #[.int .u32 (a:Int),.int .u32 (b:Int)] 95)).alloc (.cells #[.int .u32 (c:Int),.int .u32 (d:Int)] 95)):=((Turn.refl _ w).alloc _).alloc _
 have h1:((w.alloc (.cells #[.int .u32 (a:Int),.int .u32 (b:Int)] 95)).alloc (.cells #[.int .u32 (c:Int),.int .u32 (d:Int)] 95)).heap[w.heap.size]?=some (.cells #[.int .u32 (a:Int),.int .u32 (b:Int)] 95 (0,0)):=new_keep (new_at rfl)
 have h2:((w.alloc (.cells #[.int .u32 (a:Int),.int .u32 (b:Int)] 95)).alloc (.cells #[.int .u32 (c:Int),.int .u32 (d:Int)] 95)).heap[w.heap.size+1]?=some (.cells #[.int .u32 (c:Int),.int .u32 (d:Int)] 95 (0,0)):=new_at (by simp)
 refine(HV1.out _).mono ?_
 generalize ((w.alloc (.cells #[.int .u32 (a:Int),.int .u32 (b:Int)] 95)).alloc (.cells #[.int .u32 (c:Int),.int .u32 (d:Int)] 95))=w1 at hE1 h1 h2 ⊢
 generalize w.heap.size=B at h1 h2 ⊢
 rintro e w2 ⟨rfl,hE2⟩
 have hE02:=hE1.trans hE2
 have g1:=hE2.keep h1
 have g2:=hE2.keep h2
 have cX:=fun j=>cell_of_row _ _ j _ _ _ g1
 have cY:=fun j=>cell_of_row _ _ j _ _ _ g2
 clear hE2 h1 h2 hE1
 cases x
 ·clear g1 g2
  go_wp2
  go_ret
  exact⟨by rw [HS.out];rfl,hE02⟩
 ·go_wp2_with fail
  refine(HV2.out _).mono ?_
  rintro e w3 ⟨rfl,hE3⟩
  have hE03:=hE02.trans hE3
  have k1:=hE3.keep g1
  have k2:=hE3.keep g2
  clear cX cY hE3 hE02 g1 g2
  have cX:=fun j=>cell_of_row _ _ j _ _ _ k1
  have cY:=fun j=>cell_of_row _ _ j _ _ _ k2
  clear k1 k2
  cases y
  ·go_wp2
   go_ret
   exact⟨by rw [HS.out];rfl,hE03⟩
  ·by_cases hp:p=0
   ·subst hp
    have q2:((q:Int) == 0)=(q == 0):=by
     apply Bool.eq_iff_iff.2
     rw [beq_iff_eq,beq_iff_eq];omega
    go_wp2
    go_ret
    refine⟨?_,hE03⟩
    rw [HS.out]
    simp
   ·have q1:((p:Int) == 0)=false:=by rw [beq_eq_false_iff_ne];omega
    have q2:(p == 0)=false:=by rw [beq_eq_false_iff_ne];exact hp
    rw [q2] at HS
    clear q2
    go_wp2
    go_ret
    exact⟨by rw [HS.out];rfl,hE03⟩
end Go.Proofs.YtfdlhlghcbeblaaGreatDoor
set_option maxRecDepth 100000
set_option maxHeartbeats 8000000
namespace Go.Proofs.YtfdlhlghcbeblaaGreatDoor
open Go.RowKit Go.Ab
attribute [local go_sem] Oper.semAt_some wide_fn wide_depth
def chgV(s:Nat × Nat)(m:Nat)(f:Nat × Nat):(Nat × Nat) × Int:=
 if okS s=false\/okS f=false then((0,0),14) else if 16777215<m\/m &&& (f.1 ||| f.2)≠0 then((0,0),2) else(mixS s f (m ||| (f.1 ||| f.2)),0)
def takV(s f:Nat × Nat)(m:Nat):(Nat × Nat) × Int:=
 if okS s=false\/okS f=false then((0,0),14) else if 16777215<m then((0,0),2) else(mixS s f m,0)
theorem ftake_any{s f:Nat × Nat}{m:Nat}(hs:lt32 s)(hf:lt32 f)(hm:m<4294967296)(w:World) :
  Calls Tryz.prog 263 #[sV s,sV f,.int .u32 (m:Int)] w fun e w'=>e=.returned (.tuple #[sV (takV s f m).1,.int .i64 (takV s f m).2])/\Ext w w':=by
 have hv1:=fun(V:World)=>fvalid_any hs V
 have hv2:=fun(V:World)=>fvalid_any hf V
 have hmx:=fun(V:World)=>fmix_any hs hf hm V
 obtain⟨a,b⟩:=s
 obtain⟨c,d⟩:=f
 obtain⟨ha,hb⟩:=hs
 obtain⟨hc,hd⟩:=hf
 dsimp only at ha hb hc hd
 obtain⟨x,hx⟩:∃ x,okS (a,b)=x:=⟨_,rfl⟩
 obtain⟨y,hy⟩:∃ x,okS (c,d)=x:=⟨_,rfl⟩
 rw [hx] at hv1
 rw [hy] at hv2
 have HV1:=Lib.hid hv1;have HV2:=Lib.hid hv2
 have HR:Hid (takV (a,b) (c,d) m=if x=false\/y=false then((0,0),14) else if 16777215<m then((0,0),2) else(mixS (a,b) (c,d) m,0)):=Lib.hid (by unfold takV;rw [hx,hy])
 obtain⟨r1,r2,hr⟩:∃ r1 r2,takV (a,b) (c,d) m=(r1,r2):=⟨_,_,rfl⟩
 rw [hr] at HR ⊢
 clear hv1 hv2 hx hy hr
 obtain⟨⟨u1,u2⟩,hu⟩:∃ u,mixS (a,b) (c,d) m=u:=⟨_,rfl⟩
 rw [hu] at hmx HR
 have HMX:=Lib.hid hmx
 clear hmx hu
 go_enter Tryz.func263,Tryz.ntmps263
 go_wp2_with fail
 obtain⟨B,hB⟩:∃ B,w.heap.size=B:=⟨_,rfl⟩
 have x1:(((w.alloc (.cells #[.int .u32 (a:Int),.int .u32 (b:Int)] 95)).alloc (.cells #[.int .u32 (c:Int),.int .u32 (d:Int)] 95)).alloc (.cells #[.int .u32 0,.int .u32 0] 95)).heap[B]?=some (.cells #[.int .u32 (a:Int),.int .u32 (b:Int)] 95 (0,0)):=by subst hB;exact new_keep (new_keep (new_at rfl))
 have y1:(((w.alloc (.cells #[.int .u32 (a:Int),.int .u32 (b:Int)] 95)).alloc (.cells #[.int .u32 (c:Int),.int .u32 (d:Int)] 95)).alloc (.cells #[.int .u32 0,.int .u32 0] 95)).heap[B+1]?=some (.cells #[.int .u32 (c:Int),.int .u32 (d:Int)] 95 (0,0)):=by subst hB;exact new_keep (new_at (by simp))
 have z1:(((w.alloc (.cells #[.int .u32 (a:Int),.int .u32 (b:Int)] 95)).alloc (.cells #[.int .u32 (c:Int),.int .u32 (d:Int)] 95)).alloc (.cells #[.int .u32 0,.int .u32 0] 95)).heap[B+2]?=some (.cells #[.int .u32 0,.int .u32 0] 95 (0,0)):=by subst hB;exact new_at (by simp)
 have E1:Ext w (((w.alloc (.cells #[.int .u32 (a:Int),.int .u32 (b:Int)] 95)).alloc (.cells #[.int .u32 (c:Int),.int .u32 (d:Int)] 95)).alloc (.cells #[.int .u32 0,.int .u32 0] 95)):=(((Turn.refl _ w).alloc _).alloc _).alloc _
 refine(HV1.out _).mono ?_
 generalize (((w.alloc (.cells #[.int .u32 (a:Int),.int .u32 (b:Int)] 95)).alloc (.cells #[.int .u32 (c:Int),.int .u32 (d:Int)] 95)).alloc (.cells #[.int .u32 0,.int .u32 0] 95))=w1 at x1 y1 z1 E1 ⊢
 rw [hB]
 have HB:=Lib.hid hB
 clear hB
 rintro e w2 ⟨rfl,hN⟩
 have E2:=E1.trans hN
 have x2:=hN.keep x1
 have y2:=hN.keep y1
 have z2:=hN.keep z1
 have cX:=fun j=>cell_of_row _ _ j _ _ _ x2
 have cY:=fun j=>cell_of_row _ _ j _ _ _ y2
 have HZ2:=Lib.hid z2
 clear hN x1 y1 z1 E1
 cases x
 ·clear x2 y2 z2
  have hw:r1=(0,0)/\r2=14:=by have:=HR.out;rw [if_pos (.inl rfl)] at this;exact⟨congrArg Prod.fst this,congrArg Prod.snd this⟩
  obtain⟨rfl,rfl⟩:=hw
  clear HR
  go_wp2_with (refine wpList_store_row rfl 95 (.tmp 6) (.tmp 16) rfl (B+2) #[.int .u32 0,.int .u32 0] rfl rfl _ _ HZ2.out (by kernel_rfl) rfl (by kernel_rfl) ?_)
  have hT9:=Turn.setRow w2 (B+2) #[.int .u32 0,.int .u32 0]
  refine bodyPost_ret (snd_result2 (p:=6) (u:=7) rfl rfl (setRow_heap _ _ _ _ _ _ HZ2.out) (by kernel_rfl)) rfl ?_
  exact⟨rfl,E2.after hT9 (fun b h1 e=>by have:=HB.out;omega)⟩
 go_wp2_with fail
 refine(HV2.out _).mono ?_
 rintro e w3 ⟨rfl,hN⟩
 have E3:=E2.trans hN
 have x3:=hN.keep x2
 have y3:=hN.keep y2
 have z3:=hN.keep z2
 clear cX cY HZ2 hN x2 y2 z2 E2
 have cX:=fun j=>cell_of_row _ _ j _ _ _ x3
 have cY:=fun j=>cell_of_row _ _ j _ _ _ y3
 have HZ3:=Lib.hid z3
 cases y
 ·clear x3 y3 z3
  have hw:r1=(0,0)/\r2=14:=by have:=HR.out;rw [if_pos (.inr rfl)] at this;exact⟨congrArg Prod.fst this,congrArg Prod.snd this⟩
  obtain⟨rfl,rfl⟩:=hw
  clear HR
  go_wp2_with (refine wpList_store_row rfl 95 (.tmp 6) (.tmp 16) rfl (B+2) #[.int .u32 0,.int .u32 0] rfl rfl _ _ HZ3.out (by kernel_rfl) rfl (by kernel_rfl) ?_)
  have hT9:=Turn.setRow w3 (B+2) #[.int .u32 0,.int .u32 0]
  refine bodyPost_ret (snd_result2 (p:=6) (u:=7) rfl rfl (setRow_heap _ _ _ _ _ _ HZ3.out) (by kernel_rfl)) rfl ?_
  exact⟨rfl,E3.after hT9 (fun b h1 e=>by have:=HB.out;omega)⟩
 by_cases hm2:16777215<m
 ·have g1:(16777215:Int)<(m:Int):=by omega
  clear x3 y3 z3
  have hw:r1=(0,0)/\r2=2:=by have:=HR.out;rw [if_neg (by decide),if_pos hm2] at this;exact⟨congrArg Prod.fst this,congrArg Prod.snd this⟩
  obtain⟨rfl,rfl⟩:=hw
  clear HR
  go_wp2_with (refine wpList_store_row rfl 95 (.tmp 6) (.tmp 19) rfl (B+2) #[.int .u32 0,.int .u32 0] rfl rfl _ _ HZ3.out (by kernel_rfl) rfl (by kernel_rfl) ?_)
  have hT9:=Turn.setRow w3 (B+2) #[.int .u32 0,.int .u32 0]
  refine bodyPost_ret (snd_result2 (p:=6) (u:=7) rfl rfl (setRow_heap _ _ _ _ _ _ HZ3.out) (by kernel_rfl)) rfl ?_
  exact⟨rfl,E3.after hT9 (fun b h1 e=>by have:=HB.out;omega)⟩
 have g1:¬ (16777215:Int)<(m:Int):=by omega
 have hw:r1=(u1,u2)/\r2=0:=by have:=HR.out;rw [if_neg (by decide),if_neg hm2] at this;exact⟨congrArg Prod.fst this,congrArg Prod.snd this⟩
 obtain⟨rfl,rfl⟩:=hw
 clear HR
 go_wp2_with fail
 refine(HMX.out _).mono ?_
 rintro e w4 ⟨rfl,hN⟩
 have E4:=E3.trans hN
 have x4:=hN.keep x3
 have y4:=hN.keep y3
 have z4:=hN.keep z3
 clear cX cY HZ3 hN x3 y3 z3 E3
 have HZ4:=Lib.hid z4
 clear x4 y4 z4
 go_wp2_with (refine wpList_store_row rfl 95 (.tmp 6) (.tmp 23) rfl (B+2) #[.int .u32 (u1:Int),.int .u32 (u2:Int)] rfl rfl _ _ HZ4.out (by kernel_rfl) rfl (by kernel_rfl) ?_)
 have hT9:=Turn.setRow w4 (B+2) #[.int .u32 (u1:Int),.int .u32 (u2:Int)]
 refine bodyPost_ret (snd_result2 (p:=6) (u:=7) rfl rfl (setRow_heap _ _ _ _ _ _ HZ4.out) (by kernel_rfl)) rfl ?_
 exact⟨rfl,E4.after hT9 (fun b h1 e=>by have:=HB.out;omega)⟩
theorem fchange_any{s f:Nat × Nat}{m:Nat}(hs:lt32 s)(hf:lt32 f)(hm:m<4294967296)(w:World) :
  Calls Tryz.prog 262 #[sV s,.int .u32 (m:Int),sV f] w fun e w'=>e=.returned (.tuple #[sV (chgV s m f).1,.int .i64 (chgV s m f).2])/\Ext w w':=by
 have hv1:=fun(V:World)=>fvalid_any hs V
 have hv2:=fun(V:World)=>fvalid_any hf V
 have hha:=fun(V:World)=>fhas_any hf V
 have hh:f.1 ||| f.2<4294967296:=Nat.or_lt_two_pow (n:=32) hf.1 hf.2
 have hmh:m ||| (f.1 ||| f.2)<4294967296:=Nat.or_lt_two_pow (n:=32) hm hh
 have hmx:=fun(V:World)=>fmix_any hs hf hmh V
 have o1:=u32_and_nat m (f.1 ||| f.2) hm hh
 have o2:=u32_or_nat m (f.1 ||| f.2) hm hh
 obtain⟨a,b⟩:=s
 obtain⟨c,d⟩:=f
 obtain⟨ha,hb⟩:=hs
 obtain⟨hc,hd⟩:=hf
 dsimp only at ha hb hc hd
 dsimp only at hha hh hmh hmx o1 o2
 obtain⟨x,hx⟩:∃ x,okS (a,b)=x:=⟨_,rfl⟩
 obtain⟨y,hy⟩:∃ x,okS (c,d)=x:=⟨_,rfl⟩
 rw [hx] at hv1
 rw [hy] at hv2
 have HV1:=Lib.hid hv1;have HV2:=Lib.hid hv2
 have HR:Hid (chgV (a,b) m (c,d)=if x=false\/y=false then((0,0),14) else if 16777215<m\/m &&& (c ||| d)≠0 then((0,0),2) else(mixS (a,b) (c,d) (m ||| (c ||| d)),0)):=Lib.hid (by unfold chgV;rw [hx,hy])
 obtain⟨r1,r2,hr⟩:∃ r1 r2,chgV (a,b) m (c,d)=(r1,r2):=⟨_,_,rfl⟩
 rw [hr] at HR ⊢
 clear hv1 hv2 hx hy hr
 obtain⟨⟨u1,u2⟩,hu⟩:∃ u,mixS (a,b) (c,d) (m ||| (c ||| d))=u:=⟨_,rfl⟩
 obtain⟨h,hhd⟩:∃ h,c ||| d=h:=⟨_,rfl⟩
 rw [hu] at hmx HR
 rw [hhd] at hha hmx HR o1 o2 hh hmh
 obtain⟨q,hq⟩:∃ q,m &&& h=q:=⟨_,rfl⟩
 obtain⟨r,hr⟩:∃ q,m ||| h=q:=⟨_,rfl⟩
 rw [hq] at o1 HR
 rw [hr] at o2 hmx
 have HMX:=Lib.hid hmx;have HHA:=Lib.hid hha
 clear hmx hha hu hhd hq hr hmh
 go_enter Tryz.func262,Tryz.ntmps262
 go_wp2_with fail
 obtain⟨B,hB⟩:∃ B,w.heap.size=B:=⟨_,rfl⟩
 have x1:(((w.alloc (.cells #[.int .u32 (a:Int),.int .u32 (b:Int)] 95)).alloc (.cells #[.int .u32 (c:Int),.int .u32 (d:Int)] 95)).alloc (.cells #[.int .u32 0,.int .u32 0] 95)).heap[B]?=some (.cells #[.int .u32 (a:Int),.int .u32 (b:Int)] 95 (0,0)):=by subst hB;exact new_keep (new_keep (new_at rfl))
 have y1:(((w.alloc (.cells #[.int .u32 (a:Int),.int .u32 (b:Int)] 95)).alloc (.cells #[.int .u32 (c:Int),.int .u32 (d:Int)] 95)).alloc (.cells #[.int .u32 0,.int .u32 0] 95)).heap[B+1]?=some (.cells #[.int .u32 (c:Int),.int .u32 (d:Int)] 95 (0,0)):=by subst hB;exact new_keep (new_at (by simp))
 have z1:(((w.alloc (.cells #[.int .u32 (a:Int),.int .u32 (b:Int)] 95)).alloc (.cells #[.int .u32 (c:Int),.int .u32 (d:Int)] 95)).alloc (.cells #[.int .u32 0,.int .u32 0] 95)).heap[B+2]?=some (.cells #[.int .u32 0,.int .u32 0] 95 (0,0)):=by subst hB;exact new_at (by simp)
 have E1:Ext w (((w.alloc (.cells #[.int .u32 (a:Int),.int .u32 (b:Int)] 95)).alloc (.cells #[.int .u32 (c:Int),.int .u32 (d:Int)] 95)).alloc (.cells #[.int .u32 0,.int .u32 0] 95)):=(((Turn.refl _ w).alloc _).alloc _).alloc _
 refine(HV1.out _).mono ?_
 generalize (((w.alloc (.cells #[.int .u32 (a:Int),.int .u32 (b:Int)] 95)).alloc (.cells #[.int .u32 (c:Int),.int .u32 (d:Int)] 95)).alloc (.cells #[.int .u32 0,.int .u32 0] 95))=w1 at x1 y1 z1 E1 ⊢
 rw [hB]
 have HB:=Lib.hid hB
 clear hB
 rintro e w2 ⟨rfl,hN⟩
 have E2:=E1.trans hN
 have x2:=hN.keep x1
 have y2:=hN.keep y1
 have z2:=hN.keep z1
 have cX:=fun j=>cell_of_row _ _ j _ _ _ x2
 have cY:=fun j=>cell_of_row _ _ j _ _ _ y2
 have HZ2:=Lib.hid z2
 clear hN x1 y1 z1 E1
 cases x
 ·clear x2 y2 z2
  have hw:r1=(0,0)/\r2=14:=by have:=HR.out;rw [if_pos (.inl rfl)] at this;exact⟨congrArg Prod.fst this,congrArg Prod.snd this⟩
  obtain⟨rfl,rfl⟩:=hw
  clear HR
  go_wp2_with (refine wpList_store_row rfl 95 (.tmp 6) (.tmp 16) rfl (B+2) #[.int .u32 0,.int .u32 0] rfl rfl _ _ HZ2.out (by kernel_rfl) rfl (by kernel_rfl) ?_)
  have hT9:=Turn.setRow w2 (B+2) #[.int .u32 0,.int .u32 0]
  refine bodyPost_ret (snd_result2 (p:=6) (u:=7) rfl rfl (setRow_heap _ _ _ _ _ _ HZ2.out) (by kernel_rfl)) rfl ?_
  exact⟨rfl,E2.after hT9 (fun b h1 e=>by have:=HB.out;omega)⟩
 go_wp2_with fail
 refine(HV2.out _).mono ?_
 rintro e w3 ⟨rfl,hN⟩
 have E3:=E2.trans hN
 have x3:=hN.keep x2
 have y3:=hN.keep y2
 have z3:=hN.keep z2
 clear cX cY HZ2 hN x2 y2 z2 E2
 have cX:=fun j=>cell_of_row _ _ j _ _ _ x3
 have cY:=fun j=>cell_of_row _ _ j _ _ _ y3
 have HZ3:=Lib.hid z3
 cases y
 ·clear x3 y3 z3
  have hw:r1=(0,0)/\r2=14:=by have:=HR.out;rw [if_pos (.inr rfl)] at this;exact⟨congrArg Prod.fst this,congrArg Prod.snd this⟩
  obtain⟨rfl,rfl⟩:=hw
  clear HR
  go_wp2_with (refine wpList_store_row rfl 95 (.tmp 6) (.tmp 16) rfl (B+2) #[.int .u32 0,.int .u32 0] rfl rfl _ _ HZ3.out (by kernel_rfl) rfl (by kernel_rfl) ?_)
  have hT9:=Turn.setRow w3 (B+2) #[.int .u32 0,.int .u32 0]
  refine bodyPost_ret (snd_result2 (p:=6) (u:=7) rfl rfl (setRow_heap _ _ _ _ _ _ HZ3.out) (by kernel_rfl)) rfl ?_
  exact⟨rfl,E3.after hT9 (fun b h1 e=>by have:=HB.out;omega)⟩
 by_cases hm2:16777215<m
 ·have g1:(16777215:Int)<(m:Int):=by omega
  clear x3 y3 z3
  have hw:r1=(0,0)/\r2=2:=by have:=HR.out;rw [if_neg (by decide),if_pos (.inl hm2)] at this;exact⟨congrArg Prod.fst this,congrArg Prod.snd this⟩
  obtain⟨rfl,rfl⟩:=hw
  clear HR
  go_wp2_with (refine wpList_store_row rfl 95 (.tmp 6) (.tmp 26) rfl (B+2) #[.int .u32 0,.int .u32 0] rfl rfl _ _ HZ3.out (by kernel_rfl) rfl (by kernel_rfl) ?_)
  have hT9:=Turn.setRow w3 (B+2) #[.int .u32 0,.int .u32 0]
  refine bodyPost_ret (snd_result2 (p:=6) (u:=7) rfl rfl (setRow_heap _ _ _ _ _ _ HZ3.out) (by kernel_rfl)) rfl ?_
  exact⟨rfl,E3.after hT9 (fun b h1 e=>by have:=HB.out;omega)⟩
 have g1:¬ (16777215:Int)<(m:Int):=by omega
 go_wp2_with fail
 refine(HHA.out _).mono ?_
 rintro e w4 ⟨rfl,hN⟩
 have E4:=E3.trans hN
 have x4:=hN.keep x3
 have y4:=hN.keep y3
 have z4:=hN.keep z3
 clear cX cY HZ3 hN x3 y3 z3 E3
 have cX:=fun j=>cell_of_row _ _ j _ _ _ x4
 have cY:=fun j=>cell_of_row _ _ j _ _ _ y4
 have HZ4:=Lib.hid z4
 by_cases hq0:q=0
 case neg=>
  have g2:((q:Int) != 0)=true:=by rw [bne_iff_ne];omega
  clear x4 y4 z4
  have hw:r1=(0,0)/\r2=2:=by have:=HR.out;rw [if_neg (by decide),if_pos (.inr hq0)] at this;exact⟨congrArg Prod.fst this,congrArg Prod.snd this⟩
  obtain⟨rfl,rfl⟩:=hw
  clear HR
  go_wp2_with (refine wpList_store_row rfl 95 (.tmp 6) (.tmp 26) rfl (B+2) #[.int .u32 0,.int .u32 0] rfl rfl _ _ HZ4.out (by kernel_rfl) rfl (by kernel_rfl) ?_)
  have hT9:=Turn.setRow w4 (B+2) #[.int .u32 0,.int .u32 0]
  refine bodyPost_ret (snd_result2 (p:=6) (u:=7) rfl rfl (setRow_heap _ _ _ _ _ _ HZ4.out) (by kernel_rfl)) rfl ?_
  exact⟨rfl,E4.after hT9 (fun b h1 e=>by have:=HB.out;omega)⟩
 subst hq0
 have hw:r1=(u1,u2)/\r2=0:=by have:=HR.out;rw [if_neg (by decide),if_neg (by omega)] at this;exact⟨congrArg Prod.fst this,congrArg Prod.snd this⟩
 obtain⟨rfl,rfl⟩:=hw
 clear HR
 have hcs:∀(D:World),Turn (·=B+2) w4 D->D.cell? ⟨B,0,none⟩=some (.int .u32 (a:Int))/\D.cell? ⟨B,1,none⟩=some (.int .u32 (b:Int))/\D.cell? ⟨B+1,0,none⟩=some (.int .u32 (c:Int))/\D.cell? ⟨B+1,1,none⟩=some (.int .u32 (d:Int)):=by
  intro D hD
  have h0:=hD.heap x4 (by omega)
  have h1:=hD.heap y4 (by omega)
  simp [World.cell?,h0,h1]
 have HS:=Lib.hid hcs
 clear hcs x4 y4 z4
 go_wp2_with fail
 clear cX cY
 refine wp_region_held_drew (S:=fun D=>D.cell? ⟨B,0,none⟩=some (.int .u32 (a:Int))/\D.cell? ⟨B,1,none⟩=some (.int .u32 (b:Int))/\D.cell? ⟨B+1,0,none⟩=some (.int .u32 (c:Int))/\D.cell? ⟨B+1,1,none⟩=some (.int .u32 (d:Int))) (by kernel_rfl) (HS.out _ (Turn.drew (Turn.refl _ w4))) ?_
 intro hS0
 refine tkH (i:=0) (d:=27) (v:=?_) rfl (Or.inl ⟨by rfl,?_⟩) hS0 ?_
 rotate_left
 ·intro w hSw;(try dsimp only at hSw);go_simp;try with_reducible rfl
 try simp only [Act.put,pq]
 refine tkH (i:=1) (d:=28) (v:=?_) rfl (Or.inl ⟨by rfl,?_⟩) hS0 ?_
 rotate_left
 ·intro w hSw;(try dsimp only at hSw);go_simp;try with_reducible rfl
 try simp only [Act.put,pq]
 refine tkH (i:=2) (d:=29) (v:=?_) rfl (Or.inl ⟨by rfl,?_⟩) hS0 ?_
 rotate_left
 ·intro w hSw;(try dsimp only at hSw);go_simp;try with_reducible rfl
 try simp only [Act.put,pq]
 refine tkH (i:=3) (d:=30) (v:=?_) rfl (Or.inl ⟨by rfl,?_⟩) hS0 ?_
 rotate_left
 ·intro w hSw;(try dsimp only at hSw);go_simp;try with_reducible rfl
 try simp only [Act.put,pq]
 refine wpAnyH_ready (rs:=[4]) (by kernel_rfl) (by simp) ?_
 refine AllReadyH.cons rfl (fun K hK=>?_) AllReadyH.nil
 (try rw [if_pos (show Region.wanted _ _=true from rfl)])
 go_simp
 refine(HHA.out _).mono ?_
 rintro e w5 ⟨rfl,hN⟩
 have hw5:Ext w4 w5:=Turn.trans (Turn.drew (Turn.refl _ w4)) hN
 refine hK.out _ _ (HS.out _ (Ext.of hw5)) (fun hS1=>?_)
 clear hK K hN
 refine tkH (i:=5) (d:=32) (v:=?_) rfl (Or.inl ⟨by rfl,?_⟩) hS1 ?_
 rotate_left
 ·intro w hSw;(try dsimp only at hSw);go_simp;try with_reducible rfl
 try simp only [Act.put,pq]
 refine wpAnyH_ready (rs:=[6]) (by kernel_rfl) (by simp) ?_
 refine AllReadyH.cons rfl (fun K hK=>?_) AllReadyH.nil
 (try rw [if_pos (show Region.wanted _ _=true from rfl)])
 go_simp
 refine(HMX.out _).mono ?_
 rintro e w6 ⟨rfl,hN⟩
 have hw6:Ext w4 w6:=Turn.trans hw5 hN
 have z6:=hw6.keep HZ4.out
 refine hK.out _ _ (HS.out _ (Ext.of hw6)) (fun hS2=>?_)
 clear hK K hN
 refine wpAnyH_ready (rs:=[7]) (by kernel_rfl) (by simp) ?_
 refine AllReadyH.cons rfl (fun K hK=>?_) AllReadyH.nil
 (try rw [if_pos (show Region.wanted _ _=true from rfl)])
 refine wp_store_row 95 (.tmp 6) (.tmp 33) rfl (B+2) #[.int .u32 (u1:Int),.int .u32 (u2:Int)] rfl rfl _ _ z6 (by kernel_rfl) rfl (by kernel_rfl) ?_
 have hT9:=Turn.setRow w6 (B+2) #[.int .u32 (u1:Int),.int .u32 (u2:Int)]
 refine hK.out _ _ (HS.out _ ((Ext.of hw6).trans hT9)) (fun hS3=>?_)
 clear hK K
 change wpAnyH _ _ _ _ _ _ _ (Act.put _ none _) _
 simp only [Act.put]
 refine tkH (i:=8) (d:=7) (v:=?_) rfl (Or.inl ⟨by rfl,?_⟩) hS3 ?_
 rotate_left
 ·intro w hSw;(try dsimp only at hSw);go_simp;try with_reducible rfl
 try simp only [Act.put,pq]
 refine wpAnyH_done (by kernel_rfl) ?_ _
 have E6:=E4.trans hw6
 clear hS0 hS1 hS2 hS3 HS
 have HZ6:=Lib.hid z6
 clear z6
 go_wp2
 refine bodyPost_ret (snd_result2 (p:=6) (u:=7) rfl rfl (setRow_heap _ _ _ _ _ _ HZ6.out) (by kernel_rfl)) rfl ?_
 exact⟨rfl,E6.after hT9 (fun b h1 e=>by have:=HB.out;omega)⟩
end Go.Proofs.YtfdlhlghcbeblaaGreatDoor
set_option maxRecDepth 100000
set_option maxHeartbeats 8000000
namespace Go.Proofs.YtfdlhlghcbeblaaGreatDoor
open Go.RowKit Go.Ab
attribute [local go_sem] Oper.semAt_some wide_fn wide_depth
def placeE(p:Pat)(ws:Wd)(at':Int):Int:=if relE p ws=0 then exE ws.length at' else relE p ws
def begL(p:Pat)(ws:Wd)(at':Int):List Nat:=if placeE p ws at'=0 then(List.range (ws.length+1)).filter (fun a=>relR p ws a at'.toNat) else []
def endL(p:Pat)(ws:Wd)(at':Int):List Nat:=if placeE p ws at'=0 then(List.range (ws.length+1)).filter (fun b=>relR p ws at'.toNat b) else []
def natV(l:List Nat):List Value:=l.map fun(x:Nat)=>Value.int .i64 (x:Int)
theorem Tryz.infoI:(Tryz.prog.info? 3).map (fun i=>(i.zero,i.size,i.bytes))=some (some (.int .i64 0),1,8):=by kernel_rfl
theorem own_block_ty{w:World}{base:Nat}{e:TypeId}{sz n g:Nat}{v:Value}{xs:List Value}(h:w.ownsRow base e sz v n xs)(hg:v.ownBlock=some g):∃ cur,w.heap[g]?=some (.cells cur e (0,0)):=by
 rcases h.2 with ⟨rfl,_⟩ | ⟨g',cap,cur,rfl,_,hh,_⟩
 ·cases hg
 ·cases hg;exact⟨cur,hh⟩
theorem natV_append(l:List Nat)(x:Nat):natV (l++[x])=natV l++[.int .i64 (x:Int)]:=by simp [natV]
theorem begins_any{K:Nat->Prop}{w:World}{p:Pat}{cs:List Value}{v:Value}{ws:Wd}(hp:PatAt K w p cs)(hK:∀ g,K g->g<w.heap.size)(hv:WordAt w v ws)(hT:Tab w)(at':Int) :
  Calls Tryz.prog 279 #[.agg cs.toArray,v,.int .i64 at'] w fun e w'=>∃ u,e=.returned (.tuple #[u,.int .i64 (placeE p ws at')])/\w'.ownsRow w.heap.size 3 1 u (begL p ws at').length (natV (begL p ws at'))/\Ext w w':=by
 have hre:=fun(V:World) (hE:Ext w V)=>relate_any (K:=K) (hp.ext hE) (fun g hg=>Nat.lt_of_lt_of_le (hK g hg) hE.size) (hv.ext hE) (hT.keep hE id)
 obtain⟨ao,cap,rfl,hlc,hcm,_⟩:=patAt_cells hp
 obtain⟨bo,bcap,rfl,hbm⟩:=hv.slice
 clear hp hlc hcm hv hT hK
 have HRE:=Lib.hid hre
 clear hre
 obtain⟨z,hz⟩:∃ z,relE p ws=z:=⟨_,rfl⟩
 obtain⟨R,hR⟩:∃ R,relR p ws=R:=⟨_,rfl⟩
 obtain⟨n,hN⟩:∃ n,ws.length=n:=⟨_,rfl⟩
 have HP:Hid (placeE p ws at'=if z=0 then exE n at' else z):=Lib.hid (by unfold placeE;rw [hz,hN])
 have HL:Hid (begL p ws at'=if placeE p ws at'=0 then(List.range (n+1)).filter (fun a=>R a at'.toNat) else []):=Lib.hid (by unfold begL;rw [hR,hN])
 have hn32:z=0->n<=32:=fun h=>by
  subst hz;subst hN
  exact relE_len h
 rw [hz] at HRE
 rw [hR] at HRE
 rw [hN] at HRE hbm ⊢
 clear hz hR hN
 have HNL:=Lib.hid hn32
 clear hn32
 unfold patCells at HRE ⊢
 have z1:=zero_rel
 have z2:=relArr_size noB
 have z3:=relArr_ne noB
 go_enter Tryz.func279,Tryz.ntmps279
 go_wp2_with fail
 refine(HRE.out _ ((Turn.refl _ w).alloc _)).mono ?_
 rintro e w2 ⟨rfl,hE2⟩
 have hE02:Ext w w2:=Turn.trans ((Turn.refl _ w).alloc _) hE2
 clear hE2
 have hR0:(w2.alloc (.cells (relArr noB) 363)).heap[w2.heap.size]?=some (.cells (relArr noB) 363 (0,0)):=new_at rfl
 have hR3:RowsAt ((w2.alloc (.cells (relArr noB) 363)).setRow w2.heap.size (rowArr (rowM R))) w2.heap.size (rowM R):=setRow_heap _ _ _ _ _ _ hR0
 have hE3:Ext w ((w2.alloc (.cells (relArr noB) 363)).setRow w2.heap.size (rowArr (rowM R))):=hE02.trans (((Turn.refl _ w2).alloc _).after (Turn.setRow _ _ _) (fun b' h1 h2=>by omega))
 go_upto_region 2 with (refine wpList_store_row rfl 363 (.tmp 8) (.tmp 16) rfl w2.heap.size (rowArr (rowM R)) rfl rfl _ _ hR0 (Tryz.relInfo _) (by rw [relArr_size,rowArr_size]) (rowArr_one _) ?_)
 generalize ((w2.alloc (.cells (relArr noB) 363)).setRow w2.heap.size (rowArr (rowM R)))=w3 at hR3 hE3 ⊢
 generalize w2.heap.size=b at hR3 ⊢
 clear hR0 hE02 z1 z2 z3
 by_cases hz0:z=0
 ·have hn:=HNL.out hz0
  rw [if_pos hz0] at HP
  subst hz0
  go_wp2_with fail
  refine(exists_any _ _ _ _ _).mono ?_
  rintro e w4 ⟨rfl,rfl⟩
  by_cases hin:at'<0\/(n:Int)<at'
  ·have hex:exE n at'=3:=by unfold exE;rw [if_pos hin]
   rw [hex] at HP ⊢
   clear hex
   go_wp2
   refine bodyPost_ret (results_two rfl _ _ _) rfl ⟨_,by rw [HP.out];rfl,?_,hE3⟩
   rw [HL.out,HP.out,if_neg (by decide)]
   exact World.ownsRow_nil _ _ _ _
  ·have hex:exE n at'=0:=by unfold exE;rw [if_neg hin]
   rw [hex] at HP ⊢
   obtain⟨m,rfl⟩:∃ m:Nat,at'=m:=⟨at'.toNat,by omega⟩
   have HL2:Hid (begL p ws m=(List.range (n+1)).filter (fun a=>R a m)):=Lib.hid (by rw [HL.out,HP.out];rfl)
   have hmn:m<=n:=by omega
   clear hex HL hin
   go_wp2
   go_loopw [10,29] (fun v i wr=>∃ k:Nat,k<=n+1/\i=.int .i64 k/\wr.ownsRow w.heap.size 3 1 v ((List.range k).filter (fun a=>R a m)).length (natV ((List.range k).filter (fun a=>R a m)))/\Ext w wr/\RowsAt wr b (rowM R)) (fun _ i _=>n+1 - (intOf i).toNat)
   case atStart=>exact⟨0,Nat.zero_le _,rfl,World.ownsRow_nil _ _ _ _,hE3,hR3⟩
   case round=>
    obtain⟨k,hk,rfl,hO,hE,hR⟩:=hrel
    by_cases hlt:k<n+1
    ·have c0:=hR.cell (a:=k) (by omega)
     have hl:=rowM_lt R k
     have h1:(k:Int)<(n:Int)+1:=by omega
     have hfil:(List.range (k+1)).filter (fun a=>R a m)=(List.range k).filter (fun a=>R a m)++if R k m then [k] else []:=by
      rw [List.range_succ,List.filter_append];cases hq:R k m <;> simp [hq]
     have hb:=bitR R k m (by omega)
     have HF:=Lib.hid hfil
     have hlen:((List.range k).filter (fun a=>R a m)).length<=33:=by
      have:=List.length_filter_le (fun a=>R a m) (List.range k);simp at this;omega
     clear hfil
     cases hq:R k m
     ·rw [hq] at hb HF
      have HQ:=Lib.hid hq
      clear hq
      go_wp2
      go_roundw
      case rel=>exact⟨k+1,by omega,by go_num,by rw [HF.out];simpa using hO,hE,hR⟩
      case measure=>simp [intOf];omega
     ·rw [hq] at hb HF
      have HQ:=Lib.hid hq
      clear hq
      go_wp2_with (at_builtin;refine append_row rfl (.tmp 39) (.tmp 41) 48 rfl w.heap.size 3 _ 1 8 Tryz.underlying48 Tryz.infoI rfl (by decide) _ _ _ rfl (own_ext hO ((Turn.refl _ wr).alloc _)) ⟨wr.heap.size,0,none⟩ 1 1 [.int .i64 k] rfl rfl (new_cells' rfl) ?c2 ?c3 ?c4 ?c5 ?_)
      case c2=>first | rfl | (intro u hu;simp at hu;rcases hu with rfl;rfl)
      case c3=>unfold maxLen;omega
      case c4=>omega
      case c5=>have:=hE.size;simp;omega
      intro ao' c' w5 hO5 hT5 _
      have hT6:Turn (fun b'=>u10.ownBlock=some b') wr w5:=Turn.trans (Turn.alloc (Turn.refl _ wr) _) hT5
      have hE5:Ext w w5:=hE.after hT6 (fun b' h1 e=>by have:=(hO.lt _ e).1;omega)
      have hR5:=hR.keep hT6 (fun e=>by obtain⟨cur,hc⟩:=own_block_ty hO e;have h8:wr.heap[b]?=_:=hR;rw [h8] at hc;cases hc)
      clear hT5 hT6 hO hE c0
      go_wp2
      go_roundw
      case rel=>
       refine⟨k+1,by omega,by go_num,?_,hE5,hR5⟩
       rw [HF.out,if_pos (by first | rfl | trivial),natV_append,List.length_append]
       exact hO5
      case measure=>simp [intOf];omega
    ·obtain rfl:k=n+1:=by omega
     go_wp2
     refine bodyPost_ret (results_two rfl _ _ _) rfl ⟨_,by rw [HP.out];rfl,?_,hE⟩
     rw [HL2.out];exact hO
 ·have hz1:(z == 0)=false:=by rw [beq_eq_false_iff_ne];exact hz0
  rw [if_neg hz0] at HP
  go_wp2
  refine bodyPost_ret (results_two rfl _ _ _) rfl ⟨_,by rw [HP.out];rfl,?_,hE3⟩
  rw [HL.out,HP.out,if_neg hz0]
  exact World.ownsRow_nil _ _ _ _
end Go.Proofs.YtfdlhlghcbeblaaGreatDoor
