/- PLAIN: a valid law makes valid words of valid words. PLAIN: the text of a word: different ones for different words. PLAIN: what sounds become between two words, and which ones become the same. order.check (printed by genordk.py). ablautref08.Name (printed by genrefname.py). ablautref01: Valid, Get, put, Satisfies. ablautref08.fits. -/
import Derived.Test.YtfdlhlghcbeblaaGreatDoorH16
import Derived.Test.YtfdlhlghcbeblaaGreatDoorH12
import Derived.Test.YtfdlhlghcbeblaaGreatDoorH08
import Derived.Test.YtfdlhlghcbeblaaGreatDoorH15
import Derived.Test.YtfdlhlghcbeblaaGreatDoorH14
namespace Go.Proofs.YtfdlhlghcbeblaaGreatDoor
open Go.RowKit Go.Ab
section
variable {α:Type} {H:List α->Nat->Bool} {P:List α->List α} {k m:Nat} {p:α->Prop}
theorem repl_mem(hP:∀ c,(∀ s∈c,p s)->∀ s∈P c,p s) {w:List α} (hw:∀ s∈w,p s) (i:Nat):∀ s∈repl P k w i,p s:=by
 intro s hs
 unfold repl at hs
 rw [List.mem_append,List.mem_append] at hs
 rcases hs with (hs | hs) | hs
 ·exact hw s (List.mem_of_mem_take hs)
 ·exact hP _ (fun s hs=>hw s (List.mem_of_mem_drop (List.mem_of_mem_take hs))) s hs
 ·exact hw s (List.mem_of_mem_drop hs)
theorem allT_mem(hP:∀ c,(∀ s∈c,p s)->∀ s∈P c,p s) {w:List α} (hw:∀ s∈w,p s):∀(n i:Nat) (d:List α),(∀ s∈d,p s)->∀ x∈allT H P k w n i d,∀ s∈x.2,p s
 | 0,_,_,_=>fun x hx=>by cases hx
 | n+1,i,d,hd=>fun x hx=>by
  have hc:∀ s∈P ((w.drop i).take k),p s:=hP _ fun s hs=>hw s (List.mem_of_mem_drop (List.mem_of_mem_take hs))
  have h1:∀ s∈(w.drop i).take 1,p s:=fun s hs=>hw s (List.mem_of_mem_drop (List.mem_of_mem_take hs))
  have hdc:∀ s∈d++P ((w.drop i).take k),p s:=fun s hs=>(List.mem_append.1 hs).elim (hd s) (hc s)
  unfold allT at hx
  split at hx
  ·rcases List.mem_cons.1 hx with rfl | hx
   ·intro s hs
    rcases List.mem_append.1 hs with hs | hs
    ·exact hdc s hs
    ·exact hw s (List.mem_of_mem_drop hs)
   ·split at hx
    ·exact allT_mem hP hw n _ _ (fun s hs=>(List.mem_append.1 hs).elim (hdc s) (h1 s)) x hx
    ·exact allT_mem hP hw n _ _ hdc x hx
  ·exact allT_mem hP hw n _ _ (fun s hs=>(List.mem_append.1 hs).elim (hd s) (h1 s)) x hx
theorem rightT_mem(hP:∀ c,(∀ s∈c,p s)->∀ s∈P c,p s):∀(n:Nat) (w:List α) (i:Nat),(∀ s∈w,p s)->∀ x∈rightT H P k m n w i,∀ s∈x.2,p s
 | 0,_,_,_=>fun x hx=>by cases hx
 | n+1,w,i,hw=>fun x hx=>by
  unfold rightT at hx
  split at hx
  ·cases hx
  ·split at hx
   ·rcases List.mem_cons.1 hx with rfl | hx
    ·exact repl_mem hP hw i
    ·exact rightT_mem hP n _ _ (repl_mem hP hw i) x hx
   ·exact rightT_mem hP n _ _ hw x hx
theorem leftT_mem(hP:∀ c,(∀ s∈c,p s)->∀ s∈P c,p s):∀(n:Nat) (w:List α) (i:Nat),(∀ s∈w,p s)->∀ x∈leftT H P k n w i,∀ s∈x.2,p s
 | 0,_,_,_=>fun x hx=>by cases hx
 | _+1,_,0,_=>fun x hx=>by cases hx
 | n+1,w,i+1,hw=>fun x hx=>by
  unfold leftT at hx
  split at hx
  ·rcases List.mem_cons.1 hx with rfl | hx
   ·exact repl_mem hP hw i
   ·exact leftT_mem hP n _ _ (repl_mem hP hw i) x hx
  ·exact leftT_mem hP n _ _ hw x hx
end
theorem traceL_mem{p:Nat × Nat->Prop}{l:LawD}(hP:∀ c:Wd,(∀ s∈c,p s)->∀ s∈putL l c,p s) {ws:Wd} (hw:∀ s∈ws,p s):∀ x∈traceL l ws,∀ s∈x.2,p s:=by
 unfold traceL
 split
 ·exact allT_mem hP hw _ _ _ (fun s hs=>by cases hs)
 ·split
  ·exact rightT_mem hP _ _ _ hw
  ·exact leftT_mem hP _ _ _ hw
theorem appL_mem{p:Nat × Nat->Prop}{l:LawD}(hP:∀ c:Wd,(∀ s∈c,p s)->∀ s∈putL l c,p s) {ws:Wd} (hw:∀ s∈ws,p s):∀ s∈appL l ws,p s:=by
 unfold appL
 split
 ·have key:∀(t:List Wd) (d:Wd),(∀ s∈d,p s)->(∀ x∈t,∀ s∈x,p s)->∀ s∈t.getLastD d,p s:=by
   intro t
   induction t with
   | nil=>intro d hd _;exact hd
   | cons a t ih=>intro d _ ht;rw [List.getLastD_cons];exact ih a (ht a (by simp)) (fun x hx=>ht x (by simp [hx]))
  refine key _ _ hw (fun x hx=>?_)
  obtain⟨y,hy,rfl⟩:=List.mem_map.1 hx
  exact traceL_mem hP hw y hy
 ·intro s hs;cases hs
abbrev okW(s:Nat × Nat):Prop:=lt32 s/\okS s=true
theorem chg_okW{s f:Nat × Nat}{m:Nat}(hs:lt32 s)(hf:lt32 f):okW (chgV s m f).1:=by
 refine⟨chg_lt hs hf,?_⟩
 unfold chgV
 by_cases h:okS s=false\/okS f=false
 ·rw [if_pos h];rfl
 ·rw [if_neg h]
  rw [not_or,Bool.not_eq_false,Bool.not_eq_false] at h
  split
  ·rfl
  ·exact mix_ok hs hf h.1 h.2
theorem tak_okW{s f:Nat × Nat}{m:Nat}(hs:lt32 s)(hf:lt32 f):okW (takV s f m).1:=by
 refine⟨tak_lt hs hf,?_⟩
 unfold takV
 by_cases h:okS s=false\/okS f=false
 ·rw [if_pos h];rfl
 ·rw [if_neg h]
  rw [not_or,Bool.not_eq_false,Bool.not_eq_false] at h
  split
  ·rfl
  ·exact mix_ok hs hf h.1 h.2
theorem putL_okW{l:LawD}(ho:∀ x∈l.outs,OutOk x)(c:Wd)(hc:∀ s∈c,okW s):∀ s∈putL l c,okW s:=by
 have hcd:WdOk c:=fun s hs=>(hc s hs).1
 intro s hs
 obtain⟨x,hx,rfl⟩:=List.mem_map.1 hs
 have h0:∀ i:Nat,lt32 (c.getD i (0,0)):=fun i=>by
  by_cases h:i<c.length
  ·rw [List.getD_eq_getElem?_getD,List.getElem?_eq_getElem h];exact hcd _ (List.getElem_mem h)
  ·rw [List.getD_eq_getElem?_getD,List.getElem?_eq_none (by omega)];exact⟨by decide,by decide⟩
 have hb:lt32 (if 0<=x.frm then c.getD x.frm.toNat (0,0) else(0,0)):=by
  split
  ·exact h0 _
  ·exact⟨by decide,by decide⟩
 unfold outS
 split
 ·exact chg_okW hb (ho x hx).2.1
 ·exact tak_okW (chg_okW hb (ho x hx).2.1).1 (h0 _)
theorem wE_ok{ws:Wd}:wE ws=0↔ws.length<=32/\∀ s∈ws,okS s=true:=by
 unfold wE
 constructor
 ·intro h
  split at h
  ·cases h
  ·split at h
   ·rename_i h1 h2
    exact⟨by omega,List.all_eq_true.1 h2⟩
   ·cases h
 ·rintro⟨h1,h2⟩
  have h3:allV ws=true:=List.all_eq_true.2 h2
  rw [if_neg (by omega),if_pos h3]
theorem appL_wE{l:LawD}(ho:∀ x∈l.outs,OutOk x){ws:Wd}(hc:WdOk ws)(h:trE l ws=0):wE (appL l ws)=0/\WdOk (appL l ws):=by
 have hw:=wE_ok.1 (lawW_zero (trE_law h)).2
 have hm:=appL_mem (p:=okW) (putL_okW ho) (ws:=ws) (fun s hs=>⟨hc s hs,hw.2 s hs⟩)
 refine⟨wE_ok.2 ⟨?_,fun s hs=>(hm s hs).2⟩,fun s hs=>(hm s hs).1⟩
 have key:∀(t:List Wd) (d:Wd),d.length<=32->(∀ x∈t,x.length<=32)->(t.getLastD d).length<=32:=by
  intro t
  induction t with
  | nil=>intro d hd _;exact hd
  | cons a t ih=>intro d _ ht;rw [List.getLastD_cons];exact ih a (ht a (by simp)) (fun x hx=>ht x (by simp [hx]))
 unfold appL lastT
 rw [if_pos h]
 refine key _ _ hw.1 (fun x hx=>?_)
 obtain⟨y,hy,rfl⟩:=List.mem_map.1 hx
 exact longT_get (trE_short h) hy
theorem trE_good{l:LawD}(hl:lawB l=true){ws:Wd}(hw:wE ws=0):trE l ws=0\/trE l ws=11:=trE_cases (by unfold lawW;rw [if_pos hl];exact hw)
end Go.Proofs.YtfdlhlghcbeblaaGreatDoor
namespace Go.Proofs.YtfdlhlghcbeblaaGreatDoor
open Go.RowKit Go.Ab
def byt(n i:Nat):UInt8:=UInt8.ofNat (n / 2 ^ (8*i))
def sndB(s:Nat × Nat):List UInt8:=[byt s.1 0,byt s.2 0,byt s.1 1,byt s.2 1,byt s.1 2,byt s.2 2,byt s.1 3,byt s.2 3]
def textL(u:Wd):List UInt8:=u.flatMap sndB
def textB(u:Wd):ByteArray:=⟨(textL u).toArray⟩
end Go.Proofs.YtfdlhlghcbeblaaGreatDoor
namespace Go.Proofs.YtfdlhlghcbeblaaGreatDoor
open Go.RowKit Go.Ab
def joinW(a b:Wd)(s:Nat × Nat):Wd:=a++[s]++b
def frameE(ls:List LawD)(a b:Wd):Int:=if lawsE ls=0 then(if wE a=0 then wE b else wE a) else lawsE ls
def outE(ls:List LawD)(a b:Wd)(s:Nat × Nat):Int:=if frameE ls a b=0 then(if okS s=true then derE ls (joinW a b s) else 14) else frameE ls a b
def outW(ls:List LawD)(a b:Wd)(s:Nat × Nat):Wd:=if frameE ls a b=0 then(if okS s=true then derW ls (joinW a b s) else []) else []
def sndsE(ss:Wd)(most:Nat):Int:=if most<ss.length then 12 else if ss.all okS=true then(if ss.Nodup then 0 else 6) else 14
def firstE:List Int->Int
 | []=>0
 | e::l=>if e=0 then firstE l else e
def outsE(ls:List LawD)(a b ss:Wd):Int:=if frameE ls a b=0 then(if sndsE ss 64=0 then firstE (ss.map fun s=>derE ls (joinW a b s)) else sndsE ss 64) else frameE ls a b
def outsW(ls:List LawD)(a b ss:Wd):List Wd:=if outsE ls a b ss=0 then ss.map fun s=>derW ls (joinW a b s) else []
def mergedL(l:List Wd):List Nat:=l.map fun w=>l.idxOf w
def lastAt(pl:List Wd)(w:Wd):Nat->Int
 | 0=>-1
 | n+1=>if pl.getD n []=w then(n:Int) else lastAt pl w n
def shiftL(l pl:List Wd):List Int:=l.map fun w=>lastAt pl w pl.length
theorem firstE_take{l:List Int}{n:Nat}(hn:n<l.length)(h:firstE (l.take n)=0):firstE (l.take (n+1))=l[n]:=by
 induction l generalizing n with
 | nil=>cases hn
 | cons e l ih=>
  cases n with
  | zero=>simp only [Nat.zero_add,List.take_succ_cons,List.take_zero,List.getElem_cons_zero];unfold firstE;split <;> rename_i h0 <;> simp [firstE,h0]
  | succ n=>
   rw [List.take_succ_cons] at h ⊢
   unfold firstE at h ⊢
   split at h
   ·rename_i h0
    rw [if_pos h0,List.getElem_cons_succ]
    exact ih (by simpa using hn) h
   ·contradiction
theorem firstE_stop{l:List Int}{n:Nat}(hn:n<l.length)(h:firstE (l.take n)=0) (h0:l[n]≠0):firstE l=l[n]:=by
 induction l generalizing n with
 | nil=>cases hn
 | cons e l ih=>
  cases n with
  | zero=>rw [List.getElem_cons_zero] at h0 ⊢;unfold firstE;rw [if_neg h0]
  | succ n=>
   rw [List.take_succ_cons] at h
   unfold firstE at h ⊢
   split at h
   ·rename_i h1
    rw [if_pos h1,List.getElem_cons_succ]
    exact ih (by simpa using hn) h (by simpa using h0)
   ·contradiction
end Go.Proofs.YtfdlhlghcbeblaaGreatDoor
set_option maxRecDepth 100000
set_option maxHeartbeats 16000000
namespace Go.Proofs.YtfdlhlghcbeblaaGreatDoor
open Go.RowKit Go.Ab
attribute [local go_sem] Oper.semAt_some wide_fn wide_depth
def wpE(q:Wd × Wd):Int:=if wE q.1=0 then wE q.2 else wE q.1
def ordE(LD:List LawD)(QS:List (Wd × Wd)):Int:=if 6<LD.length then 12 else if LD.all lawB=true then(if 32<QS.length then 12 else firstE (QS.map wpE)) else 17
def okTo(ps:LawsL)(k:Nat):Prop:=(ps.take k).all (fun p=>lawB p.1)=true
def fineTo(QS:List (Wd × Wd)) (k:Nat):Prop:=firstE ((QS.map wpE).take k)=0
def inTo(A B:Int)(i:Nat):Prop:=(1<=i->A=0)/\(2<=i->B=0)
theorem okTo_succ{ps:LawsL}{k:Nat}(hk:k<ps.length)(h:okTo ps k)(h1:lawB ps[k].1=true):okTo ps (k+1):=by
 unfold okTo at *
 rw [List.take_succ_eq_append_getElem hk,List.all_append,h];simp [h1]
theorem okTo_bad{ps:LawsL}{k:Nat}(hk:k<ps.length)(h1:lawB ps[k].1=false):(ps.map (·.1)).all lawB=false:=by
 rw [List.all_map,List.all_eq_false]
 exact⟨_,List.getElem_mem hk,by simp [h1]⟩
theorem okTo_all{ps:LawsL}{k:Nat}(hk:ps.length<=k)(h:okTo ps k):(ps.map (·.1)).all lawB=true:=by
 unfold okTo at h
 rw [List.take_of_length_le hk] at h
 rw [List.all_map];exact h
theorem ocheck_any{w:World}{ps:LawsL}{qs:PairsL}{lo:Option Addr}{n lc:Nat}{po:Option Addr}{m pc:Nat}(hl:LawsAt w (.slice lo n lc) ps) (hn:ps.length=n) (hp:PairsAt w (.slice po m pc) qs) (hm:qs.length=m) (hT:Tab w) :
  Calls Tryz.prog 89 #[.slice lo n lc,.slice po m pc] w fun e w'=>e=.returned (.int .i64 (ordE (ps.map (·.1)) (qs.map (·.1))))/\Ext w w':=by
 have hck:=fun(V:World) (hE:Ext w V) (l:LawD) (cs:List Value) (h:LawAt V l cs)=>lcheck_any h (hT.keep hE id)
 obtain⟨RE,hRE⟩:∃ x,ordE (ps.map (·.1)) (qs.map (·.1))=x:=⟨_,rfl⟩
 rw [hRE]
 have r1:6<n->RE=12:=fun h=>by rw [<-hRE];unfold ordE;rw [if_pos (by rw [List.length_map,hn];exact h)]
 have r2:¬ 6<n->∀ k (hk:k<ps.length),lawB ps[k].1=false->RE=17:=fun h k hk h1=>by rw [<-hRE];unfold ordE;rw [if_neg (by rw [List.length_map,hn];exact h),okTo_bad hk h1];rfl
 have r3:¬ 6<n->okTo ps n->32<m->RE=12:=fun h h1 h2=>by rw [<-hRE];unfold ordE;rw [if_neg (by rw [List.length_map,hn];exact h),okTo_all (by omega) h1,if_pos rfl,if_pos (by rw [List.length_map,hm];exact h2)]
 have r4:¬ 6<n->okTo ps n->¬ 32<m->RE=firstE ((qs.map (·.1)).map wpE):=fun h h1 h2=>by rw [<-hRE];unfold ordE;rw [if_neg (by rw [List.length_map,hn];exact h),okTo_all (by omega) h1,if_pos rfl,if_neg (by rw [List.length_map,hm];exact h2)]
 have hnm:n<=maxLen:=by rw [<-hn];exact hl.1.2.1
 have hmm:m<=maxLen:=by rw [<-hm];exact hp.1.2.1
 unfold maxLen at hnm hmm
 have HCK:=Lib.hid hck;have HL:=Lib.hid hl;have HN:=Lib.hid hn;have HP:=Lib.hid hp;have HM:=Lib.hid hm;have R1:=Lib.hid r1;have R2:=Lib.hid r2;have R3:=Lib.hid r3;have R4:=Lib.hid r4
 clear hck hl hn hp hm hT hRE r1 r2 r3 r4
 go_enter Tryz.func89,Tryz.ntmps89
 by_cases h6:6<n
 case pos=>
  have h1:(n:Int) > 6:=by omega
  have hre:RE=12:=R1.out h6
  subst hre
  go_wp2
  go_ret
  exact⟨rfl,Turn.refl _ _⟩
 have h61:¬ (n:Int) > 6:=by omega
 have H6:=Lib.hid h6
 clear h6
 go_wp2
 refine wp_loop (fun a W=>∃(k:Nat),k<=n/\a.defers=[]/\(a.tmps.size=51/\a.tmps.getD 1 undef=.slice po m pc/\a.tmps.getD 15 undef=.slice lo n lc/\a.tmps.getD 16 undef=.int .i64 n/\a.tmps.getD 17 undef=.int .i64 k)/\okTo ps k/\Ext w W)
  (fun a _=>((n:Int) - intOf (a.tmps.getD 17 undef)).toNat) ?_ ?_
 ·exact⟨0,by omega,rfl,⟨rfl,rfl,rfl,rfl,rfl⟩,by simp [okTo],Turn.refl _ _⟩
 rintro⟨t,_⟩ W ⟨k,hk,hds,⟨hsz,f1,f15,f16,f17⟩,hok,hE⟩
 subst hds
 obtain⟨u',hu⟩:=frame_fun hsz
 obtain⟨u,rfl⟩:∃ x,x=u':=⟨_,rfl⟩
 have hu':t=#[u 0,u 1,u 2,u 3,u 4,u 5,u 6,u 7,u 8,u 9,u 10,u 11,u 12,u 13,u 14,u 15,u 16,u 17,u 18,u 19,u 20,u 21,u 22,u 23,u 24,u 25,u 26,u 27,u 28,u 29,u 30,u 31,u 32,u 33,u 34,u 35,u 36,u 37,u 38,u 39,u 40,u 41,u 42,u 43,u 44,u 45,u 46,u 47,u 48,u 49,u 50]:=hu
 clear hu
 subst hu'
 change u 1=_ at f1
 change u 15=_ at f15
 change u 16=_ at f16
 change u 17=_ at f17
 rw [f1,f15,f16,f17]
 clear f1 f15 f16 f17 hsz
 have HOK:=Lib.hid hok;have HE:=Lib.hid hE
 clear hok hE
 by_cases hkN:k<n
 case pos=>
  have h1:(k:Int)<(n:Int):=by omega
  have h0:(0:Int)<=(k:Int):=by omega
  have hkl:k<ps.length:=by rw [HN.out];exact hkN
  obtain⟨g,off,c9,hq,hg,hrg,hla,h18⟩:=(HL.out.ext HE.out).at hkl
  simp only [Value.slice.injEq] at hq
  obtain⟨rfl,hq2,rfl⟩:=hq
  have hr2:=R2.out H6.out k hkl
  have hos:=fun h=>okTo_succ hkl HOK.out h
  obtain⟨p,hpe⟩:∃ p,ps[k]=p:=⟨_,rfl⟩
  rw [hpe] at hrg hla h18 hr2
  simp only [hpe] at hos
  obtain⟨pl,pcs⟩:=p
  dsimp only at hrg hla h18 hr2 hos
  obtain⟨nm,k1,p1,m1,n1,a1,b1,o1,N1,c1,k2,p2,m2,n2,a2,b2,o2,N2,c2,io,N3,ic,oo,N4,oc,md,hcs,HLA,HPL,HPR,HIF,HOU,HNM,HN1,HN2,HN3,HN4,HMD,q0,q1,q2,q3,q4⟩:=law_gen hla
  subst hcs
  have hwk:IntKind.i64.wrap ((k:Int)+1)=(k:Int)+1:=IntWalk.i64_in _ (by omega)
  obtain⟨bb,hbb⟩:∃ b,lawB pl=b:=⟨_,rfl⟩
  have hle:lawE pl=if bb=true then 0 else 17:=by unfold lawE;rw [hbb]
  rw [hbb] at hr2
  simp only [hbb] at hos
  have HRG:=Lib.hid hrg;have HR2:=Lib.hid hr2;have HOS:=Lib.hid hos;have HLE:=Lib.hid hle
  clear hq2 hpe hla h18 hrg hr2 hos hle hbb HPL HPR HIF HOU HNM HN1 HN2 HN3 HN4 HMD HOK hg
  obtain⟨V1,hV1⟩:∃ D,W.alloc (.cells #[.string nm,.int .i64 k1,.int .u32 (p1:Int),.int .u32 (m1:Int),.bool n1,.int .i64 a1,.int .i64 b1,.slice o1 N1 c1,.int .i64 k2,.int .u32 (p2:Int),.int .u32 (m2:Int),.bool n2,.int .i64 a2,.int .i64 b2,.slice o2 N2 c2,.slice io N3 ic,.slice oo N4 oc,.int .i64 md] 102)=D:=⟨_,rfl⟩
  have hN1:Ext W V1:=by rw [<-hV1];exact(Turn.refl _ W).alloc _
  have hx1:V1.heap[W.heap.size]?=some (.cells #[.string nm,.int .i64 k1,.int .u32 (p1:Int),.int .u32 (m1:Int),.bool n1,.int .i64 a1,.int .i64 b1,.slice o1 N1 c1,.int .i64 k2,.int .u32 (p2:Int),.int .u32 (m2:Int),.bool n2,.int .i64 a2,.int .i64 b2,.slice o2 N2 c2,.slice io N3 ic,.slice oo N4 oc,.int .i64 md] 102 (0,0)):=by rw [<-hV1];exact new_at rfl
  obtain⟨X,hX⟩:∃ x,W.heap.size=x:=⟨_,rfl⟩
  rw [hX] at hx1
  have HX1:=Lib.hid hx1;have HV1:=Lib.hid hV1
  clear hx1 hV1
  go_upto_region 6 with (refine wpList_load_at (by rfl) 102 (.tmp 19) rfl g (off+k*18) (by first | rfl | simp) _ _ HRG.out Tryz.underlying102 rfl (by kernel_rfl) ?_)
  rw [HV1.out]
  have hc:=HCK.out V1 (HE.out.trans hN1) _ _ (HLA.out.ext hN1)
  rw [HLE.out] at hc
  have HC:=Lib.hid hc;have HE1:=Lib.hid (HE.out.trans hN1);have HX0:=Lib.hid hX
  clear hc hN1 hX HV1 HRG HLA
  go_wp2_with (refine wpList_load_row rfl 102 (.tmp 6) rfl X rfl _ _ _ _ HX1.out Tryz.underlying102 rfl Tryz.lawInfo ?_)
  refine HC.out.mono ?_
  rintro e V2 ⟨rfl,hN2⟩
  have HE2:=Lib.hid (HE1.out.trans hN2)
  clear hN2 HC HX1 HE1
  cases bb with
  | true=>
   have hos:=HOS.out rfl
   have HOS2:=Lib.hid hos
   clear hos
   go_wp2
   exact⟨⟨k+1,by omega,by first | rfl | trivial,⟨rfl,rfl,rfl,rfl,rfl⟩,HOS2.out,HE2.out⟩,by first | (simp [intOf];done) | (simp [intOf];omega)⟩
  | false=>
   have hre:RE=17:=HR2.out (by first | trivial | rfl)
   subst hre
   go_wp2
   go_ret
   exact⟨rfl,HE2.out⟩
 obtain rfl:k=n:=by omega
 have h1:¬ (k:Int)<(k:Int):=by omega
 by_cases h32:32<m
 case pos=>
  have h2:(m:Int) > 32:=by omega
  have hre:RE=12:=R3.out H6.out HOK.out h32
  subst hre
  go_wp2
  go_ret
  exact⟨rfl,HE.out⟩
 have h2:¬ (m:Int) > 32:=by omega
 have hre:=R4.out H6.out HOK.out h32
 have HRE:=Lib.hid hre
 clear hre R1 R2 R3 R4 H6 HOK h61
 go_wp2
 refine wp_loop (fun a W=>∃(j:Nat),j<=m/\a.defers=[]/\(a.tmps.size=51/\a.tmps.getD 28 undef=.slice po m pc/\a.tmps.getD 29 undef=.int .i64 m/\a.tmps.getD 30 undef=.int .i64 j)/\fineTo (qs.map (·.1)) j/\Ext w W)
  (fun a _=>((m:Int) - intOf (a.tmps.getD 30 undef)).toNat) ?_ ?_
 ·exact⟨0,by omega,rfl,⟨rfl,rfl,rfl,rfl⟩,rfl,HE.out⟩
 clear HE HCK HL
 rintro⟨t,_⟩ V ⟨j,hj,hds,⟨hsz,f28,f29,f30⟩,hfi,hE⟩
 subst hds
 obtain⟨u',hu⟩:=frame_fun hsz
 obtain⟨u,rfl⟩:∃ x,x=u':=⟨_,rfl⟩
 have hu':t=#[u 0,u 1,u 2,u 3,u 4,u 5,u 6,u 7,u 8,u 9,u 10,u 11,u 12,u 13,u 14,u 15,u 16,u 17,u 18,u 19,u 20,u 21,u 22,u 23,u 24,u 25,u 26,u 27,u 28,u 29,u 30,u 31,u 32,u 33,u 34,u 35,u 36,u 37,u 38,u 39,u 40,u 41,u 42,u 43,u 44,u 45,u 46,u 47,u 48,u 49,u 50]:=hu
 clear hu
 subst hu'
 change u 28=_ at f28
 change u 29=_ at f29
 change u 30=_ at f30
 rw [f28,f29,f30]
 clear f28 f29 f30 hsz
 have HFI:=Lib.hid hfi;have HE:=Lib.hid hE
 clear hfi hE
 have hlq:((qs.map (·.1)).map wpE).length=m:=by rw [List.length_map,List.length_map,HM.out]
 by_cases hjm:j<m
 case neg=>
  obtain rfl:j=m:=by omega
  have h3:¬ (j:Int)<(j:Int):=by omega
  have hz:RE=0:=by
   rw [HRE.out]
   have:=HFI.out
   unfold fineTo at this
   rwa [List.take_of_length_le (by omega)] at this
  subst hz
  clear hlq
  go_wp2
  go_ret
  exact⟨rfl,HE.out⟩
 have h3:(j:Int)<(m:Int):=by omega
 have h0:(0:Int)<=(j:Int):=by omega
 have hjl:j<qs.length:=by rw [HM.out];exact hjm
 have hgj:((qs.map (·.1)).map wpE)[j]'(by omega)=wpE qs[j].1:=by rw [List.getElem_map,List.getElem_map]
 have hfq:firstE (((qs.map (fun(q:(Wd × Wd) × List Value)=>q.1)).map wpE).take j)=0:=HFI.out
 have hft:=firstE_take (l:=(qs.map (fun(q:(Wd × Wd) × List Value)=>q.1)).map wpE) (n:=j) (by omega) hfq
 have hfs:=firstE_stop (l:=(qs.map (fun(q:(Wd × Wd) × List Value)=>q.1)).map wpE) (n:=j) (by omega) hfq
 rw [hgj] at hft hfs
 obtain⟨g,off,c',hq,hrg,⟨u,v,hcs,hu,hv⟩,zz2⟩:=StrAt.at (pairs_ext HP.out HE.out) hjl
 replace hq:=hq (by decide)
 obtain⟨hq,hg⟩:=hq
 simp only [Value.slice.injEq] at hq
 obtain⟨rfl,hz,rfl⟩:=hq
 rw [hcs] at hrg
 obtain⟨fo,fc,rfl,huw,zz3⟩:=hu
 obtain⟨qo,qc,rfl,hvw,zz4⟩:=hv
 have d0:=hrg 0 _ rfl
 have d1:=hrg 1 _ rfl
 rw [Nat.add_zero] at d0
 obtain⟨A,hA⟩:∃ x,wE qs[j].1.1=x:=⟨_,rfl⟩
 obtain⟨Bv,hB⟩:∃ x,wE qs[j].1.2=x:=⟨_,rfl⟩
 have hwv:wpE qs[j].1=if A=0 then Bv else A:=by unfold wpE;rw [hA,hB]
 rw [hwv] at hft hfs
 have ha:A≠0->RE=A:=fun h=>by rw [if_neg h] at hfs;rw [HRE.out];exact hfs h
 have hb:A=0->Bv≠0->RE=Bv:=fun h h'=>by rw [if_pos h] at hfs;rw [HRE.out];exact hfs h'
 have hok2:A=0->Bv=0->fineTo (qs.map (·.1)) (j+1):=fun h h'=>by rw [if_pos h,h'] at hft;exact hft
 have hw1:=fun(D:World) (hD:Ext V D)=>wcheck_any (huw.ext hD)
 have hw2:=fun(D:World) (hD:Ext V D)=>wcheck_any (hvw.ext hD)
 simp only [hA] at hw1
 simp only [hB] at hw2
 obtain⟨fl,hfl⟩:∃ x,qs[j].1.1.length=x:=⟨_,rfl⟩
 obtain⟨tl,htl⟩:∃ x,qs[j].1.2.length=x:=⟨_,rfl⟩
 rw [hfl] at d0
 rw [htl] at d1
 simp only [hfl] at hw1
 simp only [htl] at hw2
 have HA:=Lib.hid ha;have HB:=Lib.hid hb;have HK2:=Lib.hid hok2;have HW1:=Lib.hid hw1;have HW2:=Lib.hid hw2
 have hwk:IntKind.i64.wrap ((j:Int)+1)=(j:Int)+1:=IntWalk.i64_in _ (by omega)
 clear hlq hgj hft hfs hfq hz zz2 zz3 zz4 hcs hrg huw hvw hA hB hwv ha hb hok2 hw1 hw2 hfl htl hg hjl HFI
 go_upto_region 14 with (fail)
 obtain⟨W1,hW1⟩:∃ D,V.alloc (.cells #[.slice fo fl fc,.slice qo tl qc] 105)=D:=⟨_,rfl⟩
 have hN1:Ext V W1:=by rw [<-hW1];exact(Turn.refl _ V).alloc _
 have hX1:W1.heap[V.heap.size]?=some (.cells #[.slice fo fl fc,.slice qo tl qc] 105 (0,0)):=by rw [<-hW1];exact new_at rfl
 rw [hW1]
 obtain⟨X,hX⟩:∃ x,V.heap.size=x:=⟨_,rfl⟩
 rw [hX] at hX1 ⊢
 have cX:=fun j=>cell_of_row _ _ j _ _ _ hX1
 have HN1:=Lib.hid hN1;have HX0:=Lib.hid hX
 clear hW1 hX1 hX hN1 d0 d1
 go_wp2
 obtain⟨W2,hW2⟩:∃ D,W1.alloc (.cells #[.slice fo fl fc,.slice qo tl qc] 99)=D:=⟨_,rfl⟩
 have hN2:Ext V W2:=by rw [<-hW2];exact HN1.out.trans ((Turn.refl _ W1).alloc _)
 have hY2:W2.heap[W1.heap.size]?=some (.cells #[.slice fo fl fc,.slice qo tl qc] 99 (0,0)):=by rw [<-hW2];exact new_at rfl
 rw [hW2]
 obtain⟨Y,hY⟩:∃ x,W1.heap.size=x:=⟨_,rfl⟩
 rw [hY] at hY2 ⊢
 have HN2:=Lib.hid hN2;have HY2:=Lib.hid hY2
 clear hW2 hN2 hY2 hY cX HN1
 refine wp_loop (fun a D=>∃(i:Nat),i<=2/\a.defers=[]/\(a.tmps.size=51/\a.tmps.getD 28 undef=.slice (some ⟨g,off,none⟩) m pc/\a.tmps.getD 29 undef=.int .i64 m/\a.tmps.getD 30 undef=.int .i64 j/\a.tmps.getD 38 undef=.slice (some ⟨Y,0,none⟩) 2 2/\a.tmps.getD 39 undef=.int .i64 2/\a.tmps.getD 40 undef=.int .i64 i)/\D.heap[Y]?=some (.cells #[.slice fo fl fc,.slice qo tl qc] 99 (0,0))/\inTo A Bv i/\Ext V D)
  (fun a _=>(2 - intOf (a.tmps.getD 40 undef)).toNat) ?_ ?_
 ·exact⟨0,by omega,rfl,⟨rfl,rfl,rfl,rfl,rfl,rfl,rfl⟩,HY2.out,⟨fun h=>by omega,fun h=>by omega⟩,HN2.out⟩
 clear HN2 HY2
 rintro⟨t,_⟩ D ⟨i,hi,hds,⟨hsz,f28,f29,f30,f38,f39,f40⟩,hYD,hin,hVD⟩
 subst hds
 obtain⟨u',hu⟩:=frame_fun hsz
 obtain⟨u,rfl⟩:∃ x,x=u':=⟨_,rfl⟩
 have hu':t=#[u 0,u 1,u 2,u 3,u 4,u 5,u 6,u 7,u 8,u 9,u 10,u 11,u 12,u 13,u 14,u 15,u 16,u 17,u 18,u 19,u 20,u 21,u 22,u 23,u 24,u 25,u 26,u 27,u 28,u 29,u 30,u 31,u 32,u 33,u 34,u 35,u 36,u 37,u 38,u 39,u 40,u 41,u 42,u 43,u 44,u 45,u 46,u 47,u 48,u 49,u 50]:=hu
 clear hu
 subst hu'
 change u 28=_ at f28
 change u 29=_ at f29
 change u 30=_ at f30
 change u 38=_ at f38
 change u 39=_ at f39
 change u 40=_ at f40
 rw [f28,f29,f30,f38,f39,f40]
 clear f28 f29 f30 f38 f39 f40 hsz
 have HYD:=Lib.hid hYD;have HIN:=Lib.hid hin;have HVD:=Lib.hid hVD
 clear hYD hin hVD
 by_cases hi2:i=2
 ·subst hi2
  have hk3:=HK2.out (HIN.out.1 (by omega)) (HIN.out.2 (by omega))
  have HK3:=Lib.hid hk3;have HE3:=Lib.hid (HE.out.trans HVD.out)
  clear hk3 HK2 HIN HVD HYD HW1 HW2 HA HB
  go_wp2
  exact⟨⟨j+1,by omega,by first | rfl | trivial,⟨rfl,rfl,rfl,rfl⟩,HK3.out,HE3.out⟩,by first | (simp [intOf];done) | (simp [intOf];omega)⟩
 have cY:=fun j=>cell_of_row _ _ j _ _ _ HYD.out
 by_cases hi0:i=0
 ·subst hi0
  clear hi2
  go_wp2_with fail
  refine(HW1.out _ HVD.out).mono ?_
  rintro e D2 ⟨rfl,hN3⟩
  have hY3:=hN3.keep HYD.out
  have HY3:=Lib.hid hY3;have HV3:=Lib.hid (HVD.out.trans hN3)
  clear hY3 hN3 cY HYD HVD HW1
  by_cases hA0:A=0
  ·subst hA0
   have hin1:inTo 0 Bv 1:=⟨fun _=>rfl,fun h=>by omega⟩
   have HI1:=Lib.hid hin1
   clear hin1 HIN HA
   go_wp2
   exact⟨⟨1,by omega,by first | rfl | trivial,⟨rfl,rfl,rfl,rfl,rfl,rfl,rfl⟩,HY3.out,HI1.out,HV3.out⟩,by simp [intOf]⟩
  ·have h9:(A != 0)=true:=by rw [bne_iff_ne];exact hA0
   have hre:RE=A:=HA.out hA0
   subst hre
   have HE3:=Lib.hid (HE.out.trans HV3.out)
   clear HA HB HK2 HIN HW2 HY3 HV3
   go_wp2
   go_ret
   exact⟨rfl,HE3.out⟩
 ·obtain rfl:i=1:=by omega
  clear hi2 hi0
  have hA0:A=0:=HIN.out.1 (by omega)
  subst hA0
  go_wp2_with fail
  refine(HW2.out _ HVD.out).mono ?_
  rintro e D2 ⟨rfl,hN3⟩
  have hY3:=hN3.keep HYD.out
  have HY3:=Lib.hid hY3;have HV3:=Lib.hid (HVD.out.trans hN3)
  clear hY3 hN3 cY HYD HVD HW2
  by_cases hB0:Bv=0
  ·subst hB0
   have hin1:inTo 0 0 2:=⟨fun _=>rfl,fun _=>rfl⟩
   have HI1:=Lib.hid hin1
   clear hin1 HIN HB
   go_wp2
   exact⟨⟨2,by omega,by first | rfl | trivial,⟨rfl,rfl,rfl,rfl,rfl,rfl,rfl⟩,HY3.out,HI1.out,HV3.out⟩,by simp [intOf]⟩
  ·have h9:(Bv != 0)=true:=by rw [bne_iff_ne];exact hB0
   have hre:RE=Bv:=HB.out (by first | trivial | rfl) hB0
   subst hre
   have HE3:=Lib.hid (HE.out.trans HV3.out)
   clear HA HB HK2 HIN HW1 HY3 HV3
   go_wp2
   go_ret
   exact⟨rfl,HE3.out⟩
end Go.Proofs.YtfdlhlghcbeblaaGreatDoor
set_option maxRecDepth 100000
set_option maxHeartbeats 8000000
namespace Go.Proofs.YtfdlhlghcbeblaaGreatDoor
open Go.RowKit Go.Ab
attribute [local go_sem] Oper.semAt_some wide_fn wide_depth
def lettersB(l:List UInt8)(i:Nat):Bool:=(l.take i).all letB
end Go.Proofs.YtfdlhlghcbeblaaGreatDoor
set_option maxRecDepth 100000
set_option maxHeartbeats 8000000
namespace Go.Proofs.YtfdlhlghcbeblaaGreatDoor
open Go.RowKit Go.Ab
attribute [local go_sem] Oper.semAt_some wide_fn wide_depth
def okToF(s:Nat × Nat)(f:Nat):Prop:=∀ i,i<f->¬ (s.1.testBit i=true/\s.2.testBit i=true)/\((s.1.testBit i=true\/s.2.testBit i=true)->i<24)
end Go.Proofs.YtfdlhlghcbeblaaGreatDoor
set_option maxRecDepth 100000
set_option maxHeartbeats 8000000
namespace Go.Proofs.YtfdlhlghcbeblaaGreatDoor
open Go.RowKit Go.Ab
attribute [local go_sem] Oper.semAt_some wide_fn wide_depth
end Go.Proofs.YtfdlhlghcbeblaaGreatDoor
