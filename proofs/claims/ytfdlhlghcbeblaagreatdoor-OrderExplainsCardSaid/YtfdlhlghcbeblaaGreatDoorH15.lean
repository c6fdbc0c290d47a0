/- law.named: names (strings.Trim over a set of ASCII characters). law.Check, law.check. slices.Collect of ints over an iterator with blocks of its own; law.Hits. law.run: its iterator in any mode; how many replacements there are; slices of words. Rows of structs in memory: pairs of words, states of derivations. PLAIN: the error of a trace. -/
import Derived.Test.YtfdlhlghcbeblaaGreatDoorH09
import Derived.Test.YtfdlhlghcbeblaaGreatDoorH14
import Derived.Test.YtfdlhlghcbeblaaGreatDoorH06
import Derived.Test.YtfdlhlghcbeblaaGreatDoorH11
import Derived.IntWalk
set_option maxRecDepth 100000
set_option maxHeartbeats 4000000
namespace Go.Proofs.YtfdlhlghcbeblaaGreatDoor
open Go.RowKit Go.Ab
attribute [local go_sem] Oper.semAt_some wide_fn wide_depth
theorem ex_list(l:List UInt8)(a b:Nat)(h:a<=b):(⟨l.toArray⟩:ByteArray).extract a b=⟨((l.take b).drop a).toArray⟩:=by
 apply ByteArray.ext
 simp [ByteArray.data_extract,List.take_drop]
 rw [show a+(b - a)=b by omega]
def strLen(v:Value):Nat:=match v with | .string s=>s.size | _=>0
def arr256(F:Nat->Bool):Array Value:=((List.range 256).map fun j=>Value.bool (F j)).toArray
def Set256(w:World)(B:Nat)(F:Nat->Bool):Prop:=w.heap[B]?=some (.cells (arr256 F) 306 (0,0))
theorem Set256.cell{w:World}{B:Nat}{F:Nat->Bool}(h:Set256 w B F){j:Nat}(hj:j<256):w.cell? ⟨B,j,none⟩=some (.bool (F j)):=by
 rw [cell_of_row _ _ j _ _ _ h]
 simp [arr256,hj]
theorem Set256.free{w:World}{B:Nat}{F:Nat->Bool}(h:Set256 w B F)(j:Nat):w.frozen? ⟨B,j,none⟩=false:=by
 simp [World.frozen?,show w.heap[B]?=_ from h]
theorem contains_byte{w:World}{B:Nat}{F:Nat->Bool}(h:Set256 w B F)(c:Nat)(hc:c<256) :
  Calls Tryz.prog 254 #[.pointer (some ⟨B,0,none⟩),.int .u8 (c:Int)] w fun e w'=>e=.returned (.bool (F c))/\w=w':=by
 have cX:=h.cell hc
 have h1:(c:Int)<256:=by omega
 clear h
 go_enter Tryz.func254,Tryz.ntmps254
 go_wp2
 go_ret
 exact⟨rfl,rfl⟩
theorem trim_left{w:World}{B:Nat}{F:Nat->Bool}(h:Set256 w B F)(l:List UInt8)(hl:l.length<=1000) :
  Calls Tryz.prog 219 #[.string ⟨l.toArray⟩,.pointer (some ⟨B,0,none⟩)] w fun e w'=>e=.returned (.string ⟨(l.dropWhile fun c=>F c.toNat).toArray⟩)/\w=w':=by
 have HC:=Lib.hid fun(c:Nat) (hc:c<256)=>contains_byte h c hc
 clear h
 go_enter Tryz.func219,Tryz.ntmps219
 go_wp2
 go_loop [0] (fun t=>∃ m:List UInt8,t=.string ⟨m.toArray⟩/\m.length<=1000/\l.dropWhile (fun c=>F c.toNat)=m.dropWhile (fun c=>F c.toNat)) (fun t=>strLen t)
 case atStart=>exact⟨l,rfl,hl,rfl⟩
 case round=>
  obtain⟨m,rfl,hm,hd⟩:=hrel
  have HD:=Lib.hid hd
  clear hd
  cases m with
  | nil=>
   go_wp2
   go_ret
   exact⟨by rw [HD.out];rfl,rfl⟩
  | cons c m=>
   have hc:=HC.out c.toNat c.toNat_lt
   obtain⟨b,hb⟩:∃ b,F c.toNat=b:=⟨_,rfl⟩
   rw [hb] at hc
   have HCC:=Lib.hid hc;have HB:=Lib.hid hb
   clear hc hb
   go_wp2_with fail
   refine HCC.out.mono ?_
   rintro e w' ⟨rfl,rfl⟩
   cases b
   ·go_wp2
    go_ret
    exact⟨by rw [HD.out,List.dropWhile_cons_of_neg (by rw [HB.out];decide)];rfl,rfl⟩
   ·go_wp2
    rw [ex_list _ _ _ (by omega)]
    refine⟨⟨m,?_,by simp at hm;omega,by rw [HD.out,List.dropWhile_cons_of_pos (by rw [HB.out])]⟩,?_⟩
    ·simp
    ·simp [strLen,ByteArray.size]
theorem rev_cases(l:List UInt8):l=[]\/∃ m c,l=m++[c]:=by
 cases h:l.reverse with
 | nil=>exact .inl (by simpa using h)
 | cons c m=>exact .inr ⟨m.reverse,c,by have:=congrArg List.reverse h;simpa using this⟩
def trimR(F:Nat->Bool)(l:List UInt8):List UInt8:=(l.reverse.dropWhile fun c=>F c.toNat).reverse
theorem trimR_pos{F:Nat->Bool}{m:List UInt8}{c:UInt8}(h:F c.toNat=true):trimR F (m++[c])=trimR F m:=by
 unfold trimR;rw [List.reverse_append,List.reverse_singleton,List.singleton_append];simp [h]
theorem trimR_neg{F:Nat->Bool}{m:List UInt8}{c:UInt8}(h:F c.toNat=false):trimR F (m++[c])=m++[c]:=by
 unfold trimR;rw [List.reverse_append,List.reverse_singleton,List.singleton_append,List.dropWhile_cons_of_neg (by rw [h];decide)];simp
theorem trim_right{w:World}{B:Nat}{F:Nat->Bool}(h:Set256 w B F)(l:List UInt8)(hl:l.length<=1000) :
  Calls Tryz.prog 220 #[.string ⟨l.toArray⟩,.pointer (some ⟨B,0,none⟩)] w fun e w'=>e=.returned (.string ⟨(trimR F l).toArray⟩)/\w=w':=by
 have HC:=Lib.hid fun(c:Nat) (hc:c<256)=>contains_byte h c hc
 clear h
 go_enter Tryz.func220,Tryz.ntmps220
 go_wp2
 go_loop [0] (fun t=>∃ m:List UInt8,t=.string ⟨m.toArray⟩/\m.length<=1000/\trimR F l=trimR F m) (fun t=>strLen t)
 case atStart=>exact⟨l,rfl,hl,rfl⟩
 case round=>
  obtain⟨m,rfl,hm,hd⟩:=hrel
  have HD:=Lib.hid hd
  clear hd
  rcases rev_cases m with rfl | ⟨m,c,rfl⟩
  ·go_wp2
   go_ret
   exact⟨by rw [HD.out];rfl,rfl⟩
  ·have hc:=HC.out c.toNat c.toNat_lt
   obtain⟨b,hb⟩:∃ b,F c.toNat=b:=⟨_,rfl⟩
   rw [hb] at hc
   have HCC:=Lib.hid hc;have HB:=Lib.hid hb
   have hlen:(m++[c]).length=m.length+1:=by simp
   obtain⟨S,hS⟩:∃ S:ByteArray,(⟨(m++[c]).toArray⟩:ByteArray)=S:=⟨_,rfl⟩
   have hsz:S.size=m.length+1:=by rw [<-hS];simp [ByteArray.size]
   have hi:S[m.length]'(by omega)=c:=by subst hS;simp [ByteArray.getElem_eq_getElem_data]
   have hex:S.extract 0 m.length=⟨m.toArray⟩:=by rw [<-hS,ex_list _ _ _ (by omega)];simp
   rw [hS]
   have HI:=Lib.hid hi;have HEX:=Lib.hid hex;have HS:=Lib.hid hS
   clear hc hb hi hex hS
   go_wp2_with fail
   rw [HI.out]
   refine HCC.out.mono ?_
   rintro e w' ⟨rfl,rfl⟩
   cases b
   ·go_wp2
    go_ret
    exact⟨by rw [HD.out,trimR_neg HB.out,HS.out];rfl,rfl⟩
   ·go_wp2
    rw [HEX.out]
    exact⟨⟨m,rfl,by simp at hm;omega,by rw [HD.out,trimR_pos HB.out]⟩,by simp [strLen,hsz];simp [ByteArray.size]⟩
def inL(l:List UInt8)(j:Nat):Bool:=l.any fun c=>c.toNat == j
theorem inL_snoc(l:List UInt8)(c:UInt8)(j:Nat):inL (l++[c]) j=(inL l j || c.toNat == j):=by simp [inL]
theorem arr_set(l:List UInt8)(c:UInt8):(arr256 (inL l)).setIfInBounds c.toNat (.bool true)=arr256 (inL (l++[c])):=by
 apply Array.ext
 ·simp [arr256]
 ·intro i h1 h2
  simp only [arr256,List.size_toArray,List.length_map,List.length_range] at h2
  rw [Array.getElem_setIfInBounds]
  ·simp only [arr256,List.getElem_toArray,List.getElem_map,List.getElem_range]
   rw [inL_snoc]
   by_cases hc:c.toNat=i
   ·simp [hc]
   ·simp [hc]
  ·simpa [arr256] using h2
theorem make_set(l:List UInt8)(hl:l.length<=1000)(hlow:∀ c∈l,c.toNat<128)(w:World) :
  Calls Tryz.prog 218 #[.string ⟨l.toArray⟩] w fun e w'=>e=.returned (.tuple #[.agg (arr256 (inL l)),.bool true])/\Ext w w':=by
 go_enter Tryz.func218,Tryz.ntmps218
 go_upto_region 1 with (fail)
 have hz:Tryz.zeroCells306=arr256 (inL []):=by kernel_rfl
 have hS1:Set256 (w.alloc (.cells Tryz.zeroCells306 306)) w.heap.size (inL []):=by rw [hz];exact new_at rfl
 have hE1:Ext w (w.alloc (.cells Tryz.zeroCells306 306)):=(Turn.refl _ w).alloc _
 generalize w.alloc (.cells Tryz.zeroCells306 306)=w1 at hS1 hE1 ⊢
 obtain⟨B,hB⟩:∃ b,w.heap.size=b:=⟨_,rfl⟩
 rw [hB] at hS1 ⊢
 have HB:=Lib.hid hB;have HLOW:=Lib.hid hlow
 clear hz hB hlow
 obtain⟨S,hS⟩:∃ S:ByteArray,(⟨l.toArray⟩:ByteArray)=S:=⟨_,rfl⟩
 have hsz:S.size=l.length:=by rw [<-hS];simp [ByteArray.size]
 have HS:=Lib.hid hS;have HSZ:=Lib.hid hsz
 rw [hS]
 clear hS hsz
 obtain⟨n,hn⟩:∃ n,l.length=n:=⟨_,rfl⟩
 have hsn:S.size=n:=by rw [HSZ.out,hn]
 have HN:=Lib.hid hn
 rw [hn] at hl
 clear hn
 go_wp2
 refine wp_loop (fun a V=>∃(i:Nat),i<=n/\a.defers=[]/\(a.tmps.size=21/\a.tmps.getD 0 undef=.string S/\a.tmps.getD 2 undef=.pointer (some ⟨B,0,none⟩)/\a.tmps.getD 4 undef=.int .i64 i)/\Set256 V B (inL (l.take i))/\Ext w V)
  (fun a _=>n - (intOf (a.tmps.getD 4 undef)).toNat) ?_ ?_
 ·exact⟨0,by omega,rfl,⟨rfl,rfl,rfl,rfl⟩,by simpa using hS1,hE1⟩
 clear hS1 hE1
 rintro⟨t,_⟩ V ⟨i,hi,hds,⟨hsz,f0,f2,f4⟩,hSV,hE⟩
 subst hds
 obtain⟨u',hu⟩:=frame_fun hsz
 obtain⟨u,rfl⟩:∃ x,x=u':=⟨_,rfl⟩
 have hu':t=#[u 0,u 1,u 2,u 3,u 4,u 5,u 6,u 7,u 8,u 9,u 10,u 11,u 12,u 13,u 14,u 15,u 16,u 17,u 18,u 19,u 20]:=hu
 clear hu
 subst hu'
 change u 0=_ at f0
 change u 2=_ at f2
 change u 4=_ at f4
 rw [f0,f2,f4]
 clear f0 f2 f4 hsz
 by_cases hin:i<n
 ·have h1:(i:Int)<(n:Int):=by omega
  have hil:i<l.length:=by rw [HN.out];exact hin
  obtain⟨c,hc⟩:∃ c,l[i]=c:=⟨_,rfl⟩
  have hlo:=HLOW.out _ (List.getElem_mem hil)
  rw [hc] at hlo
  have hx:S[i]'(by omega)=c:=by
   have:=HS.out
   subst this
   simp [ByteArray.getElem_eq_getElem_data,hc]
  have hlo2:¬ (128:Int)<=(c.toNat:Int):=by omega
  have hlo3:(c.toNat:Int)<256:=by omega
  have hset:Set256 (V.setCell ⟨B,c.toNat,none⟩ (.bool true)) B (inL (l.take (i+1))):=by
   rw [List.take_succ_eq_append_getElem hil,hc]
   unfold Set256 at hSV ⊢
   rw [<-arr_set]
   simp only [World.setCell,Array.getElem?_modify,hSV];simp
  have cX:=hSV.cell (j:=c.toNat) (by omega)
  have fX:=hSV.free c.toNat
  have HSET:=Lib.hid hset;have HX:=Lib.hid hx
  clear hSV hset hc hx
  go_upto_region 5 with (fail)
  rw [HX.out]
  go_wp2
  exact⟨⟨i+1,by omega,by simp,HSET.out,hE.setCell (.inl (by rw [HB.out];exact Nat.le_refl _)) _⟩,by simp [intOf];omega⟩
 ·obtain rfl:i=n:=by omega
  have h1:¬ (i:Int)<(i:Int):=by omega
  have hall:l.take i=l:=by rw [List.take_of_length_le (by rw [HN.out];exact Nat.le_refl _)]
  rw [hall] at hSV
  clear hall
  have hinf:(Tryz.prog.info? 306).map (·.size)=some (arr256 (inL l)).size:=by
   rw [show (arr256 (inL l)).size=256 by simp [arr256]];kernel_rfl
  have hone:(arr256 (inL l)).all (·.oneCell')=true:=by simp [arr256,Value.oneCell']
  unfold Set256 at hSV
  obtain⟨A,hA⟩:∃ A,arr256 (inL l)=A:=⟨_,rfl⟩
  rw [hA] at hSV hinf hone
  have HA:=Lib.hid hA;have HSV:=Lib.hid hSV;have HINF:=Lib.hid hinf;have HONE:=Lib.hid hone
  clear hSV hA hinf hone
  go_upto_region 8 with (fail)
  refine wp_region_list ?_
  refine wpList_load_row rfl 306 (.tmp 2) rfl B rfl _ _ _ _ HSV.out Tryz.underlying306 rfl HINF.out ?_
  simp only [Act.put,pq]
  refine wpList_store_row rfl 306 (.tmp 2) (.tmp 20) rfl B A rfl rfl _ _ HSV.out HINF.out rfl HONE.out ?_
  simp only [Act.put]
  go_wp2
  have hT9:=Turn.setRow V B A
  refine bodyPost_ret (v:=.tuple #[.agg A,.bool true]) ?_ rfl ⟨by rw [HA.out],Turn.after hE hT9 (fun b h1 e=>by have:=HB.out;omega)⟩
  have hg:=setRow_heap V B A A _ _ HSV.out
  simp [results,Tryz.results218,asAddr,run_loadVar_row _ B _ _ _ _ _ hg Tryz.underlying306 rfl HINF.out]
def letL:List UInt8:=[97,98,99,100,101,102,103,104,105,106,107,108,109,110,111,112,113,114,115,116,117,118,119,120,121,122,65,66,67,68,69,70,71,72,73,74,75,76,77,78,79,80,81,82,83,84,85,86,87,88,89,90,48,49,50,51,52,53,54,55,56,57,45]
theorem letL_low:∀ c∈letL,c.toNat<128:=by decide
theorem letL_is(c:UInt8):inL letL c.toNat=letB c:=by
 have h:∀ n:Fin 256,inL letL n.val=((decide (97<=n.val) && decide (n.val<=122)) || (decide (65<=n.val) && decide (n.val<=90)) || (decide (48<=n.val) && decide (n.val<=57)) || decide (n.val=45)):=by decide +kernel
 exact h ⟨c.toNat,c.toNat_lt⟩
theorem trim_any(l:List UInt8)(hl:l.length<=1000)(h0:l≠[])(w:World) :
  Calls Tryz.prog 195 #[.string ⟨l.toArray⟩,.string ⟨letL.toArray⟩] w fun e w'=>e=.returned (.string ⟨((trimR (inL letL) l).dropWhile fun c=>inL letL c.toNat).toArray⟩)/\Ext w w':=by
 have hms:=fun(V:World)=>make_set letL (by decide) letL_low V
 obtain⟨L,hL⟩:∃ L,letL=L:=⟨_,rfl⟩
 have hLs:L.length=63:=by rw [<-hL];rfl
 rw [hL] at hms ⊢
 have HMS:=Lib.hid hms
 clear hms hL
 obtain⟨S,hS⟩:∃ S:ByteArray,(⟨l.toArray⟩:ByteArray)=S:=⟨_,rfl⟩
 obtain⟨C,hC⟩:∃ S:ByteArray,(⟨L.toArray⟩:ByteArray)=S:=⟨_,rfl⟩
 have hSs:S.size=l.length:=by rw [<-hS];simp [ByteArray.size]
 have hCs:C.size=63:=by rw [<-hC];simp [ByteArray.size,hLs]
 have hl0:0<l.length:=List.length_pos_iff.2 h0
 have hS0:¬ S.toList=[]:=by rw [<-hS];simpa using h0
 have hS1:S.toList.isEmpty=false:=by rw [List.isEmpty_eq_false_iff];exact hS0
 have hC0:¬ C.toList=[]:=by rw [<-hC];simp;rintro rfl;simp at hLs
 have hC1:C.toList.isEmpty=false:=by rw [List.isEmpty_eq_false_iff];exact hC0
 have HC:=Lib.hid hC;have HS:=Lib.hid hS
 rw [hS,hC]
 clear hS hC hLs hSs h0
 go_enter Tryz.func195,Tryz.ntmps195
 go_upto_region 5 with (fail)
 refine wp_region_list ?_
 go_wp2_with fail
 rw [<-HC.out]
 refine(HMS.out _).mono ?_
 rintro e w1 ⟨rfl,hE1⟩
 rw [HC.out]
 have hinf:(Tryz.prog.info? 306).map (·.size)=some (arr256 (inL L)).size:=by
  rw [show (arr256 (inL L)).size=256 by simp [arr256]];kernel_rfl
 have hone:(arr256 (inL L)).all (·.oneCell')=true:=by simp [arr256,Value.oneCell']
 have hz:Tryz.zeroCells306.size=(arr256 (inL L)).size:=by
  rw [show (arr256 (inL L)).size=256 by simp [arr256]];kernel_rfl
 obtain⟨A,hA⟩:∃ A,arr256 (inL L)=A:=⟨_,rfl⟩
 rw [hA] at hinf hone hz ⊢
 have HA:=Lib.hid hA;have HINF:=Lib.hid hinf;have HONE:=Lib.hid hone;have HZ:=Lib.hid hz
 clear hA hinf hone hz
 obtain⟨w2,hw2⟩:∃ D,(w1.alloc (.cells Tryz.zeroCells306 306)).setRow w1.heap.size A=D:=⟨_,rfl⟩
 have hSet:Set256 w2 w1.heap.size (inL L):=by
  rw [<-hw2];unfold Set256;rw [HA.out]
  exact setRow_heap _ _ _ _ _ _ (new_at rfl)
 have hE2:Ext w w2:=by
  rw [<-hw2]
  exact Turn.after (hE1.alloc _) (Turn.setRow _ _ _) (fun b hb e=>by have:=hE1.size;omega)
 have HSET:=Lib.hid hSet;have HW2:=Lib.hid hw2
 clear hSet hw2
 go_upto_region 7 with (refine wpList_store_row (by rfl) 306 (.tmp 5) (.tmp 32) (by rfl) w1.heap.size A (by rfl) (by rfl) _ _ (new_at rfl) HINF.out HZ.out HONE.out ?_)
 rw [HW2.out]
 have h1:=trim_right HSET.out l hl
 have hlr:(trimR (inL L) l).length<=1000:=by
  unfold trimR;rw [List.length_reverse]
  have h1:=(List.dropWhile_sublist (l:=l.reverse) (fun c=>inL L c.toNat)).length_le
  rw [List.length_reverse] at h1;omega
 have h2:=trim_left HSET.out (trimR (inL L) l) hlr
 rw [HS.out] at h1
 have H1:=Lib.hid h1;have H2:=Lib.hid h2
 clear h1 h2
 go_wp2_with fail
 refine H1.out.mono ?_
 rintro e w' ⟨rfl,rfl⟩
 go_wp2_with fail
 refine H2.out.mono ?_
 rintro e w' ⟨rfl,rfl⟩
 go_wp2
 go_ret
 exact⟨rfl,hE2⟩
theorem dw_nil(p:UInt8->Bool):∀ l:List UInt8,l.dropWhile p=[]↔∀ c∈l,p c=true
 | []=>by simp
 | c::l=>by
  cases h:p c with
  | true=>rw [List.dropWhile_cons_of_pos h,dw_nil p l];simp [h]
  | false=>rw [List.dropWhile_cons_of_neg (by rw [h];decide)];simp [h]
theorem trim_nil(F:Nat->Bool)(l:List UInt8):((trimR F l).dropWhile fun c=>F c.toNat)=[]↔l.all (fun c=>F c.toNat)=true:=by
 constructor
 ·intro h
  rcases rev_cases (trimR F l) with h1 | ⟨m,c,h1⟩
  ·unfold trimR at h1
   have h2:l.reverse.dropWhile (fun c=>F c.toNat)=[]:=by simpa using h1
   rw [dw_nil] at h2
   exact List.all_eq_true.2 fun c hc=>h2 c (by simpa using hc)
  ·rw [dw_nil] at h
   have hc:=h c (by rw [h1];simp)
   exfalso
   unfold trimR at h1
   have h3:l.reverse.dropWhile (fun c=>F c.toNat)=c::m.reverse:=by have:=congrArg List.reverse h1;simpa using this
   have:=List.head?_dropWhile_not (fun c:UInt8=>F c.toNat) l.reverse
   rw [h3] at this
   simp [hc] at this
 ·intro h
  have:trimR F l=[]:=by
   unfold trimR
   rw [(dw_nil _ _).2 fun c hc=>List.all_eq_true.1 h c (by simpa using hc)];rfl
  rw [this];rfl
theorem named_any(l:List UInt8)(hl:l.length<=9223372036854775807)(w:World) :
  Calls Tryz.prog 171 #[.string ⟨l.toArray⟩] w fun e w'=>e=.returned (.bool (nameB ⟨l.toArray⟩))/\Ext w w':=by
 have HN:Hid (nameB ⟨l.toArray⟩=(decide (1<=l.length) && decide (l.length<=24) && l.all letB)):=Lib.hid (by simp [nameB,ByteArray.size])
 obtain⟨S,hS⟩:∃ S:ByteArray,(⟨l.toArray⟩:ByteArray)=S:=⟨_,rfl⟩
 have hSs:S.size=l.length:=by rw [<-hS];simp [ByteArray.size]
 have HS:=Lib.hid hS
 by_cases h0:l=[]
 ·subst h0
  have hS0:S.toList=[]:=by rw [<-hS];simp
  rw [hS]
  rw [hS] at HN
  clear hS hSs
  go_enter Tryz.func171,Tryz.ntmps171
  go_wp2
  go_ret
  exact⟨by rw [HN.out];rfl,Turn.refl _ _⟩
 have hS0:¬ S.toList=[]:=by rw [<-hS];simpa using h0
 have hS1:S.toList.isEmpty=false:=by rw [List.isEmpty_eq_false_iff];exact hS0
 obtain⟨n,hn⟩:∃ n,l.length=n:=⟨_,rfl⟩
 have hn0:0<n:=by rw [<-hn];exact List.length_pos_iff.2 h0
 rw [hn] at hSs hl HN
 rw [hS] at HN ⊢
 clear hS
 by_cases h24:n<=24
 case neg=>
  have h1:¬ (n:Int)<=24:=by omega
  clear hn
  go_enter Tryz.func171,Tryz.ntmps171
  go_wp2
  go_ret
  exact⟨by rw [HN.out];simp [h24],Turn.refl _ _⟩
 have h1:(n:Int)<=24:=by omega
 have hc:=trim_any l (by omega) h0 w
 rw [HS.out] at hc
 have htn:=trim_nil (inL letL) l
 obtain⟨T,hT⟩:∃ T,((trimR (inL letL) l).dropWhile fun c=>inL letL c.toNat)=T:=⟨_,rfl⟩
 rw [hT] at hc htn
 have HC:=Lib.hid hc
 have HLET:Hid (l.all letB=decide (T=[])):=Lib.hid (by
  apply Bool.eq_iff_iff.2
  rw [decide_eq_true_iff,htn]
  simp only [letL_is])
 clear hc hT htn hn
 go_enter Tryz.func171,Tryz.ntmps171
 go_wp2_with fail
 refine HC.out.mono ?_
 rintro e w1 ⟨rfl,hE⟩
 by_cases hT0:T=[]
 ·subst hT0
  go_wp2
  go_ret
  exact⟨by rw [HN.out,HLET.out];apply ret_bool;simp;omega,hE⟩
 ·have hT1:T.isEmpty=false:=by rw [List.isEmpty_eq_false_iff];exact hT0
  go_wp2
  go_ret
  exact⟨by rw [HN.out,HLET.out];apply ret_bool;simp [hT0],hE⟩
end Go.Proofs.YtfdlhlghcbeblaaGreatDoor
set_option maxRecDepth 100000
set_option maxHeartbeats 8000000
namespace Go.Proofs.YtfdlhlghcbeblaaGreatDoor
open Go.RowKit Go.Ab
attribute [local go_sem] Oper.semAt_some wide_fn wide_depth
theorem string_list(s:ByteArray):s=⟨s.data.toList.toArray⟩:=by
 cases s;simp
theorem law_prog(l:LawD):lawB l=if nameB l.name=false then false else if chkP l.left≠0 then false else if chkP l.right≠0 then false else if 4<l.ifs.length then false else if 6<l.outs.length then false else if l.ifs.length+l.outs.length=0 then false else
  if l.mode<1\/3<l.mode then false else if (l.ifs.any fun s=>!okS s)=true then false else if (l.outs.any fun x=>!fitB l.ifs.length x)=true then false else true:=by
 unfold lawB
 have ha:l.ifs.all okS=!(l.ifs.any fun s=>!okS s):=by simp [List.any_eq_not_all_not]
 have hb:l.outs.all (fitB l.ifs.length)=!(l.outs.any fun x=>!fitB l.ifs.length x):=by simp [List.any_eq_not_all_not]
 rw [ha,hb]
 cases nameB l.name
 ·simp
 rw [if_neg (by decide)]
 by_cases h1:chkP l.left=0
 case neg=>rw [if_pos h1,decide_eq_false h1];simp
 rw [if_neg (fun q=>q h1),decide_eq_true h1]
 by_cases h2:chkP l.right=0
 case neg=>rw [if_pos h2,decide_eq_false h2];simp
 rw [if_neg (fun q=>q h2),decide_eq_true h2]
 by_cases h3:4<l.ifs.length
 ·rw [if_pos h3,decide_eq_false (by omega:¬ l.ifs.length<=4)];simp
 rw [if_neg h3,decide_eq_true (by omega:l.ifs.length<=4)]
 by_cases h4:6<l.outs.length
 ·rw [if_pos h4,decide_eq_false (by omega:¬ l.outs.length<=6)];simp
 rw [if_neg h4,decide_eq_true (by omega:l.outs.length<=6)]
 by_cases h5:l.ifs.length+l.outs.length=0
 ·rw [if_pos h5,decide_eq_false (by omega:¬ (l.ifs.length+l.outs.length≠0))];simp
 rw [if_neg h5,decide_eq_true h5]
 by_cases h6:l.mode<1\/3<l.mode
 ·rw [if_pos h6]
  rcases h6 with h6 | h6
  ·rw [decide_eq_false (by omega:¬ 1<=l.mode)];simp
  ·rw [decide_eq_false (by omega:¬ l.mode<=3)];simp
 rw [if_neg h6,decide_eq_true (by omega:1<=l.mode),decide_eq_true (by omega:l.mode<=3)]
 cases (l.ifs.any fun s=>!okS s) <;> cases (l.outs.any fun x=>!fitB l.ifs.length x) <;> rfl
theorem ite17{c:Prop} [Decidable c] {b:Bool} {z:Int} (h:(if b=true then(0:Int) else 17)=z):(if (if c then false else b)=true then(0:Int) else 17)=if c then 17 else z:=by
 subst h;by_cases hc:c <;> simp [hc]
theorem lawE_prog(l:LawD):lawE l=if nameB l.name=false then 17 else if chkP l.left≠0 then 17 else if chkP l.right≠0 then 17 else if 4<l.ifs.length then 17 else if 6<l.outs.length then 17 else if l.ifs.length+l.outs.length=0 then 17 else
  if l.mode<1\/3<l.mode then 17 else if (l.ifs.any fun s=>!okS s)=true then 17 else if (l.outs.any fun x=>!fitB l.ifs.length x)=true then 17 else 0:=by
 unfold lawE;rw [law_prog]
 exact ite17 (ite17 (ite17 (ite17 (ite17 (ite17 (ite17 (ite17 (ite17 rfl))))))))
theorem lcheck_any{w:World}{l:LawD}{cs:List Value}(hl:LawAt w l cs)(hT:Tab w) :
  Calls Tryz.prog 127 #[.agg cs.toArray] w fun e w'=>e=.returned (.int .i64 (lawE l))/\Ext w w':=by
 obtain⟨nm,k1,p1,m1,n1,a1,b1,o1,N1,c1,k2,p2,m2,n2,a2,b2,o2,N2,c2,io,N3,ic,oo,N4,oc,md,rfl,HLA,HPL,HPR,HIF,HOU,HNM,HN1,HN2,HN3,HN4,HMD,q0,q1,q2,q3,q4⟩:=law_gen hl
 have hs:=string_list nm
 have hns:nm.data.toList.length<=9223372036854775807:=by rw [Array.length_toList];exact q0
 have HNA:Hid (∀ V,Ext w V->Calls Tryz.prog 171 #[.string nm] V fun e w'=>e=.returned (.bool (nameB nm))/\Ext V w'):=Lib.hid fun V _=>by
  have:=named_any nm.data.toList hns V
  rw [<-hs] at this
  exact this
 have HPA:Hid (∀ V,Ext w V->Calls Tryz.prog 172 #[.agg #[.int .i64 k1,.int .u32 (p1:Int),.int .u32 (m1:Int),.bool n1,.int .i64 a1,.int .i64 b1,.slice o1 N1 c1]] V fun e w'=>e=.returned (.int .i64 (chkP l.left))/\Ext V w'):=
  Lib.hid fun V hE=>check_any (HPL.out.ext hE) (fun g hg=>Nat.lt_of_lt_of_le hg hE.size) (hT.keep hE id)
 have HPB:Hid (∀ V,Ext w V->Calls Tryz.prog 172 #[.agg #[.int .i64 k2,.int .u32 (p2:Int),.int .u32 (m2:Int),.bool n2,.int .i64 a2,.int .i64 b2,.slice o2 N2 c2]] V fun e w'=>e=.returned (.int .i64 (chkP l.right))/\Ext V w'):=
  Lib.hid fun V hE=>check_any (HPR.out.ext hE) (fun g hg=>Nat.lt_of_lt_of_le hg hE.size) (hT.keep hE id)
 have HCS:Hid (∀ V,Ext w V->Calls Tryz.prog 173 #[.slice io N3 ic,.func (.func 169) #[] #[]] V fun e w'=>e=.returned (.bool (l.ifs.any fun s=>!okS s))/\Ext V w'):=
  Lib.hid fun V hE=>contains_snd (HIF.out.ext hE) HN3.out (by unfold maxLen;omega) _ #[] (enters_of Tryz.func169 (by kernel_rfl) rfl) (fun s=>!okS s) (fun s hs V2 _=>invsnd_any (HIF.out.2 s hs) V2)
 have HCO:Hid (∀(Bk:Nat) V,Ext w V->V.heap[Bk]?=some (.cells #[.int .i64 (N3:Int)] 3 (0,0))->Calls Tryz.prog 174 #[.slice oo N4 oc,.func (.func 167) #[] #[.pointer (some ⟨Bk,0,none⟩)]] V fun e w'=>e=.returned (.bool (l.outs.any fun x=>!fitB N3 x))/\Ext V w'):=
  Lib.hid fun Bk V hE hb=>contains_out (HOU.out.ext hE) HN4.out (by unfold maxLen;omega) _ #[.pointer (some ⟨Bk,0,none⟩)] (enters_of Tryz.func167 (by kernel_rfl) rfl) (fun x=>!fitB N3 x) (fun x hx V2 hE2=>badout_any (HOU.out.2 x hx) q3 (hE2.keep hb))
 have HF:Hid (lawE l=if nameB nm=false then 17 else if chkP l.left≠0 then 17 else if chkP l.right≠0 then 17 else if 4<N3 then 17 else if 6<N4 then 17 else if N3+N4=0 then 17 else if md<1\/3<md then 17 else if (l.ifs.any fun s=>!okS s)=true then 17 else if (l.outs.any fun x=>!fitB N3 x)=true then 17 else 0):=Lib.hid (by
  rw [lawE_prog,HNM.out,HN3.out,HN4.out,HMD.out])
 obtain⟨R,hR⟩:∃ R,lawE l=R:=⟨_,rfl⟩
 rw [hR] at HF ⊢
 obtain⟨nb,hnb⟩:∃ x,nameB nm=x:=⟨_,rfl⟩
 obtain⟨c1',hc1⟩:∃ x,chkP l.left=x:=⟨_,rfl⟩
 obtain⟨c2',hc2⟩:∃ x,chkP l.right=x:=⟨_,rfl⟩
 obtain⟨bs,hbs⟩:∃ x,(l.ifs.any fun s=>!okS s)=x:=⟨_,rfl⟩
 obtain⟨bo,hbo⟩:∃ x,(l.outs.any fun x=>!fitB N3 x)=x:=⟨_,rfl⟩
 rw [hnb] at HNA HF
 rw [hc1] at HPA HF
 rw [hc2] at HPB HF
 rw [hbs] at HCS HF
 rw [hbo] at HCO HF
 clear hl hs hns hT hR hnb hc1 hc2 hbs hbo HLA HPL HPR HIF HOU HNM HN1 HN2 HN3 HN4 HMD
 go_enter Tryz.func127,Tryz.ntmps127
 go_upto_region 1 with (fail)
 obtain⟨w0,hw0⟩:∃ D,w.alloc (.cells #[.string nm,.int .i64 k1,.int .u32 (p1:Int),.int .u32 (m1:Int),.bool n1,.int .i64 a1,.int .i64 b1,.slice o1 N1 c1,.int .i64 k2,.int .u32 (p2:Int),.int .u32 (m2:Int),.bool n2,.int .i64 a2,.int .i64 b2,.slice o2 N2 c2,.slice io N3 ic,.slice oo N4 oc,.int .i64 md] 102)=D:=⟨_,rfl⟩
 have hE0:Ext w w0:=by rw [<-hw0];exact(Turn.refl _ w).alloc _
 have hl0:w0.heap[w.heap.size]?=some (.cells #[.string nm,.int .i64 k1,.int .u32 (p1:Int),.int .u32 (m1:Int),.bool n1,.int .i64 a1,.int .i64 b1,.slice o1 N1 c1,.int .i64 k2,.int .u32 (p2:Int),.int .u32 (m2:Int),.bool n2,.int .i64 a2,.int .i64 b2,.slice o2 N2 c2,.slice io N3 ic,.slice oo N4 oc,.int .i64 md] 102 (0,0)):=by rw [<-hw0];exact new_at rfl
 have hs0:w0.heap.size=w.heap.size+1:=by rw [<-hw0];simp
 rw [hw0]
 obtain⟨B,hB⟩:∃ b,w.heap.size=b:=⟨_,rfl⟩
 rw [hB] at hl0 hs0 ⊢
 have cX:=cell_of_row _ _ 15 _ _ _ hl0
 have HS0:=Lib.hid hs0;have HL0:=Lib.hid hl0
 clear hw0 hB hs0 hl0
 go_upto_region 4 with (fail)
 rw [HS0.out]
 obtain⟨w1,hw1⟩:∃ D,w0.alloc (.cells #[.int .i64 (N3:Int)] 3)=D:=⟨_,rfl⟩
 have hE1:Ext w w1:=by rw [<-hw1];exact hE0.alloc _
 have hk1:w1.heap[B+1]?=some (.cells #[.int .i64 (N3:Int)] 3 (0,0)):=by rw [<-hw1];exact new_at HS0.out.symm
 have hl1:w1.heap[B]?=some (.cells #[.string nm,.int .i64 k1,.int .u32 (p1:Int),.int .u32 (m1:Int),.bool n1,.int .i64 a1,.int .i64 b1,.slice o1 N1 c1,.int .i64 k2,.int .u32 (p2:Int),.int .u32 (m2:Int),.bool n2,.int .i64 a2,.int .i64 b2,.slice o2 N2 c2,.slice io N3 ic,.slice oo N4 oc,.int .i64 md] 102 (0,0)):=by rw [<-hw1];exact new_keep HL0.out
 rw [hw1]
 have HL1:=Lib.hid hl1;have HK1:=Lib.hid hk1
 clear hw1 hk1 hl1 cX HL0 HS0 hE0
 have cX:=fun j=>cell_of_row _ _ j _ _ _ HL1.out
 have cK:=cell_of_one HK1.out
 go_wp2_with fail
 refine(HNA.out w1 hE1).mono ?_
 rintro e w2 ⟨rfl,hN⟩
 have hE2:=hE1.trans hN
 have HL2:=Lib.hid (hN.keep HL1.out);have HK2:=Lib.hid (hN.keep HK1.out)
 have cX:=fun j=>cell_of_row _ _ j _ _ _ HL2.out
 have cK:=cell_of_one HK2.out
 clear hN HL1 HK1 hE1 HNA
 cases nb
 ·have HR:Hid (R=17):=Lib.hid (by rw [HF.out];rfl)
  clear HF
  go_wp2
  go_ret
  exact⟨by rw [HR.out];rfl,hE2⟩
 go_wp2_with fail
 refine(HPA.out w2 hE2).mono ?_
 rintro e w3 ⟨rfl,hN⟩
 have hE3:=hE2.trans hN
 have HL3:=Lib.hid (hN.keep HL2.out);have HK3:=Lib.hid (hN.keep HK2.out)
 have cX:=fun j=>cell_of_row _ _ j _ _ _ HL3.out
 have cK:=cell_of_one HK3.out
 clear hN HL2 HK2 hE2 HPA
 by_cases hz1:c1'=0
 case neg=>
  have hz2:(c1' != 0)=true:=by rw [bne_iff_ne];exact hz1
  have HR:Hid (R=17):=Lib.hid (by rw [HF.out,if_neg (by decide),if_pos hz1])
  clear HF
  go_wp2
  go_ret
  exact⟨by rw [HR.out];rfl,hE3⟩
 subst hz1
 go_wp2_with fail
 refine(HPB.out w3 hE3).mono ?_
 rintro e w4 ⟨rfl,hN⟩
 have hE4:=hE3.trans hN
 have HL4:=Lib.hid (hN.keep HL3.out);have HK4:=Lib.hid (hN.keep HK3.out)
 have cX:=fun j=>cell_of_row _ _ j _ _ _ HL4.out
 have cK:=cell_of_one HK4.out
 clear hN HL3 HK3 hE3 HPB
 by_cases hz1:c2'=0
 case neg=>
  have hz2:(c2' != 0)=true:=by rw [bne_iff_ne];exact hz1
  have HR:Hid (R=17):=Lib.hid (by rw [HF.out,if_neg (by decide),if_neg (by decide),if_pos hz1])
  clear HF
  go_wp2
  go_ret
  exact⟨by rw [HR.out];rfl,hE4⟩
 subst hz1
 have HF2:Hid (R=if 4<N3 then 17 else if 6<N4 then 17 else if N3+N4=0 then 17 else if md<1\/3<md then 17 else if bs=true then 17 else if bo=true then 17 else 0):=Lib.hid (by rw [HF.out];rfl)
 clear HF
 by_cases h3:4<N3
 ·have h31:(4:Int)<(N3:Int):=by omega
  have HR:Hid (R=17):=Lib.hid (by rw [HF2.out,if_pos h3])
  clear HF2
  go_wp2
  go_ret
  exact⟨by rw [HR.out];rfl,hE4⟩
 by_cases h4:6<N4
 ·have h31:¬ (4:Int)<(N3:Int):=by omega
  have h41:(6:Int)<(N4:Int):=by omega
  have HR:Hid (R=17):=Lib.hid (by rw [HF2.out,if_neg h3,if_pos h4])
  clear HF2
  go_wp2
  go_ret
  exact⟨by rw [HR.out];rfl,hE4⟩
 have h31:¬ (4:Int)<(N3:Int):=by omega
 have h41:¬ (6:Int)<(N4:Int):=by omega
 by_cases h5:N3+N4=0
 ·have h51:((N3:Int)+(N4:Int) == 0)=true:=by rw [beq_iff_eq];omega
  have HR:Hid (R=17):=Lib.hid (by rw [HF2.out,if_neg h3,if_neg h4,if_pos h5])
  clear HF2 h5
  go_wp2
  go_ret
  exact⟨by rw [HR.out];rfl,hE4⟩
 have h51:((N3:Int)+(N4:Int) == 0)=false:=by rw [beq_eq_false_iff_ne];omega
 by_cases h6:md<1
 ·have HR:Hid (R=17):=Lib.hid (by rw [HF2.out,if_neg h3,if_neg h4,if_neg h5,if_pos (.inl h6)])
  clear HF2 h5
  go_wp2
  go_ret
  exact⟨by rw [HR.out];rfl,hE4⟩
 by_cases h7:3<md
 ·have HR:Hid (R=17):=Lib.hid (by rw [HF2.out,if_neg h3,if_neg h4,if_neg h5,if_pos (.inr h7)])
  clear HF2 h5
  go_wp2
  go_ret
  exact⟨by rw [HR.out];rfl,hE4⟩
 have HF3:Hid (R=if bs=true then 17 else if bo=true then 17 else 0):=Lib.hid (by rw [HF2.out,if_neg h3,if_neg h4,if_neg h5,if_neg (fun q=>q.elim h6 h7)])
 clear HF2 h5
 go_wp2_with fail
 refine(HCS.out w4 hE4).mono ?_
 rintro e w5 ⟨rfl,hN⟩
 have hE5:=hE4.trans hN
 have HL5:=Lib.hid (hN.keep HL4.out);have HK5:=Lib.hid (hN.keep HK4.out)
 have cX:=fun j=>cell_of_row _ _ j _ _ _ HL5.out
 have cK:=cell_of_one HK5.out
 clear hN HL4 HK4 hE4 HCS
 cases bs
 case true=>
  have HR:Hid (R=17):=Lib.hid (by rw [HF3.out];rfl)
  clear HF3
  go_wp2
  go_ret
  exact⟨by rw [HR.out];rfl,hE5⟩
 go_wp2_with fail
 refine(HCO.out _ w5 hE5 HK5.out).mono ?_
 rintro e w6 ⟨rfl,hN⟩
 have hE6:=hE5.trans hN
 clear hN HL5 HK5 hE5 HCO cX cK
 cases bo
 ·have HR:Hid (R=0):=Lib.hid (by rw [HF3.out];rfl)
  clear HF3
  go_wp2
  go_ret
  exact⟨by rw [HR.out];rfl,hE6⟩
 ·have HR:Hid (R=17):=Lib.hid (by rw [HF3.out];rfl)
  clear HF3
  go_wp2
  go_ret
  exact⟨by rw [HR.out];rfl,hE6⟩
theorem lwcheck_any{w:World}{l:LawD}{cs:List Value}{v:Value}{ws:Wd}(hl:LawAt w l cs)(hv:WordAt w v ws)(hT:Tab w) :
  Calls Tryz.prog 200 #[.agg cs.toArray,v] w fun e w'=>e=.returned (.int .i64 (lawW l ws))/\Ext w w':=by
 obtain⟨vo,vc,rfl,_⟩:=hv.slice
 obtain⟨vn,hvn⟩:∃ n,ws.length=n:=⟨_,rfl⟩
 rw [hvn] at hv ⊢
 have hw:=fun(V:World) (hE:Ext w V)=>wcheck_any (hv.ext hE)
 have hlc:=fun(V:World) (hE:Ext w V)=>lcheck_any (hl.ext hE) (hT.keep hE id)
 obtain⟨nm,k1,p1,m1,n1,a1,b1,o1,N1,c1,k2,p2,m2,n2,a2,b2,o2,N2,c2,io,N3,ic,oo,N4,oc,md,rfl,HLA,HPL,HPR,HIF,HOU,HNM,HN1,HN2,HN3,HN4,HMD,q0,q1,q2,q3,q4⟩:=law_gen hl
 have HF:Hid (lawW l ws=if lawE l=0 then wE ws else lawE l):=Lib.hid (by unfold lawW lawE;cases lawB l <;> rfl)
 obtain⟨R,hR⟩:∃ R,lawW l ws=R:=⟨_,rfl⟩
 obtain⟨e1,he1⟩:∃ R,lawE l=R:=⟨_,rfl⟩
 obtain⟨e2,he2⟩:∃ R,wE ws=R:=⟨_,rfl⟩
 rw [hR,he1,he2] at HF
 rw [he1] at hlc
 rw [he2] at hw
 rw [hR]
 have HW:=Lib.hid hw;have HLC:=Lib.hid hlc
 clear hvn hR he1 he2 hw hlc hv hl hT HLA HPL HPR HIF HOU HNM HN1 HN2 HN3 HN4 HMD
 have hE0:Ext w (w.alloc (.cells #[.string nm,.int .i64 k1,.int .u32 (p1:Int),.int .u32 (m1:Int),.bool n1,.int .i64 a1,.int .i64 b1,.slice o1 N1 c1,.int .i64 k2,.int .u32 (p2:Int),.int .u32 (m2:Int),.bool n2,.int .i64 a2,.int .i64 b2,.slice o2 N2 c2,.slice io N3 ic,.slice oo N4 oc,.int .i64 md] 102)):=(Turn.refl _ w).alloc _
 go_enter Tryz.func200,Tryz.ntmps200
 go_wp2_with (refine wpList_load_row rfl 102 (.tmp 2) rfl w.heap.size rfl _ _ _ _ (new_at rfl) Tryz.underlying102 rfl Tryz.lawInfo ?_)
 refine(HLC.out _ hE0).mono ?_
 rintro e w1 ⟨rfl,hN⟩
 have hE1:=hE0.trans hN
 clear hN hE0
 by_cases hz1:e1=0
 case neg=>
  have hz2:(e1 != 0)=true:=by rw [bne_iff_ne];exact hz1
  have HR:Hid (R=e1):=Lib.hid (by rw [HF.out,if_neg hz1])
  clear HF
  go_wp2
  go_ret
  exact⟨by rw [HR.out];rfl,hE1⟩
 subst hz1
 have HR:Hid (R=e2):=Lib.hid (by rw [HF.out,if_pos rfl])
 go_wp2_with fail
 refine(HW.out _ hE1).mono ?_
 rintro e w2 ⟨rfl,hN⟩
 go_wp2
 go_ret
 exact⟨by rw [HR.out];rfl,hE1.trans hN⟩
end Go.Proofs.YtfdlhlghcbeblaaGreatDoor
set_option maxRecDepth 100000
set_option maxHeartbeats 8000000
namespace Go.Proofs.YtfdlhlghcbeblaaGreatDoor
open Go.RowKit Go.Ab
attribute [local go_sem] Oper.semAt_some wide_fn wide_depth
abbrev natE:Nat->(Nat->Prop)->Nat->World->Array Value->Prop:=fun _ _ x _ ys=>ys=#[.int .i64 (x:Int)]
def hitsV(l:LawD)(ws:Wd):List Nat:=if lawW l ws=0 then hitsL l ws else []
theorem wE_le{ws:Wd}(h:wE ws=0):ws.length<=32:=by
 apply Nat.le_of_not_lt;intro h2
 unfold wE at h;rw [if_pos h2] at h;cases h
theorem lawW_zero{l:LawD}{ws:Wd}(h:lawW l ws=0):lawB l=true/\wE ws=0:=by
 unfold lawW at h
 split at h
 ·rename_i h1;exact⟨h1,h⟩
 ·cases h
end Go.Proofs.YtfdlhlghcbeblaaGreatDoor
namespace Go.Proofs.YtfdlhlghcbeblaaGreatDoor
open Go.RowKit Go.Ab
theorem run_iter{w:World}{BW BL Bk Bm:Nat}{l:LawD}{cs:List Value}{vo:Option Addr}{vc:Nat}{ws:Wd}{K:Nat->Prop}(hlaw:lawB l=true)(hwl:ws.length<=32)(hcap:ws.length<=vc)(hkv:KeptIn K (.slice vo ws.length vc))
  (hKw:∀ b,K b->b<w.heap.size) (hst:∀ W,Turn (fun b=>¬ K b) w W->RunSt W BW BL Bk Bm l cs vo vc ws) :
  ∃ m,IterO Tryz.prog 225 #[.pointer (some ⟨BW,0,none⟩),.pointer (some ⟨BL,0,none⟩),.pointer (some ⟨Bk,0,none⟩),.pointer (some ⟨Bm,0,none⟩)] (RunM m) (RunE m) (traceL l ws) K w:=by
 obtain⟨_,_,_,⟨h1,h3⟩,_⟩:=lawB_parts hlaw
 by_cases e1:l.mode=1
 ·exact⟨9,run_all hlaw e1 hwl hcap hkv hKw hst⟩
 by_cases e2:l.mode=2
 ·exact⟨2,run_right hlaw e2 hwl hcap hkv hKw hst⟩
 ·exact⟨2,run_left hlaw (by omega) hwl hcap hkv hKw hst⟩
section
variable {α:Type} {H:List α->Nat->Bool} {P:List α->List α} {k m:Nat}
theorem allT_count(w:List α):∀(n i:Nat) (d:List α),(allT H P k w n i d).length<=n
 | 0,_,_=>by simp [allT]
 | n+1,i,d=>by
  unfold allT
  split
  ·rw [List.length_cons];split
   ·have:=allT_count w n (i+1) (d++P ((w.drop i).take k)++(w.drop i).take 1);omega
   ·have:=allT_count w n (i+k) (d++P ((w.drop i).take k));omega
  ·have:=allT_count w n (i+1) (d++(w.drop i).take 1);omega
theorem rightT_count:∀(n:Nat) (w:List α) (i:Nat),(rightT H P k m n w i).length<=n
 | 0,_,_=>by simp [rightT]
 | n+1,w,i=>by
  unfold rightT
  split
  ·simp
  ·split
   ·rw [List.length_cons]
    have:=rightT_count n (repl P k w i) (i+m+(if k=0 then 1 else 0));omega
   ·have:=rightT_count n w (i+1);omega
theorem leftT_count:∀(n:Nat) (w:List α) (i:Nat),(leftT H P k n w i).length<=n
 | 0,_,_=>by simp [leftT]
 | n+1,_,0=>by simp [leftT]
 | n+1,w,i+1=>by
  unfold leftT
  split
  ·rw [List.length_cons]
   have:=leftT_count n (repl P k w i) (i+1 - max k 1);omega
  ·have:=leftT_count n w i;omega
end
theorem traceL_count(l:LawD)(ws:Wd):(traceL l ws).length<=ws.length+1:=by
 unfold traceL
 split
 ·exact allT_count _ _ _ _
 ·split
  ·exact rightT_count _ _ _
  ·exact leftT_count _ _ _
def OneW(w:World)(v:Value)(u:Wd):Prop:=∃ ao c,v=.slice ao u.length c/\WordAt w (.slice ao u.length c) u/\u.length<=c
def WordsAt(w:World):List Value->List Wd->Prop
 | [],[]=>True
 | v::vs,u::us=>OneW w v u/\WordsAt w vs us
 | _,_=>False
theorem OneW.ext{A B:World}{v:Value}{u:Wd}(h:OneW A v u)(ht:Ext A B):OneW B v u:=by
 obtain⟨ao,c,h1,h2,h3⟩:=h
 exact⟨ao,c,h1,h2.ext ht,h3⟩
theorem WordsAt.ext{A B:World}:∀ {vs:List Value} {us:List Wd},WordsAt A vs us->Ext A B->WordsAt B vs us
 | [],[],_,_=>trivial
 | _::_,_::_,⟨h1,h2⟩,ht=>⟨h1.ext ht,h2.ext ht⟩
theorem WordsAt.snoc{w:World}{v:Value}{u:Wd}:∀ {vs:List Value} {us:List Wd},WordsAt w vs us->OneW w v u->WordsAt w (vs++[v]) (us++[u])
 | [],[],_,h=>⟨h,trivial⟩
 | _::_,_::_,⟨h1,h2⟩,h=>⟨h1,h2.snoc h⟩
theorem WordsAt.length{w:World}:∀ {vs:List Value} {us:List Wd},WordsAt w vs us->vs.length=us.length
 | [],[],_=>rfl
 | _::_,_::_,⟨_,h2⟩=>by simp [h2.length]
theorem WordsAt.get{w:World}:∀ {vs:List Value} {us:List Wd},WordsAt w vs us->∀ i,i<us.length->OneW w (vs.getD i undef) (us.getD i [])
 | [],[],_,i,h=>by simp at h
 | _::_,_::_,⟨h1,_⟩,0,_=>h1
 | _::_,_::_,⟨_,h2⟩,i+1,h=>h2.get i (by simpa using h)
end Go.Proofs.YtfdlhlghcbeblaaGreatDoor
namespace Go.Proofs.YtfdlhlghcbeblaaGreatDoor
open Go.RowKit Go.Ab
def StrAt{α:Type}(sz:Nat)(ok:World->α->List Value->Prop)(w:World)(v:Value)(ps:List (α × List Value)):Prop:=
 Rd w v ps.length sz (ps.flatMap (·.2))/\∀ p∈ps,p.2.length=sz/\ok w p.1 p.2
theorem StrAt.ext{α:Type}{sz:Nat}{ok:World->α->List Value->Prop}(hok:∀ A B x cs,ok A x cs->Ext A B->ok B x cs){A B:World}{v:Value}{ps:List (α × List Value)} (h:StrAt sz ok A v ps) (ht:Ext A B):StrAt sz ok B v ps:=
 ⟨h.1.ext ht,fun p hp=>⟨(h.2 p hp).1,hok _ _ _ _ (h.2 p hp).2 ht⟩⟩
theorem rows_flat{α:Type}{sz:Nat}{ps:List (α × List Value)} (h:∀ p∈ps,p.2.length=sz) {i j:Nat} (hi:i<ps.length) (hj:j<sz):(ps.flatMap (·.2))[i*sz+j]?=ps[i].2[j]?:=by
 induction ps generalizing i with
 | nil=>cases hi
 | cons p ps ih=>
  have hp:=h p (by simp)
  rw [List.flatMap_cons]
  cases i with
  | zero=>rw [Nat.zero_mul,Nat.zero_add,List.getElem?_append_left (by omega)];rfl
  | succ i=>
   rw [Nat.add_mul,Nat.one_mul,List.getElem?_append_right (by omega),hp,show i*sz+sz+j - sz=i*sz+j by omega]
   exact ih (fun p hp=>h p (by simp [hp])) (by simpa using hi)
theorem StrAt.at{α:Type}{sz:Nat}{ok:World->α->List Value->Prop}{w:World}{v:Value}{ps:List (α × List Value)} (h:StrAt sz ok w v ps) {i:Nat} (hi:i<ps.length) :
  ∃ g off cap,(0<sz->v=.slice (some ⟨g,off,none⟩) ps.length cap/\g<w.heap.size)/\w.rangeAt g (off+i*sz) ps[i].2/\ok w ps[i].1 ps[i].2/\ps[i].2.length=sz:=by
 obtain⟨⟨h1,h2,ao,cap,hv,h3⟩,h4⟩:=h
 obtain⟨g,off,ha,hg,hc⟩:=h3 (by omega)
 subst ha
 obtain⟨hs,hk⟩:=h4 _ (List.getElem_mem hi)
 refine⟨g,off,cap,fun _=>⟨hv,hg⟩,fun j u hu=>?_,hk,hs⟩
 have hj:j<sz:=by
  apply Nat.lt_of_not_le;intro hle
  rw [List.getElem?_eq_none (by omega)] at hu;cases hu
 have hlt:i*sz+j<ps.length*sz:=by
  have:=Nat.mul_le_mul_right sz (show i+1<=ps.length by omega)
  rw [Nat.add_mul,Nat.one_mul] at this
  omega
 have:=hc (i*sz+j) hlt
 rw [Nat.add_assoc,this,List.getD_eq_getElem?_getD,rows_flat (fun p hp=>(h4 p hp).1) hi hj,hu]
 rfl
def PairOk(w:World)(p:Wd × Wd)(cs:List Value):Prop:=∃ u v,cs=[u,v]/\OneW w u p.1/\OneW w v p.2
theorem PairOk.ext{A B:World}{p:Wd × Wd}{cs:List Value}(h:PairOk A p cs)(ht:Ext A B):PairOk B p cs:=by
 obtain⟨u,v,h1,h2,h3⟩:=h
 exact⟨u,v,h1,h2.ext ht,h3.ext ht⟩
abbrev PairsAt:=StrAt 2 PairOk
def StateOk(w:World)(s:Option Wd)(cs:List Value):Prop:=∃ ao n c,cs=[.slice ao n c,.bool s.isNone]/\∀ u,s=some u->OneW w (.slice ao n c) u
theorem StateOk.ext{A B:World}{s:Option Wd}{cs:List Value}(h:StateOk A s cs)(ht:Ext A B):StateOk B s cs:=by
 obtain⟨ao,n,c,h1,h2⟩:=h
 exact⟨ao,n,c,h1,fun u hu=>(h2 u hu).ext ht⟩
abbrev StatesAt:=StrAt 2 StateOk
theorem pairs_ext{A B:World}{v:Value}{qs:List ((Wd × Wd) × List Value)} (h:PairsAt A v qs) (ht:Ext A B):PairsAt B v qs:=StrAt.ext (ok:=PairOk) (fun _ _ _ _ h ht=>PairOk.ext h ht) h ht
theorem states_ext{A B:World}{v:Value}{qs:List (Option Wd × List Value)} (h:StatesAt A v qs) (ht:Ext A B):StatesAt B v qs:=StrAt.ext (ok:=StateOk) (fun _ _ _ _ h ht=>StateOk.ext h ht) h ht
end Go.Proofs.YtfdlhlghcbeblaaGreatDoor
namespace Go.Proofs.YtfdlhlghcbeblaaGreatDoor
open Go.RowKit Go.Ab
theorem trE_cases{l:LawD}{ws:Wd}(h:lawW l ws=0):trE l ws=0\/trE l ws=11:=by
 unfold trE;rw [if_pos h];split
 ·exact .inr rfl
 ·exact .inl rfl
theorem trE_bad{l:LawD}{ws:Wd}(h:lawW l ws≠0):trE l ws≠0:=by
 unfold trE;rw [if_neg h];exact h
theorem trE_law{l:LawD}{ws:Wd}(h:trE l ws=0):lawW l ws=0:=by
 apply Decidable.byContradiction
 intro h2;exact trE_bad h2 h
theorem trE_short{l:LawD}{ws:Wd}(h:trE l ws=0):longT (traceL l ws)=false:=by
 have h2:=trE_law h
 unfold trE at h
 rw [if_pos h2] at h
 cases hl:longT (traceL l ws) with
 | false=>rfl
 | true=>rw [hl,if_pos rfl] at h;cases h
theorem longT_get{t:List (Nat × Wd)} (h:longT t=false) {x:Nat × Wd} (hx:x∈t):x.2.length<=32:=by
 unfold longT at h
 rw [List.any_eq_false] at h
 have:=h x hx
 simpa using this
end Go.Proofs.YtfdlhlghcbeblaaGreatDoor
