/- MergersTurns: -/
import Derived.Test.YtejenndedjabhaaGreatDoorU10
import Derived.Shelf.Sort.Plain
import Derived.Shelf.Slices.In.SortNone
import Derived.Sort.OwnSortedInts
set_option maxRecDepth 100000
set_option maxHeartbeats 4000000
namespace Go.Proofs.YtejenndedjabhaaGreatDoor
open Go.RowKit Go.Ab
def Y4(sh:List Int)(n:Nat):Prop:=sh.length=n/\sh.Nodup/\∀ x∈sh,0<=x/\x<(n:Int)
theorem Y4.ok{sh:List Int}{n:Nat}(h:Y4 sh n)(hn:n<=64):Zp sh:=⟨by rw [h.1];exact hn,fun k hk=>by have:=h.2.2 k hk;rw [h.1];omega⟩
theorem Y4.get{sh:List Int}{n i:Nat}(h:Y4 sh n)(b:i<n):0<=sh.getD i (-1)/\sh.getD i (-1)<(n:Int):=by
 have a:i<sh.length:=by rw [h.1];exact b
 rw [List.getD_eq_getElem?_getD,List.getElem?_eq_getElem a];exact h.2.2 _ (List.getElem_mem a)
theorem Y4.sur{sh:List Int}{n j:Nat}(h:Y4 sh n)(e:j<n):∃ p,p<n/\sh.getD p (-1)=(j:Int):=by
 have d:(j:Int)∈sh:=by
  refine Classical.byContradiction fun hno=>?_
  have:=Vw n ((j:Int)::sh) (List.nodup_cons.2 ⟨hno,h.2.1⟩) (fun x a=>by
   rcases List.mem_cons.1 a with rfl | a
   ·omega
   ·exact h.2.2 x a)
  rw [List.length_cons,h.1] at this;omega
 obtain⟨p,b,c⟩:=List.getElem_of_mem d;refine⟨p,by rw [<-h.1];exact b,?_⟩;rw [List.getD_eq_getElem?_getD,List.getElem?_eq_getElem b];exact c
theorem Y4.to{sh:List Int}{n j:Nat}(h:Y4 sh n)(c:j<n)(b:Xv sh j=true):toB sh j=true:=by
 obtain⟨e,d,a⟩:=h.sur c;refine Lx.2 ⟨e,by rw [h.1];exact d,fun e2=>?_,by rw [Uf];exact a⟩;subst e2;have:=(W5.1 b).2;rw [Uf] at this;exact this a
theorem Y4.chains{sh:List Int}{n:Nat}(h:Y4 sh n):Gx sh=[]:=by
 rw [Q4s,hdC,List.filter_eq_nil_iff.2,List.map_nil];intro c b a;rw [List.mem_range,h.1] at b;unfold U5 at a;rw [Bool.and_eq_true] at a;rw [h.to b a.1] at a;exact absurd a.2 zd
theorem Y4.start(n:Nat):Y4 ((List.range n).map fun(i:Nat)=>(i:Int)) n:=by
 refine⟨by simp,List.pairwise_map.2 (List.Pairwise.imp (fun {a b} (hab:a<b) e=>by omega) List.pairwise_lt_range),fun x hx=>?_⟩;obtain⟨i,c,rfl⟩:=List.mem_map.1 hx;rw [List.mem_range] at c;omega
def swI(sh:List Int)(i k:Nat):List Int:=(sh.set i (sh.getD k (-1))).set k (sh.getD i (-1))
theorem Q8g{sh:List Int}{i k:Nat}(j:Nat)(f:i<sh.length)(g:k<sh.length):(swI sh i k).getD j (-1)=sh.getD (if j=k then i else if j=i then k else j) (-1):=by
 unfold swI;rw [List.getD_eq_getElem?_getD,List.getElem?_set];by_cases a:k=j
 ·subst a;rw [if_pos rfl,if_pos (by rw [List.length_set];exact g),if_pos rfl];rfl
 ·have c:¬ j=k:=fun e=>a e.symm;rw [if_neg a,if_neg c,List.getElem?_set];by_cases b:i=j
  ·subst b;rw [if_pos rfl,if_pos f,if_pos rfl];rfl
  ·have d:¬ j=i:=fun e=>b e.symm;rw [if_neg b,if_neg d,List.getD_eq_getElem?_getD]
theorem Pf(sh:List Int)(i k:Nat):(swI sh i k).length=sh.length:=by simp [swI]
theorem Y4.swap{sh:List Int}{n i k:Nat}(h:Y4 sh n)(m:i<n)(o:k<n):Y4 (swI sh i k) n:=by
 have s:i<sh.length:=by rw [h.1];exact m
 have u:k<sh.length:=by rw [h.1];exact o
 have j:∀ c (d:c<(swI sh i k).length),(swI sh i k)[c]=sh.getD (if c=k then i else if c=i then k else c) (-1):=fun c d=>by
  rw [<-Q8g c s u,List.getD_eq_getElem?_getD,List.getElem?_eq_getElem d];rfl
 have l:∀ c,c<n->(if c=k then i else if c=i then k else c)<n:=fun c d=>by split;exact m;split;exact o;exact d
 have t:∀ a b,a<n->b<n->sh.getD a (-1)=sh.getD b (-1)->a=b:=fun a b ha hb e=>by
  have f:a<sh.length:=by rw [h.1];exact ha
  have g:b<sh.length:=by rw [h.1];exact hb
  rw [List.getD_eq_getElem?_getD,List.getD_eq_getElem?_getD,List.getElem?_eq_getElem f,List.getElem?_eq_getElem g,Option.getD_some,Option.getD_some] at e;have p:=List.pairwise_iff_getElem.1 h.2.1;by_cases q:a<b
  ·exact absurd e (p a b f g q)
  ·by_cases r:b<a
   ·exact absurd e.symm (p b a g f r)
   ·omega
 refine⟨by rw [Pf];exact h.1,List.pairwise_iff_getElem.2 fun a b ha hb hab e=>?_,fun x hx=>?_⟩
 ·rw [j a ha,j b hb] at e;rw [Pf,h.1] at ha hb;have:=t _ _ (l a ha) (l b hb) e
  split at this <;> split at this <;> (try split at this) <;> (try split at this) <;> omega
 ·obtain⟨c,d,rfl⟩:=List.getElem_of_mem hx;rw [j c d];rw [Pf,h.1] at d;exact h.get (l c d)
def X8(sh:List Int)(k:Nat):List Int:=((List.range k).filter fun i=>decide (sh.getD i (-1)≠(i:Int))).map fun(i:Nat)=>(i:Int)
theorem Q3y{sh:List Int}{k:Nat}(h:sh.getD k (-1)≠(k:Int)):X8 sh (k+1)=X8 sh k++[(k:Int)]:=by
 unfold X8;rw [List.range_succ,List.filter_append,List.map_append];have:[k].filter (fun i=>decide (sh.getD i (-1)≠(i:Int)))=[k]:=by simp only [List.filter_cons,decide_eq_true h,if_true,List.filter_nil]
 rw [this];rfl
theorem Q6x{sh:List Int}{k:Nat}(h:sh.getD k (-1)=(k:Int)):X8 sh (k+1)=X8 sh k:=by
 unfold X8;rw [List.range_succ,List.filter_append,List.map_append];have:[k].filter (fun i=>decide (sh.getD i (-1)≠(i:Int)))=[]:=by simp only [List.filter_cons,decide_eq_false (show ¬ (sh.getD k (-1)≠(k:Int)) from fun hn=>hn h),Bool.false_eq_true,if_false,List.filter_nil]
 rw [this,List.map_nil,List.append_nil]
theorem Rv(sh:List Int)(k:Nat):(X8 sh k).length<=k:=by
 unfold X8;rw [List.length_map];exact Nat.le_trans (List.length_filter_le _ _) (by rw [List.length_range];exact Nat.le_refl _)
theorem Q6o(sh:List Int)(k:Nat):(X8 sh k).Pairwise (· < ·):=by
 unfold X8;refine List.pairwise_map.2 (List.Pairwise.imp (fun {a b} (h:a<b)=>by omega) (List.Pairwise.filter _ List.pairwise_lt_range))
theorem Rp{sh:List Int}{k:Nat}{x:Int}:x∈X8 sh k↔∃ i:Nat,x=(i:Int)/\i<k/\sh.getD i (-1)≠(i:Int):=by
 unfold X8;rw [List.mem_map];constructor
 ·rintro⟨i,a,rfl⟩;rw [List.mem_filter,List.mem_range,decide_eq_true_iff] at a;exact⟨i,rfl,a⟩
 ·rintro⟨i,rfl,b,c⟩;exact⟨i,List.mem_filter.2 ⟨List.mem_range.2 b,decide_eq_true c⟩,rfl⟩
theorem L6{sh:List Int}{n:Nat}(h:Y4 sh n)(w:n<=64)(x:Int):x∈(Yk sh).flatten↔x∈X8 sh n:=by
 have o:=h.ok w;rw [Rp,List.mem_flatten];constructor
 ·rintro⟨C,q,s⟩;rw [Wc] at q;obtain⟨p,u,rfl⟩:=List.mem_map.1 q;obtain⟨l,v⟩:=List.mem_filter.1 u;rw [List.mem_range] at l;obtain⟨D,c⟩:=Vc o l s;obtain⟨a,rfl⟩:∃ a:Nat,x=(a:Int):=⟨x.toNat,by omega⟩;have b:a<n:=by have:=h.1;omega
  refine⟨a,rfl,b,fun e=>?_⟩;rcases Q73 o l (Q41 v) s with j | A
  ·have:=(W5.1 j).2;rw [Uf] at this;exact this e
  ·obtain⟨g,z,E,f⟩:=Lx.1 A;rw [Uf] at f
   -- two images that are equal
   have m:g<sh.length:=z;have k:a<sh.length:=by rw [h.1];exact b
   rw [List.getD_eq_getElem?_getD,List.getElem?_eq_getElem m,Option.getD_some] at f;rw [List.getD_eq_getElem?_getD,List.getElem?_eq_getElem k,Option.getD_some] at e;have r:=List.pairwise_iff_getElem.1 h.2.1;by_cases B:g<a
   ·exact r g a m k B (f.trans e.symm)
   ·exact r a g k m oz (e.trans f.symm)
 ·rintro⟨a,rfl,b,y⟩;have t:a<sh.length:=by rw [h.1];exact b
  have j:Xv sh a=true:=W5.2 ⟨by rw [Uf];have:=h.get b;omega,by rw [Uf];exact y⟩;rcases Pa o t (.inl j) with ⟨F,c,i,d,_⟩ | ⟨p,c,i,d⟩
  ·rw [h.to (by rw [<-h.1];exact c) i] at d;cases d
  ·refine⟨Qa sh p,?_,d⟩;rw [Wc];exact List.mem_map.2 ⟨p,List.mem_filter.2 ⟨List.mem_range.2 c,i⟩,rfl⟩
theorem M3:∀ {a b:List Int},a.Pairwise (· < ·)->b.Pairwise (· < ·)->(∀ x,x∈a↔x∈b)->a=b
 | [],[],_,_,_=>rfl
 | [],y::b,_,_,h=>by have:=(h y).2 zy;cases this
 | x::a,[],_,_,h=>by have:=(h x).1 zy;cases this
 | x::a,y::b,h1,h2,h=>by
  rw [List.pairwise_cons] at h1 h2;have hxy:x=y:=by
   have hx:=(h x).1 zy;have hy:=(h y).2 zy;rcases List.mem_cons.1 hx with e | hx
   ·exact e
   ·rcases List.mem_cons.1 hy with e | hy
    ·exact e.symm
    ·have q1:=h2.1 x hx;have q2:=h1.1 y hy;omega
  subst hxy;rw [M3 h1.2 h2.2 fun z=>?_];constructor
  ·intro hz;have:=(h z).1 (by simp [hz]);rcases List.mem_cons.1 this with e | h3
   ·have:=h1.1 z hz;omega
   ·exact h3
  ·intro hz;have:=(h z).2 (by simp [hz]);rcases List.mem_cons.1 this with e | h3
   ·have:=h2.1 z hz;omega
   ·exact h3
theorem Q15{sh:List Int}{n:Nat}(h:Y4 sh n)(c:n<=64){S:List Int}(e:S.Pairwise (·<=·)) (d:S.Perm (Yk sh).flatten):S=X8 sh n:=by
 have f:S.Nodup:=d.nodup_iff.2 (L1 (h.ok c));refine M3 ?_ (Q6o sh n) fun x=>(d.mem_iff).trans (L6 h c x)
 refine List.Pairwise.imp (fun {a b} (h:a<=b/\a≠b)=>by omega) (e.and f)
end Go.Proofs.YtejenndedjabhaaGreatDoor
namespace Go.Proofs.YtejenndedjabhaaGreatDoor
open Go.RowKit Go.Ab Go.Shelf
def Q9k:Nat->Nat
 | 125=>105
 | 128=>141
 | 129=>142
 | 189=>59
 | 215=>165
 | 216=>138
 | 257=>104
 | 294=>132
 | 295=>133
 | 296=>134
 | 297=>135
 | 298=>136
 | 299=>137
 | 300=>139
 | 301=>140
 | 328=>160
 | 329=>161
 | 330=>162
 | 331=>163
 | 332=>164
 | 343=>174
 | n=>n
def Q9i:Nat->Nat
 | 0=>0
 | 3=>3
 | 4=>4
 | 5=>5
 | 9=>9
 | 28=>36
 | 46=>132
 | 51=>24
 | 53=>162
 | 131=>101
 | 182=>166
 | 183=>167
 | 218=>187
 | 222=>191
 | 228=>208
 | 229=>209
 | n=>n
def Q9r:Ren:=⟨Q9k,Q9i,fun n=>n⟩
theorem Rn:Lays.n189 Tryz.prog Q9r where
 mixed:=by kernel_rfl
 f125:=by kernel_rfl
 f128:=by kernel_rfl
 f129:=by kernel_rfl
 f189:=by kernel_rfl
 f215:=by kernel_rfl
 f216:=by kernel_rfl
 f257:=by kernel_rfl
 f294:=by kernel_rfl
 f295:=by kernel_rfl
 f296:=by kernel_rfl
 f297:=by kernel_rfl
 f298:=by kernel_rfl
 f299:=by kernel_rfl
 f300:=by kernel_rfl
 f301:=by kernel_rfl
 f328:=by kernel_rfl
 f329:=by kernel_rfl
 f330:=by kernel_rfl
 f331:=by kernel_rfl
 f332:=by kernel_rfl
 f343:=by kernel_rfl
 t0:=by kernel_rfl
 a0:=fun _=>by kernel_rfl
 z0:=fun _=>by kernel_rfl
 v0:=fun _=>by kernel_rfl
 t3:=by kernel_rfl
 a3:=fun _=>by kernel_rfl
 z3:=fun _=>by kernel_rfl
 v3:=fun _=>by kernel_rfl
 t4:=by kernel_rfl
 a4:=fun _=>by kernel_rfl
 z4:=fun _=>by kernel_rfl
 v4:=fun _=>by kernel_rfl
 t5:=by kernel_rfl
 a5:=fun _=>by kernel_rfl
 z5:=fun _=>by kernel_rfl
 v5:=fun _=>by kernel_rfl
 t9:=by kernel_rfl
 a9:=fun _=>by kernel_rfl
 z9:=fun _=>by kernel_rfl
 v9:=fun _=>by kernel_rfl
 t28:=by kernel_rfl
 a28:=fun _=>by kernel_rfl
 z28:=fun _=>by kernel_rfl
 v28:=fun _=>by kernel_rfl
 t46:=by kernel_rfl
 a46:=fun _=>by kernel_rfl
 z46:=fun _=>by kernel_rfl
 v46:=fun _=>by kernel_rfl
 t51:=by kernel_rfl
 a51:=fun _=>by kernel_rfl
 z51:=fun _=>by kernel_rfl
 v51:=fun _=>by kernel_rfl
 t53:=by kernel_rfl
 a53:=fun _=>by kernel_rfl
 z53:=fun _=>by kernel_rfl
 v53:=fun _=>by kernel_rfl
 t131:=by kernel_rfl
 a131:=fun _=>by kernel_rfl
 z131:=fun _=>by kernel_rfl
 v131:=fun _=>by kernel_rfl
 t182:=by kernel_rfl
 a182:=fun _=>by kernel_rfl
 z182:=fun _=>by kernel_rfl
 v182:=fun _=>by kernel_rfl
 t183:=by kernel_rfl
 a183:=fun _=>by kernel_rfl
 z183:=fun _=>by kernel_rfl
 v183:=fun _=>by kernel_rfl
 t218:=by kernel_rfl
 a218:=fun _=>by kernel_rfl
 z218:=fun _=>by kernel_rfl
 v218:=fun _=>by kernel_rfl
 t222:=by kernel_rfl
 a222:=fun _=>by kernel_rfl
 z222:=fun _=>by kernel_rfl
 v222:=fun _=>by kernel_rfl
 t228:=by kernel_rfl
 a228:=fun _=>by kernel_rfl
 z228:=fun _=>by kernel_rfl
 v228:=fun _=>by kernel_rfl
 t229:=by kernel_rfl
 a229:=fun _=>by kernel_rfl
 z229:=fun _=>by kernel_rfl
 v229:=fun _=>by kernel_rfl
theorem Q4q{w:World}{X g n cap:Nat}{l:List Int}(h:w.ownsRow X 3 1 (.slice (some ⟨g,0,none⟩) n cap) n (Qh l)) (q:l.length=n) (z:n<=65536) :
  Calls Tryz.prog 59 #[.slice (some ⟨g,0,none⟩) n cap] w fun e w'=>e=.returned (.tuple #[])/\w'.ownsRow X 3 1 (.slice (some ⟨g,0,none⟩) n cap) n (Qh (l.mergeSort fun x y=>decide (x<=y)))/\Q0 (fun b=>b=g) w w':=by
 subst q;obtain⟨_,j⟩:=h;rcases j with ⟨f,_⟩ | ⟨v,t,u,r,p,a,i,k,m,d⟩
 ·cases f
 cases r;rw [Nat.mul_one] at d;refine(Any.slices_Sort_int Rn g 0 cap l w (holds_of_blockI a d) (Array.getElem?_eq_some_iff.1 a).1 oz).mono ?_;rintro e w' ⟨o,s,os,rfl⟩;have c:=grownBy_sortedI (w:=w) (g:=g) (n:=s) (os:=os) (l.mergeSort fun x y=>decide (x<=y)).toArray;exact⟨o,ownsRow_sortedI (List.length_mergeSort _) p a i k m,⟨c.os,c.tape,c.output,c.size,fun b a hne=>c.block b a (fun e=>hne (Option.some.inj e))⟩⟩
theorem Q1r(w:World)(p:Option Addr)(cap:Nat):Calls Tryz.prog 59 #[.slice p 0 cap] w fun e w'=>e=.returned (.tuple #[])/\w'=w:=Any.slices_Sort_int_none Rn p cap w
end Go.Proofs.YtejenndedjabhaaGreatDoor
namespace Go.Proofs.YtejenndedjabhaaGreatDoor
open Go.RowKit Go.Ab
attribute [local go_sem] Oper.semAt_some Z6 Qn
theorem Q31{w:World}{v:Value}{n sz:Nat}{xs:List Value}(h:Rd w v n sz xs):∃ ao cap,v=.slice ao n cap/\n<=maxLen:=by
 obtain⟨_,a,ao,cap,rfl,_⟩:=h;exact⟨ao,cap,rfl,a⟩
theorem Fg(a b:List Int):Qh (a++b)=Qh a++Qh b:=by simp [Qh]
theorem Q0k(l:List Int):∀ u∈Qh l,u.oneCell'=true:=by
 intro u a;unfold Qh at a;obtain⟨b,_,rfl⟩:=List.mem_map.1 a;rfl
theorem Q36(n:Nat)(s:n<=100000)(w:World) :
  Calls Tryz.prog 103 #[.slice none 0 0,.int .i64 n] w fun e w'=>∃ ao c,e=.returned (.slice ao 0 c)/\w'.ownsRow w.heap.size 3 1 (.slice ao 0 c) 0 []/\Ext w w':=by
 by_cases m:n=0
 ·subst m;go_enter Tryz.func103,Tryz.ntmps103;go_wp2;go_ret;exact⟨_,_,rfl,World.ownsRow_nil _ _ _ _,Q0.refl _ _⟩
 ·obtain⟨r,i,k,p,f⟩:=info_parts (@P7);have b:=Lib.run_append_nil_zeros (P:=Tryz.prog) w 36 3 36 3 r (Value.int .i64 0) .i64 .i64 Tryz.underlying36 Tryz.underlying3 i k n oz oz oz (by rw [f];omega);have o:=grownCap_ge w n 0 3;have j:=grownCap_le_maxLen w n 0 3 (by unfold maxLen;omega);obtain⟨c,g⟩:=zE (grownCap w n 0 3);rw [g] at b o j;obtain⟨a,d⟩:=zE (Builtin.zeroCells (Value.int .i64 0).cells n++Builtin.zeroCells (Value.int .i64 0).cells (c - n));have q:a.size=c*1:=by
   rw [<-d,Array.size_append,size_zeroCells,size_zeroCells];show n*1+(c - n)*1=c*1;omega
  rw [d] at b;have t:(0:Int)<(n:Int):=by omega
  have l:=Zh b;clear b d g i k p f;go_enter Tryz.func103,Tryz.ntmps103
  go_wp2_with (at_builtin;refine Lib.wpList_append_run _ rfl (.tmp 20) (.tmp 21) _ _ rfl (.slice none 0 0) (.int .i64 n) rfl rfl _ _ l.out ?_)
  go_ret;exact⟨_,_,rfl,⟨by simp,.inr ⟨w.heap.size,c,a,rfl,Nat.le_refl _,new_at zy,by omega,j,q,by simp⟩⟩,((Q0.refl _ w).drew).alloc _⟩
def Yo(us:List (List Int)) (k:Nat):List Int:=(us.take k).flatten
theorem Ny{us:List (List Int)} {k:Nat} (h:k<us.length):Yo us (k+1)=Yo us k++us[k]:=by
 unfold Yo;rw [List.take_succ_eq_append_getElem h,List.flatten_append];simp
theorem S5{us:List (List Int)} {k:Nat} (h:us.length<=k):Yo us k=us.flatten:=by unfold Yo;rw [List.take_of_length_le h]
theorem St{us:List (List Int)} (k:Nat):(Yo us k).length<=us.flatten.length:=by
 unfold Yo;conv=>rhs;rw [<-List.take_append_drop k us,List.flatten_append,List.length_append]
 omega
theorem Em{w:World}{ao:Option Addr}{cap:Nat}{vs:List Value}{us:List (List Int)} {F:List Int} (b1:us.flatten=F) (G:Rd w (.slice ao us.length cap) us.length 1 vs) (b7:∀ i (h:i<us.length),Rd w (vs.getD i undef) us[i].length 1 (Qh us[i])) (d1:F.length<=1000) :
  Calls Tryz.prog 58 #[.slice ao us.length cap] w fun e w'=>∃ u,e=.returned u/\w'.ownsRow w.heap.size 3 1 u F.length (Qh F)/\Ext w w':=by
 obtain⟨f,Y⟩:=zE us.length;have c4:f<=maxLen:=by have:=G.2.1;omega
 unfold maxLen at c4;rw [Y] at G ⊢;have o:=Zh Y;clear Y;have a5:=Zh b7;have C:=Zh b1;clear b1
 have b4:Hid (∀ c (b6:c<us.length),∃ l s,ao=some ⟨l,s,none⟩/\l<w.heap.size/\w.cell? ⟨l,s+c,none⟩=some (vs.getD c undef)):=Zh fun c b6=>by
  obtain⟨_,_,a9,b0,d2,c0⟩:=G;cases d2;obtain⟨l,s,c1,c2,c3⟩:=c0 (by have:=o.out;omega);exact⟨l,s,c1,c2,c3 c (by have:=o.out;omega)⟩
 clear G b7;go_enter Tryz.func58,Tryz.ntmps58;go_wp2
 refine wp_loop (fun a p=>∃(c:Nat),c<=f/\a.defers=[]/\(a.tmps.size=36/\a.tmps.getD 0 undef=.slice ao f cap/\a.tmps.getD 3 undef=.int .i64 ((Yo us c).length:Int)/\a.tmps.getD 9 undef=.slice ao f cap/\a.tmps.getD 10 undef=.int .i64 f/\a.tmps.getD 11 undef=.int .i64 c)/\w=p)
  (fun a _=>f - (intOf (a.tmps.getD 11 undef)).toNat) ?_ ?_
 ·exact⟨0,by omega,rfl,⟨rfl,rfl,by simp [Yo],rfl,rfl,rfl⟩,rfl⟩
 rintro⟨a3,_⟩ p ⟨c,b6,a0,⟨z,O,U,W,P,Q⟩,rfl⟩;subst a0;obtain⟨a4,A⟩:=Z8 z;obtain⟨u,rfl⟩:∃ x,x=a4:=⟨_,rfl⟩;have a1:a3=#[u 0,u 1,u 2,u 3,u 4,u 5,u 6,u 7,u 8,u 9,u 10,u 11,u 12,u 13,u 14,u 15,u 16,u 17,u 18,u 19,u 20,u 21,u 22,u 23,u 24,u 25,u 26,u 27,u 28,u 29,u 30,u 31,u 32,u 33,u 34,u 35]:=A;clear A;subst a1;change u 0=_ at O;change u 3=_ at U;change u 9=_ at W;change u 10=_ at P;change u 11=_ at Q;rw [O,U,W,P,Q];clear O U W P Q z;by_cases d0:c<f
 ·have X:(c:Int)<(f:Int):=by omega
  have m:c<us.length:=by rw [o.out];exact d0
  obtain⟨l,s,rfl,c8,y⟩:=b4.out c m;obtain⟨d5,d4,B,a2⟩:=Q31 (a5.out c m);rw [B] at y;have r:=Ny m;have k:=St (us:=us) (c+1);rw [C.out] at k;have n:(Yo us (c+1)).length=(Yo us c).length+us[c].length:=by rw [r,List.length_append]
  rw [n] at k;obtain⟨L,J⟩:=zE ((Yo us c).length);obtain⟨K,I⟩:=zE (us[c].length);rw [J,I] at k;rw [J];rw [I] at y;have d8:¬ ((L:Int)+(K:Int)<0):=by omega
  have b8:Hid ((Yo us (c+1)).length=L+K):=Zh (by rw [n,J,I]);clear r n J I B a2;go_wp2;exact⟨⟨c+1,by omega,by rw [b8.out];simp,by simp⟩,nz⟩
 obtain rfl:c=f:=by omega
 have X:¬ (c:Int)<(c:Int):=by omega
 have q:(Yo us c)=F:=(S5 (by rw [o.out];exact Nat.le_refl _)).trans C.out;rw [q];clear q;obtain⟨N,Z⟩:=zE F.length;rw [Z] at d1 ⊢;have E:=Zh Z;clear Z
 go_wp2_with (go_at_call 103;refine(Q36 N oz _).mono ?_;rintro e d3 ⟨v,t,rfl,g,j⟩)
 refine wp_loop (fun a p=>∃(d:Nat) (v:Option Addr) (t:Nat),d<=c/\a.defers=[]/\(a.tmps.size=36/\a.tmps.getD 6 undef=.slice v (Yo us d).length t/\a.tmps.getD 25 undef=.slice ao c cap/\a.tmps.getD 26 undef=.int .i64 c/\a.tmps.getD 27 undef=.int .i64 d)/\p.ownsRow w.heap.size 3 1 (.slice v (Yo us d).length t) (Yo us d).length (Qh (Yo us d))/\Ext w p)
  (fun a _=>c - (intOf (a.tmps.getD 27 undef)).toNat) ?_ ?_
 ·exact⟨0,v,t,by omega,rfl,⟨rfl,rfl,rfl,rfl,rfl⟩,g,j⟩
 clear g j d3 v t;rintro⟨a3,_⟩ p ⟨d,v,t,d7,a0,⟨z,V,R,S,T⟩,g,j⟩;subst a0;obtain⟨a4,A⟩:=Z8 z;obtain⟨u,rfl⟩:∃ x,x=a4:=⟨_,rfl⟩;have a1:a3=#[u 0,u 1,u 2,u 3,u 4,u 5,u 6,u 7,u 8,u 9,u 10,u 11,u 12,u 13,u 14,u 15,u 16,u 17,u 18,u 19,u 20,u 21,u 22,u 23,u 24,u 25,u 26,u 27,u 28,u 29,u 30,u 31,u 32,u 33,u 34,u 35]:=A;clear A;subst a1;change u 6=_ at V;change u 25=_ at R;change u 26=_ at S;change u 27=_ at T;rw [V,R,S,T];clear V R S T z;by_cases c9:d<c
 ·have X:(d:Int)<(c:Int):=by omega
  have m:d<us.length:=by rw [o.out];exact c9
  obtain⟨l,s,rfl,c8,b5⟩:=b4.out d m;have y:=j.cell_some b5 (fun h=>h);have H:=(a5.out d m).ext j;obtain⟨d5,d4,B,a2⟩:=Q31 H;rw [B] at y H;have r:=Ny m;have k:=St (us:=us) (d+1);rw [C.out] at k;have n:(Yo us (d+1)).length=(Yo us d).length+us[d].length:=by rw [r,List.length_append]
  rw [n,E.out] at k;obtain⟨M,D,a6⟩:=Zh3 r n H;have c7:=j.size;clear r n B a2 H b5;obtain⟨a7,b2⟩:=zE (Yo us d);obtain⟨a8,b3⟩:=zE (us[d]);rw [b2] at g k M D ⊢;rw [b3] at y k M D a6;clear b2 b3
  go_wp2_with (at_builtin;refine V5 rfl (.tmp 31) (.tmp 32) 36 rfl w.heap.size 3 _ 1 8 Tryz.underlying36 @P7 rfl zd _ _ _ rfl g _ _ _ _ rfl a6.out (Q0k _) (by unfold maxLen;omega) oz c7 ?_;intro a9 b0 d9 c5 c6 d6)
  refine⟨⟨d+1,a9,b0,by omega,tz,⟨rfl,by rw [D.out];rfl,rfl,rfl,rfl⟩,?_,?_⟩,nz⟩
  ·rw [D.out,M.out,Fg];exact c5
  ·exact j.after c6 (fun b hb e=>by have:=(g.lt _ e).1;omega)
 ·obtain rfl:d=c:=by omega
  have X:¬ (d:Int)<(d:Int):=by omega
  have q:(Yo us d)=F:=(S5 (by rw [o.out];exact Nat.le_refl _)).trans C.out;rw [q,E.out] at g;rw [q,E.out];have b9:=Zh g;clear g q;go_wp2;go_ret;exact⟨_,rfl,by rw [E.out];exact b9.out,j⟩
end Go.Proofs.YtejenndedjabhaaGreatDoor
