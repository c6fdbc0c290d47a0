/- slices.DeleteFunc over the counts of mergers.Sizes. -/
import Derived.Test.YtejenndedjabhaaGreatDoorU06
set_option maxRecDepth 100000
set_option maxHeartbeats 8000000
namespace Go.Proofs.YtejenndedjabhaaGreatDoor
open Go.RowKit Go.Ab
attribute [local go_sem] Oper.semAt_some Z3 Qj
def W1(n:Nat):Bool:=decide (n≠0)
def Uh(xs:List Nat)(i j:Nat)(R:List Value):Prop:=((xs.take j).filter W1).length=i/\R.take i=Ja ((xs.take j).filter W1)/\R.drop j=Ja (xs.drop j)
theorem Uh.drop{xs:List Nat}{i j:Nat}{R:List Value}(h:Uh xs i j R)(f:j<xs.length)(g:xs[j]=0):Uh xs i (j+1) R:=by
 obtain⟨b,c,d⟩:=h;have a:=Dp W1 f;have e:¬ W1 xs[j]=true:=by rw [g];decide
 rw [if_neg e,List.append_nil] at a;refine⟨by rw [a];exact b,by rw [a];exact c,?_⟩;rw [<-List.drop_drop,d];unfold Ja;rw [<-List.map_drop,List.drop_drop]
theorem Uh.keep{xs:List Nat}{i j:Nat}{R:List Value}(h:Uh xs i j R)(k:j<xs.length)(l:xs[j]≠0)(f:i<R.length)(g:i<j+1):Uh xs (i+1) (j+1) (R.set i (.int .i64 (xs[j]:Nat))):=by
 obtain⟨b,c,d⟩:=h;have a:=Dp W1 k;have e:W1 xs[j]=true:=by unfold W1;simpa using l
 rw [if_pos e] at a;refine⟨by rw [a,List.length_append,b];rfl,?_,?_⟩
 ·rw [List.take_succ_eq_append_getElem (by simpa using f),List.getElem_set_self,List.take_set_of_le (Nat.le_refl i),c,a];simp [Ja]
 ·rw [List.drop_set_of_lt g,<-List.drop_drop,d];unfold Ja;rw [<-List.map_drop,List.drop_drop]
theorem Uh.start{xs:List Nat}{k:Nat}(e:k<xs.length)(c:(xs.take k).all W1=true) (f:xs[k]=0):Uh xs k (k+1) (Ja xs):=by
 have b:=Dp W1 e;have d:¬ W1 xs[k]=true:=by rw [f];decide
 rw [if_neg d,List.append_nil,List.filter_eq_self.2 (fun a ha=>(List.all_eq_true.1 c) a ha)] at b;refine⟨by rw [b,List.length_take];omega,by rw [b];unfold Ja;rw [List.map_take],by unfold Ja;rw [List.map_drop]⟩
theorem Uh.get{xs:List Nat}{i j:Nat}{R:List Value}(h:Uh xs i j R)(b:j<xs.length):R[j]?=some (.int .i64 (xs[j]:Nat)):=by
 have a:=congrArg (fun l=>l[0]?) h.2.2;simp only [List.getElem?_drop,Nat.add_zero] at a;rw [a];simp [Ja,b]
theorem Tryz.infoD:(Tryz.prog.info? 3).map (fun i=>(i.zero,i.size,i.bytes))=some (some (.int .i64 0),1,8):=by kernel_rfl
theorem Qi{a:Func}{t u:Tmp}(h:a.results=#[.tmp t,.tmp u])(tmps:Array Value)(P:Program)(w:World) :
  (results a tmps).run P w=.ok (.tuple #[tmps.getD t undef,tmps.getD u undef]) w:=by
 simp [results,h]
def Q93(l:List Int)(i:Nat):List Nat:=((List.range i).map (Q1u l)).filter fun n=>decide (n≠0)
def Tc(n:Nat)(k:Int):Bool:=decide (k < -1) || decide ((n:Int)<=k)
theorem Q3s{w:World}{B:Nat}{ao:Option Addr}{N cap:Nat}(c:w.cell? ⟨B,0,none⟩=some (.slice ao N cap)) (x:Int) :
  Calls Tryz.prog 116 (#[.int .i64 x]++#[.pointer (some ⟨B,0,none⟩)]) w fun e w'=>e=.returned (.bool (Tc N x))/\Ext w w':=by
 unfold Tc;by_cases a:x < -1
 ·rw [decide_eq_true a];go_enter Tryz.func116,Tryz.ntmps116;go_wp2;go_ret;exact⟨rfl,Q0.refl _ _⟩
 ·rw [decide_eq_false a];by_cases b:(N:Int)<=x
  ·rw [decide_eq_true b];go_enter Tryz.func116,Tryz.ntmps116;go_wp2;go_ret;exact⟨rfl,Q0.refl _ _⟩
  ·rw [decide_eq_false b];go_enter Tryz.func116,Tryz.ntmps116;go_wp2;go_ret;exact⟨rfl,Q0.refl _ _⟩
theorem Pu:∀ args w,(callFunc 116 args).run Tryz.prog w=.ok (.enter 116 args) w:=fun args w=>by simp [go_sem]
theorem La{w:World}{ao:Option Addr}{N cap:Nat}{sh:List Int}(j:Rd w (.slice ao N cap) N 1 (Za sh)) (i:sh.length=N) :
  Calls Tryz.prog 75 #[.slice ao N cap] w fun e w'=>e=.returned (.int .i64 (Yn sh))/\Ext w w':=by
 have q:=j.2.1;unfold maxLen at q;have g:Ext w (w.alloc (.cells #[.slice ao N cap] 36)):=(Q0.refl _ w).alloc _;have n:(w.alloc (.cells #[.slice ao N cap] 36)).cell? ⟨w.heap.size,0,none⟩=some (.slice ao N cap):=cell_of_one (new_at rfl);have o:=Rt (j.ext g) i (cap:=cap) 116 #[.pointer (some ⟨w.heap.size,0,none⟩)] Pu (Tc N) (fun x _ V hV=>Q3s (hV.cell_some n id) x);obtain⟨b,c,d⟩:=Zh3 o g i;clear o g j i;by_cases r:N<=64;case neg=>
  have p:(N:Int) > 64:=by omega
  have a:Hid (Yn sh=12):=Zh (by unfold Yn;rw [if_pos (by rw [d.out];omega)]);go_enter Tryz.func75,Tryz.ntmps75;go_wp2;go_ret;exact⟨by rw [a.out];rfl,c.out⟩
 have p:¬ (N:Int) > 64:=by omega
 have a:Hid (Yn sh=if sh.any (Tc N)=true then 3 else 0):=Zh (by unfold Yn;rw [if_neg (by rw [d.out];omega),d.out];rfl);obtain⟨f,m⟩:=zE (sh.any (Tc N));rw [m] at b a;clear m;go_enter Tryz.func75,Tryz.ntmps75;go_wp2_with fail;refine b.out.mono ?_;rintro e s ⟨rfl,l⟩;have k:=Zh (c.out.trans l);clear b c l n;cases f
 ·go_wp2;go_ret;exact⟨by rw [a.out];rfl,k.out⟩
 ·go_wp2;go_ret;exact⟨by rw [a.out];rfl,k.out⟩
def Xx(d:List Int):Array Value:=((List.range 64).map fun(j:Nat)=>Value.bool (decide ((j:Int)∈d))).toArray
def isF:Value->Bool
 | .bool false=>true
 | _=>false
def Ee(w:World)(G:Nat):Nat:=match w.heap[G]? with
 | some (.cells cs _ _)=>(cs.toList.filter isF).length
 | _=>0
def M7(d:List Int):Nat:=((List.range 64).filter fun(j:Nat)=>!decide ((j:Int)∈d)).length
theorem Sc{w:World}{G:Nat}{d:List Int}{t:TypeId}{m:Nat × Nat}(h:w.heap[G]?=some (.cells (Xx d) t m)):Ee w G=M7 d:=by
 unfold Ee M7 Xx at *;rw [h];simp only [List.filter_map,List.length_map]
 congr 2
 funext j
 cases hd:decide ((j:Int)∈d) <;> simp [isF,Function.comp,hd]
theorem Q4c{d:List Int}{m:Nat}(f:m<64)(e:(m:Int) ∉ d):M7 (d++[(m:Int)])<M7 d:=by
 unfold M7;have a:(List.range 64).filter (fun(j:Nat)=>!decide ((j:Int)∈d++[(m:Int)]))=((List.range 64).filter (fun(j:Nat)=>!decide ((j:Int)∈d))).filter (fun(j:Nat)=>decide (j≠m)):=by
  rw [List.filter_filter]
  congr 1
  funext j
  rw [Bool.eq_iff_iff];simp only [Bool.not_eq_true',decide_eq_false_iff_not,List.mem_append,List.mem_singleton,not_or,Bool.and_eq_true,decide_eq_true_eq];constructor
  ·rintro⟨b,c⟩;exact⟨fun a=>c (by rw [a]),b⟩
  ·rintro⟨b,c⟩;exact⟨c,fun a=>b oz⟩
 rw [a];refine List.length_filter_lt_length_iff_exists.2 ⟨m,List.mem_filter.2 ⟨List.mem_range.2 f,by simp [e]⟩,by simp⟩
theorem Q1i{d:List Int}{m:Nat}(a:m<64):(Xx d)[m]?=some (.bool (decide ((m:Int)∈d))):=by simp [Xx,a]
theorem Q36{d:List Int}{m:Nat}:(Xx d).setIfInBounds m (.bool true)=Xx (d++[(m:Int)]):=by
 apply Array.ext
 ·simp [Xx]
 ·intro e c f;rw [Array.getElem_setIfInBounds (by simpa using c)];simp only [Xx,List.getElem_toArray,List.getElem_map,List.getElem_range];by_cases a:m=e
  ·subst a;rw [if_pos rfl];simp
  ·rw [if_neg a];congr 1;rw [Bool.eq_iff_iff];simp only [decide_eq_true_eq,List.mem_append,List.mem_singleton];constructor
   ·exact .inl
   ·rintro(b | b)
    ·exact b
    ·exact absurd oz a
theorem Mc{w r:World}{s BS i N cap:Nat}{ao:Option Addr}{sh:List Int}(H:Ext w r)(f0:i<N)(c8:Yq sh)(b2:sh.length=N)(c7:Rd w (.slice ao N cap) N 1 (Za sh))
  (b6:w.heap[s]?=some (.cells #[.int .i64 i] 3 (0,0))) (b7:w.heap[BS]?=some (.cells #[.slice ao N cap] 36 (0,0))) :
  K7 Tryz.prog 118 #[.pointer (some ⟨s,0,none⟩),.pointer (some ⟨BS,0,none⟩)] (fun _ _=>True) (fun _ _ (x:Int) _ ys=>ys=#[.int .i64 x]) (Zo sh i) (fun b=>b<w.heap.size) r:=by
 intro d2 a6 f5 j R b0 b1 b4 a8;have G:Ext w j:=H.after R (fun b k v=>v k);have K:=G.keep b6;have e6:=cell_of_one K;have f1:s<j.heap.size:=(Array.getElem?_eq_some_iff.1 K).1;show Calls _ _ #[.func (.yield d2) #[] #[],.pointer (some ⟨s,0,none⟩),.pointer (some ⟨BS,0,none⟩)] _ _;obtain⟨u,e2,e5,a1,e3,V,X,f4⟩:=Zh8 c8 c7 b4 b2 R a8 b0 b1;obtain⟨d4,d6,d5⟩:=Zh3 b7 H G;clear c8 c7 b4 b2 R a8 b0 b1 b7 b6 K H G;go_enter Tryz.func118,Tryz.ntmps118;go_wp2;clear e6 f1;obtain⟨c,y⟩:=zE j.heap.size;have d7:=Zh y;have U:Xx []=#[.bool false,.bool false,.bool false,.bool false,.bool false,.bool false,.bool false,.bool false,.bool false,.bool false,.bool false,.bool false,.bool false,.bool false,.bool false,.bool false,.bool false,.bool false,.bool false,.bool false,.bool false,.bool false,.bool false,.bool false,.bool false,.bool false,.bool false,.bool false,.bool false,.bool false,.bool false,.bool false,.bool false,.bool false,.bool false,.bool false,.bool false,.bool false,.bool false,.bool false,.bool false,.bool false,.bool false,.bool false,.bool false,.bool false,.bool false,.bool false,.bool false,.bool false,.bool false,.bool false,.bool false,.bool false,.bool false,.bool false,.bool false,.bool false,.bool false,.bool false,.bool false,.bool false,.bool false,.bool false]:=by kernel_rfl
 have a9:Q0 (fun b=>False/\True) j (j.alloc (.cells (Xx []) 110)):=(Q0.refl _ j).alloc _;have l:a6 (fun b=>b=c) [] (j.alloc (.cells (Xx []) 110)):=X.out (fun _=>False) (fun b=>b=c) [] j _ V.out a9 (fun b q=>by subst q;exact⟨.inr oz,by simp;omega⟩);have B:(j.alloc (.cells (Xx []) 110)).heap[c]?=some (.cells (Xx []) 110 (0,0)):=by rw [<-y];exact new_at rfl
 have S:Q0 (fun b=>¬ b<w.heap.size) r (j.alloc (.cells (Xx []) 110)):=e3.out.alloc _;rw [y];rw [U] at l B S;rw [<-U] at B;obtain⟨Y,W,p⟩:=Zh3 l B S;clear l B S a9 U y
 refine wp_loop (fun a e=>∃(f:List Int) (m:Int),Jt sh i f m/\a.defers=[]/\gS a [0,2,4,5]=(25,[.func (.yield d2) #[] #[],.pointer (some ⟨BS,0,none⟩),.pointer (some ⟨c,0,none⟩),.int .i64 m])/\a6 (fun b=>b=c) f e/\e.heap[c]?=some (.cells (Xx f) 110 (0,0))/\Q0 (fun b=>¬ b<w.heap.size) r e)
  (fun _ e=>Ee e c) ?_ ?_
 ·exact⟨[],i,Jt.start i (by rw [a1.out];exact f0),rfl,rfl,Y.out,W.out,p.out⟩
 clear Y W p V;rintro⟨g7,_⟩ e ⟨f,m,Q,e8,d0,c0,M,b3⟩;subst e8;obtain⟨g9,rfl⟩:=Qu d0;clear d0;have c3:=Sc M;have g3:=Q.lt;have g2:=u.out.1;obtain⟨F,t,o,a3,e0⟩:=Zh5 Q c0 M b3 c3;clear Q c0 M b3 c3;by_cases c1:0<=m;case neg=>
  have g:=F.out.stop u.out (fun h=>c1 h.1);have E:=Zh g;clear g;go_wp2;go_end0
  refine⟨⟨_,rfl⟩,(fun b=>b=c),.inl ?_⟩;rw [E.out];exact t.out
 obtain⟨d,rfl⟩:∃ d:Nat,m=(d:Int):=⟨m.toNat,by omega⟩;have c2:d<64:=by omega
 have g4:(d:Int)<64:=by omega
 have L:e.cell? ⟨c,d,none⟩=some (.bool (decide ((d:Int)∈f))):=by rw [cell_of_row e c d _ _ _ o.out,Q1i c2]
 have e9:e.frozen? ⟨c,d,none⟩=false:=frozen_of_row e c d _ _ o.out;by_cases g:(d:Int)∈f
 ·rw [decide_eq_true g] at L;have g:=F.out.stop u.out (fun h=>h.2 g);have E:=Zh g;clear g;go_wp2;go_end0
  refine⟨⟨_,rfl⟩,(fun b=>b=c),.inl ?_⟩;rw [E.out];exact t.out
 rw [decide_eq_false g] at L;obtain⟨c5,d3,T⟩:=F.out.more u.out c1 g;have c9:(e.setCell ⟨c,d,none⟩ (.bool true)).heap[c]?=some (.cells (Xx (f++[(d:Int)])) 110 (0,0)):=by
  have k:=o.out;simp only [World.setCell,Array.getElem?_modify,k];simp [Q36]
 have A:Q0 (fun b=>b=c) e (e.setCell ⟨c,d,none⟩ (.bool true)):=Q0.set1 e c d _;have e7:c<e.heap.size:=(Array.getElem?_eq_some_iff.1 o.out).1;have l:=X.out (fun b=>b=c) (fun b=>b=c) f e _ t.out (A.mono fun b _ h=>⟨h,trivial⟩) (fun b q=>⟨.inl q,by subst q;exact Nat.lt_of_lt_of_le e7 A.size⟩);obtain⟨g1,g8,f6,f7,f3,b5⟩:=e5.out (fun b=>b=c) f (d:Int) d3 _ #[.int .i64 d] T l rfl;obtain⟨a5,a4,a0,a2,p⟩:=Zh5 b5 T c5 c9 A;clear b5 T c5 c9 A l t;go_upto_region 5 with (fail)
 refine(wpIn_wide (n:=0)).1 ?_;gi_wp2;refine a5.out.mono ?_;rintro g0 a7 (⟨rfl,z,C⟩ | ⟨rfl,z,C⟩);case inr=>
  gi_wp2;go_wp2;refine bodyPost_ret (results_none rfl _ _ _) rfl ?_;exact⟨⟨_,rfl⟩,(fun b=>b=c),.inr ⟨f,(d:Int),d3,a4.out,z⟩⟩
 have J:Q0 (fun b=>¬ b<w.heap.size) r a7:=(a3.out.trans (p.out.mono fun b _ h=>by have k:=d5.out.size;have v:=d7.out;omega)).trans (C.mono fun b _ h=>h.1);have I:Ext w a7:=d6.out.after J (fun b k v=>v k);have O:=C.heap a2.out (fun h=>h.2 rfl);have P:=Q4c c2 g;rw [<-Sc O,<-e0.out] at P;have b8:=I.keep d4.out;have f9:=cell_of_one b8;have f2:d<N:=by rw [<-a1.out];omega
 have c4:d<sh.length:=by omega
 have g5:(d:Int)<(N:Int):=by omega
 obtain⟨b,g6,f8,c6,q,b9⟩:=Zq (e2.out.ext I) f2;simp only [zV,true_and] at c6;obtain⟨rfl,rfl⟩:=c6;rw [Yt sh c4] at b9;have D:=a0.out;rw [show sh.getD (d:Int).toNat (-1)=sh[d] by rw [List.getD_eq_getElem?_getD,Int.toNat_natCast,List.getElem?_eq_getElem c4];rfl] at D;obtain⟨x,d1⟩:=zE (sh[d]);rw [d1] at b9 D;obtain⟨d9,e4,d8,Z,e1⟩:=Zh5 z J O P D;clear z J C I O P D b8 d1 f3 a5 p a2 a4 a0 o a3 L e9;gi_wp2;go_wp2;exact⟨⟨f++[(d:Int)],x,e1.out,by first | trivial | rfl,rfl,d9.out,d8.out,e4.out⟩,by first | exact Z.out | simpa using Z.out⟩
theorem L0:∀ args w,(callFunc 118 args).run Tryz.prog w=.ok (.enter 118 args) w:=fun args w=>by simp [go_sem]
theorem P7{w:World}{ao:Option Addr}{N cap i:Nat} :
  Calls Tryz.prog 77 #[.slice ao N cap,.int .i64 i] w fun e w'=>e=.returned (.func (.func 118) #[] #[.pointer (some ⟨w.heap.size+1,0,none⟩),.pointer (some ⟨w.heap.size,0,none⟩)])
   /\ w'.heap[w.heap.size+1]?=some (.cells #[.int .i64 i] 3 (0,0))/\w'.heap[w.heap.size]?=some (.cells #[.slice ao N cap] 36 (0,0))/\Ext w w':=by
 go_enter Tryz.func77,Tryz.ntmps77;go_wp2;go_ret;exact⟨by simp,new_at zy,Q8 (new_at rfl),((Q0.refl _ w).alloc _).alloc _⟩
theorem Nc{l:List Int}{i:Nat}(h:i<l.length)(z:Int):l.getD i z=l[i]:=by rw [List.getD_eq_getElem?_getD,List.getElem?_eq_getElem h];rfl
structure Vp (sh:List Int) (i:Nat) (d:List Int) (k:Int):Prop where
 pre:Jq sh d
 lo:0<=k
 lt:k<(sh.length:Int)
 way:Zo sh i=Uy sh (65 - d.length) k d
theorem Vp.start{sh:List Int}(hs:Yq sh)(i:Nat)(hi:i<sh.length):Vp sh i [] (i:Int):=
 ⟨⟨List.nodup_nil,fun _ h=>by cases h⟩,by omega,by omega,Fo (fun k hk=>(hs.2 k hk).1) _ _ _ oz⟩
theorem Vp.more{sh d:List Int}{i:Nat}{k:Int}(e:Yq sh)(h:Vp sh i d k)(c:k ∉ d):Vp sh i (d++[k]) (if sh.getD k.toNat (-1)≠-1/\sh.getD k.toNat (-1)≠k then sh.getD k.toNat (-1) else k):=by
 have n:=h.pre.le;have g:=e.1;have a:=h.way;have j:=Ka e k.toNat;have l:=h.lo;have m:=h.lt;obtain⟨b,f⟩:∃ b,65 - d.length=b+1:=⟨64 - d.length,by omega⟩;rw [f] at a;unfold Uy at a;rw [if_pos c] at a;refine⟨h.pre.snoc h.lo h.lt c,?_,?_,?_⟩
 ·split <;> omega
 ·split <;> omega
 ·rw [a,List.length_append,List.length_singleton];have:65 - (d.length+1)=b:=by omega
  rw [this]
theorem Vp.stop{sh d:List Int}{i:Nat}{k:Int}(f:Yq sh)(h:Vp sh i d k)(c:k∈d):Zo sh i=d:=by
 have j:=h.pre.le;have g:=f.1;have a:=h.way;obtain⟨b,e⟩:∃ b,65 - d.length=b+1:=⟨64 - d.length,by omega⟩;rw [e] at a;unfold Uy at a;rw [if_neg (fun h=>h c)] at a;exact a
def Q98:Value->Nat
 | .slice _ n _=>n
 | _=>0
theorem Lg(l:List Int)(x:Int):Za (l++[x])=Za l++[.int .i64 x]:=by simp [Za]
theorem S3:(Tryz.prog.info? 36).map (fun i=>(i.zero,i.size,i.bytes))=some (some (.slice none 0 0),1,24):=by kernel_rfl
def Y8(X:Nat)(W:World)(v:Value)(L:List (List Int)):Prop:=∃ vs,W.ownsRow X 36 1 v L.length vs/\vs.length=L.length/\∀ i (h:i<L.length),∃ ao c,vs.getD i undef=.slice ao L[i].length c/\W.ownsRow X 3 1 (.slice ao L[i].length c) L[i].length (Za L[i])
def R1(w:World)(v:Value)(L:List (List Int)):Prop:=∃ vs,Rd w v L.length 1 vs/\∀ i (h:i<L.length),∃ ao c,vs.getD i undef=.slice ao L[i].length c/\Rd w (.slice ao L[i].length c) L[i].length 1 (Za L[i])
theorem R1.ext{A B:World}{v:Value}{L:List (List Int)} (h:R1 A v L) (a:Ext A B):R1 B v L:=by
 obtain⟨j,d,e⟩:=h;refine⟨j,d.ext a,fun i hi=>?_⟩;obtain⟨b,c,f,g⟩:=e i hi;exact⟨b,c,f,g.ext a⟩
theorem Y8.rd{X:Nat}{W:World}{v:Value}{L:List (List Int)} (h:Y8 X W v L):R1 W v L:=by
 obtain⟨g,c,_,d⟩:=h;refine⟨g,Rd.of_own c,fun i hi=>?_⟩;obtain⟨a,b,e,f⟩:=d i hi;exact⟨a,b,e,Rd.of_own f⟩
theorem Y8.nil(X:Nat)(W:World):Y8 X W (.slice none 0 0) []:=⟨[],World.ownsRow_nil _ _ _ _,rfl,fun i hi=>by cases hi⟩
theorem Y8.ext{X:Nat}{A B:World}{v:Value}{L:List (List Int)} (h:Y8 X A v L) (a:Ext A B):Y8 X B v L:=by
 obtain⟨k,d,f,e⟩:=h;refine⟨k,Qa d a,f,fun i hi=>?_⟩;obtain⟨b,c,g,j⟩:=e i hi;exact⟨b,c,g,Qa j a⟩
theorem Y8.slice{X:Nat}{W:World}{v:Value}{L:List (List Int)} (h:Y8 X W v L):∃ ao c,v=.slice ao L.length c:=by
 obtain⟨b,a,_⟩:=h;exact Z6 a
theorem Y8.lt{X:Nat}{W:World}{v:Value}{L:List (List Int)} (h:Y8 X W v L):∀ g,v.ownBlock=some g->X<=g:=by
 obtain⟨b,a,_⟩:=h;exact fun g hg=>(a.lt g hg).1
theorem Y8.push{X:Nat}{V k:World}{v p:Value}{L:List (List Int)} {x:List Int} {vo:Option Addr} {vc:Nat} {vs:List Value} (q:V.ownsRow X 36 1 v L.length vs) (e:vs.length=L.length) (r:∀ i (h:i<L.length),∃ ao c,vs.getD i undef=.slice ao L[i].length c/\V.ownsRow X 3 1 (.slice ao L[i].length c) L[i].length (Za L[i]))
  (o:V.ownsRow X 3 1 (.slice vo x.length vc) x.length (Za x)) (s:k.ownsRow X 36 1 p (L.length+1) (vs++[.slice vo x.length vc])) (l:Q0 (fun b=>v.ownBlock=some b) V k):Y8 X k p (L++[x]):=by
 have m:∀ {u:Value} {n:Nat} {xs:List Value},V.ownsRow X 3 1 u n xs->∀ g,u.ownBlock=some g->¬ v.ownBlock=some g:=fun hu g hg d=>by
  obtain⟨w,j⟩:=V3 hu hg;obtain⟨y,a⟩:=V3 q d;rw [j] at a;simp only [Option.some.injEq,Obj.cells.injEq] at a;exact absurd a.2.1 zd
 refine⟨vs++[.slice vo x.length vc],by rw [List.length_append];exact s,by simp [e],fun i hi=>?_⟩;by_cases f:i<L.length
 ·obtain⟨ao,c,j,a⟩:=r i f;rw [List.getElem_append_left f];refine⟨ao,c,?_,Qc a l (m a)⟩;rw [List.getD_eq_getElem?_getD,List.getElem?_append_left (by rw [e];exact f),<-List.getD_eq_getElem?_getD,j]
 ·have t:i=L.length:=by simp at hi;omega
  subst t;have d:(L++[x])[L.length]'hi=x:=by simp
  rw [d];refine⟨vo,vc,?_,Qc o l (m o)⟩;rw [List.getD_eq_getElem?_getD,<-e,List.getElem?_append_right (Nat.le_refl _)];simp
end Go.Proofs.YtejenndedjabhaaGreatDoor
