/- Phonemes: -/
import Derived.Test.YtejenndedjabhaaGreatDoorU14
import Derived.Shelf.Bits.Mul64
import Derived.Deep.RegionLaw
set_option maxRecDepth 100000
set_option maxHeartbeats 16000000
namespace Go.Proofs.YtejenndedjabhaaGreatDoor
open Go.RowKit Go.Ab
def Fb(ls:List Q5)(u v:Wd):Bool:=decide (Zf ls u=Zf ls v)
def Sr(ls:List Q5)(w:Wd)(s t:Nat × Nat)(i:Nat):Bool:=
 if w.getD i (0,0)=s then !Fb ls w (w.set i t) else if w.getD i (0,0)=t then !Fb ls w (w.set i s) else false
def apB(ls:List Q5)(w:Wd)(s t:Nat × Nat):Bool:=(List.range w.length).any (Sr ls w s t)
def apL(ls:List Q5)(l:List Wd)(s t:Nat × Nat):Bool:=l.any fun w=>apB ls w s t
def Ub(L:List Nat)(a b:Nat):List Nat:=L.map fun c=>if c=a\/c=b then min a b else c
theorem Q2o(L:List Nat)(a:Nat):Ub L a a=L:=by
 unfold Ub;conv=>rhs;rw [<-List.map_id L]
 apply List.map_congr_left;intro c _;by_cases b:c=a
 ·subst b;simp
 ·simp [b]
theorem Mo(L:List Nat)(a b:Nat):(Ub L a b).length=L.length:=by simp [Ub]
def K2(ap:Nat->Nat->Bool)(i:Nat)(L:List Nat)(k:Nat):List Nat:=if ap i k=true then L else Ub L (L.getD i 0) (L.getD k 0)
def Ur(ap:Nat->Nat->Bool)(i:Nat)(L:List Nat)(k:Nat):List Nat:=(List.range k).foldl (K2 ap i) (L++[i])
def Vy(ap:Nat->Nat->Bool)(n:Nat):List Nat:=(List.range n).foldl (fun L i=>Ur ap i L i) []
theorem Wv(ap:Nat->Nat->Bool)(i:Nat)(L:List Nat):Ur ap i L 0=L++[i]:=rfl
theorem Dd(a:Nat->Nat->Bool)(i:Nat)(L:List Nat)(k:Nat):Ur a i L (k+1)=K2 a i (Ur a i L k) k:=by
 unfold Ur;rw [List.range_succ,List.foldl_append];rfl
theorem L0(a:Nat->Nat->Bool)(n:Nat):Vy a (n+1)=Ur a n (Vy a n) n:=by
 unfold Vy;rw [List.range_succ,List.foldl_append];rfl
theorem Q5p(a:Nat->Nat->Bool)(i:Nat)(L:List Nat)(k:Nat):(K2 a i L k).length=L.length:=by
 unfold K2;split
 ·rfl
 ·exact Mo _ _ _
theorem Fp(ap:Nat->Nat->Bool)(i:Nat)(L:List Nat):∀ k,(Ur ap i L k).length=L.length+1
 | 0=>by rw [Wv];simp
 | k+1=>by rw [Dd,Q5p,Fp ap i L k]
theorem V0(ap:Nat->Nat->Bool):∀ n,(Vy ap n).length=n
 | 0=>rfl
 | n+1=>by rw [L0,Fp,V0 ap n]
theorem Q88{L:List Nat}{a b m:Nat}(h:∀ x∈L,x<=m)(ha:a<=m):∀ x∈Ub L a b,x<=m:=fun x hx=>by
 unfold Ub at hx;obtain⟨c,hc,rfl⟩:=List.mem_map.1 hx
 split
 ·omega
 ·exact h c hc
theorem Mm(ap:Nat->Nat->Bool)(i:Nat){L:List Nat}(h:∀ x∈L,x<=i):∀ k,∀ x∈Ur ap i L k,x<=i
 | 0=>fun x hx=>by
  rw [Wv] at hx;rcases List.mem_append.1 hx with hx | hx
  ·exact h x hx
  ·rw [List.mem_singleton] at hx;omega
 | k+1=>by
  have ih:=Mm ap i h k;rw [Dd];unfold K2
  split
  ·exact ih
  ·refine Q88 ih ?_;rw [List.getD_eq_getElem?_getD];cases e:(Ur ap i L k)[i]? with
   | none=>simp
   | some x=>exact ih x (List.mem_of_getElem? e)
theorem En(ap:Nat->Nat->Bool):∀ n,∀ x∈Vy ap n,x<=n
 | 0=>fun x hx=>by cases hx
 | n+1=>fun x hx=>by
  rw [L0] at hx;exact Nat.le_succ_of_le (Mm ap n (fun y hy=>En ap n y hy) n x hx)
def Kv(l:List Wd):Int:=Z5 (l.map wE)
def J3(ls:List Q5)(l:List Wd)(ss:Wd):Int:=if Zd ls=0 then(if 32<l.length then 12 else if Kv l=0 then Yp ss 16 else Kv l) else Zd ls
def W8(ls:List Q5)(l:List Wd)(ss:Wd):List Nat:=if J3 ls l ss=0 then Vy (fun i k=>apL ls l (ss.getD i (0,0)) (ss.getD k (0,0))) ss.length else []
def Vd(fr:List (Wd × Wd)):List Int:=fr.map fun p=>Za [] p.1 p.2
def Fm(ls:List Q5)(fr:List (Wd × Wd)) (s:Nat × Nat):List Int:=fr.map fun p=>Jl ls (Z0 p.1 p.2 s)
def frB(ls:List Q5)(fr:List (Wd × Wd)) (s:Nat × Nat):List Bool:=fr.map fun p=>!decide (Z0 p.1 p.2 s=Xf ls (Z0 p.1 p.2 s))
def Je(ls:List Q5)(fr:List (Wd × Wd)) (s:Nat × Nat):Int:=
 if Zd ls=0 then(if 256<fr.length then 12 else if Z5 (Vd fr)=0 then(if okS s=true then Z5 (Fm ls fr s) else 14) else Z5 (Vd fr)) else Zd ls
def Hk(ls:List Q5)(fr:List (Wd × Wd)) (s:Nat × Nat):List Bool:=if Je ls fr s=0 then frB ls fr s else []
theorem Nw{l:List Int}(h:Z5 l=0):∀ x∈l,x=0:=by
 induction l with
 | nil=>intro x a;cases a
 | cons e l ih=>
  intro x a;unfold Z5 at h
  split at h
  ·rename_i b
   rcases List.mem_cons.1 a with rfl | a
   ·exact b
   ·exact ih h x a
  ·rename_i b;exact absurd h b
theorem Q7h{fr:List (Wd × Wd)} (h:Z5 (Vd fr)=0) {k:Nat} (b:k<fr.length):wE fr[k].1=0/\wE fr[k].2=0:=by
 have a:=Nw h (Za [] fr[k].1 fr[k].2) (List.mem_map.2 ⟨_,List.getElem_mem b,rfl⟩);exact(W3 a).2
theorem Q8j{ls:List Q5}{fr:List (Wd × Wd)} {s:Nat × Nat} (h:Je ls fr s=0):Hk ls fr s=frB ls fr s:=if_pos h
theorem Q8n{ls:List Q5}{fr:List (Wd × Wd)} {s:Nat × Nat} (h:Je ls fr s≠0):Hk ls fr s=[]:=if_neg h
end Go.Proofs.YtejenndedjabhaaGreatDoor
namespace Go
open Go.RowKit Go.Ab
theorem S8{P:Program}(w:World)(f A ty d:TypeId)(g o c l:Nat)(a:Addr)(e z sz:Nat)(b:Array Value)(t:TypeId)(cs:List Value)
  (y:P.underlying f=some (.slice d)) (k:(P.info? d).map (·.size)=some sz)
  (p:w.heap[g]?=some (.cells b t (0,0))) (s:cs.length=Nat.min e c*sz)
  (u:∀ j v,cs[j]?=some v->w.cell? (a.add j)=some v) (n:o+cs.length<=b.size) (m:∀ v∈cs,v.oneCell'=true) :
  (Builtin.copy_ #[f,A] ty #[.slice (some ⟨g,o,none⟩) c l,.slice (some a) e z]).run P w =
   .ok (goInt (Nat.min e c)) (w.setRow g (b.toList.take o++cs++b.toList.drop (o+cs.length)).toArray):=by
 have r:=run_loadCells_list (P:=P) w a cs u;have x:=run_storeCells_at P g o t cs 0 b w p (by simpa using n) m;cases hq:P.info? d with
 | none=>simp [hq] at k
 | some i=>
  have q:i.size=sz:=by simpa [hq] using k
  simp [Builtin.copy_,run_underlying y,Builtin.lenOf,Builtin.firstCells,sizeOf,typeInfo,hq,q,<-s,r,x]
theorem El(A:World)(b:Nat)(cs:Array Value):Q0 (fun x=>x=b) A (A.setRow b cs):=
 ⟨rfl,rfl,rfl,by simp [World.setRow],fun i _ hi=>by
  show (A.heap.modify b _)[i]?=_;rw [Array.getElem?_modify,if_neg (fun e=>hi e.symm)]⟩
theorem Gr{P:Program}{ops:Array Oper}{o:Oper}{a:Act}{w:World}{K:Act->World->Prop}{Q:Exit->Act->World->Prop}{E:Prop}(A:o.guard=none)(d s:Operand)(k r:TypeId)
  (C:o.op=.call { callee:=.builtin .copy,args:=#[d,s],argTypes:=#[k,r] }) (l:TypeId) (J:P.underlying k=some (.slice l)) (sz:Nat) (I:(P.info? l).map (·.size)=some sz)
  (e m f p:Nat) (i:Addr) (g off:Nat) (y:a.eval d=.slice (some ⟨g,off,none⟩) e m) (G:a.eval s=.slice (some i) f p)
  (c:List Value) (t:TypeId) (n:w.heap[g]?=some (.cells c.toArray t (0,0))) (cs:List Value) (B:cs.length=Nat.min f e*sz)
  (H:∀ j v,cs[j]?=some v->w.cell? (i.add j)=some v)
  (z:off+cs.length<=c.length) (u:∀ v∈cs,v.oneCell'=true) (q:Nat) (D:Nat.min f e=q) (L:List Value) (x:c.take off++cs++c.drop (off+cs.length)=L)
  (h:∀ w',Hid (w'.heap[g]?=some (.cells L.toArray t (0,0)))->Q0 (fun b=>b=g) w w'->K (a.put o.dst (goInt q)) w') :
  if Region.wanted o (yielded ops a.tmps)=true then Oper.wp P o a w K Q else E:=by
 subst x;have M:Region.wanted o (yielded ops a.tmps)=true:=by simp [Region.wanted,A]
 rw [if_pos M];have F:=S8 (P:=P) w k r o.type l g off e m i f p sz c.toArray t cs J I n B H (by simpa using z) u;unfold Oper.wp;simp [execOp,C,resolve,invoke,builtin,y,G,F,Result.andThen];rw [show f.min e=q from D];exact h _ (show _=_ by simpa using setRow_heap w g _ _ t _ n) (El w g _)
theorem Hn{P:Program}{w:World}{ops:Array Oper}{rest:List Oper}{o:Oper}{a:Act}{Q:Exit->Act->World->Prop}(m:o.guard=none)(d s:Operand)(k r:TypeId)
  (D:o.op=.call { callee:=.builtin .copy,args:=#[d,s],argTypes:=#[k,r] }) (l:TypeId) (J:P.underlying k=some (.slice l)) (sz:Nat) (I:(P.info? l).map (·.size)=some sz)
  (e n f p:Nat) (i:Addr) (g off:Nat) (z:a.eval d=.slice (some ⟨g,off,none⟩) e n) (G:a.eval s=.slice (some i) f p)
  (c:List Value) (t:TypeId) (B:w.heap[g]?=some (.cells c.toArray t (0,0))) (cs:List Value) (C:cs.length=Nat.min f e*sz)
  (H:∀ j v,cs[j]?=some v->w.cell? (i.add j)=some v)
  (A:off+cs.length<=c.length) (u:∀ v∈cs,v.oneCell'=true) (q:Nat) (F:Nat.min f e=q) (L:List Value) (y:c.take off++cs++c.drop (off+cs.length)=L)
  (h:∀ w',Hid (w'.heap[g]?=some (.cells L.toArray t (0,0)))->Q0 (fun b=>b=g) w w'->wpList P ops Q rest (a.put o.dst (goInt q)) w') :
  wpList P ops Q (o::rest) a w:=by
 refine wpList_plain m fun K hK=>?_
 have x:=Gr (E:=False) (K:=K) (Q:=Q) (ops:=ops) m d s k r D l J sz I e n f p i g off z G c t B cs C H A u q F L y (fun w' hw hT=>hK _ _ (h w' hw hT))
 rwa [if_pos (by simp [Region.wanted,m])] at x
end Go
namespace Go.Proofs.YtejenndedjabhaaGreatDoor
open Go.RowKit Go.Ab Go.Shelf
def Q9u:Nat->Nat
 | 212=>101
 | 263=>130
 | 264=>131
 | n=>n
def Q9y:Nat->Nat
 | 46=>132
 | 51=>24
 | 53=>162
 | 146=>160
 | 148=>163
 | n=>n
def Qa3:Ren:=⟨Q9u,Q9y,fun n=>n⟩
theorem Q5v:Lays.n212 Tryz.prog Qa3 where
 mixed:=by kernel_rfl
 f212:=by kernel_rfl
 f263:=by kernel_rfl
 f264:=by kernel_rfl
 t46:=by kernel_rfl
 a46:=fun _=>by kernel_rfl
 z46:=fun _=>by kernel_rfl
 v46:=fun _=>by kernel_rfl
 t51:=by kernel_rfl
 a51:=fun _=>by kernel_rfl
 z51:=fun _=>by kernel_rfl
 v51:=fun _=>by kernel_rfl
 t53:=by kernel_rfl
 a53:=fun _=>by kernel_rfl
 z53:=fun _=>by kernel_rfl
 v53:=fun _=>by kernel_rfl
 t146:=by kernel_rfl
 a146:=fun _=>by kernel_rfl
 z146:=fun _=>by kernel_rfl
 v146:=fun _=>by kernel_rfl
 t148:=by kernel_rfl
 a148:=fun _=>by kernel_rfl
 z148:=fun _=>by kernel_rfl
 v148:=fun _=>by kernel_rfl
theorem Pl(x y:Nat)(hx:x<18446744073709551616)(hy:y<18446744073709551616)(w:World) :
  Calls Tryz.prog 101 #[.int .u64 (x:Int),.int .u64 (y:Int)] w fun e w'=>e=.returned (.tuple #[.int .u64 ((x*y / 18446744073709551616:Nat):Int),.int .u64 ((x*y % 18446744073709551616:Nat):Int)])/\w'=w:=Any.bits_Mul Q5v x y hx hy w
def Y3(cs:List Value)(m:Nat):List Value:=(List.replicate m cs).flatten
theorem Ha(cs:List Value)(m:Nat):(Y3 cs m).length=m*cs.length:=by
 unfold Y3;induction m with
 | zero=>simp
 | succ m ih=>rw [List.replicate_succ,List.flatten_cons,List.length_append,ih,Nat.succ_mul];omega
theorem Wz(cs:List Value)(p q:Nat):Y3 cs (p+q)=Y3 cs p++Y3 cs q:=by
 unfold Y3;rw [<-List.replicate_append_replicate,List.flatten_append]
theorem Fw{cs:List Value}{p q sz:Nat}(b:cs.length=sz)(h:q<=p):(Y3 cs p).take (q*sz)=Y3 cs q:=by
 obtain⟨a,rfl⟩:∃ a,p=q+a:=⟨p - q,by omega⟩;rw [Wz,List.take_append_of_le_length (by rw [Ha,b];exact Nat.le_refl _)];exact List.take_of_length_le (by rw [Ha,b];exact Nat.le_refl _)
theorem Mn(cs:List Value):Y3 cs 1=cs:=by simp [Y3]
theorem Hd{cs:List Value}(h:∀ u∈cs,u.oneCell'=true)(m:Nat):∀ u∈Y3 cs m,u.oneCell'=true:=fun u hu=>by
 obtain⟨l,hl,hu2⟩:=List.mem_flatten.1 hu;rw [(List.mem_replicate.1 hl).2] at hu2;exact h u hu2
theorem Nh{w:World}{D:Addr}{xc m:Nat}{cs:List Value}(d4:∀ j u,cs[j]?=some u->w.cell? (D.add j)=some u) (c8:cs.length=1) (y:∀ u∈cs,u.oneCell'=true) (W:1<=m) (g6:m<=1000) :
  Calls Tryz.prog 54 #[.slice (some D) 1 xc,.int .i64 (m:Int)] w fun e w'=>∃ v,e=.returned v/\w'.ownsRow w.heap.size 3 1 v m (Y3 cs m)/\Ext w w':=by
 have X:=fun(k:World)=>Pl 1 m zd oz k;have b9:1*m / 18446744073709551616=0:=by omega
 have c0:1*m % 18446744073709551616=m:=by omega
 rw [b9,c0] at X;obtain⟨p,O⟩:∃ o,o=(madeCells #[.int .i64 0] (m)).toList:=⟨_,rfl⟩;have c6:p.length=m:=by rw [O];simp [madeCells]
 have f7:∀ k:World,(Instr.makeSlice 36 (.int .i64 (m:Int)) (.int .i64 (m:Int))).run Tryz.prog k=.ok (.slice (some ⟨k.heap.size,0,none⟩) m m) (k.alloc (.cells p.toArray 3)):=fun k=>by
  have t:(Tryz.prog.info? 3).map (fun i=>(i.zero,i.size,i.bytes))=some (some (.int .i64 0),1,8):=by kernel_rfl
  cases q:Tryz.prog.info? 3 with
  | none=>rw [q] at t;cases t
  | some i=>
   rw [q] at t;simp only [Option.map_some,Option.some.injEq,Prod.mk.injEq] at t;have a2:=run_make (P:=Tryz.prog) k 36 3 i (.int .i64 0) Tryz.underlying36 q t.1 .i64 .i64 m m oz oz (by rw [t.2.2];omega) oz;rw [t.2.1] at a2;try rw [Nat.mul_one] at a2
   rw [O,Array.toArray_toList];exact a2
 have B:(Tryz.prog.info? 3).map (·.size)=some 1:=by kernel_rfl
 have d5:∀ j u,cs[j]?=some u->(w.alloc (.cells p.toArray 3)).cell? (D.add j)=some u:=fun j u h=>((Q0.refl (fun _=>False) w).alloc (.cells p.toArray 3)).cell_some (d4 j u h) id;have d2:(w.alloc (.cells p.toArray 3)).heap[w.heap.size]?=some (.cells p.toArray 3 (0,0)):=new_at rfl;obtain⟨a6,r,b5,b2,b6,b3,I⟩:=Zh7 y c8 B X d5 d2 c6;clear X b9 c0 B y c8 d4 O d5 d2 c6;have f8:¬ (m:Int)<0:=by omega
 have f3:(m:Int)<=9223372036854775807:=by omega
 have f2:decide ((9223372036854775807:Int)<(m:Int))=false:=by rw [decide_eq_false_iff_not];omega
 go_enter Tryz.func54,Tryz.ntmps54;obtain⟨o,z⟩:=zE (p.take 0++cs++p.drop (0+cs.length));have b0:=Zh z;clear z;go_upto_region 7 with (go_at_call 101;refine(b2.out _).mono ?_;rintro e w' ⟨rfl,d3⟩;rw [d3];clear d3)
 go_wp2_with (refine Hn rfl (.tmp 31) (.tmp 32) 36 36 rfl 3 Tryz.underlying36 1 b5.out m m 1 xc D w.heap.size 0 rfl rfl p 3 b3.out cs (by rw [r.out,show Nat.min 1 m=1 from Nat.min_eq_left W]) b6.out (by rw [r.out,I.out];omega) a6.out 1 (Nat.min_eq_left W) o b0.out ?_)
 intro g1 M c5;have z:=b0.out;obtain⟨g,F⟩:=zE w.heap.size;have c2:Ext w g1:=((Q0.refl (fun _=>False) w).alloc (.cells p.toArray 3)).after c5 (fun b y h2=>by omega);rw [F] at M;have c3:o.length=m:=by rw [<-z];simp [I.out,r.out];omega
 have c4:o.take (1)=Y3 cs 1:=by
  rw [<-z,Mn,List.take_zero,List.nil_append,List.take_append_of_le_length (by rw [r.out];exact Nat.le_refl _)];exact List.take_of_length_le (by rw [r.out];exact Nat.le_refl _)
 have s:=M;obtain⟨a7,a9,b1,a8⟩:=Zh4 c2 c3 c4 F;rw [F];clear M c2 z c3 c4 c5 b6 b3 I b2 f7 F;go_wp2
 refine wp_loop (fun a k=>∃(c:Nat) (f:List Value),1<=c/\c<=m/\f.length=m/\f.take (c)=Y3 cs c/\a.defers=[]/\gS a [7,8]=(48,[.slice (some ⟨g,0,none⟩) m m,.int .i64 c])/\Hid (k.heap[g]?=some (.cells f.toArray 3 (0,0)))/\Ext w k)
  (fun a _=>m - (intOf (a.tmps.getD 8 undef)).toNat) ?_ ?_
 ·exact⟨1,o,by omega,W,a9.out,b1.out,rfl,rfl,s,a7.out⟩
 clear s a7 a9 b1;rintro⟨i4,_⟩ k ⟨c,f,g8,g9,c7,c9,f4,B,s,c1⟩;subst f4;obtain⟨u,rfl⟩:=Qt B;clear B;obtain⟨A,C,G⟩:=Zh3 c7 c9 c1;clear c7 c9 c1;by_cases g5:c<m;case pos=>
  have y:(c:Int)<(m:Int):=by omega
  have g3:(0:Int)<=(c:Int):=by omega
  have g4:(c:Int)<=(m:Int):=by omega
  have f9:¬ m=c:=by omega
  obtain⟨d,q⟩:=zE (Nat.min c (m - c));have g0:min c (m - c)=d:=q;have a1:1<=d/\d<=c/\c+d<=m:=by omega
  have x:(f.take (d)).length=d:=by rw [List.length_take,A.out];omega
  have a3:f.take (d)=Y3 cs d:=by
   have e:(f.take (c)).take (d)=f.take (d):=by rw [List.take_take];congr 1;omega
   rw [<-e,C.out];have:=Fw r.out a1.2.1;first | exact this | (rw [Nat.mul_one] at this;exact this)
  have T:c+(f.take (d)).length<=f.length:=by rw [x,A.out];omega
  have a5:∀ j v,(f.take (d))[j]?=some v->k.cell? ((⟨g,0,none⟩:Addr).add j)=some v:=fun j v h=>by
   have f5:j<d:=by have:=(List.getElem?_eq_some_iff.1 h).1;rw [x] at this;exact this
   rw [List.getElem?_take_of_lt f5] at h;have Q:=cell_of_row k g j f.toArray _ _ s.out;have:(⟨g,0,none⟩:Addr).add j=⟨g,j,none⟩:=by unfold Addr.add;split <;> simp_all
   rw [this,Q];simpa using h
  have Y:(f.take (c)++f.take (d)++f.drop (c+(f.take (d)).length)).length=m:=by
   rw [List.length_append,List.length_append,x,List.length_take,List.length_drop,A.out];omega
  have Z:(f.take (c)++f.take (d)++f.drop (c+(f.take (d)).length)).take ((c+d))=Y3 cs (c+d):=by
   have d1:(f.take (c)++f.take (d)).length=(c+d):=by rw [List.length_append,x,List.length_take,A.out];omega
   rw [List.take_append_of_le_length (by rw [d1];exact Nat.le_refl _),List.take_of_length_le (by rw [d1];exact Nat.le_refl _),C.out,a3,<-Wz]
  have a0:∀ v∈f.take (d),v.oneCell'=true:=by rw [a3];exact Hd a6.out d
  have V:(f.take (d)).length=Nat.min c (m - c):=by rw [x,q]
  obtain⟨b7,E⟩:=zE (f.take (c)++f.take (d)++f.drop (c+(f.take (d)).length));rw [E] at Y Z;obtain⟨b8,R⟩:=zE (f.take (d));rw [R] at T a0 x V E;simp only [R] at a5;have e2:=Zh E;clear E;have U:(c:Int)+(d:Int)<=(m:Int):=by omega
  obtain⟨e1,b4,d7,e6,e4,e5,e7⟩:=Zh7 V a5 T a0 Y Z q;clear V a5 T a0 Y Z a3 R x q g0 C;have H:=Zh a1;have e3:=Zh U;clear a1 U f3 f2 f8
  have i1:∀ n:World,(Instr.slice 36 (.slice (some ⟨g,0,none⟩) m m) (some (.int .i64 (c:Int))) none none).run Tryz.prog n=.ok (.slice (some ⟨g,c,none⟩) (m - c) (m - c)) n:=fun n=>by
   rw [Wu (size:=1) Tryz.underlying36 (fun _=>by kernel_rfl) c oz n];unfold sliced;rw [if_neg f9];simp only [Option.map_some,Addr.add];rw [if_neg oz,Nat.zero_add];try rw [Nat.mul_one]
  have i2:∀ n:World,(Instr.slice 36 (.slice (some ⟨g,0,none⟩) m m) none (some (.int .i64 (c:Int))) none).run Tryz.prog n=.ok (.slice (some ⟨g,0,none⟩) c m) n:=fun n=>by
   rw [Gy (size:=1) Tryz.underlying36 (fun _=>by kernel_rfl) c oz n];unfold sliced
   split <;> simp [Addr.add]
  go_wp2_with fail;have N:k.drew.heap[g]?=some (.cells f.toArray 3 (0,0)):=s.out;have a4:∀(j:Nat) (v:Value),b8[j]?=some v->k.drew.cell? ((⟨g,0,none⟩:Addr).add j)=some v:=b4.out;have L:Ext w k.drew:=G.out.drew;obtain⟨n,J⟩:=zE k.drew;rw [J] at N a4 L;obtain⟨e0,e8,d6⟩:=Zh3 N a4 L;clear N a4 L s b4 G;refine wp_region_held_drew (S:=fun _=>True) kz trivial ?_;intro f0;rw [J];clear J f0;refine tH 0 38 trivial ?_;refine tH 1 39 trivial ?_;refine tH 2 40 trivial ?_;refine tH 3 41 trivial ?_;refine tH 4 42 trivial ?_;refine tH 5 43 trivial ?_;refine tH 6 44 trivial ?_;refine rH [7] ?_;refine AllReadyH.cons rfl (fun K hK=>?_) AllReadyH.nil;refine Gr rfl (.tmp 41) (.tmp 44) 36 36 rfl 3 Tryz.underlying36 1 b5.out (m - c) (m - c) c m ⟨g,0,none⟩ g (c) rfl rfl f 3 e0.out b8 (by rw [e1.out];try rw [Nat.mul_one]) e8.out d7.out e6.out d e7.out b7 e2.out ?_;intro g2 d9 f1;refine hK.out _ _ trivial (fun _=>?_);clear hK K;change wpAnyH _ _ _ _ _ _ _ (Act.put _ (some 45) _) _;try simp only [Act.put,pq]
  have e9:Ext w g2:=d6.out.after f1 (fun b y h2=>by have:=a8.out;omega);have U:=e3.out;have i0:(0:Int)<=(d:Int):=by omega
  have g7:(m:Int)<=1000:=by omega
  have i3:IntKind.i64.wrap ((c:Int)+(d:Int))=(c:Int)+(d:Int):=IntWalk.i64_in _ oz;refine tH 8 46 trivial ?_;refine tH 9 8 trivial ?_;refine wpAnyH_done kz ?_ _;go_wp2;exact⟨⟨c+d,b7,by have:=H.out;omega,by have:=H.out;omega,e4.out,e5.out,tz,rfl,d9,e9⟩,by have:=H.out;simp [intOf];omega⟩
 obtain rfl:c=m:=by omega
 have y:¬ (c:Int)<(c:Int):=by omega
 have d0:k.ownsRow g 3 1 (.slice (some ⟨g,0,none⟩) c c) c (Y3 cs c):=by
  have Q:=C.out;have f6:=A.out;refine⟨by rw [Ha,r.out],.inr ⟨g,c,f.toArray,rfl,Nat.le_refl _,s.out,Nat.le_refl _,by unfold maxLen;omega,by simpa using f6,by simpa using Q⟩⟩
 have d8:=Zh d0;clear d0;go_wp2;go_ret;exact⟨_,rfl,by rw [a8.out];exact d8.out,G.out⟩
theorem M0{w:World}{D:Addr}{xc m:Nat}{cs:List Value}(d4:∀ j u,cs[j]?=some u->w.cell? (D.add j)=some u) (c8:cs.length=2) (y:∀ u∈cs,u.oneCell'=true) (W:1<=m) (g6:m<=1000) :
  Calls Tryz.prog 55 #[.slice (some D) 1 xc,.int .i64 (m:Int)] w fun e w'=>∃ v,e=.returned v/\w'.ownsRow w.heap.size 63 2 v m (Y3 cs m)/\Ext w w':=by
 have X:=fun(k:World)=>Pl 1 m zd oz k;have b9:1*m / 18446744073709551616=0:=by omega
 have c0:1*m % 18446744073709551616=m:=by omega
 rw [b9,c0] at X;obtain⟨p,O⟩:∃ o,o=(madeCells #[.slice none 0 0,.slice none 0 0] (m*2)).toList:=⟨_,rfl⟩;have c6:p.length=m*2:=by rw [O];simp [madeCells]
 have f7:∀ k:World,(Instr.makeSlice 60 (.int .i64 (m:Int)) (.int .i64 (m:Int))).run Tryz.prog k=.ok (.slice (some ⟨k.heap.size,0,none⟩) m m) (k.alloc (.cells p.toArray 63)):=fun k=>by
  have t:(Tryz.prog.info? 63).map (fun i=>(i.zero,i.size,i.bytes))=some (some (.agg #[.slice none 0 0,.slice none 0 0]),2,48):=by kernel_rfl
  cases q:Tryz.prog.info? 63 with
  | none=>rw [q] at t;cases t
  | some i=>
   rw [q] at t;simp only [Option.map_some,Option.some.injEq,Prod.mk.injEq] at t;have a2:=run_make (P:=Tryz.prog) k 60 63 i (.agg #[.slice none 0 0,.slice none 0 0]) Tryz.underlying60 q t.1 .i64 .i64 m m oz oz (by rw [t.2.2];omega) oz;rw [t.2.1] at a2;try rw [Nat.mul_one] at a2
   rw [O,Array.toArray_toList];exact a2
 have B:(Tryz.prog.info? 63).map (·.size)=some 2:=by kernel_rfl
 have d5:∀ j u,cs[j]?=some u->(w.alloc (.cells p.toArray 63)).cell? (D.add j)=some u:=fun j u h=>((Q0.refl (fun _=>False) w).alloc (.cells p.toArray 63)).cell_some (d4 j u h) id;have d2:(w.alloc (.cells p.toArray 63)).heap[w.heap.size]?=some (.cells p.toArray 63 (0,0)):=new_at rfl;obtain⟨a6,r,b5,b2,b6,b3,I⟩:=Zh7 y c8 B X d5 d2 c6;clear X b9 c0 B y c8 d4 O d5 d2 c6;have f8:¬ (m:Int)<0:=by omega
 have f3:(m:Int)<=9223372036854775807:=by omega
 have f2:decide ((9223372036854775807:Int)<(m:Int))=false:=by rw [decide_eq_false_iff_not];omega
 go_enter Tryz.func55,Tryz.ntmps55;obtain⟨o,z⟩:=zE (p.take 0++cs++p.drop (0+cs.length));have b0:=Zh z;clear z;go_upto_region 7 with (go_at_call 101;refine(b2.out _).mono ?_;rintro e w' ⟨rfl,d3⟩;rw [d3];clear d3)
 go_wp2_with (refine Hn rfl (.tmp 31) (.tmp 32) 60 60 rfl 63 Tryz.underlying60 2 b5.out m m 1 xc D w.heap.size 0 rfl rfl p 63 b3.out cs (by rw [r.out,show Nat.min 1 m=1 from Nat.min_eq_left W]) b6.out (by rw [r.out,I.out];omega) a6.out 1 (Nat.min_eq_left W) o b0.out ?_)
 intro g1 M c5;have z:=b0.out;obtain⟨g,F⟩:=zE w.heap.size;have c2:Ext w g1:=((Q0.refl (fun _=>False) w).alloc (.cells p.toArray 63)).after c5 (fun b y h2=>by omega);rw [F] at M;have c3:o.length=m*2:=by rw [<-z];simp [I.out,r.out];omega
 have c4:o.take (1*2)=Y3 cs 1:=by
  rw [<-z,Mn,List.take_zero,List.nil_append,List.take_append_of_le_length (by rw [r.out];exact Nat.le_refl _)];exact List.take_of_length_le (by rw [r.out];exact Nat.le_refl _)
 have s:=M;obtain⟨a7,a9,b1,a8⟩:=Zh4 c2 c3 c4 F;rw [F];clear M c2 z c3 c4 c5 b6 b3 I b2 f7 F;go_wp2
 refine wp_loop (fun a k=>∃(c:Nat) (f:List Value),1<=c/\c<=m/\f.length=m*2/\f.take (c*2)=Y3 cs c/\a.defers=[]/\gS a [7,8]=(48,[.slice (some ⟨g,0,none⟩) m m,.int .i64 c])/\Hid (k.heap[g]?=some (.cells f.toArray 63 (0,0)))/\Ext w k)
  (fun a _=>m - (intOf (a.tmps.getD 8 undef)).toNat) ?_ ?_
 ·exact⟨1,o,by omega,W,a9.out,b1.out,rfl,rfl,s,a7.out⟩
 clear s a7 a9 b1;rintro⟨i4,_⟩ k ⟨c,f,g8,g9,c7,c9,f4,B,s,c1⟩;subst f4;obtain⟨u,rfl⟩:=Qt B;clear B;obtain⟨A,C,G⟩:=Zh3 c7 c9 c1;clear c7 c9 c1;by_cases g5:c<m;case pos=>
  have y:(c:Int)<(m:Int):=by omega
  have g3:(0:Int)<=(c:Int):=by omega
  have g4:(c:Int)<=(m:Int):=by omega
  have f9:¬ m=c:=by omega
  obtain⟨d,q⟩:=zE (Nat.min c (m - c));have g0:min c (m - c)=d:=q;have a1:1<=d/\d<=c/\c+d<=m:=by omega
  have x:(f.take (d*2)).length=d*2:=by rw [List.length_take,A.out];omega
  have a3:f.take (d*2)=Y3 cs d:=by
   have e:(f.take (c*2)).take (d*2)=f.take (d*2):=by rw [List.take_take];congr 1;omega
   rw [<-e,C.out];have:=Fw r.out a1.2.1;first | exact this | (rw [Nat.mul_one] at this;exact this)
  have T:c*2+(f.take (d*2)).length<=f.length:=by rw [x,A.out];omega
  have a5:∀ j v,(f.take (d*2))[j]?=some v->k.cell? ((⟨g,0,none⟩:Addr).add j)=some v:=fun j v h=>by
   have f5:j<d*2:=by have:=(List.getElem?_eq_some_iff.1 h).1;rw [x] at this;exact this
   rw [List.getElem?_take_of_lt f5] at h;have Q:=cell_of_row k g j f.toArray _ _ s.out;have:(⟨g,0,none⟩:Addr).add j=⟨g,j,none⟩:=by unfold Addr.add;split <;> simp_all
   rw [this,Q];simpa using h
  have Y:(f.take (c*2)++f.take (d*2)++f.drop (c*2+(f.take (d*2)).length)).length=m*2:=by
   rw [List.length_append,List.length_append,x,List.length_take,List.length_drop,A.out];omega
  have Z:(f.take (c*2)++f.take (d*2)++f.drop (c*2+(f.take (d*2)).length)).take ((c+d)*2)=Y3 cs (c+d):=by
   have d1:(f.take (c*2)++f.take (d*2)).length=(c+d)*2:=by rw [List.length_append,x,List.length_take,A.out];omega
   rw [List.take_append_of_le_length (by rw [d1];exact Nat.le_refl _),List.take_of_length_le (by rw [d1];exact Nat.le_refl _),C.out,a3,<-Wz]
  have a0:∀ v∈f.take (d*2),v.oneCell'=true:=by rw [a3];exact Hd a6.out d
  have V:(f.take (d*2)).length=Nat.min c (m - c)*2:=by rw [x,q]
  obtain⟨b7,E⟩:=zE (f.take (c*2)++f.take (d*2)++f.drop (c*2+(f.take (d*2)).length));rw [E] at Y Z;obtain⟨b8,R⟩:=zE (f.take (d*2));rw [R] at T a0 x V E;simp only [R] at a5;have e2:=Zh E;clear E;have U:(c:Int)+(d:Int)<=(m:Int):=by omega
  obtain⟨e1,b4,d7,e6,e4,e5,e7⟩:=Zh7 V a5 T a0 Y Z q;clear V a5 T a0 Y Z a3 R x q g0 C;have H:=Zh a1;have e3:=Zh U;clear a1 U f3 f2 f8
  have i1:∀ n:World,(Instr.slice 60 (.slice (some ⟨g,0,none⟩) m m) (some (.int .i64 (c:Int))) none none).run Tryz.prog n=.ok (.slice (some ⟨g,c*2,none⟩) (m - c) (m - c)) n:=fun n=>by
   rw [Wu (size:=2) Tryz.underlying60 (fun _=>by kernel_rfl) c oz n];unfold sliced;rw [if_neg f9];simp only [Option.map_some,Addr.add];rw [if_neg oz,Nat.zero_add];try rw [Nat.mul_one]
  have i2:∀ n:World,(Instr.slice 60 (.slice (some ⟨g,0,none⟩) m m) none (some (.int .i64 (c:Int))) none).run Tryz.prog n=.ok (.slice (some ⟨g,0,none⟩) c m) n:=fun n=>by
   rw [Gy (size:=2) Tryz.underlying60 (fun _=>by kernel_rfl) c oz n];unfold sliced
   split <;> simp [Addr.add]
  go_wp2_with fail;have N:k.drew.heap[g]?=some (.cells f.toArray 63 (0,0)):=s.out;have a4:∀(j:Nat) (v:Value),b8[j]?=some v->k.drew.cell? ((⟨g,0,none⟩:Addr).add j)=some v:=b4.out;have L:Ext w k.drew:=G.out.drew;obtain⟨n,J⟩:=zE k.drew;rw [J] at N a4 L;obtain⟨e0,e8,d6⟩:=Zh3 N a4 L;clear N a4 L s b4 G;refine wp_region_held_drew (S:=fun _=>True) kz trivial ?_;intro f0;rw [J];clear J f0;refine tH 0 38 trivial ?_;refine tH 1 39 trivial ?_;refine tH 2 40 trivial ?_;refine tH 3 41 trivial ?_;refine tH 4 42 trivial ?_;refine tH 5 43 trivial ?_;refine tH 6 44 trivial ?_;refine rH [7] ?_;refine AllReadyH.cons rfl (fun K hK=>?_) AllReadyH.nil;refine Gr rfl (.tmp 41) (.tmp 44) 60 60 rfl 63 Tryz.underlying60 2 b5.out (m - c) (m - c) c m ⟨g,0,none⟩ g (c*2) rfl rfl f 63 e0.out b8 (by rw [e1.out];try rw [Nat.mul_one]) e8.out d7.out e6.out d e7.out b7 e2.out ?_;intro g2 d9 f1;refine hK.out _ _ trivial (fun _=>?_);clear hK K;change wpAnyH _ _ _ _ _ _ _ (Act.put _ (some 45) _) _;try simp only [Act.put,pq]
  have e9:Ext w g2:=d6.out.after f1 (fun b y h2=>by have:=a8.out;omega);have U:=e3.out;have i0:(0:Int)<=(d:Int):=by omega
  have g7:(m:Int)<=1000:=by omega
  have i3:IntKind.i64.wrap ((c:Int)+(d:Int))=(c:Int)+(d:Int):=IntWalk.i64_in _ oz;refine tH 8 46 trivial ?_;refine tH 9 8 trivial ?_;refine wpAnyH_done kz ?_ _;go_wp2;exact⟨⟨c+d,b7,by have:=H.out;omega,by have:=H.out;omega,e4.out,e5.out,tz,rfl,d9,e9⟩,by have:=H.out;simp [intOf];omega⟩
 obtain rfl:c=m:=by omega
 have y:¬ (c:Int)<(c:Int):=by omega
 have d0:k.ownsRow g 63 2 (.slice (some ⟨g,0,none⟩) c c) c (Y3 cs c):=by
  have Q:=C.out;have f6:=A.out;refine⟨by rw [Ha,r.out],.inr ⟨g,c,f.toArray,rfl,Nat.le_refl _,s.out,Nat.le_refl _,by unfold maxLen;omega,by simpa using f6,by simpa using Q⟩⟩
 have d8:=Zh d0;clear d0;go_wp2;go_ret;exact⟨_,rfl,by rw [a8.out];exact d8.out,G.out⟩
theorem Ke{w:World}{D:Addr}{xc m:Nat}{cs:List Value}(d4:∀ j u,cs[j]?=some u->w.cell? (D.add j)=some u) (c8:cs.length=1) (y:∀ u∈cs,u.oneCell'=true) (W:1<=m) (g6:m<=1000) :
  Calls Tryz.prog 57 #[.slice (some D) 1 xc,.int .i64 (m:Int)] w fun e w'=>∃ v,e=.returned v/\w'.ownsRow w.heap.size 23 1 v m (Y3 cs m)/\Ext w w':=by
 have X:=fun(k:World)=>Pl 1 m zd oz k;have b9:1*m / 18446744073709551616=0:=by omega
 have c0:1*m % 18446744073709551616=m:=by omega
 rw [b9,c0] at X;obtain⟨p,O⟩:∃ o,o=(madeCells #[.slice none 0 0] (m)).toList:=⟨_,rfl⟩;have c6:p.length=m:=by rw [O];simp [madeCells]
 have f7:∀ k:World,(Instr.makeSlice 74 (.int .i64 (m:Int)) (.int .i64 (m:Int))).run Tryz.prog k=.ok (.slice (some ⟨k.heap.size,0,none⟩) m m) (k.alloc (.cells p.toArray 23)):=fun k=>by
  have t:(Tryz.prog.info? 23).map (fun i=>(i.zero,i.size,i.bytes))=some (some (.slice none 0 0),1,24):=by kernel_rfl
  cases q:Tryz.prog.info? 23 with
  | none=>rw [q] at t;cases t
  | some i=>
   rw [q] at t;simp only [Option.map_some,Option.some.injEq,Prod.mk.injEq] at t;have a2:=run_make (P:=Tryz.prog) k 74 23 i (.slice none 0 0) Tryz.underlying74 q t.1 .i64 .i64 m m oz oz (by rw [t.2.2];omega) oz;rw [t.2.1] at a2;try rw [Nat.mul_one] at a2
   rw [O,Array.toArray_toList];exact a2
 have B:(Tryz.prog.info? 23).map (·.size)=some 1:=by kernel_rfl
 have d5:∀ j u,cs[j]?=some u->(w.alloc (.cells p.toArray 23)).cell? (D.add j)=some u:=fun j u h=>((Q0.refl (fun _=>False) w).alloc (.cells p.toArray 23)).cell_some (d4 j u h) id;have d2:(w.alloc (.cells p.toArray 23)).heap[w.heap.size]?=some (.cells p.toArray 23 (0,0)):=new_at rfl;obtain⟨a6,r,b5,b2,b6,b3,I⟩:=Zh7 y c8 B X d5 d2 c6;clear X b9 c0 B y c8 d4 O d5 d2 c6;have f8:¬ (m:Int)<0:=by omega
 have f3:(m:Int)<=9223372036854775807:=by omega
 have f2:decide ((9223372036854775807:Int)<(m:Int))=false:=by rw [decide_eq_false_iff_not];omega
 go_enter Tryz.func57,Tryz.ntmps57;obtain⟨o,z⟩:=zE (p.take 0++cs++p.drop (0+cs.length));have b0:=Zh z;clear z;go_upto_region 7 with (go_at_call 101;refine(b2.out _).mono ?_;rintro e w' ⟨rfl,d3⟩;rw [d3];clear d3)
 go_wp2_with (refine Hn rfl (.tmp 31) (.tmp 32) 74 74 rfl 23 Tryz.underlying74 1 b5.out m m 1 xc D w.heap.size 0 rfl rfl p 23 b3.out cs (by rw [r.out,show Nat.min 1 m=1 from Nat.min_eq_left W]) b6.out (by rw [r.out,I.out];omega) a6.out 1 (Nat.min_eq_left W) o b0.out ?_)
 intro g1 M c5;have z:=b0.out;obtain⟨g,F⟩:=zE w.heap.size;have c2:Ext w g1:=((Q0.refl (fun _=>False) w).alloc (.cells p.toArray 23)).after c5 (fun b y h2=>by omega);rw [F] at M;have c3:o.length=m:=by rw [<-z];simp [I.out,r.out];omega
 have c4:o.take (1)=Y3 cs 1:=by
  rw [<-z,Mn,List.take_zero,List.nil_append,List.take_append_of_le_length (by rw [r.out];exact Nat.le_refl _)];exact List.take_of_length_le (by rw [r.out];exact Nat.le_refl _)
 have s:=M;obtain⟨a7,a9,b1,a8⟩:=Zh4 c2 c3 c4 F;rw [F];clear M c2 z c3 c4 c5 b6 b3 I b2 f7 F;go_wp2
 refine wp_loop (fun a k=>∃(c:Nat) (f:List Value),1<=c/\c<=m/\f.length=m/\f.take (c)=Y3 cs c/\a.defers=[]/\gS a [7,8]=(48,[.slice (some ⟨g,0,none⟩) m m,.int .i64 c])/\Hid (k.heap[g]?=some (.cells f.toArray 23 (0,0)))/\Ext w k)
  (fun a _=>m - (intOf (a.tmps.getD 8 undef)).toNat) ?_ ?_
 ·exact⟨1,o,by omega,W,a9.out,b1.out,rfl,rfl,s,a7.out⟩
 clear s a7 a9 b1;rintro⟨i4,_⟩ k ⟨c,f,g8,g9,c7,c9,f4,B,s,c1⟩;subst f4;obtain⟨u,rfl⟩:=Qt B;clear B;obtain⟨A,C,G⟩:=Zh3 c7 c9 c1;clear c7 c9 c1;by_cases g5:c<m;case pos=>
  have y:(c:Int)<(m:Int):=by omega
  have g3:(0:Int)<=(c:Int):=by omega
  have g4:(c:Int)<=(m:Int):=by omega
  have f9:¬ m=c:=by omega
  obtain⟨d,q⟩:=zE (Nat.min c (m - c));have g0:min c (m - c)=d:=q;have a1:1<=d/\d<=c/\c+d<=m:=by omega
  have x:(f.take (d)).length=d:=by rw [List.length_take,A.out];omega
  have a3:f.take (d)=Y3 cs d:=by
   have e:(f.take (c)).take (d)=f.take (d):=by rw [List.take_take];congr 1;omega
   rw [<-e,C.out];have:=Fw r.out a1.2.1;first | exact this | (rw [Nat.mul_one] at this;exact this)
  have T:c+(f.take (d)).length<=f.length:=by rw [x,A.out];omega
  have a5:∀ j v,(f.take (d))[j]?=some v->k.cell? ((⟨g,0,none⟩:Addr).add j)=some v:=fun j v h=>by
   have f5:j<d:=by have:=(List.getElem?_eq_some_iff.1 h).1;rw [x] at this;exact this
   rw [List.getElem?_take_of_lt f5] at h;have Q:=cell_of_row k g j f.toArray _ _ s.out;have:(⟨g,0,none⟩:Addr).add j=⟨g,j,none⟩:=by unfold Addr.add;split <;> simp_all
   rw [this,Q];simpa using h
  have Y:(f.take (c)++f.take (d)++f.drop (c+(f.take (d)).length)).length=m:=by
   rw [List.length_append,List.length_append,x,List.length_take,List.length_drop,A.out];omega
  have Z:(f.take (c)++f.take (d)++f.drop (c+(f.take (d)).length)).take ((c+d))=Y3 cs (c+d):=by
   have d1:(f.take (c)++f.take (d)).length=(c+d):=by rw [List.length_append,x,List.length_take,A.out];omega
   rw [List.take_append_of_le_length (by rw [d1];exact Nat.le_refl _),List.take_of_length_le (by rw [d1];exact Nat.le_refl _),C.out,a3,<-Wz]
  have a0:∀ v∈f.take (d),v.oneCell'=true:=by rw [a3];exact Hd a6.out d
  have V:(f.take (d)).length=Nat.min c (m - c):=by rw [x,q]
  obtain⟨b7,E⟩:=zE (f.take (c)++f.take (d)++f.drop (c+(f.take (d)).length));rw [E] at Y Z;obtain⟨b8,R⟩:=zE (f.take (d));rw [R] at T a0 x V E;simp only [R] at a5;have e2:=Zh E;clear E;have U:(c:Int)+(d:Int)<=(m:Int):=by omega
  obtain⟨e1,b4,d7,e6,e4,e5,e7⟩:=Zh7 V a5 T a0 Y Z q;clear V a5 T a0 Y Z a3 R x q g0 C;have H:=Zh a1;have e3:=Zh U;clear a1 U f3 f2 f8
  have i1:∀ n:World,(Instr.slice 74 (.slice (some ⟨g,0,none⟩) m m) (some (.int .i64 (c:Int))) none none).run Tryz.prog n=.ok (.slice (some ⟨g,c,none⟩) (m - c) (m - c)) n:=fun n=>by
   rw [Wu (size:=1) Tryz.underlying74 (fun _=>by kernel_rfl) c oz n];unfold sliced;rw [if_neg f9];simp only [Option.map_some,Addr.add];rw [if_neg oz,Nat.zero_add];try rw [Nat.mul_one]
  have i2:∀ n:World,(Instr.slice 74 (.slice (some ⟨g,0,none⟩) m m) none (some (.int .i64 (c:Int))) none).run Tryz.prog n=.ok (.slice (some ⟨g,0,none⟩) c m) n:=fun n=>by
   rw [Gy (size:=1) Tryz.underlying74 (fun _=>by kernel_rfl) c oz n];unfold sliced
   split <;> simp [Addr.add]
  go_wp2_with fail;have N:k.drew.heap[g]?=some (.cells f.toArray 23 (0,0)):=s.out;have a4:∀(j:Nat) (v:Value),b8[j]?=some v->k.drew.cell? ((⟨g,0,none⟩:Addr).add j)=some v:=b4.out;have L:Ext w k.drew:=G.out.drew;obtain⟨n,J⟩:=zE k.drew;rw [J] at N a4 L;obtain⟨e0,e8,d6⟩:=Zh3 N a4 L;clear N a4 L s b4 G;refine wp_region_held_drew (S:=fun _=>True) kz trivial ?_;intro f0;rw [J];clear J f0;refine tH 0 38 trivial ?_;refine tH 1 39 trivial ?_;refine tH 2 40 trivial ?_;refine tH 3 41 trivial ?_;refine tH 4 42 trivial ?_;refine tH 5 43 trivial ?_;refine tH 6 44 trivial ?_;refine rH [7] ?_;refine AllReadyH.cons rfl (fun K hK=>?_) AllReadyH.nil;refine Gr rfl (.tmp 41) (.tmp 44) 74 74 rfl 23 Tryz.underlying74 1 b5.out (m - c) (m - c) c m ⟨g,0,none⟩ g (c) rfl rfl f 23 e0.out b8 (by rw [e1.out];try rw [Nat.mul_one]) e8.out d7.out e6.out d e7.out b7 e2.out ?_;intro g2 d9 f1;refine hK.out _ _ trivial (fun _=>?_);clear hK K;change wpAnyH _ _ _ _ _ _ _ (Act.put _ (some 45) _) _;try simp only [Act.put,pq]
  have e9:Ext w g2:=d6.out.after f1 (fun b y h2=>by have:=a8.out;omega);have U:=e3.out;have i0:(0:Int)<=(d:Int):=by omega
  have g7:(m:Int)<=1000:=by omega
  have i3:IntKind.i64.wrap ((c:Int)+(d:Int))=(c:Int)+(d:Int):=IntWalk.i64_in _ oz;refine tH 8 46 trivial ?_;refine tH 9 8 trivial ?_;refine wpAnyH_done kz ?_ _;go_wp2;exact⟨⟨c+d,b7,by have:=H.out;omega,by have:=H.out;omega,e4.out,e5.out,tz,rfl,d9,e9⟩,by have:=H.out;simp [intOf];omega⟩
 obtain rfl:c=m:=by omega
 have y:¬ (c:Int)<(c:Int):=by omega
 have d0:k.ownsRow g 23 1 (.slice (some ⟨g,0,none⟩) c c) c (Y3 cs c):=by
  have Q:=C.out;have f6:=A.out;refine⟨by rw [Ha,r.out],.inr ⟨g,c,f.toArray,rfl,Nat.le_refl _,s.out,Nat.le_refl _,by unfold maxLen;omega,by simpa using f6,by simpa using Q⟩⟩
 have d8:=Zh d0;clear d0;go_wp2;go_ret;exact⟨_,rfl,by rw [a8.out];exact d8.out,G.out⟩
end Go.Proofs.YtejenndedjabhaaGreatDoor
namespace Go.Proofs.YtejenndedjabhaaGreatDoor
open Go.RowKit Go.Ab
attribute [local go_sem] Oper.semAt_some Z6 Qn
def boV(l:List Bool):List Value:=l.map Value.bool
theorem Q5t(l:List Bool){k:Nat}(h:k<l.length):(boV l).getD k undef=.bool l[k]:=by rw [List.getD_eq_getElem?_getD];simp [boV,h]
def Vz(xs:List Bool)(b:Bool):Bool:=xs.contains b
theorem Q4n{xs:List Bool}{k:Nat}(h:k<xs.length)(b:Bool):Vz (xs.take (k+1)) b=(Vz (xs.take k) b || b == xs[k]):=by
 unfold Vz;rw [List.take_succ_eq_append_getElem h,List.contains_append];cases b <;> cases xs[k] <;> simp
theorem Q1n{w:World}{ao:Option Addr}{N cap:Nat}{xs:List Bool}(k:Rd w (.slice ao N cap) N 1 (boV xs)) (o:xs.length=N) (b:Bool) :
  Calls Tryz.prog 102 #[.slice ao N cap,.bool b] w fun e w'=>∃ z:Int,e=.returned (.int .i64 z)/\decide (0<=z)=Vz xs b/\w'=w:=by
 have E:=k.2.1;unfold maxLen at E;have y:=Zh k;have m:=Zh o;clear k o;go_enter Tryz.func102,Tryz.ntmps102;go_wp2
 refine wp_loop (fun a n=>∃(c:Nat),c<=N/\a.defers=[]/\gS a [0,1,7,8]=(19,[.slice ao N cap,.bool b,.int .i64 N,.int .i64 c])/\Vz (xs.take c) b=false/\n=w)
  (fun a _=>N - (intOf (a.tmps.getD 8 undef)).toNat) ?_ ?_
 ·exact⟨0,by omega,rfl,rfl,by simp [Vz],rfl⟩
 rintro⟨M,_⟩ n ⟨c,K,D,u,p,rfl⟩;subst D;obtain⟨O,rfl⟩:=Qt u;clear u;have l:=Zh p;clear p;by_cases r:c<N
 ·have C:(c:Int)<(N:Int):=by omega
  have H:(0:Int)<=(c:Int):=by omega
  have j:c<xs.length:=by rw [m.out];exact r
  obtain⟨G,L,F,t,J,i⟩:=Zq y.out r;simp only [zV,true_and] at t;obtain⟨rfl,rfl⟩:=t;rw [Q5t xs j] at i;by_cases d:b=xs[c]
  ·have f:Vz xs b=true:=by unfold Vz;rw [List.contains_iff_mem,d];exact List.getElem_mem j
   have g:=Zh f;rw [<-d] at i;clear d f;have I:(b == b)=true:=by simp
   go_wp2;go_ret;exact⟨_,rfl,by rw [g.out];simp,rfl⟩
  ·have q:(b == xs[c])=false:=by simpa using d
   have s:Vz (xs.take (c+1)) b=false:=by rw [Q4n j,l.out,q];rfl
   have A:=Zh s;obtain⟨x,v⟩:=zE (xs[c]);rw [v] at q i;clear d s v;go_wp2;exact⟨⟨c+1,by omega,tz,rfl,A.out,by first | trivial | rfl⟩,nz⟩
 ·obtain rfl:c=N:=by omega
  have C:¬ (c:Int)<(c:Int):=by omega
  have f:Vz xs b=false:=by
   have B:=l.out
   rwa [List.take_of_length_le (by rw [m.out];exact Nat.le_refl _)] at B
  have g:=Zh f;clear f;go_wp2;go_ret;exact⟨_,rfl,by rw [g.out];decide,rfl⟩
theorem Fc{w:World}{ao:Option Addr}{N cap:Nat}{xs:List Bool}(d:Rd w (.slice ao N cap) N 1 (boV xs)) (c:xs.length=N) (b:Bool) :
  Calls Tryz.prog 56 #[.slice ao N cap,.bool b] w fun e w'=>e=.returned (.bool (Vz xs b))/\w'=w:=by
 have a:=Zh (Q1n d c (cap:=cap) b);clear d c;go_enter Tryz.func56,Tryz.ntmps56;go_wp2_with fail;refine a.out.mono ?_;rintro e i ⟨j,rfl,f,rfl⟩;have g:=Zh f;clear a f;go_wp2;go_ret;exact⟨by rw [<-g.out];rfl,rfl⟩
theorem Q0u:(Tryz.prog.info? 4).map (fun i=>(i.zero,i.size,i.bytes))=some (some (.bool false),1,1):=by kernel_rfl
def Kg(BS:List Bool)(N k:Nat):List Value:=(List.range N).map fun i=>Value.bool (if i<k then BS.getD i false else false)
theorem Q0d(BS:List Bool)(N:Nat):Kg BS N 0=List.replicate N (.bool false):=by
 unfold Kg;apply List.ext_getElem
 ·simp
 ·intro c a b;simp
theorem Q4w{BS:List Bool}{N:Nat}(h:BS.length=N):Kg BS N N=boV BS:=by
 unfold Kg boV;apply List.ext_getElem
 ·simp [h]
 ·intro a b e;have c:a<N:=by simpa using b
  have d:a<BS.length:=by omega
  simp [c,d]
theorem Q2g{BS:List Bool}{N k:Nat}(_:k<N):(Kg BS N k).set k (.bool (BS.getD k false))=Kg BS N (k+1):=by
 unfold Kg;apply List.ext_getElem
 ·simp
 ·intro a e d;have f:a<N:=by simpa using d
  rw [List.getElem_set];by_cases b:k=a
  ·subst b;simp
  ·rw [if_neg b];simp only [List.getElem_map,List.getElem_range]
   congr 1
   by_cases c:a<k
   ·rw [if_pos c,if_pos oz]
   ·rw [if_neg c,if_neg oz]
theorem Q4b{BS:List Bool}{N k i:Nat}(hi:i<N):∃ x,(Kg BS N k)[i]?=some (.bool x):=⟨_,by unfold Kg;rw [List.getElem?_map,List.getElem?_range hi];rfl⟩
theorem Br(w:World):Z9 w (.slice none 0 0) []:=⟨⟨by simp,by simp [maxLen],none,0,rfl,fun h=>by simp at h⟩,fun p hp=>by cases hp⟩
theorem R6{w:World}{d:Option Addr}{m pc:Nat}{fr:Q45}(j:Wr w (.slice d m pc) fr) (_:fr.length=m) {k:Nat} (i:k<fr.length) :
  ∃ g off fo fc qo qc,d=some ⟨g,off,none⟩/\w.cell? ⟨g,off+k*2,none⟩=some (.slice fo fr[k].1.1.length fc)/\w.cell? ⟨g,off+k*2+1,none⟩=some (.slice qo fr[k].1.2.length qc) /\
   Q4 w (.slice fo fr[k].1.1.length fc) fr[k].1.1/\Q4 w (.slice qo fr[k].1.2.length qc) fr[k].1.2:=by
 obtain⟨g,off,q,a,b,⟨s,t,f,l,o⟩,_⟩:=Gq.at j i;obtain⟨a,r⟩:=a zd;simp only [zV] at a;obtain⟨rfl,_,rfl⟩:=a;rw [f] at b;obtain⟨fo,fc,rfl,n,_⟩:=l;obtain⟨qo,qc,rfl,p,_⟩:=o;have c:=b 0 _ rfl;have e:=b 1 _ rfl;rw [Nat.add_zero] at c;exact⟨g,off,fo,fc,qo,qc,rfl,c,e,n,p⟩
theorem M8{w:World}{ps:Zw}{lo:Option Addr}{n lc:Nat}{fr:Q45}{c5:Option Addr}{m pc:Nat}{s1 s2:Nat}(j8:Z9 w (.slice lo n lc) ps) (k2:ps.length=n) (k4:Wr w (.slice c5 m pc) fr) (f6:fr.length=m) (k6:Qe (s1,s2)) (e9:Tab w) :
  Calls Tryz.prog 40 #[.slice lo n lc,.slice c5 m pc,.agg #[.int .u32 (s1:Int),.int .u32 (s2:Int)]] w fun e w'=>∃ vo vc,e=.returned (.tuple #[.slice vo (Hk (ps.map (·.1)) (fr.map (·.1)) (s1,s2)).length vc,.int .i64 (Je (ps.map (·.1)) (fr.map (·.1)) (s1,s2))])/\w'.ownsRow w.heap.size 4 1 (.slice vo (Hk (ps.map (·.1)) (fr.map (·.1)) (s1,s2)).length vc) (Hk (ps.map (·.1)) (fr.map (·.1)) (s1,s2)).length (boV (Hk (ps.map (·.1)) (fr.map (·.1)) (s1,s2)))/\Ext w w':=by
 have o2:=k4.1.2.1;rw [f6] at o2;unfold maxLen at o2;obtain⟨c,e7⟩:=zE (fr.map (·.1));have b6:c.length=m:=by rw [<-e7,List.length_map];exact f6
 have n5:∀ k (h:k<fr.length) (z:k<c.length),c[k]=fr[k].1:=fun k h z=>by subst e7;exact List.getElem_map _
 obtain⟨d,i4⟩:=zE (ps.map (·.1));rw [e7,i4];have I:=fun(j:World) (l:Ext w j)=>Gs (j8.ext l) k2 (e9.keep l id) (lc:=lc);have z:=fun(j:World)=>Yg k6 j;have W:=fun(j:World) (l:Ext w j) {o8:Option Addr} {o7:Nat} {i:Wd} (c4:Q4 j (.slice o8 i.length o7) i)=>Gk (j8.ext l) k2 c4 rfl (e9.keep l id) (lc:=lc);have a7:=fun(j:World) (l:Ext w j) {y:Option Addr} {fn x:Nat} {F:Option Addr} {qn C:Nat} {i t:Wd} (O:Q4 j (.slice y fn x) i) (r:Q4 j (.slice F qn C) t)=>Du (Br j) rfl O r (e9.keep l id);simp only [List.map_nil] at a7;simp only [i4] at I W;have k5:Zd d≠0->Je d c (s1,s2)=Zd d:=fun h=>by unfold Je;rw [if_neg h]
 have f7:Zd d=0->256<c.length->Je d c (s1,s2)=12:=fun h z=>by unfold Je;rw [if_pos h,if_pos z]
 have a0:Zd d=0->¬ 256<c.length->Z5 (Vd c)≠0->Je d c (s1,s2)=Z5 (Vd c):=fun h z W=>by unfold Je;rw [if_pos h,if_neg z,if_neg W]
 have K:Zd d=0->¬ 256<c.length->Z5 (Vd c)=0->okS (s1,s2)=false->Je d c (s1,s2)=14:=fun h z W a7=>by unfold Je;rw [if_pos h,if_neg z,if_pos W,a7];rfl
 have B:Zd d=0->¬ 256<c.length->Z5 (Vd c)=0->okS (s1,s2)=true->Je d c (s1,s2)=Z5 (Fm d c (s1,s2)):=fun h z W a7=>by unfold Je;rw [if_pos h,if_neg z,if_pos W,a7];rfl
 have b7:Je d c (s1,s2)≠0->Hk d c (s1,s2)=[]:=Q8n;have f0:Je d c (s1,s2)=0->Hk d c (s1,s2)=frB d c (s1,s2):=Q8j;have j3:=fun(k:Nat) (j7:k<c.length) (h:Z5 (Vd c)=0)=>Q7h h j7;have j4:∀ k (h:k<c.length),(Vd c)[k]?=some (Za [] c[k].1 c[k].2):=fun k h=>by unfold Vd;rw [List.getElem?_map,List.getElem?_eq_getElem h];rfl
 have j6:∀ k (h:k<c.length),(Fm d c (s1,s2))[k]?=some (Jl d (Z0 c[k].1 c[k].2 (s1,s2))):=fun k h=>by unfold Fm;rw [List.getElem?_map,List.getElem?_eq_getElem h];rfl
 have j5:∀ k (h:k<c.length),(frB d c (s1,s2)).getD k false=!decide (Z0 c[k].1 c[k].2 (s1,s2)=Xf d (Z0 c[k].1 c[k].2 (s1,s2))):=fun k h=>by rw [List.getD_eq_getElem?_getD];unfold frB;simp [h]
 have j9:(Vd c).length=m:=by simp [Vd,b6]
 have k1:(Fm d c (s1,s2)).length=m:=by simp [Fm,b6]
 have k0:(frB d c (s1,s2)).length=m:=by simp [frB,b6]
 obtain⟨l1,i1⟩:=zE (Vd c);obtain⟨l2,i2⟩:=zE (Fm d c (s1,s2));obtain⟨BS,g7⟩:=zE (frB d c (s1,s2));obtain⟨r7,i6⟩:=zE (Je d c (s1,s2));obtain⟨r6,o0⟩:=zE (Hk d c (s1,s2));obtain⟨l0,o⟩:=zE (Zd d);obtain⟨q4,i5⟩:=zE (okS (s1,s2));rw [i6,o0] at b7 f0 ⊢;rw [g7] at f0;simp only [o] at I;simp only [i5] at z;rw [i6,o] at k5 f7 a0 K B;rw [i1] at a0 K B;rw [i5] at K B;rw [i2] at B;rw [b6] at f7 a0 K B;simp only [i1] at j3 j4 j9;simp only [i2] at j6 k1;simp only [g7] at j5 k0;obtain⟨m0,e1,l9,l8,q1,l4,l5,p4⟩:=Zh8 k4 f6 b6 n5 k6 I z W;obtain⟨p5,m7,m8,m9,d0,d1,c6,o9⟩:=Zh8 a7 k5 f7 a0 K B b7 f0;obtain⟨p9,p1,p3,p2,m5,m6,g2⟩:=Zh7 j3 j4 j6 j5 j9 k1 k0;clear j8 k2 k4 f6 k6 e9 e7 b6 n5 I z W a7 k5 f7 a0 K B b7 f0 j3 j4 j6 j5 j9 k1 k0 i1 i2 g7 i6 o0 o i5 i4;have i0:Ext w (w.alloc (.cells #[.int .u32 (s1:Int),.int .u32 (s2:Int)] 26)):=(Q0.refl _ w).alloc _;have e0:(w.alloc (.cells #[.int .u32 (s1:Int),.int .u32 (s2:Int)] 26)).heap[w.heap.size]?=some (.cells #[.int .u32 (s1:Int),.int .u32 (s2:Int)] 26 (0,0)):=new_at rfl;obtain⟨j,i8⟩:=zE (w.alloc (.cells #[.int .u32 (s1:Int),.int .u32 (s2:Int)] 26));obtain⟨v,i9⟩:=zE w.heap.size;rw [i8] at i0 e0;rw [i9] at e0;obtain⟨e3,c8,f9⟩:=Zh3 i9 i8 i0;clear i8 i9 i0;go_enter Tryz.func40,Tryz.ntmps40;go_upto_region 1 with (fail)
 rw [c8.out,e3.out];clear c8;have G:j.cell? ⟨v,0,none⟩=some (.int .u32 (s1:Int)):=by rw [cell_of_row _ _ _ _ _ _ e0];rfl
 have M:j.cell? ⟨v,1,none⟩=some (.int .u32 (s2:Int)):=by rw [cell_of_row _ _ _ _ _ _ e0];rfl
 clear e0;go_wp2_with fail;refine(l4.out j f9.out).mono ?_;rintro e r5 ⟨rfl,X⟩;have a1:=X.cell_some G id;have a2:=X.cell_some M id;have T:=Zh (f9.out.trans X);clear l4 X G M f9;by_cases s:l0=0;case neg=>
  have c0:(l0 != 0)=true:=by simpa using s
  have A:=m7.out s;subst A;have N:=c6.out s;subst N;go_wp2;refine bodyPost_ret (Qi rfl _ _ _) rfl ⟨_,_,rfl,World.ownsRow_nil _ _ _ _,T.out⟩
 subst s;by_cases f1:256<m
 ·have I:(m:Int) > 256:=by omega
  have A:=m8.out uz f1;subst A;have N:=c6.out zd;subst N;go_wp2;refine bodyPost_ret (Qi rfl _ _ _) rfl ⟨_,_,rfl,World.ownsRow_nil _ _ _ _,T.out⟩
 have I:¬ (m:Int) > 256:=by omega
 have a0:=m9.out uz f1;have K:=d0.out uz f1;have B:=d1.out uz f1;obtain⟨n0,n1,n2⟩:=Zh3 a0 K B;clear m7 m8 m9 d0 d1 a0 K B;go_wp2;clear I
 refine wp_loop (fun a g=>∃(k:Nat),k<=m/\a.defers=[]/\gS a [0,1,5,26,27,28]=(78,[.slice lo n lc,.slice c5 m pc,.pointer (some ⟨v,0,none⟩),.slice c5 m pc,.int .i64 m,.int .i64 k])/\Z5 (l1.take k)=0/\Ext r5 g)
  (fun a _=>m - (intOf (a.tmps.getD 28 undef)).toNat) ?_ ?_
 ·exact⟨0,by omega,rfl,rfl,rfl,Q0.refl _ _⟩
 rintro⟨r4,_⟩ g ⟨k,j7,j2,d8,u,l⟩;subst j2;obtain⟨i,rfl⟩:=Qt d8;clear d8;have U:=Zh u;have P:=l.cell_some a1 id;have Q:=l.cell_some a2 id;have H:=Zh (T.out.trans l);have m3:=Zh l;clear u l a1 a2 T;by_cases f5:k<m;case pos=>
  have I:(k:Int)<(m:Int):=by omega
  have q7:(0:Int)<=(k:Int):=by omega
  have b2:k<fr.length:=by rw [e1.out];exact f5
  have Y:k<c.length:=by rw [l9.out];exact f5
  have f3:k<l1.length:=by rw [m5.out];exact f5
  obtain⟨g6,r3,y,x,F,C,rfl,a5,a6,O,r⟩:=R6 (Pr m0.out H.out) e1.out b2;have d5:=l8.out k b2 Y;have b8:=p1.out k Y;rw [List.getElem?_eq_getElem f3,Option.some.injEq] at b8;have b1:=Kh f3 U.out;have J:=Km f3 U.out;rw [d5] at b8;obtain⟨⟨i,t⟩,d9⟩:=zE (fr[k].1);rw [d9] at a5 a6 O r b8;dsimp only at a5 a6 O r b8;rw [b8] at b1 J;have b5:=Zh b1;have b4:=Zh J;obtain⟨p,a8⟩:=zE g.heap.size;have Z:(g.alloc (.cells #[.slice y i.length x,.slice F t.length C] 63)).heap[p]?=some (.cells #[.slice y i.length x,.slice F t.length C] 63 (0,0)):=new_at a8.symm;have o:Ext g (g.alloc (.cells #[.slice y i.length x,.slice F t.length C] 63)):=(Q0.refl _ g).alloc _;have b0:=p5.out _ (H.out.trans o) (O.ext o) (r.ext o);obtain⟨l3,i3⟩:=zE (Za [] i t);rw [i3] at b0;obtain⟨p6,S,a4,a3⟩:=Zh4 i3 a8 b0 o;clear b0 o b8 b1 J d5 d9 O r i3 P Q b2 Y f3;go_upto_region 9 with (fail)
  obtain⟨V,d4⟩:=zE (g.alloc (.cells #[.slice y i.length x,.slice F t.length C] 63));rw [d4] at Z a3 a4 ⊢;try rw [S.out]
  have g5:V.cell? ⟨p,0,none⟩=some (.slice y i.length x):=by rw [cell_of_row V p 0 _ _ _ Z];rfl
  have c1:V.cell? ⟨p,1,none⟩=some (.slice F t.length C):=by rw [cell_of_row V p 1 _ _ _ Z];rfl
  clear Z d4 a8 S a5 a6;go_wp2_with fail;refine a4.out.mono ?_;rintro e n3 ⟨rfl,a9⟩;have b3:=Zh (a3.out.trans a9);clear a9 a3 a4 g5 c1;rw [p6.out] at b5 b4;by_cases s:l3=0;case neg=>
   have c0:(l3 != 0)=true:=by simpa using s
   have J:=b4.out s;have A:=n0.out (by rw [J];exact s);rw [J] at A;clear J;subst A;have N:=c6.out s;subst N;go_wp2;refine bodyPost_ret (Qi rfl _ _ _) rfl ⟨_,_,rfl,World.ownsRow_nil _ _ _ _,H.out.trans b3.out⟩
  subst s;go_wp2;exact⟨⟨k+1,by omega,by first | trivial | rfl,rfl,b5.out,m3.out.trans b3.out⟩,nz⟩
 obtain rfl:k=m:=by omega
 have I:¬ (k:Int)<(k:Int):=by omega
 have u:=U.out;rw [List.take_of_length_le (by rw [m5.out];exact Nat.le_refl _)] at u;have p8:=Zh u;have K:=n1.out u;have B:=n2.out u;have d0:=Zh K;have d1:=Zh B;clear K B n0 n1 n2 u U;have r:=l5.out g;unfold sV at r;have c8:=Zh r;clear r l5;go_wp2_with fail;refine c8.out.mono ?_;rintro e g4 ⟨rfl,X⟩;have G:=X.cell_some P id;have M:=X.cell_some Q id;have T:=Zh (H.out.trans X);clear c8 X P Q H m3;cases q4 with
 | false=>
  have A:=d0.out uz;subst A;have N:=c6.out zd;subst N;go_wp2;refine bodyPost_ret (Qi rfl _ _ _) rfl ⟨_,_,rfl,World.ownsRow_nil _ _ _ _,T.out⟩
 | true=>
 have A:=d1.out uz;have m2:=Zh A;clear A d0 d1;have j1:v<=g4.heap.size:=by have:=T.out.size;rw [e3.out] at this;exact this
 go_wp2_with (at_make;refine Jg rfl (.tmp 45) (.tmp 45) 65 rfl v 4 _ 1 Tryz.underlying65 Q0u rfl .i64 .i64 k k k rfl rfl rfl rfl ?c1 ?c2 j1 ?_)
 case c1=>omega
 case c2=>unfold maxLen;omega
 intro s6 e8 e5;obtain⟨m,r1⟩:=zE k;subst r1;rw [<-Q0d BS k] at e8;obtain⟨R,n6⟩:=zE g4.heap.size;have a1:=e5.cell_some G id;have a2:=e5.cell_some M id;have j0:v<g4.heap.size:=by obtain⟨s5,f8,_⟩:=Gn G;exact(Array.getElem?_eq_some_iff.1 f8).1
 rw [n6] at e8 j1 j0 ⊢;obtain⟨m1,l7,q3⟩:=Zh3 e8 (T.out.trans e5) j0;clear j0 e8 e5 n6 G M T j1 I f5 j7;go_wp2
 refine wp_loop (fun a g=>∃(f:Nat),f<=k/\a.defers=[]/\gS a [0,1,5,12,47,48,49]=(78,[.slice lo n lc,.slice c5 k pc,.pointer (some ⟨v,0,none⟩),.slice (some ⟨R,0,none⟩) k k,.slice c5 k pc,.int .i64 k,.int .i64 f])/\g.ownsRow v 4 1 (.slice (some ⟨R,0,none⟩) k k) k (Kg BS k f)/\Z5 (l2.take f)=0/\g.cell? ⟨v,0,none⟩=some (.int .u32 (s1:Int))/\g.cell? ⟨v,1,none⟩=some (.int .u32 (s2:Int))/\Ext w g)
  (fun a _=>k - (intOf (a.tmps.getD 49 undef)).toNat) ?_ ?_
 ·exact⟨0,by omega,rfl,rfl,m1.out,rfl,a1,a2,l7.out⟩
 clear m1 l7 a1 a2;rintro⟨r4,_⟩ g ⟨f,s4,j2,d8,n8,u,G,M,l⟩;subst j2;obtain⟨i,rfl⟩:=Qt d8;clear d8;obtain⟨e2,U,H⟩:=Zh3 n8 u l;clear n8 u l;by_cases d7:f<k;case neg=>
  obtain rfl:f=k:=by omega
  have I:¬ (f:Int)<(f:Int):=by omega
  have u:=U.out;rw [List.take_of_length_le (by rw [m6.out];exact Nat.le_refl _),<-m2.out] at u;subst u;have N:=o9.out uz;subst N;have k3:=e2.out;rw [Q4w g2.out] at k3;have q0:=Zh k3;clear k3 e2 G M;go_wp2;refine bodyPost_ret (Qi rfl _ _ _) rfl ⟨some ⟨R,0,none⟩,f,by rw [g2.out];rfl,by rw [g2.out,e3.out];exact q0.out,H.out⟩
 have I:(f:Int)<(k:Int):=by omega
 have q7:(0:Int)<=(f:Int):=by omega
 have b2:f<fr.length:=by rw [e1.out];exact d7
 have Y:f<c.length:=by rw [l9.out];exact d7
 have f4:f<l2.length:=by rw [m6.out];exact d7
 obtain⟨g6,r3,y,x,F,C,rfl,a5,a6,O,r⟩:=R6 (Pr m0.out H.out) e1.out b2;have d5:=l8.out f b2 Y;have b9:=p3.out f Y;rw [List.getElem?_eq_getElem f4,Option.some.injEq] at b9;have d6:=p2.out f Y;have c3:=p9.out f Y p8.out;have b1:=Kh f4 U.out;have J:=Km f4 U.out;rw [d5] at b9 d6 c3;obtain⟨⟨i,t⟩,d9⟩:=zE (fr[f].1);rw [d9] at a5 a6 O r b9 d6 c3;dsimp only at a5 a6 O r b9 d6 c3;rw [b9] at b1 J;rw [<-m2.out] at J;have q9:=U1 c3.1;have r0:=U1 c3.2;obtain⟨b5,b4,c7⟩:=Zh3 b1 J d6;obtain⟨p,a8⟩:=zE g.heap.size;have Z:(g.alloc (.cells #[.slice y i.length x,.slice F t.length C] 63)).heap[p]?=some (.cells #[.slice y i.length x,.slice F t.length C] 63 (0,0)):=new_at a8.symm;have o:Ext g (g.alloc (.cells #[.slice y i.length x,.slice F t.length C] 63)):=(Q0.refl _ g).alloc _;have b0:=Gj (O.ext o) (r.ext o) q1.out oz;unfold sV at b0;have P:=o.cell_some G id;have Q:=o.cell_some M id;obtain⟨S,a4,a3⟩:=Zh3 a8 b0 o;clear b0 o b9 d6 b1 J d5 d9 O r G M b2 Y f4 c3 q9 r0;go_upto_region 19 with (fail)
 obtain⟨V,d4⟩:=zE (g.alloc (.cells #[.slice y i.length x,.slice F t.length C] 63));rw [d4] at Z a3 a4 P Q ⊢;try rw [S.out]
 have g5:V.cell? ⟨p,0,none⟩=some (.slice y i.length x):=by rw [cell_of_row V p 0 _ _ _ Z];rfl
 have c1:V.cell? ⟨p,1,none⟩=some (.slice F t.length C):=by rw [cell_of_row V p 1 _ _ _ Z];rfl
 clear Z d4 a8 S a5 a6;go_wp2_with fail;refine a4.out.mono ?_;rintro e n3 ⟨o8,o7,rfl,o4,a9⟩;obtain⟨_,_,r2,c4⟩:=Jm o4;cases r2;have G:=a9.cell_some P id;have M:=a9.cell_some Q id;have b3:=Zh (a3.out.trans a9);have f2:=p4.out n3 (H.out.trans b3.out) c4;obtain⟨c9,n7⟩:=zE (Z0 i t (s1,s2));rw [n7] at f2 c4 b5 b4 c7 ⊢;obtain⟨k9,g8⟩:=zE (Jl d c9);obtain⟨p0,g9⟩:=zE (Xf d c9);rw [g8,g9] at f2;rw [g8] at b5 b4;rw [g9] at c7;have m4:=Zh c4;have l6:=Zh f2;clear f2 c4 o4 a9 g8 g9 a4 a3 P Q g5 c1 n7;go_wp2_with fail;refine l6.out.mono ?_;rintro e r8 ⟨s0,rfl,o3,d2⟩;obtain⟨vo,vc,rfl,o5⟩:=Jm o3;have a1:=d2.cell_some G id;have a2:=d2.cell_some M id;have g0:=Zh (b3.out.trans d2);have o1:=eqW (m4.out.ext d2) o5;have S:=Zh o1;clear l6 o3 d2 b3 o5 o1 m4 G M;by_cases s:k9=0;case neg=>
  have c0:(k9 != 0)=true:=by simpa using s
  have A:=b4.out s;subst A;have N:=c6.out s;subst N;go_wp2;refine bodyPost_ret (Qi rfl _ _ _) rfl ⟨_,_,rfl,World.ownsRow_nil _ _ _ _,H.out.trans g0.out⟩
 subst s;obtain⟨g3,n9⟩:=zE (decide (c9=p0));rw [n9] at S c7;clear n9;go_wp2_with fail;refine S.out.mono ?_;rintro e e4 ⟨rfl,e6⟩;have P:=e6.cell_some a1 id;have Q:=e6.cell_some a2 id;have g1:=Zh (g0.out.trans e6);clear S e6 g0 a1 a2;have d3:=Qb e2.out g1.out;obtain⟨r9,b7⟩:=Q4b (BS:=BS) (k:=f) d7;have q8:=d3.cellAt f oz;rw [b7] at q8;have s3:=d3.frozenAt f;have k8:=Yc d3 f (.bool (!g3));have k7:=Q2g (BS:=BS) d7;rw [c7.out] at k7;rw [k7] at k8;have n4:Ext w (e4.setCell ⟨R,f,none⟩ (.bool (!g3))):=(H.out.trans g1.out).setCell (.inl (by rw [e3.out];exact(d3.lt R rfl).1)) _;have i7:Q0 (fun b=>b=R) e4 (e4.setCell ⟨R,f,none⟩ (.bool (!g3))):=by
  refine(Q0.refl (fun b=>b=R) e4).setCell ?_ _;exact .inr rfl
 have c0:¬ v=R:=by have:=q3.out;omega
 have o6:=i7.cell_some P c0;have f8:=i7.cell_some Q c0;obtain⟨q2,p7,q5,q6⟩:=Zh4 k8 n4 o6 f8;clear k8 n4 k7 b7 d3 e2 H g1 U i7 c0 o6 f8 P Q c7;go_wp2;exact⟨⟨f+1,by omega,by first | trivial | rfl,rfl,q2.out,b5.out,q5.out,q6.out,p7.out⟩,nz⟩
def Xi(ls:List Q5)(u:Wd):List UInt8:=match Zf ls u with
 | some v=>Qr v
 | none=>[45]
theorem Ku{ls:List Q5}{u v:Wd}(h:Zf ls u=some v):Xi ls u=Qr v:=by unfold Xi;rw [h]
theorem Kx{ls:List Q5}{u:Wd}(h:Zf ls u=none):Xi ls u=[45]:=by unfold Xi;rw [h]
theorem Q6f{ls:List Q5}{u v:Wd}(c:∀ x,Zf ls u=some x->∀ s∈x,Qe s)(d:∀ x,Zf ls v=some x->∀ s∈x,Qe s):decide (Xi ls u=Xi ls v)=Fb ls u v:=by
 unfold Fb;cases e1:Zf ls u with
 | none=>
  cases e2:Zf ls v with
  | none=>rw [Kx e1,Kx e2];simp
  | some y=>
   rw [Kx e1,Ku e2]
   have:[45]≠Qr y:=fun e=>by
    have:=congrArg List.length e;rw [Vi] at this;simp at this;omega
   simp [this]
 | some x=>
  cases e2:Zf ls v with
  | none=>
   rw [Ku e1,Kx e2]
   have:Qr x≠[45]:=fun e=>by
    have:=congrArg List.length e;rw [Vi] at this;simp at this;omega
   simp [this]
  | some y=>
   rw [Ku e1,Ku e2];by_cases a:x=y
   ·subst a;simp
   ·have b:Qr x≠Qr y:=fun e=>a (Hx (c x e1) (d y e2) e);simp [a,b]
structure JOk (ls:List Q5) (OS:List (List UInt8)) (kf of:List UInt8->Option Int) (z:Nat):Prop where
 len:z=OS.length
 outs:∀ t n,of t=some n↔∃ j:Nat,OS[j]?=some t/\n=(j:Int)
 known:∀ u:Wd,(∀ s∈u,Qe s)->∀ n,kf (Qr u)=some n->∃ j:Nat,OS[j]?=some (Xi ls u)/\n=(j:Int)
theorem JOk.start(ls:List Q5):JOk ls [] (fun _=>none) (fun _=>none) 0:=⟨rfl,fun t n=>⟨fun h=>(by cases h),fun⟨j,h,_⟩=>(by simp at h)⟩,fun u _ n h=>(by cases h)⟩
theorem JOk.known_put{ls:List Q5}{a:List (List UInt8)} {c d:List UInt8->Option Int} {z:Nat} (h:JOk ls a c d z) {u:Wd} (f:∀ s∈u,Qe s) {j:Nat} (e:a[j]?=some (Xi ls u)):JOk ls a (fun y=>if y=Qr u then some (j:Int) else c y) d z:=by
 refine⟨h.len,h.outs,fun v hv n hn=>?_⟩;by_cases b:Qr v=Qr u
 ·rw [if_pos b] at hn;have:=Hx hv f b;subst this;exact⟨j,e,(Option.some.inj hn).symm⟩
 ·rw [if_neg b] at hn;exact h.known v hv n hn
theorem JOk.outs_put{ls:List Q5}{c:List (List UInt8)} {j i:List UInt8->Option Int} {z:Nat} (h:JOk ls c j i z) {t:List UInt8} (k:i t=none):JOk ls (c++[t]) j (fun y=>if y=t then some (c.length:Int) else i y) (z+1):=by
 refine⟨by rw [h.len];simp,fun y n=>?_,fun v hv n g=>?_⟩
 ·by_cases d:y=t
  ·subst d;simp only [if_true];constructor
   ·intro g;exact⟨c.length,by simp,(Option.some.inj g).symm⟩
   ·rintro⟨b,a,rfl⟩;by_cases e:b<c.length
    ·rw [List.getElem?_append_left e] at a;have:=(h.outs y b).2 ⟨b,a,rfl⟩;rw [k] at this;cases this
    ·have f:b<(c++[y]).length:=(List.getElem?_eq_some_iff.1 a).1;rw [List.length_append,List.length_singleton] at f;have:b=c.length:=by omega
     rw [this]
  ·rw [if_neg d,h.outs];constructor
   ·rintro⟨b,a,rfl⟩;exact⟨b,by rw [List.getElem?_append_left (List.getElem?_eq_some_iff.1 a).1];exact a,rfl⟩
   ·rintro⟨b,a,rfl⟩;refine⟨b,?_,rfl⟩;by_cases e:b<c.length
    ·rwa [List.getElem?_append_left e] at a
    ·have f:b<(c++[t]).length:=(List.getElem?_eq_some_iff.1 a).1;rw [List.length_append,List.length_singleton] at f;have:b=c.length:=by omega
     subst this;simp at a;exact absurd a.symm d
 ·obtain⟨b,a,rfl⟩:=h.known v hv n g;exact⟨b,by rw [List.getElem?_append_left (List.getElem?_eq_some_iff.1 a).1];exact a,rfl⟩
theorem JOk.new_at{a:List (List UInt8)} {t:List UInt8}:(a++[t])[a.length]?=some t:=by simp
theorem Q9f{a R:List (List UInt8)} {t:List UInt8} {j:Nat} (h:a[j]?=some t):(a++R)[j]?=some t:=by rw [List.getElem?_append_left (List.getElem?_eq_some_iff.1 h).1];exact h
theorem JOk.same{ls:List Q5}{a:List (List UInt8)} {f g:List UInt8->Option Int} {z:Nat} (h:JOk ls a f g z) {s t:List UInt8} {i j:Nat} (d:a[i]?=some s) (b:a[j]?=some t):(i=j)↔s=t:=by
 constructor
 ·rintro rfl;rw [d] at b;exact Option.some.inj b
 ·rintro rfl;have e:=(h.outs s i).2 ⟨i,d,rfl⟩;have c:=(h.outs s j).2 ⟨j,b,rfl⟩;rw [e] at c;have:=Option.some.inj c;omega
def JAt(P:Program)(k e:TypeId)(ls:List Q5)(w:World)(K O:Nat)(OS:List (List UInt8)) (c:Nat):Prop:=∃ kf of kz,Zb P k e w K c kf kz/\Zb P k e w O c of OS.length/\JOk ls OS kf of OS.length/\OS.length<=c
theorem JAt.mono{P:Program}{k e:TypeId}{ls:List Q5}{w:World}{K O:Nat}{a:List (List UInt8)} {c d:Nat} (h:JAt P k e ls w K O a c) (b:c<=d):JAt P k e ls w K O a d:=by
 obtain⟨j,l,kz,f,g,i,m⟩:=h;exact⟨j,l,kz,f.mono b,g.mono b,i,by omega⟩
theorem JAt.keep{P:Program}{k e:TypeId}{ls:List Q5}{w V:World}{K O:Nat}{a:List (List UInt8)} {c:Nat} {S:Nat->Prop} (h:JAt P k e ls w K O a c) (b:Q0 S w V) (j:¬ S K) (l:¬ S O):JAt P k e ls V K O a c:=by
 obtain⟨m,n,kz,d,f,g,i⟩:=h;exact⟨m,n,kz,d.keep b j,f.keep b l,g,i⟩
theorem Pz{u:Wd}(h:u.length<=1000):(X4 u).size<=maxLen:=by rw [Gl];unfold maxLen;omega
def Q9z(P:Program)(k e:TypeId)(ls:List Q5)(w:World)(K O:Nat)(OS:List (List UInt8)) (c:Nat) (u:Wd) (en:Ending) (w':World):Prop:=∃(R:List (List UInt8)) (j:Nat),en=.returned (.int .i64 (j:Int))/\(OS++R)[j]?=some (Xi ls u)/\JAt P k e ls w' K O (OS++R) (c+1)/\Q0 (fun q=>q=K\/q=O) w w'
theorem Nd{n:Nat}(h:n<=1000000):(Lit.int .i64 (n:Int)).wf=true:=by
 show (decide (IntKind.i64.min<=(n:Int)) && decide ((n:Int)<=IntKind.i64.max))=true;rw [Bool.and_eq_true,decide_eq_true_iff,decide_eq_true_iff];have a:IntKind.i64.min=-9223372036854775808:=rfl;have b:IntKind.i64.max=9223372036854775807:=rfl;rw [a,b];omega
theorem Nb{P:Program}{k e:TypeId}{w:World}{b n z:Nat}{f g:List UInt8->Option Int}{ops:Array Oper}{rest:List Oper}{o:Oper}{a:Act}{Q:Exit->Act->World->Prop}(hg:o.guard=none)(m x v:Operand)(t:TypeId)(hop:o.op=Op.mapUpdate t m x v)
  (hk:P.underlying k=some .string) (ht:P.underlying t=some (.map k e)) (he:P.underlying e=some (.int .i64)) (hm:a.eval m=.map (some b)) (h:Zb P k e w b n f z) (hn:n<maxLen)
  (s:ByteArray) (hx:a.eval x=.string s) (hs:s.size<=maxLen) (c:Int) (hv:a.eval v=.int .i64 c) (hc:(Lit.int .i64 c).wf=true) (hf:f s.data.toList=none) (hG:∀ y,g y=if y=s.data.toList then some c else f y)
  (hK:∀ V,Zb P k e V b (n+1) g (z+1)->Q0 (fun q=>q=b) w V->wpList P ops Q rest (a.put o.dst undef) V):wpList P ops Q (o::rest) a w:=
 Ma hg m x v t hop hk ht he b n hm h hn s hx hs c hv hc fun V h1 h2=>hK V (by rw [hf] at h1;exact h1.fn hG) h2
theorem Cp{w0 w:World}{ps:Zw}{lo:Option Addr}{n lc:Nat}(e2:Z9 w0 (.slice lo n lc) ps) (f9:ps.length=n) (f6:Tab w0) (d4:Ext w0 w) {K O:Nat} (_:w0.heap.size<=K) (_:w0.heap.size<=O) (f3:K≠O) {a:List (List UInt8)} {c:Nat} (i0:JAt Tryz.prog 9 3 (ps.map (·.1)) w K O a c) (i4:c<=1000000) {u:Wd} {uo:Option Addr} {c5 uc:Nat} (b7:Q4 w (.slice uo c5 uc) u) (b8:u.length=c5) (X:Zz (ps.map (·.1)) u=0) :
  Calls Tryz.prog 127 #[.agg #[.slice lo n lc,.map (some K),.map (some O)],.slice uo c5 uc] w (Q9z Tryz.prog 9 3 (ps.map (·.1)) w K O a c u):=by
 obtain⟨E,z,kz,e3,R,e0,f5⟩:=i0;have f4:a.length<=1000000:=by omega
 have a1:=Zh f5;clear f5;have g2:wE u=0:=by
  unfold Zz at X
  split at X
  ·exact X
  ·contradiction
 have i5:c5<=32:=by rw [<-b8];exact U1 g2
 have i1:=e3.lt;have i2:=R.lt;have f8:∀ s∈u,Qe s:=b7.2;have d8:=fun(B:World) (D:Ext w B)=>Gk (e2.ext (d4.trans D)) f9 (b7.ext D) b8 (f6.keep (d4.trans D) id);have d9:=Lu (V6 e2) b7.2;have b6:=fun(B:World) (D:Ext w B)=>Wy (b7.ext D) b8 oz;obtain⟨e,d5⟩:=zE (ps.map (·.1));rw [d5] at e0 X d9 ⊢;simp only [d5] at d8;have a6:Ext w (w.alloc (.cells #[.slice lo n lc,.map (some K),.map (some O)] 125)):=(Q0.refl _ w).alloc _;have c4:(w.alloc (.cells #[.slice lo n lc,.map (some K),.map (some O)] 125)).heap[w.heap.size]?=some (.cells #[.slice lo n lc,.map (some K),.map (some O)] 125 (0,0)):=new_at rfl;obtain⟨B,D⟩:=zE (w.alloc (.cells #[.slice lo n lc,.map (some K),.map (some O)] 125));obtain⟨l,d7⟩:=zE w.heap.size;rw [D] at a6 c4;rw [d7] at c4 i1 i2;obtain⟨f1,g5,c6,e6,J,L,G,e7⟩:=Zh8 D d7 a6 c4 (e3.keep a6 id) (R.keep a6 id) e0 d8;obtain⟨f0,c7,e8,a0,g4,U⟩:=Zh6 b6 d9 X f8 b8 f3;clear e2 f9 f6 d4 f3 e3 R e0 g2 d8 d9 b6 d5 a6 c4 D d7 b7 X f8 b8;go_enter Tryz.func127,Tryz.ntmps127;go_upto_region 1 with (fail)
 rw [f1.out,g5.out];clear f1;go_wp2_with fail;refine(f0.out B c6.out).mono ?_;rintro v d2 ⟨rfl,a8⟩;obtain⟨f,b,b9,c1⟩:=Zh4 (J.out.keep a8 id) (L.out.keep a8 id) (a8.keep e6.out) (c6.out.trans a8);clear f0 J L e6 c6 a8;have a4:d2.cell? ⟨l,1,none⟩=some (.map (some K)):=by rw [cell_of_row _ _ _ _ _ _ b9.out];rfl
 have p:=Vr u;obtain⟨H,W⟩:=zE (X4 u);rw [W] at p ⊢;have g1:H.size<=maxLen:=by rw [<-W];exact Pz (by rw [g4.out];omega)
 have V:=Zh g1;have a2:=Zh p;clear g1 p W;obtain⟨q,I⟩:=zE (E H.data.toList);have d0:=Zh I;clear I;cases q;case some m=>
  have b3:=G.out.known u a0.out m (by rw [<-a2.out];exact d0.out);obtain⟨j,i,rfl⟩:=b3;have Z:=Zh i;clear i
  go_wp2_with (at_lookup;refine Yf rfl (.tmp 15) (.tmp 16) 100 rfl Tryz.underlying9 Tryz.underlying100 Tryz.underlying3 (Tryz.zeroValue3 _) K c rfl f.out H rfl V.out (some (j:Int)) d0.out ?_)
  go_ret;exact⟨[],j,rfl,by rw [List.append_nil];exact Z.out,⟨E,z,kz,f.out.mono (Nat.le_succ c),by rw [List.append_nil];exact b.out.mono (Nat.le_succ c),by rw [List.append_nil];exact G.out,by rw [List.append_nil];have:=a1.out;omega⟩,c1.out.mono fun _ _ h=>h.elim⟩
 case none=>
  have g8:d2.cell? ⟨l,0,none⟩=some (.slice lo n lc):=by rw [cell_of_row _ _ _ _ _ _ b9.out];rfl
  go_wp2_with (at_lookup;refine Yf rfl (.tmp 15) (.tmp 16) 100 rfl Tryz.underlying9 Tryz.underlying100 Tryz.underlying3 (Tryz.zeroValue3 _) K c rfl f.out H rfl V.out none d0.out ?_)
  refine(e7.out d2 c1.out).mono ?_;rintro v g6 ⟨i6,rfl,g0,a9⟩;obtain⟨i8,i7,rfl,g3⟩:=Jm g0;obtain⟨J,L,c0,c2,f2⟩:=Zh5 (f.out.keep a9 id) (b.out.keep a9 id) (a9.keep b9.out) (c1.out.trans a9) g3;clear e7 f b b9 c1 a9 g0 g3 g8 a4;have i3:∀(r:World) (Q:ByteArray),Ext w r->Zb Tryz.prog 9 3 r K c E kz->Zb Tryz.prog 9 3 r O c z a.length->r.heap[l]?=some (.cells #[.slice lo n lc,.map (some K),.map (some O)] 125 (0,0))->Q.size<=maxLen->Q.data.toList=Xi e u->True:=fun _ _ _ _ _ _ _ _=>trivial;clear i3;cases hdr:Zf e u with
  | some x=>
   obtain⟨a5,c3⟩:=Li e8.out hdr;have b4:=Ku hdr;rw [a5];rw [c3] at f2 c7 ⊢;have b6:=Wy f2.out rfl (by have:=c7.out.1;omega);have e9:=Zh b6;clear b6 a5 c3 hdr;go_wp2_with fail;refine e9.out.mono ?_;rintro v r ⟨rfl,b0⟩;obtain⟨f,b,F,S⟩:=Zh4 (J.out.keep b0 id) (L.out.keep b0 id) (b0.keep c0.out) (c2.out.trans b0);have p:=Vr x;rw [<-b4] at p;have Y:=Pz (u:=x) (by have:=c7.out.1;omega);obtain⟨Q,W⟩:=zE (X4 x);rw [W] at p Y ⊢;have N:=Zh p;have P:=Zh Y;clear e9 J L c0 c2 b0 p Y W b4;have a4:r.cell? ⟨l,1,none⟩=some (.map (some K)):=by rw [cell_of_row _ _ _ _ _ _ F.out];rfl
   have d3:r.cell? ⟨l,2,none⟩=some (.map (some O)):=by rw [cell_of_row _ _ _ _ _ _ F.out];rfl
   obtain⟨q,I⟩:=zE (z Q.data.toList);have k:=Zh I;clear I;cases q;case some m=>
    have b3:=(G.out.outs (Xi e u) m).1 (by rw [<-N.out];exact k.out);obtain⟨j,i,rfl⟩:=b3;have o:=G.out.known_put a0.out i;have e1:j<a.length:=(List.getElem?_eq_some_iff.1 i).1;obtain⟨Z,M,A⟩:=Zh3 i o (Nd (n:=j) oz);clear i o e1
    go_wp2_with (first
     | (at_lookup;refine Yf rfl (.tmp 35) (.tmp 36) 100 rfl Tryz.underlying9 Tryz.underlying100 Tryz.underlying3 (Tryz.zeroValue3 _) O c rfl b.out Q rfl P.out (some (j:Int)) k.out ?_)
     | (at_mapUpdate;refine Jb rfl (.tmp 50) (.tmp 51) (.tmp 52) 100 rfl Tryz.underlying9 Tryz.underlying100 Tryz.underlying3 rfl f.out (by unfold maxLen;omega) H rfl V.out (j:Int) rfl A.out (g:=fun y=>if y=Qr u then some (j:Int) else E y) (fun y=>by rw [a2.out]) ?_))
    intro a3 e4 C d;go_wp2;go_ret;exact⟨[],j,rfl,by rw [List.append_nil];exact Z.out,⟨_,z,e4,C,by rw [List.append_nil];exact(b.out.keep d (fun v=>U.out v.symm)).mono (Nat.le_succ c),by rw [List.append_nil];exact M.out,by rw [List.append_nil];have:=a1.out;omega⟩,(S.out.mono fun _ _ h=>h.elim).trans (d.mono fun _ _ h=>.inl h)⟩
   case none=>
    have b5:=G.out.outs_put (t:=Xi e u) (by rw [<-N.out];exact k.out);have o:=b5.known_put a0.out (j:=a.length) JOk.new_at;have M:=Zh o;have A:=Zh (Nd (n:=a.length) f4);clear b5 o
    go_wp2_with (first
     | (at_lookup;refine Yf rfl (.tmp 35) (.tmp 36) 100 rfl Tryz.underlying9 Tryz.underlying100 Tryz.underlying3 (Tryz.zeroValue3 _) O c rfl b.out Q rfl P.out none k.out ?_)
     | (refine Bh rfl (.tmp 43) 100 rfl Tryz.underlying100 O c rfl b.out ?_)
     | (at_mapUpdate;refine Nb rfl (.tmp 46) (.tmp 47) (.tmp 48) 100 rfl Tryz.underlying9 Tryz.underlying100 Tryz.underlying3 rfl b.out (by unfold maxLen;omega) Q rfl P.out (a.length:Int) rfl A.out k.out (g:=fun y=>if y=Xi e u then some (a.length:Int) else z y) (fun y=>by rw [N.out]) ?_))
    intro a3 C d;have b1:=f.out.keep d U.out;have a7:=d.heap F.out oz;obtain⟨c9,c8,d1⟩:=Zh3 C b1 d;have g9:a3.cell? ⟨l,1,none⟩=some (.map (some K)):=by rw [cell_of_row _ _ _ _ _ _ a7];rfl
    clear C b1 d a7 a4 d3
    go_wp2_with (at_mapUpdate;refine Jb rfl (.tmp 50) (.tmp 51) (.tmp 52) 100 rfl Tryz.underlying9 Tryz.underlying100 Tryz.underlying3 rfl c8.out (by unfold maxLen;omega) H rfl V.out (a.length:Int) rfl A.out (g:=fun y=>if y=Qr u then some (a.length:Int) else E y) (fun y=>by rw [a2.out]) ?_)
    intro g7 e5 d6 b2;go_wp2;go_ret;have R:=c9.out.keep b2 (fun v=>U.out v.symm);refine⟨[Xi e u],a.length,rfl,JOk.new_at,⟨(fun y=>if y=Qr u then some (a.length:Int) else E y),(fun y=>if y=Xi e u then some (a.length:Int) else z y),e5,d6,?_,?_,by rw [List.length_append,List.length_singleton];have:=a1.out;omega⟩,(S.out.mono fun _ _ h=>h.elim).trans ((d1.out.mono fun _ _ h=>.inr h).trans (b2.mono fun _ _ h=>.inl h))⟩
    ·rw [List.length_append,List.length_singleton];exact R
    ·rw [List.length_append,List.length_singleton];exact M.out
  | none=>
   obtain⟨a5,c3⟩:=Lh e8.out hdr;have b4:=Kx hdr;rw [a5];have p:(ByteArray.mk #[45]).data.toList=Xi e u:=by rw [b4]
   have Y:(ByteArray.mk #[45]).size<=maxLen:=by decide
   have N:=Zh p;have P:=Zh Y;have f:=J;have b:=L;have F:=c0;have S:=c2;clear J L c0 c2 p Y b4 a5 c3 hdr;obtain⟨r,f7⟩:=zE g6;rw [f7] at f b F S ⊢;clear f7;have a4:r.cell? ⟨l,1,none⟩=some (.map (some K)):=by rw [cell_of_row _ _ _ _ _ _ F.out];rfl
   have d3:r.cell? ⟨l,2,none⟩=some (.map (some O)):=by rw [cell_of_row _ _ _ _ _ _ F.out];rfl
   obtain⟨q,I⟩:=zE (z (ByteArray.mk #[45]).data.toList);have k:=Zh I;clear I;cases q;case some m=>
    have b3:=(G.out.outs (Xi e u) m).1 (by rw [<-N.out];exact k.out);obtain⟨j,i,rfl⟩:=b3;have o:=G.out.known_put a0.out i;have e1:j<a.length:=(List.getElem?_eq_some_iff.1 i).1;obtain⟨Z,M,A⟩:=Zh3 i o (Nd (n:=j) oz);clear i o e1
    go_wp2_with (first
     | (at_lookup;refine Yf rfl (.tmp 35) (.tmp 36) 100 rfl Tryz.underlying9 Tryz.underlying100 Tryz.underlying3 (Tryz.zeroValue3 _) O c rfl b.out (ByteArray.mk #[45]) rfl P.out (some (j:Int)) k.out ?_)
     | (at_mapUpdate;refine Jb rfl (.tmp 50) (.tmp 51) (.tmp 52) 100 rfl Tryz.underlying9 Tryz.underlying100 Tryz.underlying3 rfl f.out (by unfold maxLen;omega) H rfl V.out (j:Int) rfl A.out (g:=fun y=>if y=Qr u then some (j:Int) else E y) (fun y=>by rw [a2.out]) ?_))
    intro a3 e4 C d;go_wp2;go_ret;exact⟨[],j,rfl,by rw [List.append_nil];exact Z.out,⟨_,z,e4,C,by rw [List.append_nil];exact(b.out.keep d (fun v=>U.out v.symm)).mono (Nat.le_succ c),by rw [List.append_nil];exact M.out,by rw [List.append_nil];have:=a1.out;omega⟩,(S.out.mono fun _ _ h=>h.elim).trans (d.mono fun _ _ h=>.inl h)⟩
   case none=>
    have b5:=G.out.outs_put (t:=Xi e u) (by rw [<-N.out];exact k.out);have o:=b5.known_put a0.out (j:=a.length) JOk.new_at;have M:=Zh o;have A:=Zh (Nd (n:=a.length) f4);clear b5 o
    go_wp2_with (first
     | (at_lookup;refine Yf rfl (.tmp 35) (.tmp 36) 100 rfl Tryz.underlying9 Tryz.underlying100 Tryz.underlying3 (Tryz.zeroValue3 _) O c rfl b.out (ByteArray.mk #[45]) rfl P.out none k.out ?_)
     | (refine Bh rfl (.tmp 43) 100 rfl Tryz.underlying100 O c rfl b.out ?_)
     | (at_mapUpdate;refine Nb rfl (.tmp 46) (.tmp 47) (.tmp 48) 100 rfl Tryz.underlying9 Tryz.underlying100 Tryz.underlying3 rfl b.out (by unfold maxLen;omega) (ByteArray.mk #[45]) rfl P.out (a.length:Int) rfl A.out k.out (g:=fun y=>if y=Xi e u then some (a.length:Int) else z y) (fun y=>by rw [N.out]) ?_))
    intro a3 C d;have b1:=f.out.keep d U.out;have a7:=d.heap F.out oz;obtain⟨c9,c8,d1⟩:=Zh3 C b1 d;have g9:a3.cell? ⟨l,1,none⟩=some (.map (some K)):=by rw [cell_of_row _ _ _ _ _ _ a7];rfl
    clear C b1 d a7 a4 d3
    go_wp2_with (at_mapUpdate;refine Jb rfl (.tmp 50) (.tmp 51) (.tmp 52) 100 rfl Tryz.underlying9 Tryz.underlying100 Tryz.underlying3 rfl c8.out (by unfold maxLen;omega) H rfl V.out (a.length:Int) rfl A.out (g:=fun y=>if y=Qr u then some (a.length:Int) else E y) (fun y=>by rw [a2.out]) ?_)
    intro g7 e5 d6 b2;go_wp2;go_ret;have R:=c9.out.keep b2 (fun v=>U.out v.symm);refine⟨[Xi e u],a.length,rfl,JOk.new_at,⟨(fun y=>if y=Qr u then some (a.length:Int) else E y),(fun y=>if y=Xi e u then some (a.length:Int) else z y),e5,d6,?_,?_,by rw [List.length_append,List.length_singleton];have:=a1.out;omega⟩,(S.out.mono fun _ _ h=>h.elim).trans ((d1.out.mono fun _ _ h=>.inr h).trans (b2.mono fun _ _ h=>.inl h))⟩
    ·rw [List.length_append,List.length_singleton];exact R
    ·rw [List.length_append,List.length_singleton];exact M.out
theorem Tz{w:World}{base:Nat}{e:TypeId}{sz g n cap j:Nat}{xs cs:List Value}(h:w.ownsRow base e sz (.slice (some ⟨g,0,none⟩) n cap) n xs) (s:j<n) (r:cs.length=sz) :
  (w.setCells g (j*sz) cs).ownsRow base e sz (.slice (some ⟨g,0,none⟩) n cap) n (Xb xs (j*sz) cs):=by
 have k:=h.1;rcases h.2 with ⟨a,_⟩ | ⟨q,p,b,a,c,i,m,d,f,o⟩
 ·cases a
 ·simp only [zV,Option.some.injEq,Addr.mk.injEq] at a;obtain⟨⟨rfl,_,_⟩,_,rfl⟩:=a;have l:j*sz+cs.length<=n*sz:=by
   have:=Nat.mul_le_mul_right sz (show j+1<=n by omega);rw [Nat.add_mul,Nat.one_mul] at this;omega
  refine⟨by rw [Vk];exact k,.inr ⟨g,cap,_,rfl,c,Gc cs _ w b i,m,d,by simp [Vk,f],?_⟩⟩;rw [show ((Xb b.toList (j*sz) cs).toArray.toList)=Xb b.toList (j*sz) cs from rfl,Dr _ _ _ _ l,o]
theorem Kl{α:Type}{sz:Nat}{os:List (α × List Value)} (h:∀ p∈os,p.2.length=sz):(os.flatMap (·.2)).length=os.length*sz:=by
 induction os with
 | nil=>simp
 | cons p ps ih=>
  rw [List.flatMap_cons,List.length_append,h p zy,ih (fun p hp=>h p (by simp [hp])),List.length_cons,Nat.add_mul,Nat.one_mul,Nat.add_comm]
theorem Q63{α:Type}{sz j:Nat}{os:List (α × List Value)} {x:α} {cs:List Value} (a:0<sz) (h:∀ p∈os,p.2.length=sz) (w:j<os.length) (f:cs.length=sz):Xb (os.flatMap (·.2)) (j*sz) cs=(os.set j (x,cs)).flatMap (·.2):=by
 have d:∀ p∈os.set j (x,cs),p.2.length=sz:=fun p c=>by
  rcases List.mem_or_eq_of_mem_set c with c | rfl
  ·exact h p c
  ·exact f
 have g:j*sz+cs.length<=(os.flatMap (·.2)).length:=by
  rw [Kl h];have:=Nat.mul_le_mul_right sz (show j+1<=os.length by omega);rw [Nat.add_mul,Nat.one_mul] at this;omega
 apply List.ext_getElem?;intro i;rw [R1 _ _ _ _ g];by_cases t:i<os.length*sz
 ·have l:i % sz<sz:=Nat.mod_lt _ a;have k:i / sz<os.length:=(Nat.div_lt_iff_lt_mul a).2 t;have s:i / sz*sz+i % sz=i:=by rw [Nat.mul_comm];exact Nat.div_add_mod i sz
  have o:=Lf d (i:=i / sz) (j:=i % sz) (by rw [List.length_set];exact k) l;have q:=Lf h (i:=i / sz) (j:=i % sz) k l;rw [s] at o q;rw [o,q];by_cases b:i / sz=j
  ·subst b;rw [if_pos ⟨by omega,by omega⟩];simp only [List.getElem_set_self]
   congr 1;omega
  ·rw [if_neg,List.getElem_set_ne (fun e=>b e.symm)];rintro⟨m,n⟩;apply b;rw [f] at n;have u:j<=i / sz:=(Nat.le_div_iff_mul_le a).2 m;have v:i / sz<j+1:=(Nat.div_lt_iff_lt_mul a).2 (by rw [Nat.add_mul,Nat.one_mul];omega);omega
 ·have r:((os.set j (x,cs)).flatMap (·.2))[i]?=none:=List.getElem?_eq_none (by rw [Kl d,List.length_set];omega);rw [r,if_neg,List.getElem?_eq_none (by rw [Kl h];omega)];rintro⟨m,n⟩;rw [Kl h] at g;omega
def Q0x(s:Nat × Nat):List Value:=[.int .u32 (s.1:Int),.int .u32 (s.2:Int)]
theorem T5(u:Wd):Ql u=(u.map fun s=>(s,Q0x s)).flatMap (·.2):=by unfold Ql;rw [List.flatMap_map];rfl
theorem Tu{u:Wd}{j:Nat}(a:j<u.length)(x:Nat × Nat):Xb (Ql u) (j*2) (Q0x x)=Ql (u.set j x):=by
 rw [T5,Q63 (sz:=2) (x:=x) zd (fun p hp=>by obtain⟨b,_,rfl⟩:=List.mem_map.1 hp;rfl) (by simpa using a) rfl,T5,List.map_set]
theorem Q08{ls:List Q5}{u:Wd}(h:Zz ls u=0){x:Nat × Nat}(e:okS x=true)(j:Nat):Zz ls (u.set j x)=0:=by
 have d:Zd ls=0:=Classical.byContradiction fun h0=>by
  unfold Zz at h;rw [if_neg h0] at h;exact h0 h
 unfold Zz at h ⊢;rw [if_pos d] at h ⊢;obtain⟨b,c⟩:=Sm.1 h;refine Sm.2 ⟨by rw [List.length_set];exact b,fun s a=>?_⟩;rcases List.mem_or_eq_of_mem_set a with a | rfl
 ·exact c s a
 ·exact e
theorem Q05{u:Wd}(h:Qw u){x:Nat × Nat}(hx:Qe x)(j:Nat):Qw (u.set j x):=fun s hs=>by
 rcases List.mem_or_eq_of_mem_set hs with hs | rfl
 ·exact h s hs
 ·exact hx
theorem Ml{f:Nat->Bool}{k:Nat}:(List.range (k+1)).any f=((List.range k).any f || f k):=by rw [List.range_succ,List.any_append];simp
theorem Q2u{f:Nat->Bool}{k n:Nat}(hk:k<n)(h:f k=true):(List.range n).any f=true:=List.any_eq_true.2 ⟨k,List.mem_range.2 hk,h⟩
theorem Mk{a b c d:Nat}(h:¬ (a,b)=(c,d)):(((a:Int) ==(c:Int))=false)\/(((a:Int) ==(c:Int))=true/\((b:Int) ==(d:Int))=false):=by
 by_cases f:a=c
 ·have e:¬ b=d:=fun e=>h (by rw [f,e]);exact .inr ⟨by simp;omega,by simp;omega⟩
 ·exact .inl (by simp;omega)
def ApR(P:Program)(k e:TypeId)(ls:List Q5)(w:World)(K O:Nat)(OS:List (List UInt8)) (c:Nat) (b:Bool) (en:Ending) (w':World):Prop:=∃ R:List (List UInt8),en=.returned (.bool b)/\JAt P k e ls w' K O (OS++R) c/\Q0 (fun q=>q=K\/q=O) w w'
theorem Q7d{P:Program}{k e:TypeId}{ls:List Q5}{w:World}{K O c i j:Nat}{a R:List (List UInt8)} {s t:List UInt8} (b:JAt P k e ls w K O (a++R) c) (f:a[i]?=some s) (g:(a++R)[j]?=some t):(((i:Int) !=(j:Int))=!decide (s=t)):=by
 obtain⟨l,m,kz,_,_,b,_⟩:=b;have d:=b.same (Q9f (R:=R) f) g;by_cases e:i=j
 ·rw [decide_eq_true (d.1 e),e];simp
 ·rw [decide_eq_false (fun e2=>e (d.2 e2))];simp;omega
theorem Q1a{w0 w:World}{ps:Zw}{lo:Option Addr}{n lc:Nat}(k0:Z9 w0 (.slice lo n lc) ps) (q3:ps.length=n) (q0:Tab w0) (p8:Ext w0 w) {K O:Nat} (C:w0.heap.size<=K) (m0:w0.heap.size<=O) (p9:K≠O) {f9:List (List UInt8)} {c:Nat} (P:JAt Tryz.prog 9 3 (ps.map (·.1)) w K O f9 c) (q2:c<=900000) {f:Wd} {uo:Option Addr} {l uc:Nat} (n5:Q4 w0 (.slice uo l uc) f) (n6:f.length=l) (d2:Zz (ps.map (·.1)) f=0) {s1 s2 g j:Nat} (q4:Qe (s1,s2)) (q8:Qe (g,j)) (q6:okS (s1,s2)=true) (q9:okS (g,j)=true) (q5:(s1,s2)≠(g,j)) :
  Calls Tryz.prog 95 #[.agg #[.slice lo n lc,.map (some K),.map (some O)],.slice uo l uc,.agg #[.int .u32 (s1:Int),.int .u32 (s2:Int)],.agg #[.int .u32 (g:Int),.int .u32 (j:Int)]] w (ApR Tryz.prog 9 3 (ps.map (·.1)) w K O f9 (c+64) (apB (ps.map (·.1)) f (s1,s2) (g,j))):=by
 have n8:wE f=0:=by
  unfold Zz at d2
  split at d2
  ·exact d2
  ·contradiction
 have t8:l<=32:=by rw [<-n6];exact U1 n8
 have m5:=fun(z:World) (Y:Ext w0 z) (f9:List (List UInt8)) (c:Nat) (P:JAt Tryz.prog 9 3 (ps.map (·.1)) z K O f9 c) (q2:c<=1000000) {v:Wd} {vo:Option Addr} {vc:Nat} (hv:Q4 z (.slice vo l vc) v) (hvn:v.length=l) (b9:Zz (ps.map (·.1)) v=0)=>Cp k0 q3 q0 Y C m0 p9 P q2 hv hvn b9
 have n1:∀ v,Zz (ps.map (·.1)) v=0->Qw v->decide (Xi (ps.map (·.1)) f=Xi (ps.map (·.1)) v)=Fb (ps.map (·.1)) f v:=fun v hv hok=>Q6f (fun x d3=>(Lv (V6 k0) n5.2 n8 d3).2) (fun x d3=>by
  have s8:wE v=0:=by
   unfold Zz at hv
   split at hv
   ·exact hv
   ·contradiction
  exact(Lv (V6 k0) hok s8 d3).2)
 have s0:=(show K<w.heap.size by obtain⟨_,_,_,r,_⟩:=P;exact r.lt);have s3:=(show O<w.heap.size by obtain⟨_,_,_,_,r,_⟩:=P;exact r.lt);obtain⟨R,l9⟩:=zE (ps.map (·.1));rw [l9] at P d2 ⊢;simp only [l9] at m5 n1;obtain⟨z,Y⟩:=zE (((w.alloc (.cells #[.slice lo n lc,.map (some K),.map (some O)] 125)).alloc (.cells #[.int .u32 (s1:Int),.int .u32 (s2:Int)] 26)).alloc (.cells #[.int .u32 (g:Int),.int .u32 (j:Int)] 26));have l8:Ext w z:=by rw [<-Y];exact(((Q0.refl _ w).alloc _).alloc _).alloc _
 obtain⟨k,d1⟩:=zE w.heap.size;have p3:z.heap[k]?=some (.cells #[.slice lo n lc,.map (some K),.map (some O)] 125 (0,0)):=by rw [<-Y,<-d1];exact Q7 (Q7 (new_at rfl))
 have p4:z.heap[k+1]?=some (.cells #[.int .u32 (s1:Int),.int .u32 (s2:Int)] 26 (0,0)):=by rw [<-Y,<-d1];exact Q7 (new_at zy)
 have p5:z.heap[k+2]?=some (.cells #[.int .u32 (g:Int),.int .u32 (j:Int)] 26 (0,0)):=by rw [<-Y,<-d1];exact new_at zy
 rw [d1] at s0 s3;obtain⟨o7,r7,d5,r1,r2,o4,c5,j6⟩:=Zh8 Y d1 l8 p3 p4 p5 (P.keep l8 id id) m5;obtain⟨o6,a2,F,j7,o5,r3,r5,r4⟩:=Zh8 n1 n5 n6 d2 p8 q4 q8 q6;obtain⟨r6,t3,e8,k7⟩:=Zh4 q9 q5 C m0;clear k0 q3 q0 p8 C m0 p9 P n5 n6 d2 q4 q8 q6 q9 q5 n8 m5 n1 l9 Y d1 l8 p3 p4 p5;go_enter Tryz.func95,Tryz.ntmps95;go_upto_region 1 with (fail)
 try rw [r7.out]
 try rw [o7.out]
 clear o7;go_wp2
 refine wp_loop (fun a X=>∃(i:Nat) (W:List (List UInt8)),i<=l/\a.defers=[]/\gS a [1,4,6,7,13,14,15]=(43,[.slice uo l uc,.pointer (some ⟨k,0,none⟩),.pointer (some ⟨k+1,0,none⟩),.pointer (some ⟨k+2,0,none⟩),.slice uo l uc,.int .i64 l,.int .i64 i])/\JAt Tryz.prog 9 3 R X K O (f9++W) (c+2*i)/\(List.range i).any (Sr R f (s1,s2) (g,j))=false/\Q0 (fun q=>q=K\/q=O) z X)
  (fun a _=>l - (intOf (a.tmps.getD 15 undef)).toNat) ?_ ?_
 ·exact⟨0,[],by omega,rfl,rfl,by rw [List.append_nil];exact c5.out,rfl,Q0.refl _ _⟩
 clear c5;rintro⟨u0,_⟩ X ⟨i,W,t7,s6,q7,P,q1,c9⟩;subst s6;obtain⟨u1,rfl⟩:=Qt q7;clear q7;obtain⟨c5,j5,j8⟩:=Zh3 P q1 c9;have k5:Hid (Ext w0 X):=Zh ((o5.out.trans d5.out).after c9 (fun b hb e=>by have:=e8.out;have:=k7.out;rcases e with e | e <;> omega));have g4:=c9.heap r1.out oz;have a6:=c9.heap r2.out oz;have c7:=c9.heap o4.out oz;clear P q1 c9;by_cases i2:i<l;case neg=>
  obtain rfl:i=l:=by omega
  have r9:¬ (i:Int)<(i:Int):=by omega
  clear g4 a6 c7;go_wp2;go_ret;have Z:=j5.out;rw [<-F.out] at Z;exact⟨W,by unfold apB;rw [Z];rfl,c5.out.mono oz,(d5.out.mono fun _ _ r=>r.elim).trans j8.out⟩
 have r9:(i:Int)<(l:Int):=by omega
 have t6:(0:Int)<=(i:Int):=by omega
 have n2:i<f.length:=by rw [F.out];exact i2
 obtain⟨t5,t9,t4,A,s7,l4,l5⟩:=(a2.out.ext k5.out).at n2;simp only [zV] at A;obtain⟨rfl,s9,rfl⟩:=A;clear s9;have m4:Sr R f (s1,s2) (g,j) i=if f.getD i (0,0)=(s1,s2) then !Fb R f (f.set i (g,j)) else if f.getD i (0,0)=(g,j) then !Fb R f (f.set i (s1,s2)) else false:=rfl
 obtain⟨⟨j1,j2⟩,d3⟩:=zE (f.getD i (0,0));rw [d3] at l4 l5 m4;dsimp only at l4 l5;have k4:=Zh m4;clear m4 d3 s7;obtain⟨a4,g7⟩:=zE (X.alloc (.cells #[.int .u32 (j1:Int),.int .u32 (j2:Int)] 26));obtain⟨t,j9⟩:=zE X.heap.size;have l6:Ext X a4:=by rw [<-g7];exact(Q0.refl _ _).alloc _
 have p7:a4.heap[t]?=some (.cells #[.int .u32 (j1:Int),.int .u32 (j2:Int)] 26 (0,0)):=by rw [<-g7];exact new_at j9.symm
 have m2:a4.heap.size=t+1:=by rw [<-g7];simp [j9]
 obtain⟨G,g8⟩:=zE (a4.alloc (.cells #[.int .u32 (s1:Int),.int .u32 (s2:Int)] 26));have l7:Ext a4 G:=by rw [<-g8];exact(Q0.refl _ _).alloc _
 have p6:G.heap[t+1]?=some (.cells #[.int .u32 (s1:Int),.int .u32 (s2:Int)] 26 (0,0)):=by rw [<-g8];exact new_at m2.symm
 obtain⟨o8,p1,p2,o9,s4⟩:=Zh5 g7 j9 m2 g8 g8;go_upto_region 4 with (fail)
 try rw [p1.out]
 try rw [o8.out]
 clear g7 j9 g8 o8;have l3:=l6.keep a6;have j3:a4.cell? ⟨k+1,0,none⟩=some (.int .u32 (s1:Int)):=by rw [cell_of_row _ _ _ _ _ _ l3];rfl
 have j4:a4.cell? ⟨k+1,1,none⟩=some (.int .u32 (s2:Int)):=by rw [cell_of_row _ _ _ _ _ _ l3];rfl
 clear l4 l5 l3;go_upto_region 5 with (fail)
 try rw [p2.out]
 try rw [o9.out]
 clear j3 j4 o9 m2;have a7:Ext X G:=l6.trans l7;have l2:=l7.keep p7;have g4:=a7.keep g4;have a6:=a7.keep a6;have c7:=a7.keep c7;have o2:G.cell? ⟨t,0,none⟩=some (.int .u32 (j1:Int)):=by rw [cell_of_row _ _ _ _ _ _ l2];rfl
 have o3:G.cell? ⟨t,1,none⟩=some (.int .u32 (j2:Int)):=by rw [cell_of_row _ _ _ _ _ _ l2];rfl
 have j3:G.cell? ⟨k+1,0,none⟩=some (.int .u32 (s1:Int)):=by rw [cell_of_row _ _ _ _ _ _ a6];rfl
 have j4:G.cell? ⟨k+1,1,none⟩=some (.int .u32 (s2:Int)):=by rw [cell_of_row _ _ _ _ _ _ a6];rfl
 have c2:G.cell? ⟨k+2,0,none⟩=some (.int .u32 (g:Int)):=by rw [cell_of_row _ _ _ _ _ _ c7];rfl
 have c3:G.cell? ⟨k+2,1,none⟩=some (.int .u32 (j:Int)):=by rw [cell_of_row _ _ _ _ _ _ c7];rfl
 obtain⟨I,c6,e4,c4,e0⟩:=Zh5 (c5.out.keep a7 id id) (j8.out.trans a7.of) (k5.out.trans a7) p6 g4;have g9:z.heap.size<=t:=by have:=j8.out.size;have:=p1.out;omega
 have m1:k+2<z.heap.size:=(Array.getElem?_eq_some_iff.1 o4.out).1;have k1:G.heap.size=t+2:=by have r:=p2.out;rw [<-s4.out];simp [r]
 have n7:w0.heap.size<=z.heap.size:=(o5.out.trans d5.out).size;clear p7 l2 g4 a6 c7 l6 l7 a7 p6 c5 j8 k5;by_cases a0:(j1,j2)=(s1,s2)
 ·have A:=a0;simp only [Prod.mk.injEq] at A;have n9:=A.1.symm;have o0:=A.2.symm;subst n9 o0;clear A;have M:=k4.out;rw [if_pos rfl] at M;have d7:=Zh M;have c8:=Q0.setRow G (t+1) #[.int .u32 (g:Int),.int .u32 (j:Int)];have m6:=setRow_heap _ _ _ #[.int .u32 (g:Int),.int .u32 (j:Int)] _ _ c4.out;have m3:=I.out.keep c8 oz oz;have m7:=c8.heap e0.out oz;have n4:=c6.out.after c8 (fun b hb e=>by omega);have m9:Ext w0 _:=e4.out.after c8 (fun b hb e=>by omega);have r0:=c8.size;obtain⟨g3,d0⟩:=zE (G.setRow (t+1) #[.int .u32 (g:Int),.int .u32 (j:Int)]);rw [d0] at m6 m3 m7 n4 m9 r0;obtain⟨p0,k2,k8,k3,l0,a1⟩:=Zh6 d0 m6 m3 m7 n4 m9;have a3:Hid (t+2<=g3.heap.size/\k+2<t):=Zh oz;have k9:Hid (z.heap.size<=t):=Zh g9;clear M c8 m6 m3 m7 n4 m9 r0 d0 I c6 e4 e0 k1 g9 m1 n7 a0;go_upto_region 9 with (refine wpList_store_row rfl 26 (.tmp 11) (.tmp 25) rfl (t+1) #[.int .u32 (g:Int),.int .u32 (j:Int)] (by first | rfl | (simp;done)) rfl _ _ c4.out kz kz kz ?_;rw [p0.out])
  clear o2 o3 j3 j4 c2 c3 p0 c4;have b6:=Hy (a2.out.ext a1.out) (by rw [F.out];omega);rw [F.out] at b6;have e2:=Zh b6;clear b6;go_wp2_with fail;refine e2.out.mono ?_;rintro e T ⟨t2,o1,rfl,N,B⟩;obtain⟨s,n0⟩:=Dj (n:=l - 1) (by rw [show l - 1+1=l by omega];exact N);subst n0;have i5:=N.lt s rfl;have n3:=B.size;have a5:=B.keep k2.out;have c2:T.cell? ⟨t+1,0,none⟩=some (.int .u32 (g:Int)):=by rw [cell_of_row _ _ _ _ _ _ a5];rfl
  have c3:T.cell? ⟨t+1,1,none⟩=some (.int .u32 (j:Int)):=by rw [cell_of_row _ _ _ _ _ _ a5];rfl
  have i8:=Va N (o:=i*2) (m:=2) oz;have c0:=Tz (cs:=Q0x (g,j)) N i2 rfl;rw [Tu n2] at c0;have L:=Q0.setCells T s (#[.int .u32 (g:Int),.int .u32 (j:Int)]:Array Value).toList (i*2);have D:s≠K/\s≠O/\s≠k:=by have:=a3.out;omega
  have b8:=(k8.out.keep B id id).keep L (fun e=>D.1 e.symm) (fun e=>D.2.1 e.symm);have b5:=L.heap (B.keep k3.out) (fun e=>D.2.2 e.symm);have c1:=(l0.out.trans B.of).after L (fun b hb e=>by have:=a3.out;have:=k9.out;omega);have b7:Ext w0 _:=(a1.out.trans B).after L (fun b hb e=>by have:=a3.out;have:=D;have:=a1.out.size;have:=i5;have:=e8.out;omega);obtain⟨H,U⟩:=zE (T.setCells s (i*2) (#[.int .u32 (g:Int),.int .u32 (j:Int)]:Array Value).toList);have i7:H.ownsRow g3.heap.size 26 2 (.slice (some ⟨s,0,none⟩) l o1) l (Ql (f.set i (g,j))):=by rw [<-U];exact c0
  rw [U] at b8 b5 c1 b7;obtain⟨f3,f8,f0,e6,e1,f2,Q⟩:=Zh7 i8 U i7 b8 b5 c1 b7;have k6:Hid (s≠K/\s≠O):=Zh ⟨D.1,D.2.1⟩;clear i5 n3 a5 i8 c0 L D b8 b5 c1 b7 U i7 N B e2;go_upto_region 11 with (refine wpList_store_mid rfl 26 (.tmp 34) (.tmp 33) rfl s (i*2) #[.int .u32 (g:Int),.int .u32 (j:Int)] (by first | rfl | (simp;done)) rfl f3.out kz kz ?_;rw [f8.out])
  clear c2 c3 f3 f8;have u:H.drew.heap[k]?=some (.cells #[.slice lo n lc,.map (some K),.map (some O)] 125 (0,0)):=e1.out;have y:Ext H H.drew:=(Q0.refl _ H).drew;refine Zo (S:=fun p=>p.heap[k]?=some (.cells #[.slice lo n lc,.map (some K),.map (some O)] 125 (0,0))) [] kz u ?_;intro _;obtain⟨l1,g6⟩:=zE H.drew;rw [g6] at u y ⊢;clear g6;have i9:Qw (f.set i (g,j)):=Q05 a2.out.2 r5.out i;have b9:=Q08 j7.out r6.out i;have V:=j6.out l1 (Q.out.trans y) _ _ (e6.out.keep y id id) oz (a2.out.ext (Q.out.trans y)) F.out j7.out;obtain⟨d8,f1,e3,f4,f7,e9⟩:=Zh6 V (Qb f0.out y) (Q.out.trans y) (f2.out.trans y.of) i9 b9;clear V y i9 b9 f0 e6 f2 Q e1;refine tkE (i:=0) (d:=35) (v:=?_) rfl (Or.inl ⟨by rfl,?_⟩) u ?_;rotate_left
  ·intro p a9;refine Qq (x:=.tmp 4) ?_ k ?_ _ _ _ a9 Tryz.underlying125 kz <;> rfl
  try simp only [Act.put,pq]
  refine tE 1 36 u ?_;refine tkE (i:=3) (d:=38) (v:=?_) rfl (Or.inl ⟨by rfl,?_⟩) u ?_;rotate_left
  ·intro p a9;refine Qq (x:=.tmp 4) ?_ k ?_ _ _ _ a9 Tryz.underlying125 kz <;> rfl
  try simp only [Act.put,pq]
  refine tE 4 39 u ?_;refine rE [2] ?_;refine Q1.cons rfl (fun K C=>?_) Q1.nil;refine iw rfl ?_;go_simp;refine d8.out.mono ?_;rintro e g2 ⟨g0,t0,rfl,i3,g5,J⟩;have b1:=J.heap u oz;have i6:=Qd f1.out J (fun q A e=>by simp only [Value.ownBlock,Option.some.injEq] at A;have:=k6.out;omega);have i1:Ext w0 g2:=e3.out.after J (fun b hb e=>by have:=e8.out;have:=k7.out;omega);have b4:=j6.out g2 i1 _ _ g5 oz (v:=f.set i (g,j)) (by have r:=Dh (ws:=f.set i (g,j)) (by rw [List.length_set,F.out];exact i6) f7.out;exact r) (by rw [List.length_set];exact F.out) e9.out;obtain⟨d9,e5,f5⟩:=Zh3 b4 i3 (f4.out.trans J);clear b4 i6 i1 i3 g5 J d8 f1 f4 e3;refine C _ _ b1 (fun _=>?_);clear C K u;try simp only [Act.put,pq]
  refine rE [5] ?_;refine Q1.cons rfl (fun K C=>?_) Q1.nil;refine iw rfl ?_;go_simp;refine d9.out.mono ?_;rintro e r8 ⟨g1,t1,rfl,i4,b0,b3⟩;have b2:=b3.heap b1 oz;have E:=Q7d b0 e5.out i4;rw [o6.out _ e9.out f7.out] at E;obtain⟨e7,I,f6⟩:=Zh3 E b0 (f5.out.trans b3);clear E i4 b0 b3 d9 e5 f5;refine C _ _ b2 (fun _=>?_);clear C K b1;try simp only [Act.put,pq]
  refine tE 6 41 b2 ?_;refine Qp kz ?_ _;clear b2;obtain⟨d4,a8⟩:=zE (Fb R f (f.set i (g,j)));have E:=e7.out;rw [a8] at E;have i0:Sr R f (s1,s2) (g,j) i=!d4:=by rw [<-a8];exact d7.out
  have d6:=Zh i0;clear i0 a8 e7;cases d4
  ·rw [Bool.not_false] at E;go_wp2;go_ret;have Z:=Q2u i2 d6.out;rw [<-F.out] at Z;exact⟨W++(g0++g1),by unfold apB;rw [Z];rfl,by have r:=I.out.mono (d:=c+64) oz;simpa [List.append_assoc] using r,(d5.out.mono fun _ _ r=>r.elim).trans f6.out⟩
  ·rw [Bool.not_true] at E;go_wp2;exact⟨⟨i+1,W++(g0++g1),by omega,tz,rfl,by have r:=I.out.mono (d:=c+2*(i+1)) oz;simpa [List.append_assoc] using r,by rw [Ml,j5.out,d6.out];rfl,f6.out⟩,nz⟩
 by_cases j0:(j1,j2)=(g,j)
 ·have A:=j0;simp only [Prod.mk.injEq] at A;have n9:=A.1.symm;have o0:=A.2.symm;subst n9 o0;clear A;have M:=k4.out;rw [if_neg a0,if_pos rfl] at M;have d7:=Zh M;obtain⟨g3,d0⟩:=zE G;rw [d0] at c4 I e0 c6 e4 k1 o2 o3 j3 j4 c2 c3 ⊢;clear d0;have k2:=c4;have k8:=I;have k3:=e0;have l0:=c6;have a1:=e4;have a3:Hid (t+2<=g3.heap.size/\k+2<t):=Zh oz;have k9:Hid (z.heap.size<=t):=Zh g9;have m8:=Mk a0;clear M c4 I c6 e4 e0 k1 g9 m1 n7 a0 j0;rcases m8 with V | ⟨V,b4⟩
  all_goals
   go_upto_region 9 with (fail)
   clear o2 o3 j3 j4 c2 c3;have b6:=Hy (a2.out.ext a1.out) (by rw [F.out];omega);rw [F.out] at b6;have e2:=Zh b6;clear b6;go_wp2_with fail;refine e2.out.mono ?_;rintro e T ⟨t2,o1,rfl,N,B⟩;obtain⟨s,n0⟩:=Dj (n:=l - 1) (by rw [show l - 1+1=l by omega];exact N);subst n0;have i5:=N.lt s rfl;have n3:=B.size;have a5:=B.keep k2.out;have c2:T.cell? ⟨t+1,0,none⟩=some (.int .u32 (s1:Int)):=by rw [cell_of_row _ _ _ _ _ _ a5];rfl
   have c3:T.cell? ⟨t+1,1,none⟩=some (.int .u32 (s2:Int)):=by rw [cell_of_row _ _ _ _ _ _ a5];rfl
   have i8:=Va N (o:=i*2) (m:=2) oz;have c0:=Tz (cs:=Q0x (s1,s2)) N i2 rfl;rw [Tu n2] at c0;have L:=Q0.setCells T s (#[.int .u32 (s1:Int),.int .u32 (s2:Int)]:Array Value).toList (i*2);have D:s≠K/\s≠O/\s≠k:=by have:=a3.out;omega
   have b8:=(k8.out.keep B id id).keep L (fun e=>D.1 e.symm) (fun e=>D.2.1 e.symm);have b5:=L.heap (B.keep k3.out) (fun e=>D.2.2 e.symm);have c1:=(l0.out.trans B.of).after L (fun b hb e=>by have:=a3.out;have:=k9.out;omega);have b7:Ext w0 _:=(a1.out.trans B).after L (fun b hb e=>by have:=a3.out;have:=D;have:=a1.out.size;have:=i5;have:=e8.out;omega);obtain⟨H,U⟩:=zE (T.setCells s (i*2) (#[.int .u32 (s1:Int),.int .u32 (s2:Int)]:Array Value).toList);have i7:H.ownsRow g3.heap.size 26 2 (.slice (some ⟨s,0,none⟩) l o1) l (Ql (f.set i (s1,s2))):=by rw [<-U];exact c0
   rw [U] at b8 b5 c1 b7;obtain⟨f3,f8,f0,e6,e1,f2,Q⟩:=Zh7 i8 U i7 b8 b5 c1 b7;have k6:Hid (s≠K/\s≠O):=Zh ⟨D.1,D.2.1⟩;clear i5 n3 a5 i8 c0 L D b8 b5 c1 b7 U i7 N B e2;go_upto_region 11 with (refine wpList_store_mid rfl 26 (.tmp 34) (.tmp 33) rfl s (i*2) #[.int .u32 (s1:Int),.int .u32 (s2:Int)] (by first | rfl | (simp;done)) rfl f3.out kz kz ?_;rw [f8.out])
   clear c2 c3 f3 f8;have u:H.drew.heap[k]?=some (.cells #[.slice lo n lc,.map (some K),.map (some O)] 125 (0,0)):=e1.out;have y:Ext H H.drew:=(Q0.refl _ H).drew;refine Zo (S:=fun p=>p.heap[k]?=some (.cells #[.slice lo n lc,.map (some K),.map (some O)] 125 (0,0))) [] kz u ?_;intro _;obtain⟨l1,g6⟩:=zE H.drew;rw [g6] at u y ⊢;clear g6;have i9:Qw (f.set i (s1,s2)):=Q05 a2.out.2 r3.out i;have b9:=Q08 j7.out r4.out i;have V:=j6.out l1 (Q.out.trans y) _ _ (e6.out.keep y id id) oz (a2.out.ext (Q.out.trans y)) F.out j7.out;obtain⟨d8,f1,e3,f4,f7,e9⟩:=Zh6 V (Qb f0.out y) (Q.out.trans y) (f2.out.trans y.of) i9 b9;clear V y i9 b9 f0 e6 f2 Q e1;refine tkE (i:=0) (d:=35) (v:=?_) rfl (Or.inl ⟨by rfl,?_⟩) u ?_;rotate_left
   ·intro p a9;refine Qq (x:=.tmp 4) ?_ k ?_ _ _ _ a9 Tryz.underlying125 kz <;> rfl
   try simp only [Act.put,pq]
   refine tE 1 36 u ?_;refine tkE (i:=3) (d:=38) (v:=?_) rfl (Or.inl ⟨by rfl,?_⟩) u ?_;rotate_left
   ·intro p a9;refine Qq (x:=.tmp 4) ?_ k ?_ _ _ _ a9 Tryz.underlying125 kz <;> rfl
   try simp only [Act.put,pq]
   refine tE 4 39 u ?_;refine rE [2] ?_;refine Q1.cons rfl (fun K C=>?_) Q1.nil;refine iw rfl ?_;go_simp;refine d8.out.mono ?_;rintro e g2 ⟨g0,t0,rfl,i3,g5,J⟩;have b1:=J.heap u oz;have i6:=Qd f1.out J (fun q A e=>by simp only [Value.ownBlock,Option.some.injEq] at A;have:=k6.out;omega);have i1:Ext w0 g2:=e3.out.after J (fun b hb e=>by have:=e8.out;have:=k7.out;omega);have b4:=j6.out g2 i1 _ _ g5 oz (v:=f.set i (s1,s2)) (by have r:=Dh (ws:=f.set i (s1,s2)) (by rw [List.length_set,F.out];exact i6) f7.out;exact r) (by rw [List.length_set];exact F.out) e9.out;obtain⟨d9,e5,f5⟩:=Zh3 b4 i3 (f4.out.trans J);clear b4 i6 i1 i3 g5 J d8 f1 f4 e3;refine C _ _ b1 (fun _=>?_);clear C K u;try simp only [Act.put,pq]
   refine rE [5] ?_;refine Q1.cons rfl (fun K C=>?_) Q1.nil;refine iw rfl ?_;go_simp;refine d9.out.mono ?_;rintro e r8 ⟨g1,t1,rfl,i4,b0,b3⟩;have b2:=b3.heap b1 oz;have E:=Q7d b0 e5.out i4;rw [o6.out _ e9.out f7.out] at E;obtain⟨e7,I,f6⟩:=Zh3 E b0 (f5.out.trans b3);clear E i4 b0 b3 d9 e5 f5;refine C _ _ b2 (fun _=>?_);clear C K b1;try simp only [Act.put,pq]
   refine tE 6 41 b2 ?_;refine Qp kz ?_ _;clear b2;obtain⟨d4,a8⟩:=zE (Fb R f (f.set i (s1,s2)));have E:=e7.out;rw [a8] at E;have i0:Sr R f (s1,s2) (g,j) i=!d4:=by rw [<-a8];exact d7.out
   have d6:=Zh i0;clear i0 a8 e7;cases d4
   ·rw [Bool.not_false] at E;go_wp2;go_ret;have Z:=Q2u i2 d6.out;rw [<-F.out] at Z;exact⟨W++(g0++g1),by unfold apB;rw [Z];rfl,by have r:=I.out.mono (d:=c+64) oz;simpa [List.append_assoc] using r,(d5.out.mono fun _ _ r=>r.elim).trans f6.out⟩
   ·rw [Bool.not_true] at E;go_wp2;exact⟨⟨i+1,W++(g0++g1),by omega,tz,rfl,by have r:=I.out.mono (d:=c+2*(i+1)) oz;simpa [List.append_assoc] using r,by rw [Ml,j5.out,d6.out];rfl,f6.out⟩,nz⟩
 have m8:=Mk a0;have s5:=Mk j0;have M:=k4.out;rw [if_neg a0,if_neg j0] at M;have d7:=Zh M;clear M a0 j0 k1 g9 m1 n7;rcases m8 with V | ⟨V,b4⟩ <;> rcases s5 with hb3 | ⟨hb3,hb4⟩
 all_goals go_wp2
 all_goals exact⟨⟨i+1,W,by omega,tz,rfl,I.out.mono oz,by rw [Ml,j5.out,d7.out];rfl,c6.out⟩,nz⟩
def Y6(N:Nat)(L:List Nat):List Value:=Y2 (L++List.replicate (N - L.length) 0)
theorem Di{N:Nat}{L:List Nat}(h:L.length<=N):(Y6 N L).length=N:=by unfold Y6 Y2;simp;omega
theorem Cq(N:Nat):Y6 N []=List.replicate N (.int .i64 0):=by unfold Y6 Y2;simp
theorem Q0e{N:Nat}{L:List Nat}(h:L.length=N):Y6 N L=Y2 L:=by unfold Y6;rw [h];simp
theorem Do{N i:Nat}{L:List Nat}(h:i<L.length):(Y6 N L).getD i undef=.int .i64 (L.getD i 0:Nat):=by
 unfold Y6 Y2;rw [List.getD_eq_getElem?_getD,List.getElem?_map,List.getElem?_append_left h,List.getD_eq_getElem?_getD,List.getElem?_eq_getElem h];rfl
theorem Cu{N i:Nat}{L:List Nat}(b:L.length=i)(h:i<N):(Y6 N L).set i (.int .i64 (i:Int))=Y6 N (L++[i]):=by
 subst b;unfold Y6 Y2;rw [<-List.map_set]
 congr 1
 rw [List.set_append_right _ _ (Nat.le_refl _),Nat.sub_self,List.length_append,List.length_singleton];obtain⟨a,c⟩:∃ a,N - L.length=a+1:=⟨N - L.length - 1,by omega⟩;rw [c,List.replicate_succ,List.set_cons_zero,show N - (L.length+1)=a by omega];simp
def X9(L:List Nat)(a b n:Nat):List Nat:=Ub (L.take n) a b++L.drop n
theorem Q0c(L:List Nat)(a b:Nat):X9 L a b 0=L:=by unfold X9 Ub;simp
theorem Q3q{L:List Nat}(a b:Nat){n:Nat}(h:L.length<=n):X9 L a b n=Ub L a b:=by unfold X9;rw [List.take_of_length_le h,List.drop_eq_nil_of_le h,List.append_nil]
theorem W7(L:List Nat)(a b n:Nat):(X9 L a b n).length=L.length:=by unfold X9 Ub;simp;omega
theorem Q3t{L:List Nat}(a b:Nat){n:Nat}(h:n<L.length):(X9 L a b n).getD n 0=L.getD n 0:=by
 unfold X9;have c:(Ub (L.take n) a b).length=n:=by rw [Mo,List.length_take];omega
 rw [List.getD_eq_getElem?_getD,List.getElem?_append_right oz,c,Nat.sub_self,List.drop_eq_getElem_cons h,List.getD_eq_getElem?_getD,List.getElem?_eq_getElem h];rfl
theorem P0{L:List Nat}(a b:Nat){n:Nat}(h:n<L.length):X9 L a b (n+1)=Ub (L.take n) a b++(if L.getD n 0=a\/L.getD n 0=b then min a b else L.getD n 0)::L.drop (n+1):=by
 unfold X9 Ub;rw [List.take_succ_eq_append_getElem h,List.map_append,List.append_assoc,List.getD_eq_getElem?_getD,List.getElem?_eq_getElem h];rfl
theorem Q3k{L:List Nat}{a b:Nat}{n N:Nat}(h:n<L.length)(_:L.length<=N)(c:L.getD n 0=a\/L.getD n 0=b):(Y6 N (X9 L a b n)).set n (.int .i64 ((min a b:Nat):Int))=Y6 N (X9 L a b (n+1)):=by
 have d:(Ub (L.take n) a b).length=n:=by rw [Mo,List.length_take];omega
 unfold Y6;rw [W7,W7,P0 a b h,if_pos c];unfold X9 Y2;rw [List.drop_eq_getElem_cons h,<-List.map_set]
 congr 1
 rw [List.append_assoc,List.append_assoc,List.set_append_right _ _ oz,d,Nat.sub_self];rfl
theorem Q6a{L:List Nat}{a b:Nat}{n:Nat}(h:n<L.length)(c:¬ (L.getD n 0=a\/L.getD n 0=b)):X9 L a b (n+1)=X9 L a b n:=by
 rw [P0 a b h,if_neg c];unfold X9;rw [List.drop_eq_getElem_cons h,List.getD_eq_getElem?_getD,List.getElem?_eq_getElem h];rfl
theorem Rr{a:Nat->Nat->Bool}{i k:Nat}{L:List Nat}(h:a i k=true\/L.getD i 0=L.getD k 0):K2 a i L k=L:=by
 unfold K2;rcases h with h | h
 ·rw [if_pos h]
 ·split
  ·rfl
  ·rw [h];exact Q2o L _
theorem Q67{a:Nat->Nat->Bool}{i k:Nat}{L:List Nat}(h:a i k=false):K2 a i L k=Ub L (L.getD i 0) (L.getD k 0):=by
 unfold K2;rw [h];rfl
end Go.Proofs.YtejenndedjabhaaGreatDoor
