/- append of a whole word, nil or not; slices.Grow, slices.Concat over sounds. -/
import Derived.Test.YtejenndedjabhaaGreatDoorT07
import Derived.Lib.AppendZeros
set_option maxRecDepth 100000
set_option maxHeartbeats 8000000
namespace Go.Proofs.YtejenndedjabhaaGreatDoor
open Go.RowKit Go.Ab
attribute [local go_sem] Oper.semAt_some Zi Qu
theorem Q9u(b o j:Nat):(⟨b,o,none⟩:Addr).add j=⟨b,o+j,none⟩:=by
 unfold Addr.add;split
 ·rename_i a;subst a;rfl
 ·simp
section
variable {P:Program} {w:World}
theorem Kh{ops:Array Oper}{rest:List Oper}{o:Oper}{a:Act}{Q:Exit->Act->World->Prop}(r:o.guard=none)(s x:Operand)(t:TypeId)
  (C:o.op=.call { callee:=.builtin .append,args:=#[s,x],argTypes:=#[t,t] })
  (base:Nat) (e:TypeId) (z:Value) (size g:Nat) (l:P.underlying t=some (.slice e)) (B:(P.info? e).map (fun i=>(i.zero,i.size,i.bytes))=some (some z,size,g))
  (Y:z.cells.size=size) (X:0<size)
  (v:Value) (n:Nat) (xs:List Value) (D:a.eval s=v) (f:w.ownsRow base e size v n xs)
  (A:Option Addr) (m c:Nat) (d:List Value) (F:a.eval x=.slice A m c) (V:Rd w (.slice A m c) m size d) (M:∀ u∈d,u.oneCell'=true)
  (N:n+m<=maxLen) (R:(n+m)*g<=140737488355328) (O:base<=w.heap.size)
  (h:∀ ao c' w',w'.ownsRow base e size (.slice ao (n+m) c') (n+m) (xs++d)->Qa (fun b=>v.ownBlock=some b) w w'->((Value.slice ao (n+m) c').ownBlock=v.ownBlock\/(Value.slice ao (n+m) c').ownBlock=some w.heap.size)->wpList P ops Q rest (a.put o.dst (.slice ao (n+m) c')) w'):wpList P ops Q (o::rest) a w:=by
 obtain⟨q,_,ao,I,E,G⟩:=V;simp only [zV,true_and] at E;obtain⟨rfl,rfl⟩:=E;rcases A with _ | H
 ·have k:m=0:=by
   apply Nat.le_antisymm _ (Nat.zero_le _);apply Nat.le_of_not_lt;intro L;obtain⟨_,_,p,_⟩:=G L;cases p
  subst k;obtain rfl:d=[]:=List.eq_nil_of_length_eq_zero (by simpa using q);obtain⟨i,y,a2,a1,a0⟩:=info_parts B;have W:(Builtin.append_ #[t,t] o.type #[v,.slice none 0 c]).run P w=.ok v w:=by
   rcases f.2 with ⟨rfl,rfl⟩ | ⟨J,I,Z,rfl,_,_,U,_⟩
   ·simp [Builtin.append_,run_underlying l,sizeOf,typeInfo,y,Builtin.lenOf,Builtin.firstCells]
   ·simp [Builtin.append_,run_underlying l,sizeOf,typeInfo,y,Builtin.lenOf,Builtin.firstCells,U,storeCells]
  refine wpList_plain r fun K hK=>?_
  unfold Oper.wp execOp;simp only [C,resolve,invoke,builtin,Sem.run_bind,Sem.run_pure,Result.andThen_ok,List.map_toArray,List.map_cons,List.map_nil,D,F,W];obtain⟨ao,c',rfl⟩:=Zb f;exact hK _ _ (h ao c' w (by simpa using f) (Qa.refl _ _) (.inl rfl))
 ·refine Yd r s x t C base e z size g l B Y X v n xs D f H m c d F q (fun j u hj=>?_) M N R O h;have T:j<m*size:=by rw [<-q];exact(List.getElem?_eq_some_iff.1 hj).1
  have k:0<m:=by
   apply Nat.pos_of_ne_zero;rintro rfl;omega
  obtain⟨J,a3,p,_,S⟩:=G k;cases p;rw [Q9u,S j T,List.getD_eq_getElem?_getD,hj];rfl
end
theorem Ec(w:Wd):∀ u∈Zj w,u.oneCell'=true:=by
 intro u a;obtain⟨b,_,a⟩:=List.mem_flatMap.1 a;simp only [List.mem_cons,List.not_mem_nil,or_false] at a;rcases a with rfl | rfl <;> rfl
theorem Ha:(Tryz.prog.info? 26).map (fun i=>(i.zero,i.size,i.bytes))=some (some (.agg #[.int .u32 0,.int .u32 0]),2,8):=by kernel_rfl
theorem Q6i(n:Nat)(s:n<=100000)(w:World) :
  Calls Tryz.prog 91 #[.slice none 0 0,.int .i64 n] w fun e w'=>∃ ao c,e=.returned (.slice ao 0 c)/\w'.ownsRow w.heap.size 26 2 (.slice ao 0 c) 0 []/\Ext w w':=by
 by_cases m:n=0
 ·subst m;go_enter Tryz.func91,Tryz.ntmps91;go_wp2;go_ret;exact⟨_,_,rfl,World.ownsRow_nil _ _ _ _,Qa.refl _ _⟩
 ·obtain⟨r,i,k,p,f⟩:=info_parts (@Ha);have b:=Lib.run_append_nil_zeros (P:=Tryz.prog) w 23 3 23 26 r (.agg #[.int .u32 0,.int .u32 0]) .i64 .i64 Tryz.underlying23 Tryz.underlying3 i k n oz oz oz (by rw [f];omega);have o:=grownCap_ge w n 0 26;have j:=grownCap_le_maxLen w n 0 26 (by unfold maxLen;omega);obtain⟨c,g⟩:=zE (grownCap w n 0 26);rw [g] at b o j;obtain⟨a,d⟩:=zE (Builtin.zeroCells (Value.agg #[.int .u32 0,.int .u32 0]).cells n++Builtin.zeroCells (Value.agg #[.int .u32 0,.int .u32 0]).cells (c - n));have q:a.size=c*2:=by
   rw [<-d,Array.size_append,size_zeroCells,size_zeroCells];show n*2+(c - n)*2=c*2;omega
  rw [d] at b;have t:(0:Int)<(n:Int):=by omega
  have l:=Zh b;clear b d g i k p f;go_enter Tryz.func91,Tryz.ntmps91
  go_wp2_with (at_builtin;refine Lib.wpList_append_run _ rfl (.tmp 20) (.tmp 21) _ _ rfl (.slice none 0 0) (.int .i64 n) rfl rfl _ _ l.out ?_)
  go_ret;exact⟨_,_,rfl,⟨by simp,.inr ⟨w.heap.size,c,a,rfl,Nat.le_refl _,Qd zy,by omega,j,q,by simp⟩⟩,((Qa.refl _ w).drew).alloc _⟩
def Ja(us:List Wd)(k:Nat):Wd:=(us.take k).flatten
theorem Tg{us:List Wd}{k:Nat}(h:k<us.length):Ja us (k+1)=Ja us k++us[k]:=by
 unfold Ja;rw [List.take_succ_eq_append_getElem h,List.flatten_append];simp
theorem Ct{us:List Wd}{k:Nat}(h:us.length<=k):Ja us k=us.flatten:=by unfold Ja;rw [List.take_of_length_le h]
theorem Q1y{us:List Wd}(k:Nat):(Ja us k).length<=us.flatten.length:=by
 unfold Ja;conv=>rhs;rw [<-List.take_append_drop k us,List.flatten_append,List.length_append]
 omega
theorem Wa{w:World}{ao:Option Addr}{cap:Nat}{vs:List Value}{us:List Wd}{F:Wd}(b1:us.flatten=F)(G:Rd w (.slice ao us.length cap) us.length 1 vs) (b7:∀ i (h:i<us.length),Qf w (vs.getD i undef) us[i]) (d1:F.length<=1000) :
  Calls Tryz.prog 49 #[.slice ao us.length cap] w fun e w'=>∃ u,e=.returned u/\w'.ownsRow w.heap.size 26 2 u F.length (Zj F)/\Ext w w':=by
 obtain⟨f,Y⟩:=zE us.length;have c4:f<=maxLen:=by have:=G.2.1;omega
 unfold maxLen at c4;rw [Y] at G ⊢;have o:=Zh Y;clear Y;have a5:=Zh b7;have C:=Zh b1;clear b1
 have b4:Hid (∀ c (b6:c<us.length),∃ l s,ao=some ⟨l,s,none⟩/\l<w.heap.size/\w.cell? ⟨l,s+c,none⟩=some (vs.getD c undef)):=Zh fun c b6=>by
  obtain⟨_,_,a9,b0,d2,c0⟩:=G;cases d2;obtain⟨l,s,c1,c2,c3⟩:=c0 (by have:=o.out;omega);exact⟨l,s,c1,c2,c3 c (by have:=o.out;omega)⟩
 clear G b7;go_enter Tryz.func49,Tryz.ntmps49;go_wp2
 refine wp_loop (fun a p=>∃(c:Nat),c<=f/\a.defers=[]/\(a.tmps.size=36/\a.tmps.getD 0 undef=.slice ao f cap/\a.tmps.getD 3 undef=.int .i64 ((Ja us c).length:Int)/\a.tmps.getD 9 undef=.slice ao f cap/\a.tmps.getD 10 undef=.int .i64 f/\a.tmps.getD 11 undef=.int .i64 c)/\w=p)
  (fun a _=>f - (intOf (a.tmps.getD 11 undef)).toNat) ?_ ?_
 ·exact⟨0,by omega,rfl,⟨rfl,rfl,by simp [Ja],rfl,rfl,rfl⟩,rfl⟩
 rintro⟨a3,_⟩ p ⟨c,b6,a0,⟨z,O,U,W,P,Q⟩,rfl⟩;subst a0;obtain⟨a4,A⟩:=Y7 z;obtain⟨u,rfl⟩:∃ x,x=a4:=⟨_,rfl⟩;have a1:a3=#[u 0,u 1,u 2,u 3,u 4,u 5,u 6,u 7,u 8,u 9,u 10,u 11,u 12,u 13,u 14,u 15,u 16,u 17,u 18,u 19,u 20,u 21,u 22,u 23,u 24,u 25,u 26,u 27,u 28,u 29,u 30,u 31,u 32,u 33,u 34,u 35]:=A;clear A;subst a1;change u 0=_ at O;change u 3=_ at U;change u 9=_ at W;change u 10=_ at P;change u 11=_ at Q;rw [O,U,W,P,Q];clear O U W P Q z;by_cases d0:c<f
 ·have X:(c:Int)<(f:Int):=by omega
  have m:c<us.length:=by rw [o.out];exact d0
  obtain⟨l,s,rfl,c8,y⟩:=b4.out c m;obtain⟨d5,d4,B,a2⟩:=(a5.out c m).slice;rw [B] at y;have r:=Tg m;have k:=Q1y (us:=us) (c+1);rw [C.out] at k;have n:(Ja us (c+1)).length=(Ja us c).length+us[c].length:=by rw [r,List.length_append]
  rw [n] at k;obtain⟨L,J⟩:=zE ((Ja us c).length);obtain⟨K,I⟩:=zE (us[c].length);rw [J,I] at k;rw [J];rw [I] at y;have d8:¬ ((L:Int)+(K:Int)<0):=by omega
  have b8:Hid ((Ja us (c+1)).length=L+K):=Zh (by rw [n,J,I]);clear r n J I B a2;go_wp2;exact⟨⟨c+1,by omega,by rw [b8.out];simp,by simp⟩,nz⟩
 obtain rfl:c=f:=by omega
 have X:¬ (c:Int)<(c:Int):=by omega
 have q:(Ja us c)=F:=(Ct (by rw [o.out];exact Nat.le_refl _)).trans C.out;rw [q];clear q;obtain⟨N,Z⟩:=zE F.length;rw [Z] at d1 ⊢;have E:=Zh Z;clear Z
 go_wp2_with (go_at_call 91;refine(Q6i N oz _).mono ?_;rintro e d3 ⟨v,t,rfl,g,j⟩)
 refine wp_loop (fun a p=>∃(d:Nat) (v:Option Addr) (t:Nat),d<=c/\a.defers=[]/\(a.tmps.size=36/\a.tmps.getD 6 undef=.slice v (Ja us d).length t/\a.tmps.getD 25 undef=.slice ao c cap/\a.tmps.getD 26 undef=.int .i64 c/\a.tmps.getD 27 undef=.int .i64 d)/\p.ownsRow w.heap.size 26 2 (.slice v (Ja us d).length t) (Ja us d).length (Zj (Ja us d))/\Ext w p)
  (fun a _=>c - (intOf (a.tmps.getD 27 undef)).toNat) ?_ ?_
 ·exact⟨0,v,t,by omega,rfl,⟨rfl,rfl,rfl,rfl,rfl⟩,g,j⟩
 clear g j d3 v t;rintro⟨a3,_⟩ p ⟨d,v,t,d7,a0,⟨z,V,R,S,T⟩,g,j⟩;subst a0;obtain⟨a4,A⟩:=Y7 z;obtain⟨u,rfl⟩:∃ x,x=a4:=⟨_,rfl⟩;have a1:a3=#[u 0,u 1,u 2,u 3,u 4,u 5,u 6,u 7,u 8,u 9,u 10,u 11,u 12,u 13,u 14,u 15,u 16,u 17,u 18,u 19,u 20,u 21,u 22,u 23,u 24,u 25,u 26,u 27,u 28,u 29,u 30,u 31,u 32,u 33,u 34,u 35]:=A;clear A;subst a1;change u 6=_ at V;change u 25=_ at R;change u 26=_ at S;change u 27=_ at T;rw [V,R,S,T];clear V R S T z;by_cases c9:d<c
 ·have X:(d:Int)<(c:Int):=by omega
  have m:d<us.length:=by rw [o.out];exact c9
  obtain⟨l,s,rfl,c8,b5⟩:=b4.out d m;have y:=j.cell_some b5 (fun h=>h);have H:=(a5.out d m).ext j;obtain⟨d5,d4,B,a2⟩:=H.slice;rw [B] at y H;have r:=Tg m;have k:=Q1y (us:=us) (d+1);rw [C.out] at k;have n:(Ja us (d+1)).length=(Ja us d).length+us[d].length:=by rw [r,List.length_append]
  rw [n,E.out] at k;obtain⟨M,D,a6⟩:=Zh3 r n H.1;have c7:=j.size;clear r n B a2 H b5;obtain⟨a7,b2⟩:=zE (Ja us d);obtain⟨a8,b3⟩:=zE (us[d]);rw [b2] at g k M D ⊢;rw [b3] at y k M D a6;clear b2 b3
  go_wp2_with (at_builtin;refine Kh rfl (.tmp 31) (.tmp 32) 23 rfl w.heap.size 26 _ 2 8 Tryz.underlying23 @Ha rfl zd _ _ _ rfl g _ _ _ _ rfl a6.out (Ec _) (by unfold maxLen;omega) oz c7 ?_;intro a9 b0 d9 c5 c6 d6)
  refine⟨⟨d+1,a9,b0,by omega,tz,⟨rfl,by rw [D.out];rfl,rfl,rfl,rfl⟩,?_,?_⟩,nz⟩
  ·rw [D.out,M.out,Vp];exact c5
  ·exact j.after c6 (fun b hb e=>by have:=(g.lt _ e).1;omega)
 ·obtain rfl:d=c:=by omega
  have X:¬ (d:Int)<(d:Int):=by omega
  have q:(Ja us d)=F:=(Ct (by rw [o.out];exact Nat.le_refl _)).trans C.out;rw [q,E.out] at g;rw [q,E.out];have b9:=Zh g;clear g q;go_wp2;go_ret;exact⟨_,rfl,by rw [E.out];exact b9.out,j⟩
end Go.Proofs.YtejenndedjabhaaGreatDoor
namespace Go.Ab
open Go.RowKit
structure Yl where
 frm:Int
 cl:Nat
 st:Nat × Nat
 tk:Nat
 ofi:Int
structure Qg where
 name:ByteArray
 left:Pat
 right:Pat
 ifs:Wd
 outs:List Yl
 mode:Int
def Zu(x:Yl):List Value:=[.int .i64 x.frm,.int .u32 (x.cl:Int),.int .u32 (x.st.1:Int),.int .u32 (x.st.2:Int),.int .u32 (x.tk:Int),.int .i64 x.ofi]
def Rt(l:List Yl):List Value:=l.flatMap Zu
def Jh(x:Yl):Prop:=x.cl<4294967296/\Qv x.st/\x.tk<4294967296
theorem Lx(x:Yl)(l:List Yl):Rt (x::l)=Zu x++Rt l:=rfl
theorem Q0z(l:List Yl):(Rt l).length=l.length*6:=by
 induction l with
 | nil=>rfl
 | cons x l ih=>rw [Lx,List.length_append,ih];simp [Zu];omega
theorem Co:∀(l:List Yl) (i j:Nat) (h:i<l.length),j<6->(Rt l)[i*6+j]?=(Zu l[i])[j]?
 | [],i,j,h,_=>by simp at h
 | x::l,0,j,_,hj=>by rw [Lx,Nat.zero_mul,Nat.zero_add,List.getElem?_append_left (by simpa [Zu] using hj)];rfl
 | x::l,i+1,j,h,hj=>by
  rw [Lx,List.getElem?_append_right (by simp [Zu];omega),show (i+1)*6+j - (Zu x).length=i*6+j by simp [Zu];omega];exact Co l i j (by simpa using h) hj
def Jr(w:World)(v:Value)(l:List Yl):Prop:=Rd w v l.length 6 (Rt l)/\∀ x∈l,Jh x
theorem Jr.ext{A B:World}{v:Value}{l:List Yl}(h:Jr A v l)(ht:Ext A B):Jr B v l:=⟨h.1.ext ht,h.2⟩
theorem Jr.slice{w:World}{v:Value}{l:List Yl}(h:Jr w v l):∃ ao cap,v=.slice ao l.length cap/\l.length<=maxLen:=by
 obtain⟨⟨_,a,ao,cap,b,_⟩,_⟩:=h;exact⟨ao,cap,b,a⟩
theorem Jr.at{w:World}{v:Value}{l:List Yl}(h:Jr w v l){i:Nat}(b:i<l.length) :
  ∃ g off cap,v=.slice (some ⟨g,off,none⟩) l.length cap/\g<w.heap.size/\Jh l[i]/\w.cell? ⟨g,off+i*6,none⟩=some (.int .i64 l[i].frm)/\w.cell? ⟨g,off+i*6+1,none⟩=some (.int .u32 (l[i].cl:Int))/\w.cell? ⟨g,off+i*6+2,none⟩=some (.int .u32 (l[i].st.1:Int)) /\
   w.cell? ⟨g,off+i*6+3,none⟩=some (.int .u32 (l[i].st.2:Int))/\w.cell? ⟨g,off+i*6+4,none⟩=some (.int .u32 (l[i].tk:Int))/\w.cell? ⟨g,off+i*6+5,none⟩=some (.int .i64 l[i].ofi):=by
 obtain⟨⟨p,q,o,cap,n,d⟩,e⟩:=h;obtain⟨g,off,f,m,k⟩:=d oz
 have a:∀ j,j<6->w.cell? ⟨g,off+i*6+j,none⟩=(Zu l[i])[j]?:=fun j hj=>by
  have c:i*6+j<l.length*6:=by omega
  rw [Nat.add_assoc,k (i*6+j) c,<-Co l i j b hj,List.getD_eq_getElem?_getD,List.getElem?_eq_getElem (by rw [Q0z];exact c)];rfl
 exact⟨g,off,cap,by rw [n,f],m,e _ (List.getElem_mem b),a 0 zd,a 1 zd,a 2 zd,a 3 zd,a 4 zd,a 5 zd⟩
def Bp(name:ByteArray)(lc rc:List Value)(iv ov:Value)(mode:Int):List Value:=.string name::(lc++(rc++[iv,ov,.int .i64 mode]))
def Y4(w:World)(l:Qg)(cs:List Value):Prop:=
 ∃ lc rc iv ov,cs=Bp l.name lc rc iv ov l.mode/\l.name.size<=maxLen/\Qt (fun g=>g<w.heap.size) w l.left lc/\Qt (fun g=>g<w.heap.size) w l.right rc/\Qf w iv l.ifs/\Jr w ov l.outs
theorem Y4.ext{A B:World}{l:Qg}{cs:List Value}(h:Y4 A l cs)(a:Ext A B):Y4 B l cs:=by
 obtain⟨m,o,k,n,c,d,e,f,i,j⟩:=h;have b:∀ g,g<A.heap.size->g<B.heap.size:=fun g hg=>Nat.lt_of_lt_of_le hg a.size;exact⟨m,o,k,n,c,d,Qt.mono b (e.ext a),Qt.mono b (f.ext a),i.ext a,j.ext a⟩
end Go.Ab
namespace Go.Proofs.YtejenndedjabhaaGreatDoor
open Go.RowKit Go.Ab
attribute [local go_sem] Oper.semAt_some Zi Qu
theorem Q81(x:Int)(w:World):Calls Tryz.prog 74 #[.int .i64 x] w fun e w'=>e=.returned (.bool (decide (x=0)))/\Ext w w':=by
 by_cases a:x=0
 ·subst a;go_enter Tryz.func74,Tryz.ntmps74;go_wp2;go_ret;exact⟨rfl,Qa.refl _ _⟩
 ·have b:(x == 0)=false:=by simpa using a
  rw [decide_eq_false a];go_enter Tryz.func74,Tryz.ntmps74;go_wp2;go_ret;exact⟨rfl,Qa.refl _ _⟩
theorem Q7z(l:List Nat):Zq (l.map fun(n:Nat)=>(n:Int))=Yq l:=by unfold Zq Yq;rw [List.map_map];rfl
def Jo(n:Nat):Bool:=decide (n≠0)
def Un(xs:List Nat)(i j:Nat)(R:List Value):Prop:=((xs.take j).filter Jo).length=i/\R.take i=Yq ((xs.take j).filter Jo)/\R.drop j=Yq (xs.drop j)
theorem Un.drop{xs:List Nat}{i j:Nat}{R:List Value}(h:Un xs i j R)(f:j<xs.length)(g:xs[j]=0):Un xs i (j+1) R:=by
 obtain⟨b,c,d⟩:=h;have a:=Ls Jo f;have e:¬ Jo xs[j]=true:=by rw [g];decide
 rw [if_neg e,List.append_nil] at a;refine⟨by rw [a];exact b,by rw [a];exact c,?_⟩;rw [<-List.drop_drop,d];unfold Yq;rw [<-List.map_drop,List.drop_drop]
theorem Un.keep{xs:List Nat}{i j:Nat}{R:List Value}(h:Un xs i j R)(k:j<xs.length)(l:xs[j]≠0)(f:i<R.length)(g:i<j+1):Un xs (i+1) (j+1) (R.set i (.int .i64 (xs[j]:Nat))):=by
 obtain⟨b,c,d⟩:=h;have a:=Ls Jo k;have e:Jo xs[j]=true:=by unfold Jo;simpa using l
 rw [if_pos e] at a;refine⟨by rw [a,List.length_append,b];rfl,?_,?_⟩
 ·rw [List.take_succ_eq_append_getElem (by simpa using f),List.getElem_set_self,List.take_set_of_le (Nat.le_refl i),c,a];simp [Yq]
 ·rw [List.drop_set_of_lt g,<-List.drop_drop,d];unfold Yq;rw [<-List.map_drop,List.drop_drop]
theorem Un.start{xs:List Nat}{k:Nat}(e:k<xs.length)(c:(xs.take k).all Jo=true) (f:xs[k]=0):Un xs k (k+1) (Yq xs):=by
 have b:=Ls Jo e;have d:¬ Jo xs[k]=true:=by rw [f];decide
 rw [if_neg d,List.append_nil,List.filter_eq_self.2 (fun a ha=>(List.all_eq_true.1 c) a ha)] at b;refine⟨by rw [b,List.length_take];omega,by rw [b];unfold Yq;rw [List.map_take],by unfold Yq;rw [List.map_drop]⟩
theorem Q4z{w:World}{base:Nat}{e:TypeId}{g n cap i:Nat}{xs:List Value}(h:w.ownsRow base e 1 (.slice (some ⟨g,0,none⟩) n cap) n xs) (p:i<=n) :
  w.ownsRow base e 1 (.slice (some ⟨g,0,none⟩) i cap) i (xs.take i):=by
 have k:=h.1;rcases h.2 with ⟨a,_⟩ | ⟨o,m,b,a,c,j,q,d,f,l⟩
 ·cases a
 ·simp only [zV,Option.some.injEq,Addr.mk.injEq] at a;obtain⟨⟨rfl,_,_⟩,_,rfl⟩:=a;refine⟨by rw [List.length_take,k];omega,.inr ⟨g,cap,b,rfl,c,j,by omega,d,f,?_⟩⟩;rw [<-l,List.take_take]
  congr 1;omega
theorem Ph{base:Nat}{e:TypeId}{g n cap:Nat}:∀(vs:List Value) (o:Nat) (w:World) (xs:List Value),w.ownsRow base e 1 (.slice (some ⟨g,0,none⟩) n cap) n xs ->
  ∃ ys,(w.setCells g o vs).ownsRow base e 1 (.slice (some ⟨g,0,none⟩) n cap) n ys/\ys.take o=xs.take o
 | [],_,_,xs,h=>⟨xs,h,rfl⟩
 | v::vs,o,w,xs,h=>by
  obtain⟨ys,h1,h2⟩:=Ph vs (o+1) _ _ (Ud h o v);refine⟨ys,h1,?_⟩;have h3:=congrArg (List.take o) h2;rw [List.take_take,List.take_take,Nat.min_eq_left oz,List.take_set_of_le (Nat.le_refl o)] at h3;exact h3
theorem Un.get{xs:List Nat}{i j:Nat}{R:List Value}(h:Un xs i j R)(b:j<xs.length):R[j]?=some (.int .i64 (xs[j]:Nat)):=by
 have a:=congrArg (fun l=>l[0]?) h.2.2;simp only [List.getElem?_drop,Nat.add_zero] at a;rw [a];simp [Yq,b]
theorem Q91(w:World):(zeroValue 3).run Tryz.prog w=.ok (.int .i64 0) w:=by kernel_rfl
theorem Q07{w:World}{base:Nat}{v:Value}{N:Nat}{xs:List Nat}(y:w.ownsRow base 3 1 v N (Yq xs)) (K:xs.length=N) (r:Nat) (lb:Array Value) (t:∀ args w,(callFunc r args).run Tryz.prog w=.ok (.enter r args) w)
  (J:∀(x:Int) (V:World),Calls Tryz.prog r (#[.int .i64 x]++lb) V fun e w'=>e=.returned (.bool (decide (x=0)))/\Ext V w') :
  Calls Tryz.prog 73 #[v,.func (.func r) #[] lb] w fun e w'=>∃ u,e=.returned u/\w'.ownsRow base 3 1 u (xs.filter Jo).length (Yq (xs.filter Jo))/\Qa (fun b=>v.ownBlock=some b) w w':=by
 obtain⟨c8,m,rfl⟩:=Zb y;have e6:=(Gi y).1;have d7:=(Gi y).2;unfold maxLen at d7;have b0:Rd w (.slice c8 N m) N 1 (Zq (xs.map fun(n:Nat)=>(n:Int))):=by rw [Q7z];exact Rd.of_own y
 have a6:=Sj b0 (by rw [List.length_map];exact K) r lb t (fun x=>decide (x=0)) (fun x _ V _=>J x V);obtain⟨F,b9,A,b8,W⟩:=Zh5 y J K t a6;clear y J K t b0 a6;go_enter Tryz.func73,Tryz.ntmps73;go_wp2_with fail;refine W.out.mono ?_;rintro e c7 ⟨e9,rfl,d8,Z⟩;have z:=Zh Z;clear W Z;rcases d8 with ⟨rfl,s⟩ | ⟨l,Q,rfl,R,a3⟩
 ·have D:xs.filter Jo=xs:=by
   rw [List.filter_eq_self];intro k L;rw [List.any_map,List.any_eq_false] at s;have:=s k L;unfold Jo
   simpa using this
  have c1:=Zh D;clear s D;go_wp2;go_ret;refine⟨_,rfl,?_,z.out.mono (fun _ _ h=>h.elim)⟩;rw [c1.out,A.out];exact Qm F.out z.out
 ·have a7:l<N:=by rw [List.length_map] at Q;rw [<-A.out];exact Q
  have a8:l<xs.length:=by rw [A.out];exact a7
  have b5:xs[l]=0:=by
   have:=of_decide_eq_true a3;rw [List.getElem_map] at this;omega
  have s:(xs.take l).all Jo=true:=by
   rw [List.all_eq_true];intro k L;rw [<-List.map_take,List.any_map,List.any_eq_false] at R;have:=R k L;unfold Jo
   simpa using this
  obtain⟨c,rfl⟩:=Nj F.out oz;have B:=Zh (Un.start a8 s b5);have X:=Zh (Qm F.out z.out);have f:Hid (Qa (fun b=>b=c) w c7):=Zh (z.out.mono (fun _ _ h=>h.elim));clear s b5 a3 R Q a8 z;have d5:((l:Int) == -1)=false:=by simp
  have d6:((l:Int)=-1)=False:=by simp
  go_wp2
  refine wp_loop (fun k V=>∃(i a:Nat) (j:List Value),i<a/\a<=N/\k.defers=[]/\gS k [0,1,5,6]=(42,[.slice (some ⟨c,0,none⟩) N m,.func (.func r) #[] lb,.int .i64 i,.int .i64 a])/\V.ownsRow base 3 1 (.slice (some ⟨c,0,none⟩) N m) N j/\Un xs i a j/\Qa (fun b=>b=c) w V)
   (fun k _=>N - (intOf (k.tmps.getD 6 undef)).toNat) ?_ ?_
  ·exact⟨l,l+1,_,by omega,by omega,rfl,rfl,X.out,B.out,f.out⟩
  clear X B f d5 d6 a7;rintro⟨e7,_⟩ V ⟨i,a,j,e3,e5,d2,b1,a0,B,a1⟩;subst d2;obtain⟨u,rfl⟩:=Qz b1;clear b1;obtain⟨d,g,f⟩:=Zh3 a0 B a1;clear a0 B a1;by_cases d4:a<N
  ·have d0:(a:Int)<(N:Int):=by omega
   have c9:(0:Int)<=(a:Int):=by omega
   have e1:(0:Int)<=(i:Int):=by omega
   have d3:(i:Int)<(N:Int):=by omega
   have P:a<xs.length:=by rw [A.out];exact d4
   have C:=d.out.cellAt a oz;have O:=d.out.cellAt i oz;have a4:=d.out.frozenAt i;rw [g.out.get P] at C;have M:=b9.out (xs[a]:Nat) V;have d9:=d.out.1;obtain⟨x,S⟩:=zE (xs[a]);obtain⟨U,T⟩:∃ U,j[i]?=some U:=⟨_,List.getElem?_eq_getElem (show i<j.length by omega)⟩;rw [T] at O;rw [S] at C M;have G:Hid (xs[a]=x):=Zh S;have Y:Hid (j[i]?=some U):=Zh T;have p:=Zh M;have t:=b8.out;clear M S T;by_cases b2:x=0
   ·subst b2;rw [decide_eq_true (by rfl)] at p;go_wp2_with fail;clear t;refine p.out.mono ?_;rintro e H ⟨rfl,o⟩;have c2:=Zh (Qm d.out o);have b6:=Zh (g.out.drop P G.out);have c4:Hid (Qa (fun b=>b=c) w H):=Zh (f.out.trans (o.mono (fun _ _ h=>h.elim)));clear d g f p o C O a4;go_wp2;exact⟨⟨i,a+1,j,by omega,by omega,tz,rfl,c2.out,b6.out,c4.out⟩,nz⟩
   ·rw [decide_eq_false oz] at p;go_wp2_with fail;clear t;refine p.out.mono ?_;rintro e H ⟨rfl,o⟩;have E:=Qm d.out o;have d1:=E.cellAt i oz;have e0:=E.frozenAt i;rw [Y.out] at d1;have c3:=Zh (Ud E i (.int .i64 (x:Nat)));have a2:Qa (fun b=>b=c) w (H.setCell ⟨c,i,none⟩ (.int .i64 (x:Nat))):=(f.out.trans (o.mono (fun _ _ h=>h.elim))).setCell (.inr rfl) _;have I:=g.out.keep P (by rw [G.out];exact b2) oz oz;rw [G.out] at I;have c6:=Zh a2;have b7:=Zh I;clear d g f p o C O a4 E a2 I Y;go_wp2;exact⟨⟨i+1,a+1,_,by omega,by omega,tz,rfl,c3.out,b7.out,c6.out⟩,nz⟩
  ·obtain rfl:a=N:=by omega
   have d0:¬ (a:Int)<(a:Int):=by omega
   have c9:(0:Int)<=(i:Int):=by omega
   have d3:(i:Int)<=(a:Int):=by omega
   have e2:(i:Int)<=(m:Int):=by omega
   have e4:(a:Int)<=(m:Int):=by omega
   have C:∀ ty,(Builtin.clear_ #[36] ty #[.slice (some ⟨c,i,none⟩) (a - i) (m - i)]).run Tryz.prog V=.ok (.tuple #[]) (V.setCells c i (List.replicate (a - i) (.int .i64 0))):=
    fun ty=>Lib.run_clear_slice V _ 3 ty (.int .i64 0) Tryz.underlying36 Q91 rfl rfl c i _ _ oz (fun q hq=>by rw [d.out.cellAt (i+q) oz];have:=d.out.1;rw [List.getElem?_eq_getElem oz];rfl) (fun q _=>d.out.frozenAt _)
   obtain⟨e8,b3,b4⟩:=Ph (List.replicate (a - i) (.int .i64 0)) i V j d.out;have a9:=Q4z b3 (i:=i) oz;have D:xs.filter Jo=(xs.take a).filter Jo:=by rw [List.take_of_length_le (by rw [A.out];exact Nat.le_refl _)]
   have a5:(V.setCells c i (List.replicate (a - i) (.int .i64 0))).ownsRow base 3 1 (.slice (some ⟨c,0,none⟩) i m) (xs.filter Jo).length (Yq (xs.filter Jo)):=by
    rw [D,g.out.1,<-g.out.2.1,<-b4];exact a9
   have c0:=Zh a5;have c5:Hid (Qa (fun b=>b=c) w (V.setCells c i (List.replicate (a - i) (.int .i64 0)))):=Zh (f.out.trans (Qa.setCells V c _ i));clear b3 b4 a9 D a5 d g f;go_wp2;go_ret;exact⟨_,rfl,c0.out,c5.out.mono (fun b _ e=>by subst e;rfl)⟩
theorem Q3g:∀ args w,(callFunc 74 args).run Tryz.prog w=.ok (.enter 74 args) w:=fun args w=>by simp [go_sem]
theorem Tryz.infoD:(Tryz.prog.info? 3).map (fun i=>(i.zero,i.size,i.bytes))=some (some (.int .i64 0),1,8):=by kernel_rfl
theorem Z4{a:Func}{t u:Tmp}(h:a.results=#[.tmp t,.tmp u])(tmps:Array Value)(P:Program)(w:World) :
  (results a tmps).run P w=.ok (.tuple #[tmps.getD t undef,tmps.getD u undef]) w:=by
 simp [results,h]
theorem Hy{l:List Int}(h:Xw l≠0):Ku l=[]:=by unfold Ku;rw [if_neg h]
theorem Q3v{w:World}{ao:Option Addr}{N cap:Nat}{l:List Int}(M:Rd w (.slice ao N cap) N 1 (Zq l)) (a0:l.length=N) :
  Calls Tryz.prog 31 #[.slice ao N cap] w fun e w'=>∃ u,e=.returned (.tuple #[u,.int .i64 (Xw l)])/\w'.ownsRow w.heap.size 3 1 u (Ku l).length (Yq (Ku l))/\Ext w w':=by
 have c9:=M.2.1;unfold maxLen at c9;have V:=Zh M;have i:=Zh a0;clear M a0;by_cases G:N<=256;case neg=>
  have o:(N:Int) > 256:=by omega
  have j:Xw l=12:=Q83 (by rw [i.out];exact G);rw [j,Hy (by rw [j];decide)];clear j;go_enter Tryz.func31,Tryz.ntmps31;go_wp2;refine bodyPost_ret (Z4 rfl _ _ _) rfl ⟨_,rfl,World.ownsRow_nil _ _ _ _,Qa.refl _ _⟩
 have o:¬ (N:Int) > 256:=by omega
 go_enter Tryz.func31,Tryz.ntmps31
 go_wp2_with (at_make;refine Hh rfl (.tmp 11) (.tmp 11) 36 rfl w.heap.size 3 _ 8 Tryz.underlying36 Tryz.infoD rfl .i64 .i64 N N N rfl rfl rfl rfl ?c1 ?c2 zy ?_)
 case c1=>omega
 case c2=>unfold maxLen;omega
 intro e5 r Z;rw [<-Q0o l N] at r;obtain⟨m,I⟩:=zE w.heap.size;have x:=Zh I;rw [I] at r ⊢;have W:=Zh r;have S:=Zh Z;clear r Z I o;go_wp2
 refine wp_loop (fun a q=>∃(b:Nat),b<=N/\a.defers=[]/\(a.tmps.size=44/\a.tmps.getD 0 undef=.slice ao N cap/\a.tmps.getD 4 undef=.slice (some ⟨m,0,none⟩) N N/\a.tmps.getD 13 undef=.slice ao N cap/\a.tmps.getD 14 undef=.int .i64 N/\a.tmps.getD 15 undef=.int .i64 b)/\q.ownsRow m 3 1 (.slice (some ⟨m,0,none⟩) N N) N (Yq (Xh l N b))/\Q2n l b/\Ext w q)
  (fun a _=>N - (intOf (a.tmps.getD 15 undef)).toNat) ?_ ?_
 ·exact⟨0,by omega,rfl,⟨rfl,rfl,rfl,rfl,rfl,rfl⟩,W.out,fun b8 L=>absurd L (Nat.not_lt_zero _),S.out⟩
 clear W S;rintro⟨d1,_⟩ q ⟨b,e0,c8,⟨b5,A,E,B,C,D⟩,a1,a7,Y⟩;subst c8;obtain⟨d2,v⟩:=Y7 b5;obtain⟨u,rfl⟩:∃ d,d=d2:=⟨_,rfl⟩;have d0:d1=#[u 0,u 1,u 2,u 3,u 4,u 5,u 6,u 7,u 8,u 9,u 10,u 11,u 12,u 13,u 14,u 15,u 16,u 17,u 18,u 19,u 20,u 21,u 22,u 23,u 24,u 25,u 26,u 27,u 28,u 29,u 30,u 31,u 32,u 33,u 34,u 35,u 36,u 37,u 38,u 39,u 40,u 41,u 42,u 43]:=v;clear v;subst d0;change u 0=_ at A;change u 4=_ at E;change u 13=_ at B;change u 14=_ at C;change u 15=_ at D;rw [A,E,B,C,D];clear A E B C D b5;obtain⟨k,y,g⟩:=Zh3 a1 a7 Y;clear a1 a7 Y;by_cases a6:b<N
 ·have o:(b:Int)<(N:Int):=by omega
  have d5:(0:Int)<=(b:Int):=by omega
  have s:b<l.length:=by rw [i.out];exact a6
  obtain⟨c5,e3,d4,b2,d6,a4⟩:=Y5 (V.out.ext g.out) a6;simp only [zV,true_and] at b2;obtain⟨rfl,rfl⟩:=b2;rw [Xi l s] at a4;have J:l.getD b 0=l[b]:=by rw [List.getD_eq_getElem?_getD,List.getElem?_eq_getElem s];rfl
  obtain⟨d,P⟩:=zE (l[b]);rw [P] at a4 J;have c4:=Zh P;have T:=Zh J;clear P J;have a2:¬ (0<=d/\d<=b/\l.getD d.toNat 0=d)->Xw l=2:=fun n=>Q9f (by rw [i.out];exact G) s (by rw [T.out];exact n);have p:=Zh a2;clear a2;by_cases e2:d<0
  ·have f:=Zh (p.out oz);go_wp2;refine bodyPost_ret (Z4 rfl _ _ _) rfl ⟨_,by rw [f.out];rfl,by rw [Hy (by rw [f.out];decide)];exact World.ownsRow_nil _ _ _ _,g.out⟩
  ·by_cases d9:d > (b:Int)
   ·have f:=Zh (p.out oz);go_wp2;refine bodyPost_ret (Z4 rfl _ _ _) rfl ⟨_,by rw [f.out];rfl,by rw [Hy (by rw [f.out];decide)];exact World.ownsRow_nil _ _ _ _,g.out⟩
   ·obtain⟨c,rfl⟩:∃ c:Nat,d=(c:Int):=⟨d.toNat,by omega⟩;have O:c<N:=by omega
    have e1:(c:Int)<(N:Int):=by omega
    have b0:c<l.length:=by rw [i.out];exact O
    obtain⟨d3,e4,c2,b3,d7,a5⟩:=Y5 (V.out.ext g.out) O;simp only [zV,Option.some.injEq,Addr.mk.injEq,and_true,true_and] at b3;obtain⟨⟨rfl,rfl⟩,rfl⟩:=b3;rw [Xi l b0] at a5;have K:l.getD c 0=l[c]:=by rw [List.getD_eq_getElem?_getD,List.getElem?_eq_getElem b0];rfl
    obtain⟨Q,b7⟩:=zE (l[c]);rw [b7] at a5 K;have U:=Zh K;clear b7 K;by_cases b1:Q=(c:Int)
    ·subst b1;have a9:=k.out.cellAt c oz;rw [show (Yq (Xh l N b))[c]?=some (.int .i64 (Vu l b c:Nat)) by rw [List.getElem?_eq_getElem (by simpa [Yq,Xh] using O)];simp [Yq,Xh]] at a9;have d8:=k.out.frozenAt c;have c7:=Q7j l b c;have t:=Ud k.out c (.int .i64 ((Vu l b c:Nat)+1));rw [<-Q0p s c4.out] at t;have F:Ext w (q.setCell ⟨m,c,none⟩ (.int .i64 ((Vu l b c:Nat)+1))):=g.out.setCell (.inl (by rw [x.out];exact Nat.le_refl _)) _;have a8:Q2n l (b+1):=by
      intro b8 L;rcases Nat.lt_succ_iff_lt_or_eq.1 L with n | rfl
      ·exact y.out b8 n
      ·rw [T.out];exact⟨by omega,by omega,U.out⟩
     obtain⟨X,a3⟩:=zE (Vu l b c);rw [a3] at a9 c7 t F;obtain⟨c3,b9,c0⟩:=Zh3 t F a8;clear t F a8 k g y p a3;go_wp2;exact⟨⟨b+1,by omega,by omega,c3.out,c0.out,b9.out⟩,nz⟩
    ·have f:=Zh (p.out (fun n=>b1 (by rw [<-U.out];exact n.2.2)));go_wp2;refine bodyPost_ret (Z4 rfl _ _ _) rfl ⟨_,by rw [f.out];rfl,by rw [Hy (by rw [f.out];decide)];exact World.ownsRow_nil _ _ _ _,g.out⟩
 ·obtain rfl:b=N:=by omega
  have o:¬ (b:Int)<(b:Int):=by omega
  have j:Xw l=0:=Q8j (by rw [i.out];exact G) (by rw [i.out];exact y.out);have b4:(Xh l b b).filter Jo=Ku l:=by
   unfold Ku;rw [if_pos j,<-Q3o,i.out];rfl
  have H:=Q07 k.out (Tn _ _ _) 74 #[] Q3g (fun d z=>Q81 d z);rw [b4] at H;have R:=Zh H;have f:=Zh j;clear b4 j H k;go_wp2_with fail;refine R.out.mono ?_;rintro e z ⟨u,rfl,v,b6⟩;have c6:Ext w z:=g.out.after b6 (fun c5 o h2=>by simp [Value.ownBlock] at h2;have:=x.out;omega);clear R b6;go_wp2;refine bodyPost_ret (Z4 rfl _ _ _) rfl ⟨_,by rw [f.out];rfl,by rw [x.out];exact v,c6⟩
theorem Jg{w:World}{g n cap sz:Nat}{xs:List Value}{t:TypeId}(h:w.heap[g]?=some (.cells xs.toArray t (0,0))) (a:xs.length=n*sz) (b:n<=maxLen):Rd w (.slice (some ⟨g,0,none⟩) n cap) n sz xs:=by
 refine⟨a,b,_,cap,rfl,fun _=>⟨g,0,rfl,(Array.getElem?_eq_some_iff.1 h).1,fun j hj=>?_⟩⟩;rw [Nat.zero_add];have:j<xs.length:=by omega
 simp [World.cell?,h,List.getD_eq_getElem?_getD,this]
theorem Ek(K:Nat->Prop)(w:World)(k:Int){pl mi:Nat}(nt:Bool)(mn mx:Int)(a:pl<4294967296)(b:mi<4294967296):Qt K w (.node k pl mi nt mn mx []) [.int .i64 k,.int .u32 (pl:Int),.int .u32 (mi:Int),.bool nt,.int .i64 mn,.int .i64 mx,.slice none 0 0]:=by
 unfold Qt;exact⟨none,0,rfl,a,b,by simp,by simp [maxLen],by unfold Z8;trivial⟩
def Qbj(l:List Int)(i:Nat):List Nat:=((List.range i).map (Uy l)).filter fun n=>decide (n≠0)
def Ez(n:Nat)(k:Int):Bool:=decide (k < -1) || decide ((n:Int)<=k)
theorem Q7y{w:World}{B:Nat}{ao:Option Addr}{N cap:Nat}(c:w.cell? ⟨B,0,none⟩=some (.slice ao N cap)) (x:Int) :
  Calls Tryz.prog 116 (#[.int .i64 x]++#[.pointer (some ⟨B,0,none⟩)]) w fun e w'=>e=.returned (.bool (Ez N x))/\Ext w w':=by
 unfold Ez;by_cases a:x < -1
 ·rw [decide_eq_true a];go_enter Tryz.func116,Tryz.ntmps116;go_wp2;go_ret;exact⟨rfl,Qa.refl _ _⟩
 ·rw [decide_eq_false a];by_cases b:(N:Int)<=x
  ·rw [decide_eq_true b];go_enter Tryz.func116,Tryz.ntmps116;go_wp2;go_ret;exact⟨rfl,Qa.refl _ _⟩
  ·rw [decide_eq_false b];go_enter Tryz.func116,Tryz.ntmps116;go_wp2;go_ret;exact⟨rfl,Qa.refl _ _⟩
theorem Ts:∀ args w,(callFunc 116 args).run Tryz.prog w=.ok (.enter 116 args) w:=fun args w=>by simp [go_sem]
theorem Q0y{w:World}{ao:Option Addr}{N cap:Nat}{sh:List Int}(j:Rd w (.slice ao N cap) N 1 (Zq sh)) (i:sh.length=N) :
  Calls Tryz.prog 75 #[.slice ao N cap] w fun e w'=>e=.returned (.int .i64 (Ju sh))/\Ext w w':=by
 have q:=j.2.1;unfold maxLen at q;have g:Ext w (w.alloc (.cells #[.slice ao N cap] 36)):=(Qa.refl _ w).alloc _;have n:(w.alloc (.cells #[.slice ao N cap] 36)).cell? ⟨w.heap.size,0,none⟩=some (.slice ao N cap):=cell_of_one (Qd rfl);have o:=Cd (j.ext g) i (cap:=cap) 116 #[.pointer (some ⟨w.heap.size,0,none⟩)] Ts (Ez N) (fun x _ V hV=>Q7y (hV.cell_some n id) x);obtain⟨b,c,d⟩:=Zh3 o g i;clear o g j i;by_cases r:N<=64;case neg=>
  have p:(N:Int) > 64:=by omega
  have a:Hid (Ju sh=12):=Zh (by unfold Ju;rw [if_pos (by rw [d.out];omega)]);go_enter Tryz.func75,Tryz.ntmps75;go_wp2;go_ret;exact⟨by rw [a.out];rfl,c.out⟩
 have p:¬ (N:Int) > 64:=by omega
 have a:Hid (Ju sh=if sh.any (Ez N)=true then 3 else 0):=Zh (by unfold Ju;rw [if_neg (by rw [d.out];omega),d.out];rfl);obtain⟨f,m⟩:=zE (sh.any (Ez N));rw [m] at b a;clear m;go_enter Tryz.func75,Tryz.ntmps75;go_wp2_with fail;refine b.out.mono ?_;rintro e s ⟨rfl,l⟩;have k:=Zh (c.out.trans l);clear b c l n;cases f
 ·go_wp2;go_ret;exact⟨by rw [a.out];rfl,k.out⟩
 ·go_wp2;go_ret;exact⟨by rw [a.out];rfl,k.out⟩
def Jp(d:List Int):Array Value:=((List.range 64).map fun(j:Nat)=>Value.bool (decide ((j:Int)∈d))).toArray
def isF:Value->Bool
 | .bool false=>true
 | _=>false
def Q23(w:World)(G:Nat):Nat:=match w.heap[G]? with
 | some (.cells cs _ _)=>(cs.toList.filter isF).length
 | _=>0
def Pw(d:List Int):Nat:=((List.range 64).filter fun(j:Nat)=>!decide ((j:Int)∈d)).length
theorem Bd{w:World}{G:Nat}{d:List Int}{t:TypeId}{m:Nat × Nat}(h:w.heap[G]?=some (.cells (Jp d) t m)):Q23 w G=Pw d:=by
 unfold Q23 Pw Jp at *;rw [h];simp only [List.filter_map,List.length_map]
 congr 2
 funext j
 cases hd:decide ((j:Int)∈d) <;> simp [isF,Function.comp,hd]
theorem Q84{d:List Int}{m:Nat}(f:m<64)(e:(m:Int) ∉ d):Pw (d++[(m:Int)])<Pw d:=by
 unfold Pw;have a:(List.range 64).filter (fun(j:Nat)=>!decide ((j:Int)∈d++[(m:Int)]))=((List.range 64).filter (fun(j:Nat)=>!decide ((j:Int)∈d))).filter (fun(j:Nat)=>decide (j≠m)):=by
  rw [List.filter_filter]
  congr 1
  funext j
  rw [Bool.eq_iff_iff];simp only [Bool.not_eq_true',decide_eq_false_iff_not,List.mem_append,List.mem_singleton,not_or,Bool.and_eq_true,decide_eq_true_eq];constructor
  ·rintro⟨b,c⟩;exact⟨fun a=>c (by rw [a]),b⟩
  ·rintro⟨b,c⟩;exact⟨c,fun a=>b oz⟩
 rw [a];refine List.length_filter_lt_length_iff_exists.2 ⟨m,List.mem_filter.2 ⟨List.mem_range.2 f,by simp [e]⟩,by simp⟩
theorem Q4p{d:List Int}{m:Nat}(a:m<64):(Jp d)[m]?=some (.bool (decide ((m:Int)∈d))):=by simp [Jp,a]
theorem Q5j{d:List Int}{m:Nat}:(Jp d).setIfInBounds m (.bool true)=Jp (d++[(m:Int)]):=by
 apply Array.ext
 ·simp [Jp]
 ·intro e c f;rw [Array.getElem_setIfInBounds (by simpa using c)];simp only [Jp,List.getElem_toArray,List.getElem_map,List.getElem_range];by_cases a:m=e
  ·subst a;rw [if_pos rfl];simp
  ·rw [if_neg a];congr 1;rw [Bool.eq_iff_iff];simp only [decide_eq_true_eq,List.mem_append,List.mem_singleton];constructor
   ·exact .inl
   ·rintro(b | b)
    ·exact b
    ·exact absurd oz a
theorem Q2o{w r:World}{s BS i N cap:Nat}{ao:Option Addr}{sh:List Int}(H:Ext w r)(f0:i<N)(c8:Xo sh)(b2:sh.length=N)(c7:Rd w (.slice ao N cap) N 1 (Zq sh))
  (b6:w.heap[s]?=some (.cells #[.int .i64 i] 3 (0,0))) (b7:w.heap[BS]?=some (.cells #[.slice ao N cap] 36 (0,0))) :
  Gw Tryz.prog 118 #[.pointer (some ⟨s,0,none⟩),.pointer (some ⟨BS,0,none⟩)] (fun _ _=>True) (fun _ _ (x:Int) _ ys=>ys=#[.int .i64 x]) (Xv sh i) (fun b=>b<w.heap.size) r:=by
 intro d2 a6 f5 j R b0 b1 b4 a8;have G:Ext w j:=H.after R (fun b k v=>v k);have K:=G.keep b6;have e6:=cell_of_one K;have f1:s<j.heap.size:=(Array.getElem?_eq_some_iff.1 K).1;show Calls _ _ #[.func (.yield d2) #[] #[],.pointer (some ⟨s,0,none⟩),.pointer (some ⟨BS,0,none⟩)] _ _;obtain⟨u,e2,e5,a1,e3,V,X,f4⟩:=Zh8 c8 c7 b4 b2 R a8 b0 b1;obtain⟨d4,d6,d5⟩:=Zh3 b7 H G;clear c8 c7 b4 b2 R a8 b0 b1 b7 b6 K H G;go_enter Tryz.func118,Tryz.ntmps118;go_wp2;clear e6 f1;obtain⟨c,y⟩:=zE j.heap.size;have d7:=Zh y;have U:Jp []=#[.bool false,.bool false,.bool false,.bool false,.bool false,.bool false,.bool false,.bool false,.bool false,.bool false,.bool false,.bool false,.bool false,.bool false,.bool false,.bool false,.bool false,.bool false,.bool false,.bool false,.bool false,.bool false,.bool false,.bool false,.bool false,.bool false,.bool false,.bool false,.bool false,.bool false,.bool false,.bool false,.bool false,.bool false,.bool false,.bool false,.bool false,.bool false,.bool false,.bool false,.bool false,.bool false,.bool false,.bool false,.bool false,.bool false,.bool false,.bool false,.bool false,.bool false,.bool false,.bool false,.bool false,.bool false,.bool false,.bool false,.bool false,.bool false,.bool false,.bool false,.bool false,.bool false,.bool false,.bool false]:=by kernel_rfl
 have a9:Qa (fun b=>False/\True) j (j.alloc (.cells (Jp []) 110)):=(Qa.refl _ j).alloc _;have l:a6 (fun b=>b=c) [] (j.alloc (.cells (Jp []) 110)):=X.out (fun _=>False) (fun b=>b=c) [] j _ V.out a9 (fun b q=>by subst q;exact⟨.inr oz,by simp;omega⟩);have B:(j.alloc (.cells (Jp []) 110)).heap[c]?=some (.cells (Jp []) 110 (0,0)):=by rw [<-y];exact Qd rfl
 have S:Qa (fun b=>¬ b<w.heap.size) r (j.alloc (.cells (Jp []) 110)):=e3.out.alloc _;rw [y];rw [U] at l B S;rw [<-U] at B;obtain⟨Y,W,p⟩:=Zh3 l B S;clear l B S a9 U y
 refine wp_loop (fun a e=>∃(f:List Int) (m:Int),Vj sh i f m/\a.defers=[]/\gS a [0,2,4,5]=(25,[.func (.yield d2) #[] #[],.pointer (some ⟨BS,0,none⟩),.pointer (some ⟨c,0,none⟩),.int .i64 m])/\a6 (fun b=>b=c) f e/\e.heap[c]?=some (.cells (Jp f) 110 (0,0))/\Qa (fun b=>¬ b<w.heap.size) r e)
  (fun _ e=>Q23 e c) ?_ ?_
 ·exact⟨[],i,Vj.start i (by rw [a1.out];exact f0),rfl,rfl,Y.out,W.out,p.out⟩
 clear Y W p V;rintro⟨g7,_⟩ e ⟨f,m,Q,e8,d0,c0,M,b3⟩;subst e8;obtain⟨g9,rfl⟩:=Qz d0;clear d0;have c3:=Bd M;have g3:=Q.lt;have g2:=u.out.1;obtain⟨F,t,o,a3,e0⟩:=Zh5 Q c0 M b3 c3;clear Q c0 M b3 c3;by_cases c1:0<=m;case neg=>
  have g:=F.out.stop u.out (fun h=>c1 h.1);have E:=Zh g;clear g;go_wp2;go_end0
  refine⟨⟨_,rfl⟩,(fun b=>b=c),.inl ?_⟩;rw [E.out];exact t.out
 obtain⟨d,rfl⟩:∃ d:Nat,m=(d:Int):=⟨m.toNat,by omega⟩;have c2:d<64:=by omega
 have g4:(d:Int)<64:=by omega
 have L:e.cell? ⟨c,d,none⟩=some (.bool (decide ((d:Int)∈f))):=by rw [cell_of_row e c d _ _ _ o.out,Q4p c2]
 have e9:e.frozen? ⟨c,d,none⟩=false:=frozen_of_row e c d _ _ o.out;by_cases g:(d:Int)∈f
 ·rw [decide_eq_true g] at L;have g:=F.out.stop u.out (fun h=>h.2 g);have E:=Zh g;clear g;go_wp2;go_end0
  refine⟨⟨_,rfl⟩,(fun b=>b=c),.inl ?_⟩;rw [E.out];exact t.out
 rw [decide_eq_false g] at L;obtain⟨c5,d3,T⟩:=F.out.more u.out c1 g;have c9:(e.setCell ⟨c,d,none⟩ (.bool true)).heap[c]?=some (.cells (Jp (f++[(d:Int)])) 110 (0,0)):=by
  have k:=o.out;simp only [World.setCell,Array.getElem?_modify,k];simp [Q5j]
 have A:Qa (fun b=>b=c) e (e.setCell ⟨c,d,none⟩ (.bool true)):=Qa.set1 e c d _;have e7:c<e.heap.size:=(Array.getElem?_eq_some_iff.1 o.out).1;have l:=X.out (fun b=>b=c) (fun b=>b=c) f e _ t.out (A.mono fun b _ h=>⟨h,trivial⟩) (fun b q=>⟨.inl q,by subst q;exact Nat.lt_of_lt_of_le e7 A.size⟩);obtain⟨g1,g8,f6,f7,f3,b5⟩:=e5.out (fun b=>b=c) f (d:Int) d3 _ #[.int .i64 d] T l rfl;obtain⟨a5,a4,a0,a2,p⟩:=Zh5 b5 T c5 c9 A;clear b5 T c5 c9 A l t;go_upto_region 5 with (fail)
 refine(wpIn_wide (n:=0)).1 ?_;gi_wp2;refine a5.out.mono ?_;rintro g0 a7 (⟨rfl,z,C⟩ | ⟨rfl,z,C⟩);case inr=>
  gi_wp2;go_wp2;refine bodyPost_ret (results_none rfl _ _ _) rfl ?_;exact⟨⟨_,rfl⟩,(fun b=>b=c),.inr ⟨f,(d:Int),d3,a4.out,z⟩⟩
 have J:Qa (fun b=>¬ b<w.heap.size) r a7:=(a3.out.trans (p.out.mono fun b _ h=>by have k:=d5.out.size;have v:=d7.out;omega)).trans (C.mono fun b _ h=>h.1);have I:Ext w a7:=d6.out.after J (fun b k v=>v k);have O:=C.heap a2.out (fun h=>h.2 rfl);have P:=Q84 c2 g;rw [<-Bd O,<-e0.out] at P;have b8:=I.keep d4.out;have f9:=cell_of_one b8;have f2:d<N:=by rw [<-a1.out];omega
 have c4:d<sh.length:=by omega
 have g5:(d:Int)<(N:Int):=by omega
 obtain⟨b,g6,f8,c6,q,b9⟩:=Y5 (e2.out.ext I) f2;simp only [zV,true_and] at c6;obtain⟨rfl,rfl⟩:=c6;rw [Xi sh c4] at b9;have D:=a0.out;rw [show sh.getD (d:Int).toNat (-1)=sh[d] by rw [List.getD_eq_getElem?_getD,Int.toNat_natCast,List.getElem?_eq_getElem c4];rfl] at D;obtain⟨x,d1⟩:=zE (sh[d]);rw [d1] at b9 D;obtain⟨d9,e4,d8,Z,e1⟩:=Zh5 z J O P D;clear z J C I O P D b8 d1 f3 a5 p a2 a4 a0 o a3 L e9;gi_wp2;go_wp2;exact⟨⟨f++[(d:Int)],x,e1.out,by first | trivial | rfl,rfl,d9.out,d8.out,e4.out⟩,by first | exact Z.out | simpa using Z.out⟩
theorem Q0k:∀ args w,(callFunc 118 args).run Tryz.prog w=.ok (.enter 118 args) w:=fun args w=>by simp [go_sem]
theorem Q4a{w:World}{ao:Option Addr}{N cap i:Nat} :
  Calls Tryz.prog 77 #[.slice ao N cap,.int .i64 i] w fun e w'=>e=.returned (.func (.func 118) #[] #[.pointer (some ⟨w.heap.size+1,0,none⟩),.pointer (some ⟨w.heap.size,0,none⟩)])
   /\ w'.heap[w.heap.size+1]?=some (.cells #[.int .i64 i] 3 (0,0))/\w'.heap[w.heap.size]?=some (.cells #[.slice ao N cap] 36 (0,0))/\Ext w w':=by
 go_enter Tryz.func77,Tryz.ntmps77;go_wp2;go_ret;exact⟨by simp,Qd zy,Qj (Qd rfl),((Qa.refl _ w).alloc _).alloc _⟩
theorem Q21{l:List Int}{i:Nat}(h:i<l.length)(z:Int):l.getD i z=l[i]:=by rw [List.getD_eq_getElem?_getD,List.getElem?_eq_getElem h];rfl
structure Gf (sh:List Int) (i:Nat) (d:List Int) (k:Int):Prop where
 pre:Up sh d
 lo:0<=k
 lt:k<(sh.length:Int)
 way:Xv sh i=Kj sh (65 - d.length) k d
theorem Gf.start{sh:List Int}(hs:Xo sh)(i:Nat)(hi:i<sh.length):Gf sh i [] (i:Int):=
 ⟨⟨List.nodup_nil,fun _ h=>by cases h⟩,by omega,by omega,Lz (fun k hk=>(hs.2 k hk).1) _ _ _ oz⟩
theorem Gf.more{sh d:List Int}{i:Nat}{k:Int}(e:Xo sh)(h:Gf sh i d k)(c:k ∉ d):Gf sh i (d++[k]) (if sh.getD k.toNat (-1)≠-1/\sh.getD k.toNat (-1)≠k then sh.getD k.toNat (-1) else k):=by
 have n:=h.pre.le;have g:=e.1;have a:=h.way;have j:=Wu e k.toNat;have l:=h.lo;have m:=h.lt;obtain⟨b,f⟩:∃ b,65 - d.length=b+1:=⟨64 - d.length,by omega⟩;rw [f] at a;unfold Kj at a;rw [if_pos c] at a;refine⟨h.pre.snoc h.lo h.lt c,?_,?_,?_⟩
 ·split <;> omega
 ·split <;> omega
 ·rw [a,List.length_append,List.length_singleton];have:65 - (d.length+1)=b:=by omega
  rw [this]
theorem Gf.stop{sh d:List Int}{i:Nat}{k:Int}(f:Xo sh)(h:Gf sh i d k)(c:k∈d):Xv sh i=d:=by
 have j:=h.pre.le;have g:=f.1;have a:=h.way;obtain⟨b,e⟩:∃ b,65 - d.length=b+1:=⟨64 - d.length,by omega⟩;rw [e] at a;unfold Kj at a;rw [if_neg (fun h=>h c)] at a;exact a
def Qbr:Value->Nat
 | .slice _ n _=>n
 | _=>0
theorem Nd(l:List Int)(x:Int):Zq (l++[x])=Zq l++[.int .i64 x]:=by simp [Zq]
theorem Q76:(Tryz.prog.info? 36).map (fun i=>(i.zero,i.size,i.bytes))=some (some (.slice none 0 0),1,24):=by kernel_rfl
def Jz(X:Nat)(W:World)(v:Value)(L:List (List Int)):Prop:=∃ vs,W.ownsRow X 36 1 v L.length vs/\vs.length=L.length/\∀ i (h:i<L.length),∃ ao c,vs.getD i undef=.slice ao L[i].length c/\W.ownsRow X 3 1 (.slice ao L[i].length c) L[i].length (Zq L[i])
def Tv(w:World)(v:Value)(L:List (List Int)):Prop:=∃ vs,Rd w v L.length 1 vs/\∀ i (h:i<L.length),∃ ao c,vs.getD i undef=.slice ao L[i].length c/\Rd w (.slice ao L[i].length c) L[i].length 1 (Zq L[i])
theorem Tv.ext{A B:World}{v:Value}{L:List (List Int)} (h:Tv A v L) (a:Ext A B):Tv B v L:=by
 obtain⟨j,d,e⟩:=h;refine⟨j,d.ext a,fun i hi=>?_⟩;obtain⟨b,c,f,g⟩:=e i hi;exact⟨b,c,f,g.ext a⟩
theorem Jz.rd{X:Nat}{W:World}{v:Value}{L:List (List Int)} (h:Jz X W v L):Tv W v L:=by
 obtain⟨g,c,_,d⟩:=h;refine⟨g,Rd.of_own c,fun i hi=>?_⟩;obtain⟨a,b,e,f⟩:=d i hi;exact⟨a,b,e,Rd.of_own f⟩
theorem Jz.nil(X:Nat)(W:World):Jz X W (.slice none 0 0) []:=⟨[],World.ownsRow_nil _ _ _ _,rfl,fun i hi=>by cases hi⟩
theorem Jz.ext{X:Nat}{A B:World}{v:Value}{L:List (List Int)} (h:Jz X A v L) (a:Ext A B):Jz X B v L:=by
 obtain⟨k,d,f,e⟩:=h;refine⟨k,Qm d a,f,fun i hi=>?_⟩;obtain⟨b,c,g,j⟩:=e i hi;exact⟨b,c,g,Qm j a⟩
theorem Jz.slice{X:Nat}{W:World}{v:Value}{L:List (List Int)} (h:Jz X W v L):∃ ao c,v=.slice ao L.length c:=by
 obtain⟨b,a,_⟩:=h;exact Zb a
theorem Jz.lt{X:Nat}{W:World}{v:Value}{L:List (List Int)} (h:Jz X W v L):∀ g,v.ownBlock=some g->X<=g:=by
 obtain⟨b,a,_⟩:=h;exact fun g hg=>(a.lt g hg).1
theorem Jz.push{X:Nat}{V k:World}{v p:Value}{L:List (List Int)} {x:List Int} {vo:Option Addr} {vc:Nat} {vs:List Value} (q:V.ownsRow X 36 1 v L.length vs) (e:vs.length=L.length) (r:∀ i (h:i<L.length),∃ ao c,vs.getD i undef=.slice ao L[i].length c/\V.ownsRow X 3 1 (.slice ao L[i].length c) L[i].length (Zq L[i]))
  (o:V.ownsRow X 3 1 (.slice vo x.length vc) x.length (Zq x)) (s:k.ownsRow X 36 1 p (L.length+1) (vs++[.slice vo x.length vc])) (l:Qa (fun b=>v.ownBlock=some b) V k):Jz X k p (L++[x]):=by
 have m:∀ {u:Value} {n:Nat} {xs:List Value},V.ownsRow X 3 1 u n xs->∀ g,u.ownBlock=some g->¬ v.ownBlock=some g:=fun hu g hg d=>by
  obtain⟨w,j⟩:=Kl hu hg;obtain⟨y,a⟩:=Kl q d;rw [j] at a;simp only [Option.some.injEq,Obj.cells.injEq] at a;exact absurd a.2.1 zd
 refine⟨vs++[.slice vo x.length vc],by rw [List.length_append];exact s,by simp [e],fun i hi=>?_⟩;by_cases f:i<L.length
 ·obtain⟨ao,c,j,a⟩:=r i f;rw [List.getElem_append_left f];refine⟨ao,c,?_,Qq a l (m a)⟩;rw [List.getD_eq_getElem?_getD,List.getElem?_append_left (by rw [e];exact f),<-List.getD_eq_getElem?_getD,j]
 ·have t:i=L.length:=by simp at hi;omega
  subst t;have d:(L++[x])[L.length]'hi=x:=by simp
  rw [d];refine⟨vo,vc,?_,Qq o l (m o)⟩;rw [List.getD_eq_getElem?_getD,<-e,List.getElem?_append_right (Nat.le_refl _)];simp
end Go.Proofs.YtejenndedjabhaaGreatDoor
namespace Go.Ab
open Go.RowKit
def Qb9(l:Qg)(cs:List Value):Prop:=∃(io:Option Addr) (ic:Nat),cs[15]?=some (.slice io l.ifs.length ic)/\l.ifs.length<=ic
end Go.Ab
