/- Laws: -/
import Derived.Test.YtedeckeahmkheaaGreatDoorK06
import Derived.Test.YtedeckeahmkheaaGreatDoorK05
import Derived.Test.YtedeckeahmkheaaGreatDoorK04
import Derived.Test.YtedeckeahmkheaaGreatDoorK03
import Derived.Lib.AppendZeros
set_option maxRecDepth 100000
set_option maxHeartbeats 4000000
namespace Go.Ab
open Go.RowKit
structure Y4 where
 frm:Int
 cl:Nat
 st:Nat × Nat
 tk:Nat
 ofi:Int
structure Qa where
 name:ByteArray
 left:Pat
 right:Pat
 ifs:Wd
 outs:List Y4
 mode:Int
def Z7(x:Y4):List Value:=[.int .i64 x.frm,.int .u32 (x.cl:Int),.int .u32 (x.st.1:Int),.int .u32 (x.st.2:Int),.int .u32 (x.tk:Int),.int .i64 x.ofi]
def Vq(l:List Y4):List Value:=l.flatMap Z7
def Xl(x:Y4):Prop:=x.cl<4294967296/\Za x.st/\x.tk<4294967296
theorem Km(x:Y4)(l:List Y4):Vq (x::l)=Z7 x++Vq l:=rfl
theorem Fe(l:List Y4):(Vq l).length=l.length*6:=by
 induction l with
 | nil=>rfl
 | cons x l ih=>rw [Km,List.length_append,ih];simp [Z7];omega
theorem Wa:∀(l:List Y4) (i j:Nat) (h:i<l.length),j<6->(Vq l)[i*6+j]?=(Z7 l[i])[j]?
 | [],i,j,h,_=>by simp at h
 | x::l,0,j,_,hj=>by rw [Km,Nat.zero_mul,Nat.zero_add,List.getElem?_append_left (by simpa [Z7] using hj)];rfl
 | x::l,i+1,j,h,hj=>by
  rw [Km,List.getElem?_append_right (by simp [Z7];omega),show (i+1)*6+j - (Z7 x).length=i*6+j by simp [Z7];omega];exact Wa l i j (by simpa using h) hj
def X0(w:World)(v:Value)(l:List Y4):Prop:=Rd w v l.length 6 (Vq l)/\∀ x∈l,Xl x
theorem X0.ext{A B:World}{v:Value}{l:List Y4}(h:X0 A v l)(ht:Ext A B):X0 B v l:=⟨h.1.ext ht,h.2⟩
theorem X0.slice{w:World}{v:Value}{l:List Y4}(h:X0 w v l):∃ ao cap,v=.slice ao l.length cap/\l.length<=maxLen:=by
 obtain⟨⟨_,a,ao,cap,b,_⟩,_⟩:=h;exact⟨ao,cap,b,a⟩
theorem X0.at{w:World}{v:Value}{l:List Y4}(h:X0 w v l){i:Nat}(b:i<l.length) :
  ∃ g off cap,v=.slice (some ⟨g,off,none⟩) l.length cap/\g<w.heap.size/\Xl l[i]/\w.cell? ⟨g,off+i*6,none⟩=some (.int .i64 l[i].frm)/\w.cell? ⟨g,off+i*6+1,none⟩=some (.int .u32 (l[i].cl:Int))/\w.cell? ⟨g,off+i*6+2,none⟩=some (.int .u32 (l[i].st.1:Int)) /\
   w.cell? ⟨g,off+i*6+3,none⟩=some (.int .u32 (l[i].st.2:Int))/\w.cell? ⟨g,off+i*6+4,none⟩=some (.int .u32 (l[i].tk:Int))/\w.cell? ⟨g,off+i*6+5,none⟩=some (.int .i64 l[i].ofi):=by
 obtain⟨⟨p,q,o,cap,n,d⟩,e⟩:=h;obtain⟨g,off,f,m,k⟩:=d oz
 have a:∀ j,j<6->w.cell? ⟨g,off+i*6+j,none⟩=(Z7 l[i])[j]?:=fun j hj=>by
  have c:i*6+j<l.length*6:=by omega
  rw [Nat.add_assoc,k (i*6+j) c,<-Wa l i j b hj,List.getD_eq_getElem?_getD,List.getElem?_eq_getElem (by rw [Fe];exact c)];rfl
 exact⟨g,off,cap,by rw [n,f],m,e _ (List.getElem_mem b),a 0 zd,a 1 zd,a 2 zd,a 3 zd,a 4 zd,a 5 zd⟩
def Pk(name:ByteArray)(lc rc:List Value)(iv ov:Value)(mode:Int):List Value:=.string name::(lc++(rc++[iv,ov,.int .i64 mode]))
def Z3(w:World)(l:Qa)(cs:List Value):Prop:=
 ∃ lc rc iv ov,cs=Pk l.name lc rc iv ov l.mode/\l.name.size<=maxLen/\Qo (fun g=>g<w.heap.size) w l.left lc/\Qo (fun g=>g<w.heap.size) w l.right rc/\Q7 w iv l.ifs/\X0 w ov l.outs
theorem Z3.ext{A B:World}{l:Qa}{cs:List Value}(h:Z3 A l cs)(a:Ext A B):Z3 B l cs:=by
 obtain⟨m,o,k,n,c,d,e,f,i,j⟩:=h;have b:∀ g,g<A.heap.size->g<B.heap.size:=fun g hg=>Nat.lt_of_lt_of_le hg a.size;exact⟨m,o,k,n,c,d,Qo.mono b (e.ext a),Qo.mono b (f.ext a),i.ext a,j.ext a⟩
end Go.Ab
namespace Go.Proofs.YtedeckeahmkheaaGreatDoor
open Go.RowKit Go.Ab
theorem Zm{w:World}{g n cap sz:Nat}{xs:List Value}{t:TypeId}(h:w.heap[g]?=some (.cells xs.toArray t (0,0))) (a:xs.length=n*sz) (b:n<=maxLen):Rd w (.slice (some ⟨g,0,none⟩) n cap) n sz xs:=by
 refine⟨a,b,_,cap,rfl,fun _=>⟨g,0,rfl,(Array.getElem?_eq_some_iff.1 h).1,fun j hj=>?_⟩⟩;rw [Nat.zero_add];have:j<xs.length:=by omega
 simp [World.cell?,h,List.getD_eq_getElem?_getD,this]
theorem Yr(K:Nat->Prop)(w:World)(k:Int){pl mi:Nat}(nt:Bool)(mn mx:Int)(a:pl<4294967296)(b:mi<4294967296):Qo K w (.node k pl mi nt mn mx []) [.int .i64 k,.int .u32 (pl:Int),.int .u32 (mi:Int),.bool nt,.int .i64 mn,.int .i64 mx,.slice none 0 0]:=by
 unfold Qo;exact⟨none,0,rfl,a,b,by simp,by simp [maxLen],by unfold Qs;trivial⟩
attribute [local go_sem] Oper.semAt_some Y3 Z8
theorem S5(b o j:Nat):(⟨b,o,none⟩:Addr).add j=⟨b,o+j,none⟩:=by
 unfold Addr.add;split
 ·rename_i a;subst a;rfl
 ·simp
section
variable {P:Program} {w:World}
theorem Kp{ops:Array Oper}{rest:List Oper}{o:Oper}{a:Act}{Q:Exit->Act->World->Prop}(r:o.guard=none)(s x:Operand)(t:TypeId)
  (C:o.op=.call { callee:=.builtin .append,args:=#[s,x],argTypes:=#[t,t] })
  (base:Nat) (e:TypeId) (z:Value) (size g:Nat) (l:P.underlying t=some (.slice e)) (B:(P.info? e).map (fun i=>(i.zero,i.size,i.bytes))=some (some z,size,g))
  (Y:z.cells.size=size) (X:0<size)
  (v:Value) (n:Nat) (xs:List Value) (D:a.eval s=v) (f:w.ownsRow base e size v n xs)
  (A:Option Addr) (m c:Nat) (d:List Value) (F:a.eval x=.slice A m c) (V:Rd w (.slice A m c) m size d) (M:∀ u∈d,u.oneCell'=true)
  (N:n+m<=maxLen) (R:(n+m)*g<=140737488355328) (O:base<=w.heap.size)
  (h:∀ ao c' w',w'.ownsRow base e size (.slice ao (n+m) c') (n+m) (xs++d)->Q0 (fun b=>v.ownBlock=some b) w w'->((Value.slice ao (n+m) c').ownBlock=v.ownBlock\/(Value.slice ao (n+m) c').ownBlock=some w.heap.size)->wpList P ops Q rest (a.put o.dst (.slice ao (n+m) c')) w'):wpList P ops Q (o::rest) a w:=by
 obtain⟨q,_,ao,I,E,G⟩:=V;simp only [zV,true_and] at E;obtain⟨rfl,rfl⟩:=E;rcases A with _ | H
 ·have k:m=0:=by
   apply Nat.le_antisymm _ (Nat.zero_le _);apply Nat.le_of_not_lt;intro L;obtain⟨_,_,p,_⟩:=G L;cases p
  subst k;obtain rfl:d=[]:=List.eq_nil_of_length_eq_zero (by simpa using q);obtain⟨i,y,a2,a1,a0⟩:=info_parts B;have W:(Builtin.append_ #[t,t] o.type #[v,.slice none 0 c]).run P w=.ok v w:=by
   rcases f.2 with ⟨rfl,rfl⟩ | ⟨J,I,Z,rfl,_,_,U,_⟩
   ·simp [Builtin.append_,run_underlying l,sizeOf,typeInfo,y,Builtin.lenOf,Builtin.firstCells]
   ·simp [Builtin.append_,run_underlying l,sizeOf,typeInfo,y,Builtin.lenOf,Builtin.firstCells,U,storeCells]
  refine wpList_plain r fun K hK=>?_
  unfold Oper.wp execOp;simp only [C,resolve,invoke,builtin,Sem.run_bind,Sem.run_pure,Result.andThen_ok,List.map_toArray,List.map_cons,List.map_nil,D,F,W];obtain⟨ao,c',rfl⟩:=Z2 f;exact hK _ _ (h ao c' w (by simpa using f) (Q0.refl _ _) (.inl rfl))
 ·refine Zl r s x t C base e z size g l B Y X v n xs D f H m c d F q (fun j u hj=>?_) M N R O h;have T:j<m*size:=by rw [<-q];exact(List.getElem?_eq_some_iff.1 hj).1
  have k:0<m:=by
   apply Nat.pos_of_ne_zero;rintro rfl;omega
  obtain⟨J,a3,p,_,S⟩:=G k;cases p;rw [S5,S j T,List.getD_eq_getElem?_getD,hj];rfl
end
theorem De(w:Wd):∀ u∈Qj w,u.oneCell'=true:=by
 intro u a;obtain⟨b,_,a⟩:=List.mem_flatMap.1 a;simp only [List.mem_cons,List.not_mem_nil,or_false] at a;rcases a with rfl | rfl <;> rfl
theorem V3:(Tryz.prog.info? 24).map (fun i=>(i.zero,i.size,i.bytes))=some (some (.agg #[.int .u32 0,.int .u32 0]),2,8):=by kernel_rfl
theorem Ny(n:Nat)(s:n<=100000)(w:World) :
  Calls Tryz.prog 63 #[.slice none 0 0,.int .i64 n] w fun e w'=>∃ ao c,e=.returned (.slice ao 0 c)/\w'.ownsRow w.heap.size 24 2 (.slice ao 0 c) 0 []/\Ext w w':=by
 by_cases m:n=0
 ·subst m;go_enter Tryz.func63,Tryz.ntmps63;go_wp2;go_ret;exact⟨_,_,rfl,World.ownsRow_nil _ _ _ _,Q0.refl _ _⟩
 ·obtain⟨r,i,k,p,f⟩:=info_parts (@V3);have b:=Lib.run_append_nil_zeros (P:=Tryz.prog) w 32 3 32 24 r (.agg #[.int .u32 0,.int .u32 0]) .i64 .i64 Tryz.underlying32 Tryz.underlying3 i k n oz oz oz (by rw [f];omega);have o:=grownCap_ge w n 0 24;have j:=grownCap_le_maxLen w n 0 24 (by unfold maxLen;omega);obtain⟨c,g⟩:=zE (grownCap w n 0 24);rw [g] at b o j;obtain⟨a,d⟩:=zE (Builtin.zeroCells (Value.agg #[.int .u32 0,.int .u32 0]).cells n++Builtin.zeroCells (Value.agg #[.int .u32 0,.int .u32 0]).cells (c - n));have q:a.size=c*2:=by
   rw [<-d,Array.size_append,size_zeroCells,size_zeroCells];show n*2+(c - n)*2=c*2;omega
  rw [d] at b;have t:(0:Int)<(n:Int):=by omega
  have l:=Zh b;clear b d g i k p f;go_enter Tryz.func63,Tryz.ntmps63
  go_wp2_with (at_builtin;refine Lib.wpList_append_run _ rfl (.tmp 20) (.tmp 21) _ _ rfl (.slice none 0 0) (.int .i64 n) rfl rfl _ _ l.out ?_)
  go_ret;exact⟨_,_,rfl,⟨by simp,.inr ⟨w.heap.size,c,a,rfl,Nat.le_refl _,Q5 zy,by omega,j,q,by simp⟩⟩,((Q0.refl _ w).drew).alloc _⟩
def Yi(us:List Wd)(k:Nat):Wd:=(us.take k).flatten
theorem Hf{us:List Wd}{k:Nat}(h:k<us.length):Yi us (k+1)=Yi us k++us[k]:=by
 unfold Yi;rw [List.take_succ_eq_append_getElem h,List.flatten_append];simp
theorem Wy{us:List Wd}{k:Nat}(h:us.length<=k):Yi us k=us.flatten:=by unfold Yi;rw [List.take_of_length_le h]
theorem L4{us:List Wd}(k:Nat):(Yi us k).length<=us.flatten.length:=by
 unfold Yi;conv=>rhs;rw [<-List.take_append_drop k us,List.flatten_append,List.length_append]
 omega
theorem Gj{w:World}{ao:Option Addr}{cap:Nat}{vs:List Value}{us:List Wd}{F:Wd}(b1:us.flatten=F)(G:Rd w (.slice ao us.length cap) us.length 1 vs) (b7:∀ i (h:i<us.length),Q7 w (vs.getD i undef) us[i]) (d1:F.length<=1000) :
  Calls Tryz.prog 39 #[.slice ao us.length cap] w fun e w'=>∃ u,e=.returned u/\w'.ownsRow w.heap.size 24 2 u F.length (Qj F)/\Ext w w':=by
 obtain⟨f,Y⟩:=zE us.length;have c4:f<=maxLen:=by have:=G.2.1;omega
 unfold maxLen at c4;rw [Y] at G ⊢;have o:=Zh Y;clear Y;have a5:=Zh b7;have C:=Zh b1;clear b1
 have b4:Hid (∀ c (b6:c<us.length),∃ l s,ao=some ⟨l,s,none⟩/\l<w.heap.size/\w.cell? ⟨l,s+c,none⟩=some (vs.getD c undef)):=Zh fun c b6=>by
  obtain⟨_,_,a9,b0,d2,c0⟩:=G;cases d2;obtain⟨l,s,c1,c2,c3⟩:=c0 (by have:=o.out;omega);exact⟨l,s,c1,c2,c3 c (by have:=o.out;omega)⟩
 clear G b7;go_enter Tryz.func39,Tryz.ntmps39;go_wp2
 refine wp_loop (fun a p=>∃(c:Nat),c<=f/\a.defers=[]/\(a.tmps.size=36/\a.tmps.getD 0 undef=.slice ao f cap/\a.tmps.getD 3 undef=.int .i64 ((Yi us c).length:Int)/\a.tmps.getD 9 undef=.slice ao f cap/\a.tmps.getD 10 undef=.int .i64 f/\a.tmps.getD 11 undef=.int .i64 c)/\w=p)
  (fun a _=>f - (intOf (a.tmps.getD 11 undef)).toNat) ?_ ?_
 ·exact⟨0,by omega,rfl,⟨rfl,rfl,by simp [Yi],rfl,rfl,rfl⟩,rfl⟩
 rintro⟨a3,_⟩ p ⟨c,b6,a0,⟨z,O,U,W,P,Q⟩,rfl⟩;subst a0;obtain⟨a4,A⟩:=Zz z;obtain⟨u,rfl⟩:∃ x,x=a4:=⟨_,rfl⟩;have a1:a3=#[u 0,u 1,u 2,u 3,u 4,u 5,u 6,u 7,u 8,u 9,u 10,u 11,u 12,u 13,u 14,u 15,u 16,u 17,u 18,u 19,u 20,u 21,u 22,u 23,u 24,u 25,u 26,u 27,u 28,u 29,u 30,u 31,u 32,u 33,u 34,u 35]:=A;clear A;subst a1;change u 0=_ at O;change u 3=_ at U;change u 9=_ at W;change u 10=_ at P;change u 11=_ at Q;rw [O,U,W,P,Q];clear O U W P Q z;by_cases d0:c<f
 ·have X:(c:Int)<(f:Int):=by omega
  have m:c<us.length:=by rw [o.out];exact d0
  obtain⟨l,s,rfl,c8,y⟩:=b4.out c m;obtain⟨d5,d4,B,a2⟩:=(a5.out c m).slice;rw [B] at y;have r:=Hf m;have k:=L4 (us:=us) (c+1);rw [C.out] at k;have n:(Yi us (c+1)).length=(Yi us c).length+us[c].length:=by rw [r,List.length_append]
  rw [n] at k;obtain⟨L,J⟩:=zE ((Yi us c).length);obtain⟨K,I⟩:=zE (us[c].length);rw [J,I] at k;rw [J];rw [I] at y;have d8:¬ ((L:Int)+(K:Int)<0):=by omega
  have b8:Hid ((Yi us (c+1)).length=L+K):=Zh (by rw [n,J,I]);clear r n J I B a2;go_wp2;exact⟨⟨c+1,by omega,by rw [b8.out];simp,by simp⟩,nz⟩
 obtain rfl:c=f:=by omega
 have X:¬ (c:Int)<(c:Int):=by omega
 have q:(Yi us c)=F:=(Wy (by rw [o.out];exact Nat.le_refl _)).trans C.out;rw [q];clear q;obtain⟨N,Z⟩:=zE F.length;rw [Z] at d1 ⊢;have E:=Zh Z;clear Z
 go_wp2_with (go_at_call 63;refine(Ny N oz _).mono ?_;rintro e d3 ⟨v,t,rfl,g,j⟩)
 refine wp_loop (fun a p=>∃(d:Nat) (v:Option Addr) (t:Nat),d<=c/\a.defers=[]/\(a.tmps.size=36/\a.tmps.getD 6 undef=.slice v (Yi us d).length t/\a.tmps.getD 25 undef=.slice ao c cap/\a.tmps.getD 26 undef=.int .i64 c/\a.tmps.getD 27 undef=.int .i64 d)/\p.ownsRow w.heap.size 24 2 (.slice v (Yi us d).length t) (Yi us d).length (Qj (Yi us d))/\Ext w p)
  (fun a _=>c - (intOf (a.tmps.getD 27 undef)).toNat) ?_ ?_
 ·exact⟨0,v,t,by omega,rfl,⟨rfl,rfl,rfl,rfl,rfl⟩,g,j⟩
 clear g j d3 v t;rintro⟨a3,_⟩ p ⟨d,v,t,d7,a0,⟨z,V,R,S,T⟩,g,j⟩;subst a0;obtain⟨a4,A⟩:=Zz z;obtain⟨u,rfl⟩:∃ x,x=a4:=⟨_,rfl⟩;have a1:a3=#[u 0,u 1,u 2,u 3,u 4,u 5,u 6,u 7,u 8,u 9,u 10,u 11,u 12,u 13,u 14,u 15,u 16,u 17,u 18,u 19,u 20,u 21,u 22,u 23,u 24,u 25,u 26,u 27,u 28,u 29,u 30,u 31,u 32,u 33,u 34,u 35]:=A;clear A;subst a1;change u 6=_ at V;change u 25=_ at R;change u 26=_ at S;change u 27=_ at T;rw [V,R,S,T];clear V R S T z;by_cases c9:d<c
 ·have X:(d:Int)<(c:Int):=by omega
  have m:d<us.length:=by rw [o.out];exact c9
  obtain⟨l,s,rfl,c8,b5⟩:=b4.out d m;have y:=j.cell_some b5 (fun h=>h);have H:=(a5.out d m).ext j;obtain⟨d5,d4,B,a2⟩:=H.slice;rw [B] at y H;have r:=Hf m;have k:=L4 (us:=us) (d+1);rw [C.out] at k;have n:(Yi us (d+1)).length=(Yi us d).length+us[d].length:=by rw [r,List.length_append]
  rw [n,E.out] at k;obtain⟨M,D,a6⟩:=Zh3 r n H.1;have c7:=j.size;clear r n B a2 H b5;obtain⟨a7,b2⟩:=zE (Yi us d);obtain⟨a8,b3⟩:=zE (us[d]);rw [b2] at g k M D ⊢;rw [b3] at y k M D a6;clear b2 b3
  go_wp2_with (at_builtin;refine Kp rfl (.tmp 31) (.tmp 32) 32 rfl w.heap.size 24 _ 2 8 Tryz.underlying32 @V3 rfl zd _ _ _ rfl g _ _ _ _ rfl a6.out (De _) (by unfold maxLen;omega) oz c7 ?_;intro a9 b0 d9 c5 c6 d6)
  refine⟨⟨d+1,a9,b0,by omega,tz,⟨rfl,by rw [D.out];rfl,rfl,rfl,rfl⟩,?_,?_⟩,nz⟩
  ·rw [D.out,M.out,Xu];exact c5
  ·exact j.after c6 (fun b hb e=>by have:=(g.lt _ e).1;omega)
 ·obtain rfl:d=c:=by omega
  have X:¬ (d:Int)<(d:Int):=by omega
  have q:(Yi us d)=F:=(Wy (by rw [o.out];exact Nat.le_refl _)).trans C.out;rw [q,E.out] at g;rw [q,E.out];have b9:=Zh g;clear g q;go_wp2;go_ret;exact⟨_,rfl,by rw [E.out];exact b9.out,j⟩
end Go.Proofs.YtedeckeahmkheaaGreatDoor
