/- MergersChains: -/
import Derived.Test.YtejenndedjabhaaGreatDoorT20
set_option maxRecDepth 100000
set_option maxHeartbeats 32000000
namespace Go.Proofs.YtejenndedjabhaaGreatDoor
open Go.RowKit Go.Ab
def Q32(l:List Nat)(n:Nat):List Int:=(List.range n).map fun i=>((l.getD i 0 % (n+1):Nat):Int) - 1
theorem Q0x(l:List Nat)(n:Nat):(Q32 l n).length=n:=by simp [Q32]
theorem Qiz{l:List Nat}{n i:Nat}(h:i<n):(Q32 l n).getD i (-1)=((l.getD i 0 % (n+1):Nat):Int) - 1:=by
 rw [List.getD_eq_getElem?_getD];simp [Q32,h]
theorem Qk2{l:List Nat}{n:Nat}(a:n<=64):X8 (Q32 l n):=by
 refine⟨by rw [Q0x];exact a,fun k hk=>?_⟩;obtain⟨b,c,rfl⟩:=List.mem_map.1 hk;rw [Q0x];have:=Nat.mod_lt (l.getD b 0) (show 0<n+1 by omega);omega
theorem Qm3{sh:List Int}(h:X8 sh):Jd sh=0:=by
 unfold Jd;rw [if_neg (by have:=h.1;omega),if_neg];intro a;obtain⟨d,c,b⟩:=List.any_eq_true.1 a;rw [Bool.or_eq_true,decide_eq_true_iff,decide_eq_true_iff] at b;have:=h.2 d c;omega
def Ue(sh:List Int)(k j:Nat):Nat:=(List.range k).countP fun p=>decide (p≠j) && decide (sh.getD p (-1)=(j:Int))
def Uk(sh:List Int)(n k:Nat):List Nat:=(List.range n).map (Ue sh k)
theorem Qga(sh:List Int)(k j:Nat):Ue sh k j<=k:=Nat.le_trans List.countP_le_length (by rw [List.length_range];exact Nat.le_refl _)
theorem Sa(sh:List Int)(k j:Nat):Ue sh (k+1) j=Ue sh k j+if k≠j/\sh.getD k (-1)=(j:Int) then 1 else 0:=by
 unfold Ue;rw [List.range_succ,List.countP_append]
 congr 1
 rw [List.countP_singleton];by_cases a:k=j <;> by_cases b:sh.getD k (-1)=(j:Int) <;> simp [a]
theorem Q6v(sh:List Int)(n:Nat):Z5 (Uk sh n 0)=List.replicate n (.int .i64 0):=by
 unfold Uk Z5;apply List.ext_getElem
 ·simp
 ·intro c a b;simp [Ue]
theorem Rw(sh:List Int)(n k:Nat):(Uk sh n k).length=n:=by simp [Uk]
theorem Rt{sh:List Int}{n k i:Nat}(h:i<n):(Z5 (Uk sh n k)).getD i undef=.int .i64 (Ue sh k i:Nat):=by
 rw [List.getD_eq_getElem?_getD];simp [Z5,Uk,h]
theorem Q68{sh:List Int}{n k:Nat}(h:sh.getD k (-1)<0\/sh.getD k (-1)=(k:Int)):Uk sh n (k+1)=Uk sh n k:=by
 unfold Uk;refine List.map_congr_left fun j _=>?_
 rw [Sa,if_neg,Nat.add_zero];rintro⟨a,b⟩;rcases h with h | h <;> omega
theorem Q93{sh:List Int}{n k x:Nat}(h:sh.getD k (-1)=(x:Int)) (b:x≠k):Z5 (Uk sh n (k+1))=(Z5 (Uk sh n k)).set x (.int .i64 ((Ue sh k x:Nat)+1)):=by
 unfold Z5 Uk;apply List.ext_getElem
 ·simp
 ·intro c d e;rw [List.getElem_set];simp only [List.getElem_map,List.getElem_range];by_cases a:x=c
  ·subst a;rw [if_pos rfl,Sa,if_pos ⟨fun a=>b a.symm,h⟩];simp
  ·rw [if_neg a,Sa,if_neg]
   ·rfl
   ·rintro⟨_,f⟩;omega
theorem Q1g{sh:List Int}{j:Nat}:decide (0<Ue sh sh.length j)=toB sh j:=by
 unfold Ue toB;rw [Bool.eq_iff_iff,decide_eq_true_iff,List.countP_pos_iff,List.any_eq_true]
theorem Q04{sh:List Int}{j:Nat}:Ug sh j=(Ux sh j && decide (Ue sh sh.length j=0)):=by
 unfold Ug;rw [<-Q1g]
 congr 1
 by_cases a:Ue sh sh.length j=0 <;> simp [a]
 omega
def hdC(sh:List Int):List Nat:=(List.range sh.length).filter (Ug sh)
def hdK(sh:List Int):List Nat:=(List.range sh.length).filter (Jm sh)
theorem Fb(sh:List Int):Ys sh=(hdC sh).map (Qh sh):=rfl
theorem Gs(sh:List Int):Z6 sh=(hdK sh).map (Qh sh):=rfl
theorem Qk6{p:Nat->Bool}{n i j:Nat}(b:i<j)(c:j<((List.range n).filter p).length):((List.range n).filter p)[i]' oz<((List.range n).filter p)[j]:=by
 have a:((List.range n).filter p).Pairwise (· < ·):=List.Pairwise.filter p List.pairwise_lt_range;exact List.pairwise_iff_getElem.1 a i j oz c b
theorem Q8f{p:Nat->Bool}{n i:Nat}(h:i<((List.range n).filter p).length):((List.range n).filter p)[i]<n/\p (((List.range n).filter p)[i])=true:=by
 have:=List.getElem_mem h;rw [List.mem_filter,List.mem_range] at this;exact this
theorem Qh9{d:List Int}(i:d.Nodup){j:Nat}(g:j<d.length):d.getD j 0 ∉ d.take j:=by
 intro e;obtain⟨b,f,a⟩:=gx e;rw [List.length_take] at f;have c:(d.take j).getD b 0=d.getD b 0:=by
  rw [List.getD_eq_getElem?_getD,List.getD_eq_getElem?_getD,List.getElem?_take_of_lt oz]
 rw [c] at a;have:=gi i oz g a;omega
section
variable {sh:List Int} (hs:X8 sh) {s:Nat} (hi:s<sh.length)
include hs hi
theorem Qak{j:Nat}(a:j<(Qh sh s).length):∃ x:Nat,(Qh sh s).getD j 0=(x:Int)/\x<sh.length:=by
 obtain⟨b,c⟩:=Da hs hi (gm a);exact⟨((Qh sh s).getD j 0).toNat,by omega,by omega⟩
theorem Et:(Qh sh s).length<=64:=by
 have:=(Mk hs hi).le;have:=hs.1;omega
theorem Q9b(a:Ug sh s=true):2<=(Qh sh s).length/\Ue sh sh.length s=0/\(∀ j,j<(Qh sh s).length->(Qh sh s).getD j 0 ∉ (Qh sh s).take j)/\(∀ j,j+1<(Qh sh s).length->sh.getD ((Qh sh s).getD j 0).toNat (-1)=(Qh sh s).getD (j+1) 0) /\
  (0<=sh.getD ((Qh sh s).getD ((Qh sh s).length - 1) 0).toNat (-1)->sh.getD ((Qh sh s).getD ((Qh sh s).length - 1) 0).toNat (-1)∈Qh sh s):=by
 rw [Q04,Bool.and_eq_true,decide_eq_true_iff] at a;have f:=(Lw hs hi).2 a.1;obtain⟨g,b,e⟩:=Kk hs hi;refine⟨f,a.2,fun j hj=>Qh9 (Re hs hi) hj,fun j hj=>b.1 j hj,fun h0=>?_⟩;have c:=b.2 ((Qh sh s).length - 1) oz;have d:sh.getD ((Qh sh s).getD ((Qh sh s).length - 1) 0).toNat (-1)=g:=c;rw [d] at h0 ⊢;exact Classical.byContradiction fun h=>e ⟨h0,h⟩
theorem Q92(g:Jm sh s=true):2<=(Qh sh s).length/\(∀ x∈Qh sh s,(s:Int)<=x)/\(∀ j,j<(Qh sh s).length->sh.getD ((Qh sh s).getD j 0).toNat (-1)=(Qh sh s).getD ((j+1) % (Qh sh s).length) 0):=by
 have a:=g;unfold Jm at a;rw [Bool.and_eq_true,Bool.and_eq_true,decide_eq_true_iff,List.all_eq_true] at a;obtain⟨⟨d,e⟩,f⟩:=a;have i:=(Lw hs hi).2 d;obtain⟨m,l,n⟩:=Kk hs hi;refine⟨i,fun x hx=>of_decide_eq_true (f x hx),fun j hj=>?_⟩;by_cases c:j+1<(Qh sh s).length
 ·rw [Nat.mod_eq_of_lt c];exact l.1 j c
 ·have b:j+1=(Qh sh s).length:=by omega
  rw [b,Nat.mod_self,Kt.1];have k:(Qh sh s).getLastD 0=(Qh sh s).getD j 0:=by
   rw [List.getLastD_eq_getLast?,List.getLast?_eq_getElem?,<-b,List.getD_eq_getElem?_getD];rfl
  rw [<-k];exact e
end
theorem Qez{sh:List Int}{m:Nat}(h:Jm sh m=true):Ux sh m=true:=by
 unfold Jm at h;rw [Bool.and_eq_true,Bool.and_eq_true] at h;exact h.1.1
def Xw(sh:List Int):List Int:=(Ys sh).flatten++(Z6 sh).flatten
theorem Qaw:∀ {l:List Int} (_:l.Nodup) (j:Int),l.countP (fun x=>decide (x=j))<=1
 | [],_,_=>by simp
 | a::l,h,j=>by
  rw [List.nodup_cons] at h;rw [List.countP_cons];by_cases e:a=j
  ·have:l.countP (fun x=>decide (x=j))=0:=by
    rw [List.countP_eq_zero];intro x c b;have:=of_decide_eq_true b;exact h.1 (by rw [e,<-this];exact c)
   rw [this];simp [e]
  ·have:=Qaw h.2 j;simp [e];exact this
theorem Q2d:∀ {l:List (List Int)},(∀ c∈l,c.Nodup)->(l.Pairwise fun c d=>∀ x∈c,x ∉ d)->l.flatten.Nodup
 | [],_,_=>List.nodup_nil
 | c::l,h1,h2=>by
  rw [List.pairwise_cons] at h2;rw [List.flatten_cons];refine List.pairwise_append.2 ⟨h1 c zy,Q2d (fun d hd=>h1 d (by simp [hd])) h2.2,fun x hx y hy e=>?_⟩;obtain⟨d,hd,hyd⟩:=List.mem_flatten.1 hy;exact h2.1 d hd x hx (by rw [e];exact hyd)
section
variable {sh:List Int} (hs:X8 sh)
include hs
theorem Q74:((Z6 sh).flatten).Nodup:=by
 refine Q2d (fun c hc=>?_) ?_
 ·rw [Gs] at hc;obtain⟨l,i,rfl⟩:=List.mem_map.1 hc;exact Re hs (List.mem_range.1 (List.mem_filter.1 i).1)
 ·rw [Gs,List.pairwise_map];have g:((List.range sh.length).filter (Jm sh)).Pairwise (· < ·):=List.Pairwise.filter _ List.pairwise_lt_range;refine List.Pairwise.imp_of_mem (fun {a b} ha hb hab=>?_) g;intro e d j;unfold hdK at ha hb;rw [List.mem_filter,List.mem_range] at ha hb;have k:=(Da hs ha.1 d).1;obtain⟨f,rfl⟩:∃ f:Nat,e=(f:Int):=⟨e.toNat,by omega⟩;have:=Qeq hs ha.1 hb.1 ha.2 hb.2 d j;omega
theorem Qgx(j:Nat):((Z6 sh).flatten).countP (fun x=>decide (x=(j:Int)))<=1:=Qaw (Q74 hs) _
theorem Q7s{s i:Nat}(a:s<sh.length)(c:Ux sh s=true)(e:(i:Int)∈Qh sh s):Ux sh i=true\/toB sh i=true:=by
 by_cases b:(i:Int)=(s:Int)
 ·have:i=s:=by omega
  rw [this];exact .inl c
 ·obtain⟨j,f,k,d⟩:=Qj3 hs a e b;have g:=Da hs a f;refine .inr (Qai.2 ⟨j.toNat,by omega,by omega,?_⟩);rw [Int.toNat_of_nonneg g.1];exact d
theorem Qfy{i:Nat}(n:i<sh.length):(Ux sh i || toB sh i)=decide (0<(Xw sh).countP fun x=>decide (x=(i:Int))):=by
 rw [Bool.eq_iff_iff,Bool.or_eq_true,decide_eq_true_iff,List.countP_pos_iff];unfold Xw;constructor
 ·intro l;rcases Q30 hs n l with ⟨j,a,c,f,m⟩ | ⟨g,a,c,f⟩
  ·refine⟨(i:Int),List.mem_append_left _ (List.mem_flatten.2 ⟨Qh sh j,?_,m⟩),by simp⟩;rw [Fb];exact List.mem_map.2 ⟨j,List.mem_filter.2 ⟨List.mem_range.2 a,by unfold Ug;rw [c,f];rfl⟩,rfl⟩
  ·refine⟨(i:Int),List.mem_append_right _ (List.mem_flatten.2 ⟨Qh sh g,?_,f⟩),by simp⟩;rw [Gs];exact List.mem_map.2 ⟨g,List.mem_filter.2 ⟨List.mem_range.2 a,c⟩,rfl⟩
 ·rintro⟨x,b,e⟩;have e:=of_decide_eq_true e;subst e;rcases List.mem_append.1 b with b | b
  ·obtain⟨k,d,b⟩:=List.mem_flatten.1 b;rw [Fb] at d;obtain⟨j,p,rfl⟩:=List.mem_map.1 d;have a:=List.mem_filter.1 p;refine Q7s hs (List.mem_range.1 a.1) ?_ b;have c:=a.2;unfold Ug at c;rw [Bool.and_eq_true] at c;exact c.1
  ·obtain⟨k,d,b⟩:=List.mem_flatten.1 b;rw [Gs] at d;obtain⟨g,o,rfl⟩:=List.mem_map.1 d;have a:=List.mem_filter.1 o;exact Q7s hs (List.mem_range.1 a.1) (Qez a.2) b
end
-- counting place by place
theorem Q9w(l:List Int)(j:Nat):X9 l l.length j=l.countP fun x=>decide (x=(j:Int)):=by unfold X9;rw [List.take_length]
theorem Qae{ls:List (List Int)} {q i:Nat} (d:q<ls.length) (c:i<ls[q].length):(ls.take q).flatten.length+i<ls.flatten.length/\ls.flatten.getD ((ls.take q).flatten.length+i) 0=ls[q].getD i 0:=by
 have a:ls.flatten=(ls.take q).flatten++(ls[q]++(ls.drop (q+1)).flatten):=by
  conv=>lhs;rw [<-List.take_append_drop q ls]
  rw [List.flatten_append,List.drop_eq_getElem_cons d,List.flatten_cons]
 have b:(ls.take q).flatten.length+i<ls.flatten.length:=by rw [a,List.length_append,List.length_append];omega
 refine⟨b,?_⟩;rw [List.getD_eq_getElem?_getD,a,List.getElem?_append_right oz,List.getD_eq_getElem?_getD];rw [show (ls.take q).flatten.length+i - (ls.take q).flatten.length=i by omega,List.getElem?_append_left c]
theorem Q50{ls:List (List Int)} {q:Nat} (a:q<ls.length):(ls.take (q+1)).flatten.length=(ls.take q).flatten.length+ls[q].length:=by
 rw [List.take_succ_eq_append_getElem a,List.flatten_append,List.length_append,List.flatten_cons,List.flatten_nil,List.append_nil]
attribute [local go_sem] Oper.semAt_some Y5 Z9
def Dl(xs:List Int)(b:Int):Bool:=xs.contains b
theorem Qf1{xs:List Int}{k:Nat}(h:k<xs.length)(b:Int):Dl (xs.take (k+1)) b=(Dl (xs.take k) b || b == xs[k]):=by
 unfold Dl;rw [List.take_succ_eq_append_getElem h,List.contains_append]
 congr 1
 rw [Bool.eq_iff_iff];simp
theorem Q9z{w:World}{ao:Option Addr}{N cap:Nat}{xs:List Int}(p:Rd w (.slice ao N cap) N 1 (Zd xs)) (t:xs.length=N) (b:Int) :
  Calls Tryz.prog 78 #[.slice ao N cap,.int .i64 b] w fun e w'=>∃ z:Int,e=.returned (.int .i64 z)/\decide (0<=z)=Dl xs b/\w'=w:=by
 have L:=p.2.1;unfold maxLen at L;have G:=Zh p;have r:=Zh t;clear p t;go_enter Tryz.func78,Tryz.ntmps78;go_wp2
 refine wp_loop (fun a s=>∃(d:Nat),d<=N/\a.defers=[]/\(a.tmps.size=19/\a.tmps.getD 0 undef=.slice ao N cap/\a.tmps.getD 1 undef=.int .i64 b/\a.tmps.getD 7 undef=.int .i64 N/\a.tmps.getD 8 undef=.int .i64 d)/\Dl (xs.take d) b=false/\s=w)
  (fun a _=>N - (intOf (a.tmps.getD 8 undef)).toNat) ?_ ?_
 ·exact⟨0,by omega,rfl,⟨rfl,rfl,rfl,rfl,rfl⟩,by simp [Dl],rfl⟩
 rintro⟨O,_⟩ s ⟨d,V,K,⟨C,j,k,l,m⟩,u,rfl⟩;subst K;obtain⟨P,D⟩:=Qq C;obtain⟨c,rfl⟩:∃ x,x=P:=⟨_,rfl⟩;have M:O=#[c 0,c 1,c 2,c 3,c 4,c 5,c 6,c 7,c 8,c 9,c 10,c 11,c 12,c 13,c 14,c 15,c 16,c 17,c 18]:=D;clear D;subst M;change c 0=_ at j;change c 1=_ at k;change c 7=_ at l;change c 8=_ at m;rw [j,k,l,m];clear j k l m C;have q:=Zh u;clear u;by_cases y:d<N
 ·have J:(d:Int)<(N:Int):=by omega
  have S:(0:Int)<=(d:Int):=by omega
  have o:d<xs.length:=by rw [r.out];exact y
  obtain⟨R,W,Q,B,U,n⟩:=Zb G.out y;simp only [zV,true_and] at B;obtain⟨rfl,rfl⟩:=B;rw [Yo xs o] at n;by_cases f:b=xs[d]
  ·have g:Dl xs b=true:=by unfold Dl;rw [List.contains_iff_mem,f];exact List.getElem_mem o
   have i:=Zh g;rw [<-f] at n;clear f g;have T:(b == b)=true:=by simp
   go_wp2;go_ret;exact⟨_,rfl,by rw [i.out];simp,rfl⟩
  ·have v:(b == xs[d])=false:=by simpa using f
   have A:Dl (xs.take (d+1)) b=false:=by rw [Qf1 o,q.out,v];rfl
   have H:=Zh A;obtain⟨F,E⟩:=zE (xs[d]);rw [E] at v n;clear f A E;go_wp2;exact⟨⟨d+1,by omega,tz,⟨rfl,rfl,rfl,rfl,rfl⟩,H.out,by first | trivial | rfl⟩,nz⟩
 ·obtain rfl:d=N:=by omega
  have J:¬ (d:Int)<(d:Int):=by omega
  have g:Dl xs b=false:=by
   have I:=q.out
   rwa [List.take_of_length_le (by rw [r.out];exact Nat.le_refl _)] at I
  have i:=Zh g;clear g;go_wp2;go_ret;exact⟨_,rfl,by rw [i.out];decide,rfl⟩
theorem Sd{w:World}{ao:Option Addr}{N cap:Nat}{xs:List Int}(d:Rd w (.slice ao N cap) N 1 (Zd xs)) (c:xs.length=N) (b:Int) :
  Calls Tryz.prog 35 #[.slice ao N cap,.int .i64 b] w fun e w'=>e=.returned (.bool (Dl xs b))/\w'=w:=by
 have a:=Zh (Q9z d c (cap:=cap) b);clear d c;go_enter Tryz.func35,Tryz.ntmps35;go_wp2_with fail;refine a.out.mono ?_;rintro e i ⟨j,rfl,f,rfl⟩;have g:=Zh f;clear a f;go_wp2;go_ret;exact⟨by rw [<-g.out];rfl,rfl⟩
theorem Qlb{w:World}{ao:Option Addr}{N cap:Nat}{l:List Int}(s:Rd w (.slice ao N cap) N 1 (Zd l)) (G:l.length=N) (P:0<N) :
  Calls Tryz.prog 37 #[.slice ao N cap] w fun e w'=>∃ m,e=.returned (.int .i64 m)/\(m∈l/\∀ x∈l,x<=m)/\w'=w:=by
 have R:=s.2.1;unfold maxLen at R;have B:0<l.length:=by omega
 obtain⟨O,U,Y,r,a1,n⟩:=Zb s P;simp only [zV,true_and] at r;obtain⟨rfl,rfl⟩:=r;rw [Yo l B,Nat.add_zero] at n;have C:l[0]∈l.take 1:=by
  rw [List.take_succ_eq_append_getElem B];simp
 have A:∀ x∈l.take 1,x<=l[0]:=fun x o=>by
  rw [List.take_succ_eq_append_getElem B] at o;simp at o;rw [o];exact Int.le_refl _
 obtain⟨D,L⟩:=zE (l[0]);rw [L] at n C A;obtain⟨M,E,j,i⟩:=Zh4 s G C A;clear s C A L G;have y:¬ (N:Int)<1:=by omega
 go_enter Tryz.func37,Tryz.ntmps37;go_wp2;clear y n
 refine wp_loop (fun a F=>∃(c:Nat) (m:Int),c<=N/\1<=c/\a.defers=[]/\(a.tmps.size=25/\a.tmps.getD 0 undef=.slice (some ⟨O,U,none⟩) N cap/\a.tmps.getD 3 undef=.int .i64 m/\a.tmps.getD 4 undef=.int .i64 c)/\m∈l.take c/\(∀ x∈l.take c,x<=m)/\F=w)
  (fun a _=>N - (intOf (a.tmps.getD 4 undef)).toNat) ?_ ?_
 ·exact⟨1,D,by omega,by omega,rfl,⟨rfl,rfl,rfl,rfl⟩,j.out,i.out,rfl⟩
 clear j i;rintro⟨V,_⟩ F ⟨c,m,a3,a4,Q,⟨J,t,u,v⟩,g,f,rfl⟩;subst Q;obtain⟨W,K⟩:=Qq J;obtain⟨b,rfl⟩:∃ x,x=W:=⟨_,rfl⟩;have T:V=#[b 0,b 1,b 2,b 3,b 4,b 5,b 6,b 7,b 8,b 9,b 10,b 11,b 12,b 13,b 14,b 15,b 16,b 17,b 18,b 19,b 20,b 21,b 22,b 23,b 24]:=K;clear K;subst T;change b 0=_ at t;change b 3=_ at u;change b 4=_ at v;rw [t,u,v];clear t u v J;have j:=Zh g;have i:=Zh f;clear g f;by_cases H:c<N;case neg=>
  obtain rfl:c=N:=by omega
  have y:¬ (c:Int)<(c:Int):=by omega
  have g:=j.out;have f:=i.out;rw [List.take_of_length_le (by rw [E.out];exact Nat.le_refl _)] at g f;have q:=Zh g;have p:=Zh f;clear g f j i;go_wp2;go_ret;exact⟨_,rfl,⟨q.out,p.out⟩,rfl⟩
 have y:(c:Int)<(N:Int):=by omega
 have a0:(0:Int)<=(c:Int):=by omega
 have I:c<l.length:=by rw [E.out];exact H
 obtain⟨X,a5,Z,r,a2,n⟩:=Zb M.out H;simp only [zV,Option.some.injEq,Addr.mk.injEq,and_true,true_and] at r;obtain⟨⟨rfl,rfl⟩,rfl⟩:=r;rw [Yo l I] at n;have k:l.take (c+1)=l.take c++[l[c]]:=List.take_succ_eq_append_getElem I;obtain⟨x,o⟩:=zE (l[c]);rw [o] at n k;clear o;by_cases S:x<=m
 ·have g:m∈l.take (c+1):=by rw [k];simp [j.out]
  have f:∀ z∈l.take (c+1),z<=m:=fun z d=>by
   rw [k] at d;rcases List.mem_append.1 d with d | d
   ·exact i.out z d
   ·rw [List.mem_singleton] at d;rw [d];exact S
  have q:=Zh g;have p:=Zh f;clear g f j i k;go_wp2;exact⟨⟨c+1,m,by omega,by omega,by first | trivial | rfl,⟨rfl,rfl,rfl,rfl⟩,q.out,p.out,by first | trivial | rfl⟩,nz⟩
 ·have g:x∈l.take (c+1):=by rw [k];simp
  have f:∀ z∈l.take (c+1),z<=x:=fun z d=>by
   rw [k] at d;rcases List.mem_append.1 d with d | d
   ·have:=i.out z d;omega
   ·rw [List.mem_singleton] at d;rw [d];exact Int.le_refl _
  have q:=Zh g;have p:=Zh f;clear g f j i k;go_wp2;exact⟨⟨c+1,by omega,by omega,x,⟨rfl,by omega⟩,q.out,p.out⟩,nz⟩
def Dk(sh:List Int)(n k:Nat):List Int:=sh.take k++List.replicate (n - k) 0
theorem Qfm(sh:List Int)(n:Nat):Zd (Dk sh n 0)=List.replicate n (.int .i64 0):=by simp [Dk,Zd]
theorem Qhp{sh:List Int}{n:Nat}(h:sh.length=n):Dk sh n n=sh:=by simp [Dk,<-h]
theorem Q6w{sh:List Int}{n k:Nat}(h:sh.length=n)(a:k<=n):(Dk sh n k).length=n:=by simp [Dk];omega
theorem Qjd{sh:List Int}{n k:Nat}(h:sh.length=n)(f:k<n){y:Int}(e:sh.getD k (-1)=y):(Zd (Dk sh n k)).set k (.int .i64 y)=Zd (Dk sh n (k+1)):=by
 have a:k<sh.length:=by omega
 have b:sh[k]=y:=by rw [<-e,List.getD_eq_getElem?_getD,List.getElem?_eq_getElem a];rfl
 have c:(Zd (Dk sh n k)).set k (.int .i64 y)=Zd ((Dk sh n k).set k y):=by unfold Zd;rw [List.map_set]
 rw [c]
 congr 1
 unfold Dk;have d:(sh.take k).length=k:=by rw [List.length_take];omega
 rw [List.set_append_right _ _ oz,d,Nat.sub_self,show n - k=n - (k+1)+1 by omega,List.replicate_succ,List.set_cons_zero,List.take_succ_eq_append_getElem a,b,List.append_assoc];rfl
theorem Fg{W:World}{X g n c:Nat}{L:List Int}(h:W.ownsRow X 3 1 (.slice (some ⟨g,0,none⟩) n c) n (Zd L)) (e:L.length=n) {m:Nat} (f:m<n) {d x:Int} (a:L.getD m d=x):W.cell? ⟨g,m,none⟩=some (.int .i64 x):=by
 rw [h.cellAt m oz];have b:m<L.length:=by omega
 rw [List.getD_eq_getElem?_getD,List.getElem?_eq_getElem b] at a;simp only [Option.getD_some] at a;simp [Zd,b,a]
theorem Gt{W:World}{X g n c:Nat}{L:List Nat}(h:W.ownsRow X 3 1 (.slice (some ⟨g,0,none⟩) n c) n (Z5 L)) {m:Nat} (e:m<n) {x:Nat} (b:(Z5 L).getD m undef=.int .i64 (x:Int)) (d:L.length=n):W.cell? ⟨g,m,none⟩=some (.int .i64 (x:Int)):=by
 rw [h.cellAt m oz];have a:m<(Z5 L).length:=by simp [Z5];omega
 rw [List.getD_eq_getElem?_getD,List.getElem?_eq_getElem a] at b;rw [List.getElem?_eq_getElem a];exact congrArg some b
theorem Qhx{sh:List Int}{n k:Nat}(h:sh.length=n)(a:k<n):(Dk sh n (k+1)).getD k (-1)=sh.getD k (-1):=by
 unfold Dk;rw [List.getD_eq_getElem?_getD,List.getD_eq_getElem?_getD,List.getElem?_append_left (by rw [List.length_take];omega),List.getElem?_take_of_lt oz]
theorem Q1j{X:Nat}{W:World}{v:Value}{L:List (List Int)} (h:Xo X W v L):∃ ao c,v=.slice ao L.length c:=by
 obtain⟨b,a,_⟩:=h;exact Zg a
theorem Q1n{w:World}{X n:Nat}(c:n<=64)(b:X<=w.heap.size):(w.alloc (.cells (madeCells #[.int .i64 0] (n*1)) 3)).ownsRow X 3 1 (.slice (some ⟨w.heap.size,0,none⟩) n n) n (List.replicate n (.int .i64 0)):=by
 have a:=World.ownsRow_lit (base:=X) (e:=3) (size:=1) w (madeCells #[.int .i64 0] (n*1)) n b (by unfold maxLen;omega) (by simp [madeCells]);rw [Nat.mul_one,Bh] at a;rw [Nat.mul_one];exact a
theorem Qbj{n:Nat}(g:n<=64)(W:World):(Instr.makeSlice 36 (.int .i64 (n:Int)) (.int .i64 (n:Int))).run Tryz.prog W=.ok (.slice (some ⟨W.heap.size,0,none⟩) n n) (W.alloc (.cells (madeCells #[.int .i64 0] (n*1)) 3)):=by
 obtain⟨f,c,e,d,b⟩:=info_parts Tryz.infoD;have a:=run_make (P:=Tryz.prog) W 36 3 f (.int .i64 0) Tryz.underlying36 c e .i64 .i64 n n oz oz (by rw [b];omega) oz;simp only [Int.toNat_natCast,d] at a;exact a
theorem Qcm{w:World}{Y n:Nat}(c:n<=64)(f:w.heap.size=Y)(W:World)(d:W=((w.alloc (.cells (madeCells #[.int .i64 0] n) 3)).alloc (.cells (madeCells #[.int .i64 0] n) 3)).drew):W.ownsRow Y 3 1 (.slice (some ⟨w.heap.size,0,none⟩) n n) n (List.replicate n (.int .i64 0))/\W.ownsRow Y 3 1 (.slice (some ⟨w.heap.size+1,0,none⟩) n n) n (List.replicate n (.int .i64 0))/\Ext w W:=by
 subst d;have b:=Q1n (w:=w) (X:=Y) c oz;have e:(w.alloc (.cells (madeCells #[.int .i64 0] n) 3)).heap.size=w.heap.size+1:=by simp
 have a:=Q1n (w:=w.alloc (.cells (madeCells #[.int .i64 0] n) 3)) (X:=Y) c oz;rw [Nat.mul_one] at b a;rw [e] at a;exact⟨Qe b (((Qa.refl _ _).alloc _).drew),Qe a ((Qa.refl _ _).drew),(((Qa.refl _ _).alloc _).alloc _).drew⟩
def Q2g(w:World)(v:Value)(L:List (List Int)):Prop:=∃ vs,Rd w v L.length 1 vs/\∀ i (h:i<L.length),∃ ao c,vs.getD i undef=.slice ao L[i].length c/\Rd w (.slice ao L[i].length c) L[i].length 1 (Zd L[i])/\L[i].length<=c
theorem Q2g.ext{A B:World}{v:Value}{L:List (List Int)} (h:Q2g A v L) (a:Ext A B):Q2g B v L:=by
 obtain⟨k,d,e⟩:=h;refine⟨k,d.ext a,fun i hi=>?_⟩;obtain⟨b,c,f,g,j⟩:=e i hi;exact⟨b,c,f,g.ext a,j⟩
theorem Bu{W:World}{X n c m:Nat}{ao:Option Addr}{xs:List Value}{e:TypeId}(h:W.ownsRow X e 1 (.slice ao n c) m xs):n<=c:=by
 obtain⟨_,a⟩:=h;rcases a with ⟨h,_⟩ | ⟨g,d,f,h,_,_,b,_⟩
 ·simp only [zV] at h;omega
 ·simp only [zV] at h;obtain⟨_,rfl,rfl⟩:=h;exact b
theorem Xo.grc{X:Nat}{W:World}{v:Value}{L:List (List Int)} (h:Xo X W v L):Q2g W v L:=by
 obtain⟨g,d,_,e⟩:=h;refine⟨g,Rd.of_own d,fun i hi=>?_⟩;obtain⟨b,c,f,a⟩:=e i hi;exact⟨b,c,f,Rd.of_own a,Bu a⟩
theorem Q3r{W:World}{ao:Option Addr}{N cap:Nat}{L:List (List Int)} (h:Q2g W (.slice ao N cap) L) (m:L.length=N) {q:Nat} (o:q<L.length) {c:List Int} (a:L[q]=c) (k:0<c.length) :
  ∃ g off cg co cc,ao=some ⟨g,off,none⟩/\W.cell? ⟨g,off+q,none⟩=some (.slice (some ⟨cg,co,none⟩) c.length cc)/\(∀ j,j<c.length->W.cell? ⟨cg,co+j,none⟩=some (.int .i64 (c.getD j 0)))/\Rd W (.slice (some ⟨cg,co,none⟩) c.length cc) c.length 1 (Zd c)/\c.length<=cc:=by
 subst a;obtain⟨y,i,l⟩:=h;obtain⟨x,c,p,b,r⟩:=l q o;rw [m] at i;obtain⟨g,off,s,d,_,a⟩:=Zb i (by omega:q<N);rw [p] at a;simp only [zV] at d;obtain⟨cg,co,t,e,_,_⟩:=Zb b k;simp only [zV] at e;obtain⟨rfl,_,rfl⟩:=e;refine⟨g,off,cg,co,c,d.1,a,fun j hj=>?_,b,r⟩;obtain⟨v,w,u,f,_,n⟩:=Zb b hj;simp only [zV,Option.some.injEq,Addr.mk.injEq,and_true] at f;obtain⟨⟨rfl,rfl⟩,_⟩:=f;rw [n,Yo _ hj,List.getD_eq_getElem?_getD,List.getElem?_eq_getElem hj];rfl
theorem Qiy{w:World}{A:Option Addr}{n c:Nat}{l:List Int}(h:Rd w (.slice A n c) n 1 (Zd l)) {j:Nat} (r:j<=n):Rd w (.slice A j c) j 1 (Zd (l.take j)):=by
 obtain⟨e,q,o,p,a,f⟩:=h;simp only [zV,true_and] at a;obtain⟨rfl,rfl⟩:=a;have s:l.length=n:=by simpa [Zd] using e
 refine⟨by simp [Zd];omega,by omega,A,c,rfl,fun h0=>?_⟩;obtain⟨d,m,b,i,g⟩:=f oz;refine⟨d,m,b,i,fun k hk=>?_⟩;rw [g k oz]
 congr 1
 rw [List.getD_eq_getElem?_getD,List.getD_eq_getElem?_getD]
 congr 1
 unfold Zd;rw [List.map_take,List.getElem?_take_of_lt oz]
theorem Qjz{l:List Int}{x:Int}(h:x ∉ l):Dl l x=false:=by unfold Dl;simpa using h
theorem Qhq{l:List Int}{x:Int}(h:x∈l):Dl l x=true:=by unfold Dl;simpa using h
def Fx(hd:List Nat)(q:Nat):Int:=if q=0 then -1 else(hd.getD (q - 1) 0:Nat)
theorem Qd7(hd:List Nat):Fx hd 0=-1:=rfl
theorem Q26{a:List Nat}{q:Nat}(h:q<a.length):Fx a (q+1)=(a[q]:Nat):=by
 unfold Fx;rw [if_neg oz,Nat.add_sub_cancel,List.getD_eq_getElem?_getD,List.getElem?_eq_getElem h];rfl
theorem Q7o{p:Nat->Bool}{n q:Nat}(h:q<((List.range n).filter p).length):Fx ((List.range n).filter p) q<(((List.range n).filter p)[q]:Nat):=by
 by_cases a:q=0
 ·subst a;rw [Qd7];omega
 ·have c:q=(q - 1)+1:=by omega
  have b:q - 1<((List.range n).filter p).length:=by omega
  have d:=Qk6 (p:=p) (n:=n) (show q - 1<q by omega) h;unfold Fx;rw [if_neg a,List.getD_eq_getElem?_getD,List.getElem?_eq_getElem b];simp only [Option.getD_some];omega
def Jh(sh:List Int):List (List Int):=Ys sh++Z6 sh
theorem Tb(sh:List Int):(Jh sh).flatten=Xw sh:=by unfold Jh Xw;rw [List.flatten_append]
theorem Ql1{sh:List Int}{q:Nat}(h:q<(Ys sh).length) (h2:q<(Jh sh).length):(Jh sh)[q]=(Ys sh)[q]:=List.getElem_append_left h
theorem Qkl{sh:List Int}{q:Nat}(h:q<(Z6 sh).length) (b:(Ys sh).length+q<(Jh sh).length):(Jh sh)[(Ys sh).length+q]=(Z6 sh)[q]:=by
 have a:(Jh sh)[(Ys sh).length+q]?=(Z6 sh)[q]?:=by
  show (Ys sh++Z6 sh)[(Ys sh).length+q]?=_;rw [List.getElem?_append_right oz,Nat.add_sub_cancel_left]
 rw [List.getElem?_eq_getElem b,List.getElem?_eq_getElem h] at a;exact Option.some.inj a
theorem Rj(sh:List Int):(Jh sh).length=(Ys sh).length+(Z6 sh).length:=by unfold Jh;rw [List.length_append]
theorem Q40:∀ {L:List (List Int)},(∀ c∈L,c.length<=64)->L.flatten.length<=64*L.length
 | [],_=>by simp
 | c::L,h=>by
  have h1:=h c zy;have h2:=Q40 (L:=L) fun d hd=>h d (by simp [hd]);rw [List.flatten_cons,List.length_append,List.length_cons];omega
theorem Qjs{sh:List Int}(b:X8 sh):(Xw sh).length<=8192:=by
 rw [<-Tb];have a:(Ys sh).length<=64:=by rw [Fb,List.length_map];unfold hdC;exact Nat.le_trans (List.length_filter_le _ _) (by rw [List.length_range];exact b.1)
 have g:(Z6 sh).length<=64:=by rw [Gs,List.length_map];unfold hdK;exact Nat.le_trans (List.length_filter_le _ _) (by rw [List.length_range];exact b.1)
 have e:=Q40 (L:=Jh sh) fun c a=>by
  unfold Jh at a;rcases List.mem_append.1 a with a | a
  ·rw [Fb] at a;obtain⟨f,d,rfl⟩:=List.mem_map.1 a;exact Et b (List.mem_range.1 (List.mem_filter.1 d).1)
  ·rw [Gs] at a;obtain⟨f,d,rfl⟩:=List.mem_map.1 a;exact Et b (List.mem_range.1 (List.mem_filter.1 d).1)
 rw [Rj] at e;omega
def Ua(sh:List Int)(Q:Nat):Nat:=((Jh sh).take Q).flatten.length
theorem Q3k{sh:List Int}{Q:Nat}(h:Q<(Jh sh).length):Ua sh (Q+1)=Ua sh Q+(Jh sh)[Q].length:=Q50 h
theorem Qba{sh:List Int}{Q j:Nat}(h:Q<(Jh sh).length) (a:j<(Jh sh)[Q].length):Ua sh Q+j<(Xw sh).length/\(Xw sh).getD (Ua sh Q+j) 0=(Jh sh)[Q].getD j 0:=by
 rw [<-Tb];exact Qae h a
theorem Qj2(sh:List Int):Ua sh (Jh sh).length=(Xw sh).length:=by unfold Ua;rw [List.take_length,Tb]
def Wu(sh:List Int)(p:Nat):Nat:=((Z6 sh).take p).flatten.length
theorem Qfn{sh:List Int}{p:Nat}(h:p<(Z6 sh).length):Wu sh (p+1)=Wu sh p+(Z6 sh)[p].length:=Q50 h
theorem Qk9{sh:List Int}{p j:Nat}(h:p<(Z6 sh).length) (hj:j<(Z6 sh)[p].length):Wu sh p+j<((Z6 sh).flatten).length/\((Z6 sh).flatten).getD (Wu sh p+j) 0=(Z6 sh)[p].getD j 0:=Qae h hj
theorem Qib(sh:List Int):Wu sh (Z6 sh).length=((Z6 sh).flatten).length:=by unfold Wu;rw [List.take_length]
theorem Qln(sh:List Int):((Z6 sh).flatten).length<=(Xw sh).length:=by unfold Xw;rw [List.length_append];omega
theorem Qeu:∀ {l:List Int},0<l.length->∃ M∈l,∀ x∈l,x<=M
 | [],h=>absurd h (Nat.lt_irrefl _)
 | [a],_=>⟨a,by simp,fun x hx=>by simp at hx;omega⟩
 | a::b::l,_=>by
  obtain⟨M,h1,h2⟩:=Qeu (l:=b::l) zy;by_cases h:a<=M
  ·exact⟨M,List.mem_cons_of_mem _ h1,fun x hx=>by rcases List.mem_cons.1 hx with rfl | hx;exact h;exact h2 x hx⟩
  ·exact⟨a,by simp,fun x hx=>by rcases List.mem_cons.1 hx with rfl | hx;exact Int.le_refl _;have:=h2 x hx;omega⟩
theorem Q39{l:List Int}{n k x:Nat}(a:k<l.length)(b:l.getD k 0=(x:Int)):Z5 (Yt l n (k+1))=(Z5 (Yt l n k)).set x (.int .i64 ((X9 l k x:Nat)+1)):=by
 refine Q06 a ?_;rw [<-b,List.getD_eq_getElem?_getD,List.getElem?_eq_getElem a];rfl
def Ry(sh:List Int)(k:Nat):Nat:=((List.range k).filter (Ug sh)).length
theorem Qet(sh:List Int)(k:Nat):Ry sh (k+1)=Ry sh k+if Ug sh k=true then 1 else 0:=by
 unfold Ry;rw [List.range_succ,List.filter_append,List.length_append]
 congr 1
 by_cases a:Ug sh k=true <;> simp [a]
theorem Qao(sh:List Int)(k:Nat):Ry sh k<=k:=by unfold Ry;exact Nat.le_trans (List.length_filter_le _ _) (by rw [List.length_range];exact Nat.le_refl _)
theorem Q6t(sh:List Int):Ry sh sh.length=(Ys sh).length:=by rw [Fb,List.length_map];rfl
attribute [local go_sem high] Fd
theorem Qmd{x n k:Nat}{sh:List Int}(h:sh.getD k (-1)=((x % (n+1):Nat):Int) - 1):((x:Int).tmod ((n:Int)+1))=sh.getD k (-1)+1:=by
 rw [h]
 have:((x:Int).tmod ((n:Int)+1))=((x % (n+1):Nat):Int):=rfl
 omega
theorem Q8y{w:World}{o9:Option Addr}{c3 o8:Nat}{a0:List Nat}(r4:Rd w (.slice o9 c3 o8) c3 1 (u8V a0)) (U:a0.length=c3) (y3:∀ x∈a0,x<256) (x4:Tab w) :
  Calls Tryz.prog 7 #[.slice o9 c3 o8] w fun e w'=>e=.returned (.bool true)/\Ext w w':=by
 have C4:=r4.2.1
 unfold maxLen at C4
 obtain⟨k,E8⟩:∃ k,min c3 64=k:=⟨_,rfl⟩
 have J0:k<=c3:=by omega
 have s5:k<=64:=by omega
 have n0:min (c3:Int) 64=(k:Int):=by omega
 have u1:=Zh r4;have i7:=Zh U;have u4:=Zh y3;have B5:=Zh x4
 have t4:=Qk2 (l:=a0) s5
 have k7:=Q0x a0 k
 have t2:=fun {i:Nat} (h:i<k)=>Qiz (l:=a0) h
 obtain⟨sh,z8⟩:∃ sh,Q32 a0 k=sh:=⟨_,rfl⟩
 simp only [z8] at t4 k7 t2
 have Y:=Zh t4;have F:=Zh k7
 have w3:Hid (∀ {i:Nat},i<k->sh.getD i (-1)=((a0.getD i 0 % (k+1):Nat):Int) - 1):=Zh t2
 clear r4 U y3 x4 E8 t4 k7 t2 z8
 obtain⟨C,x7⟩:∃ C,w.heap.size=C:=⟨_,rfl⟩
 have l7:=Zh x7
 clear x7
 go_enter Tryz.func7,Tryz.ntmps7
 go_wp2_with (at_make;refine Yu rfl (.tmp 29) (.tmp 29) 36 rfl C 3 _ 8 Tryz.underlying36 Tryz.infoD rfl .i64 .i64 k k k rfl rfl rfl rfl (by omega) (by unfold maxLen;omega) (by rw [l7.out];exact Nat.le_refl _) ?_)
 intro A4 m4 w8
 rw [l7.out] at m4 ⊢
 have v8:=Zh m4;have u8:=Zh w8
 have f3:C+1<=A4.heap.size:=by have:=(m4.lt C rfl).2;omega
 clear m4 w8 n0
 have l5:=Zh f3
 clear f3
 go_wp2_with (at_make;refine Yu rfl (.tmp 31) (.tmp 31) 36 rfl C 3 _ 8 Tryz.underlying36 Tryz.infoD rfl .i64 .i64 k k k rfl rfl rfl rfl (by omega) (by unfold maxLen;omega) (by have:=l5.out;omega) ?_)
 intro K0 i1 q6
 obtain⟨b6,y9⟩:∃ g7,A4.heap.size=g7:=⟨_,rfl⟩
 have k5:C≠b6:=by have:=l5.out;omega
 have z0:C<=b6:=by have:=l5.out;omega
 rw [y9] at i1 ⊢
 have R:=Qe v8.out q6
 rw [<-Qfm sh k] at R
 rw [<-Q6v sh k] at i1
 have c9:=Zh R;have f7:=Zh i1;have u9:=Zh (u8.out.trans q6);have v7:=Zh k5;have A9:=Zh z0
 clear R i1 q6 y9 k5 z0 v8 u8 l5
 go_wp2
 refine wp_loop (fun a a9=>∃(f:Nat),f<=k/\a.defers=[]/\(a.tmps.size=326/\a.tmps.getD 0 undef=.slice o9 c3 o8/\a.tmps.getD 3 undef=.int .i64 k/\a.tmps.getD 4 undef=.slice (some ⟨C,0,none⟩) k k/\a.tmps.getD 5 undef=.slice (some ⟨b6,0,none⟩) k k/\a.tmps.getD 34 undef=.int .i64 k/\a.tmps.getD 35 undef=.int .i64 f)/\a9.ownsRow C 3 1 (.slice (some ⟨C,0,none⟩) k k) k (Zd (Dk sh k f))/\a9.ownsRow C 3 1 (.slice (some ⟨b6,0,none⟩) k k) k (Z5 (Uk sh k f))/\Ext w a9)
  (fun a _=>k - (intOf (a.tmps.getD 35 undef)).toNat) ?_ ?_
 ·exact⟨0,by omega,rfl,⟨rfl,rfl,rfl,rfl,rfl,rfl,rfl⟩,c9.out,f7.out,u9.out⟩
 clear c9 f7 u9
 rintro⟨c1,_⟩ a9 ⟨f,I4,b7,⟨P,p1,z,A,B,q3,q4⟩,x3,i1,J⟩
 subst b7
 obtain⟨c2,Q⟩:=Qq P
 obtain⟨c,rfl⟩:∃ x,x=c2:=⟨_,rfl⟩
 have b9:c1=#[c 0,c 1,c 2,c 3,c 4,c 5,c 6,c 7,c 8,c 9,c 10,c 11,c 12,c 13,c 14,c 15,c 16,c 17,c 18,c 19,c 20,c 21,c 22,c 23,c 24,c 25,c 26,c 27,c 28,c 29,c 30,c 31,c 32,c 33,c 34,c 35,c 36,c 37,c 38,c 39,c 40,c 41,c 42,c 43,c 44,c 45,c 46,c 47,c 48,c 49,c 50,c 51,c 52,c 53,c 54,c 55,c 56,c 57,c 58,c 59,c 60,c 61,c 62,c 63,c 64,c 65,c 66,c 67,c 68,c 69,c 70,c 71,c 72,c 73,c 74,c 75,c 76,c 77,c 78,c 79,c 80,c 81,c 82,c 83,c 84,c 85,c 86,c 87,c 88,c 89,c 90,c 91,c 92,c 93,c 94,c 95,c 96,c 97,c 98,c 99,c 100,c 101,c 102,c 103,c 104,c 105,c 106,c 107,c 108,c 109,c 110,c 111,c 112,c 113,c 114,c 115,c 116,c 117,c 118,c 119,c 120,c 121,c 122,c 123,c 124,c 125,c 126,c 127,c 128,c 129,c 130,c 131,c 132,c 133,c 134,c 135,c 136,c 137,c 138,c 139,c 140,c 141,c 142,c 143,c 144,c 145,c 146,c 147,c 148,c 149,c 150,c 151,c 152,c 153,c 154,c 155,c 156,c 157,c 158,c 159,c 160,c 161,c 162,c 163,c 164,c 165,c 166,c 167,c 168,c 169,c 170,c 171,c 172,c 173,c 174,c 175,c 176,c 177,c 178,c 179,c 180,c 181,c 182,c 183,c 184,c 185,c 186,c 187,c 188,c 189,c 190,c 191,c 192,c 193,c 194,c 195,c 196,c 197,c 198,c 199,c 200,c 201,c 202,c 203,c 204,c 205,c 206,c 207,c 208,c 209,c 210,c 211,c 212,c 213,c 214,c 215,c 216,c 217,c 218,c 219,c 220,c 221,c 222,c 223,c 224,c 225,c 226,c 227,c 228,c 229,c 230,c 231,c 232,c 233,c 234,c 235,c 236,c 237,c 238,c 239,c 240,c 241,c 242,c 243,c 244,c 245,c 246,c 247,c 248,c 249,c 250,c 251,c 252,c 253,c 254,c 255,c 256,c 257,c 258,c 259,c 260,c 261,c 262,c 263,c 264,c 265,c 266,c 267,c 268,c 269,c 270,c 271,c 272,c 273,c 274,c 275,c 276,c 277,c 278,c 279,c 280,c 281,c 282,c 283,c 284,c 285,c 286,c 287,c 288,c 289,c 290,c 291,c 292,c 293,c 294,c 295,c 296,c 297,c 298,c 299,c 300,c 301,c 302,c 303,c 304,c 305,c 306,c 307,c 308,c 309,c 310,c 311,c 312,c 313,c 314,c 315,c 316,c 317,c 318,c 319,c 320,c 321,c 322,c 323,c 324,c 325]:=Q
 clear Q
 subst b9
 change c 0=_ at p1
 change c 3=_ at z
 change c 4=_ at A
 change c 5=_ at B
 change c 34=_ at q3
 change c 35=_ at q4
 rw [p1,z,A,B,q3,q4]
 clear p1 z A B q3 q4 P
 have c9:=Zh x3;have f7:=Zh i1;have m:=Zh J
 clear x3 i1 J
 by_cases b8:f<k
 case pos=>
  have e8:(f:Int)<(k:Int):=by omega
  have B8:(0:Int)<=(f:Int):=by omega
  have I5:(f:Int)<(c3:Int):=by omega
  have m9:f<a0.length:=by rw [i7.out];omega
  obtain⟨g7,k9,G9,j4,_,a3⟩:=Zb (u1.out.ext m.out) (show f<c3 by omega)
  simp only [Value.slice.injEq,true_and] at j4
  obtain⟨rfl,rfl⟩:=j4
  rw [Q8r a0 m9] at a3
  have s:=w3.out b8
  rw [List.getD_eq_getElem?_getD (l:=a0),List.getElem?_eq_getElem m9] at s
  simp only [Option.getD_some] at s
  have G2:a0[f]<256:=u4.out _ (List.getElem_mem m9)
  obtain⟨x,W⟩:∃ x,a0[f]=x:=⟨_,rfl⟩
  rw [W] at a3 s G2
  have F4:=Qmd s
  have I8:((k:Int)+1)≠0:=by omega
  have I9:((k:Int)+1=0)=False:=by simp;omega
  have t7:-1<=sh.getD f (-1)/\sh.getD f (-1)<k:=by rw [s];have:=Nat.mod_lt x (show 0<k+1 by omega);omega
  have z7:=Qjd F.out b8 rfl
  have o:=Y6 c9.out f (.int .i64 (sh.getD f (-1)))
  rw [z7] at o
  have I1:=c9.out.frozenAt f
  have C6:=Fg c9.out (Q6w F.out (by omega)) b8 rfl (d:=-1)
  have m1:=ownsRow_setCell_other f7.out (a:=⟨C,f,none⟩) (by simp [Value.ownBlock];have:=v7.out;omega) (.int .i64 (sh.getD f (-1)))
  have a2:=m.out.setCell (p:=⟨C,f,none⟩) (.inl (by rw [l7.out];exact Nat.le_refl _)) (.int .i64 (sh.getD f (-1)))
  have s0:=Qhx F.out b8
  obtain⟨q,K⟩:∃ q,sh.getD f (-1)=q:=⟨_,rfl⟩
  rw [K] at F4 t7 o m1 a2 s0
  obtain⟨G8,C1⟩:∃ e5,a9.setCell ⟨C,f,none⟩ (.int .i64 q)=e5:=⟨_,rfl⟩
  rw [C1] at o m1 a2
  have f0:=Fg o (Q6w F.out (by omega)) b8 s0
  obtain⟨i6,j5⟩:∃ i6,(Dk sh k f).getD f (-1)=i6:=⟨_,rfl⟩
  rw [j5] at C6
  have e3:=Zh o;have j1:=Zh m1;have e1:=Zh a2;have e4:=Zh K
  have J3:q+1 - 1=q:=by omega
  clear s o m1 a2 z7 W j5 K s0 c9 f7 m m9
  by_cases c0:q<0\/q=(f:Int)
  ·have s:Uk sh k (f+1)=Uk sh k f:=Q68 (by rw [e4.out];exact c0)
   have r1:=j1.out
   rw [<-s] at r1
   have v9:=Zh r1
   clear s r1 j1
   rcases c0 with c0 | c0
   ·go_wp2
    exact⟨⟨f+1,by omega,by simp,e3.out,v9.out,e1.out⟩,by simp [intOf];omega⟩
   ·subst c0
    go_wp2
    exact⟨⟨f+1,by omega,by first | rfl | trivial,⟨rfl,rfl,rfl,rfl,rfl,rfl,rfl⟩,e3.out,v9.out,e1.out⟩,by simp [intOf];omega⟩
  ·obtain⟨u,rfl⟩:∃ u:Nat,q=(u:Int):=⟨q.toNat,by omega⟩
   have z2:u<k:=by omega
   have s3:u≠f:=by omega
   have I6:(u:Int)≠(f:Int):=by omega
   have E7:(u:Int)<(k:Int):=by omega
   have E6:(0:Int)<=(u:Int):=by omega
   have C5:=Gt j1.out z2 (Rt z2) (Rw _ _ _)
   have k4:=Qga sh f u
   have V:=j1.out.frozenAt u
   have d9:=Y6 j1.out u (.int .i64 ((Ue sh f u:Nat)+1))
   rw [<-Q93 e4.out s3] at d9
   have r3:=ownsRow_setCell_other e3.out (a:=⟨b6,u,none⟩) (by simp [Value.ownBlock];exact v7.out) (.int .i64 ((Ue sh f u:Nat)+1))
   have g9:=e1.out.setCell (p:=⟨b6,u,none⟩) (.inl (by rw [l7.out];exact A9.out)) (.int .i64 ((Ue sh f u:Nat)+1))
   obtain⟨g,j4⟩:∃ g,Ue sh f u=g:=⟨_,rfl⟩
   rw [j4] at C5 k4 d9 r3 g9
   have o6:=Zh d9;have B4:=Zh r3;have n9:=Zh g9
   clear d9 r3 g9 j4 e3 j1 e1 c0
   go_wp2
   exact⟨⟨f+1,by omega,by first | rfl | trivial,⟨rfl,rfl,rfl,rfl,rfl,rfl,rfl⟩,B4.out,o6.out,n9.out⟩,by simp [intOf];omega⟩
 obtain rfl:f=k:=by omega
 have e8:¬ (f:Int)<(f:Int):=by omega
 have R:=c9.out
 rw [Qhp F.out] at R
 have b4:=Rd.of_own R
 have r6:=To b4 F.out
 have f0:=fun(e5:World) (hV:Ext a9 e5)=>Q1m (b4.ext hV) F.out
 have j9:=Qm3 Y.out
 have y4:Wt sh=Ys sh:=by unfold Wt;rw [if_pos j9]
 have A1:Fc sh=Z6 sh:=by unfold Fc;rw [if_pos j9]
 rw [j9,y4] at r6
 simp only [j9,A1] at f0
 have w2:=Zh R;have u5:=Zh r6;have u7:=Zh f0
 clear R b4 r6 f0 j9 y4 A1 c9 u1 i7 u4 w3 e8
 go_wp2_with fail
 refine u5.out.mono ?_
 rintro e G5 ⟨J8,rfl,r8,q7⟩
 obtain⟨k0,g8,rfl⟩:=Q1j r8
 have w4:=Zh (u7.out G5 q7)
 have v2:=Zh r8.grc;have v0:=Zh q7
 clear u5 u7 r8 q7
 go_wp2_with fail
 refine w4.out.mono ?_
 rintro e e0 ⟨J9,rfl,r9,q8⟩
 obtain⟨q5,m0,rfl⟩:=Q1j r9
 have o2:=Zh r9.grc;have o1:=Zh (v2.out.ext q8);have l2:=Zh (v0.out.trans q8)
 have l6:=Zh (Qe w2.out l2.out);have v3:=Zh (Qe f7.out l2.out);have A6:=Zh (m.out.trans l2.out)
 clear w4 r9 q8 v2 v0 w2 f7 l2 m
 obtain⟨a7,m2⟩:∃ N,(Ys sh).length=N:=⟨_,rfl⟩
 obtain⟨a8,m3⟩:∃ N,(Z6 sh).length=N:=⟨_,rfl⟩
 rw [m2] at o1 ⊢
 rw [m3] at o2 ⊢
 have H0:a7<=64:=by rw [<-m2,<-Q6t];have:=Qao sh sh.length;have:=F.out;omega
 have H1:a8<=64:=by rw [<-m3,Gs,List.length_map];unfold hdK;exact Nat.le_trans (List.length_filter_le _ _) (by rw [List.length_range];exact Y.out.1)
 have j2:=Zh m2;have l4:=Zh m3
 clear m2 m3
 obtain⟨b0,x8⟩:∃ C,e0.heap.size=C:=⟨_,rfl⟩
 have e4:=Zh x8
 clear x8
 have s3:∀ a9:World,(Instr.makeSlice 36 (.int .i64 (f:Int)) (.int .i64 (f:Int))).run Tryz.prog a9=.ok (.slice (some ⟨a9.heap.size,0,none⟩) f f) (a9.alloc (.cells (madeCells #[.int .i64 0] (f*1)) 3)):=fun a9=>Qbj s5 a9
 go_upto_region 15 with (fail)
 go_cut [11,12] from 89 to 92 (fun v11 v12 wx=>∃ E M:Nat,v11=.slice (some ⟨E,0,none⟩) f f/\v12=.slice (some ⟨M,0,none⟩) f f/\E≠M/\wx.ownsRow b0 3 1 (.slice (some ⟨E,0,none⟩) f f) f (List.replicate f (.int .i64 0))/\wx.ownsRow b0 3 1 (.slice (some ⟨M,0,none⟩) f f) f (List.replicate f (.int .i64 0))/\Ext e0 wx)
 case first=>
  go_region
  all_goals
   go_wp2
   go_meet
   have c6:=Qcm s5 e4.out _ rfl
   first
    | exact⟨_,_,rfl,rfl,by omega,c6.1,c6.2.1,c6.2.2⟩
    | exact⟨_,_,rfl,rfl,by omega,c6.2.1,c6.1,c6.2.2⟩
 case rest=>
  obtain⟨E,M,rfl,rfl,k5,z4,z5,w9⟩:=hcut
  clear s3
  have s8:=z4
  rw [<-Rp (Xw sh) f] at s8
  have s9:=z5
  rw [<-Rp ((Z6 sh).flatten) f] at s9
  have r:=Zh s8;have t:=Zh s9;have v1:=Zh w9;have l3:=Zh k5
  clear z4 z5 s8 s9 w9 k5
  obtain⟨i2,y2⟩:b0<=E/\b0<=M:=⟨(r.out.lt E rfl).1,(t.out.lt M rfl).1⟩
  have y1:=Qjs Y.out
  have n6:=Zh i2;have u3:=Zh y2;have l0:=Zh y1
  clear i2 y2 y1
  go_wp2
  refine wp_loop (fun a e5=>∃(g:Nat),g<=a7/\a.defers=[]/\(a.tmps.size=326/\a.tmps.getD 3 undef=.int .i64 f/\a.tmps.getD 4 undef=.slice (some ⟨C,0,none⟩) f f/\a.tmps.getD 5 undef=.slice (some ⟨b6,0,none⟩) f f/\a.tmps.getD 7 undef=.slice k0 a7 g8/\a.tmps.getD 9 undef=.slice q5 a8 m0/\a.tmps.getD 11 undef=.slice (some ⟨E,0,none⟩) f f/\a.tmps.getD 12 undef=.slice (some ⟨M,0,none⟩) f f/\a.tmps.getD 13 undef=.int .i64 (Fx (hdC sh) g)/\a.tmps.getD 93 undef=.slice k0 a7 g8/\a.tmps.getD 94 undef=.int .i64 a7/\a.tmps.getD 95 undef=.int .i64 g)/\e5.ownsRow b0 3 1 (.slice (some ⟨E,0,none⟩) f f) f (Z5 (Yt (Xw sh) f (Ua sh g)))/\e5.ownsRow b0 3 1 (.slice (some ⟨M,0,none⟩) f f) f (Z5 (Yt ((Z6 sh).flatten) f 0))/\Ext e0 e5)
   (fun a _=>a7 - (intOf (a.tmps.getD 95 undef)).toNat) ?_ ?_
  ·exact⟨0,by omega,rfl,⟨rfl,rfl,rfl,rfl,rfl,rfl,rfl,rfl,rfl,rfl,rfl,rfl⟩,r.out,t.out,v1.out⟩
  clear r t v1
  rintro⟨c1,_⟩ e5 ⟨g,j4,b7,⟨P,z,A,B,I,g3,G,H,S,g4,g5,g6⟩,O,T,J⟩
  subst b7
  obtain⟨c2,Q⟩:=Qq P
  obtain⟨c,rfl⟩:∃ x,x=c2:=⟨_,rfl⟩
  have b9:c1=#[c 0,c 1,c 2,c 3,c 4,c 5,c 6,c 7,c 8,c 9,c 10,c 11,c 12,c 13,c 14,c 15,c 16,c 17,c 18,c 19,c 20,c 21,c 22,c 23,c 24,c 25,c 26,c 27,c 28,c 29,c 30,c 31,c 32,c 33,c 34,c 35,c 36,c 37,c 38,c 39,c 40,c 41,c 42,c 43,c 44,c 45,c 46,c 47,c 48,c 49,c 50,c 51,c 52,c 53,c 54,c 55,c 56,c 57,c 58,c 59,c 60,c 61,c 62,c 63,c 64,c 65,c 66,c 67,c 68,c 69,c 70,c 71,c 72,c 73,c 74,c 75,c 76,c 77,c 78,c 79,c 80,c 81,c 82,c 83,c 84,c 85,c 86,c 87,c 88,c 89,c 90,c 91,c 92,c 93,c 94,c 95,c 96,c 97,c 98,c 99,c 100,c 101,c 102,c 103,c 104,c 105,c 106,c 107,c 108,c 109,c 110,c 111,c 112,c 113,c 114,c 115,c 116,c 117,c 118,c 119,c 120,c 121,c 122,c 123,c 124,c 125,c 126,c 127,c 128,c 129,c 130,c 131,c 132,c 133,c 134,c 135,c 136,c 137,c 138,c 139,c 140,c 141,c 142,c 143,c 144,c 145,c 146,c 147,c 148,c 149,c 150,c 151,c 152,c 153,c 154,c 155,c 156,c 157,c 158,c 159,c 160,c 161,c 162,c 163,c 164,c 165,c 166,c 167,c 168,c 169,c 170,c 171,c 172,c 173,c 174,c 175,c 176,c 177,c 178,c 179,c 180,c 181,c 182,c 183,c 184,c 185,c 186,c 187,c 188,c 189,c 190,c 191,c 192,c 193,c 194,c 195,c 196,c 197,c 198,c 199,c 200,c 201,c 202,c 203,c 204,c 205,c 206,c 207,c 208,c 209,c 210,c 211,c 212,c 213,c 214,c 215,c 216,c 217,c 218,c 219,c 220,c 221,c 222,c 223,c 224,c 225,c 226,c 227,c 228,c 229,c 230,c 231,c 232,c 233,c 234,c 235,c 236,c 237,c 238,c 239,c 240,c 241,c 242,c 243,c 244,c 245,c 246,c 247,c 248,c 249,c 250,c 251,c 252,c 253,c 254,c 255,c 256,c 257,c 258,c 259,c 260,c 261,c 262,c 263,c 264,c 265,c 266,c 267,c 268,c 269,c 270,c 271,c 272,c 273,c 274,c 275,c 276,c 277,c 278,c 279,c 280,c 281,c 282,c 283,c 284,c 285,c 286,c 287,c 288,c 289,c 290,c 291,c 292,c 293,c 294,c 295,c 296,c 297,c 298,c 299,c 300,c 301,c 302,c 303,c 304,c 305,c 306,c 307,c 308,c 309,c 310,c 311,c 312,c 313,c 314,c 315,c 316,c 317,c 318,c 319,c 320,c 321,c 322,c 323,c 324,c 325]:=Q
  clear Q
  subst b9
  change c 3=_ at z
  change c 4=_ at A
  change c 5=_ at B
  change c 7=_ at I
  change c 9=_ at g3
  change c 11=_ at G
  change c 12=_ at H
  change c 13=_ at S
  change c 93=_ at g4
  change c 94=_ at g5
  change c 95=_ at g6
  rw [z,A,B,I,g3,G,H,S,g4,g5,g6]
  clear z A B I g3 G H S g4 g5 g6 P
  have r:=Zh O;have t:=Zh T;have m:=Zh J
  clear O T J
  by_cases F2:g<a7
  case pos=>
   have t0:(g:Int)<(a7:Int):=by omega
   have F1:(0:Int)<=(g:Int):=by omega
   have a4:g<(Ys sh).length:=by rw [j2.out];exact F2
   have d7:g<(hdC sh).length:=by rw [Fb,List.length_map] at a4;exact a4
   have d6:g<(Jh sh).length:=by rw [Rj];omega
   have a5:(Ys sh)[g]=Qh sh (hdC sh)[g]:=List.getElem_map ..
   have d8:(Jh sh)[g]=Qh sh (hdC sh)[g]:=(Ql1 a4 d6).trans a5
   obtain⟨s,d3⟩:=Q8f d7
   have d5:=Q7o d7
   have i5:=Q26 d7
   change Fx (hdC sh) g<((hdC sh)[g]:Nat) at d5
   change (hdC sh)[g]<sh.length at s
   change Ug sh (hdC sh)[g]=true at d3
   obtain⟨v,k6⟩:∃ v,(hdC sh)[g]=v:=⟨_,rfl⟩
   rw [k6] at a5 d8 s d3 d5 i5
   obtain⟨j7,e7,l9,d1,l8⟩:=Q9b Y.out s d3
   have b5:=fun {j:Nat} (h:j<(Qh sh v).length)=>Qak Y.out s h
   have j8:=Et Y.out s
   obtain⟨e6,_⟩:=Kt (sh:=sh) (i:=v)
   have U:=Q3k d6
   have b1:=fun {j:Nat} (h:j<(Jh sh)[g].length)=>Qba d6 h
   rw [d8] at U
   simp only [d8] at b1
   rw [F.out] at e7 s
   simp only [F.out] at b5
   obtain⟨y,i3⟩:∃ y,Qh sh v=y:=⟨_,rfl⟩
   rw [i3] at a5 j7 l8 j8 e6 U
   simp only [i3] at l9 d1 b5 b1
   obtain⟨g7,k9,c4,c5,a1,rfl,b2,d4,b4,r5⟩:=Q3r o1.out j2.out a4 a5 (by omega)
   have b2:=m.out.cell_some b2 id
   have e9:=m.out.cell_some (d4 0 (by omega)) id
   rw [e6,Nat.add_zero] at e9
   have D8:=Gt (Qe v3.out m.out) s (by rw [Rt s,e7]) (Rw _ _ _) (x:=0)
   obtain⟨n,a3⟩:∃ k,y.length=k:=⟨_,rfl⟩
   rw [a3] at b2 j7 j8 l8 U r5
   simp only [a3] at d4 b4 l9 d1 b5 b1
   obtain⟨f8,k1⟩:∃ f8,Fx (hdC sh) g=f8:=⟨_,rfl⟩
   rw [k1] at d5 ⊢
   have i8:Hid (∀ j,j<n->e0.cell? ⟨c4,c5+j,none⟩=some (.int .i64 (y.getD j 0))):=Zh d4
   have w1:Hid (Rd e0 (.slice (some ⟨c4,c5,none⟩) n a1) n 1 (Zd y)):=Zh b4
   have B2:Hid (∀ j,j<n->y.getD j 0 ∉ y.take j):=Zh l9
   have n8:Hid (∀ j,j+1<n->sh.getD (y.getD j 0).toNat (-1)=y.getD (j+1) 0):=Zh d1
   have i9:Hid (∀ {j},j<n->∃ x:Nat,y.getD j 0=(x:Int)/\x<f):=Zh b5
   have n4:Hid (∀ {j},j<n->Ua sh g+j<(Xw sh).length/\(Xw sh).getD (Ua sh g+j) 0=y.getD j 0):=Zh b1
   have A5:=Zh l8;have u6:=Zh a3;have i7:=Zh U;have f6:=Zh i5
   clear d4 b4 l9 d1 b5 b1 l8 a3 U i5 a4 d7 d6 a5 d8 d3 k6 e6 i3 k1 e7
   have E3:¬ (n:Int)<2:=by omega
   have E2:(0:Int)<(n:Int):=by omega
   have k7:¬ (v:Int)<=f8:=by omega
   have F5:¬ (v:Int)<0:=by omega
   have F6:(0:Int)<=(v:Int):=by omega
   have k8:(v:Int)<(f:Int):=by omega
   have F8:¬ (v:Int)>=(f:Int):=by omega
   go_wp2
   clear b2 e9 D8 k7 F5 F6 k8 F8 E3 d5
   refine wp_loop (fun a L=>∃(j:Nat),j<=n/\a.defers=[]/\(a.tmps.size=326/\a.tmps.getD 3 undef=.int .i64 f/\a.tmps.getD 4 undef=.slice (some ⟨C,0,none⟩) f f/\a.tmps.getD 5 undef=.slice (some ⟨b6,0,none⟩) f f/\a.tmps.getD 7 undef=.slice (some ⟨g7,k9,none⟩) a7 g8/\a.tmps.getD 9 undef=.slice q5 a8 m0/\a.tmps.getD 11 undef=.slice (some ⟨E,0,none⟩) f f/\a.tmps.getD 12 undef=.slice (some ⟨M,0,none⟩) f f/\a.tmps.getD 13 undef=.int .i64 v/\a.tmps.getD 15 undef=.slice (some ⟨c4,c5,none⟩) n a1/\a.tmps.getD 93 undef=.slice (some ⟨g7,k9,none⟩) a7 g8/\a.tmps.getD 94 undef=.int .i64 a7/\a.tmps.getD 95 undef=.int .i64 g/\a.tmps.getD 134 undef=.slice (some ⟨c4,c5,none⟩) n a1/\a.tmps.getD 135 undef=.int .i64 n/\a.tmps.getD 136 undef=.int .i64 j)/\L.ownsRow b0 3 1 (.slice (some ⟨E,0,none⟩) f f) f (Z5 (Yt (Xw sh) f (Ua sh g+j)))/\L.ownsRow b0 3 1 (.slice (some ⟨M,0,none⟩) f f) f (Z5 (Yt ((Z6 sh).flatten) f 0))/\Ext e0 L)
    (fun a _=>n - (intOf (a.tmps.getD 136 undef)).toNat) ?_ ?_
   ·exact⟨0,by omega,rfl,⟨rfl,rfl,rfl,rfl,rfl,rfl,rfl,rfl,rfl,rfl,rfl,rfl,rfl,rfl,rfl,rfl⟩,r.out,t.out,m.out⟩
   clear r t m
   rintro⟨c1,_⟩ L ⟨j,D9,b7,⟨P,z,A,B,I,g3,G,H,S,p5,g4,g5,g6,p2,p3,p4⟩,O,T,J⟩
   subst b7
   obtain⟨c2,Q⟩:=Qq P
   obtain⟨c,rfl⟩:∃ x,x=c2:=⟨_,rfl⟩
   have b9:c1=#[c 0,c 1,c 2,c 3,c 4,c 5,c 6,c 7,c 8,c 9,c 10,c 11,c 12,c 13,c 14,c 15,c 16,c 17,c 18,c 19,c 20,c 21,c 22,c 23,c 24,c 25,c 26,c 27,c 28,c 29,c 30,c 31,c 32,c 33,c 34,c 35,c 36,c 37,c 38,c 39,c 40,c 41,c 42,c 43,c 44,c 45,c 46,c 47,c 48,c 49,c 50,c 51,c 52,c 53,c 54,c 55,c 56,c 57,c 58,c 59,c 60,c 61,c 62,c 63,c 64,c 65,c 66,c 67,c 68,c 69,c 70,c 71,c 72,c 73,c 74,c 75,c 76,c 77,c 78,c 79,c 80,c 81,c 82,c 83,c 84,c 85,c 86,c 87,c 88,c 89,c 90,c 91,c 92,c 93,c 94,c 95,c 96,c 97,c 98,c 99,c 100,c 101,c 102,c 103,c 104,c 105,c 106,c 107,c 108,c 109,c 110,c 111,c 112,c 113,c 114,c 115,c 116,c 117,c 118,c 119,c 120,c 121,c 122,c 123,c 124,c 125,c 126,c 127,c 128,c 129,c 130,c 131,c 132,c 133,c 134,c 135,c 136,c 137,c 138,c 139,c 140,c 141,c 142,c 143,c 144,c 145,c 146,c 147,c 148,c 149,c 150,c 151,c 152,c 153,c 154,c 155,c 156,c 157,c 158,c 159,c 160,c 161,c 162,c 163,c 164,c 165,c 166,c 167,c 168,c 169,c 170,c 171,c 172,c 173,c 174,c 175,c 176,c 177,c 178,c 179,c 180,c 181,c 182,c 183,c 184,c 185,c 186,c 187,c 188,c 189,c 190,c 191,c 192,c 193,c 194,c 195,c 196,c 197,c 198,c 199,c 200,c 201,c 202,c 203,c 204,c 205,c 206,c 207,c 208,c 209,c 210,c 211,c 212,c 213,c 214,c 215,c 216,c 217,c 218,c 219,c 220,c 221,c 222,c 223,c 224,c 225,c 226,c 227,c 228,c 229,c 230,c 231,c 232,c 233,c 234,c 235,c 236,c 237,c 238,c 239,c 240,c 241,c 242,c 243,c 244,c 245,c 246,c 247,c 248,c 249,c 250,c 251,c 252,c 253,c 254,c 255,c 256,c 257,c 258,c 259,c 260,c 261,c 262,c 263,c 264,c 265,c 266,c 267,c 268,c 269,c 270,c 271,c 272,c 273,c 274,c 275,c 276,c 277,c 278,c 279,c 280,c 281,c 282,c 283,c 284,c 285,c 286,c 287,c 288,c 289,c 290,c 291,c 292,c 293,c 294,c 295,c 296,c 297,c 298,c 299,c 300,c 301,c 302,c 303,c 304,c 305,c 306,c 307,c 308,c 309,c 310,c 311,c 312,c 313,c 314,c 315,c 316,c 317,c 318,c 319,c 320,c 321,c 322,c 323,c 324,c 325]:=Q
   clear Q
   subst b9
   change c 3=_ at z
   change c 4=_ at A
   change c 5=_ at B
   change c 7=_ at I
   change c 9=_ at g3
   change c 11=_ at G
   change c 12=_ at H
   change c 13=_ at S
   change c 15=_ at p5
   change c 93=_ at g4
   change c 94=_ at g5
   change c 95=_ at g6
   change c 134=_ at p2
   change c 135=_ at p3
   change c 136=_ at p4
   rw [z,A,B,I,g3,G,H,S,p5,g4,g5,g6,p2,p3,p4]
   clear z A B I g3 G H S p5 g4 g5 g6 p2 p3 p4 P
   have r:=Zh O;have t:=Zh T;have m:=Zh J
   clear O T J
   by_cases b3:j<n
   case pos=>
    have m8:(j:Int)<(n:Int):=by omega
    have E0:(0:Int)<=(j:Int):=by omega
    have I3:(j:Int)<=(a1:Int):=by omega
    obtain⟨x,W,f4⟩:=i9.out b3
    have k2:=m.out.cell_some (i8.out j b3) id
    have s6:=Qjz (B2.out j b3)
    rw [W] at k2 s6
    have i4:=Sd (Qiy (w1.out.ext m.out) (Nat.le_of_lt b3)) (by rw [List.length_take,u6.out];omega) (x:Int) (cap:=a1)
    rw [s6] at i4
    obtain⟨j6,f9⟩:=n4.out b3
    rw [W] at f9
    have j3:=Gt r.out f4 (Fp f4) (Kg _ _ _)
    have k4:=Td (Xw sh) (Ua sh g+j) x
    have D5:=r.out.frozenAt x
    have o:=Y6 r.out x (.int .i64 ((X9 (Xw sh) (Ua sh g+j) x:Nat)+1))
    rw [<-Q39 j6 f9] at o
    have c8:=ownsRow_setCell_other t.out (a:=⟨E,x,none⟩) (by simp [Value.ownBlock];have:=l3.out;omega) (.int .i64 ((X9 (Xw sh) (Ua sh g+j) x:Nat)+1))
    have a2:=m.out.setCell (p:=⟨E,x,none⟩) (.inl (by rw [e4.out];exact n6.out)) (.int .i64 ((X9 (Xw sh) (Ua sh g+j) x:Nat)+1))
    have s1:X9 (Xw sh) (Ua sh g+j) x<=8192:=by have:=l0.out;omega
    obtain⟨a6,f2⟩:∃ a6,X9 (Xw sh) (Ua sh g+j) x=a6:=⟨_,rfl⟩
    rw [f2] at j3 s1 o c8 a2
    have G0:¬ (x:Int)<0:=by omega
    have J4:(0:Int)<=(x:Int):=by omega
    have G1:(x:Int)<(f:Int):=by omega
    have J5:¬ (x:Int)>=(f:Int):=by omega
    have e3:=Zh o;have o4:=Zh c8;have e1:=Zh a2;have l1:=Zh i4;have w5:=Zh W
    clear o c8 a2 i4 f2 k4 j6 f9 s6 r t
    by_cases E1:j=0
    ·subst E1
     clear m w5 W
     rw [Nat.add_zero] at k2
     go_wp2_with fail
     refine l1.out.mono ?_
     rintro e w7 ⟨rfl,rfl⟩
     go_wp2
     first
      | exact⟨⟨0+1,by omega,by first | rfl | trivial,⟨rfl,rfl,rfl,rfl,rfl,rfl,rfl,rfl,rfl,rfl,rfl,rfl,rfl,rfl,rfl,rfl⟩,e3.out,o4.out,e1.out⟩,by simp [intOf];omega⟩
      | exact⟨⟨1,by omega,by simp,e3.out,o4.out,e1.out⟩,by simp [intOf];omega⟩
    ·obtain⟨i,rfl⟩:∃ i,j=i+1:=⟨j - 1,by omega⟩
     obtain⟨q,K,c0⟩:=i9.out (show i<n by omega)
     have f0:=m.out.cell_some (i8.out i (by omega)) id
     have n2:=n8.out i b3
     rw [K] at f0 n2
     rw [W,Int.toNat_natCast] at n2
     have n1:=Fg (Qe l6.out m.out) F.out c0 n2
     have A0:(0:Int)<=(q:Int):=by omega
     have t7:(q:Int)<(f:Int):=by omega
     have D6:(0:Int)<=(i:Int):=by omega
     have D7:(i:Int)<(n:Int):=by omega
     have J2:(i:Int)+1 > 0:=by omega
     clear m w5 W K n2
     go_wp2_with fail
     refine l1.out.mono ?_
     rintro e w7 ⟨rfl,rfl⟩
     go_wp2
     first
      | exact⟨⟨i+1+1,by omega,by first | rfl | trivial,⟨rfl,rfl,rfl,rfl,rfl,rfl,rfl,rfl,rfl,rfl,rfl,rfl,rfl,rfl,rfl,rfl⟩,e3.out,o4.out,e1.out⟩,by simp [intOf];omega⟩
   obtain rfl:j=n:=by omega
   have m8:¬ (j:Int)<(j:Int):=by omega
   obtain⟨i,rfl⟩:∃ i,j=i+1:=⟨j - 1,by omega⟩
   obtain⟨q,K,c0⟩:=i9.out (show i<i+1 by omega)
   have f0:=m.out.cell_some (i8.out i (by omega)) id
   rw [K] at f0
   have m5:=A5.out
   rw [Nat.add_sub_cancel,K,Int.toNat_natCast] at m5
   obtain⟨i6,j5⟩:∃ i6,sh.getD q (-1)=i6:=⟨_,rfl⟩
   rw [j5] at m5
   have n1:=Fg (Qe l6.out m.out) F.out c0 j5
   have A0:(0:Int)<=(q:Int):=by omega
   have t7:(q:Int)<(f:Int):=by omega
   have D6:(0:Int)<=(i:Int):=by omega
   have D7:(i:Int)<(i:Int)+1:=by omega
   have R:=r.out
   rw [<-i7.out] at R
   have f5:=Zh R;have n7:=Zh m5
   clear R K j5 m5 r m8
   by_cases G4:i6>=0
   ·have i4:=Sd (w1.out.ext m.out) u6.out i6 (cap:=a1)
    rw [Qhq (n7.out G4)] at i4
    have l1:=Zh i4
    clear i4 n7
    go_wp2_with fail
    refine l1.out.mono ?_
    rintro e w7 ⟨rfl,rfl⟩
    go_wp2
    first
     | exact⟨⟨g+1,by omega,by first | rfl | trivial,⟨rfl,rfl,rfl,rfl,rfl,rfl,rfl,rfl,by rw [f6.out];rfl,rfl,rfl,rfl⟩,f5.out,t.out,m.out⟩,by simp [intOf];omega⟩
     | exact⟨⟨g+1,by omega,by rw [f6.out];simp,f5.out,t.out,m.out⟩,by simp [intOf];omega⟩
   ·clear n7
    go_wp2
    first
     | exact⟨⟨g+1,by omega,by first | rfl | trivial,⟨rfl,rfl,rfl,rfl,rfl,rfl,rfl,rfl,by rw [f6.out];rfl,rfl,rfl,rfl⟩,f5.out,t.out,m.out⟩,by simp [intOf];omega⟩
     | exact⟨⟨g+1,by omega,by rw [f6.out];simp,f5.out,t.out,m.out⟩,by simp [intOf];omega⟩
  obtain rfl:g=a7:=by omega
  have t0:¬ (g:Int)<(g:Int):=by omega
  have j0:=r
  clear r
  have i0:=j0.out
  rw [show Ua sh g=Ua sh (g+0) from rfl] at i0
  have r:=Zh i0
  clear i0 j0 o1
  go_wp2
  refine wp_loop (fun a Z=>∃(p:Nat),p<=a8/\a.defers=[]/\(a.tmps.size=326/\a.tmps.getD 3 undef=.int .i64 f/\a.tmps.getD 4 undef=.slice (some ⟨C,0,none⟩) f f/\a.tmps.getD 5 undef=.slice (some ⟨b6,0,none⟩) f f/\a.tmps.getD 7 undef=.slice k0 g g8/\a.tmps.getD 11 undef=.slice (some ⟨E,0,none⟩) f f/\a.tmps.getD 12 undef=.slice (some ⟨M,0,none⟩) f f/\a.tmps.getD 13 undef=.int .i64 (Fx (hdK sh) p)/\a.tmps.getD 196 undef=.slice q5 a8 m0/\a.tmps.getD 197 undef=.int .i64 a8/\a.tmps.getD 198 undef=.int .i64 p)/\Z.ownsRow b0 3 1 (.slice (some ⟨E,0,none⟩) f f) f (Z5 (Yt (Xw sh) f (Ua sh (g+p))))/\Z.ownsRow b0 3 1 (.slice (some ⟨M,0,none⟩) f f) f (Z5 (Yt ((Z6 sh).flatten) f (Wu sh p)))/\Ext e0 Z)
   (fun a _=>a8 - (intOf (a.tmps.getD 198 undef)).toNat) ?_ ?_
  ·exact⟨0,by omega,rfl,⟨rfl,rfl,rfl,rfl,rfl,rfl,rfl,rfl,rfl,rfl,rfl⟩,r.out,t.out,m.out⟩
  clear r t m t0
  rintro⟨c1,_⟩ Z ⟨p,J1,b7,⟨P,z,A,B,I,G,H,S,g0,g1,g2⟩,O,T,J⟩
  subst b7
  obtain⟨c2,Q⟩:=Qq P
  obtain⟨c,rfl⟩:∃ x,x=c2:=⟨_,rfl⟩
  have b9:c1=#[c 0,c 1,c 2,c 3,c 4,c 5,c 6,c 7,c 8,c 9,c 10,c 11,c 12,c 13,c 14,c 15,c 16,c 17,c 18,c 19,c 20,c 21,c 22,c 23,c 24,c 25,c 26,c 27,c 28,c 29,c 30,c 31,c 32,c 33,c 34,c 35,c 36,c 37,c 38,c 39,c 40,c 41,c 42,c 43,c 44,c 45,c 46,c 47,c 48,c 49,c 50,c 51,c 52,c 53,c 54,c 55,c 56,c 57,c 58,c 59,c 60,c 61,c 62,c 63,c 64,c 65,c 66,c 67,c 68,c 69,c 70,c 71,c 72,c 73,c 74,c 75,c 76,c 77,c 78,c 79,c 80,c 81,c 82,c 83,c 84,c 85,c 86,c 87,c 88,c 89,c 90,c 91,c 92,c 93,c 94,c 95,c 96,c 97,c 98,c 99,c 100,c 101,c 102,c 103,c 104,c 105,c 106,c 107,c 108,c 109,c 110,c 111,c 112,c 113,c 114,c 115,c 116,c 117,c 118,c 119,c 120,c 121,c 122,c 123,c 124,c 125,c 126,c 127,c 128,c 129,c 130,c 131,c 132,c 133,c 134,c 135,c 136,c 137,c 138,c 139,c 140,c 141,c 142,c 143,c 144,c 145,c 146,c 147,c 148,c 149,c 150,c 151,c 152,c 153,c 154,c 155,c 156,c 157,c 158,c 159,c 160,c 161,c 162,c 163,c 164,c 165,c 166,c 167,c 168,c 169,c 170,c 171,c 172,c 173,c 174,c 175,c 176,c 177,c 178,c 179,c 180,c 181,c 182,c 183,c 184,c 185,c 186,c 187,c 188,c 189,c 190,c 191,c 192,c 193,c 194,c 195,c 196,c 197,c 198,c 199,c 200,c 201,c 202,c 203,c 204,c 205,c 206,c 207,c 208,c 209,c 210,c 211,c 212,c 213,c 214,c 215,c 216,c 217,c 218,c 219,c 220,c 221,c 222,c 223,c 224,c 225,c 226,c 227,c 228,c 229,c 230,c 231,c 232,c 233,c 234,c 235,c 236,c 237,c 238,c 239,c 240,c 241,c 242,c 243,c 244,c 245,c 246,c 247,c 248,c 249,c 250,c 251,c 252,c 253,c 254,c 255,c 256,c 257,c 258,c 259,c 260,c 261,c 262,c 263,c 264,c 265,c 266,c 267,c 268,c 269,c 270,c 271,c 272,c 273,c 274,c 275,c 276,c 277,c 278,c 279,c 280,c 281,c 282,c 283,c 284,c 285,c 286,c 287,c 288,c 289,c 290,c 291,c 292,c 293,c 294,c 295,c 296,c 297,c 298,c 299,c 300,c 301,c 302,c 303,c 304,c 305,c 306,c 307,c 308,c 309,c 310,c 311,c 312,c 313,c 314,c 315,c 316,c 317,c 318,c 319,c 320,c 321,c 322,c 323,c 324,c 325]:=Q
  clear Q
  subst b9
  change c 3=_ at z
  change c 4=_ at A
  change c 5=_ at B
  change c 7=_ at I
  change c 11=_ at G
  change c 12=_ at H
  change c 13=_ at S
  change c 196=_ at g0
  change c 197=_ at g1
  change c 198=_ at g2
  rw [z,A,B,I,G,H,S,g0,g1,g2]
  clear z A B I G H S g0 g1 g2 P
  have r:=Zh O;have t:=Zh T;have m:=Zh J
  clear O T J
  by_cases F0:p<a8
  case pos=>
   have t0:(p:Int)<(a8:Int):=by omega
   have F1:(0:Int)<=(p:Int):=by omega
   have a4:p<(Z6 sh).length:=by rw [l4.out];exact F0
   have d7:p<(hdK sh).length:=by rw [Gs,List.length_map] at a4;exact a4
   have d6:(Ys sh).length+p<(Jh sh).length:=by rw [Rj];omega
   have a5:(Z6 sh)[p]=Qh sh (hdK sh)[p]:=List.getElem_map ..
   have d8:(Jh sh)[(Ys sh).length+p]=Qh sh (hdK sh)[p]:=(Qkl a4 d6).trans a5
   obtain⟨s,d3⟩:=Q8f d7
   have d5:=Q7o d7
   have i5:=Q26 d7
   change Fx (hdK sh) p<((hdK sh)[p]:Nat) at d5
   change (hdK sh)[p]<sh.length at s
   change Jm sh (hdK sh)[p]=true at d3
   obtain⟨v,k6⟩:∃ v,(hdK sh)[p]=v:=⟨_,rfl⟩
   rw [k6] at a5 d8 s d3 d5 i5
   obtain⟨j7,p0,d1⟩:=Q92 Y.out s d3
   have b5:=fun {j:Nat} (h:j<(Qh sh v).length)=>Qak Y.out s h
   have e7:=fun {x:Int} (h:x∈Qh sh v)=>Da Y.out s h
   have j8:=Et Y.out s
   obtain⟨e6,_⟩:=Kt (sh:=sh) (i:=v)
   have U:=Q3k d6
   have b1:=fun {j:Nat} (h:j<(Jh sh)[(Ys sh).length+p].length)=>Qba d6 h
   have b8:=Qfn a4
   have k3:=fun {j:Nat} (h:j<(Z6 sh)[p].length)=>Qk9 a4 h
   rw [d8] at U
   simp only [d8] at b1
   rw [a5] at b8
   simp only [a5] at k3
   rw [j2.out] at U
   simp only [j2.out] at b1
   rw [F.out] at s
   simp only [F.out] at b5 e7
   obtain⟨y,i3⟩:∃ y,Qh sh v=y:=⟨_,rfl⟩
   rw [i3] at a5 j7 j8 e6 U b8
   simp only [i3] at d1 b5 b1 k3 p0 e7
   obtain⟨g7,k9,c4,c5,a1,rfl,b2,d4,b4,r5⟩:=Q3r o2.out l4.out a4 a5 (by omega)
   have b2:=m.out.cell_some b2 id
   have e9:=m.out.cell_some (d4 0 (by omega)) id
   rw [e6,Nat.add_zero] at e9
   obtain⟨o7,r0,x2⟩:=Qeu (l:=y) (by omega)
   have n1:(v:Int)∈y:=by rw [<-e6];exact gm (by omega)
   have B9:=(e7 r0).2
   have m6:0<y.length:=by omega
   obtain⟨n,a3⟩:∃ k,y.length=k:=⟨_,rfl⟩
   rw [a3] at b2 j7 j8 U b8 r5 m6
   simp only [a3] at d4 b4 d1 b5 b1 k3
   have n0:∀ d,Calls Tryz.prog 36 #[.slice (some ⟨c4,c5,none⟩) n a1] (Z.drewN d) fun e w'=>e=.returned (.int .i64 (v:Int))/\w'=Z.drewN d:=fun d=>
    (Qar (b4.ext (m.out.drewN d)) a3 m6 (cap:=a1)).mono fun e w' ⟨u,e8,⟨c6,h3⟩,h4⟩=>⟨by rw [e8];have:=h3 _ n1;have:=p0 _ c6;congr 2;omega,h4⟩
   have z1:∀ d,Calls Tryz.prog 37 #[.slice (some ⟨c4,c5,none⟩) n a1] (Z.drewN d) fun e w'=>e=.returned (.int .i64 o7)/\w'=Z.drewN d:=fun d=>
    (Qlb (b4.ext (m.out.drewN d)) a3 m6 (cap:=a1)).mono fun e w' ⟨u,e8,⟨c6,h3⟩,h4⟩=>⟨by rw [e8];have:=h3 _ r0;have:=x2 _ c6;congr 2;omega,h4⟩
   obtain⟨f8,k1⟩:∃ f8,Fx (hdK sh) p=f8:=⟨_,rfl⟩
   rw [k1] at d5 ⊢
   have v6:=Zh n0;have v5:=Zh z1
   have i8:Hid (∀ j,j<n->e0.cell? ⟨c4,c5+j,none⟩=some (.int .i64 (y.getD j 0))):=Zh d4
   have n8:Hid (∀ j,j<n->sh.getD (y.getD j 0).toNat (-1)=y.getD ((j+1) % n) 0):=Zh d1
   have i9:Hid (∀ {j},j<n->∃ x:Nat,y.getD j 0=(x:Int)/\x<f):=Zh b5
   have n4:Hid (∀ {j},j<n->Ua sh (g+p)+j<(Xw sh).length/\(Xw sh).getD (Ua sh (g+p)+j) 0=y.getD j 0):=Zh b1
   have B0:Hid (∀ {j},j<n->Wu sh p+j<((Z6 sh).flatten).length/\((Z6 sh).flatten).getD (Wu sh p+j) 0=y.getD j 0):=Zh k3
   have i7:=Zh U;have B1:=Zh b8;have f6:=Zh i5
   clear d4 b4 d1 b5 b1 k3 U b8 i5 a4 d7 d6 a5 d8 d3 k6 e6 i3 k1 n0 z1 p0 e7 r0 x2 n1 a3
   have r7:decide ((n:Int)<2)=false:=by rw [decide_eq_false_iff_not];omega
   have y6:decide ((v:Int)<=f8)=false:=by rw [decide_eq_false_iff_not];omega
   have D0:((v:Int) !=(v:Int))=false:=by simp
   have D1:decide ((v:Int)<0)=false:=by rw [decide_eq_false_iff_not];omega
   have D2:decide (o7>=(f:Int))=false:=by rw [decide_eq_false_iff_not];omega
   have D3:decide ((f:Int)<=o7)=false:=by rw [decide_eq_false_iff_not];omega
   have E2:(0:Int)<(n:Int):=by omega
   clear d5 B9
   go_upto_region 38 with (fail)
   go_quiet (first | (go_at_call 36;exact Calls.quiet_of_same (v6.out _)) | (go_at_call 37;exact Calls.quiet_of_same (v5.out _)))
   have c7:Ext Z (Z.drewN nq):=(Qa.refl _ Z).drewN _
   have e9:=c7.cell_some e9 id
   have j0:=Zh (Qe r.out c7);have o5:=Zh (Qe t.out c7);have o0:=Zh (m.out.trans c7)
   obtain⟨G7,x6⟩:∃ D,Z.drewN nq=D:=⟨_,rfl⟩
   rw [x6] at j0 o5 o0 e9 ⊢
   clear c7 x6 r t m b2 v6 v5 r7 y6 D0 D1 D2 D3
   go_wp2
   clear e9
   refine wp_loop (fun a L=>∃(j:Nat),j<=n/\a.defers=[]/\(a.tmps.size=326/\a.tmps.getD 3 undef=.int .i64 f/\a.tmps.getD 4 undef=.slice (some ⟨C,0,none⟩) f f/\a.tmps.getD 5 undef=.slice (some ⟨b6,0,none⟩) f f/\a.tmps.getD 7 undef=.slice k0 g g8/\a.tmps.getD 11 undef=.slice (some ⟨E,0,none⟩) f f/\a.tmps.getD 12 undef=.slice (some ⟨M,0,none⟩) f f/\a.tmps.getD 13 undef=.int .i64 v/\a.tmps.getD 20 undef=.slice (some ⟨c4,c5,none⟩) n a1/\a.tmps.getD 196 undef=.slice (some ⟨g7,k9,none⟩) a8 m0/\a.tmps.getD 197 undef=.int .i64 a8/\a.tmps.getD 198 undef=.int .i64 p/\a.tmps.getD 235 undef=.slice (some ⟨c4,c5,none⟩) n a1/\a.tmps.getD 236 undef=.int .i64 n/\a.tmps.getD 237 undef=.int .i64 j)/\L.ownsRow b0 3 1 (.slice (some ⟨E,0,none⟩) f f) f (Z5 (Yt (Xw sh) f (Ua sh (g+p)+j)))/\L.ownsRow b0 3 1 (.slice (some ⟨M,0,none⟩) f f) f (Z5 (Yt ((Z6 sh).flatten) f (Wu sh p+j)))/\Ext e0 L)
    (fun a _=>n - (intOf (a.tmps.getD 237 undef)).toNat) ?_ ?_
   ·exact⟨0,by omega,rfl,⟨rfl,rfl,rfl,rfl,rfl,rfl,rfl,rfl,rfl,rfl,rfl,rfl,rfl,rfl,rfl⟩,j0.out,o5.out,o0.out⟩
   clear j0 o5 o0
   rintro⟨c1,_⟩ L ⟨j,D9,b7,⟨P,z,A,B,I,G,H,S,p6,g0,g1,g2,p8,p9,q0⟩,O,T,J⟩
   subst b7
   obtain⟨c2,Q⟩:=Qq P
   obtain⟨c,rfl⟩:∃ x,x=c2:=⟨_,rfl⟩
   have b9:c1=#[c 0,c 1,c 2,c 3,c 4,c 5,c 6,c 7,c 8,c 9,c 10,c 11,c 12,c 13,c 14,c 15,c 16,c 17,c 18,c 19,c 20,c 21,c 22,c 23,c 24,c 25,c 26,c 27,c 28,c 29,c 30,c 31,c 32,c 33,c 34,c 35,c 36,c 37,c 38,c 39,c 40,c 41,c 42,c 43,c 44,c 45,c 46,c 47,c 48,c 49,c 50,c 51,c 52,c 53,c 54,c 55,c 56,c 57,c 58,c 59,c 60,c 61,c 62,c 63,c 64,c 65,c 66,c 67,c 68,c 69,c 70,c 71,c 72,c 73,c 74,c 75,c 76,c 77,c 78,c 79,c 80,c 81,c 82,c 83,c 84,c 85,c 86,c 87,c 88,c 89,c 90,c 91,c 92,c 93,c 94,c 95,c 96,c 97,c 98,c 99,c 100,c 101,c 102,c 103,c 104,c 105,c 106,c 107,c 108,c 109,c 110,c 111,c 112,c 113,c 114,c 115,c 116,c 117,c 118,c 119,c 120,c 121,c 122,c 123,c 124,c 125,c 126,c 127,c 128,c 129,c 130,c 131,c 132,c 133,c 134,c 135,c 136,c 137,c 138,c 139,c 140,c 141,c 142,c 143,c 144,c 145,c 146,c 147,c 148,c 149,c 150,c 151,c 152,c 153,c 154,c 155,c 156,c 157,c 158,c 159,c 160,c 161,c 162,c 163,c 164,c 165,c 166,c 167,c 168,c 169,c 170,c 171,c 172,c 173,c 174,c 175,c 176,c 177,c 178,c 179,c 180,c 181,c 182,c 183,c 184,c 185,c 186,c 187,c 188,c 189,c 190,c 191,c 192,c 193,c 194,c 195,c 196,c 197,c 198,c 199,c 200,c 201,c 202,c 203,c 204,c 205,c 206,c 207,c 208,c 209,c 210,c 211,c 212,c 213,c 214,c 215,c 216,c 217,c 218,c 219,c 220,c 221,c 222,c 223,c 224,c 225,c 226,c 227,c 228,c 229,c 230,c 231,c 232,c 233,c 234,c 235,c 236,c 237,c 238,c 239,c 240,c 241,c 242,c 243,c 244,c 245,c 246,c 247,c 248,c 249,c 250,c 251,c 252,c 253,c 254,c 255,c 256,c 257,c 258,c 259,c 260,c 261,c 262,c 263,c 264,c 265,c 266,c 267,c 268,c 269,c 270,c 271,c 272,c 273,c 274,c 275,c 276,c 277,c 278,c 279,c 280,c 281,c 282,c 283,c 284,c 285,c 286,c 287,c 288,c 289,c 290,c 291,c 292,c 293,c 294,c 295,c 296,c 297,c 298,c 299,c 300,c 301,c 302,c 303,c 304,c 305,c 306,c 307,c 308,c 309,c 310,c 311,c 312,c 313,c 314,c 315,c 316,c 317,c 318,c 319,c 320,c 321,c 322,c 323,c 324,c 325]:=Q
   clear Q
   subst b9
   change c 3=_ at z
   change c 4=_ at A
   change c 5=_ at B
   change c 7=_ at I
   change c 11=_ at G
   change c 12=_ at H
   change c 13=_ at S
   change c 20=_ at p6
   change c 196=_ at g0
   change c 197=_ at g1
   change c 198=_ at g2
   change c 235=_ at p8
   change c 236=_ at p9
   change c 237=_ at q0
   rw [z,A,B,I,G,H,S,p6,g0,g1,g2,p8,p9,q0]
   clear z A B I G H S p6 g0 g1 g2 p8 p9 q0 P
   have r:=Zh O;have t:=Zh T;have m:=Zh J
   clear O T J
   by_cases b3:j<n
   case pos=>
    have m8:(j:Int)<(n:Int):=by omega
    have E0:(0:Int)<=(j:Int):=by omega
    obtain⟨x,W,f4⟩:=i9.out b3
    have s4:(j+1) % n<n:=Nat.mod_lt _ (by omega)
    obtain⟨q,K,c0⟩:=i9.out s4
    have t5:=n8.out j b3
    rw [W,K,Int.toNat_natCast] at t5
    obtain⟨u,s2⟩:∃ u,(j+1) % n=u:=⟨_,rfl⟩
    have I7:(((j:Int)+1).tmod (n:Int))=(u:Int):=by rw [<-s2];rfl
    rw [s2] at s4 K
    have k2:=m.out.cell_some (i8.out j b3) id
    have y5:=m.out.cell_some (i8.out u s4) id
    rw [W] at k2
    rw [K] at y5
    have F9:=Fg (Qe l6.out m.out) F.out f4 t5
    obtain⟨j6,f9⟩:=n4.out b3
    obtain⟨A3,t8⟩:=B0.out b3
    rw [W] at f9 t8
    have n5:=Zh j6;have u2:=Zh f9;have o3:=Zh A3;have v4:=Zh t8
    have G0:(0:Int)<=(x:Int):=by omega
    have G1:(x:Int)<(f:Int):=by omega
    have E6:(0:Int)<=(u:Int):=by omega
    have E7:(u:Int)<(n:Int):=by omega
    have m6:(n:Int)≠0:=by omega
    have H6:((n:Int)=0)=False:=by simp;omega
    have J6:((q:Int) !=(q:Int))=false:=by simp
    clear j6 f9 A3 t8 W K t5 s2
    go_upto_region 44 with (fail)
    go_quiet (fail)
    have c7:Ext L (L.drewN nq):=(Qa.refl _ L).drewN _
    have O:=Qe r.out c7
    have T:=Qe t.out c7
    have J:=m.out.trans c7
    obtain⟨B7,x5⟩:∃ D,L.drewN nq=D:=⟨_,rfl⟩
    rw [x5] at O T J ⊢
    have j3:=Gt O f4 (Fp f4) (Kg _ _ _)
    have k4:=Td (Xw sh) (Ua sh (g+p)+j) x
    have D5:=O.frozenAt x
    have o:=Y6 O x (.int .i64 ((X9 (Xw sh) (Ua sh (g+p)+j) x:Nat)+1))
    rw [<-Q39 n5.out u2.out] at o
    have c8:=ownsRow_setCell_other T (a:=⟨E,x,none⟩) (by simp [Value.ownBlock];have:=l3.out;omega) (.int .i64 ((X9 (Xw sh) (Ua sh (g+p)+j) x:Nat)+1))
    have a2:=J.setCell (p:=⟨E,x,none⟩) (.inl (by rw [e4.out];exact n6.out)) (.int .i64 ((X9 (Xw sh) (Ua sh (g+p)+j) x:Nat)+1))
    have s1:X9 (Xw sh) (Ua sh (g+p)+j) x<=8192:=by have:=l0.out;have:=n5.out;omega
    obtain⟨a6,f2⟩:∃ a6,X9 (Xw sh) (Ua sh (g+p)+j) x=a6:=⟨_,rfl⟩
    rw [f2] at j3 s1 o c8 a2
    obtain⟨G6,C0⟩:∃ D,B7.setCell ⟨E,x,none⟩ (.int .i64 ((a6:Int)+1))=D:=⟨_,rfl⟩
    rw [C0] at o c8 a2
    have C7:=Gt c8 f4 (Fp f4) (Kg _ _ _)
    have E5:=Td ((Z6 sh).flatten) (Wu sh p+j) x
    have I0:=c8.frozenAt x
    have d9:=Y6 c8 x (.int .i64 ((X9 ((Z6 sh).flatten) (Wu sh p+j) x:Nat)+1))
    rw [<-Q39 o3.out v4.out] at d9
    have q9:=ownsRow_setCell_other o (a:=⟨M,x,none⟩) (by simp [Value.ownBlock];exact l3.out) (.int .i64 ((X9 ((Z6 sh).flatten) (Wu sh p+j) x:Nat)+1))
    have g9:=a2.setCell (p:=⟨M,x,none⟩) (.inl (by rw [e4.out];exact u3.out)) (.int .i64 ((X9 ((Z6 sh).flatten) (Wu sh p+j) x:Nat)+1))
    have E4:X9 ((Z6 sh).flatten) (Wu sh p+j) x<=8192:=by have:=l0.out;have:=o3.out;have:=Qln sh;omega
    obtain⟨J7,t1⟩:∃ a6,X9 ((Z6 sh).flatten) (Wu sh p+j) x=a6:=⟨_,rfl⟩
    rw [t1] at C7 E4 d9 q9 g9
    have o6:=Zh d9;have A7:=Zh q9;have n9:=Zh g9
    clear o c8 a2 d9 q9 g9 f2 t1 k4 E5 O T J r t m n5 u2 o3 v4 c7 x5 k2 y5 F9
    go_wp2
    first
     | exact⟨⟨j+1,by omega,by first | rfl | trivial,⟨rfl,rfl,rfl,rfl,rfl,rfl,rfl,rfl,rfl,rfl,rfl,rfl,rfl,rfl,rfl⟩,A7.out,o6.out,n9.out⟩,by simp [intOf];omega⟩
   obtain rfl:j=n:=by omega
   have m8:¬ (j:Int)<(j:Int):=by omega
   have R:=r.out
   have s7:=t.out
   rw [<-i7.out] at R
   rw [<-B1.out] at s7
   have f5:=Zh R;have w0:=Zh s7
   clear R s7 r t
   go_wp2
   first
    | exact⟨⟨p+1,by omega,by first | rfl | trivial,⟨rfl,rfl,rfl,rfl,rfl,rfl,rfl,by rw [f6.out];rfl,rfl,rfl,rfl⟩,f5.out,w0.out,m.out⟩,by simp [intOf];omega⟩
    | exact⟨⟨p+1,by omega,by rw [f6.out];simp,f5.out,w0.out,m.out⟩,by simp [intOf];omega⟩
  obtain rfl:p=a8:=by omega
  have E9:¬ (p:Int)<(p:Int):=by omega
  have i0:=r.out
  have r2:=t.out
  rw [<-j2.out,<-l4.out,<-Rj,Qj2] at i0
  rw [<-l4.out,Qib] at r2
  have A8:=Zh i0;have B3:=Zh r2
  clear i0 r2 r t o2 l0 n6 u3 l3 e4
  go_wp2
  refine wp_loop (fun a L=>∃(i:Nat),i<=f/\a.defers=[]/\(a.tmps.size=326/\a.tmps.getD 3 undef=.int .i64 f/\a.tmps.getD 4 undef=.slice (some ⟨C,0,none⟩) f f/\a.tmps.getD 5 undef=.slice (some ⟨b6,0,none⟩) f f/\a.tmps.getD 7 undef=.slice k0 g g8/\a.tmps.getD 11 undef=.slice (some ⟨E,0,none⟩) f f/\a.tmps.getD 12 undef=.slice (some ⟨M,0,none⟩) f f/\a.tmps.getD 23 undef=.int .i64 (Ry sh i)/\a.tmps.getD 270 undef=.int .i64 f/\a.tmps.getD 271 undef=.int .i64 i)/\Ext Z L)
   (fun a _=>f - (intOf (a.tmps.getD 271 undef)).toNat) ?_ ?_
  ·exact⟨0,by omega,rfl,⟨rfl,rfl,rfl,rfl,rfl,rfl,rfl,rfl,rfl,rfl⟩,Qa.refl _ _⟩
  clear E9
  rintro⟨c1,_⟩ L ⟨i,I2,b7,⟨P,z,A,B,I,G,H,p7,q1,q2⟩,x0⟩
  subst b7
  obtain⟨c2,Q⟩:=Qq P
  obtain⟨c,rfl⟩:∃ x,x=c2:=⟨_,rfl⟩
  have b9:c1=#[c 0,c 1,c 2,c 3,c 4,c 5,c 6,c 7,c 8,c 9,c 10,c 11,c 12,c 13,c 14,c 15,c 16,c 17,c 18,c 19,c 20,c 21,c 22,c 23,c 24,c 25,c 26,c 27,c 28,c 29,c 30,c 31,c 32,c 33,c 34,c 35,c 36,c 37,c 38,c 39,c 40,c 41,c 42,c 43,c 44,c 45,c 46,c 47,c 48,c 49,c 50,c 51,c 52,c 53,c 54,c 55,c 56,c 57,c 58,c 59,c 60,c 61,c 62,c 63,c 64,c 65,c 66,c 67,c 68,c 69,c 70,c 71,c 72,c 73,c 74,c 75,c 76,c 77,c 78,c 79,c 80,c 81,c 82,c 83,c 84,c 85,c 86,c 87,c 88,c 89,c 90,c 91,c 92,c 93,c 94,c 95,c 96,c 97,c 98,c 99,c 100,c 101,c 102,c 103,c 104,c 105,c 106,c 107,c 108,c 109,c 110,c 111,c 112,c 113,c 114,c 115,c 116,c 117,c 118,c 119,c 120,c 121,c 122,c 123,c 124,c 125,c 126,c 127,c 128,c 129,c 130,c 131,c 132,c 133,c 134,c 135,c 136,c 137,c 138,c 139,c 140,c 141,c 142,c 143,c 144,c 145,c 146,c 147,c 148,c 149,c 150,c 151,c 152,c 153,c 154,c 155,c 156,c 157,c 158,c 159,c 160,c 161,c 162,c 163,c 164,c 165,c 166,c 167,c 168,c 169,c 170,c 171,c 172,c 173,c 174,c 175,c 176,c 177,c 178,c 179,c 180,c 181,c 182,c 183,c 184,c 185,c 186,c 187,c 188,c 189,c 190,c 191,c 192,c 193,c 194,c 195,c 196,c 197,c 198,c 199,c 200,c 201,c 202,c 203,c 204,c 205,c 206,c 207,c 208,c 209,c 210,c 211,c 212,c 213,c 214,c 215,c 216,c 217,c 218,c 219,c 220,c 221,c 222,c 223,c 224,c 225,c 226,c 227,c 228,c 229,c 230,c 231,c 232,c 233,c 234,c 235,c 236,c 237,c 238,c 239,c 240,c 241,c 242,c 243,c 244,c 245,c 246,c 247,c 248,c 249,c 250,c 251,c 252,c 253,c 254,c 255,c 256,c 257,c 258,c 259,c 260,c 261,c 262,c 263,c 264,c 265,c 266,c 267,c 268,c 269,c 270,c 271,c 272,c 273,c 274,c 275,c 276,c 277,c 278,c 279,c 280,c 281,c 282,c 283,c 284,c 285,c 286,c 287,c 288,c 289,c 290,c 291,c 292,c 293,c 294,c 295,c 296,c 297,c 298,c 299,c 300,c 301,c 302,c 303,c 304,c 305,c 306,c 307,c 308,c 309,c 310,c 311,c 312,c 313,c 314,c 315,c 316,c 317,c 318,c 319,c 320,c 321,c 322,c 323,c 324,c 325]:=Q
  clear Q
  subst b9
  change c 3=_ at z
  change c 4=_ at A
  change c 5=_ at B
  change c 7=_ at I
  change c 11=_ at G
  change c 12=_ at H
  change c 23=_ at p7
  change c 270=_ at q1
  change c 271=_ at q2
  rw [z,A,B,I,G,H,p7,q1,q2]
  clear z A B I G H p7 q1 q2 P
  have X:=Zh x0
  clear x0
  by_cases f1:i<f
  case pos=>
   have e8:(i:Int)<(f:Int):=by omega
   have B8:(0:Int)<=(i:Int):=by omega
   have m7:i<sh.length:=by rw [F.out];exact f1
   have G3:-1<=sh.getD i (-1):=by
    rw [List.getD_eq_getElem?_getD,List.getElem?_eq_getElem m7]
    exact(Y.out.2 _ (List.getElem_mem m7)).1
   have C9:=Fg (Qe l6.out (m.out.trans X.out)) F.out f1 rfl (d:=-1)
   have C8:=Gt (Qe v3.out (m.out.trans X.out)) f1 (Rt f1) (Rw _ _ _)
   have j3:=Gt (Qe A8.out X.out) f1 (Fp f1) (Kg _ _ _)
   have b2:=Gt (Qe B3.out X.out) f1 (Fp f1) (Kg _ _ _)
   rw [Q9w] at j3 b2
   have V:=Qfy Y.out m7
   have z6:=Qgx Y.out i
   have o:=Qet sh i
   have F7:=Qao sh i
   rw [Q04] at o
   have t6:=Q1g (sh:=sh) (j:=i)
   rw [F.out] at o t6
   rw [<-t6] at V
   unfold Ux at V o
   obtain⟨q,K⟩:∃ q,sh.getD i (-1)=q:=⟨_,rfl⟩
   obtain⟨a,x9⟩:∃ a,Ue sh f i=a:=⟨_,rfl⟩
   obtain⟨d2,y7⟩:∃ d2,(Xw sh).countP (fun x=>decide (x=(i:Int)))=d2:=⟨_,rfl⟩
   obtain⟨a6,f2⟩:∃ a6,((Z6 sh).flatten).countP (fun x=>decide (x=(i:Int)))=a6:=⟨_,rfl⟩
   rw [K] at G3 C9 V o
   rw [x9] at C8 V o
   rw [y7] at j3 V
   rw [f2] at b2 z6
   have F3:decide ((a6:Int) > 1)=false:=by rw [decide_eq_false_iff_not];omega
   have t1:decide ((1:Int)<(a6:Int))=false:=F3
   obtain⟨u0,k8⟩:∃ k,Ry sh i=k:=⟨_,rfl⟩
   obtain⟨t9,t3⟩:∃ k,Ry sh (i+1)=k:=⟨_,rfl⟩
   rw [k8,t3] at o
   rw [k8] at F7 ⊢
   have e2:=Zh t3
   clear K x9 y7 f2 z6 k8 t3 t6 m7
   by_cases z9:0<=q/\q≠(i:Int)
   ·obtain⟨A0,A2⟩:=z9
    have H7:0<d2:=by
     rw [decide_eq_true (show q≠-1 by omega),decide_eq_true A2] at V
     exact of_decide_eq_true V.symm
    have r7:decide ((d2:Int) > 0)=true:=by rw [decide_eq_true_iff];omega
    have y6:decide ((0:Int)<(d2:Int))=true:=r7
    rw [decide_eq_true (show q≠-1 by omega),decide_eq_true A2] at o
    clear V
    by_cases y0:a=0
    ·subst y0
     have f3:t9=u0+1:=by rw [o];rfl
     subst f3
     clear o
     go_upto_region 57 with (fail)
     go_quiet (fail)
     go_wp2
     first
      | exact⟨⟨i+1,by omega,by first | rfl | trivial,⟨rfl,rfl,rfl,rfl,rfl,rfl,rfl,by rw [e2.out];rfl,rfl,rfl⟩,X.out.drewN _⟩,by simp [intOf];omega⟩
      | exact⟨⟨i+1,by omega,by rw [e2.out];simp,X.out.drewN _⟩,by simp [intOf];omega⟩
    ·have f3:t9=u0:=by rw [o,if_neg];rfl;simp [y0]
     subst f3
     have C3:¬ (a:Int)=0:=by omega
     have H4:((a:Int) == 0)=false:=by simpa using C3
     clear o
     go_upto_region 57 with (fail)
     go_quiet (fail)
     go_wp2
     first
      | exact⟨⟨i+1,by omega,by first | rfl | trivial,⟨rfl,rfl,rfl,rfl,rfl,rfl,rfl,by rw [e2.out];rfl,rfl,rfl⟩,X.out.drewN _⟩,by simp [intOf];omega⟩
      | exact⟨⟨i+1,by omega,by rw [e2.out];simp,X.out.drewN _⟩,by simp [intOf];omega⟩
   ·have z3:(decide (q≠-1) && decide (q≠(i:Int)))=false:=by
     rw [Bool.and_eq_false_iff,decide_eq_false_iff_not,decide_eq_false_iff_not]
     omega
    rw [z3] at V o
    have f3:t9=u0:=by rw [o];rfl
    subst f3
    rw [Bool.false_or] at V
    obtain⟨d0,i2⟩:∃ b,decide (0<d2)=b:=⟨_,rfl⟩
    rw [i2] at V
    have C2:decide ((a:Int) > 0)=d0:=by rw [<-V,Bool.eq_iff_iff,decide_eq_true_iff,decide_eq_true_iff];omega
    have D4:decide ((d2:Int) > 0)=d0:=by rw [<-i2,Bool.eq_iff_iff,decide_eq_true_iff,decide_eq_true_iff];omega
    have H2:decide ((0:Int)<(a:Int))=d0:=C2
    have H8:decide ((0:Int)<(d2:Int))=d0:=D4
    have H5:(d0 != d0)=false:=by cases d0 <;> rfl
    have H3:decide (0<a)=d0:=V
    have H9:decide (0<d2)=d0:=i2
    clear o V i2 z3
    have n3:q<0\/q=(i:Int):=by omega
    clear z9
    rcases n3 with n3 | n3
    ·go_upto_region 57 with (fail)
     go_quiet (fail)
     go_wp2
     first
      | exact⟨⟨i+1,by omega,by first | rfl | trivial,⟨rfl,rfl,rfl,rfl,rfl,rfl,rfl,by rw [e2.out];rfl,rfl,rfl⟩,X.out.drewN _⟩,by simp [intOf];omega⟩
      | exact⟨⟨i+1,by omega,by rw [e2.out];simp,X.out.drewN _⟩,by simp [intOf];omega⟩
    ·subst n3
     go_upto_region 57 with (fail)
     go_quiet (fail)
     go_wp2
     first
      | exact⟨⟨i+1,by omega,by first | rfl | trivial,⟨rfl,rfl,rfl,rfl,rfl,rfl,rfl,by rw [e2.out];rfl,rfl,rfl⟩,X.out.drewN _⟩,by simp [intOf];omega⟩
      | exact⟨⟨i+1,by omega,by rw [e2.out];simp,X.out.drewN _⟩,by simp [intOf];omega⟩
  obtain rfl:i=f:=by omega
  have e8:¬ (i:Int)<(i:Int):=by omega
  have y8:Ry sh i=g:=by have:=Q6t sh;rw [F.out,j2.out] at this;exact this
  rw [y8]
  have w6:=Zh (A6.out.trans (m.out.trans X.out))
  clear y8
  go_wp2_with fail
  refine(Jk L (B5.out.keep w6.out id)).mono ?_
  rintro e K1 ⟨rfl,x1⟩
  have B6:=Zh (w6.out.trans x1)
  clear x1
  go_wp2
  go_ret
  exact⟨rfl,B6.out⟩
end Go.Proofs.YtejenndedjabhaaGreatDoor
