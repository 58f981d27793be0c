/-
 Numbers: products, quotients, divisors.
-/
import Derived.Test.YtoeiphicmcndlaaGreatDoorANum
import Derived.Lib.BitFns
namespace Go.Proofs.YtoeiphicmcndlaaGreatDoor
set_option linter.unusedVariables false
set_option linter.unusedSimpArgs false
open Go.RowKit
def pl(l:List Nat)(k i:Nat):Nat:=lo (l.drop k) i
theorem pl_zero(l:List Nat)(k:Nat):pl l k 0=0:=N4 _
theorem X5(l:List Nat)(k i:Nat):pl l k (i+1)=pl l k i+dg l (k+i)*pw i:=by
 rw[pl,La,Qq];rfl
theorem pl_ext{a b:List Nat}{k i:Nat}(h:∀j,k≤j→j<k+i→dg a j=dg b j):pl a k i=pl b k i:=
 lo_ext fun j hj=>by rw[Qq,Qq];exact h _ Zo Zo
theorem X6{l:List Nat}{k i d:Nat}(h:k+i<l.length):pl (l.set (k+i) d) k (i+1)=pl l k i+d*pw i:=by
 rw[X5,Q8,if_pos ⟨rfl,h⟩]
 congr 1
 exact pl_ext fun j h1 h2=>by rw[Q8,if_neg Zo]
theorem pl_lt{l:List Nat}(h:N8 l)(k i:Nat):pl l k i<pw i:=Fj (h.drop k) i
theorem pl_val{l:List Nat}{k i:Nat}(h:∀j,k+i≤j→dg l j=0):val (l.drop k)=pl l k i:=
 val_lo fun j hj=>by rw[Qq];exact h _ Zo
theorem guess_dec{top u2 v1 v2 p ru rv q r U V:Nat}(hU:U=(top*4294967296+u2)*p+ru)(hV:V=(v1*4294967296+v2)*p+rv)(hru:ru<p)
 (hUV:U<4294967296*V) (hq:q*v1+r=top) (h:4294967296≤q∨r*4294967296+u2<q*v2):U<q*V:=by
 rcases h with h|h
 ·exact Nat.lt_of_lt_of_le hUV (Nat.mul_le_mul_right _ h)
 ·have h1:top*4294967296+u2+1≤q*(v1*4294967296+v2):=by
   rw[Nat.mul_add,←Nat.mul_assoc]
   omega
  have h2:(top*4294967296+u2+1)*p≤q*(v1*4294967296+v2)*p:=Nat.mul_le_mul_right _ h1
  rw[hV,hU,Nat.mul_add,←Nat.mul_assoc]
  rw[Nat.add_mul _ 1]at h2
  omega
theorem guess_end{top u2 v1 v2 p ru rv q r U V:Nat}(hU:U=(top*4294967296+u2)*p+ru)(hV:V=(v1*4294967296+v2)*p+rv)(hrv:rv<p)(hv1:1≤v1)
 (hq:q*v1+r=top) (hq2:q<4294967296) (h:q*v2≤r*4294967296+u2):q*V≤U+V:=by
 have h1:q*(v1*4294967296+v2)≤top*4294967296+u2:=by
  rw[Nat.mul_add,←Nat.mul_assoc];omega
 have h2:q*(v1*4294967296+v2)*p≤(top*4294967296+u2)*p:=Nat.mul_le_mul_right _ h1
 have h3:q*rv≤4294967296*p:=Nat.mul_le_mul Zo Zo
 have h4:1*4294967296*p≤v1*4294967296*p:=Nat.mul_le_mul_right _ (Nat.mul_le_mul_right _ hv1)
 have h5:V=v1*4294967296*p+v2*p+rv:=by rw[hV,Nat.add_mul]
 have h6:q*V=q*(v1*4294967296+v2)*p+q*rv:=by rw[hV,Nat.mul_add,←Nat.mul_assoc]
 omega
theorem guess_init{top u2 v1 v2 p ru rv U V:Nat}(hU:U=(top*4294967296+u2)*p+ru)(hV:V=(v1*4294967296+v2)*p+rv)(hru:ru<p)(hrv:rv<p)(hu2:u2<4294967296)(hv2:v2<4294967296)
 (hv1:2147483648≤v1) (hUV:U<4294967296*V):
 U<(top/v1+1)*V∧top/v1*v1+top%v1=top∧top<v1*4294967296+4294967296∧top/v1≤4294967297:=by
 have e:top/v1*v1+top%v1=top:=Nat.div_add_mod' top v1
 have hp:0<p:=by omega
 have h0:top<v1*4294967296+4294967296:=by
  have h1:top*4294967296*p≤U:=by rw[hU,Nat.add_mul];omega
  have h2:4294967296*V<4294967296*((v1*4294967296+4294967296)*p):=by
   apply Nat.mul_lt_mul_of_pos_left _ Zo
   have h3:(v1*4294967296+v2+1)*p≤(v1*4294967296+4294967296)*p:=Nat.mul_le_mul_right _ Zo
   rw[Nat.add_mul _ 1]at h3
   omega
  have h4:(4294967296*p)*top<(4294967296*p)*(v1*4294967296+4294967296):=by grind
  exact Nat.lt_of_mul_lt_mul_left h4
 refine⟨?_,e,h0,?_⟩
 ·have h1:top+1≤(top/v1+1)*v1:=by
   have:=Nat.mod_lt top (show v1>0 by omega)
   rw[Nat.add_mul];omega
  have h2:(top+1)*(4294967296*p)≤(top/v1+1)*v1*(4294967296*p):=Nat.mul_le_mul_right _ h1
  have h3:(top/v1+1)*V=(top/v1+1)*v1*(4294967296*p)+(top/v1+1)*(v2*p+rv):=by rw[hV];grind
  have h4:(u2+1)*p≤4294967296*p:=Nat.mul_le_mul_right _ Zo
  have h5:U=top*(4294967296*p)+u2*p+ru:=by rw[hU];grind
  rw[Nat.add_mul]at h2 h4
  omega
 ·have:top/v1<4294967298:=by
   rw[Nat.div_lt_iff_lt_mul Zo];omega
  omega
def Zy(U V q:Nat):Prop:=q<4294967296∧U<(q+1)*V∧q*V≤U+V
theorem two_lists{l:List Nat}{n:Nat}:lo l (n+2)=(dg l (n+1)*4294967296+dg l n)*pw n+lo l n:=by
 rw[show n+2=(n+1)+1 by omega,La,La,M3]
 grind
theorem three_lists{l:List Nat}{k n:Nat}:pl l k (n+3)=((dg l (k+(n+2))*4294967296+dg l (k+(n+1)))*4294967296+dg l (k+n))*pw n+pl l k n:=by
 rw[show n+3=((n+1)+1)+1 by omega,X5,X5,X5]
 simp only[M3]
 grind
theorem take_step{U P v:List Nat}{k i q c y d y':Nat}(hk:k+i<U.length)(hd:dg U (k+i)=dg P (k+i))
 (h:pl U k i+q*lo v i=pl P k i+(y+c)*pw i) (hdd:d+(c+q*dg v i)%4294967296+y=dg U (k+i)+y'*4294967296):
 pl (U.set (k+i) d) k (i+1)+q*lo v (i+1)=pl P k (i+1)+(y'+(c+q*dg v i)/4294967296)*pw (i+1):=by
 rw[X6 hk,La,X5,M3,←hd]
 have e:=Nat.div_add_mod (c+q*dg v i) 4294967296
 generalize (c+q*dg v i)%4294967296=m at e hdd
 generalize (c+q*dg v i)/4294967296=t at e ⊢
 have e2:(d+m+y)*pw i=(dg U (k+i)+y'*4294967296)*pw i:=by rw[hdd]
 have e3:(4294967296*t+m)*pw i=(c+q*dg v i)*pw i:=by rw[e]
 grind
theorem take_end{U P v:List Nat}{k n q c y d y':Nat}(hk:k+n<U.length)(hd:dg U (k+n)=dg P (k+n))
 (h:pl U k n+q*lo v n=pl P k n+(y+c)*pw n) (hdd:d+c+y=dg U (k+n)+y'*4294967296):
 pl (U.set (k+n) d) k (n+1)+q*lo v n=pl P k (n+1)+y'*pw (n+1):=by
 rw[X6 hk,X5,M3,←hd]
 have e2:(d+c+y)*pw n=(dg U (k+n)+y'*4294967296)*pw n:=by rw[hdd]
 grind
theorem back_step{U P v:List Nat}{k i y:Nat}(hk:k+i<U.length)(hd:dg U (k+i)=dg P (k+i))
 (h:pl U k i+y*pw i=pl P k i+lo v i):
 pl (U.set (k+i) ((y+(dg U (k+i)+dg v i))%4294967296)) k (i+1)+(y+(dg U (k+i)+dg v i))/4294967296*pw (i+1)=pl P k (i+1)+lo v (i+1):=by
 rw[X6 hk,La,X5,M3,←hd]
 have e:=Nat.div_add_mod (y+(dg U (k+i)+dg v i)) 4294967296
 generalize (y+(dg U (k+i)+dg v i))%4294967296=m at e ⊢
 generalize (y+(dg U (k+i)+dg v i))/4294967296=t at e ⊢
 grind
theorem back_end{U P v:List Nat}{k n y:Nat}(hk:k+n<U.length)(hd:dg U (k+n)=dg P (k+n))
 (h:pl U k n+y*pw n=pl P k n+lo v n):
 ∃z,pl (U.set (k+n) ((dg U (k+n)+y)%4294967296)) k (n+1)+z*pw (n+1)=pl P k (n+1)+lo v n:=by
 refine⟨(dg U (k+n)+y)/4294967296,?_⟩
 rw[X6 hk,X5,M3,←hd]
 have e:=Nat.div_add_mod (dg U (k+n)+y) 4294967296
 generalize (dg U (k+n)+y)%4294967296=m at e ⊢
 generalize (dg U (k+n)+y)/4294967296=t at e ⊢
 grind
theorem div_exact{P P' V q:Nat}(hg:Zy P V q)(h:P'+q*V=P):P'<V:=by
 have h1:=hg.2.1
 rw[Nat.add_mul]at h1;omega
theorem div_back{P P' P2 V q B z:Nat}(hg:Zy P V q)(hP:P'<B)(hPB:P<B)(hP2:P2<B)(h:P'+q*V=P+B)(h2:P2+z*B=P'+V):
 1≤q∧P2<V∧P2+(q-1)*V=P:=by
 have h1:=hg.2.2
 have hq:1≤q:=by
  rcases Nat.eq_zero_or_pos q with e|e
  ·subst e;omega
  ·exact e
 obtain⟨m,rfl⟩:∃m,q=m+1:=⟨q-1,by omega⟩
 rw[Nat.add_mul]at h h1
 have hz:z=1:=by
  rcases Nat.lt_trichotomy z 1 with e|e|e
  ·have:z=0:=by omega
   subst this;omega
  ·exact e
  ·have:2*B≤z*B:=Nat.mul_le_mul_right _ e
   omega
 subst hz
 rw[Nat.add_sub_cancel]
 omega
theorem div_round{U U' Q:List Nat}{k n q V A:Nat}(hkQ:k<Q.length)(hz:∀j,k+(n+1)≤j→dg U j=0)(hz':∀j,k+(n+1)≤j→dg U' j=0)(hlow:∀j,j<k→dg U' j=dg U j)
 (hP:pl U' k (n+1)+q*V=pl U k (n+1)) (hI:val (Q.drop (k+1))*pw (k+1)*V+val U=A):
 val ((Q.set k q).drop k)*pw k*V+val U'=A:=by
 have h1:=Fk U k
 have h2:=Fk U' k
 rw[pl_val hz,←lo_ext hlow]at h1
 rw[pl_val hz']at h2
 have h3:val ((Q.set k q).drop (k+1))=val (Q.drop (k+1)):=Et fun j=>by
  rw[Qq,Qq,Q8,if_neg Zo]
 rw[Tt (by rw[List.length_set];exact hkQ),h3,Q8,if_pos ⟨rfl,hkQ⟩]
 rw[M3]at hI
 have e:(pl U' k (n+1)+q*V)*pw k=pl U k (n+1)*pw k:=by rw[hP]
 grind
theorem Ir:Lib.bitLen 0=0:=by decide
theorem C4:∀(f x:Nat),x<2 ^ f→f≤64→x≠0→1≤Lib.bitLen x∧2 ^ (Lib.bitLen x-1)≤x∧x<2 ^ Lib.bitLen x
 |0,x,h,_,h0=>by simp at h;omega
 | f+1,x,h,hf,h0=>by
  have h64:x<2 ^ 64:=Nat.lt_of_lt_of_le h (Nat.pow_le_pow_right Zo hf)
  rw[Lib.bitLen_half x h0 h64]
  by_cases h2:x/2=0
  ·have hx:x=1:=by omega
   subst hx
   rw[show 1/2=0 from rfl,Ir]
   decide
  ·obtain⟨h3,h4,h5⟩:=C4 f (x/2) (by rw[Nat.pow_succ]at h;omega) Zo h2
   refine⟨by omega,?_,?_⟩
   ·rw[show 1+Lib.bitLen (x/2)-1=(Lib.bitLen (x/2)-1)+1 by omega,Nat.pow_succ];omega
   ·rw[Nat.add_comm,Nat.pow_succ];omega
def bitsN(v:Nat):Nat:=if v=0 then 0 else Nat.log2 v+1
theorem bits_unique{v k:Nat}(h1:2 ^ k≤v)(h2:v<2 ^ (k+1)):Nat.log2 v=k:=by
 have h0:v≠0:=by have:=Rc k;omega
 have h3:=Nat.log2_self_le h0
 have h4:= @Nat.lt_log2_self v
 rcases Nat.lt_trichotomy (Nat.log2 v) k with h|h|h
 ·have:=Nat.pow_le_pow_right (show 2>0 by omega) (show Nat.log2 v+1≤k by omega);omega
 ·exact h
 ·have:=Nat.pow_le_pow_right (show 2>0 by omega) (show k+1≤Nat.log2 v by omega);omega
theorem W7{l:List Nat}{n:Nat}(hd:N8 l)(hl:l.length=n+1)(h0:dg l n≠0):
 bitsN (val l)=32*n+Lib.bitLen (dg l n):=by
 have h1:=hd n
 obtain⟨h2,h3,h4⟩:=C4 32 (dg l n) h1 Zo h0
 have h5:val l=lo l n+dg l n*pw n:=by rw[←La,M6 Zo]
 have h6:=Fj hd n
 have h7:2 ^ (Lib.bitLen (dg l n)-1)*pw n≤dg l n*pw n:=Nat.mul_le_mul_right _ h3
 have h8:(dg l n+1)*pw n≤2 ^ Lib.bitLen (dg l n)*pw n:=Nat.mul_le_mul_right _ h4
 rw[Nat.add_mul]at h8
 have hp:=Xu n
 have e1:2 ^ (Lib.bitLen (dg l n)-1)*pw n=2 ^ (32*n+(Lib.bitLen (dg l n)-1)):=by rw[Sj,←Nat.pow_add];congr 1;omega
 have e2:2 ^ Lib.bitLen (dg l n)*pw n=2 ^ (32*n+(Lib.bitLen (dg l n)-1)+1):=by rw[Sj,←Nat.pow_add];congr 1;omega
 have hv:val l≠0:=by
  have:=Rc (32*n+(Lib.bitLen (dg l n)-1));omega
 rw[bitsN,if_neg hv,bits_unique (k:=32*n+(Lib.bitLen (dg l n)-1)) Zo Zo]
 omega
theorem norm_shift{l:List Nat}{n:Nat}(hd:N8 l)(hl:l.length=n+1)(h0:dg l n≠0):
 2147483648*pw n≤val l*2 ^ (32-Lib.bitLen (dg l n))∧val l*2 ^ (32-Lib.bitLen (dg l n))<pw (n+1):=by
 have h1:=hd n
 obtain⟨h2,h3,h4⟩:=C4 32 (dg l n) h1 Zo h0
 have hle:Lib.bitLen (dg l n)≤32:=by
  rcases Nat.lt_or_ge 32 (Lib.bitLen (dg l n))with h|h
  ·have:=Nat.pow_le_pow_right (show 2>0 by omega) (show 32≤Lib.bitLen (dg l n)-1 by omega)
   have e:(2:Nat) ^ 32=4294967296:=by decide
   omega
  ·exact h
 have h5:val l=lo l n+dg l n*pw n:=by rw[←La,M6 Zo]
 have h6:=Fj hd n
 have h7:2 ^ (Lib.bitLen (dg l n)-1)*pw n≤dg l n*pw n:=Nat.mul_le_mul_right _ h3
 have h8:(dg l n+1)*pw n≤2 ^ Lib.bitLen (dg l n)*pw n:=Nat.mul_le_mul_right _ h4
 rw[Nat.add_mul]at h8
 have hp:=Xu n
 have hv1:2 ^ (Lib.bitLen (dg l n)-1)*pw n≤val l:=by omega
 have hv2:val l<2 ^ Lib.bitLen (dg l n)*pw n:=by omega
 constructor
 ·have h9:2 ^ (Lib.bitLen (dg l n)-1)*pw n*2 ^ (32-Lib.bitLen (dg l n))≤val l*2 ^ (32-Lib.bitLen (dg l n)):=Nat.mul_le_mul_right _ hv1
  have e:2 ^ (Lib.bitLen (dg l n)-1)*pw n*2 ^ (32-Lib.bitLen (dg l n))=2147483648*pw n:=by
   rw[Nat.mul_right_comm,←Nat.pow_add,show Lib.bitLen (dg l n)-1+(32-Lib.bitLen (dg l n))=31 by omega]
  omega
 ·have h9:val l*2 ^ (32-Lib.bitLen (dg l n))<2 ^ Lib.bitLen (dg l n)*pw n*2 ^ (32-Lib.bitLen (dg l n)):=Nat.mul_lt_mul_of_pos_right hv2 (Rc _)
  have e:2 ^ Lib.bitLen (dg l n)*pw n*2 ^ (32-Lib.bitLen (dg l n))=pw (n+1):=by
   rw[Nat.mul_right_comm,←Nat.pow_add,show Lib.bitLen (dg l n)+(32-Lib.bitLen (dg l n))=32 by omega,M3,Nat.mul_comm]
  omega
theorem Xi{x:Nat}(h:x<4294967296):Lib.bitLen x≤32:=Lib.bitLen_le x 32 Zo h
theorem top_digit{l:List Nat}{n:Nat}(hd:N8 l)(hl:l.length=n+1)(h:2147483648*pw n≤val l):2147483648≤dg l n:=by
 have h5:val l=lo l n+dg l n*pw n:=by rw[←La,M6 Zo]
 have h6:=Fj hd n
 rcases Nat.lt_or_ge (dg l n) 2147483648 with h1|h1
 ·have:(dg l n+1)*pw n≤2147483648*pw n:=Nat.mul_le_mul_right _ h1
  rw[Nat.add_mul]at this
  omega
 ·exact h1
theorem bitsN_zero{v:Nat}:bitsN v=0↔v=0:=by
 unfold bitsN;split<;>omega
def R9:List UInt8→Nat
 | []=>0
 |b::l=>(b.toNat-48)+10*R9 l
def Dc(l:List UInt8):Prop:=∀b∈l,48≤b.toNat∧b.toNat<58
def chr(d:Nat):UInt8:=UInt8.ofNat (48+d)
def decF:Nat→Nat→List UInt8
 |0,_=>[]
 |f+1,n=>if n=0 then []else chr (n%10)::decF f (n/10)
def decR(n:Nat):List UInt8:=decF n n
def Pw(n:Nat):List UInt8:=if n=0 then [48]else(decR n).reverse
theorem Uy{d:Nat}(h:d<10):(chr d).toNat=48+d:=by
 unfold chr
 rw[UInt8.toNat_ofNat']
 omega
theorem chr_of{b:UInt8}(h1:48≤b.toNat):chr (b.toNat-48)=b:=by
 unfold chr
 rw[show 48+(b.toNat-48)=b.toNat by omega]
 exact UInt8.ofNat_toNat
theorem decF_fuel:∀f g n,n≤f→n≤g→decF f n=decF g n
 |0,g,n,h,_=>by
  have:n=0:=by omega
  subst this
  cases g<;>simp[decF]
 |f+1,0,n,_,h=>by
  have:n=0:=by omega
  subst this
  simp[decF]
 |f+1,g+1,n,h1,h2=>by
  simp only[decF]
  split
  ·rfl
  ·rw[decF_fuel f g (n/10) Zo Zo]
theorem D7:decR 0=[]:=rfl
theorem Tn{n:Nat}(h:n≠0):decR n=chr (n%10)::decR (n/10):=by
 obtain⟨m,rfl⟩:∃m,n=m+1:=⟨n-1,by omega⟩
 unfold decR
 rw[decF,if_neg h,decF_fuel m ((m+1)/10) ((m+1)/10) Zo Zo]
theorem Dc.nil:Dc []:=fun _ h=>by cases h
theorem Dc.cons{b:UInt8}{l:List UInt8}(h1:48≤b.toNat∧b.toNat<58)(h:Dc l):Dc (b::l):=by
 intro x hx
 rcases List.mem_cons.1 hx with rfl|hx
 ·exact h1
 ·exact h x hx
theorem Dc.append{a b:List UInt8}(h1:Dc a)(h2:Dc b):Dc (a++b):=by
 intro x hx
 rcases List.mem_append.1 hx with hx|hx
 ·exact h1 x hx
 ·exact h2 x hx
theorem Dc.chr{d:Nat}(h:d<10):Dc [chr d]:=Dc.cons (by rw[Uy h];omega) Dc.nil
theorem Iq(a b:List UInt8):R9 (a++b)=R9 a+10 ^ a.length*R9 b:=by
 induction a with
 |nil=>simp[R9]
 |cons x l ih=>simp only[List.cons_append,R9,ih,List.length_cons,Nat.pow_succ];grind
theorem dval_one(b:UInt8):R9 [b]=b.toNat-48:=by simp[R9]
theorem decR_isD:∀n,Dc (decR n):=by
 intro n
 induction n using Nat.strongRecOn with
 | _ n ih=>
  by_cases h:n=0
  ·subst h;exact Dc.nil
  ·rw[Tn h]
   exact Dc.cons (by rw[Uy Zo];omega) (ih _ Zo)
theorem dval_decR:∀n,R9 (decR n)=n:=by
 intro n
 induction n using Nat.strongRecOn with
 |_ n ih=>
  by_cases h:n=0
  ·subst h;rfl
  ·rw[Tn h,R9,ih _ Zo,Uy Zo];omega
theorem H6{b:UInt8}{t:List UInt8}(h:t≠[]):(b::t).getLast? =t.getLast? :=by
 cases t with
 |nil=>exact absurd rfl h
 |cons c u=>exact List.getLast?_cons_cons
theorem dval_pos{l:List UInt8}(h:Dc l)(hl:l≠[])(h0:l.getLast? ≠some 48):R9 l≠0:=by
 induction l with
 |nil=>exact absurd rfl hl
 | cons b t ih=>
  by_cases ht:t=[]
  ·subst ht
   have hb:=h b Zs
   have:b≠48:=by intro e;subst e;simp at h0
   have h2:b.toNat≠48:=by intro e;exact this (UInt8.toNat_inj.1 e)
   rw[dval_one];omega
  ·have:=ih (fun x hx=>h x (by simp[hx])) ht (by rw[H6 ht]at h0;exact h0)
   rw[R9];omega
theorem dec_unique{l:List UInt8}(h:Dc l)(h0:l.getLast? ≠some 48):decR (R9 l)=l:=by
 induction l with
 |nil=>rfl
 |cons b t ih=>
  have hne:=dval_pos h Zs h0
  have hb:=h b Zs
  rw[Tn hne]
  rw[R9]
  have h1:(b.toNat-48+10*R9 t)%10=b.toNat-48:=by omega
  have h2:(b.toNat-48+10*R9 t)/10=R9 t:=by omega
  rw[h1,h2,chr_of hb.1]
  by_cases ht:t=[]
  ·subst ht;rfl
  ·rw[ih (fun x hx=>h x (by simp[hx])) (by rw[H6 ht]at h0;exact h0)]
theorem decR_last:∀n,(decR n).getLast? ≠some 48:=by
 intro n
 induction n using Nat.strongRecOn with
 | _ n ih=>
  by_cases h:n=0
  ·subst h;simp[D7]
  ·rw[Tn h]
   by_cases h2:n/10=0
   ·rw[h2,D7]
    intro e
    have e2:chr (n%10)=48:=by simpa using e
    have:=Uy (show n%10<10 by omega)
    rw[e2]at this
    have:n%10=0:=by simpa using this
    omega
   ·have:=ih (n/10) Zo
    rw[H6 (by rw[Tn h2];simp)]
    exact this
theorem decR_length{n k:Nat}(h:n<10 ^ k):(decR n).length≤k:=by
 induction k generalizing n with
 | zero => have:n=0:=by simpa using h
           subst this;simp[D7]
 | succ k ih=>
  by_cases h0:n=0
  ·subst h0;simp[D7]
  ·rw[Tn h0,List.length_cons]
   have:=ih (n:=n/10) (by rw[Nat.pow_succ]at h;omega)
   omega
theorem C0(n:Nat):Dc (Pw n):=by
 unfold Pw
 split
 ·exact Dc.cons Zd Dc.nil
 ·intro b hb
  exact decR_isD n b (List.mem_reverse.1 hb)
theorem two_le_ten(k:Nat):2 ^ k≤10 ^ k:=Nat.pow_le_pow_left Zo k
theorem dec_bound{d x a len n:Nat}(h:d+10 ^ len*x=a)(hx:1≤x)(ha:a<2 ^ (32*n)):len<32*n:=by
 have h1:10 ^ len*1≤10 ^ len*x:=Nat.mul_le_mul_left _ hx
 have h2:=two_le_ten len
 rcases Nat.lt_or_ge len (32*n)with h3|h3
 ·exact h3
 ·have:=Nat.pow_le_pow_right (show 2>0 by omega) h3
  omega
theorem dec_step{bs:List UInt8}{r k q a:Nat}(h:R9 bs+10 ^ bs.length*(r+10 ^ (k+1)*q)=a):
 R9 (bs++ [chr (r%10)])+10 ^ (bs++ [chr (r%10)]).length*(r/10+10 ^ k*q)=a:=by
 rw[Iq,dval_one,Uy Zo,List.length_append,List.length_singleton,Nat.pow_succ]
 rw[Nat.pow_succ]at h
 have e:=Nat.div_add_mod r 10
 rw[show 48+r%10-48=r%10 by omega]
 generalize r%10=x at e ⊢
 generalize r/10=y at e ⊢
 subst e
 rw[←h]
 grind
theorem dval_drop0(l:List UInt8):R9 (l++ [48])=R9 l:=by
 rw[Iq,dval_one];simp
def rdv(l:List UInt8):Nat:=R9 l.reverse
theorem rdv_snoc(l:List UInt8)(b:UInt8):rdv (l++ [b])=10*rdv l+(b.toNat-48):=by
 unfold rdv;rw[List.reverse_append];simp[R9];omega
def isDB(l:List UInt8):Bool:=l.all fun b=>decide (48≤b.toNat)&&decide (b.toNat<58)
theorem Bq(l:List UInt8):isDB l=true↔Dc l:=by
 simp[isDB,Dc,List.all_eq_true]
def Lp(l:List UInt8):Int:=
 if isDB l=false then 3 else if l=[]∨(l.head? =some 48∧1<l.length)then 3 else if 1000<l.length then 5 else 0
def O6(l:List UInt8):Nat:=if Lp l=0 then rdv l else 0
theorem parse_decS{n:Nat}(h:(Pw n).length≤1000):Lp (Pw n)=0∧O6 (Pw n)=n:=by
 have h1:isDB (Pw n)=true:=(Bq _).2 (C0 n)
 have h2:¬(Pw n=[]∨((Pw n).head? =some 48∧1<(Pw n).length)):=by
  unfold Pw
  by_cases h0:n=0
  ·simp[h0]
  ·rw[if_neg h0]
   have hl:=decR_last n
   have hne:decR n≠[]:=by rw[Tn h0];simp
   rintro(h3|⟨h3,_⟩)
   ·exact hne (by simpa using h3)
   ·rw[List.head?_reverse]at h3;exact hl h3
 have h3:Lp (Pw n)=0:=by
  unfold Lp
  rw[if_neg (by simp[h1]),if_neg h2,if_neg Zo]
 refine⟨h3,?_⟩
 unfold O6
 rw[if_pos h3]
 unfold Pw rdv
 split
 ·subst_vars;rfl
 ·rw[List.reverse_reverse,dval_decR]
theorem decS_parse{l:List UInt8}(h:Lp l=0):Pw (O6 l)=l∧Dc l∧l.length≤1000∧l≠[]:=by
 have hE:=h
 unfold Lp at h
 split at h
 ·omega
 ·rename_i h1
  split at h
  ·omega
  ·rename_i h2
   split at h
   ·omega
   ·rename_i h3
    have hd:Dc l:=(Bq l).1 (by simpa using h1)
    have hne:l≠[]:=fun e=>h2 (Or.inl e)
    refine⟨?_,hd,by omega,hne⟩
    unfold O6
    rw[if_pos hE]
    unfold Pw rdv
    by_cases h4:l.head? =some 48
    ·have h5:l.length=1:=by
      have:0<l.length:=List.length_pos_iff.2 hne
      rcases Nat.lt_or_ge 1 l.length with h6|h6
      ·exact absurd (Or.inr ⟨h4,h6⟩) h2
      ·omega
     obtain⟨b,rfl⟩:=List.length_eq_one_iff.1 h5
     have:b=48:=by simpa using h4
     subst this
     rfl
    ·have h5:Dc l.reverse:=fun b hb=>hd b (List.mem_reverse.1 hb)
     have h6:l.reverse.getLast? ≠some 48:=by rw[List.getLast?_reverse];exact h4
     have h7:=dval_pos h5 (by simpa using hne) h6
     rw[if_neg h7,dec_unique h5 h6,List.reverse_reverse]
end Go.Proofs.YtoeiphicmcndlaaGreatDoor
