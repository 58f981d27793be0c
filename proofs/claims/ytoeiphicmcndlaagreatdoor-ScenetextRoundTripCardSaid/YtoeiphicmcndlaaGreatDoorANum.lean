/-
 Numbers in base 2^32.
-/
import Derived.Test.YtoeiphicmcndlaaGreatDoorZZ
import Derived.Below
namespace Go.Proofs.YtoeiphicmcndlaaGreatDoor
set_option linter.unusedVariables false
set_option linter.unusedSimpArgs false
open Go.RowKit
def val:List Nat→Nat
 | []=>0
 |d::l=>d+4294967296*val l
def dg(l:List Nat)(i:Nat):Nat:=l.getD i 0
def N8(l:List Nat):Prop:=∀i,dg l i<4294967296
def pw(k:Nat):Nat:=4294967296 ^ k
def lo(l:List Nat)(k:Nat):Nat:=val (l.take k)
def Mx(l:List Nat):Prop:=N8 l∧(l=[]∨dg l (l.length-1)≠0)
theorem Fd:pw 0=1:=rfl
theorem M3(k:Nat):pw (k+1)=pw k*4294967296:=Nat.pow_succ ..
theorem pw_add(a b:Nat):pw (a+b)=pw a*pw b:=Nat.pow_add ..
theorem Xu(k:Nat):0<pw k:=Nat.pow_pos Zo
theorem Aa{a b:Nat}(h:a≤b):pw a≤pw b:=Nat.pow_le_pow_right Zo h
theorem pw_lt{a b:Nat}(h:a<b):pw a<pw b:=Nat.pow_lt_pow_right Zo h
theorem Zn(i:Nat):dg [] i=0:=by simp[dg]
theorem Pu(d:Nat)(l:List Nat):dg (d::l) 0=d:=by simp[dg]
theorem Pv(d:Nat)(l:List Nat)(i:Nat):dg (d::l) (i+1)=dg l i:=by simp[dg]
theorem Ub{l:List Nat}{i:Nat}(h:l.length≤i):dg l i=0:=by
 simp[dg,List.getElem?_eq_none h]
theorem dg_in{l:List Nat}{i:Nat}(h:i<l.length):dg l i=l[i]:=by
 simp[dg,h]
theorem dg_take{l:List Nat}{k i:Nat}(h:i<k):dg (l.take k) i=dg l i:=by
 simp[dg,h]
theorem dg_take_ge{l:List Nat}{k i:Nat}(h:k≤i):dg (l.take k) i=0:=
 Ub Zp
theorem Q8{l:List Nat}{k i d:Nat}:dg (l.set k d) i=if k=i∧k<l.length then d else dg l i:=by
 unfold dg
 by_cases h:k=i
 ·subst h
  by_cases hl:k<l.length<;>simp[hl]
 ·simp[h]
theorem dg_append_left{a b:List Nat}{i:Nat}(h:i<a.length):dg (a++b) i=dg a i:=by
 simp[dg,List.getElem?_append,h]
theorem Ac{a b:List Nat}{i:Nat}(h:a.length≤i):dg (a++b) i=dg b (i-a.length):=by
 simp[dg,List.getElem?_append,show¬i<a.length by omega]
theorem Qq{l:List Nat}{k i:Nat}:dg (l.drop k) i=dg l (k+i):=by
 simp[dg,List.getElem?_drop]
theorem Sv{n i:Nat}:dg (List.replicate n 0) i=0:=by
 by_cases h:i<n<;>simp[dg,h]
theorem N8.nil:N8 []:=fun i=>by rw[Zn];omega
theorem N8.of_all{l:List Nat}(h:∀d∈l,d<4294967296):N8 l:=by
 intro i
 by_cases hi:i<l.length
 ·rw[dg_in hi];exact h _ (List.getElem_mem hi)
 ·rw[Ub Zo];omega
theorem N8.cons{d:Nat}{l:List Nat}(hd:d<4294967296)(h:N8 l):N8 (d::l)
 |0=>by rw[Pu];exact hd
 |i+1=>by rw[Pv];exact h i
theorem N8.tail{d:Nat}{l:List Nat}(h:N8 (d::l)):N8 l:=fun i=>by
 have:=h (i+1);rwa [Pv]at this
theorem N8.head{d:Nat}{l:List Nat}(h:N8 (d::l)):d<4294967296:=by
 have:=h 0;rwa [Pu]at this
theorem N8.take{l:List Nat}(h:N8 l)(k:Nat):N8 (l.take k):=fun i=>by
 by_cases hi:i<k
 ·rw[dg_take hi];exact h i
 ·rw[dg_take_ge Zo];omega
theorem N8.drop{l:List Nat}(h:N8 l)(k:Nat):N8 (l.drop k):=fun i=>by
 rw[Qq];exact h _
theorem N8.set{l:List Nat}(h:N8 l)(k:Nat){d:Nat}(hd:d<4294967296):N8 (l.set k d):=fun i=>by
 rw[Q8];split
 ·exact hd
 ·exact h i
theorem N8.append{a b:List Nat}(ha:N8 a)(hb:N8 b):N8 (a++b):=fun i=>by
 by_cases hi:i<a.length
 ·rw[dg_append_left hi];exact ha i
 ·rw[Ac Zo];exact hb _
theorem N8.replicate(n:Nat):N8 (List.replicate n 0):=fun i=>by rw[Sv];omega
theorem N8.one{d:Nat}(h:d<4294967296):N8 [d]:=N8.cons h N8.nil
theorem Ts:val []=0:=rfl
theorem Tz(d:Nat)(l:List Nat):val (d::l)=d+4294967296*val l:=rfl
theorem val_one(d:Nat):val [d]=d:=by simp[val]
theorem Du(a b:List Nat):val (a++b)=val a+pw a.length*val b:=by
 induction a with
 |nil=>simp[val,pw]
 |cons d l ih=>simp only[List.cons_append,Tz,ih,List.length_cons,M3];grind
theorem N4(l:List Nat):lo l 0=0:=by simp[lo,val]
theorem La(l:List Nat):∀k,lo l (k+1)=lo l k+dg l k*pw k:=by
 induction l with
 |nil=>intro k;simp[lo,val,Zn]
 | cons d l ih=>
  intro k
  cases k with
  |zero=>simp[lo,val,Pu,pw]
  |succ k=>
   have h:=ih k
   simp only[lo,List.take_succ_cons,Tz,Pv,M3]at h ⊢
   grind
theorem M6{l:List Nat}{k:Nat}(h:l.length≤k):lo l k=val l:=by
 rw[lo,List.take_of_length_le h]
theorem Fj{l:List Nat}(h:N8 l):∀k,lo l k<pw k:=by
 intro k
 induction k with
 |zero=>rw[N4,Fd];omega
 |succ k ih=>
  rw[La,M3]
  have hd:=h k
  have:dg l k*pw k≤4294967295*pw k:=Nat.mul_le_mul_right _ Zo
  omega
theorem Gd{l:List Nat}(h:N8 l):val l<pw l.length:=by
 rw[←M6 (Nat.le_refl _)];exact Fj h _
theorem Mi{l:List Nat}{k:Nat}(h:N8 l)(hk:l.length≤k):val l<pw k:=
 Nat.lt_of_lt_of_le (Gd h) (Aa hk)
theorem lo_mono(l:List Nat){a b:Nat}(h:a≤b):lo l a≤lo l b:=by
 induction b with
 | zero => have:a=0:=by omega
           subst this;exact Nat.le_refl _
 | succ b ih=>
  by_cases e:a=b+1
  ·subst e;exact Nat.le_refl _
  ·have:=ih Zo
   rw[La];omega
theorem lo_le(l:List Nat)(k:Nat):lo l k≤val l:=by
 rw[←M6 (l:=l) (Nat.le_max_left l.length k)]
 exact lo_mono l (Nat.le_max_right _ _)
theorem Fk(l:List Nat)(k:Nat):val l=lo l k+pw k*val (l.drop k):=by
 by_cases h:k≤l.length
 ·have:=Du (l.take k) (l.drop k)
  rw[List.take_append_drop,List.length_take,Nat.min_eq_left h]at this
  exact this
 ·rw[M6 Zo,List.drop_eq_nil_of_le Zo,val];omega
theorem Ge{a b:List Nat}{k:Nat}(h:∀j,k≤j→dg a j=dg b j):val a+lo b k=val b+lo a k:=by
 have key:∀n k,(∀j,k≤j→dg a j=dg b j)→max a.length b.length≤k+n→val a+lo b k=val b+lo a k:=by
  intro n
  induction n with
  |zero=>
   intro k _ hk
   rw[M6 (l:=a) Zo,M6 (l:=b) Zo];omega
  |succ n ih=>
   intro k hj hk
   have h1:=ih (k+1) (fun j hj'=>hj j Zo) Zo
   rw[La,La,hj k (Nat.le_refl _)]at h1
   omega
 exact key _ k h (Nat.le_add_left _ _)
theorem Et{a b:List Nat}(h:∀j,dg a j=dg b j):val a=val b:=by
 have:=Ge (a:=a) (b:=b) (k:=0) (fun j _=>h j)
 rw[N4,N4]at this;omega
theorem lo_ext{a b:List Nat}{k:Nat}(h:∀j,j<k→dg a j=dg b j):lo a k=lo b k:=by
 induction k with
 |zero=>rw[N4,N4]
 |succ k ih=>rw[La,La,ih (fun j hj=>h j Zo),h k Zo]
theorem C9{a b:List Nat}{k:Nat}(ha:N8 a)(h:∀j,k<j→dg a j=dg b j)(hk:dg a k<dg b k):val a<val b:=by
 have h1:=Ge (a:=a) (b:=b) (k:=k+1) (fun j hj=>h j Zo)
 rw[La,La]at h1
 have h2:=Fj ha k
 have h3:(dg a k+1)*pw k≤dg b k*pw k:=Nat.mul_le_mul_right _ hk
 rw[Nat.add_mul]at h3
 omega
theorem lo_set_lt{l:List Nat}{k i d:Nat}(h:k≤i):lo (l.set i d) k=lo l k:=
 lo_ext fun j hj=>by rw[Q8,if_neg Zo]
theorem Pm{l:List Nat}{i d:Nat}(h:i<l.length):lo (l.set i d) (i+1)=lo l i+d*pw i:=by
 rw[La,lo_set_lt (Nat.le_refl _),Q8,if_pos ⟨rfl,h⟩]
theorem Zb(n k:Nat):lo (List.replicate n 0) k=0:=by
 induction k with
 |zero=>exact N4 _
 |succ k ih=>rw[La,ih,Sv];omega
theorem Xp(n:Nat):val (List.replicate n 0)=0:=by
 rw[←M6 (Nat.le_refl _)];exact Zb _ _
theorem val_lo{l:List Nat}{k:Nat}(h:∀j,k≤j→dg l j=0):val l=lo l k:=by
 have:=Ge (a:=l) (b:=[]) (k:=k) (fun j hj=>by rw[h j hj,Zn])
 have e:lo [] k=0:=by simp[lo,val]
 rw[e,Ts]at this;omega
def tlen(l:List Nat):Nat→Nat
 |0=>0
 |n+1=>if dg l n=0 then tlen l n else n+1
def trim(l:List Nat):List Nat:=l.take (tlen l l.length)
theorem Nw(l:List Nat):∀n,tlen l n≤n
 |0=>Nat.le_refl _
 |n+1=>by
  unfold tlen;split
  ·exact Nat.le_succ_of_le (Nw l n)
  ·exact Nat.le_refl _
theorem tlen_zero(l:List Nat):∀n j,tlen l n≤j→j<n→dg l j=0
 |0,_,_,h=>absurd h Zo
 | n+1,j,h,hj=>by
  unfold tlen at h
  split at h
  ·rename_i h0
   by_cases e:j=n
   ·subst e;exact h0
   ·exact tlen_zero l n j h Zo
  ·omega
theorem tlen_top(l:List Nat):∀n,tlen l n=0∨dg l (tlen l n-1)≠0
 |0=>Or.inl rfl
 |n+1=>by
  unfold tlen;split
  ·exact tlen_top l n
  ·rename_i h;right;simpa using h
theorem tlen_step{l:List Nat}{n:Nat}(h:dg l n=0):tlen l (n+1)=tlen l n:=by
 rw[tlen,if_pos h]
theorem tlen_stop{l:List Nat}{n:Nat}(h:dg l n≠0):tlen l (n+1)=n+1:=by
 rw[tlen,if_neg h]
theorem I2(l:List Nat):(trim l).length=tlen l l.length:=by
 rw[trim,List.length_take];exact Nat.min_eq_left (Nw _ _)
theorem Og(l:List Nat):(trim l).length≤l.length:=by
 rw[I2];exact Nw _ _
theorem dg_trim(l:List Nat)(i:Nat):dg (trim l) i=dg l i:=by
 by_cases h:i<tlen l l.length
 ·rw[trim,dg_take h]
 ·rw[trim,dg_take_ge Zo]
  by_cases h2:i<l.length
  ·exact(tlen_zero l _ i Zo h2).symm
  ·exact(Ub Zo).symm
theorem Kh(l:List Nat):val (trim l)=val l:=Et (dg_trim l)
theorem N8.trim{l:List Nat}(h:N8 l):N8 (trim l):=h.take _
theorem Kw{l:List Nat}(h:N8 l):Mx (trim l):=by
 refine⟨h.trim,?_⟩
 rcases tlen_top l l.length with h0|h0
 ·left;rw[trim,h0];rfl
 ·right
  rw[I2,dg_trim];exact h0
theorem Mx.nil:Mx []:=⟨N8.nil,Or.inl rfl⟩
theorem Mx.dig{l:List Nat}(h:Mx l):N8 l:=h.1
theorem Mx.pos{l:List Nat}(h:Mx l)(hl:l≠[]):pw (l.length-1)≤val l:=by
 have h0:dg l (l.length-1)≠0:=h.2.resolve_left hl
 have hlen:0<l.length:=List.length_pos_iff.2 hl
 have e:l.length=(l.length-1)+1:=by omega
 have h1:val l=lo l (l.length-1)+dg l (l.length-1)*pw (l.length-1):=by
  rw[←La,←e,M6 (Nat.le_refl _)]
 have h2:1*pw (l.length-1)≤dg l (l.length-1)*pw (l.length-1):=Nat.mul_le_mul_right _ Zo
 omega
theorem Mx.zero{l:List Nat}(h:Mx l)(hv:val l=0):l=[]:=by
 rcases l with _|⟨d,l⟩
 ·rfl
 ·have:=h.pos Zs
  have:=Xu ((d::l).length-1)
  omega
theorem Mx.length_lt{a b:List Nat}(ha:Mx a)(hb:Mx b)(h:a.length<b.length):val a<val b:=by
 have h1:=Gd ha.1
 have hb0:b≠[]:=by intro e;subst e;simp at h
 have h2:=hb.pos hb0
 have h3:pw a.length≤pw (b.length-1):=Aa Zo
 omega
theorem dg_eq_of_val{a b:List Nat}(ha:N8 a)(hb:N8 b)(h:val a=val b):∀i,dg a i=dg b i:=by
 induction a generalizing b with
 | nil=>
  intro i
  induction b generalizing i with
  |nil=>rfl
  | cons d l ih=>
   rw[Ts,Tz]at h
   cases i with
   |zero=>rw[Zn,Pu];omega
   |succ i=>
    have:=ih hb.tail (by rw[Ts];omega) i
    rw[Pv,←this,Zn,Zn]
 | cons c k ih=>
  intro i
  rcases b with _|⟨d,l⟩
  ·rw[Ts,Tz]at h
   cases i with
   |zero=>rw[Zn,Pu];omega
   |succ i=>
    have:=ih ha.tail N8.nil (by rw[Ts];omega) i
    rw[Pv,this,Zn,Zn]
  ·have h1:=ha.head
   have h2:=hb.head
   rw[Tz,Tz]at h
   cases i with
   |zero=>rw[Pu,Pu];omega
   |succ i=>rw[Pv,Pv];exact ih ha.tail hb.tail Zo i
theorem ext_dg{a b:List Nat}(hl:a.length=b.length)(h:∀i,i<a.length→dg a i=dg b i):a=b:=by
 apply List.ext_getElem hl
 intro i h1 h2
 have:=h i h1
 rwa [dg_in h1,dg_in h2]at this
theorem Mx.unique{a b:List Nat}(ha:Mx a)(hb:Mx b)(h:val a=val b):a=b:=by
 have hl:a.length=b.length:=by
  rcases Nat.lt_trichotomy a.length b.length with h1|h1|h1
  ·have:=ha.length_lt hb h1;omega
  ·exact h1
  ·have:=hb.length_lt ha h1;omega
 exact ext_dg hl fun i _=>dg_eq_of_val ha.1 hb.1 h i
theorem Mx.trim{l:List Nat}(h:Mx l):trim l=l:=(Kw h.1).unique h (Kh l)
theorem Mx.length_le{l:List Nat}(h:Mx l){k:Nat}(hv:val l<pw k):l.length≤k:=by
 rcases Nat.lt_or_ge k l.length with h1|h1
 ·have hl:l≠[]:=by intro e;subst e;simp at h1
  have h2:=h.pos hl
  have h3:pw k≤pw (l.length-1):=Aa Zo
  omega
 ·exact h1
theorem add_step{o a b:List Nat}{k y:Nat}(hk:k<o.length)(h:lo o k+y*pw k=lo a k+lo b k):
 lo (o.set k ((y+(dg a k+dg b k))%4294967296)) (k+1)+(y+(dg a k+dg b k))/4294967296*pw (k+1)=lo a (k+1)+lo b (k+1):=by
 rw[Pm hk,La,La,M3]
 have e:=Nat.div_add_mod (y+(dg a k+dg b k)) 4294967296
 generalize (y+(dg a k+dg b k))%4294967296=r at e ⊢
 generalize (y+(dg a k+dg b k))/4294967296=q at e ⊢
 grind
theorem add_end{o a b:List Nat}{N y:Nat}(ho:o.length=N+1)(had:N8 a)(hbd:N8 b)(ha:a.length≤N)(hb:b.length≤N)(h:lo o (N+1)+y*pw (N+1)=lo a (N+1)+lo b (N+1)):val o=val a+val b:=by
 rw[M6 Zo,M6 Zo,M6 Zo]at h
 have h1:=Mi had ha
 have h2:=Mi hbd hb
 rw[M3]at h
 have hp:=Xu N
 rcases Nat.eq_zero_or_pos y with e|e
 ·subst e;omega
 ·have:1*(pw N*4294967296)≤y*(pw N*4294967296):=Nat.mul_le_mul_right _ e
  omega
theorem Wc{o a b:List Nat}{k y d y':Nat}(hk:k<o.length)(h:lo o k+lo b k=lo a k+y*pw k)(hd:d+dg b k+y=dg a k+y'*4294967296):
 lo (o.set k d) (k+1)+lo b (k+1)=lo a (k+1)+y'*pw (k+1):=by
 rw[Pm hk,La,La,M3]
 have e:(d+dg b k+y)*pw k=(dg a k+y'*4294967296)*pw k:=by rw[hd]
 grind
theorem sub_end{o a b:List Nat}{y:Nat}(hol:o.length=(trim a).length)(ho:N8 o)(had:N8 a)(hle:val b≤val a)(h:lo o (trim a).length+lo b (trim a).length=lo a (trim a).length+y*pw (trim a).length):val o=val a-val b:=by
 have ha:lo a (trim a).length=val a:=by rw[←Kh a,←lo_ext (a:=trim a) (fun j _=>dg_trim a j),M6 (Nat.le_refl _)]
 have h1:val a<pw (trim a).length:=by rw[←Kh a];exact Gd had.trim
 have h2:=Fk b (trim a).length
 have h3:val (b.drop (trim a).length)=0:=by
  rcases Nat.eq_zero_or_pos (val (b.drop (trim a).length))with e|e
  ·exact e
  ·have:pw (trim a).length*1≤pw (trim a).length*val (b.drop (trim a).length):=Nat.mul_le_mul_left _ e
   omega
 rw[h3]at h2
 rw[ha,M6 (l:=o) Zo]at h
 have h4:=Mi ho (Nat.le_of_eq hol)
 rcases Nat.eq_zero_or_pos y with e|e
 ·subst e;omega
 ·have:1*pw (trim a).length≤y*pw (trim a).length:=Nat.mul_le_mul_right _ e
  omega
theorem Yk{x y:Nat}(hx:x<4294967296)(hy:y<4294967296):x*y≤18446744065119617025:=
 Nat.mul_le_mul (show x≤4294967295 by omega) (show y≤4294967295 by omega)
theorem Gy{x y:Nat}(hx:x<4294967296)(hy:y<4294967296):(x:Int)*(y:Int)≤18446744065119617025∧0≤(x:Int)*(y:Int):=by
 have h:=Yk hx hy
 have e:((x*y:Nat):Int)=(x:Int)*(y:Int):=Int.natCast_mul ..
 omega
theorem mul_step{o o0 b:List Nat}{i k x y s:Nat}(hk:i+k<o.length)(hd:dg o (i+k)=dg o0 (i+k))
 (h:lo o (i+k)+y*pw (i+k)=lo o0 (i+k)+x*lo b k*pw i) (hs:s=y+(x*dg b k+dg o (i+k))):
 lo (o.set (i+k) (s%4294967296)) (i+(k+1))+s/4294967296*pw (i+(k+1))=lo o0 (i+(k+1))+x*lo b (k+1)*pw i:=by
 rw[show i+(k+1)=i+k+1 by omega,Pm hk,La,La,M3,←hd]
 have e:=Nat.div_add_mod s 4294967296
 generalize s%4294967296=r at e ⊢
 generalize s/4294967296=q at e ⊢
 rw[pw_add]at h ⊢
 grind
theorem mul_row{o o0 a b:List Nat}{i q x y:Nat}(hlen:i+q<o.length)(hx:dg a i=x)(hb:val b=lo b q)
 (h0:val o0=lo a i*val b) (hz0:∀j,i+q≤j→dg o0 j=0) (hag:∀j,i+q≤j→dg o j=dg o0 j)
 (h:lo o (i+q)+y*pw (i+q)=lo o0 (i+q)+x*lo b q*pw i):
 val (o.set (i+q) y)=lo a (i+1)*val b∧∀j,i+1+q≤j→dg (o.set (i+q) y) j=0:=by
 have hz:∀j,i+1+q≤j→dg (o.set (i+q) y) j=0:=by
  intro j hj
  rw[Q8,if_neg Zo,hag j Zo,hz0 j Zo]
 refine⟨?_,hz⟩
 rw[val_lo hz,show i+1+q=i+q+1 by omega,Pm hlen,h,←val_lo hz0,h0,La,hx,hb]
 grind
theorem Tt{l:List Nat}{k:Nat}(h:k<l.length):val (l.drop k)=dg l k+4294967296*val (l.drop (k+1)):=by
 rw[List.drop_eq_getElem_cons h,Tz,dg_in h]
theorem Sa{l:List Nat}{k:Nat}(h:l.length≤k):val (l.drop k)=0:=by
 rw[List.drop_eq_nil_of_le h];rfl
theorem div_step{a o:List Nat}{k d r q r':Nat}(ha:k<a.length)(ho:k<o.length)(h:val (o.drop (k+1))*d+r=val (a.drop (k+1)))
 (hq:q=(r*4294967296+dg a k)/d) (hr:r'=(r*4294967296+dg a k)%d):
 val ((o.set k q).drop k)*d+r'=val (a.drop k):=by
 have h1:val ((o.set k q).drop (k+1))=val (o.drop (k+1)):=Et fun j=>by
  rw[Qq,Qq,Q8,if_neg Zo]
 rw[Tt ha,Tt (by rw[List.length_set];exact ho),h1,Q8,if_pos ⟨rfl,ho⟩]
 have e:=Nat.div_add_mod (r*4294967296+dg a k) d
 rw[←hq,←hr]at e
 clear hq hr h1
 grind
theorem div_digit{r x d:Nat}(hr:r<d)(hx:x<4294967296):(r*4294967296+x)/d<4294967296:=by
 rw[Nat.div_lt_iff_lt_mul Zo]
 have:(r+1)*4294967296≤d*4294967296:=Nat.mul_le_mul_right _ hr
 have:d*4294967296=4294967296*d:=Nat.mul_comm ..
 omega
theorem Ef{a q d r:Nat}(h:q*d+r=a)(hr:r<d):q=a/d∧r=a%d:=by
 subst h
 constructor
 ·rw[Nat.add_comm,Nat.add_mul_div_right _ _ Zo,Nat.div_eq_of_lt hr];omega
 ·rw[Nat.add_comm,Nat.add_mul_mod_self_right,Nat.mod_eq_of_lt hr]
theorem Sj(k:Nat):pw k=2 ^ (32*k):=by
 rw[pw,Nat.pow_mul]
theorem Rc(k:Nat):0<2 ^ k:=Nat.pow_pos Zo
theorem Ex{k:Nat}(h:k<32):2 ^ k≤2147483648:=by
 have:2 ^ k≤2 ^ 31:=Nat.pow_le_pow_right Zo Zo
 simpa using this
theorem Y7{k:Nat}(h:k≤32):2 ^ k*2 ^ (32-k)=4294967296:=by
 rw[←Nat.pow_add,show k+(32-k)=32 by omega]
theorem W2{x c e : Nat}(hc:c*e=4294967296)(hx:x<4294967296):x*c/4294967296<c∧x*c%4294967296%c=0∧x*c%4294967296+c≤4294967296:=by
 have hc0 : 0 < c := by rcases Nat.eq_zero_or_pos c with h|h;· subst h;omega
                        ·exact h
 have he0 : 0 < e := by rcases Nat.eq_zero_or_pos e with h|h;· subst h;omega
                        ·exact h
 refine⟨?_,?_,?_⟩
 ·rw[Nat.div_lt_iff_lt_mul Zo,Nat.mul_comm]
  exact Nat.mul_lt_mul_of_pos_left hx hc0
 ·rw[←hc,Nat.mod_mul_right_mod,Nat.mul_mod_left]
 ·have h1:x*c%4294967296=x%e*c:=by
   rw[←hc,Nat.mul_comm c e,Nat.mul_mod_mul_right]
  rw[h1]
  have h2:(x%e+1)*c≤e*c:=Nat.mul_le_mul_right _ (Nat.mod_lt _ he0)
  rw[Nat.add_mul,Nat.mul_comm e c,hc]at h2
  omega
theorem up_step{a o:List Nat}{k h c x:Nat}(hlen:k+h+1<o.length)
 (hI:lo o (k+h+1)=lo a k*c*pw h) (hx:x=dg a k):
 lo ((o.set (k+h) (dg o (k+h)+x*c%4294967296)).set (k+h+1) (x*c/4294967296)) (k+1+h+1)=lo a (k+1)*c*pw h:=by
 rw[show k+1+h+1=(k+h+1)+1 by omega,Pm (by rw[List.length_set];omega),show k+h+1=(k+h)+1 by omega,Pm Zo,La a,←hx]
 rw[La]at hI
 have e:=Nat.div_add_mod (x*c) 4294967296
 generalize x*c%4294967296=r at e ⊢
 generalize x*c/4294967296=q at e ⊢
 rw[M3]
 rw[pw_add]at hI ⊢
 have e2:(r+q*4294967296)*(pw k*pw h)=x*c*(pw k*pw h):=by rw[←e];grind
 grind
theorem down_digit{x y c e:Nat}(hc:c*e=4294967296)(hx:x<4294967296)(hy:y<4294967296):
 (x+y*4294967296)/c=x/c+y*e∧(x+y*4294967296)/c%4294967296+y/c*4294967296=x/c+y*e:=by
 have hc0 : 0 < c := by rcases Nat.eq_zero_or_pos c with h|h;· subst h;omega
                        ·exact h
 have he0 : 0 < e := by rcases Nat.eq_zero_or_pos e with h|h;· subst h;omega
                        ·exact h
 have h1:(x+y*4294967296)/c=x/c+y*e:=by
  rw[←hc,show y*(c*e)=y*e*c by grind,Nat.add_mul_div_right _ _ hc0]
 refine⟨h1,?_⟩
 rw[h1]
 have h2:x/c<e:=by rw[Nat.div_lt_iff_lt_mul hc0,Nat.mul_comm,hc];exact hx
 have h3:=Nat.div_add_mod y c
 have h4:y%c*e+e≤4294967296:=by
  have:(y%c+1)*e≤c*e:=Nat.mul_le_mul_right _ (Nat.mod_lt _ hc0)
  rw[Nat.add_mul,hc]at this;omega
 have h5:y*e=y/c*4294967296+y%c*e:=by rw[←hc];grind
 rw[h5]
 have h6:(x/c+(y/c*4294967296+y%c*e))%4294967296=x/c+y%c*e:=by
  rw[show x/c+(y/c*4294967296+y%c*e)=(x/c+y%c*e)+y/c*4294967296 by omega,Nat.add_mul_mod_self_right,Nat.mod_eq_of_lt Zo]
 rw[h6];omega
theorem down_step{b o : List Nat}{k c e d:Nat}(hc:c*e=4294967296)(hb:N8 b)(hk:k<o.length)
 (hI:lo o k+pw k*(dg b k/c)=lo b (k+1)/c) (hd:d=(dg b k+dg b (k+1)*4294967296)/c%4294967296):
 lo (o.set k d) (k+1)+pw (k+1)*(dg b (k+1)/c)=lo b (k+1+1)/c:=by
 have hc0 : 0 < c := by rcases Nat.eq_zero_or_pos c with h|h;· subst h;omega
                        ·exact h
 have h1:=(down_digit hc (hb k) (hb (k+1))).2
 rw[←hd]at h1
 rw[Pm hk,La b (k+1),M3]
 have h2:(lo b (k+1)+dg b (k+1)*(pw k*4294967296))/c=lo b (k+1)/c+dg b (k+1)*e*pw k:=by
  rw[←hc,show dg b (k+1)*(pw k*(c*e))=(dg b (k+1)*e*pw k)*c by grind,Nat.add_mul_div_right _ _ hc0]
 rw[h2,←hI]
 have h3:(d+dg b (k+1)/c*4294967296)*pw k=(dg b k/c+dg b (k+1)*e)*pw k:=by rw[h1]
 grind
theorem down_end{b o:List Nat}{c:Nat}(hlen:o.length=b.length)(hI:lo o b.length+pw b.length*(dg b b.length/c)=lo b (b.length+1)/c):val o=val b/c:=by
 rw[Ub (Nat.le_refl _),Nat.zero_div,M6 Zo,M6 Zo]at hI
 simpa using hI
theorem Eu(a:List Nat)(k:Nat)(h:N8 a):val (a.drop k)=val a/pw k:=by
 have h1:=Fk a k
 have h2:=Fj h k
 rw[h1,Nat.add_mul_div_left _ _ (Xu k),Nat.div_eq_of_lt h2];omega
theorem I6{v t:Nat}:v*2 ^ t=v*2 ^ (t%32)*pw (t/32):=by
 rw[Sj,Nat.mul_assoc,←Nat.pow_add]
 congr 2
 omega
theorem shift_div{v t:Nat}:v/2 ^ t=v/pw (t/32)/2 ^ (t%32):=by
 rw[Nat.div_div_eq_div_mul,Sj,←Nat.pow_add]
 congr 2
 omega
theorem often_init{U V top v P ru rv:Nat}(hU:U=top*P+ru)(hV:V=v*P+rv)(hru:ru<P)(hv:0<v):U<(top/v+1)*V:=by
 have h1:top+1≤(top/v+1)*v:=by
  have e:=Nat.div_add_mod' top v
  have:=Nat.mod_lt top hv
  rw[Nat.add_mul];omega
 have h2:(top+1)*P≤(top/v+1)*v*P:=Nat.mul_le_mul_right _ h1
 have h3:(top/v+1)*V=(top/v+1)*v*P+(top/v+1)*rv:=by rw[hV];grind
 rw[Nat.add_mul]at h2
 omega
theorem often_min{U V q:Nat}(h:U<(q+1)*V)(hUV:U<4294967296*V):U<(min q 4294967295+1)*V:=by
 by_cases hq:q≤4294967295
 ·rw[Nat.min_eq_left hq];exact h
 ·rw[Nat.min_eq_right Zo];exact hUV
theorem often_end{U V d:Nat}(h1:d*V≤U)(h2:U<(d+1)*V):d=U/V∧U-d*V=U%V:=by
 have h3:U/V=d:=Nat.div_eq_of_lt_le h1 h2
 refine⟨h3.symm,?_⟩
 have h4:=Nat.div_add_mod' U V
 rw[h3]at h4;omega
end Go.Proofs.YtoeiphicmcndlaaGreatDoor
