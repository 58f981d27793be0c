/-
 A part of the proof.
-/
import Derived.Test.YtpgkbllcnphmbaaGreatDoorZZ
import Derived.Below
import Derived.WalkKit
import Derived.WalkSpells
import Derived.WalkLawsBesides
import Derived.Deep.AppendLies
import Derived.Deep.Draws
import Derived.Maps.AppendAt
import Derived.Test.YtpgkbllcnphmbaaGreatDoorProg
import Derived.Deep.QuietTactic
import Derived.BigQuiet
namespace Go.Proofs.YtpgkbllcnphmbaaGreatDoor
set_option maxRecDepth 100000
set_option maxHeartbeats 8000000
set_option linter.unusedVariables false
set_option linter.unusedSimpArgs false
open Go.RowKit
def val:List Nat→Nat
 | []=>0
 |d::l=>d+4294967296*val l
def dg(l:List Nat)(i:Nat):Nat:=l.getD i 0
def O3(l:List Nat):Prop:=∀i,dg l i<4294967296
def pw(k:Nat):Nat:=4294967296 ^ k
def lo(l:List Nat)(k:Nat):Nat:=val (l.take k)
def Pp(l:List Nat):Prop:=O3 l∧(l=[]∨dg l (l.length-1)≠0)
theorem D7:pw 0=1:=rfl
theorem Ms(k:Nat):pw (k+1)=pw k*4294967296:=Nat.pow_succ ..
theorem pw_add(a b:Nat):pw (a+b)=pw a*pw b:=Nat.pow_add ..
theorem Yc(k:Nat):0<pw k:=Nat.pow_pos Zo
theorem Zn{a b:Nat}(h:a≤b):pw a≤pw b:=Nat.pow_le_pow_right Zo h
theorem pw_lt{a b:Nat}(h:a<b):pw a<pw b:=Nat.pow_lt_pow_right Zo h
theorem dg_nil(i:Nat):dg [] i=0:=by simp[dg]
theorem A6(d:Nat)(l:List Nat):dg (d::l) 0=d:=by simp[dg]
theorem A7(d:Nat)(l:List Nat)(i:Nat):dg (d::l) (i+1)=dg l i:=by simp[dg]
theorem Ua{l:List Nat}{i:Nat}(h:l.length≤i):dg l i=0:=by
 simp[dg,List.getElem?_eq_none h]
theorem dg_in{l:List Nat}{i:Nat}(h:i<l.length):dg l i=l[i]:=by
 simp[dg,h]
theorem Jq{l:List Nat}{k i:Nat}(h:i<k):dg (l.take k) i=dg l i:=by
 simp[dg,h]
theorem F8{l:List Nat}{k i:Nat}(h:k≤i):dg (l.take k) i=0:=
 Ua Zp
theorem P4{l:List Nat}{k i d:Nat}:dg (l.set k d) i=if k=i∧k<l.length then d else dg l i:=by
 unfold dg
 by_cases h:k=i
 ·subst h
  by_cases hl:k<l.length<;>simp[hl]
 ·simp[h]
theorem F9{a b:List Nat}{i:Nat}(h:i<a.length):dg (a++b) i=dg a i:=by
 simp[dg,List.getElem?_append,h]
theorem Uj{a b:List Nat}{i:Nat}(h:a.length≤i):dg (a++b) i=dg b (i-a.length):=by
 simp[dg,List.getElem?_append,show¬i<a.length by omega]
theorem Pr{l:List Nat}{k i:Nat}:dg (l.drop k) i=dg l (k+i):=by
 simp[dg,List.getElem?_drop]
theorem Rw{n i:Nat}:dg (List.replicate n 0) i=0:=by
 by_cases h:i<n<;>simp[dg,h]
theorem O3.nil:O3 []:=fun i=>by rw[dg_nil];omega
theorem O3.of_all{l:List Nat}(h:∀d∈l,d<4294967296):O3 l:=by
 intro i
 by_cases hi:i<l.length
 ·rw[dg_in hi];exact h _ (List.getElem_mem hi)
 ·rw[Ua Zo];omega
theorem O3.cons{d:Nat}{l:List Nat}(hd:d<4294967296)(h:O3 l):O3 (d::l)
 |0=>by rw[A6];exact hd
 |i+1=>by rw[A7];exact h i
theorem O3.take{l:List Nat}(h:O3 l)(k:Nat):O3 (l.take k):=fun i=>by
 by_cases hi:i<k
 ·rw[Jq hi];exact h i
 ·rw[F8 Zo];omega
theorem O3.drop{l:List Nat}(h:O3 l)(k:Nat):O3 (l.drop k):=fun i=>by
 rw[Pr];exact h _
theorem O3.set{l:List Nat}(h:O3 l)(k:Nat){d:Nat}(hd:d<4294967296):O3 (l.set k d):=fun i=>by
 rw[P4];split
 ·exact hd
 ·exact h i
theorem O3.append{a b:List Nat}(ha:O3 a)(hb:O3 b):O3 (a++b):=fun i=>by
 by_cases hi:i<a.length
 ·rw[F9 hi];exact ha i
 ·rw[Uj Zo];exact hb _
theorem O3.replicate(n:Nat):O3 (List.replicate n 0):=fun i=>by rw[Rw];omega
theorem O3.one{d:Nat}(h:d<4294967296):O3 [d]:=O3.cons h O3.nil
theorem I6:val []=0:=rfl
theorem Dp(d:Nat)(l:List Nat):val (d::l)=d+4294967296*val l:=rfl
theorem val_one(d:Nat):val [d]=d:=by simp[val]
theorem Dq(a b:List Nat):val (a++b)=val a+pw a.length*val b:=by
 induction a with
 |nil=>simp[val,pw]
 |cons d l ih=>simp only[List.cons_append,Dp,ih,List.length_cons,Ms];grind
theorem O0(l:List Nat):lo l 0=0:=by simp[lo,val]
theorem Lc(l:List Nat):∀k,lo l (k+1)=lo l k+dg l k*pw k:=by
 induction l with
 |nil=>intro k;simp[lo,val,dg_nil]
 | cons d l ih=>
  intro k
  cases k with
  |zero=>simp[lo,val,A6,pw]
  |succ k=>
   have h:=ih k
   simp only[lo,List.take_succ_cons,Dp,A7,Ms]at h ⊢
   grind
theorem Mm{l:List Nat}{k:Nat}(h:l.length≤k):lo l k=val l:=by
 rw[lo,List.take_of_length_le h]
theorem Cd{l:List Nat}(h:O3 l):∀k,lo l k<pw k:=by
 intro k
 induction k with
 |zero=>rw[O0,D7];omega
 |succ k ih=>
  rw[Lc,Ms]
  have hd:=h k
  have:dg l k*pw k≤4294967295*pw k:=Nat.mul_le_mul_right _ Zo
  omega
theorem I7{l:List Nat}(h:O3 l):val l<pw l.length:=by
 rw[←Mm (Nat.le_refl _)];exact Cd h _
theorem Q2{l:List Nat}{k:Nat}(h:O3 l)(hk:l.length≤k):val l<pw k:=
 Nat.lt_of_lt_of_le (I7 h) (Zn hk)
theorem lo_mono(l:List Nat){a b:Nat}(h:a≤b):lo l a≤lo l b:=by
 induction b with
 | zero => have:a=0:=by omega
           subst this;exact Nat.le_refl _
 | succ b ih=>
  by_cases e:a=b+1
  ·subst e;exact Nat.le_refl _
  ·have:=ih Zo
   rw[Lc];omega
theorem lo_le(l:List Nat)(k:Nat):lo l k≤val l:=by
 rw[←Mm (l:=l) (Nat.le_max_left l.length k)]
 exact lo_mono l (Nat.le_max_right _ _)
theorem Dd(l:List Nat)(k:Nat):val l=lo l k+pw k*val (l.drop k):=by
 by_cases h:k≤l.length
 ·have:=Dq (l.take k) (l.drop k)
  rw[List.take_append_drop,List.length_take,Nat.min_eq_left h]at this
  exact this
 ·rw[Mm Zo,List.drop_eq_nil_of_le Zo,val];omega
theorem Av{a b:List Nat}{k:Nat}(h:∀j,k≤j→dg a j=dg b j):val a+lo b k=val b+lo a k:=by
 have key:∀n k,(∀j,k≤j→dg a j=dg b j)→max a.length b.length≤k+n→val a+lo b k=val b+lo a k:=by
  intro n
  induction n with
  |zero=>
   intro k _ hk
   rw[Mm (l:=a) Zo,Mm (l:=b) Zo];omega
  |succ n ih=>
   intro k hj hk
   have h1:=ih (k+1) (fun j hj'=>hj j Zo) Zo
   rw[Lc,Lc,hj k (Nat.le_refl _)]at h1
   omega
 exact key _ k h (Nat.le_add_left _ _)
theorem D1{a b:List Nat}(h:∀j,dg a j=dg b j):val a=val b:=by
 have:=Av (a:=a) (b:=b) (k:=0) (fun j _=>h j)
 rw[O0,O0]at this;omega
theorem Jf{a b:List Nat}{k:Nat}(h:∀j,j<k→dg a j=dg b j):lo a k=lo b k:=by
 induction k with
 |zero=>rw[O0,O0]
 |succ k ih=>rw[Lc,Lc,ih (fun j hj=>h j Zo),h k Zo]
theorem Gc{a b:List Nat}{k:Nat}(ha:O3 a)(h:∀j,k<j→dg a j=dg b j)(hk:dg a k<dg b k):val a<val b:=by
 have h1:=Av (a:=a) (b:=b) (k:=k+1) (fun j hj=>h j Zo)
 rw[Lc,Lc]at h1
 have h2:=Cd ha k
 have h3:(dg a k+1)*pw k≤dg b k*pw k:=Nat.mul_le_mul_right _ hk
 rw[Nat.add_mul]at h3
 omega
theorem lo_set_lt{l:List Nat}{k i d:Nat}(h:k≤i):lo (l.set i d) k=lo l k:=
 Jf fun j hj=>by rw[P4,if_neg Zo]
theorem Oz{l:List Nat}{i d:Nat}(h:i<l.length):lo (l.set i d) (i+1)=lo l i+d*pw i:=by
 rw[Lc,lo_set_lt (Nat.le_refl _),P4,if_pos ⟨rfl,h⟩]
theorem U7(n k:Nat):lo (List.replicate n 0) k=0:=by
 induction k with
 |zero=>exact O0 _
 |succ k ih=>rw[Lc,ih,Rw];omega
theorem G0(n:Nat):val (List.replicate n 0)=0:=by
 rw[←Mm (Nat.le_refl _)];exact U7 _ _
theorem val_lo{l:List Nat}{k:Nat}(h:∀j,k≤j→dg l j=0):val l=lo l k:=by
 have:=Av (a:=l) (b:=[]) (k:=k) (fun j hj=>by rw[h j hj,dg_nil])
 have e:lo [] k=0:=by simp[lo,val]
 rw[e,I6]at this;omega
def tlen(l:List Nat):Nat→Nat
 |0=>0
 |n+1=>if dg l n=0 then tlen l n else n+1
def trim(l:List Nat):List Nat:=l.take (tlen l l.length)
theorem Mz(l:List Nat):∀n,tlen l n≤n
 |0=>Nat.le_refl _
 |n+1=>by
  unfold tlen;split
  ·exact Nat.le_succ_of_le (Mz l n)
  ·exact Nat.le_refl _
theorem Gf(l:List Nat):∀n j,tlen l n≤j→j<n→dg l j=0
 |0,_,_,h=>absurd h Zo
 | n+1,j,h,hj=>by
  unfold tlen at h
  split at h
  ·rename_i h0
   by_cases e:j=n
   ·subst e;exact h0
   ·exact Gf l n j h Zo
  ·omega
theorem tlen_top(l:List Nat):∀n,tlen l n=0∨dg l (tlen l n-1)≠0
 |0=>Or.inl rfl
 |n+1=>by
  unfold tlen;split
  ·exact tlen_top l n
  ·rename_i h;right;simpa using h
theorem tlen_step{l:List Nat}{n:Nat}(h:dg l n=0):tlen l (n+1)=tlen l n:=by
 rw[tlen,if_pos h]
theorem tlen_stop{l:List Nat}{n:Nat}(h:dg l n≠0):tlen l (n+1)=n+1:=by
 rw[tlen,if_neg h]
theorem C6(l:List Nat):(trim l).length=tlen l l.length:=by
 rw[trim,List.length_take];exact Nat.min_eq_left (Mz _ _)
theorem Uz(l:List Nat):(trim l).length≤l.length:=by
 rw[C6];exact Mz _ _
theorem Jp(l:List Nat)(i:Nat):dg (trim l) i=dg l i:=by
 by_cases h:i<tlen l l.length
 ·rw[trim,Jq h]
 ·rw[trim,F8 Zo]
  by_cases h2:i<l.length
  ·exact(Gf l _ i Zo h2).symm
  ·exact(Ua Zo).symm
theorem Kr(l:List Nat):val (trim l)=val l:=D1 (Jp l)
theorem O3.trim{l:List Nat}(h:O3 l):O3 (trim l):=h.take _
theorem Lz{l:List Nat}(h:O3 l):Pp (trim l):=by
 refine⟨h.trim,?_⟩
 rcases tlen_top l l.length with h0|h0
 ·left;rw[trim,h0];rfl
 ·right
  rw[C6,Jp];exact h0
theorem Pp.nil:Pp []:=⟨O3.nil,Or.inl rfl⟩
theorem Pp.pos{l:List Nat}(h:Pp l)(hl:l≠[]):pw (l.length-1)≤val l:=by
 have h0:dg l (l.length-1)≠0:=h.2.resolve_left hl
 have hlen:0<l.length:=List.length_pos_iff.2 hl
 have e:l.length=(l.length-1)+1:=by omega
 have h1:val l=lo l (l.length-1)+dg l (l.length-1)*pw (l.length-1):=by
  rw[←Lc,←e,Mm (Nat.le_refl _)]
 have h2:1*pw (l.length-1)≤dg l (l.length-1)*pw (l.length-1):=Nat.mul_le_mul_right _ Zo
 omega
theorem Pp.zero{l:List Nat}(h:Pp l)(hv:val l=0):l=[]:=by
 rcases l with _|⟨d,l⟩
 ·rfl
 ·have:=h.pos Zs
  have:=Yc ((d::l).length-1)
  omega
theorem Pp.length_lt{a b:List Nat}(ha:Pp a)(hb:Pp b)(h:a.length<b.length):val a<val b:=by
 have h1:=I7 ha.1
 have hb0:b≠[]:=by intro e;subst e;simp at h
 have h2:=hb.pos hb0
 have h3:pw a.length≤pw (b.length-1):=Zn Zo
 omega
theorem Pp.length_le{l:List Nat}(h:Pp l){k:Nat}(hv:val l<pw k):l.length≤k:=by
 rcases Nat.lt_or_ge k l.length with h1|h1
 ·have hl:l≠[]:=by intro e;subst e;simp at h1
  have h2:=h.pos hl
  have h3:pw k≤pw (l.length-1):=Zn Zo
  omega
 ·exact h1
theorem add_step{o a b:List Nat}{k y:Nat}(hk:k<o.length)(h:lo o k+y*pw k=lo a k+lo b k):
 lo (o.set k ((y+(dg a k+dg b k))%4294967296)) (k+1)+(y+(dg a k+dg b k))/4294967296*pw (k+1)=lo a (k+1)+lo b (k+1):=by
 rw[Oz hk,Lc,Lc,Ms]
 have e:=Nat.div_add_mod (y+(dg a k+dg b k)) 4294967296
 generalize (y+(dg a k+dg b k))%4294967296=r at e ⊢
 generalize (y+(dg a k+dg b k))/4294967296=q at e ⊢
 grind
theorem add_end{o a b:List Nat}{N y:Nat}(ho:o.length=N+1)(had:O3 a)(hbd:O3 b)(ha:a.length≤N)(hb:b.length≤N)(h:lo o (N+1)+y*pw (N+1)=lo a (N+1)+lo b (N+1)):val o=val a+val b:=by
 rw[Mm Zo,Mm Zo,Mm Zo]at h
 have h1:=Q2 had ha
 have h2:=Q2 hbd hb
 rw[Ms]at h
 have hp:=Yc N
 rcases Nat.eq_zero_or_pos y with e|e
 ·subst e;omega
 ·have:1*(pw N*4294967296)≤y*(pw N*4294967296):=Nat.mul_le_mul_right _ e
  omega
theorem Dw{o a b:List Nat}{k y d y':Nat}(hk:k<o.length)(h:lo o k+lo b k=lo a k+y*pw k)(hd:d+dg b k+y=dg a k+y'*4294967296):
 lo (o.set k d) (k+1)+lo b (k+1)=lo a (k+1)+y'*pw (k+1):=by
 rw[Oz hk,Lc,Lc,Ms]
 have e:(d+dg b k+y)*pw k=(dg a k+y'*4294967296)*pw k:=by rw[hd]
 grind
theorem sub_end{o a b:List Nat}{y:Nat}(hol:o.length=(trim a).length)(ho:O3 o)(had:O3 a)(hle:val b≤val a)(h:lo o (trim a).length+lo b (trim a).length=lo a (trim a).length+y*pw (trim a).length):val o=val a-val b:=by
 have ha:lo a (trim a).length=val a:=by rw[←Kr a,←Jf (a:=trim a) (fun j _=>Jp a j),Mm (Nat.le_refl _)]
 have h1:val a<pw (trim a).length:=by rw[←Kr a];exact I7 had.trim
 have h2:=Dd b (trim a).length
 have h3:val (b.drop (trim a).length)=0:=by
  rcases Nat.eq_zero_or_pos (val (b.drop (trim a).length))with e|e
  ·exact e
  ·have:pw (trim a).length*1≤pw (trim a).length*val (b.drop (trim a).length):=Nat.mul_le_mul_left _ e
   omega
 rw[h3]at h2
 rw[ha,Mm (l:=o) Zo]at h
 have h4:=Q2 ho (Nat.le_of_eq hol)
 rcases Nat.eq_zero_or_pos y with e|e
 ·subst e;omega
 ·have:1*pw (trim a).length≤y*pw (trim a).length:=Nat.mul_le_mul_right _ e
  omega
theorem Zr{x y:Nat}(hx:x<4294967296)(hy:y<4294967296):x*y≤18446744065119617025:=
 Nat.mul_le_mul (show x≤4294967295 by omega) (show y≤4294967295 by omega)
theorem H5{x y:Nat}(hx:x<4294967296)(hy:y<4294967296):(x:Int)*(y:Int)≤18446744065119617025∧0≤(x:Int)*(y:Int):=by
 have h:=Zr hx hy
 have e:((x*y:Nat):Int)=(x:Int)*(y:Int):=Int.natCast_mul ..
 omega
theorem mul_step{o o0 b:List Nat}{i k x y s:Nat}(hk:i+k<o.length)(hd:dg o (i+k)=dg o0 (i+k))
 (h:lo o (i+k)+y*pw (i+k)=lo o0 (i+k)+x*lo b k*pw i) (hs:s=y+(x*dg b k+dg o (i+k))):
 lo (o.set (i+k) (s%4294967296)) (i+(k+1))+s/4294967296*pw (i+(k+1))=lo o0 (i+(k+1))+x*lo b (k+1)*pw i:=by
 rw[show i+(k+1)=i+k+1 by omega,Oz hk,Lc,Lc,Ms,←hd]
 have e:=Nat.div_add_mod s 4294967296
 generalize s%4294967296=r at e ⊢
 generalize s/4294967296=q at e ⊢
 rw[pw_add]at h ⊢
 grind
theorem mul_row{o o0 a b:List Nat}{i q x y:Nat}(hlen:i+q<o.length)(hx:dg a i=x)(hb:val b=lo b q)
 (h0:val o0=lo a i*val b) (hz0:∀j,i+q≤j→dg o0 j=0) (hag:∀j,i+q≤j→dg o j=dg o0 j)
 (h:lo o (i+q)+y*pw (i+q)=lo o0 (i+q)+x*lo b q*pw i):
 val (o.set (i+q) y)=lo a (i+1)*val b∧∀j,i+1+q≤j→dg (o.set (i+q) y) j=0:=by
 have hz:∀j,i+1+q≤j→dg (o.set (i+q) y) j=0:=by
  intro j hj
  rw[P4,if_neg Zo,hag j Zo,hz0 j Zo]
 refine⟨?_,hz⟩
 rw[val_lo hz,show i+1+q=i+q+1 by omega,Oz hlen,h,←val_lo hz0,h0,Lc,hx,hb]
 grind
theorem Qz{l:List Nat}{k:Nat}(h:k<l.length):val (l.drop k)=dg l k+4294967296*val (l.drop (k+1)):=by
 rw[List.drop_eq_getElem_cons h,Dp,dg_in h]
theorem Tw{l:List Nat}{k:Nat}(h:l.length≤k):val (l.drop k)=0:=by
 rw[List.drop_eq_nil_of_le h];rfl
theorem div_step{a o:List Nat}{k d r q r':Nat}(ha:k<a.length)(ho:k<o.length)(h:val (o.drop (k+1))*d+r=val (a.drop (k+1)))
 (hq:q=(r*4294967296+dg a k)/d) (hr:r'=(r*4294967296+dg a k)%d):
 val ((o.set k q).drop k)*d+r'=val (a.drop k):=by
 have h1:val ((o.set k q).drop (k+1))=val (o.drop (k+1)):=D1 fun j=>by
  rw[Pr,Pr,P4,if_neg Zo]
 rw[Qz ha,Qz (by rw[List.length_set];exact ho),h1,P4,if_pos ⟨rfl,ho⟩]
 have e:=Nat.div_add_mod (r*4294967296+dg a k) d
 rw[←hq,←hr]at e
 clear hq hr h1
 grind
theorem div_digit{r x d:Nat}(hr:r<d)(hx:x<4294967296):(r*4294967296+x)/d<4294967296:=by
 rw[Nat.div_lt_iff_lt_mul Zo]
 have:(r+1)*4294967296≤d*4294967296:=Nat.mul_le_mul_right _ hr
 have:d*4294967296=4294967296*d:=Nat.mul_comm ..
 omega
theorem F5{a q d r:Nat}(h:q*d+r=a)(hr:r<d):q=a/d∧r=a%d:=by
 subst h
 constructor
 ·rw[Nat.add_comm,Nat.add_mul_div_right _ _ Zo,Nat.div_eq_of_lt hr];omega
 ·rw[Nat.add_comm,Nat.add_mul_mod_self_right,Nat.mod_eq_of_lt hr]
theorem Ud(a:Addr)(n:Nat):(a.add n).block=a.block:=by unfold Addr.add;split<;>rfl
def Mu(w:World)(B size:Nat)(A:Option Addr)(n:Nat)(xs:List Value):Prop:=
 xs.length=n*size∧(0<n→∃ad,A=some ad∧ad.block<B∧∀j u,xs[j]? =some u→w.cell? (ad.add j)=some u)
section
variable{w w':World}{B B' size n:Nat}{A:Option Addr}{xs:List Value}
theorem Mu.none_:Mu w B size A 0 []:=⟨by simp,fun h=>absurd h Zo⟩
theorem Mu.at_{k:Nat}(h:Mu w B 1 A n xs)(hk:k<n):∃ad u,A=some ad∧ad.block<B∧xs[k]? =some u∧w.cell? (ad.add k)=some u:=by
 obtain⟨ad,e,hb,hc⟩:=h.2 Zo
 have hl:k<xs.length:=by have:=h.1;omega
 exact⟨ad,xs[k],e,hb,List.getElem?_eq_getElem hl,hc k _ (List.getElem?_eq_getElem hl)⟩
theorem Mu.keep(h:Mu w B size A n xs)(hk:∀p:Addr,p.block<B→w'.cell? p=w.cell? p):Mu w' B size A n xs:=
 ⟨h.1,fun hn=>by
  obtain⟨ad,e,hb,hc⟩:=h.2 hn
  exact⟨ad,e,hb,fun j u hu=>(hk _ (by rw[Ud];exact hb)).trans (hc j u hu)⟩⟩
theorem Mu.more(h:Mu w B size A n xs)(hB:B≤B'):Mu w B' size A n xs:=
 ⟨h.1,fun hn=>by
  obtain⟨ad,e,hb,hc⟩:=h.2 hn
  exact⟨ad,e,by omega,hc⟩⟩
theorem Mu.below(h:Mu w B size A n xs)(hb:Below B w w'):Mu w' B size A n xs:=h.keep fun _ hp=>hb.cell hp
theorem Mu.alloc(h:Mu w B size A n xs)(hB:B≤w.heap.size)(o:Obj):Mu (w.alloc o) B size A n xs:=h.keep fun p hp=>World.cell?_alloc_lt w o p Zo
theorem Mu.of_own{base:Nat}{e:TypeId}{c:Nat}(h:w.ownsRow base e size (.slice A n c) n xs):Mu w w.heap.size size A n xs:=by
 refine⟨h.1,fun hn=> ?_⟩
 obtain⟨g,cap,hv,_,hlt⟩:=h.form hn
 have hA:A=some ⟨g,0,none⟩:=by injection hv
 subst hA
 exact⟨_,rfl,hlt,h.cells (g:=g) rfl⟩
end
def Yv(w:World)(g:Nat)(t:TypeId)(cs:Array Value):Prop:=w.heap[g]? =some (.cells cs t (0,0))
section
variable{w w':World}{g:Nat}{t:TypeId}{cs:Array Value}
theorem Yv.lt(h:Yv w g t cs):g<w.heap.size:=by
 rcases Nat.lt_or_ge g w.heap.size with hlt|hge
 ·exact hlt
 ·unfold Yv at h;rw[Array.getElem?_eq_none hge]at h;cases h
theorem Yv.cell(h:Yv w g t cs)(i:Nat):w.cell? ⟨g,i,none⟩=cs[i]? :=cell_of_row w g i cs t (0,0) h
theorem Yv.frozen(h:Yv w g t cs)(i:Nat):w.frozen? ⟨g,i,none⟩=false:=by
 unfold Yv at h
 simp[World.frozen?,h]
theorem Yv.new(w:World)(t:TypeId)(cs:Array Value):Yv (w.alloc (.cells cs t)) w.heap.size t cs:=heap_alloc_new w _
theorem Yv.set_(h:Yv w g t cs)(i:Nat)(u:Value):Yv (w.setCell ⟨g,i,none⟩ u) g t (cs.setIfInBounds i u):=by
 unfold Yv at h ⊢
 simp[World.setCell,Array.getElem?_modify,h]
theorem Yv.far(h:Yv w g t cs){p:Addr}(hp:g≠p.block)(u:Value):Yv (w.setCell p u) g t cs:=(Below.heap_setCell w p u g hp).trans h
theorem Yv.grown{row:Option Nat}(h:Yv w g t cs)(hb:w.grownBy w' row)(hg:some g≠row):Yv w' g t cs:=(hb.block g h.lt hg).trans h
end
section
variable{P:Program}(w:World)
theorem Zf(base:Nat)(t ty e:TypeId)(i:TypeInfo)(size:Nat)(ht:P.underlying t=some (.slice e))(hi:P.info? e=some i)
 (v:Value) (n:Nat) (xs:List Value) (hown:w.ownsRow base e size v n xs) (c:Nat):(Builtin.append_ #[t,t] ty #[v,.slice none 0 c]).run P w= .ok v w:=by
 rcases hown.2 with ⟨rfl,rfl⟩|⟨g,cap,cur,rfl,_,_,hnc,_⟩
 ·simp[Builtin.append_,run_underlying ht,sizeOf,typeInfo,hi,Builtin.lenOf,Builtin.firstCells]
 ·simp[Builtin.append_,run_underlying ht,sizeOf,typeInfo,hi,Builtin.lenOf,Builtin.firstCells,hnc,storeCells]
theorem V4(base:Nat)(t ty e:TypeId)(i:TypeInfo)(z:Value)(size bytes:Nat)(ht:P.underlying t=some (.slice e))(hi:P.info? e=some i)(hz:i.zero=some z)
 (hsize:i.size=size) (hby:i.bytes=bytes) (hzs:z.cells.size=size) (hsz:0<size)
 (v:Value) (n:Nat) (xs:List Value) (hown:w.ownsRow base e size v n xs)
 (B:Nat) (A:Option Addr) (m c:Nat) (news:List Value) (hr:Mu w B size A m news) (h1:∀u∈news,u.oneCell'=true)
 (h63:n+m≤maxLen) (hbytes:(n+m)*bytes≤140737488355328) (hbase:base≤w.heap.size):
 ∃v' w',(Builtin.append_ #[t,t] ty #[v,.slice A m c]).run P w= .ok v' w'∧w'.ownsRow base e size v' (n+m) (xs++news)∧w.grownBy w' v.ownBlock∧
  (v'.ownBlock=v.ownBlock∨v'.ownBlock=some w.heap.size):=by
 rcases A with _|ad
 ·have hm:m=0:=by
   rcases Nat.eq_zero_or_pos m with h0|h0
   ·exact h0
   ·obtain⟨ad,h,_⟩:=hr.2 h0
    cases h
  subst hm
  have hn:news=[]:=List.eq_nil_of_length_eq_zero (by simpa using hr.1)
  subst hn
  exact⟨v,w,Zf w base t ty e i size ht hi v n xs hown c,by simpa using hown,World.grownBy.refl w _,.inl rfl⟩
 ·have hcells:∀j u,news[j]? =some u→w.cell? (ad.add j)=some u:=by
   intro j u hu
   rcases Nat.eq_zero_or_pos m with h0|h0
   ·subst h0
    have hn:news=[]:=List.eq_nil_of_length_eq_zero (by simpa using hr.1)
    subst hn
    simp at hu
   ·obtain⟨ad',h,_,hc⟩:=hr.2 h0
    injection h with h
    subst h
    exact hc j u hu
  obtain⟨v',w',hrun,h2,h3,_,h5⟩:=run_append_own_at (P:=P) w base t ty e i z size bytes ht hi hz hsize hby hzs hsz v n xs hown ad m c news hr.1 hcells h1 h63 hbytes hbase
  exact⟨v',w',hrun,h2,h3,h5⟩
theorem Fz{o:Oper}{a:Act}{K:Act→World→Prop}{Q:Exit→Act→World→Prop}(s x:Operand)(t:TypeId)
 (ho:o.op= .call {callee:= .builtin .append,args:= #[s,x],argTypes:= #[t,t]})
 (base:Nat) (e:TypeId) (i:TypeInfo) (z:Value) (size bytes:Nat) (ht:P.underlying t=some (.slice e)) (hi:P.info? e=some i) (hz:i.zero=some z)
 (hsize:i.size=size) (hby:i.bytes=bytes) (hzs:z.cells.size=size) (hsz:0<size)
 (v:Value) (n:Nat) (xs:List Value) (hs:a.eval s=v) (hown:w.ownsRow base e size v n xs)
 (B:Nat) (A:Option Addr) (m c:Nat) (news:List Value) (hx:a.eval x= .slice A m c) (hr:Mu w B size A m news) (h1:∀u∈news,u.oneCell'=true)
 (h63:n+m≤maxLen) (hbytes:(n+m)*bytes≤140737488355328) (hbase:base≤w.heap.size)
 (h:∀v' w',w'.ownsRow base e size v' (n+m) (xs++news)→w.grownBy w' v.ownBlock→(v'.ownBlock=v.ownBlock∨v'.ownBlock=some w.heap.size)→K (a.put o.dst v') w'):o.wp P a w K Q:=by
 obtain⟨v',w',hrun,h2,h3,h4⟩:=V4 (P:=P) w base t o.type e i z size bytes ht hi hz hsize hby hzs hsz v n xs hown B A m c news hr h1 h63 hbytes hbase
 unfold Oper.wp execOp
 simp only[ho,resolve,invoke,builtin,Sem.run_bind,Sem.run_pure,Result.andThen_ok,List.map_toArray,List.map_cons,List.map_nil,hs,hx,hrun]
 exact h v' w' h2 h3 h4
theorem Yw{ops:Array Oper}{rest:List Oper}{o:Oper}{a:Act}{Q:Exit→Act→World→Prop}(hgd:o.guard=none)(s x:Operand)(t:TypeId)
 (ho:o.op= .call {callee:= .builtin .append,args:= #[s,x],argTypes:= #[t,t]})
 (base:Nat) (e:TypeId) (i:TypeInfo) (z:Value) (size bytes:Nat) (ht:P.underlying t=some (.slice e)) (hi:P.info? e=some i) (hz:i.zero=some z)
 (hsize:i.size=size) (hby:i.bytes=bytes) (hzs:z.cells.size=size) (hsz:0<size)
 (v:Value) (n:Nat) (xs:List Value) (hs:a.eval s=v) (hown:w.ownsRow base e size v n xs)
 (B:Nat) (A:Option Addr) (m c:Nat) (news:List Value) (hx:a.eval x= .slice A m c) (hr:Mu w B size A m news) (h1:∀u∈news,u.oneCell'=true)
 (h63:n+m≤maxLen) (hbytes:(n+m)*bytes≤140737488355328) (hbase:base≤w.heap.size)
 (h:∀v' w',w'.ownsRow base e size v' (n+m) (xs++news)→w.grownBy w' v.ownBlock→(v'.ownBlock=v.ownBlock∨v'.ownBlock=some w.heap.size)→wpList P ops Q rest (a.put o.dst v') w'):wpList P ops Q (o::rest) a w:=
 wpList_plain hgd fun _ hK=>Fz w s x t ho base e i z size bytes ht hi hz hsize hby hzs hsz v n xs hs hown B A m c news hx hr h1 h63 hbytes hbase fun v' w' h2 h3 h4=>hK _ _ (h v' w' h2 h3 h4)
end
theorem Le{p:Prop}(h:p):Hid p:=h
theorem K5{p:Prop}(h:Hid p):p:=h
def Py(l:List Nat):List Value:=l.map fun(d:Nat)=>Value.int .u32 (d:Int)
theorem O4(l:List Nat):(Py l).length=l.length:=by simp[Py]
theorem T8{l:List Nat}{i:Nat}(h:i<l.length):(Py l)[i]? =some (.int .u32 (dg l i:Int)):=by
 simp[Py,dg,h]
theorem u32s_one{l:List Nat}:∀u∈Py l,u.oneCell'=true:=by
 intro u hu
 simp only[Py,List.mem_map]at hu
 obtain⟨d,_,rfl⟩:=hu
 rfl
theorem u32s_set(l:List Nat)(i d:Nat):(Py l).set i (.int .u32 (d:Int))=Py (l.set i d):=by
 simp[Py,List.map_set]
theorem u32s_append(a b:List Nat):Py (a++b)=Py a++Py b:=by simp[Py]
structure In(w:World)(A:Option Addr)(n c:Nat)(l:List Nat):Prop where
 dig:O3 l
 len:l.length=n
 le:n≤c
 cap:c≤maxLen
 rd:Mu w w.heap.size 1 A n (Py l)
structure Sr(w:World)(B:Nat)(A:Option Addr)(n c:Nat)(l:List Nat):Prop extends In w A n c l where
 own:0<c→∃g cur t,A=some ⟨g,0,none⟩∧B≤g∧w.heap[g]? =some (.cells cur t (0,0))∧c≤cur.size
section
variable{w w':World}{A:Option Addr}{n c:Nat}{l:List Nat}
theorem In.keep(h:In w A n c l)(hs:w.heap.size≤w'.heap.size)(hk:∀p:Addr,p.block<w.heap.size→w'.cell? p=w.cell? p):In w' A n c l:=
 ⟨h.dig,h.len,h.le,h.cap,(h.rd.keep hk).more hs⟩
theorem In.below(h:In w A n c l)(hb:Below w.heap.size w w'):In w' A n c l:=h.keep hb.size fun _ hp=>hb.cell hp
theorem In.at_(h:In w A n c l){k:Nat}(hk:k<n):∃ad,A=some ad∧w.cell? (ad.add k)=some (.int .u32 (dg l k:Int)):=by
 obtain⟨ad,u,hA,_,hu,hc⟩:=h.rd.at_ hk
 rw[T8 (by rw[h.len];exact hk)]at hu
 injection hu with hu
 subst hu
 exact⟨ad,hA,hc⟩
theorem In.nil_:In w none 0 0 []:=⟨O3.nil,rfl,Nat.le_refl _,by unfold maxLen;omega,Mu.none_⟩
theorem In.take(h:In w A n c l){k c':Nat}(hk:k≤n)(hc:k≤c')(hcap:c'≤maxLen):In w A k c' (l.take k):=by
 refine⟨h.dig.take k,by rw[List.length_take,h.len];omega,hc,hcap,?_⟩
 refine⟨by rw[O4,List.length_take,h.len];omega,fun h0=> ?_⟩
 obtain⟨ad,hA,hb,hcell⟩:=h.rd.2 Zo
 refine⟨ad,hA,hb,fun j u hu=>hcell j u ?_⟩
 have e:Py (l.take k)=(Py l).take k:=by simp[Py,List.map_take]
 rw[e,List.getElem?_take]at hu
 split at hu
 ·exact hu
 ·cases hu
theorem In.trim(h:In w A n c l):In w A (tlen l n) (tlen l n) (Go.Proofs.YtpgkbllcnphmbaaGreatDoor.trim l):=by
 have e:Go.Proofs.YtpgkbllcnphmbaaGreatDoor.trim l=l.take (tlen l n):=by rw[Go.Proofs.YtpgkbllcnphmbaaGreatDoor.trim,h.len]
 rw[e]
 exact h.take (Mz _ _) (Nat.le_refl _) (Nat.le_trans (Nat.le_trans (Mz _ _) h.le) h.cap)
theorem Sr.below{B:Nat}(h:Sr w B A n c l)(hb:Below w.heap.size w w'):Sr w' B A n c l:=
 ⟨h.toIn.below hb,fun h0=>by
  obtain⟨g,cur,t,hA,hg,hh,hcs⟩:=h.own h0
  exact⟨g,cur,t,hA,hg,(hb.block g (Array.getElem?_eq_some_iff.1 hh).1).trans hh,hcs⟩⟩
theorem Sr.base{B B':Nat}(h:Sr w B A n c l)(hB:B'≤B):Sr w B' A n c l:=
 ⟨h.toIn,fun h0=>by
  obtain⟨g,cur,t,hA,hg,hh,hcs⟩:=h.own h0
  exact⟨g,cur,t,hA,by omega,hh,hcs⟩⟩
theorem Sr.nil_{B:Nat}:Sr w B none 0 0 []:=⟨In.nil_,fun h=>absurd h Zo⟩
theorem Sr.take{B:Nat}(h:Sr w B A n c l){k c':Nat}(hk:k≤n)(hc:k≤c')(hcap:c'≤c):Sr w B A k c' (l.take k):=
 ⟨h.toIn.take hk hc (Nat.le_trans hcap h.cap),fun h0=>by
  obtain⟨g,cur,t,hA,hg,hh,hcs⟩:=h.own Zo
  exact⟨g,cur,t,hA,hg,hh,by omega⟩⟩
theorem Sr.trim{B:Nat}(h:Sr w B A n c l):Sr w B A (tlen l n) (tlen l n) (Go.Proofs.YtpgkbllcnphmbaaGreatDoor.trim l):=by
 have e:Go.Proofs.YtpgkbllcnphmbaaGreatDoor.trim l=l.take (tlen l n):=by rw[Go.Proofs.YtpgkbllcnphmbaaGreatDoor.trim,h.len]
 rw[e]
 exact h.take (Mz _ _) (Nat.le_refl _) (Nat.le_trans (Mz _ _) h.le)
def Mk(w:World)(g t:Nat)(l:List Nat):Prop:=Yv w g t (Py l).toArray
theorem Mk.cell{g t:Nat}(h:Mk w g t l){i:Nat}(hi:i<l.length):w.cell? ⟨g,i,none⟩=some (.int .u32 (dg l i:Int)):=by
 rw[Yv.cell h,List.getElem?_toArray,T8 hi]
theorem Mk.frozen{g t:Nat}(h:Mk w g t l)(i:Nat):w.frozen? ⟨g,i,none⟩=false:=Yv.frozen h i
theorem Mk.lt{g t:Nat}(h:Mk w g t l):g<w.heap.size:=Yv.lt h
theorem Mk.set_{g t:Nat}(h:Mk w g t l)(i d:Nat):Mk (w.setCell ⟨g,i,none⟩ (.int .u32 (d:Int))) g t (l.set i d):=by
 have:=Yv.set_ h i (.int .u32 (d:Int))
 unfold Mk
 rw[←u32s_set]
 simpa using this
theorem Mk.far{g t:Nat}(h:Mk w g t l){p:Addr}(hp:g≠p.block)(u:Value):Mk (w.setCell p u) g t l:=Yv.far h hp u
theorem Mk.own{g t B:Nat}(h:Mk w g t l)(hd:O3 l)(hB:B≤g)(hm:l.length≤maxLen):Sr w B (some ⟨g,0,none⟩) l.length l.length l:=by
 refine⟨⟨hd,rfl,Nat.le_refl _,hm,⟨by rw[O4];omega,fun _=>⟨_,rfl,h.lt,fun j u hu=> ?_⟩⟩⟩,fun _=>⟨g,_,t,rfl,hB,h,by simp[O4]⟩⟩
 have e:(⟨g,0,none⟩:Addr).add j=⟨g,j,none⟩:=by unfold Addr.add;split<;>simp_all
 rw[e,Yv.cell h,List.getElem?_toArray];exact hu
theorem Sr.of_row{B t:Nat}{v:Value}(h:w.ownsRow B t 1 v n (Py l))(hd:O3 l)(hl:l.length=n):∃A c,v= .slice A n c∧Sr w B A n c l:=by
 rcases h.2 with ⟨rfl,rfl⟩|⟨g,cap,cur,rfl,hg,hh,hn,hc,hs,ht⟩
 ·have:l=[]:=List.length_eq_zero_iff.1 hl
  subst this
  exact⟨none,0,rfl,Sr.nil_⟩
 ·exact⟨some ⟨g,0,none⟩,cap,rfl,⟨hd,hl,hn,hc,Mu.of_own h⟩,fun _=>⟨g,cur,t,rfl,hg,hh,by omega⟩⟩
def Cx(w:World)(k:Nat)(e:Ending)(w':World):Prop:=
 ∃A n c l,e= .returned (.slice A n c)∧Pp l∧val l=k∧Sr w' w.heap.size A n c l∧Below w.heap.size w w'
end
def Vs(a b:Nat):Int:=if a<b then -1 else if a=b then 0 else 1
theorem Dh{a b:Nat}(h:a<b):Vs a b= -1:=by simp[Vs,h]
theorem cmpN_gt{a b:Nat}(h:b<a):Vs a b=1:=by
 unfold Vs;rw[if_neg Zo,if_neg Zo]
theorem cmpN_eq{a b:Nat}(h:a=b):Vs a b=0:=by
 unfold Vs;rw[if_neg Zo,if_pos h]
theorem Tryz.info_u32:(Tryz.prog.info? 144).map (fun i=>(i.zero,i.size,i.bytes))=some (some (.int .u32 0),1,4):=by kernel_rfl
theorem In.capI{w:World}{A:Option Addr}{n c:Nat}{l:List Nat}(h:In w A n c l):c≤9223372036854775807:=by
 have:=h.cap;unfold maxLen at this;omega
theorem In.lenI{w:World}{A:Option Addr}{n c:Nat}{l:List Nat}(h:In w A n c l):n≤9223372036854775807:=by
 have:=h.capI;have:=h.le;omega
theorem Xm{A:Option Addr}{n c:Nat}{l:List Nat}(i:Int)(w:World)(h:In w A n c l)(h0:0≤i):
 Calls Tryz.prog 252 #[.slice A n c,.int .i64 i] w fun e w'=>e= .returned (.int .u64 (dg l i.toNat:Nat))∧w=w':=by
 obtain⟨k,rfl⟩:=Int.eq_ofNat_of_zero_le h0
 have hn:=h.lenI
 have hd:=h.dig k
 by_cases hk:k<n
 ·obtain⟨ad,rfl,hc⟩:=h.at_ hk
  have hl:=Le h.len
  clear h h0
  go_enter Tryz.func252,Tryz.ntmps252
  go_wp2
  go_ret
  exact⟨rfl,rfl⟩
 ·have hl:=Le h.len
  have e:Hid (dg l k=0):=Ua (by rw[h.len];omega)
  clear h h0
  go_enter Tryz.func252,Tryz.ntmps252
  go_wp2
  go_ret
  refine⟨?_,rfl⟩
  rw[Int.toNat_natCast,K5 e];rfl
theorem Li{A:Option Addr}{n c:Nat}{l:List Nat}(w:World)(h:In w A n c l):
 Calls Tryz.prog 171 #[.slice A n c] w fun e w'=>e= .returned (.slice A (tlen l n) (tlen l n))∧w=w':=by
 have hn:=h.lenI
 have hc:=h.capI
 have hnc:=h.le
 have H:=Le h
 clear h
 go_enter Tryz.func171,Tryz.ntmps171
 go_wp2
 go_loop [3] (fun i=>∃k:Nat,k≤n∧i= .int .i64 k∧tlen l k=tlen l n) (fun i=>(intOf i).toNat)
 case atStart=>exact⟨n,Nat.le_refl _,rfl,rfl⟩
 case round=>
  obtain⟨k,hk,rfl,ht⟩:=hrel
  have HT:=Le ht
  clear ht
  by_cases hk0:k=0
  ·subst hk0
   go_wp2
   go_ret
   have e:=K5 HT
   rw[show tlen l 0=0 from rfl]at e
   refine⟨?_,rfl⟩
   rw[←e]
   rfl
  ·obtain⟨j,rfl⟩:∃j,k=j+1:=⟨k-1,by omega⟩
   obtain⟨ad,rfl,hcell⟩:=(K5 H).at_ (k:=j) Zo
   go_wp2
   ·have h0:(((dg l j:Nat):Int)==0)=true:=by assumption
    go_round
    case rel=>exact⟨j,by omega,rfl,by rw[←K5 HT,tlen_step];simpa using h0⟩
    case measure=>simp[intOf]
   ·have h0:(((dg l j:Nat):Int)==0)=false:=by assumption
    go_ret
    have e:=K5 HT
    rw[tlen_stop (by simpa using h0)]at e
    refine⟨?_,rfl⟩
    rw[←e]
    rfl
def RetL(w:World)(l:List Nat)(e:Ending)(w':World):Prop:=
 ∃A n c,e= .returned (.slice A n c)∧Sr w' w.heap.size A n c l∧Below w.heap.size w w'
theorem clone_c{A:Option Addr}{n c:Nat}{l:List Nat}(w:World)(h:In w A n c l)(hb:n≤1099511627776):
 Calls Tryz.prog 170 #[.slice A n c] w (RetL w l):=by
 have hn:=h.lenI
 have hc:=h.capI
 have hnc:=h.le
 have hr:=Le h.rd
 have hd:=h.dig
 have hl:=Le h.len
 clear h
 obtain⟨i0,hi0,hz0,hz1,hz2⟩:=info_parts Tryz.info_u32
 have hnil:=fun W=>Lib.run_eql_slice_nil (P:=Tryz.prog) W 22 144 A n c 0 0 Tryz.underlying22
 by_cases hA:A=none
 ·have h0:n=0:=by
   rcases Nat.eq_zero_or_pos n with e|e
   ·exact e
   ·obtain⟨ad,h,_⟩:=(K5 hr).2 e
    rw[hA]at h;cases h
  subst hA
  subst h0
  go_enter Tryz.func170,Tryz.ntmps170
  go_wp2
  go_ret
  have:l=[]:=List.length_eq_zero_iff.1 (K5 hl)
  subst this
  exact⟨none,0,0,rfl,Sr.nil_,Below.refl _ _⟩
 ·obtain⟨ad,rfl⟩:∃ad,A=some ad:=by
   cases A with
   |none=>exact absurd rfl hA
   |some ad=>exact⟨ad,rfl⟩
  clear hA
  go_enter Tryz.func170,Tryz.ntmps170
  go_wp2_with (first
   |(at_builtin;refine Yw _ rfl (.tmp 5) (.tmp 6) 22 rfl w.heap.size 144 i0 _ 1 4 Tryz.underlying22 hi0 hz0 hz1 hz2 rfl Zo (.slice (some ⟨w.heap.size,0,none⟩) 0 0) 0 [] rfl (World.ownsRow_lit _ _ _ (Nat.le_refl _) (by unfold maxLen;omega) rfl) w.heap.size (some ad) n c (Py l) rfl ((K5 hr).alloc (Nat.le_refl _) _) u32s_one (by simp only[maxLen];omega) Zo Zs ?_;intro v1 w1 hown1 hg1 hat1))
  go_ret
  simp only[Nat.zero_add,List.nil_append]at hown1
  obtain⟨A1,c1,rfl,ho⟩:=Sr.of_row hown1 hd (K5 hl)
  exact⟨A1,n,c1,rfl,ho,((Below.refl _ _).alloc (Nat.le_refl _) _).grown hg1 Zs (fun k hk=>by simp[Value.ownBlock]at hk;omega)⟩
theorem Sk{A:Option Addr}{n c:Nat}{l:List Nat}(w:World)(h:In w A n c l)(hb:n≤1099511627776):
 Calls Tryz.prog 106 #[.slice A n c] w (RetL w (trim l)):=by
 have ht:=Mz l n
 go_enter Tryz.func106,Tryz.ntmps106
 go_wp2_with fail
 refine(Li w h).mono ?_
 rintro e w' ⟨rfl,rfl⟩
 go_wp2_with fail
 refine(clone_c w h.trim Zo).mono ?_
 rintro e w' ⟨A1,n1,c1,rfl,ho,hw⟩
 go_wp2_with fail
 go_ret
 exact⟨A1,n1,c1,rfl,ho,hw⟩
theorem two_digits(k:Nat)(hk:(k:Int)≤18446744073709551615):O3 [k%4294967296,k/4294967296]∧val [k%4294967296,k/4294967296]=k:=by
 refine⟨O3.cons Zo (O3.one Zo),?_⟩
 simp only[val];omega
theorem Zv(k:Nat)(hk:(k:Int)≤18446744073709551615)(w:World):
 Calls Tryz.prog 169 #[.int .u64 k] w (Cx w k):=by
 go_enter Tryz.func169,Tryz.ntmps169
 go_wp2_with fail
 have hmk:Mk (w.alloc (.cells #[.int .u32 ((k:Int)%4294967296),.int .u32 ((k:Int)/4294967296)] 144)) w.heap.size 144 [k%4294967296,k/4294967296]:=Yv.new w 144 _
 have h2:=two_digits k hk
 have ho:=hmk.own (B:=w.heap.size) h2.1 (Nat.le_refl _) (by simp[maxLen])
 refine(Sk _ ho.toIn Zs).mono ?_
 rintro e w' ⟨A1,n1,c1,rfl,ho1,hw⟩
 clear hmk ho
 go_wp2_with fail
 go_ret
 exact⟨A1,n1,c1,_,rfl,Lz h2.1,by rw[Kr,h2.2],ho1.base Zs,((Below.refl _ _).alloc (Nat.le_refl _) _).trans (hw.mono Zs)⟩
def zs(n:Nat):Array Value:=(Py (List.replicate n 0)).toArray
theorem Oa(W:World)(k:Int)(N:Nat)(hk:k=N)(hN:N≤17592186044416):
 (Instr.makeSlice 22 (.int .i64 k) (.int .i64 k)).run Tryz.prog W= .ok (.slice (some ⟨W.heap.size,0,none⟩) N N) (W.alloc (.cells (zs N) 144)):=by
 subst hk
 obtain⟨i0,hi0,hz0,hz1,hz2⟩:=info_parts Tryz.info_u32
 rw[run_make W 22 144 i0 _ Tryz.underlying22 hi0 hz0 .i64 .i64 N N Zo Zo (by rw[hz2];omega) Zo,hz1,Int.toNat_natCast,Nat.mul_one]
 congr 3
 apply Array.ext
 ·simp[zs,size_madeCells,Py]
 ·intro i h1 h2
  simp[madeCells,zs,Py,Value.cells,Nat.mod_one]
theorem Mk.zero(W:World)(N:Nat):Mk (W.alloc (.cells (zs N) 144)) W.heap.size 144 (List.replicate N 0):=Yv.new W 144 _
theorem add_c{A B:Option Addr}{n c m d:Nat}{a b:List Nat}(w:World)(ha:In w A n c a)(hb:In w B m d b)(hn:n≤1099511627776)(hm:m≤1099511627776):
 Calls Tryz.prog 173 #[.slice A n c,.slice B m d] w (Cx w (val a+val b)):=by
 have Ha:=Le ha
 have Hb:=Le hb
 clear ha hb
 obtain⟨N,h1,h2,hN,h3⟩:∃N,n≤N∧m≤N∧N≤1099511627776∧((n<m→N=m)∧(¬n<m→N=n)):=⟨max n m,by omega,by omega,by omega,by omega,by omega⟩
 have H3:=Le h3
 clear h3
 have hmk:=fun W=>Oa W (N+1) (N+1) rfl Zo
 go_enter Tryz.func173,Tryz.ntmps173
 go_wp2_with fail
 all_goals
  first
   |(have e:=(K5 H3).1 (by assumption);subst e)
   |(have e:=(K5 H3).2 (by assumption);subst e)
  clear H3
  go_simp
  go_wp2
  have hM:=Mk.zero w (N+1)
  go_loopw [6,17] (fun cy i wr=>∃(k y:Nat) (o:List Nat),k≤N+1∧i= .int .i64 k∧cy= .int .u64 y∧o.length=N+1∧O3 o∧y≤1∧lo o k+y*pw k=lo a k+lo b k∧Mk wr w.heap.size 144 o∧Below w.heap.size w wr) (fun _ i _=>N+1- (intOf i).toNat)
  case atStart=>exact⟨0,0,_,Nat.zero_le _,rfl,rfl,by simp,O3.replicate _,by omega,by simp[O0],hM,(Below.refl _ _).alloc (Nat.le_refl _) _⟩
  case round=>
   obtain⟨k,y,o,hk,rfl,rfl,hol,hod,hy,hsum,hmk,hbw⟩:=hrel
   clear hM
   have Hol:=Le hol
   have Hsum:=Le hsum
   clear hol hsum
   by_cases hlt:k<N+1
   ·have hda:=(K5 Ha).dig k
    have hdb:=(K5 Hb).dig k
    have hcell:=hmk.cell (i:=k) (by rw[K5 Hol];exact hlt)
    have hfz:=hmk.frozen k
    go_wp2_with fail
    refine(Xm _ _ ((K5 Ha).below hbw) Zo).mono ?_
    rintro e w' ⟨rfl,rfl⟩
    go_wp2_with fail
    refine(Xm _ _ ((K5 Hb).below hbw) Zo).mono ?_
    rintro e w' ⟨rfl,rfl⟩
    go_wp2
    have hst:=hmk.set_ k ((y+(dg a k+dg b k))%4294967296)
    rw[show(((y+(dg a k+dg b k))%4294967296:Nat):Int)=((y:Int)+(dg a k+dg b k))%4294967296 by omega]at hst
    go_roundw
    case rel=>exact⟨k+1,(y+(dg a k+dg b k))/4294967296,_,by omega,by go_num,by go_num,by rw[List.length_set];exact K5 Hol,hod.set _ Zo,by omega,add_step (by rw[K5 Hol];exact hlt) (K5 Hsum),hst,hbw.setCell (Nat.le_refl _) _⟩
    case measure=>simp[intOf];omega
   ·have hk':k=N+1:=by omega
    subst hk'
    have ho:=hmk.own hod (Nat.le_refl _) (by rw[K5 Hol];unfold maxLen;omega)
    rw[K5 Hol]at ho
    go_wp2_with fail
    refine(Li _ ho.toIn).mono ?_
    rintro e w' ⟨rfl,rfl⟩
    go_wp2_with fail
    go_ret
    have ha:=K5 Ha
    have hb:=K5 Hb
    exact⟨_,_,_,trim o,rfl,Lz hod,by rw[Kr];exact add_end (K5 Hol) ha.dig hb.dig (by rw[ha.len];omega) (by rw[hb.len];omega) (K5 Hsum),ho.trim,hbw⟩
theorem In.drewN{w:World}{A:Option Addr}{n c:Nat}{l:List Nat}(h:In w A n c l)(q:Nat):In (w.drewN q) A n c l:=⟨h.dig,h.len,h.le,h.cap,h.rd⟩
theorem P5{B:Nat}{a w:World}(h:Below B a w)(n:Nat):Below B a (w.drewN n):=⟨h.os,h.tape,h.output,h.size,h.block⟩
def Qd(w w':World):Prop:=∃q,w'=w.drewN q
theorem Qd.refl(w:World):Qd w w:=⟨0,rfl⟩
theorem Qd.drewN{w w':World}(h:Qd w w')(n:Nat):Qd w (w'.drewN n):=by
 obtain⟨q,rfl⟩:=h
 exact⟨q+n,World.drewN_drewN ..⟩
theorem Qd.of(w:World)(n:Nat):Qd w (w.drewN n):=⟨n,rfl⟩
def RetQ(w:World)(v:Value)(e:Ending)(w':World):Prop:=e= .returned v∧Qd w w'
theorem cmp_c{A B:Option Addr}{n c m d:Nat}{a b:List Nat}(w:World)(ha:In w A n c a)(hb:In w B m d b):
 Calls Tryz.prog 246 #[.slice A n c,.slice B m d] w (RetQ w (.int .i64 (Vs (val a) (val b)))):=by
 have Ta:=ha.trim
 have Tb:=hb.trim
 have va:=Kr a
 have vb:=Kr b
 have na:=Lz ha.dig
 have nb:=Lz hb.dig
 have Va:=Le va
 have Vb:=Le vb
 clear va vb
 have hp:=Ta.lenI
 have hq:=Tb.lenI
 rcases Nat.lt_trichotomy (tlen a n) (tlen b m)with h|h|h
 ·have K:Hid (Vs (val a) (val b)= -1):=Dh (by rw[←K5 Va,←K5 Vb];exact na.length_lt nb (by rw[Ta.len,Tb.len];exact h))
  go_enter Tryz.func246,Tryz.ntmps246
  go_wp2_with fail
  refine(Li w ha).mono ?_
  rintro e w' ⟨rfl,rfl⟩
  go_wp2_with fail
  refine(Li w hb).mono ?_
  rintro e w' ⟨rfl,rfl⟩
  go_wp2_with fail
  go_ret
  rw[K5 K]
  exact⟨rfl,Qd.refl _⟩
 ·have H:=Le h
  clear h
  have Hb:In w B (tlen a n) (tlen a n) (trim b):=by rw[K5 H];exact Tb
  go_enter Tryz.func246,Tryz.ntmps246
  go_wp2_with fail
  refine(Li w ha).mono ?_
  rintro e w' ⟨rfl,rfl⟩
  go_wp2_with fail
  refine(Li w hb).mono ?_
  rintro e w' ⟨rfl,rfl⟩
  rw[←K5 H]
  go_wp2_with fail
  go_loopw [5] (fun i wr=>∃(k:Nat) (z:Int),k≤tlen a n∧z+1=k∧i= .int .i64 z∧Hid (∀j,k≤j→dg (trim a) j=dg (trim b) j)∧Qd w wr) (fun i _=>(intOf i+1).toNat)
  case atStart=>
   refine⟨tlen a n,(tlen a n:Int)-1,Nat.le_refl _,by omega,rfl,fun j hj=> ?_,Qd.refl _⟩
   rw[Ua (by rw[Ta.len];exact hj),Ua (by rw[Hb.len];exact hj)]
  case round=>
   obtain⟨k,z,hk,hz,rfl,hag,⟨q,rfl⟩⟩:=hrel
   by_cases h0:k=0
   ·subst h0
    obtain rfl:z= -1:=by omega
    clear hz
    go_wp2
    go_ret
    refine⟨?_,Qd.of _ _⟩
    rw[cmpN_eq]
    ·rfl
    ·rw[←K5 Va,←K5 Vb]
     exact D1 fun j=>K5 hag j (Nat.zero_le _)
   ·obtain⟨j,rfl⟩:∃j,k=j+1:=⟨k-1,by omega⟩
    obtain rfl:z=(j:Int):=by omega
    clear hz h0
    obtain⟨ad,hA,hca⟩:=Ta.at_ (k:=j) Zo
    obtain⟨bd,hB,hcb⟩:=Hb.at_ (k:=j) Zo
    subst hA
    subst hB
    have hj:(j:Int)<(tlen a n:Int):=by omega
    go_wp2
    go_quiet (fail)
    go_wp2
    ·have hlt:dg (trim a) j<dg (trim b) j:=by assumption
     go_ret
     refine⟨?_,(Qd.of _ _).drewN _⟩
     rw[Dh (by rw[←K5 Va,←K5 Vb];exact Gc na.1 (fun i hi=>K5 hag i Zo) hlt)]
     rfl
    ·go_quiet (fail)
     go_wp2
     ·have hlt:dg (trim b) j<dg (trim a) j:=by assumption
      go_ret
      refine⟨?_,((Qd.of _ _).drewN _).drewN _⟩
      rw[cmpN_gt (by rw[←K5 Va,←K5 Vb];exact Gc nb.1 (fun i hi=>(K5 hag i Zo).symm) hlt)]
      rfl
     ·have h1:¬dg (trim a) j<dg (trim b) j:=by assumption
      have h2:¬dg (trim b) j<dg (trim a) j:=by assumption
      go_roundw
      case rel=>
       refine⟨j,(j:Int)-1,by omega,by omega,rfl,fun i hi=> ?_,Qd.of _ _⟩
       by_cases e:i=j
       ·subst e;omega
       ·exact K5 hag i Zo
      case measure=>simp[intOf]
 ·have K:Hid (Vs (val a) (val b)=1):=cmpN_gt (by rw[←K5 Va,←K5 Vb];exact nb.length_lt na (by rw[Ta.len,Tb.len];exact h))
  go_enter Tryz.func246,Tryz.ntmps246
  go_wp2_with fail
  refine(Li w ha).mono ?_
  rintro e w' ⟨rfl,rfl⟩
  go_wp2_with fail
  refine(Li w hb).mono ?_
  rintro e w' ⟨rfl,rfl⟩
  go_wp2_with fail
  go_ret
  rw[K5 K]
  exact⟨rfl,Qd.refl _⟩
end Go.Proofs.YtpgkbllcnphmbaaGreatDoor
