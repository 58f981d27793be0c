/-
 A part of the proof.
-/
import Derived.Test.YtoakjcolbjifnaaGreatDoorZZ
import Derived.Below
import Derived.WalkKit
import Derived.WalkSpells
import Derived.WalkLawsBesides
import Derived.Deep.AppendLies
import Derived.Deep.Draws
import Derived.Maps.AppendAt
import Derived.Test.YtoakjcolbjifnaaGreatDoorProg
import Derived.Deep.QuietTactic
import Derived.BigQuiet
import Derived.Deep.DeepCutAuto
import Derived.Lib.BitFns
open Go.IntWalk renaming i64_in->BP
open Go.Lib renaming bitLen->AC
open Go.Value renaming int->AK
open Int renaming natCast_mul->AP,tdiv_eq_ediv_of_nonneg->BA,tmod_eq_emod_of_nonneg->BB,toNat_natCast->BC,natCast_ediv->BH,eq_ofNat_of_zero_le->BJ
open List renaming length_set->AD,replicate->AL,length_take->AX,getElem?_eq_getElem->BF,length_eq_zero_iff->BI,drop_eq_nil_of_le->BK,getElem?_toArray->BM,drop_zero->BO
open Nat renaming le_refl->AA,mul_le_mul_right->AB,add_mul->AE,eq_zero_or_pos->AF,pow_le_pow_right->AH,div_add_mod->AI,pow_add->AM,div_lt_iff_lt_mul->AN,zero_le->AO,lt_of_lt_of_le->AQ,mul_comm->AR,add_comm->AU,mod_lt->AW,lt_or_ge->AY,le_trans->AZ,pow_succ->BD,div_eq_of_lt->BE,zero_add->BG,mul_le_mul->BL,min_eq_left->BN,le_of_eq->BQ
open Go renaming World->YM,Value->YI,Program->YH,Operand->XZ,Deferred->XY,TypeId->XX,Calls->XW,PanicEntry->XV,FuncId->XU,Oper->XT,Ending->XS,Addr->XR
open Go.IntKind renaming i64->XQ,u64->XP,u32->XO,u8->XN
namespace Go.Proofs.YtoakjcolbjifnaaGreatDoor
set_option maxRecDepth 100000
set_option maxHeartbeats 8000000
set_option linter.unusedVariables false
set_option linter.unusedSimpArgs false
open Go.RowKit Go.Proofs.Tryz
open Go.Proofs.Tryz renaming prog->XM
def val:List Nat->Nat
 | []=>0
 |d::l=>d+4294967296*val l
def dg(l:List Nat)(i:Nat):Nat:=l.getD i 0
def Oq(l:List Nat):Prop:=∀i,dg l i<4294967296
def pw(k:Nat):Nat:=4294967296 ^ k
def lo(l:List Nat)(k:Nat):Nat:=val (l.take k)
def Pe(l:List Nat):Prop:=Oq l/\(l=[]\/dg l (l.length-1)≠0)
theorem Fx:pw 0=1:=rfl
theorem N5(k:Nat):pw (k+1)=pw k*4294967296:=BD ..
theorem RG(a b:Nat):pw (a+b)=pw a*pw b:=AM ..
theorem Ak(k:Nat):0<pw k:=Nat.pow_pos I
theorem C0{a b:Nat}(h:a<=b):pw a<=pw b:=AH I h
theorem qr{a b:Nat}(h:a<b):pw a<pw b:=Nat.pow_lt_pow_right I h
theorem QF(i:Nat):dg [] i=0:=by simp[dg]
theorem Cf(d:Nat)(l:List Nat):dg (d::l) 0=d:=by simp[dg]
theorem Cg(d:Nat)(l:List Nat)(i:Nat):dg (d::l) (i+1)=dg l i:=by simp[dg]
theorem Vt{l:List Nat}{i:Nat}(h:l.length<=i):dg l i=0:=by
 simp[dg,List.getElem?_eq_none h]
theorem lP{l:List Nat}{i:Nat}(h:i<l.length):dg l i=l[i]:=by
 simp[dg,h]
theorem ID{l:List Nat}{k i:Nat}(h:i<k):dg (l.take k) i=dg l i:=by
 simp[dg,h]
theorem J6{l:List Nat}{k i:Nat}(h:k<=i):dg (l.take k) i=0:=
 Vt Zp
theorem Pr{l:List Nat}{k i d:Nat}:dg (l.set k d) i=if k=i/\k<l.length then d else dg l i:=by
 unfold dg
 by_cases h:k=i
 .subst h
  by_cases b:k<l.length<;>simp[b]
 .simp[h]
theorem J7{a b:List Nat}{i:Nat}(h:i<a.length):dg (a++b) i=dg a i:=by
 simp[dg,List.getElem?_append,h]
theorem Xb{a b:List Nat}{i:Nat}(h:a.length<=i):dg (a++b) i=dg b (i-a.length):=by
 simp[dg,List.getElem?_append,show¬i<a.length by omega]
theorem Qe{l:List Nat}{k i:Nat}:dg (l.drop k) i=dg l (k+i):=by
 simp[dg,List.getElem?_drop]
theorem Ss{n i:Nat}:dg (AL n 0) i=0:=by
 by_cases h:i<n<;>simp[dg,h]
theorem Oq.nil:Oq []:=λi=>by rw[QF];omega
theorem wF{l:List Nat}(h:∀d∈l,d<4294967296):Oq l:=by
 intro i
 by_cases hi:i<l.length
 .rw[lP hi];exact h _ (List.getElem_mem hi)
 .rw[Vt I];omega
theorem Oq.cons{d:Nat}{l:List Nat}(b:d<4294967296)(h:Oq l):Oq (d::l)
 |0=>by rw[Cf];exact b
 |i+1=>by rw[Cg];exact h i
theorem Oq.take{l:List Nat}(h:Oq l)(k:Nat):Oq (l.take k):=λi=>by
 by_cases hi:i<k
 .rw[ID hi];exact h i
 .rw[J6 I];omega
theorem Oq.drop{l:List Nat}(h:Oq l)(k:Nat):Oq (l.drop k):=λi=>by
 rw[Qe];exact h _
theorem Oq.set{l:List Nat}(h:Oq l)(k:Nat){d:Nat}(b:d<4294967296):Oq (l.set k d):=λi=>by
 rw[Pr];split
 .exact b
 .exact h i
theorem Oq.append{a b:List Nat}(c:Oq a)(e:Oq b):Oq (a++b):=λi=>by
 by_cases hi:i<a.length
 .rw[J7 hi];exact c i
 .rw[Xb I];exact e _
theorem Oq.replicate(n:Nat):Oq (AL n 0):=λi=>by rw[Ss];omega
theorem Oq.one{d:Nat}(h:d<4294967296):Oq [d]:=Oq.cons h Oq.nil
theorem JX:val []=0:=rfl
theorem Gn(d:Nat)(l:List Nat):val (d::l)=d+4294967296*val l:=rfl
theorem iO(d:Nat):val [d]=d:=by simp[val]
theorem Gp(a b:List Nat):val (a++b)=val a+pw a.length*val b:=by
 induction a with
 |nil=>simp[val,pw]
 |cons d l c=>simp only[List.cons_append,Gn,c,List.length_cons,N5];grind
theorem Oh(l:List Nat):lo l 0=0:=by simp[lo,val]
theorem Lq(l:List Nat):∀k,lo l (k+1)=lo l k+dg l k*pw k:=by
 induction l with
 |nil=>intro k;simp[lo,val,QF]
 | cons d l b=>
  intro k;cases k with
  |zero=>simp[lo,val,Cf,pw]
  |succ k=>
   have h:=b k;simp only[lo,List.take_succ_cons,Gn,Cg,N5]at h ⊢
   grind
theorem Mz{l:List Nat}{k:Nat}(h:l.length<=k):lo l k=val l:=by
 rw[lo,List.take_of_length_le h]
theorem Ew{l:List Nat}(h:Oq l):∀k,lo l k<pw k:=by
 intro k;induction k with
 |zero=>rw[Oh,Fx];omega
 |succ k b=>
  rw[Lq,N5];have c:=h k;have:dg l k*pw k<=4294967295*pw k:=AB _ I;omega
theorem IE{l:List Nat}(h:Oq l):val l<pw l.length:=by
 rw[<-Mz (AA _)];exact Ew h _
theorem Ni{l:List Nat}{k:Nat}(h:Oq l)(b:l.length<=k):val l<pw k:=
 AQ (IE h) (C0 b)
theorem k5(l:List Nat){a b:Nat}(h:a<=b):lo l a<=lo l b:=by
 induction b with
 | zero => have:a=0:=I
           subst this;exact AA _
 | succ b c=>
  by_cases e:a=b+1
  .subst e;exact AA _
  .have:=c I;rw[Lq];omega
theorem rN(l:List Nat)(k:Nat):lo l k<=val l:=by
 rw[<-Mz (l:=l) (Nat.le_max_left l.length k)];exact k5 l (Nat.le_max_right _ _)
theorem G6(l:List Nat)(k:Nat):val l=lo l k+pw k*val (l.drop k):=by
 by_cases h:k<=l.length
 .have:=Gp (l.take k) (l.drop k);rw[List.take_append_drop,AX,BN h]at this;exact this
 .rw[Mz I,BK I,val];omega
theorem D8{a b:List Nat}{k:Nat}(h:∀j,k<=j->dg a j=dg b j):val a+lo b k=val b+lo a k:=by
 have c:∀n k,(∀j,k<=j->dg a j=dg b j)->max a.length b.length<=k+n->val a+lo b k=val b+lo a k:=by
  intro n;induction n with
  |zero=>
   intro k _ f;rw[Mz (l:=a) I,Mz (l:=b) I];omega
  |succ n g=>
   intro k e f;have m:=g (k+1) (λj o=>e j I) I;rw[Lq,Lq,e k (AA _)]at m;omega
 exact c _ k h (Nat.le_add_left _ _)
theorem Fm{a b:List Nat}(h:∀j,dg a j=dg b j):val a=val b:=by
 have:=D8 (a:=a) (b:=b) (k:=0) (λj _=>h j);rw[Oh,Oh]at this;omega
theorem GY{a b:List Nat}{k:Nat}(h:∀j,j<k->dg a j=dg b j):lo a k=lo b k:=by
 induction k with
 |zero=>rw[Oh,Oh]
 |succ k c=>rw[Lq,Lq,c (λj e=>h j I),h k I]
theorem Wf{a b:List Nat}{k:Nat}(e:Oq a)(h:∀j,k<j->dg a j=dg b j)(f:dg a k<dg b k):val a<val b:=by
 have g:=D8 (a:=a) (b:=b) (k:=k+1) (λj l=>h j I);rw[Lq,Lq]at g;have m:=Ew e k;have c:(dg a k+1)*pw k<=dg b k*pw k:=AB _ f;rw[AE]at c;omega
theorem aT{l:List Nat}{k i d:Nat}(h:k<=i):lo (l.set i d) k=lo l k:=
 GY λj b=>by rw[Pr,YT I]
theorem Pp{l:List Nat}{i d:Nat}(h:i<l.length):lo (l.set i d) (i+1)=lo l i+d*pw i:=by
 rw[Lq,aT (AA _),Pr,YS ⟨rfl,h⟩]
theorem Vm(n k:Nat):lo (AL n 0) k=0:=by
 induction k with
 |zero=>exact Oh _
 |succ k b=>rw[Lq,b,Ss];omega
theorem W4(n:Nat):val (AL n 0)=0:=by
 rw[<-Mz (AA _)];exact Vm _ _
theorem PV{l:List Nat}{k:Nat}(h:∀j,k<=j->dg l j=0):val l=lo l k:=by
 have:=D8 (a:=l) (b:=[]) (k:=k) (λj c=>by rw[h j c,QF]);have e:lo [] k=0:=by simp[lo,val]
 rw[e,JX]at this;omega
def Ao(l:List Nat):Nat->Nat
 |0=>0
 |n+1=>if dg l n=0 then Ao l n else n+1
def trim(l:List Nat):List Nat:=l.take (Ao l l.length)
theorem Nr(l:List Nat):∀n,Ao l n<=n
 |0=>AA _
 |n+1=>by
  unfold Ao;split
  .exact Nat.le_succ_of_le (Nr l n)
  .exact AA _
theorem Wj(l:List Nat):∀n j,Ao l n<=j->j<n->dg l j=0
 |0,_,_,h=>absurd h I
 | n+1,j,h,c=>by
  unfold Ao at h;split at h
  .rename_i b
   by_cases e:j=n
   .subst e;exact b
   .exact Wj l n j h I
  .omega
theorem NA(l:List Nat):∀n,Ao l n=0\/dg l (Ao l n-1)≠0
 |0=>Or.inl rfl
 |n+1=>by
  unfold Ao;split
  .exact NA l n
  .rename_i h;right;simpa using h
theorem ZZ{l:List Nat}{n:Nat}(h:dg l n=0):Ao l (n+1)=Ao l n:=by
 rw[Ao,YS h]
theorem VV{l:List Nat}{n:Nat}(h:dg l n≠0):Ao l (n+1)=n+1:=by
 rw[Ao,YT h]
theorem Ek(l:List Nat):(trim l).length=Ao l l.length:=by
 rw[trim,AX];exact BN (Nr _ _)
theorem Xr(l:List Nat):(trim l).length<=l.length:=by
 rw[Ek];exact Nr _ _
theorem HK(l:List Nat)(i:Nat):dg (trim l) i=dg l i:=by
 by_cases h:i<Ao l l.length
 .rw[trim,ID h]
 .rw[trim,J6 I]
  by_cases b:i<l.length
  .exact(Wj l _ i I b).symm
  .exact(Vt I).symm
theorem L6(l:List Nat):val (trim l)=val l:=Fm (HK l)
theorem Oq.trim{l:List Nat}(h:Oq l):Oq (trim l):=h.take _
theorem Ma{l:List Nat}(h:Oq l):Pe (trim l):=by
 refine⟨h.trim,?_⟩;rcases NA l l.length with b|b
 .left;rw[trim,b];rfl
 .right;rw[Ek,HK];exact b
theorem Pe.nil:Pe []:=⟨Oq.nil,Or.inl rfl⟩
theorem Pe.pos{l:List Nat}(h:Pe l)(b:l≠[]):pw (l.length-1)<=val l:=by
 have j:dg l (l.length-1)≠0:=h.2.resolve_left b;have c:0<l.length:=List.length_pos_iff.2 b;have e:l.length=(l.length-1)+1:=I
 have g:val l=lo l (l.length-1)+dg l (l.length-1)*pw (l.length-1):=by
  rw[<-Lq,<-e,Mz (AA _)]
 have f:1*pw (l.length-1)<=dg l (l.length-1)*pw (l.length-1):=AB _ I;omega
theorem Pe.zero{l:List Nat}(h:Pe l)(b:val l=0):l=[]:=by
 rcases l with _|⟨d,l⟩
 .rfl
 .have:=h.pos Zs;have:=Ak ((d::l).length-1);omega
theorem Pe.length_lt{a b:List Nat}(f:Pe a)(g:Pe b)(h:a.length<b.length):val a<val b:=by
 have l:=IE f.1;have c:b≠[]:=by intro e;subst e;simp at h
 have k:=g.pos c;have j:pw a.length<=pw (b.length-1):=C0 I;omega
theorem Pe.length_le{l:List Nat}(h:Pe l){k:Nat}(g:val l<pw k):l.length<=k:=by
 rcases AY k l.length with b|b
 .have c:l≠[]:=by intro e;subst e;simp at b
  have j:=h.pos c;have f:pw k<=pw (l.length-1):=C0 I;omega
 .exact b
theorem f8{o a b:List Nat}{k y:Nat}(c:k<o.length)(h:lo o k+y*pw k=lo a k+lo b k):
 lo (o.set k ((y+(dg a k+dg b k))%4294967296)) (k+1)+(y+(dg a k+dg b k))/4294967296*pw (k+1)=lo a (k+1)+lo b (k+1):=by
 rw[Pp c,Lq,Lq,N5];have e:=AI (y+(dg a k+dg b k)) 4294967296;generalize (y+(dg a k+dg b k))%4294967296=r at e ⊢;generalize (y+(dg a k+dg b k))/4294967296=q at e ⊢
 grind
theorem ji{o a b:List Nat}{N y:Nat}(k:o.length=N+1)(f:Oq a)(c:Oq b)(g:a.length<=N)(j:b.length<=N)(h:lo o (N+1)+y*pw (N+1)=lo a (N+1)+lo b (N+1)):val o=val a+val b:=by
 rw[Mz I,Mz I,Mz I]at h;have m:=Ni f g;have l:=Ni c j;rw[N5]at h;have p:=Ak N;rcases AF y with e|e
 .subst e;omega
 .have:1*(pw N*4294967296)<=y*(pw N*4294967296):=AB _ e;omega
theorem Gv{o a b:List Nat}{k y d c:Nat}(f:k<o.length)(h:lo o k+lo b k=lo a k+y*pw k)(g:d+dg b k+y=dg a k+c*4294967296):
 lo (o.set k d) (k+1)+lo b (k+1)=lo a (k+1)+c*pw (k+1):=by
 rw[Pp f,Lq,Lq,N5];have e:(d+dg b k+y)*pw k=(dg a k+c*4294967296)*pw k:=by rw[g]
 grind
theorem lq{o a b:List Nat}{y:Nat}(c:o.length=(trim a).length)(m:Oq o)(f:Oq a)(s:val b<=val a)(h:lo o (trim a).length+lo b (trim a).length=lo a (trim a).length+y*pw (trim a).length):val o=val a-val b:=by
 have k:lo a (trim a).length=val a:=by rw[<-L6 a,<-GY (a:=trim a) (λj _=>HK a j),Mz (AA _)]
 have t:val a<pw (trim a).length:=by rw[<-L6 a];exact IE f.trim
 have p:=G6 b (trim a).length;have g:val (b.drop (trim a).length)=0:=by
  rcases AF (val (b.drop (trim a).length))with e|e
  .exact e
  .have:pw (trim a).length*1<=pw (trim a).length*val (b.drop (trim a).length):=Nat.mul_le_mul_left _ e;omega
 rw[g]at p;rw[k,Mz (l:=o) I]at h;have u:=Ni m (BQ c);rcases AF y with e|e
 .subst e;omega
 .have:1*pw (trim a).length<=y*pw (trim a).length:=AB _ e;omega
theorem C6{x y:Nat}(b:x<4294967296)(c:y<4294967296):x*y<=18446744065119617025:=
 BL (show x<=4294967295 by omega) (show y<=4294967295 by omega)
theorem Fo{x y:Nat}(b:x<4294967296)(c:y<4294967296):(x:Int)*(y:Int)<=18446744065119617025/\0<=(x:Int)*(y:Int):=by
 have h:=C6 b c;have e:((x*y:Nat):Int)=(x:Int)*(y:Int):=AP ..;omega
theorem dn{o c b:List Nat}{i k x y s:Nat}(f:i+k<o.length)(g:dg o (i+k)=dg c (i+k))
 (h:lo o (i+k)+y*pw (i+k)=lo c (i+k)+x*lo b k*pw i) (j:s=y+(x*dg b k+dg o (i+k))):
 lo (o.set (i+k) (s%4294967296)) (i+(k+1))+s/4294967296*pw (i+(k+1))=lo c (i+(k+1))+x*lo b (k+1)*pw i:=by
 rw[show i+(k+1)=i+k+1 by omega,Pp f,Lq,Lq,N5,<-g];have e:=AI s 4294967296;generalize s%4294967296=r at e ⊢;generalize s/4294967296=q at e ⊢;rw[RG]at h ⊢
 grind
theorem ly{o f a b:List Nat}{i q x y:Nat}(e:i+q<o.length)(l:dg a i=x)(m:val b=lo b q)
 (p:val f=lo a i*val b) (c:∀j,i+q<=j->dg f j=0) (g:∀j,i+q<=j->dg o j=dg f j)
 (h:lo o (i+q)+y*pw (i+q)=lo f (i+q)+x*lo b q*pw i):
 val (o.set (i+q) y)=lo a (i+1)*val b/\∀j,i+1+q<=j->dg (o.set (i+q) y) j=0:=by
 have k:∀j,i+1+q<=j->dg (o.set (i+q) y) j=0:=by
  intro j s;rw[Pr,YT I,g j I,c j I]
 refine⟨?_,k⟩;rw[PV k,show i+1+q=i+q+1 by omega,Pp e,h,<-PV c,p,Lq,l,m]
 grind
theorem Rm{l:List Nat}{k:Nat}(h:k<l.length):val (l.drop k)=dg l k+4294967296*val (l.drop (k+1)):=by
 rw[List.drop_eq_getElem_cons h,Gn,lP h]
theorem V8{l:List Nat}{k:Nat}(h:l.length<=k):val (l.drop k)=0:=by
 rw[BK h];rfl
theorem fG{a o:List Nat}{k d r q c:Nat}(m:k<a.length)(b:k<o.length)(h:val (o.drop (k+1))*d+r=val (a.drop (k+1)))
 (f:q=(r*4294967296+dg a k)/d) (g:c=(r*4294967296+dg a k)%d):
 val ((o.set k q).drop k)*d+c=val (a.drop k):=by
 have l:val ((o.set k q).drop (k+1))=val (o.drop (k+1)):=Fm λj=>by
  rw[Qe,Qe,Pr,YT I]
 rw[Rm m,Rm (by rw[AD];exact b),l,Pr,YS ⟨rfl,b⟩];have e:=AI (r*4294967296+dg a k) d;rw[<-f,<-g]at e;clear f g l
 grind
theorem ZU{r x d:Nat}(b:r<d)(c:x<4294967296):(r*4294967296+x)/d<4294967296:=by
 rw[AN I];have:(r+1)*4294967296<=d*4294967296:=AB _ b;have:d*4294967296=4294967296*d:=AR ..;omega
theorem J3{a q d r:Nat}(h:q*d+r=a)(b:r<d):q=a/d/\r=a%d:=by
 subst h;constructor
 .rw[AU,Nat.add_mul_div_right _ _ I,BE b];omega
 .rw[AU,Nat.add_mul_mod_self_right,Nat.mod_eq_of_lt b]
theorem Vx(a:XR)(n:Nat):(a.add n).block=a.block:=by unfold Addr.add;split<;>rfl
def Mt(w:YM)(B b:Nat)(A:YY)(n:Nat)(xs:List YI):Prop:=
 xs.length=n*b/\(0<n->∃ad,A=some ad/\ad.block<B/\∀j u,xs[j]? =some u->w.cell? (ad.add j)=some u)
section
variable{w w':YM}{B B' size n:Nat}{A:YY}{xs:List YI}
theorem wb:Mt w B size A 0 []:=⟨by simp,λh=>absurd h I⟩
theorem Mt.at_{k:Nat}(h:Mt w B 1 A n xs)(g:k<n):∃ad u,A=some ad/\ad.block<B/\xs[k]? =some u/\w.cell? (ad.add k)=some u:=by
 obtain⟨ad,e,c,f⟩:=h.2 I;have b:k<xs.length:=by have:=h.1;omega
 exact⟨ad,xs[k],e,c,BF b,f k _ (BF b)⟩
theorem Mt.keep(h:Mt w B size A n xs)(k:∀p:XR,p.block<B->w'.cell? p=w.cell? p):Mt w' B size A n xs:=
 ⟨h.1,λc=>by
  obtain⟨ad,e,b,g⟩:=h.2 c;exact⟨ad,e,b,λj u f=>(k _ (by rw[Vx];exact b)).trans (g j u f)⟩⟩
theorem Mt.more(h:Mt w B size A n xs)(f:B<=B'):Mt w B' size A n xs:=
 ⟨h.1,λb=>by
  obtain⟨ad,e,g,c⟩:=h.2 b;exact⟨ad,e,by omega,c⟩⟩
theorem Mt.below(h:Mt w B size A n xs)(b:Below B w w'):Mt w' B size A n xs:=h.keep λ_ c=>b.cell c
theorem Mt.alloc(h:Mt w B size A n xs)(b:B<=w.heap.size)(o:Obj):Mt (w.alloc o) B size A n xs:=h.keep λp c=>World.cell?_alloc_lt w o p I
theorem vZ{base:Nat}{e:XX}{c:Nat}(h:w.ownsRow base e size (.slice A n c) n xs):Mt w w.heap.size size A n xs:=by
 refine⟨h.1,λj=> ?_⟩;obtain⟨g,cap,f,_,b⟩:=h.form j;have k:A=some ⟨g,0,none⟩:=by injection f
 subst k;exact⟨_,rfl,b,h.cells (g:=g) rfl⟩
end
def B9(w:YM)(g:Nat)(t:XX)(cs:Array YI):Prop:=w.heap[g]? =some (.cells cs t (0,0))
section
variable{w w':YM}{g:Nat}{t:XX}{cs:Array YI}
theorem B9.lt(h:B9 w g t cs):g<w.heap.size:=by
 rcases AY g w.heap.size with b|c
 .exact b
 .unfold B9 at h;rw[Array.getElem?_eq_none c]at h;cases h
theorem B9.cell(h:B9 w g t cs)(i:Nat):w.cell? ⟨g,i,none⟩=cs[i]? :=cell_of_row w g i cs t (0,0) h
theorem B9.frozen(h:B9 w g t cs)(i:Nat):w.frozen? ⟨g,i,none⟩=false:=by
 unfold B9 at h;simp[World.frozen?,h]
theorem B9.new(w:YM)(t:XX)(cs:Array YI):B9 (w.alloc (.cells cs t)) w.heap.size t cs:=heap_alloc_new w _
theorem B9.set_(h:B9 w g t cs)(i:Nat)(u:YI):B9 (w.setCell ⟨g,i,none⟩ u) g t (cs.setIfInBounds i u):=by
 unfold B9 at h ⊢;simp[World.setCell,Array.getElem?_modify,h]
theorem B9.far(h:B9 w g t cs){p:XR}(b:g≠p.block)(u:YI):B9 (w.setCell p u) g t cs:=(Below.heap_setCell w p u g b).trans h
theorem B9.grown{row:Option Nat}(h:B9 w g t cs)(b:w.grownBy w' row)(c:some g≠row):B9 w' g t cs:=(b.block g h.lt c).trans h
end
section
variable{P:YH}(w:YM)
theorem Bv(base:Nat)(t ty e:XX)(i:TypeInfo)(f:Nat)(j:P.underlying t=some (.slice e))(hi:P.info? e=some i)
 (v:YI) (n:Nat) (xs:List YI) (b:w.ownsRow base e f v n xs) (c:Nat):(Builtin.append_ #[t,t] ty #[v,.slice none 0 c]).run P w= .ok v w:=by
 rcases b.2 with ⟨rfl,rfl⟩|⟨g,cap,k,rfl,_,_,h,_⟩
 .simp[Builtin.append_,run_underlying j,sizeOf,typeInfo,hi,Builtin.lenOf,Builtin.firstCells]
 .simp[Builtin.append_,run_underlying j,sizeOf,typeInfo,hi,Builtin.lenOf,Builtin.firstCells,h,storeCells]
theorem Xx(base:Nat)(t ty e:XX)(i:TypeInfo)(z:YI)(size bytes:Nat)(K:P.underlying t=some (.slice e))(hi:P.info? e=some i)(L:i.zero=some z)
 (l:i.size=size) (F:i.bytes=bytes) (E:z.cells.size=size) (wI:0<size)
 (v:YI) (n:Nat) (xs:List YI) (f:w.ownsRow base e size v n xs)
 (B:Nat) (A:YY) (m c:Nat) (b:List YI) (y:Mt w B size A m b) (Z:∀u∈b,u.oneCell'=true)
 (G:n+m<=maxLen) (g:(n+m)*bytes<=140737488355328) (p:base<=w.heap.size):
 ∃s D,(Builtin.append_ #[t,t] ty #[v,.slice A m c]).run P w= .ok s D/\D.ownsRow base e size s (n+m) (xs++b)/\w.grownBy D v.ownBlock/\
  (s.ownBlock=v.ownBlock\/s.ownBlock=some w.heap.size):=by
 rcases A with _|ad
 .have T:m=0:=by
   rcases AF m with o|o
   .exact o
   .obtain⟨ad,h,_⟩:=y.2 o;cases h
  subst T;have H:b=[]:=List.eq_nil_of_length_eq_zero (by simpa using y.1);subst H;exact⟨v,w,Bv w base t ty e i size K hi v n xs f c,by simpa using f,World.grownBy.refl w _,.inl rfl⟩
 .have k:∀j u,b[j]? =some u->w.cell? (ad.add j)=some u:=by
   intro j u J;rcases AF m with o|o
   .subst o;have H:b=[]:=List.eq_nil_of_length_eq_zero (by simpa using y.1);subst H;simp at J
   .obtain⟨M,h,_,N⟩:=y.2 o;injection h with h;subst h;exact N j u J
  obtain⟨s,D,x,S,Q,_,R⟩:=run_append_own_at (P:=P) w base t ty e i z size bytes K hi L l F E wI v n xs f ad m c b y.1 k Z G g p;exact⟨s,D,x,S,Q,R⟩
theorem W1{o:XT}{a:Act}{K:Act->YM->Prop}{Q:Exit->Act->YM->Prop}(s x:XZ)(t:XX)
 (L:o.op= .call {callee:= .builtin .append,args:= #[s,x],argTypes:= #[t,t]})
 (base:Nat) (e:XX) (i:TypeInfo) (z:YI) (size bytes:Nat) (N:P.underlying t=some (.slice e)) (hi:P.info? e=some i) (H:i.zero=some z)
 (g:i.size=size) (E:i.bytes=bytes) (D:z.cells.size=size) (G:0<size)
 (v:YI) (n:Nat) (xs:List YI) (M:a.eval s=v) (l:w.ownsRow base e size v n xs)
 (B:Nat) (A:YY) (m c:Nat) (b:List YI) (J:a.eval x= .slice A m c) (Z:Mt w B size A m b) (wI:∀u∈b,u.oneCell'=true)
 (F:n+m<=maxLen) (f:(n+m)*bytes<=140737488355328) (j:base<=w.heap.size)
 (h:∀k y,y.ownsRow base e size k (n+m) (xs++b)->w.grownBy y v.ownBlock->(k.ownBlock=v.ownBlock\/k.ownBlock=some w.heap.size)->K (a.put o.dst k) y):o.wp P a w K Q:=by
 obtain⟨k,y,p,S,R,T⟩:=Xx (P:=P) w base t o.type e i z size bytes N hi H g E D G v n xs l B A m c b Z wI F f j;unfold Oper.wp execOp;simp only[L,resolve,invoke,builtin,Sem.run_bind,Sem.run_pure,Result.andThen_ok,List.map_toArray,List.map_cons,List.map_nil,M,J,p];exact h k y S R T
theorem Ba{p:Array XT}{g:List XT}{o:XT}{a:Act}{Q:Exit->Act->YM->Prop}(G:o.guard=none)(s x:XZ)(t:XX)
 (M:o.op= .call {callee:= .builtin .append,args:= #[s,x],argTypes:= #[t,t]})
 (base:Nat) (e:XX) (i:TypeInfo) (z:YI) (size bytes:Nat) (Z:P.underlying t=some (.slice e)) (hi:P.info? e=some i) (J:i.zero=some z)
 (j:i.size=size) (F:i.bytes=bytes) (E:z.cells.size=size) (wI:0<size)
 (v:YI) (n:Nat) (xs:List YI) (N:a.eval s=v) (y:w.ownsRow base e size v n xs)
 (B:Nat) (A:YY) (m c:Nat) (b:List YI) (L:a.eval x= .slice A m c) (R:Mt w B size A m b) (K:∀u∈b,u.oneCell'=true)
 (H:n+m<=maxLen) (f:(n+m)*bytes<=140737488355328) (k:base<=w.heap.size)
 (h:∀l D,D.ownsRow base e size l (n+m) (xs++b)->w.grownBy D v.ownBlock->(l.ownBlock=v.ownBlock\/l.ownBlock=some w.heap.size)->wpList P p Q g (a.put o.dst l) D):wpList P p Q (o::g) a w:=
 wpList_plain G λ_ U=>W1 w s x t M base e i z size bytes Z hi J j F E wI v n xs N y B A m c b L R K H f k λl D T S W=>U _ _ (h l D T S W)
end
theorem Lk{p:Prop}(h:p):Hid p:=h
theorem K7{p:Prop}(h:Hid p):p:=h
def Qi(l:List Nat):List YI:=l.map λ(d:Nat)=>AK .u32 (d:Int)
theorem Ot(l:List Nat):(Qi l).length=l.length:=by simp[Qi]
theorem Uf{l:List Nat}{i:Nat}(h:i<l.length):(Qi l)[i]? =some (.int .u32 (dg l i:Int)):=by
 simp[Qi,dg,h]
theorem LU{l:List Nat}:∀u∈Qi l,u.oneCell'=true:=by
 intro u b;simp only[Qi,List.mem_map]at b;obtain⟨d,_,rfl⟩:=b
 rfl
theorem LH(l:List Nat)(i d:Nat):(Qi l).set i (.int .u32 (d:Int))=Qi (l.set i d):=by
 simp[Qi,List.map_set]
theorem NU(a b:List Nat):Qi (a++b)=Qi a++Qi b:=by simp[Qi]
structure In(w:YM)(A:YY)(n c:Nat)(l:List Nat):Prop where
 dig:Oq l
 len:l.length=n
 le:n<=c
 cap:c<=maxLen
 rd:Mt w w.heap.size 1 A n (Qi l)
structure Si(w:YM)(B:Nat)(A:YY)(n c:Nat)(l:List Nat):Prop extends In w A n c l where
 own:0<c->∃g cur t,A=some ⟨g,0,none⟩/\B<=g/\w.heap[g]? =some (.cells cur t (0,0))/\c<=cur.size
section
variable{w w':YM}{A:YY}{n c:Nat}{l:List Nat}
theorem In.keep(h:In w A n c l)(b:w.heap.size<=w'.heap.size)(e:∀p:XR,p.block<w.heap.size->w'.cell? p=w.cell? p):In w' A n c l:=
 ⟨h.dig,h.len,h.le,h.cap,(h.rd.keep e).more b⟩
theorem In.below(h:In w A n c l)(b:Below w.heap.size w w'):In w' A n c l:=h.keep b.size λ_ e=>b.cell e
theorem In.at_(h:In w A n c l){k:Nat}(e:k<n):∃ad,A=some ad/\w.cell? (ad.add k)=some (.int .u32 (dg l k:Int)):=by
 obtain⟨ad,u,f,_,b,g⟩:=h.rd.at_ e;rw[Uf (by rw[h.len];exact e)]at b;injection b with b;subst b;exact⟨ad,f,g⟩
theorem vh:In w none 0 0 []:=⟨Oq.nil,rfl,AA _,by unfold maxLen;omega,wb⟩
theorem In.take(h:In w A n c l){k c':Nat}(s:k<=n)(p:k<=c')(f:c'<=maxLen):In w A k c' (l.take k):=by
 refine⟨h.dig.take k,by rw[AX,h.len];omega,p,f,?_⟩;refine⟨by rw[Ot,AX,h.len];omega,λt=> ?_⟩;obtain⟨ad,m,o,b⟩:=h.rd.2 I;refine⟨ad,m,o,λj u g=>b j u ?_⟩;have e:Qi (l.take k)=(Qi l).take k:=by simp[Qi,List.map_take]
 rw[e,List.getElem?_take]at g;split at g
 .exact g
 .cases g
theorem In.trim(h:In w A n c l):In w A (Ao l n) (Ao l n) (Go.Proofs.YtoakjcolbjifnaaGreatDoor.trim l):=by
 have e:Go.Proofs.YtoakjcolbjifnaaGreatDoor.trim l=l.take (Ao l n):=by rw[Go.Proofs.YtoakjcolbjifnaaGreatDoor.trim,h.len]
 rw[e];exact h.take (Nr _ _) (AA _) (AZ (AZ (Nr _ _) h.le) h.cap)
theorem Si.below{B:Nat}(h:Si w B A n c l)(j:Below w.heap.size w w'):Si w' B A n c l:=
 ⟨h.toIn.below j,λo=>by
  obtain⟨g,b,t,m,k,f,e⟩:=h.own o;exact⟨g,b,t,m,k,(j.block g (Array.getElem?_eq_some_iff.1 f).1).trans f,e⟩⟩
theorem Si.base{B B':Nat}(h:Si w B A n c l)(o:B'<=B):Si w B' A n c l:=
 ⟨h.toIn,λk=>by
  obtain⟨g,b,t,j,m,f,e⟩:=h.own k;exact⟨g,b,t,j,by omega,f,e⟩⟩
theorem uY{B:Nat}:Si w B none 0 0 []:=⟨vh,λh=>absurd h I⟩
theorem Si.take{B:Nat}(h:Si w B A n c l){k c':Nat}(j:k<=n)(s:k<=c')(b:c'<=c):Si w B A k c' (l.take k):=
 ⟨h.toIn.take j s (AZ b h.cap),λu=>by
  obtain⟨g,e,t,o,m,f,p⟩:=h.own I;exact⟨g,e,t,o,m,f,by omega⟩⟩
theorem Si.trim{B:Nat}(h:Si w B A n c l):Si w B A (Ao l n) (Ao l n) (Go.Proofs.YtoakjcolbjifnaaGreatDoor.trim l):=by
 have e:Go.Proofs.YtoakjcolbjifnaaGreatDoor.trim l=l.take (Ao l n):=by rw[Go.Proofs.YtoakjcolbjifnaaGreatDoor.trim,h.len]
 rw[e];exact h.take (Nr _ _) (AA _) (AZ (Nr _ _) h.le)
def Mk(w:YM)(g t:Nat)(l:List Nat):Prop:=B9 w g t (Qi l).toArray
theorem Mk.cell{g t:Nat}(h:Mk w g t l){i:Nat}(hi:i<l.length):w.cell? ⟨g,i,none⟩=some (.int .u32 (dg l i:Int)):=by
 rw[B9.cell h,BM,Uf hi]
theorem Mk.frozen{g t:Nat}(h:Mk w g t l)(i:Nat):w.frozen? ⟨g,i,none⟩=false:=B9.frozen h i
theorem Mk.lt{g t:Nat}(h:Mk w g t l):g<w.heap.size:=B9.lt h
theorem Mk.set_{g t:Nat}(h:Mk w g t l)(i d:Nat):Mk (w.setCell ⟨g,i,none⟩ (.int .u32 (d:Int))) g t (l.set i d):=by
 have:=B9.set_ h i (.int .u32 (d:Int));unfold Mk;rw[<-LH];simpa using this
theorem Mk.far{g t:Nat}(h:Mk w g t l){p:XR}(b:g≠p.block)(u:YI):Mk (w.setCell p u) g t l:=B9.far h b u
theorem Mk.own{g t B:Nat}(h:Mk w g t l)(m:Oq l)(b:B<=g)(k:l.length<=maxLen):Si w B (some ⟨g,0,none⟩) l.length l.length l:=by
 refine⟨⟨m,rfl,AA _,k,⟨by rw[Ot];omega,λ_=>⟨_,rfl,h.lt,λj u f=> ?_⟩⟩⟩,λ_=>⟨g,_,t,rfl,b,h,by simp[Ot]⟩⟩;have e:(⟨g,0,none⟩:XR).add j=⟨g,j,none⟩:=by unfold Addr.add;split<;>simp_all
 rw[e,B9.cell h,BM];exact f
theorem vY{B t:Nat}{v:YI}(h:w.ownsRow B t 1 v n (Qi l))(o:Oq l)(e:l.length=n):∃A c,v= .slice A n c/\Si w B A n c l:=by
 rcases h.2 with ⟨rfl,rfl⟩|⟨g,cap,b,rfl,j,m,k,f,p,s⟩
 .have:l=[]:=BI.1 e;subst this;exact⟨none,0,rfl,uY⟩
 .exact⟨some ⟨g,0,none⟩,cap,rfl,⟨o,e,k,f,vZ h⟩,λ_=>⟨g,b,t,rfl,j,m,by omega⟩⟩
def Eg(w:YM)(k:Nat)(e:XS)(w':YM):Prop:=
 ∃A n c l,e= .returned (.slice A n c)/\Pe l/\val l=k/\Si w' w.heap.size A n c l/\Below w.heap.size w w'
end
def Uz(a b:Nat):Int:=if a<b then -1 else if a=b then 0 else 1
theorem Ck{a b:Nat}(h:a<b):Uz a b= -1:=by simp[Uz,h]
theorem UC{a b:Nat}(h:b<a):Uz a b=1:=by
 unfold Uz;rw[YT I,YT I]
theorem iF{a b:Nat}(h:a=b):Uz a b=0:=by
 unfold Uz;rw[YT I,YS h]
theorem Tryz.info_u32:(Tryz.prog.info? 92).map (λi=>(i.zero,i.size,i.bytes))=some (some (.int .u32 0),1,4):=O
theorem In.capI{w:YM}{A:YY}{n c:Nat}{l:List Nat}(h:In w A n c l):c<=9223372036854775807:=by
 have:=h.cap;unfold maxLen at this;omega
theorem In.lenI{w:YM}{A:YY}{n c:Nat}{l:List Nat}(h:In w A n c l):n<=9223372036854775807:=by
 have:=h.capI;have:=h.le;omega
theorem Zi{A:YY}{n c:Nat}{l:List Nat}(i:Int)(w:YM)(h:In w A n c l)(b:0<=i):
 XW XM 312 #[.slice A n c,.int .i64 i] w λe g=>e= .returned (.int .u64 (dg l i.toNat:Nat))/\w=g:=by
 obtain⟨k,rfl⟩:=BJ b;have m:=h.lenI;have p:=h.dig k
 by_cases f:k<n
 .obtain⟨ad,rfl,o⟩:=h.at_ f;have j:=Lk h.len;clear h b;go_enter func312,ntmps312;go_wp2;go_ret;exact⟨rfl,rfl⟩
 .have j:=Lk h.len;have e:Hid (dg l k=0):=Vt (by rw[h.len];omega);clear h b;go_enter func312,ntmps312;go_wp2;go_ret;refine⟨?_,rfl⟩;rw[BC,K7 e];rfl
theorem Lx{A:YY}{n c:Nat}{l:List Nat}(w:YM)(h:In w A n c l):
 XW XM 269 #[.slice A n c] w λe p=>e= .returned (.slice A (Ao l n) (Ao l n))/\w=p:=by
 have u:=h.lenI;have s:=h.capI;have o:=h.le;have H:=Lk h;clear h;go_enter func269,ntmps269;go_wp2;go_loop [3] (λi=>∃k:Nat,k<=n/\i= .int .i64 k/\Ao l k=Ao l n) (λi=>(intOf i).toNat)
 case atStart=>exact⟨n,AA _,rfl,rfl⟩
 case round=>
  obtain⟨k,t,rfl,m⟩:=hrel;have HT:=Lk m;clear m
  by_cases b:k=0
  .subst b;go_wp2;go_ret;have e:=K7 HT;rw[show Ao l 0=0 from rfl]at e;refine⟨?_,rfl⟩;rw[<-e]
   rfl
  .obtain⟨j,rfl⟩:∃j,k=j+1:=⟨k-1,by omega⟩
   obtain⟨ad,rfl,g⟩:=(K7 H).at_ (k:=j) I;go_wp2
   .have f:(((dg l j:Nat):Int)==0)=true:=by assumption
    go_round
    case rel=>exact⟨j,by omega,rfl,by rw[<-K7 HT,ZZ];simpa using f⟩
    case measure=>simp[intOf]
   .have f:(((dg l j:Nat):Int)==0)=false:=by assumption
    go_ret;have e:=K7 HT;rw[VV (by simpa using f)]at e;refine⟨?_,rfl⟩;rw[<-e]
    rfl
def p4(w:YM)(l:List Nat)(e:XS)(b:YM):Prop:=
 ∃A n c,e= .returned (.slice A n c)/\Si b w.heap.size A n c l/\Below w.heap.size w b
theorem TG{A:YY}{n c:Nat}{l:List Nat}(w:YM)(h:In w A n c l)(L:n<=1099511627776):
 XW XM 305 #[.slice A n c] w (p4 w l):=by
 have J:=h.lenI;have H:=h.capI;have E:=h.le;have u:=Lk h.rd;have F:=h.dig;have s:=Lk h.len;clear h;obtain⟨z,g,j,o,p⟩:=info_parts Tryz.info_u32;have t:=λW=>Lib.run_eql_slice_nil (P:=XM) W 49 92 A n c 0 0 underlying49
 by_cases f:A=none
 .have B:n=0:=by
   rcases AF n with e|e
   .exact e
   .obtain⟨ad,h,_⟩:=(K7 u).2 e;rw[f]at h;cases h
  subst f;subst B;go_enter func305,ntmps305;go_wp2;go_ret;have:l=[]:=BI.1 (K7 s);subst this;exact⟨none,0,0,rfl,uY,Below.refl _ _⟩
 .obtain⟨ad,rfl⟩:∃ad,A=some ad:=by
   cases A with
   |none=>exact absurd rfl f
   |some ad=>exact⟨ad,rfl⟩
  clear f;go_enter func305,ntmps305;go_wp2_with (first
   |(at_builtin;refine Ba _ rfl (.tmp 5) (.tmp 6) 49 rfl w.heap.size 92 z _ 1 4 underlying49 g j o p rfl I (.slice (some ⟨w.heap.size,0,none⟩) 0 0) 0 [] rfl (World.ownsRow_lit _ _ _ (AA _) (by unfold maxLen;omega) rfl) w.heap.size (some ad) n c (Qi l) rfl ((K7 u).alloc (AA _) _) LU (by simp only[maxLen];omega) I Zs ?_;intro G Z b m v))
  go_ret;simp only[BG,List.nil_append]at b;obtain⟨A1,y,rfl,D⟩:=vY b F (K7 s);exact⟨A1,n,y,rfl,D,((Below.refl _ _).alloc (AA _) _).grown m Zs (λk x=>by simp[Value.ownBlock]at x;omega)⟩
theorem Tq{A:YY}{n c:Nat}{l:List Nat}(w:YM)(h:In w A n c l)(o:n<=1099511627776):
 XW XM 276 #[.slice A n c] w (p4 w (trim l)):=by
 have m:=Nr l n;go_enter func276,ntmps276;go_wp2_with fail;refine(Lx w h).mono ?_;rintro e g ⟨rfl,rfl⟩;go_wp2_with fail;refine(TG w h.trim I).mono ?_;rintro e g ⟨A1,j,b,rfl,f,k⟩;go_wp2_with fail;go_ret;exact⟨A1,j,b,rfl,f,k⟩
theorem RE(k:Nat)(b:(k:Int)<=18446744073709551615):Oq [k%4294967296,k/4294967296]/\val [k%4294967296,k/4294967296]=k:=by
 refine⟨Oq.cons I (Oq.one I),?_⟩;simp only[val];omega
theorem Vq(k:Nat)(j:(k:Int)<=18446744073709551615)(w:YM):
 XW XM 236 #[.int .u64 k] w (Eg w k):=by
 go_enter func236,ntmps236;go_wp2_with fail;have b:Mk (w.alloc (.cells #[.int .u32 ((k:Int)%4294967296),.int .u32 ((k:Int)/4294967296)] 92)) w.heap.size 92 [k%4294967296,k/4294967296]:=B9.new w 92 _;have f:=RE k j;have g:=b.own (B:=w.heap.size) f.1 (AA _) (by simp[maxLen]);refine(Tq _ g.toIn Zs).mono ?_;rintro e o ⟨A1,l,h,rfl,c,m⟩;clear b g;go_wp2_with fail;go_ret;exact⟨A1,l,h,_,rfl,Ma f.1,by rw[L6,f.2],c.base Zs,((Below.refl _ _).alloc (AA _) _).trans (m.mono Zs)⟩
def zs(n:Nat):Array YI:=(Qi (AL n 0)).toArray
theorem Ow(W:YM)(k:Int)(N:Nat)(g:k=N)(j:N<=17592186044416):
 (Instr.makeSlice 49 (.int .i64 k) (.int .i64 k)).run XM W= .ok (.slice (some ⟨W.heap.size,0,none⟩) N N) (W.alloc (.cells (zs N) 92)):=by
 subst g;obtain⟨h,c,b,e,f⟩:=info_parts Tryz.info_u32;rw[run_make W 49 92 h _ underlying49 c b .i64 .i64 N N I I (by rw[f];omega) I,e,BC,Nat.mul_one];congr 3;apply Array.ext
 .simp[zs,size_madeCells,Qi]
 .intro i m l;simp[madeCells,zs,Qi,Value.cells,Nat.mod_one]
theorem Mk.zero(W:YM)(N:Nat):Mk (W.alloc (.cells (zs N) 92)) W.heap.size 92 (AL N 0):=B9.new W 92 _
theorem bh{A B:YY}{n c m d:Nat}{a b:List Nat}(w:YM)(s:In w A n c a)(t:In w B m d b)(P:n<=1099511627776)(S:m<=1099511627776):
 XW XM 279 #[.slice A n c,.slice B m d] w (Eg w (val a+val b)):=by
 have Ha:=Lk s;have Hb:=Lk t;clear s t;obtain⟨N,L,R,Z,E⟩:∃N,n<=N/\m<=N/\N<=1099511627776/\((n<m->N=m)/\(¬n<m->N=n)):=⟨max n m,by omega,by omega,by omega,by omega,by omega⟩
 have H3:=Lk E;clear E;have f:=λW=>Ow W (N+1) (N+1) rfl I
 go_enter func279,ntmps279;go_wp2_with fail
 all_goals
  first
   |(have e:=(K7 H3).1 (by assumption);subst e)
   |(have e:=(K7 H3).2 (by assumption);subst e)
  clear H3;go_simp;go_wp2;have D:=Mk.zero w (N+1);go_loopw [6,17] (λG i wr=>∃(k y:Nat) (o:List Nat),k<=N+1/\i= .int .i64 k/\G= .int .u64 y/\o.length=N+1/\Oq o/\y<=1/\lo o k+y*pw k=lo a k+lo b k/\Mk wr w.heap.size 92 o/\Below w.heap.size w wr) (λ_ i _=>N+1- (intOf i).toNat)
  case atStart=>exact⟨0,0,_,AO _,rfl,rfl,by simp,Oq.replicate _,by omega,by simp[Oh],D,(Below.refl _ _).alloc (AA _) _⟩
  case round=>
   obtain⟨k,y,o,M,rfl,rfl,l,j,Q,h,f,g⟩:=hrel;clear D;have Hol:=Lk l;have Hsum:=Lk h;clear l h
   by_cases p:k<N+1
   .have J:=(K7 Ha).dig k;have H:=(K7 Hb).dig k;have z:=f.cell (i:=k) (by rw[K7 Hol];exact p);have wI:=f.frozen k;go_wp2_with fail;refine(Zi _ _ ((K7 Ha).below g) I).mono ?_;rintro e F ⟨rfl,rfl⟩;go_wp2_with fail;refine(Zi _ _ ((K7 Hb).below g) I).mono ?_;rintro e F ⟨rfl,rfl⟩;go_wp2;have u:=f.set_ k ((y+(dg a k+dg b k))%4294967296);rw[show(((y+(dg a k+dg b k))%4294967296:Nat):Int)=((y:Int)+(dg a k+dg b k))%4294967296 by omega]at u;go_roundw
    case rel=>exact⟨k+1,(y+(dg a k+dg b k))/4294967296,_,by omega,by go_num,by go_num,by rw[AD];exact K7 Hol,j.set _ I,by omega,f8 (by rw[K7 Hol];exact p) (K7 Hsum),u,g.setCell (AA _) _⟩
    case measure=>simp[intOf];omega
   .have x:k=N+1:=I
    subst x;have v:=f.own j (AA _) (by rw[K7 Hol];unfold maxLen;omega);rw[K7 Hol]at v;go_wp2_with fail;refine(Lx _ v.toIn).mono ?_;rintro e F ⟨rfl,rfl⟩;go_wp2_with fail;go_ret;have s:=K7 Ha;have t:=K7 Hb;exact⟨_,_,_,trim o,rfl,Ma j,by rw[L6];exact ji (K7 Hol) s.dig t.dig (by rw[s.len];omega) (by rw[t.len];omega) (K7 Hsum),v.trim,g⟩
theorem In.drewN{w:YM}{A:YY}{n c:Nat}{l:List Nat}(h:In w A n c l)(q:Nat):In (w.drewN q) A n c l:=⟨h.dig,h.len,h.le,h.cap,h.rd⟩
theorem Si.drewN{w:YM}{B:Nat}{A:YY}{n c:Nat}{l:List Nat}(h:Si w B A n c l)(q:Nat):Si (w.drewN q) B A n c l:=⟨h.toIn.drewN q,h.own⟩
theorem O3{B:Nat}{a w:YM}(h:Below B a w)(n:Nat):Below B a (w.drewN n):=⟨h.os,h.tape,h.output,h.size,h.block⟩
def Qd(w b:YM):Prop:=∃q,b=w.drewN q
theorem Qd.refl(w:YM):Qd w w:=⟨0,rfl⟩
theorem Qd.drewN{w b:YM}(h:Qd w b)(n:Nat):Qd w (b.drewN n):=by
 obtain⟨q,rfl⟩:=h;exact⟨q+n,World.drewN_drewN ..⟩
theorem Qd.of(w:YM)(n:Nat):Qd w (w.drewN n):=⟨n,rfl⟩
def sT(w:YM)(v:YI)(e:XS)(b:YM):Prop:=e= .returned v/\Qd w b
theorem EV{A B:YY}{n c m d:Nat}{a b:List Nat}(w:YM)(l:In w A n c a)(o:In w B m d b):
 XW XM 281 #[.slice A n c,.slice B m d] w (sT w (.int .i64 (Uz (val a) (val b)))):=by
 have Ta:=l.trim;have Tb:=o.trim;have x:=L6 a;have D:=L6 b;have u:=Ma l.dig;have t:=Ma o.dig;have Va:=Lk x;have Vb:=Lk D;clear x D;have Z:=Ta.lenI;have M:=Tb.lenI;rcases Nat.lt_trichotomy (Ao a n) (Ao b m)with h|h|h
 .have K:Hid (Uz (val a) (val b)= -1):=Ck (by rw[<-K7 Va,<-K7 Vb];exact u.length_lt t (by rw[Ta.len,Tb.len];exact h));go_enter func281,ntmps281;go_wp2_with fail;refine(Lx w l).mono ?_;rintro e p ⟨rfl,rfl⟩;go_wp2_with fail;refine(Lx w o).mono ?_;rintro e p ⟨rfl,rfl⟩;go_wp2_with fail;go_ret;rw[K7 K];exact⟨rfl,Qd.refl _⟩
 .have H:=Lk h;clear h;have Hb:In w B (Ao a n) (Ao a n) (trim b):=by rw[K7 H];exact Tb
  go_enter func281,ntmps281;go_wp2_with fail;refine(Lx w l).mono ?_;rintro e p ⟨rfl,rfl⟩;go_wp2_with fail;refine(Lx w o).mono ?_;rintro e p ⟨rfl,rfl⟩;rw[<-K7 H];go_wp2_with fail;go_loopw [5] (λi wr=>∃(k:Nat) (z:Int),k<=Ao a n/\z+1=k/\i= .int .i64 z/\Hid (∀j,k<=j->dg (trim a) j=dg (trim b) j)/\Qd w wr) (λi _=>(intOf i+1).toNat)
  case atStart=>
   refine⟨Ao a n,(Ao a n:Int)-1,AA _,by omega,rfl,λj s=> ?_,Qd.refl _⟩;rw[Vt (by rw[Ta.len];exact s),Vt (by rw[Hb.len];exact s)]
  case round=>
   obtain⟨k,z,L,v,rfl,f,⟨q,rfl⟩⟩:=hrel
   by_cases y:k=0
   .subst y;obtain rfl:z= -1:=I
    clear v;go_wp2;go_ret;refine⟨?_,Qd.of _ _⟩;rw[iF]
    .rfl
    .rw[<-K7 Va,<-K7 Vb];exact Fm λj=>K7 f j (AO _)
   .obtain⟨j,rfl⟩:∃j,k=j+1:=⟨k-1,by omega⟩
    obtain rfl:z=(j:Int):=I
    clear v y;obtain⟨ad,E,G⟩:=Ta.at_ (k:=j) I;obtain⟨bd,F,wI⟩:=Hb.at_ (k:=j) I;subst E;subst F;have s:(j:Int)<(Ao a n:Int):=I
    go_wp2;go_quiet (fail);go_wp2
    .have g:dg (trim a) j<dg (trim b) j:=by assumption
     go_ret;refine⟨?_,(Qd.of _ _).drewN _⟩;rw[Ck (by rw[<-K7 Va,<-K7 Vb];exact Wf u.1 (λi hi=>K7 f i I) g)]
     rfl
    .go_quiet (fail);go_wp2
     .have g:dg (trim b) j<dg (trim a) j:=by assumption
      go_ret;refine⟨?_,((Qd.of _ _).drewN _).drewN _⟩;rw[UC (by rw[<-K7 Va,<-K7 Vb];exact Wf t.1 (λi hi=>(K7 f i I).symm) g)]
      rfl
     .have J:¬dg (trim a) j<dg (trim b) j:=by assumption
      have N:¬dg (trim b) j<dg (trim a) j:=by assumption
      go_roundw
      case rel=>
       refine⟨j,(j:Int)-1,by omega,by omega,rfl,λi hi=> ?_,Qd.of _ _⟩
       by_cases e:i=j
       .subst e;omega
       .exact K7 f i I
      case measure=>simp[intOf]
 .have K:Hid (Uz (val a) (val b)=1):=UC (by rw[<-K7 Va,<-K7 Vb];exact t.length_lt u (by rw[Ta.len,Tb.len];exact h));go_enter func281,ntmps281;go_wp2_with fail;refine(Lx w l).mono ?_;rintro e p ⟨rfl,rfl⟩;go_wp2_with fail;refine(Lx w o).mono ?_;rintro e p ⟨rfl,rfl⟩;go_wp2_with fail;go_ret;rw[K7 K];exact⟨rfl,Qd.refl _⟩
theorem In.qd{w b:YM}{A:YY}{n c:Nat}{l:List Nat}(h:In w A n c l)(e:Qd w b):In b A n c l:=by
 obtain⟨q,rfl⟩:=e;exact h.drewN q
theorem Qd.below{w b:YM}(h:Qd w b)(B:Nat):Below B w b:=by
 obtain⟨q,rfl⟩:=h;exact O3 (Below.refl _ _) q
theorem M4(x:Int):XP.wrap x=x%18446744073709551616:=IntKind.wrap_u64 x
theorem qW{A B:YY}{n c m d:Nat}{a b:List Nat}(w:YM)(v:In w A n c a)(D:In w B m d b)(X:n<=1099511627776):
 XW XM 304 #[.slice A n c,.slice B m d] w λe u=>∃A' J c' l,e= .returned (.tuple #[.slice A' J c',.bool (decide (val b<=val a))])/\Pe l/\val l=val a-val b/\Si u w.heap.size A' J c' l/\Below w.heap.size w u:=by
 have Ha:=Lk v;have Hb:=Lk D;have Y:=Nr a n
 by_cases f:val a<val b
 .have K:Hid (Uz (val a) (val b)= -1):=Ck f;have Hc:=Lk f;clear f;go_enter func304,ntmps304;go_wp2_with fail;refine(EV w v D).mono ?_;rintro e u ⟨rfl,⟨q,rfl⟩⟩;rw[K7 K];go_wp2_with fail;go_ret2;have:=K7 Hc;exact⟨none,0,0,[],by rw[YV I];rfl,Pe.nil,by rw[JX];omega,uY,O3 (Below.refl _ _) _⟩
 .obtain⟨z,M,K⟩:∃z,(0:Int)<=z/\Hid (Uz (val a) (val b)=z):=by
   refine⟨_,?_,rfl⟩;unfold Uz;rw[YT f];split<;>omega
  have Hc:=Lk f;clear f v D;have h:=λW=>Ow W (Ao a n) (Ao a n) rfl I
  go_enter func304,ntmps304;go_wp2_with fail;refine(EV w (K7 Ha) (K7 Hb)).mono ?_;rintro e u ⟨rfl,⟨q,rfl⟩⟩;rw[K7 K];go_wp2_with fail;refine(Lx _ ((K7 Ha).drewN q)).mono ?_;rintro e u ⟨rfl,rfl⟩;go_wp2_with fail;have wI:=(Mk.zero w (Ao a n))
  go_loopw [7,20] (λL i wr=>∃(k y:Nat) (o:List Nat),k<=Ao a n/\i= .int .i64 k/\L= .int .u64 y/\o.length=Ao a n/\Oq o/\y<=1/\lo o k+lo b k=lo a k+y*pw k/\Mk wr w.heap.size 92 o/\Below w.heap.size w wr) (λ_ i _=>Ao a n- (intOf i).toNat)
  case atStart=>exact⟨0,0,_,AO _,rfl,rfl,by simp,Oq.replicate _,by omega,by simp[Oh],wI,O3 ((Below.refl _ _).alloc (AA _) _) _⟩
  case round=>
   obtain⟨k,y,o,U,rfl,rfl,x,p,Z,t,h,j⟩:=hrel;clear wI;have Hol:=Lk x;have Hsum:=Lk t;clear x t
   by_cases s:k<Ao a n
   .have R:=(K7 Ha).dig k;have wJ:=(K7 Hb).dig k;have G:=h.cell (i:=k) (by rw[K7 Hol];exact s);have P:=h.frozen k;go_wp2_with fail;refine(Zi _ _ ((K7 Ha).below j) I).mono ?_;rintro e u ⟨rfl,rfl⟩;go_wp2_with fail;refine(Zi _ _ ((K7 Hb).below j) I).mono ?_;rintro e u ⟨rfl,rfl⟩
    by_cases Q:dg b k+y<=dg a k
    .go_wp2;have g:=h.set_ k (dg a k-dg b k-y);rw[show((dg a k-dg b k-y:Nat):Int)=(dg a k:Int)-dg b k-y by omega]at g;go_roundw
     case rel=>exact⟨k+1,0,_,by omega,by go_num,congrArg (AK .u64) I,by rw[AD];exact K7 Hol,p.set _ I,by omega,Gv (by rw[K7 Hol];exact s) (K7 Hsum) I,g,j.setCell (AA _) _⟩
     case measure=>simp[intOf];omega
    .have g:=h.set_ k (dg a k+4294967296-dg b k-y)
     by_cases N:dg b k<=dg a k
     .go_wp2;rw[show((dg a k+4294967296-dg b k-y:Nat):Int)=XP.wrap ((dg a k:Int)-dg b k-y)%4294967296 by rw[M4];omega]at g;go_roundw
      case rel=>exact⟨k+1,1,_,by omega,by go_num,congrArg (AK .u64) (by rw[M4];omega),by rw[AD];exact K7 Hol,p.set _ I,by omega,Gv (by rw[K7 Hol];exact s) (K7 Hsum) I,g,j.setCell (AA _) _⟩
      case measure=>simp[intOf];omega
     .go_wp2;rw[show((dg a k+4294967296-dg b k-y:Nat):Int)=XP.wrap (XP.wrap ((dg a k:Int)-dg b k)-y)%4294967296 by rw[M4,M4];omega]at g;go_roundw
      case rel=>exact⟨k+1,1,_,by omega,by go_num,congrArg (AK .u64) (by rw[M4,M4];omega),by rw[AD];exact K7 Hol,p.set _ I,by omega,Gv (by rw[K7 Hol];exact s) (K7 Hsum) I,g,j.setCell (AA _) _⟩
      case measure=>simp[intOf];omega
   .have F:k=Ao a n:=I
    subst F;have E:=h.own p (AA _) (by rw[K7 Hol];unfold maxLen;omega);rw[K7 Hol]at E;go_wp2_with fail;refine(Lx _ E.toIn).mono ?_;rintro e u ⟨rfl,rfl⟩;go_wp2_with fail;go_ret2;have v:=K7 Ha;have D:=K7 Hb;have T:=K7 Hc;have H:=v.trim.len;have S:decide (val b<=val a)=true:=YU I;rw[S];refine⟨_,_,_,trim o,rfl,Ma p,?_,E.trim,j⟩;rw[L6];exact lq (by rw[H];exact K7 Hol) p v.dig I (by rw[H];exact K7 Hsum)
theorem ru{A B:YY}{n c m d:Nat}{a b:List Nat}(w:YM)(wJ:In w A n c a)(L:In w B m d b)(hn:n<=1099511627776)(hm:m<=1099511627776):
 XW XM 271 #[.slice A n c,.slice B m d] w (Eg w (val a*val b)):=by
 have N:=Nr a n;have R:=Nr b m;have Ta:=wJ.trim;have Tb:=L.trim;have Va:Hid (val (trim a)=val a):=L6 a;have Vb:Hid (val (trim b)=val b):=L6 b;have Ha:=Lk wJ;have Hb:=Lk L;clear wJ L;obtain⟨p,U⟩:∃p,p=Ao a n:=⟨_,rfl⟩
 obtain⟨q,M⟩:∃q,q=Ao b m:=⟨_,rfl⟩
 rw[<-U]at Ta N;rw[<-M]at Tb R;have HP:=Lk U;have HQ:=Lk M;clear U M;have hmk:=λW=>Ow W ((p:Int)+q) (p+q) I I
 go_enter func271,ntmps271;go_wp2_with fail;go_step3;go_wp2_with fail;refine(Lx w (K7 Ha)).mono ?_;rintro e Y ⟨rfl,rfl⟩;rw[<-K7 HP];go_wp2_with fail;refine(Lx w (K7 Hb)).mono ?_;rintro e Y ⟨rfl,rfl⟩;rw[<-K7 HQ];go_wp2_with fail;go_step3;go_wp2_with fail;go_loopw [23] (λi wr=>∃(k:Nat) (o:List Nat),k<=p/\i= .int .i64 k/\o.length=p+q/\Oq o/\Hid (val o=lo (trim a) k*val (trim b)/\∀j,k+q<=j->dg o j=0)/\Mk wr w.heap.size 92 o/\Below w.heap.size w wr) (λi _=>p- (intOf i).toNat)
 case atStart=>exact⟨0,_,AO _,rfl,by simp,Oq.replicate _,⟨by rw[W4,Oh];omega,λj _=>Ss⟩,Mk.zero w (p+q),(Below.refl _ _).alloc (AA _) _⟩
 case round=>
  obtain⟨k,o,hk,rfl,F,l,wI,x,h⟩:=hrel;have Hol:=Lk F;clear F
  by_cases hlt:k<p
  .obtain⟨ad,hA,hca⟩:=(Ta.below h).at_ (k:=k) I;subst hA;have hx:=Ta.dig k
   by_cases G:dg (trim a) k=0
   .have hz:(((dg (trim a) k:Nat):Int)==0)=true:=by simp[G]
    have H0:=Lk G;clear G;go_wp2;go_roundw
    case rel=>exact⟨k+1,o,by omega,by go_num,K7 Hol,l,⟨by rw[Lq,K7 H0,Nat.zero_mul,Nat.add_zero];exact(K7 wI).1,λj hj=>(K7 wI).2 j I⟩,x,h⟩
    case measure=>simp[intOf];omega
   .have hz:(((dg (trim a) k:Nat):Int)==0)=false:=by simpa using G
    clear G;go_wp2;obtain⟨Z,rfl⟩:∃Z:YM,Z=wr:=⟨_,rfl⟩
    go_loopw [8,32] (λcy i wr=>∃(j y:Nat) (r:List Nat),j<=q/\i= .int .i64 j/\cy= .int .u64 y/\y<4294967296/\r.length=p+q/\Oq r/\Hid (lo r (k+j)+y*pw (k+j)=lo o (k+j)+dg (trim a) k*lo (trim b) j*pw k/\∀t,k+j<=t->dg r t=dg o t)/\Mk wr w.heap.size 92 r/\Below w.heap.size w wr) (λ_ i _=>q- (intOf i).toNat)
    case atStart=>exact⟨0,0,o,AO _,rfl,rfl,by omega,K7 Hol,l,⟨by rw[Oh];omega,λ_ _=>rfl⟩,x,h⟩
    case round=>
     obtain⟨j,y,r,hj,rfl,rfl,hy,E,z,D,f,u⟩:=hrel;have Hrl:=Lk E;clear E
     by_cases hlt2:j<q
     .obtain⟨bd,hB,hcb⟩:=(Tb.below u).at_ (k:=j) I;subst hB;have J:=Tb.dig j;have hr2:=z (k+j);have hxy:=Fo hx J;have v:=f.cell (i:=k+j) (by rw[K7 Hrl];omega);have P:=f.frozen (k+j);go_wp2;obtain⟨s,hs⟩:∃s,s=y+(dg (trim a) k*dg (trim b) j+dg r (k+j)):=⟨_,rfl⟩
      have S:(s:Int)=(y:Int)+((dg (trim a) k:Int)*(dg (trim b) j:Int)+(dg r (k+j):Int)):=by
       rw[hs,Int.natCast_add,Int.natCast_add,AP]
      rw[<-S];have g:=f.set_ (k+j) (s%4294967296);rw[show((s%4294967296:Nat):Int)=(s:Int)%4294967296 by omega]at g;go_roundw
      case rel=>
       refine⟨j+1,s/4294967296,_,by omega,by go_num,congrArg (AK .u64) I,by omega,by rw[AD];exact K7 Hrl,z.set _ I,⟨?_,λt ht=> ?_⟩,g,u.setCell (AA _) _⟩
       .exact dn (by rw[K7 Hrl];omega) ((K7 D).2 _ (AA _)) (K7 D).1 hs
       .rw[Pr,YT I];exact(K7 D).2 t I
      case measure=>simp[intOf];omega
     .have X:j=q:=I
      subst X;have v:=f.cell (i:=k+j) (by rw[K7 Hrl];omega);have P:=f.frozen (k+j);go_wp2;have g:=f.set_ (k+j) y;go_roundw
      case rel=>
       have H:=ly (a:=trim a) (b:=trim b) (by rw[K7 Hrl];omega) rfl (by rw[Mz (by rw[Tb.len];exact AA _)]) (K7 wI).1 (K7 wI).2 (K7 D).2 (K7 D).1;exact⟨k+1,_,by omega,by go_num,by rw[AD];exact K7 Hrl,z.set _ hy,H,g,u.setCell (AA _) _⟩
      case measure=>simp[intOf];omega
  .have Q:k=p:=I
   subst Q;have T:=x.own l (AA _) (by rw[K7 Hol];unfold maxLen;omega);rw[K7 Hol]at T;go_wp2_with fail;refine(Lx _ T.toIn).mono ?_;rintro e Y ⟨rfl,rfl⟩;go_wp2_with fail;try rw[Exit.noGoto_ret];go_ret;refine⟨_,_,_,trim o,rfl,Ma l,?_,T.trim,h⟩;rw[L6,(K7 wI).1,K7 Vb,Mz (by rw[Ta.len];exact AA _),K7 Va]
theorem G1{x y:Nat}(b:x<4294967296)(c:y<4294967296):bits .or .u64 ((x:Int)*4294967296) (y:Int)=((x*4294967296+y:Nat):Int):=by
 rw[show(x:Int)*4294967296=((x*4294967296:Nat):Int) by omega,u64_or_nat _ _ I I,nat_join 32 _ _ I I]
theorem qc{A:YY}{n c:Nat}{a:List Nat}(d:Nat)(w:YM)(B:In w A n c a)(U:n<=1099511627776)(H:0<d)(S:d<4294967296):
 XW XM 306 #[.slice A n c,.int .u32 d] w λe E=>∃A' M c' l,e= .returned (.tuple #[.slice A' M c',.int .u32 ((val a%d:Nat):Int)])/\Pe l/\val l=val a/d/\Si E w.heap.size A' M c' l/\Below w.heap.size w E:=by
 have Z:=λW=>Ow W (n:Int) n rfl I
 have Hl:=Lk B.len;go_enter func306,ntmps306;go_wp2_with fail;go_loopw [7,8] (λre i wr=>∃(k r:Nat) (z:Int) (o:List Nat),k<=n/\z+1=k/\i= .int .i64 z/\re= .int .u64 r/\r<d/\o.length=n/\Oq o/\Hid (val (o.drop k)*d+r=val (a.drop k))/\Mk wr w.heap.size 92 o/\Below w.heap.size w wr) (λ_ i _=>(intOf i+1).toNat)
 case atStart=>exact⟨n,0,(n:Int)-1,_,AA _,by omega,rfl,rfl,H,by simp,Oq.replicate _,(show val ((AL n 0).drop n)*d+0=val (a.drop n) by rw[V8 (l:=a) (by rw[K7 Hl];exact AA _),V8 Zs];omega),Mk.zero w n,(Below.refl _ _).alloc (AA _) _⟩
 case round=>
  obtain⟨k,r,z,o,T,G,rfl,rfl,J,m,h,L,b,g⟩:=hrel;have Hol:=Lk m;clear m
  by_cases p:k=0
  .subst p;obtain rfl:z= -1:=I
   clear G;have D:=b.own h (AA _) (by rw[K7 Hol];unfold maxLen;omega);rw[K7 Hol]at D;go_wp2_with fail;refine(Lx _ D.toIn).mono ?_;rintro e E ⟨rfl,rfl⟩;go_wp2_with fail;go_ret2;obtain⟨u,v⟩:=J3 (K7 L) J;simp only[BO]at u v;subst v;exact⟨_,_,_,trim o,rfl,Ma h,by rw[L6];exact u,D.trim,g⟩
  .obtain⟨j,rfl⟩:∃j,k=j+1:=⟨k-1,by omega⟩
   obtain rfl:z=(j:Int):=I
   clear G p;obtain⟨ad,N,Q⟩:=(B.below g).at_ (k:=j) I;have wI:=B.dig j;have F:=b.cell (i:=j) (by rw[K7 Hol];omega);have P:=b.frozen j;have R:=G1 (x:=r) (y:=dg a j) I wI;subst N;have f:=ZU J wI;have t:=AW (r*4294967296+dg a j) H;go_wp2;have s:=b.set_ j ((r*4294967296+dg a j)/d);have u:(((r*4294967296+dg a j)/d:Nat):Int)=((r:Int)*4294967296+dg a j)/d%4294967296:=by
    have e:(((r*4294967296+dg a j)/d:Nat):Int)=((r:Int)*4294967296+dg a j)/d:=by rw[BH];rfl
    rw[<-e];exact(Int.emod_eq_of_lt (Int.natCast_nonneg _) (Int.ofNat_lt.2 f)).symm
   have v:(((r*4294967296+dg a j)%d:Nat):Int)=((r:Int)*4294967296+dg a j)%d:=by rw[Int.natCast_emod];rfl
   rw[u]at s;go_roundw
   case rel=>exact⟨j,(r*4294967296+dg a j)%d,(j:Int)-1,_,by omega,by omega,rfl,by rw[v],t,by rw[AD];exact K7 Hol,h.set _ f,fG (by rw[K7 Hl];omega) (by rw[K7 Hol];omega) (K7 L) rfl rfl,s,g.setCell (AA _) _⟩
   case measure=>simp[intOf]
def nj(w:YM)(k:Nat)(e:XS)(b:YM):Prop:=
 ∃A n l,e= .returned (.slice A n n)/\Pe l/\val l=k/\Si b w.heap.size A n n l/\Below w.heap.size w b
theorem U1(k:Nat):pw k=2 ^ (32*k):=by
 rw[pw,Nat.pow_mul]
theorem Rn(k:Nat):0<2 ^ k:=Nat.pow_pos I
theorem Gr{k:Nat}(h:k<32):2 ^ k<=2147483648:=by
 have:2 ^ k<=2 ^ 31:=AH I I;simpa using this
theorem Z1{k:Nat}(h:k<=32):2 ^ k*2 ^ (32-k)=4294967296:=by
 rw[<-AM,show k+(32-k)=32 by omega]
theorem Gq{x c e : Nat}(g:c*e=4294967296)(j:x<4294967296):x*c/4294967296<c/\x*c%4294967296%c=0/\x*c%4294967296+c<=4294967296:=by
 have b:0<c:=Nat.pos_of_ne_zero λh=>by subst h;omega
 have f:0<e:=Nat.pos_of_ne_zero λh=>by subst h;omega
 refine⟨?_,?_,?_⟩
 .rw[AN I,AR];exact Nat.mul_lt_mul_of_pos_left j b
 .rw[<-g,Nat.mod_mul_right_mod,Nat.mul_mod_left]
 .have l:x*c%4294967296=x%e*c:=by
   rw[<-g,AR c e,Nat.mul_mod_mul_right]
  rw[l];have k:(x%e+1)*c<=e*c:=AB _ (AW _ f);rw[AE,AR e c,g]at k;omega
theorem kc{a o:List Nat}{k h c x:Nat}(f:k+h+1<o.length)
 (b:lo o (k+h+1)=lo a k*c*pw h) (g:x=dg a k):
 lo ((o.set (k+h) (dg o (k+h)+x*c%4294967296)).set (k+h+1) (x*c/4294967296)) (k+1+h+1)=lo a (k+1)*c*pw h:=by
 rw[show k+1+h+1=(k+h+1)+1 by omega,Pp (by rw[AD];omega),show k+h+1=(k+h)+1 by omega,Pp I,Lq a,<-g];rw[Lq]at b;have e:=AI (x*c) 4294967296;generalize x*c%4294967296=r at e ⊢;generalize x*c/4294967296=q at e ⊢;rw[N5];rw[RG]at b ⊢;have j:(r+q*4294967296)*(pw k*pw h)=x*c*(pw k*pw h):=by rw[<-e];grind
 grind
theorem RH{x y c e:Nat}(f:c*e=4294967296)(j:x<4294967296)(p:y<4294967296):
 (x+y*4294967296)/c=x/c+y*e/\(x+y*4294967296)/c%4294967296+y/c*4294967296=x/c+y*e:=by
 have b:0<c:=Nat.pos_of_ne_zero λh=>by subst h;omega
 have m:0<e:=Nat.pos_of_ne_zero λh=>by subst h;omega
 have g:(x+y*4294967296)/c=x/c+y*e:=by
  rw[<-f,show y*(c*e)=y*e*c by grind,Nat.add_mul_div_right _ _ b]
 refine⟨g,?_⟩;rw[g];have s:x/c<e:=by rw[AN b,AR,f];exact j
 have o:=AI y c;have t:y%c*e+e<=4294967296:=by
  have:(y%c+1)*e<=c*e:=AB _ (AW _ b);rw[AE,f]at this;omega
 have k:y*e=y/c*4294967296+y%c*e:=by rw[<-f];grind
 rw[k];have l:(x/c+(y/c*4294967296+y%c*e))%4294967296=x/c+y%c*e:=by
  rw[show x/c+(y/c*4294967296+y%c*e)=(x/c+y%c*e)+y/c*4294967296 by omega,Nat.add_mul_mod_self_right,Nat.mod_eq_of_lt I]
 rw[l];omega
theorem WK{b o : List Nat}{k c e d:Nat}(j:c*e=4294967296)(g:Oq b)(m:k<o.length)
 (s:lo o k+pw k*(dg b k/c)=lo b (k+1)/c) (t:d=(dg b k+dg b (k+1)*4294967296)/c%4294967296):
 lo (o.set k d) (k+1)+pw (k+1)*(dg b (k+1)/c)=lo b (k+1+1)/c:=by
 have f:0<c:=Nat.pos_of_ne_zero λh=>by subst h;omega
 have l:=(RH j (g k) (g (k+1))).2;rw[<-t]at l;rw[Pp m,Lq b (k+1),N5];have p:(lo b (k+1)+dg b (k+1)*(pw k*4294967296))/c=lo b (k+1)/c+dg b (k+1)*e*pw k:=by
  rw[<-j,show dg b (k+1)*(pw k*(c*e))=(dg b (k+1)*e*pw k)*c by grind,Nat.add_mul_div_right _ _ f]
 rw[p,<-s];have u:(d+dg b (k+1)/c*4294967296)*pw k=(dg b k/c+dg b (k+1)*e)*pw k:=by rw[l]
 grind
theorem bO{b o:List Nat}{c:Nat}(e:o.length=b.length)(f:lo o b.length+pw b.length*(dg b b.length/c)=lo b (b.length+1)/c):val o=val b/c:=by
 rw[Vt (AA _),Nat.zero_div,Mz I,Mz I]at f;simpa using f
theorem GB(a:List Nat)(k:Nat)(h:Oq a):val (a.drop k)=val a/pw k:=by
 have c:=G6 a k;have b:=Ew h k;rw[c,Nat.add_mul_div_left _ _ (Ak k),BE b];omega
theorem Oo{v t:Nat}:v*2 ^ t=v*2 ^ (t%32)*pw (t/32):=by
 rw[U1,Nat.mul_assoc,<-AM];congr 2;omega
theorem aR{v t:Nat}:v/2 ^ t=v/pw (t/32)/2 ^ (t%32):=by
 rw[Nat.div_div_eq_div_mul,U1,<-AM];congr 2;omega
def JL(v:Nat)(n:Int):Nat:=if 0<=n then v*2 ^ (min n.toNat 4096)else v/2 ^ (-n).toNat
theorem SP{x k:Nat}(g:x<4294967296)(b:k<32):XP.wrap ((x:Int)*2 ^ k)=((x*2 ^ k:Nat):Int):=by
 have f:=Gr b;have c:x*2 ^ k<=4294967295*2147483648:=BL I f;have e:(x:Int)*2 ^ k=((x*2 ^ k:Nat):Int):=by rw[AP,Int.natCast_pow];rfl
 rw[e,M4];generalize x*2 ^ k=y at c ⊢;omega
theorem ni{x k d:Nat}(b:x<4294967296)(c:k<32)(f:d<2 ^ k):
 bits .or .u32 (d:Int) (XP.wrap ((x:Int)*2 ^ k)%4294967296)=((d+x*2 ^ k%4294967296:Nat):Int):=by
 obtain⟨_,e,h⟩:=Gq (Z1 (k:=k) I) b;have g:=Rn k;rw[SP b c,show((x*2 ^ k:Nat):Int)%4294967296=((x*2 ^ k%4294967296:Nat):Int) by omega,u32_or_nat _ _ I I,Nat.or_comm,nat_join k _ _ e f,AU]
theorem kb{x k:Nat}(b:x<4294967296)(c:k<32):
 XP.wrap ((x:Int)*2 ^ k)/4294967296%4294967296=((x*2 ^ k/4294967296:Nat):Int):=by
 obtain⟨f,_⟩:=Gq (Z1 (k:=k) I) b;have e:=Gr c;rw[SP b c];omega
theorem H5{A:YY}{n c:Nat}{a:List Nat}(s:Nat)(w:YM)(z:In w A n c a)(Y:n<=1099511627776)(hs:s<=9223372036854775807):
 XW XM 280 #[.slice A n c,.int .i64 s] w (nj w (val a*2 ^ (min s 4096))):=by
 have J:=Nr a n;have Ta:=z.trim;have Va:Hid (val (trim a)=val a):=L6 a;have Ha:=Lk z;clear z;obtain⟨p,L⟩:∃p,p=Ao a n:=⟨_,rfl⟩
 rw[<-L]at Ta J;have HP:=Lk L;clear L;obtain⟨t,Z,x,h⟩:∃t,t<=4096/\((s<4096->t=s)/\(¬s<4096->t=4096))/\min s 4096=t:=⟨min s 4096,by omega,⟨by omega,by omega⟩,rfl⟩
 rw[h];clear h;have Hts:=Lk x;clear x;go_enter func280,ntmps280;go_wp2_with fail;refine(Lx w (K7 Ha)).mono ?_;rintro e S ⟨rfl,rfl⟩;rw[<-K7 HP];go_upto_region 13 with fail;go_cut [1] (λU R=>U= .int .i64 t/\R=w)
 case first=>
  go_wp2_with fail
  all_goals
   go_meet;refine⟨congrArg (AK .i64) ?_,rfl⟩;have:=K7 Hts;omega
 case rest=>
  obtain⟨rfl,rfl⟩:=hcut;clear Hts;have P:=λW=>Ow W ((p:Int)+(t:Int)/32+1) (p+t/32+1) I I
  go_wp2_with fail;go_loopw [76] (λi wr=>∃(k:Nat) (o:List Nat),k<=p/\i= .int .i64 k/\o.length=p+t/32+1/\Oq o/\Hid (lo o (k+t/32+1)=lo (trim a) k*2 ^ (t%32)*pw (t/32)/\dg o (k+t/32)<2 ^ (t%32))/\Mk wr wc.heap.size 92 o/\Below wc.heap.size wc wr) (λi _=>p- (intOf i).toNat)
  case atStart=>exact⟨0,_,AO _,rfl,by simp,Oq.replicate _,⟨by rw[Vm,Oh];omega,by rw[Ss];exact Rn _⟩,Mk.zero wc (p+t/32+1),(Below.refl _ _).alloc (AA _) _⟩
  case round=>
   obtain⟨k,o,X,rfl,v,u,H,f,m⟩:=hrel;have Hol:=Lk v;clear v
   by_cases wJ:k<p
   .obtain⟨ad,N,T⟩:=(Ta.below m).at_ (k:=k) I;have D:=Ta.dig k;have wI:=f.cell (i:=k+t/32) (by rw[K7 Hol];omega);have Q:=f.frozen (k+t/32);have y:=f.cell (i:=k+t/32+1) (by rw[K7 Hol];omega);have M:=f.frozen (k+t/32+1);subst N;go_wp2;have j:=(K7 H).1;have B:=(K7 H).2;have g:t%32<32:=AW _ I;have b:=Gq (Z1 (k:=t%32) I) D;rw[ni D g B,kb D g];have E:=(f.set_ (k+t/32) (dg o (k+t/32)+dg (trim a) k*2 ^ (t%32)%4294967296)).set_ (k+t/32+1) (dg (trim a) k*2 ^ (t%32)/4294967296);go_roundw
    case rel=>
     refine⟨k+1,_,by omega,by go_num,by rw[AD,AD];exact K7 Hol,(u.set _ I).set _ (AQ b.1 (AZ (Gr g) I)),⟨kc (by rw[K7 Hol];omega) j rfl,?_⟩,E,(m.setCell (AA _) _).setCell (AA _) _⟩;rw[show k+1+t/32=k+t/32+1 by omega,Pr,YS ⟨rfl,by rw[AD,K7 Hol];omega⟩];exact b.1
    case measure=>simp[intOf];omega
   .have G:k=p:=I
    subst G;have F:=f.own u (AA _) (by rw[K7 Hol];unfold maxLen;omega);rw[K7 Hol]at F;go_wp2_with fail;refine(Lx _ F.toIn).mono ?_;rintro e S ⟨rfl,rfl⟩;go_wp2_with fail;go_ret;refine⟨_,_,trim o,rfl,Ma u,?_,F.trim,m⟩;have j:=(K7 H).1;rw[L6,<-Mz (l:=o) (BQ (K7 Hol)),j,Mz (by rw[Ta.len];exact AA _),K7 Va,<-Oo]
theorem ee{x y t:Nat}(b:x<4294967296)(e:y<4294967296)(c:t<32):
 bits .or .u64 (x:Int) ((y:Int)*4294967296)/2 ^ t%4294967296=(((x+y*4294967296)/2 ^ t%4294967296:Nat):Int):=by
 rw[show(y:Int)*4294967296=((y*4294967296:Nat):Int) by omega,u64_or_nat _ _ I I,Nat.or_comm,nat_join 32 _ _ I I,AU,
  Int.natCast_emod,BH,Int.natCast_pow]
 rfl
theorem OO{A:YY}{n c:Nat}{a:List Nat}(s:Nat)(z:Int)(w:YM)(F:In w A n c a)(hn:n<=1099511627776)(hs:(s:Int)<=9223372036854775808)(h0:0<s)(l:z= -(s:Int)):
 XW XM 280 #[.slice A n c,.int .i64 z] w (nj w (val a/2 ^ s)):=by
 have N:=Nr a n;have Ta:=F.trim;have Va:Hid (val (trim a)=val a):=L6 a;have Ha:=Lk F;clear F;obtain⟨p,wJ⟩:∃p,p=Ao a n:=⟨_,rfl⟩
 rw[<-wJ]at Ta N;have HP:=Lk wJ;clear wJ;have hz1:z<0:=I
 by_cases y:32*p<=s
 .have L:z<=-32*(p:Int):=I
  have Hz:=Lk l;clear l;go_enter func280,ntmps280;go_wp2_with fail;refine(Lx w (K7 Ha)).mono ?_;rintro e E ⟨rfl,rfl⟩;rw[<-K7 HP];go_wp2_with fail;go_ret;refine⟨none,0,[],rfl,Pe.nil,?_,uY,Below.refl _ _⟩;have h1:=Ni Ta.dig (by rw[Ta.len];exact AA p);rw[K7 Va,U1]at h1;have h2:2 ^ (32*p)<=2 ^ s:=AH I y;rw[BE I]
  rfl
 .obtain⟨h,T⟩:∃h,h=s/32:=⟨_,rfl⟩
  obtain⟨t,U⟩:∃t,t=s%32:=⟨_,rfl⟩
  have L:¬z<=-32*(p:Int):=I
  have hz3: -9223372036854775807<=z:=I
  have Z:wrap64 (-(z.tdiv 32))=(h:Int):=by
   rw[l,Int.neg_tdiv,Int.neg_neg,BA I,IntWalk.wrap64_in _ ⟨by omega,by omega⟩];omega
  have e2: -(z.tmod 32)=(t:Int):=by
   rw[l,Int.neg_tmod,Int.neg_neg,BB I];omega
  have P:t<32:=I
  have hhp:h<p:=I
  have Hz:=Lk l;have Hh:=Lk T;have Ht:=Lk U;clear l T U y;obtain⟨b,x⟩:∃b,b=(trim a).drop h:=⟨_,rfl⟩
  have v:∀i,dg b i=dg (trim a) (h+i):=λi=>by rw[x,Qe]
  have B:b.length=p-h:=by rw[x,List.length_drop,Ta.len]
  have G:Oq b:=by rw[x];exact Ta.dig.drop h
  have D:val b=val a/pw h:=by rw[x,GB _ _ Ta.dig,K7 Va]
  have HB:=Lk (And.intro v (And.intro B D));clear v B D x;have hmk:=λW=>Ow W ((p:Int)-h) (p-h) I I
  go_enter func280,ntmps280;go_wp2_with fail;refine(Lx w (K7 Ha)).mono ?_;rintro e E ⟨rfl,rfl⟩;rw[<-K7 HP];go_upto_region 6 with fail;simp only[Z,e2];clear Z e2;go_wp2_with fail;go_loopw [37] (λi wr=>∃(k:Nat) (o:List Nat),k<=p-h/\i= .int .i64 k/\o.length=p-h/\Oq o/\Hid (lo o k+pw k*(dg b k/2 ^ t)=lo b (k+1)/2 ^ t)/\Mk wr w.heap.size 92 o/\Below w.heap.size w wr) (λi _=>p-h- (intOf i).toNat)
  case atStart=>exact⟨0,_,AO _,rfl,by simp,Oq.replicate _,(show _=_ by rw[Vm,Lq,Oh,Fx];simp),Mk.zero w (p-h),(Below.refl _ _).alloc (AA _) _⟩
  case round=>
   obtain⟨k,o,hk,rfl,u,j,Y,f,g⟩:=hrel;have Hol:=Lk u;clear u
   by_cases hlt:k<p-h
   .have S:=Ta.dig (k+h);have X:=Ta.dig (k+h+1);have M:=f.cell (i:=k) (by rw[K7 Hol];omega);have hfz:=f.frozen k;go_wp2_with fail;refine(Zi _ _ (Ta.below g) I).mono ?_;rintro e E ⟨rfl,rfl⟩;go_wp2_with fail;refine(Zi _ _ (Ta.below g) I).mono ?_;rintro e E ⟨rfl,rfl⟩;go_wp2;have m:=K7 HB;have Q:dg (trim a) (k+h)=dg b k:=by rw[m.1,AU]
    have R:dg (trim a) (k+h+1)=dg b (k+1):=by rw[m.1];congr 1;omega
    rw[Q]at S;rw[R]at X;rw[Q,R,ee S X P];have H:=f.set_ k ((dg b k+dg b (k+1)*4294967296)/2 ^ t%4294967296);go_roundw
    case rel=>exact⟨k+1,_,by omega,by go_num,by rw[AD];exact K7 Hol,j.set _ (AW _ I),WK (Z1 I) G (by rw[K7 Hol];omega) (K7 Y) rfl,H,g.setCell (AA _) _⟩
    case measure=>simp[intOf];omega
   .have J:k=p-h:=I
    subst J;have wI:=f.own j (AA _) (by rw[K7 Hol];unfold maxLen;omega);rw[K7 Hol]at wI;go_wp2_with fail;refine(Lx _ wI.toIn).mono ?_;rintro e E ⟨rfl,rfl⟩;go_wp2_with fail;go_ret;refine⟨_,_,trim o,rfl,Ma j,?_,wI.trim,g⟩;have m:=K7 HB;rw[L6,bO (b:=b) (by rw[m.2.1];exact K7 Hol) (by rw[m.2.1];exact K7 Y),m.2.2,K7 Hh,K7 Ht,<-aR]
theorem US{A:YY}{n c:Nat}{a:List Nat}(z:Int)(w:YM)(b:In w A n c a)(e:n<=1099511627776)(g: -9223372036854775808<=z)(f:z<=9223372036854775807):
 XW XM 280 #[.slice A n c,.int .i64 z] w (nj w (JL (val a) z)):=by
 unfold JL
 by_cases h:0<=z
 .obtain⟨s,rfl⟩:=BJ h;rw[YS h,BC];exact H5 s w b e I
 .rw[YT h];exact OO (-z).toNat z w b e I I I
def pl(l:List Nat)(k i:Nat):Nat:=lo (l.drop k) i
theorem TQ(l:List Nat)(k:Nat):pl l k 0=0:=Oh _
theorem Tn(l:List Nat)(k i:Nat):pl l k (i+1)=pl l k i+dg l (k+i)*pw i:=by
 rw[pl,Lq,Qe];rfl
theorem mv{a b:List Nat}{k i:Nat}(h:∀j,k<=j->j<k+i->dg a j=dg b j):pl a k i=pl b k i:=
 GY λj c=>by rw[Qe,Qe];exact h _ I I
theorem Tp{l:List Nat}{k i d:Nat}(h:k+i<l.length):pl (l.set (k+i) d) k (i+1)=pl l k i+d*pw i:=by
 rw[Tn,Pr,YS ⟨rfl,h⟩];congr 1;exact mv λj c b=>by rw[Pr,YT I]
theorem EP{l:List Nat}(h:Oq l)(k i:Nat):pl l k i<pw i:=Ew (h.drop k) i
theorem I5{l:List Nat}{k i:Nat}(h:∀j,k+i<=j->dg l j=0):val (l.drop k)=pl l k i:=
 PV λj b=>by rw[Qe];exact h _ I
theorem WB{top c b e p g l q r U V:Nat}(k:U=(top*4294967296+c)*p+g)(o:V=(b*4294967296+e)*p+l)(m:g<p)
 (f:U<4294967296*V) (t:q*b+r=top) (h:4294967296<=q\/r*4294967296+c<q*e):U<q*V:=by
 rcases h with h|h
 .exact AQ f (AB _ h)
 .have j:top*4294967296+c+1<=q*(b*4294967296+e):=by
   rw[Nat.mul_add,<-Nat.mul_assoc];omega
  have s:(top*4294967296+c+1)*p<=q*(b*4294967296+e)*p:=AB _ j;rw[o,k,Nat.mul_add,<-Nat.mul_assoc];rw[AE _ 1]at s;omega
theorem VQ{top f b c p o e q r U V:Nat}(s:U=(top*4294967296+f)*p+o)(j:V=(b*4294967296+c)*p+e)(l:e<p)(g:1<=b)
 (t:q*b+r=top) (m:q<4294967296) (h:q*c<=r*4294967296+f):q*V<=U+V:=by
 have k:q*(b*4294967296+c)<=top*4294967296+f:=by
  rw[Nat.mul_add,<-Nat.mul_assoc];omega
 have x:q*(b*4294967296+c)*p<=(top*4294967296+f)*p:=AB _ k;have v:q*e<=4294967296*p:=BL I I;have y:1*4294967296*p<=b*4294967296*p:=AB _ (AB _ g);have w:V=b*4294967296*p+c*p+e:=by rw[j,AE]
 have u:q*V=q*(b*4294967296+c)*p+q*e:=by rw[j,Nat.mul_add,<-Nat.mul_assoc]
 omega
theorem PD{top c b f p j g U V:Nat}(l:U=(top*4294967296+c)*p+j)(w:V=(b*4294967296+f)*p+g)(v:j<p)(s:g<p)(t:c<4294967296)(x:f<4294967296)
 (y:2147483648<=b) (z:U<4294967296*V):
 U<(top/b+1)*V/\top/b*b+top%b=top/\top<b*4294967296+4294967296/\top/b<=4294967297:=by
 have e:top/b*b+top%b=top:=Nat.div_add_mod' top b;have B:0<p:=I
 have u:top<b*4294967296+4294967296:=by
  have k:top*4294967296*p<=U:=by rw[l,AE];omega
  have o:4294967296*V<4294967296*((b*4294967296+4294967296)*p):=by
   apply Nat.mul_lt_mul_of_pos_left _ I;have m:(b*4294967296+f+1)*p<=(b*4294967296+4294967296)*p:=AB _ I;rw[AE _ 1]at m;omega
  have h:(4294967296*p)*top<(4294967296*p)*(b*4294967296+4294967296):=by grind
  exact Nat.lt_of_mul_lt_mul_left h
 refine⟨?_,e,u,?_⟩
 .have k:top+1<=(top/b+1)*b:=by
   have:=AW top (show b>0 by omega);rw[AE];omega
  have o:(top+1)*(4294967296*p)<=(top/b+1)*b*(4294967296*p):=AB _ k;have m:(top/b+1)*V=(top/b+1)*b*(4294967296*p)+(top/b+1)*(f*p+g):=by rw[w];grind
  have h:(c+1)*p<=4294967296*p:=AB _ I;have A:U=top*(4294967296*p)+c*p+j:=by rw[l];grind
  rw[AE]at o h;omega
 .have:top/b<4294967298:=by
   rw[AN I];omega
  omega
def X6(U V q:Nat):Prop:=q<4294967296/\U<(q+1)*V/\q*V<=U+V
theorem Z_{l:List Nat}{n:Nat}:lo l (n+2)=(dg l (n+1)*4294967296+dg l n)*pw n+lo l n:=by
 rw[show n+2=(n+1)+1 by omega,Lq,Lq,N5]
 grind
theorem NQ{l:List Nat}{k n:Nat}:pl l k (n+3)=((dg l (k+(n+2))*4294967296+dg l (k+(n+1)))*4294967296+dg l (k+n))*pw n+pl l k n:=by
 rw[show n+3=((n+1)+1)+1 by omega,Tn,Tn,Tn];simp only[N5]
 grind
theorem aL{U P v:List Nat}{k i q c y d f:Nat}(g:k+i<U.length)(j:dg U (k+i)=dg P (k+i))
 (h:pl U k i+q*lo v i=pl P k i+(y+c)*pw i) (b:d+(c+q*dg v i)%4294967296+y=dg U (k+i)+f*4294967296):
 pl (U.set (k+i) d) k (i+1)+q*lo v (i+1)=pl P k (i+1)+(f+(c+q*dg v i)/4294967296)*pw (i+1):=by
 rw[Tp g,Lq,Tn,N5,<-j];have e:=AI (c+q*dg v i) 4294967296;generalize (c+q*dg v i)%4294967296=m at e b;generalize (c+q*dg v i)/4294967296=t at e ⊢;have o:(d+m+y)*pw i=(dg U (k+i)+f*4294967296)*pw i:=by rw[b]
 have l:(4294967296*t+m)*pw i=(c+q*dg v i)*pw i:=by rw[e]
 grind
theorem cR{U P v:List Nat}{k n q c y d b:Nat}(f:k+n<U.length)(g:dg U (k+n)=dg P (k+n))
 (h:pl U k n+q*lo v n=pl P k n+(y+c)*pw n) (e:d+c+y=dg U (k+n)+b*4294967296):
 pl (U.set (k+n) d) k (n+1)+q*lo v n=pl P k (n+1)+b*pw (n+1):=by
 rw[Tp f,Tn,N5,<-g];have j:(d+c+y)*pw n=(dg U (k+n)+b*4294967296)*pw n:=by rw[e]
 grind
theorem XI{U P v:List Nat}{k i y:Nat}(b:k+i<U.length)(c:dg U (k+i)=dg P (k+i))
 (h:pl U k i+y*pw i=pl P k i+lo v i):
 pl (U.set (k+i) ((y+(dg U (k+i)+dg v i))%4294967296)) k (i+1)+(y+(dg U (k+i)+dg v i))/4294967296*pw (i+1)=pl P k (i+1)+lo v (i+1):=by
 rw[Tp b,Lq,Tn,N5,<-c];have e:=AI (y+(dg U (k+i)+dg v i)) 4294967296;generalize (y+(dg U (k+i)+dg v i))%4294967296=m at e ⊢;generalize (y+(dg U (k+i)+dg v i))/4294967296=t at e ⊢
 grind
theorem cI{U P v:List Nat}{k n y:Nat}(b:k+n<U.length)(c:dg U (k+n)=dg P (k+n))
 (h:pl U k n+y*pw n=pl P k n+lo v n):
 ∃z,pl (U.set (k+n) ((dg U (k+n)+y)%4294967296)) k (n+1)+z*pw (n+1)=pl P k (n+1)+lo v n:=by
 refine⟨(dg U (k+n)+y)/4294967296,?_⟩;rw[Tp b,Tn,N5,<-c];have e:=AI (dg U (k+n)+y) 4294967296;generalize (dg U (k+n)+y)%4294967296=m at e ⊢;generalize (dg U (k+n)+y)/4294967296=t at e ⊢
 grind
theorem WT{P P' V q:Nat}(b:X6 P V q)(h:P'+q*V=P):P'<V:=by
 have c:=b.2.1;rw[AE]at c;omega
theorem cV{P P' P2 V q B z:Nat}(g:X6 P V q)(k:P'<B)(b:P<B)(j:P2<B)(h:P'+q*V=P+B)(o:P2+z*B=P'+V):
 1<=q/\P2<V/\P2+(q-1)*V=P:=by
 have f:=g.2.2;have l:1<=q:=by
  rcases AF q with e|e
  .subst e;omega
  .exact e
 obtain⟨m,rfl⟩:∃m,q=m+1:=⟨q-1,by omega⟩
 rw[AE]at h f;have c:z=1:=by
  rcases Nat.lt_trichotomy z 1 with e|e|e
  .have:z=0:=I
   subst this;omega
  .exact e
  .have:2*B<=z*B:=AB _ e;omega
 subst c;rw[Nat.add_sub_cancel];omega
theorem au{U U' Q:List Nat}{k n q V A:Nat}(b:k<Q.length)(g:∀j,k+(n+1)<=j->dg U j=0)(f:∀j,k+(n+1)<=j->dg U' j=0)(c:∀j,j<k->dg U' j=dg U j)
 (l:pl U' k (n+1)+q*V=pl U k (n+1)) (m:val (Q.drop (k+1))*pw (k+1)*V+val U=A):
 val ((Q.set k q).drop k)*pw k*V+val U'=A:=by
 have h:=G6 U k;have p:=G6 U' k;rw[I5 g,<-GY c]at h;rw[I5 f]at p;have o:val ((Q.set k q).drop (k+1))=val (Q.drop (k+1)):=Fm λj=>by
  rw[Qe,Qe,Pr,YT I]
 rw[Rm (by rw[AD];exact b),o,Pr,YS ⟨rfl,b⟩];rw[N5]at m;have e:(pl U' k (n+1)+q*V)*pw k=pl U k (n+1)*pw k:=by rw[l]
 grind
theorem MU:AC 0=0:=Zd
theorem Yu:∀(f x:Nat),x<2 ^ f->f<=64->x≠0->1<=AC x/\2 ^ (AC x-1)<=x/\x<2 ^ AC x
 |0,x,h,_,c=>by simp at h;omega
 | f+1,x,h,g,c=>by
  have b:x<2 ^ 64:=AQ h (AH I g);rw[Lib.bitLen_half x c b]
  by_cases j:x/2=0
  .have e:x=1:=I
   subst e;rw[show 1/2=0 from rfl,MU]
   decide
  .obtain⟨k,m,l⟩:=Yu f (x/2) (by rw[BD]at h;omega) I j;refine⟨by omega,?_,?_⟩
   .rw[show 1+AC (x/2)-1=(AC (x/2)-1)+1 by omega,BD];omega
   .rw[AU,BD];omega
def A_(v:Nat):Nat:=if v=0 then 0 else Nat.log2 v+1
theorem MX{v k:Nat}(g:2 ^ k<=v)(e:v<2 ^ (k+1)):Nat.log2 v=k:=by
 have b:v≠0:=by have:=Rn k;omega
 have c:=Nat.log2_self_le b;have f:= @Nat.lt_log2_self v;rcases Nat.lt_trichotomy (Nat.log2 v) k with h|h|h
 .have:=AH (show 2>0 by omega) (show Nat.log2 v+1<=k by omega);omega
 .exact h
 .have:=AH (show 2>0 by omega) (show k+1<=Nat.log2 v by omega);omega
theorem fC{l:List Nat}{n:Nat}(b:Oq l)(s:l.length=n+1)(j:dg l n≠0):
 A_ (val l)=32*n+AC (dg l n):=by
 have g:=b n;obtain⟨t,c,f⟩:=Yu 32 (dg l n) g I j;have m:val l=lo l n+dg l n*pw n:=by rw[<-Lq,Mz I]
 have u:=Ew b n;have w:2 ^ (AC (dg l n)-1)*pw n<=dg l n*pw n:=AB _ c;have h:(dg l n+1)*pw n<=2 ^ AC (dg l n)*pw n:=AB _ f;rw[AE]at h;have v:=Ak n;have p:2 ^ (AC (dg l n)-1)*pw n=2 ^ (32*n+(AC (dg l n)-1)):=by rw[U1,<-AM];congr 1;omega
 have o:2 ^ AC (dg l n)*pw n=2 ^ (32*n+(AC (dg l n)-1)+1):=by rw[U1,<-AM];congr 1;omega
 have e:val l≠0:=by
  have:=Rn (32*n+(AC (dg l n)-1));omega
 rw[A_,YT e,MX (k:=32*n+(AC (dg l n)-1)) I I];omega
theorem PF{l:List Nat}{n:Nat}(f:Oq l)(t:l.length=n+1)(j:dg l n≠0):
 2147483648*pw n<=val l*2 ^ (32-AC (dg l n))/\val l*2 ^ (32-AC (dg l n))<pw (n+1):=by
 have g:=f n;obtain⟨x,o,p⟩:=Yu 32 (dg l n) g I j;have m:AC (dg l n)<=32:=by
  rcases AY 32 (AC (dg l n))with h|h
  .have:=AH (show 2>0 by omega) (show 32<=AC (dg l n)-1 by omega);have e:(2:Nat) ^ 32=4294967296:=Zd
   omega
  .exact h
 have w:val l=lo l n+dg l n*pw n:=by rw[<-Lq,Mz I]
 have u:=Ew f n;have v:2 ^ (AC (dg l n)-1)*pw n<=dg l n*pw n:=AB _ o;have s:(dg l n+1)*pw n<=2 ^ AC (dg l n)*pw n:=AB _ p;rw[AE]at s;have y:=Ak n;have c:2 ^ (AC (dg l n)-1)*pw n<=val l:=I
 have b:val l<2 ^ AC (dg l n)*pw n:=I
 constructor
 .have k:2 ^ (AC (dg l n)-1)*pw n*2 ^ (32-AC (dg l n))<=val l*2 ^ (32-AC (dg l n)):=AB _ c;have e:2 ^ (AC (dg l n)-1)*pw n*2 ^ (32-AC (dg l n))=2147483648*pw n:=by
   rw[Nat.mul_right_comm,<-AM,show AC (dg l n)-1+(32-AC (dg l n))=31 by omega]
  omega
 .have k:val l*2 ^ (32-AC (dg l n))<2 ^ AC (dg l n)*pw n*2 ^ (32-AC (dg l n)):=Nat.mul_lt_mul_of_pos_right b (Rn _);have e:2 ^ AC (dg l n)*pw n*2 ^ (32-AC (dg l n))=pw (n+1):=by
   rw[Nat.mul_right_comm,<-AM,show AC (dg l n)+(32-AC (dg l n))=32 by omega,N5,AR]
  omega
theorem F3{x:Nat}(h:x<4294967296):AC x<=32:=Lib.bitLen_le x 32 I h
theorem aQ{l:List Nat}{n:Nat}(c:Oq l)(f:l.length=n+1)(h:2147483648*pw n<=val l):2147483648<=dg l n:=by
 have e:val l=lo l n+dg l n*pw n:=by rw[<-Lq,Mz I]
 have g:=Ew c n;rcases AY (dg l n) 2147483648 with b|b
 .have:(dg l n+1)*pw n<=2147483648*pw n:=AB _ b;rw[AE]at this;omega
 .exact b
theorem FF{q r x top U V:Nat}(c:1<=q)(h:q*x+r=top)(b:U<q*V):(q-1)*x+(r+x)=top/\U<(q-1+1)*V:=by
 obtain⟨m,rfl⟩:∃m,q=m+1:=⟨q-1,by omega⟩
 rw[Nat.add_sub_cancel];rw[AE]at h;exact⟨by omega,b⟩
theorem jb{UA VA:YY}{m uc vc:Nat}{u v:List Nat}(w:YM)(B:In w UA (m+3) uc u)(Q:In w VA (m+2) vc v)(wJ:2147483648<=dg v (m+1))(o:val u<4294967296*val v):
 XW XM 308 #[.slice UA (m+3) uc,.slice VA (m+2) vc] w λe w'=>∃q:Nat,e= .returned (.int .u64 q)/\X6 (val u) (val v) q/\Qd w w':=by
 have hn:=B.lenI;obtain⟨ad,hA,c0⟩:=B.at_ (k:=m+2) I;obtain⟨ad1,T,c1⟩:=B.at_ (k:=m+1) I;obtain⟨ad2,P,c2⟩:=B.at_ (k:=m) I;obtain rfl:ad=ad1:=by rw[hA]at T;injection T
 obtain rfl:ad=ad2:=by rw[hA]at P;injection P
 clear T P;obtain⟨bd,hB,d1⟩:=Q.at_ (k:=m+1) I;obtain⟨bd1,S,d2⟩:=Q.at_ (k:=m) I;obtain rfl:bd=bd1:=by rw[hB]at S;injection S
 clear S;have x0:=B.dig (m+2);have x1:=B.dig (m+1);have x2:=B.dig m;have y1:=Q.dig (m+1);have y2:=Q.dig m;have D:val u=((dg u (m+2)*4294967296+dg u (m+1))*4294967296+dg u m)*pw m+pl u 0 m:=by
  have:=NQ (l:=u) (k:=0) (n:=m);rw[BG,BG,BG]at this;rw[<-this,pl,BO,Mz (by rw[B.len];exact AA _)]
 have G:val v=(dg v (m+1)*4294967296+dg v m)*pw m+lo v m:=by
  rw[<-Z_,Mz (by rw[Q.len];exact AA _)]
 have j:=EP B.dig 0 m;have g:=Ew Q.dig m;obtain⟨top,c⟩:∃top,top=dg u (m+2)*4294967296+dg u (m+1):=⟨_,rfl⟩
 have R:bits .or .u64 ((dg u (m+2):Int)*4294967296) (dg u (m+1):Int)=(top:Int):=by rw[c];exact G1 x0 x1
 rw[<-c]at D;obtain⟨A,N,Z,W⟩:=PD D G j g x2 y2 wJ o;have ht64:(top:Int)<=18446744073709551615:=I
 have F:=Lk (And.intro D (And.intro G (And.intro j (And.intro g (And.intro o (And.intro A (And.intro N (And.intro Z (And.intro W c)))))))));clear D G j g o A N Z W c;subst hA;subst hB;obtain⟨n,t⟩:∃n,n=m+2:=⟨_,rfl⟩
 obtain⟨k,y⟩:∃k,k=m+1:=⟨_,rfl⟩
 rw[show m+3=n+1 by omega,<-t];rw[<-t]at c0 R;rw[<-y]at c1 d1 y1 R wJ;have b1:(m:Int)<n:=I
 have b2:(k:Int)<n:=I
 have b3:(n:Int)<9223372036854775807:=I
 have b4:(n:Int)<(n:Int)+1:=I
 have b5:(m:Int)<(n:Int)+1:=I
 have b6:(k:Int)<(n:Int)+1:=I
 have e1:XQ.wrap ((n:Int)-1)=k:=by rw[BP _ I];omega
 have e2:XQ.wrap ((n:Int)-2)=m:=by rw[BP _ I];omega
 obtain⟨q0,p⟩:∃q,q=top/dg v k:=⟨_,rfl⟩
 obtain⟨r0,s⟩:∃r,r=top%dg v k:=⟨_,rfl⟩
 have hr0b:r0<dg v k:=by rw[s];exact AW _ I
 have hq0b:q0<=4294967297:=by rw[p,y];exact(K7 F).2.2.2.2.2.2.2.2.1
 have f1:XP.wrap (dg u n:Int)=(dg u n:Int):=by rw[M4,t];omega
 have f2:XP.wrap ((dg u n:Int)*4294967296)=(dg u n:Int)*4294967296:=by rw[M4,t];omega
 have f3:XP.wrap (dg u k:Int)=(dg u k:Int):=by rw[M4,y];omega
 have f4:(top:Int).tdiv (dg v k:Int)=(q0:Int):=by rw[BA I,p,BH]
 have f5:XP.wrap (q0:Int)=(q0:Int):=by rw[M4];omega
 have f6:(top:Int).tmod (dg v k:Int)=(r0:Int):=by rw[BB I,s,Int.natCast_emod]
 have f7:XP.wrap (dg v k:Int)=(dg v k:Int):=by rw[M4];omega
 have F2:=Lk (And.intro t (And.intro y (And.intro p s)));clear t y p s;clear B Q hn;go_enter func308,ntmps308;go_wp2_with fail;go_quiet (fail);go_wp2_with fail;go_quiet (fail);go_wp2_with fail;clear f1 f2 f3 f4 f5 f6 R;have H:Hid (∀q r:Nat,q*dg v k+r=top->(4294967296<=q\/r*4294967296+dg u m<q*dg v m)->val u<q*val v):=by
  intro q r E h2;obtain⟨_,y,_,_⟩:=K7 F2;obtain⟨D,G,j,g,o,A,N,Z,W,c⟩:=K7 F;rw[y]at E;exact WB D G j o E h2
 have wI:Hid (∀q r:Nat,q*dg v k+r=top->val u<(q+1)*val v->q<4294967296->q*dg v m<=r*4294967296+dg u m->X6 (val u) (val v) q):=by
  intro q r E h2 h3 h4;obtain⟨_,y,_,_⟩:=K7 F2;obtain⟨D,G,j,g,o,A,N,Z,W,c⟩:=K7 F;rw[y]at E wJ;exact⟨h3,h2,VQ D G g I E h3 h4⟩
 have J:Hid (∀q r:Nat,q*dg v k+r=top->val u<(q+1)*val v->4294967296<=r->X6 (val u) (val v) q):=by
  intro q r E h2 h3;have h4:q<4294967296:=by
   obtain⟨_,y,_,_⟩:=K7 F2;obtain⟨D,G,j,g,o,A,N,Z,W,c⟩:=K7 F;rw[y]at E;rcases AY q 4294967296 with h|h
   .exact h
   .have:4294967296*dg v (m+1)<=q*dg v (m+1):=AB _ h;omega
  refine(K7 wI) q r E h2 h4 ?_;have:=C6 h4 y2;omega
 go_loopw [7,8] (λsq sr wr=>∃q r:Nat,sq= .int .u64 q/\sr= .int .u64 r/\q<=4294967297/\r<4294967296/\Hid (q*dg v k+r=top/\val u<(q+1)*val v)/\Qd w wr) (λsq _ _=>(intOf sq).toNat)
 case atStart=>
  obtain⟨_,y,p,s⟩:=K7 F2;obtain⟨D,G,j,g,o,A,N,Z,W,c⟩:=K7 F;exact⟨q0,r0,rfl,rfl,hq0b,by omega,(by rw[p,s,y];exact⟨N,A⟩),(Qd.of _ _).drewN _⟩
 case round=>
  obtain⟨q,r,rfl,rfl,hq,hr,hI,⟨z,rfl⟩⟩:=hrel
  by_cases hbig:4294967296<=q
  .have b:=(K7 H) q r (K7 hI).1 (Or.inl hbig);have M:1<=q:=I
   have f:Hid ((q-1)*dg v k+(r+dg v k)=top/\val u<(q-1+1)*val v):=FF M (K7 hI).1 b;have Hdown:=Lk b;clear b;have g0:((q:Int)/4294967296 !=0)=true:=by rw[bne_iff_ne];omega
   by_cases L:r+dg v k<4294967296
   .have A:(((r:Int)+(dg v k:Int))/4294967296 !=0)=false:=by simp;omega
    go_wp2_with fail;go_quiet (fail);go_wp2_with fail;go_roundw
    case rel=>exact⟨q-1,r+dg v k,congrArg (AK .u64) I,congrArg (AK .u64) I,by omega,L,f,Qd.of _ _⟩
    case measure=>simp[intOf];omega
   .have A:(((r:Int)+(dg v k:Int))/4294967296 !=0)=true:=by rw[bne_iff_ne];omega
    go_wp2_with fail;go_quiet (fail);go_wp2_with fail;go_ret;exact⟨q-1,congrArg (λx=>Ending.returned (AK .u64 x)) I,(K7 J) _ _ (K7 f).1 (K7 f).2 I,Qd.of _ _⟩
  .have g0:((q:Int)/4294967296 !=0)=false:=by simp;omega
   obtain⟨X,hX⟩:∃X,X=q*dg v m:=⟨_,rfl⟩
   obtain⟨Y,U⟩:∃Y,Y=r*4294967296+dg u m:=⟨_,rfl⟩
   have hXb:=C6 (show q<4294967296 by omega) y2;have E:XP.wrap ((q:Int)*(dg v m:Int))=(X:Int):=by
    rw[hX,AP,M4,<-AP];omega
   have h2:XP.wrap ((r:Int)*4294967296)=(r:Int)*4294967296:=by rw[M4];omega
   have h3:bits .or .u64 ((r:Int)*4294967296) (dg u m:Int)=(Y:Int):=by rw[U];exact G1 hr x2
   have h4:XP.wrap (dg v m:Int)=(dg v m:Int):=by rw[M4];omega
   have h5:XP.wrap (dg u m:Int)=(dg u m:Int):=by rw[M4];omega
   have HX:=Lk (And.intro hX U)
   by_cases hcmp:Y<X
   .have b:=(K7 H) q r (K7 hI).1 (Or.inr (by rw[<-hX,<-U];exact hcmp));have M:1<=q:=by
     rcases AF q with e|e
     .subst e;omega
     .exact e
    clear hX U hXb;have f:Hid ((q-1)*dg v k+(r+dg v k)=top/\val u<(q-1+1)*val v):=FF M (K7 hI).1 b;have Hdown:=Lk b;clear b
    by_cases L:r+dg v k<4294967296
    .have A:(((r:Int)+(dg v k:Int))/4294967296 !=0)=false:=by simp;omega
     go_wp2_with fail;go_quiet (fail);go_wp2_with fail;go_roundw
     case rel=>exact⟨q-1,r+dg v k,congrArg (AK .u64) I,congrArg (AK .u64) I,by omega,L,f,Qd.of _ _⟩
     case measure=>simp[intOf];omega
    .have A:(((r:Int)+(dg v k:Int))/4294967296 !=0)=true:=by rw[bne_iff_ne];omega
     go_wp2_with fail;go_quiet (fail);go_wp2_with fail;go_ret;exact⟨q-1,congrArg (λx=>Ending.returned (AK .u64 x)) I,(K7 J) _ _ (K7 f).1 (K7 f).2 I,Qd.of _ _⟩
   .have hfin:Hid (X6 (val u) (val v) q):=(K7 wI) q r (K7 hI).1 (K7 hI).2 I (by rw[<-hX,<-U];omega);clear hX U hXb;go_wp2_with fail;go_quiet (fail);go_wp2_with fail;go_ret;exact⟨q,rfl,K7 hfin,(Qd.of _ _).drewN _⟩
end Go.Proofs.YtoakjcolbjifnaaGreatDoor
