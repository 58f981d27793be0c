/-
 Nodes and scenes: the reference's checks.
-/
import Derived.Test.YtnmokookhcgklaaGreatDoorZK
import Derived.Test.YtnmokookhcgklaaGreatDoorFA
import Derived.Test.YtnmokookhcgklaaGreatDoorYA
open Array renaming getElem?_setIfInBounds_self_of_lt->BL,getElem?_setIfInBounds_ne->BR
open Bool renaming and_eq_true->AD,true_and->AG,not_false->AR,not_eq_true'->AW,or_eq_false_iff->BA,eq_iff_iff->BC,false_and->BF,or_eq_true->BM,eq_false_iff->BY,and_false->CP,false_or->CQ
open Function renaming comp_def->CS
open Go renaming goPanic->BE
open Go.IntWalk renaming i64_in->AU
open Go.Result renaming andThen_ok->BJ
open Go.Sem renaming run_bind->BT,run_pure->BU
open Go.Value renaming int->BH,slice->CK
open List renaming getElem?_eq_getElem->AA,mem_of_getElem?->AE,length_append->AH,length_cons->AI,map_append->AL,getElem?_eq_some_iff->AP,mem_append->AX,take_of_length_le->AZ,length_nil->BB,mem_cons->BG,getElem?_map->BI,take_length->BK,length_map->BN,length_eq_zero_iff->BO,drop_eq_nil_of_le->BP,length_take->BQ,getElem?_take->BW,length_drop->CA,getElem?_cons_zero->CB,getElem?_cons_succ->CC,drop_of_length_le->CE,mem_cons_of_mem->CG,map_cons->CH,mem_map->CI,take_add_one->CJ,any_eq_true->CL,all_eq_true->CM,nil_append->CO,map_map->CR
open Nat renaming zero_le->AJ,le_refl->AK,le_trans->AQ,lt_or_ge->BD,add_zero->BS,lt_of_lt_of_le->BV,zero_add->BZ,mul_one->CD,not_lt_zero->CN
open Option renaming bind_some->AB,bind_eq_some_iff->AC,map_eq_some_iff->AM,map_some->AY,map_map->CF
open Option.some renaming injEq->BX
open UInt8 renaming ofNat->AN
open Go renaming World->YN,Value->YM,Program->YK,Operand->YJ,Deferred->YI,TypeId->YH,Calls->YG,PanicEntry->YF,FuncId->YE,Oper->YD,Ending->YC,Addr->YB
open Go.IntKind renaming i64->YA,u64->XZ,u32->XY,u8->XX
namespace Go.Proofs.YtnmokookhcgklaaGreatDoor
set_option maxRecDepth 100000
set_option maxHeartbeats 8000000
set_option linter.unusedVariables false
set_option linter.unusedSimpArgs false
open Go.RowKit Go.Proofs.Tryz
open Go.Proofs.Tryz renaming prog->XW
structure Fo where
 w:Int
 j:Int
 c:Int
 m:Int
 d:List Int
 p:Int
structure Nd where
 id:Int
 kind:Int
 dep:Int
 T:Xm
 clip:List Sg
 crule:Int
 op:UInt8
 bl:Int
 iso:Bool
 ko:Bool
 path:List Sg
 frule:Int
 fill:List Pn
 sty:Fo
 stroke:List Pn
 im:Im
 samp:Int
structure ND where
 t:TV
 clA:YY
 clc:Nat
 paA:YY
 pac:Nat
 fiA:YY
 fic:Nat
 fl:List (Pn×PM)
 daA:YY
 dac:Nat
 stA:YY
 stc:Nat
 sl:List (Pn×PM)
 pxA:YY
 pxc:Nat
def Yb(N:Nd)(q:ND):List YM:=[I N.id,I N.kind,I N.dep]++(q.t.cl++ [.slice q.clA N.clip.length q.clc,I N.crule,.int .u8 (N.op.toNat:Int),I N.bl,.bool N.iso,.bool N.ko,.slice q.paA N.path.length q.pac,I N.frule,.slice q.fiA N.fill.length q.fic,I N.sty.w,I N.sty.j,I N.sty.c,I N.sty.m,.slice q.daA N.sty.d.length q.dac,I N.sty.p,.slice q.stA N.stroke.length q.stc,I N.im.w,I N.im.h,.slice q.pxA N.im.px.length q.pxc,I N.samp])
abbrev Ya(N:Nd)(q:ND):YM:= .agg (Yb N q).toArray
abbrev MO(S:Fo)(y:YZ):YM:= .agg #[I S.w,I S.j,I S.c,I S.m,.slice y.1 S.d.length y.2,I S.p]
def dD(x:Pn×PM):List YM:=Uo x.1 x.2
def Tl(z:Int):List YM:=[I z]
structure Cy(w:YN)(A:YY)(l:List (Pn×PM))(K:Nat)(Ps:List Pn):Prop where
 eq:l.map (·.1)=Ps
 row:O3 w A Ps.length 40 dD l
 rd:∀x∈l,Hs x.1 x.2 K w
structure NM(N:Nd)(q:ND)(K:Nat)(w:YN):Prop where
 tr:Fv q.t N.T K w
 cl:Qn w q.clA N.clip.length N.clip
 pa:Qn w q.paA N.path.length N.path
 fi:Cy w q.fiA q.fl K N.fill
 da:O3 w q.daA N.sty.d.length 1 Tl N.sty.d
 st:Cy w q.stA q.sl K N.stroke
 px:O3 w q.pxA N.im.px.length 4 P7 N.im.px
structure LQ(N:Nd):Prop where
 cl:N.clip.length<=1000000
 pa:N.path.length<=1000000
 da:N.sty.d.length<=1000000
 px:N.im.px.length<=20000
 fi:∀P∈N.fill,P.im.px.length<=20000/\P.stops.length<=1000000
 st:∀P∈N.stroke,P.im.px.length<=20000/\P.stops.length<=1000000
 fn:N.fill.length<=1000000
 sn:N.stroke.length<=1000000
section
variable{w w1:YN}{A:YY}{l:List (Pn×PM)}{K:Nat}{Ps:List Pn}{N:Nd}{q:ND}
theorem Cy.below(h:Cy w A l K Ps)(a:Below w.heap.size w w1):Cy w1 A l K Ps:=⟨h.eq,h.row.below a,λx b=>(h.rd x b).below a⟩
theorem NM.below(h:NM N q K w)(a:Below w.heap.size w w1):NM N q K w1:=⟨h.tr.below a,h.cl.below a,h.pa.below a,h.fi.below a,h.da.below a,h.st.below a,h.px.below a⟩
theorem Cy.get{k:Nat}{P:Pn}(h:Cy w A l K Ps)(a:Ps[k]? =some P):∃q:PM,l[k]? =some (P,q)/\Hs P q K w:=by
 rw[<-h.eq,BI]at a;obtain⟨x,b,rfl⟩:=AM.1 a;exact⟨x.2,b,h.rd x (AE b)⟩
end
def Un(n:Int):Bool:=(n==1)||(n==2)
def Ga(z:Int):Bool:=decide (z<0)||decide (z>1048576)
def Sm(n:Nat)(l:List Int):Bool:=((n:Int)==0)||l.any λz=>decide (z>0)
def T4(l:List Int):Bool:=(!l.any Ga)&&((Sm l.length l&&(Int.tmod (l.length:Int) 2==0))&&decide ((l.length:Int)<=16))
def Cm(n:Int):Bool:=decide (n>=1)&&decide (n<=16384)
def R8(S:Fo):Bool:=((((((Cm S.w&&(((S.j==1)||(S.j==2))||(S.j==3)))&&(((S.c==3)||(S.c==4))||(S.c==5)))&&decide (S.m>=256))&&decide (S.m<=65536))&&T4 S.d)&&decide (S.p>=0))&&decide (S.p<=1048576)
def Qj(S:Fo):Bool:=(((((S.w==0)&&(S.j==0))&&(S.c==0))&&(S.m==0))&&(S.p==0))&&decide (S.d.length=0)
def EY(N:Nd):Bool:=((((N.op.toNat:Int)==0)&&(N.bl==0))&& !N.iso)&& !N.ko
def Zy(N:Nd):Bool:=((((N.path.length:Int)==0)&&(N.frule==0))&&((N.fill.length:Int)==0))&&((N.stroke.length:Int)==0)
def By(N:Nd):Bool:=decide (N.im.w=0/\N.im.h=0/\N.im.px=[])&&(N.samp==0)
def Z4(N:Nd):Bool:=if N.kind=1 then(Zy N&&Qj N.sty)&&By N else if N.kind=2 then EY N&&By N else EY N&&(Zy N&&Qj N.sty)
def Ry(N:Nd):Bool:=if N.clip.length=0 then(N.crule==0)else Un N.crule
def FV(N:Nd):Bool:=decide ((N.fill.length:Int)>1)||decide ((N.stroke.length:Int)>1)
def ex(N:Nd):Bool:=if N.stroke.length=0 then Qj N.sty else R8 N.sty
def Z8(N:Nd):Bool:=Ru N.path&&(Un N.frule&&(!FV N&&(ex N&&(N.fill.all Ld&&N.stroke.all Ld))))
def Up(n:Int):Bool:=decide (n>=1)&&decide (n<=13)
def R_(N:Nd):Bool:=if N.kind=1 then Up N.bl else if N.kind=2 then Z8 N else Ay N.im&& !((N.samp !=1)&&(N.samp !=2))
def FQ(N:Nd):Bool:=decide (N.kind<1)||decide (N.kind>3)
def SA(N:Nd):Bool:=((decide (N.id<1)||decide (N.id>1073741824))||decide (N.dep<0))||decide (N.dep>=8)
def GB(N:Nd):Bool:= !FQ N&&(!SA N&&(N.T.ok&&(decide (N.T.det≠0)&&(Ru N.clip&&(Ry N&&Z4 N)))))
def Mb(N:Nd):Bool:=GB N&&R_ N
structure Sc where
 w:Int
 h:Int
 bg:Co
 nds:List Nd
def XR(pre:List Nd):Int:=match pre.getLast? with
 |none=>0
 |some y=>y.dep+(if y.kind=1 then 1 else 0)
def Cs(pre:List Nd):List Nd->Bool
 | []=>true
 |x::r=>Mb x&&(!decide (x.id∈pre.map (·.id))&&(!decide (x.dep>XR pre)&&Cs (pre++ [x]) r))
def FI(S:Sc):Bool:=((decide (S.w<1)||decide (S.w>256))||decide (S.h<1))||decide (S.h>256)
def A8(S:Sc):Bool:= !FI S&&(!decide ((S.nds.length:Int)>64)&&Cs [] S.nds)
structure Vs(w:YN)(A:YY)(l:List (Nd×ND))(K:Nat)(Ns:List Nd):Prop where
 eq:l.map (·.1)=Ns
 row:O3 w A Ns.length 47 (λx=>Yb x.1 x.2) l
 rd:∀x∈l,NM x.1 x.2 K w
section
variable{w w1:YN}{A:YY}{l:List (Nd×ND)}{K:Nat}{Ns:List Nd}
theorem Vs.below(h:Vs w A l K Ns)(a:Below w.heap.size w w1):Vs w1 A l K Ns:=⟨h.eq,h.row.below a,λx b=>(h.rd x b).below a⟩
theorem Vs.get{k:Nat}{N:Nd}(h:Vs w A l K Ns)(b:Ns[k]? =some N):∃q:ND,l[k]? =some (N,q)/\NM N q K w:=by
 rw[<-h.eq,BI]at b;obtain⟨x,a,rfl⟩:=AM.1 b;exact⟨x.2,a,h.rd x (AE a)⟩
end
section
variable{w:YN}{A:YY}{n c g:Nat}{x:Int}{B:Bool}{N:Nd}{q:ND}{K:Nat}{S:Fo}{y:YZ}{l:List Int}
def wh(b:Bool)(z:Int):YM:=if b then .iface 218 (.agg #[I z,.nilIface])else .nilIface
def rx(z:Int):YM:= .iface 218 (.agg #[I 0,wh true z])
def EE:List (Bool×Int)->YM
 | []=> .nilIface
 |v::r=>if v.1 then rx v.2 else EE r
theorem T7{b:Bool}{z:Int}:Zv 229 #[.bool b,I z] w (wh b z):=by
 cases b
 .exact sL func229 rfl<|M<|ZI true<|ZW (wh false z)
 .exact sL func229 rfl<|M<|ZI false<|ZW (wh true z)
theorem ng{vs:List (Bool×Int)}{k:Nat}{z:Int}(a:vs[k]? =some (true,z))(h:(vs.take k).all (λv=> !v.1)=true):EE vs=rx z:=by
 induction vs generalizing k with
 |nil=>simp at a
 | cons v r b=>
  cases k with
  |zero=>simp only[CB,BX]at a;subst a;rfl
  |succ k=>
   simp only[List.take_succ_cons,List.all_cons,AD]at h;simp only[CC]at a;have e:v.1=false:=by simpa using h.1
   unfold EE;rw[e];exact b a h.2
theorem h8{vs:List (Bool×Int)}(h:vs.all (λv=> !v.1)=true):EE vs= .nilIface:=by
 induction vs with
 |nil=>rfl
 |cons v r a=>
  simp only[List.all_cons,AD]at h;have b:v.1=false:=by simpa using h.1
  unfold EE;rw[b];exact a h.2
theorem SI{vs:List (Bool×Int)}(s:Kr 118 (vs.map λv=>wh v.1 v.2).toArray g w)(D:vs.length=n)(t:n<=1000):Zv 228 #[Kd n g] w (EE vs):=by
 have r:K7 w g (vs.map λv=>wh v.1 v.2):=⟨_,s⟩
 refine sL func228 rfl<|M<|sU (ι:={k:Nat // k<=n/\(vs.take k).all (λv=> !v.1)=true}) 17 (λk=>⟨[(0,.v (Kd n g)),(5,.v (Kd n g)),(6,.v (I n)),(7,.v (I k.1))],[]⟩) (λk u=>True) (λk=>n-k.1) (⟨0,AJ _,rfl⟩) O (λ_=>O) zt (λu h=>trivial) ?_
 rintro⟨k,o,a⟩ C;have o:k<=n:=o;have a:(vs.take k).all (λv=> !v.1)=true:=a
 by_cases f:k<n
 case neg=>
  obtain rfl:k=n:=J
  rw[AZ J]at a;exact M<|X (decide ((k:Int)<(k:Int))) false Zs<|sN O<|M<|ZX (.nilIface) (by rw[h8 a])
 obtain⟨⟨b,z⟩,m⟩:∃v,vs[k]? =some v:=⟨_,AA J⟩
 have e:(vs.map λv=>wh v.1 v.2)[k]? =some (wh b z):=by rw[BI,m];rfl
 refine M<|X (decide ((k:Int)<(n:Int))) true Zp<|ZA (Ki 310 (Kd n g) k) (.pointer (some ((⟨g,0,none⟩:YB).add k))) (λp j h=>Kg (elem:=118) O O f) ?_
 cases b
 .refine ZA (L4 118 ((⟨g,0,none⟩:YB).add k)) (wh false z) (λp j h=>K9 O (by rw[Addr.add_mid,BZ];simpa using(r.below j).range k _ e))<|ZI false<|sS 7 f J O<|sR (⟨k+1,by show k+1<=n;omega,by rw[En m a];rfl⟩) O zo zt (λu h=>trivial)
 .exact ZA (L4 118 ((⟨g,0,none⟩:YB).add k)) (wh true z) (λp j h=>K9 O (by rw[Addr.add_mid,BZ];simpa using(r.below j).range k _ e))<|ZI true<|sN O<|M<|ZX (rx z) (by rw[ng m a])
theorem iY:Zv 227 #[I x] w (.bool (Un x)):=sL func227 rfl<|H 3<|sT O 1000 4 5 [6,7,8] 2 true (x==2) ((x==1)||(x==2)) O O O (λ_=>O) Ov λa=>M<|ZW (.bool (Un x))
theorem oT:Zv 325 #[I x] w (.bool (Cm x)):=sL func325 rfl<|H 3<|sT O 1000 4 5 [6,7,8] 2 (decide (x<=16384)) false ((decide (x>=1))&&(decide (x<=16384))) O O O (λ_=>O) M3 λa=>M<|ZW (.bool (Cm x))
theorem iP:Zv 175 #[I x] w (.bool (Up x)):=sL func175 rfl<|H 3<|sT O 1000 4 5 [6,7,8] 2 (decide (x<=13)) false ((decide (x>=1))&&(decide (x<=13))) O O O (λ_=>O) M3 λa=>M<|ZW (.bool (Up x))
theorem i5(b:decide (n=0)=B):Zv 324 #[.slice A n c,.slice none 0 0] w (.bool B):=by
 by_cases a:n=0
 .subst a;exact sL func324 rfl<|M<|ZI false<|tx O<|M<|ZI false<|ZX (.bool true) (by rw[<-b];rfl)
 .exact sL func324 rfl<|M<|X (((n:Int) !=0)) true (by simpa using a)<|ZX Zf (by rw[<-b,YV a])
theorem OI:Zv 281 #[MO S y,.agg #[I 0,I 0,I 0,I 0,.slice none 0 0,I 0]] w (.bool (Qj S)):=sL func281 rfl<|H 6<|sT O 1000 7 10 [11,12,13,14,15,16] 17 (S.j==0) false ((S.w==0)&&(S.j==0)) O O O (λ_=>O) M3 λe=>sT O 1000 7 17 [18,19,20,21,22,23] 24 (S.c==0) false (((S.w==0)&&(S.j==0))&&(S.c==0)) O O O (λ_=>O) M3 λo=>sT O 1000 7 24 [25,26,27,28,29,30] 31 (S.m==0) false ((((S.w==0)&&(S.j==0))&&(S.c==0))&&(S.m==0)) O O O (λ_=>O) M3 λf=>sT O 1000 7 31 [32,33,34,35,36,37] 38 (S.p==0) false (((((S.w==0)&&(S.j==0))&&(S.c==0))&&(S.m==0))&&(S.p==0)) O O O (λ_=>O) M3 λk=>tj O true 1000 1000 1000 38 [39,40,41,42,43,44] 4 false (decide (S.d.length=0)) (decide (S.d.length=0)) ((((((S.w==0)&&(S.j==0))&&(S.c==0))&&(S.m==0))&&(S.p==0))&&(decide (S.d.length=0))) O (λs r h=>i5 (A:=y.1) (c:=y.2) rfl) O O O (λ_=>O) Q4 λb Φxj8 a=>M<|ZW (.bool (Qj S))
end
section
variable{w:YN}{A:YY}{n c g:Nat}{x:Int}{B:Bool}{N:Nd}{q:ND}{K:Nat}{S:Fo}{y:YZ}{l:List Int}{Ps:List Pn}{ql:List (Pn×PM)}
theorem Y5{α:Type}{p:α->Bool}{l:List α}{k:Nat}{x:α}(a:l[k]? =some x):(l.take (k+1)).any p=((l.take k).any p||p x):=by
 rw[CJ,a];simp
theorem SE{α:Type}{p:α->Bool}{l:List α}{k:Nat}{x:α}(a:l[k]? =some x)(h:p x=true):l.any p=true:=
 CL.2 ⟨x,AE a,h⟩
theorem jK(p:O3 w A n 1 Tl l)(G:n<=1000000000):Zv 326 #[.slice A n c] w (.bool (T4 l)):=by
 have j:=p.1;refine sL func326 rfl<|M<|sM 3 (.bool ((n:Int)==0)) (.bool (Sm n (l.take 0))) O (by simp[Sm])<|sU (ι:={k:Nat // k<=n/\(l.take k).any Ga=false}) 39 (λk=>⟨[(0,.v (.slice A n c)),(3,.v (.bool (Sm n (l.take k.1)))),(9,.v (.slice A n c)),(10,.v (I n)),(11,.v (I k.1))],[]⟩) (λk u=>True) (λk=>n-k.1) (⟨0,AJ _,rfl⟩) O (λ_=>O) zt (λu h=>trivial) ?_
 rintro⟨k,m,a⟩ uS;have m:k<=n:=m;have a:(l.take k).any Ga=false:=a
 by_cases b:k<n
 case neg=>
  obtain rfl:k=n:=J
  exact M<|X (decide ((k:Int)<(k:Int))) false Zs<|sN O<|H 2<|sT O 1000 6 28 [29,30,31,32,33] 34 (Int.tmod (k:Int) 2==0) false ((Sm k (l.take k))&&(Int.tmod (k:Int) 2==0)) O O O (λ_=>O) M3 λr=>sT O 1000 5 34 [35,36,37,38] 2 (decide ((k:Int)<=16)) false ((Sm k (l.take k)&&(Int.tmod (k:Int) 2==0))&&(decide ((k:Int)<=16))) O O O (λ_=>O) M3 λt=>M<|ZX (.bool ((Sm k (l.take k)&&(Int.tmod (k:Int) 2==0))&&decide ((k:Int)<=16))) (by unfold T4;rw[AZ J]at a ⊢;rw[a,j];rfl)
 obtain⟨z,f⟩:∃v,l[k]? =some v:=⟨_,AA J⟩
 obtain⟨ad,F,s⟩:=p.2 k z f;refine M<|X (decide ((k:Int)<(n:Int))) true Zp<|ZA (Ki 65 (.slice A n c) k) (.pointer (some (ad.add k))) (λC o h=>by rw[F];exact Kg (elem:=3) O O b)<|sV (L4 3 (ad.add k)) (I z) O (λC o h=>K9 O (by have:=La o (s 0 (I z) rfl);rw[Y7,CD,BS]at this;exact this))<|H 3<|sT O 1000 3 17 [18,19] 20 true (decide (z>1048576)) ((decide (z<0))||(decide (z>1048576))) O O O (λ_=>O) Ov (λvg=> ?_)
 cases e:Ga z
 .refine sM 20 (.bool (decide (z<0)||decide (z>1048576))) (.bool false) O (by rw[<-e];rfl)<|H 2<|sW false O<|H 2<|sT O 1000 4 22 [23,24,25] 3 true (decide (z>0)) ((Sm n (l.take k))||(decide (z>0))) O O O (λ_=>O) Ov λD=>M<|sS 11 b J O<|sM 3 (.bool (Sm n (l.take k)||decide (z>0))) (.bool (Sm n (l.take (k+1)))) O (by unfold Sm;rw[Y5 f,Bool.or_assoc])<|sR (⟨k+1,by show k+1<=n;omega,by rw[Y5 f,a,e];rfl⟩) O zo zt (λu h=>trivial)
 .exact ZT 20 (.bool (decide (z<0)||decide (z>1048576))) (.bool true) (by rw[<-e];rfl)<|ZI true<|sN O<|M<|ZX (.bool false) (by unfold T4;rw[SE f e];rfl)
theorem lZ(D:O3 w y.1 S.d.length 1 Tl S.d)(v:S.d.length<=1000000000):Zv 282 #[MO S y] w (.bool (R8 S)):=sL func282 rfl<|H 4<|sT O 1000 5 8 [9,10,11,12] 13 true (S.j==2) ((S.j==1)||(S.j==2)) O O O (λ_=>O) Ov λvg=>sT O 1000 5 13 [14,15,16,17] 3 true (S.j==3) (((S.j==1)||(S.j==2))||(S.j==3)) O O O (λ_=>O) Ov λF=>H 4<|sT O 1000 5 21 [22,23,24,25] 26 true (S.c==4) ((S.c==3)||(S.c==4)) O O O (λ_=>O) Ov λG=>sT O 1000 5 26 [27,28,29,30] 4 true (S.c==5) (((S.c==3)||(S.c==4))||(S.c==5)) O O O (λ_=>O) Ov λt=>M<|ZD 4 (λC o h=>oT (x:=S.w)) λu=>sT O 1000 3 34 [35,36] 37 (((S.j==1)||(S.j==2))||(S.j==3)) false ((Cm S.w)&&(((S.j==1)||(S.j==2))||(S.j==3))) O O O (λ_=>O) M3 λuS=>sT O 1000 3 37 [38,39] 40 (((S.c==3)||(S.c==4))||(S.c==5)) false ((Cm S.w&&(((S.j==1)||(S.j==2))||(S.j==3)))&&(((S.c==3)||(S.c==4))||(S.c==5))) O O O (λ_=>O) M3 λe=>sT O 1000 5 40 [41,42,43,44] 45 (decide (S.m>=256)) false (((Cm S.w&&(((S.j==1)||(S.j==2))||(S.j==3)))&&(((S.c==3)||(S.c==4))||(S.c==5)))&&(decide (S.m>=256))) O O O (λ_=>O) M3 λb=>sT O 1000 5 45 [46,47,48,49] 50 (decide (S.m<=65536)) false ((((Cm S.w&&(((S.j==1)||(S.j==2))||(S.j==3)))&&(((S.c==3)||(S.c==4))||(S.c==5)))&&decide (S.m>=256))&&(decide (S.m<=65536))) O O O (λ_=>O) M3 λk=>tj O true 1000 5 2 50 [51,52,53,54] 55 false (T4 S.d) (T4 S.d) (((((Cm S.w&&(((S.j==1)||(S.j==2))||(S.j==3)))&&(((S.c==3)||(S.c==4))||(S.c==5)))&&decide (S.m>=256))&&decide (S.m<=65536))&&(T4 S.d)) O (λC o h=>jK (c:=y.2) (D.below o) v) O O O (λ_=>O) Q4 λf Φxj13 a=>sT O 1000 5 55 [56,57,58,59] 60 (decide (S.p>=0)) false ((((((Cm S.w&&(((S.j==1)||(S.j==2))||(S.j==3)))&&(((S.c==3)||(S.c==4))||(S.c==5)))&&decide (S.m>=256))&&decide (S.m<=65536))&&T4 S.d)&&(decide (S.p>=0))) O O O (λ_=>O) M3 λs=>sT O 1000 5 60 [61,62,63,64] 2 (decide (S.p<=1048576)) false (((((((Cm S.w&&(((S.j==1)||(S.j==2))||(S.j==3)))&&(((S.c==3)||(S.c==4))||(S.c==5)))&&decide (S.m>=256))&&decide (S.m<=65536))&&T4 S.d)&&decide (S.p>=0))&&(decide (S.p<=1048576))) O O O (λ_=>O) M3 λr=>M<|ZW (.bool (R8 S))
end
section
variable{w:YN}{A:YY}{n c g:Nat}{x:Int}{B:Bool}{N:Nd}{q:ND}{K:Nat}{S:Fo}{y:YZ}{l:List Int}{Ps:List Pn}{ql:List (Pn×PM)}{T:Xm}{t:TV}
def rG(P:Pn):Prop:=P.im.px.length<=20000/\P.stops.length<=1000000
theorem gK{P:Pn}{p:PM}(a:Ld P=B)(e:Hs P p K w)(f:P.im.px.length<=1000000000)(j:2<=K/\K<=10000000):Zv 328 #[.agg (dD (P,p)).toArray] w (.bool (!B)):=sL func328 rfl<|M<|Z (λk b h=>IL a (e.below b) f j) λu=>ZW (.bool (!B))
theorem Vm{k:Nat}{ad:YB}(b:A=some ad)(a:k<n):(Ki 64 (.slice A n c) k).run XW w= .ok (.value (.pointer (some (ad.add (k*40))))) w:=by
 rw[b];exact Qa (elem:=49) O O a
theorem Yn{P:Pn}{p:PM}{ad:YB}(h:∀(j:Nat) (v:YM),(dD (P,p))[j]? =some v->w.cell? (ad.add j)=some v):(L4 49 ad).run XW w= .ok (.value (.agg (dD (P,p)).toArray)) w:=
 Rn O O h
theorem io(G:Ps.all Ld=B)(vg:Cy w A ql K Ps)(Q:Ps.length=n)(vf:n<=1000000000)(uZ:∀P∈Ps,rG P)(uS:2<=K/\K<=10000000):YG XW 353 #[.slice A n c,.func (.func 328) #[] #[]] w (K6 w (λr:{r:Int // decide (r>=0)= !B}=>I r.1) λ_ _=>True):=by
 refine sL func353 rfl<|M<|sU (ι:={q:Nat // q<=n/\(Ps.take q).all Ld=true}) 19 (λq=>⟨[(0,.v (.slice A n c)),(1,.v (.func (.func 328) #[] #[])),(7,.v (I n)),(8,.v (I q.1))],[]⟩) (λq u=>True) (λq=>n-q.1) (⟨0,AJ _,rfl⟩) O (λ_=>O) zt (λu h=>trivial) ?_
 rintro⟨k,F,a⟩ uY;have F:k<=n:=F;have a:(Ps.take k).all Ld=true:=a
 by_cases m:k<n
 case neg=>
  obtain rfl:k=n:=J
  rw[AZ J]at a;refine M<|X (decide ((k:Int)<(k:Int))) false Zs<|sN O<|M<|ZV (I (-1)) (λf b h=>⟨⟨-1,by rw[<-G,a];rfl⟩,rfl,b,λ_ _ _=>trivial⟩)
 obtain⟨P,s⟩:∃x,Ps[k]? =some x:=⟨_,AA J⟩
 obtain⟨p,C,e⟩:=vg.get s;obtain⟨ad,uR,L⟩:=vg.row.2 k _ C;have D:=uZ P (AE s);refine M<|X (decide ((k:Int)<(n:Int))) true Zp<|ZA (Ki 64 (.slice A n c) k) (.pointer (some (ad.add (k*40)))) (λf b h=>Vm uR m)<|ZA (L4 49 (ad.add (k*40))) (.agg (dD (P,p)).toArray) (λf b h=>Yn λj v ve=>La b (L j v ve)) ?_
 cases o:Ld P
 .refine Z (λf b h=>gK o (e.below b) (by have:=D.1;omega) uS) λu=>ZI true<|sN O<|M<|ZV (I (k:Int)) (λf b h=>⟨⟨k,by rw[<-G,GU s o];simp⟩,rfl,b,λ_ _ _=>trivial⟩)
 .refine Z (λf b h=>gK o (e.below b) (by have:=D.1;omega) uS) λu=>ZI false<|sS 8 m J O<|sR (⟨k+1,by show k+1<=n;omega,by rw[En s a,o]⟩) O zo zt (λu h=>trivial)
theorem UZ(b:Ps.all Ld=B)(f:Cy w A ql K Ps)(j:Ps.length=n)(a:n<=1000000000)(k:∀P∈Ps,rG P)(m:2<=K/\K<=10000000):Zv 327 #[.slice A n c,.func (.func 328) #[] #[]] w (.bool (!B)):=sL func327 rfl<|M<|Z (λo e h=>io (c:=c) b (f.below e) j a k m) λu=>ZX (.bool (decide (u.1>=0))) (by rw[u.2])
theorem kG(b:Ps.all Ld=B)(f:Cy w A ql K Ps)(j:Ps.length=n)(a:n<=1000000000)(k:∀P∈Ps,rG P)(m:2<=K/\K<=10000000):Zv 283 #[.slice A n c] w (.bool B):=sL func283 rfl<|M<|Z (λo e h=>UZ (c:=c) b (f.below e) j a k m) λu=>ZX (.bool (!!B)) (by rw[Bool.not_not])
theorem RY{r:Rat}:(Ub r ((0:Int):Rat)==0)=decide (r=0):=by
 have:=Z1 (r:=r)
 by_cases h:r=0
 .rw[YU h];rw[YV (by simpa using h)]at this;simpa using this
 .rw[YV h];rw[YU h]at this;simpa using this
theorem oA(e:Fv t T K w)(f:2<=K/\K<=10000000):Zv 230 #[t.val] w (.bool (decide (T.det=0))):=sL func230 rfl<|M<|Z (λb a h=>Hi (e.below a) f) λd=>Z (λb a h=>ID 0 b Zd Zd) λz=>Z (λb a h=>Ds h.1.2.q h.2.q J) λv=>ZX (.bool (Ub T.det ((0:Int):Rat)==0)) (by rw[RY])
theorem qc:Zv 231 #[Ya N q] w (.bool (Z4 N)):=by
 refine sL func231 rfl<|H 4<|sT O 1000 5 9 [10,11,12,13] 14 (N.bl==0) false (((N.op.toNat:Int)==0)&&(N.bl==0)) O O O (λ_=>O) M3 λk=>sT O 1000 5 14 [15,16,17,18] 19 (!N.iso) false ((((N.op.toNat:Int)==0)&&(N.bl==0))&&(!N.iso)) O O O (λ_=>O) M3 λr=>sT O 1000 5 19 [20,21,22,23] 3 (!N.ko) false (((((N.op.toNat:Int)==0)&&(N.bl==0))&& !N.iso)&&(!N.ko)) O O O (λ_=>O) M3 λvg=>H 5<|sT O 1000 5 28 [29,30,31,32] 33 (N.frule==0) false (((N.path.length:Int)==0)&&(N.frule==0)) O O O (λ_=>O) M3 λC=>sT O 1000 6 33 [34,35,36,37,38] 39 ((N.fill.length:Int)==0) false ((((N.path.length:Int)==0)&&(N.frule==0))&&((N.fill.length:Int)==0)) O O O (λ_=>O) M3 λv=>sT O 1000 6 39 [40,41,42,43,44] 45 ((N.stroke.length:Int)==0) false (((((N.path.length:Int)==0)&&(N.frule==0))&&((N.fill.length:Int)==0))&&((N.stroke.length:Int)==0)) O O O (λ_=>O) M3 λD=>tj O true 1000 1000 1000 45 [46,47,48,49,50] 4 false (Qj N.sty) (Qj N.sty) ((Zy N)&&(Qj N.sty)) O (λs p h=>OI (y:=(q.daA,q.dac))) O O O (λ_=>O) Q4 λF Φxj7 e=>ZD 5 (λs p h=>KU (m:=N.im) (y:=(q.pxA,q.pxc)) rfl) λu=>sT O 1000 5 55 [56,57,58,59] 5 (N.samp==0) false ((decide (N.im.w=0/\N.im.h=0/\N.im.px=[]))&&(N.samp==0)) O O O (λ_=>O) M3 λo=>M ?_
 unfold Z4
 by_cases a:N.kind=1
 .exact sQ (N.kind==1) true O (YQ.2 a)<|H 2<|sT O 1000 3 65 [66,67] 2 (By N) false ((Zy N&&Qj N.sty)&&(By N)) O O O (λ_=>O) M3 λG=>M<|ZX (.bool ((Zy N&&Qj N.sty)&&By N)) (by rw[YS a])
 refine X (N.kind==1) false (YR.2 a) ?_
 by_cases b:N.kind=2
 .exact sQ (N.kind==2) true O (YQ.2 b)<|H 2<|sT O 1000 3 71 [72,73] 2 (By N) false ((EY N)&&(By N)) O O O (λ_=>O) M3 λj=>M<|ZX (.bool (EY N&&By N)) (by rw[V a,YS b])
 exact sQ (N.kind==2) false O (YR.2 b)<|H 2<|sT O 1000 3 75 [76,77] 2 (Zy N&&Qj N.sty) false ((EY N)&&(Zy N&&Qj N.sty)) O O O (λ_=>O) M3 λf=>M<|ZX (.bool (EY N&&(Zy N&&Qj N.sty))) (by rw[V a,V b])
theorem qU{a h e b j f:Bool}{s p k o r m:Int}:FW XW 310 6 #[(0,wh a s),(1,wh h p),(2,wh e k),(3,wh b o),(4,wh j r),(5,wh f m)]=some (118,(List.map (λv:Bool×Int=>wh v.1 v.2) [(a,s),(h,p),(e,k),(b,o),(j,r),(f,m)]).toArray):=by
 cases a<;>cases h<;>cases e<;>cases b<;>cases j<;>cases f<;>kernel_rfl
theorem rT{a b:Bool}{f e:Int}:FW XW 310 2 #[(0,wh a f),(1,wh b e)]=some (118,(List.map (λv:Bool×Int=>wh v.1 v.2) [(a,f),(b,e)]).toArray):=by
 cases a<;>cases b<;>kernel_rfl
end
section
variable{w:YN}{B:Bool}{N:Nd}{q:ND}{K:Nat}{vs:List (Bool×Int)}
def qm(B:Bool)(e:YM):Prop:=(B=true/\e= .nilIface)\/(B=false/\∃z:Int,z≠0/\(e=wh true z\/e=rx z))
theorem SG(a:∀v∈vs,v.2≠0)(e:vs.all (λv=> !v.1)=B):qm B (EE vs):=by
 subst e;induction vs with
 |nil=>exact .inl ⟨rfl,rfl⟩
 |cons v r c=>
  obtain⟨b,z⟩:=v;cases b
  .exact c λv f=>a v (CG _ f)
  .exact .inr ⟨rfl,z,a (true,z) Zs,.inr rfl⟩
theorem pW{b:Bool}{z:Int}(c:z≠0)(a:(!b)=B):qm B (wh b z):=by
 subst a;cases b
 .exact .inl ⟨rfl,rfl⟩
 .exact .inr ⟨rfl,z,c,.inl rfl⟩
def qh(N:Nd):List (Bool×Int):=[(FQ N,2),(SA N,6),(!N.T.ok,5),(decide (N.T.det=0),9),(!Ru N.clip,10),(!Ry N|| !Z4 N,17)]
def pr(N:Nd):List (Bool×Int):=[(!Ru N.path,10),(!Un N.frule,2),(FV N,5),(decide ((N.stroke.length:Int)>0)&& !R8 N.sty,13),(!decide ((N.stroke.length:Int)>0)&& !Qj N.sty,17),(!N.fill.all Ld|| !N.stroke.all Ld,16)]
def qo(N:Nd):List (Bool×Int):=[(!Ay N.im,16),((N.samp !=1)&&(N.samp !=2),2)]
def rH:List Nat:=[8,9,10,11,12,13,14,15,16,17,18,19,20,21,22,23]
theorem TT(m:NM N q K w)(s:LQ N)(p:2<=K/\K<=10000000)(C:GB N=B):YG XW 165 #[Ya N q] w (K6 w (λe:{e:YM // qm B e}=>e.1) λ_ _=>True):=by
 refine sL func165 rfl<|H 5<|t_ (λ(i:Nat->AV) c=>P5 rH i (Ma 3 (.bool (Ry N)) (M1 XW 1000 11 (Ma 13 Zt (M1 XW 1000 5 (Ma 8 Zt c)))))) (λk=> ?_) (λuR Φ9 t=> ?_)
 .by_cases j:N.clip.length=0
  .refine sM 8 (.bool ((N.clip.length:Int)==0)) Zt O (by rw[YQ.2 J])<|s0 O (stop:=1000) 5 _<|tY 13 (N.crule==0) O (λl=> ?_) (λl=> ?_)
   .exact s0 O (stop:=1000) 11 _<|sM 3 Zt (.bool (Ry N)) O (by unfold Ry;rw[YS j,l])<|tb rH λx=>tm (k x _ λw h=>h) O
   .exact s0 O (stop:=1000) 5 _<|sM 18 (.bool (decide ((N.clip.length:Int)>0))) Zf O (by rw[YV J])<|s0 O (stop:=1000) 6 _<|sM 3 Zf (.bool (Ry N)) O (by unfold Ry;rw[YS j,l])<|tb rH λx=>tm (k x _ λw h=>h) O
  .exact sM 8 (.bool ((N.clip.length:Int)==0)) Zf O (by rw[YR.2 J])<|s0 O (stop:=1000) 10 _<|ZT 18 (.bool (decide ((N.clip.length:Int)>0))) Zt (by rw[YU J])<|tf (λf a h=>iY (x:=N.crule)) O λu=>s0 O (stop:=1000) 3 _<|sM 3 (.bool (Un N.crule)) (.bool (Ry N)) O (by unfold Ry;rw[V j])<|tb rH λx=>tm (k x _ λw h=>h.1) O
 refine H 4<|sT O 8 1000 27 [28,29,30] 31 true (decide (N.kind>3)) ((decide (N.kind<1))||(decide (N.kind>3))) O O O (λ_=>O) Ov λr=>M<|ZD 13 (λf a h=>T7 (b:=FQ N) (z:=2)) λP=>sT O 18 1000 36 [37,38,39,40] 41 true (decide (N.id>1073741824)) ((decide (N.id<1))||(decide (N.id>1073741824))) O O O (λ_=>O) Ov λy=>sT O 23 1000 41 [42,43,44,45] 46 true (decide (N.dep<0)) ((decide (N.id<1)||decide (N.id>1073741824))||(decide (N.dep<0))) O O O (λ_=>O) Ov λvg=>sT O 27 1000 46 [47,48,49] 50 true (decide (N.dep>=8)) (((decide (N.id<1)||decide (N.id>1073741824))||decide (N.dep<0))||(decide (N.dep>=8))) O O O (λ_=>O) Ov λD=>M<|Z (λf a h=>T7 (b:=SA N) (z:=6)) λG=>Z (λf a h=>IM rfl (m.tr.below a) p) λvf=>Z (λf a h=>T7 (b:= !N.T.ok) (z:=5)) λuS=>Z (λf a h=>oA (m.tr.below a) p) λv2=>Z (λf a h=>T7 (b:=decide (N.T.det=0)) (z:=9)) λL=>Z (λf a h=>IY (c:=q.clc) (m.cl.below a) s.cl rfl) λQ=>ZD 45 (λf a h=>T7 (b:= !Ru N.clip) (z:=10)) λuZ=>tj O false 1000 1000 1000 68 [69,70,71] 72 true (Z4 N) (!Z4 N) ((!Ry N)||(!Z4 N)) O (λf a h=>qc (q:=q)) O O O (λ_=>O) JH λA Φxj5 o=>Z (λf a h=>T7 (b:= !Ry N|| !Z4 N) (z:=17)) λF=>sO (Kw 310 6 #[(0,wh (FQ N) 2),(1,wh (SA N) 6),(2,wh (!N.T.ok) 5),(3,wh (decide (N.T.det=0)) 9),(4,wh (!Ru N.clip) 10),(5,wh (!Ry N|| !Z4 N) 17)]) (Kd 6) (Kr 118 (List.map (λv:Bool×Int=>wh v.1 v.2) (qh N)).toArray) O (λf a h=>Kb qU) λg=>M<|Z (λf a h=>SI (vs:=qh N) (n:=6) h.2 rfl Zd) λve=>ZV (EE (qh N)) (λf a h=>⟨⟨EE (qh N),SG (by simp[qh]) (by rw[<-C];simp[qh,GB])⟩,rfl,a,λ_ _ _=>trivial⟩)
theorem eO:List.all (pr N) (λv=> !v.1)=Z8 N:=by
 unfold Z8 ex pr
 by_cases h:N.stroke.length=0
 .rw[YS h,show decide ((N.stroke.length:Int)>0)=false from YV J];simp[Bool.not_or]
 .rw[V h,show decide ((N.stroke.length:Int)>0)=true from YU J];simp[Bool.not_or]
theorem mM(k:NM N q K w)(j:LQ N)(p:2<=K/\K<=10000000)(s:Z8 N=B):YG XW 232 #[Ya N q] w (K6 w (λe:{e:YM // qm B e}=>e.1) λ_ _=>True):=by
 refine sL func232 rfl<|M<|Z (λf a h=>IY (c:=q.pac) (k.pa.below a) j.pa rfl) λvf=>Z (λf a h=>T7 (b:= !Ru N.path) (z:=10)) λL=>Z (λf a h=>iY (x:=N.frule)) λF=>ZD 15 (λf a h=>T7 (b:= !Un N.frule) (z:=2)) λD=>sT O 20 1000 22 [23,24,25,26] 27 true (decide ((N.stroke.length:Int)>1)) ((decide ((N.fill.length:Int)>1))||(decide ((N.stroke.length:Int)>1))) O O O (λ_=>O) Ov λt=>M<|ZD 23 (λf a h=>T7 (b:=FV N) (z:=5)) λvg=>tj O true 1000 1000 1000 30 [31,32,33,34] 35 false (R8 N.sty) (!R8 N.sty) ((decide ((N.stroke.length:Int)>0))&&(!R8 N.sty)) O (λf a h=>lZ (y:=(q.daA,q.dac)) (k.da.below a) (by have:=j.da;omega)) O O O (λ_=>O) Q4 λu Φxj7 o=>ZD 32 (λf a h=>T7 (b:=decide ((N.stroke.length:Int)>0)&& !R8 N.sty) (z:=13)) λuS=>tj O true 1000 1000 1000 39 [40,41,42,43,44] 45 false (Qj N.sty) (!Qj N.sty) ((!decide ((N.stroke.length:Int)>0))&&(!Qj N.sty)) O (λf a h=>OI (y:=(q.daA,q.dac))) O O O (λ_=>O) Q4 λr Φxj8 m=>Z (λf a h=>T7 (b:= !decide ((N.stroke.length:Int)>0)&& !Qj N.sty) (z:=17)) λve=>ZD 44 (λf a h=>kG (c:=q.fic) rfl (k.fi.below a) rfl (by have:=j.fn;omega) j.fi p) λv2=>tj O false 1000 1000 1000 51 [52,53,54,55] 56 true (N.stroke.all Ld) (!N.stroke.all Ld) ((!N.fill.all Ld)||(!N.stroke.all Ld)) O (λf a h=>kG (c:=q.stc) rfl (k.st.below a) rfl (by have:=j.sn;omega) j.st p) O O O (λ_=>O) JH λA Φxj9 l=>Z (λf a h=>T7 (b:= !N.fill.all Ld|| !N.stroke.all Ld) (z:=16)) λC=>sO (Kw 310 6 #[(0,wh (!Ru N.path) 10),(1,wh (!Un N.frule) 2),(2,wh (FV N) 5),(3,wh (decide ((N.stroke.length:Int)>0)&& !R8 N.sty) 13),(4,wh (!decide ((N.stroke.length:Int)>0)&& !Qj N.sty) 17),(5,wh (!N.fill.all Ld|| !N.stroke.all Ld) 16)]) (Kd 6) (Kr 118 (List.map (λv:Bool×Int=>wh v.1 v.2) (pr N)).toArray) O (λf a h=>Kb qU) λg=>M<|Z (λf a h=>SI (vs:=pr N) (n:=6) h.2 rfl Zd) λG=>ZV (EE (pr N)) (λf a h=>⟨⟨EE (pr N),SG (by simp[pr]) (by rw[<-s];exact eO)⟩,rfl,a,λ_ _ _=>trivial⟩)
theorem qv(p:NM N q K w)(r:LQ N)(s:2<=K/\K<=10000000)(f:R_ N=B):YG XW 166 #[Ya N q] w (K6 w (λe:{e:YM // qm B e}=>e.1) λ_ _=>True):=by
 unfold R_ at f;refine sL func166 rfl<|M ?_
 by_cases l:N.kind=1
 .rw[YS l]at f;refine X (N.kind==1) true (YQ.2 l)<|Z (λc a h=>iP (x:=N.bl)) λt=>Z (λc a h=>T7 (b:= !Up N.bl) (z:=2)) λj=>ZV (wh (!Up N.bl) 2) (λc a h=>⟨⟨_,pW Zd (by rw[Bool.not_not];exact f)⟩,rfl,a,λ_ _ _=>trivial⟩)
 rw[V l]at f;refine X (N.kind==1) false (YR.2 l) ?_
 by_cases k:N.kind=2
 .rw[YS k]at f;refine X (N.kind==2) true (YQ.2 k)<|Z (λc a h=>mM (p.below a) r s f) λj=>ZV (j.1) (λc a h=>⟨j,rfl,a,λ_ _ _=>trivial⟩)
 rw[V k]at f;refine X (N.kind==2) false (YR.2 k)<|Z (λc a h=>EQ (m:=N.im) (y:=(q.pxA,q.pxc)) rfl (p.px.below a) (by have:=r.px;omega)) λt=>ZD 9 (λc a h=>T7 (b:= !Ay N.im) (z:=16)) λj=>sT O 13 1000 24 [25,26,27] 28 (N.samp !=2) false ((N.samp !=1)&&(N.samp !=2)) O O O (λ_=>O) M3 λo=>M<|Z (λc a h=>T7 (b:=(N.samp !=1)&&(N.samp !=2)) (z:=2)) λA=>sO (Kw 310 2 #[(0,wh (!Ay N.im) 16),(1,wh ((N.samp !=1)&&(N.samp !=2)) 2)]) (Kd 2) (Kr 118 (List.map (λv:Bool×Int=>wh v.1 v.2) (qo N)).toArray) O (λc a h=>Kb rT) λg=>M<|Z (λc a h=>SI (vs:=qo N) (n:=2) h.2 rfl Zd) λu=>ZV (EE (qo N)) (λc a h=>⟨⟨EE (qo N),SG (by simp[qo]) (by rw[<-f];simp[qo])⟩,rfl,a,λ_ _ _=>trivial⟩)
end
section
variable{w:YN}{B:Bool}{N:Nd}{q:ND}{K:Nat}
theorem ET.below{w a:YN}(h:ET w)(b:Below w.heap.size w a):ET a:=La b h
def EG(W:YN)(g:Nat)(cs:List YM)(u:YN):Prop:=W.heap.size<=g/\K7 u g cs
theorem ZZ{W u:YN}{g:Nat}{cs:List YM}(h:EG W g cs u):∀b∈[g],W.heap.size<=b/\∃cs ty own,u.heap[b]? =some (.cells cs ty own):=λb a=>by
 obtain rfl:b=g:=by simpa using a
 obtain⟨ty,c⟩:=h.2;exact⟨h.1,_,_,_,c⟩
def rD:List Nat:=[6,7,8,9,10,11]
theorem d4(A:ET w)(s:NM N q K w)(r:LQ N)(C:2<=K/\K<=10000000)(m:Mb N=B):YG XW 94 #[Ya N q] w (K6 w (λz:{z:Int // decide (z=0)=B}=>I z.1) λ_ _=>True):=by
 unfold Mb at m;refine sL func94 rfl<|M<|t_ (ι:={e:YM // qm B e}×(Nat->AV)) (λi c=>P5 rD i.2 (Ma 3 i.1.1 (M1 XW 0 1000 (Em false (M1 XW 1000 1000 (Lf (.v (wh true 0)) c)))))) (λk=> ?_) (λi Φ9 G=> ?_)
 .cases o:GB N
  .rw[o,BF]at m;subst m;refine Z (λb a h=>TT (s.below a) r C o) λe=> ?_
   obtain⟨e,j⟩:=e;rcases j with ⟨y,_⟩|⟨_,z,f,rfl|rfl⟩
   .cases y
   .exact sW false O<|H 0<|tb rD λx=>tm (k (⟨wh true z,.inr ⟨rfl,z,f,.inl rfl⟩⟩,x) _ λw h=>h.1) O
   .exact sW false O<|H 0<|tb rD λx=>tm (k (⟨rx z,.inr ⟨rfl,z,f,.inr rfl⟩⟩,x) _ λw h=>h.1) O
  .rw[o,AG]at m;refine Z (λb a h=>TT (s.below a) r C o) λe=> ?_
   obtain⟨e,j⟩:=e;rcases j with ⟨_,rfl⟩|⟨y,_⟩
   case inr=>cases y
   exact ZI true<|ZD 0 (λb a h=>qv (s.below a) r C m) λe=>tb rD λx=>tm (k (e,x) _ λw h=>h.1.1) O
 obtain⟨⟨e,j⟩,x⟩:=i;refine s0 O (stop:=1000) 1 _<|H 0<|sO (Cx 218) X0 (λg u=>K7 u g [I 0,.nilIface]/\w.heap.size<=g/\g<u.heap.size) O (λb a h=>E0 (z:= .agg #[I 0,.nilIface]) O a.size) λg=>M<|tx O<|M ?_
 rcases j with ⟨p,rfl⟩|⟨p,z,f,rfl|rfl⟩
 .refine Z (λb a h=>Zl (t:= .iface 220 (Zq g 0))) λu=>ZI false<|ZV (I 0) (λb a h=>⟨⟨0,by rw[p];rfl⟩,rfl,a,λ_ _ _=>trivial⟩)
 .refine sZ (L:=[g]) (Φ':=λ(_:Unit)=>EG w g [I z,.nilIface]) (λb a h=>bF (A.below a) h.2.1 rfl ⟨rfl,rfl⟩) (λu h=>ZZ ⟨h.2.2.1,h.2.1⟩) (λ_ F u D vg h l=>⟨h.2.2.1,l⟩) O O λ_=>M<|sW true O<|H 1<|sP 1 (L4 28 ⟨g,0,none⟩) (I z) O (λb a h=>K9 O (by have:=h.2.range 0 _ rfl;simpa using this))<|H 3<|ZB 3 (L4 118 ⟨g,1,none⟩) (.nilIface) (λb a h=>K9 O (by have:=h.2.range 1 _ rfl;simpa using this))<|Z (λb a h=>Zl (t:= .iface 220 (Zq g 0))) λu=>ZI false<|ZV (I z) (λb a h=>⟨⟨z,by rw[p];exact YV f⟩,rfl,a,λ_ _ _=>trivial⟩)
 .refine sZ (L:=[g]) (Φ':=λ(_:Unit)=>EG w g [I 0,wh true z]) (λb a h=>bF (A.below a) h.2.1 rfl ⟨rfl,rfl⟩) (λu h=>ZZ ⟨h.2.2.1,h.2.1⟩) (λ_ F u D vg h l=>⟨h.2.2.1,l⟩) O O λ_=>M<|sW true O<|H 1<|sP 1 (L4 28 ⟨g,0,none⟩) (I 0) O (λb a h=>K9 O (by have:=h.2.range 0 _ rfl;simpa using this))<|H 3<|ZB 3 (L4 118 ⟨g,1,none⟩) (wh true z) (λb a h=>K9 O (by have:=h.2.range 1 _ rfl;simpa using this))<|sZ (L:=[g]) (Φ':=λ(_:Unit)=>EG w g [I z,.nilIface]) (λb a h=>bF (A.below a) h.2 rfl ⟨rfl,rfl⟩) (λu h=>ZZ h) (λ_ F u D vg h l=>⟨h.1,l⟩) O O λ_=>M<|sW true O<|H 1<|sP 1 (L4 28 ⟨g,0,none⟩) (I z) O (λb a h=>K9 O (by have:=h.2.range 0 _ rfl;simpa using this))<|H 3<|ZB 3 (L4 118 ⟨g,1,none⟩) (.nilIface) (λb a h=>K9 O (by have:=h.2.range 1 _ rfl;simpa using this))<|Z (λb a h=>Zl (t:= .iface 220 (Zq g 0))) λu=>ZI false<|ZV (I z) (λb a h=>⟨⟨z,by rw[p];exact YV f⟩,rfl,a,λ_ _ _=>trivial⟩)
end
def eK(S:Sc)(y:YZ):List YM:=[I S.w,I S.h,.int .u8 (S.bg.1.toNat:Int),.int .u8 (S.bg.2.1.toNat:Int),.int .u8 (S.bg.2.2.1.toNat:Int),.int .u8 (S.bg.2.2.2.toNat:Int),.slice y.1 S.nds.length y.2]
abbrev W3(S:Sc)(y:YZ):YM:= .agg (eK S y).toArray
section
variable{w:YN}{B:Bool}{N:Nd}{q:ND}{K n c g:Nat}{S:Sc}{y:YZ}{nl:List (Nd×ND)}{A:YY}
def kg(t:YH):Sem Next:=Instr.makeMap t none >>= λv=>pure (.value v)
theorem kD{t:YH}{N:Nat}(e:N<=w.heap.size):Lw XW w (λg:Nat=> .map (some g)) (λg u=>FA u g []/\N<=g) (kg t):=
 ⟨w.heap.size,w.alloc (.map #[] 0),by simp only[kg,Instr.makeMap,BT,run_newObj_alloc,BJ,BU],Xk _ _,λa b f=>⟨⟨#[],0,(Y6 w _ b f).1,rfl⟩,e⟩⟩
def r7(t:YH)(m k:YM):Sem Next:=Instr.lookup t m k false >>= λv=>pure (.value v)
theorem oH{l:List Int}{x:Int}(h:FA w g l):(r7 146 (.map (some g)) (I x)).run XW w= .ok (.value (.bool (decide (x∈l)))) w:=by
 simp only[r7,BT,bn (P:=XW) (t:=146) (kt:=3) (et:=4) O O O h,BJ,BU]
theorem Nb{k:Nat}{ad:YB}(b:A=some ad)(a:k<n):(Ki 25 (.slice A n c) k).run XW w= .ok (.value (.pointer (some (ad.add (k*47))))) w:=by
 rw[b];exact Qa (elem:=69) O O a
theorem Xt{ad:YB}(h:∀(j:Nat) (v:YM),(Yb N q)[j]? =some v->w.cell? (ad.add j)=some v):(L4 69 ad).run XW w= .ok (.value (Ya N q)) w:=
 Rn O O h
theorem Ve{α:Type}{l:List α}{k:Nat}{x:α}(h:l[k]? =some x):l.take (k+1)=l.take k++ [x]:=by rw[CJ,h];rfl
theorem VH{l:List Nd}{k:Nat}(a:l[k]? =some N)(h:Cs (l.take k) (l.drop k)=B):(Mb N&&(!decide (N.id∈(l.take k).map (·.id))&&(!decide (N.dep>XR (l.take k))&&Cs (l.take (k+1)) (l.drop (k+1)))))=B:=by
 rw[Jb a]at h;rw[Ve a];exact h
theorem TH{l:List Nd}{k:Nat}(a:l[k]? =some N):XR (l.take (k+1))=N.dep+(if N.kind=1 then 1 else 0):=by
 unfold XR;rw[Ve a,List.getLast?_append];rfl
theorem QU(h:Mb N=true):0<=N.dep/\N.dep<8:=by
 unfold Mb GB SA at h;simp only[AD,AW,BA,decide_eq_false_iff_not]at h;omega
def gw(l:List Nd):Prop:=∀N∈l,LQ N
def IG(W:YN)(g:Nat)(l:List Int)(u:YN):Prop:=FA u g l/\W.heap.size<=g
theorem pj{W:YN}{l:List Int}:pE W g (IG W g l):=λu h=>by
 obtain⟨⟨a,cl,b,_⟩,e⟩:=h;exact⟨e,a,cl,b⟩
theorem ku(ve:ET w)(uS:Vs w y.1 nl K S.nds)(uZ:gw S.nds)(L:2<=K/\K<=10000000)(m:A8 S=B):YG XW 45 #[W3 S y] w (K6 w (λz:{z:Int // decide (z=0)=B}×Int=> .tuple #[I z.1.1,I z.2]) λ_ _=>True):=by
 unfold A8 at m;refine sL func45 rfl<|H 4<|sT O 1000 5 12 [13,14,15,16] 17 true (decide (S.w>256)) ((decide (S.w<1))||(decide (S.w>256))) O O O (λ_=>O) Ov λuR=>sT O 1000 5 17 [18,19,20,21] 22 true (decide (S.h<1)) ((decide (S.w<1)||decide (S.w>256))||(decide (S.h<1))) O O O (λ_=>O) Ov λuW=>sT O 1000 4 22 [23,24,25] 26 true (decide (S.h>256)) (((decide (S.w<1)||decide (S.w>256))||decide (S.h<1))||(decide (S.h>256))) O O O (λ_=>O) Ov (λuU=> ?_)
 cases D:FI S
 case true=>
  rw[D]at m;refine ZT 26 (.bool (((decide (S.w<1)||decide (S.w>256))||decide (S.h<1))||decide (S.h>256))) (.bool true) (by rw[<-D];rfl)<|ZI true<|ZV (.tuple #[I 6,I 0]) (λf a h=>⟨(⟨6,by rw[<-m];rfl⟩,0),rfl,a,λ_ _ _=>trivial⟩)
 rw[D,AR,AG]at m;refine ZT 26 (.bool (((decide (S.w<1)||decide (S.w>256))||decide (S.h<1))||decide (S.h>256))) (.bool false) (by rw[<-D];rfl)<|ZI false ?_
 cases s:decide ((S.nds.length:Int)>64)
 case true=>
  rw[s]at m;refine X (decide ((S.nds.length:Int)>64)) true (s)<|ZV (.tuple #[I 5,I 64]) (λf a h=>⟨(⟨5,by rw[<-m];rfl⟩,64),rfl,a,λ_ _ _=>trivial⟩)
 rw[s,AR,AG]at m;have hn:S.nds.length<=64:=by have:=YO s;omega
 refine X (decide ((S.nds.length:Int)>64)) false (s)<|sO (kg 146) ((λg:Nat=> .map (some g))) (λg u=>FA u g []/\w.heap.size<=g) O (λf a h=>kD a.size) λg=>M<|sU (ι:={k:Nat // k<=S.nds.length/\Cs (S.nds.take k) (S.nds.drop k)=B}) 67 (λk=>⟨[(4,.v (.map (some g))),(5,.v (I (XR (S.nds.take k.1)))),(33,.v (.slice y.1 S.nds.length y.2)),(34,.v (I S.nds.length)),(35,.v (I k.1))],[]⟩) (λk u=>IG w g ((S.nds.take k.1).map (·.id)) u) (λk=>S.nds.length-k.1) (⟨0,AJ _,m⟩) O (λ_=>O) zt (λu h=>h.2) ?_
 rintro⟨k,vf,e⟩ gg;have vf:k<=S.nds.length:=vf;have e:Cs (S.nds.take k) (S.nds.drop k)=B:=e
 by_cases l:k<S.nds.length
 case neg=>
  refine M<|X (decide ((k:Int)<(S.nds.length:Int))) false Zp<|sN O<|M<|ZV (.tuple #[I 0,I 0]) (λf a h=>⟨(⟨0,by rw[<-e,CE J];rfl⟩,0),rfl,a,λ_ _ _=>trivial⟩)
 obtain⟨N,o⟩:∃v,S.nds[k]? =some v:=⟨_,AA l⟩
 obtain⟨q,vg,r⟩:=uS.get o;obtain⟨ad,W,uY⟩:=uS.row.2 k _ vg;have F:=uZ N (AE o);have b:=VH o e;refine M<|X (decide ((k:Int)<(S.nds.length:Int))) true Zp<|ZA (Ki 25 (.slice y.1 S.nds.length y.2) k) (.pointer (some (ad.add (k*47)))) (λf a h=>Nb W l)<|ZA (L4 69 (ad.add (k*47))) (Ya N q) (λf a h=>Xt λj v Q=>La a (uY j v Q)) ?_
 cases p:Mb N
 .rw[p,BF]at b;refine Z (λf a h=>d4 (ve.below a) (r.below a) F L p) λz=>X (z.1 !=0) true (by have:=YO z.2;simpa using this)<|sN O<|M<|ZV (.tuple #[I z.1,I k]) (λf a h=>⟨(⟨z.1,by rw[z.2,<-b]⟩,k),rfl,a,λ_ _ _=>trivial⟩)
 rw[p,AG]at b;refine Z (λf a h=>d4 (ve.below a) (r.below a) F L p) λz=>X (z.1 !=0) false (by have:=YP z.2;simpa using this)<|ZA (r7 146 (.map (some g)) (I N.id)) (.bool (decide (N.id∈(S.nds.take k).map (·.id)))) (λf a h=>oH h.1.1) ?_
 cases hi:decide (N.id∈(S.nds.take k).map (·.id))
 case true=>
  rw[hi]at b;refine ZI true<|sN O<|M<|ZV (.tuple #[I 7,I k]) (λf a h=>⟨(⟨7,by rw[<-b];rfl⟩,k),rfl,a,λ_ _ _=>trivial⟩)
 rw[hi,AR,AG]at b;refine ZI false ?_;cases C:decide (N.dep>XR (S.nds.take k))
 case true=>
  rw[C]at b;refine X (decide (N.dep>XR (S.nds.take k))) true (C)<|sN O<|M<|ZV (.tuple #[I 17,I k]) (λf a h=>⟨(⟨17,by rw[<-b];rfl⟩,k),rfl,a,λ_ _ _=>trivial⟩)
 rw[C,AR,AG]at b;refine X (decide (N.dep>XR (S.nds.take k))) false (C)<|uN (g:=g) (G:=λu=>FA u g ((S.nds.take k).map (·.id)++ [N.id])) (Φ':=IG w g ((S.nds.take k).map (·.id)++ [N.id])) (rX 146 (.map (some g)) (I N.id) Zt) (λf a h=>ZK (P:=XW) (kt:=3) (et:=4) O O h.1.1 (YO hi)) (λu h=>pj u h.1) (λwa u uX uV h T=>⟨T,h.1.2⟩) O O<|M ?_
 have uT:=QU p;have t:XR (S.nds.take (k+1))=N.dep+(if N.kind=1 then 1 else 0):=TH o
 by_cases x:N.kind=1
 .refine X (N.kind==1) true (YQ.2 x)<|sS 35 l J O<|sM 5 (I (YA.wrap (N.dep+1))) (I (XR (S.nds.take (k+1)))) O (by rw[t,YS x,AU _ J])<|sR (⟨k+1,by show k+1<=S.nds.length;omega,b⟩) O zo zt (λu h=>by show IG w g ((S.nds.take (k+1)).map (·.id)) u;rw[Ve o,AL];exact h)
 .refine X (N.kind==1) false (YR.2 x)<|sS 35 l J O<|sM 5 (I N.dep) (I (XR (S.nds.take (k+1)))) O (by rw[t,V x,Int.add_zero])<|sR (⟨k+1,by show k+1<=S.nds.length;omega,b⟩) O zo zt (λu h=>by show IG w g ((S.nds.take (k+1)).map (·.id)) u;rw[Ve o,AL];exact h)
theorem UF(j:ET w)(f:Vs w y.1 nl K S.nds)(l:gw S.nds)(k:2<=K/\K<=10000000)(e:A8 S=B):Zv 18 #[W3 S y] w (.bool B):=sL func18 rfl<|M<|Z (λm a h=>ku (j.below a) (f.below a) l k e) λz=>ZX (.bool (z.1.1==0)) (congrArg (λb=>Ending.returned (Value.bool b)) z.1.2)
end
def Lr:WS:=[[110,111,114,109,97,108],[109,117,108,116,105,112,108,121],[115,99,114,101,101,110],[111,118,101,114,108,97,121],[100,97,114,107,101,110],[108,105,103,104,116,101,110],[100,105,102,102,101,114,101,110,99,101],[101,120,99,108,117,115,105,111,110],[104,97,114,100,108,105,103,104,116],[104,117,101],[115,97,116,117,114,97,116,105,111,110],[99,111,108,111,114],[108,117,109,105,110,111,115,105,116,121]]
def Ri:WS:=[[109,105,116,101,114],[98,101,118,101,108],[114,111,117,110,100]]
def Ud:WS:=[[114,111,117,110,100],[98,117,116,116],[115,113,117,97,114,101]]
def Ej(b:Bool):R:=if b then [49]else [48]
def Lp(N:Nd):WS:=
 if N.kind=1 then [[103,114,111,117,112],K8 N.id,K8 N.dep,K8 (N.op.toNat:Int),Ks Lr 1 N.bl,Ej N.iso,Ej N.ko]
 else if N.kind=2 then [[115,104,97,112,101],K8 N.id,K8 N.dep,Ks M2 1 N.frule,Pb N.path]
 else [[105,109,97,103,101],K8 N.id,K8 N.dep,Ks Ng 1 N.samp]++E5 N.im
def T9(N:Nd):WS:=[116,114,97,110,115,102,111,114,109]::Mn N.T
def Ft(S:Fo):WS:=[K8 S.w,Ks Ri 1 S.j,Ks Ud 3 S.c,K8 S.m,K8 S.p,K8 (S.d.length:Int)]++S.d.map K8
def Uc(N:Nd):List WS:=if N.clip.length=0 then []else [[[99,108,105,112],Ks M2 1 N.crule,Pb N.clip]]
def O2(P:Pn):WS:=[102,105,108,108]::Pz P
def L5(S:Fo)(P:Pn):WS:=[115,116,114,111,107,101]::(Ft S++Pz P)
def Ui(N:Nd):List WS:=Lp N::T9 N::(Uc N++(N.fill.map O2++N.stroke.map (L5 N.sty)))
def Vz(S:Sc):WS:=[[115,99,101,110,101],K8 S.w,K8 S.h,P9 S.bg]
def r9(S:Sc):List R:=M7 (Vz S)::S.nds.flatMap λN=>(Ui N).map M7
def Ju(S:Sc):R:=N0 (r9 S)
section
--ATNAMES
section
variable{w:YN}{z x:Int}{A:YY}{n c:Nat}{N:Nd}{q:ND}{K:Nat}{S:Fo}{y:YZ}{l:List Int}{B:Bool}
theorem JW:YG XW 106 #[.string ⟨#[106,111,105,110]⟩] w (K6 w (λy:Nat=> .tuple #[.slice (some ⟨y,0,none⟩) 3 3,I 1]) λy u=>Km u (some ⟨y,0,none⟩) 3 Ri):=by
 refine sL func106 rfl<|M<|ZI false<|ZI false<|ZI false<|ZI true<|sO (Kw 53 3 #[(0,E [109,105,116,101,114]),(1,E [98,101,118,101,108]),(2,E [114,111,117,110,100])]) (Kd 3) (Kr 9 #[E [109,105,116,101,114],E [98,101,118,101,108],E [114,111,117,110,100]]) O (λg b h=>Kb O) λy=>M<|ZV (.tuple #[.slice (some ⟨y,0,none⟩) 3 3,I 1]) (λg b h=>⟨y,rfl,b,λa f e=>Lh (h a f e).2 rfl⟩)
theorem ey(o:1<=z)(p:z<1+3):Zv 53 #[.string ⟨#[106,111,105,110]⟩,I z] w (E (Ks Ri 1 z)):=by
 obtain⟨k,m⟩:∃k:Nat,z=1+(k:Int):=⟨(z-1).toNat,by omega⟩
 have a:k<3:=J
 obtain⟨s,b⟩:∃s,Ri[k]? =some s:=⟨_,AA (show k<Ri.length from a)⟩
 have j:Ks Ri 1 z=s:=by
  unfold Ks;rw[show(z-1).toNat=k by omega,b];rfl
 rw[j];exact sL func53 rfl<|M<|tf (λf e h=>JW) O λy=>s0 O (stop:=1000) 7 _<|H 4<|sM 15 (I (YA.wrap (z-1))) (I (k:Int)) O (by rw[AU _ J];congr 1;omega)<|sV (Ki 53 (.slice (some ⟨y,0,none⟩) 3 3) k) (.pointer (some ((⟨y,0,none⟩:YB).add k))) O (λf e h=>Kg (elem:=9) O O a)<|H 5<|ZA (L4 9 ((⟨y,0,none⟩:YB).add k)) (E s) (λf e h=>K9 O (by obtain⟨ad,q1,g⟩:=h.2.2 k s b;cases q1;exact g))<|ZW (E s)
theorem OY:YG XW 106 #[.string ⟨#[99,97,112]⟩] w (K6 w (λy:Nat=> .tuple #[.slice (some ⟨y,0,none⟩) 3 3,I 3]) λy u=>Km u (some ⟨y,0,none⟩) 3 Ud):=by
 refine sL func106 rfl<|M<|ZI false<|ZI false<|ZI false<|ZI false<|sO (Kw 53 3 #[(0,E [114,111,117,110,100]),(1,E [98,117,116,116]),(2,E [115,113,117,97,114,101])]) (Kd 3) (Kr 9 #[E [114,111,117,110,100],E [98,117,116,116],E [115,113,117,97,114,101]]) O (λg b h=>Kb O) λy=>M<|ZV (.tuple #[.slice (some ⟨y,0,none⟩) 3 3,I 3]) (λg b h=>⟨y,rfl,b,λa f e=>Lh (h a f e).2 rfl⟩)
theorem jY(o:3<=z)(p:z<3+3):Zv 53 #[.string ⟨#[99,97,112]⟩,I z] w (E (Ks Ud 3 z)):=by
 obtain⟨k,m⟩:∃k:Nat,z=3+(k:Int):=⟨(z-3).toNat,by omega⟩
 have a:k<3:=J
 obtain⟨s,b⟩:∃s,Ud[k]? =some s:=⟨_,AA (show k<Ud.length from a)⟩
 have j:Ks Ud 3 z=s:=by
  unfold Ks;rw[show(z-3).toNat=k by omega,b];rfl
 rw[j];exact sL func53 rfl<|M<|tf (λf e h=>OY) O λy=>s0 O (stop:=1000) 7 _<|H 4<|sM 15 (I (YA.wrap (z-3))) (I (k:Int)) O (by rw[AU _ J];congr 1;omega)<|sV (Ki 53 (.slice (some ⟨y,0,none⟩) 3 3) k) (.pointer (some ((⟨y,0,none⟩:YB).add k))) O (λf e h=>Kg (elem:=9) O O a)<|H 5<|ZA (L4 9 ((⟨y,0,none⟩:YB).add k)) (E s) (λf e h=>K9 O (by obtain⟨ad,q1,g⟩:=h.2.2 k s b;cases q1;exact g))<|ZW (E s)
def T0:YM:= .agg #[E [],E [110,111,114,109,97,108],E [109,117,108,116,105,112,108,121],E [115,99,114,101,101,110],E [111,118,101,114,108,97,121],E [100,97,114,107,101,110],E [108,105,103,104,116,101,110],E [100,105,102,102,101,114,101,110,99,101],E [101,120,99,108,117,115,105,111,110],E [104,97,114,100,108,105,103,104,116],E [104,117,101],E [115,97,116,117,114,97,116,105,111,110],E [99,111,108,111,114],E [108,117,109,105,110,111,115,105,116,121]]
theorem TZ:Zv 176 #[] w T0:=sL func176 rfl<|M<|ZW (T0)
theorem ZO(h:Up x=true):x=1\/x=2\/x=3\/x=4\/x=5\/x=6\/x=7\/x=8\/x=9\/x=10\/x=11\/x=12\/x=13:=by
 unfold Up at h;rw[AD,decide_eq_true_iff,decide_eq_true_iff]at h;omega
def Cw(t:YH)(v i:YM):Sem Next:=Instr.index t v i >>= λv=>pure (.value v)
theorem jI(a:Up x=true):(Cw 227 T0 (I x)).run XW w= .ok (.value (E (Ks Lr 1 x))) w:=by
 rcases ZO a with rfl|rfl|rfl|rfl|rfl|rfl|rfl|rfl|rfl|rfl|rfl|rfl|rfl<;>kernel_rfl
theorem aW(e:Up x=true):Zv 102 #[I x] w (E (Ks Lr 1 x)):=sL func102 rfl<|M<|Z (λb a h=>iP (x:=x)) λu=>X (!Up x) false (by rw[e];rfl)<|ZD 2 (λb a h=>TZ) λf=>ZA (Cw 227 T0 (I x)) (E (Ks Lr 1 x)) (λb a h=>jI e)<|ZW (E (Ks Lr 1 x))
theorem nP:Zv 103 #[.bool B] w (E (Ej B)):=by
 cases B
 .exact sL func103 rfl<|M<|ZI false<|ZW (E [48])
 .exact sL func103 rfl<|M<|ZI true<|ZW (E [49])
theorem Jl{ls:List Sg}(a:Qn w A n ls)(b:Ru ls=true):Zv 54 #[.slice A n c] w (E (Pb ls)):=sL func54 rfl<|M<|Z (λf e h=>iO (c:=c) (a.below e) b) λu=>ZW (E (Pb ls))
theorem Aj(h:Mb N=true):(1<=N.kind/\N.kind<=3)/\(1<=N.id/\N.id<=1073741824)/\(0<=N.dep/\N.dep<8)/\N.T.ok=true/\Ru N.clip=true/\Ry N=true/\Z4 N=true/\R_ N=true:=by
 unfold Mb GB FQ SA at h;simp only[AD,AW,BA,decide_eq_false_iff_not]at h;obtain⟨⟨j,m,b,k,f,e,a⟩,g⟩:=h;exact⟨by omega,by omega,by omega,b,f,e,a,g⟩
theorem Iq(h:Un x=true):1<=x/\x<1+2:=by
 unfold Un at h;rw[BM,YQ,YQ]at h;omega
theorem bV{m:Im}(h:Ay m=true):(-9223372036854775808<=m.w/\m.w<=9223372036854775807)/\(-9223372036854775808<=m.h/\m.h<=9223372036854775807):=by
 unfold Ay at h;rw[AD,AD]at h;have a:=YP h.1.1;omega
theorem bz(o:UInt8):(0:Int)<=(o.toNat:Int)/\(o.toNat:Int)<256:=by
 have:=o.toNat_lt;omega
theorem mi(t:NM N q K w)(uS:Mb N=true)(vg:N.im.px.length<=20000):YG XW 51 #[Ya N q] w (K6 w (λy:YZ=> .slice y.1 (Lp N).length y.2) λy u=>Km u y.1 (Lp N).length (Lp N)):=by
 obtain⟨uY,ve,C,_,_,_,_,b⟩:=Aj uS;unfold R_ at b;refine sL func51 rfl<|M<|Z (λf a h=>L9 (n:=N.id) J J) λT=>Z (λf a h=>L9 (n:=N.dep) J J) λuZ=> ?_
 by_cases g:N.kind=1
 .rw[YS g]at b;have e:Lp N=[[103,114,111,117,112],K8 N.id,K8 N.dep,K8 (N.op.toNat:Int),Ks Lr 1 N.bl,Ej N.iso,Ej N.ko]:=by unfold Lp;rw[YS g]
  have vf:=bz N.op;rw[e];refine sQ (N.kind==1) true O (YQ.2 g)<|H 5<|ZT 19 (I (YA.wrap (N.op.toNat:Int))) (I (N.op.toNat:Int)) (by rw[AU _ J])<|Z (λf a h=>L9 (n:=(N.op.toNat:Int)) J J) λF=>Z (λf a h=>aW b) λuR=>Z (λf a h=>nP (B:=N.iso)) λP=>Z (λf a h=>nP (B:=N.ko)) λQ=>sO (Kw 53 7 #[(0,E [103,114,111,117,112]),(1,E (K8 N.id)),(2,E (K8 N.dep)),(3,E (K8 (N.op.toNat:Int))),(4,E (Ks Lr 1 N.bl)),(5,E (Ej N.iso)),(6,E (Ej N.ko))]) (Kd 7) (Kr 9 #[E [103,114,111,117,112],E (K8 N.id),E (K8 N.dep),E (K8 (N.op.toNat:Int)),E (Ks Lr 1 N.bl),E (Ej N.iso),E (Ej N.ko)]) O (λf a h=>Kb O) λo=>M<|ZV (.slice (some ⟨o,0,none⟩) 7 7) (λf a h=>⟨(some ⟨o,0,none⟩,7),rfl,a,λk g m=>Lh (h k g m).2 rfl⟩)
 rw[V g]at b;refine X (N.kind==1) false (YR.2 g) ?_
 by_cases m:N.kind=2
 .rw[YS m]at b;unfold Z8 at b;simp only[AD]at b;have e:Lp N=[[115,104,97,112,101],K8 N.id,K8 N.dep,Ks M2 1 N.frule,Pb N.path]:=by unfold Lp;rw[V g,YS m]
  have D:=Iq b.2.1;rw[e];refine X (N.kind==2) true (YQ.2 m)<|Z (λf a h=>PG D.1 D.2) λF=>Z (λf a h=>Jl (c:=q.pac) (t.pa.below a) b.1) λuR=>sO (Kw 53 5 #[(0,E [115,104,97,112,101]),(1,E (K8 N.id)),(2,E (K8 N.dep)),(3,E (Ks M2 1 N.frule)),(4,E (Pb N.path))]) (Kd 5) (Kr 9 #[E [115,104,97,112,101],E (K8 N.id),E (K8 N.dep),E (Ks M2 1 N.frule),E (Pb N.path)]) O (λf a h=>Kb O) λo=>M<|ZV (.slice (some ⟨o,0,none⟩) 5 5) (λf a h=>⟨(some ⟨o,0,none⟩,5),rfl,a,λk g m=>Lh (h k g m).2 rfl⟩)
 rw[V m,AD]at b;obtain⟨L1,r⟩:∃L:WS,L=[[105,109,97,103,101],K8 N.id,K8 N.dep,Ks Ng 1 N.samp]:=⟨_,rfl⟩
 have s:L1.length=4:=by rw[r];rfl
 have e:Lp N=L1++E5 N.im:=by unfold Lp;rw[V g,V m,r]
 have hi:=bV b.1;have uW:N.samp=1\/N.samp=2:=by
  have:=b.2;simp only[AW,Bool.and_eq_false_iff,bne_eq_false_iff_eq]at this;exact this
 have G:(L1++E5 N.im).length=4+3:=by rw[AH,s];rfl
 rw[e,G];refine X (N.kind==2) false (YR.2 m)<|ZD 5 (λf a h=>PC (z:=N.samp) J J) λF=>tR (i:=5) (j:=8) O ?_ ?_
 .refine Py.make (i:=5) (Kw 53 4 #[(0,E [105,109,97,103,101]),(1,E (K8 N.id)),(2,E (K8 N.dep)),(3,E (Ks Ng 1 N.samp))]) (Kd 4) (Kr 9 #[E [105,109,97,103,101],E (K8 N.id),E (K8 N.dep),E (Ks Ng 1 N.samp)]) O (λf a h=>Kb O) λo=>H 9<|ZD 9 (λf a h=>X8 (y:=(q.pxA,q.pxc)) (t.px.below a) vg hi.1 hi.2) λy=>sO (Ln 53 53 (Kd 4 o) (.slice y.1 3 y.2)) (λy:YZ=> .slice y.1 (4+3) y.2) (λy v=>Y v w.heap.size 9 1 y.1 (4+3) y.2 (sv (L1++E5 N.im))) O (λf a h=>Q3 (p:=L1) (l:=E5 N.im) (by rw[r];exact h.1.2) s h.2 Zd Zd a.size) λz=>M<|ZV (.slice z.1 (4+3) z.2) (λf a h=>⟨z,rfl,a,λk g m=>(h k g m).2.strs⟩)
 .refine tD (i:=8) (λf a h=>X8 (y:=(q.pxA,q.pxc)) (t.px.below a) vg hi.1 hi.2) O λy=>H 5<|sO (Kw 53 4 #[(0,E [105,109,97,103,101]),(1,E (K8 N.id)),(2,E (K8 N.dep)),(3,E (Ks Ng 1 N.samp))]) (Kd 4) (Kr 9 #[E [105,109,97,103,101],E (K8 N.id),E (K8 N.dep),E (Ks Ng 1 N.samp)]) O (λf a h=>Kb O) λo=>H 9<|sO (Ln 53 53 (Kd 4 o) (.slice y.1 3 y.2)) (λy:YZ=> .slice y.1 (4+3) y.2) (λy v=>Y v w.heap.size 9 1 y.1 (4+3) y.2 (sv (L1++E5 N.im))) O (λf a h=>Q3 (p:=L1) (l:=E5 N.im) (by rw[r];exact h.2) s h.1.2 Zd Zd a.size) λz=>M<|ZV (.slice z.1 (4+3) z.2) (λf a h=>⟨z,rfl,a,λk g m=>(h k g m).2.strs⟩)
theorem S7{P:YK}{t elem:YH}{len s:Nat}{a:Array (Nat×YM)}{cells:Array YM}{N:Nat}(h:FW P t len a=some (elem,cells))(p:N<=w.heap.size)(r:cells.size=len*s)(v:len<=maxLen):
 Lw P w (Kd len) (λg u=>Y u N elem s (some ⟨g,0,none⟩) len len cells.toList) (Kw t len a):=by
 obtain⟨x,C,e,j,m⟩:=Lw.fresh (Kb (w:=w) h) (λg=>[g]) (λg u h b j=>by
  simp only[List.mem_singleton]at j;subst j;exact⟨_,_,_,h⟩)
 exact⟨x,C,e,j,λf o k=>uk (m f o k).1 r (AQ p ((m f o k).2 x Zs)) v⟩
theorem GT(h:R8 S=true):(1<=S.w/\S.w<=16384)/\(1<=S.j/\S.j<1+3)/\(3<=S.c/\S.c<3+3)/\(256<=S.m/\S.m<=65536)/\(0<=S.p/\S.p<=1048576)/\T4 S.d=true:=by
 unfold R8 Cm at h;simp only[AD,BM,decide_eq_true_eq,YQ]at h;obtain⟨⟨⟨⟨⟨⟨⟨f,r⟩,e⟩,k⟩,g⟩,a⟩,b⟩,o⟩:=h;exact⟨by omega,by omega,by omega,by omega,by omega,a⟩
theorem Jd(h:T4 l=true):(∀z∈l,0<=z/\z<=1048576)/\l.length<=16:=by
 unfold T4 at h;simp only[AD,AW,decide_eq_true_eq]at h;refine⟨λz b=> ?_,by omega⟩;have a:=List.any_eq_false.1 h.1 z b;unfold Ga at a;simp only[BM,decide_eq_true_eq,not_or]at a;omega
theorem dp{k:Nat}(a:l[k]? =some x):(l.take (k+1)).map K8=(l.take k).map K8++ [K8 x]:=by rw[Ve a,AL];rfl
theorem QA{B m yc b:Nat}{y:YY}{p:WS}{a:R}(g:Y w B 9 1 y m yc (sv p))(e:B<=w.heap.size)(f:Kr 9 #[E a] b w)(h:m<999990):
 Pp XW w (bl y) (λz:YZ=> .slice z.1 (m+1) z.2) (λz v=>Y v B 9 1 z.1 (m+1) z.2 (sv (p++ [a]))) (Ln 53 53 (.slice y m yc) (Kd 1 b)):=
 O7 (cc:=1) g e (Lh (L:=[a]) f rfl) (show m+1<=1000000 by omega)
def RL(S:Fo):WS:=[K8 S.w,Ks Ri 1 S.j,Ks Ud 3 S.c,K8 S.m,K8 S.p,K8 (S.d.length:Int)]
theorem QR:Ft S=RL S++S.d.map K8:=rfl
theorem SU:(Ft S).length=6+S.d.length:=by rw[QR,AH,BN];rfl
theorem LV(uW:O3 w y.1 S.d.length 1 Tl S.d)(uZ:R8 S=true):YG XW 56 #[MO S y] w (K6 w (λy:YZ=> .slice y.1 (6+S.d.length) y.2) λy u=>Km u y.1 (6+S.d.length) (Ft S)):=by
 obtain⟨h1,D,vg,h4,h5,ve⟩:=GT uZ;obtain⟨r,EO⟩:=Jd ve;refine sL func56 rfl<|M<|Z (λe b h=>L9 (n:=S.w) J J) λu0=>Z (λe b h=>ey D.1 D.2) λuT=>Z (λe b h=>jY vg.1 vg.2) λu2=>Z (λe b h=>L9 (n:=S.m) J J) λu3=>Z (λe b h=>L9 (n:=S.p) J J) λu4=>Z (λe b h=>L9 (n:=(S.d.length:Int)) J J) λu5=>sO (Kw 53 6 #[(0,E (K8 S.w)),(1,E (Ks Ri 1 S.j)),(2,E (Ks Ud 3 S.c)),(3,E (K8 S.m)),(4,E (K8 S.p)),(5,E (K8 (S.d.length:Int)))]) (Kd 6) (λg u=>Y u w.heap.size 9 1 (some ⟨g,0,none⟩) 6 6 (sv (RL S))) O (λe b h=>S7 (s:=1) O b.size rfl Zd) λuS=>M<|sU (ι:={q:Nat×(YZ) // q.1<=S.d.length}) 40 (λq=>⟨[(3,.v (.slice q.1.2.1 (6+q.1.1) q.1.2.2)),(27,.v (.slice y.1 S.d.length y.2)),(28,.v (I S.d.length)),(29,.v (I q.1.1))],[]⟩) (λq u=>Y u w.heap.size 9 1 q.1.2.1 (6+q.1.1) q.1.2.2 (sv (RL S++(S.d.take q.1.1).map K8))) (λq=>S.d.length-q.1.1) (⟨(0,(some ⟨uS,0,none⟩,6)),AJ _⟩) O (λ_=>O) zt (λu h=>by show Y u _ _ 1 _ 6 6 (sv (RL S++ []));rw[List.append_nil];exact h.2) ?_
 rintro⟨⟨k,z⟩,F⟩ gg;have F:k<=S.d.length:=F
 by_cases f:k<S.d.length
 case neg=>
  obtain rfl:k=S.d.length:=J
  refine M<|X (decide ((S.d.length:Int)<(S.d.length:Int))) false Zs<|sN O<|M<|ZV (.slice z.1 (6+S.d.length) z.2) (λe b h=>⟨z,rfl,b,λo uR vf=>by have t:=(show Y o w.heap.size 9 1 z.1 (6+S.d.length) z.2 (sv (RL S++(S.d.take S.d.length).map K8))from h o uR vf).strs;rw[BK]at t;exact t⟩)
 obtain⟨v,C⟩:∃v,S.d[k]? =some v:=⟨_,AA f⟩
 obtain⟨ad,W,P⟩:=uW.2 k v C;have uY:=r v (AE C);refine M<|X (decide ((k:Int)<(S.d.length:Int))) true Zp<|ZA (Ki 65 (.slice y.1 S.d.length y.2) k) (.pointer (some (ad.add k))) (λe b h=>by rw[W];exact Kg (elem:=3) O O f)<|ZA (L4 3 (ad.add k)) (I v) (λe b h=>K9 O (by have:=La b (P 0 (I v) rfl);rw[Y7,CD,BS]at this;exact this))<|ZD 3 (λe b h=>L9 (n:=v) J J) λu=>sO (Kw 53 1 #[(0,E (K8 v))]) (Kd 1) (Kr 9 #[E (K8 v)]) O (λe b h=>Kb O) λQ=>H 4<|sY (L:=bl z.1) (val:=λ(z:YZ)=> .slice z.1 (6+(k+1)) z.2) (Φ':=λ(z:YZ) v=>Y v w.heap.size 9 1 z.1 (6+(k+1)) z.2 (sv (RL S++(S.d.take (k+1)).map K8))) (G:=λ(z:YZ) v=>Y v w.heap.size 9 1 z.1 (6+(k+1)) z.2 (sv (RL S++(S.d.take (k+1)).map K8))) (Ln 53 53 (.slice z.1 (6+k) z.2) (Kd 1 Q)) (λe b h=>by have t:=QA (m:=6+k) (a:=K8 v) h.1.1 b.size h.2 J;rw[List.append_assoc,<-dp C]at t;exact t) (λu h=>h.1.1.blk) (λ_ wa u uX uV h T=>T) O O λuU=>M<|sS 29 f J O<|sR (⟨(k+1,uU),by show k+1<=S.d.length;omega⟩) O zo zt (λu h=>h)
end
end
section
--ATNAMES
abbrev LR:=WS×(YZ)
def Rf(x:LR):YM:= .slice x.2.1 x.1.length x.2.2
section
variable{u w w':YN}{B gb n c s:Nat}{y z:YZ}{L:List LR}{uX:LR}{e:YH}{A:YY}{ws:WS}{xs:List YM}
theorem PZ(h:Km u A n ws)(g:ws≠[]):∀b∈bl A,∃cs ty own,u.heap[b]? =some (.cells cs ty own):=λb k=>by
 cases ws with
 |nil=>exact absurd rfl g
 |cons x r=>
  obtain⟨ad,j,a⟩:=h.2 0 x rfl;subst j;obtain rfl:b=ad.block:=by simpa[bl]using k
  have f:(ad.add 0).block=ad.block:=by cases ad;simp[Addr.add]
  unfold World.cell? at a;rw[f]at a;split at a
  .rename_i c t o l;exact⟨c,t,o,l⟩
  .cases a
theorem D8(h:Km u A n ws)(a:ws≠[]):∀b∈bl A,b<u.heap.size:=λb f=>by
 obtain⟨_,_,_,g⟩:=PZ h a b f;exact(Array.getElem?_eq_some_iff.1 g).1
theorem K6.aptR{uX:Type}{val:uX->YM}{G:uX->YN->Prop}{e:YC}(L:uX->List Nat){uY:uX->Prop}(h:K6 w val G e w')(p:∀x w,G x w->∀b∈L x,∃cs ty own,w.heap[b]? =some (.cells cs ty own))
 (l:∀x,(∀b∈L x,w.heap.size<=b)->uY x):K6 w val (λx u=>G x u/\uY x) e w':=by
 obtain⟨q,m,k,j⟩:=h.fresh L p;exact⟨q.1,m,k,λa g f=>⟨(j a g f).1,l _ λb o=>((j a g f).2.1 b o).1⟩⟩
theorem Lw.aptR{P:YK}{uX:Type}{val:uX->YM}{G:uX->YN->Prop}{s:Sem Next}(L:uX->List Nat){uY:uX->Prop}(h:Lw P w val G s)(o:∀x w,G x w->∀b∈L x,∃cs ty own,w.heap[b]? =some (.cells cs ty own))
 (l:∀x,(∀b∈L x,w.heap.size<=b)->uY x):Lw P w val (λx u=>G x u/\uY x) s:=by
 obtain⟨x,w',m,k,j⟩:=h.fresh L o;exact⟨x,w',m,k,λa g f=>⟨(j a g f).1,l _ (j a g f).2⟩⟩
theorem PF{P:YK}{p:Sem Next}(G:Pp P u (bl y.1) (λz:YZ=> .slice z.1 n z.2) (λz v=>Y v B e s z.1 n z.2 xs) p){uY:YZ->Prop}(F:∀z,(∀b∈bl z.1,b∈bl y.1\/u.heap.size<=b)->uY z):
 Pp P u (bl y.1) (λz:YZ=> .slice z.1 n z.2) (λz v=>Y v B e s z.1 n z.2 xs/\uY z) p:=by
 obtain⟨z,w',uS,D,j⟩:=G;refine⟨z,w',uS,D,λo C x=>⟨j o C x,F z λb t=> ?_⟩⟩
 by_cases f:b∈bl y.1
 .exact .inl f
 right;rcases BD b u.heap.size with vf|h
 case inr=>exact h
 exfalso;have l:=j w' (AK _) λ_ _=>rfl
 have a:b<w'.heap.size:=(l.lt b t).2;have m:=j {w' with heap:=w'.heap.setIfInBounds b (.pending #[] 0)} Zs λk g=>by
  rw[BR];intro vg;subst vg;rcases g with g|g
  .exact f g
  .omega
 obtain⟨_,cs,ty,own,r⟩:=m.blk b t;rw[BL a]at r;cases r
structure P6(B:Nat)(y:YZ)(L:List LR)(u:YN):Prop where
 own:Y u B 53 1 y.1 L.length y.2 (L.map Rf)
 str:∀x∈L,Km u x.2.1 x.1.length x.1
 ne:∀x∈L,x.1≠[]
 apart:∀x∈L,∀b∈bl y.1,b∉bl x.2.1
def LZ(A:YY)(y:YZ)(L:List LR):Prop:=∀b∈bl A,b∉bl y.1/\∀x∈L,b∉bl x.2.1
theorem P6.apt(h:P6 B y L u)(g:∀b∈bl A,u.heap.size<=b):LZ A y L:=λb f=>
 ⟨λa=>by have:=(h.own.lt b a).2;have:=g b f;omega,λx j a=>by have:=D8 (h.str x j) (h.ne x j) b a;have:=g b f;omega⟩
theorem P6.stay{Lb:List Nat}{j:YN}(h:P6 B y L j)(g:∀b,b∉Lb->j.heap[b]? =u.heap[b]?)(l:∀b∈Lb,b∉bl y.1/\∀x∈L,b∉bl x.2.1):P6 B y L u:=
 ⟨h.own.left g λb f a=>(l b a).1 f,λx k=>(h.str x k).left g λb f a=>(l b a).2 x k f,h.ne,h.apart⟩
theorem o2:(L++ [uX]).map Rf=L.map Rf++ [Rf uX]:=by rw[AL];rfl
theorem Xu(h:P6 B y L u)(vg:B<=u.heap.size)(r:Km u uX.2.1 uX.1.length uX.1)(k:uX.1≠[])(j:LZ uX.2.1 y L)(C:Kr 53 #[Rf uX] gb u)(G:L.length<=10000000):
 Pp XW u (bl y.1) (λz:YZ=> .slice z.1 (L.length+1) z.2) (λz v=>Y v B 53 1 z.1 (L.length+1) z.2 (L.map Rf++ [Rf uX])/\∀x∈L++ [uX],∀b∈bl z.1,b∉bl x.2.1) (Ln 95 95 (.slice y.1 L.length y.2) (Kd 1 gb)):=by
 have D:=N4 (P:=XW) (s:=1) (z:= .slice none 0 0) (bytes:=24) (m:=1) (cc:=1) (t:=95) (elem:=53) O O rfl Zd h.own vg (Mm (n:=1) C rfl) (by intro v o;simp at o;subst o;rfl) J Zd;refine PF D λz l x F b p g=> ?_
 rcases AX.1 F with a|a
 .rcases l b p with f|f
  .exact h.apart x a b f g
  .have:=D8 (h.str x a) (h.ne x a) b g;omega
 .obtain rfl:x=uX:=by simpa using a
  rcases l b p with f|f
  .exact(j b g).1 f
  .have:=D8 r k b g;omega
theorem P6.left{k:YN}(h:P6 B y L k)(r:Km k uX.2.1 uX.1.length uX.1)(f:uX.1≠[])(g:LZ uX.2.1 y L)
 (m:∀b,b∉bl y.1->k.heap[b]? =u.heap[b]?) (o:Y u B 53 1 z.1 (L.length+1) z.2 (L.map Rf++ [Rf uX])/\∀x∈L++ [uX],∀b∈bl z.1,b∉bl x.2.1):P6 B z (L++ [uX]) u:=by
 refine⟨by rw[AH,o2];exact o.1,λx l=> ?_,λx l=> ?_,o.2⟩
 .rcases AX.1 l with a|a
  .exact(h.str x a).left m λb j p=>h.apart x a b p j
  .obtain rfl:x=uX:=by simpa using a
   exact r.left m λb j=>(g b j).1
 .rcases AX.1 l with a|a
  .exact h.ne x a
  .obtain rfl:x=uX:=by simpa using a
   exact f
theorem Ml{m yc cc:Nat}{A1 A2:YY}{p l:WS}(k:P6 B y L u)(j:Y u B 9 1 A1 m yc (sv p))(x:B<=u.heap.size)(t:Km u A2 n l)(o:m+n<=1000000)(a:LZ A1 y L):
 Pp XW u (bl A1) (λz:YZ=> .slice z.1 (m+n) z.2) (λz v=>Y v B 9 1 z.1 (m+n) z.2 (sv (p++l))/\LZ z.1 y L) (Ln 53 53 (.slice A1 m yc) (.slice A2 n cc)):=
 PF (y:=(A1,yc)) (O7 j x t o) λz h b C=>by
  rcases h b C with g|g
  .exact a b g
  .exact k.apt (A:=some ⟨b,0,none⟩) (λr f=>by obtain rfl:r=b:=(by simpa[bl]using f);exact g) b (by simp[bl])
theorem F9{X1 X2:LR}{N:Nat}(m:N<=w.heap.size)(r:Km w X1.2.1 X1.1.length X1.1)(p:X1.1≠[])(l:Km w X2.2.1 X2.1.length X2.1)(n2:X2.1≠[]):
 Lw XW w (Kd 2) (λg u=>Y u N 53 1 (some ⟨g,0,none⟩) 2 2 [Rf X1,Rf X2]/\∀x∈[X1,X2],∀b∈bl (some (⟨g,0,none⟩:YB)),b∉bl x.2.1) (Kw 95 2 #[(0,Rf X1),(1,Rf X2)]):=by
 refine Lw.aptR (λg=>[g]) (S7 (cells:= #[Rf X1,Rf X2]) O m rfl Zd) (λg u h b a=> ?_) (λg o x f b a j=> ?_)
 .exact(h.blk b (by simpa[bl]using a)).2
 .obtain rfl:b=g:=by simpa[bl]using a
  have k:=o b Zs;rcases BG.1 f with rfl|f
  .have:=D8 r p b j;omega
  .obtain rfl:x=X2:=by simpa using f
   have:=D8 l n2 b j;omega
theorem HA{m cc:Nat}{A2:YY}{p l:WS}(f:P6 B y L w)(o:Kr 9 (sv p).toArray gb w)(g:p.length=n)(r:Km w A2 m l)(j:0<m)(k:n+m<=1000000)(t:B<=w.heap.size):
 Lw XW w (λz:YZ=> .slice z.1 (n+m) z.2) (λz v=>Y v B 9 1 z.1 (n+m) z.2 (sv (p++l))/\LZ z.1 y L) (Ln 53 53 (Kd n gb) (.slice A2 m cc)):=
 Lw.aptR (λz=>bl z.1) (Q3 o g r j k t) (λz u h b x=>(h.blk b x).2) λz a=>f.apt a
end
section
variable{w:YN}{z x:Int}{A:YY}{n c:Nat}{N:Nd}{q:ND}{K:Nat}{S:Fo}{y:YZ}{l:List Int}{B:Bool}
theorem Wr(h:Mb N=true):(N.fill.length<=1/\N.stroke.length<=1)/\(∀P∈N.fill,Ld P=true)/\(∀P∈N.stroke,Ld P=true)/\(N.stroke.length≠0->R8 N.sty=true):=by
 obtain⟨r,_,_,_,_,_,a,b⟩:=Aj h;unfold Z4 at a;unfold R_ at b
 by_cases f:N.kind=2
 .rw[V J,YS f]at b;unfold Z8 FV ex at b;simp only[AD,AW,BA,decide_eq_false_iff_not,CM]at b;obtain⟨_,_,s,m,p,e⟩:=b;exact⟨by omega,p,e,λo=>by rw[V o]at m;exact m⟩
 .have e:Zy N=true:=by
   by_cases k:N.kind=1
   .rw[YS k,AD,AD]at a;exact a.1.1
   .rw[V k,V f,AD,AD]at a;exact a.2.1
  unfold Zy at e;simp only[AD,YQ]at e;have g:N.fill.length=0:=J
  have j:N.stroke.length=0:=J
  rw[BO]at g j;rw[g,j];exact⟨by decide,by simp,by simp,by simp⟩
theorem An{α β:Type}{l:List α}{k:Nat}{x:α}(f:α->β)(a:l[k]? =some x):(l.take (k+1)).map f=(l.take k).map f++ [f x]:=by rw[Ve a,AL];rfl
def Ur(N:Nd):List WS:=[Lp N,T9 N]
theorem Fa{L:List LR}{uR:List WS}(h:L.map (·.1)=uR):L.length=uR.length:=by rw[<-h,BN]
theorem R9:Lp N≠[]:=by
 unfold Lp;split
 .simp
 .split
  .simp
  .simp
theorem iH(a:NM N q K w)(e:Mb N=true)(b:N.im.px.length<=20000):YG XW 51 #[Ya N q] w (K6 w (λy:YZ=>Rf (Lp N,y)) λy u=>Km u y.1 (Lp N).length (Lp N)):=mi a e b
def rE:List Nat:=[11,12,13,14,15,16,17,18]
def rR:List Nat:=[23,24,25,26,27,28,29,30,31,32]
end
end
section
--ATNAMES
section
variable{w u:YN}{z x:Int}{A:YY}{n c B:Nat}{N:Nd}{q:ND}{K:Nat}{S:Fo}{y:YZ}{l:List Int}{L:List LR}{uX:LR}
theorem Vl{a:Array (Nat×YM)}{cells:Array YM}{ws:WS}(h:FW XW 53 n a=some (9,cells))(r:cells.toList=sv ws)(s:ws.length=n)(p:P6 B y L w):
 Lw XW w (Kd n) (λg u=>Km u (some ⟨g,0,none⟩) n ws/\LZ (some ⟨g,0,none⟩) y L) (Kw 53 n a):=by
 obtain⟨g,v,C,o,m⟩:=Lw.aptR (uY:=λg=>LZ (some (⟨g,0,none⟩:YB)) y L) (λg=>[g]) (Kb (w:=w) h) (λg u h b f=>by obtain rfl:b=g:=(by simpa using f);exact⟨_,_,_,h⟩) (λg t=>p.apt λb f=>t b (by simpa[bl]using f));exact⟨g,v,C,o,λe k j=>⟨Lh (m e k j).1 r s,(m e k j).2⟩⟩
theorem cg{α:Type}{P:α->Prop}{a b:α}(e:P a)(f:P b):∀x∈[a,b],P x:=by simp[e,f]
theorem fH{g:Nat}{X1 X2:LR}(j:Y u B 53 1 (some ⟨g,0,none⟩) 2 2 [Rf X1,Rf X2])(a:∀x∈[X1,X2],∀b∈bl (some (⟨g,0,none⟩:YB)),b∉bl x.2.1)(f:Km u X1.2.1 X1.1.length X1.1)(e:X1.1≠[])(h:Km u X2.2.1 X2.1.length X2.1)(n2:X2.1≠[]):P6 B (some ⟨g,0,none⟩,2) [X1,X2] u:=
 ⟨j,cg f h,cg (P:=λx:LR=>x.1≠[]) e n2,a⟩
theorem EP:(Uc N).length<=1:=by unfold Uc;split<;>simp
theorem RJ{P:Pn}(a:Ld P=true):0<(Pz P).length:=by
 unfold Pz;split
 .simp
 split
 .simp
 split<;>simp
theorem Ll:Ui N=(Ur N++Uc N)++N.fill.map O2++N.stroke.map (L5 N.sty):=by unfold Ui Ur;simp
theorem lG(ve:NM N q K w)(hf:LQ N)(hv:Mb N=true)(hK:2<=K/\K<=1000)(hsm:∀ws∈Ui N,ws.length<=2000000/\Nm ws<=2000000):
 YG XW 22 #[Ya N q] w (K6 w (λy:YZ=> .slice y.1 (Ui N).length y.2) λy u=>Km u y.1 (Ui N).length ((Ui N).map M7)):=by
 obtain⟨uU,hid,hdep,hok,hclip,hcl,_,_⟩:=Aj hv;obtain⟨hn1,hfv,hsv,hsty⟩:=Wr hv;have hcn:=EP (N:=N);refine sL func22 rfl<|M<|tM (ι:=(Nat×(YZ)×(YZ))×(Nat->AV)) (λi c=>P5 rE i.2 (Ma 3 (Kd 2 i.1.1) (M1 XW 1000 1000 (Lf (.v (Kd 2 0)) (M1 XW 1000 1000 (Lf (.v (.slice none 7 7)) (M1 XW 1000 1000 (Lf (.v (.slice none 6 6)) (M1 XW 1000 1000 (Lf (.v (.slice none 1 1)) (M1 XW 1000 1000 (Bg 2 (Kd 1 0) c)))))))))))) (λi u=>P6 w.heap.size (some ⟨i.1.1,0,none⟩,2) [(Lp N,i.1.2.1),(T9 N,i.1.2.2)] u) (λk=> ?_) (λi=> ?_)
 .refine tR (i:=1) (j:=2) O ?_ ?_
  .refine tD (i:=1) (λo a h=>iH (ve.below a) hv hf.px) O λs=>M<|tR (i:=2) (j:=5) O ?_ ?_
   .exact Py.make (i:=2) (Kw 53 1 #[(0,E [116,114,97,110,115,102,111,114,109])]) (Kd 1) (Kr 9 #[E [116,114,97,110,115,102,111,114,109]]) O (λo a h=>Kb O) λuS=>M<|ZD 6 (λo a h=>Q6 (N:=w.heap.size) a.size (ve.tr.below a) hK) λy2=>sO (Ln 53 53 (Kd 1 uS) (.slice y2.1 6 y2.2)) (λy:YZ=> .slice y.1 (1+6) y.2) (λy v=>Y v w.heap.size 9 1 y.1 (1+6) y.2 (sv ([[116,114,97,110,115,102,111,114,109]]++Mn N.T))) O (λo a h=>Q3 (p:=[[116,114,97,110,115,102,111,114,109]]) (l:=Mn N.T) h.1.2 rfl h.2.strs Zd Zd a.size) λz=>M<|sO (Kw 95 2 #[(0,Rf (Lp N,s)),(1,Rf (T9 N,z))]) (Kd 2) (λg u=>Y u w.heap.size 53 1 (some ⟨g,0,none⟩) 2 2 [Rf (Lp N,s),Rf (T9 N,z)]/\∀x∈[((Lp N,s):LR),(T9 N,z)],∀b∈bl (some (⟨g,0,none⟩:YB)),b∉bl x.2.1) O (λo a h=>F9 (X1:=(Lp N,s)) (X2:=(T9 N,z)) a.size h.1.1.1.2 R9 h.2.strs (by simp[T9])) λg=>M<|tA O (λu h=>fH (X1:=(Lp N,s)) (X2:=(T9 N,z)) h.2.1 h.2.2 h.1.1.1.1.2 R9 h.1.2.strs (by simp[T9]))<|tb rE λx=>tm (k ((g,s,z),x)) O
   .exact tD (i:=5) (λo a h=>Q6 (N:=w.heap.size) a.size (ve.tr.below a) hK) O λy2=>H 2<|sO (Kw 53 1 #[(0,E [116,114,97,110,115,102,111,114,109])]) (Kd 1) (Kr 9 #[E [116,114,97,110,115,102,111,114,109]]) O (λo a h=>Kb O) λuS=>H 6<|sO (Ln 53 53 (Kd 1 uS) (.slice y2.1 6 y2.2)) (λy:YZ=> .slice y.1 (1+6) y.2) (λy v=>Y v w.heap.size 9 1 y.1 (1+6) y.2 (sv ([[116,114,97,110,115,102,111,114,109]]++Mn N.T))) O (λo a h=>Q3 (p:=[[116,114,97,110,115,102,111,114,109]]) (l:=Mn N.T) h.2 rfl h.1.2.strs Zd Zd a.size) λz=>M<|sO (Kw 95 2 #[(0,Rf (Lp N,s)),(1,Rf (T9 N,z))]) (Kd 2) (λg u=>Y u w.heap.size 53 1 (some ⟨g,0,none⟩) 2 2 [Rf (Lp N,s),Rf (T9 N,z)]/\∀x∈[((Lp N,s):LR),(T9 N,z)],∀b∈bl (some (⟨g,0,none⟩:YB)),b∉bl x.2.1) O (λo a h=>F9 (X1:=(Lp N,s)) (X2:=(T9 N,z)) a.size h.1.1.1.2 R9 h.2.strs (by simp[T9])) λg=>M<|tA O (λu h=>fH (X1:=(Lp N,s)) (X2:=(T9 N,z)) h.2.1 h.2.2 h.1.1.1.1.2 R9 h.1.2.strs (by simp[T9]))<|tb rE λx=>tm (k ((g,s,z),x)) O
  .exact Py.make (i:=2) (Kw 53 1 #[(0,E [116,114,97,110,115,102,111,114,109])]) (Kd 1) (Kr 9 #[E [116,114,97,110,115,102,111,114,109]]) O (λo a h=>Kb O) λuS=>M<|Z (λo a h=>iH (ve.below a) hv hf.px) λs=>ZD 6 (λo a h=>Q6 (N:=w.heap.size) a.size (ve.tr.below a) hK) λy2=>sO (Ln 53 53 (Kd 1 uS) (.slice y2.1 6 y2.2)) (λy:YZ=> .slice y.1 (1+6) y.2) (λy v=>Y v w.heap.size 9 1 y.1 (1+6) y.2 (sv ([[116,114,97,110,115,102,111,114,109]]++Mn N.T))) O (λo a h=>Q3 (p:=[[116,114,97,110,115,102,111,114,109]]) (l:=Mn N.T) h.1.1.2 rfl h.2.strs Zd Zd a.size) λz=>M<|sO (Kw 95 2 #[(0,Rf (Lp N,s)),(1,Rf (T9 N,z))]) (Kd 2) (λg u=>Y u w.heap.size 53 1 (some ⟨g,0,none⟩) 2 2 [Rf (Lp N,s),Rf (T9 N,z)]/\∀x∈[((Lp N,s):LR),(T9 N,z)],∀b∈bl (some (⟨g,0,none⟩:YB)),b∉bl x.2.1) O (λo a h=>F9 (X1:=(Lp N,s)) (X2:=(T9 N,z)) a.size h.1.1.2 R9 h.2.strs (by simp[T9])) λg=>M<|tA O (λu h=>fH (X1:=(Lp N,s)) (X2:=(T9 N,z)) h.2.1 h.2.2 h.1.1.1.2 R9 h.1.2.strs (by simp[T9]))<|tb rE λx=>tm (k ((g,s,z),x)) O
 obtain⟨⟨g,s,y2⟩,x0⟩:=i;refine tM (ι:={p:(YZ)×List LR // p.2.map (·.1)=Ur N++Uc N}×(Nat->AV)) (λi c=>P5 rR i.2 (Ma 3 (.slice i.1.1.1.1 i.1.1.2.length i.1.1.1.2) (M1 XW 1000 1000 (Em false c)))) (λi u=>P6 w.heap.size i.1.1.1 i.1.1.2 u) (λk2=> ?_) (λi=> ?_)
 .by_cases hc:N.clip.length=0
  .exact X (decide ((N.clip.length:Int)>0)) false (YV J)<|tb rR λx=>tm (k2 (⟨((some ⟨g,0,none⟩,2),[(Lp N,s),(T9 N,y2)]),by unfold Uc;rw[YS hc];rfl⟩,x)) O
  .have hr:=Iq (x:=N.crule) (by unfold Ry at hcl;rw[V hc]at hcl;exact hcl);exact X (decide ((N.clip.length:Int)>0)) true (YU J)<|Z (λo a h=>PG hr.1 hr.2) λu1=>Z (λo a h=>Jl (c:=q.clc) (ve.cl.below a) hclip) λu2=>sO (Kw 53 3 #[(0,E [99,108,105,112]),(1,E (Ks M2 1 N.crule)),(2,E (Pb N.clip))]) (Kd 3) (λD u=>Km u (some ⟨D,0,none⟩) 3 [[99,108,105,112],Ks M2 1 N.crule,Pb N.clip]/\LZ (some ⟨D,0,none⟩) (some ⟨g,0,none⟩,2) [(Lp N,s),(T9 N,y2)]) O (λo a h=>Vl (cells:= #[E [99,108,105,112],E (Ks M2 1 N.crule),E (Pb N.clip)]) O rfl rfl h.1.1) λD=>M<|sO (Kw 95 1 #[(0,Rf ([[99,108,105,112],Ks M2 1 N.crule,Pb N.clip],(some ⟨D,0,none⟩,3)))]) (Kd 1) (Kr 53 #[Rf ([[99,108,105,112],Ks M2 1 N.crule,Pb N.clip],(some ⟨D,0,none⟩,3))]) O (λo a h=>Kb O) λuS=>H 9<|tl (L:=bl (some (⟨g,0,none⟩:YB))) (val:=λ(z:YZ)=> .slice z.1 (2+1) z.2) (Φ':=λ(z:YZ) u=>P6 w.heap.size z [(Lp N,s),(T9 N,y2),([[99,108,105,112],Ks M2 1 N.crule,Pb N.clip],(some ⟨D,0,none⟩,3))] u) (G:=λ(z:YZ) v=>Y v w.heap.size 53 1 z.1 (2+1) z.2 [Rf (Lp N,s),Rf (T9 N,y2),Rf ([[99,108,105,112],Ks M2 1 N.crule,Pb N.clip],(some ⟨D,0,none⟩,3))]/\∀x∈[((Lp N,s):LR),(T9 N,y2),([[99,108,105,112],Ks M2 1 N.crule,Pb N.clip],(some ⟨D,0,none⟩,3))],∀b∈bl z.1,b∉bl x.2.1) (Ln 95 95 (.slice (some ⟨g,0,none⟩) 2 2) (Kd 1 uS)) (λo a h=>Xu (y:=(some ⟨g,0,none⟩,2)) (L:=[(Lp N,s),(T9 N,y2)]) (uX:=([[99,108,105,112],Ks M2 1 N.crule,Pb N.clip],(some ⟨D,0,none⟩,3))) h.1.1.1.1 a.size h.1.2.1 Zs h.1.2.2 h.2 Zs) (λu h=>h.1.1.1.1.own.blk) (λz wa u e1 F h vf=>P6.left (L:=[(Lp N,s),(T9 N,y2)]) (uX:=([[99,108,105,112],Ks M2 1 N.crule,Pb N.clip],(some ⟨D,0,none⟩,3))) h.1.1.1.1 h.1.2.1 Zs h.1.2.2 F vf) O O λz=>M<|tb rR λx=>tm (k2 (⟨(z,[(Lp N,s),(T9 N,y2),([[99,108,105,112],Ks M2 1 N.crule,Pb N.clip],(some ⟨D,0,none⟩,3))]),by unfold Uc;rw[V hc];rfl⟩,x)) O
 obtain⟨⟨⟨y,L⟩,hL⟩,x1⟩:=i;refine sU (ι:={p:Nat×(YZ)×List LR // p.1<=N.fill.length/\p.2.2.map (·.1)=(Ur N++Uc N)++(N.fill.take p.1).map O2}) 80 (λp=>⟨[(1,.p 1 0),(3,.v (.slice p.1.2.1.1 p.1.2.2.length p.1.2.1.2)),(34,.v (.slice q.fiA N.fill.length q.fic)),(35,.v (I N.fill.length)),(36,.v (I p.1.1))],[(1,(Yb N q).map .v)]⟩) (λp u=>P6 w.heap.size p.1.2.1 p.1.2.2 u) (λp=>N.fill.length-p.1.1) (⟨(0,y,L),AJ _,by show L.map (·.1)=_;rw[show L.map (·.1)=Ur N++Uc N from hL];simp⟩) O (λ_=>O) zt (λu h=>h) ?_
 rintro⟨⟨k,y,L⟩,uU,r⟩ gg;have uU:k<=N.fill.length:=uU;have r:L.map (·.1)=(Ur N++Uc N)++(N.fill.take k).map O2:=r
 have hLn:L.length<=10:=by rw[Fa r];simp[Ur];omega
 by_cases C:k<N.fill.length
 case pos=>
  obtain⟨P,uR⟩:∃v,N.fill[k]? =some v:=⟨_,AA C⟩
  obtain⟨p,uT,uW⟩:=ve.fi.get uR;obtain⟨ad,hA,hc⟩:=ve.fi.row.2 k _ uT;have uZ:=AE uR;have vg:=hfv P uZ;have uY:=hf.fi P uZ;have hps:=Bx vg;have hpn:0<(Pz P).length:=RJ vg;have eF:1+(Pz P).length=(O2 P).length:=Nat.add_comm _ _;refine M<|X (decide ((k:Int)<(N.fill.length:Int))) true Zp<|ZA (Ki 64 (.slice q.fiA N.fill.length q.fic) k) (.pointer (some (ad.add (k*40)))) (λo a h=>Vm hA C)<|ZA (L4 49 (ad.add (k*40))) (.agg (dD (P,p)).toArray) (λo a h=>Yn λj v hj=>La a (hc j v hj))<|sO (Kw 53 1 #[(0,E [102,105,108,108])]) (Kd 1) (Kr 9 #[E [102,105,108,108]]) O (λo a h=>Kb O) λuS=>M<|ZD 4 (λo a h=>X6 (uW.below a) vg hK uY.1) λuV=>sO (Ln 53 53 (Kd 1 uS) (.slice uV.1 (Pz P).length uV.2)) (λz:YZ=> .slice z.1 (1+(Pz P).length) z.2) (λz v=>Y v w.heap.size 9 1 z.1 (1+(Pz P).length) z.2 (sv (O2 P))/\LZ z.1 y L) O (λo a h=>HA (p:=[[102,105,108,108]]) (l:=Pz P) h.1.1 h.1.2 rfl h.2 hpn J a.size) λz=>M<|sO (Kw 95 1 #[(0,.slice z.1 (1+(Pz P).length) z.2)]) (Kd 1) (Kr 53 #[.slice z.1 (1+(Pz P).length) z.2]) O (λo a h=>Kb O) λD=>H 6 ?_
  have W:∀v:YN,Y v w.heap.size 9 1 z.1 (1+(Pz P).length) z.2 (sv (O2 P))->Km v z.1 (O2 P).length (O2 P):=λv h=>by have t:=h.strs;rw[eF]at t;exact t
  have eX:CK z.1 (1+(Pz P).length) z.2=Rf (O2 P,z):=by rw[eF];rfl
  refine sY (L:=bl y.1) (val:=λ(f:YZ)=> .slice f.1 (L.length+1) f.2) (Φ':=λ(f:YZ) u=>P6 w.heap.size f (L++ [(O2 P,z)]) u) (G:=λ(f:YZ) v=>Y v w.heap.size 53 1 f.1 (L.length+1) f.2 (L.map Rf++ [Rf (O2 P,z)])/\∀x∈L++ [(O2 P,z)],∀b∈bl f.1,b∉bl x.2.1) (Ln 95 95 (.slice y.1 L.length y.2) (Kd 1 D)) (λo a h=>Xu (uX:=(O2 P,z)) h.1.1.1.1 a.size (W _ h.1.2.1) (by simp[O2]) h.1.2.2 (by rw[<-eX];exact h.2) J) (λu h=>h.1.1.1.1.own.blk) (λf wa u e1 F h vf=>P6.left h.1.1.1.1 (W _ h.1.2.1) (by simp[O2]) h.1.2.2 F vf) O O λf=>M<|sS 36 C J O<|sM 3 (.slice f.1 (L.length+1) f.2) (.slice f.1 (L++ [((O2 P,z):LR)]).length f.2) O (by rw[AH];rfl)<|sR (⟨(k+1,f,L++ [(O2 P,z)]),by show k+1<=N.fill.length;omega,by show(L++ [((O2 P,z):LR)]).map (·.1)=_;rw[AL,r,An O2 uR];simp⟩) O zo zt (λu h=>h)
 obtain rfl:k=N.fill.length:=J
 rw[BK]at r;refine M<|X (decide ((N.fill.length:Int)<(N.fill.length:Int))) false Zs<|sN O<|M<|sU (ι:={p:Nat×(YZ)×List LR // p.1<=N.stroke.length/\p.2.2.map (·.1)=((Ur N++Uc N)++N.fill.map O2)++(N.stroke.take p.1).map (L5 N.sty)}) 80 (λp=>⟨[(1,.p 1 0),(3,.v (.slice p.1.2.1.1 p.1.2.2.length p.1.2.1.2)),(49,.v (.slice q.stA N.stroke.length q.stc)),(50,.v (I N.stroke.length)),(51,.v (I p.1.1))],[(1,(Yb N q).map .v)]⟩) (λp u=>P6 w.heap.size p.1.2.1 p.1.2.2 u) (λp=>N.stroke.length-p.1.1) (⟨(0,y,L),AJ _,by show L.map (·.1)=_;rw[r];simp⟩) O (λ_=>O) zt (λu h=>h) ?_
 rintro⟨⟨k,y,L⟩,uU,r⟩ gg;have uU:k<=N.stroke.length:=uU;have r:L.map (·.1)=((Ur N++Uc N)++N.fill.map O2)++(N.stroke.take k).map (L5 N.sty):=r
 have hLn:L.length<=10:=by rw[Fa r];simp[Ur];omega
 by_cases C:k<N.stroke.length
 case pos=>
  obtain⟨P,uR⟩:∃v,N.stroke[k]? =some v:=⟨_,AA C⟩
  obtain⟨p,uT,uW⟩:=ve.st.get uR;obtain⟨ad,hA,hc⟩:=ve.st.row.2 k _ uT;have uZ:=AE uR;have vg:=hsv P uZ;have uY:=hf.st P uZ;have hS:=hsty J;have hps:=Bx vg;have hpn:0<(Pz P).length:=RJ vg;have hd16:=(Jd (GT hS).2.2.2.2.2).2;have eF:1+(6+N.sty.d.length)+(Pz P).length=(L5 N.sty P).length:=by unfold L5;rw[AI,AH,SU];omega
  refine M<|X (decide ((k:Int)<(N.stroke.length:Int))) true Zp<|ZA (Ki 64 (.slice q.stA N.stroke.length q.stc) k) (.pointer (some (ad.add (k*40)))) (λo a h=>Vm hA C)<|ZA (L4 49 (ad.add (k*40))) (.agg (dD (P,p)).toArray) (λo a h=>Yn λj v hj=>La a (hc j v hj))<|tR (i:=1) (j:=4) O ?_ ?_
  .refine Py.make (i:=1) (Kw 53 1 #[(0,E [115,116,114,111,107,101])]) (Kd 1) (Kr 9 #[E [115,116,114,111,107,101]]) O (λo a h=>Kb O) λuS=>M<|ZD 5 (λo a h=>LV (y:=(q.daA,q.dac)) (ve.da.below a) hS) λpy=>sO (Ln 53 53 (Kd 1 uS) (.slice py.1 (6+N.sty.d.length) py.2)) (λz:YZ=> .slice z.1 (1+(6+N.sty.d.length)) z.2) (λz v=>Y v w.heap.size 9 1 z.1 (1+(6+N.sty.d.length)) z.2 (sv ([[115,116,114,111,107,101]]++Ft N.sty))/\LZ z.1 y L) O (λo a h=>HA (p:=[[115,116,114,111,107,101]]) (l:=Ft N.sty) h.1.1 h.1.2 rfl h.2 J J a.size) λz=>M<|ZD 8 (λo a h=>X6 (uW.below a) vg hK uY.1) λuV=>tz (L:=bl z.1) (val:=λ(m:YZ)=> .slice m.1 (1+(6+N.sty.d.length)+(Pz P).length) m.2) (Φ':=λ(m:YZ) u=>P6 w.heap.size y L u/\Y u w.heap.size 9 1 m.1 (1+(6+N.sty.d.length)+(Pz P).length) m.2 (sv (([[115,116,114,111,107,101]]++Ft N.sty)++Pz P))/\LZ m.1 y L) (G:=λ(m:YZ) v=>Y v w.heap.size 9 1 m.1 (1+(6+N.sty.d.length)+(Pz P).length) m.2 (sv (([[115,116,114,111,107,101]]++Ft N.sty)++Pz P))/\LZ m.1 y L) (Ln 53 53 (.slice z.1 (1+(6+N.sty.d.length)) z.2) (.slice uV.1 (Pz P).length uV.2)) (λo a h=>Ml h.1.1.1.1 h.1.2.1 a.size h.2 J h.1.2.2) (λu h=>h.1.2.1.blk) (λm wa u e1 F h vf=>⟨P6.stay h.1.1.1.1 F h.1.2.2,vf⟩) O O λm=>M<|sO (Kw 95 1 #[(0,.slice m.1 (1+(6+N.sty.d.length)+(Pz P).length) m.2)]) (Kd 1) (Kr 53 #[.slice m.1 (1+(6+N.sty.d.length)+(Pz P).length) m.2]) O (λo a h=>Kb O) λD=>H 10 ?_
   have W:∀v:YN,Y v w.heap.size 9 1 m.1 (1+(6+N.sty.d.length)+(Pz P).length) m.2 (sv (([[115,116,114,111,107,101]]++Ft N.sty)++Pz P))->Km v m.1 (L5 N.sty P).length (L5 N.sty P):=λv h=>by have t:=h.strs;rw[eF]at t;exact t
   have eX:CK m.1 (1+(6+N.sty.d.length)+(Pz P).length) m.2=Rf (L5 N.sty P,m):=by rw[eF];rfl
   refine tl (L:=bl y.1) (val:=λ(f:YZ)=> .slice f.1 (L.length+1) f.2) (Φ':=λ(f:YZ) u=>P6 w.heap.size f (L++ [(L5 N.sty P,m)]) u) (G:=λ(f:YZ) v=>Y v w.heap.size 53 1 f.1 (L.length+1) f.2 (L.map Rf++ [Rf (L5 N.sty P,m)])/\∀x∈L++ [(L5 N.sty P,m)],∀b∈bl f.1,b∉bl x.2.1) (Ln 95 95 (.slice y.1 L.length y.2) (Kd 1 D)) (λo a h=>Xu (uX:=(L5 N.sty P,m)) h.1.1 a.size (W _ h.1.2.1) (by simp[L5]) h.1.2.2 (by rw[<-eX];exact h.2) J) (λu h=>h.1.1.own.blk) (λf wa u e1 F h vf=>P6.left h.1.1 (W _ h.1.2.1) (by simp[L5]) h.1.2.2 F vf) O O λf=>M<|sS 51 C J O<|sM 3 (.slice f.1 (L.length+1) f.2) (.slice f.1 (L++ [((L5 N.sty P,m):LR)]).length f.2) O (by rw[AH];rfl)<|sR (⟨(k+1,f,L++ [(L5 N.sty P,m)]),by show k+1<=N.stroke.length;omega,by show(L++ [((L5 N.sty P,m):LR)]).map (·.1)=_;rw[AL,r,An (L5 N.sty) uR];simp⟩) O zo zt (λu h=>h)
  .refine tD (i:=4) (λo a h=>LV (y:=(q.daA,q.dac)) (ve.da.below a) hS) O λpy=>H 1<|sO (Kw 53 1 #[(0,E [115,116,114,111,107,101])]) (Kd 1) (Kr 9 #[E [115,116,114,111,107,101]]) O (λo a h=>Kb O) λuS=>H 5<|sO (Ln 53 53 (Kd 1 uS) (.slice py.1 (6+N.sty.d.length) py.2)) (λz:YZ=> .slice z.1 (1+(6+N.sty.d.length)) z.2) (λz v=>Y v w.heap.size 9 1 z.1 (1+(6+N.sty.d.length)) z.2 (sv ([[115,116,114,111,107,101]]++Ft N.sty))/\LZ z.1 y L) O (λo a h=>HA (p:=[[115,116,114,111,107,101]]) (l:=Ft N.sty) h.1.1 h.2 rfl h.1.2 J J a.size) λz=>M<|ZD 8 (λo a h=>X6 (uW.below a) vg hK uY.1) λuV=>tz (L:=bl z.1) (val:=λ(m:YZ)=> .slice m.1 (1+(6+N.sty.d.length)+(Pz P).length) m.2) (Φ':=λ(m:YZ) u=>P6 w.heap.size y L u/\Y u w.heap.size 9 1 m.1 (1+(6+N.sty.d.length)+(Pz P).length) m.2 (sv (([[115,116,114,111,107,101]]++Ft N.sty)++Pz P))/\LZ m.1 y L) (G:=λ(m:YZ) v=>Y v w.heap.size 9 1 m.1 (1+(6+N.sty.d.length)+(Pz P).length) m.2 (sv (([[115,116,114,111,107,101]]++Ft N.sty)++Pz P))/\LZ m.1 y L) (Ln 53 53 (.slice z.1 (1+(6+N.sty.d.length)) z.2) (.slice uV.1 (Pz P).length uV.2)) (λo a h=>Ml h.1.1.1.1 h.1.2.1 a.size h.2 J h.1.2.2) (λu h=>h.1.2.1.blk) (λm wa u e1 F h vf=>⟨P6.stay h.1.1.1.1 F h.1.2.2,vf⟩) O O λm=>M<|sO (Kw 95 1 #[(0,.slice m.1 (1+(6+N.sty.d.length)+(Pz P).length) m.2)]) (Kd 1) (Kr 53 #[.slice m.1 (1+(6+N.sty.d.length)+(Pz P).length) m.2]) O (λo a h=>Kb O) λD=>H 10 ?_
   have W:∀v:YN,Y v w.heap.size 9 1 m.1 (1+(6+N.sty.d.length)+(Pz P).length) m.2 (sv (([[115,116,114,111,107,101]]++Ft N.sty)++Pz P))->Km v m.1 (L5 N.sty P).length (L5 N.sty P):=λv h=>by have t:=h.strs;rw[eF]at t;exact t
   have eX:CK m.1 (1+(6+N.sty.d.length)+(Pz P).length) m.2=Rf (L5 N.sty P,m):=by rw[eF];rfl
   refine tl (L:=bl y.1) (val:=λ(f:YZ)=> .slice f.1 (L.length+1) f.2) (Φ':=λ(f:YZ) u=>P6 w.heap.size f (L++ [(L5 N.sty P,m)]) u) (G:=λ(f:YZ) v=>Y v w.heap.size 53 1 f.1 (L.length+1) f.2 (L.map Rf++ [Rf (L5 N.sty P,m)])/\∀x∈L++ [(L5 N.sty P,m)],∀b∈bl f.1,b∉bl x.2.1) (Ln 95 95 (.slice y.1 L.length y.2) (Kd 1 D)) (λo a h=>Xu (uX:=(L5 N.sty P,m)) h.1.1 a.size (W _ h.1.2.1) (by simp[L5]) h.1.2.2 (by rw[<-eX];exact h.2) J) (λu h=>h.1.1.own.blk) (λf wa u e1 F h vf=>P6.left h.1.1 (W _ h.1.2.1) (by simp[L5]) h.1.2.2 F vf) O O λf=>M<|sS 51 C J O<|sM 3 (.slice f.1 (L.length+1) f.2) (.slice f.1 (L++ [((L5 N.sty P,m):LR)]).length f.2) O (by rw[AH];rfl)<|sR (⟨(k+1,f,L++ [(L5 N.sty P,m)]),by show k+1<=N.stroke.length;omega,by show(L++ [((L5 N.sty P,m):LR)]).map (·.1)=_;rw[AL,r,An (L5 N.sty) uR];simp⟩) O zo zt (λu h=>h)
 obtain rfl:k=N.stroke.length:=J
 rw[BK]at r;refine M<|X (decide ((N.stroke.length:Int)<(N.stroke.length:Int))) false Zs<|sN O<|M ?_
 have Q:L.map (·.1)=Ui N:=by rw[r,Ll]
 have hLl:=Fa Q;have hL0:0<L.length:=by rw[hLl];simp[Ui]
 refine s7 (p:=∃g:Nat,y.1=some ⟨g,0,none⟩) (λo a h=>by obtain⟨g,e,_⟩:=(show P6 w.heap.size y L o from h).own.cells hL0;exact⟨g,e⟩) O (λhg=> ?_);obtain⟨g1,hg⟩:=hg;refine sU (ι:={p:Nat×(YZ) // p.1<=L.length}) 80 (λp=>⟨[(8,.v (.slice p.1.2.1 p.1.1 p.1.2.2)),(67,.v (.slice y.1 L.length y.2)),(68,.v (I L.length)),(69,.v (I p.1.1))],[]⟩) (λp u=>P6 w.heap.size y L u/\Y u w.heap.size 9 1 p.1.2.1 p.1.1 p.1.2.2 (sv ((L.take p.1.1).map λx=>M7 x.1))/\LZ p.1.2.1 y L) (λp=>L.length-p.1.1) (⟨(0,(none,0)),AJ _⟩) O (λ_=>O) zt (λu h=>⟨h,s_,λb hb=>by cases hb⟩) ?_;rintro⟨⟨k,z⟩,uU⟩ gg;have uU:k<=L.length:=uU
 by_cases C:k<L.length
 case pos=>
  obtain⟨uX,uR⟩:∃v,L[k]? =some v:=⟨_,AA C⟩
  have hXm:=AE uR;have hXs:=hsm uX.1 (by rw[<-Q];exact List.mem_map_of_mem hXm);refine M<|X (decide ((k:Int)<(L.length:Int))) true Zp<|ZA (Ki 95 (.slice y.1 L.length y.2) k) (.pointer (some ((⟨g1,0,none⟩:YB).add k))) (λo a h=>by rw[hg];exact Kg (elem:=53) O O C)<|ZA (L4 53 ((⟨g1,0,none⟩:YB).add k)) (Rf uX) (λo a h=>K9 O (by obtain⟨g2,F,h2⟩:=h.1.own.cells hL0;rw[hg]at F;cases F;rw[Addr.add_mid,BZ];exact h2 k _ (by rw[BI,uR];rfl))) ?_
  refine Z (λo a h=>C5 (c:=uX.2.2) (h.1.str uX hXm) hXs.1 hXs.2) λv=>sO (Kw 53 1 #[(0,E (M7 uX.1))]) (Kd 1) (Kr 9 #[E (M7 uX.1)]) O (λo a h=>Kb O) λD=>H 4<|sY (L:=bl z.1) (val:=λ(f:YZ)=> .slice f.1 (k+1) f.2) (Φ':=λ(f:YZ) u=>P6 w.heap.size y L u/\Y u w.heap.size 9 1 f.1 (k+1) f.2 (sv ((L.take (k+1)).map λx=>M7 x.1))/\LZ f.1 y L) (G:=λ(f:YZ) v=>Y v w.heap.size 9 1 f.1 (k+1) f.2 (sv ((L.take (k+1)).map λx=>M7 x.1))/\LZ f.1 y L) (Ln 53 53 (.slice z.1 k z.2) (Kd 1 D)) (λo a h=>by rw[An (λx:LR=>M7 x.1) uR];exact Ml (n:=1) (cc:=1) (l:=[M7 uX.1]) h.1.1.1 h.1.1.2.1 a.size (Lh (L:=[M7 uX.1]) h.2 rfl) (show k+1<=1000000 by omega) h.1.1.2.2) (λu h=>h.1.1.2.1.blk) (λf wa u e1 F h vf=>⟨P6.stay h.1.1.1 F h.1.1.2.2,vf⟩) O O λf=>M<|sS 69 C J O<|sR (⟨(k+1,f),by show k+1<=L.length;omega⟩) O zo zt (λu h=>h)
 obtain rfl:k=L.length:=J
 refine M<|X (decide ((L.length:Int)<(L.length:Int))) false Zs<|sN O<|M<|ZV (.slice z.1 L.length z.2) (λo a h=>⟨z,by rw[hLl],a,λw'' k1 k2=>by have t:=(show P6 w.heap.size y L w''/\Y w'' w.heap.size 9 1 z.1 L.length z.2 (sv ((L.take L.length).map λx=>M7 x.1))/\LZ z.1 y L from h w'' k1 k2).2.1.strs;rw[BK,hLl]at t;rw[<-Q,CR];rw[Q];exact t⟩)
end
end
section
variable{N:Nd}{S:Sc}{ws:WS}{P:Pn}
structure pJ(N:Nd):Prop where
 im:N.im.px.length<=1000
 fi:∀P∈N.fill,P.im.px.length<=1000
 st:∀P∈N.stroke,P.im.px.length<=1000
theorem Ak{l:WS}{f k:Int}(h:∀x∈l,x.length<=10):(Ks l f k).length<=10:=by
 unfold Ks;cases e:l[(k-f).toNat]? with
 |none=>simp
 |some x=>exact h x (AE e)
theorem cL{l:List Sg}(h:Ru l=true):(Pb l).length<=40448:=by
 obtain⟨a,b⟩:=EW h;have:=IR a;omega
theorem T6{x:Int}(h: -9223372036854775808<=x/\x<=9223372036854775807):(K8 x).length<=21:=U6 h
theorem Gp{α:Type}{f:α->R}{n:Nat}:∀{l:List α},(∀x∈l,(f x).length<=n)->Nm (l.map f)<=n*l.length
 | [],_=>AJ _
 |x::l,h=>by
  have b:=h x Zs;have c:=Gp (l:=l) λy a=>h y (CG _ a)
  simp only[CH,Nm,AI,Nat.mul_succ];omega
theorem mz{T:Fo}(h:R8 T=true):Nm (Ft T)<=500/\(Ft T).length<=22:=by
 obtain⟨D,r,t,y,A,b⟩:=GT h;obtain⟨a,u⟩:=Jd b;have o:=T6 (x:=T.w) J;have g:=T6 (x:=T.m) J;have C:=T6 (x:=T.p) J;have s:=T6 (x:=(T.d.length:Int)) J;have vg:=Ak (l:=Ri) (f:=1) (k:=T.j) Zd;have B:=Ak (l:=Ud) (f:=3) (k:=T.c) Zd;have v:=Gp (f:=K8) (n:=21) (l:=T.d) λz e=>T6 (by have:=a z e;omega)
 refine⟨?_,by rw[SU];omega⟩;rw[QR,R7];simp only[RL,Nm];omega
theorem oB{m:Im}(h:Ay m=true)(g:m.px.length<=1000):Nm (E5 m)<=8100/\(E5 m).length=3:=by
 obtain⟨a,b⟩:=bV h;have f:=T6 a;have e:=T6 b;have c:=VZ m.px;refine⟨?_,rfl⟩;simp only[E5,Nm];omega
theorem Aq(y:Mb N=true)(u:pJ N):(∀ws∈Ui N,Nm ws<=50000/\ws.length<=100)/\(Ui N).length<=5:=by
 obtain⟨ve,vg,w,s,e,D,_,c⟩:=Aj y;obtain⟨C,v,t,o⟩:=Wr y;have B:=EP (N:=N);refine⟨λws a=> ?_,by rw[Ll];simp[Ur];omega⟩;rw[Ll]at a;have q1:=T6 (x:=N.id) J;have K:=T6 (x:=N.dep) J;have vf:=T6 (x:=(N.op.toNat:Int)) (by have:=bz N.op;omega);rcases AX.1 a with a|a;rcases AX.1 a with a|a;rcases AX.1 a with a|a
 .simp only[Ur,BG,List.not_mem_nil,or_false]at a;rcases a with rfl|rfl
  .unfold R_ at c;unfold Lp
   by_cases m:N.kind=1
   .rw[YS m];have r:=Ak (l:=Lr) (f:=1) (k:=N.bl) Zd;have p:∀b:Bool,(Ej b).length<=1:=λb=>by cases b<;>decide
    have A:=p N.iso;have G:=p N.ko;simp only[Nm,AI,BB];omega
   rw[V m]at c ⊢
   by_cases j:N.kind=2
   .rw[YS j]at c ⊢;unfold Z8 at c;simp only[AD]at c;have r:=Ak (l:=M2) (f:=1) (k:=N.frule) Zd;have p:=cL c.1;simp only[Nm,AI,BB];omega
   rw[V j,AD]at c;rw[V j];have r:=Ak (l:=Ng) (f:=1) (k:=N.samp) Zd;obtain⟨p,A⟩:=oB c.1 u.im;rw[R7,AH,A];simp only[Nm,AI,BB];omega
  .obtain⟨m,j⟩:=UB s;unfold T9;simp only[Nm,AI,BB];omega
 .unfold Uc at a;split at a
  .cases a
  .obtain rfl:ws=_:=by simpa using a
   have r:=Ak (l:=M2) (f:=1) (k:=N.crule) Zd;have p:=cL e;simp only[Nm,AI,BB];omega
 .obtain⟨P,g,rfl⟩:=CI.1 a;obtain⟨m,j⟩:=Bx (v P g);have F:=u.fi P g;unfold O2;simp only[Nm,AI,BB];omega
 .obtain⟨P,g,rfl⟩:=CI.1 a;obtain⟨m,j⟩:=Bx (t P g);have F:=u.st P g;obtain⟨uS,r⟩:=mz (o λh=>by rw[BO]at h;rw[h]at g;cases g);unfold L5;simp only[Nm,AI,BB,R7,AH];omega
theorem m0(c:Mb N=true)(a:pJ N):∀ws∈Ui N,ws.length<=2000000/\Nm ws<=2000000:=λws b=>by have:=(Aq c a).1 ws b;omega
theorem oa(e:Mb N=true)(a:pJ N):Nm ((Ui N).map M7)<=800000:=by
 obtain⟨b,g⟩:=Aq e a;have:=Gp (f:=M7) (n:=150200) (l:=Ui N) λws c=>by have:=Xh ws;have:=b ws c;omega
 omega
theorem nI(h:FI S=false):(Vz S).length=4/\Nm (Vz S)<=100:=by
 unfold FI at h;simp only[BA,decide_eq_false_iff_not]at h;have q1:=T6 (x:=S.w) J;have b:=T6 (x:=S.h) J;have a:(P9 S.bg).length=9:=by unfold P9;rw[AI,Qe];rfl
 refine⟨rfl,?_⟩;unfold Vz;simp only[Nm,AI,BB];omega
def Zh(S:Sc)(k:Nat):List R:=M7 (Vz S)::(S.nds.take k).flatMap λN=>(Ui N).map M7
theorem Ij:Zh S S.nds.length=r9 S:=by unfold Zh r9;rw[BK]
theorem Ii{k:Nat}(a:S.nds[k]? =some N):Zh S (k+1)=Zh S k++(Ui N).map M7:=by
 unfold Zh;rw[Ve a];simp
def iM(S:Sc):Prop:=∀N∈S.nds,Mb N=true/\pJ N
theorem GP(h:iM S):∀{k:Nat},k<=S.nds.length->(Zh S k).length<=1+5*k/\Nm (Zh S k)<=(M7 (Vz S)).length+800000*k
 |0,_=>by unfold Zh;simp[Nm]
 |k+1,e=>by
  obtain⟨N,b⟩:∃v,S.nds[k]? =some v:=⟨_,AA (show k<S.nds.length by omega)⟩
  obtain⟨c,a⟩:=h N (AE b);obtain⟨f,l⟩:=GP h (k:=k) J;have g:=(Aq c a).2;have j:=oa c a;rw[Ii b,AH,BN,R7];omega
theorem lj{l:List Nd}:∀{pre:List Nd},Cs pre l=true->∀uR∈l,Mb uR=true:=by
 induction l with
 |nil=>exact λ_ uR a=>by cases a
 |cons x r c=>
  intro pre h uR a;have b:=Bool.and_eq_true_iff.1 (show(Mb x&&(!decide (x.id∈pre.map (·.id))&&(!decide (x.dep>XR pre)&&Cs (pre++ [x]) r)))=true from h)
  rcases BG.1 a with rfl|a
  .exact b.1
  .exact c (Bool.and_eq_true_iff.1 (Bool.and_eq_true_iff.1 b.2).2).2 uR a
theorem A0(h:A8 S=true):FI S=false/\S.nds.length<=64/\∀N∈S.nds,Mb N=true:=by
 unfold A8 at h;simp only[AD,AW,decide_eq_false_iff_not]at h;exact⟨h.1,by omega,lj h.2.2⟩
end
section
--ATNAMES
section
variable{w:YN}{B:Bool}{K n c:Nat}{S:Sc}{y:YZ}{nl:List (Nd×ND)}
theorem fM(f:ET w)(e:Vs w y.1 nl K S.nds)(g:gw S.nds)(k:2<=K/\K<=1000)(b:A8 S=false):Zv 8 #[W3 S y] w (.tuple #[E [],I 18]):=sL func8 rfl<|M<|Z (λj a h=>UF (y:=y) (f.below a) (e.below a) g J b) λu=>ZI true<|ZW (.tuple #[E [],I 18])
def TW(S:Sc):YM:=if (Ju S).length<=65536 then .tuple #[E (Ju S),I 0]else .tuple #[E [],I 5]
theorem He(hE:ET w)(ve:Vs w y.1 nl K S.nds)(P:gw S.nds)(hs:∀N∈S.nds,pJ N)(hn:S.nds.length<=64)(hK:2<=K/\K<=1000)(uY:A8 S=true):Zv 8 #[W3 S y] w (TW S):=by
 obtain⟨uS,_,uW⟩:=A0 uY;have f:iM S:=λN Q=>⟨uW N Q,hs N Q⟩
 obtain⟨j1,j2⟩:=nI uS;have j3:=Xh (Vz S);have l:(-9223372036854775808<=S.w/\S.w<=9223372036854775807)/\(-9223372036854775808<=S.h/\S.h<=9223372036854775807):=by
  unfold FI at uS;simp only[BA,decide_eq_false_iff_not]at uS;omega
 have x:=GP f (k:=S.nds.length) (AK _);rw[Ij]at x;refine sL func8 rfl<|M<|Z (λe a h=>UF (y:=y) (hE.below a) (ve.below a) P J uY) λu=>ZI false<|Z (λe a h=>L9 (n:=S.w) l.1.1 l.1.2) λu0=>Z (λe a h=>L9 (n:=S.h) l.2.1 l.2.2) λu1=>Z (λe a h=>Ja (k:=S.bg)) λu2=>sO (Kw 53 4 #[(0,E [115,99,101,110,101]),(1,E (K8 S.w)),(2,E (K8 S.h)),(3,E (P9 S.bg))]) (Kd 4) (Kr 9 #[E [115,99,101,110,101],E (K8 S.w),E (K8 S.h),E (P9 S.bg)]) O (λe a h=>Kb O) λuV=>M<|Z (λe a h=>C5 (A:=some ⟨uV,0,none⟩) (n:=4) (c:=4) (ls:=Vz S) (Lh (L:=Vz S) h.2 rfl) J J) λu3=>sO (Kw 53 1 #[(0,E (M7 (Vz S)))]) (Kd 1) (λg u=>Y u w.heap.size 9 1 (some ⟨g,0,none⟩) 1 1 (sv (Zh S 0))) O (λe a h=>S7 (cells:= #[E (M7 (Vz S))]) O a.size rfl Zd) λT=>M<|sU (ι:={p:Nat×(YZ) // p.1<=S.nds.length}) 41 (λp=>⟨[(4,.v (.slice p.1.2.1 (Zh S p.1.1).length p.1.2.2)),(24,.v (.slice y.1 S.nds.length y.2)),(25,.v (I S.nds.length)),(26,.v (I p.1.1))],[]⟩) (λp u=>Y u w.heap.size 9 1 p.1.2.1 (Zh S p.1.1).length p.1.2.2 (sv (Zh S p.1.1))) (λp=>S.nds.length-p.1.1) (⟨(0,(some ⟨T,0,none⟩,1)),AJ _⟩) O (λ_=>O) zt (λu h=>h.2) ?_
 rintro⟨⟨k,z⟩,uZ⟩ gg;have uZ:k<=S.nds.length:=uZ
 by_cases s:k<S.nds.length
 case pos=>
  obtain⟨N,F⟩:∃v,S.nds[k]? =some v:=⟨_,AA s⟩
  obtain⟨q,vf,uR⟩:=ve.get F;obtain⟨ad,hA,uX⟩:=ve.row.2 k _ vf;have D:=AE F;obtain⟨o,vg⟩:=f N D;have hkl:=(GP f (k:=k) uZ).1;have uU:=(Aq o vg).2;refine M<|X (decide ((k:Int)<(S.nds.length:Int))) true Zp<|ZA (Ki 25 (.slice y.1 S.nds.length y.2) k) (.pointer (some (ad.add (k*47)))) (λe a h=>Nb hA s)<|ZA (L4 69 (ad.add (k*47))) (Ya N q) (λe a h=>Xt λj v W=>La a (uX j v W))<|ZD 3 (λe a h=>lG (uR.below a) (P N D) o hK (m0 o vg)) λr=>sY (L:=bl z.1) (val:=λ(b:YZ)=> .slice b.1 ((Zh S k).length+(Ui N).length) b.2) (Φ':=λ(b:YZ) u=>Y u w.heap.size 9 1 b.1 ((Zh S k).length+(Ui N).length) b.2 (sv (Zh S k++(Ui N).map M7))) (G:=λ(b:YZ) u=>Y u w.heap.size 9 1 b.1 ((Zh S k).length+(Ui N).length) b.2 (sv (Zh S k++(Ui N).map M7))) (Ln 53 53 (.slice z.1 (Zh S k).length z.2) (.slice r.1 (Ui N).length r.2)) (λe a h=>O7 (m:=(Zh S k).length) h.1 a.size h.2 J) (λu h=>h.1.blk) (λ_ wa u e1 e2 h uT=>uT) O O λb=>M<|sS 26 s J O<|sM 4 (.slice b.1 ((Zh S k).length+(Ui N).length) b.2) (.slice b.1 (Zh S (k+1)).length b.2) O (by rw[Ii F,AH,BN])<|sR (⟨(k+1,b),by show k+1<=S.nds.length;omega⟩) O zo zt (λu h=>by show Y u w.heap.size 9 1 b.1 (Zh S (k+1)).length b.2 (sv (Zh S (k+1)));rw[Ii F,AH,BN];exact h)
 obtain rfl:k=S.nds.length:=J
 refine M<|X (decide ((S.nds.length:Int)<(S.nds.length:Int))) false Zs<|sN O<|M<|tf (λe a h=>by have t:=WA (w:=e) (A:=z.1) (n:=(Zh S S.nds.length).length) (c:=z.2) (ls:=Zh S S.nds.length) (show Y e w.heap.size 9 1 z.1 (Zh S S.nds.length).length z.2 (sv (Zh S S.nds.length))from h).strs (by rw[Ij];omega) (by rw[Ij];omega);exact t) O (λt=> ?_)
 have eT:N0 (Zh S S.nds.length)=Ju S:=by rw[Ij];rfl
 rw[eT];refine M ?_;unfold TW
 by_cases C:(Ju S).length<=65536
 .rw[YS C];exact X (decide (((Ju S).length:Int)>65536)) false (YV J)<|ZW (.tuple #[E (Ju S),I 0])
 .rw[V C];exact X (decide (((Ju S).length:Int)>65536)) true (YU J)<|ZW (.tuple #[E [],I 5])
end
end
def Lx:R:=[115,99,101,110,101]
def Y1:R:=[103,114,111,117,112]
def Xq:R:=[115,104,97,112,101]
def Zc:R:=[105,109,97,103,101]
def My:R:=[116,114,97,110,115,102,111,114,109]
def Oy:R:=[99,108,105,112]
def Qw:R:=[102,105,108,108]
def O8:R:=[115,116,114,111,107,101]
def rr:Fo:=⟨0,0,0,0,[],0⟩
def Cv:Nd:=⟨0,0,0,Pc,[],0,0,0,false,false,[],0,[],rr,[],Yf,0⟩
def Tc(f:Bool):WS->Option (List Sg×WS×Bool)
 | []=>none
 |s::r=>if (Mq s).2.2=0 then some ((Mq s).1,r,f)else if (Mq s).2.2=6 then some ([],r,true)else none
def Cp(f:Bool):WS->Option (Bool×WS×Bool)
 | []=>none
 |s::r=>if s=[48]then some (false,r,f)else if s=[49]then some (true,r,f)else none
def e_(f:Bool):WS->Option (Int×WS×Bool)
 | []=>none
 |s::r=>(Cl s Lr).map λ(k:Nat)=>(1+(k:Int),r,f)
def Dp:Nat->Bool->WS->Option (List Int×WS×Bool)
 |0,f,ws=>some ([],ws,f)
 |n+1,f,ws=>(Do f ws).bind λx=>(Dp n x.2.2 x.2.1).map λl=>(x.1::l.1,l.2.1,l.2.2)
def iI(f:Bool):WS->Option (List Int×WS×Bool)
 | []=>none
 |s::r=>if Pw s≠0\/O1 s<0\/O1 s>(r.length:Int)then none else Dp (O1 s).toNat f r
def Xw(f:Bool)(ws:WS):Option (Fo×WS×Bool):=
 (Do f ws).bind λw=>(Bm Ri 1 w.2.2 w.2.1).bind λj=>(Bm Ud 3 j.2.2 j.2.1).bind λc=>(Do c.2.2 c.2.1).bind λm=>(Do m.2.2 m.2.1).bind λp=>(iI p.2.2 p.2.1).map λd=>
  (⟨w.1,j.1,c.1,m.1,d.1,p.1⟩,d.2.1,d.2.2)
def Nz(k:Int)(f:Bool)(ws:WS):Option (Nd×WS×Bool):=
 (Do f ws).bind λi=>(Do i.2.2 i.2.1).bind λd=>
  if k=1 then(SR 0 255 d.2.2 d.2.1).bind λo=>(e_ o.2.2.2 o.2.2.1).bind λm=>(Cp m.2.2 m.2.1).bind λa=>(Cp a.2.2 a.2.1).map λb=>
   ({Cv with id:=i.1,kind:=1,dep:=d.1,op:=AN o.1.toNat,bl:=m.1,iso:=a.1,ko:=b.1},b.2.1,b.2.2)
  else if k=2 then(Bm M2 1 d.2.2 d.2.1).bind λu=>(Tc u.2.2 u.2.1).map λp=>
   ({Cv with id:=i.1,kind:=2,dep:=d.1,frule:=u.1,path:=p.1},p.2.1,p.2.2)
  else(Bm Ng 1 d.2.2 d.2.1).bind λu=>(Yd u.2.2 u.2.1).map λm=>
   ({Cv with id:=i.1,kind:=3,dep:=d.1,samp:=u.1,im:=m.1},m.2.1,m.2.2)
structure TS where
 w:Int
 h:Int
 bg:Co
 nds:List Nd
 wh:Int
 ln:Nat
 far:Int
def SN:TS:=⟨0,0,Ss,[],0,0,-1⟩
def R0(l:List Nd)(N:Nd):List Nd:=l.dropLast++ [N]
def Ly(k:R):Int:=if k=Y1 then 1 else if k=Xq then 2 else if k=Zc then 3 else 0
def Sp(S:TS)(N:Nd)(k:R)(ws:WS):Option (TS×WS×Bool):=
 if k=My then(if S.wh=1 then(Jv false ws).map λt=>({S with nds:=R0 S.nds {N with T:=t.1},wh:=2},t.2.1,t.2.2)else none)
 else if k=Oy then(if S.wh=2 then(Bm M2 1 false ws).bind λu=>(Tc u.2.2 u.2.1).map λp=>({S with nds:=R0 S.nds {N with crule:=u.1,clip:=p.1},wh:=3},p.2.1,p.2.2)else none)
 else if k=Qw then(if N.kind=2/\2<=S.wh/\S.wh<4 then(Fs false ws).map λp=>({S with nds:=R0 S.nds {N with fill:=[p.1]},wh:=4},[],p.2)else none)
 else if k=O8 then(if N.kind=2/\2<=S.wh/\S.wh<5 then(Xw false ws).bind λs=>(Fs s.2.2 s.2.1).map λp=>({S with nds:=R0 S.nds {N with sty:=s.1,stroke:=[p.1]},wh:=5},[],p.2)else none)
 else none
def Tu(S:TS)(k:R)(ws:WS):Option (TS×WS×Bool):=
 if k=Lx then(if S.ln=0 then(Do false ws).bind λw=>(Do w.2.2 w.2.1).bind λh=>(XQ h.2.2 h.2.1).map λc=>({S with w:=w.1,h:=h.1,bg:=c.1,wh:=0},c.2.1,c.2.2)else none)
 else if Ly k≠0 then(if S.wh≠1/\0<S.ln then(Nz (Ly k) false ws).map λn=>({S with nds:=S.nds++ [n.1],wh:=1},n.2.1,n.2.2)else none)
 else match S.nds.getLast? with
  |none=>none
  |some N=>Sp S N k ws
def Hg(x:TS×WS×Bool):Option TS:=if x.2.1=[]then some (if x.2.2=true/\x.1.far<0 then{x.1 with far:=x.1.ln}else x.1)else none
def Vv(S:TS)(l:R):Option TS:=if Rq (Kt l)=true then(match Al (Kt l)with
 | []=>none
 |k::ws=>(Tu S k ws).bind Hg)else none
def Sk(S:TS)(i:Nat):List R->Nat ⊕ TS
 | []=>if S.wh=1 then .inl i else .inr {S with ln:=i}
 |l::r=>match Vv {S with ln:=i} l with
  |none=> .inl i
  |some S'=>Sk S' (i+1) r
def TS.sc(S:TS):Sc:=⟨S.w,S.h,S.bg,S.nds⟩
def Gs:Sc:=⟨0,0,Ss,[]⟩
def Nf(s:R):Sc×Nat×Int:=
 if 65536<s.length then(Gs,0,5)else if s.getLast? ≠some 10 then(Gs,0,3)else match Sk SN 0 (Lu s)with
  | .inl i=>(Gs,i,3)
  | .inr S=>if 0<=S.far then(Gs,S.far.toNat,6)else if A8 S.sc=true/\Ju S.sc=s then(S.sc,0,0)else(Gs,(Lu s).length,18)
structure Lz(S:Nat->Prop)(G:YW)(u:YN):Prop where
 lt:∀b,S b->b<u.heap.size
 ok:∀v,u.heap.size<=v.heap.size->(∀b,S b->v.heap[b]? =u.heap[b]?)->G v
section
variable{S S2:Nat->Prop}{G G2:YW}{u v w w':YN}{uX:Type}{val:uX->YM}{F:uX->YN->Prop}{e:YC}
theorem Lz.get(h:Lz S G u):G u:=h.ok u (AK _) λ_ _=>rfl
theorem Lz.to(h:Lz S G u)(c:u.heap.size<=v.heap.size)(g:∀b,S b->v.heap[b]? =u.heap[b]?):Lz S G v:=
 ⟨λb a=>BV (h.lt b a) c,λx j f=>h.ok x (AQ c j) λb a=>(f b a).trans (g b a)⟩
theorem Lz.left{L:List Nat}(h:Lz S G u)(g:u.heap.size=v.heap.size)(a:∀b,b∉L->u.heap[b]? =v.heap[b]?)(f:∀b,S b->b∉L):Lz S G v:=
 h.to J λb c=>(a b (f b c)).symm
theorem Lz.and(h:Lz S G u)(g:Lz S2 G2 u):Lz (λb=>S b\/S2 b) (λv=>G v/\G2 v) u:=
 ⟨λb a=>a.elim (h.lt b) (g.lt b),λv f c=>⟨h.ok v f λb a=>c b (.inl a),g.ok v f λb a=>c b (.inr a)⟩⟩
theorem Lz.imp(h:Lz S G u)(k:∀v,G v->G2 v):Lz S G2 u:=⟨h.lt,λv b a=>k v (h.ok v b a)⟩
theorem tP(h:∀v,G v):Lz (λ_=>False) G u:=⟨λb a=>a.elim,λv _ _=>h v⟩
abbrev Gh(uX:Type)(uY:Nat->Prop):Type:={q:uX×(Nat->Prop) //∀b,q.2 b->uY b}
theorem K6.held{uY:Nat->Prop}(h:K6 w val F e w')(o:∀b,w.heap.size<=b->uY b):K6 w (λq:Gh uX uY=>val q.1.1) (λq u=>Lz q.1.2 (F q.1.1) u) e w':=by
 obtain⟨x,p,j,l⟩:=h;exact⟨⟨(x,λb=>w.heap.size<=b/\b<w'.heap.size),λb f=>o b f.1⟩,p,j,λm r g=>⟨λb f=>J,λv s k=>l v J λb c a=>(k b ⟨c,a⟩).trans (g b c a)⟩⟩
end
section
variable{W w:YN}{g n c:Nat}{A:YY}{ws0 rest:WS}{f:Bool}{l s:R}{r:WS}
theorem md(m:ML w)(t:l.length<=65536):YG XW 204 #[E l] w (K6 w (λy:YZ=> .tuple #[.slice y.1 (Mq l).1.length y.2,I (Mq l).2.1,I (Mq l).2.2]) λy u=>Qn u y.1 (Mq l).1.length (Mq l).1):=by
 unfold Mq;rw[V J]
 by_cases a:l=[]
 .subst a;have e:P0 (Kt []) 0 []=([],0,0):=O
  rw[e];refine ft.mono λe v h=> ?_
  obtain⟨x,j,o,p⟩:=h;exact⟨(none,0),j,o,λ_ _ _=>⟨rfl,λk s b=>by cases b⟩⟩
 .exact m2 (out:=(P0 (Kt l) 0 []).1) (at_:=(P0 (Kt l) 0 []).2.1) (e:=(P0 (Kt l) 0 []).2.2) m a J rfl
theorem Yo{uY:Nat->Prop}(N:ML W)(p:RE W w g A n c ws0)(uR:Qm ws0 n rest)(m:K7 w g (Lj A n c rest.length f))(uZ:∀b,w.heap.size<=b->uY b):YG XW 133 #[Zq g 0] w
 (Lt w [g] S3 (Tc f rest) (λd (q:Gh YZ uY)=> .slice q.1.1.1 d.1.length q.1.1.2) (λd q u=>K7 u g (Lj A n c d.2.1.length d.2.2)/\Lz q.1.2 (λv=>Qn v q.1.1.1 d.1.length d.1) u)):=by
 have lg:=p.lg;have Q:=m.lt;cases rest with
 |nil=>
  exact tg func133 rfl p.hW lg m<|M<|s6 (L:=[g]) (Φ':=λu=>N8 W w g u) (λo a h=>Rv (p.next a h) h.2.2) (λu h=>Kf (cs':=[]) lg u h) (λC u x B h _=>Nk C u x B h) O O<|sX λo a h=>Nj p.hW a h
 | cons s r=>
  have S:=p.mem uR;have uS:Tc f (s::r)=if (Mq s).2.2=0 then some ((Mq s).1,r,f)else if (Mq s).2.2=6 then some ([],r,true)else none:=rfl;rw[uS];refine tg func133 rfl p.hW lg m<|M<|sZ (L:=[g]) (Φ':=λ_ u=>Pt W w g (Lj A n c r.length f) u) (λo a h=>Px (p.next a h) uR h.2.2) (λu h=>Kf (cs':=[]) lg u h) (λ_ C u x B h ve=>Kk C u x B h ve) O O λ_=>M<|Z (λo a h=>(md (l:=s) (N.below a) J).mono λe T t=>t.held (uY:=λb=>w.heap.size<=b) λb m=>AQ h.1 m) λy=> ?_
  by_cases F:(Mq s).2.2=0
  .rw[YS F];refine X (((Mq s).2.2==0)) true (YQ.2 F)<|ZV (.slice y.1.1.1 (Mq s).1.length y.1.1.2) (λo a h=>by have k:=h o (AK _) (λ_ _ _=>rfl);exact Pg (val:=λq:Gh YZ uY=> .slice q.1.1.1 (Mq s).1.length q.1.1.2) ⟨y.1,λb m=>uZ b (y.2 b m)⟩ p.hW a k.1 λvf K D=>⟨k.1.2.2.to (D g (.inl Zs)),k.2.to K λb m=>D b (.inr ⟨y.2 b m,k.2.lt b m⟩)⟩)
  rw[V F];refine X (((Mq s).2.2==0)) false (YR.2 F) ?_
  by_cases vg:(Mq s).2.2=6
  .rw[YS vg];refine X (((Mq s).2.2==6)) true (YQ.2 vg)<|s8 (L:=[g]) (G:=λu=>K7 u g (Lj A n c r.length true)) (Φ':=Pt W w g (Lj A n c r.length true)) (Uk 4 ⟨g,1,none⟩ Zt) (λo a h=>h.1.2.2.store1 (j:=1) O rfl Zs rfl) (λu h=>Kf (cs':=[]) lg u h.1) (λC u x B h ve=>Kk C u x B h.1 ve) O O<|M<|ZV (.slice none 0 0) (λo a h=>by have k:=h o (AK _) (λ_ _ _=>rfl);exact Pg (val:=λq:Gh YZ uY=> .slice q.1.1.1 0 q.1.1.2) ⟨((none,0),λ_=>False),λb m=>m.elim⟩ p.hW a k λvf K D=>⟨k.2.2.to (D g (.inl Zs)),tP λv=>⟨rfl,λk s P=>by cases P⟩⟩)
  rw[V vg];exact X (((Mq s).2.2==6)) false (YR.2 vg)<|td (Instr.panic Kh >>= λv=>pure (.value v)) Kh O (λo a h=>by simp[Instr.panic,Kh,BE]) O<|sX λo a h=>N9 p.hW a h.1
theorem nQ(e:RE W w g A n c ws0)(B:Qm ws0 n rest)(x:K7 w g (Lj A n c rest.length f)):YG XW 132 #[Zq g 0] w
 (Lt w [g] S3 (Cp f rest) (λd (_:Unit)=> .bool d.1) (λd _ u=>K7 u g (Lj A n c d.2.1.length d.2.2))):=by
 have lg:=e.lg;cases rest with
 |nil=>
  exact tg func132 rfl e.hW lg x<|M<|s6 (L:=[g]) (Φ':=λu=>N8 W w g u) (λb a h=>Rv (e.next a h) h.2.2) (λu h=>Kf (cs':=[]) lg u h) (λp u m o h _=>Nk p u m o h) O O<|sX λb a h=>Nj e.hW a h
 | cons s r=>
  have t:Cp f (s::r)=if s=[48]then some (false,r,f)else if s=[49]then some (true,r,f)else none:=rfl;rw[t];refine tg func132 rfl e.hW lg x<|M<|sZ (L:=[g]) (Φ':=λ_ u=>Pt W w g (Lj A n c r.length f) u) (λb a h=>Px (e.next a h) B h.2.2) (λu h=>Kf (cs':=[]) lg u h) (λ_ p u m o h y=>Kk p u m o h y) O O λ_=>H 0 ?_
  by_cases j:s=[48]
  .rw[YS j];refine ZA (Nq .eql 9 (.tmp 4) (.const (.string ⟨#[48]⟩)) (E s) (E [48])) Zt (λb a h=>Kj (by simpa using j))<|ZI true<|ZV Zf (λb a h=>Nw e.hW a (h b (AK _) λ_ _ _=>rfl))
  rw[V j];refine ZA (Nq .eql 9 (.tmp 4) (.const (.string ⟨#[48]⟩)) (E s) (E [48])) Zf (λb a h=>Kj (by simpa using j))<|sW false O<|H 0 ?_
  by_cases k:s=[49]
  .rw[YS k];refine ZA (Nq .eql 9 (.tmp 4) (.const (.string ⟨#[49]⟩)) (E s) (E [49])) Zt (λb a h=>Kj (by simpa using k))<|ZI true<|ZV Zt (λb a h=>Nw e.hW a (h b (AK _) λ_ _ _=>rfl))
  rw[V k];exact ZA (Nq .eql 9 (.tmp 4) (.const (.string ⟨#[49]⟩)) (E s) (E [49])) Zf (λb a h=>Kj (by simpa using k))<|ZI false<|td (Instr.panic Kh >>= λv=>pure (.value v)) Kh O (λb a h=>by simp[Instr.panic,Kh,BE]) O<|sX λb a h=>N9 e.hW a h
end
section
variable{W w:YN}{g n c:Nat}{A:YY}{ws0 rest:WS}{f:Bool}{l s:R}{r:WS}
theorem cG{L:WS}(h:s∈L):∃k:Nat,L[k]? =some s:=List.mem_iff_getElem?.1 h
theorem lI{y k:Nat}{v2:YM}{L:WS}(e:K7 w g [.slice A n c,v2])(h:Km w (some ⟨y,0,none⟩) k L)(a:L≠[]):∀b∈bl (some (⟨y,0,none⟩:YB)),b∉[g]:=by
 cases L with
 |nil=>exact absurd rfl a
 |cons s L=>exact RP (v:=v2) e h
theorem gJ{k:Nat}{L:WS}{o:Int}{of_:R}(uR:L≠[])(uX:k<=100)(ve:0<=o/\o<=100)(K:∀m:YN,YG XW 106 #[E of_] m (K6 m (λy:Nat=> .tuple #[.slice (some ⟨y,0,none⟩) k k,I o]) λy u=>Km u (some ⟨y,0,none⟩) k L))
 (t:RE W w g A n c ws0) (S:Qm ws0 n rest) (uU:K7 w g (Lj A n c rest.length f)):YG XW 112 #[Zq g 0,E of_] w
 (Lt w [g] S3 (Bm L o f rest) (λd (_:Unit)=>I d.1) (λd _ u=>K7 u g (Lj A n c d.2.1.length d.2.2))):=by
 have lg:=t.lg;refine tg func112 rfl t.hW lg uU<|M<|Z (λm b h=>K m) λy=> ?_
 cases rest with
 |nil=>
  exact s6 (L:=[g]) (Φ':=λu=>N8 W w g u) (λm b h=>Rv (t.next b h.1) h.1.2.2) (λu h=>Kf (cs':=[]) lg u h.1) (λvg u D C h _=>Nk vg u D C h.1) O O<|sX λm b h=>Nj t.hW b h
 |cons s r=>
 refine s7 (p:=L.length=k) (λm b h=>h.2.1) O λuY=>sZ (L:=[g]) (Φ':=λ_ u=>Pt W w g (Lj A n c r.length f) u/\Km u (some ⟨y,0,none⟩) k L) (λm b h=>Px (t.next b h.1) S h.1.2.2) (λu h=>Kf (cs':=[]) lg u h.1) (λ_ vg u D C h Q=>⟨Kk vg u D C h.1 Q,h.2.left C (lI (v2:= .bool f) h.1.2.2 h.2 uR)⟩) O O λ_=>M ?_
 have F:Bm L o f (s::r)=(Cl s L).map λ(k:Nat)=>(o+(k:Int),r,f):=rfl
 rw[F];refine sU (ι:={j:Nat // j<=k/\∀i,i<j->L[i]? ≠some s}) 33 (λj=>⟨[(6,.v (I o)),(7,.v (E s)),(17,.v (.slice (some ⟨y,0,none⟩) k k)),(18,.v (I k)),(19,.v (I j.1))],[]⟩) (λj u=>Pt W w g (Lj A n c r.length f) u/\Km u (some ⟨y,0,none⟩) k L) (λj=>k-j.1) (⟨0,AJ _,λi hi=>absurd hi (CN _)⟩) O (λ_=>O) zt (λu h=>h) ?_;rintro⟨j,vf,a⟩ uV;have vf:j<=k:=vf;have a:∀i,i<j->L[i]? ≠some s:=a
 by_cases B:j<k
 case neg=>
  obtain rfl:j=k:=J
  have N:Cl s L=none:=Fc λP=>by
   obtain⟨i,hi⟩:=cG P;exact a i (by have:=(AP.1 hi).1;omega) hi
  rw[N];exact M<|X (decide ((j:Int)<(j:Int))) false Zs<|sN O<|M<|td (Instr.panic Kh >>= λv=>pure (.value v)) Kh O (λm b h=>by simp[Instr.panic,Kh,BE]) O<|sX λm b h=>N9 t.hW b h.1
 obtain⟨x,uS⟩:∃x,L[j]? =some x:=⟨_,AA J⟩
 refine M<|X (decide ((j:Int)<(k:Int))) true Zp<|ZA (Ki 53 (.slice (some ⟨y,0,none⟩) k k) j) (.pointer (some ((⟨y,0,none⟩:YB).add j))) (λm b h=>Kg (elem:=9) O O B)<|sV (L4 9 ((⟨y,0,none⟩:YB).add j)) (E x) O (λm b h=>K9 O (by obtain⟨ad,q1,uW⟩:=h.2.2 j x uS;cases q1;exact uW))<|H 2 ?_
 by_cases G:x=s
 .subst G;refine ZA (Nq .eql 9 (.tmp 24) (.tmp 25) (E x) (E x)) Zt (λm b h=>Kj Zs)<|ZI true ?_
  rw[C6 uS a];refine sN O<|M<|ZV (I (YA.wrap (o+(j:Int)))) (λm b h=>by rw[AU _ J];exact Nw t.hW b (h m (AK _) λ_ _ _=>rfl).1)
 refine ZA (Nq .eql 9 (.tmp 24) (.tmp 25) (E x) (E s)) Zf (λm b h=>Kj (by simpa using G))<|ZI false ?_
 have uZ:∀i,i<j+1->L[i]? ≠some s:=λi hi e=>by
  by_cases T:i=j
  .subst T;rw[uS]at e;exact G (Option.some.inj e)
  .exact a i J e
 refine sS 19 B J O<|sR (⟨j+1,by show j+1<=k;omega,uZ⟩) O zo zt (λu h=>h)
theorem fS(a:RE W w g A n c ws0)(b:Qm ws0 n rest)(e:K7 w g (Lj A n c rest.length f)):YG XW 112 #[Zq g 0,.string ⟨#[106,111,105,110]⟩] w
 (Lt w [g] S3 (Bm Ri 1 f rest) (λd (_:Unit)=>I d.1) (λd _ u=>K7 u g (Lj A n c d.2.1.length d.2.2))):=gJ (of_:=[106,111,105,110]) Zd Zd Zd (λh=>JW) a b e
theorem jp(a:RE W w g A n c ws0)(b:Qm ws0 n rest)(e:K7 w g (Lj A n c rest.length f)):YG XW 112 #[Zq g 0,.string ⟨#[99,97,112]⟩] w
 (Lt w [g] S3 (Bm Ud 3 f rest) (λd (_:Unit)=>I d.1) (λd _ u=>K7 u g (Lj A n c d.2.1.length d.2.2))):=gJ (of_:=[99,97,112]) Zd Zd Zd (λh=>OY) a b e
def p7(s:R):Int:=match Cl s Lr with
 |some k=>1+(k:Int)
 |none=>0
theorem me{k:Nat}(a:k<14):(Cw 227 T0 (I (k:Int))).run XW w= .ok (.value (E ((([]:R)::Lr).getD k []))) w:=
 match k,a with
 |0,_=>(show(Cw 227 T0 (.int .i64 0)).run XW w= .ok (.value (E ((([]:R)::Lr).getD 0 []))) w by kernel_rfl)
 |1,_=>(show(Cw 227 T0 (.int .i64 1)).run XW w= .ok (.value (E ((([]:R)::Lr).getD 1 []))) w by kernel_rfl)
 |2,_=>(show(Cw 227 T0 (.int .i64 2)).run XW w= .ok (.value (E ((([]:R)::Lr).getD 2 []))) w by kernel_rfl)
 |3,_=>(show(Cw 227 T0 (.int .i64 3)).run XW w= .ok (.value (E ((([]:R)::Lr).getD 3 []))) w by kernel_rfl)
 |4,_=>(show(Cw 227 T0 (.int .i64 4)).run XW w= .ok (.value (E ((([]:R)::Lr).getD 4 []))) w by kernel_rfl)
 |5,_=>(show(Cw 227 T0 (.int .i64 5)).run XW w= .ok (.value (E ((([]:R)::Lr).getD 5 []))) w by kernel_rfl)
 |6,_=>(show(Cw 227 T0 (.int .i64 6)).run XW w= .ok (.value (E ((([]:R)::Lr).getD 6 []))) w by kernel_rfl)
 |7,_=>(show(Cw 227 T0 (.int .i64 7)).run XW w= .ok (.value (E ((([]:R)::Lr).getD 7 []))) w by kernel_rfl)
 |8,_=>(show(Cw 227 T0 (.int .i64 8)).run XW w= .ok (.value (E ((([]:R)::Lr).getD 8 []))) w by kernel_rfl)
 |9,_=>(show(Cw 227 T0 (.int .i64 9)).run XW w= .ok (.value (E ((([]:R)::Lr).getD 9 []))) w by kernel_rfl)
 |10,_=>(show(Cw 227 T0 (.int .i64 10)).run XW w= .ok (.value (E ((([]:R)::Lr).getD 10 []))) w by kernel_rfl)
 |11,_=>(show(Cw 227 T0 (.int .i64 11)).run XW w= .ok (.value (E ((([]:R)::Lr).getD 11 []))) w by kernel_rfl)
 |12,_=>(show(Cw 227 T0 (.int .i64 12)).run XW w= .ok (.value (E ((([]:R)::Lr).getD 12 []))) w by kernel_rfl)
 |13,_=>(show(Cw 227 T0 (.int .i64 13)).run XW w= .ok (.value (E ((([]:R)::Lr).getD 13 []))) w by kernel_rfl)
theorem TM:Zv 131 #[E s] w (.tuple #[I (p7 s),.bool (Cl s Lr).isSome]):=by
 refine sL func131 rfl<|M<|Z (λp o h=>TZ) λu=>sU (ι:={j:Nat // j<=14/\∀i,i+1<j->Lr[i]? ≠some s}) 20 (λj=>⟨[(0,.v (E s)),(6,.v T0),(7,.v (I j.1))],[]⟩) (λj u=>True) (λj=>14-j.1) (⟨0,AJ _,λi hi=>absurd hi (CN _)⟩) O (λ_=>O) zt (λu h=>trivial) ?_
 rintro⟨j,B,a⟩ G;have B:j<=14:=B;have a:∀i,i+1<j->Lr[i]? ≠some s:=a
 by_cases y:j<14
 case neg=>
  obtain rfl:j=14:=J
  have b:Cl s Lr=none:=Fc λD=>by
   obtain⟨i,hi⟩:=cG D;exact a i (by have:=(AP.1 hi).1;have:Lr.length=13:=rfl;omega) hi
  exact M<|X (decide (((14:Nat):Int)<14)) false Zd<|sN O<|M<|ZX (.tuple #[I 0,.bool false]) (by unfold p7;rw[b];rfl)
 refine M<|sQ (decide ((j:Int)<14)) true O Zp<|H 1<|sV (Cw 227 T0 (I j)) (E ((([]:R)::Lr).getD j [])) O (λp o h=>me y)<|H 2<|s0 O (stop:=1000) 2 _<|H 3 ?_
 cases j with
 |zero=>
  refine ZT 13 (.bool (decide (((0:Nat):Int)>0))) Zf (by rw[YV Zd])<|ZI false<|sM 7 (I (YA.wrap (((0:Nat):Int)+1))) (I ((1:Nat):Int)) O (by rw[AU _ Zd];rfl)<|sR (⟨1,by decide,λi hi=>absurd hi J⟩) O zo zt (λu h=>trivial)
 | succ k=>
  obtain⟨x,t⟩:∃x,Lr[k]? =some x:=⟨_,AA (show k<Lr.length from by show k<13;omega)⟩
  have vg:(([]:R)::Lr).getD (k+1) []=x:=by rw[List.getD_eq_getElem?_getD,CC,t];rfl
  rw[vg];refine sM 13 (.bool (decide (((k+1:Nat):Int)>0))) Zt O (by rw[YU J])<|H 5 ?_
  by_cases m:x=s
  .subst m;have b:=C6 t λi hi=>a i J
   exact ZA (Nq .eql 9 (.tmp 14) (.tmp 15) (E x) (E x)) Zt (λp o h=>Kj Zs)<|ZI true<|sN O<|M<|ZX (.tuple #[I ((k+1:Nat):Int),.bool true]) (by unfold p7;rw[b];show Ending.returned (.tuple #[I ((k+1:Nat):Int),.bool true])= .returned (.tuple #[I (1+(k:Int)),.bool true]);congr 5;omega)
  refine ZA (Nq .eql 9 (.tmp 14) (.tmp 15) (E x) (E s)) Zf (λp o h=>Kj (by simpa using m))<|ZI false ?_
  have C:∀i,i+1<k+1+1->Lr[i]? ≠some s:=λi hi e=>by
   by_cases F:i=k
   .subst F;rw[t]at e;exact m (Option.some.inj e)
   .exact a i J e
  refine sM 7 (I (YA.wrap (((k+1:Nat):Int)+1))) (I ((k+1+1:Nat):Int)) O (by rw[AU _ J];congr 1)<|sR (⟨k+1+1,by show k+1+1<=14;omega,C⟩) O zo zt (λu h=>trivial)
end
section
variable{W w:YN}{g n c:Nat}{A:YY}{ws0 rest:WS}{f:Bool}{l s:R}{r:WS}
theorem rQ{D:Type}{Δ:List YI}{Q:Exit->Act->YN->Prop}{F:YW}{q:Option D}{vq:D->YM}{rs:D->WS}{fl:D->Bool}{e:YE}{args:Array YM}{m:Ob}(x:RE W w g A n c ws0)
 (vg:∀j,RE W j g A n c ws0->K7 j g (Lj A n c rest.length f)->YG XW e args j (Lt j [g] S3 q (λd (_:Unit)=>vq d) (λd _ u=>K7 u g (Lj A n c (rs d).length (fl d)))))
 (G:∀a u:YN,a.heap.size=u.heap.size->(∀b,b∉[g]->a.heap[b]? =u.heap[b]?)->Pt W w g (Lj A n c rest.length f) a->F a->F u)
 (uS:q=none->K0 XW Δ W Q (N8 W w g) (J_ S3 m))
 (vf:∀d,q=some d->K0 XW Δ W Q (λu=>Pt W w g (Lj A n c (rs d).length (fl d)) u/\F u) (M1 XW 1000 1000 (Lf (.v (vq d)) m)))
 (C:Rt m=true:=by kernel_rfl) (k:M8 XW m=some (e,args):=by kernel_rfl):K0 XW Δ W Q (λu=>Pt W w g (Lj A n c rest.length f) u/\F u) m:=by
 cases y:q with
 |none=>exact s6 (L:=[g]) (Φ':=λu=>N8 W w g u) (λj B h=>by have t:=vg j (x.next B h.1) h.1.2.2;rw[y]at t;exact t) (λu h=>Kf (cs':=[]) x.lg u h.1) (λa u o p h _=>Nk a u o p h.1) C k (uS y)
 |some d=>exact sZ (L:=[g]) (Φ':=λ_ u=>Pt W w g (Lj A n c (rs d).length (fl d)) u/\F u) (λj B h=>by have t:=vg j (x.next B h.1) h.1.2.2;rw[y]at t;exact t) (λu h=>Kf (cs':=[]) x.lg u h.1) (λ_ a u o p h ve=>⟨Kk a u o p h.1 ve,G a u o p h.1 h.2⟩) C k (λ_=>s0 O 1000 _ (vf d y))
theorem fY{D D2 X2:Type}{p:Func}{o:Option D2}{Eo:D2->X2->YM}{G2:D2->X2->YN->Prop}{F:YW}{q:Option D}{vq:D->YM}{rs:D->WS}{fl:D->Bool}{e:YE}{args:Array YM}{k:Ob}(t:RE W w g A n c ws0)
 (B:∀a,RE W a g A n c ws0->K7 a g (Lj A n c rest.length f)->YG XW e args a (Lt a [g] S3 q (λd (_:Unit)=>vq d) (λd _ u=>K7 u g (Lj A n c (rs d).length (fl d)))))
 (y:∀j u:YN,j.heap.size=u.heap.size->(∀b,b∉[g]->j.heap[b]? =u.heap[b]?)->Pt W w g (Lj A n c rest.length f) j->F j->F u)
 (C:q=none->o=none)
 (vg:∀d,q=some d->K0 XW [] W (bodyPost XW p (Lt w [g] S3 o Eo G2)) (λu=>Pt W w g (Lj A n c (rs d).length (fl d)) u/\F u) (M1 XW 1000 1000 (Lf (.v (vq d)) k)))
 (x:Rt k=true:=by kernel_rfl) (m:M8 XW k=some (e,args):=by kernel_rfl):K0 XW [] W (bodyPost XW p (Lt w [g] S3 o Eo G2)) (λu=>Pt W w g (Lj A n c rest.length f) u/\F u) k:=
 rQ t B y (λe=>sX λa G h=>by rw[C e];exact Nj t.hW G h) vg x m
theorem qj:∀a u:YN,a.heap.size=u.heap.size->(∀b,b∉[g]->a.heap[b]? =u.heap[b]?)->Pt W w g (Lj A n c rest.length f) a->True->True:=λ_ _ _ _ _ h=>h
theorem aJ(a:RE W w g A n c ws0)(e:Qm ws0 n rest)(b:K7 w g (Lj A n c rest.length f)):YG XW 65 #[Zq g 0] w
 (Lt w [g] S3 (match rest with| []=>none|s::r=>some (s,r)) (λd (_:Unit)=>E d.1) (λd _ u=>K7 u g (Lj A n c d.2.length f))):=by
 cases rest with
 |nil=>exact Rv a b
 |cons s r=>exact Px a e b
theorem eH:Dp 0 f rest=some ([],rest,f):=rfl
theorem Wf{m:Nat}:Dp (m+1) f rest=(Do f rest).bind λx=>(Dp m x.2.2 x.2.1).map λl=>(x.1::l.1,l.2.1,l.2.2):=rfl
theorem cY{B m yc b:Nat}{y:YY}{a:List Int}{x:Int}(o:Y w B 3 1 y m yc (a.map λz=>BH .i64 z))(j:B<=w.heap.size)(k:Kr 3 #[I x] b w)(p:m<1000000):
 Pp XW w (bl y) (λz:YZ=> .slice z.1 (m+1) z.2) (λz v=>Y v B 3 1 z.1 (m+1) z.2 ((a++ [x]).map λz=>BH .i64 z)) (Ln 65 65 (.slice y m yc) (Kd 1 b)):=by
 have h:=N4 (P:=XW) (s:=1) (z:=I 0) (bytes:=8) (m:=1) (cc:=1) (t:=65) (elem:=3) O O rfl Zd o j (Mm (n:=1) k rfl) (by intro v e;simp at e;subst e;rfl) J Zd;rw[AL];exact h
theorem UE{B m yc:Nat}{y:YY}{a:List Int}(h:Y w B 3 1 y m yc (a.map λz=>BH .i64 z))(t:a.length=m):O3 w y m 1 Tl a:=by
 refine⟨t,λk x e=> ?_⟩;have C:=(AP.1 e).1;obtain⟨g,u,o⟩:=h.cells J;refine⟨_,u,λj v b=> ?_⟩;have p:j=0:=by
  have:=(AP.1 b).1;simp[Tl]at this;omega
 subst p;simp only[Tl,CB,BX]at b;subst b;rw[CD,Y7,BS,Addr.add_mid,BZ];exact o k _ (by rw[BI,e];rfl)
theorem qK{uY:Nat->Prop}(vg:RE W w g A n c ws0)(hs:Qm ws0 n rest)(F:K7 w g (Lj A n c rest.length f))(hQ:∀b,w.heap.size<=b->uY b):YG XW 135 #[Zq g 0] w
 (Lt w [g] S3 (Xw f rest) (λd (q:Gh YZ uY)=>MO d.1 q.1.1) (λd q u=>K7 u g (Lj A n c d.2.1.length d.2.2)/\Lz q.1.2 (λv=>O3 v q.1.1.1 d.1.d.length 1 Tl d.1.d) u)):=by
 have lg:=vg.lg;have hg:=F.lt;have hn2:=vg.hn2;obtain⟨o,a⟩:∃o,o=Xw f rest:=⟨_,rfl⟩
 rw[<-a];unfold Xw at a;refine tg func135 rfl vg.hW lg F<|M<|tA O (λu h=>(⟨h,trivial⟩:Pt W w g (Lj A n c rest.length f) u/\True))<|fY vg (λC uR vf=>N5 uR hs vf) qj (λe=>by rw[a,e];rfl) λd S=> ?_
 rw[S,AB]at a;obtain⟨uV,r1,f1⟩:=d;have hs1:=Mv hs S;refine fY vg (λC uR vf=>fS uR hs1 vf) qj (λe=>by rw[a];simp only;rw[e];rfl) λd uZ=> ?_
 simp only at a;rw[uZ,AB]at a;obtain⟨uU,r2,f2⟩:=d;have hs2:=Ou hs1 uZ;refine fY vg (λC uR vf=>jp uR hs2 vf) qj (λe=>by rw[a];simp only;rw[e];rfl) λd e3=> ?_
 simp only at a;rw[e3,AB]at a;obtain⟨uT,r3,f3⟩:=d;have hs3:=Ou hs2 e3;refine fY vg (λC uR vf=>N5 uR hs3 vf) qj (λe=>by rw[a];simp only;rw[e];rfl) λd e4=> ?_
 simp only at a;rw[e4,AB]at a;obtain⟨uX,r4,f4⟩:=d;have hs4:=Mv hs3 e4;refine fY vg (λC uR vf=>N5 uR hs4 vf) qj (λe=>by rw[a];simp only;rw[e];rfl) λd e5=> ?_
 simp only at a;rw[e5,AB]at a;obtain⟨x5,r5,f5⟩:=d;have uW:=Mv hs4 e5;simp only at a;refine fY vg (λC uR vf=>aJ uR uW vf) qj (λe=>by rw[a];cases r5 with|nil=>rfl|cons s r=>cases e) λd e6=> ?_
 cases r5 with
 |nil=>cases e6
 |cons s r=>
 cases e6;have hsl:=vg.mem uW;have hs6:=uW.tail;have hrl:r.length<=n:=hs6.2;have hds:iI f5 (s::r)=if Pw s≠0\/O1 s<0\/O1 s>(r.length:Int)then none else Dp (O1 s).toNat f5 r:=rfl;rw[hds]at a;rcases ED s with P|P|P|P;rotate_left
 .rw[YS (.inl (by rw[P];decide))]at a;have Q:o=none:=by rw[a];rfl
  exact Z (λC B h=>Qq (l:=s) P rfl J) λ_=>ZI true<|td (Instr.panic Kh >>= λv=>pure (.value v)) Kh O (λC B h=>by simp[Instr.panic,Kh,BE]) O<|sX λC B h=>by rw[Q];exact N9 vg.hW B h.1.1
 .rw[YS (.inl (by rw[P];decide))]at a;have Q:o=none:=by rw[a];rfl
  exact Z (λC B h=>Qq (l:=s) P rfl J) λ_=>ZI true<|td (Instr.panic Kh >>= λv=>pure (.value v)) Kh O (λC B h=>by simp[Instr.panic,Kh,BE]) O<|sX λC B h=>by rw[Q];exact N9 vg.hW B h.1.1
 .rw[YS (.inl (by rw[P];decide))]at a;have Q:o=none:=by rw[a];rfl
  exact Z (λC B h=>Qq (l:=s) P rfl J) λ_=>ZI true<|td (Instr.panic Kh >>= λv=>pure (.value v)) Kh O (λC B h=>by simp[Instr.panic,Kh,BE]) O<|sX λC B h=>by rw[Q];exact N9 vg.hW B h.1.1
 refine tf (λC B h=>Qq (l:=s) P rfl J) O λ_=>s0 O (stop:=1000) 5 _<|H 7 ?_
 by_cases ve:O1 s<0
 .rw[YS (.inr (.inl ve))]at a;have Q:o=none:=by rw[a];rfl
  exact ZT 33 (.bool (decide (O1 s<0))) Zt (by rw[YU ve])<|ZI true<|td (Instr.panic Kh >>= λv=>pure (.value v)) Kh O (λC B h=>by simp[Instr.panic,Kh,BE]) O<|sX λC B h=>by rw[Q];exact N9 vg.hW B h.1.1
 refine ZT 33 (.bool (decide (O1 s<0))) Zf (by rw[YV ve])<|ZA (L4 53 ⟨g,0,none⟩) (k0 A n c r.length) (λC B h=>K9 O (by rw[h.1.1.2.2.cell];rfl)) ?_
 by_cases K:O1 s>(r.length:Int)
 .rw[YS (.inr (.inr K))]at a;have Q:o=none:=by rw[a];rfl
  exact X (decide (O1 s>(r.length:Int))) true (YU K)<|td (Instr.panic Kh >>= λv=>pure (.value v)) Kh O (λC B h=>by simp[Instr.panic,Kh,BE]) O<|sX λC B h=>by rw[Q];exact N9 vg.hW B h.1.1
 rw[V (λh1=>h1.elim (λh=>h P) λh1=>h1.elim ve K)]at a;refine X (decide (O1 s>(r.length:Int))) false (YV K) ?_;obtain⟨N,Q⟩:∃N:Nat,O1 s=N:=⟨(O1 s).toNat,(Int.toNat_of_nonneg J).symm⟩
 have hNt:(O1 s).toNat=N:=J
 have hNr:N<=r.length:=J
 rw[hNt]at a;refine sU (ι:={q:(WS×Bool×List Int×Nat)×(YZ) // Qm ws0 n q.1.1/\q.1.2.2.1.length=q.1.2.2.2/\q.1.2.2.2<=N/\o=(Dp (N-q.1.2.2.2) q.1.2.1 q.1.1).map (λd=>(⟨uV,uU,uT,uX,q.1.2.2.1++d.1,x5⟩,d.2.1,d.2.2))}) 56 (λq=>⟨[(0,.v (Zq g 0)),(2,.p 2 0),(3,.p 3 0),(44,.v (I (O1 s))),(45,.v (I q.1.1.2.2.2))],[(2,[.v (I 0),.v (I 0),.v (I 0),.v (I 0),.v (.slice none 0 0),.v (I 0)]),(3,[.v (I uV),.v (I uU),.v (I uT),.v (I uX),.v (.slice q.1.2.1 q.1.1.2.2.2 q.1.2.2),.v (I x5)])]⟩) (λq u=>Pt W w g (Lj A n c q.1.1.1.length q.1.1.2.1) u/\Y u w.heap.size 3 1 q.1.2.1 q.1.1.2.2.2 q.1.2.2 (q.1.1.2.2.1.map λz=>BH .i64 z)) (λq=>N-q.1.1.2.2.2) (⟨((r,f5,[],0),(none,0)),hs6,rfl,AJ _,a⟩) O (λ_=>O) zt (λu h=>⟨h.1.1,s_⟩) ?_;rintro⟨⟨⟨rest,f,D,m⟩,y,yc⟩,hk⟩ gg;have T:Qm ws0 n rest:=hk.1;have hm:D.length=m:=hk.2.1;have hle:m<=N:=hk.2.2.1;have uS:o=(Dp (N-m) f rest).map (λd=>(⟨uV,uU,uT,uX,D++d.1,x5⟩,d.2.1,d.2.2)):=hk.2.2.2;refine M ?_
 by_cases hlt:m<N
 .obtain⟨j,hj⟩:∃j,N-m=j+1:=⟨N-m-1,by omega⟩
  have hj2:N- (m+1)=j:=J
  rw[hj,Wf]at uS;refine X (decide ((m:Int)<O1 s)) true (YU J) ?_;cases he:Do f rest with
  |none=>
   rw[he]at uS;have hNo:o=none:=by rw[uS];rfl
   exact uE (L:=[g]) (Φ':=λu=>N8 W w g u) (λC B h=>by have t:=N5 (vg.next B h.1) T h.1.2.2;rw[he]at t;exact t) (λu h=>Kf (cs':=[]) lg u h.1) (λwa u S uZ h _=>Nk wa u S uZ h.1) O O λσ'=>M<|sN O<|M<|ul O λC B h=>by rw[hNo];exact Nj vg.hW B h
  |some d=>
   obtain⟨x,r2,f2⟩:=d;have hs8:=Mv T he;rw[he,AB,CF]at uS;refine ue (L:=[g]) (Φ':=λ_ u=>Pt W w g (Lj A n c r2.length f2) u/\Y u w.heap.size 3 1 y m yc (D.map λz=>BH .i64 z)) (λC B h=>by have t:=N5 (vg.next B h.1) T h.1.2.2;rw[he]at t;exact t) (λu h=>Kf (cs':=[]) lg u h.1) (λ_ wa u S uZ h hG=>⟨Kk wa u S uZ h.1 hG,Y.left h.2 uZ (F7 h.2 hg)⟩) O O λ_=>sO (Kw 65 1 #[(0,I x)]) (Kd 1) (Kr 3 #[I x]) O (λC B h=>Kb O) λgb=>H 0<|tz (L:=bl y) (val:=λ(z:YZ)=> .slice z.1 (m+1) z.2) (Φ':=λ(z:YZ) u=>Pt W w g (Lj A n c r2.length f2) u/\Y u w.heap.size 3 1 z.1 (m+1) z.2 ((D++ [x]).map λz=>BH .i64 z)) (G:=λ(z:YZ) u=>Y u w.heap.size 3 1 z.1 (m+1) z.2 ((D++ [x]).map λz=>BH .i64 z)) (Ln 65 65 (.slice y m yc) (Kd 1 gb)) (λC B h=>cY h.1.2 h.1.1.1 h.2 J) (λu h=>λb F=>⟨AQ vg.hW.size (h.1.2.lt b F).1,(h.1.2.blk b F).2⟩) (λz wa u S uZ h hG=>⟨ER (λb F=>(h.1.2.lt b F).1) hg S uZ h.1.1,hG⟩) O O λz=>M<|sM 45 (I (YA.wrap ((m:Int)+1))) (I ((m+1:Nat):Int)) O (by rw[AU _ J];congr 1)<|sR (⟨((r2,f2,D++ [x],m+1),z),hs8,by simp[hm],hlt,by rw[uS,hj2];simp[CS]⟩) O zo zt (λu h=>h)
 .refine X (decide ((m:Int)<O1 s)) false (YV J) ?_;have hNm:N-m=0:=J
  rw[hNm,eH]at uS;have hY:o=some (⟨uV,uU,uT,uX,D,x5⟩,rest,f):=by rw[uS];simp
  refine sN O<|M<|ZV (.agg #[I uV,I uU,I uT,I uX,.slice y m yc,I x5]) (λC B h=>by subst hm;rw[hY];have k:Pt W w g (Lj A n c rest.length f) C/\Y C w.heap.size 3 1 y D.length yc (D.map λz=>BH .i64 z):=h C (AK _) (λ_ _ _=>rfl);exact Pg (val:=λq:Gh YZ uY=>MO ⟨uV,uU,uT,uX,D,x5⟩ q.1.1) ⟨((y,yc),λb=>b∈bl y),λb F=>hQ b (k.2.lt b F).1⟩ vg.hW B k.1 λw'' uR vf=>⟨k.1.2.2.to (vf g (.inl Zs)),⟨λb F=>BV (k.2.lt b F).2 uR,λv S uZ=>UE ((k.2.same λb F=>vf b (.inr (k.2.lt b F))).same λb F=>uZ b F) rfl⟩⟩)
end
abbrev Zu(W uS r g b a:Int)(l:YM)(wh ln far:Int):List YM:=[I W,I uS,.int .u8 r,.int .u8 g,.int .u8 b,.int .u8 a,l,I wh,I ln,I far]
section
variable{W w:YN}{gt gr:Nat}{a1 a2 a3 a4 a5 a6 a7 a8 a9:Int}
theorem D9{z:Int}(a:Below W.heap.size W w):YG XW 66 #[Zq gt 0,I z,.bool false] w (Xa w [] S3):=by
 refine ts func66 rfl a<|M<|ZI true<|td (Instr.panic Kh >>= λv=>pure (.value v)) Kh O (λf b h=>by simp[Instr.panic,Kh,BE]) O ?_
 exact sX λf b h=>⟨rfl,⟨b.os.trans a.os.symm,b.tape.trans a.tape.symm,b.output.trans a.output.symm,h.1,λk e _=>by
  rcases BD k W.heap.size with c|c
  .rw[b.block k c,a.block k c]
  .exact h.2 k c e⟩⟩
theorem oG{m cap:Nat}{ad:YB}(e:m<1000000)(b:K7 w gt (Zu a1 a2 a3 a4 a5 a6 (.slice (some ad) (m+1) cap) a7 a8 a9)):Zv 134 #[Zq gt 0] w (.pointer (some (ad.add (m*47)))):=sL func134 rfl<|M<|ZB 4 (L4 25 ⟨gt,6,none⟩) (.slice (some ad) (m+1) cap) (λc a h=>K9 O (by rw[(b.below a).cell];rfl))<|ZB 9 (L4 25 ⟨gt,6,none⟩) (.slice (some ad) (m+1) cap) (λc a h=>K9 O (by rw[(b.below a).cell];rfl))<|sM 14 (I (YA.wrap (((m+1:Nat):Int)-1))) (I (m:Int)) O (by rw[AU _ J];congr 1;omega)<|ZA (Ki 25 (.slice (some ad) (m+1) cap) m) (.pointer (some (ad.add (m*47)))) (λc a h=>Qa (elem:=69) O O J)<|ZW (.pointer (some (ad.add (m*47))))
end
section
variable{P:YK}{Δ:List YI}{W:YN}{Q:Exit->Act->YN->Prop}{Φ Φ':YW}{c:Ob}
def kB(w:YN)(L:List Nat)(g:List YF)(G:YW)(e:YC)(f:YN):Prop:=
 e= .panicked g/\SM L w f/\∀a,f.heap.size<=a.heap.size->(∀b,b∈L\/(w.heap.size<=b/\b<f.heap.size)->a.heap[b]? =f.heap[b]?)->G a
theorem us{G:YW}{L:List Nat}{g:YE}{args:Array YM}{v:List YF}
 (F:∀w,Below W.heap.size W w->Φ w->YG P g args w (kB w L v G)) (uS:Bk W L Φ) (u:Hw L Φ G Φ')
 (y:Rt c=true) (f:M8 P c=some (g,args)) (h:K0 P Δ W Q Φ' (J_ v c)):K0 P Δ W Q Φ c:=by
 obtain⟨vf,k,σ⟩:=c;replace h:=h.get;refine⟨?_⟩;unfold M8 at f;split at f
 .rename_i ve xs p;split at f
  .rename_i vs A;injection f with f;injection f with h1 h2;subst h1;subst h2;unfold U4 at p;split at p
   .rename_i x o b;split at p
    .rename_i C;unfold P1 at b;simp only at b;split at b
     .rename_i j i l;cases m:j[i]? with
      |none=>rw[m]at b;cases b
      |some K=>
       rw[m]at b;simp only[AY,BX,Prod.mk.injEq]at b;obtain⟨rfl,rfl⟩:=b;intro t β a w r;show wpOps P j (post P Q k) (i::l) a w;rw[wpOps_cons];unfold wpOp;simp only[m,Mw r,C,if_true];refine .inl ?_;unfold Oper.wp;rw[Y8 p r,Qi A];refine Calls.mono (F w r.bel r.phi) λe vg B=> ?_
       obtain⟨rfl,s,D⟩:=B;exact h t β _ vg (r.mut uS s D u)
     .cases y
     .cases b
    .cases p
   .cases p
  .cases f
 .cases f
end
def Yg{D uX:Type}(w:YN)(L:List Nat)(b:List YF)(G0:YW)(o:Option D)(val:D->uX->YM)(G:D->uX->YN->Prop)(e:YC)(a:YN):Prop:=
 match o with
 |none=>kB w L b G0 e a
 |some d=>Ni w L (val d) (G d) e a
structure TE(W w:YN)(gt gr:Nat)(LL:List Nat)(A:YY)(n c:Nat)(ws0:WS):Prop where
 hW:Below W.heap.size W w
 str:Km w A n ws0
 lt:W.heap.size<=gt
 lr:W.heap.size<=gr
 ne:gt≠gr
 nA:∀b∈bl A,b≠gt/\b≠gr/\b∉LL
 hn:n<=c
 hn2:n<=1000000
 len:∀y∈ws0,y.length<=65536
structure Tm(W w:YN)(gt gr:Nat)(LL:List Nat)(tc rc:List YM)(u:YN):Prop where
 sz:w.heap.size<=u.heap.size
 fr:∀b,W.heap.size<=b->b<w.heap.size->b≠gt->b≠gr->b∉LL->u.heap[b]? =w.heap[b]?
 bt:K7 u gt tc
 br:K7 u gr rc
structure Tp(W w:YN)(gt gr:Nat)(LL:List Nat)(tc:List YM)(u:YN):Prop where
 sz:w.heap.size<=u.heap.size
 fr:∀b,W.heap.size<=b->b<w.heap.size->b≠gt->b≠gr->b∉LL->u.heap[b]? =w.heap[b]?
 bt:K7 u gt tc
section
variable{W w wa u:YN}{gt gr n c:Nat}{LL:List Nat}{A:YY}{ws0 rest:WS}{f:Bool}{tc rc tc2 rc2:List YM}
theorem Tm.mr(T:TE W w gt gr LL A n c ws0)(g:wa.heap.size=u.heap.size)(a:∀b,b∉[gr]->wa.heap[b]? =u.heap[b]?)(h:Tm W w gt gr LL tc rc wa)(m:K7 u gr rc2):Tm W w gt gr LL tc rc2 u:=
 ⟨by rw[<-g];exact h.sz,λb k o j e l=>(a b (by simpa using e)).symm.trans (h.fr b k o j e l),h.bt.to (a gt (by simpa using T.ne)).symm,m⟩
theorem Tm.mp(T:TE W w gt gr LL A n c ws0)(g:wa.heap.size=u.heap.size)(a:∀b,b∉[gr]->wa.heap[b]? =u.heap[b]?)(h:Tm W w gt gr LL tc rc wa):Tp W w gt gr LL tc u:=
 ⟨by rw[<-g];exact h.sz,λb k m j e l=>(a b (by simpa using e)).symm.trans (h.fr b k m j e l),h.bt.to (a gt (by simpa using T.ne)).symm⟩
theorem Tm.mt(T:TE W w gt gr LL A n c ws0)(g:wa.heap.size=u.heap.size)(e:∀b,b∉[gt]->wa.heap[b]? =u.heap[b]?)(h:Tm W w gt gr LL tc rc wa)(m:K7 u gt tc2):Tm W w gt gr LL tc2 rc u:=
 ⟨by rw[<-g];exact h.sz,λb j o a k l=>(e b (by simpa using a)).symm.trans (h.fr b j o a k l),m,h.br.to (e gr (by simpa using T.ne.symm)).symm⟩
theorem tG(T:TE W w gt gr LL A n c ws0):∀u,Tm W w gt gr LL tc rc u->∀b∈[gr],W.heap.size<=b/\∃xs ty own,u.heap[b]? =some (.cells xs ty own):=λu h b a=>by
 obtain rfl:b=gr:=by simpa using a
 exact⟨T.lr,h.br.own⟩
theorem tO(T:TE W w gt gr LL A n c ws0):∀u,Tm W w gt gr LL tc rc u->∀b∈[gt],W.heap.size<=b/\∃xs ty own,u.heap[b]? =some (.cells xs ty own):=λu h b a=>by
 obtain rfl:b=gt:=by simpa using a
 exact⟨T.lt,h.bt.own⟩
theorem Tm.re(T:TE W w gt gr LL A n c ws0)(j:Below W.heap.size W u)(h:Tm W w gt gr LL tc rc u):RE W u gr A n c ws0:=
 ⟨j,T.lr,⟨T.str.1,λk s m=>by
  obtain⟨ad,g,l⟩:=T.str.2 k s m;refine⟨ad,g,Ch l ?_⟩;have e:=T.nA ad.block (by rw[g];simp[bl]);have a:=Z2 l;rw[Q1]at a;rw[Q1];rcases BD ad.block W.heap.size with b|b
  .rw[j.block _ b,T.hW.block _ b]
  .exact h.fr _ b a e.1 e.2.1 e.2.2⟩,λad _ o=>(T.nA ad.block (by rw[o];simp[bl])).2.1,T.hn,T.hn2,T.len⟩
theorem tX(T:TE W w gt gr LL A n c ws0)(g:K7 w gt tc)(a:K7 w gr rc)(u:YN)(h:w.heap.size<=u.heap.size/\∀b,W.heap.size<=b->b<w.heap.size->u.heap[b]? =w.heap[b]?):Tm W w gt gr LL tc rc u:=
 ⟨h.1,λb e j _ _ _=>h.2 b e j,g.stay T.lt h.2,a.stay T.lr h.2⟩
theorem sg{D:Type}{Δ:List YI}{Q:Exit->Act->YN->Prop}{F:YW}{q:Option D}{vq:D->YM}{rs:D->WS}{fl:D->Bool}{e:YE}{args:Array YM}{j:Ob}(T:TE W w gt gr LL A n c ws0)
 (r:∀a,RE W a gr A n c ws0->K7 a gr (Lj A n c rest.length f)->YG XW e args a (Lt a [gr] S3 q (λd (_:Unit)=>vq d) (λd _ u=>K7 u gr (Lj A n c (rs d).length (fl d)))))
 (s:∀wa u:YN,wa.heap.size=u.heap.size->(∀b,b∉[gr]->wa.heap[b]? =u.heap[b]?)->Tm W w gt gr LL tc (Lj A n c rest.length f) wa->F wa->F u)
 (x:q=none->K0 XW Δ W Q (Tp W w gt gr LL tc) (J_ S3 j))
 (y:∀d,q=some d->K0 XW Δ W Q (λu=>Tm W w gt gr LL tc (Lj A n c (rs d).length (fl d)) u/\F u) (M1 XW 1000 1000 (Lf (.v (vq d)) j)))
 (p:Rt j=true:=by kernel_rfl) (g:M8 XW j=some (e,args):=by kernel_rfl):K0 XW Δ W Q (λu=>Tm W w gt gr LL tc (Lj A n c rest.length f) u/\F u) j:=by
 cases m:q with
 |none=>exact s6 (L:=[gr]) (Φ':=Tp W w gt gr LL tc) (λa o h=>by have t:=r a (h.1.re T o) h.1.br;rw[m]at t;exact t) (λu h=>tG T u h.1) (λwa u k l h _=>h.1.mp T k l) p g (x m)
 |some d=>exact sZ (L:=[gr]) (Φ':=λ_ u=>Tm W w gt gr LL tc (Lj A n c (rs d).length (fl d)) u/\F u) (λa o h=>by have t:=r a (h.1.re T o) h.1.br;rw[m]at t;exact t) (λu h=>tG T u h.1) (λ_ wa u k l h B=>⟨h.1.mr T k l B,s wa u k l h.1 h.2⟩) p g (λ_=>s0 O 1000 _ (y d m))
def Sj(gt:Nat)(ln:Int)(u:YN):Prop:=∃cs,K7 u gt cs/\cs.length=10/\cs[8]? =some (I ln)
theorem Tp.pan{g:YN}{ln:Int}(T:TE W w gt gr LL A n c ws0)(b:Below W.heap.size W g)(h:Tp W w gt gr LL tc g)(o:tc.length=10)(p:tc[8]? =some (I ln)):kB w (gt::gr::LL) S3 (Sj gt ln) (.panicked S3) g:=
 ⟨rfl,⟨b.os.trans T.hW.os.symm,b.tape.trans T.hW.tape.symm,b.output.trans T.hW.output.symm,h.sz,λk j a=>by
  simp only[BG,not_or]at a;rcases BD k W.heap.size with e|e
  .rw[b.block k e,T.hW.block k e]
  .exact h.fr k e j a.1 a.2.1 a.2.2⟩,λm r l=>⟨tc,h.bt.to (l gt (.inl Zs)),o,p⟩⟩
end
section
variable{W w:YN}{gt gr n c m:Nat}{A:YY}{y:YZ}{ws0 rest:WS}{f:Bool}{a1 a2 a3 a4 a5 a6 a9 wh:Int}{ln:Nat}
def H7(p:YZ):ND:=⟨I0,none,0,p.1,p.2,none,0,[],none,0,none,0,[],none,0⟩
section
variable{u:YN}{B s n:Nat}{e:YH}{y:YZ}{xs:List YM}
theorem my{P:YK}{x:Sem Next}(ve:Pp P u (bl y.1) (λz:YZ=> .slice z.1 n z.2) (λz v=>Y v B e s z.1 n z.2 xs) x){uY:YZ->Prop}(vf:∀z,(∀b∈bl z.1,b∈bl y.1\/u.heap.size<=b)->uY z):
 Pp P u (bl y.1) (λz:YZ=> .slice z.1 n z.2) (λz v=>Y v B e s z.1 n z.2 xs/\uY z) x:=by
 obtain⟨z,g,K,G,o⟩:=ve;refine⟨z,g,K,G,λt F vg=>⟨o t F vg,vf z λb D=> ?_⟩⟩
 by_cases h:b∈bl y.1
 .exact .inl h
 right;rcases BD b u.heap.size with L|l
 case inr=>exact l
 exfalso;have p:=o g (AK _) λ_ _=>rfl
 have a:b<g.heap.size:=(p.lt b D).2;have r:=o {g with heap:=g.heap.setIfInBounds b (.pending #[] 0)} Zs λk j=>by
  rw[BR];intro uS;subst uS;rcases j with j|j
  .exact h j
  .omega
 obtain⟨_,cs,ty,own,C⟩:=r.blk b D;rw[BL a]at C;cases C
end
theorem QW{u:YN}{N:Nd}{q:ND}{B a:Nat}{xs:List YM}(l:Y u B 69 47 y.1 m y.2 xs)(h:B<=u.heap.size)(k:Kr 69 (Yb N q).toArray a u)(p:m<1000000)(j:(Yb N q).all (λv=>v.oneCell')=true){Rz:YZ->Prop}(e:∀z,(∀b∈bl z.1,b∈bl y.1\/u.heap.size<=b)->Rz z):
 Pp XW u (bl y.1) (λz:YZ=> .slice z.1 (m+1) z.2) (λz v=>Y v B 69 47 z.1 (m+1) z.2 (xs++Yb N q)/\Rz z) (Ln 25 25 (.slice y.1 m y.2) (Kd 1 a)):=by
 have g:=N4 (P:=XW) (s:=47) (z:=Ya Cv (H7 (none,0))) (bytes:=656) (m:=1) (cc:=1) (t:=25) (elem:=69) O O O Zd l h (Mm (n:=1) k O) (λv o=>CM.1 j v (by simpa using o)) J Zd;exact my (y:=y) g e
theorem GF{D D2 X2:Type}{a:List YM}{LL:List Nat}{p:Func}{o:Option D2}{Eo:D2->X2->YM}{G2:D2->X2->YN->Prop}{F:YW}{q:Option D}{vq:D->YM}{rs:D->WS}{fl:D->Bool}{e:YE}{args:Array YM}{k:Ob}{z:Int}(T:TE W w gt gr LL A n c ws0)
 (t:∀g,RE W g gr A n c ws0->K7 g gr (Lj A n c rest.length f)->YG XW e args g (Lt g [gr] S3 q (λd (_:Unit)=>vq d) (λd _ u=>K7 u gr (Lj A n c (rs d).length (fl d)))))
 (s:∀j u:YN,j.heap.size=u.heap.size->(∀b,b∉[gr]->j.heap[b]? =u.heap[b]?)->Tm W w gt gr LL a (Lj A n c rest.length f) j->F j->F u)
 (B:q=none->o=none) (G:a.length=10) (x:a[8]? =some (I z))
 (C:∀d,q=some d->K0 XW [] W (bodyPost XW p (Yg w (gt::gr::LL) S3 (Sj gt z) o Eo G2)) (λu=>Tm W w gt gr LL a (Lj A n c (rs d).length (fl d)) u/\F u) (M1 XW 1000 1000 (Lf (.v (vq d)) k)))
 (r:Rt k=true:=by kernel_rfl) (l:M8 XW k=some (e,args):=by kernel_rfl):K0 XW [] W (bodyPost XW p (Yg w (gt::gr::LL) S3 (Sj gt z) o Eo G2)) (λu=>Tm W w gt gr LL a (Lj A n c rest.length f) u/\F u) k:=
 sg T t s (λe=>sX λg vg h=>by rw[B e];exact Tp.pan T vg h G x) C r l
theorem JJ{a:List YM}{z:Int}(b:Below W.heap.size W w)(k:W.heap.size<=gt)(r:K7 w gt a)(t:7<a.length):YG XW 66 #[Zq gt 0,I z,.bool true] w (Ni w [gt] (λ_:Unit=> .tuple #[]) λ_ u=>K7 u gt (a.set 7 (I z))):=by
 refine tg func66 rfl b k r<|M<|ZI false<|s8 (L:=[gt]) (G:=λu=>K7 u gt (a.set 7 (I z))) (Φ':=Pt W w gt (a.set 7 (I z))) (Uk 3 ⟨gt,7,none⟩ (I z)) (λg e h=>h.2.2.store1 (j:=7) O rfl t rfl) (λu h=>Kf (cs':=[]) k u h) (λs u l o h p=>Kk s u l o h p) O O<|M<|ZV (.tuple #[]) (λg e h=>Nw b e (h g (AK _) λ_ _ _=>rfl))
theorem UN{xs:List YM}{uY:Nat->Prop}(hM:ML W)(hmm:m<1000000)(ve:Y w W.heap.size 69 47 y.1 m y.2 xs)(uX:∀b∈bl y.1,b≠gt/\b≠gr)(hQ:∀b,w.heap.size<=b->uY b)(T:TE W w gt gr (bl y.1) A n c ws0)(hs:Qm ws0 n rest)(ht:K7 w gt (Zu a1 a2 a3 a4 a5 a6 (.slice y.1 m y.2) wh ln a9))(hr:K7 w gr (Lj A n c rest.length f)):
 YG XW 69 #[Zq gt 0,Zq gr 0,E Xq] w
 (Yg w (gt::gr::bl y.1) S3 (Sj gt ln) (if wh≠1/\0<ln then Nz 2 f rest else none) (λ_ (_:Gh YZ uY×(YZ))=> .tuple #[]) (λd x u=>K7 u gr (Lj A n c d.2.1.length d.2.2)/\K7 u gt (Zu a1 a2 a3 a4 a5 a6 (.slice x.2.1 (m+1) x.2.2) 1 ln a9)/\
  Y u W.heap.size 69 47 x.2.1 (m+1) x.2.2 (xs++Yb d.1 (H7 x.1.1.1))/\Lz x.1.1.2 (λv=>Qn v x.1.1.1.1 d.1.path.length d.1.path) u/\(∀b∈bl x.2.1,b∈bl y.1\/w.heap.size<=b)/\∀b,x.1.1.2 b->b∉bl x.2.1)):=by
 have hF:∀{tc rc:List YM} (vg u:YN),vg.heap.size=u.heap.size->(∀b,b∉[gr]->vg.heap[b]? =u.heap[b]?)->Tm W w gt gr (bl y.1) tc rc vg->Y vg W.heap.size 69 47 y.1 m y.2 xs->Y u W.heap.size 69 47 y.1 m y.2 xs:=λvg u r g _ h=>h.left g λb a=>by simpa using(uX b a).2
 obtain⟨o,s⟩:∃o,o=(if wh≠1/\0<ln then Nz 2 f rest else none):=⟨_,rfl⟩
 rw[<-s];refine ts func69 rfl T.hW (tQ (Φ':=λu=>Tm W w gt gr (bl y.1) (Zu a1 a2 a3 a4 a5 a6 (.slice y.1 m y.2) wh ln a9) (Lj A n c rest.length f) u/\Y u W.heap.size 69 47 y.1 m y.2 xs) (λu h=>⟨tX T ht hr u h,ve.same λb a=>h.2 b (ve.lt b a).1 (ve.lt b a).2⟩) ?_);refine M<|sV (L4 3 ⟨gt,7,none⟩) (I wh) O (λB l h=>K9 O (by rw[h.1.bt.cell];rfl))<|H 7 ?_
 by_cases h1:wh=1
 .rw[V (λh=>h.1 h1)]at s;exact ZT 18 (.bool (!(wh==1))) Zf (by rw[h1];rfl)<|s6 (L:=[]) (Φ':=Tp W w gt gr (bl y.1) (Zu a1 a2 a3 a4 a5 a6 (.slice y.1 m y.2) wh ln a9)) (λB l h=>D9 (gt:=gt) (z:=1) l) (λu h b a=>by cases a) (λvg u r g h _=>⟨by rw[<-r];exact h.1.sz,λb D C uW uZ K=>(g b Zs).symm.trans (h.1.fr b D C uW uZ K),h.1.bt.to (g gt Zs).symm⟩) O O<|sX λB l h=>by rw[s];exact Tp.pan T l h rfl rfl
 refine ZT 18 (.bool (!(wh==1))) Zt (by simp[h1])<|sV (L4 3 ⟨gt,8,none⟩) (I ln) O (λB l h=>K9 O (by rw[h.1.bt.cell];rfl))<|H 13 ?_
 by_cases h2:0<ln
 rotate_left
 .rw[V (λh=>h2 h.2)]at s;exact sM 24 (.bool (decide ((ln:Int)>0))) Zf O (by rw[YV J])<|s6 (L:=[]) (Φ':=Tp W w gt gr (bl y.1) (Zu a1 a2 a3 a4 a5 a6 (.slice y.1 m y.2) wh ln a9)) (λB l h=>D9 (gt:=gt) (z:=1) l) (λu h b a=>by cases a) (λvg u r g h _=>⟨by rw[<-r];exact h.1.sz,λb D C uW uZ K=>(g b Zs).symm.trans (h.1.fr b D C uW uZ K),h.1.bt.to (g gt Zs).symm⟩) O O<|sX λB l h=>by rw[s];exact Tp.pan T l h rfl rfl
 rw[YS ⟨h1,h2⟩]at s;refine sM 24 (.bool (decide ((ln:Int)>0))) Zt O (by rw[YU J])<|sZ (L:=[gt]) (Φ':=λ(_:Unit) u=>Tm W w gt gr (bl y.1) (Zu a1 a2 a3 a4 a5 a6 (.slice y.1 m y.2) 1 ln a9) (Lj A n c rest.length f) u/\Y u W.heap.size 69 47 y.1 m y.2 xs) (λB l h=>JJ (z:=1) l T.lt h.1.bt (by show 7<10;decide)) (λu h=>tO T u h.1) (λ_ vg u r g h F=>⟨h.1.mt T r g F,h.2.left g λb a=>by simpa using(uX b a).1⟩) O O λ_=>M ?_
 rw[show Nz 2 f rest=(Do f rest).bind λi=>(Do i.2.2 i.2.1).bind λd=>(Bm M2 1 d.2.2 d.2.1).bind λu=>(Tc u.2.2 u.2.1).map λp=>({Cv with id:=i.1,kind:=2,dep:=d.1,frule:=u.1,path:=p.1},p.2.1,p.2.2)from rfl]at s;refine GF T (λB D C=>N5 D hs C) hF (λe=>by rw[s,e];rfl) rfl rfl λd r=> ?_
 rw[r,AB]at s;obtain⟨P,r1,f1⟩:=d;have S:=Mv hs r;refine GF T (λB D C=>N5 D S C) hF (λe=>by rw[s];simp only;rw[e];rfl) rfl rfl λd g=> ?_
 simp only at s;rw[g,AB]at s;obtain⟨uR,r2,f2⟩:=d;have uU:=Mv S g;refine ZI false<|ZI true<|GF T (λB D C=>NN D uU C) hF (λe=>by rw[s];simp only;rw[e];rfl) rfl rfl λd e3=> ?_
 simp only at s;rw[e3,AB]at s;obtain⟨Q,r3,f3⟩:=d;have N:=Ou uU e3;simp only at s;cases uT:Tc f3 r3 with
 |none=>
  rw[uT]at s;exact s6 (L:=[gr]) (Φ':=Tp W w gt gr (bl y.1) (Zu a1 a2 a3 a4 a5 a6 (.slice y.1 m y.2) 1 ln a9)) (λB l h=>by have t:=Yo (uY:=λb=>w.heap.size<=b) hM (h.1.re T l) N h.1.br (λb a=>AQ h.1.sz a);rw[uT]at t;exact t) (λu h=>tG T u h.1) (λvg u r g h _=>h.1.mp T r g) O O<|sX λB l h=>by rw[s];exact Tp.pan T l h rfl rfl
 | some d=>
  obtain⟨pl,r4,uV⟩:=d;rw[uT]at s;refine sZ (L:=[gr]) (Φ':=λ(q:Gh YZ λb=>w.heap.size<=b) u=>Tm W w gt gr (bl y.1) (Zu a1 a2 a3 a4 a5 a6 (.slice y.1 m y.2) 1 ln a9) (Lj A n c r4.length uV) u/\Y u W.heap.size 69 47 y.1 m y.2 xs/\Lz q.1.2 (λv=>Qn v q.1.1.1 pl.length pl) u) (λB l h=>by have t:=Yo (uY:=λb=>w.heap.size<=b) hM (h.1.re T l) N h.1.br (λb a=>AQ h.1.sz a);rw[uT]at t;exact t) (λu h=>tG T u h.1) (λq vg u r g h (F:K7 u gr (Lj A n c r4.length uV)/\Lz q.1.2 (λv=>Qn v q.1.1.1 pl.length pl) u)=>⟨h.1.mr T r g F.1,hF vg u r g h.1 h.2,F.2⟩) O O λq=>M<|ZB 5 (L4 25 ⟨gt,6,none⟩) (.slice y.1 m y.2) (λB l h=>K9 O (by rw[h.1.bt.cell];rfl))<|sO (Kw 25 1 #[(0,Ya {Cv with id:=P,kind:=2,dep:=uR,frule:=Q,path:=pl} (H7 q.1.1))]) (Kd 1) (Kr 69 (Yb {Cv with id:=P,kind:=2,dep:=uR,frule:=Q,path:=pl} (H7 q.1.1)).toArray) O (λB l h=>Kb O) λgb=>H 0<|tz (L:=bl y.1) (val:=λ(z:YZ)=> .slice z.1 (m+1) z.2) (Φ':=λ(z:YZ) u=>Tm W w gt gr (bl y.1) (Zu a1 a2 a3 a4 a5 a6 (.slice y.1 m y.2) 1 ln a9) (Lj A n c r4.length uV) u/\Y u W.heap.size 69 47 z.1 (m+1) z.2 (xs++Yb {Cv with id:=P,kind:=2,dep:=uR,frule:=Q,path:=pl} (H7 q.1.1))/\Lz q.1.2 (λv=>Qn v q.1.1.1 pl.length pl) u/\(∀b∈bl z.1,b∈bl y.1\/w.heap.size<=b)/\∀b,q.1.2 b->b∉bl z.1) (G:=λ(z:YZ) u=>Y u W.heap.size 69 47 z.1 (m+1) z.2 (xs++Yb {Cv with id:=P,kind:=2,dep:=uR,frule:=Q,path:=pl} (H7 q.1.1))/\(∀b∈bl z.1,b∈bl y.1\/w.heap.size<=b)/\∀b,q.1.2 b->b∉bl z.1) (Ln 25 25 (.slice y.1 m y.2) (Kd 1 gb))
   (λB l h=>QW h.1.2.1 (AQ T.hW.size h.1.1.sz) h.2 hmm O λz hz=>⟨λb a=>(hz b a).imp id (AQ h.1.1.sz),λb a vf=>(hz b vf).elim (λk=>by have:=(ve.lt b k).2;have:=q.2 b a;omega) λk=>by have:=h.1.2.2.lt b a;omega⟩)
   (λu h b a=>⟨(ve.lt b a).1,(h.1.2.1.blk b a).2⟩)
   (λz vg u r g h F=>⟨⟨by rw[<-r];exact h.1.1.sz,λb D C uW uZ K=>(g b K).symm.trans (h.1.1.fr b D C uW uZ K),h.1.1.bt.to (g gt λa=>(uX gt a).1 rfl).symm,h.1.1.br.to (g gr λa=>(uX gr a).2 rfl).symm⟩,F.1,h.1.2.2.left r g (λb a vf=>by have:=(ve.lt b vf).2;have:=q.2 b a;omega),F.2⟩) O O (λz=> ?_)
  refine M<|tJ (L:=[gt]) (G:=λu=>K7 u gt (Zu a1 a2 a3 a4 a5 a6 (.slice z.1 (m+1) z.2) 1 ln a9)) (Φ':=λu=>Tm W w gt gr (bl y.1) (Zu a1 a2 a3 a4 a5 a6 (.slice z.1 (m+1) z.2) 1 ln a9) (Lj A n c r4.length uV) u/\Y u W.heap.size 69 47 z.1 (m+1) z.2 (xs++Yb {Cv with id:=P,kind:=2,dep:=uR,frule:=Q,path:=pl} (H7 q.1.1))/\Lz q.1.2 (λv=>Qn v q.1.1.1 pl.length pl) u/\(∀b∈bl z.1,b∈bl y.1\/w.heap.size<=b)/\∀b,q.1.2 b->b∉bl z.1) (Uk 25 ⟨gt,6,none⟩ (.slice z.1 (m+1) z.2)) (λB l h=>h.1.bt.store1 (j:=6) O rfl (by show 6<10;decide) rfl) (λu h=>tO T u h.1)
   (λvg u r g h F=>⟨h.1.mt T r g F,h.2.1.left g (λb a vf=>by
    obtain rfl:b=gt:=by simpa using vf
    exact(h.2.2.2.1 b a).elim (λk=>(uX b k).1 rfl) λk=>by have:=ht.lt;omega),h.2.2.1.left r g (λb a vf=>by
    obtain rfl:b=gt:=by simpa using vf
    have:=ht.lt;have:=q.2 b a;omega),h.2.2.2⟩) O O ?_
  refine M<|ZV (.tuple #[]) (λB l h=> ?_)
  have k:=h B (AK _) (λ_ _ _=>rfl);rw[s];refine⟨(⟨q.1,λb a=>hQ b (q.2 b a)⟩,z),rfl,⟨l.os.trans T.hW.os.symm,l.tape.trans T.hW.tape.symm,l.output.trans T.hW.output.symm,k.1.sz,λb a uS=> ?_⟩,λw'' D C=>⟨k.1.br.to (C gr (.inl Zs)),k.1.bt.to (C gt (.inl Zs)),k.2.1.same (λb a=>C b ((k.2.2.2.1 b a).imp (λx=>by simp[x]) λx=>⟨x,(k.2.1.lt b a).2⟩)),k.2.2.1.to D (λb a=>C b (.inr ⟨q.2 b a,k.2.2.1.lt b a⟩)),k.2.2.2⟩⟩;simp only[BG,not_or]at uS;rcases BD b W.heap.size with h4|h4
  .rw[l.block b h4,T.hW.block b h4]
  .exact k.1.fr b h4 a uS.1 uS.2.1 uS.2.2
end
section
variable{W w:YN}{gt gr n c m:Nat}{A:YY}{y:YZ}{ws0 rest:WS}{f:Bool}{a1 a2 a3 a4 a5 a6 a9 wh:Int}{ln:Nat}
theorem ci{uY:Nat->Prop}{g:Nat}(C:RE W w g A n c ws0)(D:Qm ws0 n rest)(a:K7 w g (Lj A n c rest.length f))(x:∀b,w.heap.size<=b->uY b):YG XW 115 #[Zq g 0] w
 (Lt w [g] S3 (Yd f rest) (λd (q:Gh YZ uY)=>Jo d.1 q.1.1) (λd q u=>K7 u g (Lj A n c d.2.1.length d.2.2)/\Lz q.1.2 (λv=>O3 v q.1.1.1 d.1.px.length 4 P7 d.1.px) u)):=by
 refine(dw C D a).mono λe B h=> ?_
 cases r:Yd f rest with
 |none=>rw[r]at h;exact h
 |some d=>
  rw[r]at h;obtain⟨z,vg,t,o⟩:=h;have k:=o B (AK _) λ_ _=>rfl
  exact⟨⟨(z,λb=>b∈bl z.1),λb a=>x b (k.2.lt b a).1⟩,vg,t,λj l p=>⟨(o j l p).1,⟨λb a=>BV (k.2.lt b a).2 l,λv F s=>Y.rowA (cl:=P7) (λ_=>rfl) rfl ((o j l p).2.same λb a=>s b a)⟩⟩⟩
def bK(p:YZ):ND:=⟨I0,none,0,none,0,none,0,[],none,0,none,0,[],p.1,p.2⟩
theorem UY{xs:List YM}{uY:Nat->Prop}(hmm:m<1000000)(vf:Y w W.heap.size 69 47 y.1 m y.2 xs)(uU:∀b∈bl y.1,b≠gt/\b≠gr)(hQ:∀b,w.heap.size<=b->uY b)(T:TE W w gt gr (bl y.1) A n c ws0)(hs:Qm ws0 n rest)(ht:K7 w gt (Zu a1 a2 a3 a4 a5 a6 (.slice y.1 m y.2) wh ln a9))(hr:K7 w gr (Lj A n c rest.length f)):
 YG XW 69 #[Zq gt 0,Zq gr 0,E Zc] w
 (Yg w (gt::gr::bl y.1) S3 (Sj gt ln) (if wh≠1/\0<ln then Nz 3 f rest else none) (λ_ (_:Gh YZ uY×(YZ))=> .tuple #[]) (λd x u=>K7 u gr (Lj A n c d.2.1.length d.2.2)/\K7 u gt (Zu a1 a2 a3 a4 a5 a6 (.slice x.2.1 (m+1) x.2.2) 1 ln a9)/\
  Y u W.heap.size 69 47 x.2.1 (m+1) x.2.2 (xs++Yb d.1 (bK x.1.1.1))/\Lz x.1.1.2 (λv=>O3 v x.1.1.1.1 d.1.im.px.length 4 P7 d.1.im.px) u/\(∀b∈bl x.2.1,b∈bl y.1\/w.heap.size<=b)/\∀b,x.1.1.2 b->b∉bl x.2.1)):=by
 have uT:∀{tc rc:List YM} (D u:YN),D.heap.size=u.heap.size->(∀b,b∉[gr]->D.heap[b]? =u.heap[b]?)->Tm W w gt gr (bl y.1) tc rc D->Y D W.heap.size 69 47 y.1 m y.2 xs->Y u W.heap.size 69 47 y.1 m y.2 xs:=λD u p g _ h=>h.left g λb a=>by simpa using(uU b a).2
 obtain⟨o,r⟩:∃o,o=(if wh≠1/\0<ln then Nz 3 f rest else none):=⟨_,rfl⟩
 rw[<-r];refine ts func69 rfl T.hW (tQ (Φ':=λu=>Tm W w gt gr (bl y.1) (Zu a1 a2 a3 a4 a5 a6 (.slice y.1 m y.2) wh ln a9) (Lj A n c rest.length f) u/\Y u W.heap.size 69 47 y.1 m y.2 xs) (λu h=>⟨tX T ht hr u h,vf.same λb a=>h.2 b (vf.lt b a).1 (vf.lt b a).2⟩) ?_);refine M<|sV (L4 3 ⟨gt,7,none⟩) (I wh) O (λs l h=>K9 O (by rw[h.1.bt.cell];rfl))<|H 7 ?_
 by_cases h1:wh=1
 .rw[V (λh=>h.1 h1)]at r;exact ZT 18 (.bool (!(wh==1))) Zf (by rw[h1];rfl)<|s6 (L:=[]) (Φ':=Tp W w gt gr (bl y.1) (Zu a1 a2 a3 a4 a5 a6 (.slice y.1 m y.2) wh ln a9)) (λs l h=>D9 (gt:=gt) (z:=1) l) (λu h b a=>by cases a) (λD u p g h _=>⟨by rw[<-p];exact h.1.sz,λb C B S N ve=>(g b Zs).symm.trans (h.1.fr b C B S N ve),h.1.bt.to (g gt Zs).symm⟩) O O<|sX λs l h=>by rw[r];exact Tp.pan T l h rfl rfl
 refine ZT 18 (.bool (!(wh==1))) Zt (by simp[h1])<|sV (L4 3 ⟨gt,8,none⟩) (I ln) O (λs l h=>K9 O (by rw[h.1.bt.cell];rfl))<|H 13 ?_
 by_cases h2:0<ln
 rotate_left
 .rw[V (λh=>h2 h.2)]at r;exact sM 24 (.bool (decide ((ln:Int)>0))) Zf O (by rw[YV J])<|s6 (L:=[]) (Φ':=Tp W w gt gr (bl y.1) (Zu a1 a2 a3 a4 a5 a6 (.slice y.1 m y.2) wh ln a9)) (λs l h=>D9 (gt:=gt) (z:=1) l) (λu h b a=>by cases a) (λD u p g h _=>⟨by rw[<-p];exact h.1.sz,λb C B S N ve=>(g b Zs).symm.trans (h.1.fr b C B S N ve),h.1.bt.to (g gt Zs).symm⟩) O O<|sX λs l h=>by rw[r];exact Tp.pan T l h rfl rfl
 rw[YS ⟨h1,h2⟩]at r;refine sM 24 (.bool (decide ((ln:Int)>0))) Zt O (by rw[YU J])<|sZ (L:=[gt]) (Φ':=λ(_:Unit) u=>Tm W w gt gr (bl y.1) (Zu a1 a2 a3 a4 a5 a6 (.slice y.1 m y.2) 1 ln a9) (Lj A n c rest.length f) u/\Y u W.heap.size 69 47 y.1 m y.2 xs) (λs l h=>JJ (z:=1) l T.lt h.1.bt (by show 7<10;decide)) (λu h=>tO T u h.1) (λ_ D u p g h vg=>⟨h.1.mt T p g vg,h.2.left g λb a=>by simpa using(uU b a).1⟩) O O λ_=>M ?_
 rw[show Nz 3 f rest=(Do f rest).bind λi=>(Do i.2.2 i.2.1).bind λd=>(Bm Ng 1 d.2.2 d.2.1).bind λu=>(Yd u.2.2 u.2.1).map λm=>({Cv with id:=i.1,kind:=3,dep:=d.1,samp:=u.1,im:=m.1},m.2.1,m.2.2)from rfl]at r;refine GF T (λs C B=>N5 C hs B) uT (λe=>by rw[r,e];rfl) rfl rfl λd p=> ?_
 rw[p,AB]at r;obtain⟨uZ,r1,f1⟩:=d;have Q:=Mv hs p;refine GF T (λs C B=>N5 C Q B) uT (λe=>by rw[r];simp only;rw[e];rfl) rfl rfl λd g=> ?_
 simp only at r;rw[g,AB]at r;obtain⟨K,r2,f2⟩:=d;have uW:=Mv Q g;refine ZI false<|ZI false<|GF T (λs C B=>Jy C uW B) uT (λe=>by rw[r];simp only;rw[e];rfl) rfl rfl λd e3=> ?_
 simp only at r;rw[e3,AB]at r;obtain⟨P,r3,f3⟩:=d;have uR:=Ou uW e3;simp only at r;cases uV:Yd f3 r3 with
 |none=>
  rw[uV]at r;exact s6 (L:=[gr]) (Φ':=Tp W w gt gr (bl y.1) (Zu a1 a2 a3 a4 a5 a6 (.slice y.1 m y.2) 1 ln a9)) (λs l h=>by have t:=ci (uY:=λb=>w.heap.size<=b) (h.1.re T l) uR h.1.br (λb a=>AQ h.1.sz a);rw[uV]at t;exact t) (λu h=>tG T u h.1) (λD u p g h _=>h.1.mp T p g) O O<|sX λs l h=>by rw[r];exact Tp.pan T l h rfl rfl
 | some d=>
  obtain⟨pl,r4,uX⟩:=d;rw[uV]at r;refine sZ (L:=[gr]) (Φ':=λ(q:Gh YZ λb=>w.heap.size<=b) u=>Tm W w gt gr (bl y.1) (Zu a1 a2 a3 a4 a5 a6 (.slice y.1 m y.2) 1 ln a9) (Lj A n c r4.length uX) u/\Y u W.heap.size 69 47 y.1 m y.2 xs/\Lz q.1.2 (λv=>O3 v q.1.1.1 pl.px.length 4 P7 pl.px) u) (λs l h=>by have t:=ci (uY:=λb=>w.heap.size<=b) (h.1.re T l) uR h.1.br (λb a=>AQ h.1.sz a);rw[uV]at t;exact t) (λu h=>tG T u h.1) (λq D u p g h (vg:K7 u gr (Lj A n c r4.length uX)/\Lz q.1.2 (λv=>O3 v q.1.1.1 pl.px.length 4 P7 pl.px) u)=>⟨h.1.mr T p g vg.1,uT D u p g h.1 h.2,vg.2⟩) O O λq=>M<|ZB 5 (L4 25 ⟨gt,6,none⟩) (.slice y.1 m y.2) (λs l h=>K9 O (by rw[h.1.bt.cell];rfl))<|sO (Kw 25 1 #[(0,Ya {Cv with id:=uZ,kind:=3,dep:=K,samp:=P,im:=pl} (bK q.1.1))]) (Kd 1) (Kr 69 (Yb {Cv with id:=uZ,kind:=3,dep:=K,samp:=P,im:=pl} (bK q.1.1)).toArray) O (λs l h=>Kb O) λgb=>H 0<|tz (L:=bl y.1) (val:=λ(z:YZ)=> .slice z.1 (m+1) z.2) (Φ':=λ(z:YZ) u=>Tm W w gt gr (bl y.1) (Zu a1 a2 a3 a4 a5 a6 (.slice y.1 m y.2) 1 ln a9) (Lj A n c r4.length uX) u/\Y u W.heap.size 69 47 z.1 (m+1) z.2 (xs++Yb {Cv with id:=uZ,kind:=3,dep:=K,samp:=P,im:=pl} (bK q.1.1))/\Lz q.1.2 (λv=>O3 v q.1.1.1 pl.px.length 4 P7 pl.px) u/\(∀b∈bl z.1,b∈bl y.1\/w.heap.size<=b)/\∀b,q.1.2 b->b∉bl z.1) (G:=λ(z:YZ) u=>Y u W.heap.size 69 47 z.1 (m+1) z.2 (xs++Yb {Cv with id:=uZ,kind:=3,dep:=K,samp:=P,im:=pl} (bK q.1.1))/\(∀b∈bl z.1,b∈bl y.1\/w.heap.size<=b)/\∀b,q.1.2 b->b∉bl z.1) (Ln 25 25 (.slice y.1 m y.2) (Kd 1 gb))
   (λs l h=>QW h.1.2.1 (AQ T.hW.size h.1.1.sz) h.2 hmm O λz hz=>⟨λb a=>(hz b a).imp id (AQ h.1.1.sz),λb a uS=>(hz b uS).elim (λk=>by have:=(vf.lt b k).2;have:=q.2 b a;omega) λk=>by have:=h.1.2.2.lt b a;omega⟩)
   (λu h b a=>⟨(vf.lt b a).1,(h.1.2.1.blk b a).2⟩)
   (λz D u p g h vg=>⟨⟨by rw[<-p];exact h.1.1.sz,λb C B S N ve=>(g b ve).symm.trans (h.1.1.fr b C B S N ve),h.1.1.bt.to (g gt λa=>(uU gt a).1 rfl).symm,h.1.1.br.to (g gr λa=>(uU gr a).2 rfl).symm⟩,vg.1,h.1.2.2.left p g (λb a uS=>by have:=(vf.lt b uS).2;have:=q.2 b a;omega),vg.2⟩) O O (λz=> ?_)
  refine M<|tJ (L:=[gt]) (G:=λu=>K7 u gt (Zu a1 a2 a3 a4 a5 a6 (.slice z.1 (m+1) z.2) 1 ln a9)) (Φ':=λu=>Tm W w gt gr (bl y.1) (Zu a1 a2 a3 a4 a5 a6 (.slice z.1 (m+1) z.2) 1 ln a9) (Lj A n c r4.length uX) u/\Y u W.heap.size 69 47 z.1 (m+1) z.2 (xs++Yb {Cv with id:=uZ,kind:=3,dep:=K,samp:=P,im:=pl} (bK q.1.1))/\Lz q.1.2 (λv=>O3 v q.1.1.1 pl.px.length 4 P7 pl.px) u/\(∀b∈bl z.1,b∈bl y.1\/w.heap.size<=b)/\∀b,q.1.2 b->b∉bl z.1) (Uk 25 ⟨gt,6,none⟩ (.slice z.1 (m+1) z.2)) (λs l h=>h.1.bt.store1 (j:=6) O rfl (by show 6<10;decide) rfl) (λu h=>tO T u h.1)
   (λD u p g h vg=>⟨h.1.mt T p g vg,h.2.1.left g (λb a uS=>by
    obtain rfl:b=gt:=by simpa using uS
    exact(h.2.2.2.1 b a).elim (λk=>(uU b k).1 rfl) λk=>by have:=ht.lt;omega),h.2.2.1.left p g (λb a uS=>by
    obtain rfl:b=gt:=by simpa using uS
    have:=ht.lt;have:=q.2 b a;omega),h.2.2.2⟩) O O ?_
  refine M<|ZV (.tuple #[]) (λs l h=> ?_)
  have k:=h s (AK _) (λ_ _ _=>rfl);rw[r];refine⟨(⟨q.1,λb a=>hQ b (q.2 b a)⟩,z),rfl,⟨l.os.trans T.hW.os.symm,l.tape.trans T.hW.tape.symm,l.output.trans T.hW.output.symm,k.1.sz,λb a F=> ?_⟩,λw'' C B=>⟨k.1.br.to (B gr (.inl Zs)),k.1.bt.to (B gt (.inl Zs)),k.2.1.same (λb a=>B b ((k.2.2.2.1 b a).imp (λx=>by simp[x]) λx=>⟨x,(k.2.1.lt b a).2⟩)),k.2.2.1.to C (λb a=>B b (.inr ⟨q.2 b a,k.2.2.1.lt b a⟩)),k.2.2.2⟩⟩;simp only[BG,not_or]at F;rcases BD b W.heap.size with h4|h4
  .rw[l.block b h4,T.hW.block b h4]
  .exact k.1.fr b h4 a F.1 F.2.1 F.2.2
end
def sD(N:Nd)(q:ND)(v:YM):List YM:=[I N.id,I N.kind,I N.dep]++(q.t.cl++ [.slice q.clA N.clip.length q.clc,I N.crule,v,I N.bl,.bool N.iso,.bool N.ko,.slice q.paA N.path.length q.pac,I N.frule,.slice q.fiA N.fill.length q.fic,I N.sty.w,I N.sty.j,I N.sty.c,I N.sty.m,.slice q.daA N.sty.d.length q.dac,I N.sty.p,.slice q.stA N.stroke.length q.stc,I N.im.w,I N.im.h,.slice q.pxA N.im.px.length q.pxc,I N.samp])
theorem rn{x:Int}(h:0<=x/\x<=255):XX.wrap x=((AN x.toNat).toNat:Int):=by
 obtain⟨k,rfl⟩:=Int.eq_ofNat_of_zero_le h.1;have a:k<=255:=J
 have e:(AN ((k:Int).toNat)).toNat=k:=by simp;omega
 rw[e];simp[IntKind.wrap,IntKind.signed,IntKind.bits];omega
section
variable{W w:YN}{gt gr n c m:Nat}{A:YY}{y:YZ}{ws0 rest:WS}{f:Bool}{s:R}{r:WS}{a1 a2 a3 a4 a5 a6 a9 wh:Int}{ln:Nat}
theorem pG{z:Int}{b a:Bool}(h:SR 0 255 f rest=some (z,b,r,a)):0<=z/\z<=255:=by
 cases b with
 |true=>exact Is h
 | false=>
  cases rest with
  |nil=>cases h
  | cons s r=>
   rw[show SR 0 255 f (s::r)=if Rp s 0 255=0 then some (Af s 0 255,true,r,f)else if Rp s 0 255=6 then some (0,false,r,true)else none from rfl]at h;split at h
   .cases h
   .split at h
    .cases h;exact⟨Int.le_refl _,by decide⟩
    .cases h
theorem eh{x:Bool×WS×Bool}(a:Qm ws0 n rest)(h:Cp f rest=some x):Qm ws0 n x.2.1:=by
 cases rest with
 |nil=>cases h
 | cons s r=>
  rw[show Cp f (s::r)=if s=[48]then some (false,r,f)else if s=[49]then some (true,r,f)else none from rfl]at h;split at h
  .injection h with h;subst h;exact a.tail
  .split at h
   .injection h with h;subst h;exact a.tail
   .cases h
theorem eo(hi:Cl s Lr=none):Zv 131 #[E s] w (.tuple #[I 0,.bool false]):=by
 have t:=TM (w:=w) (s:=s);rw[show p7 s=0 by unfold p7;rw[hi],hi]at t;exact t
theorem XU{j:Nat}(hi:Cl s Lr=some j):Zv 131 #[E s] w (.tuple #[I (1+(j:Int)),.bool true]):=by
 have t:=TM (w:=w) (s:=s);rw[show p7 s=1+(j:Int) by unfold p7;rw[hi],hi]at t;exact t
theorem VM{xs:List YM}(hmm:m<1000000)(hO:Y w W.heap.size 69 47 y.1 m y.2 xs)(hA:∀b∈bl y.1,b≠gt/\b≠gr)(T:TE W w gt gr (bl y.1) A n c ws0)(hs:Qm ws0 n rest)(ht:K7 w gt (Zu a1 a2 a3 a4 a5 a6 (.slice y.1 m y.2) wh ln a9))(hr:K7 w gr (Lj A n c rest.length f)):
 YG XW 69 #[Zq gt 0,Zq gr 0,E Y1] w
 (Yg w (gt::gr::bl y.1) S3 (Sj gt ln) (if wh≠1/\0<ln then Nz 1 f rest else none) (λ_ (_:YZ)=> .tuple #[]) (λd z u=>K7 u gr (Lj A n c d.2.1.length d.2.2)/\K7 u gt (Zu a1 a2 a3 a4 a5 a6 (.slice z.1 (m+1) z.2) 1 ln a9)/\
  Y u W.heap.size 69 47 z.1 (m+1) z.2 (xs++Yb d.1 (H7 (none,0)))/\∀b∈bl z.1,b∈bl y.1\/w.heap.size<=b)):=by
 have K:∀{tc rc:List YM} (uS u:YN),uS.heap.size=u.heap.size->(∀b,b∉[gr]->uS.heap[b]? =u.heap[b]?)->Tm W w gt gr (bl y.1) tc rc uS->Y uS W.heap.size 69 47 y.1 m y.2 xs->Y u W.heap.size 69 47 y.1 m y.2 xs:=λuS u F C _ h=>h.left C λb l=>by simpa using(hA b l).2
 obtain⟨o,g⟩:∃o,o=(if wh≠1/\0<ln then Nz 1 f rest else none):=⟨_,rfl⟩
 rw[<-g];refine ts func69 rfl T.hW (tQ (Φ':=λu=>Tm W w gt gr (bl y.1) (Zu a1 a2 a3 a4 a5 a6 (.slice y.1 m y.2) wh ln a9) (Lj A n c rest.length f) u/\Y u W.heap.size 69 47 y.1 m y.2 xs) (λu h=>⟨tX T ht hr u h,hO.same λb l=>h.2 b (hO.lt b l).1 (hO.lt b l).2⟩) ?_);refine M<|sV (L4 3 ⟨gt,7,none⟩) (I wh) O (λt p h=>K9 O (by rw[h.1.bt.cell];rfl))<|H 7 ?_
 by_cases h1:wh=1
 .rw[V (λh=>h.1 h1)]at g;exact ZT 18 (.bool (!(wh==1))) Zf (by rw[h1];rfl)<|s6 (L:=[]) (Φ':=Tp W w gt gr (bl y.1) (Zu a1 a2 a3 a4 a5 a6 (.slice y.1 m y.2) wh ln a9)) (λt p h=>D9 (gt:=gt) (z:=1) p) (λu h b l=>by cases l) (λuS u F C h _=>⟨by rw[<-F];exact h.1.sz,λb vg B uX P uR=>(C b Zs).symm.trans (h.1.fr b vg B uX P uR),h.1.bt.to (C gt Zs).symm⟩) O O<|sX λt p h=>by rw[g];exact Tp.pan T p h rfl rfl
 refine ZT 18 (.bool (!(wh==1))) Zt (by simp[h1])<|sV (L4 3 ⟨gt,8,none⟩) (I ln) O (λt p h=>K9 O (by rw[h.1.bt.cell];rfl))<|H 13 ?_
 by_cases h2:0<ln
 rotate_left
 .rw[V (λh=>h2 h.2)]at g;exact sM 24 (.bool (decide ((ln:Int)>0))) Zf O (by rw[YV J])<|s6 (L:=[]) (Φ':=Tp W w gt gr (bl y.1) (Zu a1 a2 a3 a4 a5 a6 (.slice y.1 m y.2) wh ln a9)) (λt p h=>D9 (gt:=gt) (z:=1) p) (λu h b l=>by cases l) (λuS u F C h _=>⟨by rw[<-F];exact h.1.sz,λb vg B uX P uR=>(C b Zs).symm.trans (h.1.fr b vg B uX P uR),h.1.bt.to (C gt Zs).symm⟩) O O<|sX λt p h=>by rw[g];exact Tp.pan T p h rfl rfl
 rw[YS ⟨h1,h2⟩]at g;refine sM 24 (.bool (decide ((ln:Int)>0))) Zt O (by rw[YU J])<|sZ (L:=[gt]) (Φ':=λ(_:Unit) u=>Tm W w gt gr (bl y.1) (Zu a1 a2 a3 a4 a5 a6 (.slice y.1 m y.2) 1 ln a9) (Lj A n c rest.length f) u/\Y u W.heap.size 69 47 y.1 m y.2 xs) (λt p h=>JJ (z:=1) p T.lt h.1.bt (by show 7<10;decide)) (λu h=>tO T u h.1) (λ_ uS u F C h uW=>⟨h.1.mt T F C uW,h.2.left C λb l=>by simpa using(hA b l).1⟩) O O λ_=>M ?_
 rw[show Nz 1 f rest=(Do f rest).bind λi=>(Do i.2.2 i.2.1).bind λd=>(SR 0 255 d.2.2 d.2.1).bind λo=>(e_ o.2.2.2 o.2.2.1).bind λm=>(Cp m.2.2 m.2.1).bind λa=>(Cp a.2.2 a.2.1).map λb=>({Cv with id:=i.1,kind:=1,dep:=d.1,op:=AN o.1.toNat,bl:=m.1,iso:=a.1,ko:=b.1},b.2.1,b.2.2)from rfl]at g;refine GF T (λt vg B=>N5 vg hs B) K (λe=>by rw[g,e];rfl) rfl rfl λd F=> ?_
 rw[F,AB]at g;obtain⟨S,r1,f1⟩:=d;have uU:=Mv hs F;refine GF T (λt vg B=>N5 vg uU B) K (λe=>by rw[g];simp only;rw[e];rfl) rfl rfl λd C=> ?_
 simp only at g;rw[C,AB]at g;obtain⟨N,r2,f2⟩:=d;have uT:=Mv uU C;refine ZI true<|GF (D:=Int×Bool×WS×Bool) (vq:=λd=> .tuple #[I d.1,.bool d.2.1]) (rs:=λd=>d.2.2.1) (fl:=λd=>d.2.2.2) T (λt vg B=>Xn vg uT B) K (λe=>by rw[g];simp only;rw[e];rfl) rfl rfl λd e3=> ?_
 simp only at g;rw[e3,AB]at g;obtain⟨vf,b3,r3,f3⟩:=d;have uZ:=Yr uT e3;have hx3:=pG e3;refine GF T (λt vg B=>aJ vg uZ B) K (λe=>by rw[g];simp only;cases r3 with|nil=>rfl|cons s r=>cases e) rfl rfl λd e4=> ?_
 cases r3 with
 |nil=>cases e4
 |cons s r=>
 cases e4;have Q:=uZ.tail;simp only at g;rw[show e_ f3 (s::r)=(Cl s Lr).map λ(k:Nat)=>(1+(k:Int),r,f3)from rfl]at g;cases hi:Cl s Lr with
 |none=>
  rw[hi]at g;exact Z (λt p h=>eo (s:=s) hi) λ_=>ZI true<|td (Instr.panic Kh >>= λv=>pure (.value v)) Kh O (λt p h=>by simp[Instr.panic,Kh,BE]) O<|sX λt p h=>by rw[g];exact Tp.pan T p ⟨h.1.1.sz,h.1.1.fr,h.1.1.bt⟩ rfl rfl
 |some j=>
 rw[hi,AY,AB]at g;refine Z (λt p h=>XU (s:=s) hi) λ_=>tA O (λu h=>h.1)<|ZI false<|GF T (λt vg B=>nQ vg Q B) K (λe=>by rw[g];simp only;rw[e];rfl) rfl rfl λd e5=> ?_
 simp only at g;rw[e5,AB]at g;obtain⟨uY,r5,f5⟩:=d;have hs5:=eh Q e5;refine GF T (λt vg B=>nQ vg hs5 B) K (λe=>by rw[g];simp only;rw[e];rfl) rfl rfl λd e6=> ?_
 simp only at g;rw[e6]at g;obtain⟨uV,r6,f6⟩:=d;have hx:BH .u8 (XX.wrap vf)= .int .u8 ((AN vf.toNat).toNat:Int):=by rw[rn hx3]
 refine ZB 5 (L4 25 ⟨gt,6,none⟩) (.slice y.1 m y.2) (λt p h=>K9 O (by rw[h.1.bt.cell];rfl))<|sO (Kw 25 1 #[(0,.agg (sD {Cv with id:=S,kind:=1,dep:=N,op:=AN vf.toNat,bl:=1+(j:Int),iso:=uY,ko:=uV} (H7 (none,0)) (.int .u8 (XX.wrap vf))).toArray)]) (Kd 1) (Kr 69 (sD {Cv with id:=S,kind:=1,dep:=N,op:=AN vf.toNat,bl:=1+(j:Int),iso:=uY,ko:=uV} (H7 (none,0)) (.int .u8 (XX.wrap vf))).toArray) O (λt p h=>Kb O) λgb=>H 0<|tz (L:=bl y.1) (val:=λ(z:YZ)=> .slice z.1 (m+1) z.2) (Φ':=λ(z:YZ) u=>Tm W w gt gr (bl y.1) (Zu a1 a2 a3 a4 a5 a6 (.slice y.1 m y.2) 1 ln a9) (Lj A n c r6.length f6) u/\Y u W.heap.size 69 47 z.1 (m+1) z.2 (xs++Yb {Cv with id:=S,kind:=1,dep:=N,op:=AN vf.toNat,bl:=1+(j:Int),iso:=uY,ko:=uV} (H7 (none,0)))/\∀b∈bl z.1,b∈bl y.1\/w.heap.size<=b) (G:=λ(z:YZ) u=>Y u W.heap.size 69 47 z.1 (m+1) z.2 (xs++Yb {Cv with id:=S,kind:=1,dep:=N,op:=AN vf.toNat,bl:=1+(j:Int),iso:=uY,ko:=uV} (H7 (none,0)))/\∀b∈bl z.1,b∈bl y.1\/w.heap.size<=b) (Ln 25 25 (.slice y.1 m y.2) (Kd 1 gb))
  (λt p h=>QW h.1.2 (AQ T.hW.size h.1.1.sz) (by have:=h.2;rw[hx]at this;exact this) hmm O λz hz=>λb l=>(hz b l).imp id (AQ h.1.1.sz))
  (λu h b l=>⟨(hO.lt b l).1,(h.1.2.blk b l).2⟩)
  (λz uS u F C h uW=>⟨⟨by rw[<-F];exact h.1.1.sz,λb vg B uX P uR=>(C b uR).symm.trans (h.1.1.fr b vg B uX P uR),h.1.1.bt.to (C gt λl=>(hA gt l).1 rfl).symm,h.1.1.br.to (C gr λl=>(hA gr l).2 rfl).symm⟩,uW⟩) O O (λz=> ?_)
 refine M<|tJ (L:=[gt]) (G:=λu=>K7 u gt (Zu a1 a2 a3 a4 a5 a6 (.slice z.1 (m+1) z.2) 1 ln a9)) (Φ':=λu=>Tm W w gt gr (bl y.1) (Zu a1 a2 a3 a4 a5 a6 (.slice z.1 (m+1) z.2) 1 ln a9) (Lj A n c r6.length f6) u/\Y u W.heap.size 69 47 z.1 (m+1) z.2 (xs++Yb {Cv with id:=S,kind:=1,dep:=N,op:=AN vf.toNat,bl:=1+(j:Int),iso:=uY,ko:=uV} (H7 (none,0)))/\∀b∈bl z.1,b∈bl y.1\/w.heap.size<=b) (Uk 25 ⟨gt,6,none⟩ (.slice z.1 (m+1) z.2)) (λt p h=>h.1.bt.store1 (j:=6) O rfl (by show 6<10;decide) rfl) (λu h=>tO T u h.1)
  (λuS u F C h uW=>⟨h.1.mt T F C uW,h.2.1.left C (λb l hc=>by
   obtain rfl:b=gt:=by simpa using hc
   exact(h.2.2 b l).elim (λk=>(hA b k).1 rfl) λk=>by have:=ht.lt;omega),h.2.2⟩) O O ?_
 refine M<|ZV (.tuple #[]) (λt p h=> ?_)
 have k:=h t (AK _) (λ_ _ _=>rfl);rw[g];refine⟨z,rfl,⟨p.os.trans T.hW.os.symm,p.tape.trans T.hW.tape.symm,p.output.trans T.hW.output.symm,k.1.sz,λb l ve=> ?_⟩,λw'' vg B=>⟨k.1.br.to (B gr (.inl Zs)),k.1.bt.to (B gt (.inl Zs)),k.2.1.same (λb l=>B b ((k.2.2 b l).imp (λx=>by simp[x]) λx=>⟨x,(k.2.1.lt b l).2⟩)),k.2.2⟩⟩;simp only[BG,not_or]at ve;rcases BD b W.heap.size with h4|h4
 .rw[p.block b h4,T.hW.block b h4]
 .exact k.1.fr b h4 l ve.1 ve.2.1 ve.2.2
end
theorem Y.storeN{P:YK}{t e:YH}{w:YN}{B s n c g j:Nat}{xs:List YM}{v:YM}(h:Y w B e s (some ⟨g,0,none⟩) n c xs)(vg:Ot P t=some v.cells.toList.length)(vf:j+v.cells.toList.length<=xs.length)(F:∀u∈v.cells.toList,u.oneCell'=true):
 ∃A,(Uk t ⟨g,j,none⟩ v).run P w= .ok .skip A/\SM [g] w A/\∀l,A.heap.size<=l.heap.size->(∀b∈[g],l.heap[b]? =A.heap[b]?)->Y l B e s (some ⟨g,0,none⟩) n c (xs.take j++v.cells.toList++xs.drop (j+v.cells.toList.length)):=by
 obtain⟨G,uZ⟩:=h;rcases uZ with ⟨f,_⟩|⟨uY,cap,a,f,N,C,D,ve,uR,L⟩
 .cases f
 injection f with f _ h3;injection f with f;injection f with f _ _;subst f;subst h3;obtain⟨vs,o⟩:∃vs,vs=v.cells.toList:=⟨_,rfl⟩
 rw[<-o]at vg vf F ⊢;have x:xs.length<=a.size:=by rw[G,uR];exact Nat.mul_le_mul_right _ D
 have y:a.toList=xs++a.toList.drop xs.length:=by
  rw[<-L,BQ,Nat.min_eq_left (by rw[G]at x;simpa using x),List.take_append_drop]
 have p:=run_storeCells_at P g j e vs 0 a w C J F;rw[BS]at p;have r:a.toList.take j++vs++a.toList.drop (j+vs.length)=(xs.take j++vs++xs.drop (j+vs.length))++a.toList.drop xs.length:=by
  rw[y,List.take_append_of_le_length J,List.drop_append_of_le_length J];simp
 have m:(xs.take j++vs++xs.drop (j+vs.length)).length=n*s:=by
  simp only[AH,BQ,CA];omega
 rw[r]at p;refine⟨w.setRow g ((xs.take j++vs++xs.drop (j+vs.length))++a.toList.drop xs.length).toArray,?_,⟨rfl,rfl,rfl,by rw[Qt];exact AK _,λk _ K=>Q2 _ _ _ _ (by simpa using K)⟩,λl Q uS=>⟨m,.inr ⟨g,c,((xs.take j++vs++xs.drop (j+vs.length))++a.toList.drop xs.length).toArray,rfl,N,?_,D,ve,?_,?_⟩⟩⟩;rotate_left
 .rw[uS g Zs];simp only[World.setRow,Array.getElem?_modify,if_true,C,AY]
 .simp only[List.size_toArray,AH,BQ,CA,Array.length_toList];omega
 .show List.take (n*s) ((xs.take j++vs++xs.drop (j+vs.length))++a.toList.drop xs.length)=_;rw[<-m,List.take_left]
 .simp only[Uk,Instr.storeAt,Instr.sureAddr,storeVar,BT,BU,BJ,M0 vg];rw[V (by rw[o];simp)];rw[show v.cells=vs.toArray by rw[o]];simp only[p,BU,BT,BJ]
section
variable{w w' u:YN}{g N:Nat}{ch:List YF}{e:YC}
theorem Lt.gh{D uX:Type}{q:Option D}{val:D->uX->YM}{A B C:D->uX->YN->Prop}{uY:Nat->Prop}(h:Lt w [g] ch q val (λd x u=>A d x u/\B d x u) e w')(p:∀d x u,B d x u->Lz (λb=>w.heap.size<=b/\b<u.heap.size) (C d x) u)(o:∀b,w.heap.size<=b->uY b):
 Lt w [g] ch q (λd (q:Gh uX uY)=>val d q.1.1) (λd q u=>A d q.1.1 u/\Lz q.1.2 (C d q.1.1) u) e w':=by
 cases q with
 |none=>exact h
 |some d=>
  obtain⟨x,r,m,l⟩:=h;have k:=p d x w' (l w' (AK _) λ_ _=>rfl).2;exact⟨⟨(x,λb=>w.heap.size<=b/\b<w'.heap.size),λb c=>o b c.1⟩,r,m,λa j f=>⟨(l a j f).1,k.to j λb c=>f b (.inr c)⟩⟩
theorem AF.n{t:TV}{T:Xm}(h:AF N t T u):Fu t T 125 u:=⟨h.a.1,h.b.1,h.c.1,h.d.1,h.e.1,h.f.1⟩
theorem Fu.isA{t:TV}{T:Xm}(h:Fu t T 125 u):Fv t T 125 u:=⟨h.a.q,h.b.q,h.c.q,h.d.q,h.e.q,h.f.q⟩
theorem AF.isA{t:TV}{T:Xm}(h:AF N t T u):Fv t T 125 u:=⟨h.a.1.q,h.b.1.q,h.c.1.q,h.d.1.q,h.e.1.q,h.f.1.q⟩
theorem AF.held{t:TV}{T:Xm}(h:AF N t T u):Lz (λb=>N<=b/\b<u.heap.size) (Fu t T 125) u:=
 ⟨λb j=>j.2,λv f a=>(h.same f λb c k=>a b ⟨c,k⟩).n⟩
theorem XP.prd{P:Pn}{q:PM}(h:XP N P q u):Hs P q 125 u:=
 ⟨Y.rowA (cl:=Sv) (λ_=>rfl) rfl h.st,Y.rowA (cl:=P7) (λ_=>rfl) rfl h.px,h.tr.elim (λk=>by rw[k.2.1,k.2.2];exact Fv.zero) λk=>k.2.isA⟩
theorem XP.held{P:Pn}{q:PM}(h:XP N P q u):Lz (λb=>N<=b/\b<u.heap.size) (Hs P q 125) u:=
 ⟨λb j=>j.2,λv f a=>(h.same f λb c k=>a b ⟨c,k⟩).prd⟩
end
section
variable{W w:YN}{g n c:Nat}{A:YY}{ws0 rest:WS}{f:Bool}
theorem iN{uY:Nat->Prop}(k:ML W)(a:RE W w g A n c ws0)(e:Qm ws0 n rest)(l:K7 w g (Lj A n c rest.length f))(j:∀b,w.heap.size<=b->uY b):YG XW 113 #[Zq g 0] w
 (Lt w [g] S3 (Jv f rest) (λd (q:Gh TV uY)=>q.1.1.val) (λd q u=>K7 u g (Lj A n c d.2.1.length d.2.2)/\Lz q.1.2 (Fu q.1.1 d.1 125) u)):=
 (WM k a e l).mono λ_ _ h=>h.gh (λ_ _ _=>AF.held) j
theorem dt{uY:Nat->Prop}(k:ML W)(a:RE W w g A n c ws0)(e:Qm ws0 n rest)(l:K7 w g (Lj A n c rest.length f))(j:∀b,w.heap.size<=b->uY b):YG XW 61 #[Zq g 0] w
 (Lt w [g] S3 (Fs f rest) (λd (q:Gh PM uY)=>U2 d.1 q.1.1) (λd q u=>K7 u g (Lj A n c 0 d.2)/\Lz q.1.2 (Hs d.1 q.1.1 125) u)):=
 (mD mY k a e l).mono λ_ _ h=>h.gh (λ_ _ _=>XP.held) j
end
abbrev Hy(S:TS)(y:YZ)(m:Nat):List YM:=Zu S.w S.h (S.bg.1.toNat:Int) (S.bg.2.1.toNat:Int) (S.bg.2.2.1.toNat:Int) (S.bg.2.2.2.toNat:Int) (.slice y.1 m y.2) S.wh S.ln S.far
def Sz(L:List (Nd×ND)):List YM:=L.flatMap λx=>Yb x.1 x.2
def cf(N:Nd)(q:ND)(v:YN):Prop:=NM N q 125 v/\(N.T=Pc\/Fu q.t N.T 125 v)
def Zg(L:List (Nd×ND))(v:YN):Prop:=∀x∈L,cf x.1 x.2 v
abbrev YL:Type:=(YZ)×List (Nd×ND)
structure Uh(W:YN)(gt:Nat)(y:YZ)(L:List (Nd×ND))(S':TS)(uY:Nat->Prop)(x:YL×(Nat->Prop))(u:YN):Prop where
 bt:K7 u gt (Hy S' x.1.1 x.1.2.length)
 row:Y u W.heap.size 69 47 x.1.1.1 x.1.2.length x.1.1.2 (Sz x.1.2)
 eq:x.1.2.map (·.1)=S'.nds
 hd:Lz x.2 (λv=>Zg L v->Zg x.1.2 v) u
 bl:∀b∈bl x.1.1.1,b∈Go.Proofs.YtnmokookhcgklaaGreatDoor.bl y.1\/uY b
 ap:∀b,x.2 b->b∉Go.Proofs.YtnmokookhcgklaaGreatDoor.bl x.1.1.1
theorem uA{w:YN}{K:Nat}:Cy w none [] K []:=⟨rfl,⟨rfl,λk x a=>by cases a⟩,λx b=>by cases b⟩
theorem tH{α:Type}{w:YN}{s:Nat}{cl:α->List YM}:O3 w none 0 s cl []:=⟨rfl,λk x a=>by cases a⟩
theorem tT{w:YN}:Qn w none 0 []:=⟨rfl,λk s a=>by cases a⟩
structure Js(N:Nd):Prop where
 T:N.T=Pc
 clip:N.clip=[]
 fill:N.fill=[]
 sty:N.sty=rr
 stroke:N.stroke=[]
theorem Js.nrd{N:Nd}{v:YN}{c px:YY}{a b:Nat}(h:Js N)(e:Qn v c N.path.length N.path)(f:O3 v px N.im.px.length 4 P7 N.im.px):cf N ⟨I0,none,0,c,a,none,0,[],none,0,none,0,[],px,b⟩ v:=by
 refine⟨⟨by rw[h.T];exact Fv.zero,by rw[h.clip];exact tT,e,by rw[h.fill];exact uA,by rw[h.sty];exact tH,by rw[h.stroke];exact uA,f⟩,.inl h.T⟩
theorem kn{f:Bool}{rest:WS}{d:Nd×WS×Bool}(h:Nz 1 f rest=some d):Js d.1/\d.1.path=[]/\d.1.im.px=[]:=by
 unfold Nz at h;obtain⟨i,_,h⟩:=AC.1 h;obtain⟨c,_,h⟩:=AC.1 h;rw[YS rfl]at h;obtain⟨o,_,h⟩:=AC.1 h;obtain⟨m,_,h⟩:=AC.1 h;obtain⟨a,_,h⟩:=AC.1 h;obtain⟨b,_,rfl⟩:=AM.1 h;exact⟨⟨rfl,rfl,rfl,rfl,rfl⟩,rfl,rfl⟩
theorem g8{f:Bool}{rest:WS}{d:Nd×WS×Bool}(h:Nz 2 f rest=some d):Js d.1/\d.1.im.px=[]:=by
 unfold Nz at h;obtain⟨i,_,h⟩:=AC.1 h;obtain⟨a,_,h⟩:=AC.1 h;rw[V Zd,YS rfl]at h;obtain⟨o,_,h⟩:=AC.1 h;obtain⟨b,_,rfl⟩:=AM.1 h;exact⟨⟨rfl,rfl,rfl,rfl,rfl⟩,rfl⟩
theorem ki{f:Bool}{rest:WS}{d:Nd×WS×Bool}(h:Nz 3 f rest=some d):Js d.1/\d.1.path=[]:=by
 unfold Nz at h;obtain⟨i,_,h⟩:=AC.1 h;obtain⟨a,_,h⟩:=AC.1 h;rw[V Zd,V Zd]at h;obtain⟨o,_,h⟩:=AC.1 h;obtain⟨b,_,rfl⟩:=AM.1 h;exact⟨⟨rfl,rfl,rfl,rfl,rfl⟩,rfl⟩
section
variable{W w w':YN}{gt gr n c:Nat}{A:YY}{y:YZ}{ws0 rest:WS}{f:Bool}{L:List (Nd×ND)}{S:TS}{e:YC}
def f_(S:TS)(k:Int)(f:Bool)(ws:WS):Option (TS×WS×Bool):=if S.wh≠1/\0<S.ln then(Nz k f ws).map λn=>({S with nds:=S.nds++ [n.1],wh:=1},n.2.1,n.2.2)else none
theorem Tf{x:Nd×ND}:Sz (L++ [x])=Sz L++Yb x.1 x.2:=by unfold Sz;simp
theorem Zg.snoc{v:YN}{x:Nd×ND}(h:Zg L v)(b:cf x.1 x.2 v):Zg (L++ [x]) v:=λz a=>by
 rcases AX.1 a with a|a
 .exact h z a
 .obtain rfl:z=x:=by simpa using a
  exact b
theorem IC{uX:Type}{k:Int}{nd:uX->ND}{bk:uX->Nat->Prop}{yy:uX->YZ}{uY:Nat->Prop}{LL:List Nat}{G0:YW}(ve:L.map (·.1)=S.nds)
 (h:Yg w LL S3 G0 (if S.wh≠1/\0<(S.ln:Nat)then Nz k f rest else none) (λ_ (_:uX)=> .tuple #[]) (λd x u=>K7 u gr (Lj A n c d.2.1.length d.2.2)/\K7 u gt (Zu S.w S.h (S.bg.1.toNat:Int) (S.bg.2.1.toNat:Int) (S.bg.2.2.1.toNat:Int) (S.bg.2.2.2.toNat:Int) (.slice (yy x).1 (L.length+1) (yy x).2) 1 S.ln S.far)/\
  Y u W.heap.size 69 47 (yy x).1 (L.length+1) (yy x).2 (Sz L++Yb d.1 (nd x))/\Lz (bk x) (λv=>cf d.1 (nd x) v) u/\(∀b∈bl (yy x).1,b∈bl y.1\/w.heap.size<=b)/\∀b,bk x b->b∉bl (yy x).1) e w')
 (r:∀x b,bk x b->uY b) (G:∀b,w.heap.size<=b->uY b):
 Yg w LL S3 G0 (f_ S k f rest) (λ_ (_:Gh YL uY)=> .tuple #[]) (λd x u=>K7 u gr (Lj A n c d.2.1.length d.2.2)/\Uh W gt y L d.1 uY x.1 u) e w':=by
 unfold f_
 by_cases g:S.wh≠1/\0<S.ln
 .rw[YS g]at h ⊢;cases j:Nz k f rest with
  |none=>rw[j]at h;exact h
  | some d=>
   rw[j]at h;obtain⟨x,uS,o,s⟩:=h;exact⟨⟨((yy x,L++ [(d.1,nd x)]),bk x),r x⟩,uS,o,λa m l=>by
    obtain⟨D,vg,B,F,t,C⟩:=s a m l;exact⟨D,⟨by show K7 a gt (Zu _ _ _ _ _ _ (.slice _ (L++ [(d.1,nd x)]).length _) _ _ _);rw[AH];exact vg,by show Y a _ _ _ _ (L++ [(d.1,nd x)]).length _ _;rw[AH,Tf];exact B,by show(L++ [(d.1,nd x)]).map (·.1)=S.nds++ [d.1];rw[AL,ve];rfl,F.imp λv p K=>K.snoc p,λb vf=>(t b vf).imp id (G b),C⟩⟩⟩
 .rw[V g]at h ⊢;exact h
theorem nm{k:R}{uY:Nat->Prop}(C:Ly k≠0)(uW:ML W)(p:L.length<1000000)(P:L.map (·.1)=S.nds)(K:Y w W.heap.size 69 47 y.1 L.length y.2 (Sz L))(Q:∀b∈bl y.1,b≠gt/\b≠gr)(B:∀b,w.heap.size<=b->uY b)(T:TE W w gt gr (bl y.1) A n c ws0)(uZ:Qm ws0 n rest)(N:K7 w gt (Hy S y L.length))(vf:K7 w gr (Lj A n c rest.length f)):
 YG XW 69 #[Zq gt 0,Zq gr 0,E k] w
 (Yg w (gt::gr::bl y.1) S3 (Sj gt S.ln) (f_ S (Ly k) f rest) (λ_ (_:Gh YL uY)=> .tuple #[]) (λd x u=>K7 u gr (Lj A n c d.2.1.length d.2.2)/\Uh W gt y L d.1 uY x.1 u)):=by
 unfold Ly at C ⊢
 by_cases o:k=Y1
 .subst o;rw[YS rfl];refine(VM p K Q T uZ N vf).mono λe w' h=>IC (uX:=YZ) (nd:=λ_=>H7 (none,0)) (bk:=λ_ _=>False) (yy:=λz=>z) P ?_ (λx b r=>r.elim) B
  revert h;generalize g:(if S.wh≠1/\0<(S.ln:Nat)then Nz 1 f rest else none)=q;intro h;cases q with
  |none=>exact h
  | some d=>
   have j:Js d.1/\d.1.path=[]/\d.1.im.px=[]:=by split at g;exact kn g;cases g
   obtain⟨x,o,l,m⟩:=h;exact⟨x,o,l,λa t s=>by
    obtain⟨vg,F,D,G⟩:=m a t s;exact⟨vg,F,D,tP λv=>j.1.nrd (by rw[j.2.1];exact tT) (by rw[j.2.2];exact tH),G,λb r=>r.elim⟩⟩
 rw[V o]at C ⊢
 by_cases l:k=Xq
 .subst l;rw[YS rfl];refine(UN uW p K Q B T uZ N vf).mono λe w' h=>IC (uX:=Gh YZ uY×(YZ)) (nd:=λx=>H7 x.1.1.1) (bk:=λx=>x.1.1.2) (yy:=λx=>x.2) P ?_ (λx b r=>x.1.2 b r) B
  revert h;generalize g:(if S.wh≠1/\0<(S.ln:Nat)then Nz 2 f rest else none)=q;intro h;cases q with
  |none=>exact h
  | some d=>
   have j:Js d.1/\d.1.im.px=[]:=by split at g;exact g8 g;cases g
   obtain⟨x,o,l,m⟩:=h;exact⟨x,o,l,λa t s=>by
    obtain⟨vg,F,D,G,ve,uR⟩:=m a t s;exact⟨vg,F,D,G.imp λv uS=>j.1.nrd uS (by rw[j.2];exact tH),ve,uR⟩⟩
 rw[V l]at C ⊢
 by_cases m:k=Zc
 .subst m;rw[YS rfl];refine(UY p K Q B T uZ N vf).mono λe w' h=>IC (uX:=Gh YZ uY×(YZ)) (nd:=λx=>bK x.1.1.1) (bk:=λx=>x.1.1.2) (yy:=λx=>x.2) P ?_ (λx b r=>x.1.2 b r) B
  revert h;generalize g:(if S.wh≠1/\0<(S.ln:Nat)then Nz 3 f rest else none)=q;intro h;cases q with
  |none=>exact h
  | some d=>
   have j:Js d.1/\d.1.path=[]:=by split at g;exact ki g;cases g
   obtain⟨x,o,l,m⟩:=h;exact⟨x,o,l,λa t s=>by
    obtain⟨vg,F,D,G,ve,uR⟩:=m a t s;exact⟨vg,F,D,G.imp λv uS=>j.1.nrd (by rw[j.2];exact tT) uS,ve,uR⟩⟩
 .rw[V m]at C;exact absurd rfl C
end
def sC{α:Type}(C:Prop)(ws:WS)(p:α×Oj):Option (α×WS×Bool)->Prop
 |none=>p.2.syn=true
 |some y=>p.2.syn=false/\p.2.rng=y.2.2/\y.2.1=ws.drop p.2.i/\(y.2.2=false->C->p.1=y.1)
def wT{α:Type}(C:Prop)(ws:WS)(x:Oj)(o:Option (α×WS×Bool))(p:α×Oj):Prop:=
 (x.syn=true->p.2.syn=true)/\(x.rng=true->p.2.rng=true)/\(x.syn=false->sC C ws p o)
section
variable{C:Prop}{ws l:WS}{x:Oj}
theorem tn{α β:Type}{o:Option (α×WS×Bool)}{p:α×Oj}{k:α×WS×Bool->Option (β×WS×Bool)}{q:β×Oj}(h:wT C ws x o p)(g:∀a,wT (C/\p.1=a) ws p.2 (k (a,ws.drop p.2.i,p.2.rng)) q):wT C ws x (o.bind k) q:=by
 refine⟨λj=>(g p.1).1 (h.1 j),λj=>(g p.1).2.1 (h.2.1 j),λj=> ?_⟩;have v:=h.2.2 j;cases o with
 |none=>exact(g p.1).1 v
 | some y=>
  obtain⟨a,r,f⟩:=y;obtain⟨vg,s,t,w⟩:=v;have s:p.2.rng=f:=s;have t:r=ws.drop p.2.i:=t;subst s t;have m:=(g a).2.2 vg;rw[AB];cases b:k (a,ws.drop p.2.i,p.2.rng)with
  |none=>rw[b]at m;exact m
  |some y=>
   rw[b]at m;obtain⟨B,u,F,D⟩:=m;refine⟨B,u,F,λe c=>D e ⟨c,w (BY.2 λA=> ?_) c⟩⟩;have:=(g a).2.1 A;rw[u,e]at this;cases this
theorem wT.map{α β:Type}{o:Option (α×WS×Bool)}{p:α×Oj}{F:α×WS×Bool->β×WS×Bool}{G:α->β}{g:β}(h:wT C ws x o p)(m:∀a r f,F (a,r,f)=(G a,r,f))(k:C->g=G p.1):wT C ws x (o.map F) (g,p.2):=by
 refine⟨h.1,h.2.1,λv=> ?_⟩;have b:=h.2.2 v;cases o with
 |none=>exact b
 |some y=>
  obtain⟨a,r,f⟩:=y;obtain⟨s,t,u,j⟩:=b;rw[AY,m];exact⟨s,t,u,λe c=>by rw[k c,j e c]⟩
theorem tN{α:Type}{o:WS->Option (α×WS×Bool)}{p:α×Oj}(c:ws[x.i]? =none)(e:o []=none)(a:p.2.syn=true)(b:x.rng=true->p.2.rng=true):wT C ws x (o (ws.drop x.i)) p:=
 ⟨λ_=>a,b,λ_=>by rw[Xj c,e];exact a⟩
theorem JL{lo hi:Int}{s:R}(f:Bool)(r:WS):SR lo hi f (s::r)=if Pw s=0/\lo<=O1 s/\O1 s<=hi then some (O1 s,true,r,f)else if Pw s=0\/Pw s=6 then some (0,false,r,true)else none:=by
 rw[Dq]
 by_cases a:Pw s=0
 .by_cases e:lo<=O1 s/\O1 s<=hi
  .have b:Rp s lo hi=0:=by unfold Rp;rw[YS a,V J]
   rw[YS b,YS ⟨a,e⟩];unfold Af;rw[YS b]
  .have b:Rp s lo hi=6:=by unfold Rp;rw[YS a,YS J]
   rw[V (by rw[b];decide),YS b,V (by intro h;exact e h.2),YS (.inl a)]
 .have b:Rp s lo hi=Pw s:=by unfold Rp;rw[V a]
  rw[V (by rw[b];exact a),b]
  by_cases c:Pw s=6
  .rw[YS c,V (by intro h;exact a h.1),YS (.inr c)]
  .rw[V c,V (by intro h;exact a h.1),V (by intro h;rcases h with h|h;exact a h;exact c h)]
theorem pV{s:R}(h:Pw s=0):c8<=O1 s/\O1 s<=dl:=by
 have b:=jX (s:=s);have a:=b.1;unfold Rp at a;rw[YS h]at a;split at a
 .rw[h]at a;exact absurd a Zd
 .omega
theorem ai{s:R}(f:Bool)(r:WS):Do f (s::r)=if Pw s=0 then some (O1 s,r,f)else if Pw s=6 then some (0,r,true)else none:=by
 unfold Do;rw[JL]
 by_cases a:Pw s=0
 .rw[YS ⟨a,pV a⟩,YS a];rfl
 .rw[V (λh=>a h.1),V a]
  by_cases b:Pw s=6
  .rw[YS (.inr b),YS b];rfl
  .rw[V (by intro h;rcases h with h|h;exact a h;exact b h),V b];rfl
theorem Rg:wT C ws x (Do x.rng (ws.drop x.i)) (Ms ws x):=by
 cases c:ws[x.i]? with
 |none=>exact tN c rfl (by unfold Ms;rw[Oh c];rfl) λh=>by unfold Ms;rw[Oh c];show(x.rng||_)=true;rw[h];rfl
 | some s=>
  have f:Ms ws x=(O1 s,⟨x.i+1,x.syn||decide (Pw s≠6/\Pw s≠0),x.rng||decide (Pw s=6)⟩):=by unfold Ms;rw[Pk c]
  rw[f];refine⟨λh=>by show(x.syn||_)=true;rw[h];rfl,λh=>by show(x.rng||_)=true;rw[h];rfl,λh=> ?_⟩;rw[(Ox c).1,ai,h]
  by_cases a:Pw s=0
  .rw[YS a];exact⟨by simp[a],by simp[a],rfl,λ_ _=>rfl⟩
  .rw[V a]
   by_cases b:Pw s=6
   .rw[YS b];exact⟨by simp[b],by simp[b],rfl,λe=>by cases e⟩
   .rw[V b];show(false||decide _)=true;simp[a,b]
theorem Hp{l m:WS}{frm:Int}(e:∀s,(Cg m s).map (λ(k:Nat)=>(k:Int))=(Cl s l).map λ(k:Nat)=>frm+(k:Int))(c:Cg m []=none):wT C ws x (Bm l frm x.rng (ws.drop x.i)) (Oi ws m x):=by
 cases a:ws[x.i]? with
 |none=>exact tN a rfl (by unfold Oi;rw[Oh a];simp only[c]) λh=>by unfold Oi;rw[Oh a];simp only[c];exact h
 | some s=>
  have f:Bm l frm x.rng (ws.drop x.i)=(Cl s l).map λ(k:Nat)=>(frm+(k:Int),ws.drop (x.i+1),x.rng):=by rw[(Ox a).1];rfl
  rw[f];unfold Oi;rw[Pk a];have:=e s;cases b:Cg m s with
  |none=>
   rw[b]at this;cases hi:Cl s l with
   |none=>exact⟨λ_=>rfl,λh=>h,λ_=>rfl⟩
   |some j=>rw[hi]at this;cases this
  | some k=>
   rw[b]at this;cases hi:Cl s l with
   |none=>rw[hi]at this;cases this
   |some j=>
    rw[hi]at this;injection this with this;exact⟨λh=>h,λh=>h,λh=>⟨h,rfl,rfl,λ_ _=>this⟩⟩
theorem NJ{l:WS}(b:([]:R)∉l)(s:R):(Cg l s).map (λ(k:Nat)=>(k:Int))=(Cl s l).map λ(k:Nat)=>0+(k:Int):=by
 have a:Cg l s=Cl s l:=by
  unfold Cg;split
  .rename_i e;subst e;cases h:Cl [] l with
   |none=>rfl
   |some k=>exact absurd (AE (JS h)) b
  .rfl
 rw[a];cases Cl s l<;>simp
theorem GO{l:WS}(s:R)(a:([]:R)∉l):(Cg ([]::l) s).map (λ(k:Nat)=>(k:Int))=(Cl s l).map λ(k:Nat)=>1+(k:Int):=by
 unfold Cg;split
 .rename_i e;subst e;cases h:Cl [] l with
  |none=>rfl
  |some k=>exact absurd (AE (JS h)) a
 .rename_i e;rw[Mf,V (Ne.symm e)];cases Cl s l with
  |none=>rfl
  |some k=>simp;omega
theorem ao:wT C ws x (XQ x.rng (ws.drop x.i)) (Sd ws x):=by
 have b:Dl []=none:=by unfold Dl;rw[V Zs]
 cases a:ws[x.i]? with
 |none=>exact tN a rfl (by unfold Sd;rw[Oh a];simp only[b]) λh=>by unfold Sd;rw[Oh a];simp only[b];exact h
 |some s=>
  have e:XQ x.rng (ws.drop x.i)=(Dl s).map λc=>(c,ws.drop (x.i+1),x.rng):=by rw[(Ox a).1];rfl
  rw[e];unfold Sd;rw[Pk a];cases Dl s with
  |none=>exact⟨λ_=>rfl,λh=>h,λ_=>rfl⟩
  |some c=>exact⟨λh=>h,λh=>h,λh=>⟨h,rfl,rfl,λ_ _=>rfl⟩⟩
theorem Wh:wT C ws x (ly x.rng (ws.drop x.i)) (Td ws x):=by
 cases a:ws[x.i]? with
 |none=>exact tN a rfl (by unfold Td;rw[Oh a];split<;>rfl) λh=>by unfold Td;rw[Oh a];split<;>exact h
 |some s=>
  rw[(Ox a).1,L6];unfold Td;rw[Pk a]
  by_cases b:Gy s=0
  .rw[YS b,YS b];exact⟨λh=>h,λh=>h,λh=>⟨h,rfl,rfl,λ_ _=>rfl⟩⟩
  .rw[V b,V b];exact⟨λ_=>rfl,λh=>h,λ_=>rfl⟩
theorem i3:wT C ws x (I_ x.rng (ws.drop x.i)) (gu ws x):=
 tn Rg λa=>wT.map (G:=λb=>(a,b)) Rg (λ_ _ _=>rfl) λc=>by rw[<-c.2]
theorem dB:wT C ws x (Jv x.rng (ws.drop x.i)) (MB ws x):=
 tn Wh λa=>tn Wh λb=>tn Wh λc=>tn Wh λd=>tn Wh λe=>wT.map (G:=λg=>(⟨a,b,c,d,e,g⟩:Xm)) Wh (λ_ _ _=>rfl) λ⟨⟨⟨⟨⟨_,h⟩,j⟩,f⟩,k⟩,m⟩=>by rw[<-h,<-j,<-f,<-k,<-m]
theorem NH(i:Nat):((∀f,SR 1 4096 f (ws.drop i)=none)/\∀r,(Ms ws ⟨i,false,r⟩).2.syn=true)\/∃(v:Int) (far g:Bool),(∀f,SR 1 4096 f (ws.drop i)=some (if g=true then v else 0,g,ws.drop (i+1),if g=true then f else true))/\(∀r,Ms ws ⟨i,false,r⟩=(v,⟨i+1,false,r||far⟩))/\(g=true↔far=false/\1<=v/\v<=4096):=by
 cases b:ws[i]? with
 |none=>exact .inl ⟨λf=>by rw[Xj (x:=⟨i,false,f⟩) b];rfl,λr=>by unfold Ms;rw[Oh (x:=⟨i,false,r⟩) b];rfl⟩
 | some s=>
  have j:∀r,Ms ws ⟨i,false,r⟩=(O1 s,⟨i+1,decide (Pw s≠6/\Pw s≠0),r||decide (Pw s=6)⟩):=λr=>by unfold Ms;rw[Pk (x:=⟨i,false,r⟩) b];rfl
  by_cases a:Pw s=0
  .refine .inr ⟨O1 s,false,decide (1<=O1 s/\O1 s<=4096),λf=> ?_,λr=>by rw[j];simp[a],by simp⟩;rw[(Ox b).1,JL]
   by_cases c:1<=O1 s/\O1 s<=4096
   .rw[YS ⟨a,c⟩];simp[c]
   .rw[V (λh=>c h.2),YS (.inl a),YV c];rfl
  .by_cases e:Pw s=6
   .refine .inr ⟨O1 s,true,false,λf=> ?_,λr=>by rw[j];simp[e],by simp⟩;rw[(Ox b).1,JL,V (λh=>a h.1),YS (.inr e)];rfl
   .refine .inl ⟨λf=> ?_,λr=>by rw[j];simp[a,e]⟩;rw[(Ox b).1,JL,V (λh=>a h.1),V (by intro h;rcases h with h|h;exact a h;exact e h)]
theorem WD:(x.syn=true->(Le ws x).2.syn=true)/\(Le ws x).2.rng=x.rng:=by
 unfold Le;split
 .exact⟨λ_=>rfl,rfl⟩
 .exact⟨λh=>h,rfl⟩
theorem nL:wT C ws x (Yd x.rng (ws.drop x.i)) (cS ws x):=by
 obtain⟨i,xs,o⟩:=x;obtain⟨a,r⟩:∃a,a=Ms ws ⟨i,xs,false⟩:=⟨_,rfl⟩
 obtain⟨b,t⟩:∃b,b=Ms ws a.2:=⟨_,rfl⟩
 obtain⟨g,p⟩:∃g,g=(!b.2.rng&&Tr a.1 b.1):=⟨_,rfl⟩
 obtain⟨y,c⟩:∃y,y=Le ws ⟨b.2.i,b.2.syn,o|| !g⟩:=⟨_,rfl⟩
 have uY:cS ws ⟨i,xs,o⟩=(⟨a.1,b.1,M5 ((Ao y.1).getD [])⟩,⟨y.2.i,y.2.syn||Hd g a.1 b.1 (Ao y.1),y.2.rng⟩):=by rw[c,p,t,r];rfl
 rw[uY];have P:xs=true->a.2.syn=true:=λh=>by rw[r];exact(Rg (C:=True)).1 h
 have ve:a.2.syn=true->b.2.syn=true:=λh=>by rw[t];exact(Rg (C:=True)).1 h
 have uZ:b.2.syn=true->y.2.syn=true:=λh=>by rw[c];exact WD.1 h
 have B:b.2.syn=true->(y.2.syn||Hd g a.1 b.1 (Ao y.1))=true:=λh=>by rw[uZ h];rfl
 have vf:y.2.rng=(o|| !g):=by rw[c];exact WD.2
 refine⟨λh=>B (ve (P h)),λh=>by show y.2.rng=true;rw[vf,show o=true from h];rfl,λh=> ?_⟩;have h:xs=false:=h;subst h;show sC C ws _ (Yd o (ws.drop i));unfold Yd;rcases NH (ws:=ws) i with ⟨G,n2⟩|⟨j,k,u,G,n2,N⟩
 .rw[G,Option.bind_none];exact B (ve (by rw[r];exact n2 _))
 rw[G,AB];rw[n2]at r;subst r;rcases NH (ws:=ws) (i+1)with ⟨D,uS⟩|⟨v2,m,w,D,uS,S⟩
 .simp only[D,Option.bind_none];exact B (by rw[t];exact uS _)
 simp only[D,AB];rw[uS]at t;subst t;cases v:ws[i+1+1]? with
 |none=>
  rw[Oh v]at c;simp only[Xj (x:=⟨i+1+1,false,false⟩) v];show(y.2.syn||_)=true;rw[c];rfl
 | some s=>
  rw[Pk v]at c;simp only[(Ox v).1];cases f:Ao s with
  |none=>show(y.2.syn||Hd _ _ _ (Ao y.1))=true;rw[c,f];rfl
  | some bs=>
   have K:g=true↔u=true/\w=true/\j*v2<=65536:=by
    rw[p,N,S];unfold Tr;cases k<;>cases m<;>simp<;>omega
   have vg:Hd g j v2 (Ao y.1)=(decide (bs.length%4≠0)||(g&&decide ((bs.length:Int)≠4*j*v2))):=by rw[c,f];rfl
   have Q:y.2.syn=false:=by rw[c]
   simp only;rw[Q,vg,vf]
   by_cases A:bs.length%4≠0
   .rw[YS A,YU A];rfl
   rw[V A,YV A];cases g with
   | false=>
    have F:u=false\/w=false\/j*v2>65536:=by
     cases u
     .exact .inl rfl
     cases w
     .exact .inr (.inl rfl)
     exact .inr (.inr (Int.not_le.1 λF=>by cases K.2 ⟨rfl,rfl,F⟩))
    rw[YS (by rcases F with e|e|e;exact .inl e;exact .inr (.inl e);cases u;exact .inl rfl;cases w;exact .inr (.inl rfl);exact .inr (.inr e))];exact⟨rfl,by simp,by rw[c],λe=>by cases e⟩
   |true=>
    obtain⟨L,uR,T⟩:=K.1 rfl;subst L uR;simp only[if_true];rw[V Zp]
    by_cases c2:(bs.length:Int)≠4*j*v2
    .rw[YS c2,YU c2];rfl
    rw[V c2,YV c2];exact⟨rfl,by simp,by rw[c],λe _=>by rw[c];show Im.mk _ _ (M5 ((Ao s).getD []))=_;rw[f];rfl⟩
def mU{α:Type}(C:Prop)(ws:WS)(p:α×Oj):Option (α×Bool)->Prop
 |none=>p.2.syn=true\/p.2.i<ws.length
 |some y=>p.2.syn=false/\p.2.rng=y.2/\ws.length<=p.2.i/\(y.2=false->C->p.1=y.1)
def FE{α:Type}(C:Prop)(ws:WS)(x:Oj)(o:Option (α×Bool))(p:α×Oj):Prop:=
 (x.syn=true->p.2.syn=true)/\(x.rng=true->p.2.rng=true)/\(x.syn=false->mU C ws p o)
theorem tB{α β:Type}{o:Option (α×WS×Bool)}{p:α×Oj}{k:α×WS×Bool->Option (β×Bool)}{q:β×Oj}(h:wT C ws x o p)(g:∀a,FE (C/\p.1=a) ws p.2 (k (a,ws.drop p.2.i,p.2.rng)) q):FE C ws x (o.bind k) q:=by
 refine⟨λj=>(g p.1).1 (h.1 j),λj=>(g p.1).2.1 (h.2.1 j),λj=> ?_⟩;have v:=h.2.2 j;cases o with
 |none=>exact .inl ((g p.1).1 v)
 | some y=>
  obtain⟨a,r,f⟩:=y;obtain⟨vg,s,t,w⟩:=v;have s:p.2.rng=f:=s;have t:r=ws.drop p.2.i:=t;subst s t;have m:=(g a).2.2 vg;rw[AB];cases b:k (a,ws.drop p.2.i,p.2.rng)with
  |none=>rw[b]at m;exact m
  |some y=>
   rw[b]at m;obtain⟨B,u,F,D⟩:=m;refine⟨B,u,F,λe c=>D e ⟨c,w (BY.2 λA=> ?_) c⟩⟩;have:=(g a).2.1 A;rw[u,e]at this;cases this
theorem FE.map{α β:Type}{o:Option (α×Bool)}{p:α×Oj}{F:α×Bool->β×Bool}{G:α->β}{g:β}(h:FE C ws x o p)(m:∀a f,F (a,f)=(G a,f))(k:C->g=G p.1):FE C ws x (o.map F) (g,p.2):=by
 refine⟨h.1,h.2.1,λu=> ?_⟩;have b:=h.2.2 u;cases o with
 |none=>exact b
 |some y=>
  obtain⟨a,f⟩:=y;obtain⟨r,s,t,j⟩:=b;rw[AY,m];exact⟨r,s,t,λe c=>by rw[k c,j e c]⟩
theorem uz{α β:Type}{o:Option (α×WS×Bool)}{p:α×Oj}{F:α->β}{g:β}(h:wT C ws x o p)(s:C->g=F p.1):FE C ws x (o.bind λy=>if y.2.1=[]then some (F y.1,y.2.2)else none) (g,p.2):=by
 refine⟨h.1,h.2.1,λw=> ?_⟩;have k:=h.2.2 w;cases o with
 |none=>exact .inl k
 | some y=>
  obtain⟨a,r,f⟩:=y;obtain⟨u,v,j,m⟩:=k;rw[AB];have j:r=ws.drop p.2.i:=j;show mU C ws _ (if r=[]then _ else _)
  by_cases b:r=[]
  .rw[YS b];exact⟨u,v,List.drop_eq_nil_iff.1 (j.symm.trans b),λe c=>by rw[s c,m e c]⟩
  .rw[V b];exact .inr (Nat.not_le.1 λt=>b (j.trans (BP t)))
theorem ob:∀(n:Nat) (x:Oj) (g:List (Int×Co)),ws.length-x.i<=n->FE C ws x ((EV x.rng (ws.drop x.i)).map λy=>(g++y.1,y.2)) (SQ ws n x g)
 | n,x,g,uV=>by
  rcases BD x.i ws.length with vg|D
  case inr=>
   have uU:ws.drop x.i=[]:=BP D;have uS:SQ ws n x g=(g,x):=by
    cases n with
    |zero=>rfl
    |succ n=>rw[SQ,V J]
   rw[uU,uS];exact⟨λh=>h,λh=>h,λh=>⟨h,rfl,D,λ_ _=>Zs⟩⟩
  obtain⟨n,rfl⟩:∃k,n=k+1:=⟨n-1,by omega⟩
  by_cases p:x.syn=true
  .rw[show SQ ws (n+1) x g=(g,x) by rw[SQ,V (by rw[p];simp)]];exact⟨λh=>h,λh=>h,λh=>absurd p (by rw[h];decide)⟩
  have p:x.syn=false:=by simpa using p
  rw[SQ,YS ⟨vg,p⟩];obtain⟨s,P⟩:∃s,ws[x.i]? =some s:=⟨_,AA vg⟩
  obtain⟨a,N⟩:∃a,a=Ms ws x:=⟨_,rfl⟩
  obtain⟨b,o⟩:∃b,b=Sd ws a.2:=⟨_,rfl⟩
  rw[<-N,<-o];have m:a=(O1 s,⟨x.i+1,decide (Pw s≠6/\Pw s≠0),x.rng||decide (Pw s=6)⟩):=by rw[N];unfold Ms;rw[Pk P,p];rfl
  have uW:x.i+1<=b.2.i:=by
   rw[o];unfold Sd Le;rw[m];split<;>split<;>simp
  have vf:=ob n b.2 (g++ [(a.1,b.1)]) J;have A1:x.rng=true->a.2.rng=true:=λh=>by rw[m];show(x.rng||_)=true;rw[h];rfl
  have B:=ao (C:=C) (ws:=ws) (x:=a.2);rw[<-o]at B;refine⟨λh=>absurd h (by rw[p];decide),λh=>vf.2.1 (B.2.1 (A1 h)),λ_=> ?_⟩;rw[(Ox P).1];have bad:a.2.syn=true->mU C ws (SQ ws n b.2 (g++ [(a.1,b.1)])) none:=λh=> .inl (vf.1 (B.1 h))
  have w:b.2.syn=true->mU C ws (SQ ws n b.2 (g++ [(a.1,b.1)])) none:=λh=> .inl (vf.1 h)
  by_cases j:Pw s≠6/\Pw s≠0
  .have uX:∀f,Do f [s]=none:=λf=>by rw[ai,V j.2,V j.1]
   have uY:∀f r,EV f (s::r)=none:=λf r=>by
    cases r with
    |nil=>rfl
    |cons c r=>rw[EV,uX];rfl
   rw[uY];exact bad (by rw[m];exact YU j)
  obtain⟨t,u⟩:∃t,t=(x.rng||decide (Pw s=6)):=⟨_,rfl⟩
  rw[<-u,YV j]at m;obtain⟨v,S,L⟩:∃v,Do x.rng [s]=some (v,[],t)/\(t=false->v=O1 s):=by
   rw[ai]
   by_cases A:Pw s=0
   .exact⟨O1 s,by rw[YS A,u,A];simp,λ_=>rfl⟩
   .have ve:Pw s=6:=Decidable.byContradiction λh=>j ⟨h,A⟩
    exact⟨0,by rw[V A,YS ve,u,ve];simp,λe=>by rw[u,ve]at e;simp at e⟩
  cases G:ws[x.i+1]? with
  |none=>
   rw[Xj (x:=⟨x.i+1,false,false⟩) G];refine w ?_;rw[o,m];unfold Sd;rw[Oh (x:=⟨x.i+1,false,t⟩) G];have A:Dl []=none:=by unfold Dl;rw[V Zs]
   simp only[A]
  | some c=>
   rw[(Ox G).1,EV,S];rw[m]at o;unfold Sd at o;rw[Pk (x:=⟨x.i+1,false,t⟩) G]at o;cases uR:Dl c with
   |none=>
    simp only[uR]at o;exact w (by rw[o])
   | some k=>
    simp only[uR]at o;have I2:=vf.2.2 (by rw[o]);rw[show b.2.rng=t by rw[o],show b.2.i=x.i+1+1 by rw[o]]at I2;have I3:t=true->(SQ ws n b.2 (g++ [(a.1,b.1)])).2.rng=true:=λh=>vf.2.1 (by rw[o];exact h)
    simp only[AB];cases uS:EV t (ws.drop (x.i+1+1))with
    |none=>rw[uS]at I2;exact I2
    |some y=>
     obtain⟨l,uZ⟩:=y;rw[uS]at I2;obtain⟨Q,F,W,T⟩:=I2;refine⟨Q,F,W,λe c=> ?_⟩;have e:uZ=false:=e;have F:_=uZ:=F;have K:v=O1 s:=L (BY.2 λh=>by have:=I3 h;rw[F,e]at this;cases this);rw[T e c,K,m,o];simp
theorem kl:FE C ws x (EV x.rng (ws.drop x.i)) (Uv ws x):=by
 have h:=ob (C:=C) (ws:=ws) ws.length x [] J;simp only[CO,Option.map_id']at h;exact h
theorem bP:wT C ws x (Bm Lm 0 x.rng (ws.drop x.i)) (Oi ws Lm x):=Hp (NJ Zd) rfl
theorem dk:wT C ws x (Bm Ng 1 x.rng (ws.drop x.i)) (Oi ws ([]::Ng) x):=Hp (λs=>GO s Zd) rfl
theorem qe:FE C ws x (G1 x.rng (ws.drop x.i)) (M_ ws x):=
 tB i3 λp=>tB i3 λq=>tB bP λk=>tB dB λt=>FE.map (G:=λl=>(⟨2,Ss,p.1,p.2,q.1,q.2,0,l,k,Yf,0,t⟩:Pn)) kl (λ_ _=>rfl) λ⟨⟨⟨⟨_,b⟩,e⟩,a⟩,c⟩=>by rw[<-b,<-e,<-a,<-c]
theorem p0:FE C ws x (Fy x.rng (ws.drop x.i)) (MU ws x):=
 tB i3 λp=>tB Rg λq=>tB bP λk=>tB dB λt=>FE.map (G:=λl=>(⟨3,Ss,p.1,p.2,0,0,q,l,k,Yf,0,t⟩:Pn)) kl (λ_ _=>rfl) λ⟨⟨⟨⟨_,b⟩,e⟩,a⟩,c⟩=>by rw[<-b,<-e,<-a,<-c]
theorem o9:FE C ws x (Fz x.rng (ws.drop x.i)) (MX ws x):=
 tB bP λk=>tB dk λn=>tB dB λt=>uz (F:=λm=>(⟨4,Ss,0,0,0,0,0,[],k,m,n,t⟩:Pn)) nL λ⟨⟨⟨_,b⟩,c⟩,a⟩=>by rw[<-b,<-c,<-a]
theorem pi:FE C ws x (IX x.rng (ws.drop x.i)) (⟨1,(Sd ws x).1,0,0,0,0,0,[],0,Yf,0,Pc⟩,(Sd ws x).2):=
 uz (F:=λc=>(⟨1,c,0,0,0,0,0,[],0,Yf,0,Pc⟩:Pn)) ao λ_=>rfl
theorem tV{α:Type}{o:Option (α×Bool)}{p:α×Oj}{i:Nat}{r:Bool}(h:FE C ws ⟨i,x.syn,r⟩ o p)(a:r=x.rng):FE C ws x o p:=⟨h.1,λe=>h.2.1 (a.trans e),h.2.2⟩
theorem nZ:FE C ws x (Fs x.rng (ws.drop x.i)) (G4 ws x):=by
 cases f:ws[x.i]? with
 |none=>
  have a:Oi ws [[],Nn,Ky,L7,Kx] x=(0,⟨x.i,true,x.rng⟩):=by unfold Oi;rw[Oh f];rfl
  have j:G4 ws x=(qC,⟨x.i,true,x.rng⟩):=by unfold G4;rw[a];rfl
  rw[j,Xj f];exact⟨λ_=>rfl,λh=>h,λ_=> .inl rfl⟩
 | some s=>
  rw[(Ox f).1,We];have a:∀k:Nat,Cg [[],Nn,Ky,L7,Kx] s=some k->Oi ws [[],Nn,Ky,L7,Kx] x=((k:Int),⟨x.i+1,x.syn,x.rng⟩):=λk h=>by unfold Oi;rw[Pk f];simp only[h]
  by_cases b:s=Nn
  .rw[YS b,show G4 ws x=_ by unfold G4;rw[a 1 (by rw[b];decide)]];exact tV (pi (x:=⟨x.i+1,x.syn,x.rng⟩)) rfl
  by_cases c:s=Ky
  .rw[V b,YS c,show G4 ws x=_ by unfold G4;rw[a 2 (by rw[c];decide)]];exact tV (qe (x:=⟨x.i+1,x.syn,x.rng⟩)) rfl
  by_cases e:s=L7
  .rw[V b,V c,YS e,show G4 ws x=_ by unfold G4;rw[a 3 (by rw[e];decide)]];exact tV (p0 (x:=⟨x.i+1,x.syn,x.rng⟩)) rfl
  by_cases g:s=Kx
  .rw[V b,V c,V e,YS g,show G4 ws x=_ by unfold G4;rw[a 4 (by rw[g];decide)]];exact tV (o9 (x:=⟨x.i+1,x.syn,x.rng⟩)) rfl
  rw[V b,V c,V e,V g];have m:Cg [[],Nn,Ky,L7,Kx] s=none:=by
   unfold Cg;split
   .rfl
   .rename_i o;rw[Mf,V (Ne.symm o),Mf,V (Ne.symm b),Mf,V (Ne.symm c),Mf,V (Ne.symm e),Mf,V (Ne.symm g)];rfl
  have a:Oi ws [[],Nn,Ky,L7,Kx] x=(0,⟨x.i+1,true,x.rng⟩):=by unfold Oi;rw[Pk f];simp only[m]
  have j:G4 ws x=(qC,⟨x.i+1,true,x.rng⟩):=by unfold G4;rw[a];rfl
  rw[j];exact⟨λ_=>rfl,λh=>h,λ_=> .inl rfl⟩
end
def Cr(ws:WS)(x:Oj):List Sg×Oj:=
 let y:=Le ws x
 ((Mq y.1).1,if (Mq y.1).2.2=6 then⟨y.2.i,y.2.syn,true⟩else if (Mq y.1).2.2=0 then y.2 else⟨y.2.i,true,y.2.rng⟩)
def lc(ws:WS)(x:Oj):Bool×Oj:=(decide ((Oi ws [[48],[49]] x).1=1),(Oi ws [[48],[49]] x).2)
def k9(ws:WS):Nat->Oj->List Int->List Int×Oj
 |0,x,a=>(a,x)
 |n+1,x,a=>k9 ws n (Ms ws x).2 (a++ [(Ms ws x).1])
def Je(ws:WS)(x:Oj):List Int×Oj:=
 let y:=Le ws x
 if Pw y.1≠0\/O1 y.1<0\/O1 y.1>(ws.length:Int)- (y.2.i:Int)then([],⟨y.2.i,true,y.2.rng⟩)else k9 ws (O1 y.1).toNat y.2 []
def jt:WS:=[]::Ri
def mc:WS:=[]:: []:: []::Ud
def LA(ws:WS)(x:Oj):Fo×Oj:=
 let w:=Ms ws x;let j:=Oi ws jt w.2;let c:=Oi ws mc j.2;let m:=Ms ws c.2;let p:=Ms ws m.2;let d:=Je ws p.2
 (⟨w.1,j.1,c.1,m.1,d.1,p.1⟩,d.2)
def gF(ws:WS)(x:Oj):UInt8×Oj:=
 let n:=Ms ws x
 (AN (n.1%256).toNat,⟨n.2.i,n.2.syn,n.2.rng||decide (n.1<0\/n.1>255)⟩)
def Y0(k:Int)(ws:WS)(x:Oj):Nd×Oj:=
 let i:=Ms ws x;let d:=Ms ws i.2
 if k=1 then(let o:=gF ws d.2;let m:=Oi ws ([]::Lr) o.2;let a:=lc ws m.2;let b:=lc ws a.2
  ({Cv with id:=i.1,kind:=1,dep:=d.1,op:=o.1,bl:=m.1,iso:=a.1,ko:=b.1},b.2))
 else if k=2 then(let u:=Oi ws ([]::M2) d.2;let p:=Cr ws u.2
  ({Cv with id:=i.1,kind:=2,dep:=d.1,frule:=u.1,path:=p.1},p.2))
 else(let u:=Oi ws ([]::Ng) d.2;let m:=cS ws u.2
  ({Cv with id:=i.1,kind:=3,dep:=d.1,samp:=u.1,im:=m.1},m.2))
section
variable{C:Prop}{ws l:WS}{x:Oj}
theorem cZ:wT C ws x (Tc x.rng (ws.drop x.i)) (Cr ws x):=by
 cases a:ws[x.i]? with
 |none=>
  refine tN a rfl ?_ λh=> ?_
  .unfold Cr;rw[Oh a];show Oj.syn (if _ then _ else if _ then _ else _)=true;split;rfl;split<;>rfl
  .unfold Cr;rw[Oh a];show Oj.rng (if _ then _ else if _ then _ else _)=true;split;rfl;split<;>exact h
 | some s=>
  rw[(Ox a).1];unfold Tc Cr;rw[Pk a]
  by_cases b:(Mq s).2.2=0
  .simp only[b];exact⟨λh=>h,λh=>h,λh=>⟨h,rfl,rfl,λ_ _=>rfl⟩⟩
  .by_cases c:(Mq s).2.2=6
   .simp only[c];exact⟨λh=>h,λh=>rfl,λh=>⟨h,rfl,rfl,λe=>by cases e⟩⟩
   .simp only[b,c,if_false];exact⟨λh=>rfl,λh=>h,λh=>rfl⟩
theorem ji:wT C ws x (Cp x.rng (ws.drop x.i)) (lc ws x):=by
 have h:=Hp (C:=C) (ws:=ws) (x:=x) (l:=[[48],[49]]) (m:=[[48],[49]]) (NJ Zd) rfl;have j:=wT.map (F:=λy=>(decide (y.1=1),y.2)) (G:=λa=>decide (a=1)) (g:=decide ((Oi ws [[48],[49]] x).1=1)) h (λ_ _ _=>rfl) λ_=>rfl
 have e:∀f v,Cp f v=(Bm [[48],[49]] 0 f v).map λy=>(decide (y.1=1),y.2):=λf v=>by
  cases v with
  |nil=>rfl
  | cons s r=>
   show(if s=[48]then _ else if s=[49]then _ else _)=((Cl s [[48],[49]]).map _).map _;rw[Mf,Mf]
   by_cases b:s=[48]
   .subst b;rfl
   .rw[V b,V (Ne.symm b)]
    by_cases c:s=[49]
    .subst c;rfl
    .rw[V c,V (Ne.symm c)];rfl
 rw[e];exact j
theorem qE:wT C ws x (e_ x.rng (ws.drop x.i)) (Oi ws ([]::Lr) x):=by
 have h:=Hp (C:=C) (ws:=ws) (x:=x) (l:=Lr) (m:=[]::Lr) (frm:=1) (λs=>GO s Zd) rfl;have e:∀f v,e_ f v=Bm Lr 1 f v:=λf v=>by cases v<;>rfl
 rw[e];exact h
theorem dc:wT C ws x (Bm M2 1 x.rng (ws.drop x.i)) (Oi ws ([]::M2) x):=Hp (λs=>GO s Zd) rfl
theorem mj:wT C ws x (Bm Ri 1 x.rng (ws.drop x.i)) (Oi ws jt x):=Hp (λs=>GO s Zd) rfl
theorem pz:wT C ws x (Bm Ud 3 x.rng (ws.drop x.i)) (Oi ws mc x):=Hp (λs=>by
 unfold Cg;split
 .rename_i e;subst e
  rfl
 .rename_i e;rw[mc,Mf,V (Ne.symm e),Mf,V (Ne.symm e),Mf,V (Ne.symm e)];cases Cl s Ud with
  |none=>rfl
  |some k=>simp;omega) rfl
theorem og:∀(n:Nat) {x:Oj} {C:Prop} (f b:List Int),(C->b=f)->wT C ws x ((Dp n x.rng (ws.drop x.i)).map λy=>(f++y.1,y.2)) (k9 ws n x b)
 |0,x,C,f,b,h=>⟨λh=>h,λh=>h,λg=>⟨g,rfl,rfl,λ_ c=>by rw[h c];simp[k9]⟩⟩
 | n+1,x,C,f,b,h=>by
  have e:(Dp (n+1) x.rng (ws.drop x.i)).map (λy=>(f++y.1,y.2))=(Do x.rng (ws.drop x.i)).bind λa=>(Dp n a.2.2 a.2.1).map λy=>((f++ [a.1])++y.1,y.2):=by
   rw[Dp];cases Do x.rng (ws.drop x.i)with
   |none=>rfl
   |some a=>
    rw[AB,AB,CF];congr 1
    funext y
    simp
  rw[e];exact tn Rg λa=>og n (f++ [a]) (b++ [(Ms ws x).1]) λ⟨c,e⟩=>by rw[h c,e]
theorem lv:wT C ws x (iI x.rng (ws.drop x.i)) (Je ws x):=by
 cases b:ws[x.i]? with
 |none=>
  have h:Je ws x=([],⟨x.i,true,x.rng⟩):=by unfold Je;rw[Oh b];rfl
  rw[h];exact tN b rfl rfl λh=>h
 | some s=>
  obtain⟨e,f⟩:=Ox b;have c:((ws.drop (x.i+1)).length:Int)=(ws.length:Int)- ((x.i+1:Nat):Int):=by rw[CA];omega
  rw[e];unfold Je;rw[Pk b];show wT C ws x (if Pw s≠0\/O1 s<0\/O1 s>((ws.drop (x.i+1)).length:Int)then none else Dp (O1 s).toNat x.rng (ws.drop (x.i+1))) (if Pw s≠0\/O1 s<0\/O1 s>(ws.length:Int)- ((x.i+1:Nat):Int)then(([]:List Int),(⟨x.i+1,true,x.rng⟩:Oj))else k9 ws (O1 s).toNat ⟨x.i+1,x.syn,x.rng⟩ []);rw[c]
  by_cases a:Pw s≠0\/O1 s<0\/O1 s>(ws.length:Int)- ((x.i+1:Nat):Int)
  .rw[YS a,YS a];exact⟨λ_=>rfl,λh=>h,λ_=>rfl⟩
  .rw[V a,V a];have h:=og (ws:=ws) (O1 s).toNat (x:=⟨x.i+1,x.syn,x.rng⟩) (C:=C) [] [] λ_=>rfl
   simp only[CO,Option.map_id']at h;exact h
theorem oK:wT C ws x (Xw x.rng (ws.drop x.i)) (LA ws x):=
 tn Rg λw=>tn mj λj=>tn pz λc=>tn Rg λm=>tn Rg λp=>wT.map (G:=λd=>(⟨w,j,c,m,d,p⟩:Fo)) lv (λ_ _ _=>rfl) λ⟨⟨⟨⟨⟨_,b⟩,e⟩,a⟩,f⟩,g⟩=>by rw[<-b,<-e,<-a,<-f,<-g]
theorem oI:wT C ws x ((SR 0 255 x.rng (ws.drop x.i)).map λo=>(AN o.1.toNat,o.2.2)) (gF ws x):=by
 have A:=Rg (C:=C) (ws:=ws) (x:=x);refine⟨λh=>A.1 h,λh=>by show(_||_)=true;rw[A.2.1 h];rfl,λh=> ?_⟩;cases c:ws[x.i]? with
 |none=>
  rw[Xj c];show(Ms ws x).2.syn=true;unfold Ms;rw[Oh c];rfl
 | some s=>
  have j:Ms ws x=(O1 s,⟨x.i+1,decide (Pw s≠6/\Pw s≠0),x.rng||decide (Pw s=6)⟩):=by unfold Ms;rw[Pk c,h];rfl
  rw[(Ox c).1,JL];unfold gF;rw[j]
  by_cases a:Pw s=0
  .by_cases f:0<=O1 s/\O1 s<=255
   .rw[YS ⟨a,f⟩];have g:¬(O1 s<0\/O1 s>255):=J
    refine⟨by simp[a],by simp[a,g],rfl,λ_ _=> ?_⟩;show AN (O1 s%256).toNat=AN (O1 s).toNat;rw[Int.emod_eq_of_lt f.1 J]
   .rw[V (λh=>f h.2),YS (.inl a)];have g:O1 s<0\/O1 s>255:=J
    exact⟨by simp[a],by simp[g],rfl,λe=>by cases e⟩
  .rw[V (λh=>a h.1)]
   by_cases b:Pw s=6
   .rw[YS (.inr b)];exact⟨by simp[b],by simp[b],rfl,λe=>by cases e⟩
   .rw[V (by intro h;rcases h with h|h;exact a h;exact b h)];show decide _=true;simp[a,b]
theorem jV{β:Type}{o:Option (Int×Bool×WS×Bool)}{k:UInt8×WS×Bool->Option β}:(o.bind λy=>k (AN y.1.toNat,y.2.2))=(o.map λy=>(AN y.1.toNat,y.2.2)).bind k:=by cases o<;>rfl
theorem mS{k:Int}:wT C ws x (Nz k x.rng (ws.drop x.i)) (Y0 k ws x):=by
 unfold Nz Y0
 by_cases c:k=1
 .simp only[YS c];exact tn Rg λi=>tn Rg λd=>(jV (k:=λo=>(e_ o.2.2 o.2.1).bind λm=>(Cp m.2.2 m.2.1).bind λa=>(Cp a.2.2 a.2.1).map λb=>({Cv with id:=i,kind:=1,dep:=d,op:=o.1,bl:=m.1,iso:=a.1,ko:=b.1},b.2.1,b.2.2)))▸tn oI λo=>tn qE λm=>tn ji λa=>wT.map (G:=λb=>({Cv with id:=i,kind:=1,dep:=d,op:=o,bl:=m,iso:=a,ko:=b}:Nd)) ji (λ_ _ _=>rfl) λ⟨⟨⟨⟨⟨_,c⟩,e⟩,f⟩,g⟩,h⟩=>by rw[<-c,<-e,<-f,<-g,<-h]
 by_cases e:k=2
 .simp only[V c,YS e];exact tn Rg λi=>tn Rg λd=>tn dc λu=>wT.map (G:=λp=>({Cv with id:=i,kind:=2,dep:=d,frule:=u,path:=p}:Nd)) cZ (λ_ _ _=>rfl) λ⟨⟨⟨_,c⟩,e⟩,f⟩=>by rw[<-c,<-e,<-f]
 .simp only[V c,V e];exact tn Rg λi=>tn Rg λd=>tn dk λu=>wT.map (G:=λm=>({Cv with id:=i,kind:=3,dep:=d,samp:=u,im:=m}:Nd)) nL (λ_ _ _=>rfl) λ⟨⟨⟨_,c⟩,e⟩,f⟩=>by rw[<-c,<-e,<-f]
end
def SS(S:Sc):Nd:=(S.nds.getLast?).getD Cv
def Ts(S:Sc):Int:=match S.nds.getLast? with
 |none=>0
 |some N=>N.kind
def Ye(a b:R)(kind:Int):Bool:=
 if b=[]\/a=Lx then decide (b=[]/\a=Lx)
 else if 0<Ly a then decide (Ly b=0)
 else if a=My then decide (0<Ly b)
 else if a=Oy then decide (b=My)
 else if a=Qw then decide (kind=2/\(b=My\/b=Oy))
 else if a=O8 then decide (kind=2/\(b=My\/b=Oy\/b=Qw))
 else false
def G5(N:Nd)(a:R)(ws:WS)(x:Oj):Nd×Oj:=
 if a=My then(let t:=MB ws x;({N with T:=t.1},t.2))
 else if a=Oy then(let k:=Oi ws ([]::M2) x;let p:=Cr ws k.2;({N with crule:=k.1,clip:=p.1},p.2))
 else if a=Qw then(let p:=G4 ws x;({N with fill:=[p.1]},p.2))
 else(let s:=LA ws x;let p:=G4 ws s.2;({N with sty:=s.1,stroke:=[p.1]},p.2))
def O6(S:Sc)(k:R)(ws:WS):Sc×Oj:=
 if k=Lx then(let w:=Ms ws ⟨1,false,false⟩;let h:=Ms ws w.2;let c:=Sd ws h.2;(⟨w.1,h.1,c.1,[]⟩,c.2))
 else if 0<Ly k then(let n:=Y0 (Ly k) ws ⟨1,false,false⟩;({S with nds:=S.nds++ [n.1]},n.2))
 else(let n:=G5 (SS S) k ws ⟨1,false,false⟩;({S with nds:=R0 S.nds n.1},n.2))
structure qn where
 S:Sc
 bf:R
 far:Nat
def Sr(n:Nat)(L:qn)(i:Nat):List R->Sc×Nat×Nat
 | []=>(L.S,if 0<Ly L.bf then i else n+1,L.far)
 | l::r=>if Rq (Kt l)=true then(match Al (Kt l)with
  | []=>(L.S,i,L.far)
  |k::ws=>if Ye k L.bf (Ts L.S)=true/\(O6 L.S k (k::ws)).2.syn=false/\(O6 L.S k (k::ws)).2.i=ws.length+1 then
   Sr n ⟨(O6 L.S k (k::ws)).1,k,if (O6 L.S k (k::ws)).2.rng=true/\n<L.far then i else L.far⟩ (i+1) r
   else(L.S,i,L.far))else(L.S,i,L.far)
def ZP(s:R):Sc×Nat×Int:=
 if 65536<s.length then(Gs,0,5)else if s.getLast? ≠some 10 then(Gs,0,3)else
  let n:=(Lu s).length
  let q:=Sr n ⟨Gs,[],n+1⟩ 0 (Lu s)
  if q.2.1<=n then(Gs,q.2.1,3)else if q.2.2<=n then(Gs,q.2.2,6)else if A8 q.1=true/\Ju q.1=s then(q.1,0,0)else(Gs,n,18)
section
variable{C:Prop}{ws l W:WS}{x:Oj}
def Bd(ws:WS)(x y:Oj):Prop:=x.i<=ws.length->y.i<=ws.length
theorem Bd.trans{x y z:Oj}(h:Bd ws x y)(b:Bd ws y z):Bd ws x z:=λa=>b (h a)
theorem E7:Bd ws x (Le ws x).2:=λh=>by
 unfold Le;split
 .exact h
 .rename_i s a;exact(AP.1 a).1
theorem Rh:Bd ws x (Ms ws x).2:=E7 (x:=x)
theorem Tj{m:WS}:Bd ws x (Oi ws m x).2:=λh=>by unfold Oi;split<;>exact E7 h
theorem az:Bd ws x (Sd ws x).2:=λh=>by unfold Sd;split<;>exact E7 h
theorem Wi:Bd ws x (Td ws x).2:=λh=>by unfold Td;split<;>exact E7 h
theorem jH:Bd ws x (gu ws x).2:=Rh.trans Rh
theorem cD:Bd ws x (MB ws x).2:=Wi.trans<|Wi.trans<|Wi.trans<|Wi.trans<|Wi.trans Wi
theorem oi:Bd ws x (cS ws x).2:=λh=>by
 unfold cS;refine E7 (x:=⟨_,_,_⟩) (Rh (Rh (x:=⟨x.i,x.syn,false⟩) h))
theorem oy:∀(n:Nat) (x:Oj) (a:List (Int×Co)),Bd ws x (SQ ws n x a).2
 |0,x,a=>λh=>h
 |n+1,x,a=>λh=>by
  rw[SQ];split
  .exact oy n _ _ (az (Rh h))
  .exact h
theorem iE:Bd ws x (Uv ws x).2:=oy _ _ _
theorem pS:Bd ws x (M_ ws x).2:=jH.trans<|jH.trans<|Tj.trans<|cD.trans iE
theorem qb:Bd ws x (MU ws x).2:=jH.trans<|Rh.trans<|Tj.trans<|cD.trans iE
theorem pT:Bd ws x (MX ws x).2:=Tj.trans<|Tj.trans<|cD.trans oi
theorem oo:Bd ws x (G4 ws x).2:=λh=>by
 have a:=Tj (m:=[[],Nn,Ky,L7,Kx]) h;unfold G4;simp only;split
 .exact az a
 split
 .exact pS a
 split
 .exact qb a
 split
 .exact pT a
 .exact a
theorem dT:Bd ws x (Cr ws x).2:=λh=>by
 have:=E7 h;show Oj.i (if _ then _ else if _ then _ else _)<=_;split
 .exact this
 split<;>exact this
theorem ol:∀(n:Nat) (x:Oj) (a:List Int),Bd ws x (k9 ws n x a).2
 |0,x,a=>λh=>h
 |n+1,x,a=>λh=>ol n _ _ (Rh h)
theorem lO:Bd ws x (Je ws x).2:=λh=>by
 have:=E7 h;unfold Je;simp only;split
 .exact this
 .exact ol _ _ _ this
theorem pC:Bd ws x (LA ws x).2:=Rh.trans<|Tj.trans<|Tj.trans<|Rh.trans<|Rh.trans lO
theorem lC{k:Int}:Bd ws x (Y0 k ws x).2:=λh=>by
 have a:=Rh (Rh h);unfold Y0;simp only;split
 .exact Tj (Tj (Tj (Rh a)))
 split
 .exact dT (Tj a)
 .exact oi (Tj a)
def ry{α:Type}(W:WS)(p:α×Oj)(P:α->Prop)(T1:α->TS):Option TS->Prop
 |none=>¬(p.2.syn=false/\p.2.i=W.length)
 |some T'=>(p.2.syn=false/\p.2.i=W.length)/\∃a,P a/\(p.2.rng=false->C->p.1=a)/\T'=if p.2.rng=true/\(T1 a).far<0 then{T1 a with far:=(T1 a).ln}else T1 a
theorem RR{α:Type}{o:Option (α×WS×Bool)}{p:α×Oj}{P:α->Prop}{T1:α->TS}{F:α×WS×Bool->TS×WS×Bool}(h:wT C W ⟨1,false,false⟩ o p)(v:p.2.i<=W.length)(s:∀a r f,F (a,r,f)=(T1 a,r,f))(u:∀y,o=some y->P y.1):ry (C:=C) W p P T1 ((o.map F).bind Hg):=by
 have k:=h.2.2 rfl;cases o with
 |none=>exact λh=>by rw[show p.2.syn=true from k]at h;exact absurd h.1 Zd
 | some y=>
  obtain⟨a,r,f⟩:=y;obtain⟨t,g,j,m⟩:=k;have j:r=W.drop p.2.i:=j;have g:p.2.rng=f:=g;rw[AY,s,AB];show ry (C:=C) W p P T1 (if r=[]then _ else none)
  by_cases b:r=[]
  .rw[YS b];have:=List.drop_eq_nil_iff.1 (j.symm.trans b);refine⟨⟨t,by omega⟩,a,u _ rfl,λe c=>m (g.symm.trans e) c,?_⟩;rw[g]
  .rw[V b];exact λh=>b (j.trans (BP J))
theorem i7{α:Type}{o:Option (α×Bool)}{p:α×Oj}{P:α->Prop}{T1:α->TS}{F:α×Bool->TS×WS×Bool}(h:FE C W ⟨1,false,false⟩ o p)(t:p.2.i<=W.length)(k:∀a f,F (a,f)=(T1 a,[],f))(r:∀y,o=some y->P y.1):ry (C:=C) W p P T1 ((o.map F).bind Hg):=by
 have g:=h.2.2 rfl;cases o with
 |none=>exact λh=>by rcases g with e|e;rw[e]at h;exact absurd h.1 Zd;have:=h.2;omega
 |some y=>
  obtain⟨a,f⟩:=y;obtain⟨m,b,s,j⟩:=g;have b:p.2.rng=f:=b;rw[AY,k,AB];show ry (C:=C) W p P T1 (if ([]:WS)=[]then _ else none);rw[YS rfl];refine⟨⟨m,by omega⟩,a,r _ rfl,λe c=>j (b.symm.trans e) c,?_⟩;rw[b]
end
def MM(a:R):Int:=if 0<Ly a then 1 else if a=My then 2 else if a=Oy then 3 else if a=Qw then 4 else if a=O8 then 5 else 0
theorem Az(k:R):0<=Ly k/\Ly k<=3:=by unfold Ly;(repeat' split)<;>decide
theorem Fl{a:R}:MM a=1↔0<Ly a:=by
 unfold MM;split
 .rename_i h;simp[h]
 .rename_i h;simp only[h,iff_false]
  (repeat' split)<;>decide
theorem iS{a:R}:MM a=2↔a=My:=by
 constructor
 .intro h;unfold MM at h;split at h
  .exact absurd h Zd
  split at h
  .assumption
  split at h
  .exact absurd h Zd
  split at h
  .exact absurd h Zd
  split at h<;>exact absurd h Zd
 .rintro rfl;decide
theorem j_{a:R}:2<=MM a/\MM a<4↔a=My\/a=Oy:=by
 constructor
 .intro h;unfold MM at h;split at h
  .exact absurd h Zd
  split at h
  .left;assumption
  split at h
  .right;assumption
  split at h
  .exact absurd h Zd
  split at h<;>exact absurd h Zd
 .rintro(rfl|rfl)<;>decide
theorem jE{a:R}:2<=MM a/\MM a<5↔a=My\/a=Oy\/a=Qw:=by
 constructor
 .intro h;unfold MM at h;split at h
  .exact absurd h Zd
  split at h
  .left;assumption
  split at h
  .right;left;assumption
  split at h
  .right;right;assumption
  split at h<;>exact absurd h Zd
 .rintro(rfl|rfl|rfl)<;>decide
abbrev GH(l:List Nd):List Int:=l.map Nd.kind
structure sh(T:TS)(L:qn)(n i:Nat):Prop where
 kd:GH T.nds=GH L.S.nds
 z:L.bf=[]↔i=0
 wh:T.wh=MM L.bf
 nz:T.wh≠0->T.nds≠[]
 n0:i=0->T.nds=[]
 fr:(T.far<0/\L.far=n+1/\T.sc=L.S)\/∃f:Nat,T.far=f/\L.far=f/\f<n
def dG(T:TS)(i:Nat)(S:Sc)(k:R)(p:Sc×Oj)(T':TS):Prop:=
 T'.wh=MM k/\GH T'.nds=GH p.1.nds/\(T'.wh≠0->T'.nds≠[])/\(p.2.rng=false->T.sc=S->T'.sc=p.1)/\T'.far=if p.2.rng=true/\T.far<0 then(i:Int)else T.far
def aU(T:TS)(i:Nat)(S:Sc)(k:R)(r:WS):Option TS->Prop
 |none=>¬((O6 S k (k::r)).2.syn=false/\(O6 S k (k::r)).2.i=r.length+1)
 |some T'=>((O6 S k (k::r)).2.syn=false/\(O6 S k (k::r)).2.i=r.length+1)/\dG T i S k (O6 S k (k::r)) T'
section
variable{T:TS}{L:qn}{S:Sc}{n i:Nat}{k:R}{r:WS}
theorem W2{α:Type}{C:Prop}{p:α×Oj}{P:α->Prop}{T1:α->TS}{o:Option TS}(h:ry (C:=C) (k::r) p P T1 o)(x:C)(v:(O6 S k (k::r)).2=p.2)(B:∀a,P a->(T1 a).wh=MM k/\(T1 a).far=T.far/\(T1 a).ln=i/\GH (T1 a).nds=GH (O6 S k (k::r)).1.nds/\(T1 a).nds≠[]\/MM k=0/\(T1 a).wh=0/\(T1 a).far=T.far/\(T1 a).ln=i/\GH (T1 a).nds=GH (O6 S k (k::r)).1.nds)
 (w:T.sc=S->(T1 p.1).sc=(O6 S k (k::r)).1):aU T i S k r o:=by
 cases o with
 |none=>exact λu=>h (by rw[<-v];exact u)
 | some T'=>
  obtain⟨u,a,t,A,j⟩:=h;refine⟨by rw[v];exact u,?_⟩;have q:(T1 a).wh=MM k/\(T1 a).far=T.far/\(T1 a).ln=i/\GH (T1 a).nds=GH (O6 S k (k::r)).1.nds/\((T1 a).wh≠0->(T1 a).nds≠[]):=by
   rcases B a t with ⟨b,f,l,g,s⟩|⟨y,b,f,l,g⟩
   .exact⟨b,f,l,g,λ_=>s⟩
   .exact⟨b.trans y.symm,f,l,g,λh=>absurd b h⟩
  obtain⟨b,f,l,g,s⟩:=q;unfold dG;rw[v];rw[f,l]at j
  by_cases m:p.2.rng=true/\T.far<0
  .rw[YS m]at j;subst j;refine⟨b,g,s,(λe=>by rw[m.1]at e;cases e),by rw[YS m]⟩
  .rw[V m]at j;subst j;refine⟨b,g,s,λe c=> ?_,by rw[V m];exact f⟩;rw[<-A e x];exact w c
theorem GM{l a:List Nd}{N N':Nd}(h:GH l=GH a)(b:N.kind=N'.kind):GH (R0 l N)=GH (R0 a N'):=by
 unfold GH R0 at*;simp only[AL,List.map_dropLast,h,b,CH,List.map_nil]
theorem Ql{k:R}(h:0<Ly k):Ly k=1\/Ly k=2\/Ly k=3:=by have:=Az k;omega
theorem TG(h:0<Ly k){f:Bool}{ws:WS}{y:Nd×WS×Bool}(j:Nz (Ly k) f ws=some y):y.1.kind=Ly k:=by
 unfold Nz at j;obtain⟨a,_,j⟩:=AC.1 j;obtain⟨b,_,j⟩:=AC.1 j;rcases Ql h with e|e|e
 .rw[e,YS rfl]at j;obtain⟨c,_,j⟩:=AC.1 j;obtain⟨d,_,j⟩:=AC.1 j;obtain⟨g,_,j⟩:=AC.1 j;obtain⟨u,_,rfl⟩:=AM.1 j;exact e.symm
 .rw[e,V Zd,YS rfl]at j;obtain⟨c,_,j⟩:=AC.1 j;obtain⟨u,_,rfl⟩:=AM.1 j;exact e.symm
 .rw[e,V Zd,V Zd]at j;obtain⟨c,_,j⟩:=AC.1 j;obtain⟨u,_,rfl⟩:=AM.1 j;exact e.symm
theorem ZY(h:0<Ly k){ws:WS}{x:Oj}:(Y0 (Ly k) ws x).1.kind=Ly k:=by
 unfold Y0;rcases Ql h with e|e|e
 .rw[e];rfl
 .rw[e];rfl
 .rw[e];rfl
theorem pX{α β γ δ:Type}{o:Option α}{k:α->Option β}{F:α->β->γ}{G:α->β->δ}{uS:δ->γ}(h:∀u y,uS (G u y)=F u y):(o.bind λu=>(k u).map (F u))=(o.bind λu=>(k u).map (G u)).map uS:=by
 cases o with
 |none=>rfl
 |some u=>
  rw[AB,AB,CF];congr 1
  funext y
  exact(h u y).symm
theorem jR(g:i=0)(b:T.nds=[]):aU T i S Lx r ((Tu {T with ln:=i} Lx r).bind Hg):=by
 subst g;have f:Tu {T with ln:=0} Lx r=((Do false r).bind λw=>(Do w.2.2 w.2.1).bind λh=>(XQ h.2.2 h.2.1).map λc=>((w.1,h.1,c.1),c.2.1,c.2.2)).map λy=>({T with ln:=0,w:=y.1.1,h:=y.1.2.1,bg:=y.1.2.2,wh:=0},y.2.1,y.2.2):=by
  unfold Tu;rw[YS rfl,YS rfl];cases Do false r with
  |none=>rfl
  |some w=>exact pX (k:=λh:Int×WS×Bool=>XQ h.2.2 h.2.1) (G:=λh c=>((w.1,h.1,c.1),c.2.1,c.2.2)) λ_ _=>rfl
 rw[f];refine W2 (C:=True) (P:=λ_=>True) (p:=(((Ms (Lx::r) ⟨1,false,false⟩).1,(Ms (Lx::r) (Ms (Lx::r) ⟨1,false,false⟩).2).1,(Sd (Lx::r) (Ms (Lx::r) (Ms (Lx::r) ⟨1,false,false⟩).2).2).1),(Sd (Lx::r) (Ms (Lx::r) (Ms (Lx::r) ⟨1,false,false⟩).2).2).2)) (T1:=λa=>{T with ln:=0,w:=a.1,h:=a.2.1,bg:=a.2.2,wh:=0})
  (RR (tn (Rg (x:=⟨1,false,false⟩)) λw=>tn Rg λh=>wT.map (G:=λc=>(w,h,c)) ao (λ_ _ _=>rfl) λ⟨⟨_,j⟩,l⟩=>by rw[<-j,<-l]) (az (Rh (Rh (x:=⟨1,false,false⟩) Zs))) (λ_ _ _=>rfl) λ_ _=>trivial) trivial rfl (λa _=> .inr ⟨by decide,rfl,rfl,rfl,by rw[b];rfl⟩) λe=> ?_
 unfold TS.sc;rw[b];rfl
theorem mF(f:k≠Lx)(b:0<Ly k)(o:T.wh≠1)(m:0<i)(g:GH T.nds=GH S.nds):aU T i S k r ((Tu {T with ln:=i} k r).bind Hg):=by
 have c:O6 S k (k::r)=({S with nds:=S.nds++ [(Y0 (Ly k) (k::r) ⟨1,false,false⟩).1]},(Y0 (Ly k) (k::r) ⟨1,false,false⟩).2):=by unfold O6;rw[V f,YS b]
 have h:Tu {T with ln:=i} k r=(Nz (Ly k) false r).map λn=>({T with ln:=i,nds:=T.nds++ [n.1],wh:=1},n.2.1,n.2.2):=by unfold Tu;rw[V f,YS J,YS ⟨o,m⟩]
 rw[h];refine W2 (C:=True) (P:=λN=>N.kind=Ly k) (T1:=λN=>{T with ln:=i,nds:=T.nds++ [N],wh:=1}) (RR (mS (x:=⟨1,false,false⟩)) (lC (x:=⟨1,false,false⟩) Zs) (λ_ _ _=>rfl) λy l=>TG b l) trivial (by rw[c]) (λa j=> .inl ⟨(Fl.2 b).symm,rfl,rfl,?_,by simp⟩) λe=> ?_
 .rw[c];show GH (T.nds++ [a])=GH (S.nds++ [_]);simp only[GH,AL,CH,List.map_nil]at g ⊢;rw[g,j,ZY b]
 .rw[c,<-e];rfl
theorem Ig{l:List Nd}{N:Nd}:R0 l N≠[]:=by unfold R0;simp
theorem ni{N:Nd}(uZ:k≠Lx)(uX:¬0<Ly k)(K:T.nds.getLast? =some N)(Q:T.wh=MM L.bf)(vf:GH T.nds=GH S.nds)(b:Ye k L.bf (Ts S)=true):aU T i S k r ((Tu {T with ln:=i} k r).bind Hg):=by
 obtain⟨uR,o⟩:∃uR,S.nds.getLast? =some uR:=by
  cases h:S.nds.getLast? with
  |none=>
   have g:=congrArg List.getLast? vf;simp only[GH,List.getLast?_map,K,h]at g;cases g
  |some uR=>exact⟨uR,rfl⟩
 have l:N.kind=uR.kind:=by
  have g:=congrArg List.getLast? vf;simp only[GH,List.getLast?_map,K,o,AY]at g;injection g
 have F:SS S=uR:=by unfold SS;rw[o];rfl
 have ve:Ts S=N.kind:=by unfold Ts;rw[o];exact l.symm
 have m:T.sc=S->uR=N:=λe=>by
  have:S.nds=T.nds:=by rw[<-e];rfl
  rw[this,K]at o;injection o with o;exact o.symm
 have j:O6 S k (k::r)=({S with nds:=R0 S.nds (G5 uR k (k::r) ⟨1,false,false⟩).1},(G5 uR k (k::r) ⟨1,false,false⟩).2):=by unfold O6;rw[V uZ,V uX,F]
 have hR:Tu {T with ln:=i} k r=Sp {T with ln:=i} N k r:=by
  unfold Tu;rw[V uZ,V (by have:=Az k;omega)];show(match T.nds.getLast? with|none=>none|some N=>_)=_;rw[K]
 rw[hR];have g:(1:Nat)<=(k::r).length:=Zs
 unfold Ye at b
 by_cases uW:L.bf=[]
 .rw[YS (.inl uW),uW]at b;simp[uZ]at b
 rw[V (by intro h;rcases h with h|h;exact uW h;exact uZ h),V uX]at b;unfold Sp
 by_cases W:k=My
 .subst W;rw[YS rfl]at b ⊢;have c:T.wh=1:=by rw[Q];exact Fl.2 (YP b)
  rw[YS c];have f:G5 uR My (My::r) ⟨1,false,false⟩=({uR with T:=(MB (My::r) ⟨1,false,false⟩).1},(MB (My::r) ⟨1,false,false⟩).2):=rfl;refine W2 (C:=True) (P:=λ_=>True) (T1:=λt=>{T with ln:=i,nds:=R0 T.nds {N with T:=t},wh:=2}) (RR (dB (x:=⟨1,false,false⟩)) (cD (x:=⟨1,false,false⟩) g) (λ_ _ _=>rfl) λ_ _=>trivial) trivial (by rw[j,f]) (λa _=> .inl ⟨show(2:Int)=MM My by decide,rfl,rfl,by rw[j,f];exact GM vf l,Ig⟩) λe=> ?_
  rw[j,f,m e,<-e];rfl
 rw[V W]at b ⊢
 by_cases uU:k=Oy
 .subst uU;rw[YS rfl]at b ⊢;have c:T.wh=2:=by rw[Q];exact iS.2 (YP b)
  rw[YS c];obtain⟨u,vg⟩:∃u,u=Oi (Oy::r) ([]::M2) ⟨1,false,false⟩:=⟨_,rfl⟩
  obtain⟨q,uS⟩:∃q,q=Cr (Oy::r) u.2:=⟨_,rfl⟩
  have f:G5 uR Oy (Oy::r) ⟨1,false,false⟩=({uR with crule:=u.1,clip:=q.1},q.2):=by rw[uS,vg];rfl
  have w:((Bm M2 1 false r).bind λu=>(Tc u.2.2 u.2.1).map λp=>({T with ln:=i,nds:=R0 T.nds {N with crule:=u.1,clip:=p.1},wh:=3},p.2.1,p.2.2))=((Bm M2 1 false r).bind λu=>(Tc u.2.2 u.2.1).map λp=>((u.1,p.1),p.2.1,p.2.2)).map λy=>({T with ln:=i,nds:=R0 T.nds {N with crule:=y.1.1,clip:=y.1.2},wh:=3},y.2.1,y.2.2):=
   pX (k:=λu:Int×WS×Bool=>Tc u.2.2 u.2.1) (G:=λu p=>((u.1,p.1),p.2.1,p.2.2)) λ_ _=>rfl
  show aU T i S Oy r (Option.bind ((Bm M2 1 false r).bind λu=>(Tc u.2.2 u.2.1).map λp=>({T with ln:=i,nds:=R0 T.nds {N with crule:=u.1,clip:=p.1},wh:=3},p.2.1,p.2.2)) Hg);rw[w];refine W2 (C:=True) (P:=λ_=>True) (p:=((u.1,q.1),q.2)) (T1:=λy=>{T with ln:=i,nds:=R0 T.nds {N with crule:=y.1,clip:=y.2},wh:=3}) (RR (tn (vg▸dc (x:=⟨1,false,false⟩)) λv=>wT.map (G:=λp=>(v,p)) (uS▸cZ) (λ_ _ _=>rfl) λ⟨_,g⟩=>by rw[<-g]) (by rw[uS,vg];exact dT (Tj (x:=⟨1,false,false⟩) g)) (λ_ _ _=>rfl) λ_ _=>trivial) trivial (by rw[j,f]) (λa _=> .inl ⟨show(3:Int)=MM Oy by decide,rfl,rfl,by rw[j,f];exact GM vf l,Ig⟩) λe=> ?_
  rw[j,f,m e,<-e];rfl
 rw[V uU]at b ⊢
 by_cases uT:k=Qw
 .subst uT;rw[YS rfl]at b ⊢;have b:=YP b;rw[ve]at b;have c:=j_.2 b.2;rw[<-Q]at c;rw[YS ⟨b.1,c⟩];have f:G5 uR Qw (Qw::r) ⟨1,false,false⟩=({uR with fill:=[(G4 (Qw::r) ⟨1,false,false⟩).1]},(G4 (Qw::r) ⟨1,false,false⟩).2):=rfl;refine W2 (C:=True) (P:=λ_=>True) (T1:=λp=>{T with ln:=i,nds:=R0 T.nds {N with fill:=[p]},wh:=4}) (i7 (nZ (x:=⟨1,false,false⟩)) (oo (x:=⟨1,false,false⟩) g) (λ_ _=>rfl) λ_ _=>trivial) trivial (by rw[j,f]) (λa _=> .inl ⟨show(4:Int)=MM Qw by decide,rfl,rfl,by rw[j,f];exact GM vf l,Ig⟩) λe=> ?_
  rw[j,f,m e,<-e];rfl
 rw[V uT]at b ⊢
 by_cases uV:k=O8
 .subst uV;rw[YS rfl]at b ⊢;have b:=YP b;rw[ve]at b;have c:=jE.2 b.2;rw[<-Q]at c;rw[YS ⟨b.1,c⟩];obtain⟨u,vg⟩:∃u,u=LA (O8::r) ⟨1,false,false⟩:=⟨_,rfl⟩
  obtain⟨q,uS⟩:∃q,q=G4 (O8::r) u.2:=⟨_,rfl⟩
  have f:G5 uR O8 (O8::r) ⟨1,false,false⟩=({uR with sty:=u.1,stroke:=[q.1]},q.2):=by rw[uS,vg];rfl
  have w:((Xw false r).bind λs=>(Fs s.2.2 s.2.1).map λp=>(({T with ln:=i,nds:=R0 T.nds {N with sty:=s.1,stroke:=[p.1]},wh:=5}:TS),([]:WS),p.2))=((Xw false r).bind λs=>(Fs s.2.2 s.2.1).map λp=>((s.1,p.1),p.2)).map λy=>({T with ln:=i,nds:=R0 T.nds {N with sty:=y.1.1,stroke:=[y.1.2]},wh:=5},[],y.2):=
   pX (k:=λs:Fo×WS×Bool=>Fs s.2.2 s.2.1) (G:=λs p=>((s.1,p.1),p.2)) λ_ _=>rfl
  show aU T i S O8 r (Option.bind ((Xw false r).bind λs=>(Fs s.2.2 s.2.1).map λp=>(({T with ln:=i,nds:=R0 T.nds {N with sty:=s.1,stroke:=[p.1]},wh:=5}:TS),([]:WS),p.2)) Hg);rw[w];have A:wT True (O8::r) ⟨1,false,false⟩ (Xw false r) u:=by rw[vg];exact oK (x:=⟨1,false,false⟩)
  have B:∀{C:Prop},FE C (O8::r) u.2 (Fs u.2.rng ((O8::r).drop u.2.i)) q:=by rw[uS];exact nZ
  have D:FE True (O8::r) ⟨1,false,false⟩ ((Xw false r).bind λs=>(Fs s.2.2 s.2.1).map λp=>((s.1,p.1),p.2)) ((u.1,q.1),q.2):=tB A λv=>FE.map (G:=λp=>(v,p)) B (λ_ _=>rfl) λ⟨_,g⟩=>by rw[<-g]
  have uY:q.2.i<=(O8::r).length:=by rw[uS,vg];exact oo (pC (x:=⟨1,false,false⟩) g)
  refine W2 (C:=True) (P:=λ_=>True) (p:=((u.1,q.1),q.2)) (T1:=λy=>{T with ln:=i,nds:=R0 T.nds {N with sty:=y.1,stroke:=[y.2]},wh:=5}) (i7 D uY (λ_ _=>rfl) λ_ _=>trivial) trivial (by rw[j,f]) (λa _=> .inl ⟨show(5:Int)=MM O8 by decide,rfl,rfl,by rw[j,f];exact GM vf l,Ig⟩) λe=> ?_
  rw[j,f,m e,<-e];rfl
 rw[V uV]at b;exact absurd b Zd
theorem qZ{T:TS}(b:sh T L n i)(a:Ye k L.bf (Ts L.S)=false):Tu {T with ln:=i} k r=none:=by
 unfold Tu;unfold Ye at a
 by_cases f:k=Lx
 .rw[YS f,V];rintro v;rw[YS (.inr f),decide_eq_false_iff_not]at a;exact a ⟨b.z.2 v,f⟩
 rw[V f]
 by_cases l:L.bf=[]
 .by_cases e:Ly k≠0
  .rw[YS e,V λh=>absurd (b.z.1 l) (by have:=h.2;simp at this;omega)]
  .rw[V e];show(match T.nds.getLast? with|none=>none|some N=>_)=none;rw[b.n0 (b.z.1 l)];rfl
 rw[V (by intro h;rcases h with h|h;exact l h;exact f h)]at a
 by_cases e:0<Ly k
 .rw[YS e,decide_eq_false_iff_not]at a;rw[YS J,V];intro h;refine a (Int.le_antisymm (Int.not_lt.1 λu=>h.1 ?_) (Az _).1);show T.wh=1;rw[b.wh];exact Fl.2 u
 rw[V e]at a;rw[V (by have:=Az k;omega)];show(match T.nds.getLast? with|none=>none|some N=>_)=none;cases t:T.nds.getLast? with
 |none=>rfl
 | some N=>
  have j:Ts L.S=N.kind:=by
   have c:=congrArg List.getLast? b.kd;simp only[GH,List.getLast?_map,t,AY]at c;unfold Ts;cases h:L.S.nds.getLast? with
   |none=>rw[h]at c;cases c
   |some uR=>rw[h]at c;injection c with c;exact c.symm
  rw[j]at a;have g:=b.wh;show Sp {T with ln:=i} N k r=none;unfold Sp
  by_cases o:k=My
  .rw[YS o]at a ⊢;exact V λh=>YO a (Fl.1 (g.symm.trans h))
  rw[V o]at a ⊢
  by_cases m:k=Oy
  .rw[YS m]at a ⊢;exact V λh=>YO a (iS.1 (g.symm.trans h))
  rw[V m]at a ⊢
  by_cases s:k=Qw
  .rw[YS s]at a ⊢;exact V λh=>YO a ⟨h.1,j_.1 (g▸h.2)⟩
  rw[V s]at a ⊢
  by_cases p:k=O8
  .rw[YS p]at a ⊢;exact V λh=>YO a ⟨h.1,jE.1 (g▸h.2)⟩
  rw[V p]
theorem k_(b:sh T L n i)(m:i<n):aU T i L.S k r ((Tu {T with ln:=i} k r).bind Hg)/\(∀T',(Tu {T with ln:=i} k r).bind Hg=some T'->Ye k L.bf (Ts L.S)=true)\/Ye k L.bf (Ts L.S)=false/\Tu {T with ln:=i} k r=none:=by
 by_cases a:Ye k L.bf (Ts L.S)=true
 case neg=>exact .inr ⟨by simpa using a,qZ b (by simpa using a)⟩
 refine .inl ⟨?_,λ_ _=>a⟩
 by_cases c:k=Lx
 .subst c;unfold Ye at a;rw[YS (.inr rfl)]at a;have g:=b.z.1 (YP a).1;exact jR g (b.n0 g)
 by_cases e:L.bf=[]
 .unfold Ye at a;rw[YS (.inl e)]at a;exact absurd (YP a).2 c
 by_cases f:0<Ly k
 .unfold Ye at a;rw[V (by intro h;rcases h with h|h;exact e h;exact c h),YS f]at a;refine mF c f (λh=> ?_) (Nat.pos_of_ne_zero λh=>e (b.z.2 h)) b.kd;have:=Fl.1 (b.wh.symm.trans h);have:=YP a;omega
 have j:T.nds≠[]:=by
  refine b.nz λh=> ?_
  have h:=b.wh.symm.trans h;unfold Ye at a;rw[V (by intro h;rcases h with h|h;exact e h;exact c h),V f]at a;split at a
  .have:=Fl.2 (YP a);omega
  split at a
  .have:=iS.2 (YP a);omega
  split at a
  .have:=j_.2 (YP a).2;omega
  split at a
  .have:=jE.2 (YP a).2;omega
  .cases a
 obtain⟨N,l⟩:∃N,T.nds.getLast? =some N:=⟨_,List.getLast?_eq_some_getLast j⟩
 exact ni c f l b.wh b.kd a
theorem jG{a:R}{z:Int}:Ye [] a z=false:=by
 unfold Ye;split
 .exact YV λh=>by cases h.2
 .rfl
def qy(n:Nat)(q:Sc×Nat×Nat):Nat ⊕ TS->Prop
 | .inl j=>q.2.1=j/\j<=n
 | .inr T=>q.2.1=n+1/\((T.far<0/\q.2.2=n+1/\T.sc=q.1)\/∃f:Nat,T.far=f/\q.2.2=f/\f<n)
theorem JF:∀(ls:List R) {T:TS} {L:qn} {i:Nat},sh T L n i->i+ls.length=n->qy n (Sr n L i ls) (Sk T i ls)
 | [],T,L,i,b,m=>by
  have hi:i=n:=m;rw[Sr,Sk]
  by_cases h:T.wh=1
  .rw[YS h];refine⟨?_,by omega⟩;show(if 0<Ly L.bf then i else n+1)=i;rw[YS (Fl.1 (b.wh.symm.trans h))]
  .rw[V h];refine⟨?_,b.fr⟩;show(if 0<Ly L.bf then i else n+1)=n+1;rw[V λa=>h (b.wh.trans (Fl.2 a))]
 | l ::r,T,L,i,b,m=>by
  have e:i<n:=by rw[AI]at m;omega
  rw[Sr,Sk];unfold Vv
  by_cases o:Rq (Kt l)=true
  case neg=>rw[V o,V o];exact⟨rfl,by omega⟩
  rw[YS o,YS o];cases C:Al (Kt l)with
  |nil=>exact⟨rfl,by omega⟩
  | cons k ws=>
   show qy n (if _ then _ else _) (match (Tu {T with ln:=i} k ws).bind Hg with|none=>_|some S'=>_);rcases k_ (k:=k) (r:=ws) b e with ⟨c,a⟩|⟨c,a⟩
   case inr=>
    rw[a,V (by rw[c];intro h;cases h.1)];exact⟨rfl,by omega⟩
   cases g:(Tu {T with ln:=i} k ws).bind Hg with
   |none=>
    rw[g]at c;rw[V λh=>c h.2];exact⟨rfl,by omega⟩
   | some T'=>
    rw[g]at c;obtain⟨u,y,A,x,B,v⟩:=c;rw[YS ⟨a T' g,u⟩];refine JF r ⟨A,⟨λh=> ?_,λh=>J⟩,y,x,λh=>J,?_⟩ (by rw[AI]at m;omega)
    .have:k=[]:=h;have t:=a T' g;rw[this,jG]at t;cases t
    .show(T'.far<0/\(if (O6 L.S k (k::ws)).2.rng=true/\n<L.far then i else L.far)=n+1/\T'.sc=(O6 L.S k (k::ws)).1)\/∃f:Nat,T'.far=f/\(if (O6 L.S k (k::ws)).2.rng=true/\n<L.far then i else L.far)=f/\f<n;rw[v];rcases b.fr with ⟨j,p,s⟩|⟨f,j,p,s⟩
     .cases w:(O6 L.S k (k::ws)).2.rng with
      |true=>exact .inr ⟨i,YS ⟨rfl,j⟩,YS ⟨rfl,by omega⟩,e⟩
      |false=>
       rw[V (λh=>by cases h.1),V (λh=>by cases h.1)];exact .inl ⟨j,p,B w s⟩
     .rw[V (λh=>by have:=h.2;omega),V (λh=>by have:=h.2;omega)];exact .inr ⟨f,j,p,s⟩
theorem g_(s:R):ZP s=Nf s:=by
 unfold ZP Nf
 by_cases a:65536<s.length
 .rw[YS a,YS a]
 rw[V a,V a]
 by_cases b:s.getLast? ≠some 10
 .rw[YS b,YS b]
 rw[V b,V b];have h:=JF (n:=(Lu s).length) (Lu s) (T:=SN) (L:=⟨Gs,[],(Lu s).length+1⟩) (i:=0) ⟨rfl,⟨λ_=>rfl,λ_=>rfl⟩,show(0:Int)=MM [] by decide,λh=>absurd rfl h,λ_=>rfl,.inl ⟨by decide,rfl,rfl⟩⟩ J;obtain⟨q,m⟩:∃q,q=Sr (Lu s).length ⟨Gs,[],(Lu s).length+1⟩ 0 (Lu s):=⟨_,rfl⟩
 simp only;rw[<-m]at h ⊢;cases e:Sk SN 0 (Lu s)with
 |inl j=>
  rw[e]at h;rw[YS (by rw[h.1];exact h.2),h.1]
 | inr T=>
  rw[e]at h;obtain⟨o,⟨g,c,l⟩|⟨f,g,c,l⟩⟩:=h
  .rw[V (show¬q.2.1<=(Lu s).length by omega),V (show¬q.2.2<=(Lu s).length by omega)];show _=if 0<=T.far then _ else _;rw[V (show¬0<=T.far by omega),l]
  .rw[V (show¬q.2.1<=(Lu s).length by omega),YS (show q.2.2<=(Lu s).length by omega)];show _=if 0<=T.far then _ else _;rw[YS (show 0<=T.far by omega),g,c];rfl
end
section
--ATNAMES
section
variable{w:YN}{A:YY}{n c g:Nat}{x a b:Int}{B:Bool}{N:Nd}{q:ND}{K:Nat}{S:Fo}{y:YZ}{l:List Int}{Ps:List Pn}{ql:List (Pn×PM)}
theorem cd:Zv 313 #[I x] w (.bool (Un x)):=sL func313 rfl<|H 3<|sT O 1000 4 5 [6,7,8] 2 true (x==2) ((x==1)||(x==2)) O O O (λ_=>O) Ov λe=>M<|ZW (.bool (Un x))
theorem cr:Zv 264 #[I x] w (.bool (Up x)):=sL func264 rfl<|H 3<|sT O 1000 4 5 [6,7,8] 2 (decide (x<=13)) false ((decide (x>=1))&&(decide (x<=13))) O O O (λ_=>O) M3 λe=>M<|ZW (.bool (Up x))
def D1(x a b:Int):Bool:=decide (x>=a)&&decide (x<=b)
theorem Zm:Zv 348 #[I x,I a,I b] w (.bool (D1 x a b)):=sL func348 rfl<|H 4<|sT O 1000 5 10 [11,12,13,14] 6 (decide (x<=b)) false ((decide (x>=a))&&(decide (x<=b))) O O O (λ_=>O) M3 λe=>M<|ZW (.bool (D1 x a b))
theorem lX:Zv 347 #[I x] w (.bool (D1 x 1 16384)):=sL func347 rfl<|M<|Z (λe f h=>Zm (x:=x) (a:=1) (b:=16384)) λu=>ZW (.bool (D1 x 1 16384))
theorem TL{z:Int}:(!D1 z 0 1048576)=Ga z:=by
 unfold D1 Ga;rw[BC];simp only[AW,Bool.and_eq_false_iff,decide_eq_false_iff_not,BM,decide_eq_true_eq];omega
theorem eB(D:O3 w A n 1 Tl l)(vf:n<=1000000000):Zv 349 #[.slice A n c] w (.bool (T4 l)):=by
 have t:=D.1;refine sL func349 rfl<|M<|sM 3 (.bool ((n:Int)==0)) (.bool (Sm n (l.take 0))) O (by simp[Sm])<|sU (ι:={k:Nat // k<=n/\(l.take k).any Ga=false}) 40 (λk=>⟨[(0,.v (.slice A n c)),(3,.v (.bool (Sm n (l.take k.1)))),(4,.v (I k.1))],[]⟩) (λk u=>True) (λk=>n-k.1) (⟨0,AJ _,rfl⟩) O (λ_=>O) zt (λu h=>trivial) ?_
 rintro⟨k,C,e⟩ ve;have C:k<=n:=C;have e:(l.take k).any Ga=false:=e
 by_cases m:k<n
 case neg=>
  obtain rfl:k=n:=J
  exact M<|X (decide ((k:Int)<(k:Int))) false Zs<|sN O<|H 2<|sT O 1000 5 29 [30,31,32,33] 34 (decide ((k:Int)<=16)) false ((Sm k (l.take k))&&(decide ((k:Int)<=16))) O O O (λ_=>O) M3 λuS=>sT O 1000 6 34 [35,36,37,38,39] 2 (Int.tmod (k:Int) 2==0) false ((Sm k (l.take k)&&decide ((k:Int)<=16))&&(Int.tmod (k:Int) 2==0)) O O O (λ_=>O) M3 λG=>M<|ZX (.bool ((Sm k (l.take k)&&decide ((k:Int)<=16))&&(Int.tmod (k:Int) 2==0))) (by unfold T4;rw[AZ J]at e ⊢;rw[e,t,Bool.and_assoc,Bool.and_comm (decide _),<-Bool.and_assoc];rfl)
 obtain⟨z,p⟩:∃v,l[k]? =some v:=⟨_,AA J⟩
 obtain⟨ad,vg,F⟩:=D.2 k z p;have f:∀j:YN,Below w.heap.size w j->j.cell? (ad.add k)=some (I z):=λj o=>by have:=La o (F 0 (I z) rfl);rw[Y7,CD,BS]at this;exact this
 refine M<|X (decide ((k:Int)<(n:Int))) true Zp<|ZA (Ki 65 (.slice A n c) k) (.pointer (some (ad.add k))) (λj o h=>by rw[vg];exact Kg (elem:=3) O O m)<|ZA (L4 3 (ad.add k)) (I z) (λj o h=>K9 O (f j o))<|Z (λj o h=>Zm (x:=z) (a:=0) (b:=1048576)) λu=> ?_
 cases r:Ga z
 .refine sQ (!D1 z 0 1048576) false O (by rw[TL,r])<|H 2 ?_
  cases s:Sm n (l.take k)
  .refine M<|ZA (Ki 65 (.slice A n c) k) (.pointer (some (ad.add k))) (λj o h=>by rw[vg];exact Kg (elem:=3) O O m)<|ZA (L4 3 (ad.add k)) (I z) (λj o h=>K9 O (f j o))<|sS 4 m J O<|sM 3 (.bool (decide (z>0))) (.bool (Sm n (l.take (k+1)))) O (by unfold Sm at s ⊢;rw[Y5 p,<-Bool.or_assoc,s,CQ])<|sR (⟨k+1,by show k+1<=n;omega,by rw[Y5 p,e,r];rfl⟩) O zo zt (λu h=>trivial)
  .refine M<|sS 4 m J O<|sM 3 Zt (.bool (Sm n (l.take (k+1)))) O (by unfold Sm at s ⊢;rw[Y5 p,<-Bool.or_assoc,s,Bool.true_or])<|sR (⟨k+1,by show k+1<=n;omega,by rw[Y5 p,e,r];rfl⟩) O zo zt (λu h=>trivial)
 .exact X (!D1 z 0 1048576) true (by rw[TL,r])<|sN O<|M<|ZX Zf (by unfold T4;rw[SE p r];rfl)
def oW(S:Fo):Bool:=(!D1 S.w 1 16384|| !D1 S.j 1 3)|| !D1 S.c 3 5
theorem lQ:(!oW S&&((D1 S.m 256 65536&&T4 S.d)&&D1 S.p 0 1048576))=R8 S:=by
 unfold oW R8 D1 Cm;rw[BC];simp only[AD,AW,BA,Bool.not_eq_false',BM,decide_eq_true_eq,YQ];constructor
 .rintro⟨⟨⟨h,s⟩,o⟩,⟨f,j⟩,e⟩;exact⟨⟨⟨⟨⟨⟨⟨h,by omega⟩,by omega⟩,f.1⟩,f.2⟩,j⟩,e.1⟩,e.2⟩
 .rintro⟨⟨⟨⟨⟨⟨⟨h,s⟩,o⟩,f⟩,j⟩,e⟩,k⟩,r⟩;exact⟨⟨⟨h,by omega⟩,by omega⟩,⟨⟨f,j⟩,e⟩,k,r⟩
theorem kT(k:R8 S=B)(vg:O3 w y.1 S.d.length 1 Tl S.d)(D:S.d.length<=1000000000):Zv 318 #[MO S y] w (.bool B):=by
 rw[<-lQ]at k;refine sL func318 rfl<|M<|ZD 5 (λf e h=>lX (x:=S.w)) λu=>tj O false 1000 6 3 7 [8,9,10,11,12] 13 true (D1 S.j 1 3) (!D1 S.j 1 3) ((!D1 S.w 1 16384)||(!D1 S.j 1 3)) O (λf e h=>Zm) O O O (λ_=>O) JH λF Φxj6 s=>tj O false 1000 5 2 13 [14,15,16,17] 18 true (D1 S.c 3 5) (!D1 S.c 3 5) ((!D1 S.w 1 16384|| !D1 S.j 1 3)||(!D1 S.c 3 5)) O (λf e h=>Zm) O O O (λ_=>O) JH (λG Φxj7 v=> ?_)
 cases o:oW S
 case true=>
  rw[o]at k;exact ZT 18 (.bool ((!D1 S.w 1 16384|| !D1 S.j 1 3)|| !D1 S.c 3 5)) (.bool true) (by rw[<-o];rfl)<|ZI true<|ZX (.bool false) (by rw[<-k];rfl)
 rw[o,AR,AG]at k;exact ZT 18 (.bool ((!D1 S.w 1 16384|| !D1 S.j 1 3)|| !D1 S.c 3 5)) (.bool false) (by rw[<-o];rfl)<|ZI false<|ZD 4 (λf e h=>Zm (x:=S.m) (a:=256) (b:=65536)) λvf=>tj O true 1000 5 2 22 [23,24,25,26] 27 false (T4 S.d) (T4 S.d) ((D1 S.m 256 65536)&&(T4 S.d)) O (λf e h=>eB (c:=y.2) (vg.below e) D) O O O (λ_=>O) Q4 λC Φxj8 t=>tj O true 1000 5 2 27 [28,29,30,31] 2 false (D1 S.p 0 1048576) (D1 S.p 0 1048576) ((D1 S.m 256 65536&&T4 S.d)&&(D1 S.p 0 1048576)) O (λf e h=>Zm) O O O (λ_=>O) Q4 λuS Φxj9 r=>M<|ZX (.bool ((D1 S.m 256 65536&&T4 S.d)&&D1 S.p 0 1048576)) (by rw[k])
theorem P_:Zv 317 #[Ya N q] w (.bool (EY N)):=sL func317 rfl<|H 4<|sT O 1000 5 6 [7,8,9,10] 11 (N.bl==0) false (((N.op.toNat:Int)==0)&&(N.bl==0)) O O O (λ_=>O) M3 λf=>sT O 1000 5 11 [12,13,14,15] 16 (!N.iso) false ((((N.op.toNat:Int)==0)&&(N.bl==0))&&(!N.iso)) O O O (λ_=>O) M3 λh=>sT O 1000 5 16 [17,18,19,20] 2 (!N.ko) false (((((N.op.toNat:Int)==0)&&(N.bl==0))&& !N.iso)&&(!N.ko)) O O O (λ_=>O) M3 λe=>M<|ZW (.bool (EY N))
theorem OM:Zv 314 #[Ya N q] w (.bool (Zy N)):=sL func314 rfl<|H 5<|sT O 1000 5 7 [8,9,10,11] 12 (N.frule==0) false (((N.path.length:Int)==0)&&(N.frule==0)) O O O (λ_=>O) M3 λe=>sT O 1000 6 12 [13,14,15,16,17] 18 ((N.fill.length:Int)==0) false ((((N.path.length:Int)==0)&&(N.frule==0))&&((N.fill.length:Int)==0)) O O O (λ_=>O) M3 λf=>sT O 1000 6 18 [19,20,21,22,23] 2 ((N.stroke.length:Int)==0) false (((((N.path.length:Int)==0)&&(N.frule==0))&&((N.fill.length:Int)==0))&&((N.stroke.length:Int)==0)) O O O (λ_=>O) M3 λh=>M<|ZW (.bool (Zy N))
theorem gN:((((((S.w==0)&&(S.j==0))&&(S.c==0))&&(S.m==0))&&((S.d.length:Int)==0))&&(S.p==0))=Qj S:=by
 unfold Qj;rw[BC];simp only[AD,YQ,decide_eq_true_eq];constructor
 .rintro⟨⟨f,h⟩,e⟩;exact⟨⟨f,e⟩,by omega⟩
 .rintro⟨⟨f,e⟩,h⟩;exact⟨⟨f,by omega⟩,e⟩
theorem F8:Zv 315 #[Ya N q] w (.bool (Qj N.sty)):=sL func315 rfl<|H 4<|sT O 1000 5 9 [10,11,12,13] 14 (N.sty.j==0) false ((N.sty.w==0)&&(N.sty.j==0)) O O O (λ_=>O) M3 λf=>sT O 1000 5 14 [15,16,17,18] 19 (N.sty.c==0) false (((N.sty.w==0)&&(N.sty.j==0))&&(N.sty.c==0)) O O O (λ_=>O) M3 λk=>sT O 1000 5 19 [20,21,22,23] 24 (N.sty.m==0) false ((((N.sty.w==0)&&(N.sty.j==0))&&(N.sty.c==0))&&(N.sty.m==0)) O O O (λ_=>O) M3 λe=>sT O 1000 6 24 [25,26,27,28,29] 30 ((N.sty.d.length:Int)==0) false (((((N.sty.w==0)&&(N.sty.j==0))&&(N.sty.c==0))&&(N.sty.m==0))&&((N.sty.d.length:Int)==0)) O O O (λ_=>O) M3 λh=>sT O 1000 5 30 [31,32,33,34] 2 (N.sty.p==0) false ((((((N.sty.w==0)&&(N.sty.j==0))&&(N.sty.c==0))&&(N.sty.m==0))&&((N.sty.d.length:Int)==0))&&(N.sty.p==0)) O O O (λ_=>O) M3 λo=>M<|ZX (.bool ((((((N.sty.w==0)&&(N.sty.j==0))&&(N.sty.c==0))&&(N.sty.m==0))&&((N.sty.d.length:Int)==0))&&(N.sty.p==0))) (by rw[<-gN])
theorem mh:((((N.im.w==0)&&(N.im.h==0))&&((N.im.px.length:Int)==0))&&(N.samp==0))=By N:=by
 unfold By;rw[BC];simp only[AD,YQ,decide_eq_true_eq];constructor
 .rintro⟨⟨⟨e,f⟩,k⟩,j⟩;exact⟨⟨e,f,BO.1 J⟩,j⟩
 .rintro⟨⟨e,f,k⟩,j⟩;exact⟨⟨⟨e,f⟩,by rw[k];rfl⟩,j⟩
theorem NQ:Zv 316 #[Ya N q] w (.bool (By N)):=sL func316 rfl<|H 5<|sT O 1000 6 7 [8,9,10,11,12] 13 (N.im.h==0) false ((N.im.w==0)&&(N.im.h==0)) O O O (λ_=>O) M3 λf=>sT O 1000 7 13 [14,15,16,17,18,19] 20 ((N.im.px.length:Int)==0) false (((N.im.w==0)&&(N.im.h==0))&&((N.im.px.length:Int)==0)) O O O (λ_=>O) M3 λe=>sT O 1000 5 20 [21,22,23,24] 2 (N.samp==0) false ((((N.im.w==0)&&(N.im.h==0))&&((N.im.px.length:Int)==0))&&(N.samp==0)) O O O (λ_=>O) M3 λj=>M<|ZX (.bool ((((N.im.w==0)&&(N.im.h==0))&&((N.im.px.length:Int)==0))&&(N.samp==0))) (by rw[<-mh])
theorem WR:((((N.clip.length:Int)==0)&&(N.crule !=0))||(decide ((N.clip.length:Int)>0)&& !Un N.crule))= !Ry N:=by
 unfold Ry
 by_cases h:N.clip.length=0
 .rw[YS h,show((N.clip.length:Int)==0)=true from YQ.2 J,show decide ((N.clip.length:Int)>0)=false from YV J];simp[bne]
 .rw[V h,show((N.clip.length:Int)==0)=false from YR.2 J,show decide ((N.clip.length:Int)>0)=true from YU J];simp
def r_:List Nat:=[12,13,14,15,16,17,18,19,20,21,22]
theorem WG:Zv 277 #[Ya N q] w (.bool (Ry N&&Z4 N)):=by
 refine sL func277 rfl<|H 5<|sT O 1000 5 7 [8,9,10,11] 12 (N.crule !=0) false (((N.clip.length:Int)==0)&&(N.crule !=0)) O O O (λ_=>O) M3 λuS=>t_ (λ(i:Nat->AV) c=>P5 r_ i (Ma 23 (.bool (!Ry N)) (M1 XW 1000 11 (Ma 12 Zt c)))) (λk=> ?_) (λuZ Φ9 L=> ?_)
 .refine tY 12 (((N.clip.length:Int)==0)&&(N.crule !=0)) O (λC=> ?_) (λC=> ?_)
  .exact s0 O (stop:=1000) 11 _<|sM 23 Zt (.bool (!Ry N)) O (by rw[<-WR,C,Bool.true_or])<|tb r_ λx=>tm (k x _ λw h=>h) O
  .exact s0 O (stop:=1000) 5 _<|tj O true 1000 5 2 17 [18,19,20,21] 22 false (Un N.crule) (!Un N.crule) ((decide ((N.clip.length:Int)>0))&&(!Un N.crule)) O (λf e h=>cd) O O O (λ_=>O) Q4 λD Φxj25 o=>s0 O (stop:=1000) 1 _<|sM 23 (.bool (decide ((N.clip.length:Int)>0)&& !Un N.crule)) (.bool (!Ry N)) O (by rw[<-WR,C,CQ])<|tb r_ λx=>tm (k x _ (by assumption)) O
 refine M ?_;cases uR:Ry N
 .exact X (!false) true (rfl)<|ZW Zf
 refine X (!true) false (rfl) ?_;rw[AG];unfold Z4
 by_cases j:N.kind=1
 .exact X (N.kind==1) true (YQ.2 j)<|ZD 3 (λf e h=>OM (N:=N) (q:=q)) λu=>tj O true 1000 4 2 30 [31,32,33] 34 false (Qj N.sty) (Qj N.sty) ((Zy N)&&(Qj N.sty)) O (λf e h=>F8 (N:=N) (q:=q)) O O O (λ_=>O) Q4 λF Φxj26 s=>tj O true 1000 4 2 34 [35,36,37] 2 false (By N) (By N) ((Zy N&&Qj N.sty)&&(By N)) O (λf e h=>NQ (N:=N) (q:=q)) O O O (λ_=>O) Q4 λvf Φxj27 r=>M<|ZX (.bool ((Zy N&&Qj N.sty)&&By N)) (by rw[YS j])
 refine X (N.kind==1) false (YR.2 j) ?_
 by_cases p:N.kind=2
 .exact X (N.kind==2) true (YQ.2 p)<|ZD 3 (λf e h=>P_ (N:=N) (q:=q)) λu=>tj O true 1000 4 2 42 [43,44,45] 2 false (By N) (By N) ((EY N)&&(By N)) O (λf e h=>NQ (N:=N) (q:=q)) O O O (λ_=>O) Q4 λG Φxj28 v=>M<|ZX (.bool (EY N&&By N)) (by rw[V j,YS p])
 exact X (N.kind==2) false (YR.2 p)<|ZD 3 (λf e h=>P_ (N:=N) (q:=q)) λu=>tj O true 1000 4 2 48 [49,50,51] 52 false (Zy N) (Zy N) ((EY N)&&(Zy N)) O (λf e h=>OM (N:=N) (q:=q)) O O O (λ_=>O) Q4 λvg Φxj29 t=>tj O true 1000 4 2 52 [53,54,55] 2 false (Qj N.sty) (Qj N.sty) ((EY N&&Zy N)&&(Qj N.sty)) O (λf e h=>F8 (N:=N) (q:=q)) O O O (λ_=>O) Q4 λve Φxj30 m=>M<|ZX (.bool ((EY N&&Zy N)&&Qj N.sty)) (by rw[V j,V p,Bool.and_assoc])
end
end
section
--ATNAMES
section
variable{w:YN}{A:YY}{n c g:Nat}{x a b:Int}{B:Bool}{N:Nd}{q:ND}{K:Nat}{S:Sc}{y:YZ}{Ps:List Pn}{ql:List (Pn×PM)}{nl:List (Nd×ND)}{Ns:List Nd}{k:Nat}
theorem JZ(F:Ps.all Ld=B)(D:Cy w A ql K Ps)(uZ:Ps.length=n)(uS:n<=1000000000)(uR:∀P∈Ps,rG P)(G:2<=K/\K<=1000):Zv 319 #[.slice A n c] w (.bool B):=by
 refine sL func319 rfl<|M<|sU (ι:={q:Nat // q<=n/\(Ps.take q).all Ld=true}) 16 (λq=>⟨[(0,.v (.slice A n c)),(3,.v (I q.1))],[]⟩) (λq u=>True) (λq=>n-q.1) (⟨0,AJ _,rfl⟩) O (λ_=>O) zt (λu h=>trivial) ?_
 rintro⟨k,vg,e⟩ Q;have vg:k<=n:=vg;have e:(Ps.take k).all Ld=true:=e
 by_cases m:k<n
 case neg=>
  obtain rfl:k=n:=J
  rw[AZ J]at e;exact M<|X (decide ((k:Int)<(k:Int))) false Zs<|sN O<|M<|ZX Zt (by rw[<-F,e])
 obtain⟨P,s⟩:∃x,Ps[k]? =some x:=⟨_,AA J⟩
 obtain⟨p,t,l⟩:=D.get s;obtain⟨ad,L,ve⟩:=D.row.2 k _ t;have o:=uR P (AE s);refine M<|X (decide ((k:Int)<(n:Int))) true Zp<|ZA (Ki 64 (.slice A n c) k) (.pointer (some (ad.add (k*40)))) (λC f h=>Vm L m)<|ZA (L4 49 (ad.add (k*40))) (.agg (dD (P,p)).toArray) (λC f h=>Yn λj v vf=>La f (ve j v vf)) ?_
 cases r:Ld P
 .exact Z (λC f h=>OC (P:=P) (q:=p) r (l.below f) G (by have:=o.1;omega) (by have:=o.2;omega)) λu=>ZI true<|sN O<|M<|ZX Zf (by rw[<-F,GU s r])
 .refine Z (λC f h=>OC (P:=P) (q:=p) r (l.below f) G (by have:=o.1;omega) (by have:=o.2;omega)) λu=>ZI false<|sS 3 m J O<|sR (⟨k+1,by show k+1<=n;omega,by rw[En s e,r]⟩) O zo zt (λu h=>trivial)
theorem SF(p:NM N q K w)(m:LQ N)(F:2<=K/\K<=1000)(f:Z8 N=B):YG XW 278 #[Ya N q] w (K6 w (λz:{z:Int // decide (z=0)=B}=>I z.1) λ_ _=>True):=by
 unfold Z8 at f;refine sL func278 rfl<|M ?_
 cases s:Ru N.path
 .rw[s,BF]at f;refine Z (λj e h=>Aa (c:=q.pac) (p.pa.below e) m.pa s) λu=>ZI true<|ZV (I 10) (λj e h=>⟨⟨10,by rw[<-f];rfl⟩,rfl,e,λ_ _ _=>trivial⟩)
 rw[s,AG]at f;refine Z (λj e h=>Aa (c:=q.pac) (p.pa.below e) m.pa s) λu=>ZI false<|Z (λj e h=>cd (x:=N.frule)) λQ=> ?_
 cases vg:Un N.frule
 .rw[vg,BF]at f;refine X (!false) true (rfl)<|ZV (I 2) (λj e h=>⟨⟨2,by rw[<-f];rfl⟩,rfl,e,λ_ _ _=>trivial⟩)
 rw[vg,AG]at f;refine sQ (!true) false O (rfl)<|H 5<|sT O 1000 6 18 [19,20,21,22,23] 13 true (decide ((N.stroke.length:Int)>1)) ((decide ((N.fill.length:Int)>1))||(decide ((N.stroke.length:Int)>1))) O O O (λ_=>O) Ov λG=>M ?_
 cases r:FV N
 case true=>
  rw[r]at f;refine X (FV N) true (r)<|ZV (I 5) (λj e h=>⟨⟨5,by rw[<-f];rfl⟩,rfl,e,λ_ _ _=>trivial⟩)
 rw[r,AR,AG]at f;refine sQ (FV N) false O (r)<|H 5<|tj O true 1000 6 3 29 [30,31,32,33,34] 24 false (R8 N.sty) (!R8 N.sty) ((decide ((N.stroke.length:Int)>0))&&(!R8 N.sty)) O (λj e h=>kT (y:=(q.daA,q.dac)) rfl (p.da.below e) (by have:=m.da;omega)) O O O (λ_=>O) Q4 λvf Φxj2 t=>M ?_
 cases l:ex N
 case false=>
  rw[l,BF]at f;unfold ex at l
  by_cases o:N.stroke.length=0
  .rw[YS o]at l;refine sQ ((decide ((N.stroke.length:Int)>0)&& !R8 N.sty)) false O (by rw[YV J];rfl)<|H 5<|tj O true 1000 5 3 40 [41,42,43,44] 35 false (Qj N.sty) (!Qj N.sty) (((N.stroke.length:Int)==0)&&(!Qj N.sty)) O (λj e h=>F8 (N:=N) (q:=q)) O O O (λ_=>O) Q4 λuZ Φxj3 v=>M<|X ((((N.stroke.length:Int)==0)&& !Qj N.sty)) true (by rw[l,YQ.2 J];rfl)<|ZV (I 17) (λj e h=>⟨⟨17,by rw[<-f];rfl⟩,rfl,e,λ_ _ _=>trivial⟩)
  .rw[V o]at l;refine X ((decide ((N.stroke.length:Int)>0)&& !R8 N.sty)) true (by rw[l,YU J];rfl)<|ZV (I 13) (λj e h=>⟨⟨13,by rw[<-f];rfl⟩,rfl,e,λ_ _ _=>trivial⟩)
 rw[l,AG]at f;unfold ex at l;have uS:(decide ((N.stroke.length:Int)>0)&& !R8 N.sty)=false:=by
  by_cases o:N.stroke.length=0
  .rw[YV J];rfl
  .rw[V o]at l;rw[l,Bool.not_true,CP]
 have uR:(((N.stroke.length:Int)==0)&& !Qj N.sty)=false:=by
  by_cases o:N.stroke.length=0
  .rw[YS o]at l;rw[l,Bool.not_true,CP]
  .rw[YR.2 J];rfl
 refine sQ ((decide ((N.stroke.length:Int)>0)&& !R8 N.sty)) false O (uS)<|H 5<|tj O true 1000 5 3 40 [41,42,43,44] 35 false (Qj N.sty) (!Qj N.sty) (((N.stroke.length:Int)==0)&&(!Qj N.sty)) O (λj e h=>F8 (N:=N) (q:=q)) O O O (λ_=>O) Q4 λL Φxj4 D=>M<|sQ ((((N.stroke.length:Int)==0)&& !Qj N.sty)) false O (uR)<|H 5<|ZD 5 (λj e h=>JZ (c:=q.fic) rfl (p.fi.below e) rfl (by have:=m.fn;omega) m.fi F) λP=>tj O false 1000 6 3 50 [51,52,53,54,55] 45 true (N.stroke.all Ld) (!N.stroke.all Ld) ((!N.fill.all Ld)||(!N.stroke.all Ld)) O (λj e h=>JZ (c:=q.stc) rfl (p.st.below e) rfl (by have:=m.sn;omega) m.st F) O O O (λ_=>O) JH λve Φxj5 C=>M ?_
 cases B
 .refine X (!N.fill.all Ld|| !N.stroke.all Ld) true (by rw[<-Bool.not_and,f];rfl)<|ZV (I 16) (λj e h=>⟨⟨16,rfl⟩,rfl,e,λ_ _ _=>trivial⟩)
 .refine X (!N.fill.all Ld|| !N.stroke.all Ld) false (by rw[<-Bool.not_and,f];rfl)<|ZV (I 0) (λj e h=>⟨⟨0,rfl⟩,rfl,e,λ_ _ _=>trivial⟩)
theorem UW(l:NM N q K w)(r:LQ N)(Q:2<=K/\K<=1000)(f:Mb N=B):YG XW 217 #[Ya N q] w (K6 w (λz:{z:Int // decide (z=0)=B}=>I z.1) λ_ _=>True):=by
 unfold Mb GB at f;refine sL func217 rfl<|H 4<|sT O 1000 5 7 [8,9,10,11] 3 true (decide (N.kind>3)) ((decide (N.kind<1))||(decide (N.kind>3))) O O O (λ_=>O) Ov λuR=>M ?_
 cases C:FQ N
 case true=>
  rw[C]at f;refine X (FQ N) true (C)<|ZV (I 2) (λj e h=>⟨⟨2,by rw[<-f];rfl⟩,rfl,e,λ_ _ _=>trivial⟩)
 rw[C,AR,AG]at f;refine sQ (FQ N) false O (C)<|H 4<|sT O 1000 5 16 [17,18,19,20] 21 true (decide (N.id>1073741824)) ((decide (N.id<1))||(decide (N.id>1073741824))) O O O (λ_=>O) Ov λuZ=>sT O 1000 5 21 [22,23,24,25] 26 true (decide (N.dep<0)) ((decide (N.id<1)||decide (N.id>1073741824))||(decide (N.dep<0))) O O O (λ_=>O) Ov λve=>sT O 1000 5 26 [27,28,29,30] 12 true (decide (N.dep>=8)) (((decide (N.id<1)||decide (N.id>1073741824))||decide (N.dep<0))||(decide (N.dep>=8))) O O O (λ_=>O) Ov λP=>M ?_
 cases s:SA N
 case true=>
  rw[s]at f;refine X (SA N) true (s)<|ZV (I 6) (λj e h=>⟨⟨6,by rw[<-f];rfl⟩,rfl,e,λ_ _ _=>trivial⟩)
 rw[s,AR,AG]at f;refine X (SA N) false (s)<|Z (λj e h=>W7 rfl (l.tr.below e) J) λuY=> ?_
 cases F:N.T.ok
 .rw[F]at f;refine X (!false) true (rfl)<|ZV (I 5) (λj e h=>⟨⟨5,by rw[<-f];rfl⟩,rfl,e,λ_ _ _=>trivial⟩)
 rw[F,AG]at f;refine X (!true) false (rfl)<|Z (λj e h=>b9 (l.tr.below e) J) λd=>Z (λj e h=>Dj 0 j Zd Zd) λz=>Z (λj e h=>dU h.1.2.q h.2.q J) λv=> ?_
 cases t:decide (N.T.det≠0)
 .rw[t]at f;refine X ((Ub N.T.det ((0:Int):Rat)==0)) true (by rw[RY];have:=YO t;exact YU (Classical.not_not.1 this))<|ZV (I 9) (λj e h=>⟨⟨9,by rw[<-f];rfl⟩,rfl,e,λ_ _ _=>trivial⟩)
 rw[t,AG]at f;refine X ((Ub N.T.det ((0:Int):Rat)==0)) false (by rw[RY];exact YV (YP t)) ?_;cases u:Ru N.clip
 .rw[u]at f;refine Z (λj e h=>Aa (c:=q.clc) (l.cl.below e) r.cl u) λvf=>ZI true<|ZV (I 10) (λj e h=>⟨⟨10,by rw[<-f];rfl⟩,rfl,e,λ_ _ _=>trivial⟩)
 rw[u,AG]at f;refine Z (λj e h=>Aa (c:=q.clc) (l.cl.below e) r.cl u) λvf=>ZI false<|Z (λj e h=>WG (N:=N) (q:=q)) λuW=> ?_
 cases D:(Ry N&&Z4 N)
 .rw[D]at f;refine X (!false) true (rfl)<|ZV (I 17) (λj e h=>⟨⟨17,by rw[<-f];rfl⟩,rfl,e,λ_ _ _=>trivial⟩)
 rw[D,AG]at f;refine X (!true) false (rfl) ?_;unfold R_ at f
 by_cases o:N.kind=2
 .rw[V J,YS o]at f;refine X (N.kind==2) true (YQ.2 o)<|Z (λj e h=>SF (l.below e) r Q f) λz=>ZV (I z.1) (λj e h=>⟨z,rfl,e,λ_ _ _=>trivial⟩)
 refine X (N.kind==2) false (YR.2 o) ?_
 by_cases p:N.kind=1
 .rw[YS p]at f;refine X (N.kind==1) true (YQ.2 p)<|Z (λj e h=>cr (x:=N.bl)) λL=> ?_
  cases G:Up N.bl
  .rw[G]at f;refine X (!false) true (rfl)<|ZV (I 2) (λj e h=>⟨⟨2,by rw[<-f];rfl⟩,rfl,e,λ_ _ _=>trivial⟩)
  .rw[G]at f;refine X (!true) false (rfl)<|ZV (I 0) (λj e h=>⟨⟨0,by rw[<-f];rfl⟩,rfl,e,λ_ _ _=>trivial⟩)
 rw[V p,V o]at f;refine X (N.kind==1) false (YR.2 p)<|Z (λj e h=>Gv (m:=N.im) (y:=(q.pxA,q.pxc)) rfl (l.px.below e) (by have:=r.px;omega)) λL=> ?_
 cases hi:Ay N.im
 .rw[hi]at f;refine X (!false) true (rfl)<|ZV (I 16) (λj e h=>⟨⟨16,by rw[<-f];rfl⟩,rfl,e,λ_ _ _=>trivial⟩)
 rw[hi,AG]at f;refine sQ (!true) false O (rfl)<|H 4<|sT O 1000 4 71 [72,73,74] 75 (N.samp !=2) false ((N.samp !=1)&&(N.samp !=2)) O O O (λ_=>O) M3 λvg=>M ?_
 cases uS:((N.samp !=1)&&(N.samp !=2))
 .rw[uS]at f;refine X (false) false (rfl)<|ZV (I 0) (λj e h=>⟨⟨0,by rw[<-f];rfl⟩,rfl,e,λ_ _ _=>trivial⟩)
 .rw[uS]at f;refine X (true) true (rfl)<|ZV (I 2) (λj e h=>⟨⟨2,by rw[<-f];rfl⟩,rfl,e,λ_ _ _=>trivial⟩)
end
end
section
--ATNAMES
section
variable{w:YN}{A:YY}{n c i k:Nat}{z:Int}{B:Bool}{N:Nd}{q:ND}{K:Nat}{S:Sc}{y:YZ}{nl:List (Nd×ND)}{Ns:List Nd}
theorem np{P:YK}{t e:YH}{n c i s:Nat}(b:P.underlying t=some (.slice e))(a:P.elem t=e)(f:Ot P e=some s)(hi:i<=c):(js t (.slice A n c) i).run P w= .ok (.value (.slice (if c=0 then A else A.map (·.add 0)) i c)) w:=by
 have g:=run_slice_h (P:=P) w t A n c (by rw[a];exact b) .i64 i J J;have h:=run_sliceAt_slice (P:=P) w t (.slice A n c) none (some (I i)) none (by rw[a];exact b);simp only[js,BT,h,g,a,M0 f,BJ,BU];simp[sliced]
theorem O3.upto{α:Type}{s:Nat}{cl:α->List YM}{l:List α}(h:O3 w A n s cl l)(hi:i<=n):O3 w (if c=0 then A else A.map (·.add 0)) i s cl (l.take i):=by
 refine⟨by rw[BQ,h.1];omega,λk s a=> ?_⟩;rw[BW]at a;split at a
 .obtain⟨ad,e,b⟩:=h.2 k s a;subst e;split
  .exact⟨ad,rfl,b⟩
  .exact⟨ad.add 0,rfl,by simpa[Addr.add]using b⟩
 .cases a
def sx(w:YN)(A:YY)(n:Nat)(nl:List (Nd×ND)):Prop:=O3 w A n 47 (λx=>Yb x.1 x.2) nl
theorem fC{α:Type}{p:α->Bool}{l:List α}{k:Nat}(h:l.length<=k)(a:(l.take k).any p=false):l.any p=false:=by rw[AZ h]at a;exact a
theorem m6(l:sx w A n nl)(C:n<=1000000000)(o:nl.any (λx=>x.1.id==z)=B):YG XW 218 #[.slice A n c,I z] w (K6 w (λr:{r:Int // decide (r>=0)=B}=>I r.1) λ_ _=>True):=by
 have s:=l.1;refine sL func218 rfl<|M<|sU (ι:={k:Nat // k<=n/\(nl.take k).any (λx=>x.1.id==z)=false}) 20 (λk=>⟨[(0,.v (.slice A n c)),(1,.v (I z)),(5,.v (I k.1))],[]⟩) (λk u=>True) (λk=>n-k.1) (⟨0,AJ _,rfl⟩) O (λ_=>O) zt (λu h=>trivial) ?_
 rintro⟨k,m,a⟩ D;have m:k<=n:=m;have a:(nl.take k).any (λx=>x.1.id==z)=false:=a
 by_cases e:k<n
 case neg=>
  obtain rfl:k=n:=J
  refine M<|X (decide ((k:Int)<(k:Int))) false Zs<|sN O<|M<|ZV (I (-1)) (λf b h=>⟨⟨-1,by rw[<-o,fC J a];rfl⟩,rfl,b,λ_ _ _=>trivial⟩)
 obtain⟨x,j⟩:∃x,nl[k]? =some x:=⟨_,AA J⟩
 obtain⟨ad,t,p⟩:=l.2 k x j;refine M<|X (decide ((k:Int)<(n:Int))) true Zp<|sV (Ki 25 (.slice A n c) k) (.pointer (some (ad.add (k*47)))) O (λf b h=>Nb t e)<|H 3<|ZA (P8 69 (ad.add (k*47)) 0) (.pointer (some ((ad.add (k*47)).add 0))) (λf b h=>Li (d:=0) O)<|ZA (L4 3 ((ad.add (k*47)).add 0)) (I x.1.id) (λf b h=>K9 O (La b (p 0 _ rfl))) ?_
 cases g:(x.1.id==z)
 .refine X (x.1.id==z) false (g)<|sS 5 e J O<|sR (⟨k+1,by show k+1<=n;omega,by rw[Y5 j,a,g];rfl⟩) O zo zt (λu h=>trivial)
 .refine X (x.1.id==z) true (g)<|sN O<|M<|ZV (I (k:Int)) (λf b h=>⟨⟨k,by rw[<-o,SE j g];simp⟩,rfl,b,λ_ _ _=>trivial⟩)
theorem k8:XR []=0:=rfl
theorem pZ{l:List Nd}(a:l[k]? =some N):XR (l.take (k+1))=N.dep+(if N.kind=1 then 1 else 0):=TH a
theorem fk(r:Vs w A nl K Ns)(ve:Ns.length=n)(D:Ns[k]? =some N)(vg:∀x∈Ns.take (k+1),Mb x=true)(G:n<=1000000000)(m:(!decide (N.dep>XR (Ns.take k)))=B):Zv 219 #[.slice A n c,I k] w (.bool B):=by
 have vf:=(AP.1 D).1;obtain⟨q,uS,_⟩:=r.get D;obtain⟨ad,t,p⟩:=r.row.2 k _ uS;have L:=QU (vg N (AE (i:=k) (by rw[BW,YS J];exact D)));cases k with
 |zero=>
  rw[List.take_zero,k8]at m;exact sL func219 rfl<|M<|ZI true<|sV (Ki 25 (.slice A n c) (0:Nat)) (.pointer (some (ad.add (0*47)))) O (λe b h=>Nb (k:=0) t J)<|H 3<|ZA (P8 69 (ad.add (0*47)) 2) (.pointer (some ((ad.add (0*47)).add 2))) (λe b h=>Li (d:=2) O)<|ZA (L4 3 ((ad.add (0*47)).add 2)) (I N.dep) (λe b h=>K9 O (La b (p 2 _ rfl)))<|ZX (.bool (N.dep==0)) (by rw[<-m];congr 2;rw[BC];simp;omega)
 | succ j=>
  obtain⟨uR,u⟩:∃v,Ns[j]? =some v:=⟨_,AA J⟩
  obtain⟨uZ,C,_⟩:=r.get u;obtain⟨a,f,g⟩:=r.row.2 j _ C;have F:=QU (vg uR (AE (i:=j) (by rw[BW,YS J];exact u)));rw[pZ u]at m;have l:BH .i64 (YA.wrap (((j+1:Nat):Int)-1))=I (j:Int):=by rw[AU _ J];congr 1;omega
  refine sL func219 rfl<|M<|sQ ((((j+1:Nat):Int)==0)) false O (YR.2 J)<|H 3<|sM 15 (I (YA.wrap (((j+1:Nat):Int)-1))) (I (j:Int)) O (l)<|sP 3 (Ki 25 (.slice A n c) j) (.pointer (some (a.add (j*47)))) O (λe b h=>Nb f J)<|H 4<|sP 4 (P8 69 (a.add (j*47)) 1) (.pointer (some ((a.add (j*47)).add 1))) O (λe b h=>Li (d:=1) O)<|H 5<|sP 5 (L4 3 ((a.add (j*47)).add 1)) (I uR.kind) O (λe b h=>K9 O (La b (g 1 _ rfl)))<|H 8 ?_
  by_cases o:uR.kind=1
  .refine sM 20 (.bool (uR.kind==1)) Zt O (by rw[YQ.2 o])<|H 10<|sP 10 (Ki 25 (.slice A n c) (j+1:Nat)) (.pointer (some (ad.add ((j+1)*47)))) O (λe b h=>Nb t J)<|H 11<|sP 11 (P8 69 (ad.add ((j+1)*47)) 2) (.pointer (some ((ad.add ((j+1)*47)).add 2))) O (λe b h=>Li (d:=2) O)<|H 12<|sP 12 (L4 3 ((ad.add ((j+1)*47)).add 2)) (I N.dep) O (λe b h=>K9 O (La b (p 2 _ rfl)))<|H 16<|sM 28 (I (YA.wrap (((j+1:Nat):Int)-1))) (I (j:Int)) O (l)<|sP 16 (Ki 25 (.slice A n c) j) (.pointer (some (a.add (j*47)))) O (λe b h=>Nb f J)<|H 17<|sP 17 (P8 69 (a.add (j*47)) 2) (.pointer (some ((a.add (j*47)).add 2))) O (λe b h=>Li (d:=2) O)<|H 18<|sP 18 (L4 3 ((a.add (j*47)).add 2)) (I uR.dep) O (λe b h=>K9 O (La b (g 2 _ rfl)))<|H 20<|ZT 32 (I (YA.wrap (uR.dep+1))) (I (uR.dep+1)) (by rw[AU _ J]) ?_
   rw[YS o]at m;cases s:(N.dep==uR.dep+1)
   .exact sQ (N.dep==uR.dep+1) false O (s)<|H 2<|sP 2 (Ki 25 (.slice A n c) (j+1:Nat)) (.pointer (some (ad.add ((j+1)*47)))) O (λe b h=>Nb t J)<|H 3<|sP 3 (P8 69 (ad.add ((j+1)*47)) 2) (.pointer (some ((ad.add ((j+1)*47)).add 2))) O (λe b h=>Li (d:=2) O)<|H 4<|sP 4 (L4 3 ((ad.add ((j+1)*47)).add 2)) (I N.dep) O (λe b h=>K9 O (La b (p 2 _ rfl)))<|H 8<|sM 42 (I (YA.wrap (((j+1:Nat):Int)-1))) (I (j:Int)) O (l)<|sP 8 (Ki 25 (.slice A n c) j) (.pointer (some (a.add (j*47)))) O (λe b h=>Nb f J)<|H 9<|sP 9 (P8 69 (a.add (j*47)) 2) (.pointer (some ((a.add (j*47)).add 2))) O (λe b h=>Li (d:=2) O)<|H 10<|ZB 10 (L4 3 ((a.add (j*47)).add 2)) (I uR.dep) (λe b h=>K9 O (La b (g 2 _ rfl)))<|ZX (.bool (decide (N.dep<=uR.dep))) (by rw[<-m];congr 2;rw[BC];have:=YR.1 s;simp;omega)
   .exact X (N.dep==uR.dep+1) true (s)<|ZX Zt (by rw[<-m];congr 2;have:=YQ.1 s;rw[YV J];rfl)
  .refine sM 20 (.bool (uR.kind==1)) Zf O (by rw[YR.2 o]) ?_;rw[V o]at m;exact M<|sW false O<|H 2<|sP 2 (Ki 25 (.slice A n c) (j+1:Nat)) (.pointer (some (ad.add ((j+1)*47)))) O (λe b h=>Nb t J)<|H 3<|sP 3 (P8 69 (ad.add ((j+1)*47)) 2) (.pointer (some ((ad.add ((j+1)*47)).add 2))) O (λe b h=>Li (d:=2) O)<|H 4<|sP 4 (L4 3 ((ad.add ((j+1)*47)).add 2)) (I N.dep) O (λe b h=>K9 O (La b (p 2 _ rfl)))<|H 8<|sM 42 (I (YA.wrap (((j+1:Nat):Int)-1))) (I (j:Int)) O (l)<|sP 8 (Ki 25 (.slice A n c) j) (.pointer (some (a.add (j*47)))) O (λe b h=>Nb f J)<|H 9<|sP 9 (P8 69 (a.add (j*47)) 2) (.pointer (some ((a.add (j*47)).add 2))) O (λe b h=>Li (d:=2) O)<|H 10<|ZB 10 (L4 3 ((a.add (j*47)).add 2)) (I uR.dep) (λe b h=>K9 O (La b (g 2 _ rfl)))<|ZX (.bool (decide (N.dep<=uR.dep))) (by rw[<-m];congr 2;rw[BC];simp<;>omega)
def PE(Ns:List Nd)(k:Nat)(N:Nd):Bool:=Mb N&&(!decide (N.id∈(Ns.take k).map (·.id))&& !decide (N.dep>XR (Ns.take k)))
theorem mE{l:List (Nd×ND)}:l.any (λx=>x.1.id==z)=decide (z∈(l.map (·.1)).map (·.id)):=by
 rw[BC];simp only[CL,YQ,decide_eq_true_eq,CR,CI,Function.comp]
theorem XB(m:Vs w A nl K Ns)(Q:Ns.length=n)(uR:gw Ns)(L:2<=K/\K<=1000)(uS:n<=c)(p:Ns[k]? =some N)(uZ:∀x∈Ns.take k,Mb x=true)(t:n<=1000000000)(g:PE Ns k N=B):YG XW 148 #[.slice A n c,I k] w (K6 w (λz:{z:Int // decide (z=0)=B}=>I z.1) λ_ _=>True):=by
 unfold PE at g;have T:=(AP.1 p).1;obtain⟨q,uY,o⟩:=m.get p;obtain⟨ad,vf,G⟩:=m.row.2 k _ uY;have F:=uR N (AE p);refine sL func148 rfl<|M<|ZA (Ki 25 (.slice A n c) k) (.pointer (some (ad.add (k*47)))) (λb a h=>Nb vf J)<|ZA (L4 69 (ad.add (k*47))) (Ya N q) (λb a h=>Xt λj v P=>La a (G j v P)) ?_
 cases f:Mb N
 .rw[f,BF]at g;refine Z (λb a h=>UW (o.below a) F L f) λz=>X (z.1 !=0) true (by have:=YO z.2;simpa using this)<|ZV (I z.1) (λb a h=>⟨⟨z.1,by rw[z.2,<-g]⟩,rfl,a,λ_ _ _=>trivial⟩)
 rw[f,AG]at g;have C:∀x∈Ns.take (k+1),Mb x=true:=λx ve=>by
  rw[Ve p]at ve;rcases AX.1 ve with h|h
  .exact uZ x h
  .obtain rfl:x=N:=by simpa using h
   exact f
 refine Z (λb a h=>UW (o.below a) F L f) λz=>sQ (z.1 !=0) false O (by have:=YP z.2;simpa using this)<|H 2<|sP 2 (js 25 (.slice A n c) k) (.slice (if c=0 then A else A.map (·.add 0)) k c) O (λb a h=>np (e:=69) (s:=47) O O O J)<|H 5<|sP 5 (Ki 25 (.slice A n c) k) (.pointer (some (ad.add (k*47)))) O (λb a h=>Nb vf J)<|H 6<|sP 6 (P8 69 (ad.add (k*47)) 0) (.pointer (some ((ad.add (k*47)).add 0))) O (λb a h=>Li (d:=0) O)<|H 7<|ZB 7 (L4 3 ((ad.add (k*47)).add 0)) (I N.id) (λb a h=>K9 O (La a (G 0 _ rfl))) ?_
 obtain⟨D,vg⟩:∃D:Bool,D=decide (N.id∈(Ns.take k).map (·.id)):=⟨_,rfl⟩
 rw[<-vg]at g;have l:(nl.take k).any (λx=>x.1.id==N.id)=D:=by rw[vg,mE,List.map_take,m.eq]
 refine Z (λb a h=>m6 (c:=c) (nl:=nl.take k) (show sx b (if c=0 then A else A.map (·.add 0)) k _ from(m.row.below a).upto J) J l) λr=> ?_
 clear vg l;cases D
 case true=>
  refine X (decide (r.1>=0)) true (r.2)<|ZV (I 7) (λb a h=>⟨⟨7,by rw[<-g];rfl⟩,rfl,a,λ_ _ _=>trivial⟩)
 rw[AR,AG]at g;refine X (decide (r.1>=0)) false (r.2)<|Z (λb a h=>fk (c:=c) (m.below a) Q p C t g) λu=> ?_
 cases B
 .refine ZI true<|ZV (I 17) (λb a h=>⟨⟨17,rfl⟩,rfl,a,λ_ _ _=>trivial⟩)
 .refine ZI false<|ZV (I 0) (λb a h=>⟨⟨0,rfl⟩,rfl,a,λ_ _ _=>trivial⟩)
theorem fq{l:List Nd}{k:Nat}(a:l[k]? =some N)(h:Cs (l.take k) (l.drop k)=B):(PE l k N&&Cs (l.take (k+1)) (l.drop (k+1)))=B:=by
 rw[<-VH a h];unfold PE;simp only[Bool.and_assoc]
theorem eN(G:Vs w y.1 nl K S.nds)(F:gw S.nds)(vf:2<=K/\K<=1000)(f:S.nds.length<=y.2)(g:A8 S=B):YG XW 77 #[W3 S y] w (K6 w (λz:{z:Int // decide (z=0)=B}×Int=> .tuple #[I z.1.1,I z.2]) λ_ _=>True):=by
 unfold A8 at g;refine sL func77 rfl<|H 4<|sT O 1000 5 9 [10,11,12,13] 14 true (decide (S.w>256)) ((decide (S.w<1))||(decide (S.w>256))) O O O (λ_=>O) Ov λve=>sT O 1000 5 14 [15,16,17,18] 19 true (decide (S.h<1)) ((decide (S.w<1)||decide (S.w>256))||(decide (S.h<1))) O O O (λ_=>O) Ov λL=>sT O 1000 4 19 [20,21,22] 23 true (decide (S.h>256)) (((decide (S.w<1)||decide (S.w>256))||decide (S.h<1))||(decide (S.h>256))) O O O (λ_=>O) Ov (λuR=> ?_)
 cases C:FI S
 case true=>
  rw[C]at g;refine ZT 23 (.bool (((decide (S.w<1)||decide (S.w>256))||decide (S.h<1))||decide (S.h>256))) (.bool true) (by rw[<-C];rfl)<|ZI true<|ZV (.tuple #[I 6,I 0]) (λs b h=>⟨(⟨6,by rw[<-g];rfl⟩,0),rfl,b,λ_ _ _=>trivial⟩)
 rw[C,AR,AG]at g;refine ZT 23 (.bool (((decide (S.w<1)||decide (S.w>256))||decide (S.h<1))||decide (S.h>256))) (.bool false) (by rw[<-C];rfl)<|ZI false ?_
 cases r:decide ((S.nds.length:Int)>64)
 case true=>
  rw[r]at g;refine X (decide ((S.nds.length:Int)>64)) true (r)<|ZV (.tuple #[I 5,I 64]) (λs b h=>⟨(⟨5,by rw[<-g];rfl⟩,64),rfl,b,λ_ _ _=>trivial⟩)
 rw[r,AR,AG]at g;have uZ:S.nds.length<=64:=by have:=YO r;omega
 refine X (decide ((S.nds.length:Int)>64)) false (r)<|sU (ι:={k:Nat // k<=S.nds.length/\(∀x∈S.nds.take k,Mb x=true)/\Cs (S.nds.take k) (S.nds.drop k)=B}) 43 (λk=>⟨[(1,.p 1 0),(4,.v (I k.1))],[(1,(eK S y).map .v)]⟩) (λk u=>True) (λk=>S.nds.length-k.1) (⟨0,AJ _,λx l=>(by simp at l),g⟩) O (λ_=>O) zt (λu h=>trivial) ?_
 rintro⟨k,uS,m,a⟩ P;have uS:k<=S.nds.length:=uS;have m:∀x∈S.nds.take k,Mb x=true:=m;have a:Cs (S.nds.take k) (S.nds.drop k)=B:=a
 by_cases t:k<S.nds.length
 case neg=>
  refine M<|X (decide ((k:Int)<(S.nds.length:Int))) false Zp<|sN O<|M<|ZV (.tuple #[I 0,I 0]) (λs b h=>⟨(⟨0,by rw[<-a,CE J];rfl⟩,0),rfl,b,λ_ _ _=>trivial⟩)
 obtain⟨N,l⟩:∃v,S.nds[k]? =some v:=⟨_,AA t⟩
 have e:=fq l a;refine M<|X (decide ((k:Int)<(S.nds.length:Int))) true Zp ?_
 cases j:PE S.nds k N
 .rw[j,BF]at e;refine Z (λs b h=>XB (c:=y.2) (G.below b) rfl F vf f l m J j) λz=>X (z.1 !=0) true (by have:=YO z.2;simpa using this)<|sN O<|M<|ZV (.tuple #[I z.1,I k]) (λs b h=>⟨(⟨z.1,by rw[z.2,<-e]⟩,k),rfl,b,λ_ _ _=>trivial⟩)
 rw[j,AG]at e;have D:Mb N=true:=by unfold PE at j;rw[AD]at j;exact j.1
 refine Z (λs b h=>XB (c:=y.2) (G.below b) rfl F vf f l m J j) λz=>X (z.1 !=0) false (by have:=YP z.2;simpa using this)<|sS 4 t J O ?_
 have vg:∀x∈S.nds.take (k+1),Mb x=true:=λx o=>by
  rw[Ve l]at o;rcases AX.1 o with h|h
  .exact m x h
  .obtain rfl:x=N:=by simpa using h
   exact D
 refine sR (⟨k+1,by show k+1<=S.nds.length;omega,vg,e⟩) O zo zt (λu h=>trivial)
theorem PL(g:Vs w y.1 nl K S.nds)(l:gw S.nds)(j:2<=K/\K<=1000)(a:S.nds.length<=y.2)(e:A8 S=B):Zv 37 #[W3 S y] w (.bool B):=sL func37 rfl<|M<|Z (λm f h=>eN (g.below f) l j a e) λz=>ZX (.bool (z.1.1==0)) (congrArg (λb=>Ending.returned (Value.bool b)) z.1.2)
end
end
end Go.Proofs.YtnmokookhcgklaaGreatDoor
