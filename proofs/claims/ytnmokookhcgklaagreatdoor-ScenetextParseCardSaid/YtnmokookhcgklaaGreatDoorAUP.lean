/-
 Numbers as text.
-/
import Derived.Test.YtnmokookhcgklaaGreatDoorAWf
import Derived.Test.YtnmokookhcgklaaGreatDoorASh
import Derived.Deep.LoopGhost
import Derived.BigRegion
import Derived.Deep.RegionWith
import Derived.BigQuiet
import Derived.Defers
import Derived.Lib.IndexBytes
import Derived.IntWalk
import Derived.OpenShut
import Derived.Lib.SmallJoins
import Derived.ChangeSlices
import Derived.Deep.Slices
open Array renaming getElem?_eq_some_iff->BB,toArray_toList->CE,getElem?_modify->CT
open Bool renaming false_eq_true->BC,true_and->BY,and_eq_true->DQ
open Function renaming comp_def->DK
open Go.IntWalk renaming i64_in->BS
open Go.Lib renaming bitLen->BI,hasPrefix->BZ,index->DG,cut->DH
open Go.Result renaming andThen_ok->AC
open Go.Sem renaming run_bind->AE,run_pure->AJ
open Go.Value renaming int->BG,ownBlock->BT,slice->CH
open Go.World renaming ownsRow_lit->BV,cell?->BW
open Go.World.grownBy renaming refl->DF
open Int renaming toNat_natCast->AL,fdiv_eq_ediv_of_nonneg->BH,sign_eq_neg_one_of_neg->BO,eq_ofNat_of_zero_le->BU,natCast_ediv->DP
open List renaming length_eq_zero_iff->AB,length_append->AD,getElem?_eq_getElem->AP,length_set->AQ,take_of_length_le->AR,length_nil->AW,getElem?_eq_some_iff->AX,length_take->BE,length_cons->BF,drop_zero->BJ,length_reverse->BP,all_eq_true->CA,mem_of_getElem?->CC,replicate->CG,getElem?_take->CI,mem_cons_self->CJ,mem_singleton->CK,getD_eq_getElem?_getD->CM,length_drop->CQ,getElem?_eq_none->CU,mem_iff_getElem?->CW,getElem?_toArray->CX,take_append_drop->CY,mem_cons_of_mem->CZ,take_succ_cons->DA,drop_succ_cons->DC,ext_getElem?->DI,take_add_one->DJ,getElem?_map->DL,append_assoc->DM,mem_append->DU,length_map->DW,mem_map->DZ
open Nat renaming le_refl->AA,le_of_eq->AG,zero_le->AH,le_trans->AI,lt_of_le_of_lt->AK,eq_zero_or_pos->AM,lt_of_lt_of_le->AN,gcd->AU,div_le_self->AY,lt_trans->AZ,mod_lt->BA,zero_add->BK,gcd_comm->BM,pow_le_pow_right->BN,mul_comm->BR,mul_le_mul_right->CB,mul_le_mul_left->CF,zero_mul->CO,add_comm->CP,mul_le_mul->CV,lt_or_ge->DE,mul_one->DN,div_eq_of_lt->DO,min_eq_left->DS,div_add_mod->DT,pow_succ->DX,add_zero->DY,beq->EA
open Option renaming isSome_iff_exists->BD,isSome_none->BL,map_eq_some_iff->BX,map_some->CD,getD_some->CR,bind_eq_some_iff->CS,bind_some->DR
open Option.some renaming injEq->CN
open Prod.mk renaming injEq->CL
open UInt8 renaming toNat_inj->BQ
open Go renaming World->YN,Value->YM,Program->YK,Operand->YJ,Deferred->YI,TypeId->YH,Calls->YG,PanicEntry->YF,FuncId->YE,Oper->YD,Ending->YC,Addr->YB
open Go.IntKind renaming i64->YA,u64->XZ,u32->XY,u8->XX
namespace Go.Proofs.YtnmokookhcgklaaGreatDoor
set_option maxRecDepth 100000
set_option maxHeartbeats 8000000
set_option linter.unusedVariables false
set_option linter.unusedSimpArgs false
open Go.RowKit Go.Proofs.Tryz
open Go.Proofs.Tryz renaming prog->XW
theorem lz{UA VA:YY}{L T f g:Nat}{u v:List Nat}(w:YN)(b:L=T+1)(l:1<=T)(k:In w UA (L+1) f u)(h:In w VA L g v)(a:2147483648<=dg v T)(c:val u<4294967296*val v):
 YG XW 335 #[.slice UA (L+1) f,.slice VA L g] w λe j=>∃q:Nat,e= .returned (.int .u64 q)/\Cj (val u) (val v) q/\Qd w j:=by
 obtain⟨m,rfl⟩:∃m,T=m+1:=⟨T-1,by omega⟩
 subst b;exact mO w k h a c
theorem MS{l:List Nat}{k:Nat}(h:val l<pw k):∀i,k<=i->dg l i=0:=by
 intro i hi;rcases AM (dg l i)with e|e
 .exact e
 .have a:=qO l (i+1);rw[Lq]at a;have c:1*pw i<=dg l i*pw i:=CB _ e;have b:=G3 hi;omega
def oO(b:Nat):Int:=if b=0 then 9 else 0
def rm(a b:Nat):Nat:=if b=0 then 0 else a%b
theorem Ee{b:Nat}(h:b≠0):oO b=0:=V h
theorem Xy{a b:Nat}(h:b≠0):rm a b=a%b:=V h
def Fq(w:YN)(a b:Nat)(e:YC)(f:YN):Prop:=
 ∃A1 h j c A2 n2 c2 g,e= .returned (.tuple #[.slice A1 h j,.slice A2 n2 c2,I (oO b)])/\Na c/\val c=a/b/\Na g/\val g=rm a b/\
  Qp f w.heap.size A1 h j c/\Qp f w.heap.size A2 n2 c2 g/\Below w.heap.size w f
theorem rN(x:Nat)(h:x<4294967296)(w:YN):
 YG XW 333 #[.int .u32 x] w λe b=>e= .returned (I ((32-BI x:Nat):Int))/\w=b:=
 (Tryz.bits_LeadingZeros32 x w J J).mono λ_ _ ⟨a,c⟩=>by
  have f:=Z3 h;rw[AL,show(32:Int)- (BI x:Int)=((32-BI x:Nat):Int) by omega]at a;exact⟨a,c.symm⟩
theorem mB{A B:YY}{n c m d:Nat}{a b:List Nat}(w:YN)(j:In w A n c a)(g:In w B m d b)(f:A_ b m=0):
 YG XW 301 #[.slice A n c,.slice B m d] w (Fq w (val a) (val b)):=by
 have h:val b=0:=by
  rw[<-Ku,show trim b=[]from AB.1 (by rw[g.trim.len];exact f)];rfl
 rw[h];clear h;have H0:=Kv f;clear f;go_enter func301,ntmps301;go_wp2_with fail;refine(Mg w j).mono ?_;rintro e k ⟨rfl,rfl⟩;go_wp2_with fail;refine(Mg w g).mono ?_;rintro e k ⟨rfl,rfl⟩;rw[U H0];go_wp2_with fail;go_ret3;exact⟨none,0,0,[],none,0,0,[],rfl,Na.nil,by rw[Nat.div_zero];rfl,Na.nil,rfl,tw,tw,Below.refl _ _⟩
theorem m7{A B:YY}{n c m d:Nat}{a b:List Nat}(w:YN)(g:In w A n c a)(l:In w B m d b)(v:n<=1099511627776)(j:A_ b m≠0)(f:val a<val b):
 YG XW 301 #[.slice A n c,.slice B m d] w (Fq w (val a) (val b)):=by
 have u:((A_ b m:Int)==0)=false:=by simpa using j
 have K:Hid (Vr (val (trim a)) (val (trim b))= -1):=by rw[Ku,Ku];exact Fm f
 have Hlt:=Kv f;have p:=On a n;clear j f;go_enter func301,ntmps301;go_wp2_with fail;refine(Mg w g).mono ?_;rintro e h ⟨rfl,rfl⟩;go_wp2_with fail;refine(Mg w l).mono ?_;rintro e h ⟨rfl,rfl⟩;go_wp2_with fail;refine(WT w g.trim l.trim).mono ?_;rintro e h ⟨rfl,⟨q,rfl⟩⟩;rw[U K];go_wp2_with fail;refine(dv _ (g.trim.drewN q) J).mono ?_;rintro e h ⟨A1,t,s,rfl,o,r⟩;go_wp2_with fail;go_ret3;have k:=U Hlt;refine⟨none,0,0,[],A1,t,s,trim a,?_,Na.nil,?_,L8 g.dig,?_,tw,o,?_⟩
 .rw[Ee J];rfl
 .rw[DO k];rfl
 .rw[Ku,Xy J,Nat.mod_eq_of_lt k]
 .exact(Mt (Below.refl _ _) q).trans r
theorem o1{A B:YY}{n c m d:Nat}{a b:List Nat}(w:YN)(D:In w A n c a)(vg:In w B m d b)(uU:n<=1099511627776)(C:A_ b m=1)(L:val b<=val a):
 YG XW 301 #[.slice A n c,.slice B m d] w (Fq w (val a) (val b)):=by
 obtain⟨z,uZ,K⟩:∃z,(0:Int)<=z/\Hid (Vr (val (trim a)) (val (trim b))=z):=by
  refine⟨_,?_,rfl⟩;rw[Ku,Ku];unfold Vr;rw[V J];split<;>omega
 have uR:=On a n;have Tb:=vg.trim;rw[C]at Tb;have uS:=Tb.dig 0;obtain⟨x,p⟩:∃x,x=dg (trim b) 0:=⟨_,rfl⟩
 have G:val b=x:=by
  rw[<-Ku,<-Mz (AG Tb.len),Lq,O5,It,p];omega
 have F:x≠0:=by
  have u:=(L8 vg.dig).2;rcases u with h|h
  .have:=Tb.len;rw[h]at this;simp at this
  .rw[Tb.len]at h;rw[p];exact h
 obtain⟨bd,S,o⟩:=Tb.at_ (k:=0) J;rw[<-p]at o uS;rw[show bd.add 0=bd from YS rfl]at o;have g:0<x:=J
 have N:=BA (val (trim a)) g;have Hv:=Kv (And.intro G (And.intro p C));clear G p C F;subst S;go_enter func301,ntmps301;go_wp2_with fail;refine(Mg w D).mono ?_;rintro e vf ⟨rfl,rfl⟩;go_wp2_with fail;refine(Mg w vg).mono ?_;rintro e vf ⟨rfl,rfl⟩;rw[(U Hv).2.2];go_wp2_with fail;refine(WT w D.trim Tb).mono ?_;rintro e vf ⟨rfl,⟨q,rfl⟩⟩;rw[U K];go_wp2_with fail;refine(n_ x _ (D.trim.drewN q) J g uS).mono ?_;rintro e W ⟨A1,uY,P,Q,rfl,v,j,y,f⟩;go_wp2_with fail;refine(X9 (val (trim a)%x) J _).mono ?_;rintro e uW ⟨A2,n2,c2,T,rfl,s,r,t,l⟩;go_wp2_with fail;go_ret3;obtain⟨ve,_,_⟩:=U Hv;rw[Ku]at j r;refine⟨A1,uY,P,Q,A2,n2,c2,T,?_,v,?_,s,?_,y.below l,t.base f.size,?_⟩
 .rw[Ee J];rfl
 .rw[j,ve]
 .rw[r,Xy J,ve]
 .exact((Mt (Below.refl _ _) q).trans f).trans (l.mono f.size)
theorem RX{l:List Nat}{k:Nat}(b:Ny l)(h:pw k<=val l):k+1<=l.length:=by
 rcases DE k l.length with a|a
 .exact a
 .have:=Mj b a;omega
theorem PP{uW U' Q:List Nat}{k L q uU A:Nat}(c:k<Q.length)(g:∀j,k+(L+1)<=j->dg uW j=0)(a:∀j,k+(L+1)<=j->dg U' j=0)(b:∀j,j<k->dg U' j=dg uW j)
 (f:pl U' k (L+1)+q*uU=pl uW k (L+1)) (h:val (Q.drop (k+1))*pw (k+1)*uU+val uW=A) (e:pl U' k (L+1)<uU):
 val ((Q.set k q).drop k)*pw k*uU+val U'=A/\val (U'.drop k)<uU:=
 ⟨fR c g a b f h,by rw[JB a];exact e⟩
theorem JI(v t:Nat):De v (-(t:Int))=v/2 ^ t:=by
 unfold De
 by_cases h:t=0
 .subst h;simp
 .rw[V J];congr 2;omega
theorem nc{A B:YY}{n c m d:Nat}{a b:List Nat}(L T:Nat)(w:YN)(ha:In w A n c a)(hb:In w B m d b)(hn:n<=274877906944)(hm:m<=274877906944)(h0:A_ b m=L)(hLT:L=T+1)(hT1:1<=T)(hge:val b<=val a):
 YG XW 301 #[.slice A n c,.slice B m d] w (Fq w (val a) (val b)):=by
 obtain⟨z,hz0,K⟩:∃z,(0:Int)<=z/\Hid (Vr (val (trim a)) (val (trim b))=z):=by
  refine⟨_,?_,rfl⟩;rw[Ku,Ku];unfold Vr;rw[V J];split<;>omega
 have hta:=On a n;have htb:=On b m;have Ta:=ha.trim;have Tb:=hb.trim;have na:=L8 ha.dig;have nb:=L8 hb.dig;have va:Hid (val (trim a)=val a):=Ku a;have vb:Hid (val (trim b)=val b):=Ku b;obtain⟨p,hp⟩:∃p,p=A_ a n:=⟨_,rfl⟩
 rw[<-hp]at Ta hta;rw[h0]at Tb htb;obtain⟨x,hx⟩:∃x,x=dg (trim b) T:=⟨_,rfl⟩
 have hxb:=Tb.dig T;rw[<-hx]at hxb;have hx0:x≠0:=by
  rcases nb.2 with h|h
  .have:=Tb.len;rw[h]at this;simp only[AW]at this;omega
  .rw[Tb.len,hLT]at h;rw[hx];exact h
 obtain⟨t,ht⟩:∃t,t=32-BI x:=⟨_,rfl⟩
 have ht32:t<=32:=J
 have r:=KM (n:=T) Tb.dig (by rw[Tb.len];exact hLT) (by rw[<-hx];exact hx0);rw[<-hx,<-ht,U vb]at r;have Hsh:=Kv r;clear r;have Ha:=Kv ha;have Hb:=Kv hb;have HP:=Kv hp;have H0:=Kv h0;have HX:=Kv hx;have HT:=Kv ht;have HG:=Kv hge;have l0:((L:Int)==0)=false:=by simp;omega
 have l1:((L:Int)==1)=false:=by simp;omega
 have l2:(L:Int)-1=(T:Int):=J
 have l3:T<L:=J
 have HLT:=Kv hLT;clear hLT;clear ha hb hp h0 hx ht hx0 hge;go_enter func301,ntmps301;go_wp2_with fail;refine(Mg w (U Ha)).mono ?_;rintro e w' ⟨rfl,rfl⟩;rw[<-U HP];go_wp2_with fail;refine(Mg w (U Hb)).mono ?_;rintro e w' ⟨rfl,rfl⟩;rw[U H0];go_wp2_with fail;refine(WT w Ta Tb).mono ?_;rintro e wc ⟨rfl,hqd⟩;rw[U K];have Tac:=Ta.qd hqd;have Tbc:=Tb.qd hqd;have uU:=hqd.below w.heap.size;clear Ta Tb hqd Ha Hb;obtain⟨bd,hB,hcb⟩:=Tbc.at_ (k:=T) J;rw[<-U HX]at hcb;subst hB;go_wp2_with fail;refine(rN x hxb wc).mono ?_;rintro e w' ⟨rfl,rfl⟩;rw[<-U HT];go_wp2_with fail;refine(IB t wc Tbc J J).mono ?_;rintro e w1 ⟨VA,vn,v,rfl,hvN,S,hvo,uX⟩;rw[DS J,U vb]at S;have hvn:L=vn:=by
  have h1:=(U Hsh).1;have h2:=(U Hsh).2;rw[<-S]at h1 h2;rw[<-U HLT]at h2;have h3:=hvN.length_le h2;have h4:=RX hvN.1 (show pw T<=val v by omega);have:=hvo.len;have:=U HLT;omega
 subst hvn;go_wp2_with fail;refine(IB t w1 (Tac.below uX) J J).mono ?_;rintro e w2 ⟨UA,un,u,rfl,huN,huv,o,ve⟩;rw[DS J,U va]at huv;have hun1:L<=un:=by
  have h1:=(U Hsh).1;have h2:val b*2 ^ t<=val a*2 ^ t:=CB _ (U HG);have h4:=RX huN.1 (show pw T<=val u by omega);have:=o.len;have:=U HLT;omega
 have hun2:p<=un:=by
  have h3:=o.len;rcases AM p with e|e
  .omega
  .have hne:trim a≠[]:=by intro h;have:=Tac.len;rw[h]at this;simp at this;omega
   have h1:=na.pos hne;rw[Tac.len,U va]at h1;have h2:val a*1<=val a*2 ^ t:=CF _ (T5 t);have h4:=RX huN.1 (show pw (p-1)<=val u by omega);omega
 have hun3:un<=p+2:=by
  have h3:=o.len;have h1:=Mj Tac.dig (AG Tac.len);rw[U va]at h1;have h2:val a*2 ^ t<pw p*4294967296:=by
   have h5:2 ^ t<=2 ^ 32:=BN J ht32;exact AN (Nat.mul_lt_mul_of_pos_right h1 (T5 t)) (CF _ h5)
  rw[<-Mr,<-huv]at h2;have:=huN.length_le h2;omega
 obtain⟨i0,hi0,hz0',hz1,hz2⟩:=info_parts Tryz.info_u32;have k1:Hid (UA=none->un=0/\un=0):=by
  intro h;obtain⟨ad,hA,_⟩:=o.toIn.at_ (k:=0) J;rw[h]at hA;cases hA
 have k3:Hid (∀b,UA=some b->∀j y,(Pa u)[j]? =some y->(w2.alloc (.cells #[.int .u32 0] 208)).cell? (b.add j)=some y):=by
  intro b hb j y hy;obtain⟨ad,hA,_,vf⟩:=(o.toIn.rd.alloc (AA _) (.cells #[.int .u32 0] 208)).2 J;rw[hb]at hA;injection hA with hA;subst hA;exact vf j y hy
 have k2:Hid ((Pa u).length=un*1):=by
  show _=_;rw[Qs,DN];exact o.len
 have k4:Hid (∀j y,(Pa [0])[j]? =some y->(w2.alloc (.cells #[.int .u32 0] 208)).cell? ((⟨w2.heap.size,0,none⟩:YB).add j)=some y):=cell_one_new _ _ _;go_wp2_with (first
  |(at_builtin;refine wpList_append_grows _ rfl (.tmp 62) (.tmp 63) 41 rfl 208 i0 _ 1 4 underlying41 hi0 hz0' hz1 hz2 rfl J UA un un (Pa u) rfl (U k1) (U k2) (U k3) ⟨w2.heap.size,0,none⟩ 1 1 (Pa [0]) rfl rfl (U k4) VW J (by simp only[maxLen];omega) J ?_;intro v' w4 G hg4))
 rw[<-F_]at G;obtain⟨g,gc,rfl,hgB,hgn,hgm,hU⟩:=uG G (by rw[AD,o.len];rfl) J;have h24:Below w2.heap.size w2 w4:=((Below.refl _ _).alloc (AA _) _).grown hg4 Zs (λk hk=>by cases hk);have F:Below w.heap.size w w4:=((uU.trans (uX.mono uU.size)).trans (ve.mono (AI uU.size uX.size))).trans (h24.mono (AI uU.size (AI uX.size ve.size)));have hg2:w2.heap.size<=g:=by simp at hgB;omega
 have hv4:b0 w4 g VA L L v:=(((hvo.toIn.toB).below ve).below (h24.mono ve.size)).more (AI ve.size hg2);have hvtop:2147483648<=dg v T:=N_ hvN.1 (by rw[hvo.len];exact U HLT) (by rw[S];exact(U Hsh).1);have hVlo:pw T<=val v:=by have:=(U Hsh).1;omega
 have hVhi:val v<pw L:=by rw[U HLT,S];exact(U Hsh).2
 have hwg:w.heap.size<=g:=by have:=uU.size;have:=uX.size;have:=ve.size;omega
 have hUd:Ny (u++ [0]):=huN.1.append (Ny.one J);have hUv:val (u++ [0])=val u:=by rw[Gk,GN];omega
 have hUl:(u++ [0]).length=un+1:=by rw[AD,o.len];rfl
 have hUt:dg (u++ [0]) un=0:=by rw[Cu (by rw[o.len];exact AA _),o.len,Nat.sub_self];rfl
 obtain⟨N,hN⟩:∃N,N=un+1-L:=⟨_,rfl⟩
 have l4:((un:Int)+1)- (L:Int)=(N:Int):=J
 have l5:N+T=un:=by have:=U HLT;omega
 have l6:1<=N:=J
 have HUs:=Kv (And.intro hUv hUt);have HL5:=Kv l5;have HN:=Kv hN;have Hpw:=Kv (And.intro hVlo hVhi);clear hUv hUt l5 hN hVlo hVhi;clear G hg4 k1 k2 k3 k4 hi0 hz0' hz1 hz2 hgB h24 ve o uX hvo uU Tbc Tac hcb;have hmk:=λW=>O4 W (N:Int) N rfl J
 go_loopw [11] (λs wr=>s= .slice (some ⟨g,0,none⟩) (un+1) gc/\wr=w4) (λ_ _=>0)
 case atStart=>exact⟨rfl,rfl⟩
 case round=>
  obtain⟨rfl,rfl⟩:=hrel;have l7:¬(un:Int)+1<=p:=J
  go_wp2_with fail;obtain⟨w4,hw4⟩:∃w4:YN,w4=wr:=⟨_,rfl⟩
  have hgw:=hU.lt;clear l7 hgw;have hM0:Mk (wr.alloc (.cells (zs N) 208)) wr.heap.size 208 (CG N 0):=Mk.zero wr N;have hU0:=hU.alloc (.cells (zs N) 208);have hv5:b0 (wr.alloc (.cells (zs N) 208)) g VA L L v:=hv4.below ((Below.refl _ _).alloc (Nat.le_of_lt hU.lt) _);have hb5:Below w.heap.size w (wr.alloc (.cells (zs N) 208)):=F.alloc F.size _;have hgq:g<wr.heap.size:=hU.lt;have hs5:wr.heap.size+1=(wr.alloc (.cells (zs N) 208)).heap.size:=Zs
  obtain⟨gq,C⟩:∃gq,gq=wr.heap.size:=⟨_,rfl⟩
  obtain⟨w5,hw5⟩:∃w5,w5=wr.alloc (.cells (zs N) 208):=⟨_,rfl⟩
  rw[<-hw5]at hU0 hv5 hb5;rw[<-hw5,<-C]at hM0 hs5;rw[<-C]at hgq;rw[<-hw5,<-C];have Hw5:=Kv hw5;have Hgq:=Kv C;clear hw5 C hw4 hU hv4 F hmk;go_loopw [13] (λsk wx=>∃(k:Nat) (y:Int) (uW Q:List Nat),k<=N/\y+1=k/\sk=I y/\uW.length=un+1/\Ny uW/\Q.length=N/\Ny Q/\
   Hid (val (Q.drop k)*pw k*val v+val uW=val u/\val (uW.drop k)<val v)/\Jw wx g 208 gc uW/\Mk wx gq 208 Q/\Below g w5 wx) (λsk _=>(intOf sk+1).toNat)
  case atStart=>
   refine⟨N,(N:Int)-1,u++ [0],CG N 0,AA _,by omega,rfl,hUl,hUd,by simp,Ny.replicate _,⟨?_,?_⟩,hU0,hM0,Below.refl _ _⟩
   .rw[Qz Zs,(U HUs).1];omega
   .have h1:=U HL5;rw[JB (i:=T) (λj hj=> ?_)]
    .exact AN (PN hUd _ _) (U Hpw).1
    .rcases DE un j with h|h
     .exact Vx (by rw[hUl];omega)
     .obtain rfl:j=un:=J
      exact(U HUs).2
  case round=>
   obtain⟨k,y,uW,Q,hk,hy,rfl,hUl',D,hQl,hQd,hI,hUm,hQm,hbx⟩:=hrel;have HUl:=Kv hUl';have HQl:=Kv hQl;clear hUl' hQl
   by_cases hk0:k=0
   .subst hk0;obtain rfl:y= -1:=J
    clear hy;have hqo:=hQm.own (B:=w.heap.size) hQd J (by rw[U HQl];unfold maxLen;omega);rw[U HQl]at hqo;have hbw:Below w.heap.size w wr:=hb5.trans (hbx.mono hwg);have hui:In wr (some ⟨g,0,none⟩) (un+1) gc ((uW.drop 0).take (un+1)):=hUm.part D (by rw[U HUl];omega) hgn hgm;rw[BJ,AR (by rw[U HUl];exact AA _)]at hui;go_wp2_with fail;refine(Mg _ hqo.toIn).mono ?_;rintro e w' ⟨rfl,rfl⟩;go_wp2_with fail;refine(lP (-(t:Int)) _ hui J J J).mono ?_;rintro e w6 ⟨A2,n2,l2',rfl,hn2,hv2,ho2,hw6⟩;go_wp2_with fail;go_ret3;obtain⟨hI1,uS⟩:=U hI;rw[It,DN,BJ,huv,S]at hI1;rw[BJ,S]at uS;obtain⟨q1,q2⟩:=Ca hI1 uS;have hb0:val b≠0:=by
     intro h;rw[h]at uS;omega
    refine⟨_,_,_,trim Q,A2,n2,n2,l2',?_,L8 hQd,?_,hn2,?_,hqo.trim.below hw6,ho2.base hbw.size,hbw.trans (hw6.mono hbw.size)⟩
    .rw[Ee hb0];rfl
    .rw[Ku,q1,Nat.mul_div_mul_right _ _ (T5 t)]
    .rw[hv2,Xy hb0,JI,q2,Nat.mul_mod_mul_right,Nat.mul_div_cancel _ (T5 t)]
   .obtain⟨j,rfl⟩:∃j,k=j+1:=⟨k-1,by omega⟩
    obtain rfl:y=(j:Int):=J
    clear hy hk0;have h1:=U HL5;have h2:=U HLT;have s1:(0:Int)<=j/\(j:Int)<=(j:Int)+L+1/\(j:Int)+L+1<=(gc:Int):=J
    have s2:¬gc=j:=J
    have s3:j+(L+1)<=un+1:=J
    clear h1 h2;obtain⟨hI1,uS⟩:=U hI;have hz:∀i,j+(L+1)<=i->dg uW i=0:=by
     intro i hi;have h3:=MS (l:=uW.drop (j+1)) (AZ uS (U Hpw).2) (i- (j+1)) J;rw[Sa,show j+1+(i- (j+1))=i by omega]at h3;exact h3
    have hPv:pl uW j (L+1)=val (uW.drop j):=(JB hz).symm;have hPs:val (uW.drop j)=dg uW j+4294967296*val (uW.drop (j+1)):=Vd (by rw[U HUl];omega);have hPin:In wr (some ⟨g,j,none⟩) (L+1) (gc-j) ((uW.drop j).take (L+1)):=hUm.part D (by rw[U HUl];omega) J J;have hPlt:val ((uW.drop j).take (L+1))<4294967296*val v:=by
     show pl uW j (L+1)<_;have:=D j;have:=(U Hpw).1;have:=Z9 T;omega
    have HZ:=Kv (And.intro hz (And.intro hI1 uS));clear hz hI1 uS hPv hPs;have hgs:=Nat.le_of_lt hUm.lt;go_wp2_with fail;rw[show j+L+1-j=L+1 by omega];refine(lz wr (U HLT) hT1 hPin ((hv5.below hbx).toIn hgs) hvtop hPlt).mono ?_;rintro e wg ⟨q,rfl,uT,⟨nq,rfl⟩⟩;have hq32:=uT.1;have HG2:=Kv uT;clear uT;go_wp2_with fail;refine(pc (wr.drewN nq) g j gc (gc-j) q uW ((hv5.below hbx).below (Mt (Below.refl _ _) nq)) (hUm.drewN nq) D (by rw[U HUl];omega) hq32 J J).mono ?_;rintro e wt ⟨U',b',rfl,hUm',hUl2,uR,hbt,hag,f⟩;rw[U HUl]at hUl2;have hQt:Mk wt gq 208 Q:=(hQm.drewN nq).grown hbt (λe=>by injection e with e;omega);have hbt2:Below g w5 wt:=(Mt hbx nq).trans (H5 hbt hgs);have hQc:=hQt.cell (i:=j) (by rw[U HQl];omega);have hQf:=hQt.frozen j;have Hag:=Kv hag;have HUl2:=Kv hUl2;clear hag hUl2 hbt hUm hQm hPin;rcases f with ⟨rfl,f⟩|⟨rfl,f⟩
    .have HR:=Kv f;clear f;go_wp2_with fail;go_roundw
     case rel=>
      have hfin:=PP (by rw[U HQl];omega) (U HZ).1 (λi hi=>by rw[U Hag i (Or.inr J),(U HZ).1 i hi]) (λi hi=>U Hag i (Or.inl hi)) (U HR) (U HZ).2.1 (fe (U HG2) (U HR));exact⟨j,(j:Int)-1,U',Q.set j q,by omega,by omega,rfl,U HUl2,uR,by rw[AQ];exact U HQl,hQd.set _ hq32,hfin,hUm'.far Zp _,hQt.set_ j q,hbt2.setCell Zp _⟩
     case measure=>simp[intOf]
    .have hq1:1<=q:=by
      rcases AM q with e|e
      .subst e;have:=PN uR j (L+1);omega
      .exact e
     have HR:=Kv f;clear f;go_wp2_with fail;obtain⟨wo,hwo⟩:∃wo:YN,wo=wt:=⟨_,rfl⟩
     have hgt:=Nat.le_of_lt hUm'.lt;go_loopw [16,105] (λsc si wx=>∃(i c:Nat) (uY:List Nat),i<=L/\si=I i/\sc= .int .u64 c/\c<=1/\uY.length=un+1/\Ny uY/\Hid (∀s,(s<j\/j+i<=s)->dg uY s=dg U' s)/\Hid (pl uY j i+c*pw i=pl U' j i+lo v i)/\Jw wx g 208 gc uY/\wt.grownBy wx (some g)) (λ_ si _=>L- (intOf si).toNat)
     case atStart=>exact⟨0,0,U',AH _,rfl,rfl,by omega,U HUl2,uR,λ_ _=>rfl,(show _=_ by rw[dC,O5];omega),hUm',DF _ _⟩
     case round=>
      obtain⟨i,c',uY,hi,rfl,rfl,hc,hRl,hRd,vg,hRI,uZ,hbR⟩:=hrel;have HRl:=Kv hRl;clear hRl;have hbR2:=H5 hbR hgt
      by_cases hlt:i<L
      .obtain⟨vd,hV,hcv⟩:=((hv5.below hbt2).below hbR2).at_ (k:=i) hlt;have hx1:=hvN.1 i;have hx2:=hRd (j+i);have vf:=uZ.cell (i:=j+i) (by rw[U HRl];omega);have hfz:=uZ.frozen (j+i);subst hV;go_wp2_with fail;have hst:=uZ.set_ (i:=j+i) (by rw[U HRl];omega) ((c'+(dg uY (j+i)+dg v i))%4294967296);rw[show(((c'+(dg uY (j+i)+dg v i))%4294967296:Nat):Int)=((c':Int)+((dg uY (j+i):Int)+dg v i))%4294967296 by omega]at hst;go_roundw
       case rel=>
        refine⟨i+1,(c'+(dg uY (j+i)+dg v i))/4294967296,_,by omega,by go_num,by go_num,by omega,by rw[AQ];exact U HRl,hRd.set _ J,λs hs=> ?_,?_,hst,U3 hbR (Or.inl rfl) _⟩
        .rw[Rj,V J];exact U vg s J
        .exact fE (by rw[U HRl];omega) (U vg (j+i) J) (U hRI)
       case measure=>simp[intOf];omega
      .obtain rfl:L=i:=J
       have hx2:=hRd (j+L);have vf:=uZ.cell (i:=j+L) (by rw[U HRl];omega);have hfz:=uZ.frozen (j+L);have uV:=hQt.grown hbR (λe=>by injection e with e;omega);have hQc2:=uV.cell (i:=j) (by rw[U HQl];omega);have hQf2:=uV.frozen j;go_wp2_with fail;have hst:=uZ.set_ (i:=j+L) (by rw[U HRl];omega) ((dg uY (j+L)+c')%4294967296);rw[show(((dg uY (j+L)+c')%4294967296:Nat):Int)=((dg uY (j+L):Int)+(c':Int))%4294967296 by omega]at hst;have hQ3:=(uV.far (p:=⟨g,j+L,none⟩) Zp (.int .u32 (((dg uY (j+L):Int)+(c':Int))%4294967296))).set_ j (q-1);rw[show((q-1:Nat):Int)=(q:Int)-1 by omega]at hQ3;have hV:lo v L=val v:=Mz (AG hv5.len);have hRI2:=U hRI;have hbe:=il (P:=U') (by rw[U HRl];omega) (U vg (j+L) J) hRI2;rw[hV]at hbe;obtain⟨z2,hz2⟩:=hbe;have hd2:Ny (uY.set (j+L) ((dg uY (j+L)+c')%4294967296)):=hRd.set _ (BA _ J);obtain⟨_,hb1,hb2⟩:=gI (U HG2) (PN uR j (L+1)) (PN D j (L+1)) (PN hd2 j (L+1)) (U HR) hz2;go_roundw
       case rel=>
        have hfin:=PP (by rw[U HQl];omega) (U HZ).1 (λi hi=>by rw[Rj,V J,U vg i (Or.inr J),U Hag i (Or.inr J),(U HZ).1 i hi]) (λi hi=>by rw[Rj,V J,U vg i (Or.inl hi),U Hag i (Or.inl hi)]) hb2 (U HZ).2.1 hb1;exact⟨j,(j:Int)-1,_,Q.set j (q-1),by omega,by omega,rfl,by rw[AQ];exact U HRl,hd2,by rw[AQ];exact U HQl,hQd.set _ J,hfin,hst.far Zp _,hQ3,((hbt2.trans hbR2).setCell (AA _) _).setCell Zp _⟩
       case measure=>simp[intOf]
theorem TR{A B:YY}{n c m d:Nat}{a b:List Nat}(w:YN)(e:In w A n c a)(f:In w B m d b)(k:n<=274877906944)(l:m<=274877906944):
 YG XW 301 #[.slice A n c,.slice B m d] w (Fq w (val a) (val b)):=by
 by_cases h:A_ b m=0
 .exact mB w e f h
 by_cases g:val a<val b
 .exact m7 w e f J h g
 by_cases j:A_ b m=1
 .exact o1 w e f J j J
 exact nc (A_ b m) (A_ b m-1) w e f k l rfl J J J
theorem lK(x:Nat)(h:x<4294967296)(w:YN):
 YG XW 239 #[.int .u32 x] w λe b=>e= .returned (I ((BI x:Nat):Int))/\w=b:=
 (Tryz.bits_Len32 x w J J).mono λ_ _ ⟨a,c⟩=>by
  rw[AL]at a;exact⟨a,c.symm⟩
theorem iV{A:YY}{n c:Nat}{a:List Nat}(w:YN)(j:In w A n c a)(vg:n<=274877906944):
 YG XW 170 #[.slice A n c] w λe g=>e= .returned (I (B_ (val a):Nat))/\w=g:=by
 have l:=On a n;have Ta:=j.trim;have v:=L8 j.dig;have r:Hid (val (trim a)=val a):=Ku a;obtain⟨p,m⟩:∃p,p=A_ a n:=⟨_,rfl⟩
 rw[<-m]at Ta l;have HP:=Kv m;clear m;have Ha:=Kv j;clear j
 by_cases s:p=0
 .subst s;go_enter func170,ntmps170;go_wp2_with fail;refine(Mg w (U Ha)).mono ?_;rintro e g ⟨rfl,rfl⟩;rw[<-U HP];go_wp2_with fail;go_ret;refine⟨?_,rfl⟩;have:val a=0:=by rw[<-U r,AB.1 Ta.len];rfl
  rw[this];rfl
 .obtain⟨t,o⟩:∃t,p=t+1:=⟨p-1,by omega⟩
  have u:=Ta.dig t;obtain⟨ad,B,C⟩:=Ta.at_ (k:=t) J;have f:dg (trim a) t≠0:=by
   rcases v.2 with h|h
   .have:=Ta.len;rw[h]at this;simp only[AW]at this;omega
   .rw[Ta.len,o]at h;exact h
  have b:=KH Ta.dig (by rw[Ta.len];exact o) f;rw[U r]at b;have y:=Z3 u;have D:((p:Int)==0)=false:=by simp;omega
  have F:(p:Int)-1=(t:Int):=J
  have G:t<p:=J
  have HTB:=Kv b;clear b o f s;subst B;go_enter func170,ntmps170;go_wp2_with fail;refine(Mg w (U Ha)).mono ?_;rintro e g ⟨rfl,rfl⟩;rw[<-U HP];go_wp2_with fail;refine(lK _ u w).mono ?_;rintro e g ⟨rfl,rfl⟩;go_wp2_with fail;go_ret;refine⟨?_,rfl⟩;rw[U HTB];exact congrArg (λx=>Ending.returned (BG .i64 x)) J
theorem qz{A B:YY}{n c m d:Nat}{a b:List Nat}(w:YN)(Q:In w A n c a)(L:In w B m d b)(hn:n<=274877906944)(hm:m<=274877906944):
 YG XW 299 #[.slice A n c,.slice B m d] w (V9 w (AU (val a) (val b))):=by
 have N:=Og a;have uR:=Og b;rw[Q.len]at N;rw[L.len]at uR;have na:=L8 Q.dig;have nb:=L8 L.dig;have va:Hid (val (trim a)=val a):=Ku a;have vb:Hid (val (trim b)=val b):=Ku b;go_enter func299,ntmps299;go_wp2_with fail;refine(Yx w Q J).mono ?_;rintro e w1 ⟨A1,n1,c1,rfl,v,l⟩;go_wp2_with fail;refine(Yx w1 (L.below l) J).mono ?_;rintro e w2 ⟨A2,n2,c2,rfl,t,G⟩;go_wp2_with fail;have hn1:=v.len;have hn2:=t.len;go_loopg [0,1] (val b) (λgk sa sb ve=>∃(uX uV:YY) (p r q s:Nat) (x y:List Nat),sa= .slice uX p r/\sb= .slice uV q s/\Hid (val y=gk)/\Qp ve w.heap.size uX p r x/\Qp ve w.heap.size uV q s y/\Na x/\Na y/\p<=274877906944/\q<=274877906944/\
  Hid (AU (val x) (val y)=AU (val a) (val b))/\Below w.heap.size w ve)
 case atStart=>
  exact⟨A1,A2,n1,c1,n2,c2,trim a,trim b,rfl,rfl,Ku b,v.below G,t.base l.size,na,nb,by omega,by omega,(by show _=_;rw[Ku,Ku]),l.trans (G.mono l.size)⟩
 case round=>
  obtain⟨uX,uV,p,r,q,s,x,y,rfl,rfl,hk,D,f,nx,uU,uT,uW,T,o⟩:=hrel;have hqi:=f.toIn.lenI
  by_cases uZ:q=0
  .have g:y=[]:=AB.1 (by rw[f.len];exact uZ);have K:Hid (val x=AU (val a) (val b)):=by
    have:=U T;rw[g,Tv,Nat.gcd_zero_right]at this;exact this
   subst uZ;clear g;go_wp2_with fail;go_ret;exact⟨uX,p,r,x,rfl,nx,U K,D,o⟩
  .have g:val y≠0:=by
    intro h;have uY:=uU.zero h;have S:=f.len;rw[uY]at S;simp only[AW]at S;omega
   have hqp:0<q:=J
   clear uZ;go_wp2_with fail;refine(TR wr D.toIn f.toIn uT uW).mono ?_;rintro e w3 ⟨A3,n3,c3,l3,A4,W,c4,vf,rfl,hN3,uS,vg,k,ho3,u,C⟩;rw[Xy g]at k;have j:val vf<val y:=by rw[k];exact BA _ J
   have P:W<=274877906944:=by
    have uY:=vg.length_le (AZ j (Jz f.dig));have:=u.len;have:=f.len;omega
   have F:=Kv (And.intro uS (And.intro k (And.intro j g)));clear uS k j g;go_wp2_with fail;go_roundg (val vf)
   case measure=>have:=U hk;have:=(U F).2.2.1;omega
   case rel=>
    refine⟨uV,A4,q,s,W,c4,y,vf,rfl,rfl,rfl,f.below C,u.base o.size,uU,vg,uW,P,?_,o.trans (C.mono o.size)⟩;show _=_;rw[(U F).2.1,<-U T,BM (val x),Nat.gcd_rec (val y) (val x),BM]
theorem Na.len_lt{l:List Nat}(h:Na l){k:Nat}(a:val l<2 ^ (32*k)):l.length<=k:=h.length_le (by rw[V0];exact a)
def GC(l:R):List YM:=l.map λ(b:UInt8)=>BG .u8 (b.toNat:Int)
theorem T8(l:R):(GC l).length=l.length:=by simp[GC]
theorem Es{l:R}{i:Nat}(h:i<l.length):(GC l)[i]? =some (.int .u8 (l[i].toNat:Int)):=by simp[GC,h]
theorem Gn(a b:R):GC (a++b)=GC a++GC b:=by simp[GC]
theorem dJ(l:R)(i:Nat)(b:UInt8):(GC l).set i (.int .u8 (b.toNat:Int))=GC (l.set i b):=by
 simp[GC,List.map_set]
def V8(w:YN)(g t cap:Nat)(xs:List YM):Prop:=
 ∃a,w.heap[g]? =some (.cells a t (0,0))/\a.size=cap/\xs.length<=cap/\a.toList.take xs.length=xs
section
variable{w w':YN}{g t cap:Nat}{xs:List YM}
theorem V8.cell(h:V8 w g t cap xs){i:Nat}(hi:i<xs.length):w.cell? ⟨g,i,none⟩=xs[i]? :=by
 obtain⟨a,b,f,j,c⟩:=h;have e:(a.toList.take xs.length)[i]? =xs[i]? :=by rw[c]
 rw[CI,YS hi]at e;rw[cell_of_row w g i a t (0,0) b,<-e];simp
theorem V8.frozen(h:V8 w g t cap xs)(i:Nat):w.frozen? ⟨g,i,none⟩=false:=by
 obtain⟨a,b,_⟩:=h;simp[World.frozen?,b]
theorem V8.set_(h:V8 w g t cap xs)(i:Nat)(v:YM):V8 (w.setCell ⟨g,i,none⟩ v) g t cap (xs.set i v):=by
 obtain⟨a,c,b,e,f⟩:=h;refine⟨a.setIfInBounds i v,by simp[World.setCell,CT,c],by simpa using b,by simpa using e,?_⟩;rw[AQ,Array.toList_setIfInBounds,List.take_set,f]
theorem V8.lt(h:V8 w g t cap xs):g<w.heap.size:=by
 obtain⟨a,b,_⟩:=h;exact(BB.1 b).1
theorem V8.drew(h:V8 w g t cap xs):V8 w.drew g t cap xs:=h
theorem V8.below{B:Nat}(h:V8 w g t cap xs)(c:Below B w w')(b:g<B):V8 w' g t cap xs:=by
 obtain⟨a,e,r⟩:=h;exact⟨a,(c.block g b).trans e,r⟩
theorem V8.take(h:V8 w g t cap xs)(k:Nat):V8 w g t cap (xs.take k):=by
 obtain⟨a,c,b,f,e⟩:=h;refine⟨a,c,b,by rw[BE];omega,?_⟩;rw[BE,<-List.take_take,e,List.take_eq_take_min]
theorem t7{B n:Nat}{v:YM}(h:w.ownsRow B t 1 v n xs)(p:0<n):∃g c,v= .slice (some ⟨g,0,none⟩) n c/\B<=g/\n<=c/\c<=maxLen/\V8 w g t c xs:=by
 have k:=h.1;rcases h.2 with ⟨_,r⟩|⟨g,c,a,m,f,j,l,b,o,e⟩
 .omega
 .exact⟨g,c,m,f,l,b,a,j,by omega,by omega,by rw[show xs.length=n*1 from k];exact e⟩
end
def Jq(l r:R)(i:Nat):Prop:=r.length=l.length/\∀t,t<l.length->r[t]? =if t<i\/l.length<=t+i then l[l.length-1-t]? else l[t]?
theorem Jq.zero(l:R):Jq l l 0:=⟨rfl,λt a=>by rw[V J]⟩
theorem Jq.done{l r:R}{i:Nat}(h:Jq l r i)(hi:l.length<=2*i+1):r=l.reverse:=by
 apply DI;intro t
 by_cases a:t<l.length
 .rw[h.2 t a,List.getElem?_reverse a];split
  .rfl
  .congr 1;omega
 .rw[CU (by rw[h.1];omega),CU (by rw[BP];omega)]
theorem Jq.step{l r:R}{i:Nat}(h:Jq l r i)(hi:2*i+1<l.length){a b:UInt8}(k:r[i]? =some a)(m:r[l.length-1-i]? =some b):
 Jq l ((r.set i b).set (l.length-1-i) a) (i+1):=by
 have c:=h.2 i J;rw[V J,k]at c;have e:=h.2 (l.length-1-i) J;rw[V J,m]at e;refine⟨by rw[AQ,AQ];exact h.1,λt o=> ?_⟩;rw[List.getElem?_set,List.getElem?_set]
 by_cases g:l.length-1-i=t
 .subst g;rw[YS rfl,YS (by rw[AQ,h.1];omega),YS J,c];congr 1;omega
 .rw[V g]
  by_cases j:i=t
  .subst j;rw[YS rfl,YS (by rw[h.1];omega),YS J,e]
  .rw[V j,h.2 t o]
   by_cases f:t<i\/l.length<=t+i
   .rw[YS f,YS J]
   .rw[V f,V J]
theorem gj(w:YN)(g cap:Nat)(l:R)(h:V8 w g 5 cap (GC l))(uR:l.length<=4611686018427387904):
 YG XW 173 #[.slice (some ⟨g,0,none⟩) l.length cap] w λe vg=>e= .returned (.tuple #[])/\V8 vg g 5 cap (GC l.reverse)/\w.grownBy vg (some g):=by
 go_enter func173,ntmps173;go_wp2_with fail;go_loopw [2,3] (λK y G=>∃(i:Nat) (j:Int) (r:R),K=I i/\y=I j/\j+i+1=l.length/\Hid (Jq l r i)/\V8 G g 5 cap (GC r)/\w.grownBy G (some g)) (λ_ y _=>(intOf y+1).toNat)
 case atStart=>exact⟨0,(l.length:Int)-1,l,rfl,rfl,by omega,Jq.zero l,h,DF _ _⟩
 case round=>
  obtain⟨i,j,r,rfl,rfl,x,A,c,u⟩:=hrel
  by_cases L:(i:Int)<j
  .obtain⟨t,rfl⟩:=BU (show 0<=j by omega);have f:=(U A).1;have s:=c.cell (i:=i) (by rw[T8,f];omega);rw[Es (by rw[f];omega)]at s;have v:=c.cell (i:=t) (by rw[T8,f];omega);rw[Es (by rw[f];omega)]at v;obtain⟨a,B⟩:∃a,r[i]'(by rw[f];omega)=a:=⟨_,rfl⟩
   obtain⟨b,C⟩:∃b,r[t]'(by rw[f];omega)=b:=⟨_,rfl⟩
   rw[B]at s;rw[C]at v;have uS:=c.frozen i;have vf:=c.frozen t;have k:r[i]? =some a:=by rw[<-B];exact AP _
   have o:r[t]? =some b:=by rw[<-C];exact AP _
   have p:=(c.set_ i (.int .u8 (b.toNat:Int))).set_ t (.int .u8 (a.toNat:Int));rw[dJ,dJ]at p;have m:t=l.length-1-i:=J
   have D:(i:Int)<(l.length:Int)/\(t:Int)<(l.length:Int):=J
   have F:=Kv (And.intro f (And.intro k (And.intro o (And.intro m x))));clear f B C k o m x;have ve:¬i=t:=J
   go_wp2_with fail;go_region
   all_goals
    go_wp2_with fail;go_roundw
    case rel=>
     obtain⟨f,k,o,m,x⟩:=U F;refine⟨i+1,(t:Int)-1,_,by go_num,rfl,by omega,?_,p.drew,bm (U3 (U3 u (Or.inl rfl) _) (Or.inl rfl) _) 1⟩;subst m;exact(U A).step J k o
    case measure=>simp[intOf]
  .go_wp2_with fail;go_end0;have:r=l.reverse:=(U A).done J;subst this;exact⟨rfl,c,u⟩
theorem Tryz.info_u8:(Tryz.prog.info? 5).map (λi=>(i.zero,i.size,i.bytes))=some (some (.int .u8 0),1,1):=O
def E(l:R):YM:= .string ⟨l.toArray⟩
theorem G7{a w:YN}(h:Below a.heap.size a w)(row:Option Nat):a.grownBy w row:=⟨h.os,h.tape,h.output,h.size,λi hi _=>h.block i hi⟩
theorem Qp.mid{w o:YN}{B:Nat}{A:YY}{n c:Nat}{l:List Nat}(h:Qp w B A n c l)(D:w.heap.size<=o.heap.size)(y:∀k,B<=k->k<w.heap.size->o.heap[k]? =w.heap[k]?):Qp o B A n c l:=by
 have p:0<c->∃g a t,A=some ⟨g,0,none⟩/\B<=g/\o.heap[g]? =some (.cells a t (0,0))/\c<=a.size/\o.heap[g]? =w.heap[g]? :=by
  intro v;obtain⟨g,a,t,f,s,r,m⟩:=h.own v;have e:=y g s (BB.1 r).1;exact⟨g,a,t,f,s,e.trans r,m,e⟩
 refine⟨⟨h.dig,h.len,h.le,h.cap,⟨h.rd.1,λx=> ?_⟩⟩,λv=> ?_⟩
 .obtain⟨ad,f,vg,m⟩:=h.rd.2 x;obtain⟨g,a,t,b,_,_,_,e⟩:=p (AN x h.le);refine⟨ad,f,AN vg D,λj u C=> ?_⟩;rw[f]at b;injection b with b;subst b;have:=m j u C;rw[HI]at this ⊢;rw[World.cell?_of_block (w:=w) e];exact this
 .obtain⟨g,a,t,f,s,r,m,_⟩:=p v;exact⟨g,a,t,f,s,r,m⟩
def XA:YM->Nat| .slice _ n _=>n|_=>0
theorem j4{A:YY}{n c:Nat}{a:List Nat}(w:YN)(ha:In w A n c a)(hn:n<=1073741824):
 YG XW 99 #[.slice A n c] w λe w'=>e= .returned (E (Pr (val a)))/\Below w.heap.size w w':=by
 have Ta:=ha.trim;have na:=L8 ha.dig;have va:Hid (val (trim a)=val a):=Ku a;have hta:=On a n;obtain⟨p,hp⟩:∃p,p=A_ a n:=⟨_,rfl⟩
 rw[<-hp]at Ta hta;have HP:=Kv hp;have Ha:=Kv ha
 by_cases h0:p=0
 .have hv0:Hid (val a=0):=by
   show _=_;rw[<-U va,AB.1 (Ta.len.trans h0)];rfl
  subst h0;clear ha;have HP2:Hid (A_ a n=0):=hp.symm;clear hp;go_enter func99,ntmps99;go_wp2_with fail;refine(Mg w (U Ha)).mono ?_;rintro e w' ⟨rfl,rfl⟩;rw[U HP2];go_wp2_with fail;go_ret;refine⟨?_,Below.refl _ _⟩;rw[U hv0]
  rfl
 .have hav:val a<2 ^ (32*n):=by rw[<-V0];exact Mj ha.dig (AG ha.len)
  have uR:val a≠0:=by
   intro h;rw[<-U va]at h;have C:=na.zero h;have ve:=Ta.len;rw[C]at ve;simp only[AW]at ve;omega
  have HV:=Kv (And.intro hav uR);have l0:((p:Int)==0)=false:=by simp;omega
  clear ha hp h0 hav uR;obtain⟨i0,hi0,hz0,hz1,hz2⟩:=info_parts Tryz.info_u8;go_enter func99,ntmps99;go_wp2_with fail;refine(Mg w (U Ha)).mono ?_;rintro e w' ⟨rfl,rfl⟩;rw[<-U HP];go_wp2_with fail;go_loopg [0,3] (val a) (λgk sa N vg=>∃(uX:YY) (q r:Nat) (x:List Nat) (bs:R),sa= .slice uX q r/\In vg uX q r x/\q<=n/\Na x/\Hid (val x=gk/\T3 bs+10 ^ bs.length*val x=val a/\Fp bs)/\vg.ownsRow w.heap.size 5 1 N bs.length (GC bs)/\Below w.heap.size w vg/\bs.length<=32*n+9)
  case atStart=>
   exact⟨A,p,p,trim a,[],rfl,Ta,hta,na,⟨U va,by rw[U va];simp[T3],Fp.nil⟩,World.ownsRow_nil _ _ _ _,Below.refl _ _,by simp⟩
  case round=>
   obtain⟨uX,q,r,x,bs,rfl,D,hq,nx,hI,B,v,hbsl⟩:=hrel;have hqi:=D.lenI
   by_cases hq0:q=0
   .have hd:T3 bs=val a:=by
     have C:=(U hI).2.1;rw[AB.1 (D.len.trans hq0),Tv]at C;omega
    have hbs:0<bs.length:=by
     rcases AM bs.length with h|h
     .rw[AB.1 h]at hd;have:=(U HV).2;exact absurd hd.symm this
     .exact h
    obtain⟨g,cap,hv,hgB,hgn,hgm,m⟩:=t7 B hbs;have hsml:bs.length<=cap:=hgn;have HD:=Kv (And.intro hd (U hI).2.2);subst hq0;clear hd B hI hbs;subst hv;have hcm:cap<=9223372036854775807:=by unfold maxLen at hgm;omega
    go_wp2_with fail;go_loopw [3] (λN vg=>∃(l:R),N= .slice (some ⟨g,0,none⟩) l.length cap/\l.length<=32*n+9/\l.length<=cap/\V8 vg g 5 cap (GC l)/\Hid (T3 l=val a/\Fp l)/\Below w.heap.size w vg) (λN _=>XA N)
    case atStart=>exact⟨bs,rfl,hbsl,hgn,m,HD,v⟩
    case round=>
     obtain⟨l,rfl,hl32,hlc,m,hL,v⟩:=hrel;have uW:l≠[]:=by
      intro e;have:=(U hL).1;rw[e]at this;exact(U HV).2 this.symm
     obtain⟨l',b,F⟩:∃l' b,l=l'++ [b]:=⟨l.dropLast,l.getLast uW,(List.dropLast_concat_getLast uW).symm⟩
     have hll:l.length=l'.length+1:=by rw[F];simp
     obtain⟨k,s⟩:∃k,k=l'.length:=⟨_,rfl⟩
     have uV:=m.cell (i:=k) (by rw[T8];omega);rw[Es J,show l[k]' J=b by subst F;subst s;simp]at uV;have hfz:=m.frozen k;have G:=m.take k;rw[show(GC l).take k=GC l' by rw[F,Gn,s,<-T8 l',List.take_left]]at G;obtain⟨ln,W⟩:∃ln,ln=l.length:=⟨_,rfl⟩
     rw[<-W];have l1:(ln:Int)-1=(k:Int):=J
     have l2:k<ln:=J
     have l3:k<=cap/\ln<=cap:=J
     have HL:=Kv (And.intro F (And.intro s W));clear F s W hll uW hlc
     by_cases hb:b=48
     .have t1:((b.toNat:Int)==48)=true:=by subst hb;rfl
      have HB:=Kv hb;clear hb;go_wp2_with fail;go_roundw
      case rel=>
       obtain⟨C,ve,h3⟩:=U HL;refine⟨l',by rw[ve],by omega,by omega,G,⟨?_,?_⟩,v⟩
       .rw[<-(U hL).1,C,U HB,aE]
       .exact λc hc=>(U hL).2 c (by rw[C];simp[hc])
      case measure=>simp[XA];omega
     .have t1:((b.toNat:Int)==48)=false:=by
       simp;intro h;exact hb (BQ.1 (by simpa using(by omega:b.toNat=48)))
      have HB:=Kv hb;clear hb;go_wp2_with fail;rw[(U HL).2.2];refine(gj _ g cap l m J).mono ?_;rintro e w3 ⟨rfl,hrow3,hg3⟩;have S:=run_convert_bytes_back (P:=XW) w3 108 9 5 ⟨g,0,none⟩ cap l.reverse underlying108 underlying5 underlying9 (λj hj=>by
       rw[HI,BK,hrow3.cell (by rw[T8];exact hj),Es hj])
      rw[BP]at S;go_wp2_with fail;go_ret;refine⟨?_,?_⟩
      .obtain⟨C,ve,h3⟩:=U HL;have h4:Pr (val a)=l.reverse:=by
        rw[Pr,V (U HV).2,<-(U hL).1,MH (U hL).2 (by rw[C];simp;exact U HB)]
       rw[h4]
       rfl
      .exact v.grown hg3 v.size (λk s=>by injection s with s;omega)
   .have hqp:0<q:=J
    have uU:1<=val x:=by
     rcases AM (val x)with h|h
     .have C:=nx.zero h;have ve:=D.len;rw[C]at ve;simp only[AW]at ve;omega
     .exact h
    have hbl:bs.length<32*n:=eP (U hI).2.1 uU (U HV).1;have HX:=Kv uU;clear hq0 uU;go_wp2_with fail;refine(n_ 1000000000 wr D J J J).mono ?_;rintro e uZ ⟨A1,n1,c1,l1,rfl,hN1,hv1,ho1,hw1⟩;go_wp2_with fail;have hownk:=B.kept (row:=none) (G7 hw1 none) (by cases u3.ownBlock<;>simp);obtain⟨wo,rfl⟩:∃wo:YN,wo=wr:=⟨_,rfl⟩
    have uT:Hid (∀k,u3.ownBlock=some k->k<wo.heap.size\/uZ.heap.size<=k):=λk s=>Or.inl (B.lt k s).2
    have hb1:=v.trans (hw1.mono v.size);go_loopw [3,5,20] (λN sr sj vg=>∃(j y:Nat) (f:R),j<=9/\sj=I j/\sr= .int .u32 y/\y<4294967296/\Hid (f.length=bs.length+j)/\Hid (T3 f+10 ^ f.length*(y+10 ^ (9-j)*val l1)=val a/\Fp f/\y<10 ^ (9-j))/\
     vg.ownsRow w.heap.size 5 1 N f.length (GC f)/\Below w.heap.size w vg/\uZ.heap.size<=vg.heap.size/\Hid (∀k,wo.heap.size<=k->k<uZ.heap.size->vg.heap[k]? =uZ.heap[k]?)/\Hid (∀k,N.ownBlock=some k->k<wo.heap.size\/uZ.heap.size<=k)) (λ_ _ sj _=>9- (intOf sj).toNat)
    case atStart=>
     have hm:=BA (val x) (show 0<1000000000 by omega);refine⟨0,val x%1000000000,bs,by omega,rfl,rfl,by omega,rfl,⟨?_,(U hI).2.2,by simpa using hm⟩,hownk,hb1,AA _,λ_ _ _=>rfl,uT⟩;have e:=DT (val x) 1000000000;rw[hv1,<-(U hI).2.1];rw[show val x%1000000000+10 ^ (9-0)*(val x/1000000000)=val x by omega]
    case round=>
     obtain⟨j,y,f,hj,rfl,rfl,hrj,uS,hJ,o,hbr,hsz1,L,hrb⟩:=hrel;have hsz:w.heap.size<=wr.heap.size:=hbr.size
     by_cases hlt:j<9
     .have hlen:f.length<32*n+9:=by have:=U uS;omega
      go_wp2_with (first
       |(at_builtin;refine wpList_append_own_at _ rfl (.tmp 22) (.tmp 27) 108 rfl w.heap.size 5 i0 (.int .u8 0) 1 1 underlying108 hi0 hz0 hz1 hz2 rfl Zd _ _ _ (by rfl) (o.alloc _) ⟨wr.heap.size,0,none⟩ 1 1 [.int .u8 (48+(y:Int)%10)] rfl rfl (cell_one_new _ _ _) (by intro u hu;simp at hu;subst hu;rfl) (by simp only[maxLen];omega) J Zp ?_;intro v' w2 t K _ Q))
      have hcd:=V7 (show y%10<10 by omega);rw[show(48:Int)+(y:Int)%10=((chr (y%10)).toNat:Int) by rw[hcd];omega]at t;have hown3:w2.ownsRow w.heap.size 5 1 v' (f++ [chr (y%10)]).length (GC (f++ [chr (y%10)])):=by
       rw[Gn,AD];exact t
      have hb2:Below w.heap.size w w2:=(hbr.alloc hsz _).grown K Zp (λk s=>(o.lt k s).1);have hsz2:wr.heap.size+1<=w2.heap.size:=by have:=K.size;simpa using this
      have hmid2:Hid (∀k,wo.heap.size<=k->k<uZ.heap.size->w2.heap[k]? =uZ.heap[k]?):=by
       intro k C ve;rw[K.block k Zp (λe=>by have:=U hrb k e.symm;omega),Below.heap_alloc _ _ _ J];exact U L k C ve
      have hrb2:Hid (∀k,v'.ownBlock=some k->k<wo.heap.size\/uZ.heap.size<=k):=by
       intro k s;rcases Q with e|e
       .rw[e]at s;exact U hrb k s
       .rw[e]at s;have:(wr.alloc (.cells #[.int .u8 (48+(y:Int)%10)] 5)).heap.size=k:=by injection s
        simp at this;right;omega
      clear t K Q o hcd;go_wp2_with fail;go_roundw
      case rel=>
       obtain⟨vf,T,uY⟩:=U hJ;refine⟨j+1,y/10,_,by omega,by go_num,by go_num,by omega,?_,⟨?_,T.append (uP J),?_⟩,hown3,hb2,by omega,hmid2,hrb2⟩
       .show _=_;rw[AD,U uS];simp;omega
       .rw[show 9-j=(9- (j+1))+1 by omega]at vf;exact jB vf
       .rw[show 9-j=(9- (j+1))+1 by omega,DX]at uY;omega
      case measure=>simp[intOf];omega
     .obtain rfl:j=9:=J
      have hin:=(ho1.mid hsz1 (U L)).toIn;go_wp2_with fail;obtain⟨vf,T,uY⟩:=U hJ;have hr0:y=0:=by simpa using uY
      have hlt1:val l1<val x:=by have:=U HX;omega
      go_roundg (val l1)
      case measure=>have:=(U hI).1;omega
      case rel=>
       have hn1:n1<=n:=by
        have C:=hN1.length_le (AZ hlt1 (Jz D.dig));have:=ho1.len;have:=D.len;omega
       refine⟨A1,n1,c1,l1,f,rfl,hin,hn1,hN1,⟨rfl,?_,T⟩,o,hbr,by have:=U uS;omega⟩;rw[hr0]at vf;simpa using vf
def Od(w:YN)(l:R)(e:YC)(a:YN):Prop:=
 ∃A n c d,e= .returned (.tuple #[.slice A n c,I (L3 l)])/\Na d/\val d=O0 l/\Qp a w.heap.size A n c d/\Below w.heap.size w a
theorem tL{w:YN}{l:R}{v:Int}(h:L3 l=v)(b:v≠0){e:YC}(a:e= .returned (.tuple #[.slice none 0 0,I v])):Od w l e w:=
 ⟨none,0,0,[],by rw[a,h],Na.nil,by unfold O0;rw[V J];rfl,tw,Below.refl _ _⟩
theorem cz(s:ByteArray){k:Nat}(h:k<s.size):s.data.toList[k]? =some s[k]:=by
 rw[AP (by simpa using h)];rfl
theorem XF{l:R}{k:Nat}{b:UInt8}(h:l[k]? =some b)(a:¬(48<=b.toNat/\b.toNat<58)):JY l=false:=by
 rcases hx:JY l with _|_
 .rfl
 .exact absurd ((Aw l).1 hx b (CC h)) a
theorem OH{l:R}(h:∀(k:Nat) (b:UInt8),l[k]? =some b->48<=b.toNat/\b.toNat<58):JY l=true:=by
 rw[Aw];intro b c;obtain⟨k,a⟩:=List.getElem?_of_mem c;exact h k b a
theorem nf(s:ByteArray)(hs:s.size<=9223372036854775807)(w:YN):
 YG XW 293 #[.string s] w (Od w s.data.toList):=by
 have uR:s.data.toList.length=s.size:=Zs
 obtain⟨l,hl⟩:∃l,l=s.data.toList:=⟨_,rfl⟩
 rw[<-hl]at uR ⊢;have HL:=Kv (And.intro hl uR);have o:Hid (∀k (h:k<s.size),l[k]? =some s[k]):=λk h=>by rw[hl];exact cz s h
 clear hl uR;go_enter func293,ntmps293;go_wp2_with fail;go_loop [10] (λF=>∃k:Nat,k<=s.size/\F=I k/\Hid (∀(j:Nat) (b:UInt8),j<k->l[j]? =some b->48<=b.toNat/\b.toNat<58)) (λF=>s.size- (intOf F).toNat)
 case atStart=>exact⟨0,AH _,rfl,λj b hj=>absurd hj J⟩
 case round=>
  obtain⟨k,hk,rfl,hI⟩:=hrel
  by_cases g:k<s.size
  .by_cases hd:48<=s[k].toNat/\s[k].toNat<58
   .obtain⟨d1,d2⟩:=hd;have t1:¬((s[k].toNat:Int)<48):=J
    have t2:¬((57:Int)<(s[k].toNat:Int)):=J
    go_wp2_with fail;go_round
    case rel=>
     refine⟨k+1,by omega,by go_num,λj b hj D=> ?_⟩
     by_cases e:j=k
     .subst e;rw[U o j g]at D;injection D with D;subst D;exact⟨d1,d2⟩
     .exact U hI j b J D
    case measure=>simp[intOf];omega
   .have a:Hid (L3 l=3):=by
     show _=_;rw[L3,YS (XF (U o k g) hd)]
    by_cases y:s[k].toNat<48
    .have t1:((s[k].toNat:Int)<48):=J
     go_wp2_with fail;go_ret2;exact tL (U a) Zd rfl
    .have t1:¬((s[k].toNat:Int)<48):=J
     have t2:((57:Int)<(s[k].toNat:Int)):=J
     go_wp2_with fail;go_ret2;exact tL (U a) Zd rfl
  .obtain rfl:k=s.size:=J
   have m:Hid (JY l=true):=OH λj b D=>U hI j b (by
    have:=(AX.1 D).1;have:=(U HL).2;omega) D
   clear hI g
   by_cases A:s.size=0
   .have c:l=[]:=AB.1 (by rw[(U HL).2];exact A);have t1:s.toList=[]:=by rw[ByteArray.toList_eq,<-(U HL).1,c]
    have t2:(!s.toList.isEmpty)=false:=by rw[t1];rfl
    have t3:s.toList.isEmpty=true:=by rw[t1];rfl
    have a:Hid (L3 l=3):=by
     show _=_;rw[L3,V (by rw[U m];decide),YS (Or.inl c)]
    have Hm:=Kv (And.intro A c);clear A c;go_wp2_with fail;go_ret2;exact tL (U a) Zd rfl
   .have uY:0<s.size:=J
    have c:l≠[]:=by
     intro e;have:=(U HL).2;rw[e]at this;simp only[AW]at this;omega
    have vf:Hid (l.head? =some s[0]):=by
     show _=_;rw[<-U o 0 uY,List.head?_eq_getElem?]
    have t0:s.toList≠[]:=by rw[ByteArray.toList_eq,<-(U HL).1];exact c
    have t3:s.toList.isEmpty=false:=by
     rcases hx:s.toList.isEmpty with _|_
     .rfl
     .exact absurd (List.isEmpty_iff.1 hx) t0
    have Hn:=Kv c;clear A c t0
    by_cases uS:s[0]=48/\1<s.size
    .have t4:((s[0].toNat:Int)==48)=true:=by rw[uS.1];rfl
     have t5:(1:Int)<(s.size:Int):=J
     have a:Hid (L3 l=3):=by
      show _=_;rw[L3,V (by rw[U m];decide),YS (Or.inr ⟨by rw[U vf,uS.1],by rw[(U HL).2];exact uS.2⟩)]
     clear uS;go_wp2_with fail;go_ret2;exact tL (U a) Zd rfl
    .have v:Hid (¬(l=[]\/(l.head? =some 48/\1<l.length))):=by
      rintro(h|⟨y,h2⟩)
      .exact U Hn h
      .rw[U vf]at y;injection y with y;exact uS ⟨y,by rw[<-(U HL).2];exact h2⟩
     have u:(((s[0].toNat:Int)==48)=false)\/(((s[0].toNat:Int)==48)=true/\¬(1:Int)<(s.size:Int)):=by
      by_cases h:s[0]=48
      .right;refine⟨by rw[h];rfl,λx=>uS ⟨h,by omega⟩⟩
      .left;simp;intro e;exact h (BQ.1 (by simpa using(by omega:s[0].toNat=48)))
     clear uS;have hpe:Hid (1000<s.size->L3 l=5):=by
      intro h;rw[L3,V (by rw[U m];decide),V (U v),YS (by rw[(U HL).2];exact h)]
     have Q:Hid (¬1000<s.size->L3 l=0):=by
      intro h;rw[L3,V (by rw[U m];decide),V (U v),V (by rw[(U HL).2];exact h)]
     by_cases vg:1000<s.size
     .have t6:(1000:Int)<(s.size:Int):=J
      have a:Hid (L3 l=5):=U hpe vg;rcases u with t4|⟨t4,t5⟩
      .go_wp2_with fail;go_ret2;exact tL (U a) Zd rfl
      .omega
     .have t6:¬(1000:Int)<(s.size:Int):=J
      have t:Hid (L3 l=0):=U Q vg;clear hpe Q v vf;rcases u with t4|⟨t4,t5⟩
      all_goals
       go_wp2_with fail;refine(X9 10 J w).mono ?_;rintro e w1 ⟨A1,n1,c1,d1,rfl,hN1,B,uW,L⟩;have hn1:n1<=1:=by
        have:=hN1.len_lt (k:=1) (by rw[B];decide);have:=uW.len;omega
       go_wp2_with fail;go_loopw [5,44] (λsa F wx=>∃(k:Nat) (uX:YY) (p r:Nat) (x:List Nat),k<=s.size/\F=I k/\sa= .slice uX p r/\Qp wx w.heap.size uX p r x/\Na x/\p<=k/\Hid (val x=gx (l.take k))/\Below w1.heap.size w1 wx) (λ_ F _=>s.size- (intOf F).toNat)
       case atStart=>exact⟨0,none,0,0,[],AH _,rfl,rfl,tw,Na.nil,AA _,rfl,Below.refl _ _⟩
       case round=>
        obtain⟨k,uX,p,r,x,hk,rfl,rfl,f,nx,hp,hv,C⟩:=hrel
        by_cases g:k<s.size
        .have W:48<=s[k].toNat/\s[k].toNat<58:=(Aw l).1 (U m) _ (CC (U o k g));obtain⟨g1,g2⟩:=W;have g3:(48:Int)<=(s[k].toNat:Int)/\(s[k].toNat:Int)<58:=J
         have hkl:(k:Int)<(s.size:Int):=J
         have e1:XX.wrap ((s[k].toNat:Int)-48)=((s[k].toNat-48:Nat):Int):=by rw[IntKind.wrap_u8'];omega
         have e2:XZ.wrap ((s[k].toNat-48:Nat):Int)=((s[k].toNat-48:Nat):Int):=by rw[Lg];omega
         have hk1000:k<=1000:=J
         have P:Hid (∀(n2:Nat) (uZ:List Nat),Na uZ->uZ.length=n2->val uZ=val x*val d1->n2<=1001):=by
          intro n2 uZ y h2 h3;have h4:=Mj f.dig (AI (AG f.len) hp);have h5:=y.length_le (k:=k+1) (by rw[h3,B,Mr];omega);omega
         have hsm2:Hid (∀(n3:Nat) (N:List Nat),Na N->N.length=n3->val N=s[k].toNat-48->n3<=1):=by
          intro n3 N y h2 h3;have h5:=y.len_lt (k:=1) (by rw[h3];omega);omega
         go_wp2_with fail;go_region_with (first
          |(go_at_call 298;refine(nG _ f.drew.toIn (uW.toIn.below C).drew J J).mono ?_;rintro e w2 ⟨A2,n2,c2,uZ,rfl,hN2,G,S,hw2⟩)
          |(go_at_call 101;refine(X9 (s[k].toNat-48) J _).mono ?_;rintro e w3 ⟨A3,n3,c3,N,rfl,hN3,K,ho3,uV⟩)
          |(go_at_call 329;refine(nF _ (S.below uV).toIn ho3.toIn ?_ ?_).mono ?_;(exact AI (U P n2 uZ hN2 S.len G) J);(exact AI (U hsm2 n3 N hN3 ho3.len K) J);rintro e w4 ⟨A4,n4,c4,l4,rfl,uT,uU,T,hw4⟩))
         all_goals
          go_wp2_with fail;go_roundw
          case rel=>
           have hb2:Below w1.heap.size w1 w2:=(Mt C 1).trans (hw2.mono C.size);have ve:=hb2.trans (uV.mono hb2.size);have hb4:=ve.trans (hw4.mono ve.size);have hval:Hid (val l4=gx (l.take (k+1))):=by
            show _=_;rw[uU,G,K,B,U hv,DJ,U o k g];simp only[Option.toList];rw[UR,BR]
           have hn4:n4<=k+1:=by
            have h4:=Mj f.dig (AI (AG f.len) hp);have h5:=uT.length_le (k:=k+1) (by rw[uU,G,K,B,Mr];omega);have:=T.len;omega
           exact⟨k+1,A4,n4,c4,l4,by omega,by go_num,rfl,T.base (AI L.size ve.size),uT,hn4,hval,hb4⟩
          case measure=>simp[intOf];omega
        .obtain rfl:k=s.size:=J
         go_wp2_with fail;go_ret2;refine⟨uX,p,r,x,by rw[U t];rfl,nx,?_,f,L.trans (C.mono L.size)⟩;rw[U hv,O0,YS (U t),AR (AG (U HL).2)]
theorem Yu(w:YN):(w.alloc (.cells #[] 208)).ownsRow w.heap.size 208 1 (.slice (some ⟨w.heap.size,0,none⟩) 0 0) 0 (Pa []):=BV _ _ _ (AA _) (by unfold maxLen;omega) rfl
theorem Ph(w:YN)(o:Obj):Below w.heap.size w (w.alloc o):=(Below.refl _ _).alloc (AA _) _
theorem Sw{w:YN}{B k x:Nat}{v:YM}{l:List Nat}{uX:Int}(h:w.ownsRow B 208 1 v (k+1) (Pa l++ [.int .u32 uX]))(a:uX=(x:Int)):w.ownsRow B 208 1 v (k+1) (Pa (l++ [x])):=by
 rw[F_,show Pa [x]=[.int .u32 (x:Int)]from rfl,<-a];exact h
theorem Vj{l:List Nat}{k x:Nat}(a:l.length=k):val (l++ [x])=val l+x*pw k:=by
 rw[Gk,GN,a,BR]
theorem Pe{w wr c:YN}{v:YM}{n e s:Nat}{xs:List YM}{o:Obj}(b:Below w.heap.size w wr)(a:wr.ownsRow w.heap.size e s v n xs)(g:(wr.alloc o).grownBy c v.ownBlock):Below w.heap.size w c:=
 (b.alloc b.size _).grown g (by have:=b.size;simp;omega) (λk f=>(a.lt k f).1)
theorem Pi{A:YY}{n c:Nat}{l:List Nat}(i:Int)(w:YN)(h:In w A n c l)(a:0<=i):
 YG XW 337 #[.slice A n c,I i] w λe g=>e= .returned (.int .u64 (dg l i.toNat:Nat))/\w=g:=by
 obtain⟨k,rfl⟩:=BU a;have p:=h.lenI;have r:=h.dig k
 by_cases f:k<n
 .obtain⟨ad,rfl,o⟩:=h.at_ f;have m:=Kv h.len;have b:¬(k:Int)<0:=J
  have j:¬(n:Int)<=(k:Int):=J
  clear h a;go_enter func337,ntmps337;go_wp2_with fail;go_ret;exact⟨rfl,rfl⟩
 .have m:=Kv h.len;have e:Hid (dg l k=0):=Vx (by rw[h.len];omega);have b:¬(k:Int)<0:=J
  have j:(n:Int)<=(k:Int):=J
  clear h a;go_enter func337,ntmps337;go_wp2_with fail;go_ret;refine⟨?_,rfl⟩;rw[U e];rfl
theorem M4{A:YY}{n c:Nat}{l:List Nat}(w:YN)(h:In w A n c l)(hb:n<=1099511627776):
 YG XW 220 #[.slice A n c] w (o_ w (trim l)):=by
 have hn:=h.lenI;have x:=On l n;have g:=h.len;have b:Hid (l.take (A_ l n)=trim l):=by show _=_;rw[trim,g]
 have HL:=Kv g;clear g;obtain⟨p,ve⟩:∃p,p=A_ l n:=⟨_,rfl⟩
 rw[<-ve]at x b;have HP:=Kv ve;clear ve;have uS:=Kv h;clear h;obtain⟨T,Q,K,uR,L⟩:=info_parts Tryz.info_u32;go_enter func220,ntmps220;go_wp2_with fail;go_loop [3] (λi=>∃k:Nat,k<=n/\i=I k/\Hid (A_ l k=p)) (λi=>(intOf i).toNat)
 case atStart=>exact⟨n,AA _,rfl,(U HP).symm⟩
 case round=>
  obtain⟨k,hk,rfl,x⟩:=hrel
  by_cases t:k=0
  .have r:k=p:=by rw[<-U x,t];rfl
   have uX:¬(0:Int)<(k:Int):=J
   clear t;go_wp2_with fail;go_loopw [4,5] (λP m B=>∃i:Nat,i<=k/\m=I i/\B.ownsRow w.heap.size 208 1 P i (Pa (l.take i))/\Below w.heap.size w B) (λ_ m _=>k- (intOf m).toNat)
   case atStart=>exact⟨0,AH _,rfl,Yu _,Ph _ _⟩
   case round=>
    obtain⟨i,hi,rfl,a,e⟩:=hrel
    by_cases C:i<k
    .exact absurd C J
    .obtain rfl:i=k:=J
     go_wp2_with fail;go_ret;subst r;rw[U b]at a;obtain⟨A1,N,rfl,G⟩:=tv a (by rw[<-U b];exact(U uS).dig.take _) (by rw[<-U b,BE,U HL];omega);exact⟨A1,_,N,rfl,G,e⟩
  .obtain⟨j,uY⟩:∃j,k=j+1:=⟨k-1,by omega⟩
   obtain⟨ad,rfl,vf⟩:=(U uS).at_ (k:=j) J;have uX:(0:Int)<(k:Int):=J
   have uV:(k:Int)-1=(j:Int):=J
   have t2:(j:Int)<(n:Int):=J
   by_cases s:dg l j=0
   .have W:((dg l j:Int)==0)=true:=by simp[s]
    have HD:=Kv s;clear s;go_wp2_with fail;go_round
    case rel=>exact⟨j,by omega,rfl,by show _=_;rw[<-U x,uY,Os (U HD)]⟩
    case measure=>simp[intOf];omega
   .have W:((dg l j:Int)==0)=false:=by simpa using s
    have r:k=p:=by rw[<-U x,uY,OP s]
    clear s;go_wp2_with fail;go_loopw [4,5] (λP m B=>∃i:Nat,i<=k/\m=I i/\B.ownsRow w.heap.size 208 1 P i (Pa (l.take i))/\Below w.heap.size w B) (λ_ m _=>k- (intOf m).toNat)
    case atStart=>exact⟨0,AH _,rfl,Yu _,Ph _ _⟩
    case round=>
     obtain⟨i,hi,rfl,a,e⟩:=hrel
     by_cases C:i<k
     .obtain⟨F,vg,D⟩:=((U uS).below e).at_ (k:=i) J;obtain rfl:ad=F:=by injection vg
      have uU:=e.size;have uW:(i:Int)<(n:Int)/\(i:Int)<(k:Int):=J
      go_wp2_with (first
       |(at_builtin;refine wpList_append_own_at _ rfl (.tmp 26) (.tmp 31) 41 rfl w.heap.size 208 T (.int .u32 0) 1 4 underlying41 Q K uR L rfl Zd _ _ _ (by rfl) (a.alloc _) ⟨wr.heap.size,0,none⟩ 1 1 [.int .u32 (dg l i:Int)] rfl rfl (cell_one_new _ _ _) (by intro u S;simp at S;subst S;rfl) (by simp only[maxLen];omega) J Zp ?_;intro v' uT f v _ y))
      have o:=Sw f rfl;have uZ:=Pe e a v;clear f v y a;go_wp2_with fail;go_roundw
      case rel=>
       refine⟨i+1,by omega,by go_num,?_,uZ⟩;rw[List.take_succ_eq_append_getElem (by rw[U HL];omega),<-NP];exact o
      case measure=>simp[intOf];omega
     .obtain rfl:i=k:=J
      go_wp2_with fail;go_ret;subst r;rw[U b]at a;obtain⟨A1,N,rfl,G⟩:=tv a (by rw[<-U b];exact(U uS).dig.take _) (by rw[<-U b,BE,U HL];omega);exact⟨A1,_,N,rfl,G,e⟩
theorem Mo{A B:YY}{n c m d:Nat}{a b:List Nat}(w:YN)(l:In w A n c a)(o:In w B m d b):
 YG XW 367 #[.slice A n c,.slice B m d] w (qS w (I (Vr (val a) (val b)))):=by
 have F:=l.lenI;have G:=o.lenI;have Ha:=Kv l;have Hb:=Kv o;obtain⟨N,vf,C,D,t⟩:∃N,n<=N/\m<=N/\N<=9223372036854775807/\((n<m->N=m)/\(¬n<m->N=n)):=⟨max n m,by omega,by omega,by omega,by omega,by omega⟩
 have H3:=Kv t;have HL:=Kv (And.intro l.len o.len);clear t l o;go_enter func367,ntmps367;go_wp2_with fail;go_loopw [5] (λr x=>∃(k:Nat) (z:Int),k<=N/\z+1=k/\r=I z/\Hid (∀j,k<=j->dg a j=dg b j)/\Qd w x) (λr _=>(intOf r+1).toNat)
 case atStart=>
  refine⟨N,(N:Int)-1,AA _,by omega,congrArg (BG .i64) (by have:=U H3;omega),λj vg=> ?_,Qd.refl _⟩;rw[Vx (by rw[(U HL).1];omega),Vx (by rw[(U HL).2];omega)]
 case round=>
  obtain⟨k,z,uS,s,rfl,f,⟨q,rfl⟩⟩:=hrel
  by_cases u:k=0
  .subst u;obtain rfl:z= -1:=J
   clear s;go_wp2_with fail;go_ret;refine⟨?_,Qd.of _ _⟩;rw[cq]
   .rfl
   .exact I6 λj=>U f j (AH _)
  .obtain⟨j,rfl⟩:∃j,k=j+1:=⟨k-1,by omega⟩
   obtain rfl:z=(j:Int):=J
   clear s u;go_wp2_with fail;refine(Pi _ _ ((U Ha).drewN q) J).mono ?_;rintro e p ⟨rfl,rfl⟩;go_wp2_with fail;refine(Pi _ _ ((U Hb).drewN q) J).mono ?_;rintro e p ⟨rfl,rfl⟩;rw[AL]
   by_cases g:dg a j<dg b j
   .have v:(dg a j:Int)<(dg b j:Int):=J
    have K:Hid (Vr (val a) (val b)= -1):=Fm (Er (U Ha).dig (λi hi=>U f i J) g);clear g;go_wp2_with fail;go_ret;rw[U K];exact⟨rfl,Qd.of _ _⟩
   .have v:¬(dg a j:Int)<(dg b j:Int):=J
    go_wp2_with fail;refine(Pi _ _ ((U Ha).drewN q) J).mono ?_;rintro e p ⟨rfl,rfl⟩;go_wp2_with fail;refine(Pi _ _ ((U Hb).drewN q) J).mono ?_;rintro e p ⟨rfl,rfl⟩;rw[AL]
    by_cases h:dg b j<dg a j
    .have y:(dg b j:Int)<(dg a j:Int):=J
     have K:Hid (Vr (val a) (val b)=1):=HH (Er (U Hb).dig (λi hi=>(U f i J).symm) h);clear h g;go_wp2_with fail;go_ret;rw[U K];exact⟨rfl,Qd.of _ _⟩
    .have y:¬(dg b j:Int)<(dg a j:Int):=J
     have HE:Hid (dg a j=dg b j):=by show _=_;omega
     clear h g;go_wp2_with fail;go_roundw
     case rel=>
      refine⟨j,(j:Int)-1,by omega,by omega,rfl,λi hi=> ?_,Qd.of _ _⟩
      by_cases e:i=j
      .subst e;exact U HE
      .exact U f i J
     case measure=>simp[intOf]
theorem TF{o a b:List Nat}{k y x z:Nat}(c:o.length=k)(h:val o+y*pw k=lo a k+lo b k)(e:x+z*4294967296=dg a k+dg b k+y):
 val (o++ [x])+z*pw (k+1)=lo a (k+1)+lo b (k+1):=by
 rw[Vj c,Mr,Lq,Lq];have f:(x+z*4294967296)*pw k=(dg a k+dg b k+y)*pw k:=by rw[e]
 grind
theorem ZL{o a b:List Nat}{N y:Nat}(f:o.length=N)(c:a.length<=N)(e:b.length<=N)(h:val o+y*pw N=lo a N+lo b N):val (o++ [y])=val a+val b:=by
 rw[Vj f,h,Mz c,Mz e]
theorem WX{o a b:List Nat}{k y x z:Nat}(c:o.length=k)(h:val o+lo b k=lo a k+y*pw k)(e:x+dg b k+y=dg a k+z*4294967296):
 val (o++ [x])+lo b (k+1)=lo a (k+1)+z*pw (k+1):=by
 rw[Vj c,Mr,Lq,Lq];have f:(x+dg b k+y)*pw k=(dg a k+z*4294967296)*pw k:=by rw[e]
 grind
theorem aQ{o a b:List Nat}{n y:Nat}(j:o.length=n)(c:Ny o)(g:a.length=n)(f:Ny a)(m:val b<=val a)(h:val o+lo b n=lo a n+y*pw n):val o=val a-val b:=by
 rw[Mz (AG g)]at h;have p:val a<pw n:=Mj f (AG g);have r:val o<pw n:=Mj c (AG j);have k:=J5 b n;have l:val (b.drop n)=0:=by
  rcases AM (val (b.drop n))with e|e
  .exact e
  .have:pw n*1<=pw n*val (b.drop n):=CF _ e;omega
 rw[l,Nat.mul_zero,DY]at k;rcases AM y with e|e
 .rw[e,CO]at h;omega
 .have:1*pw n<=y*pw n:=CB _ e;omega
theorem MY{o a:List Nat}{k y x z d:Nat}(b:o.length=k)(h:val o+y*pw k=lo a k*d)(e:x+z*4294967296=dg a k*d+y):
 val (o++ [x])+z*pw (k+1)=lo a (k+1)*d:=by
 rw[Vj b,Mr,Lq];have c:(x+z*4294967296)*pw k=(dg a k*d+y)*pw k:=by rw[e]
 grind
theorem XO{A B:YY}{n c m d:Nat}{a b:List Nat}(w:YN)(uR:In w A n c a)(uZ:In w B m d b)(hn:n<=549755813888)(hm:m<=549755813888):
 YG XW 303 #[.slice A n c,.slice B m d] w (V9 w (val a+val b)):=by
 have Ha:=Kv uR;have Hb:=Kv uZ;obtain⟨N,h1,W,hN,S⟩:∃N:Nat,n<=N/\m<=N/\N<=549755813888/\max (n:Int) (m:Int)=(N:Int):=⟨max n m,by omega,by omega,by omega,by omega⟩
 have HL:=Kv (And.intro (AI (AG uR.len) h1) (AI (AG uZ.len) W));clear uR uZ;obtain⟨P,F,v,vg,C⟩:=info_parts Tryz.info_u32;go_enter func303,ntmps303;go_wp2_with fail;go_loopw [5,6,7] (λso uT L uW=>∃(k y:Nat) (o:List Nat),k<=N/\L=I k/\uT= .int .u64 y/\y<=1/\Hid (o.length=k/\Ny o/\val o+y*pw k=lo a k+lo b k)/\uW.ownsRow w.heap.size 208 1 so k (Pa o)/\Below w.heap.size w uW) (λ_ _ L _=>N- (intOf L).toNat)
 case atStart=>exact⟨0,0,[],AH _,rfl,rfl,AH _,⟨rfl,Ny.nil,by simp[O5,val]⟩,Yu _,Ph _ _⟩
 case round=>
  obtain⟨k,y,o,hk,rfl,rfl,hy,K,f,l⟩:=hrel;have hsz:=l.size;have uV:=(U Ha).dig k;have uX:=(U Hb).dig k
  by_cases hlt:k<N
  .have t0:(k:Int)<(N:Int):=J
   have ve:(k:Int)<max (n:Int) (m:Int):=J
   go_wp2_with fail;refine(Pi _ _ ((U Ha).below l) J).mono ?_;rintro e T ⟨rfl,rfl⟩;go_wp2_with fail;refine(Pi _ _ ((U Hb).below l) J).mono ?_;rintro e T ⟨rfl,rfl⟩;rw[AL];go_wp2_with (first
    |(at_builtin;refine wpList_append_own_at _ rfl (.tmp 28) (.tmp 31) 41 rfl w.heap.size 208 P (.int .u32 0) 1 4 underlying41 F v vg C rfl Zd _ _ _ (by rfl) (f.alloc _) ⟨wr.heap.size,0,none⟩ 1 1 [.int .u32 _] rfl rfl (cell_one_new _ _ _) (by intro u D;simp at D;subst D;rfl) (by simp only[maxLen];omega) J Zp ?_;intro v' uU g j _ r))
   have h:=Sw (x:=(dg a k+dg b k+y)%4294967296) g J;have p:=Pe l f j;clear g j r f;go_wp2_with fail;go_roundw
   case rel=>
    obtain⟨s,G,uS⟩:=U K;exact⟨k+1,(dg a k+dg b k+y)/4294967296,_,by omega,by go_num,by go_num,by omega,⟨by rw[AD,s];rfl,G.append (Ny.one J),TF s uS J⟩,h,p⟩
   case measure=>simp[intOf];omega
  .have t:k=N:=J
   have t0:¬(k:Int)<(N:Int):=J
   have ve:¬(k:Int)<max (n:Int) (m:Int):=J
   go_wp2_with (first
    |(at_builtin;refine wpList_append_own_at _ rfl (.tmp 35) (.tmp 38) 41 rfl w.heap.size 208 P (.int .u32 0) 1 4 underlying41 F v vg C rfl Zd _ _ _ (by rfl) (f.alloc _) ⟨wr.heap.size,0,none⟩ 1 1 [.int .u32 _] rfl rfl (cell_one_new _ _ _) (by intro u D;simp at D;subst D;rfl) (by simp only[maxLen];omega) J Zp ?_;intro v' uU g j _ r))
   have h:=Sw (x:=y) g J;have p:=Pe l f j;clear g j r f;obtain⟨s,G,uS⟩:=U K;obtain⟨A1,c1,rfl,Q⟩:=tv h (G.append (Ny.one J)) (by rw[AD,s];rfl);have uY:val (o++ [y])=val a+val b:=ZL (s.trans t) (U HL).1 (U HL).2 (by rw[<-t];exact uS);have HV:=Kv uY;clear uY s G uS K;go_wp2_with fail;refine(M4 _ Q.toIn J).mono ?_;rintro e T ⟨A2,n2,c2,rfl,vf,hw⟩;go_wp2_with fail;go_ret;exact⟨A2,n2,c2,_,rfl,L8 Q.dig,by rw[Ku];exact U HV,vf.base (by have:=p.size;omega),p.trans (hw.mono p.size)⟩
theorem IA{A B:YY}{n c m d:Nat}{a b:List Nat}(w:YN)(uS:In w A n c a)(Q:In w B m d b)(hn:n<=549755813888):
 YG XW 360 #[.slice A n c,.slice B m d] w λe p=>∃A' uW c' l,e= .returned (.tuple #[.slice A' uW c',.bool (decide (val b<=val a))])/\Na l/\val l=val a-val b/\Qp p w.heap.size A' uW c' l/\Below w.heap.size w p:=by
 have Ha:=Kv uS;have Hb:=Kv Q
 by_cases f:val a<val b
 .have K:Hid (Vr (val a) (val b)= -1):=Fm f;have Hc:=Kv f;clear f;go_enter func360,ntmps360;go_wp2_with fail;refine(Mo w uS Q).mono ?_;rintro e p ⟨rfl,⟨q,rfl⟩⟩;rw[U K];go_wp2_with fail;go_ret2;have:=U Hc;exact⟨none,0,0,[],by rw[YV J];rfl,Na.nil,by rw[Tv];omega,tw,Mt (Below.refl _ _) _⟩
 .obtain⟨z,D,K⟩:∃z,(0:Int)<=z/\Hid (Vr (val a) (val b)=z):=by
   refine⟨_,?_,rfl⟩;unfold Vr;rw[V f];split<;>omega
  have t:Hid (decide (val b<=val a)=true):=YU J;have Hc:=Kv f;have HL:=Kv uS.len;clear f uS Q;obtain⟨W,P,v,uR,ve⟩:=info_parts Tryz.info_u32;have D:=v;go_enter func360,ntmps360;go_wp2_with fail;refine(Mo w (U Ha) (U Hb)).mono ?_;rintro e p ⟨rfl,⟨q,rfl⟩⟩;rw[U K];go_wp2_with fail;go_loopw [6,7,8] (λso uT uZ uU=>∃(k y:Nat) (o:List Nat),k<=n/\uZ=I k/\uT= .int .u64 y/\y<=1/\Hid (o.length=k/\Ny o/\val o+lo b k=lo a k+y*pw k)/\uU.ownsRow w.heap.size 208 1 so k (Pa o)/\Below w.heap.size w uU) (λ_ _ uZ _=>n- (intOf uZ).toNat)
  case atStart=>exact⟨0,0,[],AH _,rfl,rfl,AH _,⟨rfl,Ny.nil,by simp[O5,val]⟩,Yu _,(Mt (Below.refl _ _) q).alloc (AA _) _⟩
  case round=>
   obtain⟨k,y,o,hk,rfl,rfl,hy,L,g,h⟩:=hrel;have hsz:=h.size;have uV:=(U Ha).dig k;have uX:=(U Hb).dig k
   by_cases hlt:k<n
   .have t0:(k:Int)<(n:Int):=J
    go_wp2_with fail;refine(Pi _ _ ((U Ha).below h) J).mono ?_;rintro e p ⟨rfl,rfl⟩;go_wp2_with fail;refine(Pi _ _ ((U Hb).below h) J).mono ?_;rintro e p ⟨rfl,rfl⟩;rw[AL];go_wp2_with (first
     |(at_builtin;refine wpList_append_own_at _ rfl (.tmp 31) (.tmp 34) 41 rfl w.heap.size 208 W (.int .u32 0) 1 4 underlying41 P D uR ve rfl Zd _ _ _ (by rfl) (g.alloc _) ⟨wr.heap.size,0,none⟩ 1 1 [.int .u32 _] rfl rfl (cell_one_new _ _ _) (by intro u T;simp at T;subst T;rfl) (by simp only[maxLen];omega) J Zp ?_;intro v' w2 j C _ F))
    have r:=Sw (x:=(4294967296+dg a k-dg b k-y)%4294967296) j J;have N:=Pe h g C;clear j C F g;go_wp2_with fail;go_roundw
    case rel=>
     obtain⟨s,vg,G⟩:=U L;exact⟨k+1,1- (4294967296+dg a k-dg b k-y)/4294967296,_,by omega,by go_num,congrArg (BG .u64) J,by omega,⟨by rw[AD,s];rfl,vg.append (Ny.one J),WX s G J⟩,r,N⟩
    case measure=>simp[intOf];omega
   .obtain rfl:k=n:=J
    obtain⟨s,vg,G⟩:=U L;obtain⟨A1,c1,rfl,uY⟩:=tv g vg s;have S:val o=val a-val b:=aQ s vg (U HL) (U Ha).dig (by have:=U Hc;omega) G;have HV:=Kv S;clear S s vg G L;go_wp2_with fail;refine(M4 _ uY.toIn J).mono ?_;rintro e p ⟨A2,n2,c2,rfl,vf,hw⟩;go_wp2_with fail;go_ret2;rw[U t];exact⟨A2,n2,c2,_,rfl,L8 uY.dig,by rw[Ku];exact U HV,vf.base (by have:=h.size;omega),h.trans (hw.mono h.size)⟩
theorem MD{A:YY}{n c:Nat}{a:List Nat}(d:Nat)(w:YN)(uR:In w A n c a)(hn:n<=549755813888)(uY:d<4294967296):
 YG XW 304 #[.slice A n c,.int .u64 d] w (V9 w (val a*d)):=by
 have Ha:=Kv uR;have HL:=Kv uR.len;clear uR;obtain⟨uZ,D,t,C,v⟩:=info_parts Tryz.info_u32;go_enter func304,ntmps304;go_wp2_with fail;go_loopw [5,6,7] (λso uU K S=>∃(k y:Nat) (o:List Nat),k<=n/\K=I k/\uU= .int .u64 y/\y<4294967296/\Hid (o.length=k/\Ny o/\val o+y*pw k=lo a k*d)/\S.ownsRow w.heap.size 208 1 so k (Pa o)/\Below w.heap.size w S) (λ_ _ K _=>n- (intOf K).toNat)
 case atStart=>exact⟨0,0,[],AH _,rfl,rfl,by omega,⟨rfl,Ny.nil,by simp[O5,val]⟩,Yu _,Ph _ _⟩
 case round=>
  obtain⟨k,y,o,hk,rfl,rfl,hy,ve,b,m⟩:=hrel;have hsz:=m.size;have r:=(U Ha).dig k
  by_cases N:k<n
  .have t0:(k:Int)<(n:Int):=J
   obtain⟨ad,rfl,vf⟩:=((U Ha).below m).at_ (k:=k) N;have uS:=Am r uY;obtain⟨s,L⟩:∃s,s=dg a k*d+y:=⟨_,rfl⟩
   have uT:(dg a k:Int)*(d:Int)+(y:Int)=(s:Int):=by rw[L];simp
   have uW:(dg a k:Int)*(d:Int)<=18446744065119617025/\0<=(dg a k:Int)*(d:Int):=Wt r uY;have uV:(s:Int)<=18446744069414584320:=J
   have HS:=Kv L;clear L uS;go_wp2_with (first
    |(at_builtin;refine wpList_append_own_at _ rfl (.tmp 25) (.tmp 28) 41 rfl w.heap.size 208 uZ (.int .u32 0) 1 4 underlying41 D t C v rfl Zd _ _ _ (by rfl) (b.alloc _) ⟨wr.heap.size,0,none⟩ 1 1 [.int .u32 _] rfl rfl (cell_one_new _ _ _) (by intro u B;simp at B;subst B;rfl) (by simp only[maxLen];omega) J Zp ?_;intro uX T f h _ l))
   have g:=Sw (x:=s%4294967296) f J;have j:=Pe m b h;clear f h l b;go_wp2_with fail;go_roundw
   case rel=>
    obtain⟨p,vg,F⟩:=U ve;exact⟨k+1,s/4294967296,_,by omega,by go_num,congrArg (BG .u64) J,by omega,⟨by rw[AD,p];rfl,vg.append (Ny.one J),MY p F (by rw[<-U HS];omega)⟩,g,j⟩
   case measure=>simp[intOf];omega
  .obtain rfl:k=n:=J
   go_wp2_with (first
    |(at_builtin;refine wpList_append_own_at _ rfl (.tmp 32) (.tmp 35) 41 rfl w.heap.size 208 uZ (.int .u32 0) 1 4 underlying41 D t C v rfl Zd _ _ _ (by rfl) (b.alloc _) ⟨wr.heap.size,0,none⟩ 1 1 [.int .u32 _] rfl rfl (cell_one_new _ _ _) (by intro u B;simp at B;subst B;rfl) (by simp only[maxLen];omega) J Zp ?_;intro uX T f h _ l))
   have g:=Sw (x:=y) f J;have j:=Pe m b h;clear f h l b;obtain⟨p,vg,F⟩:=U ve;obtain⟨A1,c1,rfl,P⟩:=tv g (vg.append (Ny.one J)) (by rw[AD,p];rfl);have Q:val (o++ [y])=val a*d:=by rw[Vj p,F,Mz (by rw[U HL];omega)]
   have HV:=Kv Q;clear Q p vg F ve;go_wp2_with fail;refine(M4 _ P.toIn J).mono ?_;rintro e w' ⟨A2,n2,c2,rfl,G,W⟩;go_wp2_with fail;go_ret;exact⟨A2,n2,c2,_,rfl,L8 P.dig,by rw[Ku];exact U HV,G.base (by have:=j.size;omega),j.trans (W.mono j.size)⟩
theorem E_{A:YY}{n c:Nat}{a:List Nat}(w:YN)(r:In w A n c a)(Q:n<=274877906944):
 YG XW 356 #[.slice A n c] w λe uR=>e= .returned (I (B_ (val a):Nat))/\Below w.heap.size w uR:=by
 go_enter func356,ntmps356;go_wp2_with fail;refine(M4 w r J).mono ?_;rintro e uY ⟨At,s,P,rfl,v,vg⟩;have Nt:=L8 r.dig;have x:=Ku a;have b:=v.toIn.len;have B:(trim a).length<=n:=by have:=Og a;have:=r.len;omega
 obtain⟨l,o⟩:∃l,l=trim a:=⟨_,rfl⟩
 rw[<-o]at v Nt x b B;have uS:s<=n:=J
 have vf:=v.toIn;have VT:=Kv x;clear o B x r
 by_cases D:s=0
 .subst D;have K:Hid (B_ (val a)=0):=by
   show _=_;rw[<-U VT,AB.1 b];rfl
  clear b;go_wp2_with fail;go_ret;rw[U K];exact⟨rfl,vg⟩
 .obtain⟨p,rfl⟩:∃p,s=p+1:=⟨s-1,by omega⟩
  have j:dg l p≠0:=by
   rcases Nt.2 with e|e
   .rw[e]at b;simp at b
   .rw[b]at e;exact e
  have C:=KH Nt.dig b j;have u:=Nt.dig p;obtain⟨T,h⟩:∃T,T=dg l p:=⟨_,rfl⟩
  obtain⟨ad,rfl,f⟩:=vf.at_ (k:=p) J;have S:((p:Int)+1==0)=false:=by simp;omega
  rw[<-h]at f C u;have HB:=Kv C;have ve:=Z3 u;clear b j C h D;go_wp2_with fail;go_loop [4,5] (λG st=>∃(t z:Nat),G=I ((32*p+z:Nat):Int)/\st= .int .u32 t/\t<4294967296/\z<=32/\Hid (z+BI t=BI T)) (λ_ st=>(intOf st).toNat)
  case atStart=>exact⟨T,0,congrArg (BG .i64) J,rfl,u,by omega,BK _⟩
  case round=>
   obtain⟨t,z,rfl,rfl,B,uZ,F⟩:=hrel
   by_cases g:t=0
   .subst g;have y:Hid (B_ (val a)=32*p+z):=by
     show _=_;rw[<-U VT,U HB,<-U F,Gl,DY]
    go_wp2_with fail;go_ret;rw[U y];exact⟨rfl,vg⟩
   .have N:(0:Int)<(t:Int):=J
    have m:Hid (z+1+BI (t/2)=BI T):=by
     show _=_;rw[<-U F,Lib.bitLen_half t g J];omega
    have L:z+1<=32:=by have:=U m;omega
    clear g;go_wp2_with fail;go_round
    case rel=>exact⟨t/2,z+1,congrArg (BG .i64) J,congrArg (BG .u32) J,by omega,by omega,m⟩
    case measure=>simp[intOf];omega
theorem jz{A B:YY}{n c m d:Nat}{a b:List Nat}(w:YN)(P:In w A n c a)(ve:In w B m d b)(hn:n<=274877906944)(hm:m<=274877906944):
 YG XW 344 #[.slice A n c,.slice B m d] w (V9 w (val a*val b)):=by
 have Ha:=Kv P;have Hb:=Kv ve;have HL:=Kv (And.intro P.len ve.len);clear P ve;obtain⟨N,uY⟩:∃N,N=n+m+1:=⟨_,rfl⟩
 have uT:=λW=>O4 W ((n:Int)+m+1) N J J
 have hNb:N<=549755813889:=J
 have HN:=Kv uY;clear uY;go_enter func344,ntmps344;go_wp2_with fail;go_loopw [6] (λi wr=>∃(k:Nat) (o:List Nat),k<=n/\i=I k/\o.length=N/\Ny o/\Hid (val o=lo a k*val b/\∀j,k+m<=j->dg o j=0)/\Mk wr w.heap.size 208 o/\Below w.heap.size w wr) (λi _=>n- (intOf i).toNat)
 case atStart=>exact⟨0,_,AH _,rfl,by simp,Ny.replicate _,⟨by rw[Z6,O5];omega,λj _=>Ua⟩,Mk.zero w N,(Below.refl _ _).alloc (AA _) _⟩
 case round=>
  obtain⟨k,o,hk,rfl,C,x,uZ,D,f⟩:=hrel;have Hol:=Kv C;clear C
  by_cases hlt:k<n
  .have t0:(k:Int)<(n:Int):=J
   have hx:=(U Ha).dig k;go_wp2_with fail;obtain⟨uW,rfl⟩:∃uW:YN,uW=wr:=⟨_,rfl⟩
   go_loopw [7,8] (λcy i wr=>∃(j y:Nat) (r:List Nat),j<=m/\i=I j/\cy= .int .u64 y/\y<4294967296/\r.length=N/\Ny r/\Hid (lo r (k+j)+y*pw (k+j)=lo o (k+j)+dg a k*lo b j*pw k/\∀t,k+j<=t->dg r t=dg o t)/\Mk wr w.heap.size 208 r/\Below w.heap.size w wr) (λ_ i _=>m- (intOf i).toNat)
   case atStart=>exact⟨0,0,o,AH _,rfl,rfl,by omega,U Hol,x,⟨by rw[O5];omega,λ_ _=>rfl⟩,D,f⟩
   case round=>
    obtain⟨j,y,r,hj,rfl,rfl,hy,vg,v,uS,g,h⟩:=hrel;have Hrl:=Kv vg;clear vg;obtain⟨t,p⟩:∃t,t=k+j:=⟨_,rfl⟩
    have htN:(t:Int)<(N:Int):=by have:=U HN;omega
    have tI:(k:Int)+(j:Int)=(t:Int):=J
    have tW:YA.wrap ((k:Int)+(j:Int))=(t:Int):=by rw[BS _ J];omega
    have L:=g.cell (i:=t) (by rw[U Hrl];omega);have uV:=g.frozen t;have hr2:=v t;have Ht:=Kv p;clear p
    by_cases uU:j<m
    .have t1:(j:Int)<(m:Int):=J
     obtain⟨ad,hA,hca⟩:=((U Ha).below h).at_ (k:=k) J;obtain⟨bd,hB,hcb⟩:=((U Hb).below h).at_ (k:=j) J;subst hA;subst hB;have vf:=(U Hb).dig j;have uR:=Am hx vf;obtain⟨uX,F⟩:∃uX,uX=dg a k*dg b j:=⟨_,rfl⟩
     rw[<-F]at uR;have f1:XZ.wrap (dg a k:Int)=(dg a k:Int):=by rw[Lg];omega
     have f2:XZ.wrap (dg b j:Int)=(dg b j:Int):=by rw[Lg];omega
     have f0:(dg a k:Int)*(dg b j:Int)=(uX:Int):=by rw[F];simp
     have f3:XZ.wrap ((dg a k:Int)*(dg b j:Int))=(uX:Int):=by rw[f0,Lg];omega
     have f4:XZ.wrap (dg r t:Int)=(dg r t:Int):=by rw[Lg];omega
     have f5:XZ.wrap ((uX:Int)+(dg r t:Int))=(uX:Int)+(dg r t:Int):=by rw[Lg];omega
     have f6:XZ.wrap ((uX:Int)+(dg r t:Int)+(y:Int))=(uX:Int)+(dg r t:Int)+(y:Int):=by rw[Lg];omega
     have HX:=Kv F;clear F;go_wp2_with fail;go_quiet (fail);go_wp2_with fail;obtain⟨s,T⟩:∃s,s=uX+dg r t+y:=⟨_,rfl⟩
     have G:(uX:Int)+(dg r t:Int)+(y:Int)=(s:Int):=by rw[T];simp
     rw[G];have l:=(g.drewN nq).set_ t (s%4294967296);rw[show((s%4294967296:Nat):Int)=(s:Int)%4294967296 by omega]at l;go_roundw
     case rel=>
      obtain⟨h1,Q⟩:=U uS;have p:=U Ht;refine⟨j+1,s/4294967296,_,by omega,by go_num,congrArg (BG .u64) J,by omega,by rw[AQ];exact U Hrl,v.set _ J,⟨?_,λq hq=> ?_⟩,l,(Mt h nq).setCell (AA _) _⟩
      .rw[p];refine VL (by rw[U Hrl,<-p];omega) (Q _ (AA _)) h1 ?_;rw[T,U HX,p];omega
      .rw[Rj,V J];exact Q q J
     case measure=>simp[intOf];omega
    .obtain rfl:j=m:=J
     go_wp2_with fail;have l:=g.set_ t y;go_roundw
     case rel=>
      have p:=U Ht;have hL:=U HL;have u:=dy (a:=a) (b:=b) (by rw[U Hrl,<-p];omega) rfl (by rw[Mz (AG hL.2)]) (U uZ).1 (U uZ).2 (U uS).2 (U uS).1;rw[<-p]at u;exact⟨k+1,_,by omega,by go_num,by rw[AQ];exact U Hrl,v.set _ hy,u,l,h.setCell (AA _) _⟩
     case measure=>simp[intOf];omega
  .obtain rfl:k=n:=J
   have S:=D.own x (AA _) (by rw[U Hol];unfold maxLen;omega);rw[U Hol]at S;go_wp2_with fail;refine(M4 _ S.toIn J).mono ?_;rintro e w' ⟨A2,n2,c2,rfl,K,hw⟩;go_wp2_with fail;go_ret;refine⟨A2,n2,c2,_,rfl,L8 x,?_,K.base f.size,f.trans (hw.mono f.size)⟩;rw[Ku,(U uZ).1,Mz (by rw[(U HL).1];exact AA _)]
theorem aP{o a:List Nat}{k h y x z c:Nat}(b:o.length=h+k)(g:val o+y*pw (h+k)=lo a k*c*pw h)(e:x+z*4294967296=dg a k*c+y):
 val (o++ [x])+z*pw (h+(k+1))=lo a (k+1)*c*pw h:=by
 rw[Vj b,<-Nat.add_assoc,Mr,Lq];have j:(x+z*4294967296)*pw (h+k)=(dg a k*c+y)*pw (h+k):=by rw[e]
 have f:=Sl h k;rw[f]at j g ⊢;generalize pw h=P at*;generalize pw k=uY at*
 grind
theorem lm{A:YY}{n c:Nat}{a:List Nat}(t:Nat)(w:YN)(S:In w A n c a)(hn:n<=274877906944)(ht:t<=65536):
 YG XW 366 #[.slice A n c,I t] w (V9 w (val a*2 ^ t)):=by
 have Ha:=Kv S;have HL:=Kv S.len;clear S;obtain⟨h,uW⟩:∃h,h=t/32:=⟨_,rfl⟩
 obtain⟨s,uT⟩:∃s,s=t%32:=⟨_,rfl⟩
 have r:s<32:=J
 have hh2:h<=2048:=J
 have e1:(t:Int)/32=(h:Int):=J
 have e2:(t:Int)%32=(s:Int):=J
 have hmk:=λW=>O4 W (h:Int) h rfl J
 obtain⟨C,K⟩:∃C,C=2 ^ s:=⟨_,rfl⟩
 have B:C<=2147483648:=by rw[K];exact Ia r
 have HT:=Kv (And.intro uW (And.intro uT K));clear uW uT;obtain⟨i0,F,uS,G,D⟩:=info_parts Tryz.info_u32;go_enter func366,ntmps366;go_wp2_with fail;go_loopw [5,6,7] (λso sy uR T=>∃(k y:Nat) (o:List Nat),k<=n/\uR=I k/\sy= .int .u64 y/\y<4294967296/\Hid (o.length=h+k/\Ny o/\val o+y*pw (h+k)=lo a k*C*pw h)/\T.ownsRow w.heap.size 208 1 so (h+k) (Pa o)/\Below w.heap.size w T) (λ_ _ uR _=>n- (intOf uR).toNat)
 case atStart=>exact⟨0,0,CG h 0,AH _,rfl,rfl,by omega,⟨by simp,Ny.replicate _,by rw[Z6,O5];omega⟩,BV _ (zs h) h (AA _) (by unfold maxLen;omega) (by simp[zs,Pa]),Ph _ _⟩
 case round=>
  obtain⟨k,y,o,hk,rfl,rfl,hy,Q,b,p⟩:=hrel;have hsz:=p.size;have L:=(U Ha).dig k
  by_cases uY:k<n
  .have t0:(k:Int)<(n:Int):=J
   obtain⟨ad,rfl,uZ⟩:=((U Ha).below p).at_ (k:=k) uY;obtain⟨uX,P⟩:∃uX,uX=dg a k*C:=⟨_,rfl⟩
   have hXb:uX<=9223372036854775808:=by
    have:dg a k*C<=4294967295*2147483648:=CV J B;omega
   have fw:XZ.wrap ((dg a k:Int)*2 ^ s)=(uX:Int):=by rw[QE L r,P,K]
   have HX:=Kv P;clear P;go_wp2_with (first
    |(at_builtin;refine wpList_append_own_at _ rfl (.tmp 29) (.tmp 32) 41 rfl w.heap.size 208 i0 (.int .u32 0) 1 4 underlying41 F uS G D rfl Zd _ _ _ (by rfl) (b.alloc _) ⟨wr.heap.size,0,none⟩ 1 1 [.int .u32 _] rfl rfl (cell_one_new _ _ _) (by intro u vg;simp at vg;subst vg;rfl) (by simp only[maxLen];omega) J Zp ?_;intro v' w2 f j _ m))
   have g:=Sw (x:=(uX+y)%4294967296) f J;have l:=Pe p b j;clear f j m b;go_wp2_with fail;go_roundw
   case rel=>
    obtain⟨v,ve,vf⟩:=U Q;exact⟨k+1,(uX+y)/4294967296,_,by omega,by go_num,congrArg (BG .u64) J,by omega,⟨by rw[AD,v];rfl,ve.append (Ny.one J),aP v vf (by rw[<-U HX];omega)⟩,g,l⟩
   case measure=>simp[intOf];omega
  .obtain rfl:k=n:=J
   go_wp2_with (first
    |(at_builtin;refine wpList_append_own_at _ rfl (.tmp 36) (.tmp 39) 41 rfl w.heap.size 208 i0 (.int .u32 0) 1 4 underlying41 F uS G D rfl Zd _ _ _ (by rfl) (b.alloc _) ⟨wr.heap.size,0,none⟩ 1 1 [.int .u32 _] rfl rfl (cell_one_new _ _ _) (by intro u vg;simp at vg;subst vg;rfl) (by simp only[maxLen];omega) J Zp ?_;intro v' w2 f j _ m))
   have g:=Sw (x:=y) f J;have l:=Pe p b j;clear f j m b;obtain⟨v,ve,vf⟩:=U Q;obtain⟨A1,c1,rfl,uU⟩:=tv g (ve.append (Ny.one J)) (by rw[AD,v];rfl);have uV:val (o++ [y])=val a*2 ^ t:=by
    obtain⟨g1,g2,g3⟩:=U HT;rw[Vj v,vf,Mz (by rw[U HL];omega),g3,g1,g2,<-FL]
   have HV:=Kv uV;clear uV v ve vf Q;go_wp2_with fail;refine(M4 _ uU.toIn J).mono ?_;rintro e w' ⟨A2,n2,c2,rfl,N,hw⟩;go_wp2_with fail;go_ret;exact⟨A2,n2,c2,_,rfl,L8 uU.dig,by rw[Ku];exact U HV,N.base (by have:=l.size;omega),l.trans (hw.mono l.size)⟩
theorem X_{A:YY}{n c:Nat}{a:List Nat}(w:YN)(v:In w A n c a)(L:n<=1099511627776):
 YG XW 221 #[.slice A n c] w λe u=>∃A' vg c' l,e= .returned (.tuple #[.slice A' vg c',.int .u64 ((val a%10:Nat):Int)])/\Na l/\val l=val a/10/\Qp u w.heap.size A' vg c' l/\Below w.heap.size w u:=by
 have G:=λW=>O4 W (n:Int) n rfl J
 have Hl:=Kv v.len;go_enter func221,ntmps221;go_wp2_with fail;go_loopw [5,6] (λre i wr=>∃(k r:Nat) (z:Int) (o:List Nat),k<=n/\z+1=k/\i=I z/\re= .int .u64 r/\r<10/\o.length=n/\Ny o/\Hid (val (o.drop k)*10+r=val (a.drop k))/\Mk wr w.heap.size 208 o/\Below w.heap.size w wr) (λ_ i _=>(intOf i+1).toNat)
 case atStart=>exact⟨n,0,(n:Int)-1,_,AA _,by omega,rfl,rfl,by omega,by simp,Ny.replicate _,(show val ((CG n 0).drop n)*10+0=val (a.drop n) by rw[Qz (l:=a) (by rw[U Hl];exact AA _),Qz Zs]),Mk.zero w n,(Below.refl _ _).alloc (AA _) _⟩
 case round=>
  obtain⟨k,r,z,o,uR,B,rfl,rfl,uS,h,g,D,f,b⟩:=hrel;have Hol:=Kv h;clear h
  by_cases p:k=0
  .subst p;obtain rfl:z= -1:=J
   clear B;have C:=f.own g (AA _) (by rw[U Hol];unfold maxLen;omega);rw[U Hol]at C;go_wp2_with fail;refine(M4 _ C.toIn J).mono ?_;rintro e u ⟨A2,n2,c2,rfl,s,ve⟩;go_wp2_with fail;go_ret2;obtain⟨x,y⟩:=Ca (U D) uS;simp only[BJ]at x y;subst y;exact⟨A2,n2,c2,_,rfl,L8 g,by rw[Ku];exact x,s.base b.size,b.trans (ve.mono b.size)⟩
  .obtain⟨j,rfl⟩:∃j,k=j+1:=⟨k-1,by omega⟩
   obtain rfl:z=(j:Int):=J
   clear B p;obtain⟨ad,K,vf⟩:=(v.below b).at_ (k:=j) J;have N:=v.dig j;have t:=f.cell (i:=j) (by rw[U Hol];omega);have F:=f.frozen j;subst K;go_wp2;have m:=f.set_ j ((r*4294967296+dg a j)/10);rw[show(((r*4294967296+dg a j)/10:Nat):Int)=((r:Int)*4294967296+dg a j)/10 by omega]at m;go_roundw
   case rel=>exact⟨j,(r*4294967296+dg a j)%10,(j:Int)-1,_,by omega,by omega,rfl,congrArg (BG .u64) J,by omega,by rw[AQ];exact U Hol,g.set _ J,JE (by rw[U Hl];omega) (by rw[U Hol];omega) (U D) rfl rfl,m,b.setCell (AA _) _⟩
   case measure=>simp[intOf]
theorem RF{b o:List Nat}{k c e d:Nat}(g:c*e=4294967296)(h:Ny b)(a:o.length=k)
 (j:val o+pw k*(dg b k/c)=lo b (k+1)/c) (l:d=(dg b (k+1)*4294967296+dg b k)/c%4294967296):
 val (o++ [d])+pw (k+1)*(dg b (k+1)/c)=lo b (k+1+1)/c:=by
 have f:=PQ (o:=o++ [0]) (k:=k) (d:=d) g h (by rw[AD,a];simp) (by rw[<-j];congr 1;rw[<-a,lo,List.take_left]) (by rw[l,CP]);rw[Qv (by rw[AD,a];simp),lo,<-a,List.take_left]at f;rw[Vj rfl,a]at*;exact f
theorem aw{A:YY}{n c:Nat}{a:List Nat}(s:Nat)(w:YN)(k:In w A n c a)(h:n<=274877906944)(u:s<=9223372036854775807):
 YG XW 358 #[.slice A n c,I s] w (V9 w (val a*2 ^ (min s 4096))):=by
 obtain⟨t,p,m,b⟩:∃t:Nat,t<=4096/\min (s:Int) 4096=(t:Int)/\min s 4096=t:=⟨min s 4096,by omega,by omega,rfl⟩
 rw[b];clear b;go_enter func358,ntmps358;go_wp2_with fail;refine(lm t w k h J).mono ?_;rintro e r ⟨A2,n2,c2,o,rfl,l,f,g,j⟩;go_wp2_with fail;go_ret;exact⟨A2,n2,c2,o,rfl,l,f,g,j⟩
theorem QG{A:YY}{n c:Nat}{a:List Nat}(s:Nat)(z:Int)(w:YN)(p:In w A n c a)(hn:n<=274877906944)(hs:(s:Int)<=9223372036854775808)(h0:0<s)(D:z= -(s:Int)):
 YG XW 358 #[.slice A n c,I z] w (V9 w (val a/2 ^ s)):=by
 have Ha:=Kv p;have zn1:z<0:=J
 by_cases v:32*n<s
 .have uZ:z< -32*(n:Int):=J
  have L:Hid (val a/2 ^ s=0):=by
   have B:=Mj p.dig (by rw[p.len];exact AA n);rw[V0]at B;have h2:2 ^ (32*n)<=2 ^ s:=BN J J;exact DO J
  clear D v;go_enter func358,ntmps358;go_wp2_with fail;go_ret;obtain⟨A1,c1,B,K⟩:=tv (Yu w) Ny.nil rfl;injection B with B h2 m;subst m;subst B;exact⟨_,_,_,[],rfl,Na.nil,by rw[U L];rfl,K,Ph _ _⟩
 .obtain⟨h,hh⟩:∃h,h=s/32:=⟨_,rfl⟩
  obtain⟨t,ht⟩:∃t,t=s%32:=⟨_,rfl⟩
  have uZ:¬z< -32*(n:Int):=J
  have e1:wrap64 (-(z.tdiv 32))=(h:Int):=by
   rw[D,Int.neg_tdiv,Int.neg_neg,Int.tdiv_eq_ediv_of_nonneg J,IntWalk.wrap64_in _ ⟨by omega,by omega⟩];omega
  have e2: -(z.tmod 32)=(t:Int):=by
   rw[D,Int.neg_tmod,Int.neg_neg,Int.tmod_eq_emod_of_nonneg J];omega
  have htb:t<32:=J
  have Q:h<=n:=J
  have hsb:s<=8796093022208:=J
  have Hz:=Kv D;have Hh:=Kv hh;have Ht:=Kv ht;obtain⟨b,C⟩:∃b,b=a.drop h:=⟨_,rfl⟩
  have y:∀i,dg b i=dg a (h+i):=λi=>by rw[C,Sa]
  have vg:b.length=n-h:=by rw[C,CQ,p.len]
  have W:Ny b:=by rw[C];exact p.dig.drop h
  have uS:val b=val a/pw h:=by rw[C,I7 _ _ p.dig]
  have HB:=Kv (And.intro y (And.intro vg uS));clear y vg uS C D hh ht v p;obtain⟨i0,S,uX,uU,P⟩:=info_parts Tryz.info_u32;go_enter func358,ntmps358;go_wp2_with fail;go_loopw [5,6] (λso uY wx=>∃(k i:Nat) (o:List Nat),i<=n/\k<=i/\uY=I i/\Hid (i=h+k)/\Hid (o.length=k/\Ny o/\val o+pw k*(dg b k/2 ^ t)=lo b (k+1)/2 ^ t)/\wx.ownsRow w.heap.size 208 1 so k (Pa o)/\Below w.heap.size w wx) (λ_ uY _=>n- (intOf uY).toNat)
  case atStart=>exact⟨0,h,[],Q,AH _,rfl,rfl,⟨rfl,Ny.nil,by rw[Lq,O5,It];simp[val]⟩,Yu _,Ph _ _⟩
  case round=>
   obtain⟨k,i,o,hin,hki,rfl,l,uW,f,g⟩:=hrel;have hsz:=g.size
   by_cases hlt:i<n
   .have t0:(i:Int)<(n:Int):=J
    have hx:=(U Ha).dig i;have hy:=(U Ha).dig (i+1);go_wp2_with fail;refine(Pi _ _ ((U Ha).below g) J).mono ?_;rintro e w' ⟨rfl,rfl⟩;rw[show((i:Int)+1).toNat=i+1 by omega];go_wp2_with fail;refine(Pi _ _ ((U Ha).below g) J).mono ?_;rintro e w' ⟨rfl,rfl⟩;rw[AL];go_wp2_with (first
     |(at_builtin;refine wpList_append_own_at _ rfl (.tmp 39) (.tmp 47) 41 rfl w.heap.size 208 i0 (.int .u32 0) 1 4 underlying41 S uX uU P rfl Zd _ _ _ (by rfl) (f.alloc _) ⟨wr.heap.size,0,none⟩ 1 1 [.int .u32 _] rfl rfl (cell_one_new _ _ _) (by intro u uT;simp at uT;subst uT;rfl) (by simp only[maxLen];omega) J Zp ?_;intro v' w2 j F _ vf))
    have r:=Sw (x:=(dg a (i+1)*4294967296+dg a i)/2 ^ t%4294967296) j (by rw[Int.natCast_emod,DP,Int.natCast_pow];rfl);have uV:=Pe g f F;clear j F vf f;go_wp2_with fail;go_roundw
    case rel=>
     obtain⟨m,N,uR⟩:=U uW;have G:=U HB;have q1:dg a i=dg b k:=by rw[G.1,<-U l]
     have q2:dg a (i+1)=dg b (k+1):=by rw[G.1,U l];rfl
     refine⟨k+1,i+1,_,by omega,by omega,by go_num,by have:=U l;show _=_;omega,⟨by rw[AD,m];rfl,N.append (Ny.one (BA _ J)),RF (Zw J) W m uR (by rw[q1,q2])⟩,r,uV⟩
    case measure=>simp[intOf];omega
   .obtain rfl:i=n:=J
    obtain⟨m,N,uR⟩:=U uW;obtain⟨A1,c1,rfl,K⟩:=tv f N m;have L:val o=val a/2 ^ s:=by
     have G:=U HB;have ve:k=b.length:=by have:=U l;rw[G.2.1];omega
     rw[UK (b:=b) (m.trans ve) (by rw[<-ve,<-uR,lo,AR J]),G.2.2,U Hh,U Ht,<-NV]
    have HV:=Kv L;clear L m N uR uW;go_wp2_with fail;refine(M4 _ K.toIn J).mono ?_;rintro e w' ⟨A2,n2,c2,rfl,T,hw⟩;go_wp2_with fail;go_ret;exact⟨A2,n2,c2,_,rfl,L8 K.dig,by rw[Ku];exact U HV,T.base g.size,g.trans (hw.mono g.size)⟩
theorem Gw{A:YY}{n c:Nat}{a:List Nat}(z:Int)(w:YN)(b:In w A n c a)(e:n<=274877906944)(f: -9223372036854775808<=z)(g:z<=9223372036854775807):
 YG XW 358 #[.slice A n c,I z] w (V9 w (De (val a) z)):=by
 unfold De
 by_cases h:0<=z
 .obtain⟨s,rfl⟩:=BU h;rw[YS h,AL];exact aw s w b e J
 .rw[V h];exact QG (-z).toNat z w b e J J J
theorem uC(w:YN)(l:List Nat)(vs:Array YM)(h:vs=(Pa l).toArray):Mk (w.alloc (.cells vs 208)) w.heap.size 208 l:=by
 subst h;exact Ck.new w 208 _
theorem kN(w:YN)(l:List Nat)(n:Nat)(vs:Array YM)(h:vs=(Pa l).toArray)(b:Ny l)(a:l.length=n)(c:n<=100):
 In (w.alloc (.cells vs 208)) (some ⟨w.heap.size,0,none⟩) n n l:=by
 subst a;exact((uC w l vs h).own (B:=0) b (AH _) (by unfold maxLen;omega)).toIn
theorem Wm{a b i j k:Nat}(e:a<pw i)(g:b<pw j)(hi:i+1<=k)(c:j+1<=k):a+b<pw k:=by
 obtain⟨m,rfl⟩:∃m,k=m+1:=⟨k-1,by omega⟩
 have f:=G3 (show i<=m by omega);have h:=G3 (show j<=m by omega);rw[Mr];omega
theorem fP{a b i j k:Nat}(f:a<pw i)(g:b<pw j)(e:i+j<=k):a*b<pw k:=by
 have c:a*b<pw i*pw j:=Nat.mul_lt_mul'' f g;rw[<-Sl]at c;exact AN c (G3 e)
theorem PI(k:Nat):pw k<=10 ^ (10*k):=by
 rw[V0,Nat.pow_mul,Nat.pow_mul];exact Nat.pow_le_pow_left J k
theorem fA(k:Nat):10 ^ (8*k)<=pw k:=by
 rw[V0,Nat.pow_mul,Nat.pow_mul];exact Nat.pow_le_pow_left J k
theorem KX{n k:Nat}(a:1<=k)(h:n<10 ^ k):(Pr n).length<=k:=by
 unfold Pr;split
 .exact a
 .rw[BP];exact FN h
theorem mZ{l:R}(h:Fp l):T3 l<10 ^ l.length:=by
 induction l with
 |nil=>exact Nat.one_pos
 |cons b t a=>
  have e:=a (λx c=>h x (CZ _ c));have f:=h b (CJ ..);rw[show T3 (b::t)=(b.toNat-48)+10*T3 t from rfl,BF,DX];omega
theorem UU{n k:Nat}(a:1<=k)(h:n<pw k):(Pr n).length<=10*k:=
 KX J (AN h (PI k))
theorem po{l:R}{K:Nat}(h:Fp l)(e:l.length<=K):gx l<10 ^ K:=by
 have a:T3 l.reverse<10 ^ l.reverse.length:=mZ (λb c=>h b (List.mem_reverse.1 c));rw[BP]at a;exact AN a (BN J e)
theorem pQ{l:R}{k:Nat}(h:Fp l)(a:l.length<=8*k):gx l<pw k:=AN (po h a) (fA k)
theorem Po(w:YN):Qp (w.alloc (.cells #[] 208)) w.heap.size (some ⟨w.heap.size,0,none⟩) 0 0 []:=by
 obtain⟨A1,c,a,b⟩:=tv (Yu w) Ny.nil rfl;injection a with a h2 h3;subst h3;subst a;exact b
theorem ah{A B:YY}{n c m d:Nat}{r b:List Nat}(w:YN)(vg:In w A n c r)(L:In w B (m+1) d b)(hn:n<=m+2)(hm:m<=137438953472)(h0:0<dg b m)(s:val r<4294967296*val b):
 YG XW 359 #[.slice A n c,.slice B (m+1) d] w λe w'=>∃A' n' c' l,e= .returned (.tuple #[.int .u64 ((val r/val b:Nat):Int),.slice A' n' c'])/\Na l/\val l=val r%val b/\Qp w' w.heap.size A' n' c' l/\Below w.heap.size w w':=by
 have Hr:=Kv vg;have Hb:=Kv L;have x0:=vg.dig (m+1);have x1:=vg.dig m;obtain⟨bd,hB,hcb⟩:=L.at_ (k:=m) J;have hv:=L.dig m;obtain⟨a,j⟩:∃a,a=dg r (m+1)*4294967296+dg r m:=⟨_,rfl⟩
 have ht64:(a:Int)<=18446744073709551615:=J
 have eU:val r=a*pw m+lo r m:=by
  rw[<-Mz (l:=r) (k:=m+2) (by rw[vg.len];exact hn),Lq,Lq,j,Mr];grind
 have eV:val b=dg b m*pw m+lo b m:=by
  rw[<-Mz (l:=b) (k:=m+1) (by rw[L.len];exact AA _),Lq];omega
 have o:=d_ (bp eU eV (J4 vg.dig m) h0) s;subst hB;clear vg L eU eV;have F:=Kv (And.intro o j);clear o;have e1:(dg r (m+1):Int)*4294967296+(dg r m:Int)=(a:Int):=J
 clear j;go_enter func359,ntmps359;go_wp2_with fail;have f1:YA.wrap ((m:Int)+1-1)=(m:Int):=by rw[BS _ J];omega
 have f2:XZ.wrap ((dg r (m+1):Int)*4294967296)=(dg r (m+1):Int)*4294967296:=by rw[Lg];omega
 have f3:XZ.wrap (a:Int)=(a:Int):=by rw[Lg];omega
 have f4:XZ.wrap (dg b m:Int)=(dg b m:Int):=by rw[Lg];omega
 have f5:((m:Int)+1).toNat=m+1:=J
 obtain⟨ve,y⟩:∃ve,ve=a/dg b m:=⟨_,rfl⟩
 have f6:XZ.wrap ((a:Int)/(dg b m:Int))=(ve:Int):=by
  rw[<-DP,<-y,Lg];have:=AY a (dg b m);omega
 obtain⟨t,uZ⟩:∃t,t=min ve 4294967295:=⟨_,rfl⟩
 have f7:min (ve:Int) 4294967295=(t:Int):=J
 have v:t<4294967296:=J
 have G:Hid (val r<(t+1)*val b):=by show _<_;rw[uZ,y];exact(U F).1
 clear uZ y;go_quiet ((go_at_call 337;exact Calls.quiet_of_same ((Pi _ _ ((U Hr).drewN _) J).mono λ_ _ h=>⟨h.1,h.2.symm⟩)));go_wp2_with fail;refine(MD t _ ((U Hb).drewN _) J v).mono ?_;rintro e w1 ⟨Ap,uV,cp,lp,rfl,Np,vp,op,hw⟩;have uR:0<val b:=by
  rcases AM (val b)with e|e
  .rw[e]at s;omega
  .exact e
 have HP:=Kv (And.intro uR s);have hw0:Below w.heap.size w w1:=(Mt (Below.refl _ _) _).trans (hw.mono (AA _));have uT:Qp w1 w.heap.size Ap uV cp lp:=op;have N:val b<pw (m+1):=Mj (U Hb).dig (AG (U Hb).len);have T:uV<=m+2:=by
  have uS:=Np.length_le (k:=m+2) (by
   rw[vp,Mr (m+1)];exact Nat.mul_lt_mul_of_lt_of_le N J J)
  have:=op.len;omega
 have VP:Hid (val lp=t*val b/\val r<(t+1)*val b):=⟨by rw[vp,BR],U G⟩
 clear uR s hw op N vp;go_wp2_with fail;go_loopw [8,9] (λsd sp wx=>∃(k p q:Nat) (uX:YY) (x:List Nat),sd= .int .u64 k/\sp= .slice uX p q/\k<4294967296/\p<=m+2/\Hid (val x=k*val b/\val r<(k+1)*val b)/\Na x/\Qp wx w.heap.size uX p q x/\Below w.heap.size w wx) (λsd _ _=>(intOf sd).toNat)
 case atStart=>exact⟨t,uV,cp,Ap,lp,rfl,rfl,v,T,VP,Np,uT,hw0⟩
 case round=>
  obtain⟨k,p,q,uX,x,rfl,rfl,hk,hp,P,Nx,ox,D⟩:=hrel;go_wp2_with fail;refine(Mo _ ox.toIn ((U Hr).below D)).mono ?_;rintro e w2 ⟨rfl,hq⟩;have u:Qp w2 w.heap.size uX p q x:=by
   obtain⟨q',rfl⟩:=hq;exact ox.drewN q'
  have f:Below w.heap.size w w2:=D.trans (hq.below _);clear ox D hq
  by_cases g:val r<val x
  .rw[HH g];have hk1:(1:Int)<=(k:Int):=by
    rcases AM k with e|e
    .have uS:=(U P).1;rw[e,CO]at uS;omega
    .omega
   have HG:=Kv g;clear g;go_wp2_with fail;refine(IA _ u.toIn ((U Hb).below f) J).mono ?_;rintro e w3 ⟨A3,uY,c3,Q,rfl,N3,vf,S,C⟩;have hn3:uY<=m+2:=by
    have uS:=N3.length_le (k:=m+2) (by
     rw[vf];exact AK (Nat.sub_le _ _) (Mj u.dig (AI (AG u.len) hp)))
    have:=S.len;omega
   have V3:Hid (val Q=(k-1)*val b/\val r<(k-1+1)*val b):=by
    obtain⟨uS,h2⟩:=U P;have h3:=U HG;have h4:k-1+1=k:=J
    refine⟨?_,?_⟩
    .rw[vf,uS,Nat.sub_mul,Nat.one_mul]
    .rw[h4,<-uS];exact h3
   clear vf;go_wp2_with fail;go_roundw
   case rel=>exact⟨k-1,uY,c3,A3,Q,congrArg (BG .u64) J,rfl,by omega,hn3,V3,N3,S.base f.size,f.trans (C.mono f.size)⟩
   case measure=>simp[intOf];omega
  .have K:¬(0<Vr (val x) (val r)):=by
    unfold Vr;split
    .omega
    .split<;>omega
   obtain⟨z,W⟩:∃z,z=Vr (val x) (val r):=⟨_,rfl⟩
   rw[<-W]at K;rw[<-W];have HG:=Kv g;clear g W;go_wp2_with fail;refine(IA _ ((U Hr).below f) u.toIn J).mono ?_;rintro e w3 ⟨A3,uY,c3,Q,rfl,N3,vf,S,C⟩;have hE:=fB (uW:=val r) (uU:=val b) (d:=k) (by rw[<-(U P).1];have:=U HG;omega) (U P).2;have V3:Hid (val Q=val r%val b):=by
    show _=_;rw[vf,(U P).1];exact hE.2
   have VK:Hid (k=val r/val b):=hE.1;clear vf hE;go_wp2_with fail;go_ret2;exact⟨A3,uY,c3,Q,by rw[<-U VK];rfl,N3,U V3,S.base f.size,f.trans (C.mono f.size)⟩
theorem hC{w:YN}{B k x:Nat}{v:YM}{d:Nat}{l:List Nat}{uX:Int}(h:w.ownsRow B 208 1 v (k+1+1) (Pa (d::l)++ [.int .u32 uX]))(a:uX=(x:Int)):w.ownsRow B 208 1 v (k+1+1) (Pa (d::(l++ [x]))):=by
 rw[<-List.cons_append];exact Sw h a
theorem EZ{A B:YY}{n c m d:Nat}{a b:List Nat}(w:YN)(ha:In w A n c a)(hb:In w B m d b)(hn:n<=17179869184)(hm:m<=17179869184):
 YG XW 351 #[.slice A n c,.slice B m d] w (Fq w (val a) (val b)):=by
 have hla:=Mj ha.dig (AG ha.len);go_enter func351,ntmps351;go_wp2_with fail;refine(M4 w hb J).mono ?_;rintro e w1 ⟨At,nt,ct,rfl,ot,t⟩;have Nt:=L8 hb.dig;have vt:=Ku b;have uY:=ot.toIn.len;have ht:(trim b).length<=m:=by have:=Og b;have:=hb.len;omega
 obtain⟨l,uU⟩:∃l,l=trim b:=⟨_,rfl⟩
 rw[<-uU]at ot Nt vt uY ht;have hnt:nt<=m:=J
 have it:=ot.toIn;have T:=ha.below t;have g:=t;clear uU ht ot t ha hb
 by_cases h0:nt=0
 .subst h0;have hv:val b=0:=by rw[<-vt,AB.1 uY];rfl
  have HV:=Kv hv;clear uY hv vt;go_wp2_with fail;go_ret3;have hv:=U HV;exact⟨none,0,0,[],none,0,0,[],by rw[hv];rfl,Na.nil,by rw[hv,Nat.div_zero];rfl,Na.nil,by rw[hv];rfl,tw,tw,g⟩
 .obtain⟨p,rfl⟩:∃p,nt=p+1:=⟨nt-1,by omega⟩
  have hd0:dg l p≠0:=by
   rcases Nt.2 with e|e
   .rw[e]at uY;simp at uY
   .rw[uY]at e;exact e
  have htb:=KH Nt.dig uY hd0;have uV:=KM Nt.dig uY hd0;have hl32:=Z3 (Nt.dig p);obtain⟨s,hs⟩:∃s,s=32-BI (dg l p):=⟨_,rfl⟩
  rw[<-hs]at uV;have hsi:32*((p:Int)+1)- (B_ (val l):Int)=(s:Int):=J
  have hs32:s<=32:=J
  have t0:((p:Int)+1==0)=false:=by simp;omega
  have hvb:0<val b:=by
   have C:=Z9 (l.length-1);have h2:=Nt.pos (by rintro rfl;simp at uY);omega
  rw[vt]at uV hsi;have F:=Kv (And.intro uV (And.intro vt hvb));clear uY hd0 htb uV hs h0 vt hvb;go_wp2_with fail;refine(E_ _ it J).mono ?_;rintro e w2 ⟨rfl,t⟩;rw[(U F).2.1];replace T:=T.below t;replace it:=it.below t;replace g:=g.trans (t.mono g.size);clear t;go_wp2_with fail;refine(Gw s _ T J J J).mono ?_;rintro e w3 ⟨Au,ve,cu,u,rfl,Nu,vu,ou,t⟩;replace it:=it.below t;replace g:=g.trans (t.mono g.size);have iu:=ou.toIn;clear t T ou;go_wp2_with fail;refine(Gw s _ it J J J).mono ?_;rintro e uW ⟨Av,nv,cv,v,rfl,Nv,vv,ov,t⟩;replace iu:=iu.below t;replace g:=g.trans (t.mono g.size);have iv:=ov.toIn;have hvu:val u=val a*2 ^ s:=by
   rw[vu,De,YS J];congr 2;omega
  have D:val v=val b*2 ^ s:=by
   rw[vv,De,YS J,(U F).2.1];congr 2;omega
  have hnv:nv=p+1:=by
   obtain⟨⟨C,h2⟩,_⟩:=U F;have vf:=Nv.length_le (k:=p+1) (by rw[D];exact h2);have S:=RX (k:=p) Nv.dig (by rw[D];have:=Z9 p;omega);rw[iv.len]at vf S;omega
  have hnu:ve<=n+2:=by
   have vf:=Nu.length_le (k:=n+2) (by
    rw[hvu];have S:2 ^ s<=2 ^ 32:=BN J hs32;have h5:val a*2 ^ s<pw n*4294967296:=Nat.mul_lt_mul_of_lt_of_le hla S J;rw[<-Mr]at h5;exact AN h5 (G3 J))
   rw[iu.len]at vf;exact vf
  subst hnv;have htop:0<dg v p:=by
   have:=N_ Nv.dig iv.len (by rw[D];exact(U F).1.1);omega
  have G:=Kv (And.intro hvu (And.intro D (And.intro iu.len (U F).2.2)));have uZ:0<val v:=by rw[D];exact Nat.mul_pos (U F).2.2 (T5 s)
  have HVP:=Kv uZ;clear hvu D vu vv t ov it F uZ hla;have hmk:=λW=>O4 W (ve:Int) ve rfl J
  obtain⟨i0,hi0,hz0,hz1,hz2⟩:=info_parts Tryz.info_u32;go_wp2_with fail;go_loopw [12,13] (λsr si wx=>∃(k X2 X3:Nat) (z:Int) (o x:List Nat) (uX:YY),k<=ve/\z+1=k/\si=I z/\sr= .slice uX X2 X3/\Hid (o.length=ve/\Ny o/\val (o.drop k)*val v+val x=val (u.drop k)/\val x<val v)/\X2<=p+1/\Na x/\Qp wx (uW.heap.size+1) uX X2 X3 x/\Mk wx uW.heap.size 208 o/\Below uW.heap.size uW wx) (λ_ si _=>(intOf si+1).toNat)
  case atStart=>
   refine⟨ve,0,0,(ve:Int)-1,_,[],_,AA _,by omega,rfl,rfl,⟨by simp,Ny.replicate ve,?_,?_⟩,AH _,Na.nil,?_,(Mk.zero uW ve).alloc _,((Below.refl _ _).alloc (AA _) _).alloc Zs _⟩
   .rw[Qz (l:=u) (by rw[(U G).2.2.1];exact AA _),Qz Zs,CO];rfl
   .exact U HVP
   .have:=Po (uW.alloc (.cells (zs ve) 208));simpa using this
  case round=>
   obtain⟨k,X2,X3,z,o,x,uX,hk,hz,rfl,rfl,hI,hX2,Nx,ox,hmo,P⟩:=hrel;obtain⟨y,rfl⟩:∃y:YN,y=wr:=⟨_,rfl⟩
   have uT:=P.size;have hlo:=hmo.lt
   by_cases hk0:k=0
   .subst hk0;obtain rfl:z= -1:=J
    clear hz;obtain⟨C,h2,vf,S⟩:=U hI;have ho:=hmo.own h2 (AA _) (by rw[C];unfold maxLen;omega);rw[C]at ho;obtain⟨g1,g2,g3,g4⟩:=U G;have ix:=ox.toIn;have hq:=Ca vf S;simp only[BJ]at hq;rw[g1,g2,Nat.mul_div_mul_right _ _ (T5 s),Nat.mul_mod_mul_right]at hq;have HQ:=Kv (And.intro hq g4);clear C vf S g1 g2 g3 hq g4;go_wp2_with fail;refine(M4 _ ho.toIn J).mono ?_;rintro e w5 ⟨A5,n5,c5,rfl,o5,hw5⟩;go_wp2_with fail;refine(Gw (-(s:Int)) _ (ix.below hw5) J J J).mono ?_;rintro e w6 ⟨A6,n6,c6,l6,rfl,N6,v6,o6,K⟩;go_wp2_with fail;go_ret3;obtain⟨⟨q1,q2⟩,g4⟩:=U HQ;have hb4:=g.trans (P.mono g.size);have h:=hb4.trans (hw5.mono hb4.size);refine⟨A5,n5,c5,trim o,A6,n6,c6,l6,by rw[Ee J];rfl,L8 h2,by rw[Ku];exact q1,N6,?_,(o5.below K).base hb4.size,o6.base h.size,h.trans (K.mono h.size)⟩;rw[v6,JI,Xy J,q2,Nat.mul_div_cancel _ (T5 s)]
   .obtain⟨j,rfl⟩:∃j,k=j+1:=⟨k-1,by omega⟩
    obtain rfl:z=(j:Int):=J
    clear hz hk0;obtain⟨ad,hA,hca⟩:=(iu.below P).at_ (k:=j) J;have hx:=iu.dig j;subst hA;have hjn:(j:Int)<(ve:Int):=J
    have hcn:ve<=cu:=iu.le;go_wp2_with fail;have Q:(y.alloc (.cells #[.int .u32 (dg u j:Int)] 208)).ownsRow y.heap.size 208 1 (.slice (some ⟨y.heap.size,0,none⟩) 1 1) 1 (Pa (dg u j::x.take 0)):=BV _ _ _ (AA _) (by unfold maxLen;omega) rfl;have hX3:=ox.le;have hX3':=ox.cap;unfold maxLen at hX3';have ix:=ox.toIn;go_loopw [14,15] (λso si wx=>∃i:Nat,i<=X2/\si=I i/\wx.ownsRow y.heap.size 208 1 so (i+1) (Pa (dg u j::x.take i))/\Below y.heap.size y wx) (λ_ si _=>X2- (intOf si).toNat)
    case atStart=>exact⟨0,AH _,rfl,Q,Ph _ _⟩
    case round=>
     obtain⟨i,hi,rfl,f,uS⟩:=hrel;have hszi:=uS.size
     by_cases uU:i<X2
     .obtain⟨ax,hAx,hcx⟩:=(ix.below uS).at_ (k:=i) uU;have hix:(i:Int)<(X2:Int):=J
      subst hAx;clear Q;go_wp2_with (first
       |(at_builtin;refine wpList_append_own_at _ rfl (.tmp 57) (.tmp 62) 41 rfl y.heap.size 208 i0 (.int .u32 0) 1 4 underlying41 hi0 hz0 hz1 hz2 rfl Zd _ _ _ (by rfl) (f.alloc _) ⟨wr.heap.size,0,none⟩ 1 1 [.int .u32 _] rfl rfl (cell_one_new _ _ _) (by intro u hu;simp at hu;subst hu;rfl) (by simp only[maxLen];omega) J Zp ?_;intro v' w2 uR hg2 _ hat2))
      have hown3:=hC (x:=dg x i) uR rfl;have hb2:Below y.heap.size y w2:=(uS.alloc uS.size _).grown hg2 (by have:=uS.size;simp;omega) (λk hk=>(f.lt k hk).1);clear uR hg2 hat2 f;go_wp2_with fail;go_roundw
      case rel=>
       refine⟨i+1,by omega,by go_num,?_,hb2⟩;rw[List.take_succ_eq_append_getElem (by rw[ix.len];omega),<-NP];exact hown3
      case measure=>simp[intOf];omega
     .obtain rfl:i=X2:=J
      have hix:¬(i:Int)<(i:Int):=J
      rw[AR (AG ix.len)]at f;obtain⟨A5,c5,rfl,o5⟩:=tv f (Ny.cons hx Nx.dig) (by rw[BF,ix.len]);clear Q f;go_wp2_with fail;refine(M4 _ o5.toIn J).mono ?_;rintro e w5 ⟨A6,n6,c6,rfl,o6,K⟩;have N6:=L8 o5.dig;have v6:val (trim (dg u j::x))=dg u j+4294967296*val x:=by rw[Ku,Vk]
      have hn6:n6<=p+2:=by
       have C:=Og (dg u j::x);rw[o6.len,BF,ix.len]at C;omega
      obtain⟨l6,hl6⟩:∃l6,l6=trim (dg u j::x):=⟨_,rfl⟩
      rw[<-hl6]at N6 v6 o6;have h:Below y.heap.size y w5:=uS.trans (K.mono hszi);have hb5':Below uW.heap.size uW w5:=P.trans (h.mono uT);have N:val l6<4294967296*val v:=by
       have:=(U hI).2.2.2;omega
      have V6:=Kv v6;clear hl6 v6 o5 K;go_wp2_with fail;refine(ah _ o6.toIn (iv.below hb5') hn6 J htop N).mono ?_;rintro e w6 ⟨A7,n7,c7,l7,rfl,N7,v7,o7,hw7⟩;obtain⟨dd,vg⟩:∃dd,dd=val l6/val v:=⟨_,rfl⟩
      rw[<-vg];have hb6:Below y.heap.size y w6:=h.trans (hw7.mono h.size);have hdd32:dd<4294967296:=by
       rw[vg];exact(Nat.div_lt_iff_lt_mul (U HVP)).2 N
      have DD:=Kv (And.intro vg v7);clear vg v7 N;have L:=hmo.below hb6 hlo;obtain⟨C,h2,vf,S⟩:=U hI;have hcq:=L.cell (i:=j) (by rw[C];omega);have hfq:=L.frozen j;have H1:=Kv (And.intro C (And.intro vf S));clear C vf S;go_wp2_with fail;have hst:=L.set_ j dd;go_roundw
      case rel=>
       obtain⟨C,vf,S⟩:=U H1;obtain⟨vg,v7⟩:=U DD;refine⟨j,n7,c7,(j:Int)-1,_,l7,A7,by omega,by omega,rfl,rfl,⟨by rw[AQ];exact C,h2.set _ hdd32,?_,?_⟩,?_,N7,?_,hst,(P.trans (hb6.mono uT)).setCell (AA _) _⟩
       .refine JE (r:=val x) (d:=val v) (by rw[(U G).2.2.1];omega) (by rw[C];omega) vf ?_ ?_
        .rw[vg,U V6,CP,BR]
        .rw[v7,U V6,CP,BR]
       .rw[v7];exact BA _ (U HVP)
       .have h5:=N7.length_le (k:=p+1) (by
         rw[v7];exact AZ (BA _ (U HVP)) (Mj iv.dig (AG iv.len)))
        rw[o7.len]at h5;exact h5
       .refine(o7.base (B':=uW.heap.size+1) (by have:=h.size;omega)).mid (by simp[World.setCell]) (λk hk1 hk2=>Below.heap_setCell _ _ _ _ Zp)
      case measure=>simp[intOf]
theorem h_{A B:YY}{n c m d:Nat}{a b:List Nat}(w:YN)(Q:In w A n c a)(L:In w B m d b)(hn:n<=17179869184)(hm:m<=17179869184):
 YG XW 321 #[.slice A n c,.slice B m d] w (V9 w (AU (val a) (val b))):=by
 have N:=Og a;have uR:=Og b;rw[Q.len]at N;rw[L.len]at uR;have na:=L8 Q.dig;have nb:=L8 L.dig;have va:Hid (val (trim a)=val a):=Ku a;have vb:Hid (val (trim b)=val b):=Ku b;go_enter func321,ntmps321;go_wp2_with fail;refine(M4 w Q J).mono ?_;rintro e w1 ⟨A1,n1,c1,rfl,v,l⟩;go_wp2_with fail;refine(M4 w1 (L.below l) J).mono ?_;rintro e w2 ⟨A2,n2,c2,rfl,t,G⟩;go_wp2_with fail;have hn1:=v.len;have hn2:=t.len;go_loopg [5,6] (val b) (λgk sa sb ve=>∃(uX uV:YY) (p r q s:Nat) (x y:List Nat),sa= .slice uX p r/\sb= .slice uV q s/\Hid (val y=gk)/\Qp ve w.heap.size uX p r x/\Qp ve w.heap.size uV q s y/\Na x/\Na y/\p<=17179869184/\q<=17179869184/\
  Hid (AU (val x) (val y)=AU (val a) (val b))/\Below w.heap.size w ve)
 case atStart=>
  exact⟨A1,A2,n1,c1,n2,c2,trim a,trim b,rfl,rfl,Ku b,v.below G,t.base l.size,na,nb,by omega,by omega,(by show _=_;rw[Ku,Ku]),l.trans (G.mono l.size)⟩
 case round=>
  obtain⟨uX,uV,p,r,q,s,x,y,rfl,rfl,hk,D,f,nx,uU,uT,uW,T,o⟩:=hrel;have hqi:=f.toIn.lenI
  by_cases uZ:q=0
  .have g:y=[]:=AB.1 (by rw[f.len];exact uZ);have K:Hid (val x=AU (val a) (val b)):=by
    have:=U T;rw[g,Tv,Nat.gcd_zero_right]at this;exact this
   subst uZ;clear g;go_wp2_with fail;go_ret;exact⟨uX,p,r,x,rfl,nx,U K,D,o⟩
  .have g:val y≠0:=by
    intro h;have uY:=uU.zero h;have S:=f.len;rw[uY]at S;simp only[AW]at S;omega
   have hqp:0<q:=J
   clear uZ;go_wp2_with fail;refine(EZ wr D.toIn f.toIn uT uW).mono ?_;rintro e w3 ⟨A3,n3,c3,l3,A4,W,c4,vf,rfl,hN3,uS,vg,k,ho3,u,C⟩;rw[Xy g]at k;have j:val vf<val y:=by rw[k];exact BA _ J
   have P:W<=17179869184:=by
    have uY:=vg.length_le (AZ j (Jz f.dig));have:=u.len;have:=f.len;omega
   have F:=Kv (And.intro uS (And.intro k (And.intro j g)));clear uS k j g;go_wp2_with fail;go_roundg (val vf)
   case measure=>have:=U hk;have:=(U F).2.2.1;omega
   case rel=>
    refine⟨uV,A4,q,s,W,c4,y,vf,rfl,rfl,rfl,f.below C,u.base o.size,uU,vg,uW,P,?_,o.trans (C.mono o.size)⟩;show _=_;rw[(U F).2.1,<-U T,BM (val x),Nat.gcd_rec (val y) (val x),BM]
theorem Xk(w:YN)(o:Obj):Below w.heap.size w (w.alloc o):=(Below.refl _ _).alloc (AA _) _
theorem La{a b:YN}{q:YB}{v:YM}(c:Below a.heap.size a b)(h:a.cell? q=some v):b.cell? q=some v:=(c.cell (World.block_lt_of_cell? a q h)).trans h
def Kw(t:YH)(n:Nat)(a:Array (Nat×YM)):Sem Next:=Instr.buildSlice t n a >>= λv=>pure (.value v)
def Kd(n:Nat)(g:Nat):YM:= .slice (some ⟨g,0,none⟩) n n
def Kr(elem:YH)(cells:Array YM)(g:Nat)(w:YN):Prop:=w.heap[g]? =some (.cells cells elem (0,0))
def FW(P:YK)(t:YH)(len:Nat)(a:Array (Nat×YM)):Option (YH×Array YM):=
 match P.underlying t with
 | some (.slice elem)=>match Ot P elem,Bp P elem with
  | some n,some z=>if EA (len*n) 0 then(match Instr.fill (λi=>some (i*n,n)) ((Array.range (len*n)).map ((#[]:Array YM)[· %(#[]:Array YM).size]!)) a.toList with
   |some cells=>some (elem,cells)
   |none=>none)
   else if Nat.ble (len*n) 16777216 then(match Instr.fill (λi=>some (i*n,n)) ((Array.range (len*n)).map (z.cells[· %z.cells.size]!)) a.toList with
    |some cells=>some (elem,cells)
    |none=>none)else none
  |_,_=>none
 |_=>none
theorem Kb{P:YK}{t elem:YH}{len:Nat}{a:Array (Nat×YM)}{cells:Array YM}{w:YN}(h:FW P t len a=some (elem,cells)):
 Lw P w (Kd len) (Kr elem cells) (Kw t len a):=by
 unfold FW at h;split at h
 .rename_i b p;split at h
  .rename_i n z o s;have g:∀cs,(Instr.buildSlice t len a).run P w= .ok (.slice (some ⟨w.heap.size,0,none⟩) len len) (w.alloc (.cells cs b))->some (b,cs)=some (elem,cells)->Lw P w (Kd len) (Kr elem cells) (Kw t len a):=by
    intro cs u m;injection m with m;injection m with r l;subst r;subst l;refine⟨w.heap.size,w.alloc (.cells cs b),?_,Xk _ _,λv r l=> ?_⟩
    .simp only[Kw,AE,u,AC,AJ,Kd]
    .unfold Kr;rw[l w.heap.size (AA _) Zs];show(w.heap.push _)[w.heap.size]? =_;simp
   split at h
   .rename_i c;have c:=Nat.eq_of_beq_eq_true c;split at h
    .rename_i cs k;refine g cs ?_ h;have j:¬len*n>2 ^ 24:=J
     simp only[Instr.buildSlice,AE,run_underlying p,AC,M0 o,V j,YS c,AJ,k]
     rfl
    .cases h
   .rename_i c;have c:¬len*n=0:=λe=>c (by rw[e];rfl)
    split at h
    .rename_i f;have f:=Nat.le_of_ble_eq_true f;split at h
     .rename_i cs k;refine g cs ?_ h;have j:¬len*n>2 ^ 24:=J
      simp only[Instr.buildSlice,AE,run_underlying p,AC,M0 o,V j,V c,Xr s,AJ,k]
      rfl
     .cases h
    .cases h
  .cases h
 .cases h
def zi(s:Bool)(v:Nat):Int:=if s then -(v:Int)else(v:Int)
theorem Bn(s:Bool)(v:Nat):(zi s v).natAbs=v:=by cases s<;>simp[zi]
theorem jF(s:Bool)(a b:Nat):zi s (a+b)=zi s a+zi s b:=by cases s<;>simp[zi]<;>omega
theorem SH(s t:Bool)(a b:Nat)(h:(s==t)=false)(c:b<=a):zi s (a-b)=zi s a+zi t b:=by cases s<;>cases t<;>simp[zi]at* <;>omega
theorem jc(s:Bool)(v:Nat):zi (!s) v= -zi s v:=by cases s<;>simp[zi]
theorem kc(s t:Bool)(a b:Nat):zi (s !=t) (a*b)=zi s a*zi t b:=by cases s<;>cases t<;>simp[zi]<;>grind
theorem n8(k:Int){v:Nat}(h:v=k.natAbs):zi (decide (k<0)) v=k:=by
 subst h
 by_cases e:k<0
 .rw[YU e];simp[zi];omega
 .rw[YV e];simp[zi];omega
def Pu(k:Int):Int:=if k<0 then -1 else if k=0 then 0 else 1
def KD(y:Int):Int:=if y=0 then 9 else 0
def GE(x y:Int):Int:=if y=0 then 0 else x.fdiv y
def SX(x y:Int):Int:=if y=0 then 0 else x.fmod y
theorem Na.len_pos{l:List Nat}(h:Na l):decide (0<val l)=decide (0<l.length):=by
 by_cases e:l=[]
 .subst e;rfl
 .have b:=h.pos e;have c:=Z9 (l.length-1);have a:0<l.length:=List.length_pos_iff.2 e;rw[YU a,YU J]
theorem ro{w:YN}{A:YY}{n c K:Nat}{l:List Nat}{k:Int}(N:Na l)(v:val l=k.natAbs)(o:In w A n c l)(h:k.natAbs<pw K):n<=K:=by
 have:=N.length_le (k:=K) (by rw[v];exact h);rw[o.len]at this;exact this
def qi(s:Bool)(l:List Nat):Bool:=decide (trim l=l)&&(!s||decide (0<l.length))
theorem LY{x y:Int}{K:Nat}(b:x.natAbs<pw K)(a:y.natAbs<pw K):(x+y).natAbs<pw (K+1):=by
 have:=Wm b a (AA _) (AA _);omega
theorem bZ{x y:Int}{K:Nat}(b:x.natAbs<pw K)(a:y.natAbs<pw K):(x-y).natAbs<pw (K+1):=by
 have:=Wm b a (AA _) (AA _);omega
theorem K6.impG{uX:Type}{w b:YN}{val:uX->YM}{G G':uX->YN->Prop}{e:YC}(h:K6 w val G e b)(k:∀x u,G x u->G' x u):K6 w val G' e b:=by
 obtain⟨x,f,l,g⟩:=h;exact⟨x,f,l,λa j c=>k _ _ (g a j c)⟩
structure DV where
 A:YY
 n:Nat
 c:Nat
 l:List Nat
abbrev DV.val(v:DV):YM:= .slice v.A v.n v.c
def D3(v:DV)(k:Nat)(K:Nat)(w:YN):Prop:=In w v.A v.n v.c v.l/\val v.l=k/\v.n<=K
def Ep(v:DV)(k:Nat)(K:Nat)(w:YN):Prop:=D3 v k K w/\Na v.l
def Cz(v:DV)(k:Nat)(K:Nat)(w:YN):Prop:=Ep v k K w/\Qp w 0 v.A v.n v.c v.l
structure II(w:YN)(s:Bool)(A:YY)(n c:Nat)(l:List Nat)(x:Int)(K:Nat):Prop where
 inn:In w A n c l
 zi:zi s (val l)=x
 le:n<=K
section
variable{w w':YN}{s:Bool}{A:YY}{n c K K':Nat}{l:List Nat}{x y:Int}{k:Nat}{e:YC}
theorem II.below(h:II w s A n c l x K)(a:Below w.heap.size w w'):II w' s A n c l x K:=⟨h.inn.below a,h.zi,h.le⟩
theorem II.abs(h:II w s A n c l x K):x.natAbs=val l:=by rw[<-h.zi,Bn]
theorem II.lt(h:II w s A n c l x K):x.natAbs<pw K:=by
 rw[h.abs];exact AN (Mj h.inn.dig (AG h.inn.len)) (G3 h.le)
theorem D3.below{v:DV}(h:D3 v k K w)(a:Below w.heap.size w w'):D3 v k K w':=⟨h.1.below a,h.2⟩
theorem D3.lt{v:DV}(h:D3 v k K w):k<pw K:=by
 rw[<-h.2.1];exact Mj h.1.dig (by rw[h.1.len];exact h.2.2)
theorem V9.postO(h:V9 w k e w')(j:k<pw K):K6 w DV.val (λv w=>Cz v k K w) e w':=by
 obtain⟨A,n,c,l,rfl,N,v,o,g⟩:=h;refine⟨⟨A,n,c,l⟩,rfl,g,λf a b=>⟨⟨⟨(o.mid a b).toIn,v,?_⟩,N⟩,(o.mid a b).base (AH _)⟩⟩;have:=N.length_le (k:=K) (by rw[v];exact j);rw[o.len]at this;exact this
theorem V9.post(h:V9 w k e w')(m:k<pw K):K6 w DV.val (λv w=>Ep v k K w) e w':=by
 obtain⟨x,f,o,g⟩:=h.postO m;exact⟨x,f,o,λa j b=>(g a j b).1⟩
end
structure SV where
 s:Bool
 A:YY
 n:Nat
 c:Nat
 l:List Nat
abbrev SV.val(x:SV):YM:= .agg #[.bool x.s,.slice x.A x.n x.c]
def Q7(v:SV)(x:Int)(K:Nat)(w:YN):Prop:=II w v.s v.A v.n v.c v.l x K
def Ug(v:SV)(x:Int)(K:Nat)(w:YN):Prop:=Q7 v x K w/\Na v.l/\v.s=decide (x<0)/\Qp w 0 v.A v.n v.c v.l
def SV.d(v:SV):DV:=⟨v.A,v.n,v.c,v.l⟩
theorem Q7.d{v:SV}{x:Int}{K:Nat}{w:YN}(h:Q7 v x K w):D3 v.d x.natAbs K w:=⟨h.inn,h.abs.symm,h.le⟩
section
variable{v a b:SV}{x y:Int}{K K' K1 K2:Nat}{w w':YN}{d d2:DV}{k k2:Nat}{e:YC}
theorem Ug.i(h:Ug v x K w):Q7 v x K w:=h.1
theorem Q7.below(h:Q7 v x K w)(c:Below w.heap.size w w'):Q7 v x K w':=II.below h c
theorem Q7.mono(h:Q7 v x K w)(c:K<=K'):Q7 v x K' w:=⟨h.inn,h.zi,AI h.le c⟩
theorem Ug.mono(h:Ug v x K w)(c:K<=K'):Ug v x K' w:=⟨h.1.mono c,h.2⟩
theorem Ug.cast(h:Ug v x K w)(e:x=y):Ug v y K w:=by rw[<-e];exact h
theorem Q7.lt(h:Q7 v x K w):x.natAbs<pw K:=II.lt h
theorem Th(h:Ug v x K w)(c:x.natAbs<pw K'):Ug v x K' w:=⟨⟨h.1.inn,h.1.zi,ro h.2.1 h.1.abs.symm h.1.inn c⟩,h.2⟩
theorem Cz.n(h:Cz d x.natAbs K w):Ug ⟨decide (x<0),d.A,d.n,d.c,d.l⟩ x K w:=⟨⟨h.1.1.1,n8 x h.1.1.2.1,h.1.1.2.2⟩,h.1.2,rfl,h.2⟩
theorem D3.sv(h:D3 d k K w)(s:Bool):Q7 ⟨s,d.A,d.n,d.c,d.l⟩ (zi s k) K w:=⟨h.1,by rw[<-h.2.1],h.2.2⟩
theorem Ep.pos(h:Ep d k K w):0<d.n↔0<k:=by
 have c:=h.2.len_pos;rw[h.1.2.1,h.1.1.len]at c;exact⟨λq=>YP (by rw[c];exact YU q),λq=>YP (by rw[<-c];exact YU q)⟩
def rP(y:Int)(q:SV×SV):YM:= .tuple #[q.1.val,q.2.val,I (KD y)]
theorem jk{a b n m:Nat}(c:a<pw n)(f:b<pw m):a+b<pw (n+m+1):=Wm c f J J
theorem cC{a b n m:Nat}(c:a<pw n)(f:b<pw m):a*b<pw (n+m):=fP c f (AA _)
theorem RH(h:D3 d k K w)(g:K<=274877906944):YG XW 174 #[d.val] w (K6 w DV.val λv w=>Cz v k K w):=by
 refine(Yx w h.1 (by have:=h.2.2;omega)).mono λe w' q=>V9.postO ?_ h.lt
 obtain⟨A,n,c,rfl,o,f⟩:=q;exact⟨A,n,c,_,rfl,L8 h.1.dig,by rw[Ku];exact h.2.1,o,f⟩
theorem pF(h:D3 d k K1 w)(c:D3 d2 k2 K2 w)(f:K1+K2+1<=137438953473):YG XW 329 #[d.val,d2.val] w (K6 w DV.val λv w=>Cz v (k+k2) (K1+K2+1) w):=by
 refine(nF w h.1 c.1 (by have:=h.2.2;omega) (by have:=c.2.2;omega)).mono λe w' q=>V9.postO ?_ (jk h.lt c.lt)
 rw[h.2.1,c.2.1]at q;exact q
theorem pA(h:D3 d k K1 w)(c:D3 d2 k2 K2 w)(f:K1+K2<=137438953473):YG XW 298 #[d.val,d2.val] w (K6 w DV.val λv w=>Cz v (k*k2) (K1+K2) w):=by
 refine(nG w h.1 c.1 (by have:=h.2.2;omega) (by have:=c.2.2;omega)).mono λe w' q=>V9.postO ?_ (cC h.lt c.lt)
 rw[h.2.1,c.2.1]at q;exact q
theorem bT{B:Bool}(s:decide (k2<=k)=B)(h:D3 d k K1 w)(f:D3 d2 k2 K2 w)(C:K1+K2<=137438953473):YG XW 330 #[d.val,d2.val] w (K6 w (λv:DV=> .tuple #[v.val,.bool B]) λv w=>Cz v (k-k2) K1 w):=by
 refine(qY w h.1 f.1 (by have:=h.2.2;omega)).mono λe w' q=> ?_
 obtain⟨A,n,c,l,j,N,g,o,u⟩:=q;rw[h.2.1,f.2.1]at j;rw[h.2.1,f.2.1]at g;obtain⟨z,t,p,r⟩:=V9.postO (K:=K1) ⟨A,n,c,l,rfl,N,g,o,u⟩ (AK (Nat.sub_le _ _) h.lt);have m:CH A n c=z.val:=by injection t
 exact⟨z,by rw[j,s,m],p,r⟩
theorem Q_(h:D3 d k K w)(c:K<=137438953473):Zv 170 #[d.val] w (I (B_ k:Nat)):=by
 refine(iV w h.1 (by have:=h.2.2;omega)).mono λe w' q=> ?_
 obtain⟨rfl,q⟩:=q;exact⟨(),by rw[h.2.1],by rw[q];exact Below.refl _ _,λ_ _ _=>trivial⟩
theorem Xz(r:Q7 a x K1 w)(B:K1<=274877906944):YG XW 100 #[.bool a.s,.slice a.A a.n a.c] w (K6 w SV.val λv w=>Ug v x K1 w):=by
 have u:=r.d;obtain⟨s,A,n,c,l⟩:=a;have t:zi s (val l)=x:=r.zi;have D:x.natAbs=val l:=r.abs;cases s
 .have e:decide (x<0)=false:=YV (by rw[<-t];simp[zi]);refine sL func100 rfl<|M<|Z (λj f h=>RH (u.below f) B) λm=>ZV (.agg #[.bool false,.slice m.A m.n m.c]) (λj f h=>⟨⟨decide (x<0),m.A,m.n,m.c,m.l⟩,by rw[<-e],f,λg o k2=>((h g o k2).2).n⟩)
 .refine sL func100 rfl<|M<|Z (λj f h=>RH (u.below f) B) λm=> ?_
  refine s7 (p:=decide ((m.n:Int)>0)=decide (x<0)) (λj f h=>decide_eq_decide.2 (by
   have q:=h.2.1.pos;have C:x= -(x.natAbs:Int):=by rw[<-t];simp[zi]
   omega)) O (λe=> ?_)
  refine ZV (.agg #[.bool (decide ((m.n:Int)>0)),.slice m.A m.n m.c]) (λj f h=>⟨⟨decide (x<0),m.A,m.n,m.c,m.l⟩,by rw[<-e],f,λg o k2=>((h g o k2).2).n⟩)
theorem pO(f:Q7 a x K1 w)(r:K1<=137438953473):YG XW 289 #[a.val] w (K6 w SV.val λv w=>Ug v (-x) K1 w):=by
 have o:Q7 ⟨!a.s,a.A,a.n,a.c,a.l⟩ (-x) K1 w:=⟨f.inn,by rw[jc,f.zi],f.le⟩
 refine sL func289 rfl<|M<|Z (λp j h=>Xz (o.below j) J) λv=>ZV (v.val) (λp j h=>⟨v,rfl,j,λg m k2=>(h g m k2).2⟩)
theorem je(r:Q7 a x K1 w)(u:Q7 b y K2 w)(ve:K1+K2+1<=137438953473):YG XW 288 #[a.val,b.val] w (K6 w SV.val λv w=>Ug v (x+y) (K1+K2+1) w):=by
 have G:=r.zi;have vg:=u.zi;rw[<-r.abs]at G;rw[<-u.abs]at vg;cases p:a.s==b.s
 case true=>
  have e:b.s=a.s:=(YQ.1 p).symm;have D:zi a.s (x.natAbs+y.natAbs)=x+y:=by rw[jF,G,<-e,vg]
  refine sL func288 rfl<|M<|X (a.s==b.s) true (p)<|Z (λj f h=>pF (r.d.below f) (u.d.below f) ve) λm=>Z (λj f h=>Xz (a:=⟨a.s,m.A,m.n,m.c,m.l⟩) (x:=x+y) (by have t:=(h.2.1.1).sv a.s;rw[D]at t;exact t) J) λv=>ZV (v.val) (λj f h=>⟨v,rfl,f,λg C k2=>(h g C k2).2⟩)
 by_cases o:y.natAbs<=x.natAbs
 .have uS:zi a.s (x.natAbs-y.natAbs)=x+y:=by rw[SH a.s b.s _ _ p o,G,vg]
  refine sL func288 rfl<|M<|X (a.s==b.s) false (p)<|Z (λj f h=>bT (YU o) (r.d.below f) (u.d.below f) J) λm=>ZI true<|Z (λj f h=>Xz (a:=⟨a.s,m.A,m.n,m.c,m.l⟩) (x:=x+y) (by have t:=(h.2.1.1).sv a.s;rw[uS]at t;exact t) J) λv=>ZV (v.val) (λj f h=>⟨v,rfl,f,λg C k2=>((h g C k2).2).mono J⟩)
 .have vf:(b.s==a.s)=false:=by rw[<-p];cases a.s<;>cases b.s<;>rfl
  have uS:zi b.s (y.natAbs-x.natAbs)=x+y:=by rw[SH b.s a.s _ _ vf J,G,vg,Int.add_comm]
  refine sL func288 rfl<|M<|X (a.s==b.s) false (p)<|Z (λj f h=>bT (YV o) (r.d.below f) (u.d.below f) J) λm=>ZI false<|Z (λj f h=>bT (B:=true) (YU (show x.natAbs<=y.natAbs by omega)) (u.d.below f) (r.d.below f) J) λF=>Z (λj f h=>Xz (a:=⟨b.s,F.A,F.n,F.c,F.l⟩) (x:=x+y) (by have t:=(h.2.1.1).sv b.s;rw[uS]at t;exact t) J) λv=>ZV (v.val) (λj f h=>⟨v,rfl,f,λg C k2=>((h g C k2).2).mono J⟩)
theorem jC(j:Q7 a x K1 w)(m:Q7 b y K2 w)(o:K1+K2+1<=137438953473):YG XW 243 #[a.val,b.val] w (K6 w SV.val λv w=>Ug v (x-y) (K1+K2+1) w):=by
 refine sL func243 rfl<|M<|Z (λg c h=>pO (m.below c) J) λn=>Z (λg c h=>je (j.below c) (h.2).i o) λv=>ZV (v.val) (λg c h=>⟨v,rfl,c,λf l k2=>((h f l k2).2).cast (Int.sub_eq_add_neg).symm⟩)
theorem KV(j:Q7 a x K1 w)(o:Q7 b y K2 w)(u:K1+K2<=137438953473):YG XW 253 #[a.val,b.val] w (K6 w SV.val λv w=>Ug v (x*y) (K1+K2) w):=by
 have B:zi (a.s !=b.s) (x.natAbs*y.natAbs)=x*y:=by rw[kc,j.abs,o.abs,j.zi,o.zi]
 refine sL func253 rfl<|M<|Z (λp f h=>pA (j.d.below f) (o.d.below f) u) λm=>Z (λp f h=>Xz (a:=⟨a.s !=b.s,m.A,m.n,m.c,m.l⟩) (x:=x*y) (by have t:=(h.2.1.1).sv (a.s !=b.s);rw[B]at t;exact t) J) λv=>ZV (v.val) (λp f h=>⟨v,rfl,f,λg r k2=>(h g r k2).2⟩)
theorem PT(c:Q7 a x K1 w)(g:K1<=137438953473):Zv 248 #[a.val] w (I (B_ x.natAbs:Nat)):=sL func248 rfl<|M<|Z (λj f h=>Q_ (c.d.below f) g) λm=>ZW (I (B_ x.natAbs:Nat))
theorem X7(c:Q7 a x K1 w)(o:K1<=137438953473):Zv 98 #[a.val] w (I (Pu x)):=by
 have g:=c.zi;rw[<-c.abs]at g
 by_cases l:x=0
 .exact sL func98 rfl<|M<|Z (λt f h=>Q_ (c.d.below f) o) λm=>X ((((B_ x.natAbs:Nat):Int)==0)) true (by rw[l];rfl)<|ZX (I 0) (by rw[l];rfl)
 have p:B_ x.natAbs≠0:=λe=>l (by have:=aX.1 e;omega)
 cases j:a.s
 .rw[j]at g;have r:0<x:=by simp[zi]at g;omega
  exact sL func98 rfl<|M<|Z (λt f h=>Q_ (c.d.below f) o) λm=>X ((((B_ x.natAbs:Nat):Int)==0)) false (YR.2 J)<|X (a.s) false (j)<|ZX (I 1) (by unfold Pu;rw[V J,V l])
 .rw[j]at g;have r:x<0:=by simp[zi]at g;omega
  exact sL func98 rfl<|M<|Z (λt f h=>Q_ (c.d.below f) o) λm=>X ((((B_ x.natAbs:Nat):Int)==0)) false (YR.2 J)<|X (a.s) true (j)<|ZX (I (-1)) (by unfold Pu;rw[YS r])
theorem a_(f:Q7 a x K1 w)(g:Q7 b y K2 w)(l:K1<=68719476736/\K2<=68719476736):Zv 179 #[a.val,b.val] w (I (Pu (x-y))):=sL func179 rfl<|M<|Z (λj c h=>jC (f.below c) (g.below c) J) λv=>Z (λj c h=>X7 (h.2).i J) λu=>ZW (I (Pu (x-y)))
theorem dM(h:D3 d k K w)(g:K<=274877906944):YG XW 220 #[d.val] w (K6 w DV.val λv w=>Cz v k K w):=by
 refine(M4 w h.1 (by have:=h.2.2;omega)).mono λe w' q=>V9.postO ?_ h.lt
 obtain⟨A,n,c,rfl,o,f⟩:=q;exact⟨A,n,c,_,rfl,L8 h.1.dig,by rw[Ku];exact h.2.1,o,f⟩
theorem lW(h:D3 d k K1 w)(c:D3 d2 k2 K2 w)(f:K1+K2+1<=137438953473):YG XW 303 #[d.val,d2.val] w (K6 w DV.val λv w=>Cz v (k+k2) (K1+K2+1) w):=by
 refine(XO w h.1 c.1 (by have:=h.2.2;omega) (by have:=c.2.2;omega)).mono λe w' q=>V9.postO ?_ (jk h.lt c.lt)
 rw[h.2.1,c.2.1]at q;exact q
theorem mC(h:D3 d k K1 w)(c:D3 d2 k2 K2 w)(f:K1+K2<=137438953473):YG XW 344 #[d.val,d2.val] w (K6 w DV.val λv w=>Cz v (k*k2) (K1+K2) w):=by
 refine(jz w h.1 c.1 (by have:=h.2.2;omega) (by have:=c.2.2;omega)).mono λe w' q=>V9.postO ?_ (cC h.lt c.lt)
 rw[h.2.1,c.2.1]at q;exact q
theorem QS{B:Bool}(s:decide (k2<=k)=B)(h:D3 d k K1 w)(f:D3 d2 k2 K2 w)(C:K1+K2<=137438953473):YG XW 360 #[d.val,d2.val] w (K6 w (λv:DV=> .tuple #[v.val,.bool B]) λv w=>Cz v (k-k2) K1 w):=by
 refine(IA w h.1 f.1 (by have:=h.2.2;omega)).mono λe w' q=> ?_
 obtain⟨A,n,c,l,j,N,g,o,u⟩:=q;rw[h.2.1,f.2.1]at j;rw[h.2.1,f.2.1]at g;obtain⟨z,t,p,r⟩:=V9.postO (K:=K1) ⟨A,n,c,l,rfl,N,g,o,u⟩ (AK (Nat.sub_le _ _) h.lt);have m:CH A n c=z.val:=by injection t
 exact⟨z,by rw[j,s,m],p,r⟩
theorem lF(h:D3 d k K w)(c:K<=137438953473):Zv 356 #[d.val] w (I (B_ k:Nat)):=by
 refine(E_ w h.1 (by have:=h.2.2;omega)).mono λe w' q=> ?_
 obtain⟨rfl,q⟩:=q;exact⟨(),by rw[h.2.1],q,λ_ _ _=>trivial⟩
theorem Q5(r:Q7 a x K1 w)(B:K1<=274877906944):YG XW 152 #[.bool a.s,.slice a.A a.n a.c] w (K6 w SV.val λv w=>Ug v x K1 w):=by
 have u:=r.d;obtain⟨s,A,n,c,l⟩:=a;have t:zi s (val l)=x:=r.zi;have D:x.natAbs=val l:=r.abs;cases s
 .have e:decide (x<0)=false:=YV (by rw[<-t];simp[zi]);refine sL func152 rfl<|M<|Z (λj f h=>dM (u.below f) B) λm=>ZV (.agg #[.bool false,.slice m.A m.n m.c]) (λj f h=>⟨⟨decide (x<0),m.A,m.n,m.c,m.l⟩,by rw[<-e],f,λg o k2=>((h g o k2).2).n⟩)
 .refine sL func152 rfl<|M<|Z (λj f h=>dM (u.below f) B) λm=> ?_
  refine s7 (p:=decide ((m.n:Int)>0)=decide (x<0)) (λj f h=>decide_eq_decide.2 (by
   have q:=h.2.1.pos;have C:x= -(x.natAbs:Int):=by rw[<-t];simp[zi]
   omega)) O (λe=> ?_)
  refine ZV (.agg #[.bool (decide ((m.n:Int)>0)),.slice m.A m.n m.c]) (λj f h=>⟨⟨decide (x<0),m.A,m.n,m.c,m.l⟩,by rw[<-e],f,λg o k2=>((h g o k2).2).n⟩)
theorem QZ(f:Q7 a x K1 w)(r:K1<=137438953473):YG XW 322 #[a.val] w (K6 w SV.val λv w=>Ug v (-x) K1 w):=by
 have o:Q7 ⟨!a.s,a.A,a.n,a.c,a.l⟩ (-x) K1 w:=⟨f.inn,by rw[jc,f.zi],f.le⟩
 refine sL func322 rfl<|M<|Z (λp j h=>Q5 (o.below j) J) λv=>ZV (v.val) (λp j h=>⟨v,rfl,j,λg m k2=>(h g m k2).2⟩)
theorem bY(r:Q7 a x K1 w)(u:Q7 b y K2 w)(ve:K1+K2+1<=137438953473):YG XW 352 #[a.val,b.val] w (K6 w SV.val λv w=>Ug v (x+y) (K1+K2+1) w):=by
 have G:=r.zi;have vg:=u.zi;rw[<-r.abs]at G;rw[<-u.abs]at vg;cases p:a.s==b.s
 case true=>
  have e:b.s=a.s:=(YQ.1 p).symm;have D:zi a.s (x.natAbs+y.natAbs)=x+y:=by rw[jF,G,<-e,vg]
  refine sL func352 rfl<|M<|X (a.s==b.s) true (p)<|Z (λj f h=>lW (r.d.below f) (u.d.below f) ve) λm=>Z (λj f h=>Q5 (a:=⟨a.s,m.A,m.n,m.c,m.l⟩) (x:=x+y) (by have t:=(h.2.1.1).sv a.s;rw[D]at t;exact t) J) λv=>ZV (v.val) (λj f h=>⟨v,rfl,f,λg C k2=>(h g C k2).2⟩)
 by_cases o:y.natAbs<=x.natAbs
 .have uS:zi a.s (x.natAbs-y.natAbs)=x+y:=by rw[SH a.s b.s _ _ p o,G,vg]
  refine sL func352 rfl<|M<|X (a.s==b.s) false (p)<|Z (λj f h=>QS (YU o) (r.d.below f) (u.d.below f) J) λm=>ZI true<|Z (λj f h=>Q5 (a:=⟨a.s,m.A,m.n,m.c,m.l⟩) (x:=x+y) (by have t:=(h.2.1.1).sv a.s;rw[uS]at t;exact t) J) λv=>ZV (v.val) (λj f h=>⟨v,rfl,f,λg C k2=>((h g C k2).2).mono J⟩)
 .have vf:(b.s==a.s)=false:=by rw[<-p];cases a.s<;>cases b.s<;>rfl
  have uS:zi b.s (y.natAbs-x.natAbs)=x+y:=by rw[SH b.s a.s _ _ vf J,G,vg,Int.add_comm]
  refine sL func352 rfl<|M<|X (a.s==b.s) false (p)<|Z (λj f h=>QS (YV o) (r.d.below f) (u.d.below f) J) λm=>ZI false<|Z (λj f h=>QS (B:=true) (YU (show x.natAbs<=y.natAbs by omega)) (u.d.below f) (r.d.below f) J) λF=>Z (λj f h=>Q5 (a:=⟨b.s,F.A,F.n,F.c,F.l⟩) (x:=x+y) (by have t:=(h.2.1.1).sv b.s;rw[uS]at t;exact t) J) λv=>ZV (v.val) (λj f h=>⟨v,rfl,f,λg C k2=>((h g C k2).2).mono J⟩)
theorem iR(j:Q7 a x K1 w)(m:Q7 b y K2 w)(o:K1+K2+1<=137438953473):YG XW 342 #[a.val,b.val] w (K6 w SV.val λv w=>Ug v (x-y) (K1+K2+1) w):=by
 refine sL func342 rfl<|M<|Z (λg c h=>QZ (m.below c) J) λn=>Z (λg c h=>bY (j.below c) (h.2).i o) λv=>ZV (v.val) (λg c h=>⟨v,rfl,c,λf l k2=>((h f l k2).2).cast (Int.sub_eq_add_neg).symm⟩)
theorem Gu(j:Q7 a x K1 w)(o:Q7 b y K2 w)(u:K1+K2<=137438953473):YG XW 310 #[a.val,b.val] w (K6 w SV.val λv w=>Ug v (x*y) (K1+K2) w):=by
 have B:zi (a.s !=b.s) (x.natAbs*y.natAbs)=x*y:=by rw[kc,j.abs,o.abs,j.zi,o.zi]
 refine sL func310 rfl<|M<|Z (λp f h=>mC (j.d.below f) (o.d.below f) u) λm=>Z (λp f h=>Q5 (a:=⟨a.s !=b.s,m.A,m.n,m.c,m.l⟩) (x:=x*y) (by have t:=(h.2.1.1).sv (a.s !=b.s);rw[B]at t;exact t) J) λv=>ZV (v.val) (λp f h=>⟨v,rfl,f,λg r k2=>(h g r k2).2⟩)
theorem OE(c:Q7 a x K1 w)(g:K1<=137438953473):Zv 343 #[a.val] w (I (B_ x.natAbs:Nat)):=sL func343 rfl<|M<|Z (λj f h=>lF (c.d.below f) g) λm=>ZW (I (B_ x.natAbs:Nat))
theorem R3(j:Q7 a x K1 w)(o:K1<=137438953473):Zv 151 #[a.val] w (I (Pu x)):=by
 have l:∀{v:SV} {u:YN},Ug v x K1 u->(0<v.n↔x≠0):=λ{v u} h=>by
  have q:=Ep.pos (d:=v.d) ⟨h.1.d,h.2.1⟩;have e:v.d.n=v.n:=rfl;rw[e]at q;omega
 by_cases m:x=0
 .exact sL func151 rfl<|M<|Z (λf c h=>Q5 (j.below c) J) λv=>s7 (p:=v.n=0) (λf c h=>by have q:=l (h.2);omega) O λe=>X (((v.n:Int)==0)) true (by rw[e];rfl)<|ZX (I 0) (by rw[m];rfl)
 by_cases g:x<0
 .exact sL func151 rfl<|M<|Z (λf c h=>Q5 (j.below c) J) λv=>s7 (p:=v.n≠0/\v.s=true) (λf c h=>by have q:=l (h.2);exact⟨by omega,by rw[h.2.2.2.1];exact YU g⟩) O λe=>X (((v.n:Int)==0)) false (YR.2 (by have:=e.1;omega))<|X (v.s) true (e.2)<|ZX (I (-1)) (by unfold Pu;rw[YS g])
 .exact sL func151 rfl<|M<|Z (λf c h=>Q5 (j.below c) J) λv=>s7 (p:=v.n≠0/\v.s=false) (λf c h=>by have q:=l (h.2);exact⟨by omega,by rw[h.2.2.2.1];exact YV g⟩) O λe=>X (((v.n:Int)==0)) false (YR.2 (by have:=e.1;omega))<|X (v.s) false (e.2)<|ZX (I 1) (by unfold Pu;rw[V g,V m])
theorem Wg(f:Q7 a x K1 w)(g:Q7 b y K2 w)(l:K1<=68719476736/\K2<=68719476736):Zv 307 #[a.val,b.val] w (I (Pu (x-y))):=sL func307 rfl<|M<|Z (λj c h=>iR (f.below c) (g.below c) J) λv=>Z (λj c h=>R3 (h.2).i J) λu=>ZW (I (Pu (x-y)))
theorem dP{k:Nat}(c:(k:Int)<=18446744073709551615):YG XW 101 #[.int .u64 k] w (K6 w DV.val λv w=>Cz v k 2 w):=
 (X9 k c w).mono λe w' q=>q.postO (by rw[V0];omega)
theorem V4(z:Int)(w:YN)(s: -9223372036854775808<=z)(u:z<=9223372036854775807):YG XW 49 #[I z] w (K6 w SV.val λv w=>Ug v z 2 w):=by
 refine sL func49 rfl<|M ?_
 by_cases r:z<0
 .have o:XZ.wrap (0-XZ.wrap z)=(z.natAbs:Int):=by rw[Lg,Lg];omega
  refine sQ (decide (z<0)) true O (YU r)<|H 3<|ZT 7 (.int .u64 (XZ.wrap (0-XZ.wrap z))) (.int .u64 (z.natAbs:Int)) (by rw[o])<|Z (λj g h=>dP (k:=z.natAbs) J) λm=>Z (λj g h=>Xz (a:=⟨true,m.A,m.n,m.c,m.l⟩) (x:=z) (by have t:=(h.2.1.1).sv true;rw[show zi true z.natAbs=z by simp[zi];omega]at t;exact t) Zd) λv=>ZV (v.val) (λj g h=>⟨v,rfl,g,λf p k2=>(h f p k2).2⟩)
 .have o:XZ.wrap z=(z.natAbs:Int):=by rw[Lg];omega
  refine sQ (decide (z<0)) false O (YV r)<|H 2<|ZT 11 (.int .u64 (XZ.wrap z)) (.int .u64 (z.natAbs:Int)) (by rw[o])<|Z (λj g h=>dP (k:=z.natAbs) J) λm=>Z (λj g h=>Xz (a:=⟨false,m.A,m.n,m.c,m.l⟩) (x:=z) (by have t:=(h.2.1.1).sv false;rw[show zi false z.natAbs=z by simp[zi];omega]at t;exact t) Zd) λv=>ZV (v.val) (λj g h=>⟨v,rfl,g,λf p k2=>(h f p k2).2⟩)
theorem OG{m g:Nat}(l:(m:Int)<=18446744073709551615)(h:Kr 208 #[.int .u32 ((m%4294967296:Nat):Int),.int .u32 ((m/4294967296:Nat):Int)] g w)(s:Bool):Q7 ⟨s,some ⟨g,0,none⟩,2,2,[m%4294967296,m/4294967296]⟩ (zi s m) 2 w:=by
 have c:=LO m l;have f:Mk w g 208 [m%4294967296,m/4294967296]:=h;have j:=f.own (B:=0) c.1 (AH _) (by simp[maxLen]);exact⟨j.toIn,by rw[c.2],AA _⟩
theorem Xv(z:Int)(w:YN)(B: -9223372036854775808<=z)(A:z<=9223372036854775807):YG XW 80 #[I z] w (K6 w SV.val λv w=>Ug v z 2 w):=by
 have s:(z.natAbs:Int)<=18446744073709551615:=J
 have m:zi (decide (z<0)) z.natAbs=z:=n8 z rfl;have c:XY.wrap (z.natAbs:Int)=((z.natAbs%4294967296:Nat):Int):=by rw[IntKind.wrap_u32];omega
 have r:(z.natAbs:Int).fdiv (2 ^ 32)=((z.natAbs/4294967296:Nat):Int):=by rw[BH _ Zd];omega
 have u:XY.wrap ((z.natAbs/4294967296:Nat):Int)=((z.natAbs/4294967296:Nat):Int):=by rw[IntKind.wrap_u32];omega
 refine sL func80 rfl<|M ?_
 by_cases p:z<0
 .have l:XZ.wrap (0-XZ.wrap z)=(z.natAbs:Int):=by rw[Lg,Lg];omega
  refine sQ (decide (z<0)) true O (YU p)<|H 3<|sM 3 (.int .u64 (XZ.wrap (0-XZ.wrap z))) (.int .u64 (z.natAbs:Int)) O (by rw[l])<|sM 12 (.int .u64 (XZ.wrap (0-XZ.wrap z))) (.int .u64 (z.natAbs:Int)) O (by rw[l])<|H 4<|sM 13 (.int .u32 (XY.wrap (z.natAbs:Int))) (.int .u32 ((z.natAbs%4294967296:Nat):Int)) O (by rw[c])<|H 6<|sM 15 (.int .u64 ((z.natAbs:Int).fdiv (2 ^ 32))) (.int .u64 ((z.natAbs/4294967296:Nat):Int)) O (by rw[r])<|H 7<|sM 16 (.int .u32 (XY.wrap ((z.natAbs/4294967296:Nat):Int))) (.int .u32 ((z.natAbs/4294967296:Nat):Int)) O (by rw[u])<|sO (Kw 41 2 #[(0,.int .u32 ((z.natAbs%4294967296:Nat):Int)),(1,.int .u32 ((z.natAbs/4294967296:Nat):Int))]) (Kd 2) (Kr 208 #[.int .u32 ((z.natAbs%4294967296:Nat):Int),.int .u32 ((z.natAbs/4294967296:Nat):Int)]) O (λc j h=>Kb O) λg=>M<|Z (λc j h=>by have t:=OG s (h.2) (decide (z<0));rw[m]at t;exact Q5 t Zd) λv=>ZV (v.val) (λc j h=>⟨v,rfl,j,λf o k2=>(h f o k2).2⟩)
 .have l:XZ.wrap z=(z.natAbs:Int):=by rw[Lg];omega
  refine sQ (decide (z<0)) false O (YV p)<|H 3<|sM 3 (.int .u64 (XZ.wrap z)) (.int .u64 (z.natAbs:Int)) O (by rw[l])<|sM 12 (.int .u64 (XZ.wrap z)) (.int .u64 (z.natAbs:Int)) O (by rw[l])<|H 4<|sM 13 (.int .u32 (XY.wrap (z.natAbs:Int))) (.int .u32 ((z.natAbs%4294967296:Nat):Int)) O (by rw[c])<|H 6<|sM 15 (.int .u64 ((z.natAbs:Int).fdiv (2 ^ 32))) (.int .u64 ((z.natAbs/4294967296:Nat):Int)) O (by rw[r])<|H 7<|sM 16 (.int .u32 (XY.wrap ((z.natAbs/4294967296:Nat):Int))) (.int .u32 ((z.natAbs/4294967296:Nat):Int)) O (by rw[u])<|sO (Kw 41 2 #[(0,.int .u32 ((z.natAbs%4294967296:Nat):Int)),(1,.int .u32 ((z.natAbs/4294967296:Nat):Int))]) (Kd 2) (Kr 208 #[.int .u32 ((z.natAbs%4294967296:Nat):Int),.int .u32 ((z.natAbs/4294967296:Nat):Int)]) O (λc j h=>Kb O) λg=>M<|Z (λc j h=>by have t:=OG s (h.2) (decide (z<0));rw[m]at t;exact Q5 t Zd) λv=>ZV (v.val) (λc j h=>⟨v,rfl,j,λf o k2=>(h f o k2).2⟩)
theorem FY{x y q r:Int}(h:x=y*q+r)(g:(0<=r/\r<y)\/(y<r/\r<=0)):x.fdiv y=q/\x.fmod y=r:=by
 have c:x.fdiv y=q:=by
  rcases g with ⟨c,f⟩|⟨c,f⟩
  .rw[BH _ J];exact((Int.ediv_emod_unique J).2 ⟨(by rw[h,Int.add_comm]),c,f⟩).1
  .rw[<-Int.neg_fdiv_neg,BH _ J];exact((Int.ediv_emod_unique (r:= -r) J).2 ⟨(by rw[h];grind),by omega,by omega⟩).1
 refine⟨c,?_⟩;rw[Int.fmod_def,c,h];omega
theorem qa(s t:Bool)(a b:Nat)(m:b≠0):
 ((s !=t)=true/\a%b≠0->GE (zi s a) (zi t b)=zi true (a/b)-1/\SX (zi s a) (zi t b)=zi s (a%b)+zi t b)/\
 ((s !=t)=false\/a%b=0->GE (zi s a) (zi t b)=zi (s !=t) (a/b)/\SX (zi s a) (zi t b)=zi s (a%b)):=by
 have h:zi t b≠0:=by cases t<;>simp[zi]<;>omega
 have f:(a:Int)=b*((a/b:Nat):Int)+((a%b:Nat):Int):=by
  have:=DT a b;rw[<-Int.natCast_mul,<-Int.natCast_add,this]
 have l:a%b<b:=BA _ J;obtain⟨q,g⟩:∃q,q=a/b:=⟨_,rfl⟩
 obtain⟨r,c⟩:∃r,r=a%b:=⟨_,rfl⟩
 rw[<-g,<-c]at f;rw[<-c]at l;rw[<-g,<-c,GE,SX,V h,V h];constructor
 .rintro⟨j,o⟩;refine FY ?_ ?_
  .cases s<;>cases t<;>simp[zi]at* <;>rw[f]<;>grind
  .cases s<;>cases t<;>simp[zi]at* <;>omega
 .intro j;refine FY ?_ ?_
  .cases s<;>cases t<;>simp[zi]at* <;>rw[f]<;>grind
  .cases s<;>cases t<;>simp[zi]at* <;>omega
theorem ZU(h:D3 d k K1 w)(c:D3 d2 k2 K2 w)(o:k2≠0)(uR:K1<=17179869184/\K2<=17179869184):YG XW 351 #[d.val,d2.val] w (K6 w (λq:DV×DV=> .tuple #[q.1.val,q.2.val,I 0]) λq w=>Cz q.1 (k/k2) K1 w/\Cz q.2 (k%k2) K2 w):=by
 refine(EZ w h.1 c.1 (by have:=h.2.2;omega) (by have:=c.2.2;omega)).mono λe w' q=> ?_
 obtain⟨A1,t,p,uS,A2,n2,c2,vf,m,N1,l,N2,v2,B,D,g⟩:=q;rw[c.2.1,Ee o]at m;rw[h.2.1,c.2.1]at l;rw[h.2.1,c.2.1,Xy o]at v2;obtain⟨r,F,L,vg⟩:=V9.postO (K:=K1) ⟨A1,t,p,uS,rfl,N1,l,B,g⟩ (AK (AY _ _) h.lt);obtain⟨s,C,ve,G⟩:=V9.postO (K:=K2) ⟨A2,n2,c2,vf,rfl,N2,v2,D,g⟩ (AZ (BA _ J) c.lt);have u:CH A1 t p=r.val:=by injection F
 have A:CH A2 n2 c2=s.val:=by injection C
 exact⟨(r,s),by rw[m,u,A],g,λf j k2=>⟨vg f j k2,G f j k2⟩⟩
theorem k6(t:Bool){r m:Nat}(h:r<m):(zi (!t) r+zi t m).natAbs<=m:=by cases t<;>simp[zi]<;>omega
theorem QI:Ug ⟨false,none,0,0,[]⟩ 0 K w:=⟨⟨(tw (B:=0)).toIn,rfl,AH _⟩,Na.nil,rfl,tw⟩
theorem Ez(uS:Q7 a x K1 w)(B:Q7 b y K2 w)(uY:K1<=17179869184/\K2<=17179869184):YG XW 323 #[a.val,b.val] w (K6 w (rP y) λq w=>Ug q.1 (GE x y) (K1+1) w/\Ug q.2 (SX x y) K2 w):=by
 have uZ:(Pu y==0)=decide (y=0):=by
  unfold Pu
  by_cases vf:y<0
  .rw[YS vf,YV J];rfl
  .by_cases ve:y=0
   .rw[V vf,YS ve,YU ve];rfl
   .rw[V vf,V ve,YV ve];rfl
 by_cases L:y=0
 .refine sL func323 rfl<|M<|Z (λj g h=>R3 (B.below g) J) λs=>X (Pu y==0) true (by rw[uZ];exact YU L)<|ZV (.tuple #[.agg #[.bool false,.slice none 0 0],.agg #[.bool false,.slice none 0 0],I 9]) (λj g h=>⟨(⟨false,none,0,0,[]⟩,⟨false,none,0,0,[]⟩),by rw[L];rfl,g,λm vg k2=>by rw[L,show GE x 0=0 from rfl,show SX x 0=0 from rfl];exact⟨QI,QI⟩⟩)
 have T:=uS.zi;have Q:=B.zi;rw[<-uS.abs]at T;rw[<-B.abs]at Q;have G:y.natAbs≠0:=J
 have F:=qa a.s b.s x.natAbs y.natAbs G;rw[T,Q]at F;have P:KD y=0:=V L;have uW:∀{s:Bool} {k:Nat},zi s k=0↔k=0:=λ{s k}=>by cases s<;>simp[zi]
 have uR:∀{s:Bool} {k:Nat},(Pu (zi s k) !=0)=decide (k≠0):=λ{s k}=>by
  have e:(Pu (zi s k)=0)↔k=0:=by
   rw[<-uW (s:=s)];unfold Pu;constructor
   .intro h;split at h
    .cases h
    .split at h
     .assumption
     .cases h
   .intro h;rw[h];rfl
  by_cases h:k=0
  .rw[e.2 h,YV (by simpa using h)];rfl
  .rw[YU h];exact bne_iff_ne.2 λve=>h (e.1 ve)
 cases o:a.s !=b.s
 .have p:=F.2 (.inl o);have D:(GE x y).natAbs<pw (K1+1):=by rw[p.1,Bn];exact AZ (AK (AY _ _) uS.lt) (dr J)
  have C:(SX x y).natAbs<pw K2:=by rw[p.2,Bn];exact AZ (BA _ J) B.lt
  refine sL func323 rfl<|M<|Z (λj g h=>R3 (B.below g) J) λs=>X (Pu y==0) false (by rw[uZ];exact YV L)<|Z (λj g h=>ZU (uS.d.below g) (B.d.below g) G uY) λq=>Z (λj g h=>Q5 (a:=⟨a.s !=b.s,q.1.A,q.1.n,q.1.c,q.1.l⟩) ((h.2.1.1.1).sv _) J) λn=>ZD 5 (λj g h=>Q5 (a:=⟨a.s,q.2.A,q.2.n,q.2.c,q.2.l⟩) ((h.1.2.2.1.1).sv _) J) λr=>s0 O (stop:=1000) 1 _<|H 5<|ZT 41 (.bool (a.s !=b.s)) Zf (by rw[o])<|ZI false<|ZV (.tuple #[n.val,r.val,I 0]) (λj g h=>⟨(n,r),by rw[<-P];rfl,g,λm vg k2=>⟨Th (((h m vg k2).1.2).cast p.1.symm) D,Th (((h m vg k2).2).cast p.2.symm) C⟩⟩)
 by_cases N:x.natAbs%y.natAbs=0
 .have p:=F.2 (.inr N);have D:(GE x y).natAbs<pw (K1+1):=by rw[p.1,Bn];exact AZ (AK (AY _ _) uS.lt) (dr J)
  have C:(SX x y).natAbs<pw K2:=by rw[p.2,Bn];exact AZ (BA _ J) B.lt
  refine sL func323 rfl<|M<|Z (λj g h=>R3 (B.below g) J) λs=>X (Pu y==0) false (by rw[uZ];exact YV L)<|Z (λj g h=>ZU (uS.d.below g) (B.d.below g) G uY) λq=>Z (λj g h=>Q5 (a:=⟨a.s !=b.s,q.1.A,q.1.n,q.1.c,q.1.l⟩) ((h.2.1.1.1).sv _) J) λn=>ZD 5 (λj g h=>Q5 (a:=⟨a.s,q.2.A,q.2.n,q.2.c,q.2.l⟩) ((h.1.2.2.1.1).sv _) J) λr=>s0 O (stop:=1000) 1 _<|H 5<|ZT 41 (.bool (a.s !=b.s)) Zt (by rw[o])<|Z (λj g h=>R3 (h.2).i J) λuU=>X ((Pu (zi a.s (x.natAbs%y.natAbs)) !=0)) false (by rw[uR];simp[N])<|ZV (.tuple #[n.val,r.val,I 0]) (λj g h=>⟨(n,r),by rw[<-P];rfl,g,λm vg k2=>⟨Th (((h m vg k2).1.1.2).cast p.1.symm) D,Th (((h m vg k2).1.2).cast p.2.symm) C⟩⟩)
 .have p:=F.1 ⟨o,N⟩;have D:(GE x y).natAbs<pw (K1+1):=by
   have vf:=AY x.natAbs y.natAbs;rw[p.1];revert vf;generalize x.natAbs/y.natAbs=q;intro vf;have ve:=uS.lt;have S:=dr (show K1<K1+1 by omega);simp only[zi,if_true];omega
  have C:(SX x y).natAbs<pw K2:=by
   have vf:=BA x.natAbs (show y.natAbs>0 by omega);have S:a.s= !b.s:=by revert o;cases a.s<;>cases b.s<;>simp
   have e:zi a.s (x.natAbs%y.natAbs)+y=zi (!b.s) (x.natAbs%y.natAbs)+zi b.s y.natAbs:=by rw[S,Q]
   rw[p.2,e];exact AK (k6 _ vf) B.lt
  refine sL func323 rfl<|M<|Z (λj g h=>R3 (B.below g) J) λs=>X (Pu y==0) false (by rw[uZ];exact YV L)<|Z (λj g h=>ZU (uS.d.below g) (B.d.below g) G uY) λq=>Z (λj g h=>Q5 (a:=⟨a.s !=b.s,q.1.A,q.1.n,q.1.c,q.1.l⟩) ((h.2.1.1.1).sv _) J) λn=>ZD 5 (λj g h=>Q5 (a:=⟨a.s,q.2.A,q.2.n,q.2.c,q.2.l⟩) ((h.1.2.2.1.1).sv _) J) λr=>s0 O (stop:=1000) 1 _<|H 5<|ZT 41 (.bool (a.s !=b.s)) Zt (by rw[o])<|Z (λj g h=>R3 (h.2).i J) λuU=>X ((Pu (zi a.s (x.natAbs%y.natAbs)) !=0)) true (by rw[uR];exact YU N)<|Z (λj g h=>Xv 1 j Zd Zd) λf=>Z (λj g h=>iR (h.1.1.1.2).i (h.2).i J) λu=>Z (λj g h=>bY (h.1.1.1.2).i (B.below g) J) λt=>ZV (.tuple #[u.val,t.val,I 0]) (λj g h=>⟨(u,t),by rw[<-P];rfl,g,λm vg k2=>⟨Th (((h m vg k2).1.2).cast (by rw[p.1,o])) D,Th (((h m vg k2).2).cast p.2.symm) C⟩⟩)
end
structure RV where
 a:SV
 b:SV
abbrev RV.val(r:RV):YM:= .agg #[.bool r.a.s,.slice r.a.A r.a.n r.a.c,.bool r.b.s,.slice r.b.A r.b.n r.b.c]
def Ci(r:RV)(q:Rat)(K:Nat)(w:YN):Prop:=∃x y:Int,Q7 r.a x K w/\Q7 r.b y K w/\q=Rat.divInt x y
def Oe(r:RV)(q:Rat)(K:Nat)(w:YN):Prop:=Ug r.a q.num K w/\Ug r.b q.den K w
theorem ID(z:Int)(w:YN)(f: -9223372036854775808<=z)(g:z<=9223372036854775807):YG XW 242 #[I z] w (K6 w RV.val λr w=>Oe r z 2 w):=sL func242 rfl<|M<|Z (λw b h=>V4 z w f g) λx=>Z (λw b h=>V4 1 w Zd Zd) λy=>ZV (RV.val ⟨x,y⟩)<|λw b h=>⟨⟨x,y⟩,rfl,b,λa e c=>⟨(h a e c).1.2,(h a e c).2⟩⟩
theorem qu{a b:DV}{x y K:Nat}{w:YN}(c:D3 a x K w)(f:D3 b y K w)(g:K<=274877906944):
 YG XW 299 #[a.val,b.val] w (K6 w DV.val λv w=>Ep v (AU x y) K w):=by
 refine(qz w c.1 f.1 (by have:=c.2.2;omega) (by have:=f.2.2;omega)).mono λ_ _ h=> ?_
 rw[c.2.1,f.2.1]at h;refine h.post ?_;rcases AM x with e|e
 .rw[e,Nat.gcd_zero_left];exact f.lt
 .exact AK (Nat.gcd_le_left _ e) c.lt
theorem iQ{a b:DV}{x y K:Nat}{w:YN}(c:D3 a x K w)(f:D3 b y K w)(g:K<=1073741824):
 YG XW 321 #[a.val,b.val] w (K6 w DV.val λv w=>Ep v (AU x y) K w):=by
 refine(h_ w c.1 f.1 (by have:=c.2.2;omega) (by have:=f.2.2;omega)).mono λ_ _ h=> ?_
 rw[c.2.1,f.2.1]at h;refine h.post ?_;rcases AM x with e|e
 .rw[e,Nat.gcd_zero_left];exact f.lt
 .exact AK (Nat.gcd_le_left _ e) c.lt
def qD(y:Nat)(q:DV×DV):YM:= .tuple #[q.1.val,q.2.val,I (oO y)]
theorem kU{a b:DV}{x y K:Nat}{w:YN}(c:D3 a x K w)(e:D3 b y K w)(A:K<=274877906944):
 YG XW 301 #[a.val,b.val] w (K6 w (qD y) λq w=>Ep q.1 (x/y) K w):=by
 refine(TR w c.1 e.1 (by have:=c.2.2;omega) (by have:=e.2.2;omega)).mono λ_ _ h=> ?_
 obtain⟨A1,s,p,r,A2,n2,c2,u,rfl,N1,f,N2,v2,l,v,g⟩:=h;rw[c.2.1,e.2.1]at f;refine⟨(⟨A1,s,p,r⟩,⟨A2,n2,c2,u⟩),by rw[e.2.1];rfl,g,λo t m=>⟨⟨(l.mid t m).toIn,f,?_⟩,N1⟩⟩;have j:=N1.length_le (k:=K) (by rw[f];exact AK (AY _ _) c.lt);rw[l.len]at j;exact j
theorem W8{P:YK}{t:YH}{p:YB}{v:YM}{w:YN}(a:Tg P t=some false)(g:w.cell? p=some v):
 (Instr.loadAt t (.pointer (some p)) >>= λv=>(pure (.value v):Sem Next)).run P w= .ok (.value v) w:=by
 have e:(isAgg t).run P w= .ok false w:=by
  unfold Tg at a;split at a
  .cases a
  .cases a
  .rename_i d c b f;unfold isAgg;rw[AE,run_underlying f w];cases d<;>first|rfl|(exfalso;first|exact c _ rfl|exact b _ _ rfl)|(exfalso;first|exact c _ f|exact b _ _ f)
  .cases a
 have h:(load p).run P w= .ok v w:=by simp[run_load,g]
 simp only[AE,Instr.loadAt,Instr.sureAddr,AJ,AC,loadVar,e,h,BC,if_false]
theorem TQ{β:Nat}{w:YN}{v:YM}{ty:YH}(h:w.heap[β]? =some (.cells #[v] ty (0,0))):w.cell? ⟨β,0,none⟩=some v:=by simp[BW,h]
theorem kj{a:SV}{b:DV}{x:Int}{y K:Nat}{w:YN}{p:YB}(m:Q7 a x K w)(k:w.cell? p=some b.val)(o:D3 b y K w)(r:K<=274877906944):
 YG XW 300 #[a.val,.pointer (some p)] w (K6 w DV.val λv w=>Ep v (x.natAbs/y) K w):=by
 refine sL func300 rfl<|H 2<|ZA (Instr.loadAt 41 (.pointer (some p)) >>= λv=>(pure (.value v):Sem Next)) b.val (λs f _=>W8 O (La f k))<|Z (λl c h=>kU (m.d.below c) (o.below c) r) λq=>ZV (q.1.val) (λl c h=>⟨q.1,rfl,c,λe j g=>(h e j g).2⟩)
theorem PD{x y:Int}(j:y≠0):zi (decide (Pu x*Pu y<0)) (x.natAbs/AU x.natAbs y.natAbs)=(Rat.divInt x y).num:=by
 rw[Rat.num_divInt];have m:(y.gcd x:Nat)=AU x.natAbs y.natAbs:=BM _ _;rw[m];have l:AU x.natAbs y.natAbs∣x.natAbs:=Nat.gcd_dvd_left _ _;generalize AU x.natAbs y.natAbs=g at l ⊢;have f:(g:Int)∣(x.natAbs:Int):=Int.natCast_dvd_natCast.2 l;have a:(-(x.natAbs:Int))/(g:Int)= -((x.natAbs:Int)/g):=Int.neg_ediv_of_dvd f;rcases Int.lt_trichotomy x 0 with h|h|h
 .have e:(x.natAbs:Int)= -x:=J
  have c:Pu x= -1:=by simp[Pu,h]
  rcases Int.lt_trichotomy y 0 with k|k|k
  .have b:Pu y= -1:=by simp[Pu,k]
   rw[c,b,BO k,show -1*x=(x.natAbs:Int) by omega];simp[zi]
  .exact absurd k j
  .have b:Pu y=1:=by unfold Pu;rw[V J,V J]
   rw[c,b,Int.sign_eq_one_of_pos k,show 1*x= -(x.natAbs:Int) by omega,a];simp[zi]
 .subst h;simp[zi,Pu]
 .have e:(x.natAbs:Int)=x:=J
  have c:Pu x=1:=by unfold Pu;rw[V J,V J]
  rcases Int.lt_trichotomy y 0 with k|k|k
  .have b:Pu y= -1:=by simp[Pu,k]
   rw[c,b,BO k,show -1*x= -(x.natAbs:Int) by omega,a];simp[zi]
  .exact absurd k j
  .have b:Pu y=1:=by unfold Pu;rw[V J,V J]
   rw[c,b,Int.sign_eq_one_of_pos k,show 1*x=(x.natAbs:Int) by omega];simp[zi]
theorem EF{x y:Int}(a:y≠0):zi false (y.natAbs/AU x.natAbs y.natAbs)=((Rat.divInt x y).den:Int):=by
 rw[Rat.den_divInt,V a];have b:(y.gcd x:Nat)=AU x.natAbs y.natAbs:=BM _ _;rw[b];simp[zi]
theorem ZN{a b:Rat}:Rat.divInt (a.num*b.den+b.num*a.den) (a.den*b.den)=a+b:=by
 have h:=Rat.divInt_add_divInt a.num b.num (d₁:=a.den) (d₂:=b.den) (by have:=a.den_nz;omega) (by have:=b.den_nz;omega);rw[Rat.num_divInt_den,Rat.num_divInt_den]at h;exact h.symm
theorem aV{a b:Rat}:Rat.divInt (a.num*b.den-b.num*a.den) (a.den*b.den)=a-b:=by
 have h:=Rat.divInt_sub_divInt a.num b.num (d₁:=a.den) (d₂:=b.den) (by have:=a.den_nz;omega) (by have:=b.den_nz;omega);rw[Rat.num_divInt_den,Rat.num_divInt_den]at h;exact h.symm
theorem KB{a b:Rat}:Rat.divInt (a.num*b.num) (a.den*b.den)=a*b:=by
 have h:=Rat.divInt_mul_divInt a.num b.num (d₁:=a.den) (d₂:=b.den);rw[Rat.num_divInt_den,Rat.num_divInt_den]at h;exact h.symm
theorem Cd(a b:Rat):(a.den:Int)*b.den≠0:=Int.mul_ne_zero (by have:=a.den_nz;omega) (by have:=b.den_nz;omega)
theorem cK{a b:Rat}:Pu (a.num*b.den-b.num*a.den)=if a<b then -1 else if a=b then 0 else 1:=by
 unfold Pu;have c:=Rat.lt_iff a b;have f:=Rat.lt_iff b a
 by_cases h:a<b
 .rw[YS h,YS (by have:=c.1 h;omega)]
 .rw[V h,V (λk=>h (c.2 J))]
  by_cases e:a=b
  .rw[YS e,YS (by rw[e];omega)]
  .rw[V e,V];intro k;have:=Rat.le_antisymm (Rat.not_lt.1 λq=>by have:=f.1 q;omega) (Rat.not_lt.1 h);exact e this
theorem NX{x y:Int}{K:Nat}(c:x.natAbs<pw K)(b:y.natAbs<pw K)(a:y≠0):(Rat.divInt x y).num.natAbs<pw K/\((Rat.divInt x y).den:Int).natAbs<pw K:=by
 rw[<-PD a,<-EF a,Bn,Bn];exact⟨AK (AY _ _) c,AK (AY _ _) b⟩
theorem Ep.sv{v:DV}{k K:Nat}{w:YN}(s:Bool)(h:Ep v k K w):Q7 ⟨s,v.A,v.n,v.c,v.l⟩ (zi s k) K w:=⟨h.1.1,by rw[<-h.1.2.1],h.1.2.2⟩
theorem Ug.cast'{v:SV}{x y:Int}{K:Nat}{w:YN}(h:Ug v x K w)(e:x=y):Ug v y K w:=by rw[<-e];exact h
theorem af{x y:Int}(a:y≠0):AU x.natAbs y.natAbs≠0:=λe=>by
 have:=(Nat.gcd_eq_zero_iff.1 e).2;omega
theorem UX{g:Nat}{w:YN}{v:YM}(h:∃ty,w.heap[g]? =some (.cells #[v] ty (0,0))):w.cell? ⟨g,0,none⟩=some v:=by
 obtain⟨ty,h⟩:=h;exact TQ h
theorem kL(x:Int):Pu x= -1\/Pu x=0\/Pu x=1:=by unfold Pu;split<;>(try split)<;>simp
theorem kh(x y:Int):YA.wrap (Pu x*Pu y)=Pu x*Pu y:=by
 refine BS _ ?_;rcases kL x with e|e|e<;>rcases kL y with k|k|k<;>rw[e,k]<;>decide
theorem LT{a b:SV}{x y:Int}{K:Nat}{w:YN}(l:Q7 a x K w)(o:Q7 b y K w)(m:y≠0)(C:K<=68719476736):
 YG XW 254 #[a.val,b.val] w (K6 w RV.val λr w=>Oe r (Rat.divInt x y) K w):=by
 have f:=NX l.lt o.lt m;have B:=af (x:=x) m;refine sL func254 rfl<|M<|Z (λe c h=>qu (l.d.below c) (o.d.below c) J) λg=>Z (λe c h=>X7 (l.below c) J) λu=>Z (λe c h=>X7 (o.below c) J) λu=>up (val:=DV.val) (G:=λv w=>Ep v (x.natAbs/AU x.natAbs y.natAbs) K w) (xs:=[.v a.val,.p 5 0]) O (λβ e c h s=>kj (l.below c) (UX (j9 s (k:=5) (by simp[AV.ids]) (cs:=[.v g.val]) O)) h.1.1.2.1 J) λp=>M<|Z (λe c h=>Xz (Ep.sv (decide (YA.wrap (Pu x*Pu y)<0)) h.2) J) λn=>up (val:=DV.val) (G:=λv w=>Ep v (y.natAbs/AU x.natAbs y.natAbs) K w) (xs:=[.v b.val,.p 5 0]) O (λβ e c h s=>kj (o.below c) (UX (j9 s (k:=5) (by simp[AV.ids]) (cs:=[.v g.val]) O)) h.1.1.1.1.2.1 J) λq=>M<|Z (λe c h=>Xz (Ep.sv false h.2) J) λd=>ZV (RV.val ⟨n,d⟩) (λe c h=>⟨⟨n,d⟩,rfl,c,λj A t=>⟨Th ((h j A t).1.1.2.cast' (by rw[kh];exact PD m)) f.1,Th ((h j A t).2.cast' (EF m)) f.2⟩⟩)
def sF:SV:=⟨false,none,0,0,[]⟩
def Yh:RV:=⟨sF,sF⟩
def KL(r:RV)(x y:Int)(K:Nat)(w:YN):Prop:=if y=0 then r=Yh else Oe r (Rat.divInt x y) K w
theorem KL.zero{x y:Int}{K:Nat}{w:YN}(h:y=0):KL Yh x y K w:=by unfold KL;rw[YS h]
theorem KL.of{r:RV}{x y:Int}{K:Nat}{w:YN}(h:y≠0)(a:Oe r (Rat.divInt x y) K w):KL r x y K w:=by unfold KL;rw[V h];exact a
theorem KL.n{r:RV}{x y:Int}{K:Nat}{w:YN}(h:KL r x y K w)(a:y≠0):Oe r (Rat.divInt x y) K w:=by unfold KL at h;rw[V a]at h;exact h
def OQ(y:Int)(r:RV):YM:= .tuple #[r.val,I (KD y)]
theorem Sx(y:Int):(Pu y==0)=decide (y=0):=by
 unfold Pu
 by_cases h:y<0
 .rw[YS h,YV J];rfl
 .rw[V h]
  by_cases e:y=0
  .rw[YS e,YU e];rfl
  .rw[V e,YV e];rfl
theorem Io{y:Int}(h:y≠0):KD y=0:=V h
theorem EI{y:Int}(h:y=0):KD y=9:=YS h
theorem gZ{a b:SV}{x y:Int}{K:Nat}{w:YN}(m:Q7 a x K w)(j:Q7 b y K w)(o:K<=68719476736):
 YG XW 241 #[a.val,b.val] w (K6 w (OQ y) λr w=>KL r x y K w):=by
 by_cases e:y=0
 .refine sL func241 rfl<|M<|Z (λg c h=>X7 (j.below c) J) λu=>X (Pu y==0) true (by rw[Sx,YU e])<|ZV (.tuple #[Yh.val,I 9]) (λg c h=>⟨Yh,by unfold OQ;rw[EI e],c,λf l k=> .zero e⟩)
 .refine sL func241 rfl<|M<|Z (λg c h=>X7 (j.below c) J) λu=>X (Pu y==0) false (by rw[Sx,YV e])<|Z (λg c h=>LT (m.below c) (j.below c) e o) λr=>ZV (.tuple #[r.val,I 0]) (λg c h=>⟨r,by unfold OQ;rw[Io e],c,λf l k=> .of e (h f l k).2⟩)
theorem Cb(x:Int):Rat.divInt x 0=0:=Rat.divInt_zero x
theorem Mu{a:RV}{q:Rat}{K:Nat}{w:YN}(s:Ci a q K w)(k:2<=K/\K<=68719476736):
 YG XW 178 #[a.val] w (K6 w RV.val λr w=>Oe r q K w):=by
 obtain⟨x,y,p,o,m⟩:=s
 by_cases j:y=0
 .have l:q=0:=by rw[m,j,Cb]
  refine sL func178 rfl<|M<|Z (λe b h=>gZ (p.below b) (o.below b) k.2) λr=>X (KD y !=0) true (by rw[EI j];rfl)<|Z (λe b h=>ID 0 e Zd Zd) λz=>ZV (RV.val z) (λe b h=>⟨z,rfl,b,λc g f=>by rw[l];exact⟨(h c g f).2.1.mono k.1,(h c g f).2.2.mono k.1⟩⟩)
 .refine sL func178 rfl<|M<|Z (λe b h=>gZ (p.below b) (o.below b) k.2) λr=>X (KD y !=0) false (by rw[Io j];rfl)<|ZV (RV.val r) (λe b h=>⟨r,rfl,b,λc g f=>by rw[m];exact(h c g f).2.n j⟩)
theorem Oe.q{r:RV}{q:Rat}{K:Nat}{w:YN}(h:Oe r q K w):Ci r q K w:=⟨q.num,q.den,h.1.1,h.2.1,(Rat.num_divInt_den q).symm⟩
theorem Ci.below{r:RV}{q:Rat}{K:Nat}{w b:YN}(h:Ci r q K w)(a:Below w.heap.size w b):Ci r q K b:=by
 obtain⟨x,y,e,f,c⟩:=h;exact⟨x,y,e.below a,f.below a,c⟩
theorem Ci.mono{r:RV}{q:Rat}{K K':Nat}{w:YN}(h:Ci r q K w)(a:K<=K'):Ci r q K' w:=by
 obtain⟨x,y,c,e,b⟩:=h;exact⟨x,y,c.mono a,e.mono a,b⟩
theorem Oe.mono{r:RV}{q:Rat}{K K':Nat}{w:YN}(h:Oe r q K w)(a:K<=K'):Oe r q K' w:=⟨h.1.mono a,h.2.mono a⟩
theorem Oe.cast{r:RV}{p q:Rat}{K:Nat}{w:YN}(h:Oe r p K w)(e:p=q):Oe r q K w:=by rw[<-e];exact h
def Ub(p q:Rat):Int:=if p<q then -1 else if p=q then 0 else 1
section
variable{a b:RV}{p q:Rat}{K1 K2:Nat}{w:YN}
def WH(t:SV×SV×SV):YM:= .tuple #[t.1.val,t.2.1.val,t.2.2.val]
theorem b7(k:Ci a p K1 w)(l:Ci b q K2 w)(m:2<=K1/\2<=K2/\K1+K2<=68719476736):
 YG XW 196 #[a.val,b.val] w (K6 w WH λt w=>Ug t.1 (p.num*q.den) (K1+K2) w/\Ug t.2.1 (q.num*p.den) (K1+K2) w/\Ug t.2.2 (p.den*q.den) (K1+K2) w):=by
 refine sL func196 rfl<|M<|Z (λf c h=>Mu (k.below c) J) λx=>Z (λf c h=>Mu (l.below c) J) λy=>Z (λf c h=>KV h.1.2.1.i h.2.2.i J) λu=>Z (λf c h=>KV h.1.2.1.i h.1.1.2.2.i J) λv=>Z (λf c h=>KV h.1.1.1.2.2.i h.1.1.2.2.i J) λt=>ZV (WH (u,v,t)) (λf c h=>⟨(u,v,t),rfl,c,λe j g=>⟨(h e j g).1.1.2,(h e j g).1.2.mono J,(h e j g).2⟩⟩)
theorem Ds(e:Ci a p K1 w)(f:Ci b q K2 w)(j:2<=K1/\2<=K2/\K1+K2<=68719476736):
 Zv 124 #[a.val,b.val] w (I (Ub p q)):=by
 exact sL func124 rfl<|M<|Z (λg c h=>b7 (e.below c) (f.below c) j) λt=>Z (λg c h=>a_ h.2.1.i h.2.2.1.i J) λu=>ZX (I (Pu (p.num*q.den-q.num*p.den))) (by rw[cK];rfl)
theorem su{a b:SV}{x y:Int}{K:Nat}{w:YN}(c:Q7 a x K w)(e:Q7 b y K w)(f:K+1<=68719476736):YG XW 288 #[a.val,b.val] w (K6 w SV.val λv w=>Ug v (x+y) (K+1) w):=
 (je c e J).mono λ_ _ h=>h.impG λv u q=>Th q (LY c.lt e.lt)
theorem oC{a b:SV}{x y:Int}{K:Nat}{w:YN}(c:Q7 a x K w)(e:Q7 b y K w)(f:K+1<=68719476736):YG XW 243 #[a.val,b.val] w (K6 w SV.val λv w=>Ug v (x-y) (K+1) w):=
 (jC c e J).mono λ_ _ h=>h.impG λv u q=>Th q (bZ c.lt e.lt)
theorem o8(j:Ci a p K1 w)(l:Ci b q K2 w)(m:2<=K1/\2<=K2/\K1+K2<=68719476000):
 YG XW 197 #[a.val,b.val] w (K6 w RV.val λr w=>Oe r (p-q) (K1+K2+1) w):=by
 refine sL func197 rfl<|M<|Z (λf c h=>b7 (j.below c) (l.below c) J) λt=>Z (λf c h=>oC h.2.1.i h.2.2.1.i J) λs=>Z (λf c h=>LT h.2.i (h.1.2.2.2.i.mono J) (Cd p q) J) λr=>ZV (RV.val r) (λf c h=>⟨r,rfl,c,λe k g=>(h e k g).2.cast aV⟩)
theorem ii(j:Ci a p K1 w)(l:Ci b q K2 w)(m:2<=K1/\2<=K2/\K1+K2<=68719476000):
 YG XW 198 #[a.val,b.val] w (K6 w RV.val λr w=>Oe r (p*q) (K1+K2) w):=by
 refine sL func198 rfl<|M<|Z (λe c h=>Mu (j.below c) J) λx=>Z (λe c h=>Mu (l.below c) J) λy=>Z (λe c h=>KV h.1.2.1.i h.2.1.i J) λn=>Z (λe c h=>KV h.1.1.2.2.i h.1.2.2.i J) λd=>Z (λe c h=>LT h.1.2.i h.2.i (Cd p q) J) λr=>ZV (RV.val r) (λe c h=>⟨r,rfl,c,λf k g=>(h f k g).2.cast KB⟩)
end
def Ki(t:YH)(x:YM)(k:Int):Sem Next:=Instr.indexAt t x (I k) >>= λv=>pure (.value v)
def L4(t:YH)(p:YB):Sem Next:=Instr.loadAt t (.pointer (some p)) >>= λv=>pure (.value v)
theorem Kg{P:YK}{t elem:YH}{ad:YB}{n c k:Nat}{w:YN}(b:P.underlying t=some (.slice elem))(a:Ot P elem=some 1)(f:k<n):
 (Ki t (.slice (some ad) n c) k).run P w= .ok (.value (.pointer (some (ad.add k)))) w:=by
 have e:0<=(k:Int)/\(k:Int)<(n:Int):=J
 simp only[Ki,Instr.indexAt,asIntOf,AE,AJ,AC,run_underlying b,M0 a,YS e,AL,DN]
theorem K9{P:YK}{t:YH}{p:YB}{v:YM}{w:YN}(b:Tg P t=some false)(a:w.cell? p=some v):(L4 t p).run P w= .ok (.value v) w:=W8 b a
def Sy(a b:SV):Bool:=decide (a.s=b.s)&&decide (a.l=b.l)
theorem OX{a b:SV}(h:(a.s !=b.s)=true):Sy a b=false:=by
 unfold Sy;rw[YV (by simpa using h)];rfl
theorem Ew{a b:SV}(h:a.l≠b.l):Sy a b=false:=by
 unfold Sy;rw[YV h,Bool.and_false]
theorem PO{a b:SV}(h:(a.s !=b.s)=false)(c:a.l=b.l):Sy a b=true:=by
 unfold Sy;rw[YU (by simpa using h),YU c];rfl
theorem FD{l m:List Nat}{k:Nat}(h:∀i,i<k->dg l i=dg m i)(b:dg l k=dg m k):∀i,i<k+1->dg l i=dg m i:=by
 intro i hi;rcases DE i k with a|a
 .exact h i a
 .obtain rfl:i=k:=J
  exact b
theorem ky{l m:List Nat}(h:l.length=m.length)(b:∀i,i<l.length->dg l i=dg m i):l=m:=by
 refine List.ext_getElem h λi a c=> ?_
 have:=b i a;unfold dg at this;simpa[a,c]using this
theorem Kc{k n:Nat}(h:k<n)(a:n<=9223372036854775807):YA.wrap ((k:Int)+1)=((k+1:Nat):Int):=by
 rw[BS _ J];omega
theorem zo{a b:Nat}(h:a<b:=by(try dsimp only);omega):a<b:=h
theorem zt{p q r:Prop}(h:p/\q/\r:=by refine⟨by kernel_rfl,by kernel_rfl,by kernel_rfl⟩):p/\q/\r:=h
theorem sS{P:YK}{Δ:List YI}{W:YN}{Q:Exit->Act->YN->Prop}{Φ:YW}{c:Ob}{k n:Nat}(t:Nat)(f:k<n)(a:n<=9223372036854775807)(e:c.st.tmps[t]? =some (.v (I (YA.wrap ((k:Int)+1)))))(h:K0 P Δ W Q Φ (Ma t (I ((k+1:Nat):Int)) c)):K0 P Δ W Q Φ c:=sM t _ _ e (by rw[Kc f a]) h
theorem IQ{a b:SV}{x y:Int}{K1 K2:Nat}{w:YN}(G:Q7 a x K1 w)(uS:Q7 b y K2 w):
 Zv 164 #[a.val,b.val] w (.bool (Sy a b)):=by
 have t:=G.inn.len;have C:=uS.inn.len;have r:=G.inn.lenI;refine sL func164 rfl<|H 6 ?_
 cases o:(a.s !=b.s)
 case true=>
  exact ZT 11 (.bool (a.s !=b.s)) Zt (by rw[o])<|ZI true<|ZX Zf (by rw[OX o])
 refine ZT 11 (.bool (a.s !=b.s)) Zf (by rw[o]) ?_
 by_cases vf:a.n=b.n
 case neg=>
  have F:a.l≠b.l:=λe=>vf (by rw[<-t,<-C,e])
  exact X ((a.n:Int) !=(b.n:Int)) true Zp<|ZX Zf (by rw[Ew F])
 refine X ((a.n:Int) !=(b.n:Int)) false Zp<|sU (ι:={k:Nat // k<=a.n/\∀i,i<k->dg a.l i=dg b.l i}) 38 (λi=>⟨[(2,.p 2 0),(3,.p 3 0),(5,.v (I i.1))],[(2,[.v (.bool a.s),.v (.slice a.A a.n a.c)]),(3,[.v (.bool b.s),.v (.slice b.A b.n b.c)])]⟩) (λ_ _=>True) (λi=>a.n-i.1) (⟨0,by omega,by omega⟩) O (λ_=>O) zt (λ_ _=>trivial) ?_
 rintro⟨k,uR,j⟩ g
 by_cases f:k<a.n
 .refine M<|X (decide ((k:Int)<(a.n:Int))) true Zp ?_
  obtain⟨ad,K,u⟩:=G.inn.at_ (k:=k) f;obtain⟨bd,ve,D⟩:=uS.inn.at_ (k:=k) J;refine ZB 3 (Ki 41 (.slice a.A a.n a.c) k) (.pointer (some (ad.add k))) (λvg m h=>by rw[K];exact Kg (elem:=208) O O f)<|ZB 4 (L4 208 (ad.add k)) (.int .u32 (dg a.l k)) (λvg m h=>K9 O (La m u))<|ZB 8 (Ki 41 (.slice b.A b.n b.c) k) (.pointer (some (bd.add k))) (λvg m h=>by rw[ve];exact Kg (elem:=208) O O J)<|ZB 9 (L4 208 (bd.add k)) (.int .u32 (dg b.l k)) (λvg m h=>K9 O (La m D)) ?_
  by_cases B:dg a.l k=dg b.l k
  .refine X ((((dg a.l k:Nat):Int) !=((dg b.l k:Nat):Int))) false (by rw[B];simp)<|sS 5 f r O<|sR (⟨k+1,by omega,FD j B⟩) O zo zt (λ_ _=>trivial)
  .exact X ((((dg a.l k:Nat):Int) !=((dg b.l k:Nat):Int))) true Zp<|sN O<|M<|ZX Zf (by rw[Ew λe=>B (by rw[e])])
 .refine M<|X (decide ((k:Int)<(a.n:Int))) false Zp<|sN O<|M ?_
  have L:a.l=b.l:=ky J λi hi=>j i J
  exact ZX Zt (by rw[PO o L])
theorem dV{a b:SV}{x y:Int}{K1 K2:Nat}{w:YN}(G:Q7 a x K1 w)(uS:Q7 b y K2 w):
 Zv 294 #[a.val,b.val] w (.bool (Sy a b)):=by
 have t:=G.inn.len;have C:=uS.inn.len;have r:=G.inn.lenI;refine sL func294 rfl<|H 6 ?_
 cases o:(a.s !=b.s)
 case true=>
  exact ZT 12 (.bool (a.s !=b.s)) Zt (by rw[o])<|ZI true<|ZX Zf (by rw[OX o])
 refine ZT 12 (.bool (a.s !=b.s)) Zf (by rw[o]) ?_
 by_cases vf:a.n=b.n
 case neg=>
  have F:a.l≠b.l:=λe=>vf (by rw[<-t,<-C,e])
  exact X ((a.n:Int) !=(b.n:Int)) true Zp<|ZX Zf (by rw[Ew F])
 refine X ((a.n:Int) !=(b.n:Int)) false Zp<|sU (ι:={k:Nat // k<=a.n/\∀i,i<k->dg a.l i=dg b.l i}) 37 (λi=>⟨[(2,.p 2 0),(3,.p 3 0),(24,.v (I i.1)),(22,.v (.slice a.A a.n a.c)),(23,.v (I a.n))],[(2,[.v (.bool a.s),.v (.slice a.A a.n a.c)]),(3,[.v (.bool b.s),.v (.slice b.A b.n b.c)])]⟩) (λ_ _=>True) (λi=>a.n-i.1) (⟨0,by omega,by omega⟩) O (λ_=>O) zt (λ_ _=>trivial) ?_
 rintro⟨k,uR,j⟩ g
 by_cases f:k<a.n
 .refine M<|X (decide ((k:Int)<(a.n:Int))) true Zp ?_
  obtain⟨ad,K,u⟩:=G.inn.at_ (k:=k) f;obtain⟨bd,ve,D⟩:=uS.inn.at_ (k:=k) J;refine ZA (Ki 41 (.slice a.A a.n a.c) k) (.pointer (some (ad.add k))) (λvg m h=>by rw[K];exact Kg (elem:=208) O O f)<|ZA (L4 208 (ad.add k)) (.int .u32 (dg a.l k)) (λvg m h=>K9 O (La m u))<|ZA (Ki 41 (.slice b.A b.n b.c) k) (.pointer (some (bd.add k))) (λvg m h=>by rw[ve];exact Kg (elem:=208) O O J)<|ZA (L4 208 (bd.add k)) (.int .u32 (dg b.l k)) (λvg m h=>K9 O (La m D)) ?_
  by_cases B:dg a.l k=dg b.l k
  .refine X ((((dg a.l k:Nat):Int) !=((dg b.l k:Nat):Int))) false (by rw[B];simp)<|sS 24 f r O<|sR (⟨k+1,by omega,FD j B⟩) O zo zt (λ_ _=>trivial)
  .exact X ((((dg a.l k:Nat):Int) !=((dg b.l k:Nat):Int))) true Zp<|sN O<|M<|ZX Zf (by rw[Ew λe=>B (by rw[e])])
 .refine M<|X (decide ((k:Int)<(a.n:Int))) false Zp<|sN O<|M ?_
  have L:a.l=b.l:=ky J λi hi=>j i J
  exact ZX Zt (by rw[PO o L])
theorem KT{a b:SV}{x y:Int}{K1 K2:Nat}{w:YN}{B:Bool}(c:Sy a b=B)(e:Q7 a x K1 w)(f:Q7 b y K2 w):
 Zv 164 #[a.val,b.val] w (.bool B):=by subst c;exact IQ e f
theorem cJ{a b:SV}{x y:Int}{K1 K2:Nat}{w:YN}{B:Bool}(c:Sy a b=B)(e:Q7 a x K1 w)(f:Q7 b y K2 w):
 Zv 294 #[a.val,b.val] w (.bool B):=by subst c;exact dV e f
section
variable{a b:RV}{p q:Rat}{K K1 K2:Nat}{w:YN}
theorem K_(q:Rat):(q.den:Int).natAbs=q.den:=J
def Bl(q:Rat):Nat:=max (B_ q.num.natAbs) (B_ q.den)
theorem jb(a b:Nat):(if ((b:Int)>(a:Int))then(b:Int)else(a:Int))=((max a b:Nat):Int):=by
 split<;>omega
theorem Xe(f:Ci a q K w)(g:2<=K/\K<=68719476736):
 Zv 187 #[a.val] w (I (Bl q:Nat)):=by
 exact sL func187 rfl<|M<|Z (λe c h=>Mu (f.below c) g) λx=>Z (λe c h=>PT h.2.1.i J) λu=>Z (λe c h=>PT h.1.2.2.i J) λu=>ZX (I (if ((B_ (q.den:Int).natAbs:Nat):Int)>(B_ q.num.natAbs:Nat)then((B_ (q.den:Int).natAbs:Nat):Int)else(B_ q.num.natAbs:Nat))) (by rw[K_,jb];rfl)
theorem Gt{v z:SV}{x y:Int}{K K':Nat}{w D:YN}(o:Q7 v x K w)(C:Ug z y K' D):Sy v z=(qi v.s v.l&&decide (x=y)):=by
 obtain⟨j,N,B,_⟩:=C;have u:=o.zi;have vg:=j.zi;have k:=o.abs;have r:=j.abs;unfold Sy qi
 by_cases e:x=y
 .subst e;have F:val v.l=val z.l:=by rw[<-k,<-r]
  by_cases h:trim v.l=v.l
  .have t:v.l=z.l:=by
    have c:=L8 o.inn.dig;rw[h]at c;exact c.unique N F
   have g:decide (0<v.l.length)=decide (0<x.natAbs):=by
    have c:=L8 o.inn.dig;rw[h]at c;rw[<-c.len_pos,k]
   rw[YU h,YU t,g];cases f:v.s
   .have:¬x<0:=by rw[<-u,f];simp[II.zi,Go.Proofs.YtnmokookhcgklaaGreatDoor.zi]
    rw[YU (by rw[B,YV this])];simp
   .rw[B];have m:x= -(val v.l:Int):=by rw[<-u,f];simp[Go.Proofs.YtnmokookhcgklaaGreatDoor.zi]
    by_cases A:0<x.natAbs
    .rw[YU A,YU (show x<0 by omega)];simp
    .rw[YV A,YV (show¬x<0 by omega)];simp
  .have t:v.l≠z.l:=λe=>h (by rw[e];exact N.trim)
   rw[YV h,YV t];simp
 .rw[YV e];have:¬(v.s=z.s/\v.l=z.l):=λ⟨c,m⟩=>e (by rw[<-u,<-vg,c,m])
  by_cases c:v.s=z.s
  .rw[YV (λm=>this ⟨c,m⟩)];simp
  .rw[YV c];simp
def bM(r:RV)(x y:Int):Bool:=decide (y≠0)&&(qi r.a.s r.a.l&&decide (x=(Rat.divInt x y).num))&&(qi r.b.s r.b.l&&decide (y=(Rat.divInt x y).den))
theorem pu{x y:Int}(l:Q7 a.a x K w)(f:Q7 a.b y K w)(r:2<=K/\K<=68719476736):
 Zv 246 #[a.val] w (.bool (bM a x y)):=by
 have m:Ci a (Rat.divInt x y) K w:=⟨x,y,l,f,rfl⟩
 by_cases k:y=0
 .exact sL func246 rfl<|M<|Z (λe c h=>Mu (m.below c) r) λz=>ZD 4 (λe c h=>X7 (f.below c) J) λu=>ZT 9 (.bool (Pu y !=0)) Zf (by show Value.bool (!(Pu y==0))=_;rw[Sx,YU k];rfl)<|ZX Zf (by unfold bM;rw[YV (by simpa using k)];rfl)
 .refine sL func246 rfl<|M<|Z (λe c h=>Mu (m.below c) r) λz=>ZD 4 (λe c h=>X7 (f.below c) J) λu=>ZT 9 (.bool (Pu y !=0)) Zt (by show Value.bool (!(Pu y==0))=_;rw[Sx,YV k];rfl) ?_
  have g:∀{e:YN},Oe z (Rat.divInt x y) K e->bM a x y=(Sy a.a z.a&&Sy a.b z.b):=λ{e} o=>by
   rw[Gt l o.1,Gt f o.2];unfold bM;rw[YU k,BY]
  cases j:Sy a.a z.a
  .refine Z (λe c h=>cJ j (l.below c) h.1.2.1.i) λu=>ZV Zf (λe c h=>⟨(),by rw[g (h e (AA _) λ_ _ _=>rfl).1.1.2,j];rfl,c,λ_ _ _=>trivial⟩)
  .refine Z (λe c h=>cJ j (l.below c) h.1.2.1.i) λu=>Z (λe c h=>dV (f.below c) h.1.1.2.2.i) λu=>ZV (.bool (Sy a.b z.b)) (λe c h=>⟨(),by rw[g (h e (AA _) λ_ _ _=>rfl).1.1.1.2,j];rfl,c,λ_ _ _=>trivial⟩)
end
theorem H_(y:Int):decide (Pu y<0)=decide (y<0):=by
 unfold Pu
 by_cases h:y<0
 .rw[YS h,YU h];rfl
 .rw[V h,YV h];split<;>rfl
theorem pe{a b:SV}{x y:Int}{K:Nat}{w:YN}(c:Q7 a x K w)(e:Q7 b y K w)(f:K+1<=68719476736):YG XW 352 #[a.val,b.val] w (K6 w SV.val λv w=>Ug v (x+y) (K+1) w):=
 (bY c e J).mono λ_ _ h=>h.impG λv u q=>Th q (LY c.lt e.lt)
theorem UT{x g:Int}(a:0<g):GE x g=x/g:=by
 unfold GE;rw[V J,BH _ J]
theorem cI{x y:Int}(a:y≠0):GE (if y<0 then -x else x) (AU x.natAbs y.natAbs)=(Rat.divInt x y).num:=by
 rw[UT (by have:=af (x:=x) a;omega),Rat.num_divInt];have b:(y.gcd x:Nat)=AU x.natAbs y.natAbs:=BM _ _;rw[b]
 by_cases h:y<0
 .rw[YS h,BO h];congr 1;omega
 .rw[V h,Int.sign_eq_one_of_pos J];congr 1;omega
theorem dH{x y:Int}(a:y≠0):GE (if y<0 then -y else y) (AU x.natAbs y.natAbs)=((Rat.divInt x y).den:Int):=by
 rw[UT (by have:=af (x:=x) a;omega),<-EF a,show(if y<0 then -y else y)=(y.natAbs:Int) by split<;>omega];simp[zi]
section
variable{a b:RV}{p q:Rat}{K K1 K2:Nat}{w:YN}
theorem Ir{a b:SV}{x y:Int}(v:Q7 a x K w)(k:Q7 b y K w)(A:y≠0)(B:K<=1073741824):
 YG XW 280 #[a.val,b.val] w (K6 w RV.val λr w=>Oe r (Rat.divInt x y) K w):=by
 have j:=NX v.lt k.lt A
 by_cases l:y<0
 .refine sL func280 rfl<|M<|Z (λe c h=>iQ (v.d.below c) (k.d.below c) B) λg=>Z (λe c h=>Q5 (Ep.sv false h.2) J) λG=>Z (λe c h=>R3 (k.below c) J) λu=>X (decide (Pu y<0)) true (by rw[H_,YU l])<|Z (λe c h=>QZ (v.below c) J) λn=>Z (λe c h=>QZ (k.below c) J) λd=>Z (λe c h=>Ez h.1.2.i h.1.1.1.2.i J) λs=>Z (λe c h=>Ez h.1.2.i h.1.1.1.1.2.i J) λt=>ZV (RV.val ⟨s.1,t.1⟩) (λe c h=>⟨⟨s.1,t.1⟩,rfl,c,λf o m=>⟨Th ((h f o m).1.2.1.cast (by rw[<-cI A,YS l];rfl)) j.1,Th ((h f o m).2.1.cast (by rw[<-dH A,YS l];rfl)) j.2⟩⟩)
 .refine sL func280 rfl<|M<|Z (λe c h=>iQ (v.d.below c) (k.d.below c) B) λg=>Z (λe c h=>Q5 (Ep.sv false h.2) J) λG=>Z (λe c h=>R3 (k.below c) J) λu=>X (decide (Pu y<0)) false (by rw[H_,YV l])<|Z (λe c h=>Ez (v.below c) h.1.2.i J) λs=>Z (λe c h=>Ez (k.below c) h.1.1.2.i J) λt=>ZV (RV.val ⟨s.1,t.1⟩) (λe c h=>⟨⟨s.1,t.1⟩,rfl,c,λf o m=>⟨Th ((h f o m).1.2.1.cast (by rw[<-cI A,V l];rfl)) j.1,Th ((h f o m).2.1.cast (by rw[<-dH A,V l];rfl)) j.2⟩⟩)
theorem Dj(z:Int)(w:YN)(k: -9223372036854775808<=z)(l:z<=9223372036854775807):YG XW 276 #[I z] w (K6 w RV.val λr w=>Oe r z 2 w):=by
 refine sL func276 rfl<|M<|Z (λe f h=>Xv z e k l) λx=>Z (λe f h=>Xv 1 e Zd Zd) λy=>ZV (RV.val ⟨x,y⟩) (λe f h=>⟨⟨x,y⟩,rfl,f,λc j g=>⟨(h c j g).1.2,(h c j g).2⟩⟩)
theorem dq{a b:SV}{x y:Int}{K:Nat}{w:YN}(m:Q7 a x K w)(j:Q7 b y K w)(o:K<=1073741824):
 YG XW 308 #[a.val,b.val] w (K6 w (OQ y) λr w=>KL r x y K w):=by
 by_cases e:y=0
 .refine sL func308 rfl<|M<|Z (λg c h=>R3 (j.below c) J) λu=>X (Pu y==0) true (by rw[Sx,YU e])<|ZV (.tuple #[Yh.val,I 9]) (λg c h=>⟨Yh,by unfold OQ;rw[EI e],c,λf l k=> .zero e⟩)
 .refine sL func308 rfl<|M<|Z (λg c h=>R3 (j.below c) J) λu=>X (Pu y==0) false (by rw[Sx,YV e])<|Z (λg c h=>Ir (m.below c) (j.below c) e o) λr=>ZV (.tuple #[r.val,I 0]) (λg c h=>⟨r,by unfold OQ;rw[Io e],c,λf l k=> .of e (h f l k).2⟩)
theorem M9(t:Ci a q K w)(o:2<=K/\K<=1073741824):
 YG XW 223 #[a.val] w (K6 w RV.val λr w=>Oe r q K w):=by
 obtain⟨x,y,v,m,s⟩:=t
 by_cases k:y=0
 .have l:q=0:=by rw[s,k,Cb]
  refine sL func223 rfl<|M<|Z (λf c h=>R3 (m.below c) J) λu=>X (Pu y==0) true (by rw[Sx,YU k])<|Z (λf c h=>Dj 0 f Zd Zd) λz=>ZV (RV.val z) (λf c h=>⟨z,rfl,c,λe j g=>by rw[l];exact⟨(h e j g).2.1.mono o.1,(h e j g).2.2.mono o.1⟩⟩)
 .refine sL func223 rfl<|M<|Z (λf c h=>R3 (m.below c) J) λu=>X (Pu y==0) false (by rw[Sx,YV k])<|Z (λf c h=>Ir (v.below c) (m.below c) k o.2) λr=>ZV (RV.val r) (λf c h=>⟨r,rfl,c,λe j g=>by rw[s];exact(h e j g).2⟩)
theorem dU(f:Ci a p K1 w)(g:Ci b q K2 w)(j:2<=K1/\2<=K2/\K1+K2<=1073741824):
 Zv 274 #[a.val,b.val] w (I (Ub p q)):=by
 exact sL func274 rfl<|M<|Z (λe c h=>M9 (f.below c) J) λx=>Z (λe c h=>M9 (g.below c) J) λy=>Z (λe c h=>Gu h.1.2.1.i h.2.2.i J) λu=>Z (λe c h=>Gu h.1.2.1.i h.1.1.2.2.i J) λv=>Z (λe c h=>Wg h.1.2.i h.2.i J) λu=>ZX (I (Pu (p.num*q.den-q.num*p.den))) (by rw[cK];rfl)
theorem mG(k:Ci a p K1 w)(l:2<=K1/\K1<=1073741824):
 YG XW 346 #[a.val] w (K6 w RV.val λr w=>Oe r (-p) K1 w):=by
 refine sL func346 rfl<|M<|Z (λj e h=>M9 (k.below e) l) λx=>Z (λj e h=>QZ h.2.1.i J) λu=>ZV (RV.val ⟨u,x.b⟩) (λj e h=>⟨⟨u,x.b⟩,rfl,e,λc g f=>⟨(h c g f).2,(h c g f).1.2.2⟩⟩)
theorem nr(j:Ci a p K1 w)(l:Ci b q K2 w)(m:2<=K1/\2<=K2/\K1+K2<=1073741820):
 YG XW 345 #[a.val,b.val] w (K6 w RV.val λr w=>Oe r (p+q) (K1+K2+1) w):=by
 refine sL func345 rfl<|M<|Z (λe c h=>M9 (j.below c) J) λx=>Z (λe c h=>M9 (l.below c) J) λy=>Z (λe c h=>Gu h.1.2.1.i h.2.2.i J) λu=>Z (λe c h=>Gu h.1.2.1.i h.1.1.2.2.i J) λv=>Z (λe c h=>pe h.1.2.i (h.2.i.mono (show K2+K1<=K1+K2 by omega)) J) λs=>Z (λe c h=>Gu h.1.1.1.1.2.2.i h.1.1.1.2.2.i J) λd=>Z (λe c h=>Ir h.1.2.i (h.2.i.mono J) (Cd p q) J) λr=>ZV (RV.val r) (λe c h=>⟨r,rfl,c,λf k g=>(h f k g).2.cast ZN⟩)
theorem gH(p q:Rat):p+ -q=p-q:=by grind
theorem ma(j:Ci a p K1 w)(l:Ci b q K2 w)(m:2<=K1/\2<=K2/\K1+K2<=1073741820):
 YG XW 311 #[a.val,b.val] w (K6 w RV.val λr w=>Oe r (p-q) (K1+K2+1) w):=by
 refine sL func311 rfl<|M<|Z (λf c h=>mG (l.below c) J) λn=>Z (λf c h=>nr (j.below c) h.2.q m) λr=>ZV (RV.val r) (λf c h=>⟨r,rfl,c,λe k g=>(h e k g).2.cast (gH p q)⟩)
theorem ck(j:Ci a p K1 w)(l:Ci b q K2 w)(m:2<=K1/\2<=K2/\K1+K2<=1073741820):
 YG XW 312 #[a.val,b.val] w (K6 w RV.val λr w=>Oe r (p*q) (K1+K2) w):=by
 refine sL func312 rfl<|M<|Z (λe c h=>M9 (j.below c) J) λx=>Z (λe c h=>M9 (l.below c) J) λy=>Z (λe c h=>Gu h.1.2.1.i h.2.1.i J) λn=>Z (λe c h=>Gu h.1.1.2.2.i h.1.2.2.i J) λd=>Z (λe c h=>Ir h.1.2.i h.2.i (Cd p q) J) λr=>ZV (RV.val r) (λe c h=>⟨r,rfl,c,λf k g=>(h f k g).2.cast KB⟩)
theorem Uy(f:Ci a q K w)(g:2<=K/\K<=1073741824):
 Zv 309 #[a.val] w (I (Bl q:Nat)):=by
 exact sL func309 rfl<|M<|Z (λe c h=>M9 (f.below c) g) λx=>Z (λe c h=>OE h.2.1.i J) λu=>Z (λe c h=>OE h.1.2.2.i J) λu=>ZX (I (if ((B_ (q.den:Int).natAbs:Nat):Int)>(B_ q.num.natAbs:Nat)then((B_ (q.den:Int).natAbs:Nat):Int)else(B_ q.num.natAbs:Nat))) (by rw[K_,jb];rfl)
def W6(a b:RV):Bool:=Sy a.a b.a&&Sy a.b b.b
theorem nk{x y z t:Int}(j:Q7 a.a x K w)(k:Q7 a.b y K w)(f:Q7 b.a z K1 w)(l:Q7 b.b t K1 w):
 Zv 93 #[a.val,b.val] w (.bool (W6 a b)):=by
 cases e:Sy a.a b.a
 .exact sL func93 rfl<|M<|Z (λg c h=>KT e (j.below c) (f.below c)) λu=>ZX Zf (by unfold W6;rw[e];rfl)
 .exact sL func93 rfl<|M<|Z (λg c h=>KT e (j.below c) (f.below c)) λu=>Z (λg c h=>IQ (k.below c) (l.below c)) λu=>ZX (.bool (Sy a.b b.b)) (by unfold W6;rw[e];rfl)
theorem m5{x y z t:Int}{B:Bool}(e:W6 a b=B)(g:Q7 a.a x K w)(c:Q7 a.b y K w)(f:Q7 b.a z K1 w)(h:Q7 b.b t K1 w):
 Zv 93 #[a.val,b.val] w (.bool B):=by subst e;exact nk g c f h
end
theorem bS{v:SV}{x:Int}{K:Nat}{w:YN}(h:Ug v x K w):qi v.s v.l=true:=by
 obtain⟨c,N,b,_⟩:=h;have a:=c.abs;unfold qi;rw[YU N.trim,<-N.len_pos,<-a];cases e:v.s
 .rfl
 .rw[e]at b;have:x<0:=by simpa using b.symm
  rw[YU J];rfl
theorem ts{P:YK}{f:YE}{e:Func}{args:Array YM}{W w:YN}{uY:YC->YN->Prop}
 (o:P.funcs[f]? =some e) (v:e.body.isSome=true) (s:Below W.heap.size W w)
 (h:K0 P [] W (bodyPost P e uY) (λu=>w.heap.size<=u.heap.size/\∀b,W.heap.size<=b->b<w.heap.size->u.heap[b]? =w.heap[b]?) (Uf e args)):YG P f args w uY:=by
 obtain⟨c,g⟩:=BD.1 v;replace h:=h.get;simp only[Vt,Uf,g,CR]at h;refine calls_of_wp o g (h ?_ (λ_=>0) _ w ?_)
 .refine⟨λx m k a=> ?_,λj cs r=>by cases r⟩;simp only[DU,DZ,List.mem_replicate]at m;rcases m with ⟨q,_,rfl⟩|⟨_,rfl⟩<;>simp[AV.ids]at a
 .refine⟨?_,rfl,s,λk cs a=>(by cases a),λk y a=>(by cases a),λA l=>⟨l.size,λb t p=>l.heap b t p (λk a=>by cases a)⟩⟩;simp[DK,AV.conc]
section
variable{P:YK}{Δ:List YI}{W:YN}{Q:Exit->Act->YN->Prop}{Φ Φ':YW}{c:Ob}
theorem s8{L:List Nat}{G:YW}(s:Sem Next)
 (uY:∀w,Below W.heap.size W w->Φ w->∃r,s.run P w= .ok .skip r/\SM L w r/\∀g,r.heap.size<=g.heap.size->(∀b∈L,g.heap[b]? =r.heap[b]?)->G g) (uW:Bk W L Φ) (vg:Hw L Φ G Φ')
 (uR:Rt c=true) (f:Vy c=some s) (h:K0 P Δ W Q Φ' (Lf (.v undef) c)):K0 P Δ W Q Φ c:=by
 obtain⟨uU,k,σ⟩:=c;replace h:=h.get;refine⟨?_⟩;replace f:=(Rc f).1;unfold Ue at f;split at f
 .rename_i ve o j;split at f
  .cases f
  .cases f
  .rename_i C K;split at f
   .rename_i D;simp only[DQ]at D;injection f with f;subst f;unfold P1 at j;simp only at j;split at j
    .rename_i p i l;cases m:p[i]? with
     |none=>rw[m]at j;cases j
     | some F=>
      rw[m]at j;simp only[CD,CN,CL]at j;obtain⟨rfl,rfl⟩:=j;intro B β a w y;show wpOps P p (post P Q k) (i::l) a w;rw[wpOps_cons];unfold wpOp;simp only[m,Mw y,D.1,if_true];refine .inl ?_;have u:∀x∈F.op.operands,a.eval x=σ.rho x:=λx T=>by
       rw[y.eval,tp];· rfl
       exact CA.1 D.2 x (by simpa using T)
      obtain⟨r,t,A,uZ⟩:=uY w y.bel y.phi;unfold Oper.wp;rw[execOp_congr F (λcs b e=>C cs b e) u,t];simp only[Vt,Lf,m,DR]at h;exact h (B.put _ (by intro k N;simp[AV.ids]at N)) β _ r ((y.mut uW A (λg vf uS=>uZ g vf λb S=>uS b (.inl S)) vg).put F.dst (.v undef))
    .cases uR
    .cases j
   .cases f
 .cases f
end
def Uk(t:YH)(p:YB)(v:YM):Sem Next:=Instr.storeAt t (.pointer (some p)) v >>= λ_=>(pure .skip:Sem Next)
def K7(w:YN)(g:Nat)(cs:List YM):Prop:=∃t,w.heap[g]? =some (.cells cs.toArray t (0,0))
theorem K7.range{w:YN}{g:Nat}{cs:List YM}(h:K7 w g cs):w.rangeAt g 0 cs:=by
 obtain⟨t,h⟩:=h;intro j v a;simp only[BW,h,BL,BC,if_false,BK];simpa using a
theorem K7.store{P:YK}{t:YH}{w:YN}{g:Nat}{cs:List YM}{v:YM}(h:K7 w g cs)(m:Ot P t=some cs.length)(j:v.cells.size=cs.length)(p:∀u∈v.cells.toList,u.oneCell'=true):
 ∃f,(Uk t ⟨g,0,none⟩ v).run P w= .ok .skip f/\SM [g] w f/\∀a,f.heap.size<=a.heap.size->(∀b∈[g],a.heap[b]? =f.heap[b]?)->K7 a g v.cells.toList:=by
 obtain⟨ty,h⟩:=h;have e:=run_storeCells_at P g 0 ty v.cells.toList 0 cs.toArray w h Zp p;have c:((cs.toArray.toList.take (0+0)++v.cells.toList++cs.toArray.toList.drop (0+0+v.cells.toList.length)).toArray)=v.cells:=by
  simp[j]
 rw[c]at e;refine⟨w.setRow g v.cells,?_,⟨rfl,rfl,rfl,by rw[Qt];exact AA _,λk _ o=>Q2 _ _ _ _ (by simpa using o)⟩,λa r l=>⟨ty,?_⟩⟩
 .simp only[Uk,Instr.storeAt,Instr.sureAddr,storeVar,AE,AJ,AC,M0 m];rw[V (by simpa using j)];simp only[e,AJ,AE,AC]
 .rw[l g Zs];simp only[World.setRow,CT,if_true,h,CD,CE]
theorem K7.left{w a:YN}{g:Nat}{cs:List YM}{L:List Nat}(h:K7 a g cs)(c:∀b,b∉L->a.heap[b]? =w.heap[b]?)(e:g∉L):K7 w g cs:=by
 obtain⟨t,h⟩:=h;exact⟨t,(c g e).symm.trans h⟩
section
variable{w:YN}
def fu(t:YH)(v:YM):Sem Next:=Instr.box t v >>= λv=>pure (.value v)
def Cx(t:YH):Sem Next:=Instr.alloc t true (.tuple #[]) >>= λv=>pure (.value v)
def X0(g:Nat):YM:=Zq g 0
theorem Y6(w:YN)(o:Obj){a:YN}(f:(w.alloc o).heap.size<=a.heap.size)(c:∀b,w.heap.size<=b->b<(w.alloc o).heap.size->a.heap[b]? =(w.alloc o).heap[b]?):a.heap[w.heap.size]? =some o/\w.heap.size<a.heap.size:=by
 have e:(w.alloc o).heap.size=w.heap.size+1:=Zs
 refine⟨?_,by omega⟩;rw[c w.heap.size (AA _) J];show(w.heap.push _)[w.heap.size]? =_;simp
theorem J3{P:YK}{t:YH}{v:YM}{N:Nat}(e:N<=w.heap.size):Lw P w X0 (λg u=>K7 u g v.cells.toList/\N<=g/\g<u.heap.size) (fu t v):=
 ⟨w.heap.size,w.alloc (.cells v.cells t),by simp only[fu,Instr.box,AE,Xs,AC,AJ,X0],Xk _ _,λc a b=>⟨⟨t,by rw[(Y6 w _ a b).1,CE]⟩,e,(Y6 w _ a b).2⟩⟩
theorem E0{P:YK}{t:YH}{z:YM}{N:Nat}(f:Bp P t=some z)(e:N<=w.heap.size):Lw P w X0 (λg u=>K7 u g z.cells.toList/\N<=g/\g<u.heap.size) (Cx t):=
 ⟨w.heap.size,w.alloc (.cells z.cells t),by simp only[Cx,Instr.alloc,AE,Xr f,Xs,AC,AJ,X0],Xk _ _,λc a b=>⟨⟨t,by rw[(Y6 w _ a b).1,CE]⟩,e,(Y6 w _ a b).2⟩⟩
end
section
variable{P:YK}{Δ:List YI}{W:YN}{Q:Exit->Act->YN->Prop}{Φ Φ':YW}{c:Ob}
theorem tu(b:Bool)(a:EK c=some b)(f:b=true->K0 P Δ W Q Φ (Em true c))(e:b=false->K0 P Δ W Q Φ (Em false c)):K0 P Δ W Q Φ c:=by
 cases b
 .exact sW false a (e rfl)
 .exact sW true a (f rfl)
theorem tY(t:Nat)(b:Bool)(a:c.st.tmps[t]? =some (.v (.bool b)))(e:b=true->K0 P Δ W Q Φ (Ma t Zt c))(f:b=false->K0 P Δ W Q Φ (Ma t Zf c)):K0 P Δ W Q Φ c:=by
 cases b
 .exact sM t _ _ a rfl (f rfl)
 .exact sM t _ _ a rfl (e rfl)
def qA(c:Ob):Ob:=(B9 c).getD c
theorem tx(a:(B9 c).isSome=true)(h:K0 P Δ W Q Φ (qA c)):K0 P Δ W Q Φ c:=by
 unfold qA at h;cases e:B9 c with
 |none=>rw[e]at a;cases a
 |some c'=>rw[e]at h;exact ug e h
def HU(k:Nat)(b:Nat->Option (List AV)):Nat->Option (List AV):=λj=>
 if EA j k then none else match b j with
  |some cs=>if cs.all AV.isV then some cs else none
  |none=>none
def NK(b:Nat->Option (List AV))(g:Nat->YM):List AV->Nat->List AV
 | [],_=>[]
 |x::l,t=>(if x.ids.all (λi=>(b i).isSome)then x else .v (g t))::NK b g l (t+1)
def gS(k:Nat)(g:Nat->YM)(c:Ob):Ob:=⟨c.foc,c.k,⟨NK (HU k c.st.box) g c.st.tmps 0,HU k c.st.box⟩⟩
theorem EU(b:Nat->Option (List AV))(g:Nat->YM):∀(l:List AV) (t j:Nat),(NK b g l t)[j]? =(l[j]?).map λx=>if x.ids.all (λi=>(b i).isSome)then x else .v (g (t+j))
 | [],t,j=>by simp[NK]
 |x::l,t,0=>by simp[NK]
 |x::l,t,j+1=>by
  simp only[NK,List.getElem?_cons_succ];rw[EU b g l (t+1) j,show t+1+j=t+(j+1) by omega]
theorem U9{k j:Nat}{b:Nat->Option (List AV)}{cs:List AV}(h:HU k b j=some cs):b j=some cs/\cs.all AV.isV=true:=by
 unfold HU at h;split at h
 .cases h
 .split at h
  .rename_i cs' e;split at h
   .rename_i a;injection h with h;subst h;exact⟨e,a⟩
   .cases h
  .cases h
def ca(c:Ob):Bool:=match c.foc with| .code _=>true|_=>false
theorem ti(k:Nat)(o:ca c=true)(h:∀g,K0 P Δ W Q Φ (gS k g c)):K0 P Δ W Q Φ c:=by
 obtain⟨ve,L,σ⟩:=c;refine⟨?_⟩;unfold ca at o;simp only at o;split at o
 .rename_i x;intro C β a w f;have u:=(h λt=>a.tmps.getD t undef).get;simp only[Vt,gS]at u;refine u ?_ β a w ?_
  .refine⟨λx r i hi=> ?_,λj cs m x r i hi=> ?_⟩
   .obtain⟨t,A⟩:=CW.1 r;rw[EU]at A;obtain⟨y,K,e⟩:=BX.1 A;split at e
    .rename_i l;subst e;exact CA.1 l i hi
    .subst e;simp[AV.ids]at hi
   .have:=CA.1 (U9 m).2 x r;cases x<;>first|(simp[AV.ids]at hi;done)|cases this
  .have s:a.tmps.toList.length=σ.tmps.length:=by rw[f.tmps,DW]
   refine⟨DI λj=> ?_,f.defers,f.bel,λk cs F=>f.box k cs (U9 F).1,λi j hi m e=> ?_,λG v=>f.keep G ⟨v.size,λb vf D vg=>v.heap b vf D λi hi=> ?_⟩⟩
   .rw[DL,EU,f.tmps,DL];cases m:σ.tmps[j]? with
    |none=>rfl
    | some x=>
     simp only[CD,BK];split
     .rfl
     .congr 1;have:=f.eval (.tmp j);simp only[Act.eval,AS.eval,CM,m,CR]at this;exact this.symm
   .obtain⟨uS,p⟩:=BD.1 hi;obtain⟨c2,B⟩:=BD.1 m;exact f.inj i j (by rw[(U9 p).1];rfl) (by rw[(U9 B).1];rfl) e
   .obtain⟨uS,p⟩:=BD.1 hi;exact vg i (by rw[(U9 p).1];rfl)
 .cases o
def c9(P:YK)(c:Ob):Option YI:=
 match P1 c with
 |some (a,o)=>match o.op with
  | .defer k=>if Lc a o c.st&&c.st.plain o.op then ll P (resolve c.st.rho k o.type)else none
  |_=>none
 |none=>none
theorem ui(d:YI)(D:Rt c=true)(j:c9 P c=some d)(h:K0 P (d::Δ) W Q Φ (Lf (.v undef) c)):K0 P Δ W Q Φ c:=by
 obtain⟨G,k,σ⟩:=c;replace h:=h.get;refine⟨?_⟩;unfold c9 at j;split at j
 .rename_i C o f;split at j
  .rename_i uS t;split at j
   .rename_i B;simp only[DQ]at B;unfold P1 at f;simp only at f;split at f
    .rename_i p i l;cases g:p[i]? with
     |none=>rw[g]at f;cases f
     | some u=>
      rw[g]at f;simp only[CD,CN,CL]at f;obtain⟨rfl,rfl⟩:=f;intro A β a w m;show wpOps P p (post P Q k) (i::l) a w;rw[wpOps_cons];unfold wpOp;simp only[g,Mw m,B.1,if_true];refine .inl ?_;have s:∀x∈u.op.operands,a.eval x=σ.rho x:=λx F=>by
       rw[m.eval,tp];· rfl
       exact CA.1 B.2 x (by simpa using F)
      have r:(execOp σ.rho u).run P w= .ok (.defer d) w:=by
       unfold execOp;simp only[t,AE,dL j w,AC,AJ]
      unfold Oper.wp;rw[execOp_congr u (λcs b e=>by rw[t]at e;cases e) s,r];simp only[Vt,Lf,g,DR]at h;have y:Re (d::Δ) W β σ Φ {a with defers:=d::a.defers} w:=⟨m.tmps,congrArg (d::·) m.defers,m.bel,m.box,m.inj,m.keep⟩
      exact h (A.put _ (by intro k vg;simp[AV.ids]at vg)) β _ w (y.put u.dst (.v undef))
    .cases D
    .cases f
   .cases j
  .cases j
 .cases j
end
theorem Me{P:YK}{t elem:YH}{g n c k s:Nat}{w:YN}(b:P.underlying t=some (.slice elem))(a:Ot P elem=some s)(f:k<n):
 (Ki t (.slice (some ⟨g,0,none⟩) n c) k).run P w= .ok (.value (Zq g (k*s))) w:=by
 have e:0<=(k:Int)/\(k:Int)<(n:Int):=J
 simp only[Ki,Instr.indexAt,asIntOf,AE,AJ,AC,run_underlying b,M0 a,YS e,AL,Addr.add_mid,BK]
theorem Nh{P:YK}{t:YH}{g a:Nat}{vs:List YM}{w:YN}(e:Tg P t=some true)(j:Ot P t=some vs.length)(h:w.rangeAt g a vs):
 (L4 t ⟨g,a,none⟩).run P w= .ok (.value (.agg vs.toArray)) w:=by
 have b:∀d:TypeDesc,P.underlying t=some d->d.isRow=true->(loadVar t ⟨g,a,none⟩).run P w= .ok (.agg vs.toArray) w:=λd c f=>
  run_loadVar_mid w g a t vs d h c f j
 have k:(loadVar t ⟨g,a,none⟩).run P w= .ok (.agg vs.toArray) w:=by
  unfold Tg at e;split at e
  .rename_i c;exact b _ c rfl
  .rename_i c;exact b _ c rfl
  .cases e
  .cases e
 simp only[L4,AE,Instr.loadAt,Instr.sureAddr,AJ,AC,k]
def RV.cl(r:RV):List YM:=[.bool r.a.s,.slice r.a.A r.a.n r.a.c,.bool r.b.s,.slice r.b.A r.b.n r.b.c]
theorem Ug.below{v:SV}{x:Int}{K:Nat}{w b:YN}(h:Ug v x K w)(a:Below w.heap.size w b):Ug v x K b:=⟨h.1.below a,h.2.1,h.2.2.1,h.2.2.2.below a⟩
theorem Oe.below{r:RV}{q:Rat}{K:Nat}{w b:YN}(h:Oe r q K w)(a:Below w.heap.size w b):Oe r q K b:=⟨h.1.below a,h.2.below a⟩
theorem Qa{P:YK}{t elem:YH}{ad:YB}{n c k s:Nat}{w:YN}(b:P.underlying t=some (.slice elem))(a:Ot P elem=some s)(f:k<n):
 (Ki t (.slice (some ad) n c) k).run P w= .ok (.value (.pointer (some (ad.add (k*s))))) w:=by
 have e:0<=(k:Int)/\(k:Int)<(n:Int):=J
 simp only[Ki,Instr.indexAt,asIntOf,AE,AJ,AC,run_underlying b,M0 a,YS e,AL]
theorem Rn{P:YK}{t:YH}{ad:YB}{vs:List YM}{w:YN}(a:Tg P t=some true)(e:Ot P t=some vs.length)(h:∀j v,vs[j]? =some v->w.cell? (ad.add j)=some v):
 (L4 t ad).run P w= .ok (.value (.agg vs.toArray)) w:=by
 have f:(loadCells ad vs.length).run P w= .ok vs.toArray w:=run_loadCells_list (P:=P) w ad vs h;have b:(isAgg t).run P w= .ok true w:=by
  unfold Tg at a;split at a
  .rename_i c;unfold isAgg;rw[AE,run_underlying c w];rfl
  .rename_i c;unfold isAgg;rw[AE,run_underlying c w];rfl
  .cases a
  .cases a
 simp only[L4,Instr.loadAt,Instr.sureAddr,loadVar,AE,AJ,AC,b,if_true,M0 e,f]
theorem K7.mid{w:YN}{g:Nat}{a b:List YM}(h:K7 w g (a++b)):w.rangeAt g a.length b:=by
 obtain⟨t,h⟩:=h;intro j v c;simp only[BW,h,BL,BC,if_false];rw[CX,List.getElem?_append_right J,Nat.add_sub_cancel_left];exact c
theorem K7.fst{w:YN}{g:Nat}{a b:List YM}(h:K7 w g (a++b)):w.rangeAt g 0 a:=by
 obtain⟨t,h⟩:=h;intro j v c;simp only[BW,h,BL,BC,if_false,BK];rw[CX,List.getElem?_append_left (AX.1 c).1];exact c
theorem VO{P:YK}{f:YE}{e:Func}{args:Array YM}{W w:YN}{c:Code}{Q:Exit->Act->YN->Prop}(p:e.body=some c)(r:Below W.heap.size W w)
 (h:K0 P [] W Q (λu=>w.heap.size<=u.heap.size/\∀b,W.heap.size<=b->b<w.heap.size->u.heap[b]? =w.heap[b]?) (Uf e args)):
 c.wp P Q {tmps:=args++Array.replicate (e.ntmps-args.size) undef,defers:=[]} w:=by
 replace h:=h.get;simp only[Vt,Uf,p,CR]at h;refine h ?_ (λ_=>0) _ w ?_
 .refine⟨λx l k a=> ?_,λj cs o=>by cases o⟩;simp only[DU,DZ,List.mem_replicate]at l;rcases l with ⟨q,_,rfl⟩|⟨_,rfl⟩<;>simp[AV.ids]at a
 .refine⟨?_,rfl,r,λk cs a=>(by cases a),λk t a=>(by cases a),λv g=>⟨g.size,λb s m=>g.heap b s m (λk a=>by cases a)⟩⟩;simp[DK,AV.conc]
theorem uh{P:YK}{f:YE}{a:Func}{args:Array YM}{W w:YN}{uY:YC->YN->Prop}
 (k:P.funcs[f]? =some a) (j:a.body.isSome=true) (g:Below W.heap.size W w)
 (h:K0 P [] W (bodyPostD P a uY) (λu=>w.heap.size<=u.heap.size/\∀b,W.heap.size<=b->b<w.heap.size->u.heap[b]? =w.heap[b]?) (Uf a args)):YG P f args w uY:=by
 obtain⟨c,e⟩:=BD.1 j;exact calls_of_wp_defers k e (VO (f:=f) e g h)
def i9(a:Func)(c:Ob):Option (Nat×YH):=
 match c.foc,c.k,a.results.toList with
 | .out .ret,[],[.cell t ty]=>match c.st.tmps.getD t (.v undef)with
  | .v (.pointer (some ⟨g,0,none⟩))=>some (g,ty)
  |_=>none
 |_,_,_=>none
theorem uL{P:YK}{W:YN}{Φ:YW}{c:Ob}{fn:Func}{uY:YC->YN->Prop}{y:Fn}{cap b:Array YM}{f:YE}{args:Array YM}(g:Nat)(ty:YH)
 (j:i9 fn c=some (g,ty)) (hi:∀w,(invoke (.fn y cap) b).run P w= .ok (.enter f args) w)
 (h:∀w,Below W.heap.size W w->Φ w->CallsD P f args .returning w λe u o=>u= .returning/\∃x v,e= .returned x/\(loadVar ty ⟨g,0,none⟩).run P o= .ok v o/\uY (.returned v) o):
 K0 P [⟨.fn y cap,b⟩] W (bodyPostD P fn uY) Φ c:=by
 obtain⟨F,k,σ⟩:=c;refine⟨?_⟩;unfold i9 at j;split at j
 .rename_i A p r;split at j
  .rename_i s;injection j with j;injection j with e1 e2;subst e1;subst e2;simp only at A p r s;subst A;subst p;intro B β a w m;show Leaves P fn a.tmps uY a.defers .returning w;rw[m.defers];refine leaves_cons Zs (hi w) ((h w m.bel m.phi).mono λe G o D=> ?_);obtain⟨rfl,x,v,rfl,C,vg⟩:=D;refine⟨v,?_,vg⟩;rename_i _ t ty _ g;have l:a.tmps.getD t undef=Zq g 0:=by
    have:=m.eval (.tmp t);simp only[Act.eval,AS.eval,s,AV.conc]at this;exact this
   rw[Yq,AE,Array.mapM_eq_mapM_toList,Sem.run_map,r,List.mapM_cons,AE];simp only[Dm,l,asAddr,AE,AJ,AC,C,List.mapM_nil]
   rfl
  .cases j
 .cases j
theorem TX{v z:SV}{x y:Int}{K K':Nat}{w c:YN}(a:Ug v x K w)(b:Ug z y K' c):Sy v z=decide (x=y):=by
 rw[Gt a.i b,bS a,BY]
theorem fd{a b:RV}{p q:Rat}{K K':Nat}{w g:YN}(c:Oe a p K w)(f:Oe b q K' g):W6 a b=decide (p=q):=by
 unfold W6;rw[TX c.1 f.1,TX c.2 f.2]
 by_cases e:p=q
 .subst e;simp
 .rw[YV e]
  by_cases h:p.num=q.num
  .rw[YV (λ(k:(p.den:Int)=q.den)=>e (Rat.ext h J))];simp
  .rw[YV h];rfl
section
variable{a b:RV}{p q:Rat}{K K1 K2:Nat}{w:YN}
theorem gY{B:Bool}(e:Oe a p K w)(c:Oe b q K1 w)(h:decide (p=q)=B):Zv 93 #[a.val,b.val] w (.bool B):=
 m5 (by rw[fd e c];exact h) e.1.i e.2.i c.1.i c.2.i
theorem QB{x y:Int}{B:Bool}(e:bM a x y=B)(f:Q7 a.a x K w)(c:Q7 a.b y K w)(g:2<=K/\K<=68719476736):
 Zv 246 #[a.val] w (.bool B):=by subst e;exact pu f c g
end
theorem al(s:ByteArray)(hs:s.size<=9223372036854775807)(w:YN):
 YG XW 262 #[.string s] w (Od w s.data.toList):=by
 have N:s.data.toList.length=s.size:=Zs
 obtain⟨l,hl⟩:∃l,l=s.data.toList:=⟨_,rfl⟩
 rw[<-hl]at N ⊢;have HL:=Kv (And.intro hl N);have v:Hid (∀k (h:k<s.size),l[k]? =some s[k]):=λk h=>by rw[hl];exact cz s h
 clear hl N
 by_cases C:s.size=0
 .have f:l=[]:=AB.1 (by rw[(U HL).2];exact C);have uV:s.toList=[]:=by rw[ByteArray.toList_eq,<-(U HL).1,f]
  have t2:(!s.toList.isEmpty)=false:=by rw[uV];rfl
  have t3:s.toList.isEmpty=true:=by rw[uV];rfl
  have c:Hid (L3 l=3):=by
   show _=_;rw[f];rfl
  have Hm:=Kv (And.intro C f);clear C f;go_enter func262,ntmps262;go_wp2_with fail;go_ret2;exact tL (U c) Zd rfl
 .have S:0<s.size:=J
  have f:l≠[]:=by
   intro e;have:=(U HL).2;rw[e]at this;simp only[AW]at this;omega
  have K:Hid (l.head? =some s[0]):=by
   show _=_;rw[<-U v 0 S,List.head?_eq_getElem?]
  have t0:s.toList≠[]:=by rw[ByteArray.toList_eq,<-(U HL).1];exact f
  have t3:s.toList.isEmpty=false:=by
   rcases hx:s.toList.isEmpty with _|_
   .rfl
   .exact absurd (List.isEmpty_iff.1 hx) t0
  have Hn:=Kv f;clear C f t0
  by_cases vf:s[0]=48/\1<s.size
  .have t4:((s[0].toNat:Int)==48)=true:=by rw[vf.1];rfl
   have t5:(1:Int)<(s.size:Int):=J
   have c:Hid (L3 l=3):=by
    show _=_;unfold L3;split
    .rfl
    .rw[YS (Or.inr ⟨by rw[U K,vf.1],by rw[(U HL).2];exact vf.2⟩)]
   clear vf;go_enter func262,ntmps262;go_wp2_with fail;go_ret2;exact tL (U c) Zd rfl
  .have A:Hid (¬(l=[]\/(l.head? =some 48/\1<l.length))):=by
    rintro(h|⟨B,h2⟩)
    .exact U Hn h
    .rw[U K]at B;injection B with B;exact vf ⟨B,by rw[<-(U HL).2];exact h2⟩
   have uR:((1:Int)<(s.size:Int)/\((s[0].toNat:Int)==48)=false)\/¬(1:Int)<(s.size:Int):=by
    by_cases h:1<s.size
    .left;refine⟨by omega,?_⟩;simp;intro e;exact vf ⟨BQ.1 (by simpa using(by omega:s[0].toNat=48)),h⟩
    .right;omega
   clear vf;obtain⟨i0,hi0,hz0,hz1,hz2⟩:=info_parts Tryz.info_u32;have hpe:Hid (JY l=true->1000<s.size->L3 l=5):=by
    intro g h;rw[L3,V (by rw[g];decide),V (U A),YS (by rw[(U HL).2];exact h)]
   have Q:Hid (JY l=true->¬1000<s.size->L3 l=0):=by
    intro g h;rw[L3,V (by rw[g];decide),V (U A),V (by rw[(U HL).2];exact h)]
   rcases uR with ⟨t5,t4⟩|t5
   all_goals
    go_enter func262,ntmps262;go_wp2_with fail;go_loop [4] (λG=>∃k:Nat,k<=s.size/\G=I k/\Hid (∀(j:Nat) (b:UInt8),j<k->l[j]? =some b->48<=b.toNat/\b.toNat<58)) (λG=>s.size- (intOf G).toNat)
    case atStart=>exact⟨0,AH _,rfl,λj b hj=>absurd hj J⟩
    case round=>
     obtain⟨k,hk,rfl,hI⟩:=hrel
     by_cases o:k<s.size
     .have tk:(k:Int)<(s.size:Int):=J
      by_cases hd:48<=s[k].toNat/\s[k].toNat<58
      .obtain⟨d1,d2⟩:=hd;have uV:¬((s[k].toNat:Int)<48):=J
       have t2:¬((57:Int)<(s[k].toNat:Int)):=J
       go_wp2_with fail;go_round
       case rel=>
        refine⟨k+1,by omega,by go_num,λj b hj vg=> ?_⟩
        by_cases e:j=k
        .subst e;rw[U v j o]at vg;injection vg with vg;subst vg;exact⟨d1,d2⟩
        .exact U hI j b J vg
       case measure=>simp[intOf];omega
      .have c:Hid (L3 l=3):=by
        show _=_;rw[L3,YS (XF (U v k o) hd)]
       by_cases B:s[k].toNat<48
       .have uV:((s[k].toNat:Int)<48):=J
        clear hd B;go_wp2_with fail;go_ret2;exact tL (U c) Zd rfl
       .have uV:¬((s[k].toNat:Int)<48):=J
        have t2:((57:Int)<(s[k].toNat:Int)):=J
        clear hd B;go_wp2_with fail;go_ret2;exact tL (U c) Zd rfl
     .obtain rfl:k=s.size:=J
      have g:Hid (JY l=true):=OH λj b vg=>U hI j b (by
       have:=(AX.1 vg).1;have:=(U HL).2;omega) vg
      clear hI o
      by_cases F:1000<s.size
      .have t6:(1000:Int)<(s.size:Int):=J
       have c:Hid (L3 l=5):=U hpe (U g) F;go_wp2_with fail;go_ret2;exact tL (U c) Zd rfl
      .have t6:¬(1000:Int)<(s.size:Int):=J
       have y:Hid (L3 l=0):=U Q (U g) F;clear hpe Q A K;go_wp2_with fail;go_loopw [5,6] (λsa G wx=>∃(k:Nat) (uX:YY) (p r:Nat) (x:List Nat),k<=s.size/\G=I k/\sa= .slice uX p r/\Qp wx w.heap.size uX p r x/\Na x/\p<=k/\Hid (val x=gx (l.take k))/\Below w.heap.size w wx) (λ_ G _=>s.size- (intOf G).toNat)
       case atStart=>exact⟨0,_,0,0,[],AH _,rfl,rfl,Po w,Na.nil,AA _,rfl,Ph _ _⟩
       case round=>
        obtain⟨k,uX,p,r,x,hk,rfl,rfl,m,nx,hp,hv,t⟩:=hrel
        by_cases o:k<s.size
        .have uU:48<=s[k].toNat/\s[k].toNat<58:=(Aw l).1 (U g) _ (CC (U v k o));obtain⟨g1,g2⟩:=uU;obtain⟨D,hD⟩:∃D,D=s[k].toNat-48:=⟨_,rfl⟩
         have hD9:D<10:=J
         have g3:(48:Int)<=(s[k].toNat:Int)/\(s[k].toNat:Int)<58:=J
         have hkl:(k:Int)<(s.size:Int):=J
         have e1:XX.wrap ((s[k].toNat:Int)-48)=(D:Int):=by rw[IntKind.wrap_u8'];omega
         have e3:XX.wrap (D:Int)=(D:Int):=by rw[IntKind.wrap_u8'];omega
         have e4:XY.wrap (D:Int)=(D:Int):=by rw[IntKind.wrap_u32];omega
         have e2:(s[k].toNat:Int)-48=(D:Int):=J
         have HD:=Kv hD;clear hD;have hk1000:k<=1000:=J
         have P:Hid (∀(n2:Nat) (uZ:List Nat),Na uZ->uZ.length=n2->val uZ=val x*10->n2<=1001):=by
          intro n2 uZ B h2 h3;have h4:=Mj m.dig (AI (AG m.len) hp);have h5:=B.length_le (k:=k+1) (by rw[h3,Mr];omega);omega
         go_wp2_with fail;go_region_with (first
          |(go_at_call 304;refine(MD 10 _ (by first|exact m.drew.toIn|exact m.drew.toIn.below (Ph _ _)) J J).mono ?_;rintro e w2 ⟨A2,n2,c2,uZ,rfl,hN2,uS,ve,L⟩)
          |(go_at_call 303;refine(XO (a:=uZ) (b:=[D]) _ (by first|exact ve.toIn.below (Ph _ _)|exact ve.toIn) (by first|exact kN _ [D] 1 _ rfl (Ny.one J) rfl J|exact In.below (w:=wr.drew.alloc (.cells #[.int .u32 (D:Int)] 208)) (kN wr.drew [D] 1 #[.int .u32 (D:Int)] rfl (Ny.one J) rfl J) L) ?_ ?_).mono ?_;(exact AI (U P n2 uZ hN2 ve.len uS) J);(omega);rintro e w4 ⟨A4,n4,c4,l4,rfl,W,uW,T,uY⟩))
         all_goals
          go_wp2_with fail;go_roundw
          case rel=>
           have u:Below w.heap.size w w2:=by
            first
             |exact(Mt t 1).trans (L.mono t.size)
             |exact((Mt t 1).alloc t.size _).trans (L.mono (by have:=t.size;simp;omega))
           have hb4:Below w.heap.size w w4:=by
            first
             |exact u.trans (uY.mono u.size)
             |exact(u.alloc u.size _).trans (uY.mono (by have:=u.size;simp;omega))
           have uT:Hid (val l4=gx (l.take (k+1))):=by
            show _=_;rw[uW,uS,GN,U hv,DJ,U v k o];simp only[Option.toList];rw[UR,BR,U HD]
           have hn4:n4<=k+1:=by
            have h4:=Mj m.dig (AI (AG m.len) hp);have h5:=W.length_le (k:=k+1) (by rw[uW,uS,GN,Mr];omega);have:=T.len;omega
           exact⟨k+1,A4,n4,c4,l4,by omega,by go_num,rfl,T.base (by have:=u.size;simp;omega),W,hn4,uT,hb4⟩
          case measure=>simp[intOf];omega
        .obtain rfl:k=s.size:=J
         go_wp2_with fail;go_ret2;refine⟨uX,p,r,x,by rw[U y];rfl,nx,?_,m,t⟩;rw[U hv,O0,YS (U y),AR (AG (U HL).2)]
theorem VD(w:YN){B:Nat}(a:B<=w.heap.size):(w.alloc (.cells #[] 5)).ownsRow B 5 1 (.slice (some ⟨w.heap.size,0,none⟩) 0 0) 0 (GC []):=BV _ _ _ a (by unfold maxLen;omega) rfl
theorem NS{w:YN}{B k:Nat}{b:UInt8}{v:YM}{l:R}{uX:Int}(h:w.ownsRow B 5 1 v (k+1) (GC l++ [.int .u8 uX]))(a:uX=(b.toNat:Int)):w.ownsRow B 5 1 v (k+1) (GC (l++ [b])):=by
 rw[Gn,show GC [b]=[.int .u8 (b.toNat:Int)]from rfl,<-a];exact h
theorem UG{A:YY}{n c:Nat}{a:List Nat}(w:YN)(uT:In w A n c a)(hn:n<=1073741824):
 YG XW 150 #[.slice A n c] w λe w'=>e= .returned (E (Pr (val a)))/\Below w.heap.size w w':=by
 have na:=L8 uT.dig;have va:Hid (val (trim a)=val a):=Ku a;have htl:(trim a).length<=n:=by have:=Og a;have:=uT.len;omega
 have hlen:Hid ((Hj (val a)).length<=10*n):=FN (AN (Mj uT.dig (AG uT.len)) (PI n));obtain⟨i0,hi0,hz0,hz1,hz2⟩:=info_parts Tryz.info_u8;go_enter func150,ntmps150;go_wp2_with fail;refine(M4 w uT J).mono ?_;rintro e w1 ⟨A1,p,c1,rfl,t,m⟩;have hp:p<=n:=by have:=t.len;omega
 have G:=t.len
 by_cases h0:p=0
 .have hv0:Hid (val a=0):=by
   show _=_;rw[<-U va,AB.1 (G.trans h0)];rfl
  subst h0;clear G;go_wp2_with fail;go_ret;refine⟨?_,m⟩;rw[U hv0]
  rfl
 .have uY:val a≠0:=by
   intro h;rw[<-U va]at h;rw[na.zero h]at G;simp only[AW]at G;omega
  have HV:=Kv uY;have l0:((p:Int)==0)=false:=by simp;omega
  have it:=t.toIn;clear h0 uY G t uT;go_wp2_with fail;go_loopg [3,4] (val a) (λgk sa sb uV=>∃(uX:YY) (q r:Nat) (x:List Nat) (bs:R),sa= .slice uX q r/\In uV uX q r x/\q<=n/\Na x/\Hid (val x=gk/\Hj (val a)=bs++Hj (val x))/\bs.length<=10*n/\uV.ownsRow w.heap.size 5 1 sb bs.length (GC bs)/\Below w.heap.size w uV)
  case atStart=>
   exact⟨A1,p,c1,trim a,[],rfl,it.below (Ph _ _),hp,na,⟨U va,by rw[U va];rfl⟩,AH _,VD w1 m.size,m.alloc m.size _⟩
  case round=>
   clear it m;obtain⟨uX,q,r,x,bs,rfl,vg,hq,nx,hI,hbl,C,K⟩:=hrel;have hqi:=vg.lenI;have hsz:=K.size
   by_cases S:q=0
   .have hd:Hid (Hj (val a)=bs):=by
     have F:=(U hI).2;rw[AB.1 (vg.len.trans S),Tv,B4,List.append_nil]at F;exact F
    have hbs:0<bs.length:=by
     rcases AM bs.length with h|h
     .have F:=U hd;rw[AB.1 h,Sb (U HV)]at F;cases F
     .exact h
    obtain⟨g,cap,hv,hgB,hgn,hgm,Q⟩:=t7 C hbs;have hglt:=Q.lt;have hcm:cap<=9223372036854775807:=by unfold maxLen at hgm;omega
    subst S;subst hv;clear C hI;obtain⟨L,hL⟩:∃L,L=bs.length:=⟨_,rfl⟩
    rw[<-hL]at hbs hbl hgn ⊢;have HLL:=Kv hL;clear hL;go_wp2_with fail;obtain⟨uZ,rfl⟩:∃uZ:YN,uZ=wr:=⟨_,rfl⟩
    go_loopw [7,8] (λso si uV=>∃(k:Nat) (z:Int) (o:R),k<=L/\z+1=k/\si=I z/\Hid (o=(bs.drop k).reverse)/\o.length+k=L/\uV.ownsRow uZ.heap.size 5 1 so o.length (GC o)/\Below uZ.heap.size uZ uV) (λ_ si _=>(intOf si+1).toNat)
    case atStart=>exact⟨L,(L:Int)-1,[],AA _,by omega,rfl,(by show _=_;rw[List.drop_of_length_le (by rw[U HLL];exact AA _)];rfl),by simp,VD uZ (AA _),Ph _ _⟩
    case round=>
     obtain⟨k,z,o,hk,hz,rfl,hO,hol,l,N⟩:=hrel;have hsr:=N.size
     by_cases hk0:k=0
     .subst hk0;obtain rfl:z= -1:=J
      clear hz;have hoe:Hid (o=bs.reverse):=by have:=U hO;rw[BJ]at this;exact this
      obtain⟨g2,cap2,hv2,hgB2,hgn2,hgm2,T⟩:=t7 l J;subst hv2;have hconv:=run_convert_bytes_back (P:=XW) wr 108 9 5 ⟨g2,0,none⟩ cap2 o underlying108 underlying5 underlying9 (λj hj=>by
       rw[HI,BK,T.cell (by rw[T8];exact hj),Es hj])
      go_wp2_with fail;go_ret;refine⟨?_,K.trans (N.mono K.size)⟩;rw[Pr,V (U HV),U hd,<-U hoe]
      rfl
     .obtain⟨j,rfl⟩:∃j,k=j+1:=⟨k-1,by omega⟩
      obtain rfl:z=(j:Int):=J
      clear hz hk0;have vf:j<bs.length:=by have:=U HLL;omega
      have uS:=(Q.below N hglt).cell (i:=j) (by rw[T8];exact vf);rw[Es vf]at uS;obtain⟨b,hb⟩:∃b,b=bs[j]:=⟨_,rfl⟩
      rw[<-hb]at uS;have hO2:Hid (o++ [b]=(bs.drop j).reverse):=by
       show _=_;rw[List.drop_eq_getElem_cons vf,List.reverse_cons,<-hb,U hO]
      have HJ:=Kv vf;have hjL:(j:Int)<(L:Int):=J
      have hcl:L<=cap:=hgn;clear hb vf;go_wp2_with (first
       |(at_builtin;refine wpList_append_own_at _ rfl (.tmp 38) (.tmp 43) 108 rfl uZ.heap.size 5 i0 (.int .u8 0) 1 1 underlying108 hi0 hz0 hz1 hz2 rfl Zd _ _ _ (by rfl) (l.alloc _) ⟨wr.heap.size,0,none⟩ 1 1 [.int .u8 _] rfl rfl (cell_one_new _ _ _) (by intro u hu;simp at hu;subst hu;rfl) (by simp only[maxLen];omega) J Zp ?_;intro v' w2 f y _ uR))
      have B:=NS (b:=b) f rfl;have W:Below uZ.heap.size uZ w2:=Pe N l y;clear f y uR l;go_wp2_with fail;go_roundw
      case rel=>exact⟨j,(j:Int)-1,o++ [b],by omega,by omega,rfl,hO2,by rw[AD];simp;omega,by rw[AD];exact B,W⟩
      case measure=>simp[intOf]
   .have hqp:(0:Int)<(q:Int):=J
    have uU:val x≠0:=by
     intro h;have F:=nx.zero h;have h2:=vg.len;rw[F]at h2;simp only[AW]at h2;omega
    have s:=Sb uU;have ve:val x/10<val x:=Nat.div_lt_self J J;have hbl2:bs.length+1<=10*n:=by
     have F:=U hlen;rw[(U hI).2,s,AD,BF]at F;omega
    have HX:=Kv (And.intro uU (And.intro s ve));clear uU s ve S;go_wp2_with fail;refine(X_ wr vg J).mono ?_;rintro e w1 ⟨A1,n1,c1,l1,rfl,hN1,uW,t,m⟩;have v:=C.kept (row:=none) (G7 m none) (by cases u4.ownBlock<;>simp);have hb1:=K.trans (m.mono K.size);have hs1:=hb1.size;have hn1:n1<=n:=by
     have F:=hN1.length_le (k:=q) (by rw[uW];exact AK (AY _ _) (Mj vg.dig (AG vg.len)));have:=t.len;omega
    obtain⟨D,hD⟩:∃D,D=val x%10:=⟨_,rfl⟩
    have hD10:D<10:=J
    rw[<-hD];have HD:=Kv hD;clear hD;go_wp2_with (first
     |(at_builtin;refine wpList_append_own_at _ rfl (.tmp 23) (.tmp 27) 108 rfl w.heap.size 5 i0 (.int .u8 0) 1 1 underlying108 hi0 hz0 hz1 hz2 rfl Zd _ _ _ (by rfl) (v.alloc _) ⟨w1.heap.size,0,none⟩ 1 1 [.int .u8 _] rfl rfl (cell_one_new _ _ _) (by intro u hu;simp at hu;subst hu;rfl) (by simp only[maxLen];omega) J Zp ?_;intro v' w2 f y _ uR))
    have B:=NS (b:=chr D) f (by rw[V7 hD10];omega);have W:Below w.heap.size w w2:=(hb1.alloc hs1 _).grown y Zp (λk hk=>(v.lt k hk).1);have hmid:Qp w2 wr.heap.size A1 n1 c1 l1:=t.mid (by have:=y.size;simp at this;omega) (λk F h2=>by
     rw[y.block k Zp (λe=>by have:=(C.lt k e.symm).2;omega),Below.heap_alloc _ _ _ J])
    clear f y uR v;go_wp2_with fail;go_roundg (val l1)
    case measure=>rw[uW];have:=(U HX).2.2;have:=(U hI).1;omega
    case rel=>
     obtain⟨F,h2,h3⟩:=U HX;refine⟨A1,n1,c1,l1,bs++ [chr D],rfl,hmid.toIn,hn1,hN1,⟨rfl,?_⟩,by rw[AD];exact hbl2,by rw[AD];exact B,W⟩;rw[(U hI).2,h2,uW,U HD,DM];rfl
section
variable{P:YK}{w:YN}{l m:R}{t:YH}
def Nq(op:BinOp)(t:YH)(x y:YJ)(u v:YM):Sem Next:=(do eqGuard op t x y u v;binOp op t u v) >>= λv=>pure (.value v)
def D0(t:YH)(s:YM)(i:Int):Sem Next:=Instr.index t s (I i) >>= λv=>pure (.value v)
def sw(t:YH)(s:YM)(i:Int):Sem Next:=Instr.slice t s none (some (I i)) none >>= λv=>pure (.value v)
def ka(t:YH)(s:YM)(i:Int):Sem Next:=Instr.slice t s (some (I i)) none none >>= λv=>pure (.value v)
theorem M6{x y:YJ}(h:l.length+m.length<=9223372036854775807):(Nq .add t x y (E l) (E m)).run P w= .ok (.value (E (l++m))) w:=by
 have:=run_string_add_sum (P:=P) w ⟨l.toArray⟩ ⟨m.toArray⟩ (by simpa[ByteArray.size]using h);simp only[Nq,E,eqGuard_add,AE,AJ,AC,binOp_string_add,this];rw[ByteArray.mk_append_mk]
theorem Mc{i:Nat}{b:UInt8}(c:P.underlying t=some .string)(h:l[i]? =some b):(D0 t (E l) i).run P w= .ok (.value (.int .u8 b.toNat)) w:=by
 obtain⟨f,e⟩:=AX.1 h;have a:(0:Int)<=(i:Int)/\(i:Int)<((⟨l.toArray⟩:ByteArray).size:Nat):=⟨by omega,by show(i:Int)<(l.length:Int);omega⟩
 simp only[D0,E,AE,run_index_string w t ⟨l.toArray⟩ .i64 i c,dif_pos a,AC,AJ];have:(⟨l.toArray⟩:ByteArray)[(i:Int).toNat]' J=b:=e;rw[this]
theorem mK{i:Nat}(a:P.underlying t=some .string)(h:i<=l.length):(sw t (E l) i).run P w= .ok (.value (E (l.take i))) w:=by
 have:=run_slice_string_h (P:=P) w t ⟨l.toArray⟩ a .i64 i J (by show(i:Int)<=(l.length:Int);omega);simp only[sw,E,AE,this,AC,AJ,AL];have e:(⟨l.toArray⟩:ByteArray).extract 0 i=⟨(l.take i).toArray⟩:=by
  apply ByteArray.ext;simp[ByteArray.data_extract]
 rw[e]
theorem eW{i:Nat}(a:P.underlying t=some .string)(h:i<=l.length):(ka t (E l) i).run P w= .ok (.value (E (l.drop i))) w:=by
 have:=run_slice_string_l (P:=P) w t ⟨l.toArray⟩ a .i64 i J (by show(i:Int)<=(l.length:Int);omega);simp only[ka,E,AE,this,AC,AJ,AL];have e:(⟨l.toArray⟩:ByteArray).extract i (⟨l.toArray⟩:ByteArray).size=⟨(l.drop i).toArray⟩:=by
  apply ByteArray.ext;simp[ByteArray.data_extract,ByteArray.size,AR]
 rw[e]
theorem If{P:YK}{t:YH}{s:YM}{lo hi a:Option YM}(b:P.underlying t=some .string):(Instr.sliceAt t s lo hi a).run P w=(Instr.slice t s lo hi a).run P w:=run_sliceAt_string w t s lo hi a b
def rW(t:YH)(s:YM)(i:Int):Sem Next:=Instr.sliceAt t s none (some (I i)) none >>= λv=>pure (.value v)
def Y3(t:YH)(s:YM)(i:Int):Sem Next:=Instr.sliceAt t s (some (I i)) none none >>= λv=>pure (.value v)
theorem m3{P:YK}{t:YH}{i:Nat}(a:P.underlying t=some .string)(h:i<=l.length):(rW t (E l) i).run P w= .ok (.value (E (l.take i))) w:=by
 have:=mK (w:=w) a h;simp only[rW,sw,AE,If a]at this ⊢;exact this
theorem Ux{P:YK}{t:YH}{i:Nat}(a:P.underlying t=some .string)(h:i<=l.length):(Y3 t (E l) i).run P w= .ok (.value (E (l.drop i))) w:=by
 have:=eW (w:=w) a h;simp only[Y3,ka,AE,If a]at this ⊢;exact this
end
def K8(x:Int):R:=if x<0 then 45::Pr x.natAbs else Pr x.natAbs
theorem J9{x:Int}(h:x<0):K8 x=45::Pr x.natAbs:=YS h
theorem B0{x:Int}(h:¬x<0):K8 x=Pr x.natAbs:=V h
theorem dx{x:Int}(h:x<0):Pu x= -1:=YS h
theorem dF{x:Int}(h:¬x<0):¬Pu x<0:=by unfold Pu;rw[V h];split<;>omega
def X5(l:R):Bool:=BZ l [45]
def Nc(l:R):R:=Lib.trimPrefix l [45]
def Kq(l:R):Int:=if L3 (Nc l)=0 then(if X5 l=true/\O0 (Nc l)=0 then 3 else 0)else L3 (Nc l)
def Kn(l:R):Int:=if Kq l=0 then zi (X5 l) (O0 (Nc l))else 0
theorem V1{l:R}(h:L3 (Nc l)≠0):Kq l=L3 (Nc l)/\Kn l=0:=by
 have a:Kq l=L3 (Nc l):=V h;exact⟨a,by rw[Kn,V (by rw[a];exact h)]⟩
theorem Dv{l:R}(h:L3 (Nc l)=0)(c:X5 l=true)(b:O0 (Nc l)=0):Kq l=3/\Kn l=0:=by
 have a:Kq l=3:=by rw[Kq,YS h,YS ⟨c,b⟩]
 exact⟨a,by rw[Kn,V (by rw[a];omega)]⟩
theorem Qu{l:R}(h:L3 (Nc l)=0)(b:¬(X5 l=true/\O0 (Nc l)=0)):Kq l=0/\Kn l=zi (X5 l) (O0 (Nc l)):=by
 have a:Kq l=0:=by rw[Kq,YS h,V b]
 exact⟨a,by rw[Kn,YS a]⟩
theorem es(l:R):O0 l<pw 125:=by
 by_cases h:L3 l=0
 .obtain⟨_,a,b,_⟩:=LX h;rw[O0,YS h];exact pQ a J
 .rw[O0,V h];exact Z9 _
theorem Iv:X5 []=false/\Nc []=[]:=⟨rfl,rfl⟩
theorem Pd(t:R):X5 (45::t)=true/\Nc (45::t)=t:=by
 have h:X5 (45::t)=true:=by simp[X5,BZ,List.isPrefixOf]
 exact⟨h,by rw[Nc,Lib.trimPrefix,YS (show BZ (45::t) [45]=true from h)];rfl⟩
theorem U1{b:UInt8}{t:R}(a:b≠45):X5 (b::t)=false/\Nc (b::t)=b::t:=by
 have h:X5 (b::t)=false:=by simp[X5,BZ,List.isPrefixOf];exact λe=>a e.symm
 exact⟨h,by rw[Nc,Lib.trimPrefix,V (by rw[show BZ (b::t) [45]=X5 (b::t)from rfl,h];decide)]⟩
def Hf(x:Int):Bool:=decide (-9223372036854775808<=x/\x<=9223372036854775807)
def gy(x:Int):Int:=if Hf x then x else 0
theorem U7{x:Int}(b: -9223372036854775808<=x)(a:x<=9223372036854775807):Hf x=true/\gy x=x:=by
 have h:Hf x=true:=YU ⟨b,a⟩;exact⟨h,by rw[gy,h];rfl⟩
theorem Tt{x:Int}(h:¬(-9223372036854775808<=x/\x<=9223372036854775807)):Hf x=false/\gy x=0:=by
 have h:Hf x=false:=YV h;exact⟨h,by rw[gy,h];rfl⟩
theorem US{x y:Nat}(b:x<4294967296)(a:y<4294967296):bits .or .u64 (y:Int) ((x:Int)*4294967296)=((x*4294967296+y:Nat):Int):=by
 rw[show(x:Int)*4294967296=((x*4294967296:Nat):Int) by omega,u64_or_nat _ _ J J,Nat.or_comm,nat_join 32 _ _ J J]
theorem Dx{y:Nat}(a:y<4294967296):bits .or .u64 0 (y:Int)=(y:Int):=by
 rw[show(0:Int)=((0:Nat):Int)from rfl,u64_or_nat _ _ J J,Nat.zero_or]
theorem c_{w:YN}{ad:YB}{n c k:Nat}{l:List Nat}(h:In w (some ad) n c l)(a:k<n):w.cell? (ad.add k)=some (.int .u32 (dg l k:Int)):=by
 obtain⟨b,e,f⟩:=h.at_ a;cases e;exact f
theorem Yi{k:Nat}(h:k<18446744073709551616):XZ.wrap (k:Int)=(k:Int):=by rw[Lg];omega
section
variable{w:YN}{a:SV}{x:Int}{K k:Nat}{d:DV}{l:R}
theorem KW(b:K<=1073741824)(h:k<pw K):(Pr k).length<=10737418250:=by
 have:=UU (n:=k) (k:=K+1) J (AZ h (dr J));omega
theorem iC(h:D3 d k K w)(b:K<=1073741824):Zv 99 #[d.val] w (E (Pr k)):=
 (j4 w h.1 (AI h.2.2 b)).mono λe c q=>⟨(),by rw[q.1,h.2.1],q.2,λ_ _ _=>trivial⟩
theorem cb(h:D3 d k K w)(b:K<=1073741824):Zv 150 #[d.val] w (E (Pr k)):=
 (UG w h.1 (AI h.2.2 b)).mono λe c q=>⟨(),by rw[q.1,h.2.1],q.2,λ_ _ _=>trivial⟩
theorem j5{D:Int}{e:YC}{b:YN}(t:L3 l=D)(q:Od w l e b):K6 w (λv:DV=> .tuple #[v.val,I D]) (λv u=>Cz v (O0 l) 125 u) e b:=by
 obtain⟨A,n,c,h,m,N,g,o,s⟩:=q;obtain⟨z,r,j,p⟩:=V9.postO (K:=125) ⟨A,n,c,h,rfl,N,g,o,s⟩ (es l);have f:CH A n c=z.val:=by injection r
 exact⟨z,by rw[m,t,f],j,p⟩
theorem J0{D:Int}(b:L3 l=D)(h:l.length<=9223372036854775807):YG XW 293 #[E l] w (K6 w (λv:DV=> .tuple #[v.val,I D]) λv u=>Cz v (O0 l) 125 u):=(nf ⟨l.toArray⟩ h w).mono λe c q=>j5 b q
theorem Ac{D:Int}(b:L3 l=D)(h:l.length<=9223372036854775807):YG XW 262 #[E l] w (K6 w (λv:DV=> .tuple #[v.val,I D]) λv u=>Cz v (O0 l) 125 u):=(al ⟨l.toArray⟩ h w).mono λe c q=>j5 b q
theorem RB{B:Bool}(b:X5 l=B):Zv 292 #[E l,.string ⟨#[45]⟩] w (.tuple #[E (Nc l),.bool B]):=
 (Tryz.strings_CutPrefix ⟨l.toArray⟩ ⟨#[45]⟩ w).mono λe c q=>⟨(),by rw[q.1,<-b];rfl,by rw[q.2];exact Below.refl _ _,λ_ _ _=>trivial⟩
theorem fF:(Nc l).length<=l.length:=by
 cases l with
 |nil=>exact AA _
 |cons b t=>
  by_cases c:b=45
  .subst c;rw[(Pd t).2];simp
  .rw[(U1 c).2];exact AA _
theorem ES(c:Q7 a x K w)(j:K<=1073741824):Zv 48 #[a.val] w (E (K8 x)):=by
 have m:=KW j c.lt
 by_cases e:x<0
 .exact sL func48 rfl<|M<|Z (λg b h=>X7 (c.below b) J) λs=>X (decide (Pu x<0)) true (YU (by rw[dx e];decide))<|ZD 3 (λg b h=>iC (c.d.below b) j) λf=>ZA (Nq .add 9 (.const (.string ⟨#[45]⟩)) (.tmp 8) (E [45]) (E (Pr x.natAbs))) (E ([45]++Pr x.natAbs)) (λg b h=>M6 Zp)<|ZX (E ([45]++Pr x.natAbs)) (by rw[J9 e];rfl)
 .exact sL func48 rfl<|M<|Z (λg b h=>X7 (c.below b) J) λs=>X (decide (Pu x<0)) false (YV (dF e))<|Z (λg b h=>iC (c.d.below b) j) λf=>ZX (E (Pr x.natAbs)) (by rw[B0 e])
theorem W9(c:Q7 a x K w)(j:K<=1073741824):Zv 79 #[a.val] w (E (K8 x)):=by
 have m:=KW j c.lt
 by_cases e:x<0
 .exact sL func79 rfl<|M<|Z (λg b h=>cb (c.d.below b) j) λf=>Z (λg b h=>R3 (c.below b) J) λs=>sQ (decide (Pu x<0)) true O (YU (by rw[dx e];decide))<|H 1<|ZA (Nq .add 9 (.const (.string ⟨#[45]⟩)) (.tmp 10) (E [45]) (E (Pr x.natAbs))) (E ([45]++Pr x.natAbs)) (λg b h=>M6 Zp)<|ZX (E ([45]++Pr x.natAbs)) (by rw[J9 e];rfl)
 .exact sL func79 rfl<|M<|Z (λg b h=>cb (c.d.below b) j) λf=>Z (λg b h=>R3 (c.below b) J) λs=>X (decide (Pu x<0)) false (YV (dF e))<|ZX (E (Pr x.natAbs)) (by rw[B0 e])
theorem GW{u:YN}{v:SV}(h:Ug v (zi (X5 l) (O0 (Nc l))) 125 u)(b:L3 (Nc l)=0)(c:¬(X5 l=true/\O0 (Nc l)=0)):Ug v (Kn l) 125 u:=by rw[(Qu b c).2];exact h
theorem Bz{u:YN}(h:Kn l=0):Ug ⟨false,none,0,0,[]⟩ (Kn l) 125 u:=by rw[h];exact QI
theorem E4(B:l.length<=9223372036854775807):YG XW 245 #[E l] w (K6 w (λv:SV=> .tuple #[v.val,I (Kq l)]) λv u=>Ug v (Kn l) 125 u):=by
 have D:=fF (l:=l);cases r:X5 l
 all_goals by_cases j:L3 (Nc l)=0
 case neg=>
  have o:=V1 j;refine sL func245 rfl<|M<|Z (λf b h=>RB r) λc=>Z (λf b h=>J0 (l:=Nc l) rfl J) λm=>X ((L3 (Nc l) !=0)) true (bne_iff_ne.2 j)<|ZV (.tuple #[.agg #[.bool false,.slice none 0 0],I (L3 (Nc l))]) (λf b h=>⟨⟨false,none,0,0,[]⟩,by rw[o.1],b,λg t s=>Bz o.2⟩)
 case neg=>
  have o:=V1 j;refine sL func245 rfl<|M<|Z (λf b h=>RB r) λc=>Z (λf b h=>J0 (l:=Nc l) rfl J) λm=>X ((L3 (Nc l) !=0)) true (bne_iff_ne.2 j)<|ZV (.tuple #[.agg #[.bool false,.slice none 0 0],I (L3 (Nc l))]) (λf b h=>⟨⟨false,none,0,0,[]⟩,by rw[o.1],b,λg t s=>Bz o.2⟩)
 .have y:¬(X5 l=true/\O0 (Nc l)=0):=by rw[r];simp
  refine sL func245 rfl<|M<|Z (λf b h=>RB r) λc=>Z (λf b h=>J0 (l:=Nc l) j J) λm=>ZI false<|ZI false<|Z (λf b h=>Xz (a:=⟨false,m.A,m.n,m.c,m.l⟩) ((h.2.1.1).sv false) Zd) λv=>ZV (.tuple #[v.val,I 0]) (λf b h=>⟨v,by rw[(Qu j y).1],b,λg t s=>GW (by rw[r];exact(h g t s).2) j y⟩)
 .refine sL func245 rfl<|M<|Z (λf b h=>RB r) λc=>Z (λf b h=>J0 (l:=Nc l) j J) λm=>ZI false ?_
  by_cases C:O0 (Nc l)=0
  .have o:=Dv j r C;refine s7 (p:=m.n=0) (λf b h=>by have q:=h.2.1.pos;omega) O λe=>X (((m.n:Int)==0)) true (by rw[e];rfl)<|ZV (.tuple #[.agg #[.bool false,.slice none 0 0],I 3]) (λf b h=>⟨⟨false,none,0,0,[]⟩,by rw[o.1],b,λg t s=>Bz o.2⟩)
  .have y:¬(X5 l=true/\O0 (Nc l)=0):=λq=>C q.2
   refine s7 (p:=m.n≠0) (λf b h=>by have q:=h.2.1.pos;omega) O λe=>X (((m.n:Int)==0)) false (YR.2 J)<|Z (λf b h=>Xz (a:=⟨true,m.A,m.n,m.c,m.l⟩) ((h.2.1.1).sv true) Zd) λv=>ZV (.tuple #[v.val,I 0]) (λf b h=>⟨v,by rw[(Qu j y).1],b,λg t s=>GW (by rw[r];exact(h g t s).2) j y⟩)
theorem Ab(s:l.length<=9223372036854775807):YG XW 206 #[E l] w (K6 w (λv:SV=> .tuple #[v.val,I (Kq l)]) λv u=>Ug v (Kn l) 125 u):=by
 refine sL func206 rfl ?_;cases l with
 |nil=>
  have j:=Iv;have o:L3 ([]:R)=3:=Zd
  have y:=V1 (l:=[]) (by rw[j.2,o];decide);rw[j.2,o]at y;refine M<|ZI false<|Z (λg f h=>Ac (l:=[]) o Zd) λm=>ZI false<|ZI true<|ZV (.tuple #[.agg #[.bool false,.slice none 0 0],I 3]) (λg f h=>⟨⟨false,none,0,0,[]⟩,by rw[y.1],f,λr D C=>Bz y.2⟩)
 | cons b t=>
  refine H 4 ?_
  by_cases G:b=45
  .subst G;have j:=Pd t
   by_cases o:L3 t=0
   case neg=>
    have y:Kq (45::t)=L3 t/\Kn (45::t)=0:=by have t:=V1 (l:=(45::t)) (by rw[j.2];exact o);rw[j.2]at t;exact t
    refine sM 10 (.bool (decide (((45::t).length:Int)>0))) Zt O Zs<|H 5<|ZA (D0 9 (E (45::t)) 0) (.int .u8 45) (λg f h=>Mc (i:=0) (b:=45) O rfl)<|sW true O<|H 1<|ZA (Y3 9 (E (45::t)) 1) (E ((45::t).drop 1)) (λg f h=>Ux (i:=1) O Zs)<|ZD 3 (λg f h=>Ac (l:=t) rfl (by have:=s;simp at this ⊢;omega)) λm=>s0 O (stop:=1000) 1 _<|H 3<|ZT 25 (.bool (L3 t==0)) Zf (by rw[YR.2 o])<|ZI false<|X (L3 t !=0) true (bne_iff_ne.2 o)<|ZV (.tuple #[.agg #[.bool false,.slice none 0 0],I (L3 t)]) (λg f h=>⟨⟨false,none,0,0,[]⟩,by rw[y.1],f,λr D C=>Bz y.2⟩)
   refine sM 10 (.bool (decide (((45::t).length:Int)>0))) Zt O Zs<|H 5<|ZA (D0 9 (E (45::t)) 0) (.int .u8 45) (λg f h=>Mc (i:=0) (b:=45) O rfl)<|sW true O<|H 1<|ZA (Y3 9 (E (45::t)) 1) (E ((45::t).drop 1)) (λg f h=>Ux (i:=1) O Zs)<|Z (λg f h=>Ac (l:=t) o (by have:=s;simp at this ⊢;omega)) λm=> ?_
   by_cases uS:O0 t=0
   .have y:=Dv (l:=45::t) (by rw[j.2];exact o) j.1 (by rw[j.2];exact uS);refine s7 (p:=m.n=0) (λg f h=>by have q:=h.2.1.pos;omega) O λe=>X (((m.n:Int)==0)) true (by rw[e];rfl)<|ZI true<|ZV (.tuple #[.agg #[.bool false,.slice none 0 0],I 3]) (λg f h=>⟨⟨false,none,0,0,[]⟩,by rw[y.1],f,λr D C=>Bz y.2⟩)
   .have vg:¬(X5 (45::t)=true/\O0 (Nc (45::t))=0):=λq=>uS (by rw[<-j.2];exact q.2)
    have B:L3 (Nc (45::t))=0:=by rw[j.2];exact o
    refine s7 (p:=m.n≠0) (λg f h=>by have q:=h.2.1.pos;omega) O λe=>X (((m.n:Int)==0)) false (YR.2 J)<|ZI false<|Z (λg f h=>Q5 (a:=⟨true,m.A,m.n,m.c,m.l⟩) ((h.2.1.1).sv true) Zd) λv=>ZV (.tuple #[v.val,I 0]) (λg f h=>⟨v,by rw[(Qu B vg).1],f,λr D C=>GW (by rw[j.1,j.2];exact(h r D C).2) B vg⟩)
  .have j:=U1 (t:=t) G;have F:((b.toNat:Int)==45)=false:=YR.2 λe=>G (by apply BQ.1;show b.toNat=45;omega)
   by_cases o:L3 (b::t)=0
   case neg=>
    have y:Kq (b::t)=L3 (b::t)/\Kn (b::t)=0:=by have t:=V1 (l:=(b::t)) (by rw[j.2];exact o);rw[j.2]at t;exact t
    refine sM 10 (.bool (decide (((b::t).length:Int)>0))) Zt O Zs<|H 5<|sV (D0 9 (E (b::t)) 0) (.int .u8 b.toNat) O (λg f h=>Mc (i:=0) (b:=b) O rfl)<|H 7<|ZT 13 (.bool ((b.toNat:Int)==45)) Zf (by rw[F])<|ZI false<|ZD 3 (λg f h=>Ac (l:=(b::t)) rfl (by have:=s;simp at this ⊢;omega)) λm=>s0 O (stop:=1000) 1 _<|H 3<|ZT 25 (.bool (L3 (b::t)==0)) Zf (by rw[YR.2 o])<|ZI false<|X ((L3 (b::t) !=0)) true (bne_iff_ne.2 o)<|ZV (.tuple #[.agg #[.bool false,.slice none 0 0],I (L3 (b::t))]) (λg f h=>⟨⟨false,none,0,0,[]⟩,by rw[y.1],f,λr D C=>Bz y.2⟩)
   have vg:¬(X5 (b::t)=true/\O0 (Nc (b::t))=0):=by rw[j.1];simp
   have B:L3 (Nc (b::t))=0:=by rw[j.2];exact o
   refine sM 10 (.bool (decide (((b::t).length:Int)>0))) Zt O Zs<|H 5<|sV (D0 9 (E (b::t)) 0) (.int .u8 b.toNat) O (λg f h=>Mc (i:=0) (b:=b) O rfl)<|H 7<|ZT 13 (.bool ((b.toNat:Int)==45)) Zf (by rw[F])<|ZI false<|Z (λg f h=>Ac (l:=b::t) o s) λm=>ZI false<|ZI false<|Z (λg f h=>Q5 (a:=⟨false,m.A,m.n,m.c,m.l⟩) ((h.2.1.1).sv false) Zd) λv=>ZV (.tuple #[v.val,I 0]) (λg f h=>⟨v,by rw[(Qu B vg).1],f,λr D C=>GW (by rw[j.1,j.2];exact(h r D C).2) B vg⟩)
theorem qJ{l:List Nat}(h:l.length=1):val l=dg l 0:=by
 match l,h with
 | [a],_=>simp[val,dg]
theorem Eo{l:List Nat}(h:l.length=2):val l=dg l 1*4294967296+dg l 0:=by
 match l,h with
 | [a,b],_=>simp[val,dg];omega
theorem ST{l:List Nat}(h:Na l)(b:2<l.length):18446744073709551616<=val l:=by
 have f:=h.pos (by intro e;rw[e]at b;simp at b);have c:=G3 (show 2<=l.length-1 by omega);rw[V0]at c;omega
theorem Dy{k:Nat}(h:k<=9223372036854775808):YA.wrap (XZ.wrap (0- (k:Int)))= -(k:Int):=by rw[Lg,IntKind.wrap_i64];omega
theorem Iu{k:Nat}(h:k<9223372036854775808):YA.wrap (k:Int)=(k:Int):=by rw[IntKind.wrap_i64];omega
theorem JN{k:Nat}(h:k<4294967296):XZ.wrap ((k:Int)*2 ^ 0)=(k:Int):=by rw[Lg];omega
theorem QY{k:Nat}(h:k<4294967296):XZ.wrap ((k:Int)*2 ^ 32)=(k:Int)*4294967296:=by rw[Lg];omega
theorem jO(uR:Q7 a x K w)(uY:K<=274877906944):Zv 261 #[a.val] w (.tuple #[I (gy x),.bool (Hf x)]):=by
 have L:=uR.zi;rw[<-uR.abs]at L;have t:a.s=true->x= -(x.natAbs:Int):=λh=>by rw[h]at L;simp[zi]at L;omega
 have r:a.s=false->x=(x.natAbs:Int):=λh=>by rw[h]at L;simp[zi]at L;omega
 refine sL func261 rfl<|M<|Z (λB v h=>RH (uR.d.below v) uY) λm=> ?_
 obtain⟨A,n,c,l⟩:=m;refine s7 (p:=l.length=n/\val l=x.natAbs/\Na l) (λB v h=>⟨h.2.1.1.1.len,h.2.1.1.2.1,h.2.1.2⟩) O (λQ=> ?_);obtain⟨G,D,vf⟩:=Q
 by_cases S:2<n
 case pos=>
  have ve:=ST vf J;rw[D]at ve;have C:=Tt (x:=x) J;have N:n<=274877906944:=by have q:=vf.length_le (k:=K) (by rw[D];exact uR.lt);omega
  exact tx O<|H 3<|ZT 15 (.bool (decide (YA.wrap ((n:Int)-1)>=0))) Zt (by rw[BS _ J,YU J])<|sQ (decide ((n:Int)<=2)) false O (YV J)<|H 4<|ZT 34 (.bool (decide ((n:Int)>2))) Zt (by rw[YU J])<|ZI true<|ZX (.tuple #[I 0,.bool false]) (by rw[C.1,C.2])
 have b:∀{ad:YB} {u:YN} {j:Nat},Cz ⟨some ad,n,c,l⟩ x.natAbs K u->j<n->u.cell? (ad.add j)=some (.int .u32 (dg l j:Int)):=λq P=>c_ q.1.1.1 P
 obtain rfl|rfl|rfl:n=0\/n=1\/n=2:=J
 .have uZ:x=0:=by rw[AB.1 G]at D;simp[val]at D;omega
  refine tx O<|M<|ZI false<|ZI false<|tu (a.s) O (λo=> ?_) (λo=> ?_)
  .exact M<|ZX (.tuple #[I 0,.bool true]) (by rw[uZ];rfl)
  .exact M<|ZX (.tuple #[I 0,.bool true]) (by rw[uZ];rfl)
 .have vg:=vf.1 0;rw[qJ G]at D;refine s7 (p:=∃ad,A=some ad) (λB v h=>by obtain⟨ad,uS,_⟩:=h.2.1.1.1.at_ (k:=0) (by show 0<1;decide);exact⟨ad,uS⟩) O (λuS=> ?_);obtain⟨ad,rfl⟩:=uS;refine tx O<|M<|ZI true<|ZA (Ki 41 (.slice (some ad) 1 c) ((0:Nat):Int)) (.pointer (some (ad.add 0))) (λB v h=>Kg (elem:=208) O O Zd)<|sV (L4 208 (ad.add 0)) (.int .u32 (dg l 0:Int)) O (λB v h=>K9 O (b h.2 Zd))<|H 7<|sM 28 (.int .u64 (XZ.wrap (dg l 0:Int))) (.int .u64 (dg l 0:Int)) O (by rw[Yi J])<|H 8<|ZT 29 (.int .u64 (bits .or .u64 0 (dg l 0:Int))) (.int .u64 (x.natAbs:Int)) (by rw[Dx vg,D])<|sW false O<|H 7<|sM 37 (.bool (decide ((x.natAbs:Int)>9223372036854775808))) Zf O (by rw[YV J])<|H 10<|ZT 40 (.bool ((x.natAbs:Int)==9223372036854775808)) Zf (by rw[YR.2 J])<|ZI false<|tu (a.s) O (λo=> ?_) (λo=> ?_)
  .exact M<|ZX (.tuple #[I (YA.wrap (XZ.wrap (0- (x.natAbs:Int)))),.bool true]) (by have e:=t o;have f:=U7 (x:=x) J J;rw[f.1,f.2,Dy J,<-e])
  .exact M<|ZX (.tuple #[I (YA.wrap (x.natAbs:Int)),.bool true]) (by have e:=r o;have f:=U7 (x:=x) J J;rw[f.1,f.2,Iu J,<-e])
 .have vg:=vf.1 0;have F:=vf.1 1;rw[Eo G]at D;refine s7 (p:=∃ad,A=some ad) (λB v h=>by obtain⟨ad,uS,_⟩:=h.2.1.1.1.at_ (k:=0) (by show 0<2;decide);exact⟨ad,uS⟩) O (λuS=> ?_);obtain⟨ad,rfl⟩:=uS;refine tx O<|M<|ZI true<|ZA (Ki 41 (.slice (some ad) 2 c) ((1:Nat):Int)) (.pointer (some (ad.add 1))) (λB v h=>Kg (elem:=208) O O Zd)<|sV (L4 208 (ad.add 1)) (.int .u32 (dg l 1:Int)) O (λB v h=>K9 O (b h.2 Zd))<|H 7<|sM 28 (.int .u64 (XZ.wrap (dg l 1:Int))) (.int .u64 (dg l 1:Int)) O (by rw[Yi J])<|H 8<|ZT 29 (.int .u64 (bits .or .u64 0 (dg l 1:Int))) (.int .u64 (dg l 1:Int)) (by rw[Dx F])<|ZI true<|ZA (Ki 41 (.slice (some ad) 2 c) ((0:Nat):Int)) (.pointer (some (ad.add 0))) (λB v h=>Kg (elem:=208) O O Zd)<|sV (L4 208 (ad.add 0)) (.int .u32 (dg l 0:Int)) O (λB v h=>K9 O (b h.2 Zd))<|H 7<|sM 28 (.int .u64 (XZ.wrap (dg l 0:Int))) (.int .u64 (dg l 0:Int)) O (by rw[Yi J])<|sM 23 (.int .u64 (XZ.wrap ((dg l 1:Int)*2 ^ 32))) (.int .u64 ((dg l 1:Int)*4294967296)) O (by rw[QY F])<|H 8<|ZT 29 (.int .u64 (bits .or .u64 ((dg l 1:Int)*4294967296) (dg l 0:Int))) (.int .u64 (x.natAbs:Int)) (by rw[HO F vg,D])<|sW false O<|H 7 ?_
  by_cases g:9223372036854775808<x.natAbs
  case pos=>
   have C:=Tt (x:=x) J;exact ZT 37 (.bool (decide ((x.natAbs:Int)>9223372036854775808))) Zt (by rw[YU J])<|ZI true<|ZX (.tuple #[I 0,.bool false]) (by rw[C.1,C.2])
  refine sM 37 (.bool (decide ((x.natAbs:Int)>9223372036854775808))) Zf O (by rw[YV J])<|H 10 ?_
  by_cases q:x.natAbs=9223372036854775808
  case pos=>
   refine ZT 40 (.bool ((x.natAbs:Int)==9223372036854775808)) Zt (by rw[YQ.2 J])<|tu (!a.s) O (λo=> ?_) (λo=> ?_)
   .have y:a.s=false:=by revert o;cases a.s<;>simp
    have C:=Tt (x:=x) (by have e:=r y;omega);exact M<|ZX (.tuple #[I 0,.bool false]) (by rw[C.1,C.2])
   .have y:a.s=true:=by revert o;cases a.s<;>simp
    exact M<|X (a.s) true (y)<|ZX (.tuple #[I (YA.wrap (XZ.wrap (0- (x.natAbs:Int)))),.bool true]) (by have e:=t y;have f:=U7 (x:=x) J J;rw[f.1,f.2,Dy J,<-e])
  refine ZT 40 (.bool ((x.natAbs:Int)==9223372036854775808)) Zf (by rw[YR.2 J])<|ZI false<|tu (a.s) O (λo=> ?_) (λo=> ?_)
  .exact M<|ZX (.tuple #[I (YA.wrap (XZ.wrap (0- (x.natAbs:Int)))),.bool true]) (by have e:=t o;have f:=U7 (x:=x) J J;rw[f.1,f.2,Dy J,<-e])
  .exact M<|ZX (.tuple #[I (YA.wrap (x.natAbs:Int)),.bool true]) (by have e:=r o;have f:=U7 (x:=x) J J;rw[f.1,f.2,Iu J,<-e])
theorem jQ(ve:Q7 a x K w)(uR:K<=274877906944):Zv 207 #[a.val] w (.tuple #[I (gy x),.bool (Hf x)]):=by
 refine sL func207 rfl<|M<|Z (λr m h=>Q5 (ve.below m) uR) λv=> ?_
 obtain⟨s,A,n,c,l⟩:=v;refine s7 (p:=l.length=n/\val l=x.natAbs/\Na l/\s=decide (x<0)) (λr m h=>⟨h.2.1.inn.len,h.2.1.abs.symm,h.2.2.1,h.2.2.2.1⟩) O (λvf=> ?_);obtain⟨vg,D,G,rfl⟩:=vf;have f:=G.1 0;have C:=G.1 1;have b:∀{ad:YB} {u:YN} {j:Nat},Ug ⟨decide (x<0),some ad,n,c,l⟩ x K u->j<n->u.cell? (ad.add j)=some (.int .u32 (dg l j:Int)):=λq uS=>c_ q.1.inn uS
 by_cases N:2<n
 case pos=>
  have F:=ST G J;rw[D]at F;have o:=Tt (x:=x) J;refine s7 (p:=∃ad,A=some ad) (λr m h=>by obtain⟨ad,y,_⟩:=h.2.1.inn.at_ (k:=0) (by show 0<n;omega);exact⟨ad,y⟩) O (λy=> ?_);obtain⟨ad,rfl⟩:=y;exact tx O<|M<|X (decide (((0:Nat):Int)<(n:Int))) true (YU J)<|ZI false<|ZA (Ki 41 (.slice (some ad) n c) ((0:Nat):Int)) (.pointer (some (ad.add 0))) (λr m h=>Kg (elem:=208) O O J)<|sV (L4 208 (ad.add 0)) (.int .u32 (dg l 0:Int)) O (λr m h=>K9 O (b h.2 J))<|H 7<|sM 27 (.int .u64 (XZ.wrap (dg l 0:Int))) (.int .u64 (dg l 0:Int)) O (by rw[Yi J])<|H 11<|sM 31 (.int .u64 (XZ.wrap ((dg l 0:Int)*2 ^ 0))) (.int .u64 (dg l 0:Int)) O (by rw[JN f])<|H 12<|ZT 32 (.int .u64 (bits .or .u64 0 (dg l 0:Int))) (.int .u64 (dg l 0:Int)) (by rw[Dx f])<|X (decide (((1:Nat):Int)<(n:Int))) true (YU J)<|ZI false<|ZA (Ki 41 (.slice (some ad) n c) ((1:Nat):Int)) (.pointer (some (ad.add 1))) (λr m h=>Kg (elem:=208) O O J)<|sV (L4 208 (ad.add 1)) (.int .u32 (dg l 1:Int)) O (λr m h=>K9 O (b h.2 J))<|H 7<|sM 27 (.int .u64 (XZ.wrap (dg l 1:Int))) (.int .u64 (dg l 1:Int)) O (by rw[Yi J])<|H 11<|sM 31 (.int .u64 (XZ.wrap ((dg l 1:Int)*2 ^ 32))) (.int .u64 ((dg l 1:Int)*4294967296)) O (by rw[QY C])<|H 12<|ZT 32 (.int .u64 (bits .or .u64 (dg l 0:Int) ((dg l 1:Int)*4294967296))) (.int .u64 ((dg l 1*4294967296+dg l 0:Nat):Int)) (by rw[US C f])<|X (decide (((2:Nat):Int)<(n:Int))) true (YU J)<|ZI true<|ZX (.tuple #[I 0,.bool false]) (by rw[o.1,o.2])
 obtain rfl|rfl|rfl:n=0\/n=1\/n=2:=J
 .have L:x=0:=by rw[AB.1 vg]at D;simp[val]at D;omega
  subst L;exact tx O<|M<|ZI false<|ZI false<|ZI true<|ZW (.tuple #[I 0,.bool true])
 .rw[qJ vg]at D;refine s7 (p:=∃ad,A=some ad) (λr m h=>by obtain⟨ad,y,_⟩:=h.2.1.inn.at_ (k:=0) (by show 0<1;omega);exact⟨ad,y⟩) O (λy=> ?_);obtain⟨ad,rfl⟩:=y;refine tx O<|M<|ZI true<|ZI false<|ZA (Ki 41 (.slice (some ad) 1 c) ((0:Nat):Int)) (.pointer (some (ad.add 0))) (λr m h=>Kg (elem:=208) O O J)<|sV (L4 208 (ad.add 0)) (.int .u32 (dg l 0:Int)) O (λr m h=>K9 O (b h.2 J))<|H 7<|sM 27 (.int .u64 (XZ.wrap (dg l 0:Int))) (.int .u64 (dg l 0:Int)) O (by rw[Yi J])<|H 11<|sM 31 (.int .u64 (XZ.wrap ((dg l 0:Int)*2 ^ 0))) (.int .u64 (dg l 0:Int)) O (by rw[JN f])<|H 12<|ZT 32 (.int .u64 (bits .or .u64 0 (dg l 0:Int))) (.int .u64 (x.natAbs:Int)) (by rw[Dx f,D])<|sW false O<|H 3 ?_
  by_cases B:x<0
  .refine ZT 35 (.bool (decide (x<0))) Zt (by rw[YU B]) ?_
   by_cases g:x.natAbs<=9223372036854775808
   .exact X (decide ((x.natAbs:Int)<=9223372036854775808)) true (YU J)<|ZX (.tuple #[I (YA.wrap (XZ.wrap (0- (x.natAbs:Int)))),.bool true]) (by have e:=(show x= -(x.natAbs:Int) by omega);have t:=U7 (x:=x) J J;rw[t.1,t.2,Dy J,<-e])
   .have o:=Tt (x:=x) J;exact sQ (decide ((x.natAbs:Int)<=9223372036854775808)) false O (YV J)<|H 4<|ZT 45 (.bool (!decide (x<0))) Zf (by rw[YU B];rfl)<|ZI false<|ZX (.tuple #[I 0,.bool false]) (by rw[o.1,o.2])
  .refine ZT 35 (.bool (decide (x<0))) Zf (by rw[YV B])<|sW false O<|H 4<|ZT 45 (.bool (!decide (x<0))) Zt (by rw[YV B];rfl) ?_
   by_cases g:x.natAbs<9223372036854775808
   .exact X (decide ((x.natAbs:Int)<9223372036854775808)) true (YU J)<|ZX (.tuple #[I (YA.wrap (x.natAbs:Int)),.bool true]) (by have e:=(show x=(x.natAbs:Int) by omega);have t:=U7 (x:=x) J J;rw[t.1,t.2,Iu J,<-e])
   .have o:=Tt (x:=x) J;exact X (decide ((x.natAbs:Int)<9223372036854775808)) false (YV J)<|ZX (.tuple #[I 0,.bool false]) (by rw[o.1,o.2])
 .rw[Eo vg]at D;refine s7 (p:=∃ad,A=some ad) (λr m h=>by obtain⟨ad,y,_⟩:=h.2.1.inn.at_ (k:=0) (by show 0<2;omega);exact⟨ad,y⟩) O (λy=> ?_);obtain⟨ad,rfl⟩:=y;refine tx O<|M<|ZI true<|ZI false<|ZA (Ki 41 (.slice (some ad) 2 c) ((0:Nat):Int)) (.pointer (some (ad.add 0))) (λr m h=>Kg (elem:=208) O O J)<|sV (L4 208 (ad.add 0)) (.int .u32 (dg l 0:Int)) O (λr m h=>K9 O (b h.2 J))<|H 7<|sM 27 (.int .u64 (XZ.wrap (dg l 0:Int))) (.int .u64 (dg l 0:Int)) O (by rw[Yi J])<|H 11<|sM 31 (.int .u64 (XZ.wrap ((dg l 0:Int)*2 ^ 0))) (.int .u64 (dg l 0:Int)) O (by rw[JN f])<|H 12<|ZT 32 (.int .u64 (bits .or .u64 0 (dg l 0:Int))) (.int .u64 (dg l 0:Int)) (by rw[Dx f])<|ZI true<|ZI false<|ZA (Ki 41 (.slice (some ad) 2 c) ((1:Nat):Int)) (.pointer (some (ad.add 1))) (λr m h=>Kg (elem:=208) O O J)<|sV (L4 208 (ad.add 1)) (.int .u32 (dg l 1:Int)) O (λr m h=>K9 O (b h.2 J))<|H 7<|sM 27 (.int .u64 (XZ.wrap (dg l 1:Int))) (.int .u64 (dg l 1:Int)) O (by rw[Yi J])<|H 11<|sM 31 (.int .u64 (XZ.wrap ((dg l 1:Int)*2 ^ 32))) (.int .u64 ((dg l 1:Int)*4294967296)) O (by rw[QY C])<|H 12<|ZT 32 (.int .u64 (bits .or .u64 (dg l 0:Int) ((dg l 1:Int)*4294967296))) (.int .u64 (x.natAbs:Int)) (by rw[US C f,D])<|sW false O<|H 3 ?_
  by_cases B:x<0
  .refine ZT 35 (.bool (decide (x<0))) Zt (by rw[YU B]) ?_
   by_cases g:x.natAbs<=9223372036854775808
   .exact X (decide ((x.natAbs:Int)<=9223372036854775808)) true (YU J)<|ZX (.tuple #[I (YA.wrap (XZ.wrap (0- (x.natAbs:Int)))),.bool true]) (by have e:=(show x= -(x.natAbs:Int) by omega);have t:=U7 (x:=x) J J;rw[t.1,t.2,Dy J,<-e])
   .have o:=Tt (x:=x) J;exact sQ (decide ((x.natAbs:Int)<=9223372036854775808)) false O (YV J)<|H 4<|ZT 45 (.bool (!decide (x<0))) Zf (by rw[YU B];rfl)<|ZI false<|ZX (.tuple #[I 0,.bool false]) (by rw[o.1,o.2])
  .refine ZT 35 (.bool (decide (x<0))) Zf (by rw[YV B])<|sW false O<|H 4<|ZT 45 (.bool (!decide (x<0))) Zt (by rw[YV B];rfl) ?_
   by_cases g:x.natAbs<9223372036854775808
   .exact X (decide ((x.natAbs:Int)<9223372036854775808)) true (YU J)<|ZX (.tuple #[I (YA.wrap (x.natAbs:Int)),.bool true]) (by have e:=(show x=(x.natAbs:Int) by omega);have t:=U7 (x:=x) J J;rw[t.1,t.2,Iu J,<-e])
   .have o:=Tt (x:=x) J;exact X (decide ((x.natAbs:Int)<9223372036854775808)) false (YV J)<|ZX (.tuple #[I 0,.bool false]) (by rw[o.1,o.2])
end
def Ln(t ty:YH)(x y:YM):Sem Next:=Builtin.append_ #[t,t] ty #[x,y] >>= λv=>pure (.value v)
def bl(A:YY):List Nat:=match A with|some p=>[p.block]|none=>[]
def EH(P:YK)(e:YH):Option (YM×Nat×Nat):=(P.info? e).bind λi=>i.zero.map λz=>(z,i.size,i.bytes)
def Y(u:YN)(B:Nat)(elem:YH)(s:Nat)(A:YY)(n c:Nat)(xs:List YM):Prop:=u.ownsRow B elem s (.slice A n c) n xs
section
variable{P:YK}{w w' u:YN}{B s n c m cc:Nat}{A A2:YY}{xs ys:List YM}{t elem:YH}{bytes:Nat}{z:YM}
theorem s_:Y u B elem s none 0 0 []:=⟨by simp,.inl ⟨rfl,rfl⟩⟩
theorem Y.len(h:Y u B elem s A n c xs):xs.length=n*s:=h.1
theorem Y.blk(h:Y u B elem s A n c xs):∀b∈bl A,B<=b/\∃cs ty own,u.heap[b]? =some (.cells cs ty own):=by
 intro b e;rcases h.2 with ⟨a,_⟩|⟨g,cap,f,a,j,k,_⟩
 .injection a with a _ _;subst a;cases e
 .injection a with a _ _;subst a;simp only[bl,CK]at e;subst e;exact⟨j,_,_,_,k⟩
theorem Y.lt(h:Y u B elem s A n c xs):∀b∈bl A,B<=b/\b<u.heap.size:=λb e=>by
 obtain⟨a,_,_,_,f⟩:=h.blk b e;exact⟨a,(BB.1 f).1⟩
theorem Y.same(h:Y u B elem s A n c xs)(e:∀b∈bl A,w.heap[b]? =u.heap[b]?):Y w B elem s A n c xs:=by
 refine⟨h.1,?_⟩;rcases h.2 with a|⟨g,cap,f,a,j,k,rest⟩
 .exact .inl a
 .refine .inr ⟨g,cap,f,a,j,?_,rest⟩;injection a with a _ _;subst a;exact(e g (by simp[bl])).trans k
theorem Y.left{L:List Nat}(h:Y u B elem s A n c xs)(a:∀b,b∉L->u.heap[b]? =w.heap[b]?)(f:∀b∈bl A,b∉L):Y w B elem s A n c xs:=h.same λb e=>(a b (f b e)).symm
theorem Y.below(h:Y u B elem s A n c xs)(e:Below u.heap.size u w):Y w B elem s A n c xs:=h.same λb a=>e.block b (h.lt b a).2
theorem Y.rebase{B':Nat}(h:Y u B elem s A n c xs)(f:∀b∈bl A,B'<=b):Y u B' elem s A n c xs:=by
 refine⟨h.1,?_⟩;rcases h.2 with a|⟨g,cap,e,a,_,rest⟩
 .exact .inl a
 .refine .inr ⟨g,cap,e,a,?_,rest⟩;injection a with a _ _;subst a;exact f g (by simp[bl])
theorem Y.cells(h:Y u B elem s A n c xs)(r:0<n):∃g,A=some ⟨g,0,none⟩/\∀(j:Nat) (v:YM),xs[j]? =some v->u.cell? ⟨g,j,none⟩=some v:=by
 rcases h.2 with ⟨_,a⟩|⟨g,cap,e,a,p,k,x,l,o,f⟩
 .omega
 .injection a with a _ _;refine⟨g,a,λj v b=> ?_⟩;rw[<-f,CI]at b;simp only[BW,k,BL,BC,if_false];split at b
  .simpa using b
  .cases b
theorem Mm{g:Nat}{cells:Array YM}(h:Kr elem cells g w)(b:cells.size=n*s):Pm w w.heap.size s (some ⟨g,0,none⟩) n cells.toList:=by
 refine⟨by simpa using b,λ_=>⟨_,rfl,(BB.1 h).1,λj u a=> ?_⟩⟩;rw[Addr.add_mid,BK];unfold Kr at h;simp only[BW,h,BL,BC,if_false];simpa using a
theorem uk{g:Nat}{cells:Array YM}(h:Kr elem cells g w)(a:cells.size=n*s)(b:B<=g)(e:n<=maxLen):Y w B elem s (some ⟨g,0,none⟩) n n cells.toList:=by
 refine⟨by simpa using a,.inr ⟨g,n,cells,rfl,b,h,AA _,e,a,?_⟩⟩;rw[AR Zp]
theorem N4(uW:P.underlying t=some (.slice elem))(hi:EH P elem=some (z,s,bytes))(x:z.cells.size=s)(W:0<s)(h:Y w B elem s A n c xs)(uX:B<=w.heap.size)(N:Pm w w.heap.size s A2 m ys)(uV:∀v∈ys,v.oneCell'=true)
 (uZ:n+m<=100000000) (j:bytes<=10000):
 Pp P w (bl A) (λy:YZ=> .slice y.1 (n+m) y.2) (λy v=>Y v B elem s y.1 (n+m) y.2 (xs++ys)) (Ln t t (.slice A n c) (.slice A2 m cc)):=by
 unfold EH at hi;obtain⟨i,uS,C⟩:=CS.1 hi;obtain⟨L,K,r⟩:=BX.1 C;simp only[CL]at r;obtain⟨rfl,F,G⟩:=r;have a:(n+m)*bytes<=140737488355328:=AI (CV uZ j) Zd;obtain⟨uU,w',l,vf,o,T⟩:=Dh (P:=P) w B t t elem i L s bytes uW uS K F G x W _ n _ h w.heap.size A2 m cc ys N uV (by simp only[maxLen];omega) a uX;obtain⟨A',c',rfl⟩:∃A' c',uU= .slice A' (n+m) c':=by
  rcases vf.2 with ⟨vg,S⟩|⟨g,cap,uR,vg,_⟩
  .exact⟨none,0,by rw[vg,S]⟩
  .exact⟨_,_,vg⟩
 have f:Y w' B elem s A' (n+m) c' (xs++ys):=vf;refine⟨(A',c'),w',by simp only[Ln,AE,l,AC,AJ],⟨o.os,o.tape,o.output,o.size,λk Q uT=>o.block k Q (λe=>uT ?_)⟩,λuY k1 ve=>f.same λb j=>ve b ?_⟩
 .cases A with
  |none=>simp[BT]at e
  |some p=>simp[BT]at e;simp[bl,e]
 .have D:=(f.lt b j).2;cases A' with
  |none=>cases j
  | some p'=>
   simp only[bl,CK]at j;subst j;rcases T with e|e
   .left;cases A with
    |none=>simp[BT]at e
    |some p=>simp[BT]at e;simp[bl,e]
   .right;simp[BT]at e;exact⟨by omega,D⟩
theorem Y.ty(h:Y u B elem s A n c xs):∀b∈bl A,∃e own,u.heap[b]? =some (.cells e elem own):=by
 intro b f;rcases h.2 with ⟨a,_⟩|⟨g,cap,e,a,k,j,_⟩
 .injection a with a _ _;subst a;cases f
 .injection a with a _ _;subst a;simp only[bl,CK]at f;subst f;exact⟨_,_,j⟩
theorem e8{b a:YB}(W:P.underlying t=some (.slice elem))(hi:EH P elem=some (z,s,bytes))(D:z.cells.size=s)(uX:0<s)(x:Pm w w.heap.size s (some b) n xs)(uR:Pm w w.heap.size s (some a) m ys)
 (C:c<n+m) (S:n+m<=100000000) (l:bytes<=10000) (uV:B<=w.heap.size) (f:0<n\/xs=[]) (uT:0<m\/ys=[]):
 Lw P w (λy:YZ=> .slice y.1 (n+m) y.2) (λy v=>Y v B elem s y.1 (n+m) y.2 (xs++ys)) (Ln t t (.slice (some b) n c) (.slice (some a) m cc)):=by
 unfold EH at hi;obtain⟨i,uS,vg⟩:=CS.1 hi;obtain⟨Q,uZ,r⟩:=BX.1 vg;simp only[CL]at r;obtain⟨rfl,G,ve⟩:=r;have h:(n+m)*bytes<=140737488355328:=AI (CV S l) Zd;have rd:∀{b:YB} {n:Nat} {xs:List YM},Pm w w.heap.size s (some b) n xs->(0<n\/xs=[])->∀j u,xs[j]? =some u->w.cell? (b.add j)=some u:=λx f j u L=>by
  rcases f with f|f
  .obtain⟨ad,vf,_,C⟩:=x.2 f;injection vf with vf;subst vf;exact C j u L
  .subst f;cases L
 obtain⟨uU,w',o,K,p⟩:=run_append_arg_grows (P:=P) w t t elem i Q s bytes W uS uZ G ve D uX b n c xs x.1 (rd x f) a m cc ys uR.1 (rd uR uT) C (by simp only[maxLen];omega) h;obtain⟨A',c',rfl⟩:∃A' c',uU= .slice A' (n+m) c':=by
  rcases K.2 with ⟨F,f⟩|⟨g,cap,uY,F,_⟩
  .exact⟨none,0,by rw[F,f]⟩
  .exact⟨_,_,F⟩
 have e:Y w' w.heap.size elem s A' (n+m) c' (xs++ys):=K;exact⟨(A',c'),w',by simp only[Ln,AE,o,AC,AJ],⟨p.os,p.tape,p.output,p.size,λk T=>p.block k T Zs⟩,λuW k1 N=>(e.same λb l=>N b (e.lt b l).1 (e.lt b l).2).rebase λb l=>AI uV (e.lt b l).1⟩
end
theorem f8{w:YN}{a:YY}{len cap:Nat}{zs:List Int}
 (h:(a=none/\len=0/\cap=0/\zs=[])\/∃x,a=some x/\len<=cap/\cap<=maxLen/\zs.length=cap/\(∀i,i<zs.length->w.cell? (x.add i)=some (.int .u32 (zs.getD i 0)))/\∀n∈zs,(Lit.int .u32 n).wf=true):
 ∃l,In w a len cap l:=by
 rcases h with ⟨rfl,rfl,rfl,rfl⟩|⟨x,rfl,v,t,y,r,f⟩
 .exact⟨[],tZ⟩
 .have s:∀i,i<zs.length->0<=zs.getD i 0/\zs.getD i 0<=4294967295:=by
   intro i hi;have e:zs.getD i 0∈zs:=by
    rw[CM,AP hi];exact List.getElem_mem hi
   exact bounds_u32 (f _ e)
  have b:((zs.take len).map Int.toNat).length=len:=by rw[DW,BE];omega
  have c:∀i,i<len->(dg ((zs.take len).map Int.toNat) i:Int)=zs.getD i 0:=by
   intro i hi;have k:=s i J;have o:dg ((zs.take len).map Int.toNat) i=(zs.getD i 0).toNat:=by
    simp[dg,CI,hi,AP (show i<zs.length by omega)]
   rw[o];omega
  refine⟨(zs.take len).map Int.toNat,?_,b,v,t,⟨by rw[Qs,b];omega,λA=> ?_⟩⟩
  .intro i
   by_cases hi:i<len
   .have k:=s i J;have o:=c i hi;omega
   .rw[Vx J];omega
  .have m:x.block<w.heap.size:=by
    have k:=World.block_lt_of_cell? w (x.add 0) (r 0 J);rwa [Jm]at k
   refine⟨x,rfl,m,λj u g=> ?_⟩;have p:j<len:=by
    have:=(AX.1 g).1;rw[Qs,b]at this;exact this
   rw[Zr (by rw[b];exact p),c j p]at g;rw[r j J];exact g
section
open Go.ChangeShapes Go.WideShapes Go.ChangeAt Go.RowKit Go.Deep Go.WideElems Go.Maps Go.Joins
variable{uS:Type}{enc:YH×YM->uS}{P:YK}{w:YN}{base:Nat}{held:Bool}
theorem MW{t e:YH}{fuel:Nat}{v:YM}{x:DataW uS×List MemPlace}(s:P.underlying t=some (.slice e))(p:P.underlying e=some (.int .u32))(o:P.cellsOf e=1)
 (h:DataW.trod enc P w base (λ_=>true) held fuel t [v]=some x):∃A n c l,v= .slice A n c/\In w A n c l:=by
 rcases open_ints s p o h with ⟨b,_⟩|⟨a,l,c,zs,b,_,u,r,m,_,f,j⟩
 .simp at b;subst b;exact⟨none,0,0,[],rfl,tZ⟩
 .simp at b;subst b;obtain⟨k,g⟩:=f8 (w:=w) (a:=some a) (len:=l) (cap:=c) (zs:=zs) (.inr ⟨_,rfl,u,r,by simpa using m,f,j⟩);exact⟨_,_,_,k,rfl,g⟩
open Go.ChangeShapes Go.WideShapes Go.ChangeAt Go.RowKit Go.Deep Go.WideElems Go.Maps Go.Joins
end
section
open Go.ChangeShapes Go.WideShapes Go.ChangeAt Go.RowKit Go.Deep Go.WideElems Go.Maps Go.Joins
inductive Sh where
 |int (k:IntKind)
 |bool
 |str
 |dig
 |sl (n:Nat) (e:Sh)
 |nil
 |cons (n:Nat) (s r:Sh)
def Rd(w:YN):Sh->List YM->Prop
 | .int k,cs=>∃z,cs=[.int k z]/\(Lit.int k z).wf=true
 | .bool,cs=>∃b,cs=[.bool b]
 | .str,cs=>∃s:ByteArray,cs=[.string s]/\s.size<=maxLen
 | .dig,cs=>∃A n c l,cs=[.slice A n c]/\In w A n c l
 | .sl n e,cs=>∃A len cap,cs=[.slice A len cap]/\len<=cap/\cap<=maxLen/\∀i,i<len->∃(ad:YB) (xs:List YM),A=some ad/\xs.length=n/\
  (∀(j:Nat) (v:YM),xs[j]? =some v->w.cell? ((ad.add (i*n)).add j)=some v)/\Rd w e xs
 | .nil,cs=>cs=[]
 | .cons n s r,cs=>∃a b,cs=a++b/\a.length=n/\Rd w s a/\Rd w r b
def Ul(P:YK)(g:YH->Option Sh):List Field->Nat->Option Sh
 | [],_=>some .nil
 |f::r,c=>if f.offset=c then(match g f.type,Ul P g r (c+P.cellsOf f.type)with
  |some a,some b=>some (.cons (P.cellsOf f.type) a b)
  |_,_=>none)else none
def g9(m:Nat)(s:Sh):Nat->Sh
 |0=> .nil
 |n+1=> .cons m s (g9 m s n)
def iT(P:YK):List Field->Nat
 | []=>0
 |f::r=>P.cellsOf f.type+iT P r
def fN(P:YK):Nat->YH->Option Sh
 |0,_=>none
 | n+1,t=>match P.underlying t with
  |some (.int k)=>some (.int k)
  |some .bool=>some .bool
  |some .string=>some .str
  | some (.slice e)=>match P.underlying e with
   |some (.int .u32)=>if P.cellsOf e=1 then some .dig else none
   |_=>match fN P n e with
    |some s=>some (.sl (P.cellsOf e) s)
    |none=>none
  |some (.struct a)=>if P.cellsOf t=iT P a.toList then Ul P (fN P n) a.toList 0 else none
  |some (.array m e)=>if P.cellsOf t=m*P.cellsOf e then(match fN P n e with
   |some s=>some (g9 (P.cellsOf e) s m)
   |none=>none)else none
  |_=>none
section
variable{uS:Type}{enc:YH×YM->uS}{P:YK}{w:YN}{base:Nat}{held:Bool}
theorem gO{g:YH->Option Sh}{m:Nat}{cs:List YM}(s:∀t e cs x,g t=some e->DataW.trod enc P w base (λ_=>true) held m t cs=some x->Rd w e cs):∀(l:List Field) (c:Nat) (e:Sh),Ul P g l c=some e->
 cs.length=c+iT P l->(∀f∈l,∃x,DataW.trod enc P w base (λ_=>true) held m f.type ((cs.drop f.offset).take (P.cellsOf f.type))=some x)->Rd w e (cs.drop c)
 | [],c,e,h,p,_=>by
  simp only[Ul,CN]at h;subst h;simp only[Rd,List.drop_eq_nil_iff];simp only[iT]at p;omega
 | f ::r,c,e,h,p,u=>by
  simp only[Ul]at h;split at h
  .rename_i j;split at h
   .rename_i a b y A;injection h with h;subst h;simp only[iT]at p;obtain⟨x,k⟩:=u f (CJ ..);rw[j]at k;refine⟨(cs.drop c).take (P.cellsOf f.type),(cs.drop c).drop (P.cellsOf f.type),(CY _ _).symm,?_,s _ _ _ _ y k,?_⟩
    .rw[BE,CQ];omega
    .rw[List.drop_drop];exact gO s r _ b A J λv o=>u v (CZ _ o)
   .cases h
  .cases h
theorem i6{n:Nat}{s:Sh}:∀(k:Nat) (cs:List YM),cs.length=k*n->(∀i,i<k->Rd w s ((cs.drop (i*n)).take n))->Rd w (g9 n s k) cs
 |0,cs,b,_=>by
  show cs=[];exact AB.1 J
 |k+1,cs,b,h=>by
  have e:(k+1)*n=k*n+n:=Nat.succ_mul k n;have a:=h 0 J;rw[CO,BJ]at a;refine⟨cs.take n,cs.drop n,(CY _ _).symm,by rw[BE];omega,a,i6 k _ (by rw[CQ];omega) λi hi=> ?_⟩;have:=h (i+1) J;rwa [Nat.succ_mul,CP (i*n) n,<-List.drop_drop]at this
theorem rd_of_trod:∀(n:Nat) (m:Nat) (t:YH) (cs:List YM) (x:DataW uS×List MemPlace) (G:Sh),fN P n t=some G->DataW.trod enc P w base (λ_=>true) held m t cs=some x->Rd w G cs
 |0,_,_,_,_,_,h,_=>by cases h
 | n +1,m,t,cs,x,G,h,r=>by
  simp only[fN]at h;split at h
  .rename_i k o;injection h with h;subst h;obtain⟨z,u,B⟩:=DataW.trod_int o r;exact⟨z,u,B.2⟩
  .rename_i o;injection h with h;subst h;obtain⟨b,u,_⟩:=DataW.trod_bool o r;exact⟨b,u⟩
  .rename_i o;injection h with h;subst h;obtain⟨s,u,B⟩:=DataW.trod_string o r;exact⟨s,u,B.2⟩
  .rename_i e o;split at h
   .rename_i uT;split at h
    .rename_i F;injection h with h;subst h;have vg:∃v,cs=[v]:=by
      rcases open_slice o r with ⟨g,_⟩|⟨a,len,cap,m,k,D,Pl,g,_⟩
      .exact⟨_,g⟩
      .exact⟨_,g⟩
     obtain⟨v,rfl⟩:=vg;obtain⟨A,N,c,l,rfl,Q⟩:=MW o uT F r;exact⟨A,N,c,l,rfl,Q⟩
    .cases h
   .split at h
    .rename_i s uY;injection h with h;subst h;rcases open_slice o r with ⟨g,_⟩|⟨a,len,cap,S,k,D,Pl,g,hb,vf,hm,ve,_,uR⟩
     .exact⟨none,0,0,g,AA _,AH _,λi hi=>absurd hi (Nat.not_lt_zero _)⟩
     .refine⟨some a,len,cap,g,vf,hm,λi hi=> ?_⟩;obtain⟨cs',uV,W⟩:=uR i (by rw[ve];simp;omega);obtain⟨_,uU,k3⟩:=World.cells?_some uV;exact⟨a,cs',rfl,uU,λj v T=>(k3 j (by rw[<-uU];exact(AX.1 T).1)).trans T,rd_of_trod n k e cs' _ s uY W⟩
    .cases h
  .rename_i uW o;split at h
   .rename_i F;obtain⟨xs,N,_,rfl,vf,p,K⟩:=DataW.trod_struct o r;have:=gO (w:=w) (base:=base) (held:=held) (enc:=enc) (cs:=cs) (λt' uZ cs' uX u B=>rd_of_trod n N t' cs' uX uZ u B) uW.toList 0 G h J (λf L=>by
     obtain⟨i,hi⟩:=CW.1 L;have C:=K i f (by simpa using hi);have h4:i<xs.length:=by rw[p];exact(BB.1 (show uW[i]? =some f by simpa using hi)).1
     rw[AP h4]at C;exact⟨_,C⟩)
    exact this
   .cases h
  .rename_i S e o;split at h
   .rename_i F;split at h
    .rename_i s uY;injection h with h;subst h;obtain⟨xs,k,_,_,vf,p,K⟩:=DataW.trod_array o r;refine i6 S cs (by rw[vf,F]) λi hi=> ?_
     have C:=K i hi;obtain⟨y,hy⟩:∃y,xs[i]? =some y:=⟨_,AP J⟩
     rw[hy]at C;exact rd_of_trod n k e _ y s uY C
    .cases h
   .cases h
  .cases h
theorem rd_of_read{r:Reach}{l n:Nat}{t:YH}{e:Sh}{v:YM}{d:DataW uS}{p:List MemPlace}(m:fN P n t=some e)(g:(match P.underlying t with|some (.struct _)|some (.array _ _)=>true|_=>false)=true)
 (a:Value.okWide P w r l t v) (h:DataW.Trod enc P w base (λ_=>true) held t v d p):∃cs:List YM,v= .agg cs.toArray/\Rd w e cs:=by
 obtain⟨fuel,k⟩:=h;have j:=rd_of_trod n fuel t _ _ e m k;unfold Value.okWide at a;split at a
 .obtain⟨cs,rfl,_⟩:=a;exact⟨cs.toList,by simp,j⟩
 .obtain⟨cs,rfl,_⟩:=a;exact⟨cs.toList,by simp,j⟩
 .rename_i c b;split at g
  .rename_i f;exact absurd f (c _)
  .rename_i f;exact absurd f (b _ _)
  .cases g
end
end
section
variable{w:YN}{a b:RV}{K K1:Nat}{l:R}
def Mi:R->R×R×Bool
 | []=>([],[],false)
 |b::l=>if b=47 then([],l,true)else(b::(Mi l).1,(Mi l).2.1,(Mi l).2.2)
theorem OW:∀{l:R},(Mi l).2.2=false->(Mi l).1=l/\(Mi l).2.1=[]
 | [],_=>⟨rfl,rfl⟩
 | b::l,h=>by
  unfold Mi at h ⊢;split at h
  .cases h
  .rename_i c;have:=OW (l:=l) h;rw[V c];exact⟨by rw[this.1],this.2⟩
theorem cj:∀(l:R),DH l [47]=Mi l
 | []=>rfl
 | b::l=>by
  have e:=cj l;have p:=Lib.index_ge l [47];unfold DH at e ⊢;unfold Mi;rw[DG]
  by_cases c:b=47
  .subst c;simp
  .have o: [47].isPrefixOf (b::l)=false:=by
    simp only[List.isPrefixOf,Bool.and_true];exact YR.2 (Ne.symm c)
   rw[o,V c,<-e]
   by_cases m:DG l [47]= -1
   .rw[m];rfl
   .obtain⟨k,f⟩:∃k:Nat,DG l [47]=k:=⟨(DG l [47]).toNat,by omega⟩
    rw[f];have h:((k:Int)== -1)=false:=YR.2 J;rw[h];have j:((k:Int)+1).toNat=k+1:=J
    have g:(k:Int).toNat=k:=J
    simp only[BC,if_false,YS (show(0:Int)<=(k:Int)+1 by omega),YS (show(0:Int)<=(k:Int) by omega),j,g,DA,List.length_singleton,DC]
def ML(w:YN):Prop:=∃m,w.cell? ⟨1,0,none⟩=some (I m)
theorem ML.below{w c:YN}(h:ML w)(e:Below w.heap.size w c):ML c:=by obtain⟨m,f⟩:=h;exact⟨m,La e f⟩
theorem nR(f:ML w)(k:l.length<4294967281):Zv 109 #[E l,.string ⟨#[47]⟩] w (.tuple #[E (Mi l).1,E (Mi l).2.1,.bool (Mi l).2.2]):=by
 obtain⟨m,o⟩:=f;refine(Tryz.strings_Cut ⟨l.toArray⟩ ⟨#[47]⟩ m w k o).mono λe p h=> ?_
 obtain⟨j,n,g⟩:=h;refine⟨(),?_,by rw[g];exact Mt (Below.refl _ _) n,λ_ _ _=>trivial⟩;have c:=cj l;rw[j];show Ending.returned (Value.tuple #[E (DH l [47]).1,E (DH l [47]).2.1,.bool (DH l [47]).2.2])=_;rw[c]
def Pw(l:R):Int:=if Kq l=0 then(if Hf (Kn l)then 0 else 6)else Kq l
def O1(l:R):Int:=if Pw l=0 then Kn l else 0
theorem RI(h:Kq l≠0):Pw l=Kq l/\O1 l=0:=by
 have c:Pw l=Kq l:=V h;exact⟨c,by unfold O1;rw[V (by rw[c];exact h)]⟩
theorem QV(h:Kq l=0)(e:Hf (Kn l)=false):Pw l=6/\O1 l=0:=by
 have c:Pw l=6:=by unfold Pw;rw[YS h,e];rfl
 exact⟨c,by unfold O1;rw[V (by rw[c];decide)]⟩
theorem LF(h:Kq l=0)(e:Hf (Kn l)=true):Pw l=0/\O1 l=Kn l/\gy (Kn l)=Kn l:=by
 have c:Pw l=0:=by unfold Pw;rw[YS h,e];rfl
 exact⟨c,by unfold O1;rw[YS c],by unfold gy;rw[e];rfl⟩
theorem WW{v:SV}{x:Int}{B:Bool}(c:Hf x=B)(e:Q7 v x K w)(f:K<=274877906944):Zv 261 #[v.val] w (.tuple #[I (gy x),.bool B]):=by subst c;exact jO e f
theorem VJ{v:SV}{x:Int}{B:Bool}(c:Hf x=B)(e:Q7 v x K w)(f:K<=274877906944):Zv 207 #[v.val] w (.tuple #[I (gy x),.bool B]):=by subst c;exact jQ e f
theorem FR(o:l.length<=9223372036854775807):Zv 205 #[E l] w (.tuple #[I (O1 l),I (Pw l)]):=by
 refine sL func205 rfl<|M<|Z (λk j h=>E4 o) λv=> ?_
 by_cases f:Kq l=0
 case neg=>
  obtain⟨c,e⟩:=RI f;rw[c,e];exact X (Kq l !=0) true (by simpa using f)<|ZW (.tuple #[I 0,I (Kq l)])
 refine X (Kq l !=0) false (by rw[f];rfl) ?_;cases g:Hf (Kn l)
 .obtain⟨c,e⟩:=QV f g;rw[c,e];exact Z (λk j h=>WW g h.2.i Zd) λu=>ZI true<|ZW (.tuple #[I 0,I 6])
 .obtain⟨c,e,m⟩:=LF f g;rw[c,e];exact Z (λk j h=>WW g h.2.i Zd) λu=>ZI false<|ZX (.tuple #[I (gy (Kn l)),I 0]) (by rw[m])
theorem Dk(o:l.length<=9223372036854775807):Zv 138 #[E l] w (.tuple #[I (O1 l),I (Pw l)]):=by
 refine sL func138 rfl<|M<|Z (λk j h=>Ab o) λv=> ?_
 by_cases f:Kq l=0
 case neg=>
  obtain⟨c,e⟩:=RI f;rw[c,e];exact X (Kq l !=0) true (by simpa using f)<|ZW (.tuple #[I 0,I (Kq l)])
 refine X (Kq l !=0) false (by rw[f];rfl) ?_;cases g:Hf (Kn l)
 .obtain⟨c,e⟩:=QV f g;rw[c,e];exact Z (λk j h=>VJ g h.2.i Zd) λu=>ZI true<|ZW (.tuple #[I 0,I 6])
 .obtain⟨c,e,m⟩:=LF f g;rw[c,e];exact Z (λk j h=>VJ g h.2.i Zd) λu=>ZI false<|ZX (.tuple #[I (gy (Kn l)),I 0]) (by rw[m])
def Rp(l:R)(lo hi:Int):Int:=if Pw l=0 then(if O1 l<lo\/hi<O1 l then 6 else 0)else Pw l
def Af(l:R)(lo hi:Int):Int:=if Rp l lo hi=0 then O1 l else 0
theorem MP{lo hi:Int}(k:l.length<=9223372036854775807):Zv 203 #[E l,I lo,I hi] w (.tuple #[I (Af l lo hi),I (Rp l lo hi)]):=by
 refine sL func203 rfl<|M<|Z (λo m h=>FR k) λv=> ?_
 by_cases g:Pw l=0
 case neg=>
  have c:Rp l lo hi=Pw l:=V g;have e:Af l lo hi=0:=by unfold Af;rw[V (by rw[c];exact g)]
  rw[c,e];exact X (Pw l !=0) true (by simpa using g)<|ZW (.tuple #[I 0,I (Pw l)])
 refine sQ (Pw l !=0) false O (by rw[g];rfl)<|H 3 ?_
 by_cases j:O1 l<lo
 .have c:Rp l lo hi=6:=by unfold Rp;rw[YS g,YS (.inl j)]
  have e:Af l lo hi=0:=by unfold Af;rw[V (by rw[c];decide)]
  rw[c,e];exact ZT 22 (.bool (decide (O1 l<lo))) Zt (by rw[YU j])<|ZI true<|ZW (.tuple #[I 0,I 6])
 refine ZT 22 (.bool (decide (O1 l<lo))) Zf (by rw[YV j]) ?_
 by_cases f:hi<O1 l
 .have c:Rp l lo hi=6:=by unfold Rp;rw[YS g,YS (.inr f)]
  have e:Af l lo hi=0:=by unfold Af;rw[V (by rw[c];decide)]
  rw[c,e];exact X (decide (O1 l>hi)) true (YU f)<|ZW (.tuple #[I 0,I 6])
 .have c:Rp l lo hi=0:=by unfold Rp;rw[YS g,V J]
  have e:Af l lo hi=O1 l:=by unfold Af;rw[YS c]
  rw[c,e];exact X (decide (O1 l>hi)) false (YV f)<|ZW (.tuple #[I (O1 l),I 0])
theorem L9{n:Int}(e: -9223372036854775808<=n)(g:n<=9223372036854775807):Zv 20 #[I n] w (E (K8 n)):=sL func20 rfl<|M<|Z (λc f h=>V4 n c e g) λv=>Z (λc f h=>ES h.2.i Zd) λu=>ZW (E (K8 n))
theorem Lv{n:Int}(e: -9223372036854775808<=n)(g:n<=9223372036854775807):Zv 39 #[I n] w (E (K8 n)):=sL func39 rfl<|M<|Z (λc f h=>Xv n c e g) λv=>Z (λc f h=>W9 h.2.i Zd) λu=>ZW (E (K8 n))
end
theorem d0:∀{l:R} {k:Nat},(∀i,i<k->l[i]? ≠some 47)->l[k]? =some 47->Mi l=(l.take k,l.drop (k+1),true)
 | [],k,_,h=>by simp at h
 |b::l,0,_,h=>by
  have a:b=47:=by simpa using h
  unfold Mi;rw[YS a]
  rfl
 |b::l,k+1,c,f=>by
  have a:b≠47:=by have:=c 0 J;simpa using this
  have e:=d0 (l:=l) (k:=k) (λi hi=>by have:=c (i+1) J;simpa using this) (by simpa using f);unfold Mi;rw[V a,e]
  rfl
theorem cQ:∀{l:R},(∀i,i<l.length->l[i]? ≠some 47)->Mi l=(l,[],false)
 | [],_=>rfl
 |b::l,h=>by
  have c:b≠47:=by have:=h 0 Zs;simpa using this
  have a:=cQ (l:=l) (λi hi=>by have:=h (i+1) (by simpa using hi);simpa using this);unfold Mi;rw[V c,a]
def nU(l:R):Int:=if (Mi l).2.2 then((Mi l).1.length:Int)else -1
section
variable{w:YN}{l:R}
theorem lM(o:l.length<=9223372036854775807):Zv 306 #[E l] w (I (nU l)):=by
 refine sL func306 rfl<|M<|sU (ι:={k:Nat // k<=l.length/\∀i,i<k->l[i]? ≠some 47}) 15 (λq=>⟨[(0,.v (E l)),(2,.v (I 0)),(3,.v (I q.1))],[]⟩) (λ_ _=>True) (λq=>l.length-q.1) (⟨0,by omega,by omega⟩) O (λ_=>O) zt (λ_ _=>trivial) ?_
 rintro⟨k,p,c⟩ g
 by_cases f:k<l.length
 .refine M<|sQ (decide ((k:Int)<(l.length:Int))) true O Zp<|H 2 ?_
  obtain⟨b,m⟩:∃b,l[k]? =some b:=⟨_,AP f⟩
  refine ZA (D0 9 (E l) k) (.int .u8 b.toNat) (λs r h=>Mc O m) ?_
  by_cases a:b=47
  .exact X ((b.toNat:Int)==47) true (by rw[a];rfl)<|sN O<|M<|ZX (I k) (by unfold nU;rw[d0 c (by rw[m,a]),YS rfl];simp;omega)
  .refine X ((b.toNat:Int)==47) false (by simp;intro e;apply a;apply BQ.1;show b.toNat=47;omega)<|sS 3 f o O<|sR (⟨k+1,by omega,by intro i hi;by_cases e:i=k;rw[e,m];simpa using a;exact c i J⟩) O zo zt (λ_ _=>trivial)
 .refine M<|X (decide ((k:Int)<(l.length:Int))) false Zp<|sN O<|M ?_
  have j:k=l.length:=J
  subst j;exact ZX (I (-1)) (by unfold nU;rw[cQ c];rfl)
end
theorem aN{l:R}(h:Kq l=0):K8 (Kn l)=l:=by
 have c:L3 (Nc l)=0:=by
  rcases Classical.em (L3 (Nc l)=0)with e|e
  .exact e
  .have:=(V1 e).1;rw[h]at this;exact absurd this.symm e
 by_cases a:X5 l=true/\O0 (Nc l)=0
 .have:=(Dv c a.1 a.2).1;rw[h]at this;cases this
 .rw[(Qu c a).2];obtain⟨f,g,_,_⟩:=LX c;cases l with
  |nil=>rw[Iv.1,Iv.2]at *;rw[B0 (by simp[zi])];exact f
  | cons b t=>
   by_cases e:b=45
   .subst e;rw[(Pd t).1,(Pd t).2]at*;have j:O0 t≠0:=λe=>a ⟨rfl,e⟩
    rw[J9 (by simp[zi];omega),Bn,f]
   .rw[(U1 e).1,(U1 e).2]at*;rw[B0 (by simp[zi]),Bn,f]
theorem H2{x:Int}(h:(Pr x.natAbs).length<=1000):Kq (K8 x)=0/\Kn (K8 x)=x:=by
 obtain⟨g,f⟩:=ZM h
 by_cases j:x<0
 .rw[J9 j];have m:¬(X5 (45::Pr x.natAbs)=true/\O0 (Nc (45::Pr x.natAbs))=0):=by
   rintro⟨_,c⟩;rw[(Pd _).2,f]at c;omega
  have a:=Qu (by rw[(Pd _).2];exact g) m;refine⟨a.1,?_⟩;rw[a.2,(Pd _).1,(Pd _).2,f];simp[zi];omega
 .rw[B0 j];have e:X5 (Pr x.natAbs)=false/\Nc (Pr x.natAbs)=Pr x.natAbs:=by
   cases k:Pr x.natAbs with
   |nil=>exact Iv
   |cons b t=>
    refine U1 ?_;rintro rfl;have:=TB x.natAbs 45 (by rw[k];exact CJ ..);simp at this
  have a:=Qu (l:=Pr x.natAbs) (by rw[e.2];exact g) (by rintro⟨c,_⟩;rw[e.1]at c;cases c);refine⟨a.1,?_⟩;rw[a.2,e.1,e.2,f];simp[zi];omega
theorem T2{x:Int}{k:Nat}(a:1<=k)(h:x.natAbs<pw k):(K8 x).length<=10*k+1:=by
 have:=UU a h;unfold K8;split
 .rw[BF];omega
 .omega
theorem IT:K8 1=[49]:=by decide+kernel
theorem Wo{d:Nat}(h:K8 (d:Int)=[49]):d=1:=by
 have b:Pr (d:Int).natAbs=[49]:=by rw[<-B0 (by omega:¬(d:Int)<0)];exact h
 have c:=(H2 (x:=(d:Int)) (by rw[b];decide)).2;have a:=(H2 (x:=1) (by decide+kernel)).2;rw[IT]at a;rw[h,a]at c;omega
def Kz(q:Rat):R:=if q.den=1 then K8 q.num else K8 q.num++47::K8 q.den
section
variable{w:YN}{a b:RV}{q p:Rat}{K K1:Nat}{l:R}
theorem Xg(x:R):(⟨x.toArray⟩:ByteArray).toList=x:=ByteArray.toList_mk x
theorem Ut(m:Ci a q K w)(r:2<=K/\K<=1000):Zv 105 #[a.val] w (E (Kz q)):=by
 refine sL func105 rfl<|M<|Z (λf e h=>Mu (m.below e) J) λn=>Z (λf e h=>ES h.2.1.i J) λs=>Z (λf e h=>V4 1 f Zd Zd) λo=>Z (λf e h=>a_ h.1.1.2.2.i h.2.i J) λc=> ?_
 by_cases j:q.den=1
 .have g:Kz q=K8 q.num:=YS j;rw[g];exact X (Pu ((q.den:Int)-1) !=0) false (by rw[j];rfl)<|ZW (E (K8 q.num))
 .have g:Kz q=K8 q.num++47::K8 q.den:=V j;rw[g];exact X (Pu ((q.den:Int)-1) !=0) true (by show(!(Pu ((q.den:Int)-1)==0))=true;rw[Sx,YV J];rfl)<|ZD 4 (λf e h=>ES h.1.1.1.2.2.i J) λt=>sV (Nq .add 9 (.const (.string ⟨#[47]⟩)) (.tmp 17) (E [47]) (E (K8 q.den))) (E ([47]++K8 q.den)) O (λf e h=>M6 (by have:=T2 (k:=K) J h.1.1.1.1.2.2.i.lt;simp;omega))<|H 5<|ZA (Nq .add 9 (.tmp 14) (.tmp 18) (E (K8 q.num)) (E ([47]++K8 q.den))) (E (K8 q.num++47::K8 q.den)) (λf e h=>M6 (by have:=T2 (k:=K) J h.1.1.1.1.2.2.i.lt;have:=T2 (k:=K) J h.1.1.1.1.2.1.i.lt;simp;omega))<|ZW (E (K8 q.num++47::K8 q.den))
theorem Uz(o:Ci a q K w)(r:2<=K/\K<=1000):Zv 156 #[a.val] w (E (Kz q)):=by
 refine sL func156 rfl<|M<|Z (λf c h=>M9 (o.below c) J) λn=>Z (λf c h=>W9 h.2.1.i J) λs=>Z (λf c h=>W9 h.1.2.2.i J) λt=> ?_
 by_cases g:q.den=1
 .have m:Kz q=K8 q.num:=YS g;rw[m];exact X ((⟨(K8 q.den).toArray⟩:ByteArray).toList==(⟨#[49]⟩:ByteArray).toList) true (by rw[Xg,g];show(K8 1==_)=true;rw[IT];exact YQ.2 (Xg [49]).symm)<|ZW (E (K8 q.num))
 .have m:Kz q=K8 q.num++47::K8 q.den:=V g;rw[m];have j:((⟨(K8 q.den).toArray⟩:ByteArray).toList==(⟨#[49]⟩:ByteArray).toList)=false:=by
   rw[Xg,show(⟨#[49]⟩:ByteArray).toList=[49]from Xg [49],YR];exact λe=>g (Wo e)
  exact sQ ((⟨(K8 q.den).toArray⟩:ByteArray).toList==(⟨#[49]⟩:ByteArray).toList) false O (j)<|H 1<|sV (Nq .add 9 (.tmp 17) (.const (.string ⟨#[47]⟩)) (E (K8 q.num)) (E [47])) (E (K8 q.num++ [47])) O (λf c h=>M6 (by have:=T2 (k:=K) J h.1.1.2.1.i.lt;simp;omega))<|H 3<|ZA (Nq .add 9 (.tmp 18) (.tmp 19) (E (K8 q.num++ [47])) (E (K8 q.den))) (E (K8 q.num++ [47]++K8 q.den)) (λf c h=>M6 (by have:=T2 (k:=K) J h.1.1.2.2.i.lt;have:=T2 (k:=K) J h.1.1.2.1.i.lt;simp;omega))<|ZX (E (K8 q.num++ [47]++K8 q.den)) (by rw[DM];rfl)
def XG(l:R):Int:=Kn (Mi l).1
def G_(l:R):Int:=if (Mi l).2.2 then Kn (Mi l).2.1 else 1
def Gy(l:R):Int:=
 if Kq (Mi l).1=0 then
  if (Mi l).2.2=true/\Kq (Mi l).2.1≠0 then Kq (Mi l).2.1
  else if (Mi l).2.2=true/\G_ l<2 then 3
  else if (Rat.divInt (XG l) (G_ l)).num=XG l/\((Rat.divInt (XG l) (G_ l)).den:Int)=G_ l then 0 else 3
 else Kq (Mi l).1
def Du(l:R):Rat:=Rat.divInt (XG l) (G_ l)
def Hu(r:RV)(e:Int)(q:Rat)(K:Nat)(u:YN):Prop:=if e=0 then Oe r q K u else r=Yh
theorem Ai{e:Int}(h:e≠0):Hu Yh e q K w:=by unfold Hu;rw[V h]
theorem dE{r:RV}{e:Int}(h:e=0)(k:Oe r q K w):Hu r e q K w:=by unfold Hu;rw[YS h];exact k
theorem Hu.n{r:RV}{e:Int}(k:Hu r e q K w)(h:e=0):Oe r q K w:=by unfold Hu at k;rw[YS h]at k;exact k
theorem Hu.z{r:RV}{e:Int}(k:Hu r e q K w)(h:e≠0):r=Yh:=by unfold Hu at k;rw[V h]at k;exact k
theorem JP:∀(l:R),(Mi l).1.length<=l.length/\(Mi l).2.1.length<=l.length
 | []=>⟨AA _,AA _⟩
 |b::l=>by
  have:=JP l;unfold Mi;split
  .simp
  .simp only[BF];omega
end
section
variable{w:YN}{r:RV}{K K1:Nat}{l:R}
theorem Wp:Kq [49]=0/\Kn [49]=1:=by
 have a:=H2 (x:=1) (by decide+kernel);rw[IT]at a;exact a
theorem QM{x y:Int}(g:Ug r.a x K w)(e:Ug r.b y K1 w)(h:y≠0):bM r x y=decide ((Rat.divInt x y).num=x/\((Rat.divInt x y).den:Int)=y):=by
 unfold bM;rw[bS g,bS e,YU h,BY,BY,BY];have c:decide (x=(Rat.divInt x y).num)=decide ((Rat.divInt x y).num=x):=decide_eq_decide.2 eq_comm;have f:decide (y=((Rat.divInt x y).den:Int))=decide (((Rat.divInt x y).den:Int)=y):=decide_eq_decide.2 eq_comm;rw[c,f,Bool.decide_and]
theorem nO{x y:Int}(h:(Rat.divInt x y).num=x/\((Rat.divInt x y).den:Int)=y)(e:Ug r.a x K w)(c:Ug r.b y K w):Oe r (Rat.divInt x y) K w:=⟨e.cast h.1.symm,c.cast h.2.symm⟩
theorem oc{B:Bool}(a:(Mi l).2.2=B)(b:ML w)(c:l.length<4294967281):Zv 109 #[E l,.string ⟨#[47]⟩] w (.tuple #[E (Mi l).1,E (Mi l).2.1,.bool B]):=by subst a;exact nR b c
theorem jm(h:Kq (Mi l).1≠0):Gy l=Kq (Mi l).1:=V h
theorem nV(h:Kq (Mi l).1=0)(b:(Mi l).2.2=true)(a:Kq (Mi l).2.1≠0):Gy l=Kq (Mi l).2.1:=by unfold Gy;rw[YS h,YS ⟨b,a⟩]
theorem nS(h:Kq (Mi l).1=0)(a:(Mi l).2.2=true)(b:Kq (Mi l).2.1=0)(c:Kn (Mi l).2.1<2):Gy l=3:=by
 unfold Gy G_;rw[YS h,V (λq=>q.2 b),YS a,YS ⟨a,c⟩]
theorem dK(h:Kq (Mi l).1=0)(a:(Mi l).2.2=true->Kq (Mi l).2.1=0/\2<=G_ l):Gy l=if (Rat.divInt (XG l) (G_ l)).num=XG l/\((Rat.divInt (XG l) (G_ l)).den:Int)=G_ l then 0 else 3:=by
 unfold Gy;rw[YS h,V (λq=>q.2 (a q.1).1),V (λq=>by have:=(a q.1).2;omega)]
theorem eQ(A:ML w)(D:l.length<4294967281):YG XW 184 #[E l] w (K6 w (λr:RV=> .tuple #[r.val,I (Gy l)]) λr u=>Hu r (Gy l) (Du l) 125 u):=by
 have vg:=JP l;refine sL func184 rfl<|M ?_
 by_cases m:Kq (Mi l).1=0
 case neg=>
  rw[jm m];refine Z (λe b h=>nR (A.below b) D) λu=>Z (λe b h=>E4 (l:=(Mi l).1) J) λn=>X (Kq (Mi l).1 !=0) true (by simpa using m)<|ZV (.tuple #[Yh.val,I (Kq (Mi l).1)]) (λe b h=>⟨Yh,rfl,b,λf k j=>Ai m⟩)
 cases s:(Mi l).2.2
 .have p:G_ l=1:=by unfold G_;rw[s];rfl
  have o:=dK m (by rw[s];intro h;cases h);refine Z (λe b h=>oc s (A.below b) D) λu=>Z (λe b h=>E4 (l:=(Mi l).1) J) λn=>X (Kq (Mi l).1 !=0) false (by rw[m];rfl)<|Z (λe b h=>V4 1 e Zd Zd) λd=>ZI false ?_
  by_cases g:(Rat.divInt (XG l) (G_ l)).num=XG l/\((Rat.divInt (XG l) (G_ l)).den:Int)=G_ l
  .rw[YS g]at o;rw[o];rw[p]at g;refine Z (λe b h=>QB (a:=⟨n,d⟩) (K:=125) (B:=true) ((QM h.1.2 h.2 Zd).trans (YU g)) h.1.2.i (h.2.i.mono Zd) Zd) λz=>ZI false<|ZV (.tuple #[(RV.mk n d).val,I 0]) (λe b h=>⟨⟨n,d⟩,rfl,b,λf k j=>dE rfl (by unfold Du;rw[p];exact nO g (h f k j).1.1.2 ((h f k j).1.2.mono Zd))⟩)
  .rw[V g]at o;rw[o];rw[p]at g;refine Z (λe b h=>QB (a:=⟨n,d⟩) (K:=125) (B:=false) ((QM h.1.2 h.2 Zd).trans (YV g)) h.1.2.i (h.2.i.mono Zd) Zd) λz=>ZI true<|ZV (.tuple #[Yh.val,I 3]) (λe b h=>⟨Yh,rfl,b,λf k j=>Ai Zd⟩)
 refine Z (λe b h=>oc s (A.below b) D) λu=>Z (λe b h=>E4 (l:=(Mi l).1) J) λn=>X (Kq (Mi l).1 !=0) false (by rw[m];rfl)<|Z (λe b h=>V4 1 e Zd Zd) λd=>ZI true<|Z (λe b h=>E4 (l:=(Mi l).2.1) J) λd=> ?_
 by_cases v:Kq (Mi l).2.1=0
 case neg=>
  rw[nV m s v];refine X (Kq (Mi l).2.1 !=0) true (by simpa using v)<|ZV (.tuple #[Yh.val,I (Kq (Mi l).2.1)]) (λe b h=>⟨Yh,rfl,b,λf k j=>Ai v⟩)
 have p:G_ l=Kn (Mi l).2.1:=by unfold G_;rw[s];rfl
 have x:∀y:Int,decide (Pu (y-2)<0)=decide (y<2):=λy=>by rw[H_];exact decide_eq_decide.2 J
 refine X (Kq (Mi l).2.1 !=0) false (by rw[v];rfl)<|Z (λe b h=>V4 2 e Zd Zd) λt=>Z (λe b h=>a_ h.1.2.i h.2.i Zd) λc=> ?_
 by_cases C:Kn (Mi l).2.1<2
 .rw[nS m s v C];refine X (decide (Pu (Kn (Mi l).2.1-2)<0)) true (by rw[x];exact YU C)<|ZV (.tuple #[Yh.val,I 3]) (λe b h=>⟨Yh,rfl,b,λf k j=>Ai Zd⟩)
 have o:=dK m (λ_=>⟨v,by omega⟩);refine X (decide (Pu (Kn (Mi l).2.1-2)<0)) false (by rw[x];exact YV C) ?_
 by_cases g:(Rat.divInt (XG l) (G_ l)).num=XG l/\((Rat.divInt (XG l) (G_ l)).den:Int)=G_ l
 .rw[YS g]at o;rw[o];rw[p]at g;refine Z (λe b h=>QB (a:=⟨n,d⟩) (K:=125) (B:=true) ((QM h.1.1.1.1.2 h.1.1.2 J).trans (YU g)) h.1.1.1.1.2.i h.1.1.2.i Zd) λz=>ZI false<|ZV (.tuple #[(RV.mk n d).val,I 0]) (λe b h=>⟨⟨n,d⟩,rfl,b,λf k j=>dE rfl (by unfold Du;rw[p];exact nO g (h f k j).1.1.1.1.1.2 (h f k j).1.1.1.2)⟩)
 .rw[V g]at o;rw[o];rw[p]at g;refine Z (λe b h=>QB (a:=⟨n,d⟩) (K:=125) (B:=false) ((QM h.1.1.1.1.2 h.1.1.2 J).trans (YV g)) h.1.1.1.1.2.i h.1.1.2.i Zd) λz=>ZI true<|ZV (.tuple #[Yh.val,I 3]) (λe b h=>⟨Yh,rfl,b,λf k j=>Ai Zd⟩)
theorem jL{e:Int}(a:Kq l=e)(b:l.length<=9223372036854775807):YG XW 206 #[E l] w (K6 w (λv:SV=> .tuple #[v.val,I e]) λv u=>Ug v (Kn l) 125 u):=by subst a;exact Ab b
theorem RW{s:Int}(a:nU l=s)(b:l.length<=9223372036854775807):Zv 306 #[E l] w (I s):=by subst a;exact lM b
theorem UQ:∀{l:R},(Mi l).2.2=true->(Mi l).1.length<l.length/\l.take (Mi l).1.length=(Mi l).1/\l.drop ((Mi l).1.length+1)=(Mi l).2.1
 | [],h=>by cases h
 | b::l,h=>by
  unfold Mi at h ⊢;split at h
  .rename_i a;rw[YS a];simp
  .rename_i a;rw[V a];have:=UQ (l:=l) h;simp only[BF,DA,DC];exact⟨by omega,by rw[this.2.1],this.2.2⟩
theorem Df(x y:Int):(Pu (x-y) !=0)=decide (x≠y):=by
 show(!(Pu (x-y)==0))=_;rw[Sx]
 by_cases h:x=y
 .rw[YU J,YV (by simpa using h)];rfl
 .rw[YV J,YU h];rfl
theorem NY(Q:l.length<4294967281):YG XW 270 #[E l] w (K6 w (λr:RV=> .tuple #[r.val,I (Gy l)]) λr u=>Hu r (Gy l) (Du l) 125 u):=by
 have uS:=JP l;have vf:∀y:Int,decide (Pu (y-2)<0)=decide (y<2):=λy=>by rw[H_];exact decide_eq_decide.2 J
 obtain⟨A,D⟩:∃A,(Mi l).1=A:=⟨_,rfl⟩
 obtain⟨B,C⟩:∃B,(Mi l).2.1=B:=⟨_,rfl⟩
 refine sL func270 rfl<|M ?_
 cases x:(Mi l).2.2
 .have uR:nU l= -1:=by unfold nU;rw[x];rfl
  have v:(Mi l).1=l:=(OW x).1;have ve:G_ l=1:=by unfold G_;rw[x];rfl
  by_cases m:Kq l=0
  case neg=>
   rw[jm (by rw[v];exact m),v];refine Z (λb a h=>RW uR J) λu=>X (decide ((-1:Int)>=0)) false Zd<|Z (λb a h=>Ab (l:=l) J) λn=>X (Kq l !=0) true (by simpa using m)<|ZV (.tuple #[Yh.val,I (Kq l)]) (λb a h=>⟨Yh,rfl,a,λe p o=>Ai m⟩)
  have k:=dK (by rw[v];exact m) (by rw[x];intro h;cases h);have s:XG l=Kn l:=by unfold XG;rw[v]
  rw[ve,s]at k;refine Z (λb a h=>RW uR J) λu=>X (decide ((-1:Int)>=0)) false Zd<|Z (λb a h=>Ab (l:=l) J) λn=>X (Kq l !=0) false (by rw[m];rfl)<|Z (λb a h=>jL (l:=[49]) Wp.1 Zd) λd=>ZI false<|ZI false<|Z (λb a h=>dq h.1.2.i (h.2.cast Wp.2).i Zd) λf=>ZD 5 (λb a h=>Wg (h.2.n Zd).1.i h.1.1.2.i Zd) λc=> ?_
  by_cases g:(Rat.divInt (Kn l) 1).num=Kn l
  case neg=>
   rw[V (λq=>g q.1)]at k;rw[k];refine ZT 61 (.bool (Pu ((Rat.divInt (Kn l) 1).num-Kn l) !=0)) Zt (by rw[Df,YU g])<|ZI true<|ZV (.tuple #[Yh.val,I 3]) (λb a h=>⟨Yh,rfl,a,λe p o=>Ai Zd⟩)
  refine ZT 61 (.bool (Pu ((Rat.divInt (Kn l) 1).num-Kn l) !=0)) Zf (by rw[Df,YV (by simpa using g)])<|Z (λb a h=>Wg (h.1.2.n Zd).2.i (h.1.1.2.cast Wp.2).i Zd) λc=> ?_
  by_cases j:((Rat.divInt (Kn l) 1).den:Int)=1
  case neg=>
   rw[V (λq=>j q.2)]at k;rw[k];refine X (Pu (((Rat.divInt (Kn l) 1).den:Int)-1) !=0) true (by rw[Df,YU j])<|ZV (.tuple #[Yh.val,I 3]) (λb a h=>⟨Yh,rfl,a,λe p o=>Ai Zd⟩)
  rw[YS ⟨g,j⟩]at k;rw[k];refine X (Pu (((Rat.divInt (Kn l) 1).den:Int)-1) !=0) false (by rw[Df,YV (by simpa using j)])<|ZV (.tuple #[f.val,I 0]) (λb a h=>⟨f,rfl,a,λe p o=>dE rfl (by unfold Du;rw[ve,s];exact(h e p o).1.1.2.n Zd)⟩)
 obtain⟨P,c2,N⟩:=UQ x;have uR:nU l=((Mi l).1.length:Int):=by unfold nU;rw[x];rfl
 have vg:decide ((((Mi l).1.length:Nat):Int)>=0)=true:=YU J;have L:YA.wrap ((((Mi l).1.length:Nat):Int)+1)=(((Mi l).1.length+1:Nat):Int):=Kc P J;have ve:G_ l=Kn B:=by unfold G_;rw[x,C];rfl
 rw[D]at uR vg L P c2 N;rw[C]at N;rw[D,C]at uS;refine Z (λb a h=>RW uR J) λu=>sQ (decide ((A.length:Int)>=0)) true O (vg)<|H 2<|sP 2 (rW 9 (E l) (A.length:Nat)) (E A) O (λb a h=>by rw[m3 O J,c2])<|H 6<|sM 22 (I (YA.wrap ((A.length:Int)+1))) (I ((A.length+1:Nat):Int)) O (by rw[L])<|ZB 6 (Y3 9 (E l) (A.length+1:Nat)) (E B) (λb a h=>by rw[Ux O J,N])<|Z (λb a h=>Ab (l:=A) J) λn=> ?_
 by_cases m:Kq A=0
 case neg=>
  rw[jm (by rw[D];exact m),D];refine X (Kq A !=0) true (by simpa using m)<|ZV (.tuple #[Yh.val,I (Kq A)]) (λb a h=>⟨Yh,rfl,a,λe p o=>Ai m⟩)
 have s:XG l=Kn A:=by unfold XG;rw[D]
 refine X (Kq A !=0) false (by rw[m];rfl)<|Z (λb a h=>Ab (l:=B) J) λd=> ?_
 by_cases G:Kq B=0
 case neg=>
  rw[nV (by rw[D];exact m) x (by rw[C];exact G),C];refine X (Kq B !=0) true (by simpa using G)<|ZV (.tuple #[Yh.val,I (Kq B)]) (λb a h=>⟨Yh,rfl,a,λe p o=>Ai G⟩)
 refine sQ (Kq B !=0) false O (by rw[G];rfl)<|H 2<|ZT 43 (.bool (decide ((A.length:Int)>=0))) Zt (by rw[vg])<|Z (λb a h=>Xv 2 b Zd Zd) λt=>Z (λb a h=>Wg h.1.2.i h.2.i Zd) λc=> ?_
 by_cases uZ:Kn B<2
 .rw[nS (by rw[D];exact m) x (by rw[C];exact G) (by rw[C];exact uZ)];refine X (decide (Pu (Kn B-2)<0)) true (by rw[vf];exact YU uZ)<|ZV (.tuple #[Yh.val,I 3]) (λb a h=>⟨Yh,rfl,a,λe p o=>Ai Zd⟩)
 have k:=dK (by rw[D];exact m) (λ_=>⟨by rw[C];exact G,by omega⟩);rw[ve,s]at k;have F:Kn B≠0:=J
 refine X (decide (Pu (Kn B-2)<0)) false (by rw[vf];exact YV uZ)<|Z (λb a h=>dq h.1.1.1.2.i h.1.1.2.i Zd) λf=>ZD 5 (λb a h=>Wg (h.2.n F).1.i h.1.1.1.1.2.i Zd) λc=> ?_
 by_cases g:(Rat.divInt (Kn A) (Kn B)).num=Kn A
 case neg=>
  rw[V (λq=>g q.1)]at k;rw[k];refine ZT 61 (.bool (Pu ((Rat.divInt (Kn A) (Kn B)).num-Kn A) !=0)) Zt (by rw[Df,YU g])<|ZI true<|ZV (.tuple #[Yh.val,I 3]) (λb a h=>⟨Yh,rfl,a,λe p o=>Ai Zd⟩)
 refine ZT 61 (.bool (Pu ((Rat.divInt (Kn A) (Kn B)).num-Kn A) !=0)) Zf (by rw[Df,YV (by simpa using g)])<|Z (λb a h=>Wg (h.1.2.n F).2.i h.1.1.1.1.2.i Zd) λc=> ?_
 by_cases j:((Rat.divInt (Kn A) (Kn B)).den:Int)=Kn B
 case neg=>
  rw[V (λq=>j q.2)]at k;rw[k];refine X (Pu (((Rat.divInt (Kn A) (Kn B)).den:Int)-Kn B) !=0) true (by rw[Df,YU j])<|ZV (.tuple #[Yh.val,I 3]) (λb a h=>⟨Yh,rfl,a,λe p o=>Ai Zd⟩)
 rw[YS ⟨g,j⟩]at k;rw[k];refine X (Pu (((Rat.divInt (Kn A) (Kn B)).den:Int)-Kn B) !=0) false (by rw[Df,YV (by simpa using j)])<|ZV (.tuple #[f.val,I 0]) (λb a h=>⟨f,rfl,a,λe p o=>dE rfl (by unfold Du;rw[ve,s];exact(h e p o).1.1.2.n F)⟩)
end
end Go.Proofs.YtnmokookhcgklaaGreatDoor
