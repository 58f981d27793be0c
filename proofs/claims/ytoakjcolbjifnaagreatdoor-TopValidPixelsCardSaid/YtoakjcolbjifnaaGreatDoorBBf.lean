/-
 A part of the proof.
-/
import Derived.Test.YtoakjcolbjifnaaGreatDoorBWc
import Derived.Test.YtoakjcolbjifnaaGreatDoorASh
import Derived.Test.YtoakjcolbjifnaaGreatDoorAAn
import Derived.Deep.LoopGhost
import Derived.BigRegion
import Derived.Deep.RegionWith
import Derived.BigQuiet
import Derived.Defers
import Derived.MapKept
import Derived.RangeFuncLeaves
import Derived.RangeFuncSeq
import Derived.Lib.IndexBytes
import Derived.IntWalk
import Derived.Lone
import Derived.StepT
import Derived.Shelf.SlSortCmp.WholeK
open Array renaming getElem?_eq_some_iff->AE,getElem?_setIfInBounds_ne->BO,getElem?_modify->BV,getElem?_setIfInBounds_self_of_lt->CA,toArray_toList->CN
open Bool renaming and_eq_true->AL,false_eq_true->AP,or_eq_false_iff->BZ,true_and->CB,eq_false_iff->DN,or_eq_true->DU,false_and->DZ
open Function renaming comp_def->CR
open Go.IntWalk renaming i64_in->AM
open Go.Lib renaming bitLen->CT
open Go.Result renaming andThen_ok->AB,andThen->DY
open Go.Sem renaming run_bind->AF,run_pure->AH
open Go.Value renaming ownBlock->CH,int->DI
open Go.World renaming cell?->BM
open Go.World.grownBy renaming refl->DH
open Int renaming fdiv_eq_ediv_of_nonneg->BJ,toNat_natCast->BU,sign_eq_neg_one_of_neg->CP,natCast_mul->DQ
open List renaming getElem?_eq_getElem->AD,all_eq_true->AN,mem_cons_of_mem->AQ,getElem?_eq_some_iff->AR,mem_singleton->AU,mem_of_getElem?->AY,mem_append->AZ,drop_of_length_le->BB,mem_cons->BC,flatMap_cons->BG,length_set->BI,getElem?_append_right->BK,getElem?_append_left->BL,length_eq_zero_iff->BP,getElem?_take->BQ,length_append->BR,take_of_length_le->BS,length_drop->BW,mem_cons_self->CF,length_take->CI,getElem?_toArray->CL,getD_eq_getElem?_getD->CQ,ext_getElem?->CS,drop_eq_getElem_cons->CV,getElem?_cons_succ->CY,length_nil->CZ,drop_zero->DC,getElem?_eq_none->DE,map_eq_cons_iff->DF,map_congr_left->DG,mem_map->DJ,getElem?_map->DL,take_add_one->DM,cons_append->DO,length_cons->DP,length_map->DT,map_append->DW,replicate->DX
open Nat renaming le_refl->AA,le_trans->AC,lt_of_lt_of_le->AK,zero_le->AO,le_of_eq->BA,lt_of_le_of_lt->BD,zero_add->BF,gcd->BN,mod_lt->BX,pow_le_pow_right->BY,div_le_self->CC,eq_zero_or_pos->CD,lt_or_ge->CE,mul_le_mul->CG,mul_le_mul_right->CM,mul_le_mul_left->CO,lt_trans->CW,gcd_comm->CX,mul_one->DB,zero_mul->DK,min_eq_left->DR,div_add_mod->DS,beq->EA
open Option renaming isSome_iff_exists->AI,map_some->BE,isSome_none->BH,map_eq_some_iff->BT,getD_some->CJ,bind_some->CK
open Option.some renaming injEq->AW
open Prod.mk renaming injEq->AX
open Go renaming World->YM,Value->YI,Program->YH,Operand->XZ,Deferred->XY,TypeId->XX,Calls->XW,PanicEntry->XV,FuncId->XU,Oper->XT,Ending->XS,Addr->XR
open Go.IntKind renaming i64->XQ,u64->XP,u32->XO,u8->XN
namespace Go.Proofs.YtoakjcolbjifnaaGreatDoor
set_option maxRecDepth 100000
set_option maxHeartbeats 8000000
set_option linter.unusedVariables false
set_option linter.unusedSimpArgs false
open Go.RowKit Go.Proofs.Tryz
open Go.Proofs.Tryz renaming prog->XM
def D6(w:YM)(g t cap:Nat)(l:List Nat):Prop:=
 ∃b,w.heap[g]? =some (.cells b t (0,0))/\b.size=cap/\l.length<=cap/\b.toList.take l.length=Qi l
section
variable{w w':YM}{g t cap:Nat}{l:List Nat}
theorem D6.cell(h:D6 w g t cap l){i:Nat}(hi:i<l.length):w.cell? ⟨g,i,none⟩=some (.int .u32 (dg l i:Int)):=by
 obtain⟨b,c,f,j,e⟩:=h;rw[cell_of_row w g i b t (0,0) c,<-Uf hi,<-e,BQ,YS hi];simp
theorem D6.frozen(h:D6 w g t cap l)(i:Nat):w.frozen? ⟨g,i,none⟩=false:=by
 obtain⟨b,c,_⟩:=h;simp[World.frozen?,c]
theorem D6.set_(h:D6 w g t cap l){i:Nat}(hi:i<l.length)(d:Nat):D6 (w.setCell ⟨g,i,none⟩ (.int .u32 (d:Int))) g t cap (l.set i d):=by
 obtain⟨b,c,e,j,f⟩:=h;refine⟨b.setIfInBounds i (.int .u32 (d:Int)),by simp[World.setCell,BV,c],by simpa using e,by simpa using j,?_⟩;rw[BI,<-LH,<-f,Array.toList_setIfInBounds,List.take_set]
theorem D6.lt(h:D6 w g t cap l):g<w.heap.size:=by
 obtain⟨b,c,_⟩:=h;exact(AE.1 c).1
theorem D6.drewN(h:D6 w g t cap l)(q:Nat):D6 (w.drewN q) g t cap l:=h
theorem D6.far(h:D6 w g t cap l){p:XR}(e:g≠p.block)(u:YI):D6 (w.setCell p u) g t cap l:=by
 obtain⟨b,c,r⟩:=h;exact⟨b,(Below.heap_setCell w p u g e).trans c,r⟩
theorem D6.alloc(h:D6 w g t cap l)(o:Obj):D6 (w.alloc o) g t cap l:=by
 obtain⟨b,c,r⟩:=h;exact⟨b,(Below.heap_alloc w o g (AE.1 c).1).trans c,r⟩
theorem v7{B n:Nat}{v:YI}(h:w.ownsRow B t 1 v n (Qi l))(o:l.length=n)(x:0<n):∃g c,v= .slice (some ⟨g,0,none⟩) n c/\B<=g/\n<=c/\c<=maxLen/\D6 w g t c l:=by
 rcases h.2 with ⟨_,u⟩|⟨g,c,b,f,j,e,m,p,s,k⟩
 .omega
 .exact⟨g,c,f,j,m,p,b,e,by omega,by omega,by rw[o,<-k,DB]⟩
theorem TH(g k j:Nat):(⟨g,k,none⟩:XR).add j=⟨g,k+j,none⟩:=by
 unfold Addr.add;split<;>simp_all
theorem D6.part(h:D6 w g t cap l)(m:Oq l){k n c:Nat}(p:k+n<=l.length)(f:n<=c)(o:c<=maxLen):In w (some ⟨g,k,none⟩) n c ((l.drop k).take n):=by
 refine⟨(m.drop k).take n,by rw[CI,BW];omega,f,o,⟨by rw[Ot,CI,BW];omega,λ_=>⟨_,rfl,h.lt,λj u b=> ?_⟩⟩⟩;have e:j<n:=by
  have:=(AR.1 b).1;rw[Ot,CI,BW]at this;omega
 rw[Uf (by rw[CI,BW];omega)]at b;rw[TH,h.cell I,<-b,ID e,Qe]
end
structure SU(w:YM)(B:Nat)(A:YY)(n c:Nat)(l:List Nat):Prop where
 dig:Oq l
 len:l.length=n
 le:n<=c
 cap:c<=maxLen
 rd:Mt w B 1 A n (Qi l)
theorem In.toB{w:YM}{A:YY}{n c:Nat}{l:List Nat}(h:In w A n c l):SU w w.heap.size A n c l:=⟨h.dig,h.len,h.le,h.cap,h.rd⟩
theorem SU.toIn{w:YM}{B:Nat}{A:YY}{n c:Nat}{l:List Nat}(h:SU w B A n c l)(b:B<=w.heap.size):In w A n c l:=⟨h.dig,h.len,h.le,h.cap,h.rd.more b⟩
theorem SU.below{w b:YM}{B:Nat}{A:YY}{n c:Nat}{l:List Nat}(h:SU w B A n c l)(e:Below B w b):SU b B A n c l:=⟨h.dig,h.len,h.le,h.cap,h.rd.below e⟩
theorem SU.more{w:YM}{B B':Nat}{A:YY}{n c:Nat}{l:List Nat}(h:SU w B A n c l)(b:B<=B'):SU w B' A n c l:=⟨h.dig,h.len,h.le,h.cap,h.rd.more b⟩
theorem SU.at_{w:YM}{B:Nat}{A:YY}{n c:Nat}{l:List Nat}(h:SU w B A n c l){k:Nat}(e:k<n):∃ad,A=some ad/\w.cell? (ad.add k)=some (.int .u32 (dg l k:Int)):=by
 obtain⟨ad,u,f,_,b,g⟩:=h.rd.at_ e;rw[Uf (by rw[h.len];exact e)]at b;injection b with b;subst b;exact⟨ad,f,g⟩
theorem Vi{a w:YM}{g:Nat}(h:a.grownBy w (some g)){p:XR}(c:p.block=g\/a.heap.size<=p.block)(u:YI):a.grownBy (w.setCell p u) (some g):=
 ⟨h.os,h.tape,h.output,by simpa[World.setCell]using h.size,λi hi b=>(Below.heap_setCell w p u i (by
  rintro rfl;rcases c with c|c
  .exact b (by rw[c])
  .omega)).trans (h.block i hi b)⟩
theorem Ap{a w:YM}{g:Nat}(h:a.grownBy w (some g))(b:g<=a.heap.size):Below g a w:=
 ⟨h.os,h.tape,h.output,h.size,λk c=>h.block k I (λe=>by injection e with e;omega)⟩
theorem Mk.grown{w c:YM}{g t:Nat}{l:List Nat}{row:Option Nat}(h:Mk w g t l)(e:w.grownBy c row)(b:some g≠row):Mk c g t l:=B9.grown h e b
theorem Mk.drewN{w:YM}{g t:Nat}{l:List Nat}(h:Mk w g t l)(q:Nat):Mk (w.drewN q) g t l:=h
def eS(w:YM)(g k n cap q V:Nat)(U:List Nat)(e:XS)(c:YM):Prop:=
 ∃(U':List Nat) (b:Bool),e= .returned (.bool b)/\D6 c g 92 cap U'/\U'.length=U.length/\Oq U'/\w.grownBy c (some g)/\(∀j,(j<k\/k+n<j)->dg U' j=dg U j)/\
  ((b=false/\pl U' k (n+1)+q*V=pl U k (n+1))\/(b=true/\pl U' k (n+1)+q*V=pl U k (n+1)+pw (n+1)))
theorem MK{x m y:Nat}(c:x<4294967296)(f:m<4294967296)(e:y<=1):
 ∃d b:Nat,d<4294967296/\b<=1/\d+m+y=x+b*4294967296/\XP.wrap (XP.wrap ((x:Int)- (m:Int))- (y:Int))%4294967296=(d:Int)/\
  XP.wrap (XP.wrap ((x:Int)- (m:Int))- (y:Int))/9223372036854775808=(b:Int):=by
 rw[M4,M4]
 by_cases h:m+y<=x
 .exact⟨x-m-y,0,by omega,by omega,by omega,by omega,by omega⟩
 .exact⟨x+4294967296-m-y,1,by omega,by omega,by omega,by omega,by omega⟩
theorem jK{s:Nat}(h:s<=18446744069414584320):bits .and .u64 (s:Int) 4294967295=((s%4294967296:Nat):Int):=by
 rw[show(4294967295:Int)=((4294967295:Nat):Int) by rfl,u64_and_nat _ _ I I,show 4294967295=2 ^ 32-1 by decide,Nat.and_two_pow_sub_one_eq_mod]
theorem oc{VA:YY}{n W:Nat}{v:List Nat}(w:YM)(g k cap pc q:Nat)(U:List Nat)(D:SU w g VA n W v)
 (J:D6 w g 92 cap U) (wJ:Oq U) (hk:k+n+1<=U.length) (T:q<4294967296) (hn:n<=1099511627776) (hk2:k<=1099511627776):
 XW XM 309 #[.slice (some ⟨g,k,none⟩) (n+1) pc,.slice VA n W,.int .u64 q] w (eS w g k n cap q (val v) U):=by
 have wI:=Nat.le_of_lt J.lt;have Hv:=Lk D;have Hl:=Lk D.len;clear D;go_enter func309,ntmps309;go_wp2_with fail;go_loopw [7,8,15] (λsc sy L wr=>∃(i c y:Nat) (P:List Nat),i<=n/\L= .int .i64 i/\sc= .int .u64 c/\sy= .int .u64 y/\c<4294967296/\y<=1/\P.length=U.length/\Oq P/\Hid (∀j,(j<k\/k+i<=j)->dg P j=dg U j)/\Hid (pl P k i+q*lo v i=pl U k i+(y+c)*pw i)/\D6 wr g 92 cap P/\w.grownBy wr (some g)) (λ_ _ L _=>n- (intOf L).toNat)
 case atStart=>exact⟨0,0,0,U,AO _,rfl,rfl,rfl,by omega,by omega,rfl,wJ,λ_ _=>rfl,(show _=_ by rw[TQ,Oh];simp),J,DH _ _⟩
 case round=>
  obtain⟨i,c,y,P,hi,rfl,rfl,rfl,Z,S,A,l,e,X,b,m⟩:=hrel;have HPl:=Lk A;clear A;clear J
  by_cases E:i<n
  .obtain⟨ad,Y,hca⟩:=((K7 Hv).below (Ap m wI)).at_ (k:=i) E;have R:=(K7 Hv).dig i;have F:=l (k+i);have x:=b.cell (i:=k+i) (by rw[K7 HPl];omega);have M:=b.frozen (k+i);obtain⟨s,N⟩:∃s,s=c+q*dg v i:=⟨_,rfl⟩
   have G:s<=18446744069414584320:=by have:=C6 T R;omega
   have hxy:=Fo T R;have hsi:(c:Int)+(q:Int)*(dg v i:Int)=(s:Int):=by rw[N,Int.natCast_add,DQ]
   have Q:bits .and .u64 (s:Int) 4294967295=((s%4294967296:Nat):Int):=jK G;have HS:=Lk N;clear N;subst Y;go_wp2;obtain⟨d,p,t,z,o,h,f⟩:=MK F (BX s (show 0<4294967296 by omega)) S;rw[show((s%4294967296:Nat):Int)=(s:Int)%4294967296 by omega]at h f;rw[h,f];have u:=b.set_ (i:=k+i) (by rw[K7 HPl];omega) d;go_roundw
   case rel=>
    refine⟨i+1,s/4294967296,p,_,by omega,by go_num,congrArg (DI .u64) I,rfl,by omega,z,by rw[BI];exact K7 HPl,l.set _ t,λj hj=> ?_,?_,u,Vi m (Or.inl rfl) _⟩
    .rw[Pr,YT I];exact K7 e j I
    .show _=_;have:=aL (by rw[K7 HPl];omega) (K7 e (k+i) I) (K7 X) (by rw[<-K7 HS];exact o);rw[<-K7 HS]at this;exact this
   case measure=>simp[intOf];omega
  .have H:i=n:=I
   subst H;have F:=l (k+i);have x:=b.cell (i:=k+i) (by rw[K7 HPl];omega);have M:=b.frozen (k+i);go_wp2_with fail;obtain⟨d,p,t,z,o,h,f⟩:=MK F Z S;rw[h,f];have u:=b.set_ (i:=k+i) (by rw[K7 HPl];omega) d;go_ret;have D:lo v i=val v:=Mz (by rw[K7 Hl];exact AA _);have B:=cR (by rw[K7 HPl];omega) (K7 e (k+i) I) (K7 X) o;rw[D]at B;refine⟨_,decide (p=1),?_,u,by rw[BI];exact K7 HPl,l.set _ t,Vi m (Or.inl rfl) _,λj hj=> ?_,?_⟩
   .rcases(show p=0\/p=1 by omega)with rfl|rfl<;>rfl
   .rw[Pr,YT I];exact K7 e j I
   .rcases(show p=0\/p=1 by omega)with rfl|rfl
    .left;exact⟨rfl,by omega⟩
    .right;exact⟨rfl,by omega⟩
theorem jC{UA VA:YY}{L T h g:Nat}{u v:List Nat}(w:YM)(b:L=T+1)(o:1<=T)(j:In w UA (L+1) h u)(k:In w VA L g v)(c:2147483648<=dg v T)(f:val u<4294967296*val v):
 XW XM 308 #[.slice UA (L+1) h,.slice VA L g] w λe l=>∃q:Nat,e= .returned (.int .u64 q)/\X6 (val u) (val v) q/\Qd w l:=by
 obtain⟨m,rfl⟩:∃m,T=m+1:=⟨T-1,by omega⟩
 subst b;exact jb w j k c f
theorem Wa{l:List Nat}{k:Nat}(h:val l<pw k):∀i,k<=i->dg l i=0:=by
 intro i hi;rcases CD (dg l i)with e|e
 .exact e
 .have b:=rN l (i+1);rw[Lq]at b;have f:1*pw i<=dg l i*pw i:=CM _ e;have c:=C0 hi;omega
def pg(b:Nat):Int:=if b=0 then 9 else 0
def rf(a b:Nat):Nat:=if b=0 then 0 else a%b
theorem Ce{b:Nat}(h:b≠0):pg b=0:=YT h
theorem Y7{a b:Nat}(h:b≠0):rf a b=a%b:=YT h
def D2(w:YM)(a b:Nat)(e:XS)(g:YM):Prop:=
 ∃A1 k h c A2 j c2 f,e= .returned (.tuple #[.slice A1 k h,.slice A2 j c2,.int .i64 (pg b)])/\Pe c/\val c=a/b/\Pe f/\val f=rf a b/\
  Si g w.heap.size A1 k h c/\Si g w.heap.size A2 j c2 f/\Below w.heap.size w g
theorem tC(x:Nat)(h:x<4294967296)(w:YM):
 XW XM 307 #[.int .u32 x] w λe c=>e= .returned (.int .i64 ((32-CT x:Nat):Int))/\w=c:=
 (Tryz.bits_LeadingZeros32 x w I I).mono λ_ _ ⟨b,f⟩=>by
  have g:=F3 h;rw[BU,show(32:Int)- (CT x:Int)=((32-CT x:Nat):Int) by omega]at b;exact⟨b,f.symm⟩
theorem i4{A B:YY}{n c m d:Nat}{a b:List Nat}(w:YM)(j:In w A n c a)(h:In w B m d b)(f:Ao b m=0):
 XW XM 275 #[.slice A n c,.slice B m d] w (D2 w (val a) (val b)):=by
 have g:val b=0:=by
  rw[<-L6,show trim b=[]from BP.1 (by rw[h.trim.len];exact f)];rfl
 rw[g];clear g;have H0:=Lk f;clear f;go_enter func275,ntmps275;go_wp2_with fail;refine(Lx w j).mono ?_;rintro e k ⟨rfl,rfl⟩;go_wp2_with fail;refine(Lx w h).mono ?_;rintro e k ⟨rfl,rfl⟩;rw[K7 H0];go_wp2_with fail;go_ret3;exact⟨none,0,0,[],none,0,0,[],rfl,Pe.nil,by rw[Nat.div_zero];rfl,Pe.nil,rfl,uY,uY,Below.refl _ _⟩
theorem g7{A B:YY}{n c m d:Nat}{a b:List Nat}(w:YM)(g:In w A n c a)(k:In w B m d b)(x:n<=1099511627776)(l:Ao b m≠0)(f:val a<val b):
 XW XM 275 #[.slice A n c,.slice B m d] w (D2 w (val a) (val b)):=by
 have v:((Ao b m:Int)==0)=false:=by simpa using l
 have K:Hid (Uz (val (trim a)) (val (trim b))= -1):=by rw[L6,L6];exact Ck f
 have Hlt:=Lk f;have u:=Nr a n;clear l f;go_enter func275,ntmps275;go_wp2_with fail;refine(Lx w g).mono ?_;rintro e h ⟨rfl,rfl⟩;go_wp2_with fail;refine(Lx w k).mono ?_;rintro e h ⟨rfl,rfl⟩;go_wp2_with fail;refine(EV w g.trim k.trim).mono ?_;rintro e h ⟨rfl,⟨q,rfl⟩⟩;rw[K7 K];go_wp2_with fail;refine(TG _ (g.trim.drewN q) I).mono ?_;rintro e h ⟨A1,t,o,rfl,s,p⟩;go_wp2_with fail;go_ret3;have j:=K7 Hlt;refine⟨none,0,0,[],A1,t,o,trim a,?_,Pe.nil,?_,Ma g.dig,?_,uY,s,?_⟩
 .rw[Ce I];rfl
 .rw[Nat.div_eq_of_lt j];rfl
 .rw[L6,Y7 I,Nat.mod_eq_of_lt j]
 .exact(O3 (Below.refl _ _) q).trans p
theorem m7{A B:YY}{n c m d:Nat}{a b:List Nat}(w:YM)(v:In w A n c a)(D:In w B m d b)(Z:n<=1099511627776)(E:Ao b m=1)(U:val b<=val a):
 XW XM 275 #[.slice A n c,.slice B m d] w (D2 w (val a) (val b)):=by
 obtain⟨z,Q,K⟩:∃z,(0:Int)<=z/\Hid (Uz (val (trim a)) (val (trim b))=z):=by
  refine⟨_,?_,rfl⟩;rw[L6,L6];unfold Uz;rw[YT I];split<;>omega
 have W:=Nr a n;have Tb:=D.trim;rw[E]at Tb;have J:=Tb.dig 0;obtain⟨x,l⟩:∃x,x=dg (trim b) 0:=⟨_,rfl⟩
 have L:val b=x:=by
  rw[<-L6,<-Mz (BA Tb.len),Lq,Oh,Fx,l];omega
 have t:x≠0:=by
  have F:=(Ma D.dig).2;rcases F with h|h
  .have:=Tb.len;rw[h]at this;simp at this
  .rw[Tb.len]at h;rw[l];exact h
 obtain⟨bd,X,s⟩:=Tb.at_ (k:=0) I;rw[<-l]at s J;rw[show bd.add 0=bd from YS rfl]at s;have j:0<x:=I
 have T:=BX (val (trim a)) j;have Hv:=Lk (And.intro L (And.intro l E));clear L l E t;subst X;go_enter func275,ntmps275;go_wp2_with fail;refine(Lx w v).mono ?_;rintro e M ⟨rfl,rfl⟩;go_wp2_with fail;refine(Lx w D).mono ?_;rintro e M ⟨rfl,rfl⟩;rw[(K7 Hv).2.2];go_wp2_with fail;refine(EV w v.trim Tb).mono ?_;rintro e M ⟨rfl,⟨q,rfl⟩⟩;rw[K7 K];go_wp2_with fail;refine(qc x _ (v.trim.drewN q) I j J).mono ?_;rintro e Y ⟨A1,S,R,wJ,rfl,H,p,y,f⟩;go_wp2_with fail;refine(Vq (val (trim a)%x) I _).mono ?_;rintro e w2 ⟨A2,N,c2,P,rfl,G,o,u,g⟩;go_wp2_with fail;go_ret3;obtain⟨wI,_,_⟩:=K7 Hv;rw[L6]at p o;refine⟨A1,S,R,wJ,A2,N,c2,P,?_,H,?_,G,?_,y.below g,u.base f.size,?_⟩
 .rw[Ce I];rfl
 .rw[p,wI]
 .rw[o,Y7 I,wI]
 .exact((O3 (Below.refl _ _) q).trans f).trans (g.mono f.size)
theorem QH{l:List Nat}{k:Nat}(c:Oq l)(h:pw k<=val l):k+1<=l.length:=by
 rcases CE k l.length with b|b
 .exact b
 .have:=Ni c b;omega
theorem FX{U U' Q:List Nat}{k L q V A:Nat}(f:k<Q.length)(g:∀j,k+(L+1)<=j->dg U j=0)(b:∀j,k+(L+1)<=j->dg U' j=0)(c:∀j,j<k->dg U' j=dg U j)
 (h:pl U' k (L+1)+q*V=pl U k (L+1)) (l:val (Q.drop (k+1))*pw (k+1)*V+val U=A) (e:pl U' k (L+1)<V):
 val ((Q.set k q).drop k)*pw k*V+val U'=A/\val (U'.drop k)<V:=
 ⟨au f g b c h l,by rw[I5 b];exact e⟩
theorem H6(v t:Nat):JL v (-(t:Int))=v/2 ^ t:=by
 unfold JL
 by_cases h:t=0
 .subst h;simp
 .rw[YT I];congr 2;omega
theorem kB{A B:YY}{n c m d:Nat}{a b:List Nat}(L T:Nat)(w:YM)(ha:In w A n c a)(hb:In w B m d b)(hn:n<=274877906944)(hm:m<=274877906944)(h0:Ao b m=L)(hLT:L=T+1)(hT1:1<=T)(hge:val b<=val a):
 XW XM 275 #[.slice A n c,.slice B m d] w (D2 w (val a) (val b)):=by
 obtain⟨z,hz0,K⟩:∃z,(0:Int)<=z/\Hid (Uz (val (trim a)) (val (trim b))=z):=by
  refine⟨_,?_,rfl⟩;rw[L6,L6];unfold Uz;rw[YT I];split<;>omega
 have hta:=Nr a n;have htb:=Nr b m;have Ta:=ha.trim;have Tb:=hb.trim;have na:=Ma ha.dig;have nb:=Ma hb.dig;have va:Hid (val (trim a)=val a):=L6 a;have vb:Hid (val (trim b)=val b):=L6 b;obtain⟨p,hp⟩:∃p,p=Ao a n:=⟨_,rfl⟩
 rw[<-hp]at Ta hta;rw[h0]at Tb htb;obtain⟨x,hx⟩:∃x,x=dg (trim b) T:=⟨_,rfl⟩
 have hxb:=Tb.dig T;rw[<-hx]at hxb;have hx0:x≠0:=by
  rcases nb.2 with h|h
  .have:=Tb.len;rw[h]at this;simp only[CZ]at this;omega
  .rw[Tb.len,hLT]at h;rw[hx];exact h
 obtain⟨t,ht⟩:∃t,t=32-CT x:=⟨_,rfl⟩
 have ht32:t<=32:=I
 have D:=PF (n:=T) Tb.dig (by rw[Tb.len];exact hLT) (by rw[<-hx];exact hx0);rw[<-hx,<-ht,K7 vb]at D;have Hsh:=Lk D;clear D;have Ha:=Lk ha;have Hb:=Lk hb;have HP:=Lk hp;have H0:=Lk h0;have HX:=Lk hx;have HT:=Lk ht;have HG:=Lk hge;have l0:((L:Int)==0)=false:=by simp;omega
 have l1:((L:Int)==1)=false:=by simp;omega
 have l2:(L:Int)-1=(T:Int):=I
 have l3:T<L:=I
 have HLT:=Lk hLT;clear hLT;clear ha hb hp h0 hx ht hx0 hge;go_enter func275,ntmps275;go_wp2_with fail;refine(Lx w (K7 Ha)).mono ?_;rintro e w' ⟨rfl,rfl⟩;rw[<-K7 HP];go_wp2_with fail;refine(Lx w (K7 Hb)).mono ?_;rintro e w' ⟨rfl,rfl⟩;rw[K7 H0];go_wp2_with fail;refine(EV w Ta Tb).mono ?_;rintro e wc ⟨rfl,hqd⟩;rw[K7 K];have Tac:=Ta.qd hqd;have Tbc:=Tb.qd hqd;have Y:=hqd.below w.heap.size;clear Ta Tb hqd Ha Hb;obtain⟨bd,hB,hcb⟩:=Tbc.at_ (k:=T) I;rw[<-K7 HX]at hcb;subst hB;go_wp2_with fail;refine(tC x hxb wc).mono ?_;rintro e w' ⟨rfl,rfl⟩;rw[<-K7 HT];go_wp2_with fail;refine(H5 t wc Tbc I I).mono ?_;rintro e w1 ⟨VA,vn,v,rfl,hvN,Z,hvo,hw1⟩;rw[DR I,K7 vb]at Z;have hvn:L=vn:=by
  have h1:=(K7 Hsh).1;have h2:=(K7 Hsh).2;rw[<-Z]at h1 h2;rw[<-K7 HLT]at h2;have h3:=hvN.length_le h2;have h4:=QH hvN.1 (show pw T<=val v by omega);have:=hvo.len;have:=K7 HLT;omega
 subst hvn;go_wp2_with fail;refine(H5 t w1 (Tac.below hw1) I I).mono ?_;rintro e w2 ⟨UA,un,u,rfl,huN,huv,f,H⟩;rw[DR I,K7 va]at huv;have hun1:L<=un:=by
  have h1:=(K7 Hsh).1;have h2:val b*2 ^ t<=val a*2 ^ t:=CM _ (K7 HG);have h4:=QH huN.1 (show pw T<=val u by omega);have:=f.len;have:=K7 HLT;omega
 have hun2:p<=un:=by
  have h3:=f.len;rcases CD p with e|e
  .omega
  .have hne:trim a≠[]:=by intro h;have:=Tac.len;rw[h]at this;simp at this;omega
   have h1:=na.pos hne;rw[Tac.len,K7 va]at h1;have h2:val a*1<=val a*2 ^ t:=CO _ (Rn t);have h4:=QH huN.1 (show pw (p-1)<=val u by omega);omega
 have hun3:un<=p+2:=by
  have h3:=f.len;have h1:=Ni Tac.dig (BA Tac.len);rw[K7 va]at h1;have h2:val a*2 ^ t<pw p*4294967296:=by
   have h5:2 ^ t<=2 ^ 32:=BY I ht32;exact AK (Nat.mul_lt_mul_of_pos_right h1 (Rn t)) (CO _ h5)
  rw[<-N5,<-huv]at h2;have:=huN.length_le h2;omega
 obtain⟨i0,hi0,hz0',hz1,hz2⟩:=info_parts Tryz.info_u32;have k1:Hid (UA=none->un=0/\un=0):=by
  intro h;obtain⟨ad,hA,_⟩:=f.toIn.at_ (k:=0) I;rw[h]at hA;cases hA
 have k3:Hid (∀b,UA=some b->∀j y,(Qi u)[j]? =some y->(w2.alloc (.cells #[.int .u32 0] 92)).cell? (b.add j)=some y):=by
  intro b hb j y hy;obtain⟨ad,hA,_,wI⟩:=(f.toIn.rd.alloc (AA _) (.cells #[.int .u32 0] 92)).2 I;rw[hb]at hA;injection hA with hA;subst hA;exact wI j y hy
 have k2:Hid ((Qi u).length=un*1):=by
  show _=_;rw[Ot,DB];exact f.len
 have k4:Hid (∀j y,(Qi [0])[j]? =some y->(w2.alloc (.cells #[.int .u32 0] 92)).cell? ((⟨w2.heap.size,0,none⟩:XR).add j)=some y):=cell_one_new _ _ _;go_wp2_with (first
  |(at_builtin;refine wpList_append_grows _ rfl (.tmp 62) (.tmp 63) 49 rfl 92 i0 _ 1 4 underlying49 hi0 hz0' hz1 hz2 rfl I UA un un (Qi u) rfl (K7 k1) (K7 k2) (K7 k3) ⟨w2.heap.size,0,none⟩ 1 1 (Qi [0]) rfl rfl (K7 k4) LU I (by simp only[maxLen];omega) I ?_;intro v' w4 M hg4))
 rw[<-NU]at M;obtain⟨g,gc,rfl,hgB,hgn,hgm,hU⟩:=v7 M (by rw[BR,f.len];rfl) I;have h24:Below w2.heap.size w2 w4:=((Below.refl _ _).alloc (AA _) _).grown hg4 Zs (λk hk=>by cases hk);have J:Below w.heap.size w w4:=((Y.trans (hw1.mono Y.size)).trans (H.mono (AC Y.size hw1.size))).trans (h24.mono (AC Y.size (AC hw1.size H.size)));have hg2:w2.heap.size<=g:=by simp at hgB;omega
 have hv4:SU w4 g VA L L v:=(((hvo.toIn.toB).below H).below (h24.mono H.size)).more (AC H.size hg2);have hvtop:2147483648<=dg v T:=aQ hvN.1 (by rw[hvo.len];exact K7 HLT) (by rw[Z];exact(K7 Hsh).1);have hVlo:pw T<=val v:=by have:=(K7 Hsh).1;omega
 have hVhi:val v<pw L:=by rw[K7 HLT,Z];exact(K7 Hsh).2
 have hwg:w.heap.size<=g:=by have:=Y.size;have:=hw1.size;have:=H.size;omega
 have hUd:Oq (u++ [0]):=huN.1.append (Oq.one I);have hUv:val (u++ [0])=val u:=by rw[Gp,iO];omega
 have hUl:(u++ [0]).length=un+1:=by rw[BR,f.len];rfl
 have hUt:dg (u++ [0]) un=0:=by rw[Xb (by rw[f.len];exact AA _),f.len,Nat.sub_self];rfl
 obtain⟨N,hN⟩:∃N,N=un+1-L:=⟨_,rfl⟩
 have l4:((un:Int)+1)- (L:Int)=(N:Int):=I
 have l5:N+T=un:=by have:=K7 HLT;omega
 have l6:1<=N:=I
 have HUs:=Lk (And.intro hUv hUt);have HL5:=Lk l5;have HN:=Lk hN;have Hpw:=Lk (And.intro hVlo hVhi);clear hUv hUt l5 hN hVlo hVhi;clear M hg4 k1 k2 k3 k4 hi0 hz0' hz1 hz2 hgB h24 H f hw1 hvo Y Tbc Tac hcb;have hmk:=λW=>Ow W (N:Int) N rfl I
 go_loopw [11] (λs wr=>s= .slice (some ⟨g,0,none⟩) (un+1) gc/\wr=w4) (λ_ _=>0)
 case atStart=>exact⟨rfl,rfl⟩
 case round=>
  obtain⟨rfl,rfl⟩:=hrel;have l7:¬(un:Int)+1<=p:=I
  go_wp2_with fail;obtain⟨w4,hw4⟩:∃w4:YM,w4=wr:=⟨_,rfl⟩
  have hgw:=hU.lt;clear l7 hgw;have hM0:Mk (wr.alloc (.cells (zs N) 92)) wr.heap.size 92 (DX N 0):=Mk.zero wr N;have hU0:=hU.alloc (.cells (zs N) 92);have hv5:SU (wr.alloc (.cells (zs N) 92)) g VA L L v:=hv4.below ((Below.refl _ _).alloc (Nat.le_of_lt hU.lt) _);have hb5:Below w.heap.size w (wr.alloc (.cells (zs N) 92)):=J.alloc J.size _;have hgq:g<wr.heap.size:=hU.lt;have hs5:wr.heap.size+1=(wr.alloc (.cells (zs N) 92)).heap.size:=Zs
  obtain⟨gq,G⟩:∃gq,gq=wr.heap.size:=⟨_,rfl⟩
  obtain⟨w5,hw5⟩:∃w5,w5=wr.alloc (.cells (zs N) 92):=⟨_,rfl⟩
  rw[<-hw5]at hU0 hv5 hb5;rw[<-hw5,<-G]at hM0 hs5;rw[<-G]at hgq;rw[<-hw5,<-G];have Hw5:=Lk hw5;have Hgq:=Lk G;clear hw5 G hw4 hU hv4 J hmk;go_loopw [13] (λsk wx=>∃(k:Nat) (y:Int) (U Q:List Nat),k<=N/\y+1=k/\sk= .int .i64 y/\U.length=un+1/\Oq U/\Q.length=N/\Oq Q/\
   Hid (val (Q.drop k)*pw k*val v+val U=val u/\val (U.drop k)<val v)/\D6 wx g 92 gc U/\Mk wx gq 92 Q/\Below g w5 wx) (λsk _=>(intOf sk+1).toNat)
  case atStart=>
   refine⟨N,(N:Int)-1,u++ [0],DX N 0,AA _,by omega,rfl,hUl,hUd,by simp,Oq.replicate _,⟨?_,?_⟩,hU0,hM0,Below.refl _ _⟩
   .rw[V8 Zs,(K7 HUs).1];omega
   .have h1:=K7 HL5;rw[I5 (i:=T) (λj hj=> ?_)]
    .exact AK (EP hUd _ _) (K7 Hpw).1
    .rcases CE un j with h|h
     .exact Vt (by rw[hUl];omega)
     .obtain rfl:j=un:=I
      exact(K7 HUs).2
  case round=>
   obtain⟨k,y,U,Q,hk,hy,rfl,hUl',F,hQl,hQd,hI,hUm,hQm,hbx⟩:=hrel;have HUl:=Lk hUl';have HQl:=Lk hQl;clear hUl' hQl
   by_cases hk0:k=0
   .subst hk0;obtain rfl:y= -1:=I
    clear hy;have hqo:=hQm.own (B:=w.heap.size) hQd I (by rw[K7 HQl];unfold maxLen;omega);rw[K7 HQl]at hqo;have hbw:Below w.heap.size w wr:=hb5.trans (hbx.mono hwg);have hui:In wr (some ⟨g,0,none⟩) (un+1) gc ((U.drop 0).take (un+1)):=hUm.part F (by rw[K7 HUl];omega) hgn hgm;rw[DC,BS (by rw[K7 HUl];exact AA _)]at hui;go_wp2_with fail;refine(Lx _ hqo.toIn).mono ?_;rintro e w' ⟨rfl,rfl⟩;go_wp2_with fail;refine(US (-(t:Int)) _ hui I I I).mono ?_;rintro e w6 ⟨A2,n2,l2',rfl,hn2,hv2,ho2,hw6⟩;go_wp2_with fail;go_ret3;obtain⟨hI1,wJ⟩:=K7 hI;rw[Fx,DB,DC,huv,Z]at hI1;rw[DC,Z]at wJ;obtain⟨q1,q2⟩:=J3 hI1 wJ;have hb0:val b≠0:=by
     intro h;rw[h]at wJ;omega
    refine⟨_,_,_,trim Q,A2,n2,n2,l2',?_,Ma hQd,?_,hn2,?_,hqo.trim.below hw6,ho2.base hbw.size,hbw.trans (hw6.mono hbw.size)⟩
    .rw[Ce hb0];rfl
    .rw[L6,q1,Nat.mul_div_mul_right _ _ (Rn t)]
    .rw[hv2,Y7 hb0,H6,q2,Nat.mul_mod_mul_right,Nat.mul_div_cancel _ (Rn t)]
   .obtain⟨j,rfl⟩:∃j,k=j+1:=⟨k-1,by omega⟩
    obtain rfl:y=(j:Int):=I
    clear hy hk0;have h1:=K7 HL5;have h2:=K7 HLT;have s1:(0:Int)<=j/\(j:Int)<=(j:Int)+L+1/\(j:Int)+L+1<=(gc:Int):=I
    have s2:¬gc=j:=I
    have s3:j+(L+1)<=un+1:=I
    clear h1 h2;obtain⟨hI1,wJ⟩:=K7 hI;have hz:∀i,j+(L+1)<=i->dg U i=0:=by
     intro i hi;have h3:=Wa (l:=U.drop (j+1)) (CW wJ (K7 Hpw).2) (i- (j+1)) I;rw[Qe,show j+1+(i- (j+1))=i by omega]at h3;exact h3
    have hPv:pl U j (L+1)=val (U.drop j):=(I5 hz).symm;have hPs:val (U.drop j)=dg U j+4294967296*val (U.drop (j+1)):=Rm (by rw[K7 HUl];omega);have hPin:In wr (some ⟨g,j,none⟩) (L+1) (gc-j) ((U.drop j).take (L+1)):=hUm.part F (by rw[K7 HUl];omega) I I;have hPlt:val ((U.drop j).take (L+1))<4294967296*val v:=by
     show pl U j (L+1)<_;have:=F j;have:=(K7 Hpw).1;have:=Ak T;omega
    have HZ:=Lk (And.intro hz (And.intro hI1 wJ));clear hz hI1 wJ hPv hPs;have hgs:=Nat.le_of_lt hUm.lt;go_wp2_with fail;rw[show j+L+1-j=L+1 by omega];refine(jC wr (K7 HLT) hT1 hPin ((hv5.below hbx).toIn hgs) hvtop hPlt).mono ?_;rintro e wg ⟨q,rfl,hgok,⟨nq,rfl⟩⟩;have hq32:=hgok.1;have HG2:=Lk hgok;clear hgok;go_wp2_with fail;refine(oc (wr.drewN nq) g j gc (gc-j) q U ((hv5.below hbx).below (O3 (Below.refl _ _) nq)) (hUm.drewN nq) F (by rw[K7 HUl];omega) hq32 I I).mono ?_;rintro e wt ⟨U',b',rfl,hUm',hUl2,S,hbt,hag,o⟩;rw[K7 HUl]at hUl2;have hQt:Mk wt gq 92 Q:=(hQm.drewN nq).grown hbt (λe=>by injection e with e;omega);have hbt2:Below g w5 wt:=(O3 hbx nq).trans (Ap hbt hgs);have hQc:=hQt.cell (i:=j) (by rw[K7 HQl];omega);have hQf:=hQt.frozen j;have Hag:=Lk hag;have HUl2:=Lk hUl2;clear hag hUl2 hbt hUm hQm hPin;rcases o with ⟨rfl,o⟩|⟨rfl,o⟩
    .have HR:=Lk o;clear o;go_wp2_with fail;go_roundw
     case rel=>
      have hfin:=FX (by rw[K7 HQl];omega) (K7 HZ).1 (λi hi=>by rw[K7 Hag i (Or.inr I),(K7 HZ).1 i hi]) (λi hi=>K7 Hag i (Or.inl hi)) (K7 HR) (K7 HZ).2.1 (WT (K7 HG2) (K7 HR));exact⟨j,(j:Int)-1,U',Q.set j q,by omega,by omega,rfl,K7 HUl2,S,by rw[BI];exact K7 HQl,hQd.set _ hq32,hfin,hUm'.far Zp _,hQt.set_ j q,hbt2.setCell Zp _⟩
     case measure=>simp[intOf]
    .have hq1:1<=q:=by
      rcases CD q with e|e
      .subst e;have:=EP S j (L+1);omega
      .exact e
     have HR:=Lk o;clear o;go_wp2_with fail;obtain⟨wo,hwo⟩:∃wo:YM,wo=wt:=⟨_,rfl⟩
     have hgt:=Nat.le_of_lt hUm'.lt;go_loopw [16,105] (λsc si wx=>∃(i c:Nat) (R:List Nat),i<=L/\si= .int .i64 i/\sc= .int .u64 c/\c<=1/\R.length=un+1/\Oq R/\Hid (∀s,(s<j\/j+i<=s)->dg R s=dg U' s)/\Hid (pl R j i+c*pw i=pl U' j i+lo v i)/\D6 wx g 92 gc R/\wt.grownBy wx (some g)) (λ_ si _=>L- (intOf si).toNat)
     case atStart=>exact⟨0,0,U',AO _,rfl,rfl,by omega,K7 HUl2,S,λ_ _=>rfl,(show _=_ by rw[TQ,Oh];omega),hUm',DH _ _⟩
     case round=>
      obtain⟨i,c',R,hi,rfl,rfl,hc,hRl,hRd,E,hRI,X,hbR⟩:=hrel;have HRl:=Lk hRl;clear hRl;have hbR2:=Ap hbR hgt
      by_cases hlt:i<L
      .obtain⟨vd,hV,hcv⟩:=((hv5.below hbt2).below hbR2).at_ (k:=i) hlt;have hx1:=hvN.1 i;have hx2:=hRd (j+i);have wI:=X.cell (i:=j+i) (by rw[K7 HRl];omega);have hfz:=X.frozen (j+i);subst hV;go_wp2_with fail;have hst:=X.set_ (i:=j+i) (by rw[K7 HRl];omega) ((c'+(dg R (j+i)+dg v i))%4294967296);rw[show(((c'+(dg R (j+i)+dg v i))%4294967296:Nat):Int)=((c':Int)+((dg R (j+i):Int)+dg v i))%4294967296 by omega]at hst;go_roundw
       case rel=>
        refine⟨i+1,(c'+(dg R (j+i)+dg v i))/4294967296,_,by omega,by go_num,by go_num,by omega,by rw[BI];exact K7 HRl,hRd.set _ I,λs hs=> ?_,?_,hst,Vi hbR (Or.inl rfl) _⟩
        .rw[Pr,YT I];exact K7 E s I
        .exact XI (by rw[K7 HRl];omega) (K7 E (j+i) I) (K7 hRI)
       case measure=>simp[intOf];omega
      .obtain rfl:L=i:=I
       have hx2:=hRd (j+L);have wI:=X.cell (i:=j+L) (by rw[K7 HRl];omega);have hfz:=X.frozen (j+L);have hQt2:=hQt.grown hbR (λe=>by injection e with e;omega);have hQc2:=hQt2.cell (i:=j) (by rw[K7 HQl];omega);have hQf2:=hQt2.frozen j;go_wp2_with fail;have hst:=X.set_ (i:=j+L) (by rw[K7 HRl];omega) ((dg R (j+L)+c')%4294967296);rw[show(((dg R (j+L)+c')%4294967296:Nat):Int)=((dg R (j+L):Int)+(c':Int))%4294967296 by omega]at hst;have hQ3:=(hQt2.far (p:=⟨g,j+L,none⟩) Zp (.int .u32 (((dg R (j+L):Int)+(c':Int))%4294967296))).set_ j (q-1);rw[show((q-1:Nat):Int)=(q:Int)-1 by omega]at hQ3;have hV:lo v L=val v:=Mz (BA hv5.len);have hRI2:=K7 hRI;have hbe:=cI (P:=U') (by rw[K7 HRl];omega) (K7 E (j+L) I) hRI2;rw[hV]at hbe;obtain⟨z2,hz2⟩:=hbe;have hd2:Oq (R.set (j+L) ((dg R (j+L)+c')%4294967296)):=hRd.set _ (BX _ I);obtain⟨_,hb1,hb2⟩:=cV (K7 HG2) (EP S j (L+1)) (EP F j (L+1)) (EP hd2 j (L+1)) (K7 HR) hz2;go_roundw
       case rel=>
        have hfin:=FX (by rw[K7 HQl];omega) (K7 HZ).1 (λi hi=>by rw[Pr,YT I,K7 E i (Or.inr I),K7 Hag i (Or.inr I),(K7 HZ).1 i hi]) (λi hi=>by rw[Pr,YT I,K7 E i (Or.inl hi),K7 Hag i (Or.inl hi)]) hb2 (K7 HZ).2.1 hb1;exact⟨j,(j:Int)-1,_,Q.set j (q-1),by omega,by omega,rfl,by rw[BI];exact K7 HRl,hd2,by rw[BI];exact K7 HQl,hQd.set _ I,hfin,hst.far Zp _,hQ3,((hbt2.trans hbR2).setCell (AA _) _).setCell Zp _⟩
       case measure=>simp[intOf]
theorem Cc{A B:YY}{n c m d:Nat}{a b:List Nat}(w:YM)(e:In w A n c a)(f:In w B m d b)(j:n<=274877906944)(l:m<=274877906944):
 XW XM 275 #[.slice A n c,.slice B m d] w (D2 w (val a) (val b)):=by
 by_cases h:Ao b m=0
 .exact i4 w e f h
 by_cases g:val a<val b
 .exact g7 w e f I h g
 by_cases k:Ao b m=1
 .exact m7 w e f I k I
 exact kB (Ao b m) (Ao b m-1) w e f j l rfl I I I
theorem aP{a x y:Nat}(k:1<=x)(e:y=(x+a/x)/2):a<(y+1)*(y+1)/\(x<=y->x*x<=a):=by
 have f:=DS a x;have o:=BX a (show x>0 by omega);generalize a/x=q at f e;have b:x+(q+1)<=2*(y+1):=I
 refine⟨?_,λh=> ?_⟩
 .have c:a<x*(q+1):=by rw[Nat.mul_add];omega
  generalize q+1=z at c b;have p:4*(x*z)<=(x+z)*(x+z):=by
   rcases Nat.le_total x z with g|g
   .obtain⟨d,rfl⟩:∃d,z=x+d:=⟨z-x,by omega⟩
    have:(x+(x+d))*(x+(x+d))=4*(x*(x+d))+d*d:=by grind
    omega
   .obtain⟨d,rfl⟩:∃d,x=z+d:=⟨x-z,by omega⟩
    have:((z+d)+z)*((z+d)+z)=4*((z+d)*z)+d*d:=by grind
    omega
  have m:(x+z)*(x+z)<=(2*(y+1))*(2*(y+1)):=CG b b;have j:(2*(y+1))*(2*(y+1))=4*((y+1)*(y+1)):=by grind
  omega
 .have c:x<=q:=I
  have l:x*x<=x*q:=CO _ c;omega
def B6(a r:Nat):Prop:=r*r<=a/\a<(r+1)*(r+1)
theorem B6.unique{a r s:Nat}(h:B6 a r)(k:B6 a s):r=s:=by
 rcases Nat.lt_trichotomy r s with b|b|b
 .have:=CG (show r+1<=s by omega) (show r+1<=s by omega);have:=h.2;have:=k.1;omega
 .exact b
 .have:=CG (show s+1<=r by omega) (show s+1<=r by omega);have:=k.2;have:=h.1;omega
theorem QK{a:Nat}:a<(2 ^ ((A_ a+1)/2)+1)*(2 ^ ((A_ a+1)/2)+1):=by
 have c:a<2 ^ A_ a:=by
  unfold A_;split
  .subst_vars;decide
  .exact Nat.lt_log2_self
 have b:2 ^ A_ a<=2 ^ ((A_ a+1)/2+(A_ a+1)/2):=BY I I;rw[Nat.pow_add]at b;generalize 2 ^ ((A_ a+1)/2)=z at b ⊢;have:(z+1)*(z+1)=z*z+2*z+1:=by grind
 omega
theorem d3{v k:Nat}(h:v<2 ^ k):A_ v<=k:=by
 unfold A_;split
 .omega
 .rename_i c;have:=Nat.log2_self_le c;rcases CE (Nat.log2 v) k with b|b
  .exact b
  .have:=BY (show 2>0 by omega) b;omega
theorem B1{v:Nat}:A_ v=0↔v=0:=by
 unfold A_;split<;>omega
theorem iL(x:Nat)(h:x<4294967296)(w:YM):
 XW XM 270 #[.int .u32 x] w λe c=>e= .returned (.int .i64 ((CT x:Nat):Int))/\w=c:=
 (Tryz.bits_Len32 x w I I).mono λ_ _ ⟨b,f⟩=>by
  rw[BU]at b;exact⟨b,f.symm⟩
theorem Cs{A:YY}{n c:Nat}{a:List Nat}(w:YM)(g:In w A n c a)(G:n<=274877906944):
 XW XM 230 #[.slice A n c] w λe j=>e= .returned (.int .i64 (A_ (val a):Nat))/\w=j:=by
 have m:=Nr a n;have Ta:=g.trim;have B:=Ma g.dig;have s:Hid (val (trim a)=val a):=L6 a;obtain⟨p,o⟩:∃p,p=Ao a n:=⟨_,rfl⟩
 rw[<-o]at Ta m;have HP:=Lk o;clear o;have Ha:=Lk g;clear g
 by_cases u:p=0
 .subst u;go_enter func230,ntmps230;go_wp2_with fail;refine(Lx w (K7 Ha)).mono ?_;rintro e j ⟨rfl,rfl⟩;rw[<-K7 HP];go_wp2_with fail;go_ret;refine⟨?_,rfl⟩;have:val a=0:=by rw[<-K7 s,BP.1 Ta.len];rfl
  rw[this];rfl
 .obtain⟨t,l⟩:∃t,p=t+1:=⟨p-1,by omega⟩
  have v:=Ta.dig t;obtain⟨ad,y,F⟩:=Ta.at_ (k:=t) I;have f:dg (trim a) t≠0:=by
   rcases B.2 with h|h
   .have:=Ta.len;rw[h]at this;simp only[CZ]at this;omega
   .rw[Ta.len,l]at h;exact h
  have b:=fC Ta.dig (by rw[Ta.len];exact l) f;rw[K7 s]at b;have z:=F3 v;have H:((p:Int)==0)=false:=by simp;omega
  have D:(p:Int)-1=(t:Int):=I
  have E:t<p:=I
  have HTB:=Lk b;clear b l f u;subst y;go_enter func230,ntmps230;go_wp2_with fail;refine(Lx w (K7 Ha)).mono ?_;rintro e j ⟨rfl,rfl⟩;rw[<-K7 HP];go_wp2_with fail;refine(iL _ v w).mono ?_;rintro e j ⟨rfl,rfl⟩;go_wp2_with fail;go_ret;refine⟨?_,rfl⟩;rw[K7 HTB];exact congrArg (λx=>Ending.returned (DI .i64 x)) I
theorem rI{A B:YY}{n c m d:Nat}{a b:List Nat}(w:YM)(wJ:In w A n c a)(wI:In w B m d b)(hn:n<=274877906944)(hm:m<=274877906944):
 XW XM 273 #[.slice A n c,.slice B m d] w (Eg w (BN (val a) (val b))):=by
 have R:=Xr a;have M:=Xr b;rw[wJ.len]at R;rw[wI.len]at M;have na:=Ma wJ.dig;have nb:=Ma wI.dig;have va:Hid (val (trim a)=val a):=L6 a;have vb:Hid (val (trim b)=val b):=L6 b;go_enter func273,ntmps273;go_wp2_with fail;refine(Tq w wJ I).mono ?_;rintro e w1 ⟨A1,n1,c1,rfl,u,o⟩;go_wp2_with fail;refine(Tq w1 (wI.below o) I).mono ?_;rintro e w2 ⟨A2,n2,c2,rfl,E,t⟩;go_wp2_with fail;have hn1:=u.len;have hn2:=E.len;go_loopg [0,1] (val b) (λgk sa sb J=>∃(X Y:YY) (p r q s:Nat) (x y:List Nat),sa= .slice X p r/\sb= .slice Y q s/\Hid (val y=gk)/\Si J w.heap.size X p r x/\Si J w.heap.size Y q s y/\Pe x/\Pe y/\p<=274877906944/\q<=274877906944/\
  Hid (BN (val x) (val y)=BN (val a) (val b))/\Below w.heap.size w J)
 case atStart=>
  exact⟨A1,A2,n1,c1,n2,c2,trim a,trim b,rfl,rfl,L6 b,u.below t,E.base o.size,na,nb,by omega,by omega,(by show _=_;rw[L6,L6]),o.trans (t.mono o.size)⟩
 case round=>
  obtain⟨X,Y,p,r,q,s,x,y,rfl,rfl,hk,z,f,nx,S,hp,T,hg,l⟩:=hrel;have hqi:=f.toIn.lenI
  by_cases Q:q=0
  .have g:y=[]:=BP.1 (by rw[f.len];exact Q);have L:Hid (val x=BN (val a) (val b)):=by
    have:=K7 hg;rw[g,JX,Nat.gcd_zero_right]at this;exact this
   subst Q;clear g;go_wp2_with fail;go_ret;exact⟨X,p,r,x,rfl,nx,K7 L,z,l⟩
  .have g:val y≠0:=by
    intro h;have W:=S.zero h;have Z:=f.len;rw[W]at Z;simp only[CZ]at Z;omega
   have hqp:0<q:=I
   clear Q;go_wp2_with fail;refine(Cc wr z.toIn f.toIn hp T).mono ?_;rintro e w3 ⟨A3,n3,c3,l3,A4,U,c4,P,rfl,hN3,G,D,k,ho3,v,H⟩;rw[Y7 g]at k;have j:val P<val y:=by rw[k];exact BX _ I
   have N:U<=274877906944:=by
    have W:=D.length_le (CW j (IE f.dig));have:=v.len;have:=f.len;omega
   have F:=Lk (And.intro G (And.intro k (And.intro j g)));clear G k j g;go_wp2_with fail;go_roundg (val P)
   case measure=>have:=K7 hk;have:=(K7 F).2.2.1;omega
   case rel=>
    refine⟨Y,A4,q,s,U,c4,y,P,rfl,rfl,rfl,f.below H,v.base l.size,S,D,T,N,?_,l.trans (H.mono l.size)⟩;show _=_;rw[(K7 F).2.1,<-K7 hg,CX (val x),Nat.gcd_rec (val y) (val x),CX]
theorem Pe.len_lt{l:List Nat}(h:Pe l){k:Nat}(b:val l<2 ^ (32*k)):l.length<=k:=h.length_le (by rw[U1];exact b)
theorem od{A:YY}{n c:Nat}{a:List Nat}(w:YM)(l:In w A n c a)(hn:n<=137438953472):
 XW XM 246 #[.slice A n c] w λe w'=>∃r,B6 (val a) r/\Eg w r e w':=by
 have hbl:A_ (val a)<=32*n:=d3 (by rw[<-U1];exact Ni l.dig (BA l.len))
 by_cases wI:val a=0
 .have y:((A_ (val a):Int)==0)=true:=by rw[B1.2 wI];rfl
  have H0:=Lk wI;clear wI hbl;go_enter func246,ntmps246;go_wp2_with fail;refine(Cs w l I).mono ?_;rintro e w' ⟨rfl,rfl⟩;go_wp2_with fail;go_ret;exact⟨0,⟨by omega,by have:=K7 H0;omega⟩,none,0,0,[],rfl,Pe.nil,rfl,uY,Below.refl _ _⟩
 .have y:((A_ (val a):Int)==0)=false:=by
   have:=mt B1.1 wI;simp;omega
  obtain⟨M,hM⟩:∃M,M=(A_ (val a)+1)/2:=⟨_,rfl⟩
  have hMn:M<=16*n+1:=I
  have S:((A_ (val a):Int)+1)/2=(M:Int):=I
  have HM:=Lk hM;have H0:=Lk wI;clear hM wI;go_enter func246,ntmps246;go_wp2_with fail;refine(Cs w l I).mono ?_;rintro e w' ⟨rfl,rfl⟩;go_wp2_with fail;refine(Vq 1 I w).mono ?_;rintro e w1 ⟨A1,n1,c1,l1,rfl,hN1,wJ,U,hw1⟩;go_wp2_with fail;refine(Cs w1 (l.below hw1) I).mono ?_;rintro e w' ⟨rfl,rfl⟩;go_wp2_with fail;have hn1:n1<=1:=by
   have:=hN1.len_lt (k:=1) (by rw[wJ];decide);have:=U.len;omega
  simp only[S,y];clear S y;go_loopw [3,16] (λsx si J=>∃(i:Nat) (X:YY) (p r:Nat) (x:List Nat),i<=M/\si= .int .i64 i/\sx= .slice X p r/\Si J w.heap.size X p r x/\Pe x/\p<=n+3/\Hid (val x=2 ^ i)/\Below w.heap.size w J) (λ_ si _=>M- (intOf si).toNat)
  case atStart=>exact⟨0,A1,n1,c1,l1,AO _,rfl,rfl,U,hN1,by omega,wJ,hw1⟩
  case round=>
   obtain⟨i,X,p,r,x,hi,rfl,rfl,b,B,hp,G,g⟩:=hrel
   by_cases hlt:i<M
   .go_wp2_with fail;refine(bh wr b.toIn b.toIn I I).mono ?_;rintro e w2 ⟨A2,n2,c2,l2,rfl,P,hv2,W,hw2⟩;have h:val l2=2 ^ (i+1):=by rw[hv2,K7 G,Nat.pow_succ];omega
    have hn2:n2<=n+3:=by
     have H:=P.len_lt (k:=n+3) (by rw[h];exact Nat.pow_lt_pow_right I I);have:=W.len;omega
    have HV:=Lk h;clear hv2 h;go_wp2_with fail;go_roundw
    case rel=>exact⟨i+1,A2,n2,c2,l2,by omega,by go_num,rfl,W.base g.size,P,hn2,HV,g.trans (hw2.mono g.size)⟩
    case measure=>simp[intOf];omega
   .obtain rfl:M=i:=I
    go_wp2_with fail;go_loopg [3] (val x) (λgk sx J=>∃(X:YY) (p r:Nat) (x:List Nat),sx= .slice X p r/\Si J w.heap.size X p r x/\Pe x/\p<=n+3/\Hid (val x=gk/\1<=val x/\val a<(val x+1)*(val x+1))/\Below w.heap.size w J)
    case atStart=>
     refine⟨X,p,r,x,rfl,b,B,hp,⟨rfl,?_,?_⟩,g⟩
     .rw[K7 G];exact Rn _
     .rw[K7 G,K7 HM];exact QK
    case round=>
     obtain⟨X,p,r,x,rfl,b,B,hp,hI,g⟩:=hrel;obtain⟨hI1,hI2,hI3⟩:=K7 hI;have Y:val x≠0:=I
     clear hI1 hI2 hI3;go_wp2_with fail;refine(Cc wr (l.below g) b.toIn I I).mono ?_;rintro e w3 ⟨A3,n3,c3,l3,A4,n4,c4,l4,rfl,hN3,E,hN4,hv4,j,ho4,hw3⟩;have hn3:n3<=n+3:=by
      have H:=hN3.length_le (k:=n) (by rw[E];exact BD (CC _ _) (Ni l.dig (BA l.len)));have:=j.len;omega
     have o:=b.below hw3;go_wp2_with fail;refine(bh w3 o.toIn j.toIn I I).mono ?_;rintro e w4 ⟨A5,n5,c5,l5,rfl,hN5,D,N,T⟩;have hn5:n5<=n+4:=by
      have H:=hN5.length_le (k:=n+4) (by
       rw[D];have h2:=Ni b.dig (AC (BA b.len) hp);have h3:=Ni j.dig (AC (BA j.len) hn3);rw[show n+4=(n+3)+1 by omega,N5];omega)
      have:=N.len;omega
     have hox4:=o.below T;go_wp2_with fail;refine(US (-1) w4 N.toIn I I I).mono ?_;rintro e w5 ⟨A6,n6,u,rfl,hN6,Z,v,hw6⟩;have s:val u=(val x+val a/val x)/2:=by
      rw[Z,D,E,show(-1:Int)= -((1:Nat):Int)from rfl,H6]
     have m:=hox4.below hw6;have Q:=g.trans (hw3.mono g.size);have t:=Q.trans (T.mono Q.size);have L:=t.trans (hw6.mono t.size);have F:=Lk (And.intro s Y);clear Z s D E hv4 Y;go_wp2_with fail;refine(EV w5 v.toIn m.toIn).mono ?_;rintro e w6 ⟨rfl,hqd⟩;have hs:=aP (a:=val a) (by have:=(K7 F).2;omega) (K7 F).1
     by_cases f:val u<val x
     .have K:Hid (Uz (val u) (val x)= -1):=Ck f;rw[K7 K];have R:1<=val u:=by
       obtain⟨H,h2⟩:=K7 F;have h3:=K7 H0;rcases CE 1 (val x)with h4|h4
       .generalize val a/val x=q at H;omega
       .have h5:val x=1:=I
        rw[h5,Nat.div_one]at H;omega
      have HS:=Lk (And.intro hs.1 (And.intro R f));have hn6:n6<=n+3:=by
       have H:=hN6.length_le (CW f (Ni b.dig (AC (BA b.len) hp)));have:=v.len;omega
      clear hs R f;go_wp2_with fail;go_roundg (val u)
      case measure=>have:=(K7 HS).2.2;have:=(K7 hI).1;omega
      case rel=>
       obtain⟨q,rfl⟩:=hqd;exact⟨A6,n6,n6,u,rfl,(v.base t.size).drewN q,hN6,hn6,⟨rfl,(K7 HS).2.1,(K7 HS).1⟩,O3 L q⟩
     .obtain⟨z,hz0,K⟩:∃z,(0:Int)<=z/\Hid (Uz (val u) (val x)=z):=by
       refine⟨_,?_,rfl⟩;unfold Uz;rw[YT f];split<;>omega
      rw[K7 K];have HS:=Lk (hs.2 I);clear hs f;go_wp2_with fail;go_ret;obtain⟨q,rfl⟩:=hqd;exact⟨val x,⟨K7 HS,(K7 hI).2.2⟩,X,p,r,x,rfl,B,rfl,m.drewN q,O3 L q⟩
theorem Si.mid{w s:YM}{B:Nat}{A:YY}{n c:Nat}{l:List Nat}(h:Si w B A n c l)(G:w.heap.size<=s.heap.size)(D:∀k,B<=k->k<w.heap.size->s.heap[k]? =w.heap[k]?):Si s B A n c l:=by
 have p:0<c->∃g b t,A=some ⟨g,0,none⟩/\B<=g/\s.heap[g]? =some (.cells b t (0,0))/\c<=b.size/\s.heap[g]? =w.heap[g]? :=by
  intro y;obtain⟨g,b,t,m,v,x,o⟩:=h.own y;have e:=D g v (AE.1 x).1;exact⟨g,b,t,m,v,e.trans x,o,e⟩
 refine⟨⟨h.dig,h.len,h.le,h.cap,⟨h.rd.1,λz=> ?_⟩⟩,λy=> ?_⟩
 .obtain⟨ad,m,E,o⟩:=h.rd.2 z;obtain⟨g,b,t,f,_,_,_,e⟩:=p (AK z h.le);refine⟨ad,m,AK E G,λj u F=> ?_⟩;rw[m]at f;injection f with f;subst f;have:=o j u F;rw[TH]at this ⊢;rw[World.cell?_of_block (w:=w) e];exact this
 .obtain⟨g,b,t,m,v,x,o,_⟩:=p y;exact⟨g,b,t,m,v,x,o⟩
theorem Dm{a b i j k:Nat}(c:a<pw i)(g:b<pw j)(hi:i+1<=k)(e:j+1<=k):a+b<pw k:=by
 obtain⟨m,rfl⟩:∃m,k=m+1:=⟨k-1,by omega⟩
 have h:=C0 (show i<=m by omega);have f:=C0 (show j<=m by omega);rw[N5];omega
theorem Wo{a b i j k:Nat}(f:a<pw i)(g:b<pw j)(e:i+j<=k):a*b<pw k:=by
 have c:a*b<pw i*pw j:=Nat.mul_lt_mul'' f g;rw[<-RG]at c;exact AK c (C0 e)
theorem L5{b c:YM}{q:XR}{v:YI}(e:Below b.heap.size b c)(h:b.cell? q=some v):c.cell? q=some v:=(e.cell (World.block_lt_of_cell? b q h)).trans h
def Lr(t:XX)(n:Nat)(b:Array (Nat×YI)):Sem Next:=Instr.buildSlice t n b >>= λv=>pure (.value v)
def Kr(n:Nat)(g:Nat):YI:= .slice (some ⟨g,0,none⟩) n n
def Kw(elem:XX)(cells:Array YI)(g:Nat)(w:YM):Prop:=w.heap[g]? =some (.cells cells elem (0,0))
def Ic(P:YH)(t:XX)(len:Nat)(b:Array (Nat×YI)):Option (XX×Array YI):=
 match P.underlying t with
 | some (.slice elem)=>match Mq P elem,Tz P elem with
  | some n,some z=>if EA (len*n) 0 then(match Instr.fill (λi=>some (i*n,n)) ((Array.range (len*n)).map ((#[]:Array YI)[· %(#[]:Array YI).size]!)) b.toList with
   |some cells=>some (elem,cells)
   |none=>none)
   else if Nat.ble (len*n) 16777216 then(match Instr.fill (λi=>some (i*n,n)) ((Array.range (len*n)).map (z.cells[· %z.cells.size]!)) b.toList with
    |some cells=>some (elem,cells)
    |none=>none)else none
  |_,_=>none
 |_=>none
theorem Kj{P:YH}{t elem:XX}{len:Nat}{b:Array (Nat×YI)}{cells:Array YI}{w:YM}(h:Ic P t len b=some (elem,cells)):
 M9 P w (Kr len) (Kw elem cells) (Lr t len b):=by
 unfold Ic at h;split at h
 .rename_i c s;split at h
  .rename_i n z p u;have fin:∀cs,(Instr.buildSlice t len b).run P w= .ok (.slice (some ⟨w.heap.size,0,none⟩) len len) (w.alloc (.cells cs c))->some (c,cs)=some (elem,cells)->M9 P w (Kr len) (Kw elem cells) (Lr t len b):=by
    intro cs x k;injection k with k;injection k with o m;subst o;subst m;refine⟨w.heap.size,w.alloc (.cells cs c),?_,Pa _ _,λv o m=> ?_⟩
    .simp only[Lr,AF,x,AB,AH,Kr]
    .unfold Kw;rw[m w.heap.size (AA _) Zs];show(w.heap.push _)[w.heap.size]? =_;simp
   split at h
   .rename_i f;have f:=Nat.eq_of_beq_eq_true f;split at h
    .rename_i cs j;refine fin cs ?_ h;have l:¬len*n>2 ^ 24:=I
     simp only[Instr.buildSlice,AF,run_underlying s,AB,Lb p,YT l,YS f,AH,j]
     rfl
    .cases h
   .rename_i f;have f:¬len*n=0:=λe=>f (by rw[e];rfl)
    split at h
    .rename_i g;have g:=Nat.le_of_ble_eq_true g;split at h
     .rename_i cs j;refine fin cs ?_ h;have l:¬len*n>2 ^ 24:=I
      simp only[Instr.buildSlice,AF,run_underlying s,AB,Lb p,YT l,YT f,Qj u,AH,j]
      rfl
     .cases h
    .cases h
  .cases h
 .cases h
def zi(s:Bool)(v:Nat):Int:=if s then -(v:Int)else(v:Int)
theorem QT(s:Bool)(v:Nat):(zi s v).natAbs=v:=by cases s<;>simp[zi]
theorem o9(s:Bool)(a b:Nat):zi s (a+b)=zi s a+zi s b:=by cases s<;>simp[zi]<;>omega
theorem bb(s t:Bool)(a b:Nat)(h:(s==t)=false)(c:b<=a):zi s (a-b)=zi s a+zi t b:=by cases s<;>cases t<;>simp[zi]at* <;>omega
theorem nn(s:Bool)(v:Nat):zi (!s) v= -zi s v:=by cases s<;>simp[zi]
theorem pD(s t:Bool)(a b:Nat):zi (s !=t) (a*b)=zi s a*zi t b:=by cases s<;>cases t<;>simp[zi]<;>grind
theorem md(k:Int){v:Nat}(h:v=k.natAbs):zi (decide (k<0)) v=k:=by
 subst h
 by_cases e:k<0
 .rw[YU e];simp[zi];omega
 .rw[YV e];simp[zi];omega
def V7(k:Int):Int:=if k<0 then -1 else if k=0 then 0 else 1
def J5(y:Int):Int:=if y=0 then 9 else 0
def GA(x y:Int):Int:=if y=0 then 0 else x.fdiv y
def o1(x y:Int):Int:=if y=0 then 0 else x.fmod y
theorem Pe.len_pos{l:List Nat}(h:Pe l):decide (0<val l)=decide (0<l.length):=by
 by_cases e:l=[]
 .subst e;rfl
 .have f:=h.pos e;have c:=Ak (l.length-1);have b:0<l.length:=List.length_pos_iff.2 e;rw[YU b,YU I]
theorem qx{w:YM}{A:YY}{n c K:Nat}{l:List Nat}{k:Int}(N:Pe l)(v:val l=k.natAbs)(o:In w A n c l)(h:k.natAbs<pw K):n<=K:=by
 have:=N.length_le (k:=K) (by rw[v];exact h);rw[o.len]at this;exact this
theorem ON{x y:Int}{K:Nat}(b:x.natAbs<pw K)(c:y.natAbs<pw K):(x+y).natAbs<pw (K+1):=by
 have:=Dm b c (AA _) (AA _);omega
theorem PB{x y:Int}{K:Nat}(b:x.natAbs<pw K)(c:y.natAbs<pw K):(x-y).natAbs<pw (K+1):=by
 have:=Dm b c (AA _) (AA _);omega
theorem K4.impG{X:Type}{w c:YM}{val:X->YI}{G G':X->YM->Prop}{e:XS}(h:K4 w val G e c)(j:∀x u,G x u->G' x u):K4 w val G' e c:=by
 obtain⟨x,l,k,g⟩:=h;exact⟨x,l,k,λb f k2=>j _ _ (g b f k2)⟩
structure DV where
 A:YY
 n:Nat
 c:Nat
 l:List Nat
abbrev DV.val(v:DV):YI:= .slice v.A v.n v.c
def F6(v:DV)(k:Nat)(K:Nat)(w:YM):Prop:=In w v.A v.n v.c v.l/\val v.l=k/\v.n<=K
def Zz(v:DV)(k:Nat)(K:Nat)(w:YM):Prop:=F6 v k K w/\Pe v.l
def GJ(v:DV)(k:Nat)(K:Nat)(w:YM):Prop:=Zz v k K w/\Si w 0 v.A v.n v.c v.l
structure II(w:YM)(s:Bool)(A:YY)(n c:Nat)(l:List Nat)(x:Int)(K:Nat):Prop where
 inn:In w A n c l
 zi:zi s (val l)=x
 le:n<=K
section
variable{w w':YM}{s:Bool}{A:YY}{n c K K':Nat}{l:List Nat}{x y:Int}{k:Nat}{e:XS}
theorem II.below(h:II w s A n c l x K)(b:Below w.heap.size w w'):II w' s A n c l x K:=⟨h.inn.below b,h.zi,h.le⟩
theorem II.abs(h:II w s A n c l x K):x.natAbs=val l:=by rw[<-h.zi,QT]
theorem II.lt(h:II w s A n c l x K):x.natAbs<pw K:=by
 rw[h.abs];exact AK (Ni h.inn.dig (BA h.inn.len)) (C0 h.le)
theorem F6.below{v:DV}(h:F6 v k K w)(b:Below w.heap.size w w'):F6 v k K w':=⟨h.1.below b,h.2⟩
theorem F6.lt{v:DV}(h:F6 v k K w):k<pw K:=by
 rw[<-h.2.1];exact Ni h.1.dig (by rw[h.1.len];exact h.2.2)
theorem Eg.postO(h:Eg w k e w')(m:k<pw K):K4 w DV.val (λv w=>GJ v k K w) e w':=by
 obtain⟨A,n,c,l,rfl,N,v,o,j⟩:=h;refine⟨⟨A,n,c,l⟩,rfl,j,λg f b=>⟨⟨⟨(o.mid f b).toIn,v,?_⟩,N⟩,(o.mid f b).base (AO _)⟩⟩;have:=N.length_le (k:=K) (by rw[v];exact m);rw[o.len]at this;exact this
theorem Eg.post(h:Eg w k e w')(m:k<pw K):K4 w DV.val (λv w=>Zz v k K w) e w':=by
 obtain⟨x,o,j,g⟩:=h.postO m;exact⟨x,o,j,λb f k2=>(g b f k2).1⟩
end
structure SV where
 s:Bool
 A:YY
 n:Nat
 c:Nat
 l:List Nat
abbrev SV.val(x:SV):YI:= .agg #[.bool x.s,.slice x.A x.n x.c]
def Sx(v:SV)(x:Int)(K:Nat)(w:YM):Prop:=II w v.s v.A v.n v.c v.l x K
def Yz(v:SV)(x:Int)(K:Nat)(w:YM):Prop:=Sx v x K w/\Pe v.l/\v.s=decide (x<0)/\Si w 0 v.A v.n v.c v.l
def SV.d(v:SV):DV:=⟨v.A,v.n,v.c,v.l⟩
theorem Sx.d{v:SV}{x:Int}{K:Nat}{w:YM}(h:Sx v x K w):F6 v.d x.natAbs K w:=⟨h.inn,h.abs.symm,h.le⟩
section
variable{v a b:SV}{x y:Int}{K K' K1 K2:Nat}{w w':YM}{d d2:DV}{k k2:Nat}{e:XS}
theorem Yz.i(h:Yz v x K w):Sx v x K w:=h.1
theorem Sx.below(h:Sx v x K w)(c:Below w.heap.size w w'):Sx v x K w':=II.below h c
theorem Sx.mono(h:Sx v x K w)(c:K<=K'):Sx v x K' w:=⟨h.inn,h.zi,AC h.le c⟩
theorem Yz.mono(h:Yz v x K w)(c:K<=K'):Yz v x K' w:=⟨h.1.mono c,h.2⟩
theorem Yz.cast(h:Yz v x K w)(e:x=y):Yz v y K w:=by rw[<-e];exact h
theorem Sx.lt(h:Sx v x K w):x.natAbs<pw K:=II.lt h
theorem U5(h:Yz v x K w)(c:x.natAbs<pw K'):Yz v x K' w:=⟨⟨h.1.inn,h.1.zi,qx h.2.1 h.1.abs.symm h.1.inn c⟩,h.2⟩
theorem GJ.n(h:GJ d x.natAbs K w):Yz ⟨decide (x<0),d.A,d.n,d.c,d.l⟩ x K w:=⟨⟨h.1.1.1,md x h.1.1.2.1,h.1.1.2.2⟩,h.1.2,rfl,h.2⟩
theorem F6.sv(h:F6 d k K w)(s:Bool):Sx ⟨s,d.A,d.n,d.c,d.l⟩ (zi s k) K w:=⟨h.1,by rw[<-h.2.1],h.2.2⟩
theorem Zz.pos(h:Zz d k K w):0<d.n↔0<k:=by
 have c:=h.2.len_pos;rw[h.1.2.1,h.1.1.len]at c;exact⟨λq=>YP (by rw[c];exact YU q),λq=>YP (by rw[<-c];exact YU q)⟩
theorem nh{a b n m:Nat}(c:a<pw n)(f:b<pw m):a+b<pw (n+m+1):=Dm c f I I
theorem j9{a b n m:Nat}(c:a<pw n)(f:b<pw m):a*b<pw (n+m):=Wo c f (AA _)
theorem KC(h:F6 d k K w)(g:K<=274877906944):Ca 276 #[d.val] w (K4 w DV.val λv w=>GJ v k K w):=by
 refine(Tq w h.1 (by have:=h.2.2;omega)).mono λe w' q=>Eg.postO ?_ h.lt
 obtain⟨A,n,c,rfl,o,f⟩:=q;exact⟨A,n,c,_,rfl,Ma h.1.dig,by rw[L6];exact h.2.1,o,f⟩
theorem d4(h:F6 d k K1 w)(c:F6 d2 k2 K2 w)(f:K1+K2+1<=137438953473):Ca 279 #[d.val,d2.val] w (K4 w DV.val λv w=>GJ v (k+k2) (K1+K2+1) w):=by
 refine(bh w h.1 c.1 (by have:=h.2.2;omega) (by have:=c.2.2;omega)).mono λe w' q=>Eg.postO ?_ (nh h.lt c.lt)
 rw[h.2.1,c.2.1]at q;exact q
theorem mA(h:F6 d k K1 w)(c:F6 d2 k2 K2 w)(f:K1+K2<=137438953473):Ca 271 #[d.val,d2.val] w (K4 w DV.val λv w=>GJ v (k*k2) (K1+K2) w):=by
 refine(ru w h.1 c.1 (by have:=h.2.2;omega) (by have:=c.2.2;omega)).mono λe w' q=>Eg.postO ?_ (j9 h.lt c.lt)
 rw[h.2.1,c.2.1]at q;exact q
theorem QZ{B:Bool}(u:decide (k2<=k)=B)(h:F6 d k K1 w)(f:F6 d2 k2 K2 w)(E:K1+K2<=137438953473):Ca 304 #[d.val,d2.val] w (K4 w (λv:DV=> .tuple #[v.val,.bool B]) λv w=>GJ v (k-k2) K1 w):=by
 refine(qW w h.1 f.1 (by have:=h.2.2;omega)).mono λe w' q=> ?_
 obtain⟨A,n,c,l,g,N,j,o,p⟩:=q;rw[h.2.1,f.2.1]at g;rw[h.2.1,f.2.1]at j;obtain⟨z,m,s,D⟩:=Eg.postO (K:=K1) ⟨A,n,c,l,rfl,N,j,o,p⟩ (BD (Nat.sub_le _ _) h.lt);have t:Value.slice A n c=z.val:=by injection m
 exact⟨z,by rw[g,u,t],s,D⟩
theorem JB(h:F6 d k K w)(c:K<=137438953473):Ca 230 #[d.val] w (CU w (.int .i64 (A_ k:Nat))):=by
 refine(Cs w h.1 (by have:=h.2.2;omega)).mono λe w' q=> ?_
 obtain⟨rfl,q⟩:=q;exact⟨(),by rw[h.2.1],by rw[q];exact Below.refl _ _,Zv⟩
theorem Rg(o:Sx a x K1 w)(z:K1<=274877906944):Ca 235 #[.bool a.s,.slice a.A a.n a.c] w (K4 w SV.val λv w=>Yz v x K1 w):=by
 have B:=o.d;obtain⟨s,A,n,c,l⟩:=a;have u:zi s (val l)=x:=o.zi;have D:x.natAbs=val l:=o.abs;cases s
 .have e:decide (x<0)=false:=YV (by rw[<-u];simp[zi]);refine uf func235 rfl<|ZR<|ZC (λj f h=>KC (B.below f) z) λm=>ZV (.agg #[.bool false,.slice m.A m.n m.c]) (λj f h=>⟨⟨decide (x<0),m.A,m.n,m.c,m.l⟩,by rw[<-e],f,λg t k2=>((h g t k2).2).n⟩)
 .refine uf func235 rfl<|ZR<|ZC (λj f h=>KC (B.below f) z) λm=> ?_
  refine um (p:=decide ((m.n:Int)>0)=decide (x<0)) (λj f h=>decide_eq_decide.2 (by
   have q:=h.2.1.pos;have E:x= -(x.natAbs:Int):=by rw[<-u];simp[zi]
   omega)) O (λe=> ?_)
  refine ZV (.agg #[.bool (decide ((m.n:Int)>0)),.slice m.A m.n m.c]) (λj f h=>⟨⟨decide (x<0),m.A,m.n,m.c,m.l⟩,by rw[<-e],f,λg t k2=>((h g t k2).2).n⟩)
theorem eC(f:Sx a x K1 w)(t:K1<=137438953473):Ca 247 #[a.val] w (K4 w SV.val λv w=>Yz v (-x) K1 w):=by
 have o:Sx ⟨!a.s,a.A,a.n,a.c,a.l⟩ (-x) K1 w:=⟨f.inn,by rw[nn,f.zi],f.le⟩
 refine uf func247 rfl<|ZR<|ZC (λp g h=>Rg (o.below g) I) λv=>ZV (v.val) (λp g h=>⟨v,rfl,g,λj m k2=>(h j m k2).2⟩)
theorem bj(p:Sx a x K1 w)(u:Sx b y K2 w)(L:K1+K2+1<=137438953473):Ca 272 #[a.val,b.val] w (K4 w SV.val λv w=>Yz v (x+y) (K1+K2+1) w):=by
 have F:=p.zi;have H:=u.zi;rw[<-p.abs]at F;rw[<-u.abs]at H;cases z:a.s==b.s
 case true=>
  have e:b.s=a.s:=(YQ.1 z).symm;have D:zi a.s (x.natAbs+y.natAbs)=x+y:=by rw[o9,F,<-e,H]
  refine uf func272 rfl<|ZR<|ZJ (a.s==b.s) true (z)<|ZC (λj f h=>d4 (p.d.below f) (u.d.below f) L) λm=>ZC (λj f h=>Rg (a:=⟨a.s,m.A,m.n,m.c,m.l⟩) (x:=x+y) (by have t:=(h.2.1.1).sv a.s;rw[D]at t;exact t) I) λv=>ZV (v.val) (λj f h=>⟨v,rfl,f,λg E k2=>(h g E k2).2⟩)
 by_cases o:y.natAbs<=x.natAbs
 .have J:zi a.s (x.natAbs-y.natAbs)=x+y:=by rw[bb a.s b.s _ _ z o,F,H]
  refine uf func272 rfl<|ZR<|ZJ (a.s==b.s) false (z)<|ZC (λj f h=>QZ (YU o) (p.d.below f) (u.d.below f) I) λm=>ZI true<|ZC (λj f h=>Rg (a:=⟨a.s,m.A,m.n,m.c,m.l⟩) (x:=x+y) (by have t:=(h.2.1.1).sv a.s;rw[J]at t;exact t) I) λv=>ZV (v.val) (λj f h=>⟨v,rfl,f,λg E k2=>((h g E k2).2).mono I⟩)
 .have Z:(b.s==a.s)=false:=by rw[<-z];cases a.s<;>cases b.s<;>rfl
  have J:zi b.s (y.natAbs-x.natAbs)=x+y:=by rw[bb b.s a.s _ _ Z I,F,H,Int.add_comm]
  refine uf func272 rfl<|ZR<|ZJ (a.s==b.s) false (z)<|ZC (λj f h=>QZ (YV o) (p.d.below f) (u.d.below f) I) λm=>ZI false<|ZC (λj f h=>QZ (B:=true) (YU (show x.natAbs<=y.natAbs by omega)) (u.d.below f) (p.d.below f) I) λG=>ZC (λj f h=>Rg (a:=⟨b.s,G.A,G.n,G.c,G.l⟩) (x:=x+y) (by have t:=(h.2.1.1).sv b.s;rw[J]at t;exact t) I) λv=>ZV (v.val) (λj f h=>⟨v,rfl,f,λg E k2=>((h g E k2).2).mono I⟩)
theorem Ih(l:Sx a x K1 w)(m:Sx b y K2 w)(o:K1+K2+1<=137438953473):Ca 233 #[a.val,b.val] w (K4 w SV.val λv w=>Yz v (x-y) (K1+K2+1) w):=by
 refine uf func233 rfl<|ZR<|ZC (λg c h=>eC (m.below c) I) λn=>ZC (λg c h=>bj (l.below c) (h.2).i o) λv=>ZV (v.val) (λg c h=>⟨v,rfl,c,λf j k2=>((h f j k2).2).cast (Int.sub_eq_add_neg).symm⟩)
theorem U6(g:Sx a x K1 w)(o:Sx b y K2 w)(z:K1+K2<=137438953473):Ca 231 #[a.val,b.val] w (K4 w SV.val λv w=>Yz v (x*y) (K1+K2) w):=by
 have B:zi (a.s !=b.s) (x.natAbs*y.natAbs)=x*y:=by rw[pD,g.abs,o.abs,g.zi,o.zi]
 refine uf func231 rfl<|ZR<|ZC (λp f h=>mA (g.d.below f) (o.d.below f) z) λm=>ZC (λp f h=>Rg (a:=⟨a.s !=b.s,m.A,m.n,m.c,m.l⟩) (x:=x*y) (by have t:=(h.2.1.1).sv (a.s !=b.s);rw[B]at t;exact t) I) λv=>ZV (v.val) (λp f h=>⟨v,rfl,f,λj u k2=>(h j u k2).2⟩)
theorem ES(c:Sx a x K1 w)(g:K1<=137438953473):Ca 177 #[a.val] w (CU w (.int .i64 (A_ x.natAbs:Nat))):=uf func177 rfl<|ZR<|ZC (λj f h=>JB (c.d.below f) g) λm=>ZW (.int .i64 (A_ x.natAbs:Nat))
theorem Zb(f:Sx a x K1 w)(o:K1<=137438953473):Ca 232 #[a.val] w (CU w (.int .i64 (V7 x))):=by
 have c:=f.zi;rw[<-f.abs]at c
 by_cases l:x=0
 .exact uf func232 rfl<|ZR<|ZC (λu g h=>JB (f.d.below g) o) λm=>ZJ ((((A_ x.natAbs:Nat):Int)==0)) true (by rw[l];rfl)<|ZX (.int .i64 0) (by rw[l];rfl)
 have p:A_ x.natAbs≠0:=λe=>l (by have:=B1.1 e;omega)
 cases j:a.s
 .rw[j]at c;have t:0<x:=by simp[zi]at c;omega
  exact uf func232 rfl<|ZR<|ZC (λu g h=>JB (f.d.below g) o) λm=>ZJ ((((A_ x.natAbs:Nat):Int)==0)) false (YR.2 I)<|ZJ (a.s) false (j)<|ZX (.int .i64 1) (by unfold V7;rw[YT I,YT l])
 .rw[j]at c;have t:x<0:=by simp[zi]at c;omega
  exact uf func232 rfl<|ZR<|ZC (λu g h=>JB (f.d.below g) o) λm=>ZJ ((((A_ x.natAbs:Nat):Int)==0)) false (YR.2 I)<|ZJ (a.s) true (j)<|ZX (.int .i64 (-1)) (by unfold V7;rw[YS t])
theorem oF(f:Sx a x K1 w)(g:Sx b y K2 w)(l:K1<=68719476736/\K2<=68719476736):Ca 179 #[a.val,b.val] w (CU w (.int .i64 (V7 (x-y)))):=uf func179 rfl<|ZR<|ZC (λj c h=>Ih (f.below c) (g.below c) I) λv=>ZC (λj c h=>Zb (h.2).i I) λu=>ZW (.int .i64 (V7 (x-y)))
theorem IA{k:Nat}(c:(k:Int)<=18446744073709551615):Ca 236 #[.int .u64 k] w (K4 w DV.val λv w=>GJ v k 2 w):=
 (Vq k c w).mono λe w' q=>q.postO (by rw[U1];omega)
theorem Ze(z:Int)(w:YM)(B: -9223372036854775808<=z)(u:z<=9223372036854775807):Ca 182 #[.int .i64 z] w (K4 w SV.val λv w=>Yz v z 2 w):=by
 refine uf func182 rfl<|ZR ?_
 by_cases s:z<0
 .have p:XP.wrap (0-XP.wrap z)=(z.natAbs:Int):=by rw[M4,M4];omega
  refine ul (decide (z<0)) true O (YU s)<|ZS 3<|ZT 7 (.int .u64 (XP.wrap (0-XP.wrap z))) (.int .u64 (z.natAbs:Int)) (by rw[p])<|ZC (λj f h=>IA (k:=z.natAbs) I) λm=>ZC (λj f h=>Rg (a:=⟨true,m.A,m.n,m.c,m.l⟩) (x:=z) (by have t:=(h.2.1.1).sv true;rw[show zi true z.natAbs=z by simp[zi];omega]at t;exact t) Zd) λv=>ZV (v.val) (λj f h=>⟨v,rfl,f,λg o k2=>(h g o k2).2⟩)
 .have p:XP.wrap z=(z.natAbs:Int):=by rw[M4];omega
  refine ul (decide (z<0)) false O (YV s)<|ZS 2<|ZT 11 (.int .u64 (XP.wrap z)) (.int .u64 (z.natAbs:Int)) (by rw[p])<|ZC (λj f h=>IA (k:=z.natAbs) I) λm=>ZC (λj f h=>Rg (a:=⟨false,m.A,m.n,m.c,m.l⟩) (x:=z) (by have t:=(h.2.1.1).sv false;rw[show zi false z.natAbs=z by simp[zi];omega]at t;exact t) Zd) λv=>ZV (v.val) (λj f h=>⟨v,rfl,f,λg o k2=>(h g o k2).2⟩)
theorem Ey{x y q r:Int}(h:x=y*q+r)(g:(0<=r/\r<y)\/(y<r/\r<=0)):x.fdiv y=q/\x.fmod y=r:=by
 have c:x.fdiv y=q:=by
  rcases g with ⟨c,f⟩|⟨c,f⟩
  .rw[BJ _ I];exact((Int.ediv_emod_unique I).2 ⟨(by rw[h,Int.add_comm]),c,f⟩).1
  .rw[<-Int.neg_fdiv_neg,BJ _ I];exact((Int.ediv_emod_unique (r:= -r) I).2 ⟨(by rw[h];grind),by omega,by omega⟩).1
 refine⟨c,?_⟩;rw[Int.fmod_def,c,h];omega
theorem nN(s t:Bool)(a b:Nat)(o:b≠0):
 ((s !=t)=true/\a%b≠0->GA (zi s a) (zi t b)=zi true (a/b)-1/\o1 (zi s a) (zi t b)=zi s (a%b)+zi t b)/\
 ((s !=t)=false\/a%b=0->GA (zi s a) (zi t b)=zi (s !=t) (a/b)/\o1 (zi s a) (zi t b)=zi s (a%b)):=by
 have h:zi t b≠0:=by cases t<;>simp[zi]<;>omega
 have f:(a:Int)=b*((a/b:Nat):Int)+((a%b:Nat):Int):=by
  have:=DS a b;rw[<-DQ,<-Int.natCast_add,this]
 have j:a%b<b:=BX _ I;obtain⟨q,g⟩:∃q,q=a/b:=⟨_,rfl⟩
 obtain⟨r,c⟩:∃r,r=a%b:=⟨_,rfl⟩
 rw[<-g,<-c]at f;rw[<-c]at j;rw[<-g,<-c,GA,o1,YT h,YT h];constructor
 .rintro⟨l,m⟩;refine Ey ?_ ?_
  .cases s<;>cases t<;>simp[zi]at* <;>rw[f]<;>grind
  .cases s<;>cases t<;>simp[zi]at* <;>omega
 .intro l;refine Ey ?_ ?_
  .cases s<;>cases t<;>simp[zi]at* <;>rw[f]<;>grind
  .cases s<;>cases t<;>simp[zi]at* <;>omega
end
structure RV where
 a:SV
 b:SV
abbrev RV.val(r:RV):YI:= .agg #[.bool r.a.s,.slice r.a.A r.a.n r.a.c,.bool r.b.s,.slice r.b.A r.b.n r.b.c]
def Nf(r:RV)(q:Rat)(K:Nat)(w:YM):Prop:=∃x y:Int,Sx r.a x K w/\Sx r.b y K w/\q=Rat.divInt x y
def Kn(r:RV)(q:Rat)(K:Nat)(w:YM):Prop:=Yz r.a q.num K w/\Yz r.b q.den K w
theorem Ki(z:Int)(w:YM)(g: -9223372036854775808<=z)(f:z<=9223372036854775807):Ca 135 #[.int .i64 z] w (K4 w RV.val λr w=>Kn r z 2 w):=uf func135 rfl<|ZR<|ZC (λw c h=>Ze z w g f) λx=>ZC (λw c h=>Ze 1 w Zd Zd) λy=>ZV (RV.val ⟨x,y⟩)<|λw c h=>⟨⟨x,y⟩,rfl,c,λb e k2=>⟨(h b e k2).1.2,(h b e k2).2⟩⟩
theorem pZ{a b:DV}{x y K:Nat}{w:YM}(c:F6 a x K w)(f:F6 b y K w)(g:K<=274877906944):
 Ca 273 #[a.val,b.val] w (K4 w DV.val λv w=>Zz v (BN x y) K w):=by
 refine(rI w c.1 f.1 (by have:=c.2.2;omega) (by have:=f.2.2;omega)).mono λ_ _ h=> ?_
 rw[c.2.1,f.2.1]at h;refine h.post ?_;rcases CD x with e|e
 .rw[e,Nat.gcd_zero_left];exact f.lt
 .exact BD (Nat.gcd_le_left _ e) c.lt
def r8(y:Nat)(q:DV×DV):YI:= .tuple #[q.1.val,q.2.val,.int .i64 (pg y)]
theorem cK{a b:DV}{x y K:Nat}{w:YM}(c:F6 a x K w)(e:F6 b y K w)(D:K<=274877906944):
 Ca 275 #[a.val,b.val] w (K4 w (r8 y) λq w=>Zz q.1 (x/y) K w):=by
 refine(Cc w c.1 e.1 (by have:=c.2.2;omega) (by have:=e.2.2;omega)).mono λ_ _ h=> ?_
 obtain⟨A1,u,t,o,A2,m,c2,p,rfl,N1,f,N2,A,j,B,g⟩:=h;rw[c.2.1,e.2.1]at f;refine⟨(⟨A1,u,t,o⟩,⟨A2,m,c2,p⟩),by rw[e.2.1];rfl,g,λv s z=>⟨⟨(j.mid s z).toIn,f,?_⟩,N1⟩⟩;have l:=N1.length_le (k:=K) (by rw[f];exact BD (CC _ _) c.lt);rw[j.len]at l;exact l
theorem Wx{P:YH}{t:XX}{p:XR}{v:YI}{w:YM}(b:Nx P t=some false)(j:w.cell? p=some v):
 (Instr.loadAt t (.pointer (some p)) >>= λv=>(pure (.value v):Sem Next)).run P w= .ok (.value v) w:=by
 have c:(isAgg t).run P w= .ok false w:=by
  unfold Nx at b;split at b
  .cases b
  .cases b
  .rename_i d f e g;unfold isAgg;rw[AF,run_underlying g w];cases d<;>first|rfl|(exfalso;first|exact f _ rfl|exact e _ _ rfl)|(exfalso;first|exact f _ g|exact e _ _ g)
  .cases b
 have h:(load p).run P w= .ok v w:=by simp[run_load,j]
 simp only[AF,Instr.loadAt,Instr.sureAddr,AH,AB,loadVar,c,h,AP,if_false]
theorem LG{β:Nat}{w:YM}{v:YI}{ty:XX}(h:w.heap[β]? =some (.cells #[v] ty (0,0))):w.cell? ⟨β,0,none⟩=some v:=by simp[BM,h]
theorem bp{a:SV}{b:DV}{x:Int}{y K:Nat}{w:YM}{p:XR}(j:Sx a x K w)(o:w.cell? p=some b.val)(k:F6 b y K w)(m:K<=274877906944):
 Ca 274 #[a.val,.pointer (some p)] w (K4 w DV.val λv w=>Zz v (x.natAbs/y) K w):=by
 refine uf func274 rfl<|ZS 2<|ZA (Instr.loadAt 49 (.pointer (some p)) >>= λv=>(pure (.value v):Sem Next)) b.val (λs f _=>Wx O (L5 f o))<|ZC (λg c h=>cK (j.d.below c) (k.below c) m) λq=>ZV (q.1.val) (λg c h=>⟨q.1,rfl,c,λe l k2=>(h e l k2).2⟩)
theorem FN{x y:Int}(l:y≠0):zi (decide (V7 x*V7 y<0)) (x.natAbs/BN x.natAbs y.natAbs)=(Rat.divInt x y).num:=by
 rw[Rat.num_divInt];have o:(y.gcd x:Nat)=BN x.natAbs y.natAbs:=CX _ _;rw[o];have m:BN x.natAbs y.natAbs∣x.natAbs:=Nat.gcd_dvd_left _ _;generalize BN x.natAbs y.natAbs=g at m ⊢;have j:(g:Int)∣(x.natAbs:Int):=Int.natCast_dvd_natCast.2 m;have b:(-(x.natAbs:Int))/(g:Int)= -((x.natAbs:Int)/g):=Int.neg_ediv_of_dvd j;rcases Int.lt_trichotomy x 0 with h|h|h
 .have e:(x.natAbs:Int)= -x:=I
  have f:V7 x= -1:=by simp[V7,h]
  rcases Int.lt_trichotomy y 0 with k|k|k
  .have c:V7 y= -1:=by simp[V7,k]
   rw[f,c,CP k,show -1*x=(x.natAbs:Int) by omega];simp[zi]
  .exact absurd k l
  .have c:V7 y=1:=by unfold V7;rw[YT I,YT I]
   rw[f,c,Int.sign_eq_one_of_pos k,show 1*x= -(x.natAbs:Int) by omega,b];simp[zi]
 .subst h;simp[zi,V7]
 .have e:(x.natAbs:Int)=x:=I
  have f:V7 x=1:=by unfold V7;rw[YT I,YT I]
  rcases Int.lt_trichotomy y 0 with k|k|k
  .have c:V7 y= -1:=by simp[V7,k]
   rw[f,c,CP k,show -1*x= -(x.natAbs:Int) by omega,b];simp[zi]
  .exact absurd k l
  .have c:V7 y=1:=by unfold V7;rw[YT I,YT I]
   rw[f,c,Int.sign_eq_one_of_pos k,show 1*x=(x.natAbs:Int) by omega];simp[zi]
theorem FW{x y:Int}(b:y≠0):zi false (y.natAbs/BN x.natAbs y.natAbs)=((Rat.divInt x y).den:Int):=by
 rw[Rat.den_divInt,YT b];have c:(y.gcd x:Nat)=BN x.natAbs y.natAbs:=CX _ _;rw[c];simp[zi]
theorem Jm{a b:Rat}:Rat.divInt (a.num*b.den+b.num*a.den) (a.den*b.den)=a+b:=by
 have h:=Rat.divInt_add_divInt a.num b.num (d₁:=a.den) (d₂:=b.den) (by have:=a.den_nz;omega) (by have:=b.den_nz;omega);rw[Rat.num_divInt_den,Rat.num_divInt_den]at h;exact h.symm
theorem PH{a b:Rat}:Rat.divInt (a.num*b.den-b.num*a.den) (a.den*b.den)=a-b:=by
 have h:=Rat.divInt_sub_divInt a.num b.num (d₁:=a.den) (d₂:=b.den) (by have:=a.den_nz;omega) (by have:=b.den_nz;omega);rw[Rat.num_divInt_den,Rat.num_divInt_den]at h;exact h.symm
theorem RL{a b:Rat}:Rat.divInt (a.num*b.num) (a.den*b.den)=a*b:=by
 have h:=Rat.divInt_mul_divInt a.num b.num (d₁:=a.den) (d₂:=b.den);rw[Rat.num_divInt_den,Rat.num_divInt_den]at h;exact h.symm
theorem RO{a b:Rat}:Rat.divInt (a.num*b.den) (a.den*b.num)=a/b:=by
 rw[Rat.div_def];have h:=Rat.divInt_mul_divInt a.num b.den (d₁:=a.den) (d₂:=b.num);rw[<-h,Rat.num_divInt_den,<-Rat.inv_divInt,Rat.num_divInt_den]
theorem Vu(a b:Rat):(a.den:Int)*b.den≠0:=Int.mul_ne_zero (by have:=a.den_nz;omega) (by have:=b.den_nz;omega)
theorem NO{a b:Rat}:Rat.divInt (a.num*b.den+b.num*a.den) (a.den*b.den+a.den*b.den)=(a+b)/2:=by
 have h:=Rat.divInt_mul_divInt (a.num*b.den+b.num*a.den) 1 (d₁:=a.den*b.den) (d₂:=2);rw[Jm]at h;rw[show(a.den:Int)*b.den+a.den*b.den=a.den*b.den*2 by omega,<-Int.mul_one (a.num*b.den+b.num*a.den),<-h,Rat.div_def,Rat.inv_def]
 rfl
theorem jI{a b:Rat}:V7 (a.num*b.den-b.num*a.den)=if a<b then -1 else if a=b then 0 else 1:=by
 unfold V7;have c:=Rat.lt_iff a b;have f:=Rat.lt_iff b a
 by_cases h:a<b
 .rw[YS h,YS (by have:=c.1 h;omega)]
 .rw[YT h,YT (λk=>h (c.2 I))]
  by_cases e:a=b
  .rw[YS e,YS (by rw[e];omega)]
  .rw[YT e,YT];intro k;have:=Rat.le_antisymm (Rat.not_lt.1 λq=>by have:=f.1 q;omega) (Rat.not_lt.1 h);exact e this
theorem aD{x y:Int}{K:Nat}(c:x.natAbs<pw K)(e:y.natAbs<pw K)(b:y≠0):(Rat.divInt x y).num.natAbs<pw K/\((Rat.divInt x y).den:Int).natAbs<pw K:=by
 rw[<-FN b,<-FW b,QT,QT];exact⟨BD (CC _ _) c,BD (CC _ _) e⟩
theorem Zz.sv{v:DV}{k K:Nat}{w:YM}(s:Bool)(h:Zz v k K w):Sx ⟨s,v.A,v.n,v.c,v.l⟩ (zi s k) K w:=⟨h.1.1,by rw[<-h.1.2.1],h.1.2.2⟩
theorem Yz.cast'{v:SV}{x y:Int}{K:Nat}{w:YM}(h:Yz v x K w)(e:x=y):Yz v y K w:=by rw[<-e];exact h
theorem pj{x y:Int}(b:y≠0):BN x.natAbs y.natAbs≠0:=λe=>by
 have:=(Nat.gcd_eq_zero_iff.1 e).2;omega
theorem MA{g:Nat}{w:YM}{v:YI}(h:∃ty,w.heap[g]? =some (.cells #[v] ty (0,0))):w.cell? ⟨g,0,none⟩=some v:=by
 obtain⟨ty,h⟩:=h;exact LG h
theorem d6(x:Int):V7 x= -1\/V7 x=0\/V7 x=1:=by unfold V7;split<;>(try split)<;>simp
theorem dI(x y:Int):XQ.wrap (V7 x*V7 y)=V7 x*V7 y:=by
 refine AM _ ?_;rcases d6 x with e|e|e<;>rcases d6 y with k|k|k<;>rw[e,k]<;>decide
theorem Y9{a b:SV}{x y:Int}{K:Nat}{w:YM}(l:Sx a x K w)(m:Sx b y K w)(o:y≠0)(A:K<=68719476736):
 Ca 234 #[a.val,b.val] w (K4 w RV.val λr w=>Kn r (Rat.divInt x y) K w):=by
 have f:=aD l.lt m.lt o;have z:=pj (x:=x) o;refine uf func234 rfl<|ZR<|ZC (λe c h=>pZ (l.d.below c) (m.d.below c) I) λg=>ZC (λe c h=>Zb (l.below c) I) λu=>ZC (λe c h=>Zb (m.below c) I) λu=>uy (val:=DV.val) (G:=λv w=>Zz v (x.natAbs/BN x.natAbs y.natAbs) K w) (xs:=[.v a.val,.p 5 0]) O (λβ e c h s=>bp (l.below c) (MA (Kz s (k:=5) (by simp[AV.ids]) (cs:=[.v g.val]) O)) h.1.1.2.1 I) λp=>ZR<|ZC (λe c h=>Rg (Zz.sv (decide (XQ.wrap (V7 x*V7 y)<0)) h.2) I) λn=>uy (val:=DV.val) (G:=λv w=>Zz v (y.natAbs/BN x.natAbs y.natAbs) K w) (xs:=[.v b.val,.p 5 0]) O (λβ e c h s=>bp (m.below c) (MA (Kz s (k:=5) (by simp[AV.ids]) (cs:=[.v g.val]) O)) h.1.1.1.1.2.1 I) λq=>ZR<|ZC (λe c h=>Rg (Zz.sv false h.2) I) λd=>ZV (RV.val ⟨n,d⟩) (λe c h=>⟨⟨n,d⟩,rfl,c,λj t k2=>⟨U5 ((h j t k2).1.1.2.cast' (by rw[dI];exact FN o)) f.1,U5 ((h j t k2).2.cast' (FW o)) f.2⟩⟩)
def sz:SV:=⟨false,none,0,0,[]⟩
def Ou:RV:=⟨sz,sz⟩
def B7(r:RV)(x y:Int)(K:Nat)(w:YM):Prop:=if y=0 then r=Ou else Kn r (Rat.divInt x y) K w
theorem B7.zero{x y:Int}{K:Nat}{w:YM}(h:y=0):B7 Ou x y K w:=by unfold B7;rw[YS h]
theorem B7.of{r:RV}{x y:Int}{K:Nat}{w:YM}(h:y≠0)(b:Kn r (Rat.divInt x y) K w):B7 r x y K w:=by unfold B7;rw[YT h];exact b
theorem B7.n{r:RV}{x y:Int}{K:Nat}{w:YM}(h:B7 r x y K w)(b:y≠0):Kn r (Rat.divInt x y) K w:=by unfold B7 at h;rw[YT b]at h;exact h
def NK(y:Int)(r:RV):YI:= .tuple #[r.val,.int .i64 (J5 y)]
theorem Mo(y:Int):(V7 y==0)=decide (y=0):=by
 unfold V7
 by_cases h:y<0
 .rw[YS h,YV I];rfl
 .rw[YT h]
  by_cases e:y=0
  .rw[YS e,YU e];rfl
  .rw[YT e,YV e];rfl
theorem J4{y:Int}(h:y≠0):J5 y=0:=YT h
theorem E7{y:Int}(h:y=0):J5 y=9:=YS h
theorem Io{a b:SV}{x y:Int}{K:Nat}{w:YM}(l:Sx a x K w)(j:Sx b y K w)(m:K<=68719476736):
 Ca 229 #[a.val,b.val] w (K4 w (NK y) λr w=>B7 r x y K w):=by
 by_cases e:y=0
 .refine uf func229 rfl<|ZR<|ZC (λg c h=>Zb (j.below c) I) λu=>ZJ (V7 y==0) true (by rw[Mo,YU e])<|ZV (.tuple #[Ou.val,.int .i64 9]) (λg c h=>⟨Ou,by unfold NK;rw[E7 e],c,λf k k2=> .zero e⟩)
 .refine uf func229 rfl<|ZR<|ZC (λg c h=>Zb (j.below c) I) λu=>ZJ (V7 y==0) false (by rw[Mo,YV e])<|ZC (λg c h=>Y9 (l.below c) (j.below c) e m) λr=>ZV (.tuple #[r.val,.int .i64 0]) (λg c h=>⟨r,by unfold NK;rw[J4 e],c,λf k k2=> .of e (h f k k2).2⟩)
theorem Pj{x y:Int}{w:YM}(g: -9223372036854775808<=x/\x<=9223372036854775807)(j: -9223372036854775808<=y/\y<=9223372036854775807):
 Ca 261 #[.int .i64 x,.int .i64 y] w (K4 w (NK y) λr w=>B7 r x y 2 w):=by
 refine uf func261 rfl<|ZR<|ZC (λc e h=>Ze x c g.1 g.2) λa=>ZC (λc e h=>Ze y c j.1 j.2) λb=>ZC (λc e h=>Io h.1.2.i h.2.i Zd) λr=>ZV (NK y r) (λc e h=>⟨r,rfl,e,λf k k2=>(h f k k2).2⟩)
theorem Cd(x:Int):Rat.divInt x 0=0:=Rat.divInt_zero x
theorem Lj{a:RV}{q:Rat}{K:Nat}{w:YM}(p:Nf a q K w)(j:2<=K/\K<=68719476736):
 Ca 176 #[a.val] w (K4 w RV.val λr w=>Kn r q K w):=by
 obtain⟨x,y,l,m,o⟩:=p
 by_cases f:y=0
 .have k:q=0:=by rw[o,f,Cd]
  refine uf func176 rfl<|ZR<|ZC (λe b h=>Io (l.below b) (m.below b) j.2) λr=>ZJ (J5 y !=0) true (by rw[E7 f];rfl)<|ZC (λe b h=>Ki 0 e Zd Zd) λz=>ZV (RV.val z) (λe b h=>⟨z,rfl,b,λc g k2=>by rw[k];exact⟨(h c g k2).2.1.mono j.1,(h c g k2).2.2.mono j.1⟩⟩)
 .refine uf func176 rfl<|ZR<|ZC (λe b h=>Io (l.below b) (m.below b) j.2) λr=>ZJ (J5 y !=0) false (by rw[J4 f];rfl)<|ZV (RV.val r) (λe b h=>⟨r,rfl,b,λc g k2=>by rw[o];exact(h c g k2).2.n f⟩)
theorem Kn.q{r:RV}{q:Rat}{K:Nat}{w:YM}(h:Kn r q K w):Nf r q K w:=⟨q.num,q.den,h.1.1,h.2.1,(Rat.num_divInt_den q).symm⟩
theorem Nf.below{r:RV}{q:Rat}{K:Nat}{w b:YM}(h:Nf r q K w)(c:Below w.heap.size w b):Nf r q K b:=by
 obtain⟨x,y,g,f,e⟩:=h;exact⟨x,y,g.below c,f.below c,e⟩
theorem Nf.mono{r:RV}{q:Rat}{K K':Nat}{w:YM}(h:Nf r q K w)(b:K<=K'):Nf r q K' w:=by
 obtain⟨x,y,f,e,c⟩:=h;exact⟨x,y,f.mono b,e.mono b,c⟩
theorem Kn.mono{r:RV}{q:Rat}{K K':Nat}{w:YM}(h:Kn r q K w)(b:K<=K'):Kn r q K' w:=⟨h.1.mono b,h.2.mono b⟩
theorem Kn.cast{r:RV}{p q:Rat}{K:Nat}{w:YM}(h:Kn r p K w)(e:p=q):Kn r q K w:=by rw[<-e];exact h
def Kv(p q:Rat):Int:=if p<q then -1 else if p=q then 0 else 1
section
variable{a b:RV}{p q:Rat}{K1 K2:Nat}{w:YM}
def MH(t:SV×SV×SV):YI:= .tuple #[t.1.val,t.2.1.val,t.2.2.val]
theorem Gb(j:Nf a p K1 w)(k:Nf b q K2 w)(l:2<=K1/\2<=K2/\K1+K2<=68719476736):
 Ca 178 #[a.val,b.val] w (K4 w MH λt w=>Yz t.1 (p.num*q.den) (K1+K2) w/\Yz t.2.1 (q.num*p.den) (K1+K2) w/\Yz t.2.2 (p.den*q.den) (K1+K2) w):=by
 refine uf func178 rfl<|ZR<|ZC (λf c h=>Lj (j.below c) I) λx=>ZC (λf c h=>Lj (k.below c) I) λy=>ZC (λf c h=>U6 h.1.2.1.i h.2.2.i I) λu=>ZC (λf c h=>U6 h.1.2.1.i h.1.1.2.2.i I) λv=>ZC (λf c h=>U6 h.1.1.1.2.2.i h.1.1.2.2.i I) λt=>ZV (MH (u,v,t)) (λf c h=>⟨(u,v,t),rfl,c,λe g k2=>⟨(h e g k2).1.1.2,(h e g k2).1.2.mono I,(h e g k2).2⟩⟩)
theorem Lv(e:Nf a p K1 w)(f:Nf b q K2 w)(g:2<=K1/\2<=K2/\K1+K2<=68719476736):
 Ca 133 #[a.val,b.val] w (CU w (.int .i64 (Kv p q))):=by
 exact uf func133 rfl<|ZR<|ZC (λj c h=>Gb (e.below c) (f.below c) g) λt=>ZC (λj c h=>oF h.2.1.i h.2.2.1.i I) λu=>ZX (.int .i64 (V7 (p.num*q.den-q.num*p.den))) (by rw[jI];rfl)
theorem JK(j:Nf a p K1 w)(k:2<=K1/\K1<=68719476736):
 Ca 208 #[a.val] w (K4 w RV.val λr w=>Kn r (-p) K1 w):=by
 refine uf func208 rfl<|ZR<|ZC (λg e h=>Lj (j.below e) k) λx=>ZC (λg e h=>eC h.2.1.i I) λu=>ZV (RV.val ⟨u,x.b⟩) (λg e h=>⟨⟨u,x.b⟩,rfl,e,λc f k2=>⟨(h c f k2).2,(h c f k2).1.2.2⟩⟩)
theorem OJ{a b:SV}{x y:Int}{K:Nat}{w:YM}(c:Sx a x K w)(e:Sx b y K w)(f:K+1<=68719476736):Ca 272 #[a.val,b.val] w (K4 w SV.val λv w=>Yz v (x+y) (K+1) w):=
 (bj c e I).mono λ_ _ h=>h.impG λv u q=>U5 q (ON c.lt e.lt)
theorem oR{a b:SV}{x y:Int}{K:Nat}{w:YM}(c:Sx a x K w)(e:Sx b y K w)(f:K+1<=68719476736):Ca 233 #[a.val,b.val] w (K4 w SV.val λv w=>Yz v (x-y) (K+1) w):=
 (Ih c e I).mono λ_ _ h=>h.impG λv u q=>U5 q (PB c.lt e.lt)
theorem S5(j:Nf a p K1 w)(k:Nf b q K2 w)(l:2<=K1/\2<=K2/\K1+K2<=68719476000):
 Ca 243 #[a.val,b.val] w (K4 w RV.val λr w=>Kn r (p+q) (K1+K2+1) w):=by
 refine uf func243 rfl<|ZR<|ZC (λf c h=>Gb (j.below c) (k.below c) I) λt=>ZC (λf c h=>OJ h.2.1.i h.2.2.1.i I) λs=>ZC (λf c h=>Y9 h.2.i (h.1.2.2.2.i.mono I) (Vu p q) I) λr=>ZV (RV.val r) (λf c h=>⟨r,rfl,c,λe g k2=>(h e g k2).2.cast Jm⟩)
theorem Aj(j:Nf a p K1 w)(k:Nf b q K2 w)(l:2<=K1/\2<=K2/\K1+K2<=68719476000):
 Ca 180 #[a.val,b.val] w (K4 w RV.val λr w=>Kn r (p-q) (K1+K2+1) w):=by
 refine uf func180 rfl<|ZR<|ZC (λf c h=>Gb (j.below c) (k.below c) I) λt=>ZC (λf c h=>oR h.2.1.i h.2.2.1.i I) λs=>ZC (λf c h=>Y9 h.2.i (h.1.2.2.2.i.mono I) (Vu p q) I) λr=>ZV (RV.val r) (λf c h=>⟨r,rfl,c,λe g k2=>(h e g k2).2.cast PH⟩)
theorem nW(k:Nf a p K1 w)(l:Nf b q K2 w)(m:2<=K1/\2<=K2/\K1+K2<=68719476000):
 Ca 300 #[a.val,b.val] w (K4 w RV.val λr w=>Kn r ((p+q)/2) (K1+K2+1) w):=by
 have f:(p.den:Int)*q.den+p.den*q.den≠0:=by have:=Vu p q;omega
 refine uf func300 rfl<|ZR<|ZC (λe c h=>Gb (k.below c) (l.below c) I) λt=>ZC (λe c h=>OJ h.2.1.i h.2.2.1.i I) λs=>ZC (λe c h=>OJ h.1.2.2.2.i h.1.2.2.2.i I) λd=>ZC (λe c h=>Y9 h.1.2.i h.2.i f I) λr=>ZV (RV.val r) (λe c h=>⟨r,rfl,c,λg j k2=>(h g j k2).2.cast NO⟩)
theorem Pi(j:Nf a p K1 w)(k:Nf b q K2 w)(l:2<=K1/\2<=K2/\K1+K2<=68719476000):
 Ca 181 #[a.val,b.val] w (K4 w RV.val λr w=>Kn r (p*q) (K1+K2) w):=by
 refine uf func181 rfl<|ZR<|ZC (λe c h=>Lj (j.below c) I) λx=>ZC (λe c h=>Lj (k.below c) I) λy=>ZC (λe c h=>U6 h.1.2.1.i h.2.1.i I) λn=>ZC (λe c h=>U6 h.1.1.2.2.i h.1.2.2.i I) λd=>ZC (λe c h=>Y9 h.1.2.i h.2.i (Vu p q) I) λr=>ZV (RV.val r) (λe c h=>⟨r,rfl,c,λf g k2=>(h f g k2).2.cast RL⟩)
def EU(r:RV)(p q:Rat)(K:Nat)(w:YM):Prop:=if q=0 then r=Ou else Kn r (p/q) K w
def de(q:Rat)(r:RV):YI:= .tuple #[r.val,.int .i64 (if q=0 then 9 else 0)]
theorem Su(p q:Rat):(p.den:Int)*q.num=0↔q=0:=by
 have:=p.den_nz;constructor
 .intro h;rcases Int.mul_eq_zero.1 h with h|h
  .omega
  .exact Rat.num_eq_zero.1 h
 .intro h;rw[h];simp
theorem em{r:RV}{p q:Rat}{K:Nat}{w:YM}(h:B7 r (p.num*q.den) (p.den*q.num) K w):EU r p q K w:=by
 unfold EU
 by_cases e:q=0
 .rw[YS e];unfold B7 at h;rw[YS ((Su p q).2 e)]at h;exact h
 .rw[YT e];exact(h.n λk=>e ((Su p q).1 k)).cast RO
theorem HY(k:Nf a p K1 w)(m:Nf b q K2 w)(o:2<=K1/\2<=K2/\K1+K2<=68719476000):
 Ca 207 #[a.val,b.val] w (K4 w (de q) λr w=>EU r p q (K1+K2) w):=by
 have l:J5 (p.den*q.num)=if q=0 then 9 else 0:=by
  by_cases h:q=0
  .rw[YS h,E7 ((Su p q).2 h)]
  .rw[YT h,J4 (λe=>h ((Su p q).1 e))]
 refine uf func207 rfl<|ZR<|ZC (λf c h=>Lj (k.below c) I) λx=>ZC (λf c h=>Lj (m.below c) I) λy=>ZC (λf c h=>U6 h.1.2.1.i h.2.2.i I) λn=>ZC (λf c h=>U6 h.1.1.2.2.i h.1.2.1.i I) λd=>ZC (λf c h=>Io h.1.2.i h.2.i I) λr=>ZV (.tuple #[r.val,.int .i64 (J5 (p.den*q.num))]) (λf c h=>⟨r,by unfold de;rw[l],c,λg j k2=>em (h g j k2).2⟩)
end
def Kd(t:XX)(x:YI)(k:Int):Sem Next:=Instr.indexAt t x (.int .i64 k) >>= λv=>pure (.value v)
def Ke(t:XX)(p:XR):Sem Next:=Instr.loadAt t (.pointer (some p)) >>= λv=>pure (.value v)
theorem Uh{P:YH}{t elem:XX}{ad:XR}{n c k:Nat}{w:YM}(f:P.underlying t=some (.slice elem))(b:Mq P elem=some 1)(g:k<n):
 (Kd t (.slice (some ad) n c) k).run P w= .ok (.value (.pointer (some (ad.add k)))) w:=by
 have e:0<=(k:Int)/\(k:Int)<(n:Int):=I
 simp only[Kd,Instr.indexAt,asIntOf,AF,AH,AB,run_underlying f,Lb b,YS e,BU,DB]
theorem Kh{P:YH}{t:XX}{p:XR}{v:YI}{w:YM}(b:Nx P t=some false)(c:w.cell? p=some v):(Ke t p).run P w= .ok (.value v) w:=Wx b c
theorem aH{k n:Nat}(h:k<n)(b:n<=9223372036854775807):XQ.wrap ((k:Int)+1)=((k+1:Nat):Int):=by
 rw[AM _ I];omega
section
variable{a b:RV}{p q:Rat}{K K1 K2:Nat}{w:YM}
theorem Q_(q:Rat):GA q.num q.den=q.floor:=by
 have h:=q.den_nz;unfold GA;rw[YT I,Rat.floor_def,BJ _ I]
theorem PU(q:Rat):(q.den:Int).natAbs=q.den:=I
theorem H4{s:Bool}{w:YM}:Ca 311 #[.bool s] w (K4 w (λg:Nat=> .func (.func 345) #[] #[Kp g]) λg u=>K8 u g [.bool s]):=by
 refine uf func311 rfl<|ZS 0<|uk (B0 4 (.bool s)) (Kp) (λg u=>K8 u g [.bool s]/\w.heap.size<=g/\g<u.heap.size) O (λj c h=>I9 c.size) λg=>ZR<|ZV (.func (.func 345) #[] #[Kp g]) (λj c h=>⟨g,rfl,c,λe f k2=>((h e f k2).2).1⟩)
theorem Dg{s:Bool}{d:DV}{k K g:Nat}{w:YM}(o:K8 w g [.bool s])(x:F6 d k K w)(u:K<=274877906944):Ca 345 #[d.val,Kp g] w (K4 w SV.val λv w=>Yz v (zi s k) K w):=by
 refine uf func345 rfl<|uo O (stop:=1000) 3 _<|ZS 0<|ZA (Ke 4 ⟨g,0,none⟩) (.bool s) (λj e h=>Kh O (L5 e (by obtain⟨t,h⟩:=o;exact LG h)))<|ZC (λj e h=>Rg (a:=⟨s,d.A,d.n,d.c,d.l⟩) ((x.below e).sv s) u) λv=>ZV (v.val) (λj e h=>⟨v,rfl,e,λf m k2=>(h f m k2).2⟩)
def oK(q:DV×DV):YI:= .tuple #[q.1.val,q.2.val,.int .i64 0]
theorem aq{a b:DV}{x y K:Nat}{w:YM}(e:F6 a x K w)(c:F6 b y K w)(s:y≠0)(G:K<=274877906944):
 Ca 275 #[a.val,b.val] w (K4 w oK λq w=>Zz q.1 (x/y) K w/\Zz q.2 (x%y) K w):=by
 refine(Cc w e.1 c.1 (by have:=e.2.2;omega) (by have:=c.2.2;omega)).mono λ_ _ h=> ?_
 obtain⟨A1,E,B,z,A2,v,c2,A,rfl,N1,g,N2,j,o,t,l⟩:=h;rw[e.2.1,c.2.1]at g;rw[e.2.1,c.2.1,Y7 s]at j;have D:=c.lt;refine⟨(⟨A1,E,B,z⟩,⟨A2,v,c2,A⟩),by rw[c.2.1,Ce s];rfl,l,λF m u=>⟨⟨⟨(o.mid m u).toIn,g,?_⟩,N1⟩,⟨⟨(t.mid m u).toIn,j,?_⟩,N2⟩⟩⟩
 .have f:=N1.length_le (k:=K) (by rw[g];exact BD (CC _ _) e.lt);rw[o.len]at f;exact f
 .have f:=N2.length_le (k:=K) (by rw[j];exact CW (BX _ I) D);rw[t.len]at f;exact f
theorem np{s:Bool}{x:Int}(h:s=decide (x<0)):zi s x.natAbs=x:=by rw[h];exact md x rfl
theorem m_{a b:SV}{x y:Int}{w:YM}(G:Sx a x K1 w)(J:Sx b y K2 w)(M:0<y)(Z:K1<=17179869184/\K2<=17179869184):
 Ca 278 #[a.val,b.val] w (K4 w (λq:SV×SV=> .tuple #[q.1.val,q.2.val,.int .i64 0]) λq w=>Yz q.1 (GA x y) (K1+1) w):=by
 have z:(GA x y).natAbs<pw (K1+1):=by
  have L:=G.lt;have N:=qr (show K1<K1+1 by omega);have P:(GA x y).natAbs<=x.natAbs:=by
   unfold GA;rw[YT I,BJ _ I];exact Int.natAbs_ediv_le_natAbs x y
  omega
 refine uf func278 rfl<|ZR<|ZC (λe c h=>Rg (G.below c) I) λu=>ZC (λe c h=>Rg (J.below c) I) λv=>um (p:=v.s=false/\y.natAbs=y) (λe c h=>⟨by rw[h.2.2.2.1];exact YV I,by omega⟩) O λj=>um (p:=u.s=decide (x<0)) (λe c h=>h.1.2.2.2.1) O (λF=> ?_)
 have E:y.natAbs≠0:=I
 have l:=nN u.s false x.natAbs y.natAbs E;have D:zi u.s x.natAbs=x:=np F;rw[D,show zi false y.natAbs=y by simp[zi];omega]at l;refine ZC (λe c h=>aq (K:=K1+K2) ((h.1.2).i.mono (Nat.le_add_right _ _)).d ((h.2).i.mono (Nat.le_add_left _ _)).d I I) λq=>uu false O<|ZS 6 ?_
 cases A:u.s
 .refine ZT 40 (.bool (u.s !=v.s)) (.bool false) (by rw[A,j.1];rfl)<|ZI false<|ZC (λe c h=>H4 (s:=(u.s !=v.s))) λf=>ZC (λe c h=>Dg (k:=x.natAbs/y.natAbs) h.2 (h.1.2).1.1 I) λo=>ZC (λe c h=>U6 (h.2).i (h.1.1.1.2).i I) λm=>ZC (λe c h=>Ih (h.1.1.1.1.1.2).i (h.2).i I) λr=>ZV (.tuple #[o.val,r.val,.int .i64 0]) (λe c h=>⟨(o,r),rfl,c,λg B k2=>U5 (((h g B k2).1.1.2).cast (by rw[j.1];exact(l.2 (.inl (by rw[A];rfl))).1.symm)) z⟩)
 refine ZT 40 (.bool (u.s !=v.s)) (.bool true) (by rw[A,j.1];rfl)<|um (p:=0<q.2.n↔0<x.natAbs%y.natAbs) (λe c h=>(h.2).2.pos) O (λwI=> ?_)
 by_cases H:0<x.natAbs%y.natAbs
 .refine YJ ((q.2.n:Int)>0) (by have:=wI.2 H;omega)<|ZC (λe c h=>IA (k:=1) Zd) λt=>ZC (λe c h=>d4 (h.1.2).1.1 (h.2).1.1 I) λp=>ZC (λe c h=>H4 (s:=(u.s !=v.s))) λf=>ZC (λe c h=>Dg (k:=x.natAbs/y.natAbs+1) h.2 (h.1.2).1.1 I) λo=>ZC (λe c h=>U6 (h.2).i (h.1.1.1.1.1.2).i I) λm=>ZC (λe c h=>Ih (h.1.1.1.1.1.1.1.2).i (h.2).i I) λr=>ZV (.tuple #[o.val,r.val,.int .i64 0]) (λe c h=>⟨(o,r),rfl,c,λg B k2=>U5 (((h g B k2).1.1.2).cast (by rw[A,j.1,(l.1 ⟨by rw[A];rfl,by omega⟩).1];simp[zi];omega)) z⟩)
 .refine YK ((q.2.n:Int)>0) (by have:=λh=>H (wI.1 h);omega)<|ZC (λe c h=>H4 (s:=(u.s !=v.s))) λf=>ZC (λe c h=>Dg (k:=x.natAbs/y.natAbs) h.2 (h.1.2).1.1 I) λo=>ZC (λe c h=>U6 (h.2).i (h.1.1.1.2).i I) λm=>ZC (λe c h=>Ih (h.1.1.1.1.1.2).i (h.2).i I) λr=>ZV (.tuple #[o.val,r.val,.int .i64 0]) (λe c h=>⟨(o,r),rfl,c,λg B k2=>U5 (((h g B k2).1.1.2).cast (by rw[A,j.1];exact((l.2 (.inr I)).1.trans (by rw[A])).symm)) z⟩)
theorem T1(k:Nf a q K w)(f:2<=K/\K<=17179869184):
 Ca 245 #[a.val] w (K4 w SV.val λv w=>Yz v q.floor (K+1) w):=by
 refine uf func245 rfl<|ZR<|ZC (λg c h=>Lj (k.below c) I) λx=>ZC (λg c h=>m_ h.2.1.i h.2.2.i (by have:=q.den_pos;omega) ⟨f.2,f.2⟩) λd=>ZV (SV.val d.1) (λg c h=>⟨d.1,rfl,c,λe j k2=>(h e j k2).2.cast (Q_ q)⟩)
def Bl(q:Rat):Nat:=max (A_ q.num.natAbs) (A_ q.den)
theorem nF(a b:Nat):(if ((b:Int)>(a:Int))then(b:Int)else(a:Int))=((max a b:Nat):Int):=by
 split<;>omega
theorem Sw(f:Nf a q K w)(g:2<=K/\K<=68719476736):
 Ca 132 #[a.val] w (CU w (.int .i64 (Bl q:Nat))):=by
 exact uf func132 rfl<|ZR<|ZC (λe c h=>Lj (f.below c) g) λx=>ZC (λe c h=>ES h.2.1.i I) λu=>ZC (λe c h=>ES h.1.2.2.i I) λu=>ZX (.int .i64 (if ((A_ (q.den:Int).natAbs:Nat):Int)>(A_ q.num.natAbs:Nat)then((A_ (q.den:Int).natAbs:Nat):Int)else(A_ q.num.natAbs:Nat))) (by rw[PU,nF];rfl)
end
theorem uB{P:YH}{f:XU}{fn:Func}{args:Array YI}{W w:YM}{R:XS->YM->Prop}
 (p:P.funcs[f]? =some fn) (v:fn.body.isSome=true) (o:Below W.heap.size W w)
 (h:K0 P [] W (bodyPost P fn R) (λu=>w.heap.size<=u.heap.size/\∀b,W.heap.size<=b->b<w.heap.size->u.heap[b]? =w.heap[b]?) (Rs fn args)):XW P f args w R:=by
 obtain⟨c,g⟩:=AI.1 v;replace h:=h.get;simp only[Qq,Rs,g,CJ]at h;refine calls_of_wp p g (wpIn_wide.1 (h ?_ (λ_=>0) _ w ?_))
 .refine⟨λx m k e=> ?_,λj cs t=>by cases t⟩;simp only[AZ,DJ,List.mem_replicate]at m;rcases m with ⟨q,_,rfl⟩|⟨_,rfl⟩<;>simp[AV.ids]at e
 .refine⟨?_,rfl,o,λk cs e=>(by cases e),λk z e=>(by cases e),λA l=>⟨l.size,λb s y=>l.heap b s y (λk e=>by cases e)⟩⟩;simp[CR,AV.conc]
section
variable{P:YH}{Δ:List XY}{W:YM}{Q:Exit->Act->YM->Prop}{Φ Φ':YM->Prop}{c:Mm}
theorem ur [Rnd]{L:List Nat}{G:YM->Prop}(s:Sem Next)
 (U:∀w,Below W.heap.size W w->Φ w->∃t,s.run P w= .ok .skip t/\Ei L w t/\∀g,t.heap.size<=g.heap.size->(∀b∈L,g.heap[b]? =t.heap[b]?)->G g) (N:Ub W L Φ) (A:Tg L Φ G Φ')
 (wI:An c=true) (f:Ox c=some s) (h:K0 P Δ W Q Φ' (Lp (.v undef) c)):K0 P Δ W Q Φ c:=by
 obtain⟨M,k,σ⟩:=c;replace h:=h.get;refine⟨?_⟩;replace f:=(Nk f).1;unfold Pg at f;split at f
 .rename_i J o j;split at f
  .cases f
  .cases f
  .rename_i B T;split at f
   .rename_i D;simp only[AL]at D;injection f with f;subst f;unfold Nc at j;simp only at j;split at j
    .rename_i p i l;cases m:p[i]? with
     |none=>rw[m]at j;cases j
     | some E=>
      rw[m]at j;simp only[BE,AW,AX]at j;obtain⟨rfl,rfl⟩:=j;intro F β a w y;show wpOpsIn Fe 0 P p (post P Q k) (i::l) a w;rw[wpOpsIn_cons];unfold wpOpIn;simp only[m,M3 y,D.1,if_true];have z:∀x∈E.op.operands,a.eval x=σ.rho x:=λx R=>by
       rw[y.eval,uF];· rfl
       exact AN.1 D.2 x (by simpa using R)
      obtain⟨t,u,H,X⟩:=U w y.bel y.phi;refine Zy ((congrArg (λs=>s.run P w) (execOp_congr E (λcs b e=>B cs b e) z)).trans u) Zs ?_;simp only[Qq,Lp,m,CK]at h;exact h (F.put _ (by intro k K;simp[AV.ids]at K)) β _ t ((y.mut N H (λg S k2=>X g S λb Z=>k2 b (.inl Z)) A).put E.dst (.v undef))
    .cases wI
    .cases j
   .cases f
 .cases f
end
section
variable{P:YH}{Δ:List XY}{W:YM}{Q:Exit->Act->YM->Prop}{Φ Φ':YM->Prop}{c:Mm}
theorem uP [Rnd](b:Bool)(e:T7 c=some b)(g:b=true->K0 P Δ W Q Φ (V6 true c))(f:b=false->K0 P Δ W Q Φ (V6 false c)):K0 P Δ W Q Φ c:=by
 cases b
 .exact uu false e (f rfl)
 .exact uu true e (g rfl)
theorem vf [Rnd](t:Nat)(b:Bool)(e:c.st.tmps[t]? =some (.v (.bool b)))(g:b=true->K0 P Δ W Q Φ (Ky t (.bool true) c))(f:b=false->K0 P Δ W Q Φ (Ky t (.bool false) c)):K0 P Δ W Q Φ c:=by
 cases b
 .exact uh t _ _ e rfl (f rfl)
 .exact uh t _ _ e rfl (g rfl)
def qQ(c:Mm):Mm:=(V5 c).getD c
theorem uR [Rnd](b:(V5 c).isSome=true)(h:K0 P Δ W Q Φ (qQ c)):K0 P Δ W Q Φ c:=by
 unfold qQ at h;cases e:V5 c with
 |none=>rw[e]at b;cases b
 |some c'=>rw[e]at h;exact vF e h
def Ga(k:Nat)(b:Nat->Option (List AV)):Nat->Option (List AV):=λj=>
 if EA j k then none else match b j with
  |some cs=>if cs.all AV.isV then some cs else none
  |none=>none
def FY(b:Nat->Option (List AV))(g:Nat->YI):List AV->Nat->List AV
 | [],_=>[]
 |x::l,t=>(if x.ids.all (λi=>(b i).isSome)then x else .v (g t))::FY b g l (t+1)
def eP(k:Nat)(g:Nat->YI)(c:Mm):Mm:=⟨c.foc,c.k,⟨FY (Ga k c.st.box) g c.st.tmps 0,Ga k c.st.box⟩⟩
theorem E5(b:Nat->Option (List AV))(g:Nat->YI):∀(l:List AV) (t j:Nat),(FY b g l t)[j]? =(l[j]?).map λx=>if x.ids.all (λi=>(b i).isSome)then x else .v (g (t+j))
 | [],t,j=>by simp[FY]
 |x::l,t,0=>by simp[FY]
 |x::l,t,j+1=>by
  simp only[FY,CY];rw[E5 b g l (t+1) j,show t+1+j=t+(j+1) by omega]
theorem R6{k j:Nat}{b:Nat->Option (List AV)}{cs:List AV}(h:Ga k b j=some cs):b j=some cs/\cs.all AV.isV=true:=by
 unfold Ga at h;split at h
 .cases h
 .split at h
  .rename_i f g;split at h
   .rename_i e;injection h with h;subst h;exact⟨g,e⟩
   .cases h
  .cases h
def SO(c:Mm):Bool:=match c.foc with| .code _=>true|_=>false
theorem uJ [Rnd](k:Nat)(o:SO c=true)(h:∀g,K0 P Δ W Q Φ (eP k g c)):K0 P Δ W Q Φ c:=by
 obtain⟨F,L,σ⟩:=c;refine⟨?_⟩;unfold SO at o;simp only at o;split at o
 .rename_i x;intro G β a w f;have v:=(h λt=>a.tmps.getD t undef).get;simp only[Qq,eP]at v;refine v ?_ β a w ?_
  .refine⟨λx p i hi=> ?_,λj cs m x p i hi=> ?_⟩
   .obtain⟨t,z⟩:=List.mem_iff_getElem?.1 p;rw[E5]at z;obtain⟨y,M,e⟩:=BT.1 z;split at e
    .rename_i l;subst e;exact AN.1 l i hi
    .subst e;simp[AV.ids]at hi
   .have:=AN.1 (R6 m).2 x p;cases x<;>first|(simp[AV.ids]at hi;done)|cases this
  .have A:a.tmps.toList.length=σ.tmps.length:=by rw[f.tmps,DT]
   refine⟨CS λj=> ?_,f.defers,f.bel,λk cs D=>f.box k cs (R6 D).1,λi j hi m e=> ?_,λJ u=>f.keep J ⟨u.size,λb B K H=>u.heap b B K λi hi=> ?_⟩⟩
   .rw[DL,E5,f.tmps,DL];cases m:σ.tmps[j]? with
    |none=>rfl
    | some x=>
     simp only[BE,BF];split
     .rfl
     .congr 1;have:=f.eval (.tmp j);simp only[Act.eval,AS.eval,CQ,m,CJ]at this;exact this.symm
   .obtain⟨E,s⟩:=AI.1 hi;obtain⟨c2,Z⟩:=AI.1 m;exact f.inj i j (by rw[(R6 s).1];rfl) (by rw[(R6 Z).1];rfl) e
   .obtain⟨E,s⟩:=AI.1 hi;exact H i (by rw[(R6 s).1];rfl)
 .cases o
end
section
variable{P:YH}{Δ:List XY}{W:YM}{Q:Exit->Act->YM->Prop}{Φ Φ':YM->Prop}{c:Mm}
def TZ(P:YH)(c:Mm):Option XY:=
 match Nc c with
 |some (b,o)=>match o.op with
  | .defer k=>if Kx b o c.st&&c.st.plain o.op then jE P (resolve c.st.rho k o.type)else none
  |_=>none
 |none=>none
theorem vw(d:XY)(D:An c=true)(j:TZ P c=some d)(h:K0 P (d::Δ) W Q Φ (Lp (.v undef) c)):K0 P Δ W Q Φ c:=by
 obtain⟨G,k,σ⟩:=c;replace h:=h.get;refine⟨?_⟩;unfold TZ at j;split at j
 .rename_i E o f;split at j
  .rename_i J u;split at j
   .rename_i z;simp only[AL]at z;unfold Nc at f;simp only at f;split at f
    .rename_i p i l;cases g:p[i]? with
     |none=>rw[g]at f;cases f
     | some s=>
      rw[g]at f;simp only[BE,AW,AX]at f;obtain⟨rfl,rfl⟩:=f;intro B β a w m;show wpOpsIn Fe 0 P p (post P Q k) (i::l) a w;rw[wpOpsIn_cons];unfold wpOpIn;simp only[g,M3 m,z.1,if_true];have y:∀x∈s.op.operands,a.eval x=σ.rho x:=λx H=>by
       rw[m.eval,uF];· rfl
       exact AN.1 z.2 x (by simpa using H)
      have t:(execOp σ.rho s).run P w= .ok (.defer d) w:=by
       unfold execOp;simp only[u,AF,TN j w,AB,AH]
      refine⟨λ_ _=>trivial,?_⟩;show s.uponIn Fe 0 P a _ _ ((execOp a.eval s).run P w);rw[execOp_congr s (λcs b e=>by rw[u]at e;cases e) y,t];simp only[Qq,Lp,g,CK]at h;have A:Ok (d::Δ) W β σ Φ {a with defers:=d::a.defers} w:=⟨m.tmps,congrArg (d::·) m.defers,m.bel,m.box,m.inj,m.keep⟩
      exact h (B.put _ (by intro k F;simp[AV.ids]at F)) β _ w (A.put s.dst (.v undef))
    .cases D
    .cases f
   .cases j
  .cases j
 .cases j
end
theorem Kc{P:YH}{t elem:XX}{g n c k s:Nat}{w:YM}(f:P.underlying t=some (.slice elem))(b:Mq P elem=some s)(h:k<n):
 (Kd t (.slice (some ⟨g,0,none⟩) n c) k).run P w= .ok (.value (.pointer (some ⟨g,k*s,none⟩))) w:=by
 have e:0<=(k:Int)/\(k:Int)<(n:Int):=I
 simp only[Kd,Instr.indexAt,asIntOf,AF,AH,AB,run_underlying f,Lb b,YS e,BU,Addr.add_mid,BF]
theorem Ka{P:YH}{t:XX}{g off:Nat}{vs:List YI}{w:YM}(e:Nx P t=some true)(j:Mq P t=some vs.length)(h:w.rangeAt g off vs):
 (Ke t ⟨g,off,none⟩).run P w= .ok (.value (.agg vs.toArray)) w:=by
 have b:∀d:TypeDesc,P.underlying t=some d->d.isRow=true->(loadVar t ⟨g,off,none⟩).run P w= .ok (.agg vs.toArray) w:=λd c f=>
  run_loadVar_mid w g off t vs d h c f j
 have k:(loadVar t ⟨g,off,none⟩).run P w= .ok (.agg vs.toArray) w:=by
  unfold Nx at e;split at e
  .rename_i c;exact b _ c rfl
  .rename_i c;exact b _ c rfl
  .cases e
  .cases e
 simp only[Ke,AF,Instr.loadAt,Instr.sureAddr,AH,AB,k]
def RV.cl(r:RV):List YI:=[.bool r.a.s,.slice r.a.A r.a.n r.a.c,.bool r.b.s,.slice r.b.A r.b.n r.b.c]
def nP(w:YM)(g:Nat)(L:List RV):Prop:=∀k r,L[k]? =some r->w.rangeAt g (k*4) r.cl
theorem se:∀(L:List RV) (k j:Nat) (r:RV) (v:YI),L[k]? =some r->r.cl[j]? =some v->(L.flatMap RV.cl)[k*4+j]? =some v:=by
 intro L;induction L with
 |nil=>intro k j r v h;cases h
 | cons x L c=>
  intro k j r v h b;have e:j<4:=(AR.1 b).1;rw[BG];cases k with
  |zero=>
   obtain rfl:x=r:=by simpa using h
   rw[BL (by show 0*4+j<4;omega),DK,BF];exact b
  |succ k=>
   rw[BK (by show 4<=(k+1)*4+j;omega),show(k+1)*4+j-x.cl.length=k*4+j by show(k+1)*4+j-4=_;omega];exact c k j r v (by simpa using h) b
theorem Hx{t:XX}{g:Nat}{L:List RV}{w:YM}(h:Kw t (L.flatMap RV.cl).toArray g w):nP w g L:=by
 intro k r c j v b;unfold Kw at h;simp only[BM,h,BH,AP,if_false];rw[CL];exact se L k j r v c b
theorem L9{P:YH}{t elem:XX}{ad:XR}{n c k s:Nat}{w:YM}(f:P.underlying t=some (.slice elem))(b:Mq P elem=some s)(g:k<n):
 (Kd t (.slice (some ad) n c) k).run P w= .ok (.value (.pointer (some (ad.add (k*s))))) w:=by
 have e:0<=(k:Int)/\(k:Int)<(n:Int):=I
 simp only[Kd,Instr.indexAt,asIntOf,AF,AH,AB,run_underlying f,Lb b,YS e,BU]
theorem Mh{P:YH}{t:XX}{ad:XR}{vs:List YI}{w:YM}(b:Nx P t=some true)(f:Mq P t=some vs.length)(h:∀j v,vs[j]? =some v->w.cell? (ad.add j)=some v):
 (Ke t ad).run P w= .ok (.value (.agg vs.toArray)) w:=by
 have g:(loadCells ad vs.length).run P w= .ok vs.toArray w:=run_loadCells_list (P:=P) w ad vs h;have c:(isAgg t).run P w= .ok true w:=by
  unfold Nx at b;split at b
  .rename_i e;unfold isAgg;rw[AF,run_underlying e w];rfl
  .rename_i e;unfold isAgg;rw[AF,run_underlying e w];rfl
  .cases b
  .cases b
 simp only[Ke,Instr.loadAt,Instr.sureAddr,loadVar,AF,AH,AB,c,if_true,Lb f,g]
theorem F4{P:YH}{f:XU}{fn:Func}{args:Array YI}{W w:YM}{c:Code}{Q:Exit->Act->YM->Prop}(p:fn.body=some c)(m:Below W.heap.size W w)
 (h:K0 P [] W Q (λu=>w.heap.size<=u.heap.size/\∀b,W.heap.size<=b->b<w.heap.size->u.heap[b]? =w.heap[b]?) (Rs fn args)):
 c.wp P Q {tmps:=args++Array.replicate (fn.ntmps-args.size) undef,defers:=[]} w:=by
 replace h:=h.get;simp only[Qq,Rs,p,CJ]at h;refine wpIn_wide.1 (h ?_ (λ_=>0) _ w ?_)
 .refine⟨λx l k e=> ?_,λj cs s=>by cases s⟩;simp only[AZ,DJ,List.mem_replicate]at l;rcases l with ⟨q,_,rfl⟩|⟨_,rfl⟩<;>simp[AV.ids]at e
 .refine⟨?_,rfl,m,λk cs e=>(by cases e),λk v e=>(by cases e),λy g=>⟨g.size,λb o t=>g.heap b o t (λk e=>by cases e)⟩⟩;simp[CR,AV.conc]
theorem vv{P:YH}{f:XU}{fn:Func}{args:Array YI}{W w:YM}{R:XS->YM->Prop}
 (j:P.funcs[f]? =some fn) (k:fn.body.isSome=true) (g:Below W.heap.size W w)
 (h:K0 P [] W (bodyPostD P fn R) (λu=>w.heap.size<=u.heap.size/\∀b,W.heap.size<=b->b<w.heap.size->u.heap[b]? =w.heap[b]?) (Rs fn args)):XW P f args w R:=by
 obtain⟨c,e⟩:=AI.1 k;exact calls_of_wp_defers j e (F4 (f:=f) e g h)
theorem u0{P:YH}{f:XU}{fn:Func}{args:Array YI}{W w:YM}{u:FrameMode}{R:XS->YM->Prop}
 (l:P.funcs[f]? =some fn) (m:fn.body.isSome=true) (j:Below W.heap.size W w)
 (h:K0 P [] W (bodyPost P fn R) (λu=>w.heap.size<=u.heap.size/\∀b,W.heap.size<=b->b<w.heap.size->u.heap[b]? =w.heap[b]?) (Rs fn args)):CallsD P f args u w λe o k=>o=u/\R e k:=by
 obtain⟨c,g⟩:=AI.1 m;exact callsD_of_wp l g (F4 (f:=f) g j h)
def dD(fn:Func)(c:Mm):Option (Nat×XX):=
 match c.foc,c.k,fn.results.toList with
 | .out .ret,[],[.cell t ty]=>match c.st.tmps.getD t (.v undef)with
  | .v (.pointer (some ⟨g,0,none⟩))=>some (g,ty)
  |_=>none
 |_,_,_=>none
theorem wn{P:YH}{W:YM}{Φ:YM->Prop}{c:Mm}{fn:Func}{R:XS->YM->Prop}{s:Fn}{cap b:Array YI}{f:XU}{args:Array YI}(g:Nat)(ty:XX)
 (j:dD fn c=some (g,ty)) (hi:∀w,(invoke (.fn s cap) b).run P w= .ok (.enter f args) w)
 (h:∀w,Below W.heap.size W w->Φ w->CallsD P f args .returning w λe u o=>u= .returning/\∃x v,e= .returned x/\(loadVar ty ⟨g,0,none⟩).run P o= .ok v o/\R (.returned v) o):
 K0 P [⟨.fn s cap,b⟩] W (bodyPostD P fn R) Φ c:=by
 obtain⟨E,k,σ⟩:=c;refine⟨?_⟩;unfold dD at j;split at j
 .rename_i p z y;split at j
  .rename_i A;injection j with j;injection j with e1 e2;subst e1;subst e2;simp only at p z y A;subst p;subst z;intro F β a w m;show Leaves P fn a.tmps R a.defers .returning w;rw[m.defers];refine leaves_cons Zs (hi w) ((h w m.bel m.phi).mono λe H o D=> ?_);obtain⟨rfl,x,v,rfl,G,B⟩:=D;refine⟨v,?_,B⟩;rename_i _ t ty _ g;have l:a.tmps.getD t undef= .pointer (some ⟨g,0,none⟩):=by
    have:=m.eval (.tmp t);simp only[Act.eval,AS.eval,A,AV.conc]at this;exact this
   rw[Tk,AF,Array.mapM_eq_mapM_toList,Sem.run_map,y,List.mapM_cons,AF];simp only[Xz,l,asAddr,AF,AH,AB,G,List.mapM_nil]
   rfl
  .cases j
 .cases j
def My(t ty:XX)(x y:YI):Sem Next:=Builtin.append_ #[t,t] ty #[x,y] >>= λv=>pure (.value v)
def bl(A:YY):List Nat:=match A with|some p=>[p.block]|none=>[]
def Ya(P:YH)(e:XX):Option (YI×Nat×Nat):=(P.info? e).bind λi=>i.zero.map λz=>(z,i.size,i.bytes)
def K6(u:YM)(B:Nat)(elem:XX)(s:Nat)(A:YY)(n c:Nat)(xs:List YI):Prop:=u.ownsRow B elem s (.slice A n c) n xs
section
variable{P:YH}{w w' u:YM}{B s n c m cc:Nat}{A A2:YY}{xs ys:List YI}{t elem:XX}{bytes:Nat}{z:YI}
theorem uG:K6 u B elem s none 0 0 []:=⟨by simp,.inl ⟨rfl,rfl⟩⟩
theorem K6.len(h:K6 u B elem s A n c xs):xs.length=n*s:=h.1
theorem K6.blk(h:K6 u B elem s A n c xs):∀b∈bl A,B<=b/\∃cs ty own,u.heap[b]? =some (.cells cs ty own):=by
 intro b f;rcases h.2 with ⟨e,_⟩|⟨g,cap,j,e,l,k,_⟩
 .injection e with e _ _;subst e;cases f
 .injection e with e _ _;subst e;simp only[bl,AU]at f;subst f;exact⟨l,_,_,_,k⟩
theorem K6.lt(h:K6 u B elem s A n c xs):∀b∈bl A,B<=b/\b<u.heap.size:=λb f=>by
 obtain⟨g,_,_,_,e⟩:=h.blk b f;exact⟨g,(AE.1 e).1⟩
theorem K6.same(h:K6 u B elem s A n c xs)(e:∀b∈bl A,w.heap[b]? =u.heap[b]?):K6 w B elem s A n c xs:=by
 refine⟨h.1,?_⟩;rcases h.2 with f|⟨g,cap,k,f,o,l,j⟩
 .exact .inl f
 .refine .inr ⟨g,cap,k,f,o,?_,j⟩;injection f with f _ _;subst f;exact(e g (by simp[bl])).trans l
theorem K6.left{L:List Nat}(h:K6 u B elem s A n c xs)(e:∀b,b∉L->u.heap[b]? =w.heap[b]?)(g:∀b∈bl A,b∉L):K6 w B elem s A n c xs:=h.same λb f=>(e b (g b f)).symm
theorem K6.rebase{B':Nat}(h:K6 u B elem s A n c xs)(k:∀b∈bl A,B'<=b):K6 u B' elem s A n c xs:=by
 refine⟨h.1,?_⟩;rcases h.2 with e|⟨g,cap,j,e,_,f⟩
 .exact .inl e
 .refine .inr ⟨g,cap,j,e,?_,f⟩;injection e with e _ _;subst e;exact k g (by simp[bl])
theorem K6.cells(h:K6 u B elem s A n c xs)(D:0<n):∃g,A=some ⟨g,0,none⟩/\∀(j:Nat) (v:YI),xs[j]? =some v->u.cell? ⟨g,j,none⟩=some v:=by
 rcases h.2 with ⟨_,e⟩|⟨g,cap,f,e,p,k,x,y,o,l⟩
 .omega
 .injection e with e _ _;refine⟨g,e,λj v b=> ?_⟩;rw[<-l,BQ]at b;simp only[BM,k,BH,AP,if_false];split at b
  .simpa using b
  .cases b
theorem K6.reads(h:K6 u B elem s A n c xs):Mt u u.heap.size s A n xs:=by
 refine⟨h.1,λk=> ?_⟩;obtain⟨g,b,f⟩:=h.cells k;refine⟨_,b,?_,λj v e=>by rw[Addr.add_mid,BF];exact f j v e⟩;subst b;exact(h.lt g (by simp[bl])).2
theorem Mc{g:Nat}{cells:Array YI}(h:Kw elem cells g w)(b:cells.size=n*s):Mt w w.heap.size s (some ⟨g,0,none⟩) n cells.toList:=by
 refine⟨by simpa using b,λ_=>⟨_,rfl,(AE.1 h).1,λj u e=> ?_⟩⟩;rw[Addr.add_mid,BF];unfold Kw at h;simp only[BM,h,BH,AP,if_false];simpa using e
theorem K6.lit{g:Nat}{cells:Array YI}(h:Kw elem cells g w)(b:cells.size=n*s)(e:B<=g)(f:n<=maxLen):K6 w B elem s (some ⟨g,0,none⟩) n n cells.toList:=by
 refine⟨by simpa using b,.inr ⟨g,n,cells,rfl,e,h,AA _,f,b,?_⟩⟩;rw[BS Zp]
theorem M2(U:P.underlying t=some (.slice elem))(hi:Ya P elem=some (z,s,bytes))(F:z.cells.size=s)(X:0<s)(h:K6 w B elem s A n c xs)(hB:B<=w.heap.size)(Z:Mt w w.heap.size s A2 m ys)(wJ:∀v∈ys,v.oneCell'=true)
 (S:n+m<=100000000) (l:bytes<=10000):
 Mv P w (bl A) (λy:YZ=> .slice y.1 (n+m) y.2) (λy v=>K6 v B elem s y.1 (n+m) y.2 (xs++ys)) (My t t (.slice A n c) (.slice A2 m cc)):=by
 unfold Ya at hi;obtain⟨i,E,K⟩:=Option.bind_eq_some_iff.1 hi;obtain⟨z',N,o⟩:=BT.1 K;simp only[AX]at o;obtain⟨rfl,wI,H⟩:=o;have f:(n+m)*bytes<=140737488355328:=AC (CG S l) Zd;obtain⟨R,w',x,L,D,h4⟩:=Xx (P:=P) w B t t elem i z' s bytes U E N wI H F X _ n _ h w.heap.size A2 m cc ys Z wJ (by simp only[maxLen];omega) f hB;obtain⟨A',c',rfl⟩:∃A' c',R= .slice A' (n+m) c':=by
  rcases L.2 with ⟨J,W⟩|⟨g,cap,M,J,_⟩
  .exact⟨none,0,by rw[J,W]⟩
  .exact⟨_,_,J⟩
 have j:K6 w' B elem s A' (n+m) c' (xs++ys):=L;refine⟨(A',c'),w',by simp only[My,AF,x,AB,AH],⟨D.os,D.tape,D.output,D.size,λk Q T=>D.block k Q (λe=>T ?_)⟩,λY k1 k2=>j.same λb l=>k2 b ?_⟩
 .cases A with
  |none=>simp[CH]at e
  |some p=>simp[CH]at e;simp[bl,e]
 .have G:=(j.lt b l).2;cases A' with
  |none=>cases l
  | some p'=>
   simp only[bl,AU]at l;subst l;rcases h4 with e|e
   .left;cases A with
    |none=>simp[CH]at e
    |some p=>simp[CH]at e;simp[bl,e]
   .right;simp[CH]at e;exact⟨by omega,G⟩
theorem K6.ty(h:K6 u B elem s A n c xs):∀b∈bl A,∃f own,u.heap[b]? =some (.cells f elem own):=by
 intro b j;rcases h.2 with ⟨e,_⟩|⟨g,cap,f,e,l,k,_⟩
 .injection e with e _ _;subst e;cases j
 .injection e with e _ _;subst e;simp only[bl,AU]at j;subst j;exact⟨_,_,k⟩
end
def Pu(x:Int):Int:=if 1099511627776<x then 1099511627776 else if x< -1099511627776 then -1099511627776 else x
def pt(a b:Int):YI:= .agg #[.int .i64 a,.int .i64 b]
def Xj(t:XX)(x y:XZ)(u v:YI):Sem Next:=(do eqGuard .eql t x y u v;binOp .eql t u v) >>= λv=>pure (.value v)
theorem Oc{x y:XZ}{a b c d:Int}{w:YM}:(Xj 74 x y (pt a b) (pt c d)).run XM w= .ok (.value (.bool (a==c&&b==d))) w:=by
 have E:XM.underlying 74=some (.struct (XM.fieldsOf 74)):=O
 have R:XM.stoodInHeld 74=false:=O
 have P:XM.eqGuardType XM.depth 74=false:=O
 have g:(XM.fieldsOf 74).toList.map (λf=>(f.name,f.offset,f.type))=[("X",0,3),("Y",1,3)]:=O
 have s:XM.underlying 3=some (.int .i64):=O
 have T:Mq XM 3=some 1:=O
 have W:Nx XM 3=some false:=O
 obtain⟨L,U,A,z,g⟩:=DF.1 g;obtain⟨K,r1,k,t,g⟩:=DF.1 g;obtain rfl:r1=[]:=List.map_eq_nil_iff.1 g;subst k;simp only[AX]at z t;obtain⟨F,G,Z⟩:=z;obtain⟨J,D,M⟩:=t;have j:∀(xs:Array YI) (off:Nat) (v:YI),xs[off]? =some v->(part 3 xs off).run XM w= .ok v w:=by
  intro xs off v Q;have l:(isAgg 3).run XM w= .ok false w:=by unfold isAgg;rw[AF,run_underlying s w];rfl
  simp only[part,AF,l,AB,AP,if_false,Q,AH]
 have m:∀a b:Int,(Op.equalIn 9999 3 (.int .i64 a) (.int .i64 b)).run XM w= .ok (a==b) w:=λa b=>run_equalIn_int w 9998 _ .i64 .i64 a b s
 have S:(part 3 #[.int .i64 a,.int .i64 b] 0).run XM w= .ok (.int .i64 a) w:=j _ 0 _ rfl;have p:(part 3 #[.int .i64 a,.int .i64 b] 1).run XM w= .ok (.int .i64 b) w:=j _ 1 _ rfl;have N:(part 3 #[.int .i64 c,.int .i64 d] 0).run XM w= .ok (.int .i64 c) w:=j _ 0 _ rfl;have o:(part 3 #[.int .i64 c,.int .i64 d] 1).run XM w= .ok (.int .i64 d) w:=j _ 1 _ rfl;have e:(Op.eqFields 9999 #[.int .i64 a,.int .i64 b] #[.int .i64 c,.int .i64 d] [L,K]).run XM w= .ok (a==c&&b==d) w:=by
  have wI:("X" :String)≠ "_" :=Zd
  have H:("Y" :String)≠ "_" :=Zd
  simp only[Op.eqFields,F,J,G,D,Z,M,AF,S,N,p,o,AB,m,wI,H,ne_eq,not_false_eq_true,if_true];cases h:a==c
  .simp[m,h]
  .cases B:b==d<;>simp[m,h,p,o,B]
 have u:(Op.equalIn 10000 74 (pt a b) (pt c d)).run XM w= .ok (a==c&&b==d) w:=by
  rw[pt,pt,run_equalIn_struct w 9999 _ _ _ E R,A];exact e
 simp only[Xj,pt,AF,run_eqGuard_agg w .eql _ x y _ _ P,AB,run_eql_struct,AH];rw[pt,pt]at u;rw[u]
 rfl
def Lf(X Y:Int):Bool:=decide ((-1048576<=X/\X<=1048576)/\(-1048576<=Y/\Y<=1048576))
section
variable{p q:Rat}{K1 K2:Nat}{w:YM}{X Y:Int}
theorem KJ{r s:RV}(j: -9223372036854775808<=X/\X<=9223372036854775807)(k: -9223372036854775808<=Y/\Y<=9223372036854775807)(o:Nf r p K1 w)(t:Nf s q K2 w)(x:2<=K1/\2<=K2/\K1+K2<=1000000):
 Ca 242 #[pt X Y,r.val,s.val] w (K4 w (λv:RV×RV=> .tuple #[v.1.val,v.2.val]) λv u=>Kn v.1 (p- (X:Rat)) (K1+2+1) u/\Kn v.2 (q- (Y:Rat)) (K2+2+1) u):=by
 refine uf func242 rfl<|ZR<|ZC (λc b h=>Ki X c j.1 j.2) λf=>ZC (λc b h=>Aj (o.below b) h.2.q I) λm=>ZC (λc b h=>Ki Y c k.1 k.2) λg=>ZC (λc b h=>Aj (t.below b) h.2.q I) λn=>ZV (.tuple #[m.val,n.val]) (λc b h=>⟨(m,n),rfl,b,λe l k2=>⟨(h e l k2).1.1.2,(h e l k2).2⟩⟩)
end
def Mi(x:Int):Int:=if x< -1048576 then -1048576 else if 1048576<x then 1048576 else x
section
variable{w:YM}{X Y U V x:Int}
theorem Wl:Ca 175 #[.int .i64 x,.int .i64 (-1048576),.int .i64 1048576] w (CU w (.int .i64 (Mi x))):=by
 by_cases b:x< -1048576
 .exact uf func175 rfl<|ZR<|ZJ (decide (x< -1048576)) true (by simpa using b)<|ZX (.int .i64 (-1048576)) (by unfold Mi;rw[YS b])
 .by_cases c:1048576<x
  .exact uf func175 rfl<|ZR<|ZJ (decide (x< -1048576)) false (by simpa using b)<|ZJ (decide (x>1048576)) true (by simpa using c)<|ZX (.int .i64 1048576) (by unfold Mi;rw[YT b,YS c])
  .exact uf func175 rfl<|ZR<|ZJ (decide (x< -1048576)) false (by simpa using b)<|ZJ (decide (x>1048576)) false (by simpa using c)<|ZX (.int .i64 x) (by unfold Mi;rw[YT b,YT c])
theorem bG:Ca 147 #[.int .i64 x] w (CU w (.int .i64 (Mi x))):=uf func147 rfl<|ZR<|ZC (λb c h=>Wl (x:=x)) λu=>ZW (.int .i64 (Mi x))
theorem QJ:Ca 103 #[pt X Y] w (CU w (pt (Mi X) (Mi Y))):=uf func103 rfl<|ZR<|ZC (λc b h=>bG (x:=X)) λu=>ZC (λc b h=>bG (x:=Y)) λv=>ZW (pt (Mi X) (Mi Y))
theorem EM(x:Int):(Mi x==x)=decide (-1048576<=x/\x<=1048576):=by
 unfold Mi;split
 .rw[YV I];simp;omega
 .split
  .rw[YV I];simp;omega
  .rw[YU I];simp
theorem Yl(X Y:Int):(Mi X==X&&Mi Y==Y)=Lf X Y:=by
 rw[EM,EM];unfold Lf;simp
theorem IX:Ca 62 #[pt X Y] w (CU w (.bool (Lf X Y))):=uf func62 rfl<|ZR<|ZD 3 (λb c h=>QJ (X:=X) (Y:=Y)) λu=>ZB 3 (Xj 74 (.tmp 4) (.tmp 5) (pt (Mi X) (Mi Y)) (pt X Y)) (.bool (Mi X==X&&Mi Y==Y)) (λb c h=>Oc)<|ZX (.bool (Mi X==X&&Mi Y==Y)) (by rw[Yl])
end
section
variable{w:YM}{X Y:Int}{p q:Rat}{K:Nat}
theorem dC{r:RV}(h:EU r p q K w)(b:q≠0):Kn r (p/q) K w:=by unfold EU at h;rw[YT b]at h;exact h
theorem Mg{B:Bool}(h:Lf X Y=B):Ca 62 #[pt X Y] w (CU w (.bool B)):=h▸IX
end
abbrev Pt:=Int×Int
def gO(r:List Pt):List (Pt×Pt):=(r.zip (r.drop 1++r.take 1)).filter λe=>e.1 !=e.2
def Ku(L:List (List Pt)):List (Pt×Pt):=L.flatMap gO
def Lt(u v:Pt):Int:=u.1*v.2-u.2*v.1
def Lz(p q:Pt):Pt:=(p.1-q.1,p.2-q.2)
def Vy(a b:Int)(t:Rat):Rat:=a+t*((b-a:Int):Rat)
def ED(p q:Pt)(x:Int):Option Rat:=
 if p.1=q.1\/x<min p.1 q.1\/max p.1 q.1<x then none else some (Vy p.2 q.2 (Rat.divInt (x-p.1) (q.1-p.1)))
def Q6(p q:Pt):Bool:=decide (p.2<q.2)||(p.2==q.2&&decide (p.1<q.1))
def P3(a b:Pt):Pt×Pt:=if Q6 b a then(b,a)else(a,b)
def dc(p q:Pt×Pt):Pt×Int:=
 let a:=if Q6 p.1 q.1 then q.1 else p.1
 let b:=if Q6 q.2 p.2 then q.2 else p.2
 if Q6 b a then((0,0),0)else if a=b then(a,1)else((0,0),2)
def Nt(a b c d:Pt):Pt×Int:=dc (P3 a b) (P3 c d)
def Q5(a b c d:Pt):Option Rat:=
 let u:=Lz b a
 let v:=Lz d c
 let w:=Lz c a
 let n:=Lt u v
 if n=0 then(if Lt u w=0/\(Nt a b c d).2=1 then some ((Nt a b c d).1.2:Rat)else none)
 else
  let t:=Rat.divInt (Lt w v) n
  let s:=Rat.divInt (Lt w u) n
  if t<0\/1<t\/s<0\/1<s then none else some (Vy a.2 b.2 t)
def GN(c b:Int)(f:List (Pt×Pt))(e:Pt×Pt):List Rat:=
 (ED e.1 e.2 c).toList++(ED e.1 e.2 b).toList++f.filterMap λo=>Q5 o.1 o.2 e.1 e.2
def Tm(c b:Int):List (Pt×Pt)->List (Pt×Pt)->List Rat
 |_,[]=>[]
 |es,e::r=>GN c b es e++Tm c b (es++ [e]) r
def Fa(x:Rat):List Rat->List Rat
 | []=>[x]
 |y::l=>if x<y then x::y::l else if x=y then y::l else y::Fa x l
def A7(l:List Rat):List Rat:=l.foldr Fa []
def Hw(L:List (List Pt))(a b:Pt):List Rat:=
 (a.2:Rat)::(b.2:Rat)::((L.flatten.map λp=>(p.2:Rat))++Tm a.1 b.1 [] (Ku L)).filter λy=>decide ((a.2:Rat)<y)&&decide (y<(b.2:Rat))
def Cb(L:List (List Pt))(a b:Pt):List Rat:=A7 (Hw L a b)
abbrev KD:=Rat×Int
def Nv(y:Rat)(e:Pt×Pt):Option KD:=
 if 0<=Kv e.1.2 y*Kv e.2.2 y then none else some (Vy e.1.1 e.2.1 ((y-e.1.2)*Rat.divInt 1 (e.2.2-e.1.2)),Kv e.2.2 y)
def Xg(a b:KD):Bool:=decide (a.1<b.1)||(decide (a.1=b.1)&&decide (b.2<a.2))
def PS{α:Type}(lt:α->α->Bool)(x:α):List α->List α
 | []=>[x]
 |y::l=>if lt y x then y::PS lt x l else x::y::l
def MR{α:Type}(lt:α->α->Bool)(l:List α):List α:=l.foldr (PS lt) []
def S8(L:List (List Pt))(y:Rat):List KD:=MR Xg ((Ku L).filterMap (Nv y))
def E4(rule n:Int):Bool:=if rule=1 then n !=0 else n%2 !=0
abbrev Sp:=Rat×Rat
def Md(rule:Int):Int->List KD->List Sp
 |n,m::b::r=>(if E4 rule (n+m.2)then [(m.1,b.1)]else [])++Md rule (n+m.2) (b::r)
 |_,_=>[]
def Np(out:List Sp)(s:Sp):List Sp:=
 match out.getLast? with
 |none=>[s]
 |some t=>if t.2<s.1 then out++ [s]else if t.2<s.2 then out.dropLast++ [(t.1,s.2)]else out
def Bm(a b:Sp):Bool:=decide (a.1<b.1)
def GL(s:Sp):Bool:=decide (s.1<s.2)
def Vj(l:List Sp):List Sp:=(MR Bm (l.filter GL)).foldl Np []
def Qx(L:List (List Pt))(rule:Int)(y:Rat):List Sp:=Vj (Md rule 0 (S8 L y))
def Dw(s:Sp)(a:Rat):Rat:=if a<s.1 then s.1 else a
def Ut(s:Sp)(b:Rat):Rat:=if s.2<b then s.2 else b
def Cw(a b:Rat)(t:Rat)(s:Sp):Rat:=if Dw s a<Ut s b then t+(Ut s b-Dw s a)else t
def Dx(l:List Sp)(a b:Rat):Rat:=(Vj l).foldl (Cw a b) 0
def bC(L:List (List Pt))(rule:Int)(a b:Pt)(lo hi:Rat):Rat:=Dx (Qx L rule ((lo+hi)/2)) a.1 b.1*(hi-lo)
def Yv(L:List (List Pt))(rule:Int)(a b:Pt):Rat->List Rat->Rat
 |t,lo::hi::r=>Yv L rule a b (t+bC L rule a b lo hi) (hi::r)
 |t,_=>t
def Yw(L:List (List Pt))(rule:Int)(a b:Pt):Rat:=Yv L rule a b 0 (Cb L a b)
def C_(f:Rat):Nat:=if f<=0 then 0 else if 1<=f then 255 else(f*255+1/2).floor.toNat
def P6(x y:Int):Pt:=(x*256,y*256)
def VZ(L:List (List Pt))(rule x y:Int):Nat:=C_ (Yw L rule (P6 x y) (P6 (x+1) (y+1))/65536)
theorem EI{x y:Rat}:∀{l:List Rat},y∈Fa x l↔y=x\/y∈l
 | []=>by simp[Fa]
 | z::l=>by
  unfold Fa;split
  .simp
  .split
   .rename_i h;subst h;simp
   .simp only[BC,EI (l:=l)];constructor
    .rintro(h|h|h)<;>simp[h]
    .rintro(h|h|h)<;>simp[h]
theorem FO{y:Rat}{l:List Rat}:y∈A7 l↔y∈l:=by
 unfold A7;induction l with
 |nil=>simp
 |cons x l b=>simp only[List.foldr_cons,EI,b,BC]
theorem Ex{x:Rat}:∀{l:List Rat},l.Pairwise (· <·)->(Fa x l).Pairwise (· <·)
 | [],_=>by simp[Fa]
 | y::l,h=>by
  have c:=List.pairwise_cons.1 h;unfold Fa;split
  .rename_i e;refine List.pairwise_cons.2 ⟨λz b=> ?_,h⟩;rcases BC.1 b with rfl|b
   .exact e
   .have:=c.1 z b;grind
  .split
   .exact h
   .refine List.pairwise_cons.2 ⟨λz b=> ?_,Ex c.2⟩;rcases EI.1 b with rfl|b
    .grind
    .exact c.1 z b
theorem Bp(l:List Rat):(A7 l).Pairwise (· <·):=by
 unfold A7;induction l with
 |nil=>simp
 |cons x l b=>exact Ex b
theorem Gy:∀{l m:List Rat},l.Pairwise (· <·)->m.Pairwise (· <·)->(∀x,x∈l↔x∈m)->l=m
 | [],[],_,_,_=>rfl
 | [],y::m,_,_,h=>by have:=(h y).2 Zs;simp at this
 |x::l,[],_,_,h=>by have:=(h x).1 Zs;simp at this
 | x::l,y::m,c,b,h=>by
  have c:=List.pairwise_cons.1 c;have b:=List.pairwise_cons.1 b;have e:x=y:=by
   rcases BC.1 ((h x).1 Zs)with e|o
   .exact e
   .rcases BC.1 ((h y).2 Zs)with e|p
    .exact e.symm
    .have:=c.1 y p;have:=b.1 x o;grind
  subst e;rw[Gy c.2 b.2 λz=> ?_];have g:=h z;simp only[BC]at g;constructor
  .intro j;rcases g.1 (.inr j)with rfl|f
   .have:=c.1 z j;grind
   .exact f
  .intro k;rcases g.2 (.inr k)with rfl|f
   .have:=b.1 z k;grind
   .exact f
theorem gL{l m:List Rat}(h:m.Pairwise (· <·))(b:∀x,x∈m↔x∈l):m=A7 l:=
 Gy h (Bp l) λx=>(b x).trans FO.symm
theorem Dz{α:Type}{lt:α->α->Bool}{x:α}:∀{l:List α},(PS lt x l).Perm (x::l)
 | []=> .refl _
 |y::l=>by
  unfold PS;split
  .exact(Dz.cons y).trans (.swap x y l)
  .exact .refl _
theorem Rb{α:Type}{lt:α->α->Bool}:∀{l:List α},(MR lt l).Perm l
 | []=> .refl _
 |x::l=>Dz.trans (Rb.cons x)
def NL{α:Type}(lt:α->α->Bool)(l:List α):Prop:=l.Pairwise λa b=>lt b a=false
theorem Vo{α:Type}{lt:α->α->Bool}{x:α}(k:∀a b c,lt b a=false->lt c b=false->lt c a=false)(j:∀a b,lt a b=true->lt b a=false):∀{l:List α},NL lt l->NL lt (PS lt x l)
 | [],_=>by simp[PS,NL]
 | y::l,h=>by
  have g:=List.pairwise_cons.1 h;unfold PS;split
  .rename_i f;refine List.pairwise_cons.2 ⟨λz e=> ?_,Vo k j g.2⟩;rcases BC.1 (Dz.mem_iff.1 e)with rfl|e
   .exact j _ _ f
   .exact g.1 z e
  .rename_i f;have f:lt y x=false:=by simpa using f
   refine List.pairwise_cons.2 ⟨λz e=> ?_,h⟩;rcases BC.1 e with rfl|e
   .exact f
   .exact k _ _ _ f (g.1 z e)
theorem Gz{α:Type}{lt:α->α->Bool}(f:∀a b c,lt b a=false->lt c b=false->lt c a=false)(e:∀a b,lt a b=true->lt b a=false):∀{l:List α},NL lt (MR lt l)
 | []=>List.Pairwise.nil
 |x::l=>Vo f e (Gz f e (l:=l))
theorem bU(a b c:KD)(h:Xg b a=false)(k:Xg c b=false):Xg c a=false:=by
 simp only[Xg,BZ,Bool.and_eq_false_imp,decide_eq_false_iff_not,decide_eq_true_eq]at*;refine⟨by grind,λe=> ?_⟩
 by_cases f:b.1=a.1
 .have:=h.2 f;have:=k.2 (by grind);omega
 .grind
theorem po(a b:KD)(h:Xg a b=true):Xg b a=false:=by
 simp only[Xg,DU,AL,BZ,Bool.and_eq_false_imp,decide_eq_false_iff_not,decide_eq_true_eq]at*;refine⟨by grind,λe=> ?_⟩;rcases h with h|h
 .grind
 .omega
theorem lg(a b:KD)(h:Xg b a=false)(k:Xg a b=false):a=b:=by
 simp only[Xg,BZ,Bool.and_eq_false_imp,decide_eq_false_iff_not,decide_eq_true_eq]at*;have e:a.1=b.1:=by grind
 have c:=h.2 e.symm;have k2:=k.2 e;exact Prod.ext e I
theorem dL{l m:List KD}(e:m.Perm l)(c:NL Xg m):m=MR Xg l:=
 (e.trans Rb.symm).eq_of_pairwise (λa b _ _ h k=>lg a b h k) c (Gz bU po)
theorem m4(a b c:Sp)(h:Bm b a=false)(k:Bm c b=false):Bm c a=false:=by
 simp only[Bm,decide_eq_false_iff_not]at *;grind
theorem nf(a b:Sp)(h:Bm a b=true):Bm b a=false:=by
 simp only[Bm,decide_eq_false_iff_not,decide_eq_true_eq]at *;grind
theorem PE{out:List Sp}{a b:Sp}(e:a.1=b.1)(g:GL a=true)(h:GL b=true):Np (Np out a) b=Np (Np out b) a:=by
 simp only[GL,decide_eq_true_eq]at g h;have c:∀s t:Sp,s.1=t.1->s.1<s.2->t.1<t.2->∀o:List Sp,Np (o++ [s]) t=o++ [(s.1,if s.2<t.2 then t.2 else s.2)]:=by
  intro s t p k f o;simp only[Np,List.getLast?_append,List.getLast?_singleton,Option.some_or,List.dropLast_concat];rw[YT (by grind)];split<;>rfl
 unfold Np;cases u:out.getLast? with
 |none=>
  simp only[List.getLast?_singleton];have j:=c a b e g h [];have k2:=c b a e.symm h g [];simp only[Np,List.nil_append,List.getLast?_singleton]at j k2;rw[j,k2];congr 1;refine Prod.ext e ?_;show(if a.2<b.2 then b.2 else a.2)=if b.2<a.2 then a.2 else b.2
  grind
 | some t=>
  obtain⟨o,rfl⟩:=List.getLast?_eq_some_iff.1 u;clear u;simp only[List.dropLast_concat]
  by_cases p:t.2<a.1
  .have k:t.2<b.1:=by grind
   rw[YS p,YS k];have j:=c a b e g h (o++ [t]);have k2:=c b a e.symm h g (o++ [t]);simp only[Np]at j k2;rw[j,k2];congr 2;refine Prod.ext e ?_;show(if a.2<b.2 then b.2 else a.2)=if b.2<a.2 then a.2 else b.2
   grind
  .have k:¬t.2<b.1:=by grind
   rw[YT p,YT k]
   by_cases f:t.2<a.2<;>by_cases l:t.2<b.2
   .rw[YS f,YS l];simp only[List.getLast?_append,List.getLast?_singleton,Option.some_or,List.dropLast_concat];clear c;rw[YT (show¬a.2<b.1 by grind),YT (show¬b.2<a.1 by grind)]
    by_cases m:a.2<b.2
    .rw[YS m,YT (Rat.not_lt.2 (Rat.le_of_lt m))]
    .by_cases v:b.2<a.2
     .rw[YT m,YS v]
     .rw[YT m,YT v];have:a.2=b.2:=by grind
      rw[this]
   .clear c;rw[YS f,YT l];simp only[List.getLast?_append,List.getLast?_singleton,Option.some_or,List.dropLast_concat];rw[YT (by grind),YT (by grind),YT (by grind),YS f]
   .clear c;rw[YT f,YS l];simp only[List.getLast?_append,List.getLast?_singleton,Option.some_or,List.dropLast_concat];rw[YT k,YS l,YT (show¬b.2<a.1 by grind),YT (show¬b.2<a.2 by grind)]
   .clear c;rw[YT f,YT l];simp only[List.getLast?_append,List.getLast?_singleton,Option.some_or,List.dropLast_concat];rw[YT (by grind),YT (by grind),YT (by grind),YT (by grind)]
theorem MW:∀{l m:List Sp} (out:List Sp),l.Perm m->NL Bm l->NL Bm m->(∀s∈l,GL s=true)->l.foldl Np out=m.foldl Np out
 | [],m,out,k,_,_,_=>by rw[k.symm.eq_nil]
 | a::l,m,out,k,z,D,f=>by
  obtain⟨p,s,rfl⟩:=List.append_of_mem (k.mem_iff.1 CF);have g:=List.pairwise_cons.1 z;have b:l.Perm (p++s):=(List.perm_cons a).1 (k.trans List.perm_middle);have e:=List.pairwise_append.1 D;have o:∀x∈p,x.1=a.1/\GL x=true:=λx c=>by
   have v:Bm a x=false:=e.2.2 x c a CF;have j:x∈l:=b.mem_iff.2 (List.mem_append_left _ c);have B:=g.1 x j;simp only[Bm,decide_eq_false_iff_not]at v B;exact⟨by grind,f x (AQ _ j)⟩
  have w:=f a CF;have u:∀(p:List Sp) (out:List Sp),(∀x∈p,x.1=a.1/\GL x=true)->(p++a::s).foldl Np out=(p++s).foldl Np (Np out a):=by
   intro p;induction p with
   |nil=>intro out _;rfl
   |cons x p A=>
    intro out h;have c:=h x CF;simp only[DO,List.foldl_cons];rw[A _ λy t=>h y (AQ _ t),PE c.1 c.2 w]
  rw[u p out o,List.foldl_cons];refine MW (Np out a) b g.2 ?_ λx c=>f x (AQ _ c)
  refine List.pairwise_append.2 ⟨e.1,(List.pairwise_cons.1 e.2.1).2,λx c y t=>e.2.2 x c y (AQ _ t)⟩
theorem eO{l m:List Sp}(b:m.Perm (l.filter GL))(e:NL Bm m):m.foldl Np []=Vj l:=
 MW [] (b.trans Rb.symm) e (Gz m4 nf) λs c=>(List.mem_filter.1 (b.mem_iff.1 c)).2
theorem Di{r:List Pt}{e:Pt×Pt}(h:e∈gO r):e.1∈r/\e.2∈r:=by
 have h:=List.of_mem_zip (List.mem_filter.1 h).1;refine⟨h.1,?_⟩;rcases AZ.1 h.2 with h|h
 .exact List.mem_of_mem_drop h
 .exact List.mem_of_mem_take h
theorem O8{L:List (List Pt)}{e:Pt×Pt}(h:e∈Ku L):e.1∈L.flatten/\e.2∈L.flatten:=by
 obtain⟨r,c,b⟩:=List.mem_flatMap.1 h;exact⟨List.mem_flatten.2 ⟨r,c,(Di b).1⟩,List.mem_flatten.2 ⟨r,c,(Di b).2⟩⟩
theorem MM(a b:Int):((a-b:Int):Rat)=(a:Rat)- (b:Rat):=Rat.intCast_sub a b
theorem Yq{p q:Rat}(h:p<q):Kv p q= -1:=by unfold Kv;rw[YS h]
theorem Yp{p q:Rat}(h:q<p):Kv p q=1:=by unfold Kv;rw[YT (by grind),YT (by grind)]
theorem E9{p q:Rat}(h:p=q):Kv p q=0:=by unfold Kv;rw[YT (by grind),YS h]
theorem R4{y:Rat}{e:Pt×Pt}{m:KD}(h:Nv y e=some m):∃t:Rat,0<=t/\t<=1/\m.1=e.1.1+t*(e.2.1-e.1.1)/\((e.1.2<y/\y<e.2.2)\/(e.2.2<y/\y<e.1.2)):=by
 unfold Nv at h;split at h
 .cases h
 rename_i b;injection h with h;subst h;have j:(e.1.2<y/\y<e.2.2)\/(e.2.2<y/\y<e.1.2):=by
  rcases(by grind:e.1.2<y\/e.1.2=y\/y<e.1.2)with f|f|f
  .rw[Yq f]at b;rcases(by grind:e.2.2<y\/e.2.2=y\/y<e.2.2)with c|c|c
   .rw[Yq c]at b;exact absurd Zd b
   .rw[E9 c]at b;exact absurd Zd b
   .exact .inl ⟨f,c⟩
  .rw[E9 f,Int.zero_mul]at b;exact absurd Zd b
  .rw[Yp f]at b;rcases(by grind:e.2.2<y\/e.2.2=y\/y<e.2.2)with c|c|c
   .exact .inr ⟨c,f⟩
   .rw[E9 c]at b;exact absurd Zd b
   .rw[Yp c]at b;exact absurd Zd b
 refine⟨(y-e.1.2)*Rat.divInt 1 (e.2.2-e.1.2),?_,?_,by unfold Vy;rw[MM],j⟩
 all_goals
  have k:Rat.divInt 1 (e.2.2-e.1.2)=((e.2.2:Rat)-e.1.2)⁻¹:=by
   rw[Rat.divInt_eq_div,MM];grind
  rw[k];rcases j with ⟨f,c⟩|⟨f,c⟩
  .have g:(0:Rat)<(e.2.2:Rat)-e.1.2:=by grind
   have hi:=Rat.inv_pos.2 g;have o:((e.2.2:Rat)-e.1.2)*((e.2.2:Rat)-e.1.2)⁻¹=1:=Rat.mul_inv_cancel _ (by grind)
   first
   |exact Rat.mul_nonneg (by grind) (Rat.le_of_lt hi)
   |(have:=Rat.mul_nonneg (show 0<=(e.2.2:Rat)-y by grind) (Rat.le_of_lt hi);grind)
  .have g:(0:Rat)<(e.1.2:Rat)-e.2.2:=by grind
   have hi:=Rat.inv_pos.2 g;have o:((e.1.2:Rat)-e.2.2)*((e.1.2:Rat)-e.2.2)⁻¹=1:=Rat.mul_inv_cancel _ (by grind);have b:((e.2.2:Rat)-e.1.2)⁻¹= -((e.1.2:Rat)-e.2.2)⁻¹:=by
    have l:(e.2.2:Rat)-e.1.2≠0:=by grind
    have:=Rat.mul_inv_cancel _ l
    grind
   rw[b]
   first
   |(have:=Rat.mul_nonneg (show 0<=(e.1.2:Rat)-y by grind) (Rat.le_of_lt hi);grind)
   |(have:=Rat.mul_nonneg (show 0<=y- (e.2.2:Rat) by grind) (Rat.le_of_lt hi);grind)
theorem SZ{y lo:Rat}{e:Pt×Pt}{m:KD}(h:Nv y e=some m)(j:lo<=e.1.1)(f:lo<=e.2.1):lo<=m.1:=by
 obtain⟨t,b,g,c,_⟩:=R4 h;have:=Rat.mul_nonneg b (show 0<=(e.2.1:Rat)-lo by grind);have:=Rat.mul_nonneg (show 0<=1-t by grind) (show 0<=(e.1.1:Rat)-lo by grind)
 grind
theorem UZ{y hi:Rat}{e:Pt×Pt}{m:KD}(h:Nv y e=some m)(j:(e.1.1:Rat)<=hi)(f:(e.2.1:Rat)<=hi):m.1<=hi:=by
 obtain⟨t,b,g,c,_⟩:=R4 h;have:=Rat.mul_nonneg b (show 0<=hi- (e.2.1:Rat) by grind);have:=Rat.mul_nonneg (show 0<=1-t by grind) (show 0<=hi- (e.1.1:Rat) by grind)
 grind
theorem Z8{L:List (List Pt)}{y:Rat}{m:KD}(h:m∈S8 L y):∃e∈Ku L,Nv y e=some m:=
 List.mem_filterMap.1 (Rb.mem_iff.1 h)
theorem Ve{rule:Int}{s:Sp}:∀{l:List KD} {n:Int},s∈Md rule n l->(∃m∈l,s.1=m.1)/\∃m∈l,s.2=m.1
 | [],n,h=>by simp[Md]at h
 | [m],n,h=>by simp[Md]at h
 | m::e::r,n,h=>by
  unfold Md at h;rcases AZ.1 h with h|h
  .split at h
   .obtain rfl:=AU.1 h;exact⟨⟨m,by simp,rfl⟩,⟨e,by simp,rfl⟩⟩
   .cases h
  .obtain⟨⟨a,c,j⟩,⟨b,g,f⟩⟩:=Ve h;exact⟨⟨a,AQ _ c,j⟩,⟨b,AQ _ g,f⟩⟩
theorem XE{A B:Rat->Prop}{out:List Sp}{s:Sp}(c:∀x∈out,A x.1/\B x.2)(e:A s.1/\B s.2):∀x∈Np out s,A x.1/\B x.2:=by
 unfold Np;split
 .intro x b;obtain rfl:=AU.1 b;exact e
 .rename_i t f;obtain⟨o,rfl⟩:=List.getLast?_eq_some_iff.1 f;split
  .intro x b;rcases AZ.1 b with b|b
   .exact c x b
   .obtain rfl:=AU.1 b;exact e
  .split
   .intro x b;rw[List.dropLast_concat]at b;rcases AZ.1 b with b|b
    .exact c x (List.mem_append_left _ b)
    .obtain rfl:=AU.1 b;exact⟨(c t Zs).1,e.2⟩
   .exact c
theorem Xa{A B:Rat->Prop}:∀{l out:List Sp},(∀x∈out,A x.1/\B x.2)->(∀x∈l,A x.1/\B x.2)->∀x∈l.foldl Np out,A x.1/\B x.2
 | [],_,b,_=>b
 |s::l,_,b,c=>Xa (l:=l) (XE b (c s Zs)) λx e=>c x (AQ _ e)
theorem Aq{A B:Rat->Prop}{l:List Sp}(h:∀x∈l,A x.1/\B x.2):∀x∈Vj l,A x.1/\B x.2:=
 Xa Zs λx b=>h x (List.mem_filter.1 (Rb.mem_iff.1 b)).1
theorem Wp{A:Rat->Prop}{L:List (List Pt)}{rule:Int}{y:Rat}(h:∀m∈S8 L y,A m.1):∀x∈Qx L rule y,A x.1/\A x.2:=by
 refine Aq λx c=> ?_
 obtain⟨⟨a,e,j⟩,⟨b,g,f⟩⟩:=Ve c;exact⟨j▸h a e,f▸h b g⟩
theorem Iv{a b:Rat}:∀{l:List Sp} (t:Rat),(∀s∈l,¬Dw s a<Ut s b)->l.foldl (Cw a b) t=t
 | [],_,_=>rfl
 |s::l,t,h=>by
  rw[List.foldl_cons,show Cw a b t s=t from YT (h s Zs)];exact Iv t λx c=>h x (AQ _ c)
theorem Gl{l:List Sp}{a b:Rat}(h:∀s∈Vj l,¬Dw s a<Ut s b):Dx l a b=0:=Iv 0 h
theorem ZE{s:Sp}{a b:Rat}(h:b<=s.1):¬Dw s a<Ut s b:=by unfold Dw Ut;grind
theorem Zl{s:Sp}{a b:Rat}(h:s.2<=a):¬Dw s a<Ut s b:=by unfold Dw Ut;grind
theorem KY{l:List Sp}(h:∀s∈l,GL s=false):Vj l=[]:=by
 unfold Vj;rw[List.filter_eq_nil_iff.2 λs b=>by rw[h s b];decide]
 rfl
def Ej(L:List (List Pt))(a b:Pt):Prop:=
 (∀p∈L.flatten,b.2<=p.2)\/(∀p∈L.flatten,p.2<=a.2)\/(∀p∈L.flatten,b.1<=p.1)\/(∀p∈L.flatten,p.1<=a.1)\/∃c,∀p∈L.flatten,p.1=c
theorem av{L:List (List Pt)}{rule:Int}{a b:Pt}{lo hi:Rat}(h:Ej L a b)(o:(a.2:Rat)<=lo)(u:lo<hi)(v:hi<=b.2):bC L rule a b lo hi=0:=by
 have w:Dx (Qx L rule ((lo+hi)/2)) a.1 b.1=0:=by
  have l:(a.2:Rat)<(lo+hi)/2:=by grind
  have p:(lo+hi)/2<(b.2:Rat):=by grind
  generalize (lo+hi)/2=y at l p;have j:(∀e∈Ku L,Nv y e=none)->Dx (Qx L rule y) a.1 b.1=0:=λE=>by
   have:S8 L y=[]:=by
    unfold S8;rw[List.filterMap_eq_nil_iff.2 E];rfl
   unfold Qx;rw[this];rfl
  rcases h with h|h|h|h|⟨c,h⟩
  .refine j λe g=> ?_
   cases f:Nv y e with
   |none=>rfl
   |some m=>
    obtain⟨_,_,_,_,Z⟩:=R4 f;have G:=Rat.intCast_le_intCast.2 (h _ (O8 g).1);have H:=Rat.intCast_le_intCast.2 (h _ (O8 g).2)
    grind
  .refine j λe g=> ?_
   cases f:Nv y e with
   |none=>rfl
   |some m=>
    obtain⟨_,_,_,_,Z⟩:=R4 f;have G:=Rat.intCast_le_intCast.2 (h _ (O8 g).1);have H:=Rat.intCast_le_intCast.2 (h _ (O8 g).2)
    grind
  .refine Gl λs k=>ZE<|(Aq (A:=λx=>(b.1:Rat)<=x) (B:=λ_=>True) (λx t=>⟨(Wp (A:=λx=>(b.1:Rat)<=x) (λm f=> ?_) x t).1,trivial⟩) s k).1
   obtain⟨e,g,f⟩:=Z8 f;exact SZ f (Rat.intCast_le_intCast.2 (h _ (O8 g).1)) (Rat.intCast_le_intCast.2 (h _ (O8 g).2))
  .refine Gl λs k=>Zl<|(Aq (A:=λ_=>True) (B:=λx=>x<=(a.1:Rat)) (λx t=>⟨trivial,(Wp (A:=λx=>x<=(a.1:Rat)) (λm f=> ?_) x t).2⟩) s k).2
   obtain⟨e,g,f⟩:=Z8 f;exact UZ f (Rat.intCast_le_intCast.2 (h _ (O8 g).1)) (Rat.intCast_le_intCast.2 (h _ (O8 g).2))
  .have f:∀m∈S8 L y,m.1=(c:Rat):=λm f=>by
    obtain⟨e,g,f⟩:=Z8 f;have o:=h _ (O8 g).1;have u:=h _ (O8 g).2;have v:=SZ (lo:=c) f (by rw[o];exact Rat.le_refl) (by rw[u];exact Rat.le_refl);have K:=UZ (hi:=c) f (by rw[o];exact Rat.le_refl) (by rw[u];exact Rat.le_refl);exact Rat.le_antisymm K v
   have:Qx L rule y=[]:=KY λs k=>by
    obtain⟨⟨a,D,z⟩,⟨b,F,J⟩⟩:=Ve k;unfold GL;rw[z,J,f a D,f b F,YV (Rat.lt_irrefl)]
   rw[this];rfl
 unfold bC;rw[w,Rat.zero_mul]
theorem Jj{L:List (List Pt)}{rule:Int}{a b:Pt}(h:Ej L a b):∀{l:List Rat} {t:Rat},l.Pairwise (· <·)->(∀y∈l,(a.2:Rat)<=y/\y<=b.2)->Yv L rule a b t l=t
 | [],t,_,_=>rfl
 | [_],t,_,_=>rfl
 |lo::hi::r,t,f,c=>by
  have e:=List.pairwise_cons.1 f;unfold Yv;rw[av h (c lo Zs).1 (e.1 hi Zs) (c hi Zs).2,Rat.add_zero];exact Jj h e.2 λy g=>c y (AQ _ g)
theorem O_{L:List (List Pt)}{a b:Pt}(c:a.2<=b.2):∀y∈Cb L a b,(a.2:Rat)<=y/\y<=b.2:=λy e=>by
 have c:=Rat.intCast_le_intCast.2 c;rcases BC.1 (FO.1 e)with rfl|e
 .exact⟨Rat.le_refl,c⟩
 rcases BC.1 e with rfl|e
 .exact⟨c,Rat.le_refl⟩
 have:=(List.mem_filter.1 e).2;simp only[AL,decide_eq_true_eq]at this;exact⟨Rat.le_of_lt this.1,Rat.le_of_lt this.2⟩
theorem aN{L:List (List Pt)}{rule:Int}{a b:Pt}(h:Ej L a b)(c:a.2<=b.2):Yw L rule a b=0:=
 Jj h (Bp _) (O_ c)
section
section
variable{P:YH}{Δ:List XY}{W:YM}{Q:Exit->Act->YM->Prop}{Φ:YM->Prop}{c:Mm}
def IM(t:Nat)(v:AV)(c:Mm):Mm:=⟨c.foc,c.k,⟨c.st.tmps.set t v,c.st.box⟩⟩
def O9:List Nat->(Nat->AV)->Mm->Mm
 | [],_,c=>c
 |t::L,x,c=>IM t (x t) (O9 L x c)
theorem GX{t:Nat}:IM t (c.st.tmps.getD t (.v undef)) c=c:=by
 obtain⟨b,k,⟨e,bx⟩⟩:=c;simp only[IM];congr 2;refine CS λj=> ?_
 rw[List.getElem?_set];split
 .rename_i h;subst h;split
  .rename_i h;rw[CQ,AD h];rfl
  .rename_i h;rw[DE I]
 .rfl
theorem F5:∀L:List Nat,O9 L (λt=>c.st.tmps.getD t (.v undef)) c=c
 | []=>rfl
 |t::L=>by rw[O9,F5 L];exact GX
theorem uC [Rnd](L:List Nat)(h:∀x,K0 P Δ W Q Φ (O9 L x c)):K0 P Δ W Q Φ c:=by
 have:=h λt=>c.st.tmps.getD t (.v undef)
 rwa [F5]at this
theorem up [Rnd](l:P.follows .mixedOrders=true)(stop n t:Nat)(L:List Nat)(f:Nat){b:Bool}(g j B:Bool)(o:c.st.tmps[t]? =some (.v (.bool b)))
 (s:(Lw P stop n (Ky t (.bool true) c)).st.tmps[f]? =some (.v (.bool g))) (p:(Lw P stop n (Ky t (.bool false) c)).st.tmps[f]? =some (.v (.bool j)))
 (m:∀x,O9 (t::L) x (Ky f (.bool B) (Lw P stop n (Ky t (.bool false) c)))=O9 (t::L) x (Ky f (.bool B) (Lw P stop n (Ky t (.bool true) c))))
 (e:(if b then g else j)=B) (k:∀x,K0 P Δ W Q Φ (O9 (t::L) x (Ky f (.bool B) (Lw P stop n (Ky t (.bool true) c))))):K0 P Δ W Q Φ c:=by
 refine vf t b o (λh=> ?_) (λh=> ?_)
 .subst h;exact uo l (stop:=stop) n _<|uh f (.bool g) (.bool B) s (by rw[<-e];rfl) (uC (t::L) k)
 .subst h;exact uo l (stop:=stop) n _<|uh f (.bool j) (.bool B) p (by rw[<-e];rfl) (uC (t::L) λx=>by rw[m x];exact k x)
theorem uW [Rnd](s:P.follows .mixedOrders=true)(f:Bool)(stop n m t:Nat)(L:List Nat)(j:Nat){b:Bool}(vs v p B:Bool){g:XU}{args:Array YI}(y:c.st.tmps[t]? =some (.v (.bool b)))
 (F:∀w,Below W.heap.size W w->Φ w->XW P g args w (CU w (.bool v)))
 (D:Q1 P (Lw P stop n (Ky t (.bool f) c))=some (g,args))
 (A:(Lw P stop n (Ky t (.bool (!f)) c)).st.tmps[j]? =some (.v (.bool vs)))
 (G:(Lw P stop m (Lp (.v (.bool v)) (Lw P stop n (Ky t (.bool f) c)))).st.tmps[j]? =some (.v (.bool p)))
 (E:∀x,O9 (t::L) x (Ky j (.bool B) (Lw P stop m (Lp (.v (.bool v)) (Lw P stop n (Ky t (.bool f) c)))))=O9 (t::L) x (Ky j (.bool B) (Lw P stop n (Ky t (.bool (!f)) c))))
 (e:(if b=f then p else vs)=B) (k:∀(x:Nat->AV) (Φ':YM->Prop),(∀w,Φ' w->Φ w)->K0 P Δ W Q Φ' (O9 (t::L) x (Ky j (.bool B) (Lw P stop n (Ky t (.bool (!f)) c))))):K0 P Δ W Q Φ c:=by
 have l:b=f->K0 P Δ W Q Φ (Ky t (.bool f) c):=λo=>by
  refine uo s (stop:=stop) n _<|vr F D λu=>uo s (stop:=stop) m _<|uh j (.bool p) (.bool B) G (by rw[<-e,YS o]) (uC (t::L) λx=> ?_)
  rw[E x];exact k x _ λw h=>h.1
 have z:b=(!f)->K0 P Δ W Q Φ (Ky t (.bool (!f)) c):=λo=>by
  exact uo s (stop:=stop) n _<|uh j (.bool vs) (.bool B) A (by rw[<-e,YT (by rw[o];cases f<;>decide)]) (uC (t::L) λx=>k x _ λw h=>h)
 cases f
 .exact vf t b y z l
 .exact vf t b y l z
theorem N4{a b:Bool}:(if a then b else false)=(a&&b):=by cases a<;>rfl
theorem R3{a b:Bool}:(if a then true else b)=(a||b):=by cases a<;>rfl
theorem Cu{a b:Bool}:(if a=true then b else false)=(a&&b):=by cases a<;>rfl
theorem fQ{a b:Bool}:(if a=false then b else true)=(a||b):=by cases a<;>rfl
theorem vq [Rnd]{ι:Type}(f:ι->Mm->Mm)(h:(∀i,K0 P Δ W Q Φ (f i c))->K0 P Δ W Q Φ c)(k:∀i,K0 P Δ W Q Φ (f i c)):K0 P Δ W Q Φ c:=h k
theorem vQ [Rnd]{ι:Type}(f:ι->Mm->Mm)(h:(∀i Φ',(∀w,Φ' w->Φ w)->K0 P Δ W Q Φ' (f i c))->K0 P Δ W Q Φ c)(k:∀i Φ',(∀w,Φ' w->Φ w)->K0 P Δ W Q Φ' (f i c)):K0 P Δ W Q Φ c:=h k
theorem vp [Rnd]{ι:Type}(f:ι->Mm->Mm)(Ψ:ι->YM->Prop)(h:(∀i,K0 P Δ W Q (Ψ i) (f i c))->K0 P Δ W Q Φ c)(k:∀i,K0 P Δ W Q (Ψ i) (f i c)):K0 P Δ W Q Φ c:=h k
theorem Ok.imp2{β:Nat->Nat}{σ:AS}{a:Act}{w:YM}{Φ':YM->Prop}(b:Ok Δ W β σ Φ a w)(h:∀w,Φ w->Φ' w):Ok Δ W β σ Φ' a w:=⟨b.tmps,b.defers,b.bel,b.box,b.inj,λe f=>h e (b.keep e f)⟩
theorem uN [Rnd]{Φ':YM->Prop}(m:JH c=true)(k:∀w,Φ w->Φ' w)(h:K0 P Δ W Q Φ' c):K0 P Δ W Q Φ c:=by
 obtain⟨j,p,σ⟩:=c;replace h:=h.get;refine⟨?_⟩;cases j with
 |code x=>exact λb β a w g=>h b β a w (g.imp2 k)
 |ops o l=>exact λb β a w g=>h b β a w (g.imp2 k)
 |any o f l=>cases m
 |out e=>exact λb β a w g=>h b β a w (g.imp2 k)
theorem K0.eq [Rnd]{c':Mm}(h:K0 P Δ W Q Φ c')(e:c=c'):K0 P Δ W Q Φ c:=e▸h
end
open Go.MapKept in
def F7(w:YM)(g:Nat)(l:List Int):Prop:=∃c b,w.heap[g]? =some (.map c b)/\c.toList.map (λe=>(e.key,e.val))=l.map (λi=>(DI .i64 i,Value.bool true))
def dT(t:XX)(m k v:YI):Sem Next:=Instr.mapUpdate t m k v >>= λ_=>(pure .skip:Sem Next)
section
variable{P:YH}{w:YM}{t kt et:XX}{g:Nat}{l:List Int}{x:Int}
theorem Yc{x:Int}:∀{f:List MapEntry} {l:List Int} {i:Nat},f.map (λe=>(e.key,e.val))=l.map (λi=>(DI .i64 i,Value.bool true))->
 ∃a,Instr.findNow (.int .i64) (.int .i64 x) f i=some a/\((a=none/\x∉l)\/(∃j,a=some (j,.bool true))/\x∈l)
 | [],[],i,h=>⟨none,rfl,.inl ⟨rfl,by simp⟩⟩
 | [],_::_,i,h=>by simp at h
 |_::_,[],i,h=>by simp at h
 | e::f,y::l,i,h=>by
  simp only[List.map_cons,List.cons.injEq,AX]at h;obtain⟨⟨m,o⟩,h⟩:=h
  by_cases b:x=y
  .subst b;exact⟨some (i,.bool true),by simp[Instr.findNow,Instr.sameNow,m,o],.inr ⟨⟨i,rfl⟩,by simp⟩⟩
  .obtain⟨a,p,s⟩:=Yc (x:=x) (i:=i+1) h;refine⟨a,by simp only[Instr.findNow,Instr.sameNow,m,if_true,YR.2 b,p],?_⟩;rcases s with ⟨k,c⟩|⟨k,c⟩
   .exact .inl ⟨k,by simp[b,c]⟩
   .exact .inr ⟨k,by simp[c]⟩
open Go.MapKept in
theorem PK(m:P.underlying t=some (.map kt et))(e:P.underlying kt=some (.int .i64))(p:(zeroValue et).run P w= .ok (.bool false) w)(h:F7 w g l):
 (Instr.lookup t (.map (some g)) (.int .i64 x) false).run P w= .ok (.bool (decide (x∈l))) w:=by
 obtain⟨v,f,o,s⟩:=h;obtain⟨a,k,u⟩:=Yc (x:=x) (i:=0) s;have b:(Instr.checkKey v.isEmpty 10000 kt (.int .i64 x)).run P w= .ok () w:=by
  exact MapKept.run_checkKey e (by simp[MapKept.IsKey]) _ _
 rcases u with ⟨rfl,c⟩|⟨⟨j,rfl⟩,c⟩
 .simp[Instr.lookup,run_underlying m,MapKept.run_getObj_map o,b,run_findKey e k,p,DY,c]
 .simp[Instr.lookup,run_underlying m,MapKept.run_getObj_map o,b,run_findKey e k,DY,c]
open Go.MapKept in
theorem PZ(z:P.underlying t=some (.map kt et))(o:P.underlying kt=some (.int .i64))(h:F7 w g l)(y:x∉l):
 ∃j,(dT t (.map (some g)) (.int .i64 x) (.bool true)).run P w= .ok .skip j/\Ei [g] w j/\∀e,j.heap.size<=e.heap.size->(∀b∈[g],e.heap[b]? =j.heap[b]?)->F7 e g (l++ [x]):=by
 obtain⟨s,c,f,p⟩:=h;obtain⟨a,v,u⟩:=Yc (x:=x) (i:=0) p;rcases u with ⟨rfl,_⟩|⟨_,h⟩
 case inr=>exact absurd h y
 have m:(Instr.checkKey false 10000 kt (.int .i64 x)).run P w= .ok () w:=by
  exact MapKept.run_checkKey o (by simp[MapKept.IsKey]) _ _
 refine⟨{w with heap:=w.heap.setIfInBounds g (.map (s.push ⟨.int .i64 x,.bool true,c⟩) (c+1))},by simp only[dT,Instr.mapUpdate,AF,run_underlying z,MapKept.run_getObj_map f,m,run_findKey o v,run_setObj_map _ f,AB,AH],⟨rfl,rfl,rfl,BA Zs,λk _ A=>(heap_set f).2 k (by simpa using A)⟩,λe _ k2=>⟨s.push ⟨.int .i64 x,.bool true,c⟩,c+1,?_,by simp[p]⟩⟩;rw[k2 g Zs];exact(heap_set f).1
end
section
variable{Δ:List XY}{W:YM}{Φ Φ':YM->Prop}
def nU(W:YM)(g:Nat)(Φ:YM->Prop):Prop:=∀w,Φ w->W.heap.size<=g/\∃c b,w.heap[g]? =some (.map c b)
theorem Ok.mutM{β:Nat->Nat}{σ:AS}{a:Act}{w u:YM}{g:Nat}{G:YM->Prop}(f:Ok Δ W β σ Φ a w)(D:nU W g Φ)(h:Ei [g] w u)
 (F:∀c,u.heap.size<=c.heap.size->(∀b∈[g],c.heap[b]? =u.heap[b]?)->G c) (x:Tg [g] Φ G Φ'):Ok Δ W β σ Φ' a u:=by
 obtain⟨B,H,m,o⟩:=D w f.phi;have p:g<w.heap.size:=(AE.1 o).1;have A:∀k,(σ.box k).isSome=true->β k≠g:=λk j e=>by
  obtain⟨cs,y⟩:=AI.1 j;obtain⟨_,ty,z⟩:=f.box k cs y;rw[e,o]at z;cases z
 refine⟨f.tmps,f.defers,⟨h.os.trans f.bel.os,h.tape.trans f.bel.tape,h.output.trans f.bel.output,AC f.bel.size h.size,λk j=> ?_⟩,λk cs j=> ?_,f.inj,λc s=> ?_⟩
 .rw[h.block k (AK j f.bel.size) Zp];exact f.bel.block k j
 .have E:(σ.box k).isSome=true:=by rw[j];rfl
  obtain⟨v,ty,t⟩:=f.box k cs j;exact⟨v,ty,by rw[h.block _ (AE.1 t).1 (by simpa using A k E)];exact t⟩
 .refine x {c with heap:=c.heap.setIfInBounds g (.map H m)} c Zs (λb l=> ?_) (f.keep _ ⟨?_,λb v t J=> ?_⟩) (F c s.size λb l=> ?_)
  .exact BO (by simpa[eq_comm]using l)
  .simp only[Array.size_setIfInBounds];exact AC h.size s.size
  .by_cases l:g=b
   .subst l;simp only[];rw[CA (AK p (AC h.size s.size))];exact o.symm
   .simp only[];rw[BO l,s.heap b v (AK t h.size) J,h.block b t (by simpa[eq_comm]using l)]
  .obtain rfl:b=g:=by simpa using l
   exact s.heap b B (AK p h.size) λk j=>A k j
end
section
variable{P:YH}{Δ:List XY}{W:YM}{Q:Exit->Act->YM->Prop}{Φ Φ':YM->Prop}{c:Mm}
theorem vo [Rnd]{g:Nat}{G:YM->Prop}(s:Sem Next)
 (S:∀w,Below W.heap.size W w->Φ w->∃u,s.run P w= .ok .skip u/\Ei [g] w u/\∀t,u.heap.size<=t.heap.size->(∀b∈[g],t.heap[b]? =u.heap[b]?)->G t) (N:nU W g Φ) (B:Tg [g] Φ G Φ')
 (J:An c=true) (f:Ox c=some s) (h:K0 P Δ W Q Φ' (Lp (.v undef) c)):K0 P Δ W Q Φ c:=by
 obtain⟨M,k,σ⟩:=c;replace h:=h.get;refine⟨?_⟩;replace f:=(Nk f).1;unfold Pg at f;split at f
 .rename_i K o m;split at f
  .cases f
  .cases f
  .rename_i D R;split at f
   .rename_i E;simp only[AL]at E;injection f with f;subst f;unfold Nc at m;simp only at m;split at m
    .rename_i p i l;cases j:p[i]? with
     |none=>rw[j]at m;cases m
     | some F=>
      rw[j]at m;simp only[BE,AW,AX]at m;obtain⟨rfl,rfl⟩:=m;intro H β a w z;show wpOpsIn Fe 0 P p (post P Q k) (i::l) a w;rw[wpOpsIn_cons];unfold wpOpIn;simp only[j,M3 z,E.1,if_true];have A:∀x∈F.op.operands,a.eval x=σ.rho x:=λx Z=>by
       rw[z.eval,uF];· rfl
       exact AN.1 E.2 x (by simpa using Z)
      obtain⟨u,y,wI,T⟩:=S w z.bel z.phi;refine Zy ((congrArg (λs=>s.run P w) (execOp_congr F (λcs b e=>D cs b e) A)).trans y) Zs ?_;simp only[Qq,Lp,j,CK]at h;exact h (H.put _ (by intro k L;simp[AV.ids]at L)) β _ u ((z.mutM N wI T B).put F.dst (.v undef))
    .cases J
    .cases m
   .cases f
 .cases f
end
end
def cn(W w u:YM):Prop:=w.heap.size<=u.heap.size/\∀b,W.heap.size<=b->b<w.heap.size->u.heap[b]? =w.heap[b]?
section
variable{P:YH}{Δ:List XY}{W:YM}{Q:Exit->Act->YM->Prop}{Φ:YM->Prop}{c:Mm}
theorem vC [Rnd]{X:Type}{L:List Nat}{val:X->YI}{G Φ':X->YM->Prop}{l:Nat}{args:Array YI}
 (Z:∀w,Below W.heap.size W w->(∀u,cn W w u->Φ u)->YieldAt Fe 0 P l args w (L4 w L val G)) (T:Ub W L Φ) (A:∀x,Tg L Φ (G x) (Φ' x))
 (K:An c=true) (f:Ox c=some (Instr.yield l args)) (h:∀x,K0 P Δ W Q (Φ' x) (Lp (.v (val x)) c)):K0 P Δ W Q Φ c:=by
 obtain⟨S,k,σ⟩:=c;replace h:=λx=>(h x).get
 refine⟨?_⟩;replace f:=(Nk f).1;unfold Pg at f;split at f
 .rename_i M o j;split at f
  .cases f
  .cases f
  .rename_i B Y;split at f
   .rename_i D;simp only[AL]at D;injection f with f;unfold Nc at j;simp only at j;split at j
    .rename_i m i l';cases g:m[i]? with
     |none=>rw[g]at j;cases j
     | some E=>
      rw[g]at j;simp only[BE,AW,AX]at j;obtain⟨rfl,rfl⟩:=j;intro F β a w t;show wpOpsIn Fe 0 P m (post P Q k) (i::l') a w;rw[wpOpsIn_cons];unfold wpOpIn;simp only[g,M3 t,D.1,if_true];have y:∀x∈E.op.operands,a.eval x=σ.rho x:=λx U=>by
       rw[t.eval,uF];· rfl
       exact AN.1 D.2 x (by simpa using U)
      obtain⟨fn,tmps,z,bd,p,J⟩:=Z w t.bel λu wI=>t.keep u ⟨wI.1,λb N h2 _=>wI.2 b N h2⟩
      refine Zy (nx:= .round l fn tmps z bd) ((congrArg (λs=>s.run P w) ((execOp_congr E (λcs b e=>B cs b e) y).trans f)).trans p) Zs<|⟨λh=>(by cases h),J.mono λe w' R=> ?_⟩
      obtain⟨x,rfl,H,hG⟩:=R;simp only[Qq,Lp,g,CK]at h;exact h x (F.put _ (by intro k wJ;simp[AV.ids]at wJ)) β _ w' ((t.mut T H hG (A x)).put E.dst (.v (val x)))
    .cases K
    .cases j
   .cases f
 .cases f
end
def D3(Φ:YM->Prop):Prop:=∀c w:YM,c.heap.size<=w.heap.size->(∀(b:Nat) cs ty own,c.heap[b]? =some (.cells cs ty own)->w.heap[b]? =c.heap[b]?)->Φ c->Φ w
def Jt(P:YH)(W:YM)(gf:XU)(lb:Array YI){α:Type}(encs:α->Array YI)(xs:List α)(Pre:YM->Prop):Prop:=
 ∀(l:Nat) (ι:Type) (J:ι->Nat->YM->Prop) (L:ι->List Nat) (G:ι->ι->YM->Prop) (s0:ι) (w:YM),
  Below W.heap.size W w->(∀s k u,J s k u->Pre u)->(∀s k,Ub W (L s) (J s k))->(∀s k c,Tg (L s) (J s k) (G s c) (J c (k+1)))->
  (∀s k x u,Below W.heap.size W u->(∀f,cn W u f->J s k f)->xs[k]? =some x->YieldAt Fe 0 P l (encs x) u (L4 u (L s) (λ_:ι=> .bool true) (G s)))->
  (∀u,cn W w u->J s0 0 u)->
  XW P gf (#[.func (.yield l) #[] #[]]++lb) w λe b=>(∃v,e= .returned v)/\Below W.heap.size W b/\w.heap.size<=b.heap.size/\∃s,∀u,cn W b u->J s xs.length u
def Xf(fn:XU)(tmps:Array YI)(ps:Array Tmp)(assign body:Code)(D:Nat)(st:LoopState):Loop:={state:=st,pending:=none,fn,tmps,params:=ps,assign:=assign,body:=body,defers:=D}
def RF(W c:YM)(l:Nat)(r:Loop)(u:YM):Prop:=c.heap.size<=u.heap.size/\(∀b,W.heap.size<=b->b<c.heap.size->b≠l->u.heap[b]? =c.heap[b]?)/\u.heap[l]? =some (.loop r)
def nt [Rnd](P:YH)(body:Code)(l:Nat)(R:XS->YM->Prop):Exit->Act->YM->Prop:=
 Exit.then (λe c=>∃b,(Instr.beginRound l).run P c= .ok () b/\body.wpIn Fe 0 P (roundPost P l R) e b) (λ_ _ _=>False)
section
variable{P:YH}{W w0:YM}{Φ:YM->Prop}{c:Mm}{R:XS->YM->Prop}{l D:Nat}{fn:XU}{tmps:Array YI}{ps:Array Tmp}{assign body:Code}
theorem Ok.putL{Δ:List XY}{β:Nat->Nat}{σ:AS}{a:Act}{w:YM}{r y:Loop}(f:Ok Δ W β σ (RF W w0 l r) a w)(z:W.heap.size<=l):Ok Δ W β σ (RF W w0 l y) a (w.putObj l (.loop y)):=by
 have t:=f.phi.2.2;have j:l<w.heap.size:=(AE.1 t).1;have u:∀k,(σ.box k).isSome=true->β k≠l:=λk g e=>by
  obtain⟨cs,s⟩:=AI.1 g;obtain⟨_,ty,v⟩:=f.box k cs s;rw[e,t]at v;cases v
 refine⟨f.tmps,f.defers,⟨f.bel.os,f.bel.tape,f.bel.output,by rw[World.putObj_size];exact f.bel.size,λk g=>by rw[World.putObj_heap_other I];exact f.bel.block k g⟩,λk cs g=> ?_,f.inj,λA p=> ?_⟩
 .obtain⟨h,ty,m⟩:=f.box k cs g;exact⟨h,ty,by rw[World.putObj_heap_other (u k (by rw[g];rfl))];exact m⟩
 .have x:=p.size;rw[World.putObj_size]at x;have g:=f.keep (A.putObj l (.loop r)) ⟨by rw[World.putObj_size];exact x,λb h m o=>by
   by_cases e:b=l
   .subst e;rw[World.putObj_heap_same I,t]
   .rw[World.putObj_heap_other e,p.heap b h (by rw[World.putObj_size];exact m) o,World.putObj_heap_other e]⟩
  refine⟨by have:=g.1;rw[World.putObj_size]at this;exact this,λb h m o=> ?_,?_⟩
  .have:=g.2.1 b h m o;rw[World.putObj_heap_other o]at this;exact this
  .rw[p.heap l z (by rw[World.putObj_size];exact j) u,World.putObj_heap_same j]
theorem vt [Rnd](b:FQ c=true)(m:W.heap.size<=l)(h:K0 P [] W (roundPost P l R) (RF W w0 l (Xf fn tmps ps assign body D .busy)) ⟨.code body,[],c.st⟩):
 K0 P [] W (nt P body l R) (RF W w0 l (Xf fn tmps ps assign body D .ready)) c:=by
 obtain⟨k,o,σ⟩:=c;replace h:=h.get;refine⟨?_⟩;unfold FQ at b;split at b
 .rename_i g f;simp only at g f;subst g;subst f;intro e β a w j;exact⟨_,run_beginRound j.phi.2.2 rfl,h e β a _ (j.putL m)⟩
 .cases b
theorem vm [Rnd]{ι:Type}{G:ι->YM->Prop}{L:List Nat}(s:ι)(m:FQ c=true)(N:W.heap.size<=l)(A:l<w0.heap.size)(o:l∉L)(E:w0.heap[l]? =some (.loop (Xf fn tmps ps assign body D .ready)))(h:Below W.heap.size W w0)
 (K:∀w,Below W.heap.size W w->(∀u,cn W w u->Φ u)->w.heap[l]? =some (.loop (Xf fn tmps ps assign body D .busy))/\w0.heap.size<=w.heap.size/\(∀b,W.heap.size<=b->b<w0.heap.size->b≠l->b∉L->w.heap[b]? =w0.heap[b]?)/\∀u,w.heap.size<=u.heap.size->(∀b,b∈L\/(w0.heap.size<=b/\b<w.heap.size)->u.heap[b]? =w.heap[b]?)->G s u):
 K0 P [] W (roundPost P l (L4 w0 L (λ_:ι=> .bool true) G)) Φ c:=by
 obtain⟨B,M,σ⟩:=c;refine⟨?_⟩;unfold FQ at m;split at m
 .rename_i f j;simp only at f j;subst f;subst j;intro F β a w g;obtain⟨J,Z,H,y⟩:=K w g.bel λu v=>g.keep u ⟨v.1,λb f j _=>v.2 b f j⟩
  refine⟨_,_,run_endRound none J,s,rfl,⟨g.bel.os.trans h.os.symm,g.bel.tape.trans h.tape.symm,g.bel.output.trans h.output.symm,by rw[World.putObj_size];exact Z,λk z p=> ?_⟩,λu x k2=>y u (by rw[World.putObj_size]at x;exact x) λb t=> ?_⟩
  .by_cases e:k=l
   .subst e;rw[World.putObj_heap_same I,E];rfl
   .rw[World.putObj_heap_other e];rcases CE k W.heap.size with f|f
    .rw[g.bel.block k f,h.block k f]
    .exact H k f z e p
  .rw[k2 b (by rw[World.putObj_size];exact t),World.putObj_heap_other];rintro rfl;rcases t with f|f
   .exact o f
   .omega
 .cases m
def Bx(c:Mm):Option (XU×Array YI×Array Tmp×Code×Code):=
 match c.foc with
 | .code (.rangeFunc g ps assign body)=>match c.st.eval g with
  | .v (.func (.func gf) first lb)=>if first.isEmpty&&c.st.tmps.all AV.isV then some (gf,lb,ps,assign,body)else none
  |_=>none
 |_=>none
def l9(ps:Array Tmp)(vs:Array YI)(l:List AV):List AV:=(ps.toList.zip vs.toList).foldl (λt q=>t.set q.1 (.v q.2)) l
def a7(c:Mm):Mm:=⟨.out .normal,c.k,⟨c.st.tmps,λ_=>none⟩⟩
theorem LT{β:Nat->Nat}:∀(q:List (Tmp×YI)) (l:List AV) (t:Array YI),t.toList=l.map (AV.conc β)->(q.foldl (λt (p,v)=>t.setIfInBounds p v) t).toList=(q.foldl (λt q=>t.set q.1 (.v q.2)) l).map (AV.conc β)
 | [],_,_,h=>h
 |x::q,l,t,h=>LT q _ _ (by rw[Array.toList_setIfInBounds,h,List.map_set];rfl)
theorem RY:∀(q:List (Tmp×YI)) (l:List AV),l.all AV.isV=true->(q.foldl (λt q=>t.set q.1 (.v q.2)) l).all AV.isV=true
 | [],_,h=>h
 |x::q,l,h=>RY q _ (AN.2 λy b=>by
  rcases List.mem_or_eq_of_mem_set b with b|rfl
  .exact AN.1 h y b
  .rfl)
theorem LB{l:List AV}(h:l.all AV.isV=true):(AS.mk l λ_=>none).wf:=by
 refine⟨λx b k e=> ?_,λj cs f=>by cases f⟩;have:=AN.1 h x b;cases x<;>first|(simp[AV.ids]at e;done)|cases this
theorem Ro{β b:Nat->Nat}{l:List AV}(h:l.all AV.isV=true):l.map (AV.conc β)=l.map (AV.conc b):=
 DG λx e=>by
  have:=AN.1 h x e;cases x<;>first|rfl|cases this
end
theorem ws{P:YH}{Δ:List XY}{W:YM}{Q:Exit->Act->YM->Prop}{Φ:YM->Prop}{c:Mm}{gf:XU}{lb:Array YI}{ps:Array Tmp}{assign body:Code}{α:Type}{encs:α->Array YI}{xs:List α}{Pre:YM->Prop}
 (ι:Type) (J:ι->Nat->YM->Prop) (L:ι->List Nat) (G:ι->ι->YM->Prop) (s0:ι)
 (N:Bx c=some (gf,lb,ps,assign,body)) (hit:∀w,Below W.heap.size W w->Φ w->Jt P W gf lb encs xs Pre) (he:∀args w,(callFunc gf args).run P w= .ok (.enter gf args) w) (hps:∀x,(encs x).size=ps.size)
 (hPre:∀s k u,J s k u->Pre u) (hL:∀s k,Ub W (L s) (J s k)) (hJ:∀s k s',Tg (L s) (J s k) (G s s') (J s' (k+1))) (T:∀s k,D3 (J s k)) (h0:∀w,Φ w->J s0 0 w)
 (hb:∀(l:Nat) (s:ι) (k:Nat) (x:α) (w0:YM) (fn:XU) (tmps:Array YI) (D:Nat),Below W.heap.size W w0->W.heap.size<=l->l<w0.heap.size->l∉L s->w0.heap[l]? =some (.loop (Xf fn tmps ps assign body D .ready))->xs[k]? =some x->
  (∀r u,RF W w0 l r u->J s k u)->∀[R:Rnd],R.r=some l->
  K0 P [] W (nt P body l (L4 w0 (L s) (λ_:ι=> .bool true) (G s))) (RF W w0 l (Xf fn tmps ps assign body D .ready)) ⟨.code assign,[],⟨l9 ps (encs x) c.st.tmps,λ_=>none⟩⟩)
 (hd:∀s D,W.heap.size<=D->K0 P (⟨.collected D,#[]⟩::Δ) W Q (λu=>J s xs.length u/\u.heap[D]? =some (.deferred (some []))) (a7 c)):K0 P Δ W Q Φ c:=by
 obtain⟨foc,k,σ⟩:=c;replace hd:=λs D hD=>(hd s D hD).get
 refine⟨?_⟩;unfold Bx at N;simp only at N hb;split at N
 .rename_i g ps' wI bd';split at N
  .rename_i gf' first lb' hg;split at N
   .rename_i H;simp only[AL]at H;simp only[AW,AX]at N;obtain⟨rfl,rfl,rfl,rfl,rfl⟩:=N;intro hwf β a w S;show(Code.rangeFunc g ps' wI bd').wpIn Fe 0 P (post P Q k) a w;refine wpIn_rangeFunc ?_;intro fn _;obtain⟨o,f⟩:∃o:LoopState->Loop,o=Xf fn a.tmps ps' wI bd' w.heap.size:=⟨_,rfl⟩
    obtain⟨A,z⟩:∃A,(w.alloc (.deferred (some []))).alloc (.loop (o .ready))=A:=⟨_,rfl⟩
    have hsz:A.heap.size=w.heap.size+2:=by rw[<-z];simp
    have hwl:W.heap.size<=w.heap.size:=S.bel.size;have hl1:A.heap[w.heap.size+1]? =some (.loop (o .ready)):=by
     rw[<-z];have:=World.alloc_heap_new (w.alloc (.deferred (some []))) (.loop (o .ready));rwa [World.size_alloc]at this
    have hk1:A.heap[w.heap.size]? =some (.deferred (some [])):=by
     rw[<-z];exact(Below.heap_alloc _ _ _ Zs).trans (World.alloc_heap_new w _)
    have hbel:Below W.heap.size W A:=by
     rw[<-z];exact S.bel.trans (((Below.refl _ w).alloc hwl _).alloc Zp _)
    have hold:∀b,b<w.heap.size->A.heap[b]? =w.heap[b]? :=λb hb=>by
     rw[<-z,Below.heap_alloc _ _ _ Zp,Below.heap_alloc _ _ _ hb]
    have hag:∀u,cn W A u->J s0 0 u:=λu B=>h0 u (S.keep u ⟨by have:=B.1;omega,λb X h2 _=>by rw[B.2 b X I];exact hold b h2⟩)
    have wJ:first= #[]:=Array.isEmpty_iff.1 H.1;subst wJ;have hge:a.eval g= .func (.func gf') #[] lb':=by rw[S.eval,hg];rfl
    obtain⟨JJ,m⟩:∃JJ:ι->Nat->YM->Prop,JJ=λs k u=>J s k u/\u.heap[w.heap.size+1]? =some (.loop (o .ready))/\u.heap[w.heap.size]? =some (.deferred (some [])):=⟨_,rfl⟩
    have hnl:∀s k u,JJ s k u->w.heap.size+1∉L s/\w.heap.size∉L s:=λs k u h=>by
     rw[m]at h;refine⟨λhm=> ?_,λhm=> ?_⟩
     .obtain⟨_,cs,ty,own,hh⟩:=hL s k u h.1 _ hm;rw[h.2.1]at hh;cases hh
     .obtain⟨_,cs,ty,own,hh⟩:=hL s k u h.1 _ hm;rw[h.2.2]at hh;cases hh
    refine⟨w.heap.size+1,[{target:= .collected w.heap.size,args:= #[]}],A,{target:= .fn (.func gf') lb',args:= #[.func (.yield (w.heap.size+1)) #[] #[]]},A,gf',
     #[.func (.yield (w.heap.size+1)) #[] #[]]++lb',A,?_,?_,λ_ _=>trivial,?_,λh=>(by cases h),?_⟩
    .rw[<-z,f];exact run_enterLoop_outer _ _ _ _ _
    .simp only[resolve,hge];simp[go_sem]
    .simp[invoke,go_sem,he]
    .refine TK.2 (Calls.mono (hit w S.bel S.phi (w.heap.size+1) ι JJ L G s0 A hbel (λs k u h=>hPre s k u (by rw[m]at h;exact h.1)) (λs k u h=>hL s k u (by rw[m]at h;exact h.1)) ?_ ?_ ?_) ?_)
     .intro s j s' wa u e1 e2 F hG;have hn:=hnl s j wa F;rw[m]at F ⊢;exact⟨hJ s j s' wa u e1 e2 F.1 hG,by rw[<-e2 _ hn.1];exact F.2.1,by rw[<-e2 _ hn.2];exact F.2.2⟩
     .intro s j x u B hju hx;have t:=hju u ⟨AA _,λ_ _ _=>rfl⟩;have hn:=hnl s j u t;have U:=t;rw[m]at U;obtain⟨hj1,y,hj3⟩:=U;have Z:w.heap.size+1<u.heap.size:=(AE.1 y).1;have hy:=run_yield (P:=P) (args:=encs x) y (by rw[f];exact hps x);rw[f]at hy y;refine⟨fn,_,wI,bd',hy,roundIn_of_wpIn trivial ?_⟩
      letI R:Rnd:=⟨some (w.heap.size+1)⟩
      have hRF:∀r v,RF W u (w.heap.size+1) r v->J s j v:=λr v Y=>by
       have X:=hju (v.putObj (w.heap.size+1) (.loop (o .ready))) ⟨by rw[World.putObj_size];exact Y.1,λb q1 q2=>by
        by_cases e:b=w.heap.size+1
        .subst e;rw[World.putObj_heap_same (by have:=Y.1;omega),f];exact y.symm
        .rw[World.putObj_heap_other e];exact Y.2.1 b q1 q2 e⟩
       rw[m]at X;refine T s j _ _ (by rw[World.putObj_size];exact AA _) (λb cs ty own M=> ?_) X.1
       by_cases e:b=w.heap.size+1
       .subst e;rw[World.putObj_heap_same (by have:=Y.1;omega)]at M;cases M
       .rw[World.putObj_heap_other e]
      have hgood:=(hb (w.heap.size+1) s j x u fn a.tmps w.heap.size B I Z hn.1 y hx hRF (R:=R) rfl).get;refine hgood (LB (RY _ _ H.2)) (λ_=>0) _ u ⟨?_,rfl,B,λk cs p=>(by cases p),λk k' p=>(by cases p),λv Y=>⟨Y.size,λb q1 q2 _=>Y.heap b q1 q2 (λk p=>by cases p),?_⟩⟩
      .have key:=LT (β:=λ_=>0) (ps'.toList.zip (encs x).toList) σ.tmps a.tmps (by rw[S.tmps];exact Ro H.2);refine Eq.trans (congrArg Array.toList ?_) key;rw[<-Array.toList_zip,Array.foldl_toList];rfl
      .rw[Y.heap _ I Z (λk p=>by cases p)];exact y
     .intro u B;rw[m];exact⟨hag u B,by rw[B.2 _ I I];exact hl1,by rw[B.2 _ hwl I];exact hk1⟩
     .rintro e w' ⟨⟨v,rfl⟩,E,hsw,s,hjs⟩;have t:=hjs w' ⟨AA _,λ_ _ _=>rfl⟩;rw[m]at t;have Z:w.heap.size+1<w'.heap.size:=I
      refine⟨none,_,by have:=run_endLoop (P:=P) t.2.1 (by rw[f];simp[Xf]);rw[f]at this;exact this,?_⟩;refine hd s w.heap.size hwl (LB H.2) β _ _ ⟨S.tmps,by show _::a.defers=_;rw[S.defers],⟨E.os,E.tape,E.output,by rw[World.putObj_size];exact E.size,λk p=>by rw[World.putObj_heap_other I];exact E.block k p⟩,λk cs p=>(by cases p),λk k' p=>(by cases p),λu B=> ?_⟩;have hsu:=B.size;rw[World.putObj_size]at hsu;have X:=hjs (u.putObj (w.heap.size+1) (.loop (o .ready))) ⟨by rw[World.putObj_size];exact hsu,λb q1 q2=>by
       by_cases e:b=w.heap.size+1
       .subst e;rw[World.putObj_heap_same I];exact t.2.1.symm
       .rw[World.putObj_heap_other e,B.heap b q1 (by rw[World.putObj_size];exact q2) (λk p=>by cases p),World.putObj_heap_other e]⟩
      rw[m]at X;refine⟨T s _ _ _ (by rw[World.putObj_size];exact AA _) (λb cs ty own M=> ?_) X.1,?_⟩
      .by_cases e:b=w.heap.size+1
       .subst e;rw[World.putObj_heap_same I]at M;cases M
       .rw[World.putObj_heap_other e]
      .have:=X.2.2;rw[World.putObj_heap_other I]at this;exact this
   .cases N
  .cases N
 .cases N
theorem u4{P:YH}{f:XU}{fn:Func}{args:Array YI}{W w:YM}{R:XS->YM->Prop}(p:P.funcs[f]? =some fn)(u:fn.body.isSome=true)(o:Below W.heap.size W w)
 (h:K0 P [] W (bodyPostM Fence.wide 0 P fn R) (cn W w) (Rs fn args)):XW P f args w R:=by
 obtain⟨c,g⟩:=AI.1 u;replace h:=h.get;simp only[Qq,Rs,g,CJ]at h;refine callsIn_wide.1 (callsIn_of_wp_marks (n:=0) p g trivial (h ?_ (λ_=>0) _ w ?_))
 .refine⟨λx m k e=> ?_,λj cs t=>by cases t⟩;simp only[AZ,DJ,List.mem_replicate]at m;rcases m with ⟨q,_,rfl⟩|⟨_,rfl⟩<;>simp[AV.ids]at e
 .refine⟨?_,rfl,o,λk cs e=>(by cases e),λk y e=>(by cases e),λz l=>⟨l.size,λb s v=>l.heap b s v (λk e=>by cases e)⟩⟩;simp[CR,AV.conc]
theorem vK{P:YH}{W:YM}{c:Mm}{fn:Func}{R:XS->YM->Prop}{v:YI}{J:YM->Prop}{D:Nat}(p:D3 J)(Z:W.heap.size<=D)(h:A9 P fn c=some v)
 (G:∀w,Below W.heap.size W w->(∀u,cn W w u->J u)->R (.returned v) w):K0 P [⟨.collected D,#[]⟩] W (bodyPostM Fence.wide 0 P fn R) (λu=>J u/\u.heap[D]? =some (.deferred (some []))) c:=by
 have t:∀{σ:AS} {β:Nat->Nat} {a:Act} {w:YM} {xs:List YI},σ.wf->Ok [⟨.collected D,#[]⟩] W β σ (λu=>J u/\u.heap[D]? =some (.deferred (some []))) a w->T0 P σ fn.results.toList=some xs->Hm xs=v->LeavesInM Fence.wide 0 P fn a.tmps R a.defers .returning w:=by
  intro σ β a w xs j f y z;rw[f.defers];have A:=f.phi.2;have wI:D<w.heap.size:=(AE.1 A).1;have L:∀k,(σ.box k).isSome=true->β k≠D:=λk g e=>by
   obtain⟨cs,l⟩:=AI.1 g;obtain⟨_,ty,F⟩:=f.box k cs l;rw[e,A]at F;cases F
  refine⟨by simp,.inl ⟨D,_,rfl,run_takeDeferred A,?_⟩⟩;have s:Ok [⟨.collected D,#[]⟩] W β σ (λ_=>True) a (w.putObj D (.deferred none)):=⟨f.tmps,f.defers,⟨f.bel.os,f.bel.tape,f.bel.output,by rw[World.putObj_size];exact f.bel.size,λk g=>by rw[World.putObj_heap_other I];exact f.bel.block k g⟩,λk cs g=>by
   obtain⟨B,ty,N⟩:=f.box k cs g;exact⟨B,ty,by rw[World.putObj_heap_other (L k (by rw[g];rfl))];exact N⟩,f.inj,λ_ _=>trivial⟩
  have m:=Vc y s j;rw[z]at m;refine⟨v,m,G _ s.bel λu E=> ?_⟩;have x:=E.1;rw[World.putObj_size]at x;have B:=f.keep (u.putObj D (.deferred (some []))) ⟨by rw[World.putObj_size];exact x,λb H M _=>by
   by_cases e:b=D
   .subst e;rw[World.putObj_heap_same I,A]
   .rw[World.putObj_heap_other e,E.2 b H (by rw[World.putObj_size];exact M),World.putObj_heap_other e]⟩
  refine p _ _ (by rw[World.putObj_size];exact AA _) (λb cs ty own l=> ?_) B.1
  by_cases e:b=D
  .subst e;rw[World.putObj_heap_same I]at l;cases l
  .rw[World.putObj_heap_other e]
 obtain⟨K,k,σ⟩:=c;refine⟨?_⟩;unfold A9 at h;split at h
 .rename_i o g;simp only at o g;subst o;subst g;obtain⟨xs,y,z⟩:=BT.1 h;exact λj β a w f=>t j f y z
 .rename_i o g;simp only at o g;subst o;subst g;obtain⟨xs,y,z⟩:=BT.1 h;exact λj β a w f=>t j f y z
 .cases h
theorem U8{w:YM}{a:XR}{v:YI}(h:w.cell? a=some v):∃cs ty own,w.heap[a.block]? =some (.cells cs ty own):=by
 cases b:w.heap[a.block]? with
 |none=>simp[BM,b]at h
 |some o=>
  cases o with
  |cells cs ty own=>exact⟨_,_,_,rfl⟩
  |_=>simp[BM,b]at h
def Kk{α:Type}(w:YM)(A:YY)(n s:Nat)(cl:α->List YI)(l:List α):Prop:=l.length=n/\∀(k:Nat) (x:α),l[k]? =some x->∃ad,A=some ad/\∀(j:Nat) (v:YI),(cl x)[j]? =some v->w.cell? ((ad.add (k*s)).add j)=some v
theorem Kk.below{α:Type}{w b:YM}{A:YY}{n s:Nat}{cl:α->List YI}{l:List α}(h:Kk w A n s cl l)(g:Below w.heap.size w b):Kk b A n s cl l:=
 ⟨h.1,λk x e=>by obtain⟨ad,c,m⟩:=h.2 k x e;exact⟨ad,c,λj v f=>L5 g (m j v f)⟩⟩
theorem X4(a:XR)(m n:Nat):(a.add m).add n=a.add (m+n):=by
 cases a;by_cases c:m=0<;>by_cases b:n=0<;>simp[Addr.add,c,b,Nat.add_assoc]
theorem Mr{α:Type}{s:Nat}{cl:α->List YI}(c:∀x,(cl x).length=s):∀(l:List α) (k:Nat) (x:α) (j:Nat) (v:YI),l[k]? =some x->(cl x)[j]? =some v->(l.flatMap cl)[k*s+j]? =some v
 | [],k,x,j,v,h,_=>by simp at h
 |y::l,0,x,j,v,h,b=>by
  simp only[List.getElem?_cons_zero,AW]at h;subst h;have e:=(AR.1 b).1;rw[BG,DK,BF,BL e];exact b
 |y::l,k+1,x,j,v,h,b=>by
  rw[CY]at h;have f:=Mr c l k x j v h b;rw[BG,BK (by rw[c];rw[Nat.succ_mul];omega),c];rw[show(k+1)*s+j-s=k*s+j by rw[Nat.succ_mul];omega];exact f
theorem Mt.rows{α:Type}{w:YM}{B n s:Nat}{A:YY}{cl:α->List YI}{l:List α}(o:∀x,(cl x).length=s)(m:l.length=n)(h:Mt w B s A n (l.flatMap cl)):Kk w A n s cl l:=by
 refine⟨m,λk x b=> ?_⟩;have f:=(AR.1 b).1;obtain⟨ad,c,_,e⟩:=h.2 I;refine⟨ad,c,λj v g=> ?_⟩;rw[show(ad.add (k*s)).add j=ad.add (k*s+j)from X4 ad _ _];exact e _ _ (Mr o l k x j v b g)
theorem Kk.lit{α:Type}{w:YM}{g s:Nat}{cl:α->List YI}{l:List α}{t:XX}(b:∀x,(cl x).length=s)(h:Kw t (l.flatMap cl).toArray g w):Kk w (some ⟨g,0,none⟩) l.length s cl l:=by
 refine⟨rfl,λk x e=>⟨_,rfl,λj v c=> ?_⟩⟩;unfold Kw at h;rw[Addr.add_mid,Addr.add_mid];simp only[BM,h,BH,AP,if_false];rw[CL,BF];exact Mr b l k x j v e c
theorem N3{α:Type}{l:List α}{k:Nat}{x:α}(b:l[k]? =some x):l.drop k=x::l.drop (k+1):=by
 obtain⟨h,e⟩:=AR.1 b;rw[<-e];exact CV h
def K9(p:Pt):List YI:=[.int .i64 p.1,.int .i64 p.2]
def vP(p:Pt):Bool:=Lf p.1 p.2
abbrev Km(p:Pt):YI:=pt p.1 p.2
section
variable{w:YM}{X Y:Int}{A:YY}{n c k:Nat}{l:List Pt}{B:Bool}
theorem Lh{ad:XR}(e:A=some ad)(b:k<n):(Kd 296 (.slice A n c) k).run XM w= .ok (.value (.pointer (some (ad.add (k*2))))) w:=by
 rw[e];exact L9 (elem:=74) O O b
theorem M5{ad:XR}{p:Pt}(h:∀(j:Nat) (v:YI),(K9 p)[j]? =some v->w.cell? (ad.add j)=some v):(Ke 74 ad).run XM w= .ok (.value (Km p)) w:=
 Mh (vs:=K9 p) O O h
theorem eo(b:Lf X Y=B):Ca 220 #[pt X Y] w (CU w (.bool (!B))):=uf func220 rfl<|ZR<|ZC (λf e h=>Mg b) λu=>ZW (.bool (!B))
theorem bc(o:Kk w A n 2 K9 l)(F:n<=1000000)(D:l.all vP=B):Ca 256 #[.slice A n c,.func (.func 220) #[] #[]] w (K4 w (λz:{z:Int // decide (z>=0)= !B}=> .int .i64 z.1) λ_ _=>True):=by
 refine uf func256 rfl<|ZR<|uj (ι:={k:Nat // k<=n/\(l.drop k).all vP=B}) 19 (λk=>⟨[vS 0 A n c,vV 1 (.func (.func 220) #[] #[]),vI 7 n,vI 8 k.1],[]⟩) (λ_ _=>True) (λk=>n-k.1) (⟨0,AO _,D⟩) O Zf Zt (λ_ _=>trivial) ?_
 rintro⟨k,E,b⟩ G
 by_cases e:k<n
 case neg=>
  have:B=true:=by rw[<-b,BB (by rw[o.1];omega)];rfl
  refine ZR<|YN ((k:Int)<(n:Int))<|ug O<|ZR<|ZV (.int .i64 (-1)) (λg f h=>⟨⟨-1,by rw[this];rfl⟩,rfl,f,Zv⟩)
 obtain⟨p,s⟩:∃v,l[k]? =some v:=⟨_,AD (by rw[o.1];exact e)⟩
 obtain⟨ad,t,x⟩:=o.2 k p s;rw[N3 s,List.all_cons]at b;refine ZR<|YL ((k:Int)<(n:Int))<|ZA (Kd 296 (.slice A n c) k) (.pointer (some (ad.add (k*2)))) (λg f h=>Lh t e)<|ZA (Ke 74 (ad.add (k*2))) (Km p) (λg f h=>M5 λj v y=>L5 f (x j v y)) ?_
 cases m:vP p
 .rw[m,DZ]at b;refine ZC (λg f h=>eo m) λu=>ZI true<|ug O<|ZR<|ZV (.int .i64 k) (λg f h=>⟨⟨k,by rw[<-b];exact YU I⟩,rfl,f,Zv⟩)
 rw[m,CB]at b;refine ZC (λg f h=>eo m) λu=>ZI false<|YA 8 k e<|ui (⟨k+1,e,b⟩) O Zn Zt (λ_ _=>trivial)
theorem UH(g:Kk w A n 2 K9 l)(e:n<=1000000)(b:l.all vP=B):Ca 219 #[.slice A n c,.func (.func 220) #[] #[]] w (CU w (.bool (!B))):=uf func219 rfl<|ZR<|ZC (λj f h=>bc (c:=c) (g.below f) e b) λz=>ZX (.bool (decide (z.1>=0))) (by rw[z.2])
theorem cE(b:Lf X Y=B):Ca 365 #[pt X Y] w (CU w (.bool (!B))):=uf func365 rfl<|ZR<|ZC (λf e h=>Mg b) λu=>ZW (.bool (!B))
theorem eu(o:Kk w A n 2 K9 l)(F:n<=1000000)(D:l.all vP=B):Ca 256 #[.slice A n c,.func (.func 365) #[] #[]] w (K4 w (λz:{z:Int // decide (z>=0)= !B}=> .int .i64 z.1) λ_ _=>True):=by
 refine uf func256 rfl<|ZR<|uj (ι:={k:Nat // k<=n/\(l.drop k).all vP=B}) 19 (λk=>⟨[vS 0 A n c,vV 1 (.func (.func 365) #[] #[]),vI 7 n,vI 8 k.1],[]⟩) (λ_ _=>True) (λk=>n-k.1) (⟨0,AO _,D⟩) O Zf Zt (λ_ _=>trivial) ?_
 rintro⟨k,E,b⟩ G
 by_cases e:k<n
 case neg=>
  have:B=true:=by rw[<-b,BB (by rw[o.1];omega)];rfl
  refine ZR<|YN ((k:Int)<(n:Int))<|ug O<|ZR<|ZV (.int .i64 (-1)) (λg f h=>⟨⟨-1,by rw[this];rfl⟩,rfl,f,Zv⟩)
 obtain⟨p,s⟩:∃v,l[k]? =some v:=⟨_,AD (by rw[o.1];exact e)⟩
 obtain⟨ad,t,x⟩:=o.2 k p s;rw[N3 s,List.all_cons]at b;refine ZR<|YL ((k:Int)<(n:Int))<|ZA (Kd 296 (.slice A n c) k) (.pointer (some (ad.add (k*2)))) (λg f h=>Lh t e)<|ZA (Ke 74 (ad.add (k*2))) (Km p) (λg f h=>M5 λj v y=>L5 f (x j v y)) ?_
 cases m:vP p
 .rw[m,DZ]at b;refine ZC (λg f h=>cE m) λu=>ZI true<|ug O<|ZR<|ZV (.int .i64 k) (λg f h=>⟨⟨k,by rw[<-b];exact YU I⟩,rfl,f,Zv⟩)
 rw[m,CB]at b;refine ZC (λg f h=>cE m) λu=>ZI false<|YA 8 k e<|ui (⟨k+1,e,b⟩) O Zn Zt (λ_ _=>trivial)
theorem jy(g:Kk w A n 2 K9 l)(e:n<=1000000)(b:l.all vP=B):Ca 219 #[.slice A n c,.func (.func 365) #[] #[]] w (CU w (.bool (!B))):=uf func219 rfl<|ZR<|ZC (λj f h=>eu (c:=c) (g.below f) e b) λz=>ZX (.bool (decide (z.1>=0))) (by rw[z.2])
theorem TX(g:Kk w A n 2 K9 l)(e:n<=1000000)(b:l.all vP=B):Ca 331 #[.slice A n c] w (CU w (.bool B)):=uf func331 rfl<|ZR<|ZC (λj f h=>jy (c:=c) (g.below f) e b) λu=>ZX (.bool (!(!B))) (by rw[Bool.not_not])
end
structure TV where
 a:RV
 b:RV
 c:RV
 d:RV
 e:RV
 f:RV
def TV.cl(t:TV):List YI:=t.a.cl++(t.b.cl++(t.c.cl++(t.d.cl++(t.e.cl++t.f.cl))))
abbrev TV.val(t:TV):YI:= .agg t.cl.toArray
structure N7 where
 a:Rat
 b:Rat
 c:Rat
 d:Rat
 e:Rat
 f:Rat
structure S3(t:TV)(T:N7)(K:Nat)(w:YM):Prop where
 a:Nf t.a T.a K w
 b:Nf t.b T.b K w
 c:Nf t.c T.c K w
 d:Nf t.d T.d K w
 e:Nf t.e T.e K w
 f:Nf t.f T.f K w
structure Th(t:TV)(T:N7)(K:Nat)(w:YM):Prop where
 a:Kn t.a T.a K w
 b:Kn t.b T.b K w
 c:Kn t.c T.c K w
 d:Kn t.d T.d K w
 e:Kn t.e T.e K w
 f:Kn t.f T.f K w
def OE:TV:=⟨Ou,Ou,Ou,Ou,Ou,Ou⟩
def qR(a b c d:Int):N7:=⟨(a:Rat),(b:Rat),(c:Rat),(d:Rat),((0:Int):Rat),((0:Int):Rat)⟩
def P7:N7:=qR 1 0 0 1
def Ad(T:N7):List Nat:=[Bl T.a,Bl T.b,Bl T.c,Bl T.d,Bl T.e,Bl T.f]
def N7.ok(T:N7):Bool:=(Ad T).all λn=>decide (n<=256)
def N7.det(T:N7):Rat:=T.a*T.d-T.b*T.c
def N7.app(T:N7)(x y:Rat):Rat×Rat:=(T.a*x+T.c*y+T.e,T.b*x+T.d*y+T.f)
def N7.comp(T U:N7):N7:=⟨U.a*T.a+U.c*T.b,U.b*T.a+U.d*T.b,U.a*T.c+U.c*T.d,U.b*T.c+U.d*T.d,(U.app T.e T.f).1,(U.app T.e T.f).2⟩
section
variable{t u:TV}{T U:N7}{K K':Nat}{w w':YM}
theorem Th.q(h:Th t T K w):S3 t T K w:=⟨h.a.q,h.b.q,h.c.q,h.d.q,h.e.q,h.f.q⟩
theorem S3.below(h:S3 t T K w)(g:Below w.heap.size w w'):S3 t T K w':=⟨h.a.below g,h.b.below g,h.c.below g,h.d.below g,h.e.below g,h.f.below g⟩
theorem S3.mono(h:S3 t T K w)(g:K<=K'):S3 t T K' w:=⟨h.a.mono g,h.b.mono g,h.c.mono g,h.d.mono g,h.e.mono g,h.f.mono g⟩
theorem Th.mono(h:Th t T K w)(g:K<=K'):Th t T K' w:=⟨h.a.mono g,h.b.mono g,h.c.mono g,h.d.mono g,h.e.mono g,h.f.mono g⟩
theorem Th.cast(h:Th t T K w)(e:T=U):Th t U K w:=by rw[<-e];exact h
end
theorem gZ{r:RV}{q:Rat}{K K':Nat}{w:YM}(h:Kn r q K w)(c:q.num.natAbs<pw K')(b:q.den<pw K'):Kn r q K' w:=⟨U5 h.1 c,U5 h.2 b⟩
theorem f_{n:Nat}(h:A_ n<=256):n<pw 8:=by
 rw[U1];unfold A_ at h;split at h
 .rename_i b;rw[b];exact Nat.two_pow_pos _
 .exact AK Nat.lt_log2_self (BY Zd I)
theorem Dy{r:RV}{q:Rat}{K:Nat}{w:YM}(h:Kn r q K w)(b:Bl q<=256):Kn r q 8 w:=by
 unfold Bl at b;exact gZ h (f_ I) (f_ I)
theorem vT{T:N7}(h:T.ok=true):Bl T.a<=256/\Bl T.b<=256/\Bl T.c<=256/\Bl T.d<=256/\Bl T.e<=256/\Bl T.f<=256:=by
 unfold N7.ok Ad at h;simpa using h
theorem Th.of_ok{t:TV}{T:N7}{K:Nat}{w:YM}(h:Th t T K w)(p:T.ok=true):Th t T 8 w:=by
 obtain⟨o,k,g,m,j,l⟩:=vT p;exact⟨Dy h.a o,Dy h.b k,Dy h.c g,Dy h.d m,Dy h.e j,Dy h.f l⟩
theorem JR{K:Nat}{w:YM}:Nf Ou ((0:Int):Rat) K w:=⟨0,0,⟨vh,rfl,AO _⟩,⟨vh,rfl,AO _⟩,by rw[Cd];rfl⟩
section
variable{t u:TV}{T U:N7}{K:Nat}{w:YM}{r s r2 s2:RV}{p q p2 q2:Rat}
theorem RS:Ca 158 #[t.val] w (CU w t.val):=uf func158 rfl<|ZR<|ZW (t.val)
theorem Dc(k:Nf r p K w)(j:Nf s q K w)(g:Nf r2 p2 K w)(l:Nf s2 q2 K w)(o:2<=K/\K<=10000000):
 Ca 239 #[r.val,s.val,r2.val,s2.val] w (K4 w RV.val λv u=>Kn v (p*q+p2*q2) (4*K+1) u):=by
 refine uf func239 rfl<|ZR<|ZC (λe b h=>Pi (k.below b) (j.below b) I) λm=>ZC (λe b h=>Pi (g.below b) (l.below b) I) λn=>ZC (λe b h=>S5 h.1.2.q h.2.q I) λv=>ZV (RV.val v) (λe b h=>⟨v,rfl,b,λc f k2=>(h c f k2).2.mono I⟩)
theorem V4(j:S3 t T K w)(B:Nf r p K w)(z:Nf s q K w)(A:2<=K/\K<=10000000):
 Ca 209 #[t.val,r.val,s.val] w (K4 w (λv:RV×RV=> .tuple #[v.1.val,v.2.val]) λv u=>Kn v.1 (T.app p q).1 (5*K+2) u/\Kn v.2 (T.app p q).2 (5*K+2) u):=by
 refine uf func209 rfl<|ZR<|ZC (λx g h=>Dc (j.a.below g) (B.below g) (j.c.below g) (z.below g) A) λm=>ZC (λx g h=>S5 h.2.q (j.e.below g) I) λn=>ZC (λx g h=>Dc (j.b.below g) (B.below g) (j.d.below g) (z.below g) A) λk=>ZC (λx g h=>S5 h.2.q (j.f.below g) I) λl=>ZV (.tuple #[n.val,l.val]) (λx g h=>⟨(n,l),rfl,g,λo y k2=>⟨(h o y k2).1.1.2.mono I,(h o y k2).2.mono I⟩⟩)
theorem ep(k:S3 t T K w)(l:S3 u U K w)(y:2<=K/\K<=10000000):
 Ca 193 #[t.val,u.val] w (K4 w TV.val λv w=>Th v (T.comp U) (5*K+2) w):=by
 refine uf func193 rfl<|ZR<|ZC (λo g h=>V4 (l.below g) (k.e.below g) (k.f.below g) y) λx=>ZC (λo g h=>Dc (l.a.below g) (k.a.below g) (l.c.below g) (k.b.below g) y) λa=>ZC (λo g h=>Dc (l.b.below g) (k.a.below g) (l.d.below g) (k.b.below g) y) λb=>ZC (λo g h=>Dc (l.a.below g) (k.c.below g) (l.c.below g) (k.d.below g) y) λc=>ZC (λo g h=>Dc (l.b.below g) (k.c.below g) (l.d.below g) (k.d.below g) y) λd=>ZC (λo g h=>RS (t:=⟨a,b,c,d,x.1,x.2⟩)) λv=>ZV (TV.val ⟨a,b,c,d,x.1,x.2⟩) (λo g h=>⟨⟨a,b,c,d,x.1,x.2⟩,rfl,g,λj m k2=>⟨(h j m k2).1.1.1.1.2.mono I,(h j m k2).1.1.1.2.mono I,(h j m k2).1.1.2.mono I,(h j m k2).1.2.mono I,(h j m k2).1.1.1.1.1.2.1,(h j m k2).1.1.1.1.1.2.2⟩⟩)
theorem Z7(l:S3 t T K w)(o:2<=K/\K<=10000000):
 Ca 131 #[t.val] w (K4 w TV.val λv w=>Th v T K w):=by
 refine uf func131 rfl<|ZR<|uR O<|ZR<|uJ 5 O λ_=>ZI true<|ZC (λm g h=>Lj (l.a.below g) I) λa=>uJ 5 O λ_=>ZI true<|ZC (λm g h=>Lj (l.b.below g) I) λb=>uJ 5 O λ_=>ZI true<|ZC (λm g h=>Lj (l.c.below g) I) λc=>uJ 5 O λ_=>ZI true<|ZC (λm g h=>Lj (l.d.below g) I) λd=>uJ 5 O λ_=>ZI true<|ZC (λm g h=>Lj (l.e.below g) I) λe=>uJ 5 O λ_=>ZI true<|ZC (λm g h=>Lj (l.f.below g) I) λf=>ZI false<|ZV (TV.val ⟨a,b,c,d,e,f⟩) (λm g h=>⟨⟨a,b,c,d,e,f⟩,rfl,g,λj k k2=>⟨(h j k k2).1.1.1.1.1.2,(h j k k2).1.1.1.1.2,(h j k k2).1.1.1.2,(h j k k2).1.1.2,(h j k k2).1.2,(h j k k2).2⟩⟩)
theorem Sl(g:S3 t T K w)(j:2<=K/\K<=10000000):
 Ca 194 #[t.val] w (K4 w TV.val λv w=>Th v T K w):=by
 refine uf func194 rfl<|ZR<|ZC (λe b h=>Z7 (g.below b) j) λn=>ZC (λe b h=>RS (t:=n)) λv=>ZV (TV.val n) (λe b h=>⟨n,rfl,b,λc f k2=>(h c f k2).1.2⟩)
theorem Yk(f:S3 t T K w)(l:2<=K/\K<=10000000):
 Ca 134 #[t.val] w (K4 w RV.val λv w=>Kn v T.det (4*K+1) w):=by
 refine uf func134 rfl<|ZR<|ZC (λj e h=>Pi (f.a.below e) (f.d.below e) I) λm=>ZC (λj e h=>Pi (f.b.below e) (f.c.below e) I) λn=>ZC (λj e h=>Aj h.1.2.q h.2.q I) λv=>ZV (RV.val v) (λj e h=>⟨v,rfl,e,λg k k2=>(h g k k2).2.mono I⟩)
theorem gN(y:S3 t T K w)(D:2<=K/\K<=10000000):
 Ca 88 #[t.val] w (CU w (.bool T.ok)):=by
 have j:∀n∈Ad T,((n:Int)>256)->T.ok=false:=λn z h=>by
  unfold N7.ok;rw[List.all_eq_false];exact⟨n,z,by simp;omega⟩
 refine uf func88 rfl<|ZR<|ZC (λl k h=>Z7 (y.below k) D) λn=>uR O<|ZR<|uJ 4 O λ_=>ZI true<|ZC (λl k h=>Sw h.2.a.q I) λu=>uP (decide (((Bl T.a:Nat):Int)>256)) O (λg=> ?_) (λg=> ?_)
 .exact uv O (stop:=1000) 6000 _<|ZX (.bool false) (by rw[j (Bl T.a) (by simp[Ad]) (YP g)])
 have v:=YO g;clear g;refine ZR<|uJ 4 O λ_=>ZI true<|ZC (λl k h=>Sw h.1.2.b.q I) λu=>uP (decide (((Bl T.b:Nat):Int)>256)) O (λg=> ?_) (λg=> ?_)
 .exact uv O (stop:=1000) 6000 _<|ZX (.bool false) (by rw[j (Bl T.b) (by simp[Ad]) (YP g)])
 have o:=YO g;clear g;refine ZR<|uJ 4 O λ_=>ZI true<|ZC (λl k h=>Sw h.1.1.2.c.q I) λu=>uP (decide (((Bl T.c:Nat):Int)>256)) O (λg=> ?_) (λg=> ?_)
 .exact uv O (stop:=1000) 6000 _<|ZX (.bool false) (by rw[j (Bl T.c) (by simp[Ad]) (YP g)])
 have x:=YO g;clear g;refine ZR<|uJ 4 O λ_=>ZI true<|ZC (λl k h=>Sw h.1.1.1.2.d.q I) λu=>uP (decide (((Bl T.d:Nat):Int)>256)) O (λg=> ?_) (λg=> ?_)
 .exact uv O (stop:=1000) 6000 _<|ZX (.bool false) (by rw[j (Bl T.d) (by simp[Ad]) (YP g)])
 have A:=YO g;clear g;refine ZR<|uJ 4 O λ_=>ZI true<|ZC (λl k h=>Sw h.1.1.1.1.2.e.q I) λu=>uP (decide (((Bl T.e:Nat):Int)>256)) O (λg=> ?_) (λg=> ?_)
 .exact uv O (stop:=1000) 6000 _<|ZX (.bool false) (by rw[j (Bl T.e) (by simp[Ad]) (YP g)])
 have B:=YO g;clear g;refine ZR<|uJ 4 O λ_=>ZI true<|ZC (λl k h=>Sw h.1.1.1.1.1.2.f.q I) λu=>uP (decide (((Bl T.f:Nat):Int)>256)) O (λg=> ?_) (λg=> ?_)
 .exact uv O (stop:=1000) 6000 _<|ZX (.bool false) (by rw[j (Bl T.f) (by simp[Ad]) (YP g)])
 have E:=YO g;clear g;refine ZR<|ZI false ?_
 have m:T.ok=true:=by unfold N7.ok Ad;simp only[List.all_cons,List.all_nil,Bool.and_true,AL,decide_eq_true_eq];exact⟨by omega,by omega,by omega,by omega,by omega,by omega⟩
 exact ZX (.bool true) (by rw[m])
theorem Oj{B:Bool}(c:T.ok=B)(b:S3 t T K w)(e:2<=K/\K<=10000000):Ca 88 #[t.val] w (CU w (.bool B)):=by subst c;exact gN b e
theorem nC{a b c d:Int}(o: -9223372036854775808<=a/\a<=9223372036854775807)(A: -9223372036854775808<=b/\b<=9223372036854775807)(m: -9223372036854775808<=c/\c<=9223372036854775807)(B: -9223372036854775808<=d/\d<=9223372036854775807):
 Ca 109 #[.int .i64 a,.int .i64 b,.int .i64 c,.int .i64 d] w (K4 w TV.val λv w=>Th v (qR a b c d) 2 w):=by
 refine uf func109 rfl<|ZR<|ZC (λe g h=>Ki a e o.1 o.2) λx=>ZC (λe g h=>Ki b e A.1 A.2) λy=>ZC (λe g h=>Ki c e m.1 m.2) λz=>ZC (λe g h=>Ki d e B.1 B.2) λi=>ZC (λe g h=>Ki 0 e Zd Zd) λj=>ZC (λe g h=>Ki 0 e Zd Zd) λk=>ZC (λe g h=>RS (t:=⟨x,y,z,i,j,k⟩)) λv=>ZV (TV.val ⟨x,y,z,i,j,k⟩) (λe g h=>⟨⟨x,y,z,i,j,k⟩,rfl,g,λf l k2=>⟨(h f l k2).1.1.1.1.1.1.2,(h f l k2).1.1.1.1.1.2,(h f l k2).1.1.1.1.2,(h f l k2).1.1.1.2,(h f l k2).1.1.2,(h f l k2).1.2⟩⟩)
theorem Ir:Ca 66 #[] w (K4 w TV.val λv w=>Th v P7 2 w):=by
 refine uf func66 rfl<|ZR<|ZC (λj f h=>nC (a:=1) (b:=0) (c:=0) (d:=1) Zd Zd Zd Zd) λx=>ZV (TV.val x) (λj f h=>⟨x,rfl,f,λe g k2=>(h e g k2).2⟩)
end
section
variable{P:YH}{w:YM}{l m:YX}{t:XX}
def C4(b:BinOp)(t:XX)(x y:XZ)(u v:YI):Sem Next:=(do eqGuard b t x y u v;binOp b t u v) >>= λv=>pure (.value v)
def sK(t:XX)(s:YI)(i:Int):Sem Next:=Instr.index t s (.int .i64 i) >>= λv=>pure (.value v)
end
def U7(x:Int):Bool:=decide (-9223372036854775808<=x/\x<=9223372036854775807)
def Jy(x:Int):Int:=if U7 x then x else 0
theorem Yb{x:Int}(b: -9223372036854775808<=x)(c:x<=9223372036854775807):U7 x=true/\Jy x=x:=by
 have h:U7 x=true:=YU ⟨b,c⟩;exact⟨h,by rw[Jy,h];rfl⟩
theorem E3{x:Int}(h:¬(-9223372036854775808<=x/\x<=9223372036854775807)):U7 x=false/\Jy x=0:=by
 have h:U7 x=false:=YV h;exact⟨h,by rw[Jy,h];rfl⟩
theorem NI{y:Nat}(b:y<4294967296):bits .or .u64 0 (y:Int)=(y:Int):=by
 rw[show(0:Int)=((0:Nat):Int)from rfl,u64_or_nat _ _ I I,Nat.zero_or]
theorem kz{w:YM}{ad:XR}{n c k:Nat}{l:List Nat}(h:In w (some ad) n c l)(b:k<n):w.cell? (ad.add k)=some (.int .u32 (dg l k:Int)):=by
 obtain⟨e,g,f⟩:=h.at_ b;cases g;exact f
theorem HW{k:Nat}(h:k<18446744073709551616):XP.wrap (k:Int)=(k:Int):=by rw[M4];omega
section
variable{w:YM}{a:SV}{x:Int}{K k:Nat}{d:DV}{l:YX}
theorem tl{l:List Nat}(h:l.length=1):val l=dg l 0:=by
 match l,h with
 | [a],_=>simp[val,dg]
theorem sQ{l:List Nat}(h:l.length=2):val l=dg l 1*4294967296+dg l 0:=by
 match l,h with
 | [a,b],_=>simp[val,dg];omega
theorem dV{l:List Nat}(h:Pe l)(b:2<l.length):18446744073709551616<=val l:=by
 have f:=h.pos (by intro e;rw[e]at b;simp at b);have c:=C0 (show 2<=l.length-1 by omega);rw[U1]at c;omega
theorem I7{k:Nat}(h:k<=9223372036854775808):XQ.wrap (XP.wrap (0- (k:Int)))= -(k:Int):=by rw[M4,IntKind.wrap_i64];omega
theorem LZ{k:Nat}(h:k<9223372036854775808):XQ.wrap (k:Int)=(k:Int):=by rw[IntKind.wrap_i64];omega
theorem kS{k:Nat}(h:k<4294967296):XP.wrap ((k:Int)*2 ^ 32)=(k:Int)*4294967296:=by rw[M4];omega
theorem Ig(ia:Sx a x K w)(Q:K<=274877906944):Ca 262 #[a.val] w (CU w (.tuple #[.int .i64 (Jy x),.bool (U7 x)])):=by
 have M:=ia.zi;rw[<-ia.abs]at M;have v:a.s=true->x= -(x.natAbs:Int):=λh=>by rw[h]at M;simp[zi]at M;omega
 have t:a.s=false->x=(x.natAbs:Int):=λh=>by rw[h]at M;simp[zi]at M;omega
 refine uf func262 rfl<|ZR<|ZC (λz y h=>KC (ia.d.below y) Q) λm=> ?_
 obtain⟨A,n,c,l⟩:=m;refine um (p:=l.length=n/\val l=x.natAbs/\Pe l) (λz y h=>⟨h.2.1.1.1.len,h.2.1.1.2.1,h.2.1.2⟩) O (λR=> ?_);obtain⟨wI,E,L⟩:=R
 by_cases S:2<n
 case pos=>
  have J:=dV L I;rw[E]at J;have D:=E3 (x:=x) I;have N:n<=274877906944:=by have q:=L.length_le (k:=K) (by rw[E];exact ia.lt);omega
  exact uR O<|ZS 3<|ZT 15 (.bool (decide (XQ.wrap ((n:Int)-1)>=0))) (.bool true) (by rw[AM _ I,YU I])<|ul (decide ((n:Int)<=2)) false O (YV I)<|ZS 4<|YE 34 ((n:Int)>2) I<|ZI true<|ZX (.tuple #[.int .i64 0,.bool false]) (by rw[D.1,D.2])
 have b:∀{ad:XR} {u:YM} {j:Nat},GJ ⟨some ad,n,c,l⟩ x.natAbs K u->j<n->u.cell? (ad.add j)=some (.int .u32 (dg l j:Int)):=λq P=>kz q.1.1.1 P
 obtain rfl|rfl|rfl:n=0\/n=1\/n=2:=I
 .have Z:x=0:=by rw[BP.1 wI]at E;simp[val]at E;omega
  refine uR O<|ZR<|ZI false<|ZI false<|uP (a.s) O (λo=> ?_) (λo=> ?_)
  .exact ZR<|ZX (.tuple #[.int .i64 0,.bool true]) (by rw[Z];rfl)
  .exact ZR<|ZX (.tuple #[.int .i64 0,.bool true]) (by rw[Z];rfl)
 .have H:=L.1 0;rw[tl wI]at E;refine um (p:=∃ad,A=some ad) (λz y h=>by obtain⟨ad,F,_⟩:=h.2.1.1.1.at_ (k:=0) (by show 0<1;decide);exact⟨ad,F⟩) O (λF=> ?_);obtain⟨ad,rfl⟩:=F;refine uR O<|ZR<|ZI true<|ZA (Kd 49 (.slice (some ad) 1 c) ((0:Nat):Int)) (.pointer (some (ad.add 0))) (λz y h=>Uh (elem:=92) O O Zd)<|uw (Ke 92 (ad.add 0)) (.int .u32 (dg l 0:Int)) O (λz y h=>Kh O (b h.2 Zd))<|ZS 7<|uh 28 (.int .u64 (XP.wrap (dg l 0:Int))) (.int .u64 (dg l 0:Int)) O (by rw[HW I])<|ZS 8<|ZT 29 (.int .u64 (bits .or .u64 0 (dg l 0:Int))) (.int .u64 (x.natAbs:Int)) (by rw[NI H,E])<|uu false O<|ZS 7<|YF 37 ((x.natAbs:Int)>9223372036854775808) I<|ZS 10<|ZT 40 (.bool ((x.natAbs:Int)==9223372036854775808)) (.bool false) (by rw[YR.2 I])<|ZI false<|uP (a.s) O (λo=> ?_) (λo=> ?_)
  .exact ZR<|ZX (.tuple #[.int .i64 (XQ.wrap (XP.wrap (0- (x.natAbs:Int)))),.bool true]) (by have e:=v o;have f:=Yb (x:=x) I I;rw[f.1,f.2,I7 I,<-e])
  .exact ZR<|ZX (.tuple #[.int .i64 (XQ.wrap (x.natAbs:Int)),.bool true]) (by have e:=t o;have f:=Yb (x:=x) I I;rw[f.1,f.2,LZ I,<-e])
 .have H:=L.1 0;have G:=L.1 1;rw[sQ wI]at E;refine um (p:=∃ad,A=some ad) (λz y h=>by obtain⟨ad,F,_⟩:=h.2.1.1.1.at_ (k:=0) (by show 0<2;decide);exact⟨ad,F⟩) O (λF=> ?_);obtain⟨ad,rfl⟩:=F;refine uR O<|ZR<|ZI true<|ZA (Kd 49 (.slice (some ad) 2 c) ((1:Nat):Int)) (.pointer (some (ad.add 1))) (λz y h=>Uh (elem:=92) O O Zd)<|uw (Ke 92 (ad.add 1)) (.int .u32 (dg l 1:Int)) O (λz y h=>Kh O (b h.2 Zd))<|ZS 7<|uh 28 (.int .u64 (XP.wrap (dg l 1:Int))) (.int .u64 (dg l 1:Int)) O (by rw[HW I])<|ZS 8<|ZT 29 (.int .u64 (bits .or .u64 0 (dg l 1:Int))) (.int .u64 (dg l 1:Int)) (by rw[NI G])<|ZI true<|ZA (Kd 49 (.slice (some ad) 2 c) ((0:Nat):Int)) (.pointer (some (ad.add 0))) (λz y h=>Uh (elem:=92) O O Zd)<|uw (Ke 92 (ad.add 0)) (.int .u32 (dg l 0:Int)) O (λz y h=>Kh O (b h.2 Zd))<|ZS 7<|uh 28 (.int .u64 (XP.wrap (dg l 0:Int))) (.int .u64 (dg l 0:Int)) O (by rw[HW I])<|uh 23 (.int .u64 (XP.wrap ((dg l 1:Int)*2 ^ 32))) (.int .u64 ((dg l 1:Int)*4294967296)) O (by rw[kS G])<|ZS 8<|ZT 29 (.int .u64 (bits .or .u64 ((dg l 1:Int)*4294967296) (dg l 0:Int))) (.int .u64 (x.natAbs:Int)) (by rw[G1 G H,E])<|uu false O<|ZS 7 ?_
  by_cases g:9223372036854775808<x.natAbs
  case pos=>
   have D:=E3 (x:=x) I;exact YE 37 ((x.natAbs:Int)>9223372036854775808) I<|ZI true<|ZX (.tuple #[.int .i64 0,.bool false]) (by rw[D.1,D.2])
  refine YF 37 ((x.natAbs:Int)>9223372036854775808) I<|ZS 10 ?_
  by_cases q:x.natAbs=9223372036854775808
  case pos=>
   refine ZT 40 (.bool ((x.natAbs:Int)==9223372036854775808)) (.bool true) (by rw[YQ.2 I])<|uP (!a.s) O (λo=> ?_) (λo=> ?_)
   .have B:a.s=false:=by revert o;cases a.s<;>simp
    have D:=E3 (x:=x) (by have e:=t B;omega);exact ZR<|ZX (.tuple #[.int .i64 0,.bool false]) (by rw[D.1,D.2])
   .have B:a.s=true:=by revert o;cases a.s<;>simp
    exact ZR<|ZJ (a.s) true (B)<|ZX (.tuple #[.int .i64 (XQ.wrap (XP.wrap (0- (x.natAbs:Int)))),.bool true]) (by have e:=v B;have f:=Yb (x:=x) I I;rw[f.1,f.2,I7 I,<-e])
  refine ZT 40 (.bool ((x.natAbs:Int)==9223372036854775808)) (.bool false) (by rw[YR.2 I])<|ZI false<|uP (a.s) O (λo=> ?_) (λo=> ?_)
  .exact ZR<|ZX (.tuple #[.int .i64 (XQ.wrap (XP.wrap (0- (x.natAbs:Int)))),.bool true]) (by have e:=v o;have f:=Yb (x:=x) I I;rw[f.1,f.2,I7 I,<-e])
  .exact ZR<|ZX (.tuple #[.int .i64 (XQ.wrap (x.natAbs:Int)),.bool true]) (by have e:=t o;have f:=Yb (x:=x) I I;rw[f.1,f.2,LZ I,<-e])
end
section
variable{w:YM}{t u:TV}{T U:N7}{K K1 K2:Nat}{r s:RV}{p q:Rat}{X Y:Int}
theorem K8.below{g:Nat}{cs:List YI}{b:YM}(h:K8 w g cs)(c:Below w.heap.size w b):K8 b g cs:=by
 obtain⟨ty,h⟩:=h;exact⟨ty,(c.block g (AE.1 h).1).trans h⟩
def aX(T U:N7):Bool:=decide (T.a=U.a)&&(decide (T.b=U.b)&&(decide (T.c=U.c)&&(decide (T.d=U.d)&&(decide (T.e=U.e)&&decide (T.f=U.f)))))
theorem iZ:aX T T=true:=by simp[aX]
def Fi(r:TV)(e:Int)(T:N7)(K:Nat)(u:YM):Prop:=if e=0 then Th r T K u else r=OE
theorem Fi.n{r:TV}{e:Int}(h:Fi r e T K w)(b:e=0):Th r T K w:=by unfold Fi at h;rwa [YS b]at h
theorem NF{e:Int}(b:e≠0):Fi OE e T K w:=by unfold Fi;rw[YT b]
theorem lF{r:TV}{e:Int}(b:e=0)(h:Th r T K w):Fi r e T K w:=by unfold Fi;rwa [YS b]
structure kN(w:YM)(A:YY)(n:Nat)(L:List TV)(Ts:List N7)(K:Nat):Prop where
 len:L.length=n
 lenT:Ts.length=n
 cells:∀(k:Nat) (t:TV),L[k]? =some t->∃ad:XR,A=some ad/\∀(j:Nat) (v:YI),t.cl[j]? =some v->w.cell? ((ad.add (k*24)).add j)=some v
 elems:∀(k:Nat) (t:TV) (T:N7),L[k]? =some t->Ts[k]? =some T->S3 t T K w
theorem kT{α:Type}(f:α->List YI){m:Nat}(b:∀x,(f x).length=m):∀(L:List α) (k j:Nat) (x:α) (v:YI),L[k]? =some x->(f x)[j]? =some v->(L.flatMap f)[k*m+j]? =some v:=by
 intro L;induction L with
 |nil=>intro k j r v h;cases h
 | cons y L g=>
  intro k j x v h c;have l:j<m:=by rw[<-b x];exact(AR.1 c).1
  rw[BG];cases k with
  |zero=>
   obtain rfl:y=x:=by simpa using h
   rw[BL (by rw[b];omega),DK,BF];exact c
  |succ k=>
   have e:(k+1)*m=k*m+m:=Nat.succ_mul k m;rw[BK (by rw[b];omega),show(k+1)*m+j- (f y).length=k*m+j by rw[b];omega];exact g k j x v (by simpa using h) c
theorem cX{g n:Nat}{L:List TV}{Ts:List N7}(h:K8 w g (L.flatMap TV.cl))(f:L.length=n)(e:Ts.length=n)(b:∀(k:Nat) (t:TV) (T:N7),L[k]? =some t->Ts[k]? =some T->S3 t T K w):kN w (some ⟨g,0,none⟩) n L Ts K:=by
 refine⟨f,e,λk t l=>⟨_,rfl,λj v c=> ?_⟩,b⟩;obtain⟨ty,h⟩:=h;have:=kT TV.cl (m:=24) (λ_=>rfl) L k j t v l c;simp only[Addr.add_mid,BF,BM,h,BH,AP,if_false];rw[CL];exact this
def I3:N7->List N7->Bool
 |_,[]=>true
 |A,T::l=>(A.comp T).ok&&I3 (A.comp T) l
def O2(Ts:List N7):N7:=Ts.foldl N7.comp P7
def Mn(Ts:List N7):Int:=if (Ts.all N7.ok&&I3 P7 Ts)=true then 0 else 5
def bd(z:Int):Prop:= -9223372036854775808<=z/\z<=9223372036854775807
theorem Zj{A:YY}{n c:Nat}{L:List TV}{Ts:List N7}(B:kN w A n L Ts K)(hn:n<=1000)(hK:8<=K/\K<=1000000):
 Ca 149 #[.slice A n c] w (K4 w (λr:TV=> .tuple #[r.val,.int .i64 (Mn Ts)]) λr u=>Fi r (Mn Ts) (O2 Ts) 8 u):=by
 refine uf func149 rfl<|ZR<|ZC (λz o h=>Ir) λi=>uj (ι:={k:Nat // k<=n/\(Ts.take k).all N7.ok=true}) 37 (λq=>⟨[vS 0 A n c,(2,.p 2 0),vI 3 0,(4,.p 4 0),vS 10 A n c,vI 11 n,vI 12 q.1],[(2,OE.cl.map .v),(4,i.cl.map .v)]⟩) (λ_ u=>Th i P7 2 u) (λq=>n-q.1) (⟨0,by omega,rfl⟩) O Zf Zt (λu h=>h.2) ?_
 rintro⟨k,Z,D⟩ gg
 by_cases f:k<n
 .refine ZR<|ZJ (decide ((k:Int)<(n:Int))) true Zp ?_
  obtain⟨x,N⟩:∃x,L[k]? =some x:=⟨_,AD (by rw[B.len];exact f)⟩
  obtain⟨T,J⟩:∃T,Ts[k]? =some T:=⟨_,AD (by rw[B.lenT];exact f)⟩
  obtain⟨ad,wJ,y⟩:=B.cells k x N;have F:=B.elems k x T N J;refine ZA (Kd 225 (.slice A n c) k) (.pointer (some (ad.add (k*24)))) (λz o h=>by rw[wJ];exact L9 (elem:=55) O O f)<|ZA (Ke 55 (ad.add (k*24))) (x.val) (λz o h=>Mh (vs:=x.cl) O O (λj v R=>L5 o (y j v R))) ?_
  cases E:T.ok
  .refine ZC (λz o h=>Oj E (F.below o) I) λu=>uv O (stop:=1000) 6000 _<|ug O<|ZR ?_
   have G:Mn Ts=5:=by
    unfold Mn;rw[YT];intro e;have W:=AN.1 (AL _ _▸e).1 T (AY J);rw[E]at W;cases W
   refine ZV (.tuple #[OE.val,.int .i64 5]) (λz o h=>⟨OE,by rw[G],o,λwI P k2=>NF (by rw[G];decide)⟩)
  .refine ZC (λz o h=>Oj E (F.below o) I) λu=>ZI false<|YA 12 k f<|ui (⟨k+1,by omega,by rw[DM,J,List.all_append,D];simp[E]⟩) O Zn Zt (λu h=>h.1)
 .refine ZR<|ZJ (decide ((k:Int)<(n:Int))) false (by simp at f ⊢;omega)<|ug O<|ZR ?_
  have M:k=n:=I
  have Q:Ts.all N7.ok=true:=by rw[M,BS (by rw[B.lenT];omega)]at D;exact D
  refine uj (ι:={q:Nat×TV×N7 // q.1<=n/\I3 P7 Ts=I3 q.2.2 (Ts.drop q.1)/\O2 Ts=(Ts.drop q.1).foldl N7.comp q.2.2}) 37 (λq=>⟨[vS 0 A n c,(2,.p 2 0),vI 3 0,(4,.p 4 0),vS 21 A n c,vI 22 n,vI 23 q.1.1],[(2,OE.cl.map .v),(4,q.1.2.1.cl.map .v)]⟩) (λq u=>Th q.1.2.1 q.1.2.2 8 u) (λq=>n-q.1.1) (⟨(0,i,P7),Zn,rfl,rfl⟩) O Zf Zt (λu h=>h.mono Zd) ?_;rintro⟨⟨k,t,T⟩,Z,g,m⟩ gg;simp only at Z g m
  by_cases f:k<n
  .refine ZR<|ZJ (decide ((k:Int)<(n:Int))) true Zp ?_
   obtain⟨x,N⟩:∃x,L[k]? =some x:=⟨_,AD (by rw[B.len];exact f)⟩
   obtain⟨S,J⟩:∃T,Ts[k]? =some T:=⟨_,AD (by rw[B.lenT];exact f)⟩
   obtain⟨ad,wJ,y⟩:=B.cells k x N;have F:=B.elems k x S N J;have H:Ts.drop k=S::Ts.drop (k+1):=by
    rw[<-List.getElem_cons_drop (h:=by rw[B.lenT];exact f)];congr 1;have:=AD (l:=Ts) (i:=k) (by rw[B.lenT];exact f);rw[J]at this;injection this with this;exact this.symm
   rw[H]at g m;simp only[I3]at g;refine ZA (Kd 225 (.slice A n c) k) (.pointer (some (ad.add (k*24)))) (λz o h=>by rw[wJ];exact L9 (elem:=55) O O f)<|ZA (Ke 55 (ad.add (k*24))) (x.val) (λz o h=>Mh (vs:=x.cl) O O (λj v R=>L5 o (y j v R)))<|ZC (λz o h=>ep (h.q.mono hK.1) (F.below o) I) λb=> ?_
   cases E:(T.comp S).ok
   .refine ZC (λz o h=>Oj E h.2.q I) λu=>uv O (stop:=1000) 6000 _<|ug O<|ZR ?_
    have G:Mn Ts=5:=by
     unfold Mn;rw[YT];intro e;rw[g,E]at e;simp at e
    refine ZV (.tuple #[OE.val,.int .i64 5]) (λz o h=>⟨OE,by rw[G],o,λwI P k2=>NF (by rw[G];decide)⟩)
   .refine ZC (λz o h=>Oj E h.2.q I) λu=>ZI false<|YA 23 k f<|ui (⟨(k+1,b,T.comp S),Zn,by rw[g,E,CB],by rw[m];rfl⟩) O Zn Zt (λu h=>h.1.2.of_ok E)
  .refine ZR<|ZJ (decide ((k:Int)<(n:Int))) false (by simp at f ⊢;omega)<|ug O<|ZR ?_
   have M:k=n:=I
   have hd:Ts.drop k=[]:=List.drop_eq_nil_of_le (by rw[B.lenT];omega);rw[hd]at g m;have G:Mn Ts=0:=by
    unfold Mn;rw[Q,g]
    rfl
   refine ZC (λz o h=>Sl h.q Zd) λv=>ZV (.tuple #[v.val,.int .i64 0]) (λz o h=>⟨v,by rw[G],o,λwI P k2=>lF G ((h wI P k2).2.cast m.symm)⟩)
theorem JQ{g:Nat}(m:Nf r p K w)(k:K8 w g s.cl)(j:Nf s q K w)(l:q≠0)(o:2<=K/\K<=10000000):Ca 206 #[r.val,.pointer (some ⟨g,0,none⟩)] w (K4 w RV.val λv u=>Kn v (p/q) (K+K) u):=by
 refine uf func206 rfl<|ZR<|ZA (Ke 53 ⟨g,0,none⟩) (s.val) (λe b h=>Ka (vs:=s.cl) O O (k.below b).range)<|ZC (λe b h=>HY (m.below b) (j.below b) I) λx=>ZV (RV.val x) (λe b h=>⟨x,rfl,b,λc f k2=>dC (h c f k2).2 l⟩)
def N7.inv(T:N7):N7:=⟨T.d/T.det,-T.b/T.det,-T.c/T.det,T.a/T.det,-(T.d/T.det*T.e+ -T.c/T.det*T.f+((0:Int):Rat)),-(-T.b/T.det*T.e+T.a/T.det*T.f+((0:Int):Rat))⟩
def S9(T:N7):Int:=if T.ok=false then 5 else if T.det=0 then 9 else if T.inv.ok=false then 5 else 0
theorem mg{q:Rat}{B:Bool}(h:decide (q=0)=B):(Kv q ((0:Int):Rat)==0)=B:=by
 rw[<-h];unfold Kv;have e:((0:Int):Rat)=0:=rfl;rw[e]
 by_cases c:q<0
 .rw[YS c,YV (λk=>by rw[k]at c;exact absurd c Zd)];rfl
 .rw[YT c]
  by_cases b:q=0
  .rw[YS b,YU b];rfl
  .rw[YT b,YV b];rfl
theorem Ik(A:S3 t T K w)(J:2<=K/\K<=10000):Ca 152 #[t.val] w (K4 w (λr:TV=> .tuple #[r.val,.int .i64 (S9 T)]) λr u=>Fi r (S9 T) T.inv 8 u):=by
 refine uf func152 rfl<|ZR ?_
 cases l:T.ok
 .refine ZC (λj g h=>Oj l (A.below g) I) λu=>uv O (stop:=1000) 6000 _ ?_
  have y:S9 T=5:=by unfold S9;rw[YS l]
  refine ZV (.tuple #[OE.val,.int .i64 5]) (λj g h=>⟨OE,by rw[y],g,λB E k2=>NF (by rw[y];decide)⟩)
 refine ZC (λj g h=>Oj l (A.below g) I) λu=>ZI false<|ZC (λj g h=>Yk (A.below g) I) λd=>ZC (λj g h=>Ki 0 j Zd Zd) λz=>ZC (λj g h=>Lv h.1.2.q h.2.q I) λu=> ?_
 cases F:decide (T.det=0)
 case true=>
  refine ZJ (Kv T.det ((0:Int):Rat)==0) true (mg F) ?_;have y:S9 T=9:=by unfold S9;rw[YT (by rw[l];simp),YS (YP F)]
  refine ZV (.tuple #[OE.val,.int .i64 9]) (λj g h=>⟨OE,by rw[y],g,λB E k2=>NF (by rw[y];decide)⟩)
 have o:T.det≠0:=YO F;refine ZJ (Kv T.det ((0:Int):Rat)==0) false (mg F)<|uy (val:=RV.val) (G:=λv u=>Kn v (T.d/T.det) (4*K+1+(4*K+1)) u) (xs:=[.v t.d.val,.p 4 0]) O (λβ j g h l=>JQ ((A.d.below g).mono I) (Kz l (k:=4) (by simp[AV.ids]) (cs:=d.cl.map .v) O) h.1.1.2.q o I) λa=>ZR<|ZC (λj g h=>JK (A.b.below g) I) λn=>uy (val:=RV.val) (G:=λv u=>Kn v (-T.b/T.det) (4*K+1+(4*K+1)) u) (xs:=[.v n.val,.p 4 0]) O (λβ j g h l=>JQ (h.2.q.mono I) (Kz l (k:=4) (by simp[AV.ids]) (cs:=d.cl.map .v) O) h.1.1.1.1.2.q o I) λb=>ZR<|ZC (λj g h=>JK (A.c.below g) I) λm=>uy (val:=RV.val) (G:=λv u=>Kn v (-T.c/T.det) (4*K+1+(4*K+1)) u) (xs:=[.v m.val,.p 4 0]) O (λβ j g h l=>JQ (h.2.q.mono I) (Kz l (k:=4) (by simp[AV.ids]) (cs:=d.cl.map .v) O) h.1.1.1.1.1.1.2.q o I) λc=>ZR<|uy (val:=RV.val) (G:=λv u=>Kn v (T.a/T.det) (4*K+1+(4*K+1)) u) (xs:=[.v t.a.val,.p 4 0]) O (λβ j g h l=>JQ ((A.a.below g).mono I) (Kz l (k:=4) (by simp[AV.ids]) (cs:=d.cl.map .v) O) h.1.1.1.1.1.1.1.2.q o I) λi=>ZR<|ZC (λj g h=>V4 (t:=⟨a,b,c,i,Ou,Ou⟩) (T:=⟨T.d/T.det,-T.b/T.det,-T.c/T.det,T.a/T.det,((0:Int):Rat),((0:Int):Rat)⟩) (K:=8*K+2) ⟨h.1.1.1.1.1.2.q.mono I,h.1.1.1.2.q.mono I,h.1.2.q.mono I,h.2.q.mono I,JR,JR⟩ ((A.e.below g).mono I) ((A.f.below g).mono I) I) λx=>ZC (λj g h=>JK h.2.1.q I) λe=>ZC (λj g h=>JK h.1.2.2.q I) λf=> ?_
 have H:∀u,(Kn a (T.d/T.det) (4*K+1+(4*K+1)) u/\Kn b (-T.b/T.det) (4*K+1+(4*K+1)) u/\Kn c (-T.c/T.det) (4*K+1+(4*K+1)) u/\Kn i (T.a/T.det) (4*K+1+(4*K+1)) u/\Kn e T.inv.e (5*(8*K+2)+2) u/\Kn f T.inv.f (5*(8*K+2)+2) u)->Th ⟨a,b,c,i,e,f⟩ T.inv (5*(8*K+2)+2) u:=λu h=>
  ⟨h.1.mono I,h.2.1.mono I,h.2.2.1.mono I,h.2.2.2.1.mono I,h.2.2.2.2.1,h.2.2.2.2.2⟩
 cases D:T.inv.ok
 .refine ZC (λj g h=>Oj (t:=⟨a,b,c,i,e,f⟩) D (H _ ⟨h.1.1.1.1.1.1.1.1.2,h.1.1.1.1.1.1.2,h.1.1.1.1.2,h.1.1.1.2,h.1.2,h.2⟩).q I) λu=>uv O (stop:=1000) 6000 _ ?_
  have y:S9 T=5:=by unfold S9;rw[YT (by rw[l];simp),YT o,YS D]
  refine ZV (.tuple #[OE.val,.int .i64 5]) (λj g h=>⟨OE,by rw[y],g,λB E k2=>NF (by rw[y];decide)⟩)
 refine ZC (λj g h=>Oj (t:=⟨a,b,c,i,e,f⟩) D (H _ ⟨h.1.1.1.1.1.1.1.1.2,h.1.1.1.1.1.1.2,h.1.1.1.1.2,h.1.1.1.2,h.1.2,h.2⟩).q I) λu=>ZI false<|ZC (λj g h=>Sl (t:=⟨a,b,c,i,e,f⟩) (H _ ⟨h.1.1.1.1.1.1.1.1.1.2,h.1.1.1.1.1.1.1.2,h.1.1.1.1.1.2,h.1.1.1.1.2,h.1.1.2,h.1.2⟩).q I) λv=> ?_
 have y:S9 T=0:=by unfold S9;rw[YT (by rw[l];simp),YT o,YT (by rw[D];simp)]
 refine ZV (.tuple #[v.val,.int .i64 0]) (λj g h=>⟨v,by rw[y],g,λB E k2=>lF y ((h B E k2).2.of_ok D)⟩)
def mp:Rat:=Rat.divInt 1 2
def iD(T:N7)(X Y:Int):Int:=((T.app (X:Rat) (Y:Rat)).1+mp).floor
def gT(T:N7)(X Y:Int):Int:=((T.app (X:Rat) (Y:Rat)).2+mp).floor
def IQ(T:N7)(X Y:Int):Bool:=U7 (iD T X Y)&&(U7 (gT T X Y)&&Lf (Jy (iD T X Y)) (Jy (gT T X Y)))
def Gi(T:N7)(X Y:Int):Int:=if T.ok=false then 5 else if Lf X Y=false then 6 else if IQ T X Y=false then 6 else 0
def qU(T:N7)(X Y:Int):YI:=if Gi T X Y=0 then pt (iD T X Y) (gT T X Y)else pt 0 0
theorem Ur{a:SV}{x v:Int}{B:Bool}(b:Jy x=v)(e:U7 x=B)(c:Sx a x K w)(f:K<=1000000):Ca 262 #[a.val] w (CU w (.tuple #[.int .i64 v,.bool B])):=by
 subst b;subst e;exact Ig c (AC f Zd)
theorem Ed{e:Int}(c:Gi T X Y=e)(b:e≠0):(Value.tuple #[qU T X Y,.int .i64 (Gi T X Y)])= .tuple #[pt 0 0,.int .i64 e]:=by
 unfold qU;rw[c,YT b]
theorem Bf{x:Int}(h:U7 x=true):Jy x=x:=by unfold Jy;rw[YS h]
theorem SJ(H:S3 t T K w)(J:8<=K/\K<=10000):Ca 264 #[t.val,pt X Y] w (CU w (.tuple #[qU T X Y,.int .i64 (Gi T X Y)])):=by
 refine uf func264 rfl<|ZR ?_
 cases D:T.ok
 .refine ZC (λj e h=>Oj D (H.below e) I) λu=>uv O (stop:=1000) 6000 _ ?_
  have A:Gi T X Y=5:=by unfold Gi;rw[YS D]
  exact ZX (.tuple #[pt 0 0,.int .i64 5]) (congrArg Ending.returned (Ed A Zd).symm)
 refine ZC (λj e h=>Oj D (H.below e) I) λu=>ZI false ?_
 cases v:Lf X Y
 .refine ZC (λj e h=>Mg v) λu=>uv O (stop:=1000) 6000 _ ?_
  have A:Gi T X Y=6:=by unfold Gi;rw[YT (by rw[D];simp),YS v]
  exact ZX (.tuple #[pt 0 0,.int .i64 6]) (congrArg Ending.returned (Ed A Zd).symm)
 refine ZC (λj e h=>Mg v) λu=>ZI false ?_
 have Z:(-1048576<=X/\X<=1048576)/\(-1048576<=Y/\Y<=1048576):=by unfold Lf at v;simpa using v
 refine ZC (λj e h=>Ki X j I I) λc=>ZC (λj e h=>Ki Y j I I) λd=>ZC (λj e h=>V4 (H.below e) (h.1.2.q.mono I) (h.2.q.mono I) I) λx=>ZC (λj e h=>Pj (x:=1) (y:=2) Zd Zd) λf=>ZC (λj e h=>S5 h.1.2.1.q (h.2.n Zd).q I) λm=>ZC (λj e h=>T1 h.2.q I) λg=> ?_
 obtain⟨a,E⟩:∃a,Jy (iD T X Y)=a:=⟨_,rfl⟩
 obtain⟨b,B⟩:∃b,Jy (gT T X Y)=b:=⟨_,rfl⟩
 have z:IQ T X Y=false->Gi T X Y=6:=λh=>by unfold Gi;rw[YT (by rw[D];simp),YT (by rw[v];simp),YS h]
 cases o:U7 (iD T X Y)
 .refine ZC (λj e h=>Ur E o h.2.i I) λu=>ZC (λj e h=>S5 h.1.1.1.1.2.2.q (h.1.1.1.2.n Zd).q I) λn=>ZC (λj e h=>T1 h.2.q I) λk=> ?_
  cases l:U7 (gT T X Y)
  all_goals
   exact ZC (λj e h=>Ur B l h.2.i I) λu=>uv O (stop:=1000) 6000 _<|ZX (.tuple #[pt 0 0,.int .i64 6]) (congrArg Ending.returned (Ed (z (by unfold IQ;rw[o];rfl)) Zd).symm)
 refine ZC (λj e h=>Ur E o h.2.i I) λu=>ZC (λj e h=>S5 h.1.1.1.1.2.2.q (h.1.1.1.2.n Zd).q I) λn=>ZC (λj e h=>T1 h.2.q I) λk=> ?_
 cases l:U7 (gT T X Y)
 .exact ZC (λj e h=>Ur B l h.2.i I) λu=>uv O (stop:=1000) 6000 _<|ZX (.tuple #[pt 0 0,.int .i64 6]) (congrArg Ending.returned (Ed (z (by unfold IQ;rw[o,l];rfl)) Zd).symm)
 refine ZC (λj e h=>Ur B l h.2.i I) λu=> ?_
 cases F:Lf a b
 .exact ZC (λj e h=>Mg F) λu=>uv O (stop:=1000) 6000 _<|ZX (.tuple #[pt 0 0,.int .i64 6]) (congrArg Ending.returned (Ed (z (by unfold IQ;rw[o,l,E,B,F];rfl)) Zd).symm)
 refine ZC (λj e h=>Mg F) λu=>uv O (stop:=1000) 6000 _ ?_
 have G:IQ T X Y=true:=by unfold IQ;rw[o,l,E,B,F];rfl
 have A:Gi T X Y=0:=by unfold Gi;rw[YT (by rw[D];simp),YT (by rw[v];simp),YT (by rw[G];simp)]
 exact ZX (.tuple #[pt a b,.int .i64 0]) (by unfold qU;rw[YS A,A,<-Bf o,<-Bf l,E,B])
end
structure Sg where
 v:Int
 ax:Int
 ay:Int
 bx:Int
 by_:Int
 cx:Int
 cy:Int
def iv(z:Int):YI:= .int .i64 z
abbrev Sg.cl(s:Sg):List YI:=[.int .i64 s.v,.int .i64 s.ax,.int .i64 s.ay,.int .i64 s.bx,.int .i64 s.by_,.int .i64 s.cx,.int .i64 s.cy]
abbrev Sg.val(s:Sg):YI:= .agg #[.int .i64 s.v,.int .i64 s.ax,.int .i64 s.ay,.int .i64 s.bx,.int .i64 s.by_,.int .i64 s.cx,.int .i64 s.cy]
def cS(t:XX)(x y:XZ)(u v:YI):Sem Next:=(do eqGuard .neq t x y u v;binOp .neq t u v) >>= λv=>pure (.value v)
theorem Br{x y:XZ}{a b c d:Int}{w:YM}:(cS 74 x y (pt a b) (pt c d)).run XM w= .ok (.value (.bool (!(a==c&&b==d)))) w:=by
 have f:XM.eqGuardType XM.depth 74=false:=O
 have e:=Oc (x:=x) (y:=y) (a:=a) (b:=b) (c:=c) (d:=d) (w:=w);simp only[Xj,pt,AF,run_eqGuard_agg w .eql _ x y _ _ f,AB,run_eql_struct,AH]at e;simp only[cS,pt,AF,run_eqGuard_agg w .neq _ x y _ _ f,AB,run_neq_struct,AH];generalize (Op.equalIn 10000 74 (.agg #[.int .i64 a,.int .i64 b]) (.agg #[.int .i64 c,.int .i64 d])).run XM w=r at e ⊢;cases r with
 |ok x g=>simp only[AB,AH,Result.ok.injEq,Next.value.injEq,Value.bool.injEq]at e ⊢;exact⟨by rw[e.1],e.2⟩
 |_=>cases e
theorem O0{p:Pt}(h:vP p=true):(-1048576<=p.1/\p.1<=1048576)/\-1048576<=p.2/\p.2<=1048576:=by
 unfold vP Lf at h;simp only[AL,decide_eq_true_eq]at h;omega
def jk(p q:Pt):Pt:=(p.1+q.1,p.2+q.2)
theorem c7{x y:Int}{M N:Nat}(b:x.natAbs<=M)(c:y.natAbs<=N):(x*y).natAbs<=M*N:=by
 rw[Int.natAbs_mul];exact CG b c
theorem EO{x:Int}(h: -1048576<=x/\x<=1048576):Mi x=x:=by
 unfold Mi;rw[YT I,YT I]
section
variable{w:YM}{a b c d p q:Pt}{B:Bool}
theorem E0(h:vP p=true):Ca 103 #[Km p] w (CU w (Km p)):=by
 have:=QJ (w:=w) (X:=p.1) (Y:=p.2);rw[EO (O0 h).1,EO (O0 h).2]at this;exact this
theorem QN(e:vP a=true)(f:vP b=true):Ca 319 #[Km a,Km b] w (CU w (Km (Lz a b))):=by
 have l:=O0 e;have k:=O0 f;exact uf func319 rfl<|ZR<|ZC (λj g h=>E0 e) λu=>ZC (λj g h=>E0 f) λv=>ZX (pt (XQ.wrap (a.1-b.1)) (XQ.wrap (a.2-b.2))) (by rw[AM _ I,AM _ I];rfl)
theorem oQ(e:vP a=true)(f:vP b=true):Ca 398 #[Km a,Km b] w (CU w (Km (jk a b))):=by
 have l:=O0 e;have k:=O0 f;exact uf func398 rfl<|ZR<|ZC (λj g h=>E0 e) λu=>ZC (λj g h=>E0 f) λv=>ZX (pt (XQ.wrap (a.1+b.1)) (XQ.wrap (a.2+b.2))) (by rw[AM _ I,AM _ I];rfl)
theorem Pc(g:vP a=true)(l:vP b=true)(j:Q6 a b=B):Ca 400 #[Km a,Km b] w (CU w (.bool B)):=by
 subst j;refine uf func400 rfl<|ZR<|ZC (λm k h=>E0 g) λu=>ZD 6 (λm k h=>E0 l) λv=> ?_
 by_cases e:a.2<b.2
 .exact YE 14 (a.2<b.2) e<|ZX (.bool true) (by unfold Q6;rw[YU e,Bool.true_or])
 refine YF 14 (a.2<b.2) e<|ZS 12 ?_
 cases f:a.2==b.2
 .exact ZT 20 (.bool (a.2==b.2)) (.bool false) (by rw[f])<|ZX (.bool false) (by unfold Q6;rw[YV e,f];rfl)
 exact ZT 20 (.bool (a.2==b.2)) (.bool true) (by rw[f])<|ZX (.bool (decide (a.1<b.1))) (by unfold Q6;rw[YV e,f];rfl)
theorem dG(f:vP a=true)(g:vP b=true):Ca 399 #[Km a,Km b] w (CU w (.tuple #[Km (P3 a b).1,Km (P3 a b).2])):=by
 cases e:Q6 b a
 .exact uf func399 rfl<|ZR<|ZC (λk j h=>Pc g f e) λu=>ZI false<|ZX (.tuple #[Km a,Km b]) (by unfold P3;rw[e];rfl)
 .exact uf func399 rfl<|ZR<|ZC (λk j h=>Pc g f e) λu=>ZI true<|ZX (.tuple #[Km b,Km a]) (by unfold P3;rw[e];rfl)
theorem IH(f:vP a=true)(e:vP b=true):vP (P3 a b).1=true/\vP (P3 a b).2=true:=by
 unfold P3;split
 .exact⟨e,f⟩
 .exact⟨f,e⟩
theorem fm:(a.1==b.1&&a.2==b.2)=decide (a=b):=by
 by_cases h:a=b
 .subst h;simp
 .rw[YV h];refine DN.2 λk=>h ?_
  simp only[AL,YQ]at k;exact Prod.ext k.1 k.2
def kU(x y:XZ){a b:Pt}(_:vP a=true)(_:vP b=true):Sem Next:=Xj 74 x y (Km a) (Km b)
def tp(x y:XZ){a b:Pt}(_:vP a=true)(_:vP b=true):Sem Next:=cS 74 x y (Km a) (Km b)
theorem Tj{x y:XZ}(e:vP a=true)(f:vP b=true)(h:decide (a=b)=B):(kU x y e f).run XM w= .ok (.value (.bool B)) w:=by
 rw[<-h,<-fm];exact Oc
theorem SL{x y:XZ}(e:vP a=true)(f:vP b=true)(h:decide (a=b)=B):(tp x y e f).run XM w= .ok (.value (.bool (!B))) w:=by
 rw[<-h,<-fm];exact Br
theorem cP(E:vP a=true)(F:vP b=true)(D:vP c=true)(J:vP d=true):Ca 371 #[Km a,Km b,Km c,Km d] w (CU w (.tuple #[Km (Nt a b c d).1,.int .i64 (Nt a b c d).2])):=by
 have H:=IH E F;have G:=IH D J;have s:Nt a b c d=dc (P3 a b) (P3 c d):=rfl;refine uf func371 rfl<|ZR<|ZC (λk l h=>dG E F) λu=>ZC (λk l h=>dG D J) λv=> ?_
 rw[s];generalize P3 a b=p at H;generalize P3 c d=q at G;obtain⟨e,j⟩:=H;obtain⟨f,g⟩:=G;cases t:Q6 p.1 q.1<;>cases x:Q6 q.2 p.2
 .have s:dc p q=if Q6 p.2 p.1 then((0,0),0)else if p.1=p.2 then(p.1,1)else((0,0),2):=by unfold dc;simp only[t,x];rfl
  refine ZC (λk l h=>Pc e f t) λz=>ZI false<|ZC (λk l h=>Pc g j x) λA=>ZI false ?_
  cases m:Q6 p.2 p.1
  .refine ZC (λk l h=>Pc j e m) λy=>uu false O<|ZS 2 ?_
   cases o:decide (p.1=p.2)
   .exact ZA (kU (.tmp 36) (.tmp 37) e j) (.bool false) (λk l h=>Tj e j o)<|ZI false<|ZX (.tuple #[pt 0 0,.int .i64 2]) (by rw[s,m,YT (YO o)];rfl)
   .exact ZA (kU (.tmp 36) (.tmp 37) e j) (.bool true) (λk l h=>Tj e j o)<|ZI true<|ZX (.tuple #[Km p.1,.int .i64 1]) (by rw[s,m,YS (YP o)];rfl)
  .exact ZC (λk l h=>Pc j e m) λy=>ZI true<|ZX (.tuple #[pt 0 0,.int .i64 0]) (by rw[s,m];rfl)
 .have s:dc p q=if Q6 q.2 p.1 then((0,0),0)else if p.1=q.2 then(p.1,1)else((0,0),2):=by unfold dc;simp only[t,x];rfl
  refine ZC (λk l h=>Pc e f t) λz=>ZI false<|ZC (λk l h=>Pc g j x) λA=>ZI true ?_
  cases m:Q6 q.2 p.1
  .refine ZC (λk l h=>Pc g e m) λy=>uu false O<|ZS 2 ?_
   cases o:decide (p.1=q.2)
   .exact ZA (kU (.tmp 36) (.tmp 37) e g) (.bool false) (λk l h=>Tj e g o)<|ZI false<|ZX (.tuple #[pt 0 0,.int .i64 2]) (by rw[s,m,YT (YO o)];rfl)
   .exact ZA (kU (.tmp 36) (.tmp 37) e g) (.bool true) (λk l h=>Tj e g o)<|ZI true<|ZX (.tuple #[Km p.1,.int .i64 1]) (by rw[s,m,YS (YP o)];rfl)
  .exact ZC (λk l h=>Pc g e m) λy=>ZI true<|ZX (.tuple #[pt 0 0,.int .i64 0]) (by rw[s,m];rfl)
 .have s:dc p q=if Q6 p.2 q.1 then((0,0),0)else if q.1=p.2 then(q.1,1)else((0,0),2):=by unfold dc;simp only[t,x];rfl
  refine ZC (λk l h=>Pc e f t) λz=>ZI true<|ZC (λk l h=>Pc g j x) λA=>ZI false ?_
  cases m:Q6 p.2 q.1
  .refine ZC (λk l h=>Pc j f m) λy=>uu false O<|ZS 2 ?_
   cases o:decide (q.1=p.2)
   .exact ZA (kU (.tmp 36) (.tmp 37) f j) (.bool false) (λk l h=>Tj f j o)<|ZI false<|ZX (.tuple #[pt 0 0,.int .i64 2]) (by rw[s,m,YT (YO o)];rfl)
   .exact ZA (kU (.tmp 36) (.tmp 37) f j) (.bool true) (λk l h=>Tj f j o)<|ZI true<|ZX (.tuple #[Km q.1,.int .i64 1]) (by rw[s,m,YS (YP o)];rfl)
  .exact ZC (λk l h=>Pc j f m) λy=>ZI true<|ZX (.tuple #[pt 0 0,.int .i64 0]) (by rw[s,m];rfl)
 .have s:dc p q=if Q6 q.2 q.1 then((0,0),0)else if q.1=q.2 then(q.1,1)else((0,0),2):=by unfold dc;simp only[t,x];rfl
  refine ZC (λk l h=>Pc e f t) λz=>ZI true<|ZC (λk l h=>Pc g j x) λA=>ZI true ?_
  cases m:Q6 q.2 q.1
  .refine ZC (λk l h=>Pc g f m) λy=>uu false O<|ZS 2 ?_
   cases o:decide (q.1=q.2)
   .exact ZA (kU (.tmp 36) (.tmp 37) f g) (.bool false) (λk l h=>Tj f g o)<|ZI false<|ZX (.tuple #[pt 0 0,.int .i64 2]) (by rw[s,m,YT (YO o)];rfl)
   .exact ZA (kU (.tmp 36) (.tmp 37) f g) (.bool true) (λk l h=>Tj f g o)<|ZI true<|ZX (.tuple #[Km q.1,.int .i64 1]) (by rw[s,m,YS (YP o)];rfl)
  .exact ZC (λk l h=>Pc g f m) λy=>ZI true<|ZX (.tuple #[pt 0 0,.int .i64 0]) (by rw[s,m];rfl)
end
def dP(p:Pt):Prop:=(-2097152<=p.1/\p.1<=2097152)/\-2097152<=p.2/\p.2<=2097152
theorem PY{a b:Pt}(c:vP a=true)(e:vP b=true):dP (Lz a b):=by
 have g:=O0 c;have f:=O0 e;unfold dP Lz;dsimp only;omega
theorem Cj{p q:Pt}(c:dP p)(b:dP q):(-4398046511104<=p.1*q.2/\p.1*q.2<=4398046511104)/\(-4398046511104<=p.2*q.1/\p.2*q.1<=4398046511104):=by
 obtain⟨k,h⟩:=c;obtain⟨e,j⟩:=b;have g:=c7 (x:=p.1) (y:=q.2) (M:=2097152) (N:=2097152) I I;have f:=c7 (x:=p.2) (y:=q.1) (M:=2097152) (N:=2097152) I I;omega
def F9(a b:Int):Int:=if b<a then b else a
def G3(a b:Int):Int:=if a<b then b else a
theorem S7(a b:Int):F9 a b=min a b:=by unfold F9;omega
theorem S6(a b:Int):G3 a b=max a b:=by unfold G3;omega
section
variable{w:YM}{a b c d p q:Pt}{t y:Rat}{K:Nat}{r:RV}{n m x:Int}{B:Bool}
theorem Yn(f:dP p)(e:dP q):Ca 370 #[Km p,Km q] w (CU w (.int .i64 (Lt p q))):=by
 have g:=Cj f e;exact uf func370 rfl<|ZR<|ZX (.int .i64 (XQ.wrap (XQ.wrap (p.1*q.2)-XQ.wrap (p.2*q.1)))) (by rw[AM (p.1*q.2) I,AM (p.2*q.1) I,AM _ I];rfl)
theorem jN(k: -9223372036854775808<=n/\n<=9223372036854775807)(o: -9223372036854775808<=m/\m<=9223372036854775807)(l:m≠0):Ca 369 #[.int .i64 n,.int .i64 m] w (K4 w RV.val λr u=>Kn r (Rat.divInt n m) 2 u):=by
 refine uf func369 rfl<|ZR<|ZC (λs g h=>Pj k o) λf=>ZV (f.val) (λs g h=>⟨f,rfl,g,λe j k2=>((h e j k2).2).n l⟩)
theorem Gj(z: -2097152<=n/\n<=2097152)(D: -2097152<=m/\m<=2097152)(v:Nf r t K w)(A:2<=K/\K<=1000):Ca 368 #[.int .i64 n,.int .i64 m,r.val] w (K4 w RV.val λr u=>Kn r (Vy n m t) (K+5) u):=by
 have l:XQ.wrap (m-n)=m-n:=AM _ I;refine uf func368 rfl<|ZR<|ZC (λj g h=>Ki n j I I) λf=>ZC (λj g h=>by have e:=Ki (m-n) j I I;rw[<-l]at e;exact e) λe=> ?_
 refine ZC (λj g h=>Pi (v.below g) (h.2).q I) λx=>ZC (λj g h=>S5 (h.1.1.2).q (h.2).q I) λs=>ZV (s.val) (λj g h=>⟨s,rfl,g,λk o k2=>by have t:=(h k o k2).2;rw[l]at t;exact t.mono I⟩)
theorem lO(z:vP a=true)(D:vP b=true)(L: -2097152<=x/\x<=2097152):Ca 334 #[Km a,Km b,.int .i64 x] w (K4 w (λr:RV=> .tuple #[r.val,.bool (ED a b x).isSome]) λr u=>∀q,ED a b x=some q->Kn r q 7 u):=by
 have J:=O0 z;have M:=O0 D;refine uf func334 rfl<|ZR<|uk (Lr 296 2 #[(0,Km a),(1,Km b)]) (Kr 2) (Kw 74 #[.int .i64 a.1,.int .i64 a.2,.int .i64 b.1,.int .i64 b.2]) O (λk j h=>Kj O) λg=>ZR<|ZD 13 (λk j h=>TX (c:=2) (l:=[a,b]) (B:=true) (Kk.lit (λ_=>rfl) h.2) Zs (by simp[z,D])) λu=>up O 1000 8 20 [21,22,23,24,25,26,27] 28 true (decide (x<F9 a.1 b.1)) ((a.1==b.1)||(decide (x<F9 a.1 b.1))) O O O Zf R3 λZ=>uo O (stop:=1000) 1 _<|up O 1000 8 29 [30,31,32,33,34,35,36] 37 true (decide (x>G3 a.1 b.1)) ((a.1==b.1||decide (x<F9 a.1 b.1))||(decide (x>G3 a.1 b.1))) O O O Zf R3 λH=>ZR ?_
 by_cases A:a.1=b.1\/x<min a.1 b.1\/max a.1 b.1<x
 .have e:ED a b x=none:=YS A;refine ZJ ((a.1==b.1||decide (x<F9 a.1 b.1))||decide (x>G3 a.1 b.1)) true (by rw[S7,S6];simp only[DU,YQ,decide_eq_true_eq];omega)<|ZV (.tuple #[Ou.val,.bool false]) (λk j h=>⟨Ou,by rw[e];rfl,j,λo E k2 q v=>by rw[e]at v;cases v⟩)
 have e:ED a b x=some (Vy a.2 b.2 (Rat.divInt (x-a.1) (b.1-a.1))):=YT A;have G:XQ.wrap (x-a.1)=x-a.1:=AM _ I;have F:XQ.wrap (b.1-a.1)=b.1-a.1:=AM _ I;refine ZJ ((a.1==b.1||decide (x<F9 a.1 b.1))||decide (x>G3 a.1 b.1)) false (by rw[S7,S6];simp only[BZ,YR,decide_eq_false_iff_not];omega)<|ZC (λk j h=>by have f:=jN (w:=k) (n:=x-a.1) (m:=b.1-a.1) I I I;rw[<-G,<-F]at f;exact f) λf=> ?_
 refine ZC (λk j h=>Gj (n:=a.2) (m:=b.2) I I (h.2).q Zd) λs=>ZV (.tuple #[s.val,.bool true]) (λk j h=>⟨s,by rw[e];rfl,j,λo E k2 q v=>by rw[e]at v;obtain rfl:=Option.some.inj v;have t:=(h o E k2).2;rw[G,F]at t;exact t⟩)
theorem oi{y:Rat}{e:Pt×Pt}{m:KD}(h:Nv y e=some m):Kv y (F9 e.1.2 e.2.2:Int)=1/\Kv y (G3 e.1.2 e.2.2:Int)= -1/\e.1.2≠e.2.2:=by
 obtain⟨_,_,_,_,l⟩:=R4 h;have f:e.1.2≠e.2.2:=λk=>by rw[k]at l;grind
 unfold F9 G3;rcases l with ⟨j,g⟩|⟨j,g⟩
 .have:e.1.2<e.2.2:=Rat.intCast_lt_intCast.1 (by grind);rw[YT I,YS this];exact⟨Yp j,Yq g,f⟩
 .have:e.2.2<e.1.2:=Rat.intCast_lt_intCast.1 (by grind);rw[YS this,YT I];exact⟨Yp j,Yq g,f⟩
theorem qa{mk:KD}(F:vP a=true)(G:vP b=true)(D:Nf r y K w)(o:Nv y (a,b)=some mk)(P:2<=K/\K<=900):Ca 360 #[Km a,Km b,r.val] w (K4 w (λx:RV=> .tuple #[x.val,.bool true]) λx u=>Kn x mk.1 (K+10) u):=by
 have N:=O0 F;have Z:=O0 G;obtain⟨L,c2,z⟩:=oi o;replace z:a.2≠b.2:=z;have J:F9 a.2 b.2=min a.2 b.2:=S7 _ _;have M:G3 a.2 b.2=max a.2 b.2:=S6 _ _;have wI:XQ.wrap (b.2-a.2)=b.2-a.2:=AM _ I;have A:mk.1=Vy a.1 b.1 ((y-a.2)*Rat.divInt 1 (b.2-a.2)):=by
  unfold Nv at o;split at o
  .cases o
  .rw[<-Option.some.inj o]
 refine uf func360 rfl<|ZR<|ZC (λj k h=>Ki (F9 a.2 b.2) j I I) λl=>ZC (λj k h=>Ki (G3 a.2 b.2) j I I) λu=>uk (Lr 296 2 #[(0,Km a),(1,Km b)]) (Kr 2) (Kw 74 #[.int .i64 a.1,.int .i64 a.2,.int .i64 b.1,.int .i64 b.2]) O (λj k h=>Kj O) λg=>ZR<|ZD 13 (λj k h=>TX (c:=2) (l:=[a,b]) (B:=true) (Kk.lit (λ_=>rfl) h.2) Zs (by simp[F,G])) λv=>ZT 35 (.bool (a.2==b.2)) (.bool false) (by rw[YR.2 z])<|ZD 19 (λj k h=>Lv (D.below k) (h.1.1.1.2).q I) λH=>ZT 41 (.bool (decide (Kv y (F9 a.2 b.2:Int)<0))) (.bool false) (by rw[L];rfl)<|ZC (λj k h=>Lv (D.below k) (h.1.1.1.2).q I) λk2=>ZJ (decide (Kv y (G3 a.2 b.2:Int)>0)) false (by rw[c2];rfl)<|ZC (λj k h=>Ki a.2 j I I) λf=>ZC (λj k h=>Aj (D.below k) (h.2).q I) λd=>ZC (λj k h=>by have f:=jN (w:=j) (n:=1) (m:=b.2-a.2) Zd I I;rw[<-wI]at f;exact f) λe=> ?_
 refine ZC (λj k h=>Pi (h.1.2).q (h.2).q I) λt=>ZC (λj k h=>Gj (n:=a.1) (m:=b.1) I I (h.2).q I) λs=>ZV (.tuple #[s.val,.bool true]) (λj k h=>⟨s,rfl,k,λE H k2=>by have t:=(h E H k2).2;rw[wI,<-A]at t;exact t.mono I⟩)
theorem Wu(e:Lt (Lz b a) (Lz d c)=0)(h:¬(Lt (Lz b a) (Lz c a)=0/\(Nt a b c d).2=1)):Q5 a b c d=none:=by
 unfold Q5;dsimp only;rw[YS e,YT h]
theorem XA(e:Lt (Lz b a) (Lz d c)=0)(h:Lt (Lz b a) (Lz c a)=0/\(Nt a b c d).2=1):Q5 a b c d=some ((Nt a b c d).1.2:Rat):=by
 unfold Q5;dsimp only;rw[YS e,YS h]
theorem nr(e:Lt (Lz b a) (Lz d c)≠0):Q5 a b c d=if Rat.divInt (Lt (Lz c a) (Lz d c)) (Lt (Lz b a) (Lz d c))<0\/1<Rat.divInt (Lt (Lz c a) (Lz d c)) (Lt (Lz b a) (Lz d c))\/Rat.divInt (Lt (Lz c a) (Lz b a)) (Lt (Lz b a) (Lz d c))<0\/1<Rat.divInt (Lt (Lz c a) (Lz b a)) (Lt (Lz b a) (Lz d c))then none else some (Vy a.2 b.2 (Rat.divInt (Lt (Lz c a) (Lz d c)) (Lt (Lz b a) (Lz d c)))):=by
 unfold Q5;dsimp only;rw[YT e]
theorem n7(h:a≠b):Lz b a≠(0,0):=λk=>h (by unfold Lz at k;injection k with k1 k2;exact Prod.ext I I)
theorem ba(f:vP a=true)(h:vP b=true)(k:vP c=true)(l:vP d=true):vP (Nt a b c d).1=true:=by
 have j:=IH f h;have g:=IH k l;have e:vP (if Q6 (P3 a b).1 (P3 c d).1 then(P3 c d).1 else(P3 a b).1)=true:=by
  split
  .exact g.1
  .exact j.1
 unfold Nt dc;dsimp only;generalize (if Q6 (P3 a b).1 (P3 c d).1 then(P3 c d).1 else(P3 a b).1)=A at e ⊢;generalize (if Q6 (P3 c d).2 (P3 a b).2 then(P3 c d).2 else(P3 a b).2)=B;split
 .rfl
 .split
  .exact e
  .rfl
theorem gF(H:vP a=true)(F:vP b=true)(J:vP c=true)(P:vP d=true)(hab:a≠b):Ca 335 #[Km a,Km b,Km c,Km d] w (K4 w (λz:(RV×RV)×{k:Int // decide (k=1)=(Q5 a b c d).isSome}=> .tuple #[z.1.1.val,z.1.2.val,.int .i64 z.2.1]) λz u=>∀q,Q5 a b c d=some q->Kn z.1.2 q 7 u):=by
 have Q:=O0 H;have h2:=O0 F;have wI:=PY F H;have hv:=PY P J;have G:=PY J H;have bn:=Cj wI hv;have bt:=Cj G hv;have bs:=Cj G wI;have hun:=n7 hab;refine uf func335 rfl<|ZR<|uk (Lr 296 4 #[(0,Km a),(1,Km b),(2,Km c),(3,Km d)]) (Kr 4) (Kw 74 #[.int .i64 a.1,.int .i64 a.2,.int .i64 b.1,.int .i64 b.2,.int .i64 c.1,.int .i64 c.2,.int .i64 d.1,.int .i64 d.2]) O (λo f h=>Kj O) λg=>ZR<|ZC (λo f h=>TX (c:=4) (l:=[a,b,c,d]) (B:=true) (Kk.lit (λ_=>rfl) h.2) Zs (by simp[H,F,J,P])) λv=>ZI false<|ZC (λo f h=>QN F H) λu1=>ZC (λo f h=>QN P J) λu2=>ZC (λo f h=>QN J H) λu3=>ZC (λo f h=>Yn wI hv) λn=> ?_
 cases Z:Lt (Lz b a) (Lz d c) !=0
 case true=>
  have D:Lt (Lz b a) (Lz d c)≠0:=bne_iff_ne.1 Z;have e:=nr D;refine ZJ (Lt (Lz b a) (Lz d c) !=0) true (Z)<|ZC (λo f h=>Yn G hv) λm1=>ZC (λo f h=>jN (w:=o) (n:=Lt (Lz c a) (Lz d c)) (m:=Lt (Lz b a) (Lz d c)) (by unfold Lt;omega) (by unfold Lt;omega) D) λt=>ZC (λo f h=>Yn G wI) λm2=>ZC (λo f h=>jN (w:=o) (n:=Lt (Lz c a) (Lz b a)) (m:=Lt (Lz b a) (Lz d c)) (by unfold Lt;omega) (by unfold Lt;omega) D) λs=>um (p:=True) Zv O (λ_=> ?_)
  generalize Rat.divInt (Lt (Lz c a) (Lz d c)) (Lt (Lz b a) (Lz d c))=qt at e ⊢;generalize Rat.divInt (Lt (Lz c a) (Lz b a)) (Lt (Lz b a) (Lz d c))=qs at e ⊢;refine uk (Lr 88 2 #[(0,t.val),(1,s.val)]) (Kr 2) (Kw 53 ([t,s].flatMap RV.cl).toArray) O (λo f h=>Kj O) λh=>ZR<|uj (ι:={k:Nat // k<=2/\∀j,j<k->¬(if j=0 then qt else qs)<0/\¬1<(if j=0 then qt else qs)}) 128 (λk=>⟨[(4,.p 4 0),(5,.p 5 0),(8,.p 8 0),(9,.p 9 0),(15,.p 15 0),vV 57 (Kr 2 h),vI 58 2,vI 59 k.1],[(4,(K9 a).map .v),(5,(K9 b).map .v),(8,Ou.cl.map .v),(9,Ou.cl.map .v),(15,t.cl.map .v)]⟩) (λ_ u=>Kw 53 ([t,s].flatMap RV.cl).toArray h u/\Kn t qt 2 u/\Kn s qs 2 u) (λk=>2-k.1) (⟨0,by decide,λj T=>absurd T I⟩) O Zf Zt (λu h=>⟨h.2,h.1.1.1.2,h.1.2⟩) ?_
  rintro⟨k,N,hI⟩ g2
  by_cases L:k<2
  case neg=>
   obtain rfl:k=2:=I
   have i0:=hI 0 Zd;have i1:=hI 1 Zd;rw[YS rfl]at i0;rw[YT Zd]at i1;have e2:Q5 a b c d=some (Vy a.2 b.2 qt):=by rw[e,YT (by grind)]
   refine ZR<|ZI false<|ug O<|ZR<|ZC (λo f h=>Gj (n:=a.1) (m:=b.1) I I h.2.1.q Zd) λx=>ZC (λo f h=>Gj (n:=a.2) (m:=b.2) I I h.1.2.1.q Zd) λy=>ZV (.tuple #[x.val,y.val,.int .i64 1]) (λo f h=>⟨((x,y),⟨1,by rw[e2];rfl⟩),rfl,f,λE M k2 q A=>by rw[e2]at A;obtain rfl:=Option.some.inj A;exact(h E M k2).2⟩)
  obtain⟨X,W⟩:∃X,X=(if k=0 then qt else qs):=⟨_,rfl⟩
  obtain⟨Y,hY⟩:∃Y,Y=(if k=0 then t else s):=⟨_,rfl⟩
  have hLk: [t,s][k]? =some Y:=by rcases(by omega:k=0\/k=1)with rfl|rfl<;>simp[hY]
  have wJ:∀u,Kn t qt 2 u/\Kn s qs 2 u->Kn Y X 2 u:=λu wI=>by rcases(by omega:k=0\/k=1)with rfl|rfl<;>simp[hY,W]<;>simp[wI]
  have R:X<0\/1<X->Q5 a b c d=none:=λG=>by
   rw[e,YS];rcases(by omega:k=0\/k=1)with rfl|rfl<;>simp at W<;>subst W<;>grind
  refine ZR<|YL ((k:Int)<2)<|ZA (Kd 88 (Kr 2 h) k) (.pointer (some ⟨h,k*4,none⟩)) (λo f h=>Kc (elem:=53) O O L)<|ZA (Ke 53 ⟨h,k*4,none⟩) (Y.val) (λo f h=>Ka (vs:=Y.cl) O O (Hx h.1 k Y hLk))<|ZC (λo f h=>Ki 0 o Zd Zd) λz0=>ZD 5 (λo f h=>Lv (wJ _ h.1.2).q (h.2).q Zd) λc0=> ?_
  have e0:decide (Kv X ((0:Int):Rat)<0)=decide (X<0):=by
   unfold Kv;split
   .rename_i Q;rw[YU (show X<0 by grind)];rfl
   .rename_i Q;rw[YV (show¬X<0 by grind)];split<;>rfl
  have e1:decide (Kv X ((1:Int):Rat)>0)=decide (1<X):=by
   unfold Kv;split
   .rename_i Q;rw[YV (show¬1<X by grind)];rfl
   .split
    .rename_i Q h2;rw[YV (show¬1<X by grind)];rfl
    .rename_i Q h2;rw[YU (show 1<X by grind)];rfl
  cases G:decide (X<0)
  case true=>
   have F:=R (.inl (YP G));refine ZT 67 (.bool (decide (Kv X ((0:Int):Rat)<0))) (.bool true) (by rw[e0,G])<|ZI true<|ug O<|ZR<|ZV (.tuple #[Ou.val,Ou.val,.int .i64 0]) (λo f h=>⟨((Ou,Ou),⟨0,by rw[F];rfl⟩),rfl,f,λE M k2 q A=>by rw[F]at A;cases A⟩)
  refine ZT 67 (.bool (decide (Kv X ((0:Int):Rat)<0))) (.bool false) (by rw[e0,G])<|ZC (λo f h=>Ki 1 o Zd Zd) λz1=>ZC (λo f h=>Lv (wJ _ h.1.1.1.2).q (h.2).q Zd) λc1=> ?_
  cases U:decide (1<X)
  case true=>
   have F:=R (.inr (YP U));refine ZJ (decide (Kv X ((1:Int):Rat)>0)) true (by rw[e1,U])<|ug O<|ZR<|ZV (.tuple #[Ou.val,Ou.val,.int .i64 0]) (λo f h=>⟨((Ou,Ou),⟨0,by rw[F];rfl⟩),rfl,f,λE M k2 q A=>by rw[F]at A;cases A⟩)
  refine ZJ (decide (Kv X ((1:Int):Rat)>0)) false (by rw[e1,U])<|YA 59 k L<|ui (⟨k+1,L,λj T=>by rcases(by omega:j<k\/j=k)with T|rfl;exact hI j T;rw[<-W];exact⟨YO G,YO U⟩⟩) O Zn Zt (λu h=>h.1.1.1.1)
 case false=>
  have D:Lt (Lz b a) (Lz d c)=0:=by simpa using Z
  have hl:((Lz b a).1==0&&(Lz b a).2==0)=false:=by
   refine DN.2 λk=>hun ?_
   simp only[AL,YQ]at k;exact Prod.ext k.1 k.2
  refine ul (Lt (Lz b a) (Lz d c) !=0) false O (Z)<|ZS 2<|uo O (stop:=1000) 1 _<|ZS 2<|ZA (Xj 74 (.tmp 89) (.tmp 90) (Km (Lz b a)) (pt 0 0)) (.bool false) (λo f h=>by rw[<-hl];exact Oc)<|ZI false ?_
  cases S:Lt (Lz b a) (Lz c a) !=0
  case true=>
   have e:=Wu D (λk=>absurd k.1 (bne_iff_ne.1 S));refine ZD 5 (λo f h=>Yn wI G) λm1=>ZT 97 (.bool (Lt (Lz b a) (Lz c a) !=0)) (.bool true) (by rw[S])<|ZI true<|ZV (.tuple #[Ou.val,Ou.val,.int .i64 0]) (λo f h=>⟨((Ou,Ou),⟨0,by rw[e];rfl⟩),rfl,f,λE M k2 q A=>by rw[e]at A;cases A⟩)
  have hz':Lt (Lz b a) (Lz c a)=0:=by simpa using S
  refine ZD 5 (λo f h=>Yn wI G) λm1=>uh 97 (.bool (Lt (Lz b a) (Lz c a) !=0)) (.bool false) O (by rw[S])<|ZS 7<|ZA (Xj 74 (.tmp 98) (.tmp 99) (Km (Lz b a)) (pt 0 0)) (.bool false) (λo f h=>by rw[<-hl];exact Oc)<|ZI false<|ZC (λo f h=>cP H F J P) λs=> ?_
  have hsv:=ba H F J P;cases N:(Nt a b c d).2 !=1
  case true=>
   have e:=Wu D (λk=>absurd k.2 (bne_iff_ne.1 N));refine ZJ ((Nt a b c d).2 !=1) true (N)<|ZV (.tuple #[Ou.val,Ou.val,.int .i64 (Nt a b c d).2]) (λo f h=>⟨((Ou,Ou),⟨(Nt a b c d).2,by rw[e];exact YV (bne_iff_ne.1 N)⟩),rfl,f,λE M k2 q A=>by rw[e]at A;cases A⟩)
  have hk':(Nt a b c d).2=1:=by simpa using N
  have e:=XA D ⟨hz',hk'⟩;have hs:=O0 hsv;refine ZJ ((Nt a b c d).2 !=1) false (N)<|ZC (λo f h=>Ki (Nt a b c d).1.1 o I I) λx=>ZC (λo f h=>Ki (Nt a b c d).1.2 o I I) λy=>ZV (.tuple #[x.val,y.val,.int .i64 1]) (λo f h=>⟨((x,y),⟨1,by rw[e];rfl⟩),rfl,f,λE M k2 q A=>by rw[e]at A;obtain rfl:=Option.some.inj A;exact((h E M k2).2).mono Zd⟩)
end
abbrev LP:=List Pt×YZ
def X9(x:LP):YI:= .slice x.2.1 x.1.length x.2.2
def Qc(x:LP):List YI:=[X9 x]
structure Nw(u:YM)(A:YY)(n:Nat)(H:List LP):Prop where
 row:Kk u A n 1 Qc H
 ring:∀x∈H,Kk u x.2.1 x.1.length 2 K9 x.1
theorem Nw.below{w c:YM}{A:YY}{n:Nat}{H:List LP}(h:Nw w A n H)(b:Below w.heap.size w c):Nw c A n H:=⟨h.row.below b,λx e=>(h.ring x e).below b⟩
abbrev K5(H:List LP):List (List Pt):=H.map (·.1)
def vL:Nat->List (List Pt)->Bool
 |_,[]=>true
 |n,r::L=>(decide (n+r.length<=4096)&&r.all vP)&&vL (n+r.length) L
theorem D9:∀{L:List (List Pt)} {n:Nat},n<=4096->vL n L=(decide (n+L.flatten.length<=4096)&&L.flatten.all vP)
 | [],n,h=>by simp[vL,h]
 | r::L,n,h=>by
  unfold vL
  by_cases b:n+r.length<=4096
  .rw[D9 b,YU b,List.flatten_cons,BR,List.all_append,CB,Nat.add_assoc];cases r.all vP<;>cases L.flatten.all vP<;>simp
  .rw[YV b,YV Zp];rfl
section
variable{w:YM}{A:YY}{n c k:Nat}{H:List LP}{B:Bool}
theorem Qy{ad:XR}(e:A=some ad)(b:k<n):(Kd 132 (.slice A n c) k).run XM w= .ok (.value (.pointer (some (ad.add (k*1))))) w:=by
 rw[e];exact L9 (elem:=296) O O b
theorem Sk{ad:XR}{x:LP}(h:∀(j:Nat) (v:YI),(Qc x)[j]? =some v->w.cell? (ad.add j)=some v):(Ke 296 ad).run XM w= .ok (.value (X9 x)) w:=
 Kh O (by have:=h 0 (X9 x) rfl;simpa[Addr.add]using this)
theorem Oz(p:Nw w A n H)(J:n<=1000000)(F:∀x∈H,x.1.length<=1000000)(G:vL 0 (K5 H)=B):Ca 167 #[.slice A n c] w (CU w (.bool B)):=by
 refine uf func167 rfl<|ZR<|uj (ι:={q:Nat×Nat // q.1<=n/\q.2<=4096/\vL q.2 (K5 (H.drop q.1))=B}) 23 (λq=>⟨[vS 0 A n c,vI 3 q.1.2,vS 6 A n c,vI 7 n,vI 8 q.1.1],[]⟩) (λ_ _=>True) (λq=>n-q.1.1) (⟨(0,0),AO _,AO _,G⟩) O Zf Zt (λ_ _=>trivial) ?_
 rintro⟨⟨k,m⟩,Z,K,b⟩ L
 by_cases e:k<n
 case neg=>
  have:B=true:=by rw[<-b,BB (by rw[p.row.1];omega)];rfl
  exact ZR<|YN ((k:Int)<(n:Int))<|ug O<|ZR<|ZX (.bool true) (by rw[this])
 obtain⟨x,y⟩:∃v,H[k]? =some v:=⟨_,AD (by rw[p.row.1];exact e)⟩
 obtain⟨ad,z,D⟩:=p.row.2 k x y;have f:=AY y;have o:=F x f;rw[N3 y]at b;replace b:((decide (m+x.1.length<=4096)&&x.1.all vP)&&vL (m+x.1.length) (K5 (H.drop (k+1))))=B:=b;refine ZR<|YL ((k:Int)<(n:Int))<|ZA (Kd 132 (.slice A n c) k) (.pointer (some (ad.add (k*1)))) (λt l h=>Qy z e)<|uw (Ke 296 (ad.add (k*1))) (X9 x) O (λt l h=>Sk λj v E=>L5 l (D j v E))<|ZS 3<|uo O (stop:=1000) 2 _<|YB 3 ((m:Int)+(x.1.length:Int)) ((m+x.1.length:Nat):Int)<|ZS 2 ?_
 by_cases g:m+x.1.length<=4096
 case neg=>
  have:B=false:=by rw[<-b,YV g];rfl
  exact YE 17 (((m+x.1.length:Nat):Int)>4096) I<|ZI true<|ug O<|ZR<|ZX (.bool false) (by rw[this])
 rw[YU g,CB]at b;refine YF 17 (((m+x.1.length:Nat):Int)>4096) I ?_;cases s:x.1.all vP
 .have:B=false:=by rw[<-b,s];rfl
  exact ZR<|ZC (λt l h=>UH (c:=x.2.2) ((p.ring x f).below l) o s) λu=>ZI true<|ug O<|ZR<|ZX (.bool false) (by rw[this])
 rw[s,CB]at b;refine ZR<|ZC (λt l h=>UH (c:=x.2.2) ((p.ring x f).below l) o s) λu=>ZI false<|YA 8 k e<|ui (⟨(k+1,m+x.1.length),e,g,b⟩) O Zn Zt (λ_ _=>trivial)
end
section
variable{w w' u:YM}{e e1 e2:XX}{s n B:Nat}
theorem N8{B2 m cc o c2 v k:Nat}{Y Y2:YY}{xs g:List YI}(h:K6 u B e1 v Y m cc xs)(t:K6 u B2 e2 k Y2 o c2 g)(c:e1≠e2):∀b∈bl Y,b∉bl Y2:=λb l f=>by
 obtain⟨y,x,p⟩:=h.ty b l;obtain⟨c2,z,j⟩:=t.ty b f;rw[p]at j;simp only[AW,Obj.cells.injEq]at j;exact c j.2.1
theorem O7{P:YH}{t:Sem Next}{y:YZ}{xs:List YI}(G:Mv P u (bl y.1) (λz:YZ=> .slice z.1 n z.2) (λz v=>K6 v B e s z.1 n z.2 xs) t){R:YZ->Prop}(A:∀z,(∀b∈bl z.1,b∈bl y.1\/u.heap.size<=b)->R z):
 Mv P u (bl y.1) (λz:YZ=> .slice z.1 n z.2) (λz v=>K6 v B e s z.1 n z.2 xs/\R z) t:=by
 obtain⟨z,w',D,J,o⟩:=G;refine⟨z,w',D,J,λl H k2=>⟨o l H k2,A z λb p=> ?_⟩⟩
 by_cases f:b∈bl y.1
 .exact .inl f
 right;rcases CE b u.heap.size with F|j
 case inr=>exact j
 exfalso;have h:=o w' (AA _) λ_ _=>rfl
 have c:b<w'.heap.size:=(h.lt b p).2;have m:=o {w' with heap:=w'.heap.setIfInBounds b (.pending #[] 0)} Zs λk g=>by
  rw[BO];intro E;subst E;rcases g with g|g
  .exact f g
  .omega
 obtain⟨_,cs,ty,own,x⟩:=m.blk b p;rw[CA c]at x;cases x
end
structure Kf(B:Nat)(y:YZ)(n:Nat)(H:List LP)(u:YM):Prop where
 own:K6 u B 296 1 y.1 n y.2 (H.flatMap Qc)
 ring:∀x∈H,K6 u B 74 2 x.2.1 x.1.length x.2.2 (x.1.flatMap K9)
def WY(A:YY)(H:List LP):Prop:=∀b∈bl A,∀x∈H,b∉bl x.2.1
section
variable{w u wa:YM}{B n m k gb:Nat}{y z:YZ}{H:List LP}{x:LP}{A:YY}{acc:List Pt}{p:Pt}
theorem UR:∀(H:List LP),H.flatMap Qc=H.map X9
 | []=>rfl
 |x::H=>by rw[BG,UR H];rfl
theorem ux:Kf B (none,0) 0 [] u:=⟨uG,by simp⟩
theorem Kf.len(h:Kf B y n H u):H.length=n:=by
 have:=h.own.len;rw[UR]at this;simpa using this
theorem Kf.polyA(h:Kf B y n H u):Nw u y.1 n H:=
 ⟨h.own.reads.rows (λ_=>rfl) h.len,λx b=>(h.ring x b).reads.rows (λ_=>rfl) rfl⟩
theorem Kf.stay(h:Kf B y n H wa){cc:Nat}{xs:List YI}{m:Nat}(l:K6 wa B 74 2 A m cc xs)(c:WY A H)(j:∀b,b∉bl A->wa.heap[b]? =u.heap[b]?):Kf B y n H u:=
 ⟨h.own.left j λb e f=>N8 l h.own Zd b f e,λx g=>(h.ring x g).left j λb e f=>c b f x g e⟩
theorem Kf.mono{N:Nat}(h:Kf B y n H u)(f:N<=B):Kf N y n H u:=
 ⟨h.own.rebase λb c=>AC f (h.own.lt b c).1,λx e=>(h.ring x e).rebase λb c=>AC f ((h.ring x e).lt b c).1⟩
theorem my(F:K6 u B 74 2 z.1 m z.2 (acc.flatMap K9))(G:B<=u.heap.size)(Z:Kf B y n H u)(c:WY z.1 H)(D:Kw 74 (K9 p).toArray gb u)(J:m<=10000000):
 Mv XM u (bl z.1) (λz:YZ=> .slice z.1 (m+1) z.2) (λz v=>K6 v B 74 2 z.1 (m+1) z.2 ((acc++ [p]).flatMap K9)/\WY z.1 H) (My 296 296 (.slice z.1 m z.2) (Kr 1 gb)):=by
 have o:=M2 (P:=XM) (s:=2) (z:=pt 0 0) (bytes:=16) (m:=1) (cc:=1) (t:=296) (elem:=74) O O rfl Zd F G (Mc (n:=1) D rfl) (by intro v h;simp[K9]at h;rcases h with rfl|rfl<;>rfl) I Zd;have e:(acc++ [p]).flatMap K9=acc.flatMap K9++(K9 p).toArray.toList:=Zs
 rw[e];refine O7 o λz' l b E x g f=> ?_
 rcases l b E with j|j
 .exact c b j x g f
 .have:=((Z.ring x g).lt b f).2;omega
theorem LN(h:Kf B y n H u)(g:B<=u.heap.size)(f:Kw 296 (Qc x).toArray gb u)(j:n<=10000000):
 Mv XM u (bl y.1) (λz:YZ=> .slice z.1 (n+1) z.2) (λz v=>K6 v B 296 1 z.1 (n+1) z.2 ((H++ [x]).flatMap Qc)) (My 132 132 (.slice y.1 n y.2) (Kr 1 gb)):=by
 have c:=M2 (P:=XM) (s:=1) (z:= .slice none 0 0) (bytes:=24) (m:=1) (cc:=1) (t:=132) (elem:=296) O O rfl Zd h.own g (Mc (n:=1) f rfl) (by intro v b;simp[Qc]at b;subst b;rfl) I Zd;have e:(H++ [x]).flatMap Qc=H.flatMap Qc++(Qc x).toArray.toList:=Zs
 rw[e];exact c
theorem Kf.app(h:Kf B y n H wa)(f:K6 wa B 74 2 x.2.1 x.1.length x.2.2 (x.1.flatMap K9))(g:∀b,b∉bl y.1->wa.heap[b]? =u.heap[b]?)(j:K6 u B 296 1 z.1 (n+1) z.2 ((H++ [x]).flatMap Qc)):Kf B z (n+1) (H++ [x]) u:=by
 refine⟨j,λq l=> ?_⟩;rcases AZ.1 l with c|c
 .exact(h.ring q c).left g λb e=>N8 (h.ring q c) h.own Zd b e
 .obtain rfl:q=x:=by simpa using c
  exact f.left g λb e=>N8 f h.own Zd b e
theorem Kf.same(h:Kf B y n H wa)(e:∀b,B<=b->b<wa.heap.size->u.heap[b]? =wa.heap[b]?):Kf B y n H u:=
 ⟨h.own.same λb c=>e b (h.own.lt b c).1 (h.own.lt b c).2,λx f=>(h.ring x f).same λb c=>e b ((h.ring x f).lt b c).1 ((h.ring x f).lt b c).2⟩
theorem L7{α:Type}{l:List α}{k:Nat}{x:α}(h:l[k]? =some x):l.take (k+1)=l.take k++ [x]:=by rw[DM,h];rfl
theorem sP(p:Pt):jk p (0,0)=p:=by unfold jk;simp
theorem gH{c N:Nat}(hN:N<=w.heap.size)(J:Nw w A n H)(hn:n<=1000000)(hv:vL 0 (K5 H)=true):Ca 366 #[.slice A n c,pt 0 0] w (K4 w (λq:(YZ)×{l:List LP // K5 l=K5 H}=> .slice q.1.1 n q.1.2) λq u=>Kf N q.1 n q.2.1 u):=by
 have Z:=hv;rw[D9 (AO _),AL,decide_eq_true_eq,AN]at Z;have D:∀x∈H,x.1.length<=4096:=λx o=>by
  have:x.1.length<=(K5 H).flatten.length:=List.Sublist.length_le (List.sublist_flatten_of_mem (List.mem_map_of_mem o));omega
 have P:∀x∈H,∀p∈x.1,vP p=true:=λx o p J=>Z.2 p (List.mem_flatten.2 ⟨x.1,List.mem_map_of_mem o,J⟩)
 refine uf func366 rfl<|ZR<|ZC (λf e h=>Oz (c:=c) (J.below e) hn (λx o=>by have:=D x o;omega) hv) λv=>ZI false<|uj (ι:={q:(Nat×List LP)×(YZ) // q.1.1<=n/\K5 q.1.2=K5 (H.take q.1.1)}) 39 (λq=>⟨[(3,.p 3 0),vS 5 q.1.2.1 q.1.1.1 q.1.2.2,vS 14 A n c,vI 15 n,vI 16 q.1.1.1],[(3,[.v (.int .i64 0),.v (.int .i64 0)])]⟩) (λq u=>Kf w.heap.size q.1.2 q.1.1.1 q.1.1.2 u) (λq=>n-q.1.1.1) (⟨((0,[]),(none,0)),AO _,rfl⟩) O Zf Zt (λ_ _=>ux) ?_
 rintro⟨⟨⟨k,L⟩,y⟩,hk,hL⟩ gg;have hk2:k<=n:=hk;have wI:K5 L=K5 (H.take k):=hL
 by_cases g:k<n
 case neg=>
  obtain rfl:k=n:=I
  have W:K5 L=K5 H:=by rw[wI,BS (by rw[J.row.1];omega)]
  refine ZR<|YN ((k:Int)<(k:Int))<|ug O<|ZR<|ZV (.slice y.1 k y.2) (λf e h=>⟨(y,⟨L,W⟩),rfl,e,λT k1 k2=>Kf.mono (h T k1 k2) hN⟩)
 obtain⟨x,o⟩:∃v,H[k]? =some v:=⟨_,AD (by rw[J.row.1];exact g)⟩
 obtain⟨ad,hA,hc⟩:=J.row.2 k x o;have F:=AY o;have hlx:=D x F;refine ZR<|YL ((k:Int)<(n:Int))<|ZA (Kd 132 (.slice A n c) k) (.pointer (some (ad.add (k*1)))) (λf e h=>Qy hA g)<|ZA (Ke 296 (ad.add (k*1))) (X9 x) (λf e h=>Sk λj v Q=>L5 e (hc j v Q))<|uj (ι:={q:Nat×(YZ) // q.1<=x.1.length}) 39 (λq=>⟨[(3,.p 3 0),vS 5 y.1 k y.2,vV 7 (X9 x),vS 8 q.1.2.1 q.1.1 q.1.2.2,vS 14 A n c,vI 15 n,vI 16 k,vV 20 (X9 x),vI 21 x.1.length,vI 22 q.1.1],[(3,[.v (.int .i64 0),.v (.int .i64 0)])]⟩) (λq u=>(K6 u w.heap.size 74 2 q.1.2.1 q.1.1 q.1.2.2 ((x.1.take q.1.1).flatMap K9)/\WY q.1.2.1 L)/\Kf w.heap.size y k L u) (λq=>x.1.length-q.1.1) (⟨(0,(none,0)),AO _⟩) O Zf Zt (λu h=>⟨⟨uG,by intro b E;cases E⟩,h⟩) ?_
 rintro⟨⟨j,z⟩,Q⟩ gg2
 by_cases t:j<x.1.length
 case neg=>
  obtain rfl:j=x.1.length:=by have:=Q;simp only at this;omega
  refine ZR<|YN ((x.1.length:Int)<(x.1.length:Int))<|ug O<|ZS 2<|uk (Lr 132 1 #[(0,X9 (x.1,z))]) (Kr 1) (Kw 296 (Qc (x.1,z)).toArray) O (λf e h=>Kj O) λgb=>ZS 3<|uA (L:=bl y.1) (val:=λ(z:YZ)=> .slice z.1 (k+1) z.2) (Φ':=λ(wJ:YZ) v=>Kf w.heap.size wJ (k+1) (L++ [(x.1,z)]) v) (G:=λ(z':YZ) v=>K6 v w.heap.size 296 1 z'.1 (k+1) z'.2 ((L++ [(x.1,z)]).flatMap Qc)) (My 132 132 (.slice y.1 k y.2) (Kr 1 gb)) (λf e h=>LN h.1.2 e.size h.2 I) (λf h b E=>⟨(h.1.2.own.lt b E).1,(h.1.2.own.blk b E).2⟩) (λwJ wa f e1 U h S=>h.1.2.app (by have:=h.1.1.1;rw[List.take_length]at this;exact this) U S) O O λwJ=>ZR<|YA 16 k g<|ui (⟨((k+1,L++ [(x.1,z)]),wJ),g,by show K5 (L++ [(x.1,z)])=K5 (H.take (k+1));unfold K5 at wI ⊢;rw[L7 o,DW,DW,wI];rfl⟩) O Zn Zt (λ_ h=>h)
 obtain⟨p,K⟩:∃v,x.1[j]? =some v:=⟨_,AD t⟩
 have X:=P x F p (AY K);obtain⟨M,R,Y⟩:=(J.ring x F).2 j p K;refine ZR<|YL ((j:Int)<(x.1.length:Int))<|ZA (Kd 296 (X9 x) j) (.pointer (some (M.add (j*2)))) (λf e h=>Lh R t)<|ZA (Ke 74 (M.add (j*2))) (Km p) (λf e h=>M5 λi v hi=>L5 e (Y i v hi))<|ZD 4 (λf e h=>oQ (a:=p) (b:=(0,0)) X Zd) λs=>uh 29 (Km (jk p (0,0))) (Km p) O (by rw[sP])<|uk (Lr 296 1 #[(0,Km p)]) (Kr 1) (Kw 74 (K9 p).toArray) O (λf e h=>Kj O) λgb=>ZS 5<|uA (L:=bl z.1) (val:=λ(z:YZ)=> .slice z.1 (j+1) z.2) (Φ':=λ(z:YZ) v=>(K6 v w.heap.size 74 2 z.1 (j+1) z.2 ((x.1.take (j+1)).flatMap K9)/\WY z.1 L)/\Kf w.heap.size y k L v) (G:=λ(z:YZ) v=>K6 v w.heap.size 74 2 z.1 (j+1) z.2 ((x.1.take j++ [p]).flatMap K9)/\WY z.1 L) (My 296 296 (.slice z.1 j z.2) (Kr 1 gb)) (λf e h=>my h.1.1.1.1 e.size h.1.1.2 h.1.1.1.2 h.2 I) (λf h b E=>⟨(h.1.1.1.1.lt b E).1,(h.1.1.1.1.blk b E).2⟩) (λz' wa f e1 U h S=>⟨by rw[L7 K];exact S,h.1.1.2.stay h.1.1.1.1 h.1.1.1.2 U⟩) O O λz'=>ZR<|YA 22 j t<|ui (⟨(j+1,z'),t⟩) O Zn Zt (λ_ h=>h)
end
def Kg(u:YM)(g:Nat)(t:XX)(cs:List YI):Prop:=u.heap[g]? =some (.cells cs.toArray t (0,0))
section
variable{P:YH}{w u wa:YM}{g g2 N B m cc s:Nat}{t t2 e:XX}{cs cs2 xs:List YI}{v z:YI}{L:List Nat}{Y:YY}
theorem Kg.lt(h:Kg u g t cs):g<u.heap.size:=(AE.1 h).1
theorem Kg.own(h:Kg u g t cs):∃cs ty own,u.heap[g]? =some (.cells cs ty own):=⟨_,_,_,h⟩
theorem Kg.to(h:Kg w g t cs)(e:u.heap[g]? =w.heap[g]?):Kg u g t cs:=e.trans h
theorem Kg.below(h:Kg w g t cs)(b:Below w.heap.size w u):Kg u g t cs:=h.to (b.block g h.lt)
theorem Kg.left(h:Kg wa g t cs)(f:∀b,b∉L->wa.heap[b]? =u.heap[b]?)(c:g∉L):Kg u g t cs:=h.to (f g c).symm
theorem uT:D3 λu=>Kg u g t cs:=λwa u _ b h=>(b _ _ _ _ h).trans h
theorem Kg.range(h:Kg w g t cs):w.rangeAt g 0 cs:=K8.range ⟨t,h⟩
theorem Kg.ne(h:Kg u g t cs)(j:K6 u B e s Y m cc xs)(f:e≠t):∀b∈bl Y,b≠g:=λb l k=>by
 obtain⟨o,p,c⟩:=j.ty b l;rw[k,show u.heap[g]? =_ from h]at c;simp only[AW,Obj.cells.injEq]at c;exact f c.2.1.symm
theorem Kg.ne2(h:Kg u g t cs)(f:Kg u g2 t2 cs2)(b:t≠t2):g≠g2:=λk=>by
 subst k;have c:=Eq.trans (show u.heap[g]? =_ from h).symm f;simp only[AW,Obj.cells.injEq]at c;exact b c.2.1
theorem Kg.load1(h:Kg u g t [v])(b:Nx P t=some false):(Ke t ⟨g,0,none⟩).run P u= .ok (.value v) u:=
 Kh b (by have:=h.range 0 v rfl;simpa using this)
theorem Kg.loadN(h:Kg u g t cs)(b:Nx P t=some true)(c:Mq P t=some cs.length):(Ke t ⟨g,0,none⟩).run P u= .ok (.value (.agg cs.toArray)) u:=Ka b c h.range
theorem Kg.store(h:Kg w g t cs)(p:Mq P t=some cs.length)(o:v.cells.size=cs.length)(x:∀u∈v.cells.toList,u.oneCell'=true):
 ∃l,(Om t ⟨g,0,none⟩ v).run P w= .ok .skip l/\Ei [g] w l/\∀c,l.heap.size<=c.heap.size->(∀b∈[g],c.heap[b]? =l.heap[b]?)->Kg c g t v.cells.toList:=by
 have f:=run_storeCells_at P g 0 t v.cells.toList 0 cs.toArray w h Zp x;have j:((cs.toArray.toList.take (0+0)++v.cells.toList++cs.toArray.toList.drop (0+0+v.cells.toList.length)).toArray)=v.cells:=by
  simp[o]
 rw[j]at f;refine⟨w.setRow g v.cells,?_,⟨rfl,rfl,rfl,by rw[O1];exact AA _,λk _ y=>Na _ _ _ _ (by simpa using y)⟩,λc A k2=> ?_⟩
 .simp only[Om,Instr.storeAt,Instr.sureAddr,storeVar,AF,AH,AB,Lb p];rw[YT (by simpa using o)];simp only[f,AH,AF,AB]
 .unfold Kg;rw[k2 g Zs];simp only[World.setRow,BV,if_true,show w.heap[g]? =_ from h,BE,CN]
theorem Qn(c:N<=w.heap.size)(j:∀b∈L,b<w.heap.size):M9 P w Kp (λg u=>Kg u g t v.cells.toList/\N<=g/\g∉L) (B0 t v):=
 ⟨w.heap.size,w.alloc (.cells v.cells t),by simp only[B0,Instr.box,AF,Rf,AB,AH,Kp],Pa _ _,λf k h=>⟨by unfold Kg;rw[(Pv w _ k h).1,CN],c,λl=>by have:=j _ l;omega⟩⟩
theorem Ny(c:Tz P t=some z)(f:N<=w.heap.size)(k:∀b∈L,b<w.heap.size):M9 P w Kp (λg u=>Kg u g t z.cells.toList/\N<=g/\g∉L) (Vz t):=
 ⟨w.heap.size,w.alloc (.cells z.cells t),by simp only[Vz,Instr.alloc,AF,Qj c,Rf,AB,AH,Kp],Pa _ _,λh l j=>⟨by unfold Kg;rw[(Pv w _ l j).1,CN],f,λo=>by have:=k _ o;omega⟩⟩
end
def Gk(g:Nat)(y:YZ)(n:Nat)(H:List LP)(u:YM):Prop:=Kg u g 132 [.slice y.1 n y.2]/\Nw u y.1 n H
def Eh(N g:Nat)(y:YZ)(n:Nat)(H:List LP)(u:YM):Prop:=Kg u g 132 [.slice y.1 n y.2]/\Kf N y n H u
theorem Eh.at{N g n:Nat}{y:YZ}{H:List LP}{u:YM}(h:Eh N g y n H u):Gk g y n H u:=⟨h.1,h.2.polyA⟩
section
variable{w:YM}{A:YY}{n c k:Nat}{H:List LP}{B:Bool}
theorem SF{N:Nat}(t:N<=w.heap.size)(K:Nw w A n H)(wI:n<=1000000)(j:vL 0 (K5 H)=true):Ca 333 #[.slice A n c] w (K4 w (λq:(Nat×YZ)×{l:List LP // K5 l=K5 H}=> .func (.func 367) #[] #[Kp q.1.1]) λq u=>Eh N q.1.1 q.1.2 n q.2.1 u/\N<=q.1.1):=by
 refine uf func333 rfl<|ZR<|ZD 3 (λm e h=>gH (c:=c) e.size (K.below e) wI j) λy=>uk (Vz 132) (Kp) (λg u=>Kg u g 132 [.slice none 0 0]/\w.heap.size<=g/\g∉[]) O (λm e h=>Ny (z:= .slice none 0 0) O e.size Zs) λg=>ZS 4<|um (p:=w.heap.size<=g) (λu Z h=>h.2.2.1) O λo=>ur (L:=[g]) (G:=λu=>Kg u g 132 [.slice y.1.1 n y.1.2]) (Φ':=λu=>Eh w.heap.size g y.1 n y.2.1 u) (Om 132 ⟨g,0,none⟩ (.slice y.1.1 n y.1.2)) (λm e h=>h.2.1.store O rfl (λv j=>by have j:=AU.1 j;subst j;rfl)) (λu h=>Za ⟨h.2.2.1,h.2.1.own⟩) (λM u P F h J=>⟨J,(show Kf w.heap.size y.1 n y.2.1 u from⟨h.1.2.own.left F λb s=>by simpa using h.2.1.ne h.1.2.own Zd b s,λx D=>(h.1.2.ring x D).left F λb s=>by simpa using h.2.1.ne (h.1.2.ring x D) Zd b s⟩)⟩) O O<|ZR<|ZV (.func (.func 367) #[] #[Kp g]) (λm e h=>⟨((g,y.1),y.2),rfl,e,λf E k2=>⟨⟨(h f E k2).1,(h f E k2).2.mono t⟩,AC t o⟩⟩)
theorem He{t:XX}{x y:XZ}{a b:Nat}{k:IntKind}(g:0<b):(C4 .rem t x y (.int k (a:Int)) (.int k (b:Int))).run XM w= .ok (.value (.int k ((a%b:Nat):Int))) w:=by
 have f:((b:Nat):Int)≠0:=I
 have e:((a:Nat):Int).tmod (b:Int)=((a%b:Nat):Int):=rfl;simp only[C4,eqGuard_rem,AF,AH,AB,binOp,Op.intDiv,ne_eq,not_true_eq_false,if_false,f,e]
end
theorem Kk.at{α:Type}{w:YM}{A:YY}{n s k:Nat}{cl:α->List YI}{l:List α}{ad:XR}{x:α}(h:Kk w A n s cl l)(b:A=some ad)(c:l[k]? =some x):∀(j:Nat) (v:YI),(cl x)[j]? =some v->w.cell? ((ad.add (k*s)).add j)=some v:=by
 obtain⟨f,g,e⟩:=h.2 k x c;rw[g]at b;cases b;exact e
theorem Kk.some{α:Type}{w:YM}{A:YY}{n s k:Nat}{cl:α->List YI}{l:List α}{x:α}(h:Kk w A n s cl l)(c:l[k]? = .some x):∃ad,A= .some ad:=by
 obtain⟨b,e,f⟩:=h.2 k x c;exact⟨b,e⟩
def OA(r:List Pt):List (Pt×Pt):=r.zip (r.drop 1++r.take 1)
theorem iy(r:List Pt):(r.drop 1++r.take 1).length=r.length:=by simp;omega
theorem db(r:List Pt):(OA r).length=r.length:=by unfold OA;rw[List.length_zip,iy];omega
theorem fD{r:List Pt}{j:Nat}{a b:Pt}(e:r[j]? =some a)(c:r[(j+1)%r.length]? =some b):(OA r)[j]? =some (a,b):=by
 have f:=(AR.1 e).1;unfold OA;rw[List.getElem?_zip_eq_some];refine⟨e,?_⟩
 by_cases h:j+1<r.length
 .rw[Nat.mod_eq_of_lt h]at c;rw[BL Zp,List.getElem?_drop,Nat.add_comm];exact c
 .obtain rfl:j=r.length-1:=I
  rw[show r.length-1+1=r.length by omega,Nat.mod_self]at c;rw[BK Zs,BW,Nat.sub_self,BQ,YS Zd];exact c
theorem Y_{α:Type}{xs l:List α}{k:Nat}{x:α}(h:xs.drop k=x::l):xs[k]? =some x/\xs.drop (k+1)=l/\k<xs.length:=by
 have b:k<xs.length:=Nat.lt_of_not_le λc=>by rw[BB c]at h;cases h
 rw[CV b]at h;injection h with h2 h3;exact⟨by rw[AD b,h2],h3,b⟩
def pR(e:Pt×Pt):Bool:=e.1 !=e.2
theorem J0{W:YM}{g n:Nat}{y:YZ}{H:List LP}(hn:n<=1000000)(hln:H.length=n)(hl:∀x∈H,x.1.length<=4096)(hv:∀x∈H,∀p∈x.1,vP p=true):Jt XM W 367 #[Kp g] (λe:Pt×Pt=> #[Km e.1,Km e.2]) (Ku (K5 H)) (Gk g y n H):=by
 intro l ι J L G s0 w hW c R N hy h0;obtain⟨xs,S⟩:∃xs,xs=Ku (K5 H):=⟨_,rfl⟩
 rw[<-S]at hy ⊢;refine uB func367 rfl hW<|uN (Φ':=λu=>J s0 0 u/\w.heap.size<=u.heap.size) O (λu wI=>⟨h0 u wI,wI.1⟩)<|ZR<|ZA (Ke 132 ⟨g,0,none⟩) (.slice y.1 n y.2) (λt z h=>(c _ _ _ h.1).1.load1 O)<|uj (ι:={q:(ι×Nat)×Nat // q.2<=n/\xs.drop q.1.2=Ku (K5 (H.drop q.2))/\q.1.2<=xs.length}) 41 (λq=>⟨[vV 0 (.func (.yield l) #[] #[]),vV 1 (Kp g),vS 8 y.1 n y.2,vI 9 n,vI 10 q.1.2],[]⟩) (λq u=>J q.1.1.1 q.1.1.2 u/\w.heap.size<=u.heap.size) (λq=>n-q.1.2) (⟨((s0,0),0),AO _,by rw[S];rfl,AO _⟩) O Zf Zt (λ_ h=>h) ?_
 rintro⟨⟨⟨s,k⟩,i⟩,hi,Z,hk⟩ gg;have f:xs.drop k=Ku (K5 (H.drop i)):=Z;have D:k<=xs.length:=hk
 by_cases K:i<n
 case neg=>
  refine ZR<|YN ((i:Int)<(n:Int))<|ug O<|ZR ?_
  have Y:k=xs.length:=by
   rw[BB (show H.length<=i by omega)]at f;have:=List.drop_eq_nil_iff.1 (show xs.drop k=[]from f);omega
  refine ZV (.tuple #[]) (λt z h=>⟨⟨_,rfl⟩,z,(Yh h).2,s,λu wI=>by rw[<-Y];exact(h u wI.1 wI.2).1⟩)
 obtain⟨x,X⟩:∃v,H[i]? =some v:=⟨_,AD I⟩
 have o:=AY X;have hlx:=hl x o;have M:xs.drop k=(OA x.1).filter pR++Ku (K5 (H.drop (i+1))):=by rw[f,N3 X];rfl
 refine um (p:=∃ad,y.1=some ad) (λu wI h=>(c _ _ _ h.1).2.row.some X) O (λhp=> ?_);obtain⟨ad,hA⟩:=hp;refine ZR<|YL ((i:Int)<(n:Int))<|ZA (Kd 132 (.slice y.1 n y.2) i) (.pointer (some (ad.add (i*1)))) (λt z h=>Qy hA K)<|ZA (Ke 296 (ad.add (i*1))) (X9 x) (λt z h=>Sk ((c _ _ _ h.1).2.row.at hA X))<|uj (ι:={q:(ι×Nat)×Nat // q.2<=x.1.length/\xs.drop q.1.2=((OA x.1).drop q.2).filter pR++Ku (K5 (H.drop (i+1)))/\q.1.2<=xs.length}) 41 (λq=>⟨[vV 0 (.func (.yield l) #[] #[]),vV 1 (Kp g),vV 4 (X9 x),vS 8 y.1 n y.2,vI 9 n,vI 10 i,vV 14 (X9 x),vI 15 x.1.length,vI 16 q.1.2],[]⟩) (λq u=>J q.1.1.1 q.1.1.2 u/\w.heap.size<=u.heap.size) (λq=>x.1.length-q.1.2) (⟨((s,k),0),AO _,M,D⟩) O Zf Zt (λ_ h=>h) ?_
 rintro⟨⟨⟨s,k⟩,j⟩,hj,Z,hk⟩ gg2;have hj2:j<=x.1.length:=hj;have f:xs.drop k=((OA x.1).drop j).filter pR++Ku (K5 (H.drop (i+1))):=Z;have D:k<=xs.length:=hk
 by_cases m:j<x.1.length
 case neg=>
  have hd4:xs.drop k=Ku (K5 (H.drop (i+1))):=by rw[f,BB (by rw[db];omega)];rfl
  refine ZR<|YN ((j:Int)<(x.1.length:Int))<|ug O<|ZR<|YA 10 i K<|ui (⟨((s,k),i+1),K,hd4,D⟩) O Zn Zt (λ_ h=>h)
 obtain⟨a,T⟩:∃v,x.1[j]? =some v:=⟨_,AD m⟩
 have P:(j+1)%x.1.length<x.1.length:=BX _ I;obtain⟨b,wJ⟩:∃v,x.1[(j+1)%x.1.length]? =some v:=⟨_,AD P⟩
 have B:=hv x o a (AY T);have A:=hv x o b (AY wJ);rw[N3 (fD T wJ)]at f;refine um (p:=∃ad,x.2.1=some ad) (λu wI h=>((c _ _ _ h.1).2.ring x o).some T) O (λhp=> ?_);obtain⟨E,F⟩:=hp;refine ZR<|YL ((j:Int)<(x.1.length:Int))<|ZA (Kd 296 (X9 x) j) (.pointer (some (E.add (j*2)))) (λt z h=>Lh F m)<|uw (Ke 74 (E.add (j*2))) (Km a) O (λt z h=>M5 (((c _ _ _ h.1).2.ring x o).at F T))<|ZS 5<|uo O (stop:=1000) 1 _<|ZS 5<|YA 23 j m<|ZA (C4 .rem 3 (.tmp 23) (.tmp 25) (.int .i64 ((j+1:Nat):Int)) (.int .i64 (x.1.length:Int))) (.int .i64 (((j+1)%x.1.length:Nat):Int)) (λt z h=>He I)<|ZA (Kd 296 (X9 x) ((j+1)%x.1.length:Nat)) (.pointer (some (E.add ((j+1)%x.1.length*2)))) (λt z h=>Lh F P)<|uw (Ke 74 (E.add ((j+1)%x.1.length*2))) (Km b) O (λt z h=>M5 (((c _ _ _ h.1).2.ring x o).at F wJ))<|ZS 2 ?_
 cases U:decide (a=b)
 case true=>
  have M:xs.drop k=((OA x.1).drop (j+1)).filter pR++Ku (K5 (H.drop (i+1))):=by
   rw[f,List.filter_cons_of_neg (by rw[YP U];simp[pR])]
  refine ZA (tp (.tmp 29) (.tmp 30) B A) (.bool false) (λt z h=>SL B A U)<|ZI false<|YA 16 j m<|ui (⟨((s,k),j+1),m,M,D⟩) O Zn Zt (λ_ h=>h)
 rw[List.filter_cons_of_pos (by simpa[pR]using U)]at f;obtain⟨q1,q2,q3⟩:=Y_ (by rw[f,DO]);refine ZA (tp (.tmp 29) (.tmp 30) B A) (.bool true) (λt z h=>SL B A U)<|vC (L:=L s) (val:=λ_:ι=> .bool true) (G:=G s) (Φ':=λQ u=>J Q (k+1) u/\w.heap.size<=u.heap.size) (l:=l) (args:= #[Km a,Km b]) (λt wJ hcl=>hy s k (a,b) t wJ (λu wI=>(hcl u wI).1) q1) (λu h=>R s k u h.1) (λQ wa u e1 e2 h hG=>⟨N s k Q wa u e1 e2 h.1 hG,by rw[<-e1];exact h.2⟩) O O λQ=>ZR<|ZI false<|YA 16 j m<|ui (⟨((Q,k+1),j+1),m,q2,q3⟩) O Zn Zt (λ_ h=>h)
def RU{α:Type}(d:Nat):Result α->Prop
 | .ok _ w=>d<=w.drawn
 | .halt _ w=>d<=w.drawn
theorem mS{α:Type}(a:Ask α):∀w:YM,w.drawn<=(w.ask a).2.drawn:=by
 induction a with
 |done a=>exact λw=>AA _
 |ask b range k c=>
  intro w;unfold World.ask;dsimp only;split
  .exact c _ w
  .exact AC (Nat.le_succ w.drawn) (c _ {w with drawn:=w.drawn+1})
theorem o8(w:YM)(c:Sys):w.drawn<=(w.sys c).2.drawn:=by
 have h:=mS (Kernel.perform c w.os) w;unfold World.sys;split
 .exact AA _
 .rename_i e;rw[e]at h;exact h
theorem IZ{p:YH}{w b:YM}{at_:XR}{u:XX}{k:XR}{v:YI}{a:Bool}{l:List XR}(h:w.viewStore p at_ u k v a= .ok (b,l)):b.drawn=w.drawn:=by
 unfold World.viewStore at h;simp only[bind,Except.bind,pure,Except.pure]at h
 repeat' first
  |(cases h;done)
  |(cases h;rfl)
  |split at h
theorem K_{p:YH}{w c:YM}{a:XR}{v:YI}{b:Bool}{l:List XR}(h:w.farStore p a v b= .ok (c,l)):c.drawn=w.drawn:=by
 unfold World.farStore at h;split at h
 .split at h
  .rename_i e;cases h;exact IZ e
  .cases h
 .cases h
theorem Hd(p:YH){α:Type}(s:Sem α):∀w:YM,RU w.drawn (s.run p w):=by
 induction s with
 |pure a=>exact λw=>AA _
 |load m a k b=>
  intro w;simp only[Sem.run]
  repeat' split
  all_goals first|exact b _ w|exact AA _
 | store m a v k b=>
  intro w;cases v
  all_goals
   simp only[Sem.run];try exact AA _
  all_goals
   split
   .split
    .exact AA _
    .exact b (w.setCell _ _)
   .split
    .rename_i g _ e;have j:=K_ e;have:=b g;rw[j]at this;exact this
    .exact AA _
 |new o k b=>intro w;exact b _ _
 |shape r k b=>intro w;exact b _ w
 |freeze a n k b=>
  intro w;have f:=b (w.freeze a n);have e:(w.freeze a n).drawn=w.drawn:=by unfold World.freeze;split<;>rfl
  rw[e]at f;exact f
 |frozen a k b=>intro w;exact b _ w
 |getObj r k b=>
  intro w;simp only[Sem.run]
  repeat' split
  all_goals first|exact b _ w|exact AA _
 |setObj r o k b=>
  intro w;simp only[Sem.run]
  repeat' split
  all_goals first|exact AA _|exact b _
 | choose q k b=>
  intro w;simp only[Sem.run];split
  .exact b _ w
  .have:=b (q.cut (w.tape w.drawn q)) {w with drawn:=w.drawn+1};revert this;generalize Sem.run p _ _=r;cases r<;>exact λh=>AC (Nat.le_succ _) h
 |sys c k b=>
  intro w;simp only[Sem.run];have f:=o8 w c;have:=b (w.sys c).1 (w.sys c).2;revert this;generalize Sem.run p _ _=r;cases r<;>exact λh=>AC f h
 |program k b=>intro w;exact b _ w
 |mark m k b=>intro w;exact b w
 |halt h=>exact λw=>AA _
def GU(d:Nat):GStep->Prop
 | .go _ w _=>d<=w.drawn
 | .comm _ _ _ _ w _=>d<=w.drawn
 | .spawn _ _ w _=>d<=w.drawn
 | .count _ w _=>d<=w.drawn
 | .timer _ _ w _=>d<=w.drawn
 | .alone _ _ w _=>d<=w.drawn
 | .newcoro _ _ _ w _=>d<=w.drawn
 | .coroswitch _ _ _ w _=>d<=w.drawn
 | .collect _ w _=>d<=w.drawn
 | .watch _ w _=>d<=w.drawn
 | .ended _ _ _=>True
theorem Yy{d:Nat}{b:Array Event}{g:GStep}(h:GU d g):GU d (GStep.after b g):=by cases g<;>exact h
theorem O6{p:YH}{α:Type}{s:Sem α}{w b:YM}{a:α}(e:s.run p w= .ok a b):w.drawn<=b.drawn:=by have h:=Hd p s w;rw[e]at h;exact h
theorem Qz{p:YH}{α:Type}{s:Sem α}{w b:YM}{a:Halt}(e:s.run p w= .halt a b):w.drawn<=b.drawn:=by have h:=Hd p s w;rw[e]at h;exact h
theorem Ay{d:Nat}{w:YM}{b:Nat}{t:ByteArray}{o:Outcome}:GU d (endWith w b t o):=by
 unfold endWith;simp only[]
 repeat' split
 all_goals trivial
theorem Pq{fr:Frame}{m:String}{w:YM}:GU w.drawn (endThrow fr m w):=AA _
theorem R5{p:YH}{fr:Frame}{v:YI}{w:YM}:GU w.drawn (endPrinting p fr v w):=by
 unfold endPrinting;simp only[];split
 .exact Pq
 .trivial
theorem GU.mono{d d':Nat}{g:GStep}(h:GU d' g)(b:d<=d'):GU d g:=by
 cases g<;>first|exact AC b h|trivial
theorem Ez{p:YH}{fr:Frame}{cs:List Frame}{f:Option Dying}{m:String}{w:YM}:GU w.drawn (endFatal p fr cs f m w):=by
 have e:∀s:Sem (List (ByteArray×String)×List ByteArray),GU w.drawn (match s.run p w with
  | .ok (b,c) w=>dieOf fr (panicPieces b++c) m true w
  | .halt (.unsupported u) w=> .ended (.unsupported u "") w
  | .halt _ w=> .ended (.stuck "the report of a panic" "") w):=by
  intro s;split
  all_goals first|trivial|exact AA _|exact O6 (by assumption)|exact Qz (by assumption)|exact Pq|exact R5|exact Ay
 exact e _
theorem Yi{p:YH}{main:Bool}{fr:Frame}{cs:List Frame}{b:Option Dying}{v:YI}{w:YM}:GU w.drawn (doReturn p main fr cs b v w):=by
 unfold doReturn
 repeat' split
 all_goals first|trivial|exact AA _|exact O6 (by assumption)|exact Qz (by assumption)|exact Pq|exact R5|exact Ay
theorem Fg{p:YH}{fr:Frame}{cs:List Frame}{b:Option Dying}{d:XY}{w:YM}:GU w.drawn (callDeferred p fr cs b d w):=by
 unfold callDeferred;simp only[Sem.runT_eq]
 repeat' first
  |refine Yy ?_
  |split
 all_goals first|trivial|exact AA _|exact O6 (by assumption)|exact Qz (by assumption)|exact Pq.mono (Qz (by assumption))|exact Ez.mono (Qz (by assumption))
theorem ZG{p:YH}{main:Bool}{fr:Frame}{cs:List Frame}{b:Option Dying}{w:YM}:GU w.drawn (unwind p main fr cs b w):=by
 unfold unwind;simp only[Sem.runT_eq]
 repeat' first
  |exact Fg
  |exact Yi
  |refine Yy ?_
  |split
 all_goals first|trivial|exact AA _|exact O6 (by assumption)|exact Qz (by assumption)|exact Yi.mono (O6 (by assumption))|exact R5
theorem Rl{p:YH}{fr:Frame}{e:Dying}{f:Fatal}{w:YM}:GU w.drawn (writeOn p fr e f w):=by
 unfold writeOn;simp only[Sem.runT_eq];split
 .trivial
 .have g:∀(s:Sem Unit) (c:Array Event) (a b:Fatal),GU w.drawn (match (s.run p w,c)with
   |(.ok _ w,c)=> .go {frame:=fr,callers:=[],status:= .running,dying:=some {e with fatal:=some a}} w c
   |(.halt .blocked w,_)=> .go {frame:=fr,callers:=[],status:= .blocked,dying:=some {e with fatal:=some b}} w #[]
   |(.halt (.unsupported u) w,_)=> .ended (.unsupported u "") w
   |(.halt _ w,_)=> .ended (.stuck "the report of a fatal error" "") w):=by
   intro s c a b;have h:=Hd p s w;generalize s.run p w=r at h ⊢;cases r with
   |ok a w=>exact h
   |halt a w=>cases a<;>first|exact h|trivial
  exact g _ _ _ _
theorem nZ{p:YH}{fr:Frame}{b:Dying}{w:YM}:GU w.drawn (die p fr b w):=by
 unfold die;simp only[Sem.runT_eq]
 repeat' first
  |exact Rl
  |refine Yy ?_
  |split
 all_goals first|trivial|exact AA _|exact O6 (by assumption)|exact Ay|exact R5.mono (Qz (by assumption))
theorem bu{p:YH}{fr:Frame}{cs:List Frame}{b:Option Dying}{g:Nat}{w:YM}:GU w.drawn (early p fr cs b g w):=by
 unfold early;simp only[]
 repeat' split
 all_goals first|trivial|exact AA _|exact O6 (by assumption)|(have h:=O6 (by assumption);exact h)|(have h:=O6 ‹Sem.run _ _ _=Result.ok _ _›;exact h)
theorem Yx{p:YH}{b:Bool}{fr:Frame}{cs:List Frame}{c:Option Dying}{s:Sem Next}{w:YM}:GU w.drawn (stepG.apply p b fr cs c s w):=by
 unfold stepG.apply;have h:=Hd p s w;cases b
 all_goals
  simp only[Sem.runT_eq,if_true,AP,if_false];refine Yy ?_;generalize s.run p w=r at h ⊢;cases r with
  | ok a e=>
   cases a
   all_goals first
    |exact h
    | (try dsimp only
       repeat' split
       all_goals first|exact h|exact Pq.mono h|trivial)
  | halt a e=>
   cases a
   all_goals first
    |exact h
    |trivial
    |exact Ez.mono h
    |exact Pq.mono h
    |(rename_i u;cases u<;>first|exact h|trivial|exact bu.mono h)
theorem jp{p:YH}{b:Bool}{fr:Frame}{cs:List Frame}{c:Option Dying}{w:YM}:GU w.drawn (stepG.oper p b fr cs c w):=by
 unfold stepG.oper
 repeat' split
 all_goals first|trivial|exact Yx
theorem iA{d:Nat}{α:Type}{o:Option α}{a:GStep}{f:α->GStep}(c:GU d a)(b:∀x,GU d (f x)):GU d (o.elim a f):=by
 cases o
 .exact c
 .exact b _
theorem ii{p:YH}{main b:Bool}{fr:Frame}{cs:List Frame}{c:Option Dying}{w:YM}:GU w.drawn (stepG.exec p main b fr cs c w):=by
 unfold stepG.exec;simp only[Sem.runT_eq];split
 all_goals first
  |exact Yx
  |trivial
  |exact AA _
  | (repeat' first
      |exact Yx
      |exact jp
      |exact Yx.mono (O6 (by assumption))
      |(refine Yy ?_)
      |refine iA ?_ (λx=> ?_)
      |split
     all_goals first|trivial|exact AA _|exact O6 (by assumption)|exact Qz (by assumption)|exact Yx.mono (O6 (by assumption))|exact Yi.mono (O6 (by assumption)))
theorem fO{p:YH}{main b:Bool}{g:Goroutine}{w:YM}:GU w.drawn (stepG p main g w b):=by
 unfold stepG
 repeat' split
 all_goals first|exact nZ|exact ii|exact ZG
theorem IF{b:Rest}{cases:Array CommCase}{w c:YM}(h:waitingAt b cases w=some c):c.drawn=w.drawn:=by
 unfold waitingAt at h;split at h
 .split at h<;>cases h;rfl
 .cases h;rfl
theorem J9(p :YH)(e:Rest)(l:Array Goroutine)(i:Nat)(g:Goroutine)(cases:Array CommCase)(b:Bool)
 (c:CommShape) (w:YM) (k:Machine) (h:(communicate p e l i g cases b c w).1= .next k):w.drawn<=k.world.drawn:=by
 unfold communicate at h;simp only[]at h
 repeat' first
  |(simp at h;done)
  | (simp only[Stepped.next.injEq]at h;subst h
     first
      |exact AA _
      |exact BA (IF (by assumption)).symm
      | (have j:=O6 ‹Sem.run p _ w=Result.ok _ _›
         first
          |exact j
          | (have f:=Qz ‹Sem.run p _ _=Result.halt _ _›
             exact AC j f)
          | (have f:=O6 ‹Sem.run p _ _=Result.ok _ _›
             exact AC j f)))
  |split at h
theorem Ul(p:YH)(e:Array Goroutine)(b:Rest)(w:YM)(c:Machine)(h:look p e b w= .next c):w.drawn<=c.world.drawn:=by
 unfold look at h;simp only[]at h
 repeat' first
  |(simp at h;done)
  | (simp only[Stepped.next.injEq]at h;subst h
     have f:=O6 ‹Sem.run p _ w=Result.ok _ _›;exact f)
  |split at h
theorem gu(w:YM)(c:Nat):(drain w c).2.drawn=w.drawn:=by unfold drain;split<;>rfl
theorem FC{m:Machine}{k:Nat}{t:Timer}{w p:Nat}:(retime m k t w p).2.world.drawn=m.world.drawn:=by
 unfold retime;cases e:t.chan with
 |none=>rfl
 |some c=>
  have h:=gu m.world c;revert h;simp only[];generalize drain m.world c=x;obtain⟨a,b⟩:=x;exact id
theorem MC{m c:Machine}{b:XR}{f:Nat->Timer->YI×Machine}{v:YI}{d:Nat}(e:∀k t,(f k t).2.world.drawn=d)(h:timerOp.named m b f= .ok (v,c)):c.world.drawn=d:=by
 unfold timerOp.named at h;split at h
 .rename_i k _;simp only[Except.ok.injEq]at h;have:=e k (m.rest.timers.getD k default);rw[h]at this;exact this
 .cases h
theorem aJ{m c:Machine}{b:XR}(h:timerOp.opened m b=some c):c.world.drawn=m.world.drawn:=by
 unfold timerOp.opened at h;split at h
 .split at h<;>cases h;rfl
 .cases h;rfl
theorem PA{m c:Machine}{f:TimerOp}{v:YI}(h:timerOp m f= .ok (v,c)):c.world.drawn=m.world.drawn:=by
 cases f with
 | new t=>
  simp only[timerOp]at h;split at h
  .simp only[Except.ok.injEq,AX]at h;obtain⟨-,rfl⟩:=h;rfl
  .split at h
   .split at h
    .cases h
    .simp only[Except.ok.injEq,AX]at h;obtain⟨-,rfl⟩:=h;rfl
   .cases h
 |stop b=>exact MC (λk t=>FC) h
 | reset b w p=>
  simp only[timerOp]at h;split at h
  .rename_i j e;exact MC (λk t=>FC.trans (aJ e)) h
  .cases h
 |deadline g r w wh=>
  simp only[timerOp,Except.ok.injEq,AX]at h;obtain⟨-,rfl⟩:=h;rfl
theorem la(p:YH)(m f:Machine)(i:Nat)(b:Bool)(h:(runT p m i b).1= .next f):m.world.drawn<=f.world.drawn:=by
 simp only[runT]at h;have c:=fO (p:=p) (main:=i==0) (b:=b) (g:=(m.gs.swapAt! i {(default:Goroutine)with status:= .finished}).1) (w:=m.world);revert c h;generalize m.gs.swapAt! _ _=gg;generalize stepG p _ gg.1 m.world b=s;intro h c;cases s<;>simp only[]at h
 all_goals first
  |(simp at h;done)
  |exact AC c (J9 _ _ _ _ _ _ _ _ _ _ h)
  |exact AC c (Ul _ _ _ _ _ h)
  |(simp only[Stepped.next.injEq]at h;subst h;exact c)
  |(repeat' first
      |(simp at h;done)
      |(simp only[Stepped.next.injEq]at h;subst h;exact c)
      |(simp only[Stepped.next.injEq]at h;subst h;have j:=PA (by assumption);rw[j];exact c)
      |split at h)
 all_goals
  have k:=Pq (fr:=(by assumption:Goroutine).frame) (m:= "") (w:=(by assumption:YM));rename_i e;cases e;cases h;exact c
theorem c6(p:YH)(m b:Machine)(k:Nat)(h:serve p m k= .next b):m.world.drawn<=b.world.drawn:=by
 unfold serve at h;simp only[]at h
 repeat' first
  |(simp at h;done)
  |(simp only[Stepped.next.injEq]at h;subst h;exact AA _)
  |split at h
theorem ZY(p:YH)(m e:Machine)(c:Array MemOp)(h:askOn p m= .machine (.next e) c):m.world.drawn<=e.world.drawn:=by
 unfold askOn at h;simp only[]at h
 repeat' first
  |(simp at h;done)
  | (simp only[Move.machine.injEq]at h
     have b:=O6 ‹Sem.run p _ m.world=Result.ok _ _›;exact AC b (c6 _ _ _ _ h.1))
  | (simp only[Move.machine.injEq,Stepped.next.injEq]at h;obtain⟨rfl,_⟩:=h
     have b:=O6 ‹Sem.run p _ m.world=Result.ok _ _›
     first
      |exact b
      | (have f:=O6 ‹Sem.run p _ _=Result.ok _ _›
         exact AC b f))
  |split at h
theorem aK(p:YH)(m b:Machine)(i:Nat)(h:askOn p m= .goroutine b i):m.world.drawn<=b.world.drawn:=by
 unfold askOn at h;simp only[]at h
 repeat' first
  |(simp at h;done)
  |split at h
 all_goals
  simp only[Move.goroutine.injEq]at h;obtain⟨rfl,_⟩:=h
 all_goals
  repeat first
   |exact AA _
   |(dsimp only;refine AC ?_ (O6 (by assumption)))
   |refine AC ?_ (O6 (by assumption))
   |dsimp only[Machine.advanceTo]
theorem EB(p:YH)(m:Machine):(∃b,m.world.drawn<=b.world.drawn/\ask p m=askOn p b)\/(∃o w,ask p m= .machine (.ended o w) #[]):=by
 unfold ask
 by_cases f:m.rest.watch=true
 .rw [YS f];generalize l:choose _=X;have c:=Hd p X m.world;cases g:X.run p m.world with
  |halt h w=>exact .inr ⟨_,_,rfl⟩
  | ok k world=>
   rw[g]at c;rcases k with _|_|k
   .exact .inl ⟨{m with world},c,rfl⟩
   .show(∃b,m.world.drawn<=b.world.drawn/\(match look p m.gs m.rest world with| .next m=>askOn p m|e=>Move.machine e)=askOn p b)\/
     (∃o w,(match look p m.gs m.rest world with| .next m=>askOn p m|e=>Move.machine e)= .machine (.ended o w) #[])
    cases j:look p m.gs m.rest world with
    |next b=>exact .inl ⟨b,AC c (Ul _ _ _ _ _ j),rfl⟩
    |ended o w=>exact .inr ⟨o,w,rfl⟩
   .exact .inl ⟨{m with world},c,rfl⟩
 .simp only[f,AP,if_false];exact .inl ⟨m,AA _,rfl⟩
theorem kQ(p:YH)(m e:Machine)(c:Array MemOp)(h:ask p m= .machine (.next e) c):m.world.drawn<=e.world.drawn:=by
 rcases EB p m with ⟨b,g,f⟩|⟨o,w,f⟩
 .rw[f]at h;exact AC g (ZY p b e c h)
 .rw[f]at h;simp at h
theorem lf(p:YH)(m c:Machine)(i:Nat)(h:ask p m= .goroutine c i):m.world.drawn<=c.world.drawn:=by
 rcases EB p m with ⟨b,f,e⟩|⟨o,w,e⟩
 .rw[e]at h;exact AC f (aK p b c i h)
 .rw[e]at h;cases h
theorem bZ(p:YH)(m e:Machine)(b:Bool)(h:(stepT p m b).1= .next e):m.world.drawn<=e.world.drawn:=by
 simp only[stepT]at h;split at h
 .rename_i g i c;refine AC ?_ (la p g e i b h);unfold move at c
  repeat' first
   |(simp at c;done)
   |(have:=lf p _ g i c;exact this)
   |(simp only[Move.goroutine.injEq]at c;obtain⟨rfl,_⟩:=c;exact AA _)
   |split at c
 .rename_i s f c;simp only[]at h;subst h;unfold move at c
  repeat' first
   |(simp at c;done)
   |(have:=kQ p _ e f c;exact this)
   |split at c
theorem SI(p:YH):∀(n:Nat) (m b:Machine),runN p n m= .next b->m.world.drawn<=b.world.drawn
 |0,m,b,h=>by simp only[runN,Stepped.next.injEq]at h;subst h;exact AA _
 |n+1,m,b,h=>by
  simp only[runN]at h;cases c:step p m with
  |next e=>rw[c]at h;exact AC (bZ p m e true c) (SI p n e b h)
  |ended o w=>rw[c]at h;cases h
theorem KI{P:YH}{f:XU}{args:Array YI}{w:YM}{R:XS->YM->Prop}(h:XW P f args w R):XW P f args w λe b=>R e b/\(e≠ .outgrown->w.drawn<=b.drawn):=λcs=>by
 obtain⟨e,b,fr,k,g,o⟩:=h cs;refine⟨e,b,fr,⟨k,λl=> ?_⟩,g,o⟩;have j:Steps P (lone (Frame.enter P f args .normal) cs w) (lone fr cs b):=by
  cases e with
  |returned v=>exact g
  |panicked c=>exact g
  |outgrown=>exact absurd rfl l
 obtain⟨n,m⟩:=j;exact SI P n _ _ m
section
open Go.Shelf
def LC:Go.Shelf.Ren:=⟨λ|6=>372|15=>402|14=>401|28=>270|29=>238|20=>414|21=>415|22=>416|23=>417|24=>418|25=>419|26=>420|27=>421|46=>429|47=>430|48=>431|49=>432|50=>433|57=>437|n=>n,λ|22=>88|24=>53|25=>198|3=>3|39=>219|0=>0|53=>92|55=>159|4=>4|46=>487|45=>486|50=>122|5=>5|9=>9|66=>494|70=>498|76=>500|77=>394|n=>n,λ|n=>n⟩
theorem iJ:SlLaysF0.n6 XM LC:={
 mixed:=O
 f6:=⟨ "slices.SortFunc[[]grisaille/api.Rat,grisaille/api.Rat]",by decide,func372.trans (congrArg some O)⟩
 f14:=⟨ "slices.pdqsortCmpFunc[grisaille/api.Rat]",by decide,func401.trans (congrArg some O)⟩
 f15:=func402.trans (congrArg some O)
 f20:=⟨ "slices.insertionSortCmpFunc[grisaille/api.Rat]",by decide,func414.trans (congrArg some O)⟩
 f21:=⟨ "slices.heapSortCmpFunc[grisaille/api.Rat]",by decide,func415.trans (congrArg some O)⟩
 f22:=⟨ "slices.breakPatternsCmpFunc[grisaille/api.Rat]",by decide,func416.trans (congrArg some O)⟩
 f23:=⟨ "slices.choosePivotCmpFunc[grisaille/api.Rat]",by decide,func417.trans (congrArg some O)⟩
 f24:=⟨ "slices.reverseRangeCmpFunc[grisaille/api.Rat]",by decide,func418.trans (congrArg some O)⟩
 f25:=⟨ "slices.partialInsertionSortCmpFunc[grisaille/api.Rat]",by decide,func419.trans (congrArg some O)⟩
 f26:=⟨ "slices.partitionEqualCmpFunc[grisaille/api.Rat]",by decide,func420.trans (congrArg some O)⟩
 f27:=⟨ "slices.partitionCmpFunc[grisaille/api.Rat]",by decide,func421.trans (congrArg some O)⟩
 f28:=func270.trans (congrArg some O)
 f29:=func238.trans (congrArg some O)
 f46:=⟨ "slices.siftDownCmpFunc[grisaille/api.Rat]",by decide,func429.trans (congrArg some O)⟩
 f47:=func430.trans (congrArg some O)
 f48:=func431.trans (congrArg some O)
 f49:=⟨ "slices.medianAdjacentCmpFunc[grisaille/api.Rat]",by decide,func432.trans (congrArg some O)⟩
 f50:=⟨ "slices.medianCmpFunc[grisaille/api.Rat]",by decide,func433.trans (congrArg some O)⟩
 f57:=⟨ "slices.order2CmpFunc[grisaille/api.Rat]",by decide,func437.trans (congrArg some O)⟩
 t0:=underlying0
 a0:=isAgg0
 z0:=sizeOf0
 v0:=zeroValue0
 t3:=underlying3
 a3:=isAgg3
 z3:=sizeOf3
 v3:=zeroValue3
 t4:=underlying4
 a4:=isAgg4
 z4:=sizeOf4
 v4:=zeroValue4
 t5:=underlying5
 a5:=isAgg5
 z5:=sizeOf5
 v5:=zeroValue5
 t9:=underlying9
 a9:=isAgg9
 z9:=sizeOf9
 v9:=zeroValue9
 t22:=underlying88
 a22:=isAgg88
 z22:=sizeOf88
 v22:=zeroValue88
 t25:=underlying198
 a25:=isAgg198
 z25:=sizeOf198
 v25:=zeroValue198
 t39:=underlying219
 a39:=isAgg219
 z39:=sizeOf219
 v39:=zeroValue219
 t45:=underlying486
 a45:=isAgg486
 z45:=sizeOf486
 v45:=zeroValue486
 t46:=underlying487
 a46:=isAgg487
 z46:=sizeOf487
 v46:=zeroValue487
 t50:=underlying122
 a50:=isAgg122
 z50:=sizeOf122
 v50:=zeroValue122
 t53:=underlying92
 a53:=isAgg92
 z53:=sizeOf92
 v53:=zeroValue92
 t55:=underlying159
 a55:=isAgg159
 z55:=sizeOf159
 v55:=zeroValue159
 t66:=underlying494
 a66:=isAgg494
 z66:=sizeOf494
 v66:=zeroValue494
 t70:=underlying498
 a70:=isAgg498
 z70:=sizeOf498
 v70:=zeroValue498
 t76:=underlying500
 a76:=isAgg500
 z76:=sizeOf500
 v76:=zeroValue500
 t77:=underlying394
 a77:=isAgg394
 z77:=sizeOf394
 v77:=zeroValue394}
abbrev RQ:=RV×Rat
def Oe(r:RQ):List YI:=r.1.cl
def RX(A:YY)(c:Nat):List Nat:=match A with|some p=>if c=0 then []else [p.block]|none=>[]
theorem Si.blk{w:YM}{B:Nat}{A:YY}{n c:Nat}{l:List Nat}(h:Si w B A n c l):∀b∈RX A c,B<=b/\∃cs ty own,w.heap[b]? =some (.cells cs ty own):=by
 intro b e;unfold RX at e;split at e
 .split at e
  .cases e
  .rename_i p o;obtain⟨g,j,t,f,m,k,_⟩:=h.own I;injection f with f;subst f;simp only[AU]at e;subst e;exact⟨m,_,_,_,k⟩
 .cases e
def M6(a:RV):List Nat:=RX a.a.A a.a.c++RX a.b.A a.b.c
section
variable{q:Rat}{K:Nat}
theorem Si.same{w o:YM}{B:Nat}{A:YY}{n c:Nat}{l:List Nat}(h:Si w B A n c l)(H:w.heap.size<=o.heap.size)(G:∀b∈RX A c,o.heap[b]? =w.heap[b]?):Si o B A n c l:=by
 have f:∀p,A=some p->0<c->o.heap[p.block]? =w.heap[p.block]? :=λp J m=>G _ (by unfold RX;rw[J];simp;omega)
 refine⟨⟨h.dig,h.len,h.le,h.cap,h.rd.1,λm=> ?_⟩,λm=> ?_⟩
 .obtain⟨x,k,y,v⟩:=h.rd.2 m;have F:=h.le;refine⟨x,k,AK y H,λj u z=> ?_⟩;have e:o.cell? (x.add j)=w.cell? (x.add j):=World.cell?_of_block (by rw[Vx];exact f x k I);exact e.trans (v j u z)
 .obtain⟨g,s,t,k,Z,D,E⟩:=h.own m;exact⟨g,s,t,k,Z,(f _ k m).trans D,E⟩
theorem Yz.same{v:SV}{x:Int}{w e:YM}(h:Yz v x K w)(j:w.heap.size<=e.heap.size)(g:∀b∈RX v.A v.c,e.heap[b]? =w.heap[b]?):Yz v x K e:=
 have f:=h.2.2.2.same j g
 ⟨⟨f.toIn,h.1.zi,h.1.le⟩,h.2.1,h.2.2.1,f⟩
theorem Kn.same{r:RV}{w c:YM}(h:Kn r q K w)(g:w.heap.size<=c.heap.size)(f:∀b∈M6 r,c.heap[b]? =w.heap[b]?):Kn r q K c:=
 ⟨h.1.same g λb e=>f b (List.mem_append_left _ e),h.2.same g λb e=>f b (List.mem_append_right _ e)⟩
end
theorem Ji{w b:YM}(h:Below w.heap.size w b)(m:w.drawn<=b.drawn):∃q os,b=Sort.grow (w.drewN q) os:=by
 refine⟨b.drawn-w.drawn,(b.heap.toList.drop w.heap.size).toArray,?_⟩;obtain⟨c,j,g,v,l⟩:=h;have e:b.heap=w.heap++(b.heap.toList.drop w.heap.size).toArray:=by
  refine Array.ext_getElem? λk=> ?_
  by_cases f:k<w.heap.size
  .rw[Array.getElem?_append_left f];exact l k f
  .rw[Array.getElem?_append_right I];simp;congr 1;omega
 obtain⟨s,u,o,p,t⟩:=b;simp only at c j g e m;subst c;subst j;subst g;unfold Sort.grow World.drewN;simp only[World.mk.injEq,true_and,and_true];exact⟨e,by omega⟩
theorem TS{α:Type}(f:α->Rat):Sort.SWO (ltOf λx y:α=>Kv (f x) (f y)):=by
 have e:∀x y:α,ltOf (λx y:α=>Kv (f x) (f y)) x y=decide (f x<f y):=λx y=>by
  show decide ((if f x<f y then(-1:Int)else if f x=f y then 0 else 1)<0)=_
  by_cases h:f x<f y
  .rw[YS h,YU h];rfl
  .rw[YT h,YV h];split<;>rfl
 refine⟨λx=>by rw[e];exact YV Rat.lt_irrefl,λx y z c b=> ?_,λx y z c b=> ?_⟩
 .rw[e]at *;simp only[decide_eq_true_eq]at *;grind
 .rw[e]at *;simp only[decide_eq_false_iff_not]at *;grind
section
variable{w:YM}{g n c B K:Nat}{l:List RQ}
abbrev bi(w:YM)(g K:Nat):={z:RQ // Kn z.1 z.2 K w/\g∉M6 z.1}
theorem MZ{a:XR}{cs:Array YI}{t:XX}(h:w.heap[a.block]? =some (.cells cs t (0,0))):w.frozen? a=false:=by
 unfold World.frozen?;rw[h];simp
theorem MQ{W:YM}(z:bi w g K)(m:w.heap.size<=W.heap.size)(k:∀b,b<w.heap.size->b≠g->W.heap[b]? =w.heap[b]?):Kn z.1.1 z.1.2 K W:=
 z.2.1.same m λb f=>by
  have h:b≠g:=λe=>z.2.2 (e▸f)
  have:∃cs ty own,w.heap[b]? =some (.cells cs ty own):=by
   rcases AZ.1 f with f|f
   .exact(z.2.1.1.2.2.2.blk b f).2
   .exact(z.2.1.2.2.2.2.blk b f).2
  obtain⟨_,_,_,j⟩:=this;exact k b (AE.1 j).1 h
theorem FM{F:Array YI}{off b:Nat}(f:b≠g):(Sort.putRow id w g off F).heap[b]? =w.heap[b]? :=by
 unfold Sort.putRow Sort.mapBlock;simp only[BV];rw[YT (λe=>f e.symm)]
theorem Xt [Inhabited (bi w g K)]{m:Nat}{f:Array (bi w g K)}{os:Array Obj}{enc:bi w g K->List YI}{b:Nat}(h:b<w.heap.size)(e:b≠g):(sortWorldK enc 4 w g 0 m f os).heap[b]? =w.heap[b]? :=by
 unfold sortWorldK Sort.putRowK;show((Sort.putRow id (Sort.ahead w m) g 0 _).heap++os)[b]? =_;rw[Array.getElem?_append_left (by rw[Sort.size_putRow];exact h),FM e];rfl
theorem Sq(r:RQ):(Oe r).length=4:=rfl
theorem FR{α:Type} [Inhabited α]{enc:α->List YI}(e:∀x,(enc x).length=4){d:Array α}{t:Nat}(j:t<d.size*4):(d.toList.flatMap enc)[t]? =some (Sort.flatK enc 4 d)[t]! :=by
 rw[Sort.get_flatK enc 4 d t j];have k:t/4<d.size:=I
 have b:t%4<(enc d[t/4]!).length:=by rw[e];omega
 have f:d.toList[t/4]? =some d[t/4]! :=by simp[k]
 have h:(enc d[t/4]!)[t%4]? =some (enc d[t/4]!)[t%4]! :=by rw[getElem!_pos (enc d[t/4]!) (t%4) b,AD b]
 have:=Mr (cl:=enc) e d.toList (t/4) _ (t%4) _ f h;rw[show t/4*4+t%4=t by omega]at this;exact this
theorem py{α:Type} [Inhabited α]{enc:α->List YI}(o:∀x,(enc x).length=4){d:Array α}{e:XX}(j:K6 w B e 4 (some ⟨g,0,none⟩) n c (d.toList.flatMap enc)):Sort.HoldsK enc 4 w g 0 d:=by
 intro t k;rw[Sort.size_flatK]at k;have v:=j.len;rcases j.2 with ⟨b,_⟩|⟨y,cap,m,b,A,h,u,s,z,p⟩
 .cases b
 injection b with b _ h2;injection b with b;injection b with b;subst b;subst h2;refine⟨?_,MZ (a:=⟨g,0+t,none⟩) h⟩;have f:=FR o k;rw[<-p,BQ]at f;split at f
 .simp only[BM,h,BH,AP,if_false,BF];simpa using f
 .cases f
theorem sN{α:Type} [Inhabited α]{enc:α->List YI}(p:∀x,(enc x).length=4){d d':Array α}{m:Nat}{os:Array Obj}{e:XX}{u:YM}(F:K6 w B e 4 (some ⟨g,0,none⟩) n c (d.toList.flatMap enc))(M:d'.size=d.size)(Z:d.size=n)
 (E:u.heap[g]? =(sortWorldK enc 4 w g 0 m d' os).heap[g]?):K6 u B e 4 (some ⟨g,0,none⟩) n c (d'.toList.flatMap enc):=by
 have s:∀l:List α,(l.flatMap enc).length=l.length*4:=λl=>by
  induction l with
  |nil=>rfl
  |cons x l G=>rw[BG,BR,G,p,DP];omega
 rcases F.2 with ⟨f,_⟩|⟨L,cap,b,f,H,v,h,D,y,J⟩
 .cases f
 injection f with f _ h2;injection f with f;injection f with f;subst f;subst h2;have k:=(AE.1 v).1;have A:u.heap[g]? =some (.cells (Sort.putCells id 0 (Sort.flatK enc 4 d') b) e (0,0)):=by
  rw[E];show((Sort.putRow id (Sort.ahead w m) g 0 _).heap++os)[g]? =_;rw[Array.getElem?_append_left (by rw[Sort.size_putRow];exact k)];unfold Sort.putRow Sort.mapBlock;simp only[BV,if_true,Sort.heap_ahead,v,BE,Sort.onCells]
 have o:(Sort.putCells id 0 (Sort.flatK enc 4 d') b).size=b.size:=by simp[Sort.putCells]
 refine⟨by rw[s,Array.length_toList];omega,.inr ⟨g,c,_,rfl,H,A,h,D,by rw[o];exact y,?_⟩⟩;refine CS λt=> ?_
 rw[BQ]
 by_cases z:t<n*4
 .rw[YS z,FR p I];have j:t<b.size:=by rw[y];have:=CM 4 h;omega
  unfold Sort.putCells;rw[Array.getElem?_toList,Array.getElem?_mapIdx,Array.getElem?_eq_getElem j,BE,YS (by rw[Sort.size_flatK];omega)];simp
 .rw[YT z,DE (by rw[s,Array.length_toList];omega)]
theorem jV{l:List RQ}(wJ:K6 w B 53 4 (some ⟨g,0,none⟩) n c (l.flatMap Oe))(hq:∀z∈l,Kn z.1 z.2 K w)(hd:∀z∈l,g∉M6 z.1)(S:2<=K/\K+K<=68719476736)(h0:0<n)(hn:n<=1000000000):
 Ca 372 #[.slice (some ⟨g,0,none⟩) n c,.func (.func 133) #[] #[]] w (L4 w [g] (λ_:{m:List RQ // m.Perm l/\m.Pairwise λa b=>¬b.2<a.2}=> .tuple #[]) λm u=>K6 u B 53 4 (some ⟨g,0,none⟩) n c (m.1.flatMap Oe)):=by
 have T:l.length=n:=by
  have:=wJ.len;have hl:∀l:List RQ,(l.flatMap Oe).length=l.length*4:=λl=>by
   induction l with
   |nil=>rfl
   |cons x l ih=>rw[BG,BR,ih,Sq,DP];omega
  rw[hl]at this;omega
 have L:g<w.heap.size:=(wJ.lt g (by simp[bl])).2;obtain⟨D,Q⟩:∃D:List (bi w g K),D.map (·.1)=l:=⟨l.attach.map λz=>⟨z.1,hq z.1 z.2,hd z.1 z.2⟩,by rw[List.map_map];exact(DG λz _=>rfl).trans l.attach_map_subtype_val⟩
 have f:D.length=n:=by rw[<-T,<-Q,DT]
 haveI:Inhabited (bi w g K):=⟨D[0]' I⟩
 have t:∀E:List (bi w g K),E.flatMap (λz=>Oe z.1)=(E.map (·.1)).flatMap Oe:=λE=>by rw[List.flatMap_map]
 have s:K6 w B 53 4 (some ⟨g,0,none⟩) n c (D.toArray.toList.flatMap λz=>Oe z.1):=by rw[List.toList_toArray,t,Q];exact wJ
 have A:CmpLays XM 133 #[] (λz:bi w g K=>Oe z.1) 4 (λx y=>Kv x.1.2 y.1.2) g 0 D.toArray.size w:=λm os dk hdk x y=>by
  obtain⟨W,G⟩:∃W,W=sortWorldK (λz:bi w g K=>Oe z.1) 4 w g 0 m dk os:=⟨_,rfl⟩
  rw[<-G];have H:w.heap.size<=W.heap.size:=by rw[G];exact size_sortWorldK_c _ _ _ _ _ _ _ _
  have hx:=MQ x (W:=W) H λb J p=>by rw[G];exact Xt J p
  have hy:=MQ y (W:=W) H λb J p=>by rw[G];exact Xt J p
  refine(KI (Lv hx.q hy.q ⟨S.1,S.1,S.2⟩)).mono ?_;rintro e w' ⟨⟨_,rfl,hb,_⟩,N⟩;exact⟨rfl,Ji hb (N Zs)⟩
 have o:=AnyQ.slices_SortFunc iJ 4 (λw=>O) (λw=>O) (λz:bi w g K=>Oe z.1) (λ_=>rfl) (λz v X=>by simp[Oe,RV.cl]at X;rcases X with rfl|rfl|rfl|rfl<;>rfl) (λx y=>Kv x.1.2 y.1.2) (TS λz:bi w g K=>z.1.2) 133 #[] g 0 c D.toArray w (enters_of func133 O rfl) A (py (λ_=>rfl) s) L (by rw[List.size_toArray];omega);rw[List.size_toArray,f]at o;refine o.mono ?_;rintro e w' ⟨rfl,d',m,os,⟨P,_,Y⟩,H,rfl⟩;have F:d'.size=n:=by have h:d'.size=D.toArray.size:=P;rw[h,List.size_toArray,f]
 have R:d'.toList.Perm D:=by
  have e1:d'.extract 0 n=d':=by rw[<-F];exact Array.extract_size
  have e2:D.toArray.extract 0 n=D.toArray:=by rw[<-f,<-List.size_toArray];exact Array.extract_size
  rw[e1,e2]at Y;exact Y
 refine⟨⟨d'.toList.map (·.1),by rw[<-Q];exact R.map _,?_⟩,rfl,⟨rfl,rfl,rfl,size_sortWorldK_c _ _ _ _ _ _ _ _,λk hk wI=>Xt hk (by simpa using wI)⟩,λu k1 k2=> ?_⟩
 .rw[List.pairwise_map,List.pairwise_iff_getElem];intro i j hi U M;rw[Array.length_toList]at hi U;have:=H i j (AO _) M I;rw[getElem!_pos d' j U,getElem!_pos d' i hi]at this;unfold ltOf Kv at this;simp only[Array.getElem_toList];intro Z;have p:=YO this;dsimp only at p;rw[YS Z]at p;exact p Zd
 .show K6 u B _ 4 _ n c ((d'.toList.map (·.1)).flatMap Oe)
  rw[<-t];exact sN (λ_=>rfl) s (by rw[F,List.size_toArray,f]) (by rw[List.size_toArray,f]) (k2 g (.inl Zs))
end
end
end Go.Proofs.YtoakjcolbjifnaaGreatDoor
