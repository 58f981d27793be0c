/-
 Paths as text: Parse.
-/
import Derived.Test.YtnmokookhcgklaaGreatDoorFA
open Bool renaming false_and->AB,true_and->AC,and_eq_true->AD,false_eq_true->BC,and_false->BI,eq_false_iff->CA,or_eq_true->CF,eq_iff_iff->CG,false_or->CJ
open Go.IntWalk renaming i64_in->AK
open Go.Lib renaming indexByte->BX
open Go.Result renaming andThen_ok->AH
open Go.Sem renaming run_bind->AI,run_pure->BB
open Go.Value renaming cells->AX
open Go.World renaming cell?->BS
open Int renaming le_refl->CC
open List renaming getElem?_eq_getElem->AA,length_cons->AG,length_append->AL,mem_cons->AM,take_of_length_le->AN,getElem?_eq_some_iff->AP,mem_of_getElem?->AQ,length_take->AR,getElem?_eq_none->AU,length_nil->AW,map_eq_cons_iff->AZ,take_add_one->BA,not_mem_nil->BE,mem_append->BF,append_assoc->BK,mem_iff_getElem?->BL,mem_of_mem_take->BN,flatMap_cons->BO,flatMap_nil->BP,length_eq_zero_iff->BR,drop_of_length_le->BT,map_cons->BW,map_eq_nil_iff->BY,take_length->CD,append_nil->CH
open Nat renaming zero_le->AE,le_refl->AJ,lt_or_ge->AY,zero_add->BD,le_trans->BH,not_lt_zero->BM,add_zero->BQ,lt_of_le_of_lt->BZ,min_eq_left->CI
open Option renaming isSome_none->BJ
open Option.some renaming injEq->CB
open Prod.mk renaming inj->BG,injEq->BV
open UInt8 renaming le_iff_toNat_le->BU,toNat_inj->CE
open Go renaming World->YN,Value->YM,Program->YK,Operand->YJ,Deferred->YI,TypeId->YH,Calls->YG,PanicEntry->YF,FuncId->YE,Oper->YD,Ending->YC,Addr->YB
open Go.IntKind renaming i64->YA,u64->XZ,u32->XY,u8->XX
namespace Go.Proofs.YtnmokookhcgklaaGreatDoor
set_option maxRecDepth 100000
set_option maxHeartbeats 8000000
set_option linter.unusedVariables false
set_option linter.unusedSimpArgs false
open Go.RowKit Go.Proofs.Tryz
open Go.Proofs.Tryz renaming prog->XW
section
--ATNAMES
abbrev Ok(A:YY)(n c:Nat)(x:Oj):YM:= .agg #[.slice A n c,I x.i,.bool x.syn,.bool x.rng]
structure Si(w:YN)(A:YY)(n:Nat)(ws:WS):Prop where
 at_:Km w A n ws
 len:n<=100000
 wd:∀s∈ws,s.length<=10000
theorem Si.below{w a:YN}{A:YY}{n:Nat}{ws:WS}(h:Si w A n ws)(b:Below w.heap.size w a):Si a A n ws:=⟨h.at_.below b,h.len,h.wd⟩
section
variable{w:YN}{A A2:YY}{n c n2 c2:Nat}{ws l:WS}{x y:Oj}
theorem Si.fld(h:Si w A n ws):(Le ws x).1.length<=10000:=by
 unfold Le;split
 .simp
 .rename_i s a;exact h.wd s (AQ a)
theorem Fh(a:Si w A n ws):Zv 137 #[Ok A n c x] w (.tuple #[E (Le ws x).1,Ok A n c (Le ws x).2]):=by
 have k:=a.at_.1;have p:=a.len;refine sL func137 rfl<|M ?_
 by_cases b:x.i<n
 case neg=>
  have e:Le ws x=([],⟨x.i,true,x.rng⟩):=Oh (AU J);rw[e];exact X (decide ((x.i:Int)>=(n:Int))) true Zp<|ZW (.tuple #[E [],Ok A n c ⟨x.i,true,x.rng⟩])
 obtain⟨s,g⟩:∃s,ws[x.i]? =some s:=⟨_,AA J⟩
 obtain⟨ad,o,j⟩:=a.at_.2 x.i s g;rw[Pk g];exact sQ (decide ((x.i:Int)>=(n:Int))) false O Zp<|H 3<|sM 14 (I (YA.wrap ((x.i:Int)+1))) (I ((x.i+1:Nat):Int)) O (by rw[AK _ J];rfl)<|H 5<|sM 20 (I (YA.wrap (((x.i+1:Nat):Int)-1))) (I (x.i:Int)) O (by rw[AK _ J];congr 1;omega)<|sP 5 (Ki 53 (.slice A n c) x.i) (.pointer (some (ad.add x.i))) O (λm f h=>by rw[o];exact Kg (elem:=9) O O b)<|H 6<|ZB 6 (L4 9 (ad.add x.i)) (E s) (λm f h=>K9 O (La f j))<|ZW (.tuple #[E s,Ok A n c ⟨x.i+1,x.syn,x.rng⟩])
theorem Te(o:Si w A n ws):Zv 73 #[Ok A n c x] w (.tuple #[I (Ms ws x).1,Ok A n c (Ms ws x).2]):=by
 have j:=o.fld (x:=x);obtain⟨f,m⟩:∃f,f=Le ws x:=⟨_,rfl⟩
 have e:Ms ws x=(O1 f.1,⟨f.2.i,f.2.syn||decide (Pw f.1≠6/\Pw f.1≠0),f.2.rng||decide (Pw f.1=6)⟩):=by rw[m];rfl
 rw[<-m]at j;have k:∀a:YN,Si a A n ws->Zv 137 #[Ok A n c x] a (.tuple #[E f.1,Ok A n c f.2]):=λa r=>by have t:=Fh (c:=c) (x:=x) r;rw[<-m]at t;exact t
 rw[e];refine sL func73 rfl<|M<|Z (λa p h=>k a (o.below p)) λy=>Z (λa p h=>Dk (l:=f.1) J) λz=> ?_
 by_cases b:Pw f.1=6
 case pos=>
  exact X (Pw f.1==6) true (YQ.2 b)<|ZX (.tuple #[I (O1 f.1),Ok A n c ⟨f.2.i,f.2.syn,true⟩]) (by simp[b])
 refine X (Pw f.1==6) false (YR.2 b) ?_
 by_cases g:Pw f.1=0
 case pos=>
  exact X (Pw f.1 !=0) false (bne_eq_false_iff_eq.2 g)<|ZX (.tuple #[I (O1 f.1),Ok A n c ⟨f.2.i,f.2.syn,f.2.rng⟩]) (by simp[g])
 exact X (Pw f.1 !=0) true (bne_iff_ne.2 g)<|ZX (.tuple #[I (O1 f.1),Ok A n c ⟨f.2.i,true,f.2.rng⟩]) (by simp[g,b])
theorem Fc:∀{l:WS} {s:R},s∉l->Cl s l=none
 | [],s,_=>rfl
 |y::l,s,h=>by
  rw[Mf,V (λe=>h (by rw[e];simp)),Fc (λa=>h (by simp[a]))];rfl
theorem C6:∀{l:WS} {s:R} {k:Nat},l[k]? =some s->(∀j,j<k->l[j]? ≠some s)->Cl s l=some k
 | [],s,k,h,_=>by simp at h
 |y::l,s,0,h,_=>by
  simp at h;rw[Mf,YS h]
 |y::l,s,k+1,h,a=>by
  have b:=a 0 J;rw[Mf,V (λe=>b (by simp[e])),C6 (k:=k) (by simpa using h) (λj f=>by have:=a (j+1) J;simpa using this)];rfl
theorem ef{s:R}{y:Oj}(a:Le ws x=(s,y))(h:Cg l s=none):Oi ws l x=(0,⟨y.i,true,y.rng⟩):=by unfold Oi;rw[a];simp only[h]
theorem gd{s:R}{y:Oj}{k:Nat}(a:Le ws x=(s,y))(h:Cg l s=some k):Oi ws l x=((k:Int),y):=by unfold Oi;rw[a];simp only[h]
theorem B6(uR:Si w A n ws)(uS:Km w A2 n2 l)(vf:n2<=100):Zv 140 #[Ok A n c x,.slice A2 n2 c2] w (.tuple #[I (Oi ws l x).1,Ok A n c (Oi ws l x).2]):=by
 have K:=uS.1;obtain⟨s,y,B⟩:∃s y,Le ws x=(s,y):=⟨_,_,rfl⟩
 have vg:∀a:YN,Si a A n ws->Zv 137 #[Ok A n c x] a (.tuple #[E s,Ok A n c y]):=λa o=>by have t:=Fh (c:=c) (x:=x) o;rw[B]at t;exact t
 refine sL func140 rfl<|M<|Z (λa f h=>vg a (uR.below f)) λz=>sU (ι:={k:Nat // k<=n2/\(s=[]\/∀j,j<k->l[j]? ≠some s)}) 34 (λq=>⟨[(1,.v (.slice A2 n2 c2)),(5,.p 5 0),(6,.v (E s)),(7,.p 7 0),(8,.v (I q.1))],[(5,[.v (.slice none 0 0),.v (I 0),.v Zf,.v Zf]),(7,[.v (.slice A n c),.v (I y.i),.v (.bool y.syn),.v (.bool y.rng)])]⟩) (λq u=>True) (λq=>n2-q.1) (⟨0,AE _,.inr λj h=>absurd h (BM _)⟩) O (λ_=>O) zt (λu h=>trivial) ?_
 rintro⟨k,G,g⟩ uZ;have G:k<=n2:=G
 by_cases m:k<n2
 case neg=>
  have ve:n2=k:=J
  have r:Cg l s=none:=by
   unfold Cg
   by_cases b:s=[]
   .rw[YS b]
   rw[V b];refine Fc λL=> ?_
   obtain⟨j,D⟩:=BL.1 L;have:=(AP.1 D).1;exact g.resolve_left b j J D
  rw[ef B r];exact M<|X (decide ((k:Int)<(n2:Int))) false Zp<|sN O<|M<|ZW (.tuple #[I 0,Ok A n c ⟨y.i,true,y.rng⟩])
 obtain⟨t,F⟩:∃t,l[k]? =some t:=⟨_,AA J⟩
 obtain⟨ad,N,r⟩:=uS.2 k t F;refine M<|sQ (decide ((k:Int)<(n2:Int))) true O Zp<|H 1 ?_
 by_cases b:s=[]
 case pos=>
  refine ZA (Nq .neq 9 (.tmp 20) (.const (.string ⟨#[]⟩)) (E s) (E [])) Zf (λa f h=>S5 (by simpa using b))<|ZI false<|sS 8 m J O<|sR (⟨k+1,by show k+1<=n2;omega,.inl b⟩) O zo zt (λu h=>trivial)
 refine sV (Nq .neq 9 (.tmp 20) (.const (.string ⟨#[]⟩)) (E s) (E [])) Zt O (λa f h=>S5 (by simpa using b))<|H 6<|ZA (Ki 53 (.slice A2 n2 c2) k) (.pointer (some (ad.add k))) (λa f h=>by rw[N];exact Kg (elem:=9) O O m)<|sV (L4 9 (ad.add k)) (E t) O (λa f h=>K9 O (La f r))<|H 8 ?_
 by_cases o:s=t
 case pos=>
  have r:Cg l s=some k:=by
   unfold Cg;rw[V b];exact C6 (by rw[F,o]) (g.resolve_left b)
  rw[gd B r];exact ZA (Nq .eql 9 (.tmp 23) (.tmp 27) (E s) (E t)) Zt (λa f h=>Kj (by simpa using o))<|ZI true<|sN O<|M<|ZW (.tuple #[I (k:Int),Ok A n c y])
 refine ZA (Nq .eql 9 (.tmp 23) (.tmp 27) (E s) (E t)) Zf (λa f h=>Kj (by simpa using o))<|ZI false<|sS 8 m J O<|sR (⟨k+1,by show k+1<=n2;omega,.inr λj D=>(AY j k).elim (λq=>g.resolve_left b j q) (λq=>by have e:j=k:=J;subst e;rw[F];intro C;exact o (by injection C with C;exact C.symm))⟩) O zo zt (λu h=>trivial)
end
section
variable{w:YN}{l:R}
theorem fO{p:R}{K:Nat}(B:Ao l=some p)(D:p.length=K)(m:0<K)(F:l.length<=20000):YG XW 208 #[E l] w (K6 w (λy:Nat×Nat=> .tuple #[.slice (some ⟨y.1,0,none⟩) K y.2,I 0]) λy u=>∀(k:Nat) (b:UInt8),p[k]? =some b->u.cell? ⟨y.1,k,none⟩=some (.int .u8 (b.toNat:Int))):=by
 subst D;refine(Oo B J).mono λe r k=> ?_
 obtain⟨y,C,v,j⟩:=k;have c:Y r 0 5 1 y.1 p.length y.2 (bv p):=j r (AJ _) λ_ _ _=>rfl
 obtain⟨g,o,_⟩:=c.cells m;refine⟨(g,y.2),by rw[C];show Ending.returned (.tuple #[.slice y.1 _ _,_])=_;rw[o],v,λa t s k b A=> ?_⟩;have f:Y a 0 5 1 y.1 p.length y.2 (bv p):=j a t s;obtain⟨vg,h,x⟩:=f.cells m;rw[o]at h;cases h;exact x k _ (by unfold bv;rw[List.getElem?_map,A];rfl)
theorem jv(h:Dl l=none)(s:l.length<=10000):Zv 139 #[E l] w (.tuple #[Rk Ss,I 3]):=by
 by_cases j:l.length=9
 case neg=>
  exact sL func139 rfl<|H 3<|ZT 8 (.bool ((l.length:Int) !=9)) Zt Zp<|ZI true<|ZW (.tuple #[Rk Ss,I 3])
 obtain⟨b,l,rfl⟩:∃b t,l=b::t:=by cases l with
  |nil=>cases j
  |cons b t=>exact⟨b,t,rfl⟩
 have m:l.length=8:=by simpa using j
 refine sL func139 rfl<|H 3 ?_
 by_cases k:b=35
 case neg=>
  exact sM 8 (.bool (((b::l).length:Int) !=9)) Zf O Zp<|H 5<|sV (D0 9 (E (b::l)) (0:Nat)) (.int .u8 (b.toNat:Int)) O (λf c h=>Mc O rfl)<|H 7<|ZT 12 (.bool ((b.toNat:Int) !=35)) Zt (by simp;intro e;exact k (CE.1 (by show b.toNat=35;omega)))<|ZI true<|ZW (.tuple #[Rk Ss,I 3])
 subst k;have a:Ao l=none:=by
  rw[WO m]at h;cases g:Ao l with
  |none=>rfl
  |some p=>
   have o:p.length=4:=by have:=B1 g;have r:=Qe p;rw[this,m]at r;omega
   match p,o with
   | [x,y,z,u],_=>rw[g]at h;cases h
 exact sM 8 (.bool (((35::l).length:Int) !=9)) Zf O Zp<|H 5<|ZA (D0 9 (E (35::l)) (0:Nat)) (.int .u8 35) (λf c h=>Mc (b:=35) O rfl)<|sW false O<|H 1<|ZA (Y3 9 (E (35::l)) ((1:Nat):Int)) (E l) (λf c h=>Ux O Zs)<|Z (λf c h=>NU a J) λy=>ZI true<|ZW (.tuple #[Rk Ss,I 3])
theorem kH{k:Co}(h:Dl l=some k):Zv 139 #[E l] w (.tuple #[Rk k,I 0]):=by
 have e:=ik h;obtain⟨f,rfl⟩:∃t,l=35::t:=⟨_,e.symm⟩
 have m:f.length=8:=by
  have:=congrArg List.length e;unfold P9 at this;rw[AG,AG,Qe]at this;have o:(Z0 k).length=4:=rfl;omega
 have j:Ao f=some (Z0 k):=by
  have g:Qf (Z0 k)=f:=by unfold P9 at e;exact List.tail_eq_of_cons_eq e
  rw[<-g];exact KC _
 exact sL func139 rfl<|H 3<|sM 8 (.bool (((35::f).length:Int) !=9)) Zf O Zp<|H 5<|ZA (D0 9 (E (35::f)) (0:Nat)) (.int .u8 35) (λc a h=>Mc (b:=35) O rfl)<|sW false O<|H 1<|ZA (Y3 9 (E (35::f)) ((1:Nat):Int)) (E f) (λc a h=>Ux O Zs)<|Z (λc a h=>fO (K:=4) j rfl Zd J) λy=>ZI false<|ZB 1 (Ki 108 (.slice (some ⟨y.1,0,none⟩) 4 y.2) (0:Nat)) (.pointer (some ((⟨y.1,0,none⟩:YB).add 0))) (λc a h=>Kg (elem:=5) O O Zd)<|ZB 2 (L4 5 ((⟨y.1,0,none⟩:YB).add 0)) (.int .u8 (k.1.toNat:Int)) (λc a h=>K9 O (by rw[Addr.add_mid,BD];exact h.2 0 _ rfl))<|ZB 4 (Ki 108 (.slice (some ⟨y.1,0,none⟩) 4 y.2) (1:Nat)) (.pointer (some ((⟨y.1,0,none⟩:YB).add 1))) (λc a h=>Kg (elem:=5) O O Zd)<|ZB 5 (L4 5 ((⟨y.1,0,none⟩:YB).add 1)) (.int .u8 (k.2.1.toNat:Int)) (λc a h=>K9 O (by rw[Addr.add_mid,BD];exact h.2 1 _ rfl))<|ZB 7 (Ki 108 (.slice (some ⟨y.1,0,none⟩) 4 y.2) (2:Nat)) (.pointer (some ((⟨y.1,0,none⟩:YB).add 2))) (λc a h=>Kg (elem:=5) O O Zd)<|ZB 8 (L4 5 ((⟨y.1,0,none⟩:YB).add 2)) (.int .u8 (k.2.2.1.toNat:Int)) (λc a h=>K9 O (by rw[Addr.add_mid,BD];exact h.2 2 _ rfl))<|ZB 10 (Ki 108 (.slice (some ⟨y.1,0,none⟩) 4 y.2) (3:Nat)) (.pointer (some ((⟨y.1,0,none⟩:YB).add 3))) (λc a h=>Kg (elem:=5) O O Zd)<|ZB 11 (L4 5 ((⟨y.1,0,none⟩:YB).add 3)) (.int .u8 (k.2.2.2.toNat:Int)) (λc a h=>K9 O (by rw[Addr.add_mid,BD];exact h.2 3 _ rfl))<|ZW (.tuple #[Rk k,I 0])
end
section
variable{w:YN}{A A2:YY}{n c n2 c2:Nat}{ws l:WS}{x y:Oj}
theorem Cf(o:Si w A n ws):Zv 74 #[Ok A n c x] w (.tuple #[Rk (Sd ws x).1,Ok A n c (Sd ws x).2]):=by
 have b:=o.fld (x:=x);obtain⟨s,y,g⟩:∃s y,Le ws x=(s,y):=⟨_,_,rfl⟩
 rw[g]at b;have m:∀a:YN,Si a A n ws->Zv 137 #[Ok A n c x] a (.tuple #[E s,Ok A n c y]):=λa p=>by have t:=Fh (c:=c) (x:=x) p;rw[g]at t;exact t
 refine sL func74 rfl<|M<|Z (λa j h=>m a (o.below j)) λz=> ?_
 cases f:Dl s with
 |none=>
  have e:Sd ws x=(Ss,⟨y.i,true,y.rng⟩):=by unfold Sd;rw[g];simp only[f]
  rw[e];exact Z (λa j h=>jv f (BH b Zd)) λr=>ZI true<|ZW (.tuple #[Rk Ss,Ok A n c ⟨y.i,true,y.rng⟩])
 |some k=>
  have e:Sd ws x=(k,y):=by unfold Sd;rw[g];simp only[f]
  rw[e];exact Z (λa j h=>kH f) λr=>ZI false<|ZW (.tuple #[Rk k,Ok A n c y])
def QO(b:Bool)(r:RV)(q:Rat)(u:YN):Prop:=Oe r q 125 u\/(r=Yh/\b=true/\q=0)
theorem QO.q{b:Bool}{r:RV}{q:Rat}{u:YN}(h:QO b r q u):Ci r q 125 u:=by
 rcases h with h|⟨rfl,_,rfl⟩
 .exact h.q
 .exact VE
theorem QO.nn{r:RV}{q:Rat}{u:YN}(h:QO false r q u):Oe r q 125 u:=by
 rcases h with h|⟨_,h,_⟩
 .exact h
 .cases h
theorem QO.flag{b a:Bool}{r:RV}{q:Rat}{u:YN}(h:QO b r q u)(e:b=true->a=true):QO a r q u:=h.imp id λk=>⟨k.1,e k.2.1,k.2.2⟩
theorem QO.blk{b:Bool}{r:RV}{q:Rat}{u:YN}(h:QO b r q u):∀x∈Bv r,∃cs ty own,u.heap[x]? =some (.cells cs ty own):=λx a=>by
 rcases h with h|⟨rfl,_,_⟩
 .unfold Bv at a;rcases BF.1 a with a|a
  .obtain⟨_,cs,ty,own,e⟩:=h.1.2.2.2.dblk x a;exact⟨cs,ty,own,e⟩
  .obtain⟨_,cs,ty,own,e⟩:=h.2.2.2.2.dblk x a;exact⟨cs,ty,own,e⟩
 .cases a
theorem QO.same{b:Bool}{r:RV}{q:Rat}{w a:YN}(h:QO b r q w)(e:w.heap.size<=a.heap.size)(f:∀x∈Bv r,a.heap[x]? =w.heap[x]?):QO b r q a:=h.imp (λk=>k.dsame e f) id
theorem jw(h:(Td ws x).2.syn=false):x.syn=false:=by
 unfold Td at h;split at h
 .unfold Le at h;split at h
  .cases h
  .exact h
 .cases h
theorem aM(v:Si w A n ws):YG XW 212 #[Ok A n c x] w (K6 w (λr:RV=> .tuple #[r.val,Ok A n c (Td ws x).2]) λr u=>QO (Td ws x).2.syn r (Td ws x).1 u):=by
 have g:=v.fld (x:=x);obtain⟨s,y,k⟩:∃s y,Le ws x=(s,y):=⟨_,_,rfl⟩
 rw[k]at g;have p:∀a:YN,Si a A n ws->Zv 137 #[Ok A n c x] a (.tuple #[E s,Ok A n c y]):=λa B=>by have t:=Fh (c:=c) (x:=x) B;rw[k]at t;exact t
 refine sL func212 rfl<|M<|Z (λa f h=>p a (v.below f)) λz=> ?_
 by_cases j:Gy s=0
 case pos=>
  have e:Td ws x=(Du s,y):=by unfold Td;rw[k];simp only[j,if_true]
  rw[e];refine Z (λa f h=>by have t:=NY (w:=a) (l:=s) (BZ g Zd);rw[j]at t;exact t) λr=> ?_;refine ZI false<|ZV (.tuple #[r.val,Ok A n c y]) (λa f h=>⟨r,rfl,f,λb o m=> .inl ((h b o m).2.n rfl)⟩)
 have e:Td ws x=(0,⟨y.i,true,y.rng⟩):=by unfold Td;rw[k];simp only[j,if_false]
 rw[e];refine Z (λa f h=>NY (w:=a) (l:=s) (BZ g Zd)) λr=>X (Gy s !=0) true (bne_iff_ne.2 j)<|ZV (.tuple #[r.val,Ok A n c ⟨y.i,true,y.rng⟩]) (λa f h=>⟨r,rfl,f,λb o m=> .inr ⟨(h b o m).2.z j,rfl,rfl⟩⟩)
theorem C0(g:Si w A n ws):Zv 271 #[Ok A n c x] w (.tuple #[pt (gu ws x).1.1 (gu ws x).1.2,Ok A n c (gu ws x).2]):=by
 obtain⟨a,j⟩:∃a,a=Ms ws x:=⟨_,rfl⟩
 obtain⟨b,k⟩:∃b,b=Ms ws a.2:=⟨_,rfl⟩
 have e:gu ws x=((a.1,b.1),b.2):=by rw[k,j];rfl
 rw[e];exact sL func271 rfl<|M<|Z (λm f h=>by have t:=Te (c:=c) (x:=x) (g.below f);rw[<-j]at t;exact t) λz=>Z (λm f h=>by have t:=Te (c:=c) (x:=a.2) (g.below f);rw[<-k]at t;exact t) λo=>ZW (.tuple #[pt a.1 b.1,Ok A n c b.2])
end
end
section
--ATNAMES
def Dr(ws:WS):Nat->Oj->List Rat×Oj
 |0,x=>([],x)
 |n+1,x=>((Dr ws n x).1++ [(Td ws (Dr ws n x).2).1],(Td ws (Dr ws n x).2).2)
theorem kW{ws:WS}{x y:Oj}{a b c d e f:Rat}(h:Dr ws 6 x=([a,b,c,d,e,f],y)):MB ws x=(⟨a,b,c,d,e,f⟩,y):=by
 have g:Dr ws 6 x=([(MB ws x).1.a,(MB ws x).1.b,(MB ws x).1.c,(MB ws x).1.d,(MB ws x).1.e,(MB ws x).1.f],(MB ws x).2):=rfl;rw[h]at g;simp only[BV,List.cons.injEq,and_true]at g;obtain⟨⟨l,k,p,o,m,j⟩,r⟩:=g;rw[l,k,p,o,m,j,r]
structure AO(s:Bool)(t:TV)(T:Xm)(u:YN):Prop where
 a:QO s t.a T.a u
 b:QO s t.b T.b u
 c:QO s t.c T.c u
 d:QO s t.d T.d u
 e:QO s t.e T.e u
 f:QO s t.f T.f u
def oq(r:RV×Rat):List YM:=r.1.cl
structure Hq(s:Bool)(B:Nat)(y:YZ)(rs:List (RV×Rat))(u:YN):Prop where
 own:Y u B 45 4 y.1 rs.length y.2 (rs.flatMap oq)
 num:∀r∈rs,QO s r.1 r.2 u
 apart:∀r∈rs,∀b∈bl y.1,b∉Bv r.1
section
variable{w:YN}{A A2:YY}{n c n2 c2:Nat}{ws l:WS}{x:Oj}
theorem Y.z{u:YN}{B s:Nat}{e:YH}{A:YY}(h:Y u B e 1 A 0 0 []):Y u B e s A 0 0 []:=by
 refine⟨by simp,?_⟩;rcases h.2 with a|⟨g,cap,b,a,j,o,p,k,m,r⟩
 .exact .inl a
 .have f:cap=0:=by injection a with _ _ a;omega
  subst f;exact .inr ⟨g,0,b,a,j,o,p,k,by simpa using m,by simp⟩
theorem OF{s N:Nat}{t e:YH}(h:Lw XW w (Kd 0) (λg u=>Y u N e 1 (some ⟨g,0,none⟩) 0 0 []) (Kw t 0 #[])):Lw XW w (Kd 0) (λg u=>Y u N e s (some ⟨g,0,none⟩) 0 0 []) (Kw t 0 #[]):=by
 obtain⟨x,m,f,o,j⟩:=h;exact⟨x,m,f,o,λa k b=>(j a k b).z⟩
theorem iA{u:YN}{s T:Bool}{B N:Nat}{y:YZ}{rs:List (RV×Rat)}{r:RV}{q:Rat}(h:Hq s B y rs u)(hB:B<=u.heap.size)(uV:QO T r q u)(uR:∀b∈bl y.1,b∉Bv r)(uT:Kr 45 r.cl.toArray N u)(hn:rs.length<=100):
 Pp XW u (bl y.1) (λz:YZ=> .slice z.1 (rs.length+1) z.2) (λz v=>Y v B 45 4 z.1 (rs.length+1) z.2 ((rs++ [(r,q)]).flatMap oq)/\∀a∈rs++ [(r,q)],∀b∈bl z.1,b∉Bv a.1) (Ln 99 99 (.slice y.1 rs.length y.2) (Kd 1 N)):=by
 have ha:=N4 (P:=XW) (s:=4) (z:= .agg Yh.cl.toArray) (bytes:=64) (m:=1) (cc:=1) (t:=99) (elem:=45) O O rfl Zd h.own hB (Mm (n:=1) uT rfl) (by intro v uZ;simp[RV.cl]at uZ;rcases uZ with rfl|rfl|rfl|rfl<;>rfl) J Zd;have e:(rs++ [(r,q)]).flatMap oq=rs.flatMap oq++r.cl.toArray.toList:=by simp[oq]
 obtain⟨z,j,h1,uX,G⟩:=ha;refine⟨z,j,h1,uX,λve uU uW=> ?_⟩;have W:=G ve uU uW;rw[e];refine⟨W,λa vg b S o=> ?_⟩;have L:∃uY,QO uY a.1 a.2 u/\∀b∈bl y.1,b∉Bv a.1:=by
  rcases BF.1 vg with C|C
  .exact⟨s,h.num a C,h.apart a C⟩
  .obtain rfl:a=(r,q):=by simpa using C
   exact⟨T,uV,uR⟩
 obtain⟨uY,L,D⟩:=L;obtain⟨_,_,_,g⟩:=L.blk b o;have hlt:=(Array.getElem?_eq_some_iff.1 g).1;have K:b∉bl y.1:=λF=>D b F o
 have uS:=G j (AJ _) λ_ _=>rfl
 have f:b<j.heap.size:=(uS.lt b S).2;have vf:=G {j with heap:=j.heap.setIfInBounds b (.pending #[] 0)} Zs λk p=>by
  rw[Array.getElem?_setIfInBounds_ne];intro F;subst F;rcases p with p|p
  .exact K p
  .omega
 obtain⟨_,cs,ty,own,Q⟩:=vf.blk b S;rw[Array.getElem?_setIfInBounds_self_of_lt f]at Q;cases Q
theorem Hq.left{u e:YN}{s o:Bool}{B:Nat}{y z:YZ}{rs:List (RV×Rat)}{r:RV}{q:Rat}(h:Hq s B y rs e)(v:QO o r q e)(k:∀b∈bl y.1,b∉Bv r)(C:s=true->o=true)
 (D:e.heap.size=u.heap.size) (p:∀b,b∉bl y.1->e.heap[b]? =u.heap[b]?) (t:Y u B 45 4 z.1 (rs.length+1) z.2 ((rs++ [(r,q)]).flatMap oq)/\∀a∈rs++ [(r,q)],∀b∈bl z.1,b∉Bv a.1):Hq o B z (rs++ [(r,q)]) u:=by
 refine⟨by rw[AL];exact t.1,λa g=> ?_,t.2⟩;rcases BF.1 g with f|f
 .exact((h.num a f).flag C).same J λb m=>(p b λj=>h.apart a f b j m).symm
 .obtain rfl:a=(r,q):=by simpa using f
  exact v.same J λb m=>(p b λj=>k b j m).symm
theorem aS{y:YZ}{B k:Nat}{xs:List YM}(p:Si w A n ws)(s:Y w B 45 4 y.1 k y.2 xs):YG XW 212 #[Ok A n c x] w (K6 w (λr:RV=> .tuple #[r.val,Ok A n c (Td ws x).2]) λr u=>QO (Td ws x).2.syn r (Td ws x).1 u/\∀b∈bl y.1,b∉Bv r):=by
 refine(aM p).mono λe C h=> ?_
 obtain⟨q,t,o,m⟩:=h.fresh (λr=>Bv r) (λr u k=>k.blk);exact⟨q.1,t,o,λa j g=>⟨(m a j g).1,λb v f=>by have:=((m a j g).2.1 b f).1;have:=(s.lt b v).2;omega⟩⟩
theorem kz{α:Type}{l:List α}(h:l.length=6):∃a b c d e f,l=[a,b,c,d,e,f]:=by
 match l,h with
 | [a,b,c,d,e,f],_=>exact⟨a,b,c,d,e,f,rfl⟩
theorem lT(r:RV×Rat):(oq r).length=4:=rfl
theorem fy(a:x.syn=true):(Td ws x).2.syn=true:=by
 cases b:(Td ws x).2.syn with
 |false=>rw[jw b]at a;exact a
 |true=>rfl
theorem S6(hs:Si w A n ws):YG XW 145 #[Ok A n c x] w (K6 w (λt:TV=> .tuple #[t.val,Ok A n c (MB ws x).2]) λt u=>AO (MB ws x).2.syn t (MB ws x).1 u):=by
 refine sL func145 rfl<|M<|sO (Kw 99 0 #[]) (Kd 0) (λg u=>Y u w.heap.size 45 4 (some ⟨g,0,none⟩) 0 0 []) O (λa f h=>OF (U5 O f.size)) λuT=>M<|sU (ι:={q:List (RV×Rat)×Oj×(YZ) // q.1.length<=6/\Dr ws q.1.length x=(q.1.map (·.2),q.2.1)}) 43 (λq=>⟨[(1,.p 1 0),(2,.p 2 0),(3,.p 3 0),(4,.v (.slice q.1.2.2.1 q.1.1.length q.1.2.2.2)),(5,.v (I q.1.1.length))],[(1,[.v (.slice A n c),.v (I (q.1.2.1).i),.v (.bool (q.1.2.1).syn),.v (.bool (q.1.2.1).rng)]),(2,I0.cl.map .v),(3,[.v (.slice none 0 0),.v (I 0),.v Zf,.v Zf])]⟩) (λq u=>Hq q.1.2.1.syn w.heap.size q.1.2.2 q.1.1 u) (λq=>6-q.1.1.length) (⟨([],x,(some ⟨uT,0,none⟩,0)),AE _,rfl⟩) O (λ_=>O) zt (λu h=>⟨h.2,(λr N=>by cases N),(λr N=>by cases N)⟩) ?_
 rintro⟨⟨rs,s,y⟩,uR,C⟩ gg;have uR:rs.length<=6:=uR;have C:Dr ws rs.length x=(rs.map (·.2),s):=C
 by_cases hlt:rs.length<6
 case neg=>
  have uW:rs.length=6:=J
  obtain⟨F,D,vf,B,uS,vg,rfl⟩:=kz uW;have e:=kW (x:=x) C;rw[e];refine s7 (p:=∃g,y.1=some ⟨g,0,none⟩) (λa f h=>by obtain⟨g,K,_⟩:=(show Hq s.syn w.heap.size y [F,D,vf,B,uS,vg] a from h).own.cells (Nat.succ_pos _);exact⟨g,K⟩) O (λW=> ?_);obtain⟨g,K⟩:=W;obtain⟨uV,yc⟩:=y;have K:uV=some ⟨g,0,none⟩:=K;subst K;have o:∀a:YN,Hq s.syn w.heap.size (some ⟨g,0,none⟩,yc) [F,D,vf,B,uS,vg] a->∀(k:Nat) (r:RV×Rat),[F,D,vf,B,uS,vg][k]? =some r->∀(j:Nat) (v:YM),r.1.cl[j]? =some v->a.cell? (((⟨g,0,none⟩:YB).add (k*4)).add j)=some v:=λa h k r uR j v hj=>by
   obtain⟨ad,h1,uX⟩:=(h.own.rowA lT rfl).2 k r uR;cases h1;exact uX j v hj
  refine M<|ZI false<|sN O<|M<|ZB 1 (Ki 99 (.slice (some ⟨g,0,none⟩) 6 yc) (0:Nat)) (.pointer (some ((⟨g,0,none⟩:YB).add (0*4)))) (λa f h=>Qa (elem:=45) O O Zd)<|ZB 2 (L4 45 ((⟨g,0,none⟩:YB).add (0*4))) (F.1.val) (λa f h=>Rn O O (o _ h 0 F rfl))<|ZB 4 (Ki 99 (.slice (some ⟨g,0,none⟩) 6 yc) (1:Nat)) (.pointer (some ((⟨g,0,none⟩:YB).add (1*4)))) (λa f h=>Qa (elem:=45) O O Zd)<|ZB 5 (L4 45 ((⟨g,0,none⟩:YB).add (1*4))) (D.1.val) (λa f h=>Rn O O (o _ h 1 D rfl))<|ZB 7 (Ki 99 (.slice (some ⟨g,0,none⟩) 6 yc) (2:Nat)) (.pointer (some ((⟨g,0,none⟩:YB).add (2*4)))) (λa f h=>Qa (elem:=45) O O Zd)<|ZB 8 (L4 45 ((⟨g,0,none⟩:YB).add (2*4))) (vf.1.val) (λa f h=>Rn O O (o _ h 2 vf rfl))<|ZB 10 (Ki 99 (.slice (some ⟨g,0,none⟩) 6 yc) (3:Nat)) (.pointer (some ((⟨g,0,none⟩:YB).add (3*4)))) (λa f h=>Qa (elem:=45) O O Zd)<|ZB 11 (L4 45 ((⟨g,0,none⟩:YB).add (3*4))) (B.1.val) (λa f h=>Rn O O (o _ h 3 B rfl))<|ZB 13 (Ki 99 (.slice (some ⟨g,0,none⟩) 6 yc) (4:Nat)) (.pointer (some ((⟨g,0,none⟩:YB).add (4*4)))) (λa f h=>Qa (elem:=45) O O Zd)<|ZB 14 (L4 45 ((⟨g,0,none⟩:YB).add (4*4))) (uS.1.val) (λa f h=>Rn O O (o _ h 4 uS rfl))<|ZB 16 (Ki 99 (.slice (some ⟨g,0,none⟩) 6 yc) (5:Nat)) (.pointer (some ((⟨g,0,none⟩:YB).add (5*4)))) (λa f h=>Qa (elem:=45) O O Zd)<|ZB 17 (L4 45 ((⟨g,0,none⟩:YB).add (5*4))) (vg.1.val) (λa f h=>Rn O O (o _ h 5 vg rfl))<|ZV (.tuple #[TV.val ⟨F.1,D.1,vf.1,B.1,uS.1,vg.1⟩,Ok A n c s]) (λa f h=>⟨⟨F.1,D.1,vf.1,B.1,uS.1,vg.1⟩,rfl,f,λve uU uY=>by have k:=(show Hq s.syn w.heap.size (some ⟨g,0,none⟩,yc) [F,D,vf,B,uS,vg] ve from h ve uU uY).num;exact⟨k F Zs,k D Zs,k vf Zs,k B Zs,k uS Zs,k vg Zs⟩⟩)
 obtain⟨p,uZ⟩:∃p,p=Td ws s:=⟨_,rfl⟩
 refine M<|X (decide ((rs.length:Int)<6)) true Zp<|tf (λa f h=>by have t:=aS (c:=c) (x:=s) (hs.below f) (show Hq s.syn w.heap.size y rs a from h).own;rw[<-uZ]at t;exact t) O λr=> ?_;refine s0 O (stop:=1000) 7 _<|H 2<|sO (Kw 99 1 #[(0,r.val)]) (Kd 1) (Kr 45 r.cl.toArray) O (λa f h=>Kb O) λQ=>H 3<|sY (L:=bl y.1) (val:=λ(z:YZ)=> .slice z.1 (rs.length+1) z.2) (Φ':=λ(z:YZ) v=>Hq p.2.syn w.heap.size z (rs++ [(r,p.1)]) v) (G:=λ(z:YZ) v=>Y v w.heap.size 45 4 z.1 (rs.length+1) z.2 ((rs++ [(r,p.1)]).flatMap oq)/\∀r'∈rs++ [(r,p.1)],∀b∈bl z.1,b∉Bv r'.1) (Ln 99 99 (.slice y.1 rs.length y.2) (Kd 1 Q)) (λa f h=>iA (show Hq s.syn w.heap.size y rs a from h.1.1) f.size h.1.2.1 h.1.2.2 h.2 J) (λa h=>λb P=>⟨((show Hq s.syn w.heap.size y rs a from h.1.1).own.lt b P).1,((show Hq s.syn w.heap.size y rs a from h.1.1).own.blk b P).2⟩) (λz wa wb S T h hG=>Hq.left (show Hq s.syn w.heap.size y rs wa from h.1.1) h.1.2.1 h.1.2.2 (λhx=>by rw[uZ];exact fy hx) S T hG) O O λz=>M ?_
 have m:(rs++ [(r,p.1)]).length=rs.length+1:=Zs
 refine sM 5 (I (YA.wrap ((rs.length:Int)+1))) (I ((rs++ [(r,p.1)]).length:Int)) O (by rw[AK _ J,m];rfl)<|sM 4 (.slice z.1 (rs.length+1) z.2) (.slice z.1 (rs++ [(r,p.1)]).length z.2) O (by rw[m])<|sR (⟨(rs++ [(r,p.1)],p.2,z),by show(rs++ [(r,p.1)]).length<=6;rw[m];omega,by show Dr ws (rs++ [(r,p.1)]).length x=((rs++ [(r,p.1)]).map (·.2),p.2);rw[m];show((Dr ws rs.length x).1++ [(Td ws (Dr ws rs.length x).2).1],(Td ws (Dr ws rs.length x).2).2)=_;rw[C,uZ];simp⟩) O (by show 6- (rs++ [(r,p.1)]).length<6-rs.length;rw[m];omega) zt (λu h=>h)
theorem KY{m:Nat}{a:List (Int×Co)}(h:¬(x.i<ws.length/\x.syn=false)):SQ ws m x a=(a,x):=by
 cases m with
 |zero=>rfl
 |succ m=>exact V h
theorem pd{m:Nat}{a:List (Int×Co)}(h:x.i<ws.length/\x.syn=false):SQ ws (m+1) x a=SQ ws m (Sd ws (Ms ws x).2).2 (a++ [((Ms ws x).1,(Sd ws (Ms ws x).2).1)]):=YS h
theorem Ix(F:Si w A n ws):YG XW 272 #[Ok A n c x] w (K6 w (λy:YZ=> .tuple #[.slice y.1 (Uv ws x).1.length y.2,Ok A n c (Uv ws x).2]) λy u=>Y u 0 165 5 y.1 (Uv ws x).1.length y.2 (Gr (Uv ws x).1)):=by
 have T:=F.at_.1;have uX:=F.len;obtain⟨S,uR⟩:∃S,S=Uv ws x:=⟨_,rfl⟩
 rw[<-uR];refine sL func272 rfl<|M<|sO (Kw 37 0 #[]) (Kd 0) (λg u=>Y u w.heap.size 165 5 (some ⟨g,0,none⟩) 0 0 []) O (λB o h=>OF (U5 O o.size)) λP=>H 7<|sU (ι:={q:Nat×Oj×List (Int×Co)×(YZ) // SQ ws q.1 q.2.1 q.2.2.1=S/\ws.length-q.2.1.i<=q.1/\q.2.2.1.length+q.1<=ws.length}) 40 (λq=>⟨[(1,.p 1 0),(3,.p 3 0),(4,.v (.slice q.1.2.2.2.1 q.1.2.2.1.length q.1.2.2.2.2))],[(1,[.v (.slice A n c),.v (I (q.1.2.1).i),.v (.bool (q.1.2.1).syn),.v (.bool (q.1.2.1).rng)]),(3,[.v (.slice none 0 0),.v (I 0),.v Zf,.v Zf])]⟩) (λq u=>Y u w.heap.size 165 5 q.1.2.2.2.1 q.1.2.2.1.length q.1.2.2.2.2 (Gr q.1.2.2.1)) (λq=>q.1.1) (⟨(ws.length,x,[],(some ⟨P,0,none⟩,0)),uR.symm,by omega,by simp⟩) O (λ_=>O) zt (λu h=>h.2) ?_
 rintro⟨⟨m,f,e,y⟩,k,K,D⟩ uT;have k:SQ ws m f e=S:=k;have K:ws.length-f.i<=m:=K;have D:e.length+m<=ws.length:=D
 by_cases hi:f.i<n
 case neg=>
  obtain rfl:S=(e,f):=by rw[<-k];exact KY (λh=>hi (by have:=h.1;omega))
  refine H 7<|ZT 16 (.bool (decide ((f.i:Int)<(n:Int)))) Zf (by rw[YV J])<|ZI false<|sN O<|M<|ZV (.tuple #[.slice y.1 e.length y.2,Ok A n c f]) (λB o h=>⟨y,rfl,o,λs vf uS=>(show Y s w.heap.size 165 5 y.1 e.length y.2 (Gr e)from h s vf uS).rebase λ_ _=>AE _⟩)
 by_cases C:f.syn=false
 case neg=>
  obtain rfl:S=(e,f):=by rw[<-k];exact KY (λh=>C h.2)
  refine H 7<|ZT 16 (.bool (decide ((f.i:Int)<(n:Int)))) Zt (by rw[YU J])<|X (!f.syn) false (by simpa using C)<|sN O<|M<|ZV (.tuple #[.slice y.1 e.length y.2,Ok A n c f]) (λB o h=>⟨y,rfl,o,λs vf uS=>(show Y s w.heap.size 165 5 y.1 e.length y.2 (Gr e)from h s vf uS).rebase λ_ _=>AE _⟩)
 obtain⟨m,rfl⟩:∃j,m=j+1:=⟨m-1,by omega⟩
 rw[pd ⟨by omega,C⟩]at k;have Q:(Ms ws f).2.i=f.i+1:=by rw[rb,p9 J]
 have N:(Ms ws f).2.i<=(Sd ws (Ms ws f).2).2.i:=by rw[qr];exact oX
 obtain⟨a,ve⟩:∃a,a=Ms ws f:=⟨_,rfl⟩
 obtain⟨b,vg⟩:∃b,b=Sd ws a.2:=⟨_,rfl⟩
 rw[<-ve,<-vg]at k;rw[<-ve]at Q N;rw[<-vg]at N;refine H 7<|ZT 16 (.bool (decide ((f.i:Int)<(n:Int)))) Zt (by rw[YU J])<|X (!f.syn) true (by rw[C];rfl)<|Z (λB o h=>by have t:=Te (c:=c) (x:=f) (F.below o);rw[<-ve]at t;exact t) λz1=>tf (λB o h=>by have t:=Cf (c:=c) (x:=a.2) (F.below o);rw[<-vg]at t;exact t) O λz2=>s0 O (stop:=1000) 7 _<|H 4<|sO (Kw 37 1 #[(0,.agg (Sv (a.1,b.1)).toArray)]) (Kd 1) (Kr 165 (Sv (a.1,b.1)).toArray) O (λB o h=>Kb O) λuZ=>H 5<|sY (L:=bl y.1) (val:=λ(z:YZ)=> .slice z.1 (e.length+1) z.2) (Φ':=λ(z:YZ) v=>Y v w.heap.size 165 5 z.1 (e.length+1) z.2 (Gr (e++ [(a.1,b.1)]))) (G:=λ(z:YZ) v=>Y v w.heap.size 165 5 z.1 (e.length+1) z.2 (Gr (e++ [(a.1,b.1)]))) (Ln 37 37 (.slice y.1 e.length y.2) (Kd 1 uZ)) (λB o h=>XH (show Y B w.heap.size 165 5 y.1 e.length y.2 (Gr e)from h.1.1.1) o.size h.2 J) (λB h=>λb vg=>⟨((show Y B w.heap.size 165 5 y.1 e.length y.2 (Gr e)from h.1.1.1).lt b vg).1,((show Y B w.heap.size 165 5 y.1 e.length y.2 (Gr e)from h.1.1.1).blk b vg).2⟩) (λz W uV uW uU h uY=>uY) O O λz=>H 7 ?_
 have r:(e++ [(a.1,b.1)]).length=e.length+1:=Zs
 refine sM 4 (.slice z.1 (e.length+1) z.2) (.slice z.1 (e++ [(a.1,b.1)]).length z.2) O (by rw[r])<|sR (⟨(m,b.2,e++ [(a.1,b.1)],z),k,by show ws.length-b.2.i<=m;omega,by show(e++ [(a.1,b.1)]).length+m<=ws.length;rw[r];omega⟩) O zo zt (λu h=>by show Y u w.heap.size 165 5 z.1 (e++ [(a.1,b.1)]).length z.2 (Gr (e++ [(a.1,b.1)]));rw[r];exact h)
end
end
section
--ATNAMES
theorem LD:∀b:R,(M5 b).length=b.length/4
 | []=>rfl
 | [_]=>by simp[M5]
 | [_,_]=>by simp[M5]
 | [_,_,_]=>by simp[M5]
 |r::g::b::a::l=>by
  have c:=LD l;show(M5 l).length+1=_;simp only[AG];omega
section
variable{w:YN}{A A2:YY}{n c n2 c2:Nat}{ws l:WS}{x:Oj}{m k:Int}{B:Bool}
theorem aY(a:Tr m k=B):Zv 211 #[I m,I k] w (.bool B):=by
 refine sL func211 rfl<|H 3 ?_
 by_cases b:1<=m
 case neg=>
  exact ZT 7 (.bool (decide (m>=1))) Zf (by rw[YV J])<|ZX Zf (by rw[<-a];unfold Tr;rw[YV J])
 refine sM 7 (.bool (decide (m>=1))) Zt O (by rw[YU J])<|H 7 ?_
 by_cases e:m<=4096
 case neg=>
  exact ZT 11 (.bool (decide (m<=4096))) Zf (by rw[YV J])<|ZX Zf (by rw[<-a];unfold Tr;rw[YV J])
 refine sM 11 (.bool (decide (m<=4096))) Zt O (by rw[YU J])<|H 11 ?_
 by_cases g:1<=k
 case neg=>
  exact ZT 15 (.bool (decide (k>=1))) Zf (by rw[YV J])<|ZX Zf (by rw[<-a];unfold Tr;rw[YV J])
 refine sM 15 (.bool (decide (k>=1))) Zt O (by rw[YU J])<|H 15 ?_
 by_cases f:k<=4096
 case neg=>
  exact ZT 19 (.bool (decide (k<=4096))) Zf (by rw[YV J])<|ZX Zf (by rw[<-a];unfold Tr;rw[YV J])
 refine ZT 19 (.bool (decide (k<=4096))) Zt (by rw[YU J])<|ZV (.bool (decide (YA.wrap (m*k)<=65536))) (λo j h=>⟨(),by rw[<-a,Eq ⟨b,e⟩ ⟨g,f⟩];unfold Tr;congr 2;exact decide_eq_decide.2 ⟨λh=>⟨b,e,g,f,h⟩,λh=>h.2.2.2.2⟩,j,λ_ _ _=>trivial⟩)
theorem uF{P:YK}{Δ:List YI}{W:YN}{Q:Exit->Act->YN->Prop}{Φ:YW}{c:Ob}{ι:Type}(b:Ob)(n:Nat)(f:ι->LS)(Ψ:ι->YN->Prop)(μ:ι->Nat)(e:ι)(r:c.k=b.k)(o:C3 c=C3 b)(p:(C3 b).isSome=true)(h:∀i,(f i).ok=true)(s:(f e).fits n c.st)(j:∀w,Φ w->Ψ e w)
 (a:∀i g,K0 P Δ W (dQ P Δ W Q b.k f n Ψ μ i) (Ψ i) ⟨.code ((C3 b).getD .skip),[],(f i).st n g⟩):K0 P Δ W Q Φ c:=by
 rw[<-o]at p;rw[<-r,<-o]at a;exact sU n f Ψ μ e p h s j a
noncomputable def o4:Ob:=
 let r:=M1 XW 1000 1000
 r (Em false (r (Lf (.v (.tuple #[.slice none 4 0,I 0])) (r (Lf (.v (.tuple #[.string ⟨#[]⟩,Ok none 0 0 ⟨0,false,true⟩])) (r (Lf (.v (.tuple #[I 1,Ok none 0 0 ⟨0,false,true⟩])) (r (Lf (.v (.tuple #[I 1,Ok none 0 0 ⟨0,false,true⟩])) (r (Uf f144 #[Ok none 0 0 ⟨0,false,false⟩])))))))))))
abbrev rt(A:YY)(n c:Nat)(a b:Int)(h:Nat)(f g:Bool)(p:R)(e:YY)(yc:Nat):{q:Nat×(YZ) // q.1<=(M5 p).length}->LS:=λq=>⟨[(2,.p 2 0),(3,.p 3 0),(11,.p 11 0),(12,.v (.slice e p.length yc)),(14,.p 14 0),(15,.v (I ((4*q.1.1:Nat):Int)))],[(2,[.v (I 0),.v (I 0),.v (.slice none 0 0)]),(3,[.v (.slice none 0 0),.v (I 0),.v Zf,.v Zf]),(11,[.v (.slice A n c),.v (I h),.v (.bool f),.v (.bool g)]),(14,[.v (I a),.v (I b),.v (.slice q.1.2.1 q.1.1 q.1.2.2)])]⟩
theorem Iw{vf:Ob}{Φ:YW}{a b:Int}{F:Nat}{vg uS:Bool}{p:R}{r:YY}{yc:Nat}(uZ:vf.k=o4.k)(uR:C3 vf=C3 o4)(h0:(rt A n c a b F vg uS p r yc ⟨(0,(none,0)),AE _⟩).fits 111 vf.st)(K:∀u,Φ u->Y u 0 5 1 r p.length yc (bv p))(uV:(M5 p).length=p.length/4)(hpl:p.length<=5000):
 K0 XW [] w (bodyPost XW f144 (K6 w (λy:YZ=> .tuple #[Jo ⟨a,b,M5 p⟩ y,Ok A n c ⟨F,vg,uS⟩]) λy u=>Y u 0 214 4 y.1 (M5 p).length y.2 (Wk (M5 p)))) Φ vf:=by
 refine uF o4 111 (rt A n c a b F vg uS p r yc) (λq u=>Y u 0 5 1 r p.length yc (bv p)/\Y u w.heap.size 214 4 q.1.2.1 (q.1.1) q.1.2.2 (Wk ((M5 p).take q.1.1))) (λq=>(M5 p).length-q.1.1) ⟨(0,(none,0)),AE _⟩ uZ uR O (λ_=>O) h0 (λu h=>⟨K u h,s_⟩) ?_;rintro⟨⟨k,o⟩,Q⟩ gg;have Q:k<=(M5 p).length:=Q
 by_cases hlt:k<(M5 p).length
 case neg=>
  have C:k=(M5 p).length:=J
  have s:(M5 p).take k=M5 p:=AN J;refine M<|X (decide (YA.wrap (((4*k:Nat):Int)+3)<(p.length:Int))) false (by rw[AK _ J];simp;omega)<|sN O<|M<|ZV (.tuple #[.agg #[I a,I b,.slice o.1 k o.2],Ok A n c ⟨F,vg,uS⟩]) (λf e h=>⟨o,by rw[C],e,λv W uW=>by have t:=(show Y v 0 5 1 r p.length yc (bv p)/\Y v w.heap.size 214 4 o.1 (k) o.2 (Wk ((M5 p).take k))from h v W uW).2;rw[s,C]at t;exact t.rebase λ_ _=>AE _⟩)
 refine s7 (p:=∃g,r=some ⟨g,0,none⟩) (λf e h=>by obtain⟨g,N,_⟩:=(show Y f 0 5 1 r p.length yc (bv p)/\Y f w.heap.size 214 4 o.1 (k) o.2 (Wk ((M5 p).take k))from h).1.cells J;exact⟨g,N⟩) O (λuX=> ?_);obtain⟨g,N⟩:=uX;subst N;obtain⟨j,D⟩:∃j,(M5 p)[k]? =some j:=⟨_,AA J⟩
 obtain⟨uT,T,p3,p4⟩:=Wj D;refine M<|X (decide (YA.wrap (((4*k:Nat):Int)+3)<(p.length:Int))) true (by rw[AK _ J];simp;omega)<|sM 92 (I (YA.wrap (((4*k:Nat):Int)+1))) (I ((4*k+1:Nat):Int)) O (by rw[AK _ J];congr 1)<|sM 97 (I (YA.wrap (((4*k:Nat):Int)+2))) (I ((4*k+2:Nat):Int)) O (by rw[AK _ J];congr 1)<|sM 102 (I (YA.wrap (((4*k:Nat):Int)+3))) (I ((4*k+3:Nat):Int)) O (by rw[AK _ J];congr 1)<|ZB 4 (Ki 108 (.slice (some ⟨g,0,none⟩) p.length yc) ((4*k:Nat):Int)) (.pointer (some ((⟨g,0,none⟩:YB).add (4*k)))) (λf e h=>Kg (k:=4*k) (elem:=5) O O J)<|ZB 5 (L4 5 ((⟨g,0,none⟩:YB).add (4*k))) (.int .u8 (j.1.toNat:Int)) (λf e h=>K9 O (Dw h.1 uT))<|ZB 9 (Ki 108 (.slice (some ⟨g,0,none⟩) p.length yc) ((4*k+1:Nat):Int)) (.pointer (some ((⟨g,0,none⟩:YB).add (4*k+1)))) (λf e h=>Kg (k:=4*k+1) (elem:=5) O O J)<|ZB 10 (L4 5 ((⟨g,0,none⟩:YB).add (4*k+1))) (.int .u8 (j.2.1.toNat:Int)) (λf e h=>K9 O (Dw h.1 T))<|ZB 14 (Ki 108 (.slice (some ⟨g,0,none⟩) p.length yc) ((4*k+2:Nat):Int)) (.pointer (some ((⟨g,0,none⟩:YB).add (4*k+2)))) (λf e h=>Kg (k:=4*k+2) (elem:=5) O O J)<|ZB 15 (L4 5 ((⟨g,0,none⟩:YB).add (4*k+2))) (.int .u8 (j.2.2.1.toNat:Int)) (λf e h=>K9 O (Dw h.1 p3))<|ZB 19 (Ki 108 (.slice (some ⟨g,0,none⟩) p.length yc) ((4*k+3:Nat):Int)) (.pointer (some ((⟨g,0,none⟩:YB).add (4*k+3)))) (λf e h=>Kg (k:=4*k+3) (elem:=5) O O J)<|ZB 20 (L4 5 ((⟨g,0,none⟩:YB).add (4*k+3))) (.int .u8 (j.2.2.2.toNat:Int)) (λf e h=>K9 O (Dw h.1 p4))<|sO (Kw 38 1 #[(0,.agg (P7 j).toArray)]) (Kd 1) (Kr 214 (P7 j).toArray) O (λf e h=>Kb O) λS=>H 23<|uy [24]<|tz (L:=bl o.1) (val:=λ(z:YZ)=> .slice z.1 (k+1) z.2) (Φ':=λ(z:YZ) u=>Y u 0 5 1 (some ⟨g,0,none⟩) p.length yc (bv p)/\Y u w.heap.size 214 4 z.1 (k+1) z.2 (Wk ((M5 p).take k++ [j]))) (G:=λ(z:YZ) u=>Y u w.heap.size 214 4 z.1 (k+1) z.2 (Wk ((M5 p).take k++ [j]))) (Ln 38 38 (.slice o.1 k o.2) (Kd 1 S)) (λf e h=>jT h.1.2 e.size h.2 J) (λu h=>λP uY=>⟨(h.1.2.lt P uY).1,(h.1.2.blk P uY).2⟩) (λz wa u e1 uU h hG=>⟨Y.left h.1.1 uU (od h.1.1 h.1.2 Zd),hG⟩) O O λz=>M<|sM 15 (I (YA.wrap (((4*k:Nat):Int)+4))) (I ((4*(k+1):Nat):Int)) O (by rw[AK _ J];congr 1) ?_
 have ve:(M5 p).take (k+1)=(M5 p).take k++ [j]:=by rw[BA,D];rfl
 refine sR (⟨(k+1,z),by show k+1<=(M5 p).length;omega⟩) O (by show(M5 p).length- (k+1)<(M5 p).length-k;omega) zt (λu h=>⟨h.1,by show Y u w.heap.size 214 4 z.1 (k+1) z.2 (Wk ((M5 p).take (k+1)));rw[ve];exact h.2⟩)
theorem gn{l p:R}{D:Int}(r:l.length<=20000)(a:p=(Ao l).getD [])(b:D=if (Ao l).isSome then 0 else 3):YG XW 208 #[E l] w (K6 w (λy:YZ=> .tuple #[.slice y.1 p.length y.2,I D]) λy u=>Y u 0 5 1 y.1 p.length y.2 (bv p)):=by
 cases f:Ao l with
 | none=>
  rw[f]at a b;subst a b;exact(NU f J).mono λe o h=>by
   obtain⟨_,g,j,_⟩:=h;exact⟨(none,0),g,j,λ_ _ _=>s_⟩
 |some q=>
  rw[f]at a b;subst a b;exact Oo f J
theorem Iy(F:Si w A n ws):YG XW 144 #[Ok A n c x] w (K6 w (λy:YZ=> .tuple #[Jo (cS ws x).1 y,Ok A n c (cS ws x).2]) λy u=>Y u 0 214 4 y.1 (cS ws x).1.px.length y.2 (Wk (cS ws x).1.px)):=by
 obtain⟨vf,xs,C⟩:=x;obtain⟨a,L⟩:∃a,a=Ms ws ⟨vf,xs,false⟩:=⟨_,rfl⟩
 obtain⟨b,uR⟩:∃b,b=Ms ws a.2:=⟨_,rfl⟩
 obtain⟨j,v⟩:∃j,j=(!b.2.rng&&Tr a.1 b.1):=⟨_,rfl⟩
 obtain⟨f,G⟩:∃f,f=Le ws ⟨b.2.i,b.2.syn,C|| !j⟩:=⟨_,rfl⟩
 obtain⟨p,uS⟩:∃p,p=(Ao f.1).getD []:=⟨_,rfl⟩
 obtain⟨vg,N⟩:∃vg:Int,vg=if (Ao f.1).isSome then 0 else 3:=⟨_,rfl⟩
 have S:f.1.length<=10000:=by rw[G];exact F.fld
 have o:p.length<=5000/\Hd j a.1 b.1 (Ao f.1)=((vg !=0||decide (p.length%4≠0))||(j&&decide ((p.length:Int)≠4*a.1*b.1))):=by
  rw[uS,N];cases uW:Ao f.1 with
  |none=>exact⟨AE _,rfl⟩
  |some q=>exact⟨by have:=B1 uW;have uV:2*q.length=f.1.length:=by{rw[<-this,Qe]};show q.length<=5000;omega,rfl⟩
 have e:cS ws ⟨vf,xs,C⟩=(⟨a.1,b.1,M5 p⟩,⟨f.2.i,f.2.syn||Hd j a.1 b.1 (Ao f.1),f.2.rng⟩):=by rw[uS,G,v,uR,L];rfl
 rw[e,o.2];have r:=LD p;refine sL func144 rfl<|M<|Z (λD s h=>by have t:=Te (c:=c) (x:=⟨vf,xs,false⟩) (F.below s);rw[<-L]at t;exact t) λz1=>tf (λD s h=>by have t:=Te (c:=c) (x:=a.2) (F.below s);rw[<-uR]at t;exact t) O λz2=>s0 O (stop:=1000) 7 _<|H 4<|tj O true 8 1000 1000 32 [33,34,35] 36 false (Tr a.1 b.1) (Tr a.1 b.1) ((!b.2.rng)&&(Tr a.1 b.1)) O (λD s h=>aY rfl) O O O (λ_=>O) Q4 λP Φxj1 ve=>sM 36 (.bool (!b.2.rng&&Tr a.1 b.1)) (.bool j) O (by rw[v])<|H 2<|sT O 5 1000 38 [39,40] 41 true (!j) ((C)||(!j)) O O O (λ_=>O) Ov λT=>M<|Z (λD s h=>by have t:=Fh (c:=c) (x:=⟨b.2.i,b.2.syn,C|| !j⟩) (F.below s);rw[<-G]at t;exact t) λW=>tf (λD s h=>gn (l:=f.1) J uS N) O (λuY=> ?_)
 obtain⟨uT,yc⟩:=uY;refine s0 O (stop:=1000) 6 _<|H 3<|sT O 8 1000 55 [56,57,58,59] 60 true (((p.length:Int).tmod 4) !=0) ((vg !=0)||(((p.length:Int).tmod 4) !=0)) O O O (λ_=>O) Ov λuU=>sM 60 (.bool (vg !=0||(((p.length:Int).tmod 4) !=0))) (.bool (vg !=0||decide (p.length%4≠0))) O (by rw[oz]) ?_
 obtain⟨uX,Q⟩:∃uX,uX=(vg !=0||decide (p.length%4≠0)):=⟨_,rfl⟩
 rw[<-Q];refine H 9 ?_;cases uX with
 |true=>
  rw[show(f.2.syn||(true||(j&&decide ((p.length:Int)≠4*a.1*b.1))))=true by simp];exact M<|ZI true<|Iw (a:=a.1) (b:=b.1) (p:=p) O O zt (λu h=>h.2) r o.1
 |false=>
 cases j with
 |false=>
  rw[show(f.2.syn||(false||(false&&decide ((p.length:Int)≠4*a.1*b.1))))=f.2.syn by simp];exact M<|ZI false<|Iw (a:=a.1) (b:=b.1) (p:=p) O O zt (λu h=>h.2) r o.1
 |true=>
 have K:1<=a.1/\a.1<=4096/\1<=b.1/\b.1<=4096/\a.1*b.1<=65536:=by have h:=v.symm;rw[AD]at h;exact YP h.2
 have uZ:0<=4*a.1*b.1/\4*a.1*b.1<=262144:=by have:=Int.mul_nonneg (show 0<=a.1 by omega) (show 0<=b.1 by omega);rw[Int.mul_assoc];omega
 refine H 15<|sM 67 (I (YA.wrap (4*a.1))) (I (4*a.1)) O (by rw[AK _ J])<|H 17<|ZT 69 (I (YA.wrap (4*a.1*b.1))) (I (4*a.1*b.1)) (by rw[AK _ J]) ?_
 by_cases g:(p.length:Int)=4*a.1*b.1
 .rw[show(f.2.syn||(false||(true&&decide ((p.length:Int)≠4*a.1*b.1))))=f.2.syn by simp[g]];exact X (((p.length:Int) !=4*a.1*b.1)) false (bne_eq_false_iff_eq.2 g)<|Iw (a:=a.1) (b:=b.1) (p:=p) O O zt (λu h=>h.2) r o.1
 .rw[show(f.2.syn||(false||(true&&decide ((p.length:Int)≠4*a.1*b.1))))=true by simp[g]];exact X (((p.length:Int) !=4*a.1*b.1)) true (bne_iff_ne.2 g)<|Iw (a:=a.1) (b:=b.1) (p:=p) O O zt (λu h=>h.2) r o.1
end
end
section
--ATNAMES
structure oV(s:Bool)(P:Pn)(q:PM)(u:YN):Prop where
 st:Y u 0 165 5 q.sA P.stops.length q.sc (Gr P.stops)
 px:Y u 0 214 4 q.xA P.im.px.length q.xc (Wk P.im.px)
 tr:(P.kind<2/\P.T=Pc/\q.t=I0)\/(2<=P.kind/\AO s q.t P.T u)
theorem AO.isA{s:Bool}{t:TV}{T:Xm}{u:YN}(h:AO s t T u):Fv t T 125 u:=⟨h.a.q,h.b.q,h.c.q,h.d.q,h.e.q,h.f.q⟩
theorem AO.n{t:TV}{T:Xm}{u:YN}(h:AO false t T u):Fu t T 125 u:=⟨h.a.nn,h.b.nn,h.c.nn,h.d.nn,h.e.nn,h.f.nn⟩
theorem AO.flag{s j:Bool}{t:TV}{T:Xm}{u:YN}(h:AO s t T u)(g:s=true->j=true):AO j t T u:=⟨h.a.flag g,h.b.flag g,h.c.flag g,h.d.flag g,h.e.flag g,h.f.flag g⟩
theorem oV.rd{s:Bool}{P:Pn}{q:PM}{w:YN}(h:oV s P q w):Hs P q 125 w:=by
 refine⟨h.st.rowA b8 rfl,h.px.rowA Qo rfl,?_⟩;rcases h.tr with ⟨_,a,b⟩|⟨_,h⟩
 .rw[a,b];exact .zero
 .exact h.isA
section
variable{w:YN}{A A2:YY}{n c n2 c2:Nat}{ws l:WS}{x:Oj}
theorem d7(h:x.syn=true):(Le ws x).2.syn=true:=by
 unfold Le;split
 .rfl
 .exact h
theorem dz(h:x.syn=true):(Ms ws x).2.syn=true:=by
 show((Le ws x).2.syn||_)=true;rw[d7 h];rfl
theorem NF(h:x.syn=true):(Uv ws x).2.syn=true:=by
 unfold Uv;rw[KY (λk=>by rw[h]at k;exact absurd k.2 Zs)];exact h
theorem pP(h:x.syn=true):(cS ws x).2.syn=true:=by
 have a:(Ms ws (Ms ws ⟨x.i,x.syn,false⟩).2).2.syn=true:=dz (dz h);show((Le ws _).2.syn||_)=true;rw[CF];exact .inl (d7 a)
theorem Xb:YG XW 159 #[] w (K6 w (λy:Nat=> .slice (some ⟨y,0,none⟩) 4 4) λy u=>Km u (some ⟨y,0,none⟩) 4 Lm):=by
 refine sL func159 rfl<|M<|sO (Kw 53 4 #[(0,E [110,111,110,101]),(1,E [112,97,100]),(2,E [114,101,112,101,97,116]),(3,E [114,101,102,108,101,99,116])]) (Kd 4) (Kr 9 #[E [110,111,110,101],E [112,97,100],E [114,101,112,101,97,116],E [114,101,102,108,101,99,116]]) O (λg b h=>Kb O) λy=>M<|ZV (.slice (some ⟨y,0,none⟩) 4 4) (λg b h=>⟨y,rfl,b,λa f e=>Lh (h a f e).2 rfl⟩)
theorem Yk:YG XW 143 #[] w (K6 w (λy:Nat=> .slice (some ⟨y,0,none⟩) 3 3) λy u=>Km u (some ⟨y,0,none⟩) 3 ([]::Ng)):=by
 refine sL func143 rfl<|M<|sO (Kw 53 3 #[(0,E []),(1,E [110,101,97,114,101,115,116]),(2,E [98,105,108,105,110,101,97,114])]) (Kd 3) (Kr 9 #[E [],E [110,101,97,114,101,115,116],E [98,105,108,105,110,101,97,114]]) O (λg b h=>Kb O) λy=>M<|ZV (.slice (some ⟨y,0,none⟩) 3 3) (λg b h=>⟨y,rfl,b,λa f e=>Lh (h a f e).2 rfl⟩)
theorem aA(B:Si w A n ws):YG XW 213 #[Ok A n c x] w (K6 w (λq:PM=> .tuple #[U2 (M_ ws x).1 q,Ok A n c (M_ ws x).2]) λq u=>oV (M_ ws x).2.syn (M_ ws x).1 q u):=by
 obtain⟨p,y⟩:∃z,z=gu ws x:=⟨_,rfl⟩
 obtain⟨r,o⟩:∃z,z=gu ws p.2:=⟨_,rfl⟩
 obtain⟨k,m⟩:∃z,z=Oi ws Lm r.2:=⟨_,rfl⟩
 obtain⟨t,v⟩:∃z,z=MB ws k.2:=⟨_,rfl⟩
 obtain⟨C,f⟩:∃z,z=Uv ws t.2:=⟨_,rfl⟩
 have e:M_ ws x=((⟨2,Ss,p.1.1,p.1.2,r.1.1,r.1.2,0,C.1,k.1,Yf,0,t.1⟩:Pn),C.2):=by rw[f,v,m,o,y];rfl
 rw[e];refine sL func213 rfl<|M<|Z (λg b h=>by have t:=C0 (c:=c) (x:=x) (B.below b);rw[<-y]at t;exact t) λuS=> ?_;refine Z (λg b h=>by have t:=C0 (c:=c) (x:=p.2) (B.below b);rw[<-o]at t;exact t) λve=> ?_;refine Z (λg b h=>Xb) λG=>Z (λg b h=>by have t:=B6 (c:=c) (c2:=4) (x:=r.2) (B.below b) h.2 Zd;rw[<-m]at t;exact t) λvf=> ?_;refine Z (λg b h=>by have t:=S6 (c:=c) (x:=k.2) (B.below b);rw[<-v]at t;exact t) λj=> ?_;refine Z (λg b h=>by have t:=Ix (c:=c) (x:=t.2) (B.below b);rw[<-f]at t;exact t) λa=> ?_;refine ZV (.tuple #[U2 (⟨2,Ss,p.1.1,p.1.2,r.1.1,r.1.2,0,C.1,k.1,Yf,0,t.1⟩:Pn) (⟨a.1,a.2,none,0,j⟩:PM),Ok A n c C.2]) (λg b h=>⟨(⟨a.1,a.2,none,0,j⟩:PM),rfl,b,λs vg D=>⟨(h s vg D).2,s_,.inr ⟨(show(2:Int)<=2 by decide),((h s vg D).1.2).flag (λF=>by rw[f];exact NF F)⟩⟩⟩)
theorem bq(B:Si w A n ws):YG XW 214 #[Ok A n c x] w (K6 w (λq:PM=> .tuple #[U2 (MU ws x).1 q,Ok A n c (MU ws x).2]) λq u=>oV (MU ws x).2.syn (MU ws x).1 q u):=by
 obtain⟨p,y⟩:∃z,z=gu ws x:=⟨_,rfl⟩
 obtain⟨r,o⟩:∃z,z=Ms ws p.2:=⟨_,rfl⟩
 obtain⟨k,m⟩:∃z,z=Oi ws Lm r.2:=⟨_,rfl⟩
 obtain⟨t,v⟩:∃z,z=MB ws k.2:=⟨_,rfl⟩
 obtain⟨C,f⟩:∃z,z=Uv ws t.2:=⟨_,rfl⟩
 have e:MU ws x=((⟨3,Ss,p.1.1,p.1.2,0,0,r.1,C.1,k.1,Yf,0,t.1⟩:Pn),C.2):=by rw[f,v,m,o,y];rfl
 rw[e];refine sL func214 rfl<|M<|Z (λg b h=>by have t:=C0 (c:=c) (x:=x) (B.below b);rw[<-y]at t;exact t) λuS=> ?_;refine Z (λg b h=>by have t:=Te (c:=c) (x:=p.2) (B.below b);rw[<-o]at t;exact t) λve=> ?_;refine Z (λg b h=>Xb) λG=>Z (λg b h=>by have t:=B6 (c:=c) (c2:=4) (x:=r.2) (B.below b) h.2 Zd;rw[<-m]at t;exact t) λvf=> ?_;refine Z (λg b h=>by have t:=S6 (c:=c) (x:=k.2) (B.below b);rw[<-v]at t;exact t) λj=> ?_;refine Z (λg b h=>by have t:=Ix (c:=c) (x:=t.2) (B.below b);rw[<-f]at t;exact t) λa=> ?_;refine ZV (.tuple #[U2 (⟨3,Ss,p.1.1,p.1.2,0,0,r.1,C.1,k.1,Yf,0,t.1⟩:Pn) (⟨a.1,a.2,none,0,j⟩:PM),Ok A n c C.2]) (λg b h=>⟨(⟨a.1,a.2,none,0,j⟩:PM),rfl,b,λs vg D=>⟨(h s vg D).2,s_,.inr ⟨(show(2:Int)<=3 by decide),((h s vg D).1.2).flag (λF=>by rw[f];exact NF F)⟩⟩⟩)
theorem TU(y:Si w A n ws):YG XW 215 #[Ok A n c x] w (K6 w (λq:PM=> .tuple #[U2 (MX ws x).1 q,Ok A n c (MX ws x).2]) λq u=>oV (MX ws x).2.syn (MX ws x).1 q u):=by
 obtain⟨k,p⟩:∃z,z=Oi ws Lm x:=⟨_,rfl⟩
 obtain⟨j,r⟩:∃z,z=Oi ws ([]::Ng) k.2:=⟨_,rfl⟩
 obtain⟨t,v⟩:∃z,z=MB ws j.2:=⟨_,rfl⟩
 obtain⟨m,f⟩:∃z,z=cS ws t.2:=⟨_,rfl⟩
 have e:MX ws x=((⟨4,Ss,0,0,0,0,0,[],k.1,m.1,j.1,t.1⟩:Pn),m.2):=by rw[f,v,r,p];rfl
 rw[e];refine sL func215 rfl<|M<|Z (λg a h=>Xb) λvg=>Z (λg a h=>by have t:=B6 (c:=c) (c2:=4) (x:=x) (y.below a) h.2 Zd;rw[<-p]at t;exact t) λF=> ?_;refine Z (λg a h=>Yk) λG=>Z (λg a h=>by have t:=B6 (c:=c) (c2:=3) (x:=k.2) (y.below a) h.2 Zd;rw[<-r]at t;exact t) λuS=> ?_;refine Z (λg a h=>by have t:=S6 (c:=c) (x:=j.2) (y.below a);rw[<-v]at t;exact t) λo=> ?_;refine Z (λg a h=>by have t:=Iy (c:=c) (x:=t.2) (y.below a);rw[<-f]at t;exact t) λb=> ?_;refine ZV (.tuple #[U2 (⟨4,Ss,0,0,0,0,0,[],k.1,m.1,j.1,t.1⟩:Pn) (⟨none,0,b.1,b.2,o⟩:PM),Ok A n c m.2]) (λg a h=>⟨(⟨none,0,b.1,b.2,o⟩:PM),rfl,a,λs C B=>⟨s_,(h s C B).2,.inr ⟨(show(2:Int)<=4 by decide),((h s C B).1.2).flag (λD=>by rw[f];exact pP D)⟩⟩⟩)
theorem JR(r:Si w A n ws):YG XW 146 #[Ok A n c x] w (K6 w (λq:PM=> .tuple #[U2 (G4 ws x).1 q,Ok A n c (G4 ws x).2]) λq u=>oV (G4 ws x).2.syn (G4 ws x).1 q u):=by
 obtain⟨k,B⟩:∃z,z=Oi ws kx x:=⟨_,rfl⟩
 have e:G4 ws x=(if k.1=1 then((⟨1,(Sd ws k.2).1,0,0,0,0,0,[],0,Yf,0,Pc⟩,(Sd ws k.2).2):Pn×Oj)else if k.1=2 then M_ ws k.2 else if k.1=3 then MU ws k.2 else if k.1=4 then MX ws k.2 else(qC,k.2)):=by rw[B];rfl
 rw[e];have y:∀(b:YN) (o:Nat),Si b A n ws->Kr 9 #[E [],E [115,111,108,105,100],E [108,105,110,101,97,114],E [114,97,100,105,97,108],E [112,97,116,116,101,114,110]] o b->Zv 140 #[Ok A n c x,.slice (some ⟨o,0,none⟩) 5 5] b (.tuple #[I k.1,Ok A n c k.2]):=λb o vg D=>by
  have t:=B6 (c:=c) (x:=x) (l:=kx) (n2:=5) (c2:=5) vg (Lh (L:=kx) D rfl) Zd;rw[<-B]at t;exact t
 refine sL func146 rfl<|M<|sO (Kw 53 5 #[(0,E []),(1,E [115,111,108,105,100]),(2,E [108,105,110,101,97,114]),(3,E [114,97,100,105,97,108]),(4,E [112,97,116,116,101,114,110])]) (Kd 5) (Kr 9 #[E [],E [115,111,108,105,100],E [108,105,110,101,97,114],E [114,97,100,105,97,108],E [112,97,116,116,101,114,110]]) O (λb a h=>Kb O) λo=>M<|Z (λb a h=>y b o (r.below a) h.2) λu=> ?_
 by_cases f:k.1=1
 case pos=>
  rw[YS f];obtain⟨cc,C⟩:∃z,z=Sd ws k.2:=⟨_,rfl⟩
  rw[<-C];refine X (k.1==1) true (YQ.2 f)<|Z (λb a h=>by have t:=Cf (c:=c) (x:=k.2) (r.below a);rw[<-C]at t;exact t) λv=>ZV (.tuple #[U2 (⟨1,cc.1,0,0,0,0,0,[],0,Yf,0,Pc⟩:Pn) MV,Ok A n c cc.2]) (λb a h=>⟨MV,rfl,a,λg f j=>⟨s_,s_,.inl ⟨(show(1:Int)<2 by decide),rfl,rfl⟩⟩⟩)
 refine X (k.1==1) false (YR.2 f) ?_
 by_cases j:k.1=2
 case pos=>
  rw[V f,YS j];obtain⟨d,m⟩:∃z,z=M_ ws k.2:=⟨_,rfl⟩
  rw[<-m];refine X (k.1==2) true (YQ.2 j)<|Z (λb a h=>by have t:=aA (c:=c) (x:=k.2) (r.below a);rw[<-m]at t;exact t) λv=>ZV (.tuple #[U2 d.1 v,Ok A n c d.2]) (λb a h=>⟨v,rfl,a,λg f j=>(h g f j).2⟩)
 refine X (k.1==2) false (YR.2 j) ?_
 by_cases p:k.1=3
 case pos=>
  rw[V f,V j,YS p];obtain⟨d,m⟩:∃z,z=MU ws k.2:=⟨_,rfl⟩
  rw[<-m];refine X (k.1==3) true (YQ.2 p)<|Z (λb a h=>by have t:=bq (c:=c) (x:=k.2) (r.below a);rw[<-m]at t;exact t) λv=>ZV (.tuple #[U2 d.1 v,Ok A n c d.2]) (λb a h=>⟨v,rfl,a,λg f j=>(h g f j).2⟩)
 refine X (k.1==3) false (YR.2 p) ?_
 by_cases s:k.1=4
 case pos=>
  rw[V f,V j,V p,YS s];obtain⟨d,m⟩:∃z,z=MX ws k.2:=⟨_,rfl⟩
  rw[<-m];refine X (k.1==4) true (YQ.2 s)<|Z (λb a h=>by have t:=TU (c:=c) (x:=k.2) (r.below a);rw[<-m]at t;exact t) λv=>ZV (.tuple #[U2 d.1 v,Ok A n c d.2]) (λb a h=>⟨v,rfl,a,λg f j=>(h g f j).2⟩)
 rw[V f,V j,V p,V s];refine X (k.1==4) false (YR.2 s)<|ZV (.tuple #[U2 qC MV,Ok A n c k.2]) (λb a h=>⟨MV,rfl,a,λg f j=>⟨s_,s_,.inl ⟨(show(0:Int)<2 by decide),rfl,rfl⟩⟩⟩)
theorem LN{B:Bool}(a:(!x.syn&&((x.i:Int)==(n:Int)))=B):Zv 35 #[Ok A n c x] w (.bool B):=by
 refine sL func35 rfl<|H 4 ?_
 cases b:x.syn
 .rw[b]at a;exact ZT 6 (.bool (!x.syn)) (.bool true) (by rw[b];rfl)<|ZX (.bool ((x.i:Int)==(n:Int))) (by rw[<-a];rfl)
 .rw[b]at a;exact ZT 6 (.bool (!x.syn)) (.bool false) (by rw[b];rfl)<|ZX (.bool false) (by rw[<-a];rfl)
end
end
section
--ATNAMES
def P8(t:YH)(p:YB)(f:Nat):Sem Next:=Instr.fieldAt t (.pointer (some p)) f >>= λv=>pure (.value v)
theorem Li{P:YK}{t:YH}{p:YB}{f d:Nat}{w:YN}(h:U8 P t f 0 0=some ⟨.p 0 (0+d),none⟩):(P8 t p f).run P w= .ok (.value (.pointer (some (p.add d)))) w:=by
 unfold U8 at h;split at h
 .rename_i j c;split at h
  .rename_i b g;split at h
   .rename_i n e;injection h with h;injection h with h _;injection h with _ h;rw[BD,BD]at h;have a:(Instr.fieldAt t (.pointer (some p)) f).run P w= .ok (.pointer (some (p.add b.offset))) w:=by
     simp only[Instr.fieldAt,AI,run_underlying c,AH,g,Instr.sureAddr,BB,fieldPlace,M0 e,Nat.add_one_ne_zero,if_false]
    simp only[P8,AI,a,AH,BB,h]
   .cases h
  .cases h
 .cases h
section
variable{w:YN}{A A2:YY}{n c:Nat}{l:List (Int×Co)}{px:List Co}{P:Pn}{q:PM}{K:Nat}{B:Bool}{k x y:Int}{m:Im}{co:Co}{g:Nat}
theorem qk(a b:UInt8):decide ((a.toNat:Int)<=(b.toNat:Int))=decide (a<=b):=decide_eq_decide.2 ⟨λh=>BU.2 J,λh=>by have:=BU.1 h;omega⟩
theorem NW(a:Gx co=B):Zv 320 #[Rk co] w (.bool B):=by
 unfold Gx at a;refine sL func320 rfl<|H 6 ?_
 by_cases e:co.1<=co.2.2.2
 case neg=>
  refine ZT 8 (.bool (decide ((co.1.toNat:Int)<=(co.2.2.2.toNat:Int)))) Zf (by rw[qk,YV e])<|ZV Zf (λo b h=>⟨(),by rw[<-a,YV (λh=>e h.1)],b,λ_ _ _=>trivial⟩)
 refine sM 8 (.bool (decide ((co.1.toNat:Int)<=(co.2.2.2.toNat:Int)))) Zt O (by rw[qk,YU e])<|H 13 ?_
 by_cases f:co.2.1<=co.2.2.2
 case neg=>
  refine ZT 15 (.bool (decide ((co.2.1.toNat:Int)<=(co.2.2.2.toNat:Int)))) Zf (by rw[qk,YV f])<|ZV Zf (λo b h=>⟨(),by rw[<-a,YV (λh=>f h.2.1)],b,λ_ _ _=>trivial⟩)
 refine sM 15 (.bool (decide ((co.2.1.toNat:Int)<=(co.2.2.2.toNat:Int)))) Zt O (by rw[qk,YU f])<|H 19 ?_
 by_cases j:co.2.2.1<=co.2.2.2
 case neg=>
  refine ZT 21 (.bool (decide ((co.2.2.1.toNat:Int)<=(co.2.2.2.toNat:Int)))) Zf (by rw[qk,YV j])<|ZV Zf (λo b h=>⟨(),by rw[<-a,YV (λh=>j h.2.2)],b,λ_ _ _=>trivial⟩)
 exact ZT 21 (.bool (decide ((co.2.2.1.toNat:Int)<=(co.2.2.2.toNat:Int)))) Zt (by rw[qk,YU j])<|ZX Zt (by rw[<-a,YU ⟨e,f,j⟩])
theorem Gv{y:YZ}(e:Ay m=B)(ve:O3 w y.1 m.px.length 4 P7 m.px)(uR:m.px.length<=1000000000):Zv 279 #[Jo m y] w (.bool B):=by
 unfold Ay at e;refine sL func279 rfl<|M ?_
 cases s:Tr m.w m.h
 .rw[s,AB,AB]at e;exact Z (λo f h=>aY s) λu=>M<|ZI true<|ZX Zf (by rw[<-e])
 have b:=YP (show decide _=true from s);have r:=Eq (x:=m.w) (y:=m.h) ⟨b.1,b.2.1⟩ ⟨b.2.2.1,b.2.2.2.1⟩;rw[s,AC]at e;refine Z (λo f h=>aY s) λu=>M ?_
 by_cases C:(m.px.length:Int)=m.w*m.h
 case neg=>
  exact X (((m.px.length:Int) !=YA.wrap (m.w*m.h))) true (by rw[r];simpa using C)<|ZX Zf (by rw[<-e,YV C];rfl)
 rw[YU C,AC]at e;refine X (((m.px.length:Int) !=YA.wrap (m.w*m.h))) false (by rw[r];simpa using C)<|sU (ι:={q:Nat // q<=m.px.length/\(m.px.take q).all Gx=true}) 35 (λq=>⟨[(1,.p 1 0),(3,.v (I q.1))],[(1,[.v (I m.w),.v (I m.h),.v (.slice y.1 m.px.length y.2)])]⟩) (λq u=>True) (λq=>m.px.length-q.1) (⟨0,AE _,rfl⟩) O (λ_=>O) zt (λu h=>trivial) ?_
 rintro⟨k,F,a⟩ N;have F:k<=m.px.length:=F;have a:(m.px.take k).all Gx=true:=a
 by_cases t:k<m.px.length
 case neg=>
  have vf:m.px.length=k:=J
  rw[AN J]at a;exact M<|X (decide ((k:Int)<(m.px.length:Int))) false Zp<|sN O<|M<|ZX Zt (by rw[<-e,a])
 obtain⟨x,vg⟩:∃x,m.px[k]? =some x:=⟨_,AA J⟩
 obtain⟨ad,L,uS⟩:=ve.2 k x vg;refine M<|X (decide ((k:Int)<(m.px.length:Int))) true Zp<|ZA (Ki 38 (.slice y.1 m.px.length y.2) k) (.pointer (some (ad.add (k*4)))) (λo f h=>Bw L t)<|ZA (L4 214 (ad.add (k*4))) (.agg (P7 x).toArray) (λo f h=>UV λj v G=>La f (uS j v G)) ?_
 cases D:Gx x
 .exact Z (λo f h=>NW (co:=x) D) λu=>ZI true<|sN O<|M<|ZX Zf (by rw[<-e,GU vg D])
 .refine Z (λo f h=>NW (co:=x) D) λu=>ZI false<|sS 3 t J O<|sR (⟨k+1,by show k+1<=m.px.length;omega,by rw[En vg a,D]⟩) O zo zt (λu h=>trivial)
theorem Ey(o:Oq l=B)(ve:O3 w A n 5 Sv l)(uV:n<=1000000000):Zv 364 #[.slice A n c] w (.bool B):=by
 have uU:=ve.1;unfold Oq at o;obtain⟨C,N⟩:∃C,C=Gq 0 l:=⟨_,rfl⟩
 rw[<-N]at o;refine sL func364 rfl<|M<|sU (ι:={q:Nat×Int // q.1<=n/\Gq q.2 (l.drop q.1)=C/\0<=q.2/\(q.1=0->q.2=0)/\(0<q.1->∃y,l[q.1-1]? =some y/\y.1=q.2)}) 50 (λq=>⟨[(0,.v (.slice A n c)),(3,.v (I q.1.1))],[]⟩) (λq u=>True) (λq=>n-q.1.1) (⟨(0,0),AE _,N.symm,CC 0,λ_=>rfl,λh=>absurd h Zd⟩) O (λ_=>O) zt (λu h=>trivial) ?_
 rintro⟨⟨k,a⟩,uZ,b,D,p,s⟩ uT;have uZ:k<=n:=uZ;have b:Gq a (l.drop k)=C:=b;have D:0<=a:=D;have p:k=0->a=0:=p;have s:0<k->∃y,l[k-1]? =some y/\y.1=a:=s
 by_cases G:k<n
 case neg=>
  obtain rfl:k=n:=J
  rw[List.drop_eq_nil_of_le J]at b;have b:true=C:=b;rw[<-b,Bool.and_true]at o
  by_cases h1:1<=k
  case neg=>
   exact M<|X (decide ((k:Int)<(k:Int))) false Zs<|sN O<|H 4<|ZT 45 (.bool (decide ((k:Int)>=1))) Zf (by rw[YV J])<|ZX Zf (by rw[<-o,YV J])
  exact M<|X (decide ((k:Int)<(k:Int))) false Zs<|sN O<|H 4<|ZT 45 (.bool (decide ((k:Int)>=1))) Zt (by rw[YU J])<|ZX (.bool (decide ((k:Int)<=16))) (by rw[<-o];congr 2;exact decide_eq_decide.2 J)
 obtain⟨x,uS⟩:∃x,l[k]? =some x:=⟨_,AA J⟩
 obtain⟨ad,F,uW⟩:=ve.2 k x uS;have e:Gq a (l.drop k)=(decide (a<=x.1/\x.1<=65536)&&Gq x.1 (l.drop (k+1))):=by rw[Jb uS];rfl
 rw[e]at b;have r:∀f:YN,Below w.heap.size w f->(L4 3 ((ad.add (k*5)).add 0)).run XW f= .ok (.value (I x.1)) f:=λf j=>K9 O (La j (uW 0 _ rfl))
 refine M<|sQ (decide ((k:Int)<(n:Int))) true O Zp<|H 2<|sP 2 (Ki 37 (.slice A n c) k) (.pointer (some (ad.add (k*5)))) O (λf j h=>Xp F J)<|H 3<|sP 3 (P8 165 (ad.add (k*5)) 0) (.pointer (some ((ad.add (k*5)).add 0))) O (λf j h=>Li (d:=0) O)<|H 4<|sP 4 (L4 3 ((ad.add (k*5)).add 0)) (I x.1) O (λf j h=>r f j)<|H 7 ?_
 by_cases uR:x.1<0
 case pos=>
  rw[show decide (a<=x.1/\x.1<=65536)=false from YV J,AB]at b;exact ZT 16 (.bool (decide (x.1<0))) Zt (by rw[YU uR])<|ZI true<|sN O<|M<|ZX Zf (by rw[<-o,<-b,BI])
 refine sM 16 (.bool (decide (x.1<0))) Zf O (by rw[YV uR])<|H 9<|sP 9 (Ki 37 (.slice A n c) k) (.pointer (some (ad.add (k*5)))) O (λf j h=>Xp F J)<|H 10<|sP 10 (P8 165 (ad.add (k*5)) 0) (.pointer (some ((ad.add (k*5)).add 0))) O (λf j h=>Li (d:=0) O)<|H 11<|sP 11 (L4 3 ((ad.add (k*5)).add 0)) (I x.1) O (λf j h=>r f j)<|H 15 ?_
 by_cases Q:x.1>65536
 case pos=>
  rw[show decide (a<=x.1/\x.1<=65536)=false from YV J,AB]at b;exact ZT 24 (.bool (decide (x.1>65536))) Zt (by rw[YU Q])<|ZI true<|sN O<|M<|ZX Zf (by rw[<-o,<-b,BI])
 refine sM 24 (.bool (decide (x.1>65536))) Zf O (by rw[YV Q])<|H 18 ?_
 by_cases L:k=0
 case pos=>
  have T:=p L;rw[show decide (a<=x.1/\x.1<=65536)=true from YU J,AC]at b;refine ZT 27 (.bool (decide ((k:Int)>0))) Zf (by rw[YV J])<|ZI false<|sS 3 G J O<|sR (⟨(k+1,x.1),by show k+1<=n;omega,b,by show 0<=x.1;omega,λh=>absurd h (Nat.succ_ne_zero k),λ_=>⟨x,uS,rfl⟩⟩) O zo zt (λu h=>trivial)
 obtain⟨y,uX,W⟩:=s J;obtain⟨S,t,vf⟩:=ve.2 (k-1) y uX;rw[F]at t;cases t;have vg:∀f:YN,Below w.heap.size w f->(L4 3 ((ad.add ((k-1)*5)).add 0)).run XW f= .ok (.value (I y.1)) f:=λf j=>K9 O (La j (vf 0 _ rfl))
 refine sM 27 (.bool (decide ((k:Int)>0))) Zt O (by rw[YU J])<|H 20<|sP 20 (Ki 37 (.slice A n c) k) (.pointer (some (ad.add (k*5)))) O (λf j h=>Xp F J)<|H 21<|sP 21 (P8 165 (ad.add (k*5)) 0) (.pointer (some ((ad.add (k*5)).add 0))) O (λf j h=>Li (d:=0) O)<|H 22<|sP 22 (L4 3 ((ad.add (k*5)).add 0)) (I x.1) O (λf j h=>r f j)<|H 26<|sM 35 (I (YA.wrap ((k:Int)-1))) (I ((k-1:Nat):Int)) O (by rw[AK _ J];congr 1;omega)<|sP 26 (Ki 37 (.slice A n c) ((k-1:Nat):Int)) (.pointer (some (ad.add ((k-1)*5)))) O (λf j h=>Xp F J)<|H 27<|sP 27 (P8 165 (ad.add ((k-1)*5)) 0) (.pointer (some ((ad.add ((k-1)*5)).add 0))) O (λf j h=>Li (d:=0) O)<|H 28<|ZB 28 (L4 3 ((ad.add ((k-1)*5)).add 0)) (I y.1) (λf j h=>vg f j) ?_
 by_cases uY:x.1<y.1
 case pos=>
  rw[show decide (a<=x.1/\x.1<=65536)=false from YV J,AB]at b;exact M<|X (decide (x.1<y.1)) true (by simpa using uY)<|sN O<|M<|ZX Zf (by rw[<-o,<-b,BI])
 rw[show decide (a<=x.1/\x.1<=65536)=true from YU J,AC]at b;refine M<|X (decide (x.1<y.1)) false (by simpa using uY)<|sS 3 G J O<|sR (⟨(k+1,x.1),by show k+1<=n;omega,b,by show 0<=x.1;omega,λh=>absurd h (Nat.succ_ne_zero k),λ_=>⟨x,uS,rfl⟩⟩) O zo zt (λu h=>trivial)
def RN(P:Pn):Bool:=decide (P.im.w=0/\P.im.h=0/\P.im.px=[]/\P.samp=0)
def IU(P:Pn):Bool:=decide ((P.p0x=0/\P.p0y=0)/\(P.p1x=0/\P.p1y=0)/\P.rad=0/\P.stops=[])
theorem Ad(b:RN P=B):Zv 362 #[U2 P q] w (.bool B):=by
 unfold RN at b;refine sL func362 rfl<|H 5 ?_
 by_cases e:P.im.w=0
 case neg=>
  refine ZT 7 (.bool (P.im.w==0)) Zf (by rw[YR.2 e])<|ZV Zf (λp a h=>⟨(),by rw[<-b,YV (λh=>e h.1)],a,λ_ _ _=>trivial⟩)
 refine sM 7 (.bool (P.im.w==0)) Zt O (by rw[YQ.2 e])<|H 11 ?_
 by_cases f:P.im.h=0
 case neg=>
  refine ZT 13 (.bool (P.im.h==0)) Zf (by rw[YR.2 f])<|ZV Zf (λp a h=>⟨(),by rw[<-b,YV (λh=>f h.2.1)],a,λ_ _ _=>trivial⟩)
 refine sM 13 (.bool (P.im.h==0)) Zt O (by rw[YQ.2 f])<|H 18 ?_
 by_cases o:P.im.px=[]
 case neg=>
  refine ZT 20 (.bool ((P.im.px.length:Int)==0)) Zf (by rw[YR.2 (by rw[Ne,Int.ofNat_eq_zero,BR];exact o)])<|ZV Zf (λp a h=>⟨(),by rw[<-b,YV (λh=>o h.2.2.1)],a,λ_ _ _=>trivial⟩)
 refine sM 20 (.bool ((P.im.px.length:Int)==0)) Zt O (by rw[o];rfl)<|H 22 ?_
 by_cases j:P.samp=0
 case neg=>
  refine ZT 24 (.bool (P.samp==0)) Zf (by rw[YR.2 j])<|ZV Zf (λp a h=>⟨(),by rw[<-b,YV (λh=>j h.2.2.2)],a,λ_ _ _=>trivial⟩)
 exact ZT 24 (.bool (P.samp==0)) Zt (by rw[YQ.2 j])<|M<|ZX Zt (by rw[<-b,YU ⟨e,f,o,j⟩])
theorem GX(e:IU P=B):Zv 361 #[U2 P q] w (.bool B):=by
 unfold IU at e;refine sL func361 rfl<|H 3 ?_
 by_cases f:P.p0x=0/\P.p0y=0
 case neg=>
  refine ZA (Fi 36 (.tmp 4) (.tmp 5) (pt P.p0x P.p0y) (pt 0 0)) Zf (λb a h=>Ze (YV f))<|M<|ZV Zf (λb a h=>⟨(),by rw[<-e,YV (λh=>f h.1)],a,λ_ _ _=>trivial⟩)
 refine sV (Fi 36 (.tmp 4) (.tmp 5) (pt P.p0x P.p0y) (pt 0 0)) Zt O (λb a h=>Ze (YU f))<|H 8 ?_
 by_cases j:P.p1x=0/\P.p1y=0
 case neg=>
  refine ZA (Fi 36 (.tmp 9) (.tmp 10) (pt P.p1x P.p1y) (pt 0 0)) Zf (λb a h=>Ze (YV j))<|M<|ZV Zf (λb a h=>⟨(),by rw[<-e,YV (λh=>j h.2.1)],a,λ_ _ _=>trivial⟩)
 refine sV (Fi 36 (.tmp 9) (.tmp 10) (pt P.p1x P.p1y) (pt 0 0)) Zt O (λb a h=>Ze (YU j))<|H 16 ?_
 by_cases p:P.rad=0
 case neg=>
  refine ZT 18 (.bool (P.rad==0)) Zf (by rw[YR.2 p])<|ZV Zf (λb a h=>⟨(),by rw[<-e,YV (λh=>p h.2.2.1)],a,λ_ _ _=>trivial⟩)
 refine sM 18 (.bool (P.rad==0)) Zt O (by rw[YQ.2 p])<|H 21 ?_
 by_cases o:P.stops=[]
 case neg=>
  refine ZT 23 (.bool ((P.stops.length:Int)==0)) Zf (by rw[YR.2 (by rw[Ne,Int.ofNat_eq_zero,BR];exact o)])<|ZV Zf (λb a h=>⟨(),by rw[<-e,YV (λh=>o h.2.2.2)],a,λ_ _ _=>trivial⟩)
 exact ZT 23 (.bool ((P.stops.length:Int)==0)) Zt (by rw[o];rfl)<|ZX Zt (by rw[<-e,YU ⟨f,j,p,o⟩])
theorem cV{t:TV}{T:Xm}(b:SB T Pc=B)(a:Fv t T K w)(j:2<=K/\K<=10000000):Zv 363 #[t.val] w (.bool B):=sL func363 rfl<|M<|Z (λf e h=>Wc b (a.below e) (Fv.zero (w:=f)) j) λu=>ZW (.bool B)
theorem Xd(a:Um x=B):Zv 365 #[I x] w (.bool B):=by
 unfold Um at a;refine sL func365 rfl<|H 3 ?_
 by_cases b:1<=x
 case neg=>
  exact ZT 5 (.bool (decide (x>=1))) Zf (by rw[YV J])<|ZX Zf (by rw[<-a,YV J])
 exact ZT 5 (.bool (decide (x>=1))) Zt (by rw[YU J])<|ZX (.bool (decide (x<=3))) (by rw[<-a];congr 2;exact decide_eq_decide.2 J)
theorem PH{uX uV:Int}(a:Mx uX uV=B):Zv 341 #[pt uX uV] w (.bool B):=by subst a;exact WU
theorem nW{z:Int}(h:¬z=1):(z==2)=decide (z=1\/z=2):=by
 rw[CG,YQ,decide_eq_true_iff];exact⟨.inr,λk=>k.resolve_left h⟩
def i8(P:Pn):Bool:=
 if P.kind=1 then IU P&&(RN P&&(decide (P.spread=0)&&SB P.T Pc))
 else if P.kind=2 then RN P&&(decide (P.co=Ss)&&(decide (P.rad=0)&&(Mx P.p0x P.p0y&&(Mx P.p1x P.p1y&&(Oq P.stops&&Um P.spread)))))
 else if P.kind=3 then RN P&&(decide (P.co=Ss)&&(decide (P.p1x=0/\P.p1y=0)&&(Mx P.p0x P.p0y&&(decide (1<=P.rad)&&(decide (P.rad<=1048576)&&(Oq P.stops&&Um P.spread))))))
 else if P.kind=4 then IU P&&(decide (P.co=Ss)&&(Ay P.im&&((decide (P.spread=0)||Um P.spread)&&decide (P.samp=1\/P.samp=2))))
 else false
theorem nH(a:i8 P=B)(vg:Hs P q K w)(uW:2<=K/\K<=10000000)(S:P.im.px.length<=1000000000)(D:P.stops.length<=1000000000):Zv 357 #[U2 P q] w (.bool B):=by
 unfold i8 at a;refine sL func357 rfl<|M ?_
 by_cases F:P.kind=1
 case pos=>
  rw[YS F]at a;refine X (P.kind==1) true (YQ.2 F) ?_;cases o:IU P
  .rw[o,AB]at a;exact Z (λe b h=>GX (q:=q) o) λf=>M<|ZX Zf (by rw[<-a])
  rw[o,AC]at a;refine Z (λe b h=>GX (q:=q) o) λf=> ?_
  cases c2:RN P
  .rw[c2,AB]at a;exact Z (λe b h=>Ad (q:=q) c2) λvf=>M<|ZX Zf (by rw[<-a])
  rw[c2,AC]at a;refine ZD 12 (λe b h=>Ad (q:=q) c2) λvf=> ?_
  by_cases j:P.spread=0
  case neg=>
   rw[YV j,AB]at a;exact ZT 18 (.bool (P.spread==0)) Zf (by rw[YR.2 j])<|ZX Zf (by rw[<-a])
  rw[YU j,AC]at a;refine ZT 18 (.bool (P.spread==0)) Zt (by rw[YQ.2 j]) ?_;cases s:SB P.T Pc
  .rw[s]at a;exact Z (λe b h=>cV s (vg.tr.below b) uW) λp=>M<|ZX Zf (by rw[<-a])
  rw[s]at a;exact Z (λe b h=>cV s (vg.tr.below b) uW) λp=>M<|ZX Zt (by rw[<-a])
 refine X (P.kind==1) false (YR.2 F) ?_
 by_cases G:P.kind=2
 case pos=>
  rw[V F,YS G]at a;refine X (P.kind==2) true (YQ.2 G) ?_;cases o:RN P
  .rw[o,AB]at a;exact Z (λe b h=>Ad (q:=q) o) λf=>M<|ZX Zf (by rw[<-a])
  rw[o,AC]at a;refine ZD 6 (λe b h=>Ad (q:=q) o) λf=> ?_
  by_cases c2:P.co=Ss
  case neg=>
   rw[YV c2,AB]at a;exact ZA (Fi 24 (.tmp 29) (.tmp 30) (Rk P.co) (Rk Ss)) Zf (λe b h=>Qb (YV c2))<|M<|ZX Zf (by rw[<-a])
  rw[YU c2,AC]at a;refine sV (Fi 24 (.tmp 29) (.tmp 30) (Rk P.co) (Rk Ss)) Zt O (λe b h=>Qb (YU c2))<|H 14 ?_
  by_cases j:P.rad=0
  case neg=>
   rw[YV j,AB]at a;exact ZT 38 (.bool (P.rad==0)) Zf (by rw[YR.2 j])<|ZX Zf (by rw[<-a])
  rw[YU j,AC]at a;refine ZT 38 (.bool (P.rad==0)) Zt (by rw[YQ.2 j]) ?_;cases s:Mx P.p0x P.p0y
  .rw[s,AB]at a;exact Z (λe b h=>PH s) λp=>M<|ZX Zf (by rw[<-a])
  rw[s,AC]at a;refine Z (λe b h=>PH s) λp=> ?_
  cases r:Mx P.p1x P.p1y
  .rw[r,AB]at a;exact Z (λe b h=>PH r) λuS=>M<|ZX Zf (by rw[<-a])
  rw[r,AC]at a;refine Z (λe b h=>PH r) λuS=> ?_
  cases v:Oq P.stops
  .rw[v,AB]at a;exact Z (λe b h=>Ey (c:=q.sc) v (vg.st.below b) D) λve=>M<|ZX Zf (by rw[<-a])
  rw[v,AC]at a;refine Z (λe b h=>Ey (c:=q.sc) v (vg.st.below b) D) λve=> ?_
  cases C:Um P.spread
  .rw[C]at a;exact Z (λe b h=>Xd C) λt=>M<|ZX Zf (by rw[<-a])
  rw[C]at a;exact Z (λe b h=>Xd C) λt=>M<|ZX Zt (by rw[<-a])
 refine X (P.kind==2) false (YR.2 G) ?_
 by_cases uR:P.kind=3
 case pos=>
  rw[V F,V G,YS uR]at a;refine X (P.kind==3) true (YQ.2 uR) ?_;cases o:RN P
  .rw[o,AB]at a;exact Z (λe b h=>Ad (q:=q) o) λf=>M<|ZX Zf (by rw[<-a])
  rw[o,AC]at a;refine ZD 6 (λe b h=>Ad (q:=q) o) λf=> ?_
  by_cases c2:P.co=Ss
  case neg=>
   rw[YV c2,AB]at a;exact ZA (Fi 24 (.tmp 64) (.tmp 65) (Rk P.co) (Rk Ss)) Zf (λe b h=>Qb (YV c2))<|M<|ZX Zf (by rw[<-a])
  rw[YU c2,AC]at a;refine sV (Fi 24 (.tmp 64) (.tmp 65) (Rk P.co) (Rk Ss)) Zt O (λe b h=>Qb (YU c2))<|H 12 ?_
  by_cases j:P.p1x=0/\P.p1y=0
  case neg=>
   rw[YV j,AB]at a;exact ZA (Fi 36 (.tmp 70) (.tmp 71) (pt P.p1x P.p1y) (pt 0 0)) Zf (λe b h=>Ze (YV j))<|M<|ZX Zf (by rw[<-a])
  rw[YU j,AC]at a;refine ZA (Fi 36 (.tmp 70) (.tmp 71) (pt P.p1x P.p1y) (pt 0 0)) Zt (λe b h=>Ze (YU j)) ?_;cases s:Mx P.p0x P.p0y
  .rw[s,AB]at a;exact Z (λe b h=>PH s) λp=>M<|ZX Zf (by rw[<-a])
  rw[s,AC]at a;refine ZD 25 (λe b h=>PH s) λp=> ?_
  by_cases r:1<=P.rad
  case neg=>
   rw[YV r,AB]at a;exact ZT 84 (.bool (decide (P.rad>=1))) Zf (by rw[YV r])<|ZX Zf (by rw[<-a])
  rw[YU r,AC]at a;refine sM 84 (.bool (decide (P.rad>=1))) Zt O (by rw[YU r])<|H 30 ?_
  by_cases v:P.rad<=1048576
  case neg=>
   rw[YV v,AB]at a;exact ZT 89 (.bool (decide (P.rad<=1048576))) Zf (by rw[YV v])<|ZX Zf (by rw[<-a])
  rw[YU v,AC]at a;refine ZT 89 (.bool (decide (P.rad<=1048576))) Zt (by rw[YU v]) ?_;cases C:Oq P.stops
  .rw[C,AB]at a;exact Z (λe b h=>Ey (c:=q.sc) C (vg.st.below b) D) λt=>M<|ZX Zf (by rw[<-a])
  rw[C,AC]at a;refine Z (λe b h=>Ey (c:=q.sc) C (vg.st.below b) D) λt=> ?_
  cases uY:Um P.spread
  .rw[uY]at a;exact Z (λe b h=>Xd uY) λN=>M<|ZX Zf (by rw[<-a])
  rw[uY]at a;exact Z (λe b h=>Xd uY) λN=>M<|ZX Zt (by rw[<-a])
 refine X (P.kind==3) false (YR.2 uR) ?_
 by_cases Q:P.kind=4
 case pos=>
  rw[V F,V G,V uR,YS Q]at a;refine X (P.kind==4) true (YQ.2 Q) ?_;cases o:IU P
  .rw[o,AB]at a;exact Z (λe b h=>GX (q:=q) o) λf=>M<|ZX Zf (by rw[<-a])
  rw[o,AC]at a;refine ZD 6 (λe b h=>GX (q:=q) o) λf=> ?_
  by_cases c2:P.co=Ss
  case neg=>
   rw[YV c2,AB]at a;exact ZA (Fi 24 (.tmp 105) (.tmp 106) (Rk P.co) (Rk Ss)) Zf (λe b h=>Qb (YV c2))<|M<|ZX Zf (by rw[<-a])
  rw[YU c2,AC]at a;refine ZA (Fi 24 (.tmp 105) (.tmp 106) (Rk P.co) (Rk Ss)) Zt (λe b h=>Qb (YU c2)) ?_;cases j:Ay P.im
  .rw[j,AB]at a;exact Z (λe b h=>Gv (y:=(q.xA,q.xc)) j (vg.px.below b) S) λuZ=>M<|ZX Zf (by rw[<-a])
  rw[j,AC]at a;refine ZD 18 (λe b h=>Gv (y:=(q.xA,q.xc)) j (vg.px.below b) S) λuZ=> ?_
  by_cases L:P.spread=0
  case pos=>
   rw[YU L,Bool.true_or,AC]at a;refine sM 118 (.bool (P.spread==0)) Zt O (by rw[YQ.2 L])<|H 28 ?_
   by_cases u:P.samp=1
   case pos=>
    rw[YU (.inl u)]at a;exact ZT 128 (.bool (P.samp==1)) Zt (by rw[YQ.2 u])<|ZX Zt (by rw[<-a])
   exact ZT 128 (.bool (P.samp==1)) Zf (by rw[YR.2 u])<|ZX (.bool (P.samp==2)) (by rw[<-a,nW u])
  rw[YV L,CJ]at a;cases r:Um P.spread
  .rw[r,AB]at a;exact ZT 118 (.bool (P.spread==0)) Zf (by rw[YR.2 L])<|Z (λe b h=>Xd r) λuU=>M<|ZX Zf (by rw[<-a])
  rw[r,AC]at a;refine ZT 118 (.bool (P.spread==0)) Zf (by rw[YR.2 L])<|ZD 28 (λe b h=>Xd r) λuU=> ?_
  by_cases u:P.samp=1
  case pos=>
   rw[YU (.inl u)]at a;exact ZT 128 (.bool (P.samp==1)) Zt (by rw[YQ.2 u])<|ZX Zt (by rw[<-a])
  exact ZT 128 (.bool (P.samp==1)) Zf (by rw[YR.2 u])<|ZX (.bool (P.samp==2)) (by rw[<-a,nW u])
 rw[V F,V G,V uR,V Q]at a;exact X (P.kind==4) false (YR.2 Q)<|ZX Zf (by rw[<-a])
end
end
section
--ATNAMES
theorem fJ(P:Pn):Ld P=(P.T.ok&&(i8 P&&(decide (P.kind=1)||decide (P.T.det≠0)))):=by
 unfold Ld Wz i8 IU RN Ay;rw[CG]
 by_cases e:P.kind=1
 .simp[e,Vi,Gi,Ss]
  grind
 by_cases c:P.kind=2
 .simp[c,Vi,Gi,Ss]
  grind
 by_cases a:P.kind=3
 .simp[a,Vi,Gi,Ss]
  grind
 by_cases b:P.kind=4
 .simp[b,Vi,Gi,Ss,Yf]
  grind
 simp[e,c,a,b]
section
variable{w:YN}{A A2:YY}{n c:Nat}{l:List (Int×Co)}{px:List Co}{P:Pn}{q:PM}{K:Nat}{B:Bool}{x y:Int}{m:Im}{co:Co}{t:TV}{T:Xm}
theorem OC(a:Ld P=B)(g:Hs P q K w)(s:2<=K/\K<=1000)(p:P.im.px.length<=1000000000)(f:P.stops.length<=1000000000):Zv 350 #[U2 P q] w (.bool B):=by
 rw[fJ]at a;refine sL func350 rfl<|M ?_
 cases j:P.T.ok
 .rw[j,AB]at a;exact Z (λe b h=>W7 j (g.tr.below b) J) λu=>ZI true<|ZX Zf (by rw[<-a])
 rw[j,AC]at a;refine Z (λe b h=>W7 j (g.tr.below b) J) λu=> ?_
 cases k:i8 P
 .rw[k,AB]at a;exact Z (λe b h=>nH k (g.below b) J p f) λr=>ZI true<|ZX Zf (by rw[<-a])
 rw[k,AC]at a;refine Z (λe b h=>nH k (g.below b) J p f) λr=>sW false O<|H 4 ?_
 by_cases o:P.kind=1
 case pos=>
  rw[YU o,Bool.true_or]at a;exact ZT 15 (.bool (P.kind==1)) Zt (by rw[YQ.2 o])<|ZX Zt (by rw[<-a])
 rw[YV o,CJ]at a;exact ZT 15 (.bool (P.kind==1)) Zf (by rw[YR.2 o])<|Z (λe b h=>b9 (g.tr.below b) J) λd=>Z (λe b h=>Dj 0 e Zd Zd) λz=>Z (λe b h=>dU h.1.2.q h.2.q J) λv=>ZX (.bool (Ub P.T.det ((0:Int):Rat) !=0)) (by rw[Z1,<-a])
theorem Om(s:Fv t T K w)(k:2<=K/\K<=1000):YG XW 83 #[t.val] w (K6 w (λy:Nat=> .slice (some ⟨y,0,none⟩) 6 6) λy u=>Km u (some ⟨y,0,none⟩) 6 (Mn T)):=by
 refine sL func83 rfl<|M<|Z (λj g h=>KZ (s.below g) J) λn=>Z (λj g h=>Uz (h.2.a.q) k) λG=>Z (λj g h=>Uz (h.1.2.b.q) k) λvg=>Z (λj g h=>Uz (h.1.1.2.c.q) k) λF=>Z (λj g h=>Uz (h.1.1.1.2.d.q) k) λuS=>Z (λj g h=>Uz (h.1.1.1.1.2.e.q) k) λC=>ZD 18 (λj g h=>Uz (h.1.1.1.1.1.2.f.q) k) λD=>sO (Kw 53 6 #[(0,E (Kz T.a)),(1,E (Kz T.b)),(2,E (Kz T.c)),(3,E (Kz T.d)),(4,E (Kz T.e)),(5,E (Kz T.f))]) (Kd 6) (Kr 9 #[E (Kz T.a),E (Kz T.b),E (Kz T.c),E (Kz T.d),E (Kz T.e),E (Kz T.f)]) O (λj g h=>Kb O) λp=>M<|ZV (.slice (some ⟨p,0,none⟩) 6 6) (λj g h=>⟨p,rfl,g,λo v r=>Lh (L:=Mn T) (h o v r).2 rfl⟩)
theorem Za(g: -9223372036854775808<=x/\x<=9223372036854775807)(j: -9223372036854775808<=y/\y<=9223372036854775807):YG XW 158 #[pt x y] w (K6 w (λy:Nat=> .slice (some ⟨y,0,none⟩) 2 2) λz u=>Km u (some ⟨z,0,none⟩) 2 [K8 x,K8 y]):=by
 refine sL func158 rfl<|M<|Z (λe a h=>Lv (n:=x) g.1 g.2) λr=>ZD 6 (λe a h=>Lv (n:=y) j.1 j.2) λp=>sO (Kw 53 2 #[(0,E (K8 x)),(1,E (K8 y))]) (Kd 2) (Kr 9 #[E (K8 x),E (K8 y)]) O (λe a h=>Kb O) λf=>M<|ZV (.slice (some ⟨f,0,none⟩) 2 2) (λe a h=>⟨f,rfl,a,λb o k=>Lh (L:=[K8 x,K8 y]) (h b o k).2 rfl⟩)
theorem RG(F:O3 w A n 4 P7 px)(uU:n<=20000):Zv 222 #[.slice A n c] w (E (GG px)):=by
 have D:=F.1;refine sL func222 rfl<|M<|sO (Kw 108 0 #[]) (Kd 0) (λg u=>Y u w.heap.size 5 1 (some ⟨g,0,none⟩) 0 0 []) O (λe a h=>U5 O a.size) λN=>M<|sU (ι:={q:Nat×(YZ) // q.1<=n}) 37 (λq=>⟨[(0,.v (.slice A n c)),(3,.v (.slice q.1.2.1 (4*q.1.1) q.1.2.2)),(4,.v (I q.1.1))],[]⟩) (λq u=>Y u w.heap.size 5 1 q.1.2.1 (4*q.1.1) q.1.2.2 (bv ((px.take q.1.1).flatMap Z0))) (λq=>n-q.1.1) (⟨(0,(some ⟨N,0,none⟩,0)),AE _⟩) O (λ_=>O) zt (λu h=>h.2) ?_
 rintro⟨⟨k,y⟩,uS⟩ uX;have uS:k<=n:=uS;obtain⟨p,j⟩:∃p,p=(px.take k).flatMap Z0:=⟨_,rfl⟩
 by_cases f:k<n
 case neg=>
  obtain rfl:k=n:=J
  have o:px.take k=px:=AN J;exact M<|X (decide ((k:Int)<(k:Int))) false Zs<|sN O<|M<|Z (λe a h=>PY (A:=y.1) (n:=4*k) (c:=y.2) (bs:=px.flatMap Z0) (by have Q:4*k=(px.flatMap Z0).length:=(by rw[Ff,D]);have vg:Y e w.heap.size 5 1 y.1 (4*k) y.2 (bv (px.flatMap Z0)):=(by rw[<-o];exact h);rw[Q]at vg ⊢;exact Y.bytes vg) J) λu=>ZW (E (GG px))
 obtain⟨x,ve⟩:∃x,px[k]? =some x:=⟨_,AA J⟩
 obtain⟨ad,C,s⟩:=F.2 k x ve;have r:(px.take (k+1)).flatMap Z0=p++Z0 x:=by rw[BA,ve,j];simp
 refine M<|sQ (decide ((k:Int)<(n:Int))) true O Zp<|H 3<|sP 3 (Ki 38 (.slice A n c) k) (.pointer (some (ad.add (k*4)))) O (λe a h=>Bw C f)<|H 4<|sP 4 (P8 214 (ad.add (k*4)) 0) (.pointer (some ((ad.add (k*4)).add 0))) O (λe a h=>Li (d:=0) O)<|H 5<|sP 5 (L4 5 ((ad.add (k*4)).add 0)) (.int .u8 (x.1.toNat:Int)) O (λe a h=>K9 O (La a (s 0 _ rfl)))<|H 8<|sP 8 (Ki 38 (.slice A n c) k) (.pointer (some (ad.add (k*4)))) O (λe a h=>Bw C f)<|H 9<|sP 9 (P8 214 (ad.add (k*4)) 1) (.pointer (some ((ad.add (k*4)).add 1))) O (λe a h=>Li (d:=1) O)<|H 10<|sP 10 (L4 5 ((ad.add (k*4)).add 1)) (.int .u8 (x.2.1.toNat:Int)) O (λe a h=>K9 O (La a (s 1 _ rfl)))<|H 13<|sP 13 (Ki 38 (.slice A n c) k) (.pointer (some (ad.add (k*4)))) O (λe a h=>Bw C f)<|H 14<|sP 14 (P8 214 (ad.add (k*4)) 2) (.pointer (some ((ad.add (k*4)).add 2))) O (λe a h=>Li (d:=2) O)<|H 15<|sP 15 (L4 5 ((ad.add (k*4)).add 2)) (.int .u8 (x.2.2.1.toNat:Int)) O (λe a h=>K9 O (La a (s 2 _ rfl)))<|H 18<|sP 18 (Ki 38 (.slice A n c) k) (.pointer (some (ad.add (k*4)))) O (λe a h=>Bw C f)<|H 19<|sP 19 (P8 214 (ad.add (k*4)) 3) (.pointer (some ((ad.add (k*4)).add 3))) O (λe a h=>Li (d:=3) O)<|H 20<|sP 20 (L4 5 ((ad.add (k*4)).add 3)) (.int .u8 (x.2.2.2.toNat:Int)) O (λe a h=>K9 O (La a (s 3 _ rfl)))<|H 21<|sO (Kw 108 4 #[(0,.int .u8 (x.1.toNat:Int)),(1,.int .u8 (x.2.1.toNat:Int)),(2,.int .u8 (x.2.2.1.toNat:Int)),(3,.int .u8 (x.2.2.2.toNat:Int))]) (Kd 4) (Kr 5 (P7 x).toArray) O (λe a h=>Kb O) λuR=>H 22<|tl (L:=bl y.1) (val:=λ(z:YZ)=> .slice z.1 (4*k+4) z.2) (Φ':=λ(z:YZ) v=>Y v w.heap.size 5 1 z.1 (4*k+4) z.2 (bv (p++Z0 x))) (G:=λ(z:YZ) v=>Y v w.heap.size 5 1 z.1 (4*k+4) z.2 (bv (p++Z0 x))) (Ln 108 108 (.slice y.1 (4*k) y.2) (Kd 4 uR)) (λe a h=>gz (show Y e w.heap.size 5 1 y.1 (4*k) y.2 (bv p)from(by rw[j];exact h.1)) a.size h.2 J) (λe h=>λb vf=>⟨((show Y e w.heap.size 5 1 y.1 (4*k) y.2 (bv p)from(by rw[j];exact h.1)).lt b vf).1,((show Y e w.heap.size 5 1 y.1 (4*k) y.2 (bv p)from(by rw[j];exact h.1)).blk b vf).2⟩) (λz uW W uY S h uZ=>uZ) O O λz=>M<|sS 4 f J O<|sR (⟨(k+1,z),by show k+1<=n;omega⟩) O zo zt (λu h=>(by show Y u w.heap.size 5 1 z.1 (4*(k+1)) z.2 (bv ((px.take (k+1)).flatMap Z0));rw[r,show 4*(k+1)=4*k+4 by omega];exact h))
theorem G8{y:YZ}(p:O3 w y.1 m.px.length 4 P7 m.px)(r:m.px.length<=20000)(g: -9223372036854775808<=m.w/\m.w<=9223372036854775807)(j: -9223372036854775808<=m.h/\m.h<=9223372036854775807):YG XW 154 #[Jo m y] w (K6 w (λy:Nat=> .slice (some ⟨y,0,none⟩) 3 3) λy u=>Km u (some ⟨y,0,none⟩) 3 (E5 m)):=by
 refine sL func154 rfl<|M<|Z (λb a h=>Lv (n:=m.w) g.1 g.2) λv=>Z (λb a h=>Lv (n:=m.h) j.1 j.2) λC=>ZD 9 (λb a h=>RG (c:=y.2) (p.below a) r) λs=>sO (Kw 53 3 #[(0,E (K8 m.w)),(1,E (K8 m.h)),(2,E (GG m.px))]) (Kd 3) (Kr 9 #[E (K8 m.w),E (K8 m.h),E (GG m.px)]) O (λb a h=>Kb O) λf=>M<|ZV (.slice (some ⟨f,0,none⟩) 3 3) (λb a h=>⟨f,rfl,a,λe o k=>Lh (L:=E5 m) (h e o k).2 rfl⟩)
theorem Id(F:O3 w A n 5 Sv l)(hn:n<=1000)(uW:∀x∈l,0<=x.1/\x.1<=65536):YG XW 160 #[.slice A n c] w (K6 w (λy:YZ=> .slice y.1 (2*n) y.2) λy u=>Km u y.1 (2*n) (Yj l)):=by
 have uU:=F.1;refine sL func160 rfl<|M<|sO (Kw 53 0 #[]) (Kd 0) (λg u=>Y u w.heap.size 9 1 (some ⟨g,0,none⟩) 0 0 []) O (λe a h=>U5 O a.size) λQ=>M<|sU (ι:={q:Nat×(YZ) // q.1<=n}) 28 (λq=>⟨[(0,.v (.slice A n c)),(3,.v (.slice q.1.2.1 (2*q.1.1) q.1.2.2)),(4,.v (I q.1.1))],[]⟩) (λq u=>Y u w.heap.size 9 1 q.1.2.1 (2*q.1.1) q.1.2.2 (sv (Yj (l.take q.1.1)))) (λq=>n-q.1.1) (⟨(0,(some ⟨Q,0,none⟩,0)),AE _⟩) O (λ_=>O) zt (λu h=>h.2) ?_
 rintro⟨⟨k,y⟩,uS⟩ gg;have uS:k<=n:=uS;obtain⟨p,f⟩:∃p,p=Yj (l.take k):=⟨_,rfl⟩
 by_cases s:k<n
 case neg=>
  obtain rfl:k=n:=J
  have o:l.take k=l:=AN J;refine M<|X (decide ((k:Int)<(k:Int))) false Zs<|sN O<|M<|ZV (.slice y.1 (2*k) y.2) (λe a h=>⟨y,rfl,a,λC uZ N=>by have t:=(show Y C w.heap.size 9 1 y.1 (2*k) y.2 (sv (Yj (l.take k)))from h C uZ N).strs;rw[o]at t;exact t⟩)
 obtain⟨x,D⟩:∃x,l[k]? =some x:=⟨_,AA J⟩
 obtain⟨ad,ve,vg⟩:=F.2 k x D;have S:=uW x (AQ D);have r:Yj (l.take (k+1))=p++ [K8 x.1,P9 x.2]:=by rw[KP D,f]
 refine M<|sQ (decide ((k:Int)<(n:Int))) true O Zp<|H 3<|sP 3 (Ki 37 (.slice A n c) k) (.pointer (some (ad.add (k*5)))) O (λe a h=>Xp ve s)<|H 4<|sP 4 (P8 165 (ad.add (k*5)) 0) (.pointer (some ((ad.add (k*5)).add 0))) O (λe a h=>Li (d:=0) O)<|H 5<|sP 5 (L4 3 ((ad.add (k*5)).add 0)) (I x.1) O (λe a h=>K9 O (La a (vg 0 _ rfl)))<|H 9<|sP 9 (Ki 37 (.slice A n c) k) (.pointer (some (ad.add (k*5)))) O (λe a h=>Xp ve s)<|H 10<|sP 10 (P8 165 (ad.add (k*5)) 1) (.pointer (some ((ad.add (k*5)).add 1))) O (λe a h=>Li (d:=1) O)<|H 11<|sP 11 (L4 24 ((ad.add (k*5)).add 1)) (Rk x.2) O (λe a h=>Rn (vs:=P7 x.2) O O (λj v uY=>by rw[Y7];have q:=La a (vg (1+j) v (by rw[show Sv x=I x.1::P7 x.2 from rfl,Nat.add_comm,List.getElem?_cons_succ];exact uY));exact q)) ?_
 refine H 12<|ZD 12 (λe a h=>Lv (n:=x.1) J J) λuT=>ZD 13 (λe a h=>Wa (k:=x.2)) λv2=>sO (Kw 53 2 #[(0,E (K8 x.1)),(1,E (P9 x.2))]) (Kd 2) (Kr 9 #[E (K8 x.1),E (P9 x.2)]) O (λe a h=>Kb O) λuR=>H 14<|tl (L:=bl y.1) (val:=λ(z:YZ)=> .slice z.1 (2*k+2) z.2) (Φ':=λ(z:YZ) v=>Y v w.heap.size 9 1 z.1 (2*k+2) z.2 (sv (p++ [K8 x.1,P9 x.2]))) (G:=λ(z:YZ) v=>Y v w.heap.size 9 1 z.1 (2*k+2) z.2 (sv (p++ [K8 x.1,P9 x.2]))) (Ln 53 53 (.slice y.1 (2*k) y.2) (Kd 2 uR)) (λe a h=>LC (show Y e w.heap.size 9 1 y.1 (2*k) y.2 (sv p)from(by rw[f];exact h.1.1.1)) a.size h.2 J) (λe h=>λb vf=>⟨((show Y e w.heap.size 9 1 y.1 (2*k) y.2 (sv p)from(by rw[f];exact h.1.1.1)).lt b vf).1,((show Y e w.heap.size 9 1 y.1 (2*k) y.2 (sv p)from(by rw[f];exact h.1.1.1)).blk b vf).2⟩) (λz wa wb uX uV h W=>W) O O λz=>M<|sS 4 s J O<|sR (⟨(k+1,z),by show k+1<=n;omega⟩) O zo zt (λu h=>(by show Y u w.heap.size 9 1 z.1 (2*(k+1)) z.2 (sv (Yj (l.take (k+1))));rw[r,show 2*(k+1)=2*k+2 by omega];exact h))
end
end
section
--ATNAMES
section
variable{w:YN}{P:Pn}{q:PM}{K:Nat}{l:R}
theorem Xc{u:YN}{y:Nat}{z:Int}(h:Km u (some ⟨y,0,none⟩) 4 Lm)(c:0<=z/\z<0+4):(Ki 53 (.slice (some ⟨y,0,none⟩) 4 4) z).run XW u= .ok (.value (.pointer (some ((⟨y,0,none⟩:YB).add z.toNat)))) u/\u.cell? ((⟨y,0,none⟩:YB).add z.toNat)=some (E (Ks Lm 0 z)):=by
 obtain⟨k,rfl⟩:∃k:Nat,z=(k:Int):=⟨z.toNat,by omega⟩
 obtain⟨s,a⟩:∃s,Lm[k]? =some s:=⟨_,AA (show k<Lm.length by show k<4;omega)⟩
 refine⟨Kg (k:=k) (elem:=9) O O J,?_⟩;obtain⟨ad,q1,b⟩:=h.2 k s a;cases q1;have e:Ks Lm 0 (k:Int)=s:=by unfold Ks;rw[show((k:Int)-0).toNat=k by omega,a];rfl
 rw[e];exact b
theorem cm{u:YN}{y:Nat}{z:Int}(h:Km u (some ⟨y,0,none⟩) 3 ([]::Ng))(b:z=1\/z=2):(Ki 53 (.slice (some ⟨y,0,none⟩) 3 3) z).run XW u= .ok (.value (.pointer (some ((⟨y,0,none⟩:YB).add z.toNat)))) u/\u.cell? ((⟨y,0,none⟩:YB).add z.toNat)=some (E (Ks Ng 1 z)):=by
 rcases b with rfl|rfl
 .refine⟨Kg (k:=1) (elem:=9) O O Zd,?_⟩;obtain⟨ad,q1,a⟩:=h.2 1 _ rfl;cases q1;exact a
 .refine⟨Kg (k:=2) (elem:=9) O O Zd,?_⟩;obtain⟨ad,q1,a⟩:=h.2 2 _ rfl;cases q1;exact a
theorem G6(hp:Hs P q K w)(hv:Ld P=true)(hK:2<=K/\K<=1000)(hl:P.im.px.length<=20000):YG XW 86 #[U2 P q] w (K6 w (λy:YZ=> .slice y.1 (Pz P).length y.2) λy u=>Km u y.1 (Pz P).length (Pz P)):=by
 unfold Ld at hv;rw[AD,AD]at hv;obtain⟨hok,hz,uV⟩:=hv;unfold Wz at uV;refine sL func86 rfl<|M<|sO (Kw 53 0 #[]) (Kd 0) (λg u=>Y u w.heap.size 9 1 (some ⟨g,0,none⟩) 0 0 []) O (λa j h=>U5 O j.size) λC=>M ?_
 by_cases ve:P.kind=1
 case pos=>
  have e:Pz P=[Nn,P9 P.co]:=by unfold Pz;rw[YS ve]
  rw[e];refine X (P.kind==1) true (YQ.2 ve)<|ZD 3 (λa j h=>Wa (k:=P.co)) λu=>sO (Kw 53 2 #[(0,E Nn),(1,E (P9 P.co))]) (Kd 2) (Kr 9 #[E Nn,E (P9 P.co)]) O (λa j h=>Kb O) λgb=>M<|ZV (.slice (some ⟨gb,0,none⟩) 2 2) (λa j h=>⟨(some ⟨gb,0,none⟩,2),rfl,j,λuS ve uZ=>Lh (L:=[Nn,P9 P.co]) (h uS ve uZ).2 rfl⟩)
 refine X (P.kind==1) false (YR.2 ve) ?_;obtain⟨m,uU⟩:∃x,x=Ks Lm 0 P.spread:=⟨_,rfl⟩
 by_cases uZ:P.kind=2
 case pos=>
  rw[V ve,YS uZ,AD,AD,AD]at uV;obtain⟨hp0,hp1,W,_⟩:=uV;have hr0:=Qy hp0;have hr1:=Qy hp1;have vg:=W;rw[AD]at vg;have N:0<=P.spread/\P.spread<0+4:=by have:=YP (show decide (1<=P.spread/\P.spread<=3)=true from vg.2);omega
  have B:=vg.1;unfold Oq at B;rw[AD,decide_eq_true_iff]at B;have hst:=B.2;have hst16:=B.1.2;have hsr:=Db (CC 0) hst;have hsm:=Bt P.stops;refine sQ (P.kind==2) true O (YQ.2 uZ)<|H 1<|sO (Kw 53 1 #[(0,E Ky)]) (Kd 1) (Kr 9 #[E Ky]) O (λa j h=>Kb O) λga=>H 2<|sY (L:=bl ((some ⟨C,0,none⟩,0):YZ).1) (val:=λ(z:YZ)=> .slice z.1 (0+1) z.2) (Φ':=λ(z:YZ) v=>Y v w.heap.size 9 1 z.1 (0+1) z.2 (sv (([]:WS)++ [Ky]))) (G:=λ(z:YZ) v=>Y v w.heap.size 9 1 z.1 (0+1) z.2 (sv (([]:WS)++ [Ky]))) (Ln 53 53 (.slice ((some ⟨C,0,none⟩,0):YZ).1 0 ((some ⟨C,0,none⟩,0):YZ).2) (Kd 1 ga)) (λa j h=>O7 (p:=([]:WS)) (l:=[Ky]) (show Y a w.heap.size 9 1 ((some ⟨C,0,none⟩,0):YZ).1 0 ((some ⟨C,0,none⟩,0):YZ).2 (sv ([]:WS))from h.1.2) j.size (Lh (L:=[Ky]) h.2 rfl) Zd) (λa h=>λb o=>⟨((show Y a w.heap.size 9 1 ((some ⟨C,0,none⟩,0):YZ).1 0 ((some ⟨C,0,none⟩,0):YZ).2 (sv ([]:WS))from h.1.2).lt b o).1,((show Y a w.heap.size 9 1 ((some ⟨C,0,none⟩,0):YZ).1 0 ((some ⟨C,0,none⟩,0):YZ).2 (sv ([]:WS))from h.1.2).blk b o).2⟩) (λz S uW Q uY h D=>D) O O λvf=>M<|ZD 4 (λa j h=>Za (x:=P.p0x) (y:=P.p0y) J J) λp=>sY (L:=bl vf.1) (val:=λ(z:YZ)=> .slice z.1 (0+1+2) z.2) (Φ':=λ(z:YZ) v=>Y v w.heap.size 9 1 z.1 (0+1+2) z.2 (sv (([]:WS)++ [Ky]++ [K8 P.p0x,K8 P.p0y]))) (G:=λ(z:YZ) v=>Y v w.heap.size 9 1 z.1 (0+1+2) z.2 (sv (([]:WS)++ [Ky]++ [K8 P.p0x,K8 P.p0y]))) (Ln 53 53 (.slice vf.1 (0+1) vf.2) (.slice (some ⟨p,0,none⟩) 2 2)) (λa j h=>O7 (p:=([]:WS)++ [Ky]) (l:=[K8 P.p0x,K8 P.p0y]) (show Y a w.heap.size 9 1 vf.1 (0+1) vf.2 (sv (([]:WS)++ [Ky]))from h.1) j.size h.2 Zd) (λa h=>λb o=>⟨((show Y a w.heap.size 9 1 vf.1 (0+1) vf.2 (sv (([]:WS)++ [Ky]))from h.1).lt b o).1,((show Y a w.heap.size 9 1 vf.1 (0+1) vf.2 (sv (([]:WS)++ [Ky]))from h.1).blk b o).2⟩) (λz S uW Q uY h D=>D) O O λy2=>M<|ZD 4 (λa j h=>Za (x:=P.p1x) (y:=P.p1y) J J) λp=>sY (L:=bl y2.1) (val:=λ(z:YZ)=> .slice z.1 (0+1+2+2) z.2) (Φ':=λ(z:YZ) v=>Y v w.heap.size 9 1 z.1 (0+1+2+2) z.2 (sv (([]:WS)++ [Ky]++ [K8 P.p0x,K8 P.p0y]++ [K8 P.p1x,K8 P.p1y]))) (G:=λ(z:YZ) v=>Y v w.heap.size 9 1 z.1 (0+1+2+2) z.2 (sv (([]:WS)++ [Ky]++ [K8 P.p0x,K8 P.p0y]++ [K8 P.p1x,K8 P.p1y]))) (Ln 53 53 (.slice y2.1 (0+1+2) y2.2) (.slice (some ⟨p,0,none⟩) 2 2)) (λa j h=>O7 (p:=([]:WS)++ [Ky]++ [K8 P.p0x,K8 P.p0y]) (l:=[K8 P.p1x,K8 P.p1y]) (show Y a w.heap.size 9 1 y2.1 (0+1+2) y2.2 (sv (([]:WS)++ [Ky]++ [K8 P.p0x,K8 P.p0y]))from h.1) j.size h.2 Zd) (λa h=>λb o=>⟨((show Y a w.heap.size 9 1 y2.1 (0+1+2) y2.2 (sv (([]:WS)++ [Ky]++ [K8 P.p0x,K8 P.p0y]))from h.1).lt b o).1,((show Y a w.heap.size 9 1 y2.1 (0+1+2) y2.2 (sv (([]:WS)++ [Ky]++ [K8 P.p0x,K8 P.p0y]))from h.1).blk b o).2⟩) (λz S uW Q uY h D=>D) O O λuT=>M<|ZD 4 (λa j h=>Xb) λuX=>sP 4 (Ki 53 (.slice (some ⟨uX,0,none⟩) 4 4) P.spread) (.pointer (some ((⟨uX,0,none⟩:YB).add P.spread.toNat))) O (λa j h=>(Xc h.2 N).1)<|H 5<|sP 5 (L4 9 ((⟨uX,0,none⟩:YB).add P.spread.toNat)) (E m) O (λa j h=>K9 O (by rw[uU];exact(Xc h.2 N).2))<|H 6<|sO (Kw 53 1 #[(0,E m)]) (Kd 1) (Kr 9 #[E m]) O (λa j h=>Kb O) λgs=>H 7<|tl (L:=bl uT.1) (val:=λ(z:YZ)=> .slice z.1 (0+1+2+2+1) z.2) (Φ':=λ(z:YZ) v=>Y v w.heap.size 9 1 z.1 (0+1+2+2+1) z.2 (sv (([]:WS)++ [Ky]++ [K8 P.p0x,K8 P.p0y]++ [K8 P.p1x,K8 P.p1y]++ [m]))) (G:=λ(z:YZ) v=>Y v w.heap.size 9 1 z.1 (0+1+2+2+1) z.2 (sv (([]:WS)++ [Ky]++ [K8 P.p0x,K8 P.p0y]++ [K8 P.p1x,K8 P.p1y]++ [m]))) (Ln 53 53 (.slice uT.1 (0+1+2+2) uT.2) (Kd 1 gs)) (λa j h=>O7 (p:=([]:WS)++ [Ky]++ [K8 P.p0x,K8 P.p0y]++ [K8 P.p1x,K8 P.p1y]) (l:=[m]) (show Y a w.heap.size 9 1 uT.1 (0+1+2+2) uT.2 (sv (([]:WS)++ [Ky]++ [K8 P.p0x,K8 P.p0y]++ [K8 P.p1x,K8 P.p1y]))from h.1.1) j.size (Lh (L:=[m]) h.2 rfl) Zd) (λa h=>λb o=>⟨((show Y a w.heap.size 9 1 uT.1 (0+1+2+2) uT.2 (sv (([]:WS)++ [Ky]++ [K8 P.p0x,K8 P.p0y]++ [K8 P.p1x,K8 P.p1y]))from h.1.1).lt b o).1,((show Y a w.heap.size 9 1 uT.1 (0+1+2+2) uT.2 (sv (([]:WS)++ [Ky]++ [K8 P.p0x,K8 P.p0y]++ [K8 P.p1x,K8 P.p1y]))from h.1.1).blk b o).2⟩) (λz S uW Q uY h D=>D) O O λA=>M<|ZD 4 (λa j h=>Om (hp.tr.below j) hK) λt=>sY (L:=bl A.1) (val:=λ(z:YZ)=> .slice z.1 (0+1+2+2+1+6) z.2) (Φ':=λ(z:YZ) v=>Y v w.heap.size 9 1 z.1 (0+1+2+2+1+6) z.2 (sv (([]:WS)++ [Ky]++ [K8 P.p0x,K8 P.p0y]++ [K8 P.p1x,K8 P.p1y]++ [m]++Mn P.T))) (G:=λ(z:YZ) v=>Y v w.heap.size 9 1 z.1 (0+1+2+2+1+6) z.2 (sv (([]:WS)++ [Ky]++ [K8 P.p0x,K8 P.p0y]++ [K8 P.p1x,K8 P.p1y]++ [m]++Mn P.T))) (Ln 53 53 (.slice A.1 (0+1+2+2+1) A.2) (.slice (some ⟨t,0,none⟩) 6 6)) (λa j h=>O7 (p:=([]:WS)++ [Ky]++ [K8 P.p0x,K8 P.p0y]++ [K8 P.p1x,K8 P.p1y]++ [m]) (l:=Mn P.T) (show Y a w.heap.size 9 1 A.1 (0+1+2+2+1) A.2 (sv (([]:WS)++ [Ky]++ [K8 P.p0x,K8 P.p0y]++ [K8 P.p1x,K8 P.p1y]++ [m]))from h.1) j.size h.2 Zd) (λa h=>λb o=>⟨((show Y a w.heap.size 9 1 A.1 (0+1+2+2+1) A.2 (sv (([]:WS)++ [Ky]++ [K8 P.p0x,K8 P.p0y]++ [K8 P.p1x,K8 P.p1y]++ [m]))from h.1).lt b o).1,((show Y a w.heap.size 9 1 A.1 (0+1+2+2+1) A.2 (sv (([]:WS)++ [Ky]++ [K8 P.p0x,K8 P.p0y]++ [K8 P.p1x,K8 P.p1y]++ [m]))from h.1).blk b o).2⟩) (λz S uW Q uY h D=>D) O O λr=>M<|ZD 4 (λa j h=>Id (c:=q.sc) (hp.st.below j) J hsr) λs=>sY (L:=bl r.1) (val:=λ(z:YZ)=> .slice z.1 (0+1+2+2+1+6+2*P.stops.length) z.2) (Φ':=λ(z:YZ) v=>Y v w.heap.size 9 1 z.1 (0+1+2+2+1+6+2*P.stops.length) z.2 (sv (([]:WS)++ [Ky]++ [K8 P.p0x,K8 P.p0y]++ [K8 P.p1x,K8 P.p1y]++ [m]++Mn P.T++Yj P.stops))) (G:=λ(z:YZ) v=>Y v w.heap.size 9 1 z.1 (0+1+2+2+1+6+2*P.stops.length) z.2 (sv (([]:WS)++ [Ky]++ [K8 P.p0x,K8 P.p0y]++ [K8 P.p1x,K8 P.p1y]++ [m]++Mn P.T++Yj P.stops))) (Ln 53 53 (.slice r.1 (0+1+2+2+1+6) r.2) (.slice s.1 (2*P.stops.length) s.2)) (λa j h=>O7 (p:=([]:WS)++ [Ky]++ [K8 P.p0x,K8 P.p0y]++ [K8 P.p1x,K8 P.p1y]++ [m]++Mn P.T) (l:=Yj P.stops) (show Y a w.heap.size 9 1 r.1 (0+1+2+2+1+6) r.2 (sv (([]:WS)++ [Ky]++ [K8 P.p0x,K8 P.p0y]++ [K8 P.p1x,K8 P.p1y]++ [m]++Mn P.T))from h.1) j.size h.2 J) (λa h=>λb o=>⟨((show Y a w.heap.size 9 1 r.1 (0+1+2+2+1+6) r.2 (sv (([]:WS)++ [Ky]++ [K8 P.p0x,K8 P.p0y]++ [K8 P.p1x,K8 P.p1y]++ [m]++Mn P.T))from h.1).lt b o).1,((show Y a w.heap.size 9 1 r.1 (0+1+2+2+1+6) r.2 (sv (([]:WS)++ [Ky]++ [K8 P.p0x,K8 P.p0y]++ [K8 P.p1x,K8 P.p1y]++ [m]++Mn P.T))from h.1).blk b o).2⟩) (λz S uW Q uY h D=>D) O O λuR=>M ?_
  have e:Pz P=([]:WS)++ [Ky]++ [K8 P.p0x,K8 P.p0y]++ [K8 P.p1x,K8 P.p1y]++ [m]++Mn P.T++Yj P.stops:=by unfold Pz;rw[V ve,V (show¬P.kind=4 by omega),YS uZ,uU];simp
  have el:(Pz P).length=0+1+2+2+1+6+2*P.stops.length:=by rw[e];simp only[AL,AG,AW,hsm];show _+6+_=_;omega
  refine ZV (.slice uR.1 (0+1+2+2+1+6+2*P.stops.length) uR.2) (λa j h=>⟨uR,by rw[el],j,λuS ve uZ=>by rw[el,e];exact(show Y uS w.heap.size 9 1 uR.1 (0+1+2+2+1+6+2*P.stops.length) uR.2 (sv (([]:WS)++ [Ky]++ [K8 P.p0x,K8 P.p0y]++ [K8 P.p1x,K8 P.p1y]++ [m]++Mn P.T++Yj P.stops))from h uS ve uZ).strs⟩)
 refine X (P.kind==2) false (YR.2 uZ) ?_
 by_cases k3:P.kind=3
 case pos=>
  rw[V ve,V uZ,YS k3,AD,AD,AD,decide_eq_true_iff]at uV;obtain⟨hp0,hrad,W,_⟩:=uV;have hr0:=Qy hp0;have vg:=W;rw[AD]at vg;have N:0<=P.spread/\P.spread<0+4:=by have:=YP (show decide (1<=P.spread/\P.spread<=3)=true from vg.2);omega
  have B:=vg.1;unfold Oq at B;rw[AD,decide_eq_true_iff]at B;have hst:=B.2;have hst16:=B.1.2;have hsr:=Db (CC 0) hst;have hsm:=Bt P.stops;refine sQ (P.kind==3) true O (YQ.2 k3)<|H 1<|sO (Kw 53 1 #[(0,E L7)]) (Kd 1) (Kr 9 #[E L7]) O (λa j h=>Kb O) λga=>H 2<|sY (L:=bl ((some ⟨C,0,none⟩,0):YZ).1) (val:=λ(z:YZ)=> .slice z.1 (0+1) z.2) (Φ':=λ(z:YZ) v=>Y v w.heap.size 9 1 z.1 (0+1) z.2 (sv (([]:WS)++ [L7]))) (G:=λ(z:YZ) v=>Y v w.heap.size 9 1 z.1 (0+1) z.2 (sv (([]:WS)++ [L7]))) (Ln 53 53 (.slice ((some ⟨C,0,none⟩,0):YZ).1 0 ((some ⟨C,0,none⟩,0):YZ).2) (Kd 1 ga)) (λa j h=>O7 (p:=([]:WS)) (l:=[L7]) (show Y a w.heap.size 9 1 ((some ⟨C,0,none⟩,0):YZ).1 0 ((some ⟨C,0,none⟩,0):YZ).2 (sv ([]:WS))from h.1.2) j.size (Lh (L:=[L7]) h.2 rfl) Zd) (λa h=>λb o=>⟨((show Y a w.heap.size 9 1 ((some ⟨C,0,none⟩,0):YZ).1 0 ((some ⟨C,0,none⟩,0):YZ).2 (sv ([]:WS))from h.1.2).lt b o).1,((show Y a w.heap.size 9 1 ((some ⟨C,0,none⟩,0):YZ).1 0 ((some ⟨C,0,none⟩,0):YZ).2 (sv ([]:WS))from h.1.2).blk b o).2⟩) (λz S uW Q uY h D=>D) O O λvf=>M<|ZD 4 (λa j h=>Za (x:=P.p0x) (y:=P.p0y) J J) λp=>sY (L:=bl vf.1) (val:=λ(z:YZ)=> .slice z.1 (0+1+2) z.2) (Φ':=λ(z:YZ) v=>Y v w.heap.size 9 1 z.1 (0+1+2) z.2 (sv (([]:WS)++ [L7]++ [K8 P.p0x,K8 P.p0y]))) (G:=λ(z:YZ) v=>Y v w.heap.size 9 1 z.1 (0+1+2) z.2 (sv (([]:WS)++ [L7]++ [K8 P.p0x,K8 P.p0y]))) (Ln 53 53 (.slice vf.1 (0+1) vf.2) (.slice (some ⟨p,0,none⟩) 2 2)) (λa j h=>O7 (p:=([]:WS)++ [L7]) (l:=[K8 P.p0x,K8 P.p0y]) (show Y a w.heap.size 9 1 vf.1 (0+1) vf.2 (sv (([]:WS)++ [L7]))from h.1) j.size h.2 Zd) (λa h=>λb o=>⟨((show Y a w.heap.size 9 1 vf.1 (0+1) vf.2 (sv (([]:WS)++ [L7]))from h.1).lt b o).1,((show Y a w.heap.size 9 1 vf.1 (0+1) vf.2 (sv (([]:WS)++ [L7]))from h.1).blk b o).2⟩) (λz S uW Q uY h D=>D) O O λy2=>M<|Z (λa j h=>Lv (n:=P.rad) J J) λf=>ZD 7 (λa j h=>Xb) λuX=>sP 7 (Ki 53 (.slice (some ⟨uX,0,none⟩) 4 4) P.spread) (.pointer (some ((⟨uX,0,none⟩:YB).add P.spread.toNat))) O (λa j h=>(Xc h.2 N).1)<|H 8<|sP 8 (L4 9 ((⟨uX,0,none⟩:YB).add P.spread.toNat)) (E m) O (λa j h=>K9 O (by rw[uU];exact(Xc h.2 N).2))<|H 9<|sO (Kw 53 2 #[(0,E (K8 P.rad)),(1,E m)]) (Kd 2) (Kr 9 #[E (K8 P.rad),E m]) O (λa j h=>Kb O) λgs=>H 10<|tl (L:=bl y2.1) (val:=λ(z:YZ)=> .slice z.1 (0+1+2+2) z.2) (Φ':=λ(z:YZ) v=>Y v w.heap.size 9 1 z.1 (0+1+2+2) z.2 (sv (([]:WS)++ [L7]++ [K8 P.p0x,K8 P.p0y]++ [K8 P.rad,m]))) (G:=λ(z:YZ) v=>Y v w.heap.size 9 1 z.1 (0+1+2+2) z.2 (sv (([]:WS)++ [L7]++ [K8 P.p0x,K8 P.p0y]++ [K8 P.rad,m]))) (Ln 53 53 (.slice y2.1 (0+1+2) y2.2) (Kd 2 gs)) (λa j h=>O7 (p:=([]:WS)++ [L7]++ [K8 P.p0x,K8 P.p0y]) (l:=[K8 P.rad,m]) (show Y a w.heap.size 9 1 y2.1 (0+1+2) y2.2 (sv (([]:WS)++ [L7]++ [K8 P.p0x,K8 P.p0y]))from h.1.1.1) j.size (Lh (L:=[K8 P.rad,m]) h.2 rfl) Zd) (λa h=>λb o=>⟨((show Y a w.heap.size 9 1 y2.1 (0+1+2) y2.2 (sv (([]:WS)++ [L7]++ [K8 P.p0x,K8 P.p0y]))from h.1.1.1).lt b o).1,((show Y a w.heap.size 9 1 y2.1 (0+1+2) y2.2 (sv (([]:WS)++ [L7]++ [K8 P.p0x,K8 P.p0y]))from h.1.1.1).blk b o).2⟩) (λz S uW Q uY h D=>D) O O λA=>M<|ZD 4 (λa j h=>Om (hp.tr.below j) hK) λt=>sY (L:=bl A.1) (val:=λ(z:YZ)=> .slice z.1 (0+1+2+2+6) z.2) (Φ':=λ(z:YZ) v=>Y v w.heap.size 9 1 z.1 (0+1+2+2+6) z.2 (sv (([]:WS)++ [L7]++ [K8 P.p0x,K8 P.p0y]++ [K8 P.rad,m]++Mn P.T))) (G:=λ(z:YZ) v=>Y v w.heap.size 9 1 z.1 (0+1+2+2+6) z.2 (sv (([]:WS)++ [L7]++ [K8 P.p0x,K8 P.p0y]++ [K8 P.rad,m]++Mn P.T))) (Ln 53 53 (.slice A.1 (0+1+2+2) A.2) (.slice (some ⟨t,0,none⟩) 6 6)) (λa j h=>O7 (p:=([]:WS)++ [L7]++ [K8 P.p0x,K8 P.p0y]++ [K8 P.rad,m]) (l:=Mn P.T) (show Y a w.heap.size 9 1 A.1 (0+1+2+2) A.2 (sv (([]:WS)++ [L7]++ [K8 P.p0x,K8 P.p0y]++ [K8 P.rad,m]))from h.1) j.size h.2 Zd) (λa h=>λb o=>⟨((show Y a w.heap.size 9 1 A.1 (0+1+2+2) A.2 (sv (([]:WS)++ [L7]++ [K8 P.p0x,K8 P.p0y]++ [K8 P.rad,m]))from h.1).lt b o).1,((show Y a w.heap.size 9 1 A.1 (0+1+2+2) A.2 (sv (([]:WS)++ [L7]++ [K8 P.p0x,K8 P.p0y]++ [K8 P.rad,m]))from h.1).blk b o).2⟩) (λz S uW Q uY h D=>D) O O λr=>M<|ZD 4 (λa j h=>Id (c:=q.sc) (hp.st.below j) J hsr) λs=>sY (L:=bl r.1) (val:=λ(z:YZ)=> .slice z.1 (0+1+2+2+6+2*P.stops.length) z.2) (Φ':=λ(z:YZ) v=>Y v w.heap.size 9 1 z.1 (0+1+2+2+6+2*P.stops.length) z.2 (sv (([]:WS)++ [L7]++ [K8 P.p0x,K8 P.p0y]++ [K8 P.rad,m]++Mn P.T++Yj P.stops))) (G:=λ(z:YZ) v=>Y v w.heap.size 9 1 z.1 (0+1+2+2+6+2*P.stops.length) z.2 (sv (([]:WS)++ [L7]++ [K8 P.p0x,K8 P.p0y]++ [K8 P.rad,m]++Mn P.T++Yj P.stops))) (Ln 53 53 (.slice r.1 (0+1+2+2+6) r.2) (.slice s.1 (2*P.stops.length) s.2)) (λa j h=>O7 (p:=([]:WS)++ [L7]++ [K8 P.p0x,K8 P.p0y]++ [K8 P.rad,m]++Mn P.T) (l:=Yj P.stops) (show Y a w.heap.size 9 1 r.1 (0+1+2+2+6) r.2 (sv (([]:WS)++ [L7]++ [K8 P.p0x,K8 P.p0y]++ [K8 P.rad,m]++Mn P.T))from h.1) j.size h.2 J) (λa h=>λb o=>⟨((show Y a w.heap.size 9 1 r.1 (0+1+2+2+6) r.2 (sv (([]:WS)++ [L7]++ [K8 P.p0x,K8 P.p0y]++ [K8 P.rad,m]++Mn P.T))from h.1).lt b o).1,((show Y a w.heap.size 9 1 r.1 (0+1+2+2+6) r.2 (sv (([]:WS)++ [L7]++ [K8 P.p0x,K8 P.p0y]++ [K8 P.rad,m]++Mn P.T))from h.1).blk b o).2⟩) (λz S uW Q uY h D=>D) O O λuR=>M ?_
  have e:Pz P=([]:WS)++ [L7]++ [K8 P.p0x,K8 P.p0y]++ [K8 P.rad,m]++Mn P.T++Yj P.stops:=by unfold Pz;rw[V ve,V (show¬P.kind=4 by omega),V uZ,uU];simp
  have el:(Pz P).length=0+1+2+2+6+2*P.stops.length:=by rw[e];simp only[AL,AG,AW,hsm];show _+6+_=_;omega
  refine ZV (.slice uR.1 (0+1+2+2+6+2*P.stops.length) uR.2) (λa j h=>⟨uR,by rw[el],j,λuS ve uZ=>by rw[el,e];exact(show Y uS w.heap.size 9 1 uR.1 (0+1+2+2+6+2*P.stops.length) uR.2 (sv (([]:WS)++ [L7]++ [K8 P.p0x,K8 P.p0y]++ [K8 P.rad,m]++Mn P.T++Yj P.stops))from h uS ve uZ).strs⟩)
 refine X (P.kind==3) false (YR.2 k3) ?_
 by_cases k4:P.kind=4
 case neg=>rw[V ve,V uZ,V k3,V k4]at uV;cases uV
 rw[V ve,V uZ,V k3,YS k4,AD,AD,AD,CF,decide_eq_true_iff,decide_eq_true_iff]at uV;obtain⟨hi,hs,hm,_⟩:=uV;have N:0<=P.spread/\P.spread<0+4:=by
  rcases hs with hs|hs
  .omega
  .have:=YP hs;omega
 unfold Ay at hi;rw[AD,AD]at hi;have hsz:=YP hi.1.1;obtain⟨F,hx2⟩:∃x,x=Ks Ng 1 P.samp:=⟨_,rfl⟩
 refine ZD 4 (λa j h=>Xb) λuX=>sP 4 (Ki 53 (.slice (some ⟨uX,0,none⟩) 4 4) P.spread) (.pointer (some ((⟨uX,0,none⟩:YB).add P.spread.toNat))) O (λa j h=>(Xc h.2 N).1)<|H 5<|sP 5 (L4 9 ((⟨uX,0,none⟩:YB).add P.spread.toNat)) (E m) O (λa j h=>K9 O (by rw[uU];exact(Xc h.2 N).2))<|H 9<|ZD 9 (λa j h=>Yk) λlk=>sP 9 (Ki 53 (.slice (some ⟨lk,0,none⟩) 3 3) P.samp) (.pointer (some ((⟨lk,0,none⟩:YB).add P.samp.toNat))) O (λa j h=>(cm h.2 hm).1)<|H 10<|sP 10 (L4 9 ((⟨lk,0,none⟩:YB).add P.samp.toNat)) (E F) O (λa j h=>K9 O (by rw[hx2];exact(cm h.2 hm).2))<|H 11<|sO (Kw 53 3 #[(0,E Kx),(1,E m),(2,E F)]) (Kd 3) (Kr 9 #[E Kx,E m,E F]) O (λa j h=>Kb O) λgs=>H 12<|tl (L:=bl ((some ⟨C,0,none⟩,0):YZ).1) (val:=λ(z:YZ)=> .slice z.1 (0+3) z.2) (Φ':=λ(z:YZ) v=>Y v w.heap.size 9 1 z.1 (0+3) z.2 (sv (([]:WS)++ [Kx,m,F]))) (G:=λ(z:YZ) v=>Y v w.heap.size 9 1 z.1 (0+3) z.2 (sv (([]:WS)++ [Kx,m,F]))) (Ln 53 53 (.slice ((some ⟨C,0,none⟩,0):YZ).1 0 ((some ⟨C,0,none⟩,0):YZ).2) (Kd 3 gs)) (λa j h=>O7 (p:=([]:WS)) (l:=[Kx,m,F]) (show Y a w.heap.size 9 1 ((some ⟨C,0,none⟩,0):YZ).1 0 ((some ⟨C,0,none⟩,0):YZ).2 (sv ([]:WS))from h.1.1.1.2) j.size (Lh (L:=[Kx,m,F]) h.2 rfl) Zd) (λa h=>λb o=>⟨((show Y a w.heap.size 9 1 ((some ⟨C,0,none⟩,0):YZ).1 0 ((some ⟨C,0,none⟩,0):YZ).2 (sv ([]:WS))from h.1.1.1.2).lt b o).1,((show Y a w.heap.size 9 1 ((some ⟨C,0,none⟩,0):YZ).1 0 ((some ⟨C,0,none⟩,0):YZ).2 (sv ([]:WS))from h.1.1.1.2).blk b o).2⟩) (λz S uW Q uY h D=>D) O O λA=>M<|ZD 4 (λa j h=>Om (hp.tr.below j) hK) λt=>sY (L:=bl A.1) (val:=λ(z:YZ)=> .slice z.1 (0+3+6) z.2) (Φ':=λ(z:YZ) v=>Y v w.heap.size 9 1 z.1 (0+3+6) z.2 (sv (([]:WS)++ [Kx,m,F]++Mn P.T))) (G:=λ(z:YZ) v=>Y v w.heap.size 9 1 z.1 (0+3+6) z.2 (sv (([]:WS)++ [Kx,m,F]++Mn P.T))) (Ln 53 53 (.slice A.1 (0+3) A.2) (.slice (some ⟨t,0,none⟩) 6 6)) (λa j h=>O7 (p:=([]:WS)++ [Kx,m,F]) (l:=Mn P.T) (show Y a w.heap.size 9 1 A.1 (0+3) A.2 (sv (([]:WS)++ [Kx,m,F]))from h.1) j.size h.2 Zd) (λa h=>λb o=>⟨((show Y a w.heap.size 9 1 A.1 (0+3) A.2 (sv (([]:WS)++ [Kx,m,F]))from h.1).lt b o).1,((show Y a w.heap.size 9 1 A.1 (0+3) A.2 (sv (([]:WS)++ [Kx,m,F]))from h.1).blk b o).2⟩) (λz S uW Q uY h D=>D) O O λr=>M<|ZD 4 (λa j h=>G8 (y:=(q.xA,q.xc)) (hp.px.below j) hl J J) λim=>sY (L:=bl r.1) (val:=λ(z:YZ)=> .slice z.1 (0+3+6+3) z.2) (Φ':=λ(z:YZ) v=>Y v w.heap.size 9 1 z.1 (0+3+6+3) z.2 (sv (([]:WS)++ [Kx,m,F]++Mn P.T++E5 P.im))) (G:=λ(z:YZ) v=>Y v w.heap.size 9 1 z.1 (0+3+6+3) z.2 (sv (([]:WS)++ [Kx,m,F]++Mn P.T++E5 P.im))) (Ln 53 53 (.slice r.1 (0+3+6) r.2) (.slice (some ⟨im,0,none⟩) 3 3)) (λa j h=>O7 (p:=([]:WS)++ [Kx,m,F]++Mn P.T) (l:=E5 P.im) (show Y a w.heap.size 9 1 r.1 (0+3+6) r.2 (sv (([]:WS)++ [Kx,m,F]++Mn P.T))from h.1) j.size h.2 Zd) (λa h=>λb o=>⟨((show Y a w.heap.size 9 1 r.1 (0+3+6) r.2 (sv (([]:WS)++ [Kx,m,F]++Mn P.T))from h.1).lt b o).1,((show Y a w.heap.size 9 1 r.1 (0+3+6) r.2 (sv (([]:WS)++ [Kx,m,F]++Mn P.T))from h.1).blk b o).2⟩) (λz S uW Q uY h D=>D) O O λuR=>M ?_
 have e:Pz P=([]:WS)++ [Kx,m,F]++Mn P.T++E5 P.im:=by unfold Pz;rw[V ve,YS k4,uU,hx2];simp
 have el:(Pz P).length=0+3+6+3:=by rw[e];rfl
 refine ZV (.slice uR.1 (0+3+6+3) uR.2) (λa j h=>⟨uR,by rw[el],j,λuS ve uZ=>by rw[el,e];exact(show Y uS w.heap.size 9 1 uR.1 (0+3+6+3) uR.2 (sv (([]:WS)++ [Kx,m,F]++Mn P.T++E5 P.im))from h uS ve uZ).strs⟩)
end
end
section
--ATNAMES
section
variable{w:YN}{P:Pn}{q:PM}{K:Nat}{l:R}
theorem kv{A A2:YY}{n c c2:Nat}{l:List (Int×Co)}(p:O3 w A n 5 Sv l)(s:O3 w A2 n 5 Sv l)(vg:n<=1000000000):Zv 226 #[.slice A n c,.slice A2 n c2] w Zt:=by
 have C:=p.1;refine sL func226 rfl<|M<|X (((n:Int) !=(n:Int))) false (bne_self_eq_false _)<|sU (ι:={q:Nat // q<=n}) 26 (λq=>⟨[(0,.v (.slice A n c)),(1,.v (.slice A2 n c2)),(5,.v (I q.1))],[]⟩) (λq u=>True) (λq=>n-q.1) (⟨0,AE _⟩) O (λ_=>O) zt (λu h=>trivial) ?_
 rintro⟨k,o⟩ F;have o:k<=n:=o
 by_cases e:k<n
 case neg=>
  obtain rfl:k=n:=J
  exact M<|X (decide ((k:Int)<(k:Int))) false Zs<|sN O<|M<|ZW Zt
 obtain⟨x,r⟩:∃x,l[k]? =some x:=⟨_,AA J⟩
 obtain⟨a,D,t⟩:=p.2 k x r;obtain⟨b,B,y⟩:=s.2 k x r;refine M<|sQ (decide ((k:Int)<(n:Int))) true O Zp<|H 2<|sP 2 (Ki 37 (.slice A n c) k) (.pointer (some (a.add (k*5)))) O (λg f h=>Xp D e)<|H 3<|sP 3 (L4 165 (a.add (k*5))) (.agg (Sv x).toArray) O (λg f h=>VQ λj v m=>La f (t j v m))<|H 6<|sP 6 (Ki 37 (.slice A2 n c2) k) (.pointer (some (b.add (k*5)))) O (λg f h=>Xp B e)<|H 7<|sP 7 (L4 165 (b.add (k*5))) (.agg (Sv x).toArray) O (λg f h=>VQ λj v m=>La f (y j v m))<|H 8<|ZB 8 (MN 165 (.tmp 20) (.tmp 24) (.agg (Sv x).toArray) (.agg (Sv x).toArray)) Zf (λg f h=>T_ Zs)<|ZI false<|sS 5 e J O<|sR (⟨k+1,by show k+1<=n;omega⟩) O zo zt (λu h=>trivial)
theorem TK{m:Im}{y y2:YZ}(D:O3 w y.1 m.px.length 4 P7 m.px)(s:O3 w y2.1 m.px.length 4 P7 m.px)(F:m.px.length<=1000000000):Zv 92 #[Jo m y,Jo m y2] w Zt:=by
 refine sL func92 rfl<|H 6<|sM 11 (.bool (m.w !=m.w)) Zf O (by rw[bne_self_eq_false])<|H 13<|ZT 18 (.bool (m.h !=m.h)) Zf (by rw[bne_self_eq_false])<|X (((m.px.length:Int) !=(m.px.length:Int))) false (bne_self_eq_false _)<|sU (ι:={q:Nat // q<=m.px.length}) 45 (λq=>⟨[(2,.p 2 0),(3,.p 3 0),(5,.v (I q.1))],[(2,[.v (I m.w),.v (I m.h),.v (.slice y.1 m.px.length y.2)]),(3,[.v (I m.w),.v (I m.h),.v (.slice y2.1 m.px.length y2.2)])]⟩) (λq u=>True) (λq=>m.px.length-q.1) (⟨0,AE _⟩) O (λ_=>O) zt (λu h=>trivial) ?_
 rintro⟨k,o⟩ G;have o:k<=m.px.length:=o
 by_cases c:k<m.px.length
 case neg=>
  have A:m.px.length=k:=J
  exact M<|X (decide ((k:Int)<(m.px.length:Int))) false Zp<|sN O<|M<|ZW Zt
 obtain⟨x,r⟩:∃x,m.px[k]? =some x:=⟨_,AA J⟩
 obtain⟨a,vg,t⟩:=D.2 k x r;obtain⟨b,C,B⟩:=s.2 k x r;refine M<|sQ (decide ((k:Int)<(m.px.length:Int))) true O Zp<|H 3<|sP 3 (Ki 38 (.slice y.1 m.px.length y.2) k) (.pointer (some (a.add (k*4)))) O (λf e h=>Bw vg c)<|H 4<|sP 4 (L4 214 (a.add (k*4))) (.agg (P7 x).toArray) O (λf e h=>UV λj v g=>La e (t j v g))<|H 8<|sP 8 (Ki 38 (.slice y2.1 m.px.length y2.2) k) (.pointer (some (b.add (k*4)))) O (λf e h=>Bw C c)<|H 9<|sP 9 (L4 214 (b.add (k*4))) (.agg (P7 x).toArray) O (λf e h=>UV λj v g=>La e (B j v g))<|H 10<|ZB 10 (MN 214 (.tmp 38) (.tmp 43) (Rk x) (Rk x)) Zf (λf e h=>eZ Zs)<|ZI false<|sS 5 c J O<|sR (⟨k+1,by show k+1<=m.px.length;omega⟩) O zo zt (λu h=>trivial)
theorem ie{a b:YJ}{x y:Int}:(Fi 36 a b (pt x y) (pt x y)).run XW w= .ok (.value Zt) w:=by
 rw[GY];simp
theorem kV{b:PM}(f:Hs P q K w)(g:Hs P b K w)(k:2<=K/\K<=1000)(j:P.stops.length<=1000000000/\P.im.px.length<=1000000000):Zv 163 #[U2 P q,U2 P b] w Zt:=sL func163 rfl<|H 6<|sM 10 (.bool (P.kind==P.kind)) Zt O (by rw[beq_self_eq_true])<|H 10<|sV (Fi 24 (.tmp 12) (.tmp 14) (Rk P.co) (Rk P.co)) Zt O (λe a h=>Qb Zs)<|H 17<|sV (Fi 36 (.tmp 19) (.tmp 21) (pt P.p0x P.p0y) (pt P.p0x P.p0y)) Zt O (λe a h=>ie)<|H 24<|sV (Fi 36 (.tmp 26) (.tmp 28) (pt P.p1x P.p1y) (pt P.p1x P.p1y)) Zt O (λe a h=>ie)<|H 34<|ZT 38 (.bool (P.rad==P.rad)) Zt (by rw[beq_self_eq_true])<|ZD 48 (λe a h=>kv (c:=q.sc) (c2:=b.sc) (f.st.below a) (g.st.below a) j.1) λp=>ZT 52 (.bool (P.spread==P.spread)) Zt (by rw[beq_self_eq_true])<|ZD 62 (λe a h=>TK (y:=(q.xA,q.xc)) (y2:=(b.xA,b.xc)) (f.px.below a) (g.px.below a) j.2) λm=>ZT 66 (.bool (P.samp==P.samp)) Zt (by rw[beq_self_eq_true])<|Z (λe a h=>Wc (T:=P.T) (uW:=P.T) GV (f.tr.below a) (g.tr.below a) J) λo=>ZW Zt
end
end
structure Sg where
 v:Int
 ax:Int
 ay:Int
 bx:Int
 by_:Int
 cx:Int
 cy:Int
def iv(z:Int):YM:=I z
abbrev Sg.cl(s:Sg):List YM:=[I s.v,I s.ax,I s.ay,I s.bx,I s.by_,I s.cx,I s.cy]
abbrev Sg.val(s:Sg):YM:= .agg #[I s.v,I s.ax,I s.ay,I s.bx,I s.by_,I s.cx,I s.cy]
def Sg.beq(a b:Sg):Bool:=a.v==b.v&&(a.ax==b.ax&&a.ay==b.ay)&&(a.bx==b.bx&&a.by_==b.by_)&&(a.cx==b.cx&&a.cy==b.cy)
theorem uv{a b:Sg}:a.beq b=true↔a=b:=by
 cases a;cases b;simp[Sg.beq,and_assoc]
theorem Ym{x y:YJ}{a b c d:Int}{w:YN}:(MN 36 x y (pt a b) (pt c d)).run XW w= .ok (.value (.bool (!(a==c&&b==d)))) w:=by
 have f:XW.eqGuardType XW.depth 36=false:=O
 have e:=GY (x:=x) (y:=y) (a:=a) (b:=b) (c:=c) (d:=d) (w:=w);simp only[Fi,pt,AI,run_eqGuard_agg w .eql _ x y _ _ f,AH,run_eql_struct,BB]at e;simp only[MN,pt,AI,run_eqGuard_agg w .neq _ x y _ _ f,AH,run_neq_struct,BB];generalize (Op.equalIn 10000 36 (.agg #[I a,I b]) (.agg #[I c,I d])).run XW w=r at e ⊢;cases r with
 |ok x g=>simp only[AH,BB,Result.ok.injEq,Next.value.injEq,Value.bool.injEq]at e ⊢;exact⟨by rw[e.1],e.2⟩
 |_=>cases e
section
variable{w:YN}
theorem jA(k:Nat)(a b c d:Int):(Op.equalIn (k+2) 36 (.agg #[I a,I b]) (.agg #[I c,I d])).run XW w= .ok (a==c&&b==d) w:=by
 have uR:XW.underlying 36=some (.struct (XW.fieldsOf 36)):=O
 have C:XW.stoodInHeld 36=false:=O
 have j:(XW.fieldsOf 36).toList.map (λf=>(f.name,f.offset,f.type))=[("X",0,3),("Y",1,3)]:=O
 have t:XW.underlying 3=some (.int .i64):=O
 obtain⟨y,Q,B,u,j⟩:=AZ.1 j;obtain⟨A,vf,p,r,j⟩:=AZ.1 j;obtain rfl:vf=[]:=BY.1 j;subst p;simp only[BV]at u r;obtain⟨ve,N,P⟩:=u;obtain⟨L,vg,x⟩:=r;have l:∀(xs:Array YM) (e:Nat) (v:YM),xs[e]? =some v->(part 3 xs e).run XW w= .ok v w:=by
  intro xs e v D;have m:(isAgg 3).run XW w= .ok false w:=by unfold isAgg;rw[AI,run_underlying t w];rfl
  simp only[part,AI,m,AH,BC,if_false,D,BB]
 have o:∀a b:Int,(Op.equalIn (k+1) 3 (I a) (I b)).run XW w= .ok (a==b) w:=λa b=>run_equalIn_int w k _ .i64 .i64 a b t
 have K:(part 3 #[I a,I b] 0).run XW w= .ok (I a) w:=l _ 0 _ rfl;have s:(part 3 #[I a,I b] 1).run XW w= .ok (I b) w:=l _ 1 _ rfl;have G:(part 3 #[I c,I d] 0).run XW w= .ok (I c) w:=l _ 0 _ rfl;have q1:(part 3 #[I c,I d] 1).run XW w= .ok (I d) w:=l _ 1 _ rfl;have g:(Op.eqFields (k+1) #[I a,I b] #[I c,I d] [y,A]).run XW w= .ok (a==c&&b==d) w:=by
  have uZ:("X" :String)≠ "_" :=Zd
  have uS:("Y" :String)≠ "_" :=Zd
  simp only[Op.eqFields,ve,L,N,vg,P,x,AI,K,G,s,q1,AH,o,uZ,uS,ne_eq,not_false_eq_true,if_true];cases h:a==c
  .simp[o,h]
  .cases F:b==d<;>simp[o,h,s,q1,F]
 rw[run_equalIn_struct w (k+1) _ _ _ uR C,B];exact g
theorem qw(a b:Sg):(Op.equalIn 10000 213 a.val b.val).run XW w= .ok (a.beq b) w:=by
 have l:XW.underlying 213=some (.struct (XW.fieldsOf 213)):=O
 have m:XW.stoodInHeld 213=false:=O
 have g:(XW.fieldsOf 213).toList.map (λf=>(f.name,f.offset,f.type))=[("Verb",0,3),("A",1,36),("B",3,36),("C",5,36)]:=O
 have D:XW.underlying 3=some (.int .i64):=O
 have t:XW.underlying 36=some (.struct (XW.fieldsOf 36)):=O
 have h:Ot XW 36=some 2:=O
 obtain⟨ve,r0,uR,F,g⟩:=AZ.1 g;obtain⟨L,r1,x,B,g⟩:=AZ.1 g;obtain⟨uY,r2,y,A,g⟩:=AZ.1 g;obtain⟨uV,uS,u,vg,g⟩:=AZ.1 g;obtain rfl:uS=[]:=BY.1 g;subst u;subst y;subst x;simp only[BV]at F B A vg;obtain⟨S,uT,t0⟩:=F;obtain⟨W,uZ,vf⟩:=B;obtain⟨n2,P,t2⟩:=A;obtain⟨K,o3,uX⟩:=vg;have k:(isAgg 3).run XW w= .ok false w:=by unfold isAgg;rw[AI,run_underlying D w];rfl
 have e:(isAgg 36).run XW w= .ok true w:=by unfold isAgg;rw[AI,run_underlying t w];rfl
 have uU:∀a b:Int,(Op.equalIn 9999 3 (I a) (I b)).run XW w= .ok (a==b) w:=λa b=>run_equalIn_int w 9998 _ .i64 .i64 a b D
 have p:∀a b c d:Int,(Op.equalIn 9999 36 (.agg #[I a,I b]) (.agg #[I c,I d])).run XW w= .ok (a==c&&b==d) w:=λa b c d=>jA 9997 a b c d
 have T:∀s:Sg,(part 3 s.cl.toArray 0).run XW w= .ok (I s.v) w:=λs=>by
  simp only[part,AI,k,AH,BC,if_false];rfl
 have o:∀s:Sg,(part 36 s.cl.toArray 1).run XW w= .ok (.agg #[I s.ax,I s.ay]) w:=λs=>by
  simp only[part,AI,e,M0 h,AH,if_true];rfl
 have r:∀s:Sg,(part 36 s.cl.toArray 3).run XW w= .ok (.agg #[I s.bx,I s.by_]) w:=λs=>by
  simp only[part,AI,e,M0 h,AH,if_true];rfl
 have C:∀s:Sg,(part 36 s.cl.toArray 5).run XW w= .ok (.agg #[I s.cx,I s.cy]) w:=λs=>by
  simp only[part,AI,e,M0 h,AH,if_true];rfl
 have j:(Op.eqFields 9999 a.cl.toArray b.cl.toArray [ve,L,uY,uV]).run XW w= .ok (a.beq b) w:=by
  have x0:("Verb" :String)≠ "_" :=Zd
  have Q:("A" :String)≠ "_" :=Zd
  have G:("B" :String)≠ "_" :=Zd
  have uW:("C" :String)≠ "_" :=Zd
  simp only[Op.eqFields,S,W,n2,K,uT,uZ,P,o3,t0,vf,t2,uX,AI,T,o,r,C,AH,uU,p,x0,Q,G,uW,ne_eq,not_false_eq_true,if_true,Sg.beq];cases h0:a.v==b.v
  .simp
  .cases l:(a.ax==b.ax&&a.ay==b.ay)
   .simp[AI,o,p,l]
   .cases m:(a.bx==b.bx&&a.by_==b.by_)
    .simp[AI,o,r,p,l,m]
    .cases N:(a.cx==b.cx&&a.cy==b.cy)<;>simp[AI,o,r,C,p,l,m,N]
 show(Op.equalIn (9999+1) 213 (.agg a.cl.toArray) (.agg b.cl.toArray)).run XW w=_;rw[run_equalIn_struct w 9999 _ _ _ l m,uR];exact j
theorem Yl{x y:YJ}{a b:Sg}:(MN 213 x y a.val b.val).run XW w= .ok (.value (.bool (!(a.beq b)))) w:=by
 have e:XW.eqGuardType XW.depth 213=false:=O
 have c:=qw (w:=w) a b;simp only[MN,Sg.val,AI,run_eqGuard_agg w .neq _ x y _ _ e,AH,run_neq_struct,BB]at c ⊢;rw[c]
 rfl
end
def Mh(v:Int):Int:=if v=1\/v=2 then 1 else if v=3 then 2 else if v=4 then 3 else if v=5 then 0 else -1
theorem El(v:Int):v=1\/v=2\/v=3\/v=4\/v=5\/(v≠1/\v≠2/\v≠3/\v≠4/\v≠5):=J
theorem Yy{v:Int}(h:v≠1/\v≠2/\v≠3/\v≠4/\v≠5):Mh v= -1:=by
 unfold Mh;rw[V J,V J,V J,V J]
def SO(i n x y:Int):Bool:=Mx x y&&(decide (i<n)||(x==0&&y==0))
def Ct(s:Sg):Bool:=SO 0 (Mh s.v) s.ax s.ay&&SO 1 (Mh s.v) s.bx s.by_&&SO 2 (Mh s.v) s.cx s.cy
def Sn(a v:Int):Bool:=v==1||(a !=5&&(v !=5||a !=1))
def Ef(a:Int)(s:Sg):Int:=if Mh s.v<0 then 2 else if Sn a s.v=false then 10 else if Ct s=false then 6 else 0
def Eg:Int->Nat->List Sg->Int×Nat
 |_,_,[]=>(0,0)
 |last,i,s::l=>if Ef last s=0 then Eg s.v (i+1) l else(Ef last s,i)
def SP(l:List Sg):Int×Nat:=if 256<l.length then(5,256)else Eg 5 0 l
def Qn(w:YN)(A:YY)(n:Nat)(ls:List Sg):Prop:=ls.length=n/\∀(k:Nat) (s:Sg),ls[k]? =some s->∃ad,A=some ad/\∀(j:Nat) (v:YM),s.cl[j]? =some v->w.cell? ((ad.add (k*7)).add j)=some v
theorem Qn.below{w a:YN}{A:YY}{n:Nat}{ls:List Sg}(h:Qn w A n ls)(f:Below w.heap.size w a):Qn a A n ls:=
 ⟨h.1,λk s b=>by obtain⟨ad,e,g⟩:=h.2 k s b;exact⟨ad,e,λj v c=>La f (g j v c)⟩⟩
def W5(s:Sg)(k:Nat):Int:=if k=0 then s.ax else if k=1 then s.bx else s.cx
def W4(s:Sg)(k:Nat):Int:=if k=0 then s.ay else if k=1 then s.by_ else s.cy
theorem Fg{s:Sg}:Ct s=true↔∀k,k<3->SO (k:Nat) (Mh s.v) (W5 s k) (W4 s k)=true:=by
 unfold Ct;simp only[AD];constructor
 .rintro⟨⟨a,b⟩,c⟩ k e;rcases(by omega:k=0\/k=1\/k=2)with rfl|rfl|rfl
  .exact a
  .exact b
  .exact c
 .intro h;exact⟨⟨h 0 J,h 1 J⟩,h 2 J⟩
section
variable{w:YN}{A A2:YY}{n n2 c c2:Nat}{ls ms:List Sg}{uX uV:Int}
theorem Rs{k:Nat}{ad:YB}(b:A=some ad)(a:k<n):(Ki 63 (.slice A n c) k).run XW w= .ok (.value (.pointer (some (ad.add (k*7))))) w:=by
 rw[b];exact Qa (elem:=213) O O a
theorem OZ{ad:YB}{s:Sg}(h:∀(j:Nat) (v:YM),s.cl[j]? =some v->w.cell? (ad.add j)=some v):(L4 213 ad).run XW w= .ok (.value s.val) w:=
 Rn (vs:=s.cl) O O h
theorem RK{v r:Int}(h:Mh v=r):Zv 290 #[I v] w (I r):=by
 rcases El v with rfl|rfl|rfl|rfl|rfl|a
 .obtain rfl:r=1:=h.symm;exact sL func290 rfl<|th O (stop:=1000) 6000 _<|ZW (I 1)
 .obtain rfl:r=1:=h.symm;exact sL func290 rfl<|th O (stop:=1000) 6000 _<|ZW (I 1)
 .obtain rfl:r=2:=h.symm;exact sL func290 rfl<|th O (stop:=1000) 6000 _<|ZW (I 2)
 .obtain rfl:r=3:=h.symm;exact sL func290 rfl<|th O (stop:=1000) 6000 _<|ZW (I 3)
 .obtain rfl:r=0:=h.symm;exact sL func290 rfl<|th O (stop:=1000) 6000 _<|ZW (I 0)
 .obtain rfl:r= -1:=h.symm.trans (Yy a);exact sL func290 rfl<|M<|X (v==4) false Zp<|X (v==3) false Zp<|X (v==1) false Zp<|X (v==2) false Zp<|X (v==5) false Zp<|ZW (I (-1))
theorem hH{v r:Int}(h:Mh v=r):Zv 338 #[I v] w (I r):=by
 rcases El v with rfl|rfl|rfl|rfl|rfl|a
 .obtain rfl:r=1:=h.symm;exact sL func338 rfl<|th O (stop:=1000) 6000 _<|ZW (I 1)
 .obtain rfl:r=1:=h.symm;exact sL func338 rfl<|th O (stop:=1000) 6000 _<|ZW (I 1)
 .obtain rfl:r=2:=h.symm;exact sL func338 rfl<|th O (stop:=1000) 6000 _<|ZW (I 2)
 .obtain rfl:r=3:=h.symm;exact sL func338 rfl<|th O (stop:=1000) 6000 _<|ZW (I 3)
 .obtain rfl:r=0:=h.symm;exact sL func338 rfl<|th O (stop:=1000) 6000 _<|ZW (I 0)
 .obtain rfl:r= -1:=h.symm.trans (Yy a);exact sL func338 rfl<|M<|X (v==1) false Zp<|X (v==2) false Zp<|X (v==3) false Zp<|X (v==4) false Zp<|X (v==5) false Zp<|ZW (I (-1))
theorem RO{g a:Nat}{cells:Array YM}{x y:Int}(h:Kr 36 cells g w)(e:∀(j:Nat) (v:YM),([I x,I y]:List YM)[j]? =some v->cells[a+j]? =some v):(L4 36 ⟨g,a,none⟩).run XW w= .ok (.value (pt x y)) w:=
 Nh (vs:=[I x,I y]) O O (λj v b=>by
  have f:w.heap[g]? =some (.cells cells 36 (0,0)):=h;simp only[BS,f,BJ,BC,if_false];exact e j v b)
theorem H6{i n x y:Int}(h:i<n):SO i n x y=Mx x y:=by unfold SO;rw[YU h];simp
theorem Yw{i n x y:Int}(h:¬i<n):SO i n x y=(Mx x y&&(x==0&&y==0)):=by unfold SO;rw[YV h];simp
theorem i4{s:Sg}{B:Bool}{r:Int}(x:Mh s.v=r)(h:Ct s=B):Zv 291 #[s.val] w (.bool B):=by
 refine sL func291 rfl<|M<|sO (Kw 233 3 #[(0,pt s.ax s.ay),(1,pt s.bx s.by_),(2,pt s.cx s.cy)]) (Kd 3) (Kr 36 #[I s.ax,I s.ay,I s.bx,I s.by_,I s.cx,I s.cy]) O (λl f h=>Kb O) λg=>M<|sU (ι:={k:Nat // k<=3/\∀j,j<k->SO (j:Nat) (Mh s.v) (W5 s j) (W4 s j)=true}) 34 (λq=>⟨[(1,.p 1 0),(11,.v (Kd 3 g)),(12,.v (I 3)),(13,.v (I q.1))],[(1,s.cl.map .v)]⟩) (λq u=>Kr 36 #[I s.ax,I s.ay,I s.bx,I s.by_,I s.cx,I s.cy] g u) (λq=>3-q.1) (⟨0,AE _,λj o=>absurd o J⟩) O (λ_=>O) zt (λu h=>h.2) ?_
 rintro⟨k,F,C⟩ G
 by_cases a:k<3
 case neg=>
  obtain rfl:k=3:=J
  obtain rfl:B=true:=h.symm.trans (Fg.2 C);exact M<|ZI false<|sN O<|M<|ZW Zt
 have bad:SO (k:Nat) (Mh s.v) (W5 s k) (W4 s k)=false->B=false:=λe=>by rw[<-h];exact CA.2 λvg=>by rw[Fg.1 vg k a]at e;cases e
 refine M<|sQ (decide ((k:Int)<3)) true O Zp<|H 1<|ZA (Ki 233 (Kd 3 g) k) (Zq g (k*2)) (λl f h=>Me (elem:=36) O O a)<|ZA (L4 36 ⟨g,k*2,none⟩) (pt (W5 s k) (W4 s k)) (λl f h=>RO h (λj v o=>by rcases(by omega:k=0\/k=1\/k=2)with rfl|rfl|rfl<;>(rcases j with _|_|j<;>simp[W5,W4]at o ⊢ <;>exact o))) ?_
 cases m:Mx (W5 s k) (W4 s k)with
 |false=>
  obtain rfl:B=false:=bad (by unfold SO;rw[m];rfl);exact Z (λl f h=>cX m) λu=>ZI true<|sN O<|M<|ZW Zf
 |true=>
 refine Z (λl f h=>cX m) λu=>ZD 9 (λl f h=>RK x) λu=> ?_
 have y:SO (k:Nat) (Mh s.v) (W5 s k) (W4 s k)=true->∀j,j<k+1->SO (j:Nat) (Mh s.v) (W5 s j) (W4 s j)=true:=λe j o=>by
  rcases AY j k with D|D
  .exact C j D
  .obtain rfl:j=k:=J
   exact e
 by_cases b:(k:Int)<r
 .refine ZT 26 (.bool (decide ((k:Int)>=r))) Zf (by rw[YV J])<|ZI false<|sS 13 a J O<|sR (⟨k+1,a,y (by rw[x,H6 b];exact m)⟩) O zo zt (λ_ h=>h.1.1)
 refine sM 26 (.bool (decide ((k:Int)>=r))) Zt O (by rw[YU J])<|H 12 ?_
 cases t:(W5 s k==0&&W4 s k==0)with
 |false=>
  obtain rfl:B=false:=bad (by rw[x,Yw b,m,t];rfl);exact ZA (MN 36 (.tmp 28) (.tmp 29) (pt (W5 s k) (W4 s k)) (pt 0 0)) Zt (λl f h=>by rw[Ym,t];rfl)<|ZI true<|sN O<|M<|ZW Zf
 |true=>
  refine ZA (MN 36 (.tmp 28) (.tmp 29) (pt (W5 s k) (W4 s k)) (pt 0 0)) Zf (λl f h=>by rw[Ym,t];rfl)<|ZI false<|sS 13 a J O<|sR (⟨k+1,a,y (by rw[x,Yw b,m,t];rfl)⟩) O zo zt (λ_ h=>h.1.1)
end
section
variable{w:YN}{A A2:YY}{n n2 c c2:Nat}{ls ms:List Sg}
theorem dj{a:Int}{k:Nat}{s:Sg}{l:List Sg}(h:Ef a s=0):Eg a k (s::l)=Eg s.v (k+1) l:=by rw[Eg,YS h]
theorem Jj{a:Int}{k:Nat}{s:Sg}{l:List Sg}(h:Ef a s≠0):Eg a k (s::l)=(Ef a s,k):=by rw[Eg,V h]
theorem fp{a m:Int}{s:Sg}(h:Mh s.v=m)(e:0<=m)(b:Sn a s.v=false):Ef a s=10:=by unfold Ef;rw[h,V J,YS b]
theorem gQ{a m:Int}{s:Sg}(h:Mh s.v=m)(f:0<=m)(e:Sn a s.v=true)(b:Ct s=false):Ef a s=6:=by unfold Ef;rw[h,V J,e,V Zd,YS b]
theorem nB{a m:Int}{s:Sg}(h:Mh s.v=m)(f:0<=m)(e:Sn a s.v=true)(b:Ct s=true):Ef a s=0:=by unfold Ef;rw[h,V J,e,V Zd,b,V Zd]
theorem GL{ls:List Sg}{k:Nat}{s:Sg}(h:ls[k]? =some s):ls.drop k=s::ls.drop (k+1):=by
 obtain⟨a,b⟩:=AP.1 h;rw[List.drop_eq_getElem_cons a,b]
theorem Ro{e:Int}{i:Nat}(ve:Qn w A n ls)(T:n<=1000000)(h:SP ls=(e,i)):Zv 244 #[.slice A n c] w (.tuple #[I e,I i]):=by
 have Q:=ve.1
 by_cases p:256<ls.length
 .have t:SP ls=(5,256):=YS p;rw[t]at h;obtain⟨rfl,rfl⟩:=BG h;exact sL func244 rfl<|M<|X (decide ((n:Int)>256)) true Zp<|ZW (.tuple #[I 5,I 256])
 have t:SP ls=Eg 5 0 ls:=V p;rw[t]at h;refine sL func244 rfl<|M<|X (decide ((n:Int)>256)) false Zp<|sU (ι:={q:Nat×Int // q.1<=n/\Eg 5 0 ls=Eg q.2 q.1 (ls.drop q.1)/\(1<=q.2/\q.2<=5)}) 52 (λq=>⟨[(4,.v (I q.1.2)),(11,.v (.slice A n c)),(12,.v (I n)),(13,.v (I q.1.1))],[]⟩) (λ_ _=>True) (λq=>n-q.1.1) (⟨(0,5),AE _,rfl,by decide⟩) O (λ_=>O) zt (λ_ _=>trivial) ?_
 rintro⟨⟨k,a⟩,vf⟩ g;have N:k<=n:=vf.1;have l:Eg 5 0 ls=Eg a k (ls.drop k):=vf.2.1;have uZ:1<=a/\a<=5:=vf.2.2
 by_cases B:k<n
 case neg=>
  rw[l,BT J]at h;obtain⟨rfl,rfl⟩:=BG h;exact M<|X (decide ((k:Int)<(n:Int))) false Zp<|sN O<|M<|ZW (.tuple #[I 0,I 0])
 obtain⟨s,y⟩:∃s,ls[k]? =some s:=⟨_,AA J⟩
 obtain⟨ad,uY,uR⟩:=ve.2 k s y;rw[l,GL y]at h;rw[GL y]at l;refine M<|X (decide ((k:Int)<(n:Int))) true Zp<|ZA (Ki 63 (.slice A n c) k) (.pointer (some (ad.add (k*7)))) (λF C h=>Rs uY B)<|sV (L4 213 (ad.add (k*7))) (s.val) O (λF C h=>OZ λj u L=>La C (uR j u L))<|H 3<|s0 O (stop:=1000) 3 _<|H 3 ?_
 obtain⟨r,o⟩:∃r,Mh s.v=r:=⟨_,rfl⟩
 have vg:r<0->e=2/\i=k:=λf=>by
  have m:Ef a s=2:=by unfold Ef;rw[o,YS f]
  rw[Jj (by rw[m];decide),m]at h;obtain⟨rfl,rfl⟩:=BG h;exact⟨rfl,rfl⟩
 cases b:Sn a s.v with
 | false=>
  refine tU (λ(x:Nat->AV) c=>P5 [20,21,22,23,24,25,26,27,28,29,30,31,32,33,34,35] x (M1 XW 1000 1000 (Ma 23 Zf (M1 XW 6 1000 (Ma 20 Zf c))))) (λD=> ?_) (λP=> ?_)
  .have G:s.v≠1:=λG=>by unfold Sn at b;rw[G]at b;cases b
   refine sM 20 (.bool (s.v==1)) Zf O Zp<|H 6 ?_
   by_cases S:a=5
   .exact ZT 23 (.bool (a !=5)) Zf Zp<|tb [20,21,22,23,24,25,26,27,28,29,30,31,32,33,34,35] λx=>tm (D x) O
   have K:s.v=5/\a=1:=by
    unfold Sn at b;simp[G,S]at b;exact b
   exact sM 23 (.bool (a !=5)) Zt O Zp<|H 10<|sM 27 (.bool (s.v !=5)) Zf O Zp<|H 13<|ZT 30 (.bool (a !=1)) Zf Zp<|tb [20,21,22,23,24,25,26,27,28,29,30,31,32,33,34,35] λx=>tm (D x) O
  refine Z (λF C h=>RK o) λu=> ?_
  by_cases f:r<0
  .obtain⟨rfl,rfl⟩:=vg f;exact X (decide (r<0)) true (YU f)<|sN O<|M<|ZW (.tuple #[I 2,I i])
  refine X (decide (r<0)) false (YV f) ?_;have m:=fp (s:=s) o J b;rw[Jj (by rw[m];decide),m]at h;obtain⟨rfl,rfl⟩:=BG h;exact ZI true<|sN O<|M<|ZW (.tuple #[I 10,I k])
 | true=>
  refine tU (λ(x:Nat->AV) c=>P5 [20,21,22,23,24,25,26,27,28,29,30,31,32,33,34,35] x (M1 XW 1000 1000 (Ma 20 Zt c))) (λD=> ?_) (λP=> ?_)
  .by_cases G:s.v=1
   .exact ZT 20 (.bool (s.v==1)) Zt Zp<|tb [20,21,22,23,24,25,26,27,28,29,30,31,32,33,34,35] λx=>tm (D x) O
   have K:a≠5/\(s.v≠5\/a≠1):=by
    unfold Sn at b;simp[G]at b;exact b
   refine sM 20 (.bool (s.v==1)) Zf O Zp<|H 6<|sM 23 (.bool (a !=5)) Zt O Zp<|H 10 ?_
   by_cases uW:s.v=5
   .exact sM 27 (.bool (s.v !=5)) Zf O Zp<|H 13<|ZT 30 (.bool (a !=1)) Zt Zp<|tb [20,21,22,23,24,25,26,27,28,29,30,31,32,33,34,35] λx=>tm (D x) O
   .exact ZT 27 (.bool (s.v !=5)) Zt Zp<|tb [20,21,22,23,24,25,26,27,28,29,30,31,32,33,34,35] λx=>tm (D x) O
  refine Z (λF C h=>RK o) λu=> ?_
  by_cases f:r<0
  .obtain⟨rfl,rfl⟩:=vg f;exact X (decide (r<0)) true (YU f)<|sN O<|M<|ZW (.tuple #[I 2,I i])
  refine X (decide (r<0)) false (YV f)<|ZI false ?_
  cases uS:Ct s with
  |true=>
   have m:=nB (s:=s) o J b uS;rw[dj m]at l;refine Z (λF C h=>i4 o uS) λu=>ZI false<|sS 13 B J O<|sR (⟨(k+1,s.v),B,l,by rcases El s.v with e|e|e|e|e|e<;>first|(show 1<=s.v/\s.v<=5;omega)|(rw[Yy e]at o;omega)⟩) O zo zt (λ_ _=>trivial)
  |false=>
   have m:=gQ (s:=s) o J b uS;rw[Jj (by rw[m];decide),m]at h;obtain⟨rfl,rfl⟩:=BG h;exact Z (λF C h=>i4 o uS) λu=>ZI true<|sN O<|M<|ZW (.tuple #[I 6,I k])
theorem IY{B:Bool}(f:Qn w A n ls)(j:n<=1000000)(a:decide ((SP ls).1=0)=B):Zv 180 #[.slice A n c] w (.bool B):=by
 obtain⟨e,i,b⟩:∃e i,SP ls=(e,i):=⟨_,_,rfl⟩
 rw[b]at a;exact sL func180 rfl<|M<|Z (λk g h=>Ro (c:=c) (f.below g) j b) λu=>ZX (.bool (e==0)) (by rw[<-a];rfl)
end
def E2(ls:List Sg):Nat->Int
 |0=>5
 |k+1=>(ls[k]?.map (·.v)).getD 5
theorem FJ{ls:List Sg}{k:Nat}{p:Sg}(h:ls[k]? =some p):E2 ls (k+1)=p.v:=by simp[E2,h]
section
variable{w:YN}{A A2:YY}{n n2 c c2 k:Nat}{ls ms:List Sg}{s:Sg}
theorem kr(v:Int):Sn 5 v=(v==1):=by unfold Sn;simp
theorem kP{a v:Int}(h:a≠5)(b:v≠5):Sn a v=true:=by unfold Sn;simp[h,b]
theorem fL{a:Int}(h:a≠5):Sn a 5=(a !=1):=by unfold Sn;simp[h]
theorem OV{B:Bool}(t:Qn w A n ls)(D:n<=1000000)(l:ls[k]? =some s)(e:Sn (E2 ls k) s.v=B):Zv 339 #[.slice A n c,I k] w (.bool B):=by
 have y:=t.1;have C:=(AP.1 l).1;obtain⟨ad,u,r⟩:=t.2 k s l;refine sL func339 rfl ?_;cases k with
 |zero=>
  rw[show E2 ls 0=5 from rfl,kr]at e;exact M<|ZI true<|sV (Ki 63 (.slice A n c) (0:Nat)) (.pointer (some (ad.add ((0:Nat)*7)))) O (λb a h=>Rs u J)<|H 3<|ZA (P8 213 (ad.add ((0:Nat)*7)) 0) (.pointer (some ((ad.add ((0:Nat)*7)).add 0))) (λb a h=>Li (d:=0) O)<|ZA (L4 3 ((ad.add ((0:Nat)*7)).add 0)) (I s.v) (λb a h=>K9 O (La a (r 0 _ rfl)))<|ZX (.bool (s.v==1)) (by rw[e])
 | succ k=>
  obtain⟨p,x⟩:∃p,ls[k]? =some p:=⟨_,AA J⟩
  obtain⟨f,j,g⟩:=t.2 k p x;rw[FJ x]at e;refine H 2<|sM 6 (.bool (((k+1:Nat):Int)==0)) Zf O Zp<|H 6<|sM 10 (I (YA.wrap (((k+1:Nat):Int)-1))) (I (k:Nat)) O (by rw[AK _ J];congr 1;omega)<|sV (Ki 63 (.slice A n c) k) (.pointer (some (f.add (k*7)))) O (λb a h=>Rs j J)<|H 7<|ZA (P8 213 (f.add (k*7)) 0) (.pointer (some ((f.add (k*7)).add 0))) (λb a h=>Li (d:=0) O)<|ZA (L4 3 ((f.add (k*7)).add 0)) (I p.v) (λb a h=>K9 O (La a (g 0 _ rfl))) ?_
  by_cases m:p.v=5
  .rw[m,kr]at e;exact X (p.v==5) true (by simp[m])<|sV (Ki 63 (.slice A n c) (k+1:Nat)) (.pointer (some (ad.add ((k+1:Nat)*7)))) O (λb a h=>Rs u J)<|H 3<|ZA (P8 213 (ad.add ((k+1:Nat)*7)) 0) (.pointer (some ((ad.add ((k+1:Nat)*7)).add 0))) (λb a h=>Li (d:=0) O)<|ZA (L4 3 ((ad.add ((k+1:Nat)*7)).add 0)) (I s.v) (λb a h=>K9 O (La a (r 0 _ rfl)))<|ZX (.bool (s.v==1)) (by rw[e])
  .refine X (p.v==5) false (by simp[m])<|sV (Ki 63 (.slice A n c) (k+1:Nat)) (.pointer (some (ad.add ((k+1:Nat)*7)))) O (λb a h=>Rs u J)<|H 3<|ZA (P8 213 (ad.add ((k+1:Nat)*7)) 0) (.pointer (some ((ad.add ((k+1:Nat)*7)).add 0))) (λb a h=>Li (d:=0) O)<|sV (L4 3 ((ad.add ((k+1:Nat)*7)).add 0)) (I s.v) O (λb a h=>K9 O (La a (r 0 _ rfl)))<|H 6 ?_
   by_cases o:s.v=5
   .rw[o,fL m]at e;exact sM 27 (.bool (s.v !=5)) Zf O (by simp[o])<|H 10<|sM 31 (I (YA.wrap (((k+1:Nat):Int)-1))) (I (k:Nat)) O (by rw[AK _ J];congr 1;omega)<|sV (Ki 63 (.slice A n c) k) (.pointer (some (f.add (k*7)))) O (λb a h=>Rs j J)<|H 11<|ZA (P8 213 (f.add (k*7)) 0) (.pointer (some ((f.add (k*7)).add 0))) (λb a h=>Li (d:=0) O)<|ZA (L4 3 ((f.add (k*7)).add 0)) (I p.v) (λb a h=>K9 O (La a (g 0 _ rfl)))<|ZX (.bool (p.v !=1)) (by rw[e])
   .rw[kP m o]at e;subst e;exact ZT 27 (.bool (s.v !=5)) Zt (by simp[o])<|ZW Zt
theorem k7:Zv 340 #[s.val] w (.agg #[I s.ax,I s.ay,I s.bx,I s.by_,I s.cx,I s.cy]):=sL func340 rfl<|M<|ZW (.agg #[I s.ax,I s.ay,I s.bx,I s.by_,I s.cx,I s.cy])
theorem Gj{x y:Int}(h:(x==0&&y==0)=true):Mx x y=true:=by
 simp at h;obtain⟨rfl,rfl⟩:=h;rfl
theorem fW(v:Int):Mh v= -1\/Mh v=0\/Mh v=1\/Mh v=2\/Mh v=3:=by
 unfold Mh;split;omega;split;omega;split;omega;split;omega;omega
def sH(s:Sg):List YM:=[I s.ax,I s.ay,I s.bx,I s.by_,I s.cx,I s.cy]
theorem cP{e:Int}(D:Qn w A n ls)(G:n<=1000000)(x:ls[k]? =some s)(o:Ef (E2 ls k) s=e):Zv 305 #[.slice A n c,I k] w (I e):=by
 have L:=D.1;have uR:=(AP.1 x).1;obtain⟨ad,ve,F⟩:=D.2 k s x;obtain⟨r,B⟩:∃r,Mh s.v=r:=⟨_,rfl⟩
 unfold Ef at o;rw[B]at o;refine sL func305 rfl<|M<|sV (Ki 63 (.slice A n c) k) (.pointer (some (ad.add (k*7)))) O (λg b h=>Rs ve J)<|H 3<|ZA (P8 213 (ad.add (k*7)) 0) (.pointer (some ((ad.add (k*7)).add 0))) (λg b h=>Li (d:=0) O)<|ZA (L4 3 ((ad.add (k*7)).add 0)) (I s.v) (λg b h=>K9 O (La b (F 0 _ rfl)))<|Z (λg b h=>hH B) λu=> ?_
 by_cases C:r<0
 .rw[YS C]at o;subst o;exact X (decide (r<0)) true (YU C)<|ZW (I 2)
 rw[V C]at o;refine X (decide (r<0)) false (YV C) ?_;cases t:Sn (E2 ls k) s.v with
 |false=>
  rw[YS t]at o;subst o;exact Z (λg b h=>OV (c:=c) (D.below b) G x t) λu=>ZI true<|ZW (I 10)
 |true=>
 rw[t,V Zd]at o;refine Z (λg b h=>OV (c:=c) (D.below b) G x t) λu=>ZI false<|ZA (Ki 63 (.slice A n c) k) (.pointer (some (ad.add (k*7)))) (λg b h=>Rs ve J)<|ZA (L4 213 (ad.add (k*7))) (s.val) (λg b h=>OZ λj u vg=>La b (F j u vg))<|Z (λg b h=>k7 (s:=s)) λu=>sU (ι:={j:Nat // j<=3/\∀i,i<j->SO (i:Nat) r (W5 s i) (W4 s i)=true}) 51 (λq=>⟨[(5,.v (I r)),(6,.p 6 0),(7,.v (I (q.1:Int)))],[(6,(sH s).map .v)]⟩) (λq u=>True) (λq=>3-q.1) (⟨0,AE _,λi hi=>absurd hi J⟩) O (λ_=>O) zt (λu h=>trivial) ?_
 rintro⟨j,vg,uS⟩ N
 by_cases f:j<3
 case neg=>
  obtain rfl:j=3:=J
  rw[Fg.2 (by rw[B];exact uS),V Zd]at o;subst o;exact M<|ZI false<|sN O<|M<|ZW (I 0)
 have bad:SO (j:Nat) r (W5 s j) (W4 s j)=false->e=6:=λh=>by
  rw[YS (CA.2 λK=>by rw[<-B,Fg.1 K j f]at h;cases h)]at o;exact o.symm
 have y:SO (j:Nat) r (W5 s j) (W4 s j)=true->∀i,i<j+1->SO (i:Nat) r (W5 s i) (W4 s i)=true:=λh i hi=>by
  rcases AY i j with vf|vf
  .exact uS i vf
  .obtain rfl:i=j:=J
   exact h
 refine M<|sQ (decide ((j:Int)<3)) true O Zp<|H 3 ?_
 rcases(by omega:j=0\/j=1\/j=2)with rfl|rfl|rfl
 .by_cases a:((0:Nat):Int)<r
  .refine ZT 31 (.bool (decide (((0:Nat):Int)<r))) Zt (by rw[YU a]) ?_;cases m:Mx (W5 s 0) (W4 s 0)with
   |false=>
    obtain rfl:e=6:=bad (by rw[H6 a];exact m);exact Z (λg b h=>A9 m) λu=>ZI true<|sN O<|M<|ZW (I 6)
   |true=>
    refine ZD 14 (λg b h=>A9 m) λu=>ZT 42 (.bool (decide (((0:Nat):Int)>=r))) Zf (by rw[YV J])<|ZI false<|sR (⟨0+1,f,y (by rw[H6 a];exact m)⟩) O zo zt (λ_ h=>trivial)
  .refine sM 31 (.bool (decide (((0:Nat):Int)<r))) Zf O (by rw[YV a])<|H 14<|sM 42 (.bool (decide (((0:Nat):Int)>=r))) Zt O (by rw[YU J])<|H 19 ?_
   cases l:(W5 s 0==0&&W4 s 0==0)with
   |false=>
    obtain rfl:e=6:=bad (by rw[Yw a,l,BI]);exact ZA (MN 36 (.tmp 46) (.tmp 47) (pt (W5 s 0) (W4 s 0)) (pt 0 0)) Zt (λg b h=>by rw[Ym,l];rfl)<|ZI true<|sN O<|M<|ZW (I 6)
   |true=>
    refine ZA (MN 36 (.tmp 46) (.tmp 47) (pt (W5 s 0) (W4 s 0)) (pt 0 0)) Zf (λg b h=>by rw[Ym,l];rfl)<|ZI false<|sR (⟨0+1,f,y (by rw[Yw a,l,Gj l];rfl)⟩) O zo zt (λ_ h=>trivial)
 .by_cases a:((1:Nat):Int)<r
  .refine ZT 31 (.bool (decide (((1:Nat):Int)<r))) Zt (by rw[YU a]) ?_;cases m:Mx (W5 s 1) (W4 s 1)with
   |false=>
    obtain rfl:e=6:=bad (by rw[H6 a];exact m);exact Z (λg b h=>A9 m) λu=>ZI true<|sN O<|M<|ZW (I 6)
   |true=>
    refine ZD 14 (λg b h=>A9 m) λu=>ZT 42 (.bool (decide (((1:Nat):Int)>=r))) Zf (by rw[YV J])<|ZI false<|sR (⟨1+1,f,y (by rw[H6 a];exact m)⟩) O zo zt (λ_ h=>trivial)
  .refine sM 31 (.bool (decide (((1:Nat):Int)<r))) Zf O (by rw[YV a])<|H 14<|sM 42 (.bool (decide (((1:Nat):Int)>=r))) Zt O (by rw[YU J])<|H 19 ?_
   cases l:(W5 s 1==0&&W4 s 1==0)with
   |false=>
    obtain rfl:e=6:=bad (by rw[Yw a,l,BI]);exact ZA (MN 36 (.tmp 46) (.tmp 47) (pt (W5 s 1) (W4 s 1)) (pt 0 0)) Zt (λg b h=>by rw[Ym,l];rfl)<|ZI true<|sN O<|M<|ZW (I 6)
   |true=>
    refine ZA (MN 36 (.tmp 46) (.tmp 47) (pt (W5 s 1) (W4 s 1)) (pt 0 0)) Zf (λg b h=>by rw[Ym,l];rfl)<|ZI false<|sR (⟨1+1,f,y (by rw[Yw a,l,Gj l];rfl)⟩) O zo zt (λ_ h=>trivial)
 .by_cases a:((2:Nat):Int)<r
  .refine ZT 31 (.bool (decide (((2:Nat):Int)<r))) Zt (by rw[YU a]) ?_;cases m:Mx (W5 s 2) (W4 s 2)with
   |false=>
    obtain rfl:e=6:=bad (by rw[H6 a];exact m);exact Z (λg b h=>A9 m) λu=>ZI true<|sN O<|M<|ZW (I 6)
   |true=>
    refine ZD 14 (λg b h=>A9 m) λu=>ZT 42 (.bool (decide (((2:Nat):Int)>=r))) Zf (by rw[YV J])<|ZI false<|sR (⟨2+1,f,y (by rw[H6 a];exact m)⟩) O zo zt (λ_ h=>trivial)
  .refine sM 31 (.bool (decide (((2:Nat):Int)<r))) Zf O (by rw[YV a])<|H 14<|sM 42 (.bool (decide (((2:Nat):Int)>=r))) Zt O (by rw[YU J])<|H 19 ?_
   cases l:(W5 s 2==0&&W4 s 2==0)with
   |false=>
    obtain rfl:e=6:=bad (by rw[Yw a,l,BI]);exact ZA (MN 36 (.tmp 46) (.tmp 47) (pt (W5 s 2) (W4 s 2)) (pt 0 0)) Zt (λg b h=>by rw[Ym,l];rfl)<|ZI true<|sN O<|M<|ZW (I 6)
   |true=>
    refine ZA (MN 36 (.tmp 46) (.tmp 47) (pt (W5 s 2) (W4 s 2)) (pt 0 0)) Zf (λg b h=>by rw[Ym,l];rfl)<|ZI false<|sR (⟨2+1,f,y (by rw[Yw a,l,Gj l];rfl)⟩) O zo zt (λ_ h=>trivial)
theorem SW{e:Int}{i:Nat}(t:Qn w A n ls)(y:n<=1000000)(f:SP ls=(e,i)):Zv 269 #[.slice A n c] w (.tuple #[I e,I i]):=by
 have D:=t.1
 by_cases j:256<ls.length
 .have l:SP ls=(5,256):=YS j;rw[l]at f;obtain⟨rfl,rfl⟩:=BG f;exact sL func269 rfl<|M<|X (decide ((n:Int)>256)) true Zp<|ZW (.tuple #[I 5,I 256])
 have l:SP ls=Eg 5 0 ls:=V j;rw[l]at f;refine sL func269 rfl<|M<|X (decide ((n:Int)>256)) false Zp<|sU (ι:={k:Nat // k<=n/\Eg 5 0 ls=Eg (E2 ls k) k (ls.drop k)}) 22 (λq=>⟨[(0,.v (.slice A n c)),(4,.v (I q.1))],[]⟩) (λ_ _=>True) (λq=>n-q.1) (⟨0,AE _,rfl⟩) O (λ_=>O) zt (λ_ _=>trivial) ?_
 rintro⟨k,B,b⟩ g
 by_cases x:k<n
 case neg=>
  rw[b,BT J]at f;obtain⟨rfl,rfl⟩:=BG f;exact M<|X (decide ((k:Int)<(n:Int))) false Zp<|sN O<|M<|ZW (.tuple #[I 0,I 0])
 obtain⟨s,a⟩:∃s,ls[k]? =some s:=⟨_,AA J⟩
 rw[b,GL a]at f;rw[GL a]at b;refine M<|X (decide ((k:Int)<(n:Int))) true Zp ?_
 by_cases o:Ef (E2 ls k) s=0
 .rw[dj o,<-FJ a]at b;refine Z (λC r h=>cP (c:=c) (t.below r) y a o) λu=>ZI false<|sS 4 x J O<|sR (⟨k+1,by omega,b⟩) O zo zt (λ_ _=>trivial)
 .rw[Jj o]at f;obtain⟨m,rfl⟩:=BG f;have p:e≠0:=by rw[<-m];exact o
  exact Z (λC r h=>cP (c:=c) (t.below r) y a m) λu=>X (e !=0) true (by simpa using p)<|sN O<|M<|ZW (.tuple #[I e,I k])
theorem Aa{B:Bool}(f:Qn w A n ls)(j:n<=1000000)(a:decide ((SP ls).1=0)=B):Zv 224 #[.slice A n c] w (.bool B):=by
 obtain⟨e,i,b⟩:∃e i,SP ls=(e,i):=⟨_,_,rfl⟩
 rw[b]at a;exact sL func224 rfl<|M<|Z (λl g h=>SW (c:=c) (f.below g) j b) λu=>ZX (.bool (e==0)) (by rw[<-a];rfl)
end
def Bs(s:Sg):List (Int×Int):=[(s.ax,s.ay),(s.bx,s.by_),(s.cx,s.cy)]
def am(s:Sg):List (Int×Int):=(Bs s).take (Mh s.v).toNat
def Q8(p:Int×Int):List R:=[K8 p.1,K8 p.2]
def Qk(v:Int):UInt8:=if v=1 then 77 else if v=2 then 76 else if v=3 then 81 else if v=4 then 67 else 90
def GD(s:Sg):List R:=[Qk s.v]::(am s).flatMap Q8
def Pv(l:List Sg):List R:=l.flatMap GD
def Pb(l:List Sg):R:=Oc 32 (Pv l)
def Ru(l:List Sg):Bool:=decide ((SP l).1=0)
def FT(s:Sg):Prop:=(s.v=1\/s.v=2\/s.v=3\/s.v=4\/s.v=5)/\Ct s=true
theorem PJ:∀{last:Int} {k:Nat} {l:List Sg},(Eg last k l).1=0->∀s∈l,FT s
 |_,_,[],_,s,c=>by cases c
 | last,k,s::l,h,t,e=>by
  rw[Eg]at h;split at h
  .rename_i b;have c:FT s:=by
    unfold Ef at b;split at b
    .cases b
    .rename_i g;split at b
     .cases b
     .split at b
      .cases b
      .rename_i j;refine⟨?_,by cases f:Ct s;exact absurd f j;rfl⟩;rcases El s.v with a|a|a|a|a|a
       .exact .inl a
       .exact .inr (.inl a)
       .exact .inr (.inr (.inl a))
       .exact .inr (.inr (.inr (.inl a)))
       .exact .inr (.inr (.inr (.inr a)))
       .rw[Yy a]at g;omega
   rcases AM.1 e with rfl|e
   .exact c
   .exact PJ h t e
  .rename_i b;exact absurd h b
theorem EW{l:List Sg}(h:Ru l=true):(∀s∈l,FT s)/\l.length<=256:=by
 have a:(SP l).1=0:=YP h;unfold SP at a;split at a
 .cases a
 .exact⟨PJ a,by omega⟩
theorem UL{s:Sg}(h:Ct s=true):(-1048576<=s.ax/\s.ax<=1048576/\-1048576<=s.ay/\s.ay<=1048576)/\(-1048576<=s.bx/\s.bx<=1048576/\-1048576<=s.by_/\s.by_<=1048576)/\(-1048576<=s.cx/\s.cx<=1048576/\-1048576<=s.cy/\s.cy<=1048576):=by
 simp only[Ct,SO,AD,Mx,decide_eq_true_eq]at h;omega
theorem P4{x:Int}(h: -1048576<=x/\x<=1048576):(K8 x).length<=25:=by
 have:=T2 (x:=x) (k:=1) Zd (by rw[show pw 1=4294967296 from by decide];omega);omega
theorem E3(c:UInt8)(x:R)(l:List R):Oc c (x::l)=x++l.flatMap (c::·):=by
 induction l generalizing x with
 |nil=>simp[Oc]
 |cons y l a=>
  show x++c::Oc c (y::l)=_;rw[a y];simp
theorem XV(c:UInt8){a b:List R}(e:a≠[]):Oc c (a++b)=Oc c a++b.flatMap (c::·):=by
 cases a with
 |nil=>exact absurd rfl e
 |cons x a=>rw[List.cons_append,E3,E3];simp
theorem FC{l:List Sg}{k:Nat}{s:Sg}(h:l[k]? =some s):Pv (l.take (k+1))=Pv (l.take k)++GD s:=by
 unfold Pv;rw[BA,h];simp
theorem jS(s:Sg):(GD s).length<=7:=by
 have e:(am s).length<=3:=by unfold am Bs;rw[AR];simp;omega
 simp only[GD,Q8,AG,List.length_flatMap];have c:∀l:List (Int×Int),(l.map λ_=>0+1+1).sum=2*l.length:=λl=>by
  induction l with
  |nil=>rfl
  |cons p l a=>simp only[BW,List.sum_cons,a,AG];omega
 have b:=c (am s);simp only[AW]at b ⊢;omega
theorem Gg:∀l:List Sg,(Pv l).length<=7*l.length
 | []=>AJ _
 |s::l=>by
  have a:=Gg l;have:=jS s;simp only[Pv,BO,AL,AG]at a ⊢;omega
theorem jD{s:Sg}(h:FT s):Nm (GD s)<=151:=by
 obtain⟨c,e,b⟩:=UL h.2;have k:=P4 ⟨c.1,c.2.1⟩;have l:=P4 ⟨c.2.2.1,c.2.2.2⟩;have g:=P4 ⟨e.1,e.2.1⟩;have f:=P4 ⟨e.2.2.1,e.2.2.2⟩;have j:=P4 ⟨b.1,b.2.1⟩;have c2:=P4 ⟨b.2.2.1,b.2.2.2⟩;unfold GD am Bs;rcases fW s.v with a|a|a|a|a<;>rw[a]<;>simp[Nm,Q8]<;>omega
theorem IE:∀{l:List Sg},(∀s∈l,FT s)->Nm (Pv l)<=151*l.length
 | [],_=>AJ _
 |s::l,h=>by
  have b:=IE (l:=l) λt a=>h t (by simp[a])
  have:=jD (h s Zs);have e:Pv (s::l)=GD s++Pv l:=by simp[Pv]
  rw[e,R7];simp only[AG];omega
theorem IR{l:List Sg}(h:∀s∈l,FT s):(Pb l).length<=158*l.length:=by
 have b:=JT 32 (Pv l);have c:=IE h;have a:=Gg l;unfold Pb;omega
theorem kw{l:List Sg}{k:Nat}(h:∀s∈l,FT s):∀s∈l.take k,FT s:=λs a=>h s (BN a)
section
variable{w:YN}{A:YY}{n c:Nat}{ls:List Sg}
theorem ig{u:YN}{B m cc g:Nat}{uV:YY}{xs:List YM}{cells:Array YM}(h:Y u B 9 1 uV m cc xs)(f:Kr 36 cells g u):g∉bl uV:=λe=>by
 obtain⟨b,own,a⟩:=h.ty g e;have j:u.heap[g]? =some (.cells cells 36 (0,0)):=f;rw[j]at a;simp only[CB,Obj.cells.injEq]at a;exact absurd a.2.1 Zd
theorem JQ{v r:Int}(a:v=1\/v=2\/v=3\/v=4\/v=5)(h:Mh v=r):Zv 181 #[I v] w (I r):=by
 rcases a with rfl|rfl|rfl|rfl|rfl
 .obtain rfl:r=1:=h.symm;exact sL func181 rfl<|M<|ZW (I 1)
 .obtain rfl:r=1:=h.symm;exact sL func181 rfl<|M<|ZW (I 1)
 .obtain rfl:r=2:=h.symm;exact sL func181 rfl<|M<|ZW (I 2)
 .obtain rfl:r=3:=h.symm;exact sL func181 rfl<|M<|ZW (I 3)
 .obtain rfl:r=0:=h.symm;exact sL func181 rfl<|M<|ZW (I 0)
theorem LG{B m yc a:Nat}{y:YY}{p l:List R}(f:Y w B 9 1 y m yc (sv p))(j:B<=w.heap.size)(g:Kr 9 (sv l).toArray a w)(k:m<1000000)(o:l.length<=10):
 Pp XW w (bl y) (λz:YZ=> .slice z.1 (m+l.length) z.2) (λz v=>Y v B 9 1 z.1 (m+l.length) z.2 (sv (p++l))) (Ln 53 53 (.slice y m yc) (Kd l.length a)):=by
 have h:=N4 (P:=XW) (s:=1) (z:= .string ⟨#[]⟩) (bytes:=16) (m:=l.length) (cc:=l.length) (t:=53) (elem:=9) O O rfl Zd f j (Mm (n:=l.length) g (by simp[sv])) (by intro v b;simp[sv]at b;obtain⟨x,_,rfl⟩:=b;rfl) J Zd;have e:sv (p++l)=sv p++sv l:=by simp[sv]
 rw[e];exact h
theorem VI{g n c i:Nat}(hi:i<=c:=by decide):(js 233 (.slice (some ⟨g,0,none⟩) n c) i).run XW w= .ok (.value (.slice (some ⟨g,0,none⟩) i c)) w:=by
 have b:XW.underlying 233=some (.slice 36):=O
 have a:XW.elem 233=36:=O
 have e:Ot XW 36=some 2:=O
 have f:=run_slice_h (P:=XW) w 233 (some ⟨g,0,none⟩) n c (by rw[a];exact b) .i64 i J J;have h:=run_sliceAt_slice (P:=XW) w 233 (.slice (some ⟨g,0,none⟩) n c) none (some (I i)) none (by rw[a];exact b);simp only[js,AI,h,f,a,M0 e,AH,BB];simp[sliced,Addr.add]
end
section
variable{w:YN}{A:YY}{n c:Nat}{ls:List Sg}
theorem mu{v:Int}(a:v=1\/v=2\/v=3\/v=4\/v=5):(RM 9 (E [32,77,76,81,67,90]) .i64 v (YA.wrap (v+1))).run XW w= .ok (.value (E [Qk v])) w:=by
 rcases a with rfl|rfl|rfl|rfl|rfl
 .exact O9 (i:=1) O rfl
 .exact O9 (i:=2) O rfl
 .exact O9 (i:=3) O rfl
 .exact O9 (i:=4) O rfl
 .exact O9 (i:=5) O rfl
theorem kf{g j:Nat}{v k l m b o f:Int}{q:Int×Int}(h:Kr 36 #[I k,I l,I m,I b,I o,I f] g w)(e:(Bs ⟨v,k,l,m,b,o,f⟩)[j]? =some q):(L4 36 ⟨g,j*2,none⟩).run XW w= .ok (.value (pt q.1 q.2)) w:=by
 rcases j with _|_|_|j
 .obtain rfl:(k,l)=q:=by simpa[Bs]using e
  refine RO h λi x a=> ?_
  rcases i with _|_|i<;>simp at a<;>subst a<;>rfl
 .obtain rfl:(m,b)=q:=by simpa[Bs]using e
  refine RO h λi x a=> ?_
  rcases i with _|_|i<;>simp at a<;>subst a<;>rfl
 .obtain rfl:(o,f)=q:=by simpa[Bs]using e
  refine RO h λi x a=> ?_
  rcases i with _|_|i<;>simp at a<;>subst a<;>rfl
 .simp[Bs]at e
theorem cN{s:Sg}{j:Nat}{q:Int×Int}(h:Ct s=true)(a:(Bs s)[j]? =some q): -1048576<=q.1/\q.1<=1048576/\-1048576<=q.2/\q.2<=1048576:=by
 obtain⟨e,f,b⟩:=UL h;rcases j with _|_|_|j
 .obtain rfl:(s.ax,s.ay)=q:=by simpa[Bs]using a
  exact e
 .obtain rfl:(s.bx,s.by_)=q:=by simpa[Bs]using a
  exact f
 .obtain rfl:(s.cx,s.cy)=q:=by simpa[Bs]using a
  exact b
 .simp[Bs]at a
theorem Lo{v:Int}(a:v=1\/v=2\/v=3\/v=4\/v=5):∃r:Nat,Mh v=(r:Int)/\r<=3:=by
 rcases a with rfl|rfl|rfl|rfl|rfl
 .exact⟨1,rfl,by decide⟩
 .exact⟨1,rfl,by decide⟩
 .exact⟨2,rfl,by decide⟩
 .exact⟨3,rfl,by decide⟩
 .exact⟨0,rfl,by decide⟩
theorem iO(hs:Qn w A n ls)(hB:Ru ls=true):Zv 107 #[.slice A n c] w (.tuple #[E (Pb ls),I 0]):=by
 have hln:=hs.1;obtain⟨P,hsmall⟩:=EW hB;have hfl:=IR P;refine sL func107 rfl<|M<|Z (λa t h=>IY (c:=c) (hs.below t) J hB) λu=>ZI false<|sU (ι:={q:Nat×Nat×(YZ) // q.1<=n/\q.2.1=(Pv (ls.take q.1)).length}) 56 (λq=>⟨[(0,.v (.slice A n c)),(4,.v (.slice q.1.2.2.1 q.1.2.1 q.1.2.2.2)),(12,.v (.slice A n c)),(13,.v (I n)),(14,.v (I q.1.1))],[]⟩) (λq u=>Y u w.heap.size 9 1 q.1.2.2.1 q.1.2.1 q.1.2.2.2 (sv (Pv (ls.take q.1.1)))) (λq=>n-q.1.1) (⟨(0,0,none,0),AE _,rfl⟩) O (λ_=>O) zt (λu h=>s_) ?_
 rintro⟨⟨k,m,y,yc⟩,hk,hm⟩ gg;have hk:k<=n:=hk;have hm:m=(Pv (ls.take k)).length:=hm;have hml:m<=7*256:=by
  have S:=Gg (ls.take k);have h2:(ls.take k).length<=256:=by rw[AR];omega
  omega
 by_cases uV:k<n
 case neg=>
  obtain rfl:k=n:=J
  have uT:ls.take k=ls:=AN J;exact M<|X (decide ((k:Int)<(k:Int))) false Zs<|sN O<|M<|Z (λa t h=>gD (p:=Pv ls) (by rw[<-uT];exact h) (by show(Pb ls).length<=_;omega) (show m<=100000000 from by omega)) λu=>ZW (.tuple #[E (Oc 32 (Pv ls)),I 0])
 obtain⟨s,hsk⟩:∃s,ls[k]? =some s:=⟨_,AA J⟩
 obtain⟨ad,hA,hc⟩:=hs.2 k s hsk;have hgs:=P s (AQ hsk);have x:=FC hsk;obtain⟨p,hp⟩:∃p,p=Pv (ls.take k):=⟨_,rfl⟩
 rw[<-hp]at x hm;refine M<|X (decide ((k:Int)<(n:Int))) true Zp<|ZA (Ki 63 (.slice A n c) k) (.pointer (some (ad.add (k*7)))) (λa t h=>Rs hA uV) ?_
 have uS:= @cN s;obtain⟨v,ve,N,vf,B,K,uZ⟩:=s;obtain⟨hv,hfit⟩:=hgs;replace uS:=λj q=> @uS j q hfit
 have hv:v=1\/v=2\/v=3\/v=4\/v=5:=hv;obtain⟨r,hr,hr3⟩:=Lo hv;have hpts:GD ⟨v,ve,N,vf,B,K,uZ⟩=[Qk v]::((Bs ⟨v,ve,N,vf,B,K,uZ⟩).take r).flatMap Q8:=by
  unfold GD am;rw[show(Sg.mk v ve N vf B K uZ).v=v from rfl,hr];rfl
 obtain⟨T,hT⟩:∃T,T=Bs ⟨v,ve,N,vf,B,K,uZ⟩:=⟨_,rfl⟩
 have hTl:T.length=3:=by rw[hT];rfl
 rw[hpts,<-hT]at x;refine sV (L4 213 (ad.add (k*7))) (Sg.val ⟨v,ve,N,vf,B,K,uZ⟩) O (λa t h=>OZ λj u uU=>La t (hc j u uU))<|H 6<|sV (RM 9 (E [32,77,76,81,67,90]) .i64 v (YA.wrap (v+1))) (E [Qk v]) O (λa t h=>mu hv)<|H 7<|sO (Kw 53 1 #[(0,E [Qk v])]) (Kd 1) (Kr 9 #[E [Qk v]]) O (λa t h=>Kb O) λgb=>H 8<|sY (L:=bl y) (val:=λ(z:YZ)=> .slice z.1 (m+1) z.2) (Φ':=λ(z:YZ) uR=>Y uR w.heap.size 9 1 z.1 (m+1) z.2 (sv (p++ [[Qk v]]))) (G:=λ(z:YZ) uR=>Y uR w.heap.size 9 1 z.1 (m+1) z.2 (sv (p++ [[Qk v]]))) (Ln 53 53 (.slice y m yc) (Kd 1 gb)) (λa t h=>by have ho:Y a w.heap.size 9 1 y m yc (sv (p)):=(by rw[hp];exact h.1);exact LG (l:=[[Qk v]]) ho t.size h.2 (show m<1000000 from by omega) Zs) (λa h=>λb uW=>⟨((show Y a w.heap.size 9 1 y m yc (sv (p))from(by rw[hp];exact h.1)).lt b uW).1,((show Y a w.heap.size 9 1 y m yc (sv (p))from(by rw[hp];exact h.1)).blk b uW).2⟩) (λz wa a e1 e2 h hG=>hG) O O λz=>M<|tR (i:=6) (j:=9) O ?_ ?_
 .refine Py.make (i:=6) (Kw 233 3 #[(0,pt ve N),(1,pt vf B),(2,pt K uZ)]) (Kd 3) (Kr 36 #[I ve,I N,I vf,I B,I K,I uZ]) O (λa t h=>Kb O) λg=>M<|ZD 10 (λa t h=>JQ hv hr) λu=>ZA (js 233 (.slice (some ⟨g,0,none⟩) 3 3) (r:Nat)) (.slice (some ⟨g,0,none⟩) r 3) (λa t h=>VI J)<|sU (ι:={q:Nat×Nat×(YZ) // q.1<=r/\q.2.1=m+1+2*q.1}) 56 (λq=>⟨[(0,.v (.slice A n c)),(4,.v (.slice q.1.2.2.1 q.1.2.1 q.1.2.2.2)),(12,.v (.slice A n c)),(13,.v (I n)),(14,.v (I k)),(37,.v (.slice (some ⟨g,0,none⟩) r 3)),(38,.v (I r)),(39,.v (I q.1.1))],[]⟩) (λq u=>Y u w.heap.size 9 1 q.1.2.2.1 q.1.2.1 q.1.2.2.2 (sv ((p++ [[Qk v]])++(T.take q.1.1).flatMap Q8))/\Kr 36 #[I ve,I N,I vf,I B,I K,I uZ] g u) (λq=>r-q.1.1) (⟨(0,m+1,z.1,z.2),AE _,rfl⟩) O (λ_=>O) zt (λu h=>(by have h2:=h;simp only[List.take_zero,BP,CH];exact⟨h2.1.1,h2.1.2⟩)) ?_
  rintro⟨⟨j,f,y2,o⟩,uU,Q⟩ gg2;have uU:j<=r:=uU;have Q:f=m+1+2*j:=Q
  by_cases vg:j<r
  case neg=>
   obtain rfl:j=r:=J
   refine M<|X (decide ((j:Int)<(j:Int))) false Zs<|sN O<|M<|sS 14 uV J O<|sR (⟨(k+1,f,y2,o),by show k+1<=n;omega,by show f=_;rw[x];simp only[AL,AG,List.length_flatMap,Q8,AW];have e:∀l:List (Int×Int),(l.map λ_=>0+1+1).sum=2*l.length:=(λl=>by induction l with|nil=>rfl|cons p l ih=>simp only[BW,List.sum_cons,ih,AG];omega);rw[e,AR,hTl];omega⟩) O zo zt (λu h=>(by have S:=h.1;show Y u w.heap.size 9 1 y2 f o (sv (Pv (ls.take (k+1))));rw[x,List.append_cons];exact S))
  obtain⟨q,uX⟩:∃q,T[j]? =some q:=⟨_,AA J⟩
  have F:(T.take (j+1)).flatMap Q8=(T.take j).flatMap Q8++ [K8 q.1,K8 q.2]:=by rw[BA,uX];simp[Q8]
  obtain⟨D,C⟩:∃D,D=(p++ [[Qk v]])++(T.take j).flatMap Q8:=⟨_,rfl⟩
  have hrng:=uS j q (hT▸uX);refine M<|X (decide ((j:Int)<(r:Int))) true Zp<|ZA (Ki 233 (.slice (some ⟨g,0,none⟩) r 3) j) (Zq g (j*2)) (λa t h=>Me (elem:=36) O O vg)<|ZA (L4 36 ⟨g,j*2,none⟩) (pt q.1 q.2) (λa t h=>kf h.2 (hT▸uX))<|Z (λa t h=>L9 (n:=q.1) J J) λu1=>Z (λa t h=>L9 (n:=q.2) J J) λu2=>sO (Kw 53 2 #[(0,E (K8 q.1)),(1,E (K8 q.2))]) (Kd 2) (Kr 9 #[E (K8 q.1),E (K8 q.2)]) O (λa t h=>Kb O) λW=>H 8<|tl (L:=bl y2) (val:=λ(z:YZ)=> .slice z.1 (f+2) z.2) (Φ':=λ(z:YZ) uR=>Y uR w.heap.size 9 1 z.1 (f+2) z.2 (sv (D++ [K8 q.1,K8 q.2]))/\Kr 36 #[I ve,I N,I vf,I B,I K,I uZ] g uR) (G:=λ(z:YZ) uR=>Y uR w.heap.size 9 1 z.1 (f+2) z.2 (sv (D++ [K8 q.1,K8 q.2]))) (Ln 53 53 (.slice y2 f o) (Kd 2 W)) (λa t h=>by have ho:Y a w.heap.size 9 1 y2 f o (sv (D)):=(by rw[C];exact h.1.1.1.1);exact LG (l:=[K8 q.1,K8 q.2]) ho t.size h.2 (show f<1000000 from by omega) Zs) (λa h=>λb uW=>⟨((show Y a w.heap.size 9 1 y2 f o (sv (D))from(by rw[C];exact h.1.1.1.1)).lt b uW).1,((show Y a w.heap.size 9 1 y2 f o (sv (D))from(by rw[C];exact h.1.1.1.1)).blk b uW).2⟩) (λz wa a e1 e2 h hG=>⟨hG,(e2 g (ig (show Y wa w.heap.size 9 1 y2 f o (sv (D))from(by rw[C];exact h.1.1.1.1)) h.1.1.1.2)).symm.trans h.1.1.1.2⟩) O O λuY=>M<|sS 39 vg J O<|sR (⟨(j+1,f+2,uY.1,uY.2),by show j+1<=r;omega,by show f+2=_;omega⟩) O zo zt (λu h=>⟨(by have S:=h.1;show Y u w.heap.size 9 1 uY.1 (f+2) uY.2 (sv ((p++ [[Qk v]])++(T.take (j+1)).flatMap Q8));rw[F,<-BK,<-C];exact S),h.2⟩)
 .refine tD (i:=9) (λa t h=>JQ hv hr) O λu=>M<|sO (Kw 233 3 #[(0,pt ve N),(1,pt vf B),(2,pt K uZ)]) (Kd 3) (Kr 36 #[I ve,I N,I vf,I B,I K,I uZ]) O (λa t h=>Kb O) λg=>H 10<|ZA (js 233 (.slice (some ⟨g,0,none⟩) 3 3) (r:Nat)) (.slice (some ⟨g,0,none⟩) r 3) (λa t h=>VI J)<|sU (ι:={q:Nat×Nat×(YZ) // q.1<=r/\q.2.1=m+1+2*q.1}) 56 (λq=>⟨[(0,.v (.slice A n c)),(4,.v (.slice q.1.2.2.1 q.1.2.1 q.1.2.2.2)),(12,.v (.slice A n c)),(13,.v (I n)),(14,.v (I k)),(37,.v (.slice (some ⟨g,0,none⟩) r 3)),(38,.v (I r)),(39,.v (I q.1.1))],[]⟩) (λq u=>Y u w.heap.size 9 1 q.1.2.2.1 q.1.2.1 q.1.2.2.2 (sv ((p++ [[Qk v]])++(T.take q.1.1).flatMap Q8))/\Kr 36 #[I ve,I N,I vf,I B,I K,I uZ] g u) (λq=>r-q.1.1) (⟨(0,m+1,z.1,z.2),AE _,rfl⟩) O (λ_=>O) zt (λu h=>(by have h2:=h;simp only[List.take_zero,BP,CH];exact⟨h2.1.1,h2.2⟩)) ?_
  rintro⟨⟨j,f,y2,o⟩,uU,Q⟩ gg2;have uU:j<=r:=uU;have Q:f=m+1+2*j:=Q
  by_cases vg:j<r
  case neg=>
   obtain rfl:j=r:=J
   refine M<|X (decide ((j:Int)<(j:Int))) false Zs<|sN O<|M<|sS 14 uV J O<|sR (⟨(k+1,f,y2,o),by show k+1<=n;omega,by show f=_;rw[x];simp only[AL,AG,List.length_flatMap,Q8,AW];have e:∀l:List (Int×Int),(l.map λ_=>0+1+1).sum=2*l.length:=(λl=>by induction l with|nil=>rfl|cons p l ih=>simp only[BW,List.sum_cons,ih,AG];omega);rw[e,AR,hTl];omega⟩) O zo zt (λu h=>(by have S:=h.1;show Y u w.heap.size 9 1 y2 f o (sv (Pv (ls.take (k+1))));rw[x,List.append_cons];exact S))
  obtain⟨q,uX⟩:∃q,T[j]? =some q:=⟨_,AA J⟩
  have F:(T.take (j+1)).flatMap Q8=(T.take j).flatMap Q8++ [K8 q.1,K8 q.2]:=by rw[BA,uX];simp[Q8]
  obtain⟨D,C⟩:∃D,D=(p++ [[Qk v]])++(T.take j).flatMap Q8:=⟨_,rfl⟩
  have hrng:=uS j q (hT▸uX);refine M<|X (decide ((j:Int)<(r:Int))) true Zp<|ZA (Ki 233 (.slice (some ⟨g,0,none⟩) r 3) j) (Zq g (j*2)) (λa t h=>Me (elem:=36) O O vg)<|ZA (L4 36 ⟨g,j*2,none⟩) (pt q.1 q.2) (λa t h=>kf h.2 (hT▸uX))<|Z (λa t h=>L9 (n:=q.1) J J) λu1=>Z (λa t h=>L9 (n:=q.2) J J) λu2=>sO (Kw 53 2 #[(0,E (K8 q.1)),(1,E (K8 q.2))]) (Kd 2) (Kr 9 #[E (K8 q.1),E (K8 q.2)]) O (λa t h=>Kb O) λW=>H 8<|tl (L:=bl y2) (val:=λ(z:YZ)=> .slice z.1 (f+2) z.2) (Φ':=λ(z:YZ) uR=>Y uR w.heap.size 9 1 z.1 (f+2) z.2 (sv (D++ [K8 q.1,K8 q.2]))/\Kr 36 #[I ve,I N,I vf,I B,I K,I uZ] g uR) (G:=λ(z:YZ) uR=>Y uR w.heap.size 9 1 z.1 (f+2) z.2 (sv (D++ [K8 q.1,K8 q.2]))) (Ln 53 53 (.slice y2 f o) (Kd 2 W)) (λa t h=>by have ho:Y a w.heap.size 9 1 y2 f o (sv (D)):=(by rw[C];exact h.1.1.1.1);exact LG (l:=[K8 q.1,K8 q.2]) ho t.size h.2 (show f<1000000 from by omega) Zs) (λa h=>λb uW=>⟨((show Y a w.heap.size 9 1 y2 f o (sv (D))from(by rw[C];exact h.1.1.1.1)).lt b uW).1,((show Y a w.heap.size 9 1 y2 f o (sv (D))from(by rw[C];exact h.1.1.1.1)).blk b uW).2⟩) (λz wa a e1 e2 h hG=>⟨hG,(e2 g (ig (show Y wa w.heap.size 9 1 y2 f o (sv (D))from(by rw[C];exact h.1.1.1.1)) h.1.1.1.2)).symm.trans h.1.1.1.2⟩) O O λuY=>M<|sS 39 vg J O<|sR (⟨(j+1,f+2,uY.1,uY.2),by show j+1<=r;omega,by show f+2=_;omega⟩) O zo zt (λu h=>⟨(by have S:=h.1;show Y u w.heap.size 9 1 uY.1 (f+2) uY.2 (sv ((p++ [[Qk v]])++(T.take (j+1)).flatMap Q8));rw[F,<-BK,<-C];exact S),h.2⟩)
end
def Gd(w:YN)(A:YY)(ps:List (Int×Int)):Prop:=∀(j:Nat) (q:Int×Int),ps[j]? =some q->∃ad,A=some ad/\w.cell? ((ad.add (j*2)).add 0)=some (I q.1)/\w.cell? ((ad.add (j*2)).add 1)=some (I q.2)
def rp(ps:List (Int×Int)):List YM:=ps.flatMap λq=>[I q.1,I q.2]
section
variable{w:YN}{A:YY}{n c:Nat}{ls:List Sg}
theorem dW:∀{ps:List (Int×Int)} {j:Nat} {q:Int×Int},ps[j]? =some q->(rp ps)[j*2]? =some (I q.1)/\(rp ps)[j*2+1]? =some (I q.2)
 | [],j,q,h=>by simp at h
 |p::ps,0,q,h=>by
  obtain rfl:p=q:=by simpa using h
  simp[rp]
 |p::ps,j+1,q,h=>by
  have a:=dW (ps:=ps) (j:=j) (q:=q) (by simpa using h);rw[show(j+1)*2=j*2+2 by omega];simpa[rp]using a
theorem Ho{g:Nat}{cells:Array YM}{ps:List (Int×Int)}(h:Kr 36 cells g w)(a:cells.toList=rp ps):Gd w (some ⟨g,0,none⟩) ps:=λj q k=>by
 obtain⟨b,e⟩:=dW k;have f:w.heap[g]? =some (.cells cells 36 (0,0)):=h;refine⟨_,rfl,?_,?_⟩
 .rw[Addr.add_mid,Addr.add_mid];simp only[BS,f,BJ,BC,if_false];rw[<-a]at b;simpa using b
 .rw[Addr.add_mid,Addr.add_mid];simp only[BS,f,BJ,BC,if_false];rw[<-a]at e;simpa using e
theorem QD{j r cc:Nat}{ad:YB}(b:A=some ad)(a:j<r):(Ki 233 (.slice A r cc) j).run XW w= .ok (.value (.pointer (some (ad.add (j*2))))) w:=by
 rw[b];exact Qa (elem:=36) O O a
theorem fx{v l k s e C x:Int}{r:Nat}(D:v=1\/v=2\/v=3\/v=4\/v=5)(t:Mh v=(r:Int)):YG XW 225 #[Sg.val ⟨v,l,k,s,e,C,x⟩] w (K6 w (λy:{y:YY // 0<r->∃a,y=some a}=> .slice y.1 r r) λy u=>Gd u y.1 ((Bs ⟨v,l,k,s,e,C,x⟩).take r)):=by
 rcases D with rfl|rfl|rfl|rfl|rfl
 .obtain rfl:r=1:=by have B:(1:Int)=(r:Int):=t;omega
  refine sL func225 rfl<|th O (stop:=1000) 6000 _<|sO (Kw 233 1 #[(0,pt l k)]) (Kd 1) (Kr 36 #[I l,I k]) O (λp f h=>Kb O) λg=>M<|ZV (.slice (some ⟨g,0,none⟩) 1 1) (λp f h=>⟨⟨some ⟨g,0,none⟩,λ_=>⟨_,rfl⟩⟩,rfl,f,λb o m=>Ho (h b o m).2 rfl⟩)
 .obtain rfl:r=1:=by have B:(1:Int)=(r:Int):=t;omega
  refine sL func225 rfl<|th O (stop:=1000) 6000 _<|sO (Kw 233 1 #[(0,pt l k)]) (Kd 1) (Kr 36 #[I l,I k]) O (λp f h=>Kb O) λg=>M<|ZV (.slice (some ⟨g,0,none⟩) 1 1) (λp f h=>⟨⟨some ⟨g,0,none⟩,λ_=>⟨_,rfl⟩⟩,rfl,f,λb o m=>Ho (h b o m).2 rfl⟩)
 .obtain rfl:r=2:=by have B:(2:Int)=(r:Int):=t;omega
  refine sL func225 rfl<|th O (stop:=1000) 6000 _<|sO (Kw 233 2 #[(0,pt l k),(1,pt s e)]) (Kd 2) (Kr 36 #[I l,I k,I s,I e]) O (λp f h=>Kb O) λg=>M<|ZV (.slice (some ⟨g,0,none⟩) 2 2) (λp f h=>⟨⟨some ⟨g,0,none⟩,λ_=>⟨_,rfl⟩⟩,rfl,f,λb o m=>Ho (h b o m).2 rfl⟩)
 .obtain rfl:r=3:=by have B:(3:Int)=(r:Int):=t;omega
  refine sL func225 rfl<|th O (stop:=1000) 6000 _<|sO (Kw 233 3 #[(0,pt l k),(1,pt s e),(2,pt C x)]) (Kd 3) (Kr 36 #[I l,I k,I s,I e,I C,I x]) O (λp f h=>Kb O) λg=>M<|ZV (.slice (some ⟨g,0,none⟩) 3 3) (λp f h=>⟨⟨some ⟨g,0,none⟩,λ_=>⟨_,rfl⟩⟩,rfl,f,λb o m=>Ho (h b o m).2 rfl⟩)
 .obtain rfl:r=0:=by have B:(0:Int)=(r:Int):=t;omega
  refine sL func225 rfl<|th O (stop:=1000) 6000 _<|ZV (.slice none 0 0) (λp f h=>⟨⟨none,λh=>absurd h Zd⟩,rfl,f,λb o m=>λj q vg=>by simp at vg⟩)
theorem SZ{v:Int}(a:v=1\/v=2\/v=3\/v=4\/v=5):(RM 9 (E [77,76,81,67,90]) .i64 (YA.wrap (v-1)) v).run XW w= .ok (.value (E [Qk v])) w:=by
 rcases a with rfl|rfl|rfl|rfl|rfl
 .exact O9 (i:=0) O rfl
 .exact O9 (i:=1) O rfl
 .exact O9 (i:=2) O rfl
 .exact O9 (i:=3) O rfl
 .exact O9 (i:=4) O rfl
def Uj(l:List R):R:=l.flatMap (32::·)
theorem KK:∀{l:List (Int×Int)},(∀q∈l,-1048576<=q.1/\q.1<=1048576/\-1048576<=q.2/\q.2<=1048576)->(Uj (l.flatMap Q8)).length<=52*l.length
 | [],_=>AJ _
 |q::l,h=>by
  have b:=KK (l:=l) λp e=>h p (by simp[e])
  have a:=h q Zs;have f:=P4 (x:=q.1) ⟨a.1,a.2.1⟩;have g:=P4 (x:=q.2) ⟨a.2.2.1,a.2.2.2⟩;simp only[Uj,BO,List.flatMap_append,Q8,BP,AL,AG,AW]at b ⊢;omega
theorem WB(a b:List R):Uj (a++b)=Uj a++Uj b:=by simp[Uj]
def S4(k:Nat):R:=if k=0 then []else [32]
theorem eI{k:Nat}{l:List R}{x:R}{p:List R}(a:p=[]↔k=0):Oc 32 (p++x::l)=Oc 32 p++S4 k++x++Uj l:=by
 cases p with
 |nil=>
  rw[a.1 rfl,List.nil_append,E3];simp[S4,Oc,Uj]
 |cons y p=>
  have b:k≠0:=λh=>by cases a.2 h
  rw[XV _ (List.cons_ne_nil _ _),BO];simp[S4,b,Uj]
theorem ZQ{l:List Sg}:Pv l=[]↔l=[]:=by
 cases l<;>simp[Pv,GD]
theorem eR(hs:Qn w A n ls)(hB:Ru ls=true):Zv 157 #[.slice A n c] w (.tuple #[E (Pb ls),I 0]):=by
 have hln:=hs.1;obtain⟨N,hsmall⟩:=EW hB;refine sL func157 rfl<|M<|Z (λa b h=>Aa (c:=c) (hs.below b) J hB) λu=>ZI false<|sU (ι:={q:Nat // q<=n}) 66 (λq=>⟨[(0,.v (.slice A n c)),(4,.v (.string ⟨#[77,76,81,67,90]⟩)),(5,.v (E (Pb (ls.take q.1)))),(6,.v (I q.1))],[]⟩) (λq u=>True) (λq=>n-q.1) (⟨0,AE _⟩) O (λ_=>O) zt (λu h=>trivial) ?_
 rintro⟨k,hk⟩ gg;have hk:k<=n:=hk
 by_cases t:k<n
 case neg=>
  obtain rfl:k=n:=J
  have hfull:ls.take k=ls:=AN J;exact M<|X (decide ((k:Int)<(k:Int))) false Zs<|sN O<|M<|ZX (.tuple #[E (Pb (ls.take k)),I 0]) (by rw[hfull])
 obtain⟨s,hsk⟩:∃s,ls[k]? =some s:=⟨_,AA J⟩
 obtain⟨ad,hA,hc⟩:=hs.2 k s hsk;have hgs:=N s (AQ hsk);have uR:=FC hsk;have hpn:Pv (ls.take k)=[]↔k=0:=by
  rw[ZQ];constructor
  .intro h;have:=congrArg List.length h;rw[AR,AW]at this;omega
  .rintro rfl;rfl
 have hfk:=IR (kw (k:=k) N);have hkl:(ls.take k).length<=256:=by rw[AR];omega
 have vf:= @cN s;obtain⟨v,uY,uW,Q,B,S,W⟩:=s;obtain⟨hv,hfit⟩:=hgs;replace vf:=λj q=> @vf j q hfit
 have hv:v=1\/v=2\/v=3\/v=4\/v=5:=hv;obtain⟨r,hr,hr3⟩:=Lo hv;have uX:GD ⟨v,uY,uW,Q,B,S,W⟩=[Qk v]::((Bs ⟨v,uY,uW,Q,B,S,W⟩).take r).flatMap Q8:=by
  unfold GD am;rw[show(Sg.mk v uY uW Q B S W).v=v from rfl,hr];rfl
 have hpt:=λw=> @fx w v uY uW Q B S W r hv hr
 have hldv:=hc 0 _ rfl;have uU:=λ(a:YN) (b:Below w.heap.size w a)=>OZ (w:=a) (s:=⟨v,uY,uW,Q,B,S,W⟩) (ad:=ad.add (k*7)) λj u uV=>La b (hc j u uV)
 obtain⟨T,hT⟩:∃T,T=(Bs ⟨v,uY,uW,Q,B,S,W⟩).take r:=⟨_,rfl⟩
 have hTl:T.length=r:=by rw[hT,AR];simp[Bs];omega
 have P:∀(j:Nat) (q:Int×Int),T[j]? =some q->-1048576<=q.1/\q.1<=1048576/\-1048576<=q.2/\q.2<=1048576:=λj q G=>by
  rw[hT,List.getElem?_take]at G;split at G
  .exact vf j q G
  .cases G
 rw[<-hT]at uX hpt;rw[uX]at uR;have L:Pb (ls.take (k+1))=Pb (ls.take k)++S4 k++ [Qk v]++Uj (T.flatMap Q8):=by
  unfold Pb;rw[uR];exact eI hpn
 obtain⟨F,hF⟩:∃F,F=Pb (ls.take k):=⟨_,rfl⟩
 rw[<-hF]at L hfk;have D:∀a:YN,Below w.heap.size w a->(L4 3 ((ad.add (k*7)).add 0)).run XW a= .ok (.value (I v)) a:=λa b=>K9 O (La b hldv)
 refine M<|sM 5 (E (Pb (ls.take k))) (E F) O (by rw[hF])<|X (decide ((k:Int)<(n:Int))) true Zp ?_
 rcases k with _|k
 .have hs0:F=F++S4 0:=by simp[S4]
  refine X (decide (((0:Nat):Int)>0)) false Zs<|sM 22 (E F) (E (F++S4 0)) O (by rw[<-hs0])<|sP 4 (Ki 63 (.slice A n c) (0:Nat)) (.pointer (some (ad.add (0*7)))) O (λa b h=>Rs hA t)<|H 5<|ZB 5 (P8 213 (ad.add (0*7)) 0) (.pointer (some ((ad.add (0*7)).add 0))) (λa b h=>Li (d:=0) O)<|ZB 6 (L4 3 ((ad.add (0*7)).add 0)) (I v) (λa b h=>D a b)<|sP 10 (Ki 63 (.slice A n c) (0:Nat)) (.pointer (some (ad.add (0*7)))) O (λa b h=>Rs hA t)<|H 11<|ZB 11 (P8 213 (ad.add (0*7)) 0) (.pointer (some ((ad.add (0*7)).add 0))) (λa b h=>Li (d:=0) O)<|sP 12 (L4 3 ((ad.add (0*7)).add 0)) (I v) O (λa b h=>D a b)<|H 13<|sV (RM 9 (E [77,76,81,67,90]) .i64 (YA.wrap (v-1)) v) (E [Qk v]) O (λa b h=>SZ hv)<|H 14<|ZA (Nq .add 9 (.tmp 22) (.tmp 35) (E (F++S4 0)) (E [Qk v])) (E (F++S4 0++ [Qk v])) (λa b h=>M6 (by simp[S4]<;>omega))<|ZA (Ki 63 (.slice A n c) (0:Nat)) (.pointer (some (ad.add (0*7)))) (λa b h=>Rs hA t)<|ZA (L4 213 (ad.add (0*7))) (Sg.val ⟨v,uY,uW,Q,B,S,W⟩) (λa b h=>uU a b)<|Z (λa b h=>hpt a) λy0=> ?_
  obtain⟨y,hy⟩:=y0;refine sM 5 (E (F++S4 0++ [Qk v])) (E (F++S4 0++ [Qk v]++Uj ((T.take 0).flatMap Q8))) O (by simp[Uj])<|sU (ι:={j:Nat // j<=r}) 66 (λq=>⟨[(0,.v (.slice A n c)),(4,.v (.string ⟨#[77,76,81,67,90]⟩)),(5,.v (E (F++S4 0++ [Qk v]++Uj ((T.take q.1).flatMap Q8)))),(6,.v (I (0:Nat))),(7,.v (.slice y r r)),(8,.v (I q.1))],[]⟩) (λq u=>Gd u y T) (λq=>r-q.1) (⟨0,AE _⟩) O (λ_=>O) zt (λu h=>h.2) ?_
  rintro⟨j,uV⟩ gg2;have uV:j<=r:=uV
  by_cases g:j<r
  case neg=>
   obtain rfl:j=r:=J
   have p:T.take j=T:=AN J;refine M<|X (decide ((j:Int)<(j:Int))) false Zs<|sN O<|M<|sM 6 (I (YA.wrap (((0:Nat):Int)+1))) (I ((0+1:Nat):Int)) O (by rw[Kc t J])<|sM 5 (E (F++S4 0++ [Qk v]++Uj ((T.take j).flatMap Q8))) (E (Pb (ls.take (0+1)))) O (by rw[L,p])<|sR (⟨0+1,by omega⟩) O zo zt (λu h=>trivial)
  obtain⟨q,G⟩:∃q,T[j]? =some q:=⟨_,AA J⟩
  have C:(T.take (j+1)).flatMap Q8=(T.take j).flatMap Q8++ [K8 q.1,K8 q.2]:=by rw[BA,G];simp[Q8]
  have f:=P j q G;have hG:=KK (l:=T.take j) λx hx=>by obtain⟨i,hi⟩:=BL.1 (BN hx);exact P i x hi
  have hGl:(T.take j).length<=3:=by rw[AR];omega
  have f1:=P4 (x:=q.1) ⟨f.1,f.2.1⟩;have f2:=P4 (x:=q.2) ⟨f.2.2.1,f.2.2.2⟩;obtain⟨vg,hE⟩:∃vg,vg=F++S4 0++ [Qk v]++Uj ((T.take j).flatMap Q8):=⟨_,rfl⟩
  have hEl:vg.length<=50000:=by rw[hE];simp only[AL,AG,AW,S4];simp;omega
  have hE2:F++S4 0++ [Qk v]++Uj ((T.take (j+1)).flatMap Q8)=vg++([32]++K8 q.1++ [32]++K8 q.2):=by rw[C,WB,<-BK,<-hE];simp[Uj]
  have K:∀u:YN,Gd u y T->∃e,y=some e/\u.cell? ((e.add (j*2)).add 0)=some (I q.1)/\u.cell? ((e.add (j*2)).add 1)=some (I q.2):=λu uS=>uS j q G
  obtain⟨e,m⟩:=hy J;have uZ:∀u:YN,Gd u y T->(L4 3 ((e.add (j*2)).add 0)).run XW u= .ok (.value (I q.1)) u:=λu uS=>by
   obtain⟨uT,o,h2,h3⟩:=K u uS;obtain rfl:uT=e:=by rw[m]at o;injection o with o;exact o.symm
   exact K9 O h2
  have ve:∀u:YN,Gd u y T->(L4 3 ((e.add (j*2)).add 1)).run XW u= .ok (.value (I q.2)) u:=λu uS=>by
   obtain⟨uT,o,h2,h3⟩:=K u uS;obtain rfl:uT=e:=by rw[m]at o;injection o with o;exact o.symm
   exact K9 O h3
  refine M<|X (decide ((j:Int)<(r:Int))) true Zp<|sM 48 (E (F++S4 0++ [Qk v]++Uj ((T.take j).flatMap Q8))) (E vg) O (by rw[hE])<|sP 3 (Ki 233 (.slice y r r) j) (.pointer (some (e.add (j*2)))) O (λa b h=>QD m g)<|H 4<|ZB 4 (P8 36 (e.add (j*2)) 0) (.pointer (some ((e.add (j*2)).add 0))) (λa b h=>Li (d:=0) O)<|ZB 5 (L4 3 ((e.add (j*2)).add 0)) (I q.1) (λa b h=>uZ a h)<|sP 11 (Ki 233 (.slice y r r) j) (.pointer (some (e.add (j*2)))) O (λa b h=>QD m g)<|H 12<|ZB 12 (P8 36 (e.add (j*2)) 1) (.pointer (some ((e.add (j*2)).add 1))) (λa b h=>Li (d:=1) O)<|ZB 13 (L4 3 ((e.add (j*2)).add 1)) (I q.2) (λa b h=>ve a h)<|ZD 7 (λa b h=>Lv (n:=q.1) J J) λu1=>sP 7 (Nq .add 9 (.const (.string ⟨#[32]⟩)) (.tmp 54) (E [32]) (E (K8 q.1))) (E ([32]++K8 q.1)) O (λa b h=>M6 Zp)<|H 8<|sP 8 (Nq .add 9 (.tmp 55) (.const (.string ⟨#[32]⟩)) (E ([32]++K8 q.1)) (E [32])) (E ([32]++K8 q.1++ [32])) O (λa b h=>M6 Zp)<|H 9<|ZD 15 (λa b h=>Lv (n:=q.2) J J) λu2=>sV (Nq .add 9 (.tmp 56) (.tmp 62) (E ([32]++K8 q.1++ [32])) (E (K8 q.2))) (E ([32]++K8 q.1++ [32]++K8 q.2)) O (λa b h=>M6 Zp)<|H 16<|ZA (Nq .add 9 (.tmp 48) (.tmp 63) (E vg) (E ([32]++K8 q.1++ [32]++K8 q.2))) (E (vg++([32]++K8 q.1++ [32]++K8 q.2))) (λa b h=>M6 Zp)<|sS 8 g J O<|sM 5 (E (vg++([32]++K8 q.1++ [32]++K8 q.2))) (E (F++S4 0++ [Qk v]++Uj ((T.take (j+1)).flatMap Q8))) O (by rw[hE2])<|sR (⟨j+1,by omega⟩) O zo zt (λu h=>h.1.1)
 .have hs0:F++ [32]=F++S4 (k+1):=by simp[S4]
  refine sQ (decide (((k+1:Nat):Int)>0)) true O Zs<|H 1<|ZA (Nq .add 9 (.tmp 20) (.const (.string ⟨#[32]⟩)) (E F) (E [32])) (E (F++ [32])) (λa b h=>M6 Zp)<|sM 22 (E (F++ [32])) (E (F++S4 (k+1))) O (by rw[hs0])<|sP 4 (Ki 63 (.slice A n c) (k+1:Nat)) (.pointer (some (ad.add ((k+1)*7)))) O (λa b h=>Rs hA t)<|H 5<|ZB 5 (P8 213 (ad.add ((k+1)*7)) 0) (.pointer (some ((ad.add ((k+1)*7)).add 0))) (λa b h=>Li (d:=0) O)<|ZB 6 (L4 3 ((ad.add ((k+1)*7)).add 0)) (I v) (λa b h=>D a b)<|sP 10 (Ki 63 (.slice A n c) (k+1:Nat)) (.pointer (some (ad.add ((k+1)*7)))) O (λa b h=>Rs hA t)<|H 11<|ZB 11 (P8 213 (ad.add ((k+1)*7)) 0) (.pointer (some ((ad.add ((k+1)*7)).add 0))) (λa b h=>Li (d:=0) O)<|sP 12 (L4 3 ((ad.add ((k+1)*7)).add 0)) (I v) O (λa b h=>D a b)<|H 13<|sV (RM 9 (E [77,76,81,67,90]) .i64 (YA.wrap (v-1)) v) (E [Qk v]) O (λa b h=>SZ hv)<|H 14<|ZA (Nq .add 9 (.tmp 22) (.tmp 35) (E (F++S4 (k+1))) (E [Qk v])) (E (F++S4 (k+1)++ [Qk v])) (λa b h=>M6 (by simp[S4]<;>omega))<|ZA (Ki 63 (.slice A n c) (k+1:Nat)) (.pointer (some (ad.add ((k+1)*7)))) (λa b h=>Rs hA t)<|ZA (L4 213 (ad.add ((k+1)*7))) (Sg.val ⟨v,uY,uW,Q,B,S,W⟩) (λa b h=>uU a b)<|Z (λa b h=>hpt a) λy0=> ?_
  obtain⟨y,hy⟩:=y0;refine sM 5 (E (F++S4 (k+1)++ [Qk v])) (E (F++S4 (k+1)++ [Qk v]++Uj ((T.take 0).flatMap Q8))) O (by simp[Uj])<|sU (ι:={j:Nat // j<=r}) 66 (λq=>⟨[(0,.v (.slice A n c)),(4,.v (.string ⟨#[77,76,81,67,90]⟩)),(5,.v (E (F++S4 (k+1)++ [Qk v]++Uj ((T.take q.1).flatMap Q8)))),(6,.v (I (k+1:Nat))),(7,.v (.slice y r r)),(8,.v (I q.1))],[]⟩) (λq u=>Gd u y T) (λq=>r-q.1) (⟨0,AE _⟩) O (λ_=>O) zt (λu h=>h.2) ?_
  rintro⟨j,uV⟩ gg2;have uV:j<=r:=uV
  by_cases g:j<r
  case neg=>
   obtain rfl:j=r:=J
   have p:T.take j=T:=AN J;refine M<|X (decide ((j:Int)<(j:Int))) false Zs<|sN O<|M<|sM 6 (I (YA.wrap (((k+1:Nat):Int)+1))) (I ((k+1+1:Nat):Int)) O (by rw[Kc t J])<|sM 5 (E (F++S4 (k+1)++ [Qk v]++Uj ((T.take j).flatMap Q8))) (E (Pb (ls.take (k+1+1)))) O (by rw[L,p])<|sR (⟨k+1+1,by omega⟩) O zo zt (λu h=>trivial)
  obtain⟨q,G⟩:∃q,T[j]? =some q:=⟨_,AA J⟩
  have C:(T.take (j+1)).flatMap Q8=(T.take j).flatMap Q8++ [K8 q.1,K8 q.2]:=by rw[BA,G];simp[Q8]
  have f:=P j q G;have hG:=KK (l:=T.take j) λx hx=>by obtain⟨i,hi⟩:=BL.1 (BN hx);exact P i x hi
  have hGl:(T.take j).length<=3:=by rw[AR];omega
  have f1:=P4 (x:=q.1) ⟨f.1,f.2.1⟩;have f2:=P4 (x:=q.2) ⟨f.2.2.1,f.2.2.2⟩;obtain⟨vg,hE⟩:∃vg,vg=F++S4 (k+1)++ [Qk v]++Uj ((T.take j).flatMap Q8):=⟨_,rfl⟩
  have hEl:vg.length<=50000:=by rw[hE];simp only[AL,AG,AW,S4];simp;omega
  have hE2:F++S4 (k+1)++ [Qk v]++Uj ((T.take (j+1)).flatMap Q8)=vg++([32]++K8 q.1++ [32]++K8 q.2):=by rw[C,WB,<-BK,<-hE];simp[Uj]
  have K:∀u:YN,Gd u y T->∃e,y=some e/\u.cell? ((e.add (j*2)).add 0)=some (I q.1)/\u.cell? ((e.add (j*2)).add 1)=some (I q.2):=λu uS=>uS j q G
  obtain⟨e,m⟩:=hy J;have uZ:∀u:YN,Gd u y T->(L4 3 ((e.add (j*2)).add 0)).run XW u= .ok (.value (I q.1)) u:=λu uS=>by
   obtain⟨uT,o,h2,h3⟩:=K u uS;obtain rfl:uT=e:=by rw[m]at o;injection o with o;exact o.symm
   exact K9 O h2
  have ve:∀u:YN,Gd u y T->(L4 3 ((e.add (j*2)).add 1)).run XW u= .ok (.value (I q.2)) u:=λu uS=>by
   obtain⟨uT,o,h2,h3⟩:=K u uS;obtain rfl:uT=e:=by rw[m]at o;injection o with o;exact o.symm
   exact K9 O h3
  refine M<|X (decide ((j:Int)<(r:Int))) true Zp<|sM 48 (E (F++S4 (k+1)++ [Qk v]++Uj ((T.take j).flatMap Q8))) (E vg) O (by rw[hE])<|sP 3 (Ki 233 (.slice y r r) j) (.pointer (some (e.add (j*2)))) O (λa b h=>QD m g)<|H 4<|ZB 4 (P8 36 (e.add (j*2)) 0) (.pointer (some ((e.add (j*2)).add 0))) (λa b h=>Li (d:=0) O)<|ZB 5 (L4 3 ((e.add (j*2)).add 0)) (I q.1) (λa b h=>uZ a h)<|sP 11 (Ki 233 (.slice y r r) j) (.pointer (some (e.add (j*2)))) O (λa b h=>QD m g)<|H 12<|ZB 12 (P8 36 (e.add (j*2)) 1) (.pointer (some ((e.add (j*2)).add 1))) (λa b h=>Li (d:=1) O)<|ZB 13 (L4 3 ((e.add (j*2)).add 1)) (I q.2) (λa b h=>ve a h)<|ZD 7 (λa b h=>Lv (n:=q.1) J J) λu1=>sP 7 (Nq .add 9 (.const (.string ⟨#[32]⟩)) (.tmp 54) (E [32]) (E (K8 q.1))) (E ([32]++K8 q.1)) O (λa b h=>M6 Zp)<|H 8<|sP 8 (Nq .add 9 (.tmp 55) (.const (.string ⟨#[32]⟩)) (E ([32]++K8 q.1)) (E [32])) (E ([32]++K8 q.1++ [32])) O (λa b h=>M6 Zp)<|H 9<|ZD 15 (λa b h=>Lv (n:=q.2) J J) λu2=>sV (Nq .add 9 (.tmp 56) (.tmp 62) (E ([32]++K8 q.1++ [32])) (E (K8 q.2))) (E ([32]++K8 q.1++ [32]++K8 q.2)) O (λa b h=>M6 Zp)<|H 16<|ZA (Nq .add 9 (.tmp 48) (.tmp 63) (E vg) (E ([32]++K8 q.1++ [32]++K8 q.2))) (E (vg++([32]++K8 q.1++ [32]++K8 q.2))) (λa b h=>M6 Zp)<|sS 8 g J O<|sM 5 (E (vg++([32]++K8 q.1++ [32]++K8 q.2))) (E (F++S4 (k+1)++ [Qk v]++Uj ((T.take (j+1)).flatMap Q8))) O (by rw[hE2])<|sR (⟨j+1,by omega⟩) O zo zt (λu h=>h.1.1)
end
def Qr(x:R):Int:=if x=[77]then 1 else if x=[76]then 2 else if x=[81]then 3 else if x=[67]then 4 else if x=[90]then 5 else 0
def aG(x:R):Int:=if Pw x=0 then 0 else if Pw x=6 then 6 else 3
def Pq(ws:List R)(i:Nat):Int:=match ws[i]? with
 |none=>3
 |some x=>aG x
def Vw(ws:List R)(i:Nat):Int:=match ws[i]? with
 |none=>0
 |some x=>O1 x
def Y4(ws:List R):Nat->Nat->Option Nat
 |0,_=>none
 |m+1,i=>if Pq ws i=0 then Y4 ws m (i+1)else some i
def ZE(ws:List R)(v:Int)(i:Nat):Sg:=
 if v=5 then⟨5,0,0,0,0,0,0⟩else if v=4 then⟨4,Vw ws (i+1),Vw ws (i+2),Vw ws (i+3),Vw ws (i+4),Vw ws (i+5),Vw ws (i+6)⟩
 else if v=3 then⟨3,Vw ws (i+1),Vw ws (i+2),Vw ws (i+3),Vw ws (i+4),0,0⟩else⟨v,Vw ws (i+1),Vw ws (i+2),0,0,0,0⟩
def aL(a:List Sg):List Sg×Nat×Int:=if (SP a).1=0 then(a,0,0)else([],(SP a).2,(SP a).1)
def Sq(ws:List R):Nat->Nat->List Sg->List Sg×Nat×Int
 |0,_,a=>aL a
 | f+1,i,a=>match ws[i]? with
  |none=>aL a
  |some x=>if Qr x=0 then([],i,3)else match Y4 ws (2*(Mh (Qr x)).toNat) (i+1)with
   |some j=>([],j,Pq ws j)
   |none=>Sq ws f (i+1+2*(Mh (Qr x)).toNat) (a++ [ZE ws (Qr x) i])
def P0(ws:List R)(i:Nat)(a:List Sg):List Sg×Nat×Int:=Sq ws (ws.length-i) i a
def Mq(s:R):List Sg×Nat×Int:=if 65536<s.length then([],0,5)else P0 (Kt s) 0 []
theorem FZ(ws:List R):∀(f b i:Nat) (a:List Sg),ws.length-i<=f->ws.length-i<=b->Sq ws f i a=Sq ws b i a
 |0,0,i,a,_,_=>rfl
 |0,b+1,i,a,h,_=>by rw[Sq,Sq,AU J]
 |f+1,0,i,a,_,h=>by rw[Sq,Sq,AU J]
 | f+1,b+1,i,a,h,c=>by
  rw[Sq,Sq];cases e:ws[i]? with
  |none=>rfl
  | some x=>
   simp only;split
   .rfl
   .split
    .rfl
    .exact FZ ws f b _ _ J J
section
variable{ws:List R}{i:Nat}{acc:List Sg}{x:R}{v:Int}
theorem j7(h:ws.length<=i):P0 ws i acc=aL acc:=by
 unfold P0;rw[show ws.length-i=0 by omega,Sq]
theorem jn(h:ws[i]? =some x):P0 ws i acc=if Qr x=0 then([],i,3)else match Y4 ws (2*(Mh (Qr x)).toNat) (i+1)with
 |some j=>([],j,Pq ws j)
 |none=>P0 ws (i+1+2*(Mh (Qr x)).toNat) (acc++ [ZE ws (Qr x) i]):=by
 have a:=(AP.1 h).1;have e:P0 ws i acc=Sq ws (ws.length-i-1+1) i acc:=by unfold P0;rw[show ws.length-i-1+1=ws.length-i by omega]
 rw[e,Sq,h];simp only;split
 .rfl
 .split
  .rfl
  .exact FZ ws _ _ _ _ J (AJ _)
theorem dn(h:ws[i]? =some x)(a:Qr x=0):P0 ws i acc=([],i,3):=by rw[jn h,YS a]
theorem cB{j:Nat}(h:ws[i]? =some x)(c:Qr x=v)(a:v≠0)(b:Y4 ws (2*(Mh v).toNat) (i+1)=some j):P0 ws i acc=([],j,Pq ws j):=by
 rw[jn h,c,V a,b]
theorem km(h:ws[i]? =some x)(c:Qr x=v)(a:v≠0)(b:Y4 ws (2*(Mh v).toNat) (i+1)=none):P0 ws i acc=P0 ws (i+1+2*(Mh v).toNat) (acc++ [ZE ws v i]):=by
 rw[jn h,c,V a,b]
end
theorem EC(x:R):(x=[77]/\Qr x=1)\/(x=[76]/\Qr x=2)\/(x=[81]/\Qr x=3)\/(x=[67]/\Qr x=4)\/(x=[90]/\Qr x=5)\/((x≠[77]/\x≠[76]/\x≠[81]/\x≠[67]/\x≠[90])/\Qr x=0):=by
 unfold Qr
 by_cases b:x=[77]
 .subst b;exact .inl ⟨rfl,rfl⟩
 by_cases f:x=[76]
 .subst f;exact .inr (.inl ⟨rfl,rfl⟩)
 by_cases a:x=[81]
 .subst a;exact .inr (.inr (.inl ⟨rfl,rfl⟩))
 by_cases e:x=[67]
 .subst e;exact .inr (.inr (.inr (.inl ⟨rfl,rfl⟩)))
 by_cases c:x=[90]
 .subst c;exact .inr (.inr (.inr (.inr (.inl ⟨rfl,rfl⟩))))
 .rw[V b,V f,V a,V e,V c];exact .inr (.inr (.inr (.inr (.inr ⟨⟨b,f,a,e,c⟩,rfl⟩))))
section
variable{w:YN}{l:R}{A:YY}{n c:Nat}{ws:List R}
theorem gX{B:Nat}(uU:B<=w.heap.size)(uR:w.heap.size<=B)(hl:l.length<=70000):YG XW 266 #[E l] w (K6 w (λy:YZ=> .slice y.1 (Kt l).length y.2) λy u=>Y u B 9 1 y.1 (Kt l).length y.2 (sv (Kt l))):=by
 refine sL func266 rfl<|H 1 ?_
 by_cases S:l=[]
 .subst S;refine ZA (Nq .eql 9 (.tmp 6) (.const (.string ⟨#[]⟩)) (E []) (E [])) Zt (λa k h=>Kj Zs)<|ZI true<|ZV (.slice none 0 0) (λa k h=>⟨(none,0),rfl,k,λ_ _ _=>s_⟩)
 have Q:Kt l=Ke 32 l:=V S;rw[Q];refine ZA (Nq .eql 9 (.tmp 6) (.const (.string ⟨#[]⟩)) (E l) (E [])) Zf (λa k h=>Kj (by simpa using S))<|ZI false<|sU (ι:={q:(Nat×Nat×Nat×List R)×(YZ) // q.1.1<=l.length+1/\q.1.2.2.2.length=q.1.2.2.1/\q.1.2.2.1<=q.1.1/\(q.1.1<=l.length->q.1.2.1<=q.1.1/\Ke 32 l=q.1.2.2.2++Ke 32 (l.drop q.1.2.1)/\∀j,q.1.2.1<=j->j<q.1.1->l[j]? ≠some 32)/\(l.length<q.1.1->Ke 32 l=q.1.2.2.2)}) 34 (λq=>⟨[(0,.v (E l)),(3,.v (.slice q.1.2.1 q.1.1.2.2.1 q.1.2.2)),(4,.v (I q.1.1.2.1)),(5,.v (I q.1.1.1))],[]⟩) (λq u=>Y u B 9 1 q.1.2.1 q.1.1.2.2.1 q.1.2.2 (sv q.1.1.2.2.2)) (λq=>l.length+1-q.1.1.1) (⟨((0,0,0,[]),(none,0)),AE _,rfl,AJ _,λ_=>⟨AJ _,rfl,λj F uS=>absurd uS (BM _)⟩,λh=>absurd h (BM _)⟩) O (λ_=>O) zt (λu h=>s_) ?_
 rintro⟨⟨⟨i,at_,m,p⟩,y,yc⟩,K⟩ g;have hk1:i<=l.length+1:=K.1;have o:p.length=m:=K.2.1;have hk4:m<=i:=K.2.2.1
 by_cases N:i<=l.length
 case neg=>
  have f:Ke 32 l=p:=K.2.2.2.2 (show l.length<i from by omega);refine M<|X (decide ((i:Int)<=(l.length:Int))) false Zp<|sN O<|M<|ZV (.slice y m yc) (λa k h=>⟨(y,yc),by rw[f,o],k,λuY k1 W=>by rw[f,o];exact h uY k1 W⟩)
 obtain⟨r,f,s⟩:=K.2.2.2.1 N;have r:at_<=i:=r;have f:Ke 32 l=p++Ke 32 (l.drop at_):=f;have s:∀j,at_<=j->j<i->l[j]? ≠some 32:=s;have vg:(32:UInt8)∉(l.take i).drop at_:=λhm=>by
  obtain⟨j,hj,e⟩:=List.getElem_of_mem hm;have uT:j<i-at_:=by simp only[List.length_drop,AR]at hj;omega
  refine s (at_+j) J J ?_;rw[<-e,List.getElem_drop,List.getElem_take];exact AA J
 refine M<|sQ (decide ((i:Int)<=(l.length:Int))) true O Zp<|H 4 ?_
 by_cases vf:i=l.length
 .subst vf;have D:Ke 32 l=p++ [l.drop at_]:=by
   rw[CD]at vg;rw[f,Dc vg]
  have P:(l.take l.length).drop at_=l.drop at_:=by rw[CD]
  refine ZT 17 (.bool ((l.length:Int)==(l.length:Int))) Zt Zs<|sW true O<|H 4<|sV (RM 9 (E l) .i64 at_ l.length) (E (l.drop at_)) O (λa k h=>by rw[<-P];exact GQ O r (AJ _))<|H 5<|sO (Kw 53 1 #[(0,E (l.drop at_))]) (Kd 1) (Kr 9 #[E (l.drop at_)]) O (λa k h=>Kb O) λuZ=>H 6<|sY (L:=bl y) (val:=λ(z:YZ)=> .slice z.1 (m+1) z.2) (Φ':=λ(z:YZ) C=>Y C B 9 1 z.1 (m+1) z.2 (sv (p++ [l.drop at_]))) (G:=λ(z:YZ) C=>Y C B 9 1 z.1 (m+1) z.2 (sv (p++ [l.drop at_]))) (Ln 53 53 (.slice y m yc) (Kd 1 uZ)) (λa k h=>Sf (show Y a B 9 1 y m yc (sv (p))from h.1) (BH uU k.size) h.2 (show m<100000000 from by omega)) (λa h=>λb t=>⟨BH uR ((show Y a B 9 1 y m yc (sv (p))from h.1).lt b t).1,((show Y a B 9 1 y m yc (sv (p))from h.1).blk b t).2⟩) (λz wa a uX uV h T=>T) O O λz=>M<|sM 5 (I (YA.wrap ((l.length:Int)+1))) (I ((l.length+1:Nat):Int)) O (by rw[Kc (n:=l.length+1) J J])<|sM 4 (I (YA.wrap ((l.length:Int)+1))) (I ((l.length+1:Nat):Int)) O (by rw[Kc (n:=l.length+1) J J])<|sR (⟨((l.length+1,l.length+1,m+1,p++ [l.drop at_]),z),AJ _,by simp[o],by show m+1<=l.length+1;omega,λh=>absurd (show l.length+1<=l.length from h) J,λ_=>D⟩) O zo zt (λ_ h=>h)
 .obtain⟨b,t⟩:∃b,l[i]? =some b:=⟨_,AA J⟩
  refine sM 17 (.bool ((i:Int)==(l.length:Int))) Zf O Zp<|H 7<|ZA (D0 9 (E l) i) (.int .u8 b.toNat) (λa k h=>Mc O t) ?_
  by_cases x:b=32
  .subst x;have D:Ke 32 (l.drop at_)=(l.take i).drop at_::Ke 32 (l.drop (i+1)):=by
    have e:l.drop at_=(l.take i).drop at_++32::l.drop (i+1):=by
     have F:l=l.take i++(32::l.drop (i+1)):=by rw[<-S9 t];exact(List.take_append_drop i l).symm
     conv=>lhs;rw[F]
     rw[List.drop_append_of_le_length Zp]
    rw[e,Dd _ vg]
   refine sW true O<|H 4<|sV (RM 9 (E l) .i64 at_ i) (E ((l.take i).drop at_)) O (λa k h=>GQ O r N)<|H 5<|sO (Kw 53 1 #[(0,E ((l.take i).drop at_))]) (Kd 1) (Kr 9 #[E ((l.take i).drop at_)]) O (λa k h=>Kb O) λuZ=>H 6<|sY (L:=bl y) (val:=λ(z:YZ)=> .slice z.1 (m+1) z.2) (Φ':=λ(z:YZ) C=>Y C B 9 1 z.1 (m+1) z.2 (sv (p++ [(l.take i).drop at_]))) (G:=λ(z:YZ) C=>Y C B 9 1 z.1 (m+1) z.2 (sv (p++ [(l.take i).drop at_]))) (Ln 53 53 (.slice y m yc) (Kd 1 uZ)) (λa k h=>Sf (show Y a B 9 1 y m yc (sv (p))from h.1) (BH uU k.size) h.2 (show m<100000000 from by omega)) (λa h=>λb t=>⟨BH uR ((show Y a B 9 1 y m yc (sv (p))from h.1).lt b t).1,((show Y a B 9 1 y m yc (sv (p))from h.1).blk b t).2⟩) (λz wa a uX uV h T=>T) O O λz=>M<|sM 5 (I (YA.wrap ((i:Int)+1))) (I ((i+1:Nat):Int)) O (by rw[Kc (n:=l.length) J J])<|sM 4 (I (YA.wrap ((i:Int)+1))) (I ((i+1:Nat):Int)) O (by rw[Kc (n:=l.length) J J])<|sR (⟨((i+1,i+1,m+1,p++ [(l.take i).drop at_]),z),by show i+1<=l.length+1;omega,by simp[o],by show m+1<=i+1;omega,λ_=>⟨AJ _,by show _=(p++ [(l.take i).drop at_])++Ke 32 (l.drop (i+1));rw[f,D];simp,λj F uS=>by have ve:i+1<=j:=F;have uW:j<i+1:=uS;omega⟩,λh=>absurd (show l.length<i+1 from h) J⟩) O zo zt (λ_ h=>h)
  .refine X (((b.toNat:Int)==32)) false (by rw[YR];intro e;exact x (CE.1 (by show b.toNat=32;omega)))<|sM 5 (I (YA.wrap ((i:Int)+1))) (I ((i+1:Nat):Int)) O (by rw[Kc (n:=l.length) J J])<|sR (⟨((i+1,at_,m,p),(y,yc)),by show i+1<=l.length+1;omega,o,by show m<=i+1;omega,λ_=>⟨by show at_<=i+1;omega,f,λj F uS=>by have ve:at_<=j:=F;have uW:j<i+1:=uS;by_cases e:j=i;rw[e,t];simpa using x;exact s j ve J⟩,λh=>absurd (show l.length<i+1 from h) J⟩) O zo zt (λ_ h=>h)
theorem lq{v:Int}(e:Qr l=v):Zv 267 #[E l] w (I v):=by
 refine sL func267 rfl<|M<|tx O<|M<|sW true O<|H 5<|sV (RM 9 (E [77,76,81,67,90]) .i64 (0:Nat) (0+1:Nat)) (E [77]) O (λb a h=>O9 O rfl)<|H 6 ?_
 by_cases f:l=[77]
 .subst f;obtain rfl:v=1:=e.symm;exact ZA (Nq .eql 9 (.tmp 9) (.tmp 14) (E [77]) (E [77])) Zt (λb a h=>Kj Zs)<|ZI true<|ZW (I 1)
 refine ZA (Nq .eql 9 (.tmp 9) (.tmp 14) (E l) (E [77])) Zf (λb a h=>Kj (by simpa using f))<|ZI false<|sW true O<|H 5<|sV (RM 9 (E [77,76,81,67,90]) .i64 (1:Nat) (1+1:Nat)) (E [76]) O (λb a h=>O9 O rfl)<|H 6 ?_
 by_cases g:l=[76]
 .subst g;obtain rfl:v=2:=e.symm;exact ZA (Nq .eql 9 (.tmp 9) (.tmp 14) (E [76]) (E [76])) Zt (λb a h=>Kj Zs)<|ZI true<|ZW (I 2)
 refine ZA (Nq .eql 9 (.tmp 9) (.tmp 14) (E l) (E [76])) Zf (λb a h=>Kj (by simpa using g))<|ZI false<|sW true O<|H 5<|sV (RM 9 (E [77,76,81,67,90]) .i64 (2:Nat) (2+1:Nat)) (E [81]) O (λb a h=>O9 O rfl)<|H 6 ?_
 by_cases m:l=[81]
 .subst m;obtain rfl:v=3:=e.symm;exact ZA (Nq .eql 9 (.tmp 9) (.tmp 14) (E [81]) (E [81])) Zt (λb a h=>Kj Zs)<|ZI true<|ZW (I 3)
 refine ZA (Nq .eql 9 (.tmp 9) (.tmp 14) (E l) (E [81])) Zf (λb a h=>Kj (by simpa using m))<|ZI false<|sW true O<|H 5<|sV (RM 9 (E [77,76,81,67,90]) .i64 (3:Nat) (3+1:Nat)) (E [67]) O (λb a h=>O9 O rfl)<|H 6 ?_
 by_cases j:l=[67]
 .subst j;obtain rfl:v=4:=e.symm;exact ZA (Nq .eql 9 (.tmp 9) (.tmp 14) (E [67]) (E [67])) Zt (λb a h=>Kj Zs)<|ZI true<|ZW (I 4)
 refine ZA (Nq .eql 9 (.tmp 9) (.tmp 14) (E l) (E [67])) Zf (λb a h=>Kj (by simpa using j))<|ZI false<|sW true O<|H 5<|sV (RM 9 (E [77,76,81,67,90]) .i64 (4:Nat) (4+1:Nat)) (E [90]) O (λb a h=>O9 O rfl)<|H 6 ?_
 by_cases k:l=[90]
 .subst k;obtain rfl:v=5:=e.symm;exact ZA (Nq .eql 9 (.tmp 9) (.tmp 14) (E [90]) (E [90])) Zt (λb a h=>Kj Zs)<|ZI true<|ZW (I 5)
 refine ZA (Nq .eql 9 (.tmp 9) (.tmp 14) (E l) (E [90])) Zf (λb a h=>Kj (by simpa using k))<|ZI false ?_
 obtain rfl:v=0:=by rw[<-e];unfold Qr;rw[V f,V g,V m,V j,V k]
 exact ZI false<|ZW (I 0)
theorem Yp{e v:Int}(a:Pw l=e)(f:O1 l=v)(b:l.length<=9223372036854775807):Zv 138 #[E l] w (.tuple #[I v,I e]):=by subst a f;exact Dk b
theorem OB{e v x:Int}{i:Nat}(t:Km w A n ws)(j:x=(i:Int))(hi:i<=n)(F:n<=1000000)(k:∀y∈ws,y.length<=1000000)(r:Pq ws i=e)(p:Vw ws i=v):Zv 268 #[.slice A n c,I x] w (.tuple #[I v,I e]):=by
 subst j;have D:=t.1;refine sL func268 rfl<|M ?_
 by_cases o:i<n
 case neg=>
  have s:ws[i]? =none:=AU J;obtain rfl:e=3:=by rw[<-r,Pq,s]
  obtain rfl:v=0:=by rw[<-p,Vw,s]
  exact X (decide ((i:Int)>=(n:Int))) true Zp<|ZW (.tuple #[I 0,I 3])
 obtain⟨x,j⟩:∃x,ws[i]? =some x:=⟨_,AA J⟩
 obtain⟨ad,vg,B⟩:=t.2 i x j;have C:=k x (AQ j);have f:O1 x=v:=by rw[<-p,Vw,j]
 have b:aG x=e:=by rw[<-r,Pq,j]
 refine X (decide ((i:Int)>=(n:Int))) false Zp<|ZA (Ki 53 (.slice A n c) i) (.pointer (some (ad.add i))) (λm g h=>by rw[vg];exact Kg (elem:=9) O O o)<|ZA (L4 9 (ad.add i)) (E x) (λm g h=>K9 O (La g B)) ?_
 rcases ED x with a|a|a|a
 .obtain rfl:e=0:=by rw[<-b,aG,YS a]
  exact Z (λm g h=>Yp a f J) λu=>ZI false<|ZW (.tuple #[I v,I 0])
 .obtain rfl:e=3:=by rw[<-b,aG,a];rfl
  exact Z (λm g h=>Yp a f J) λu=>ZI false<|ZW (.tuple #[I v,I 3])
 .obtain rfl:e=3:=by rw[<-b,aG,a];rfl
  exact Z (λm g h=>Yp a f J) λu=>ZI true<|ZW (.tuple #[I v,I 3])
 .obtain rfl:e=6:=by rw[<-b,aG,a];rfl
  exact Z (λm g h=>Yp a f J) λu=>ZI false<|ZW (.tuple #[I v,I 6])
end
def lV(t:YH)(x y:Int):Sem Next:=Builtin.min_ #[t,t] t #[I x,I y] >>= λv=>pure (.value v)
theorem VR{w:YN}{P:YK}{t:YH}{x y:Nat}:(lV t x y).run P w= .ok (.value (I (min x y:Nat))) w:=by
 simp only[lV,AI,run_min_int2,AH,BB];congr 3;split<;>omega
def gv(l:List Sg):List YM:=l.flatMap Sg.cl
theorem SC:∀{l:List Sg} {k j:Nat} {s:Sg} {v:YM},l[k]? =some s->s.cl[j]? =some v->(gv l)[k*7+j]? =some v
 | [],k,j,s,v,h,_=>by simp at h
 |a::l,0,j,s,v,h,b=>by
  obtain rfl:a=s:=by simpa using h
  have c:j<7:=(AP.1 b).1;rw[Nat.zero_mul,BD];show(a.cl++gv l)[j]? =_;rw[List.getElem?_append_left (show j<a.cl.length from c)];exact b
 |a::l,k+1,j,s,v,h,b=>by
  have e:=SC (l:=l) (k:=k) (by simpa using h) b;show(a.cl++gv l)[(k+1)*7+j]? =_;rw[List.getElem?_append_right (show a.cl.length<=(k+1)*7+j from by show 7<=_;omega),show(k+1)*7+j-a.cl.length=k*7+j from by show(k+1)*7+j-7=_;omega];exact e
section
variable{w:YN}{l:R}{A:YY}{n c:Nat}{ws:List R}
theorem Iz{B m yc:Nat}{y:YY}{a:List Sg}(h:Y w B 213 7 y m yc (gv a))(o:a.length=m):Qn w y m a:=by
 refine⟨o,λk s b=> ?_⟩;have p:=(AP.1 b).1;obtain⟨g,f,e⟩:=h.cells J;refine⟨_,f,λj v r=> ?_⟩;rw[Addr.add_mid,Addr.add_mid,BD];exact e _ _ (SC b r)
theorem cO{B m yc b:Nat}{y:YY}{a:List Sg}{s:Sg}(k:Y w B 213 7 y m yc (gv a))(h:B<=w.heap.size)(j:Kr 213 s.cl.toArray b w)(o:m<1000000):
 Pp XW w (bl y) (λz:YZ=> .slice z.1 (m+1) z.2) (λz v=>Y v B 213 7 z.1 (m+1) z.2 (gv (a++ [s]))) (Ln 63 63 (.slice y m yc) (Kd 1 b)):=by
 have g:=N4 (P:=XW) (s:=7) (z:=Sg.val ⟨0,0,0,0,0,0,0⟩) (bytes:=56) (m:=1) (cc:=1) (t:=63) (elem:=213) O O rfl Zd k h (Mm (n:=1) j rfl) (by intro v f;simp at f;rcases f with rfl|rfl|rfl|rfl|rfl|rfl|rfl<;>rfl) J Zd;have e:gv (a++ [s])=gv a++s.cl:=by simp[gv]
 rw[e];exact g
theorem pq{u:YN}{B B2 m cc k c2:Nat}{uV Y2:YY}{xs f:List YM}(h:Y u B 9 1 uV m cc xs)(g:Y u B2 213 7 Y2 k c2 f):∀b∈bl uV,b∉bl Y2:=λb o e=>by
 obtain⟨s,p,j⟩:=h.ty b o;obtain⟨c2,r,a⟩:=g.ty b e;rw[j]at a;simp only[CB,Obj.cells.injEq]at a;exact absurd a.2.1 Zd
theorem jU{B:Nat}(a:B<=w.heap.size)(g:l.length<=70000):YG XW 266 #[E l] w (K6 w (λy:YZ=> .slice y.1 (Kt l).length y.2) λy u=>Y u B 9 1 y.1 (Kt l).length y.2 (sv (Kt l))):=
 (gX (B:=w.heap.size) (AJ _) (AJ _) g).mono λe j k=>k.cast λy u h=>h.rebase λb f=>BH a (h.lt b f).1
theorem Kl{e:YH}{g j:Nat}{cells:Array YM}{v:YM}(h:Kr e cells g w)(a:cells[j]? =some v):w.cell? ⟨g,j,none⟩=some v:=by
 unfold Kr at h;simp only[BS,h,BJ,BC,if_false];exact a
def nD:Array YM:= #[I 1,I 1,I 2,I 3,I 0]
theorem mV{v:Int}{p r:Nat}(e:v=((p+1:Nat):Int))(b:v=1\/v=2\/v=3\/v=4\/v=5)(a:Mh v=r):nD[p*1]? =some (I (r:Int)):=by
 rw[<-a];rcases b with rfl|rfl|rfl|rfl|rfl
 .obtain rfl:p=0:=J
  rfl
 .obtain rfl:p=1:=J
  rfl
 .obtain rfl:p=2:=J
  rfl
 .obtain rfl:p=3:=J
  rfl
 .obtain rfl:p=4:=J
  rfl
theorem Jx(m:R):(Kt m).length<=m.length+1:=by
 unfold Kt;split
 .simp
 .rw[Rr];have:=List.count_le_length (a:=(32:UInt8)) (l:=m);omega
theorem NI(l:R):∀x∈Kt l,x.length<=l.length:=by
 unfold Kt;split
 .intro x a;cases a
 .exact Zx 32 l
def xc(v:Int)(ws:List R)(i t:Nat):List YM:=I v::(List.range 6).map λs=>I (if s<t then Vw ws (i+1+s)else 0)
theorem gC{v:Int}{i t:Nat}(h:t<6):(xc v ws i t).set (1+t) (I (Vw ws (i+1+t)))=xc v ws i (t+1):=by
 rcases(by omega:t=0\/t=1\/t=2\/t=3\/t=4\/t=5)with rfl|rfl|rfl|rfl|rfl|rfl<;>rfl
theorem JM{x:R}{v:Int}(a:Qr x=v)(b:v≠0)(ws:List R)(i:Nat):(v=1\/v=2\/v=3\/v=4\/v=5)/\∃r:Nat,Mh v=r/\r<=3/\xc v ws i (2*r)=(ZE ws v i).cl:=by
 rcases EC x with ⟨_,h⟩|⟨_,h⟩|⟨_,h⟩|⟨_,h⟩|⟨_,h⟩|⟨_,h⟩<;>rw[h]at a<;>subst a
 .exact⟨by omega,1,rfl,by omega,rfl⟩
 .exact⟨by omega,1,rfl,by omega,rfl⟩
 .exact⟨by omega,2,rfl,by omega,rfl⟩
 .exact⟨by omega,3,rfl,by omega,rfl⟩
 .exact⟨by omega,0,rfl,by omega,rfl⟩
 .exact absurd rfl b
theorem Ea:∀{m i:Nat},(∀t,t<m->Pq ws (i+t)=0)->Y4 ws m i=none
 |0,i,_=>rfl
 |m+1,i,h=>by
  have a:=h 0 J;rw[BQ]at a;rw[Y4,YS a];exact Ea λt b=>by have:=h (t+1) J;rw[show i+(t+1)=i+1+t by omega]at this;exact this
theorem E9:∀{m i j:Nat},(∀t,t<j->Pq ws (i+t)=0)->j<m->Pq ws (i+j)≠0->Y4 ws m i=some (i+j)
 |0,i,j,_,h,_=>absurd h (BM _)
 |m+1,i,0,_,_,h=>by rw[BQ]at h;rw[Y4,V h,BQ]
 |m+1,i,j+1,h,e,b=>by
  have a:=h 0 J;rw[BQ]at a;rw[Y4,YS a,E9 (j:=j) (λt f=>by have:=h (t+1) J;rw[show i+(t+1)=i+1+t by omega]at this;exact this) J (by rw[show i+1+j=i+(j+1) by omega];exact b)];congr 1;omega
theorem gR{out:List Sg}{at_:Nat}{e:Int}(hl:l.length<=65536)(C:P0 (Kt l) 0 []=(out,at_,e)):YG XW 210 #[E l] w (K6 w (λy:YZ=> .tuple #[.slice y.1 out.length y.2,I at_,I e]) λy u=>Qn u y.1 out.length out):=by
 have hwl:=Jx l;have vg:∀x∈Kt l,x.length<=1000000:=λx T=>by have:=NI l x T;omega
 refine sL func210 rfl<|M<|X (decide ((l.length:Int)>65536)) false Zp<|tf (λf a h=>jU (l:=l) (B:=w.heap.size) a.size J) O (λwy=> ?_)
 obtain⟨A,c⟩:=wy;obtain⟨ws,hws⟩:∃ws,ws=Kt l:=⟨_,rfl⟩
 rw[<-hws]at C hwl vg ⊢;obtain⟨n,hn⟩:∃n,n=ws.length:=⟨_,rfl⟩
 rw[<-hn]at hwl ⊢;refine M<|sU (ι:={q:(Nat×Nat×List Sg)×(YZ) // q.1.1<=n/\q.1.2.1<=q.1.1/\q.1.2.2.length=q.1.2.1/\P0 ws q.1.1 q.1.2.2=(out,at_,e)}) 108 (λq=>⟨[(5,.v (.slice A n c)),(6,.v (.slice q.1.2.1 q.1.1.2.1 q.1.2.2)),(7,.v (I q.1.1.1))],[]⟩) (λq u=>Y u w.heap.size 9 1 A n c (sv ws)/\Y u w.heap.size 213 7 q.1.2.1 q.1.1.2.1 q.1.2.2 (gv q.1.1.2.2)) (λq=>n-q.1.1.1) (⟨((0,0,[]),(none,0)),AE _,AJ _,rfl,C⟩) O (λ_=>O) zt (λu h=>⟨h.2,s_⟩) ?_
 clear C;rintro⟨⟨⟨i,m,o⟩,y,yc⟩,F⟩ g;have hi:i<=n:=F.1;have hmi:m<=i:=F.2.1;have D:o.length=m:=F.2.2.1;have C:P0 ws i o=(out,at_,e):=F.2.2.2
 by_cases Q:i<n
 case neg=>
  obtain rfl:i=n:=J
  rw[j7 J,aL]at C;obtain⟨uU,k2,W⟩:∃e k,SP o=(e,k):=⟨_,_,rfl⟩
  rw[W]at C;refine M<|X (decide ((i:Int)<(i:Int))) false Zs<|sN O<|M<|Z (λf a h=>SW (A:=y) (n:=m) (c:=yc) (Iz h.2 D) J W) λu=> ?_
  by_cases uY:uU=0
  .subst uY;rw[YS rfl]at C;cases C;refine X (((0:Int) !=0)) false (rfl)<|ZV (.tuple #[.slice y m yc,I 0,I 0]) (λf a h=>⟨(y,yc),by rw[<-D];rfl,a,λw'' k1 k2=>by rw[D];exact Iz (h w'' k1 k2).1.2 D⟩)
  .rw[V uY]at C;cases C;refine X (uU !=0) true (by simpa using uY)<|ZV (.tuple #[.slice none 0 0,I k2,I uU]) (λf a h=>⟨(none,0),rfl,a,λ_ _ _=>⟨rfl,λk s F=>by simp at F⟩⟩)
 obtain⟨x,T⟩:∃x,ws[i]? =some x:=⟨_,AA J⟩
 have hxl:=vg x (AQ T);refine M<|X (decide ((i:Int)<(n:Int))) true Zp<|s7 (p:=∃ad,A=some ad) (λu hu h=>(by obtain⟨g,hg,_⟩:=(Yv h.1).2 J;exact⟨_,hg⟩)) O (λhwy=> ?_)
 obtain⟨ad,hA⟩:=hwy;refine ZA (Ki 53 (.slice A n c) i) (.pointer (some (ad.add i))) (λf a h=>by rw[hA];exact Kg (elem:=9) O O Q)<|ZA (L4 9 (ad.add i)) (E x) (λf a h=>K9 O (by obtain⟨ad2,h3,h4⟩:=h.1.strs.2 i x T;rw[hA]at h3;cases h3;exact h4)) ?_
 obtain⟨v,uT⟩:∃v,Qr x=v:=⟨_,rfl⟩
 refine Z (λf a h=>lq uT) λu=> ?_
 by_cases uS:v=0
 .subst uS;rw[dn T uT]at C;obtain⟨rfl,rfl,rfl⟩: []=out/\i=at_/\3=e:=by cases C;exact⟨rfl,rfl,rfl⟩
  refine ZI true<|sN O<|M<|ZV (.tuple #[.slice none 0 0,I i,I 3]) (λf a h=>⟨(none,0),rfl,a,λ_ _ _=>⟨rfl,λk s F=>by simp at F⟩⟩)
 refine sQ (v==0) false O (by simpa using uS)<|H 0 ?_
 obtain⟨hvv,r,hr,hr3,hS⟩:=JM uT uS ws i;obtain⟨p,hp,hp5⟩:∃p:Nat,v=((p+1:Nat):Int)/\p<5:=⟨(v-1).toNat,by omega,by omega⟩
 refine M<|sS 7 Q J O<|sO (Kw 65 5 #[(0,I 1),(1,I 1),(2,I 2),(3,I 3),(4,I 0)]) (Kd 5) (Kr 3 nD) O (λf a h=>Kb O) λgm=>H 4<|sM 42 (I (YA.wrap (v-1))) (I (p:Int)) O (by rw[hp,AK _ J];congr 1;omega)<|ZA (Ki 65 (.slice (some ⟨gm,0,none⟩) 5 5) p) (Zq gm (p*1)) (λf a h=>Me (elem:=3) O O hp5)<|ZA (L4 3 ⟨gm,p*1,none⟩) (I (r:Int)) (λf a h=>K9 O (Kl h.2 (mV hp hvv hr)))<|sU (ι:={j:Nat // j<=r/\i+1+2*j<=n/\∀s,s<2*j->Pq ws (i+1+s)=0}) 108 (λq=>⟨[(5,.v (.slice A n c)),(6,.v (.slice y m yc)),(7,.v (I ((i+1+2*q.1:Nat):Int))),(8,.p 8 0),(9,.v (I r)),(10,.v (I q.1))],[(8,(xc v ws i (2*q.1)).map .v)]⟩) (λq u=>Y u w.heap.size 9 1 A n c (sv ws)/\Y u w.heap.size 213 7 y m yc (gv o)) (λq=>r-q.1) (⟨0,AE _,Q,λs hs=>absurd hs J⟩) O (λ_=>O) zt (λu h=>h.1.1) ?_
 rintro⟨j,hj,P,N⟩ g2
 by_cases K:j<r
 case neg=>
  obtain rfl:j=r:=J
  refine M<|X (decide ((j:Int)<(j:Int))) false Zs<|sN O<|H 1 ?_
  rw[km T uT uS (by rw[hr];exact Ea N),hr]at C;obtain⟨S,hSg⟩:∃S,ZE ws v i=S:=⟨_,rfl⟩
  rw[hSg]at hS C;rw[hS];refine M<|sO (Kw 63 1 #[(0,Sg.val S)]) (Kd 1) (Kr 213 (Sg.cl S).toArray) O (λf a h=>Kb O) λgb=>H 3<|sY (L:=bl y) (val:=λ(z:YZ)=> .slice z.1 (m+1) z.2) (Φ':=λ(z:YZ) vv=>Y vv w.heap.size 9 1 A n c (sv ws)/\Y vv w.heap.size 213 7 z.1 (m+1) z.2 (gv (o++ [S]))) (G:=λ(z:YZ) vv=>Y vv w.heap.size 213 7 z.1 (m+1) z.2 (gv (o++ [S]))) (Ln 63 63 (.slice y m yc) (Kd 1 gb)) (λf a h=>cO (show Y f w.heap.size 213 7 y m yc (gv o)from h.1.2) a.size h.2 (show m<1000000 from by omega)) (λf h=>λb hb=>⟨((show Y f w.heap.size 213 7 y m yc (gv o)from h.1.2).lt b hb).1,((show Y f w.heap.size 213 7 y m yc (gv o)from h.1.2).blk b hb).2⟩) (λz wa f uW uU h hG=>⟨(show Y wa w.heap.size 9 1 A n c (sv ws)from h.1.1).left uU (pq h.1.1 h.1.2),hG⟩) O O λz=>M<|sR (⟨((i+1+2*j,m+1,o++ [S]),z),P,by show m+1<=i+1+2*j;omega,by show(o++_).length=m+1;rw[AL,D];rfl,C⟩) O zo zt (λu h=>h)
 have vf:∀t,t<2*r->(∀s,s<t->Pq ws (i+1+s)=0)->Pq ws (i+1+t)≠0->[]=out/\i+1+t=at_/\Pq ws (i+1+t)=e:=λt ht hts h0=>by
  rw[cB T uT uS (by rw[hr];exact E9 hts ht h0)]at C;cases C;exact⟨rfl,rfl,rfl⟩
 have uX:∀t,Pq ws t=0->t<n:=λt h0=>by
  rcases AY t n with ve|ve
  .exact ve
  .rw[Pq,AU J]at h0;exact absurd h0 Zd
 refine M<|X (decide ((j:Int)<(r:Int))) true Zp<|Z (λf a h=>OB (A:=A) (n:=n) (c:=c) (x:=((i+1+2*j:Nat):Int)) (i:=i+1+2*j) (h.1.strs) rfl P J vg rfl rfl) λu0=> ?_
 by_cases e0:Pq ws (i+1+2*j)=0
 case neg=>
  obtain⟨rfl,rfl,rfl⟩:=vf (2*j) J N e0;refine sQ ((Pq ws (i+1+2*j) !=0)) true O (by simpa using e0)<|H 3<|ZA (lV 3 (i+1+2*j:Nat) (n:Nat)) (I (min (i+1+2*j) n:Nat)) (λf a h=>VR)<|sN O<|M<|sN O<|M<|ZV (.tuple #[.slice none 0 0,I (min (i+1+2*j) n:Nat),I (Pq ws (i+1+2*j))]) (λf a h=>⟨(none,0),by rw[CI P];rfl,a,λ_ _ _=>⟨rfl,λk s F=>by simp at F⟩⟩)
 have uV:=uX _ e0;have hsu:∀s,s<2*j+1->Pq ws (i+1+s)=0:=λs hs=>by
  rcases AY s (2*j)with ve|ve
  .exact N s ve
  .obtain rfl:s=2*j:=J
   exact e0
 refine X ((Pq ws (i+1+2*j) !=0)) false (by simpa using e0)<|Z (λf a h=>OB (A:=A) (n:=n) (c:=c) (x:=(YA.wrap (((i+1+2*j:Nat):Int)+1))) (i:=i+1+(2*j+1)) (h.1.1.strs) (by rw[Kc (n:=n) uV J];rfl) J J vg rfl rfl) λu1=> ?_
 by_cases uW:Pq ws (i+1+(2*j+1))=0
 case neg=>
  have hle:i+1+(2*j+1)<=n:=J
  obtain⟨rfl,rfl,rfl⟩:=vf (2*j+1) J hsu uW;refine sQ ((Pq ws (i+1+(2*j+1)) !=0)) true O (by simpa using uW)<|H 4<|sM 73 (I (YA.wrap (((i+1+2*j:Nat):Int)+1))) (I ((i+1+(2*j+1):Nat):Int)) O (by rw[Kc (n:=n) uV J];rfl)<|ZA (lV 3 (i+1+(2*j+1):Nat) (n:Nat)) (I (min (i+1+(2*j+1)) n:Nat)) (λf a h=>VR)<|sN O<|M<|sN O<|M<|ZV (.tuple #[.slice none 0 0,I (min (i+1+(2*j+1)) n:Nat),I (Pq ws (i+1+(2*j+1)))]) (λf a h=>⟨(none,0),by rw[CI hle];rfl,a,λ_ _ _=>⟨rfl,λk s F=>by simp at F⟩⟩)
 have uR:=uX _ uW;refine X ((Pq ws (i+1+(2*j+1)) !=0)) false (by simpa using uW)<|sM 7 (I (YA.wrap (((i+1+2*j:Nat):Int)+2))) (I ((i+1+2*(j+1):Nat):Int)) O (by rw[Su (n:=n+1) J J];rfl) ?_
 have uZ:∀s,s<2*(j+1)->Pq ws (i+1+s)=0:=λs hs=>by
  rcases AY s (2*j+1)with ve|ve
  .exact hsu s ve
  .obtain rfl:s=2*j+1:=J
   exact uW
 rcases(by omega:j=0\/j=1\/j=2)with rfl|rfl|rfl
 .refine M<|ZI true<|sM 10 (I (YA.wrap (((0:Nat):Int)+1))) (I ((0+1:Nat):Int)) O (by rw[Kc (n:=3) J J])<|sR (⟨0+1,K,uR,uZ⟩) O zo zt (λu h=>h.1.1)
 .refine M<|ZI false<|ZI true<|sM 10 (I (YA.wrap (((1:Nat):Int)+1))) (I ((1+1:Nat):Int)) O (by rw[Kc (n:=3) J J])<|sR (⟨1+1,K,uR,uZ⟩) O zo zt (λu h=>h.1.1)
 .refine M<|ZI false<|ZI false<|sM 10 (I (YA.wrap (((2:Nat):Int)+1))) (I ((2+1:Nat):Int)) O (by rw[Kc (n:=3) J J])<|sR (⟨2+1,K,uR,uZ⟩) O zo zt (λu h=>h.1.1)
end
section
variable{w W:YN}{l:R}{A:YY}{n c:Nat}{ws:List R}
theorem Fb{b:UInt8}{k:Int}(h:BX [32,77,76,81,67,90] b=k):Zv 128 #[.string ⟨#[32,77,76,81,67,90]⟩,E [b]] w (I k):=
 (Tryz.strings_Index_one ⟨#[32,77,76,81,67,90]⟩ b w).mono λe g f=>by
  obtain⟨a,rfl⟩:=f;exact⟨(),by rw[a];exact congrArg (λz=>Ending.returned (Value.int .i64 z)) h,Below.refl _ _,λ_ _ _=>trivial⟩
theorem oS{v:Int}(f:Qr l=v):Zv 260 #[E l] w (I v):=by
 by_cases o:l.length=1
 case neg=>
  obtain rfl:v=0:=by
   rcases EC l with ⟨rfl,_⟩|⟨rfl,_⟩|⟨rfl,_⟩|⟨rfl,_⟩|⟨rfl,_⟩|⟨_,h⟩
   .exact absurd rfl o
   .exact absurd rfl o
   .exact absurd rfl o
   .exact absurd rfl o
   .exact absurd rfl o
   .exact f.symm.trans h
  exact sL func260 rfl<|H 3<|ZT 5 (.bool ((l.length:Int) !=1)) Zt Zp<|ZI true<|ZW (I 0)
 obtain⟨b,rfl⟩:∃b,l=[b]:=by
  match l,o with
  | [b],_=>exact⟨b,rfl⟩
 refine sL func260 rfl<|H 5 ?_
 by_cases r:b=32
 .subst r;obtain rfl:v=0:=f.symm.trans Zd;exact ZA (Nq .eql 9 (.tmp 7) (.const (.string ⟨#[32]⟩)) (E [32]) (E [32])) Zt (λj g h=>Kj Zs)<|ZI true<|ZW (I 0)
 refine ZA (Nq .eql 9 (.tmp 7) (.const (.string ⟨#[32]⟩)) (E [b]) (E [32])) Zf (λj g h=>Kj (by simpa using r))<|ZI false ?_
 rcases EC [b]with ⟨h,a⟩|⟨h,a⟩|⟨h,a⟩|⟨h,a⟩|⟨h,a⟩|⟨h,a⟩
 .obtain rfl:b=77:=by simpa using h
  obtain rfl:v=1:=f.symm.trans a;exact Z (λj g h=>Fb (b:=77) (k:=1) Zd) λu=>ZW (I 1)
 .obtain rfl:b=76:=by simpa using h
  obtain rfl:v=2:=f.symm.trans a;exact Z (λj g h=>Fb (b:=76) (k:=2) Zd) λu=>ZW (I 2)
 .obtain rfl:b=81:=by simpa using h
  obtain rfl:v=3:=f.symm.trans a;exact Z (λj g h=>Fb (b:=81) (k:=3) Zd) λu=>ZW (I 3)
 .obtain rfl:b=67:=by simpa using h
  obtain rfl:v=4:=f.symm.trans a;exact Z (λj g h=>Fb (b:=67) (k:=4) Zd) λu=>ZW (I 4)
 .obtain rfl:b=90:=by simpa using h
  obtain rfl:v=5:=f.symm.trans a;exact Z (λj g h=>Fb (b:=90) (k:=5) Zd) λu=>ZW (I 5)
 .obtain rfl:v=0:=f.symm.trans a;have p:BX [32,77,76,81,67,90] b= -1:=by
   simp only[ne_eq,List.cons.injEq,and_true]at h;have e:∀c:UInt8,b≠c->(c==b)=false:=λc s=>YR.2 (Ne.symm s)
   have m:∀c:UInt8,b≠c->(b==c)=false:=λc s=>YR.2 s
   simp[BX,List.findIdx?_cons,e 32 r,e 77 h.1,e 76 h.2.1,e 81 h.2.2.1,e 67 h.2.2.2.1,e 90 h.2.2.2.2,m 32 r,m 77 h.1,m 76 h.2.1,m 81 h.2.2.1,m 67 h.2.2.2.1,m 90 h.2.2.2.2]
  exact Z (λj g h=>Fb (b:=b) p) λu=>ZW (I 0)
def bO(W w:YN)(g:Nat)(v:YM)(u:YN):Prop:=w.heap.size<=u.heap.size/\(∀b,W.heap.size<=b->b<w.heap.size->b≠g->u.heap[b]? =w.heap[b]?)/\K7 u g [v]
theorem J2{a b g:Nat}{val:YM}{vg B:YM}{v F C:YM}{s:YN}(j:Below W.heap.size W w)(m:Below W.heap.size W s)(h:bO W w g v s)(vf:g=a\/g=b)(L:a≠b)(uZ:W.heap.size<=a)(N:W.heap.size<=b)
 (uS:K7 w a [vg]) (G:K7 w b [B]) (x:F=if g=a then v else vg) (r:C=if g=b then v else B):
 Ni w [a,b] (λ_:Unit=>val) (λ_ u=>K7 u a [F]/\K7 u b [C]) (.returned val) s:=by
 obtain⟨uR,p,D⟩:=h;refine⟨(),rfl,⟨m.os.trans j.os.symm,m.tape.trans j.tape.symm,m.output.trans j.output.symm,uR,λk ve t=> ?_⟩,λK P y=>⟨?_,?_⟩⟩
 .rcases AY k W.heap.size with o|o
  .rw[m.block k o,j.block k o]
  .refine p k o ve λe=>t ?_
   rcases vf with rfl|rfl<;>simp[e]
 .have e:=y a (.inl Zs);subst x;split
  .rename_i f;subst f;exact D.to e
  .rename_i f;exact(uS.to (p a uZ uS.lt (Ne.symm f))).to e
 .have e:=y b (.inl Zs);subst r;split
  .rename_i f;subst f;exact D.to e
  .rename_i f;exact(G.to (p b N G.lt (Ne.symm f))).to e
theorem pN{p P e i:Nat}(vf:Below W.heap.size W w)(uS:K7 w p [I i])(uR:K7 w P [.slice A n c])(F:K7 w e [I 0])(B:W.heap.size<=p)(uX:W.heap.size<=P)(vg:W.heap.size<=e)(a:p≠e)
 (uT:Km w A n ws) (hi:i<=n) (hn:n<=1000000) (N:∀y∈ws,y.length<=1000000):
 YG XW 259 #[Zq p 0,Zq P 0,Zq e 0] w (Ni w [p,e] (λ_:Unit=>I (Vw ws i)) (λ_ u=>K7 u p [I (if Pq ws i=0 then(i+1:Nat)else i:Nat)]/\K7 u e [I (Pq ws i)])):=by
 have hln:=uT.1;have hstA:∀u:YN,(w.heap.size<=u.heap.size/\∀b,W.heap.size<=b->b<w.heap.size->u.heap[b]? =w.heap[b]?)->Bk W [p] (λ_=>True)->True:=λ_ _ _=>trivial
 have ve:∀u:YN,(w.heap.size<=u.heap.size/\∀b,W.heap.size<=b->b<w.heap.size->u.heap[b]? =w.heap[b]?)->∀b∈[p],W.heap.size<=b/\∃cs ty own,u.heap[b]? =some (.cells cs ty own):=λu h b uR=>by
  obtain rfl:b=p:=by simpa using uR
  exact⟨B,(uS.stay B h.2).own⟩
 have o:∀u:YN,(w.heap.size<=u.heap.size/\∀b,W.heap.size<=b->b<w.heap.size->u.heap[b]? =w.heap[b]?)->∀b∈[e],W.heap.size<=b/\∃cs ty own,u.heap[b]? =some (.cells cs ty own):=λu h b uR=>by
  obtain rfl:b=e:=by simpa using uR
  exact⟨vg,(F.stay vg h.2).own⟩
 have k:∀(g:Nat) (v:YM) (s u:YN),s.heap.size=u.heap.size->(∀b,b∉[g]->s.heap[b]? =u.heap[b]?)->(w.heap.size<=s.heap.size/\∀b,W.heap.size<=b->b<w.heap.size->s.heap[b]? =w.heap[b]?)->K7 u g [v]->bO W w g v u:=λg v s u m t h D=>⟨by rw[<-m];exact h.1,λb K h2 h3=>(t b (by simpa using h3)).symm.trans (h.2 b K h2),D⟩
 refine ts func259 rfl vf<|M<|ZA (L4 3 ⟨p,0,none⟩) (I i) (λj f h=>K9 O (uS.stay B h.2).one)<|ZA (L4 53 ⟨P,0,none⟩) (.slice A n c) (λj f h=>K9 O (uR.stay uX h.2).one) ?_
 by_cases Q:i<n
 case neg=>
  obtain rfl:i=n:=J
  have uV:ws[i]? =none:=AU J;have m:Pq ws i=3:=by rw[Pq,uV]
  have t:Vw ws i=0:=by rw[Vw,uV]
  rw[m,t];refine X (((i:Int)==(i:Int))) true Zs<|s8 (L:=[e]) (G:=λu=>K7 u e [I 3]) (Φ':=bO W w e (I 3)) (Uk 28 ⟨e,0,none⟩ (I 3)) (λj f h=>(F.stay vg h.2).store O rfl (by intro u r;simp[AX]at r;subst r;rfl)) (λu h=>o u h) (λs u m t h D=>k e _ s u m t h D) O O<|M<|ZV (I 0) (λj f h=>J2 vf f (h j (AJ _) λ_ _ _=>rfl) (.inr rfl) a B vg uS F (by simp[a,Ne.symm a]) (by simp[a,Ne.symm a]))
 obtain⟨x,uY⟩:∃x,ws[i]? =some x:=⟨_,AA J⟩
 obtain⟨ad,hA,uU⟩:=uT.2 i x uY;have hxl:=N x (AQ uY);have uW:Vw ws i=O1 x:=by rw[Vw,uY]
 have T:Pq ws i=aG x:=by rw[Pq,uY]
 have S:∀u:YN,Below W.heap.size W u->(w.heap.size<=u.heap.size/\∀b,W.heap.size<=b->b<w.heap.size->u.heap[b]? =w.heap[b]?)->u.cell? (ad.add i)=some (E x):=λu r h=>Ch uU (by
  have uZ:=Z2 uU;rcases AY (ad.add i).block W.heap.size with K|K
  .rw[r.block _ K,vf.block _ K]
  .exact h.2 _ K uZ)
 rw[uW,T];refine X (((i:Int)==(n:Int))) false Zp<|ZA (L4 53 ⟨P,0,none⟩) (.slice A n c) (λj f h=>K9 O (uR.stay uX h.2).one)<|ZA (L4 3 ⟨p,0,none⟩) (I i) (λj f h=>K9 O (uS.stay B h.2).one)<|ZA (Ki 53 (.slice A n c) i) (.pointer (some (ad.add i))) (λj f h=>by rw[hA];exact Kg (elem:=9) O O Q)<|ZA (L4 9 (ad.add i)) (E x) (λj f h=>K9 O (S j f h)) ?_
 rcases ED x with C|C|C|C
 .have m:aG x=0:=by rw[aG,YS C]
  rw[m];refine Z (λj f h=>Qq C rfl J) λu=>ZI true<|sV (L4 3 ⟨p,0,none⟩) (I i) O (λj f h=>K9 O (uS.stay B h.1.2).one)<|H 2<|sS 22 Q J O<|s8 (L:=[p]) (G:=λu=>K7 u p [I ((i+1:Nat):Int)]) (Φ':=bO W w p (I ((i+1:Nat):Int))) (Uk 3 ⟨p,0,none⟩ (I ((i+1:Nat):Int))) (λj f h=>(uS.stay B h.1.2).store O rfl (by intro u r;simp[AX]at r;subst r;rfl)) (λu h=>ve u h.1) (λs u m t h D=>k p _ s u m t h.1 D) O O<|M<|ZV (I (O1 x)) (λj f h=>J2 vf f (h j (AJ _) λ_ _ _=>rfl) (.inl rfl) a B vg uS F (by simp[a,Ne.symm a]) (by simp[a,Ne.symm a]))
 .have m:aG x=3:=by rw[aG,C];rfl
  rw[m];refine Z (λj f h=>Qq C rfl J) λu=>ZI false<|ZI false<|s8 (L:=[e]) (G:=λu=>K7 u e [I 3]) (Φ':=bO W w e (I 3)) (Uk 28 ⟨e,0,none⟩ (I 3)) (λj f h=>(F.stay vg h.1.2).store O rfl (by intro u r;simp[AX]at r;subst r;rfl)) (λu h=>o u h.1) (λs u m t h D=>k e _ s u m t h.1 D) O O<|M<|ZV (I (O1 x)) (λj f h=>J2 vf f (h j (AJ _) λ_ _ _=>rfl) (.inr rfl) a B vg uS F (by simp[a,Ne.symm a]) (by simp[a,Ne.symm a]))
 .have m:aG x=3:=by rw[aG,C];rfl
  rw[m];refine Z (λj f h=>Qq C rfl J) λu=>ZI false<|ZI false<|s8 (L:=[e]) (G:=λu=>K7 u e [I 3]) (Φ':=bO W w e (I 3)) (Uk 28 ⟨e,0,none⟩ (I 3)) (λj f h=>(F.stay vg h.1.2).store O rfl (by intro u r;simp[AX]at r;subst r;rfl)) (λu h=>o u h.1) (λs u m t h D=>k e _ s u m t h.1 D) O O<|M<|ZV (I (O1 x)) (λj f h=>J2 vf f (h j (AJ _) λ_ _ _=>rfl) (.inr rfl) a B vg uS F (by simp[a,Ne.symm a]) (by simp[a,Ne.symm a]))
 .have m:aG x=6:=by rw[aG,C];rfl
  rw[m];refine Z (λj f h=>Qq C rfl J) λu=>ZI false<|ZI true<|s8 (L:=[e]) (G:=λu=>K7 u e [I 6]) (Φ':=bO W w e (I 6)) (Uk 28 ⟨e,0,none⟩ (I 6)) (λj f h=>(F.stay vg h.1.2).store O rfl (by intro u r;simp[AX]at r;subst r;rfl)) (λu h=>o u h.1) (λs u m t h D=>k e _ s u m t h.1 D) O O<|M<|ZV (I (O1 x)) (λj f h=>J2 vf f (h j (AJ _) λ_ _ _=>rfl) (.inr rfl) a B vg uS F (by simp[a,Ne.symm a]) (by simp[a,Ne.symm a]))
end
theorem Lw.cast{P:YK}{w:YN}{uX:Type}{val:uX->YM}{G G':uX->YN->Prop}{s:Sem Next}(h:Lw P w val G s)(g:∀x u,G x u->G' x u):Lw P w val G' s:=by
 obtain⟨x,j,c,k,e⟩:=h;exact⟨x,j,c,k,λa f b=>g _ _ (e a f b)⟩
theorem V2{P:YK}{w:YN}{t:YH}{z:YM}{N:Nat}{L:List Nat}(c:Bp P t=some z)(a:N<=w.heap.size)(e:∀b∈L,b<w.heap.size):Lw P w X0 (λg u=>K7 u g z.cells.toList/\N<=g/\g∉L) (Cx t):=
 (E0 (N:=w.heap.size) c (AJ _)).cast λg u h=>⟨h.1,BH a h.2.1,λf=>by have:=e g f;have:=h.2.1;omega⟩
theorem OK{P:YK}{w:YN}{t elem:YH}{len:Nat}{a:Array (Nat×YM)}{cells:Array YM}{L:List Nat}(h:FW P t len a=some (elem,cells))(e:∀b∈L,b<w.heap.size):
 Lw P w (Kd len) (λg u=>Kr elem cells g u/\g∉L) (Kw t len a):=
 ((Kb h).fresh (λg=>[g]) (λg u h b c=>by rw[List.mem_singleton.1 c];exact⟨_,_,_,h⟩)).cast λg u h=>⟨h.1,λf=>by have:=e g f;have:=h.2 g Zs;omega⟩
theorem Vq{e:YH}{cells:Array YM}{g:Nat}{L:List Nat}{a u:YN}(h:Kr e cells g a)(c:∀b,b∉L->a.heap[b]? =u.heap[b]?)(f:g∉L):Kr e cells g u:=(c g f).symm.trans h
structure PB(B gW gA gE:Nat)(A:YY)(n c:Nat)(ws:List R)(y:YY)(m yc:Nat)(acc:List Sg)(i:Nat)(e:Int)(u:YN):Prop where
 bw:K7 u gW [.slice A n c]
 ba:K7 u gA [I i]
 be:K7 u gE [I e]
 st:Km u A n ws
 ow:Y u B 213 7 y m yc (gv acc)
structure DB(W:YN)(gW gA gE:Nat)(A y:YY):Prop where
 la:W.heap.size<=gA
 lw:W.heap.size<=gW
 le:W.heap.size<=gE
 ae:gA≠gE
 wa:gW≠gA
 we:gW≠gE
 sa:gA∉bl A
 se:gE∉bl A
 ya:gA∉bl y
 ye:gE∉bl y
 yw:gW∉bl y
 sy:∀b∈bl A,b∉bl y
theorem PB.mutAE{W wa u:YN}{B o j f:Nat}{A:YY}{n c:Nat}{ws:List R}{y:YY}{m yc:Nat}{g:List Sg}{i i':Nat}{e e':Int}(h:PB B o j f A n c ws y m yc g i e wa)(D:DB W o j f A y)
 (l:∀b,b∉[j,f]->wa.heap[b]? =u.heap[b]?) (p:K7 u j [I i']/\K7 u f [I e']):PB B o j f A n c ws y m yc g i' e' u:=by
 refine⟨h.bw.left l (by simp[D.wa,D.we]),p.1,p.2,h.st.left l λb k a=> ?_,h.ow.left l λb k a=> ?_⟩
 .rcases AM.1 a with rfl|a
  .exact D.sa k
  .obtain rfl:b=f:=by simpa using a
   exact D.se k
 .rcases AM.1 a with rfl|a
  .exact D.ya k
  .obtain rfl:b=f:=by simpa using a
   exact D.ye k
theorem uM{W l u:YN}{B g f j:Nat}{A:YY}{n c:Nat}{ws:List R}{y:YY}{m yc:Nat}{a:List Sg}{i i':Nat}{e:Int}(h:PB B g f j A n c ws y m yc a i e l)(D:DB W g f j A y)
 (k:∀b,b∉[f]->l.heap[b]? =u.heap[b]?) (p:K7 u f [I i']):PB B g f j A n c ws y m yc a i' e u:=
 h.mutAE D (λb o=>k b (by simp at o ⊢;exact o.1)) ⟨p,h.be.left k (by simp[Ne.symm D.ae])⟩
theorem uj{s u:YN}{B o k p g:Nat}{A:YY}{n c:Nat}{ws:List R}{y:YY}{m yc:Nat}{f:List Sg}{i:Nat}{e:Int}(h:PB B o k p A n c ws y m yc f i e s)
 (r:g∉o::k::p::(bl A++bl y)) (a:∀b,b∉[g]->s.heap[b]? =u.heap[b]?):PB B o k p A n c ws y m yc f i e u:=by
 simp only[AM,BF,not_or]at r;obtain⟨C,t,v,w,x⟩:=r;refine⟨h.bw.left a (by simp[Ne.symm C]),h.ba.left a (by simp[Ne.symm t]),h.be.left a (by simp[Ne.symm v]),h.st.left a λb l j=> ?_,h.ow.left a λb l j=> ?_⟩
 .obtain rfl:b=g:=by simpa using j
  exact w l
 .obtain rfl:b=g:=by simpa using j
  exact x l
theorem PB.app{W p u:YN}{B k j l:Nat}{A:YY}{n c:Nat}{ws:List R}{y z:YY}{m yc o r:Nat}{g a:List Sg}{i:Nat}{e:Int}(h:PB B k j l A n c ws y m yc g i e p)(D:DB W k j l A y)
 (f:∀b,b∉bl y->p.heap[b]? =u.heap[b]?) (s:Y u B 213 7 z o r (gv a)):PB B k j l A n c ws z o r a i e u:=
 ⟨h.bw.left f D.yw,h.ba.left f D.ya,h.be.left f D.ye,h.st.left f D.sy,s⟩
theorem PB.own{W u:YN}{B j g a:Nat}{A:YY}{n c:Nat}{ws:List R}{y:YY}{m yc:Nat}{f:List Sg}{i:Nat}{e:Int}(h:PB B j g a A n c ws y m yc f i e u)(D:DB W j g a A y):∀b∈[g,a],W.heap.size<=b/\∃cs ty own,u.heap[b]? =some (.cells cs ty own):=λb l=>by
 rcases AM.1 l with rfl|k
 .exact⟨D.la,h.ba.own⟩
 .obtain rfl:b=a:=by simpa using k
  exact⟨D.le,h.be.own⟩
theorem uO{u:YN}{B j g k:Nat}{A:YY}{n c:Nat}{ws:List R}{y:YY}{m yc:Nat}{f:List Sg}{i:Nat}{e:Int}(h:PB B j g k A n c ws y m yc f i e u)(l:∀b∈bl A,b<u.heap.size):∀b∈j::g::k::(bl A++bl y),b<u.heap.size:=λb a=>by
 simp only[AM,BF]at a;rcases a with rfl|rfl|rfl|a|a
 .exact h.bw.lt
 .exact h.ba.lt
 .exact h.be.lt
 .exact l b a
 .exact(h.ow.lt b a).2
section
variable{w W:YN}{l:R}{A:YY}{n c:Nat}{ws:List R}
theorem IH{a:Nat}(h:Km w (some ⟨a,0,none⟩) n ws)(g:0<n):∃s,w.cell? ⟨a,0,none⟩=some (E s):=by
 obtain⟨s,f⟩:∃s,ws[0]? =some s:=⟨_,AA (by rw[h.1];exact g)⟩
 obtain⟨ad,b,e⟩:=h.2 0 s f;obtain rfl:ad=⟨a,0,none⟩:=by injection b with b;exact b.symm
 rw[Addr.add_mid]at e;exact⟨s,e⟩
theorem QT{a g:Nat}{v:YM}{vs:List YM}(h:Km w (some ⟨a,0,none⟩) n ws)(e:0<n)(f:K7 w g (v::vs))(k:∀s,v≠E s):g∉bl (some (⟨a,0,none⟩:YB)):=λj=>by
 obtain rfl:g=a:=by simpa[bl]using j
 obtain⟨s,b⟩:=IH h e;rw[f.cell]at b;simp at b;exact k s b
theorem OA{B m yc:Nat}{y:YY}{a:List Sg}(h:Y w B 213 7 y m yc (gv a))(u:a.length=m)(r:m=0->y=none):∀b∈bl y,(∃v,w.cell? ⟨b,0,none⟩=some (I v))/\∃v,w.cell? ⟨b,1,none⟩=some v:=λb e=>by
 have p:0<m:=by
  rcases Nat.eq_zero_or_pos m with f|f
  .rw[r f]at e;simp[bl]at e
  .exact f
 obtain⟨g,t,k⟩:=h.cells p;obtain⟨s,o⟩:∃s,a[0]? =some s:=⟨_,AA J⟩
 rw[t]at e;obtain rfl:b=g:=by simpa[bl]using e
 exact⟨⟨s.v,k 0 _ (SC (j:=0) o rfl)⟩,_,k 1 _ (SC (j:=1) o rfl)⟩
theorem RD{B m yc g:Nat}{y:YY}{a:List Sg}{v:YM}(h:Y w B 213 7 y m yc (gv a))(j:a.length=m)(e:m=0->y=none)(f:K7 w g [v]):g∉bl y:=λk=>by
 obtain⟨_,o,b⟩:=OA h j e g k;rw[f.cell]at b;simp at b
theorem ZH{B m yc e:Nat}{y:YY}{a:List Sg}(h:Y w B 213 7 y m yc (gv a))(t:a.length=m)(o:m=0->y=none)(p:Km w (some ⟨e,0,none⟩) n ws)(j:0<n):∀b∈bl (some (⟨e,0,none⟩:YB)),b∉bl y:=λb r k=>by
 obtain rfl:b=e:=by simpa[bl]using r
 obtain⟨⟨v,f⟩,_⟩:=OA h t o b k;obtain⟨s,g⟩:=IH p j;rw[g]at f;cases f
theorem jh{b g e i i':Nat}{e' j:Int}(o:Below W.heap.size W w){B:Nat}{y:YY}{m yc:Nat}{f:List Sg}(h:PB B g b e A n c ws y m yc f i 0 w)(D:DB W g b e A y)
 (hi:i<=n) (r:n<=1000000) (a:∀y∈ws,y.length<=1000000) (s:(if Pq ws i=0 then i+1 else i)=i') (k:Pq ws i=e') (p:Vw ws i=j):
 YG XW 259 #[Zq b 0,Zq g 0,Zq e 0] w (Ni w [b,e] (λ_:Unit=>I j) (λ_ u=>K7 u b [I i']/\K7 u e [I e'])):=by
 subst s k p;exact pN o h.ba h.bw h.be D.la D.lw D.le D.ae h.st hi r a
theorem ft:Zv 204 #[E []] w (.tuple #[.slice none 0 0,I 0,I 0]):=by
 refine sL func204 rfl<|M<|sQ (decide (((0:Nat):Int)>65536)) false O Zs<|H 0<|sO (Cx 53) X0 (λg u=>K7 u g [.slice none 0 0]/\w.heap.size<=g/\g∉[]) O (λm f h=>V2 (z:= .slice none 0 0) O f.size Zs) λj=>H 1<|s7 (p:=w.heap.size<=j) (λu r h=>h.2.2.1) O λuS=>ZA (Nq .neq 9 (.tmp 21) (.const (.string ⟨#[]⟩)) (E []) (E [])) Zf (λm f h=>S5 Zs)<|sW false O<|H 0<|sO (Cx 3) X0 (λg u=>K7 u g [I 0]/\w.heap.size<=g/\g∉[j]) O (λm f h=>V2 (z:=I 0) O f.size (by intro b hb;obtain rfl:b=j:=by{simpa using hb};exact h.2.1.lt)) λa=>H 1<|sO (Cx 28) X0 (λg u=>K7 u g [I 0]/\w.heap.size<=g/\g∉[j,a]) O (λm f h=>V2 (z:=I 0) O f.size (by intro b hb;rcases AM.1 hb with rfl|hb;exact h.1.2.1.lt;obtain rfl:b=a:=by{simpa using hb};exact h.2.1.lt)) λo=>H 2<|s7 (p:=(w.heap.size<=a/\a∉[j])/\(w.heap.size<=o/\o∉[j,a])) (λu r h=>⟨h.1.2.2,h.2.2⟩) O (λD=> ?_)
 obtain⟨⟨C,y⟩,vf,v⟩:=D;simp only[AM,BE,or_false,not_or]at y v;exact s8 (L:=[a]) (G:=λu=>K7 u a [I 0]) (Φ':=λu=>K7 u j [.slice none 0 0]/\K7 u a [I 0]/\K7 u o [I 0]) (Uk 3 ⟨a,0,none⟩ (I 0)) (λm f h=>h.1.2.1.store O rfl (by intro u r;simp[AX]at r;subst r;rfl)) (λu h b hb=>by obtain rfl:b=a:=by{simpa using hb};exact⟨C,h.1.2.1.own⟩) (λvg u B t h x=>⟨h.1.1.2.1.left t (by simp[Ne.symm y]),x,h.2.1.left t (by simp[v.2])⟩) O O<|M<|s8 (L:=[o]) (G:=λu=>K7 u o [I 0]) (Φ':=λu=>K7 u j [.slice none 0 0]/\K7 u a [I 0]/\K7 u o [I 0]) (Uk 28 ⟨o,0,none⟩ (I 0)) (λm f h=>h.2.2.store O rfl (by intro u r;simp[AX]at r;subst r;rfl)) (λu h b hb=>by obtain rfl:b=o:=by{simpa using hb};exact⟨vf,h.2.2.own⟩) (λvg u B t h x=>⟨h.1.left t (by simp[Ne.symm v.1]),h.2.1.left t (by simp[Ne.symm v.2]),x⟩) O O<|M<|tx O<|M<|ZA (L4 3 ⟨a,0,none⟩) (I 0) (λm f h=>K9 O h.2.1.one)<|ZA (L4 53 ⟨j,0,none⟩) (.slice none 0 0) (λm f h=>K9 O h.1.one)<|ZI false<|Z (λm f h=>Ro (ls:=[]) (A:=none) (n:=0) (c:=0) (e:=0) (i:=0) ⟨rfl,λk s F=>by simp at F⟩ Zd rfl) λu=>ZI false<|ZW (.tuple #[.slice none 0 0,I 0,I 0])
theorem TY{g k a d:Nat}{t:YH}{u:YN}(h:U8 XW t a 0 0=some ⟨.p 0 (0+d),none⟩):(P8 t ⟨g,k,none⟩ a).run XW u= .ok (.value (Zq g (k+d))) u:=by
 rw[Li h,Addr.add_mid]
theorem m2{out:List Sg}{at_:Nat}{e:Int}(hM:ML w)(h0:l≠[])(hl:l.length<=65536)(uR:P0 (Kt l) 0 []=(out,at_,e)):YG XW 204 #[E l] w (K6 w (λy:YZ=> .tuple #[.slice y.1 out.length y.2,I at_,I e]) λy u=>Qn u y.1 out.length out):=by
 have hwl:=Jx l;have N:∀x∈Kt l,x.length<=1000000:=λx hx=>by have:=NI l x hx;omega
 have hws0:Kt l=Ke 32 l:=V h0;have vf:0<(Ke 32 l).length:=List.length_pos_iff.2 (Uw 32 l);rw[hws0]at uR hwl N;refine sL func204 rfl<|M<|sQ (decide ((l.length:Int)>65536)) false O Zp<|H 0<|sO (Cx 53) X0 (λg u=>K7 u g [.slice none 0 0]/\w.heap.size<=g/\g∉[]) O (λo f h=>V2 (z:= .slice none 0 0) O f.size Zs) λvg=>H 1<|s7 (p:=w.heap.size<=vg) (λu ve h=>h.2.2.1) O λlw=>ZA (Nq .neq 9 (.tmp 21) (.const (.string ⟨#[]⟩)) (E l) (E [])) Zt (λo f h=>S5 (by simpa using h0))<|ZI true<|Z (λo f h=>df (l:=l) 32 (hM.below f) J) λQ=> ?_
 obtain⟨ws,hws⟩:∃ws,ws=Ke 32 l:=⟨_,rfl⟩
 rw[<-hws]at uR hwl N vf ⊢;obtain⟨n,hn⟩:∃n,n=ws.length:=⟨_,rfl⟩
 rw[<-hn]at hwl vf ⊢;refine s8 (L:=[vg]) (G:=λu=>K7 u vg [.slice (some ⟨Q,0,none⟩) n n]) (Φ':=λu=>K7 u vg [.slice (some ⟨Q,0,none⟩) n n]/\Km u (some ⟨Q,0,none⟩) n ws) (Uk 53 ⟨vg,0,none⟩ (.slice (some ⟨Q,0,none⟩) n n)) (λo f h=>h.1.2.1.store O rfl (by intro u ve;simp[AX]at ve;subst ve;rfl)) (λu h b hb=>by obtain rfl:b=vg:=by{simpa using hb};exact⟨lw,h.1.2.1.own⟩) (λuV u uX C h K=>⟨K,h.2.left C λb hb hm=>by obtain rfl:b=vg:=by{simpa using hm};exact QT h.2 vf h.1.2.1 (λs uU=>by cases uU) hb⟩) O O<|H 0<|sO (Cx 3) X0 (λg u=>K7 u g [I 0]/\w.heap.size<=g/\g∉[vg]) O (λo f h=>V2 (z:=I 0) O f.size (by intro b hb;obtain rfl:b=vg:=by{simpa using hb};exact h.1.lt)) λt=>H 1<|sO (Cx 28) X0 (λg u=>K7 u g [I 0]/\w.heap.size<=g/\g∉[vg,t]) O (λo f h=>V2 (z:=I 0) O f.size (by intro b hb;rcases AM.1 hb with rfl|hb;exact h.1.1.lt;obtain rfl:b=t:=by{simpa using hb};exact h.2.1.lt)) λB=>H 2<|s7 (p:=(w.heap.size<=t/\t∉[vg])/\(w.heap.size<=B/\B∉[vg,t])/\t∉bl (some (⟨Q,0,none⟩:YB))/\B∉bl (some (⟨Q,0,none⟩:YB))) (λu ve h=>⟨h.1.2.2,h.2.2,QT h.1.1.2 vf h.1.2.1 (λs uU=>by cases uU),QT h.1.1.2 vf h.2.1 (λs uU=>by cases uU)⟩) O (λhp=> ?_)
 obtain⟨⟨la,ha⟩,⟨le,he⟩,sa,se⟩:=hp;simp only[AM,BE,or_false,not_or]at ha he;refine s8 (L:=[t]) (G:=λu=>K7 u t [I 0]) (Φ':=λu=>(K7 u vg [.slice (some ⟨Q,0,none⟩) n n]/\Km u (some ⟨Q,0,none⟩) n ws)/\K7 u t [I 0]/\K7 u B [I 0]) (Uk 3 ⟨t,0,none⟩ (I 0)) (λo f h=>h.1.2.1.store O rfl (by intro u ve;simp[AX]at ve;subst ve;rfl)) (λu h b hb=>by obtain rfl:b=t:=by{simpa using hb};exact⟨la,h.1.2.1.own⟩) (λuV u uX C h K=>⟨⟨h.1.1.1.left C (by simp[Ne.symm ha]),h.1.1.2.left C λb hb hm=>by obtain rfl:b=t:=by{simpa using hm};exact sa hb⟩,K,h.2.1.left C (by simp[he.2])⟩) O O<|M<|s8 (L:=[B]) (G:=λu=>K7 u B [I 0]) (Φ':=λu=>(K7 u vg [.slice (some ⟨Q,0,none⟩) n n]/\Km u (some ⟨Q,0,none⟩) n ws)/\K7 u t [I 0]/\K7 u B [I 0]) (Uk 28 ⟨B,0,none⟩ (I 0)) (λo f h=>h.2.2.store O rfl (by intro u ve;simp[AX]at ve;subst ve;rfl)) (λu h b hb=>by obtain rfl:b=B:=by{simpa using hb};exact⟨le,h.2.2.own⟩) (λuV u uX C h K=>⟨⟨h.1.1.left C (by simp[Ne.symm he.1]),h.1.2.left C λb hb hm=>by obtain rfl:b=B:=by{simpa using hm};exact se hb⟩,h.2.1.left C (by simp[Ne.symm he.2]),K⟩) O O<|M ?_
 obtain⟨A,uZ⟩:∃A:YY,A=some ⟨Q,0,none⟩:=⟨_,rfl⟩
 rw[<-uZ];refine sU (ι:={q:(Nat×Nat×List Sg)×(YZ) // q.1.1<=n/\q.1.2.1<=q.1.1/\q.1.2.2.length=q.1.2.1/\(q.1.2.1=0->q.2.1=none)/\P0 ws q.1.1 q.1.2.2=(out,at_,e)}) 92 (λq=>⟨[(5,.v (X0 vg)),(6,.v (X0 t)),(7,.v (X0 B)),(8,.v (.func (.func 259) #[] #[X0 t,X0 vg,X0 B])),(9,.v (.slice q.1.2.1 q.1.1.2.1 q.1.2.2))],[]⟩) (λq u=>PB w.heap.size vg t B A n n ws q.1.2.1 q.1.1.2.1 q.1.2.2 q.1.1.2.2 q.1.1.1 0 u) (λq=>n-q.1.1.1) (⟨((0,0,[]),(none,0)),AE _,AJ _,rfl,λ_=>rfl,uR⟩) O (λ_=>O) zt (λu h=>⟨h.1.1,h.2.1,h.2.2,h.1.2,s_⟩) ?_;clear uR;rintro⟨⟨⟨i,m,F⟩,y,yc⟩,T⟩ g;have hi:i<=n:=T.1;have hmi:m<=i:=T.2.1;have uS:F.length=m:=T.2.2.1;have uT:m=0->y=none:=T.2.2.2.1;have uR:P0 ws i F=(out,at_,e):=T.2.2.2.2;refine s7 (p:=DB w vg t B A y) (λu ve h=>⟨la,lw,le,Ne.symm he.2,Ne.symm ha,Ne.symm he.1,by rw[uZ];exact sa,by rw[uZ];exact se,RD (PB.ow h) uS uT (PB.ba h),RD (PB.ow h) uS uT (PB.be h),RD (PB.ow h) uS uT (PB.bw h),by have h3:=PB.st h;rw[uZ]at h3 ⊢;exact ZH (PB.ow h) uS uT h3 vf⟩) O (λD=> ?_);have hAlt:∀u:YN,PB w.heap.size vg t B A n n ws y m yc F i 0 u->∀b∈bl A,b<u.heap.size:=λu h b hb=>by
  have h3:=h.st;rw[uZ]at h3 hb;obtain⟨s,uU⟩:=IH h3 vf;obtain rfl:b=Q:=by simpa[bl]using hb
  exact Z2 uU
 refine M<|ZA (L4 3 ⟨t,0,none⟩) (I i) (λo f h=>K9 O (PB.ba h).one)<|ZA (L4 53 ⟨vg,0,none⟩) (.slice A n n) (λo f h=>K9 O (PB.bw h).one) ?_
 by_cases hlt:i<n
 case neg=>
  obtain rfl:i=n:=J
  rw[j7 J,aL]at uR;obtain⟨C,k2,hch⟩:∃e k,SP F=(e,k):=⟨_,_,rfl⟩
  rw[hch]at uR;refine X (decide ((i:Int)<(i:Int))) false Zs<|sN O<|M<|Z (λo f h=>Ro (A:=y) (n:=m) (c:=yc) (Iz (PB.ow h) uS) J hch) λu=> ?_
  by_cases he2:C=0
  .subst he2;rw[YS rfl]at uR;cases uR;refine X (((0:Int) !=0)) false (rfl)<|ZV (.tuple #[.slice y m yc,I 0,I 0]) (λo f h=>⟨(y,yc),by rw[<-uS];rfl,f,λw'' k1 k2=>by rw[uS];exact Iz (PB.ow (h w'' k1 k2).1) uS⟩)
  .rw[V he2]at uR;cases uR;refine X (C !=0) true (by simpa using he2)<|ZV (.tuple #[.slice none 0 0,I k2,I C]) (λo f h=>⟨(none,0),rfl,f,λ_ _ _=>⟨rfl,λk s T=>by simp at T⟩⟩)
 obtain⟨x,hx⟩:∃x,ws[i]? =some x:=⟨_,AA J⟩
 have hxl:=N x (AQ hx);refine X (decide ((i:Int)<(n:Int))) true Zp<|ZA (L4 53 ⟨vg,0,none⟩) (.slice A n n) (λo f h=>K9 O (PB.bw h).one)<|ZA (L4 3 ⟨t,0,none⟩) (I i) (λo f h=>K9 O (PB.ba h).one)<|ZA (Ki 53 (.slice A n n) i) (.pointer (some ((⟨Q,0,none⟩:YB).add i))) (λo f h=>by rw[uZ];exact Kg (elem:=9) O O hlt)<|ZA (L4 9 ((⟨Q,0,none⟩:YB).add i)) (E x) (λo f h=>K9 O (by obtain⟨ad2,h3,h4⟩:=(PB.st h).2 i x hx;rw[uZ]at h3;cases h3;exact h4)) ?_
 obtain⟨v,hv⟩:∃v,Qr x=v:=⟨_,rfl⟩
 refine ZD 6 (λo f h=>oS hv) λu=>sO (Cx 213) X0 (λg u=>K7 u g (xc 0 ws i 0)/\w.heap.size<=g/\g∉vg::t::B::(bl A++bl y)) O (λo f h=>V2 (z:=Sg.val ⟨0,0,0,0,0,0,0⟩) O f.size (uO h.1 (hAlt _ h.1))) λa=>M<|s7 (p:=w.heap.size<=a/\a∉vg::t::B::(bl A++bl y)) (λu ve h=>h.2.2) O (λhp=> ?_)
 obtain⟨lx,hX⟩:=hp;have hX2:=hX;simp only[AM,BF,not_or]at hX2;obtain⟨xw,xa,xe,xs,xy⟩:=hX2;refine s8 (L:=[a]) (G:=λu=>K7 u a (xc v ws i 0)) (Φ':=λu=>PB w.heap.size vg t B A n n ws y m yc F (i) 0 u/\K7 u a (xc v ws i 0)) (Uk 213 ⟨a,0,none⟩ (Sg.val ⟨v,0,0,0,0,0,0⟩)) (λo f h=>h.2.1.store O rfl (by intro u ve;simp[AX]at ve;rcases ve with rfl|rfl<;>rfl)) (λu h b hb=>by obtain rfl:b=a:=by{simpa using hb};exact⟨lx,h.2.1.own⟩) (λuV u uX C h K=>⟨uj h.1.1 hX C,K⟩) O O<|M<|ZA (L4 3 ⟨a,0,none⟩) (I v) (λo f h=>K9 O (h.2.cell)) ?_
 by_cases uW:v=0
 .subst uW;rw[dn hx hv]at uR;obtain⟨rfl,rfl,rfl⟩: []=out/\i=at_/\3=e:=by cases uR;exact⟨rfl,rfl,rfl⟩
  refine ZI true<|ZA (L4 3 ⟨t,0,none⟩) (I i) (λo f h=>K9 O (PB.ba h.1).one)<|sN O<|M<|ZV (.tuple #[.slice none 0 0,I i,I 3]) (λo f h=>⟨(none,0),rfl,f,λ_ _ _=>⟨rfl,λk s T=>by simp at T⟩⟩)
 refine X (v==0) false (by simpa using uW) ?_;obtain⟨hvv,r,hr,hr3,hS⟩:=JM hv uW ws i;refine ZA (L4 3 ⟨t,0,none⟩) (I i) (λo f h=>K9 O (PB.ba h.1).one)<|sS 41 hlt J O<|s8 (L:=[t]) (G:=λu=>K7 u t [I ((i+1:Nat):Int)]) (Φ':=λu=>PB w.heap.size vg t B A n n ws y m yc F (i+1) 0 u/\K7 u a (xc v ws i 0)) (Uk 3 ⟨t,0,none⟩ (I ((i+1:Nat):Int))) (λo f h=>(PB.ba h.1).store O rfl (by intro u ve;simp[AX]at ve;subst ve;rfl)) (λu h b hb=>by obtain rfl:b=t:=by{simpa using hb};exact⟨la,(PB.ba h.1).own⟩) (λuV u uX C h K=>⟨uM h.1 D C K,h.2.left C (by simp[xa])⟩) O O<|M<|sO (Kw 299 3 #[(0,Zq a 1),(1,Zq a 3),(2,Zq a 5)]) (Kd 3) (λg u=>Kr 298 #[Zq a 1,Zq a 3,Zq a 5] g u/\g∉[t,B,a]) O (λo f h=>OK O (by intro b hb;simp only[AM,BE,or_false]at hb;rcases hb with rfl|rfl|rfl;exact(PB.ba h.1).lt;exact(PB.be h.1).lt;exact h.2.lt)) λP=>M<|s7 (p:=P∉[t,B,a]) (λu ve h=>h.2.2) O (λhga=> ?_)
 simp only[AM,BE,or_false,not_or]at hga;obtain⟨gaA,gaE,gaX⟩:=hga;refine ZA (L4 3 ⟨a,0,none⟩) (I v) (λo f h=>K9 O (h.1.2.cell))<|ZD 4 (λo f h=>JQ (v:=v) (r:=r) hvv hr) λu=>ZA (js 299 (.slice (some ⟨P,0,none⟩) 3 3) (r:Nat)) (.slice (some ⟨P,0,none⟩) r 3) (λo f h=>di (e:=298) O O O hr3)<|sU (ι:={j:Nat // j<=r/\i+1+2*j<=n/\∀s,s<2*j->Pq ws (i+1+s)=0}) 92 (λq=>⟨[(5,.v (X0 vg)),(6,.v (X0 t)),(7,.v (X0 B)),(8,.v (.func (.func 259) #[] #[X0 t,X0 vg,X0 B])),(9,.v (.slice y m yc)),(10,.v (X0 a)),(50,.v (.slice (some ⟨P,0,none⟩) r 3)),(51,.v (I r)),(52,.v (I q.1))],[]⟩) (λq u=>PB w.heap.size vg t B A n n ws y m yc F (i+1+2*q.1) 0 u/\K7 u a (xc v ws i (2*q.1))/\Kr 298 #[Zq a 1,Zq a 3,Zq a 5] P u) (λq=>r-q.1) (⟨0,AE _,hlt,λs uU=>absurd uU J⟩) O (λ_=>O) zt (λu h=>⟨h.1.1.1,h.1.1.2,h.1.2.1⟩) ?_
 rintro⟨j,hj,hjn,hjs⟩ g2
 by_cases hjr:j<r
 case neg=>
  obtain rfl:j=r:=J
  refine M<|X (decide ((j:Int)<(j:Int))) false Zs<|sN O<|M ?_
  rw[km hx hv uW (by rw[hr];exact Ea hjs),hr]at uR;obtain⟨S,hSg⟩:∃S,ZE ws v i=S:=⟨_,rfl⟩
  rw[hSg]at hS uR;rw[hS];refine ZA (L4 213 ⟨a,0,none⟩) (Sg.val S) (λo f h=>Nh (vs:=Sg.cl S) O O (K7.range h.2.1))<|sO (Kw 63 1 #[(0,Sg.val S)]) (Kd 1) (Kr 213 (Sg.cl S).toArray) O (λo f h=>Kb O) λuY=>H 3<|sY (L:=bl y) (val:=λ(z:YZ)=> .slice z.1 (m+1) z.2) (Φ':=λ(z:YZ) u=>PB w.heap.size vg t B A n n ws z.1 (m+1) z.2 (F++ [S]) (i+1+2*j) 0 u) (G:=λ(z:YZ) vv=>Y vv w.heap.size 213 7 z.1 (m+1) z.2 (gv (F++ [S]))) (Ln 63 63 (.slice y m yc) (Kd 1 uY)) (λo f h=>cO (PB.ow h.1.1) f.size h.2 (show m<1000000 from by omega)) (λo h=>λb hb=>⟨((PB.ow h.1.1).lt b hb).1,((PB.ow h.1.1).blk b hb).2⟩) (λz uV o uX C h K=>PB.app h.1.1 D C K) O O λz=>M<|sR (⟨((i+1+2*j,m+1,F++ [S]),z),hjn,by show m+1<=i+1+2*j;omega,by show(F++_).length=m+1;rw[AL,uS];rfl,λh=>absurd (show m+1=0 from h) J,uR⟩) O zo zt (λu h=>h)
 refine M<|sQ (decide ((j:Int)<(r:Int))) true O Zp<|H 0<|ZA (Ki 299 (.slice (some ⟨P,0,none⟩) r 3) j) (Zq P (j*1)) (λo f h=>Me (elem:=298) O O hjr)<|sV (L4 298 ⟨P,j*1,none⟩) (Zq a (1+2*j)) O (λo f h=>K9 O (Kl h.2.2 (by rcases(by omega:j=0\/j=1\/j=2)with rfl|rfl|rfl<;>rfl)))<|H 0<|H 2<|sP 2 (P8 36 ⟨a,1+2*j,none⟩ 0) (Zq a (1+2*j+0)) O (λo f h=>TY (d:=0) O)<|H 5<|ZB 5 (P8 36 ⟨a,1+2*j,none⟩ 1) (Zq a (1+2*j+1)) (λo f h=>TY (d:=1) O)<|sO (Kw 301 2 #[(0,Zq a (1+2*j+0)),(1,Zq a (1+2*j+1))]) (Kd 2) (λg u=>Kr 300 #[Zq a (1+2*j+0),Zq a (1+2*j+1)] g u/\g∉[t,B,a]) O (λo f h=>OK O (by intro b hb;simp only[AM,BE,or_false]at hb;rcases hb with rfl|rfl|rfl;exact(PB.ba h.1).lt;exact(PB.be h.1).lt;exact K7.lt h.2.1)) λuY=>M<|s7 (p:=uY∉[t,B,a]) (λu ve h=>h.2.2) O (λhgb=> ?_)
 simp only[AM,BE,or_false,not_or]at hgb;obtain⟨gbA,gbE,gbX⟩:=hgb;refine sU (ι:={k:Nat // k<=2/\i+1+(2*j+k)<=n/\∀s,s<2*j+k->Pq ws (i+1+s)=0}) 92 (λq=>⟨[(5,.v (X0 vg)),(6,.v (X0 t)),(7,.v (X0 B)),(8,.v (.func (.func 259) #[] #[X0 t,X0 vg,X0 B])),(9,.v (.slice y m yc)),(10,.v (X0 a)),(50,.v (.slice (some ⟨P,0,none⟩) r 3)),(51,.v (I r)),(52,.v (I j)),(62,.v (Kd 2 uY)),(63,.v (I 2)),(64,.v (I q.1))],[]⟩) (λq u=>(PB w.heap.size vg t B A n n ws y m yc F (i+1+(2*j+q.1)) 0 u/\K7 u a (xc v ws i (2*j+q.1))/\Kr 298 #[Zq a 1,Zq a 3,Zq a 5] P u)/\Kr 300 #[Zq a (1+2*j+0),Zq a (1+2*j+1)] uY u) (λq=>2-q.1) (⟨0,by omega,hjn,hjs⟩) O (λ_=>O) zt (λu h=>⟨h.1,h.2.1⟩) ?_;rintro⟨k,hk2,hkn,hks⟩ g3
 by_cases hkk:k<2
 case neg=>
  obtain rfl:k=2:=J
  refine M<|ZI false<|sN O<|M<|sS 52 hjr J O<|sR (⟨j+1,hjr,hkn,hks⟩) O zo zt (λu h=>h.1)
 refine M<|X (decide ((k:Int)<2)) true Zp<|ZA (Ki 301 (.slice (some ⟨uY,0,none⟩) 2 2) k) (Zq uY (k*1)) (λo f h=>Me (elem:=300) O O hkk)<|ZA (L4 300 ⟨uY,k*1,none⟩) (.pointer (some ⟨a,1+(2*j+k),none⟩)) (λo f h=>K9 O (Kl h.2 (by rcases(by omega:k=0\/k=1)with rfl|rfl<;>rfl))) ?_
 by_cases e0:Pq ws (i+1+(2*j+k))=0
 case neg=>
  have hf:Y4 ws (2*(Mh v).toNat) (i+1)=some (i+1+(2*j+k)):=by rw[hr];exact E9 hks (show 2*j+k<2*r by omega) e0
  rw[cB hx hv uW hf]at uR;obtain⟨rfl,rfl,rfl⟩: []=out/\i+1+(2*j+k)=at_/\Pq ws (i+1+(2*j+k))=e:=by cases uR;exact⟨rfl,rfl,rfl⟩
  refine sZ (L:=[t,B]) (Φ':=λ_ u=>(PB w.heap.size vg t B A n n ws y m yc F (i+1+(2*j+k)) (Pq ws (i+1+(2*j+k))) u/\K7 u a (xc v ws i (2*j+k))/\Kr 298 #[Zq a 1,Zq a 3,Zq a 5] P u)/\Kr 300 #[Zq a (1+2*j+0),Zq a (1+2*j+1)] uY u) (λo f h=>jh (i':=i+1+(2*j+k)) (e':=Pq ws (i+1+(2*j+k))) f h.1.1 D hkn J N (V e0) rfl rfl) (λu h=>PB.own h.1.1 D) (λ_ uV u uX C h K=>⟨⟨PB.mutAE h.1.1 D C K,K7.left h.1.2.1 C (by simp[xa,xe]),Vq h.1.2.2 C (by simp[gaA,gaE])⟩,Vq h.2 C (by simp[gbA,gbE])⟩) O O λ_=>M<|s8 (L:=[a]) (G:=λu=>K7 u a (xc v ws i (2*j+k+1))) (Φ':=λu=>(PB w.heap.size vg t B A n n ws y m yc F (i+1+(2*j+k)) (Pq ws (i+1+(2*j+k))) u/\K7 u a (xc v ws i (2*j+k+1))/\Kr 298 #[Zq a 1,Zq a 3,Zq a 5] P u)/\Kr 300 #[Zq a (1+2*j+0),Zq a (1+2*j+1)] uY u) (Uk 3 ⟨a,1+(2*j+k),none⟩ (I (Vw ws (i+1+(2*j+k))))) (λo f h=>by rw[<-gC (v:=v) (ws:=ws) (i:=i) (by omega:2*j+k<6)];exact h.1.2.1.store1 O rfl (by show 1+(2*j+k)<7;omega) rfl) (λu h b hb=>by obtain rfl:b=a:=by{simpa using hb};exact⟨lx,K7.own h.1.2.1⟩) (λuV u uX C h K=>⟨⟨uj h.1.1 hX C,K,Vq h.1.2.2 C (by simp[gaX])⟩,Vq h.2 C (by simp[gbX])⟩) O O<|M<|ZA (L4 28 ⟨B,0,none⟩) (I (Pq ws (i+1+(2*j+k)))) (λo f h=>K9 O (PB.be h.1.1).one)<|X ((Pq ws (i+1+(2*j+k)) !=0)) true (by simpa using e0)<|ZB 0 (L4 3 ⟨t,0,none⟩) (I ((i+1+(2*j+k):Nat):Int)) (λo f h=>K9 O (PB.ba h.1.1).one)<|ZB 1 (L4 28 ⟨B,0,none⟩) (I (Pq ws (i+1+(2*j+k)))) (λo f h=>K9 O (PB.be h.1.1).one)<|sN O<|M<|sN O<|M<|sN O<|M<|ZV (.tuple #[.slice none 0 0,I ((i+1+(2*j+k):Nat):Int),I (Pq ws (i+1+(2*j+k)))]) (λo f h=>⟨(none,0),rfl,f,λ_ _ _=>⟨rfl,λk s T=>by simp at T⟩⟩)
 have hlt2:i+1+(2*j+k)<n:=by
  rcases AY (i+1+(2*j+k)) n with h1|h1
  .exact h1
  .rw[Pq,AU J]at e0;exact absurd e0 Zd
 refine sZ (L:=[t,B]) (Φ':=λ_ u=>(PB w.heap.size vg t B A n n ws y m yc F (i+1+(2*j+k)+1) 0 u/\K7 u a (xc v ws i (2*j+k))/\Kr 298 #[Zq a 1,Zq a 3,Zq a 5] P u)/\Kr 300 #[Zq a (1+2*j+0),Zq a (1+2*j+1)] uY u) (λo f h=>jh (i':=i+1+(2*j+k)+1) (e':=0) f h.1.1 D hkn J N (YS e0) e0 rfl) (λu h=>PB.own h.1.1 D) (λ_ uV u uX C h K=>⟨⟨PB.mutAE h.1.1 D C K,K7.left h.1.2.1 C (by simp[xa,xe]),Vq h.1.2.2 C (by simp[gaA,gaE])⟩,Vq h.2 C (by simp[gbA,gbE])⟩) O O λ_=>M<|s8 (L:=[a]) (G:=λu=>K7 u a (xc v ws i (2*j+k+1))) (Φ':=λu=>(PB w.heap.size vg t B A n n ws y m yc F (i+1+(2*j+k)+1) 0 u/\K7 u a (xc v ws i (2*j+k+1))/\Kr 298 #[Zq a 1,Zq a 3,Zq a 5] P u)/\Kr 300 #[Zq a (1+2*j+0),Zq a (1+2*j+1)] uY u) (Uk 3 ⟨a,1+(2*j+k),none⟩ (I (Vw ws (i+1+(2*j+k))))) (λo f h=>by rw[<-gC (v:=v) (ws:=ws) (i:=i) (by omega:2*j+k<6)];exact h.1.2.1.store1 O rfl (by show 1+(2*j+k)<7;omega) rfl) (λu h b hb=>by obtain rfl:b=a:=by{simpa using hb};exact⟨lx,K7.own h.1.2.1⟩) (λuV u uX C h K=>⟨⟨uj h.1.1 hX C,K,Vq h.1.2.2 C (by simp[gaX])⟩,Vq h.2 C (by simp[gbX])⟩) O O<|M<|ZA (L4 28 ⟨B,0,none⟩) (I 0) (λo f h=>K9 O (PB.be h.1.1).one)<|ZI false<|sS 64 hkk J O<|sR (⟨k+1,hkk,hlt2,λs uU=>by rcases AY s (2*j+k)with h1|h1;exact hks s h1;obtain rfl:s=2*j+k:=by{omega};exact e0⟩) O zo zt (λu h=>h)
end
end Go.Proofs.YtnmokookhcgklaaGreatDoor
