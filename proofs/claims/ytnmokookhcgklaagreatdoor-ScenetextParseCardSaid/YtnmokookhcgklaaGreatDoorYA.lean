/-
 Paints as text: the reader.
-/
import Derived.Test.YtnmokookhcgklaaGreatDoorAUP
import Derived.Test.YtnmokookhcgklaaGreatDoorASh
import Derived.Shelf.Strings.BuilderK
import Derived.Test.YtnmokookhcgklaaGreatDoorProg
import Derived.KernelRfl
import Derived.OpenShut
import Derived.Lib.SmallJoins
import Derived.ChangeSlices
import Derived.Deep.Slices
import Derived.Scope
import Derived.Recover
open Array renaming getElem?_eq_some_iff->AP
open Bool renaming false_eq_true->BI,and_eq_true->BS
open Function renaming comp_def->CS
open Go renaming goPanic->BL
open Go.IntWalk renaming i64_in->BH
open Go.Lib renaming indexByte->AU,byteCells->BB,index->BU,cut->CH,hasSuffix->CK
open Go.Result renaming andThen_ok->AG
open Go.Sem renaming run_bind->AI,run_pure->AN
open Go.World renaming cell?->CA
open Int renaming tmod_eq_emod_of_nonneg->BE,toNat_of_nonneg->BM,toNat_natCast->BP
open List renaming getElem?_eq_getElem->AA,getElem?_eq_some_iff->AB,length_cons->AD,length_append->AH,take_of_length_le->AJ,append_assoc->AK,length_singleton->AL,drop_eq_getElem_cons->AW,getElem?_append_left->AX,mem_of_getElem?->AZ,length_eq_zero_iff->BC,append_nil->BD,flatMap_cons->BF,getLast?_concat->BG,drop_of_length_le->BJ,dropLast_concat_getLast->BK,take_add_one->BO,getElem?_map->BQ,length_take->BT,count_le_length->BW,drop_append_of_le_length->BX,take_succ_cons->BY,drop_zero->BZ,length_drop->CE,length_map->CG,map_eq_cons_iff->CI,mem_cons->CJ,length_pos_iff->CL,drop_succ_cons->CM,mem_singleton->CO,flatMap_nil->CP,map_append->CR
open Nat renaming le_refl->AC,zero_le->AM,zero_add->AY,le_trans->CD,lt_or_ge->CF,add_zero->CN
open Option renaming map_eq_some_iff->AQ,map_map->BN,map_some->BV,isSome_none->CB,bind_some->CQ
open Option.some renaming injEq->CC
open Prod.mk renaming injEq->BR
open UInt8 renaming ofNat->AE,toNat_inj->AR,ofNat_toNat->BA
open Go renaming World->YN,Value->YM,Program->YK,Operand->YJ,Deferred->YI,TypeId->YH,Calls->YG,PanicEntry->YF,FuncId->YE,Oper->YD,Ending->YC,Addr->YB
open Go.IntKind renaming i64->YA,u64->XZ,u32->XY,u8->XX
namespace Go.Proofs.YtnmokookhcgklaaGreatDoor
set_option maxRecDepth 100000
set_option maxHeartbeats 8000000
set_option linter.unusedVariables false
set_option linter.unusedSimpArgs false
open Go.RowKit Go.Proofs.Tryz
open Go.Proofs.Tryz renaming prog->XW
def QL(w:YN)(A:YY)(n:Nat)(bs:R):Prop:=bs.length=n/\∀(k:Nat) (b:UInt8),bs[k]? =some b->∃ad,A=some ad/\w.cell? (ad.add k)=some (.int .u8 b.toNat)
def bv(l:R):List YM:=l.map λb=> .int .u8 b.toNat
def oF(a b:YH)(x:YM):Sem Next:=convert a b x >>= λv=>pure (.value v)
def oZ(t:YH)(c:Int):Sem Next:=Instr.makeSlice t (I 0) (I c) >>= λv=>pure (.value v)
def nX(t:YH)(s:YM)(k:IntKind)(i:Int):Sem Next:=Instr.index t s (.int k i) >>= λv=>pure (.value v)
section
variable{P:YK}{w:YN}{l:R}{t e src dst:YH}
theorem Ex{i:Nat}{b:UInt8}{a:IntKind}(f:P.underlying t=some .string)(h:l[i]? =some b):(nX t (E l) a i).run P w= .ok (.value (.int .u8 b.toNat)) w:=by
 obtain⟨j,g⟩:=AB.1 h;have c:(0:Int)<=(i:Int)/\(i:Int)<((⟨l.toArray⟩:ByteArray).size:Nat):=⟨by omega,by show(i:Int)<(l.length:Int);omega⟩
 simp only[nX,E,AI,run_index_string w t ⟨l.toArray⟩ a i f,dif_pos c,AG,AN];have:(⟨l.toArray⟩:ByteArray)[(i:Int).toNat]' J=b:=g;rw[this]
theorem KG{A:YY}{c B:Nat}(f:P.underlying src=some (.slice e))(k:P.underlying e=some (.int .u8))(m:P.underlying dst=some .string)(h:Y w B e 1 A l.length c (bv l)):
 (oF src dst (.slice A l.length c)).run P w= .ok (.value (E l)) w:=by
 unfold oF;cases A with
 | none=>
  have a:l=[]:=by
   rcases Nat.eq_zero_or_pos l.length with a|a
   .exact BC.1 a
   .obtain⟨g,b,_⟩:=h.cells a;cases b
  subst a;rw[AI,run_convert_bytes_string w src dst e none _ c f k m]
  rfl
 | some ad=>
  rw[AI,run_convert_bytes_back w src dst e ad c l f k m λj o=> ?_]
  .rfl
  .obtain⟨g,b,p⟩:=h.cells J;injection b with b;have:=p j (.int .u8 (l[j].toNat:Nat)) (by simp[bv,o]);rw[b,Addr.add_mid,AY];exact this
theorem an{z:YM}{c B:Nat}(vg:P.underlying t=some (.slice e))(hi:EH P e=some (z,1,1))(vf:c<=1000000)(F:B<=w.heap.size):
 Lw P w (λg:Nat=> .slice (some ⟨g,0,none⟩) 0 c) (λg u=>Y u B e 1 (some ⟨g,0,none⟩) 0 c []) (oZ t c):=by
 unfold EH at hi;obtain⟨i,p,m⟩:=Option.bind_eq_some_iff.1 hi;obtain⟨y,x,f⟩:=AQ.1 m;simp only[BR]at f;obtain⟨rfl,o,r⟩:=f;obtain⟨s,G,A,a⟩:=run_makeSlice_owned (P:=P) w w.heap.size t e i y 1 vg p x o .i64 .i64 c J (by rw[r];omega) (by simp only[maxLen];omega) (AC _);refine⟨w.heap.size,s,by simp only[oZ,AI,G,AG,AN],⟨a.os,a.tape,a.output,a.size,λk C=>a.block k C Zs⟩,λD uS v=> ?_⟩;have h:Y s w.heap.size e 1 (some ⟨w.heap.size,0,none⟩) 0 c []:=A;exact(h.same λb j=>v b (h.lt b j).1 (h.lt b j).2).rebase λb j=>CD F (h.lt b j).1
end
def P3(n:Nat):UInt8:=AE (if n<10 then 48+n else 87+n)
def C7:R:=[48,49,50,51,52,53,54,55,56,57,97,98,99,100,101,102]
theorem Vg:∀n,n<16->C7[n]? =some (P3 n):=Zd
def EN(b:UInt8):R:=[P3 (b.toNat/16),P3 (b.toNat%16)]
def Qf(l:R):R:=l.flatMap EN
theorem Qe(l:R):(Qf l).length=2*l.length:=by
 unfold Qf;induction l with
 |nil=>rfl
 |cons b l a=>rw[BF,AH,a,AD];simp[EN];omega
theorem OL{l:R}{k:Nat}{b:UInt8}(h:l[k]? =some b):Qf (l.take (k+1))=Qf (l.take k)++EN b:=by
 rw[BO,h];simp[Qf]
theorem kp(b:UInt8):(b.toNat:Int).fdiv (2 ^ 4)=((b.toNat/16:Nat):Int):=by
 rw[Int.fdiv_eq_ediv_of_nonneg _ Zd];omega
theorem kA(b:UInt8):bits .and .u8 (b.toNat:Int) 15=((b.toNat%16:Nat):Int):=by
 have h:∀n:Fin 256,bits .and .u8 (n.val:Int) 15=((n.val%16:Nat):Int):=by decide+kernel
 exact h ⟨b.toNat,by have:=b.toNat_lt;omega⟩
section
variable{w:YN}{A:YY}{n c:Nat}{bs:R}
theorem OT(o:QL w A n bs)(uY:n<=100000):Zv 50 #[.slice A n c] w (E (Qf bs)):=by
 refine sL func50 rfl<|H 3<|sM 8 (I (YA.wrap (2*(n:Int)))) (I ((2*n:Nat):Int)) O (by rw[BH _ J];rfl)<|sO (oZ 108 (2*n:Nat)) (λg:Nat=> .slice (some ⟨g,0,none⟩) 0 (2*n)) (λg u=>Y u w.heap.size 5 1 (some ⟨g,0,none⟩) 0 (2*n) []) O (λa f h=>an (z:= .int .u8 0) O O J f.size) λy=>M<|sU (ι:={q:Nat×(YZ) // q.1<=n}) 28 (λq=>⟨[(0,.v (.slice A n c)),(3,.v (.slice q.1.2.1 (2*q.1.1) q.1.2.2)),(10,.v (.slice A n c)),(11,.v (I n)),(12,.v (I q.1.1))],[]⟩) (λq u=>Y u w.heap.size 5 1 q.1.2.1 (2*q.1.1) q.1.2.2 (bv (Qf (bs.take q.1.1)))) (λq=>n-q.1.1) (⟨(0,some ⟨y,0,none⟩,2*n),AM _⟩) O (λ_=>O) zt (λu h=>h.2) ?_
 rintro⟨⟨k,y,yc⟩,vf⟩ S
 by_cases p:k<n
 .refine M<|X (decide ((k:Int)<(n:Int))) true Zp ?_
  obtain⟨b,r⟩:∃b,bs[k]? =some b:=⟨_,AA (by rw[o.1];exact p)⟩
  obtain⟨ad,uR,l⟩:=o.2 k b r;have x:b.toNat/16<16:=by have:=b.toNat_lt;omega
  have C:b.toNat%16<16:=J
  refine ZA (Ki 108 (.slice A n c) k) (.pointer (some (ad.add k))) (λa f h=>by rw[uR];exact Kg (elem:=5) O O p)<|sV (L4 5 (ad.add k)) (.int .u8 b.toNat) O (λa f h=>K9 O (La f l))<|H 3<|H 3<|sM 18 (.int .u8 ((b.toNat:Int).fdiv (2 ^ 4))) (.int .u8 ((b.toNat/16:Nat):Int)) O (by rw[kp])<|sP 3 (nX 9 (E C7) .u8 (b.toNat/16:Nat)) (.int .u8 (P3 (b.toNat/16)).toNat) O (λa f h=>Ex O (Vg _ x))<|H 6<|sM 21 (.int .u8 (bits .and .u8 (b.toNat:Int) 15)) (.int .u8 ((b.toNat%16:Nat):Int)) O (by rw[kA])<|sP 6 (nX 9 (E C7) .u8 (b.toNat%16:Nat)) (.int .u8 (P3 (b.toNat%16)).toNat) O (λa f h=>Ex O (Vg _ C))<|H 7<|sO (Kw 108 2 #[(0,.int .u8 (P3 (b.toNat/16)).toNat),(1,.int .u8 (P3 (b.toNat%16)).toNat)]) (Kd 2) (Kr 5 #[.int .u8 (P3 (b.toNat/16)).toNat,.int .u8 (P3 (b.toNat%16)).toNat]) O (λa f h=>Kb O) λF=>H 8<|tl (L:=bl y) (val:=λ(z:YZ)=> .slice z.1 (2*k+2) z.2) (Φ':=λ(z:YZ) v=>Y v w.heap.size 5 1 z.1 (2*k+2) z.2 (bv (Qf (bs.take (k+1))))) (G:=λ(z:YZ) v=>Y v w.heap.size 5 1 z.1 (2*k+2) z.2 (bv (Qf (bs.take (k+1))))) (Ln 108 108 (.slice y (2*k) yc) (Kd 2 F)) (λa f h=>by have uS:Y a w.heap.size 5 1 y (2*k) yc (bv (Qf (bs.take k))):=h.1;have K:=N4 (P:=XW) (s:=1) (z:= .int .u8 0) (bytes:=1) (m:=2) (cc:=2) (t:=108) (elem:=5) O O rfl Zd uS f.size (Mm (n:=2) h.2 rfl) (by intro v vg;simp at vg;rcases vg with rfl|rfl<;>rfl) J Zd;have e:bv (Qf (bs.take (k+1)))=bv (Qf (bs.take k))++ [.int .u8 (P3 (b.toNat/16)).toNat,.int .u8 (P3 (b.toNat%16)).toNat]:=by{rw[OL r];simp[bv,EN]};rw[e];exact K) (λa h=>λb o=>⟨(h.1.lt b o).1,(h.1.blk b o).2⟩) (λz Q a N uZ h ve=>ve) O O λz=>M<|sS 12 p J O<|sM 3 (.slice z.1 (2*k+2) z.2) (.slice z.1 (2*(k+1)) z.2) O (rfl)<|sR (⟨(k+1,z),by show k+1<=n;omega⟩) O zo zt (λ_ h=>h)
 .refine M<|X (decide ((k:Int)<(n:Int))) false Zp ?_
  have B:k=n:=by have:k<=n:=vf;omega
  subst B;have j:bs.take k=bs:=AJ (by rw[o.1];exact AC _);exact sN O<|H 1<|ZA (oF 108 9 (.slice y (2*k) yc)) (E (Qf bs)) (λa f h=>by have D:Y a w.heap.size 5 1 y (2*k) yc (bv (Qf bs)):=by{rw[<-j];exact h};have e:2*k=(Qf bs).length:=by{rw[Qe,o.1]};rw[e]at D ⊢;exact KG O O O D)<|ZW (E (Qf bs))
theorem iW(b:UInt8):XX.wrap ((b.toNat:Int).tdiv 16)=((b.toNat/16:Nat):Int):=by
 have h:∀n:Fin 256,XX.wrap ((n.val:Int).tdiv 16)=((n.val/16:Nat):Int):=by decide+kernel
 exact h ⟨b.toNat,by have:=b.toNat_lt;omega⟩
theorem kI(b:UInt8):(b.toNat:Int).tmod 16=((b.toNat%16:Nat):Int):=by
 have h:∀n:Fin 256,(n.val:Int).tmod 16=((n.val%16:Nat):Int):=by decide+kernel
 exact h ⟨b.toNat,by have:=b.toNat_lt;omega⟩
theorem U5{P:YK}{t e:YH}{B:Nat}(s:FW P t 0 #[]=some (e,#[]))(p:B<=w.heap.size):Lw P w (Kd 0) (λg u=>Y u B e 1 (some ⟨g,0,none⟩) 0 0 []) (Kw t 0 #[]):=by
 obtain⟨x,o,r,k,l⟩:=(Kb s).fresh (λg=>[g]) (λg u m b f=>by simp at f;subst f;exact⟨_,_,_,m⟩);exact⟨x,o,r,k,λa j h=>by have:=l a j h;exact uk this.1 rfl (CD p (this.2 x Zs)) Zd⟩
theorem PY(p:QL w A n bs)(uY:n<=100000):Zv 81 #[.slice A n c] w (E (Qf bs)):=by
 refine sL func81 rfl<|M<|sO (Kw 108 0 #[]) (Kd 0) (λg u=>Y u w.heap.size 5 1 (some ⟨g,0,none⟩) 0 0 []) O (λf a h=>U5 O a.size) λy=>M<|sU (ι:={q:Nat×(YZ) // q.1<=n}) 29 (λq=>⟨[(0,.v (.slice A n c)),(3,.v (.slice q.1.2.1 (2*q.1.1) q.1.2.2)),(4,.v (I q.1.1))],[]⟩) (λq u=>Y u w.heap.size 5 1 q.1.2.1 (2*q.1.1) q.1.2.2 (bv (Qf (bs.take q.1.1)))) (λq=>n-q.1.1) (⟨(0,some ⟨y,0,none⟩,0),AM _⟩) O (λ_=>O) zt (λu h=>h.2) ?_
 rintro⟨⟨k,y,yc⟩,ve⟩ S
 by_cases l:k<n
 .refine M<|X (decide ((k:Int)<(n:Int))) true Zp ?_
  obtain⟨b,r⟩:∃b,bs[k]? =some b:=⟨_,AA (by rw[p.1];exact l)⟩
  obtain⟨ad,F,j⟩:=p.2 k b r;have x:b.toNat/16<16:=by have:=b.toNat_lt;omega
  have C:b.toNat%16<16:=J
  refine ZB 3 (Ki 108 (.slice A n c) k) (.pointer (some (ad.add k))) (λf a h=>by rw[F];exact Kg (elem:=5) O O l)<|sP 4 (L4 5 (ad.add k)) (.int .u8 b.toNat) O (λf a h=>K9 O (La a j))<|H 6<|sM 17 (.int .u8 (XX.wrap ((b.toNat:Int).tdiv 16))) (.int .u8 ((b.toNat/16:Nat):Int)) O (by rw[iW])<|sP 6 (nX 9 (E C7) .u8 (b.toNat/16:Nat)) (.int .u8 (P3 (b.toNat/16)).toNat) O (λf a h=>Ex O (Vg _ x))<|H 9<|ZB 9 (Ki 108 (.slice A n c) k) (.pointer (some (ad.add k))) (λf a h=>by rw[F];exact Kg (elem:=5) O O l)<|sP 10 (L4 5 (ad.add k)) (.int .u8 b.toNat) O (λf a h=>K9 O (La a j))<|H 12<|sM 23 (.int .u8 ((b.toNat:Int).tmod 16)) (.int .u8 ((b.toNat%16:Nat):Int)) O (by rw[kI])<|sP 12 (nX 9 (E C7) .u8 (b.toNat%16:Nat)) (.int .u8 (P3 (b.toNat%16)).toNat) O (λf a h=>Ex O (Vg _ C))<|H 13<|sO (Kw 108 2 #[(0,.int .u8 (P3 (b.toNat/16)).toNat),(1,.int .u8 (P3 (b.toNat%16)).toNat)]) (Kd 2) (Kr 5 #[.int .u8 (P3 (b.toNat/16)).toNat,.int .u8 (P3 (b.toNat%16)).toNat]) O (λf a h=>Kb O) λuS=>H 14<|tl (L:=bl y) (val:=λ(z:YZ)=> .slice z.1 (2*k+2) z.2) (Φ':=λ(z:YZ) v=>Y v w.heap.size 5 1 z.1 (2*k+2) z.2 (bv (Qf (bs.take (k+1))))) (G:=λ(z:YZ) v=>Y v w.heap.size 5 1 z.1 (2*k+2) z.2 (bv (Qf (bs.take (k+1))))) (Ln 108 108 (.slice y (2*k) yc) (Kd 2 uS)) (λf a h=>by have vf:Y f w.heap.size 5 1 y (2*k) yc (bv (Qf (bs.take k))):=h.1;have uR:=N4 (P:=XW) (s:=1) (z:= .int .u8 0) (bytes:=1) (m:=2) (cc:=2) (t:=108) (elem:=5) O O rfl Zd vf a.size (Mm (n:=2) h.2 rfl) (by intro v vg;simp at vg;rcases vg with rfl|rfl<;>rfl) J Zd;have e:bv (Qf (bs.take (k+1)))=bv (Qf (bs.take k))++ [.int .u8 (P3 (b.toNat/16)).toNat,.int .u8 (P3 (b.toNat%16)).toNat]:=by{rw[OL r];simp[bv,EN]};rw[e];exact uR) (λf h=>λb p=>⟨(h.1.lt b p).1,(h.1.blk b p).2⟩) (λz Q f N uZ h K=>K) O O λz=>M<|sS 4 l J O<|sM 3 (.slice z.1 (2*k+2) z.2) (.slice z.1 (2*(k+1)) z.2) O (rfl)<|sR (⟨(k+1,z),by show k+1<=n;omega⟩) O zo zt (λ_ h=>h)
 .refine M<|X (decide ((k:Int)<(n:Int))) false Zp ?_
  have B:k=n:=by have:k<=n:=ve;omega
  subst B;have o:bs.take k=bs:=AJ (by rw[p.1];exact AC _);exact sN O<|H 1<|ZA (oF 108 9 (.slice y (2*k) yc)) (E (Qf bs)) (λf a h=>by have D:Y f w.heap.size 5 1 y (2*k) yc (bv (Qf bs)):=by{rw[<-o];exact h};have e:2*k=(Qf bs).length:=by{rw[Qe,p.1]};rw[e]at D ⊢;exact KG O O O D)<|ZW (E (Qf bs))
end
theorem bR(a b:R):((⟨a.toArray⟩:ByteArray).toList==(⟨b.toArray⟩:ByteArray).toList)=(a==b):=by rw[Xg,Xg]
section
variable{P:YK}{w:YN}{a b:R}{t:YH}{x y:YJ}
theorem Kj{B:Bool}(h:(a==b)=B):(Nq .eql t x y (E a) (E b)).run P w= .ok (.value (.bool B)) w:=by
 have c:eqGuard .eql t x y (E a) (E b)=pure ():=rfl;have e:binOp .eql t (E a) (E b)=pure (.bool ((⟨a.toArray⟩:ByteArray).toList==(⟨b.toArray⟩:ByteArray).toList)):=by simp[binOp,Op.stringOp,E]
 simp only[Nq,c,e,AI,AN,AG,bR,h]
theorem S5{B:Bool}(h:(!(a==b))=B):(Nq .neq t x y (E a) (E b)).run P w= .ok (.value (.bool B)) w:=by
 have c:eqGuard .neq t x y (E a) (E b)=pure ():=rfl;have e:binOp .neq t (E a) (E b)=pure (.bool !((⟨a.toArray⟩:ByteArray).toList==(⟨b.toArray⟩:ByteArray).toList)):=by simp[binOp,Op.stringOp,E]
 simp only[Nq,c,e,AI,AN,AG,bR,h]
end
section
variable{w:YN}{l:R}{K:Nat}
theorem Us{e:Int}(b:Gy l=e)(a:ML w)(c:l.length<4294967281):YG XW 184 #[E l] w (K6 w (λr:RV=> .tuple #[r.val,I e]) λr u=>Hu r e (Du l) 125 u):=by subst b;exact eQ a c
theorem Vc{lo hi e v:Int}(a:Rp l lo hi=e)(c:Af l lo hi=v)(b:l.length<=9223372036854775807):Zv 203 #[E l,I lo,I hi] w (.tuple #[I v,I e]):=by subst a c;exact MP b
theorem Qq{e v:Int}(a:Pw l=e)(c:O1 l=v)(b:l.length<=9223372036854775807):Zv 205 #[E l] w (.tuple #[I v,I e]):=by subst a c;exact FR b
end
section
variable{w:YN}{l:R}{K:Nat}{a b:RV}{q p:Rat}
def Done(w:YN)(e:YC)(c:YN):Prop:=e= .returned Zt/\Below w.heap.size w c
theorem gT{e:YC}{c:YN}(h:K6 w (λ_:Unit=> .bool true) (λ_ _=>True) e c):Done w e c:=⟨h.choose_spec.1,h.choose_spec.2.1⟩
end
section
variable{w:YN}{l:R}{K:Nat}{a b:RV}{q p:Rat}
theorem pL(h:Pw l=0):K8 (O1 l)=l/\-9223372036854775808<=O1 l/\O1 l<=9223372036854775807:=by
 have c:Kq l=0:=by
  rcases Classical.em (Kq l=0)with e|e
  .exact e
  .rw[(RI e).1]at h;exact absurd h e
 cases f:Hf (Kn l)
 .rw[(QV c f).1]at h;cases h
 .rw[(LF c f).2.1];exact⟨aN c,YP f⟩
end
def Lk(b:UInt8):Int:=if 97<=b.toNat/\b.toNat<=102 then(b.toNat:Int)-87 else if 48<=b.toNat/\b.toNat<=57 then(b.toNat:Int)-48 else -1
theorem UH(b:UInt8)(h:97<=b.toNat/\b.toNat<=102):YA.wrap (10+YA.wrap (XX.wrap (XX.wrap (XX.wrap ((b.toNat:Int)-97)+48)-48)))=Lk b:=by
 unfold Lk;rw[YS h];have a:∀n:Fin 256,97<=n.val->n.val<=102->YA.wrap (10+YA.wrap (XX.wrap (XX.wrap (XX.wrap ((n.val:Int)-97)+48)-48)))=(n.val:Int)-87:=by decide+kernel
 exact a ⟨b.toNat,by have:=b.toNat_lt;omega⟩ h.1 h.2
theorem VC(b:UInt8)(h:48<=b.toNat/\b.toNat<=57):YA.wrap (0+YA.wrap (XX.wrap ((b.toNat:Int)-48)))=Lk b:=by
 unfold Lk;rw[V J,YS h];have a:∀n:Fin 256,48<=n.val->n.val<=57->YA.wrap (0+YA.wrap (XX.wrap ((n.val:Int)-48)))=(n.val:Int)-48:=by decide+kernel
 exact a ⟨b.toNat,by have:=b.toNat_lt;omega⟩ h.1 h.2
section
variable{w:YN}
theorem de(b:UInt8):Zv 247 #[.int .u8 b.toNat] w (I (Lk b)):=by
 refine sL func247 rfl<|H 2 ?_
 by_cases c:97<=b.toNat
 .refine sM 6 (.bool (decide ((b.toNat:Int)>=97))) Zt O (by rw[YU J])<|M ?_
  by_cases g:b.toNat<=102
  .rw[<-UH b ⟨c,g⟩];exact X (decide ((b.toNat:Int)<=102)) true Zp<|ZW (I (YA.wrap (10+YA.wrap (XX.wrap (XX.wrap (XX.wrap ((b.toNat:Int)-97)+48)-48)))))
  .have e:Lk b= -1:=by unfold Lk;rw[V J,V J]
   rw[e];exact sQ (decide ((b.toNat:Int)<=102)) false O Zp<|H 2<|ZT 13 (.bool (decide ((b.toNat:Int)>=48))) Zt (by rw[YU J])<|X (decide ((b.toNat:Int)<=57)) false Zp<|ZW (I (-1))
 refine ZT 6 (.bool (decide ((b.toNat:Int)>=97))) Zf (by rw[YV J])<|sW false O<|H 2 ?_
 by_cases a:48<=b.toNat
 .refine sM 13 (.bool (decide ((b.toNat:Int)>=48))) Zt O (by rw[YU J])<|M ?_
  by_cases f:b.toNat<=57
  .rw[<-VC b ⟨a,f⟩];exact X (decide ((b.toNat:Int)<=57)) true Zp<|ZW (I (YA.wrap (0+YA.wrap (XX.wrap ((b.toNat:Int)-48)))))
  .have e:Lk b= -1:=by unfold Lk;rw[V J,V J]
   rw[e];exact X (decide ((b.toNat:Int)<=57)) false Zp<|ZW (I (-1))
 .have e:Lk b= -1:=by unfold Lk;rw[V J,V J]
  rw[e];exact ZT 13 (.bool (decide ((b.toNat:Int)>=48))) Zf (by rw[YV J])<|ZI false<|ZW (I (-1))
theorem Uu:∀k,k<16->Lk (P3 k)=k:=by decide+kernel
theorem fb(b:UInt8)(h:∀j,j<16->C7[j]? ≠some b):Lk b= -1:=by
 unfold Lk
 by_cases c:97<=b.toNat/\b.toNat<=102
 .refine absurd ?_ (h (b.toNat-87) J);have a:∀n:Fin 256,97<=n.val->n.val<=102->C7[n.val-87]? =some (AE n.val):=by decide+kernel
  have:=a ⟨b.toNat,by have:=b.toNat_lt;omega⟩ c.1 c.2;simpa using this
 rw[V c]
 by_cases e:48<=b.toNat/\b.toNat<=57
 .refine absurd ?_ (h (b.toNat-48) J);have a:∀n:Fin 256,48<=n.val->n.val<=57->C7[n.val-48]? =some (AE n.val):=by decide+kernel
  have:=a ⟨b.toNat,by have:=b.toNat_lt;omega⟩ e.1 e.2;simpa using this
 rw[V e]
theorem d5(b:UInt8):Zv 263 #[.int .u8 b.toNat] w (I (Lk b)):=by
 refine sL func263 rfl<|M<|sU (ι:={k:Nat // k<=16/\∀j,j<k->C7[j]? ≠some b}) 13 (λq=>⟨[(0,.v (.int .u8 b.toNat)),(2,.v (I 0)),(3,.v (I q.1))],[]⟩) (λ_ _=>True) (λq=>16-q.1) (⟨0,by omega,by omega⟩) O (λ_=>O) zt (λ_ _=>trivial) ?_
 rintro⟨k,m,c⟩ g
 by_cases a:k<16
 .refine M<|sQ (decide ((k:Int)<16)) true O Zp<|H 1<|ZA (D0 9 (E C7) k) (.int .u8 (P3 k).toNat) (λp o h=>Mc O (Vg k a)) ?_
  by_cases f:P3 k=b
  .exact X ((((P3 k).toNat:Nat):Int)==(b.toNat:Int)) true (by rw[f];simp)<|sN O<|M<|ZX (I k) (by rw[<-f,Uu k a])
  .refine X ((((P3 k).toNat:Nat):Int)==(b.toNat:Int)) false (by rw[YR];intro e;exact f (AR.1 J))<|sS 3 a Zd O<|sR (⟨k+1,by omega,by intro j l;by_cases e:j=k;rw[e,Vg k a];simpa using f;exact c j J⟩) O zo zt (λ_ _=>trivial)
 .exact M<|X (decide ((k:Int)<16)) false Zp<|sN O<|M<|ZX (I (-1)) (by rw[fb b (λj l=>c j J)])
end
def Md(a b:UInt8):UInt8:=AE (16*(Lk a).toNat+(Lk b).toNat)
def Ao:R->Option R
 | []=>some []
 | [_]=>none
 |a::b::l=>if Lk a<0\/Lk b<0 then none else(Ao l).map (Md a b::·)
theorem R6(b:UInt8): -1<=Lk b/\Lk b<=15:=by
 unfold Lk;split
 .omega
 .split
  .omega
  .omega
theorem KS:∀{l:R},l.length%2=1->Ao l=none
 | [],h=>by simp at h
 | [_],_=>rfl
 |a::b::l,h=>by
  unfold Ao;split
  .rfl
  .rw[KS (l:=l) (by simp only[AD]at h;omega)];rfl
theorem Fk(a b:UInt8)(l:R):Ao (a::b::l)=if Lk a<0\/Lk b<0 then none else(Ao l).map (Md a b::·):=rfl
def gL(o:Option R)(y:YZ):YM:=match o with
 |some p=> .tuple #[.slice y.1 p.length y.2,.int .i64 0]
 |none=> .tuple #[.slice none 0 0,.int .i64 3]
def q_(o:Option R)(y:YZ)(u:YN):Prop:=match o with
 |some p=>Y u 0 5 1 y.1 p.length y.2 (bv p)
 |none=>True
theorem PK{l p:R}{k:Nat}{a b:UInt8}(h:Ao l=(Ao (l.drop k)).map (p++·))(e:l[k]? =some a)(m:l[k+1]? =some b):
 (Lk a<0\/Lk b<0->Ao l=none)/\(¬(Lk a<0\/Lk b<0)->Ao l=(Ao (l.drop (k+2))).map ((p++ [Md a b])++·)):=by
 have o:l.drop k=a::b::l.drop (k+2):=by
  obtain⟨g,r⟩:=AB.1 e;obtain⟨f,j⟩:=AB.1 m;rw[AW g,r,AW f,j]
 rw[o,Fk]at h;constructor
 .intro c;rw[YS c]at h;exact h
 .intro c;rw[V c,BN]at h;rw[h];congr 1
  funext q
  simp
theorem dm{x y:Int}(f:0<=x/\x<=15)(e:0<=y/\y<=15):XX.wrap (bits .or .i64 (YA.wrap (x*2 ^ 4)) y)=((AE (16*x.toNat+y.toNat)).toNat:Int):=by
 have c:∀a b:Fin 16,XX.wrap (bits .or .i64 (YA.wrap ((a.val:Int)*2 ^ 4)) (b.val:Int))=((AE (16*a.val+b.val)).toNat:Int):=by decide+kernel
 have:=c ⟨x.toNat,by omega⟩ ⟨y.toNat,by omega⟩;simp only[BM f.1,BM e.1]at this;exact this
theorem WJ{x y:Int}(f:0<=x/\x<=15)(e:0<=y/\y<=15):XX.wrap (YA.wrap (YA.wrap (16*x)+y))=((AE (16*x.toNat+y.toNat)).toNat:Int):=by
 have c:∀a b:Fin 16,XX.wrap (YA.wrap (YA.wrap (16*(a.val:Int))+(b.val:Int)))=((AE (16*a.val+b.val)).toNat:Int):=by decide+kernel
 have:=c ⟨x.toNat,by omega⟩ ⟨y.toNat,by omega⟩;simp only[BM f.1,BM e.1]at this;exact this
section
variable{w:YN}{l:R}
theorem OJ{o:Option R}(B:Ao l=o)(uV:l.length<=100000):YG XW 185 #[E l] w (K6 w (gL o) (λy u=>q_ o y u)):=by
 by_cases C:l.length%2=1
 .obtain rfl:o=none:=B.symm.trans (KS C);refine sL func185 rfl<|M<|X (((l.length:Int).tmod 2) !=0) true (by rw[BE J];simp;omega)<|ZV (.tuple #[.slice none 0 0,I 3]) (λf c h=>⟨(none,0),rfl,c,λ_ _ _=>trivial⟩)
 refine sL func185 rfl<|M<|X (((l.length:Int).tmod 2) !=0) false (by rw[BE J];simp;omega)<|sU (ι:={q:(Nat×R)×(YZ) // 2*q.1.1<=l.length/\Ao l=(Ao (l.drop (2*q.1.1))).map (q.1.2++·)/\q.1.2.length=q.1.1}) 42 (λq=>⟨[(0,.v (E l)),(2,.v (.slice none 0 0)),(3,.v (I 0)),(4,.v (.slice q.1.2.1 q.1.1.1 q.1.2.2)),(5,.v (I (2*q.1.1.1:Nat)))],[]⟩) (λq u=>Y u w.heap.size 5 1 q.1.2.1 q.1.1.1 q.1.2.2 (bv q.1.1.2)) (λq=>l.length-2*q.1.1.1) (⟨((0,[]),(none,0)),by simp,by show Ao l=(Ao (l.drop 0)).map ([]++·);rw[BZ];cases Ao l<;>rfl,rfl⟩) O (λ_=>O) zt (λu h=>s_) ?_
 rintro⟨⟨⟨k,p⟩,y,yc⟩,vf⟩ g;have T:2*k<=l.length:=vf.1;have D:Ao l=(Ao (l.drop (2*k))).map (p++·):=vf.2.1
 have x:p.length=k:=vf.2.2
 by_cases F:2*k<l.length
 .refine M<|sQ (decide (((2*k:Nat):Int)<(l.length:Int))) true O Zp<|H 2 ?_
  obtain⟨a,uS⟩:∃a,l[2*k]? =some a:=⟨_,AA F⟩
  obtain⟨b,vg⟩:∃b,l[2*k+1]? =some b:=⟨_,AA J⟩
  obtain⟨N,S⟩:=PK D uS vg;refine sP 2 (D0 9 (E l) (2*k:Nat)) (.int .u8 a.toNat) O (λf c h=>Mc O uS)<|H 7<|sM 24 (I (YA.wrap (((2*k:Nat):Int)+1))) (I ((2*k+1:Nat):Int)) O (by rw[Kc F J])<|ZB 7 (D0 9 (E l) (2*k+1:Nat)) (.int .u8 b.toNat) (λf c h=>Mc O vg)<|Z (λf c h=>de a) λu=>ZD 0 (λf c h=>de b) λu=>s0 O (stop:=1000) 3 _ ?_
  by_cases j:Lk a<0
  .refine H 2<|ZT 28 (.bool (decide (Lk a<0))) Zt (by rw[YU j])<|ZI true<|sN O<|M ?_
   obtain rfl:o=none:=B.symm.trans (N (.inl j));refine ZV (.tuple #[.slice none 0 0,I 3]) (λf c h=>⟨(none,0),rfl,c,λ_ _ _=>trivial⟩)
  by_cases r:Lk b<0
  .refine H 2<|ZT 28 (.bool (decide (Lk a<0))) Zf (by rw[YV j])<|X (decide (Lk b<0)) true (YU r)<|sN O<|M ?_
   obtain rfl:o=none:=B.symm.trans (N (.inr r));refine ZV (.tuple #[.slice none 0 0,I 3]) (λf c h=>⟨(none,0),rfl,c,λ_ _ _=>trivial⟩)
  have K:0<=Lk a/\Lk a<=15:=⟨by omega,(R6 a).2⟩
  have ve:0<=Lk b/\Lk b<=15:=⟨by omega,(R6 b).2⟩
  refine H 2<|ZT 28 (.bool (decide (Lk a<0))) Zf (by rw[YV j])<|sQ (decide (Lk b<0)) false O (YV r)<|H 6<|sM 38 (.int .u8 (XX.wrap (bits .or .i64 (YA.wrap (Lk a*2 ^ 4)) (Lk b)))) (.int .u8 (Md a b).toNat) O (by rw[dm K ve];rfl)<|sO (Kw 108 1 #[(0,.int .u8 (Md a b).toNat)]) (Kd 1) (Kr 5 #[.int .u8 (Md a b).toNat]) O (λf c h=>Kb O) λuZ=>H 7<|sY (L:=bl y) (val:=λ(z:YZ)=> .slice z.1 (k+1) z.2) (Φ':=λ(z:YZ) v=>Y v w.heap.size 5 1 z.1 (k+1) z.2 (bv (p++ [Md a b]))) (G:=λ(z:YZ) v=>Y v w.heap.size 5 1 z.1 (k+1) z.2 (bv (p++ [Md a b]))) (Ln 108 108 (.slice y k yc) (Kd 1 uZ)) (λf c h=>by have B:Y f w.heap.size 5 1 y k yc (bv p):=h.1.1.1;have uS:=N4 (P:=XW) (s:=1) (z:= .int .u8 0) (bytes:=1) (m:=1) (cc:=1) (t:=108) (elem:=5) O O rfl Zd B c.size (Mm (n:=1) h.2 rfl) (by intro v uR;simp at uR;rcases uR with rfl;rfl) J Zd;have e:bv (p++ [Md a b])=bv p++ [.int .u8 (Md a b).toNat]:=by{simp[bv]};rw[e];exact uS) (λf h=>λb vg=>⟨(h.1.1.1.lt b vg).1,(h.1.1.1.blk b vg).2⟩) (λz uT f W uX h uW=>uW) O O λz=>M<|sM 5 (I (YA.wrap (((2*k:Nat):Int)+2))) (I ((2*(k+1):Nat):Int)) O (by rw[BH _ J];congr 1)<|sR (⟨((k+1,p++ [Md a b]),z),by show 2*(k+1)<=l.length;omega,S J,by simp[x]⟩) O zo zt (λ_ h=>h)
 .refine M<|X (decide (((2*k:Nat):Int)<(l.length:Int))) false Zp<|sN O<|M ?_
  have uU:Ao l=some p:=by
   rw[D,BJ J];show some (p++ [])=some p;rw[BD]
  obtain rfl:o=some p:=B.symm.trans uU;refine ZV (.tuple #[.slice y k yc,I 0]) (λf c h=>⟨(y,yc),by show _=Ending.returned (Value.tuple #[.slice y p.length yc,I 0]);rw[x],c,λA uY Q=>by show Y A 0 5 1 y p.length yc (bv p);rw[x];exact(show Y A w.heap.size 5 1 y k yc (bv p)from h A uY Q).rebase (λ_ _=>AM _)⟩)
end
section
variable{w:YN}{l:R}
theorem OU{o:Option R}(B:Ao l=o)(uV:l.length<=100000):YG XW 208 #[E l] w (K6 w (gL o) (λy u=>q_ o y u)):=by
 by_cases C:l.length%2=1
 .obtain rfl:o=none:=B.symm.trans (KS C);refine sL func208 rfl<|M<|sO (Kw 108 0 #[]) (Kd 0) (λg u=>Y u w.heap.size 5 1 (some ⟨g,0,none⟩) 0 0 []) O (λf c h=>U5 O c.size) λy=>M<|X (((l.length:Int).tmod 2)==1) true (by rw[BE J];simp;omega)<|ZV (.tuple #[.slice none 0 0,I 3]) (λf c h=>⟨(none,0),rfl,c,λ_ _ _=>trivial⟩)
 refine sL func208 rfl<|M<|sO (Kw 108 0 #[]) (Kd 0) (λg u=>Y u w.heap.size 5 1 (some ⟨g,0,none⟩) 0 0 []) O (λf c h=>U5 O c.size) λy=>M<|X (((l.length:Int).tmod 2)==1) false (by rw[BE J];simp;omega)<|sU (ι:={q:(Nat×R)×(YZ) // 2*q.1.1<=l.length/\Ao l=(Ao (l.drop (2*q.1.1))).map (q.1.2++·)/\q.1.2.length=q.1.1}) 43 (λq=>⟨[(0,.v (E l)),(2,.v (.slice none 0 0)),(3,.v (I 0)),(4,.v (.slice q.1.2.1 q.1.1.1 q.1.2.2)),(5,.v (I (2*q.1.1.1:Nat)))],[]⟩) (λq u=>Y u w.heap.size 5 1 q.1.2.1 q.1.1.1 q.1.2.2 (bv q.1.1.2)) (λq=>l.length-2*q.1.1.1) (⟨((0,[]),(some ⟨y,0,none⟩,0)),by simp,by show Ao l=(Ao (l.drop 0)).map ([]++·);rw[BZ];cases Ao l<;>rfl,rfl⟩) O (λ_=>O) zt (λu h=>h.2) ?_
 rintro⟨⟨⟨k,p⟩,y,yc⟩,vf⟩ g;have T:2*k<=l.length:=vf.1;have D:Ao l=(Ao (l.drop (2*k))).map (p++·):=vf.2.1
 have x:p.length=k:=vf.2.2
 by_cases F:2*k<l.length
 .refine M<|sQ (decide (((2*k:Nat):Int)<(l.length:Int))) true O Zp<|H 2 ?_
  obtain⟨a,uS⟩:∃a,l[2*k]? =some a:=⟨_,AA F⟩
  obtain⟨b,vg⟩:∃b,l[2*k+1]? =some b:=⟨_,AA J⟩
  obtain⟨N,S⟩:=PK D uS vg;refine sP 2 (D0 9 (E l) (2*k:Nat)) (.int .u8 a.toNat) O (λf c h=>Mc O uS)<|H 7<|sM 25 (I (YA.wrap (((2*k:Nat):Int)+1))) (I ((2*k+1:Nat):Int)) O (by rw[Kc F J])<|ZB 7 (D0 9 (E l) (2*k+1:Nat)) (.int .u8 b.toNat) (λf c h=>Mc O vg)<|Z (λf c h=>d5 a) λu=>ZD 0 (λf c h=>d5 b) λu=>s0 O (stop:=1000) 2 _ ?_
  by_cases j:Lk a<0
  .refine H 2<|ZT 29 (.bool (decide (Lk a<0))) Zt (by rw[YU j])<|ZI true<|sN O<|M ?_
   obtain rfl:o=none:=B.symm.trans (N (.inl j));refine ZV (.tuple #[.slice none 0 0,I 3]) (λf c h=>⟨(none,0),rfl,c,λ_ _ _=>trivial⟩)
  by_cases r:Lk b<0
  .refine H 2<|ZT 29 (.bool (decide (Lk a<0))) Zf (by rw[YV j])<|X (decide (Lk b<0)) true (YU r)<|sN O<|M ?_
   obtain rfl:o=none:=B.symm.trans (N (.inr r));refine ZV (.tuple #[.slice none 0 0,I 3]) (λf c h=>⟨(none,0),rfl,c,λ_ _ _=>trivial⟩)
  have K:0<=Lk a/\Lk a<=15:=⟨by omega,(R6 a).2⟩
  have ve:0<=Lk b/\Lk b<=15:=⟨by omega,(R6 b).2⟩
  refine H 2<|ZT 29 (.bool (decide (Lk a<0))) Zf (by rw[YV j])<|sQ (decide (Lk b<0)) false O (YV r)<|H 6<|sM 39 (.int .u8 (XX.wrap (YA.wrap (YA.wrap (16*Lk a)+Lk b)))) (.int .u8 (Md a b).toNat) O (by rw[WJ K ve];rfl)<|sO (Kw 108 1 #[(0,.int .u8 (Md a b).toNat)]) (Kd 1) (Kr 5 #[.int .u8 (Md a b).toNat]) O (λf c h=>Kb O) λuZ=>H 7<|sY (L:=bl y) (val:=λ(z:YZ)=> .slice z.1 (k+1) z.2) (Φ':=λ(z:YZ) v=>Y v w.heap.size 5 1 z.1 (k+1) z.2 (bv (p++ [Md a b]))) (G:=λ(z:YZ) v=>Y v w.heap.size 5 1 z.1 (k+1) z.2 (bv (p++ [Md a b]))) (Ln 108 108 (.slice y k yc) (Kd 1 uZ)) (λf c h=>by have B:Y f w.heap.size 5 1 y k yc (bv p):=h.1.1.1;have uS:=N4 (P:=XW) (s:=1) (z:= .int .u8 0) (bytes:=1) (m:=1) (cc:=1) (t:=108) (elem:=5) O O rfl Zd B c.size (Mm (n:=1) h.2 rfl) (by intro v uR;simp at uR;rcases uR with rfl;rfl) J Zd;have e:bv (p++ [Md a b])=bv p++ [.int .u8 (Md a b).toNat]:=by{simp[bv]};rw[e];exact uS) (λf h=>λb vg=>⟨(h.1.1.1.lt b vg).1,(h.1.1.1.blk b vg).2⟩) (λz uT f W uX h uW=>uW) O O λz=>M<|sM 5 (I (YA.wrap (((2*k:Nat):Int)+2))) (I ((2*(k+1):Nat):Int)) O (by rw[BH _ J];congr 1)<|sR (⟨((k+1,p++ [Md a b]),z),by show 2*(k+1)<=l.length;omega,S J,by simp[x]⟩) O zo zt (λ_ h=>h)
 .refine M<|X (decide (((2*k:Nat):Int)<(l.length:Int))) false Zp<|sN O<|M ?_
  have uU:Ao l=some p:=by
   rw[D,BJ J];show some (p++ [])=some p;rw[BD]
  obtain rfl:o=some p:=B.symm.trans uU;refine ZV (.tuple #[.slice y k yc,I 0]) (λf c h=>⟨(y,yc),by show _=Ending.returned (Value.tuple #[.slice y p.length yc,I 0]);rw[x],c,λA uY Q=>by show Y A 0 5 1 y p.length yc (bv p);rw[x];exact(show Y A w.heap.size 5 1 y k yc (bv p)from h A uY Q).rebase (λ_ _=>AM _)⟩)
end
theorem Fd(b:UInt8)(h:¬Lk b<0):P3 (Lk b).toNat=b:=by
 have a:∀n:Fin 256,¬Lk (AE n.val)<0->P3 (Lk (AE n.val)).toNat=AE n.val:=by decide+kernel
 have:=a ⟨b.toNat,by have:=b.toNat_lt;omega⟩;simp only[BA]at this;exact this h
theorem JG{x y:Nat}(f:x<16)(e:y<16):EN (AE (16*x+y))=[P3 x,P3 y]:=by
 have c:∀a b:Fin 16,EN (AE (16*a.val+b.val))=[P3 a.val,P3 b.val]:=by decide+kernel
 exact c ⟨x,f⟩ ⟨y,e⟩
theorem EL(b:UInt8):Md (P3 (b.toNat/16)) (P3 (b.toNat%16))=b:=by
 have a:∀n:Fin 256,Md (P3 (n.val/16)) (P3 (n.val%16))=AE n.val:=by decide+kernel
 have:=a ⟨b.toNat,by have:=b.toNat_lt;omega⟩;simp only[BA]at this;exact this
theorem KC:∀l:R,Ao (Qf l)=some l
 | []=>rfl
 |b::l=>by
  have e:Qf (b::l)=P3 (b.toNat/16)::P3 (b.toNat%16)::Qf l:=rfl;have a:=Uu (b.toNat/16) (by have:=b.toNat_lt;omega);have c:=Uu (b.toNat%16) J;rw[e,Fk,V (by rw[a,c];omega),KC l,EL]
  rfl
theorem B1:∀{l p:R},Ao l=some p->Qf p=l
 | [],p,h=>by cases h;rfl
 | [_],p,h=>by cases h
 | a::b::l,p,h=>by
  rw[Fk]at h;split at h
  .cases h
  .rename_i e;cases c:Ao l with
   |none=>rw[c]at h;cases h
   |some q=>
    rw[c]at h;cases h;have f:¬Lk a<0:=λk=>e (.inl k)
    have g:¬Lk b<0:=λk=>e (.inr k)
    have j:=(R6 a).2;have m:=(R6 b).2;show EN (Md a b)++Qf q=_;rw[B1 c,Md,JG J J,Fd a f,Fd b g]
    rfl
theorem Y.bytes{w:YN}{A:YY}{B c:Nat}{e:YH}{l:R}(h:Y w B e 1 A l.length c (bv l)):QL w A l.length l:=by
 refine⟨rfl,λk b a=> ?_⟩;have m:=(AB.1 a).1;obtain⟨g,j,f⟩:=h.cells J;have:=f k (.int .u8 (b.toNat:Nat)) (by simp[bv,a]);exact⟨_,j,by rw[Addr.add_mid,AY];exact this⟩
section
variable{w:YN}{A:YY}{n c:Nat}{bs l p:R}
theorem PA(a:Ao l=none)(b:l.length<=100000):YG XW 185 #[E l] w (K6 w (λ_:YZ=> .tuple #[.slice none 0 0,I 3]) λ_ _=>True):=OJ a b
theorem Zj(b:Ao l=some p)(a:l.length<=100000):YG XW 185 #[E l] w (K6 w (λy:YZ=> .tuple #[.slice y.1 p.length y.2,I 0]) λy u=>Y u 0 5 1 y.1 p.length y.2 (bv p)):=OJ b a
theorem NU(a:Ao l=none)(b:l.length<=100000):YG XW 208 #[E l] w (K6 w (λ_:YZ=> .tuple #[.slice none 0 0,I 3]) λ_ _=>True):=OU a b
theorem Oo(b:Ao l=some p)(a:l.length<=100000):YG XW 208 #[E l] w (K6 w (λy:YZ=> .tuple #[.slice y.1 p.length y.2,I 0]) λy u=>Y u 0 5 1 y.1 p.length y.2 (bv p)):=OU b a
end
def pt(a b:Int):YM:= .agg #[I a,I b]
def Fi(t:YH)(x y:YJ)(u v:YM):Sem Next:=(do eqGuard .eql t x y u v;binOp .eql t u v) >>= λv=>pure (.value v)
theorem GY{x y:YJ}{a b c d:Int}{w:YN}:(Fi 36 x y (pt a b) (pt c d)).run XW w= .ok (.value (.bool (a==c&&b==d))) w:=by
 have P:XW.underlying 36=some (.struct (XW.fieldsOf 36)):=O
 have vg:XW.stoodInHeld 36=false:=O
 have G:XW.eqGuardType XW.depth 36=false:=O
 have j:(XW.fieldsOf 36).toList.map (λf=>(f.name,f.offset,f.type))=[("X",0,3),("Y",1,3)]:=O
 have s:XW.underlying 3=some (.int .i64):=O
 have T:Ot XW 3=some 1:=O
 have uW:Tg XW 3=some false:=O
 obtain⟨B,uU,D,u,j⟩:=CI.1 j;obtain⟨C,L,o,p,j⟩:=CI.1 j;obtain rfl:L=[]:=List.map_eq_nil_iff.1 j;subst o;simp only[BR]at u p;obtain⟨uR,Q,S⟩:=u;obtain⟨uZ,uS,A⟩:=p;have k:∀(xs:Array YM) (e:Nat) (v:YM),xs[e]? =some v->(part 3 xs e).run XW w= .ok v w:=by
  intro xs e v F;have l:(isAgg 3).run XW w= .ok false w:=by unfold isAgg;rw[AI,run_underlying s w];rfl
  simp only[part,AI,l,AG,BI,if_false,F,AN]
 have m:∀a b:Int,(Op.equalIn 9999 3 (I a) (I b)).run XW w= .ok (a==b) w:=λa b=>run_equalIn_int w 9998 _ .i64 .i64 a b s
 have N:(part 3 #[I a,I b] 0).run XW w= .ok (I a) w:=k _ 0 _ rfl;have r:(part 3 #[I a,I b] 1).run XW w= .ok (I b) w:=k _ 1 _ rfl;have ve:(part 3 #[I c,I d] 0).run XW w= .ok (I c) w:=k _ 0 _ rfl;have q1:(part 3 #[I c,I d] 1).run XW w= .ok (I d) w:=k _ 1 _ rfl;have g:(Op.eqFields 9999 #[I a,I b] #[I c,I d] [B,C]).run XW w= .ok (a==c&&b==d) w:=by
  have uY:("X" :String)≠ "_" :=Zd
  have K:("Y" :String)≠ "_" :=Zd
  simp only[Op.eqFields,uR,uZ,Q,uS,S,A,AI,N,ve,r,q1,AG,m,uY,K,ne_eq,not_false_eq_true,if_true];cases h:a==c
  .simp[m,h]
  .cases vf:b==d<;>simp[m,h,r,q1,vf]
 have t:(Op.equalIn 10000 36 (pt a b) (pt c d)).run XW w= .ok (a==c&&b==d) w:=by
  rw[pt,pt,run_equalIn_struct w 9999 _ _ _ P vg,D];exact g
 simp only[Fi,pt,AI,run_eqGuard_agg w .eql _ x y _ _ G,AG,run_eql_struct,AN];rw[pt,pt]at t;rw[t]
 rfl
def Mx(uX uV:Int):Bool:=decide ((-1048576<=uX/\uX<=1048576)/\(-1048576<=uV/\uV<=1048576))
section
variable{p q:Rat}{K1 K2:Nat}{w:YN}{uX uV:Int}
theorem WU:Zv 341 #[pt uX uV] w (.bool (Mx uX uV)):=by
 refine sL func341 rfl<|H 3 ?_
 by_cases b:uX>=-1048576
 case neg=>
  exact ZT 5 (.bool (decide (uX>=-1048576))) Zf (by rw[YV J])<|ZX Zf (by unfold Mx;rw[YV J])
 refine sM 5 (.bool (decide (uX>=-1048576))) Zt O (by rw[YU J])<|H 7 ?_
 by_cases c:uX<=1048576
 case neg=>
  exact ZT 9 (.bool (decide (uX<=1048576))) Zf (by rw[YV J])<|ZX Zf (by unfold Mx;rw[YV J])
 refine sM 9 (.bool (decide (uX<=1048576))) Zt O (by rw[YU J])<|H 12 ?_
 by_cases e:uV>=-1048576
 case neg=>
  exact ZT 14 (.bool (decide (uV>=-1048576))) Zf (by rw[YV J])<|ZX Zf (by unfold Mx;rw[YV J])
 refine sM 14 (.bool (decide (uV>=-1048576))) Zt O (by rw[YU J])<|H 17 ?_
 by_cases a:uV<=1048576
 case neg=>
  exact ZT 19 (.bool (decide (uV<=1048576))) Zf (by rw[YV J])<|ZX Zf (by unfold Mx;rw[YV J])
 exact ZT 19 (.bool (decide (uV<=1048576))) Zt (by rw[YU J])<|ZX Zt (by unfold Mx;rw[YU J])
end
def Qh(x:Int):Int:=if x< -1048576 then -1048576 else if 1048576<x then 1048576 else x
section
variable{w:YN}{uX uV uW uU x:Int}
theorem eG:Zv 295 #[I x,I (-1048576),I 1048576] w (I (Qh x)):=by
 by_cases a:x< -1048576
 .exact sL func295 rfl<|M<|X (decide (x< -1048576)) true (by simpa using a)<|ZX (I (-1048576)) (by unfold Qh;rw[YS a])
 .by_cases b:1048576<x
  .exact sL func295 rfl<|M<|X (decide (x< -1048576)) false (by simpa using a)<|X (decide (x>1048576)) true (by simpa using b)<|ZX (I 1048576) (by unfold Qh;rw[V a,YS b])
  .exact sL func295 rfl<|M<|X (decide (x< -1048576)) false (by simpa using a)<|X (decide (x>1048576)) false (by simpa using b)<|ZX (I x) (by unfold Qh;rw[V a,V b])
theorem g6:Zv 250 #[I x] w (I (Qh x)):=sL func250 rfl<|M<|Z (λa b h=>eG (x:=x)) λu=>ZW (I (Qh x))
theorem oY:Zv 190 #[pt uX uV] w (pt (Qh uX) (Qh uV)):=sL func190 rfl<|M<|Z (λb a h=>g6 (x:=uX)) λu=>Z (λb a h=>g6 (x:=uV)) λv=>ZW (pt (Qh uX) (Qh uV))
theorem NT(x:Int):(Qh x==x)=decide (-1048576<=x/\x<=1048576):=by
 unfold Qh;split
 .rw[YV J];simp;omega
 .split
  .rw[YV J];simp;omega
  .rw[YU J];simp
theorem fa(uX uV:Int):(Qh uX==uX&&Qh uV==uV)=Mx uX uV:=by
 rw[NT,NT];unfold Mx;simp
theorem cH:Zv 120 #[pt uX uV] w (.bool (Mx uX uV)):=sL func120 rfl<|M<|ZD 3 (λa b h=>oY (uX:=uX) (uV:=uV)) λu=>ZB 3 (Fi 36 (.tmp 4) (.tmp 5) (pt (Qh uX) (Qh uV)) (pt uX uV)) (.bool (Qh uX==uX&&Qh uV==uV)) (λa b h=>GY)<|ZX (.bool (Qh uX==uX&&Qh uV==uV)) (by rw[fa])
end
section
variable{w:YN}{uX uV uW uU x:Int}{p q:Rat}{K:Nat}
theorem A9{B:Bool}(h:Mx uX uV=B):Zv 341 #[pt uX uV] w (.bool B):=by subst h;exact WU
theorem cX{B:Bool}(h:Mx uX uV=B):Zv 120 #[pt uX uV] w (.bool B):=by subst h;exact cH
end
structure TV where
 a:RV
 b:RV
 c:RV
 d:RV
 e:RV
 f:RV
def TV.cl(t:TV):List YM:=t.a.cl++(t.b.cl++(t.c.cl++(t.d.cl++(t.e.cl++t.f.cl))))
abbrev TV.val(t:TV):YM:= .agg t.cl.toArray
structure Xm where
 a:Rat
 b:Rat
 c:Rat
 d:Rat
 e:Rat
 f:Rat
structure Fv(t:TV)(T:Xm)(K:Nat)(w:YN):Prop where
 a:Ci t.a T.a K w
 b:Ci t.b T.b K w
 c:Ci t.c T.c K w
 d:Ci t.d T.d K w
 e:Ci t.e T.e K w
 f:Ci t.f T.f K w
structure Fu(t:TV)(T:Xm)(K:Nat)(w:YN):Prop where
 a:Oe t.a T.a K w
 b:Oe t.b T.b K w
 c:Oe t.c T.c K w
 d:Oe t.d T.d K w
 e:Oe t.e T.e K w
 f:Oe t.f T.f K w
def Uq(T:Xm):List Nat:=[Bl T.a,Bl T.b,Bl T.c,Bl T.d,Bl T.e,Bl T.f]
def Xm.ok(T:Xm):Bool:=(Uq T).all λn=>decide (n<=256)
def Xm.det(T:Xm):Rat:=T.a*T.d-T.b*T.c
section
variable{t u:TV}{T uW:Xm}{K K':Nat}{w w':YN}
theorem Fv.below(h:Fv t T K w)(g:Below w.heap.size w w'):Fv t T K w':=⟨h.a.below g,h.b.below g,h.c.below g,h.d.below g,h.e.below g,h.f.below g⟩
theorem Fu.below(h:Fu t T K w)(g:Below w.heap.size w w'):Fu t T K w':=⟨h.a.below g,h.b.below g,h.c.below g,h.d.below g,h.e.below g,h.f.below g⟩
end
theorem g5{n:Nat}(h:B_ n<=256):n<pw 8:=by
 rw[V0];unfold B_ at h;split at h
 .rename_i a;rw[a];exact Nat.two_pow_pos _
 .exact Nat.lt_of_lt_of_le Nat.lt_log2_self (Nat.pow_le_pow_right Zd J)
theorem uu{T:Xm}(h:T.ok=true):Bl T.a<=256/\Bl T.b<=256/\Bl T.c<=256/\Bl T.d<=256/\Bl T.e<=256/\Bl T.f<=256:=by
 unfold Xm.ok Uq at h;simpa using h
theorem VE{K:Nat}{w:YN}:Ci Yh ((0:Int):Rat) K w:=⟨0,0,⟨tZ,rfl,AM _⟩,⟨tZ,rfl,AM _⟩,by rw[Cb];rfl⟩
section
variable{t u:TV}{T uW:Xm}{K:Nat}{w:YN}{r s r2 s2:RV}{p q p2 q2:Rat}
theorem Wq(l:Fv t T K w)(x:2<=K/\K<=10000000):
 YG XW 186 #[t.val] w (K6 w TV.val λv w=>Fu v T K w):=by
 refine sL func186 rfl<|M<|tx O<|M<|ti 5 O λ_=>ZI true<|Z (λo j h=>Mu (l.a.below j) J) λa=>ti 5 O λ_=>ZI true<|Z (λo j h=>Mu (l.b.below j) J) λb=>ti 5 O λ_=>ZI true<|Z (λo j h=>Mu (l.c.below j) J) λc=>ti 5 O λ_=>ZI true<|Z (λo j h=>Mu (l.d.below j) J) λd=>ti 5 O λ_=>ZI true<|Z (λo j h=>Mu (l.e.below j) J) λe=>ti 5 O λ_=>ZI true<|Z (λo j h=>Mu (l.f.below j) J) λf=>ZI false<|ZV (TV.val ⟨a,b,c,d,e,f⟩) (λo j h=>⟨⟨a,b,c,d,e,f⟩,rfl,j,λg m k=>⟨(h g m k).1.1.1.1.1.2,(h g m k).1.1.1.1.2,(h g m k).1.1.1.2,(h g m k).1.1.2,(h g m k).1.2,(h g m k).2⟩⟩)
theorem Hi(f:Fv t T K w)(o:2<=K/\K<=10000000):
 YG XW 125 #[t.val] w (K6 w RV.val λv w=>Oe v T.det (4*K+1) w):=by
 refine sL func125 rfl<|M<|Z (λj e h=>ii (f.a.below e) (f.d.below e) J) λm=>Z (λj e h=>ii (f.b.below e) (f.c.below e) J) λn=>Z (λj e h=>o8 h.1.2.q h.2.q J) λv=>ZV (RV.val v) (λj e h=>⟨v,rfl,e,λg l k=>(h g l k).2.mono J⟩)
theorem iU(o:Fv t T K w)(C:2<=K/\K<=10000000):
 Zv 116 #[t.val] w (.bool T.ok):=by
 have bad:∀n∈Uq T,((n:Int)>256)->T.ok=false:=λn B h=>by
  unfold Xm.ok;rw[List.all_eq_false];exact⟨n,B,by simp;omega⟩
 refine sL func116 rfl<|M<|Z (λk j h=>Wq (o.below j) C) λn=>tx O<|M<|ti 4 O λ_=>ZI true<|Z (λk j h=>Xe h.2.a.q J) λu=>tu (decide (((Bl T.a:Nat):Int)>256)) O (λg=> ?_) (λg=> ?_)
 .exact th O (stop:=1000) 6000 _<|ZX (.bool false) (by rw[bad (Bl T.a) (by simp[Uq]) (YP g)])
 have x:=YO g;clear g;refine M<|ti 4 O λ_=>ZI true<|Z (λk j h=>Xe h.1.2.b.q J) λu=>tu (decide (((Bl T.b:Nat):Int)>256)) O (λg=> ?_) (λg=> ?_)
 .exact th O (stop:=1000) 6000 _<|ZX (.bool false) (by rw[bad (Bl T.b) (by simp[Uq]) (YP g)])
 have v:=YO g;clear g;refine M<|ti 4 O λ_=>ZI true<|Z (λk j h=>Xe h.1.1.2.c.q J) λu=>tu (decide (((Bl T.c:Nat):Int)>256)) O (λg=> ?_) (λg=> ?_)
 .exact th O (stop:=1000) 6000 _<|ZX (.bool false) (by rw[bad (Bl T.c) (by simp[Uq]) (YP g)])
 have y:=YO g;clear g;refine M<|ti 4 O λ_=>ZI true<|Z (λk j h=>Xe h.1.1.1.2.d.q J) λu=>tu (decide (((Bl T.d:Nat):Int)>256)) O (λg=> ?_) (λg=> ?_)
 .exact th O (stop:=1000) 6000 _<|ZX (.bool false) (by rw[bad (Bl T.d) (by simp[Uq]) (YP g)])
 have D:=YO g;clear g;refine M<|ti 4 O λ_=>ZI true<|Z (λk j h=>Xe h.1.1.1.1.2.e.q J) λu=>tu (decide (((Bl T.e:Nat):Int)>256)) O (λg=> ?_) (λg=> ?_)
 .exact th O (stop:=1000) 6000 _<|ZX (.bool false) (by rw[bad (Bl T.e) (by simp[Uq]) (YP g)])
 have m:=YO g;clear g;refine M<|ti 4 O λ_=>ZI true<|Z (λk j h=>Xe h.1.1.1.1.1.2.f.q J) λu=>tu (decide (((Bl T.f:Nat):Int)>256)) O (λg=> ?_) (λg=> ?_)
 .exact th O (stop:=1000) 6000 _<|ZX (.bool false) (by rw[bad (Bl T.f) (by simp[Uq]) (YP g)])
 have A:=YO g;clear g;refine M<|ZI false ?_
 have l:T.ok=true:=by unfold Xm.ok Uq;simp only[List.all_cons,List.all_nil,Bool.and_true,BS,decide_eq_true_eq];exact⟨by omega,by omega,by omega,by omega,by omega,by omega⟩
 exact ZX Zt (by rw[l])
theorem IM{B:Bool}(b:T.ok=B)(a:Fv t T K w)(c:2<=K/\K<=10000000):Zv 116 #[t.val] w (.bool B):=by subst b;exact iU a c
end
section
variable{w:YN}{t u:TV}{T uW:Xm}{K K1 K2:Nat}{r s:RV}{p q:Rat}{uX uV:Int}
def X4(r s:RV)(B:Bool)(w:YN):Prop:=∀v,Below w.heap.size w v->Zv 93 #[r.val,s.val] v (.bool B)
theorem Ev(c:Oe r p K1 w)(b:Oe s q K2 w):X4 r s (decide (p=q)) w:=λv a=>gY (c.below a) (b.below a) rfl
theorem X4.below{B:Bool}{b:YN}(h:X4 r s B w)(a:Below w.heap.size w b):X4 r s B b:=λv c=>h v (a.trans (c.mono a.size))
theorem av:YG XW 44 #[t.val] w (K6 w (Kd 6) λg v=>K7 v g t.cl):=by
 refine sL func44 rfl<|H 12<|sO (Kw 99 6 #[(0,t.a.val),(1,t.b.val),(2,t.c.val),(3,t.d.val),(4,t.e.val),(5,t.f.val)]) (Kd 6) (Kr 45 t.cl.toArray) O (λo k h=>Kb O) λg=>M<|ZV (Kd 6 g) (λo k h=>⟨g,rfl,k,λj m l=>⟨_,(h j m l).2⟩⟩)
theorem jq{g:Nat}(h:K7 w g t.cl):w.rangeAt g (0*4) t.a.cl:=h.fst
theorem jd{g:Nat}(h:K7 w g t.cl):w.rangeAt g (1*4) t.b.cl:=by have:=(K7.mid (a:=t.a.cl) h);intro j v c;exact this j v (by rw[AX (AB.1 c).1];exact c)
theorem i_{g:Nat}(h:K7 w g t.cl):w.rangeAt g (2*4) t.c.cl:=by have:=(K7.mid (a:=t.a.cl++t.b.cl) (b:=t.c.cl++(t.d.cl++(t.e.cl++t.f.cl))) (by rw[AK];exact h));intro j v k;exact this j v (by rw[AX (AB.1 k).1];exact k)
theorem kb{g:Nat}(h:K7 w g t.cl):w.rangeAt g (3*4) t.d.cl:=by have:=(K7.mid (a:=t.a.cl++t.b.cl++t.c.cl) (b:=t.d.cl++(t.e.cl++t.f.cl)) (by rw[AK,AK];exact h));intro j v k;exact this j v (by rw[AX (AB.1 k).1];exact k)
theorem iJ{g:Nat}(h:K7 w g t.cl):w.rangeAt g (4*4) t.e.cl:=by have:=(K7.mid (a:=t.a.cl++t.b.cl++t.c.cl++t.d.cl) (b:=t.e.cl++t.f.cl) (by rw[AK,AK,AK];exact h));intro j v k;exact this j v (by rw[AX (AB.1 k).1];exact k)
theorem iZ{g:Nat}(h:K7 w g t.cl):w.rangeAt g (5*4) t.f.cl:=K7.mid (a:=t.a.cl++t.b.cl++t.c.cl++t.d.cl++t.e.cl) (by rw[AK,AK,AK,AK];exact h)
theorem K7.below{g:Nat}{cs:List YM}{a:YN}(h:K7 w g cs)(b:Below w.heap.size w a):K7 a g cs:=by
 obtain⟨ty,h⟩:=h;exact⟨ty,(b.block g (AP.1 h).1).trans h⟩
theorem Y_{g l:Nat}{Ba Bb Bc Bd Be Bf:Bool}(o:K7 w g t.cl)(m:K7 w l u.cl)(B:X4 t.a u.a Ba w)(C:X4 t.b u.b Bb w)(x:X4 t.c u.c Bc w)(A:X4 t.d u.d Bd w)(y:X4 t.e u.e Be w)(v:X4 t.f u.f Bf w):
 Zv 43 #[Kd 6 g,Kd 6 l] w (.bool (Ba&&(Bb&&(Bc&&(Bd&&(Be&&Bf)))))):=by
 refine sL func43 rfl<|M<|ZI false<|tx O<|M<|ZI true<|ZB 2 (Ki 99 (Kd 6 g) 0) (Zq g (0*4)) (λk j h=>Me (elem:=45) O O Zd)<|ZB 3 (L4 45 ⟨g,0*4,none⟩) (t.a.val) (λk j h=>Nh (vs:=t.a.cl) O O (jq (o.below j)))<|ZB 6 (Ki 99 (Kd 6 l) 0) (Zq l (0*4)) (λk j h=>Me (elem:=45) O O Zd)<|ZB 7 (L4 45 ⟨l,0*4,none⟩) (u.a.val) (λk j h=>Nh (vs:=u.a.cl) O O (jq (m.below j))) ?_
 cases Ba
 .exact Z (λk j h=>B k j) λz=>th O (stop:=1000) 6000 _<|ZX Zf Zs
 refine Z (λk j h=>B k j) λz=>ZI false<|ZI true<|ZB 2 (Ki 99 (Kd 6 g) 1) (Zq g (1*4)) (λk j h=>Me (elem:=45) O O Zd)<|ZB 3 (L4 45 ⟨g,1*4,none⟩) (t.b.val) (λk j h=>Nh (vs:=t.b.cl) O O (jd (o.below j)))<|ZB 6 (Ki 99 (Kd 6 l) 1) (Zq l (1*4)) (λk j h=>Me (elem:=45) O O Zd)<|ZB 7 (L4 45 ⟨l,1*4,none⟩) (u.b.val) (λk j h=>Nh (vs:=u.b.cl) O O (jd (m.below j))) ?_
 cases Bb
 .exact Z (λk j h=>C k j) λz=>th O (stop:=1000) 6000 _<|ZX Zf Zs
 refine Z (λk j h=>C k j) λz=>ZI false<|ZI true<|ZB 2 (Ki 99 (Kd 6 g) 2) (Zq g (2*4)) (λk j h=>Me (elem:=45) O O Zd)<|ZB 3 (L4 45 ⟨g,2*4,none⟩) (t.c.val) (λk j h=>Nh (vs:=t.c.cl) O O (i_ (o.below j)))<|ZB 6 (Ki 99 (Kd 6 l) 2) (Zq l (2*4)) (λk j h=>Me (elem:=45) O O Zd)<|ZB 7 (L4 45 ⟨l,2*4,none⟩) (u.c.val) (λk j h=>Nh (vs:=u.c.cl) O O (i_ (m.below j))) ?_
 cases Bc
 .exact Z (λk j h=>x k j) λz=>th O (stop:=1000) 6000 _<|ZX Zf Zs
 refine Z (λk j h=>x k j) λz=>ZI false<|ZI true<|ZB 2 (Ki 99 (Kd 6 g) 3) (Zq g (3*4)) (λk j h=>Me (elem:=45) O O Zd)<|ZB 3 (L4 45 ⟨g,3*4,none⟩) (t.d.val) (λk j h=>Nh (vs:=t.d.cl) O O (kb (o.below j)))<|ZB 6 (Ki 99 (Kd 6 l) 3) (Zq l (3*4)) (λk j h=>Me (elem:=45) O O Zd)<|ZB 7 (L4 45 ⟨l,3*4,none⟩) (u.d.val) (λk j h=>Nh (vs:=u.d.cl) O O (kb (m.below j))) ?_
 cases Bd
 .exact Z (λk j h=>A k j) λz=>th O (stop:=1000) 6000 _<|ZX Zf Zs
 refine Z (λk j h=>A k j) λz=>ZI false<|ZI true<|ZB 2 (Ki 99 (Kd 6 g) 4) (Zq g (4*4)) (λk j h=>Me (elem:=45) O O Zd)<|ZB 3 (L4 45 ⟨g,4*4,none⟩) (t.e.val) (λk j h=>Nh (vs:=t.e.cl) O O (iJ (o.below j)))<|ZB 6 (Ki 99 (Kd 6 l) 4) (Zq l (4*4)) (λk j h=>Me (elem:=45) O O Zd)<|ZB 7 (L4 45 ⟨l,4*4,none⟩) (u.e.val) (λk j h=>Nh (vs:=u.e.cl) O O (iJ (m.below j))) ?_
 cases Be
 .exact Z (λk j h=>y k j) λz=>th O (stop:=1000) 6000 _<|ZX Zf Zs
 refine Z (λk j h=>y k j) λz=>ZI false<|ZI true<|ZB 2 (Ki 99 (Kd 6 g) 5) (Zq g (5*4)) (λk j h=>Me (elem:=45) O O Zd)<|ZB 3 (L4 45 ⟨g,5*4,none⟩) (t.f.val) (λk j h=>Nh (vs:=t.f.cl) O O (iZ (o.below j)))<|ZB 6 (Ki 99 (Kd 6 l) 5) (Zq l (5*4)) (λk j h=>Me (elem:=45) O O Zd)<|ZB 7 (L4 45 ⟨l,5*4,none⟩) (u.f.val) (λk j h=>Nh (vs:=u.f.cl) O O (iZ (m.below j))) ?_
 cases Bf
 .exact Z (λk j h=>v k j) λz=>th O (stop:=1000) 6000 _<|ZX Zf Zs
 exact Z (λk j h=>v k j) λz=>ZI false<|ZI false<|ZX Zt Zs
theorem kO{Ba Bb Bc Bd Be Bf:Bool}(m:X4 t.a u.a Ba w)(o:X4 t.b u.b Bb w)(l:X4 t.c u.c Bc w)(x:X4 t.d u.d Bd w)(y:X4 t.e u.e Be w)(A:X4 t.f u.f Bf w):
 Zv 17 #[t.val,u.val] w (.bool (Ba&&(Bb&&(Bc&&(Bd&&(Be&&Bf)))))):=by
 exact sL func17 rfl<|M<|Z (λk j h=>av (t:=t)) λg=>Z (λk j h=>av (t:=u)) λB=>Z (λk j h=>Y_ h.1.2 h.2 (m.below j) (o.below j) (l.below j) (x.below j) (y.below j) (A.below j)) λv=>ZW (.bool (Ba&&(Bb&&(Bc&&(Bd&&(Be&&Bf))))))
def SB(T uW:Xm):Bool:=decide (T.a=uW.a)&&(decide (T.b=uW.b)&&(decide (T.c=uW.c)&&(decide (T.d=uW.d)&&(decide (T.e=uW.e)&&decide (T.f=uW.f)))))
theorem GV:SB T T=true:=by simp[SB]
theorem PS{B:Bool}(j:SB T uW=B)(g:Fu t T K1 w)(h:Fu u uW K2 w):Zv 17 #[t.val,u.val] w (.bool B):=by
 subst j;exact kO (Ev g.a h.a) (Ev g.b h.b) (Ev g.c h.c) (Ev g.d h.d) (Ev g.e h.e) (Ev g.f h.f)
def bd(z:Int):Prop:= -9223372036854775808<=z/\z<=9223372036854775807
end
section
variable{w:YN}{t u:TV}{T uW:Xm}{K K1 K2:Nat}{r s r2 s2:RV}{p q p2 q2:Rat}{uX uV:Int}
theorem eY(m:Fv t T K w)(vg:2<=K/\K<=10000000):
 Zv 273 #[t.val] w (.bool T.ok):=by
 have bad:∀n∈Uq T,((n:Int)>256)->T.ok=false:=λn C h=>by
  unfold Xm.ok;rw[List.all_eq_false];exact⟨n,C,by simp;omega⟩
 refine sL func273 rfl<|M<|Z (λl k h=>av (t:=t)) λg=>tx O<|M<|ZI true<|ZA (Ki 99 (Kd 6 g) 0) (Zq g (0*4)) (λl k h=>Me (elem:=45) O O Zd)<|ZA (L4 45 ⟨g,0*4,none⟩) (t.a.val) (λl k h=>Nh (vs:=t.a.cl) O O (jq h.2))<|Z (λl k h=>Uy (m.a.below k) J) λu=>tu (decide (((Bl T.a:Nat):Int)>256)) O (λj=> ?_) (λj=> ?_)
 .exact th O (stop:=1000) 6000 _<|ZX (.bool false) (by rw[bad (Bl T.a) (by simp[Uq]) (YP j)])
 have y:=YO j;clear j;refine M<|ZI true<|ZA (Ki 99 (Kd 6 g) 1) (Zq g (1*4)) (λl k h=>Me (elem:=45) O O Zd)<|ZA (L4 45 ⟨g,1*4,none⟩) (t.b.val) (λl k h=>Nh (vs:=t.b.cl) O O (jd h.1.2))<|Z (λl k h=>Uy (m.b.below k) J) λu=>tu (decide (((Bl T.b:Nat):Int)>256)) O (λj=> ?_) (λj=> ?_)
 .exact th O (stop:=1000) 6000 _<|ZX (.bool false) (by rw[bad (Bl T.b) (by simp[Uq]) (YP j)])
 have x:=YO j;clear j;refine M<|ZI true<|ZA (Ki 99 (Kd 6 g) 2) (Zq g (2*4)) (λl k h=>Me (elem:=45) O O Zd)<|ZA (L4 45 ⟨g,2*4,none⟩) (t.c.val) (λl k h=>Nh (vs:=t.c.cl) O O (i_ h.1.1.2))<|Z (λl k h=>Uy (m.c.below k) J) λu=>tu (decide (((Bl T.c:Nat):Int)>256)) O (λj=> ?_) (λj=> ?_)
 .exact th O (stop:=1000) 6000 _<|ZX (.bool false) (by rw[bad (Bl T.c) (by simp[Uq]) (YP j)])
 have A:=YO j;clear j;refine M<|ZI true<|ZA (Ki 99 (Kd 6 g) 3) (Zq g (3*4)) (λl k h=>Me (elem:=45) O O Zd)<|ZA (L4 45 ⟨g,3*4,none⟩) (t.d.val) (λl k h=>Nh (vs:=t.d.cl) O O (kb h.1.1.1.2))<|Z (λl k h=>Uy (m.d.below k) J) λu=>tu (decide (((Bl T.d:Nat):Int)>256)) O (λj=> ?_) (λj=> ?_)
 .exact th O (stop:=1000) 6000 _<|ZX (.bool false) (by rw[bad (Bl T.d) (by simp[Uq]) (YP j)])
 have D:=YO j;clear j;refine M<|ZI true<|ZA (Ki 99 (Kd 6 g) 4) (Zq g (4*4)) (λl k h=>Me (elem:=45) O O Zd)<|ZA (L4 45 ⟨g,4*4,none⟩) (t.e.val) (λl k h=>Nh (vs:=t.e.cl) O O (iJ h.1.1.1.1.2))<|Z (λl k h=>Uy (m.e.below k) J) λu=>tu (decide (((Bl T.e:Nat):Int)>256)) O (λj=> ?_) (λj=> ?_)
 .exact th O (stop:=1000) 6000 _<|ZX (.bool false) (by rw[bad (Bl T.e) (by simp[Uq]) (YP j)])
 have v:=YO j;clear j;refine M<|ZI true<|ZA (Ki 99 (Kd 6 g) 5) (Zq g (5*4)) (λl k h=>Me (elem:=45) O O Zd)<|ZA (L4 45 ⟨g,5*4,none⟩) (t.f.val) (λl k h=>Nh (vs:=t.f.cl) O O (iZ h.1.1.1.1.1.2))<|Z (λl k h=>Uy (m.f.below k) J) λu=>tu (decide (((Bl T.f:Nat):Int)>256)) O (λj=> ?_) (λj=> ?_)
 .exact th O (stop:=1000) 6000 _<|ZX (.bool false) (by rw[bad (Bl T.f) (by simp[Uq]) (YP j)])
 have B:=YO j;clear j;refine M<|ZI false ?_
 have o:T.ok=true:=by unfold Xm.ok Uq;simp only[List.all_cons,List.all_nil,Bool.and_true,BS,decide_eq_true_eq];exact⟨by omega,by omega,by omega,by omega,by omega,by omega⟩
 exact ZX Zt (by rw[o])
theorem W7{B:Bool}(b:T.ok=B)(a:Fv t T K w)(c:2<=K/\K<=10000000):Zv 273 #[t.val] w (.bool B):=by subst b;exact eY a c
end
theorem Se{p q:Rat}{B:Bool}(h:decide (p=q)=B):(Ub p q !=0)= !B:=by
 rw[<-h];unfold Ub
 by_cases a:p<q
 .rw[YS a,YV (λk=>by rw[k]at a;exact absurd a (Rat.lt_irrefl))];rfl
 .rw[V a]
  by_cases b:p=q
  .rw[YS b,YU b];rfl
  .rw[V b,YV b];rfl
section
variable{w wa:YN}{t u:TV}{T uW:Xm}{K K1 K2:Nat}{r s:RV}{p q:Rat}{uX uV:Int}{L:List Nat}{ty:YH}
theorem XJ(C:Fv t T K w)(D:Fv u uW K w)(B:2<=K/\K<=10000000):Zv 119 #[t.val,u.val] w (.bool (SB T uW)):=by
 refine sL func119 rfl<|M<|Z (λA o h=>Wq (C.below o) B) λn=>Z (λA o h=>Wq (D.below o) B) λm=>tx O<|M<|ti 8 O λ_=>ZI true<|Z (λA o h=>Ds h.1.2.a.q h.2.a.q J) λv=> ?_
 cases j:decide (T.a=uW.a)
 .exact X (Ub T.a uW.a !=0) true (by rw[Se j];rfl)<|ZX Zf (by unfold SB;rw[j];simp)
 refine X (Ub T.a uW.a !=0) false (by rw[Se j];rfl)<|ti 8 O λ_=>ZI true<|Z (λA o h=>Ds h.1.1.2.b.q h.1.2.b.q J) λv=> ?_
 cases y:decide (T.b=uW.b)
 .exact X (Ub T.b uW.b !=0) true (by rw[Se y];rfl)<|ZX Zf (by unfold SB;rw[y];simp)
 refine X (Ub T.b uW.b !=0) false (by rw[Se y];rfl)<|ti 8 O λ_=>ZI true<|Z (λA o h=>Ds h.1.1.1.2.c.q h.1.1.2.c.q J) λv=> ?_
 cases k:decide (T.c=uW.c)
 .exact X (Ub T.c uW.c !=0) true (by rw[Se k];rfl)<|ZX Zf (by unfold SB;rw[k];simp)
 refine X (Ub T.c uW.c !=0) false (by rw[Se k];rfl)<|ti 8 O λ_=>ZI true<|Z (λA o h=>Ds h.1.1.1.1.2.d.q h.1.1.1.2.d.q J) λv=> ?_
 cases g:decide (T.d=uW.d)
 .exact X (Ub T.d uW.d !=0) true (by rw[Se g];rfl)<|ZX Zf (by unfold SB;rw[g];simp)
 refine X (Ub T.d uW.d !=0) false (by rw[Se g];rfl)<|ti 8 O λ_=>ZI true<|Z (λA o h=>Ds h.1.1.1.1.1.2.e.q h.1.1.1.1.2.e.q J) λv=> ?_
 cases x:decide (T.e=uW.e)
 .exact X (Ub T.e uW.e !=0) true (by rw[Se x];rfl)<|ZX Zf (by unfold SB;rw[x];simp)
 refine X (Ub T.e uW.e !=0) false (by rw[Se x];rfl)<|ti 8 O λ_=>ZI true<|Z (λA o h=>Ds h.1.1.1.1.1.1.2.f.q h.1.1.1.1.1.2.f.q J) λv=> ?_
 cases l:decide (T.f=uW.f)
 .exact X (Ub T.f uW.f !=0) true (by rw[Se l];rfl)<|ZX Zf (by unfold SB;rw[l];simp)
 exact X (Ub T.f uW.f !=0) false (by rw[Se l];rfl)<|ZI false<|ZX Zt (by unfold SB;rw[j,y,k,g,x,l];rfl)
theorem KZ(l:Fv t T K w)(x:2<=K/\K<=10000000):YG XW 155 #[t.val] w (K6 w TV.val λv w=>Fu v T K w):=by
 refine sL func155 rfl<|M<|Z (λo j h=>M9 (l.a.below j) J) λa=>Z (λo j h=>M9 (l.b.below j) J) λb=>Z (λo j h=>M9 (l.c.below j) J) λc=>Z (λo j h=>M9 (l.d.below j) J) λd=>Z (λo j h=>M9 (l.e.below j) J) λe=>Z (λo j h=>M9 (l.f.below j) J) λf=>ZV (TV.val ⟨a,b,c,d,e,f⟩) (λo j h=>⟨⟨a,b,c,d,e,f⟩,rfl,j,λg m k=>⟨(h g m k).1.1.1.1.1.2,(h g m k).1.1.1.1.2,(h g m k).1.1.1.2,(h g m k).1.1.2,(h g m k).1.2,(h g m k).2⟩⟩)
theorem en(e:Fv t T K w)(f:Fv u uW K w)(c:2<=K/\K<=10000000):Zv 88 #[t.val,u.val] w (.bool (SB T uW)):=sL func88 rfl<|M<|Z (λb a h=>KZ (e.below a) c) λn=>Z (λb a h=>KZ (f.below a) c) λm=>Z (λb a h=>PS rfl h.1.2 h.2) λv=>ZW (.bool (SB T uW))
theorem b9(f:Fv t T K w)(o:2<=K/\K<=10000000):YG XW 275 #[t.val] w (K6 w RV.val λv w=>Oe v T.det (4*K+1) w):=by
 refine sL func275 rfl<|M<|Z (λj e h=>ck (f.a.below e) (f.d.below e) J) λm=>Z (λj e h=>ck (f.b.below e) (f.c.below e) J) λn=>Z (λj e h=>ma h.1.2.q h.2.q J) λv=>ZV (RV.val v) (λj e h=>⟨v,rfl,e,λg l k=>(h g l k).2.mono J⟩)
end
section
variable{w:YN}{t u:TV}{T uW:Xm}{K K1 K2:Nat}{r s:RV}{uX uV:Int}
theorem Wc{B:Bool}(a:SB T uW=B)(c:Fv t T K w)(b:Fv u uW K w)(e:2<=K/\K<=10000000):Zv 88 #[t.val,u.val] w (.bool B):=by subst a;exact en c b e
end
section
open Go.Shelf
def Tryz.layB_ren:Go.Shelf.Ren:=⟨λ|240=>108|167=>96|166=>57|276=>182|n=>n,λ|0=>0|3=>3|4=>4|5=>5|9=>9|20=>20|37=>108|70=>114|72=>116|75=>118|80=>121|164=>235|n=>n,λ|n=>n⟩
theorem Tryz.layB167:Go.Proofs.Lays.n167 Tryz.prog Tryz.layB_ren:={
 mixed:=O
 f167:=Tryz.func96.trans (congrArg some O)
 f240:=Tryz.func108.trans (congrArg some O)
 f276:=Tryz.func182.trans (congrArg some O)
 t0:=Tryz.underlying0
 a0:=Tryz.isAgg0
 z0:=Tryz.sizeOf0
 v0:=Tryz.zeroValue0
 t4:=Tryz.underlying4
 a4:=Tryz.isAgg4
 z4:=Tryz.sizeOf4
 v4:=Tryz.zeroValue4
 t5:=Tryz.underlying5
 a5:=Tryz.isAgg5
 z5:=Tryz.sizeOf5
 v5:=Tryz.zeroValue5
 t9:=Tryz.underlying9
 a9:=Tryz.isAgg9
 z9:=Tryz.sizeOf9
 v9:=Tryz.zeroValue9
 t20:=Tryz.underlying20
 a20:=Tryz.isAgg20
 z20:=Tryz.sizeOf20
 v20:=Tryz.zeroValue20
 t37:=Tryz.underlying108
 a37:=Tryz.isAgg108
 z37:=Tryz.sizeOf108
 v37:=Tryz.zeroValue108
 t70:=Tryz.underlying114
 a70:=Tryz.isAgg114
 z70:=Tryz.sizeOf114
 v70:=Tryz.zeroValue114
 t72:=Tryz.underlying116
 a72:=Tryz.isAgg116
 z72:=Tryz.sizeOf116
 v72:=Tryz.zeroValue116
 t75:=Tryz.underlying118
 a75:=Tryz.isAgg118
 z75:=Tryz.sizeOf118
 v75:=Tryz.zeroValue118
 t164:=Tryz.underlying235
 a164:=Tryz.isAgg235
 z164:=Tryz.sizeOf235
 v164:=Tryz.zeroValue235}
theorem Tryz.layB166:Go.Proofs.Lays.n166 Tryz.prog Tryz.layB_ren:={
 mixed:=O
 f166:=Tryz.func57.trans (congrArg some O)
 f240:=Tryz.func108.trans (congrArg some O)
 f276:=Tryz.func182.trans (congrArg some O)
 t0:=Tryz.underlying0
 a0:=Tryz.isAgg0
 z0:=Tryz.sizeOf0
 v0:=Tryz.zeroValue0
 t3:=Tryz.underlying3
 a3:=Tryz.isAgg3
 z3:=Tryz.sizeOf3
 v3:=Tryz.zeroValue3
 t4:=Tryz.underlying4
 a4:=Tryz.isAgg4
 z4:=Tryz.sizeOf4
 v4:=Tryz.zeroValue4
 t9:=Tryz.underlying9
 a9:=Tryz.isAgg9
 z9:=Tryz.sizeOf9
 v9:=Tryz.zeroValue9
 t20:=Tryz.underlying20
 a20:=Tryz.isAgg20
 z20:=Tryz.sizeOf20
 v20:=Tryz.zeroValue20
 t37:=Tryz.underlying108
 a37:=Tryz.isAgg108
 z37:=Tryz.sizeOf108
 v37:=Tryz.zeroValue108
 t70:=Tryz.underlying114
 a70:=Tryz.isAgg114
 z70:=Tryz.sizeOf114
 v70:=Tryz.zeroValue114
 t72:=Tryz.underlying116
 a72:=Tryz.isAgg116
 z72:=Tryz.sizeOf116
 v72:=Tryz.zeroValue116
 t75:=Tryz.underlying118
 a75:=Tryz.isAgg118
 z75:=Tryz.sizeOf118
 v75:=Tryz.zeroValue118
 t164:=Tryz.underlying235
 a164:=Tryz.isAgg235
 z164:=Tryz.sizeOf235
 v164:=Tryz.zeroValue235}
theorem Tryz.layBX:Builder.Extra Tryz.prog Tryz.layB_ren:={
 sizeBuilder:=O
 liesBuilder:=O
 t5:=Tryz.underlying5
 a5:=Tryz.isAgg5
 z5:=Tryz.sizeOf5
 v5:=Tryz.zeroValue5
 infoByte:=O
 cellsByte:=O
 sizeByte:=O
 neB5:=by decide}
end
def Mp(c:UInt8):Bool:=(decide (97<=c.toNat)&&decide (c.toNat<=122))||(decide (65<=c.toNat)&&decide (c.toNat<=90))||(decide (48<=c.toNat)&&decide (c.toNat<=57))|| [46,95,58,47,43,45,44,61,35].contains c.toNat
def q1(c:UInt8):R:=if Mp c then [c]else 42::EN c
def Pj(l:R):R:=if l=[]then [42]else l.flatMap q1
def Bo:R->Option R
 | []=>some []
 |c::l=>if Mp c then(Bo l).map (c::·)else if c=42 then(match l with
  |a::b::r=>if Lk a<0\/Lk b<0\/Mp (Md a b)=true then none else(Bo r).map (Md a b::·)
  |_=>none)else none
termination_by l=>l.length
def C_:R->Option R
 | []=>some []
 |c::l=>if c=42 then(match l with
  |a::b::r=>if Lk a<0\/Lk b<0 then none else(C_ r).map (Md a b::·)
  |_=>none)else(C_ l).map (c::·)
termination_by l=>l.length
def Tx(w:R):Option R:=if w=[42]then some []else match Bo w with
 |some b=>if b=[]then none else some b
 |none=>none
theorem Dt{c:UInt8}(h:Mp c=true):q1 c=[c]:=YS h
theorem IP{c:UInt8}(h:Mp c=false):q1 c=42::EN c:=V (by rw[h];decide)
theorem Gz:Mp 42=false:=by decide+kernel
theorem E6(b:UInt8):b.toNat/16<16/\b.toNat%16<16:=by have:=b.toNat_lt;omega
theorem Gm{c:UInt8}{l:R}(h:Mp c=true):Bo (c::l)=(Bo l).map (c::·):=by rw[Bo.eq_def];exact YS h
theorem W1{a b:UInt8}{r:R}:Bo (42::a::b::r)=if Lk a<0\/Lk b<0\/Mp (Md a b)=true then none else(Bo r).map (Md a b::·):=by
 rw[Bo.eq_def];show(if Mp 42=true then _ else if (42:UInt8)=42 then _ else _)=_;rw[V (by rw[Gz];decide),YS rfl]
theorem Bq{l:R}(h:l.length<2):Bo (42::l)=none:=by
 rw[Bo.eq_def];show(if Mp 42=true then _ else if (42:UInt8)=42 then _ else _)=_;rw[V (by rw[Gz];decide),YS rfl]
 match l,h with
 | [],_=>rfl
 | [_],_=>rfl
 |_::_::_,h=>simp at h;omega
theorem UM{c:UInt8}{l:R}(h:Mp c=false)(a:c≠42):Bo (c::l)=none:=by
 rw[Bo.eq_def];show(if Mp c=true then _ else if c=42 then _ else _)=_;rw[V (by rw[h];decide),V a]
theorem KF{c:UInt8}{l:R}(h:c≠42):C_ (c::l)=(C_ l).map (c::·):=by rw[C_.eq_def];exact V h
theorem OO{a b:UInt8}{r:R}:C_ (42::a::b::r)=if Lk a<0\/Lk b<0 then none else(C_ r).map (Md a b::·):=by
 rw[C_.eq_def];show(if (42:UInt8)=42 then _ else _)=_;rw[YS rfl]
theorem ak{l:R}(h:l.length<2):C_ (42::l)=none:=by
 rw[C_.eq_def];show(if (42:UInt8)=42 then _ else _)=_;rw[YS rfl]
 match l,h with
 | [],_=>rfl
 | [_],_=>rfl
 |_::_::_,h=>simp at h;omega
theorem I9:∀l:R,Bo (l.flatMap q1)=some l
 | []=>by rw[CP,Bo]
 | c::l=>by
  rw[BF];cases a:Mp c
  .rw[IP a];show Bo (42::P3 (c.toNat/16)::P3 (c.toNat%16)::l.flatMap q1)=_;rw[W1,EL,Uu _ (E6 c).1,Uu _ (E6 c).2,a,V Zp,I9 l]
   rfl
  .rw[Dt a];show Bo (c::l.flatMap q1)=_;rw[Gm a,I9 l]
   rfl
theorem LK:∀l:R,C_ (l.flatMap q1)=some l
 | []=>by rw[CP,C_]
 | c::l=>by
  rw[BF];cases a:Mp c
  .rw[IP a];show C_ (42::P3 (c.toNat/16)::P3 (c.toNat%16)::l.flatMap q1)=_;rw[OO,EL,Uu _ (E6 c).1,Uu _ (E6 c).2,V J,LK l]
   rfl
  .rw[Dt a];show C_ (c::l.flatMap q1)=_;rw[KF (by rintro rfl;rw[Gz]at a;cases a),LK l]
   rfl
theorem bN{a b:UInt8}(c:¬Lk a<0)(e:¬Lk b<0):EN (Md a b)=[a,b]:=by
 have f:=(R6 a).2;have g:=(R6 b).2;rw[Md,JG J J,Fd a c,Fd b e]
theorem LM:∀(n:Nat) {w p:R},w.length<=n->Bo w=some p->p.flatMap q1=w
 |_,[],p,_,h=>by rw[Bo]at h;cases h;rfl
 |0,_::_,_,f,_=>by simp at f
 | n + 1,c::l,p,f,h=>by
  simp only[AD]at f;cases g:Mp c
  .by_cases m:c=42
   .subst m
    match l,f,h with
    | [],_,h=>rw[Bq Zs]at h;cases h
    | [_],_,h=>rw[Bq Zs]at h;cases h
    | a ::b::r,f,h=>
     rw[W1]at h;split at h
     .cases h
     .rename_i j;cases e:Bo r with
      |none=>rw[e]at h;cases h
      | some q=>
       rw[e]at h;cases h;have o:Mp (Md a b)=false:=by
        cases s:Mp (Md a b)
        .rfl
        .exact absurd (.inr (.inr s)) j
       simp only[AD]at f;rw[BF,LM n J e,IP o,bN (λk=>j (.inl k)) (λk=>j (.inr (.inl k)))]
       rfl
   .rw[UM g m]at h;cases h
  .rw[Gm g]at h;cases e:Bo l with
   |none=>rw[e]at h;cases h
   |some q=>
    rw[e]at h;cases h;rw[BF,LM n J e,Dt g]
    rfl
theorem lH(l:R):Tx (Pj l)=some l:=by
 unfold Pj;split
 .rename_i h;subst h;exact YS rfl
 .rename_i h;unfold Tx;rw[V ?_,I9]
  .exact V h
  .intro e;have:=I9 l;rw[e,Bq Zs]at this;cases this
theorem cR{w p:R}(h:Tx w=some p):Pj p=w:=by
 unfold Tx at h;split at h
 .rename_i c;subst c;cases h;rfl
 .split at h
  .rename_i b e;split at h
   .cases h
   .rename_i a;cases h;unfold Pj;rw[V a];exact LM _ (AC _) e
  .cases h
theorem QC(w:R):(if w=[42]then some []else match C_ w with
 |some b=>if b=[]\/Pj b≠w then none else some b
 |none=>none)=Tx w:=by
 by_cases a:w=[42]
 .rw[YS a];unfold Tx;rw[YS a]
 rw[V a];cases e:Tx w with
 | some p=>
  have c:=cR e;have f:p≠[]:=by
   rintro rfl;exact a c.symm
  have:C_ w=some p:=by
   rw[<-c,Pj,V f];exact LK p
  rw[this];exact V λk=>k.elim f λk=>k c
 | none=>
  cases j:C_ w with
  |none=>rfl
  | some b=>
   show(if b=[]\/Pj b≠w then none else some b)=none;split
   .rfl
   .rename_i h;have g:Pj b=w:=Classical.byContradiction λk=>h (.inr k)
    rw[<-g,lH]at e;cases e
theorem gG(c:UInt8):1<=(q1 c).length/\(q1 c).length<=3:=by
 unfold q1;split<;>simp[EN]
theorem MA(l:R):l.length<=(l.flatMap q1).length/\(l.flatMap q1).length<=3*l.length:=by
 induction l with
 |nil=>simp
 |cons c l a=>
  have:=gG c;simp only[BF,AH,AD];omega
theorem dX(l:R):1<=(Pj l).length/\(Pj l).length<=3*l.length+1:=by
 unfold Pj;split
 .simp
 .rename_i h;have:=MA l;have:0<l.length:=CL.2 h;omega
def Ke(c:UInt8):R->List R
 | []=>[[]]
 |b::l=>if b=c then []::Ke c l else match Ke c l with
  | []=>[[b]]
  |h::t=>(b::h)::t
def Oc(c:UInt8):List R->R
 | []=>[]
 | [x]=>x
 |x::l=>x++c::Oc c l
theorem Uw(c:UInt8)(l:R):Ke c l≠[]:=by
 cases l with
 |nil=>simp[Ke]
 |cons b l=>
  unfold Ke;split
  .simp
  .split<;>simp
theorem IW{c:UInt8}{l:R}:Ke c (c::l)=[]::Ke c l:=by rw[Ke,YS rfl]
theorem Dd{c:UInt8}:∀{x:R} (l:R),c∉x->Ke c (x++c::l)=x::Ke c l
 | [],l,_=>IW
 |b::x,l,h=>by
  have a:b≠c:=λe=>h (by simp[e])
  show Ke c (b::(x++c::l))=_;rw[Ke,V a,Dd l λk=>h (by simp[k])]
theorem Dc{c:UInt8}:∀{x:R},c∉x->Ke c x=[x]
 | [],_=>rfl
 |b::x,h=>by
  have a:b≠c:=λe=>h (by simp[e])
  rw[Ke,V a,Dc λk=>h (by simp[k])]
def Al:List R->List R
 | []=>[]
 |w::l=>match Tx w with
  |some p=>p::Al l
  |none=>[]
def Rq(l:List R):Bool:=l.all λw=>(Tx w).isSome
theorem IK:∀l:List R,(Al l).length<=l.length
 | []=>AC _
 |w::l=>by
  unfold Al;have:=IK l;split<;>simp<;>omega
theorem dh:∀{l:List R},Rq l=true->(Al l).map Pj=l
 | [],_=>rfl
 |w::l,h=>by
  simp only[Rq,List.all_cons,BS]at h;obtain⟨p,a⟩:=Option.isSome_iff_exists.1 h.1;rw[Al,a];show Pj p::(Al l).map Pj=_;rw[cR a,dh h.2]
def M7(l:List R):R:=Oc 32 (l.map Pj)
def Kt(l:R):List R:=if l=[]then []else Ke 32 l
def N0(l:List R):R:=l.flatMap (· ++ [10])
theorem bW(x:R)(l:List R):N0 (x::l)=x++10::N0 l:=by simp[N0]
def Lu(l:R):List R:=if l=[]then []else Ke 10 l.dropLast
def XT(l:R):Bool:=l.isEmpty||l.getLast? ==some 10
theorem Rr(c:UInt8):∀l:R,(Ke c l).length=l.count c+1
 | []=>rfl
 | b::l=>by
  have a:=Rr c l;rw[Ke];split
  .rename_i e;subst e;simp[a]
  .rename_i e;cases f:Ke c l with
   |nil=>exact absurd f (Uw c l)
   |cons h t=>
    rw[f]at a;rw[List.count_cons_of_ne e];simpa using a
section
variable{P:YK}{Δ:List YI}{W:YN}{Q:Exit->Act->YN->Prop}{Φ:YW}{c:Ob}
theorem tE{uX:Type}{val:uX->YM}{g:YE}{args:Array YM}{Φ':uX->YN->Prop}
 (uR:∀w,Below W.heap.size W w->Φ w->YG P g args w (λe y=>∃x,e= .returned (val x)/\Below W.heap.size w y/\∀m,y.heap.size<=m.heap.size->(∀b,W.heap.size<=b->b<y.heap.size->m.heap[b]? =y.heap[b]?)->Φ' x m))
 (C:c.st.box=λ_=>none) (ve:Rt c=true) (t:M8 P c=some (g,args)) (h:∀x,K0 P Δ W Q (Φ' x) (Lf (.v (val x)) c)):K0 P Δ W Q Φ c:=by
 obtain⟨uZ,k,σ⟩:=c;have C:σ.box=λ_=>none:=C
 replace h:=λx=>(h x).get
 refine⟨?_⟩;unfold M8 at t;split at t
 .rename_i uY xs A;split at t
  .rename_i vs vf;injection t with t;injection t with G F;subst G;subst F;unfold U4 at A;split at A
   .rename_i uS o r;split at A
    .rename_i B;unfold P1 at r;simp only at r;split at r
     .rename_i u i l;cases s:u[i]? with
      |none=>rw[s]at r;cases r
      |some N=>
       rw[s]at r;simp only[BV,CC,BR]at r;obtain⟨rfl,rfl⟩:=r;intro vg β a w f;show wpOps P u (post P Q k) (i::l) a w;rw[wpOps_cons];unfold wpOp;simp only[s,Mw f,B,if_true];refine .inl ?_;unfold Oper.wp;rw[Y8 A f,Qi vf];refine Calls.mono (uR w f.bel f.phi) λe y K=> ?_
       obtain⟨x,rfl,j,L⟩:=K;simp only[Vt,Lf,s,CQ]at h;have D:Re Δ W β σ (Φ' x) a y:=⟨f.tmps,f.defers,⟨j.os.trans f.bel.os,j.tape.trans f.bel.tape,j.output.trans f.bel.output,CD f.bel.size j.size,λk p=>(j.block k p).trans (f.bel.block k p)⟩,(λk cs p=>by rw[C]at p;cases p),f.inj,(λm B=>L m B.size λb G F=>B.heap b G F λk p=>by rw[C]at p;cases p)⟩
       exact h x (vg.put _ (by intro k p;simp[AV.ids]at p)) β _ y (D.put N.dst (.v (val x)))
     .cases ve
     .cases r
    .cases A
   .cases A
  .cases t
 .cases t
end
def MG(W:YN)(g:Nat)(bs:R)(u:YN):Prop:=Lib.IsBuilderF 116 5 W.heap.size g (BB bs) u
theorem MR{u v:YN}{B:Nat}{e:YH}{x:YM}{n:Nat}{xs:List YM}(h:u.ownsRowF B e 1 x n xs)(j:∀k,B<=k->k<u.heap.size->v.heap[k]? =u.heap[k]?):v.ownsRowF B e 1 x n xs:=by
 refine⟨h.1,?_⟩;rcases h.2 with b|⟨g,cap,a,l,b,f,c,rest⟩
 .exact .inl b
 .exact .inr ⟨g,cap,a,l,b,f,(j g f (AP.1 c).1).trans c,rest⟩
theorem Gb{u v:YN}{T e:YH}{B b:Nat}{p:YM}{bs:List YM}(h:Lib.BuilderAtF T e B b p bs u)(j:∀k,B<=k->k<u.heap.size->v.heap[k]? =u.heap[k]?):Lib.BuilderAtF T e B b p bs v:=by
 have f:=h.lt;obtain⟨g,x,l,a,c⟩:=h;exact⟨g,x,(j b g f).trans l,MR a j,c⟩
theorem MG.same{W u v:YN}{g:Nat}{bs:R}(h:MG W g bs u)(a:∀k,W.heap.size<=k->k<u.heap.size->v.heap[k]? =u.heap[k]?):MG W g bs v:=
 h.elim (λx=> .inl (Gb x a)) (λx=> .inr (Gb x a))
theorem NC(l:R)(c:UInt8):BB (l++ [c])=BB l++ [.int .u8 c.toNat]:=by simp[BB]
theorem Nl(l m:R):BB (l++m)=BB l++Lib.strCells ⟨m.toArray⟩:=by simp[BB,Lib.strCells]
section
variable{W w:YN}{g:Nat}{bs l:R}
theorem S_(c:W.heap.size<=w.heap.size):Lw XW w X0 (λg u=>MG W g [] u) (Cx 116):=
 ⟨w.heap.size,w.alloc (.cells #[.pointer none,.slice none 0 0] 116),by simp only[Cx,Instr.alloc,AI,Xr (show Bp XW 116=some (.agg #[.pointer none,.slice none 0 0]) by kernel_rfl),Xs,AG,AN,X0];rfl,Xk _ _,λa b e=> .inl ⟨c,.slice none 0 0,(Y6 w _ b e).1,World.ownsRowF_nil _ _ _ _,by simp[Value.ownBlock]⟩⟩
theorem HK(o:Below W.heap.size W w)(h:MG W g bs w)(c:UInt8)(u:bs.length<=100000000):YG XW 96 #[X0 g,.int .u8 c.toNat] w (λe f=>∃x:Unit,e= .returned .nilIface/\Below W.heap.size w f/\∀a,f.heap.size<=a.heap.size->(∀b,W.heap.size<=b->b<f.heap.size->a.heap[b]? =f.heap[b]?)->MG W g (bs++ [c]) a):=by
 refine Calls.mono (Any.Builder_WriteByte_k Tryz.layB167 Tryz.layBX W.heap.size g (BB bs) c.toNat w h (by rw[Lib.byteCells_length];omega) o.size) λe f r=> ?_
 obtain⟨k,s,m,_⟩:=r;exact⟨(),k,m,λa t j=>by have p:MG W g (bs++ [c]) f:= .inr (by rw[NC];exact s);exact p.same j⟩
theorem oU(m:Below W.heap.size W w)(h:MG W g bs w)(t:bs.length+l.length<=100000000):YG XW 57 #[X0 g,E l] w (λe c=>∃x:Unit,e= .returned (.tuple #[I l.length,.nilIface])/\Below W.heap.size w c/\∀a,c.heap.size<=a.heap.size->(∀b,W.heap.size<=b->b<c.heap.size->a.heap[b]? =c.heap[b]?)->MG W g (bs++l) a):=by
 refine Calls.mono (Any.Builder_WriteString_k Tryz.layB166 Tryz.layBX W.heap.size g (BB bs) ⟨l.toArray⟩ w h (by rw[Lib.byteCells_length];show bs.length+l.length<=_;omega) m.size) λe c p=> ?_
 obtain⟨j,r,k,_⟩:=p;exact⟨(),j,k,λa s f=>by have o:MG W g (bs++l) c:= .inr (by rw[Nl];exact r);exact o.same f⟩
theorem i2(j:Below W.heap.size W w)(h:MG W g bs w):YG XW 58 #[X0 g] w (λe c=>∃x:Unit,e= .returned (E bs)/\Below W.heap.size w c/\∀a:YN,c.heap.size<=a.heap.size->(∀b,W.heap.size<=b->b<c.heap.size->a.heap[b]? =c.heap[b]?)->True):=
 Calls.mono (Tryz.Builder_String_any_f W.heap.size g bs w h j.size) λe c f=>⟨(),f.1,f.2.2,λ_ _ _=>trivial⟩
end
def U0:R:=[46,95,58,47,43,45,44,61,35]
def S8(c:UInt8):Bool:=(decide (97<=c.toNat)&&decide (c.toNat<=122))||(decide (65<=c.toNat)&&decide (c.toNat<=90))||(decide (48<=c.toNat)&&decide (c.toNat<=57))
theorem du(c:UInt8):((c.toNat:Int).toNat).toUInt8=c:=Zs
theorem mH(c:UInt8):decide (AU U0 c>=0)=[46,95,58,47,43,45,44,61,35].contains c.toNat:=by
 have a:∀n:Fin 256,decide (AU U0 (AE n.val)>=0)=[46,95,58,47,43,45,44,61,35].contains n.val:=by decide+kernel
 have:=a ⟨c.toNat,by have:=c.toNat_lt;omega⟩;simpa only[BA]using this
theorem l8(c:UInt8):AU C7 c=Lk c:=by
 have a:∀n:Fin 256,AU C7 (AE n.val)=Lk (AE n.val):=by decide+kernel
 have:=a ⟨c.toNat,by have:=c.toNat_lt;omega⟩;simpa only[BA]using this
theorem Xf{c:UInt8}(h:S8 c=true):Mp c=true:=by
 unfold Mp;unfold S8 at h;rw[h];rfl
theorem F5{c:UInt8}(h:S8 c=false):Mp c=decide (AU U0 c>=0):=by
 rw[mH];unfold Mp;unfold S8 at h;rw[h];rfl
section
variable{w:YN}{l:R}
theorem d6(c:UInt8):Zv 168 #[E U0,.int .u8 c.toNat] w (I (AU U0 c)):=
 Calls.mono (Tryz.strings_IndexByte ⟨U0.toArray⟩ c.toNat w) λe b a=>⟨(),by rw[a.1,du],by rw[a.2];exact Below.refl _ _,λ_ _ _=>trivial⟩
theorem kS(c:UInt8):Zv 168 #[E C7,.int .u8 c.toNat] w (I (Lk c)):=
 Calls.mono (Tryz.strings_IndexByte ⟨C7.toArray⟩ c.toNat w) λe b a=>⟨(),by rw[a.1,du,<-l8],by rw[a.2];exact Below.refl _ _,λ_ _ _=>trivial⟩
theorem lD(c:UInt8):Zv 95 #[.int .u8 c.toNat] w (.bool (Mp c)):=by
 have b:(97<=c.toNat/\c.toNat<=122)\/(122<c.toNat)\/(90<c.toNat/\c.toNat<97)\/(65<=c.toNat/\c.toNat<=90)\/(57<c.toNat/\c.toNat<65)\/(48<=c.toNat/\c.toNat<=57)\/(c.toNat<48):=J
 refine sL func95 rfl<|H 2 ?_
 rcases b with b|b|b|b|b|b|b
 .have a:S8 c=true:=by unfold S8;simp;omega
  exact sM 5 (.bool (decide ((c.toNat:Int)>=97))) Zt O (by rw[YU J])<|H 6<|sM 9 (.bool (decide ((c.toNat:Int)<=122))) Zt O (by rw[YU J])<|H 1<|M<|ZX Zt (by rw[Xf a])
 .have a:S8 c=false:=by unfold S8;simp;omega
  exact sM 5 (.bool (decide ((c.toNat:Int)>=97))) Zt O (by rw[YU J])<|H 6<|sM 9 (.bool (decide ((c.toNat:Int)<=122))) Zf O (by rw[YV J])<|H 9<|sM 12 (.bool (decide ((c.toNat:Int)>=65))) Zt O (by rw[YU J])<|H 1<|sM 18 (.bool (decide ((c.toNat:Int)<=90))) Zf O (by rw[YV J])<|H 4<|sM 21 (.bool (decide ((c.toNat:Int)>=48))) Zt O (by rw[YU J])<|H 9<|ZT 26 (.bool (decide ((c.toNat:Int)<=57))) Zf (by rw[YV J])<|Z (λf e h=>d6 c) λu=>ZX (.bool (decide (AU U0 c>=0))) (by rw[F5 a])
 .have a:S8 c=false:=by unfold S8;simp;omega
  exact sM 5 (.bool (decide ((c.toNat:Int)>=97))) Zf O (by rw[YV J])<|H 6<|H 9<|sM 12 (.bool (decide ((c.toNat:Int)>=65))) Zt O (by rw[YU J])<|H 1<|sM 18 (.bool (decide ((c.toNat:Int)<=90))) Zf O (by rw[YV J])<|H 4<|sM 21 (.bool (decide ((c.toNat:Int)>=48))) Zt O (by rw[YU J])<|H 9<|ZT 26 (.bool (decide ((c.toNat:Int)<=57))) Zf (by rw[YV J])<|Z (λf e h=>d6 c) λu=>ZX (.bool (decide (AU U0 c>=0))) (by rw[F5 a])
 .have a:S8 c=true:=by unfold S8;simp;omega
  exact sM 5 (.bool (decide ((c.toNat:Int)>=97))) Zf O (by rw[YV J])<|H 6<|H 9<|sM 12 (.bool (decide ((c.toNat:Int)>=65))) Zt O (by rw[YU J])<|H 1<|ZT 18 (.bool (decide ((c.toNat:Int)<=90))) Zt (by rw[YU J])<|ZX Zt (by rw[Xf a])
 .have a:S8 c=false:=by unfold S8;simp;omega
  exact sM 5 (.bool (decide ((c.toNat:Int)>=97))) Zf O (by rw[YV J])<|H 6<|H 9<|sM 12 (.bool (decide ((c.toNat:Int)>=65))) Zf O (by rw[YV J])<|H 1<|H 4<|sM 21 (.bool (decide ((c.toNat:Int)>=48))) Zt O (by rw[YU J])<|H 9<|ZT 26 (.bool (decide ((c.toNat:Int)<=57))) Zf (by rw[YV J])<|Z (λf e h=>d6 c) λu=>ZX (.bool (decide (AU U0 c>=0))) (by rw[F5 a])
 .have a:S8 c=true:=by unfold S8;simp;omega
  exact sM 5 (.bool (decide ((c.toNat:Int)>=97))) Zf O (by rw[YV J])<|H 6<|H 9<|sM 12 (.bool (decide ((c.toNat:Int)>=65))) Zf O (by rw[YV J])<|H 1<|H 4<|sM 21 (.bool (decide ((c.toNat:Int)>=48))) Zt O (by rw[YU J])<|H 9<|ZT 26 (.bool (decide ((c.toNat:Int)<=57))) Zt (by rw[YU J])<|ZX Zt (by rw[Xf a])
 .have a:S8 c=false:=by unfold S8;simp;omega
  exact sM 5 (.bool (decide ((c.toNat:Int)>=97))) Zf O (by rw[YV J])<|H 6<|H 9<|sM 12 (.bool (decide ((c.toNat:Int)>=65))) Zf O (by rw[YV J])<|H 1<|H 4<|sM 21 (.bool (decide ((c.toNat:Int)>=48))) Zf O (by rw[YV J])<|H 9<|M<|Z (λf e h=>d6 c) λu=>ZX (.bool (decide (AU U0 c>=0))) (by rw[F5 a])
theorem HW{k:Nat}(h:k<9):∃b,U0[k]? =some b:=⟨_,AA (by exact h)⟩
theorem HM{k:Nat}{c:UInt8}(h:U0[k]? =some c):Mp c=true:=by
 have e:c∈U0:=AZ h;have a:∀b∈U0,Mp b=true:=by decide+kernel
 exact a c e
theorem QJ{c:UInt8}(f:S8 c=false)(h:∀j,j<9->U0[j]? ≠some c):Mp c=false:=by
 have g:c∉U0:=λk=>by
  obtain⟨i,hi,e⟩:=List.getElem_of_mem k;exact h i hi (by rw[AA hi,e])
 cases b:Mp c
 .rfl
 .have a:∀n:Fin 256,S8 (AE n.val)=false->Mp (AE n.val)=true->AE n.val∈U0:=by decide+kernel
  have:=a ⟨c.toNat,by have:=c.toNat_lt;omega⟩;simp only[BA]at this;exact absurd (this f b) g
theorem i1(c:UInt8):Zv 149 #[.int .u8 c.toNat] w (.bool (Mp c)):=by
 have r:(97<=c.toNat/\c.toNat<=122)\/(122<c.toNat)\/(90<c.toNat/\c.toNat<97)\/(65<=c.toNat/\c.toNat<=90)\/(57<c.toNat/\c.toNat<65)\/(48<=c.toNat/\c.toNat<=57)\/(c.toNat<48):=J
 refine sL func149 rfl<|H 2 ?_
 rcases r with r|r|r|r|r|r|r
 .have p:S8 c=true:=by unfold S8;simp;omega
  exact sM 6 (.bool (decide ((c.toNat:Int)>=97))) Zt O (by rw[YU J])<|H 6<|sM 10 (.bool (decide ((c.toNat:Int)<=122))) Zt O (by rw[YU J])<|H 14<|M<|ZI true<|ZX Zt (by rw[Xf p])
 .have p:S8 c=false:=by unfold S8;simp;omega
  refine sM 6 (.bool (decide ((c.toNat:Int)>=97))) Zt O (by rw[YU J])<|H 6<|sM 10 (.bool (decide ((c.toNat:Int)<=122))) Zf O (by rw[YV J])<|H 9<|sM 13 (.bool (decide ((c.toNat:Int)>=65))) Zt O (by rw[YU J])<|H 14<|sM 18 (.bool (decide ((c.toNat:Int)<=90))) Zf O (by rw[YV J])<|H 17<|ZT 21 (.bool (decide ((c.toNat:Int)>=48))) Zt (by rw[YU J])<|X (decide ((c.toNat:Int)<=57)) false Zp<|sU (ι:={k:Nat // k<=9/\∀j,j<k->U0[j]? ≠some c}) 38 (λq=>⟨[(0,.v (.int .u8 c.toNat)),(3,.v (E U0)),(4,.v (I q.1))],[]⟩) (λ_ _=>True) (λq=>9-q.1) (⟨0,by omega,by omega⟩) O (λ_=>O) zt (λ_ _=>trivial) ?_
  rintro⟨k,t,f⟩ g
  by_cases a:k<9
  .refine M<|sQ (decide ((k:Int)<9)) true O Zp<|H 2 ?_
   obtain⟨b,o⟩:=HW a;refine ZA (D0 9 (E U0) k) (.int .u8 b.toNat) (λx u h=>Mc O o) ?_
   by_cases m:b=c
   .exact X (((b.toNat:Int)==(c.toNat:Int))) true (by rw[m];simp)<|sN O<|M<|ZX Zt (by rw[HM (m▸o)])
   .refine X (((b.toNat:Int)==(c.toNat:Int))) false (by rw[YR];intro e;exact m (AR.1 J))<|sS 4 a Zd O<|sR (⟨k+1,by omega,by intro j s;by_cases e:j=k;rw[e,o];simpa using m;exact f j J⟩) O zo zt (λ_ _=>trivial)
  .exact M<|X (decide ((k:Int)<9)) false Zp<|sN O<|M<|ZX Zf (by rw[QJ p λj s=>f j J])
 .have p:S8 c=false:=by unfold S8;simp;omega
  refine sM 6 (.bool (decide ((c.toNat:Int)>=97))) Zf O (by rw[YV J])<|H 6<|H 9<|sM 13 (.bool (decide ((c.toNat:Int)>=65))) Zt O (by rw[YU J])<|H 14<|sM 18 (.bool (decide ((c.toNat:Int)<=90))) Zf O (by rw[YV J])<|H 17<|ZT 21 (.bool (decide ((c.toNat:Int)>=48))) Zt (by rw[YU J])<|X (decide ((c.toNat:Int)<=57)) false Zp<|sU (ι:={k:Nat // k<=9/\∀j,j<k->U0[j]? ≠some c}) 38 (λq=>⟨[(0,.v (.int .u8 c.toNat)),(3,.v (E U0)),(4,.v (I q.1))],[]⟩) (λ_ _=>True) (λq=>9-q.1) (⟨0,by omega,by omega⟩) O (λ_=>O) zt (λ_ _=>trivial) ?_
  rintro⟨k,t,f⟩ g
  by_cases a:k<9
  .refine M<|sQ (decide ((k:Int)<9)) true O Zp<|H 2 ?_
   obtain⟨b,o⟩:=HW a;refine ZA (D0 9 (E U0) k) (.int .u8 b.toNat) (λx u h=>Mc O o) ?_
   by_cases m:b=c
   .exact X (((b.toNat:Int)==(c.toNat:Int))) true (by rw[m];simp)<|sN O<|M<|ZX Zt (by rw[HM (m▸o)])
   .refine X (((b.toNat:Int)==(c.toNat:Int))) false (by rw[YR];intro e;exact m (AR.1 J))<|sS 4 a Zd O<|sR (⟨k+1,by omega,by intro j s;by_cases e:j=k;rw[e,o];simpa using m;exact f j J⟩) O zo zt (λ_ _=>trivial)
  .exact M<|X (decide ((k:Int)<9)) false Zp<|sN O<|M<|ZX Zf (by rw[QJ p λj s=>f j J])
 .have p:S8 c=true:=by unfold S8;simp;omega
  exact sM 6 (.bool (decide ((c.toNat:Int)>=97))) Zf O (by rw[YV J])<|H 6<|H 9<|sM 13 (.bool (decide ((c.toNat:Int)>=65))) Zt O (by rw[YU J])<|H 14<|ZT 18 (.bool (decide ((c.toNat:Int)<=90))) Zt (by rw[YU J])<|ZI true<|ZX Zt (by rw[Xf p])
 .have p:S8 c=false:=by unfold S8;simp;omega
  refine sM 6 (.bool (decide ((c.toNat:Int)>=97))) Zf O (by rw[YV J])<|H 6<|H 9<|sM 13 (.bool (decide ((c.toNat:Int)>=65))) Zf O (by rw[YV J])<|H 14<|H 17<|ZT 21 (.bool (decide ((c.toNat:Int)>=48))) Zt (by rw[YU J])<|X (decide ((c.toNat:Int)<=57)) false Zp<|sU (ι:={k:Nat // k<=9/\∀j,j<k->U0[j]? ≠some c}) 38 (λq=>⟨[(0,.v (.int .u8 c.toNat)),(3,.v (E U0)),(4,.v (I q.1))],[]⟩) (λ_ _=>True) (λq=>9-q.1) (⟨0,by omega,by omega⟩) O (λ_=>O) zt (λ_ _=>trivial) ?_
  rintro⟨k,t,f⟩ g
  by_cases a:k<9
  .refine M<|sQ (decide ((k:Int)<9)) true O Zp<|H 2 ?_
   obtain⟨b,o⟩:=HW a;refine ZA (D0 9 (E U0) k) (.int .u8 b.toNat) (λx u h=>Mc O o) ?_
   by_cases m:b=c
   .exact X (((b.toNat:Int)==(c.toNat:Int))) true (by rw[m];simp)<|sN O<|M<|ZX Zt (by rw[HM (m▸o)])
   .refine X (((b.toNat:Int)==(c.toNat:Int))) false (by rw[YR];intro e;exact m (AR.1 J))<|sS 4 a Zd O<|sR (⟨k+1,by omega,by intro j s;by_cases e:j=k;rw[e,o];simpa using m;exact f j J⟩) O zo zt (λ_ _=>trivial)
  .exact M<|X (decide ((k:Int)<9)) false Zp<|sN O<|M<|ZX Zf (by rw[QJ p λj s=>f j J])
 .have p:S8 c=true:=by unfold S8;simp;omega
  exact sM 6 (.bool (decide ((c.toNat:Int)>=97))) Zf O (by rw[YV J])<|H 6<|H 9<|sM 13 (.bool (decide ((c.toNat:Int)>=65))) Zf O (by rw[YV J])<|H 14<|H 17<|ZT 21 (.bool (decide ((c.toNat:Int)>=48))) Zt (by rw[YU J])<|X (decide ((c.toNat:Int)<=57)) true Zp<|ZX Zt (by rw[Xf p])
 .have p:S8 c=false:=by unfold S8;simp;omega
  refine sM 6 (.bool (decide ((c.toNat:Int)>=97))) Zf O (by rw[YV J])<|H 6<|H 9<|sM 13 (.bool (decide ((c.toNat:Int)>=65))) Zf O (by rw[YV J])<|H 14<|H 17<|ZT 21 (.bool (decide ((c.toNat:Int)>=48))) Zf (by rw[YV J])<|ZI false<|sU (ι:={k:Nat // k<=9/\∀j,j<k->U0[j]? ≠some c}) 38 (λq=>⟨[(0,.v (.int .u8 c.toNat)),(3,.v (E U0)),(4,.v (I q.1))],[]⟩) (λ_ _=>True) (λq=>9-q.1) (⟨0,by omega,by omega⟩) O (λ_=>O) zt (λ_ _=>trivial) ?_
  rintro⟨k,t,f⟩ g
  by_cases a:k<9
  .refine M<|sQ (decide ((k:Int)<9)) true O Zp<|H 2 ?_
   obtain⟨b,o⟩:=HW a;refine ZA (D0 9 (E U0) k) (.int .u8 b.toNat) (λx u h=>Mc O o) ?_
   by_cases m:b=c
   .exact X (((b.toNat:Int)==(c.toNat:Int))) true (by rw[m];simp)<|sN O<|M<|ZX Zt (by rw[HM (m▸o)])
   .refine X (((b.toNat:Int)==(c.toNat:Int))) false (by rw[YR];intro e;exact m (AR.1 J))<|sS 4 a Zd O<|sR (⟨k+1,by omega,by intro j s;by_cases e:j=k;rw[e,o];simpa using m;exact f j J⟩) O zo zt (λ_ _=>trivial)
  .exact M<|X (decide ((k:Int)<9)) false Zp<|sN O<|M<|ZX Zf (by rw[QJ p λj s=>f j J])
end
def RM(t:YH)(s:YM)(a:IntKind)(i j:Int):Sem Next:=Instr.sliceAt t s (some (.int a i)) (some (.int a j)) none >>= λv=>pure (.value v)
section
variable{P:YK}{w:YN}{l:R}{t:YH}
theorem KQ(s:ByteArray)(g:P.underlying t=some .string)(f c:IntKind)(a b:Int)(e:0<=a)(h:a<=b)(j:b<=s.size):
 (Instr.slice t (.string s) (some (.int f a)) (some (.int c b)) none).run P w= .ok (.string (s.extract a.toNat b.toNat)) w:=by
 simp[Instr.slice,run_underlying g,Instr.sliceBounds,run_sliceBound,sliced, *,(by omega:0<=b)];rw[run_sliceBound _ _ _ _ _ e J]
 rfl
theorem GQ{a:IntKind}{i j:Nat}(b:P.underlying t=some .string)(c:i<=j)(f:j<=l.length):(RM t (E l) a i j).run P w= .ok (.value (E ((l.take j).drop i))) w:=by
 have:=KQ (P:=P) (w:=w) ⟨l.toArray⟩ b a a i j J J (by show(j:Int)<=(l.length:Int);omega);simp only[RM,E,AI,If b]at this ⊢;simp only[this,AG,AN,BP];have e:(⟨l.toArray⟩:ByteArray).extract i j=⟨((l.take j).drop i).toArray⟩:=by
  apply ByteArray.ext;simp[ByteArray.data_extract,List.drop_take]
 rw[e]
theorem O9{e:IntKind}{i:Nat}{b:UInt8}(c:P.underlying t=some .string)(h:l[i]? =some b):(RM t (E l) e i (i+1:Nat)).run P w= .ok (.value (E [b])) w:=by
 obtain⟨a,f⟩:=AB.1 h;rw[GQ c (Nat.le_succ i) a];have:(l.take (i+1)).drop i=[b]:=by
  rw[BO,h,BX Zp];simp
 rw[this]
end
theorem Fe{l:R}{k:Nat}{c:UInt8}(h:l[k]? =some c):(l.take (k+1)).flatMap q1=(l.take k).flatMap q1++q1 c:=by
 rw[BO,h];simp
theorem G9(l:R)(k:Nat):((l.take k).flatMap q1).length<=3*l.length:=by
 have:=(MA (l.take k)).2;have b:=List.length_take_le k l;have a:(l.take k).length<=l.length:=by rw[BT];omega
 omega
theorem S9{l:R}{k:Nat}{c:UInt8}(h:l[k]? =some c):l.drop k=c::l.drop (k+1):=by
 obtain⟨a,b⟩:=AB.1 h;rw[AW a,b]
section
variable{l p:R}{k:Nat}{a b c:UInt8}
theorem nh(h:Bo l=(Bo (l.drop k)).map (p++·))(f:l[k]? =some c)(e:Mp c=true):Bo l=(Bo (l.drop (k+1))).map ((p++ [c])++·):=by
 rw[h,S9 f,Gm e,BN];congr 1;funext q;simp
theorem mo(h:Bo l=(Bo (l.drop k)).map (p++·))(g:l[k]? =some c)(e:Mp c=false)(f:c≠42):Bo l=none:=by
 rw[h,S9 g,UM e f];rfl
theorem fs(h:Bo l=(Bo (l.drop k)).map (p++·))(e:l[k]? =some 42)(f:l.length<=k+2):Bo l=none:=by
 rw[h,S9 e,Bq (by rw[CE];have:=(AB.1 e).1;omega)];rfl
theorem nu(h:Bo l=(Bo (l.drop k)).map (p++·))(f:l[k]? =some 42)(g:l[k+1]? =some a)(j:l[k+2]? =some b):
 (Lk a<0\/Lk b<0\/Mp (Md a b)=true->Bo l=none)/\(¬(Lk a<0\/Lk b<0\/Mp (Md a b)=true)->Bo l=(Bo (l.drop (k+3))).map ((p++ [Md a b])++·)):=by
 rw[S9 f,S9 g,S9 j,W1]at h;constructor
 .intro e;rw[h,YS e];rfl
 .intro e;rw[h,V e,BN];congr 1;funext q;simp
theorem lR(h:C_ l=(C_ (l.drop k)).map (p++·))(f:l[k]? =some c)(e:c≠42):C_ l=(C_ (l.drop (k+1))).map ((p++ [c])++·):=by
 rw[h,S9 f,KF e,BN];congr 1;funext q;simp
theorem fU(h:C_ l=(C_ (l.drop k)).map (p++·))(e:l[k]? =some 42)(f:l.length<=k+2):C_ l=none:=by
 rw[h,S9 e,ak (by rw[CE];have:=(AB.1 e).1;omega)];rfl
theorem mv(h:C_ l=(C_ (l.drop k)).map (p++·))(f:l[k]? =some 42)(g:l[k+1]? =some a)(j:l[k+2]? =some b):
 (Lk a<0\/Lk b<0->C_ l=none)/\(¬(Lk a<0\/Lk b<0)->C_ l=(C_ (l.drop (k+3))).map ((p++ [Md a b])++·)):=by
 rw[S9 f,S9 g,S9 j,OO]at h;constructor
 .intro e;rw[h,YS e];rfl
 .intro e;rw[h,V e,BN];congr 1;funext q;simp
theorem VN(h:l.length<=k):l.drop k=[]:=BJ h
theorem lu(h:Bo l=(Bo (l.drop k)).map (p++·))(e:l.length<=k):Bo l=some p:=by
 rw[h,VN e,Bo];show some (p++ [])=_;rw[BD]
theorem mA(h:C_ l=(C_ (l.drop k)).map (p++·))(e:l.length<=k):C_ l=some p:=by
 rw[h,VN e,C_];show some (p++ [])=_;rw[BD]
theorem Zn(e:l≠[42])(h:Bo l=none):Tx l=none:=by unfold Tx;rw[V e,h]
theorem iw(e:l≠[42])(h:Bo l=some []):Tx l=none:=by unfold Tx;rw[V e,h];rfl
theorem fQ(e:l≠[42])(h:Bo l=some p)(f:p≠[]):Tx l=some p:=by unfold Tx;rw[V e,h];exact V f
theorem Wd(e:l≠[42])(h:C_ l=none):Tx l=none:=by rw[<-QC,V e,h]
theorem UI(e:l≠[42])(h:C_ l=some p)(f:p=[]\/Pj p≠l):Tx l=none:=by rw[<-QC,V e,h];exact YS f
theorem d9(f:l≠[42])(h:C_ l=some p)(g:p≠[])(e:Pj p=l):Tx l=some p:=by rw[<-QC,V f,h];exact V λk=>k.elim g λk=>k e
end
def qx:Option R->YM
 |some p=> .tuple #[E p,.int .i64 0]
 |none=> .tuple #[E [],.int .i64 3]
theorem fZ(a b:UInt8)(e:0<=Lk a)(c:0<=Lk b):XX.wrap (bits .or .i64 (YA.wrap (Lk a*2 ^ 4)) (Lk b))=((Md a b).toNat:Int):=dm ⟨e,(R6 a).2⟩ ⟨c,(R6 b).2⟩
theorem ee(a b:UInt8)(e:0<=Lk a)(c:0<=Lk b):XX.wrap (YA.wrap (YA.wrap (16*Lk a)+Lk b))=((Md a b).toNat:Int):=WJ ⟨e,(R6 a).2⟩ ⟨c,(R6 b).2⟩
theorem mn(b:UInt8):XX.wrap (XX.wrap ((b.toNat:Int).tdiv 16)+1)=((b.toNat/16+1:Nat):Int):=by
 have h:∀n:Fin 256,XX.wrap (XX.wrap ((n.val:Int).tdiv 16)+1)=((n.val/16+1:Nat):Int):=by decide+kernel
 exact h ⟨b.toNat,by have:=b.toNat_lt;omega⟩
theorem mR(b:UInt8):XX.wrap ((b.toNat:Int).tmod 16+1)=((b.toNat%16+1:Nat):Int):=by
 have h:∀n:Fin 256,XX.wrap ((n.val:Int).tmod 16+1)=((n.val%16+1:Nat):Int):=by decide+kernel
 exact h ⟨b.toNat,by have:=b.toNat_lt;omega⟩
section
variable{w:YN}{l:R}
theorem F4{c:UInt8}{B:Bool}(h:Mp c=B):Zv 95 #[.int .u8 c.toNat] w (.bool B):=h▸lD c
theorem U_{c:UInt8}{B:Bool}(h:Mp c=B):Zv 149 #[.int .u8 c.toNat] w (.bool B):=h▸i1 c
theorem mN(y:l.length<=10000000):Zv 46 #[E l] w (E (Pj l)):=by
 refine sL func46 rfl<|H 1 ?_
 by_cases p:l=[]
 .subst p;exact ZA (Nq .eql 9 (.tmp 6) (.const (.string ⟨#[]⟩)) (E []) (E [])) Zt (λb a h=>Kj Zs)<|ZI true<|ZW (.string ⟨#[42]⟩)
 have r:Pj l=l.flatMap q1:=V p;refine ZA (Nq .eql 9 (.tmp 6) (.const (.string ⟨#[]⟩)) (E l) (E [])) Zf (λb a h=>Kj (by simpa using p))<|sW false O<|H 0<|sO (Cx 116) X0 (λg u=>MG w g [] u) O (λb a h=>S_ a.size) λg=>M<|sU (ι:={q:Nat // q<=l.length}) 31 (λq=>⟨[(0,.v (E l)),(3,.v (X0 g)),(9,.v (I l.length)),(10,.v (I q.1))],[]⟩) (λq u=>MG w g ((l.take q.1).flatMap q1) u) (λq=>l.length-q.1) (⟨0,AM _⟩) O (λ_=>O) zt (λu h=>h.2) ?_
 rintro⟨k,s⟩ t
 by_cases f:k<l.length
 .refine M<|sQ (decide ((k:Int)<(l.length:Int))) true O Zp<|H 2 ?_
  obtain⟨c,o⟩:∃c,l[k]? =some c:=⟨_,AA f⟩
  have x:=G9 l k;refine ZA (D0 9 (E l) k) (.int .u8 c.toNat) (λb a h=>Mc O o) ?_;cases j:Mp c
  .have m:=IP j;refine Z (λb a h=>F4 j) λu=>ZI false<|tE (val:=λ_=> .nilIface) (Φ':=λ(_:Unit) u=>MG w g ((l.take k).flatMap q1++ [42]) u) (λb a h=>HK a h.1 42 (show((l.take k).flatMap q1).length<=100000000 from by omega)) O O O λ_=>H 2<|sM 22 (.int .u8 ((c.toNat:Int).fdiv (2 ^ 4))) (.int .u8 ((c.toNat/16:Nat):Int)) O (by rw[kp])<|ZA (nX 9 (E C7) .u8 (c.toNat/16:Nat)) (.int .u8 (P3 (c.toNat/16)).toNat) (λb a h=>Ex O (Vg _ (E6 c).1))<|tE (val:=λ_=> .nilIface) (Φ':=λ(_:Unit) u=>MG w g (((l.take k).flatMap q1++ [42])++ [P3 (c.toNat/16)]) u) (λb a h=>HK a h _ (by simp only[AH,AL];omega)) O O O λ_=>H 2<|sM 26 (.int .u8 (bits .and .u8 (c.toNat:Int) 15)) (.int .u8 ((c.toNat%16:Nat):Int)) O (by rw[kA])<|ZA (nX 9 (E C7) .u8 (c.toNat%16:Nat)) (.int .u8 (P3 (c.toNat%16)).toNat) (λb a h=>Ex O (Vg _ (E6 c).2))<|tE (val:=λ_=> .nilIface) (Φ':=λ(_:Unit) u=>MG w g ((((l.take k).flatMap q1++ [42])++ [P3 (c.toNat/16)])++ [P3 (c.toNat%16)]) u) (λb a h=>HK a h _ (by simp only[AH,AL];omega)) O O O λ_=>M<|sS 10 f J O<|sR (⟨k+1,by omega⟩) O zo zt (λ_ h=>by show MG w g ((l.take (k+1)).flatMap q1) _;rw[Fe o,m];simpa[EN]using h)
  .have m:=Dt j;refine Z (λb a h=>F4 j) λu=>ZI true<|tE (val:=λ_=> .nilIface) (Φ':=λ(_:Unit) u=>MG w g ((l.take k).flatMap q1++ [c]) u) (λb a h=>HK a h.1 c (show((l.take k).flatMap q1).length<=100000000 from by omega)) O O O λ_=>M<|sS 10 f J O<|sR (⟨k+1,by omega⟩) O zo zt (λ_ h=>by show MG w g ((l.take (k+1)).flatMap q1) _;rw[Fe o,m];exact h)
 .refine M<|X (decide ((k:Int)<(l.length:Int))) false Zp ?_
  have e:l.take k=l:=AJ J;exact sN O<|M<|tE (val:=λ_=>E (l.flatMap q1)) (Φ':=λ(_:Unit) u=>True) (λb a h=>i2 a (by rw[<-e];exact h)) O O O λ_=>M<|ZX (E (l.flatMap q1)) (by rw[r])
theorem Ko(x:l.length<=10000000):Zv 78 #[E l] w (E (Pj l)):=by
 refine sL func78 rfl<|H 1 ?_
 by_cases o:l=[]
 .subst o;exact ZA (Nq .eql 9 (.tmp 7) (.const (.string ⟨#[]⟩)) (E []) (E [])) Zt (λb a h=>Kj Zs)<|ZI true<|ZW (.string ⟨#[42]⟩)
 have p:Pj l=l.flatMap q1:=V o;refine ZA (Nq .eql 9 (.tmp 7) (.const (.string ⟨#[]⟩)) (E l) (E [])) Zf (λb a h=>Kj (by simpa using o))<|ZI false<|sU (ι:={q:Nat // q<=l.length}) 46 (λq=>⟨[(0,.v (E l)),(3,.v (E C7)),(4,.v (E ((l.take q.1).flatMap q1))),(5,.v (I q.1))],[]⟩) (λq u=>True) (λq=>l.length-q.1) (⟨0,AM _⟩) O (λ_=>O) zt (λu h=>trivial) ?_
 rintro⟨k,r⟩ s
 by_cases e:k<l.length
 .refine M<|sQ (decide ((k:Int)<(l.length:Int))) true O Zp<|H 2 ?_
  obtain⟨c,g⟩:∃c,l[k]? =some c:=⟨_,AA e⟩
  have t:=G9 l k;refine ZA (D0 9 (E l) k) (.int .u8 c.toNat) (λb a h=>Mc O g) ?_;cases j:Mp c
  .have m:=IP j;refine Z (λb a h=>U_ j) λu=>sW false O<|H 7<|sM 30 (.int .u8 (XX.wrap ((c.toNat:Int).tdiv 16))) (.int .u8 ((c.toNat/16:Nat):Int)) O (by rw[iW])<|sM 33 (.int .u8 (XX.wrap (XX.wrap ((c.toNat:Int).tdiv 16)+1))) (.int .u8 ((c.toNat/16+1:Nat):Int)) O (by rw[mn])<|sP 7 (RM 9 (E C7) .u8 (c.toNat/16:Nat) (c.toNat/16+1:Nat)) (E [P3 (c.toNat/16)]) O (λb a h=>O9 O (Vg _ (E6 c).1))<|H 8<|sP 8 (Nq .add 9 (.const (.string ⟨#[42]⟩)) (.tmp 34) (E [42]) (E [P3 (c.toNat/16)])) (E ([42]++ [P3 (c.toNat/16)])) O (λb a h=>M6 Zs)<|H 15<|sM 38 (.int .u8 ((c.toNat:Int).tmod 16)) (.int .u8 ((c.toNat%16:Nat):Int)) O (by rw[kI])<|sM 41 (.int .u8 (XX.wrap ((c.toNat:Int).tmod 16+1))) (.int .u8 ((c.toNat%16+1:Nat):Int)) O (by rw[mR])<|sP 15 (RM 9 (E C7) .u8 (c.toNat%16:Nat) (c.toNat%16+1:Nat)) (E [P3 (c.toNat%16)]) O (λb a h=>O9 O (Vg _ (E6 c).2))<|H 16<|sP 16 (Nq .add 9 (.tmp 35) (.tmp 42) (E ([42]++ [P3 (c.toNat/16)])) (E [P3 (c.toNat%16)])) (E (q1 c)) O (λb a h=>by rw[M6 Zs,m];rfl)<|H 17<|ZB 17 (Nq .add 9 (.tmp 27) (.tmp 43) (E ((l.take k).flatMap q1)) (E (q1 c))) (E ((l.take (k+1)).flatMap q1)) (λb a h=>by rw[M6 (by have:=(gG c).2;omega),Fe g])<|sS 5 e J O<|sR (⟨k+1,by omega⟩) O zo zt (λ_ h=>trivial)
  .have m:=Dt j;refine Z (λb a h=>U_ j) λu=>sW true O<|H 5<|sS 24 e J O<|sV (RM 9 (E l) .i64 k (k+1:Nat)) (E [c]) O (λb a h=>O9 O g)<|H 6<|ZA (Nq .add 9 (.tmp 20) (.tmp 25) (E ((l.take k).flatMap q1)) (E [c])) (E ((l.take (k+1)).flatMap q1)) (λb a h=>by rw[M6 (by simp only[AL];omega),Fe g,m])<|sS 5 e J O<|sR (⟨k+1,by omega⟩) O zo zt (λ_ h=>trivial)
 .refine M<|X (decide ((k:Int)<(l.length:Int))) false Zp ?_
  have f:l.take k=l:=AJ J;exact sN O<|M<|ZX (E ((l.take k).flatMap q1)) (by rw[p,f])
end
section
variable{w:YN}{l:R}{o:Option R}
theorem Su{k n:Nat}(h:k+2<=n)(a:n<=1000000000):YA.wrap ((k:Int)+2)=((k+2:Nat):Int):=by rw[BH _ J];omega
theorem mI(c:UInt8)(h:48<=c.toNat/\c.toNat<=57):YA.wrap (XX.wrap ((c.toNat:Int)-48))=Lk c:=by
 have a:∀n:Fin 256,48<=n.val->n.val<=57->YA.wrap (XX.wrap ((n.val:Int)-48))=Lk (AE n.val):=by decide+kernel
 have:=a ⟨c.toNat,by have:=c.toNat_lt;omega⟩ h.1 h.2;simpa only[BA]using this
theorem lS(c:UInt8)(h:97<=c.toNat/\c.toNat<=102):YA.wrap (YA.wrap (XX.wrap ((c.toNat:Int)-97))+10)=Lk c:=by
 have a:∀n:Fin 256,97<=n.val->n.val<=102->YA.wrap (YA.wrap (XX.wrap ((n.val:Int)-97))+10)=Lk (AE n.val):=by decide+kernel
 have:=a ⟨c.toNat,by have:=c.toNat_lt;omega⟩ h.1 h.2;simpa only[BA]using this
theorem bL(c:UInt8)(h:¬(48<=c.toNat/\c.toNat<=57))(a:¬(97<=c.toNat/\c.toNat<=102)):Lk c= -1:=by
 unfold Lk;rw[V a,V h]
theorem Jc(c:UInt8):Zv 136 #[.int .u8 c.toNat] w (I (Lk c)):=by
 have a:(48<=c.toNat/\c.toNat<=57)\/c.toNat<48\/(57<c.toNat/\c.toNat<97)\/(97<=c.toNat/\c.toNat<=102)\/102<c.toNat:=J
 rcases a with a|a|a|a|a
 .exact sL func136 rfl<|H 2<|ZT 4 (.bool (decide ((c.toNat:Int)>=48))) Zt (by rw[YU J])<|X (decide ((c.toNat:Int)<=57)) true Zp<|ZX (I (YA.wrap (XX.wrap ((c.toNat:Int)-48)))) (by rw[mI c a])
 .have e:=bL c J J;exact sL func136 rfl<|H 2<|ZT 4 (.bool (decide ((c.toNat:Int)>=48))) Zf (by rw[YV J])<|sW false O<|H 2<|ZT 13 (.bool (decide ((c.toNat:Int)>=97))) Zf (by rw[YV J])<|ZI false<|ZX (I (-1)) (by rw[e])
 .have e:=bL c J J;exact sL func136 rfl<|H 2<|ZT 4 (.bool (decide ((c.toNat:Int)>=48))) Zt (by rw[YU J])<|sQ (decide ((c.toNat:Int)<=57)) false O Zp<|H 2<|ZT 13 (.bool (decide ((c.toNat:Int)>=97))) Zf (by rw[YV J])<|ZI false<|ZX (I (-1)) (by rw[e])
 .exact sL func136 rfl<|H 2<|ZT 4 (.bool (decide ((c.toNat:Int)>=48))) Zt (by rw[YU J])<|sQ (decide ((c.toNat:Int)<=57)) false O Zp<|H 2<|ZT 13 (.bool (decide ((c.toNat:Int)>=97))) Zt (by rw[YU J])<|X (decide ((c.toNat:Int)<=102)) true Zp<|ZX (I (YA.wrap (YA.wrap (XX.wrap ((c.toNat:Int)-97))+10))) (by rw[lS c a])
 .have e:=bL c J J;exact sL func136 rfl<|H 2<|ZT 4 (.bool (decide ((c.toNat:Int)>=48))) Zt (by rw[YU J])<|sQ (decide ((c.toNat:Int)<=57)) false O Zp<|H 2<|ZT 13 (.bool (decide ((c.toNat:Int)>=97))) Zt (by rw[YU J])<|X (decide ((c.toNat:Int)<=102)) false Zp<|ZX (I (-1)) (by rw[e])
theorem NE(r:Tx l=o)(hl:l.length<=90000000):Zv 110 #[E l] w (qx o):=by
 by_cases A:l=[42]
 .obtain rfl:o=some []:=by rw[<-r,A];rfl
  exact sL func110 rfl<|H 1<|s0 O (stop:=1000) 1 _<|H 1<|ZA (Nq .eql 9 (.tmp 8) (.const (.string ⟨#[42]⟩)) (E l) (E [42])) Zt (λf j h=>Kj (by simpa using A))<|ZI true<|ZW (.tuple #[.string ⟨#[]⟩,I 0])
 refine sL func110 rfl<|H 1<|s0 O (stop:=1000) 1 _<|H 1<|ZA (Nq .eql 9 (.tmp 8) (.const (.string ⟨#[42]⟩)) (E l) (E [42])) Zf (λf j h=>Kj (by simpa using A))<|ZI false<|sU (ι:={q:(Nat×Nat×R)×(YZ) // q.1.1<=l.length/\Bo l=(Bo (l.drop q.1.1)).map (q.1.2.2++·)/\q.1.2.2.length=q.1.2.1/\q.1.2.1<=q.1.1}) 76 (λq=>⟨[(0,.v (E l)),(4,.v (.slice q.1.2.1 q.1.1.2.1 q.1.2.2)),(5,.v (I q.1.1.1))],[]⟩) (λq u=>Y u w.heap.size 5 1 q.1.2.1 q.1.1.2.1 q.1.2.2 (bv q.1.1.2.2)) (λq=>l.length-q.1.1.1) (⟨((0,0,[]),(none,0)),by simp,by show Bo l=(Bo (l.drop 0)).map ([]++·);rw[BZ];cases Bo l<;>rfl,rfl,AC _⟩) O (λ_=>O) zt (λu h=>s_) ?_
 rintro⟨⟨⟨k,m,p⟩,y,yc⟩,uZ⟩ g;have hk1:k<=l.length:=uZ.1;have x:Bo l=(Bo (l.drop k)).map (p++·):=uZ.2.1
 have B:p.length=m:=uZ.2.2.1;have hk4:m<=k:=uZ.2.2.2
 by_cases ve:k<l.length
 .refine M<|sQ (decide ((k:Int)<(l.length:Int))) true O Zp<|H 2 ?_
  obtain⟨c,vf⟩:∃c,l[k]? =some c:=⟨_,AA ve⟩
  refine ZA (D0 9 (E l) k) (.int .u8 c.toNat) (λf j h=>Mc O vf) ?_;cases N:Mp c
  case true=>
   have uU:=nh x vf N;refine Z (λf j h=>F4 N) λu=>sW true O<|H 3<|sV (D0 9 (E l) k) (.int .u8 c.toNat) O (λf j h=>Mc O vf)<|H 4<|sO (Kw 108 1 #[(0,.int .u8 c.toNat)]) (Kd 1) (Kr 5 #[.int .u8 c.toNat]) O (λf j h=>Kb O) λQ=>H 5<|sY (L:=bl y) (val:=λ(z:YZ)=> .slice z.1 (m+1) z.2) (Φ':=λ(z:YZ) v=>Y v w.heap.size 5 1 z.1 (m+1) z.2 (bv (p++ [c]))) (G:=λ(z:YZ) v=>Y v w.heap.size 5 1 z.1 (m+1) z.2 (bv (p++ [c]))) (Ln 108 108 (.slice y m yc) (Kd 1 Q)) (λf j h=>by have r:Y f w.heap.size 5 1 y m yc (bv p):=h.1.1;have K:=N4 (P:=XW) (s:=1) (z:= .int .u8 0) (bytes:=1) (m:=1) (cc:=1) (t:=108) (elem:=5) O O rfl Zd r j.size (Mm (n:=1) h.2 rfl) (by intro v uR;simp at uR;rcases uR with rfl;rfl) J Zd;have e:bv (p++ [c])=bv p++ [.int .u8 (c).toNat]:=by{simp[bv]};rw[e];exact K) (λf h=>λb vg=>⟨((show Y f w.heap.size 5 1 y m yc (bv p)from h.1.1).lt b vg).1,((show Y f w.heap.size 5 1 y m yc (bv p)from h.1.1).blk b vg).2⟩) (λz wa f uT W h uW=>uW) O O λz=>M<|sS 5 ve J O<|sR (⟨((k+1,m+1,p++ [c]),z),by show k+1<=l.length;omega,uU,by simp[B],by show m+1<=k+1;omega⟩) O zo zt (λ_ h=>h)
  refine Z (λf j h=>F4 N) λu=>sW false O<|H 2<|sV (D0 9 (E l) k) (.int .u8 c.toNat) O (λf j h=>Mc O vf)<|H 4 ?_
  by_cases uS:c=42
  case neg=>
   obtain rfl:o=none:=r.symm.trans (Zn A (mo x vf N uS));exact ZT 29 (.bool ((c.toNat:Int) !=42)) Zt (by simp;intro e;exact uS (AR.1 (by have W:(42:UInt8).toNat=42:=rfl;omega)))<|ZI true<|sN O<|M<|ZW (.tuple #[.string ⟨#[]⟩,I 3])
  subst uS;refine ZT 29 (.bool ((((42:UInt8).toNat:Nat):Int) !=42)) Zf Zs ?_
  by_cases uY:l.length<=k+2
  .obtain rfl:o=none:=r.symm.trans (Zn A (fs x vf uY));exact X (decide (YA.wrap ((k:Int)+2)>=(l.length:Int))) true (by rw[Su (n:=l.length+1) J J];simp;omega)<|sN O<|M<|ZW (.tuple #[.string ⟨#[]⟩,I 3])
  obtain⟨a,K⟩:∃a,l[k+1]? =some a:=⟨_,AA J⟩
  obtain⟨b,vg⟩:∃b,l[k+2]? =some b:=⟨_,AA J⟩
  obtain⟨S,d2⟩:=nu x vf K vg;refine sQ (decide (YA.wrap ((k:Int)+2)>=(l.length:Int))) false O (by rw[Su (n:=l.length+1) J J];simp;omega)<|H 3<|sS 39 ve J O<|sP 3 (D0 9 (E l) (k+1:Nat)) (.int .u8 a.toNat) O (λf j h=>Mc O K)<|H 8<|sM 44 (I (YA.wrap ((k:Int)+2))) (I ((k+2:Nat):Int)) O (by rw[Su (n:=l.length) J J])<|ZB 8 (D0 9 (E l) (k+2:Nat)) (.int .u8 b.toNat) (λf j h=>Mc O vg)<|Z (λf j h=>kS a) λu=>ZD 0 (λf j h=>kS b) λu=>s0 O (stop:=1000) 2 _ ?_
  by_cases D:Lk a<0
  .obtain rfl:o=none:=r.symm.trans (Zn A (S (.inl D)));exact H 2<|ZT 48 (.bool (decide (Lk a<0))) Zt (by rw[YU D])<|ZI true<|sN O<|M<|ZW (.tuple #[.string ⟨#[]⟩,I 3])
  by_cases F:Lk b<0
  .obtain rfl:o=none:=r.symm.trans (Zn A (S (.inr (.inl F))));exact H 2<|sM 48 (.bool (decide (Lk a<0))) Zf O (by rw[YV D])<|H 6<|ZT 52 (.bool (decide (Lk b<0))) Zt (by rw[YU F])<|ZI true<|sN O<|M<|ZW (.tuple #[.string ⟨#[]⟩,I 3])
  have uX:=fZ a b J J;refine H 2<|sM 48 (.bool (decide (Lk a<0))) Zf O (by rw[YV D])<|H 6<|sM 52 (.bool (decide (Lk b<0))) Zf O (by rw[YV F])<|H 12<|sM 58 (.int .u8 (XX.wrap (bits .or .i64 (YA.wrap (Lk a*2 ^ 4)) (Lk b)))) (.int .u8 (Md a b).toNat) O (by rw[uX]) ?_
  cases C:Mp (Md a b)
  case true=>
   obtain rfl:o=none:=r.symm.trans (Zn A (S (.inr (.inr C))));exact Z (λf j h=>F4 C) λu=>ZI true<|sN O<|M<|ZW (.tuple #[.string ⟨#[]⟩,I 3])
  have uU:=d2 (by rw[C];simp;omega);refine Z (λf j h=>F4 C) λu=>sW false O<|H 6<|sM 66 (.int .u8 (XX.wrap (bits .or .i64 (YA.wrap (Lk a*2 ^ 4)) (Lk b)))) (.int .u8 (Md a b).toNat) O (by rw[uX])<|sO (Kw 108 1 #[(0,.int .u8 (Md a b).toNat)]) (Kd 1) (Kr 5 #[.int .u8 (Md a b).toNat]) O (λf j h=>Kb O) λQ=>H 7<|sY (L:=bl y) (val:=λ(z:YZ)=> .slice z.1 (m+1) z.2) (Φ':=λ(z:YZ) v=>Y v w.heap.size 5 1 z.1 (m+1) z.2 (bv (p++ [Md a b]))) (G:=λ(z:YZ) v=>Y v w.heap.size 5 1 z.1 (m+1) z.2 (bv (p++ [Md a b]))) (Ln 108 108 (.slice y m yc) (Kd 1 Q)) (λf j h=>by have r:Y f w.heap.size 5 1 y m yc (bv p):=h.1.1.1.1.1;have K:=N4 (P:=XW) (s:=1) (z:= .int .u8 0) (bytes:=1) (m:=1) (cc:=1) (t:=108) (elem:=5) O O rfl Zd r j.size (Mm (n:=1) h.2 rfl) (by intro v uR;simp at uR;rcases uR with rfl;rfl) J Zd;have e:bv (p++ [Md a b])=bv p++ [.int .u8 (Md a b).toNat]:=by{simp[bv]};rw[e];exact K) (λf h=>λb vg=>⟨((show Y f w.heap.size 5 1 y m yc (bv p)from h.1.1.1.1.1).lt b vg).1,((show Y f w.heap.size 5 1 y m yc (bv p)from h.1.1.1.1.1).blk b vg).2⟩) (λz wa f uT W h uW=>uW) O O λz=>M<|sM 5 (I (YA.wrap (YA.wrap ((k:Int)+2)+1))) (I ((k+3:Nat):Int)) O (by rw[Su (n:=l.length) J J,Kc (n:=l.length) J J])<|sR (⟨((k+3,m+1,p++ [Md a b]),z),by show k+3<=l.length;omega,uU,by simp[B],by show m+1<=k+3;omega⟩) O zo zt (λ_ h=>h)
 .have uV:=lu x J;refine M<|X (decide ((k:Int)<(l.length:Int))) false Zp<|sN O<|M ?_
  by_cases T:m=0
  .obtain rfl:p=[]:=BC.1 J;obtain rfl:o=none:=r.symm.trans (iw A uV);exact X (((m:Int)==0)) true (by simp[T])<|ZW (.tuple #[.string ⟨#[]⟩,I 3])
  .obtain rfl:o=some p:=r.symm.trans (fQ A uV (by rintro rfl;exact T B.symm));exact sQ (((m:Int)==0)) false O (by simp[T])<|H 1<|ZA (oF 108 9 (.slice y m yc)) (E p) (λf j h=>by subst B;exact KG (e:=5) O O O h)<|ZW (.tuple #[E p,I 0])
theorem KN(r:Tx l=o)(hl:l.length<=10000):Zv 72 #[E l] w (qx o):=by
 by_cases B:l=[42]
 .obtain rfl:o=some []:=by rw[<-r,B];rfl
  exact sL func72 rfl<|H 1<|s0 O (stop:=1000) 1 _<|H 1<|ZA (Nq .eql 9 (.tmp 7) (.const (.string ⟨#[42]⟩)) (E l) (E [42])) Zt (λf j h=>Kj (by simpa using B))<|ZI true<|ZW (.tuple #[.string ⟨#[]⟩,I 0])
 refine sL func72 rfl<|H 1<|s0 O (stop:=1000) 1 _<|H 1<|ZA (Nq .eql 9 (.tmp 7) (.const (.string ⟨#[42]⟩)) (E l) (E [42])) Zf (λf j h=>Kj (by simpa using B))<|ZI false<|sU (ι:={q:(Nat×Nat×R)×(YZ) // q.1.1<=l.length/\C_ l=(C_ (l.drop q.1.1)).map (q.1.2.2++·)/\q.1.2.2.length=q.1.2.1/\q.1.2.1<=q.1.1}) 72 (λq=>⟨[(0,.v (E l)),(4,.v (.slice q.1.2.1 q.1.1.2.1 q.1.2.2)),(5,.v (I q.1.1.1))],[]⟩) (λq u=>Y u w.heap.size 5 1 q.1.2.1 q.1.1.2.1 q.1.2.2 (bv q.1.1.2.2)) (λq=>l.length-q.1.1.1) (⟨((0,0,[]),(none,0)),by simp,by show C_ l=(C_ (l.drop 0)).map ([]++·);rw[BZ];cases C_ l<;>rfl,rfl,AC _⟩) O (λ_=>O) zt (λu h=>s_) ?_
 rintro⟨⟨⟨k,m,p⟩,y,yc⟩,uR⟩ g;have hk1:k<=l.length:=uR.1;have A:C_ l=(C_ (l.drop k)).map (p++·):=uR.2.1
 have x:p.length=m:=uR.2.2.1;have hk4:m<=k:=uR.2.2.2
 by_cases D:k<l.length
 .refine M<|sQ (decide ((k:Int)<(l.length:Int))) true O Zp<|H 2 ?_
  obtain⟨c,K⟩:∃c,l[k]? =some c:=⟨_,AA D⟩
  refine ZA (D0 9 (E l) k) (.int .u8 c.toNat) (λf j h=>Mc O K) ?_
  by_cases F:c=42
  case neg=>
   have uU:=lR A K F;refine sQ (((c.toNat:Int)==42)) false O (by simp;intro e;exact F (AR.1 (by have W:(42:UInt8).toNat=42:=rfl;omega)))<|H 2<|sO (Kw 108 1 #[(0,.int .u8 c.toNat)]) (Kd 1) (Kr 5 #[.int .u8 c.toNat]) O (λf j h=>Kb O) λuZ=>H 3<|sY (L:=bl y) (val:=λ(z:YZ)=> .slice z.1 (m+1) z.2) (Φ':=λ(z:YZ) v=>Y v w.heap.size 5 1 z.1 (m+1) z.2 (bv (p++ [c]))) (G:=λ(z:YZ) v=>Y v w.heap.size 5 1 z.1 (m+1) z.2 (bv (p++ [c]))) (Ln 108 108 (.slice y m yc) (Kd 1 uZ)) (λf j h=>by have r:Y f w.heap.size 5 1 y m yc (bv p):=h.1;have uS:=N4 (P:=XW) (s:=1) (z:= .int .u8 0) (bytes:=1) (m:=1) (cc:=1) (t:=108) (elem:=5) O O rfl Zd r j.size (Mm (n:=1) h.2 rfl) (by intro v ve;simp at ve;rcases ve with rfl;rfl) J Zd;have e:bv (p++ [c])=bv p++ [.int .u8 (c).toNat]:=by{simp[bv]};rw[e];exact uS) (λf h=>λb C=>⟨((show Y f w.heap.size 5 1 y m yc (bv p)from h.1).lt b C).1,((show Y f w.heap.size 5 1 y m yc (bv p)from h.1).blk b C).2⟩) (λz wa f uV W h T=>T) O O λz=>M<|sS 5 D J O<|sR (⟨((k+1,m+1,p++ [c]),z),by show k+1<=l.length;omega,uU,by simp[x],by show m+1<=k+1;omega⟩) O zo zt (λ_ h=>h)
  subst F;refine sQ ((((((42:UInt8).toNat:Nat):Int))==42)) true O Zs<|H 5 ?_
  by_cases Q:l.length<=k+2
  .obtain rfl:o=none:=r.symm.trans (Wd B (fU A K Q));exact ZT 24 (.bool (decide (YA.wrap ((k:Int)+2)>=(l.length:Int)))) Zt (by rw[YU];rw[Su (n:=l.length+1) J J];omega)<|ZI true<|sN O<|M<|ZW (.tuple #[.string ⟨#[]⟩,I 3])
  obtain⟨a,uS⟩:∃a,l[k+1]? =some a:=⟨_,AA J⟩
  obtain⟨b,C⟩:∃b,l[k+2]? =some b:=⟨_,AA J⟩
  obtain⟨uX,uT⟩:=mv A K uS C;refine sM 24 (.bool (decide (YA.wrap ((k:Int)+2)>=(l.length:Int)))) Zf O (by rw[YV];rw[Su (n:=l.length+1) J J];omega)<|H 9<|sS 28 D J O<|ZA (D0 9 (E l) (k+1:Nat)) (.int .u8 a.toNat) (λf j h=>Mc O uS)<|ZD 13 (λf j h=>Jc a) λu=> ?_
  by_cases vf:Lk a<0
  .obtain rfl:o=none:=r.symm.trans (Wd B (uX (.inl vf)));exact ZT 32 (.bool (decide (Lk a<0))) Zt (by rw[YU vf])<|ZI true<|sN O<|M<|ZW (.tuple #[.string ⟨#[]⟩,I 3])
  refine sM 32 (.bool (decide (Lk a<0))) Zf O (by rw[YV vf])<|H 17<|sM 36 (I (YA.wrap ((k:Int)+2))) (I ((k+2:Nat):Int)) O (by rw[Su (n:=l.length) J J])<|ZA (D0 9 (E l) (k+2:Nat)) (.int .u8 b.toNat) (λf j h=>Mc O C)<|Z (λf j h=>Jc b) λu=> ?_
  by_cases vg:Lk b<0
  .obtain rfl:o=none:=r.symm.trans (Wd B (uX (.inr vg)));exact X (decide (Lk b<0)) true (YU vg)<|sN O<|M<|ZW (.tuple #[.string ⟨#[]⟩,I 3])
  have hn:=ee a b J J;have uU:=uT Zp;refine sQ (decide (Lk b<0)) false O (YV vg)<|H 3<|sS 43 D J O<|sP 3 (D0 9 (E l) (k+1:Nat)) (.int .u8 a.toNat) O (λf j h=>Mc O uS)<|H 9<|sM 49 (I (YA.wrap ((k:Int)+2))) (I ((k+2:Nat):Int)) O (by rw[Su (n:=l.length) J J])<|ZB 9 (D0 9 (E l) (k+2:Nat)) (.int .u8 b.toNat) (λf j h=>Mc O C)<|Z (λf j h=>Jc a) λu=>ZD 0 (λf j h=>Jc b) λu=>s0 O (stop:=1000) 1 _<|H 2<|s0 O (stop:=1000) 1 _<|H 2<|sM 57 (.int .u8 (XX.wrap (YA.wrap (YA.wrap (16*Lk a)+Lk b)))) (.int .u8 (Md a b).toNat) O (by rw[hn])<|sO (Kw 108 1 #[(0,.int .u8 (Md a b).toNat)]) (Kd 1) (Kr 5 #[.int .u8 (Md a b).toNat]) O (λf j h=>Kb O) λuZ=>H 3<|sY (L:=bl y) (val:=λ(z:YZ)=> .slice z.1 (m+1) z.2) (Φ':=λ(z:YZ) v=>Y v w.heap.size 5 1 z.1 (m+1) z.2 (bv (p++ [Md a b]))) (G:=λ(z:YZ) v=>Y v w.heap.size 5 1 z.1 (m+1) z.2 (bv (p++ [Md a b]))) (Ln 108 108 (.slice y m yc) (Kd 1 uZ)) (λf j h=>by have r:Y f w.heap.size 5 1 y m yc (bv p):=h.1.1.1.1.1;have uS:=N4 (P:=XW) (s:=1) (z:= .int .u8 0) (bytes:=1) (m:=1) (cc:=1) (t:=108) (elem:=5) O O rfl Zd r j.size (Mm (n:=1) h.2 rfl) (by intro v ve;simp at ve;rcases ve with rfl;rfl) J Zd;have e:bv (p++ [Md a b])=bv p++ [.int .u8 (Md a b).toNat]:=by{simp[bv]};rw[e];exact uS) (λf h=>λb C=>⟨((show Y f w.heap.size 5 1 y m yc (bv p)from h.1.1.1.1.1).lt b C).1,((show Y f w.heap.size 5 1 y m yc (bv p)from h.1.1.1.1.1).blk b C).2⟩) (λz wa f uV W h T=>T) O O λz=>M<|sM 5 (I (YA.wrap (YA.wrap ((k:Int)+2)+1))) (I ((k+3:Nat):Int)) O (by rw[Su (n:=l.length) J J,Kc (n:=l.length) J J])<|sR (⟨((k+3,m+1,p++ [Md a b]),z),by show k+3<=l.length;omega,uU,by simp[x],by show m+1<=k+3;omega⟩) O zo zt (λ_ h=>h)
 .have uW:=mA A J;refine M<|X (decide ((k:Int)<(l.length:Int))) false Zp<|sN O<|H 3 ?_
  by_cases S:m=0
  .obtain rfl:p=[]:=BC.1 J;obtain rfl:o=none:=r.symm.trans (UI B uW (.inl rfl));exact ZT 62 (.bool ((m:Int)==0)) Zt (by simp[S])<|ZI true<|ZW (.tuple #[.string ⟨#[]⟩,I 3])
  have uY:p≠[]:=by rintro rfl;exact S x.symm
  refine sM 62 (.bool ((m:Int)==0)) Zf O (by simp[S])<|H 5<|ZA (oF 108 9 (.slice y m yc)) (E p) (λf j h=>by subst x;exact KG (e:=5) O O O h)<|ZD 8 (λf j h=>Ko (l:=p) J) λu=> ?_
  by_cases N:Pj p=l
  .obtain rfl:o=some p:=r.symm.trans (d9 B uW uY N);exact ZA (Nq .neq 9 (.tmp 66) (.tmp 67) (E (Pj p)) (E l)) Zf (λf j h=>S5 (by simp[N]))<|sW false O<|H 1<|ZA (oF 108 9 (.slice y m yc)) (E p) (λf j h=>by subst x;exact KG (e:=5) O O O h.1)<|ZW (.tuple #[E p,I 0])
  .obtain rfl:o=none:=r.symm.trans (UI B uW (.inr N));exact ZA (Nq .neq 9 (.tmp 66) (.tmp 67) (E (Pj p)) (E l)) Zt (λf j h=>S5 (by simp[N]))<|ZI true<|ZW (.tuple #[.string ⟨#[]⟩,I 3])
end
def Ce(c:UInt8):R->R×R×Bool
 | []=>([],[],false)
 |b::l=>if b=c then([],l,true)else(b::(Ce c l).1,(Ce c l).2.1,(Ce c l).2.2)
theorem KO(c:UInt8):∀(l:R),CH l [c]=Ce c l
 | []=>rfl
 | b::l=>by
  have e:=KO c l;have p:=Lib.index_ge l [c];unfold CH at e ⊢;unfold Ce;rw[BU]
  by_cases a:b=c
  .subst a;simp
  .have o: [c].isPrefixOf (b::l)=false:=by
    simp only[List.isPrefixOf,Bool.and_true];exact YR.2 (Ne.symm a)
   rw[o,V a,<-e]
   by_cases m:BU l [c]= -1
   .rw[m];rfl
   .obtain⟨k,f⟩:∃k:Nat,BU l [c]=k:=⟨(BU l [c]).toNat,by omega⟩
    rw[f];have h:((k:Int)== -1)=false:=YR.2 J;rw[h];have j:((k:Int)+1).toNat=k+1:=J
    have g:(k:Int).toNat=k:=J
    simp only[BI,if_false,YS (show(0:Int)<=(k:Int)+1 by omega),YS (show(0:Int)<=(k:Int) by omega),j,g,BY,AL,CM]
theorem Jf(c:UInt8):∀{l:R},(Ce c l).2.2=true->Ke c l=(Ce c l).1::Ke c (Ce c l).2.1/\(Ce c l).1.length+(Ce c l).2.1.length+1=l.length
 | [],h=>by cases h
 | b::l,h=>by
  unfold Ce at h ⊢
  by_cases a:b=c
  .subst a;simp only[if_true];exact⟨IW,by simp⟩
  .simp only[V a]at h ⊢;have e:=Jf c (l:=l) h;refine⟨?_,by have:=e.2;simp only[AD];omega⟩;rw[Ke,V a,e.1]
theorem Jg(c:UInt8):∀{l:R},(Ce c l).2.2=false->Ke c l=[l]/\(Ce c l).1=l
 | [],_=>⟨rfl,rfl⟩
 | b::l,h=>by
  unfold Ce at h ⊢
  by_cases a:b=c
  .subst a;simp only[if_true]at h;cases h
  .simp only[V a]at h ⊢;have e:=Jg c (l:=l) h;rw[Ke,V a,e.1,e.2];exact⟨rfl,rfl⟩
theorem NO(c:UInt8):∀(n:Nat) (l:R),l.length<=n->Lib.splitK [c] 0 (Lib.count l [c]) l=Ke c l
 | n,l,g=>by
  have b:=KO c l;have m:=Lib.index_ge l [c];unfold CH at b
  by_cases j:BU l [c]= -1
  .rw[V J]at b;rw[Lib.count_miss j,(Jg c (l:=l) (by rw[<-b])).1]
   rfl
  .obtain⟨k,e⟩:∃k:Nat,BU l [c]=k:=⟨(BU l [c]).toNat,by omega⟩
   rw[YS J,e]at b;obtain⟨h,f⟩:=Jf c (l:=l) (by rw[<-b]);rw[<-b]at h f;simp only[BP,AL]at h f;have a:=Lib.count_hit (sub:=[c]) (s:=l) (i:=k) Zs e
   match n,g with
   |0,g=>omega
   |n+1,g=>
    rw[a,Nat.add_comm,Lib.splitK,V (by rw[e];simp),h,e];simp only[BP,CN,AL]at f ⊢;rw[NO c n (l.drop (k+1)) J]
theorem TD(c:UInt8)(l:List R):Lib.join l [c]=Oc c l:=by
 cases l with
 |nil=>rfl
 | cons x l=>
  rw[Lib.join_cons];induction l generalizing x with
  |nil=>simp[Lib.joinTail,Oc]
  |cons y l a=>
   show _=x++c::Oc c (y::l);rw[<-a y];simp[Lib.joinTail]
theorem PR(c:UInt8):∀(l:List R) (x:R),Oc c (l++ [x])=if l=[]then x else Oc c l++c::x
 | [],x=>rfl
 | [y],x=>rfl
 |y::z::l,x=>by
  have a:=PR c (z::l) x;rw[V Zs]at a ⊢;show y++c::Oc c ((z::l)++ [x])=(y++c::Oc c (z::l))++c::x;rw[a];simp
def Nm:List R->Nat
 | []=>0
 |x::l=>x.length+Nm l
theorem JT(c:UInt8):∀l:List R,(Oc c l).length<=Nm l+l.length
 | []=>AM _
 | [x]=>by simp[Oc,Nm]
 |x::y::l=>by
  have a:=JT c (y::l);show(x++c::Oc c (y::l)).length<=x.length+Nm (y::l)+_;simp only[AH,AD]at a ⊢;omega
theorem dA:∀l:List R,Nm (l.map Pj)<=3*Nm l+l.length
 | []=>AM _
 |x::l=>by
  have a:=dA l;have:=(dX x).2;simp only[List.map_cons,Nm,AD];omega
theorem Xh(l:List R):(M7 l).length<=3*Nm l+2*l.length:=by
 have a:=JT 32 (l.map Pj);have b:=dA l;unfold M7;rw[CG]at a;omega
theorem EJ:∀l:List R,(N0 l).length=Nm l+l.length
 | []=>rfl
 |x::l=>by
  have a:=EJ l;rw[bW];simp only[AH,AD,Nm];omega
theorem IS:∀(l:List R) (k:Nat),Nm (l.take k)<=Nm l
 | [],k=>by simp
 |x::l,0=>by simp[Nm]
 |x::l,k+1=>by
  have a:=IS l k;simp only[BY,Nm];omega
theorem HF:∀{l:List R} {x:R},x∈l->x.length<=Nm l
 |y::l,x,h=>by
  simp only[Nm];rcases CJ.1 h with rfl|h
  .omega
  .have:=HF h;omega
theorem bE(l:List R)(k:Nat):(M7 (l.take k)).length<=3*Nm l+2*l.length:=by
 have b:=Xh (l.take k);have e:=IS l k;have a:=List.length_take_le k l;have c:(l.take k).length<=l.length:=by rw[BT];omega
 omega
theorem LP(l:List R)(k:Nat):(N0 (l.take k)).length<=Nm l+l.length:=by
 have a:=EJ (l.take k);have c:=IS l k;have b:(l.take k).length<=l.length:=by rw[BT];omega
 omega
theorem Et{l:List R}{k:Nat}{x:R}(h:l[k]? =some x):l.take (k+1)=l.take k++ [x]:=by rw[BO,h];rfl
theorem H9(l:List R)(x:R):N0 (l++ [x])=N0 l++(x++ [10]):=by simp[N0]
def sv(l:List R):List YM:=l.map E
def Km(w:YN)(A:YY)(n:Nat)(ls:List R):Prop:=ls.length=n/\∀(k:Nat) (s:R),ls[k]? =some s->∃ad,A=some ad/\w.cell? (ad.add k)=some (E s)
theorem Km.below{w a:YN}{A:YY}{n:Nat}{ls:List R}(h:Km w A n ls)(e:Below w.heap.size w a):Km a A n ls:=
 ⟨h.1,λk s b=>by obtain⟨ad,c,f⟩:=h.2 k s b;exact⟨ad,c,La e f⟩⟩
theorem Y.strs{w:YN}{A:YY}{B n c:Nat}{e:YH}{ls:List R}(h:Y w B e 1 A n c (sv ls)):Km w A n ls:=by
 have j:ls.length=n:=by have:=h.len;simpa[sv]using this
 refine⟨j,λk s a=> ?_⟩;have l:=(AB.1 a).1;obtain⟨g,f,b⟩:=h.cells J;have:=b k (E s) (by simp[sv,a]);exact⟨_,f,by rw[Addr.add_mid,AY];exact this⟩
section
variable{w:YN}{A y:YY}{n c m yc:Nat}{ls p:List R}{l:R}{o:Option R}
theorem Sf{B:Nat}{a:Nat}{s:R}(j:Y w B 9 1 y m yc (sv p))(g:B<=w.heap.size)(h:Kr 9 #[E s] a w)(k:m<100000000):
 Pp XW w (bl y) (λz:YZ=> .slice z.1 (m+1) z.2) (λz v=>Y v B 9 1 z.1 (m+1) z.2 (sv (p++ [s]))) (Ln 53 53 (.slice y m yc) (Kd 1 a)):=by
 have f:=N4 (P:=XW) (s:=1) (z:= .string ⟨#[]⟩) (bytes:=16) (m:=1) (cc:=1) (t:=53) (elem:=9) O O rfl Zd j g (Mm (n:=1) h rfl) (by intro v b;simp at b;rcases b with rfl;rfl) J Zd;have e:sv (p++ [s])=sv p++ [E s]:=by simp[sv]
 rw[e];exact f
theorem Yv{B:Nat}{e:YH}{xs:List YM}(h:Y w B e 1 y n c xs):n<=c/\(0<n->∃g,y=some ⟨g,0,none⟩/\g<w.heap.size):=by
 rcases h.2 with ⟨a,r⟩|⟨g,cap,b,a,k,f,j,rest⟩
 .cases a;exact⟨AC _,λh=>J⟩
 .cases a;exact⟨by first|exact j|omega|exact rest.1,λ_=>⟨g,rfl,(AP.1 f).1⟩⟩
theorem gD{B:Nat}(h:Y w B 9 1 y n yc (sv p))(ve:(Oc 32 p).length<=100000000)(uS:n<=100000000):Zv 47 #[.slice y n yc,.string ⟨#[32]⟩] w (E (Oc 32 p)):=by
 have v:=h.strs;have f:=v.1;obtain⟨vf,C⟩:=Yv h
 by_cases vg:n=0
 .subst vg;obtain rfl:p=[]:=BC.1 f;refine(Tryz.strings_Join_none y yc ⟨#[32]⟩ w).mono λe G k=>⟨(),k.1,by rw[k.2];exact Below.refl _ _,λ_ _ _=>trivial⟩
 .obtain⟨g,rfl,F⟩:=C J;have a:(p.map λs=>(⟨s.toArray⟩:ByteArray)).map (λb=>b.data.toList)=p:=by simp[CS]
  have:=Tryz.strings_Join g 0 yc (p.map λs=>⟨s.toArray⟩) ⟨#[32]⟩ w (λj x t=>by
   rw[BQ]at t;obtain⟨s,D,rfl⟩:=AQ.1 t;obtain⟨ad,r,u⟩:=v.2 j s D;injection r with r;rw[<-r,Addr.add_mid]at u;exact u) F Zp Zp (by rw[a];show(Lib.join p [32]).length<=_;rw[TD];omega)
  rw[a,CG,f]at this;refine this.mono λe G k=>⟨(),?_,k.2,λ_ _ _=>trivial⟩
  rw[k.1];show Ending.returned (E (Lib.join p [32]))=_;rw[TD]
theorem oN(c:UInt8)(b:ML w)(k:l.length<=100000000):Zv 109 #[E l,.string ⟨#[c]⟩] w (.tuple #[E (Ce c l).1,E (Ce c l).2.1,.bool (Ce c l).2.2]):=by
 obtain⟨m,j⟩:=b;refine(Tryz.strings_Cut ⟨l.toArray⟩ ⟨#[c]⟩ m w (show l.length<_ by omega) j).mono λe r h=> ?_
 obtain⟨g,n,f⟩:=h;refine⟨(),?_,by rw[f];exact Mt (Below.refl _ _) n,λ_ _ _=>trivial⟩;have a:=KO c l;rw[g];show Ending.returned (Value.tuple #[E (CH l [c]).1,E (CH l [c]).2.1,.bool (CH l [c]).2.2])=_;rw[a]
theorem rC(a:l.length<=100000000):Zv 27 #[E l,.string ⟨#[10]⟩] w (.tuple #[E (Lib.trimSuffix l [10]),.bool (CK l [10])]):=
 (Tryz.strings_CutSuffix ⟨l.toArray⟩ ⟨#[10]⟩ w (show l.length<=_ by omega)).mono λe b h=>⟨(),h.1,by rw[h.2];exact Below.refl _ _,λ_ _ _=>trivial⟩
theorem df(c:UInt8)(B:ML w)(vf:l.length<=100000000):YG XW 28 #[E l,.string ⟨#[c]⟩] w (K6 w (λy:Nat=> .slice (some ⟨y,0,none⟩) (Ke c l).length (Ke c l).length) λy u=>Km u (some ⟨y,0,none⟩) (Ke c l).length (Ke c l)):=by
 obtain⟨m,vg⟩:=B;refine(Tryz.strings_Split ⟨l.toArray⟩ ⟨#[c]⟩ m w (show l.length<_ by omega) vg (show 1<=1 from AC 1)).mono λe uS h=> ?_
 obtain⟨D,v⟩:=h;have g:=Lib.splitB_data ⟨#[c]⟩ 0 (Lib.countB ⟨l.toArray⟩ ⟨#[c]⟩) ⟨l.toArray⟩;have j:Lib.splitK [c] 0 (Lib.count l [c]) l=Ke c l:=NO c _ l (AC _);have a:(Lib.splitB ⟨#[c]⟩ 0 (Lib.countB ⟨l.toArray⟩ ⟨#[c]⟩) ⟨l.toArray⟩).map (·.data.toList)=Ke c l:=g.trans j
 have f:(Ke c l).length=Lib.countB ⟨l.toArray⟩ ⟨#[c]⟩+1:=by
  rw[<-a,CG];exact Lib.splitB_all ⟨#[c]⟩ (show 1<=1 from AC 1) 0 _ _ rfl
 refine⟨w.heap.size,by rw[D,f],by rw[v];exact Xk _ _,λF x r=>⟨rfl,λk s t=>⟨_,rfl,?_⟩⟩⟩;rw[v]at x r;obtain⟨C,_⟩:=Y6 w _ x r;rw[<-a,BQ]at t;obtain⟨b,G,rfl⟩:=AQ.1 t;rw[Addr.add_mid,AY];simp only[CA,C,CB,BI,if_false];simp[G,E]
theorem C5(B:Km w A n ls)(Q:ls.length<=2000000)(S:Nm ls<=2000000):Zv 19 #[.slice A n c] w (E (M7 ls)):=by
 have t:=B.1;have vf:=Xh ls;refine sL func19 rfl<|M<|sU (ι:={q:Nat×(YZ) // q.1<=n}) 20 (λq=>⟨[(0,.v (.slice A n c)),(3,.v (.slice q.1.2.1 q.1.1 q.1.2.2)),(6,.v (.slice A n c)),(7,.v (I n)),(8,.v (I q.1.1))],[]⟩) (λq u=>Y u w.heap.size 9 1 q.1.2.1 q.1.1 q.1.2.2 (sv ((ls.take q.1.1).map Pj))) (λq=>n-q.1.1) (⟨(0,none,0),AM _⟩) O (λ_=>O) zt (λu h=>s_) ?_
 rintro⟨⟨m,y,yc⟩,uS⟩ uY;have F:m<=n:=uS
 by_cases k:m<n
 .refine M<|X (decide ((m:Int)<(n:Int))) true Zp ?_
  obtain⟨s,g⟩:∃s,ls[m]? =some s:=⟨_,AA (by rw[t];exact k)⟩
  obtain⟨ad,uR,f⟩:=B.2 m s g;have K:=HF (AZ g);obtain⟨p,x⟩:∃p,p=(ls.take m).map Pj:=⟨_,rfl⟩
  have r:(ls.take (m+1)).map Pj=p++ [Pj s]:=by rw[Et g,CR,x];rfl
  refine ZA (Ki 53 (.slice A n c) m) (.pointer (some (ad.add m))) (λa j h=>by rw[uR];exact Kg (elem:=9) O O k)<|ZA (L4 9 (ad.add m)) (E s) (λa j h=>K9 O (La j f))<|ZD 3 (λa j h=>mN (l:=s) J) λu=>sO (Kw 53 1 #[(0,E (Pj s))]) (Kd 1) (Kr 9 #[E (Pj s)]) O (λa j h=>Kb O) λD=>H 4<|sY (L:=bl y) (val:=λ(z:YZ)=> .slice z.1 (m+1) z.2) (Φ':=λ(z:YZ) v=>Y v w.heap.size 9 1 z.1 (m+1) z.2 (sv (p++ [Pj s]))) (G:=λ(z:YZ) v=>Y v w.heap.size 9 1 z.1 (m+1) z.2 (sv (p++ [Pj s]))) (Ln 53 53 (.slice y m yc) (Kd 1 D)) (λa j h=>by have vg:Y a w.heap.size 9 1 y m yc (sv p):=by{rw[x];exact h.1.1};exact Sf vg j.size h.2 (show m<100000000 from by omega)) (λa h=>λb C=>⟨((show Y a w.heap.size 9 1 y m yc (sv ((ls.take m).map Pj))from h.1.1).lt b C).1,((show Y a w.heap.size 9 1 y m yc (sv ((ls.take m).map Pj))from h.1.1).blk b C).2⟩) (λz P a N uZ h ve=>ve) O O λz=>M<|sS 8 k J O<|sR (⟨(m+1,z),by show m+1<=n;omega⟩) O zo zt (λ_ h=>by show Y _ _ _ _ _ _ _ (sv ((ls.take (m+1)).map Pj));rw[r];exact h)
 .refine M<|X (decide ((m:Int)<(n:Int))) false Zp ?_
  obtain rfl:m=n:=J
  have e:ls.take m=ls:=AJ J;exact sN O<|M<|Z (λa j h=>gD (p:=ls.map Pj) (by rw[<-e];exact h) (by show(M7 ls).length<=_;omega) (show m<=100000000 from by omega)) λu=>ZW (E (Oc 32 (ls.map Pj)))
theorem Fx(B:Km w A n ls)(G:ls.length<=2000000)(ve:Nm ls<=2000000):Zv 38 #[.slice A n c] w (E (M7 ls)):=by
 have x:=B.1;refine sL func38 rfl<|M<|sU (ι:={q:Nat // q<=n}) 23 (λq=>⟨[(0,.v (.slice A n c)),(3,.v (E (M7 (ls.take q.1)))),(4,.v (I q.1))],[]⟩) (λq u=>True) (λq=>n-q.1) (⟨0,AM _⟩) O (λ_=>O) zt (λu h=>trivial) ?_
 rintro⟨m,uS⟩ vf
 by_cases f:m<n
 .refine M<|X (decide ((m:Int)<(n:Int))) true Zp ?_
  obtain⟨s,b⟩:∃s,ls[m]? =some s:=⟨_,AA (by rw[x];exact f)⟩
  obtain⟨ad,C,a⟩:=B.2 m s b;have F:=HF (AZ b);have vg:=bE ls m;have D:=(dX s).2;have j:M7 (ls.take (m+1))=if m=0 then Pj s else M7 (ls.take m)++32::Pj s:=by
   unfold M7;rw[Et b,CR,List.map_singleton,PR]
   by_cases t:m=0
   .subst t;simp
   .rw[V (by simp;exact⟨t,λe=>by rw[e]at b;cases b⟩),V t]
  by_cases t:m=0
  .subst t;rw[YS rfl]at j;refine X (decide (((0:Nat):Int)>0)) false Zs<|ZA (Ki 53 (.slice A n c) (0:Nat)) (.pointer (some (ad.add 0))) (λk g h=>by rw[C];exact Kg (elem:=9) O O f)<|ZA (L4 9 (ad.add 0)) (E s) (λk g h=>K9 O (La g a))<|ZD 6 (λk g h=>Ko (l:=s) J) λu=>ZA (Nq .add 9 (.tmp 15) (.tmp 20) (E (M7 (ls.take 0))) (E (Pj s))) (E (M7 (ls.take (0+1)))) (λk g h=>by rw[M6 (by simp[M7,Oc];omega),j];simp[M7,Oc])<|sM 4 (I (YA.wrap (((0:Nat):Int)+1))) (I ((0+1:Nat):Int)) O (by rw[Kc f J])<|sR (⟨0+1,by show 0+1<=n;omega⟩) O zo zt (λ_ h=>trivial)
  .rw[V t]at j;refine sQ (decide ((m:Int)>0)) true O Zp<|H 1<|ZA (Nq .add 9 (.tmp 13) (.const (.string ⟨#[32]⟩)) (E (M7 (ls.take m))) (E [32])) (E (M7 (ls.take m)++ [32])) (λk g h=>M6 Zp)<|ZA (Ki 53 (.slice A n c) m) (.pointer (some (ad.add m))) (λk g h=>by rw[C];exact Kg (elem:=9) O O f)<|ZA (L4 9 (ad.add m)) (E s) (λk g h=>K9 O (La g a))<|ZD 6 (λk g h=>Ko (l:=s) J) λu=>ZA (Nq .add 9 (.tmp 15) (.tmp 20) (E (M7 (ls.take m)++ [32])) (E (Pj s))) (E (M7 (ls.take (m+1)))) (λk g h=>by rw[M6 Zp,j];simp)<|sS 4 f J O<|sR (⟨m+1,by show m+1<=n;omega⟩) O zo zt (λ_ h=>trivial)
 .refine M<|X (decide ((m:Int)<(n:Int))) false Zp ?_
  have r:ls.take m=ls:=AJ J;exact sN O<|M<|ZX (E (M7 (ls.take m))) (by rw[r])
theorem WA(x:Km w A n ls)(D:ls.length<=5000000)(G:Nm ls<=90000000):Zv 23 #[.slice A n c] w (E (N0 ls)):=by
 have t:=x.1;refine sL func23 rfl<|H 0<|s0 O (stop:=1000) 1 _<|H 0<|sO (Cx 116) X0 (λg u=>MG w g [] u) O (λk b h=>S_ b.size) λg=>M<|sU (ι:={q:Nat // q<=n}) 17 (λq=>⟨[(0,.v (.slice A n c)),(3,.v (X0 g)),(6,.v (.slice A n c)),(7,.v (I n)),(8,.v (I q.1))],[]⟩) (λq u=>MG w g (N0 (ls.take q.1)) u) (λq=>n-q.1) (⟨0,AM _⟩) O (λ_=>O) zt (λu h=>h.2) ?_
 rintro⟨m,vg⟩ F
 by_cases j:m<n
 .refine M<|X (decide ((m:Int)<(n:Int))) true Zp ?_
  obtain⟨s,a⟩:∃s,ls[m]? =some s:=⟨_,AA (by rw[t];exact j)⟩
  obtain⟨ad,C,f⟩:=x.2 m s a;have B:=HF (AZ a);have r:=LP ls (m+1);rw[Et a,H9,AH,AH,AL]at r;refine ZA (Ki 53 (.slice A n c) m) (.pointer (some (ad.add m))) (λk b h=>by rw[C];exact Kg (elem:=9) O O j)<|sV (L4 9 (ad.add m)) (E s) O (λk b h=>K9 O (La b f))<|H 0<|s0 O (stop:=1000) 1 _<|H 1<|ZA (Nq .add 9 (.tmp 12) (.const (.string ⟨#[10]⟩)) (E s) (E [10])) (E (s++ [10])) (λk b h=>M6 Zp)<|tE (val:=λ_=> .tuple #[I (s++ [10]).length,.nilIface]) (Φ':=λ(_:Unit) u=>MG w g (N0 (ls.take m)++(s++ [10])) u) (λk b h=>oU (l:=s++ [10]) b h (by show(N0 (ls.take m)).length+_<=_;simp only[AH,AL];omega)) O O O λ_=>M<|sS 8 j J O<|sR (⟨m+1,by show m+1<=n;omega⟩) O zo zt (λ_ h=>by show MG w g (N0 (ls.take (m+1))) _;rw[Et a,H9];exact h)
 .refine M<|X (decide ((m:Int)<(n:Int))) false Zp ?_
  have e:ls.take m=ls:=AJ J;exact sN O<|M<|tE (val:=λ_=>E (N0 ls)) (Φ':=λ(_:Unit) u=>True) (λk b h=>i2 b (by rw[<-e];exact h)) O O O λ_=>M<|ZW (E (N0 ls))
end
def MF(c:Ob):Option Ob:=match c.foc with
 | .code (.scope x)=>match c.k with
  | []=>some ⟨.code x,[],c.st⟩
  |_=>none
 |_=>none
def dR(c:Ob):Ob:=(MF c).getD c
theorem uq{P:YK}{Δ:List YI}{W:YN}{g:Func}{uY:YC->YN->Prop}{Φ:YW}{c:Ob}(b:(MF c).isSome=true)(h:K0 P Δ W (bodyPost P g uY) Φ (dR c)):K0 P Δ W (bodyPost P g uY) Φ c:=by
 obtain⟨m,k,σ⟩:=c;unfold dR at h;unfold MF at b h;simp only at b h;split at b
 .rename_i x;split at b
  .replace h:=h.get;refine⟨λf β a w l=>wp_scope_straight (wp_mono (h f β a w l) λe a w j=> ?_)⟩;cases e<;>first|exact j|exact j.elim
  .cases b
 .cases b
section
variable{w:YN}{l:R}{o:Option R}
theorem m9{P:YK}{t:YH}{i:Nat}(a:P.underlying t=some .string)(h:i<=l.length):(Y3 t (E l) i).run P w= .ok (.value (E (l.drop i))) w:=by
 have:=run_slice_string_l (P:=P) w t ⟨l.toArray⟩ a .i64 i J (by show(i:Int)<=(l.length:Int);omega);simp only[Y3,E,AI,If a,this,AG,AN,BP];have e:(⟨l.toArray⟩:ByteArray).extract i (⟨l.toArray⟩:ByteArray).size=⟨(l.drop i).toArray⟩:=by
  apply ByteArray.ext;simp[ByteArray.data_extract,ByteArray.size,AJ]
 rw[e]
theorem qp(h:Tx l=none)(a:l.length<=90000000):Zv 110 #[E l] w (.tuple #[E [],I 3]):=NE h a
theorem rh{s:R}(h:Tx l=some s)(a:l.length<=90000000):Zv 110 #[E l] w (.tuple #[E s,I 0]):=NE h a
theorem pk(h:Tx l=none)(a:l.length<=10000):Zv 72 #[E l] w (.tuple #[E [],I 3]):=KN h a
theorem pK{s:R}(h:Tx l=some s)(a:l.length<=10000):Zv 72 #[E l] w (.tuple #[E s,I 0]):=KN h a
theorem pU{c:UInt8}{x r:R}{b:Bool}(h:Ce c l=(x,r,b))(a:ML w)(e:l.length<=100000000):Zv 109 #[E l,.string ⟨#[c]⟩] w (.tuple #[E x,E r,.bool b]):=by
 have:=oN (w:=w) (l:=l) c a e;rw[h]at this;exact this
theorem Bh{x:R}{t:List R}:Rq (x::t)=((Tx x).isSome&&Rq t):=rfl
theorem D7{x s:R}{t:List R}(h:Tx x=some s):Al (x::t)=s::Al t:=by rw[Al,h]
theorem FH{x:R}{t:List R}(h:Tx x=none):Al (x::t)=[]:=by rw[Al,h]
def rk(B:Bool)(ps:List R)(y:YZ):YM:=match B with
 |true=> .tuple #[.slice y.1 ps.length y.2,.int .i64 0,.int .i64 0]
 |false=> .tuple #[.slice none 0 0,.int .i64 ps.length,.int .i64 3]
def rz(B:Bool)(ps:List R)(y:YZ)(u:YN):Prop:=match B with
 |true=>Km u y.1 ps.length ps/\ps.length<=y.2
 |false=>True
theorem Zx(c:UInt8):∀(l:R),∀x∈Ke c l,x.length<=l.length
 | [],x,h=>by simp[Ke]at h;subst h;exact AC _
 | b::l,x,h=>by
  have a:=Zx c l;rw[Ke]at h;split at h
  .rcases CJ.1 h with rfl|h
   .simp
   .have:=a x h;simp only[AD];omega
  .cases e:Ke c l with
   |nil=>exact absurd e (Uw c l)
   |cons y t=>
    rw[e]at h a;rcases CJ.1 h with rfl|h
    .have:=a y Zs;simp only[AD];omega
    .have:=a x (by simp[h]);simp only[AD];omega
theorem Eu:Km w none 0 []:=⟨rfl,λk s h=>by simp at h⟩
theorem Z7{B:Bool}{ps:List R}(W:ML w)(uR:Rq (Kt l)=B)(k:Al (Kt l)=ps)(hl:l.length<=10000000):YG XW 59 #[E l] w (K6 w (λy:YZ=>rk B ps y) λy u=>rz B ps y u):=by
 by_cases uZ:l=[]
 .subst uZ;obtain rfl:B=true:=by rw[<-uR];rfl
  obtain rfl:ps=[]:=by rw[<-k];rfl
  refine sL func59 rfl<|M<|uq O<|M<|sU (ι:=Unit) 39 (λ_=>⟨[(0,.v (E [])),(5,.v (.slice none 0 0))],[]⟩) (λ_ _=>True) (λ_=>0) () O (λ_=>O) zt (λ_ _=>trivial) ?_
  rintro⟨⟩ g;refine H 1<|ZA (Nq .neq 9 (.tmp 13) (.const (.string ⟨#[]⟩)) (E []) (E [])) Zf (λf e h=>S5 Zs)<|ZI false<|sN O<|M<|ZV (.tuple #[.slice none 0 0,I 0,I 0]) (λf e h=>⟨(none,0),rfl,e,λ_ _ _=>⟨Eu,AC _⟩⟩)
 have N:Kt l=Ke 32 l:=V uZ;rw[N]at uR k;refine sL func59 rfl<|M<|uq O<|M<|sU (ι:={q:(R×Nat×List R)×(YZ) // q.1.2.1+q.1.1.length<=l.length/\Al (Ke 32 l)=q.1.2.2++Al (Ke 32 q.1.1)/\Rq (Ke 32 l)=Rq (Ke 32 q.1.1)/\q.1.2.2.length=q.1.2.1}) 39 (λq=>⟨[(0,.v (E l)),(5,.v (.slice q.1.2.1 q.1.1.2.1 q.1.2.2)),(6,.v (E q.1.1.1))],[]⟩) (λq u=>Y u w.heap.size 9 1 q.1.2.1 q.1.1.2.1 q.1.2.2 (sv q.1.1.2.2)) (λq=>q.1.1.1.length) (⟨((l,0,[]),(none,0)),by simp,by simp,rfl,rfl⟩) O (λ_=>O) zt (λu h=>s_) ?_
 rintro⟨⟨⟨r,m,p⟩,y,yc⟩,K⟩ g;have hk1:m+r.length<=l.length:=K.1;have C:Al (Ke 32 l)=p++Al (Ke 32 r):=K.2.1;have D:Rq (Ke 32 l)=Rq (Ke 32 r):=K.2.2.1;have F:p.length=m:=K.2.2.2;obtain⟨x,j,b,a⟩:∃x j b,Ce 32 r=(x,j,b):=⟨_,_,_,rfl⟩
 have hxl:x.length<=r.length:=by
  cases b
  .have c:=Jg 32 (l:=r) (by rw[a]);rw[a]at c;have ve:x=r:=c.2;rw[ve];exact AC _
  .have c:=Jf 32 (l:=r) (by rw[a]);rw[a]at c;have ve:x.length+j.length+1=r.length:=c.2;omega
 have P:∃t,Ke 32 r=x::t:=by
  cases b
  .have c:=Jg 32 (l:=r) (by rw[a]);rw[a]at c;have ve:x=r:=c.2;exact⟨[],by rw[c.1,ve]⟩
  .have c:=Jf 32 (l:=r) (by rw[a]);rw[a]at c;exact⟨_,c.1⟩
 refine H 1<|ZA (Nq .neq 9 (.tmp 13) (.const (.string ⟨#[]⟩)) (E l) (E [])) Zt (λf e h=>S5 (by simpa using uZ))<|ZI true<|Z (λf e h=>pU a (W.below e) (show r.length<=_ from by omega)) λu=> ?_
 cases A:Tx x with
 |none=>
  obtain⟨t,S⟩:=P;obtain rfl:B=false:=by rw[<-uR,D,S,Bh,A];rfl
  obtain rfl:ps=p:=by rw[<-k,C,S,FH A,BD]
  refine Z (λf e h=>qp A J) λu=>ZI true<|sN O<|M<|ZV (.tuple #[.slice none 0 0,I m,I 3]) (λf e h=>⟨(none,0),by rw[<-F];rfl,e,λ_ _ _=>trivial⟩)
 | some s=>
  refine Z (λf e h=>rh A J) λu=>sW false O<|H 2<|sO (Kw 53 1 #[(0,E s)]) (Kd 1) (Kr 9 #[E s]) O (λf e h=>Kb O) λuW=>H 3<|sY (L:=bl y) (val:=λ(z:YZ)=> .slice z.1 (m+1) z.2) (Φ':=λ(z:YZ) v=>Y v w.heap.size 9 1 z.1 (m+1) z.2 (sv (p++ [s]))) (G:=λ(z:YZ) v=>Y v w.heap.size 9 1 z.1 (m+1) z.2 (sv (p++ [s]))) (Ln 53 53 (.slice y m yc) (Kd 1 uW)) (λf e h=>by have uV:Y f w.heap.size 9 1 y m yc (sv p):=h.1.1.1;exact Sf uV e.size h.2 (show m<100000000 from by omega)) (λf h=>λb T=>⟨((show Y f w.heap.size 9 1 y m yc (sv p)from h.1.1.1).lt b T).1,((show Y f w.heap.size 9 1 y m yc (sv p)from h.1.1.1).blk b T).2⟩) (λz wa f e1 e2 h hG=>hG) O O λz=>M ?_
  cases b
  .have c:=Jg 32 (l:=r) (by rw[a]);rw[a]at c;have hx:x=r:=c.2;have uS:Ke 32 r=[x]:=by rw[c.1,hx]
   obtain rfl:B=true:=by rw[<-uR,D,uS,Bh,A];rfl
   obtain rfl:ps=p++ [s]:=by rw[<-k,C,uS,D7 A];rfl
   refine ZI true<|sN O<|M<|ZV (.tuple #[.slice z.1 (m+1) z.2,I 0,I 0]) (λf e h=>⟨z,by show _=Ending.returned (Value.tuple #[.slice z.1 (p++ [s]).length z.2,I 0,I 0]);rw[AH,F];rfl,e,λvg uX uU=>by have Q:Y vg w.heap.size 9 1 z.1 (m+1) z.2 (sv (p++ [s])):=h vg uX uU;have uY:=Q.strs;have uT:=(Yv Q).1;show Km vg z.1 (p++ [s]).length (p++ [s])/\(p++ [s]).length<=z.2;rw[uY.1];exact⟨uY,uT⟩⟩)
  .have c:=Jf 32 (l:=r) (by rw[a]);rw[a]at c;have vf:Ke 32 r=x::Ke 32 j:=c.1;have h1b:x.length+j.length+1=r.length:=c.2;refine ZI false<|sR (⟨((j,m+1,p++ [s]),z),by show m+1+j.length<=l.length;omega,by show _=(p++ [s])++Al (Ke 32 j);rw[C,vf,D7 A];simp,by show _=Rq (Ke 32 j);rw[D,vf,Bh,A];rfl,by simp[F]⟩) O zo zt (λ_ h=>h)
theorem rL(b:ML w)(a:Rq (Kt l)=true)(c:l.length<=10000000):YG XW 59 #[E l] w (K6 w (λy:YZ=> .tuple #[.slice y.1 (Al (Kt l)).length y.2,I 0,I 0]) λy u=>Km u y.1 (Al (Kt l)).length (Al (Kt l))):=(Z7 b a rfl c).mono λe f k=>k.cast λy u h=>(show _/\_ from h).1
theorem rK(b:ML w)(a:Rq (Kt l)=false)(c:l.length<=10000000):YG XW 59 #[E l] w (K6 w (λ_:YZ=> .tuple #[.slice none 0 0,I (Al (Kt l)).length,I 3]) λ_ _=>True):=Z7 b a rfl c
theorem bh(c:UInt8)(hl:l.length<=20000):YG XW 31 #[E l,.int .u8 c.toNat] w (K6 w (λy:YZ=> .slice y.1 (Ke c l).length y.2) λy u=>Y u 0 9 1 y.1 (Ke c l).length y.2 (sv (Ke c l))):=by
 refine sL func31 rfl<|M<|sU (ι:={q:(Nat×Nat×Nat×List R)×(YZ) // q.1.1<=l.length/\q.1.2.1<=q.1.1/\q.1.2.2.2.length=q.1.2.2.1/\q.1.2.2.1<=q.1.1/\Ke c l=q.1.2.2.2++Ke c (l.drop q.1.2.1)/\∀j,q.1.2.1<=j->j<q.1.1->l[j]? ≠some c}) 34 (λq=>⟨[(0,.v (E l)),(1,.v (.int .u8 c.toNat)),(5,.v (.slice q.1.2.1 q.1.1.2.2.1 q.1.2.2)),(6,.v (I q.1.1.2.1)),(7,.v (I q.1.1.1))],[]⟩) (λq u=>Y u w.heap.size 9 1 q.1.2.1 q.1.1.2.2.1 q.1.2.2 (sv q.1.1.2.2.2)) (λq=>l.length-q.1.1.1) (⟨((0,0,0,[]),(none,0)),by simp,AC _,rfl,AC _,by simp,λj D vg=>by simp at vg⟩) O (λ_=>O) zt (λu h=>s_) ?_
 rintro⟨⟨⟨i,at_,m,p⟩,y,yc⟩,C⟩ g;have N:i<=l.length:=C.1;have uS:at_<=i:=C.2.1;have r:p.length=m:=C.2.2.1;have uT:m<=i:=C.2.2.2.1;have B:Ke c l=p++Ke c (l.drop at_):=C.2.2.2.2.1;have ve:∀j,at_<=j->j<i->l[j]? ≠some c:=C.2.2.2.2.2;have A:c∉(l.take i).drop at_:=λuV=>by
  obtain⟨j,W,e⟩:=List.getElem_of_mem uV;have T:j<i-at_:=by simp only[CE,BT]at W;omega
  refine ve (at_+j) J J ?_;rw[<-e,List.getElem_drop,List.getElem_take];exact AA J
 by_cases t:i<l.length
 .refine M<|sQ (decide ((i:Int)<(l.length:Int))) true O Zp<|H 2 ?_
  obtain⟨b,s⟩:∃b,l[i]? =some b:=⟨_,AA t⟩
  refine ZA (D0 9 (E l) i) (.int .u8 b.toNat) (λa k h=>Mc O s) ?_
  by_cases x:b=c
  .subst x;have f:Ke b (l.drop at_)=(l.take i).drop at_::Ke b (l.drop (i+1)):=by
    have e:l.drop at_=(l.take i).drop at_++b::l.drop (i+1):=by
     have D:l=l.take i++(b::l.drop (i+1)):=by rw[<-S9 s];exact(List.take_append_drop i l).symm
     conv=>lhs;rw[D]
     rw[BX Zp]
    rw[e,Dd _ A]
   refine sQ (((b.toNat:Int)==(b.toNat:Int))) true O Zs<|H 4<|sV (RM 9 (E l) .i64 at_ i) (E ((l.take i).drop at_)) O (λa k h=>GQ O uS N)<|H 5<|sO (Kw 53 1 #[(0,E ((l.take i).drop at_))]) (Kd 1) (Kr 9 #[E ((l.take i).drop at_)]) O (λa k h=>Kb O) λK=>H 6<|sY (L:=bl y) (val:=λ(z:YZ)=> .slice z.1 (m+1) z.2) (Φ':=λ(z:YZ) v=>Y v w.heap.size 9 1 z.1 (m+1) z.2 (sv (p++ [(l.take i).drop at_]))) (G:=λ(z:YZ) v=>Y v w.heap.size 9 1 z.1 (m+1) z.2 (sv (p++ [(l.take i).drop at_]))) (Ln 53 53 (.slice y m yc) (Kd 1 K)) (λa k h=>by have uR:Y a w.heap.size 9 1 y m yc (sv p):=h.1;exact Sf uR k.size h.2 (show m<100000000 from by omega)) (λa h=>λb s=>⟨((show Y a w.heap.size 9 1 y m yc (sv p)from h.1).lt b s).1,((show Y a w.heap.size 9 1 y m yc (sv p)from h.1).blk b s).2⟩) (λz uX a uY S h uZ=>uZ) O O λz=>M<|sS 6 t J O<|sS 7 t J O<|sR (⟨((i+1,i+1,m+1,p++ [(l.take i).drop at_]),z),by show i+1<=l.length;omega,AC _,by simp[r],by show m+1<=i+1;omega,by show _=(p++ [(l.take i).drop at_])++Ke b (l.drop (i+1));rw[B,f];simp,λj D vg=>by have F:i+1<=j:=D;have P:j<i+1:=vg;omega⟩) O zo zt (λ_ h=>h)
  .refine X (((b.toNat:Int)==(c.toNat:Int))) false (by rw[YR];intro e;exact x (AR.1 J))<|sS 7 t J O<|sR (⟨((i+1,at_,m,p),(y,yc)),by show i+1<=l.length;omega,by show at_<=i+1;omega,r,by show m<=i+1;omega,B,λj D vg=>by have F:at_<=j:=D;have P:j<i+1:=vg;by_cases e:j=i;rw[e,s];simpa using x;exact ve j F J⟩) O zo zt (λ_ h=>h)
 .obtain rfl:i=l.length:=J
  have f:Ke c l=p++ [l.drop at_]:=by
   rw[List.take_length]at A;rw[B,Dc A]
  refine M<|X (decide ((l.length:Int)<(l.length:Int))) false Zs<|sN O<|H 3<|sV (Y3 9 (E l) at_) (E (l.drop at_)) O (λa k h=>m9 O uS)<|H 4<|sO (Kw 53 1 #[(0,E (l.drop at_))]) (Kd 1) (Kr 9 #[E (l.drop at_)]) O (λa k h=>Kb O) λK=>H 5<|sY (L:=bl y) (val:=λ(z:YZ)=> .slice z.1 (m+1) z.2) (Φ':=λ(z:YZ) v=>Y v w.heap.size 9 1 z.1 (m+1) z.2 (sv (p++ [l.drop at_]))) (G:=λ(z:YZ) v=>Y v w.heap.size 9 1 z.1 (m+1) z.2 (sv (p++ [l.drop at_]))) (Ln 53 53 (.slice y m yc) (Kd 1 K)) (λa k h=>by have uR:Y a w.heap.size 9 1 y m yc (sv p):=h.1;exact Sf uR k.size h.2 (show m<100000000 from by omega)) (λa h=>λb s=>⟨((show Y a w.heap.size 9 1 y m yc (sv p)from h.1).lt b s).1,((show Y a w.heap.size 9 1 y m yc (sv p)from h.1).blk b s).2⟩) (λz uX a uY S h uZ=>uZ) O O λz=>M<|ZV (.slice z.1 (m+1) z.2) (λa k h=>⟨z,by rw[f,AH,r];rfl,k,λvf uW Q=>by have uU:Y vf w.heap.size 9 1 z.1 (m+1) z.2 (sv (p++ [l.drop at_])):=h vf uW Q;have e:(Ke c l).length=m+1:=by{rw[f,AH,r];rfl};rw[e,f];exact uU.rebase λ_ _=>AM _⟩)
theorem pf{B:Nat}(c:UInt8)(D:l.length<=20000)(G:B<=w.heap.size):YG XW 31 #[E l,.int .u8 c.toNat] w (K6 w (λo:(YZ)×Nat=> .slice o.1.1 (Ke c l).length o.1.2) λo u=>Y u 0 9 1 o.1.1 (Ke c l).length o.1.2 (sv (Ke c l))/\(∀b∈bl o.1.1,b<o.2)/\B<=o.2/\o.2<=u.heap.size):=
 (bh c D).mono λe F k=>by
  obtain⟨q,C,v,x⟩:=K6.fresh k (λy=>bl y.1) (λy u h b j=>(h.blk b j).2);refine⟨q,C,v,λa t r=> ?_⟩;obtain⟨m,p,s⟩:=x a t r;have f:0<(Ke c l).length:=CL.2 (Uw c l);obtain⟨g,A,_⟩:=(Yv m).2 f;have vg:=p g (by show g∈bl q.1.1;rw[A];simp[bl]);exact⟨m,λb j=>(p b j).2,by omega,s⟩
theorem Di{B:Bool}{ps:List R}(vf:Rq (Kt l)=B)(j:Al (Kt l)=ps)(hl:l.length<=10000):YG XW 32 #[E l] w (K6 w (λy:YZ=>rk B ps y) λy u=>rz B ps y u):=by
 by_cases P:l=[]
 .subst P;obtain rfl:B=true:=by rw[<-vf];rfl
  obtain rfl:ps=[]:=by rw[<-j];rfl
  refine sL func32 rfl<|H 1<|s0 O (stop:=1000) 2 _<|H 1<|ZA (Nq .eql 9 (.tmp 10) (.const (.string ⟨#[]⟩)) (E []) (E [])) Zt (λc e h=>Kj Zs)<|ZI true<|ZV (.tuple #[.slice none 0 0,I 0,I 0]) (λc e h=>⟨(none,0),rfl,e,λ_ _ _=>⟨Eu,AC _⟩⟩)
 have uZ:Kt l=Ke 32 l:=V P;rw[uZ]at vf j;obtain⟨ws,A⟩:∃ws,ws=Ke 32 l:=⟨_,rfl⟩
 have hwl:ws.length<=l.length+1:=by rw[A,Rr];have:=BW (a:=(32:UInt8)) (l:=l);omega
 have uS:∀x∈ws,x.length<=l.length:=by rw[A];exact Zx 32 l
 refine sL func32 rfl<|H 1<|s0 O (stop:=1000) 2 _<|H 1<|ZA (Nq .eql 9 (.tmp 10) (.const (.string ⟨#[]⟩)) (E l) (E [])) Zf (λc e h=>Kj (by simpa using P))<|ZI false<|tf (λc e h=>pf (l:=l) (B:=w.heap.size) 32 J e.size) O (λf=> ?_)
 obtain⟨f,N⟩:=f;rw[<-A]at vf j ⊢;refine M<|sU (ι:={q:(Nat×List R)×(YZ) // q.1.1<=ws.length/\Al ws=q.1.2++Al (ws.drop q.1.1)/\Rq ws=Rq (ws.drop q.1.1)/\q.1.2.length=q.1.1}) 37 (λq=>⟨[(0,.v (E l)),(5,.v (.slice f.1 ws.length f.2)),(6,.v (.slice q.1.2.1 q.1.1.1 q.1.2.2)),(7,.v (I q.1.1.1))],[]⟩) (λq u=>(Y u 0 9 1 f.1 ws.length f.2 (sv ws)/\(∀b∈bl f.1,b<N)/\w.heap.size<=N/\N<=u.heap.size)/\Y u N 9 1 q.1.2.1 q.1.1.1 q.1.2.2 (sv q.1.1.2)) (λq=>ws.length-q.1.1.1) (⟨((0,[]),(none,0)),AM _,by simp,by simp,rfl⟩) O (λ_=>O) zt (λu h=>⟨h.2,s_⟩) ?_
 rintro⟨⟨⟨m,p⟩,y,yc⟩,ve⟩ g;have hk1:m<=ws.length:=ve.1;have k:Al ws=p++Al (ws.drop m):=ve.2.1;have r:Rq ws=Rq (ws.drop m):=ve.2.2.1;have t:p.length=m:=ve.2.2.2
 by_cases F:m<ws.length
 .obtain⟨x,uY⟩:∃x,ws[m]? =some x:=⟨_,AA F⟩
  have hxl:=uS x (AZ uY);have vg:ws.drop m=x::ws.drop (m+1):=by
   obtain⟨uU,T⟩:=AB.1 uY;rw[AW uU,T]
  rw[vg]at k r;refine M<|X (decide ((m:Int)<(ws.length:Int))) true Zp<|s7 (p:=∃ad,f.1=some ad) (λu D h=>(by obtain⟨g,hg,_⟩:=(Yv h.1.1).2 J;exact⟨_,hg⟩)) O (λuR=> ?_)
  obtain⟨ad,W⟩:=uR;refine ZA (Ki 53 (.slice f.1 ws.length f.2) m) (.pointer (some (ad.add m))) (λc e h=>by rw[W];exact Kg (elem:=9) O O F)<|ZA (L4 9 (ad.add m)) (E x) (λc e h=>K9 O (by obtain⟨ad2,uW,h4⟩:=h.1.1.strs.2 m x uY;rw[W]at uW;cases uW;exact h4)) ?_
  cases D:Tx x with
  |none=>
   obtain rfl:B=false:=by rw[<-vf,r,Bh,D];rfl
   obtain rfl:ps=p:=by rw[<-j,k,FH D,BD]
   refine Z (λc e h=>pk D J) λu=>ZI true<|sN O<|M<|ZV (.tuple #[.slice none 0 0,I m,I 3]) (λc e h=>⟨(none,0),by rw[<-t];rfl,e,λ_ _ _=>trivial⟩)
  |some s=>
   refine Z (λc e h=>pK D J) λu=>sW false O<|H 2<|sO (Kw 53 1 #[(0,E s)]) (Kd 1) (Kr 9 #[E s]) O (λc e h=>Kb O) λuX=>H 3<|sY (L:=bl y) (val:=λ(z:YZ)=> .slice z.1 (m+1) z.2) (Φ':=λ(z:YZ) v=>(Y v 0 9 1 f.1 ws.length f.2 (sv ws)/\(∀b∈bl f.1,b<N)/\w.heap.size<=N/\N<=v.heap.size)/\Y v N 9 1 z.1 (m+1) z.2 (sv (p++ [s]))) (G:=λ(z:YZ) v=>Y v N 9 1 z.1 (m+1) z.2 (sv (p++ [s]))) (Ln 53 53 (.slice y m yc) (Kd 1 uX)) (λc e h=>by have ho:Y c N 9 1 y m yc (sv p):=h.1.1.2;exact Sf ho h.1.1.1.2.2.2 h.2 (show m<100000000 from by omega)) (λc h=>λb K=>⟨CD h.1.1.1.2.2.1 ((show Y c N 9 1 y m yc (sv p)from h.1.1.2).lt b K).1,((show Y c N 9 1 y m yc (sv p)from h.1.1.2).blk b K).2⟩) (λz wa c uV e2 h hG=>⟨⟨(h.1.1.1.1).left e2 (λb K Q=>by have uU:=h.1.1.1.2.1 b K;have T:=((show Y wa N 9 1 y m yc (sv p)from h.1.1.2).lt b Q).1;omega),h.1.1.1.2.1,h.1.1.1.2.2.1,by rw[<-uV];exact h.1.1.1.2.2.2⟩,hG⟩) O O λz=>M<|sS 7 F J O<|sR (⟨((m+1,p++ [s]),z),by show m+1<=ws.length;omega,by show _=(p++ [s])++Al (ws.drop (m+1));rw[k,D7 D];simp,by show _=Rq (ws.drop (m+1));rw[r,Bh,D];rfl,by simp[t]⟩) O zo zt (λ_ h=>h)
 .have hd:ws.drop m=[]:=BJ J;rw[hd]at k r;obtain rfl:B=true:=by rw[<-vf,r];rfl
  obtain rfl:ps=p:=by rw[<-j,k];show p++ []=p;rw[BD]
  refine M<|X (decide ((m:Int)<(ws.length:Int))) false Zp<|sN O<|M<|ZV (.tuple #[.slice y m yc,I 0,I 0]) (λc e h=>⟨(y,yc),by rw[<-t];rfl,e,λC k1 uT=>by have S:Y C N 9 1 y m yc (sv ps):=(h C k1 uT).2;have h9:=S.strs;have hc:=(Yv S).1;show Km C y ps.length ps/\ps.length<=yc;rw[t];exact⟨h9,hc⟩⟩)
theorem qR(a:Rq (Kt l)=true)(b:l.length<=10000):YG XW 32 #[E l] w (K6 w (λy:YZ=> .tuple #[.slice y.1 (Al (Kt l)).length y.2,I 0,I 0]) λy u=>Km u y.1 (Al (Kt l)).length (Al (Kt l))):=(Di a rfl b).mono λe c k=>k.cast λy u h=>(show _/\_ from h).1
theorem ri(a:Rq (Kt l)=false)(b:l.length<=10000):YG XW 32 #[E l] w (K6 w (λ_:YZ=> .tuple #[.slice none 0 0,I (Al (Kt l)).length,I 3]) λ_ _=>True):=Di a rfl b
end
theorem NR(c:UInt8):∀m:R,Ke c (m++ [c])=Ke c m++ [[]]
 | []=>by simp[Ke]
 | b::m=>by
  have a:=NR c m;show Ke c (b::(m++ [c]))=_;rw[Ke,Ke,a];split
  .rfl
  .cases e:Ke c m with
   |nil=>exact absurd e (Uw c m)
   |cons h t=>rfl
theorem MI{c b:UInt8}(e:b≠c):∀m:R,∃p x,Ke c (m++ [b])=p++ [x++ [b]]
 | []=>⟨[],[],by simp[Ke,e]⟩
 | a::m=>by
  obtain⟨p,x,f⟩:=MI e m;show∃p x,Ke c (a::(m++ [b]))=_;rw[Ke,f];split
  .exact⟨[]::p,x,rfl⟩
  .cases p with
   |nil=>exact⟨[],a::x,rfl⟩
   |cons h t=>exact⟨(a::h)::t,x,rfl⟩
theorem bD{l:R}(e:l≠[]):XT l=CK l [10]:=by
 obtain⟨m,b,rfl⟩:∃m b,l=m++ [b]:=⟨l.dropLast,l.getLast e,(BK e).symm⟩
 unfold XT CK;rw[BG]
 by_cases c:b=10
 .subst c;have a:([10]:R).isSuffixOf (m++ [10])=true:=List.isSuffixOf_iff_suffix.2 ⟨m,rfl⟩;rw[a];simp
 .have a:([10]:R).isSuffixOf (m++ [b])=false:=by
   cases f:([10]:R).isSuffixOf (m++ [b])
   .rfl
   .obtain⟨t,g⟩:=List.isSuffixOf_iff_suffix.1 f;have:=congrArg List.getLast? g;rw[BG,BG]at this;injection this with this;exact absurd this.symm c
  rw[a];simp[c]
theorem ns{l:R}(a:l≠[])(h:XT l=true):Lib.trimSuffix l [10]=l.dropLast:=by
 unfold Lib.trimSuffix;rw[<-bD a,h,YS rfl,List.dropLast_eq_take];rfl
theorem VU{l:R}(a:l≠[])(h:XT l=true):Ke 10 l=Lu l++ [[]]:=by
 obtain⟨m,b,rfl⟩:∃m b,l=m++ [b]:=⟨l.dropLast,l.getLast a,(BK a).symm⟩
 have c:b=10:=by
  rw[XT,BG]at h;simpa using h
 subst c;rw[NR,Lu,V a,List.dropLast_concat]
theorem fI{l:R}(h:XT l=false):∃p x,Ke 10 l=p++ [x]/\x≠[]:=by
 have a:l≠[]:=by rintro rfl;cases h
 obtain⟨m,b,rfl⟩:∃m b,l=m++ [b]:=⟨l.dropLast,l.getLast a,(BK a).symm⟩
 have c:b≠10:=by
  rintro rfl;rw[XT,BG]at h;simp at h
 obtain⟨p,x,e⟩:=MI c m;exact⟨p,x++ [b],e,by simp⟩
def js(t:YH)(s:YM)(i:Int):Sem Next:=Instr.sliceAt t s none (some (I i)) none >>= λv=>pure (.value v)
section
variable{w:YN}{l:R}{A A2:YY}{n n2 c c2:Nat}{xs bs ls:List R}
def eL(l:R):Prop:=∀w,Zv 27 #[E l,.string ⟨#[10]⟩] w (.tuple #[E l.dropLast,.bool true])
theorem di{P:YK}{t e:YH}{g n c i:Nat}(b:P.underlying t=some (.slice e))(a:P.elem t=e)(f:Ot P e=some 1)(hi:i<=c):(js t (.slice (some ⟨g,0,none⟩) n c) i).run P w= .ok (.value (.slice (some ⟨g,0,none⟩) i c)) w:=by
 have h:=run_slice_h (P:=P) w t (some ⟨g,0,none⟩) n c (by rw[a];exact b) .i64 i J J;have j:=run_sliceAt_slice (P:=P) w t (.slice (some ⟨g,0,none⟩) n c) none (some (I i)) none (by rw[a];exact b);simp only[js,AI,j,h,a,M0 f,AG,AN];simp[sliced,Addr.add]
theorem sf(s:ML w)(o:XT l=true)(v:l.length<=10000000):YG XW 11 #[E l] w (K6 w (λy:YZ=> .tuple #[.slice y.1 (Lu l).length y.2,I 0]) λy u=>Km u y.1 (Lu l).length (Lu l)):=by
 refine sL func11 rfl<|H 1<|s0 O (stop:=1000) 1 _<|H 1 ?_
 by_cases f:l=[]
 .subst f;refine ZA (Nq .eql 9 (.tmp 6) (.const (.string ⟨#[]⟩)) (E []) (E [])) Zt (λb a h=>Kj Zs)<|ZI true<|ZV (.tuple #[.slice none 0 0,I 0]) (λb a h=>⟨(none,0),rfl,a,λ_ _ _=>Eu⟩)
 have k:=bD f;have r:=ns f o;have m:Lu l=Ke 10 l.dropLast:=V f;rw[o]at k;have e:eL l:=λw=>by have:=rC (w:=w) (l:=l) J;rw[r,<-k]at this;exact this
 refine ZA (Nq .eql 9 (.tmp 6) (.const (.string ⟨#[]⟩)) (E l) (E [])) Zf (λb a h=>Kj (by simpa using f))<|ZI false<|Z (λb a h=>e b) λu=>ZI false<|Z (λb a h=>df 10 (l:=l.dropLast) (s.below a) Zp) λg=>ZV (.tuple #[.slice (some ⟨g,0,none⟩) (Ke 10 l.dropLast).length (Ke 10 l.dropLast).length,I 0]) (λb a h=>⟨(some ⟨g,0,none⟩,(Ke 10 l.dropLast).length),by rw[m],a,λj t p=>by rw[m];exact(h j t p).2⟩)
theorem nC(uR:XT l=true)(uZ:l.length<=10000):YG XW 13 #[E l] w (K6 w (λy:YZ=> .tuple #[.slice y.1 (Lu l).length y.2,I 0]) λy u=>Km u y.1 (Lu l).length (Lu l)):=by
 refine sL func13 rfl<|H 1<|s0 O (stop:=1000) 1 _<|H 1 ?_
 by_cases v:l=[]
 .subst v;refine ZA (Nq .eql 9 (.tmp 5) (.const (.string ⟨#[]⟩)) (E []) (E [])) Zt (λb f h=>Kj Zs)<|ZI true<|ZV (.tuple #[.slice none 0 0,I 0]) (λb f h=>⟨(none,0),rfl,f,λ_ _ _=>Eu⟩)
 have r:=VU v uR;obtain⟨m,t⟩:∃m,m=(Lu l).length:=⟨_,rfl⟩
 have F:(Ke 10 l).length=m+1:=by rw[r,t];simp
 have K:m<=30000:=by have:=Rr 10 l;have:=BW (a:=(10:UInt8)) (l:=l);omega
 refine ZA (Nq .eql 9 (.tmp 5) (.const (.string ⟨#[]⟩)) (E l) (E [])) Zf (λb f h=>Kj (by simpa using v))<|sW false O<|H 0<|s0 O (stop:=1000) 1 _<|tf (λb f h=>(by have:=bh (w:=b) (l:=l) 10 J;rw[F]at this;exact this:YG XW 31 #[E l,.int .u8 (10:UInt8).toNat] b (K6 b (λy:YZ=> .slice y.1 (m+1) y.2) λy u=>Y u 0 9 1 y.1 (m+1) y.2 (sv (Ke 10 l))))) O λy=>s7 (p:=(∃g,y.1=some ⟨g,0,none⟩)/\m+1<=y.2) (λu N h=>(by have C:=Yv h.2;obtain⟨g,x,_⟩:=C.2 J;exact⟨⟨g,x⟩,C.1⟩)) O (λL=> ?_)
 obtain⟨⟨g,x⟩,o⟩:=L;obtain⟨y,yc⟩:=y;obtain rfl:y=some ⟨g,0,none⟩:=x;refine H 4<|sM 12 (I (YA.wrap (((m+1:Nat):Int)-1))) (I (m:Nat)) O (by rw[BH _ J];congr 1;omega)<|ZA (Ki 53 (.slice (some ⟨g,0,none⟩) (m+1) yc) m) (.pointer (some ((⟨g,0,none⟩:YB).add m))) (λb f h=>Kg (elem:=9) O O J)<|sV (L4 9 ((⟨g,0,none⟩:YB).add m)) (E []) O (λb f h=>K9 O (by obtain⟨vg,vf,ve⟩:=(show Y b 0 9 1 (some ⟨g,0,none⟩) (m+1) yc (sv (Ke 10 l))from h.2).strs.2 m [] (by rw[r,t];simp);cases vf;exact ve))<|H 6<|sV (Nq .neq 9 (.tmp 14) (.const (.string ⟨#[]⟩)) (E []) (E [])) Zf O (λb f h=>S5 Zs)<|H 0<|s0 O (stop:=1000) 2 _<|sW false O<|H 4<|sM 19 (I (YA.wrap (((m+1:Nat):Int)-1))) (I (m:Nat)) O (by rw[BH _ J];congr 1;omega)<|ZA (js 53 (.slice (some ⟨g,0,none⟩) (m+1) yc) m) (.slice (some ⟨g,0,none⟩) m yc) (λb f h=>di (e:=9) O O O (by have:m+1<=yc:=o;omega))<|ZV (.tuple #[.slice (some ⟨g,0,none⟩) m yc,I 0]) (λb f h=>⟨(some ⟨g,0,none⟩,yc),by rw[<-t],f,λj G D=>by have uS:=(show Y j 0 9 1 (some ⟨g,0,none⟩) (m+1) yc (sv (Ke 10 l))from(h j G D).2).strs;exact⟨rfl,λk s B=>uS.2 k s (by rw[r,AX (AB.1 B).1];exact B)⟩⟩)
theorem qN(r:XT l=false)(vf:l.length<=10000):YG XW 13 #[E l] w (K6 w (λ_:YZ=> .tuple #[.slice none 0 0,I 3]) λ_ _=>True):=by
 have C:l≠[]:=by rintro rfl;cases r
 obtain⟨p,x,j,G⟩:=fI r;obtain⟨m,k⟩:∃m,m=p.length:=⟨_,rfl⟩
 have v:(Ke 10 l).length=m+1:=by rw[j,k];simp
 have vg:m<=30000:=by have:=Rr 10 l;have:=BW (a:=(10:UInt8)) (l:=l);omega
 refine sL func13 rfl<|H 1<|s0 O (stop:=1000) 1 _<|H 1<|ZA (Nq .eql 9 (.tmp 5) (.const (.string ⟨#[]⟩)) (E l) (E [])) Zf (λb e h=>Kj (by simpa using C))<|sW false O<|H 0<|s0 O (stop:=1000) 1 _<|tf (λb e h=>(by have:=bh (w:=b) (l:=l) 10 J;rw[v]at this;exact this:YG XW 31 #[E l,.int .u8 (10:UInt8).toNat] b (K6 b (λy:YZ=> .slice y.1 (m+1) y.2) λy u=>Y u 0 9 1 y.1 (m+1) y.2 (sv (Ke 10 l))))) O λy=>s7 (p:=(∃g,y.1=some ⟨g,0,none⟩)/\m+1<=y.2) (λu uS h=>(by have s:=Yv h.2;obtain⟨g,f,_⟩:=s.2 J;exact⟨⟨g,f⟩,s.1⟩)) O (λF=> ?_)
 obtain⟨⟨g,f⟩,o⟩:=F;obtain⟨y,yc⟩:=y;obtain rfl:y=some ⟨g,0,none⟩:=f;refine H 4<|sM 12 (I (YA.wrap (((m+1:Nat):Int)-1))) (I (m:Nat)) O (by rw[BH _ J];congr 1;omega)<|ZA (Ki 53 (.slice (some ⟨g,0,none⟩) (m+1) yc) m) (.pointer (some ((⟨g,0,none⟩:YB).add m))) (λb e h=>Kg (elem:=9) O O J)<|sV (L4 9 ((⟨g,0,none⟩:YB).add m)) (E x) O (λb e h=>K9 O (by obtain⟨t,B,D⟩:=(show Y b 0 9 1 (some ⟨g,0,none⟩) (m+1) yc (sv (Ke 10 l))from h.2).strs.2 m x (by rw[j,k];simp);cases B;exact D))<|H 6<|ZA (Nq .neq 9 (.tmp 14) (.const (.string ⟨#[]⟩)) (E x) (E [])) Zt (λb e h=>S5 (by simpa using G))<|ZI true<|ZV (.tuple #[.slice none 0 0,I 3]) (λb e h=>⟨(none,0),rfl,e,λ_ _ _=>trivial⟩)
end
abbrev WS:=List R
abbrev Co:=UInt8×UInt8×UInt8×UInt8
def Z0(c:Co):R:=[c.1,c.2.1,c.2.2.1,c.2.2.2]
structure Im where
 w:Int
 h:Int
 px:List Co
structure Pn where
 kind:Int
 co:Co
 p0x:Int
 p0y:Int
 p1x:Int
 p1y:Int
 rad:Int
 stops:List (Int×Co)
 spread:Int
 im:Im
 samp:Int
 T:Xm
def Ss:Co:=(0,0,0,0)
def Yf:Im:=⟨0,0,[]⟩
def Pc:Xm:=⟨0,0,0,0,0,0⟩
def qC:Pn:=⟨0,Ss,0,0,0,0,0,[],0,Yf,0,Pc⟩
def Lm:WS:=[[110,111,110,101],[112,97,100],[114,101,112,101,97,116],[114,101,102,108,101,99,116]]
def Ng:WS:=[[110,101,97,114,101,115,116],[98,105,108,105,110,101,97,114]]
def Nn:R:=[115,111,108,105,100]
def Ky:R:=[108,105,110,101,97,114]
def L7:R:=[114,97,100,105,97,108]
def Kx:R:=[112,97,116,116,101,114,110]
def Ks(l:WS)(frm:Int)(k:Int):R:=(l[(k-frm).toNat]?).getD []
def Mn(T:Xm):WS:=[Kz T.a,Kz T.b,Kz T.c,Kz T.d,Kz T.e,Kz T.f]
def P9(c:Co):R:=35::Qf (Z0 c)
def GG(a:List Co):R:=Qf (a.flatMap Z0)
def E5(m:Im):WS:=[K8 m.w,K8 m.h,GG m.px]
def Yj(l:List (Int×Co)):WS:=l.flatMap λx=>[K8 x.1,P9 x.2]
def Pz(P:Pn):WS:=
 if P.kind=1 then [Nn,P9 P.co]
 else if P.kind=4 then [Kx,Ks Lm 0 P.spread,Ks Ng 1 P.samp]++Mn P.T++E5 P.im
 else if P.kind=2 then [Ky,K8 P.p0x,K8 P.p0y,K8 P.p1x,K8 P.p1y,Ks Lm 0 P.spread]++Mn P.T++Yj P.stops
 else [L7,K8 P.p0x,K8 P.p0y,K8 P.rad,Ks Lm 0 P.spread]++Mn P.T++Yj P.stops
def c8:Int:= -9223372036854775808
def dl:Int:=9223372036854775807
def SR(lo hi:Int)(f:Bool):WS->Option (Int×Bool×WS×Bool)
 | []=>none
 |s::r=>if Rp s lo hi=0 then some (Af s lo hi,true,r,f)else if Rp s lo hi=6 then some (0,false,r,true)else none
def Do(f:Bool)(ws:WS):Option (Int×WS×Bool):=(SR c8 dl f ws).map λx=>(x.1,x.2.2.1,x.2.2.2)
def Cl(s:R):WS->Option Nat
 | []=>none
 |x::l=>if x=s then some 0 else(Cl s l).map (· +1)
def Bm(l:WS)(frm:Int)(f:Bool):WS->Option (Int×WS×Bool)
 | []=>none
 |s::r=>(Cl s l).map λ(k:Nat)=>(frm+(k:Int),r,f)
def Dl(s:R):Option Co:=
 if s.length=9/\s[0]? =some 35 then(match Ao (s.drop 1)with
  |some [r,g,b,a]=>some (r,g,b,a)
  |_=>none)else none
def XQ(f:Bool):WS->Option (Co×WS×Bool)
 | []=>none
 |s::r=>(Dl s).map λc=>(c,r,f)
def ly(f:Bool):WS->Option (Rat×WS×Bool)
 | []=>none
 |s::r=>if Gy s=0 then some (Du s,r,f)else none
def Jv(f:Bool)(ws:WS):Option (Xm×WS×Bool):=
 (ly f ws).bind λa=>(ly a.2.2 a.2.1).bind λb=>(ly b.2.2 b.2.1).bind λc=>(ly c.2.2 c.2.1).bind λd=>(ly d.2.2 d.2.1).bind λe=>(ly e.2.2 e.2.1).map λg=>
  (⟨a.1,b.1,c.1,d.1,e.1,g.1⟩,g.2.1,g.2.2)
def M5:R->List Co
 |r::g::b::a::l=>(r,g,b,a)::M5 l
 |_=>[]
def Yd(f:Bool)(ws:WS):Option (Im×WS×Bool):=
 (SR 1 4096 f ws).bind λx=>(SR 1 4096 x.2.2.2 x.2.2.1).bind λy=>match y.2.2.1 with
  | []=>none
  | s::r=>match Ao s with
   |none=>none
   |some b=>if b.length%4≠0 then none else if x.2.1=false\/y.2.1=false\/x.1*y.1>65536 then some (Yf,r,true)
    else if (b.length:Int)≠4*x.1*y.1 then none else some (⟨x.1,y.1,M5 b⟩,r,y.2.2.2)
def EV:Bool->WS->Option (List (Int×Co)×Bool)
 |f,[]=>some ([],f)
 |_,[_]=>none
 |f,s::c::r=>(Do f [s]).bind λx=>(Dl c).bind λk=>(EV x.2.2 r).map λl=>((x.1,k)::l.1,l.2)
def I_(f:Bool)(ws:WS):Option ((Int×Int)×WS×Bool):=(Do f ws).bind λx=>(Do x.2.2 x.2.1).map λy=>((x.1,y.1),y.2.1,y.2.2)
def G1(f:Bool)(ws:WS):Option (Pn×Bool):=
 (I_ f ws).bind λp=>(I_ p.2.2 p.2.1).bind λq=>(Bm Lm 0 q.2.2 q.2.1).bind λk=>(Jv k.2.2 k.2.1).bind λt=>(EV t.2.2 t.2.1).map λl=>
  (⟨2,Ss,p.1.1,p.1.2,q.1.1,q.1.2,0,l.1,k.1,Yf,0,t.1⟩,l.2)
def Fy(f:Bool)(ws:WS):Option (Pn×Bool):=
 (I_ f ws).bind λp=>(Do p.2.2 p.2.1).bind λn=>(Bm Lm 0 n.2.2 n.2.1).bind λk=>(Jv k.2.2 k.2.1).bind λt=>(EV t.2.2 t.2.1).map λl=>
  (⟨3,Ss,p.1.1,p.1.2,0,0,n.1,l.1,k.1,Yf,0,t.1⟩,l.2)
def Fz(f:Bool)(ws:WS):Option (Pn×Bool):=
 (Bm Lm 0 f ws).bind λk=>(Bm Ng 1 k.2.2 k.2.1).bind λn=>(Jv n.2.2 n.2.1).bind λt=>(Yd t.2.2 t.2.1).bind λm=>
  if m.2.1=[]then some (⟨4,Ss,0,0,0,0,0,[],k.1,m.1,n.1,t.1⟩,m.2.2)else none
def IX(f:Bool)(ws:WS):Option (Pn×Bool):=(XQ f ws).bind λc=>if c.2.1=[]then some (⟨1,c.1,0,0,0,0,0,[],0,Yf,0,Pc⟩,c.2.2)else none
def Fs(f:Bool):WS->Option (Pn×Bool)
 | []=>none
 |k::r=>if k=Nn then IX f r else if k=Ky then G1 f r else if k=L7 then Fy f r else if k=Kx then Fz f r else none
theorem Dq(lo hi:Int)(f:Bool)(s:R)(r:WS):SR lo hi f (s::r)=if Rp s lo hi=0 then some (Af s lo hi,true,r,f)else if Rp s lo hi=6 then some (0,false,r,true)else none:=rfl
theorem L6(f:Bool)(s:R)(r:WS):ly f (s::r)=if Gy s=0 then some (Du s,r,f)else none:=rfl
theorem We(f:Bool)(k:R)(r:WS):Fs f (k::r)=if k=Nn then IX f r else if k=Ky then G1 f r else if k=L7 then Fy f r else if k=Kx then Fz f r else none:=rfl
theorem Mf(s x:R)(l:WS):Cl s (x::l)=if x=s then some 0 else(Cl s l).map (· +1):=rfl
theorem jX{s:R}:Rp s c8 dl=Pw s/\Af s c8 dl=O1 s:=by
 have a:Rp s c8 dl=Pw s:=by
  unfold Rp;split
  .rename_i h;have:=(pL h).2;rw[V (by unfold c8 dl;omega),h]
  .rfl
 refine⟨a,?_⟩;unfold Af;rw[a];unfold O1;split<;>simp_all
theorem JS:∀{l:WS} {s:R} {k:Nat},Cl s l=some k->l[k]? =some s
 | [],s,k,h=>by cases h
 | x::l,s,k,h=>by
  rw[Mf]at h;split at h
  .rename_i e;cases h;rw[e];rfl
  .obtain⟨j,a,rfl⟩:=AQ.1 h;rw[List.getElem?_cons_succ];exact JS a
theorem ik{s:R}{c:Co}(h:Dl s=some c):P9 c=s:=by
 unfold Dl at h;split at h
 .rename_i f;obtain⟨k,e⟩:=f;split at h
  .rename_i r g b a j;cases h;have:=B1 j;unfold P9;show 35::Qf [r,g,b,a]=s;rw[this];cases s with
   |nil=>cases e
   |cons x s=>simp at e;subst e;rfl
  .cases h
 .cases h
theorem JD:∀(n:Nat) (b:R),b.length=4*n->(M5 b).flatMap Z0=b/\(M5 b).length=n
 |0,b,h=>by
  obtain rfl:b=[]:=BC.1 J;exact⟨rfl,rfl⟩
 | n+1,b,h=>by
  match b,h with
  |x::y::z::u::l,h=>
   obtain⟨a,c⟩:=JD n l (by simp only[AD]at h;omega);exact⟨by show Z0 (x,y,z,u)++(M5 l).flatMap Z0=_;rw[a];rfl,by show(M5 l).length+1=_;rw[c]⟩
structure Oj where
 i:Nat
 syn:Bool
 rng:Bool
def Le(ws:WS)(x:Oj):R×Oj:=match ws[x.i]? with
 |none=>([],⟨x.i,true,x.rng⟩)
 |some s=>(s,⟨x.i+1,x.syn,x.rng⟩)
def Ms(ws:WS)(x:Oj):Int×Oj:=(O1 (Le ws x).1,⟨(Le ws x).2.i,(Le ws x).2.syn||decide (Pw (Le ws x).1≠6/\Pw (Le ws x).1≠0),(Le ws x).2.rng||decide (Pw (Le ws x).1=6)⟩)
def Cg(l:WS)(s:R):Option Nat:=if s=[]then none else Cl s l
def Oi(ws l:WS)(x:Oj):Int×Oj:=match Cg l (Le ws x).1 with
 |some k=>((k:Int),(Le ws x).2)
 |none=>(0,⟨(Le ws x).2.i,true,(Le ws x).2.rng⟩)
def Sd(ws:WS)(x:Oj):Co×Oj:=match Dl (Le ws x).1 with
 |some c=>(c,(Le ws x).2)
 |none=>(Ss,⟨(Le ws x).2.i,true,(Le ws x).2.rng⟩)
def Td(ws:WS)(x:Oj):Rat×Oj:=if Gy (Le ws x).1=0 then(Du (Le ws x).1,(Le ws x).2)else(0,⟨(Le ws x).2.i,true,(Le ws x).2.rng⟩)
def MB(ws:WS)(x:Oj):Xm×Oj:=
 let a:=Td ws x;let b:=Td ws a.2;let c:=Td ws b.2;let d:=Td ws c.2;let e:=Td ws d.2;let g:=Td ws e.2
 (⟨a.1,b.1,c.1,d.1,e.1,g.1⟩,g.2)
def gu(ws:WS)(x:Oj):(Int×Int)×Oj:=let a:=Ms ws x;let b:=Ms ws a.2;((a.1,b.1),b.2)
def Tr(w h:Int):Bool:=decide (1<=w/\w<=4096/\1<=h/\h<=4096/\w*h<=65536)
def Hd(a:Bool)(w h:Int):Option R->Bool
 |none=>true
 |some b=>decide (b.length%4≠0)||(a&&decide ((b.length:Int)≠4*w*h))
def cS(ws:WS)(x:Oj):Im×Oj:=
 let a:=Ms ws ⟨x.i,x.syn,false⟩;let b:=Ms ws a.2
 let sized:= !b.2.rng&&Tr a.1 b.1
 let y:=Le ws ⟨b.2.i,b.2.syn,x.rng|| !sized⟩
 (⟨a.1,b.1,M5 ((Ao y.1).getD [])⟩,⟨y.2.i,y.2.syn||Hd sized a.1 b.1 (Ao y.1),y.2.rng⟩)
def SQ(ws:WS):Nat->Oj->List (Int×Co)->List (Int×Co)×Oj
 |0,x,a=>(a,x)
 |n+1,x,a=>if x.i<ws.length/\x.syn=false then SQ ws n (Sd ws (Ms ws x).2).2 (a++ [((Ms ws x).1,(Sd ws (Ms ws x).2).1)])else(a,x)
def Uv(ws:WS)(x:Oj):List (Int×Co)×Oj:=SQ ws ws.length x []
def M_(ws:WS)(x:Oj):Pn×Oj:=
 let p:=gu ws x;let q:=gu ws p.2;let k:=Oi ws Lm q.2;let t:=MB ws k.2;let l:=Uv ws t.2
 (⟨2,Ss,p.1.1,p.1.2,q.1.1,q.1.2,0,l.1,k.1,Yf,0,t.1⟩,l.2)
def MU(ws:WS)(x:Oj):Pn×Oj:=
 let p:=gu ws x;let n:=Ms ws p.2;let k:=Oi ws Lm n.2;let t:=MB ws k.2;let l:=Uv ws t.2
 (⟨3,Ss,p.1.1,p.1.2,0,0,n.1,l.1,k.1,Yf,0,t.1⟩,l.2)
def MX(ws:WS)(x:Oj):Pn×Oj:=
 let k:=Oi ws Lm x;let n:=Oi ws ([]::Ng) k.2;let t:=MB ws n.2;let m:=cS ws t.2
 (⟨4,Ss,0,0,0,0,0,[],k.1,m.1,n.1,t.1⟩,m.2)
def G4(ws:WS)(x:Oj):Pn×Oj:=
 let k:=Oi ws [[],Nn,Ky,L7,Kx] x
 if k.1=1 then(let c:=Sd ws k.2;(⟨1,c.1,0,0,0,0,0,[],0,Yf,0,Pc⟩,c.2))
 else if k.1=2 then M_ ws k.2 else if k.1=3 then MU ws k.2 else if k.1=4 then MX ws k.2 else(qC,k.2)
section
variable{ws l:WS}{x y:Oj}
theorem Xj(h:ws[x.i]? =none):ws.drop x.i=[]:=List.drop_eq_nil_of_le (List.getElem?_eq_none_iff.1 h)
theorem Ox{s:R}{i:Nat}(h:ws[i]? =some s):ws.drop i=s::ws.drop (i+1)/\i+1<=ws.length:=by
 obtain⟨a,b⟩:=AB.1 h;exact⟨by rw[<-b,<-AW a],a⟩
theorem Oh(a:ws[x.i]? =none):Le ws x=([],⟨x.i,true,x.rng⟩):=by unfold Le;rw[a]
theorem Pk{s:R}(a:ws[x.i]? =some s):Le ws x=(s,⟨x.i+1,x.syn,x.rng⟩):=by unfold Le;rw[a]
end
def Xa(w:YN)(L:List Nat)(a:List YF)(e:YC)(b:YN):Prop:=e= .panicked a/\SM L w b
def J_(a:List YF)(c:Ob):Ob:=⟨.out (.panic a),c.k,c.st⟩
def Lt{D uX:Type}(w:YN)(L:List Nat)(b:List YF)(o:Option D)(val:D->uX->YM)(G:D->uX->YN->Prop)(e:YC)(a:YN):Prop:=
 match o with
 |none=>Xa w L b e a
 |some d=>Ni w L (val d) (G d) e a
section
variable{P:YK}{Δ:List YI}{W:YN}{Q:Exit->Act->YN->Prop}{Φ Φ':YW}{c:Ob}
theorem s6{L:List Nat}{g:YE}{args:Array YM}{v:List YF}
 (vg:∀w,Below W.heap.size W w->Φ w->YG P g args w (Xa w L v)) (F:Bk W L Φ) (u:Hw L Φ (λ_=>True) Φ')
 (y:Rt c=true) (f:M8 P c=some (g,args)) (h:K0 P Δ W Q Φ' (J_ v c)):K0 P Δ W Q Φ c:=by
 obtain⟨G,k,σ⟩:=c;replace h:=h.get;refine⟨?_⟩;unfold M8 at f;split at f
 .rename_i uS xs p;split at f
  .rename_i vs A;injection f with f;injection f with h1 h2;subst h1;subst h2;unfold U4 at p;split at p
   .rename_i x o b;split at p
    .rename_i C;unfold P1 at b;simp only at b;split at b
     .rename_i j i l;cases m:j[i]? with
      |none=>rw[m]at b;cases b
      |some vf=>
       rw[m]at b;simp only[BV,CC,BR]at b;obtain⟨rfl,rfl⟩:=b;intro t β a w r;show wpOps P j (post P Q k) (i::l) a w;rw[wpOps_cons];unfold wpOp;simp only[m,Mw r,C,if_true];refine .inl ?_;unfold Oper.wp;rw[Y8 p r,Qi A];refine Calls.mono (vg w r.bel r.phi) λe D B=> ?_
       obtain⟨rfl,s⟩:=B;exact h t β _ D (r.mut F s (λ_ _ _=>trivial) u)
     .cases y
     .cases b
    .cases p
   .cases p
  .cases f
 .cases f
theorem td(s:Sem Next)(v:YM)(b:Vy c=some s)(C:∀w,Below W.heap.size W w->Φ w->s.run P w= .halt (.panic v) w)
 (B:Rt c=true) (h:K0 P Δ W Q Φ (J_ [{v,recovered:=false}] c)):K0 P Δ W Q Φ c:=by
 obtain⟨vg,k,σ⟩:=c;replace h:=h.get;refine⟨?_⟩;replace b:=(Rc b).1;unfold Ue at b;split at b
 .rename_i y o e;split at b
  .cases b
  .cases b
  .rename_i r A;split at b
   .rename_i t;simp only[BS]at t;injection b with b;subst b;unfold P1 at e;simp only at e;split at e
    .rename_i f i l;cases g:f[i]? with
     |none=>rw[g]at e;cases e
     | some u=>
      rw[g]at e;simp only[BV,CC,BR]at e;obtain⟨rfl,rfl⟩:=e;intro p β a w m;show wpOps P f (post P Q k) (i::l) a w;rw[wpOps_cons];unfold wpOp;simp only[g,Mw m,t.1,if_true];refine .inl ?_;have j:∀x∈u.op.operands,a.eval x=σ.rho x:=λx D=>by
       rw[m.eval,tp];· rfl
       exact List.all_eq_true.1 t.2 x (by simpa using D)
      unfold Oper.wp;rw[execOp_congr u r j,C w m.bel m.phi];exact h p β _ w m
    .cases B
    .cases e
   .cases b
 .cases b
theorem Ag{b:List YF}{a:Act}{w:YN}:∀k:List nT,Q (.panic b) a w->post P Q k (.panic b) a w
 | [],h=>h
 | .seq c::k,h=>Ag k h
 | .blk id::k,h=>Ag k h
 | .lp bd::k,h=>Ag k h
theorem sX{f:Func}{uY:YC->YN->Prop}{e:List YF}(h:∀w,Below W.heap.size W w->Φ w->uY (.panicked e) w):K0 P [] W (bodyPost P f uY) Φ (J_ e c):=
 ⟨λg β a w b=>Ag c.k ⟨b.defers,h w b.bel b.phi⟩⟩
end
theorem K7.stay{w u:YN}{B g:Nat}{cs:List YM}(h:K7 w g cs)(c:B<=g)(a:∀b,B<=b->b<w.heap.size->u.heap[b]? =w.heap[b]?):K7 u g cs:=by
 obtain⟨t,h⟩:=h;exact⟨t,(a g c (AP.1 h).1).trans h⟩
theorem K7.one{w:YN}{g:Nat}{v:YM}(h:K7 w g [v]):w.cell? ⟨g,0,none⟩=some v:=by
 obtain⟨t,h⟩:=h;exact TQ h
theorem K7.lt{w:YN}{g:Nat}{cs:List YM}(h:K7 w g cs):g<w.heap.size:=by
 obtain⟨t,h⟩:=h;exact(AP.1 h).1
theorem K7.own{w:YN}{g:Nat}{cs:List YM}(h:K7 w g cs):∃xs ty own,w.heap[g]? =some (.cells xs ty own):=by
 obtain⟨t,h⟩:=h;exact⟨_,_,_,h⟩
theorem K7.to{w u:YN}{g:Nat}{cs:List YM}(h:K7 w g cs)(e:u.heap[g]? =w.heap[g]?):K7 u g cs:=by
 obtain⟨t,h⟩:=h;exact⟨t,e.trans h⟩
theorem K7.cell{w:YN}{g j:Nat}{cs:List YM}(h:K7 w g cs):w.cell? ⟨g,j,none⟩=cs[j]? :=by
 obtain⟨t,h⟩:=h;simp only[CA,h,CB,BI,if_false];simp
theorem Ch{w u:YN}{p:YB}{v:YM}(h:w.cell? p=some v)(e:u.heap[p.block]? =w.heap[p.block]?):u.cell? p=some v:=by
 unfold CA at h ⊢;rw[e];exact h
theorem J7{α:Type}:∀(l:List α) (j:Nat) (v:α),j<l.length->l.take j++ [v]++l.drop (j+1)=l.set j v
 | [],j,v,h=>absurd h (Nat.not_lt_zero _)
 |a::l,0,v,_=>by simp
 |a::l,j+1,v,h=>by
  have b:=J7 l j v (by simpa using h);simp only[BY,CM,List.set_cons_succ,List.cons_append]at b ⊢;rw[b]
theorem K7.store1{P:YK}{t:YH}{w:YN}{g j:Nat}{cs:List YM}{v:YM}(h:K7 w g cs)(s:Ot P t=some 1)(l:v.cells.toList=[v])(r:j<cs.length)(y:v.oneCell'=true):
 ∃f,(Uk t ⟨g,j,none⟩ v).run P w= .ok .skip f/\SM [g] w f/\∀a,f.heap.size<=a.heap.size->(∀b∈[g],a.heap[b]? =f.heap[b]?)->K7 a g (cs.set j v):=by
 obtain⟨ty,h⟩:=h;have e:=run_storeCells_at P g j ty v.cells.toList 0 cs.toArray w h (by rw[l];simp;omega) (by intro u o;rw[l]at o;rw[CO.1 o];exact y);have m:v.cells.size=1:=by have:=congrArg List.length l;simpa using this
 have c:((cs.toArray.toList.take (j+0)++v.cells.toList++cs.toArray.toList.drop (j+0+v.cells.toList.length)).toArray)=(cs.set j v).toArray:=by
  rw[l];have:=J7 cs j v r;simp only[AD,List.length_nil,CN,AY];rw[<-this]
 rw[c]at e;refine⟨w.setRow g (cs.set j v).toArray,?_,⟨rfl,rfl,rfl,by rw[Qt];exact AC _,λk _ x=>Q2 _ _ _ _ (by simpa using x)⟩,λa A p=>⟨ty,?_⟩⟩
 .simp only[Uk,Instr.storeAt,Instr.sureAddr,storeVar,AI,AN,AG,M0 s];rw[V (by simpa using m)];simp only[e,AN,AI,AG]
 .rw[p g Zs];simp only[World.setRow,Array.getElem?_modify,if_true,h,BV]
theorem Km.left{w c:YN}{A:YY}{n:Nat}{ws:List R}{L:List Nat}(h:Km c A n ws)(f:∀b,b∉L->c.heap[b]? =w.heap[b]?)(g:∀b∈bl A,b∉L):Km w A n ws:=
 ⟨h.1,λk s e=>by
  obtain⟨ad,a,j⟩:=h.2 k s e;exact⟨ad,a,Ch j (f _ (g _ (by rw[a,show(ad.add k).block=ad.block from by unfold Addr.add;split<;>rfl];simp[bl]))).symm⟩⟩
theorem Z2{w:YN}{p:YB}{v:YM}(h:w.cell? p=some v):p.block<w.heap.size:=by
 unfold CA at h;cases a:w.heap[p.block]? with
 |none=>simp[a]at h
 |some o=>exact(AP.1 a).1
def Kh:YM:= .iface 82 (.agg #[])
def S3:List YF:=[{v:=Kh,recovered:=false}]
theorem fG{P:YK}{t e:YH}{A:YY}{n c i:Nat}{w:YN}(b:P.underlying t=some (.slice e))(a:P.elem t=e)(f:Ot P e=some 1)(hi:i<=n):(Y3 t (.slice A n c) i).run P w= .ok (.value (.slice (if c=i then A else A.map (·.add i)) (n-i) (c-i))) w:=by
 have g:=run_slice_l (P:=P) w t A n c (by rw[a];exact b) .i64 i J J;have h:=run_sliceAt_slice (P:=P) w t (.slice A n c) (some (I i)) none none (by rw[a];exact b);simp only[Y3,AI,h,g,a,M0 f,AG,AN];simp[sliced]
def Da(k:Nat)(A:YY)(c:Nat):YY:=A.map (·.add (if k=c then k-1 else k))
abbrev k0(A:YY)(n c r:Nat):YM:= .slice (Da (n-r) A c) r (c- (n-r))
theorem ZF{k c:Nat}{A:YY}(h:k<c):(if c-k=1 then Da k A c else(Da k A c).map (·.add 1))=Da (k+1) A c:=by
 unfold Da;rw[show(if k=c then k-1 else k)=k from V J]
 by_cases b:c-k=1
 .rw[YS b,YS J];rfl
 .rw[V b,V J];cases A with
  |none=>rfl
  |some a=>show some ((a.add k).add 1)=some (a.add (k+1));rw[Addr.add_add]
def Pt(W w:YN)(g:Nat)(cs:List YM)(u:YN):Prop:=w.heap.size<=u.heap.size/\(∀b,W.heap.size<=b->b<w.heap.size->b≠g->u.heap[b]? =w.heap[b]?)/\K7 u g cs
section
variable{w W:YN}{g n c m cx:Nat}{A Ax:YY}{f:Bool}{s:R}{ws rest:WS}
theorem Kf{cs cs':List YM}(e:W.heap.size<=g):∀u,Pt W w g cs u->∀b∈[g],W.heap.size<=b/\∃xs ty own,u.heap[b]? =some (.cells xs ty own):=λu h b a=>by
 obtain rfl:b=g:=by simpa using a
 exact⟨e,h.2.2.own⟩
theorem Kk{cs cs':List YM}(a u:YN)(j:a.heap.size=u.heap.size)(l:∀b,b∉[g]->a.heap[b]? =u.heap[b]?)(h:Pt W w g cs a)(o:K7 u g cs'):Pt W w g cs' u:=
 ⟨by rw[<-j];exact h.1,λb k p e=>(l b (by simpa using e)).symm.trans (h.2.1 b k p e),o⟩
theorem B8{cs:List YM}(j:W.heap.size<=g)(e:K7 w g cs)(u:YN)(h:w.heap.size<=u.heap.size/\∀b,W.heap.size<=b->b<w.heap.size->u.heap[b]? =w.heap[b]?):Pt W w g cs u:=
 ⟨h.1,λb a k _=>h.2 b a k,e.stay j h.2⟩
theorem Nw{cs:List YM}{val:YM}{o:YN}(a:Below W.heap.size W w)(j:Below W.heap.size W o)(h:Pt W w g cs o):Ni w [g] (λ_:Unit=>val) (λ_ u=>K7 u g cs) (.returned val) o:=
 ⟨(),rfl,⟨j.os.trans a.os.symm,j.tape.trans a.tape.symm,j.output.trans a.output.symm,h.1,λk p l=>by
  rcases CF k W.heap.size with b|b
  .rw[j.block k b,a.block k b]
  .exact h.2.1 k b p λe=>l (by simp[e])⟩,λt v r=>h.2.2.to (r g (.inl Zs))⟩
theorem N9{cs:List YM}{p:List YF}{o:YN}(a:Below W.heap.size W w)(b:Below W.heap.size W o)(h:Pt W w g cs o):Xa w [g] p (.panicked p) o:=
 ⟨rfl,⟨b.os.trans a.os.symm,b.tape.trans a.tape.symm,b.output.trans a.output.symm,h.1,λk r l=>by
  rcases CF k W.heap.size with j|j
  .rw[b.block k j,a.block k j]
  .exact h.2.1 k j r λe=>l (by simp[e])⟩⟩
theorem WC{cs:List YM}{p:YB}{v:YM}{u:YN}(j:Below W.heap.size W w)(k:Below W.heap.size W u)(h:Pt W w g cs u)(e:w.cell? p=some v)(l:p.block≠g):u.cell? p=some v:=Ch e (by
 have a:=Z2 e;rcases CF p.block W.heap.size with b|b
 .rw[k.block _ b,j.block _ b]
 .exact h.2.1 _ b a l)
theorem oE(e:Below W.heap.size W w)(k:W.heap.size<=g)(j:K7 w g [.slice Ax 0 cx,.bool f]):YG XW 65 #[Zq g 0] w (Xa w [g] S3):=ts func65 rfl e<|M<|ZA (L4 53 ⟨g,0,none⟩) (.slice Ax 0 cx) (λb a h=>K9 O (by rw[(j.stay k h.2).cell];rfl))<|ZI true<|td (Instr.panic Kh >>= λv=>pure (.value v)) Kh O (λb a h=>by simp[Instr.panic,Kh,BL]) O<|sX λb a h=>N9 e a (B8 k j b h)
theorem pR(t:Below W.heap.size W w)(l:W.heap.size<=g)(p:K7 w g [.slice Ax (m+1) cx,.bool f])(x:∃ad,Ax=some ad/\ad.block≠g/\w.cell? (ad.add 0)=some (E s)):YG XW 65 #[Zq g 0] w (Ni w [g] (λ_:Unit=>E s) λ_ u=>K7 u g [.slice (if cx=1 then Ax else Ax.map (·.add 1)) m (cx-1),.bool f]):=by
 obtain⟨ad,D,r,o⟩:=x;refine ts func65 rfl t<|M<|ZA (L4 53 ⟨g,0,none⟩) (.slice Ax (m+1) cx) (λb a h=>K9 O (by rw[(p.stay l h.2).cell];rfl))<|X ((((m+1:Nat):Int)==0)) false Zp<|ZA (L4 53 ⟨g,0,none⟩) (.slice Ax (m+1) cx) (λb a h=>K9 O (by rw[(p.stay l h.2).cell];rfl))<|ZA (Ki 53 (.slice Ax (m+1) cx) 0) (.pointer (some (ad.add 0))) (λb a h=>by rw[D];exact Kg (k:=0) (elem:=9) O O J)<|ZA (L4 9 (ad.add 0)) (E s) (λb a h=>K9 O (WC t a (B8 l p b h) o (by rw[show(ad.add 0).block=ad.block from by unfold Addr.add;split<;>rfl];exact r)))<|sV (L4 53 ⟨g,0,none⟩) (.slice Ax (m+1) cx) O (λb a h=>K9 O (by rw[(p.stay l h.2).cell];rfl))<|H 5<|ZA (Y3 53 (.slice Ax (m+1) cx) 1) (.slice (if cx=1 then Ax else Ax.map (·.add 1)) m (cx-1)) (λb a h=>fG (i:=1) (e:=9) O O O J)<|s8 (L:=[g]) (G:=λu=>K7 u g [.slice (if cx=1 then Ax else Ax.map (·.add 1)) m (cx-1),.bool f]) (Φ':=Pt W w g [.slice (if cx=1 then Ax else Ax.map (·.add 1)) m (cx-1),.bool f]) (Uk 53 ⟨g,0,none⟩ (.slice (if cx=1 then Ax else Ax.map (·.add 1)) m (cx-1))) (λb a h=>(p.stay l h.2).store1 (j:=0) O rfl Zs rfl) (λu h=>Kf (cs':=[]) l u (B8 l p u h)) (λv u y B h C=>Kk v u y B (B8 l p v h) C) O O<|M<|ZV (E s) (λb a h=>Nw t a (h b (AC _) λ_ _ _=>rfl))
end
section
variable{P:YK}{Δ:List YI}{W w:YN}{Q:Exit->Act->YN->Prop}{Φ Φ':YW}
theorem Re.imp{β:Nat->Nat}{σ:AS}{a:Act}(b:Re Δ W β σ Φ a w)(h:∀w,Φ w->Φ' w):Re Δ W β σ Φ' a w:=
 ⟨b.tmps,b.defers,b.bel,b.box,b.inj,λc e=>h c (b.keep c e)⟩
theorem tQ{c:Func}{args:Array YM}(h:∀w,Φ w->Φ' w)(uS:K0 P Δ W Q Φ' (Uf c args)):K0 P Δ W Q Φ (Uf c args):=
 ⟨λb β a w e=>uS.get b β a w (e.imp h)⟩
theorem tg{f:YE}{a:Func}{args:Array YM}{uY:YC->YN->Prop}{g:Nat}{cs:List YM}(k:P.funcs[f]? =some a)(c:a.body.isSome=true)(b:Below W.heap.size W w)(e:W.heap.size<=g)(j:K7 w g cs)
 (h:K0 P [] W (bodyPost P a uY) (Pt W w g cs) (Uf a args)):YG P f args w uY:=
 ts k c b (tQ (B8 e j) h)
end
def N8(W w:YN)(g:Nat)(u:YN):Prop:=w.heap.size<=u.heap.size/\∀b,W.heap.size<=b->b<w.heap.size->b≠g->u.heap[b]? =w.heap[b]?
abbrev Lj(A:YY)(n c r:Nat)(f:Bool):List YM:=[k0 A n c r,.bool f]
structure RE(W w:YN)(g:Nat)(A:YY)(n c:Nat)(ws0:WS):Prop where
 hW:Below W.heap.size W w
 lg:W.heap.size<=g
 str:Km w A n ws0
 ne:∀ad,0<n->A=some ad->ad.block≠g
 hn:n<=c
 hn2:n<=1000000
 len:∀y∈ws0,y.length<=65536
def Qm(ws0:WS)(n:Nat)(rest:WS):Prop:=rest=ws0.drop (n-rest.length)/\rest.length<=n
section
variable{w W:YN}{g n c m:Nat}{A:YY}{f:Bool}{s:R}{ws0 rest r:WS}
theorem Q1(ad:YB)(k:Nat):(ad.add k).block=ad.block:=by unfold Addr.add;split<;>rfl
theorem Nk{cs:List YM}(a u:YN)(j:a.heap.size=u.heap.size)(l:∀b,b∉[g]->a.heap[b]? =u.heap[b]?)(h:Pt W w g cs a):N8 W w g u:=
 ⟨by rw[<-j];exact h.1,λb k o e=>(l b (by simpa using e)).symm.trans (h.2.1 b k o e)⟩
theorem Nj{p:List YF}{o:YN}(a:Below W.heap.size W w)(b:Below W.heap.size W o)(h:N8 W w g o):Xa w [g] p (.panicked p) o:=
 ⟨rfl,⟨b.os.trans a.os.symm,b.tape.trans a.tape.symm,b.output.trans a.output.symm,h.1,λk t l=>by
  rcases CF k W.heap.size with j|j
  .rw[b.block k j,a.block k j]
  .exact h.2 k j t λe=>l (by simp[e])⟩⟩
theorem Qm.tail(h:Qm ws0 n (s::r)):Qm ws0 n r:=by
 obtain⟨b,e⟩:=h;rw[AD]at b e;refine⟨?_,by omega⟩;have a:=congrArg List.tail b;rw[List.tail_cons,List.tail_drop]at a;rw[show n-r.length=n- (r.length+1)+1 by omega];exact a
theorem Qm.get(h:Qm ws0 n (s::r)):ws0[n- (r.length+1)]? =some s:=by
 have a:=congrArg (λl=>l[0]?) h.1;simp only[List.getElem?_cons_zero,List.getElem?_drop,AD,CN]at a;exact a.symm
theorem RE.cell{k:Nat}(a:RE W w g A n c ws0)(h:ws0[k]? =some s):∃ad,Da k A c=some ad/\ad.block≠g/\w.cell? (ad.add 0)=some (E s):=by
 obtain⟨ad,b,e⟩:=a.str.2 k s h;have j:=(AB.1 h).1;have o:=a.str.1;have l:=a.hn;refine⟨ad.add k,?_,by rw[Q1];exact a.ne ad J b,by rw[Addr.add_add];exact e⟩;unfold Da;rw[V J,b];rfl
theorem RE.next{cs:List YM}{u:YN}(a:RE W w g A n c ws0)(j:Below W.heap.size W u)(h:Pt W w g cs u):RE W u g A n c ws0:=
 ⟨j,a.lg,⟨a.str.1,λk s b=>by
  obtain⟨ad,e,l⟩:=a.str.2 k s b;exact⟨ad,e,WC a.hW j h l (by rw[Q1];exact a.ne ad (by have:=(AB.1 b).1;have:=a.str.1;omega) e)⟩⟩,a.ne,a.hn,a.hn2,a.len⟩
theorem RE.mem(b:RE W w g A n c ws0)(a:Qm ws0 n (s::r)):s.length<=65536:=b.len s (AZ a.get)
theorem Rv(a:RE W w g A n c ws0)(b:K7 w g (Lj A n c 0 f)):YG XW 65 #[Zq g 0] w (Xa w [g] S3):=oE a.hW a.lg b
theorem Px(a:RE W w g A n c ws0)(b:Qm ws0 n (s::r))(j:K7 w g (Lj A n c (r.length+1) f)):YG XW 65 #[Zq g 0] w (Ni w [g] (λ_:Unit=>E s) λ_ u=>K7 u g (Lj A n c r.length f)):=by
 have k:=b.2;have l:=a.hn;rw[AD]at k;have h:=pR a.hW a.lg j (a.cell b.get);have e:(Value.slice (if c- (n- (r.length+1))=1 then Da (n- (r.length+1)) A c else(Da (n- (r.length+1)) A c).map (·.add 1)) r.length (c- (n- (r.length+1))-1))=k0 A n c r.length:=by
  unfold k0;rw[ZF J,show n- (r.length+1)+1=n-r.length by omega,show c- (n- (r.length+1))-1=c- (n-r.length) by omega]
 rw[e]at h;exact h
theorem WE(l:R):L3 l=0\/L3 l=3\/L3 l=5\/L3 l=6:=by
 unfold L3;split
 .exact .inr (.inl rfl)
 .split
  .exact .inr (.inl rfl)
  .split
   .exact .inr (.inr (.inl rfl))
   .exact .inl rfl
theorem ED(l:R):Pw l=0\/Pw l=3\/Pw l=5\/Pw l=6:=by
 unfold Pw;split
 .split
  .exact .inl rfl
  .exact .inr (.inr (.inr rfl))
 .unfold Kq;split
  .split
   .exact .inr (.inl rfl)
   .exact .inl rfl
  .exact WE _
theorem iz(s:R)(lo hi:Int):Rp s lo hi=0\/Rp s lo hi=6\/Rp s lo hi=3\/Rp s lo hi=5:=by
 unfold Rp;rcases ED s with h|h|h|h
 .rw[YS h];split
  .exact .inr (.inl rfl)
  .exact .inl rfl
 all_goals (rw[V (by rw[h];decide),h];simp)
theorem Xn{lo hi:Int}(e:RE W w g A n c ws0)(x:Qm ws0 n rest)(y:K7 w g (Lj A n c rest.length f)):YG XW 129 #[Zq g 0,I lo,I hi] w
 (Lt w [g] S3 (SR lo hi f rest) (λd (_:Unit)=> .tuple #[I d.1,.bool d.2.1]) (λd _ u=>K7 u g (Lj A n c d.2.2.1.length d.2.2.2))):=by
 have lg:=e.lg;cases rest with
 |nil=>
  exact tg func129 rfl e.hW lg y<|M<|s6 (L:=[g]) (Φ':=λu=>N8 W w g u) (λb a h=>Rv (e.next a h) h.2.2) (λu h=>Kf (cs':=[]) lg u h) (λp u l o h _=>Nk p u l o h) O O<|sX λb a h=>Nj e.hW a h
 | cons s r=>
  rw[Dq];have B:=e.mem x;rcases iz s lo hi with k|k|k|k
  .rw[YS k];refine tg func129 rfl e.hW lg y<|M<|sZ (L:=[g]) (Φ':=λ_ u=>Pt W w g (Lj A n c r.length f) u) (λb a h=>Px (e.next a h) x h.2.2) (λu h=>Kf (cs':=[]) lg u h) (λ_ p u l o h t=>Kk p u l o h t) O O λ_=>M<|Z (λb a h=>Vc k rfl J) λu=>ZI true<|ZV (.tuple #[I (Af s lo hi),.bool true]) (λb a h=>Nw e.hW a (h b (AC _) λ_ _ _=>rfl).1)
  .rw[V (by rw[k];decide),YS k];refine tg func129 rfl e.hW lg y<|M<|sZ (L:=[g]) (Φ':=λ_ u=>Pt W w g (Lj A n c r.length f) u) (λb a h=>Px (e.next a h) x h.2.2) (λu h=>Kf (cs':=[]) lg u h) (λ_ p u l o h t=>Kk p u l o h t) O O λ_=>M<|Z (λb a h=>Vc k rfl J) λu=>ZI false<|ZI true<|s8 (L:=[g]) (G:=λu=>K7 u g (Lj A n c r.length true)) (Φ':=Pt W w g (Lj A n c r.length true)) (Uk 4 ⟨g,1,none⟩ Zt) (λb a h=>h.1.2.2.store1 (j:=1) O rfl Zs rfl) (λu h=>Kf (cs':=[]) lg u h.1) (λp u l o h t=>Kk p u l o h.1 t) O O<|M<|ZV (.tuple #[I 0,.bool false]) (λb a h=>Nw e.hW a (h b (AC _) λ_ _ _=>rfl))
  .rw[V (by rw[k];decide),V (by rw[k];decide)];exact tg func129 rfl e.hW lg y<|M<|sZ (L:=[g]) (Φ':=λ_ u=>Pt W w g (Lj A n c r.length f) u) (λb a h=>Px (e.next a h) x h.2.2) (λu h=>Kf (cs':=[]) lg u h) (λ_ p u l o h t=>Kk p u l o h t) O O λ_=>M<|Z (λb a h=>Vc k rfl J) λu=>ZI false<|ZI false<|td (Instr.panic Kh >>= λv=>pure (.value v)) Kh O (λb a h=>by simp[Instr.panic,Kh,BL]) O<|sX λb a h=>N9 e.hW a h.1
  .rw[V (by rw[k];decide),V (by rw[k];decide)];exact tg func129 rfl e.hW lg y<|M<|sZ (L:=[g]) (Φ':=λ_ u=>Pt W w g (Lj A n c r.length f) u) (λb a h=>Px (e.next a h) x h.2.2) (λu h=>Kf (cs':=[]) lg u h) (λ_ p u l o h t=>Kk p u l o h t) O O λ_=>M<|Z (λb a h=>Vc k rfl J) λu=>ZI false<|ZI false<|td (Instr.panic Kh >>= λv=>pure (.value v)) Kh O (λb a h=>by simp[Instr.panic,Kh,BL]) O<|sX λb a h=>N9 e.hW a h.1
end
abbrev Rk(c:Co):YM:= .agg #[.int .u8 (c.1.toNat:Int),.int .u8 (c.2.1.toNat:Int),.int .u8 (c.2.2.1.toNat:Int),.int .u8 (c.2.2.2.toNat:Int)]
section
variable{w W:YN}{g n c m:Nat}{A:YY}{f:Bool}{s l:R}{ws0 rest r:WS}
theorem Yr{lo hi z:Int}{b e:Bool}(a:Qm ws0 n rest)(h:SR lo hi f rest=some (z,b,r,e)):Qm ws0 n r:=by
 cases rest with
 |nil=>cases h
 | cons s v=>
  rw[Dq]at h;split at h
  .cases h;exact a.tail
  .split at h
   .cases h;exact a.tail
   .cases h
theorem Mv{z:Int}{j:Bool}(e:Qm ws0 n rest)(h:Do f rest=some (z,r,j)):Qm ws0 n r:=by
 unfold Do at h;obtain⟨⟨t,b,p,a⟩,k,o⟩:=AQ.1 h;cases o;exact Yr e k
theorem Ou{L:WS}{frm z:Int}{b:Bool}(a:Qm ws0 n rest)(h:Bm L frm f rest=some (z,r,b)):Qm ws0 n r:=by
 cases rest with
 |nil=>cases h
 |cons s v=>
  unfold Bm at h;obtain⟨k,j,e⟩:=AQ.1 h;cases e;exact a.tail
theorem mJ{z:Co}{b:Bool}(a:Qm ws0 n rest)(h:XQ f rest=some (z,r,b)):Qm ws0 n r:=by
 cases rest with
 |nil=>cases h
 |cons s v=>
  unfold XQ at h;obtain⟨k,j,e⟩:=AQ.1 h;cases e;exact a.tail
theorem F0{z:Rat}{b:Bool}(a:Qm ws0 n rest)(h:ly f rest=some (z,r,b)):Qm ws0 n r:=by
 cases rest with
 |nil=>cases h
 |cons s v=>
  rw[L6]at h;split at h
  .cases h;exact a.tail
  .cases h
theorem PV(a:Below W.heap.size W w)(k:W.heap.size<=g)(j:K7 w g (Lj A n c 0 f)):YG XW 71 #[Zq g 0] w (Ni w [g] (λ_:Unit=> .tuple #[]) λ_ u=>K7 u g (Lj A n c 0 f)):=by
 refine tg func71 rfl a k j<|M<|ZA (L4 53 ⟨g,0,none⟩) (k0 A n c 0) (λe b h=>K9 O (by rw[h.2.2.cell];rfl))<|ZI false<|ZV (.tuple #[]) (λe b h=>Nw a b (h e (AC _) λ_ _ _=>rfl))
theorem j0(b:Below W.heap.size W w)(k:W.heap.size<=g)(j:K7 w g (Lj A n c (m+1) f)):YG XW 71 #[Zq g 0] w (Xa w [g] S3):=tg func71 rfl b k j<|M<|ZA (L4 53 ⟨g,0,none⟩) (k0 A n c (m+1)) (λe a h=>K9 O (by rw[h.2.2.cell];rfl))<|X (decide (((m+1:Nat):Int)>0)) true Zs<|td (Instr.panic Kh >>= λv=>pure (.value v)) Kh O (λe a h=>by simp[Instr.panic,Kh,BL]) O<|sX λe a h=>N9 b a h
theorem N5(e:RE W w g A n c ws0)(x:Qm ws0 n rest)(C:K7 w g (Lj A n c rest.length f)):YG XW 67 #[Zq g 0] w
 (Lt w [g] S3 (Do f rest) (λd (_:Unit)=>I d.1) (λd _ u=>K7 u g (Lj A n c d.2.1.length d.2.2))):=by
 have lg:=e.lg;refine tg func67 rfl e.hW lg C ?_;unfold Do;cases v:SR c8 dl f rest with
 |none=>
  exact M<|s6 (L:=[g]) (Φ':=λu=>N8 W w g u) (λj a h=>by have t:=Xn (lo:=c8) (hi:=dl) (e.next a h) x h.2.2;rw[v]at t;exact t) (λu h=>Kf (cs':=[]) lg u h) (λp u k o h _=>Nk p u k o h) O O<|sX λj a h=>Nj e.hW a h
 |some d=>
  obtain⟨z,b,r,y⟩:=d;refine M<|sZ (L:=[g]) (Φ':=λ_ u=>Pt W w g (Lj A n c r.length y) u) (λj a h=>by have t:=Xn (lo:=c8) (hi:=dl) (e.next a h) x h.2.2;rw[v]at t;exact t) (λu h=>Kf (cs':=[]) lg u h) (λ_ p u k o h B=>Kk p u k o h B) O O λ_=>M<|ZV (I z) (λj a h=>Nw e.hW a (h j (AC _) λ_ _ _=>rfl))
theorem F3(b:RE W w g A n c ws0)(D:Qm ws0 n rest)(G:K7 w g (Lj A n c rest.length f)):YG XW 111 #[Zq g 0] w
 (Lt w [g] S3 (I_ f rest) (λd (_:Unit)=>pt d.1.1 d.1.2) (λd _ u=>K7 u g (Lj A n c d.2.1.length d.2.2))):=by
 have lg:=b.lg;refine tg func111 rfl b.hW lg G ?_;unfold I_;cases C:Do f rest with
 |none=>
  exact M<|s6 (L:=[g]) (Φ':=λu=>N8 W w g u) (λo a h=>by have t:=N5 (b.next a h) D h.2.2;rw[C]at t;exact t) (λu h=>Kf (cs':=[]) lg u h) (λk u e j h _=>Nk k u e j h) O O<|sX λo a h=>Nj b.hW a h
 | some d=>
  obtain⟨x,r,vg⟩:=d;have B:=Mv D C;rw[CQ];simp only;cases p:Do vg r with
  |none=>
   exact M<|sZ (L:=[g]) (Φ':=λ_ u=>Pt W w g (Lj A n c r.length vg) u) (λo a h=>by have t:=N5 (b.next a h) D h.2.2;rw[C]at t;exact t) (λu h=>Kf (cs':=[]) lg u h) (λ_ k u e j h v=>Kk k u e j h v) O O λ_=>M<|s6 (L:=[g]) (Φ':=λu=>N8 W w g u) (λo a h=>by have t:=N5 (b.next a h) B h.2.2;rw[p]at t;exact t) (λu h=>Kf (cs':=[]) lg u h) (λk u e j h _=>Nk k u e j h) O O<|sX λo a h=>Nj b.hW a h
  |some d=>
   obtain⟨y,uS,F⟩:=d;refine M<|sZ (L:=[g]) (Φ':=λ_ u=>Pt W w g (Lj A n c r.length vg) u) (λo a h=>by have t:=N5 (b.next a h) D h.2.2;rw[C]at t;exact t) (λu h=>Kf (cs':=[]) lg u h) (λ_ k u e j h v=>Kk k u e j h v) O O λ_=>M<|sZ (L:=[g]) (Φ':=λ_ u=>Pt W w g (Lj A n c uS.length F) u) (λo a h=>by have t:=N5 (b.next a h) B h.2.2;rw[p]at t;exact t) (λu h=>Kf (cs':=[]) lg u h) (λ_ k u e j h v=>Kk k u e j h v) O O λ_=>M<|ZV (pt x y) (λo a h=>Nw b.hW a (h o (AC _) λ_ _ _=>rfl))
theorem WO(h:l.length=8):Dl (35::l)=match Ao l with
 |some [r,g,b,a]=>some (r,g,b,a)
 |_=>none:=by
 unfold Dl;rw[YS ⟨by rw[AD,h],rfl⟩];rfl
theorem ew{p:R}{K:Nat}(uS:Ao l=some p)(ve:p.length=K)(v:0<K)(uR:l.length<=20000):YG XW 185 #[E l] w (K6 w (λy:Nat×Nat=> .tuple #[.slice (some ⟨y.1,0,none⟩) K y.2,I 0]) λy u=>∀(k:Nat) (b:UInt8),p[k]? =some b->u.cell? ⟨y.1,k,none⟩=some (.int .u8 (b.toNat:Int))):=by
 subst ve;refine(Zj uS J).mono λe B k=> ?_
 obtain⟨y,vf,vg,t⟩:=k;have h:Y B 0 5 1 y.1 p.length y.2 (bv p):=t B (AC _) λ_ _ _=>rfl
 obtain⟨g,x,_⟩:=h.cells v;refine⟨(g,y.2),by rw[vf];show Ending.returned (.tuple #[.slice y.1 _ _,_])=_;rw[x],vg,λa D C k b G=> ?_⟩;have j:Y a 0 5 1 y.1 p.length y.2 (bv p):=t a D C;obtain⟨L,o,F⟩:=j.cells v;rw[x]at o;cases o;exact F k _ (by unfold bv;rw[BQ,G];rfl)
theorem iD(h:Dl l=none)(F:l.length<=65536):Zv 130 #[E l] w (.tuple #[Rk Ss,I 3]):=by
 by_cases v:l.length=9
 case neg=>
  exact sL func130 rfl<|H 3<|ZT 8 (.bool ((l.length:Int) !=9)) Zt Zp<|ZI true<|ZW (.tuple #[Rk Ss,I 3])
 obtain⟨b,l,rfl⟩:∃b t,l=b::t:=by cases l with
  |nil=>cases v
  |cons b t=>exact⟨b,t,rfl⟩
 have C:l.length=8:=by simpa using v
 refine sL func130 rfl<|H 3 ?_
 by_cases B:b=35
 case neg=>
  exact sM 8 (.bool (((b::l).length:Int) !=9)) Zf O Zp<|H 5<|sV (D0 9 (E (b::l)) (0:Nat)) (.int .u8 (b.toNat:Int)) O (λk j h=>Mc O rfl)<|H 7<|ZT 12 (.bool ((b.toNat:Int) !=35)) Zt (by simp;intro e;exact B (AR.1 (by show b.toNat=35;omega)))<|ZI true<|ZW (.tuple #[Rk Ss,I 3])
 subst B;have a:Ao l=none:=by
  rw[WO C]at h;cases o:Ao l with
  |none=>rfl
  |some p=>
   have D:p.length=4:=by have:=B1 o;have vg:=Qe p;rw[this,C]at vg;omega
   match p,D with
   | [x,y,z,u],_=>rw[o]at h;cases h
 exact sM 8 (.bool (((35::l).length:Int) !=9)) Zf O Zp<|H 5<|ZA (D0 9 (E (35::l)) (0:Nat)) (.int .u8 35) (λk j h=>Mc (b:=35) O rfl)<|sW false O<|H 1<|ZA (Y3 9 (E (35::l)) ((1:Nat):Int)) (E l) (λk j h=>Ux O Zs)<|Z (λk j h=>PA a J) λy=>ZI true<|ZW (.tuple #[Rk Ss,I 3])
theorem ij{k:Co}(h:Dl l=some k):Zv 130 #[E l] w (.tuple #[Rk k,I 0]):=by
 have j:=ik h;obtain⟨o,rfl⟩:∃t,l=35::t:=⟨_,j.symm⟩
 have v:o.length=8:=by
  have:=congrArg List.length j;unfold P9 at this;rw[AD,AD,Qe]at this;have x:(Z0 k).length=4:=rfl;omega
 have u:Ao o=some (Z0 k):=by
  have p:Qf (Z0 k)=o:=by unfold P9 at j;exact List.tail_eq_of_cons_eq j
  rw[<-p];exact KC _
 exact sL func130 rfl<|H 3<|sM 8 (.bool (((35::o).length:Int) !=9)) Zf O Zp<|H 5<|ZA (D0 9 (E (35::o)) (0:Nat)) (.int .u8 35) (λe a h=>Mc (b:=35) O rfl)<|sW false O<|H 1<|ZA (Y3 9 (E (35::o)) ((1:Nat):Int)) (E o) (λe a h=>Ux O Zs)<|Z (λe a h=>ew (K:=4) u rfl Zd J) λy=>ZI false<|ZB 1 (Ki 108 (.slice (some ⟨y.1,0,none⟩) 4 y.2) (0:Nat)) (.pointer (some ((⟨y.1,0,none⟩:YB).add 0))) (λe a h=>Kg (elem:=5) O O Zd)<|ZB 2 (L4 5 ((⟨y.1,0,none⟩:YB).add 0)) (.int .u8 (k.1.toNat:Int)) (λe a h=>K9 O (by rw[Addr.add_mid,AY];exact h.2 0 _ rfl))<|ZB 4 (Ki 108 (.slice (some ⟨y.1,0,none⟩) 4 y.2) (1:Nat)) (.pointer (some ((⟨y.1,0,none⟩:YB).add 1))) (λe a h=>Kg (elem:=5) O O Zd)<|ZB 5 (L4 5 ((⟨y.1,0,none⟩:YB).add 1)) (.int .u8 (k.2.1.toNat:Int)) (λe a h=>K9 O (by rw[Addr.add_mid,AY];exact h.2 1 _ rfl))<|ZB 7 (Ki 108 (.slice (some ⟨y.1,0,none⟩) 4 y.2) (2:Nat)) (.pointer (some ((⟨y.1,0,none⟩:YB).add 2))) (λe a h=>Kg (elem:=5) O O Zd)<|ZB 8 (L4 5 ((⟨y.1,0,none⟩:YB).add 2)) (.int .u8 (k.2.2.1.toNat:Int)) (λe a h=>K9 O (by rw[Addr.add_mid,AY];exact h.2 2 _ rfl))<|ZB 10 (Ki 108 (.slice (some ⟨y.1,0,none⟩) 4 y.2) (3:Nat)) (.pointer (some ((⟨y.1,0,none⟩:YB).add 3))) (λe a h=>Kg (elem:=5) O O Zd)<|ZB 11 (L4 5 ((⟨y.1,0,none⟩:YB).add 3)) (.int .u8 (k.2.2.2.toNat:Int)) (λe a h=>K9 O (by rw[Addr.add_mid,AY];exact h.2 3 _ rfl))<|ZW (.tuple #[Rk k,I 0])
end
section
variable{w W:YN}{g n c m:Nat}{A:YY}{f:Bool}{s l:R}{ws0 rest r:WS}
theorem B5(b:RE W w g A n c ws0)(y:Qm ws0 n rest)(C:K7 w g (Lj A n c rest.length f)):YG XW 68 #[Zq g 0] w
 (Lt w [g] S3 (XQ f rest) (λd (_:Unit)=>Rk d.1) (λd _ u=>K7 u g (Lj A n c d.2.1.length d.2.2))):=by
 have lg:=b.lg;cases rest with
 |nil=>
  exact tg func68 rfl b.hW lg C<|M<|s6 (L:=[g]) (Φ':=λu=>N8 W w g u) (λe a h=>Rv (b.next a h) h.2.2) (λu h=>Kf (cs':=[]) lg u h) (λp u j o h _=>Nk p u j o h) O O<|sX λe a h=>Nj b.hW a h
 | cons s r=>
  have B:=b.mem y;have t:XQ f (s::r)=(Dl s).map λc=>(c,r,f):=rfl
  rw[t];cases D:Dl s with
  |none=>
   exact tg func68 rfl b.hW lg C<|M<|sZ (L:=[g]) (Φ':=λ_ u=>Pt W w g (Lj A n c r.length f) u) (λe a h=>Px (b.next a h) y h.2.2) (λu h=>Kf (cs':=[]) lg u h) (λ_ p u j o h x=>Kk p u j o h x) O O λ_=>M<|Z (λe a h=>iD D B) λu=>ZI true<|td (Instr.panic Kh >>= λv=>pure (.value v)) Kh O (λe a h=>by simp[Instr.panic,Kh,BL]) O<|sX λe a h=>N9 b.hW a h.1
  |some k=>
   refine tg func68 rfl b.hW lg C<|M<|sZ (L:=[g]) (Φ':=λ_ u=>Pt W w g (Lj A n c r.length f) u) (λe a h=>Px (b.next a h) y h.2.2) (λu h=>Kf (cs':=[]) lg u h) (λ_ p u j o h x=>Kk p u j o h x) O O λ_=>M<|Z (λe a h=>ij D) λu=>ZI false<|ZV (Rk k) (λe a h=>Nw b.hW a (h e (AC _) λ_ _ _=>rfl).1)
def M2:WS:=[[110,111,110,122,101,114,111],[101,118,101,110,111,100,100]]
theorem Lh{g:Nat}{L:WS}{cells:Array YM}{n:Nat}(h:Kr 9 cells g w)(e:cells.toList=sv L)(b:L.length=n:=by rfl):Km w (some ⟨g,0,none⟩) n L:=by
 refine⟨b,λk s a=>⟨⟨g,0,none⟩,rfl,?_⟩⟩;unfold Kr at h;rw[Addr.add_mid,AY];simp only[CA,h,CB,BI,if_false];rw[<-Array.getElem?_toList,e];unfold sv;rw[BQ,a];rfl
theorem J1:YG XW 106 #[.string ⟨#[115,112,114,101,97,100]⟩] w (K6 w (λy:Nat=> .tuple #[.slice (some ⟨y,0,none⟩) 4 4,I 0]) λy u=>Km u (some ⟨y,0,none⟩) 4 Lm):=by
 refine sL func106 rfl<|M<|ZI true<|sO (Kw 53 4 #[(0,E [110,111,110,101]),(1,E [112,97,100]),(2,E [114,101,112,101,97,116]),(3,E [114,101,102,108,101,99,116])]) (Kd 4) (Kr 9 #[E [110,111,110,101],E [112,97,100],E [114,101,112,101,97,116],E [114,101,102,108,101,99,116]]) O (λk b h=>Kb O) λy=>M<|ZV (.tuple #[.slice (some ⟨y,0,none⟩) 4 4,I 0]) (λk b h=>⟨y,rfl,b,λa j e=>Lh (h a j e).2 rfl⟩)
theorem JA:YG XW 106 #[.string ⟨#[108,111,111,107]⟩] w (K6 w (λy:Nat=> .tuple #[.slice (some ⟨y,0,none⟩) 2 2,I 1]) λy u=>Km u (some ⟨y,0,none⟩) 2 Ng):=by
 refine sL func106 rfl<|M<|ZI false<|ZI true<|sO (Kw 53 2 #[(0,E [110,101,97,114,101,115,116]),(1,E [98,105,108,105,110,101,97,114])]) (Kd 2) (Kr 9 #[E [110,101,97,114,101,115,116],E [98,105,108,105,110,101,97,114]]) O (λk b h=>Kb O) λy=>M<|ZV (.tuple #[.slice (some ⟨y,0,none⟩) 2 2,I 1]) (λk b h=>⟨y,rfl,b,λa j e=>Lh (h a j e).2 rfl⟩)
theorem JV:YG XW 106 #[.string ⟨#[114,117,108,101]⟩] w (K6 w (λy:Nat=> .tuple #[.slice (some ⟨y,0,none⟩) 2 2,I 1]) λy u=>Km u (some ⟨y,0,none⟩) 2 M2):=by
 refine sL func106 rfl<|M<|ZI false<|ZI false<|ZI true<|sO (Kw 53 2 #[(0,E [110,111,110,122,101,114,111]),(1,E [101,118,101,110,111,100,100])]) (Kd 2) (Kr 9 #[E [110,111,110,122,101,114,111],E [101,118,101,110,111,100,100]]) O (λk b h=>Kb O) λy=>M<|ZV (.tuple #[.slice (some ⟨y,0,none⟩) 2 2,I 1]) (λk b h=>⟨y,rfl,b,λa j e=>Lh (h a j e).2 rfl⟩)
end
section
variable{w W:YN}{g n c m:Nat}{A:YY}{f:Bool}{s l:R}{ws0 rest r:WS}
theorem RP{y k:Nat}{v v2:YM}{L:WS}(u:K7 w g [.slice A n c,v2])(h:Km w (some ⟨y,0,none⟩) k (s::L)):∀b∈bl (some (⟨y,0,none⟩:YB)),b∉[g]:=λb a o=>by
 simp only[bl,CO]at a o;have e:y=g:=a.symm.trans o;obtain⟨ad,t,j⟩:=h.2 0 s rfl;cases t;have p:w.cell? ⟨g,0,none⟩=some (.slice A n c):=by rw[u.cell];rfl
 rw[Addr.add_mid,e,p]at j;cases j
theorem Tq(e:RE W w g A n c ws0)(G:Qm ws0 n rest)(ve:K7 w g (Lj A n c rest.length f)):YG XW 112 #[Zq g 0,.string ⟨#[115,112,114,101,97,100]⟩] w
 (Lt w [g] S3 (Bm Lm 0 f rest) (λd (_:Unit)=>I d.1) (λd _ u=>K7 u g (Lj A n c d.2.1.length d.2.2))):=by
 have lg:=e.lg;refine tg func112 rfl e.hW lg ve<|M<|Z (λb a h=>J1) λy=> ?_
 cases rest with
 |nil=>
  exact s6 (L:=[g]) (Φ':=λu=>N8 W w g u) (λb a h=>Rv (e.next a h.1) h.1.2.2) (λu h=>Kf (cs':=[]) lg u h.1) (λC u t p h _=>Nk C u t p h.1) O O<|sX λb a h=>Nj e.hW a h
 | cons s r=>
  have vf:=e.mem G;refine sZ (L:=[g]) (Φ':=λ_ u=>Pt W w g (Lj A n c r.length f) u/\Km u (some ⟨y,0,none⟩) 4 Lm) (λb a h=>Px (e.next a h.1) G h.1.2.2) (λu h=>Kf (cs':=[]) lg u h.1) (λ_ C u t p h uS=>⟨Kk C u t p h.1 uS,h.2.left p (RP (v:= .bool f) h.1.2.2 h.2)⟩) O O λ_=>M ?_
  have D:Bm Lm 0 f (s::r)=(Cl s Lm).map λ(k:Nat)=>((0:Int)+(k:Int),r,f):=rfl
  rw[D];refine tx O<|M<|sW true O<|H 1<|ZA (Ki 53 (.slice (some ⟨y,0,none⟩) 4 4) (0:Nat)) (.pointer (some ((⟨y,0,none⟩:YB).add 0))) (λb a h=>Kg (elem:=9) O O Zd)<|sV (L4 9 ((⟨y,0,none⟩:YB).add 0)) (E [110,111,110,101]) O (λb a h=>K9 O (by obtain⟨ad,q1,o⟩:=h.2.2 0 [110,111,110,101] rfl;cases q1;exact o))<|H 2 ?_
  by_cases vg:s=[110,111,110,101]
  .subst vg;refine ZA (Nq .eql 9 (.tmp 24) (.tmp 25) (E [110,111,110,101]) (E [110,111,110,101])) Zt (λb a h=>Kj Zs)<|ZI true ?_
   have j:Cl [110,111,110,101] Lm=some 0:=Zd
   rw[j];refine ZV (I 0) (λb a h=>Nw e.hW a (h b (AC _) λ_ _ _=>rfl).1)
  refine ZA (Nq .eql 9 (.tmp 24) (.tmp 25) (E [110,111,110,101]) (E s)) Zf (λb a h=>Kj (by simpa using Ne.symm vg))<|ZI false<|sW true O<|H 1<|ZA (Ki 53 (.slice (some ⟨y,0,none⟩) 4 4) (1:Nat)) (.pointer (some ((⟨y,0,none⟩:YB).add 1))) (λb a h=>Kg (elem:=9) O O Zd)<|sV (L4 9 ((⟨y,0,none⟩:YB).add 1)) (E [112,97,100]) O (λb a h=>K9 O (by obtain⟨ad,q1,o⟩:=h.2.2 1 [112,97,100] rfl;cases q1;exact o))<|H 2 ?_
  by_cases F:s=[112,97,100]
  .subst F;refine ZA (Nq .eql 9 (.tmp 24) (.tmp 25) (E [112,97,100]) (E [112,97,100])) Zt (λb a h=>Kj Zs)<|ZI true ?_
   have j:Cl [112,97,100] Lm=some 1:=Zd
   rw[j];refine ZV (I 1) (λb a h=>Nw e.hW a (h b (AC _) λ_ _ _=>rfl).1)
  refine ZA (Nq .eql 9 (.tmp 24) (.tmp 25) (E [112,97,100]) (E s)) Zf (λb a h=>Kj (by simpa using Ne.symm F))<|ZI false<|sW true O<|H 1<|ZA (Ki 53 (.slice (some ⟨y,0,none⟩) 4 4) (2:Nat)) (.pointer (some ((⟨y,0,none⟩:YB).add 2))) (λb a h=>Kg (elem:=9) O O Zd)<|sV (L4 9 ((⟨y,0,none⟩:YB).add 2)) (E [114,101,112,101,97,116]) O (λb a h=>K9 O (by obtain⟨ad,q1,o⟩:=h.2.2 2 [114,101,112,101,97,116] rfl;cases q1;exact o))<|H 2 ?_
  by_cases x:s=[114,101,112,101,97,116]
  .subst x;refine ZA (Nq .eql 9 (.tmp 24) (.tmp 25) (E [114,101,112,101,97,116]) (E [114,101,112,101,97,116])) Zt (λb a h=>Kj Zs)<|ZI true ?_
   have j:Cl [114,101,112,101,97,116] Lm=some 2:=Zd
   rw[j];refine ZV (I 2) (λb a h=>Nw e.hW a (h b (AC _) λ_ _ _=>rfl).1)
  refine ZA (Nq .eql 9 (.tmp 24) (.tmp 25) (E [114,101,112,101,97,116]) (E s)) Zf (λb a h=>Kj (by simpa using Ne.symm x))<|ZI false<|sW true O<|H 1<|ZA (Ki 53 (.slice (some ⟨y,0,none⟩) 4 4) (3:Nat)) (.pointer (some ((⟨y,0,none⟩:YB).add 3))) (λb a h=>Kg (elem:=9) O O Zd)<|sV (L4 9 ((⟨y,0,none⟩:YB).add 3)) (E [114,101,102,108,101,99,116]) O (λb a h=>K9 O (by obtain⟨ad,q1,o⟩:=h.2.2 3 [114,101,102,108,101,99,116] rfl;cases q1;exact o))<|H 2 ?_
  by_cases B:s=[114,101,102,108,101,99,116]
  .subst B;refine ZA (Nq .eql 9 (.tmp 24) (.tmp 25) (E [114,101,102,108,101,99,116]) (E [114,101,102,108,101,99,116])) Zt (λb a h=>Kj Zs)<|ZI true ?_
   have j:Cl [114,101,102,108,101,99,116] Lm=some 3:=Zd
   rw[j];refine ZV (I 3) (λb a h=>Nw e.hW a (h b (AC _) λ_ _ _=>rfl).1)
  refine ZA (Nq .eql 9 (.tmp 24) (.tmp 25) (E [114,101,102,108,101,99,116]) (E s)) Zf (λb a h=>Kj (by simpa using Ne.symm B))<|ZI false<|ZI false ?_
  have j:Cl s Lm=none:=by
   unfold Lm;rw[Mf,V (Ne.symm vg),Mf,V (Ne.symm F),Mf,V (Ne.symm x),Mf,V (Ne.symm B)];rfl
  rw[j];exact td (Instr.panic Kh >>= λv=>pure (.value v)) Kh O (λb a h=>by simp[Instr.panic,Kh,BL]) O<|sX λb a h=>N9 e.hW a h.1
theorem Jy(e:RE W w g A n c ws0)(vg:Qm ws0 n rest)(uS:K7 w g (Lj A n c rest.length f)):YG XW 112 #[Zq g 0,.string ⟨#[108,111,111,107]⟩] w
 (Lt w [g] S3 (Bm Ng 1 f rest) (λd (_:Unit)=>I d.1) (λd _ u=>K7 u g (Lj A n c d.2.1.length d.2.2))):=by
 have lg:=e.lg;refine tg func112 rfl e.hW lg uS<|M<|Z (λb a h=>JA) λy=> ?_
 cases rest with
 |nil=>
  exact s6 (L:=[g]) (Φ':=λu=>N8 W w g u) (λb a h=>Rv (e.next a h.1) h.1.2.2) (λu h=>Kf (cs':=[]) lg u h.1) (λt u p o h _=>Nk t u p o h.1) O O<|sX λb a h=>Nj e.hW a h
 | cons s r=>
  have G:=e.mem vg;refine sZ (L:=[g]) (Φ':=λ_ u=>Pt W w g (Lj A n c r.length f) u/\Km u (some ⟨y,0,none⟩) 2 Ng) (λb a h=>Px (e.next a h.1) vg h.1.2.2) (λu h=>Kf (cs':=[]) lg u h.1) (λ_ t u p o h F=>⟨Kk t u p o h.1 F,h.2.left o (RP (v:= .bool f) h.1.2.2 h.2)⟩) O O λ_=>M ?_
  have x:Bm Ng 1 f (s::r)=(Cl s Ng).map λ(k:Nat)=>((1:Int)+(k:Int),r,f):=rfl
  rw[x];refine tx O<|M<|sW true O<|H 1<|ZA (Ki 53 (.slice (some ⟨y,0,none⟩) 2 2) (0:Nat)) (.pointer (some ((⟨y,0,none⟩:YB).add 0))) (λb a h=>Kg (elem:=9) O O Zd)<|sV (L4 9 ((⟨y,0,none⟩:YB).add 0)) (E [110,101,97,114,101,115,116]) O (λb a h=>K9 O (by obtain⟨ad,q1,D⟩:=h.2.2 0 [110,101,97,114,101,115,116] rfl;cases q1;exact D))<|H 2 ?_
  by_cases B:s=[110,101,97,114,101,115,116]
  .subst B;refine ZA (Nq .eql 9 (.tmp 24) (.tmp 25) (E [110,101,97,114,101,115,116]) (E [110,101,97,114,101,115,116])) Zt (λb a h=>Kj Zs)<|ZI true ?_
   have j:Cl [110,101,97,114,101,115,116] Ng=some 0:=Zd
   rw[j];refine ZV (I 1) (λb a h=>Nw e.hW a (h b (AC _) λ_ _ _=>rfl).1)
  refine ZA (Nq .eql 9 (.tmp 24) (.tmp 25) (E [110,101,97,114,101,115,116]) (E s)) Zf (λb a h=>Kj (by simpa using Ne.symm B))<|ZI false<|sW true O<|H 1<|ZA (Ki 53 (.slice (some ⟨y,0,none⟩) 2 2) (1:Nat)) (.pointer (some ((⟨y,0,none⟩:YB).add 1))) (λb a h=>Kg (elem:=9) O O Zd)<|sV (L4 9 ((⟨y,0,none⟩:YB).add 1)) (E [98,105,108,105,110,101,97,114]) O (λb a h=>K9 O (by obtain⟨ad,q1,D⟩:=h.2.2 1 [98,105,108,105,110,101,97,114] rfl;cases q1;exact D))<|H 2 ?_
  by_cases C:s=[98,105,108,105,110,101,97,114]
  .subst C;refine ZA (Nq .eql 9 (.tmp 24) (.tmp 25) (E [98,105,108,105,110,101,97,114]) (E [98,105,108,105,110,101,97,114])) Zt (λb a h=>Kj Zs)<|ZI true ?_
   have j:Cl [98,105,108,105,110,101,97,114] Ng=some 1:=Zd
   rw[j];refine ZV (I 2) (λb a h=>Nw e.hW a (h b (AC _) λ_ _ _=>rfl).1)
  refine ZA (Nq .eql 9 (.tmp 24) (.tmp 25) (E [98,105,108,105,110,101,97,114]) (E s)) Zf (λb a h=>Kj (by simpa using Ne.symm C))<|ZI false<|ZI false ?_
  have j:Cl s Ng=none:=by
   unfold Ng;rw[Mf,V (Ne.symm B),Mf,V (Ne.symm C)];rfl
  rw[j];exact td (Instr.panic Kh >>= λv=>pure (.value v)) Kh O (λb a h=>by simp[Instr.panic,Kh,BL]) O<|sX λb a h=>N9 e.hW a h.1
theorem NN(e:RE W w g A n c ws0)(vg:Qm ws0 n rest)(uS:K7 w g (Lj A n c rest.length f)):YG XW 112 #[Zq g 0,.string ⟨#[114,117,108,101]⟩] w
 (Lt w [g] S3 (Bm M2 1 f rest) (λd (_:Unit)=>I d.1) (λd _ u=>K7 u g (Lj A n c d.2.1.length d.2.2))):=by
 have lg:=e.lg;refine tg func112 rfl e.hW lg uS<|M<|Z (λb a h=>JV) λy=> ?_
 cases rest with
 |nil=>
  exact s6 (L:=[g]) (Φ':=λu=>N8 W w g u) (λb a h=>Rv (e.next a h.1) h.1.2.2) (λu h=>Kf (cs':=[]) lg u h.1) (λt u p o h _=>Nk t u p o h.1) O O<|sX λb a h=>Nj e.hW a h
 | cons s r=>
  have G:=e.mem vg;refine sZ (L:=[g]) (Φ':=λ_ u=>Pt W w g (Lj A n c r.length f) u/\Km u (some ⟨y,0,none⟩) 2 M2) (λb a h=>Px (e.next a h.1) vg h.1.2.2) (λu h=>Kf (cs':=[]) lg u h.1) (λ_ t u p o h F=>⟨Kk t u p o h.1 F,h.2.left o (RP (v:= .bool f) h.1.2.2 h.2)⟩) O O λ_=>M ?_
  have x:Bm M2 1 f (s::r)=(Cl s M2).map λ(k:Nat)=>((1:Int)+(k:Int),r,f):=rfl
  rw[x];refine tx O<|M<|sW true O<|H 1<|ZA (Ki 53 (.slice (some ⟨y,0,none⟩) 2 2) (0:Nat)) (.pointer (some ((⟨y,0,none⟩:YB).add 0))) (λb a h=>Kg (elem:=9) O O Zd)<|sV (L4 9 ((⟨y,0,none⟩:YB).add 0)) (E [110,111,110,122,101,114,111]) O (λb a h=>K9 O (by obtain⟨ad,q1,D⟩:=h.2.2 0 [110,111,110,122,101,114,111] rfl;cases q1;exact D))<|H 2 ?_
  by_cases B:s=[110,111,110,122,101,114,111]
  .subst B;refine ZA (Nq .eql 9 (.tmp 24) (.tmp 25) (E [110,111,110,122,101,114,111]) (E [110,111,110,122,101,114,111])) Zt (λb a h=>Kj Zs)<|ZI true ?_
   have j:Cl [110,111,110,122,101,114,111] M2=some 0:=Zd
   rw[j];refine ZV (I 1) (λb a h=>Nw e.hW a (h b (AC _) λ_ _ _=>rfl).1)
  refine ZA (Nq .eql 9 (.tmp 24) (.tmp 25) (E [110,111,110,122,101,114,111]) (E s)) Zf (λb a h=>Kj (by simpa using Ne.symm B))<|ZI false<|sW true O<|H 1<|ZA (Ki 53 (.slice (some ⟨y,0,none⟩) 2 2) (1:Nat)) (.pointer (some ((⟨y,0,none⟩:YB).add 1))) (λb a h=>Kg (elem:=9) O O Zd)<|sV (L4 9 ((⟨y,0,none⟩:YB).add 1)) (E [101,118,101,110,111,100,100]) O (λb a h=>K9 O (by obtain⟨ad,q1,D⟩:=h.2.2 1 [101,118,101,110,111,100,100] rfl;cases q1;exact D))<|H 2 ?_
  by_cases C:s=[101,118,101,110,111,100,100]
  .subst C;refine ZA (Nq .eql 9 (.tmp 24) (.tmp 25) (E [101,118,101,110,111,100,100]) (E [101,118,101,110,111,100,100])) Zt (λb a h=>Kj Zs)<|ZI true ?_
   have j:Cl [101,118,101,110,111,100,100] M2=some 1:=Zd
   rw[j];refine ZV (I 2) (λb a h=>Nw e.hW a (h b (AC _) λ_ _ _=>rfl).1)
  refine ZA (Nq .eql 9 (.tmp 24) (.tmp 25) (E [101,118,101,110,111,100,100]) (E s)) Zf (λb a h=>Kj (by simpa using Ne.symm C))<|ZI false<|ZI false ?_
  have j:Cl s M2=none:=by
   unfold M2;rw[Mf,V (Ne.symm B),Mf,V (Ne.symm C)];rfl
  rw[j];exact td (Instr.panic Kh >>= λv=>pure (.value v)) Kh O (λb a h=>by simp[Instr.panic,Kh,BL]) O<|sX λb a h=>N9 e.hW a h.1
end
end Go.Proofs.YtnmokookhcgklaaGreatDoor
