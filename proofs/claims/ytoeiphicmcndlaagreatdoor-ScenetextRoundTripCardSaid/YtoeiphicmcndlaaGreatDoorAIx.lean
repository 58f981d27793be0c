/-
 Whole numbers as text and as ints, by the machine.
-/
import Derived.Test.YtoeiphicmcndlaaGreatDoorAO
import Derived.Test.YtoeiphicmcndlaaGreatDoorARf
import Derived.Test.YtoeiphicmcndlaaGreatDoorASh
import Derived.Lib.IndexBytes
import Derived.IntWalk
namespace Go.Proofs.YtoeiphicmcndlaaGreatDoor
set_option maxRecDepth 100000
set_option maxHeartbeats 8000000
set_option linter.unusedVariables false
set_option linter.unusedSimpArgs false
open Go.RowKit
section
variable{P:Program}{w:World}{l m:List UInt8}{t:TypeId}
def Qf(op:BinOp)(t:TypeId)(x y:Operand)(u v:Value):Sem Next:=(do eqGuard op t x y u v;binOp op t u v) >>= fun v=>pure (.value v)
def ixS(t:TypeId)(s:Value)(i:Int):Sem Next:=Instr.index t s (Zi i) >>= fun v=>pure (.value v)
def toS(t:TypeId)(s:Value)(i:Int):Sem Next:=Instr.slice t s none (some (Zi i)) none >>= fun v=>pure (.value v)
def fromS(t:TypeId)(s:Value)(i:Int):Sem Next:=Instr.slice t s (some (Zi i)) none none >>= fun v=>pure (.value v)
theorem B9{x y:Operand}(h:l.length+m.length≤9223372036854775807):(Qf .add t x y (K4 l) (K4 m)).run P w= .ok (.value (K4 (l++m))) w:=by
 have:=run_string_add_sum (P:=P) w ⟨l.toArray⟩ ⟨m.toArray⟩ (by simpa[ByteArray.size]using h)
 simp only[Qf,K4,eqGuard_add,Sem.run_bind,Sem.run_pure,Result.andThen_ok,binOp_string_add,this]
 rw[ByteArray.mk_append_mk]
theorem Se{i:Nat}{b:UInt8}(ht:P.underlying t=some .string)(h:l[i]? =some b):(ixS t (K4 l) i).run P w= .ok (.value (.int .u8 b.toNat)) w:=by
 obtain⟨h1,h2⟩:=List.getElem?_eq_some_iff.1 h
 have hs:(0:Int)≤(i:Int)∧(i:Int)<((⟨l.toArray⟩:ByteArray).size:Nat):=⟨by omega,by show(i:Int)<((l.length:Nat):Int);omega⟩
 simp only[ixS,K4,Sem.run_bind,run_index_string w t ⟨l.toArray⟩ .i64 i ht,dif_pos hs,Result.andThen_ok,Sem.run_pure]
 have:(⟨l.toArray⟩:ByteArray)[(i:Int).toNat]'Zo=b:=h2
 rw[this]
theorem run_toP{i:Nat}(ht:P.underlying t=some .string)(h:i≤l.length):(toS t (K4 l) i).run P w= .ok (.value (K4 (l.take i))) w:=by
 have:=run_slice_string_h (P:=P) w t ⟨l.toArray⟩ ht .i64 i Zo (by show(i:Int)≤((l.length:Nat):Int);omega)
 simp only[toS,K4,Sem.run_bind,this,Result.andThen_ok,Sem.run_pure,Int.toNat_natCast]
 have e:(⟨l.toArray⟩:ByteArray).extract 0 i=⟨(l.take i).toArray⟩:=by
  apply ByteArray.ext
  simp[ByteArray.data_extract]
 rw[e]
theorem run_fromP{i:Nat}(ht:P.underlying t=some .string)(h:i≤l.length):(fromS t (K4 l) i).run P w= .ok (.value (K4 (l.drop i))) w:=by
 have:=run_slice_string_l (P:=P) w t ⟨l.toArray⟩ ht .i64 i Zo (by show(i:Int)≤((l.length:Nat):Int);omega)
 simp only[fromS,K4,Sem.run_bind,this,Result.andThen_ok,Sem.run_pure,Int.toNat_natCast]
 have e:(⟨l.toArray⟩:ByteArray).extract i (⟨l.toArray⟩:ByteArray).size=⟨(l.drop i).toArray⟩:=by
  apply ByteArray.ext
  simp[ByteArray.data_extract,ByteArray.size,List.take_of_length_le]
 rw[e]
theorem sliceAtS{P:Program}{t:TypeId}{s:Value}{lo hi mx:Option Value}(ht:P.underlying t=some .string):(Instr.sliceAt t s lo hi mx).run P w=(Instr.slice t s lo hi mx).run P w:=run_sliceAt_string w t s lo hi mx ht
def fromA(t:TypeId)(s:Value)(i:Int):Sem Next:=Instr.sliceAt t s (some (Zi i)) none none >>= fun v=>pure (.value v)
theorem run_fromA{P:Program}{t:TypeId}{i:Nat}(ht:P.underlying t=some .string)(h:i≤l.length):(fromA t (K4 l) i).run P w= .ok (.value (K4 (l.drop i))) w:=by
 have:=run_fromP (w:=w) ht h
 simp only[fromA,fromS,Sem.run_bind,sliceAtS ht]at this ⊢
 exact this
end
def Kb(x:Int):List UInt8:=if x<0 then 45::Pw x.natAbs else Pw x.natAbs
theorem fmtI_neg{x:Int}(h:x<0):Kb x=45::Pw x.natAbs:=if_pos h
theorem Fq{x:Int}(h:¬x<0):Kb x=Pw x.natAbs:=if_neg h
theorem sgn_neg{x:Int}(h:x<0):Q5 x= -1:=if_pos h
theorem sgn_pos{x:Int}(h:¬x<0):¬Q5 x<0:=by unfold Q5;rw[if_neg h];split<;>omega
def Vu(l:List UInt8):Bool:=Lib.hasPrefix l [45]
def N0(l:List UInt8):List UInt8:=Lib.trimPrefix l [45]
def Ky(l:List UInt8):Int:=if Lp (N0 l)=0 then(if Vu l=true∧O6 (N0 l)=0 then 3 else 0)else Lp (N0 l)
def Lz(l:List UInt8):Int:=if Ky l=0 then zi (Vu l) (O6 (N0 l))else 0
theorem E8{l:List UInt8}(h:Lp (N0 l)≠0):Ky l=Lp (N0 l)∧Lz l=0:=by
 have h1:Ky l=Lp (N0 l):=if_neg h
 exact⟨h1,by rw[Lz,if_neg (by rw[h1];exact h)]⟩
theorem Ib{l:List UInt8}(h:Lp (N0 l)=0)(h2:Vu l=true)(h3:O6 (N0 l)=0):Ky l=3∧Lz l=0:=by
 have h1:Ky l=3:=by rw[Ky,if_pos h,if_pos ⟨h2,h3⟩]
 exact⟨h1,by rw[Lz,if_neg (by rw[h1];omega)]⟩
theorem S6{l:List UInt8}(h:Lp (N0 l)=0)(h2:¬(Vu l=true∧O6 (N0 l)=0)):Ky l=0∧Lz l=zi (Vu l) (O6 (N0 l)):=by
 have h1:Ky l=0:=by rw[Ky,if_pos h,if_neg h2]
 exact⟨h1,by rw[Lz,if_pos h1]⟩
theorem parseV_lt(l:List UInt8):O6 l<pw 125:=by
 by_cases h:Lp l=0
 ·obtain⟨_,h2,h3,_⟩:=decS_parse h
  rw[O6,if_pos h]
  exact rdv_pw h2 Zo
 ·rw[O6,if_neg h];exact Xu _
theorem pneg_nil:Vu []=false∧N0 []=[]:=⟨rfl,rfl⟩
theorem P1(t:List UInt8):Vu (45::t)=true∧N0 (45::t)=t:=by
 have h:Vu (45::t)=true:=by simp[Vu,Lib.hasPrefix,List.isPrefixOf]
 exact⟨h,by rw[N0,Lib.trimPrefix,if_pos (show Lib.hasPrefix (45::t) [45]=true from h)];rfl⟩
theorem Uj{b:UInt8}{t:List UInt8}(hb:b≠45):Vu (b::t)=false∧N0 (b::t)=b::t:=by
 have h:Vu (b::t)=false:=by simp[Vu,Lib.hasPrefix,List.isPrefixOf];exact fun e=>hb e.symm
 exact⟨h,by rw[N0,Lib.trimPrefix,if_neg (by rw[show Lib.hasPrefix (b::t) [45]=Vu (b::t)from rfl,h];decide)]⟩
def J0(x:Int):Bool:=decide (-9223372036854775808≤x∧x≤9223372036854775807)
def toV(x:Int):Int:=if J0 x then x else 0
theorem Bt{x:Int}(h1: -9223372036854775808≤x)(h2:x≤9223372036854775807):J0 x=true∧toV x=x:=by
 have h:J0 x=true:=decide_eq_true ⟨h1,h2⟩
 exact⟨h,by rw[toV,h];rfl⟩
theorem Hj{x:Int}(h:¬(-9223372036854775808≤x∧x≤9223372036854775807)):J0 x=false∧toV x=0:=by
 have h:J0 x=false:=decide_eq_false h
 exact⟨h,by rw[toV,h];rfl⟩
theorem or_zero1{y:Nat}(hy:y<4294967296):bits .or .u64 0 (y:Int)=(y:Int):=by
 rw[show(0:Int)=((0:Nat):Int)from rfl,u64_or_nat _ _ Zo Zo,Nat.zero_or]
theorem in_cell{w:World}{ad:Addr}{n c k:Nat}{l:List Nat}(h:In w (some ad) n c l)(hk:k<n):w.cell? (ad.add k)=some (.int .u32 (dg l k:Int)):=by
 obtain⟨ad2,h1,h2⟩:=h.at_ hk
 cases h1;exact h2
theorem u64_nat{k:Nat}(h:k<18446744073709551616):IntKind.u64.wrap (k:Int)=(k:Int):=by rw[L6];omega
section
variable{w:World}{a:SV}{x:Int}{K k:Nat}{d:DV}{l:List UInt8}
theorem decS_small(hK:K≤1073741824)(h:k<pw K):(Pw k).length≤10737418250:=by
 have:=decS_len (n:=k) (k:=K+1) Zo (Nat.lt_trans h (pw_lt Zo))
 omega
theorem nfmt_m(h:C7 d k K w)(hK:K≤1073741824):Zv 61 #[d.val] w (K4 (Pw k)):=
 (format_c w h.1 (Nat.le_trans h.2.2 hK)).mono fun e w' q=>⟨(),by rw[q.1,h.2.1],q.2,fun _ _ _=>trivial⟩
theorem parseD{E:Int}{e:Ending}{w':World}(hE:Lp l=E)(q:Qv w l e w'):K7 w (fun v:DV=> .tuple #[v.val,Zi E]) (fun v u=>C5 v (O6 l) 125 u) e w':=by
 obtain⟨A,n,c,dd,he,N,hv,o,hb⟩:=q
 obtain⟨z,h1,h3,h4⟩:=Tq.postO (K:=125) ⟨A,n,c,dd,rfl,N,hv,o,hb⟩ (parseV_lt l)
 have e2:Value.slice A n c=z.val:=by injection h1
 exact⟨z,by rw[he,hE,e2],h3,h4⟩
theorem Ff{E:Int}(hE:Lp l=E)(h:l.length≤9223372036854775807):Calls Tryz.prog 248 #[K4 l] w (K7 w (fun v:DV=> .tuple #[v.val,Zi E]) fun v u=>C5 v (O6 l) 125 u):=(parse_c ⟨l.toArray⟩ h w).mono fun e w' q=>parseD hE q
theorem cutp_m{B:Bool}(hB:Vu l=B):Zv 247 #[K4 l,.string ⟨#[45]⟩] w (.tuple #[K4 (N0 l),.bool B]):=
 (Tryz.strings_CutPrefix ⟨l.toArray⟩ ⟨#[45]⟩ w).mono fun e w' q=>⟨(),by rw[q.1,←hB];rfl,by rw[q.2];exact Below.refl _ _,fun _ _ _=>trivial⟩
theorem prest_len:(N0 l).length≤l.length:=by
 cases l with
 |nil=>exact Nat.le_refl _
 |cons b t=>
  by_cases hb:b=45
  ·subst hb;rw[(P1 t).2];simp
  ·rw[(Uj hb).2];exact Nat.le_refl _
theorem He(ia:Pg a x K w)(hK:K≤1073741824):Zv 30 #[a.val] w (K4 (Kb x)):=by
 have hl:=decS_small hK ia.lt
 by_cases h0:x<0
 ·exact K0.enter Tryz.func30 rfl <| ZR <| ZC (fun w1 hw h=>Um (ia.below hw) Zo) fun s=>ZJ (decide (Q5 x<0)) true (decide_eq_true (by rw[sgn_neg h0];decide)) <| ZD 3 (fun w1 hw h=>nfmt_m (ia.d.below hw) hK) fun f=>ZA (Qf .add 9 (.const (.string ⟨#[45]⟩)) (.tmp 8) (K4 [45]) (K4 (Pw x.natAbs))) (K4 ([45]++Pw x.natAbs)) (fun w1 hw h=>B9 Zp) <| ZX (K4 ([45]++Pw x.natAbs)) (by rw[fmtI_neg h0];rfl)
 ·exact K0.enter Tryz.func30 rfl <| ZR <| ZC (fun w1 hw h=>Um (ia.below hw) Zo) fun s=>ZJ (decide (Q5 x<0)) false (decide_eq_false (sgn_pos h0)) <| ZC (fun w1 hw h=>nfmt_m (ia.d.below hw) hK) fun f=>ZX (K4 (Pw x.natAbs)) (by rw[Fq h0])
theorem parse_n{u:World}{v:SV}(h:T7 v (zi (Vu l) (O6 (N0 l))) 125 u)(hE:Lp (N0 l)=0)(h2:¬(Vu l=true∧O6 (N0 l)=0)):T7 v (Lz l) 125 u:=by rw[(S6 hE h2).2];exact h
theorem parse_z{u:World}(h:Lz l=0):T7 ⟨false,none,0,0,[]⟩ (Lz l) 125 u:=by rw[h];exact sv_zero
theorem Br(hlen:l.length≤9223372036854775807):Calls Tryz.prog 204 #[K4 l] w (K7 w (fun v:SV=> .tuple #[v.val,Zi (Ky l)]) fun v u=>T7 v (Lz l) 125 u):=by
 have hp:=prest_len (l:=l)
 cases hB:Vu l
 all_goals by_cases hE:Lp (N0 l)=0
 case neg=>
  have hz:=E8 hE
  refine K0.enter Tryz.func204 rfl <| ZR <| ZC (fun w1 hw h=>cutp_m hB) fun c=>ZC (fun w1 hw h=>Ff (l:=N0 l) rfl Zo) fun m=>ZJ ((Lp (N0 l) !=0)) true (bne_iff_ne.2 hE) <| ZV (.tuple #[.agg #[.bool false,.slice none 0 0],Zi (Lp (N0 l))]) (fun w1 hw h=>⟨⟨false,none,0,0,[]⟩,by rw[hz.1],hw,fun w'' k1 k2=>parse_z hz.2⟩)
 case neg=>
  have hz:=E8 hE
  refine K0.enter Tryz.func204 rfl <| ZR <| ZC (fun w1 hw h=>cutp_m hB) fun c=>ZC (fun w1 hw h=>Ff (l:=N0 l) rfl Zo) fun m=>ZJ ((Lp (N0 l) !=0)) true (bne_iff_ne.2 hE) <| ZV (.tuple #[.agg #[.bool false,.slice none 0 0],Zi (Lp (N0 l))]) (fun w1 hw h=>⟨⟨false,none,0,0,[]⟩,by rw[hz.1],hw,fun w'' k1 k2=>parse_z hz.2⟩)
 ·have h2:¬(Vu l=true∧O6 (N0 l)=0):=by rw[hB];simp
  refine K0.enter Tryz.func204 rfl <| ZR <| ZC (fun w1 hw h=>cutp_m hB) fun c=>ZC (fun w1 hw h=>Ff (l:=N0 l) hE Zo) fun m=>ZI false <| ZI false <| ZC (fun w1 hw h=>Vh (a:=⟨false,m.A,m.n,m.c,m.l⟩) ((h.2.1.1).sv false) Zd) fun v=>ZV (.tuple #[v.val,Zi 0]) (fun w1 hw h=>⟨v,by rw[(S6 hE h2).1],hw,fun w'' k1 k2=>parse_n (by rw[hB];exact(h w'' k1 k2).2) hE h2⟩)
 ·refine K0.enter Tryz.func204 rfl <| ZR <| ZC (fun w1 hw h=>cutp_m hB) fun c=>ZC (fun w1 hw h=>Ff (l:=N0 l) hE Zo) fun m=>ZI false ?_
  by_cases h0:O6 (N0 l)=0
  ·have hz:=Ib hE hB h0
   refine K0.pure_ (p:=m.n=0) (fun w1 hw h=>by have q:=h.2.1.pos;omega) Zk fun e=>ZJ (((m.n:Int)==0)) true (by rw[e];rfl) <| ZV (.tuple #[.agg #[.bool false,.slice none 0 0],Zi 3]) (fun w1 hw h=>⟨⟨false,none,0,0,[]⟩,by rw[hz.1],hw,fun w'' k1 k2=>parse_z hz.2⟩)
  ·have h2:¬(Vu l=true∧O6 (N0 l)=0):=fun q=>h0 q.2
   refine K0.pure_ (p:=m.n≠0) (fun w1 hw h=>by have q:=h.2.1.pos;omega) Zk fun e=>ZJ (((m.n:Int)==0)) false (beq_eq_false_iff_ne.2 Zo) <| ZC (fun w1 hw h=>Vh (a:=⟨true,m.A,m.n,m.c,m.l⟩) ((h.2.1.1).sv true) Zd) fun v=>ZV (.tuple #[v.val,Zi 0]) (fun w1 hw h=>⟨v,by rw[(S6 hE h2).1],hw,fun w'' k1 k2=>parse_n (by rw[hB];exact(h w'' k1 k2).2) hE h2⟩)
theorem val1{l:List Nat}(h:l.length=1):val l=dg l 0:=by
 match l,h with
 | [a],_=>simp[val,dg]
theorem val2{l:List Nat}(h:l.length=2):val l=dg l 1*4294967296+dg l 0:=by
 match l,h with
 | [a,b],_=>simp[val,dg];omega
theorem norm_big{l:List Nat}(h:Mx l)(hl:2<l.length):18446744073709551616≤val l:=by
 have h1:=h.pos (by intro e;rw[e]at hl;simp at hl)
 have h2:=Aa (show 2≤l.length-1 by omega)
 rw[Sj]at h2
 omega
theorem neg_conv{k:Nat}(h:k≤9223372036854775808):IntKind.i64.wrap (IntKind.u64.wrap (0- (k:Int)))= -(k:Int):=by rw[L6,IntKind.wrap_i64];omega
theorem pos_conv{k:Nat}(h:k<9223372036854775808):IntKind.i64.wrap (k:Int)=(k:Int):=by rw[IntKind.wrap_i64];omega
theorem u64_shl{k:Nat}(h:k<4294967296):IntKind.u64.wrap ((k:Int)*2 ^ 32)=(k:Int)*4294967296:=by rw[L6];omega
theorem itoInt_m(ia:Pg a x K w)(hK:K≤274877906944):Zv 242 #[a.val] w (.tuple #[Zi (toV x),.bool (J0 x)]):=by
 have hx:=ia.zi
 rw[←ia.abs]at hx
 have hneg:a.s=true→x= -(x.natAbs:Int):=fun h=>by rw[h]at hx;simp[zi]at hx;omega
 have hpos:a.s=false→x=(x.natAbs:Int):=fun h=>by rw[h]at hx;simp[zi]at hx;omega
 refine K0.enter Tryz.func242 rfl <| ZR <| ZC (fun w1 hw h=>nnorm_m (ia.d.below hw) hK) fun m=> ?_
 obtain⟨A,n,c,l⟩:=m
 refine K0.pure_ (p:=l.length=n∧val l=x.natAbs∧Mx l) (fun w1 hw h=>⟨h.2.1.1.1.len,h.2.1.1.2.1,h.2.1.2⟩) Zk (fun hp=> ?_)
 obtain⟨hln,hv,hN⟩:=hp
 by_cases h3:2<n
 case pos=>
  have hbig:=norm_big hN Zo
  rw[hv]at hbig
  have hf:=Hj (x:=x) Zo
  have hmax:n≤274877906944:=by have q:=hN.length_le (k:=K) (by rw[hv];exact ia.lt);omega
  exact K0.un Zk <| ZS 3 <| ZT 15 (.bool (decide (IntKind.i64.wrap ((n:Int)-1)≥0))) Zt (by rw[IntWalk.i64_in _ Zo,decide_eq_true Zo]) <| K0.condr (decide ((n:Int)≤2)) false Zk (decide_eq_false Zo) <| ZS 4 <| ZT 34 (.bool (decide ((n:Int)>2))) Zt (by rw[decide_eq_true Zo]) <| ZI true <| ZX (.tuple #[Zi 0,.bool false]) (by rw[hf.1,hf.2])
 have hcell:∀{ad:Addr} {u:World} {j:Nat},C5 ⟨some ad,n,c,l⟩ x.natAbs K u→j<n→u.cell? (ad.add j)=some (.int .u32 (dg l j:Int)):=fun q hj=>in_cell q.1.1.1 hj
 obtain rfl|rfl|rfl:n=0∨n=1∨n=2:=by omega
 ·have h0:x=0:=by rw[List.length_eq_zero_iff.1 hln]at hv;simp[val]at hv;omega
  refine K0.un Zk <| ZR <| ZI false <| ZI false <| K0.both (a.s) Zk (fun hc=> ?_) (fun hc=> ?_)
  ·exact ZR <| ZX (.tuple #[Zi 0,.bool true]) (by rw[h0];rfl)
  ·exact ZR <| ZX (.tuple #[Zi 0,.bool true]) (by rw[h0];rfl)
 ·have hd0:=hN.1 0
  rw[val1 hln]at hv
  refine K0.pure_ (p:=∃ad,A=some ad) (fun w1 hw h=>by obtain⟨ad,hA,_⟩:=h.2.1.1.1.at_ (k:=0) (by show 0<1;decide);exact⟨ad,hA⟩) Zk (fun hA=> ?_)
  obtain⟨ad,rfl⟩:=hA
  refine K0.un Zk <| ZR <| ZI true <| ZA (Kj 36 (.slice (some ad) 1 c) ((0:Nat):Int)) (.pointer (some (ad.add 0))) (fun w1 hw h=>Kn (elem:=175) Zk Zk Zd) <| K0.ask (L5 175 (ad.add 0)) (.int .u32 (dg l 0:Int)) Zk (fun w1 hw h=>K8 Zk (hcell h.2 Zd)) <| ZS 7 <| K0.slot 28 (.int .u64 (IntKind.u64.wrap (dg l 0:Int))) (.int .u64 (dg l 0:Int)) Zk (by rw[u64_nat Zo]) <| ZS 8 <| ZT 29 (.int .u64 (bits .or .u64 0 (dg l 0:Int))) (.int .u64 ((x.natAbs:Nat):Int)) (by rw[or_zero1 hd0,hv]) <| K0.cond false Zk <| ZS 7 <| K0.slot 37 (.bool (decide (((x.natAbs:Nat):Int)>9223372036854775808))) Zf Zk (by rw[decide_eq_false Zo]) <| ZS 10 <| ZT 40 (.bool (((x.natAbs:Nat):Int)==9223372036854775808)) Zf (by rw[beq_eq_false_iff_ne.2 Zo]) <| ZI false <| K0.both (a.s) Zk (fun hc=> ?_) (fun hc=> ?_)
  ·exact ZR <| ZX (.tuple #[Zi (IntKind.i64.wrap (IntKind.u64.wrap (0- ((x.natAbs:Nat):Int)))),.bool true]) (by have e:=hneg hc;have ft:=Bt (x:=x) Zo Zo;rw[ft.1,ft.2,neg_conv Zo,←e])
  ·exact ZR <| ZX (.tuple #[Zi (IntKind.i64.wrap ((x.natAbs:Nat):Int)),.bool true]) (by have e:=hpos hc;have ft:=Bt (x:=x) Zo Zo;rw[ft.1,ft.2,pos_conv Zo,←e])
 ·have hd0:=hN.1 0
  have hd1:=hN.1 1
  rw[val2 hln]at hv
  refine K0.pure_ (p:=∃ad,A=some ad) (fun w1 hw h=>by obtain⟨ad,hA,_⟩:=h.2.1.1.1.at_ (k:=0) (by show 0<2;decide);exact⟨ad,hA⟩) Zk (fun hA=> ?_)
  obtain⟨ad,rfl⟩:=hA
  refine K0.un Zk <| ZR <| ZI true <| ZA (Kj 36 (.slice (some ad) 2 c) ((1:Nat):Int)) (.pointer (some (ad.add 1))) (fun w1 hw h=>Kn (elem:=175) Zk Zk Zd) <| K0.ask (L5 175 (ad.add 1)) (.int .u32 (dg l 1:Int)) Zk (fun w1 hw h=>K8 Zk (hcell h.2 Zd)) <| ZS 7 <| K0.slot 28 (.int .u64 (IntKind.u64.wrap (dg l 1:Int))) (.int .u64 (dg l 1:Int)) Zk (by rw[u64_nat Zo]) <| ZS 8 <| ZT 29 (.int .u64 (bits .or .u64 0 (dg l 1:Int))) (.int .u64 (dg l 1:Int)) (by rw[or_zero1 hd1]) <| ZI true <| ZA (Kj 36 (.slice (some ad) 2 c) ((0:Nat):Int)) (.pointer (some (ad.add 0))) (fun w1 hw h=>Kn (elem:=175) Zk Zk Zd) <| K0.ask (L5 175 (ad.add 0)) (.int .u32 (dg l 0:Int)) Zk (fun w1 hw h=>K8 Zk (hcell h.2 Zd)) <| ZS 7 <| K0.slot 28 (.int .u64 (IntKind.u64.wrap (dg l 0:Int))) (.int .u64 (dg l 0:Int)) Zk (by rw[u64_nat Zo]) <| K0.slot 23 (.int .u64 (IntKind.u64.wrap ((dg l 1:Int)*2 ^ 32))) (.int .u64 ((dg l 1:Int)*4294967296)) Zk (by rw[u64_shl hd1]) <| ZS 8 <| ZT 29 (.int .u64 (bits .or .u64 ((dg l 1:Int)*4294967296) (dg l 0:Int))) (.int .u64 ((x.natAbs:Nat):Int)) (by rw[Ji hd1 hd0,hv]) <| K0.cond false Zk <| ZS 7 ?_
  by_cases g:9223372036854775808<x.natAbs
  case pos=>
   have hf:=Hj (x:=x) Zo
   exact ZT 37 (.bool (decide (((x.natAbs:Nat):Int)>9223372036854775808))) Zt (by rw[decide_eq_true Zo]) <| ZI true <| ZX (.tuple #[Zi 0,.bool false]) (by rw[hf.1,hf.2])
  refine K0.slot 37 (.bool (decide (((x.natAbs:Nat):Int)>9223372036854775808))) Zf Zk (by rw[decide_eq_false Zo]) <| ZS 10 ?_
  by_cases q:x.natAbs=9223372036854775808
  case pos=>
   refine ZT 40 (.bool (((x.natAbs:Nat):Int)==9223372036854775808)) Zt (by rw[beq_iff_eq.2 Zo]) <| K0.both ((!a.s)) Zk (fun hc=> ?_) (fun hc=> ?_)
   ·have hc2:a.s=false:=by revert hc;cases a.s<;>simp
    have hf:=Hj (x:=x) (by have e:=hpos hc2;omega)
    exact ZR <| ZX (.tuple #[Zi 0,.bool false]) (by rw[hf.1,hf.2])
   ·have hc2:a.s=true:=by revert hc;cases a.s<;>simp
    exact ZR <| ZJ (a.s) true (hc2) <| ZX (.tuple #[Zi (IntKind.i64.wrap (IntKind.u64.wrap (0- ((x.natAbs:Nat):Int)))),.bool true]) (by have e:=hneg hc2;have ft:=Bt (x:=x) Zo Zo;rw[ft.1,ft.2,neg_conv Zo,←e])
  refine ZT 40 (.bool (((x.natAbs:Nat):Int)==9223372036854775808)) Zf (by rw[beq_eq_false_iff_ne.2 Zo]) <| ZI false <| K0.both (a.s) Zk (fun hc=> ?_) (fun hc=> ?_)
  ·exact ZR <| ZX (.tuple #[Zi (IntKind.i64.wrap (IntKind.u64.wrap (0- ((x.natAbs:Nat):Int)))),.bool true]) (by have e:=hneg hc;have ft:=Bt (x:=x) Zo Zo;rw[ft.1,ft.2,neg_conv Zo,←e])
  ·exact ZR <| ZX (.tuple #[Zi (IntKind.i64.wrap ((x.natAbs:Nat):Int)),.bool true]) (by have e:=hpos hc;have ft:=Bt (x:=x) Zo Zo;rw[ft.1,ft.2,pos_conv Zo,←e])
end
end Go.Proofs.YtoeiphicmcndlaaGreatDoor
