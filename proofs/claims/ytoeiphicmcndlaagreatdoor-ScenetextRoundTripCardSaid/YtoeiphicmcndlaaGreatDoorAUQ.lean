/-
 Hex digits.
-/
import Derived.Test.YtoeiphicmcndlaaGreatDoorAUP
import Derived.Test.YtoeiphicmcndlaaGreatDoorAR
namespace Go.Proofs.YtoeiphicmcndlaaGreatDoor
set_option maxRecDepth 100000
set_option maxHeartbeats 8000000
set_option linter.unusedVariables false
set_option linter.unusedSimpArgs false
open Go.RowKit
def BytesAt(w:World)(A:Option Addr)(n:Nat)(bs:List UInt8):Prop:=bs.length=n∧∀(k:Nat) (b:UInt8),bs[k]? =some b→∃ad,A=some ad∧w.cell? (ad.add k)=some (.int .u8 b.toNat)
def bv(l:List UInt8):List Value:=l.map fun b=> .int .u8 b.toNat
def cvS(src dst:TypeId)(x:Value):Sem Next:=convert src dst x >>= fun v=>pure (.value v)
def mkSl(t:TypeId)(c:Int):Sem Next:=Instr.makeSlice t (Zi 0) (Zi c) >>= fun v=>pure (.value v)
def ixK(t:TypeId)(s:Value)(k:IntKind)(i:Int):Sem Next:=Instr.index t s (.int k i) >>= fun v=>pure (.value v)
section
variable{P:Program}{w:World}{l:List UInt8}{t e src dst:TypeId}
theorem Jc{i:Nat}{b:UInt8}{kd:IntKind}(ht:P.underlying t=some .string)(h:l[i]? =some b):(ixK t (K4 l) kd i).run P w= .ok (.value (.int .u8 b.toNat)) w:=by
 obtain⟨h1,h2⟩:=List.getElem?_eq_some_iff.1 h
 have hs:(0:Int)≤(i:Int)∧(i:Int)<((⟨l.toArray⟩:ByteArray).size:Nat):=⟨by omega,by show(i:Int)<((l.length:Nat):Int);omega⟩
 simp only[ixK,K4,Sem.run_bind,run_index_string w t ⟨l.toArray⟩ kd i ht,dif_pos hs,Result.andThen_ok,Sem.run_pure]
 have:(⟨l.toArray⟩:ByteArray)[(i:Int).toNat]'Zo=b:=h2
 rw[this]
theorem run_cv{A:Option Addr}{c B:Nat}(hs:P.underlying src=some (.slice e))(he:P.underlying e=some (.int .u8))(hd:P.underlying dst=some .string)(h:K6 w B e 1 A l.length c (bv l)):
 (cvS src dst (.slice A l.length c)).run P w= .ok (.value (K4 l)) w:=by
 unfold cvS
 cases A with
 | none=>
  have h0:l=[]:=by
   rcases Nat.eq_zero_or_pos l.length with h0|h0
   ·exact List.length_eq_zero_iff.1 h0
   ·obtain⟨g,hg,_⟩:=h.cells h0;cases hg
  subst h0
  rw[Sem.run_bind,run_convert_bytes_string w src dst e none _ c hs he hd]
  rfl
 | some ad=>
  rw[Sem.run_bind,run_convert_bytes_back w src dst e ad c l hs he hd fun j hj=> ?_]
  ·rfl
  ·obtain⟨g,hg,hc⟩:=h.cells Zo
   injection hg with hg
   have:=hc j (.int .u8 (l[j].toNat:Nat)) (by simp[bv,hj])
   rw[hg,Addr.add_mid,Nat.zero_add]
   exact this
theorem make_bytes{z:Value}{c B:Nat}(ht:P.underlying t=some (.slice e))(hi:H8 P e=some (z,1,1))(hc:c≤1000000)(hB:B≤w.heap.size):
 Lh P w (fun g:Nat=> .slice (some ⟨g,0,none⟩) 0 c) (fun g u=>K6 u B e 1 (some ⟨g,0,none⟩) 0 c []) (mkSl t c):=by
 unfold H8 at hi
 obtain⟨i,hi0,hi1⟩:=Option.bind_eq_some_iff.1 hi
 obtain⟨z',hz,hi2⟩:=Option.map_eq_some_iff.1 hi1
 simp only[Prod.mk.injEq]at hi2
 obtain⟨rfl,hsz,hby⟩:=hi2
 obtain⟨w',h1,h2,h3⟩:=run_makeSlice_owned (P:=P) w w.heap.size t e i z' 1 ht hi0 hz hsz .i64 .i64 c Zo (by rw[hby];omega) (by simp only[maxLen];omega) (Nat.le_refl _)
 refine⟨w.heap.size,w',by simp only[mkSl,Sem.run_bind,h1,Result.andThen_ok,Sem.run_pure],⟨h3.os,h3.tape,h3.output,h3.size,fun k hk=>h3.block k hk Zs⟩,fun w'' k1 k2=> ?_⟩
 have ho:K6 w' w.heap.size e 1 (some ⟨w.heap.size,0,none⟩) 0 c []:=h2
 exact(ho.same fun b hb=>k2 b (ho.lt b hb).1 (ho.lt b hb).2).rebase fun b hb=>Nat.le_trans hB (ho.lt b hb).1
end
def Rp(n:Nat):UInt8:=UInt8.ofNat (if n<10 then 48+n else 87+n)
def hexT:List UInt8:=[48,49,50,51,52,53,54,55,56,57,97,98,99,100,101,102]
theorem Jn:∀n,n<16→hexT[n]? =some (Rp n):=by decide
def J1(b:UInt8):List UInt8:=[Rp (b.toNat/16),Rp (b.toNat%16)]
def T1(l:List UInt8):List UInt8:=l.flatMap J1
theorem Sr(l:List UInt8):(T1 l).length=2*l.length:=by
 unfold T1
 induction l with
 |nil=>rfl
 |cons b l ih=>rw[List.flatMap_cons,List.length_append,ih,List.length_cons];simp[J1];omega
theorem encL_succ{l:List UInt8}{k:Nat}{b:UInt8}(h:l[k]? =some b):T1 (l.take (k+1))=T1 (l.take k)++J1 b:=by
 rw[List.take_add_one,h]
 simp[T1]
theorem u8_shr(b:UInt8):((b.toNat:Nat):Int).fdiv (2 ^ 4)=((b.toNat/16:Nat):Int):=by
 rw[Int.fdiv_eq_ediv_of_nonneg _ Zd];omega
theorem u8_and(b:UInt8):bits .and .u8 ((b.toNat:Nat):Int) 15=((b.toNat%16:Nat):Int):=by
 have h:∀n:Fin 256,bits .and .u8 ((n.val:Nat):Int) 15=((n.val%16:Nat):Int):=by decide+kernel
 exact h ⟨b.toNat,by have:=b.toNat_lt;omega⟩
section
variable{w:World}{A:Option Addr}{n c:Nat}{bs:List UInt8}
theorem xencode_m(hb:BytesAt w A n bs)(hn:n≤100000):Zv 32 #[.slice A n c] w (K4 (T1 bs)):=by
 refine K0.enter Tryz.func32 rfl <| ZS 3 <| K0.slot 8 (Zi (IntKind.i64.wrap (2*(n:Int)))) (Zi ((2*n:Nat):Int)) Zk (by rw[IntWalk.i64_in _ Zo];rfl) <| K0.make (mkSl 86 (2*n:Nat)) (fun g:Nat=> .slice (some ⟨g,0,none⟩) 0 (2*n)) (fun g u=>K6 u w.heap.size 5 1 (some ⟨g,0,none⟩) 0 (2*n) []) Zk (fun w1 hw h=>make_bytes (z:= .int .u8 0) Zk Zk Zo hw.size) fun y=>ZR <| K0.loop (ι:={q:Nat×(Option Addr×Nat) // q.1≤n}) 28 (fun q=>⟨[(0,.v (.slice A n c)),(3,.v (.slice q.1.2.1 (2*q.1.1) q.1.2.2)),(10,.v (.slice A n c)),(11,.v (Zi n)),(12,.v (Zi q.1.1))],[]⟩) (fun q u=>K6 u w.heap.size 5 1 q.1.2.1 (2*q.1.1) q.1.2.2 (bv (T1 (bs.take q.1.1)))) (fun q=>n-q.1.1) (⟨(0,some ⟨y,0,none⟩,2*n),Nat.zero_le _⟩) Zk (fun _=>by kernel_rfl) ⟨Zk,Zk,Zk⟩ (fun u h=>h.2) ?_
 rintro⟨⟨k,y,yc⟩,hk⟩ gg
 by_cases hlt:k<n
 ·refine ZR <| ZJ (decide ((k:Int)<(n:Int))) true Zp ?_
  obtain⟨b,hbk⟩:∃b,bs[k]? =some b:=⟨_,List.getElem?_eq_getElem (by rw[hb.1];exact hlt)⟩
  obtain⟨ad,hA,hcell⟩:=hb.2 k b hbk
  have h16:b.toNat/16<16:=by have:=b.toNat_lt;omega
  have h15:b.toNat%16<16:=by omega
  refine ZA (Kj 86 (.slice A n c) k) (.pointer (some (ad.add k))) (fun w1 hw h=>by rw[hA];exact Kn (elem:=5) Zk Zk hlt) <| K0.ask (L5 5 (ad.add k)) (.int .u8 b.toNat) Zk (fun w1 hw h=>K8 Zk (Lc hw hcell)) <| ZS 3 <| ZS 3 <| K0.slot 18 (.int .u8 (((b.toNat:Nat):Int).fdiv (2 ^ 4))) (.int .u8 ((b.toNat/16:Nat):Int)) Zk (by rw[u8_shr]) <| K0.askAt 3 (ixK 9 (K4 hexT) .u8 (b.toNat/16:Nat)) (.int .u8 (Rp (b.toNat/16)).toNat) Zk (fun w1 hw h=>Jc Zk (Jn _ h16)) <| ZS 6 <| K0.slot 21 (.int .u8 (bits .and .u8 ((b.toNat:Nat):Int) 15)) (.int .u8 ((b.toNat%16:Nat):Int)) Zk (by rw[u8_and]) <| K0.askAt 6 (ixK 9 (K4 hexT) .u8 (b.toNat%16:Nat)) (.int .u8 (Rp (b.toNat%16)).toNat) Zk (fun w1 hw h=>Jc Zk (Jn _ h15)) <| ZS 7 <| K0.make (Lq 86 2 #[(0,.int .u8 (Rp (b.toNat/16)).toNat),(1,.int .u8 (Rp (b.toNat%16)).toNat)]) (Kf 2) (L4 5 #[.int .u8 (Rp (b.toNat/16)).toNat,.int .u8 (Rp (b.toNat%16)).toNat]) Zk (fun w1 hw h=>Kc Zk) fun gb=>ZS 8 <| K0.mutAny (L:=bl y) (val:=fun(z:Option Addr×Nat)=> .slice z.1 (2*k+2) z.2) (Φ':=fun(z:Option Addr×Nat) v=>K6 v w.heap.size 5 1 z.1 (2*k+2) z.2 (bv (T1 (bs.take (k+1))))) (G:=fun(z:Option Addr×Nat) v=>K6 v w.heap.size 5 1 z.1 (2*k+2) z.2 (bv (T1 (bs.take (k+1))))) (M9 86 86 (.slice y (2*k) yc) (Kf 2 gb)) (fun w1 hw h=>by have ho:K6 w1 w.heap.size 5 1 y (2*k) yc (bv (T1 (bs.take k))):=h.1;have ha:=O3 (P:=Tryz.prog) (s:=1) (z:= .int .u8 0) (bytes:=1) (m:=2) (cc:=2) (t:=86) (elem:=5) Zk Zk rfl Zd ho hw.size (N5 (n:=2) h.2 rfl) (by intro v hv;simp at hv;rcases hv with rfl|rfl<;>rfl) Zo Zd;have e:bv (T1 (bs.take (k+1)))=bv (T1 (bs.take k))++ [.int .u8 (Rp (b.toNat/16)).toNat,.int .u8 (Rp (b.toNat%16)).toNat]:=by{rw[encL_succ hbk];simp[bv,J1]};rw[e];exact ha) (fun w1 h=>fun b hb=>⟨(h.1.lt b hb).1,(h.1.blk b hb).2⟩) (fun z wa w1 e1 e2 h hG=>hG) Zk Zk fun z=>ZR <| K0.slot 12 (Zi (IntKind.i64.wrap ((k:Int)+1))) (Zi ((k+1:Nat):Int)) Zk (by rw[Kd hlt Zo]) <| K0.slot 3 (.slice z.1 (2*k+2) z.2) (.slice z.1 (2*(k+1)) z.2) Zk (rfl) <| K0.next (⟨(k+1,z),by show k+1≤n;omega⟩) Zk (by show n- (k+1)<n-k;omega) ⟨Zk,Zk,Zk⟩ (fun _ h=>h)
 ·refine ZR <| ZJ (decide ((k:Int)<(n:Int))) false Zp ?_
  have hkn:k=n:=by have:k≤n:=hk;omega
  subst hkn
  have hfull:bs.take k=bs:=List.take_of_length_le (by rw[hb.1];exact Nat.le_refl _)
  exact K0.leave Zk <| ZS 1 <| ZA (cvS 86 9 (.slice y (2*k) yc)) (K4 (T1 bs)) (fun w1 hw h=>by have h2:K6 w1 w.heap.size 5 1 y (2*k) yc (bv (T1 bs)):=by{rw[←hfull];exact h};have e:2*k=(T1 bs).length:=by{rw[Sr,hb.1]};rw[e]at h2 ⊢;exact run_cv Zk Zk Zk h2) <| ZW (K4 (T1 bs))
end
theorem str_eq(a b:List UInt8):((⟨a.toArray⟩:ByteArray).toList==(⟨b.toArray⟩:ByteArray).toList)=(a==b):=by rw[mk_toList,mk_toList]
section
variable{P:Program}{w:World}{a b:List UInt8}{t:TypeId}{x y:Operand}
theorem Ks{B:Bool}(h:(a==b)=B):(Qf .eql t x y (K4 a) (K4 b)).run P w= .ok (.value (.bool B)) w:=by
 have h1:eqGuard .eql t x y (K4 a) (K4 b)=pure ():=rfl
 have h2:binOp .eql t (K4 a) (K4 b)=pure (.bool ((⟨a.toArray⟩:ByteArray).toList==(⟨b.toArray⟩:ByteArray).toList)):=by simp[binOp,Op.stringOp,K4]
 simp only[Qf,h1,h2,Sem.run_bind,Sem.run_pure,Result.andThen_ok,str_eq,h]
theorem Z7{B:Bool}(h:(!(a==b))=B):(Qf .neq t x y (K4 a) (K4 b)).run P w= .ok (.value (.bool B)) w:=by
 have h1:eqGuard .neq t x y (K4 a) (K4 b)=pure ():=rfl
 have h2:binOp .neq t (K4 a) (K4 b)=pure (.bool !((⟨a.toArray⟩:ByteArray).toList==(⟨b.toArray⟩:ByteArray).toList)):=by simp[binOp,Op.stringOp,K4]
 simp only[Qf,h1,h2,Sem.run_bind,Sem.run_pure,Result.andThen_ok,str_eq,h]
end
section
variable{w:World}{l:List UInt8}{K:Nat}
theorem T8{e:Int}(he:Ia l=e)(hM:ML w)(hL:l.length<4294967281):Calls Tryz.prog 145 #[K4 l] w (K7 w (fun r:RV=> .tuple #[r.val,Zi e]) fun r u=>OutQ r e (Dh l) 125 u):=by subst he;exact xparseQ_m hM hL
theorem Tr{lo hi e v:Int}(he:Rj l lo hi=e)(hv:Xv l lo hi=v)(hL:l.length≤9223372036854775807):Zv 198 #[K4 l,Zi lo,Zi hi] w (.tuple #[Zi v,Zi e]):=by subst he hv;exact xparseRange_m hL
theorem Pi{e v:Int}(he:Aj l=e)(hv:Ry l=v)(hL:l.length≤9223372036854775807):Zv 200 #[K4 l] w (.tuple #[Zi v,Zi e]):=by subst he hv;exact Hy hL
end
theorem fmtI_no47(x:Int):∀b∈Kb x,b≠47:=by
 have h:=C0 x.natAbs
 have h2:∀b∈Pw x.natAbs,b≠47:=fun b hb e=>by
  have:=h b hb
  subst e
  revert this
  decide
 intro b hb
 unfold Kb at hb
 split at hb
 ·rcases List.mem_cons.1 hb with e|hb
  ·subst e;decide
  ·exact h2 b hb
 ·exact h2 b hb
theorem cutL_app:∀{x:List UInt8} (y:List UInt8),(∀b∈x,b≠47)→Mw (x++47::y)=(x,y,true)
 | [],y,_=>by unfold Mw;simp
 |b::x,y,h=>by
  have ih:=cutL_app (x:=x) y fun c hc=>h c (List.mem_cons_of_mem _ hc)
  rw[List.cons_append]
  unfold Mw
  rw[if_neg (h b Zs),ih]
theorem cutL_none'{x:List UInt8}(h:∀b∈x,b≠47):Mw x=(x,[],false):=cutL_no fun i hi e=>h 47 (List.mem_of_getElem? e) rfl
theorem fmtQ_cut(q:Rat):Mw (Kr q)=if q.den=1 then(Kb q.num,[],false)else(Kb q.num,Kb q.den,true):=by
 unfold Kr
 split
 ·exact cutL_none' (fmtI_no47 _)
 ·exact cutL_app _ (fmtI_no47 _)
theorem Gt{x:Int}(h:x.natAbs<pw 40):Ky (Kb x)=0∧Lz (Kb x)=x:=parse_fmtI (by have:=decS_len (n:=x.natAbs) (k:=40) Zd h;omega)
theorem read_fmtQ{q:Rat}(h1:q.num.natAbs<pw 40)(h2:q.den<pw 40):Ia (Kr q)=0∧Dh (Kr q)=q:=by
 obtain⟨e1,v1⟩:=Gt h1
 obtain⟨e2,v2⟩:=Gt (x:=(q.den:Int)) (by simpa using h2)
 have hc:=fmtQ_cut q
 have hq:Rat.divInt q.num q.den=q:=Rat.num_divInt_den q
 have hd:=q.den_nz
 by_cases h:q.den=1
 ·rw[if_pos h]at hc
  have n1:pqN (Kr q)=q.num:=by unfold pqN;rw[hc];exact v1
  have d1:Jh (Kr q)=(q.den:Int):=by unfold Jh;rw[hc,h];rfl
  refine⟨?_,by unfold Dh;rw[n1,d1,hq]⟩
  rw[pq_e4 (by rw[hc];exact e1) (by rw[hc];intro h;cases h),n1,d1,hq,if_pos ⟨rfl,rfl⟩]
 ·rw[if_neg h]at hc
  have n1:pqN (Kr q)=q.num:=by unfold pqN;rw[hc];exact v1
  have d1:Jh (Kr q)=(q.den:Int):=by unfold Jh;rw[hc];exact v2
  refine⟨?_,by unfold Dh;rw[n1,d1,hq]⟩
  rw[pq_e4 (by rw[hc];exact e1) (by intro _;rw[d1,hc];exact⟨e2,by omega⟩),n1,d1,hq,if_pos ⟨rfl,rfl⟩]
section
variable{w:World}{l:List UInt8}{K:Nat}{a b:RV}{q p:Rat}
def Done(w:World)(e:Ending)(w':World):Prop:=e= .returned Zt∧Below w.heap.size w w'
theorem law_done{e:Ending}{w':World}(h:K7 w (fun _:Unit=> .bool true) (fun _ _=>True) e w'):Done w e w':=⟨h.choose_spec.1,h.choose_spec.2.1⟩
end
section
variable{w:World}{l:List UInt8}{K:Nat}{a b:RV}{q p:Rat}
theorem pw40{n:Int}(h: -9223372036854775808≤n∧n≤9223372036854775807):n.natAbs<pw 40:=Nat.lt_of_lt_of_le (show n.natAbs<pw 2 by rw[Sj];omega) (Aa Zd)
theorem pi_fmt{n:Int}(h: -9223372036854775808≤n∧n≤9223372036854775807):Aj (Kb n)=0∧Ry (Kb n)=n:=by
 obtain⟨e,v⟩:=Gt (pw40 h)
 obtain⟨k1,k2,_⟩:=piE_good e (by rw[v];exact decide_eq_true h)
 exact⟨k1,by rw[k2,v]⟩
theorem fmt_pi(h:Aj l=0):Kb (Ry l)=l∧-9223372036854775808≤Ry l∧Ry l≤9223372036854775807:=by
 have h1:Ky l=0:=by
  rcases Classical.em (Ky l=0)with e|e
  ·exact e
  ·rw[(piE_bad e).1]at h;exact absurd h e
 cases hF:J0 (Lz l)
 ·rw[(piE_far h1 hF).1]at h;cases h
 ·rw[(piE_good h1 hF).2.1]
  exact⟨fmtI_parse h1,of_decide_eq_true hF⟩
end
def M1(b:UInt8):Int:=if 97≤b.toNat∧b.toNat≤102 then(b.toNat:Int)-87 else if 48≤b.toNat∧b.toNat≤57 then(b.toNat:Int)-48 else -1
theorem valH_letter(b:UInt8)(h:97≤b.toNat∧b.toNat≤102):IntKind.i64.wrap (10+IntKind.i64.wrap (IntKind.u8.wrap (IntKind.u8.wrap (IntKind.u8.wrap (((b.toNat:Nat):Int)-97)+48)-48)))=M1 b:=by
 unfold M1
 rw[if_pos h]
 have key:∀n:Fin 256,97≤n.val→n.val≤102→IntKind.i64.wrap (10+IntKind.i64.wrap (IntKind.u8.wrap (IntKind.u8.wrap (IntKind.u8.wrap (((n.val:Nat):Int)-97)+48)-48)))=(n.val:Int)-87:=by decide+kernel
 exact key ⟨b.toNat,by have:=b.toNat_lt;omega⟩ h.1 h.2
theorem valH_cipher(b:UInt8)(h:48≤b.toNat∧b.toNat≤57):IntKind.i64.wrap (0+IntKind.i64.wrap (IntKind.u8.wrap (((b.toNat:Nat):Int)-48)))=M1 b:=by
 unfold M1
 rw[if_neg Zo,if_pos h]
 have key:∀n:Fin 256,48≤n.val→n.val≤57→IntKind.i64.wrap (0+IntKind.i64.wrap (IntKind.u8.wrap (((n.val:Nat):Int)-48)))=(n.val:Int)-48:=by decide+kernel
 exact key ⟨b.toNat,by have:=b.toNat_lt;omega⟩ h.1 h.2
section
variable{w:World}
theorem value_m(b:UInt8):Zv 206 #[.int .u8 b.toNat] w (Zi (M1 b)):=by
 refine K0.enter Tryz.func206 rfl <| ZS 2 ?_
 by_cases h1:97≤b.toNat
 ·refine K0.slot 6 (.bool (decide (((b.toNat:Nat):Int)≥97))) Zt Zk (by rw[decide_eq_true Zo]) <| ZR ?_
  by_cases h2:b.toNat≤102
  ·rw[←valH_letter b ⟨h1,h2⟩]
   exact ZJ (decide (((b.toNat:Nat):Int)≤102)) true Zp <| ZW (Zi (IntKind.i64.wrap (10+IntKind.i64.wrap (IntKind.u8.wrap (IntKind.u8.wrap (IntKind.u8.wrap (((b.toNat:Nat):Int)-97)+48)-48)))))
  ·have e:M1 b= -1:=by unfold M1;rw[if_neg Zo,if_neg Zo]
   rw[e]
   exact K0.condr (decide (((b.toNat:Nat):Int)≤102)) false Zk Zp <| ZS 2 <| ZT 13 (.bool (decide (((b.toNat:Nat):Int)≥48))) Zt (by rw[decide_eq_true Zo]) <| ZJ (decide (((b.toNat:Nat):Int)≤57)) false Zp <| ZW (Zi (-1))
 refine ZT 6 (.bool (decide (((b.toNat:Nat):Int)≥97))) Zf (by rw[decide_eq_false Zo]) <| K0.cond false Zk <| ZS 2 ?_
 by_cases h3:48≤b.toNat
 ·refine K0.slot 13 (.bool (decide (((b.toNat:Nat):Int)≥48))) Zt Zk (by rw[decide_eq_true Zo]) <| ZR ?_
  by_cases h4:b.toNat≤57
  ·rw[←valH_cipher b ⟨h3,h4⟩]
   exact ZJ (decide (((b.toNat:Nat):Int)≤57)) true Zp <| ZW (Zi (IntKind.i64.wrap (0+IntKind.i64.wrap (IntKind.u8.wrap (((b.toNat:Nat):Int)-48)))))
  ·have e:M1 b= -1:=by unfold M1;rw[if_neg Zo,if_neg Zo]
   rw[e]
   exact ZJ (decide (((b.toNat:Nat):Int)≤57)) false Zp <| ZW (Zi (-1))
 ·have e:M1 b= -1:=by unfold M1;rw[if_neg Zo,if_neg Zo]
  rw[e]
  exact ZT 13 (.bool (decide (((b.toNat:Nat):Int)≥48))) Zf (by rw[decide_eq_false Zo]) <| ZI false <| ZW (Zi (-1))
theorem Ca:∀k,k<16→M1 (Rp k)=k:=by decide+kernel
end
def Nh(a b:UInt8):UInt8:=UInt8.ofNat (16*(M1 a).toNat+(M1 b).toNat)
def decL:List UInt8→Option (List UInt8)
 | []=>some []
 | [_]=>none
 |a::b::l=>if M1 a<0∨M1 b<0 then none else(decL l).map (Nh a b::·)
theorem U0(b:UInt8): -1≤M1 b∧M1 b≤15:=by
 unfold M1
 split
 ·omega
 ·split
  ·omega
  ·omega
theorem decL_odd:∀{l:List UInt8},l.length%2=1→decL l=none
 | [],h=>by simp at h
 | [_],_=>rfl
 |a::b::l,h=>by
  unfold decL
  split
  ·rfl
  ·rw[decL_odd (l:=l) (by simp only[List.length_cons]at h;omega)];rfl
theorem D8(a b:UInt8)(l:List UInt8):decL (a::b::l)=if M1 a<0∨M1 b<0 then none else(decL l).map (Nh a b::·):=rfl
def decVal(o:Option (List UInt8))(y:Option Addr×Nat):Value:=match o with
 |some p=> .tuple #[.slice y.1 p.length y.2,.int .i64 0]
 |none=> .tuple #[.slice none 0 0,.int .i64 3]
def decG(o:Option (List UInt8))(y:Option Addr×Nat)(u:World):Prop:=match o with
 |some p=>K6 u 0 5 1 y.1 p.length y.2 (bv p)
 |none=>True
theorem decL_step{l p:List UInt8}{k:Nat}{a b:UInt8}(h:decL l=(decL (l.drop k)).map (p++·))(ha:l[k]? =some a)(hb:l[k+1]? =some b):
 (M1 a<0∨M1 b<0→decL l=none)∧(¬(M1 a<0∨M1 b<0)→decL l=(decL (l.drop (k+2))).map ((p++ [Nh a b])++·)):=by
 have hd:l.drop k=a::b::l.drop (k+2):=by
  obtain⟨h1,h2⟩:=List.getElem?_eq_some_iff.1 ha
  obtain⟨h3,h4⟩:=List.getElem?_eq_some_iff.1 hb
  rw[List.drop_eq_getElem_cons h1,h2,List.drop_eq_getElem_cons h3,h4]
 rw[hd,D8]at h
 constructor
 ·intro hv
  rw[if_pos hv]at h
  exact h
 ·intro hv
  rw[if_neg hv,Option.map_map]at h
  rw[h]
  congr 1
  funext q
  simp
theorem byte_or{x y:Int}(hx:0≤x∧x≤15)(hy:0≤y∧y≤15):IntKind.u8.wrap (bits .or .i64 (IntKind.i64.wrap (x*2 ^ 4)) y)=((UInt8.ofNat (16*x.toNat+y.toNat)).toNat:Int):=by
 have key:∀a b:Fin 16,IntKind.u8.wrap (bits .or .i64 (IntKind.i64.wrap (((a.val:Nat):Int)*2 ^ 4)) ((b.val:Nat):Int))=((UInt8.ofNat (16*a.val+b.val)).toNat:Int):=by decide+kernel
 have:=key ⟨x.toNat,by omega⟩ ⟨y.toNat,by omega⟩
 simp only[Int.toNat_of_nonneg hx.1,Int.toNat_of_nonneg hy.1]at this
 exact this
section
variable{w:World}{l:List UInt8}
theorem xdecode_m{o:Option (List UInt8)}(ho:decL l=o)(hL:l.length≤100000):Calls Tryz.prog 146 #[K4 l] w (K7 w (decVal o) (fun y u=>decG o y u)):=by
 by_cases hodd:l.length%2=1
 ·obtain rfl:o=none:=ho.symm.trans (decL_odd hodd)
  refine K0.enter Tryz.func146 rfl <| ZR <| ZJ (((l.length:Int).tmod 2) !=0) true (by rw[Int.tmod_eq_emod_of_nonneg Zo];simp;omega) <| ZV (.tuple #[.slice none 0 0,Zi 3]) (fun w1 hw h=>⟨(none,0),rfl,hw,fun _ _ _=>trivial⟩)
 refine K0.enter Tryz.func146 rfl <| ZR <| ZJ (((l.length:Int).tmod 2) !=0) false (by rw[Int.tmod_eq_emod_of_nonneg Zo];simp;omega) <| K0.loop (ι:={q:(Nat×List UInt8)×(Option Addr×Nat) // 2*q.1.1≤l.length∧decL l=(decL (l.drop (2*q.1.1))).map (q.1.2++·)∧q.1.2.length=q.1.1}) 42 (fun q=>⟨[(0,.v (K4 l)),(2,.v (.slice none 0 0)),(3,.v (Zi 0)),(4,.v (.slice q.1.2.1 q.1.1.1 q.1.2.2)),(5,.v (Zi (2*q.1.1.1:Nat)))],[]⟩) (fun q u=>K6 u w.heap.size 5 1 q.1.2.1 q.1.1.1 q.1.2.2 (bv q.1.1.2)) (fun q=>l.length-2*q.1.1.1) (⟨((0,[]),(none,0)),by simp,by show decL l=(decL (l.drop 0)).map ([]++·);rw[List.drop_zero];cases decL l<;>rfl,rfl⟩) Zk (fun _=>by kernel_rfl) ⟨Zk,Zk,Zk⟩ (fun u h=>K6.nil_) ?_
 rintro⟨⟨⟨k,p⟩,y,yc⟩,hk⟩ g
 have hk1:2*k≤l.length:=hk.1
 have hk2:decL l=(decL (l.drop (2*k))).map (p++·):=hk.2.1
 have hk3:p.length=k:=hk.2.2
 by_cases hlt:2*k<l.length
 ·refine ZR <| K0.condr (decide (((2*k:Nat):Int)<(l.length:Int))) true Zk Zp <| ZS 2 ?_
  obtain⟨a,ha⟩:∃a,l[2*k]? =some a:=⟨_,List.getElem?_eq_getElem hlt⟩
  obtain⟨b,hb⟩:∃b,l[2*k+1]? =some b:=⟨_,List.getElem?_eq_getElem Zo⟩
  obtain⟨d1,d2⟩:=decL_step hk2 ha hb
  refine K0.askAt 2 (ixS 9 (K4 l) (2*k:Nat)) (.int .u8 a.toNat) Zk (fun w1 hw h=>Se Zk ha) <| ZS 7 <| K0.slot 24 (Zi (IntKind.i64.wrap (((2*k:Nat):Int)+1))) (Zi ((2*k+1:Nat):Int)) Zk (by rw[Kd hlt Zo]) <| ZB 7 (ixS 9 (K4 l) (2*k+1:Nat)) (.int .u8 b.toNat) (fun w1 hw h=>Se Zk hb) <| ZC (fun w1 hw h=>value_m a) fun u=>ZD 0 (fun w1 hw h=>value_m b) fun u=>K0.run Zk (stop:=1000) 3 _ ?_
  by_cases hva:M1 a<0
  ·refine ZS 2 <| ZT 28 (.bool (decide (M1 a<0))) Zt (by rw[decide_eq_true hva]) <| ZI true <| K0.leave Zk <| ZR ?_
   obtain rfl:o=none:=ho.symm.trans (d1 (.inl hva))
   refine ZV (.tuple #[.slice none 0 0,Zi 3]) (fun w1 hw h=>⟨(none,0),rfl,hw,fun _ _ _=>trivial⟩)
  by_cases hvb:M1 b<0
  ·refine ZS 2 <| ZT 28 (.bool (decide (M1 a<0))) Zf (by rw[decide_eq_false hva]) <| ZJ (decide (M1 b<0)) true (decide_eq_true hvb) <| K0.leave Zk <| ZR ?_
   obtain rfl:o=none:=ho.symm.trans (d1 (.inr hvb))
   refine ZV (.tuple #[.slice none 0 0,Zi 3]) (fun w1 hw h=>⟨(none,0),rfl,hw,fun _ _ _=>trivial⟩)
  have hba:0≤M1 a∧M1 a≤15:=⟨by omega,(U0 a).2⟩
  have hbb:0≤M1 b∧M1 b≤15:=⟨by omega,(U0 b).2⟩
  refine ZS 2 <| ZT 28 (.bool (decide (M1 a<0))) Zf (by rw[decide_eq_false hva]) <| K0.condr (decide (M1 b<0)) false Zk (decide_eq_false hvb) <| ZS 6 <| K0.slot 38 (.int .u8 (IntKind.u8.wrap (bits .or .i64 (IntKind.i64.wrap (M1 a*2 ^ 4)) (M1 b)))) (.int .u8 (Nh a b).toNat) Zk (by rw[byte_or hba hbb];rfl) <| K0.make (Lq 86 1 #[(0,.int .u8 (Nh a b).toNat)]) (Kf 1) (L4 5 #[.int .u8 (Nh a b).toNat]) Zk (fun w1 hw h=>Kc Zk) fun gb=>ZS 7 <| K0.mutOp (L:=bl y) (val:=fun(z:Option Addr×Nat)=> .slice z.1 (k+1) z.2) (Φ':=fun(z:Option Addr×Nat) v=>K6 v w.heap.size 5 1 z.1 (k+1) z.2 (bv (p++ [Nh a b]))) (G:=fun(z:Option Addr×Nat) v=>K6 v w.heap.size 5 1 z.1 (k+1) z.2 (bv (p++ [Nh a b]))) (M9 86 86 (.slice y k yc) (Kf 1 gb)) (fun w1 hw h=>by have ho:K6 w1 w.heap.size 5 1 y k yc (bv p):=h.1.1.1;have ha:=O3 (P:=Tryz.prog) (s:=1) (z:= .int .u8 0) (bytes:=1) (m:=1) (cc:=1) (t:=86) (elem:=5) Zk Zk rfl Zd ho hw.size (N5 (n:=1) h.2 rfl) (by intro v hv;simp at hv;rcases hv with rfl;rfl) Zo Zd;have e:bv (p++ [Nh a b])=bv p++ [.int .u8 (Nh a b).toNat]:=by{simp[bv]};rw[e];exact ha) (fun w1 h=>fun b hb=>⟨(h.1.1.1.lt b hb).1,(h.1.1.1.blk b hb).2⟩) (fun z wa w1 e1 e2 h hG=>hG) Zk Zk fun z=>ZR <| K0.slot 5 (Zi (IntKind.i64.wrap (((2*k:Nat):Int)+2))) (Zi ((2*(k+1):Nat):Int)) Zk (by rw[IntWalk.i64_in _ Zo];congr 1) <| K0.next (⟨((k+1,p++ [Nh a b]),z),by show 2*(k+1)≤l.length;omega,d2 Zo,by simp[hk3]⟩) Zk (by show l.length-2*(k+1)<l.length-2*k;omega) ⟨Zk,Zk,Zk⟩ (fun _ h=>h)
 ·refine ZR <| ZJ (decide (((2*k:Nat):Int)<(l.length:Int))) false Zp <| K0.leave Zk <| ZR ?_
  have hd:decL l=some p:=by
   rw[hk2,List.drop_of_length_le Zo]
   show some (p++ [])=some p
   rw[List.append_nil]
  obtain rfl:o=some p:=ho.symm.trans hd
  refine ZV (.tuple #[.slice y k yc,Zi 0]) (fun w1 hw h=>⟨(y,yc),by show _=Ending.returned (Value.tuple #[.slice y p.length yc,Zi 0]);rw[hk3],hw,fun w'' k1 k2=>by show K6 w'' 0 5 1 y p.length yc (bv p);rw[hk3];exact(show K6 w'' w.heap.size 5 1 y k yc (bv p)from h w'' k1 k2).rebase (fun _ _=>Nat.zero_le _)⟩)
end
theorem D1(b:UInt8)(h:¬M1 b<0):Rp (M1 b).toNat=b:=by
 have key:∀n:Fin 256,¬M1 (UInt8.ofNat n.val)<0→Rp (M1 (UInt8.ofNat n.val)).toNat=UInt8.ofNat n.val:=by decide+kernel
 have:=key ⟨b.toNat,by have:=b.toNat_lt;omega⟩
 simp only[UInt8.ofNat_toNat]at this
 exact this h
theorem enc2_ofNat{x y:Nat}(hx:x<16)(hy:y<16):J1 (UInt8.ofNat (16*x+y))=[Rp x,Rp y]:=by
 have key:∀a b:Fin 16,J1 (UInt8.ofNat (16*a.val+b.val))=[Rp a.val,Rp b.val]:=by decide+kernel
 exact key ⟨x,hx⟩ ⟨y,hy⟩
theorem byteH_enc(b:UInt8):Nh (Rp (b.toNat/16)) (Rp (b.toNat%16))=b:=by
 have key:∀n:Fin 256,Nh (Rp (n.val/16)) (Rp (n.val%16))=UInt8.ofNat n.val:=by decide+kernel
 have:=key ⟨b.toNat,by have:=b.toNat_lt;omega⟩
 simp only[UInt8.ofNat_toNat]at this
 exact this
theorem Ft:∀l:List UInt8,decL (T1 l)=some l
 | []=>rfl
 |b::l=>by
  have e:T1 (b::l)=Rp (b.toNat/16)::Rp (b.toNat%16)::T1 l:=rfl
  have h1:=Ca (b.toNat/16) (by have:=b.toNat_lt;omega)
  have h2:=Ca (b.toNat%16) Zo
  rw[e,D8,if_neg (by rw[h1,h2];omega),Ft l,byteH_enc]
  rfl
theorem Fs:∀{l p:List UInt8},decL l=some p→T1 p=l
 | [],p,h=>by cases h;rfl
 | [_],p,h=>by cases h
 | a::b::l,p,h=>by
  rw[D8]at h
  split at h
  ·cases h
  ·rename_i hv
   cases hl:decL l with
   |none=>rw[hl]at h;cases h
   |some q=>
    rw[hl]at h
    cases h
    have ha:¬M1 a<0:=fun k=>hv (.inl k)
    have hb:¬M1 b<0:=fun k=>hv (.inr k)
    have ra:=(U0 a).2
    have rb:=(U0 b).2
    show J1 (Nh a b)++T1 q=_
    rw[Fs hl,Nh,enc2_ofNat Zo Zo,D1 a ha,D1 b hb]
    rfl
theorem K6.bytes{w:World}{A:Option Addr}{B c:Nat}{e:TypeId}{l:List UInt8}(h:K6 w B e 1 A l.length c (bv l)):BytesAt w A l.length l:=by
 refine⟨rfl,fun k b hk=> ?_⟩
 have hj:=(List.getElem?_eq_some_iff.1 hk).1
 obtain⟨g,hg,hc⟩:=h.cells Zo
 have:=hc k (.int .u8 (b.toNat:Nat)) (by simp[bv,hk])
 exact⟨_,hg,by rw[Addr.add_mid,Nat.zero_add];exact this⟩
section
variable{w:World}{A:Option Addr}{n c:Nat}{bs l p:List UInt8}
theorem xdecode_n(hd:decL l=none)(hL:l.length≤100000):Calls Tryz.prog 146 #[K4 l] w (K7 w (fun _:Option Addr×Nat=> .tuple #[.slice none 0 0,Zi 3]) fun _ _=>True):=xdecode_m hd hL
theorem Y1(hd:decL l=some p)(hL:l.length≤100000):Calls Tryz.prog 146 #[K4 l] w (K7 w (fun y:Option Addr×Nat=> .tuple #[.slice y.1 p.length y.2,Zi 0]) fun y u=>K6 u 0 5 1 y.1 p.length y.2 (bv p)):=xdecode_m hd hL
end
end Go.Proofs.YtoeiphicmcndlaaGreatDoor
