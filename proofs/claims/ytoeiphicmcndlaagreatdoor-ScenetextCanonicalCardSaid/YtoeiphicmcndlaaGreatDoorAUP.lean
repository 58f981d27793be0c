/-
 Numbers as text.
-/
import Derived.Test.YtoeiphicmcndlaaGreatDoorAIx
import Derived.Test.YtoeiphicmcndlaaGreatDoorAO
namespace Go.Proofs.YtoeiphicmcndlaaGreatDoor
set_option maxRecDepth 100000
set_option maxHeartbeats 8000000
set_option linter.unusedVariables false
set_option linter.unusedSimpArgs false
open Go.RowKit
section
variable{w:World}{a b:RV}{K K1:Nat}{l:List UInt8}
def Nf:List UInt8→List UInt8×List UInt8×Bool
 | []=>([],[],false)
 |b::l=>if b=47 then([],l,true)else(b::(Nf l).1,(Nf l).2.1,(Nf l).2.2)
theorem lib_cut:∀(l:List UInt8),Lib.cut l [47]=Nf l
 | []=>rfl
 | b::l=>by
  have ih:=lib_cut l
  have hge:=Lib.index_ge l [47]
  unfold Lib.cut at ih ⊢
  unfold Nf
  rw[Lib.index]
  by_cases hb:b=47
  ·subst hb
   simp
  ·have hp: [47].isPrefixOf (b::l)=false:=by
    simp only[List.isPrefixOf,Bool.and_true]
    exact beq_eq_false_iff_ne.2 (Ne.symm hb)
   rw[hp,if_neg hb,←ih]
   by_cases h1:Lib.index l [47]= -1
   ·rw[h1];rfl
   ·obtain⟨k,hk⟩:∃k:Nat,Lib.index l [47]=k:=⟨(Lib.index l [47]).toNat,by omega⟩
    rw[hk]
    have e1:((k:Int)== -1)=false:=beq_eq_false_iff_ne.2 Zo
    rw[e1]
    have e2:((k:Int)+1).toNat=k+1:=by omega
    have e3:((k:Int)).toNat=k:=by omega
    simp only[Bool.false_eq_true,if_false,if_pos (show(0:Int)≤(k:Int)+1 by omega),if_pos (show(0:Int)≤(k:Int) by omega),e2,e3,List.take_succ_cons,List.length_singleton,List.drop_succ_cons]
def ML(w:World):Prop:=∃m,w.cell? ⟨1,0,none⟩=some (Zi m)
theorem ML.below{w w':World}(h:ML w)(hb:Below w.heap.size w w'):ML w':=by obtain⟨m,hm⟩:=h;exact⟨m,Lr hb hm⟩
theorem cut_m(hM:ML w)(hl:l.length<4294967281):Zv 86 #[K4 l,.string ⟨#[47]⟩] w (.tuple #[K4 (Nf l).1,K4 (Nf l).2.1,.bool (Nf l).2.2]):=by
 obtain⟨m,hm⟩:=hM
 refine(Tryz.strings_Cut ⟨l.toArray⟩ ⟨#[47]⟩ m w hl hm).mono fun e w' h=> ?_
 obtain⟨he,n,hw⟩:=h
 refine⟨(),?_,by rw[hw];exact Mg (Below.refl _ _) n,fun _ _ _=>trivial⟩
 have hc:=lib_cut l
 rw[he]
 show Ending.returned (Value.tuple #[K4 (Lib.cut l [47]).1,K4 (Lib.cut l [47]).2.1,.bool (Lib.cut l [47]).2.2])=_
 rw[hc]
def piE(l:List UInt8):Int:=if L9 l=0 then(if fitB (Me l)then 0 else 6)else L9 l
def Th(l:List UInt8):Int:=if piE l=0 then Me l else 0
theorem piE_bad(h:L9 l≠0):piE l=L9 l∧Th l=0:=by
 have h1:piE l=L9 l:=if_neg h
 exact⟨h1,by unfold Th;rw[if_neg (by rw[h1];exact h)]⟩
theorem piE_far(h:L9 l=0)(h2:fitB (Me l)=false):piE l=6∧Th l=0:=by
 have h1:piE l=6:=by unfold piE;rw[if_pos h,h2];rfl
 exact⟨h1,by unfold Th;rw[if_neg (by rw[h1];decide)]⟩
theorem piE_good(h:L9 l=0)(h2:fitB (Me l)=true):piE l=0∧Th l=Me l∧toV (Me l)=Me l:=by
 have h1:piE l=0:=by unfold piE;rw[if_pos h,h2];rfl
 exact⟨h1,by unfold Th;rw[if_pos h1],by unfold toV;rw[h2];rfl⟩
theorem itoInt_v{v:SV}{x:Int}{B:Bool}(hB:fitB x=B)(ia:P8 v x K w)(hK:K≤274877906944):Zv 242 #[v.val] w (.tuple #[Zi (toV x),.bool B]):=by subst hB;exact itoInt_m ia hK
theorem xparseInt_m(hL:l.length≤9223372036854775807):Zv 200 #[K4 l] w (.tuple #[Zi (Th l),Zi (piE l)]):=by
 refine K0.enter Tryz.func200 rfl <| ZR <| ZC (fun w1 hw h=>Zy hL) fun v=> ?_
 by_cases hE:L9 l=0
 case neg=>
  obtain⟨e1,e2⟩:=piE_bad hE
  rw[e1,e2]
  exact ZJ (L9 l !=0) true (by simpa using hE) <| ZW (.tuple #[Zi 0,Zi (L9 l)])
 refine ZJ (L9 l !=0) false (by rw[hE];rfl) ?_
 cases hF:fitB (Me l)
 ·obtain⟨e1,e2⟩:=piE_far hE hF
  rw[e1,e2]
  exact ZC (fun w1 hw h=>itoInt_v hF h.2.i Zd) fun u=>ZI true <| ZW (.tuple #[Zi 0,Zi 6])
 ·obtain⟨e1,e2,e3⟩:=piE_good hE hF
  rw[e1,e2]
  exact ZC (fun w1 hw h=>itoInt_v hF h.2.i Zd) fun u=>ZI false <| ZX (.tuple #[Zi (toV (Me l)),Zi 0]) (by rw[e3])
def T8(l:List UInt8)(lo hi:Int):Int:=if piE l=0 then(if Th l<lo∨hi<Th l then 6 else 0)else piE l
def Zn(l:List UInt8)(lo hi:Int):Int:=if T8 l lo hi=0 then Th l else 0
theorem xparseRange_m{lo hi:Int}(hL:l.length≤9223372036854775807):Zv 198 #[K4 l,Zi lo,Zi hi] w (.tuple #[Zi (Zn l lo hi),Zi (T8 l lo hi)]):=by
 refine K0.enter Tryz.func198 rfl <| ZR <| ZC (fun w1 hw h=>xparseInt_m hL) fun v=> ?_
 by_cases hE:piE l=0
 case neg=>
  have e1:T8 l lo hi=piE l:=if_neg hE
  have e2:Zn l lo hi=0:=by unfold Zn;rw[if_neg (by rw[e1];exact hE)]
  rw[e1,e2]
  exact ZJ (piE l !=0) true (by simpa using hE) <| ZW (.tuple #[Zi 0,Zi (piE l)])
 refine K0.condr (piE l !=0) false Zk (by rw[hE];rfl) <| ZS 3 ?_
 by_cases hlo:Th l<lo
 ·have e1:T8 l lo hi=6:=by unfold T8;rw[if_pos hE,if_pos (.inl hlo)]
  have e2:Zn l lo hi=0:=by unfold Zn;rw[if_neg (by rw[e1];decide)]
  rw[e1,e2]
  exact ZT 22 (.bool (decide (Th l<lo))) Zt (by rw[decide_eq_true hlo]) <| ZI true <| ZW (.tuple #[Zi 0,Zi 6])
 refine ZT 22 (.bool (decide (Th l<lo))) Zf (by rw[decide_eq_false hlo]) ?_
 by_cases hhi:hi<Th l
 ·have e1:T8 l lo hi=6:=by unfold T8;rw[if_pos hE,if_pos (.inr hhi)]
  have e2:Zn l lo hi=0:=by unfold Zn;rw[if_neg (by rw[e1];decide)]
  rw[e1,e2]
  exact ZJ (decide (Th l>hi)) true (decide_eq_true hhi) <| ZW (.tuple #[Zi 0,Zi 6])
 ·have e1:T8 l lo hi=0:=by unfold T8;rw[if_pos hE,if_neg Zo]
  have e2:Zn l lo hi=Th l:=by unfold Zn;rw[if_pos e1]
  rw[e1,e2]
  exact ZJ (decide (Th l>hi)) false (decide_eq_false hhi) <| ZW (.tuple #[Zi (Th l),Zi 0])
theorem Kx{n:Int}(h1: -9223372036854775808≤n)(h2:n≤9223372036854775807):Zv 16 #[Zi n] w (K4 (Kj n)):=by
 exact K0.enter Tryz.func16 rfl <| ZR <| ZC (fun w1 hw h=>Sr n w1 h1 h2) fun v=>ZC (fun w1 hw h=>iformat_m h.2.i Zd) fun u=>ZW (K4 (Kj n))
end
theorem Uk{x:Int}{k:Nat}(hk:1≤k)(h:x.natAbs<pw k):(Kj x).length≤10*k+1:=by
 have:=decS_len hk h
 unfold Kj
 split
 ·rw[List.length_cons];omega
 ·omega
def L3(q:Rat):List UInt8:=if q.den=1 then Kj q.num else Kj q.num++47::Kj q.den
section
variable{w:World}{a b:RV}{q p:Rat}{K K1:Nat}{l:List UInt8}
theorem mk_toList(x:List UInt8):(⟨x.toArray⟩:ByteArray).toList=x:=ByteArray.toList_mk x
theorem Si(ha:Yy a q K w)(hK:2≤K∧K≤1000):Zv 67 #[a.val] w (K4 (L3 q)):=by
 refine K0.enter Tryz.func67 rfl <| ZR <| ZC (fun w1 hw h=>M2 (ha.below hw) Zo) fun n=>ZC (fun w1 hw h=>iformat_m h.2.1.i Zo) fun s=>ZC (fun w1 hw h=>Sr 1 w1 Zd Zd) fun o=>ZC (fun w1 hw h=>icmp_m h.1.1.2.2.i h.2.i Zo) fun c=> ?_
 by_cases hd:q.den=1
 ·have e1:L3 q=Kj q.num:=if_pos hd
  rw[e1]
  exact ZJ (Q1 ((q.den:Int)-1) !=0) false (by rw[hd];rfl) <| ZW (K4 (Kj q.num))
 ·have e1:L3 q=Kj q.num++47::Kj q.den:=if_neg hd
  rw[e1]
  exact ZJ (Q1 ((q.den:Int)-1) !=0) true (by show(!(Q1 ((q.den:Int)-1)==0))=true;rw[U8,decide_eq_false Zo];rfl) <| ZD 4 (fun w1 hw h=>iformat_m h.1.1.1.2.2.i Zo) fun t=>K0.ask (Pw .add 9 (.const (.string ⟨#[47]⟩)) (.tmp 17) (K4 [47]) (K4 (Kj q.den))) (K4 ([47]++Kj q.den)) Zk (fun w1 hw h=>T7 (by have:=Uk (k:=K) Zo h.1.1.1.1.2.2.i.lt;simp;omega)) <| ZS 5 <| ZA (Pw .add 9 (.tmp 14) (.tmp 18) (K4 (Kj q.num)) (K4 ([47]++Kj q.den))) (K4 (Kj q.num++47::Kj q.den)) (fun w1 hw h=>T7 (by have:=Uk (k:=K) Zo h.1.1.1.1.2.2.i.lt;have:=Uk (k:=K) Zo h.1.1.1.1.2.1.i.lt;simp;omega)) <| ZW (K4 (Kj q.num++47::Kj q.den))
def pqN(l:List UInt8):Int:=Me (Nf l).1
def pqD(l:List UInt8):Int:=if (Nf l).2.2 then Me (Nf l).2.1 else 1
def pqE(l:List UInt8):Int:=
 if L9 (Nf l).1=0 then
  if (Nf l).2.2=true∧L9 (Nf l).2.1≠0 then L9 (Nf l).2.1
  else if (Nf l).2.2=true∧pqD l<2 then 3
  else if (Rat.divInt (pqN l) (pqD l)).num=pqN l∧((Rat.divInt (pqN l) (pqD l)).den:Int)=pqD l then 0 else 3
 else L9 (Nf l).1
def pqV(l:List UInt8):Rat:=Rat.divInt (pqN l) (pqD l)
def OutQ(r:RV)(e:Int)(q:Rat)(K:Nat)(u:World):Prop:=if e=0 then Nk r q K u else r=RV0
theorem outQ0{e:Int}(h:e≠0):OutQ RV0 e q K w:=by unfold OutQ;rw[if_neg h]
theorem outQn{r:RV}{e:Int}(h:e=0)(k:Nk r q K w):OutQ r e q K w:=by unfold OutQ;rw[if_pos h];exact k
theorem cutL_len:∀(l:List UInt8),(Nf l).1.length≤l.length∧(Nf l).2.1.length≤l.length
 | []=>⟨Nat.le_refl _,Nat.le_refl _⟩
 |b::l=>by
  have:=cutL_len l
  unfold Nf
  split
  ·simp
  ·simp only[List.length_cons];omega
end
section
variable{w:World}{r:RV}{K K1:Nat}{l:List UInt8}
theorem isnQ_d{x y:Int}(hx:Se r.a x K w)(hy:Se r.b y K1 w)(h:y≠0):isnQ r x y=decide ((Rat.divInt x y).num=x∧((Rat.divInt x y).den:Int)=y):=by
 unfold isnQ
 rw[isn_n2 hx,isn_n2 hy,decide_eq_true h,Bool.true_and,Bool.true_and,Bool.true_and]
 have e1:decide (x=(Rat.divInt x y).num)=decide ((Rat.divInt x y).num=x):=decide_eq_decide.2 eq_comm
 have e2:decide (y=((Rat.divInt x y).den:Int))=decide (((Rat.divInt x y).den:Int)=y):=decide_eq_decide.2 eq_comm
 rw[e1,e2,Bool.decide_and]
theorem qn_of{x y:Int}(h:(Rat.divInt x y).num=x∧((Rat.divInt x y).den:Int)=y)(hx:Se r.a x K w)(hy:Se r.b y K w):Nk r (Rat.divInt x y) K w:=⟨hx.cast h.1.symm,hy.cast h.2.symm⟩
theorem cut_v{B:Bool}(hB:(Nf l).2.2=B)(hM:ML w)(hl:l.length<4294967281):Zv 86 #[K4 l,.string ⟨#[47]⟩] w (.tuple #[K4 (Nf l).1,K4 (Nf l).2.1,.bool B]):=by subst hB;exact cut_m hM hl
theorem pq_e1(h:L9 (Nf l).1≠0):pqE l=L9 (Nf l).1:=if_neg h
theorem pq_e2(h:L9 (Nf l).1=0)(h2:(Nf l).2.2=true)(h3:L9 (Nf l).2.1≠0):pqE l=L9 (Nf l).2.1:=by unfold pqE;rw[if_pos h,if_pos ⟨h2,h3⟩]
theorem pq_e3(h:L9 (Nf l).1=0)(h2:(Nf l).2.2=true)(h3:L9 (Nf l).2.1=0)(h4:Me (Nf l).2.1<2):pqE l=3:=by
 unfold pqE pqD;rw[if_pos h,if_neg (fun q=>q.2 h3),if_pos h2,if_pos ⟨h2,h4⟩]
theorem pq_e4(h:L9 (Nf l).1=0)(h2:(Nf l).2.2=true→L9 (Nf l).2.1=0∧2≤pqD l):pqE l=if (Rat.divInt (pqN l) (pqD l)).num=pqN l∧((Rat.divInt (pqN l) (pqD l)).den:Int)=pqD l then 0 else 3:=by
 unfold pqE;rw[if_pos h,if_neg (fun q=>q.2 (h2 q.1).1),if_neg (fun q=>by have:=(h2 q.1).2;omega)]
theorem xparseQ_m(hM:ML w)(hL:l.length<4294967281):Calls Tryz.prog 145 #[K4 l] w (K8 w (fun r:RV=> .tuple #[r.val,Zi (pqE l)]) fun r u=>OutQ r (pqE l) (pqV l) 125 u):=by
 have hlen:=cutL_len l
 refine K0.enter Tryz.func145 rfl <| ZR ?_
 by_cases h1:L9 (Nf l).1=0
 case neg=>
  rw[pq_e1 h1]
  refine ZC (fun w1 hw h=>cut_m (hM.below hw) hL) fun u=>ZC (fun w1 hw h=>Zy (l:=(Nf l).1) Zo) fun n=>ZJ (L9 (Nf l).1 !=0) true (by simpa using h1) <| ZV (.tuple #[RV0.val,Zi (L9 (Nf l).1)]) (fun w1 hw h=>⟨RV0,rfl,hw,fun w'' k1 k2=>outQ0 h1⟩)
 cases hP:(Nf l).2.2
 ·have hD:pqD l=1:=by unfold pqD;rw[hP];rfl
  have hE:=pq_e4 h1 (by rw[hP];intro h;cases h)
  refine ZC (fun w1 hw h=>cut_v hP (hM.below hw) hL) fun u=>ZC (fun w1 hw h=>Zy (l:=(Nf l).1) Zo) fun n=>ZJ (L9 (Nf l).1 !=0) false (by rw[h1];rfl) <| ZC (fun w1 hw h=>Sr 1 w1 Zd Zd) fun d=>ZI false ?_
  by_cases hN:(Rat.divInt (pqN l) (pqD l)).num=pqN l∧((Rat.divInt (pqN l) (pqD l)).den:Int)=pqD l
  ·rw[if_pos hN]at hE
   rw[hE]
   rw[hD]at hN
   refine ZC (fun w1 hw h=>qisn_v (a:=⟨n,d⟩) (K:=125) (B:=true) ((isnQ_d h.1.2 h.2 Zd).trans (decide_eq_true hN)) h.1.2.i (h.2.i.mono Zd) Zd) fun z=>ZI false <| ZV (.tuple #[(RV.mk n d).val,Zi 0]) (fun w1 hw h=>⟨⟨n,d⟩,rfl,hw,fun w'' k1 k2=>outQn rfl (by unfold pqV;rw[hD];exact qn_of hN (h w'' k1 k2).1.1.2 ((h w'' k1 k2).1.2.mono Zd))⟩)
  ·rw[if_neg hN]at hE
   rw[hE]
   rw[hD]at hN
   refine ZC (fun w1 hw h=>qisn_v (a:=⟨n,d⟩) (K:=125) (B:=false) ((isnQ_d h.1.2 h.2 Zd).trans (decide_eq_false hN)) h.1.2.i (h.2.i.mono Zd) Zd) fun z=>ZI true <| ZV (.tuple #[RV0.val,Zi 3]) (fun w1 hw h=>⟨RV0,rfl,hw,fun w'' k1 k2=>outQ0 Zd⟩)
 refine ZC (fun w1 hw h=>cut_v hP (hM.below hw) hL) fun u=>ZC (fun w1 hw h=>Zy (l:=(Nf l).1) Zo) fun n=>ZJ (L9 (Nf l).1 !=0) false (by rw[h1];rfl) <| ZC (fun w1 hw h=>Sr 1 w1 Zd Zd) fun d=>ZI true <| ZC (fun w1 hw h=>Zy (l:=(Nf l).2.1) Zo) fun d=> ?_
 by_cases h2:L9 (Nf l).2.1=0
 case neg=>
  rw[pq_e2 h1 hP h2]
  refine ZJ (L9 (Nf l).2.1 !=0) true (by simpa using h2) <| ZV (.tuple #[RV0.val,Zi (L9 (Nf l).2.1)]) (fun w1 hw h=>⟨RV0,rfl,hw,fun w'' k1 k2=>outQ0 h2⟩)
 have hD:pqD l=Me (Nf l).2.1:=by unfold pqD;rw[hP];rfl
 have lt0:∀y:Int,decide (Q1 (y-2)<0)=decide (y<2):=fun y=>by rw[sgn_lt0];exact decide_eq_decide.2 Zo
 refine ZJ (L9 (Nf l).2.1 !=0) false (by rw[h2];rfl) <| ZC (fun w1 hw h=>Sr 2 w1 Zd Zd) fun t=>ZC (fun w1 hw h=>icmp_m h.1.2.i h.2.i Zd) fun c=> ?_
 by_cases h3:Me (Nf l).2.1<2
 ·rw[pq_e3 h1 hP h2 h3]
  refine ZJ (decide (Q1 (Me (Nf l).2.1-2)<0)) true (by rw[lt0];exact decide_eq_true h3) <| ZV (.tuple #[RV0.val,Zi 3]) (fun w1 hw h=>⟨RV0,rfl,hw,fun w'' k1 k2=>outQ0 Zd⟩)
 have hE:=pq_e4 h1 (fun _=>⟨h2,by omega⟩)
 refine ZJ (decide (Q1 (Me (Nf l).2.1-2)<0)) false (by rw[lt0];exact decide_eq_false h3) ?_
 by_cases hN:(Rat.divInt (pqN l) (pqD l)).num=pqN l∧((Rat.divInt (pqN l) (pqD l)).den:Int)=pqD l
 ·rw[if_pos hN]at hE
  rw[hE]
  rw[hD]at hN
  refine ZC (fun w1 hw h=>qisn_v (a:=⟨n,d⟩) (K:=125) (B:=true) ((isnQ_d h.1.1.1.1.2 h.1.1.2 Zo).trans (decide_eq_true hN)) h.1.1.1.1.2.i h.1.1.2.i Zd) fun z=>ZI false <| ZV (.tuple #[(RV.mk n d).val,Zi 0]) (fun w1 hw h=>⟨⟨n,d⟩,rfl,hw,fun w'' k1 k2=>outQn rfl (by unfold pqV;rw[hD];exact qn_of hN (h w'' k1 k2).1.1.1.1.1.2 (h w'' k1 k2).1.1.1.2)⟩)
 ·rw[if_neg hN]at hE
  rw[hE]
  rw[hD]at hN
  refine ZC (fun w1 hw h=>qisn_v (a:=⟨n,d⟩) (K:=125) (B:=false) ((isnQ_d h.1.1.1.1.2 h.1.1.2 Zo).trans (decide_eq_false hN)) h.1.1.1.1.2.i h.1.1.2.i Zd) fun z=>ZI true <| ZV (.tuple #[RV0.val,Zi 3]) (fun w1 hw h=>⟨RV0,rfl,hw,fun w'' k1 k2=>outQ0 Zd⟩)
end
end Go.Proofs.YtoeiphicmcndlaaGreatDoor
