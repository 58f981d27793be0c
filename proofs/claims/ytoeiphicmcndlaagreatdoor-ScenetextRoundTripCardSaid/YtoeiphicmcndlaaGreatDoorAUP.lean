/-
 Numbers as text.
-/
import Derived.Test.YtoeiphicmcndlaaGreatDoorAIx
import Derived.Test.YtoeiphicmcndlaaGreatDoorAO
namespace Go.Proofs.YtoeiphicmcndlaaGreatDoor
set_option maxRecDepth 100000
set_option maxHeartbeats 8000000
set_option linter.unusedVariables false
set_option linter.unusedSimpArgs false
open Go.RowKit
section
variable{w:World}{a b:RV}{K K1:Nat}{l:List UInt8}
def Mw:List UInt8→List UInt8×List UInt8×Bool
 | []=>([],[],false)
 |b::l=>if b=47 then([],l,true)else(b::(Mw l).1,(Mw l).2.1,(Mw l).2.2)
theorem lib_cut:∀(l:List UInt8),Lib.cut l [47]=Mw l
 | []=>rfl
 | b::l=>by
  have ih:=lib_cut l
  have hge:=Lib.index_ge l [47]
  unfold Lib.cut at ih ⊢
  unfold Mw
  rw[Lib.index]
  by_cases hb:b=47
  ·subst hb
   simp
  ·have hp: [47].isPrefixOf (b::l)=false:=by
    simp only[List.isPrefixOf,Bool.and_true]
    exact beq_eq_false_iff_ne.2 (Ne.symm hb)
   rw[hp,if_neg hb,←ih]
   by_cases h1:Lib.index l [47]= -1
   ·rw[h1];rfl
   ·obtain⟨k,hk⟩:∃k:Nat,Lib.index l [47]=k:=⟨(Lib.index l [47]).toNat,by omega⟩
    rw[hk]
    have e1:((k:Int)== -1)=false:=beq_eq_false_iff_ne.2 Zo
    rw[e1]
    have e2:((k:Int)+1).toNat=k+1:=by omega
    have e3:((k:Int)).toNat=k:=by omega
    simp only[Bool.false_eq_true,if_false,if_pos (show(0:Int)≤(k:Int)+1 by omega),if_pos (show(0:Int)≤(k:Int) by omega),e2,e3,List.take_succ_cons,List.length_singleton,List.drop_succ_cons]
def ML(w:World):Prop:=∃m,w.cell? ⟨1,0,none⟩=some (Zi m)
theorem ML.below{w w':World}(h:ML w)(hb:Below w.heap.size w w'):ML w':=by obtain⟨m,hm⟩:=h;exact⟨m,Lc hb hm⟩
theorem cut_m(hM:ML w)(hl:l.length<4294967281):Zv 86 #[K4 l,.string ⟨#[47]⟩] w (.tuple #[K4 (Mw l).1,K4 (Mw l).2.1,.bool (Mw l).2.2]):=by
 obtain⟨m,hm⟩:=hM
 refine(Tryz.strings_Cut ⟨l.toArray⟩ ⟨#[47]⟩ m w hl hm).mono fun e w' h=> ?_
 obtain⟨he,n,hw⟩:=h
 refine⟨(),?_,by rw[hw];exact Mh (Below.refl _ _) n,fun _ _ _=>trivial⟩
 have hc:=lib_cut l
 rw[he]
 show Ending.returned (Value.tuple #[K4 (Lib.cut l [47]).1,K4 (Lib.cut l [47]).2.1,.bool (Lib.cut l [47]).2.2])=_
 rw[hc]
def Aj(l:List UInt8):Int:=if Ky l=0 then(if J0 (Lz l)then 0 else 6)else Ky l
def Ry(l:List UInt8):Int:=if Aj l=0 then Lz l else 0
theorem piE_bad(h:Ky l≠0):Aj l=Ky l∧Ry l=0:=by
 have h1:Aj l=Ky l:=if_neg h
 exact⟨h1,by unfold Ry;rw[if_neg (by rw[h1];exact h)]⟩
theorem piE_far(h:Ky l=0)(h2:J0 (Lz l)=false):Aj l=6∧Ry l=0:=by
 have h1:Aj l=6:=by unfold Aj;rw[if_pos h,h2];rfl
 exact⟨h1,by unfold Ry;rw[if_neg (by rw[h1];decide)]⟩
theorem piE_good(h:Ky l=0)(h2:J0 (Lz l)=true):Aj l=0∧Ry l=Lz l∧toV (Lz l)=Lz l:=by
 have h1:Aj l=0:=by unfold Aj;rw[if_pos h,h2];rfl
 exact⟨h1,by unfold Ry;rw[if_pos h1],by unfold toV;rw[h2];rfl⟩
theorem itoInt_v{v:SV}{x:Int}{B:Bool}(hB:J0 x=B)(ia:Pg v x K w)(hK:K≤274877906944):Zv 242 #[v.val] w (.tuple #[Zi (toV x),.bool B]):=by subst hB;exact itoInt_m ia hK
theorem Hy(hL:l.length≤9223372036854775807):Zv 200 #[K4 l] w (.tuple #[Zi (Ry l),Zi (Aj l)]):=by
 refine K0.enter Tryz.func200 rfl <| ZR <| ZC (fun w1 hw h=>Br hL) fun v=> ?_
 by_cases hE:Ky l=0
 case neg=>
  obtain⟨e1,e2⟩:=piE_bad hE
  rw[e1,e2]
  exact ZJ (Ky l !=0) true (by simpa using hE) <| ZW (.tuple #[Zi 0,Zi (Ky l)])
 refine ZJ (Ky l !=0) false (by rw[hE];rfl) ?_
 cases hF:J0 (Lz l)
 ·obtain⟨e1,e2⟩:=piE_far hE hF
  rw[e1,e2]
  exact ZC (fun w1 hw h=>itoInt_v hF h.2.i Zd) fun u=>ZI true <| ZW (.tuple #[Zi 0,Zi 6])
 ·obtain⟨e1,e2,e3⟩:=piE_good hE hF
  rw[e1,e2]
  exact ZC (fun w1 hw h=>itoInt_v hF h.2.i Zd) fun u=>ZI false <| ZX (.tuple #[Zi (toV (Lz l)),Zi 0]) (by rw[e3])
def Rj(l:List UInt8)(lo hi:Int):Int:=if Aj l=0 then(if Ry l<lo∨hi<Ry l then 6 else 0)else Aj l
def Xv(l:List UInt8)(lo hi:Int):Int:=if Rj l lo hi=0 then Ry l else 0
theorem xparseRange_m{lo hi:Int}(hL:l.length≤9223372036854775807):Zv 198 #[K4 l,Zi lo,Zi hi] w (.tuple #[Zi (Xv l lo hi),Zi (Rj l lo hi)]):=by
 refine K0.enter Tryz.func198 rfl <| ZR <| ZC (fun w1 hw h=>Hy hL) fun v=> ?_
 by_cases hE:Aj l=0
 case neg=>
  have e1:Rj l lo hi=Aj l:=if_neg hE
  have e2:Xv l lo hi=0:=by unfold Xv;rw[if_neg (by rw[e1];exact hE)]
  rw[e1,e2]
  exact ZJ (Aj l !=0) true (by simpa using hE) <| ZW (.tuple #[Zi 0,Zi (Aj l)])
 refine K0.condr (Aj l !=0) false Zk (by rw[hE];rfl) <| ZS 3 ?_
 by_cases hlo:Ry l<lo
 ·have e1:Rj l lo hi=6:=by unfold Rj;rw[if_pos hE,if_pos (.inl hlo)]
  have e2:Xv l lo hi=0:=by unfold Xv;rw[if_neg (by rw[e1];decide)]
  rw[e1,e2]
  exact ZT 22 (.bool (decide (Ry l<lo))) Zt (by rw[decide_eq_true hlo]) <| ZI true <| ZW (.tuple #[Zi 0,Zi 6])
 refine ZT 22 (.bool (decide (Ry l<lo))) Zf (by rw[decide_eq_false hlo]) ?_
 by_cases hhi:hi<Ry l
 ·have e1:Rj l lo hi=6:=by unfold Rj;rw[if_pos hE,if_pos (.inr hhi)]
  have e2:Xv l lo hi=0:=by unfold Xv;rw[if_neg (by rw[e1];decide)]
  rw[e1,e2]
  exact ZJ (decide (Ry l>hi)) true (decide_eq_true hhi) <| ZW (.tuple #[Zi 0,Zi 6])
 ·have e1:Rj l lo hi=0:=by unfold Rj;rw[if_pos hE,if_neg Zo]
  have e2:Xv l lo hi=Ry l:=by unfold Xv;rw[if_pos e1]
  rw[e1,e2]
  exact ZJ (decide (Ry l>hi)) false (decide_eq_false hhi) <| ZW (.tuple #[Zi (Ry l),Zi 0])
theorem Kv{n:Int}(h1: -9223372036854775808≤n)(h2:n≤9223372036854775807):Zv 16 #[Zi n] w (K4 (Kb n)):=by
 exact K0.enter Tryz.func16 rfl <| ZR <| ZC (fun w1 hw h=>Tg n w1 h1 h2) fun v=>ZC (fun w1 hw h=>He h.2.i Zd) fun u=>ZW (K4 (Kb n))
end
theorem cutL_no:∀{l:List UInt8},(∀i,i<l.length→l[i]? ≠some 47)→Mw l=(l,[],false)
 | [],_=>rfl
 |b::l,h=>by
  have hb:b≠47:=by have:=h 0 Zs;simpa using this
  have ih:=cutL_no (l:=l) (fun i hi=>by have:=h (i+1) (by simpa using hi);simpa using this)
  unfold Mw
  rw[if_neg hb,ih]
theorem fmtI_parse{l:List UInt8}(h:Ky l=0):Kb (Lz l)=l:=by
 have h0:Lp (N0 l)=0:=by
  rcases Classical.em (Lp (N0 l)=0)with e|e
  ·exact e
  ·have:=(E8 e).1;rw[h]at this;exact absurd this.symm e
 by_cases hz:Vu l=true∧O6 (N0 l)=0
 ·have:=(Ib h0 hz.1 hz.2).1
  rw[h]at this;cases this
 ·rw[(S6 h0 hz).2]
  obtain⟨h2,h3,_,_⟩:=decS_parse h0
  cases l with
  |nil=>rw[pneg_nil.1,pneg_nil.2]at *;rw[Fq (by simp[zi])];exact h2
  | cons b t=>
   by_cases e:b=45
   ·subst e
    rw[(P1 t).1,(P1 t).2]at*
    have hv:O6 t≠0:=fun e=>hz ⟨rfl,e⟩
    rw[fmtI_neg (by simp[zi];omega),Yy,h2]
   ·rw[(Uj e).1,(Uj e).2]at*
    rw[Fq (by simp[zi]),Yy,h2]
theorem parse_fmtI{x:Int}(h:(Pw x.natAbs).length≤1000):Ky (Kb x)=0∧Lz (Kb x)=x:=by
 obtain⟨h1,h2⟩:=parse_decS h
 by_cases hx:x<0
 ·rw[fmtI_neg hx]
  have hz:¬(Vu (45::Pw x.natAbs)=true∧O6 (N0 (45::Pw x.natAbs))=0):=by
   rintro⟨_,h3⟩
   rw[(P1 _).2,h2]at h3;omega
  have hg:=S6 (by rw[(P1 _).2];exact h1) hz
  refine⟨hg.1,?_⟩
  rw[hg.2,(P1 _).1,(P1 _).2,h2]
  simp[zi];omega
 ·rw[Fq hx]
  have hp:Vu (Pw x.natAbs)=false∧N0 (Pw x.natAbs)=Pw x.natAbs:=by
   cases hc:Pw x.natAbs with
   |nil=>exact pneg_nil
   |cons b t=>
    refine Uj ?_
    rintro rfl
    have:=C0 x.natAbs 45 (by rw[hc];exact List.mem_cons_self ..)
    simp at this
  have hg:=S6 (l:=Pw x.natAbs) (by rw[hp.2];exact h1) (by rintro⟨h3,_⟩;rw[hp.1]at h3;cases h3)
  refine⟨hg.1,?_⟩
  rw[hg.2,hp.1,hp.2,h2]
  simp[zi];omega
theorem Vi{x:Int}{k:Nat}(hk:1≤k)(h:x.natAbs<pw k):(Kb x).length≤10*k+1:=by
 have:=decS_len hk h
 unfold Kb
 split
 ·rw[List.length_cons];omega
 ·omega
def Kr(q:Rat):List UInt8:=if q.den=1 then Kb q.num else Kb q.num++47::Kb q.den
section
variable{w:World}{a b:RV}{q p:Rat}{K K1:Nat}{l:List UInt8}
theorem mk_toList(x:List UInt8):(⟨x.toArray⟩:ByteArray).toList=x:=ByteArray.toList_mk x
theorem T9(ha:Af a q K w)(hK:2≤K∧K≤1000):Zv 67 #[a.val] w (K4 (Kr q)):=by
 refine K0.enter Tryz.func67 rfl <| ZR <| ZC (fun w1 hw h=>M0 (ha.below hw) Zo) fun n=>ZC (fun w1 hw h=>He h.2.1.i Zo) fun s=>ZC (fun w1 hw h=>Tg 1 w1 Zd Zd) fun o=>ZC (fun w1 hw h=>icmp_m h.1.1.2.2.i h.2.i Zo) fun c=> ?_
 by_cases hd:q.den=1
 ·have e1:Kr q=Kb q.num:=if_pos hd
  rw[e1]
  exact ZJ (Q5 ((q.den:Int)-1) !=0) false (by rw[hd];rfl) <| ZW (K4 (Kb q.num))
 ·have e1:Kr q=Kb q.num++47::Kb q.den:=if_neg hd
  rw[e1]
  exact ZJ (Q5 ((q.den:Int)-1) !=0) true (by show(!(Q5 ((q.den:Int)-1)==0))=true;rw[V5,decide_eq_false Zo];rfl) <| ZD 4 (fun w1 hw h=>He h.1.1.1.2.2.i Zo) fun t=>K0.ask (Qf .add 9 (.const (.string ⟨#[47]⟩)) (.tmp 17) (K4 [47]) (K4 (Kb q.den))) (K4 ([47]++Kb q.den)) Zk (fun w1 hw h=>B9 (by have:=Vi (k:=K) Zo h.1.1.1.1.2.2.i.lt;simp;omega)) <| ZS 5 <| ZA (Qf .add 9 (.tmp 14) (.tmp 18) (K4 (Kb q.num)) (K4 ([47]++Kb q.den))) (K4 (Kb q.num++47::Kb q.den)) (fun w1 hw h=>B9 (by have:=Vi (k:=K) Zo h.1.1.1.1.2.2.i.lt;have:=Vi (k:=K) Zo h.1.1.1.1.2.1.i.lt;simp;omega)) <| ZW (K4 (Kb q.num++47::Kb q.den))
def pqN(l:List UInt8):Int:=Lz (Mw l).1
def Jh(l:List UInt8):Int:=if (Mw l).2.2 then Lz (Mw l).2.1 else 1
def Ia(l:List UInt8):Int:=
 if Ky (Mw l).1=0 then
  if (Mw l).2.2=true∧Ky (Mw l).2.1≠0 then Ky (Mw l).2.1
  else if (Mw l).2.2=true∧Jh l<2 then 3
  else if (Rat.divInt (pqN l) (Jh l)).num=pqN l∧((Rat.divInt (pqN l) (Jh l)).den:Int)=Jh l then 0 else 3
 else Ky (Mw l).1
def Dh(l:List UInt8):Rat:=Rat.divInt (pqN l) (Jh l)
def OutQ(r:RV)(e:Int)(q:Rat)(K:Nat)(u:World):Prop:=if e=0 then Nr r q K u else r=Ju
theorem outQ0{e:Int}(h:e≠0):OutQ Ju e q K w:=by unfold OutQ;rw[if_neg h]
theorem outQn{r:RV}{e:Int}(h:e=0)(k:Nr r q K w):OutQ r e q K w:=by unfold OutQ;rw[if_pos h];exact k
theorem cutL_len:∀(l:List UInt8),(Mw l).1.length≤l.length∧(Mw l).2.1.length≤l.length
 | []=>⟨Nat.le_refl _,Nat.le_refl _⟩
 |b::l=>by
  have:=cutL_len l
  unfold Mw
  split
  ·simp
  ·simp only[List.length_cons];omega
end
section
variable{w:World}{r:RV}{K K1:Nat}{l:List UInt8}
theorem isnQ_d{x y:Int}(hx:T7 r.a x K w)(hy:T7 r.b y K1 w)(h:y≠0):isnQ r x y=decide ((Rat.divInt x y).num=x∧((Rat.divInt x y).den:Int)=y):=by
 unfold isnQ
 rw[isn_n2 hx,isn_n2 hy,decide_eq_true h,Bool.true_and,Bool.true_and,Bool.true_and]
 have e1:decide (x=(Rat.divInt x y).num)=decide ((Rat.divInt x y).num=x):=decide_eq_decide.2 eq_comm
 have e2:decide (y=((Rat.divInt x y).den:Int))=decide (((Rat.divInt x y).den:Int)=y):=decide_eq_decide.2 eq_comm
 rw[e1,e2,Bool.decide_and]
theorem qn_of{x y:Int}(h:(Rat.divInt x y).num=x∧((Rat.divInt x y).den:Int)=y)(hx:T7 r.a x K w)(hy:T7 r.b y K w):Nr r (Rat.divInt x y) K w:=⟨hx.cast h.1.symm,hy.cast h.2.symm⟩
theorem cut_v{B:Bool}(hB:(Mw l).2.2=B)(hM:ML w)(hl:l.length<4294967281):Zv 86 #[K4 l,.string ⟨#[47]⟩] w (.tuple #[K4 (Mw l).1,K4 (Mw l).2.1,.bool B]):=by subst hB;exact cut_m hM hl
theorem pq_e1(h:Ky (Mw l).1≠0):Ia l=Ky (Mw l).1:=if_neg h
theorem pq_e2(h:Ky (Mw l).1=0)(h2:(Mw l).2.2=true)(h3:Ky (Mw l).2.1≠0):Ia l=Ky (Mw l).2.1:=by unfold Ia;rw[if_pos h,if_pos ⟨h2,h3⟩]
theorem pq_e3(h:Ky (Mw l).1=0)(h2:(Mw l).2.2=true)(h3:Ky (Mw l).2.1=0)(h4:Lz (Mw l).2.1<2):Ia l=3:=by
 unfold Ia Jh;rw[if_pos h,if_neg (fun q=>q.2 h3),if_pos h2,if_pos ⟨h2,h4⟩]
theorem pq_e4(h:Ky (Mw l).1=0)(h2:(Mw l).2.2=true→Ky (Mw l).2.1=0∧2≤Jh l):Ia l=if (Rat.divInt (pqN l) (Jh l)).num=pqN l∧((Rat.divInt (pqN l) (Jh l)).den:Int)=Jh l then 0 else 3:=by
 unfold Ia;rw[if_pos h,if_neg (fun q=>q.2 (h2 q.1).1),if_neg (fun q=>by have:=(h2 q.1).2;omega)]
theorem xparseQ_m(hM:ML w)(hL:l.length<4294967281):Calls Tryz.prog 145 #[K4 l] w (K7 w (fun r:RV=> .tuple #[r.val,Zi (Ia l)]) fun r u=>OutQ r (Ia l) (Dh l) 125 u):=by
 have hlen:=cutL_len l
 refine K0.enter Tryz.func145 rfl <| ZR ?_
 by_cases h1:Ky (Mw l).1=0
 case neg=>
  rw[pq_e1 h1]
  refine ZC (fun w1 hw h=>cut_m (hM.below hw) hL) fun u=>ZC (fun w1 hw h=>Br (l:=(Mw l).1) Zo) fun n=>ZJ (Ky (Mw l).1 !=0) true (by simpa using h1) <| ZV (.tuple #[Ju.val,Zi (Ky (Mw l).1)]) (fun w1 hw h=>⟨Ju,rfl,hw,fun w'' k1 k2=>outQ0 h1⟩)
 cases hP:(Mw l).2.2
 ·have hD:Jh l=1:=by unfold Jh;rw[hP];rfl
  have hE:=pq_e4 h1 (by rw[hP];intro h;cases h)
  refine ZC (fun w1 hw h=>cut_v hP (hM.below hw) hL) fun u=>ZC (fun w1 hw h=>Br (l:=(Mw l).1) Zo) fun n=>ZJ (Ky (Mw l).1 !=0) false (by rw[h1];rfl) <| ZC (fun w1 hw h=>Tg 1 w1 Zd Zd) fun d=>ZI false ?_
  by_cases hN:(Rat.divInt (pqN l) (Jh l)).num=pqN l∧((Rat.divInt (pqN l) (Jh l)).den:Int)=Jh l
  ·rw[if_pos hN]at hE
   rw[hE]
   rw[hD]at hN
   refine ZC (fun w1 hw h=>qisn_v (a:=⟨n,d⟩) (K:=125) (B:=true) ((isnQ_d h.1.2 h.2 Zd).trans (decide_eq_true hN)) h.1.2.i (h.2.i.mono Zd) Zd) fun z=>ZI false <| ZV (.tuple #[(RV.mk n d).val,Zi 0]) (fun w1 hw h=>⟨⟨n,d⟩,rfl,hw,fun w'' k1 k2=>outQn rfl (by unfold Dh;rw[hD];exact qn_of hN (h w'' k1 k2).1.1.2 ((h w'' k1 k2).1.2.mono Zd))⟩)
  ·rw[if_neg hN]at hE
   rw[hE]
   rw[hD]at hN
   refine ZC (fun w1 hw h=>qisn_v (a:=⟨n,d⟩) (K:=125) (B:=false) ((isnQ_d h.1.2 h.2 Zd).trans (decide_eq_false hN)) h.1.2.i (h.2.i.mono Zd) Zd) fun z=>ZI true <| ZV (.tuple #[Ju.val,Zi 3]) (fun w1 hw h=>⟨Ju,rfl,hw,fun w'' k1 k2=>outQ0 Zd⟩)
 refine ZC (fun w1 hw h=>cut_v hP (hM.below hw) hL) fun u=>ZC (fun w1 hw h=>Br (l:=(Mw l).1) Zo) fun n=>ZJ (Ky (Mw l).1 !=0) false (by rw[h1];rfl) <| ZC (fun w1 hw h=>Tg 1 w1 Zd Zd) fun d=>ZI true <| ZC (fun w1 hw h=>Br (l:=(Mw l).2.1) Zo) fun d=> ?_
 by_cases h2:Ky (Mw l).2.1=0
 case neg=>
  rw[pq_e2 h1 hP h2]
  refine ZJ (Ky (Mw l).2.1 !=0) true (by simpa using h2) <| ZV (.tuple #[Ju.val,Zi (Ky (Mw l).2.1)]) (fun w1 hw h=>⟨Ju,rfl,hw,fun w'' k1 k2=>outQ0 h2⟩)
 have hD:Jh l=Lz (Mw l).2.1:=by unfold Jh;rw[hP];rfl
 have lt0:∀y:Int,decide (Q5 (y-2)<0)=decide (y<2):=fun y=>by rw[sgn_lt0];exact decide_eq_decide.2 Zo
 refine ZJ (Ky (Mw l).2.1 !=0) false (by rw[h2];rfl) <| ZC (fun w1 hw h=>Tg 2 w1 Zd Zd) fun t=>ZC (fun w1 hw h=>icmp_m h.1.2.i h.2.i Zd) fun c=> ?_
 by_cases h3:Lz (Mw l).2.1<2
 ·rw[pq_e3 h1 hP h2 h3]
  refine ZJ (decide (Q5 (Lz (Mw l).2.1-2)<0)) true (by rw[lt0];exact decide_eq_true h3) <| ZV (.tuple #[Ju.val,Zi 3]) (fun w1 hw h=>⟨Ju,rfl,hw,fun w'' k1 k2=>outQ0 Zd⟩)
 have hE:=pq_e4 h1 (fun _=>⟨h2,by omega⟩)
 refine ZJ (decide (Q5 (Lz (Mw l).2.1-2)<0)) false (by rw[lt0];exact decide_eq_false h3) ?_
 by_cases hN:(Rat.divInt (pqN l) (Jh l)).num=pqN l∧((Rat.divInt (pqN l) (Jh l)).den:Int)=Jh l
 ·rw[if_pos hN]at hE
  rw[hE]
  rw[hD]at hN
  refine ZC (fun w1 hw h=>qisn_v (a:=⟨n,d⟩) (K:=125) (B:=true) ((isnQ_d h.1.1.1.1.2 h.1.1.2 Zo).trans (decide_eq_true hN)) h.1.1.1.1.2.i h.1.1.2.i Zd) fun z=>ZI false <| ZV (.tuple #[(RV.mk n d).val,Zi 0]) (fun w1 hw h=>⟨⟨n,d⟩,rfl,hw,fun w'' k1 k2=>outQn rfl (by unfold Dh;rw[hD];exact qn_of hN (h w'' k1 k2).1.1.1.1.1.2 (h w'' k1 k2).1.1.1.2)⟩)
 ·rw[if_neg hN]at hE
  rw[hE]
  rw[hD]at hN
  refine ZC (fun w1 hw h=>qisn_v (a:=⟨n,d⟩) (K:=125) (B:=false) ((isnQ_d h.1.1.1.1.2 h.1.1.2 Zo).trans (decide_eq_false hN)) h.1.1.1.1.2.i h.1.1.2.i Zd) fun z=>ZI true <| ZV (.tuple #[Ju.val,Zi 3]) (fun w1 hw h=>⟨Ju,rfl,hw,fun w'' k1 k2=>outQ0 Zd⟩)
end
end Go.Proofs.YtoeiphicmcndlaaGreatDoor
