/-
 A part of the proof.
-/
import Derived.Recover
import Derived.WalkKit
import Derived.LaidEql
import Derived.Stop.Asserts
import Derived.RowKitTokens
import Derived.Test.YtpgkbllcnphmbaaGreatDoorBOh
import Derived.Test.YtpgkbllcnphmbaaGreatDoorBMo
import Derived.Test.YtpgkbllcnphmbaaGreatDoorBAr
namespace Go.Proofs.YtpgkbllcnphmbaaGreatDoor
set_option maxRecDepth 100000
set_option maxHeartbeats 8000000
set_option linter.unusedVariables false
set_option linter.unusedSimpArgs false
open Go.RowKit
abbrev WS:=List (List UInt8)
abbrev Co:=UInt8×UInt8×UInt8×UInt8
structure Im where
 w:Int
 h:Int
 px:List Co
structure Pn where
 kind:Int
 co:Co
 p0x:Int
 p0y:Int
 p1x:Int
 p1y:Int
 rad:Int
 stops:List (Int×Co)
 spread:Int
 im:Im
 samp:Int
 T:Mi
def co0:Co:=(0,0,0,0)
def im0:Im:=⟨0,0,[]⟩
def Qy:Mi:=⟨0,0,0,0,0,0⟩
structure RSt where
 i:Nat
 syn:Bool
 rng:Bool
def sizeR(w h:Int):Bool:=decide (1≤w∧w≤4096∧1≤h∧h≤4096∧w*h≤65536)
theorem K8.cell{w:World}{g j:Nat}{cs:List Value}(h:K8 w g cs):w.cell? ⟨g,j,none⟩=cs[j]? :=by
 obtain⟨t,h⟩:=h
 simp only[World.cell?,h,Option.isSome_none,Bool.false_eq_true,if_false]
 simp
@[reducible] def Cv(c:Co):Value:= .agg #[.int .u8 (c.1.toNat:Int),.int .u8 (c.2.1.toNat:Int),.int .u8 (c.2.2.1.toNat:Int),.int .u8 (c.2.2.2.toNat:Int)]
@[reducible] def imV(m:Im)(y:Option Addr×Nat):Value:= .agg #[.int .i64 m.w,.int .i64 m.h,.slice y.1 m.px.length y.2]
def stC1(x:Int×Co):List Value:=[.int .i64 x.1,.int .u8 (x.2.1.toNat:Int),.int .u8 (x.2.2.1.toNat:Int),.int .u8 (x.2.2.2.1.toNat:Int),.int .u8 (x.2.2.2.2.toNat:Int)]
def Cr(c:Co):List Value:=[.int .u8 (c.1.toNat:Int),.int .u8 (c.2.1.toNat:Int),.int .u8 (c.2.2.1.toNat:Int),.int .u8 (c.2.2.2.toNat:Int)]
structure PM where
 sA:Option Addr
 sc:Nat
 xA:Option Addr
 xc:Nat
 t:TV
@[reducible] def pnV(P:Pn)(q:PM):Value:= .agg (#[.int .i64 P.kind,.int .u8 (P.co.1.toNat:Int),.int .u8 (P.co.2.1.toNat:Int),.int .u8 (P.co.2.2.1.toNat:Int),.int .u8 (P.co.2.2.2.toNat:Int),.int .i64 P.p0x,.int .i64 P.p0y,.int .i64 P.p1x,.int .i64 P.p1y,.int .i64 P.rad,.slice q.sA P.stops.length q.sc,.int .i64 P.spread,.int .i64 P.im.w,.int .i64 P.im.h,.slice q.xA P.im.px.length q.xc,.int .i64 P.samp]++q.t.cl.toArray)
def pnC(P:Pn)(q:PM):List Value:=[.int .i64 P.kind,.int .u8 (P.co.1.toNat:Int),.int .u8 (P.co.2.1.toNat:Int),.int .u8 (P.co.2.2.1.toNat:Int),.int .u8 (P.co.2.2.2.toNat:Int),.int .i64 P.p0x,.int .i64 P.p0y,.int .i64 P.p1x,.int .i64 P.p1y,.int .i64 P.rad,.slice q.sA P.stops.length q.sc,.int .i64 P.spread,.int .i64 P.im.w,.int .i64 P.im.h,.slice q.xA P.im.px.length q.xc,.int .i64 P.samp]++q.t.cl
def Ay:TV:=⟨Oc,Oc,Oc,Oc,Oc,Oc⟩
def Fw:PM:=⟨none,0,none,0,Ay⟩
section
variable{w:World}{A:Option Addr}{n c K:Nat}{px:List Co}
theorem px_idx{k:Nat}{ad:Addr}(hA:A=some ad)(hk:k<n):(Kc 37 (.slice A n c) k).run Tryz.prog w= .ok (.value (.pointer (some (ad.add (k*4))))) w:=by
 rw[hA];exact Lg (elem:=53) Zk Zk hk
theorem px_ld{ad:Addr}{x:Co}(h:∀j v,(Cr x)[j]? =some v→w.cell? (ad.add j)=some v):(Kd 53 ad).run Tryz.prog w= .ok (.value (.agg (Cr x).toArray)) w:=
 N7 Zk Zk h
theorem st_idx{k:Nat}{ad:Addr}(hA:A=some ad)(hk:k<n):(Kc 36 (.slice A n c) k).run Tryz.prog w= .ok (.value (.pointer (some (ad.add (k*5))))) w:=by
 rw[hA];exact Lg (elem:=429) Zk Zk hk
theorem st_ld{ad:Addr}{x:Int×Co}(h:∀j v,(stC1 x)[j]? =some v→w.cell? (ad.add j)=some v):(Kd 429 ad).run Tryz.prog w= .ok (.value (.agg (stC1 x).toArray)) w:=
 N7 Zk Zk h
end
theorem P8{p q:Rat}{B:Bool}(h:decide (p=q)=B):(Kk p q !=0)= !B:=by
 rw[←h]
 unfold Kk
 by_cases h1:p<q
 ·rw[if_pos h1,decide_eq_false (fun k=>by rw[k]at h1;exact absurd h1 (Rat.lt_irrefl))];rfl
 ·rw[if_neg h1]
  by_cases h2:p=q
  ·rw[if_pos h2,decide_eq_true h2];rfl
  ·rw[if_neg h2,decide_eq_false h2];rfl
section
variable{w wa:World}{t u:TV}{T U:Mi}{K K1 K2:Nat}{r s:RV}{p q:Rat}{X Y:Int}{L:List Nat}{ty:TypeId}
theorem equalA_m(ht:S4 t T K w)(hu:S4 u U K w)(hK:2≤K∧K≤10000000):Calls Tryz.prog 304 #[t.val,u.val] w (K3 w (fun _:Unit=> .bool (eqA T U)) fun _ _=>True):=by
 refine K0.enter Tryz.func304 rfl ?_
 refine ZR ?_
 refine ZC (fun w1 hw h=>Xe (ht.below hw) hK) fun n=> ?_
 refine ZC (fun w1 hw h=>Xe (hu.below hw) hK) fun m=> ?_
 refine K0.un Zk ?_
 refine ZR ?_
 refine K0.drop 8 Zk (fun _=> ?_)
 refine ZI true ?_
 refine ZC (fun w1 hw h=>Lq h.1.2.a.q h.2.a.q Zo) fun v=> ?_
 cases hea:decide (T.a=U.a)
 ·
  refine ZJ (Kk T.a U.a !=0) true (by rw[P8 hea];rfl) ?_
  exact ZX (.bool false) (by unfold eqA;rw[hea];simp)
 refine ZJ (Kk T.a U.a !=0) false (by rw[P8 hea];rfl) ?_
 refine K0.drop 8 Zk (fun _=> ?_)
 refine ZI true ?_
 refine ZC (fun w1 hw h=>Lq h.1.1.2.b.q h.1.2.b.q Zo) fun v=> ?_
 cases heb:decide (T.b=U.b)
 ·
  refine ZJ (Kk T.b U.b !=0) true (by rw[P8 heb];rfl) ?_
  exact ZX (.bool false) (by unfold eqA;rw[heb];simp)
 refine ZJ (Kk T.b U.b !=0) false (by rw[P8 heb];rfl) ?_
 refine K0.drop 8 Zk (fun _=> ?_)
 refine ZI true ?_
 refine ZC (fun w1 hw h=>Lq h.1.1.1.2.c.q h.1.1.2.c.q Zo) fun v=> ?_
 cases hec:decide (T.c=U.c)
 ·
  refine ZJ (Kk T.c U.c !=0) true (by rw[P8 hec];rfl) ?_
  exact ZX (.bool false) (by unfold eqA;rw[hec];simp)
 refine ZJ (Kk T.c U.c !=0) false (by rw[P8 hec];rfl) ?_
 refine K0.drop 8 Zk (fun _=> ?_)
 refine ZI true ?_
 refine ZC (fun w1 hw h=>Lq h.1.1.1.1.2.d.q h.1.1.1.2.d.q Zo) fun v=> ?_
 cases hed:decide (T.d=U.d)
 ·
  refine ZJ (Kk T.d U.d !=0) true (by rw[P8 hed];rfl) ?_
  exact ZX (.bool false) (by unfold eqA;rw[hed];simp)
 refine ZJ (Kk T.d U.d !=0) false (by rw[P8 hed];rfl) ?_
 refine K0.drop 8 Zk (fun _=> ?_)
 refine ZI true ?_
 refine ZC (fun w1 hw h=>Lq h.1.1.1.1.1.2.e.q h.1.1.1.1.2.e.q Zo) fun v=> ?_
 cases hee:decide (T.e=U.e)
 ·
  refine ZJ (Kk T.e U.e !=0) true (by rw[P8 hee];rfl) ?_
  exact ZX (.bool false) (by unfold eqA;rw[hee];simp)
 refine ZJ (Kk T.e U.e !=0) false (by rw[P8 hee];rfl) ?_
 refine K0.drop 8 Zk (fun _=> ?_)
 refine ZI true ?_
 refine ZC (fun w1 hw h=>Lq h.1.1.1.1.1.1.2.f.q h.1.1.1.1.1.2.f.q Zo) fun v=> ?_
 cases hef:decide (T.f=U.f)
 ·
  refine ZJ (Kk T.f U.f !=0) true (by rw[P8 hef];rfl) ?_
  exact ZX (.bool false) (by unfold eqA;rw[hef];simp)
 refine ZJ (Kk T.f U.f !=0) false (by rw[P8 hef];rfl) ?_
 refine ZI false ?_
 exact ZX (.bool true) (by unfold eqA;rw[hea,heb,hec,hed,hee,hef];rfl)
end
section
variable{w:World}
def coEq(a b:Co):Bool:=((a.1.toNat:Int)==(b.1.toNat:Int))&&(((a.2.1.toNat:Int)==(b.2.1.toNat:Int))&&(((a.2.2.1.toNat:Int)==(b.2.2.1.toNat:Int))&&(((a.2.2.2.toNat:Int)==(b.2.2.2.toNat:Int))&&true)))
theorem I9{a b:UInt8}:((a.toNat:Int)==(b.toNat:Int))=decide (a=b):=by
 rw[Bool.eq_iff_iff,beq_iff_eq,decide_eq_true_iff,Int.ofNat_inj]
 exact UInt8.toNat_inj
theorem coEq_eq{a b:Co}:coEq a b=decide (a=b):=by
 obtain⟨a1,a2,a3,a4⟩:=a
 obtain⟨b1,b2,b3,b4⟩:=b
 unfold coEq
 rw[I9,I9,I9,I9,Bool.eq_iff_iff]
 simp
theorem eq_co(k:Nat)(a b:Co):(Op.equalIn (k+2) 31 (Cv a) (Cv b)).run Tryz.prog w= .ok (coEq a b) w:=by
 have h1:Tryz.prog.underlying 31=some (.struct (Tryz.prog.fieldsOf 31)):=by kernel_rfl
 have h2:Tryz.prog.stoodInHeld 31=false:=by kernel_rfl
 have hm:(Tryz.prog.fieldsOf 31).toList.map (fun f=>(f.name,f.offset,f.type))=[("R",0,5),("G",1,5),("B",2,5),("A",3,5)]:=by kernel_rfl
 have hu:Tryz.prog.underlying 5=some (.int .u8):=by kernel_rfl
 obtain⟨f0,r0,hf,k0,hm⟩:=List.map_eq_cons_iff.1 hm
 obtain⟨f1,r1,hf1,k1,hm⟩:=List.map_eq_cons_iff.1 hm
 obtain⟨f2,r2,hf2,k2,hm⟩:=List.map_eq_cons_iff.1 hm
 obtain⟨f3,r3,hf3,k3,hm⟩:=List.map_eq_cons_iff.1 hm
 obtain rfl:r3=[]:=List.map_eq_nil_iff.1 hm
 subst hf3;subst hf2;subst hf1
 simp only[Prod.mk.injEq]at k0 k1 k2 k3
 obtain⟨n0,o0,t0⟩:=k0
 obtain⟨n1,o1,t1⟩:=k1
 obtain⟨n2,o2,t2⟩:=k2
 obtain⟨n3,o3,t3⟩:=k3
 have e0:∀a b:Int,(Op.equalIn (k+1) 5 (.int .u8 a) (.int .u8 b)).run Tryz.prog w= .ok (a==b) w:=fun a b=>run_equalIn_int w k _ .u8 .u8 a b hu
 show(Op.equalIn (k+1+1) 31 (.agg _) (.agg _)).run Tryz.prog w=_
 rw[run_equalIn_struct w (k+1) _ _ _ h1 h2,hf]
 refine Nw (by rw[n0];decide) (by rw[t0,o0];exact Kx hu rfl rfl) (by rw[t0,o0];exact Kx hu rfl rfl) (by rw[t0];exact e0 _ _) ?_
 refine Nw (by rw[n1];decide) (by rw[t1,o1];exact Kx hu rfl rfl) (by rw[t1,o1];exact Kx hu rfl rfl) (by rw[t1];exact e0 _ _) ?_
 refine Nw (by rw[n2];decide) (by rw[t2,o2];exact Kx hu rfl rfl) (by rw[t2,o2];exact Kx hu rfl rfl) (by rw[t2];exact e0 _ _) ?_
 refine Nw (by rw[n3];decide) (by rw[t3,o3];exact Kx hu rfl rfl) (by rw[t3,o3];exact Kx hu rfl rfl) (by rw[t3];exact e0 _ _) ?_
 simp[Op.eqFields]
theorem Gr{x y:Operand}{a b:Co}{B:Bool}(hB:decide (a=b)=B):(Xs 31 x y (Cv a) (Cv b)).run Tryz.prog w= .ok (.value (.bool B)) w:=by
 subst hB
 have h3:Tryz.prog.eqGuardType Tryz.prog.depth 31=false:=by kernel_rfl
 have he:=eq_co (w:=w) 9998 a b
 rw[coEq_eq]at he
 simp only[Xs,Sem.run_bind,run_eqGuard_agg w .eql _ x y _ _ h3,Result.andThen_ok,run_eql_struct,Sem.run_pure]at he ⊢
 rw[he]
 rfl
theorem eq_pxn(k:Nat)(a b:Co):(Op.equalIn (k+2) 53 (Cv a) (Cv b)).run Tryz.prog w= .ok (coEq a b) w:=by
 have h1:Tryz.prog.underlying 53=some (.struct (Tryz.prog.fieldsOf 53)):=by kernel_rfl
 have h2:Tryz.prog.stoodInHeld 53=false:=by kernel_rfl
 have hm:(Tryz.prog.fieldsOf 53).toList.map (fun f=>(f.name,f.offset,f.type))=[("R",0,5),("G",1,5),("B",2,5),("A",3,5)]:=by kernel_rfl
 have hu:Tryz.prog.underlying 5=some (.int .u8):=by kernel_rfl
 obtain⟨f0,r0,hf,k0,hm⟩:=List.map_eq_cons_iff.1 hm
 obtain⟨f1,r1,hf1,k1,hm⟩:=List.map_eq_cons_iff.1 hm
 obtain⟨f2,r2,hf2,k2,hm⟩:=List.map_eq_cons_iff.1 hm
 obtain⟨f3,r3,hf3,k3,hm⟩:=List.map_eq_cons_iff.1 hm
 obtain rfl:r3=[]:=List.map_eq_nil_iff.1 hm
 subst hf3;subst hf2;subst hf1
 simp only[Prod.mk.injEq]at k0 k1 k2 k3
 obtain⟨n0,o0,t0⟩:=k0
 obtain⟨n1,o1,t1⟩:=k1
 obtain⟨n2,o2,t2⟩:=k2
 obtain⟨n3,o3,t3⟩:=k3
 have e0:∀a b:Int,(Op.equalIn (k+1) 5 (.int .u8 a) (.int .u8 b)).run Tryz.prog w= .ok (a==b) w:=fun a b=>run_equalIn_int w k _ .u8 .u8 a b hu
 show(Op.equalIn (k+1+1) 53 (.agg _) (.agg _)).run Tryz.prog w=_
 rw[run_equalIn_struct w (k+1) _ _ _ h1 h2,hf]
 refine Nw (by rw[n0];decide) (by rw[t0,o0];exact Kx hu rfl rfl) (by rw[t0,o0];exact Kx hu rfl rfl) (by rw[t0];exact e0 _ _) ?_
 refine Nw (by rw[n1];decide) (by rw[t1,o1];exact Kx hu rfl rfl) (by rw[t1,o1];exact Kx hu rfl rfl) (by rw[t1];exact e0 _ _) ?_
 refine Nw (by rw[n2];decide) (by rw[t2,o2];exact Kx hu rfl rfl) (by rw[t2,o2];exact Kx hu rfl rfl) (by rw[t2];exact e0 _ _) ?_
 refine Nw (by rw[n3];decide) (by rw[t3,o3];exact Kx hu rfl rfl) (by rw[t3,o3];exact Kx hu rfl rfl) (by rw[t3];exact e0 _ _) ?_
 simp[Op.eqFields]
theorem run_eq_pxn{x y:Operand}{a b:Co}{B:Bool}(hB:decide (a=b)=B):(Xs 53 x y (Cv a) (Cv b)).run Tryz.prog w= .ok (.value (.bool B)) w:=by
 subst hB
 have h3:Tryz.prog.eqGuardType Tryz.prog.depth 53=false:=by kernel_rfl
 have he:=eq_pxn (w:=w) 9998 a b
 rw[coEq_eq]at he
 simp only[Xs,Sem.run_bind,run_eqGuard_agg w .eql _ x y _ _ h3,Result.andThen_ok,run_eql_struct,Sem.run_pure]at he ⊢
 rw[he]
 rfl
end
structure PRd(P:Pn)(q:PM)(K:Nat)(w:World):Prop where
 st:Kq w q.sA P.stops.length 5 stC1 P.stops
 px:Kq w q.xA P.im.px.length 4 Cr P.im.px
 tr:S4 q.t P.T K w
theorem PRd.below{P:Pn}{q:PM}{K:Nat}{w w1:World}(h:PRd P q K w)(hw:Below w.heap.size w w1):PRd P q K w1:=⟨h.st.below hw,h.px.below hw,h.tr.below hw⟩
theorem S4.zero{K:Nat}{w:World}:S4 Ay Qy K w:=⟨isq0,isq0,isq0,isq0,isq0,isq0⟩
def stOK:Int→List (Int×Co)→Bool
 |_,[]=>true
 |a,x::l=>decide (a≤x.1∧x.1≤65536)&&stOK x.1 l
def Sd(l:List (Int×Co)):Bool:=decide (1≤l.length∧l.length≤16)&&stOK 0 l
def G3(c:Co):Bool:=decide (c.1≤c.2.2.2∧c.2.1≤c.2.2.2∧c.2.2.1≤c.2.2.2)
def imOK(m:Im):Bool:=sizeR m.w m.h&&decide ((m.px.length:Int)=m.w*m.h)&&m.px.all G3
def Xw(n:Int):Bool:=decide (1≤n∧n≤3)
def At(P:Pn):Pn:=
 if P.kind=1 then{P with co:=co0,T:=Qy}
 else if P.kind=2 then{P with p0x:=0,p0y:=0,p1x:=0,p1y:=0,stops:=[],spread:=0,T:=Qy}
 else if P.kind=3 then{P with p0x:=0,p0y:=0,rad:=0,stops:=[],spread:=0,T:=Qy}
 else if P.kind=4 then{P with im:=im0,spread:=0,samp:=0,T:=Qy}
 else{P with T:=Qy}
def T7(P:Pn):Prop:=P.co=co0∧(P.p0x=0∧P.p0y=0)∧(P.p1x=0∧P.p1y=0)∧P.rad=0∧P.spread=0∧P.samp=0∧P.stops=[]∧(P.im.w=0∧P.im.h=0∧P.im.px=[])
instance(P:Pn):Decidable (T7 P):=decidable_of_iff (P.co=co0∧(P.p0x=0∧P.p0y=0)∧(P.p1x=0∧P.p1y=0)∧P.rad=0∧P.spread=0∧P.samp=0∧P.stops=[]∧(P.im.w=0∧P.im.h=0∧P.im.px=[])) Iff.rfl
def kindOK(P:Pn):Bool:=
 if P.kind=1 then eqA P.T Qy
 else if P.kind=2 then Lt P.p0x P.p0y&&(Lt P.p1x P.p1y&&((Sd P.stops&&Xw P.spread)&&decide (P.T.det≠0)))
 else if P.kind=3 then Lt P.p0x P.p0y&&(decide (1≤P.rad∧P.rad≤1048576)&&((Sd P.stops&&Xw P.spread)&&decide (P.T.det≠0)))
 else if P.kind=4 then imOK P.im&&((decide (P.spread=0)||Xw P.spread)&&(decide (P.samp=1∨P.samp=2)&&decide (P.T.det≠0)))
 else false
def Ma(P:Pn):Bool:=P.T.ok&&(decide (T7 (At P))&&kindOK P)
section
variable{w:World}{A A2:Option Addr}{n c:Nat}{l:List (Int×Co)}{px:List Co}{P:Pn}{q:PM}{K:Nat}{B:Bool}{k x y:Int}{m:Im}{co:Co}{g:Nat}
def mn8(a b:UInt8):UInt8:=if b<a then b else a
theorem mn8_eq(a b:UInt8):((mn8 a b).toNat:Int)=if (b.toNat:Int)<(a.toNat:Int)then(b.toNat:Int)else(a.toNat:Int):=by
 unfold mn8
 by_cases h:b<a
 ·rw[if_pos h,if_pos (by have:=UInt8.lt_iff_toNat_lt.1 h;omega)]
 ·rw[if_neg h,if_neg (by have:=mt UInt8.lt_iff_toNat_lt.2 h;omega)]
def Yp(c:Co):Co:=(mn8 c.1 c.2.2.2,mn8 c.2.1 c.2.2.2,mn8 c.2.2.1 c.2.2.2,mn8 c.2.2.2 c.2.2.2)
theorem mn8_self{a b:UInt8}:mn8 a b=a↔a≤b:=by
 unfold mn8
 by_cases h:b<a
 ·rw[if_pos h]
  have:=UInt8.lt_iff_toNat_lt.1 h
  constructor
  ·intro e;subst e;exact UInt8.le_refl _
  ·intro e;have:=UInt8.le_iff_toNat_le.1 e;omega
 ·rw[if_neg h]
  have:=mt UInt8.lt_iff_toNat_lt.2 h
  exact⟨fun _=>UInt8.le_iff_toNat_le.2 Zo,fun _=>rfl⟩
theorem clampC_ok:decide (Yp co=co)=G3 co:=by
 obtain⟨r,g,b,a⟩:=co
 unfold Yp G3
 apply decide_eq_decide.2
 simp only[Prod.mk.injEq,mn8_self]
 constructor
 ·exact fun h=>⟨h.1,h.2.1,h.2.2.1⟩
 ·exact fun h=>⟨h.1,h.2.1,h.2.2,UInt8.le_refl _⟩
theorem Xn{v:UInt8}(hb:K8 w g (Cr co)):Calls Tryz.prog 116 #[.int .u8 (v.toNat:Int),.pointer (some ⟨g,0,none⟩)] w (K3 w (fun _:Unit=> .int .u8 ((mn8 v co.2.2.2).toNat:Int)) fun _ _=>True):=by
 refine K0.enter Tryz.func116 rfl ?_
 refine ZR ?_
 refine ZA (Kd 5 ⟨g,3,none⟩) (.int .u8 (co.2.2.2.toNat:Int)) (fun w1 hw h=>Kg Zk (by rw[(hb.below hw).cell];rfl)) ?_
 exact ZX (.int .u8 (if (co.2.2.2.toNat:Int)<(v.toNat:Int)then(co.2.2.2.toNat:Int)else(v.toNat:Int))) (by rw[mn8_eq])
theorem eachCo_m(hb:K8 w g (Cr co)):Calls Tryz.prog 32 #[Cv co,.func (.func 116) #[] #[.pointer (some ⟨g,0,none⟩)]] w (K3 w (fun _:Unit=>Cv (Yp co)) fun _ _=>True):=by
 refine K0.enter Tryz.func32 rfl ?_
 refine ZR ?_
 refine ZC (fun w1 hw h=>Xn (v:=co.1) (hb.below hw)) fun u0=> ?_
 refine ZC (fun w1 hw h=>Xn (v:=co.2.1) (hb.below hw)) fun u1=> ?_
 refine ZC (fun w1 hw h=>Xn (v:=co.2.2.1) (hb.below hw)) fun u2=> ?_
 refine ZC (fun w1 hw h=>Xn (v:=co.2.2.2) (hb.below hw)) fun u3=> ?_
 exact ZW (Cv (Yp co))
theorem clampC_m:Calls Tryz.prog 64 #[Cv co] w (K3 w (fun _:Unit=>Cv (Yp co)) fun _ _=>True):=by
 refine K0.enter Tryz.func64 rfl ?_
 refine ZS 0 ?_
 refine K0.make (Ad 53 (Cv co)) (Ku) (fun g u=>K8 u g (Cr co)∧0≤g∧g<u.heap.size) Zk (fun w1 hw h=>make_box (v:=Cv co) (Nat.zero_le _)) (fun g=> ?_)
 refine ZS 1 ?_
 refine ZR ?_
 refine ZA (Kd 53 ⟨g,0,none⟩) (Cv co) (fun w1 hw h=>Ka (vs:=Cr co) Zk Zk h.2.1.range) ?_
 refine ZC (fun w1 hw h=>eachCo_m h.2.1) fun u=> ?_
 exact ZW (Cv (Yp co))
theorem cvalid_v(hB:G3 co=B):Calls Tryz.prog 84 #[Cv co] w (K3 w (fun _:Unit=> .bool B) fun _ _=>True):=by
 refine K0.enter Tryz.func84 rfl ?_
 refine ZR ?_
 refine ZD 3 (fun w1 hw h=>clampC_m (co:=co)) fun u=> ?_
 refine ZB 3 (Xs 53 (.tmp 4) (.tmp 5) (Cv (Yp co)) (Cv co)) (.bool B) (fun w1 hw h=>run_eq_pxn (clampC_ok.trans hB)) ?_
 exact ZW (.bool B)
theorem He(hB:G3 co=B):Calls Tryz.prog 190 #[Cv co] w (K3 w (fun _:Unit=> .bool (!B)) fun _ _=>True):=by
 refine K0.enter Tryz.func190 rfl ?_
 refine ZR ?_
 refine ZC (fun w1 hw h=>cvalid_v hB) fun u=> ?_
 exact ZW (.bool (!B))
theorem may_v(hB:decide (1≤x∧x≤4096)=B):Calls Tryz.prog 189 #[.int .i64 x] w (K3 w (fun _:Unit=> .bool B) fun _ _=>True):=by
 refine K0.enter Tryz.func189 rfl ?_
 refine ZS 3 ?_
 by_cases h1:1≤x
 case neg=>
  refine ZT 5 (.bool (decide (x≥1))) (.bool false) (by rw[decide_eq_false Zo]) ?_
  exact ZX (.bool false) (by rw[←hB,decide_eq_false Zo])
 refine ZT 5 (.bool (decide (x≥1))) (.bool true) (by rw[decide_eq_true Zo]) ?_
 exact ZX (.bool (decide (x≤4096))) (by rw[←hB];congr 2;exact decide_eq_decide.2 Zo)
theorem Z6(hB:Xw x=B):Calls Tryz.prog 306 #[.int .i64 x] w (K3 w (fun _:Unit=> .bool B) fun _ _=>True):=by
 unfold Xw at hB
 refine K0.enter Tryz.func306 rfl ?_
 refine ZS 3 ?_
 by_cases h1:1≤x
 case neg=>
  refine ZT 5 (.bool (decide (x≥1))) (.bool false) (by rw[decide_eq_false Zo]) ?_
  exact ZX (.bool false) (by rw[←hB,decide_eq_false Zo])
 refine ZT 5 (.bool (decide (x≥1))) (.bool true) (by rw[decide_eq_true Zo]) ?_
 exact ZX (.bool (decide (x≤3))) (by rw[←hB];congr 2;exact decide_eq_decide.2 Zo)
theorem Fp{α:Type}{p:α→Bool}{l:List α}{k:Nat}{x:α}(hx:l[k]? =some x)(h:(l.take k).all p=true):(l.take (k+1)).all p=p x:=by
 rw[List.take_add_one,hx];simp[h]
theorem all_bad{α:Type}{p:α→Bool}{l:List α}{k:Nat}{x:α}(hx:l[k]? =some x)(h:p x=false):l.all p=false:=by
 rw[List.all_eq_false];exact⟨x,List.mem_of_getElem? hx,by simp[h]⟩
theorem index_v(hB:px.all G3=B)(hp:Kq w A n 4 Cr px)(hn:n≤1000000000):Calls Tryz.prog 141 #[.slice A n c,.func (.func 190) #[] #[]] w (K3 w (fun r:{r:Int // decide (r≥0)= !B}=> .int .i64 r.1) fun _ _=>True):=by
 have hpn:=hp.1
 refine K0.enter Tryz.func141 rfl ?_
 refine ZR ?_
 refine K0.loop (ι:={q:Nat // q≤n∧(px.take q).all G3=true}) 19 (fun q=>⟨[(0,.v (.slice A n c)),(1,.v (.func (.func 190) #[] #[])),(7,.v (.int .i64 n)),(8,.v (.int .i64 q.1))],[]⟩) (fun q u=>True) (fun q=>n-q.1) (⟨0,Nat.zero_le _,rfl⟩) Zk (fun _=>by kernel_rfl) ⟨Zk,Zk,Zk⟩ (fun u h=>trivial) ?_
 rintro⟨k,hk,hall⟩ gg
 have hk:k≤n:=hk
 have hall:(px.take k).all G3=true:=hall
 by_cases hlt:k<n
 case neg=>
  obtain rfl:k=n:=by omega
  rw[List.take_of_length_le Zo]at hall
  refine ZR ?_
  refine ZJ (decide ((k:Int)<(k:Int))) false Zs ?_
  refine K0.leave Zk ?_
  refine ZR ?_
  refine ZV (.int .i64 (-1)) (fun w1 hw h=>⟨⟨-1,by rw[←hB,hall];rfl⟩,rfl,hw,fun _ _ _=>trivial⟩)
 obtain⟨x,hx⟩:∃x,px[k]? =some x:=⟨_,List.getElem?_eq_getElem Zo⟩
 obtain⟨ad,hA,hc⟩:=hp.2 k x hx
 refine ZR ?_
 refine ZJ (decide ((k:Int)<(n:Int))) true Zp ?_
 refine ZA (Kc 37 (.slice A n c) k) (.pointer (some (ad.add (k*4)))) (fun w1 hw h=>px_idx hA hlt) ?_
 refine ZA (Kd 53 (ad.add (k*4))) (.agg (Cr x).toArray) (fun w1 hw h=>px_ld fun j v hj=>Kt hw (hc j v hj)) ?_
 cases hb:G3 x
 ·
  refine ZC (fun w1 hw h=>He (co:=x) hb) fun u=> ?_
  refine ZI true ?_
  refine K0.leave Zk ?_
  refine ZR ?_
  refine ZV (.int .i64 (k:Int)) (fun w1 hw h=>⟨⟨k,by rw[←hB,all_bad hx hb];simp⟩,rfl,hw,fun _ _ _=>trivial⟩)
 ·
  refine ZC (fun w1 hw h=>He (co:=x) hb) fun u=> ?_
  refine ZI false ?_
  refine K0.slot 8 (.int .i64 (IntKind.i64.wrap ((k:Int)+1))) (.int .i64 ((k+1:Nat):Int)) Zk (by rw[K7 hlt Zo]) ?_
  refine K0.next (⟨k+1,by show k+1≤n;omega,by rw[Fp hx hall,hb]⟩) Zk (by show n- (k+1)<n-k;omega) ⟨Zk,Zk,Zk⟩ (fun u h=>trivial)
theorem contains_v(hB:px.all G3=B)(hp:Kq w A n 4 Cr px)(hn:n≤1000000000):Calls Tryz.prog 82 #[.slice A n c,.func (.func 190) #[] #[]] w (K3 w (fun _:Unit=> .bool (!B)) fun _ _=>True):=by
 refine K0.enter Tryz.func82 rfl ?_
 refine ZR ?_
 refine ZC (fun w1 hw h=>index_v (c:=c) hB (hp.below hw) hn) fun u=> ?_
 exact ZX (.bool (decide (u.1≥0))) (by rw[u.2])
theorem D0(h1:1≤x∧x≤4096)(h2:1≤y∧y≤4096):IntKind.i64.wrap (x*y)=x*y:=by
 have h3:x*y≤4096*4096:=Int.mul_le_mul h1.2 h2.2 Zo Zo
 have h4:0≤x*y:=Int.mul_nonneg Zo Zo
 rw[IntWalk.i64_in _ Zo]
theorem Bj{y:Option Addr×Nat}(hB:imOK m=B)(hp:Kq w y.1 m.px.length 4 Cr m.px)(hn:m.px.length≤1000000000):Calls Tryz.prog 129 #[imV m y] w (K3 w (fun _:Unit=> .bool B) fun _ _=>True):=by
 unfold imOK at hB
 refine K0.enter Tryz.func129 rfl ?_
 refine ZR ?_
 by_cases h1:1≤m.w∧m.w≤4096
 case neg=>
  have hz:sizeR m.w m.h=false:=decide_eq_false Zo
  refine ZC (fun w1 hw h=>may_v (x:=m.w) (decide_eq_false h1)) fun u=> ?_
  refine ZR ?_
  refine ZI true ?_
  exact ZX (.bool false) (by rw[←hB,hz];rfl)
 refine ZC (fun w1 hw h=>may_v (x:=m.w) (decide_eq_true h1)) fun u=> ?_
 by_cases h2:1≤m.h∧m.h≤4096
 case neg=>
  have hz:sizeR m.w m.h=false:=decide_eq_false Zo
  refine ZC (fun w1 hw h=>may_v (x:=m.h) (decide_eq_false h2)) fun u2=> ?_
  refine ZR ?_
  refine ZI true ?_
  exact ZX (.bool false) (by rw[←hB,hz];rfl)
 refine ZD 21 (fun w1 hw h=>may_v (x:=m.h) (decide_eq_true h2)) fun u2=> ?_
 by_cases h3:m.w*m.h≤65536
 case neg=>
  have hz:sizeR m.w m.h=false:=decide_eq_false Zo
  refine ZT 24 (.bool (decide (IntKind.i64.wrap (m.w*m.h)>65536))) (.bool true) (by rw[D0 h1 h2,decide_eq_true Zo]) ?_
  refine ZI true ?_
  exact ZX (.bool false) (by rw[←hB,hz];rfl)
 have hz:sizeR m.w m.h=true:=decide_eq_true ⟨h1.1,h1.2,h2.1,h2.2,h3⟩
 rw[hz,Bool.true_and]at hB
 refine ZT 24 (.bool (decide (IntKind.i64.wrap (m.w*m.h)>65536))) (.bool false) (by rw[D0 h1 h2,decide_eq_false Zo]) ?_
 by_cases h4:(m.px.length:Int)=m.w*m.h
 case neg=>
  refine ZJ (((m.px.length:Int) !=IntKind.i64.wrap (m.w*m.h))) true (by rw[D0 h1 h2];simpa using h4) ?_
  exact ZX (.bool false) (by rw[←hB,decide_eq_false h4];rfl)
 rw[decide_eq_true h4,Bool.true_and]at hB
 refine ZJ (((m.px.length:Int) !=IntKind.i64.wrap (m.w*m.h))) false (by rw[D0 h1 h2];simpa using h4) ?_
 refine ZC (fun w1 hw h=>contains_v (c:=y.2) hB (hp.below hw) hn) fun v=> ?_
 exact ZX (.bool (!!B)) (by rw[Bool.not_not])
theorem Es(hB:Sd l=B)(hp:Kq w A n 5 stC1 l):Calls Tryz.prog 342 #[.slice A n c] w (K3 w (fun _:Unit=> .bool B) fun _ _=>True):=by
 have hpn:=hp.1
 unfold Sd at hB
 refine K0.enter Tryz.func342 rfl ?_
 refine ZS 4 ?_
 by_cases h1:n<1
 case pos=>
  refine ZT 9 (.bool (decide ((n:Int)<1))) (.bool true) (by rw[decide_eq_true Zo]) ?_
  refine ZI true ?_
  exact ZX (.bool false) (by rw[←hB,decide_eq_false Zo];rfl)
 refine ZT 9 (.bool (decide ((n:Int)<1))) (.bool false) (by rw[decide_eq_false Zo]) ?_
 by_cases h2:n>16
 case pos=>
  refine ZJ (decide ((n:Int)>16)) true Zp ?_
  exact ZX (.bool false) (by rw[←hB,decide_eq_false Zo];rfl)
 rw[decide_eq_true Zo,Bool.true_and]at hB
 refine ZJ (decide ((n:Int)>16)) false Zp ?_
 refine K0.loop (ι:={q:Nat×Int // q.1≤n∧stOK q.2 (l.drop q.1)=B}) 32 (fun q=>⟨[(3,.v (.int .i64 q.1.2)),(14,.v (.slice A n c)),(15,.v (.int .i64 n)),(16,.v (.int .i64 q.1.1))],[]⟩) (fun q u=>True) (fun q=>n-q.1.1) (⟨(0,0),Nat.zero_le _,hB⟩) Zk (fun _=>by kernel_rfl) ⟨Zk,Zk,Zk⟩ (fun u h=>trivial) ?_
 rintro⟨⟨k,a⟩,hk,hst⟩ gg
 have hk:k≤n:=hk
 have hst:stOK a (l.drop k)=B:=hst
 by_cases hlt:k<n
 case neg=>
  obtain rfl:k=n:=by omega
  rw[List.drop_eq_nil_of_le Zo]at hst
  refine ZR ?_
  refine ZJ (decide ((k:Int)<(k:Int))) false Zs ?_
  refine K0.leave Zk ?_
  refine ZR ?_
  exact ZX (.bool true) (by rw[←hst];rfl)
 obtain⟨x,hx⟩:∃x,l[k]? =some x:=⟨_,List.getElem?_eq_getElem Zo⟩
 obtain⟨ad,hA,hc⟩:=hp.2 k x hx
 have e:stOK a (l.drop k)=(decide (a≤x.1∧x.1≤65536)&&stOK x.1 (l.drop (k+1))):=by rw[Nn hx];rfl
 rw[e]at hst
 refine ZR ?_
 refine ZJ (decide ((k:Int)<(n:Int))) true Zp ?_
 refine ZA (Kc 36 (.slice A n c) k) (.pointer (some (ad.add (k*5)))) (fun w1 hw h=>st_idx hA hlt) ?_
 refine K0.ask (Kd 429 (ad.add (k*5))) (.agg (stC1 x).toArray) Zk (fun w1 hw h=>st_ld fun j v hj=>Kt hw (hc j v hj)) ?_
 refine ZS 5 ?_
 by_cases h3:x.1<a
 case pos=>
  refine ZT 24 (.bool (decide (x.1<a))) (.bool true) (by rw[decide_eq_true h3]) ?_
  refine ZI true ?_
  refine K0.leave Zk ?_
  refine ZR ?_
  exact ZX (.bool false) (by rw[←hst,decide_eq_false Zo];rfl)
 refine ZT 24 (.bool (decide (x.1<a))) (.bool false) (by rw[decide_eq_false h3]) ?_
 by_cases h4:x.1>65536
 case pos=>
  refine ZJ (decide (x.1>65536)) true (by simpa using h4) ?_
  refine K0.leave Zk ?_
  refine ZR ?_
  exact ZX (.bool false) (by rw[←hst,decide_eq_false Zo];rfl)
 rw[decide_eq_true Zo,Bool.true_and]at hst
 refine ZJ (decide (x.1>65536)) false (by simpa using h4) ?_
 refine K0.slot 16 (.int .i64 (IntKind.i64.wrap ((k:Int)+1))) (.int .i64 ((k+1:Nat):Int)) Zk (by rw[K7 hlt Zo]) ?_
 refine K0.next (⟨(k+1,x.1),by show k+1≤n;omega,hst⟩) Zk (by show n- (k+1)<n-k;omega) ⟨Zk,Zk,Zk⟩ (fun u h=>trivial)
theorem Yy(hB:(Sd P.stops&&Xw P.spread)=B)(hp:PRd P q K w):Calls Tryz.prog 305 #[pnV P q] w (K3 w (fun _:Unit=> .bool B) fun _ _=>True):=by
 cases h1:Sd P.stops
 ·
  refine K0.enter Tryz.func305 rfl ?_
  refine ZR ?_
  refine ZC (fun w1 hw h=>Es (c:=q.sc) h1 (hp.st.below hw)) fun u=> ?_
  exact ZX (.bool false) (by rw[←hB,h1];rfl)
 cases h2:Xw P.spread
 ·
  refine K0.enter Tryz.func305 rfl ?_
  refine ZR ?_
  refine ZC (fun w1 hw h=>Es (c:=q.sc) h1 (hp.st.below hw)) fun u=> ?_
  refine ZC (fun w1 hw h=>Z6 (x:=P.spread) h2) fun u2=> ?_
  exact ZX (.bool false) (by rw[←hB,h1,h2];rfl)
 ·
  refine K0.enter Tryz.func305 rfl ?_
  refine ZR ?_
  refine ZC (fun w1 hw h=>Es (c:=q.sc) h1 (hp.st.below hw)) fun u=> ?_
  refine ZC (fun w1 hw h=>Z6 (x:=P.spread) h2) fun u2=> ?_
  exact ZX (.bool true) (by rw[←hB,h1,h2];rfl)
theorem eqnil_st(hB:decide (n=0)=B):Calls Tryz.prog 341 #[.slice A n c,.slice none 0 0] w (K3 w (fun _:Unit=> .bool B) fun _ _=>True):=by
 refine K0.enter Tryz.func341 rfl ?_
 refine ZR ?_
 by_cases h0:n=0
 case neg=>
  refine ZJ (((n:Int) !=0)) true (by simpa using h0) ?_
  exact ZX (.bool false) (by rw[←hB,decide_eq_false h0])
 subst h0
 refine ZI false ?_
 refine K0.un Zk ?_
 refine ZR ?_
 refine ZI false ?_
 exact ZX (.bool true) (by rw[←hB];rfl)
theorem eqnil_px(hB:decide (n=0)=B):Calls Tryz.prog 258 #[.slice A n c,.slice none 0 0] w (K3 w (fun _:Unit=> .bool B) fun _ _=>True):=by
 refine K0.enter Tryz.func258 rfl ?_
 refine ZR ?_
 by_cases h0:n=0
 case neg=>
  refine ZJ (((n:Int) !=0)) true (by simpa using h0) ?_
  exact ZX (.bool false) (by rw[←hB,decide_eq_false h0])
 subst h0
 refine ZI false ?_
 refine K0.un Zk ?_
 refine ZR ?_
 refine ZI false ?_
 exact ZX (.bool true) (by rw[←hB];rfl)
theorem Er{y:Option Addr×Nat}(hB:decide (m.w=0∧m.h=0∧m.px=[])=B):Calls Tryz.prog 186 #[imV m y,imV im0 (none,0)] w (K3 w (fun _:Unit=> .bool B) fun _ _=>True):=by
 refine K0.enter Tryz.func186 rfl ?_
 refine ZS 6 ?_
 by_cases h1:m.w=0
 case neg=>
  refine ZT 10 (.bool (m.w==0)) (.bool false) (by rw[beq_eq_false_iff_ne.2 h1]) ?_
  refine ZV (.bool false) (fun w1 hw h=>⟨(),by rw[←hB,decide_eq_false (fun h=>h1 h.1)],hw,fun _ _ _=>trivial⟩)
 refine K0.slot 10 (.bool (m.w==0)) (.bool true) Zk (by rw[beq_iff_eq.2 h1]) ?_
 refine ZS 13 ?_
 by_cases h2:m.h=0
 case neg=>
  refine ZT 17 (.bool (m.h==0)) (.bool false) (by rw[beq_eq_false_iff_ne.2 h2]) ?_
  refine ZV (.bool false) (fun w1 hw h=>⟨(),by rw[←hB,decide_eq_false (fun h=>h2 h.2.1)],hw,fun _ _ _=>trivial⟩)
 refine ZT 17 (.bool (m.h==0)) (.bool true) (by rw[beq_iff_eq.2 h2]) ?_
 refine ZC (fun w1 hw h=>eqnil_px (A:=y.1) (c:=y.2) (n:=m.px.length) (B:=B) (by rw[←hB];apply decide_eq_decide.2;rw[List.length_eq_zero_iff];exact⟨fun h=>⟨h1,h2,h⟩,fun h=>h.2.2⟩)) fun u=> ?_
 exact ZW (.bool B)
theorem Jj{a b:Operand}(hB:decide (x=0∧y=0)=B):(Xs 35 a b (pt x y) (pt 0 0)).run Tryz.prog w= .ok (.value (.bool B)) w:=by
 rw[U0,←hB]
 congr 2
 rw[Value.bool.injEq,Bool.eq_iff_iff];simp
theorem eqz_v(hB:decide (T7 P)=B)(hk:P.kind=k)(hT:P.T=Qy)(hp:PRd P q K w)(hK:2≤K∧K≤10000000):Calls Tryz.prog 302 #[pnV P q,pnV (⟨k,co0,0,0,0,0,0,[],0,im0,0,Qy⟩:Pn) Fw] w (K3 w (fun _:Unit=> .bool B) fun _ _=>True):=by
 refine K0.enter Tryz.func302 rfl ?_
 refine ZS 6 ?_
 refine K0.slot 10 (.bool (P.kind==k)) (.bool true) Zk (by rw[beq_iff_eq.2 hk]) ?_
 refine ZS 10 ?_
 by_cases cco:P.co=co0
 case neg=>
  refine ZA (Xs 31 (.tmp 12) (.tmp 14) (Cv P.co) (Cv co0)) (.bool false) (fun w1 hw h=>Gr (decide_eq_false cco)) ?_
  refine ZV (.bool false) (fun w1 hw h=>⟨(),by rw[←hB,decide_eq_false (fun h:T7 P=>cco h.1)],hw,fun _ _ _=>trivial⟩)
 refine K0.ask (Xs 31 (.tmp 12) (.tmp 14) (Cv P.co) (Cv co0)) (.bool true) Zk (fun w1 hw h=>Gr (decide_eq_true cco)) ?_
 refine ZS 17 ?_
 by_cases cp0:P.p0x=0∧P.p0y=0
 case neg=>
  refine ZA (Xs 35 (.tmp 19) (.tmp 21) (pt P.p0x P.p0y) (pt 0 0)) (.bool false) (fun w1 hw h=>Jj (decide_eq_false cp0)) ?_
  refine ZV (.bool false) (fun w1 hw h=>⟨(),by rw[←hB,decide_eq_false (fun h:T7 P=>cp0 h.2.1)],hw,fun _ _ _=>trivial⟩)
 refine K0.ask (Xs 35 (.tmp 19) (.tmp 21) (pt P.p0x P.p0y) (pt 0 0)) (.bool true) Zk (fun w1 hw h=>Jj (decide_eq_true cp0)) ?_
 refine ZS 24 ?_
 by_cases cp1:P.p1x=0∧P.p1y=0
 case neg=>
  refine ZA (Xs 35 (.tmp 26) (.tmp 28) (pt P.p1x P.p1y) (pt 0 0)) (.bool false) (fun w1 hw h=>Jj (decide_eq_false cp1)) ?_
  refine ZV (.bool false) (fun w1 hw h=>⟨(),by rw[←hB,decide_eq_false (fun h:T7 P=>cp1 h.2.2.1)],hw,fun _ _ _=>trivial⟩)
 refine K0.ask (Xs 35 (.tmp 26) (.tmp 28) (pt P.p1x P.p1y) (pt 0 0)) (.bool true) Zk (fun w1 hw h=>Jj (decide_eq_true cp1)) ?_
 refine ZS 34 ?_
 by_cases crad:P.rad=0
 case neg=>
  refine ZT 38 (.bool (P.rad==0)) (.bool false) (by rw[beq_eq_false_iff_ne.2 crad]) ?_
  refine ZV (.bool false) (fun w1 hw h=>⟨(),by rw[←hB,decide_eq_false (fun h:T7 P=>crad h.2.2.2.1)],hw,fun _ _ _=>trivial⟩)
 refine K0.slot 38 (.bool (P.rad==0)) (.bool true) Zk (by rw[beq_iff_eq.2 crad]) ?_
 refine ZS 41 ?_
 by_cases cspr:P.spread=0
 case neg=>
  refine ZT 45 (.bool (P.spread==0)) (.bool false) (by rw[beq_eq_false_iff_ne.2 cspr]) ?_
  refine ZV (.bool false) (fun w1 hw h=>⟨(),by rw[←hB,decide_eq_false (fun h:T7 P=>cspr h.2.2.2.2.1)],hw,fun _ _ _=>trivial⟩)
 refine K0.slot 45 (.bool (P.spread==0)) (.bool true) Zk (by rw[beq_iff_eq.2 cspr]) ?_
 refine ZS 48 ?_
 by_cases csam:P.samp=0
 case neg=>
  refine ZT 52 (.bool (P.samp==0)) (.bool false) (by rw[beq_eq_false_iff_ne.2 csam]) ?_
  refine ZV (.bool false) (fun w1 hw h=>⟨(),by rw[←hB,decide_eq_false (fun h:T7 P=>csam h.2.2.2.2.2.1)],hw,fun _ _ _=>trivial⟩)
 refine ZT 52 (.bool (P.samp==0)) (.bool true) (by rw[beq_iff_eq.2 csam]) ?_
 by_cases cst:P.stops=[]
 case neg=>
  refine ZC (fun w1 hw h=>eqnil_st (A:=q.sA) (c:=q.sc) (n:=P.stops.length) (B:=false) (decide_eq_false fun h=>cst (List.length_eq_zero_iff.1 h))) fun u=> ?_
  refine ZV (.bool false) (fun w1 hw h=>⟨(),by rw[←hB,decide_eq_false (fun h:T7 P=>cst h.2.2.2.2.2.2.1)],hw,fun _ _ _=>trivial⟩)
 refine ZC (fun w1 hw h=>eqnil_st (A:=q.sA) (c:=q.sc) (n:=P.stops.length) (B:=true) (decide_eq_true (List.length_eq_zero_iff.2 cst))) fun u=> ?_
 by_cases cim:P.im.w=0∧P.im.h=0∧P.im.px=[]
 case neg=>
  refine ZC (fun w1 hw h=>Er (m:=P.im) (y:=(q.xA,q.xc)) (decide_eq_false cim)) fun u=> ?_
  refine ZV (.bool false) (fun w1 hw h=>⟨(),by rw[←hB,decide_eq_false (fun h:T7 P=>cim h.2.2.2.2.2.2.2)],hw,fun _ _ _=>trivial⟩)
 refine ZC (fun w1 hw h=>Er (m:=P.im) (y:=(q.xA,q.xc)) (decide_eq_true cim)) fun u1=> ?_
 refine ZC (fun w1 hw h=>by have t:=equalA_m (hp.tr.below hw) (S4.zero (w:=w1)) hK;rw[hT,eqA_rfl]at t;exact t) fun u2=> ?_
 exact ZX (.bool true) (by rw[←hB,decide_eq_true (show T7 P from⟨cco,cp0,cp1,crad,cspr,csam,cst,cim⟩)])
def S7(P:Pn)(q:PM):PM:=
 if P.kind=1 then⟨q.sA,q.sc,q.xA,q.xc,Ay⟩else if P.kind=2 then⟨none,0,q.xA,q.xc,Ay⟩else if P.kind=3 then⟨none,0,q.xA,q.xc,Ay⟩else if P.kind=4 then⟨q.sA,q.sc,none,0,Ay⟩else⟨q.sA,q.sc,q.xA,q.xc,Ay⟩
theorem PRd.wofR(h:PRd P q K w):PRd (At P) (S7 P q) K w:=by
 by_cases h1:P.kind=1
 case pos=>
  have e:At P=(⟨P.kind,co0,P.p0x,P.p0y,P.p1x,P.p1y,P.rad,P.stops,P.spread,P.im,P.samp,Qy⟩:Pn):=by unfold At;rw[if_pos h1]
  have e2:S7 P q=(⟨q.sA,q.sc,q.xA,q.xc,Ay⟩:PM):=by unfold S7;rw[if_pos h1]
  rw[e,e2]
  exact⟨h.st,h.px,.zero⟩
 by_cases h2:P.kind=2
 case pos=>
  have e:At P=(⟨P.kind,P.co,0,0,0,0,P.rad,[],0,P.im,P.samp,Qy⟩:Pn):=by unfold At;rw[if_neg h1];rw[if_pos h2]
  have e2:S7 P q=(⟨none,0,q.xA,q.xc,Ay⟩:PM):=by unfold S7;rw[if_neg h1];rw[if_pos h2]
  rw[e,e2]
  exact⟨⟨rfl,fun k x h=>by simp at h⟩,h.px,.zero⟩
 by_cases h3:P.kind=3
 case pos=>
  have e:At P=(⟨P.kind,P.co,0,0,P.p1x,P.p1y,0,[],0,P.im,P.samp,Qy⟩:Pn):=by unfold At;rw[if_neg h1];rw[if_neg h2];rw[if_pos h3]
  have e2:S7 P q=(⟨none,0,q.xA,q.xc,Ay⟩:PM):=by unfold S7;rw[if_neg h1];rw[if_neg h2];rw[if_pos h3]
  rw[e,e2]
  exact⟨⟨rfl,fun k x h=>by simp at h⟩,h.px,.zero⟩
 by_cases h4:P.kind=4
 case pos=>
  have e:At P=(⟨P.kind,P.co,P.p0x,P.p0y,P.p1x,P.p1y,P.rad,P.stops,0,im0,0,Qy⟩:Pn):=by unfold At;rw[if_neg h1];rw[if_neg h2];rw[if_neg h3];rw[if_pos h4]
  have e2:S7 P q=(⟨q.sA,q.sc,none,0,Ay⟩:PM):=by unfold S7;rw[if_neg h1];rw[if_neg h2];rw[if_neg h3];rw[if_pos h4]
  rw[e,e2]
  exact⟨h.st,⟨rfl,fun k x h=>by simp[im0]at h⟩,.zero⟩
 have e:At P=(⟨P.kind,P.co,P.p0x,P.p0y,P.p1x,P.p1y,P.rad,P.stops,P.spread,P.im,P.samp,Qy⟩:Pn):=by unfold At;rw[if_neg h1,if_neg h2,if_neg h3,if_neg h4]
 have e2:S7 P q=(⟨q.sA,q.sc,q.xA,q.xc,Ay⟩:PM):=by unfold S7;rw[if_neg h1,if_neg h2,if_neg h3,if_neg h4]
 rw[e,e2]
 exact⟨h.st,h.px,.zero⟩
theorem wof_m:Calls Tryz.prog 303 #[pnV P q] w (K3 w (fun _:Unit=>pnV (At P) (S7 P q)) fun _ _=>True):=by
 refine K0.enter Tryz.func303 rfl ?_
 refine ZR ?_
 by_cases h1:P.kind=1
 case pos=>
  have e:At P=(⟨P.kind,co0,P.p0x,P.p0y,P.p1x,P.p1y,P.rad,P.stops,P.spread,P.im,P.samp,Qy⟩:Pn):=by unfold At;rw[if_pos h1]
  have e2:S7 P q=(⟨q.sA,q.sc,q.xA,q.xc,Ay⟩:PM):=by unfold S7;rw[if_pos h1]
  rw[e,e2]
  refine ZJ ((P.kind==1)) true (beq_iff_eq.2 h1) ?_
  exact ZW (pnV (⟨P.kind,co0,P.p0x,P.p0y,P.p1x,P.p1y,P.rad,P.stops,P.spread,P.im,P.samp,Qy⟩:Pn) (⟨q.sA,q.sc,q.xA,q.xc,Ay⟩:PM))
 refine ZJ ((P.kind==1)) false (beq_eq_false_iff_ne.2 h1) ?_
 by_cases h2:P.kind=2
 case pos=>
  have e:At P=(⟨P.kind,P.co,0,0,0,0,P.rad,[],0,P.im,P.samp,Qy⟩:Pn):=by unfold At;rw[if_neg h1];rw[if_pos h2]
  have e2:S7 P q=(⟨none,0,q.xA,q.xc,Ay⟩:PM):=by unfold S7;rw[if_neg h1];rw[if_pos h2]
  rw[e,e2]
  refine ZJ ((P.kind==2)) true (beq_iff_eq.2 h2) ?_
  exact ZW (pnV (⟨P.kind,P.co,0,0,0,0,P.rad,[],0,P.im,P.samp,Qy⟩:Pn) (⟨none,0,q.xA,q.xc,Ay⟩:PM))
 refine ZJ ((P.kind==2)) false (beq_eq_false_iff_ne.2 h2) ?_
 by_cases h3:P.kind=3
 case pos=>
  have e:At P=(⟨P.kind,P.co,0,0,P.p1x,P.p1y,0,[],0,P.im,P.samp,Qy⟩:Pn):=by unfold At;rw[if_neg h1];rw[if_neg h2];rw[if_pos h3]
  have e2:S7 P q=(⟨none,0,q.xA,q.xc,Ay⟩:PM):=by unfold S7;rw[if_neg h1];rw[if_neg h2];rw[if_pos h3]
  rw[e,e2]
  refine ZJ ((P.kind==3)) true (beq_iff_eq.2 h3) ?_
  exact ZW (pnV (⟨P.kind,P.co,0,0,P.p1x,P.p1y,0,[],0,P.im,P.samp,Qy⟩:Pn) (⟨none,0,q.xA,q.xc,Ay⟩:PM))
 refine ZJ ((P.kind==3)) false (beq_eq_false_iff_ne.2 h3) ?_
 by_cases h4:P.kind=4
 case pos=>
  have e:At P=(⟨P.kind,P.co,P.p0x,P.p0y,P.p1x,P.p1y,P.rad,P.stops,0,im0,0,Qy⟩:Pn):=by unfold At;rw[if_neg h1];rw[if_neg h2];rw[if_neg h3];rw[if_pos h4]
  have e2:S7 P q=(⟨q.sA,q.sc,none,0,Ay⟩:PM):=by unfold S7;rw[if_neg h1];rw[if_neg h2];rw[if_neg h3];rw[if_pos h4]
  rw[e,e2]
  refine ZJ ((P.kind==4)) true (beq_iff_eq.2 h4) ?_
  exact ZW (pnV (⟨P.kind,P.co,P.p0x,P.p0y,P.p1x,P.p1y,P.rad,P.stops,0,im0,0,Qy⟩:Pn) (⟨q.sA,q.sc,none,0,Ay⟩:PM))
 have e:At P=(⟨P.kind,P.co,P.p0x,P.p0y,P.p1x,P.p1y,P.rad,P.stops,P.spread,P.im,P.samp,Qy⟩:Pn):=by unfold At;rw[if_neg h1,if_neg h2,if_neg h3,if_neg h4]
 have e2:S7 P q=(⟨q.sA,q.sc,q.xA,q.xc,Ay⟩:PM):=by unfold S7;rw[if_neg h1,if_neg h2,if_neg h3,if_neg h4]
 rw[e,e2]
 refine ZJ ((P.kind==4)) false (beq_eq_false_iff_ne.2 h4) ?_
 exact ZW (pnV (⟨P.kind,P.co,P.p0x,P.p0y,P.p1x,P.p1y,P.rad,P.stops,P.spread,P.im,P.samp,Qy⟩:Pn) (⟨q.sA,q.sc,q.xA,q.xc,Ay⟩:PM))
theorem below_kind:(At P).kind=P.kind∧(At P).T=Qy:=by
 unfold At
 by_cases h1:P.kind=1
 ·rw[if_pos h1];exact⟨rfl,rfl⟩
 rw[if_neg h1]
 by_cases h2:P.kind=2
 ·rw[if_pos h2];exact⟨rfl,rfl⟩
 rw[if_neg h2]
 by_cases h3:P.kind=3
 ·rw[if_pos h3];exact⟨rfl,rfl⟩
 rw[if_neg h3]
 by_cases h4:P.kind=4
 ·rw[if_pos h4];exact⟨rfl,rfl⟩
 rw[if_neg h4];exact⟨rfl,rfl⟩
theorem B7{X Y:Int}(hB:Lt X Y=B):Calls Tryz.prog 52 #[pt X Y] w (K3 w (fun _:Unit=> .bool B) fun _ _=>True):=by subst hB;exact valid_m
theorem Uc{r:Rat}:(Kk r ((0:Int):Rat) !=0)=decide (r≠0):=by
 rw[P8 rfl]
 rw[Bool.eq_iff_iff];simp
theorem pvalid_v(hB:Ma P=B)(hp:PRd P q K w)(hl:P.im.px.length≤1000000000)(hK:2≤K∧K≤10000000):Calls Tryz.prog 263 #[pnV P q] w (K3 w (fun _:Unit=> .bool B) fun _ _=>True):=by
 unfold Ma at hB
 obtain⟨hwk,hwT⟩:=below_kind (P:=P)
 refine K0.enter Tryz.func263 rfl ?_
 refine ZR ?_
 cases h1:P.T.ok
 ·rw[h1,Bool.false_and]at hB
  refine ZC (fun w1 hw h=>Q9 h1 (hp.tr.below hw) hK) fun u=> ?_
  refine ZR ?_
  refine ZI true ?_
  exact ZX (.bool false) (by rw[←hB])
 rw[h1,Bool.true_and]at hB
 refine ZC (fun w1 hw h=>Q9 h1 (hp.tr.below hw) hK) fun u=> ?_
 refine ZC (fun w1 hw h=>wof_m (P:=P) (q:=q)) fun u2=> ?_
 cases h2:decide (T7 (At P))
 ·rw[h2,Bool.false_and]at hB
  refine ZC (fun w1 hw h=>eqz_v (k:=P.kind) h2 hwk hwT (hp.below hw).wofR hK) fun u3=> ?_
  refine ZR ?_
  refine ZI true ?_
  exact ZX (.bool false) (by rw[←hB])
 rw[h2,Bool.true_and]at hB
 unfold kindOK at hB
 have hdet:∀w1:World,PRd P q K w1→∀v:RV,Kh v P.T.det (4*K+1) w1→Calls Tryz.prog 56 #[v.val,Oc.val] w1 (K3 w1 (fun _:Unit=> .int .i64 (Kk P.T.det ((0:Int):Rat))) fun _ _=>True):=fun w1 _ v hv=>Lq hv.q (isq0 (K:=2)) Zo
 refine ZC (fun w1 hw h=>eqz_v (k:=P.kind) h2 hwk hwT (hp.below hw).wofR hK) fun u3=> ?_
 refine ZR ?_
 refine ZI false ?_
 by_cases k1:P.kind=1
 case pos=>
  rw[if_pos k1]at hB
  refine ZJ ((P.kind==1)) true (beq_iff_eq.2 k1) ?_
  refine ZC (fun w1 hw h=>equalA_m (hp.tr.below hw) (S4.zero (w:=w1)) hK) fun u4=> ?_
  exact ZX (.bool (eqA P.T Qy)) (by rw[←hB])
 refine ZJ ((P.kind==1)) false (beq_eq_false_iff_ne.2 k1) ?_
 by_cases k2:P.kind=2
 case pos=>
  rw[if_neg k1,if_pos k2]at hB
  refine ZJ ((P.kind==2)) true (beq_iff_eq.2 k2) ?_
  cases c1:Lt P.p0x P.p0y
  ·rw[c1,Bool.false_and]at hB
   refine ZC (fun w1 hw h=>B7 c1) fun x1=> ?_
   refine ZR ?_
   refine ZI true ?_
   exact ZX (.bool false) (by rw[←hB])
  rw[c1,Bool.true_and]at hB
  refine ZC (fun w1 hw h=>B7 c1) fun x1=> ?_
  cases c2:Lt P.p1x P.p1y
  ·rw[c2,Bool.false_and]at hB
   refine ZC (fun w1 hw h=>B7 c2) fun x2=> ?_
   refine ZR ?_
   refine ZI true ?_
   exact ZX (.bool false) (by rw[←hB])
  rw[c2,Bool.true_and]at hB
  refine ZC (fun w1 hw h=>B7 c2) fun x2=> ?_
  cases c3:(Sd P.stops&&Xw P.spread)
  ·rw[c3,Bool.false_and]at hB
   refine ZC (fun w1 hw h=>Yy c3 (hp.below hw)) fun x3=> ?_
   refine ZR ?_
   refine ZI true ?_
   exact ZX (.bool false) (by rw[←hB])
  rw[c3,Bool.true_and]at hB
  refine ZC (fun w1 hw h=>Yy c3 (hp.below hw)) fun x3=> ?_
  refine ZR ?_
  refine ZI false ?_
  refine ZC (fun w1 hw h=>Yn (hp.tr.below hw) hK) fun u9=> ?_
  refine ZC (fun w1 hw h=>hdet w1 (hp.below hw) u9 h.2) fun v9=> ?_
  exact ZX (.bool (Kk P.T.det ((0:Int):Rat) !=0)) (by rw[Uc,←hB])
 refine ZJ ((P.kind==2)) false (beq_eq_false_iff_ne.2 k2) ?_
 by_cases k3:P.kind=3
 case pos=>
  rw[if_neg k1,if_neg k2,if_pos k3]at hB
  refine ZJ ((P.kind==3)) true (beq_iff_eq.2 k3) ?_
  cases c1:Lt P.p0x P.p0y
  ·rw[c1,Bool.false_and]at hB
   refine ZC (fun w1 hw h=>B7 c1) fun x1=> ?_
   refine ZR ?_
   refine ZI true ?_
   exact ZX (.bool false) (by rw[←hB])
  rw[c1,Bool.true_and]at hB
  refine ZD 10 (fun w1 hw h=>B7 c1) fun x1=> ?_
  by_cases r1:P.rad<1
  case pos=>
   rw[show decide (1≤P.rad∧P.rad≤1048576)=false from decide_eq_false Zo,Bool.false_and]at hB
   refine ZT 52 (.bool (decide (P.rad<1))) (.bool true) (by rw[decide_eq_true r1]) ?_
   refine ZI true ?_
   exact ZX (.bool false) (by rw[←hB])
  refine K0.slot 52 (.bool (decide (P.rad<1))) (.bool false) Zk (by rw[decide_eq_false r1]) ?_
  refine ZS 15 ?_
  by_cases r2:P.rad>1048576
  case pos=>
   rw[show decide (1≤P.rad∧P.rad≤1048576)=false from decide_eq_false Zo,Bool.false_and]at hB
   refine ZT 57 (.bool (decide (P.rad>1048576))) (.bool true) (by rw[decide_eq_true r2]) ?_
   refine ZI true ?_
   exact ZX (.bool false) (by rw[←hB])
  rw[show decide (1≤P.rad∧P.rad≤1048576)=true from decide_eq_true Zo,Bool.true_and]at hB
  refine ZT 57 (.bool (decide (P.rad>1048576))) (.bool false) (by rw[decide_eq_false r2]) ?_
  cases c3:(Sd P.stops&&Xw P.spread)
  ·rw[c3,Bool.false_and]at hB
   refine ZC (fun w1 hw h=>Yy c3 (hp.below hw)) fun x3=> ?_
   refine ZR ?_
   refine ZI true ?_
   exact ZX (.bool false) (by rw[←hB])
  rw[c3,Bool.true_and]at hB
  refine ZC (fun w1 hw h=>Yy c3 (hp.below hw)) fun x3=> ?_
  refine ZR ?_
  refine ZI false ?_
  refine ZC (fun w1 hw h=>Yn (hp.tr.below hw) hK) fun u9=> ?_
  refine ZC (fun w1 hw h=>hdet w1 (hp.below hw) u9 h.2) fun v9=> ?_
  exact ZX (.bool (Kk P.T.det ((0:Int):Rat) !=0)) (by rw[Uc,←hB])
 refine ZJ ((P.kind==3)) false (beq_eq_false_iff_ne.2 k3) ?_
 by_cases k4:P.kind=4
 case pos=>
  rw[if_neg k1,if_neg k2,if_neg k3,if_pos k4]at hB
  refine ZJ ((P.kind==4)) true (beq_iff_eq.2 k4) ?_
  cases c1:imOK P.im
  ·rw[c1,Bool.false_and]at hB
   refine ZC (fun w1 hw h=>Bj (y:=(q.xA,q.xc)) c1 (hp.px.below hw) hl) fun x1=> ?_
   refine ZR ?_
   refine ZI true ?_
   exact ZX (.bool false) (by rw[←hB])
  rw[c1,Bool.true_and]at hB
  refine ZD 9 (fun w1 hw h=>Bj (y:=(q.xA,q.xc)) c1 (hp.px.below hw) hl) fun x1=> ?_
  by_cases s0:P.spread=0
  case pos=>
   rw[decide_eq_true s0,Bool.true_or,Bool.true_and]at hB
   refine K0.slot 72 (.bool (P.spread !=0)) (.bool false) Zk (by rw[bne_eq_false_iff_eq.2 s0]) ?_
   refine ZS 20 ?_
   by_cases m1:P.samp=1
   case pos=>
    rw[decide_eq_true (.inl m1),Bool.true_and]at hB
    refine ZT 83 (.bool (P.samp !=1)) (.bool false) (by rw[bne_eq_false_iff_eq.2 m1]) ?_
    refine ZI false ?_
    refine ZC (fun w1 hw h=>Yn (hp.tr.below hw) hK) fun u9=> ?_
    refine ZC (fun w1 hw h=>hdet w1 (hp.below hw) u9 h.2) fun v9=> ?_
    exact ZX (.bool (Kk P.T.det ((0:Int):Rat) !=0)) (by rw[Uc,←hB])
   refine ZT 83 (.bool (P.samp !=1)) (.bool true) (by rw[bne_iff_ne.2 m1]) ?_
   by_cases m2:P.samp=2
   case pos=>
    rw[decide_eq_true (.inr m2),Bool.true_and]at hB
    refine ZJ ((P.samp !=2)) false (bne_eq_false_iff_eq.2 m2) ?_
    refine ZC (fun w1 hw h=>Yn (hp.tr.below hw) hK) fun u9=> ?_
    refine ZC (fun w1 hw h=>hdet w1 (hp.below hw) u9 h.2) fun v9=> ?_
    exact ZX (.bool (Kk P.T.det ((0:Int):Rat) !=0)) (by rw[Uc,←hB])
   rw[show decide (P.samp=1∨P.samp=2)=false from decide_eq_false (fun h=>h.elim m1 m2),Bool.false_and]at hB
   refine ZJ ((P.samp !=2)) true (bne_iff_ne.2 m2) ?_
   exact ZX (.bool false) (by rw[←hB])
  rw[decide_eq_false s0,Bool.false_or]at hB
  refine ZT 72 (.bool (P.spread !=0)) (.bool true) (by rw[bne_iff_ne.2 s0]) ?_
  cases c2:Xw P.spread
  ·rw[c2,Bool.false_and]at hB
   refine ZC (fun w1 hw h=>Z6 c2) fun x2=> ?_
   refine ZR ?_
   refine ZI true ?_
   exact ZX (.bool false) (by rw[←hB])
  rw[c2,Bool.true_and]at hB
  refine ZD 20 (fun w1 hw h=>Z6 c2) fun x2=> ?_
  by_cases m1:P.samp=1
  case pos=>
   rw[decide_eq_true (.inl m1),Bool.true_and]at hB
   refine ZT 83 (.bool (P.samp !=1)) (.bool false) (by rw[bne_eq_false_iff_eq.2 m1]) ?_
   refine ZI false ?_
   refine ZC (fun w1 hw h=>Yn (hp.tr.below hw) hK) fun u9=> ?_
   refine ZC (fun w1 hw h=>hdet w1 (hp.below hw) u9 h.2) fun v9=> ?_
   exact ZX (.bool (Kk P.T.det ((0:Int):Rat) !=0)) (by rw[Uc,←hB])
  refine ZT 83 (.bool (P.samp !=1)) (.bool true) (by rw[bne_iff_ne.2 m1]) ?_
  by_cases m2:P.samp=2
  case pos=>
   rw[decide_eq_true (.inr m2),Bool.true_and]at hB
   refine ZJ ((P.samp !=2)) false (bne_eq_false_iff_eq.2 m2) ?_
   refine ZC (fun w1 hw h=>Yn (hp.tr.below hw) hK) fun u9=> ?_
   refine ZC (fun w1 hw h=>hdet w1 (hp.below hw) u9 h.2) fun v9=> ?_
   exact ZX (.bool (Kk P.T.det ((0:Int):Rat) !=0)) (by rw[Uc,←hB])
  rw[show decide (P.samp=1∨P.samp=2)=false from decide_eq_false (fun h=>h.elim m1 m2),Bool.false_and]at hB
  refine ZJ ((P.samp !=2)) true (bne_iff_ne.2 m2) ?_
  exact ZX (.bool false) (by rw[←hB])
 rw[if_neg k1,if_neg k2,if_neg k3,if_neg k4]at hB
 refine ZJ ((P.kind==4)) false (beq_eq_false_iff_ne.2 k4) ?_
 exact ZX (.bool false) (by rw[←hB])
end
def U4(l:List Sg):Bool:=decide ((Ff l).1=0)
open Go.Extern.Stop Go.Stop Go.Extern
section
variable{w:World}
theorem as_nil{t:Value}:Calls Tryz.prog 72 #[.nilIface,t] w (K3 w (fun _:Unit=> .bool false) fun _ _=>True):=by
 refine K0.enter Tryz.func72 rfl ?_
 refine ZR ?_
 refine ZI true ?_
 exact ZW (.bool false)
@[reducible] def hdl(t:Nat):Value:= .pointer (some ⟨3,t,none⟩)
@[reducible] def rtV(t:Nat):Value:= .agg #[hdl t]
theorem as_vT(t:Addr):(ReflectliteValue.unpack (.iface 142 (.pointer (some t)))).run Tryz.prog w= .ok (.agg #[hdl 142,.pointer (some ⟨w.heap.size,0,none⟩),.int .u64 150]) (w.alloc (.cells #[.pointer (some t)] 142)):=by kernel_rfl
theorem as_tT(a:Addr):(ReflectliteValue.methodAny (ReflectliteValue.valueError "reflectlite.Value.Type" 0) (fun t _ _ _=>ReflectliteType.toType t) #[.agg #[hdl 142,.pointer (some a),.int .u64 150]]).run Tryz.prog w= .ok (.iface 295 (rtV 142)) w:=by kernel_rfl
theorem as_kT:((ReflectliteType.abiMethod fun t=>Functor.map (fun a:Nat=>Value.int IntKind.u8 (a:Int)) (Rtype.kind t)) #[hdl 142]).run Tryz.prog w= .ok (.int .u8 22) w:=by kernel_rfl
theorem as_kE:((ReflectliteType.abiMethod fun t=>Functor.map (fun a:Nat=>Value.int IntKind.u8 (a:Int)) (Rtype.kind t)) #[hdl 140]).run Tryz.prog w= .ok (.int .u8 25) w:=by kernel_rfl
theorem as_eT:(ReflectliteType.method ReflectliteType.elem #[rtV 142]).run Tryz.prog w= .ok (.iface 295 (rtV 140)) w:=by kernel_rfl
theorem as_iE:(ReflectliteType.relation "Implements" ReflectliteType.implements_ #[rtV 140,.iface 295 (rtV 137)]).run Tryz.prog w= .ok (.bool true) w:=by kernel_rfl
theorem as_oE(v:Value):(ReflectliteType.typeOf #[.iface 140 v]).run Tryz.prog w= .ok (.iface 295 (rtV 140)) w:=by kernel_rfl
theorem as_aE:(ReflectliteType.relation "AssignableTo" ReflectliteType.assignableTo #[rtV 140,.iface 295 (rtV 140)]).run Tryz.prog w= .ok (.bool true) w:=by kernel_rfl
theorem rlm(z:Sem Value)(f:TypeId→Addr→Nat→Nat→Sem Value)(v:Value):
 ReflectliteValue.method z f #[v]=(do match←ReflectliteValue.parts v with|none=>z|some (t,a,fl)=>f t a fl (fl%32)):=rfl
theorem as_pT(a:Addr):(ReflectliteValue.parts (.agg #[hdl 142,.pointer (some a),.int .u64 150])).run Tryz.prog w= .ok (some (142,a,150)) w:=by kernel_rfl
theorem as_nT(a p:Addr)(ha:w.cell? a=some (.pointer (some p))):
 (ReflectliteValue.method (ReflectliteValue.valueError "reflectlite.Value.IsNil" 0) ReflectliteValue.isNil #[.agg #[hdl 142,.pointer (some a),.int .u64 150]]).run Tryz.prog w= .ok (.bool false) w:=by
 have hu:Tryz.prog.underlying 142=some (.pointer 140):=by kernel_rfl
 rw[rlm]
 simp only[Sem.run_bind,as_pT,Result.andThen]
 simp[ReflectliteValue.isNil,loadVar,isAgg,underlying,hu,ha,Result.andThen]
theorem as_elT:(Rtype.elem? 142).run Tryz.prog w= .ok (some 140) w:=by kernel_rfl
theorem as_mkE(p:Addr):(ReflectliteValue.mk 140 p ReflectliteValue.flagAddr).run Tryz.prog w= .ok (.agg #[hdl 140,.pointer (some p),.int .u64 409]) w:=by kernel_rfl
theorem as_lT(a p:Addr)(ha:w.cell? a=some (.pointer (some p))):
 (ReflectliteValue.method (ReflectliteValue.valueError "reflectlite.Value.Elem" 0) ReflectliteValue.elem #[.agg #[hdl 142,.pointer (some a),.int .u64 150]]).run Tryz.prog w= .ok (.agg #[hdl 140,.pointer (some p),.int .u64 409]) w:=by
 have hu:Tryz.prog.underlying 142=some (.pointer 140):=by kernel_rfl
 rw[rlm]
 simp only[Sem.run_bind,as_pT,Result.andThen]
 simp[ReflectliteValue.elem,loadVar,isAgg,underlying,hu,ha,Result.andThen,as_elT,as_mkE]
theorem as_vE(cs:Array Value):(ReflectliteValue.unpack (.iface 140 (.agg cs))).run Tryz.prog w= .ok (.agg #[hdl 140,.pointer (some ⟨w.heap.size,0,none⟩),.int .u64 153]) (w.alloc (.cells cs 140)):=by kernel_rfl
theorem rls(v x:Value):ReflectliteValue.set #[v,x]=(do
 let(some (dst,a,fl),some (src,b,_)):=(←ReflectliteValue.parts v,←ReflectliteValue.parts x)
  |unsupported (.noEntry "extern/(internal/reflectlite.Value).Set.zeroValue")
 if fl/ReflectliteValue.flagAddr%2==0 then unsupported (.noEntry "extern/(internal/reflectlite.Value).Set.unaddressable")
 let val←loadVar src b
 if←Rtype.directlyAssignable dst src then storeVar dst a val
 else if←Rtype.implements dst src then
  if (←Rtype.kind src)==20 then
   match val with
   | .nilIface=>unsupported (.noEntry "extern/reflectlite: a nil value of one interface type handed on as a value of another")
   |_=>storeVar dst a val
  else storeVar dst a (.iface src val)
 else panicString ("reflectlite.Set: value of type " ++(←Rtype.spelt src)++ " is not assignable to type " ++(←Rtype.spelt dst))
 pure (.tuple #[])):=rfl
theorem as_pEa(a:Addr):(ReflectliteValue.parts (.agg #[hdl 140,.pointer (some a),.int .u64 409])).run Tryz.prog w= .ok (some (140,a,409)) w:=by kernel_rfl
theorem as_pE(a:Addr):(ReflectliteValue.parts (.agg #[hdl 140,.pointer (some a),.int .u64 153])).run Tryz.prog w= .ok (some (140,a,153)) w:=by kernel_rfl
theorem as_dE:(Rtype.directlyAssignable 140 140).run Tryz.prog w= .ok true w:=by kernel_rfl
theorem as_sE{ta b:Nat}{cs:List Value}{c u:Value}(hb:w.rangeAt b 0 [c,u])(ht:K8 w ta cs)(hl:cs.length=2)(h1:c.oneCell'=true∧u.oneCell'=true):
 (ReflectliteValue.set #[.agg #[hdl 140,.pointer (some ⟨ta,0,none⟩),.int .u64 409],.agg #[hdl 140,.pointer (some ⟨b,0,none⟩),.int .u64 153]]).run Tryz.prog w= .ok (.tuple #[]) (w.setRow ta #[c,u]):=by
 have hr:Ob Tryz.prog 140=some true:=by kernel_rfl
 have hn:N8 Tryz.prog 140=some 2:=by kernel_rfl
 have hld:(loadVar 140 ⟨b,0,none⟩).run Tryz.prog w= .ok (.agg #[c,u]) w:=by
  unfold Ob at hr
  split at hr
  ·rename_i hd;exact run_loadVar_mid w b 0 _ [c,u] _ hb hd rfl hn
  ·rename_i hd;exact run_loadVar_mid w b 0 _ [c,u] _ hb hd rfl hn
  ·cases hr
  ·cases hr
 obtain⟨ty,h⟩:=ht
 have hst:=run_storeCells_at Tryz.prog ta 0 ty [c,u] 0 cs.toArray w h Zp (by simp;exact h1)
 have hnew:((cs.toArray.toList.take (0+0)++ [c,u]++cs.toArray.toList.drop (0+0+ [c,u].length)).toArray)= #[c,u]:=by
  simp[hl]
 rw[hnew]at hst
 rw[rls]
 simp only[Sem.run_bind,as_pEa,as_pE,Result.andThen_ok]
 simp[ReflectliteValue.flagAddr,hld,Result.andThen,as_dE,storeVar,Lf hn,Value.cells,hst]
theorem box_lt{g:Nat}{cs:List Value}(h:K8 w g cs):g<w.heap.size:=by obtain⟨t,h⟩:=h;exact(Array.getElem?_eq_some_iff.1 h).1
theorem alloc_new(w:World)(o:Obj):(w.alloc o).heap[w.heap.size]? =some o:=by show(w.heap.push _)[w.heap.size]? =_;simp
theorem Ng(w:World)(o:Obj)(b:Nat)(h:b<w.heap.size):(w.alloc o).heap[b]? =w.heap[b]? :=by show(w.heap.push _)[b]? =_;rw[Array.getElem?_push,if_neg Zo]
def ET(w:World):Prop:=w.cell? ⟨0,0,none⟩=some (.iface 295 (rtV 137))
theorem as_run{ta:Nat}{cs:List Value}{c u:Value}(hg:ET w)(ht:K8 w ta cs)(hl:cs.length=2)(h1:c.oneCell'=true∧u.oneCell'=true):
 Calls Tryz.prog 72 #[.iface 140 (.agg #[c,u]),.iface 142 (.pointer (some ⟨ta,0,none⟩))] w fun ev w'=>ev= .returned (.bool true)∧w'=((((w.alloc (.cells #[.pointer (some ⟨ta,0,none⟩)] 142)).alloc (.cells #[hdl 142,.pointer (some ⟨w.heap.size,0,none⟩),.int .u64 150] 212)).alloc (.cells #[hdl 142,.pointer (some ⟨w.heap.size,0,none⟩),.int .u64 150] 212)).alloc (.cells #[c,u] 140)).setRow ta #[c,u]:=by
 have e0:= @run_callFunc_extern Tryz.prog 130 _ (fun args=>ReflectliteValue.unpack (args.getD 0 (.tuple #[]))) Tryz.func130 Zk Zk Zk Zk
 have e1:= @run_callFunc_extern Tryz.prog 131 _ (ReflectliteValue.methodAny (ReflectliteValue.valueError "reflectlite.Value.Type" 0) (fun t _ _ _=>ReflectliteType.toType t)) Tryz.func131 Zk Zk Zk Zk
 have e2:= @run_callFunc_extern Tryz.prog 132 _ (ReflectliteValue.method (ReflectliteValue.valueError "reflectlite.Value.IsNil" 0) ReflectliteValue.isNil) Tryz.func132 Zk Zk Zk Zk
 have e3:= @run_callFunc_extern Tryz.prog 450 _ (ReflectliteType.abiMethod fun t=>do pure (.int .u8 (←Rtype.kind t))) Tryz.func450 Zk Zk Zk Zk
 have e4:= @run_callFunc_extern Tryz.prog 461 _ (ReflectliteType.method ReflectliteType.elem) Tryz.func461 Zk Zk Zk Zk
 have e5:= @run_callFunc_extern Tryz.prog 462 _ (ReflectliteType.relation "Implements" ReflectliteType.implements_) Tryz.func462 Zk Zk Zk Zk
 have e6:= @run_callFunc_extern Tryz.prog 191 _ ReflectliteType.typeOf Tryz.func191 Zk Zk Zk Zk
 have e7:= @run_callFunc_extern Tryz.prog 459 _ (ReflectliteType.relation "AssignableTo" ReflectliteType.assignableTo) Tryz.func459 Zk Zk Zk Zk
 have e8:= @run_callFunc_extern Tryz.prog 192 _ (ReflectliteValue.method (ReflectliteValue.valueError "reflectlite.Value.Elem" 0) ReflectliteValue.elem) Tryz.func192 Zk Zk Zk Zk
 have e9:= @run_callFunc_extern Tryz.prog 193 _ ReflectliteValue.set Tryz.func193 Zk Zk Zk Zk
 have t0:= @as_vT
 have t1:= @as_tT
 have t3:= @as_kT
 have t3':= @as_kE
 have t4:= @as_eT
 have t5:= @as_iE
 have t6:= @as_oE
 have t7:= @as_aE
 have t8:= @as_vE
 have mK:∀(h:Value) (w:World),(Go.method 645 295 (.agg #[h]) "Kind").run Tryz.prog w= .ok (450,h) w:=fun h w=>by kernel_rfl
 have mE:∀(h:Value) (w:World),(Go.method 645 295 (.agg #[h]) "Elem").run Tryz.prog w= .ok (461,.agg #[h]) w:=fun h w=>by kernel_rfl
 have mI:∀(h:Value) (w:World),(Go.method 645 295 (.agg #[h]) "Implements").run Tryz.prog w= .ok (462,.agg #[h]) w:=fun h w=>by kernel_rfl
 have mA:∀(h:Value) (w:World),(Go.method 645 295 (.agg #[h]) "AssignableTo").run Tryz.prog w= .ok (459,.agg #[h]) w:=fun h w=>by kernel_rfl
 have htl:ta<w.heap.size:=box_lt ht
 have hz:0<w.heap.size:=by
  rcases Nat.eq_zero_or_pos w.heap.size with h0|h
  ·simp[ET,World.cell?,h0]at hg
  ·exact h
 have n8:=as_nT (w:=(w.alloc (.cells #[.pointer (some ⟨ta,0,none⟩)] 142)).alloc (.cells #[hdl 142,.pointer (some ⟨w.heap.size,0,none⟩),.int .u64 150] 212)) ⟨w.heap.size,0,none⟩ ⟨ta,0,none⟩ Zs
 have hg2:((w.alloc (.cells #[.pointer (some ⟨ta,0,none⟩)] 142)).alloc (.cells #[hdl 142,.pointer (some ⟨w.heap.size,0,none⟩),.int .u64 150] 212)).cell? ⟨0,0,none⟩=some (.iface 295 (rtV 137)):=by
  rw[World.cell?_alloc_lt _ _ ⟨0,0,none⟩ Zs,World.cell?_alloc_lt _ _ ⟨0,0,none⟩ hz];exact hg
 have el:=as_lT (w:=((w.alloc (.cells #[.pointer (some ⟨ta,0,none⟩)] 142)).alloc (.cells #[hdl 142,.pointer (some ⟨w.heap.size,0,none⟩),.int .u64 150] 212)).alloc (.cells #[hdl 142,.pointer (some ⟨w.heap.size,0,none⟩),.int .u64 150] 212)) ⟨w.heap.size,0,none⟩ ⟨ta,0,none⟩ (by rw[World.cell?_alloc_lt _ _ ⟨w.heap.size,0,none⟩ Zp];simp)
 have st:=as_sE (w:=(((w.alloc (.cells #[.pointer (some ⟨ta,0,none⟩)] 142)).alloc (.cells #[hdl 142,.pointer (some ⟨w.heap.size,0,none⟩),.int .u64 150] 212)).alloc (.cells #[hdl 142,.pointer (some ⟨w.heap.size,0,none⟩),.int .u64 150] 212)).alloc (.cells #[c,u] 140)) (ta:=ta) (b:=w.heap.size+1+1+1) (cs:=cs) (c:=c) (u:=u)
  (K8.range ⟨140,by rw[show w.heap.size+1+1+1=(((w.alloc (.cells #[.pointer (some ⟨ta,0,none⟩)] 142)).alloc (.cells #[hdl 142,.pointer (some ⟨w.heap.size,0,none⟩),.int .u64 150] 212)).alloc (.cells #[hdl 142,.pointer (some ⟨w.heap.size,0,none⟩),.int .u64 150] 212)).heap.size by simp];exact alloc_new _ _⟩)
  (by obtain⟨ty,h⟩:=ht;exact⟨ty,by rw[Ng _ _ _ Zp,Ng _ _ _ Zp,Ng _ _ _ Zp,Ng _ _ _ htl];exact h⟩) hl h1
 go_enter Tryz.func72,Tryz.ntmps72
 go_wp2
 refine wp_loop_rounds 1 ?_
 rw[rounds_succ]
 go_wp2
 go_ret
 exact⟨rfl,rfl⟩
theorem as_hit{ta:Nat}{cs:List Value}{c u:Value}(hg:ET w)(ht:K8 w ta cs)(hl:cs.length=2)(h1:c.oneCell'=true∧u.oneCell'=true):
 Calls Tryz.prog 72 #[.iface 140 (.agg #[c,u]),.iface 142 (.pointer (some ⟨ta,0,none⟩))] w (Ky w [ta] (fun _:Unit=> .bool true) fun _ v=>K8 v ta [c,u]):=
 (as_run hg ht hl h1).mono fun e w' ⟨e1,e2⟩=>by
  subst e2
  have htl:=box_lt ht
  refine⟨(),e1,⟨rfl,rfl,rfl,by rw[O5];simp;omega,fun k hk hn=> ?_⟩,fun w'' k1 k2=> ?_⟩
  ·rw[Nj _ _ _ _ (by simpa using hn),Ng _ _ _ Zp,Ng _ _ _ Zp,Ng _ _ _ Zp,Ng _ _ _ hk]
  ·obtain⟨ty,h⟩:=ht
   refine⟨ty,?_⟩
   rw[k2 ta (.inl Zs)]
   simp only[World.setRow,Array.getElem?_modify,if_true]
   rw[Ng _ _ _ Zp,Ng _ _ _ Zp,Ng _ _ _ Zp,Ng _ _ _ htl,h]
   rfl
end
structure Sty where
 w:Int
 j:Int
 c:Int
 m:Int
 d:List Int
 p:Int
structure Nd where
 id:Int
 kind:Int
 dep:Int
 T:Mi
 clip:List Sg
 crule:Int
 op:UInt8
 bl:Int
 iso:Bool
 ko:Bool
 path:List Sg
 frule:Int
 fill:List Pn
 sty:Sty
 stroke:List Pn
 im:Im
 samp:Int
structure ND where
 t:TV
 clA:Option Addr
 clc:Nat
 paA:Option Addr
 pac:Nat
 fiA:Option Addr
 fic:Nat
 fl:List (Pn×PM)
 daA:Option Addr
 dac:Nat
 stA:Option Addr
 stc:Nat
 sl:List (Pn×PM)
 pxA:Option Addr
 pxc:Nat
def noC(N:Nd)(q:ND):List Value:=[.int .i64 N.id,.int .i64 N.kind,.int .i64 N.dep]++(q.t.cl++ [.slice q.clA N.clip.length q.clc,.int .i64 N.crule,.int .u8 (N.op.toNat:Int),.int .i64 N.bl,.bool N.iso,.bool N.ko,.slice q.paA N.path.length q.pac,.int .i64 N.frule,.slice q.fiA N.fill.length q.fic,.int .i64 N.sty.w,.int .i64 N.sty.j,.int .i64 N.sty.c,.int .i64 N.sty.m,.slice q.daA N.sty.d.length q.dac,.int .i64 N.sty.p,.slice q.stA N.stroke.length q.stc,.int .i64 N.im.w,.int .i64 N.im.h,.slice q.pxA N.im.px.length q.pxc,.int .i64 N.samp])
@[reducible] def noV(N:Nd)(q:ND):Value:= .agg (noC N q).toArray
@[reducible] def styV(S:Sty)(y:Option Addr×Nat):Value:= .agg #[.int .i64 S.w,.int .i64 S.j,.int .i64 S.c,.int .i64 S.m,.slice y.1 S.d.length y.2,.int .i64 S.p]
def pC2(x:Pn×PM):List Value:=pnC x.1 x.2
def daC(z:Int):List Value:=[.int .i64 z]
structure Xu(w:World)(A:Option Addr)(l:List (Pn×PM))(K:Nat)(Ps:List Pn):Prop where
 eq:l.map (·.1)=Ps
 row:Kq w A Ps.length 40 pC2 l
 rd:∀x∈l,PRd x.1 x.2 K w
structure NRd(N:Nd)(q:ND)(K:Nat)(w:World):Prop where
 tr:S4 q.t N.T K w
 cl:Sa w q.clA N.clip.length N.clip
 pa:Sa w q.paA N.path.length N.path
 fi:Xu w q.fiA q.fl K N.fill
 da:Kq w q.daA N.sty.d.length 1 daC N.sty.d
 st:Xu w q.stA q.sl K N.stroke
 px:Kq w q.pxA N.im.px.length 4 Cr N.im.px
structure W7(N:Nd):Prop where
 cl:N.clip.length≤1000000
 pa:N.path.length≤1000000
 da:N.sty.d.length≤1000000
 px:N.im.px.length≤20000
 fi:∀P∈N.fill,P.im.px.length≤20000∧P.stops.length≤1000000
 st:∀P∈N.stroke,P.im.px.length≤20000∧P.stops.length≤1000000
 fn:N.fill.length≤1000000
 sn:N.stroke.length≤1000000
section
variable{w w1:World}{A:Option Addr}{l:List (Pn×PM)}{K:Nat}{Ps:List Pn}{N:Nd}{q:ND}
theorem Xu.below(h:Xu w A l K Ps)(hw:Below w.heap.size w w1):Xu w1 A l K Ps:=⟨h.eq,h.row.below hw,fun x hx=>(h.rd x hx).below hw⟩
theorem NRd.below(h:NRd N q K w)(hw:Below w.heap.size w w1):NRd N q K w1:=⟨h.tr.below hw,h.cl.below hw,h.pa.below hw,h.fi.below hw,h.da.below hw,h.st.below hw,h.px.below hw⟩
theorem Xu.get{k:Nat}{P:Pn}(h:Xu w A l K Ps)(hP:Ps[k]? =some P):∃q:PM,l[k]? =some (P,q)∧PRd P q K w:=by
 rw[←h.eq,List.getElem?_map]at hP
 obtain⟨x,hx,rfl⟩:=Option.map_eq_some_iff.1 hP
 exact⟨x.2,hx,h.rd x (List.mem_of_getElem? hx)⟩
end
def Zg(n:Int):Bool:=(n==1)||(n==2)
def dashG(z:Int):Bool:=decide (z<0)||decide (z>1048576)
def Vn(n:Nat)(l:List Int):Bool:=((n:Int)==0)||l.any fun z=>decide (z>0)
def A8(l:List Int):Bool:=(!l.any dashG)&&((Vn l.length l&&(Int.tmod (l.length:Int) 2==0))&&decide ((l.length:Int)≤16))
def Xv(n:Int):Bool:=decide (n≥1)&&decide (n≤16384)
def Z5(S:Sty):Bool:=((((((Xv S.w&&(((S.j==1)||(S.j==2))||(S.j==3)))&&(((S.c==3)||(S.c==4))||(S.c==5)))&&decide (S.m≥256))&&decide (S.m≤65536))&&A8 S.d)&&decide (S.p≥0))&&decide (S.p≤1048576)
def Tz(S:Sty):Bool:=(((((S.w==0)&&(S.j==0))&&(S.c==0))&&(S.m==0))&&(S.p==0))&&decide (S.d.length=0)
def grpB(N:Nd):Bool:=((((N.op.toNat:Int)==0)&&(N.bl==0))&& !N.iso)&& !N.ko
def shpB(N:Nd):Bool:=((((N.path.length:Int)==0)&&(N.frule==0))&&((N.fill.length:Int)==0))&&((N.stroke.length:Int)==0)
def picB(N:Nd):Bool:=decide (N.im.w=0∧N.im.h=0∧N.im.px=[])&&(N.samp==0)
def Ae(N:Nd):Bool:=if N.kind=1 then(shpB N&&Tz N.sty)&&picB N else if N.kind=2 then grpB N&&picB N else grpB N&&(shpB N&&Tz N.sty)
def Tn(N:Nd):Bool:=if N.clip.length=0 then(N.crule==0)else Zg N.crule
def manyB(N:Nd):Bool:=decide ((N.fill.length:Int)>1)||decide ((N.stroke.length:Int)>1)
def penB(N:Nd):Bool:=if N.stroke.length=0 then Tz N.sty else Z5 N.sty
def E2(N:Nd):Bool:=U4 N.path&&(Zg N.frule&&(!manyB N&&(penB N&&(N.fill.all Ma&&N.stroke.all Ma))))
def modeB(n:Int):Bool:=decide (n≥1)&&decide (n≤13)
def ownB(N:Nd):Bool:=if N.kind=1 then modeB N.bl else if N.kind=2 then E2 N else imOK N.im&& !((N.samp !=1)&&(N.samp !=2))
def kindX(N:Nd):Bool:=decide (N.kind<1)||decide (N.kind>3)
def rngX(N:Nd):Bool:=((decide (N.id<1)||decide (N.id>1073741824))||decide (N.dep<0))||decide (N.dep≥8)
def Hx(N:Nd):Bool:= !kindX N&&(!rngX N&&(N.T.ok&&(decide (N.T.det≠0)&&(U4 N.clip&&(Tn N&&Ae N)))))
def Rr(N:Nd):Bool:=Hx N&&ownB N
structure Sc where
 w:Int
 h:Int
 bg:Co
 nds:List Nd
def mxd(pre:List Nd):Int:=match pre.getLast? with
 |none=>0
 |some y=>y.dep+(if y.kind=1 then 1 else 0)
def Ei(pre:List Nd):List Nd→Bool
 | []=>true
 |x::r=>Rr x&&(!decide (x.id∈pre.map (·.id))&&(!decide (x.dep>mxd pre)&&Ei (pre++ [x]) r))
def sizeX(S:Sc):Bool:=((decide (S.w<1)||decide (S.w>256))||decide (S.h<1))||decide (S.h>256)
def G2(S:Sc):Bool:= !sizeX S&&(!decide ((S.nds.length:Int)>64)&&Ei [] S.nds)
structure Cy(w:World)(A:Option Addr)(l:List (Nd×ND))(K:Nat)(Ns:List Nd):Prop where
 eq:l.map (·.1)=Ns
 row:Kq w A Ns.length 47 (fun x=>noC x.1 x.2) l
 rd:∀x∈l,NRd x.1 x.2 K w
section
variable{w w1:World}{A:Option Addr}{l:List (Nd×ND)}{K:Nat}{Ns:List Nd}
theorem Cy.below(h:Cy w A l K Ns)(hw:Below w.heap.size w w1):Cy w1 A l K Ns:=⟨h.eq,h.row.below hw,fun x hx=>(h.rd x hx).below hw⟩
theorem Cy.get{k:Nat}{N:Nd}(h:Cy w A l K Ns)(hN:Ns[k]? =some N):∃q:ND,l[k]? =some (N,q)∧NRd N q K w:=by
 rw[←h.eq,List.getElem?_map]at hN
 obtain⟨x,hx,rfl⟩:=Option.map_eq_some_iff.1 hN
 exact⟨x.2,hx,h.rd x (List.mem_of_getElem? hx)⟩
end
section
variable{w:World}{A:Option Addr}{n c g:Nat}{x:Int}{B:Bool}{N:Nd}{q:ND}{K:Nat}{S:Sty}{y:Option Addr×Nat}{l:List Int}
def wh(b:Bool)(z:Int):Value:=if b then .iface 140 (.agg #[.int .i64 z,.nilIface])else .nilIface
def wh2(z:Int):Value:= .iface 140 (.agg #[.int .i64 0,wh true z])
def Bm:List (Bool×Int)→Value
 | []=> .nilIface
 |v::r=>if v.1 then wh2 v.2 else Bm r
theorem Pw{b:Bool}{z:Int}:Calls Tryz.prog 125 #[.bool b,.int .i64 z] w (K3 w (fun _:Unit=>wh b z) fun _ _=>True):=by
 cases b
 ·
  refine K0.enter Tryz.func125 rfl ?_
  refine ZR ?_
  refine ZI true ?_
  exact ZW (wh false z)
 ·
  refine K0.enter Tryz.func125 rfl ?_
  refine ZR ?_
  refine ZI false ?_
  exact ZW (wh true z)
theorem fst_hit{vs:List (Bool×Int)}{k:Nat}{z:Int}(hx:vs[k]? =some (true,z))(h:(vs.take k).all (fun v=> !v.1)=true):Bm vs=wh2 z:=by
 induction vs generalizing k with
 |nil=>simp at hx
 | cons v r ih=>
  cases k with
  |zero=>simp only[List.getElem?_cons_zero,Option.some.injEq]at hx;subst hx;rfl
  |succ k=>
   simp only[List.take_succ_cons,List.all_cons,Bool.and_eq_true]at h
   simp only[List.getElem?_cons_succ]at hx
   have h1:v.1=false:=by simpa using h.1
   unfold Bm
   rw[h1]
   exact ih hx h.2
theorem fst_none{vs:List (Bool×Int)}(h:vs.all (fun v=> !v.1)=true):Bm vs= .nilIface:=by
 induction vs with
 |nil=>rfl
 |cons v r ih=>
  simp only[List.all_cons,Bool.and_eq_true]at h
  have h1:v.1=false:=by simpa using h.1
  unfold Bm
  rw[h1]
  exact ih h.2
theorem Ji{vs:List (Bool×Int)}(hg:Kv 137 (vs.map fun v=>wh v.1 v.2).toArray g w)(hl:vs.length=n)(hn:n≤1000):Calls Tryz.prog 124 #[Km n g] w (K3 w (fun _:Unit=>Bm vs) fun _ _=>True):=by
 have hb:K8 w g (vs.map fun v=>wh v.1 v.2):=⟨_,hg⟩
 refine K0.enter Tryz.func124 rfl ?_
 refine ZR ?_
 refine K0.loop (ι:={k:Nat // k≤n∧(vs.take k).all (fun v=> !v.1)=true}) 17 (fun k=>⟨[(0,.v (Km n g)),(5,.v (Km n g)),(6,.v (.int .i64 n)),(7,.v (.int .i64 k.1))],[]⟩) (fun k u=>True) (fun k=>n-k.1) (⟨0,Nat.zero_le _,rfl⟩) Zk (fun _=>by kernel_rfl) ⟨Zk,Zk,Zk⟩ (fun u h=>trivial) ?_
 rintro⟨k,hk,hall⟩ gg
 have hk:k≤n:=hk
 have hall:(vs.take k).all (fun v=> !v.1)=true:=hall
 by_cases hlt:k<n
 case neg=>
  obtain rfl:k=n:=by omega
  rw[List.take_of_length_le Zo]at hall
  refine ZR ?_
  refine ZJ (decide ((k:Int)<(k:Int))) false Zs ?_
  refine K0.leave Zk ?_
  refine ZR ?_
  exact ZX (.nilIface) (by rw[fst_none hall])
 obtain⟨⟨b,z⟩,hx⟩:∃v,vs[k]? =some v:=⟨_,List.getElem?_eq_getElem Zo⟩
 have hcell:(vs.map fun v=>wh v.1 v.2)[k]? =some (wh b z):=by rw[List.getElem?_map,hx];rfl
 refine ZR ?_
 refine ZJ (decide ((k:Int)<(n:Int))) true Zp ?_
 refine ZA (Kc 288 (Km n g) k) (.pointer (some ((⟨g,0,none⟩:Addr).add k))) (fun w1 hw h=>R5 (elem:=137) Zk Zk hlt) ?_
 cases b
 ·
  refine ZA (Kd 137 ((⟨g,0,none⟩:Addr).add k)) (wh false z) (fun w1 hw h=>Kg Zk (by rw[Addr.add_mid,Nat.zero_add];simpa using(hb.below hw).range k _ hcell)) ?_
  refine ZI false ?_
  refine K0.slot 7 (.int .i64 (IntKind.i64.wrap ((k:Int)+1))) (.int .i64 ((k+1:Nat):Int)) Zk (by rw[K7 hlt Zo]) ?_
  refine K0.next (⟨k+1,by show k+1≤n;omega,by rw[Fp hx hall];rfl⟩) Zk (by show n- (k+1)<n-k;omega) ⟨Zk,Zk,Zk⟩ (fun u h=>trivial)
 ·
  refine ZA (Kd 137 ((⟨g,0,none⟩:Addr).add k)) (wh true z) (fun w1 hw h=>Kg Zk (by rw[Addr.add_mid,Nat.zero_add];simpa using(hb.below hw).range k _ hcell)) ?_
  refine ZI true ?_
  refine K0.leave Zk ?_
  refine ZR ?_
  exact ZX (wh2 z) (by rw[fst_hit hx hall])
theorem rule_v:Calls Tryz.prog 123 #[.int .i64 x] w (K3 w (fun _:Unit=> .bool (Zg x)) fun _ _=>True):=by
 refine K0.enter Tryz.func123 rfl ?_
 refine ZS 3 ?_
 refine K0.joinB Zk 1000 4 5 [6,7,8] 2 true (x==2) ((x==1)||(x==2)) Zk Zk Zk (fun _=>by kernel_rfl) R9 (fun xj1=> ?_)
 refine ZR ?_
 exact ZW (.bool (Zg x))
theorem wide_v:Calls Tryz.prog 259 #[.int .i64 x] w (K3 w (fun _:Unit=> .bool (Xv x)) fun _ _=>True):=by
 refine K0.enter Tryz.func259 rfl ?_
 refine ZS 3 ?_
 refine K0.joinB Zk 1000 4 5 [6,7,8] 2 (decide (x≤16384)) false ((decide (x≥1))&&(decide (x≤16384))) Zk Zk Zk (fun _=>by kernel_rfl) Mq (fun xj2=> ?_)
 refine ZR ?_
 exact ZW (.bool (Xv x))
theorem mode_v:Calls Tryz.prog 63 #[.int .i64 x] w (K3 w (fun _:Unit=> .bool (modeB x)) fun _ _=>True):=by
 refine K0.enter Tryz.func63 rfl ?_
 refine ZS 3 ?_
 refine K0.joinB Zk 1000 4 5 [6,7,8] 2 (decide (x≤13)) false ((decide (x≥1))&&(decide (x≤13))) Zk Zk Zk (fun _=>by kernel_rfl) Mq (fun xj3=> ?_)
 refine ZR ?_
 exact ZW (.bool (modeB x))
theorem eqnil_da(hB:decide (n=0)=B):Calls Tryz.prog 257 #[.slice A n c,.slice none 0 0] w (K3 w (fun _:Unit=> .bool B) fun _ _=>True):=by
 by_cases h0:n=0
 ·subst h0
  refine K0.enter Tryz.func257 rfl ?_
  refine ZR ?_
  refine ZI false ?_
  refine K0.un Zk ?_
  refine ZR ?_
  refine ZI false ?_
  exact ZX (.bool true) (by rw[←hB];rfl)
 ·
  refine K0.enter Tryz.func257 rfl ?_
  refine ZR ?_
  refine ZJ (((n:Int) !=0)) true (by simpa using h0) ?_
  exact ZX (.bool false) (by rw[←hB,decide_eq_false h0])
theorem Gm:Calls Tryz.prog 185 #[styV S y,.agg #[.int .i64 0,.int .i64 0,.int .i64 0,.int .i64 0,.slice none 0 0,.int .i64 0]] w (K3 w (fun _:Unit=> .bool (Tz S)) fun _ _=>True):=by
 refine K0.enter Tryz.func185 rfl ?_
 refine ZS 6 ?_
 refine K0.joinB Zk 1000 7 10 [11,12,13,14,15,16] 17 (S.j==0) false ((S.w==0)&&(S.j==0)) Zk Zk Zk (fun _=>by kernel_rfl) Mq (fun xj4=> ?_)
 refine K0.joinB Zk 1000 7 17 [18,19,20,21,22,23] 24 (S.c==0) false (((S.w==0)&&(S.j==0))&&(S.c==0)) Zk Zk Zk (fun _=>by kernel_rfl) Mq (fun xj5=> ?_)
 refine K0.joinB Zk 1000 7 24 [25,26,27,28,29,30] 31 (S.m==0) false ((((S.w==0)&&(S.j==0))&&(S.c==0))&&(S.m==0)) Zk Zk Zk (fun _=>by kernel_rfl) Mq (fun xj6=> ?_)
 refine K0.joinB Zk 1000 7 31 [32,33,34,35,36,37] 38 (S.p==0) false (((((S.w==0)&&(S.j==0))&&(S.c==0))&&(S.m==0))&&(S.p==0)) Zk Zk Zk (fun _=>by kernel_rfl) Mq (fun xj7=> ?_)
 refine K0.joinC Zk true 1000 1000 1000 38 [39,40,41,42,43,44] 4 false (decide (S.d.length=0)) (decide (S.d.length=0)) ((((((S.w==0)&&(S.j==0))&&(S.c==0))&&(S.m==0))&&(S.p==0))&&(decide (S.d.length=0))) Zk (fun w1 hw h=>eqnil_da (A:=y.1) (c:=y.2) rfl) Zk Zk Zk (fun _=>by kernel_rfl) Af (fun xj8 Φxj8 hixj8=> ?_)
 refine ZR ?_
 exact ZW (.bool (Tz S))
end
section
variable{w:World}{A:Option Addr}{n c g:Nat}{x:Int}{B:Bool}{N:Nd}{q:ND}{K:Nat}{S:Sty}{y:Option Addr×Nat}{l:List Int}{Ps:List Pn}{ql:List (Pn×PM)}
theorem any_take{α:Type}{p:α→Bool}{l:List α}{k:Nat}{x:α}(hx:l[k]? =some x):(l.take (k+1)).any p=((l.take k).any p||p x):=by
 rw[List.take_add_one,hx];simp
theorem any_hit{α:Type}{p:α→Bool}{l:List α}{k:Nat}{x:α}(hx:l[k]? =some x)(h:p x=true):l.any p=true:=
 List.any_eq_true.2 ⟨x,List.mem_of_getElem? hx,h⟩
theorem dashes_v(hd:Kq w A n 1 daC l)(hn:n≤1000000000):Calls Tryz.prog 260 #[.slice A n c] w (K3 w (fun _:Unit=> .bool (A8 l)) fun _ _=>True):=by
 have hdn:=hd.1
 refine K0.enter Tryz.func260 rfl ?_
 refine ZR ?_
 refine K0.slot 3 (.bool ((n:Int)==0)) (.bool (Vn n (l.take 0))) Zk (by simp[Vn]) ?_
 refine K0.loop (ι:={k:Nat // k≤n∧(l.take k).any dashG=false}) 39 (fun k=>⟨[(0,.v (.slice A n c)),(3,.v (.bool (Vn n (l.take k.1)))),(9,.v (.slice A n c)),(10,.v (.int .i64 n)),(11,.v (.int .i64 k.1))],[]⟩) (fun k u=>True) (fun k=>n-k.1) (⟨0,Nat.zero_le _,rfl⟩) Zk (fun _=>by kernel_rfl) ⟨Zk,Zk,Zk⟩ (fun u h=>trivial) ?_
 rintro⟨k,hk,hall⟩ gg
 have hk:k≤n:=hk
 have hall:(l.take k).any dashG=false:=hall
 by_cases hlt:k<n
 case neg=>
  obtain rfl:k=n:=by omega
  refine ZR ?_
  refine ZJ (decide ((k:Int)<(k:Int))) false Zs ?_
  refine K0.leave Zk ?_
  refine ZS 2 ?_
  refine K0.joinB Zk 1000 6 28 [29,30,31,32,33] 34 (Int.tmod (k:Int) 2==0) false ((Vn k (l.take k))&&(Int.tmod (k:Int) 2==0)) Zk Zk Zk (fun _=>by kernel_rfl) Mq (fun xj1=> ?_)
  refine K0.joinB Zk 1000 5 34 [35,36,37,38] 2 (decide ((k:Int)≤16)) false ((Vn k (l.take k)&&(Int.tmod (k:Int) 2==0))&&(decide ((k:Int)≤16))) Zk Zk Zk (fun _=>by kernel_rfl) Mq (fun xj2=> ?_)
  refine ZR ?_
  exact ZX (.bool ((Vn k (l.take k)&&(Int.tmod (k:Int) 2==0))&&decide ((k:Int)≤16))) (by unfold A8;rw[List.take_of_length_le Zo]at hall ⊢;rw[hall,hdn];rfl)
 obtain⟨z,hx⟩:∃v,l[k]? =some v:=⟨_,List.getElem?_eq_getElem Zo⟩
 obtain⟨ad,hA,hc⟩:=hd.2 k z hx
 refine ZR ?_
 refine ZJ (decide ((k:Int)<(n:Int))) true Zp ?_
 refine ZA (Kc 43 (.slice A n c) k) (.pointer (some (ad.add k))) (fun w1 hw h=>by rw[hA];exact R5 (elem:=3) Zk Zk hlt) ?_
 refine K0.ask (Kd 3 (ad.add k)) (.int .i64 z) Zk (fun w1 hw h=>Kg Zk (by have:=Kt hw (hc 0 (.int .i64 z) rfl);rw[T6,Nat.mul_one,Nat.add_zero]at this;exact this)) ?_
 refine ZS 3 ?_
 refine K0.joinB Zk 1000 3 17 [18,19] 20 true (decide (z>1048576)) ((decide (z<0))||(decide (z>1048576))) Zk Zk Zk (fun _=>by kernel_rfl) R9 (fun xj3=> ?_)
 cases hb:dashG z
 ·
  refine K0.slot 20 (.bool (decide (z<0)||decide (z>1048576))) (.bool false) Zk (by rw[←hb];rfl) ?_
  refine ZS 2 ?_
  refine K0.cond false Zk ?_
  refine ZS 2 ?_
  refine K0.joinB Zk 1000 4 22 [23,24,25] 3 true (decide (z>0)) ((Vn n (l.take k))||(decide (z>0))) Zk Zk Zk (fun _=>by kernel_rfl) R9 (fun xj4=> ?_)
  refine ZR ?_
  refine K0.slot 11 (.int .i64 (IntKind.i64.wrap ((k:Int)+1))) (.int .i64 ((k+1:Nat):Int)) Zk (by rw[K7 hlt Zo]) ?_
  refine K0.slot 3 (.bool (Vn n (l.take k)||decide (z>0))) (.bool (Vn n (l.take (k+1)))) Zk (by unfold Vn;rw[any_take hx,Bool.or_assoc]) ?_
  refine K0.next (⟨k+1,by show k+1≤n;omega,by rw[any_take hx,hall,hb];rfl⟩) Zk (by show n- (k+1)<n-k;omega) ⟨Zk,Zk,Zk⟩ (fun u h=>trivial)
 ·
  refine ZT 20 (.bool (decide (z<0)||decide (z>1048576))) (.bool true) (by rw[←hb];rfl) ?_
  refine ZI true ?_
  refine K0.leave Zk ?_
  refine ZR ?_
  exact ZX (.bool false) (by unfold A8;rw[any_hit hx hb];rfl)
theorem style_v(hd:Kq w y.1 S.d.length 1 daC S.d)(hn:S.d.length≤1000000000):Calls Tryz.prog 187 #[styV S y] w (K3 w (fun _:Unit=> .bool (Z5 S)) fun _ _=>True):=by
 refine K0.enter Tryz.func187 rfl ?_
 refine ZS 4 ?_
 refine K0.joinB Zk 1000 5 8 [9,10,11,12] 13 true (S.j==2) ((S.j==1)||(S.j==2)) Zk Zk Zk (fun _=>by kernel_rfl) R9 (fun xj5=> ?_)
 refine K0.joinB Zk 1000 5 13 [14,15,16,17] 3 true (S.j==3) (((S.j==1)||(S.j==2))||(S.j==3)) Zk Zk Zk (fun _=>by kernel_rfl) R9 (fun xj6=> ?_)
 refine ZS 4 ?_
 refine K0.joinB Zk 1000 5 21 [22,23,24,25] 26 true (S.c==4) ((S.c==3)||(S.c==4)) Zk Zk Zk (fun _=>by kernel_rfl) R9 (fun xj7=> ?_)
 refine K0.joinB Zk 1000 5 26 [27,28,29,30] 4 true (S.c==5) (((S.c==3)||(S.c==4))||(S.c==5)) Zk Zk Zk (fun _=>by kernel_rfl) R9 (fun xj8=> ?_)
 refine ZR ?_
 refine ZD 4 (fun w1 hw h=>wide_v (x:=S.w)) fun u=> ?_
 refine K0.joinB Zk 1000 3 34 [35,36] 37 (((S.j==1)||(S.j==2))||(S.j==3)) false ((Xv S.w)&&(((S.j==1)||(S.j==2))||(S.j==3))) Zk Zk Zk (fun _=>by kernel_rfl) Mq (fun xj9=> ?_)
 refine K0.joinB Zk 1000 3 37 [38,39] 40 (((S.c==3)||(S.c==4))||(S.c==5)) false ((Xv S.w&&(((S.j==1)||(S.j==2))||(S.j==3)))&&(((S.c==3)||(S.c==4))||(S.c==5))) Zk Zk Zk (fun _=>by kernel_rfl) Mq (fun xj10=> ?_)
 refine K0.joinB Zk 1000 5 40 [41,42,43,44] 45 (decide (S.m≥256)) false (((Xv S.w&&(((S.j==1)||(S.j==2))||(S.j==3)))&&(((S.c==3)||(S.c==4))||(S.c==5)))&&(decide (S.m≥256))) Zk Zk Zk (fun _=>by kernel_rfl) Mq (fun xj11=> ?_)
 refine K0.joinB Zk 1000 5 45 [46,47,48,49] 50 (decide (S.m≤65536)) false ((((Xv S.w&&(((S.j==1)||(S.j==2))||(S.j==3)))&&(((S.c==3)||(S.c==4))||(S.c==5)))&&decide (S.m≥256))&&(decide (S.m≤65536))) Zk Zk Zk (fun _=>by kernel_rfl) Mq (fun xj12=> ?_)
 refine K0.joinC Zk true 1000 5 2 50 [51,52,53,54] 55 false (A8 S.d) (A8 S.d) (((((Xv S.w&&(((S.j==1)||(S.j==2))||(S.j==3)))&&(((S.c==3)||(S.c==4))||(S.c==5)))&&decide (S.m≥256))&&decide (S.m≤65536))&&(A8 S.d)) Zk (fun w1 hw h=>dashes_v (c:=y.2) (hd.below hw) hn) Zk Zk Zk (fun _=>by kernel_rfl) Af (fun xj13 Φxj13 hixj13=> ?_)
 refine K0.joinB Zk 1000 5 55 [56,57,58,59] 60 (decide (S.p≥0)) false ((((((Xv S.w&&(((S.j==1)||(S.j==2))||(S.j==3)))&&(((S.c==3)||(S.c==4))||(S.c==5)))&&decide (S.m≥256))&&decide (S.m≤65536))&&A8 S.d)&&(decide (S.p≥0))) Zk Zk Zk (fun _=>by kernel_rfl) Mq (fun xj14=> ?_)
 refine K0.joinB Zk 1000 5 60 [61,62,63,64] 2 (decide (S.p≤1048576)) false (((((((Xv S.w&&(((S.j==1)||(S.j==2))||(S.j==3)))&&(((S.c==3)||(S.c==4))||(S.c==5)))&&decide (S.m≥256))&&decide (S.m≤65536))&&A8 S.d)&&decide (S.p≥0))&&(decide (S.p≤1048576))) Zk Zk Zk (fun _=>by kernel_rfl) Mq (fun xj15=> ?_)
 refine ZR ?_
 exact ZW (.bool (Z5 S))
end
section
variable{w:World}{A:Option Addr}{n c g:Nat}{x:Int}{B:Bool}{N:Nd}{q:ND}{K:Nat}{S:Sty}{y:Option Addr×Nat}{l:List Int}{Ps:List Pn}{ql:List (Pn×PM)}{T:Mi}{t:TV}
def Few(P:Pn):Prop:=P.im.px.length≤20000∧P.stops.length≤1000000
theorem may1_v{P:Pn}{p:PM}(hB:Ma P=B)(hp:PRd P p K w)(hl:P.im.px.length≤1000000000)(hK:2≤K∧K≤10000000):Calls Tryz.prog 262 #[.agg (pC2 (P,p)).toArray] w (K3 w (fun _:Unit=> .bool (!B)) fun _ _=>True):=by
 refine K0.enter Tryz.func262 rfl ?_
 refine ZR ?_
 refine ZC (fun w1 hw h=>pvalid_v hB (hp.below hw) hl hK) fun u=> ?_
 exact ZW (.bool (!B))
theorem run_idxPn{k:Nat}{ad:Addr}(hA:A=some ad)(hk:k<n):(Kc 42 (.slice A n c) k).run Tryz.prog w= .ok (.value (.pointer (some (ad.add (k*40))))) w:=by
 rw[hA];exact Lg (elem:=41) Zk Zk hk
theorem run_ldPn{P:Pn}{p:PM}{ad:Addr}(h:∀(j:Nat) (v:Value),(pC2 (P,p))[j]? =some v→w.cell? (ad.add j)=some v):(Kd 41 ad).run Tryz.prog w= .ok (.value (.agg (pC2 (P,p)).toArray)) w:=
 N7 Zk Zk h
theorem indexP_v(hB:Ps.all Ma=B)(hp:Xu w A ql K Ps)(hn:Ps.length=n)(hn2:n≤1000000000)(hl:∀P∈Ps,Few P)(hK:2≤K∧K≤10000000):Calls Tryz.prog 301 #[.slice A n c,.func (.func 262) #[] #[]] w (K3 w (fun r:{r:Int // decide (r≥0)= !B}=> .int .i64 r.1) fun _ _=>True):=by
 refine K0.enter Tryz.func301 rfl ?_
 refine ZR ?_
 refine K0.loop (ι:={q:Nat // q≤n∧(Ps.take q).all Ma=true}) 19 (fun q=>⟨[(0,.v (.slice A n c)),(1,.v (.func (.func 262) #[] #[])),(7,.v (.int .i64 n)),(8,.v (.int .i64 q.1))],[]⟩) (fun q u=>True) (fun q=>n-q.1) (⟨0,Nat.zero_le _,rfl⟩) Zk (fun _=>by kernel_rfl) ⟨Zk,Zk,Zk⟩ (fun u h=>trivial) ?_
 rintro⟨k,hk,hall⟩ gg
 have hk:k≤n:=hk
 have hall:(Ps.take k).all Ma=true:=hall
 by_cases hlt:k<n
 case neg=>
  obtain rfl:k=n:=by omega
  rw[List.take_of_length_le Zo]at hall
  refine ZR ?_
  refine ZJ (decide ((k:Int)<(k:Int))) false Zs ?_
  refine K0.leave Zk ?_
  refine ZR ?_
  refine ZV (.int .i64 (-1)) (fun w1 hw h=>⟨⟨-1,by rw[←hB,hall];rfl⟩,rfl,hw,fun _ _ _=>trivial⟩)
 obtain⟨P,hx⟩:∃x,Ps[k]? =some x:=⟨_,List.getElem?_eq_getElem Zo⟩
 obtain⟨p,hx2,hrd⟩:=hp.get hx
 obtain⟨ad,hA,hc⟩:=hp.row.2 k _ hx2
 have hf:=hl P (List.mem_of_getElem? hx)
 refine ZR ?_
 refine ZJ (decide ((k:Int)<(n:Int))) true Zp ?_
 refine ZA (Kc 42 (.slice A n c) k) (.pointer (some (ad.add (k*40)))) (fun w1 hw h=>run_idxPn hA hlt) ?_
 refine ZA (Kd 41 (ad.add (k*40))) (.agg (pC2 (P,p)).toArray) (fun w1 hw h=>run_ldPn fun j v hj=>Kt hw (hc j v hj)) ?_
 cases hb:Ma P
 ·
  refine ZC (fun w1 hw h=>may1_v hb (hrd.below hw) (by have:=hf.1;omega) hK) fun u=> ?_
  refine ZI true ?_
  refine K0.leave Zk ?_
  refine ZR ?_
  refine ZV (.int .i64 (k:Int)) (fun w1 hw h=>⟨⟨k,by rw[←hB,all_bad hx hb];simp⟩,rfl,hw,fun _ _ _=>trivial⟩)
 ·
  refine ZC (fun w1 hw h=>may1_v hb (hrd.below hw) (by have:=hf.1;omega) hK) fun u=> ?_
  refine ZI false ?_
  refine K0.slot 8 (.int .i64 (IntKind.i64.wrap ((k:Int)+1))) (.int .i64 ((k+1:Nat):Int)) Zk (by rw[K7 hlt Zo]) ?_
  refine K0.next (⟨k+1,by show k+1≤n;omega,by rw[Fp hx hall,hb]⟩) Zk (by show n- (k+1)<n-k;omega) ⟨Zk,Zk,Zk⟩ (fun u h=>trivial)
theorem containsP_v(hB:Ps.all Ma=B)(hp:Xu w A ql K Ps)(hn:Ps.length=n)(hn2:n≤1000000000)(hl:∀P∈Ps,Few P)(hK:2≤K∧K≤10000000):Calls Tryz.prog 261 #[.slice A n c,.func (.func 262) #[] #[]] w (K3 w (fun _:Unit=> .bool (!B)) fun _ _=>True):=by
 refine K0.enter Tryz.func261 rfl ?_
 refine ZR ?_
 refine ZC (fun w1 hw h=>indexP_v (c:=c) hB (hp.below hw) hn hn2 hl hK) fun u=> ?_
 exact ZX (.bool (decide (u.1≥0))) (by rw[u.2])
theorem mayP_v(hB:Ps.all Ma=B)(hp:Xu w A ql K Ps)(hn:Ps.length=n)(hn2:n≤1000000000)(hl:∀P∈Ps,Few P)(hK:2≤K∧K≤10000000):Calls Tryz.prog 188 #[.slice A n c] w (K3 w (fun _:Unit=> .bool B) fun _ _=>True):=by
 refine K0.enter Tryz.func188 rfl ?_
 refine ZR ?_
 refine ZC (fun w1 hw h=>containsP_v (c:=c) hB (hp.below hw) hn hn2 hl hK) fun u=> ?_
 exact ZX (.bool (!!B)) (by rw[Bool.not_not])
theorem cmp_eq0{r:Rat}:(Kk r ((0:Int):Rat)==0)=decide (r=0):=by
 have:=Uc (r:=r)
 by_cases h:r=0
 ·rw[decide_eq_true h];rw[decide_eq_false (by simpa using h)]at this;simpa using this
 ·rw[decide_eq_false h];rw[decide_eq_true h]at this;simpa using this
theorem zero_v(ht:S4 t T K w)(hK:2≤K∧K≤10000000):Calls Tryz.prog 126 #[t.val] w (K3 w (fun _:Unit=> .bool (decide (T.det=0))) fun _ _=>True):=by
 refine K0.enter Tryz.func126 rfl ?_
 refine ZR ?_
 refine ZC (fun w1 hw h=>Yn (ht.below hw) hK) fun d=> ?_
 refine ZC (fun w1 hw h=>Ki 0 w1 Zd Zd) fun z=> ?_
 refine ZC (fun w1 hw h=>Lq h.1.2.q h.2.q Zo) fun v=> ?_
 exact ZX (.bool (Kk T.det ((0:Int):Rat)==0)) (by rw[cmp_eq0])
theorem bare_v:Calls Tryz.prog 127 #[noV N q] w (K3 w (fun _:Unit=> .bool (Ae N)) fun _ _=>True):=by
 refine K0.enter Tryz.func127 rfl ?_
 refine ZS 4 ?_
 refine K0.joinB Zk 1000 5 9 [10,11,12,13] 14 (N.bl==0) false (((N.op.toNat:Int)==0)&&(N.bl==0)) Zk Zk Zk (fun _=>by kernel_rfl) Mq (fun xj1=> ?_)
 refine K0.joinB Zk 1000 5 14 [15,16,17,18] 19 (!N.iso) false ((((N.op.toNat:Int)==0)&&(N.bl==0))&&(!N.iso)) Zk Zk Zk (fun _=>by kernel_rfl) Mq (fun xj2=> ?_)
 refine K0.joinB Zk 1000 5 19 [20,21,22,23] 3 (!N.ko) false (((((N.op.toNat:Int)==0)&&(N.bl==0))&& !N.iso)&&(!N.ko)) Zk Zk Zk (fun _=>by kernel_rfl) Mq (fun xj3=> ?_)
 refine ZS 5 ?_
 refine K0.joinB Zk 1000 5 28 [29,30,31,32] 33 (N.frule==0) false (((N.path.length:Int)==0)&&(N.frule==0)) Zk Zk Zk (fun _=>by kernel_rfl) Mq (fun xj4=> ?_)
 refine K0.joinB Zk 1000 6 33 [34,35,36,37,38] 39 ((N.fill.length:Int)==0) false ((((N.path.length:Int)==0)&&(N.frule==0))&&((N.fill.length:Int)==0)) Zk Zk Zk (fun _=>by kernel_rfl) Mq (fun xj5=> ?_)
 refine K0.joinB Zk 1000 6 39 [40,41,42,43,44] 45 ((N.stroke.length:Int)==0) false (((((N.path.length:Int)==0)&&(N.frule==0))&&((N.fill.length:Int)==0))&&((N.stroke.length:Int)==0)) Zk Zk Zk (fun _=>by kernel_rfl) Mq (fun xj6=> ?_)
 refine K0.joinC Zk true 1000 1000 1000 45 [46,47,48,49,50] 4 false (Tz N.sty) (Tz N.sty) ((shpB N)&&(Tz N.sty)) Zk (fun w1 hw h=>Gm (y:=(q.daA,q.dac))) Zk Zk Zk (fun _=>by kernel_rfl) Af (fun xj7 Φxj7 hixj7=> ?_)
 refine ZD 5 (fun w1 hw h=>Er (m:=N.im) (y:=(q.pxA,q.pxc)) rfl) fun u=> ?_
 refine K0.joinB Zk 1000 5 55 [56,57,58,59] 5 (N.samp==0) false ((decide (N.im.w=0∧N.im.h=0∧N.im.px=[]))&&(N.samp==0)) Zk Zk Zk (fun _=>by kernel_rfl) Mq (fun xj8=> ?_)
 refine ZR ?_
 unfold Ae
 by_cases k1:N.kind=1
 ·
  refine K0.condr ((N.kind==1)) true Zk (beq_iff_eq.2 k1) ?_
  refine ZS 2 ?_
  refine K0.joinB Zk 1000 3 65 [66,67] 2 (picB N) false ((shpB N&&Tz N.sty)&&(picB N)) Zk Zk Zk (fun _=>by kernel_rfl) Mq (fun xj9=> ?_)
  refine ZR ?_
  exact ZX (.bool ((shpB N&&Tz N.sty)&&picB N)) (by rw[if_pos k1])
 refine ZJ ((N.kind==1)) false (beq_eq_false_iff_ne.2 k1) ?_
 by_cases k2:N.kind=2
 ·
  refine K0.condr ((N.kind==2)) true Zk (beq_iff_eq.2 k2) ?_
  refine ZS 2 ?_
  refine K0.joinB Zk 1000 3 71 [72,73] 2 (picB N) false ((grpB N)&&(picB N)) Zk Zk Zk (fun _=>by kernel_rfl) Mq (fun xj10=> ?_)
  refine ZR ?_
  exact ZX (.bool (grpB N&&picB N)) (by rw[if_neg k1,if_pos k2])
 refine K0.condr ((N.kind==2)) false Zk (beq_eq_false_iff_ne.2 k2) ?_
 refine ZS 2 ?_
 refine K0.joinB Zk 1000 3 75 [76,77] 2 (shpB N&&Tz N.sty) false ((grpB N)&&(shpB N&&Tz N.sty)) Zk Zk Zk (fun _=>by kernel_rfl) Mq (fun xj11=> ?_)
 refine ZR ?_
 exact ZX (.bool (grpB N&&(shpB N&&Tz N.sty))) (by rw[if_neg k1,if_neg k2])
theorem lit6{b0 b1 b2 b3 b4 b5:Bool}{z0 z1 z2 z3 z4 z5:Int}:Em Tryz.prog 288 6 #[(0,wh b0 z0),(1,wh b1 z1),(2,wh b2 z2),(3,wh b3 z3),(4,wh b4 z4),(5,wh b5 z5)]=some (137,(List.map (fun v:Bool×Int=>wh v.1 v.2) [(b0,z0),(b1,z1),(b2,z2),(b3,z3),(b4,z4),(b5,z5)]).toArray):=by
 cases b0<;>cases b1<;>cases b2<;>cases b3<;>cases b4<;>cases b5<;>kernel_rfl
theorem lit2{b0 b1:Bool}{z0 z1:Int}:Em Tryz.prog 288 2 #[(0,wh b0 z0),(1,wh b1 z1)]=some (137,(List.map (fun v:Bool×Int=>wh v.1 v.2) [(b0,z0),(b1,z1)]).toArray):=by
 cases b0<;>cases b1<;>kernel_rfl
end
section
variable{w:World}{B:Bool}{N:Nd}{q:ND}{K:Nat}{vs:List (Bool×Int)}
def chV(B:Bool)(e:Value):Prop:=(B=true∧e= .nilIface)∨(B=false∧∃z:Int,z≠0∧(e=wh true z∨e=wh2 z))
theorem Jv(hz:∀v∈vs,v.2≠0)(hB:vs.all (fun v=> !v.1)=B):chV B (Bm vs):=by
 subst hB
 induction vs with
 |nil=>exact .inl ⟨rfl,rfl⟩
 |cons v r ih=>
  obtain⟨b,z⟩:=v
  cases b
  ·exact ih fun v hv=>hz v (List.mem_cons_of_mem _ hv)
  ·exact .inr ⟨rfl,z,hz (true,z) Zs,.inr rfl⟩
theorem chV_wh{b:Bool}{z:Int}(hz:z≠0)(hB:(!b)=B):chV B (wh b z):=by
 subst hB
 cases b
 ·exact .inl ⟨rfl,rfl⟩
 ·exact .inr ⟨rfl,z,hz,.inl rfl⟩
def vsC(N:Nd):List (Bool×Int):=[(kindX N,2),(rngX N,6),(!N.T.ok,5),(decide (N.T.det=0),9),(!U4 N.clip,10),(!Tn N|| !Ae N,17)]
def vsS(N:Nd):List (Bool×Int):=[(!U4 N.path,10),(!Zg N.frule,2),(manyB N,5),(decide ((N.stroke.length:Int)>0)&& !Z5 N.sty,13),(!decide ((N.stroke.length:Int)>0)&& !Tz N.sty,17),(!N.fill.all Ma|| !N.stroke.all Ma,16)]
def vsI(N:Nd):List (Bool×Int):=[(!imOK N.im,16),((N.samp !=1)&&(N.samp !=2),2)]
def cpL:List Nat:=[8,9,10,11,12,13,14,15,16,17,18,19,20,21,22,23]
theorem common_v(hp:NRd N q K w)(hf:W7 N)(hK:2≤K∧K≤10000000)(hB:Hx N=B):Calls Tryz.prog 70 #[noV N q] w (K3 w (fun e:{e:Value // chV B e}=>e.1) fun _ _=>True):=by
 refine K0.enter Tryz.func70 rfl ?_
 refine ZS 5 ?_
 refine K0.meet2 (fun(i:Nat→AV) c=>Nu cpL i (Kw 3 (.bool (Tn N)) (Lx Tryz.prog 1000 11 (Kw 13 (.bool true) (Lx Tryz.prog 1000 5 (Kw 8 (.bool true) c)))))) (fun k=> ?_) (fun xj Φ9 hi9=> ?_)
 ·by_cases hcl:N.clip.length=0
  ·
   refine K0.slot 8 (.bool ((N.clip.length:Int)==0)) (.bool true) Zk (by rw[beq_iff_eq.2 Zo]) ?_
   refine K0.run Zk (stop:=1000) 5 _ ?_
   refine K0.fork 13 (N.crule==0) Zk (fun hc=> ?_) (fun hc=> ?_)
   ·refine K0.run Zk (stop:=1000) 11 _ ?_
    refine K0.slot 3 (.bool true) (.bool (Tn N)) Zk (by unfold Tn;rw[if_pos hcl,hc]) ?_
    exact K0.blur cpL fun x=>K0.eq (k x _ fun w h=>h) Zk
   ·refine K0.run Zk (stop:=1000) 5 _ ?_
    refine K0.slot 18 (.bool (decide ((N.clip.length:Int)>0))) (.bool false) Zk (by rw[decide_eq_false Zo]) ?_
    refine K0.run Zk (stop:=1000) 6 _ ?_
    refine K0.slot 3 (.bool false) (.bool (Tn N)) Zk (by unfold Tn;rw[if_pos hcl,hc]) ?_
    exact K0.blur cpL fun x=>K0.eq (k x _ fun w h=>h) Zk
  ·
   refine K0.slot 8 (.bool ((N.clip.length:Int)==0)) (.bool false) Zk (by rw[beq_eq_false_iff_ne.2 Zo]) ?_
   refine K0.run Zk (stop:=1000) 10 _ ?_
   refine ZT 18 (.bool (decide ((N.clip.length:Int)>0))) (.bool true) (by rw[decide_eq_true Zo]) ?_
   refine K0.callv (fun w1 hw h=>rule_v (x:=N.crule)) Zk (fun u=> ?_)
   refine K0.run Zk (stop:=1000) 3 _ ?_
   refine K0.slot 3 (.bool (Zg N.crule)) (.bool (Tn N)) Zk (by unfold Tn;rw[if_neg hcl]) ?_
   exact K0.blur cpL fun x=>K0.eq (k x _ fun w h=>h.1) Zk
 refine ZS 4 ?_
 refine K0.joinB Zk 8 1000 27 [28,29,30] 31 true (decide (N.kind>3)) ((decide (N.kind<1))||(decide (N.kind>3))) Zk Zk Zk (fun _=>by kernel_rfl) R9 (fun xj1=> ?_)
 refine ZR ?_
 refine ZD 13 (fun w1 hw h=>Pw (b:=kindX N) (z:=2)) fun e0=> ?_
 refine K0.joinB Zk 18 1000 36 [37,38,39,40] 41 true (decide (N.id>1073741824)) ((decide (N.id<1))||(decide (N.id>1073741824))) Zk Zk Zk (fun _=>by kernel_rfl) R9 (fun xj2=> ?_)
 refine K0.joinB Zk 23 1000 41 [42,43,44,45] 46 true (decide (N.dep<0)) ((decide (N.id<1)||decide (N.id>1073741824))||(decide (N.dep<0))) Zk Zk Zk (fun _=>by kernel_rfl) R9 (fun xj3=> ?_)
 refine K0.joinB Zk 27 1000 46 [47,48,49] 50 true (decide (N.dep≥8)) (((decide (N.id<1)||decide (N.id>1073741824))||decide (N.dep<0))||(decide (N.dep≥8))) Zk Zk Zk (fun _=>by kernel_rfl) R9 (fun xj4=> ?_)
 refine ZR ?_
 refine ZC (fun w1 hw h=>Pw (b:=rngX N) (z:=6)) fun e1=> ?_
 refine ZC (fun w1 hw h=>Q9 rfl (hp.tr.below hw) hK) fun v1=> ?_
 refine ZC (fun w1 hw h=>Pw (b:= !N.T.ok) (z:=5)) fun e2=> ?_
 refine ZC (fun w1 hw h=>zero_v (hp.tr.below hw) hK) fun v2=> ?_
 refine ZC (fun w1 hw h=>Pw (b:=decide (N.T.det=0)) (z:=9)) fun e3=> ?_
 refine ZC (fun w1 hw h=>Yz (c:=q.clc) (hp.cl.below hw) hf.cl rfl) fun v3=> ?_
 refine ZD 45 (fun w1 hw h=>Pw (b:= !U4 N.clip) (z:=10)) fun e4=> ?_
 refine K0.joinC Zk false 1000 1000 1000 68 [69,70,71] 72 true (Ae N) (!Ae N) ((!Tn N)||(!Ae N)) Zk (fun w1 hw h=>bare_v (q:=q)) Zk Zk Zk (fun _=>by kernel_rfl) or_ift (fun xj5 Φxj5 hixj5=> ?_)
 refine ZC (fun w1 hw h=>Pw (b:= !Tn N|| !Ae N) (z:=17)) fun e5=> ?_
 refine K0.make (M5 288 6 #[(0,wh (kindX N) 2),(1,wh (rngX N) 6),(2,wh (!N.T.ok) 5),(3,wh (decide (N.T.det=0)) 9),(4,wh (!U4 N.clip) 10),(5,wh (!Tn N|| !Ae N) 17)]) (Km 6) (Kv 137 (List.map (fun v:Bool×Int=>wh v.1 v.2) (vsC N)).toArray) Zk (fun w1 hw h=>Ke lit6) (fun g=> ?_)
 refine ZR ?_
 refine ZC (fun w1 hw h=>Ji (vs:=vsC N) (n:=6) h.2 rfl Zd) fun e6=> ?_
 refine ZV (Bm (vsC N)) (fun w1 hw h=>⟨⟨Bm (vsC N),Jv (by simp[vsC]) (by rw[←hB];simp[vsC,Hx])⟩,rfl,hw,fun _ _ _=>trivial⟩)
theorem shape_raw:List.all (vsS N) (fun v=> !v.1)=E2 N:=by
 unfold E2 penB vsS
 by_cases h:N.stroke.length=0
 ·rw[if_pos h,show decide ((N.stroke.length:Int)>0)=false from decide_eq_false Zo]
  simp[Bool.not_or]
 ·rw[if_neg h,show decide ((N.stroke.length:Int)>0)=true from decide_eq_true Zo]
  simp[Bool.not_or]
theorem shape_v(hp:NRd N q K w)(hf:W7 N)(hK:2≤K∧K≤10000000)(hB:E2 N=B):Calls Tryz.prog 128 #[noV N q] w (K3 w (fun e:{e:Value // chV B e}=>e.1) fun _ _=>True):=by
 refine K0.enter Tryz.func128 rfl ?_
 refine ZR ?_
 refine ZC (fun w1 hw h=>Yz (c:=q.pac) (hp.pa.below hw) hf.pa rfl) fun v0=> ?_
 refine ZC (fun w1 hw h=>Pw (b:= !U4 N.path) (z:=10)) fun e0=> ?_
 refine ZC (fun w1 hw h=>rule_v (x:=N.frule)) fun v1=> ?_
 refine ZD 15 (fun w1 hw h=>Pw (b:= !Zg N.frule) (z:=2)) fun e1=> ?_
 refine K0.joinB Zk 20 1000 22 [23,24,25,26] 27 true (decide ((N.stroke.length:Int)>1)) ((decide ((N.fill.length:Int)>1))||(decide ((N.stroke.length:Int)>1))) Zk Zk Zk (fun _=>by kernel_rfl) R9 (fun xj6=> ?_)
 refine ZR ?_
 refine ZD 23 (fun w1 hw h=>Pw (b:=manyB N) (z:=5)) fun e2=> ?_
 refine K0.joinC Zk true 1000 1000 1000 30 [31,32,33,34] 35 false (Z5 N.sty) (!Z5 N.sty) ((decide ((N.stroke.length:Int)>0))&&(!Z5 N.sty)) Zk (fun w1 hw h=>style_v (y:=(q.daA,q.dac)) (hp.da.below hw) (by have:=hf.da;omega)) Zk Zk Zk (fun _=>by kernel_rfl) Af (fun xj7 Φxj7 hixj7=> ?_)
 refine ZD 32 (fun w1 hw h=>Pw (b:=decide ((N.stroke.length:Int)>0)&& !Z5 N.sty) (z:=13)) fun e3=> ?_
 refine K0.joinC Zk true 1000 1000 1000 39 [40,41,42,43,44] 45 false (Tz N.sty) (!Tz N.sty) ((!decide ((N.stroke.length:Int)>0))&&(!Tz N.sty)) Zk (fun w1 hw h=>Gm (y:=(q.daA,q.dac))) Zk Zk Zk (fun _=>by kernel_rfl) Af (fun xj8 Φxj8 hixj8=> ?_)
 refine ZC (fun w1 hw h=>Pw (b:= !decide ((N.stroke.length:Int)>0)&& !Tz N.sty) (z:=17)) fun e4=> ?_
 refine ZD 44 (fun w1 hw h=>mayP_v (c:=q.fic) rfl (hp.fi.below hw) rfl (by have:=hf.fn;omega) hf.fi hK) fun v2=> ?_
 refine K0.joinC Zk false 1000 1000 1000 51 [52,53,54,55] 56 true (N.stroke.all Ma) (!N.stroke.all Ma) ((!N.fill.all Ma)||(!N.stroke.all Ma)) Zk (fun w1 hw h=>mayP_v (c:=q.stc) rfl (hp.st.below hw) rfl (by have:=hf.sn;omega) hf.st hK) Zk Zk Zk (fun _=>by kernel_rfl) or_ift (fun xj9 Φxj9 hixj9=> ?_)
 refine ZC (fun w1 hw h=>Pw (b:= !N.fill.all Ma|| !N.stroke.all Ma) (z:=16)) fun e5=> ?_
 refine K0.make (M5 288 6 #[(0,wh (!U4 N.path) 10),(1,wh (!Zg N.frule) 2),(2,wh (manyB N) 5),(3,wh (decide ((N.stroke.length:Int)>0)&& !Z5 N.sty) 13),(4,wh (!decide ((N.stroke.length:Int)>0)&& !Tz N.sty) 17),(5,wh (!N.fill.all Ma|| !N.stroke.all Ma) 16)]) (Km 6) (Kv 137 (List.map (fun v:Bool×Int=>wh v.1 v.2) (vsS N)).toArray) Zk (fun w1 hw h=>Ke lit6) (fun g=> ?_)
 refine ZR ?_
 refine ZC (fun w1 hw h=>Ji (vs:=vsS N) (n:=6) h.2 rfl Zd) fun e6=> ?_
 refine ZV (Bm (vsS N)) (fun w1 hw h=>⟨⟨Bm (vsS N),Jv (by simp[vsS]) (by rw[←hB];exact shape_raw)⟩,rfl,hw,fun _ _ _=>trivial⟩)
theorem own_v(hp:NRd N q K w)(hf:W7 N)(hK:2≤K∧K≤10000000)(hB:ownB N=B):Calls Tryz.prog 71 #[noV N q] w (K3 w (fun e:{e:Value // chV B e}=>e.1) fun _ _=>True):=by
 unfold ownB at hB
 refine K0.enter Tryz.func71 rfl ?_
 refine ZR ?_
 by_cases k1:N.kind=1
 ·rw[if_pos k1]at hB
  refine ZJ ((N.kind==1)) true (beq_iff_eq.2 k1) ?_
  refine ZC (fun w1 hw h=>mode_v (x:=N.bl)) fun v0=> ?_
  refine ZC (fun w1 hw h=>Pw (b:= !modeB N.bl) (z:=2)) fun e0=> ?_
  refine ZV (wh (!modeB N.bl) 2) (fun w1 hw h=>⟨⟨_,chV_wh Zd (by rw[Bool.not_not];exact hB)⟩,rfl,hw,fun _ _ _=>trivial⟩)
 rw[if_neg k1]at hB
 refine ZJ ((N.kind==1)) false (beq_eq_false_iff_ne.2 k1) ?_
 by_cases k2:N.kind=2
 ·rw[if_pos k2]at hB
  refine ZJ ((N.kind==2)) true (beq_iff_eq.2 k2) ?_
  refine ZC (fun w1 hw h=>shape_v (hp.below hw) hf hK hB) fun e0=> ?_
  refine ZV (e0.1) (fun w1 hw h=>⟨e0,rfl,hw,fun _ _ _=>trivial⟩)
 rw[if_neg k2]at hB
 refine ZJ ((N.kind==2)) false (beq_eq_false_iff_ne.2 k2) ?_
 refine ZC (fun w1 hw h=>Bj (m:=N.im) (y:=(q.pxA,q.pxc)) rfl (hp.px.below hw) (by have:=hf.px;omega)) fun v0=> ?_
 refine ZD 9 (fun w1 hw h=>Pw (b:= !imOK N.im) (z:=16)) fun e0=> ?_
 refine K0.joinB Zk 13 1000 24 [25,26,27] 28 (N.samp !=2) false ((N.samp !=1)&&(N.samp !=2)) Zk Zk Zk (fun _=>by kernel_rfl) Mq (fun xj10=> ?_)
 refine ZR ?_
 refine ZC (fun w1 hw h=>Pw (b:=(N.samp !=1)&&(N.samp !=2)) (z:=2)) fun e1=> ?_
 refine K0.make (M5 288 2 #[(0,wh (!imOK N.im) 16),(1,wh ((N.samp !=1)&&(N.samp !=2)) 2)]) (Km 2) (Kv 137 (List.map (fun v:Bool×Int=>wh v.1 v.2) (vsI N)).toArray) Zk (fun w1 hw h=>Ke lit2) (fun g=> ?_)
 refine ZR ?_
 refine ZC (fun w1 hw h=>Ji (vs:=vsI N) (n:=2) h.2 rfl Zd) fun e6=> ?_
 refine ZV (Bm (vsI N)) (fun w1 hw h=>⟨⟨Bm (vsI N),Jv (by simp[vsI]) (by rw[←hB];simp[vsI])⟩,rfl,hw,fun _ _ _=>trivial⟩)
end
section
variable{w:World}{B:Bool}{N:Nd}{q:ND}{K:Nat}
theorem ET.below{w w1:World}(h:ET w)(hw:Below w.heap.size w w1):ET w1:=Kt hw h
def EGm(W:World)(g:Nat)(cs:List Value)(u:World):Prop:=W.heap.size≤g∧K8 u g cs
theorem eg_own{W u:World}{g:Nat}{cs:List Value}(h:EGm W g cs u):∀b∈[g],W.heap.size≤b∧∃cs ty own,u.heap[b]? =some (.cells cs ty own):=fun b hb=>by
 obtain rfl:b=g:=by simpa using hb
 obtain⟨ty,h2⟩:=h.2
 exact⟨h.1,_,_,_,h2⟩
def ckL:List Nat:=[6,7,8,9,10,11]
theorem check_v(hE:ET w)(hp:NRd N q K w)(hf:W7 N)(hK:2≤K∧K≤10000000)(hB:Rr N=B):Calls Tryz.prog 34 #[noV N q] w (K3 w (fun z:{z:Int // decide (z=0)=B}=> .int .i64 z.1) fun _ _=>True):=by
 unfold Rr at hB
 refine K0.enter Tryz.func34 rfl ?_
 refine ZR ?_
 refine K0.meet2 (ι:={e:Value // chV B e}×(Nat→AV)) (fun i c=>Nu ckL i.2 (Kw 3 i.1.1 (Lx Tryz.prog 0 1000 (Ag false (Lx Tryz.prog 1000 1000 (Lh (.v (wh true 0)) c)))))) (fun k=> ?_) (fun i Φ9 hi9=> ?_)
 ·cases hc:Hx N
  ·rw[hc,Bool.false_and]at hB
   subst hB
   refine ZC (fun w1 hw h=>common_v (hp.below hw) hf hK hc) fun e=> ?_
   obtain⟨e,he⟩:=e
   rcases he with ⟨h0,_⟩|⟨_,z,hz,rfl|rfl⟩
   ·cases h0
   ·
    refine K0.cond false Zk ?_
    refine ZS 0 ?_
    exact K0.blur ckL fun x=>K0.eq (k (⟨wh true z,.inr ⟨rfl,z,hz,.inl rfl⟩⟩,x) _ fun w h=>h.1) Zk
   ·
    refine K0.cond false Zk ?_
    refine ZS 0 ?_
    exact K0.blur ckL fun x=>K0.eq (k (⟨wh2 z,.inr ⟨rfl,z,hz,.inr rfl⟩⟩,x) _ fun w h=>h.1) Zk
  ·rw[hc,Bool.true_and]at hB
   refine ZC (fun w1 hw h=>common_v (hp.below hw) hf hK hc) fun e=> ?_
   obtain⟨e,he⟩:=e
   rcases he with ⟨_,rfl⟩|⟨h0,_⟩
   case inr=>cases h0
   refine ZI true ?_
   refine ZD 0 (fun w1 hw h=>own_v (hp.below hw) hf hK hB) fun e=> ?_
   exact K0.blur ckL fun x=>K0.eq (k (e,x) _ fun w h=>h.1.1) Zk
 obtain⟨⟨e,he⟩,x⟩:=i
 refine K0.run Zk (stop:=1000) 1 _ ?_
 refine ZS 0 ?_
 refine K0.make (C1 140) (Ku) (fun g u=>K8 u g [.int .i64 0,.nilIface]∧w.heap.size≤g∧g<u.heap.size) Zk (fun w1 hw h=>make_all (z:= .agg #[.int .i64 0,.nilIface]) Zk hw.size) (fun g=> ?_)
 refine ZR ?_
 refine K0.un Zk ?_
 refine ZR ?_
 rcases he with ⟨hb,rfl⟩|⟨hb,z,hz,rfl|rfl⟩
 ·
  refine ZC (fun w1 hw h=>as_nil (t:= .iface 142 (.pointer (some ⟨g,0,none⟩)))) fun u=> ?_
  refine ZI false ?_
  refine ZV (.int .i64 0) (fun w1 hw h=>⟨⟨0,by rw[hb];rfl⟩,rfl,hw,fun _ _ _=>trivial⟩)
 ·refine K0.mut (L:=[g]) (Φ':=fun(_:Unit)=>EGm w g [.int .i64 z,.nilIface]) (fun w1 hw h=>as_hit (hE.below hw) h.2.1 rfl ⟨rfl,rfl⟩) (fun u h=>eg_own ⟨h.2.2.1,h.2.1⟩) (fun _ wa u e1 e2 h hG=>⟨h.2.2.1,hG⟩) Zk Zk (fun _=> ?_)
  refine ZR ?_
  refine K0.cond true Zk ?_
  refine ZS 1 ?_
  refine K0.askAt 1 (Kd 54 ⟨g,0,none⟩) (.int .i64 z) Zk (fun w1 hw h=>Kg Zk (by have:=h.2.range 0 _ rfl;simpa using this)) ?_
  refine ZS 3 ?_
  refine ZB 3 (Kd 137 ⟨g,1,none⟩) (.nilIface) (fun w1 hw h=>Kg Zk (by have:=h.2.range 1 _ rfl;simpa using this)) ?_
  refine ZC (fun w1 hw h=>as_nil (t:= .iface 142 (.pointer (some ⟨g,0,none⟩)))) fun u=> ?_
  refine ZI false ?_
  refine ZV (.int .i64 z) (fun w1 hw h=>⟨⟨z,by rw[hb];exact decide_eq_false hz⟩,rfl,hw,fun _ _ _=>trivial⟩)
 ·refine K0.mut (L:=[g]) (Φ':=fun(_:Unit)=>EGm w g [.int .i64 0,wh true z]) (fun w1 hw h=>as_hit (hE.below hw) h.2.1 rfl ⟨rfl,rfl⟩) (fun u h=>eg_own ⟨h.2.2.1,h.2.1⟩) (fun _ wa u e1 e2 h hG=>⟨h.2.2.1,hG⟩) Zk Zk (fun _=> ?_)
  refine ZR ?_
  refine K0.cond true Zk ?_
  refine ZS 1 ?_
  refine K0.askAt 1 (Kd 54 ⟨g,0,none⟩) (.int .i64 0) Zk (fun w1 hw h=>Kg Zk (by have:=h.2.range 0 _ rfl;simpa using this)) ?_
  refine ZS 3 ?_
  refine ZB 3 (Kd 137 ⟨g,1,none⟩) (wh true z) (fun w1 hw h=>Kg Zk (by have:=h.2.range 1 _ rfl;simpa using this)) ?_
  refine K0.mut (L:=[g]) (Φ':=fun(_:Unit)=>EGm w g [.int .i64 z,.nilIface]) (fun w1 hw h=>as_hit (hE.below hw) h.2 rfl ⟨rfl,rfl⟩) (fun u h=>eg_own h) (fun _ wa u e1 e2 h hG=>⟨h.1,hG⟩) Zk Zk (fun _=> ?_)
  refine ZR ?_
  refine K0.cond true Zk ?_
  refine ZS 1 ?_
  refine K0.askAt 1 (Kd 54 ⟨g,0,none⟩) (.int .i64 z) Zk (fun w1 hw h=>Kg Zk (by have:=h.2.range 0 _ rfl;simpa using this)) ?_
  refine ZS 3 ?_
  refine ZB 3 (Kd 137 ⟨g,1,none⟩) (.nilIface) (fun w1 hw h=>Kg Zk (by have:=h.2.range 1 _ rfl;simpa using this)) ?_
  refine ZC (fun w1 hw h=>as_nil (t:= .iface 142 (.pointer (some ⟨g,0,none⟩)))) fun u=> ?_
  refine ZI false ?_
  refine ZV (.int .i64 z) (fun w1 hw h=>⟨⟨z,by rw[hb];exact decide_eq_false hz⟩,rfl,hw,fun _ _ _=>trivial⟩)
end
def soC(S:Sc)(y:Option Addr×Nat):List Value:=[.int .i64 S.w,.int .i64 S.h,.int .u8 (S.bg.1.toNat:Int),.int .u8 (S.bg.2.1.toNat:Int),.int .u8 (S.bg.2.2.1.toNat:Int),.int .u8 (S.bg.2.2.2.toNat:Int),.slice y.1 S.nds.length y.2]
@[reducible] def soV(S:Sc)(y:Option Addr×Nat):Value:= .agg (soC S y).toArray
section
variable{w:World}{B:Bool}{N:Nd}{q:ND}{K n c g:Nat}{S:Sc}{y:Option Addr×Nat}{nl:List (Nd×ND)}{A:Option Addr}
def mapS2(t:TypeId):Sem Next:=Instr.makeMap t none >>= fun v=>pure (.value v)
theorem make_ids{t:TypeId}{N:Nat}(hN:N≤w.heap.size):Lp Tryz.prog w (fun g:Nat=> .map (some g)) (fun g u=>Cp u g []∧N≤g) (mapS2 t):=
 ⟨w.heap.size,w.alloc (.map #[] 0),by simp only[mapS2,Instr.makeMap,Sem.run_bind,run_newObj_alloc,Result.andThen_ok,Sem.run_pure],Om _ _,fun w'' h1 h2=>⟨⟨#[],0,(P6 w _ h1 h2).1,rfl⟩,hN⟩⟩
def lkS(t:TypeId)(m k:Value):Sem Next:=Instr.lookup t m k false >>= fun v=>pure (.value v)
theorem run_lk{l:List Int}{x:Int}(h:Cp w g l):(lkS 98 (.map (some g)) (.int .i64 x)).run Tryz.prog w= .ok (.value (.bool (decide (x∈l)))) w:=by
 simp only[lkS,Sem.run_bind,lookup_ids (P:=Tryz.prog) (t:=98) (kt:=3) (et:=4) Zk Zk Zk h,Result.andThen_ok,Sem.run_pure]
theorem run_idxNd{k:Nat}{ad:Addr}(hA:A=some ad)(hk:k<n):(Kc 48 (.slice A n c) k).run Tryz.prog w= .ok (.value (.pointer (some (ad.add (k*47))))) w:=by
 rw[hA];exact Lg (elem:=47) Zk Zk hk
theorem run_ldNd{ad:Addr}(h:∀(j:Nat) (v:Value),(noC N q)[j]? =some v→w.cell? (ad.add j)=some v):(Kd 47 ad).run Tryz.prog w= .ok (.value (noV N q)) w:=
 N7 Zk Zk h
theorem nds_step{l:List Nd}{k:Nat}(hx:l[k]? =some N)(h:Ei (l.take k) (l.drop k)=B):(Rr N&&(!decide (N.id∈(l.take k).map (·.id))&&(!decide (N.dep>mxd (l.take k))&&Ei (l.take (k+1)) (l.drop (k+1)))))=B:=by
 rw[Nn hx]at h
 rw[Lb hx]
 exact h
theorem mxd_snoc{l:List Nd}{k:Nat}(hx:l[k]? =some N):mxd (l.take (k+1))=N.dep+(if N.kind=1 then 1 else 0):=by
 unfold mxd;rw[Lb hx,List.getLast?_append];rfl
theorem dep_rng(h:Rr N=true):0≤N.dep∧N.dep<8:=by
 unfold Rr Hx rngX at h
 simp only[Bool.and_eq_true,Bool.not_eq_true',Bool.or_eq_false_iff,decide_eq_false_iff_not]at h
 omega
def NFs(l:List Nd):Prop:=∀N∈l,W7 N
def IG(W:World)(g:Nat)(l:List Int)(u:World):Prop:=Cp u g l∧W.heap.size≤g
theorem ig_own{W:World}{l:List Int}:OwnM W g (IG W g l):=fun u h=>by
 obtain⟨⟨es,cl,h1,_⟩,h2⟩:=h
 exact⟨h2,es,cl,h1⟩
theorem scheck_v(hE:ET w)(hp:Cy w y.1 nl K S.nds)(hf:NFs S.nds)(hK:2≤K∧K≤10000000)(hB:G2 S=B):Calls Tryz.prog 17 #[soV S y] w (K3 w (fun z:{z:Int // decide (z=0)=B}×Int=> .tuple #[.int .i64 z.1.1,.int .i64 z.2]) fun _ _=>True):=by
 unfold G2 at hB
 refine K0.enter Tryz.func17 rfl ?_
 refine ZS 4 ?_
 refine K0.joinB Zk 1000 5 12 [13,14,15,16] 17 true (decide (S.w>256)) ((decide (S.w<1))||(decide (S.w>256))) Zk Zk Zk (fun _=>by kernel_rfl) R9 (fun xj1=> ?_)
 refine K0.joinB Zk 1000 5 17 [18,19,20,21] 22 true (decide (S.h<1)) ((decide (S.w<1)||decide (S.w>256))||(decide (S.h<1))) Zk Zk Zk (fun _=>by kernel_rfl) R9 (fun xj2=> ?_)
 refine K0.joinB Zk 1000 4 22 [23,24,25] 26 true (decide (S.h>256)) (((decide (S.w<1)||decide (S.w>256))||decide (S.h<1))||(decide (S.h>256))) Zk Zk Zk (fun _=>by kernel_rfl) R9 (fun xj3=> ?_)
 cases hs:sizeX S
 case true=>
  rw[hs]at hB
  refine ZT 26 (.bool (((decide (S.w<1)||decide (S.w>256))||decide (S.h<1))||decide (S.h>256))) (.bool true) (by rw[←hs];rfl) ?_
  refine ZI true ?_
  refine ZV (.tuple #[.int .i64 6,.int .i64 0]) (fun w1 hw h=>⟨(⟨6,by rw[←hB];rfl⟩,0),rfl,hw,fun _ _ _=>trivial⟩)
 rw[hs,Bool.not_false,Bool.true_and]at hB
 refine ZT 26 (.bool (((decide (S.w<1)||decide (S.w>256))||decide (S.h<1))||decide (S.h>256))) (.bool false) (by rw[←hs];rfl) ?_
 refine ZI false ?_
 cases hm:decide ((S.nds.length:Int)>64)
 case true=>
  rw[hm]at hB
  refine ZJ (decide ((S.nds.length:Int)>64)) true (hm) ?_
  refine ZV (.tuple #[.int .i64 5,.int .i64 64]) (fun w1 hw h=>⟨(⟨5,by rw[←hB];rfl⟩,64),rfl,hw,fun _ _ _=>trivial⟩)
 rw[hm,Bool.not_false,Bool.true_and]at hB
 have hn:S.nds.length≤64:=by have:=of_decide_eq_false hm;omega
 refine ZJ (decide ((S.nds.length:Int)>64)) false (hm) ?_
 refine K0.make (mapS2 98) ((fun g:Nat=> .map (some g))) ((fun g u=>Cp u g []∧w.heap.size≤g)) Zk (fun w1 hw h=>make_ids hw.size) (fun g=> ?_)
 refine ZR ?_
 refine K0.loop (ι:={k:Nat // k≤S.nds.length∧Ei (S.nds.take k) (S.nds.drop k)=B}) 67 (fun k=>⟨[(4,.v (.map (some g))),(5,.v (.int .i64 (mxd (S.nds.take k.1)))),(33,.v (.slice y.1 S.nds.length y.2)),(34,.v (.int .i64 S.nds.length)),(35,.v (.int .i64 k.1))],[]⟩) (fun k u=>IG w g ((S.nds.take k.1).map (·.id)) u) (fun k=>S.nds.length-k.1) (⟨0,Nat.zero_le _,hB⟩) Zk (fun _=>by kernel_rfl) ⟨Zk,Zk,Zk⟩ (fun u h=>h.2) ?_
 rintro⟨k,hk,hall⟩ gg
 have hk:k≤S.nds.length:=hk
 have hall:Ei (S.nds.take k) (S.nds.drop k)=B:=hall
 by_cases hlt:k<S.nds.length
 case neg=>
  refine ZR ?_
  refine ZJ (decide ((k:Int)<(S.nds.length:Int))) false Zp ?_
  refine K0.leave Zk ?_
  refine ZR ?_
  refine ZV (.tuple #[.int .i64 0,.int .i64 0]) (fun w1 hw h=>⟨(⟨0,by rw[←hall,List.drop_of_length_le Zo];rfl⟩,0),rfl,hw,fun _ _ _=>trivial⟩)
 obtain⟨N,hx⟩:∃v,S.nds[k]? =some v:=⟨_,List.getElem?_eq_getElem hlt⟩
 obtain⟨q,hx2,hrd⟩:=hp.get hx
 obtain⟨ad,hA,hc⟩:=hp.row.2 k _ hx2
 have hN:=hf N (List.mem_of_getElem? hx)
 have hst:=nds_step hx hall
 refine ZR ?_
 refine ZJ (decide ((k:Int)<(S.nds.length:Int))) true Zp ?_
 refine ZA (Kc 48 (.slice y.1 S.nds.length y.2) k) (.pointer (some (ad.add (k*47)))) (fun w1 hw h=>run_idxNd hA hlt) ?_
 refine ZA (Kd 47 (ad.add (k*47))) (noV N q) (fun w1 hw h=>run_ldNd fun j v hj=>Kt hw (hc j v hj)) ?_
 cases hv:Rr N
 ·rw[hv,Bool.false_and]at hst
  refine ZC (fun w1 hw h=>check_v (hE.below hw) (hrd.below hw) hN hK hv) fun z=> ?_
  refine ZJ ((z.1 !=0)) true (by have:=of_decide_eq_false z.2;simpa using this) ?_
  refine K0.leave Zk ?_
  refine ZR ?_
  refine ZV (.tuple #[.int .i64 z.1,.int .i64 k]) (fun w1 hw h=>⟨(⟨z.1,by rw[z.2,←hst]⟩,k),rfl,hw,fun _ _ _=>trivial⟩)
 rw[hv,Bool.true_and]at hst
 refine ZC (fun w1 hw h=>check_v (hE.below hw) (hrd.below hw) hN hK hv) fun z=> ?_
 refine ZJ ((z.1 !=0)) false (by have:=of_decide_eq_true z.2;simpa using this) ?_
 refine ZA (lkS 98 (.map (some g)) (.int .i64 N.id)) (.bool (decide (N.id∈(S.nds.take k).map (·.id)))) (fun w1 hw h=>run_lk h.1.1) ?_
 cases hi:decide (N.id∈(S.nds.take k).map (·.id))
 case true=>
  rw[hi]at hst
  refine ZI true ?_
  refine K0.leave Zk ?_
  refine ZR ?_
  refine ZV (.tuple #[.int .i64 7,.int .i64 k]) (fun w1 hw h=>⟨(⟨7,by rw[←hst];rfl⟩,k),rfl,hw,fun _ _ _=>trivial⟩)
 rw[hi,Bool.not_false,Bool.true_and]at hst
 refine ZI false ?_
 cases hd:decide (N.dep>mxd (S.nds.take k))
 case true=>
  rw[hd]at hst
  refine ZJ (decide (N.dep>mxd (S.nds.take k))) true (hd) ?_
  refine K0.leave Zk ?_
  refine ZR ?_
  refine ZV (.tuple #[.int .i64 17,.int .i64 k]) (fun w1 hw h=>⟨(⟨17,by rw[←hst];rfl⟩,k),rfl,hw,fun _ _ _=>trivial⟩)
 rw[hd,Bool.not_false,Bool.true_and]at hst
 refine ZJ (decide (N.dep>mxd (S.nds.take k))) false (hd) ?_
 refine K0.mutM (g:=g) (G:=fun u=>Cp u g ((S.nds.take k).map (·.id)++ [N.id])) (Φ':=IG w g ((S.nds.take k).map (·.id)++ [N.id])) (muS 98 (.map (some g)) (.int .i64 N.id) (.bool true)) (fun w1 hw h=>update_ids (P:=Tryz.prog) (kt:=3) (et:=4) Zk Zk h.1.1 (of_decide_eq_false hi)) (fun u h=>ig_own u h.1) (fun wa u e1 e2 h hG=>⟨hG,h.1.2⟩) Zk Zk ?_
 refine ZR ?_
 have hr:=dep_rng hv
 have hms:mxd (S.nds.take (k+1))=N.dep+(if N.kind=1 then 1 else 0):=mxd_snoc hx
 by_cases k1:N.kind=1
 ·
  refine ZJ ((N.kind==1)) true (beq_iff_eq.2 k1) ?_
  refine K0.slot 35 (.int .i64 (IntKind.i64.wrap ((k:Int)+1))) (.int .i64 ((k+1:Nat):Int)) Zk (by rw[K7 hlt Zo]) ?_
  refine K0.slot 5 (.int .i64 (IntKind.i64.wrap (N.dep+1))) (.int .i64 (mxd (S.nds.take (k+1)))) Zk (by rw[hms,if_pos k1,IntWalk.i64_in _ Zo]) ?_
  refine K0.next (⟨k+1,by show k+1≤S.nds.length;omega,hst⟩) Zk (by show S.nds.length- (k+1)<S.nds.length-k;omega) ⟨Zk,Zk,Zk⟩ (fun u h=>by show IG w g ((S.nds.take (k+1)).map (·.id)) u;rw[Lb hx,List.map_append];exact h)
 ·
  refine ZJ ((N.kind==1)) false (beq_eq_false_iff_ne.2 k1) ?_
  refine K0.slot 35 (.int .i64 (IntKind.i64.wrap ((k:Int)+1))) (.int .i64 ((k+1:Nat):Int)) Zk (by rw[K7 hlt Zo]) ?_
  refine K0.slot 5 (.int .i64 N.dep) (.int .i64 (mxd (S.nds.take (k+1)))) Zk (by rw[hms,if_neg k1,Int.add_zero]) ?_
  refine K0.next (⟨k+1,by show k+1≤S.nds.length;omega,hst⟩) Zk (by show S.nds.length- (k+1)<S.nds.length-k;omega) ⟨Zk,Zk,Zk⟩ (fun u h=>by show IG w g ((S.nds.take (k+1)).map (·.id)) u;rw[Lb hx,List.map_append];exact h)
theorem V2(hE:ET w)(hp:Cy w y.1 nl K S.nds)(hf:NFs S.nds)(hK:2≤K∧K≤10000000)(hB:G2 S=B):Calls Tryz.prog 5 #[soV S y] w (K3 w (fun _:Unit=> .bool B) fun _ _=>True):=by
 refine K0.enter Tryz.func5 rfl ?_
 refine ZR ?_
 refine ZC (fun w1 hw h=>scheck_v (hE.below hw) (hp.below hw) hf hK hB) fun z=> ?_
 exact ZX (.bool (z.1.1==0)) (congrArg (fun b=>Ending.returned (Value.bool b)) z.1.2)
end
end Go.Proofs.YtpgkbllcnphmbaaGreatDoor
