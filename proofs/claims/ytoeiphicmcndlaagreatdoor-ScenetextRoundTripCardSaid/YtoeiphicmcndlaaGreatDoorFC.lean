/-
 Nodes and scenes: the program's checks.
-/
import Derived.Test.YtoeiphicmcndlaaGreatDoorZA
import Derived.Test.YtoeiphicmcndlaaGreatDoorFA
namespace Go.Proofs.YtoeiphicmcndlaaGreatDoor
set_option maxRecDepth 100000
set_option maxHeartbeats 8000000
set_option linter.unusedVariables false
set_option linter.unusedSimpArgs false
open Go.RowKit
structure Jt where
 w:Int
 j:Int
 c:Int
 m:Int
 d:List Int
 p:Int
structure Nd where
 id:Int
 kind:Int
 dep:Int
 T:Y0
 clip:List Sg
 crule:Int
 op:UInt8
 bl:Int
 iso:Bool
 ko:Bool
 path:List Sg
 frule:Int
 fill:List Pn
 sty:Jt
 stroke:List Pn
 im:Im
 samp:Int
structure ND where
 t:TV
 clA:Option Addr
 clc:Nat
 paA:Option Addr
 pac:Nat
 fiA:Option Addr
 fic:Nat
 fl:List (Pn×PM)
 daA:Option Addr
 dac:Nat
 stA:Option Addr
 stc:Nat
 sl:List (Pn×PM)
 pxA:Option Addr
 pxc:Nat
def X9(N:Nd)(q:ND):List Value:=[Zi N.id,Zi N.kind,Zi N.dep]++(q.t.cl++ [.slice q.clA N.clip.length q.clc,Zi N.crule,.int .u8 (N.op.toNat:Int),Zi N.bl,.bool N.iso,.bool N.ko,.slice q.paA N.path.length q.pac,Zi N.frule,.slice q.fiA N.fill.length q.fic,Zi N.sty.w,Zi N.sty.j,Zi N.sty.c,Zi N.sty.m,.slice q.daA N.sty.d.length q.dac,Zi N.sty.p,.slice q.stA N.stroke.length q.stc,Zi N.im.w,Zi N.im.h,.slice q.pxA N.im.px.length q.pxc,Zi N.samp])
@[reducible] def Gv(N:Nd)(q:ND):Value:= .agg (X9 N q).toArray
@[reducible] def styV(S:Jt)(y:Option Addr×Nat):Value:= .agg #[Zi S.w,Zi S.j,Zi S.c,Zi S.m,.slice y.1 S.d.length y.2,Zi S.p]
def pC2(x:Pn×PM):List Value:=pnC x.1 x.2
def daC(z:Int):List Value:=[Zi z]
structure Vw(w:World)(A:Option Addr)(l:List (Pn×PM))(K:Nat)(Ps:List Pn):Prop where
 eq:l.map (·.1)=Ps
 row:Ma w A Ps.length 40 pC2 l
 rd:∀x∈l,Db x.1 x.2 K w
structure Jv(N:Nd)(q:ND)(K:Nat)(w:World):Prop where
 tr:Ag q.t N.T K w
 cl:Qt w q.clA N.clip.length N.clip
 pa:Qt w q.paA N.path.length N.path
 fi:Vw w q.fiA q.fl K N.fill
 da:Ma w q.daA N.sty.d.length 1 daC N.sty.d
 st:Vw w q.stA q.sl K N.stroke
 px:Ma w q.pxA N.im.px.length 4 Oa N.im.px
structure Hx(N:Nd):Prop where
 cl:N.clip.length≤1000000
 pa:N.path.length≤1000000
 da:N.sty.d.length≤1000000
 px:N.im.px.length≤20000
 fi:∀P∈N.fill,P.im.px.length≤20000∧P.stops.length≤1000000
 st:∀P∈N.stroke,P.im.px.length≤20000∧P.stops.length≤1000000
 fn:N.fill.length≤1000000
 sn:N.stroke.length≤1000000
section
variable{w w1:World}{A:Option Addr}{l:List (Pn×PM)}{K:Nat}{Ps:List Pn}{N:Nd}{q:ND}
theorem Vw.below(h:Vw w A l K Ps)(hw:Below w.heap.size w w1):Vw w1 A l K Ps:=⟨h.eq,h.row.below hw,fun x hx=>(h.rd x hx).below hw⟩
theorem Jv.below(h:Jv N q K w)(hw:Below w.heap.size w w1):Jv N q K w1:=⟨h.tr.below hw,h.cl.below hw,h.pa.below hw,h.fi.below hw,h.da.below hw,h.st.below hw,h.px.below hw⟩
theorem Vw.get{k:Nat}{P:Pn}(h:Vw w A l K Ps)(hP:Ps[k]? =some P):∃q:PM,l[k]? =some (P,q)∧Db P q K w:=by
 rw[←h.eq,List.getElem?_map]at hP
 obtain⟨x,hx,rfl⟩:=Option.map_eq_some_iff.1 hP
 exact⟨x.2,hx,h.rd x (List.mem_of_getElem? hx)⟩
end
def R4(n:Int):Bool:=(n==1)||(n==2)
def Dq(z:Int):Bool:=decide (z<0)||decide (z>1048576)
def Qx(n:Nat)(l:List Int):Bool:=((n:Int)==0)||l.any fun z=>decide (z>0)
def Ra(l:List Int):Bool:=(!l.any Dq)&&((Qx l.length l&&(Int.tmod (l.length:Int) 2==0))&&decide ((l.length:Int)≤16))
def Zz(n:Int):Bool:=decide (n≥1)&&decide (n≤16384)
def P6(S:Jt):Bool:=((((((Zz S.w&&(((S.j==1)||(S.j==2))||(S.j==3)))&&(((S.c==3)||(S.c==4))||(S.c==5)))&&decide (S.m≥256))&&decide (S.m≤65536))&&Ra S.d)&&decide (S.p≥0))&&decide (S.p≤1048576)
def Ow(S:Jt):Bool:=(((((S.w==0)&&(S.j==0))&&(S.c==0))&&(S.m==0))&&(S.p==0))&&decide (S.d.length=0)
def Ee(N:Nd):Bool:=((((N.op.toNat:Int)==0)&&(N.bl==0))&& !N.iso)&& !N.ko
def Ui(N:Nd):Bool:=((((N.path.length:Int)==0)&&(N.frule==0))&&((N.fill.length:Int)==0))&&((N.stroke.length:Int)==0)
def Xw(N:Nd):Bool:=decide (N.im.w=0∧N.im.h=0∧N.im.px=[])&&(N.samp==0)
def T6(N:Nd):Bool:=if N.kind=1 then(Ui N&&Ow N.sty)&&Xw N else if N.kind=2 then Ee N&&Xw N else Ee N&&(Ui N&&Ow N.sty)
def Qe(N:Nd):Bool:=if N.clip.length=0 then(N.crule==0)else R4 N.crule
def Id(N:Nd):Bool:=decide ((N.fill.length:Int)>1)||decide ((N.stroke.length:Int)>1)
def penB(N:Nd):Bool:=if N.stroke.length=0 then Ow N.sty else P6 N.sty
def V4(N:Nd):Bool:=Pt N.path&&(R4 N.frule&&(!Id N&&(penB N&&(N.fill.all Ku&&N.stroke.all Ku))))
def Xc(n:Int):Bool:=decide (n≥1)&&decide (n≤13)
def ownB(N:Nd):Bool:=if N.kind=1 then Xc N.bl else if N.kind=2 then V4 N else Xy N.im&& !((N.samp !=1)&&(N.samp !=2))
def Ig(N:Nd):Bool:=decide (N.kind<1)||decide (N.kind>3)
def rngX(N:Nd):Bool:=((decide (N.id<1)||decide (N.id>1073741824))||decide (N.dep<0))||decide (N.dep≥8)
def commB(N:Nd):Bool:= !Ig N&&(!rngX N&&(N.T.ok&&(decide (N.T.det≠0)&&(Pt N.clip&&(Qe N&&T6 N)))))
def Lm(N:Nd):Bool:=commB N&&ownB N
structure Sc where
 w:Int
 h:Int
 bg:Co
 nds:List Nd
def mxd(pre:List Nd):Int:=match pre.getLast? with
 |none=>0
 |some y=>y.dep+(if y.kind=1 then 1 else 0)
def Ab(pre:List Nd):List Nd→Bool
 | []=>true
 |x::r=>Lm x&&(!decide (x.id∈pre.map (·.id))&&(!decide (x.dep>mxd pre)&&Ab (pre++ [x]) r))
def I5(S:Sc):Bool:=((decide (S.w<1)||decide (S.w>256))||decide (S.h<1))||decide (S.h>256)
def Ai(S:Sc):Bool:= !I5 S&&(!decide ((S.nds.length:Int)>64)&&Ab [] S.nds)
structure Ut(w:World)(A:Option Addr)(l:List (Nd×ND))(K:Nat)(Ns:List Nd):Prop where
 eq:l.map (·.1)=Ns
 row:Ma w A Ns.length 47 (fun x=>X9 x.1 x.2) l
 rd:∀x∈l,Jv x.1 x.2 K w
section
variable{w w1:World}{A:Option Addr}{l:List (Nd×ND)}{K:Nat}{Ns:List Nd}
theorem Ut.below(h:Ut w A l K Ns)(hw:Below w.heap.size w w1):Ut w1 A l K Ns:=⟨h.eq,h.row.below hw,fun x hx=>(h.rd x hx).below hw⟩
theorem Ut.get{k:Nat}{N:Nd}(h:Ut w A l K Ns)(hN:Ns[k]? =some N):∃q:ND,l[k]? =some (N,q)∧Jv N q K w:=by
 rw[←h.eq,List.getElem?_map]at hN
 obtain⟨x,hx,rfl⟩:=Option.map_eq_some_iff.1 hN
 exact⟨x.2,hx,h.rd x (List.mem_of_getElem? hx)⟩
end
section
variable{w:World}{A:Option Addr}{n c g:Nat}{x:Int}{B:Bool}{N:Nd}{q:ND}{K:Nat}{S:Jt}{y:Option Addr×Nat}{l:List Int}
def wh(b:Bool)(z:Int):Value:=if b then .iface 169 (.agg #[Zi z,.nilIface])else .nilIface
def wh2(z:Int):Value:= .iface 169 (.agg #[Zi 0,wh true z])
def Hi:List (Bool×Int)→Value
 | []=> .nilIface
 |v::r=>if v.1 then wh2 v.2 else Hi r
theorem Rh{b:Bool}{z:Int}:Zv 162 #[.bool b,Zi z] w (wh b z):=by
 cases b
 ·exact K0.enter Tryz.func162 rfl <| ZR <| ZI true <| ZW (wh false z)
 ·exact K0.enter Tryz.func162 rfl <| ZR <| ZI false <| ZW (wh true z)
theorem fst_hit{vs:List (Bool×Int)}{k:Nat}{z:Int}(hx:vs[k]? =some (true,z))(h:(vs.take k).all (fun v=> !v.1)=true):Hi vs=wh2 z:=by
 induction vs generalizing k with
 |nil=>simp at hx
 | cons v r ih=>
  cases k with
  |zero=>simp only[List.getElem?_cons_zero,Option.some.injEq]at hx;subst hx;rfl
  |succ k=>
   simp only[List.take_succ_cons,List.all_cons,Bool.and_eq_true]at h
   simp only[List.getElem?_cons_succ]at hx
   have h1:v.1=false:=by simpa using h.1
   unfold Hi
   rw[h1]
   exact ih hx h.2
theorem fst_none{vs:List (Bool×Int)}(h:vs.all (fun v=> !v.1)=true):Hi vs= .nilIface:=by
 induction vs with
 |nil=>rfl
 |cons v r ih=>
  simp only[List.all_cons,Bool.and_eq_true]at h
  have h1:v.1=false:=by simpa using h.1
  unfold Hi
  rw[h1]
  exact ih h.2
theorem first_v{vs:List (Bool×Int)}(hg:L4 97 (vs.map fun v=>wh v.1 v.2).toArray g w)(hl:vs.length=n)(hn:n≤1000):Zv 161 #[Kf n g] w (Hi vs):=by
 have hb:K5 w g (vs.map fun v=>wh v.1 v.2):=⟨_,hg⟩
 refine K0.enter Tryz.func161 rfl <| ZR <| K0.loop (ι:={k:Nat // k≤n∧(vs.take k).all (fun v=> !v.1)=true}) 17 (fun k=>⟨[(0,.v (Kf n g)),(5,.v (Kf n g)),(6,.v (Zi n)),(7,.v (Zi k.1))],[]⟩) (fun k u=>True) (fun k=>n-k.1) (⟨0,Nat.zero_le _,rfl⟩) Zk (fun _=>by kernel_rfl) ⟨Zk,Zk,Zk⟩ (fun u h=>trivial) ?_
 rintro⟨k,hk,hall⟩ gg
 have hk:k≤n:=hk
 have hall:(vs.take k).all (fun v=> !v.1)=true:=hall
 by_cases hlt:k<n
 case neg=>
  obtain rfl:k=n:=by omega
  rw[List.take_of_length_le Zo]at hall
  exact ZR <| ZJ (decide ((k:Int)<(k:Int))) false Zs <| K0.leave Zk <| ZR <| ZX (.nilIface) (by rw[fst_none hall])
 obtain⟨⟨b,z⟩,hx⟩:∃v,vs[k]? =some v:=⟨_,List.getElem?_eq_getElem Zo⟩
 have hcell:(vs.map fun v=>wh v.1 v.2)[k]? =some (wh b z):=by rw[List.getElem?_map,hx];rfl
 refine ZR <| ZJ (decide ((k:Int)<(n:Int))) true Zp <| ZA (Kj 259 (Kf n g) k) (.pointer (some ((⟨g,0,none⟩:Addr).add k))) (fun w1 hw h=>Kn (elem:=97) Zk Zk hlt) ?_
 cases b
 ·refine ZA (L5 97 ((⟨g,0,none⟩:Addr).add k)) (wh false z) (fun w1 hw h=>K8 Zk (by rw[Addr.add_mid,Nat.zero_add];simpa using(hb.below hw).range k _ hcell)) <| ZI false <| K0.slot 7 (Zi (IntKind.i64.wrap ((k:Int)+1))) (Zi ((k+1:Nat):Int)) Zk (by rw[Kd hlt Zo]) <| K0.next (⟨k+1,by show k+1≤n;omega,by rw[U5 hx hall];rfl⟩) Zk (by show n- (k+1)<n-k;omega) ⟨Zk,Zk,Zk⟩ (fun u h=>trivial)
 ·exact ZA (L5 97 ((⟨g,0,none⟩:Addr).add k)) (wh true z) (fun w1 hw h=>K8 Zk (by rw[Addr.add_mid,Nat.zero_add];simpa using(hb.below hw).range k _ hcell)) <| ZI true <| K0.leave Zk <| ZR <| ZX (wh2 z) (by rw[fst_hit hx hall])
theorem rule_v:Zv 160 #[Zi x] w (.bool (R4 x)):=by
 exact K0.enter Tryz.func160 rfl <| ZS 3 <| K0.joinB Zk 1000 4 5 [6,7,8] 2 true (x==2) ((x==1)||(x==2)) Zk Zk Zk (fun _=>by kernel_rfl) On fun xj1=>ZR <| ZW (.bool (R4 x))
theorem wide_v:Zv 258 #[Zi x] w (.bool (Zz x)):=by
 exact K0.enter Tryz.func258 rfl <| ZS 3 <| K0.joinB Zk 1000 4 5 [6,7,8] 2 (decide (x≤16384)) false ((decide (x≥1))&&(decide (x≤16384))) Zk Zk Zk (fun _=>by kernel_rfl) Li fun xj2=>ZR <| ZW (.bool (Zz x))
theorem mode_v:Zv 113 #[Zi x] w (.bool (Xc x)):=by
 exact K0.enter Tryz.func113 rfl <| ZS 3 <| K0.joinB Zk 1000 4 5 [6,7,8] 2 (decide (x≤13)) false ((decide (x≥1))&&(decide (x≤13))) Zk Zk Zk (fun _=>by kernel_rfl) Li fun xj3=>ZR <| ZW (.bool (Xc x))
theorem eqnil_da(hB:decide (n=0)=B):Zv 257 #[.slice A n c,.slice none 0 0] w (.bool B):=by
 by_cases h0:n=0
 ·subst h0
  exact K0.enter Tryz.func257 rfl <| ZR <| ZI false <| K0.un Zk <| ZR <| ZI false <| ZX (.bool true) (by rw[←hB];rfl)
 ·exact K0.enter Tryz.func257 rfl <| ZR <| ZJ (((n:Int) !=0)) true (by simpa using h0) <| ZX Zf (by rw[←hB,decide_eq_false h0])
theorem samePen_v:Zv 214 #[styV S y,.agg #[Zi 0,Zi 0,Zi 0,Zi 0,.slice none 0 0,Zi 0]] w (.bool (Ow S)):=by
 exact K0.enter Tryz.func214 rfl <| ZS 6 <| K0.joinB Zk 1000 7 10 [11,12,13,14,15,16] 17 (S.j==0) false ((S.w==0)&&(S.j==0)) Zk Zk Zk (fun _=>by kernel_rfl) Li fun xj4=>K0.joinB Zk 1000 7 17 [18,19,20,21,22,23] 24 (S.c==0) false (((S.w==0)&&(S.j==0))&&(S.c==0)) Zk Zk Zk (fun _=>by kernel_rfl) Li fun xj5=>K0.joinB Zk 1000 7 24 [25,26,27,28,29,30] 31 (S.m==0) false ((((S.w==0)&&(S.j==0))&&(S.c==0))&&(S.m==0)) Zk Zk Zk (fun _=>by kernel_rfl) Li fun xj6=>K0.joinB Zk 1000 7 31 [32,33,34,35,36,37] 38 (S.p==0) false (((((S.w==0)&&(S.j==0))&&(S.c==0))&&(S.m==0))&&(S.p==0)) Zk Zk Zk (fun _=>by kernel_rfl) Li fun xj7=>K0.joinC Zk true 1000 1000 1000 38 [39,40,41,42,43,44] 4 false (decide (S.d.length=0)) (decide (S.d.length=0)) ((((((S.w==0)&&(S.j==0))&&(S.c==0))&&(S.m==0))&&(S.p==0))&&(decide (S.d.length=0))) Zk (fun w1 hw h=>eqnil_da (A:=y.1) (c:=y.2) rfl) Zk Zk Zk (fun _=>by kernel_rfl) P5 fun xj8 Φxj8 hixj8=>ZR <| ZW (.bool (Ow S))
end
section
variable{w:World}{A:Option Addr}{n c g:Nat}{x:Int}{B:Bool}{N:Nd}{q:ND}{K:Nat}{S:Jt}{y:Option Addr×Nat}{l:List Int}{Ps:List Pn}{ql:List (Pn×PM)}
theorem Vj{α:Type}{p:α→Bool}{l:List α}{k:Nat}{x:α}(hx:l[k]? =some x):(l.take (k+1)).any p=((l.take k).any p||p x):=by
 rw[List.take_add_one,hx];simp
theorem any_hit{α:Type}{p:α→Bool}{l:List α}{k:Nat}{x:α}(hx:l[k]? =some x)(h:p x=true):l.any p=true:=
 List.any_eq_true.2 ⟨x,List.mem_of_getElem? hx,h⟩
theorem dashes_v(hd:Ma w A n 1 daC l)(hn:n≤1000000000):Zv 259 #[.slice A n c] w (.bool (Ra l)):=by
 have hdn:=hd.1
 refine K0.enter Tryz.func259 rfl <| ZR <| K0.slot 3 (.bool ((n:Int)==0)) (.bool (Qx n (l.take 0))) Zk (by simp[Qx]) <| K0.loop (ι:={k:Nat // k≤n∧(l.take k).any Dq=false}) 39 (fun k=>⟨[(0,.v (.slice A n c)),(3,.v (.bool (Qx n (l.take k.1)))),(9,.v (.slice A n c)),(10,.v (Zi n)),(11,.v (Zi k.1))],[]⟩) (fun k u=>True) (fun k=>n-k.1) (⟨0,Nat.zero_le _,rfl⟩) Zk (fun _=>by kernel_rfl) ⟨Zk,Zk,Zk⟩ (fun u h=>trivial) ?_
 rintro⟨k,hk,hall⟩ gg
 have hk:k≤n:=hk
 have hall:(l.take k).any Dq=false:=hall
 by_cases hlt:k<n
 case neg=>
  obtain rfl:k=n:=by omega
  exact ZR <| ZJ (decide ((k:Int)<(k:Int))) false Zs <| K0.leave Zk <| ZS 2 <| K0.joinB Zk 1000 6 28 [29,30,31,32,33] 34 (Int.tmod (k:Int) 2==0) false ((Qx k (l.take k))&&(Int.tmod (k:Int) 2==0)) Zk Zk Zk (fun _=>by kernel_rfl) Li fun xj1=>K0.joinB Zk 1000 5 34 [35,36,37,38] 2 (decide ((k:Int)≤16)) false ((Qx k (l.take k)&&(Int.tmod (k:Int) 2==0))&&(decide ((k:Int)≤16))) Zk Zk Zk (fun _=>by kernel_rfl) Li fun xj2=>ZR <| ZX (.bool ((Qx k (l.take k)&&(Int.tmod (k:Int) 2==0))&&decide ((k:Int)≤16))) (by unfold Ra;rw[List.take_of_length_le Zo]at hall ⊢;rw[hall,hdn];rfl)
 obtain⟨z,hx⟩:∃v,l[k]? =some v:=⟨_,List.getElem?_eq_getElem Zo⟩
 obtain⟨ad,hA,hc⟩:=hd.2 k z hx
 refine ZR <| ZJ (decide ((k:Int)<(n:Int))) true Zp <| ZA (Kj 45 (.slice A n c) k) (.pointer (some (ad.add k))) (fun w1 hw h=>by rw[hA];exact Kn (elem:=3) Zk Zk hlt) <| K0.ask (L5 3 (ad.add k)) (Zi z) Zk (fun w1 hw h=>K8 Zk (by have:=Lc hw (hc 0 (Zi z) rfl);rw[Ei,Nat.mul_one,Nat.add_zero]at this;exact this)) <| ZS 3 <| K0.joinB Zk 1000 3 17 [18,19] 20 true (decide (z>1048576)) ((decide (z<0))||(decide (z>1048576))) Zk Zk Zk (fun _=>by kernel_rfl) On (fun xj3=> ?_)
 cases hb:Dq z
 ·refine K0.slot 20 (.bool (decide (z<0)||decide (z>1048576))) (.bool false) Zk (by rw[←hb];rfl) <| ZS 2 <| K0.cond false Zk <| ZS 2 <| K0.joinB Zk 1000 4 22 [23,24,25] 3 true (decide (z>0)) ((Qx n (l.take k))||(decide (z>0))) Zk Zk Zk (fun _=>by kernel_rfl) On fun xj4=>ZR <| K0.slot 11 (Zi (IntKind.i64.wrap ((k:Int)+1))) (Zi ((k+1:Nat):Int)) Zk (by rw[Kd hlt Zo]) <| K0.slot 3 (.bool (Qx n (l.take k)||decide (z>0))) (.bool (Qx n (l.take (k+1)))) Zk (by unfold Qx;rw[Vj hx,Bool.or_assoc]) <| K0.next (⟨k+1,by show k+1≤n;omega,by rw[Vj hx,hall,hb];rfl⟩) Zk (by show n- (k+1)<n-k;omega) ⟨Zk,Zk,Zk⟩ (fun u h=>trivial)
 ·exact ZT 20 (.bool (decide (z<0)||decide (z>1048576))) (.bool true) (by rw[←hb];rfl) <| ZI true <| K0.leave Zk <| ZR <| ZX (.bool false) (by unfold Ra;rw[any_hit hx hb];rfl)
theorem style_v(hd:Ma w y.1 S.d.length 1 daC S.d)(hn:S.d.length≤1000000000):Zv 215 #[styV S y] w (.bool (P6 S)):=by
 exact K0.enter Tryz.func215 rfl <| ZS 4 <| K0.joinB Zk 1000 5 8 [9,10,11,12] 13 true (S.j==2) ((S.j==1)||(S.j==2)) Zk Zk Zk (fun _=>by kernel_rfl) On fun xj5=>K0.joinB Zk 1000 5 13 [14,15,16,17] 3 true (S.j==3) (((S.j==1)||(S.j==2))||(S.j==3)) Zk Zk Zk (fun _=>by kernel_rfl) On fun xj6=>ZS 4 <| K0.joinB Zk 1000 5 21 [22,23,24,25] 26 true (S.c==4) ((S.c==3)||(S.c==4)) Zk Zk Zk (fun _=>by kernel_rfl) On fun xj7=>K0.joinB Zk 1000 5 26 [27,28,29,30] 4 true (S.c==5) (((S.c==3)||(S.c==4))||(S.c==5)) Zk Zk Zk (fun _=>by kernel_rfl) On fun xj8=>ZR <| ZD 4 (fun w1 hw h=>wide_v (x:=S.w)) fun u=>K0.joinB Zk 1000 3 34 [35,36] 37 (((S.j==1)||(S.j==2))||(S.j==3)) false ((Zz S.w)&&(((S.j==1)||(S.j==2))||(S.j==3))) Zk Zk Zk (fun _=>by kernel_rfl) Li fun xj9=>K0.joinB Zk 1000 3 37 [38,39] 40 (((S.c==3)||(S.c==4))||(S.c==5)) false ((Zz S.w&&(((S.j==1)||(S.j==2))||(S.j==3)))&&(((S.c==3)||(S.c==4))||(S.c==5))) Zk Zk Zk (fun _=>by kernel_rfl) Li fun xj10=>K0.joinB Zk 1000 5 40 [41,42,43,44] 45 (decide (S.m≥256)) false (((Zz S.w&&(((S.j==1)||(S.j==2))||(S.j==3)))&&(((S.c==3)||(S.c==4))||(S.c==5)))&&(decide (S.m≥256))) Zk Zk Zk (fun _=>by kernel_rfl) Li fun xj11=>K0.joinB Zk 1000 5 45 [46,47,48,49] 50 (decide (S.m≤65536)) false ((((Zz S.w&&(((S.j==1)||(S.j==2))||(S.j==3)))&&(((S.c==3)||(S.c==4))||(S.c==5)))&&decide (S.m≥256))&&(decide (S.m≤65536))) Zk Zk Zk (fun _=>by kernel_rfl) Li fun xj12=>K0.joinC Zk true 1000 5 2 50 [51,52,53,54] 55 false (Ra S.d) (Ra S.d) (((((Zz S.w&&(((S.j==1)||(S.j==2))||(S.j==3)))&&(((S.c==3)||(S.c==4))||(S.c==5)))&&decide (S.m≥256))&&decide (S.m≤65536))&&(Ra S.d)) Zk (fun w1 hw h=>dashes_v (c:=y.2) (hd.below hw) hn) Zk Zk Zk (fun _=>by kernel_rfl) P5 fun xj13 Φxj13 hixj13=>K0.joinB Zk 1000 5 55 [56,57,58,59] 60 (decide (S.p≥0)) false ((((((Zz S.w&&(((S.j==1)||(S.j==2))||(S.j==3)))&&(((S.c==3)||(S.c==4))||(S.c==5)))&&decide (S.m≥256))&&decide (S.m≤65536))&&Ra S.d)&&(decide (S.p≥0))) Zk Zk Zk (fun _=>by kernel_rfl) Li fun xj14=>K0.joinB Zk 1000 5 60 [61,62,63,64] 2 (decide (S.p≤1048576)) false (((((((Zz S.w&&(((S.j==1)||(S.j==2))||(S.j==3)))&&(((S.c==3)||(S.c==4))||(S.c==5)))&&decide (S.m≥256))&&decide (S.m≤65536))&&Ra S.d)&&decide (S.p≥0))&&(decide (S.p≤1048576))) Zk Zk Zk (fun _=>by kernel_rfl) Li fun xj15=>ZR <| ZW (.bool (P6 S))
end
section
variable{w:World}{A:Option Addr}{n c g:Nat}{x:Int}{B:Bool}{N:Nd}{q:ND}{K:Nat}{S:Jt}{y:Option Addr×Nat}{l:List Int}{Ps:List Pn}{ql:List (Pn×PM)}{T:Y0}{t:TV}
def Few(P:Pn):Prop:=P.im.px.length≤20000∧P.stops.length≤1000000
theorem may1_v{P:Pn}{p:PM}(hB:Ku P=B)(hp:Db P p K w)(hl:P.im.px.length≤1000000000)(hK:2≤K∧K≤10000000):Zv 261 #[.agg (pC2 (P,p)).toArray] w (.bool (!B)):=by
 exact K0.enter Tryz.func261 rfl <| ZR <| ZC (fun w1 hw h=>pvalid_v hB (hp.below hw) hl hK) fun u=>ZW (.bool (!B))
theorem U1{k:Nat}{ad:Addr}(hA:A=some ad)(hk:k<n):(Kj 44 (.slice A n c) k).run Tryz.prog w= .ok (.value (.pointer (some (ad.add (k*40))))) w:=by
 rw[hA];exact Yc (elem:=60) Zk Zk hk
theorem Vy{P:Pn}{p:PM}{ad:Addr}(h:∀(j:Nat) (v:Value),(pC2 (P,p))[j]? =some v→w.cell? (ad.add j)=some v):(L5 60 ad).run Tryz.prog w= .ok (.value (.agg (pC2 (P,p)).toArray)) w:=
 F7 Zk Zk h
theorem indexP_v(hB:Ps.all Ku=B)(hp:Vw w A ql K Ps)(hn:Ps.length=n)(hn2:n≤1000000000)(hl:∀P∈Ps,Few P)(hK:2≤K∧K≤10000000):Calls Tryz.prog 280 #[.slice A n c,.func (.func 261) #[] #[]] w (K7 w (fun r:{r:Int // decide (r≥0)= !B}=>Zi r.1) fun _ _=>True):=by
 refine K0.enter Tryz.func280 rfl <| ZR <| K0.loop (ι:={q:Nat // q≤n∧(Ps.take q).all Ku=true}) 19 (fun q=>⟨[(0,.v (.slice A n c)),(1,.v (.func (.func 261) #[] #[])),(7,.v (Zi n)),(8,.v (Zi q.1))],[]⟩) (fun q u=>True) (fun q=>n-q.1) (⟨0,Nat.zero_le _,rfl⟩) Zk (fun _=>by kernel_rfl) ⟨Zk,Zk,Zk⟩ (fun u h=>trivial) ?_
 rintro⟨k,hk,hall⟩ gg
 have hk:k≤n:=hk
 have hall:(Ps.take k).all Ku=true:=hall
 by_cases hlt:k<n
 case neg=>
  obtain rfl:k=n:=by omega
  rw[List.take_of_length_le Zo]at hall
  refine ZR <| ZJ (decide ((k:Int)<(k:Int))) false Zs <| K0.leave Zk <| ZR <| ZV (Zi (-1)) (fun w1 hw h=>⟨⟨-1,by rw[←hB,hall];rfl⟩,rfl,hw,fun _ _ _=>trivial⟩)
 obtain⟨P,hx⟩:∃x,Ps[k]? =some x:=⟨_,List.getElem?_eq_getElem Zo⟩
 obtain⟨p,hx2,hrd⟩:=hp.get hx
 obtain⟨ad,hA,hc⟩:=hp.row.2 k _ hx2
 have hf:=hl P (List.mem_of_getElem? hx)
 refine ZR <| ZJ (decide ((k:Int)<(n:Int))) true Zp <| ZA (Kj 44 (.slice A n c) k) (.pointer (some (ad.add (k*40)))) (fun w1 hw h=>U1 hA hlt) <| ZA (L5 60 (ad.add (k*40))) (.agg (pC2 (P,p)).toArray) (fun w1 hw h=>Vy fun j v hj=>Lc hw (hc j v hj)) ?_
 cases hb:Ku P
 ·refine ZC (fun w1 hw h=>may1_v hb (hrd.below hw) (by have:=hf.1;omega) hK) fun u=>ZI true <| K0.leave Zk <| ZR <| ZV (Zi (k:Int)) (fun w1 hw h=>⟨⟨k,by rw[←hB,Zx hx hb];simp⟩,rfl,hw,fun _ _ _=>trivial⟩)
 ·refine ZC (fun w1 hw h=>may1_v hb (hrd.below hw) (by have:=hf.1;omega) hK) fun u=>ZI false <| K0.slot 8 (Zi (IntKind.i64.wrap ((k:Int)+1))) (Zi ((k+1:Nat):Int)) Zk (by rw[Kd hlt Zo]) <| K0.next (⟨k+1,by show k+1≤n;omega,by rw[U5 hx hall,hb]⟩) Zk (by show n- (k+1)<n-k;omega) ⟨Zk,Zk,Zk⟩ (fun u h=>trivial)
theorem containsP_v(hB:Ps.all Ku=B)(hp:Vw w A ql K Ps)(hn:Ps.length=n)(hn2:n≤1000000000)(hl:∀P∈Ps,Few P)(hK:2≤K∧K≤10000000):Zv 260 #[.slice A n c,.func (.func 261) #[] #[]] w (.bool (!B)):=by
 exact K0.enter Tryz.func260 rfl <| ZR <| ZC (fun w1 hw h=>indexP_v (c:=c) hB (hp.below hw) hn hn2 hl hK) fun u=>ZX (.bool (decide (u.1≥0))) (by rw[u.2])
theorem mayP_v(hB:Ps.all Ku=B)(hp:Vw w A ql K Ps)(hn:Ps.length=n)(hn2:n≤1000000000)(hl:∀P∈Ps,Few P)(hK:2≤K∧K≤10000000):Zv 216 #[.slice A n c] w (.bool B):=by
 exact K0.enter Tryz.func216 rfl <| ZR <| ZC (fun w1 hw h=>containsP_v (c:=c) hB (hp.below hw) hn hn2 hl hK) fun u=>ZX (.bool (!!B)) (by rw[Bool.not_not])
theorem cmp_eq0{r:Rat}:(Sw r ((0:Int):Rat)==0)=decide (r=0):=by
 have:=Xf (r:=r)
 by_cases h:r=0
 ·rw[decide_eq_true h];rw[decide_eq_false (by simpa using h)]at this;simpa using this
 ·rw[decide_eq_false h];rw[decide_eq_true h]at this;simpa using this
theorem zero_v(ht:Ag t T K w)(hK:2≤K∧K≤10000000):Zv 163 #[t.val] w (.bool (decide (T.det=0))):=by
 exact K0.enter Tryz.func163 rfl <| ZR <| ZC (fun w1 hw h=>Eg (ht.below hw) hK) fun d=>ZC (fun w1 hw h=>qfromInt_m 0 w1 Zd Zd) fun z=>ZC (fun w1 hw h=>Bj h.1.2.q h.2.q Zo) fun v=>ZX (.bool (Sw T.det ((0:Int):Rat)==0)) (by rw[cmp_eq0])
theorem bare_v:Zv 164 #[Gv N q] w (.bool (T6 N)):=by
 refine K0.enter Tryz.func164 rfl <| ZS 4 <| K0.joinB Zk 1000 5 9 [10,11,12,13] 14 (N.bl==0) false (((N.op.toNat:Int)==0)&&(N.bl==0)) Zk Zk Zk (fun _=>by kernel_rfl) Li fun xj1=>K0.joinB Zk 1000 5 14 [15,16,17,18] 19 (!N.iso) false ((((N.op.toNat:Int)==0)&&(N.bl==0))&&(!N.iso)) Zk Zk Zk (fun _=>by kernel_rfl) Li fun xj2=>K0.joinB Zk 1000 5 19 [20,21,22,23] 3 (!N.ko) false (((((N.op.toNat:Int)==0)&&(N.bl==0))&& !N.iso)&&(!N.ko)) Zk Zk Zk (fun _=>by kernel_rfl) Li fun xj3=>ZS 5 <| K0.joinB Zk 1000 5 28 [29,30,31,32] 33 (N.frule==0) false (((N.path.length:Int)==0)&&(N.frule==0)) Zk Zk Zk (fun _=>by kernel_rfl) Li fun xj4=>K0.joinB Zk 1000 6 33 [34,35,36,37,38] 39 ((N.fill.length:Int)==0) false ((((N.path.length:Int)==0)&&(N.frule==0))&&((N.fill.length:Int)==0)) Zk Zk Zk (fun _=>by kernel_rfl) Li fun xj5=>K0.joinB Zk 1000 6 39 [40,41,42,43,44] 45 ((N.stroke.length:Int)==0) false (((((N.path.length:Int)==0)&&(N.frule==0))&&((N.fill.length:Int)==0))&&((N.stroke.length:Int)==0)) Zk Zk Zk (fun _=>by kernel_rfl) Li fun xj6=>K0.joinC Zk true 1000 1000 1000 45 [46,47,48,49,50] 4 false (Ow N.sty) (Ow N.sty) ((Ui N)&&(Ow N.sty)) Zk (fun w1 hw h=>samePen_v (y:=(q.daA,q.dac))) Zk Zk Zk (fun _=>by kernel_rfl) P5 fun xj7 Φxj7 hixj7=>ZD 5 (fun w1 hw h=>imzero_v (m:=N.im) (y:=(q.pxA,q.pxc)) rfl) fun u=>K0.joinB Zk 1000 5 55 [56,57,58,59] 5 (N.samp==0) false ((decide (N.im.w=0∧N.im.h=0∧N.im.px=[]))&&(N.samp==0)) Zk Zk Zk (fun _=>by kernel_rfl) Li fun xj8=>ZR ?_
 unfold T6
 by_cases k1:N.kind=1
 ·exact K0.condr ((N.kind==1)) true Zk (beq_iff_eq.2 k1) <| ZS 2 <| K0.joinB Zk 1000 3 65 [66,67] 2 (Xw N) false ((Ui N&&Ow N.sty)&&(Xw N)) Zk Zk Zk (fun _=>by kernel_rfl) Li fun xj9=>ZR <| ZX (.bool ((Ui N&&Ow N.sty)&&Xw N)) (by rw[if_pos k1])
 refine ZJ ((N.kind==1)) false (beq_eq_false_iff_ne.2 k1) ?_
 by_cases k2:N.kind=2
 ·exact K0.condr ((N.kind==2)) true Zk (beq_iff_eq.2 k2) <| ZS 2 <| K0.joinB Zk 1000 3 71 [72,73] 2 (Xw N) false ((Ee N)&&(Xw N)) Zk Zk Zk (fun _=>by kernel_rfl) Li fun xj10=>ZR <| ZX (.bool (Ee N&&Xw N)) (by rw[if_neg k1,if_pos k2])
 exact K0.condr ((N.kind==2)) false Zk (beq_eq_false_iff_ne.2 k2) <| ZS 2 <| K0.joinB Zk 1000 3 75 [76,77] 2 (Ui N&&Ow N.sty) false ((Ee N)&&(Ui N&&Ow N.sty)) Zk Zk Zk (fun _=>by kernel_rfl) Li fun xj11=>ZR <| ZX (.bool (Ee N&&(Ui N&&Ow N.sty))) (by rw[if_neg k1,if_neg k2])
theorem lit6{b0 b1 b2 b3 b4 b5:Bool}{z0 z1 z2 z3 z4 z5:Int}:litOf Tryz.prog 259 6 #[(0,wh b0 z0),(1,wh b1 z1),(2,wh b2 z2),(3,wh b3 z3),(4,wh b4 z4),(5,wh b5 z5)]=some (97,(List.map (fun v:Bool×Int=>wh v.1 v.2) [(b0,z0),(b1,z1),(b2,z2),(b3,z3),(b4,z4),(b5,z5)]).toArray):=by
 cases b0<;>cases b1<;>cases b2<;>cases b3<;>cases b4<;>cases b5<;>kernel_rfl
theorem lit2{b0 b1:Bool}{z0 z1:Int}:litOf Tryz.prog 259 2 #[(0,wh b0 z0),(1,wh b1 z1)]=some (97,(List.map (fun v:Bool×Int=>wh v.1 v.2) [(b0,z0),(b1,z1)]).toArray):=by
 cases b0<;>cases b1<;>kernel_rfl
end
section
variable{w:World}{B:Bool}{N:Nd}{q:ND}{K:Nat}{vs:List (Bool×Int)}
def chV(B:Bool)(e:Value):Prop:=(B=true∧e= .nilIface)∨(B=false∧∃z:Int,z≠0∧(e=wh true z∨e=wh2 z))
theorem chV_fst(hz:∀v∈vs,v.2≠0)(hB:vs.all (fun v=> !v.1)=B):chV B (Hi vs):=by
 subst hB
 induction vs with
 |nil=>exact .inl ⟨rfl,rfl⟩
 |cons v r ih=>
  obtain⟨b,z⟩:=v
  cases b
  ·exact ih fun v hv=>hz v (List.mem_cons_of_mem _ hv)
  ·exact .inr ⟨rfl,z,hz (true,z) Zs,.inr rfl⟩
theorem chV_wh{b:Bool}{z:Int}(hz:z≠0)(hB:(!b)=B):chV B (wh b z):=by
 subst hB
 cases b
 ·exact .inl ⟨rfl,rfl⟩
 ·exact .inr ⟨rfl,z,hz,.inl rfl⟩
def vsC(N:Nd):List (Bool×Int):=[(Ig N,2),(rngX N,6),(!N.T.ok,5),(decide (N.T.det=0),9),(!Pt N.clip,10),(!Qe N|| !T6 N,17)]
def vsS(N:Nd):List (Bool×Int):=[(!Pt N.path,10),(!R4 N.frule,2),(Id N,5),(decide ((N.stroke.length:Int)>0)&& !P6 N.sty,13),(!decide ((N.stroke.length:Int)>0)&& !Ow N.sty,17),(!N.fill.all Ku|| !N.stroke.all Ku,16)]
def vsI(N:Nd):List (Bool×Int):=[(!Xy N.im,16),((N.samp !=1)&&(N.samp !=2),2)]
def cpL:List Nat:=[8,9,10,11,12,13,14,15,16,17,18,19,20,21,22,23]
theorem common_v(hp:Jv N q K w)(hf:Hx N)(hK:2≤K∧K≤10000000)(hB:commB N=B):Calls Tryz.prog 103 #[Gv N q] w (K7 w (fun e:{e:Value // chV B e}=>e.1) fun _ _=>True):=by
 refine K0.enter Tryz.func103 rfl <| ZS 5 <| K0.meet2 (fun(i:Nat→AV) c=>Q9 cpL i (M7 3 (.bool (Qe N)) (Lw Tryz.prog 1000 11 (M7 13 Zt (Lw Tryz.prog 1000 5 (M7 8 Zt c)))))) (fun k=> ?_) (fun xj Φ9 hi9=> ?_)
 ·by_cases hcl:N.clip.length=0
  ·refine K0.slot 8 (.bool ((N.clip.length:Int)==0)) Zt Zk (by rw[beq_iff_eq.2 Zo]) <| K0.run Zk (stop:=1000) 5 _ <| K0.fork 13 (N.crule==0) Zk (fun hc=> ?_) (fun hc=> ?_)
   ·exact K0.run Zk (stop:=1000) 11 _ <| K0.slot 3 Zt (.bool (Qe N)) Zk (by unfold Qe;rw[if_pos hcl,hc]) <| K0.blur cpL fun x=>K0.eq (k x _ fun w h=>h) Zk
   ·exact K0.run Zk (stop:=1000) 5 _ <| K0.slot 18 (.bool (decide ((N.clip.length:Int)>0))) Zf Zk (by rw[decide_eq_false Zo]) <| K0.run Zk (stop:=1000) 6 _ <| K0.slot 3 Zf (.bool (Qe N)) Zk (by unfold Qe;rw[if_pos hcl,hc]) <| K0.blur cpL fun x=>K0.eq (k x _ fun w h=>h) Zk
  ·exact K0.slot 8 (.bool ((N.clip.length:Int)==0)) Zf Zk (by rw[beq_eq_false_iff_ne.2 Zo]) <| K0.run Zk (stop:=1000) 10 _ <| ZT 18 (.bool (decide ((N.clip.length:Int)>0))) Zt (by rw[decide_eq_true Zo]) <| K0.callv (fun w1 hw h=>rule_v (x:=N.crule)) Zk fun u=>K0.run Zk (stop:=1000) 3 _ <| K0.slot 3 (.bool (R4 N.crule)) (.bool (Qe N)) Zk (by unfold Qe;rw[if_neg hcl]) <| K0.blur cpL fun x=>K0.eq (k x _ fun w h=>h.1) Zk
 refine ZS 4 <| K0.joinB Zk 8 1000 27 [28,29,30] 31 true (decide (N.kind>3)) ((decide (N.kind<1))||(decide (N.kind>3))) Zk Zk Zk (fun _=>by kernel_rfl) On fun xj1=>ZR <| ZD 13 (fun w1 hw h=>Rh (b:=Ig N) (z:=2)) fun e0=>K0.joinB Zk 18 1000 36 [37,38,39,40] 41 true (decide (N.id>1073741824)) ((decide (N.id<1))||(decide (N.id>1073741824))) Zk Zk Zk (fun _=>by kernel_rfl) On fun xj2=>K0.joinB Zk 23 1000 41 [42,43,44,45] 46 true (decide (N.dep<0)) ((decide (N.id<1)||decide (N.id>1073741824))||(decide (N.dep<0))) Zk Zk Zk (fun _=>by kernel_rfl) On fun xj3=>K0.joinB Zk 27 1000 46 [47,48,49] 50 true (decide (N.dep≥8)) (((decide (N.id<1)||decide (N.id>1073741824))||decide (N.dep<0))||(decide (N.dep≥8))) Zk Zk Zk (fun _=>by kernel_rfl) On fun xj4=>ZR <| ZC (fun w1 hw h=>Rh (b:=rngX N) (z:=6)) fun e1=>ZC (fun w1 hw h=>W1 rfl (hp.tr.below hw) hK) fun v1=>ZC (fun w1 hw h=>Rh (b:= !N.T.ok) (z:=5)) fun e2=>ZC (fun w1 hw h=>zero_v (hp.tr.below hw) hK) fun v2=>ZC (fun w1 hw h=>Rh (b:=decide (N.T.det=0)) (z:=9)) fun e3=>ZC (fun w1 hw h=>W0 (c:=q.clc) (hp.cl.below hw) hf.cl rfl) fun v3=>ZD 45 (fun w1 hw h=>Rh (b:= !Pt N.clip) (z:=10)) fun e4=>K0.joinC Zk false 1000 1000 1000 68 [69,70,71] 72 true (T6 N) (!T6 N) ((!Qe N)||(!T6 N)) Zk (fun w1 hw h=>bare_v (q:=q)) Zk Zk Zk (fun _=>by kernel_rfl) or_ift fun xj5 Φxj5 hixj5=>ZC (fun w1 hw h=>Rh (b:= !Qe N|| !T6 N) (z:=17)) fun e5=>K0.make (Lq 259 6 #[(0,wh (Ig N) 2),(1,wh (rngX N) 6),(2,wh (!N.T.ok) 5),(3,wh (decide (N.T.det=0)) 9),(4,wh (!Pt N.clip) 10),(5,wh (!Qe N|| !T6 N) 17)]) (Kf 6) (L4 97 (List.map (fun v:Bool×Int=>wh v.1 v.2) (vsC N)).toArray) Zk (fun w1 hw h=>Kc lit6) fun g=>ZR <| ZC (fun w1 hw h=>first_v (vs:=vsC N) (n:=6) h.2 rfl Zd) fun e6=>ZV (Hi (vsC N)) (fun w1 hw h=>⟨⟨Hi (vsC N),chV_fst (by simp[vsC]) (by rw[←hB];simp[vsC,commB])⟩,rfl,hw,fun _ _ _=>trivial⟩)
theorem shape_raw:List.all (vsS N) (fun v=> !v.1)=V4 N:=by
 unfold V4 penB vsS
 by_cases h:N.stroke.length=0
 ·rw[if_pos h,show decide ((N.stroke.length:Int)>0)=false from decide_eq_false Zo]
  simp[Bool.not_or]
 ·rw[if_neg h,show decide ((N.stroke.length:Int)>0)=true from decide_eq_true Zo]
  simp[Bool.not_or]
theorem shape_v(hp:Jv N q K w)(hf:Hx N)(hK:2≤K∧K≤10000000)(hB:V4 N=B):Calls Tryz.prog 165 #[Gv N q] w (K7 w (fun e:{e:Value // chV B e}=>e.1) fun _ _=>True):=by
 refine K0.enter Tryz.func165 rfl <| ZR <| ZC (fun w1 hw h=>W0 (c:=q.pac) (hp.pa.below hw) hf.pa rfl) fun v0=>ZC (fun w1 hw h=>Rh (b:= !Pt N.path) (z:=10)) fun e0=>ZC (fun w1 hw h=>rule_v (x:=N.frule)) fun v1=>ZD 15 (fun w1 hw h=>Rh (b:= !R4 N.frule) (z:=2)) fun e1=>K0.joinB Zk 20 1000 22 [23,24,25,26] 27 true (decide ((N.stroke.length:Int)>1)) ((decide ((N.fill.length:Int)>1))||(decide ((N.stroke.length:Int)>1))) Zk Zk Zk (fun _=>by kernel_rfl) On fun xj6=>ZR <| ZD 23 (fun w1 hw h=>Rh (b:=Id N) (z:=5)) fun e2=>K0.joinC Zk true 1000 1000 1000 30 [31,32,33,34] 35 false (P6 N.sty) (!P6 N.sty) ((decide ((N.stroke.length:Int)>0))&&(!P6 N.sty)) Zk (fun w1 hw h=>style_v (y:=(q.daA,q.dac)) (hp.da.below hw) (by have:=hf.da;omega)) Zk Zk Zk (fun _=>by kernel_rfl) P5 fun xj7 Φxj7 hixj7=>ZD 32 (fun w1 hw h=>Rh (b:=decide ((N.stroke.length:Int)>0)&& !P6 N.sty) (z:=13)) fun e3=>K0.joinC Zk true 1000 1000 1000 39 [40,41,42,43,44] 45 false (Ow N.sty) (!Ow N.sty) ((!decide ((N.stroke.length:Int)>0))&&(!Ow N.sty)) Zk (fun w1 hw h=>samePen_v (y:=(q.daA,q.dac))) Zk Zk Zk (fun _=>by kernel_rfl) P5 fun xj8 Φxj8 hixj8=>ZC (fun w1 hw h=>Rh (b:= !decide ((N.stroke.length:Int)>0)&& !Ow N.sty) (z:=17)) fun e4=>ZD 44 (fun w1 hw h=>mayP_v (c:=q.fic) rfl (hp.fi.below hw) rfl (by have:=hf.fn;omega) hf.fi hK) fun v2=>K0.joinC Zk false 1000 1000 1000 51 [52,53,54,55] 56 true (N.stroke.all Ku) (!N.stroke.all Ku) ((!N.fill.all Ku)||(!N.stroke.all Ku)) Zk (fun w1 hw h=>mayP_v (c:=q.stc) rfl (hp.st.below hw) rfl (by have:=hf.sn;omega) hf.st hK) Zk Zk Zk (fun _=>by kernel_rfl) or_ift fun xj9 Φxj9 hixj9=>ZC (fun w1 hw h=>Rh (b:= !N.fill.all Ku|| !N.stroke.all Ku) (z:=16)) fun e5=>K0.make (Lq 259 6 #[(0,wh (!Pt N.path) 10),(1,wh (!R4 N.frule) 2),(2,wh (Id N) 5),(3,wh (decide ((N.stroke.length:Int)>0)&& !P6 N.sty) 13),(4,wh (!decide ((N.stroke.length:Int)>0)&& !Ow N.sty) 17),(5,wh (!N.fill.all Ku|| !N.stroke.all Ku) 16)]) (Kf 6) (L4 97 (List.map (fun v:Bool×Int=>wh v.1 v.2) (vsS N)).toArray) Zk (fun w1 hw h=>Kc lit6) fun g=>ZR <| ZC (fun w1 hw h=>first_v (vs:=vsS N) (n:=6) h.2 rfl Zd) fun e6=>ZV (Hi (vsS N)) (fun w1 hw h=>⟨⟨Hi (vsS N),chV_fst (by simp[vsS]) (by rw[←hB];exact shape_raw)⟩,rfl,hw,fun _ _ _=>trivial⟩)
theorem own_v(hp:Jv N q K w)(hf:Hx N)(hK:2≤K∧K≤10000000)(hB:ownB N=B):Calls Tryz.prog 104 #[Gv N q] w (K7 w (fun e:{e:Value // chV B e}=>e.1) fun _ _=>True):=by
 unfold ownB at hB
 refine K0.enter Tryz.func104 rfl <| ZR ?_
 by_cases k1:N.kind=1
 ·rw[if_pos k1]at hB
  refine ZJ ((N.kind==1)) true (beq_iff_eq.2 k1) <| ZC (fun w1 hw h=>mode_v (x:=N.bl)) fun v0=>ZC (fun w1 hw h=>Rh (b:= !Xc N.bl) (z:=2)) fun e0=>ZV (wh (!Xc N.bl) 2) (fun w1 hw h=>⟨⟨_,chV_wh Zd (by rw[Bool.not_not];exact hB)⟩,rfl,hw,fun _ _ _=>trivial⟩)
 rw[if_neg k1]at hB
 refine ZJ ((N.kind==1)) false (beq_eq_false_iff_ne.2 k1) ?_
 by_cases k2:N.kind=2
 ·rw[if_pos k2]at hB
  refine ZJ ((N.kind==2)) true (beq_iff_eq.2 k2) <| ZC (fun w1 hw h=>shape_v (hp.below hw) hf hK hB) fun e0=>ZV (e0.1) (fun w1 hw h=>⟨e0,rfl,hw,fun _ _ _=>trivial⟩)
 rw[if_neg k2]at hB
 refine ZJ ((N.kind==2)) false (beq_eq_false_iff_ne.2 k2) <| ZC (fun w1 hw h=>H9 (m:=N.im) (y:=(q.pxA,q.pxc)) rfl (hp.px.below hw) (by have:=hf.px;omega)) fun v0=>ZD 9 (fun w1 hw h=>Rh (b:= !Xy N.im) (z:=16)) fun e0=>K0.joinB Zk 13 1000 24 [25,26,27] 28 (N.samp !=2) false ((N.samp !=1)&&(N.samp !=2)) Zk Zk Zk (fun _=>by kernel_rfl) Li fun xj10=>ZR <| ZC (fun w1 hw h=>Rh (b:=(N.samp !=1)&&(N.samp !=2)) (z:=2)) fun e1=>K0.make (Lq 259 2 #[(0,wh (!Xy N.im) 16),(1,wh ((N.samp !=1)&&(N.samp !=2)) 2)]) (Kf 2) (L4 97 (List.map (fun v:Bool×Int=>wh v.1 v.2) (vsI N)).toArray) Zk (fun w1 hw h=>Kc lit2) fun g=>ZR <| ZC (fun w1 hw h=>first_v (vs:=vsI N) (n:=2) h.2 rfl Zd) fun e6=>ZV (Hi (vsI N)) (fun w1 hw h=>⟨⟨Hi (vsI N),chV_fst (by simp[vsI]) (by rw[←hB];simp[vsI])⟩,rfl,hw,fun _ _ _=>trivial⟩)
end
section
variable{w:World}{B:Bool}{N:Nd}{q:ND}{K:Nat}
theorem ET.below{w w1:World}(h:ET w)(hw:Below w.heap.size w w1):ET w1:=Lc hw h
def EG(W:World)(g:Nat)(cs:List Value)(u:World):Prop:=W.heap.size≤g∧K5 u g cs
theorem eg_own{W u:World}{g:Nat}{cs:List Value}(h:EG W g cs u):∀b∈[g],W.heap.size≤b∧∃cs ty own,u.heap[b]? =some (.cells cs ty own):=fun b hb=>by
 obtain rfl:b=g:=by simpa using hb
 obtain⟨ty,h2⟩:=h.2
 exact⟨h.1,_,_,_,h2⟩
def ckL:List Nat:=[6,7,8,9,10,11]
theorem check_v(hE:ET w)(hp:Jv N q K w)(hf:Hx N)(hK:2≤K∧K≤10000000)(hB:Lm N=B):Calls Tryz.prog 56 #[Gv N q] w (K7 w (fun z:{z:Int // decide (z=0)=B}=>Zi z.1) fun _ _=>True):=by
 unfold Lm at hB
 refine K0.enter Tryz.func56 rfl <| ZR <| K0.meet2 (ι:={e:Value // chV B e}×(Nat→AV)) (fun i c=>Q9 ckL i.2 (M7 3 i.1.1 (Lw Tryz.prog 0 1000 (J2 false (Lw Tryz.prog 1000 1000 (Le (.v (wh true 0)) c)))))) (fun k=> ?_) (fun i Φ9 hi9=> ?_)
 ·cases hc:commB N
  ·rw[hc,Bool.false_and]at hB
   subst hB
   refine ZC (fun w1 hw h=>common_v (hp.below hw) hf hK hc) fun e=> ?_
   obtain⟨e,he⟩:=e
   rcases he with ⟨h0,_⟩|⟨_,z,hz,rfl|rfl⟩
   ·cases h0
   ·exact K0.cond false Zk <| ZS 0 <| K0.blur ckL fun x=>K0.eq (k (⟨wh true z,.inr ⟨rfl,z,hz,.inl rfl⟩⟩,x) _ fun w h=>h.1) Zk
   ·exact K0.cond false Zk <| ZS 0 <| K0.blur ckL fun x=>K0.eq (k (⟨wh2 z,.inr ⟨rfl,z,hz,.inr rfl⟩⟩,x) _ fun w h=>h.1) Zk
  ·rw[hc,Bool.true_and]at hB
   refine ZC (fun w1 hw h=>common_v (hp.below hw) hf hK hc) fun e=> ?_
   obtain⟨e,he⟩:=e
   rcases he with ⟨_,rfl⟩|⟨h0,_⟩
   case inr=>cases h0
   exact ZI true <| ZD 0 (fun w1 hw h=>own_v (hp.below hw) hf hK hB) fun e=>K0.blur ckL fun x=>K0.eq (k (e,x) _ fun w h=>h.1.1) Zk
 obtain⟨⟨e,he⟩,x⟩:=i
 refine K0.run Zk (stop:=1000) 1 _ <| ZS 0 <| K0.make (Aq 169) (Ud) (fun g u=>K5 u g [Zi 0,.nilIface]∧w.heap.size≤g∧g<u.heap.size) Zk (fun w1 hw h=>Bn (z:= .agg #[Zi 0,.nilIface]) Zk hw.size) fun g=>ZR <| K0.un Zk <| ZR ?_
 rcases he with ⟨hb,rfl⟩|⟨hb,z,hz,rfl|rfl⟩
 ·refine ZC (fun w1 hw h=>as_nil (t:= .iface 171 (Zq g 0))) fun u=>ZI false <| ZV (Zi 0) (fun w1 hw h=>⟨⟨0,by rw[hb];rfl⟩,rfl,hw,fun _ _ _=>trivial⟩)
 ·refine K0.mut (L:=[g]) (Φ':=fun(_:Unit)=>EG w g [Zi z,.nilIface]) (fun w1 hw h=>as_hit (hE.below hw) h.2.1 rfl ⟨rfl,rfl⟩) (fun u h=>eg_own ⟨h.2.2.1,h.2.1⟩) (fun _ wa u e1 e2 h hG=>⟨h.2.2.1,hG⟩) Zk Zk fun _=>ZR <| K0.cond true Zk <| ZS 1 <| K0.askAt 1 (L5 29 ⟨g,0,none⟩) (Zi z) Zk (fun w1 hw h=>K8 Zk (by have:=h.2.range 0 _ rfl;simpa using this)) <| ZS 3 <| ZB 3 (L5 97 ⟨g,1,none⟩) (.nilIface) (fun w1 hw h=>K8 Zk (by have:=h.2.range 1 _ rfl;simpa using this)) <| ZC (fun w1 hw h=>as_nil (t:= .iface 171 (Zq g 0))) fun u=>ZI false <| ZV (Zi z) (fun w1 hw h=>⟨⟨z,by rw[hb];exact decide_eq_false hz⟩,rfl,hw,fun _ _ _=>trivial⟩)
 ·refine K0.mut (L:=[g]) (Φ':=fun(_:Unit)=>EG w g [Zi 0,wh true z]) (fun w1 hw h=>as_hit (hE.below hw) h.2.1 rfl ⟨rfl,rfl⟩) (fun u h=>eg_own ⟨h.2.2.1,h.2.1⟩) (fun _ wa u e1 e2 h hG=>⟨h.2.2.1,hG⟩) Zk Zk fun _=>ZR <| K0.cond true Zk <| ZS 1 <| K0.askAt 1 (L5 29 ⟨g,0,none⟩) (Zi 0) Zk (fun w1 hw h=>K8 Zk (by have:=h.2.range 0 _ rfl;simpa using this)) <| ZS 3 <| ZB 3 (L5 97 ⟨g,1,none⟩) (wh true z) (fun w1 hw h=>K8 Zk (by have:=h.2.range 1 _ rfl;simpa using this)) <| K0.mut (L:=[g]) (Φ':=fun(_:Unit)=>EG w g [Zi z,.nilIface]) (fun w1 hw h=>as_hit (hE.below hw) h.2 rfl ⟨rfl,rfl⟩) (fun u h=>eg_own h) (fun _ wa u e1 e2 h hG=>⟨h.1,hG⟩) Zk Zk fun _=>ZR <| K0.cond true Zk <| ZS 1 <| K0.askAt 1 (L5 29 ⟨g,0,none⟩) (Zi z) Zk (fun w1 hw h=>K8 Zk (by have:=h.2.range 0 _ rfl;simpa using this)) <| ZS 3 <| ZB 3 (L5 97 ⟨g,1,none⟩) (.nilIface) (fun w1 hw h=>K8 Zk (by have:=h.2.range 1 _ rfl;simpa using this)) <| ZC (fun w1 hw h=>as_nil (t:= .iface 171 (Zq g 0))) fun u=>ZI false <| ZV (Zi z) (fun w1 hw h=>⟨⟨z,by rw[hb];exact decide_eq_false hz⟩,rfl,hw,fun _ _ _=>trivial⟩)
end
def soC(S:Sc)(y:Option Addr×Nat):List Value:=[Zi S.w,Zi S.h,.int .u8 (S.bg.1.toNat:Int),.int .u8 (S.bg.2.1.toNat:Int),.int .u8 (S.bg.2.2.1.toNat:Int),.int .u8 (S.bg.2.2.2.toNat:Int),.slice y.1 S.nds.length y.2]
@[reducible] def soV(S:Sc)(y:Option Addr×Nat):Value:= .agg (soC S y).toArray
section
variable{w:World}{B:Bool}{N:Nd}{q:ND}{K n c g:Nat}{S:Sc}{y:Option Addr×Nat}{nl:List (Nd×ND)}{A:Option Addr}
def mapS2(t:TypeId):Sem Next:=Instr.makeMap t none >>= fun v=>pure (.value v)
theorem make_ids{t:TypeId}{N:Nat}(hN:N≤w.heap.size):Lh Tryz.prog w (fun g:Nat=> .map (some g)) (fun g u=>Iv u g []∧N≤g) (mapS2 t):=
 ⟨w.heap.size,w.alloc (.map #[] 0),by simp only[mapS2,Instr.makeMap,Sem.run_bind,run_newObj_alloc,Result.andThen_ok,Sem.run_pure],Uz _ _,fun w'' h1 h2=>⟨⟨#[],0,(Vk w _ h1 h2).1,rfl⟩,hN⟩⟩
def lkS(t:TypeId)(m k:Value):Sem Next:=Instr.lookup t m k false >>= fun v=>pure (.value v)
theorem run_lk{l:List Int}{x:Int}(h:Iv w g l):(lkS 120 (.map (some g)) (Zi x)).run Tryz.prog w= .ok (.value (.bool (decide (x∈l)))) w:=by
 simp only[lkS,Sem.run_bind,lookup_ids (P:=Tryz.prog) (t:=120) (kt:=3) (et:=4) Zk Zk Zk h,Result.andThen_ok,Sem.run_pure]
theorem N9{k:Nat}{ad:Addr}(hA:A=some ad)(hk:k<n):(Kj 24 (.slice A n c) k).run Tryz.prog w= .ok (.value (.pointer (some (ad.add (k*47))))) w:=by
 rw[hA];exact Yc (elem:=52) Zk Zk hk
theorem Yb{ad:Addr}(h:∀(j:Nat) (v:Value),(X9 N q)[j]? =some v→w.cell? (ad.add j)=some v):(L5 52 ad).run Tryz.prog w= .ok (.value (Gv N q)) w:=
 F7 Zk Zk h
theorem Ug{α:Type}{l:List α}{k:Nat}{x:α}(h:l[k]? =some x):l.take (k+1)=l.take k++ [x]:=by rw[List.take_add_one,h];rfl
theorem nds_step{l:List Nd}{k:Nat}(hx:l[k]? =some N)(h:Ab (l.take k) (l.drop k)=B):(Lm N&&(!decide (N.id∈(l.take k).map (·.id))&&(!decide (N.dep>mxd (l.take k))&&Ab (l.take (k+1)) (l.drop (k+1)))))=B:=by
 rw[drop_get hx]at h
 rw[Ug hx]
 exact h
theorem mxd_snoc{l:List Nd}{k:Nat}(hx:l[k]? =some N):mxd (l.take (k+1))=N.dep+(if N.kind=1 then 1 else 0):=by
 unfold mxd;rw[Ug hx,List.getLast?_append];rfl
theorem dep_rng(h:Lm N=true):0≤N.dep∧N.dep<8:=by
 unfold Lm commB rngX at h
 simp only[Bool.and_eq_true,Bool.not_eq_true',Bool.or_eq_false_iff,decide_eq_false_iff_not]at h
 omega
def NFs(l:List Nd):Prop:=∀N∈l,Hx N
def IG(W:World)(g:Nat)(l:List Int)(u:World):Prop:=Iv u g l∧W.heap.size≤g
theorem ig_own{W:World}{l:List Int}:OwnM W g (IG W g l):=fun u h=>by
 obtain⟨⟨es,cl,h1,_⟩,h2⟩:=h
 exact⟨h2,es,cl,h1⟩
theorem scheck_v(hE:ET w)(hp:Ut w y.1 nl K S.nds)(hf:NFs S.nds)(hK:2≤K∧K≤10000000)(hB:Ai S=B):Calls Tryz.prog 27 #[soV S y] w (K7 w (fun z:{z:Int // decide (z=0)=B}×Int=> .tuple #[Zi z.1.1,Zi z.2]) fun _ _=>True):=by
 unfold Ai at hB
 refine K0.enter Tryz.func27 rfl <| ZS 4 <| K0.joinB Zk 1000 5 12 [13,14,15,16] 17 true (decide (S.w>256)) ((decide (S.w<1))||(decide (S.w>256))) Zk Zk Zk (fun _=>by kernel_rfl) On fun xj1=>K0.joinB Zk 1000 5 17 [18,19,20,21] 22 true (decide (S.h<1)) ((decide (S.w<1)||decide (S.w>256))||(decide (S.h<1))) Zk Zk Zk (fun _=>by kernel_rfl) On fun xj2=>K0.joinB Zk 1000 4 22 [23,24,25] 26 true (decide (S.h>256)) (((decide (S.w<1)||decide (S.w>256))||decide (S.h<1))||(decide (S.h>256))) Zk Zk Zk (fun _=>by kernel_rfl) On (fun xj3=> ?_)
 cases hs:I5 S
 case true=>
  rw[hs]at hB
  refine ZT 26 (.bool (((decide (S.w<1)||decide (S.w>256))||decide (S.h<1))||decide (S.h>256))) (.bool true) (by rw[←hs];rfl) <| ZI true <| ZV (.tuple #[Zi 6,Zi 0]) (fun w1 hw h=>⟨(⟨6,by rw[←hB];rfl⟩,0),rfl,hw,fun _ _ _=>trivial⟩)
 rw[hs,Bool.not_false,Bool.true_and]at hB
 refine ZT 26 (.bool (((decide (S.w<1)||decide (S.w>256))||decide (S.h<1))||decide (S.h>256))) (.bool false) (by rw[←hs];rfl) <| ZI false ?_
 cases hm:decide ((S.nds.length:Int)>64)
 case true=>
  rw[hm]at hB
  refine ZJ (decide ((S.nds.length:Int)>64)) true (hm) <| ZV (.tuple #[Zi 5,Zi 64]) (fun w1 hw h=>⟨(⟨5,by rw[←hB];rfl⟩,64),rfl,hw,fun _ _ _=>trivial⟩)
 rw[hm,Bool.not_false,Bool.true_and]at hB
 have hn:S.nds.length≤64:=by have:=of_decide_eq_false hm;omega
 refine ZJ (decide ((S.nds.length:Int)>64)) false (hm) <| K0.make (mapS2 120) ((fun g:Nat=> .map (some g))) ((fun g u=>Iv u g []∧w.heap.size≤g)) Zk (fun w1 hw h=>make_ids hw.size) fun g=>ZR <| K0.loop (ι:={k:Nat // k≤S.nds.length∧Ab (S.nds.take k) (S.nds.drop k)=B}) 67 (fun k=>⟨[(4,.v (.map (some g))),(5,.v (Zi (mxd (S.nds.take k.1)))),(33,.v (.slice y.1 S.nds.length y.2)),(34,.v (Zi S.nds.length)),(35,.v (Zi k.1))],[]⟩) (fun k u=>IG w g ((S.nds.take k.1).map (·.id)) u) (fun k=>S.nds.length-k.1) (⟨0,Nat.zero_le _,hB⟩) Zk (fun _=>by kernel_rfl) ⟨Zk,Zk,Zk⟩ (fun u h=>h.2) ?_
 rintro⟨k,hk,hall⟩ gg
 have hk:k≤S.nds.length:=hk
 have hall:Ab (S.nds.take k) (S.nds.drop k)=B:=hall
 by_cases hlt:k<S.nds.length
 case neg=>
  refine ZR <| ZJ (decide ((k:Int)<(S.nds.length:Int))) false Zp <| K0.leave Zk <| ZR <| ZV (.tuple #[Zi 0,Zi 0]) (fun w1 hw h=>⟨(⟨0,by rw[←hall,List.drop_of_length_le Zo];rfl⟩,0),rfl,hw,fun _ _ _=>trivial⟩)
 obtain⟨N,hx⟩:∃v,S.nds[k]? =some v:=⟨_,List.getElem?_eq_getElem hlt⟩
 obtain⟨q,hx2,hrd⟩:=hp.get hx
 obtain⟨ad,hA,hc⟩:=hp.row.2 k _ hx2
 have hN:=hf N (List.mem_of_getElem? hx)
 have hst:=nds_step hx hall
 refine ZR <| ZJ (decide ((k:Int)<(S.nds.length:Int))) true Zp <| ZA (Kj 24 (.slice y.1 S.nds.length y.2) k) (.pointer (some (ad.add (k*47)))) (fun w1 hw h=>N9 hA hlt) <| ZA (L5 52 (ad.add (k*47))) (Gv N q) (fun w1 hw h=>Yb fun j v hj=>Lc hw (hc j v hj)) ?_
 cases hv:Lm N
 ·rw[hv,Bool.false_and]at hst
  refine ZC (fun w1 hw h=>check_v (hE.below hw) (hrd.below hw) hN hK hv) fun z=>ZJ ((z.1 !=0)) true (by have:=of_decide_eq_false z.2;simpa using this) <| K0.leave Zk <| ZR <| ZV (.tuple #[Zi z.1,Zi k]) (fun w1 hw h=>⟨(⟨z.1,by rw[z.2,←hst]⟩,k),rfl,hw,fun _ _ _=>trivial⟩)
 rw[hv,Bool.true_and]at hst
 refine ZC (fun w1 hw h=>check_v (hE.below hw) (hrd.below hw) hN hK hv) fun z=>ZJ ((z.1 !=0)) false (by have:=of_decide_eq_true z.2;simpa using this) <| ZA (lkS 120 (.map (some g)) (Zi N.id)) (.bool (decide (N.id∈(S.nds.take k).map (·.id)))) (fun w1 hw h=>run_lk h.1.1) ?_
 cases hi:decide (N.id∈(S.nds.take k).map (·.id))
 case true=>
  rw[hi]at hst
  refine ZI true <| K0.leave Zk <| ZR <| ZV (.tuple #[Zi 7,Zi k]) (fun w1 hw h=>⟨(⟨7,by rw[←hst];rfl⟩,k),rfl,hw,fun _ _ _=>trivial⟩)
 rw[hi,Bool.not_false,Bool.true_and]at hst
 refine ZI false ?_
 cases hd:decide (N.dep>mxd (S.nds.take k))
 case true=>
  rw[hd]at hst
  refine ZJ (decide (N.dep>mxd (S.nds.take k))) true (hd) <| K0.leave Zk <| ZR <| ZV (.tuple #[Zi 17,Zi k]) (fun w1 hw h=>⟨(⟨17,by rw[←hst];rfl⟩,k),rfl,hw,fun _ _ _=>trivial⟩)
 rw[hd,Bool.not_false,Bool.true_and]at hst
 refine ZJ (decide (N.dep>mxd (S.nds.take k))) false (hd) <| K0.mutM (g:=g) (G:=fun u=>Iv u g ((S.nds.take k).map (·.id)++ [N.id])) (Φ':=IG w g ((S.nds.take k).map (·.id)++ [N.id])) (muS 120 (.map (some g)) (Zi N.id) Zt) (fun w1 hw h=>update_ids (P:=Tryz.prog) (kt:=3) (et:=4) Zk Zk h.1.1 (of_decide_eq_false hi)) (fun u h=>ig_own u h.1) (fun wa u e1 e2 h hG=>⟨hG,h.1.2⟩) Zk Zk <| ZR ?_
 have hr:=dep_rng hv
 have hms:mxd (S.nds.take (k+1))=N.dep+(if N.kind=1 then 1 else 0):=mxd_snoc hx
 by_cases k1:N.kind=1
 ·refine ZJ ((N.kind==1)) true (beq_iff_eq.2 k1) <| K0.slot 35 (Zi (IntKind.i64.wrap ((k:Int)+1))) (Zi ((k+1:Nat):Int)) Zk (by rw[Kd hlt Zo]) <| K0.slot 5 (Zi (IntKind.i64.wrap (N.dep+1))) (Zi (mxd (S.nds.take (k+1)))) Zk (by rw[hms,if_pos k1,IntWalk.i64_in _ Zo]) <| K0.next (⟨k+1,by show k+1≤S.nds.length;omega,hst⟩) Zk (by show S.nds.length- (k+1)<S.nds.length-k;omega) ⟨Zk,Zk,Zk⟩ (fun u h=>by show IG w g ((S.nds.take (k+1)).map (·.id)) u;rw[Ug hx,List.map_append];exact h)
 ·refine ZJ ((N.kind==1)) false (beq_eq_false_iff_ne.2 k1) <| K0.slot 35 (Zi (IntKind.i64.wrap ((k:Int)+1))) (Zi ((k+1:Nat):Int)) Zk (by rw[Kd hlt Zo]) <| K0.slot 5 (Zi N.dep) (Zi (mxd (S.nds.take (k+1)))) Zk (by rw[hms,if_neg k1,Int.add_zero]) <| K0.next (⟨k+1,by show k+1≤S.nds.length;omega,hst⟩) Zk (by show S.nds.length- (k+1)<S.nds.length-k;omega) ⟨Zk,Zk,Zk⟩ (fun u h=>by show IG w g ((S.nds.take (k+1)).map (·.id)) u;rw[Ug hx,List.map_append];exact h)
theorem svalid_v(hE:ET w)(hp:Ut w y.1 nl K S.nds)(hf:NFs S.nds)(hK:2≤K∧K≤10000000)(hB:Ai S=B):Zv 14 #[soV S y] w (.bool B):=by
 exact K0.enter Tryz.func14 rfl <| ZR <| ZC (fun w1 hw h=>scheck_v (hE.below hw) (hp.below hw) hf hK hB) fun z=>ZX (.bool (z.1.1==0)) (congrArg (fun b=>Ending.returned (Value.bool b)) z.1.2)
end
end Go.Proofs.YtoeiphicmcndlaaGreatDoor
