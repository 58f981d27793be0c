/-
 Scenes as text: the reader of strokes.
-/
import Derived.Test.YtoeiphicmcndlaaGreatDoorZK
import Derived.Test.YtoeiphicmcndlaaGreatDoorFJ
import Derived.Test.YtoeiphicmcndlaaGreatDoorYI
namespace Go.Proofs.YtoeiphicmcndlaaGreatDoor
set_option maxRecDepth 100000
set_option maxHeartbeats 8000000
set_option linter.unusedVariables false
set_option linter.unusedSimpArgs false
open Go.RowKit
def V7:List UInt8:=[115,99,101,110,101]
def Ze:List UInt8:=[103,114,111,117,112]
def Z6:List UInt8:=[115,104,97,112,101]
def Bs:List UInt8:=[105,109,97,103,101]
def W6:List UInt8:=[116,114,97,110,115,102,111,114,109]
def clipN:List UInt8:=[99,108,105,112]
def fillN:List UInt8:=[102,105,108,108]
def J7:List UInt8:=[115,116,114,111,107,101]
def sty0:Jt:=⟨0,0,0,0,[],0⟩
def Ga:Nd:=⟨0,0,0,Px,[],0,0,0,false,false,[],0,[],sty0,[],Di,0⟩
def Vd(f:Bool):WS→Option (List Sg×WS×Bool)
 | []=>none
 |s::r=>if (Mp s).2.2=0 then some ((Mp s).1,r,f)else if (Mp s).2.2=6 then some ([],r,true)else none
def Fc(f:Bool):WS→Option (Bool×WS×Bool)
 | []=>none
 |s::r=>if s=[48]then some (false,r,f)else if s=[49]then some (true,r,f)else none
def rdMd(f:Bool):WS→Option (Int×WS×Bool)
 | []=>none
 |s::r=>(S9 s Ms).map fun(k:Nat)=>(1+(k:Int),r,f)
def E6:Nat→Bool→WS→Option (List Int×WS×Bool)
 |0,f,ws=>some ([],ws,f)
 |n+1,f,ws=>(Vq f ws).bind fun x=>(E6 n x.2.2 x.2.1).map fun l=>(x.1::l.1,l.2.1,l.2.2)
def rdDs(f:Bool):WS→Option (List Int×WS×Bool)
 | []=>none
 |s::r=>if Aj s≠0∨Ry s<0∨Ry s>(r.length:Int)then none else E6 (Ry s).toNat f r
def A9(f:Bool)(ws:WS):Option (Jt×WS×Bool):=
 (Vq f ws).bind fun w=>(Dg Sp 1 w.2.2 w.2.1).bind fun j=>(Dg Xh 3 j.2.2 j.2.1).bind fun c=>(Vq c.2.2 c.2.1).bind fun m=>(Vq m.2.2 m.2.1).bind fun p=>(rdDs p.2.2 p.2.1).map fun d=>
  (⟨w.1,j.1,c.1,m.1,d.1,p.1⟩,d.2.1,d.2.2)
def Mz(k:Int)(f:Bool)(ws:WS):Option (Nd×WS×Bool):=
 (Vq f ws).bind fun i=>(Vq i.2.2 i.2.1).bind fun d=>
  if k=1 then(rdI 0 255 d.2.2 d.2.1).bind fun o=>(rdMd o.2.2.2 o.2.2.1).bind fun m=>(Fc m.2.2 m.2.1).bind fun a=>(Fc a.2.2 a.2.1).map fun b=>
   ({Ga with id:=i.1,kind:=1,dep:=d.1,op:=UInt8.ofNat o.1.toNat,bl:=m.1,iso:=a.1,ko:=b.1},b.2.1,b.2.2)
  else if k=2 then(Dg Na 1 d.2.2 d.2.1).bind fun u=>(Vd u.2.2 u.2.1).map fun p=>
   ({Ga with id:=i.1,kind:=2,dep:=d.1,frule:=u.1,path:=p.1},p.2.1,p.2.2)
  else(Dg Oc 1 d.2.2 d.2.1).bind fun u=>(Xt u.2.2 u.2.1).map fun m=>
   ({Ga with id:=i.1,kind:=3,dep:=d.1,samp:=u.1,im:=m.1},m.2.1,m.2.2)
structure TS where
 w:Int
 h:Int
 bg:Co
 nds:List Nd
 wh:Int
 ln:Nat
 far:Int
def ts0:TS:=⟨0,0,Uq,[],0,0,-1⟩
def B6(l:List Nd)(N:Nd):List Nd:=l.dropLast++ [N]
def Ue(k:List UInt8):Int:=if k=Ze then 1 else if k=Z6 then 2 else if k=Bs then 3 else 0
def Qh(S:TS)(N:Nd)(k:List UInt8)(ws:WS):Option (TS×WS×Bool):=
 if k=W6 then(if S.wh=1 then(En false ws).map fun t=>({S with nds:=B6 S.nds {N with T:=t.1},wh:=2},t.2.1,t.2.2)else none)
 else if k=clipN then(if S.wh=2 then(Dg Na 1 false ws).bind fun u=>(Vd u.2.2 u.2.1).map fun p=>({S with nds:=B6 S.nds {N with crule:=u.1,clip:=p.1},wh:=3},p.2.1,p.2.2)else none)
 else if k=fillN then(if N.kind=2∧2≤S.wh∧S.wh<4 then(Wz false ws).map fun p=>({S with nds:=B6 S.nds {N with fill:=[p.1]},wh:=4},[],p.2)else none)
 else if k=J7 then(if N.kind=2∧2≤S.wh∧S.wh<5 then(A9 false ws).bind fun s=>(Wz s.2.2 s.2.1).map fun p=>({S with nds:=B6 S.nds {N with sty:=s.1,stroke:=[p.1]},wh:=5},[],p.2)else none)
 else none
def Xs(S:TS)(k:List UInt8)(ws:WS):Option (TS×WS×Bool):=
 if k=V7 then(if S.ln=0 then(Vq false ws).bind fun w=>(Vq w.2.2 w.2.1).bind fun h=>(rdC h.2.2 h.2.1).map fun c=>({S with w:=w.1,h:=h.1,bg:=c.1,wh:=0},c.2.1,c.2.2)else none)
 else if Ue k≠0 then(if S.wh≠1∧0<S.ln then(Mz (Ue k) false ws).map fun n=>({S with nds:=S.nds++ [n.1],wh:=1},n.2.1,n.2.2)else none)
 else match S.nds.getLast? with
  |none=>none
  |some N=>Qh S N k ws
def endL(x:TS×WS×Bool):Option TS:=if x.2.1=[]then some (if x.2.2=true∧x.1.far<0 then{x.1 with far:=x.1.ln}else x.1)else none
def P8(S:TS)(l:List UInt8):Option TS:=if Vm (L9 l)=true then(match Lx (L9 l)with
 | []=>none
 |k::ws=>(Xs S k ws).bind endL)else none
def Oi(S:TS)(i:Nat):List (List UInt8)→Nat ⊕ TS
 | []=>if S.wh=1 then .inl i else .inr {S with ln:=i}
 |l::r=>match P8 {S with ln:=i} l with
  |none=> .inl i
  |some S'=>Oi S' (i+1) r
def TS.sc(S:TS):Sc:=⟨S.w,S.h,S.bg,S.nds⟩
def sc0:Sc:=⟨0,0,Uq,[]⟩
def Qi(s:List UInt8):Sc×Nat×Int:=
 if 65536<s.length then(sc0,0,5)else if s.getLast? ≠some 10 then(sc0,0,3)else match Oi ts0 0 (Nq s)with
  | .inl i=>(sc0,i,3)
  | .inr S=>if 0≤S.far then(sc0,S.far.toNat,6)else if Ai S.sc=true∧F6 S.sc=s then(S.sc,0,0)else(sc0,(Nq s).length,18)
structure Lj(S:Nat→Prop)(G:World→Prop)(u:World):Prop where
 lt:∀b,S b→b<u.heap.size
 ok:∀v,u.heap.size≤v.heap.size→(∀b,S b→v.heap[b]? =u.heap[b]?)→G v
section
variable{S S2:Nat→Prop}{G G2:World→Prop}{u v w w':World}{X:Type}{val:X→Value}{F:X→World→Prop}{e:Ending}
theorem Lj.get(h:Lj S G u):G u:=h.ok u (Nat.le_refl _) fun _ _=>rfl
theorem Lj.to(h:Lj S G u)(e1:u.heap.size≤v.heap.size)(e2:∀b,S b→v.heap[b]? =u.heap[b]?):Lj S G v:=
 ⟨fun b hb=>Nat.lt_of_lt_of_le (h.lt b hb) e1,fun x k1 k2=>h.ok x (Nat.le_trans e1 k1) fun b hb=>(k2 b hb).trans (e2 b hb)⟩
theorem Lj.left{L:List Nat}(h:Lj S G u)(e1:u.heap.size=v.heap.size)(e2:∀b,b∉L→u.heap[b]? =v.heap[b]?)(hL:∀b,S b→b∉L):Lj S G v:=
 h.to Zo fun b hb=>(e2 b (hL b hb)).symm
theorem Lj.and(h:Lj S G u)(h2:Lj S2 G2 u):Lj (fun b=>S b∨S2 b) (fun v=>G v∧G2 v) u:=
 ⟨fun b hb=>hb.elim (h.lt b) (h2.lt b),fun v k1 k2=>⟨h.ok v k1 fun b hb=>k2 b (.inl hb),h2.ok v k1 fun b hb=>k2 b (.inr hb)⟩⟩
theorem Lj.imp(h:Lj S G u)(k:∀v,G v→G2 v):Lj S G2 u:=⟨h.lt,fun v k1 k2=>k v (h.ok v k1 k2)⟩
theorem Lj.triv(h:∀v,G v):Lj (fun _=>False) G u:=⟨fun b hb=>hb.elim,fun v _ _=>h v⟩
abbrev Gh(X:Type)(R:Nat→Prop):Type:={q:X×(Nat→Prop) //∀b,q.2 b→R b}
theorem K7.held{R:Nat→Prop}(h:K7 w val F e w')(hR:∀b,w.heap.size≤b→R b):K7 w (fun q:Gh X R=>val q.1.1) (fun q u=>Lj q.1.2 (F q.1.1) u) e w':=by
 obtain⟨x,h1,h2,h3⟩:=h
 exact⟨⟨(x,fun b=>w.heap.size≤b∧b<w'.heap.size),fun b hb=>hR b hb.1⟩,h1,h2,fun w'' k1 k2=>⟨fun b hb=>by omega,fun v k3 k4=>h3 v Zo fun b b1 b2=>(k4 b ⟨b1,b2⟩).trans (k2 b b1 b2)⟩⟩
end
section
variable{W w:World}{g n c:Nat}{A:Option Addr}{ws0 rest:WS}{f:Bool}{l s:List UInt8}{r:WS}
theorem xpath_m(hM:ML w)(hl:l.length≤65536):Calls Tryz.prog 199 #[K4 l] w (K7 w (fun y:Option Addr×Nat=> .tuple #[.slice y.1 (Mp l).1.length y.2,Zi (Mp l).2.1,Zi (Mp l).2.2]) fun y u=>Qt u y.1 (Mp l).1.length (Mp l).1):=by
 unfold Mp
 rw[if_neg Zo]
 by_cases h0:l=[]
 ·subst h0
  have e:Ob (L9 []) 0 []=([],0,0):=by kernel_rfl
  rw[e]
  refine parse_nil.mono fun e w' h=> ?_
  obtain⟨x,h1,h2,h3⟩:=h
  exact⟨(none,0),h1,h2,fun _ _ _=>⟨rfl,fun k s hk=>by cases hk⟩⟩
 ·exact parse_w (out:=(Ob (L9 l) 0 []).1) (at_:=(Ob (L9 l) 0 []).2.1) (e:=(Ob (L9 l) 0 []).2.2) hM h0 Zo rfl
theorem path_t{R:Nat→Prop}(hM:ML W)(hR:RE W w g A n c ws0)(hs:Ph ws0 n rest)(hb:K5 w g (L7 A n c rest.length f))(hQ:∀b,w.heap.size≤b→R b):Calls Tryz.prog 137 #[Zq g 0] w
 (Ld w [g] Qn (Vd f rest) (fun d (q:Gh (Option Addr×Nat) R)=> .slice q.1.1.1 d.1.length q.1.1.2) (fun d q u=>K5 u g (L7 A n c d.2.1.length d.2.2)∧Lj q.1.2 (fun v=>Qt v q.1.1.1 d.1.length d.1) u)):=by
 have lg:=hR.lg
 have hgl:=hb.lt
 cases rest with
 |nil=>
  exact K0.enterB Tryz.func137 rfl hR.hW lg hb <| ZR <| K0.mutx (L:=[g]) (Φ':=fun u=>Me W w g u) (fun w1 hw h=>Qk (hR.next hw h) h.2.2) (fun u h=>K9 (cs':=[]) lg u h) (fun wa u e1 e2 h _=>Mn wa u e1 e2 h) Zk Zk <| K0.pan fun w1 hw h=>Mm hR.hW hw h
 | cons s r=>
  have hsl:=hR.mem hs
  have hrd:Vd f (s::r)=if (Mp s).2.2=0 then some ((Mp s).1,r,f)else if (Mp s).2.2=6 then some ([],r,true)else none:=rfl
  rw[hrd]
  refine K0.enterB Tryz.func137 rfl hR.hW lg hb <| ZR <| K0.mut (L:=[g]) (Φ':=fun _ u=>Om W w g (L7 A n c r.length f) u) (fun w1 hw h=>Oq (hR.next hw h) hs h.2.2) (fun u h=>K9 (cs':=[]) lg u h) (fun _ wa u e1 e2 h hG=>Kg wa u e1 e2 h hG) Zk Zk fun _=>ZR <| ZC (fun w1 hw h=>(xpath_m (l:=s) (hM.below hw) Zo).mono fun e w' t=>t.held (R:=fun b=>w.heap.size≤b) fun b hb=>Nat.le_trans h.1 hb) fun y=> ?_
  by_cases h0:(Mp s).2.2=0
  ·rw[if_pos h0]
   refine ZJ (((Mp s).2.2==0)) true (beq_iff_eq.2 h0) <| ZV (.slice y.1.1.1 (Mp s).1.length y.1.1.2) (fun w1 hw h=>by have k:=h w1 (Nat.le_refl _) (fun _ _ _=>rfl);exact Oe (val:=fun q:Gh (Option Addr×Nat) R=> .slice q.1.1.1 (Mp s).1.length q.1.1.2) ⟨y.1,fun b hb=>hQ b (y.2 b hb)⟩ hR.hW hw k.1 fun w'' k1 k2=>⟨k.1.2.2.to (k2 g (.inl Zs)),k.2.to k1 fun b hb=>k2 b (.inr ⟨y.2 b hb,k.2.lt b hb⟩)⟩)
  rw[if_neg h0]
  refine ZJ (((Mp s).2.2==0)) false (beq_eq_false_iff_ne.2 h0) ?_
  by_cases h6:(Mp s).2.2=6
  ·rw[if_pos h6]
   refine ZJ (((Mp s).2.2==6)) true (beq_iff_eq.2 h6) <| K0.mutSt (L:=[g]) (G:=fun u=>K5 u g (L7 A n c r.length true)) (Φ':=Om W w g (L7 A n c r.length true)) (Tc 4 ⟨g,1,none⟩ Zt) (fun w1 hw h=>h.1.2.2.store1 (j:=1) Zk rfl Zs rfl) (fun u h=>K9 (cs':=[]) lg u h.1) (fun wa u e1 e2 h hG=>Kg wa u e1 e2 h.1 hG) Zk Zk <| ZR <| ZV (.slice none 0 0) (fun w1 hw h=>by have k:=h w1 (Nat.le_refl _) (fun _ _ _=>rfl);exact Oe (val:=fun q:Gh (Option Addr×Nat) R=> .slice q.1.1.1 0 q.1.1.2) ⟨((none,0),fun _=>False),fun b hb=>hb.elim⟩ hR.hW hw k fun w'' k1 k2=>⟨k.2.2.to (k2 g (.inl Zs)),Lj.triv fun v=>⟨rfl,fun k s hk=>by cases hk⟩⟩)
  rw[if_neg h6]
  exact ZJ (((Mp s).2.2==6)) false (beq_eq_false_iff_ne.2 h6) <| K0.throw (Instr.panic Ke >>= fun v=>pure (.value v)) Ke Zk (fun w1 hw h=>by simp[Instr.panic,Ke,Go.goPanic]) Zk <| K0.pan fun w1 hw h=>Mg hR.hW hw h.1
theorem bit_t(hR:RE W w g A n c ws0)(hs:Ph ws0 n rest)(hb:K5 w g (L7 A n c rest.length f)):Calls Tryz.prog 136 #[Zq g 0] w
 (Ld w [g] Qn (Fc f rest) (fun d (_:Unit)=> .bool d.1) (fun d _ u=>K5 u g (L7 A n c d.2.1.length d.2.2))):=by
 have lg:=hR.lg
 cases rest with
 |nil=>
  exact K0.enterB Tryz.func136 rfl hR.hW lg hb <| ZR <| K0.mutx (L:=[g]) (Φ':=fun u=>Me W w g u) (fun w1 hw h=>Qk (hR.next hw h) h.2.2) (fun u h=>K9 (cs':=[]) lg u h) (fun wa u e1 e2 h _=>Mn wa u e1 e2 h) Zk Zk <| K0.pan fun w1 hw h=>Mm hR.hW hw h
 | cons s r=>
  have hrd:Fc f (s::r)=if s=[48]then some (false,r,f)else if s=[49]then some (true,r,f)else none:=rfl
  rw[hrd]
  refine K0.enterB Tryz.func136 rfl hR.hW lg hb <| ZR <| K0.mut (L:=[g]) (Φ':=fun _ u=>Om W w g (L7 A n c r.length f) u) (fun w1 hw h=>Oq (hR.next hw h) hs h.2.2) (fun u h=>K9 (cs':=[]) lg u h) (fun _ wa u e1 e2 h hG=>Kg wa u e1 e2 h hG) Zk Zk fun _=>ZS 0 ?_
  by_cases h0:s=[48]
  ·rw[if_pos h0]
   refine ZA (Qf .eql 9 (.tmp 4) (.const (.string ⟨#[48]⟩)) (K4 s) (K4 [48])) Zt (fun w1 hw h=>Ks (by simpa using h0)) <| ZI true <| ZV Zf (fun w1 hw h=>Mt hR.hW hw (h w1 (Nat.le_refl _) fun _ _ _=>rfl))
  rw[if_neg h0]
  refine ZA (Qf .eql 9 (.tmp 4) (.const (.string ⟨#[48]⟩)) (K4 s) (K4 [48])) Zf (fun w1 hw h=>Ks (by simpa using h0)) <| K0.cond false Zk <| ZS 0 ?_
  by_cases h1:s=[49]
  ·rw[if_pos h1]
   refine ZA (Qf .eql 9 (.tmp 4) (.const (.string ⟨#[49]⟩)) (K4 s) (K4 [49])) Zt (fun w1 hw h=>Ks (by simpa using h1)) <| ZI true <| ZV Zt (fun w1 hw h=>Mt hR.hW hw (h w1 (Nat.le_refl _) fun _ _ _=>rfl))
  rw[if_neg h1]
  exact ZA (Qf .eql 9 (.tmp 4) (.const (.string ⟨#[49]⟩)) (K4 s) (K4 [49])) Zf (fun w1 hw h=>Ks (by simpa using h1)) <| ZI false <| K0.throw (Instr.panic Ke >>= fun v=>pure (.value v)) Ke Zk (fun w1 hw h=>by simp[Instr.panic,Ke,Go.goPanic]) Zk <| K0.pan fun w1 hw h=>Mg hR.hW hw h
end
section
variable{W w:World}{g n c:Nat}{A:Option Addr}{ws0 rest:WS}{f:Bool}{l s:List UInt8}{r:WS}
theorem mem_get{L:WS}(h:s∈L):∃k:Nat,L[k]? =some s:=List.mem_iff_getElem?.1 h
theorem str_neg{y k:Nat}{v2:Value}{L:WS}(hb:K5 w g [.slice A n c,v2])(h:L3 w (some ⟨y,0,none⟩) k L)(h0:L≠[]):∀b∈bl (some (⟨y,0,none⟩:Addr)),b∉[g]:=by
 cases L with
 |nil=>exact absurd rfl h0
 |cons s L=>exact str_ne (v:=v2) hb h
theorem word_g{k:Nat}{L:WS}{fr:Int}{of_:List UInt8}(hL:L≠[])(hk:k≤100)(hfr:0≤fr∧fr≤100)(hN:∀w1:World,Calls Tryz.prog 68 #[K4 of_] w1 (K7 w1 (fun y:Nat=> .tuple #[.slice (some ⟨y,0,none⟩) k k,Zi fr]) fun y u=>L3 u (some ⟨y,0,none⟩) k L))
 (hR:RE W w g A n c ws0) (hs:Ph ws0 n rest) (hb:K5 w g (L7 A n c rest.length f)):Calls Tryz.prog 89 #[Zq g 0,K4 of_] w
 (Ld w [g] Qn (Dg L fr f rest) (fun d (_:Unit)=>Zi d.1) (fun d _ u=>K5 u g (L7 A n c d.2.1.length d.2.2))):=by
 have lg:=hR.lg
 refine K0.enterB Tryz.func89 rfl hR.hW lg hb <| ZR <| ZC (fun w1 hw h=>hN w1) fun y=> ?_
 cases rest with
 |nil=>
  exact K0.mutx (L:=[g]) (Φ':=fun u=>Me W w g u) (fun w1 hw h=>Qk (hR.next hw h.1) h.1.2.2) (fun u h=>K9 (cs':=[]) lg u h.1) (fun wa u e1 e2 h _=>Mn wa u e1 e2 h.1) Zk Zk <| K0.pan fun w1 hw h=>Mm hR.hW hw h
 |cons s r=>
 refine K0.pure_ (p:=L.length=k) (fun w1 hw h=>h.2.1) Zk fun hLk=>K0.mut (L:=[g]) (Φ':=fun _ u=>Om W w g (L7 A n c r.length f) u∧L3 u (some ⟨y,0,none⟩) k L) (fun w1 hw h=>Oq (hR.next hw h.1) hs h.1.2.2) (fun u h=>K9 (cs':=[]) lg u h.1) (fun _ wa u e1 e2 h hG=>⟨Kg wa u e1 e2 h.1 hG,h.2.left e2 (str_neg (v2:= .bool f) h.1.2.2 h.2 hL)⟩) Zk Zk fun _=>ZR ?_
 have hrd:Dg L fr f (s::r)=(S9 s L).map fun(k:Nat)=>(fr+(k:Int),r,f):=rfl
 rw[hrd]
 refine K0.loop (ι:={j:Nat // j≤k∧∀i,i<j→L[i]? ≠some s}) 33 (fun j=>⟨[(6,.v (Zi fr)),(7,.v (K4 s)),(17,.v (.slice (some ⟨y,0,none⟩) k k)),(18,.v (Zi k)),(19,.v (Zi j.1))],[]⟩) (fun j u=>Om W w g (L7 A n c r.length f) u∧L3 u (some ⟨y,0,none⟩) k L) (fun j=>k-j.1) (⟨0,Nat.zero_le _,fun i hi=>absurd hi (Nat.not_lt_zero _)⟩) Zk (fun _=>by kernel_rfl) ⟨Zk,Zk,Zk⟩ (fun u h=>h) ?_
 rintro⟨j,hj,hall⟩ gg
 have hj:j≤k:=hj
 have hall:∀i,i<j→L[i]? ≠some s:=hall
 by_cases hlt:j<k
 case neg=>
  obtain rfl:j=k:=by omega
  have he:S9 s L=none:=Hf fun hm=>by
   obtain⟨i,hi⟩:=mem_get hm
   exact hall i (by have:=(List.getElem?_eq_some_iff.1 hi).1;omega) hi
  rw[he]
  exact ZR <| ZJ (decide ((j:Int)<(j:Int))) false Zs <| K0.leave Zk <| ZR <| K0.throw (Instr.panic Ke >>= fun v=>pure (.value v)) Ke Zk (fun w1 hw h=>by simp[Instr.panic,Ke,Go.goPanic]) Zk <| K0.pan fun w1 hw h=>Mg hR.hW hw h.1
 obtain⟨x,hx⟩:∃x,L[j]? =some x:=⟨_,List.getElem?_eq_getElem Zo⟩
 refine ZR <| ZJ (decide ((j:Int)<(k:Int))) true Zp <| ZA (Kj 66 (.slice (some ⟨y,0,none⟩) k k) j) (.pointer (some ((⟨y,0,none⟩:Addr).add j))) (fun w1 hw h=>Kn (elem:=9) Zk Zk hlt) <| K0.ask (L5 9 ((⟨y,0,none⟩:Addr).add j)) (K4 x) Zk (fun w1 hw h=>K8 Zk (by obtain⟨ad,q1,q2⟩:=h.2.2 j x hx;cases q1;exact q2)) <| ZS 2 ?_
 by_cases h0:x=s
 ·subst h0
  refine ZA (Qf .eql 9 (.tmp 24) (.tmp 25) (K4 x) (K4 x)) Zt (fun w1 hw h=>Ks Zs) <| ZI true ?_
  rw[Ed hx hall]
  refine K0.leave Zk <| ZR <| ZV (Zi (IntKind.i64.wrap (fr+(j:Int)))) (fun w1 hw h=>by rw[IntWalk.i64_in _ Zo];exact Mt hR.hW hw (h w1 (Nat.le_refl _) fun _ _ _=>rfl).1)
 refine ZA (Qf .eql 9 (.tmp 24) (.tmp 25) (K4 x) (K4 s)) Zf (fun w1 hw h=>Ks (by simpa using h0)) <| ZI false ?_
 have hn:∀i,i<j+1→L[i]? ≠some s:=fun i hi e=>by
  by_cases h1:i=j
  ·subst h1;rw[hx]at e;exact h0 (Option.some.inj e)
  ·exact hall i Zo e
 refine K0.slot 19 (Zi (IntKind.i64.wrap ((j:Int)+1))) (Zi ((j+1:Nat):Int)) Zk (by rw[Kd hlt Zo]) <| K0.next (⟨j+1,by show j+1≤k;omega,hn⟩) Zk (by show k- (j+1)<k-j;omega) ⟨Zk,Zk,Zk⟩ (fun u h=>h)
theorem word_join(hR:RE W w g A n c ws0)(hs:Ph ws0 n rest)(hb:K5 w g (L7 A n c rest.length f)):Calls Tryz.prog 89 #[Zq g 0,.string ⟨#[106,111,105,110]⟩] w
 (Ld w [g] Qn (Dg Sp 1 f rest) (fun d (_:Unit)=>Zi d.1) (fun d _ u=>K5 u g (L7 A n c d.2.1.length d.2.2))):=word_g (of_:=[106,111,105,110]) Zd Zd Zd (fun w1=>names_join) hR hs hb
theorem word_cap(hR:RE W w g A n c ws0)(hs:Ph ws0 n rest)(hb:K5 w g (L7 A n c rest.length f)):Calls Tryz.prog 89 #[Zq g 0,.string ⟨#[99,97,112]⟩] w
 (Ld w [g] Qn (Dg Xh 3 f rest) (fun d (_:Unit)=>Zi d.1) (fun d _ u=>K5 u g (L7 A n c d.2.1.length d.2.2))):=word_g (of_:=[99,97,112]) Zd Zd Zd (fun w1=>names_cap) hR hs hb
def mdV(s:List UInt8):Int:=match S9 s Ms with
 |some k=>1+(k:Int)
 |none=>0
theorem run_mdI{k:Nat}(hk:k<14):(Ak 179 R5 (Zi (k:Int))).run Tryz.prog w= .ok (.value (K4 ((([]:List UInt8)::Ms).getD k []))) w:=
 match k,hk with
 |0,_=>(show(Ak 179 R5 (.int .i64 0)).run Tryz.prog w= .ok (.value (K4 ((([]:List UInt8)::Ms).getD 0 []))) w by kernel_rfl)
 |1,_=>(show(Ak 179 R5 (.int .i64 1)).run Tryz.prog w= .ok (.value (K4 ((([]:List UInt8)::Ms).getD 1 []))) w by kernel_rfl)
 |2,_=>(show(Ak 179 R5 (.int .i64 2)).run Tryz.prog w= .ok (.value (K4 ((([]:List UInt8)::Ms).getD 2 []))) w by kernel_rfl)
 |3,_=>(show(Ak 179 R5 (.int .i64 3)).run Tryz.prog w= .ok (.value (K4 ((([]:List UInt8)::Ms).getD 3 []))) w by kernel_rfl)
 |4,_=>(show(Ak 179 R5 (.int .i64 4)).run Tryz.prog w= .ok (.value (K4 ((([]:List UInt8)::Ms).getD 4 []))) w by kernel_rfl)
 |5,_=>(show(Ak 179 R5 (.int .i64 5)).run Tryz.prog w= .ok (.value (K4 ((([]:List UInt8)::Ms).getD 5 []))) w by kernel_rfl)
 |6,_=>(show(Ak 179 R5 (.int .i64 6)).run Tryz.prog w= .ok (.value (K4 ((([]:List UInt8)::Ms).getD 6 []))) w by kernel_rfl)
 |7,_=>(show(Ak 179 R5 (.int .i64 7)).run Tryz.prog w= .ok (.value (K4 ((([]:List UInt8)::Ms).getD 7 []))) w by kernel_rfl)
 |8,_=>(show(Ak 179 R5 (.int .i64 8)).run Tryz.prog w= .ok (.value (K4 ((([]:List UInt8)::Ms).getD 8 []))) w by kernel_rfl)
 |9,_=>(show(Ak 179 R5 (.int .i64 9)).run Tryz.prog w= .ok (.value (K4 ((([]:List UInt8)::Ms).getD 9 []))) w by kernel_rfl)
 |10,_=>(show(Ak 179 R5 (.int .i64 10)).run Tryz.prog w= .ok (.value (K4 ((([]:List UInt8)::Ms).getD 10 []))) w by kernel_rfl)
 |11,_=>(show(Ak 179 R5 (.int .i64 11)).run Tryz.prog w= .ok (.value (K4 ((([]:List UInt8)::Ms).getD 11 []))) w by kernel_rfl)
 |12,_=>(show(Ak 179 R5 (.int .i64 12)).run Tryz.prog w= .ok (.value (K4 ((([]:List UInt8)::Ms).getD 12 []))) w by kernel_rfl)
 |13,_=>(show(Ak 179 R5 (.int .i64 13)).run Tryz.prog w= .ok (.value (K4 ((([]:List UInt8)::Ms).getD 13 []))) w by kernel_rfl)
theorem byName_v:Zv 135 #[K4 s] w (.tuple #[Zi (mdV s),.bool (S9 s Ms).isSome]):=by
 refine K0.enter Tryz.func135 rfl <| ZR <| ZC (fun w1 hw h=>mnames_v) fun u=>K0.loop (ι:={j:Nat // j≤14∧∀i,i+1<j→Ms[i]? ≠some s}) 20 (fun j=>⟨[(0,.v (K4 s)),(6,.v R5),(7,.v (Zi j.1))],[]⟩) (fun j u=>True) (fun j=>14-j.1) (⟨0,Nat.zero_le _,fun i hi=>absurd hi (Nat.not_lt_zero _)⟩) Zk (fun _=>by kernel_rfl) ⟨Zk,Zk,Zk⟩ (fun u h=>trivial) ?_
 rintro⟨j,hj,hall⟩ gg
 have hj:j≤14:=hj
 have hall:∀i,i+1<j→Ms[i]? ≠some s:=hall
 by_cases hlt:j<14
 case neg=>
  obtain rfl:j=14:=by omega
  have he:S9 s Ms=none:=Hf fun hm=>by
   obtain⟨i,hi⟩:=mem_get hm
   exact hall i (by have:=(List.getElem?_eq_some_iff.1 hi).1;have:Ms.length=13:=rfl;omega) hi
  exact ZR <| ZJ (decide (((14:Nat):Int)<14)) false Zd <| K0.leave Zk <| ZR <| ZX (.tuple #[Zi 0,.bool false]) (by unfold mdV;rw[he];rfl)
 refine ZR <| K0.condr (decide ((j:Int)<14)) true Zk Zp <| ZS 1 <| K0.ask (Ak 179 R5 (Zi j)) (K4 ((([]:List UInt8)::Ms).getD j [])) Zk (fun w1 hw h=>run_mdI hlt) <| ZS 2 <| K0.run Zk (stop:=1000) 2 _ <| ZS 3 ?_
 cases j with
 |zero=>
  refine ZT 13 (.bool (decide (((0:Nat):Int)>0))) Zf (by rw[decide_eq_false Zd]) <| ZI false <| K0.slot 7 (Zi (IntKind.i64.wrap (((0:Nat):Int)+1))) (Zi ((1:Nat):Int)) Zk (by rw[IntWalk.i64_in _ Zd];rfl) <| K0.next (⟨1,by decide,fun i hi=>absurd hi Zo⟩) Zk (by show 14-1<14-0;omega) ⟨Zk,Zk,Zk⟩ (fun u h=>trivial)
 | succ k=>
  obtain⟨x,hx⟩:∃x,Ms[k]? =some x:=⟨_,List.getElem?_eq_getElem (show k<Ms.length from by show k<13;omega)⟩
  have hg:(([]:List UInt8)::Ms).getD (k+1) []=x:=by rw[List.getD_eq_getElem?_getD,List.getElem?_cons_succ,hx];rfl
  rw[hg]
  refine K0.slot 13 (.bool (decide (((k+1:Nat):Int)>0))) Zt Zk (by rw[decide_eq_true Zo]) <| ZS 5 ?_
  by_cases h0:x=s
  ·subst h0
   have he:=Ed hx fun i hi=>hall i Zo
   exact ZA (Qf .eql 9 (.tmp 14) (.tmp 15) (K4 x) (K4 x)) Zt (fun w1 hw h=>Ks Zs) <| ZI true <| K0.leave Zk <| ZR <| ZX (.tuple #[Zi ((k+1:Nat):Int),.bool true]) (by unfold mdV;rw[he];show Ending.returned (.tuple #[Zi ((k+1:Nat):Int),.bool true])= .returned (.tuple #[Zi (1+(k:Int)),.bool true]);congr 5;omega)
  refine ZA (Qf .eql 9 (.tmp 14) (.tmp 15) (K4 x) (K4 s)) Zf (fun w1 hw h=>Ks (by simpa using h0)) <| ZI false ?_
  have hn:∀i,i+1<k+1+1→Ms[i]? ≠some s:=fun i hi e=>by
   by_cases h1:i=k
   ·subst h1;rw[hx]at e;exact h0 (Option.some.inj e)
   ·exact hall i Zo e
  refine K0.slot 7 (Zi (IntKind.i64.wrap (((k+1:Nat):Int)+1))) (Zi ((k+1+1:Nat):Int)) Zk (by rw[IntWalk.i64_in _ Zo];congr 1) <| K0.next (⟨k+1+1,by show k+1+1≤14;omega,hn⟩) Zk (by show 14- (k+1+1)<14- (k+1);omega) ⟨Zk,Zk,Zk⟩ (fun u h=>trivial)
end
section
variable{W w:World}{g n c:Nat}{A:Option Addr}{ws0 rest:WS}{f:Bool}{l s:List UInt8}{r:WS}
theorem rdQ_{D:Type}{Δ:List Deferred}{Q:Exit→Act→World→Prop}{F:World→Prop}{q:Option D}{vq:D→Value}{rs:D→WS}{fl:D→Bool}{e:FuncId}{args:Array Value}{c0:Nn}(hR:RE W w g A n c ws0)
 (hc:∀w1,RE W w1 g A n c ws0→K5 w1 g (L7 A n c rest.length f)→Calls Tryz.prog e args w1 (Ld w1 [g] Qn q (fun d (_:Unit)=>vq d) (fun d _ u=>K5 u g (L7 A n c (rs d).length (fl d)))))
 (hF:∀wa u:World,wa.heap.size=u.heap.size→(∀b,b∉[g]→wa.heap[b]? =u.heap[b]?)→Om W w g (L7 A n c rest.length f) wa→F wa→F u)
 (hp:q=none→K0 Tryz.prog Δ W Q (Me W w g) (amPan Qn c0))
 (hk:∀d,q=some d→K0 Tryz.prog Δ W Q (fun u=>Om W w g (L7 A n c (rs d).length (fl d)) u∧F u) (Lw Tryz.prog 1000 1000 (Le (.v (vq d)) c0)))
 (hf:Qj c0=true:=by kernel_rfl) (hc2:Lk Tryz.prog c0=some (e,args):=by kernel_rfl):K0 Tryz.prog Δ W Q (fun u=>Om W w g (L7 A n c rest.length f) u∧F u) c0:=by
 cases hq:q with
 |none=>exact K0.mutx (L:=[g]) (Φ':=fun u=>Me W w g u) (fun w1 hw h=>by have t:=hc w1 (hR.next hw h.1) h.1.2.2;rw[hq]at t;exact t) (fun u h=>K9 (cs':=[]) hR.lg u h.1) (fun wa u e1 e2 h _=>Mn wa u e1 e2 h.1) hf hc2 (hp hq)
 |some d=>exact K0.mut (L:=[g]) (Φ':=fun _ u=>Om W w g (L7 A n c (rs d).length (fl d)) u∧F u) (fun w1 hw h=>by have t:=hc w1 (hR.next hw h.1) h.1.2.2;rw[hq]at t;exact t) (fun u h=>K9 (cs':=[]) hR.lg u h.1) (fun _ wa u e1 e2 h hG=>⟨Kg wa u e1 e2 h.1 hG,hF wa u e1 e2 h.1 h.2⟩) hf hc2 (fun _=>K0.run Zk 1000 _ (hk d hq))
theorem rdT_{D D2 X2:Type}{fn:Func}{o2:Option D2}{val2:D2→X2→Value}{G2:D2→X2→World→Prop}{F:World→Prop}{q:Option D}{vq:D→Value}{rs:D→WS}{fl:D→Bool}{e:FuncId}{args:Array Value}{c0:Nn}(hR:RE W w g A n c ws0)
 (hc:∀w1,RE W w1 g A n c ws0→K5 w1 g (L7 A n c rest.length f)→Calls Tryz.prog e args w1 (Ld w1 [g] Qn q (fun d (_:Unit)=>vq d) (fun d _ u=>K5 u g (L7 A n c (rs d).length (fl d)))))
 (hF:∀wa u:World,wa.heap.size=u.heap.size→(∀b,b∉[g]→wa.heap[b]? =u.heap[b]?)→Om W w g (L7 A n c rest.length f) wa→F wa→F u)
 (hn:q=none→o2=none)
 (hk:∀d,q=some d→K0 Tryz.prog [] W (bodyPost Tryz.prog fn (Ld w [g] Qn o2 val2 G2)) (fun u=>Om W w g (L7 A n c (rs d).length (fl d)) u∧F u) (Lw Tryz.prog 1000 1000 (Le (.v (vq d)) c0)))
 (hf:Qj c0=true:=by kernel_rfl) (hc2:Lk Tryz.prog c0=some (e,args):=by kernel_rfl):K0 Tryz.prog [] W (bodyPost Tryz.prog fn (Ld w [g] Qn o2 val2 G2)) (fun u=>Om W w g (L7 A n c rest.length f) u∧F u) c0:=
 rdQ_ hR hc hF (fun e=>K0.pan fun w1 hw h=>by rw[hn e];exact Mm hR.hW hw h) hk hf hc2
theorem noF:∀wa u:World,wa.heap.size=u.heap.size→(∀b,b∉[g]→wa.heap[b]? =u.heap[b]?)→Om W w g (L7 A n c rest.length f) wa→True→True:=fun _ _ _ _ _ h=>h
theorem next_t(hR:RE W w g A n c ws0)(hs:Ph ws0 n rest)(hb:K5 w g (L7 A n c rest.length f)):Calls Tryz.prog 76 #[Zq g 0] w
 (Ld w [g] Qn (match rest with| []=>none|s::r=>some (s,r)) (fun d (_:Unit)=>K4 d.1) (fun d _ u=>K5 u g (L7 A n c d.2.length f))):=by
 cases rest with
 |nil=>exact Qk hR hb
 |cons s r=>exact Oq hR hs hb
theorem rdNs_zero:E6 0 f rest=some ([],rest,f):=rfl
theorem Cm{m:Nat}:E6 (m+1) f rest=(Vq f rest).bind fun x=>(E6 m x.2.2 x.2.1).map fun l=>(x.1::l.1,l.2.1,l.2.2):=rfl
theorem app_int{B m yc gb:Nat}{y:Option Addr}{acc:List Int}{x:Int}(ho:K6 w B 3 1 y m yc (acc.map fun z=>Value.int .i64 z))(hB:B≤w.heap.size)(hg:L4 3 #[Zi x] gb w)(hm:m<1000000):
 Ot Tryz.prog w (bl y) (fun z:Option Addr×Nat=> .slice z.1 (m+1) z.2) (fun z v=>K6 v B 3 1 z.1 (m+1) z.2 ((acc++ [x]).map fun z=>Value.int .i64 z)) (M9 45 45 (.slice y m yc) (Kf 1 gb)):=by
 have ha:=O3 (P:=Tryz.prog) (s:=1) (z:=Zi 0) (bytes:=8) (m:=1) (cc:=1) (t:=45) (elem:=3) Zk Zk rfl Zd ho hB (N5 (n:=1) hg rfl) (by intro v hv;simp at hv;subst hv;rfl) Zo Zd
 rw[List.map_append];exact ha
theorem own_ints{B m yc:Nat}{y:Option Addr}{acc:List Int}(h:K6 w B 3 1 y m yc (acc.map fun z=>Value.int .i64 z))(hm:acc.length=m):Ma w y m 1 daC acc:=by
 refine⟨hm,fun k x hx=> ?_⟩
 have hk:=(List.getElem?_eq_some_iff.1 hx).1
 obtain⟨g,h1,h2⟩:=h.cells Zo
 refine⟨_,h1,fun j v hv=> ?_⟩
 have hj:j=0:=by
  have:=(List.getElem?_eq_some_iff.1 hv).1
  simp[daC]at this;omega
 subst hj
 simp only[daC,List.getElem?_cons_zero,Option.some.injEq]at hv
 subst hv
 rw[Nat.mul_one,Ei,Nat.add_zero,Addr.add_mid,Nat.zero_add]
 exact h2 k _ (by rw[List.getElem?_map,hx];rfl)
theorem pen_t{R:Nat→Prop}(hR:RE W w g A n c ws0)(hs:Ph ws0 n rest)(hb:K5 w g (L7 A n c rest.length f))(hQ:∀b,w.heap.size≤b→R b):Calls Tryz.prog 139 #[Zq g 0] w
 (Ld w [g] Qn (A9 f rest) (fun d (q:Gh (Option Addr×Nat) R)=>styV d.1 q.1.1) (fun d q u=>K5 u g (L7 A n c d.2.1.length d.2.2)∧Lj q.1.2 (fun v=>Ma v q.1.1.1 d.1.d.length 1 daC d.1.d) u)):=by
 have lg:=hR.lg
 have hg:=hb.lt
 have hn2:=hR.hn2
 obtain⟨o,ho⟩:∃o,o=A9 f rest:=⟨_,rfl⟩
 rw[←ho]
 unfold A9 at ho
 refine K0.enterB Tryz.func139 rfl hR.hW lg hb <| ZR <| K0.weak Zk (fun u h=>(⟨h,trivial⟩:Om W w g (L7 A n c rest.length f) u∧True)) <| rdT_ hR (fun w1 k1 k2=>Mc k1 hs k2) noF (fun e=>by rw[ho,e];rfl) fun d e1=> ?_
 rw[e1,Option.bind_some]at ho
 obtain⟨x1,r1,f1⟩:=d
 have hs1:=M2 hs e1
 refine rdT_ hR (fun w1 k1 k2=>word_join k1 hs1 k2) noF (fun e=>by rw[ho];simp only;rw[e];rfl) fun d e2=> ?_
 simp only at ho
 rw[e2,Option.bind_some]at ho
 obtain⟨x2,r2,f2⟩:=d
 have hs2:=O0 hs1 e2
 refine rdT_ hR (fun w1 k1 k2=>word_cap k1 hs2 k2) noF (fun e=>by rw[ho];simp only;rw[e];rfl) fun d e3=> ?_
 simp only at ho
 rw[e3,Option.bind_some]at ho
 obtain⟨x3,r3,f3⟩:=d
 have hs3:=O0 hs2 e3
 refine rdT_ hR (fun w1 k1 k2=>Mc k1 hs3 k2) noF (fun e=>by rw[ho];simp only;rw[e];rfl) fun d e4=> ?_
 simp only at ho
 rw[e4,Option.bind_some]at ho
 obtain⟨x4,r4,f4⟩:=d
 have hs4:=M2 hs3 e4
 refine rdT_ hR (fun w1 k1 k2=>Mc k1 hs4 k2) noF (fun e=>by rw[ho];simp only;rw[e];rfl) fun d e5=> ?_
 simp only at ho
 rw[e5,Option.bind_some]at ho
 obtain⟨x5,r5,f5⟩:=d
 have hs5:=M2 hs4 e5
 simp only at ho
 refine rdT_ hR (fun w1 k1 k2=>next_t k1 hs5 k2) noF (fun e=>by rw[ho];cases r5 with|nil=>rfl|cons s r=>cases e) fun d e6=> ?_
 cases r5 with
 |nil=>cases e6
 |cons s r=>
 cases e6
 have hsl:=hR.mem hs5
 have hs6:=hs5.tail
 have hrl:r.length≤n:=hs6.2
 have hds:rdDs f5 (s::r)=if Aj s≠0∨Ry s<0∨Ry s>(r.length:Int)then none else E6 (Ry s).toNat f5 r:=rfl
 rw[hds]at ho
 rcases piE_vals s with hE|hE|hE|hE
 rotate_left
 ·rw[if_pos (.inl (by rw[hE];decide))]at ho
  have hN:o=none:=by rw[ho];rfl
  exact ZC (fun w1 hw h=>Pi (l:=s) hE rfl Zo) fun _=>ZI true <| K0.throw (Instr.panic Ke >>= fun v=>pure (.value v)) Ke Zk (fun w1 hw h=>by simp[Instr.panic,Ke,Go.goPanic]) Zk <| K0.pan fun w1 hw h=>by rw[hN];exact Mg hR.hW hw h.1.1
 ·rw[if_pos (.inl (by rw[hE];decide))]at ho
  have hN:o=none:=by rw[ho];rfl
  exact ZC (fun w1 hw h=>Pi (l:=s) hE rfl Zo) fun _=>ZI true <| K0.throw (Instr.panic Ke >>= fun v=>pure (.value v)) Ke Zk (fun w1 hw h=>by simp[Instr.panic,Ke,Go.goPanic]) Zk <| K0.pan fun w1 hw h=>by rw[hN];exact Mg hR.hW hw h.1.1
 ·rw[if_pos (.inl (by rw[hE];decide))]at ho
  have hN:o=none:=by rw[ho];rfl
  exact ZC (fun w1 hw h=>Pi (l:=s) hE rfl Zo) fun _=>ZI true <| K0.throw (Instr.panic Ke >>= fun v=>pure (.value v)) Ke Zk (fun w1 hw h=>by simp[Instr.panic,Ke,Go.goPanic]) Zk <| K0.pan fun w1 hw h=>by rw[hN];exact Mg hR.hW hw h.1.1
 refine K0.callv (fun w1 hw h=>Pi (l:=s) hE rfl Zo) Zk fun _=>K0.run Zk (stop:=1000) 5 _ <| ZS 7 ?_
 by_cases hneg:Ry s<0
 ·rw[if_pos (.inr (.inl hneg))]at ho
  have hN:o=none:=by rw[ho];rfl
  exact ZT 33 (.bool (decide (Ry s<0))) Zt (by rw[decide_eq_true hneg]) <| ZI true <| K0.throw (Instr.panic Ke >>= fun v=>pure (.value v)) Ke Zk (fun w1 hw h=>by simp[Instr.panic,Ke,Go.goPanic]) Zk <| K0.pan fun w1 hw h=>by rw[hN];exact Mg hR.hW hw h.1.1
 refine ZT 33 (.bool (decide (Ry s<0))) Zf (by rw[decide_eq_false hneg]) <| ZA (L5 66 ⟨g,0,none⟩) (rsl A n c r.length) (fun w1 hw h=>K8 Zk (by rw[h.1.1.2.2.cell];rfl)) ?_
 by_cases hbig:Ry s>(r.length:Int)
 ·rw[if_pos (.inr (.inr hbig))]at ho
  have hN:o=none:=by rw[ho];rfl
  exact ZJ (decide (Ry s>(r.length:Int))) true (decide_eq_true hbig) <| K0.throw (Instr.panic Ke >>= fun v=>pure (.value v)) Ke Zk (fun w1 hw h=>by simp[Instr.panic,Ke,Go.goPanic]) Zk <| K0.pan fun w1 hw h=>by rw[hN];exact Mg hR.hW hw h.1.1
 rw[if_neg (fun h1=>h1.elim (fun h=>h hE) fun h1=>h1.elim hneg hbig)]at ho
 refine ZJ (decide (Ry s>(r.length:Int))) false (decide_eq_false hbig) ?_
 obtain⟨N,hN⟩:∃N:Nat,Ry s=N:=⟨(Ry s).toNat,(Int.toNat_of_nonneg Zo).symm⟩
 have hNt:(Ry s).toNat=N:=by omega
 have hNr:N≤r.length:=by omega
 rw[hNt]at ho
 refine K0.loop (ι:={q:(WS×Bool×List Int×Nat)×(Option Addr×Nat) // Ph ws0 n q.1.1∧q.1.2.2.1.length=q.1.2.2.2∧q.1.2.2.2≤N∧o=(E6 (N-q.1.2.2.2) q.1.2.1 q.1.1).map (fun d=>(⟨x1,x2,x3,x4,q.1.2.2.1++d.1,x5⟩,d.2.1,d.2.2))}) 56 (fun q=>⟨[(0,.v (Zq g 0)),(2,.p 2 0),(3,.p 3 0),(44,.v (Zi (Ry s))),(45,.v (Zi q.1.1.2.2.2))],[(2,[.v (Zi 0),.v (Zi 0),.v (Zi 0),.v (Zi 0),.v (.slice none 0 0),.v (Zi 0)]),(3,[.v (Zi x1),.v (Zi x2),.v (Zi x3),.v (Zi x4),.v (.slice q.1.2.1 q.1.1.2.2.2 q.1.2.2),.v (Zi x5)])]⟩) (fun q u=>Om W w g (L7 A n c q.1.1.1.length q.1.1.2.1) u∧K6 u w.heap.size 3 1 q.1.2.1 q.1.1.2.2.2 q.1.2.2 (q.1.1.2.2.1.map fun z=>Value.int .i64 z)) (fun q=>N-q.1.1.2.2.2) (⟨((r,f5,[],0),(none,0)),hs6,rfl,Nat.zero_le _,ho⟩) Zk (fun _=>by kernel_rfl) ⟨Zk,Zk,Zk⟩ (fun u h=>⟨h.1.1,K6.nil_⟩) ?_
 rintro⟨⟨⟨rest,f,acc,m⟩,y,yc⟩,hk⟩ gg
 have hs7:Ph ws0 n rest:=hk.1
 have hm:acc.length=m:=hk.2.1
 have hle:m≤N:=hk.2.2.1
 have hoo:o=(E6 (N-m) f rest).map (fun d=>(⟨x1,x2,x3,x4,acc++d.1,x5⟩,d.2.1,d.2.2)):=hk.2.2.2
 refine ZR ?_
 by_cases hlt:m<N
 ·obtain⟨j,hj⟩:∃j,N-m=j+1:=⟨N-m-1,by omega⟩
  have hj2:N- (m+1)=j:=by omega
  rw[hj,Cm]at hoo
  refine ZJ (decide ((m:Int)<Ry s)) true (decide_eq_true Zo) ?_
  cases he:Vq f rest with
  |none=>
   rw[he]at hoo
   have hNo:o=none:=by rw[hoo];rfl
   exact K0.panAny (L:=[g]) (Φ':=fun u=>Me W w g u) (fun w1 hw h=>by have t:=Mc (hR.next hw h.1) hs7 h.1.2.2;rw[he]at t;exact t) (fun u h=>K9 (cs':=[]) lg u h.1) (fun wa u e1 e2 h _=>Mn wa u e1 e2 h.1) Zk Zk fun σ'=>ZR <| K0.leave Zk <| ZR <| K0.panF Zk fun w1 hw h=>by rw[hNo];exact Mm hR.hW hw h
  |some d=>
   obtain⟨x,r2,f2⟩:=d
   have hs8:=M2 hs7 he
   rw[he,Option.bind_some,Option.map_map]at hoo
   refine K0.mutCallAny (L:=[g]) (Φ':=fun _ u=>Om W w g (L7 A n c r2.length f2) u∧K6 u w.heap.size 3 1 y m yc (acc.map fun z=>Value.int .i64 z)) (fun w1 hw h=>by have t:=Mc (hR.next hw h.1) hs7 h.1.2.2;rw[he]at t;exact t) (fun u h=>K9 (cs':=[]) lg u h.1) (fun _ wa u e1 e2 h hG=>⟨Kg wa u e1 e2 h.1 hG,K6.left h.2 e2 (Cv h.2 hg)⟩) Zk Zk fun _=>K0.make (Lq (45) 1 #[(0,Zi x)]) (Kf 1) (L4 3 #[Zi x]) Zk (fun w1 hw h=>Kc Zk) fun gb=>ZS 0 <| K0.mutAnyB (L:=bl y) (val:=fun(z:Option Addr×Nat)=> .slice z.1 (m+1) z.2) (Φ':=fun(z:Option Addr×Nat) u=>Om W w g (L7 A n c r2.length f2) u∧K6 u w.heap.size 3 1 z.1 (m+1) z.2 ((acc++ [x]).map fun z=>Value.int .i64 z)) (G:=fun(z:Option Addr×Nat) u=>K6 u w.heap.size 3 1 z.1 (m+1) z.2 ((acc++ [x]).map fun z=>Value.int .i64 z)) (M9 45 45 (.slice y m yc) (Kf 1 gb)) (fun w1 hw h=>app_int h.1.2 h.1.1.1 h.2 Zo) (fun u h=>fun b hb=>⟨Nat.le_trans hR.hW.size (h.1.2.lt b hb).1,(h.1.2.blk b hb).2⟩) (fun z wa u e1 e2 h hG=>⟨Hs (fun b hb=>(h.1.2.lt b hb).1) hg e1 e2 h.1.1,hG⟩) Zk Zk fun z=>ZR <| K0.slot 45 (Zi (IntKind.i64.wrap ((m:Int)+1))) (Zi ((m+1:Nat):Int)) Zk (by rw[IntWalk.i64_in _ Zo];congr 1) <| K0.next (⟨((r2,f2,acc++ [x],m+1),z),hs8,by simp[hm],hlt,by rw[hoo,hj2];simp[Function.comp_def]⟩) Zk (by show N- (m+1)<N-m;omega) ⟨Zk,Zk,Zk⟩ (fun u h=>h)
 ·refine ZJ (decide ((m:Int)<Ry s)) false (decide_eq_false Zo) ?_
  have hNm:N-m=0:=by omega
  rw[hNm,rdNs_zero]at hoo
  have hY:o=some (⟨x1,x2,x3,x4,acc,x5⟩,rest,f):=by rw[hoo];simp
  refine K0.leave Zk <| ZR <| ZV (.agg #[Zi x1,Zi x2,Zi x3,Zi x4,.slice y m yc,Zi x5]) (fun w1 hw h=>by subst hm;rw[hY];have k:Om W w g (L7 A n c rest.length f) w1∧K6 w1 w.heap.size 3 1 y acc.length yc (acc.map fun z=>Value.int .i64 z):=h w1 (Nat.le_refl _) (fun _ _ _=>rfl);exact Oe (val:=fun q:Gh (Option Addr×Nat) R=>styV ⟨x1,x2,x3,x4,acc,x5⟩ q.1.1) ⟨((y,yc),fun b=>b∈bl y),fun b hb=>hQ b (k.2.lt b hb).1⟩ hR.hW hw k.1 fun w'' k1 k2=>⟨k.1.2.2.to (k2 g (.inl Zs)),⟨fun b hb=>Nat.lt_of_lt_of_le (k.2.lt b hb).2 k1,fun v e1 e2=>own_ints ((k.2.same fun b hb=>k2 b (.inr (k.2.lt b hb))).same fun b hb=>e2 b hb) rfl⟩⟩)
end
end Go.Proofs.YtoeiphicmcndlaaGreatDoor
