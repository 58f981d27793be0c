/-
 Paints as text: the reader.
-/
import Derived.Test.YtoeiphicmcndlaaGreatDoorAUQ
import Derived.Test.YtoeiphicmcndlaaGreatDoorTA
import Derived.Test.YtoeiphicmcndlaaGreatDoorAO
import Derived.Recover
import Derived.Test.YtoeiphicmcndlaaGreatDoorVD
namespace Go.Proofs.YtoeiphicmcndlaaGreatDoor
set_option maxRecDepth 100000
set_option maxHeartbeats 8000000
set_option linter.unusedVariables false
set_option linter.unusedSimpArgs false
open Go.RowKit
abbrev WS:=List (List UInt8)
abbrev Co:=UInt8×UInt8×UInt8×UInt8
def Ep(c:Co):List UInt8:=[c.1,c.2.1,c.2.2.1,c.2.2.2]
structure Im where
 w:Int
 h:Int
 px:List Co
structure Pn where
 kind:Int
 co:Co
 p0x:Int
 p0y:Int
 p1x:Int
 p1y:Int
 rad:Int
 stops:List (Int×Co)
 spread:Int
 im:Im
 samp:Int
 T:Y0
def Uq:Co:=(0,0,0,0)
def Di:Im:=⟨0,0,[]⟩
def Px:Y0:=⟨0,0,0,0,0,0⟩
def Ln:WS:=[[110,111,110,101],[112,97,100],[114,101,112,101,97,116],[114,101,102,108,101,99,116]]
def Oc:WS:=[[110,101,97,114,101,115,116],[98,105,108,105,110,101,97,114]]
def Pr:List UInt8:=[115,111,108,105,100]
def Qc:List UInt8:=[108,105,110,101,97,114]
def Qp:List UInt8:=[114,97,100,105,97,108]
def M5:List UInt8:=[112,97,116,116,101,114,110]
def Kz(l:WS)(frm:Int)(k:Int):List UInt8:=(l[(k-frm).toNat]?).getD []
def Oz(T:Y0):WS:=[Kr T.a,Kr T.b,Kr T.c,Kr T.d,Kr T.e,Kr T.f]
def Pd(c:Co):List UInt8:=35::T1 (Ep c)
def hexW(px:List Co):List UInt8:=T1 (px.flatMap Ep)
def Hd(m:Im):WS:=[Kb m.w,Kb m.h,hexW m.px]
def Cb(l:List (Int×Co)):WS:=l.flatMap fun x=>[Kb x.1,Pd x.2]
def Rx(P:Pn):WS:=
 if P.kind=1 then [Pr,Pd P.co]
 else if P.kind=4 then [M5,Kz Ln 0 P.spread,Kz Oc 1 P.samp]++Oz P.T++Hd P.im
 else if P.kind=2 then [Qc,Kb P.p0x,Kb P.p0y,Kb P.p1x,Kb P.p1y,Kz Ln 0 P.spread]++Oz P.T++Cb P.stops
 else [Qp,Kb P.p0x,Kb P.p0y,Kb P.rad,Kz Ln 0 P.spread]++Oz P.T++Cb P.stops
def mnI:Int:= -9223372036854775808
def mxI:Int:=9223372036854775807
def rdI(lo hi:Int)(f:Bool):WS→Option (Int×Bool×WS×Bool)
 | []=>none
 |s::r=>if Rj s lo hi=0 then some (Xv s lo hi,true,r,f)else if Rj s lo hi=6 then some (0,false,r,true)else none
def Vq(f:Bool)(ws:WS):Option (Int×WS×Bool):=(rdI mnI mxI f ws).map fun x=>(x.1,x.2.2.1,x.2.2.2)
def S9(s:List UInt8):WS→Option Nat
 | []=>none
 |x::l=>if x=s then some 0 else(S9 s l).map (· +1)
def Dg(l:WS)(frm:Int)(f:Bool):WS→Option (Int×WS×Bool)
 | []=>none
 |s::r=>(S9 s l).map fun(k:Nat)=>(frm+(k:Int),r,f)
def U3(s:List UInt8):Option Co:=
 if s.length=9∧s[0]? =some 35 then(match decL (s.drop 1)with
  |some [r,g,b,a]=>some (r,g,b,a)
  |_=>none)else none
def rdC(f:Bool):WS→Option (Co×WS×Bool)
 | []=>none
 |s::r=>(U3 s).map fun c=>(c,r,f)
def rdQ(f:Bool):WS→Option (Rat×WS×Bool)
 | []=>none
 |s::r=>if Ia s=0 then some (Dh s,r,f)else none
def En(f:Bool)(ws:WS):Option (Y0×WS×Bool):=
 (rdQ f ws).bind fun a=>(rdQ a.2.2 a.2.1).bind fun b=>(rdQ b.2.2 b.2.1).bind fun c=>(rdQ c.2.2 c.2.1).bind fun d=>(rdQ d.2.2 d.2.1).bind fun e=>(rdQ e.2.2 e.2.1).map fun g=>
  (⟨a.1,b.1,c.1,d.1,e.1,g.1⟩,g.2.1,g.2.2)
def O8:List UInt8→List Co
 |r::g::b::a::l=>(r,g,b,a)::O8 l
 |_=>[]
def Xt(f:Bool)(ws:WS):Option (Im×WS×Bool):=
 (rdI 1 4096 f ws).bind fun x=>(rdI 1 4096 x.2.2.2 x.2.2.1).bind fun y=>match y.2.2.1 with
  | []=>none
  | s::r=>match decL s with
   |none=>none
   |some b=>if b.length%4≠0 then none else if x.2.1=false∨y.2.1=false∨x.1*y.1>65536 then some (Di,r,true)
    else if (b.length:Int)≠4*x.1*y.1 then none else some (⟨x.1,y.1,O8 b⟩,r,y.2.2.2)
def rdS:Bool→WS→Option (List (Int×Co)×Bool)
 |f,[]=>some ([],f)
 |_,[_]=>none
 |f,s::c::r=>(Vq f [s]).bind fun x=>(U3 c).bind fun k=>(rdS x.2.2 r).map fun l=>((x.1,k)::l.1,l.2)
def Iw(f:Bool)(ws:WS):Option ((Int×Int)×WS×Bool):=(Vq f ws).bind fun x=>(Vq x.2.2 x.2.1).map fun y=>((x.1,y.1),y.2.1,y.2.2)
def Dp(f:Bool)(ws:WS):Option (Pn×Bool):=
 (Iw f ws).bind fun p=>(Iw p.2.2 p.2.1).bind fun q=>(Dg Ln 0 q.2.2 q.2.1).bind fun k=>(En k.2.2 k.2.1).bind fun t=>(rdS t.2.2 t.2.1).map fun l=>
  (⟨2,Uq,p.1.1,p.1.2,q.1.1,q.1.2,0,l.1,k.1,Di,0,t.1⟩,l.2)
def Dm(f:Bool)(ws:WS):Option (Pn×Bool):=
 (Iw f ws).bind fun p=>(Vq p.2.2 p.2.1).bind fun n=>(Dg Ln 0 n.2.2 n.2.1).bind fun k=>(En k.2.2 k.2.1).bind fun t=>(rdS t.2.2 t.2.1).map fun l=>
  (⟨3,Uq,p.1.1,p.1.2,0,0,n.1,l.1,k.1,Di,0,t.1⟩,l.2)
def Dn(f:Bool)(ws:WS):Option (Pn×Bool):=
 (Dg Ln 0 f ws).bind fun k=>(Dg Oc 1 k.2.2 k.2.1).bind fun n=>(En n.2.2 n.2.1).bind fun t=>(Xt t.2.2 t.2.1).bind fun m=>
  if m.2.1=[]then some (⟨4,Uq,0,0,0,0,0,[],k.1,m.1,n.1,t.1⟩,m.2.2)else none
def Wy(f:Bool)(ws:WS):Option (Pn×Bool):=(rdC f ws).bind fun c=>if c.2.1=[]then some (⟨1,c.1,0,0,0,0,0,[],0,Di,0,Px⟩,c.2.2)else none
def Wz(f:Bool):WS→Option (Pn×Bool)
 | []=>none
 |k::r=>if k=Pr then Wy f r else if k=Qc then Dp f r else if k=Qp then Dm f r else if k=M5 then Dn f r else none
theorem Yf(lo hi:Int)(f:Bool)(s:List UInt8)(r:WS):rdI lo hi f (s::r)=if Rj s lo hi=0 then some (Xv s lo hi,true,r,f)else if Rj s lo hi=6 then some (0,false,r,true)else none:=rfl
theorem Kt(f:Bool)(s:List UInt8)(r:WS):rdQ f (s::r)=if Ia s=0 then some (Dh s,r,f)else none:=rfl
theorem Uv(f:Bool)(k:List UInt8)(r:WS):Wz f (k::r)=if k=Pr then Wy f r else if k=Qc then Dp f r else if k=Qp then Dm f r else if k=M5 then Dn f r else none:=rfl
theorem Pa(s x:List UInt8)(l:WS):S9 s (x::l)=if x=s then some 0 else(S9 s l).map (· +1):=rfl
theorem prg_full{s:List UInt8}:Rj s mnI mxI=Aj s∧Xv s mnI mxI=Ry s:=by
 have h1:Rj s mnI mxI=Aj s:=by
  unfold Rj
  split
  ·rename_i h
   have:=(fmt_pi h).2
   rw[if_neg (by unfold mnI mxI;omega),h]
  ·rfl
 refine⟨h1,?_⟩
 unfold Xv
 rw[h1]
 unfold Ry
 split<;>simp_all
theorem colW_P{s:List UInt8}{c:Co}(h:U3 s=some c):Pd c=s:=by
 unfold U3 at h
 split at h
 ·rename_i h0
  obtain⟨h1,h2⟩:=h0
  split at h
  ·rename_i r g b a hd
   cases h
   have:=Fs hd
   unfold Pd
   show 35::T1 [r,g,b,a]=s
   rw[this]
   cases s with
   |nil=>cases h2
   |cons x s=>simp at h2;subst h2;rfl
  ·cases h
 ·cases h
theorem colP_W(c:Co):U3 (Pd c)=some c:=by
 obtain⟨r,g,b,a⟩:=c
 unfold U3 Pd
 have hl:(T1 (Ep (r,g,b,a))).length=8:=by rw[Sr];rfl
 rw[if_pos ⟨by rw[List.length_cons,hl],rfl⟩,List.drop_one,List.tail_cons,Ft]
 rfl
theorem quads_flat:∀(n:Nat) (b:List UInt8),b.length=4*n→(O8 b).flatMap Ep=b∧(O8 b).length=n
 |0,b,h=>by
  obtain rfl:b=[]:=List.length_eq_zero_iff.1 Zo
  exact⟨rfl,rfl⟩
 | n+1,b,h=>by
  match b,h with
  |x::y::z::u::l,h=>
   obtain⟨h1,h2⟩:=quads_flat n l (by simp only[List.length_cons]at h;omega)
   exact⟨by show Ep (x,y,z,u)++(O8 l).flatMap Ep=_;rw[h1];rfl,by show(O8 l).length+1=_;rw[h2]⟩
theorem flat_quads:∀px:List Co,O8 (px.flatMap Ep)=px
 | []=>rfl
 |c::px=>by
  have:=flat_quads px
  show c::O8 (px.flatMap Ep)=_
  rw[this]
structure RSt where
 i:Nat
 syn:Bool
 rng:Bool
def A8(w h:Int):Bool:=decide (1≤w∧w≤4096∧1≤h∧h≤4096∧w*h≤65536)
def Us(w:World)(L:List Nat)(ch:List PanicEntry)(e:Ending)(w':World):Prop:=e= .panicked ch∧Chg L w w'
def amPan(ch:List PanicEntry)(c:Nn):Nn:=⟨.out (.panic ch),c.k,c.st⟩
def Ld{D X:Type}(w:World)(L:List Nat)(ch:List PanicEntry)(o:Option D)(val:D→X→Value)(G:D→X→World→Prop)(e:Ending)(w':World):Prop:=
 match o with
 |none=>Us w L ch e w'
 |some d=>Nm w L (val d) (G d) e w'
section
variable{P:Program}{Δ:List Deferred}{W:World}{Q:Exit→Act→World→Prop}{Φ Φ':World→Prop}{c:Nn}
theorem K0.mutx{L:List Nat}{g:FuncId}{args:Array Value}{ch:List PanicEntry}
 (hs:∀w,Below W.heap.size W w→Φ w→Calls P g args w (Us w L ch)) (hL:Yx W L Φ) (hΦ:Ej L Φ (fun _=>True) Φ')
 (hf:Qj c=true) (hc:Lk P c=some (g,args)) (h:K0 P Δ W Q Φ' (amPan ch c)):K0 P Δ W Q Φ c:=by
 obtain⟨foc,k,σ⟩:=c
 replace h:=h.get
 refine⟨?_⟩
 unfold Lk at hc
 split at hc
 ·rename_i g' xs hn
  split at hc
  ·rename_i vs hv
   injection hc with hc
   injection hc with h1 h2
   subst h1;subst h2
   unfold Sn at hn
   split at hn
   ·rename_i ops o ho
    split at hn
    ·rename_i hw
     unfold O7 at ho
     simp only at ho
     split at ho
     ·rename_i ops' i l
      cases hoi:ops'[i]? with
      |none=>rw[hoi]at ho;cases ho
      |some o'=>
       rw[hoi]at ho
       simp only[Option.map_some,Option.some.injEq,Prod.mk.injEq]at ho
       obtain⟨rfl,rfl⟩:=ho
       intro hwf β a w hr
       show wpOps P ops' (post P Q k) (i::l) a w
       rw[wpOps_cons]
       unfold wpOp
       simp only[hoi,M4 hr,hw,if_true]
       refine .inl ?_
       unfold Oper.wp
       rw[Vn hn hr,Pf hv]
       refine Calls.mono (hs w hr.bel hr.phi) fun e w' he=> ?_
       obtain⟨rfl,hch⟩:=he
       exact h hwf β _ w' (hr.mut hL hch (fun _ _ _=>trivial) hΦ)
     ·cases hf
     ·cases ho
    ·cases hn
   ·cases hn
  ·cases hc
 ·cases hc
theorem K0.throw(s:Sem Next)(v:Value)(hc:Uc c=some s)(hs:∀w,Below W.heap.size W w→Φ w→s.run P w= .halt (.panic v) w)
 (hf:Qj c=true) (h:K0 P Δ W Q Φ (amPan [{v,recovered:=false}] c)):K0 P Δ W Q Φ c:=by
 obtain⟨foc,k,σ⟩:=c
 replace h:=h.get
 refine⟨?_⟩
 replace hc:=(Q3 hc).1
 unfold Sz at hc
 split at hc
 ·rename_i ops o ho
  split at hc
  ·cases hc
  ·cases hc
  ·rename_i hns hnm
   split at hc
   ·rename_i hw
    simp only[Bool.and_eq_true]at hw
    injection hc with hc
    subst hc
    unfold O7 at ho
    simp only at ho
    split at ho
    ·rename_i ops' i l
     cases hoi:ops'[i]? with
     |none=>rw[hoi]at ho;cases ho
     | some o'=>
      rw[hoi]at ho
      simp only[Option.map_some,Option.some.injEq,Prod.mk.injEq]at ho
      obtain⟨rfl,rfl⟩:=ho
      intro hwf β a w hr
      show wpOps P ops' (post P Q k) (i::l) a w
      rw[wpOps_cons]
      unfold wpOp
      simp only[hoi,M4 hr,hw.1,if_true]
      refine .inl ?_
      have hrho:∀x∈o'.op.operands,a.eval x=σ.rho x:=fun x hx=>by
       rw[hr.eval,AV.conc_isV];· rfl
       exact List.all_eq_true.1 hw.2 x (by simpa using hx)
      unfold Oper.wp
      rw[execOp_congr o' hns hrho,hs w hr.bel hr.phi]
      exact h hwf β _ w hr
    ·cases hf
    ·cases ho
   ·cases hc
 ·cases hc
theorem Yg{ch:List PanicEntry}{a:Act}{w:World}:∀k:List FrK,Q (.panic ch) a w→post P Q k (.panic ch) a w
 | [],h=>h
 | .seq c::k,h=>Yg k h
 | .blk id::k,h=>Yg k h
 | .lp bd::k,h=>Yg k h
theorem K0.pan{fn:Func}{R:Ending→World→Prop}{ch:List PanicEntry}(h:∀w,Below W.heap.size W w→Φ w→R (.panicked ch) w):K0 P [] W (bodyPost P fn R) Φ (amPan ch c):=
 ⟨fun hwf β a w hr=>Yg c.k ⟨hr.defers,h w hr.bel hr.phi⟩⟩
end
theorem K5.stay{w u:World}{B g:Nat}{cs:List Value}(h:K5 w g cs)(hg:B≤g)(hs:∀b,B≤b→b<w.heap.size→u.heap[b]? =w.heap[b]?):K5 u g cs:=by
 obtain⟨t,h⟩:=h
 exact⟨t,(hs g hg (Array.getElem?_eq_some_iff.1 h).1).trans h⟩
theorem K5.one{w:World}{g:Nat}{v:Value}(h:K5 w g [v]):w.cell? ⟨g,0,none⟩=some v:=by
 obtain⟨t,h⟩:=h
 exact cell_one h
theorem K5.lt{w:World}{g:Nat}{cs:List Value}(h:K5 w g cs):g<w.heap.size:=by
 obtain⟨t,h⟩:=h
 exact(Array.getElem?_eq_some_iff.1 h).1
theorem K5.own{w:World}{g:Nat}{cs:List Value}(h:K5 w g cs):∃xs ty own,w.heap[g]? =some (.cells xs ty own):=by
 obtain⟨t,h⟩:=h
 exact⟨_,_,_,h⟩
theorem K5.to{w u:World}{g:Nat}{cs:List Value}(h:K5 w g cs)(e:u.heap[g]? =w.heap[g]?):K5 u g cs:=by
 obtain⟨t,h⟩:=h
 exact⟨t,e.trans h⟩
theorem K5.cell{w:World}{g j:Nat}{cs:List Value}(h:K5 w g cs):w.cell? ⟨g,j,none⟩=cs[j]? :=by
 obtain⟨t,h⟩:=h
 simp only[World.cell?,h,Option.isSome_none,Bool.false_eq_true,if_false]
 simp
theorem Zw{w u:World}{p:Addr}{v:Value}(h:w.cell? p=some v)(e:u.heap[p.block]? =w.heap[p.block]?):u.cell? p=some v:=by
 unfold World.cell? at h ⊢
 rw[e];exact h
theorem Fp{α:Type}:∀(l:List α) (j:Nat) (v:α),j<l.length→l.take j++ [v]++l.drop (j+1)=l.set j v
 | [],j,v,h=>absurd h (Nat.not_lt_zero _)
 |a::l,0,v,_=>by simp
 |a::l,j+1,v,h=>by
  have ih:=Fp l j v (by simpa using h)
  simp only[List.take_succ_cons,List.drop_succ_cons,List.set_cons_succ,List.cons_append]at ih ⊢
  rw[ih]
theorem K5.store1{P:Program}{t:TypeId}{w:World}{g j:Nat}{cs:List Value}{v:Value}(h:K5 w g cs)(hn:Nz P t=some 1)(hl:v.cells.toList=[v])(hj:j<cs.length)(h1:v.oneCell'=true):
 ∃w',(Tc t ⟨g,j,none⟩ v).run P w= .ok .skip w'∧Chg [g] w w'∧∀w'',w'.heap.size≤w''.heap.size→(∀b∈[g],w''.heap[b]? =w'.heap[b]?)→K5 w'' g (cs.set j v):=by
 obtain⟨ty,h⟩:=h
 have hst:=run_storeCells_at P g j ty v.cells.toList 0 cs.toArray w h (by rw[hl];simp;omega) (by intro u hu;rw[hl]at hu;rw[List.mem_singleton.1 hu];exact h1)
 have hsz:v.cells.size=1:=by have:=congrArg List.length hl;simpa using this
 have hnew:((cs.toArray.toList.take (j+0)++v.cells.toList++cs.toArray.toList.drop (j+0+v.cells.toList.length)).toArray)=(cs.set j v).toArray:=by
  rw[hl]
  have:=Fp cs j v hj
  simp only[List.length_cons,List.length_nil,Nat.add_zero,Nat.zero_add]
  rw[←this]
 rw[hnew]at hst
 refine⟨w.setRow g (cs.set j v).toArray,?_,⟨rfl,rfl,rfl,by rw[Pk];exact Nat.le_refl _,fun k _ hk=>Ox _ _ _ _ (by simpa using hk)⟩,fun w'' k1 k2=>⟨ty,?_⟩⟩
 ·simp only[Tc,Instr.storeAt,Instr.sureAddr,storeVar,Sem.run_bind,Sem.run_pure,Result.andThen_ok,Lf hn]
  rw[if_neg (by simpa using hsz)]
  simp only[hst,Sem.run_pure,Sem.run_bind,Result.andThen_ok]
 ·rw[k2 g Zs]
  simp only[World.setRow,Array.getElem?_modify,if_true,h,Option.map_some]
theorem L3.left{w wa:World}{A:Option Addr}{n:Nat}{ws:List (List UInt8)}{L:List Nat}(h:L3 wa A n ws)(e2:∀b,b∉L→wa.heap[b]? =w.heap[b]?)(hd:∀b∈bl A,b∉L):L3 w A n ws:=
 ⟨h.1,fun k s hk=>by
  obtain⟨ad,h1,h2⟩:=h.2 k s hk
  exact⟨ad,h1,Zw h2 (e2 _ (hd _ (by rw[h1,show(ad.add k).block=ad.block from by unfold Addr.add;split<;>rfl];simp[bl]))).symm⟩⟩
theorem Xg{w:World}{p:Addr}{v:Value}(h:w.cell? p=some v):p.block<w.heap.size:=by
 unfold World.cell? at h
 cases hb:w.heap[p.block]? with
 |none=>simp[hb]at h
 |some o=>exact(Array.getElem?_eq_some_iff.1 hb).1
def Ke:Value:= .iface 106 (.agg #[])
def Qn:List PanicEntry:=[{v:=Ke,recovered:=false}]
theorem run_fromH{P:Program}{t e:TypeId}{A:Option Addr}{n c i:Nat}{w:World}(ht:P.underlying t=some (.slice e))(he:P.elem t=e)(hs:Nz P e=some 1)(hi:i≤n):(fromA t (.slice A n c) i).run P w= .ok (.value (.slice (if c=i then A else A.map (·.add i)) (n-i) (c-i))) w:=by
 have h1:=run_slice_l (P:=P) w t A n c (by rw[he];exact ht) .i64 i Zo Zo
 have h2:=run_sliceAt_slice (P:=P) w t (.slice A n c) (some (Zi i)) none none (by rw[he];exact ht)
 simp only[fromA,Sem.run_bind,h2,h1,he,Lf hs,Result.andThen_ok,Sem.run_pure]
 simp[sliced]
def B3(k:Nat)(A:Option Addr)(c:Nat):Option Addr:=A.map (·.add (if k=c then k-1 else k))
@[reducible] def rsl(A:Option Addr)(n c r:Nat):Value:= .slice (B3 (n-r) A c) r (c- (n-r))
theorem stepA_succ{k c:Nat}{A:Option Addr}(h:k<c):(if c-k=1 then B3 k A c else(B3 k A c).map (·.add 1))=B3 (k+1) A c:=by
 unfold B3
 rw[show(if k=c then k-1 else k)=k from if_neg Zo]
 by_cases h1:c-k=1
 ·rw[if_pos h1,if_pos Zo];rfl
 ·rw[if_neg h1,if_neg Zo]
  cases A with
  |none=>rfl
  |some a=>show some ((a.add k).add 1)=some (a.add (k+1));rw[Addr.add_add]
def Om(W w:World)(g:Nat)(cs:List Value)(u:World):Prop:=w.heap.size≤u.heap.size∧(∀b,W.heap.size≤b→b<w.heap.size→b≠g→u.heap[b]? =w.heap[b]?)∧K5 u g cs
section
variable{w W:World}{g n c m cx:Nat}{A Ax:Option Addr}{f:Bool}{s:List UInt8}{ws rest:WS}
theorem K9{cs cs':List Value}(lg:W.heap.size≤g):∀u,Om W w g cs u→∀b∈[g],W.heap.size≤b∧∃xs ty own,u.heap[b]? =some (.cells xs ty own):=fun u h b hb=>by
 obtain rfl:b=g:=by simpa using hb
 exact⟨lg,h.2.2.own⟩
theorem Kg{cs cs':List Value}(wa u:World)(e1:wa.heap.size=u.heap.size)(e2:∀b,b∉[g]→wa.heap[b]? =u.heap[b]?)(h:Om W w g cs wa)(hG:K5 u g cs'):Om W w g cs' u:=
 ⟨by rw[←e1];exact h.1,fun b h1 h2 h3=>(e2 b (by simpa using h3)).symm.trans (h.2.1 b h1 h2 h3),hG⟩
theorem Ys{cs:List Value}(lg:W.heap.size≤g)(hb:K5 w g cs)(u:World)(h:w.heap.size≤u.heap.size∧∀b,W.heap.size≤b→b<w.heap.size→u.heap[b]? =w.heap[b]?):Om W w g cs u:=
 ⟨h.1,fun b h1 h2 _=>h.2 b h1 h2,hb.stay lg h.2⟩
theorem Mt{cs:List Value}{val:Value}{w1:World}(hW:Below W.heap.size W w)(hw:Below W.heap.size W w1)(h:Om W w g cs w1):Nm w [g] (fun _:Unit=>val) (fun _ u=>K5 u g cs) (.returned val) w1:=
 ⟨(),rfl,⟨hw.os.trans hW.os.symm,hw.tape.trans hW.tape.symm,hw.output.trans hW.output.symm,h.1,fun k hk hkl=>by
  rcases Nat.lt_or_ge k W.heap.size with h4|h4
  ·rw[hw.block k h4,hW.block k h4]
  ·exact h.2.1 k h4 hk fun e=>hkl (by simp[e])⟩,fun w'' k1 k2=>h.2.2.to (k2 g (.inl Zs))⟩
theorem Mg{cs:List Value}{ch:List PanicEntry}{w1:World}(hW:Below W.heap.size W w)(hw:Below W.heap.size W w1)(h:Om W w g cs w1):Us w [g] ch (.panicked ch) w1:=
 ⟨rfl,⟨hw.os.trans hW.os.symm,hw.tape.trans hW.tape.symm,hw.output.trans hW.output.symm,h.1,fun k hk hkl=>by
  rcases Nat.lt_or_ge k W.heap.size with h4|h4
  ·rw[hw.block k h4,hW.block k h4]
  ·exact h.2.1 k h4 hk fun e=>hkl (by simp[e])⟩⟩
theorem but_cell{cs:List Value}{p:Addr}{v:Value}{u:World}(hW:Below W.heap.size W w)(hu:Below W.heap.size W u)(h:Om W w g cs u)(hc:w.cell? p=some v)(hp:p.block≠g):u.cell? p=some v:=Zw hc (by
 have hblt:=Xg hc
 rcases Nat.lt_or_ge p.block W.heap.size with h1|h1
 ·rw[hu.block _ h1,hW.block _ h1]
 ·exact h.2.1 _ h1 hblt hp)
theorem next_p(hW:Below W.heap.size W w)(lg:W.heap.size≤g)(hb:K5 w g [.slice Ax 0 cx,.bool f]):Calls Tryz.prog 76 #[Zq g 0] w (Us w [g] Qn):=by
 exact K0.enterW Tryz.func76 rfl hW <| ZR <| ZA (L5 66 ⟨g,0,none⟩) (.slice Ax 0 cx) (fun w1 hw h=>K8 Zk (by rw[(hb.stay lg h.2).cell];rfl)) <| ZI true <| K0.throw (Instr.panic Ke >>= fun v=>pure (.value v)) Ke Zk (fun w1 hw h=>by simp[Instr.panic,Ke,Go.goPanic]) Zk <| K0.pan fun w1 hw h=>Mg hW hw (Ys lg hb w1 h)
theorem next_s(hW:Below W.heap.size W w)(lg:W.heap.size≤g)(hb:K5 w g [.slice Ax (m+1) cx,.bool f])(hc:∃ad,Ax=some ad∧ad.block≠g∧w.cell? (ad.add 0)=some (K4 s)):Calls Tryz.prog 76 #[Zq g 0] w (Nm w [g] (fun _:Unit=>K4 s) fun _ u=>K5 u g [.slice (if cx=1 then Ax else Ax.map (·.add 1)) m (cx-1),.bool f]):=by
 obtain⟨ad,hA,hne,hcell⟩:=hc
 refine K0.enterW Tryz.func76 rfl hW <| ZR <| ZA (L5 66 ⟨g,0,none⟩) (.slice Ax (m+1) cx) (fun w1 hw h=>K8 Zk (by rw[(hb.stay lg h.2).cell];rfl)) <| ZJ ((((m+1:Nat):Int)==0)) false Zp <| ZA (L5 66 ⟨g,0,none⟩) (.slice Ax (m+1) cx) (fun w1 hw h=>K8 Zk (by rw[(hb.stay lg h.2).cell];rfl)) <| ZA (Kj 66 (.slice Ax (m+1) cx) 0) (.pointer (some (ad.add 0))) (fun w1 hw h=>by rw[hA];exact Kn (k:=0) (elem:=9) Zk Zk Zo) <| ZA (L5 9 (ad.add 0)) (K4 s) (fun w1 hw h=>K8 Zk (but_cell hW hw (Ys lg hb w1 h) hcell (by rw[show(ad.add 0).block=ad.block from by unfold Addr.add;split<;>rfl];exact hne))) <| K0.ask (L5 66 ⟨g,0,none⟩) (.slice Ax (m+1) cx) Zk (fun w1 hw h=>K8 Zk (by rw[(hb.stay lg h.2).cell];rfl)) <| ZS 5 <| ZA (fromA 66 (.slice Ax (m+1) cx) 1) (.slice (if cx=1 then Ax else Ax.map (·.add 1)) m (cx-1)) (fun w1 hw h=>run_fromH (i:=1) (e:=9) Zk Zk Zk Zo) <| K0.mutSt (L:=[g]) (G:=fun u=>K5 u g [.slice (if cx=1 then Ax else Ax.map (·.add 1)) m (cx-1),.bool f]) (Φ':=Om W w g [.slice (if cx=1 then Ax else Ax.map (·.add 1)) m (cx-1),.bool f]) (Tc 66 ⟨g,0,none⟩ (.slice (if cx=1 then Ax else Ax.map (·.add 1)) m (cx-1))) (fun w1 hw h=>(hb.stay lg h.2).store1 (j:=0) Zk rfl Zs rfl) (fun u h=>K9 (cs':=[]) lg u (Ys lg hb u h)) (fun wa u e1 e2 h hG=>Kg wa u e1 e2 (Ys lg hb wa h) hG) Zk Zk <| ZR <| ZV (K4 s) (fun w1 hw h=>Mt hW hw (h w1 (Nat.le_refl _) fun _ _ _=>rfl))
end
section
variable{P:Program}{Δ:List Deferred}{W w:World}{Q:Exit→Act→World→Prop}{Φ Φ':World→Prop}
theorem Q4.imp{β:Nat→Nat}{σ:AS}{a:Act}(hr:Q4 Δ W β σ Φ a w)(h:∀w,Φ w→Φ' w):Q4 Δ W β σ Φ' a w:=
 ⟨hr.tmps,hr.defers,hr.bel,hr.box,hr.inj,fun w' hw=>h w' (hr.keep w' hw)⟩
theorem K0.impC{fn:Func}{args:Array Value}(h:∀w,Φ w→Φ' w)(H:K0 P Δ W Q Φ' (Tw fn args)):K0 P Δ W Q Φ (Tw fn args):=
 ⟨fun hwf β a w hr=>H.get hwf β a w (hr.imp h)⟩
theorem K0.enterB{f:FuncId}{fn:Func}{args:Array Value}{R:Ending→World→Prop}{g:Nat}{cs:List Value}(hf:P.funcs[f]? =some fn)(hb:fn.body.isSome=true)(hW:Below W.heap.size W w)(lg:W.heap.size≤g)(hx:K5 w g cs)
 (h:K0 P [] W (bodyPost P fn R) (Om W w g cs) (Tw fn args)):Calls P f args w R:=
 K0.enterW hf hb hW (K0.impC (Ys lg hx) h)
end
def Me(W w:World)(g:Nat)(u:World):Prop:=w.heap.size≤u.heap.size∧∀b,W.heap.size≤b→b<w.heap.size→b≠g→u.heap[b]? =w.heap[b]?
@[reducible] def L7(A:Option Addr)(n c r:Nat)(f:Bool):List Value:=[rsl A n c r,.bool f]
structure RE(W w:World)(g:Nat)(A:Option Addr)(n c:Nat)(ws0:WS):Prop where
 hW:Below W.heap.size W w
 lg:W.heap.size≤g
 str:L3 w A n ws0
 ne:∀ad,0<n→A=some ad→ad.block≠g
 hn:n≤c
 hn2:n≤1000000
 len:∀y∈ws0,y.length≤65536
def Ph(ws0:WS)(n:Nat)(rest:WS):Prop:=rest=ws0.drop (n-rest.length)∧rest.length≤n
section
variable{w W:World}{g n c m:Nat}{A:Option Addr}{f:Bool}{s:List UInt8}{ws0 rest r:WS}
theorem Ov(ad:Addr)(k:Nat):(ad.add k).block=ad.block:=by unfold Addr.add;split<;>rfl
theorem Mn{cs:List Value}(wa u:World)(e1:wa.heap.size=u.heap.size)(e2:∀b,b∉[g]→wa.heap[b]? =u.heap[b]?)(h:Om W w g cs wa):Me W w g u:=
 ⟨by rw[←e1];exact h.1,fun b h1 h2 h3=>(e2 b (by simpa using h3)).symm.trans (h.2.1 b h1 h2 h3)⟩
theorem Mm{ch:List PanicEntry}{w1:World}(hW:Below W.heap.size W w)(hw:Below W.heap.size W w1)(h:Me W w g w1):Us w [g] ch (.panicked ch) w1:=
 ⟨rfl,⟨hw.os.trans hW.os.symm,hw.tape.trans hW.tape.symm,hw.output.trans hW.output.symm,h.1,fun k hk hkl=>by
  rcases Nat.lt_or_ge k W.heap.size with h4|h4
  ·rw[hw.block k h4,hW.block k h4]
  ·exact h.2 k h4 hk fun e=>hkl (by simp[e])⟩⟩
theorem Ph.tail(h:Ph ws0 n (s::r)):Ph ws0 n r:=by
 obtain⟨h1,h2⟩:=h
 rw[List.length_cons]at h1 h2
 refine⟨?_,by omega⟩
 have h3:=congrArg List.tail h1
 rw[List.tail_cons,List.tail_drop]at h3
 rw[show n-r.length=n- (r.length+1)+1 by omega]
 exact h3
theorem Ph.get(h:Ph ws0 n (s::r)):ws0[n- (r.length+1)]? =some s:=by
 have h1:=congrArg (fun l=>l[0]?) h.1
 simp only[List.getElem?_cons_zero,List.getElem?_drop,List.length_cons,Nat.add_zero]at h1
 exact h1.symm
theorem RE.cell{k:Nat}(hR:RE W w g A n c ws0)(h:ws0[k]? =some s):∃ad,B3 k A c=some ad∧ad.block≠g∧w.cell? (ad.add 0)=some (K4 s):=by
 obtain⟨ad,h1,h2⟩:=hR.str.2 k s h
 have hk:=(List.getElem?_eq_some_iff.1 h).1
 have hl:=hR.str.1
 have hc:=hR.hn
 refine⟨ad.add k,?_,by rw[Ov];exact hR.ne ad Zo h1,by rw[Addr.add_add];exact h2⟩
 unfold B3
 rw[if_neg Zo,h1];rfl
theorem RE.next{cs:List Value}{u:World}(hR:RE W w g A n c ws0)(hu:Below W.heap.size W u)(h:Om W w g cs u):RE W u g A n c ws0:=
 ⟨hu,hR.lg,⟨hR.str.1,fun k s hk=>by
  obtain⟨ad,h1,h2⟩:=hR.str.2 k s hk
  exact⟨ad,h1,but_cell hR.hW hu h h2 (by rw[Ov];exact hR.ne ad (by have:=(List.getElem?_eq_some_iff.1 hk).1;have:=hR.str.1;omega) h1)⟩⟩,hR.ne,hR.hn,hR.hn2,hR.len⟩
theorem RE.mem(hR:RE W w g A n c ws0)(hs:Ph ws0 n (s::r)):s.length≤65536:=hR.len s (List.mem_of_getElem? hs.get)
theorem Qk(hR:RE W w g A n c ws0)(hb:K5 w g (L7 A n c 0 f)):Calls Tryz.prog 76 #[Zq g 0] w (Us w [g] Qn):=next_p hR.hW hR.lg hb
theorem Oq(hR:RE W w g A n c ws0)(hs:Ph ws0 n (s::r))(hb:K5 w g (L7 A n c (r.length+1) f)):Calls Tryz.prog 76 #[Zq g 0] w (Nm w [g] (fun _:Unit=>K4 s) fun _ u=>K5 u g (L7 A n c r.length f)):=by
 have hl:=hs.2
 have hc:=hR.hn
 rw[List.length_cons]at hl
 have h1:=next_s hR.hW hR.lg hb (hR.cell hs.get)
 have e:(Value.slice (if c- (n- (r.length+1))=1 then B3 (n- (r.length+1)) A c else(B3 (n- (r.length+1)) A c).map (·.add 1)) r.length (c- (n- (r.length+1))-1))=rsl A n c r.length:=by
  unfold rsl
  rw[stepA_succ Zo,show n- (r.length+1)+1=n-r.length by omega,show c- (n- (r.length+1))-1=c- (n-r.length) by omega]
 rw[e]at h1
 exact h1
theorem parseE_vals(l:List UInt8):Lp l=0∨Lp l=3∨Lp l=5∨Lp l=6:=by
 unfold Lp
 split
 ·exact .inr (.inl rfl)
 ·split
  ·exact .inr (.inl rfl)
  ·split
   ·exact .inr (.inr (.inl rfl))
   ·exact .inl rfl
theorem piE_vals(l:List UInt8):Aj l=0∨Aj l=3∨Aj l=5∨Aj l=6:=by
 unfold Aj
 split
 ·split
  ·exact .inl rfl
  ·exact .inr (.inr (.inr rfl))
 ·unfold Ky
  split
  ·split
   ·exact .inr (.inl rfl)
   ·exact .inl rfl
  ·exact parseE_vals _
theorem prg_vals(s:List UInt8)(lo hi:Int):Rj s lo hi=0∨Rj s lo hi=6∨Rj s lo hi=3∨Rj s lo hi=5:=by
 unfold Rj
 rcases piE_vals s with h|h|h|h
 ·rw[if_pos h];split
  ·exact .inr (.inl rfl)
  ·exact .inl rfl
 all_goals (rw[if_neg (by rw[h];decide),h];simp)
theorem V0{lo hi:Int}(hR:RE W w g A n c ws0)(hs:Ph ws0 n rest)(hb:K5 w g (L7 A n c rest.length f)):Calls Tryz.prog 133 #[Zq g 0,Zi lo,Zi hi] w
 (Ld w [g] Qn (rdI lo hi f rest) (fun d (_:Unit)=> .tuple #[Zi d.1,.bool d.2.1]) (fun d _ u=>K5 u g (L7 A n c d.2.2.1.length d.2.2.2))):=by
 have lg:=hR.lg
 cases rest with
 |nil=>
  exact K0.enterB Tryz.func133 rfl hR.hW lg hb <| ZR <| K0.mutx (L:=[g]) (Φ':=fun u=>Me W w g u) (fun w1 hw h=>Qk (hR.next hw h) h.2.2) (fun u h=>K9 (cs':=[]) lg u h) (fun wa u e1 e2 h _=>Mn wa u e1 e2 h) Zk Zk <| K0.pan fun w1 hw h=>Mm hR.hW hw h
 | cons s r=>
  rw[Yf]
  have hsl:=hR.mem hs
  rcases prg_vals s lo hi with h0|h0|h0|h0
  ·rw[if_pos h0]
   refine K0.enterB Tryz.func133 rfl hR.hW lg hb <| ZR <| K0.mut (L:=[g]) (Φ':=fun _ u=>Om W w g (L7 A n c r.length f) u) (fun w1 hw h=>Oq (hR.next hw h) hs h.2.2) (fun u h=>K9 (cs':=[]) lg u h) (fun _ wa u e1 e2 h hG=>Kg wa u e1 e2 h hG) Zk Zk fun _=>ZR <| ZC (fun w1 hw h=>Tr h0 rfl Zo) fun u=>ZI true <| ZV (.tuple #[Zi (Xv s lo hi),.bool true]) (fun w1 hw h=>Mt hR.hW hw (h w1 (Nat.le_refl _) fun _ _ _=>rfl).1)
  ·rw[if_neg (by rw[h0];decide),if_pos h0]
   refine K0.enterB Tryz.func133 rfl hR.hW lg hb <| ZR <| K0.mut (L:=[g]) (Φ':=fun _ u=>Om W w g (L7 A n c r.length f) u) (fun w1 hw h=>Oq (hR.next hw h) hs h.2.2) (fun u h=>K9 (cs':=[]) lg u h) (fun _ wa u e1 e2 h hG=>Kg wa u e1 e2 h hG) Zk Zk fun _=>ZR <| ZC (fun w1 hw h=>Tr h0 rfl Zo) fun u=>ZI false <| ZI true <| K0.mutSt (L:=[g]) (G:=fun u=>K5 u g (L7 A n c r.length true)) (Φ':=Om W w g (L7 A n c r.length true)) (Tc 4 ⟨g,1,none⟩ Zt) (fun w1 hw h=>h.1.2.2.store1 (j:=1) Zk rfl Zs rfl) (fun u h=>K9 (cs':=[]) lg u h.1) (fun wa u e1 e2 h hG=>Kg wa u e1 e2 h.1 hG) Zk Zk <| ZR <| ZV (.tuple #[Zi 0,.bool false]) (fun w1 hw h=>Mt hR.hW hw (h w1 (Nat.le_refl _) fun _ _ _=>rfl))
  ·rw[if_neg (by rw[h0];decide),if_neg (by rw[h0];decide)]
   exact K0.enterB Tryz.func133 rfl hR.hW lg hb <| ZR <| K0.mut (L:=[g]) (Φ':=fun _ u=>Om W w g (L7 A n c r.length f) u) (fun w1 hw h=>Oq (hR.next hw h) hs h.2.2) (fun u h=>K9 (cs':=[]) lg u h) (fun _ wa u e1 e2 h hG=>Kg wa u e1 e2 h hG) Zk Zk fun _=>ZR <| ZC (fun w1 hw h=>Tr h0 rfl Zo) fun u=>ZI false <| ZI false <| K0.throw (Instr.panic Ke >>= fun v=>pure (.value v)) Ke Zk (fun w1 hw h=>by simp[Instr.panic,Ke,Go.goPanic]) Zk <| K0.pan fun w1 hw h=>Mg hR.hW hw h.1
  ·rw[if_neg (by rw[h0];decide),if_neg (by rw[h0];decide)]
   exact K0.enterB Tryz.func133 rfl hR.hW lg hb <| ZR <| K0.mut (L:=[g]) (Φ':=fun _ u=>Om W w g (L7 A n c r.length f) u) (fun w1 hw h=>Oq (hR.next hw h) hs h.2.2) (fun u h=>K9 (cs':=[]) lg u h) (fun _ wa u e1 e2 h hG=>Kg wa u e1 e2 h hG) Zk Zk fun _=>ZR <| ZC (fun w1 hw h=>Tr h0 rfl Zo) fun u=>ZI false <| ZI false <| K0.throw (Instr.panic Ke >>= fun v=>pure (.value v)) Ke Zk (fun w1 hw h=>by simp[Instr.panic,Ke,Go.goPanic]) Zk <| K0.pan fun w1 hw h=>Mg hR.hW hw h.1
end
@[reducible] def Rf(c:Co):Value:= .agg #[.int .u8 (c.1.toNat:Int),.int .u8 (c.2.1.toNat:Int),.int .u8 (c.2.2.1.toNat:Int),.int .u8 (c.2.2.2.toNat:Int)]
section
variable{w W:World}{g n c m:Nat}{A:Option Addr}{f:Bool}{s l:List UInt8}{ws0 rest r:WS}
theorem X0{lo hi z:Int}{b f':Bool}(hs:Ph ws0 n rest)(h:rdI lo hi f rest=some (z,b,r,f')):Ph ws0 n r:=by
 cases rest with
 |nil=>cases h
 | cons s v=>
  rw[Yf]at h
  split at h
  ·cases h;exact hs.tail
  ·split at h
   ·cases h;exact hs.tail
   ·cases h
theorem M2{z:Int}{f':Bool}(hs:Ph ws0 n rest)(h:Vq f rest=some (z,r,f')):Ph ws0 n r:=by
 unfold Vq at h
 obtain⟨⟨z',b,r',f''⟩,h1,h2⟩:=Option.map_eq_some_iff.1 h
 cases h2
 exact X0 hs h1
theorem O0{L:WS}{frm z:Int}{f':Bool}(hs:Ph ws0 n rest)(h:Dg L frm f rest=some (z,r,f')):Ph ws0 n r:=by
 cases rest with
 |nil=>cases h
 |cons s v=>
  unfold Dg at h
  obtain⟨k,h1,h2⟩:=Option.map_eq_some_iff.1 h
  cases h2;exact hs.tail
theorem rdC_suf{z:Co}{f':Bool}(hs:Ph ws0 n rest)(h:rdC f rest=some (z,r,f')):Ph ws0 n r:=by
 cases rest with
 |nil=>cases h
 |cons s v=>
  unfold rdC at h
  obtain⟨k,h1,h2⟩:=Option.map_eq_some_iff.1 h
  cases h2;exact hs.tail
theorem Cj{z:Rat}{f':Bool}(hs:Ph ws0 n rest)(h:rdQ f rest=some (z,r,f')):Ph ws0 n r:=by
 cases rest with
 |nil=>cases h
 |cons s v=>
  rw[Kt]at h
  split at h
  ·cases h;exact hs.tail
  ·cases h
theorem end_s(hW:Below W.heap.size W w)(lg:W.heap.size≤g)(hb:K5 w g (L7 A n c 0 f)):Calls Tryz.prog 82 #[Zq g 0] w (Nm w [g] (fun _:Unit=> .tuple #[]) fun _ u=>K5 u g (L7 A n c 0 f)):=by
 refine K0.enterB Tryz.func82 rfl hW lg hb <| ZR <| ZA (L5 66 ⟨g,0,none⟩) (rsl A n c 0) (fun w1 hw h=>K8 Zk (by rw[h.2.2.cell];rfl)) <| ZI false <| ZV (.tuple #[]) (fun w1 hw h=>Mt hW hw (h w1 (Nat.le_refl _) fun _ _ _=>rfl))
theorem end_p(hW:Below W.heap.size W w)(lg:W.heap.size≤g)(hb:K5 w g (L7 A n c (m+1) f)):Calls Tryz.prog 82 #[Zq g 0] w (Us w [g] Qn):=by
 exact K0.enterB Tryz.func82 rfl hW lg hb <| ZR <| ZA (L5 66 ⟨g,0,none⟩) (rsl A n c (m+1)) (fun w1 hw h=>K8 Zk (by rw[h.2.2.cell];rfl)) <| ZJ (decide (((m+1:Nat):Int)>0)) true Zs <| K0.throw (Instr.panic Ke >>= fun v=>pure (.value v)) Ke Zk (fun w1 hw h=>by simp[Instr.panic,Ke,Go.goPanic]) Zk <| K0.pan fun w1 hw h=>Mg hW hw h
theorem Mc(hR:RE W w g A n c ws0)(hs:Ph ws0 n rest)(hb:K5 w g (L7 A n c rest.length f)):Calls Tryz.prog 78 #[Zq g 0] w
 (Ld w [g] Qn (Vq f rest) (fun d (_:Unit)=>Zi d.1) (fun d _ u=>K5 u g (L7 A n c d.2.1.length d.2.2))):=by
 have lg:=hR.lg
 refine K0.enterB Tryz.func78 rfl hR.hW lg hb ?_
 unfold Vq
 cases ho:rdI mnI mxI f rest with
 |none=>
  exact ZR <| K0.mutx (L:=[g]) (Φ':=fun u=>Me W w g u) (fun w1 hw h=>by have t:=V0 (lo:=mnI) (hi:=mxI) (hR.next hw h) hs h.2.2;rw[ho]at t;exact t) (fun u h=>K9 (cs':=[]) lg u h) (fun wa u e1 e2 h _=>Mn wa u e1 e2 h) Zk Zk <| K0.pan fun w1 hw h=>Mm hR.hW hw h
 |some d=>
  obtain⟨z,b,r,f'⟩:=d
  refine ZR <| K0.mut (L:=[g]) (Φ':=fun _ u=>Om W w g (L7 A n c r.length f') u) (fun w1 hw h=>by have t:=V0 (lo:=mnI) (hi:=mxI) (hR.next hw h) hs h.2.2;rw[ho]at t;exact t) (fun u h=>K9 (cs':=[]) lg u h) (fun _ wa u e1 e2 h hG=>Kg wa u e1 e2 h hG) Zk Zk fun _=>ZR <| ZV (Zi z) (fun w1 hw h=>Mt hR.hW hw (h w1 (Nat.le_refl _) fun _ _ _=>rfl))
theorem Cp(hR:RE W w g A n c ws0)(hs:Ph ws0 n rest)(hb:K5 w g (L7 A n c rest.length f)):Calls Tryz.prog 88 #[Zq g 0] w
 (Ld w [g] Qn (Iw f rest) (fun d (_:Unit)=>pt d.1.1 d.1.2) (fun d _ u=>K5 u g (L7 A n c d.2.1.length d.2.2))):=by
 have lg:=hR.lg
 refine K0.enterB Tryz.func88 rfl hR.hW lg hb ?_
 unfold Iw
 cases ho:Vq f rest with
 |none=>
  exact ZR <| K0.mutx (L:=[g]) (Φ':=fun u=>Me W w g u) (fun w1 hw h=>by have t:=Mc (hR.next hw h) hs h.2.2;rw[ho]at t;exact t) (fun u h=>K9 (cs':=[]) lg u h) (fun wa u e1 e2 h _=>Mn wa u e1 e2 h) Zk Zk <| K0.pan fun w1 hw h=>Mm hR.hW hw h
 | some d=>
  obtain⟨x,r,f1⟩:=d
  have hs1:=M2 hs ho
  rw[Option.bind_some]
  simp only
  cases ho2:Vq f1 r with
  |none=>
   exact ZR <| K0.mut (L:=[g]) (Φ':=fun _ u=>Om W w g (L7 A n c r.length f1) u) (fun w1 hw h=>by have t:=Mc (hR.next hw h) hs h.2.2;rw[ho]at t;exact t) (fun u h=>K9 (cs':=[]) lg u h) (fun _ wa u e1 e2 h hG=>Kg wa u e1 e2 h hG) Zk Zk fun _=>ZR <| K0.mutx (L:=[g]) (Φ':=fun u=>Me W w g u) (fun w1 hw h=>by have t:=Mc (hR.next hw h) hs1 h.2.2;rw[ho2]at t;exact t) (fun u h=>K9 (cs':=[]) lg u h) (fun wa u e1 e2 h _=>Mn wa u e1 e2 h) Zk Zk <| K0.pan fun w1 hw h=>Mm hR.hW hw h
  |some d=>
   obtain⟨y,r2,f2⟩:=d
   refine ZR <| K0.mut (L:=[g]) (Φ':=fun _ u=>Om W w g (L7 A n c r.length f1) u) (fun w1 hw h=>by have t:=Mc (hR.next hw h) hs h.2.2;rw[ho]at t;exact t) (fun u h=>K9 (cs':=[]) lg u h) (fun _ wa u e1 e2 h hG=>Kg wa u e1 e2 h hG) Zk Zk fun _=>ZR <| K0.mut (L:=[g]) (Φ':=fun _ u=>Om W w g (L7 A n c r2.length f2) u) (fun w1 hw h=>by have t:=Mc (hR.next hw h) hs1 h.2.2;rw[ho2]at t;exact t) (fun u h=>K9 (cs':=[]) lg u h) (fun _ wa u e1 e2 h hG=>Kg wa u e1 e2 h hG) Zk Zk fun _=>ZR <| ZV (pt x y) (fun w1 hw h=>Mt hR.hW hw (h w1 (Nat.le_refl _) fun _ _ _=>rfl))
theorem colP_dec(h:l.length=8):U3 (35::l)=match decL l with
 |some [r,g,b,a]=>some (r,g,b,a)
 |_=>none:=by
 unfold U3
 rw[if_pos ⟨by rw[List.length_cons,h],rfl⟩];rfl
theorem xdecode_g{p:List UInt8}{K:Nat}(hd:decL l=some p)(hK:p.length=K)(h0:0<K)(hL:l.length≤20000):Calls Tryz.prog 146 #[K4 l] w (K7 w (fun y:Nat×Nat=> .tuple #[.slice (some ⟨y.1,0,none⟩) K y.2,Zi 0]) fun y u=>∀(k:Nat) (b:UInt8),p[k]? =some b→u.cell? ⟨y.1,k,none⟩=some (.int .u8 (b.toNat:Int))):=by
 subst hK
 refine(Y1 hd Zo).mono fun e w' k=> ?_
 obtain⟨y,h1,h2,h3⟩:=k
 have hown:K6 w' 0 5 1 y.1 p.length y.2 (bv p):=h3 w' (Nat.le_refl _) fun _ _ _=>rfl
 obtain⟨g,hg,_⟩:=hown.cells h0
 refine⟨(g,y.2),by rw[h1];show Ending.returned (.tuple #[.slice y.1 _ _,_])=_;rw[hg],h2,fun w'' k1 k2 k b hk=> ?_⟩
 have ho2:K6 w'' 0 5 1 y.1 p.length y.2 (bv p):=h3 w'' k1 k2
 obtain⟨g2,e2,hc⟩:=ho2.cells h0
 rw[hg]at e2
 cases e2
 exact hc k _ (by unfold bv;rw[List.getElem?_map,hk];rfl)
theorem xcolor_n(h:U3 l=none)(hl:l.length≤65536):Zv 134 #[K4 l] w (.tuple #[Rf Uq,Zi 3]):=by
 by_cases h9:l.length=9
 case neg=>
  exact K0.enter Tryz.func134 rfl <| ZS 3 <| ZT 8 (.bool ((l.length:Int) !=9)) Zt Zp <| ZI true <| ZW (.tuple #[Rf Uq,Zi 3])
 obtain⟨b,l,rfl⟩:∃b t,l=b::t:=by cases l with
  |nil=>cases h9
  |cons b t=>exact⟨b,t,rfl⟩
 have h8:l.length=8:=by simpa using h9
 refine K0.enter Tryz.func134 rfl <| ZS 3 ?_
 by_cases hb:b=35
 case neg=>
  exact K0.slot 8 (.bool (((b::l).length:Int) !=9)) Zf Zk Zp <| ZS 5 <| K0.ask (ixS 9 (K4 (b::l)) (0:Nat)) (.int .u8 (b.toNat:Int)) Zk (fun w1 hw h=>Se Zk rfl) <| ZS 7 <| ZT 12 (.bool ((b.toNat:Int) !=35)) Zt (by simp;intro e;exact hb (UInt8.toNat_inj.1 (by show b.toNat=35;omega))) <| ZI true <| ZW (.tuple #[Rf Uq,Zi 3])
 subst hb
 have hdn:decL l=none:=by
  rw[colP_dec h8]at h
  cases hd:decL l with
  |none=>rfl
  |some p=>
   have hp:p.length=4:=by have:=Fs hd;have h2:=Sr p;rw[this,h8]at h2;omega
   match p,hp with
   | [x,y,z,u],_=>rw[hd]at h;cases h
 exact K0.slot 8 (.bool (((35::l).length:Int) !=9)) Zf Zk Zp <| ZS 5 <| ZA (ixS 9 (K4 (35::l)) (0:Nat)) (.int .u8 35) (fun w1 hw h=>Se (b:=35) Zk rfl) <| K0.cond false Zk <| ZS 1 <| ZA (fromA 9 (K4 (35::l)) ((1:Nat):Int)) (K4 l) (fun w1 hw h=>run_fromA Zk Zs) <| ZC (fun w1 hw h=>xdecode_n hdn Zo) fun y=>ZI true <| ZW (.tuple #[Rf Uq,Zi 3])
theorem xcolor_s{k:Co}(h:U3 l=some k):Zv 134 #[K4 l] w (.tuple #[Rf k,Zi 0]):=by
 have hcw:=colW_P h
 obtain⟨l',rfl⟩:∃t,l=35::t:=⟨_,hcw.symm⟩
 have h9:l'.length=8:=by
  have:=congrArg List.length hcw
  unfold Pd at this
  rw[List.length_cons,List.length_cons,Sr]at this
  have h2:(Ep k).length=4:=rfl
  omega
 have hd:decL l'=some (Ep k):=by
  have h1:T1 (Ep k)=l':=by unfold Pd at hcw;exact List.tail_eq_of_cons_eq hcw
  rw[←h1];exact Ft _
 exact K0.enter Tryz.func134 rfl <| ZS 3 <| K0.slot 8 (.bool (((35::l').length:Int) !=9)) Zf Zk Zp <| ZS 5 <| ZA (ixS 9 (K4 (35::l')) (0:Nat)) (.int .u8 35) (fun w1 hw h=>Se (b:=35) Zk rfl) <| K0.cond false Zk <| ZS 1 <| ZA (fromA 9 (K4 (35::l')) ((1:Nat):Int)) (K4 l') (fun w1 hw h=>run_fromA Zk Zs) <| ZC (fun w1 hw h=>xdecode_g (K:=4) hd rfl Zd Zo) fun y=>ZI false <| ZB 1 (Kj 86 (.slice (some ⟨y.1,0,none⟩) 4 y.2) (0:Nat)) (.pointer (some ((⟨y.1,0,none⟩:Addr).add 0))) (fun w1 hw h=>Kn (elem:=5) Zk Zk Zd) <| ZB 2 (L5 5 ((⟨y.1,0,none⟩:Addr).add 0)) (.int .u8 (k.1.toNat:Int)) (fun w1 hw h=>K8 Zk (by rw[Addr.add_mid,Nat.zero_add];exact h.2 0 _ rfl)) <| ZB 4 (Kj 86 (.slice (some ⟨y.1,0,none⟩) 4 y.2) (1:Nat)) (.pointer (some ((⟨y.1,0,none⟩:Addr).add 1))) (fun w1 hw h=>Kn (elem:=5) Zk Zk Zd) <| ZB 5 (L5 5 ((⟨y.1,0,none⟩:Addr).add 1)) (.int .u8 (k.2.1.toNat:Int)) (fun w1 hw h=>K8 Zk (by rw[Addr.add_mid,Nat.zero_add];exact h.2 1 _ rfl)) <| ZB 7 (Kj 86 (.slice (some ⟨y.1,0,none⟩) 4 y.2) (2:Nat)) (.pointer (some ((⟨y.1,0,none⟩:Addr).add 2))) (fun w1 hw h=>Kn (elem:=5) Zk Zk Zd) <| ZB 8 (L5 5 ((⟨y.1,0,none⟩:Addr).add 2)) (.int .u8 (k.2.2.1.toNat:Int)) (fun w1 hw h=>K8 Zk (by rw[Addr.add_mid,Nat.zero_add];exact h.2 2 _ rfl)) <| ZB 10 (Kj 86 (.slice (some ⟨y.1,0,none⟩) 4 y.2) (3:Nat)) (.pointer (some ((⟨y.1,0,none⟩:Addr).add 3))) (fun w1 hw h=>Kn (elem:=5) Zk Zk Zd) <| ZB 11 (L5 5 ((⟨y.1,0,none⟩:Addr).add 3)) (.int .u8 (k.2.2.2.toNat:Int)) (fun w1 hw h=>K8 Zk (by rw[Addr.add_mid,Nat.zero_add];exact h.2 3 _ rfl)) <| ZW (.tuple #[Rf k,Zi 0])
end
section
variable{w W:World}{g n c m:Nat}{A:Option Addr}{f:Bool}{s l:List UInt8}{ws0 rest r:WS}
theorem Yq(hR:RE W w g A n c ws0)(hs:Ph ws0 n rest)(hb:K5 w g (L7 A n c rest.length f)):Calls Tryz.prog 79 #[Zq g 0] w
 (Ld w [g] Qn (rdC f rest) (fun d (_:Unit)=>Rf d.1) (fun d _ u=>K5 u g (L7 A n c d.2.1.length d.2.2))):=by
 have lg:=hR.lg
 cases rest with
 |nil=>
  exact K0.enterB Tryz.func79 rfl hR.hW lg hb <| ZR <| K0.mutx (L:=[g]) (Φ':=fun u=>Me W w g u) (fun w1 hw h=>Qk (hR.next hw h) h.2.2) (fun u h=>K9 (cs':=[]) lg u h) (fun wa u e1 e2 h _=>Mn wa u e1 e2 h) Zk Zk <| K0.pan fun w1 hw h=>Mm hR.hW hw h
 | cons s r=>
  have hsl:=hR.mem hs
  have hrd:rdC f (s::r)=(U3 s).map fun c=>(c,r,f):=rfl
  rw[hrd]
  cases hc:U3 s with
  |none=>
   exact K0.enterB Tryz.func79 rfl hR.hW lg hb <| ZR <| K0.mut (L:=[g]) (Φ':=fun _ u=>Om W w g (L7 A n c r.length f) u) (fun w1 hw h=>Oq (hR.next hw h) hs h.2.2) (fun u h=>K9 (cs':=[]) lg u h) (fun _ wa u e1 e2 h hG=>Kg wa u e1 e2 h hG) Zk Zk fun _=>ZR <| ZC (fun w1 hw h=>xcolor_n hc hsl) fun u=>ZI true <| K0.throw (Instr.panic Ke >>= fun v=>pure (.value v)) Ke Zk (fun w1 hw h=>by simp[Instr.panic,Ke,Go.goPanic]) Zk <| K0.pan fun w1 hw h=>Mg hR.hW hw h.1
  |some k=>
   refine K0.enterB Tryz.func79 rfl hR.hW lg hb <| ZR <| K0.mut (L:=[g]) (Φ':=fun _ u=>Om W w g (L7 A n c r.length f) u) (fun w1 hw h=>Oq (hR.next hw h) hs h.2.2) (fun u h=>K9 (cs':=[]) lg u h) (fun _ wa u e1 e2 h hG=>Kg wa u e1 e2 h hG) Zk Zk fun _=>ZR <| ZC (fun w1 hw h=>xcolor_s hc) fun u=>ZI false <| ZV (Rf k) (fun w1 hw h=>Mt hR.hW hw (h w1 (Nat.le_refl _) fun _ _ _=>rfl).1)
def Na:WS:=[[110,111,110,122,101,114,111],[101,118,101,110,111,100,100]]
theorem O9{g:Nat}{L:WS}{cells:Array Value}{n:Nat}(h:L4 9 cells g w)(he:cells.toList=sv L)(hn:L.length=n:=by rfl):L3 w (some ⟨g,0,none⟩) n L:=by
 refine⟨hn,fun k s hk=>⟨⟨g,0,none⟩,rfl,?_⟩⟩
 unfold L4 at h
 rw[Addr.add_mid,Nat.zero_add]
 simp only[World.cell?,h,Option.isSome_none,Bool.false_eq_true,if_false]
 rw[←Array.getElem?_toList,he]
 unfold sv
 rw[List.getElem?_map,hk];rfl
theorem Fg:Calls Tryz.prog 68 #[.string ⟨#[115,112,114,101,97,100]⟩] w (K7 w (fun y:Nat=> .tuple #[.slice (some ⟨y,0,none⟩) 4 4,Zi 0]) fun y u=>L3 u (some ⟨y,0,none⟩) 4 Ln):=by
 refine K0.enter Tryz.func68 rfl <| ZR <| ZI true <| K0.make (Lq (66) 4 #[(0,K4 [110,111,110,101]),(1,K4 [112,97,100]),(2,K4 [114,101,112,101,97,116]),(3,K4 [114,101,102,108,101,99,116])]) (Kf 4) (L4 9 #[K4 [110,111,110,101],K4 [112,97,100],K4 [114,101,112,101,97,116],K4 [114,101,102,108,101,99,116]]) Zk (fun w1 hw h=>Kc Zk) fun y=>ZR <| ZV (.tuple #[.slice (some ⟨y,0,none⟩) 4 4,Zi 0]) (fun w1 hw h=>⟨y,rfl,hw,fun w'' k1 k2=>O9 (h w'' k1 k2).2 rfl⟩)
theorem names_look:Calls Tryz.prog 68 #[.string ⟨#[108,111,111,107]⟩] w (K7 w (fun y:Nat=> .tuple #[.slice (some ⟨y,0,none⟩) 2 2,Zi 1]) fun y u=>L3 u (some ⟨y,0,none⟩) 2 Oc):=by
 refine K0.enter Tryz.func68 rfl <| ZR <| ZI false <| ZI true <| K0.make (Lq (66) 2 #[(0,K4 [110,101,97,114,101,115,116]),(1,K4 [98,105,108,105,110,101,97,114])]) (Kf 2) (L4 9 #[K4 [110,101,97,114,101,115,116],K4 [98,105,108,105,110,101,97,114]]) Zk (fun w1 hw h=>Kc Zk) fun y=>ZR <| ZV (.tuple #[.slice (some ⟨y,0,none⟩) 2 2,Zi 1]) (fun w1 hw h=>⟨y,rfl,hw,fun w'' k1 k2=>O9 (h w'' k1 k2).2 rfl⟩)
theorem names_rule:Calls Tryz.prog 68 #[.string ⟨#[114,117,108,101]⟩] w (K7 w (fun y:Nat=> .tuple #[.slice (some ⟨y,0,none⟩) 2 2,Zi 1]) fun y u=>L3 u (some ⟨y,0,none⟩) 2 Na):=by
 refine K0.enter Tryz.func68 rfl <| ZR <| ZI false <| ZI false <| ZI true <| K0.make (Lq (66) 2 #[(0,K4 [110,111,110,122,101,114,111]),(1,K4 [101,118,101,110,111,100,100])]) (Kf 2) (L4 9 #[K4 [110,111,110,122,101,114,111],K4 [101,118,101,110,111,100,100]]) Zk (fun w1 hw h=>Kc Zk) fun y=>ZR <| ZV (.tuple #[.slice (some ⟨y,0,none⟩) 2 2,Zi 1]) (fun w1 hw h=>⟨y,rfl,hw,fun w'' k1 k2=>O9 (h w'' k1 k2).2 rfl⟩)
end
section
variable{w W:World}{g n c m:Nat}{A:Option Addr}{f:Bool}{s l:List UInt8}{ws0 rest r:WS}
theorem str_ne{y k:Nat}{v v2:Value}{L:WS}(hb:K5 w g [.slice A n c,v2])(h:L3 w (some ⟨y,0,none⟩) k (s::L)):∀b∈bl (some (⟨y,0,none⟩:Addr)),b∉[g]:=fun b hb2 hm=>by
 simp only[bl,List.mem_singleton]at hb2 hm
 have e:y=g:=hb2.symm.trans hm
 obtain⟨ad,h1,h2⟩:=h.2 0 s rfl
 cases h1
 have h3:w.cell? ⟨g,0,none⟩=some (.slice A n c):=by rw[hb.cell];rfl
 rw[Addr.add_mid,e,h3]at h2
 cases h2
theorem Rt(hR:RE W w g A n c ws0)(hs:Ph ws0 n rest)(hb:K5 w g (L7 A n c rest.length f)):Calls Tryz.prog 89 #[Zq g 0,.string ⟨#[115,112,114,101,97,100]⟩] w
 (Ld w [g] Qn (Dg Ln 0 f rest) (fun d (_:Unit)=>Zi d.1) (fun d _ u=>K5 u g (L7 A n c d.2.1.length d.2.2))):=by
 have lg:=hR.lg
 refine K0.enterB Tryz.func89 rfl hR.hW lg hb <| ZR <| ZC (fun w1 hw h=>Fg) fun y=> ?_
 cases rest with
 |nil=>
  exact K0.mutx (L:=[g]) (Φ':=fun u=>Me W w g u) (fun w1 hw h=>Qk (hR.next hw h.1) h.1.2.2) (fun u h=>K9 (cs':=[]) lg u h.1) (fun wa u e1 e2 h _=>Mn wa u e1 e2 h.1) Zk Zk <| K0.pan fun w1 hw h=>Mm hR.hW hw h
 | cons s r=>
  have hsl:=hR.mem hs
  refine K0.mut (L:=[g]) (Φ':=fun _ u=>Om W w g (L7 A n c r.length f) u∧L3 u (some ⟨y,0,none⟩) 4 Ln) (fun w1 hw h=>Oq (hR.next hw h.1) hs h.1.2.2) (fun u h=>K9 (cs':=[]) lg u h.1) (fun _ wa u e1 e2 h hG=>⟨Kg wa u e1 e2 h.1 hG,h.2.left e2 (str_ne (v:= .bool f) h.1.2.2 h.2)⟩) Zk Zk fun _=>ZR ?_
  have hrd:Dg Ln 0 f (s::r)=(S9 s Ln).map fun(k:Nat)=>((0:Int)+(k:Int),r,f):=rfl
  rw[hrd]
  refine K0.un Zk <| ZR <| K0.cond true Zk <| ZS 1 <| ZA (Kj 66 (.slice (some ⟨y,0,none⟩) 4 4) (0:Nat)) (.pointer (some ((⟨y,0,none⟩:Addr).add 0))) (fun w1 hw h=>Kn (elem:=9) Zk Zk Zd) <| K0.ask (L5 9 ((⟨y,0,none⟩:Addr).add 0)) (K4 [110,111,110,101]) Zk (fun w1 hw h=>K8 Zk (by obtain⟨ad,q1,q2⟩:=h.2.2 0 [110,111,110,101] rfl;cases q1;exact q2)) <| ZS 2 ?_
  by_cases h0:s=[110,111,110,101]
  ·subst h0
   refine ZA (Qf .eql 9 (.tmp 24) (.tmp 25) (K4 [110,111,110,101]) (K4 [110,111,110,101])) Zt (fun w1 hw h=>Ks Zs) <| ZI true ?_
   have he:S9 [110,111,110,101] Ln=some 0:=by decide
   rw[he]
   refine ZV (Zi 0) (fun w1 hw h=>Mt hR.hW hw (h w1 (Nat.le_refl _) fun _ _ _=>rfl).1)
  refine ZA (Qf .eql 9 (.tmp 24) (.tmp 25) (K4 [110,111,110,101]) (K4 s)) Zf (fun w1 hw h=>Ks (by simpa using Ne.symm h0)) <| ZI false <| K0.cond true Zk <| ZS 1 <| ZA (Kj 66 (.slice (some ⟨y,0,none⟩) 4 4) (1:Nat)) (.pointer (some ((⟨y,0,none⟩:Addr).add 1))) (fun w1 hw h=>Kn (elem:=9) Zk Zk Zd) <| K0.ask (L5 9 ((⟨y,0,none⟩:Addr).add 1)) (K4 [112,97,100]) Zk (fun w1 hw h=>K8 Zk (by obtain⟨ad,q1,q2⟩:=h.2.2 1 [112,97,100] rfl;cases q1;exact q2)) <| ZS 2 ?_
  by_cases h1:s=[112,97,100]
  ·subst h1
   refine ZA (Qf .eql 9 (.tmp 24) (.tmp 25) (K4 [112,97,100]) (K4 [112,97,100])) Zt (fun w1 hw h=>Ks Zs) <| ZI true ?_
   have he:S9 [112,97,100] Ln=some 1:=by decide
   rw[he]
   refine ZV (Zi 1) (fun w1 hw h=>Mt hR.hW hw (h w1 (Nat.le_refl _) fun _ _ _=>rfl).1)
  refine ZA (Qf .eql 9 (.tmp 24) (.tmp 25) (K4 [112,97,100]) (K4 s)) Zf (fun w1 hw h=>Ks (by simpa using Ne.symm h1)) <| ZI false <| K0.cond true Zk <| ZS 1 <| ZA (Kj 66 (.slice (some ⟨y,0,none⟩) 4 4) (2:Nat)) (.pointer (some ((⟨y,0,none⟩:Addr).add 2))) (fun w1 hw h=>Kn (elem:=9) Zk Zk Zd) <| K0.ask (L5 9 ((⟨y,0,none⟩:Addr).add 2)) (K4 [114,101,112,101,97,116]) Zk (fun w1 hw h=>K8 Zk (by obtain⟨ad,q1,q2⟩:=h.2.2 2 [114,101,112,101,97,116] rfl;cases q1;exact q2)) <| ZS 2 ?_
  by_cases h2:s=[114,101,112,101,97,116]
  ·subst h2
   refine ZA (Qf .eql 9 (.tmp 24) (.tmp 25) (K4 [114,101,112,101,97,116]) (K4 [114,101,112,101,97,116])) Zt (fun w1 hw h=>Ks Zs) <| ZI true ?_
   have he:S9 [114,101,112,101,97,116] Ln=some 2:=by decide
   rw[he]
   refine ZV (Zi 2) (fun w1 hw h=>Mt hR.hW hw (h w1 (Nat.le_refl _) fun _ _ _=>rfl).1)
  refine ZA (Qf .eql 9 (.tmp 24) (.tmp 25) (K4 [114,101,112,101,97,116]) (K4 s)) Zf (fun w1 hw h=>Ks (by simpa using Ne.symm h2)) <| ZI false <| K0.cond true Zk <| ZS 1 <| ZA (Kj 66 (.slice (some ⟨y,0,none⟩) 4 4) (3:Nat)) (.pointer (some ((⟨y,0,none⟩:Addr).add 3))) (fun w1 hw h=>Kn (elem:=9) Zk Zk Zd) <| K0.ask (L5 9 ((⟨y,0,none⟩:Addr).add 3)) (K4 [114,101,102,108,101,99,116]) Zk (fun w1 hw h=>K8 Zk (by obtain⟨ad,q1,q2⟩:=h.2.2 3 [114,101,102,108,101,99,116] rfl;cases q1;exact q2)) <| ZS 2 ?_
  by_cases h3:s=[114,101,102,108,101,99,116]
  ·subst h3
   refine ZA (Qf .eql 9 (.tmp 24) (.tmp 25) (K4 [114,101,102,108,101,99,116]) (K4 [114,101,102,108,101,99,116])) Zt (fun w1 hw h=>Ks Zs) <| ZI true ?_
   have he:S9 [114,101,102,108,101,99,116] Ln=some 3:=by decide
   rw[he]
   refine ZV (Zi 3) (fun w1 hw h=>Mt hR.hW hw (h w1 (Nat.le_refl _) fun _ _ _=>rfl).1)
  refine ZA (Qf .eql 9 (.tmp 24) (.tmp 25) (K4 [114,101,102,108,101,99,116]) (K4 s)) Zf (fun w1 hw h=>Ks (by simpa using Ne.symm h3)) <| ZI false <| ZI false ?_
  have he:S9 s Ln=none:=by
   unfold Ln
   rw[Pa,if_neg (Ne.symm h0),Pa,if_neg (Ne.symm h1),Pa,if_neg (Ne.symm h2),Pa,if_neg (Ne.symm h3)];rfl
  rw[he]
  exact K0.throw (Instr.panic Ke >>= fun v=>pure (.value v)) Ke Zk (fun w1 hw h=>by simp[Instr.panic,Ke,Go.goPanic]) Zk <| K0.pan fun w1 hw h=>Mg hR.hW hw h.1
theorem Gc(hR:RE W w g A n c ws0)(hs:Ph ws0 n rest)(hb:K5 w g (L7 A n c rest.length f)):Calls Tryz.prog 89 #[Zq g 0,.string ⟨#[108,111,111,107]⟩] w
 (Ld w [g] Qn (Dg Oc 1 f rest) (fun d (_:Unit)=>Zi d.1) (fun d _ u=>K5 u g (L7 A n c d.2.1.length d.2.2))):=by
 have lg:=hR.lg
 refine K0.enterB Tryz.func89 rfl hR.hW lg hb <| ZR <| ZC (fun w1 hw h=>names_look) fun y=> ?_
 cases rest with
 |nil=>
  exact K0.mutx (L:=[g]) (Φ':=fun u=>Me W w g u) (fun w1 hw h=>Qk (hR.next hw h.1) h.1.2.2) (fun u h=>K9 (cs':=[]) lg u h.1) (fun wa u e1 e2 h _=>Mn wa u e1 e2 h.1) Zk Zk <| K0.pan fun w1 hw h=>Mm hR.hW hw h
 | cons s r=>
  have hsl:=hR.mem hs
  refine K0.mut (L:=[g]) (Φ':=fun _ u=>Om W w g (L7 A n c r.length f) u∧L3 u (some ⟨y,0,none⟩) 2 Oc) (fun w1 hw h=>Oq (hR.next hw h.1) hs h.1.2.2) (fun u h=>K9 (cs':=[]) lg u h.1) (fun _ wa u e1 e2 h hG=>⟨Kg wa u e1 e2 h.1 hG,h.2.left e2 (str_ne (v:= .bool f) h.1.2.2 h.2)⟩) Zk Zk fun _=>ZR ?_
  have hrd:Dg Oc 1 f (s::r)=(S9 s Oc).map fun(k:Nat)=>((1:Int)+(k:Int),r,f):=rfl
  rw[hrd]
  refine K0.un Zk <| ZR <| K0.cond true Zk <| ZS 1 <| ZA (Kj 66 (.slice (some ⟨y,0,none⟩) 2 2) (0:Nat)) (.pointer (some ((⟨y,0,none⟩:Addr).add 0))) (fun w1 hw h=>Kn (elem:=9) Zk Zk Zd) <| K0.ask (L5 9 ((⟨y,0,none⟩:Addr).add 0)) (K4 [110,101,97,114,101,115,116]) Zk (fun w1 hw h=>K8 Zk (by obtain⟨ad,q1,q2⟩:=h.2.2 0 [110,101,97,114,101,115,116] rfl;cases q1;exact q2)) <| ZS 2 ?_
  by_cases h0:s=[110,101,97,114,101,115,116]
  ·subst h0
   refine ZA (Qf .eql 9 (.tmp 24) (.tmp 25) (K4 [110,101,97,114,101,115,116]) (K4 [110,101,97,114,101,115,116])) Zt (fun w1 hw h=>Ks Zs) <| ZI true ?_
   have he:S9 [110,101,97,114,101,115,116] Oc=some 0:=by decide
   rw[he]
   refine ZV (Zi 1) (fun w1 hw h=>Mt hR.hW hw (h w1 (Nat.le_refl _) fun _ _ _=>rfl).1)
  refine ZA (Qf .eql 9 (.tmp 24) (.tmp 25) (K4 [110,101,97,114,101,115,116]) (K4 s)) Zf (fun w1 hw h=>Ks (by simpa using Ne.symm h0)) <| ZI false <| K0.cond true Zk <| ZS 1 <| ZA (Kj 66 (.slice (some ⟨y,0,none⟩) 2 2) (1:Nat)) (.pointer (some ((⟨y,0,none⟩:Addr).add 1))) (fun w1 hw h=>Kn (elem:=9) Zk Zk Zd) <| K0.ask (L5 9 ((⟨y,0,none⟩:Addr).add 1)) (K4 [98,105,108,105,110,101,97,114]) Zk (fun w1 hw h=>K8 Zk (by obtain⟨ad,q1,q2⟩:=h.2.2 1 [98,105,108,105,110,101,97,114] rfl;cases q1;exact q2)) <| ZS 2 ?_
  by_cases h1:s=[98,105,108,105,110,101,97,114]
  ·subst h1
   refine ZA (Qf .eql 9 (.tmp 24) (.tmp 25) (K4 [98,105,108,105,110,101,97,114]) (K4 [98,105,108,105,110,101,97,114])) Zt (fun w1 hw h=>Ks Zs) <| ZI true ?_
   have he:S9 [98,105,108,105,110,101,97,114] Oc=some 1:=by decide
   rw[he]
   refine ZV (Zi 2) (fun w1 hw h=>Mt hR.hW hw (h w1 (Nat.le_refl _) fun _ _ _=>rfl).1)
  refine ZA (Qf .eql 9 (.tmp 24) (.tmp 25) (K4 [98,105,108,105,110,101,97,114]) (K4 s)) Zf (fun w1 hw h=>Ks (by simpa using Ne.symm h1)) <| ZI false <| ZI false ?_
  have he:S9 s Oc=none:=by
   unfold Oc
   rw[Pa,if_neg (Ne.symm h0),Pa,if_neg (Ne.symm h1)];rfl
  rw[he]
  exact K0.throw (Instr.panic Ke >>= fun v=>pure (.value v)) Ke Zk (fun w1 hw h=>by simp[Instr.panic,Ke,Go.goPanic]) Zk <| K0.pan fun w1 hw h=>Mg hR.hW hw h.1
theorem word_rule(hR:RE W w g A n c ws0)(hs:Ph ws0 n rest)(hb:K5 w g (L7 A n c rest.length f)):Calls Tryz.prog 89 #[Zq g 0,.string ⟨#[114,117,108,101]⟩] w
 (Ld w [g] Qn (Dg Na 1 f rest) (fun d (_:Unit)=>Zi d.1) (fun d _ u=>K5 u g (L7 A n c d.2.1.length d.2.2))):=by
 have lg:=hR.lg
 refine K0.enterB Tryz.func89 rfl hR.hW lg hb <| ZR <| ZC (fun w1 hw h=>names_rule) fun y=> ?_
 cases rest with
 |nil=>
  exact K0.mutx (L:=[g]) (Φ':=fun u=>Me W w g u) (fun w1 hw h=>Qk (hR.next hw h.1) h.1.2.2) (fun u h=>K9 (cs':=[]) lg u h.1) (fun wa u e1 e2 h _=>Mn wa u e1 e2 h.1) Zk Zk <| K0.pan fun w1 hw h=>Mm hR.hW hw h
 | cons s r=>
  have hsl:=hR.mem hs
  refine K0.mut (L:=[g]) (Φ':=fun _ u=>Om W w g (L7 A n c r.length f) u∧L3 u (some ⟨y,0,none⟩) 2 Na) (fun w1 hw h=>Oq (hR.next hw h.1) hs h.1.2.2) (fun u h=>K9 (cs':=[]) lg u h.1) (fun _ wa u e1 e2 h hG=>⟨Kg wa u e1 e2 h.1 hG,h.2.left e2 (str_ne (v:= .bool f) h.1.2.2 h.2)⟩) Zk Zk fun _=>ZR ?_
  have hrd:Dg Na 1 f (s::r)=(S9 s Na).map fun(k:Nat)=>((1:Int)+(k:Int),r,f):=rfl
  rw[hrd]
  refine K0.un Zk <| ZR <| K0.cond true Zk <| ZS 1 <| ZA (Kj 66 (.slice (some ⟨y,0,none⟩) 2 2) (0:Nat)) (.pointer (some ((⟨y,0,none⟩:Addr).add 0))) (fun w1 hw h=>Kn (elem:=9) Zk Zk Zd) <| K0.ask (L5 9 ((⟨y,0,none⟩:Addr).add 0)) (K4 [110,111,110,122,101,114,111]) Zk (fun w1 hw h=>K8 Zk (by obtain⟨ad,q1,q2⟩:=h.2.2 0 [110,111,110,122,101,114,111] rfl;cases q1;exact q2)) <| ZS 2 ?_
  by_cases h0:s=[110,111,110,122,101,114,111]
  ·subst h0
   refine ZA (Qf .eql 9 (.tmp 24) (.tmp 25) (K4 [110,111,110,122,101,114,111]) (K4 [110,111,110,122,101,114,111])) Zt (fun w1 hw h=>Ks Zs) <| ZI true ?_
   have he:S9 [110,111,110,122,101,114,111] Na=some 0:=by decide
   rw[he]
   refine ZV (Zi 1) (fun w1 hw h=>Mt hR.hW hw (h w1 (Nat.le_refl _) fun _ _ _=>rfl).1)
  refine ZA (Qf .eql 9 (.tmp 24) (.tmp 25) (K4 [110,111,110,122,101,114,111]) (K4 s)) Zf (fun w1 hw h=>Ks (by simpa using Ne.symm h0)) <| ZI false <| K0.cond true Zk <| ZS 1 <| ZA (Kj 66 (.slice (some ⟨y,0,none⟩) 2 2) (1:Nat)) (.pointer (some ((⟨y,0,none⟩:Addr).add 1))) (fun w1 hw h=>Kn (elem:=9) Zk Zk Zd) <| K0.ask (L5 9 ((⟨y,0,none⟩:Addr).add 1)) (K4 [101,118,101,110,111,100,100]) Zk (fun w1 hw h=>K8 Zk (by obtain⟨ad,q1,q2⟩:=h.2.2 1 [101,118,101,110,111,100,100] rfl;cases q1;exact q2)) <| ZS 2 ?_
  by_cases h1:s=[101,118,101,110,111,100,100]
  ·subst h1
   refine ZA (Qf .eql 9 (.tmp 24) (.tmp 25) (K4 [101,118,101,110,111,100,100]) (K4 [101,118,101,110,111,100,100])) Zt (fun w1 hw h=>Ks Zs) <| ZI true ?_
   have he:S9 [101,118,101,110,111,100,100] Na=some 1:=by decide
   rw[he]
   refine ZV (Zi 2) (fun w1 hw h=>Mt hR.hW hw (h w1 (Nat.le_refl _) fun _ _ _=>rfl).1)
  refine ZA (Qf .eql 9 (.tmp 24) (.tmp 25) (K4 [101,118,101,110,111,100,100]) (K4 s)) Zf (fun w1 hw h=>Ks (by simpa using Ne.symm h1)) <| ZI false <| ZI false ?_
  have he:S9 s Na=none:=by
   unfold Na
   rw[Pa,if_neg (Ne.symm h0),Pa,if_neg (Ne.symm h1)];rfl
  rw[he]
  exact K0.throw (Instr.panic Ke >>= fun v=>pure (.value v)) Ke Zk (fun w1 hw h=>by simp[Instr.panic,Ke,Go.goPanic]) Zk <| K0.pan fun w1 hw h=>Mg hR.hW hw h.1
end
end Go.Proofs.YtoeiphicmcndlaaGreatDoor
