/-
 Paints as text: the reader.
-/
import Derived.Test.YtoeiphicmcndlaaGreatDoorAUQ
import Derived.Test.YtoeiphicmcndlaaGreatDoorTA
import Derived.Test.YtoeiphicmcndlaaGreatDoorAO
import Derived.Recover
import Derived.Test.YtoeiphicmcndlaaGreatDoorVD
namespace Go.Proofs.YtoeiphicmcndlaaGreatDoor
set_option maxRecDepth 100000
set_option maxHeartbeats 8000000
set_option linter.unusedVariables false
set_option linter.unusedSimpArgs false
open Go.RowKit
abbrev WS:=List (List UInt8)
abbrev Co:=UInt8×UInt8×UInt8×UInt8
def coB(c:Co):List UInt8:=[c.1,c.2.1,c.2.2.1,c.2.2.2]
structure Im where
 w:Int
 h:Int
 px:List Co
structure Pn where
 kind:Int
 co:Co
 p0x:Int
 p0y:Int
 p1x:Int
 p1y:Int
 rad:Int
 stops:List (Int×Co)
 spread:Int
 im:Im
 samp:Int
 T:Yg
def Us:Co:=(0,0,0,0)
def im0:Im:=⟨0,0,[]⟩
def Q6:Yg:=⟨0,0,0,0,0,0⟩
def Lz:WS:=[[110,111,110,101],[112,97,100],[114,101,112,101,97,116],[114,101,102,108,101,99,116]]
def Oy:WS:=[[110,101,97,114,101,115,116],[98,105,108,105,110,101,97,114]]
def Q0:List UInt8:=[115,111,108,105,100]
def Qi:List UInt8:=[108,105,110,101,97,114]
def R4:List UInt8:=[114,97,100,105,97,108]
def Mb:List UInt8:=[112,97,116,116,101,114,110]
def Lh(l:WS)(frm:Int)(k:Int):List UInt8:=(l[(k-frm).toNat]?).getD []
def Pu(T:Yg):WS:=[L3 T.a,L3 T.b,L3 T.c,L3 T.d,L3 T.e,L3 T.f]
def Qk(c:Co):List UInt8:=35::Su (coB c)
def hexW(px:List Co):List UInt8:=Su (px.flatMap coB)
def imW(m:Im):WS:=[Kj m.w,Kj m.h,hexW m.px]
def stW(l:List (Int×Co)):WS:=l.flatMap fun x=>[Kj x.1,Qk x.2]
def Sp(P:Pn):WS:=
 if P.kind=1 then [Q0,Qk P.co]
 else if P.kind=4 then [Mb,Lh Lz 0 P.spread,Lh Oy 1 P.samp]++Pu P.T++imW P.im
 else if P.kind=2 then [Qi,Kj P.p0x,Kj P.p0y,Kj P.p1x,Kj P.p1y,Lh Lz 0 P.spread]++Pu P.T++stW P.stops
 else [R4,Kj P.p0x,Kj P.p0y,Kj P.rad,Lh Lz 0 P.spread]++Pu P.T++stW P.stops
def mnI:Int:= -9223372036854775808
def mxI:Int:=9223372036854775807
def rdI(lo hi:Int)(f:Bool):WS→Option (Int×Bool×WS×Bool)
 | []=>none
 |s::r=>if T8 s lo hi=0 then some (Zn s lo hi,true,r,f)else if T8 s lo hi=6 then some (0,false,r,true)else none
def Xy(f:Bool)(ws:WS):Option (Int×WS×Bool):=(rdI mnI mxI f ws).map fun x=>(x.1,x.2.2.1,x.2.2.2)
def Rn(s:List UInt8):WS→Option Nat
 | []=>none
 |x::l=>if x=s then some 0 else(Rn s l).map (· +1)
def rdW(l:WS)(frm:Int)(f:Bool):WS→Option (Int×WS×Bool)
 | []=>none
 |s::r=>(Rn s l).map fun(k:Nat)=>(frm+(k:Int),r,f)
def Vn(s:List UInt8):Option Co:=
 if s.length=9∧s[0]? =some 35 then(match decL (s.drop 1)with
  |some [r,g,b,a]=>some (r,g,b,a)
  |_=>none)else none
def rdC(f:Bool):WS→Option (Co×WS×Bool)
 | []=>none
 |s::r=>(Vn s).map fun c=>(c,r,f)
def rdQ(f:Bool):WS→Option (Rat×WS×Bool)
 | []=>none
 |s::r=>if pqE s=0 then some (pqV s,r,f)else none
def rdA(f:Bool)(ws:WS):Option (Yg×WS×Bool):=
 (rdQ f ws).bind fun a=>(rdQ a.2.2 a.2.1).bind fun b=>(rdQ b.2.2 b.2.1).bind fun c=>(rdQ c.2.2 c.2.1).bind fun d=>(rdQ d.2.2 d.2.1).bind fun e=>(rdQ e.2.2 e.2.1).map fun g=>
  (⟨a.1,b.1,c.1,d.1,e.1,g.1⟩,g.2.1,g.2.2)
def Oc:List UInt8→List Co
 |r::g::b::a::l=>(r,g,b,a)::Oc l
 |_=>[]
def Xz(f:Bool)(ws:WS):Option (Im×WS×Bool):=
 (rdI 1 4096 f ws).bind fun x=>(rdI 1 4096 x.2.2.2 x.2.2.1).bind fun y=>match y.2.2.1 with
  | []=>none
  | s::r=>match decL s with
   |none=>none
   |some b=>if b.length%4≠0 then none else if x.2.1=false∨y.2.1=false∨x.1*y.1>65536 then some (im0,r,true)
    else if (b.length:Int)≠4*x.1*y.1 then none else some (⟨x.1,y.1,Oc b⟩,r,y.2.2.2)
def rdS:Bool→WS→Option (List (Int×Co)×Bool)
 |f,[]=>some ([],f)
 |_,[_]=>none
 |f,s::c::r=>(Xy f [s]).bind fun x=>(Vn c).bind fun k=>(rdS x.2.2 r).map fun l=>((x.1,k)::l.1,l.2)
def rdP2(f:Bool)(ws:WS):Option ((Int×Int)×WS×Bool):=(Xy f ws).bind fun x=>(Xy x.2.2 x.2.1).map fun y=>((x.1,y.1),y.2.1,y.2.2)
def rdLin(f:Bool)(ws:WS):Option (Pn×Bool):=
 (rdP2 f ws).bind fun p=>(rdP2 p.2.2 p.2.1).bind fun q=>(rdW Lz 0 q.2.2 q.2.1).bind fun k=>(rdA k.2.2 k.2.1).bind fun t=>(rdS t.2.2 t.2.1).map fun l=>
  (⟨2,Us,p.1.1,p.1.2,q.1.1,q.1.2,0,l.1,k.1,im0,0,t.1⟩,l.2)
def rdRad(f:Bool)(ws:WS):Option (Pn×Bool):=
 (rdP2 f ws).bind fun p=>(Xy p.2.2 p.2.1).bind fun n=>(rdW Lz 0 n.2.2 n.2.1).bind fun k=>(rdA k.2.2 k.2.1).bind fun t=>(rdS t.2.2 t.2.1).map fun l=>
  (⟨3,Us,p.1.1,p.1.2,0,0,n.1,l.1,k.1,im0,0,t.1⟩,l.2)
def rdPat(f:Bool)(ws:WS):Option (Pn×Bool):=
 (rdW Lz 0 f ws).bind fun k=>(rdW Oy 1 k.2.2 k.2.1).bind fun n=>(rdA n.2.2 n.2.1).bind fun t=>(Xz t.2.2 t.2.1).bind fun m=>
  if m.2.1=[]then some (⟨4,Us,0,0,0,0,0,[],k.1,m.1,n.1,t.1⟩,m.2.2)else none
def rdSol(f:Bool)(ws:WS):Option (Pn×Bool):=(rdC f ws).bind fun c=>if c.2.1=[]then some (⟨1,c.1,0,0,0,0,0,[],0,im0,0,Q6⟩,c.2.2)else none
def rdPn(f:Bool):WS→Option (Pn×Bool)
 | []=>none
 |k::r=>if k=Q0 then rdSol f r else if k=Qi then rdLin f r else if k=R4 then rdRad f r else if k=Mb then rdPat f r else none
theorem rdI_cons(lo hi:Int)(f:Bool)(s:List UInt8)(r:WS):rdI lo hi f (s::r)=if T8 s lo hi=0 then some (Zn s lo hi,true,r,f)else if T8 s lo hi=6 then some (0,false,r,true)else none:=rfl
theorem Kw(f:Bool)(s:List UInt8)(r:WS):rdQ f (s::r)=if pqE s=0 then some (pqV s,r,f)else none:=rfl
theorem rdPn_cons(f:Bool)(k:List UInt8)(r:WS):rdPn f (k::r)=if k=Q0 then rdSol f r else if k=Qi then rdLin f r else if k=R4 then rdRad f r else if k=Mb then rdPat f r else none:=rfl
theorem P4(s x:List UInt8)(l:WS):Rn s (x::l)=if x=s then some 0 else(Rn s l).map (· +1):=rfl
theorem colW_P{s:List UInt8}{c:Co}(h:Vn s=some c):Qk c=s:=by
 unfold Vn at h
 split at h
 ·rename_i h0
  obtain⟨h1,h2⟩:=h0
  split at h
  ·rename_i r g b a hd
   cases h
   have:=encL_dec hd
   unfold Qk
   show 35::Su [r,g,b,a]=s
   rw[this]
   cases s with
   |nil=>cases h2
   |cons x s=>simp at h2;subst h2;rfl
  ·cases h
 ·cases h
theorem quads_flat:∀(n:Nat) (b:List UInt8),b.length=4*n→(Oc b).flatMap coB=b∧(Oc b).length=n
 |0,b,h=>by
  obtain rfl:b=[]:=List.length_eq_zero_iff.1 Zo
  exact⟨rfl,rfl⟩
 | n+1,b,h=>by
  match b,h with
  |x::y::z::u::l,h=>
   obtain⟨h1,h2⟩:=quads_flat n l (by simp only[List.length_cons]at h;omega)
   exact⟨by show coB (x,y,z,u)++(Oc l).flatMap coB=_;rw[h1];rfl,by show(Oc l).length+1=_;rw[h2]⟩
structure RSt where
 i:Nat
 syn:Bool
 rng:Bool
def Yj(w h:Int):Bool:=decide (1≤w∧w≤4096∧1≤h∧h≤4096∧w*h≤65536)
def U0(w:World)(L:List Nat)(ch:List PanicEntry)(e:Ending)(w':World):Prop:=e= .panicked ch∧Chg L w w'
def amPan(ch:List PanicEntry)(c:Nh):Nh:=⟨.out (.panic ch),c.k,c.st⟩
def Le{D X:Type}(w:World)(L:List Nat)(ch:List PanicEntry)(o:Option D)(val:D→X→Value)(G:D→X→World→Prop)(e:Ending)(w':World):Prop:=
 match o with
 |none=>U0 w L ch e w'
 |some d=>Ng w L (val d) (G d) e w'
section
variable{P:Program}{Δ:List Deferred}{W:World}{Q:Exit→Act→World→Prop}{Φ Φ':World→Prop}{c:Nh}
theorem K0.mutx{L:List Nat}{g:FuncId}{args:Array Value}{ch:List PanicEntry}
 (hs:∀w,Below W.heap.size W w→Φ w→Calls P g args w (U0 w L ch)) (hL:Xq W L Φ) (hΦ:Left L Φ (fun _=>True) Φ')
 (hf:Qb c=true) (hc:Ln P c=some (g,args)) (h:K0 P Δ W Q Φ' (amPan ch c)):K0 P Δ W Q Φ c:=by
 obtain⟨foc,k,σ⟩:=c
 replace h:=h.get
 refine⟨?_⟩
 unfold Ln at hc
 split at hc
 ·rename_i g' xs hn
  split at hc
  ·rename_i vs hv
   injection hc with hc
   injection hc with h1 h2
   subst h1;subst h2
   unfold S0 at hn
   split at hn
   ·rename_i ops o ho
    split at hn
    ·rename_i hw
     unfold O0 at ho
     simp only at ho
     split at ho
     ·rename_i ops' i l
      cases hoi:ops'[i]? with
      |none=>rw[hoi]at ho;cases ho
      |some o'=>
       rw[hoi]at ho
       simp only[Option.map_some,Option.some.injEq,Prod.mk.injEq]at ho
       obtain⟨rfl,rfl⟩:=ho
       intro hwf β a w hr
       show wpOps P ops' (post P Q k) (i::l) a w
       rw[wpOps_cons]
       unfold wpOp
       simp only[hoi,M8 hr,hw,if_true]
       refine .inl ?_
       unfold Oper.wp
       rw[Uq hn hr,P7 hv]
       refine Calls.mono (hs w hr.bel hr.phi) fun e w' he=> ?_
       obtain⟨rfl,hch⟩:=he
       exact h hwf β _ w' (hr.mut hL hch (fun _ _ _=>trivial) hΦ)
     ·cases hf
     ·cases ho
    ·cases hn
   ·cases hn
  ·cases hc
 ·cases hc
theorem K0.throw(s:Sem Next)(v:Value)(hc:Tq c=some s)(hs:∀w,Below W.heap.size W w→Φ w→s.run P w= .halt (.panic v) w)
 (hf:Qb c=true) (h:K0 P Δ W Q Φ (amPan [{v,recovered:=false}] c)):K0 P Δ W Q Φ c:=by
 obtain⟨foc,k,σ⟩:=c
 replace h:=h.get
 refine⟨?_⟩
 replace hc:=(Py hc).1
 unfold S8 at hc
 split at hc
 ·rename_i ops o ho
  split at hc
  ·cases hc
  ·cases hc
  ·rename_i hns hnm
   split at hc
   ·rename_i hw
    simp only[Bool.and_eq_true]at hw
    injection hc with hc
    subst hc
    unfold O0 at ho
    simp only at ho
    split at ho
    ·rename_i ops' i l
     cases hoi:ops'[i]? with
     |none=>rw[hoi]at ho;cases ho
     | some o'=>
      rw[hoi]at ho
      simp only[Option.map_some,Option.some.injEq,Prod.mk.injEq]at ho
      obtain⟨rfl,rfl⟩:=ho
      intro hwf β a w hr
      show wpOps P ops' (post P Q k) (i::l) a w
      rw[wpOps_cons]
      unfold wpOp
      simp only[hoi,M8 hr,hw.1,if_true]
      refine .inl ?_
      have hrho:∀x∈o'.op.operands,a.eval x=σ.rho x:=fun x hx=>by
       rw[hr.eval,AV.conc_isV];· rfl
       exact List.all_eq_true.1 hw.2 x (by simpa using hx)
      unfold Oper.wp
      rw[execOp_congr o' hns hrho,hs w hr.bel hr.phi]
      exact h hwf β _ w hr
    ·cases hf
    ·cases ho
   ·cases hc
 ·cases hc
theorem X6{ch:List PanicEntry}{a:Act}{w:World}:∀k:List FrK,Q (.panic ch) a w→post P Q k (.panic ch) a w
 | [],h=>h
 | .seq c::k,h=>X6 k h
 | .blk id::k,h=>X6 k h
 | .lp bd::k,h=>X6 k h
theorem K0.pan{fn:Func}{R:Ending→World→Prop}{ch:List PanicEntry}(h:∀w,Below W.heap.size W w→Φ w→R (.panicked ch) w):K0 P [] W (bodyPost P fn R) Φ (amPan ch c):=
 ⟨fun hwf β a w hr=>X6 c.k ⟨hr.defers,h w hr.bel hr.phi⟩⟩
end
theorem K5.stay{w u:World}{B g:Nat}{cs:List Value}(h:K5 w g cs)(hg:B≤g)(hs:∀b,B≤b→b<w.heap.size→u.heap[b]? =w.heap[b]?):K5 u g cs:=by
 obtain⟨t,h⟩:=h
 exact⟨t,(hs g hg (Array.getElem?_eq_some_iff.1 h).1).trans h⟩
theorem K5.one{w:World}{g:Nat}{v:Value}(h:K5 w g [v]):w.cell? ⟨g,0,none⟩=some v:=by
 obtain⟨t,h⟩:=h
 exact cell_one h
theorem K5.lt{w:World}{g:Nat}{cs:List Value}(h:K5 w g cs):g<w.heap.size:=by
 obtain⟨t,h⟩:=h
 exact(Array.getElem?_eq_some_iff.1 h).1
theorem K5.own{w:World}{g:Nat}{cs:List Value}(h:K5 w g cs):∃xs ty own,w.heap[g]? =some (.cells xs ty own):=by
 obtain⟨t,h⟩:=h
 exact⟨_,_,_,h⟩
theorem K5.to{w u:World}{g:Nat}{cs:List Value}(h:K5 w g cs)(e:u.heap[g]? =w.heap[g]?):K5 u g cs:=by
 obtain⟨t,h⟩:=h
 exact⟨t,e.trans h⟩
theorem K5.cell{w:World}{g j:Nat}{cs:List Value}(h:K5 w g cs):w.cell? ⟨g,j,none⟩=cs[j]? :=by
 obtain⟨t,h⟩:=h
 simp only[World.cell?,h,Option.isSome_none,Bool.false_eq_true,if_false]
 simp
theorem Ye{w u:World}{p:Addr}{v:Value}(h:w.cell? p=some v)(e:u.heap[p.block]? =w.heap[p.block]?):u.cell? p=some v:=by
 unfold World.cell? at h ⊢
 rw[e];exact h
theorem list_set_seg{α:Type}:∀(l:List α) (j:Nat) (v:α),j<l.length→l.take j++ [v]++l.drop (j+1)=l.set j v
 | [],j,v,h=>absurd h (Nat.not_lt_zero _)
 |a::l,0,v,_=>by simp
 |a::l,j+1,v,h=>by
  have ih:=list_set_seg l j v (by simpa using h)
  simp only[List.take_succ_cons,List.drop_succ_cons,List.set_cons_succ,List.cons_append]at ih ⊢
  rw[ih]
theorem K5.store1{P:Program}{t:TypeId}{w:World}{g j:Nat}{cs:List Value}{v:Value}(h:K5 w g cs)(hn:O5 P t=some 1)(hl:v.cells.toList=[v])(hj:j<cs.length)(h1:v.oneCell'=true):
 ∃w',(Om t ⟨g,j,none⟩ v).run P w= .ok .skip w'∧Chg [g] w w'∧∀w'',w'.heap.size≤w''.heap.size→(∀b∈[g],w''.heap[b]? =w'.heap[b]?)→K5 w'' g (cs.set j v):=by
 obtain⟨ty,h⟩:=h
 have hst:=run_storeCells_at P g j ty v.cells.toList 0 cs.toArray w h (by rw[hl];simp;omega) (by intro u hu;rw[hl]at hu;rw[List.mem_singleton.1 hu];exact h1)
 have hsz:v.cells.size=1:=by have:=congrArg List.length hl;simpa using this
 have hnew:((cs.toArray.toList.take (j+0)++v.cells.toList++cs.toArray.toList.drop (j+0+v.cells.toList.length)).toArray)=(cs.set j v).toArray:=by
  rw[hl]
  have:=list_set_seg cs j v hj
  simp only[List.length_cons,List.length_nil,Nat.add_zero,Nat.zero_add]
  rw[←this]
 rw[hnew]at hst
 refine⟨w.setRow g (cs.set j v).toArray,?_,⟨rfl,rfl,rfl,by rw[Pd];exact Nat.le_refl _,fun k _ hk=>Ov _ _ _ _ (by simpa using hk)⟩,fun w'' k1 k2=>⟨ty,?_⟩⟩
 ·simp only[Om,Instr.storeAt,Instr.sureAddr,storeVar,Sem.run_bind,Sem.run_pure,Result.andThen_ok,Lq hn]
  rw[if_neg (by simpa using hsz)]
  simp only[hst,Sem.run_pure,Sem.run_bind,Result.andThen_ok]
 ·rw[k2 g Zs]
  simp only[World.setRow,Array.getElem?_modify,if_true,h,Option.map_some]
theorem L5.left{w wa:World}{A:Option Addr}{n:Nat}{ws:List (List UInt8)}{L:List Nat}(h:L5 wa A n ws)(e2:∀b,b∉L→wa.heap[b]? =w.heap[b]?)(hd:∀b∈bl A,b∉L):L5 w A n ws:=
 ⟨h.1,fun k s hk=>by
  obtain⟨ad,h1,h2⟩:=h.2 k s hk
  exact⟨ad,h1,Ye h2 (e2 _ (hd _ (by rw[h1,show(ad.add k).block=ad.block from by unfold Addr.add;split<;>rfl];simp[bl]))).symm⟩⟩
theorem V9{w:World}{p:Addr}{v:Value}(h:w.cell? p=some v):p.block<w.heap.size:=by
 unfold World.cell? at h
 cases hb:w.heap[p.block]? with
 |none=>simp[hb]at h
 |some o=>exact(Array.getElem?_eq_some_iff.1 hb).1
def Kf:Value:= .iface 106 (.agg #[])
def Qg:List PanicEntry:=[{v:=Kf,recovered:=false}]
theorem run_fromH{P:Program}{t e:TypeId}{A:Option Addr}{n c i:Nat}{w:World}(ht:P.underlying t=some (.slice e))(he:P.elem t=e)(hs:O5 P e=some 1)(hi:i≤n):(fromA t (.slice A n c) i).run P w= .ok (.value (.slice (if c=i then A else A.map (·.add i)) (n-i) (c-i))) w:=by
 have h1:=run_slice_l (P:=P) w t A n c (by rw[he];exact ht) .i64 i Zo Zo
 have h2:=run_sliceAt_slice (P:=P) w t (.slice A n c) (some (Zi i)) none none (by rw[he];exact ht)
 simp only[fromA,Sem.run_bind,h2,h1,he,Lq hs,Result.andThen_ok,Sem.run_pure]
 simp[sliced]
def Z5(k:Nat)(A:Option Addr)(c:Nat):Option Addr:=A.map (·.add (if k=c then k-1 else k))
@[reducible] def rsl(A:Option Addr)(n c r:Nat):Value:= .slice (Z5 (n-r) A c) r (c- (n-r))
theorem stepA_succ{k c:Nat}{A:Option Addr}(h:k<c):(if c-k=1 then Z5 k A c else(Z5 k A c).map (·.add 1))=Z5 (k+1) A c:=by
 unfold Z5
 rw[show(if k=c then k-1 else k)=k from if_neg Zo]
 by_cases h1:c-k=1
 ·rw[if_pos h1,if_pos Zo];rfl
 ·rw[if_neg h1,if_neg Zo]
  cases A with
  |none=>rfl
  |some a=>show some ((a.add k).add 1)=some (a.add (k+1));rw[Addr.add_add]
def Oh(W w:World)(g:Nat)(cs:List Value)(u:World):Prop:=w.heap.size≤u.heap.size∧(∀b,W.heap.size≤b→b<w.heap.size→b≠g→u.heap[b]? =w.heap[b]?)∧K5 u g cs
section
variable{w W:World}{g n c m cx:Nat}{A Ax:Option Addr}{f:Bool}{s:List UInt8}{ws rest:WS}
theorem Kc{cs cs':List Value}(lg:W.heap.size≤g):∀u,Oh W w g cs u→∀b∈[g],W.heap.size≤b∧∃xs ty own,u.heap[b]? =some (.cells xs ty own):=fun u h b hb=>by
 obtain rfl:b=g:=by simpa using hb
 exact⟨lg,h.2.2.own⟩
theorem Kk{cs cs':List Value}(wa u:World)(e1:wa.heap.size=u.heap.size)(e2:∀b,b∉[g]→wa.heap[b]? =u.heap[b]?)(h:Oh W w g cs wa)(hG:K5 u g cs'):Oh W w g cs' u:=
 ⟨by rw[←e1];exact h.1,fun b h1 h2 h3=>(e2 b (by simpa using h3)).symm.trans (h.2.1 b h1 h2 h3),hG⟩
theorem Xj{cs:List Value}(lg:W.heap.size≤g)(hb:K5 w g cs)(u:World)(h:w.heap.size≤u.heap.size∧∀b,W.heap.size≤b→b<w.heap.size→u.heap[b]? =w.heap[b]?):Oh W w g cs u:=
 ⟨h.1,fun b h1 h2 _=>h.2 b h1 h2,hb.stay lg h.2⟩
theorem Mt{cs:List Value}{val:Value}{w1:World}(hW:Below W.heap.size W w)(hw:Below W.heap.size W w1)(h:Oh W w g cs w1):Ng w [g] (fun _:Unit=>val) (fun _ u=>K5 u g cs) (.returned val) w1:=
 ⟨(),rfl,⟨hw.os.trans hW.os.symm,hw.tape.trans hW.tape.symm,hw.output.trans hW.output.symm,h.1,fun k hk hkl=>by
  rcases Nat.lt_or_ge k W.heap.size with h4|h4
  ·rw[hw.block k h4,hW.block k h4]
  ·exact h.2.1 k h4 hk fun e=>hkl (by simp[e])⟩,fun w'' k1 k2=>h.2.2.to (k2 g (.inl Zs))⟩
theorem Mf{cs:List Value}{ch:List PanicEntry}{w1:World}(hW:Below W.heap.size W w)(hw:Below W.heap.size W w1)(h:Oh W w g cs w1):U0 w [g] ch (.panicked ch) w1:=
 ⟨rfl,⟨hw.os.trans hW.os.symm,hw.tape.trans hW.tape.symm,hw.output.trans hW.output.symm,h.1,fun k hk hkl=>by
  rcases Nat.lt_or_ge k W.heap.size with h4|h4
  ·rw[hw.block k h4,hW.block k h4]
  ·exact h.2.1 k h4 hk fun e=>hkl (by simp[e])⟩⟩
theorem but_cell{cs:List Value}{p:Addr}{v:Value}{u:World}(hW:Below W.heap.size W w)(hu:Below W.heap.size W u)(h:Oh W w g cs u)(hc:w.cell? p=some v)(hp:p.block≠g):u.cell? p=some v:=Ye hc (by
 have hblt:=V9 hc
 rcases Nat.lt_or_ge p.block W.heap.size with h1|h1
 ·rw[hu.block _ h1,hW.block _ h1]
 ·exact h.2.1 _ h1 hblt hp)
theorem next_p(hW:Below W.heap.size W w)(lg:W.heap.size≤g)(hb:K5 w g [.slice Ax 0 cx,.bool f]):Calls Tryz.prog 76 #[Zq g 0] w (U0 w [g] Qg):=by
 exact K0.enterW Tryz.func76 rfl hW <| ZR <| ZA (Kt 66 ⟨g,0,none⟩) (.slice Ax 0 cx) (fun w1 hw h=>K6 Zk (by rw[(hb.stay lg h.2).cell];rfl)) <| ZI true <| K0.throw (Instr.panic Kf >>= fun v=>pure (.value v)) Kf Zk (fun w1 hw h=>by simp[Instr.panic,Kf,Go.goPanic]) Zk <| K0.pan fun w1 hw h=>Mf hW hw (Xj lg hb w1 h)
theorem next_s(hW:Below W.heap.size W w)(lg:W.heap.size≤g)(hb:K5 w g [.slice Ax (m+1) cx,.bool f])(hc:∃ad,Ax=some ad∧ad.block≠g∧w.cell? (ad.add 0)=some (K4 s)):Calls Tryz.prog 76 #[Zq g 0] w (Ng w [g] (fun _:Unit=>K4 s) fun _ u=>K5 u g [.slice (if cx=1 then Ax else Ax.map (·.add 1)) m (cx-1),.bool f]):=by
 obtain⟨ad,hA,hne,hcell⟩:=hc
 refine K0.enterW Tryz.func76 rfl hW <| ZR <| ZA (Kt 66 ⟨g,0,none⟩) (.slice Ax (m+1) cx) (fun w1 hw h=>K6 Zk (by rw[(hb.stay lg h.2).cell];rfl)) <| ZJ ((((m+1:Nat):Int)==0)) false Zp <| ZA (Kt 66 ⟨g,0,none⟩) (.slice Ax (m+1) cx) (fun w1 hw h=>K6 Zk (by rw[(hb.stay lg h.2).cell];rfl)) <| ZA (Ku 66 (.slice Ax (m+1) cx) 0) (.pointer (some (ad.add 0))) (fun w1 hw h=>by rw[hA];exact Ky (k:=0) (elem:=9) Zk Zk Zo) <| ZA (Kt 9 (ad.add 0)) (K4 s) (fun w1 hw h=>K6 Zk (but_cell hW hw (Xj lg hb w1 h) hcell (by rw[show(ad.add 0).block=ad.block from by unfold Addr.add;split<;>rfl];exact hne))) <| K0.ask (Kt 66 ⟨g,0,none⟩) (.slice Ax (m+1) cx) Zk (fun w1 hw h=>K6 Zk (by rw[(hb.stay lg h.2).cell];rfl)) <| ZS 5 <| ZA (fromA 66 (.slice Ax (m+1) cx) 1) (.slice (if cx=1 then Ax else Ax.map (·.add 1)) m (cx-1)) (fun w1 hw h=>run_fromH (i:=1) (e:=9) Zk Zk Zk Zo) <| K0.mutSt (L:=[g]) (G:=fun u=>K5 u g [.slice (if cx=1 then Ax else Ax.map (·.add 1)) m (cx-1),.bool f]) (Φ':=Oh W w g [.slice (if cx=1 then Ax else Ax.map (·.add 1)) m (cx-1),.bool f]) (Om 66 ⟨g,0,none⟩ (.slice (if cx=1 then Ax else Ax.map (·.add 1)) m (cx-1))) (fun w1 hw h=>(hb.stay lg h.2).store1 (j:=0) Zk rfl Zs rfl) (fun u h=>Kc (cs':=[]) lg u (Xj lg hb u h)) (fun wa u e1 e2 h hG=>Kk wa u e1 e2 (Xj lg hb wa h) hG) Zk Zk <| ZR <| ZV (K4 s) (fun w1 hw h=>Mt hW hw (h w1 (Nat.le_refl _) fun _ _ _=>rfl))
end
section
variable{P:Program}{Δ:List Deferred}{W w:World}{Q:Exit→Act→World→Prop}{Φ Φ':World→Prop}
theorem Pz.imp{β:Nat→Nat}{σ:AS}{a:Act}(hr:Pz Δ W β σ Φ a w)(h:∀w,Φ w→Φ' w):Pz Δ W β σ Φ' a w:=
 ⟨hr.tmps,hr.defers,hr.bel,hr.box,hr.inj,fun w' hw=>h w' (hr.keep w' hw)⟩
theorem K0.impC{fn:Func}{args:Array Value}(h:∀w,Φ w→Φ' w)(H:K0 P Δ W Q Φ' (T1 fn args)):K0 P Δ W Q Φ (T1 fn args):=
 ⟨fun hwf β a w hr=>H.get hwf β a w (hr.imp h)⟩
theorem K0.enterB{f:FuncId}{fn:Func}{args:Array Value}{R:Ending→World→Prop}{g:Nat}{cs:List Value}(hf:P.funcs[f]? =some fn)(hb:fn.body.isSome=true)(hW:Below W.heap.size W w)(lg:W.heap.size≤g)(hx:K5 w g cs)
 (h:K0 P [] W (bodyPost P fn R) (Oh W w g cs) (T1 fn args)):Calls P f args w R:=
 K0.enterW hf hb hW (K0.impC (Xj lg hx) h)
end
def Md(W w:World)(g:Nat)(u:World):Prop:=w.heap.size≤u.heap.size∧∀b,W.heap.size≤b→b<w.heap.size→b≠g→u.heap[b]? =w.heap[b]?
@[reducible] def L8(A:Option Addr)(n c r:Nat)(f:Bool):List Value:=[rsl A n c r,.bool f]
structure RE(W w:World)(g:Nat)(A:Option Addr)(n c:Nat)(ws0:WS):Prop where
 hW:Below W.heap.size W w
 lg:W.heap.size≤g
 str:L5 w A n ws0
 ne:∀ad,0<n→A=some ad→ad.block≠g
 hn:n≤c
 hn2:n≤1000000
 len:∀y∈ws0,y.length≤65536
def Pa(ws0:WS)(n:Nat)(rest:WS):Prop:=rest=ws0.drop (n-rest.length)∧rest.length≤n
section
variable{w W:World}{g n c m:Nat}{A:Option Addr}{f:Bool}{s:List UInt8}{ws0 rest r:WS}
theorem Ou(ad:Addr)(k:Nat):(ad.add k).block=ad.block:=by unfold Addr.add;split<;>rfl
theorem Mp{cs:List Value}(wa u:World)(e1:wa.heap.size=u.heap.size)(e2:∀b,b∉[g]→wa.heap[b]? =u.heap[b]?)(h:Oh W w g cs wa):Md W w g u:=
 ⟨by rw[←e1];exact h.1,fun b h1 h2 h3=>(e2 b (by simpa using h3)).symm.trans (h.2.1 b h1 h2 h3)⟩
theorem Mn{ch:List PanicEntry}{w1:World}(hW:Below W.heap.size W w)(hw:Below W.heap.size W w1)(h:Md W w g w1):U0 w [g] ch (.panicked ch) w1:=
 ⟨rfl,⟨hw.os.trans hW.os.symm,hw.tape.trans hW.tape.symm,hw.output.trans hW.output.symm,h.1,fun k hk hkl=>by
  rcases Nat.lt_or_ge k W.heap.size with h4|h4
  ·rw[hw.block k h4,hW.block k h4]
  ·exact h.2 k h4 hk fun e=>hkl (by simp[e])⟩⟩
theorem Pa.tail(h:Pa ws0 n (s::r)):Pa ws0 n r:=by
 obtain⟨h1,h2⟩:=h
 rw[List.length_cons]at h1 h2
 refine⟨?_,by omega⟩
 have h3:=congrArg List.tail h1
 rw[List.tail_cons,List.tail_drop]at h3
 rw[show n-r.length=n- (r.length+1)+1 by omega]
 exact h3
theorem Pa.get(h:Pa ws0 n (s::r)):ws0[n- (r.length+1)]? =some s:=by
 have h1:=congrArg (fun l=>l[0]?) h.1
 simp only[List.getElem?_cons_zero,List.getElem?_drop,List.length_cons,Nat.add_zero]at h1
 exact h1.symm
theorem RE.cell{k:Nat}(hR:RE W w g A n c ws0)(h:ws0[k]? =some s):∃ad,Z5 k A c=some ad∧ad.block≠g∧w.cell? (ad.add 0)=some (K4 s):=by
 obtain⟨ad,h1,h2⟩:=hR.str.2 k s h
 have hk:=(List.getElem?_eq_some_iff.1 h).1
 have hl:=hR.str.1
 have hc:=hR.hn
 refine⟨ad.add k,?_,by rw[Ou];exact hR.ne ad Zo h1,by rw[Addr.add_add];exact h2⟩
 unfold Z5
 rw[if_neg Zo,h1];rfl
theorem RE.next{cs:List Value}{u:World}(hR:RE W w g A n c ws0)(hu:Below W.heap.size W u)(h:Oh W w g cs u):RE W u g A n c ws0:=
 ⟨hu,hR.lg,⟨hR.str.1,fun k s hk=>by
  obtain⟨ad,h1,h2⟩:=hR.str.2 k s hk
  exact⟨ad,h1,but_cell hR.hW hu h h2 (by rw[Ou];exact hR.ne ad (by have:=(List.getElem?_eq_some_iff.1 hk).1;have:=hR.str.1;omega) h1)⟩⟩,hR.ne,hR.hn,hR.hn2,hR.len⟩
theorem RE.mem(hR:RE W w g A n c ws0)(hs:Pa ws0 n (s::r)):s.length≤65536:=hR.len s (List.mem_of_getElem? hs.get)
theorem Qc(hR:RE W w g A n c ws0)(hb:K5 w g (L8 A n c 0 f)):Calls Tryz.prog 76 #[Zq g 0] w (U0 w [g] Qg):=next_p hR.hW hR.lg hb
theorem Oj(hR:RE W w g A n c ws0)(hs:Pa ws0 n (s::r))(hb:K5 w g (L8 A n c (r.length+1) f)):Calls Tryz.prog 76 #[Zq g 0] w (Ng w [g] (fun _:Unit=>K4 s) fun _ u=>K5 u g (L8 A n c r.length f)):=by
 have hl:=hs.2
 have hc:=hR.hn
 rw[List.length_cons]at hl
 have h1:=next_s hR.hW hR.lg hb (hR.cell hs.get)
 have e:(Value.slice (if c- (n- (r.length+1))=1 then Z5 (n- (r.length+1)) A c else(Z5 (n- (r.length+1)) A c).map (·.add 1)) r.length (c- (n- (r.length+1))-1))=rsl A n c r.length:=by
  unfold rsl
  rw[stepA_succ Zo,show n- (r.length+1)+1=n-r.length by omega,show c- (n- (r.length+1))-1=c- (n-r.length) by omega]
 rw[e]at h1
 exact h1
theorem parseE_vals(l:List UInt8):Ly l=0∨Ly l=3∨Ly l=5∨Ly l=6:=by
 unfold Ly
 split
 ·exact .inr (.inl rfl)
 ·split
  ·exact .inr (.inl rfl)
  ·split
   ·exact .inr (.inr (.inl rfl))
   ·exact .inl rfl
theorem piE_vals(l:List UInt8):piE l=0∨piE l=3∨piE l=5∨piE l=6:=by
 unfold piE
 split
 ·split
  ·exact .inl rfl
  ·exact .inr (.inr (.inr rfl))
 ·unfold L9
  split
  ·split
   ·exact .inr (.inl rfl)
   ·exact .inl rfl
  ·exact parseE_vals _
theorem prg_vals(s:List UInt8)(lo hi:Int):T8 s lo hi=0∨T8 s lo hi=6∨T8 s lo hi=3∨T8 s lo hi=5:=by
 unfold T8
 rcases piE_vals s with h|h|h|h
 ·rw[if_pos h];split
  ·exact .inr (.inl rfl)
  ·exact .inl rfl
 all_goals (rw[if_neg (by rw[h];decide),h];simp)
theorem U6{lo hi:Int}(hR:RE W w g A n c ws0)(hs:Pa ws0 n rest)(hb:K5 w g (L8 A n c rest.length f)):Calls Tryz.prog 133 #[Zq g 0,Zi lo,Zi hi] w
 (Le w [g] Qg (rdI lo hi f rest) (fun d (_:Unit)=> .tuple #[Zi d.1,.bool d.2.1]) (fun d _ u=>K5 u g (L8 A n c d.2.2.1.length d.2.2.2))):=by
 have lg:=hR.lg
 cases rest with
 |nil=>
  exact K0.enterB Tryz.func133 rfl hR.hW lg hb <| ZR <| K0.mutx (L:=[g]) (Φ':=fun u=>Md W w g u) (fun w1 hw h=>Qc (hR.next hw h) h.2.2) (fun u h=>Kc (cs':=[]) lg u h) (fun wa u e1 e2 h _=>Mp wa u e1 e2 h) Zk Zk <| K0.pan fun w1 hw h=>Mn hR.hW hw h
 | cons s r=>
  rw[rdI_cons]
  have hsl:=hR.mem hs
  rcases prg_vals s lo hi with h0|h0|h0|h0
  ·rw[if_pos h0]
   refine K0.enterB Tryz.func133 rfl hR.hW lg hb <| ZR <| K0.mut (L:=[g]) (Φ':=fun _ u=>Oh W w g (L8 A n c r.length f) u) (fun w1 hw h=>Oj (hR.next hw h) hs h.2.2) (fun u h=>Kc (cs':=[]) lg u h) (fun _ wa u e1 e2 h hG=>Kk wa u e1 e2 h hG) Zk Zk fun _=>ZR <| ZC (fun w1 hw h=>Sx h0 rfl Zo) fun u=>ZI true <| ZV (.tuple #[Zi (Zn s lo hi),.bool true]) (fun w1 hw h=>Mt hR.hW hw (h w1 (Nat.le_refl _) fun _ _ _=>rfl).1)
  ·rw[if_neg (by rw[h0];decide),if_pos h0]
   refine K0.enterB Tryz.func133 rfl hR.hW lg hb <| ZR <| K0.mut (L:=[g]) (Φ':=fun _ u=>Oh W w g (L8 A n c r.length f) u) (fun w1 hw h=>Oj (hR.next hw h) hs h.2.2) (fun u h=>Kc (cs':=[]) lg u h) (fun _ wa u e1 e2 h hG=>Kk wa u e1 e2 h hG) Zk Zk fun _=>ZR <| ZC (fun w1 hw h=>Sx h0 rfl Zo) fun u=>ZI false <| ZI true <| K0.mutSt (L:=[g]) (G:=fun u=>K5 u g (L8 A n c r.length true)) (Φ':=Oh W w g (L8 A n c r.length true)) (Om 4 ⟨g,1,none⟩ Zt) (fun w1 hw h=>h.1.2.2.store1 (j:=1) Zk rfl Zs rfl) (fun u h=>Kc (cs':=[]) lg u h.1) (fun wa u e1 e2 h hG=>Kk wa u e1 e2 h.1 hG) Zk Zk <| ZR <| ZV (.tuple #[Zi 0,.bool false]) (fun w1 hw h=>Mt hR.hW hw (h w1 (Nat.le_refl _) fun _ _ _=>rfl))
  ·rw[if_neg (by rw[h0];decide),if_neg (by rw[h0];decide)]
   exact K0.enterB Tryz.func133 rfl hR.hW lg hb <| ZR <| K0.mut (L:=[g]) (Φ':=fun _ u=>Oh W w g (L8 A n c r.length f) u) (fun w1 hw h=>Oj (hR.next hw h) hs h.2.2) (fun u h=>Kc (cs':=[]) lg u h) (fun _ wa u e1 e2 h hG=>Kk wa u e1 e2 h hG) Zk Zk fun _=>ZR <| ZC (fun w1 hw h=>Sx h0 rfl Zo) fun u=>ZI false <| ZI false <| K0.throw (Instr.panic Kf >>= fun v=>pure (.value v)) Kf Zk (fun w1 hw h=>by simp[Instr.panic,Kf,Go.goPanic]) Zk <| K0.pan fun w1 hw h=>Mf hR.hW hw h.1
  ·rw[if_neg (by rw[h0];decide),if_neg (by rw[h0];decide)]
   exact K0.enterB Tryz.func133 rfl hR.hW lg hb <| ZR <| K0.mut (L:=[g]) (Φ':=fun _ u=>Oh W w g (L8 A n c r.length f) u) (fun w1 hw h=>Oj (hR.next hw h) hs h.2.2) (fun u h=>Kc (cs':=[]) lg u h) (fun _ wa u e1 e2 h hG=>Kk wa u e1 e2 h hG) Zk Zk fun _=>ZR <| ZC (fun w1 hw h=>Sx h0 rfl Zo) fun u=>ZI false <| ZI false <| K0.throw (Instr.panic Kf >>= fun v=>pure (.value v)) Kf Zk (fun w1 hw h=>by simp[Instr.panic,Kf,Go.goPanic]) Zk <| K0.pan fun w1 hw h=>Mf hR.hW hw h.1
end
@[reducible] def Te(c:Co):Value:= .agg #[.int .u8 (c.1.toNat:Int),.int .u8 (c.2.1.toNat:Int),.int .u8 (c.2.2.1.toNat:Int),.int .u8 (c.2.2.2.toNat:Int)]
section
variable{w W:World}{g n c m:Nat}{A:Option Addr}{f:Bool}{s l:List UInt8}{ws0 rest r:WS}
theorem Uz{lo hi z:Int}{b f':Bool}(hs:Pa ws0 n rest)(h:rdI lo hi f rest=some (z,b,r,f')):Pa ws0 n r:=by
 cases rest with
 |nil=>cases h
 | cons s v=>
  rw[rdI_cons]at h
  split at h
  ·cases h;exact hs.tail
  ·split at h
   ·cases h;exact hs.tail
   ·cases h
theorem M6{z:Int}{f':Bool}(hs:Pa ws0 n rest)(h:Xy f rest=some (z,r,f')):Pa ws0 n r:=by
 unfold Xy at h
 obtain⟨⟨z',b,r',f''⟩,h1,h2⟩:=Option.map_eq_some_iff.1 h
 cases h2
 exact Uz hs h1
theorem Nn{L:WS}{frm z:Int}{f':Bool}(hs:Pa ws0 n rest)(h:rdW L frm f rest=some (z,r,f')):Pa ws0 n r:=by
 cases rest with
 |nil=>cases h
 |cons s v=>
  unfold rdW at h
  obtain⟨k,h1,h2⟩:=Option.map_eq_some_iff.1 h
  cases h2;exact hs.tail
theorem rdC_suf{z:Co}{f':Bool}(hs:Pa ws0 n rest)(h:rdC f rest=some (z,r,f')):Pa ws0 n r:=by
 cases rest with
 |nil=>cases h
 |cons s v=>
  unfold rdC at h
  obtain⟨k,h1,h2⟩:=Option.map_eq_some_iff.1 h
  cases h2;exact hs.tail
theorem rdQ_suf{z:Rat}{f':Bool}(hs:Pa ws0 n rest)(h:rdQ f rest=some (z,r,f')):Pa ws0 n r:=by
 cases rest with
 |nil=>cases h
 |cons s v=>
  rw[Kw]at h
  split at h
  ·cases h;exact hs.tail
  ·cases h
theorem end_s(hW:Below W.heap.size W w)(lg:W.heap.size≤g)(hb:K5 w g (L8 A n c 0 f)):Calls Tryz.prog 82 #[Zq g 0] w (Ng w [g] (fun _:Unit=> .tuple #[]) fun _ u=>K5 u g (L8 A n c 0 f)):=by
 refine K0.enterB Tryz.func82 rfl hW lg hb <| ZR <| ZA (Kt 66 ⟨g,0,none⟩) (rsl A n c 0) (fun w1 hw h=>K6 Zk (by rw[h.2.2.cell];rfl)) <| ZI false <| ZV (.tuple #[]) (fun w1 hw h=>Mt hW hw (h w1 (Nat.le_refl _) fun _ _ _=>rfl))
theorem end_p(hW:Below W.heap.size W w)(lg:W.heap.size≤g)(hb:K5 w g (L8 A n c (m+1) f)):Calls Tryz.prog 82 #[Zq g 0] w (U0 w [g] Qg):=by
 exact K0.enterB Tryz.func82 rfl hW lg hb <| ZR <| ZA (Kt 66 ⟨g,0,none⟩) (rsl A n c (m+1)) (fun w1 hw h=>K6 Zk (by rw[h.2.2.cell];rfl)) <| ZJ (decide (((m+1:Nat):Int)>0)) true Zs <| K0.throw (Instr.panic Kf >>= fun v=>pure (.value v)) Kf Zk (fun w1 hw h=>by simp[Instr.panic,Kf,Go.goPanic]) Zk <| K0.pan fun w1 hw h=>Mf hW hw h
theorem Mc(hR:RE W w g A n c ws0)(hs:Pa ws0 n rest)(hb:K5 w g (L8 A n c rest.length f)):Calls Tryz.prog 78 #[Zq g 0] w
 (Le w [g] Qg (Xy f rest) (fun d (_:Unit)=>Zi d.1) (fun d _ u=>K5 u g (L8 A n c d.2.1.length d.2.2))):=by
 have lg:=hR.lg
 refine K0.enterB Tryz.func78 rfl hR.hW lg hb ?_
 unfold Xy
 cases ho:rdI mnI mxI f rest with
 |none=>
  exact ZR <| K0.mutx (L:=[g]) (Φ':=fun u=>Md W w g u) (fun w1 hw h=>by have t:=U6 (lo:=mnI) (hi:=mxI) (hR.next hw h) hs h.2.2;rw[ho]at t;exact t) (fun u h=>Kc (cs':=[]) lg u h) (fun wa u e1 e2 h _=>Mp wa u e1 e2 h) Zk Zk <| K0.pan fun w1 hw h=>Mn hR.hW hw h
 |some d=>
  obtain⟨z,b,r,f'⟩:=d
  refine ZR <| K0.mut (L:=[g]) (Φ':=fun _ u=>Oh W w g (L8 A n c r.length f') u) (fun w1 hw h=>by have t:=U6 (lo:=mnI) (hi:=mxI) (hR.next hw h) hs h.2.2;rw[ho]at t;exact t) (fun u h=>Kc (cs':=[]) lg u h) (fun _ wa u e1 e2 h hG=>Kk wa u e1 e2 h hG) Zk Zk fun _=>ZR <| ZV (Zi z) (fun w1 hw h=>Mt hR.hW hw (h w1 (Nat.le_refl _) fun _ _ _=>rfl))
theorem point_t(hR:RE W w g A n c ws0)(hs:Pa ws0 n rest)(hb:K5 w g (L8 A n c rest.length f)):Calls Tryz.prog 88 #[Zq g 0] w
 (Le w [g] Qg (rdP2 f rest) (fun d (_:Unit)=>pt d.1.1 d.1.2) (fun d _ u=>K5 u g (L8 A n c d.2.1.length d.2.2))):=by
 have lg:=hR.lg
 refine K0.enterB Tryz.func88 rfl hR.hW lg hb ?_
 unfold rdP2
 cases ho:Xy f rest with
 |none=>
  exact ZR <| K0.mutx (L:=[g]) (Φ':=fun u=>Md W w g u) (fun w1 hw h=>by have t:=Mc (hR.next hw h) hs h.2.2;rw[ho]at t;exact t) (fun u h=>Kc (cs':=[]) lg u h) (fun wa u e1 e2 h _=>Mp wa u e1 e2 h) Zk Zk <| K0.pan fun w1 hw h=>Mn hR.hW hw h
 | some d=>
  obtain⟨x,r,f1⟩:=d
  have hs1:=M6 hs ho
  rw[Option.bind_some]
  simp only
  cases ho2:Xy f1 r with
  |none=>
   exact ZR <| K0.mut (L:=[g]) (Φ':=fun _ u=>Oh W w g (L8 A n c r.length f1) u) (fun w1 hw h=>by have t:=Mc (hR.next hw h) hs h.2.2;rw[ho]at t;exact t) (fun u h=>Kc (cs':=[]) lg u h) (fun _ wa u e1 e2 h hG=>Kk wa u e1 e2 h hG) Zk Zk fun _=>ZR <| K0.mutx (L:=[g]) (Φ':=fun u=>Md W w g u) (fun w1 hw h=>by have t:=Mc (hR.next hw h) hs1 h.2.2;rw[ho2]at t;exact t) (fun u h=>Kc (cs':=[]) lg u h) (fun wa u e1 e2 h _=>Mp wa u e1 e2 h) Zk Zk <| K0.pan fun w1 hw h=>Mn hR.hW hw h
  |some d=>
   obtain⟨y,r2,f2⟩:=d
   refine ZR <| K0.mut (L:=[g]) (Φ':=fun _ u=>Oh W w g (L8 A n c r.length f1) u) (fun w1 hw h=>by have t:=Mc (hR.next hw h) hs h.2.2;rw[ho]at t;exact t) (fun u h=>Kc (cs':=[]) lg u h) (fun _ wa u e1 e2 h hG=>Kk wa u e1 e2 h hG) Zk Zk fun _=>ZR <| K0.mut (L:=[g]) (Φ':=fun _ u=>Oh W w g (L8 A n c r2.length f2) u) (fun w1 hw h=>by have t:=Mc (hR.next hw h) hs1 h.2.2;rw[ho2]at t;exact t) (fun u h=>Kc (cs':=[]) lg u h) (fun _ wa u e1 e2 h hG=>Kk wa u e1 e2 h hG) Zk Zk fun _=>ZR <| ZV (pt x y) (fun w1 hw h=>Mt hR.hW hw (h w1 (Nat.le_refl _) fun _ _ _=>rfl))
theorem colP_dec(h:l.length=8):Vn (35::l)=match decL l with
 |some [r,g,b,a]=>some (r,g,b,a)
 |_=>none:=by
 unfold Vn
 rw[if_pos ⟨by rw[List.length_cons,h],rfl⟩];rfl
theorem xdecode_g{p:List UInt8}{K:Nat}(hd:decL l=some p)(hK:p.length=K)(h0:0<K)(hL:l.length≤20000):Calls Tryz.prog 146 #[K4 l] w (K8 w (fun y:Nat×Nat=> .tuple #[.slice (some ⟨y.1,0,none⟩) K y.2,Zi 0]) fun y u=>∀(k:Nat) (b:UInt8),p[k]? =some b→u.cell? ⟨y.1,k,none⟩=some (.int .u8 (b.toNat:Int))):=by
 subst hK
 refine(Vq hd Zo).mono fun e w' k=> ?_
 obtain⟨y,h1,h2,h3⟩:=k
 have hown:K7 w' 0 5 1 y.1 p.length y.2 (bv p):=h3 w' (Nat.le_refl _) fun _ _ _=>rfl
 obtain⟨g,hg,_⟩:=hown.cells h0
 refine⟨(g,y.2),by rw[h1];show Ending.returned (.tuple #[.slice y.1 _ _,_])=_;rw[hg],h2,fun w'' k1 k2 k b hk=> ?_⟩
 have ho2:K7 w'' 0 5 1 y.1 p.length y.2 (bv p):=h3 w'' k1 k2
 obtain⟨g2,e2,hc⟩:=ho2.cells h0
 rw[hg]at e2
 cases e2
 exact hc k _ (by unfold bv;rw[List.getElem?_map,hk];rfl)
theorem xcolor_n(h:Vn l=none)(hl:l.length≤65536):Zv 134 #[K4 l] w (.tuple #[Te Us,Zi 3]):=by
 by_cases h9:l.length=9
 case neg=>
  exact K0.enter Tryz.func134 rfl <| ZS 3 <| ZT 8 (.bool ((l.length:Int) !=9)) Zt Zp <| ZI true <| ZW (.tuple #[Te Us,Zi 3])
 obtain⟨b,l,rfl⟩:∃b t,l=b::t:=by cases l with
  |nil=>cases h9
  |cons b t=>exact⟨b,t,rfl⟩
 have h8:l.length=8:=by simpa using h9
 refine K0.enter Tryz.func134 rfl <| ZS 3 ?_
 by_cases hb:b=35
 case neg=>
  exact K0.slot 8 (.bool (((b::l).length:Int) !=9)) Zf Zk Zp <| ZS 5 <| K0.ask (ixS 9 (K4 (b::l)) (0:Nat)) (.int .u8 (b.toNat:Int)) Zk (fun w1 hw h=>Qh Zk rfl) <| ZS 7 <| ZT 12 (.bool ((b.toNat:Int) !=35)) Zt (by simp;intro e;exact hb (UInt8.toNat_inj.1 (by show b.toNat=35;omega))) <| ZI true <| ZW (.tuple #[Te Us,Zi 3])
 subst hb
 have hdn:decL l=none:=by
  rw[colP_dec h8]at h
  cases hd:decL l with
  |none=>rfl
  |some p=>
   have hp:p.length=4:=by have:=encL_dec hd;have h2:=Tc p;rw[this,h8]at h2;omega
   match p,hp with
   | [x,y,z,u],_=>rw[hd]at h;cases h
 exact K0.slot 8 (.bool (((35::l).length:Int) !=9)) Zf Zk Zp <| ZS 5 <| ZA (ixS 9 (K4 (35::l)) (0:Nat)) (.int .u8 35) (fun w1 hw h=>Qh (b:=35) Zk rfl) <| K0.cond false Zk <| ZS 1 <| ZA (fromA 9 (K4 (35::l)) ((1:Nat):Int)) (K4 l) (fun w1 hw h=>run_fromA Zk Zs) <| ZC (fun w1 hw h=>xdecode_n hdn Zo) fun y=>ZI true <| ZW (.tuple #[Te Us,Zi 3])
theorem xcolor_s{k:Co}(h:Vn l=some k):Zv 134 #[K4 l] w (.tuple #[Te k,Zi 0]):=by
 have hcw:=colW_P h
 obtain⟨l',rfl⟩:∃t,l=35::t:=⟨_,hcw.symm⟩
 have h9:l'.length=8:=by
  have:=congrArg List.length hcw
  unfold Qk at this
  rw[List.length_cons,List.length_cons,Tc]at this
  have h2:(coB k).length=4:=rfl
  omega
 have hd:decL l'=some (coB k):=by
  have h1:Su (coB k)=l':=by unfold Qk at hcw;exact List.tail_eq_of_cons_eq hcw
  rw[←h1];exact decL_enc _
 exact K0.enter Tryz.func134 rfl <| ZS 3 <| K0.slot 8 (.bool (((35::l').length:Int) !=9)) Zf Zk Zp <| ZS 5 <| ZA (ixS 9 (K4 (35::l')) (0:Nat)) (.int .u8 35) (fun w1 hw h=>Qh (b:=35) Zk rfl) <| K0.cond false Zk <| ZS 1 <| ZA (fromA 9 (K4 (35::l')) ((1:Nat):Int)) (K4 l') (fun w1 hw h=>run_fromA Zk Zs) <| ZC (fun w1 hw h=>xdecode_g (K:=4) hd rfl Zd Zo) fun y=>ZI false <| ZB 1 (Ku 86 (.slice (some ⟨y.1,0,none⟩) 4 y.2) (0:Nat)) (.pointer (some ((⟨y.1,0,none⟩:Addr).add 0))) (fun w1 hw h=>Ky (elem:=5) Zk Zk Zd) <| ZB 2 (Kt 5 ((⟨y.1,0,none⟩:Addr).add 0)) (.int .u8 (k.1.toNat:Int)) (fun w1 hw h=>K6 Zk (by rw[Addr.add_mid,Nat.zero_add];exact h.2 0 _ rfl)) <| ZB 4 (Ku 86 (.slice (some ⟨y.1,0,none⟩) 4 y.2) (1:Nat)) (.pointer (some ((⟨y.1,0,none⟩:Addr).add 1))) (fun w1 hw h=>Ky (elem:=5) Zk Zk Zd) <| ZB 5 (Kt 5 ((⟨y.1,0,none⟩:Addr).add 1)) (.int .u8 (k.2.1.toNat:Int)) (fun w1 hw h=>K6 Zk (by rw[Addr.add_mid,Nat.zero_add];exact h.2 1 _ rfl)) <| ZB 7 (Ku 86 (.slice (some ⟨y.1,0,none⟩) 4 y.2) (2:Nat)) (.pointer (some ((⟨y.1,0,none⟩:Addr).add 2))) (fun w1 hw h=>Ky (elem:=5) Zk Zk Zd) <| ZB 8 (Kt 5 ((⟨y.1,0,none⟩:Addr).add 2)) (.int .u8 (k.2.2.1.toNat:Int)) (fun w1 hw h=>K6 Zk (by rw[Addr.add_mid,Nat.zero_add];exact h.2 2 _ rfl)) <| ZB 10 (Ku 86 (.slice (some ⟨y.1,0,none⟩) 4 y.2) (3:Nat)) (.pointer (some ((⟨y.1,0,none⟩:Addr).add 3))) (fun w1 hw h=>Ky (elem:=5) Zk Zk Zd) <| ZB 11 (Kt 5 ((⟨y.1,0,none⟩:Addr).add 3)) (.int .u8 (k.2.2.2.toNat:Int)) (fun w1 hw h=>K6 Zk (by rw[Addr.add_mid,Nat.zero_add];exact h.2 3 _ rfl)) <| ZW (.tuple #[Te k,Zi 0])
end
section
variable{w W:World}{g n c m:Nat}{A:Option Addr}{f:Bool}{s l:List UInt8}{ws0 rest r:WS}
theorem Xg(hR:RE W w g A n c ws0)(hs:Pa ws0 n rest)(hb:K5 w g (L8 A n c rest.length f)):Calls Tryz.prog 79 #[Zq g 0] w
 (Le w [g] Qg (rdC f rest) (fun d (_:Unit)=>Te d.1) (fun d _ u=>K5 u g (L8 A n c d.2.1.length d.2.2))):=by
 have lg:=hR.lg
 cases rest with
 |nil=>
  exact K0.enterB Tryz.func79 rfl hR.hW lg hb <| ZR <| K0.mutx (L:=[g]) (Φ':=fun u=>Md W w g u) (fun w1 hw h=>Qc (hR.next hw h) h.2.2) (fun u h=>Kc (cs':=[]) lg u h) (fun wa u e1 e2 h _=>Mp wa u e1 e2 h) Zk Zk <| K0.pan fun w1 hw h=>Mn hR.hW hw h
 | cons s r=>
  have hsl:=hR.mem hs
  have hrd:rdC f (s::r)=(Vn s).map fun c=>(c,r,f):=rfl
  rw[hrd]
  cases hc:Vn s with
  |none=>
   exact K0.enterB Tryz.func79 rfl hR.hW lg hb <| ZR <| K0.mut (L:=[g]) (Φ':=fun _ u=>Oh W w g (L8 A n c r.length f) u) (fun w1 hw h=>Oj (hR.next hw h) hs h.2.2) (fun u h=>Kc (cs':=[]) lg u h) (fun _ wa u e1 e2 h hG=>Kk wa u e1 e2 h hG) Zk Zk fun _=>ZR <| ZC (fun w1 hw h=>xcolor_n hc hsl) fun u=>ZI true <| K0.throw (Instr.panic Kf >>= fun v=>pure (.value v)) Kf Zk (fun w1 hw h=>by simp[Instr.panic,Kf,Go.goPanic]) Zk <| K0.pan fun w1 hw h=>Mf hR.hW hw h.1
  |some k=>
   refine K0.enterB Tryz.func79 rfl hR.hW lg hb <| ZR <| K0.mut (L:=[g]) (Φ':=fun _ u=>Oh W w g (L8 A n c r.length f) u) (fun w1 hw h=>Oj (hR.next hw h) hs h.2.2) (fun u h=>Kc (cs':=[]) lg u h) (fun _ wa u e1 e2 h hG=>Kk wa u e1 e2 h hG) Zk Zk fun _=>ZR <| ZC (fun w1 hw h=>xcolor_s hc) fun u=>ZI false <| ZV (Te k) (fun w1 hw h=>Mt hR.hW hw (h w1 (Nat.le_refl _) fun _ _ _=>rfl).1)
def Ni:WS:=[[110,111,110,122,101,114,111],[101,118,101,110,111,100,100]]
theorem O3{g:Nat}{L:WS}{cells:Array Value}{n:Nat}(h:Kd 9 cells g w)(he:cells.toList=sv L)(hn:L.length=n:=by rfl):L5 w (some ⟨g,0,none⟩) n L:=by
 refine⟨hn,fun k s hk=>⟨⟨g,0,none⟩,rfl,?_⟩⟩
 unfold Kd at h
 rw[Addr.add_mid,Nat.zero_add]
 simp only[World.cell?,h,Option.isSome_none,Bool.false_eq_true,if_false]
 rw[←Array.getElem?_toList,he]
 unfold sv
 rw[List.getElem?_map,hk];rfl
theorem names_spread:Calls Tryz.prog 68 #[.string ⟨#[115,112,114,101,97,100]⟩] w (K8 w (fun y:Nat=> .tuple #[.slice (some ⟨y,0,none⟩) 4 4,Zi 0]) fun y u=>L5 u (some ⟨y,0,none⟩) 4 Lz):=by
 refine K0.enter Tryz.func68 rfl <| ZR <| ZI true <| K0.make (Li (66) 4 #[(0,K4 [110,111,110,101]),(1,K4 [112,97,100]),(2,K4 [114,101,112,101,97,116]),(3,K4 [114,101,102,108,101,99,116])]) (Kg 4) (Kd 9 #[K4 [110,111,110,101],K4 [112,97,100],K4 [114,101,112,101,97,116],K4 [114,101,102,108,101,99,116]]) Zk (fun w1 hw h=>Ke Zk) fun y=>ZR <| ZV (.tuple #[.slice (some ⟨y,0,none⟩) 4 4,Zi 0]) (fun w1 hw h=>⟨y,rfl,hw,fun w'' k1 k2=>O3 (h w'' k1 k2).2 rfl⟩)
theorem names_look:Calls Tryz.prog 68 #[.string ⟨#[108,111,111,107]⟩] w (K8 w (fun y:Nat=> .tuple #[.slice (some ⟨y,0,none⟩) 2 2,Zi 1]) fun y u=>L5 u (some ⟨y,0,none⟩) 2 Oy):=by
 refine K0.enter Tryz.func68 rfl <| ZR <| ZI false <| ZI true <| K0.make (Li (66) 2 #[(0,K4 [110,101,97,114,101,115,116]),(1,K4 [98,105,108,105,110,101,97,114])]) (Kg 2) (Kd 9 #[K4 [110,101,97,114,101,115,116],K4 [98,105,108,105,110,101,97,114]]) Zk (fun w1 hw h=>Ke Zk) fun y=>ZR <| ZV (.tuple #[.slice (some ⟨y,0,none⟩) 2 2,Zi 1]) (fun w1 hw h=>⟨y,rfl,hw,fun w'' k1 k2=>O3 (h w'' k1 k2).2 rfl⟩)
theorem names_rule:Calls Tryz.prog 68 #[.string ⟨#[114,117,108,101]⟩] w (K8 w (fun y:Nat=> .tuple #[.slice (some ⟨y,0,none⟩) 2 2,Zi 1]) fun y u=>L5 u (some ⟨y,0,none⟩) 2 Ni):=by
 refine K0.enter Tryz.func68 rfl <| ZR <| ZI false <| ZI false <| ZI true <| K0.make (Li (66) 2 #[(0,K4 [110,111,110,122,101,114,111]),(1,K4 [101,118,101,110,111,100,100])]) (Kg 2) (Kd 9 #[K4 [110,111,110,122,101,114,111],K4 [101,118,101,110,111,100,100]]) Zk (fun w1 hw h=>Ke Zk) fun y=>ZR <| ZV (.tuple #[.slice (some ⟨y,0,none⟩) 2 2,Zi 1]) (fun w1 hw h=>⟨y,rfl,hw,fun w'' k1 k2=>O3 (h w'' k1 k2).2 rfl⟩)
end
section
variable{w W:World}{g n c m:Nat}{A:Option Addr}{f:Bool}{s l:List UInt8}{ws0 rest r:WS}
theorem str_ne{y k:Nat}{v v2:Value}{L:WS}(hb:K5 w g [.slice A n c,v2])(h:L5 w (some ⟨y,0,none⟩) k (s::L)):∀b∈bl (some (⟨y,0,none⟩:Addr)),b∉[g]:=fun b hb2 hm=>by
 simp only[bl,List.mem_singleton]at hb2 hm
 have e:y=g:=hb2.symm.trans hm
 obtain⟨ad,h1,h2⟩:=h.2 0 s rfl
 cases h1
 have h3:w.cell? ⟨g,0,none⟩=some (.slice A n c):=by rw[hb.cell];rfl
 rw[Addr.add_mid,e,h3]at h2
 cases h2
theorem Rg(hR:RE W w g A n c ws0)(hs:Pa ws0 n rest)(hb:K5 w g (L8 A n c rest.length f)):Calls Tryz.prog 89 #[Zq g 0,.string ⟨#[115,112,114,101,97,100]⟩] w
 (Le w [g] Qg (rdW Lz 0 f rest) (fun d (_:Unit)=>Zi d.1) (fun d _ u=>K5 u g (L8 A n c d.2.1.length d.2.2))):=by
 have lg:=hR.lg
 refine K0.enterB Tryz.func89 rfl hR.hW lg hb <| ZR <| ZC (fun w1 hw h=>names_spread) fun y=> ?_
 cases rest with
 |nil=>
  exact K0.mutx (L:=[g]) (Φ':=fun u=>Md W w g u) (fun w1 hw h=>Qc (hR.next hw h.1) h.1.2.2) (fun u h=>Kc (cs':=[]) lg u h.1) (fun wa u e1 e2 h _=>Mp wa u e1 e2 h.1) Zk Zk <| K0.pan fun w1 hw h=>Mn hR.hW hw h
 | cons s r=>
  have hsl:=hR.mem hs
  refine K0.mut (L:=[g]) (Φ':=fun _ u=>Oh W w g (L8 A n c r.length f) u∧L5 u (some ⟨y,0,none⟩) 4 Lz) (fun w1 hw h=>Oj (hR.next hw h.1) hs h.1.2.2) (fun u h=>Kc (cs':=[]) lg u h.1) (fun _ wa u e1 e2 h hG=>⟨Kk wa u e1 e2 h.1 hG,h.2.left e2 (str_ne (v:= .bool f) h.1.2.2 h.2)⟩) Zk Zk fun _=>ZR ?_
  have hrd:rdW Lz 0 f (s::r)=(Rn s Lz).map fun(k:Nat)=>((0:Int)+(k:Int),r,f):=rfl
  rw[hrd]
  refine K0.un Zk <| ZR <| K0.cond true Zk <| ZS 1 <| ZA (Ku 66 (.slice (some ⟨y,0,none⟩) 4 4) (0:Nat)) (.pointer (some ((⟨y,0,none⟩:Addr).add 0))) (fun w1 hw h=>Ky (elem:=9) Zk Zk Zd) <| K0.ask (Kt 9 ((⟨y,0,none⟩:Addr).add 0)) (K4 [110,111,110,101]) Zk (fun w1 hw h=>K6 Zk (by obtain⟨ad,q1,q2⟩:=h.2.2 0 [110,111,110,101] rfl;cases q1;exact q2)) <| ZS 2 ?_
  by_cases h0:s=[110,111,110,101]
  ·subst h0
   refine ZA (Pw .eql 9 (.tmp 24) (.tmp 25) (K4 [110,111,110,101]) (K4 [110,111,110,101])) Zt (fun w1 hw h=>Kv Zs) <| ZI true ?_
   have he:Rn [110,111,110,101] Lz=some 0:=by decide
   rw[he]
   refine ZV (Zi 0) (fun w1 hw h=>Mt hR.hW hw (h w1 (Nat.le_refl _) fun _ _ _=>rfl).1)
  refine ZA (Pw .eql 9 (.tmp 24) (.tmp 25) (K4 [110,111,110,101]) (K4 s)) Zf (fun w1 hw h=>Kv (by simpa using Ne.symm h0)) <| ZI false <| K0.cond true Zk <| ZS 1 <| ZA (Ku 66 (.slice (some ⟨y,0,none⟩) 4 4) (1:Nat)) (.pointer (some ((⟨y,0,none⟩:Addr).add 1))) (fun w1 hw h=>Ky (elem:=9) Zk Zk Zd) <| K0.ask (Kt 9 ((⟨y,0,none⟩:Addr).add 1)) (K4 [112,97,100]) Zk (fun w1 hw h=>K6 Zk (by obtain⟨ad,q1,q2⟩:=h.2.2 1 [112,97,100] rfl;cases q1;exact q2)) <| ZS 2 ?_
  by_cases h1:s=[112,97,100]
  ·subst h1
   refine ZA (Pw .eql 9 (.tmp 24) (.tmp 25) (K4 [112,97,100]) (K4 [112,97,100])) Zt (fun w1 hw h=>Kv Zs) <| ZI true ?_
   have he:Rn [112,97,100] Lz=some 1:=by decide
   rw[he]
   refine ZV (Zi 1) (fun w1 hw h=>Mt hR.hW hw (h w1 (Nat.le_refl _) fun _ _ _=>rfl).1)
  refine ZA (Pw .eql 9 (.tmp 24) (.tmp 25) (K4 [112,97,100]) (K4 s)) Zf (fun w1 hw h=>Kv (by simpa using Ne.symm h1)) <| ZI false <| K0.cond true Zk <| ZS 1 <| ZA (Ku 66 (.slice (some ⟨y,0,none⟩) 4 4) (2:Nat)) (.pointer (some ((⟨y,0,none⟩:Addr).add 2))) (fun w1 hw h=>Ky (elem:=9) Zk Zk Zd) <| K0.ask (Kt 9 ((⟨y,0,none⟩:Addr).add 2)) (K4 [114,101,112,101,97,116]) Zk (fun w1 hw h=>K6 Zk (by obtain⟨ad,q1,q2⟩:=h.2.2 2 [114,101,112,101,97,116] rfl;cases q1;exact q2)) <| ZS 2 ?_
  by_cases h2:s=[114,101,112,101,97,116]
  ·subst h2
   refine ZA (Pw .eql 9 (.tmp 24) (.tmp 25) (K4 [114,101,112,101,97,116]) (K4 [114,101,112,101,97,116])) Zt (fun w1 hw h=>Kv Zs) <| ZI true ?_
   have he:Rn [114,101,112,101,97,116] Lz=some 2:=by decide
   rw[he]
   refine ZV (Zi 2) (fun w1 hw h=>Mt hR.hW hw (h w1 (Nat.le_refl _) fun _ _ _=>rfl).1)
  refine ZA (Pw .eql 9 (.tmp 24) (.tmp 25) (K4 [114,101,112,101,97,116]) (K4 s)) Zf (fun w1 hw h=>Kv (by simpa using Ne.symm h2)) <| ZI false <| K0.cond true Zk <| ZS 1 <| ZA (Ku 66 (.slice (some ⟨y,0,none⟩) 4 4) (3:Nat)) (.pointer (some ((⟨y,0,none⟩:Addr).add 3))) (fun w1 hw h=>Ky (elem:=9) Zk Zk Zd) <| K0.ask (Kt 9 ((⟨y,0,none⟩:Addr).add 3)) (K4 [114,101,102,108,101,99,116]) Zk (fun w1 hw h=>K6 Zk (by obtain⟨ad,q1,q2⟩:=h.2.2 3 [114,101,102,108,101,99,116] rfl;cases q1;exact q2)) <| ZS 2 ?_
  by_cases h3:s=[114,101,102,108,101,99,116]
  ·subst h3
   refine ZA (Pw .eql 9 (.tmp 24) (.tmp 25) (K4 [114,101,102,108,101,99,116]) (K4 [114,101,102,108,101,99,116])) Zt (fun w1 hw h=>Kv Zs) <| ZI true ?_
   have he:Rn [114,101,102,108,101,99,116] Lz=some 3:=by decide
   rw[he]
   refine ZV (Zi 3) (fun w1 hw h=>Mt hR.hW hw (h w1 (Nat.le_refl _) fun _ _ _=>rfl).1)
  refine ZA (Pw .eql 9 (.tmp 24) (.tmp 25) (K4 [114,101,102,108,101,99,116]) (K4 s)) Zf (fun w1 hw h=>Kv (by simpa using Ne.symm h3)) <| ZI false <| ZI false ?_
  have he:Rn s Lz=none:=by
   unfold Lz
   rw[P4,if_neg (Ne.symm h0),P4,if_neg (Ne.symm h1),P4,if_neg (Ne.symm h2),P4,if_neg (Ne.symm h3)];rfl
  rw[he]
  exact K0.throw (Instr.panic Kf >>= fun v=>pure (.value v)) Kf Zk (fun w1 hw h=>by simp[Instr.panic,Kf,Go.goPanic]) Zk <| K0.pan fun w1 hw h=>Mf hR.hW hw h.1
theorem word_look(hR:RE W w g A n c ws0)(hs:Pa ws0 n rest)(hb:K5 w g (L8 A n c rest.length f)):Calls Tryz.prog 89 #[Zq g 0,.string ⟨#[108,111,111,107]⟩] w
 (Le w [g] Qg (rdW Oy 1 f rest) (fun d (_:Unit)=>Zi d.1) (fun d _ u=>K5 u g (L8 A n c d.2.1.length d.2.2))):=by
 have lg:=hR.lg
 refine K0.enterB Tryz.func89 rfl hR.hW lg hb <| ZR <| ZC (fun w1 hw h=>names_look) fun y=> ?_
 cases rest with
 |nil=>
  exact K0.mutx (L:=[g]) (Φ':=fun u=>Md W w g u) (fun w1 hw h=>Qc (hR.next hw h.1) h.1.2.2) (fun u h=>Kc (cs':=[]) lg u h.1) (fun wa u e1 e2 h _=>Mp wa u e1 e2 h.1) Zk Zk <| K0.pan fun w1 hw h=>Mn hR.hW hw h
 | cons s r=>
  have hsl:=hR.mem hs
  refine K0.mut (L:=[g]) (Φ':=fun _ u=>Oh W w g (L8 A n c r.length f) u∧L5 u (some ⟨y,0,none⟩) 2 Oy) (fun w1 hw h=>Oj (hR.next hw h.1) hs h.1.2.2) (fun u h=>Kc (cs':=[]) lg u h.1) (fun _ wa u e1 e2 h hG=>⟨Kk wa u e1 e2 h.1 hG,h.2.left e2 (str_ne (v:= .bool f) h.1.2.2 h.2)⟩) Zk Zk fun _=>ZR ?_
  have hrd:rdW Oy 1 f (s::r)=(Rn s Oy).map fun(k:Nat)=>((1:Int)+(k:Int),r,f):=rfl
  rw[hrd]
  refine K0.un Zk <| ZR <| K0.cond true Zk <| ZS 1 <| ZA (Ku 66 (.slice (some ⟨y,0,none⟩) 2 2) (0:Nat)) (.pointer (some ((⟨y,0,none⟩:Addr).add 0))) (fun w1 hw h=>Ky (elem:=9) Zk Zk Zd) <| K0.ask (Kt 9 ((⟨y,0,none⟩:Addr).add 0)) (K4 [110,101,97,114,101,115,116]) Zk (fun w1 hw h=>K6 Zk (by obtain⟨ad,q1,q2⟩:=h.2.2 0 [110,101,97,114,101,115,116] rfl;cases q1;exact q2)) <| ZS 2 ?_
  by_cases h0:s=[110,101,97,114,101,115,116]
  ·subst h0
   refine ZA (Pw .eql 9 (.tmp 24) (.tmp 25) (K4 [110,101,97,114,101,115,116]) (K4 [110,101,97,114,101,115,116])) Zt (fun w1 hw h=>Kv Zs) <| ZI true ?_
   have he:Rn [110,101,97,114,101,115,116] Oy=some 0:=by decide
   rw[he]
   refine ZV (Zi 1) (fun w1 hw h=>Mt hR.hW hw (h w1 (Nat.le_refl _) fun _ _ _=>rfl).1)
  refine ZA (Pw .eql 9 (.tmp 24) (.tmp 25) (K4 [110,101,97,114,101,115,116]) (K4 s)) Zf (fun w1 hw h=>Kv (by simpa using Ne.symm h0)) <| ZI false <| K0.cond true Zk <| ZS 1 <| ZA (Ku 66 (.slice (some ⟨y,0,none⟩) 2 2) (1:Nat)) (.pointer (some ((⟨y,0,none⟩:Addr).add 1))) (fun w1 hw h=>Ky (elem:=9) Zk Zk Zd) <| K0.ask (Kt 9 ((⟨y,0,none⟩:Addr).add 1)) (K4 [98,105,108,105,110,101,97,114]) Zk (fun w1 hw h=>K6 Zk (by obtain⟨ad,q1,q2⟩:=h.2.2 1 [98,105,108,105,110,101,97,114] rfl;cases q1;exact q2)) <| ZS 2 ?_
  by_cases h1:s=[98,105,108,105,110,101,97,114]
  ·subst h1
   refine ZA (Pw .eql 9 (.tmp 24) (.tmp 25) (K4 [98,105,108,105,110,101,97,114]) (K4 [98,105,108,105,110,101,97,114])) Zt (fun w1 hw h=>Kv Zs) <| ZI true ?_
   have he:Rn [98,105,108,105,110,101,97,114] Oy=some 1:=by decide
   rw[he]
   refine ZV (Zi 2) (fun w1 hw h=>Mt hR.hW hw (h w1 (Nat.le_refl _) fun _ _ _=>rfl).1)
  refine ZA (Pw .eql 9 (.tmp 24) (.tmp 25) (K4 [98,105,108,105,110,101,97,114]) (K4 s)) Zf (fun w1 hw h=>Kv (by simpa using Ne.symm h1)) <| ZI false <| ZI false ?_
  have he:Rn s Oy=none:=by
   unfold Oy
   rw[P4,if_neg (Ne.symm h0),P4,if_neg (Ne.symm h1)];rfl
  rw[he]
  exact K0.throw (Instr.panic Kf >>= fun v=>pure (.value v)) Kf Zk (fun w1 hw h=>by simp[Instr.panic,Kf,Go.goPanic]) Zk <| K0.pan fun w1 hw h=>Mf hR.hW hw h.1
theorem word_rule(hR:RE W w g A n c ws0)(hs:Pa ws0 n rest)(hb:K5 w g (L8 A n c rest.length f)):Calls Tryz.prog 89 #[Zq g 0,.string ⟨#[114,117,108,101]⟩] w
 (Le w [g] Qg (rdW Ni 1 f rest) (fun d (_:Unit)=>Zi d.1) (fun d _ u=>K5 u g (L8 A n c d.2.1.length d.2.2))):=by
 have lg:=hR.lg
 refine K0.enterB Tryz.func89 rfl hR.hW lg hb <| ZR <| ZC (fun w1 hw h=>names_rule) fun y=> ?_
 cases rest with
 |nil=>
  exact K0.mutx (L:=[g]) (Φ':=fun u=>Md W w g u) (fun w1 hw h=>Qc (hR.next hw h.1) h.1.2.2) (fun u h=>Kc (cs':=[]) lg u h.1) (fun wa u e1 e2 h _=>Mp wa u e1 e2 h.1) Zk Zk <| K0.pan fun w1 hw h=>Mn hR.hW hw h
 | cons s r=>
  have hsl:=hR.mem hs
  refine K0.mut (L:=[g]) (Φ':=fun _ u=>Oh W w g (L8 A n c r.length f) u∧L5 u (some ⟨y,0,none⟩) 2 Ni) (fun w1 hw h=>Oj (hR.next hw h.1) hs h.1.2.2) (fun u h=>Kc (cs':=[]) lg u h.1) (fun _ wa u e1 e2 h hG=>⟨Kk wa u e1 e2 h.1 hG,h.2.left e2 (str_ne (v:= .bool f) h.1.2.2 h.2)⟩) Zk Zk fun _=>ZR ?_
  have hrd:rdW Ni 1 f (s::r)=(Rn s Ni).map fun(k:Nat)=>((1:Int)+(k:Int),r,f):=rfl
  rw[hrd]
  refine K0.un Zk <| ZR <| K0.cond true Zk <| ZS 1 <| ZA (Ku 66 (.slice (some ⟨y,0,none⟩) 2 2) (0:Nat)) (.pointer (some ((⟨y,0,none⟩:Addr).add 0))) (fun w1 hw h=>Ky (elem:=9) Zk Zk Zd) <| K0.ask (Kt 9 ((⟨y,0,none⟩:Addr).add 0)) (K4 [110,111,110,122,101,114,111]) Zk (fun w1 hw h=>K6 Zk (by obtain⟨ad,q1,q2⟩:=h.2.2 0 [110,111,110,122,101,114,111] rfl;cases q1;exact q2)) <| ZS 2 ?_
  by_cases h0:s=[110,111,110,122,101,114,111]
  ·subst h0
   refine ZA (Pw .eql 9 (.tmp 24) (.tmp 25) (K4 [110,111,110,122,101,114,111]) (K4 [110,111,110,122,101,114,111])) Zt (fun w1 hw h=>Kv Zs) <| ZI true ?_
   have he:Rn [110,111,110,122,101,114,111] Ni=some 0:=by decide
   rw[he]
   refine ZV (Zi 1) (fun w1 hw h=>Mt hR.hW hw (h w1 (Nat.le_refl _) fun _ _ _=>rfl).1)
  refine ZA (Pw .eql 9 (.tmp 24) (.tmp 25) (K4 [110,111,110,122,101,114,111]) (K4 s)) Zf (fun w1 hw h=>Kv (by simpa using Ne.symm h0)) <| ZI false <| K0.cond true Zk <| ZS 1 <| ZA (Ku 66 (.slice (some ⟨y,0,none⟩) 2 2) (1:Nat)) (.pointer (some ((⟨y,0,none⟩:Addr).add 1))) (fun w1 hw h=>Ky (elem:=9) Zk Zk Zd) <| K0.ask (Kt 9 ((⟨y,0,none⟩:Addr).add 1)) (K4 [101,118,101,110,111,100,100]) Zk (fun w1 hw h=>K6 Zk (by obtain⟨ad,q1,q2⟩:=h.2.2 1 [101,118,101,110,111,100,100] rfl;cases q1;exact q2)) <| ZS 2 ?_
  by_cases h1:s=[101,118,101,110,111,100,100]
  ·subst h1
   refine ZA (Pw .eql 9 (.tmp 24) (.tmp 25) (K4 [101,118,101,110,111,100,100]) (K4 [101,118,101,110,111,100,100])) Zt (fun w1 hw h=>Kv Zs) <| ZI true ?_
   have he:Rn [101,118,101,110,111,100,100] Ni=some 1:=by decide
   rw[he]
   refine ZV (Zi 2) (fun w1 hw h=>Mt hR.hW hw (h w1 (Nat.le_refl _) fun _ _ _=>rfl).1)
  refine ZA (Pw .eql 9 (.tmp 24) (.tmp 25) (K4 [101,118,101,110,111,100,100]) (K4 s)) Zf (fun w1 hw h=>Kv (by simpa using Ne.symm h1)) <| ZI false <| ZI false ?_
  have he:Rn s Ni=none:=by
   unfold Ni
   rw[P4,if_neg (Ne.symm h0),P4,if_neg (Ne.symm h1)];rfl
  rw[he]
  exact K0.throw (Instr.panic Kf >>= fun v=>pure (.value v)) Kf Zk (fun w1 hw h=>by simp[Instr.panic,Kf,Go.goPanic]) Zk <| K0.pan fun w1 hw h=>Mf hR.hW hw h.1
end
end Go.Proofs.YtoeiphicmcndlaaGreatDoor
