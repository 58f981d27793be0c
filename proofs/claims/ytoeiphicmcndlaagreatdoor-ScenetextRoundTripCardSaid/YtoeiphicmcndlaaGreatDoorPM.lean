/-
 Scenes as text: lines, texts, the examples and the law.
-/
import Derived.Test.YtoeiphicmcndlaaGreatDoorCE
import Derived.Test.YtoeiphicmcndlaaGreatDoorFA
import Derived.Test.YtoeiphicmcndlaaGreatDoorPG
import Derived.Test.YtoeiphicmcndlaaGreatDoorFJ
import Derived.Test.YtoeiphicmcndlaaGreatDoorCA
import Derived.Test.YtoeiphicmcndlaaGreatDoorYX
import Derived.Test.YtoeiphicmcndlaaGreatDoorYI
import Derived.Test.YtoeiphicmcndlaaGreatDoorFN
import Derived.Test.YtoeiphicmcndlaaGreatDoorFR
namespace Go.Proofs.YtoeiphicmcndlaaGreatDoor
set_option maxRecDepth 100000
set_option maxHeartbeats 8000000
set_option linter.unusedVariables false
set_option linter.unusedSimpArgs false
open Go.RowKit
section
variable{w:World}{B n c g j d:Nat}{e:TypeId}{xs C C':List Value}{v:Value}
theorem K6.setLast{P:Program}{t:TypeId}{s:Nat}(h:K6 w B e s (some ⟨g,0,none⟩) n c (xs++C))(hx:xs.length=j)(hn:Nz P t=some v.cells.toList.length)(hd:d+v.cells.toList.length≤C.length)(h1:∀u∈v.cells.toList,u.oneCell'=true)(hC:C.take d++v.cells.toList++C.drop (d+v.cells.toList.length)=C'):
 ∃w',(Tc t ⟨g,j+d,none⟩ v).run P w= .ok .skip w'∧Chg [g] w w'∧∀w'',w'.heap.size≤w''.heap.size→(∀b∈[g],w''.heap[b]? =w'.heap[b]?)→K6 w'' B e s (some ⟨g,0,none⟩) n c (xs++C'):=by
 obtain⟨w',h3,h4,h5⟩:=h.storeN (P:=P) (t:=t) (j:=j+d) hn (by rw[List.length_append];omega) h1
 refine⟨w',h3,h4,fun w'' k1 k2=> ?_⟩
 have h6:=h5 w'' k1 k2
 rw[←hx,List.take_length_add_append,Nat.add_assoc,List.drop_length_add_append]at h6
 rw[←hC]
 simpa using h6
end
section
variable{W w wa u:World}{gt gr n c:Nat}{LL:List Nat}{A:Option Addr}{ws0 rest:WS}{f:Bool}{tc rc:List Value}{a1 a2 a3 a4 a5 a6 a9 wh z:Int}{ln:Nat}{l:Value}
theorem Tm.ml(hA:∀b∈LL,b≠gt∧b≠gr)(e1:wa.heap.size=u.heap.size)(e2:∀b,b∉LL→wa.heap[b]? =u.heap[b]?)(h:Tm W w gt gr LL tc rc wa):Tm W w gt gr LL tc rc u:=
 ⟨by rw[←e1];exact h.sz,fun b k1 k2 k3 k4 k5=>(e2 b k5).symm.trans (h.fr b k1 k2 k3 k4 k5),h.bt.to (e2 gt fun hb=>(hA gt hb).1 rfl).symm,h.br.to (e2 gr fun hb=>(hA gr hb).2 rfl).symm⟩
theorem stp_{D2 X2:Type}{fn:Func}{o2:Option D2}{val2:D2→X2→Value}{G2:D2→X2→World→Prop}{F:World→Prop}{b:Bool}{c0:Nn}(T:TE W w gt gr LL A n c ws0)
 (hF:∀wa u:World,wa.heap.size=u.heap.size→(∀b,b∉[gt]→wa.heap[b]? =u.heap[b]?)→F wa→F u)
 (hn:b=false→o2=none)
 (hk:b=true→K0 Tryz.prog [] W (bodyPost Tryz.prog fn (Vv w (gt::gr::LL) Qn (Qw gt ln) o2 val2 G2)) (fun u=>Tm W w gt gr LL (Y6 a1 a2 a3 a4 a5 a6 l z ln a9) rc u∧F u) (Lw Tryz.prog 1000 1000 (Le (.v (.tuple #[])) c0)))
 (hf:Qj c0=true:=by kernel_rfl) (hc2:Lk Tryz.prog c0=some (77,#[Zq gt 0,Zi z,.bool b]):=by kernel_rfl):K0 Tryz.prog [] W (bodyPost Tryz.prog fn (Vv w (gt::gr::LL) Qn (Qw gt ln) o2 val2 G2)) (fun u=>Tm W w gt gr LL (Y6 a1 a2 a3 a4 a5 a6 l wh ln a9) rc u∧F u) c0:=by
 cases b with
 |false=>
  exact K0.mutx (L:=[]) (Φ':=Tp W w gt gr LL (Y6 a1 a2 a3 a4 a5 a6 l wh ln a9)) (fun w1 hw h=>B1 (gt:=gt) (z:=z) hw) (fun u h b hb=>by cases hb) (fun wa u e1 e2 h _=>⟨by rw[←e1];exact h.1.sz,fun b k1 k2 k3 k4 k5=>(e2 b Zs).symm.trans (h.1.fr b k1 k2 k3 k4 k5),h.1.bt.to (e2 gt Zs).symm⟩) hf hc2 <| K0.pan fun w1 hw h=>by rw[hn rfl];exact Tp.pan T hw h rfl rfl
 |true=>
  exact K0.mut (L:=[gt]) (Φ':=fun(_:Unit) u=>Tm W w gt gr LL (Y6 a1 a2 a3 a4 a5 a6 l z ln a9) rc u∧F u) (fun w1 hw h=>We (z:=z) hw T.lt h.1.bt (by show 7<10;decide)) (fun u h=>Tm.ownt T u h.1) (fun _ wa u e1 e2 h hG=>⟨h.1.mt T e1 e2 hG,hF wa u e1 e2 h.2⟩) hf hc2 (fun _=>K0.run Zk 1000 _ (hk rfl))
theorem rdH_{D X D2 X2:Type}{fn:Func}{o2:Option D2}{val2:D2→X2→Value}{G2:D2→X2→World→Prop}{F:World→Prop}{q:Option D}{vq:D→X→Value}{rs:D→WS}{fl:D→Bool}{Cq:D→X→World→Prop}{e:FuncId}{args:Array Value}{c0:Nn}{y:Int}(st:Nat)(T:TE W w gt gr LL A n c ws0)
 (hc:∀w1,RE W w1 gr A n c ws0→K5 w1 gr (L7 A n c rest.length f)→w.heap.size≤w1.heap.size→Calls Tryz.prog e args w1 (Ld w1 [gr] Qn q (fun d (x:Gh X fun b=>w.heap.size≤b)=>vq d x.1.1) (fun d x u=>K5 u gr (L7 A n c (rs d).length (fl d))∧Lj x.1.2 (Cq d x.1.1) u)))
 (hF:∀wa u:World,wa.heap.size=u.heap.size→(∀b,b∉[gr]→wa.heap[b]? =u.heap[b]?)→F wa→F u)
 (hn:q=none→o2=none) (hl:tc.length=10) (h8:tc[8]? =some (Zi y))
 (hk:∀d (x:Gh X fun b=>w.heap.size≤b),q=some d→K0 Tryz.prog [] W (bodyPost Tryz.prog fn (Vv w (gt::gr::LL) Qn (Qw gt y) o2 val2 G2)) (fun u=>Tm W w gt gr LL tc (L7 A n c (rs d).length (fl d)) u∧F u∧Lj x.1.2 (Cq d x.1.1) u) (Lw Tryz.prog st 1000 (Le (.v (vq d x.1.1)) c0)))
 (hf:Qj c0=true:=by kernel_rfl) (hc2:Lk Tryz.prog c0=some (e,args):=by kernel_rfl):K0 Tryz.prog [] W (bodyPost Tryz.prog fn (Vv w (gt::gr::LL) Qn (Qw gt y) o2 val2 G2)) (fun u=>Tm W w gt gr LL tc (L7 A n c rest.length f) u∧F u) c0:=by
 cases hq:q with
 |none=>
  exact K0.mutx (L:=[gr]) (Φ':=Tp W w gt gr LL tc) (fun w1 hw h=>by have t:=hc w1 (h.1.re T hw) h.1.br h.1.sz;rw[hq]at t;exact t) (fun u h=>Tm.ownr T u h.1) (fun wa u e1 e2 h _=>h.1.mp T e1 e2) hf hc2 <| K0.pan fun w1 hw h=>by rw[hn hq];exact Tp.pan T hw h hl h8
 |some d=>exact K0.mut (L:=[gr]) (Φ':=fun(x:Gh X fun b=>w.heap.size≤b) u=>Tm W w gt gr LL tc (L7 A n c (rs d).length (fl d)) u∧F u∧Lj x.1.2 (Cq d x.1.1) u) (fun w1 hw h=>by have t:=hc w1 (h.1.re T hw) h.1.br h.1.sz;rw[hq]at t;exact t) (fun u h=>Tm.ownr T u h.1) (fun x wa u e1 e2 h (hG:K5 u gr (L7 A n c (rs d).length (fl d))∧Lj x.1.2 (Cq d x.1.1) u)=>⟨h.1.mr T e1 e2 hG.1,hF wa u e1 e2 h.2,hG.2⟩) hf hc2 (fun x=>K0.run Zk (stop:=st) 1000 _ (hk d x hq))
end
section
variable{ws0 rest:WS}{n:Nat}{f:Bool}
theorem rdNs_suf:∀{m:Nat} {f:Bool} {rest:WS} {l:List Int×WS×Bool},Ph ws0 n rest→E6 m f rest=some l→Ph ws0 n l.2.1
 |0,f,rest,l,hs,h=>by cases h;exact hs
 |m+1,f,rest,l,hs,h=>by
  rw[Cm]at h
  obtain⟨⟨x1,r1,f1⟩,h1,h⟩:=Option.bind_eq_some_iff.1 h
  obtain⟨k,hk,rfl⟩:=Option.map_eq_some_iff.1 h
  exact(rdNs_suf (M2 hs h1) hk:Ph ws0 n k.2.1)
theorem rdPen_suf(hs:Ph ws0 n rest){d:Jt×WS×Bool}(h:A9 f rest=some d):Ph ws0 n d.2.1:=by
 unfold A9 at h
 obtain⟨⟨w,r1,f1⟩,h1,h⟩:=Option.bind_eq_some_iff.1 h
 obtain⟨⟨j,r2,f2⟩,h2,h⟩:=Option.bind_eq_some_iff.1 h
 obtain⟨⟨c,r3,f3⟩,h3,h⟩:=Option.bind_eq_some_iff.1 h
 obtain⟨⟨m,r4,f4⟩,h4,h⟩:=Option.bind_eq_some_iff.1 h
 obtain⟨⟨p,r5,f5⟩,h5,h⟩:=Option.bind_eq_some_iff.1 h
 obtain⟨l,h6,rfl⟩:=Option.map_eq_some_iff.1 h
 have h7:=M2 (M2 (O0 (O0 (M2 hs h1) h2) h3) h4) h5
 simp only at h6
 cases r5 with
 |nil=>cases h6
 |cons s r=>
  rw[show rdDs f5 (s::r)=if Aj s≠0∨Ry s<0∨Ry s>(r.length:Int)then none else E6 (Ry s).toNat f5 r from rfl]at h6
  split at h6
  ·cases h6
  ·exact rdNs_suf h7.tail h6
theorem Ld.gh0{D:Type}{w w':World}{g:Nat}{ch:List PanicEntry}{e:Ending}{q:Option D}{val:D→Value}{G:D→World→Prop}{R:Nat→Prop}(h:Ld w [g] ch q (fun d (_:Unit)=>val d) (fun d _ u=>G d u) e w'):
 Ld w [g] ch q (fun d (_:Gh Unit R)=>val d) (fun d x u=>G d u∧Lj x.1.2 (fun _=>True) u) e w':=by
 cases q with
 |none=>exact h
 |some d=>
  obtain⟨x,h1,h2,h3⟩:=h
  exact⟨⟨(x,fun _=>False),fun b hb=>hb.elim⟩,h1,h2,fun w'' k1 k2=>⟨h3 w'' k1 k2,Lj.triv fun _=>trivial⟩⟩
end
section
variable{W w:World}{gt gr n c gl yc:Nat}{A:Option Addr}{ws0 rest r:WS}{f f':Bool}{L:List (Nd×ND)}{S S':TS}{N N':Nd}{q q':ND}
theorem Gx:(Xb L).length=L.length*47:=by
 unfold Xb
 induction L with
 |nil=>rfl
 |cons x l ih=>rw[List.flatMap_cons,List.length_append,ih,List.length_cons,show(X9 x.1 x.2).length=47 from by kernel_rfl];omega
theorem Ct{R:Nat→Prop}{w1:World}{Sg:Nat→Prop}(T:TE W w gt gr [gl] A n c ws0)(hw:Below W.heap.size W w1)(hgl:W.heap.size≤gl∧gl<w.heap.size)(hQ:∀b,w.heap.size≤b→R b)(hE:S'.nds=L.map (·.1)++ [N'])
 (k1:Tm W w gt gr [gl] (Em S' (some ⟨gl,0,none⟩,yc) (L.length+1)) (L7 A n c r.length f') w1) (k2:K6 w1 W.heap.size 52 47 (some ⟨gl,0,none⟩) (L.length+1) yc (Xb L++X9 N' q')) (k3:Lj Sg (fun v=>Jv N q 125 v→Jv N' q' 125 v) w1) (k4:∀b,Sg b→w.heap.size≤b):
 Nm w [gt,gr,gl] (fun _:Gh YL R=> .tuple #[]) (fun x u=>K5 u gr (L7 A n c r.length f')∧T0 W gt (some ⟨gl,0,none⟩,yc) (L++ [(N,q)]) S' R x.1 u) (.returned (.tuple #[])) w1:=
 ⟨⟨(((some ⟨gl,0,none⟩,yc),L++ [(N',q')]),Sg),fun b hb=>hQ b (k4 b hb)⟩,rfl,⟨hw.os.trans T.hW.os.symm,hw.tape.trans T.hW.tape.symm,hw.output.trans T.hW.output.symm,k1.sz,fun b hb hbl=>by
  simp only[List.mem_cons,not_or]at hbl
  rcases Nat.lt_or_ge b W.heap.size with h4|h4
  ·rw[hw.block b h4,T.hW.block b h4]
  ·exact k1.fr b h4 hb hbl.1 hbl.2.1 (by simpa using hbl.2.2.1)⟩,fun w'' j1 j2=>
  ⟨k1.br.to (j2 gr (.inl Zs)),⟨by show K5 w'' gt (Em S' _ (L++ [(N',q')]).length);rw[List.length_append];exact k1.bt.to (j2 gt (.inl Zs)),by show K6 w'' _ _ _ _ (L++ [(N',q')]).length _ _;rw[List.length_append,Ea];exact k2.same fun b hb=>j2 b (.inl (by simp[bl]at hb;simp[hb])),by rw[hE,List.map_append];rfl,
   (k3.to j1 fun b hb=>j2 b (.inr ⟨k4 b hb,k3.lt b hb⟩)).imp fun v hv hL=>by
    have hL':NsRd L v:=fun x hx=>hL x (by simp[hx])
    exact hL'.snoc (hv (hL (N,q) Zs)),fun b hb=> .inl hb,fun b hb hc=>by
    obtain rfl:b=gl:=by simpa[bl]using hc
    have:=k4 b hb;omega⟩⟩⟩
theorem Ru{l:List Nd}:B6 (l++ [N]) N'=l++ [N']:=by unfold B6;rw[List.dropLast_concat]
theorem cell_last{u:World}{d:Nat}{v:Value}(h:K6 u W.heap.size 52 47 (some ⟨gl,0,none⟩) (L.length+1) yc (Xb L++X9 N q))(hv:(X9 N q)[d]? =some v):u.cell? ⟨gl,L.length*47+d,none⟩=some v:=by
 obtain⟨g,h1,h2⟩:=h.cells Zo
 injection h1 with h1
 injection h1 with h1 _ _
 subst h1
 refine h2 _ v ?_
 rw[List.getElem?_append_right (by rw[Gx];omega),Gx,Nat.add_sub_cancel_left]
 exact hv
theorem Vc{g k fi d:Nat}{t:TypeId}{u:World}(h:Ss Tryz.prog t fi 0 0=some ⟨.p 0 (0+d),none⟩):(Qz t ⟨g,k,none⟩ fi).run Tryz.prog u= .ok (.value (Zq g (k+d))) u:=by
 rw[Mb h,Addr.add_mid]
theorem row_one{u:World}{B g:Nat}{P:Pn}{p:PM}{K:Nat}(h:K6 u B 60 40 (some ⟨g,0,none⟩) 1 1 (pnC P p))(hp:Db P p K u):Vw u (some ⟨g,0,none⟩) [(P,p)] K [P]:=
 ⟨rfl,K6.rowA (cl:=pC2) (l:=[(P,p)]) (fun _=>by kernel_rfl) rfl (by simpa[pC2]using h),fun x hx=>by rw[show x=(P,p) by simpa using hx];exact hp⟩
theorem K6.held{u:World}{B s n c:Nat}{e:TypeId}{A:Option Addr}{xs:List Value}(h:K6 u B e s A n c xs):Lj (fun b=>b∈bl A) (fun v=>K6 v B e s A n c xs) u:=
 ⟨fun b hb=>(h.lt b hb).2,fun v _ k2=>h.same k2⟩
abbrev Iu(W:World)(gl yc:Nat)(L:List (Nd×ND))(N:Nd)(q:ND)(u:World):Prop:=K6 u W.heap.size 52 47 (some ⟨gl,0,none⟩) (L.length+1) yc (Xb L++X9 N q)
theorem Iu.keep{wa u:World}{b:Nat}(hb:gl≠b)(e2:∀x,x∉[b]→wa.heap[x]? =u.heap[x]?)(h:Iu W gl yc L N q wa):Iu W gl yc L N q u:=
 K6.left h e2 fun x hx=>by simp[bl]at hx;subst hx;simpa using hb
theorem Lj.keep{Sg:Nat→Prop}{G:World→Prop}{wa u:World}{b M:Nat}(h:Lj Sg G wa)(e1:wa.heap.size=u.heap.size)(e2:∀x,x∉[b]→wa.heap[x]? =u.heap[x]?)(hS:∀x,Sg x→M≤x)(hb:b<M):Lj Sg G u:=
 h.left e1 e2 fun x hx hm=>by
  obtain rfl:x=b:=by simpa using hm
  have:=hS x hx;omega
theorem Iu.set{P:Program}{t:TypeId}{w1:World}{d:Nat}{v:Value}(h:Iu W gl yc L N q w1)(hn:Nz P t=some v.cells.toList.length)(hd:d+v.cells.toList.length≤(X9 N q).length)(h1:v.cells.toList.all (fun u=>u.oneCell')=true)(hC:(X9 N q).take d++v.cells.toList++(X9 N q).drop (d+v.cells.toList.length)=X9 N' q'):
 ∃w',(Tc t ⟨gl,L.length*47+d,none⟩ v).run P w1= .ok .skip w'∧Chg [gl] w1 w'∧∀w'',w'.heap.size≤w''.heap.size→(∀b∈[gl],w''.heap[b]? =w'.heap[b]?)→Iu W gl yc L N' q' w'':=
 K6.setLast h Gx hn hd (List.all_eq_true.1 h1) hC
theorem Iu.own(hgw:W.heap.size≤gl){u:World}(h:Iu W gl yc L N q u):∀b∈[gl],W.heap.size≤b∧∃xs ty own,u.heap[b]? =some (.cells xs ty own):=fun b hb=>by
 obtain rfl:b=gl:=by simpa using hb
 exact⟨hgw,(h.blk b (by simp[bl])).2⟩
theorem part_t{k:List UInt8}{R:Nat→Prop}{y:Option Addr×Nat}(hM:ML W)(hmm:L.length<1000000)(hE:S.nds=L.map (·.1)++ [N])(hO:K6 w W.heap.size 52 47 y.1 (L.length+1) y.2 (Xb L++X9 N q))(hA:∀b∈bl y.1,b≠gt∧b≠gr)(hQ:∀b,w.heap.size≤b→R b)(T:TE W w gt gr (bl y.1) A n c ws0)(hs:Ph ws0 n rest)(ht:K5 w gt (Em S y (L.length+1)))(hr:K5 w gr (L7 A n c rest.length false)):
 Calls Tryz.prog 81 #[Zq gt 0,Zq gr 0,K4 k] w
 (Vv w (gt::gr::bl y.1) Qn (Qw gt S.ln) (Qh S N k rest) (fun _ (_:Gh YL R)=> .tuple #[]) (fun d x u=>K5 u gr (L7 A n c d.2.1.length d.2.2)∧T0 W gt y (L++ [(N,q)]) d.1 R x.1 u)):=by
 obtain⟨gl,hyA,_⟩:=hO.cells Zo
 obtain⟨yA,yc⟩:=y
 simp only at hyA
 subst hyA
 have hgl:gl≠gt∧gl≠gr:=hA gl (by simp[bl])
 have hgw:W.heap.size≤gl∧gl<w.heap.size:=hO.lt gl (by simp[bl])
 have hgr:=hr.lt
 have hgt:=ht.lt
 have hg1:∀(wa u:World),wa.heap.size=u.heap.size→(∀b,b∉[gt]→wa.heap[b]? =u.heap[b]?)→Iu W gl yc L N q wa→Iu W gl yc L N q u:=fun wa u _ e2 h=>h.keep hgl.1 e2
 have hg2:∀(N q) (wa u:World),wa.heap.size=u.heap.size→(∀b,b∉[gr]→wa.heap[b]? =u.heap[b]?)→Iu W gl yc L N q wa→Iu W gl yc L N q u:=fun N q wa u _ e2 h=>h.keep hgl.2 e2
 have hml:∀{tc rc:List Value} (wa u:World),wa.heap.size=u.heap.size→(∀b,b∉[gl]→wa.heap[b]? =u.heap[b]?)→Tm W w gt gr [gl] tc rc wa→Tm W w gt gr [gl] tc rc u:=fun wa u e1 e2 h=>h.ml hA e1 e2
 obtain⟨o,ho⟩:∃o,o=Qh S N k rest:=⟨_,rfl⟩
 rw[←ho]
 unfold Qh at ho
 obtain⟨pb,hpb⟩:∃pb,pb=((N.kind==2)&&decide (S.wh≥2)):=⟨_,rfl⟩
 have hpn:pb=false→¬(N.kind=2∧2≤S.wh):=fun e h=>by rw[hpb,beq_iff_eq.2 h.1,decide_eq_true h.2]at e;cases e
 have hpy:pb=true→N.kind=2∧2≤S.wh:=fun e=>by rw[hpb,Bool.and_eq_true]at e;exact⟨beq_iff_eq.1 e.1,of_decide_eq_true e.2⟩
 refine K0.enterW Tryz.func81 rfl T.hW (K0.impC (Φ':=fun u=>Tm W w gt gr [gl] (Em S (some ⟨gl,0,none⟩,yc) (L.length+1)) (L7 A n c rest.length false) u∧Iu W gl yc L N q u) (fun u h=>⟨Tm.start T ht hr u h,hO.same fun b hb=>h.2 b (hO.lt b hb).1 (hO.lt b hb).2⟩) ?_)
 refine ZR <| ZA (L5 24 ⟨gt,6,none⟩) (.slice (some ⟨gl,0,none⟩) (L.length+1) yc) (fun w1 hw h=>K8 Zk (by rw[h.1.bt.cell];rfl)) <| ZJ ((((L.length+1:Nat):Int)==0)) false Zp <| K0.callv (val:=fun _:Unit=>Zq gl (L.length*47)) (G:=fun _ _=>True) (fun w1 hw h=>by have t:=last_m (m:=L.length) Zo h.1.bt;rw[Addr.add_mid,Nat.zero_add]at t;exact t) Zk fun _=>K0.weak Zk (fun u h=>h.1) <| ZS 0 <| ZS 2 <| K0.ask (Qz 52 ⟨gl,L.length*47,none⟩ 1) (Zq gl (L.length*47+1)) Zk (fun w1 hw h=>Vc (d:=1) Zk) <| ZS 3 <| K0.ask (L5 3 ⟨gl,L.length*47+1,none⟩) (Zi N.kind) Zk (fun w1 hw h=>K8 Zk (cell_last h.2 Zk)) <| ZS 6 <| K0.meet (fun(x:Nat→AV) c=>Q9 [24,25,26,27,28,29,30] x (M7 7 (.bool pb) (Lw Tryz.prog 0 1000 (M7 24 Zf c)))) (fun k=> ?_) (fun xj=> ?_)
 ·by_cases hk2:N.kind=2
  ·exact ZT 24 (.bool (N.kind==2)) Zt (by rw[beq_iff_eq.2 hk2]) <| K0.ask (L5 3 ⟨gt,7,none⟩) (Zi S.wh) Zk (fun w1 hw h=>K8 Zk (by rw[h.1.bt.cell];rfl)) <| ZS 0 <| K0.slot 7 (.bool (decide (S.wh≥2))) (.bool pb) Zk (by rw[hpb,beq_iff_eq.2 hk2,Bool.true_and]) <| K0.blur [24,25,26,27,28,29,30] fun x=>K0.eq (k x) Zk
  ·exact K0.slot 24 (.bool (N.kind==2)) Zf Zk (by rw[beq_eq_false_iff_ne.2 hk2]) <| ZS 0 <| K0.slot 7 Zf (.bool pb) Zk (by rw[hpb,beq_eq_false_iff_ne.2 hk2,Bool.false_and]) <| K0.blur [24,25,26,27,28,29,30] fun x=>K0.eq (k x) Zk
 refine K0.run Zk (stop:=1000) 1 _ <| ZS 0 ?_
 by_cases c1:k=W6
 ·subst c1
  rw[if_pos rfl]at ho
  refine ZR <| ZI true <| ZA (L5 3 ⟨gt,7,none⟩) (Zi S.wh) (fun w1 hw h=>K8 Zk (by rw[h.1.bt.cell];rfl)) <| stp_ (b:=(S.wh==1)) (z:=2) T hg1 (fun e=>by rw[ho,if_neg (by simpa using e)]) (fun e=> ?_)
  rw[if_pos (by simpa using e)]at ho
  refine rdH_ 4 (q:=En false rest) (vq:=fun _ (t:TV)=>t.val) (rs:=fun d=>d.2.1) (fl:=fun d=>d.2.2) (Cq:=fun d t=>Ag t d.1 125) T (fun w1 k1 k2 k3=>affine_h hM k1 hs k2 fun b hb=>Nat.le_trans k3 hb) (hg2 N q) (fun e=>by rw[ho,e];rfl) rfl rfl (fun d x e=> ?_)
  rw[e]at ho
  refine K0.ask (Qz 52 ⟨gl,L.length*47,none⟩ 3) (Zq gl (L.length*47+3)) Zk (fun w1 hw h=>Vc (d:=3) Zk) <| ZS 5 <| K0.mutSt (L:=[gl]) (G:=Iu W gl yc L {N with T:=d.1} {q with t:=x.1.1}) (Φ':=fun u=>Tm W w gt gr [gl] (Em {S with wh:=2} (some ⟨gl,0,none⟩,yc) (L.length+1)) (L7 A n c d.2.1.length d.2.2) u∧Iu W gl yc L {N with T:=d.1} {q with t:=x.1.1} u∧Lj x.1.2 (Ag x.1.1 d.1 125) u) (Tc 42 ⟨gl,L.length*47+3,none⟩ x.1.1.val) (fun w1 hw h=>h.2.1.set Zk (Nat.le_of_ble_eq_true Zk) Zk Zk) (fun u h=>h.2.1.own hgw.1) (fun wa u e1 e2 h hG=>⟨hml wa u e1 e2 h.1,hG,h.2.2.keep e1 e2 x.2 hgw.2⟩) Zk Zk <| ZR <| ZV (.tuple #[]) (fun w1 hw h=> ?_)
  have k:=h w1 (Nat.le_refl _) (fun _ _ _=>rfl)
  rw[ho]
  exact Ct (S':={S with nds:=B6 S.nds {N with T:=d.1},wh:=2}) T hw hgw hQ (by show B6 S.nds _=_;rw[hE,Ru]) k.1 k.2.1 (k.2.2.imp fun v h1 h2=>⟨h1,h2.cl,h2.pa,h2.fi,h2.da,h2.st,h2.px⟩) x.2
 rw[if_neg c1]at ho
 refine ZA (Qf .eql 9 (.tmp 31) (.const (.string ⟨#[116,114,97,110,115,102,111,114,109]⟩)) (K4 k) (K4 W6)) Zf (fun w1 hw h=>Ks (by simpa using c1)) <| K0.cond false Zk <| ZS 0 ?_
 by_cases c2:k=clipN
 ·subst c2
  rw[if_pos rfl]at ho
  refine ZR <| ZI true <| ZA (L5 3 ⟨gt,7,none⟩) (Zi S.wh) (fun w1 hw h=>K8 Zk (by rw[h.1.bt.cell];rfl)) <| stp_ (b:=(S.wh==2)) (z:=3) T hg1 (fun e=>by rw[ho,if_neg (by simpa using e)]) (fun e=> ?_)
  rw[if_pos (by simpa using e)]at ho
  refine rdH_ 4 (X:=Unit) (q:=Dg Na 1 false rest) (vq:=fun d _=>Zi d.1) (rs:=fun d=>d.2.1) (fl:=fun d=>d.2.2) (Cq:=fun _ _ _=>True) T (fun w1 k1 k2 k3=>(word_rule k1 hs k2).mono fun _ _ h=>h.gh0) (hg2 N q) (fun e=>by rw[ho,e];rfl) rfl rfl (fun d x e=> ?_)
  rw[e,Option.bind_some]at ho
  obtain⟨x1,r1,f1⟩:=d
  have hs1:=O0 hs e
  simp only at ho
  refine K0.ask (Qz 52 ⟨gl,L.length*47,none⟩ 5) (Zq gl (L.length*47+28)) Zk (fun w1 hw h=>Vc (d:=28) Zk) <| ZS 5 <| K0.mutSt (L:=[gl]) (G:=Iu W gl yc L {N with crule:=x1} q) (Φ':=fun u=>Tm W w gt gr [gl] (Em {S with wh:=3} (some ⟨gl,0,none⟩,yc) (L.length+1)) (L7 A n c r1.length f1) u∧Iu W gl yc L {N with crule:=x1} q u) (Tc 3 ⟨gl,L.length*47+28,none⟩ (Zi x1)) (fun w1 hw h=>h.2.1.set Zk (Nat.le_of_ble_eq_true Zk) Zk Zk) (fun u h=>h.2.1.own hgw.1) (fun wa u e1 e2 h hG=>⟨hml wa u e1 e2 h.1,hG⟩) Zk Zk <| ZR <| rdH_ 4 (q:=Vd f1 r1) (vq:=fun d (z:Option Addr×Nat)=> .slice z.1 d.1.length z.2) (rs:=fun d=>d.2.1) (fl:=fun d=>d.2.2) (Cq:=fun d z v=>Qt v z.1 d.1.length d.1) T (fun w1 k1 k2 k3=>path_t hM k1 hs1 k2 fun b hb=>Nat.le_trans k3 hb) (hg2 {N with crule:=x1} q) (fun e=>by rw[ho,e];rfl) rfl rfl (fun d z e=> ?_)
  rw[e]at ho
  refine K0.ask (Qz 52 ⟨gl,L.length*47,none⟩ 4) (Zq gl (L.length*47+27)) Zk (fun w1 hw h=>Vc (d:=27) Zk) <| ZS 5 <| K0.mutSt (L:=[gl]) (G:=Iu W gl yc L {N with crule:=x1,clip:=d.1} {q with clA:=z.1.1.1,clc:=z.1.1.2}) (Φ':=fun u=>Tm W w gt gr [gl] (Em {S with wh:=3} (some ⟨gl,0,none⟩,yc) (L.length+1)) (L7 A n c d.2.1.length d.2.2) u∧Iu W gl yc L {N with crule:=x1,clip:=d.1} {q with clA:=z.1.1.1,clc:=z.1.1.2} u∧Lj z.1.2 (fun v=>Qt v z.1.1.1 d.1.length d.1) u) (Tc 43 ⟨gl,L.length*47+27,none⟩ (.slice z.1.1.1 d.1.length z.1.1.2)) (fun w1 hw h=>h.2.1.set Zk (Nat.le_of_ble_eq_true Zk) Zk Zk) (fun u h=>h.2.1.own hgw.1) (fun wa u e1 e2 h hG=>⟨hml wa u e1 e2 h.1,hG,h.2.2.keep e1 e2 z.2 hgw.2⟩) Zk Zk <| ZR <| ZV (.tuple #[]) (fun w1 hw h=> ?_)
  have k:=h w1 (Nat.le_refl _) (fun _ _ _=>rfl)
  rw[ho]
  exact Ct (S':={S with nds:=B6 S.nds {N with crule:=x1,clip:=d.1},wh:=3}) T hw hgw hQ (by show B6 S.nds _=_;rw[hE,Ru]) k.1 k.2.1 (k.2.2.imp fun v h1 h2=>⟨h2.tr,h1,h2.pa,h2.fi,h2.da,h2.st,h2.px⟩) z.2
 rw[if_neg c2]at ho
 refine ZA (Qf .eql 9 (.tmp 31) (.const (.string ⟨#[99,108,105,112]⟩)) (K4 k) (K4 clipN)) Zf (fun w1 hw h=>Ks (by simpa using c2)) <| K0.cond false Zk <| ZS 0 ?_
 by_cases c3:k=fillN
 ·subst c3
  rw[if_pos rfl]at ho
  refine ZR <| K0.cond true Zk <| ZS 3 ?_
  cases hb:pb with
  |false=>
   exact ZR <| stp_ (b:=false) (z:=4) T hg1 (fun _=>by rw[ho,if_neg fun h=>hpn hb ⟨h.1,h.2.1⟩]) (fun e=>by cases e)
  |true=>
   refine ZR <| ZA (L5 3 ⟨gt,7,none⟩) (Zi S.wh) (fun w1 hw h=>K8 Zk (by rw[h.1.bt.cell];rfl)) <| stp_ (b:=decide (S.wh<4)) (z:=4) T hg1 (fun e=>by rw[ho,if_neg fun h=>by simp at e;omega]) (fun e=> ?_)
   rw[if_pos ⟨(hpy hb).1,(hpy hb).2,by simpa using e⟩]at ho
   refine rdH_ 5 (q:=Wz false rest) (rs:=fun _=>[]) (fl:=fun d=>d.2) (vq:=fun d (z:PM)=>X4 d.1 z) (Cq:=fun d z=>Db d.1 z 125) T (fun w1 k1 k2 k3=>paint_h hM k1 hs k2 fun b hb=>Nat.le_trans k3 hb) (hg2 N q) (fun e=>by rw[ho,e];rfl) rfl rfl (fun d x e=> ?_)
   rw[e]at ho
   refine K0.make (Lq 44 1 #[(0,X4 d.1 x.1.1)]) (Kf 1) (fun g u=>K6 u w.heap.size 60 40 (some ⟨g,0,none⟩) 1 1 (pnC d.1 x.1.1)) Zk (fun w1 hw h=>Ym (cells:=(pnC d.1 x.1.1).toArray) Zk h.1.sz Zk Zd) fun ga=>ZS 5 <| K0.ask (Qz 52 ⟨gl,L.length*47,none⟩ 12) (Zq gl (L.length*47+35)) Zk (fun w1 hw h=>Vc (d:=35) Zk) <| ZS 6 <| K0.mutSt (L:=[gl]) (G:=Iu W gl yc L {N with fill:=[d.1]} {q with fiA:=some ⟨ga,0,none⟩,fic:=1,fl:=[(d.1,x.1.1)]}) (Φ':=fun u=>Tm W w gt gr [gl] (Em {S with wh:=4} (some ⟨gl,0,none⟩,yc) (L.length+1)) (L7 A n c 0 d.2) u∧Iu W gl yc L {N with fill:=[d.1]} {q with fiA:=some ⟨ga,0,none⟩,fic:=1,fl:=[(d.1,x.1.1)]} u∧Lj (fun b=>x.1.2 b∨b∈bl (some ⟨ga,0,none⟩)) (fun v=>Db d.1 x.1.1 125 v∧K6 v w.heap.size 60 40 (some ⟨ga,0,none⟩) 1 1 (pnC d.1 x.1.1)) u) (Tc 44 ⟨gl,L.length*47+35,none⟩ (Kf 1 ga)) (fun w1 hw h=>h.1.2.1.set Zk (Nat.le_of_ble_eq_true Zk) Zk Zk) (fun u h=>h.1.2.1.own hgw.1) (fun wa u e1 e2 h hG=>⟨hml wa u e1 e2 h.1.1,hG,(h.1.2.2.and (K6.held h.2)).keep e1 e2 (fun b hb=>hb.elim (x.2 b) fun hb=>(K6.lt h.2 b hb).1) hgw.2⟩) Zk Zk <| ZR <| ZV (.tuple #[]) (fun w1 hw h=> ?_)
   have k:=h w1 (Nat.le_refl _) (fun _ _ _=>rfl)
   rw[ho]
   exact Ct (r:=[]) (S':={S with nds:=B6 S.nds {N with fill:=[d.1]},wh:=4}) T hw hgw hQ (by show B6 S.nds _=_;rw[hE,Ru]) k.1 k.2.1 (k.2.2.imp fun v h1 h2=>⟨h2.tr,h2.cl,h2.pa,row_one h1.2 h1.1,h2.da,h2.st,h2.px⟩) (fun b hb=>hb.elim (x.2 b) fun hb=>(K6.lt k.2.2.get.2 b hb).1)
 rw[if_neg c3]at ho
 refine ZA (Qf .eql 9 (.tmp 31) (.const (.string ⟨#[102,105,108,108]⟩)) (K4 k) (K4 fillN)) Zf (fun w1 hw h=>Ks (by simpa using c3)) <| K0.cond false Zk <| ZS 0 ?_
 by_cases c4:k=J7
 ·subst c4
  rw[if_pos rfl]at ho
  refine ZR <| K0.cond true Zk <| ZS 3 ?_
  cases hb:pb with
  |false=>
   exact ZR <| stp_ (b:=false) (z:=5) T hg1 (fun _=>by rw[ho,if_neg fun h=>hpn hb ⟨h.1,h.2.1⟩]) (fun e=>by cases e)
  |true=>
   refine ZR <| ZA (L5 3 ⟨gt,7,none⟩) (Zi S.wh) (fun w1 hw h=>K8 Zk (by rw[h.1.bt.cell];rfl)) <| stp_ (b:=decide (S.wh<5)) (z:=5) T hg1 (fun e=>by rw[ho,if_neg fun h=>by simp at e;omega]) (fun e=> ?_)
   rw[if_pos ⟨(hpy hb).1,(hpy hb).2,by simpa using e⟩]at ho
   refine rdH_ 4 (q:=A9 false rest) (vq:=fun d (z:Option Addr×Nat)=>styV d.1 z) (rs:=fun d=>d.2.1) (fl:=fun d=>d.2.2) (Cq:=fun d z v=>Ma v z.1 d.1.d.length 1 daC d.1.d) T (fun w1 k1 k2 k3=>pen_t k1 hs k2 fun b hb=>Nat.le_trans k3 hb) (hg2 N q) (fun e=>by rw[ho,e];rfl) rfl rfl (fun d z e=> ?_)
   rw[e,Option.bind_some]at ho
   obtain⟨s,r1,f1⟩:=d
   have hs1:=rdPen_suf hs e
   simp only at ho hs1
   refine K0.ask (Qz 52 ⟨gl,L.length*47,none⟩ 13) (Zq gl (L.length*47+36)) Zk (fun w1 hw h=>Vc (d:=36) Zk) <| ZS 5 <| K0.mutSt (L:=[gl]) (G:=Iu W gl yc L {N with sty:=s} {q with daA:=z.1.1.1,dac:=z.1.1.2}) (Φ':=fun u=>Tm W w gt gr [gl] (Em {S with wh:=5} (some ⟨gl,0,none⟩,yc) (L.length+1)) (L7 A n c r1.length f1) u∧Iu W gl yc L {N with sty:=s} {q with daA:=z.1.1.1,dac:=z.1.1.2} u∧Lj z.1.2 (fun v=>Ma v z.1.1.1 s.d.length 1 daC s.d) u) (Tc 47 ⟨gl,L.length*47+36,none⟩ (styV s z.1.1)) (fun w1 hw h=>h.2.1.set Zk (Nat.le_of_ble_eq_true Zk) Zk Zk) (fun u h=>h.2.1.own hgw.1) (fun wa u e1 e2 h hG=>⟨hml wa u e1 e2 h.1,hG,h.2.2.keep e1 e2 z.2 hgw.2⟩) Zk Zk <| ZR <| rdH_ 5 (F:=fun u=>Iu W gl yc L {N with sty:=s} {q with daA:=z.1.1.1,dac:=z.1.1.2} u∧Lj z.1.2 (fun v=>Ma v z.1.1.1 s.d.length 1 daC s.d) u) (q:=Wz f1 r1) (rs:=fun _=>[]) (fl:=fun d=>d.2) (vq:=fun d (z:PM)=>X4 d.1 z) (Cq:=fun d z=>Db d.1 z 125) T (fun w1 k1 k2 k3=>paint_h hM k1 hs1 k2 fun b hb=>Nat.le_trans k3 hb) (fun wa u e1 e2 h=>⟨hg2 _ _ wa u e1 e2 h.1,h.2.keep e1 e2 z.2 hgr⟩) (fun e=>by rw[ho,e];rfl) rfl rfl (fun d x e=> ?_)
   rw[e]at ho
   refine K0.make (Lq 44 1 #[(0,X4 d.1 x.1.1)]) (Kf 1) (fun g u=>K6 u w.heap.size 60 40 (some ⟨g,0,none⟩) 1 1 (pnC d.1 x.1.1)) Zk (fun w1 hw h=>Ym (cells:=(pnC d.1 x.1.1).toArray) Zk h.1.sz Zk Zd) fun ga=>ZS 5 <| K0.ask (Qz 52 ⟨gl,L.length*47,none⟩ 14) (Zq gl (L.length*47+42)) Zk (fun w1 hw h=>Vc (d:=42) Zk) <| ZS 6 <| K0.mutSt (L:=[gl]) (G:=Iu W gl yc L {N with sty:=s,stroke:=[d.1]} {q with daA:=z.1.1.1,dac:=z.1.1.2,stA:=some ⟨ga,0,none⟩,stc:=1,sl:=[(d.1,x.1.1)]}) (Φ':=fun u=>Tm W w gt gr [gl] (Em {S with wh:=5} (some ⟨gl,0,none⟩,yc) (L.length+1)) (L7 A n c 0 d.2) u∧Iu W gl yc L {N with sty:=s,stroke:=[d.1]} {q with daA:=z.1.1.1,dac:=z.1.1.2,stA:=some ⟨ga,0,none⟩,stc:=1,sl:=[(d.1,x.1.1)]} u∧Lj (fun b=>z.1.2 b∨(x.1.2 b∨b∈bl (some ⟨ga,0,none⟩))) (fun v=>Ma v z.1.1.1 s.d.length 1 daC s.d∧Db d.1 x.1.1 125 v∧K6 v w.heap.size 60 40 (some ⟨ga,0,none⟩) 1 1 (pnC d.1 x.1.1)) u) (Tc 44 ⟨gl,L.length*47+42,none⟩ (Kf 1 ga)) (fun w1 hw h=>h.1.2.1.1.set Zk (Nat.le_of_ble_eq_true Zk) Zk Zk) (fun u h=>h.1.2.1.1.own hgw.1) (fun wa u e1 e2 h hG=>⟨hml wa u e1 e2 h.1.1,hG,(h.1.2.1.2.and (h.1.2.2.and (K6.held h.2))).keep e1 e2 (fun b hb=>hb.elim (z.2 b) fun hb=>hb.elim (x.2 b) fun hb=>(K6.lt h.2 b hb).1) hgw.2⟩) Zk Zk <| ZR <| ZV (.tuple #[]) (fun w1 hw h=> ?_)
   have k:=h w1 (Nat.le_refl _) (fun _ _ _=>rfl)
   rw[ho]
   exact Ct (r:=[]) (S':={S with nds:=B6 S.nds {N with sty:=s,stroke:=[d.1]},wh:=5}) T hw hgw hQ (by show B6 S.nds _=_;rw[hE,Ru]) k.1 k.2.1 (k.2.2.imp fun v h1 h2=>⟨h2.tr,h2.cl,h2.pa,h2.fi,h1.1,row_one h1.2.2 h1.2.1,h2.px⟩) (fun b hb=>hb.elim (z.2 b) fun hb=>hb.elim (x.2 b) fun hb=>(K6.lt k.2.2.get.2.2 b hb).1)
 rw[if_neg c4]at ho
 exact ZA (Qf .eql 9 (.tmp 31) (.const (.string ⟨#[115,116,114,111,107,101]⟩)) (K4 k) (K4 J7)) Zf (fun w1 hw h=>Ks (by simpa using c4)) <| ZI false <| K0.throw (Instr.panic Ke >>= fun v=>pure (.value v)) Ke Zk (fun w1 hw h=>by simp[Instr.panic,Ke,Go.goPanic]) Zk <| K0.pan fun w1 hw h=>by rw[ho];exact Tp.pan T hw ⟨h.1.sz,h.1.fr,h.1.bt⟩ rfl rfl
end
section
variable{W w wa u:World}{gt go gr g n c N:Nat}{A:Option Addr}{f b:Bool}{ws:WS}{tc:List Value}
theorem K5.storeN{P:Program}{t:TypeId}{w:World}{g j:Nat}{cs:List Value}{v:Value}(h:K5 w g cs)(hn:Nz P t=some v.cells.toList.length)(hj:j+v.cells.toList.length≤cs.length)(h1:∀u∈v.cells.toList,u.oneCell'=true):
 ∃w',(Tc t ⟨g,j,none⟩ v).run P w= .ok .skip w'∧Chg [g] w w'∧∀w'',w'.heap.size≤w''.heap.size→(∀b∈[g],w''.heap[b]? =w'.heap[b]?)→K5 w'' g (cs.take j++v.cells.toList++cs.drop (j+v.cells.toList.length)):=by
 obtain⟨ty,h⟩:=h
 have hst:=run_storeCells_at P g j ty v.cells.toList 0 cs.toArray w h (by simp at hj ⊢;omega) h1
 have hsz:v.cells.size=v.cells.toList.length:=by simp
 have hnew:((cs.toArray.toList.take (j+0)++v.cells.toList++cs.toArray.toList.drop (j+0+v.cells.toList.length)).toArray)=(cs.take j++v.cells.toList++cs.drop (j+v.cells.toList.length)).toArray:=rfl
 rw[hnew]at hst
 refine⟨w.setRow g (cs.take j++v.cells.toList++cs.drop (j+v.cells.toList.length)).toArray,?_,⟨rfl,rfl,rfl,by rw[Pk];exact Nat.le_refl _,fun k _ hk=>Ox _ _ _ _ (by simpa using hk)⟩,fun w'' k1 k2=>⟨ty,?_⟩⟩
 ·simp only[Tc,Instr.storeAt,Instr.sureAddr,storeVar,Sem.run_bind,Sem.run_pure,Result.andThen_ok,Lf hn]
  rw[if_neg Zs]
  simp only[hst,Sem.run_pure,Sem.run_bind,Result.andThen_ok]
 ·rw[k2 g Zs]
  simp only[World.setRow,Array.getElem?_modify,if_true,h,Option.map_some]
@[reducible] def nilV:Value:= .slice none 0 0
theorem K0.impM{P:Program}{Δ:List Deferred}{W:World}{Q:Exit→Act→World→Prop}{Φ Φ':World→Prop}{c:Nn}(h:∀w,Φ w→Φ' w)(hf:notAny c=true)(H:K0 P Δ W Q Φ' c):K0 P Δ W Q Φ c:=by
 obtain⟨foc,k,σ⟩:=c
 replace H:=H.get
 refine⟨?_⟩
 unfold U6 at H ⊢
 cases foc with
 |code x=>exact fun hwf β a w hr=>H hwf β a w (hr.imp h)
 |ops o l=>exact fun hwf β a w hr=>H hwf β a w (hr.imp h)
 |any o f l=>cases hf
 |out e=>exact fun hwf β a w hr=>H hwf β a w (hr.imp h)
theorem strAt_ne(hb:K5 u g tc)(hc:∀v∈tc,∀s,v≠K4 s)(h:L3 u A n ws)(h0:0<ws.length):∀b∈bl A,b≠g:=by
 rintro b hb2 rfl
 obtain⟨s,hs⟩:∃s,ws[0]? =some s:=⟨_,List.getElem?_eq_getElem h0⟩
 obtain⟨ad,hA,hc2⟩:=h.2 0 s hs
 rw[hA]at hb2
 obtain rfl:b=ad.block:=by simpa[bl]using hb2
 obtain⟨ty,hb⟩:=hb
 unfold World.cell? at hc2
 rw[Ov,hb]at hc2
 simp only at hc2
 split at hc2
 ·cases hc2
 ·exact hc _ (List.mem_of_getElem? (by simpa using hc2)) s rfl
theorem L3.left2{L:List Nat}(e2:∀b,b∉L→wa.heap[b]? =u.heap[b]?)(hA:∀b∈bl A,b∉L)(h:L3 wa A n ws):L3 u A n ws:=
 ⟨h.1,fun k s hk=>by
  obtain⟨ad,h1,h2⟩:=h.2 k s hk
  exact⟨ad,h1,Zw h2 (by rw[Ov];exact(e2 _ (hA _ (by rw[h1];simp[bl]))).symm)⟩⟩
theorem rbx_full:L7 A n c n f=[.slice A n c,.bool f]:=by
 unfold L7 rsl
 rw[Nat.sub_self,Wf,Nat.sub_zero]
theorem txC_ns{W H r g b a wh ln far:Int}{l:Value}(hl:∀s,l≠K4 s):∀v∈Y6 W H r g b a l wh ln far,∀s,v≠K4 s:=by
 intro v hv s e
 subst e
 unfold Y6 at hv
 simp only[List.mem_cons,List.not_mem_nil,or_false]at hv
 rcases hv with h|h|h|h|h|h|h|h|h|h<;>first|exact absurd h.symm (hl s)|cases h
theorem rbx2_ns:∀v∈[Value.slice A n c,.bool f],∀s,v≠K4 s:=by
 intro v hv s e
 subst e
 simp only[List.mem_cons,List.not_mem_nil,or_false]at hv
 rcases hv with h|h<;>cases h
theorem nil_ns:∀s,nilV≠K4 s:=fun s h=>by cases h
def cell1(fn:Func)(σ:AS):Option (Nat×TypeId):=
 match fn.results.toList with
 | [.cell t ty]=>match σ.tmps.getD t (.v undef)with
  | .v (.pointer (some ⟨g,0,none⟩))=>some (g,ty)
  |_=>none
 |_=>none
theorem cell1_ok{P:Program}{Δ:List Deferred}{W:World}{Φ:World→Prop}{fn:Func}{σ:AS}{β:Nat→Nat}{a:Act}{w w':World}{g:Nat}{ty:TypeId}{v:Value}(hc:cell1 fn σ=some (g,ty))(hr:Q4 Δ W β σ Φ a w)
 (h1:(loadVar ty ⟨g,0,none⟩).run P w'= .ok v w'):(results fn a.tmps).run P w'= .ok v w':=by
 unfold cell1 at hc
 split at hc
 ·rename_i t ty' hres
  split at hc
  ·rename_i gg e1
   simp only[Option.some.injEq,Prod.mk.injEq]at hc
   obtain⟨rfl,rfl⟩:=hc
   have hg1:a.tmps.getD t undef=Zq gg 0:=by
    have:=hr.eval (.tmp t)
    simp only[Act.eval,AS.eval,e1,AV.conc]at this
    exact this
   rw[Vz,Sem.run_bind,Array.mapM_eq_mapM_toList,Sem.run_map,hres,List.mapM_cons,Sem.run_bind]
   simp only[Bh,hg1,asAddr,Sem.run_bind,Sem.run_pure,Result.andThen_ok,h1,List.mapM_nil,List.mapM_cons]
   rfl
  ·cases hc
 ·cases hc
end
section
variable{P:Program}{W:World}{Φ:World→Prop}{c:Nn}{fn:Func}{R:Ending→World→Prop}{fv:Fn}{cap dargs:Array Value}{f:FuncId}{args:Array Value}
theorem K0.panD1{ch:List PanicEntry}(g:Nat)(ty:TypeId)(hfo:c.foc= .out (.panic ch))(hc:cell1 fn c.st=some (g,ty))(hi:∀w,(invoke (.fn fv cap) dargs).run P w= .ok (.enter f args) w)
 (h:∀w,Below W.heap.size W w→Φ w→CallsD P f args (.panicking ch) w fun e u w'=>settle u= .returning∧∃x v,e= .returned x∧(loadVar ty ⟨g,0,none⟩).run P w'= .ok v w'∧R (.returned v) w'):
 K0 P [⟨.fn fv cap,dargs⟩] W (bodyPostD P fn R) Φ c:=by
 obtain⟨foc,k,σ⟩:=c
 refine⟨?_⟩
 simp only at hfo
 subst hfo
 intro hwf β a w hr
 refine Yg k ?_
 show Leaves P fn a.tmps R a.defers (.panicking ch) w
 rw[hr.defers]
 refine leaves_cons Zs (hi w) ((h w hr.bel hr.phi).mono fun e u' w' he=> ?_)
 obtain⟨hu,x,v,rfl,k1,hR⟩:=he
 show Leaves P fn a.tmps R [] (settle u') w'
 rw[hu]
 exact⟨_,cell1_ok hc hr k1,hR⟩
end
section
variable{W w:World}{gt go c N:Nat}{A:Option Addr}{b:Bool}
theorem all1_r(hW:Below W.heap.size W w):CallsD Tryz.prog 45 #[Zq go 0] .returning w (fun e u' w'=>u'= .returning∧(e= .returned (.tuple #[])∧Below W.heap.size W w'∧Stay W w w')):=by
 refine K0.enterRec (rv:= .nilIface) Tryz.func45 rfl (fun ρ w=>rfl) rfl rfl rfl rfl rfl (by show 4<1+(15-1);decide) (fun c₀ cs hu=> ?_) hW ?_
 ·simp[recoverD,hu]
 refine ZR <| ZI true <| ZV (.tuple #[]) (fun w1 hw h=>⟨rfl,hw,h w1 (Nat.le_refl _) fun _ _ _=>rfl⟩)
theorem all1_p(hW:Below W.heap.size W w)(ho:K5 w go [.bool b])(lo:W.heap.size≤go):CallsD Tryz.prog 45 #[Zq go 0] (.panicking Qn) w (fun e u' w'=>u'= .panicking [{v:=Ke,recovered:=true}]∧(e= .returned (.tuple #[])∧Below W.heap.size W w'∧Om W w go [.bool false] w')):=by
 refine K0.enterRec (rv:=Ke) Tryz.func45 rfl (fun ρ w=>rfl) rfl rfl rfl rfl rfl (by show 4<1+(15-1);decide) (fun c₀ cs hu=> ?_) hW ?_
 ·simp[recoverD,hu,Qn]
 refine ZR <| ZI false <| ZR <| ZI false <| K0.mutSt (L:=[go]) (G:=fun u=>K5 u go [.bool false]) (Φ':=Om W w go [.bool false]) (Tc 4 ⟨go,0,none⟩ Zf) (fun w1 hw h=>(ho.stay lo h.2).store Zk rfl (by intro u hu;simp[Value.cells]at hu;subst hu;rfl)) (fun u h b hb=> ?_) (fun wa u e1 e2 h hG=>⟨by rw[←e1];exact h.1,fun b h1 h2 h3=>(e2 b (by simpa using h3)).symm.trans (h.2 b h1 h2),hG⟩) Zk Zk ?_
 ·obtain rfl:b=go:=by simpa using hb
  exact⟨lo,(ho.stay lo h.2).own⟩
 refine ZR <| ZV (.tuple #[]) (fun w1 hw h=>⟨rfl,hw,h w1 (Nat.le_refl _) fun _ _ _=>rfl⟩)
theorem L3.stay{u:World}{B n:Nat}{ws:WS}(h:L3 w A n ws)(hA:∀b∈bl A,B≤b)(hs:∀b,B≤b→b<w.heap.size→u.heap[b]? =w.heap[b]?):L3 u A n ws:=
 ⟨h.1,fun k s hk=>by
  obtain⟨ad,h1,h2⟩:=h.2 k s hk
  have hlt:=Xg h2
  rw[Ov]at hlt
  exact⟨ad,h1,Zw h2 (by rw[Ov];exact hs _ (hA _ (by rw[h1];simp[bl])) hlt)⟩⟩
theorem bool_st{w1:World}{g:Nat}{v b:Bool}(h:K5 w1 g [.bool b]):∃w',(Tc 4 ⟨g,0,none⟩ (.bool v)).run Tryz.prog w1= .ok .skip w'∧Chg [g] w1 w'∧∀w'',w'.heap.size≤w''.heap.size→(∀b∈[g],w''.heap[b]? =w'.heap[b]?)→K5 w'' g [.bool v]:=h.store Zk rfl (by intro u hu;simp[Value.cells]at hu;subst hu;rfl)
theorem L3.blk{u:World}{A:Option Addr}{n:Nat}{ws:WS}(h:L3 u A n ws)(h0:0<ws.length):∀b∈bl A,∃cs ty own,u.heap[b]? =some (.cells cs ty own):=fun b hb=>by
 obtain⟨ad,h1,h2⟩:=h.2 0 _ (List.getElem?_eq_getElem h0)
 rw[h1]at hb
 obtain rfl:b=ad.block:=by simpa[bl]using hb
 unfold World.cell? at h2
 rw[Ov]at h2
 split at h2
 ·exact⟨_,_,_,by assumption⟩
 ·cases h2
theorem sl_f{l:List UInt8}{ws:WS}{n:Nat}(hM:ML w)(hB:okN l=true)(hl:l.length≤10000000)(he:Nq l=ws)(hn:ws.length=n)(h0:0<ws.length)(hN:N≤w.heap.size):Calls Tryz.prog 22 #[K4 l] w (K7 w (fun q:(Option Addr×Nat)×Nat=> .tuple #[.slice q.1.1 n q.1.2,Zi 0]) fun q u=>L3 u q.1.1 n ws∧∀b∈bl q.1.1,N≤b):=by
 subst hn;subst he
 refine(sl_s hM hB hl).mono fun e w' h=> ?_
 obtain⟨x,h1,h2,h3⟩:=h.fresh (fun y=>bl y.1) (fun y u k b hb=>k.blk h0 b hb)
 exact⟨x,h1,h2,fun w'' k1 k2=>⟨(h3 w'' k1 k2).1,fun b hb=>Nat.le_trans hN ((h3 w'' k1 k2).2.1 b hb).1⟩⟩
end
section
variable{W w:World}{gt:Nat}{y:Option Addr×Nat}{L:List (Nd×ND)}{S:TS}{l:List UInt8}{N:Nat}
theorem sf_f(hM:ML w)(hB:Vm (L9 l)=true)(hl:l.length≤65536){ws:WS}(he:Lx (L9 l)=ws)(h0:0<ws.length)(hN:N≤w.heap.size):Calls Tryz.prog 52 #[K4 l] w (K7 w (fun q:(Option Addr×Nat)×Nat=> .tuple #[.slice q.1.1 ws.length q.1.2,Zi 0,Zi 0]) fun q u=>(L3 u q.1.1 ws.length ws∧ws.length≤q.1.2)∧∀b∈bl q.1.1,N≤b):=by
 subst he
 refine(sf_c hM hB Zo).mono fun e w' h=> ?_
 obtain⟨x,h1,h2,h3⟩:=h.fresh (fun x=>bl x.1) (fun x u k=>k.1.blk h0)
 exact⟨x,h1,h2,fun w'' k1 k2=>⟨(h3 w'' k1 k2).1,fun b hb=>Nat.le_trans hN ((h3 w'' k1 k2).2.1 b hb).1⟩⟩
end
section
variable{W w:World}{gt gr n c:Nat}{A:Option Addr}{y:Option Addr×Nat}{ws0 rest:WS}{f:Bool}{L:List (Nd×ND)}{S:TS}{R:Nat→Prop}{tc rc:List Value}
structure KE(W w:World)(gt gr:Nat)(y:Option Addr×Nat)(A:Option Addr)(n c:Nat)(ws0:WS):Prop where
 hW:Below W.heap.size W w
 lt:W.heap.size≤gt
 gl:gt<w.heap.size
 lr:w.heap.size≤gr
 nA:∀b∈bl A,b≠gt∧b≠gr∧b∉bl y.1
 ny:∀b∈bl y.1,b≠gt∧b<w.heap.size
 hn:n≤c
 hn2:n≤1000000
 len:∀y∈ws0,y.length≤65536
structure Tk(W w:World)(gt gr:Nat)(y:Option Addr×Nat)(A:Option Addr)(n:Nat)(ws0:WS)(rc:List Value)(u:World):Prop where
 sz:w.heap.size≤u.heap.size
 fr:∀b,W.heap.size≤b→b<w.heap.size→b≠gt→b∉bl y.1→u.heap[b]? =w.heap[b]?
 br:K5 u gr rc
 s:L3 u A n ws0
theorem KE.te(K:KE W w gt gr y A n c ws0){u:World}(hu:Below W.heap.size W u)(h:L3 u A n ws0):TE W u gt gr (bl y.1) A n c ws0:=
 ⟨hu,h,K.lt,Nat.le_trans K.hW.size K.lr,by have:=K.gl;have:=K.lr;omega,K.nA,K.hn,K.hn2,K.len⟩
theorem KE.re(K:KE W w gt gr y A n c ws0){u:World}(hu:Below W.heap.size W u)(h:L3 u A n ws0):RE W u gr A n c ws0:=
 ⟨hu,Nat.le_trans K.hW.size K.lr,h,fun ad _ e=>(K.nA ad.block (by rw[e];simp[bl])).2.1,K.hn,K.hn2,K.len⟩
theorem Tk.left{wa u:World}{LL:List Nat}{rc2:List Value}(K:KE W w gt gr y A n c ws0)(hL:∀b∈LL,b=gt∨b=gr∨b∈bl y.1)(e1:wa.heap.size≤u.heap.size)(e2:∀b,b∉LL→b<wa.heap.size→wa.heap[b]? =u.heap[b]?)(h:Tk W w gt gr y A n ws0 rc wa)(hr:K5 u gr rc2):Tk W w gt gr y A n ws0 rc2 u:=
 ⟨Nat.le_trans h.sz e1,fun b h1 h2 h3 h4=>(e2 b (fun hb=>(hL b hb).elim h3 fun k=>k.elim (fun e=>by have:=K.lr;omega) h4) (Nat.lt_of_lt_of_le h2 h.sz)).symm.trans (h.fr b h1 h2 h3 h4),hr,by
  refine⟨h.s.1,fun k s hk=> ?_⟩
  obtain⟨ad,hA,hc⟩:=h.s.2 k s hk
  refine⟨ad,hA,Zw hc ?_⟩
  have hb:=K.nA ad.block (by rw[hA];simp[bl])
  have hlt:=Xg hc
  rw[Ov]at hlt ⊢
  exact(e2 ad.block (fun hm=>(hL _ hm).elim hb.1 fun k=>k.elim hb.2.1 hb.2.2) hlt).symm⟩
theorem Tk.pan{w1:World}{ln:Int}(hW:Below W.heap.size W w)(hw:Below W.heap.size W w1)(sz:w.heap.size≤w1.heap.size)(fr:∀b,W.heap.size≤b→b<w.heap.size→b≠gt→b∉bl y.1→w1.heap[b]? =w.heap[b]?)(hl:Qw gt ln w1):PanG w (gt::bl y.1) Qn (Qw gt ln) (.panicked Qn) w1:=
 ⟨rfl,⟨hw.os.trans hW.os.symm,hw.tape.trans hW.tape.symm,hw.output.trans hW.output.symm,sz,fun k hk hkl=>by
  simp only[List.mem_cons,not_or]at hkl
  rcases Nat.lt_or_ge k W.heap.size with h4|h4
  ·rw[hw.block k h4,hW.block k h4]
  ·exact fr k h4 hk hkl.1 hkl.2⟩,fun w'' k1 k2=>by
  obtain⟨cs,h1,h2,h3⟩:=hl
  exact⟨cs,h1.to (k2 gt (.inl Zs)),h2,h3⟩⟩
theorem Z2{m:Nat}{u:World}(h:K5 u gt (Em S y m)):Qw gt S.ln u:=⟨_,h,rfl,rfl⟩
structure Kp(W w:World)(gt:Nat)(y:Option Addr×Nat)(ln:Int)(u:World):Prop where
 sz:w.heap.size≤u.heap.size
 fr:∀b,W.heap.size≤b→b<w.heap.size→b≠gt→b∉bl y.1→u.heap[b]? =w.heap[b]?
 ln:Qw gt ln u
theorem rdK_{D D2 X2:Type}{fn:Func}{o2:Option D2}{val2:D2→X2→Value}{G2:D2→X2→World→Prop}{F:World→Prop}{q:Option D}{vq:D→Value}{rs:D→WS}{fl:D→Bool}{e:FuncId}{args:Array Value}{c0:Nn}{z:Int}(st:Nat)(K:KE W w gt gr y A n c ws0)
 (hc:∀w1,RE W w1 gr A n c ws0→K5 w1 gr (L7 A n c rest.length f)→Calls Tryz.prog e args w1 (Ld w1 [gr] Qn q (fun d (_:Unit)=>vq d) (fun d _ u=>K5 u gr (L7 A n c (rs d).length (fl d)))))
 (hF:∀wa u:World,wa.heap.size=u.heap.size→(∀b,b∉[gr]→wa.heap[b]? =u.heap[b]?)→F wa→F u) (hl:∀u,F u→Qw gt z u)
 (hn:q=none→o2=none)
 (hk:∀d,q=some d→K0 Tryz.prog [] W (bodyPost Tryz.prog fn (Vv w (gt::bl y.1) Qn (Qw gt z) o2 val2 G2)) (fun u=>Tk W w gt gr y A n ws0 (L7 A n c (rs d).length (fl d)) u∧F u) (Lw Tryz.prog st 1000 (Le (.v (vq d)) c0)))
 (hf:Qj c0=true:=by kernel_rfl) (hc2:Lk Tryz.prog c0=some (e,args):=by kernel_rfl):K0 Tryz.prog [] W (bodyPost Tryz.prog fn (Vv w (gt::bl y.1) Qn (Qw gt z) o2 val2 G2)) (fun u=>Tk W w gt gr y A n ws0 (L7 A n c rest.length f) u∧F u) c0:=by
 have own:Yx W [gr] (fun u=>Tk W w gt gr y A n ws0 (L7 A n c rest.length f) u∧F u):=fun u h b hb=>by
  obtain rfl:b=gr:=by simpa using hb
  exact⟨Nat.le_trans K.hW.size K.lr,h.1.br.own⟩
 cases hq:q with
 |none=>
  exact K0.mutx (L:=[gr]) (Φ':=Kp W w gt y z) (fun w1 hw h=>by have t:=hc w1 (K.re hw h.1.s) h.1.br;rw[hq]at t;exact t) own (fun wa u e1 e2 h _=>⟨by rw[←e1];exact h.1.sz,fun b k1 k2 k3 k4=>(e2 b (by have:=K.lr;simp;omega)).symm.trans (h.1.fr b k1 k2 k3 k4),hl u (hF wa u e1 e2 h.2)⟩) hf hc2 <| K0.pan fun w1 hw h=>by rw[hn hq];exact Tk.pan K.hW hw h.sz h.fr h.ln
 |some d=>exact K0.mut (L:=[gr]) (Φ':=fun _ u=>Tk W w gt gr y A n ws0 (L7 A n c (rs d).length (fl d)) u∧F u) (fun w1 hw h=>by have t:=hc w1 (K.re hw h.1.s) h.1.br;rw[hq]at t;exact t) own (fun _ wa u e1 e2 h hG=>⟨h.1.left K (fun b hb=> .inr (.inl (by simpa using hb))) (Nat.le_of_eq e1) (fun b hb _=>e2 b hb) hG,hF wa u e1 e2 h.2⟩) hf hc2 (fun _=>K0.run Zk (stop:=st) 1000 _ (hk d hq))
theorem lnq_keep{wa u:World}{S':TS}{x:YL×(Nat→Prop)}{b:Nat}(hb:b≠gt)(hy:b∉bl y.1)(hR:¬R b)(hx:¬x.2 b)(e1:wa.heap.size=u.heap.size)(e2:∀k,k∉[b]→wa.heap[k]? =u.heap[k]?)(h:T0 W gt y L S' R x wa):T0 W gt y L S' R x u:=
 ⟨h.bt.to (e2 gt (by simpa using hb.symm)).symm,h.row.left e2 fun k hk hm=>by
  obtain rfl:k=b:=by simpa using hm
  exact(h.bl k hk).elim hy hR,h.eq,h.hd.left e1 e2 fun k hk hm=>by
  obtain rfl:k=b:=by simpa using hm
  exact hx hk,h.bl,h.ap⟩
def R1(w:World)(gr:Nat)(R:Nat→Prop)(b:Nat):Prop:=(w.heap.size≤b∧R b)∧b≠gr
theorem H5{wa u:World}{S':TS}{x:Gh YL (R1 w gr R)}(K:KE W w gt gr y A n c ws0)(e1:wa.heap.size=u.heap.size)(e2:∀k,k∉[gr]→wa.heap[k]? =u.heap[k]?)(h:T0 W gt y L S' (R1 w gr R) x.1 wa):T0 W gt y L S' (R1 w gr R) x.1 u:=
 lnq_keep (by have:=K.gl;have:=K.lr;omega) (fun hb=>by have:=(K.ny gr hb).2;have:=K.lr;omega) (fun hb=>hb.2 rfl) (fun hb=>(x.2 _ hb).2 rfl) e1 e2 h
theorem Fm{wa u:World}{S' S2:TS}{x:Gh YL (R1 w gr R)}(K:KE W w gt gr y A n c ws0)(hn:S2.nds=S'.nds)(e1:wa.heap.size=u.heap.size)(e2:∀k,k∉[gt]→wa.heap[k]? =u.heap[k]?)(h:T0 W gt y L S' (R1 w gr R) x.1 wa)(hb:K5 u gt (Em S2 x.1.1.1 x.1.1.2.length)):T0 W gt y L S2 (R1 w gr R) x.1 u:=
 ⟨hb,h.row.left e2 fun k hk hm=>by
  obtain rfl:k=gt:=by simpa using hm
  exact(h.bl k hk).elim (fun k=>(K.ny _ k).1 rfl) fun k=>by have:=k.1.1;have:=K.gl;omega,by rw[hn];exact h.eq,h.hd.left e1 e2 fun k hk hm=>by
  obtain rfl:k=gt:=by simpa using hm
  have:=(x.2 _ hk).1.1;have:=K.gl;omega,h.bl,h.ap⟩
theorem lnq_post{w1:World}{S':TS}{x:Gh YL (R1 w gr R)}(K:KE W w gt gr y A n c ws0)(hw:Below W.heap.size W w1)(h1:Tk W w gt gr y A n ws0 rc w1)(h:T0 W gt y L S' (R1 w gr R) x.1 w1):Nm w (gt::bl y.1) (fun _:Gh YL R=> .tuple #[]) (fun x u=>T0 W gt y L S' R x.1 u) (.returned (.tuple #[])) w1:=
 ⟨⟨x.1,fun b hb=>(x.2 b hb).1.2⟩,rfl,⟨hw.os.trans K.hW.os.symm,hw.tape.trans K.hW.tape.symm,hw.output.trans K.hW.output.symm,h1.sz,fun k hk hkl=>by
  simp only[List.mem_cons,not_or]at hkl
  rcases Nat.lt_or_ge k W.heap.size with h4|h4
  ·rw[hw.block k h4,K.hW.block k h4]
  ·exact h1.fr k h4 hk hkl.1 hkl.2⟩,fun w'' k1 k2=>⟨h.bt.to (k2 gt (.inl Zs)),h.row.same fun b hb=>k2 b ((h.bl b hb).imp (fun k=>by simp[k]) fun k=>⟨k.1.1,(h.row.lt b hb).2⟩),h.eq,h.hd.to k1 fun b hb=>k2 b (.inr ⟨(x.2 b hb).1.1,h.hd.lt b hb⟩),fun b hb=>(h.bl b hb).imp id fun k=>k.1.2,h.ap⟩⟩
theorem rdX_{D2 X2:Type}{fn:Func}{o2:Option D2}{val2:D2→X2→Value}{G2:D2→X2→World→Prop}{q:Option (TS×WS×Bool)}{e:FuncId}{args:Array Value}{c0:Nn}(st:Nat)(K:KE W w gt gr y A n c ws0){x0:Gh YL (R1 w gr R)}(hx0:x0.1.1.1=y)
 (hc:∀w1,Below W.heap.size W w1→Tk W w gt gr y A n ws0 (L7 A n c rest.length f) w1→T0 W gt y L S (R1 w gr R) x0.1 w1→Calls Tryz.prog e args w1 (Vv w1 (gt::gr::bl y.1) Qn (Qw gt S.ln) q (fun _ (_:Gh YL (R1 w gr R))=> .tuple #[]) (fun d x u=>K5 u gr (L7 A n c d.2.1.length d.2.2)∧T0 W gt y L d.1 (R1 w gr R) x.1 u)))
 (hn:q=none→o2=none)
 (hk:∀d (x:Gh YL (R1 w gr R)),q=some d→K0 Tryz.prog [] W (bodyPost Tryz.prog fn (Vv w (gt::bl y.1) Qn (Qw gt S.ln) o2 val2 G2)) (fun u=>Tk W w gt gr y A n ws0 (L7 A n c d.2.1.length d.2.2) u∧T0 W gt y L d.1 (R1 w gr R) x.1 u) (Lw Tryz.prog st 1000 (Le (.v (.tuple #[])) c0)))
 (hf:Qj c0=true:=by kernel_rfl) (hc2:Lk Tryz.prog c0=some (e,args):=by kernel_rfl):K0 Tryz.prog [] W (bodyPost Tryz.prog fn (Vv w (gt::bl y.1) Qn (Qw gt S.ln) o2 val2 G2)) (fun u=>Tk W w gt gr y A n ws0 (L7 A n c rest.length f) u∧T0 W gt y L S (R1 w gr R) x0.1 u) c0:=by
 have own:Yx W (gt::gr::bl y.1) (fun u=>Tk W w gt gr y A n ws0 (L7 A n c rest.length f) u∧T0 W gt y L S (R1 w gr R) x0.1 u):=fun u h b hb=>by
  simp only[List.mem_cons]at hb
  rcases hb with rfl|rfl|hb
  ·exact⟨K.lt,h.2.bt.own⟩
  ·exact⟨Nat.le_trans K.hW.size K.lr,h.1.br.own⟩
  ·exact⟨(h.2.row.lt b (by rw[hx0];exact hb)).1,(h.2.row.blk b (by rw[hx0];exact hb)).2⟩
 have hin:∀b∈gt::gr::bl y.1,b=gt∨b=gr∨b∈bl y.1:=fun b hb=>by simpa using hb
 cases hq:q with
 |none=>
  exact K0.mutxG (L:=gt::gr::bl y.1) (G:=Qw gt S.ln) (Φ':=Kp W w gt y S.ln) (fun w1 hw h=>by have t:=hc w1 hw h.1 h.2;rw[hq]at t;exact t) own (fun wa u e1 e2 h hG=>⟨by rw[←e1];exact h.1.sz,fun b k1 k2 k3 k4=>(e2 b (fun hb=>(hin b hb).elim k3 fun k=>k.elim (fun e=>by have:=K.lr;omega) k4)).symm.trans (h.1.fr b k1 k2 k3 k4),hG⟩) hf hc2 <| K0.pan fun w1 hw h=>by rw[hn hq];exact Tk.pan K.hW hw h.sz h.fr h.ln
 |some d=>exact K0.mut (L:=gt::gr::bl y.1) (Φ':=fun(x:Gh YL (R1 w gr R)) u=>Tk W w gt gr y A n ws0 (L7 A n c d.2.1.length d.2.2) u∧T0 W gt y L d.1 (R1 w gr R) x.1 u) (fun w1 hw h=>by have t:=hc w1 hw h.1 h.2;rw[hq]at t;exact t) own (fun x wa u e1 e2 h (hG:K5 u gr (L7 A n c d.2.1.length d.2.2)∧T0 W gt y L d.1 (R1 w gr R) x.1 u)=>⟨h.1.left K hin (Nat.le_of_eq e1) (fun b hb _=>e2 b hb) hG.1,hG.2⟩) hf hc2 (fun x=>K0.run Zk (stop:=st) 1000 _ (hk d x hq))
theorem begP_ln{k:Int}{d:TS×WS×Bool}(h:begP S k f rest=some d):d.1.ln=S.ln:=by
 unfold begP at h
 split at h
 ·obtain⟨_,_,rfl⟩:=Option.map_eq_some_iff.1 h;rfl
 ·cases h
theorem rdPart_ln{N:Nd}{k:List UInt8}{d:TS×WS×Bool}(h:Qh S N k rest=some d):d.1.ln=S.ln:=by
 unfold Qh at h
 split at h
 ·split at h
  ·obtain⟨_,_,rfl⟩:=Option.map_eq_some_iff.1 h;rfl
  ·cases h
 split at h
 ·split at h
  ·obtain⟨_,_,h⟩:=Option.bind_eq_some_iff.1 h
   obtain⟨_,_,rfl⟩:=Option.map_eq_some_iff.1 h;rfl
  ·cases h
 split at h
 ·split at h
  ·obtain⟨_,_,rfl⟩:=Option.map_eq_some_iff.1 h;rfl
  ·cases h
 split at h
 ·split at h
  ·obtain⟨_,_,h⟩:=Option.bind_eq_some_iff.1 h
   obtain⟨_,_,rfl⟩:=Option.map_eq_some_iff.1 h;rfl
  ·cases h
 ·cases h
theorem rdLn_ln{k:List UInt8}{d:TS×WS×Bool}(h:Xs S k rest=some d):d.1.ln=S.ln:=by
 unfold Xs at h
 split at h
 ·split at h
  ·obtain⟨_,_,h⟩:=Option.bind_eq_some_iff.1 h
   obtain⟨_,_,h⟩:=Option.bind_eq_some_iff.1 h
   obtain⟨_,_,rfl⟩:=Option.map_eq_some_iff.1 h;rfl
  ·cases h
 split at h
 ·exact begP_ln (f:=false) h
 split at h
 ·cases h
 ·exact rdPart_ln h
theorem part_nil{k:List UInt8}(hW:Below W.heap.size W w)(lt:W.heap.size≤gt)(ht:K5 w gt (Em S y 0)):Calls Tryz.prog 81 #[Zq gt 0,Zq gr 0,K4 k] w (PanG w (gt::gr::bl y.1) Qn (Qw gt S.ln)):=by
 refine K0.enterW Tryz.func81 rfl hW (K0.impC (Φ':=fun u=>(w.heap.size≤u.heap.size∧∀b,W.heap.size≤b→b<w.heap.size→u.heap[b]? =w.heap[b]?)∧K5 u gt (Em S y 0)) (fun u h=>⟨h,ht.stay lt h.2⟩) ?_)
 refine ZR <| ZA (L5 24 ⟨gt,6,none⟩) (.slice y.1 0 y.2) (fun w1 hw h=>K8 Zk (by rw[h.2.cell];rfl)) <| ZI true <| K0.throw (Instr.panic Ke >>= fun v=>pure (.value v)) Ke Zk (fun w1 hw h=>by simp[Instr.panic,Ke,Go.goPanic]) Zk ?_
 exact K0.pan fun w1 hw h=>⟨rfl,⟨hw.os.trans hW.os.symm,hw.tape.trans hW.tape.symm,hw.output.trans hW.output.symm,h.1.1,fun k hk _=>by
  rcases Nat.lt_or_ge k W.heap.size with h4|h4
  ·rw[hw.block k h4,hW.block k h4]
  ·exact h.1.2 k h4 hk⟩,fun w'' k1 k2=>Z2 (y:=y) (m:=0) (h.2.to (k2 gt (.inl Zs)))⟩
theorem suf_full(ws:WS):Ph ws ws.length ws:=⟨by rw[Nat.sub_self];rfl,Nat.le_refl _⟩
def tkL:List Nat:=[30,31,32,33,34,35,36,37,38,39,40,41,42,43,44,45,46,47,48,49,50,51,52,53,54,55,56,57,58,59,60,61,62,63,64,65,66,67,68]
noncomputable def noK(c:Nn):Nn:=Lw Tryz.prog 0 1000 (J2 false (Lw Tryz.prog 1000 1000 (Le (.v Zf) c)))
noncomputable def tkEnd(c:Nn):Nn:=Lw Tryz.prog 0 1000 (Le (.v (.tuple #[])) (Lw Tryz.prog 1000 1000 (J2 false (Lw Tryz.prog 1000 1000 (Le (.v Zf) (noK (noK (noK c))))))))
theorem part_any{k:List UInt8}(hM:ML W)(hmm:L.length<1000000)(hE:L.map (·.1)=S.nds)(hO:K6 w W.heap.size 52 47 y.1 L.length y.2 (Xb L))(hA:∀b∈bl y.1,b≠gt∧b≠gr)(hQ:∀b,w.heap.size≤b→R b)(T:TE W w gt gr (bl y.1) A n c ws0)(hs:Ph ws0 n rest)(ht:K5 w gt (Em S y L.length))(hr:K5 w gr (L7 A n c rest.length false)):
 Calls Tryz.prog 81 #[Zq gt 0,Zq gr 0,K4 k] w
 (Vv w (gt::gr::bl y.1) Qn (Qw gt S.ln) (match S.nds.getLast? with|none=>none|some N=>Qh S N k rest) (fun _ (_:Gh YL R)=> .tuple #[]) (fun d x u=>K5 u gr (L7 A n c d.2.1.length d.2.2)∧T0 W gt y L d.1 R x.1 u)):=by
 rcases List.eq_nil_or_concat L with h|⟨L0,⟨N,q⟩,h⟩
 ·subst h
  rw[←hE]
  exact part_nil T.hW T.lt ht
 ·subst h
  rw[List.concat_eq_append]at*
  have hE2:S.nds=L0.map (·.1)++ [N]:=by rw[←hE,List.map_append];rfl
  have t:=part_t (R:=R) (k:=k) (q:=q) hM (by simp at hmm;omega) hE2 (by rw[List.length_append,Ea]at hO;exact hO) hA hQ T hs (by rw[List.length_append]at ht;exact ht) hr
  rw[hE2,List.getLast?_concat]
  exact t
theorem take_t{l:List UInt8}(hM:ML W)(hl:l.length≤65536)(hW:Below W.heap.size W w)(lt:W.heap.size≤gt)(hm:L.length<1000000)(ht:K5 w gt (Em S y L.length))(hO:K6 w W.heap.size 52 47 y.1 L.length y.2 (Xb L))(hE:L.map (·.1)=S.nds)(hA:∀b∈bl y.1,b≠gt)(hQ:∀b,w.heap.size≤b→R b):
 Calls Tryz.prog 46 #[Zq gt 0,K4 l] w (Vv w (gt::bl y.1) Qn (Qw gt S.ln) (P8 S l) (fun _ (_:Gh YL R)=> .tuple #[]) (fun S' x u=>T0 W gt y L S' R x.1 u)):=by
 have hgt:=ht.lt
 have hny:∀b∈bl y.1,b≠gt∧b<w.heap.size:=fun b hb=>⟨hA b hb,(hO.lt b hb).2⟩
 obtain⟨o,ho⟩:∃o,o=P8 S l:=⟨_,rfl⟩
 rw[←ho]
 unfold P8 at ho
 refine K0.enterW Tryz.func46 rfl hW <| ZR ?_
 have bad:o=none→∀w1,Below W.heap.size W w1→(w.heap.size≤w1.heap.size∧∀b,W.heap.size≤b→b<w.heap.size→w1.heap[b]? =w.heap[b]?)→Vv w (gt::bl y.1) Qn (Qw gt S.ln) o (fun _ (_:Gh YL R)=> .tuple #[]) (fun S' x u=>T0 W gt y L S' R x.1 u) (.panicked Qn) w1:=fun e w1 hw h=>by rw[e];exact Tk.pan hW hw h.1 (fun b h1 h2 _ _=>h.2 b h1 h2) (Z2 (ht.stay lt h.2))
 cases hB:Vm (L9 l)with
 |false=>
  rw[hB,if_neg Zd]at ho
  exact ZC (fun w1 hw h=>sf_n (hM.below hw) hB Zo) fun _=>ZI true <| K0.throw (Instr.panic Ke >>= fun v=>pure (.value v)) Ke Zk (fun w1 hw h=>by simp[Instr.panic,Ke,Go.goPanic]) Zk <| K0.pan fun w1 hw h=>bad ho w1 hw h.1
 |true=>
 rw[hB,if_pos rfl]at ho
 cases he:Lx (L9 l)with
 |nil=>
  rw[he]at ho
  exact K0.callv (val:=fun y:Option Addr×Nat=> .tuple #[.slice y.1 0 y.2,Zi 0,Zi 0]) (G:=fun y u=>L3 u y.1 0 []) (fun w1 hw h=>by have t:=sf_s (l:=l) (hM.below hw) hB Zo;rw[he]at t;exact t) Zk fun _=>ZR <| ZI true <| K0.throw (Instr.panic Ke >>= fun v=>pure (.value v)) Ke Zk (fun w1 hw h=>by simp[Instr.panic,Ke,Go.goPanic]) Zk <| K0.pan fun w1 hw h=>bad ho w1 hw h.1
 |cons k ws=>
 rw[he]at ho
 have ho:o=(Xs S k ws).bind endL:=ho
 have hwl:=Jy (l:=l)
 have hwm:=Jx hB
 rw[he]at hwl hwm
 obtain⟨n0,hn0⟩:∃n0,n0=(k::ws).length:=⟨_,rfl⟩
 have hn1:n0=ws.length+1:=hn0
 refine K0.callv (X:=(Option Addr×Nat)×Nat) (val:=fun q=> .tuple #[.slice q.1.1 n0 q.1.2,Zi 0,Zi 0]) (G:=fun q u=>(L3 u q.1.1 n0 (k::ws)∧n0≤q.1.2)∧∀b∈bl q.1.1,w.heap.size≤b) (fun w1 hw h=>by have t:=sf_f (hM.below hw) hB hl he Zs h.1;rw[←hn0]at t;exact t) Zk (fun q=> ?_)
 obtain⟨⟨A,cap⟩,jj⟩:=q
 refine ZR <| K0.condr (((n0:Int)==0)) false Zk Zp <| ZS 2 <| K0.make (boxS 118 (.agg #[.slice A n0 cap,.bool false])) (Ud) (fun g u=>K5 u g [.slice A n0 cap,.bool false]∧w.heap.size≤g∧g<u.heap.size) Zk (fun w1 hw h=>Fi (v:= .agg #[.slice A n0 cap,.bool false]) h.1.1) fun gr=>ZS 2 <| K0.pure_ (p:=w.heap.size≤gr∧n0≤cap∧∀b∈bl A,w.heap.size≤b∧b≠gr) (fun u hu h=>⟨h.2.2.1,h.1.2.1.2,fun b hb=>⟨h.1.2.2 b hb,strAt_ne h.2.1 rbx2_ns h.1.2.1.1 Zs b hb⟩⟩) Zk (fun hp=> ?_)
 obtain⟨hgr,hcap,hAb⟩:=hp
 have K:KE W w gt gr y A n0 cap (k::ws):=⟨hW,lt,hgt,hgr,fun b hb=>⟨by have:=(hAb b hb).1;omega,(hAb b hb).2,fun hy=>by have:=(hny b hy).2;have:=(hAb b hb).1;omega⟩,hny,hcap,by omega,fun z hz=>Nat.le_trans (hwm z hz) hl⟩
 have hs:Ph (k::ws) n0 (k::ws):=by rw[hn0];exact suf_full _
 have hyr:∀b∈bl y.1,b≠gt∧b≠gr:=fun b hb=>⟨(hny b hb).1,by have:=(hny b hb).2;omega⟩
 obtain⟨x0,hx0⟩:∃x0:Gh YL (R1 w gr R),x0=⟨((y,L),fun _=>False),fun b hb=>hb.elim⟩:=⟨_,rfl⟩
 refine K0.impM (Φ':=fun u=>Tk W w gt gr y A n0 (k::ws) (L7 A n0 cap (k::ws).length false) u∧T0 W gt y L S (R1 w gr R) x0.1 u) (fun u h=>⟨⟨h.1.1.1,fun b h1 h2 _ _=>h.1.1.2 b h1 h2,by rw[←hn0,rbx_full];exact h.2.1,h.1.2.1.1⟩,by rw[hx0];exact⟨ht.stay lt h.1.1.2,hO.same fun b hb=>h.1.1.2 b (hO.lt b hb).1 (hO.lt b hb).2,hE,Lj.triv fun v h=>h,fun b hb=> .inl hb,fun b hb=>hb.elim⟩⟩) Zk <| ZR <| rdK_ 0 (q:=some (k,ws)) (rest:=k::ws) (vq:=fun d=>K4 d.1) (rs:=fun d=>d.2) (fl:=fun _=>false) K (fun w1 k1 k2=>next_t k1 hs k2) (fun wa u e1 e2 h=>H5 K e1 e2 h) (fun u h=>Z2 h.bt) (fun e=>by cases e) (fun d e=> ?_)
 obtain rfl:d=(k,ws):=by injection e with e;exact e.symm
 have hs1:=hs.tail
 have hx1:x0.1.1=(y,L):=by rw[hx0]
 have own:∀{rc:List Value} {S':TS},Yx W [gt] (fun u=>Tk W w gt gr y A n0 (k::ws) rc u∧T0 W gt y L S' (R1 w gr R) x0.1 u):=fun u h b hb=>by
  obtain rfl:b=gt:=by simpa using hb
  exact⟨lt,h.2.bt.own⟩
 have hkt:∀{rc:List Value} (wa u:World),wa.heap.size=u.heap.size→(∀b,b∉[gt]→wa.heap[b]? =u.heap[b]?)→Tk W w gt gr y A n0 (k::ws) rc wa→Tk W w gt gr y A n0 (k::ws) rc u:=fun wa u e1 e2 h=>h.left K (fun b hb=> .inl (by simpa using hb)) (Nat.le_of_eq e1) (fun b hb _=>e2 b hb) (h.br.to (e2 gr Zp).symm)
 have hbt:∀{S':TS} {u:World},T0 W gt y L S' (R1 w gr R) x0.1 u→K5 u gt (Em S' y L.length):=fun h=>by have:=h.bt;rw[hx1]at this;exact this
 refine K0.run Zk (stop:=1000) 1 _ <| ZS 0 <| K0.meet3 (ι:=(Nat→AV)×{p:(TS×WS×Bool)×Gh YL (R1 w gr R) // Xs S k ws=some p.1}) (fun i c=>Q9 tkL i.1 (tkEnd c)) (fun i u=>Tk W w gt gr y A n0 (k::ws) (L7 A n0 cap i.2.1.1.2.1.length i.2.1.1.2.2) u∧T0 W gt y L i.2.1.1.1 (R1 w gr R) i.2.1.2.1 u) (fun kk=> ?_) (fun i=> ?_)
 ·by_cases c1:k=V7
  ·subst c1
   have hr:Xs S V7 ws=if S.ln=0 then(Vq false ws).bind fun w=>(Vq w.2.2 w.2.1).bind fun h=>(rdC h.2.2 h.2.1).map fun c=>({S with w:=w.1,h:=h.1,bg:=c.1,wh:=0},c.2.1,c.2.2)else none:=by unfold Xs;rw[if_pos rfl]
   rw[hr]at ho
   refine ZR <| ZI true <| K0.ask (L5 3 ⟨gt,8,none⟩) (Zi S.ln) Zk (fun w1 hw h=>K8 Zk (by rw[(hbt h.2).cell];rfl)) <| ZS 6 ?_
   by_cases h0:S.ln=0
   rotate_left
   ·rw[if_neg h0]at ho
    exact K0.slot 41 (.bool ((S.ln:Int)==0)) Zf Zk (by rw[beq_eq_false_iff_ne.2 Zo]) <| K0.mutx (L:=[]) (Φ':=Kp W w gt y S.ln) (fun w1 hw h=>B1 (gt:=gt) (z:=0) hw) (fun u h b hb=>by cases hb) (fun wa u e1 e2 h _=>⟨by rw[←e1];exact h.1.sz,fun b k1 k2 k3 k4=>(e2 b Zs).symm.trans (h.1.fr b k1 k2 k3 k4),Z2 ((hbt h.2).to (e2 gt Zs).symm)⟩) Zk Zk <| K0.pan fun w1 hw h=>by rw[ho];exact Tk.pan hW hw h.sz h.fr h.ln
   rw[if_pos h0]at ho hr
   refine K0.slot 41 (.bool ((S.ln:Int)==0)) Zt Zk (by rw[beq_iff_eq.2 Zo]) <| K0.mut (L:=[gt]) (Φ':=fun(_:Unit) u=>Tk W w gt gr y A n0 (V7::ws) (L7 A n0 cap ws.length false) u∧T0 W gt y L {S with wh:=0} (R1 w gr R) x0.1 u) (fun w1 hw h=>We (z:=0) hw lt (hbt h.2) (by show 7<10;decide)) own (fun _ wa u e1 e2 h hG=>⟨hkt wa u e1 e2 h.1,Fm (S2:={S with wh:=0}) K (by rfl) e1 e2 h.2 (by rw[hx1];exact hG)⟩) Zk Zk fun _=>ZR <| rdK_ 1000 K (fun w1 k1 k2=>Mc k1 hs1 k2) (fun wa u e1 e2 h=>H5 K e1 e2 h) (fun u h=>by have t:=Z2 (hbt h);exact t) (fun e=>by rw[ho,e];rfl) (fun d e1=> ?_)
   rw[e1,Option.bind_some]at ho hr
   obtain⟨x1,r1,f1⟩:=d
   have hs2:=M2 hs1 e1
   refine K0.mutSt (L:=[gt]) (G:=fun u=>K5 u gt (Em {S with w:=x1,wh:=0} y L.length)) (Φ':=fun u=>Tk W w gt gr y A n0 (V7::ws) (L7 A n0 cap r1.length f1) u∧T0 W gt y L {S with w:=x1,wh:=0} (R1 w gr R) x0.1 u) (Tc 3 ⟨gt,0,none⟩ (Zi x1)) (fun w1 hw h=>(hbt h.2).store1 (j:=0) Zk rfl (by show 0<10;decide) rfl) own (fun wa u e1 e2 h hG=>⟨hkt wa u e1 e2 h.1,Fm (S2:={S with w:=x1,wh:=0}) K (by rfl) e1 e2 h.2 (by rw[hx1];exact hG)⟩) Zk Zk <| ZR <| rdK_ 1000 K (fun w1 k1 k2=>Mc k1 hs2 k2) (fun wa u e1 e2 h=>H5 K e1 e2 h) (fun u h=>by have t:=Z2 (hbt h);exact t) (fun e=>by rw[ho];simp only;rw[e];rfl) (fun d e2=> ?_)
   simp only at ho hr
   rw[e2,Option.bind_some]at ho hr
   obtain⟨x2,r2,f2⟩:=d
   have hs3:=M2 hs2 e2
   refine K0.mutSt (L:=[gt]) (G:=fun u=>K5 u gt (Em {S with w:=x1,h:=x2,wh:=0} y L.length)) (Φ':=fun u=>Tk W w gt gr y A n0 (V7::ws) (L7 A n0 cap r2.length f2) u∧T0 W gt y L {S with w:=x1,h:=x2,wh:=0} (R1 w gr R) x0.1 u) (Tc 3 ⟨gt,1,none⟩ (Zi x2)) (fun w1 hw h=>(hbt h.2).store1 (j:=1) Zk rfl (by show 1<10;decide) rfl) own (fun wa u e1 e2 h hG=>⟨hkt wa u e1 e2 h.1,Fm (S2:={S with w:=x1,h:=x2,wh:=0}) K (by rfl) e1 e2 h.2 (by rw[hx1];exact hG)⟩) Zk Zk <| ZR <| rdK_ 1000 K (fun w1 k1 k2=>Yq k1 hs3 k2) (fun wa u e1 e2 h=>H5 K e1 e2 h) (fun u h=>by have t:=Z2 (hbt h);exact t) (fun e=>by rw[ho];simp only;rw[e];rfl) (fun d e3=> ?_)
   simp only at ho hr
   rw[e3,Option.map_some]at hr
   obtain⟨x3,r3,f3⟩:=d
   exact K0.mutSt (L:=[gt]) (G:=fun u=>K5 u gt (Em {S with w:=x1,h:=x2,bg:=x3,wh:=0} y L.length)) (Φ':=fun u=>Tk W w gt gr y A n0 (V7::ws) (L7 A n0 cap r3.length f3) u∧T0 W gt y L {S with w:=x1,h:=x2,bg:=x3,wh:=0} (R1 w gr R) x0.1 u) (Tc 23 ⟨gt,2,none⟩ (Rf x3)) (fun w1 hw h=>(hbt h.2).storeN (j:=2) Zk (by show 2+4≤10;decide) (List.all_eq_true.1 (show((Rf x3).cells.toList.all fun u=>u.oneCell')=true from by kernel_rfl))) own (fun wa u e1 e2 h hG=>⟨hkt wa u e1 e2 h.1,Fm (S2:={S with w:=x1,h:=x2,bg:=x3,wh:=0}) K (by rfl) e1 e2 h.2 (by rw[hx1];exact hG)⟩) Zk Zk <| ZS 0 <| K0.blur tkL fun z=>K0.eq (kk (z,⟨(({S with w:=x1,h:=x2,bg:=x3,wh:=0},r3,f3),x0),hr⟩)) Zk
  refine ZA (Qf .eql 9 (.tmp 29) (.const (.string ⟨#[115,99,101,110,101]⟩)) (K4 k) (K4 V7)) Zf (fun w1 hw h=>Ks (by simpa using c1)) <| K0.cond false Zk <| ZS 0 ?_
  by_cases c2:Ue k=0
  ·have c3:k≠Ze∧k≠Z6∧k≠Bs:=by
    unfold Ue at c2
    refine⟨fun e=> ?_,fun e=> ?_,fun e=> ?_⟩<;>subst e<;>exact absurd c2 Zd
   have hr:Xs S k ws=match S.nds.getLast? with|none=>none|some N=>Qh S N k ws:=by unfold Xs;rw[if_neg c1,if_neg (fun h=>h c2)];rfl
   exact ZA (Qf .eql 9 (.tmp 29) (.const (.string ⟨#[103,114,111,117,112]⟩)) (K4 k) (K4 Ze)) Zf (fun w1 hw h=>Ks (by simpa using c3.1)) <| K0.cond false Zk <| ZS 0 <| ZA (Qf .eql 9 (.tmp 29) (.const (.string ⟨#[115,104,97,112,101]⟩)) (K4 k) (K4 Z6)) Zf (fun w1 hw h=>Ks (by simpa using c3.2.1)) <| K0.cond false Zk <| ZS 0 <| ZA (Qf .eql 9 (.tmp 29) (.const (.string ⟨#[105,109,97,103,101]⟩)) (K4 k) (K4 Bs)) Zf (fun w1 hw h=>Ks (by simpa using c3.2.2)) <| ZI false <| rdX_ 0 K (by rw[hx1]) (fun w1 hw h1 h2=>part_any hM hm hE (by have:=h2.row;rw[hx1]at this;exact this) hyr (fun b hb=>⟨⟨Nat.le_trans h1.sz hb,hQ b (Nat.le_trans h1.sz hb)⟩,by have:=h1.br.lt;omega⟩) (K.te hw h1.s) hs1 (hbt h2) h1.br) (fun e=>by rw[ho,hr,e];rfl) fun d x e=>K0.blur tkL fun z=>K0.eq (kk (z,⟨(d,x),hr.trans e⟩)) Zk
  ·have hr:Xs S k ws=begP S (Ue k) false ws:=by unfold Xs;rw[if_neg c1,if_pos c2];rfl
   refine K0.meet (fun(x:Nat→AV) c=>Q9 [61,62,63,64] x (Lw Tryz.prog 0 1000 (J2 true (Lw Tryz.prog 1000 1000 (J2 true (Lw Tryz.prog 1000 1000 (Le (.v Zt) c))))))) (fun k2=> ?_) (fun xj=> ?_)
   ·by_cases d1:k=Ze
    ·exact ZA (Qf .eql 9 (.tmp 29) (.const (.string ⟨#[103,114,111,117,112]⟩)) (K4 k) (K4 Ze)) Zt (fun w1 hw h=>Ks (by simpa using d1)) <| ZI true <| K0.cond true Zk <| ZS 0 <| K0.blur [61,62,63,64] fun z=>K0.eq (k2 z) Zk
    refine ZA (Qf .eql 9 (.tmp 29) (.const (.string ⟨#[103,114,111,117,112]⟩)) (K4 k) (K4 Ze)) Zf (fun w1 hw h=>Ks (by simpa using d1)) <| K0.cond false Zk <| ZS 0 ?_
    by_cases d2:k=Z6
    ·exact ZA (Qf .eql 9 (.tmp 29) (.const (.string ⟨#[115,104,97,112,101]⟩)) (K4 k) (K4 Z6)) Zt (fun w1 hw h=>Ks (by simpa using d2)) <| ZI true <| K0.cond true Zk <| ZS 0 <| K0.blur [61,62,63,64] fun z=>K0.eq (k2 z) Zk
    refine ZA (Qf .eql 9 (.tmp 29) (.const (.string ⟨#[115,104,97,112,101]⟩)) (K4 k) (K4 Z6)) Zf (fun w1 hw h=>Ks (by simpa using d2)) <| K0.cond false Zk <| ZS 0 ?_
    have d3:k=Bs:=by
     unfold Ue at c2
     rw[if_neg d1,if_neg d2]at c2
     exact Classical.byContradiction fun h=>c2 (if_neg h)
    exact ZA (Qf .eql 9 (.tmp 29) (.const (.string ⟨#[105,109,97,103,101]⟩)) (K4 k) (K4 Bs)) Zt (fun w1 hw h=>Ks (by simpa using d3)) <| K0.cond true Zk <| ZS 0 <| K0.blur [61,62,63,64] fun z=>K0.eq (k2 z) Zk
   exact ZR <| rdX_ 0 K (by rw[hx1]) (fun w1 hw h1 h2=>begin_t c2 hM hm hE (by have:=h2.row;rw[hx1]at this;exact this) hyr (fun b hb=>⟨⟨Nat.le_trans h1.sz hb,hQ b (Nat.le_trans h1.sz hb)⟩,by have:=h1.br.lt;omega⟩) (K.te hw h1.s) hs1 (hbt h2) h1.br) (fun e=>by rw[ho,hr,e];rfl) fun d x e=>K0.blur tkL fun z=>K0.eq (kk (z,⟨(d,x),hr.trans e⟩)) Zk
 obtain⟨xv,⟨⟨⟨S',r',f'⟩,x⟩,hd⟩⟩:=i
 have hln:=rdLn_ln hd
 rw[hd,Option.bind_some]at ho
 refine ZR ?_
 cases r' with
 | cons s r=>
  have hN:o=none:=by rw[ho];rfl
  refine K0.mutx (L:=[gr]) (Φ':=Kp W w gt y S.ln) (fun w1 hw h=>end_p (m:=r.length) hw (Nat.le_trans hW.size hgr) h.1.br) (fun u h b hb=> ?_) (fun wa u e1 e2 h _=> ?_) Zk Zk ?_
  ·obtain rfl:b=gr:=by simpa using hb
   exact⟨Nat.le_trans hW.size hgr,h.1.br.own⟩
  ·exact⟨by rw[←e1];exact h.1.sz,fun b k1 k2 k3 k4=>(e2 b Zp).symm.trans (h.1.fr b k1 k2 k3 k4),by rw[←hln];exact Z2 (H5 K e1 e2 h.2).bt⟩
  exact K0.pan fun w1 hw h=>by rw[hN];exact Tk.pan hW hw h.sz h.fr h.ln
 | nil=>
  have ho:o=some (if f'=true∧S'.far<0 then{S' with far:=S'.ln}else S'):=by rw[ho];rfl
  refine K0.mut (L:=[gr]) (Φ':=fun(_:Unit) u=>Tk W w gt gr y A n0 (k::ws) (L7 A n0 cap 0 f') u∧T0 W gt y L S' (R1 w gr R) x.1 u) (fun w1 hw h=>end_s hw (Nat.le_trans hW.size hgr) h.1.br) (fun u h b hb=> ?_) (fun _ wa u e1 e2 h hG=>⟨h.1.left K (fun b hb=> .inr (.inl (by simpa using hb))) (Nat.le_of_eq e1) (fun b hb _=>e2 b hb) hG,H5 K e1 e2 h.2⟩) Zk Zk (fun _=> ?_)
  ·obtain rfl:b=gr:=by simpa using hb
   exact⟨Nat.le_trans hW.size hgr,h.1.br.own⟩
  refine ZR <| K0.ask (L5 4 ⟨gr,1,none⟩) (.bool f') Zk (fun w1 hw h=>K8 Zk (by rw[h.1.br.cell];rfl)) <| ZS 5 ?_
  cases f' with
  |false=>
   rw[if_neg (fun h=>by cases h.1)]at ho
   refine ZR <| ZI false <| ZV (.tuple #[]) (fun w1 hw h=>by have k:=h w1 (Nat.le_refl _) fun _ _ _=>rfl;rw[ho];exact lnq_post K hw k.1 k.2)
  | true=>
   refine ZR <| ZA (L5 3 ⟨gt,9,none⟩) (Zi S'.far) (fun w1 hw h=>K8 Zk (by rw[h.2.bt.cell];rfl)) ?_
   by_cases h9:S'.far<0
   ·rw[if_pos ⟨rfl,h9⟩]at ho
    refine ZJ (decide (S'.far<0)) true (decide_eq_true h9) <| ZA (L5 3 ⟨gt,8,none⟩) (Zi S'.ln) (fun w1 hw h=>K8 Zk (by rw[h.2.bt.cell];rfl)) ?_
    refine K0.mutSt (L:=[gt]) (G:=fun u=>K5 u gt (Em {S' with far:=S'.ln} x.1.1.1 x.1.1.2.length)) (Φ':=fun u=>Tk W w gt gr y A n0 (k::ws) (L7 A n0 cap 0 true) u∧T0 W gt y L {S' with far:=S'.ln} (R1 w gr R) x.1 u) (Tc 3 ⟨gt,9,none⟩ (Zi S'.ln)) (fun w1 hw h=>h.2.bt.store1 (j:=9) Zk rfl (by show 9<10;decide) rfl) (fun u h b hb=>by
     obtain rfl:b=gt:=by simpa using hb
     exact⟨lt,h.2.bt.own⟩) (fun wa u e1 e2 h hG=>⟨hkt wa u e1 e2 h.1,Fm (S2:={S' with far:=S'.ln}) K (by rfl) e1 e2 h.2 hG⟩) Zk Zk ?_
    refine ZR <| ZV (.tuple #[]) (fun w1 hw h=>by have k:=h w1 (Nat.le_refl _) fun _ _ _=>rfl;rw[ho];exact lnq_post K hw k.1 k.2)
   ·rw[if_neg (fun h=>h9 h.2)]at ho
    refine ZJ (decide (S'.far<0)) false (decide_eq_false h9) <| ZV (.tuple #[]) (fun w1 hw h=>by have k:=h w1 (Nat.le_refl _) fun _ _ _=>rfl;rw[ho];exact lnq_post K hw k.1 k.2)
end
theorem ends10{a:List UInt8}(ha:a.getLast? =some 10):∃x,a=x++ [10]:=by
 obtain⟨_,e⟩:=List.getLast?_eq_some_iff.1 ha
 exact⟨_,e⟩
theorem lines_end(x:List UInt8):Nq (x++ [10])=Ki 10 x:=by
 unfold Nq
 rw[if_neg Zs,List.dropLast_concat]
section
variable{S S1:TS}{i:Nat}{l:List UInt8}{r l1 l2:List (List UInt8)}
theorem rdAll_cons:Oi S i (l::r)=match P8 {S with ln:=i} l with
 |none=> .inl i
 |some S'=>Oi S' (i+1) r:=rfl
theorem rdTake_un:P8 S l=if Vm (L9 l)=true then(match Lx (L9 l)with
 | []=>none
 |k::ws=>(Xs S k ws).bind endL)else none:=rfl
end
section
variable{s m:List UInt8}
theorem lines_ne{b:List UInt8}(hb:b.getLast? =some 10):∃x y,Nq b=x::y:=by
 obtain⟨x,rfl⟩:=ends10 hb
 rw[lines_end]
 cases hs:Ki 10 x with
 |nil=>exact absurd hs (Z5 10 x)
 |cons h t=>exact⟨h,t,rfl⟩
end
def okA:Nat ⊕ TS→Bool
 | .inl _=>false
 | .inr _=>true
def AllG(W:World)(gt:Nat)(o:Nat ⊕ TS)(R:Nat→Prop)(x:YL×(Nat→Prop))(u:World):Prop:=match o with
 | .inl i=>Qw gt i u
 | .inr S=>T0 W gt (none,0) [] S R x u
structure Ta(W w:World)(gt go:Nat)(A:Option Addr)(n:Nat)(ls:WS)(b:Bool)(u:World):Prop where
 sz:w.heap.size≤u.heap.size
 fr:∀k,W.heap.size≤k→k<w.heap.size→k≠gt→u.heap[k]? =w.heap[k]?
 bo:K5 u go [.bool b]
 s:L3 u A n ls
structure Ka(W w:World)(gt go:Nat)(A:Option Addr):Prop where
 hW:Below W.heap.size W w
 lt:W.heap.size≤gt
 gl:gt<w.heap.size
 lo:w.heap.size≤go
 nA:∀b∈bl A,b<w.heap.size∧b≠gt
section
variable{W w wa u:World}{gt go n c:Nat}{A:Option Addr}{y:Option Addr×Nat}{ls:WS}{L:List (Nd×ND)}{S S2:TS}{R R2:Nat→Prop}{x x2:YL×(Nat→Prop)}{b b2:Bool}
theorem Ta.left{LL:List Nat}(K:Ka W w gt go A)(hL:∀k∈LL,k=gt∨w.heap.size≤k)(e1:wa.heap.size=u.heap.size)(e2:∀k,k∉LL→wa.heap[k]? =u.heap[k]?)(h:Ta W w gt go A n ls b wa)(hb:K5 u go [.bool b2]):Ta W w gt go A n ls b2 u:=
 ⟨by rw[←e1];exact h.sz,fun k h1 h2 h3=>(e2 k fun hm=>(hL k hm).elim h3 fun h=>by omega).symm.trans (h.fr k h1 h2 h3),hb,h.s.left2 e2 fun k hk hm=>by
  have:=K.nA k hk
  exact(hL k hm).elim this.2 fun h=>by omega⟩
theorem lnq_box(hy:gt∉bl x.1.1.1)(hx:¬x.2 gt)(hn:S2.nds=S.nds)(e1:wa.heap.size=u.heap.size)(e2:∀k,k∉[gt]→wa.heap[k]? =u.heap[k]?)(h:T0 W gt y L S R x wa)(hb:K5 u gt (Em S2 x.1.1 x.1.2.length)):T0 W gt y L S2 R x u:=
 ⟨hb,h.row.left e2 fun k hk hm=>by
  obtain rfl:k=gt:=by simpa using hm
  exact hy hk,by rw[hn];exact h.eq,h.hd.left e1 e2 fun k hk hm=>by
  obtain rfl:k=gt:=by simpa using hm
  exact hx hk,h.bl,h.ap⟩
theorem lnq_seq(e1:wa.heap.size=u.heap.size)(e2:∀k,k∉gt::bl x.1.1.1→wa.heap[k]? =u.heap[k]?)(h:T0 W gt y L S R x wa)(hG:T0 W gt x.1.1 x.1.2 S2 R2 x2 u)(hR:∀k,R2 k→R k∧¬x.2 k)(hx:¬x.2 gt):T0 W gt y L S2 R (x2.1,fun k=>x.2 k∨x2.2 k) u:=
 ⟨hG.bt,hG.row,hG.eq,((h.hd.left e1 e2 fun k hk hm=>by
  rcases List.mem_cons.1 hm with rfl|hm
  ·exact hx hk
  ·exact h.ap k hk hm).and hG.hd).imp fun v hv hL=>hv.2 (hv.1 hL),fun k hk=>(hG.bl k hk).elim (h.bl k) fun q=> .inr (hR k q).1,fun k hk hm=>hk.elim (fun q=>(hG.bl k hm).elim (h.ap k q) fun r=>(hR k r).2 q) fun q=>hG.ap k q hm⟩
theorem drop_cons{l:List UInt8}{i:Nat}(h:ls[i]? =some l):ls.drop i=l::ls.drop (i+1):=by
 obtain⟨h1,h2⟩:=List.getElem?_eq_some_iff.1 h
 rw[List.drop_eq_getElem_cons h1,h2]
theorem Ka.pan{i:Int}(K:Ka W w gt go A){w1 w':World}(hw:Below W.heap.size W w1)(h1:w.heap.size≤w1.heap.size∧∀k,W.heap.size≤k→k<w.heap.size→k≠gt→w1.heap[k]? =w.heap[k]?)(hl:Qw gt i w1)(hb:Below W.heap.size W w')(hst:Om W w1 go [.bool false] w'){X:Type}(x:X){G:X→World→Prop}(hG:∀u,Qw gt i u→G x u):Nm w [gt] (fun _:X=> .bool false) G (.returned Zf) w':=by
 have h2:=hst.2.1
 refine⟨x,rfl,⟨hb.os.trans K.hW.os.symm,hb.tape.trans K.hW.tape.symm,hb.output.trans K.hW.output.symm,Nat.le_trans h1.1 hst.1,fun k hk hkl=> ?_⟩,fun w'' k1 k2=>hG w'' ?_⟩
 ·rcases Nat.lt_or_ge k W.heap.size with h4|h4
  ·rw[hb.block k h4,K.hW.block k h4]
  ·rw[h2 k h4 (Nat.lt_of_lt_of_le hk h1.1) (by have:=K.lo;omega)]
   exact h1.2 k h4 hk (by simpa using hkl)
 ·obtain⟨cs,q1,q2,q3⟩:=hl
  refine⟨cs,(q1.to (h2 gt K.lt q1.lt (by have:=K.gl;have:=K.lo;omega))).to (k2 gt (.inl Zs)),q2,q3⟩
theorem F3{l:List Nd}{N:Nd}:(B6 l N).length≤l.length+1:=by unfold B6;simp
theorem rdPart_len{N:Nd}{k:List UInt8}{rest:WS}{d:TS×WS×Bool}(h:Qh S N k rest=some d):d.1.nds.length≤S.nds.length+1:=by
 unfold Qh at h
 split at h
 ·split at h
  ·obtain⟨_,_,rfl⟩:=Option.map_eq_some_iff.1 h;exact F3
  ·cases h
 split at h
 ·split at h
  ·obtain⟨_,_,h⟩:=Option.bind_eq_some_iff.1 h
   obtain⟨_,_,rfl⟩:=Option.map_eq_some_iff.1 h;exact F3
  ·cases h
 split at h
 ·split at h
  ·obtain⟨_,_,rfl⟩:=Option.map_eq_some_iff.1 h;exact F3
  ·cases h
 split at h
 ·split at h
  ·obtain⟨_,_,h⟩:=Option.bind_eq_some_iff.1 h
   obtain⟨_,_,rfl⟩:=Option.map_eq_some_iff.1 h;exact F3
  ·cases h
 ·cases h
theorem rdTake_len{l:List UInt8}{S':TS}(h:P8 S l=some S'):S'.nds.length≤S.nds.length+1:=by
 unfold P8 at h
 split at h
 case isFalse=>cases h
 split at h
 ·cases h
 obtain⟨d,h1,h2⟩:=Option.bind_eq_some_iff.1 h
 have h3:d.1.nds.length≤S.nds.length+1:=by
  unfold Xs at h1
  split at h1
  ·split at h1
   ·obtain⟨_,_,h1⟩:=Option.bind_eq_some_iff.1 h1
    obtain⟨_,_,h1⟩:=Option.bind_eq_some_iff.1 h1
    obtain⟨_,_,rfl⟩:=Option.map_eq_some_iff.1 h1
    exact Nat.le_succ _
   ·cases h1
  split at h1
  ·split at h1
   ·obtain⟨_,_,rfl⟩:=Option.map_eq_some_iff.1 h1
    show(S.nds++ [_]).length≤_
    simp
   ·cases h1
  split at h1
  ·cases h1
  ·exact rdPart_len h1
 unfold endL at h2
 split at h2
 ·injection h2 with h2
  subst h2
  split<;>exact h3
 ·cases h2
def Rw(w:World)(go:Nat)(k:Nat):Prop:=w.heap.size≤k∧k≠go
theorem all_t(hM:ML W)(hW:Below W.heap.size W w)(lt:W.heap.size≤gt)(hs:L3 w A n ls)(h0:0<n)(hn:n≤900000)(hlen:∀l∈ls,l.length≤65536)(hA:∀b∈bl A,W.heap.size≤b)(ht:K5 w gt (Em ts0 (none,0) 0))(hQ:∀k,w.heap.size≤k→R k):Calls Tryz.prog 23 #[Zq gt 0,.slice A n c] w
 (Nm w [gt] (fun _:Gh YL R=> .bool (okA (Oi ts0 0 ls))) (fun x u=>AllG W gt (Oi ts0 0 ls) R x.1 u)):=by
 have hgt:=ht.lt
 have hln:=hs.1
 obtain⟨o,ho⟩:∃o,o=Oi ts0 0 ls:=⟨_,rfl⟩
 rw[←ho]
 refine K0.enterD Tryz.func23 rfl hW <| ZS 0 <| K0.make (Aq 4) (Ud) (fun g u=>K5 u g [.bool false]∧w.heap.size≤g∧g<u.heap.size) Zk (fun w1 hw h=>Bn (z:= .bool false) Zk h.1) fun go=>ZR ?_
 refine K0.pure_ (p:=w.heap.size≤go∧∀b∈bl A,b<w.heap.size∧b≠gt) (fun u hu h=>⟨h.2.2.1,fun b hb=>⟨by
  obtain⟨cs,ty,own,e⟩:=hs.blk Zo b hb
  exact(Array.getElem?_eq_some_iff.1 e).1,strAt_ne ht (txC_ns nil_ns) hs Zo b hb⟩⟩) Zk (fun hp=> ?_)
 obtain⟨hgo,hnA⟩:=hp
 have K:Ka W w gt go A:=⟨hW,lt,hgt,hgo,hnA⟩
 obtain⟨x0,hx0⟩:∃x0:Gh YL (Rw w go),x0=⟨(((none,0),[]),fun _=>False),fun b hb=>hb.elim⟩:=⟨_,rfl⟩
 refine K0.impM (Φ':=fun u=>Ta W w gt go A n ls false u∧T0 W gt (none,0) [] ts0 (Rw w go) x0.1 u) (fun u h=>⟨⟨h.1.1,fun b h1 h2 _=>h.1.2 b h1 h2,h.2.1,hs.stay hA h.1.2⟩,by rw[hx0];exact⟨ht.stay lt h.1.2,K6.nil_,rfl,Lj.triv fun v h=>h,fun b hb=> .inl hb,fun b hb=>hb.elim⟩⟩) Zk ?_
 have hR:∀(x:Gh YL (Rw w go)),¬x.1.2 go∧¬x.1.2 gt:=fun x=>⟨fun h=>(x.2 _ h).2 rfl,fun h=>by have:=(x.2 _ h).1;omega⟩
 have hbl:∀{S:TS} {x:Gh YL (Rw w go)} {u:World},T0 W gt (none,0) [] S (Rw w go) x.1 u→∀k∈bl x.1.1.1.1,Rw w go k:=fun h k hk=>(h.bl k hk).elim (fun q=>by cases q) id
 have hgs:∀{S:TS} {x:Gh YL (Rw w go)} (wa u:World),wa.heap.size=u.heap.size→(∀k,k∉[go]→wa.heap[k]? =u.heap[k]?)→T0 W gt (none,0) [] S (Rw w go) x.1 wa→T0 W gt (none,0) [] S (Rw w go) x.1 u:=fun wa u e1 e2 h=>lnq_keep Zo (fun hb=>by cases hb) (fun q=>q.2 rfl) (hR _).1 e1 e2 h
 have hog:∀{S:TS} {x:Gh YL (Rw w go)} {b:Bool},Yx W [go] (fun u=>Ta W w gt go A n ls b u∧T0 W gt (none,0) [] S (Rw w go) x.1 u):=fun u h b hb=>by
  obtain rfl:b=go:=by simpa using hb
  exact⟨Nat.le_trans hW.size hgo,h.1.bo.own⟩
 have hot:∀{S:TS} {x:Gh YL (Rw w go)} {b:Bool},Yx W [gt] (fun u=>Ta W w gt go A n ls b u∧T0 W gt (none,0) [] S (Rw w go) x.1 u):=fun u h b hb=>by
  obtain rfl:b=gt:=by simpa using hb
  exact⟨lt,h.2.bt.own⟩
 have hset:∀{S S2:TS} {x:Gh YL (Rw w go)} (wa u:World),S2.nds=S.nds→wa.heap.size=u.heap.size→(∀k,k∉[gt]→wa.heap[k]? =u.heap[k]?)→(Ta W w gt go A n ls true wa∧T0 W gt (none,0) [] S (Rw w go) x.1 wa)→K5 u gt (Em S2 x.1.1.1 x.1.1.2.length)→Ta W w gt go A n ls true u∧T0 W gt (none,0) [] S2 (Rw w go) x.1 u:=fun wa u hn e1 e2 h hb=>⟨h.1.left K (fun k hk=> .inl (by simpa using hk)) e1 e2 (h.1.bo.to (e2 go Zp).symm),lnq_box (fun hk=>by have:=(hbl h.2 gt hk).1;omega) (hR _).2 hn e1 e2 h.2 hb⟩
 have hpan:∀{i:Nat} {w1:World},o= .inl i→Below W.heap.size W w1→(w.heap.size≤w1.heap.size∧∀k,W.heap.size≤k→k<w.heap.size→k≠gt→w1.heap[k]? =w.heap[k]?)∧Qw gt i w1∧K5 w1 go [.bool true]→CallsD Tryz.prog 45 #[Zq go 0] (.panicking Qn) w1 fun e u w'=>settle u= .returning∧∃x v,e= .returned x∧(loadVar 4 ⟨go,0,none⟩).run Tryz.prog w'= .ok v w'∧Nm w [gt] (fun _:Gh YL R=> .bool (okA o)) (fun x u=>AllG W gt o R x.1 u) (.returned v) w':=fun hi hw h=>by
  refine(all1_p hw h.2.2 (Nat.le_trans hW.size hgo)).mono fun e u' w' he=> ?_
  obtain⟨rfl,rfl,hb,hst⟩:=he
  refine⟨rfl,_,_,rfl,H4 Zk hst.2.2,?_⟩
  rw[hi]
  exact K.pan hw h.1 h.2.1 hb hst (x:=(⟨(((none,0),[]),fun _=>False),fun b hb=>hb.elim⟩:Gh YL R)) fun u hu=>hu
 refine K0.mutSt (L:=[go]) (G:=fun u=>K5 u go [.bool true]) (Φ':=fun u=>Ta W w gt go A n ls true u∧T0 W gt (none,0) [] ts0 (Rw w go) x0.1 u) (Tc 4 ⟨go,0,none⟩ Zt) (fun w1 hw h=>bool_st h.1.bo) hog (fun wa u e1 e2 h hG=>⟨h.1.left K (fun k hk=> .inr (by simp at hk;omega)) e1 e2 hG,hgs wa u e1 e2 h.2⟩) Zk Zk <| ZR <| K0.defer_ ⟨.fn (.func 45) #[Zq go 0],#[]⟩ Zk Zk <| ZR <| K0.loop (ι:={q:Nat×TS×Gh YL (Rw w go) // q.1≤n∧Oi q.2.1 q.1 (ls.drop q.1)=o∧q.2.1.nds.length≤q.1}) 36 (fun q=>⟨[(0,.v (Zq gt 0)),(1,.v (.slice A n c)),(4,.v (Ud go)),(8,.v (.slice A n c)),(9,.v (Zi n)),(10,.v (Zi q.1.1))],[]⟩) (fun q u=>Ta W w gt go A n ls true u∧T0 W gt (none,0) [] q.1.2.1 (Rw w go) q.1.2.2.1 u) (fun q=>n-q.1.1) (⟨(0,ts0,x0),Nat.zero_le _,ho.symm,Nat.le_refl _⟩) Zk (fun _=>by kernel_rfl) ⟨Zk,Zk,Zk⟩ (fun u h=>h) ?_
 rintro⟨⟨i,S,x⟩,hi,hrd,hxl⟩ gg
 have hi:i≤n:=hi
 have hrd:Oi S i (ls.drop i)=o:=hrd
 have hxl:S.nds.length≤i:=hxl
 by_cases hlt:i<n
 ·obtain⟨l,hl⟩:∃v,ls[i]? =some v:=⟨_,List.getElem?_eq_getElem Zo⟩
  obtain⟨ad,hAd,hc⟩:=hs.2 i l hl
  rw[drop_cons hl,rdAll_cons]at hrd
  refine ZR <| ZJ (decide ((i:Int)<(n:Int))) true Zp <| ZA (Kj 66 (.slice A n c) i) (.pointer (some (ad.add i))) (fun w1 hw h=>by rw[hAd];exact Kn (elem:=9) Zk Zk hlt) <| ZA (L5 9 (ad.add i)) (K4 l) (fun w1 hw h=>K8 Zk (by obtain⟨ad2,q1,q2⟩:=h.1.s.2 i l hl;obtain rfl:=Option.some.inj (hAd.symm.trans q1);exact q2)) <| K0.mutSt (L:=[gt]) (G:=fun u=>K5 u gt (Em {S with ln:=i} x.1.1.1 x.1.1.2.length)) (Φ':=fun u=>Ta W w gt go A n ls true u∧T0 W gt (none,0) [] {S with ln:=i} (Rw w go) x.1 u) (Tc 3 ⟨gt,8,none⟩ (Zi i)) (fun w1 hw h=>h.2.bt.store1 (j:=8) Zk rfl (by show 8<10;decide) rfl) hot (fun wa u e1 e2 h hG=>hset (S2:={S with ln:=i}) wa u (by rfl) e1 e2 h hG) Zk Zk <| ZR ?_
  have own:Yx W (gt::bl x.1.1.1.1) (fun u=>Ta W w gt go A n ls true u∧T0 W gt (none,0) [] {S with ln:=i} (Rw w go) x.1 u):=fun u h b hb=>by
   rcases List.mem_cons.1 hb with rfl|hb
   ·exact⟨lt,h.2.bt.own⟩
   ·exact⟨(h.2.row.lt b hb).1,(h.2.row.blk b hb).2⟩
  have tk:∀w1,Below W.heap.size W w1→(Ta W w gt go A n ls true w1∧T0 W gt (none,0) [] {S with ln:=i} (Rw w go) x.1 w1)→Calls Tryz.prog 46 #[Zq gt 0,K4 l] w1 (Vv w1 (gt::bl x.1.1.1.1) Qn (Qw gt i) (P8 {S with ln:=i} l) (fun _ (_:Gh YL (fun k=>Rw w go k∧¬x.1.2 k))=> .tuple #[]) (fun S' x2 u=>T0 W gt x.1.1.1 x.1.1.2 S' (fun k=>Rw w go k∧¬x.1.2 k) x2.1 u)):=fun w1 hw h=>
   take_t (S:={S with ln:=i}) hM (hlen l (List.mem_of_getElem? hl)) hw lt (by have:=congrArg List.length h.2.eq;rw[List.length_map]at this;have h5:x.1.1.2.length=S.nds.length:=this;omega) h.2.bt h.2.row h.2.eq (fun b hb=>by have:=(hbl h.2 b hb).1;omega) (fun b hb=>⟨⟨Nat.le_trans h.1.sz hb,by have:=h.1.bo.lt;omega⟩,fun q=>by have:=h.2.hd.lt b q;omega⟩)
  have hin:∀u:World,T0 W gt (none,0) [] {S with ln:=i} (Rw w go) x.1 u→∀k∈gt::bl x.1.1.1.1,(k=gt∨w.heap.size≤k)∧k≠go:=fun u h k hk=>by
   rcases List.mem_cons.1 hk with rfl|hk
   ·exact⟨.inl rfl,by omega⟩
   ·exact⟨.inr (hbl h k hk).1,(hbl h k hk).2⟩
  cases e:P8 {S with ln:=i} l with
  |none=>
   have hN:o= .inl i:=by rw[←hrd,e]
   exact K0.mutxG (L:=gt::bl x.1.1.1.1) (G:=Qw gt i) (Φ':=fun u=>(w.heap.size≤u.heap.size∧∀k,W.heap.size≤k→k<w.heap.size→k≠gt→u.heap[k]? =w.heap[k]?)∧Qw gt i u∧K5 u go [.bool true]) (fun w1 hw h=>by have t:=tk w1 hw h;rw[e]at t;exact t) own (fun wa u e1 e2 h hG=>⟨⟨by rw[←e1];exact h.1.sz,fun k k1 k2 k3=>(e2 k fun hm=>((hin wa h.2 k hm).1).elim k3 fun q=>by omega).symm.trans (h.1.fr k k1 k2 k3)⟩,hG,h.1.bo.to (e2 go fun hm=>(hin wa h.2 go hm).2 rfl).symm⟩) Zk Zk <| ZR <| K0.leave Zk <| ZR <| K0.panD1 (f:=45) (args:= #[Zq go 0]) go 4 Zk Zk (fun w1=>rfl) (fun w1 hw h=>hpan hN hw h)
  |some S'=>
   rw[e]at hrd
   refine K0.mut (L:=gt::bl x.1.1.1.1) (Φ':=fun(x2:Gh YL (fun k=>Rw w go k∧¬x.1.2 k)) u=>Ta W w gt go A n ls true u∧T0 W gt (none,0) [] S' (Rw w go) (x2.1.1,fun k=>x.1.2 k∨x2.1.2 k) u) (fun w1 hw h=>by have t:=tk w1 hw h;rw[e]at t;exact t) own (fun x2 wa u e1 e2 h hG=>⟨h.1.left K (fun k hk=>(hin wa h.2 k hk).1) e1 e2 (h.1.bo.to (e2 go fun hm=>(hin wa h.2 go hm).2 rfl).symm),lnq_seq e1 e2 h.2 hG (fun k hk=>hk) (hR x).2⟩) Zk Zk fun x2=>ZR <| K0.slot 10 (Zi (IntKind.i64.wrap ((i:Int)+1))) (Zi ((i+1:Nat):Int)) Zk (by rw[Kd hlt Zo]) <| K0.next (⟨(i+1,S',⟨(x2.1.1,fun k=>x.1.2 k∨x2.1.2 k),fun b hb=>hb.elim (x.2 b) fun q=>(x2.2 b q).1⟩),hlt,hrd,by have:=rdTake_len e;exact Nat.le_trans this (Nat.succ_le_succ hxl)⟩) Zk (by show n- (i+1)<n-i;omega) ⟨Zk,Zk,Zk⟩ (fun u h=>h)
 obtain rfl:i=n:=by omega
 rw[List.drop_eq_nil_of_le Zo,Oi]at hrd
 refine ZR <| ZJ (decide ((i:Int)<(i:Int))) false Zs <| K0.leave Zk <| ZR <| K0.mutSt (L:=[gt]) (G:=fun u=>K5 u gt (Em {S with ln:=i} x.1.1.1 x.1.1.2.length)) (Φ':=fun u=>Ta W w gt go A i ls true u∧T0 W gt (none,0) [] {S with ln:=i} (Rw w go) x.1 u) (Tc 3 ⟨gt,8,none⟩ (Zi i)) (fun w1 hw h=>h.2.bt.store1 (j:=8) Zk rfl (by show 8<10;decide) rfl) hot (fun wa u e1 e2 h hG=>hset (S2:={S with ln:=i}) wa u (by rfl) e1 e2 h hG) Zk Zk <| ZR <| ZA (L5 3 ⟨gt,7,none⟩) (Zi S.wh) (fun w1 hw h=>K8 Zk (by rw[h.2.bt.cell];rfl)) ?_
 by_cases h1:S.wh=1
 ·rw[if_pos h1]at hrd
  exact ZJ ((S.wh==1)) true (beq_iff_eq.2 h1) <| K0.throw (Instr.panic Ke >>= fun v=>pure (.value v)) Ke Zk (fun w1 hw h=>by simp[Instr.panic,Ke,Go.goPanic]) Zk <| K0.panD1 (f:=45) (args:= #[Zq go 0]) go 4 Zk Zk (fun w1=>rfl) (fun w1 hw h=>hpan hrd.symm hw ⟨⟨h.1.sz,h.1.fr⟩,Z2 h.2.bt,h.1.bo⟩)
 rw[if_neg h1]at hrd
 refine ZJ ((S.wh==1)) false (beq_eq_false_iff_ne.2 h1) <| ZA (L5 4 ⟨go,0,none⟩) Zt (fun w1 hw h=>K8 Zk h.1.bo.one) <| K0.mutSt (L:=[go]) (G:=fun u=>K5 u go [.bool true]) (Φ':=fun u=>Ta W w gt go A i ls true u∧T0 W gt (none,0) [] {S with ln:=i} (Rw w go) x.1 u) (Tc 4 ⟨go,0,none⟩ Zt) (fun w1 hw h=>bool_st h.1.bo) hog (fun wa u e1 e2 h hG=>⟨h.1.left K (fun k hk=> .inr (by simp at hk;omega)) e1 e2 hG,hgs wa u e1 e2 h.2⟩) Zk Zk <| ZR <| K0.retD1 (f:=45) (args:= #[Zq go 0]) go 4 Zk (fun w1=>rfl) fun w1 hw h=>(all1_r hw).mono fun e u' w' he=> ?_
 obtain⟨rfl,rfl,hb,hst⟩:=he
 refine⟨rfl,_,_,rfl,H4 Zk (h.1.bo.stay (Nat.le_trans hW.size hgo) hst.2),?_⟩
 rw[←hrd]
 have hlq:T0 W gt (none,0) [] {S with ln:=i} (Rw w go) x.1 w':=⟨h.2.bt.stay lt hst.2,h.2.row.same fun b hb=>hst.2 b (h.2.row.lt b hb).1 (h.2.row.lt b hb).2,h.2.eq,h.2.hd.to hst.1 fun b hb=>hst.2 b (Nat.le_trans hW.size (x.2 b hb).1) (h.2.hd.lt b hb),h.2.bl,h.2.ap⟩
 refine⟨⟨x.1,fun b hb=>hQ b (x.2 b hb).1⟩,rfl,⟨hb.os.trans hW.os.symm,hb.tape.trans hW.tape.symm,hb.output.trans hW.output.symm,Nat.le_trans h.1.sz hst.1,fun k hk hkl=> ?_⟩,fun w'' k1 k2=>⟨hlq.bt.to (k2 gt (.inl Zs)),hlq.row.same fun b hb=>k2 b (.inr ⟨(hbl hlq b hb).1,(hlq.row.lt b hb).2⟩),hlq.eq,hlq.hd.to k1 fun b hb=>k2 b (.inr ⟨(x.2 b hb).1,hlq.hd.lt b hb⟩),fun b hb=> .inr (hQ b (hbl hlq b hb).1),hlq.ap⟩⟩
 rcases Nat.lt_or_ge k W.heap.size with h4|h4
 ·rw[hb.block k h4,hW.block k h4]
 ·rw[hst.2 k h4 (Nat.lt_of_lt_of_le hk h.1.sz)]
  exact h.1.fr k h4 hk (by simpa using hkl)
end
theorem parseF_le(ws:List (List UInt8)):∀(n i:Nat) (acc:List Sg),(Qy ws n i acc).1.length≤acc.length+n
 |0,i,acc=>by rw[Qy];unfold endP;split<;>simp
 | n +1,i,acc=>by
  rw[Qy]
  split
  ·unfold endP;split<;>simp
  ·split
   ·simp
   ·split
    ·simp
    ·have:=parseF_le ws n (i+1+2*(Lt (Qb ‹_›)).toNat) (acc++ [Gj ws (Qb ‹_›) i])
     rw[List.length_append,List.length_singleton]at this
     omega
theorem parseP_le{s:List UInt8}:(Mp s).1.length≤s.length+1:=by
 unfold Mp
 split
 ·simp
 ·have h1:=parseF_le (L9 s) ((L9 s).length-0) 0 []
  have h2:=words_len s
  simp only[List.length_nil]at h1
  unfold Ob
  omega
theorem decL_le:∀{l b:List UInt8},decL l=some b→2*b.length≤l.length
 | [],b,h=>by cases h;exact Nat.le_refl _
 | [_],b,h=>by cases h
 | x::y::l,b,h=>by
  rw[D8]at h
  split at h
  ·cases h
  ·obtain⟨p,hp,rfl⟩:=Option.map_eq_some_iff.1 h
   have:=decL_le hp
   simp only[List.length_cons]
   omega
theorem quads_le:∀b:List UInt8,4*(O8 b).length≤b.length
 |r::g::b::a::l=>by have:=quads_le l;simp only[O8,List.length_cons];omega
 | []=>by simp[O8]
 | [_]=>by simp[O8]
 | [_,_]=>by simp[O8]
 | [_,_,_]=>by simp[O8]
theorem rdS_le:∀{ws:WS} {f:Bool} {l:List (Int×Co)×Bool},rdS f ws=some l→2*l.1.length≤ws.length
 | [],f,l,h=>by cases h;exact Nat.le_refl _
 | [_],f,l,h=>by cases h
 |s::c::r,f,l,h=>by
  rw[rdS]at h
  obtain⟨x,_,h⟩:=Option.bind_eq_some_iff.1 h
  obtain⟨k,_,h⟩:=Option.bind_eq_some_iff.1 h
  obtain⟨m,hm,rfl⟩:=Option.map_eq_some_iff.1 h
  have:=rdS_le hm
  simp only[List.length_cons]
  omega
theorem rdNs_le:∀{n:Nat} {f:Bool} {ws:WS} {l:List Int×WS×Bool},E6 n f ws=some l→l.1.length=n
 |0,f,ws,l,h=>by cases h;rfl
 |n+1,f,ws,l,h=>by
  rw[Cm]at h
  obtain⟨x,_,h⟩:=Option.bind_eq_some_iff.1 h
  obtain⟨m,hm,rfl⟩:=Option.map_eq_some_iff.1 h
  rw[List.length_cons,rdNs_le hm]
structure Wb(ws0:WS)(n:Nat):Prop where
 len:n≤6001
 mem:∀s∈ws0,s.length≤6000
def Fw(N:Nd):Prop:=Hx N∧NSm N
section
variable{ws0 rest:WS}{n:Nat}{f:Bool}
theorem path_few(hb:Wb ws0 n)(hs:Ph ws0 n rest){d:List Sg×WS×Bool}(h:Vd f rest=some d):d.1.length≤6001:=by
 cases rest with
 |nil=>cases h
 | cons s r=>
  have h1:=hb.mem s (List.mem_of_getElem? hs.get)
  have h2:=parseP_le (s:=s)
  rw[show Vd f (s::r)=if (Mp s).2.2=0 then some ((Mp s).1,r,f)else if (Mp s).2.2=6 then some ([],r,true)else none from rfl]at h
  split at h
  ·cases h;show(Mp s).1.length≤6001;omega
  ·split at h
   ·cases h;exact Nat.zero_le _
   ·cases h
theorem im_few(hb:Wb ws0 n)(hs:Ph ws0 n rest){d:Im×WS×Bool}(h:Xt f rest=some d):d.1.px.length≤1000:=by
 unfold Xt at h
 obtain⟨⟨x,bx,r1,f1⟩,h1,h⟩:=Option.bind_eq_some_iff.1 h
 obtain⟨⟨y,by_,r2,f2⟩,h2,h⟩:=Option.bind_eq_some_iff.1 h
 have h3:=X0 (X0 hs h1) h2
 simp only at h
 cases r2 with
 |nil=>cases h
 | cons s r3=>
  have h4:=hb.mem s (List.mem_of_getElem? h3.get)
  simp only at h
  split at h
  ·cases h
  ·rename_i b hd
   have h5:=decL_le hd
   have h6:=quads_le b
   split at h
   ·cases h
   ·split at h
    ·cases h;exact Nat.zero_le _
    ·split at h
     ·cases h
     ·cases h;show(O8 b).length≤1000;omega
theorem pn_few(hb:Wb ws0 n)(hs:Ph ws0 n rest){d:Pn×Bool}(h:Wz f rest=some d):d.1.im.px.length≤1000∧d.1.stops.length≤6001:=by
 have hbl:=hb.len
 cases rest with
 |nil=>cases h
 | cons k r=>
  have hs:=hs.tail
  rw[Uv]at h
  split at h
  ·unfold Wy at h
   obtain⟨c,_,h⟩:=Option.bind_eq_some_iff.1 h
   split at h
   ·cases h;exact⟨Nat.zero_le _,Nat.zero_le _⟩
   ·cases h
  split at h
  ·unfold Dp at h
   obtain⟨⟨p,r1,f1⟩,h1,h⟩:=Option.bind_eq_some_iff.1 h
   obtain⟨⟨q,r2,f2⟩,h2,h⟩:=Option.bind_eq_some_iff.1 h
   obtain⟨⟨k,r3,f3⟩,h3,h⟩:=Option.bind_eq_some_iff.1 h
   obtain⟨⟨t,r4,f4⟩,h4,h⟩:=Option.bind_eq_some_iff.1 h
   obtain⟨l,h5,rfl⟩:=Option.map_eq_some_iff.1 h
   have h6:=(Cn (O0 (Ye (Ye hs h1) h2) h3) h4).2
   have h7:=rdS_le h5
   refine⟨Nat.zero_le _,?_⟩
   show l.1.length≤6001
   simp only at h7
   omega
  split at h
  ·unfold Dm at h
   obtain⟨⟨p,r1,f1⟩,h1,h⟩:=Option.bind_eq_some_iff.1 h
   obtain⟨⟨q,r2,f2⟩,h2,h⟩:=Option.bind_eq_some_iff.1 h
   obtain⟨⟨k,r3,f3⟩,h3,h⟩:=Option.bind_eq_some_iff.1 h
   obtain⟨⟨t,r4,f4⟩,h4,h⟩:=Option.bind_eq_some_iff.1 h
   obtain⟨l,h5,rfl⟩:=Option.map_eq_some_iff.1 h
   have h6:=(Cn (O0 (M2 (Ye hs h1) h2) h3) h4).2
   have h7:=rdS_le h5
   refine⟨Nat.zero_le _,?_⟩
   show l.1.length≤6001
   simp only at h7
   omega
  split at h
  ·unfold Dn at h
   obtain⟨⟨k,r1,f1⟩,h1,h⟩:=Option.bind_eq_some_iff.1 h
   obtain⟨⟨q,r2,f2⟩,h2,h⟩:=Option.bind_eq_some_iff.1 h
   obtain⟨⟨t,r3,f3⟩,h3,h⟩:=Option.bind_eq_some_iff.1 h
   obtain⟨⟨m,r4,f4⟩,h4,h⟩:=Option.bind_eq_some_iff.1 h
   have h5:=im_few hb (Cn (O0 (O0 hs h1) h2) h3) h4
   split at h
   ·cases h;exact⟨h5,Nat.zero_le _⟩
   ·cases h
  ·cases h
theorem pen_few(hb:Wb ws0 n)(hs:Ph ws0 n rest){d:Jt×WS×Bool}(h:A9 f rest=some d):d.1.d.length≤6001:=by
 have hbl:=hb.len
 unfold A9 at h
 obtain⟨⟨w,r1,f1⟩,h1,h⟩:=Option.bind_eq_some_iff.1 h
 obtain⟨⟨j,r2,f2⟩,h2,h⟩:=Option.bind_eq_some_iff.1 h
 obtain⟨⟨c,r3,f3⟩,h3,h⟩:=Option.bind_eq_some_iff.1 h
 obtain⟨⟨m,r4,f4⟩,h4,h⟩:=Option.bind_eq_some_iff.1 h
 obtain⟨⟨p,r5,f5⟩,h5,h⟩:=Option.bind_eq_some_iff.1 h
 obtain⟨l,h6,rfl⟩:=Option.map_eq_some_iff.1 h
 have h7:=M2 (M2 (O0 (O0 (M2 hs h1) h2) h3) h4) h5
 simp only at h6
 cases r5 with
 |nil=>cases h6
 | cons s r=>
  have h8:=h7.2
  rw[show rdDs f5 (s::r)=if Aj s≠0∨Ry s<0∨Ry s>(r.length:Int)then none else E6 (Ry s).toNat f5 r from rfl]at h6
  split at h6
  ·cases h6
  ·have h9:=rdNs_le h6
   show l.1.length≤6001
   simp only[List.length_cons]at h8
   omega
theorem Head.few{N:Nd}(h:Head N)(h1:N.path.length≤6001)(h2:N.im.px.length≤1000):Fw N:=
 ⟨⟨by rw[h.clip];exact Nat.zero_le _,by omega,by rw[h.sty];exact Nat.zero_le _,by omega,by rw[h.fill];exact fun P hP=>(by cases hP),by rw[h.stroke];exact fun P hP=>(by cases hP),by rw[h.fill];exact Nat.zero_le _,by rw[h.stroke];exact Nat.zero_le _⟩,
  ⟨h2,by rw[h.fill];exact fun P hP=>(by cases hP),by rw[h.stroke];exact fun P hP=>(by cases hP)⟩⟩
theorem head_few(hb:Wb ws0 n)(hs:Ph ws0 n rest){k:Int}(hk:k=1∨k=2∨k=3){d:Nd×WS×Bool}(h:Mz k f rest=some d):Fw d.1:=by
 rcases hk with rfl|rfl|rfl
 ·obtain⟨h1,h2,h3⟩:=head_1 h
  exact h1.few (by rw[h2];exact Nat.zero_le _) (by rw[h3];exact Nat.zero_le _)
 ·obtain⟨h1,h3⟩:=head_2 h
  refine h1.few ?_ (by rw[h3];exact Nat.zero_le _)
  unfold Mz at h
  obtain⟨⟨i,r1,f1⟩,k1,h⟩:=Option.bind_eq_some_iff.1 h
  obtain⟨⟨d1,r2,f2⟩,k2,h⟩:=Option.bind_eq_some_iff.1 h
  rw[if_neg Zd,if_pos rfl]at h
  obtain⟨⟨o,r3,f3⟩,k3,h⟩:=Option.bind_eq_some_iff.1 h
  obtain⟨b,k4,rfl⟩:=Option.map_eq_some_iff.1 h
  exact path_few hb (O0 (M2 (M2 hs k1) k2) k3) k4
 ·obtain⟨h1,h3⟩:=head_3 h
  refine h1.few (by rw[h3];exact Nat.zero_le _) ?_
  unfold Mz at h
  obtain⟨⟨i,r1,f1⟩,k1,h⟩:=Option.bind_eq_some_iff.1 h
  obtain⟨⟨d1,r2,f2⟩,k2,h⟩:=Option.bind_eq_some_iff.1 h
  rw[if_neg Zd,if_neg Zd]at h
  obtain⟨⟨o,r3,f3⟩,k3,h⟩:=Option.bind_eq_some_iff.1 h
  obtain⟨b,k4,rfl⟩:=Option.map_eq_some_iff.1 h
  exact im_few hb (O0 (M2 (M2 hs k1) k2) k3) k4
theorem F4{l:List Nd}{N:Nd}(h:∀M∈l,Fw M)(hN:Fw N):∀M∈B6 l N,Fw M:=fun M hM=>by
 rcases List.mem_append.1 hM with hM|hM
 ·exact h M (List.dropLast_subset _ hM)
 ·obtain rfl:M=N:=by simpa using hM
  exact hN
theorem Jj{P:Pn}{Q:Pn→Prop}(h:Q P):∀R∈[P],Q R:=fun R hR=>by
 obtain rfl:R=P:=by simpa using hR
 exact h
theorem part_few(hb:Wb ws0 n)(hs:Ph ws0 n rest){S:TS}{N:Nd}{k:List UInt8}{x:TS×WS×Bool}(hS:∀M∈S.nds,Fw M)(hN:Fw N)(h:Qh S N k rest=some x):∀M∈x.1.nds,Fw M:=by
 unfold Qh at h
 split at h
 ·split at h
  ·obtain⟨t,_,rfl⟩:=Option.map_eq_some_iff.1 h
   exact F4 hS ⟨⟨hN.1.cl,hN.1.pa,hN.1.da,hN.1.px,hN.1.fi,hN.1.st,hN.1.fn,hN.1.sn⟩,⟨hN.2.im,hN.2.fi,hN.2.st⟩⟩
  ·cases h
 split at h
 ·split at h
  ·obtain⟨⟨u,r1,f1⟩,h1,h⟩:=Option.bind_eq_some_iff.1 h
   obtain⟨p,h2,rfl⟩:=Option.map_eq_some_iff.1 h
   have h3:=path_few hb (O0 hs h1) h2
   exact F4 hS ⟨⟨by show p.1.length≤_;omega,hN.1.pa,hN.1.da,hN.1.px,hN.1.fi,hN.1.st,hN.1.fn,hN.1.sn⟩,⟨hN.2.im,hN.2.fi,hN.2.st⟩⟩
  ·cases h
 split at h
 ·split at h
  ·obtain⟨p,h2,rfl⟩:=Option.map_eq_some_iff.1 h
   have h3:=pn_few hb hs h2
   exact F4 hS ⟨⟨hN.1.cl,hN.1.pa,hN.1.da,hN.1.px,Jj (Q:=fun P=>P.im.px.length≤20000∧P.stops.length≤1000000) Zo,hN.1.st,(by decide:(1:Nat)≤1000000),hN.1.sn⟩,⟨hN.2.im,Jj (Q:=fun P=>P.im.px.length≤1000) h3.1,hN.2.st⟩⟩
  ·cases h
 split at h
 ·split at h
  ·obtain⟨⟨s,r1,f1⟩,h1,h⟩:=Option.bind_eq_some_iff.1 h
   obtain⟨p,h2,rfl⟩:=Option.map_eq_some_iff.1 h
   have h3:=pn_few hb (rdPen_suf hs h1) h2
   have h4:=pen_few hb hs h1
   exact F4 hS ⟨⟨hN.1.cl,hN.1.pa,by show s.d.length≤_;simp only at h4;omega,hN.1.px,hN.1.fi,Jj (Q:=fun P=>P.im.px.length≤20000∧P.stops.length≤1000000) Zo,hN.1.fn,(by decide:(1:Nat)≤1000000)⟩,⟨hN.2.im,hN.2.fi,Jj (Q:=fun P=>P.im.px.length≤1000) h3.1⟩⟩
  ·cases h
 ·cases h
theorem headK_in(k:List UInt8):Ue k=0∨Ue k=1∨Ue k=2∨Ue k=3:=by
 unfold Ue
 split
 ·exact .inr (.inl rfl)
 split
 ·exact .inr (.inr (.inl rfl))
 split
 ·exact .inr (.inr (.inr rfl))
 ·exact .inl rfl
theorem ln_few(hb:Wb ws0 n)(hs:Ph ws0 n rest){S:TS}{k:List UInt8}{x:TS×WS×Bool}(hS:∀M∈S.nds,Fw M)(h:Xs S k rest=some x):∀M∈x.1.nds,Fw M:=by
 unfold Xs at h
 split at h
 ·split at h
  ·obtain⟨w,_,h⟩:=Option.bind_eq_some_iff.1 h
   obtain⟨v,_,h⟩:=Option.bind_eq_some_iff.1 h
   obtain⟨c,_,rfl⟩:=Option.map_eq_some_iff.1 h
   exact hS
  ·cases h
 split at h
 ·split at h
  ·obtain⟨N,h1,rfl⟩:=Option.map_eq_some_iff.1 h
   have h2:=head_few hb hs ((headK_in k).resolve_left ‹_›) h1
   exact fun M hM=>by
    rcases List.mem_append.1 hM with hM|hM
    ·exact hS M hM
    ·obtain rfl:M=N.1:=by simpa using hM
     exact h2
  ·cases h
 split at h
 ·cases h
 ·rename_i N hg
  exact part_few hb hs hS (hS N (List.mem_of_getLast? hg)) h
theorem unq_wb{l:List UInt8}(hB:Vm (L9 l)=true)(hl:l.length≤6000):Wb (Lx (L9 l)) (Lx (L9 l)).length:=
 ⟨by have:=Jy (l:=l);omega,fun s hs=>Nat.le_trans (Jx hB s hs) hl⟩
theorem take_few{S S':TS}{l:List UInt8}(hl:l.length≤6000)(hS:∀M∈S.nds,Fw M)(h:P8 S l=some S'):∀M∈S'.nds,Fw M:=by
 unfold P8 at h
 split at h
 case isFalse=>cases h
 rename_i hB
 have hb:=unq_wb hB hl
 split at h
 ·cases h
 rename_i k ws e
 rw[e]at hb
 obtain⟨x,h1,h2⟩:=Option.bind_eq_some_iff.1 h
 have h3:=ln_few hb (suf_full (k::ws)).tail hS h1
 unfold endL at h2
 split at h2
 ·injection h2 with h2
  subst h2
  split<;>exact h3
 ·cases h2
theorem all_few:∀{ls:List (List UInt8)} {S S':TS} {i:Nat},(∀l∈ls,l.length≤6000)→(∀M∈S.nds,Fw M)→Oi S i ls= .inr S'→∀M∈S'.nds,Fw M
 | [],S,S',i,_,hS,h=>by
  rw[Oi]at h
  split at h
  ·cases h
  ·cases h;exact hS
 | l::r,S,S',i,hl,hS,h=>by
  rw[Oi]at h
  split at h
  ·cases h
  ·rename_i S1 e
   exact all_few (fun x hx=>hl x (by simp[hx])) (take_few (S:={S with ln:=i}) (hl l Zs) hS e) h
end
section
variable{w:World}{s l:List UInt8}{B:Nat}{n c sz:Nat}{A:Option Addr}{e:TypeId}{xs:List Value}{S:TS}
theorem K6.cap(h:K6 w B e sz A n c xs):n≤c:=by
 rcases h.2 with ⟨h1,h2⟩|⟨g,cap,cur,h1,hB,hh,hn,_⟩
 ·omega
 ·injection h1 with _ _ h1
  omega
theorem hsuf_m(hl:l.length≤100000000){b:Bool}(h:Lib.hasSuffix l [10]=b):Zv 21 #[K4 l,.string ⟨#[10]⟩] w (.bool b):=
 (Tryz.strings_HasSuffix ⟨l.toArray⟩ ⟨#[10]⟩ w (show l.length≤_ by omega)).mono fun e w' k=>⟨(),by rw[k.1];show Ending.returned (.bool (Lib.hasSuffix l [10]))=_;rw[h],by rw[k.2];exact Below.refl _ _,fun _ _ _=>trivial⟩
theorem lines_sm(m:List UInt8):(∀l∈Nq m,l.length≤m.length)∧(Nq m).length≤m.length+1:=by
 unfold Nq
 split
 ·exact⟨fun l h=>(by cases h),Nat.zero_le _⟩
 ·have h1:m.dropLast.length≤m.length:=by simp
  exact⟨fun l h=>Nat.le_trans (Cc 10 _ l h) h1,by rw[Vx];have:=List.count_le_length (a:=(10:UInt8)) (l:=m.dropLast);omega⟩
theorem okN_last:okN s=true↔s=[]∨s.getLast? =some 10:=by
 unfold okN
 cases s<;>simp
theorem suf_dec:Lib.hasSuffix s [10]=decide (s.getLast? =some 10):=by
 cases h:s with
 |nil=>rfl
 |cons b r=>
  rw[←ok_dec Zs]
  unfold okN
  simp only[List.isEmpty_cons,Bool.false_or]
  by_cases h2:(b::r).getLast? =some 10
  ·rw[h2,decide_eq_true rfl];rfl
  ·rw[decide_eq_false h2];exact beq_eq_false_iff_ne.2 h2
abbrev PX:Type:=(Option Addr×Nat)×List (Nd×ND)
def parG(s:List UInt8)(q:PX)(u:World):Prop:=Ut u q.1.1 q.2 125 (Qi s).1.nds∧(Qi s).1.nds.length≤q.1.2
def parV(s:List UInt8)(q:PX):Value:= .tuple #[soV (Qi s).1 q.1,Zi (Qi s).2.1,Zi (Qi s).2.2]
theorem Cu{u:World}(h:(Qi s).1=sc0):parG s ((none,0),[]) u:=by
 unfold parG
 rw[h]
 exact⟨⟨rfl,Ma.nil_,fun x hx=>by cases hx⟩,Nat.le_refl _⟩
theorem Yi{n:Nat}{e:Int}(h:Qi s=(sc0,n,e)):parV s ((none,0),[])= .tuple #[.agg #[Zi 0,Zi 0,.int .u8 0,.int .u8 0,.int .u8 0,.int .u8 0,.slice none 0 0],Zi n,Zi e]:=by
 unfold parV
 rw[h]
 rfl
theorem lnq_ns{W u:World}{gt:Nat}{R:Nat→Prop}{x:YL×(Nat→Prop)}(h:T0 W gt (none,0) [] S R x u):Ut u x.1.1.1 x.1.2 125 S.nds∧S.nds.length≤x.1.1.2∧K5 u gt (soC S.sc x.1.1++ [Zi S.wh,Zi S.ln,Zi S.far]):=by
 have hl:x.1.2.length=S.nds.length:=by rw[←h.eq,List.length_map]
 have h1:=h.row
 rw[hl]at h1
 refine⟨⟨h.eq,K6.rowA (cl:=fun x=>X9 x.1 x.2) (fun _=>by kernel_rfl) hl h1,h.hd.get fun y hy=>by cases hy⟩,h1.cap,?_⟩
 have h2:=h.bt
 rw[hl]at h2
 exact h2
theorem parse_t(hE:ET w)(hM:ML w)(hl:s.length≤65536)(hF:s.getLast? =some 10→∀S,Oi ts0 0 (Nq s)= .inr S→∀N∈S.nds,Fw N):Calls Tryz.prog 9 #[K4 s] w (K7 w (parV s) (parG s)):=by
 refine K0.enter Tryz.func9 rfl <| ZR <| ZJ (decide ((s.length:Int)>65536)) false (decide_eq_false Zo) ?_
 by_cases h10:s.getLast? =some 10
 case neg=>
  have hp:Qi s=(sc0,0,3):=by unfold Qi;rw[if_neg Zo,if_pos h10]
  exact ZC (fun w1 hw h=>hsuf_m (l:=s) Zo (suf_dec.trans (decide_eq_false h10))) fun u=>ZI true <| ZV (.tuple #[.agg #[Zi 0,Zi 0,.int .u8 0,.int .u8 0,.int .u8 0,.int .u8 0,.slice none 0 0],Zi 0,Zi 3]) fun w1 hw h=>⟨((none,0),[]),by rw[Yi hp];rfl,hw,fun w'' _ _=>Cu (by rw[hp])⟩
 have hok:okN s=true:=okN_last.2 (.inr h10)
 obtain⟨x,y,hxy⟩:=lines_ne h10
 obtain⟨hlm,hnl⟩:=lines_sm s
 obtain⟨n,hn⟩:∃n,n=(Nq s).length:=⟨_,rfl⟩
 have hn0:0<n:=by rw[hn,hxy];simp
 have hlen:∀l∈Nq s,l.length≤65536:=fun l h=>Nat.le_trans (hlm l h) hl
 obtain⟨o,ho⟩:∃o,o=Oi ts0 0 (Nq s):=⟨_,rfl⟩
 have hpo:Qi s=match (generalizing:=false) o with| .inl i=>(sc0,i,3)| .inr S=>if 0≤S.far then(sc0,S.far.toNat,6)else if Ai S.sc=true∧F6 S.sc=s then(S.sc,0,0)else(sc0,(Nq s).length,18):=by
  unfold Qi
  rw[if_neg Zo,if_neg (fun h=>h h10),ho];rfl
 refine ZC (fun w1 hw h=>hsuf_m (l:=s) Zo (suf_dec.trans (decide_eq_true h10))) fun u=>ZI false <| ZD 1 (fun w1 hw h=>sl_f (l:=s) (ws:=Nq s) (n:=n) (N:=w.heap.size) (hM.below hw) hok Zo rfl hn.symm Zo hw.size) fun q=>K0.make (boxS 74 (.agg #[Zi 0,Zi 0,.int .u8 0,.int .u8 0,.int .u8 0,.int .u8 0,.slice none 0 0,Zi 0,Zi 0,Zi (-1)])) (Ud) (fun g u=>K5 u g (Em ts0 (none,0) 0)∧w.heap.size≤g∧g<u.heap.size) Zk (fun w1 hw h=>Fi (v:= .agg (Em ts0 (none,0) 0).toArray) hw.size) fun gt=>ZR <| K0.mut (X:=Gh YL (fun _=>True)) (L:=[gt]) (g:=23) (args:= #[Zq gt 0,.slice q.1.1 n q.1.2]) (val:=fun _=> .bool (okA o)) (G:=fun x u=>AllG w gt o (fun _=>True) x.1 u) (Φ':=fun x u=>AllG w gt o (fun _=>True) x.1 u) (fun w1 hw h=>by have t:=all_t (R:=fun _=>True) (n:=n) (c:=q.1.2) hM hw h.2.2.1 h.1.2.1 hn0 Zo hlen h.1.2.2 h.2.1 (fun _ _=>trivial);rw[←ho]at t;exact t) (fun u h b hb=>by obtain rfl:b=gt:=by{simpa using hb};exact⟨h.2.2.1,h.2.1.own⟩) (fun _ wa u e1 e2 h hG=>hG) Zk Zk (fun x=> ?_)
 cases o with
 |inl i=>
  exact ZR <| ZI true <| ZB 4 (L5 3 ⟨gt,8,none⟩) (Zi i) (fun w1 hw h=>K8 Zk (by obtain⟨cs,h1,h2,h3⟩:=h;rw[h1.cell];exact h3)) <| ZV (.tuple #[.agg #[Zi 0,Zi 0,.int .u8 0,.int .u8 0,.int .u8 0,.int .u8 0,.slice none 0 0],Zi i,Zi 3]) fun w1 hw h=>⟨((none,0),[]),by rw[Yi hpo],hw,fun w'' _ _=>Cu (by rw[hpo])⟩
 | inr S=>
  have hFw:=hF h10 S ho.symm
  obtain⟨⟨⟨y,L⟩,Sg⟩,_⟩:=x
  refine K0.impM (Φ':=fun u=>Ut u y.1 L 125 S.nds∧S.nds.length≤y.2∧K5 u gt (soC S.sc y++ [Zi S.wh,Zi S.ln,Zi S.far])) (fun u h=>lnq_ns h) Zk ?_
  have hpo:Qi s=if 0≤S.far then(sc0,S.far.toNat,6)else if Ai S.sc=true∧F6 S.sc=s then(S.sc,0,0)else(sc0,(Nq s).length,18):=hpo
  refine ZR <| ZI false <| ZA (L5 3 ⟨gt,9,none⟩) (Zi S.far) (fun w1 hw h=>K8 Zk (by rw[h.2.2.cell];rfl)) ?_
  by_cases hfar:0≤S.far
  ·rw[if_pos hfar]at hpo
   exact ZJ (decide (S.far≥0)) true (decide_eq_true hfar) <| ZB 4 (L5 3 ⟨gt,9,none⟩) (Zi S.far) (fun w1 hw h=>K8 Zk (by rw[h.2.2.cell];rfl)) <| ZV (.tuple #[.agg #[Zi 0,Zi 0,.int .u8 0,.int .u8 0,.int .u8 0,.int .u8 0,.slice none 0 0],Zi S.far,Zi 6]) fun w1 hw h=>⟨((none,0),[]),by rw[Yi hpo,show((S.far.toNat:Nat):Int)=S.far by omega],hw,fun w'' _ _=>Cu (by rw[hpo])⟩
  rw[if_neg hfar]at hpo
  refine ZJ (decide (S.far≥0)) false (decide_eq_false hfar) <| ZA (L5 26 ⟨gt,0,none⟩) (soV S.sc y) (fun w1 hw h=>Mj (vs:=soC S.sc y) Zk Zk (K5.fst (a:=soC S.sc y) (b:=[Zi S.wh,Zi S.ln,Zi S.far]) h.2.2)) ?_
  by_cases hok2:Ai S.sc=true
  rotate_left
  ·rw[if_neg (fun h=>hok2 h.1)]at hpo
   exact ZC (fun w1 hw h=>format_no (S:=S.sc) (y:=y) (hE.below hw) h.1 (fun N hN=>(hFw N hN).1) Zd (by simpa using hok2)) fun _=>ZI true <| ZV (.tuple #[.agg #[Zi 0,Zi 0,.int .u8 0,.int .u8 0,.int .u8 0,.int .u8 0,.slice none 0 0],Zi n,Zi 18]) fun w1 hw h=>⟨((none,0),[]),by rw[Yi hpo,←hn],hw,fun w'' _ _=>Cu (by rw[hpo])⟩
  by_cases hlen2:(F6 S.sc).length≤65536
  rotate_left
  ·rw[if_neg (fun h=>hlen2 (by rw[h.2];omega))]at hpo
   exact K0.callv (val:=fun _:Unit=> .tuple #[K4 [],Zi 5]) (G:=fun _ _=>True) (fun w1 hw h=>by have t:=Th (S:=S.sc) (y:=y) (hE.below hw) h.1 (fun N hN=>(hFw N hN).1) (fun N hN=>(hFw N hN).2) (F5 hok2).2.1 Zd hok2;unfold outV at t;rw[if_neg hlen2]at t;exact t) Zk fun _=>ZR <| ZI true <| ZV (.tuple #[.agg #[Zi 0,Zi 0,.int .u8 0,.int .u8 0,.int .u8 0,.int .u8 0,.slice none 0 0],Zi n,Zi 18]) fun w1 hw h=>⟨((none,0),[]),by rw[Yi hpo,←hn],hw,fun w'' _ _=>Cu (by rw[hpo])⟩
  refine K0.callv (val:=fun _:Unit=> .tuple #[K4 (F6 S.sc),Zi 0]) (G:=fun _ _=>True) (fun w1 hw h=>by have t:=Th (S:=S.sc) (y:=y) (hE.below hw) h.1 (fun N hN=>(hFw N hN).1) (fun N hN=>(hFw N hN).2) (F5 hok2).2.1 Zd hok2;unfold outV at t;rw[if_pos hlen2]at t;exact t) Zk fun _=>ZS 0 <| ZS 5 ?_
  by_cases hts:F6 S.sc=s
  ·rw[if_pos ⟨hok2,hts⟩]at hpo
   refine ZA (Qf .neq 9 (.tmp 55) (.tmp 56) (K4 (F6 S.sc)) (K4 s)) Zf (fun w1 hw h=>Z7 (by rw[hts];simp)) <| ZI false <| ZA (L5 26 ⟨gt,0,none⟩) (soV S.sc y) (fun w1 hw h=>Mj (vs:=soC S.sc y) Zk Zk (K5.fst (a:=soC S.sc y) (b:=[Zi S.wh,Zi S.ln,Zi S.far]) h.1.2.2)) <| ZV (.tuple #[soV S.sc y,Zi 0,Zi 0]) (fun w1 hw h=> ?_)
   have k:=h w1 (Nat.le_refl _) (fun _ _ _=>rfl)
   exact⟨(y,L),by unfold parV;rw[hpo];rfl,hw,fun w'' k1 k2=>by unfold parG;rw[hpo];have k:=h w'' k1 k2;exact⟨k.1.1,k.1.2.1⟩⟩
  ·rw[if_neg (fun h=>hts h.2)]at hpo
   exact ZA (Qf .neq 9 (.tmp 55) (.tmp 56) (K4 (F6 S.sc)) (K4 s)) Zt (fun w1 hw h=>Z7 (by simpa using hts)) <| ZI true <| ZV (.tuple #[.agg #[Zi 0,Zi 0,.int .u8 0,.int .u8 0,.int .u8 0,.int .u8 0,.slice none 0 0],Zi n,Zi 18]) fun w1 hw h=>⟨((none,0),[]),by rw[Yi hpo,←hn],hw,fun w'' _ _=>Cu (by rw[hpo])⟩
end
section
open Go.RowKit
--ATNAMES
def Df(k:Co):Pn:=⟨1,k,0,0,0,0,0,[],0,Di,0,Px⟩
theorem sol_cells(k:Co):∃C:List Value,C.length=40∧X4 (Df k) pm0= .agg C.toArray∧(∀u∈C,u.oneCell'=true)∧C=pnC (Df k) pm0:=
 ⟨pnC (Df k) pm0,by kernel_rfl,by kernel_rfl,List.all_eq_true.1 (show((pnC (Df k) pm0).all fun u=>u.oneCell')=true from by kernel_rfl),rfl⟩
section
variable{w W:World}{g n c:Nat}{A:Option Addr}{ws0:WS}{f:Bool}{cw l:List UInt8}{k:Co}
theorem paint_e(hk:U3 cw=some k)(hR:RE W w g A n c ws0)(hs:Ph ws0 n [Pr,cw])(hb:K5 w g (L7 A n c 2 f)):Calls Tryz.prog 54 #[Zq g 0] w
 (Nm w [g] (fun _:Unit=>X4 (Df k) pm0) fun _ u=>K5 u g (L7 A n c 0 f)):=by
 have lg:=hR.lg
 have hs1:=hs.tail
 have hrd:rdC f [cw]=some (k,[],f):=by show(U3 cw).map (fun c=>(c,[],f))=_;rw[hk];rfl
 refine K0.enterB Tryz.func54 rfl hR.hW lg hb <| ZR <| K0.mut (L:=[g]) (Φ':=fun _ u=>Om W w g (L7 A n c 1 f) u) (fun w1 hw h=>Oq (hR.next hw h) hs h.2.2) (fun u h=>K9 (cs':=[]) lg u h) (fun _ wa u e1 e2 h hG=>Kg wa u e1 e2 h hG) Zk Zk fun _=>ZS 0 <| ZA (Qf .eql 9 (.tmp 5) (.const (.string ⟨#[115,111,108,105,100]⟩)) (K4 Pr) (K4 [115,111,108,105,100])) Zt (fun w1 hw h=>Ks Zd) <| ZI true <| K0.mut (L:=[g]) (Φ':=fun _ u=>Om W w g (L7 A n c 0 f) u) (fun w1 hw h=>by have t:=Yq (hR.next hw h) hs1 h.2.2;rw[hrd]at t;exact t) (fun u h=>K9 (cs':=[]) lg u h) (fun _ wa u e1 e2 h hG=>Kg wa u e1 e2 h hG) Zk Zk fun _=>ZR <| K0.mut (L:=[g]) (Φ':=fun _ u=>Om W w g (L7 A n c 0 f) u) (fun w1 hw h=>end_s hw lg h.2.2) (fun u h=>K9 (cs':=[]) lg u h) (fun _ wa u e1 e2 h hG=>Kg wa u e1 e2 h hG) Zk Zk fun _=>ZR <| ZV (X4 (Df k) pm0) (fun w1 hw h=>Mt hR.hW hw (h w1 (Nat.le_refl _) fun _ _ _=>rfl))
theorem read_e(hM:ML w)(hB:Vm (L9 l)=true)(hl:l.length≤10000)(hws:Lx (L9 l)=[Pr,cw])(hc9:cw.length≤10000)(hk:U3 cw=some k):Zv 25 #[K4 l] w (.tuple #[X4 (Df k) pm0,.bool true]):=by
 obtain⟨C,hCl,hCv,hC1,_⟩:=sol_cells k
 have hsf:=fun(w1:World) (hM:ML w1)=>sf_c (w:=w1) hM hB (show l.length≤10000000 from by omega)
 rw[hws]at hsf
 refine K0.enterD Tryz.func25 rfl (Below.refl _ _) <| ZS 0 <| K0.make (Aq 60) (Ud) (fun g u=>K5 u g pnZ∧w.heap.size≤g∧g<u.heap.size) Zk (fun w1 hw h=>Bn (z:= .agg pnZ.toArray) Zk hw.size) fun gp=>ZS 1 <| K0.make (Aq 4) (Ud) (fun g u=>K5 u g [.bool false]∧gp+1≤g∧g<u.heap.size) Zk (fun w1 hw h=>Bn (z:= .bool false) Zk h.2.2.2) fun go=>ZR <| ZC (fun w1 hw h=>hsf w1 (hM.below hw)) fun y=>ZI false <| K0.defer_ ⟨.fn (.func 53) #[Zq gp 0,Zq go 0],#[]⟩ Zk Zk <| ZS 2 ?_
 have hmk:∀w1:World,go<w1.heap.size→L3 w1 y.1 2 [Pr,cw]→max (go+1) (yb y.1)≤w1.heap.size:=fun w1 k1 k2=>by
  obtain⟨ad,q1,q2⟩:=k2.2 0 _ rfl
  have q3:=Xg q2
  rw[Ov]at q3
  rw[q1]
  exact Nat.max_le.2 ⟨k1,q3⟩
 refine K0.make (boxS 118 (.agg #[.slice y.1 2 y.2,.bool false])) (Ud) (fun g u=>K5 u g [.slice y.1 2 y.2,.bool false]∧max (go+1) (yb y.1)≤g∧g<u.heap.size) Zk (fun w1 hw h=>Fi (v:= .agg #[.slice y.1 2 y.2,.bool false]) (hmk w1 h.1.2.2.2 h.2.1)) fun gr=>ZR ?_
 have hg:go<max (go+1) (yb y.1):=by omega
 refine K0.mut (g:=54) (args:= #[Zq gr 0]) (L:=[gr]) (val:=fun _:Unit=>X4 (Df k) pm0) (G:=fun _ u=>K5 u gr (L7 y.1 2 y.2 0 false)) (Φ':=fun _ u=>TwoR w gp go pnZ false u∧K5 u gr (L7 y.1 2 y.2 0 false)∧go<gr) (fun w1 hw h=> ?_) (fun u h b hb=> ?_) (fun q wa u e1 e2 h hG=> ?_) Zk Zk (fun q=> ?_)
 ·have k1:=h.1.1.1.2;have k2:=h.1.1.2;have k3:=h.1.2;have k4:=h.2
  refine paint_e (ws0:=[Pr,cw]) hk ⟨hw,by omega,k3.1,fun ad h0 e=> ?_,k3.2,by decide,fun z hz=> ?_⟩ ⟨rfl,Nat.le_refl _⟩ ?_
  ·have k5:=k4.2.1
   rw[e]at k5
   have:ad.block+1≤max (go+1) (yb (some ad)):=Nat.le_max_right _ _
   omega
  ·rcases List.mem_cons.1 hz with rfl|hz
   ·decide
   ·obtain rfl:z=cw:=by simpa using hz
    omega
  ·have e:L7 y.1 2 y.2 2 false=[.slice y.1 2 y.2,.bool false]:=by
    unfold L7 rsl
    rw[Nat.sub_self,Wf,Nat.sub_zero]
   rw[e];exact k4.1
 ·obtain rfl:b=gr:=by simpa using hb
  have k1:=h.1.1.1.2.2.1;have k2:=h.1.1.2.2.1;have k3:=h.2.2.1
  exact⟨by omega,h.2.1.own⟩
 ·have k1:=h.1.1.1.2;have k2:=h.1.1.2;have k3:=h.2.2.1
  exact⟨TwoR.left ⟨k1.1,k2.1,k1.2.1,k2.2.1,k2.2.2⟩ e1 e2 Zo,hG,by omega⟩
 refine ZT 22 (X4 (Df k) pm0) (.agg C.toArray) (hCv) <| K0.mutSt (L:=[gp]) (G:=fun u=>K5 u gp C) (Φ':=fun u=>TwoR w gp go C false u∧K5 u gr (L7 y.1 2 y.2 0 false)∧go<gr) (Tc 60 ⟨gp,0,none⟩ (.agg C.toArray)) (fun w1 hw h=>h.1.1.store Zk (by show C.toArray.size=_;simp[hCl];rfl) hC1) (fun u h b hb=> ?_) (fun wa u e1 e2 h hG=> ?_) Zk Zk ?_
 ·obtain rfl:b=gp:=by simpa using hb
  exact⟨h.1.2.2.1,h.1.1.own⟩
 ·have k:=h.1;have k2:=h.2
  have k3:=k.2.2.2.1
  exact⟨⟨hG,k.2.1.left e2 Zp,k.2.2.1,k3,by rw[←e1];exact k.2.2.2.2⟩,k2.1.left e2 Zp,k2.2⟩
 refine ZR <| ZB 0 (L5 60 ⟨gp,0,none⟩) (.agg C.toArray) (fun w1 hw h=>Mj (vs:=C) Zk (by rw[hCl];kernel_rfl) h.1.1.range) <| ZB 4 (L5 4 ⟨gr,1,none⟩) Zf (fun w1 hw h=>K8 Zk (by rw[h.2.1.cell];rfl)) <| K0.skipAt 6 (Tc 60 ⟨gp,0,none⟩ (.agg C.toArray)) Zk (fun w1 hw h=>store_same h.1.1 rfl (by rw[hCl];kernel_rfl) hC1) <| ZR <| K0.mutStAny (L:=[go]) (G:=fun u=>K5 u go [.bool true]) (Φ':=fun u=>TwoR w gp go C true u) (Tc 4 ⟨go,0,none⟩ Zt) (fun w1 hw h=>h.1.2.1.store Zk rfl (by intro u hu;simp[Value.cells]at hu;subst hu;rfl)) (fun u h b hb=> ?_) (fun wa u e1 e2 h hG=> ?_) Zk Zk ?_
 ·obtain rfl:b=go:=by simpa using hb
  have k:=h.1
  exact⟨by have:=k.2.2;omega,k.2.1.own⟩
 ·have k:=h.1
  have k3:=k.2.2.2.1
  exact⟨k.1.left e2 Zp,hG,k.2.2.1,k3,by rw[←e1];exact k.2.2.2.2⟩
 refine ZR <| K0.retD2 (f:=53) (args:= #[Zq gp 0,Zq go 0]) gp go 60 4 Zk Zk (fun w1=>rfl) fun w1 hw h=>(read1_r hw).mono fun e u' w' he=> ?_
 obtain⟨rfl,rfl,hb,hst⟩:=he
 refine⟨rfl,_,_,_,rfl,load_boxN Zk (by rw[hCl];kernel_rfl) (h.1.stay h.2.2.1 hst.2),H4 Zk (h.2.1.stay (by have:=h.2.2;omega) hst.2),(),by rw[←hCv],hb,fun _ _ _=>trivial⟩
theorem ppe_m(hM:ML w)(hB:Vm (L9 l)=true)(hl:l.length≤10000)(hws:Lx (L9 l)=[Pr,cw])(hc9:cw.length≤10000)(hk:U3 cw=some k)(hv:Ku (Df k)=true)(hj:Lr (Rx (Df k))=l):Zv 13 #[K4 l] w (.tuple #[X4 (Df k) pm0,Zi 0]):=by
 exact K0.enter Tryz.func13 rfl <| ZR <| ZC (fun w1 hw h=>read_e (hM.below hw) hB hl hws hc9 hk) fun q=>ZI false <| ZD 5 (fun w1 hw h=>by have t:=formatPaint_s (K:=125) hv ((show PAt 0 (Df k) pm0 w1 from⟨K6.nil_,K6.nil_,.inl ⟨(show(1:Int)<2 by decide),rfl,rfl⟩⟩).rd (Nat.le_refl 125)) Zd (Nat.zero_le _);rw[hj]at t;exact t) fun u=>K0.run Zk (stop:=1000) 6 _ <| ZS 5 <| ZA (Qf .neq 9 (.tmp 24) (.tmp 25) (K4 l) (K4 l)) Zf (fun w1 hw h=>Z7 Zs) <| ZI false <| ZW (.tuple #[X4 (Df k) pm0,Zi 0])
end
end
section
open Go.RowKit
--ATNAMES
section
variable{w:World}
def paintL:List UInt8:=[115,111,108,105,100,32,35,102,102,56,48,48,48,56,48]
def orange:Co:=(255,128,0,128)
def text1:List UInt8:=[115,99,101,110,101,32,52,32,52,32,35,102,102,102,102,102,102,102,102,10]
def text2:List UInt8:=text1++ [115,104,97,112,101,32,49,32,48,32,110,111,110,122,101,114,111,32,42,10]
def scW:Sc:=⟨4,4,(255,255,255,255),[]⟩
theorem pn_agg(P:Pn)(q:PM):X4 P q= .agg (pnC P q).toArray:=by kernel_rfl
theorem pp_e(hM:ML w):Zv 13 #[K4 paintL] w (.tuple #[.agg (pnC (Df orange) pm0).toArray,Zi 0]):=by
 refine(ppe_m (w:=w) (l:=paintL) (cw:=[35,102,102,56,48,48,48,56,48]) (k:=orange) hM (by decide+kernel) Zd (by decide+kernel) Zd (by decide+kernel) (by decide+kernel) (by decide+kernel)).mono fun e w' h=> ?_
 obtain⟨x,h1,h2,h3⟩:=h
 exact⟨x,h1.trans (congrArg (fun v=>Ending.returned (.tuple #[v,Zi 0])) (pn_agg (Df orange) pm0)),h2,fun _ _ _=>trivial⟩
theorem pt1:Qi text1=(scW,0,0):=by kernel_rfl
theorem pt2:Qi text2=(sc0,2,3):=by kernel_rfl
theorem few0{s:List UInt8}(h:(s.length≤6000)):s.getLast? =some 10→∀S,Oi ts0 0 (Nq s)= .inr S→∀N∈S.nds,Fw N:=
 fun _ S e=>all_few (fun l hl=>Nat.le_trans ((lines_sm s).1 l hl) h) (fun M hM=>by cases hM) e
theorem par_e{s:List UInt8}{sc:Sc}{n:Nat}{e:Int}(hE:ET w)(hM:ML w)(hl:s.length≤6000)(hp:Qi s=(sc,n,e)):Calls Tryz.prog 9 #[K4 s] w (K7 w (fun q:PX=> .tuple #[soV sc q.1,Zi n,Zi e]) fun q u=>Ut u q.1.1 q.2 125 sc.nds∧sc.nds.length≤q.1.2):=
 (parse_t hE hM Zo (few0 hl)).mono fun e w' h=>by
  obtain⟨q,h1,h2,h3⟩:=h
  unfold parV parG at*
  rw[hp]at h1 h3
  exact⟨q,h1,h2,h3⟩
theorem format_e(hE:ET w):Zv 7 #[soV scW (none,0)] w (.tuple #[K4 text1,Zi 0]):=by
 have t:=Th (w:=w) (S:=scW) (y:=(none,0)) (nl:=[]) (K:=2) hE ⟨rfl,Ma.nil_,fun x hx=>by cases hx⟩ (fun N hN=>by cases hN) (fun N hN=>by cases hN) Zd Zd Zk
 rw[show outV scW= .tuple #[K4 text1,Zi 0] by kernel_rfl]at t
 exact t
theorem Xe(hE:ET w)(hM:ML w):Zv 6 #[] w Zt:=by
 exact K0.enter Tryz.func6 rfl <| ZR <| ZC (fun w1 hw h=>par_e (s:=text1) (hE.below hw) (hM.below hw) Zd pt1) fun a=>ZC (fun w1 hw h=>format_e (hE.below hw)) fun _=>ZC (fun w1 hw h=>par_e (s:=text2) (hE.below hw) (hM.below hw) Zd pt2) fun c=>ZD 20 (fun w1 hw h=>pp_e (hM.below hw)) fun q=>K0.ask (D4 23 (.tmp 51) (.tmp 52) (Rf (255,255,255,255)) (Rf (255,255,255,255))) Zt Zk (fun w1 hw h=>P7 Zs) <| ZS 57 <| ZA (D4 23 (.tmp 88) (.tmp 89) (Rf (255,128,0,128)) (Rf (255,128,0,128))) Zt (fun w1 hw h=>P7 Zs) <| ZW Zt
end
end
theorem Jf{lo hi z:Int}{f:Bool}{r:WS}(h:lo≤z∧z≤hi)(h2: -9223372036854775808≤z∧z≤9223372036854775807):rdI lo hi f (Kb z::r)=some (z,true,r,f):=by
 obtain⟨h3,h4⟩:=pi_fmt h2
 have hE:Rj (Kb z) lo hi=0:=by unfold Rj;rw[if_pos h3,h4,if_neg Zo]
 have hV:Xv (Kb z) lo hi=z:=by unfold Xv;rw[if_pos hE,h4]
 rw[Yf,if_pos hE,hV]
theorem O1{z:Int}{f:Bool}{r:WS}(h2: -9223372036854775808≤z∧z≤9223372036854775807):Vq f (Kb z::r)=some (z,r,f):=by
 unfold Vq
 rw[Jf (by unfold mnI mxI;exact h2) h2];rfl
theorem E5{z:Int}{f:Bool}{r:WS}(h:0≤z∧z<0+4):Dg Ln 0 f (Kz Ln 0 z::r)=some (z,r,f):=by
 obtain⟨k,rfl⟩:∃k:Nat,z=(k:Int):=⟨z.toNat,by omega⟩
 have hk:k<4:=by omega
 match k,hk with
 |0,_=>rfl
 |1,_=>rfl
 |2,_=>rfl
 |3,_=>rfl
theorem rdW_look{z:Int}{f:Bool}{r:WS}(h:z=1∨z=2):Dg Oc 1 f (Kz Oc 1 z::r)=some (z,r,f):=by
 rcases h with rfl|rfl
 ·rfl
 ·rfl
theorem rdC_col{c:Co}{f:Bool}{r:WS}:rdC f (Pd c::r)=some (c,r,f):=by
 show(U3 (Pd c)).map _=_
 rw[colP_W];rfl
theorem Ck{q:Rat}{f:Bool}{r:WS}(h:bitsQ q≤256):rdQ f (Kr q::r)=some (q,r,f):=by
 have h8:pw 8≤pw 40:=Aa Zd
 have h1:q.num.natAbs<pw 8:=bits_8 (by unfold bitsQ at h;omega)
 have h2:q.den<pw 8:=bits_8 (by unfold bitsQ at h;omega)
 obtain⟨h3,h4⟩:=read_fmtQ (Nat.lt_of_lt_of_le h1 h8) (Nat.lt_of_lt_of_le h2 h8)
 rw[Kt,if_pos h3,h4]
theorem Jg{T:Y0}{f:Bool}{r:WS}(h:T.ok=true):En f (Oz T++r)=some (T,r,f):=by
 obtain⟨h1,h2,h3,h4,h5,h6⟩:=Y0.ok_bits h
 show En f (Kr T.a::Kr T.b::Kr T.c::Kr T.d::Kr T.e::Kr T.f::r)=_
 unfold En
 rw[Ck h1];simp only[Option.bind_some]
 rw[Ck h2];simp only[Option.bind_some]
 rw[Ck h3];simp only[Option.bind_some]
 rw[Ck h4];simp only[Option.bind_some]
 rw[Ck h5];simp only[Option.bind_some]
 rw[Ck h6];rfl
theorem rdS_fmt:∀{l:List (Int×Co)} {a:Int},0≤a→B4 a l=true→rdS false (Cb l)=some (l,false)
 | [],a,_,_=>by show rdS false []=_;unfold rdS;rfl
 |x::l,a,ha,h=>by
  have h:(decide (a≤x.1∧x.1≤65536)&&B4 x.1 l)=true:=h
  rw[Bool.and_eq_true,decide_eq_true_iff]at h
  have ih:=rdS_fmt (show 0≤x.1 by omega) h.2
  show rdS false (Kb x.1::Pd x.2::Cb l)=_
  rw[rdS_step (z:=x.1) (k:=x.2) (v:=Pd x.2::Cb l) (r:=Cb l) (O1 Zo) rdC_col,ih];rfl
theorem rdIm_fmt{m:Im}(h:Xy m=true):Xt false (Hd m)=some (m,[],false):=by
 unfold Xy at h
 rw[Bool.and_eq_true,Bool.and_eq_true,decide_eq_true_iff]at h
 obtain⟨⟨h1,h2⟩,_⟩:=h
 have hsz:=of_decide_eq_true (show decide _=true from h1)
 unfold Xt Hd
 rw[Jf Zo Zo];simp only[Option.bind_some]
 rw[Jf Zo Zo];simp only[Option.bind_some]
 unfold hexW
 rw[Ft]
 simp only[]
 have hl:=D3 m.px
 rw[if_neg (by rw[hl];omega),if_neg Zp,if_neg (by rw[hl,Int.mul_assoc,←h2];simp),flat_quads]
theorem rdPn_fmt{P:Pn}(hv:Ku P=true):Wz false (Rx P)=some (P,false):=by
 unfold Ku at hv
 rw[Bool.and_eq_true,Bool.and_eq_true,decide_eq_true_iff]at hv
 obtain⟨hok,hz,hk⟩:=hv
 unfold H7 at hk
 obtain⟨kind,co,p0x,p0y,p1x,p1y,rad,stops,spread,im,samp,T⟩:=P
 obtain⟨iw,ih,ipx⟩:=im
 simp only at hk hok
 unfold Dk T3 at hz
 simp only at hz
 by_cases k1:kind=1
 ·subst k1
  rw[if_pos rfl]at hk
  simp only[if_true]at hz
  obtain⟨_,⟨rfl,rfl⟩,⟨rfl,rfl⟩,rfl,rfl,rfl,rfl,⟨rfl,rfl,rfl⟩⟩:=hz
  have hT:=eqA_eq hk
  subst hT
  show Wz false [Pr,Pd co]=_
  rw[Uv,if_pos rfl]
  unfold Wy
  rw[rdC_col];rfl
 by_cases k4:kind=4
 ·subst k4
  rw[if_neg Zd,if_neg Zd,if_neg Zd,if_pos rfl,Bool.and_eq_true,Bool.and_eq_true,Bool.and_eq_true,Bool.or_eq_true,decide_eq_true_iff,decide_eq_true_iff]at hk
  obtain⟨hi,hs,hm,_⟩:=hk
  have hs2:0≤spread∧spread<0+4:=by
   rcases hs with hs|hs
   ·omega
   ·have:=of_decide_eq_true (show decide _=true from hs);omega
  rw[if_neg Zd,if_neg Zd,if_neg Zd,if_pos rfl]at hz
  obtain⟨rfl,⟨rfl,rfl⟩,⟨rfl,rfl⟩,rfl,_,_,rfl,_⟩:=hz
  have e:Rx ⟨4,Uq,0,0,0,0,0,[],spread,⟨iw,ih,ipx⟩,samp,T⟩=M5::Kz Ln 0 spread::Kz Oc 1 samp::(Oz T++Hd ⟨iw,ih,ipx⟩):=by unfold Rx;rw[if_neg (show¬(4:Int)=1 by decide),if_pos rfl];simp
  rw[e,Uv,if_neg Zd,if_neg Zd,if_neg Zd,if_pos rfl]
  unfold Dn
  rw[E5 hs2];simp only[Option.bind_some]
  rw[rdW_look hm];simp only[Option.bind_some]
  rw[Jg hok];simp only[Option.bind_some]
  rw[rdIm_fmt hi];simp only[Option.bind_some]
  rfl
 by_cases k2:kind=2
 ·subst k2
  rw[if_neg Zd,if_pos rfl,Bool.and_eq_true,Bool.and_eq_true,Bool.and_eq_true,Bool.and_eq_true]at hk
  obtain⟨hp0,hp1,⟨hst,hsp⟩,_⟩:=hk
  have hr0:=Pq hp0
  have hr1:=Pq hp1
  have hs2:0≤spread∧spread<0+4:=by have:=of_decide_eq_true (show decide (1≤spread∧spread≤3)=true from hsp);omega
  unfold Ny at hst
  rw[Bool.and_eq_true]at hst
  rw[if_neg Zd,if_pos rfl]at hz
  obtain⟨rfl,_,_,rfl,_,rfl,_,⟨rfl,rfl,rfl⟩⟩:=hz
  have e:Rx ⟨2,Uq,p0x,p0y,p1x,p1y,0,stops,spread,⟨0,0,[]⟩,0,T⟩=Qc::Kb p0x::Kb p0y::Kb p1x::Kb p1y::Kz Ln 0 spread::(Oz T++Cb stops):=by unfold Rx;rw[if_neg (show¬(2:Int)=1 by decide),if_neg (show¬(2:Int)=4 by decide),if_pos rfl];simp
  rw[e,Uv,if_neg Zd,if_pos rfl]
  unfold Dp Iw
  rw[O1 Zo];simp only[Option.bind_some]
  rw[O1 Zo];simp only[Option.bind_some,Option.map_some]
  rw[O1 Zo];simp only[Option.bind_some]
  rw[O1 Zo];simp only[Option.bind_some,Option.map_some]
  rw[E5 hs2];simp only[Option.bind_some]
  rw[Jg hok];simp only[Option.bind_some]
  rw[rdS_fmt (Int.le_refl 0) hst.2];rfl
 by_cases k3:kind=3
 ·subst k3
  rw[if_neg Zd,if_neg Zd,if_pos rfl,Bool.and_eq_true,Bool.and_eq_true,Bool.and_eq_true,Bool.and_eq_true,decide_eq_true_iff]at hk
  obtain⟨hp0,hrad,⟨hst,hsp⟩,_⟩:=hk
  have hr0:=Pq hp0
  have hs2:0≤spread∧spread<0+4:=by have:=of_decide_eq_true (show decide (1≤spread∧spread≤3)=true from hsp);omega
  unfold Ny at hst
  rw[Bool.and_eq_true]at hst
  rw[if_neg Zd,if_neg Zd,if_pos rfl]at hz
  obtain⟨rfl,_,⟨rfl,rfl⟩,_,_,rfl,_,⟨rfl,rfl,rfl⟩⟩:=hz
  have e:Rx ⟨3,Uq,p0x,p0y,0,0,rad,stops,spread,⟨0,0,[]⟩,0,T⟩=Qp::Kb p0x::Kb p0y::Kb rad::Kz Ln 0 spread::(Oz T++Cb stops):=by unfold Rx;rw[if_neg (show¬(3:Int)=1 by decide),if_neg (show¬(3:Int)=4 by decide),if_neg (show¬(3:Int)=2 by decide)];simp
  rw[e,Uv,if_neg Zd,if_neg Zd,if_pos rfl]
  unfold Dm Iw
  rw[O1 Zo];simp only[Option.bind_some]
  rw[O1 Zo];simp only[Option.bind_some,Option.map_some]
  rw[O1 Zo];simp only[Option.bind_some]
  rw[E5 hs2];simp only[Option.bind_some]
  rw[Jg hok];simp only[Option.bind_some]
  rw[rdS_fmt (Int.le_refl 0) hst.2];rfl
 rw[if_neg k1,if_neg k2,if_neg k3,if_neg k4]at hk;cases hk
def Pl(x:List UInt8):Prop:=x≠[]∧∀b∈x,Mf b=true
theorem mem_joinBy{c b:UInt8}:∀{l:List (List UInt8)},b∈Nb c l→b=c∨∃x∈l,b∈x
 | [],h=>by cases h
 | [x],h=> .inr ⟨x,by simp,h⟩
 | x::y::l,h=>by
  have h:b∈x++c::Nb c (y::l):=h
  rcases List.mem_append.1 h with h|h
  ·exact .inr ⟨x,by simp,h⟩
  ·rcases List.mem_cons.1 h with h|h
   ·exact .inl h
   ·rcases mem_joinBy h with h|⟨z,h1,h2⟩
    ·exact .inl h
    ·exact .inr ⟨z,List.mem_cons_of_mem _ h1,h2⟩
theorem join_lf{ws:WS}:(10:UInt8)∉Lr ws:=fun h=>by
 rcases mem_joinBy h with h|⟨x,h1,h2⟩
 ·exact absurd h Zd
 ·obtain⟨y,_,rfl⟩:=List.mem_map.1 h1
  rcases quo_mem h2 with k|k
  ·exact absurd k (by decide+kernel)
  ·exact absurd k Zd
theorem lines_sc{S:Sc}:Nq (F6 S)=scL S:=lines_plain fun x hx=>by
 unfold scL at hx
 rcases List.mem_cons.1 hx with rfl|hx
 ·exact join_lf
 ·obtain⟨N,_,h⟩:=List.mem_flatMap.1 hx
  obtain⟨ws,_,rfl⟩:=List.mem_map.1 h
  exact join_lf
theorem last_sc{S:Sc}:(F6 S).getLast? =some 10:=by
 unfold F6
 rw[joinN_by (by unfold scL;simp),List.getLast?_concat]
section
variable{S x:TS}{k:List UInt8}{ws r:WS}{pre:List Nd}{M N:Nd}{i:Nat}{l:List UInt8}{ls:List (List UInt8)}
theorem Y8(h:Xs S k ws=some (x,[],false)):P8 S (Lr (k::ws))=some x:=by
 rw[rdTake_un,words_join,(Dw _).2,if_pos rfl,(Dw _).1]
 show(Xs S k ws).bind endL=some x
 rw[h]
 rfl
theorem Te(h:P8 {S with ln:=i} l=some x):Oi S i (l::ls)=Oi x (i+1) ls:=by rw[rdAll_cons,h]
theorem Jk(h1:k≠V7)(h2:Ue k=0)(hS:S.nds=pre++ [M]):Xs S k ws=Qh S M k ws:=by
 unfold Xs
 rw[if_neg h1,if_neg (fun h=>h h2),hS,List.getLast?_concat]
theorem tr_step{T:Y0}(hS:S.nds=pre++ [M])(hw:S.wh=1)(hT:T.ok=true):P8 S (Lr (W6::Oz T))=some {S with nds:=pre++ [{M with T:=T}],wh:=2}:=by
 refine Y8 ?_
 rw[Jk Zd Zd hS]
 unfold Qh
 have h:=Jg (f:=false) (r:=[]) hT
 rw[List.append_nil]at h
 rw[if_pos rfl,if_pos hw,h,Option.map_some,hS,Ru]
theorem rdW_rule{z:Int}{f:Bool}(h:R4 z=true):Dg Na 1 f (Kz Na 1 z::r)=some (z,r,f):=by
 unfold R4 at h
 rw[Bool.or_eq_true,beq_iff_eq,beq_iff_eq]at h
 rcases h with rfl|rfl<;>rfl
theorem rdPath_fmt{p:List Sg}{f:Bool}(h:Pt p=true):Vd f (Rq p::r)=some (p,r,f):=by
 rw[show Vd f (Rq p::r)=if (Mp (Rq p)).2.2=0 then some ((Mp (Rq p)).1,r,f)else if (Mp (Rq p)).2.2=6 then some ([],r,true)else none from rfl,parse_fmtP h,if_pos rfl]
theorem clip_step{z:Int}{p:List Sg}(hS:S.nds=pre++ [M])(hw:S.wh=2)(hr:R4 z=true)(hp:Pt p=true):P8 S (Lr [clipN,Kz Na 1 z,Rq p])=some {S with nds:=pre++ [{M with crule:=z,clip:=p}],wh:=3}:=by
 refine Y8 ?_
 rw[Jk Zd Zd hS]
 unfold Qh
 rw[if_neg Zd,if_pos rfl,if_pos hw,rdW_rule hr,Option.bind_some]
 simp only
 rw[rdPath_fmt hp,Option.map_some,hS,Ru]
theorem fill_step{P:Pn}(hS:S.nds=pre++ [M])(hk:M.kind=2)(hw:2≤S.wh∧S.wh<4)(hv:Ku P=true):P8 S (Lr (Pb P))=some {S with nds:=pre++ [{M with fill:=[P]}],wh:=4}:=by
 refine Y8 (k:=fillN) ?_
 rw[Jk Zd Zd hS]
 unfold Qh
 rw[if_neg Zd,if_neg Zd,if_pos rfl,if_pos ⟨hk,hw⟩,rdPn_fmt hv,Option.map_some,hS,Ru]
theorem rdNs_fmt:∀{d:List Int},(∀z∈d,-9223372036854775808≤z∧z≤9223372036854775807)→E6 d.length false (d.map Kb++r)=some (d,r,false)
 | [],_=>rfl
 |z::d,h=>by
  show E6 (d.length+1) false (Kb z::(d.map Kb++r))=_
  rw[Cm,O1 (h z Zs),Option.bind_some]
  simp only
  rw[rdNs_fmt fun y hy=>h y (by simp[hy]),Option.map_some]
theorem rdW_join{z:Int}{f:Bool}(h:1≤z∧z<4):Dg Sp 1 f (Kz Sp 1 z::r)=some (z,r,f):=by
 rcases(by omega:z=1∨z=2∨z=3)with rfl|rfl|rfl<;>rfl
theorem rdW_cap{z:Int}{f:Bool}(h:3≤z∧z<6):Dg Xh 3 f (Kz Xh 3 z::r)=some (z,r,f):=by
 rcases(by omega:z=3∨z=4∨z=5)with rfl|rfl|rfl<;>rfl
theorem rdPen_fmt{s:Jt}(h:P6 s=true):A9 false (Bk s++r)=some (s,r,false):=by
 obtain⟨h1,h2,h3,h4,h5,h6⟩:=J6 h
 obtain⟨h7,h8⟩:=Fu h6
 show A9 false (Kb s.w::Kz Sp 1 s.j::Kz Xh 3 s.c::Kb s.m::Kb s.p::Kb (s.d.length:Int)::(s.d.map Kb++r))=_
 unfold A9
 rw[O1 Zo];simp only[Option.bind_some]
 rw[rdW_join Zo];simp only[Option.bind_some]
 rw[rdW_cap Zo];simp only[Option.bind_some]
 rw[O1 Zo];simp only[Option.bind_some]
 rw[O1 Zo];simp only[Option.bind_some]
 obtain⟨p1,p2⟩:=pi_fmt (n:=(s.d.length:Int)) Zo
 rw[show rdDs false (Kb (s.d.length:Int)::(s.d.map Kb++r))=if Aj (Kb (s.d.length:Int))≠0∨Ry (Kb (s.d.length:Int))<0∨Ry (Kb (s.d.length:Int))>((s.d.map Kb++r).length:Int)then none else E6 (Ry (Kb (s.d.length:Int))).toNat false (s.d.map Kb++r)from rfl,p1,p2,if_neg Zp,Int.toNat_natCast,rdNs_fmt fun z hz=>by have:=h7 z hz;omega]
 rfl
theorem stroke_step{P:Pn}{s:Jt}(hS:S.nds=pre++ [M])(hk:M.kind=2)(hw:2≤S.wh∧S.wh<5)(hs:P6 s=true)(hv:Ku P=true):P8 S (Lr (Lg s P))=some {S with nds:=pre++ [{M with sty:=s,stroke:=[P]}],wh:=5}:=by
 refine Y8 (k:=J7) ?_
 rw[Jk Zd Zd hS]
 unfold Qh
 rw[if_neg Zd,if_neg Zd,if_neg Zd,if_pos rfl,if_pos ⟨hk,hw⟩,rdPen_fmt hs,Option.bind_some]
 simp only
 rw[rdPn_fmt hv,Option.map_some,hS,Ru]
def R8(N:Nd):Nd:=if N.kind=1 then{Ga with id:=N.id,kind:=1,dep:=N.dep,op:=N.op,bl:=N.bl,iso:=N.iso,ko:=N.ko}else if N.kind=2 then{Ga with id:=N.id,kind:=2,dep:=N.dep,frule:=N.frule,path:=N.path}else{Ga with id:=N.id,kind:=3,dep:=N.dep,samp:=N.samp,im:=N.im}
theorem rdMd_fmt{z:Int}{f:Bool}(h:1≤z∧z≤13):rdMd f (Kz Ms 1 z::r)=some (z,r,f):=by
 rcases(by omega:z=1∨z=2∨z=3∨z=4∨z=5∨z=6∨z=7∨z=8∨z=9∨z=10∨z=11∨z=12∨z=13)with rfl|rfl|rfl|rfl|rfl|rfl|rfl|rfl|rfl|rfl|rfl|rfl|rfl<;>rfl
theorem rdBit_fmt{b f:Bool}:Fc f (bitW b::r)=some (b,r,f):=by cases b<;>rfl
theorem head_fmt(hv:Lm N=true):∃k r,Md N=k::r∧Ue k=N.kind∧k≠V7∧Mz N.kind false r=some (R8 N,[],false):=by
 obtain⟨hk,hid,hdep,hok,hclip,hcl,hbare,ho⟩:=Ve hv
 unfold ownB at ho
 unfold Md R8
 have q1: -9223372036854775808≤N.id∧N.id≤9223372036854775807:=by omega
 have q2: -9223372036854775808≤N.dep∧N.dep≤9223372036854775807:=by omega
 by_cases k1:N.kind=1
 ·rw[if_pos k1]at ho ⊢
  rw[if_pos k1,k1]
  refine⟨Ze,_,rfl,rfl,by decide,?_⟩
  unfold Xc at ho
  rw[Bool.and_eq_true,decide_eq_true_iff,decide_eq_true_iff]at ho
  have hop:=op_rng N.op
  unfold Mz
  rw[O1 q1];simp only[Option.bind_some]
  rw[O1 q2];simp only[Option.bind_some]
  rw[if_pos trivial,Jf Zo Zo];simp only[Option.bind_some]
  rw[rdMd_fmt Zo];simp only[Option.bind_some]
  rw[rdBit_fmt];simp only[Option.bind_some]
  rw[rdBit_fmt,Option.map_some]
  simp
 rw[if_neg k1]at ho ⊢
 rw[if_neg k1]
 by_cases k2:N.kind=2
 ·rw[if_pos k2]at ho ⊢
  rw[if_pos k2,k2]
  refine⟨Z6,_,rfl,rfl,by decide,?_⟩
  unfold V4 at ho
  simp only[Bool.and_eq_true]at ho
  unfold Mz
  rw[O1 q1];simp only[Option.bind_some]
  rw[O1 q2];simp only[Option.bind_some]
  rw[if_neg Zd,if_pos trivial,rdW_rule ho.2.1];simp only[Option.bind_some]
  rw[rdPath_fmt ho.1,Option.map_some]
 ·rw[if_neg k2]at ho ⊢
  rw[if_neg k2]
  have k3:N.kind=3:=by omega
  rw[k3]
  refine⟨Bs,_,rfl,rfl,by decide,?_⟩
  simp only[Bool.and_eq_true,Bool.not_eq_true',Bool.and_eq_false_iff,bne_eq_false_iff_eq]at ho
  unfold Mz
  show((Vq false (Kb N.id::Kb N.dep::Kz Oc 1 N.samp::Hd N.im)).bind _)=_
  rw[O1 q1];simp only[Option.bind_some]
  rw[O1 q2];simp only[Option.bind_some]
  rw[if_neg Zd,if_neg Zd,rdW_look ho.2];simp only[Option.bind_some]
  rw[rdIm_fmt ho.1,Option.map_some]
theorem bare_fmt(hv:Lm N=true):{R8 N with T:=N.T,crule:=N.crule,clip:=N.clip,fill:=N.fill,sty:=N.sty,stroke:=N.stroke}=N:=by
 obtain⟨hk,hid,hdep,hok,hclip,hcl,hbare,ho⟩:=Ve hv
 obtain⟨id,kind,dep,T,clip,crule,op,bl,iso,ko,path,frule,fill,sty,stroke,im,samp⟩:=N
 simp only at hk hbare
 rcases(by omega:kind=1∨kind=2∨kind=3)with rfl|rfl|rfl
 ·obtain⟨iw,ih,ip⟩:=im
  simp[T6,Ui,Ow,Xw]at hbare
  clear hv hid hdep hok hclip hcl ho
  simp_all [R8,Ga,Di]
 ·obtain⟨iw,ih,ip⟩:=im
  simp[T6,Ee,Xw]at hbare
  clear hv hid hdep hok hclip hcl ho
  simp_all [R8,Ga,Di]
  exact UInt8.toNat_inj.1 (by rw[hbare.1.1.1.1];rfl)
 ·simp[T6,Ee,Ui,Ow]at hbare
  clear hv hid hdep hok hclip hcl ho
  simp_all [R8,Ga]
  exact UInt8.toNat_inj.1 (by rw[hbare.1.1.1.1];rfl)
theorem headN_kind(h:1≤N.kind∧N.kind≤3):(R8 N).kind=N.kind:=by
 unfold R8
 split
 ·rename_i e;exact e.symm
 split
 ·rename_i e;exact e.symm
 ·show(3:Int)=N.kind;omega
structure Mid(S0 S:TS)(M:Nd)(a b:Int):Prop where
 nds:S.nds=S0.nds++ [M]
 wh:a≤S.wh∧S.wh<b
 w:S.w=S0.w
 h:S.h=S0.h
 bg:S.bg=S0.bg
 far:S.far=S0.far
theorem clip_all{S0:TS}(m:Mid S0 S M 2 3)(hp:Pt N.clip=true)(hc:Qe N=true)(h1:M.clip=[])(h2:M.crule=0):∃S',Oi S i ((Sx N).map Lr++ls)=Oi S' (i+(Sx N).length) ls∧Mid S0 S' {M with crule:=N.crule,clip:=N.clip} 2 4:=by
 unfold Sx Qe at*
 by_cases h:N.clip.length=0
 ·rw[if_pos h]at hc ⊢
  have h0:N.clip=[]:=List.length_eq_zero_iff.1 h
  refine⟨S,rfl,by rw[m.nds,beq_iff_eq.1 hc,h0,←h1,←h2],by have:=m.wh;omega,m.w,m.h,m.bg,m.far⟩
 ·rw[if_neg h]at hc ⊢
  exact⟨_,Te (clip_step (S:={S with ln:=i}) m.nds (by have:=m.wh;show S.wh=2;omega) hc hp),rfl,by show(2:Int)≤3∧(3:Int)<4;omega,m.w,m.h,m.bg,m.far⟩
theorem fill_all{S0:TS}(m:Mid S0 S M 2 4)(hn:N.fill.length≤1)(hv:∀P∈N.fill,Ku P=true)(h1:M.fill=[])(hk:N.fill≠[]→M.kind=2):∃S',Oi S i (N.fill.map (fun P=>Lr (Pb P))++ls)=Oi S' (i+N.fill.length) ls∧Mid S0 S' {M with fill:=N.fill} 2 5:=by
 cases hf:N.fill with
 |nil=>exact⟨S,rfl,by rw[m.nds,←h1],by have:=m.wh;omega,m.w,m.h,m.bg,m.far⟩
 |cons P l=>
  rw[hf]at hn hv hk
  obtain rfl:l=[]:=by simpa using hn
  exact⟨_,Te (fill_step (S:={S with ln:=i}) m.nds (hk Zs) m.wh (hv P Zs)),rfl,by show(2:Int)≤4∧(4:Int)<5;omega,m.w,m.h,m.bg,m.far⟩
theorem stroke_all{S0:TS}(m:Mid S0 S M 2 5)(hn:N.stroke.length≤1)(hv:∀P∈N.stroke,Ku P=true)(hs:N.stroke.length≠0→P6 N.sty=true)(h1:M.stroke=[])(h2:N.stroke=[]→N.sty=M.sty)(hk:N.stroke≠[]→M.kind=2):∃S',Oi S i (N.stroke.map (fun P=>Lr (Lg N.sty P))++ls)=Oi S' (i+N.stroke.length) ls∧Mid S0 S' {M with sty:=N.sty,stroke:=N.stroke} 2 6:=by
 cases hf:N.stroke with
 |nil=>exact⟨S,rfl,by rw[m.nds,←h1,h2 hf],by have:=m.wh;omega,m.w,m.h,m.bg,m.far⟩
 |cons P l=>
  rw[hf]at hn hv hk hs
  obtain rfl:l=[]:=by simpa using hn
  exact⟨_,Te (stroke_step (S:={S with ln:=i}) m.nds (hk Zs) m.wh (hs Zs) (hv P Zs)),rfl,by show(2:Int)≤5∧(5:Int)<6;omega,m.w,m.h,m.bg,m.far⟩
theorem headN_bare:(R8 N).clip=[]∧(R8 N).crule=0∧(R8 N).fill=[]∧(R8 N).stroke=[]∧(R8 N).sty=sty0:=by
 unfold R8
 split
 ·exact⟨rfl,rfl,rfl,rfl,rfl⟩
 split<;>exact⟨rfl,rfl,rfl,rfl,rfl⟩
theorem styZ_eq{s:Jt}(h:Ow s=true):s=sty0:=by
 obtain⟨a,b,c,d,e,f⟩:=s
 simp[Ow]at h
 simp_all [sty0]
theorem node_fmt(hv:Lm N=true)(hi:0<i)(hw:S.wh≠1):∃S2,Oi S i ((R6 N).map Lr++ls)=Oi S2 (i+(R6 N).length) ls∧Mid S S2 N 2 6:=by
 obtain⟨hk,hid,hdep,hok,hclip,hcl,hbare,ho⟩:=Ve hv
 obtain⟨hn1,hfv,hsv,hsty⟩:=Gw hv
 obtain⟨k,r,e1,e2,e3,e4⟩:=head_fmt hv
 have hb:=bare_fmt hv
 have hkH:=headN_kind hk
 obtain⟨b1,b2,b3,b4,b5⟩:=headN_bare (N:=N)
 have hf2:(N.kind≠2→N.fill=[]∧N.stroke=[])∧(N.stroke=[]→N.sty=sty0):=by
  unfold T6 at hbare
  by_cases k1:N.kind=1
  ·rw[if_pos k1,Bool.and_eq_true,Bool.and_eq_true]at hbare
   have hb1:=hbare.1.1
   simp[Ui]at hb1
   exact⟨fun _=>⟨hb1.1.2,hb1.2⟩,fun _=>styZ_eq hbare.1.2⟩
  ·rw[if_neg k1]at hbare
   by_cases k2:N.kind=2
   ·refine⟨fun h=>absurd k2 h,fun h=> ?_⟩
    unfold ownB at ho
    rw[if_neg k1,if_pos k2]at ho
    unfold V4 penB at ho
    rw[h]at ho
    simp only[List.length_nil,if_true,Bool.and_eq_true]at ho
    exact styZ_eq ho.2.2.2.1
   ·rw[if_neg k2,Bool.and_eq_true,Bool.and_eq_true]at hbare
    have hb1:=hbare.2.1
    simp[Ui]at hb1
    exact⟨fun _=>⟨hb1.1.2,hb1.2⟩,fun _=>styZ_eq hbare.2.2⟩
 have s1:P8 {S with ln:=i} (Lr (Md N))=some {S with ln:=i,nds:=S.nds++ [R8 N],wh:=1}:=by
  rw[e1]
  refine Y8 ?_
  unfold Xs
  rw[if_neg e3,e2,if_pos Zo,if_pos ⟨hw,hi⟩,e4,Option.map_some]
 have s2:=tr_step (S:={S with ln:=i+1,nds:=S.nds++ [R8 N],wh:=1}) (T:=N.T) rfl rfl hok
 have m2:Mid S {S with ln:=i+1,nds:=S.nds++ [{R8 N with T:=N.T}],wh:=2} {R8 N with T:=N.T} 2 3:=⟨rfl,by show(2:Int)≤2∧(2:Int)<3;omega,rfl,rfl,rfl,rfl⟩
 obtain⟨S3,t3,m3⟩:=clip_all (N:=N) (i:=i+1+1) (ls:=N.fill.map (fun P=>Lr (Pb P))++(N.stroke.map (fun P=>Lr (Lg N.sty P))++ls)) m2 hclip hcl b1 b2
 obtain⟨S4,t4,m4⟩:=fill_all (N:=N) (i:=i+1+1+(Sx N).length) (ls:=N.stroke.map (fun P=>Lr (Lg N.sty P))++ls) m3 hn1.1 hfv b3 (fun h=>by show(R8 N).kind=2;rw[hkH];exact Classical.byContradiction fun h2=>h (hf2.1 h2).1)
 obtain⟨S5,t5,m5⟩:=stroke_all (N:=N) (i:=i+1+1+(Sx N).length+N.fill.length) (ls:=ls) m4 hn1.2 hsv hsty b4 (fun h=>by rw[hf2.2 h];exact b5.symm) (fun h=>by show(R8 N).kind=2;rw[hkH];exact Classical.byContradiction fun h2=>h (hf2.1 h2).2)
 refine⟨S5,?_,by rw[←hb];exact m5⟩
 have el:(R6 N).map Lr++ls=Lr (Md N)::Lr (W6::Oz N.T)::((Sx N).map Lr++(N.fill.map (fun P=>Lr (Pb P))++(N.stroke.map (fun P=>Lr (Lg N.sty P))++ls))):=by
  unfold R6
  simp[Function.comp_def]
  rfl
 rw[el,Te s1,Te (x:={S with ln:=i+1,nds:=S.nds++ [{R8 N with T:=N.T}],wh:=2}) s2,t3,t4,t5]
 congr 1
 unfold R6
 simp only[List.length_cons,List.length_append,List.length_map]
 omega
theorem nodes_fmt:∀{l:List Nd} {S:TS} {i:Nat},(∀N∈l,Lm N=true)→0<i→S.wh≠1→∃S2 j,Oi S i (l.flatMap fun N=>(R6 N).map Lr)=Oi S2 j []∧S2.nds=S.nds++l∧S2.wh≠1∧S2.w=S.w∧S2.h=S.h∧S2.bg=S.bg∧S2.far=S.far
 | [],S,i,_,_,hw=>⟨S,i,rfl,by simp,hw,rfl,rfl,rfl,rfl⟩
 |N::l,S,i,hv,hi,hw=>by
  obtain⟨S1,t1,m⟩:=node_fmt (ls:=l.flatMap fun N=>(R6 N).map Lr) (hv N Zs) hi hw
  obtain⟨S2,j,t2,e1,e2,e3,e4,e5,e6⟩:=nodes_fmt (l:=l) (S:=S1) (i:=i+(R6 N).length) (fun M hM=>hv M (by simp[hM])) Zo (by have:=m.wh;omega)
  exact⟨S2,j,by rw[List.flatMap_cons,t1,t2],by rw[e1,m.nds];simp,e2,e3.trans m.w,e4.trans m.h,e5.trans m.bg,e6.trans m.far⟩
theorem rd_fmt{S:Sc}(hv:Ai S=true):∃T:TS,Oi ts0 0 (Nq (F6 S))= .inr T∧T.sc=S∧T.far= -1:=by
 obtain⟨hz,_,hn⟩:=F5 hv
 unfold I5 at hz
 simp only[Bool.or_eq_false_iff,decide_eq_false_iff_not]at hz
 have s0:P8 {ts0 with ln:=0} (Lr (Y9 S))=some {ts0 with ln:=0,w:=S.w,h:=S.h,bg:=S.bg}:=by
  refine Y8 (k:=V7) ?_
  unfold Xs
  rw[if_pos rfl,if_pos rfl,O1 Zo];simp only[Option.bind_some]
  rw[O1 Zo];simp only[Option.bind_some]
  rw[rdC_col,Option.map_some]
  rfl
 obtain⟨S2,j,t,e1,e2,e3,e4,e5,e6⟩:=nodes_fmt (l:=S.nds) (S:={ts0 with ln:=0,w:=S.w,h:=S.h,bg:=S.bg}) (i:=1) hn Zo (by show(0:Int)≠1;decide)
 refine⟨{S2 with ln:=j},?_,?_,e6⟩
 ·rw[lines_sc]
  show Oi ts0 0 (Lr (Y9 S)::S.nds.flatMap fun N=>(R6 N).map Lr)=_
  rw[Te s0,t,Oi,if_neg e2]
 ·show(⟨S2.w,S2.h,S2.bg,S2.nds⟩:Sc)=S
  rw[e1,e3,e4,e5]
  rfl
theorem parse_fmt{S:Sc}(hv:Ai S=true)(hl:(F6 S).length≤65536):Qi (F6 S)=(S,0,0):=by
 obtain⟨T,hr,hS,hf⟩:=rd_fmt hv
 unfold Qi
 rw[if_neg Zo,if_neg (fun h=>h last_sc),hr]
 show(if 0≤T.far then _ else if Ai T.sc=true∧F6 T.sc=F6 S then _ else _)=_
 rw[hS,if_neg (by rw[hf];decide),if_pos ⟨hv,rfl⟩]
end
section
variable{w:World}{K n c c2:Nat}{A A2:Option Addr}{ls:List Sg}{N:Nd}{q q2:ND}{S:Sc}
theorem rsame_sg(h1:Qt w A n ls)(h2:Qt w A2 n ls)(hn:n≤1000000000):Zv 48 #[.slice A n c,.slice A2 n c2] w Zt:=by
 have hln:=h1.1
 refine K0.enter Tryz.func48 rfl <| ZR <| ZJ (((n:Int) !=(n:Int))) false (bne_self_eq_false _) <| K0.loop (ι:={q:Nat // q≤n}) 26 (fun q=>⟨[(0,.v (.slice A n c)),(1,.v (.slice A2 n c2)),(5,.v (Zi q.1))],[]⟩) (fun q u=>True) (fun q=>n-q.1) (⟨0,Nat.zero_le _⟩) Zk (fun _=>by kernel_rfl) ⟨Zk,Zk,Zk⟩ (fun u h=>trivial) ?_
 rintro⟨k,hk⟩ gg
 have hk:k≤n:=hk
 by_cases hlt:k<n
 case neg=>
  obtain rfl:k=n:=by omega
  exact ZR <| ZJ (decide ((k:Int)<(k:Int))) false Zs <| K0.leave Zk <| ZR <| ZW Zt
 obtain⟨x,hx⟩:∃x,ls[k]? =some x:=⟨_,List.getElem?_eq_getElem Zo⟩
 obtain⟨a,hA,hc⟩:=h1.2 k x hx
 obtain⟨b,hB,hd⟩:=h2.2 k x hx
 refine ZR <| K0.condr (decide ((k:Int)<(n:Int))) true Zk Zp <| ZS 2 <| K0.askAt 2 (Kj 43 (.slice A n c) k) (.pointer (some (a.add (k*7)))) Zk (fun w1 hw h=>Sd hA hlt) <| ZS 3 <| K0.askAt 3 (L5 150 (a.add (k*7))) (x.val) Zk (fun w1 hw h=>Ya fun j v hj=>Lc hw (hc j v hj)) <| ZS 6 <| K0.askAt 6 (Kj 43 (.slice A2 n c2) k) (.pointer (some (b.add (k*7)))) Zk (fun w1 hw h=>Sd hB hlt) <| ZS 7 <| K0.askAt 7 (L5 150 (b.add (k*7))) (x.val) Zk (fun w1 hw h=>Ya fun j v hj=>Lc hw (hd j v hj)) <| ZS 8 <| ZB 8 (Xa 150 (.tmp 20) (.tmp 24) x.val x.val) Zf (fun w1 hw h=>by rw[run_neS_sg,Sg.beq_iff.2 rfl];rfl) <| ZI false <| K0.slot 5 (Zi (IntKind.i64.wrap ((k:Int)+1))) (Zi ((k+1:Nat):Int)) Zk (by rw[Kd hlt Zo]) <| K0.next (⟨k+1,by show k+1≤n;omega⟩) Zk (by show n- (k+1)<n-k;omega) ⟨Zk,Zk,Zk⟩ (fun u h=>trivial)
theorem rsame_ps{l l2:List (Pn×PM)}{Ps:List Pn}(h1:Vw w A l K Ps)(h2:Vw w A2 l2 K Ps)(hK:2≤K∧K≤1000)(hn:Ps.length≤1000000000)(hf:∀P∈Ps,P.stops.length≤1000000000∧P.im.px.length≤1000000000):Zv 49 #[.slice A Ps.length c,.slice A2 Ps.length c2] w Zt:=by
 obtain⟨n,hnn⟩:∃n,n=Ps.length:=⟨_,rfl⟩
 rw[←hnn]
 refine K0.enter Tryz.func49 rfl <| ZR <| ZJ (((n:Int) !=(n:Int))) false (bne_self_eq_false _) <| K0.loop (ι:={q:Nat // q≤n}) 27 (fun q=>⟨[(0,.v (.slice A n c)),(1,.v (.slice A2 n c2)),(5,.v (Zi q.1))],[]⟩) (fun q u=>True) (fun q=>n-q.1) (⟨0,Nat.zero_le _⟩) Zk (fun _=>by kernel_rfl) ⟨Zk,Zk,Zk⟩ (fun u h=>trivial) ?_
 rintro⟨k,hk⟩ gg
 have hk:k≤n:=hk
 by_cases hlt:k<n
 case neg=>
  obtain rfl:k=n:=by omega
  exact ZR <| ZJ (decide ((k:Int)<(k:Int))) false Zs <| K0.leave Zk <| ZR <| ZW Zt
 obtain⟨P,hx⟩:∃x,Ps[k]? =some x:=⟨_,List.getElem?_eq_getElem Zo⟩
 obtain⟨p,hx1,r1⟩:=h1.get hx
 obtain⟨p2,hx2,r2⟩:=h2.get hx
 obtain⟨a,hA,hc⟩:=h1.row.2 k _ hx1
 obtain⟨b,hB,hd⟩:=h2.row.2 k _ hx2
 have hfP:=hf P (List.mem_of_getElem? hx)
 refine ZR <| K0.condr (decide ((k:Int)<(n:Int))) true Zk Zp <| ZS 2 <| K0.askAt 2 (Kj 44 (.slice A n c) k) (.pointer (some (a.add (k*40)))) Zk (fun w1 hw h=>U1 hA hlt) <| ZS 3 <| K0.askAt 3 (L5 60 (a.add (k*40))) (.agg (pC2 (P,p)).toArray) Zk (fun w1 hw h=>Vy fun j v hj=>Lc hw (hc j v hj)) <| ZS 6 <| K0.askAt 6 (Kj 44 (.slice A2 n c2) k) (.pointer (some (b.add (k*40)))) Zk (fun w1 hw h=>U1 hB hlt) <| ZS 7 <| ZB 7 (L5 60 (b.add (k*40))) (.agg (pC2 (P,p2)).toArray) (fun w1 hw h=>Vy fun j v hj=>Lc hw (hd j v hj)) <| ZC (fun w1 hw h=>requal_v (P:=P) (r1.below hw) (r2.below hw) hK hfP) fun _=>K0.weak Zk (fun u h=>h.1) <| ZI false <| K0.slot 5 (Zi (IntKind.i64.wrap ((k:Int)+1))) (Zi ((k+1:Nat):Int)) Zk (by rw[Kd hlt Zo]) <| K0.next (⟨k+1,by show k+1≤n;omega⟩) Zk (by show n- (k+1)<n-k;omega) ⟨Zk,Zk,Zk⟩ (fun u h=>trivial)
theorem rsame_sty{T:Jt}{y y2:Option Addr×Nat}(h1:Ma w y.1 T.d.length 1 daC T.d)(h2:Ma w y2.1 T.d.length 1 daC T.d)(hn:T.d.length≤1000000000):Zv 50 #[styV T y,styV T y2] w Zt:=by
 refine K0.enter Tryz.func50 rfl <| ZS 6 <| K0.slot 11 (.bool (T.w !=T.w)) Zf Zk (by rw[bne_self_eq_false]) <| ZS 13 <| K0.slot 18 (.bool (T.j !=T.j)) Zf Zk (by rw[bne_self_eq_false]) <| ZS 20 <| K0.slot 25 (.bool (T.c !=T.c)) Zf Zk (by rw[bne_self_eq_false]) <| ZS 27 <| K0.slot 32 (.bool (T.m !=T.m)) Zf Zk (by rw[bne_self_eq_false]) <| ZS 34 <| ZT 39 (.bool (T.p !=T.p)) Zf (by rw[bne_self_eq_false]) <| ZJ (((T.d.length:Int) !=(T.d.length:Int))) false (bne_self_eq_false _) <| K0.loop (ι:={q:Nat // q≤T.d.length}) 66 (fun q=>⟨[(2,.p 2 0),(3,.p 3 0),(5,.v (Zi q.1))],[(2,[.v (Zi T.w),.v (Zi T.j),.v (Zi T.c),.v (Zi T.m),.v (.slice y.1 T.d.length y.2),.v (Zi T.p)]),(3,[.v (Zi T.w),.v (Zi T.j),.v (Zi T.c),.v (Zi T.m),.v (.slice y2.1 T.d.length y2.2),.v (Zi T.p)])]⟩) (fun q u=>True) (fun q=>T.d.length-q.1) (⟨0,Nat.zero_le _⟩) Zk (fun _=>by kernel_rfl) ⟨Zk,Zk,Zk⟩ (fun u h=>trivial) ?_
 rintro⟨k,hk⟩ gg
 have hk:k≤T.d.length:=hk
 by_cases hlt:k<T.d.length
 case neg=>
  have hkn:T.d.length=k:=by omega
  exact ZR <| ZJ (decide ((k:Int)<(T.d.length:Int))) false Zp <| K0.leave Zk <| ZR <| ZW Zt
 obtain⟨z,hx⟩:∃x,T.d[k]? =some x:=⟨_,List.getElem?_eq_getElem Zo⟩
 obtain⟨a,hA,hc⟩:=h1.2 k z hx
 obtain⟨b,hB,hd⟩:=h2.2 k z hx
 refine ZR <| K0.condr (decide ((k:Int)<(T.d.length:Int))) true Zk Zp <| ZS 3 <| K0.askAt 3 (Kj 45 (.slice y.1 T.d.length y.2) k) (.pointer (some (a.add k))) Zk (fun w1 hw h=>by rw[hA];exact Kn (elem:=3) Zk Zk hlt) <| ZS 4 <| K0.askAt 4 (L5 3 (a.add k)) (Zi z) Zk (fun w1 hw h=>K8 Zk (by have:=Lc hw (hc 0 (Zi z) rfl);rw[Ei,Nat.mul_one,Nat.add_zero]at this;exact this)) <| ZS 8 <| K0.askAt 8 (Kj 45 (.slice y2.1 T.d.length y2.2) k) (.pointer (some (b.add k))) Zk (fun w1 hw h=>by rw[hB];exact Kn (elem:=3) Zk Zk hlt) <| ZS 9 <| ZB 9 (L5 3 (b.add k)) (Zi z) (fun w1 hw h=>K8 Zk (by have:=Lc hw (hd 0 (Zi z) rfl);rw[Ei,Nat.mul_one,Nat.add_zero]at this;exact this)) <| ZJ ((z !=z)) false (bne_self_eq_false _) <| K0.slot 5 (Zi (IntKind.i64.wrap ((k:Int)+1))) (Zi ((k+1:Nat):Int)) Zk (by rw[Kd hlt Zo]) <| K0.next (⟨k+1,by show k+1≤T.d.length;omega⟩) Zk (by show T.d.length- (k+1)<T.d.length-k;omega) ⟨Zk,Zk,Zk⟩ (fun u h=>trivial)
theorem rsame_nd(h1:Jv N q K w)(h2:Jv N q2 K w)(hf:Hx N)(hK:2≤K∧K≤1000):Zv 24 #[Gv N q,Gv N q2] w Zt:=by
 have hps:∀l:List Pn,(∀P∈l,P.im.px.length≤20000∧P.stops.length≤1000000)→∀P∈l,P.stops.length≤1000000000∧P.im.px.length≤1000000000:=fun l h P hP=>by have:=h P hP;omega
 exact K0.enter Tryz.func24 rfl <| ZS 6 <| K0.slot 10 (.bool (N.id !=N.id)) Zf Zk (by rw[bne_self_eq_false]) <| ZS 13 <| K0.slot 17 (.bool (N.kind !=N.kind)) Zf Zk (by rw[bne_self_eq_false]) <| ZS 20 <| ZT 24 (.bool (N.dep !=N.dep)) Zf (by rw[bne_self_eq_false]) <| ZD 35 (fun w1 hw h=>Gp (T:=N.T) (U:=N.T) eqA_rfl (h1.tr.below hw) (h2.tr.below hw) Zo) fun u1=>K0.slot 39 (.bool (N.crule !=N.crule)) Zf Zk (by rw[bne_self_eq_false]) <| ZS 42 <| ZT 46 (.bool (N.frule !=N.frule)) Zf (by rw[bne_self_eq_false]) <| K0.condr ((N.samp !=N.samp)) false Zk (bne_self_eq_false _) <| ZS 6 <| K0.slot 58 (.bool ((N.op.toNat:Int) !=(N.op.toNat:Int))) Zf Zk (by rw[bne_self_eq_false]) <| ZS 13 <| K0.slot 65 (.bool (N.bl !=N.bl)) Zf Zk (by rw[bne_self_eq_false]) <| ZS 20 <| ZT 72 (.bool (N.iso !=N.iso)) Zf (by rw[bne_self_eq_false]) <| ZJ ((N.ko !=N.ko)) false (bne_self_eq_false _) <| ZC (fun w1 hw h=>rsame_sg (c:=q.clc) (c2:=q2.clc) (h1.cl.below hw) (h2.cl.below hw) (by have:=hf.cl;omega)) fun u2=>ZC (fun w1 hw h=>rsame_sg (c:=q.pac) (c2:=q2.pac) (h1.pa.below hw) (h2.pa.below hw) (by have:=hf.pa;omega)) fun u3=>ZC (fun w1 hw h=>rsame_ps (c:=q.fic) (c2:=q2.fic) (h1.fi.below hw) (h2.fi.below hw) hK (by have:=hf.fn;omega) (hps _ hf.fi)) fun u4=>ZC (fun w1 hw h=>rsame_ps (c:=q.stc) (c2:=q2.stc) (h1.st.below hw) (h2.st.below hw) hK (by have:=hf.sn;omega) (hps _ hf.st)) fun u5=>ZC (fun w1 hw h=>rsame_sty (T:=N.sty) (y:=(q.daA,q.dac)) (y2:=(q2.daA,q2.dac)) (h1.da.below hw) (h2.da.below hw) (by have:=hf.da;omega)) fun u6=>ZC (fun w1 hw h=>rsame_im (m:=N.im) (y:=(q.pxA,q.pxc)) (y2:=(q2.pxA,q2.pxc)) (h1.px.below hw) (h2.px.below hw) (by have:=hf.px;omega)) fun u7=>ZW Zt
theorem rsame_sc{y y2:Option Addr×Nat}{nl nl2:List (Nd×ND)}(h1:Ut w y.1 nl K S.nds)(h2:Ut w y2.1 nl2 K S.nds)(hf:NFs S.nds)(hK:2≤K∧K≤1000)(hn:S.nds.length≤1000000000):Zv 10 #[soV S y,soV S y2] w Zt:=by
 refine K0.enter Tryz.func10 rfl <| ZS 6 <| K0.slot 11 (.bool (S.w !=S.w)) Zf Zk (by rw[bne_self_eq_false]) <| ZS 13 <| K0.slot 18 (.bool (S.h !=S.h)) Zf Zk (by rw[bne_self_eq_false]) <| ZS 17 <| ZA (Xa 23 (.tmp 20) (.tmp 22) (Rf S.bg) (Rf S.bg)) Zf (fun w1 hw h=>run_ne_co Zs) <| ZJ (((S.nds.length:Int) !=(S.nds.length:Int))) false (bne_self_eq_false _) <| K0.loop (ι:={q:Nat // q≤S.nds.length}) 53 (fun q=>⟨[(2,.p 2 0),(3,.p 3 0),(5,.v (Zi q.1))],[(2,[.v (Zi S.w),.v (Zi S.h),.v (.int .u8 (S.bg.1.toNat:Int)),.v (.int .u8 (S.bg.2.1.toNat:Int)),.v (.int .u8 (S.bg.2.2.1.toNat:Int)),.v (.int .u8 (S.bg.2.2.2.toNat:Int)),.v (.slice y.1 S.nds.length y.2)]),(3,[.v (Zi S.w),.v (Zi S.h),.v (.int .u8 (S.bg.1.toNat:Int)),.v (.int .u8 (S.bg.2.1.toNat:Int)),.v (.int .u8 (S.bg.2.2.1.toNat:Int)),.v (.int .u8 (S.bg.2.2.2.toNat:Int)),.v (.slice y2.1 S.nds.length y2.2)])]⟩) (fun q u=>True) (fun q=>S.nds.length-q.1) (⟨0,Nat.zero_le _⟩) Zk (fun _=>by kernel_rfl) ⟨Zk,Zk,Zk⟩ (fun u h=>trivial) ?_
 rintro⟨k,hk⟩ gg
 have hk:k≤S.nds.length:=hk
 by_cases hlt:k<S.nds.length
 case neg=>
  have hkn:S.nds.length=k:=by omega
  exact ZR <| ZJ (decide ((k:Int)<(S.nds.length:Int))) false Zp <| K0.leave Zk <| ZR <| ZW Zt
 obtain⟨M,hx⟩:∃x,S.nds[k]? =some x:=⟨_,List.getElem?_eq_getElem Zo⟩
 obtain⟨p,hx1,r1⟩:=h1.get hx
 obtain⟨p2,hx2,r2⟩:=h2.get hx
 obtain⟨a,hA,hc⟩:=h1.row.2 k _ hx1
 obtain⟨b,hB,hd⟩:=h2.row.2 k _ hx2
 refine ZR <| K0.condr (decide ((k:Int)<(S.nds.length:Int))) true Zk Zp <| ZS 3 <| K0.askAt 3 (Kj 24 (.slice y.1 S.nds.length y.2) k) (.pointer (some (a.add (k*47)))) Zk (fun w1 hw h=>N9 hA hlt) <| ZS 4 <| K0.askAt 4 (L5 52 (a.add (k*47))) (Gv M p) Zk (fun w1 hw h=>Yb fun j v hj=>Lc hw (hc j v hj)) <| ZS 8 <| K0.askAt 8 (Kj 24 (.slice y2.1 S.nds.length y2.2) k) (.pointer (some (b.add (k*47)))) Zk (fun w1 hw h=>N9 hB hlt) <| ZS 9 <| ZB 9 (L5 52 (b.add (k*47))) (Gv M p2) (fun w1 hw h=>Yb fun j v hj=>Lc hw (hd j v hj)) <| ZC (fun w1 hw h=>rsame_nd (r1.below hw) (r2.below hw) (hf M (List.mem_of_getElem? hx)) hK) fun _=>K0.weak Zk (fun u h=>h.1) <| ZI false <| K0.slot 5 (Zi (IntKind.i64.wrap ((k:Int)+1))) (Zi ((k+1:Nat):Int)) Zk (by rw[Kd hlt Zo]) <| K0.next (⟨k+1,by show k+1≤S.nds.length;omega⟩) Zk (by show S.nds.length- (k+1)<S.nds.length-k;omega) ⟨Zk,Zk,Zk⟩ (fun u h=>trivial)
end
section
open Go.RowKit
--ATNAMES
section
variable{w:World}{S:Sc}{y:Option Addr×Nat}{nl:List (Nd×ND)}{K K':Nat}
theorem Db.mono{P:Pn}{q:PM}(h:Db P q K w)(hK:K≤K'):Db P q K' w:=⟨h.st,h.px,h.tr.mono hK⟩
theorem Vw.mono{A:Option Addr}{l:List (Pn×PM)}{Ps:List Pn}(h:Vw w A l K Ps)(hK:K≤K'):Vw w A l K' Ps:=⟨h.eq,h.row,fun x hx=>(h.rd x hx).mono hK⟩
theorem Ut.mono{A:Option Addr}{Ns:List Nd}(h:Ut w A nl K Ns)(hK:K≤K'):Ut w A nl K' Ns:=⟨h.eq,h.row,fun x hx=>by
 have k:=h.rd x hx
 exact⟨k.tr.mono hK,k.cl,k.pa,k.fi.mono hK,k.da,k.st.mono hK,k.px⟩⟩
theorem lawRound45(hE:ET w)(hM:ML w)(hp:NsRaw w y.1 nl S.nds)(hcap:S.nds.length≤y.2∧y.2≤maxLen):Zv 3 #[soV S y] w Zt:=by
 have hn0:S.nds.length≤9223372036854775807:=by have:=hcap.2;unfold maxLen at this;omega
 have hsm:∀{B:Bool},Dz nl=B→∀w1,Below w.heap.size w w1→Zv 5 #[soV S y] w1 (.bool B):=fun hB w1 hw=>small_v (hp.below hw) hn0 hB
 cases hS:Dz nl
 ·exact K0.enter Tryz.func3 rfl <| ZR <| ZC (fun w1 hw h=>hsm hS w1 hw) fun u=>ZI true <| ZC (fun w1 hw h=>Xe (hE.below hw) (hM.below hw)) fun e=>ZW Zt
 have hsm2:=hsm hS
 obtain⟨S2,nl2,e,h2,h3,h4⟩:=nsraw_rd hp hS
 have e2:soV S y=soV S2 y:=congrArg (fun l=>Value.agg (List.toArray l)) e.symm
 have hl2:S2.nds.length≤y.2:=by
  have t2:(soC S2 y)[6]? =(soC S y)[6]? :=by rw[e]
  simp only[soC,List.getElem?_cons_succ,List.getElem?_cons_zero,Option.some.injEq,Value.slice.injEq]at t2
  omega
 have hf1:NFs S2.nds:=fun N hN=>(h3 N hN).1
 have hs1:∀N∈S2.nds,NSm N:=fun N hN=>(h3 N hN).2
 rw[e2]at hsm2 ⊢
 refine K0.enter Tryz.func3 rfl <| ZR <| ZC (fun w1 hw h=>hsm2 w1 hw) fun u=>ZI false ?_
 cases hB:Ai S2
 ·exact K0.callv (fun w1 hw h=>format_no (y:=y) (hE.below hw) (h2.below hw) hf1 Zd hB) Zk fun _=>ZR <| ZI true <| ZC (fun w1 hw h=>rsvalid_v (y:=y) (h2.below hw) hf1 Zd hl2 hB) fun _=>ZC (fun w1 hw h=>Xe (hE.below hw) (hM.below hw)) fun e=>ZW Zt
 by_cases hl:(F6 S2).length≤65536
 rotate_left
 ·exact K0.callv (val:=fun _:Unit=> .tuple #[K4 [],Zi 5]) (G:=fun _ _=>True) (fun w1 hw h=>by have t:=Th (y:=y) (hE.below hw) (h2.below hw) hf1 hs1 Zo Zd hB;unfold outV at t;rw[if_neg hl]at t;exact t) Zk fun _=>ZR <| ZI true <| ZC (fun w1 hw h=>rsvalid_v (y:=y) (h2.below hw) hf1 Zd hl2 hB) fun _=>ZC (fun w1 hw h=>Xe (hE.below hw) (hM.below hw)) fun e=>ZW Zt
 refine K0.callv (val:=fun _:Unit=> .tuple #[K4 (F6 S2),Zi 0]) (G:=fun _ _=>True) (fun w1 hw h=>by have t:=Th (y:=y) (hE.below hw) (h2.below hw) hf1 hs1 Zo Zd hB;unfold outV at t;rw[if_pos hl]at t;exact t) Zk fun _=>ZR <| ZI false ?_
 have hpf:=parse_fmt hB hl
 refine K0.callv (X:=PX) (val:=fun q=> .tuple #[soV S2 q.1,Zi 0,Zi 0]) (G:=fun q u=>Ut u q.1.1 q.2 125 S2.nds∧S2.nds.length≤q.1.2) (fun w1 hw h=>(parse_t (s:=F6 S2) (hE.below hw) (hM.below hw) hl fun h10 T e=>by
  obtain⟨T2,e3,e4,_⟩:=rd_fmt hB
  rw[e3]at e
  injection e with e
  subst e
  have e5:T2.nds=S2.nds:=congrArg Sc.nds e4
  rw[e5]
  exact h3).mono fun e w' h=>by
  obtain⟨q,h1,h2,h3⟩:=h
  unfold parV parG at*
  rw[hpf]at h1 h3
  exact⟨q,h1,h2,h3⟩) Zk (fun q=> ?_)
 exact ZR <| K0.callv (val:=fun _:Unit=> .tuple #[K4 (F6 S2),Zi 0]) (G:=fun _ _=>True) (fun w1 hw h=>by have t:=Th (y:=q.1) (hE.below hw) h.2.1 hf1 hs1 Zo Zd hB;unfold outV at t;rw[if_pos hl]at t;exact t) Zk fun _=>ZR <| ZD 18 (fun w1 hw h=>rsame_sc (y:=q.1) (y2:=y) h.1.2.1 ((h2.below hw).mono Zd) hf1 Zd Zo) fun _=>ZA (Qf .eql 9 (.tmp 61) (.tmp 62) (K4 (F6 S2)) (K4 (F6 S2))) Zt (fun w1 hw h=>Ks Zs) <| ZC (fun w1 hw h=>Xe (hE.below hw) (hM.below hw)) fun e=>ZW Zt
theorem rowRound45{x:List Value}(hE:ET w)(hM:ML w)(i:Rd w shScene x):Calls Tryz.prog 3 #[.agg x.toArray] w (Done w):=by
 obtain⟨S,y,nl,rfl,h1,h2⟩:=rd_scene i
 exact(lawRound45 (S:=S) (y:=y) hE hM h1 h2).mono fun _ _ h=>law_done h
end
end
end Go.Proofs.YtoeiphicmcndlaaGreatDoor
