/-
 Scenes as text: lines, texts, the examples and the law.
-/
import Derived.Test.YtoeiphicmcndlaaGreatDoorCE
import Derived.Test.YtoeiphicmcndlaaGreatDoorFA
import Derived.Test.YtoeiphicmcndlaaGreatDoorPG
import Derived.Test.YtoeiphicmcndlaaGreatDoorFJ
import Derived.Test.YtoeiphicmcndlaaGreatDoorCA
import Derived.Test.YtoeiphicmcndlaaGreatDoorYX
import Derived.Test.YtoeiphicmcndlaaGreatDoorYI
import Derived.Test.YtoeiphicmcndlaaGreatDoorFN
namespace Go.Proofs.YtoeiphicmcndlaaGreatDoor
set_option maxRecDepth 100000
set_option maxHeartbeats 8000000
set_option linter.unusedVariables false
set_option linter.unusedSimpArgs false
open Go.RowKit
section
variable{w:World}{B n c g j d:Nat}{e:TypeId}{xs C C':List Value}{v:Value}
theorem K7.setLast{P:Program}{t:TypeId}{s:Nat}(h:K7 w B e s (some ⟨g,0,none⟩) n c (xs++C))(hx:xs.length=j)(hn:O5 P t=some v.cells.toList.length)(hd:d+v.cells.toList.length≤C.length)(h1:∀u∈v.cells.toList,u.oneCell'=true)(hC:C.take d++v.cells.toList++C.drop (d+v.cells.toList.length)=C'):
 ∃w',(Om t ⟨g,j+d,none⟩ v).run P w= .ok .skip w'∧Chg [g] w w'∧∀w'',w'.heap.size≤w''.heap.size→(∀b∈[g],w''.heap[b]? =w'.heap[b]?)→K7 w'' B e s (some ⟨g,0,none⟩) n c (xs++C'):=by
 obtain⟨w',h3,h4,h5⟩:=h.storeN (P:=P) (t:=t) (j:=j+d) hn (by rw[List.length_append];omega) h1
 refine⟨w',h3,h4,fun w'' k1 k2=> ?_⟩
 have h6:=h5 w'' k1 k2
 rw[←hx,List.take_length_add_append,Nat.add_assoc,List.drop_length_add_append]at h6
 rw[←hC]
 simpa using h6
end
section
variable{W w wa u:World}{gt gr n c:Nat}{LL:List Nat}{A:Option Addr}{ws0 rest:WS}{f:Bool}{tc rc:List Value}{a1 a2 a3 a4 a5 a6 a9 wh z:Int}{ln:Nat}{l:Value}
theorem Tm.ml(hA:∀b∈LL,b≠gt∧b≠gr)(e1:wa.heap.size=u.heap.size)(e2:∀b,b∉LL→wa.heap[b]? =u.heap[b]?)(h:Tm W w gt gr LL tc rc wa):Tm W w gt gr LL tc rc u:=
 ⟨by rw[←e1];exact h.sz,fun b k1 k2 k3 k4 k5=>(e2 b k5).symm.trans (h.fr b k1 k2 k3 k4 k5),h.bt.to (e2 gt fun hb=>(hA gt hb).1 rfl).symm,h.br.to (e2 gr fun hb=>(hA gr hb).2 rfl).symm⟩
theorem stp_{D2 X2:Type}{fn:Func}{o2:Option D2}{val2:D2→X2→Value}{G2:D2→X2→World→Prop}{F:World→Prop}{b:Bool}{c0:Nh}(T:TE W w gt gr LL A n c ws0)
 (hF:∀wa u:World,wa.heap.size=u.heap.size→(∀b,b∉[gt]→wa.heap[b]? =u.heap[b]?)→F wa→F u)
 (hn:b=false→o2=none)
 (hk:b=true→K0 Tryz.prog [] W (bodyPost Tryz.prog fn (Uv w (gt::gr::LL) Qg (Qr gt ln) o2 val2 G2)) (fun u=>Tm W w gt gr LL (Vv a1 a2 a3 a4 a5 a6 l z ln a9) rc u∧F u) (Lw Tryz.prog 1000 1000 (Lg (.v (.tuple #[])) c0)))
 (hf:Qb c0=true:=by kernel_rfl) (hc2:Ln Tryz.prog c0=some (77,#[Zq gt 0,Zi z,.bool b]):=by kernel_rfl):K0 Tryz.prog [] W (bodyPost Tryz.prog fn (Uv w (gt::gr::LL) Qg (Qr gt ln) o2 val2 G2)) (fun u=>Tm W w gt gr LL (Vv a1 a2 a3 a4 a5 a6 l wh ln a9) rc u∧F u) c0:=by
 cases b with
 |false=>
  exact K0.mutx (L:=[]) (Φ':=Tp W w gt gr LL (Vv a1 a2 a3 a4 a5 a6 l wh ln a9)) (fun w1 hw h=>Z4 (gt:=gt) (z:=z) hw) (fun u h b hb=>by cases hb) (fun wa u e1 e2 h _=>⟨by rw[←e1];exact h.1.sz,fun b k1 k2 k3 k4 k5=>(e2 b Zs).symm.trans (h.1.fr b k1 k2 k3 k4 k5),h.1.bt.to (e2 gt Zs).symm⟩) hf hc2 <| K0.pan fun w1 hw h=>by rw[hn rfl];exact Tp.pan T hw h rfl rfl
 |true=>
  exact K0.mut (L:=[gt]) (Φ':=fun(_:Unit) u=>Tm W w gt gr LL (Vv a1 a2 a3 a4 a5 a6 l z ln a9) rc u∧F u) (fun w1 hw h=>step_y (z:=z) hw T.lt h.1.bt (by show 7<10;decide)) (fun u h=>Tm.ownt T u h.1) (fun _ wa u e1 e2 h hG=>⟨h.1.mt T e1 e2 hG,hF wa u e1 e2 h.2⟩) hf hc2 (fun _=>K0.run Zk 1000 _ (hk rfl))
theorem rdH_{D X D2 X2:Type}{fn:Func}{o2:Option D2}{val2:D2→X2→Value}{G2:D2→X2→World→Prop}{F:World→Prop}{q:Option D}{vq:D→X→Value}{rs:D→WS}{fl:D→Bool}{Cq:D→X→World→Prop}{e:FuncId}{args:Array Value}{c0:Nh}{y:Int}(st:Nat)(T:TE W w gt gr LL A n c ws0)
 (hc:∀w1,RE W w1 gr A n c ws0→K5 w1 gr (L8 A n c rest.length f)→w.heap.size≤w1.heap.size→Calls Tryz.prog e args w1 (Le w1 [gr] Qg q (fun d (x:Gh X fun b=>w.heap.size≤b)=>vq d x.1.1) (fun d x u=>K5 u gr (L8 A n c (rs d).length (fl d))∧Lm x.1.2 (Cq d x.1.1) u)))
 (hF:∀wa u:World,wa.heap.size=u.heap.size→(∀b,b∉[gr]→wa.heap[b]? =u.heap[b]?)→F wa→F u)
 (hn:q=none→o2=none) (hl:tc.length=10) (h8:tc[8]? =some (Zi y))
 (hk:∀d (x:Gh X fun b=>w.heap.size≤b),q=some d→K0 Tryz.prog [] W (bodyPost Tryz.prog fn (Uv w (gt::gr::LL) Qg (Qr gt y) o2 val2 G2)) (fun u=>Tm W w gt gr LL tc (L8 A n c (rs d).length (fl d)) u∧F u∧Lm x.1.2 (Cq d x.1.1) u) (Lw Tryz.prog st 1000 (Lg (.v (vq d x.1.1)) c0)))
 (hf:Qb c0=true:=by kernel_rfl) (hc2:Ln Tryz.prog c0=some (e,args):=by kernel_rfl):K0 Tryz.prog [] W (bodyPost Tryz.prog fn (Uv w (gt::gr::LL) Qg (Qr gt y) o2 val2 G2)) (fun u=>Tm W w gt gr LL tc (L8 A n c rest.length f) u∧F u) c0:=by
 cases hq:q with
 |none=>
  exact K0.mutx (L:=[gr]) (Φ':=Tp W w gt gr LL tc) (fun w1 hw h=>by have t:=hc w1 (h.1.re T hw) h.1.br h.1.sz;rw[hq]at t;exact t) (fun u h=>Tm.ownr T u h.1) (fun wa u e1 e2 h _=>h.1.mp T e1 e2) hf hc2 <| K0.pan fun w1 hw h=>by rw[hn hq];exact Tp.pan T hw h hl h8
 |some d=>exact K0.mut (L:=[gr]) (Φ':=fun(x:Gh X fun b=>w.heap.size≤b) u=>Tm W w gt gr LL tc (L8 A n c (rs d).length (fl d)) u∧F u∧Lm x.1.2 (Cq d x.1.1) u) (fun w1 hw h=>by have t:=hc w1 (h.1.re T hw) h.1.br h.1.sz;rw[hq]at t;exact t) (fun u h=>Tm.ownr T u h.1) (fun x wa u e1 e2 h (hG:K5 u gr (L8 A n c (rs d).length (fl d))∧Lm x.1.2 (Cq d x.1.1) u)=>⟨h.1.mr T e1 e2 hG.1,hF wa u e1 e2 h.2,hG.2⟩) hf hc2 (fun x=>K0.run Zk (stop:=st) 1000 _ (hk d x hq))
end
section
variable{ws0 rest:WS}{n:Nat}{f:Bool}
theorem rdNs_suf:∀{m:Nat} {f:Bool} {rest:WS} {l:List Int×WS×Bool},Pa ws0 n rest→rdNs m f rest=some l→Pa ws0 n l.2.1
 |0,f,rest,l,hs,h=>by cases h;exact hs
 |m+1,f,rest,l,hs,h=>by
  rw[rdNs_succ]at h
  obtain⟨⟨x1,r1,f1⟩,h1,h⟩:=Option.bind_eq_some_iff.1 h
  obtain⟨k,hk,rfl⟩:=Option.map_eq_some_iff.1 h
  exact(rdNs_suf (M6 hs h1) hk:Pa ws0 n k.2.1)
theorem rdPen_suf(hs:Pa ws0 n rest){d:Sty×WS×Bool}(h:rdPen f rest=some d):Pa ws0 n d.2.1:=by
 unfold rdPen at h
 obtain⟨⟨w,r1,f1⟩,h1,h⟩:=Option.bind_eq_some_iff.1 h
 obtain⟨⟨j,r2,f2⟩,h2,h⟩:=Option.bind_eq_some_iff.1 h
 obtain⟨⟨c,r3,f3⟩,h3,h⟩:=Option.bind_eq_some_iff.1 h
 obtain⟨⟨m,r4,f4⟩,h4,h⟩:=Option.bind_eq_some_iff.1 h
 obtain⟨⟨p,r5,f5⟩,h5,h⟩:=Option.bind_eq_some_iff.1 h
 obtain⟨l,h6,rfl⟩:=Option.map_eq_some_iff.1 h
 have h7:=M6 (M6 (Nn (Nn (M6 hs h1) h2) h3) h4) h5
 simp only at h6
 cases r5 with
 |nil=>cases h6
 |cons s r=>
  rw[show rdDs f5 (s::r)=if piE s≠0∨Th s<0∨Th s>(r.length:Int)then none else rdNs (Th s).toNat f5 r from rfl]at h6
  split at h6
  ·cases h6
  ·exact rdNs_suf h7.tail h6
theorem Le.gh0{D:Type}{w w':World}{g:Nat}{ch:List PanicEntry}{e:Ending}{q:Option D}{val:D→Value}{G:D→World→Prop}{R:Nat→Prop}(h:Le w [g] ch q (fun d (_:Unit)=>val d) (fun d _ u=>G d u) e w'):
 Le w [g] ch q (fun d (_:Gh Unit R)=>val d) (fun d x u=>G d u∧Lm x.1.2 (fun _=>True) u) e w':=by
 cases q with
 |none=>exact h
 |some d=>
  obtain⟨x,h1,h2,h3⟩:=h
  exact⟨⟨(x,fun _=>False),fun b hb=>hb.elim⟩,h1,h2,fun w'' k1 k2=>⟨h3 w'' k1 k2,Lm.triv fun _=>trivial⟩⟩
end
section
variable{W w:World}{gt gr n c gl yc:Nat}{A:Option Addr}{ws0 rest r:WS}{f f':Bool}{L:List (Nd×ND)}{S S':TS}{N N':Nd}{q q':ND}
theorem ndRow_len:(V5 L).length=L.length*47:=by
 unfold V5
 induction L with
 |nil=>rfl
 |cons x l ih=>rw[List.flatMap_cons,List.length_append,ih,List.length_cons,show(Ys x.1 x.2).length=47 from by kernel_rfl];omega
theorem part_post{R:Nat→Prop}{w1:World}{Sg:Nat→Prop}(T:TE W w gt gr [gl] A n c ws0)(hw:Below W.heap.size W w1)(hgl:W.heap.size≤gl∧gl<w.heap.size)(hQ:∀b,w.heap.size≤b→R b)(hE:S'.nds=L.map (·.1)++ [N'])
 (k1:Tm W w gt gr [gl] (txS S' (some ⟨gl,0,none⟩,yc) (L.length+1)) (L8 A n c r.length f') w1) (k2:K7 w1 W.heap.size 52 47 (some ⟨gl,0,none⟩) (L.length+1) yc (V5 L++Ys N' q')) (k3:Lm Sg (fun v=>NRd N q 125 v→NRd N' q' 125 v) w1) (k4:∀b,Sg b→w.heap.size≤b):
 Ng w [gt,gr,gl] (fun _:Gh YL R=> .tuple #[]) (fun x u=>K5 u gr (L8 A n c r.length f')∧S9 W gt (some ⟨gl,0,none⟩,yc) (L++ [(N,q)]) S' R x.1 u) (.returned (.tuple #[])) w1:=
 ⟨⟨(((some ⟨gl,0,none⟩,yc),L++ [(N',q')]),Sg),fun b hb=>hQ b (k4 b hb)⟩,rfl,⟨hw.os.trans T.hW.os.symm,hw.tape.trans T.hW.tape.symm,hw.output.trans T.hW.output.symm,k1.sz,fun b hb hbl=>by
  simp only[List.mem_cons,not_or]at hbl
  rcases Nat.lt_or_ge b W.heap.size with h4|h4
  ·rw[hw.block b h4,T.hW.block b h4]
  ·exact k1.fr b h4 hb hbl.1 hbl.2.1 (by simpa using hbl.2.2.1)⟩,fun w'' j1 j2=>
  ⟨k1.br.to (j2 gr (.inl Zs)),⟨by show K5 w'' gt (txS S' _ (L++ [(N',q')]).length);rw[List.length_append];exact k1.bt.to (j2 gt (.inl Zs)),by show K7 w'' _ _ _ _ (L++ [(N',q')]).length _ _;rw[List.length_append,ndRow_snoc];exact k2.same fun b hb=>j2 b (.inl (by simp[bl]at hb;simp[hb])),by rw[hE,List.map_append];rfl,
   (k3.to j1 fun b hb=>j2 b (.inr ⟨k4 b hb,k3.lt b hb⟩)).imp fun v hv hL=>by
    have hL':NsRd L v:=fun x hx=>hL x (by simp[hx])
    exact hL'.snoc (hv (hL (N,q) Zs)),fun b hb=> .inl hb,fun b hb hc=>by
    obtain rfl:b=gl:=by simpa[bl]using hc
    have:=k4 b hb;omega⟩⟩⟩
theorem setL_snoc{l:List Nd}:Za (l++ [N]) N'=l++ [N']:=by unfold Za;rw[List.dropLast_concat]
theorem cell_last{u:World}{d:Nat}{v:Value}(h:K7 u W.heap.size 52 47 (some ⟨gl,0,none⟩) (L.length+1) yc (V5 L++Ys N q))(hv:(Ys N q)[d]? =some v):u.cell? ⟨gl,L.length*47+d,none⟩=some v:=by
 obtain⟨g,h1,h2⟩:=h.cells Zo
 injection h1 with h1
 injection h1 with h1 _ _
 subst h1
 refine h2 _ v ?_
 rw[List.getElem?_append_right (by rw[ndRow_len];omega),ndRow_len,Nat.add_sub_cancel_left]
 exact hv
theorem Ub{g k fi d:Nat}{t:TypeId}{u:World}(h:Td Tryz.prog t fi 0 0=some ⟨.p 0 (0+d),none⟩):(Rp t ⟨g,k,none⟩ fi).run Tryz.prog u= .ok (.value (Zq g (k+d))) u:=by
 rw[Mi h,Addr.add_mid]
theorem row_one{u:World}{B g:Nat}{P:Pn}{p:PM}{K:Nat}(h:K7 u B 60 40 (some ⟨g,0,none⟩) 1 1 (pnC P p))(hp:PRd P p K u):PsAt u (some ⟨g,0,none⟩) [(P,p)] K [P]:=
 ⟨rfl,K7.rowA (cl:=pC2) (l:=[(P,p)]) (fun _=>by kernel_rfl) rfl (by simpa[pC2]using h),fun x hx=>by rw[show x=(P,p) by simpa using hx];exact hp⟩
theorem K7.held{u:World}{B s n c:Nat}{e:TypeId}{A:Option Addr}{xs:List Value}(h:K7 u B e s A n c xs):Lm (fun b=>b∈bl A) (fun v=>K7 v B e s A n c xs) u:=
 ⟨fun b hb=>(h.lt b hb).2,fun v _ k2=>h.same k2⟩
abbrev NdO(W:World)(gl yc:Nat)(L:List (Nd×ND))(N:Nd)(q:ND)(u:World):Prop:=K7 u W.heap.size 52 47 (some ⟨gl,0,none⟩) (L.length+1) yc (V5 L++Ys N q)
theorem NdO.keep{wa u:World}{b:Nat}(hb:gl≠b)(e2:∀x,x∉[b]→wa.heap[x]? =u.heap[x]?)(h:NdO W gl yc L N q wa):NdO W gl yc L N q u:=
 K7.left h e2 fun x hx=>by simp[bl]at hx;subst hx;simpa using hb
theorem Lm.keep{Sg:Nat→Prop}{G:World→Prop}{wa u:World}{b M:Nat}(h:Lm Sg G wa)(e1:wa.heap.size=u.heap.size)(e2:∀x,x∉[b]→wa.heap[x]? =u.heap[x]?)(hS:∀x,Sg x→M≤x)(hb:b<M):Lm Sg G u:=
 h.left e1 e2 fun x hx hm=>by
  obtain rfl:x=b:=by simpa using hm
  have:=hS x hx;omega
theorem NdO.set{P:Program}{t:TypeId}{w1:World}{d:Nat}{v:Value}(h:NdO W gl yc L N q w1)(hn:O5 P t=some v.cells.toList.length)(hd:d+v.cells.toList.length≤(Ys N q).length)(h1:v.cells.toList.all (fun u=>u.oneCell')=true)(hC:(Ys N q).take d++v.cells.toList++(Ys N q).drop (d+v.cells.toList.length)=Ys N' q'):
 ∃w',(Om t ⟨gl,L.length*47+d,none⟩ v).run P w1= .ok .skip w'∧Chg [gl] w1 w'∧∀w'',w'.heap.size≤w''.heap.size→(∀b∈[gl],w''.heap[b]? =w'.heap[b]?)→NdO W gl yc L N' q' w'':=
 K7.setLast h ndRow_len hn hd (List.all_eq_true.1 h1) hC
theorem NdO.own(hgw:W.heap.size≤gl){u:World}(h:NdO W gl yc L N q u):∀b∈[gl],W.heap.size≤b∧∃xs ty own,u.heap[b]? =some (.cells xs ty own):=fun b hb=>by
 obtain rfl:b=gl:=by simpa using hb
 exact⟨hgw,(h.blk b (by simp[bl])).2⟩
theorem part_t{k:List UInt8}{R:Nat→Prop}{y:Option Addr×Nat}(hM:ML W)(hmm:L.length<1000000)(hE:S.nds=L.map (·.1)++ [N])(hO:K7 w W.heap.size 52 47 y.1 (L.length+1) y.2 (V5 L++Ys N q))(hA:∀b∈bl y.1,b≠gt∧b≠gr)(hQ:∀b,w.heap.size≤b→R b)(T:TE W w gt gr (bl y.1) A n c ws0)(hs:Pa ws0 n rest)(ht:K5 w gt (txS S y (L.length+1)))(hr:K5 w gr (L8 A n c rest.length false)):
 Calls Tryz.prog 81 #[Zq gt 0,Zq gr 0,K4 k] w
 (Uv w (gt::gr::bl y.1) Qg (Qr gt S.ln) (Rx S N k rest) (fun _ (_:Gh YL R)=> .tuple #[]) (fun d x u=>K5 u gr (L8 A n c d.2.1.length d.2.2)∧S9 W gt y (L++ [(N,q)]) d.1 R x.1 u)):=by
 obtain⟨gl,hyA,_⟩:=hO.cells Zo
 obtain⟨yA,yc⟩:=y
 simp only at hyA
 subst hyA
 have hgl:gl≠gt∧gl≠gr:=hA gl (by simp[bl])
 have hgw:W.heap.size≤gl∧gl<w.heap.size:=hO.lt gl (by simp[bl])
 have hgr:=hr.lt
 have hgt:=ht.lt
 have hg1:∀(wa u:World),wa.heap.size=u.heap.size→(∀b,b∉[gt]→wa.heap[b]? =u.heap[b]?)→NdO W gl yc L N q wa→NdO W gl yc L N q u:=fun wa u _ e2 h=>h.keep hgl.1 e2
 have hg2:∀(N q) (wa u:World),wa.heap.size=u.heap.size→(∀b,b∉[gr]→wa.heap[b]? =u.heap[b]?)→NdO W gl yc L N q wa→NdO W gl yc L N q u:=fun N q wa u _ e2 h=>h.keep hgl.2 e2
 have hml:∀{tc rc:List Value} (wa u:World),wa.heap.size=u.heap.size→(∀b,b∉[gl]→wa.heap[b]? =u.heap[b]?)→Tm W w gt gr [gl] tc rc wa→Tm W w gt gr [gl] tc rc u:=fun wa u e1 e2 h=>h.ml hA e1 e2
 obtain⟨o,ho⟩:∃o,o=Rx S N k rest:=⟨_,rfl⟩
 rw[←ho]
 unfold Rx at ho
 obtain⟨pb,hpb⟩:∃pb,pb=((N.kind==2)&&decide (S.wh≥2)):=⟨_,rfl⟩
 have hpn:pb=false→¬(N.kind=2∧2≤S.wh):=fun e h=>by rw[hpb,beq_iff_eq.2 h.1,decide_eq_true h.2]at e;cases e
 have hpy:pb=true→N.kind=2∧2≤S.wh:=fun e=>by rw[hpb,Bool.and_eq_true]at e;exact⟨beq_iff_eq.1 e.1,of_decide_eq_true e.2⟩
 refine K0.enterW Tryz.func81 rfl T.hW (K0.impC (Φ':=fun u=>Tm W w gt gr [gl] (txS S (some ⟨gl,0,none⟩,yc) (L.length+1)) (L8 A n c rest.length false) u∧NdO W gl yc L N q u) (fun u h=>⟨Tm.start T ht hr u h,hO.same fun b hb=>h.2 b (hO.lt b hb).1 (hO.lt b hb).2⟩) ?_)
 refine ZR <| ZA (Kt 24 ⟨gt,6,none⟩) (.slice (some ⟨gl,0,none⟩) (L.length+1) yc) (fun w1 hw h=>K6 Zk (by rw[h.1.bt.cell];rfl)) <| ZJ ((((L.length+1:Nat):Int)==0)) false Zp <| K0.callv (val:=fun _:Unit=>Zq gl (L.length*47)) (G:=fun _ _=>True) (fun w1 hw h=>by have t:=last_m (m:=L.length) Zo h.1.bt;rw[Addr.add_mid,Nat.zero_add]at t;exact t) Zk fun _=>K0.weak Zk (fun u h=>h.1) <| ZS 0 <| ZS 2 <| K0.ask (Rp 52 ⟨gl,L.length*47,none⟩ 1) (Zq gl (L.length*47+1)) Zk (fun w1 hw h=>Ub (d:=1) Zk) <| ZS 3 <| K0.ask (Kt 3 ⟨gl,L.length*47+1,none⟩) (Zi N.kind) Zk (fun w1 hw h=>K6 Zk (cell_last h.2 Zk)) <| ZS 6 <| K0.meet (fun(x:Nat→AV) c=>Q5 [24,25,26,27,28,29,30] x (Ma 7 (.bool pb) (Lw Tryz.prog 0 1000 (Ma 24 Zf c)))) (fun k=> ?_) (fun xj=> ?_)
 ·by_cases hk2:N.kind=2
  ·exact ZT 24 (.bool (N.kind==2)) Zt (by rw[beq_iff_eq.2 hk2]) <| K0.ask (Kt 3 ⟨gt,7,none⟩) (Zi S.wh) Zk (fun w1 hw h=>K6 Zk (by rw[h.1.bt.cell];rfl)) <| ZS 0 <| K0.slot 7 (.bool (decide (S.wh≥2))) (.bool pb) Zk (by rw[hpb,beq_iff_eq.2 hk2,Bool.true_and]) <| K0.blur [24,25,26,27,28,29,30] fun x=>K0.eq (k x) Zk
  ·exact K0.slot 24 (.bool (N.kind==2)) Zf Zk (by rw[beq_eq_false_iff_ne.2 hk2]) <| ZS 0 <| K0.slot 7 Zf (.bool pb) Zk (by rw[hpb,beq_eq_false_iff_ne.2 hk2,Bool.false_and]) <| K0.blur [24,25,26,27,28,29,30] fun x=>K0.eq (k x) Zk
 refine K0.run Zk (stop:=1000) 1 _ <| ZS 0 ?_
 by_cases c1:k=transN
 ·subst c1
  rw[if_pos rfl]at ho
  refine ZR <| ZI true <| ZA (Kt 3 ⟨gt,7,none⟩) (Zi S.wh) (fun w1 hw h=>K6 Zk (by rw[h.1.bt.cell];rfl)) <| stp_ (b:=(S.wh==1)) (z:=2) T hg1 (fun e=>by rw[ho,if_neg (by simpa using e)]) (fun e=> ?_)
  rw[if_pos (by simpa using e)]at ho
  refine rdH_ 4 (q:=rdA false rest) (vq:=fun _ (t:TV)=>t.val) (rs:=fun d=>d.2.1) (fl:=fun d=>d.2.2) (Cq:=fun d t=>IsA t d.1 125) T (fun w1 k1 k2 k3=>affine_h hM k1 hs k2 fun b hb=>Nat.le_trans k3 hb) (hg2 N q) (fun e=>by rw[ho,e];rfl) rfl rfl (fun d x e=> ?_)
  rw[e]at ho
  refine K0.ask (Rp 52 ⟨gl,L.length*47,none⟩ 3) (Zq gl (L.length*47+3)) Zk (fun w1 hw h=>Ub (d:=3) Zk) <| ZS 5 <| K0.mutSt (L:=[gl]) (G:=NdO W gl yc L {N with T:=d.1} {q with t:=x.1.1}) (Φ':=fun u=>Tm W w gt gr [gl] (txS {S with wh:=2} (some ⟨gl,0,none⟩,yc) (L.length+1)) (L8 A n c d.2.1.length d.2.2) u∧NdO W gl yc L {N with T:=d.1} {q with t:=x.1.1} u∧Lm x.1.2 (IsA x.1.1 d.1 125) u) (Om 42 ⟨gl,L.length*47+3,none⟩ x.1.1.val) (fun w1 hw h=>h.2.1.set Zk (Nat.le_of_ble_eq_true Zk) Zk Zk) (fun u h=>h.2.1.own hgw.1) (fun wa u e1 e2 h hG=>⟨hml wa u e1 e2 h.1,hG,h.2.2.keep e1 e2 x.2 hgw.2⟩) Zk Zk <| ZR <| ZV (.tuple #[]) (fun w1 hw h=> ?_)
  have k:=h w1 (Nat.le_refl _) (fun _ _ _=>rfl)
  rw[ho]
  exact part_post (S':={S with nds:=Za S.nds {N with T:=d.1},wh:=2}) T hw hgw hQ (by show Za S.nds _=_;rw[hE,setL_snoc]) k.1 k.2.1 (k.2.2.imp fun v h1 h2=>⟨h1,h2.cl,h2.pa,h2.fi,h2.da,h2.st,h2.px⟩) x.2
 rw[if_neg c1]at ho
 refine ZA (Pw .eql 9 (.tmp 31) (.const (.string ⟨#[116,114,97,110,115,102,111,114,109]⟩)) (K4 k) (K4 transN)) Zf (fun w1 hw h=>Kv (by simpa using c1)) <| K0.cond false Zk <| ZS 0 ?_
 by_cases c2:k=clipN
 ·subst c2
  rw[if_pos rfl]at ho
  refine ZR <| ZI true <| ZA (Kt 3 ⟨gt,7,none⟩) (Zi S.wh) (fun w1 hw h=>K6 Zk (by rw[h.1.bt.cell];rfl)) <| stp_ (b:=(S.wh==2)) (z:=3) T hg1 (fun e=>by rw[ho,if_neg (by simpa using e)]) (fun e=> ?_)
  rw[if_pos (by simpa using e)]at ho
  refine rdH_ 4 (X:=Unit) (q:=rdW Ni 1 false rest) (vq:=fun d _=>Zi d.1) (rs:=fun d=>d.2.1) (fl:=fun d=>d.2.2) (Cq:=fun _ _ _=>True) T (fun w1 k1 k2 k3=>(word_rule k1 hs k2).mono fun _ _ h=>h.gh0) (hg2 N q) (fun e=>by rw[ho,e];rfl) rfl rfl (fun d x e=> ?_)
  rw[e,Option.bind_some]at ho
  obtain⟨x1,r1,f1⟩:=d
  have hs1:=Nn hs e
  simp only at ho
  refine K0.ask (Rp 52 ⟨gl,L.length*47,none⟩ 5) (Zq gl (L.length*47+28)) Zk (fun w1 hw h=>Ub (d:=28) Zk) <| ZS 5 <| K0.mutSt (L:=[gl]) (G:=NdO W gl yc L {N with crule:=x1} q) (Φ':=fun u=>Tm W w gt gr [gl] (txS {S with wh:=3} (some ⟨gl,0,none⟩,yc) (L.length+1)) (L8 A n c r1.length f1) u∧NdO W gl yc L {N with crule:=x1} q u) (Om 3 ⟨gl,L.length*47+28,none⟩ (Zi x1)) (fun w1 hw h=>h.2.1.set Zk (Nat.le_of_ble_eq_true Zk) Zk Zk) (fun u h=>h.2.1.own hgw.1) (fun wa u e1 e2 h hG=>⟨hml wa u e1 e2 h.1,hG⟩) Zk Zk <| ZR <| rdH_ 4 (q:=Xx f1 r1) (vq:=fun d (z:Option Addr×Nat)=> .slice z.1 d.1.length z.2) (rs:=fun d=>d.2.1) (fl:=fun d=>d.2.2) (Cq:=fun d z v=>Rr v z.1 d.1.length d.1) T (fun w1 k1 k2 k3=>path_t hM k1 hs1 k2 fun b hb=>Nat.le_trans k3 hb) (hg2 {N with crule:=x1} q) (fun e=>by rw[ho,e];rfl) rfl rfl (fun d z e=> ?_)
  rw[e]at ho
  refine K0.ask (Rp 52 ⟨gl,L.length*47,none⟩ 4) (Zq gl (L.length*47+27)) Zk (fun w1 hw h=>Ub (d:=27) Zk) <| ZS 5 <| K0.mutSt (L:=[gl]) (G:=NdO W gl yc L {N with crule:=x1,clip:=d.1} {q with clA:=z.1.1.1,clc:=z.1.1.2}) (Φ':=fun u=>Tm W w gt gr [gl] (txS {S with wh:=3} (some ⟨gl,0,none⟩,yc) (L.length+1)) (L8 A n c d.2.1.length d.2.2) u∧NdO W gl yc L {N with crule:=x1,clip:=d.1} {q with clA:=z.1.1.1,clc:=z.1.1.2} u∧Lm z.1.2 (fun v=>Rr v z.1.1.1 d.1.length d.1) u) (Om 43 ⟨gl,L.length*47+27,none⟩ (.slice z.1.1.1 d.1.length z.1.1.2)) (fun w1 hw h=>h.2.1.set Zk (Nat.le_of_ble_eq_true Zk) Zk Zk) (fun u h=>h.2.1.own hgw.1) (fun wa u e1 e2 h hG=>⟨hml wa u e1 e2 h.1,hG,h.2.2.keep e1 e2 z.2 hgw.2⟩) Zk Zk <| ZR <| ZV (.tuple #[]) (fun w1 hw h=> ?_)
  have k:=h w1 (Nat.le_refl _) (fun _ _ _=>rfl)
  rw[ho]
  exact part_post (S':={S with nds:=Za S.nds {N with crule:=x1,clip:=d.1},wh:=3}) T hw hgw hQ (by show Za S.nds _=_;rw[hE,setL_snoc]) k.1 k.2.1 (k.2.2.imp fun v h1 h2=>⟨h2.tr,h1,h2.pa,h2.fi,h2.da,h2.st,h2.px⟩) z.2
 rw[if_neg c2]at ho
 refine ZA (Pw .eql 9 (.tmp 31) (.const (.string ⟨#[99,108,105,112]⟩)) (K4 k) (K4 clipN)) Zf (fun w1 hw h=>Kv (by simpa using c2)) <| K0.cond false Zk <| ZS 0 ?_
 by_cases c3:k=fillN
 ·subst c3
  rw[if_pos rfl]at ho
  refine ZR <| K0.cond true Zk <| ZS 3 ?_
  cases hb:pb with
  |false=>
   exact ZR <| stp_ (b:=false) (z:=4) T hg1 (fun _=>by rw[ho,if_neg fun h=>hpn hb ⟨h.1,h.2.1⟩]) (fun e=>by cases e)
  |true=>
   refine ZR <| ZA (Kt 3 ⟨gt,7,none⟩) (Zi S.wh) (fun w1 hw h=>K6 Zk (by rw[h.1.bt.cell];rfl)) <| stp_ (b:=decide (S.wh<4)) (z:=4) T hg1 (fun e=>by rw[ho,if_neg fun h=>by simp at e;omega]) (fun e=> ?_)
   rw[if_pos ⟨(hpy hb).1,(hpy hb).2,by simpa using e⟩]at ho
   refine rdH_ 5 (q:=rdPn false rest) (rs:=fun _=>[]) (fl:=fun d=>d.2) (vq:=fun d (z:PM)=>X7 d.1 z) (Cq:=fun d z=>PRd d.1 z 125) T (fun w1 k1 k2 k3=>paint_h hM k1 hs k2 fun b hb=>Nat.le_trans k3 hb) (hg2 N q) (fun e=>by rw[ho,e];rfl) rfl rfl (fun d x e=> ?_)
   rw[e]at ho
   refine K0.make (Li 44 1 #[(0,X7 d.1 x.1.1)]) (Kg 1) (fun g u=>K7 u w.heap.size 60 40 (some ⟨g,0,none⟩) 1 1 (pnC d.1 x.1.1)) Zk (fun w1 hw h=>Xd (cells:=(pnC d.1 x.1.1).toArray) Zk h.1.sz Zk Zd) fun ga=>ZS 5 <| K0.ask (Rp 52 ⟨gl,L.length*47,none⟩ 12) (Zq gl (L.length*47+35)) Zk (fun w1 hw h=>Ub (d:=35) Zk) <| ZS 6 <| K0.mutSt (L:=[gl]) (G:=NdO W gl yc L {N with fill:=[d.1]} {q with fiA:=some ⟨ga,0,none⟩,fic:=1,fl:=[(d.1,x.1.1)]}) (Φ':=fun u=>Tm W w gt gr [gl] (txS {S with wh:=4} (some ⟨gl,0,none⟩,yc) (L.length+1)) (L8 A n c 0 d.2) u∧NdO W gl yc L {N with fill:=[d.1]} {q with fiA:=some ⟨ga,0,none⟩,fic:=1,fl:=[(d.1,x.1.1)]} u∧Lm (fun b=>x.1.2 b∨b∈bl (some ⟨ga,0,none⟩)) (fun v=>PRd d.1 x.1.1 125 v∧K7 v w.heap.size 60 40 (some ⟨ga,0,none⟩) 1 1 (pnC d.1 x.1.1)) u) (Om 44 ⟨gl,L.length*47+35,none⟩ (Kg 1 ga)) (fun w1 hw h=>h.1.2.1.set Zk (Nat.le_of_ble_eq_true Zk) Zk Zk) (fun u h=>h.1.2.1.own hgw.1) (fun wa u e1 e2 h hG=>⟨hml wa u e1 e2 h.1.1,hG,(h.1.2.2.and (K7.held h.2)).keep e1 e2 (fun b hb=>hb.elim (x.2 b) fun hb=>(K7.lt h.2 b hb).1) hgw.2⟩) Zk Zk <| ZR <| ZV (.tuple #[]) (fun w1 hw h=> ?_)
   have k:=h w1 (Nat.le_refl _) (fun _ _ _=>rfl)
   rw[ho]
   exact part_post (r:=[]) (S':={S with nds:=Za S.nds {N with fill:=[d.1]},wh:=4}) T hw hgw hQ (by show Za S.nds _=_;rw[hE,setL_snoc]) k.1 k.2.1 (k.2.2.imp fun v h1 h2=>⟨h2.tr,h2.cl,h2.pa,row_one h1.2 h1.1,h2.da,h2.st,h2.px⟩) (fun b hb=>hb.elim (x.2 b) fun hb=>(K7.lt k.2.2.get.2 b hb).1)
 rw[if_neg c3]at ho
 refine ZA (Pw .eql 9 (.tmp 31) (.const (.string ⟨#[102,105,108,108]⟩)) (K4 k) (K4 fillN)) Zf (fun w1 hw h=>Kv (by simpa using c3)) <| K0.cond false Zk <| ZS 0 ?_
 by_cases c4:k=strokeN
 ·subst c4
  rw[if_pos rfl]at ho
  refine ZR <| K0.cond true Zk <| ZS 3 ?_
  cases hb:pb with
  |false=>
   exact ZR <| stp_ (b:=false) (z:=5) T hg1 (fun _=>by rw[ho,if_neg fun h=>hpn hb ⟨h.1,h.2.1⟩]) (fun e=>by cases e)
  |true=>
   refine ZR <| ZA (Kt 3 ⟨gt,7,none⟩) (Zi S.wh) (fun w1 hw h=>K6 Zk (by rw[h.1.bt.cell];rfl)) <| stp_ (b:=decide (S.wh<5)) (z:=5) T hg1 (fun e=>by rw[ho,if_neg fun h=>by simp at e;omega]) (fun e=> ?_)
   rw[if_pos ⟨(hpy hb).1,(hpy hb).2,by simpa using e⟩]at ho
   refine rdH_ 4 (q:=rdPen false rest) (vq:=fun d (z:Option Addr×Nat)=>styV d.1 z) (rs:=fun d=>d.2.1) (fl:=fun d=>d.2.2) (Cq:=fun d z v=>Od v z.1 d.1.d.length 1 daC d.1.d) T (fun w1 k1 k2 k3=>pen_t k1 hs k2 fun b hb=>Nat.le_trans k3 hb) (hg2 N q) (fun e=>by rw[ho,e];rfl) rfl rfl (fun d z e=> ?_)
   rw[e,Option.bind_some]at ho
   obtain⟨s,r1,f1⟩:=d
   have hs1:=rdPen_suf hs e
   simp only at ho hs1
   refine K0.ask (Rp 52 ⟨gl,L.length*47,none⟩ 13) (Zq gl (L.length*47+36)) Zk (fun w1 hw h=>Ub (d:=36) Zk) <| ZS 5 <| K0.mutSt (L:=[gl]) (G:=NdO W gl yc L {N with sty:=s} {q with daA:=z.1.1.1,dac:=z.1.1.2}) (Φ':=fun u=>Tm W w gt gr [gl] (txS {S with wh:=5} (some ⟨gl,0,none⟩,yc) (L.length+1)) (L8 A n c r1.length f1) u∧NdO W gl yc L {N with sty:=s} {q with daA:=z.1.1.1,dac:=z.1.1.2} u∧Lm z.1.2 (fun v=>Od v z.1.1.1 s.d.length 1 daC s.d) u) (Om 47 ⟨gl,L.length*47+36,none⟩ (styV s z.1.1)) (fun w1 hw h=>h.2.1.set Zk (Nat.le_of_ble_eq_true Zk) Zk Zk) (fun u h=>h.2.1.own hgw.1) (fun wa u e1 e2 h hG=>⟨hml wa u e1 e2 h.1,hG,h.2.2.keep e1 e2 z.2 hgw.2⟩) Zk Zk <| ZR <| rdH_ 5 (F:=fun u=>NdO W gl yc L {N with sty:=s} {q with daA:=z.1.1.1,dac:=z.1.1.2} u∧Lm z.1.2 (fun v=>Od v z.1.1.1 s.d.length 1 daC s.d) u) (q:=rdPn f1 r1) (rs:=fun _=>[]) (fl:=fun d=>d.2) (vq:=fun d (z:PM)=>X7 d.1 z) (Cq:=fun d z=>PRd d.1 z 125) T (fun w1 k1 k2 k3=>paint_h hM k1 hs1 k2 fun b hb=>Nat.le_trans k3 hb) (fun wa u e1 e2 h=>⟨hg2 _ _ wa u e1 e2 h.1,h.2.keep e1 e2 z.2 hgr⟩) (fun e=>by rw[ho,e];rfl) rfl rfl (fun d x e=> ?_)
   rw[e]at ho
   refine K0.make (Li 44 1 #[(0,X7 d.1 x.1.1)]) (Kg 1) (fun g u=>K7 u w.heap.size 60 40 (some ⟨g,0,none⟩) 1 1 (pnC d.1 x.1.1)) Zk (fun w1 hw h=>Xd (cells:=(pnC d.1 x.1.1).toArray) Zk h.1.sz Zk Zd) fun ga=>ZS 5 <| K0.ask (Rp 52 ⟨gl,L.length*47,none⟩ 14) (Zq gl (L.length*47+42)) Zk (fun w1 hw h=>Ub (d:=42) Zk) <| ZS 6 <| K0.mutSt (L:=[gl]) (G:=NdO W gl yc L {N with sty:=s,stroke:=[d.1]} {q with daA:=z.1.1.1,dac:=z.1.1.2,stA:=some ⟨ga,0,none⟩,stc:=1,sl:=[(d.1,x.1.1)]}) (Φ':=fun u=>Tm W w gt gr [gl] (txS {S with wh:=5} (some ⟨gl,0,none⟩,yc) (L.length+1)) (L8 A n c 0 d.2) u∧NdO W gl yc L {N with sty:=s,stroke:=[d.1]} {q with daA:=z.1.1.1,dac:=z.1.1.2,stA:=some ⟨ga,0,none⟩,stc:=1,sl:=[(d.1,x.1.1)]} u∧Lm (fun b=>z.1.2 b∨(x.1.2 b∨b∈bl (some ⟨ga,0,none⟩))) (fun v=>Od v z.1.1.1 s.d.length 1 daC s.d∧PRd d.1 x.1.1 125 v∧K7 v w.heap.size 60 40 (some ⟨ga,0,none⟩) 1 1 (pnC d.1 x.1.1)) u) (Om 44 ⟨gl,L.length*47+42,none⟩ (Kg 1 ga)) (fun w1 hw h=>h.1.2.1.1.set Zk (Nat.le_of_ble_eq_true Zk) Zk Zk) (fun u h=>h.1.2.1.1.own hgw.1) (fun wa u e1 e2 h hG=>⟨hml wa u e1 e2 h.1.1,hG,(h.1.2.1.2.and (h.1.2.2.and (K7.held h.2))).keep e1 e2 (fun b hb=>hb.elim (z.2 b) fun hb=>hb.elim (x.2 b) fun hb=>(K7.lt h.2 b hb).1) hgw.2⟩) Zk Zk <| ZR <| ZV (.tuple #[]) (fun w1 hw h=> ?_)
   have k:=h w1 (Nat.le_refl _) (fun _ _ _=>rfl)
   rw[ho]
   exact part_post (r:=[]) (S':={S with nds:=Za S.nds {N with sty:=s,stroke:=[d.1]},wh:=5}) T hw hgw hQ (by show Za S.nds _=_;rw[hE,setL_snoc]) k.1 k.2.1 (k.2.2.imp fun v h1 h2=>⟨h2.tr,h2.cl,h2.pa,h2.fi,h1.1,row_one h1.2.2 h1.2.1,h2.px⟩) (fun b hb=>hb.elim (z.2 b) fun hb=>hb.elim (x.2 b) fun hb=>(K7.lt k.2.2.get.2.2 b hb).1)
 rw[if_neg c4]at ho
 exact ZA (Pw .eql 9 (.tmp 31) (.const (.string ⟨#[115,116,114,111,107,101]⟩)) (K4 k) (K4 strokeN)) Zf (fun w1 hw h=>Kv (by simpa using c4)) <| ZI false <| K0.throw (Instr.panic Kf >>= fun v=>pure (.value v)) Kf Zk (fun w1 hw h=>by simp[Instr.panic,Kf,Go.goPanic]) Zk <| K0.pan fun w1 hw h=>by rw[ho];exact Tp.pan T hw ⟨h.1.sz,h.1.fr,h.1.bt⟩ rfl rfl
end
section
variable{W w wa u:World}{gt go gr g n c N:Nat}{A:Option Addr}{f b:Bool}{ws:WS}{tc:List Value}
theorem K5.storeN{P:Program}{t:TypeId}{w:World}{g j:Nat}{cs:List Value}{v:Value}(h:K5 w g cs)(hn:O5 P t=some v.cells.toList.length)(hj:j+v.cells.toList.length≤cs.length)(h1:∀u∈v.cells.toList,u.oneCell'=true):
 ∃w',(Om t ⟨g,j,none⟩ v).run P w= .ok .skip w'∧Chg [g] w w'∧∀w'',w'.heap.size≤w''.heap.size→(∀b∈[g],w''.heap[b]? =w'.heap[b]?)→K5 w'' g (cs.take j++v.cells.toList++cs.drop (j+v.cells.toList.length)):=by
 obtain⟨ty,h⟩:=h
 have hst:=run_storeCells_at P g j ty v.cells.toList 0 cs.toArray w h (by simp at hj ⊢;omega) h1
 have hsz:v.cells.size=v.cells.toList.length:=by simp
 have hnew:((cs.toArray.toList.take (j+0)++v.cells.toList++cs.toArray.toList.drop (j+0+v.cells.toList.length)).toArray)=(cs.take j++v.cells.toList++cs.drop (j+v.cells.toList.length)).toArray:=rfl
 rw[hnew]at hst
 refine⟨w.setRow g (cs.take j++v.cells.toList++cs.drop (j+v.cells.toList.length)).toArray,?_,⟨rfl,rfl,rfl,by rw[Pd];exact Nat.le_refl _,fun k _ hk=>Ov _ _ _ _ (by simpa using hk)⟩,fun w'' k1 k2=>⟨ty,?_⟩⟩
 ·simp only[Om,Instr.storeAt,Instr.sureAddr,storeVar,Sem.run_bind,Sem.run_pure,Result.andThen_ok,Lq hn]
  rw[if_neg Zs]
  simp only[hst,Sem.run_pure,Sem.run_bind,Result.andThen_ok]
 ·rw[k2 g Zs]
  simp only[World.setRow,Array.getElem?_modify,if_true,h,Option.map_some]
@[reducible] def nilV:Value:= .slice none 0 0
theorem K0.impM{P:Program}{Δ:List Deferred}{W:World}{Q:Exit→Act→World→Prop}{Φ Φ':World→Prop}{c:Nh}(h:∀w,Φ w→Φ' w)(hf:notAny c=true)(H:K0 P Δ W Q Φ' c):K0 P Δ W Q Φ c:=by
 obtain⟨foc,k,σ⟩:=c
 replace H:=H.get
 refine⟨?_⟩
 unfold Tg at H ⊢
 cases foc with
 |code x=>exact fun hwf β a w hr=>H hwf β a w (hr.imp h)
 |ops o l=>exact fun hwf β a w hr=>H hwf β a w (hr.imp h)
 |any o f l=>cases hf
 |out e=>exact fun hwf β a w hr=>H hwf β a w (hr.imp h)
theorem strAt_ne(hb:K5 u g tc)(hc:∀v∈tc,∀s,v≠K4 s)(h:L5 u A n ws)(h0:0<ws.length):∀b∈bl A,b≠g:=by
 rintro b hb2 rfl
 obtain⟨s,hs⟩:∃s,ws[0]? =some s:=⟨_,List.getElem?_eq_getElem h0⟩
 obtain⟨ad,hA,hc2⟩:=h.2 0 s hs
 rw[hA]at hb2
 obtain rfl:b=ad.block:=by simpa[bl]using hb2
 obtain⟨ty,hb⟩:=hb
 unfold World.cell? at hc2
 rw[Ou,hb]at hc2
 simp only at hc2
 split at hc2
 ·cases hc2
 ·exact hc _ (List.mem_of_getElem? (by simpa using hc2)) s rfl
theorem L5.left2{L:List Nat}(e2:∀b,b∉L→wa.heap[b]? =u.heap[b]?)(hA:∀b∈bl A,b∉L)(h:L5 wa A n ws):L5 u A n ws:=
 ⟨h.1,fun k s hk=>by
  obtain⟨ad,h1,h2⟩:=h.2 k s hk
  exact⟨ad,h1,Ye h2 (by rw[Ou];exact(e2 _ (hA _ (by rw[h1];simp[bl]))).symm)⟩⟩
theorem rbx_full:L8 A n c n f=[.slice A n c,.bool f]:=by
 unfold L8 rsl
 rw[Nat.sub_self,stepA_zero,Nat.sub_zero]
theorem txC_ns{W H r g b a wh ln far:Int}{l:Value}(hl:∀s,l≠K4 s):∀v∈Vv W H r g b a l wh ln far,∀s,v≠K4 s:=by
 intro v hv s e
 subst e
 unfold Vv at hv
 simp only[List.mem_cons,List.not_mem_nil,or_false]at hv
 rcases hv with h|h|h|h|h|h|h|h|h|h<;>first|exact absurd h.symm (hl s)|cases h
theorem rbx2_ns:∀v∈[Value.slice A n c,.bool f],∀s,v≠K4 s:=by
 intro v hv s e
 subst e
 simp only[List.mem_cons,List.not_mem_nil,or_false]at hv
 rcases hv with h|h<;>cases h
theorem nil_ns:∀s,nilV≠K4 s:=fun s h=>by cases h
def cell1(fn:Func)(σ:AS):Option (Nat×TypeId):=
 match fn.results.toList with
 | [.cell t ty]=>match σ.tmps.getD t (.v undef)with
  | .v (.pointer (some ⟨g,0,none⟩))=>some (g,ty)
  |_=>none
 |_=>none
theorem cell1_ok{P:Program}{Δ:List Deferred}{W:World}{Φ:World→Prop}{fn:Func}{σ:AS}{β:Nat→Nat}{a:Act}{w w':World}{g:Nat}{ty:TypeId}{v:Value}(hc:cell1 fn σ=some (g,ty))(hr:Pz Δ W β σ Φ a w)
 (h1:(loadVar ty ⟨g,0,none⟩).run P w'= .ok v w'):(results fn a.tmps).run P w'= .ok v w':=by
 unfold cell1 at hc
 split at hc
 ·rename_i t ty' hres
  split at hc
  ·rename_i gg e1
   simp only[Option.some.injEq,Prod.mk.injEq]at hc
   obtain⟨rfl,rfl⟩:=hc
   have hg1:a.tmps.getD t undef=Zq gg 0:=by
    have:=hr.eval (.tmp t)
    simp only[Act.eval,AS.eval,e1,AV.conc]at this
    exact this
   rw[Uy,Sem.run_bind,Array.mapM_eq_mapM_toList,Sem.run_map,hres,List.mapM_cons,Sem.run_bind]
   simp only[Zh,hg1,asAddr,Sem.run_bind,Sem.run_pure,Result.andThen_ok,h1,List.mapM_nil,List.mapM_cons]
   rfl
  ·cases hc
 ·cases hc
end
section
variable{P:Program}{W:World}{Φ:World→Prop}{c:Nh}{fn:Func}{R:Ending→World→Prop}{fv:Fn}{cap dargs:Array Value}{f:FuncId}{args:Array Value}
theorem K0.panD1{ch:List PanicEntry}(g:Nat)(ty:TypeId)(hfo:c.foc= .out (.panic ch))(hc:cell1 fn c.st=some (g,ty))(hi:∀w,(invoke (.fn fv cap) dargs).run P w= .ok (.enter f args) w)
 (h:∀w,Below W.heap.size W w→Φ w→CallsD P f args (.panicking ch) w fun e u w'=>settle u= .returning∧∃x v,e= .returned x∧(loadVar ty ⟨g,0,none⟩).run P w'= .ok v w'∧R (.returned v) w'):
 K0 P [⟨.fn fv cap,dargs⟩] W (bodyPostD P fn R) Φ c:=by
 obtain⟨foc,k,σ⟩:=c
 refine⟨?_⟩
 simp only at hfo
 subst hfo
 intro hwf β a w hr
 refine X6 k ?_
 show Leaves P fn a.tmps R a.defers (.panicking ch) w
 rw[hr.defers]
 refine leaves_cons Zs (hi w) ((h w hr.bel hr.phi).mono fun e u' w' he=> ?_)
 obtain⟨hu,x,v,rfl,k1,hR⟩:=he
 show Leaves P fn a.tmps R [] (settle u') w'
 rw[hu]
 exact⟨_,cell1_ok hc hr k1,hR⟩
end
section
variable{W w:World}{gt go c N:Nat}{A:Option Addr}{b:Bool}
theorem all1_r(hW:Below W.heap.size W w):CallsD Tryz.prog 45 #[Zq go 0] .returning w (fun e u' w'=>u'= .returning∧(e= .returned (.tuple #[])∧Below W.heap.size W w'∧Stay W w w')):=by
 refine K0.enterRec (rv:= .nilIface) Tryz.func45 rfl (fun ρ w=>rfl) rfl rfl rfl rfl rfl (by show 4<1+(15-1);decide) (fun c₀ cs hu=> ?_) hW ?_
 ·simp[recoverD,hu]
 refine ZR <| ZI true <| ZV (.tuple #[]) (fun w1 hw h=>⟨rfl,hw,h w1 (Nat.le_refl _) fun _ _ _=>rfl⟩)
theorem all1_p(hW:Below W.heap.size W w)(ho:K5 w go [.bool b])(lo:W.heap.size≤go):CallsD Tryz.prog 45 #[Zq go 0] (.panicking Qg) w (fun e u' w'=>u'= .panicking [{v:=Kf,recovered:=true}]∧(e= .returned (.tuple #[])∧Below W.heap.size W w'∧Oh W w go [.bool false] w')):=by
 refine K0.enterRec (rv:=Kf) Tryz.func45 rfl (fun ρ w=>rfl) rfl rfl rfl rfl rfl (by show 4<1+(15-1);decide) (fun c₀ cs hu=> ?_) hW ?_
 ·simp[recoverD,hu,Qg]
 refine ZR <| ZI false <| ZR <| ZI false <| K0.mutSt (L:=[go]) (G:=fun u=>K5 u go [.bool false]) (Φ':=Oh W w go [.bool false]) (Om 4 ⟨go,0,none⟩ Zf) (fun w1 hw h=>(ho.stay lo h.2).store Zk rfl (by intro u hu;simp[Value.cells]at hu;subst hu;rfl)) (fun u h b hb=> ?_) (fun wa u e1 e2 h hG=>⟨by rw[←e1];exact h.1,fun b h1 h2 h3=>(e2 b (by simpa using h3)).symm.trans (h.2 b h1 h2),hG⟩) Zk Zk ?_
 ·obtain rfl:b=go:=by simpa using hb
  exact⟨lo,(ho.stay lo h.2).own⟩
 refine ZR <| ZV (.tuple #[]) (fun w1 hw h=>⟨rfl,hw,h w1 (Nat.le_refl _) fun _ _ _=>rfl⟩)
theorem L5.stay{u:World}{B n:Nat}{ws:WS}(h:L5 w A n ws)(hA:∀b∈bl A,B≤b)(hs:∀b,B≤b→b<w.heap.size→u.heap[b]? =w.heap[b]?):L5 u A n ws:=
 ⟨h.1,fun k s hk=>by
  obtain⟨ad,h1,h2⟩:=h.2 k s hk
  have hlt:=V9 h2
  rw[Ou]at hlt
  exact⟨ad,h1,Ye h2 (by rw[Ou];exact hs _ (hA _ (by rw[h1];simp[bl])) hlt)⟩⟩
theorem bool_st{w1:World}{g:Nat}{v b:Bool}(h:K5 w1 g [.bool b]):∃w',(Om 4 ⟨g,0,none⟩ (.bool v)).run Tryz.prog w1= .ok .skip w'∧Chg [g] w1 w'∧∀w'',w'.heap.size≤w''.heap.size→(∀b∈[g],w''.heap[b]? =w'.heap[b]?)→K5 w'' g [.bool v]:=h.store Zk rfl (by intro u hu;simp[Value.cells]at hu;subst hu;rfl)
theorem L5.blk{u:World}{A:Option Addr}{n:Nat}{ws:WS}(h:L5 u A n ws)(h0:0<ws.length):∀b∈bl A,∃cs ty own,u.heap[b]? =some (.cells cs ty own):=fun b hb=>by
 obtain⟨ad,h1,h2⟩:=h.2 0 _ (List.getElem?_eq_getElem h0)
 rw[h1]at hb
 obtain rfl:b=ad.block:=by simpa[bl]using hb
 unfold World.cell? at h2
 rw[Ou]at h2
 split at h2
 ·exact⟨_,_,_,by assumption⟩
 ·cases h2
theorem sl_f{l:List UInt8}{ws:WS}{n:Nat}(hM:ML w)(hB:okN l=true)(hl:l.length≤10000000)(he:Mm l=ws)(hn:ws.length=n)(h0:0<ws.length)(hN:N≤w.heap.size):Calls Tryz.prog 22 #[K4 l] w (K8 w (fun q:(Option Addr×Nat)×Nat=> .tuple #[.slice q.1.1 n q.1.2,Zi 0]) fun q u=>L5 u q.1.1 n ws∧∀b∈bl q.1.1,N≤b):=by
 subst hn;subst he
 refine(sl_s hM hB hl).mono fun e w' h=> ?_
 obtain⟨x,h1,h2,h3⟩:=h.fresh (fun y=>bl y.1) (fun y u k b hb=>k.blk h0 b hb)
 exact⟨x,h1,h2,fun w'' k1 k2=>⟨(h3 w'' k1 k2).1,fun b hb=>Nat.le_trans hN ((h3 w'' k1 k2).2.1 b hb).1⟩⟩
end
section
variable{W w:World}{gt:Nat}{y:Option Addr×Nat}{L:List (Nd×ND)}{S:TS}{l:List UInt8}{N:Nat}
theorem sf_f(hM:ML w)(hB:Vp (Ld l)=true)(hl:l.length≤65536){ws:WS}(he:Lp (Ld l)=ws)(h0:0<ws.length)(hN:N≤w.heap.size):Calls Tryz.prog 52 #[K4 l] w (K8 w (fun q:(Option Addr×Nat)×Nat=> .tuple #[.slice q.1.1 ws.length q.1.2,Zi 0,Zi 0]) fun q u=>(L5 u q.1.1 ws.length ws∧ws.length≤q.1.2)∧∀b∈bl q.1.1,N≤b):=by
 subst he
 refine(sf_c hM hB Zo).mono fun e w' h=> ?_
 obtain⟨x,h1,h2,h3⟩:=h.fresh (fun x=>bl x.1) (fun x u k=>k.1.blk h0)
 exact⟨x,h1,h2,fun w'' k1 k2=>⟨(h3 w'' k1 k2).1,fun b hb=>Nat.le_trans hN ((h3 w'' k1 k2).2.1 b hb).1⟩⟩
end
section
variable{W w:World}{gt gr n c:Nat}{A:Option Addr}{y:Option Addr×Nat}{ws0 rest:WS}{f:Bool}{L:List (Nd×ND)}{S:TS}{R:Nat→Prop}{tc rc:List Value}
structure KE(W w:World)(gt gr:Nat)(y:Option Addr×Nat)(A:Option Addr)(n c:Nat)(ws0:WS):Prop where
 hW:Below W.heap.size W w
 lt:W.heap.size≤gt
 gl:gt<w.heap.size
 lr:w.heap.size≤gr
 nA:∀b∈bl A,b≠gt∧b≠gr∧b∉bl y.1
 ny:∀b∈bl y.1,b≠gt∧b<w.heap.size
 hn:n≤c
 hn2:n≤1000000
 len:∀y∈ws0,y.length≤65536
structure Tk(W w:World)(gt gr:Nat)(y:Option Addr×Nat)(A:Option Addr)(n:Nat)(ws0:WS)(rc:List Value)(u:World):Prop where
 sz:w.heap.size≤u.heap.size
 fr:∀b,W.heap.size≤b→b<w.heap.size→b≠gt→b∉bl y.1→u.heap[b]? =w.heap[b]?
 br:K5 u gr rc
 s:L5 u A n ws0
theorem KE.te(K:KE W w gt gr y A n c ws0){u:World}(hu:Below W.heap.size W u)(h:L5 u A n ws0):TE W u gt gr (bl y.1) A n c ws0:=
 ⟨hu,h,K.lt,Nat.le_trans K.hW.size K.lr,by have:=K.gl;have:=K.lr;omega,K.nA,K.hn,K.hn2,K.len⟩
theorem KE.re(K:KE W w gt gr y A n c ws0){u:World}(hu:Below W.heap.size W u)(h:L5 u A n ws0):RE W u gr A n c ws0:=
 ⟨hu,Nat.le_trans K.hW.size K.lr,h,fun ad _ e=>(K.nA ad.block (by rw[e];simp[bl])).2.1,K.hn,K.hn2,K.len⟩
theorem Tk.left{wa u:World}{LL:List Nat}{rc2:List Value}(K:KE W w gt gr y A n c ws0)(hL:∀b∈LL,b=gt∨b=gr∨b∈bl y.1)(e1:wa.heap.size≤u.heap.size)(e2:∀b,b∉LL→b<wa.heap.size→wa.heap[b]? =u.heap[b]?)(h:Tk W w gt gr y A n ws0 rc wa)(hr:K5 u gr rc2):Tk W w gt gr y A n ws0 rc2 u:=
 ⟨Nat.le_trans h.sz e1,fun b h1 h2 h3 h4=>(e2 b (fun hb=>(hL b hb).elim h3 fun k=>k.elim (fun e=>by have:=K.lr;omega) h4) (Nat.lt_of_lt_of_le h2 h.sz)).symm.trans (h.fr b h1 h2 h3 h4),hr,by
  refine⟨h.s.1,fun k s hk=> ?_⟩
  obtain⟨ad,hA,hc⟩:=h.s.2 k s hk
  refine⟨ad,hA,Ye hc ?_⟩
  have hb:=K.nA ad.block (by rw[hA];simp[bl])
  have hlt:=V9 hc
  rw[Ou]at hlt ⊢
  exact(e2 ad.block (fun hm=>(hL _ hm).elim hb.1 fun k=>k.elim hb.2.1 hb.2.2) hlt).symm⟩
theorem Tk.pan{w1:World}{ln:Int}(hW:Below W.heap.size W w)(hw:Below W.heap.size W w1)(sz:w.heap.size≤w1.heap.size)(fr:∀b,W.heap.size≤b→b<w.heap.size→b≠gt→b∉bl y.1→w1.heap[b]? =w.heap[b]?)(hl:Qr gt ln w1):PanG w (gt::bl y.1) Qg (Qr gt ln) (.panicked Qg) w1:=
 ⟨rfl,⟨hw.os.trans hW.os.symm,hw.tape.trans hW.tape.symm,hw.output.trans hW.output.symm,sz,fun k hk hkl=>by
  simp only[List.mem_cons,not_or]at hkl
  rcases Nat.lt_or_ge k W.heap.size with h4|h4
  ·rw[hw.block k h4,hW.block k h4]
  ·exact fr k h4 hk hkl.1 hkl.2⟩,fun w'' k1 k2=>by
  obtain⟨cs,h1,h2,h3⟩:=hl
  exact⟨cs,h1.to (k2 gt (.inl Zs)),h2,h3⟩⟩
theorem Xt{m:Nat}{u:World}(h:K5 u gt (txS S y m)):Qr gt S.ln u:=⟨_,h,rfl,rfl⟩
structure Kp(W w:World)(gt:Nat)(y:Option Addr×Nat)(ln:Int)(u:World):Prop where
 sz:w.heap.size≤u.heap.size
 fr:∀b,W.heap.size≤b→b<w.heap.size→b≠gt→b∉bl y.1→u.heap[b]? =w.heap[b]?
 ln:Qr gt ln u
theorem rdK_{D D2 X2:Type}{fn:Func}{o2:Option D2}{val2:D2→X2→Value}{G2:D2→X2→World→Prop}{F:World→Prop}{q:Option D}{vq:D→Value}{rs:D→WS}{fl:D→Bool}{e:FuncId}{args:Array Value}{c0:Nh}{z:Int}(st:Nat)(K:KE W w gt gr y A n c ws0)
 (hc:∀w1,RE W w1 gr A n c ws0→K5 w1 gr (L8 A n c rest.length f)→Calls Tryz.prog e args w1 (Le w1 [gr] Qg q (fun d (_:Unit)=>vq d) (fun d _ u=>K5 u gr (L8 A n c (rs d).length (fl d)))))
 (hF:∀wa u:World,wa.heap.size=u.heap.size→(∀b,b∉[gr]→wa.heap[b]? =u.heap[b]?)→F wa→F u) (hl:∀u,F u→Qr gt z u)
 (hn:q=none→o2=none)
 (hk:∀d,q=some d→K0 Tryz.prog [] W (bodyPost Tryz.prog fn (Uv w (gt::bl y.1) Qg (Qr gt z) o2 val2 G2)) (fun u=>Tk W w gt gr y A n ws0 (L8 A n c (rs d).length (fl d)) u∧F u) (Lw Tryz.prog st 1000 (Lg (.v (vq d)) c0)))
 (hf:Qb c0=true:=by kernel_rfl) (hc2:Ln Tryz.prog c0=some (e,args):=by kernel_rfl):K0 Tryz.prog [] W (bodyPost Tryz.prog fn (Uv w (gt::bl y.1) Qg (Qr gt z) o2 val2 G2)) (fun u=>Tk W w gt gr y A n ws0 (L8 A n c rest.length f) u∧F u) c0:=by
 have own:Xq W [gr] (fun u=>Tk W w gt gr y A n ws0 (L8 A n c rest.length f) u∧F u):=fun u h b hb=>by
  obtain rfl:b=gr:=by simpa using hb
  exact⟨Nat.le_trans K.hW.size K.lr,h.1.br.own⟩
 cases hq:q with
 |none=>
  exact K0.mutx (L:=[gr]) (Φ':=Kp W w gt y z) (fun w1 hw h=>by have t:=hc w1 (K.re hw h.1.s) h.1.br;rw[hq]at t;exact t) own (fun wa u e1 e2 h _=>⟨by rw[←e1];exact h.1.sz,fun b k1 k2 k3 k4=>(e2 b (by have:=K.lr;simp;omega)).symm.trans (h.1.fr b k1 k2 k3 k4),hl u (hF wa u e1 e2 h.2)⟩) hf hc2 <| K0.pan fun w1 hw h=>by rw[hn hq];exact Tk.pan K.hW hw h.sz h.fr h.ln
 |some d=>exact K0.mut (L:=[gr]) (Φ':=fun _ u=>Tk W w gt gr y A n ws0 (L8 A n c (rs d).length (fl d)) u∧F u) (fun w1 hw h=>by have t:=hc w1 (K.re hw h.1.s) h.1.br;rw[hq]at t;exact t) own (fun _ wa u e1 e2 h hG=>⟨h.1.left K (fun b hb=> .inr (.inl (by simpa using hb))) (Nat.le_of_eq e1) (fun b hb _=>e2 b hb) hG,hF wa u e1 e2 h.2⟩) hf hc2 (fun _=>K0.run Zk (stop:=st) 1000 _ (hk d hq))
theorem lnq_keep{wa u:World}{S':TS}{x:YL×(Nat→Prop)}{b:Nat}(hb:b≠gt)(hy:b∉bl y.1)(hR:¬R b)(hx:¬x.2 b)(e1:wa.heap.size=u.heap.size)(e2:∀k,k∉[b]→wa.heap[k]? =u.heap[k]?)(h:S9 W gt y L S' R x wa):S9 W gt y L S' R x u:=
 ⟨h.bt.to (e2 gt (by simpa using hb.symm)).symm,h.row.left e2 fun k hk hm=>by
  obtain rfl:k=b:=by simpa using hm
  exact(h.bl k hk).elim hy hR,h.eq,h.hd.left e1 e2 fun k hk hm=>by
  obtain rfl:k=b:=by simpa using hm
  exact hx hk,h.bl,h.ap⟩
def R1(w:World)(gr:Nat)(R:Nat→Prop)(b:Nat):Prop:=(w.heap.size≤b∧R b)∧b≠gr
theorem lnq_gr{wa u:World}{S':TS}{x:Gh YL (R1 w gr R)}(K:KE W w gt gr y A n c ws0)(e1:wa.heap.size=u.heap.size)(e2:∀k,k∉[gr]→wa.heap[k]? =u.heap[k]?)(h:S9 W gt y L S' (R1 w gr R) x.1 wa):S9 W gt y L S' (R1 w gr R) x.1 u:=
 lnq_keep (by have:=K.gl;have:=K.lr;omega) (fun hb=>by have:=(K.ny gr hb).2;have:=K.lr;omega) (fun hb=>hb.2 rfl) (fun hb=>(x.2 _ hb).2 rfl) e1 e2 h
theorem lnq_set{wa u:World}{S' S2:TS}{x:Gh YL (R1 w gr R)}(K:KE W w gt gr y A n c ws0)(hn:S2.nds=S'.nds)(e1:wa.heap.size=u.heap.size)(e2:∀k,k∉[gt]→wa.heap[k]? =u.heap[k]?)(h:S9 W gt y L S' (R1 w gr R) x.1 wa)(hb:K5 u gt (txS S2 x.1.1.1 x.1.1.2.length)):S9 W gt y L S2 (R1 w gr R) x.1 u:=
 ⟨hb,h.row.left e2 fun k hk hm=>by
  obtain rfl:k=gt:=by simpa using hm
  exact(h.bl k hk).elim (fun k=>(K.ny _ k).1 rfl) fun k=>by have:=k.1.1;have:=K.gl;omega,by rw[hn];exact h.eq,h.hd.left e1 e2 fun k hk hm=>by
  obtain rfl:k=gt:=by simpa using hm
  have:=(x.2 _ hk).1.1;have:=K.gl;omega,h.bl,h.ap⟩
theorem lnq_post{w1:World}{S':TS}{x:Gh YL (R1 w gr R)}(K:KE W w gt gr y A n c ws0)(hw:Below W.heap.size W w1)(h1:Tk W w gt gr y A n ws0 rc w1)(h:S9 W gt y L S' (R1 w gr R) x.1 w1):Ng w (gt::bl y.1) (fun _:Gh YL R=> .tuple #[]) (fun x u=>S9 W gt y L S' R x.1 u) (.returned (.tuple #[])) w1:=
 ⟨⟨x.1,fun b hb=>(x.2 b hb).1.2⟩,rfl,⟨hw.os.trans K.hW.os.symm,hw.tape.trans K.hW.tape.symm,hw.output.trans K.hW.output.symm,h1.sz,fun k hk hkl=>by
  simp only[List.mem_cons,not_or]at hkl
  rcases Nat.lt_or_ge k W.heap.size with h4|h4
  ·rw[hw.block k h4,K.hW.block k h4]
  ·exact h1.fr k h4 hk hkl.1 hkl.2⟩,fun w'' k1 k2=>⟨h.bt.to (k2 gt (.inl Zs)),h.row.same fun b hb=>k2 b ((h.bl b hb).imp (fun k=>by simp[k]) fun k=>⟨k.1.1,(h.row.lt b hb).2⟩),h.eq,h.hd.to k1 fun b hb=>k2 b (.inr ⟨(x.2 b hb).1.1,h.hd.lt b hb⟩),fun b hb=>(h.bl b hb).imp id fun k=>k.1.2,h.ap⟩⟩
theorem rdX_{D2 X2:Type}{fn:Func}{o2:Option D2}{val2:D2→X2→Value}{G2:D2→X2→World→Prop}{q:Option (TS×WS×Bool)}{e:FuncId}{args:Array Value}{c0:Nh}(st:Nat)(K:KE W w gt gr y A n c ws0){x0:Gh YL (R1 w gr R)}(hx0:x0.1.1.1=y)
 (hc:∀w1,Below W.heap.size W w1→Tk W w gt gr y A n ws0 (L8 A n c rest.length f) w1→S9 W gt y L S (R1 w gr R) x0.1 w1→Calls Tryz.prog e args w1 (Uv w1 (gt::gr::bl y.1) Qg (Qr gt S.ln) q (fun _ (_:Gh YL (R1 w gr R))=> .tuple #[]) (fun d x u=>K5 u gr (L8 A n c d.2.1.length d.2.2)∧S9 W gt y L d.1 (R1 w gr R) x.1 u)))
 (hn:q=none→o2=none)
 (hk:∀d (x:Gh YL (R1 w gr R)),q=some d→K0 Tryz.prog [] W (bodyPost Tryz.prog fn (Uv w (gt::bl y.1) Qg (Qr gt S.ln) o2 val2 G2)) (fun u=>Tk W w gt gr y A n ws0 (L8 A n c d.2.1.length d.2.2) u∧S9 W gt y L d.1 (R1 w gr R) x.1 u) (Lw Tryz.prog st 1000 (Lg (.v (.tuple #[])) c0)))
 (hf:Qb c0=true:=by kernel_rfl) (hc2:Ln Tryz.prog c0=some (e,args):=by kernel_rfl):K0 Tryz.prog [] W (bodyPost Tryz.prog fn (Uv w (gt::bl y.1) Qg (Qr gt S.ln) o2 val2 G2)) (fun u=>Tk W w gt gr y A n ws0 (L8 A n c rest.length f) u∧S9 W gt y L S (R1 w gr R) x0.1 u) c0:=by
 have own:Xq W (gt::gr::bl y.1) (fun u=>Tk W w gt gr y A n ws0 (L8 A n c rest.length f) u∧S9 W gt y L S (R1 w gr R) x0.1 u):=fun u h b hb=>by
  simp only[List.mem_cons]at hb
  rcases hb with rfl|rfl|hb
  ·exact⟨K.lt,h.2.bt.own⟩
  ·exact⟨Nat.le_trans K.hW.size K.lr,h.1.br.own⟩
  ·exact⟨(h.2.row.lt b (by rw[hx0];exact hb)).1,(h.2.row.blk b (by rw[hx0];exact hb)).2⟩
 have hin:∀b∈gt::gr::bl y.1,b=gt∨b=gr∨b∈bl y.1:=fun b hb=>by simpa using hb
 cases hq:q with
 |none=>
  exact K0.mutxG (L:=gt::gr::bl y.1) (G:=Qr gt S.ln) (Φ':=Kp W w gt y S.ln) (fun w1 hw h=>by have t:=hc w1 hw h.1 h.2;rw[hq]at t;exact t) own (fun wa u e1 e2 h hG=>⟨by rw[←e1];exact h.1.sz,fun b k1 k2 k3 k4=>(e2 b (fun hb=>(hin b hb).elim k3 fun k=>k.elim (fun e=>by have:=K.lr;omega) k4)).symm.trans (h.1.fr b k1 k2 k3 k4),hG⟩) hf hc2 <| K0.pan fun w1 hw h=>by rw[hn hq];exact Tk.pan K.hW hw h.sz h.fr h.ln
 |some d=>exact K0.mut (L:=gt::gr::bl y.1) (Φ':=fun(x:Gh YL (R1 w gr R)) u=>Tk W w gt gr y A n ws0 (L8 A n c d.2.1.length d.2.2) u∧S9 W gt y L d.1 (R1 w gr R) x.1 u) (fun w1 hw h=>by have t:=hc w1 hw h.1 h.2;rw[hq]at t;exact t) own (fun x wa u e1 e2 h (hG:K5 u gr (L8 A n c d.2.1.length d.2.2)∧S9 W gt y L d.1 (R1 w gr R) x.1 u)=>⟨h.1.left K hin (Nat.le_of_eq e1) (fun b hb _=>e2 b hb) hG.1,hG.2⟩) hf hc2 (fun x=>K0.run Zk (stop:=st) 1000 _ (hk d x hq))
theorem begP_ln{k:Int}{d:TS×WS×Bool}(h:begP S k f rest=some d):d.1.ln=S.ln:=by
 unfold begP at h
 split at h
 ·obtain⟨_,_,rfl⟩:=Option.map_eq_some_iff.1 h;rfl
 ·cases h
theorem rdPart_ln{N:Nd}{k:List UInt8}{d:TS×WS×Bool}(h:Rx S N k rest=some d):d.1.ln=S.ln:=by
 unfold Rx at h
 split at h
 ·split at h
  ·obtain⟨_,_,rfl⟩:=Option.map_eq_some_iff.1 h;rfl
  ·cases h
 split at h
 ·split at h
  ·obtain⟨_,_,h⟩:=Option.bind_eq_some_iff.1 h
   obtain⟨_,_,rfl⟩:=Option.map_eq_some_iff.1 h;rfl
  ·cases h
 split at h
 ·split at h
  ·obtain⟨_,_,rfl⟩:=Option.map_eq_some_iff.1 h;rfl
  ·cases h
 split at h
 ·split at h
  ·obtain⟨_,_,h⟩:=Option.bind_eq_some_iff.1 h
   obtain⟨_,_,rfl⟩:=Option.map_eq_some_iff.1 h;rfl
  ·cases h
 ·cases h
theorem rdLn_ln{k:List UInt8}{d:TS×WS×Bool}(h:X4 S k rest=some d):d.1.ln=S.ln:=by
 unfold X4 at h
 split at h
 ·split at h
  ·obtain⟨_,_,h⟩:=Option.bind_eq_some_iff.1 h
   obtain⟨_,_,h⟩:=Option.bind_eq_some_iff.1 h
   obtain⟨_,_,rfl⟩:=Option.map_eq_some_iff.1 h;rfl
  ·cases h
 split at h
 ·exact begP_ln (f:=false) h
 split at h
 ·cases h
 ·exact rdPart_ln h
theorem part_nil{k:List UInt8}(hW:Below W.heap.size W w)(lt:W.heap.size≤gt)(ht:K5 w gt (txS S y 0)):Calls Tryz.prog 81 #[Zq gt 0,Zq gr 0,K4 k] w (PanG w (gt::gr::bl y.1) Qg (Qr gt S.ln)):=by
 refine K0.enterW Tryz.func81 rfl hW (K0.impC (Φ':=fun u=>(w.heap.size≤u.heap.size∧∀b,W.heap.size≤b→b<w.heap.size→u.heap[b]? =w.heap[b]?)∧K5 u gt (txS S y 0)) (fun u h=>⟨h,ht.stay lt h.2⟩) ?_)
 refine ZR <| ZA (Kt 24 ⟨gt,6,none⟩) (.slice y.1 0 y.2) (fun w1 hw h=>K6 Zk (by rw[h.2.cell];rfl)) <| ZI true <| K0.throw (Instr.panic Kf >>= fun v=>pure (.value v)) Kf Zk (fun w1 hw h=>by simp[Instr.panic,Kf,Go.goPanic]) Zk ?_
 exact K0.pan fun w1 hw h=>⟨rfl,⟨hw.os.trans hW.os.symm,hw.tape.trans hW.tape.symm,hw.output.trans hW.output.symm,h.1.1,fun k hk _=>by
  rcases Nat.lt_or_ge k W.heap.size with h4|h4
  ·rw[hw.block k h4,hW.block k h4]
  ·exact h.1.2 k h4 hk⟩,fun w'' k1 k2=>Xt (y:=y) (m:=0) (h.2.to (k2 gt (.inl Zs)))⟩
theorem suf_full(ws:WS):Pa ws ws.length ws:=⟨by rw[Nat.sub_self];rfl,Nat.le_refl _⟩
def tkL:List Nat:=[30,31,32,33,34,35,36,37,38,39,40,41,42,43,44,45,46,47,48,49,50,51,52,53,54,55,56,57,58,59,60,61,62,63,64,65,66,67,68]
noncomputable def noK(c:Nh):Nh:=Lw Tryz.prog 0 1000 (amIf false (Lw Tryz.prog 1000 1000 (Lg (.v Zf) c)))
noncomputable def tkEnd(c:Nh):Nh:=Lw Tryz.prog 0 1000 (Lg (.v (.tuple #[])) (Lw Tryz.prog 1000 1000 (amIf false (Lw Tryz.prog 1000 1000 (Lg (.v Zf) (noK (noK (noK c))))))))
theorem part_any{k:List UInt8}(hM:ML W)(hmm:L.length<1000000)(hE:L.map (·.1)=S.nds)(hO:K7 w W.heap.size 52 47 y.1 L.length y.2 (V5 L))(hA:∀b∈bl y.1,b≠gt∧b≠gr)(hQ:∀b,w.heap.size≤b→R b)(T:TE W w gt gr (bl y.1) A n c ws0)(hs:Pa ws0 n rest)(ht:K5 w gt (txS S y L.length))(hr:K5 w gr (L8 A n c rest.length false)):
 Calls Tryz.prog 81 #[Zq gt 0,Zq gr 0,K4 k] w
 (Uv w (gt::gr::bl y.1) Qg (Qr gt S.ln) (match S.nds.getLast? with|none=>none|some N=>Rx S N k rest) (fun _ (_:Gh YL R)=> .tuple #[]) (fun d x u=>K5 u gr (L8 A n c d.2.1.length d.2.2)∧S9 W gt y L d.1 R x.1 u)):=by
 rcases List.eq_nil_or_concat L with h|⟨L0,⟨N,q⟩,h⟩
 ·subst h
  rw[←hE]
  exact part_nil T.hW T.lt ht
 ·subst h
  rw[List.concat_eq_append]at*
  have hE2:S.nds=L0.map (·.1)++ [N]:=by rw[←hE,List.map_append];rfl
  have t:=part_t (R:=R) (k:=k) (q:=q) hM (by simp at hmm;omega) hE2 (by rw[List.length_append,ndRow_snoc]at hO;exact hO) hA hQ T hs (by rw[List.length_append]at ht;exact ht) hr
  rw[hE2,List.getLast?_concat]
  exact t
theorem take_t{l:List UInt8}(hM:ML W)(hl:l.length≤65536)(hW:Below W.heap.size W w)(lt:W.heap.size≤gt)(hm:L.length<1000000)(ht:K5 w gt (txS S y L.length))(hO:K7 w W.heap.size 52 47 y.1 L.length y.2 (V5 L))(hE:L.map (·.1)=S.nds)(hA:∀b∈bl y.1,b≠gt)(hQ:∀b,w.heap.size≤b→R b):
 Calls Tryz.prog 46 #[Zq gt 0,K4 l] w (Uv w (gt::bl y.1) Qg (Qr gt S.ln) (P1 S l) (fun _ (_:Gh YL R)=> .tuple #[]) (fun S' x u=>S9 W gt y L S' R x.1 u)):=by
 have hgt:=ht.lt
 have hny:∀b∈bl y.1,b≠gt∧b<w.heap.size:=fun b hb=>⟨hA b hb,(hO.lt b hb).2⟩
 obtain⟨o,ho⟩:∃o,o=P1 S l:=⟨_,rfl⟩
 rw[←ho]
 unfold P1 at ho
 refine K0.enterW Tryz.func46 rfl hW <| ZR ?_
 have bad:o=none→∀w1,Below W.heap.size W w1→(w.heap.size≤w1.heap.size∧∀b,W.heap.size≤b→b<w.heap.size→w1.heap[b]? =w.heap[b]?)→Uv w (gt::bl y.1) Qg (Qr gt S.ln) o (fun _ (_:Gh YL R)=> .tuple #[]) (fun S' x u=>S9 W gt y L S' R x.1 u) (.panicked Qg) w1:=fun e w1 hw h=>by rw[e];exact Tk.pan hW hw h.1 (fun b h1 h2 _ _=>h.2 b h1 h2) (Xt (ht.stay lt h.2))
 cases hB:Vp (Ld l)with
 |false=>
  rw[hB,if_neg Zd]at ho
  exact ZC (fun w1 hw h=>sf_n (hM.below hw) hB Zo) fun _=>ZI true <| K0.throw (Instr.panic Kf >>= fun v=>pure (.value v)) Kf Zk (fun w1 hw h=>by simp[Instr.panic,Kf,Go.goPanic]) Zk <| K0.pan fun w1 hw h=>bad ho w1 hw h.1
 |true=>
 rw[hB,if_pos rfl]at ho
 cases he:Lp (Ld l)with
 |nil=>
  rw[he]at ho
  exact K0.callv (val:=fun y:Option Addr×Nat=> .tuple #[.slice y.1 0 y.2,Zi 0,Zi 0]) (G:=fun y u=>L5 u y.1 0 []) (fun w1 hw h=>by have t:=sf_s (l:=l) (hM.below hw) hB Zo;rw[he]at t;exact t) Zk fun _=>ZR <| ZI true <| K0.throw (Instr.panic Kf >>= fun v=>pure (.value v)) Kf Zk (fun w1 hw h=>by simp[Instr.panic,Kf,Go.goPanic]) Zk <| K0.pan fun w1 hw h=>bad ho w1 hw h.1
 |cons k ws=>
 rw[he]at ho
 have ho:o=(X4 S k ws).bind endL:=ho
 have hwl:=words_len2 (l:=l)
 have hwm:=words_mem2 hB
 rw[he]at hwl hwm
 obtain⟨n0,hn0⟩:∃n0,n0=(k::ws).length:=⟨_,rfl⟩
 have hn1:n0=ws.length+1:=hn0
 refine K0.callv (X:=(Option Addr×Nat)×Nat) (val:=fun q=> .tuple #[.slice q.1.1 n0 q.1.2,Zi 0,Zi 0]) (G:=fun q u=>(L5 u q.1.1 n0 (k::ws)∧n0≤q.1.2)∧∀b∈bl q.1.1,w.heap.size≤b) (fun w1 hw h=>by have t:=sf_f (hM.below hw) hB hl he Zs h.1;rw[←hn0]at t;exact t) Zk (fun q=> ?_)
 obtain⟨⟨A,cap⟩,jj⟩:=q
 refine ZR <| K0.condr (((n0:Int)==0)) false Zk Zp <| ZS 2 <| K0.make (boxS 118 (.agg #[.slice A n0 cap,.bool false])) (X5) (fun g u=>K5 u g [.slice A n0 cap,.bool false]∧w.heap.size≤g∧g<u.heap.size) Zk (fun w1 hw h=>make_box (v:= .agg #[.slice A n0 cap,.bool false]) h.1.1) fun gr=>ZS 2 <| K0.pure_ (p:=w.heap.size≤gr∧n0≤cap∧∀b∈bl A,w.heap.size≤b∧b≠gr) (fun u hu h=>⟨h.2.2.1,h.1.2.1.2,fun b hb=>⟨h.1.2.2 b hb,strAt_ne h.2.1 rbx2_ns h.1.2.1.1 Zs b hb⟩⟩) Zk (fun hp=> ?_)
 obtain⟨hgr,hcap,hAb⟩:=hp
 have K:KE W w gt gr y A n0 cap (k::ws):=⟨hW,lt,hgt,hgr,fun b hb=>⟨by have:=(hAb b hb).1;omega,(hAb b hb).2,fun hy=>by have:=(hny b hy).2;have:=(hAb b hb).1;omega⟩,hny,hcap,by omega,fun z hz=>Nat.le_trans (hwm z hz) hl⟩
 have hs:Pa (k::ws) n0 (k::ws):=by rw[hn0];exact suf_full _
 have hyr:∀b∈bl y.1,b≠gt∧b≠gr:=fun b hb=>⟨(hny b hb).1,by have:=(hny b hb).2;omega⟩
 obtain⟨x0,hx0⟩:∃x0:Gh YL (R1 w gr R),x0=⟨((y,L),fun _=>False),fun b hb=>hb.elim⟩:=⟨_,rfl⟩
 refine K0.impM (Φ':=fun u=>Tk W w gt gr y A n0 (k::ws) (L8 A n0 cap (k::ws).length false) u∧S9 W gt y L S (R1 w gr R) x0.1 u) (fun u h=>⟨⟨h.1.1.1,fun b h1 h2 _ _=>h.1.1.2 b h1 h2,by rw[←hn0,rbx_full];exact h.2.1,h.1.2.1.1⟩,by rw[hx0];exact⟨ht.stay lt h.1.1.2,hO.same fun b hb=>h.1.1.2 b (hO.lt b hb).1 (hO.lt b hb).2,hE,Lm.triv fun v h=>h,fun b hb=> .inl hb,fun b hb=>hb.elim⟩⟩) Zk <| ZR <| rdK_ 0 (q:=some (k,ws)) (rest:=k::ws) (vq:=fun d=>K4 d.1) (rs:=fun d=>d.2) (fl:=fun _=>false) K (fun w1 k1 k2=>next_t k1 hs k2) (fun wa u e1 e2 h=>lnq_gr K e1 e2 h) (fun u h=>Xt h.bt) (fun e=>by cases e) (fun d e=> ?_)
 obtain rfl:d=(k,ws):=by injection e with e;exact e.symm
 have hs1:=hs.tail
 have hx1:x0.1.1=(y,L):=by rw[hx0]
 have own:∀{rc:List Value} {S':TS},Xq W [gt] (fun u=>Tk W w gt gr y A n0 (k::ws) rc u∧S9 W gt y L S' (R1 w gr R) x0.1 u):=fun u h b hb=>by
  obtain rfl:b=gt:=by simpa using hb
  exact⟨lt,h.2.bt.own⟩
 have hkt:∀{rc:List Value} (wa u:World),wa.heap.size=u.heap.size→(∀b,b∉[gt]→wa.heap[b]? =u.heap[b]?)→Tk W w gt gr y A n0 (k::ws) rc wa→Tk W w gt gr y A n0 (k::ws) rc u:=fun wa u e1 e2 h=>h.left K (fun b hb=> .inl (by simpa using hb)) (Nat.le_of_eq e1) (fun b hb _=>e2 b hb) (h.br.to (e2 gr Zp).symm)
 have hbt:∀{S':TS} {u:World},S9 W gt y L S' (R1 w gr R) x0.1 u→K5 u gt (txS S' y L.length):=fun h=>by have:=h.bt;rw[hx1]at this;exact this
 refine K0.run Zk (stop:=1000) 1 _ <| ZS 0 <| K0.meet3 (ι:=(Nat→AV)×{p:(TS×WS×Bool)×Gh YL (R1 w gr R) // X4 S k ws=some p.1}) (fun i c=>Q5 tkL i.1 (tkEnd c)) (fun i u=>Tk W w gt gr y A n0 (k::ws) (L8 A n0 cap i.2.1.1.2.1.length i.2.1.1.2.2) u∧S9 W gt y L i.2.1.1.1 (R1 w gr R) i.2.1.2.1 u) (fun kk=> ?_) (fun i=> ?_)
 ·by_cases c1:k=Sk
  ·subst c1
   have hr:X4 S Sk ws=if S.ln=0 then(Xy false ws).bind fun w=>(Xy w.2.2 w.2.1).bind fun h=>(rdC h.2.2 h.2.1).map fun c=>({S with w:=w.1,h:=h.1,bg:=c.1,wh:=0},c.2.1,c.2.2)else none:=by unfold X4;rw[if_pos rfl]
   rw[hr]at ho
   refine ZR <| ZI true <| K0.ask (Kt 3 ⟨gt,8,none⟩) (Zi S.ln) Zk (fun w1 hw h=>K6 Zk (by rw[(hbt h.2).cell];rfl)) <| ZS 6 ?_
   by_cases h0:S.ln=0
   rotate_left
   ·rw[if_neg h0]at ho
    exact K0.slot 41 (.bool ((S.ln:Int)==0)) Zf Zk (by rw[beq_eq_false_iff_ne.2 Zo]) <| K0.mutx (L:=[]) (Φ':=Kp W w gt y S.ln) (fun w1 hw h=>Z4 (gt:=gt) (z:=0) hw) (fun u h b hb=>by cases hb) (fun wa u e1 e2 h _=>⟨by rw[←e1];exact h.1.sz,fun b k1 k2 k3 k4=>(e2 b Zs).symm.trans (h.1.fr b k1 k2 k3 k4),Xt ((hbt h.2).to (e2 gt Zs).symm)⟩) Zk Zk <| K0.pan fun w1 hw h=>by rw[ho];exact Tk.pan hW hw h.sz h.fr h.ln
   rw[if_pos h0]at ho hr
   refine K0.slot 41 (.bool ((S.ln:Int)==0)) Zt Zk (by rw[beq_iff_eq.2 Zo]) <| K0.mut (L:=[gt]) (Φ':=fun(_:Unit) u=>Tk W w gt gr y A n0 (Sk::ws) (L8 A n0 cap ws.length false) u∧S9 W gt y L {S with wh:=0} (R1 w gr R) x0.1 u) (fun w1 hw h=>step_y (z:=0) hw lt (hbt h.2) (by show 7<10;decide)) own (fun _ wa u e1 e2 h hG=>⟨hkt wa u e1 e2 h.1,lnq_set (S2:={S with wh:=0}) K (by rfl) e1 e2 h.2 (by rw[hx1];exact hG)⟩) Zk Zk fun _=>ZR <| rdK_ 1000 K (fun w1 k1 k2=>Mc k1 hs1 k2) (fun wa u e1 e2 h=>lnq_gr K e1 e2 h) (fun u h=>by have t:=Xt (hbt h);exact t) (fun e=>by rw[ho,e];rfl) (fun d e1=> ?_)
   rw[e1,Option.bind_some]at ho hr
   obtain⟨x1,r1,f1⟩:=d
   have hs2:=M6 hs1 e1
   refine K0.mutSt (L:=[gt]) (G:=fun u=>K5 u gt (txS {S with w:=x1,wh:=0} y L.length)) (Φ':=fun u=>Tk W w gt gr y A n0 (Sk::ws) (L8 A n0 cap r1.length f1) u∧S9 W gt y L {S with w:=x1,wh:=0} (R1 w gr R) x0.1 u) (Om 3 ⟨gt,0,none⟩ (Zi x1)) (fun w1 hw h=>(hbt h.2).store1 (j:=0) Zk rfl (by show 0<10;decide) rfl) own (fun wa u e1 e2 h hG=>⟨hkt wa u e1 e2 h.1,lnq_set (S2:={S with w:=x1,wh:=0}) K (by rfl) e1 e2 h.2 (by rw[hx1];exact hG)⟩) Zk Zk <| ZR <| rdK_ 1000 K (fun w1 k1 k2=>Mc k1 hs2 k2) (fun wa u e1 e2 h=>lnq_gr K e1 e2 h) (fun u h=>by have t:=Xt (hbt h);exact t) (fun e=>by rw[ho];simp only;rw[e];rfl) (fun d e2=> ?_)
   simp only at ho hr
   rw[e2,Option.bind_some]at ho hr
   obtain⟨x2,r2,f2⟩:=d
   have hs3:=M6 hs2 e2
   refine K0.mutSt (L:=[gt]) (G:=fun u=>K5 u gt (txS {S with w:=x1,h:=x2,wh:=0} y L.length)) (Φ':=fun u=>Tk W w gt gr y A n0 (Sk::ws) (L8 A n0 cap r2.length f2) u∧S9 W gt y L {S with w:=x1,h:=x2,wh:=0} (R1 w gr R) x0.1 u) (Om 3 ⟨gt,1,none⟩ (Zi x2)) (fun w1 hw h=>(hbt h.2).store1 (j:=1) Zk rfl (by show 1<10;decide) rfl) own (fun wa u e1 e2 h hG=>⟨hkt wa u e1 e2 h.1,lnq_set (S2:={S with w:=x1,h:=x2,wh:=0}) K (by rfl) e1 e2 h.2 (by rw[hx1];exact hG)⟩) Zk Zk <| ZR <| rdK_ 1000 K (fun w1 k1 k2=>Xg k1 hs3 k2) (fun wa u e1 e2 h=>lnq_gr K e1 e2 h) (fun u h=>by have t:=Xt (hbt h);exact t) (fun e=>by rw[ho];simp only;rw[e];rfl) (fun d e3=> ?_)
   simp only at ho hr
   rw[e3,Option.map_some]at hr
   obtain⟨x3,r3,f3⟩:=d
   exact K0.mutSt (L:=[gt]) (G:=fun u=>K5 u gt (txS {S with w:=x1,h:=x2,bg:=x3,wh:=0} y L.length)) (Φ':=fun u=>Tk W w gt gr y A n0 (Sk::ws) (L8 A n0 cap r3.length f3) u∧S9 W gt y L {S with w:=x1,h:=x2,bg:=x3,wh:=0} (R1 w gr R) x0.1 u) (Om 23 ⟨gt,2,none⟩ (Te x3)) (fun w1 hw h=>(hbt h.2).storeN (j:=2) Zk (by show 2+4≤10;decide) (List.all_eq_true.1 (show((Te x3).cells.toList.all fun u=>u.oneCell')=true from by kernel_rfl))) own (fun wa u e1 e2 h hG=>⟨hkt wa u e1 e2 h.1,lnq_set (S2:={S with w:=x1,h:=x2,bg:=x3,wh:=0}) K (by rfl) e1 e2 h.2 (by rw[hx1];exact hG)⟩) Zk Zk <| ZS 0 <| K0.blur tkL fun z=>K0.eq (kk (z,⟨(({S with w:=x1,h:=x2,bg:=x3,wh:=0},r3,f3),x0),hr⟩)) Zk
  refine ZA (Pw .eql 9 (.tmp 29) (.const (.string ⟨#[115,99,101,110,101]⟩)) (K4 k) (K4 Sk)) Zf (fun w1 hw h=>Kv (by simpa using c1)) <| K0.cond false Zk <| ZS 0 ?_
  by_cases c2:Tr k=0
  ·have c3:k≠Y6∧k≠Xu∧k≠Zz:=by
    unfold Tr at c2
    refine⟨fun e=> ?_,fun e=> ?_,fun e=> ?_⟩<;>subst e<;>exact absurd c2 Zd
   have hr:X4 S k ws=match S.nds.getLast? with|none=>none|some N=>Rx S N k ws:=by unfold X4;rw[if_neg c1,if_neg (fun h=>h c2)];rfl
   exact ZA (Pw .eql 9 (.tmp 29) (.const (.string ⟨#[103,114,111,117,112]⟩)) (K4 k) (K4 Y6)) Zf (fun w1 hw h=>Kv (by simpa using c3.1)) <| K0.cond false Zk <| ZS 0 <| ZA (Pw .eql 9 (.tmp 29) (.const (.string ⟨#[115,104,97,112,101]⟩)) (K4 k) (K4 Xu)) Zf (fun w1 hw h=>Kv (by simpa using c3.2.1)) <| K0.cond false Zk <| ZS 0 <| ZA (Pw .eql 9 (.tmp 29) (.const (.string ⟨#[105,109,97,103,101]⟩)) (K4 k) (K4 Zz)) Zf (fun w1 hw h=>Kv (by simpa using c3.2.2)) <| ZI false <| rdX_ 0 K (by rw[hx1]) (fun w1 hw h1 h2=>part_any hM hm hE (by have:=h2.row;rw[hx1]at this;exact this) hyr (fun b hb=>⟨⟨Nat.le_trans h1.sz hb,hQ b (Nat.le_trans h1.sz hb)⟩,by have:=h1.br.lt;omega⟩) (K.te hw h1.s) hs1 (hbt h2) h1.br) (fun e=>by rw[ho,hr,e];rfl) fun d x e=>K0.blur tkL fun z=>K0.eq (kk (z,⟨(d,x),hr.trans e⟩)) Zk
  ·have hr:X4 S k ws=begP S (Tr k) false ws:=by unfold X4;rw[if_neg c1,if_pos c2];rfl
   refine K0.meet (fun(x:Nat→AV) c=>Q5 [61,62,63,64] x (Lw Tryz.prog 0 1000 (amIf true (Lw Tryz.prog 1000 1000 (amIf true (Lw Tryz.prog 1000 1000 (Lg (.v Zt) c))))))) (fun k2=> ?_) (fun xj=> ?_)
   ·by_cases d1:k=Y6
    ·exact ZA (Pw .eql 9 (.tmp 29) (.const (.string ⟨#[103,114,111,117,112]⟩)) (K4 k) (K4 Y6)) Zt (fun w1 hw h=>Kv (by simpa using d1)) <| ZI true <| K0.cond true Zk <| ZS 0 <| K0.blur [61,62,63,64] fun z=>K0.eq (k2 z) Zk
    refine ZA (Pw .eql 9 (.tmp 29) (.const (.string ⟨#[103,114,111,117,112]⟩)) (K4 k) (K4 Y6)) Zf (fun w1 hw h=>Kv (by simpa using d1)) <| K0.cond false Zk <| ZS 0 ?_
    by_cases d2:k=Xu
    ·exact ZA (Pw .eql 9 (.tmp 29) (.const (.string ⟨#[115,104,97,112,101]⟩)) (K4 k) (K4 Xu)) Zt (fun w1 hw h=>Kv (by simpa using d2)) <| ZI true <| K0.cond true Zk <| ZS 0 <| K0.blur [61,62,63,64] fun z=>K0.eq (k2 z) Zk
    refine ZA (Pw .eql 9 (.tmp 29) (.const (.string ⟨#[115,104,97,112,101]⟩)) (K4 k) (K4 Xu)) Zf (fun w1 hw h=>Kv (by simpa using d2)) <| K0.cond false Zk <| ZS 0 ?_
    have d3:k=Zz:=by
     unfold Tr at c2
     rw[if_neg d1,if_neg d2]at c2
     exact Classical.byContradiction fun h=>c2 (if_neg h)
    exact ZA (Pw .eql 9 (.tmp 29) (.const (.string ⟨#[105,109,97,103,101]⟩)) (K4 k) (K4 Zz)) Zt (fun w1 hw h=>Kv (by simpa using d3)) <| K0.cond true Zk <| ZS 0 <| K0.blur [61,62,63,64] fun z=>K0.eq (k2 z) Zk
   exact ZR <| rdX_ 0 K (by rw[hx1]) (fun w1 hw h1 h2=>begin_t c2 hM hm hE (by have:=h2.row;rw[hx1]at this;exact this) hyr (fun b hb=>⟨⟨Nat.le_trans h1.sz hb,hQ b (Nat.le_trans h1.sz hb)⟩,by have:=h1.br.lt;omega⟩) (K.te hw h1.s) hs1 (hbt h2) h1.br) (fun e=>by rw[ho,hr,e];rfl) fun d x e=>K0.blur tkL fun z=>K0.eq (kk (z,⟨(d,x),hr.trans e⟩)) Zk
 obtain⟨xv,⟨⟨⟨S',r',f'⟩,x⟩,hd⟩⟩:=i
 have hln:=rdLn_ln hd
 rw[hd,Option.bind_some]at ho
 refine ZR ?_
 cases r' with
 | cons s r=>
  have hN:o=none:=by rw[ho];rfl
  refine K0.mutx (L:=[gr]) (Φ':=Kp W w gt y S.ln) (fun w1 hw h=>end_p (m:=r.length) hw (Nat.le_trans hW.size hgr) h.1.br) (fun u h b hb=> ?_) (fun wa u e1 e2 h _=> ?_) Zk Zk ?_
  ·obtain rfl:b=gr:=by simpa using hb
   exact⟨Nat.le_trans hW.size hgr,h.1.br.own⟩
  ·exact⟨by rw[←e1];exact h.1.sz,fun b k1 k2 k3 k4=>(e2 b Zp).symm.trans (h.1.fr b k1 k2 k3 k4),by rw[←hln];exact Xt (lnq_gr K e1 e2 h.2).bt⟩
  exact K0.pan fun w1 hw h=>by rw[hN];exact Tk.pan hW hw h.sz h.fr h.ln
 | nil=>
  have ho:o=some (if f'=true∧S'.far<0 then{S' with far:=S'.ln}else S'):=by rw[ho];rfl
  refine K0.mut (L:=[gr]) (Φ':=fun(_:Unit) u=>Tk W w gt gr y A n0 (k::ws) (L8 A n0 cap 0 f') u∧S9 W gt y L S' (R1 w gr R) x.1 u) (fun w1 hw h=>end_s hw (Nat.le_trans hW.size hgr) h.1.br) (fun u h b hb=> ?_) (fun _ wa u e1 e2 h hG=>⟨h.1.left K (fun b hb=> .inr (.inl (by simpa using hb))) (Nat.le_of_eq e1) (fun b hb _=>e2 b hb) hG,lnq_gr K e1 e2 h.2⟩) Zk Zk (fun _=> ?_)
  ·obtain rfl:b=gr:=by simpa using hb
   exact⟨Nat.le_trans hW.size hgr,h.1.br.own⟩
  refine ZR <| K0.ask (Kt 4 ⟨gr,1,none⟩) (.bool f') Zk (fun w1 hw h=>K6 Zk (by rw[h.1.br.cell];rfl)) <| ZS 5 ?_
  cases f' with
  |false=>
   rw[if_neg (fun h=>by cases h.1)]at ho
   refine ZR <| ZI false <| ZV (.tuple #[]) (fun w1 hw h=>by have k:=h w1 (Nat.le_refl _) fun _ _ _=>rfl;rw[ho];exact lnq_post K hw k.1 k.2)
  | true=>
   refine ZR <| ZA (Kt 3 ⟨gt,9,none⟩) (Zi S'.far) (fun w1 hw h=>K6 Zk (by rw[h.2.bt.cell];rfl)) ?_
   by_cases h9:S'.far<0
   ·rw[if_pos ⟨rfl,h9⟩]at ho
    refine ZJ (decide (S'.far<0)) true (decide_eq_true h9) <| ZA (Kt 3 ⟨gt,8,none⟩) (Zi S'.ln) (fun w1 hw h=>K6 Zk (by rw[h.2.bt.cell];rfl)) ?_
    refine K0.mutSt (L:=[gt]) (G:=fun u=>K5 u gt (txS {S' with far:=S'.ln} x.1.1.1 x.1.1.2.length)) (Φ':=fun u=>Tk W w gt gr y A n0 (k::ws) (L8 A n0 cap 0 true) u∧S9 W gt y L {S' with far:=S'.ln} (R1 w gr R) x.1 u) (Om 3 ⟨gt,9,none⟩ (Zi S'.ln)) (fun w1 hw h=>h.2.bt.store1 (j:=9) Zk rfl (by show 9<10;decide) rfl) (fun u h b hb=>by
     obtain rfl:b=gt:=by simpa using hb
     exact⟨lt,h.2.bt.own⟩) (fun wa u e1 e2 h hG=>⟨hkt wa u e1 e2 h.1,lnq_set (S2:={S' with far:=S'.ln}) K (by rfl) e1 e2 h.2 hG⟩) Zk Zk ?_
    refine ZR <| ZV (.tuple #[]) (fun w1 hw h=>by have k:=h w1 (Nat.le_refl _) fun _ _ _=>rfl;rw[ho];exact lnq_post K hw k.1 k.2)
   ·rw[if_neg (fun h=>h9 h.2)]at ho
    refine ZJ (decide (S'.far<0)) false (decide_eq_false h9) <| ZV (.tuple #[]) (fun w1 hw h=>by have k:=h w1 (Nat.le_refl _) fun _ _ _=>rfl;rw[ho];exact lnq_post K hw k.1 k.2)
end
theorem split_app{c:UInt8}:∀(x l:List UInt8),Km c (x++c::l)=Km c x++Km c l
 | [],l=>splitBy_eq
 | b::x,l=>by
  have ih:=split_app (c:=c) x l
  show Km c (b::(x++c::l))=_
  rw[Km,Km,ih]
  by_cases hb:b=c
  ·rw[if_pos hb,if_pos hb];rfl
  ·rw[if_neg hb,if_neg hb]
   cases hs:Km c x with
   |nil=>exact absurd hs (R7 c x)
   |cons h t=>rfl
theorem ends10{a:List UInt8}(ha:a.getLast? =some 10):∃x,a=x++ [10]:=by
 obtain⟨_,e⟩:=List.getLast?_eq_some_iff.1 ha
 exact⟨_,e⟩
theorem U3(x:List UInt8):Mm (x++ [10])=Km 10 x:=by
 unfold Mm
 rw[if_neg Zs,List.dropLast_concat]
theorem lines_app{a b:List UInt8}(ha:a.getLast? =some 10)(hb:b.getLast? =some 10):Mm (a++b)=Mm a++Mm b:=by
 obtain⟨x,rfl⟩:=ends10 ha
 obtain⟨y,rfl⟩:=ends10 hb
 rw[show(x++ [10])++(y++ [10])=(x++10::y)++ [10] by simp,U3,U3,U3,split_app]
theorem lines_cnt{a:List UInt8}(ha:a.getLast? =some 10):(Mm a).length=a.count 10:=by
 obtain⟨x,rfl⟩:=ends10 ha
 rw[U3,T6,List.count_append]
 rfl
section
variable{S S1:TS}{i:Nat}{l:List UInt8}{r l1 l2:List (List UInt8)}
theorem Uc:Pq S i (l::r)=match P1 {S with ln:=i} l with
 |none=> .inl i
 |some S'=>Pq S' (i+1) r:=rfl
theorem rdAll_app:∀{l1:List (List UInt8)} {S:TS} {i:Nat},Pq S i l1= .inr S1→∃S2,Pq S i (l1++l2)=Pq S2 (i+l1.length) l2
 | [],S,i,_=>⟨S,rfl⟩
 | l::r,S,i,h=>by
  rw[Uc]at h
  show∃S2,Pq S i (l::(r++l2))=_
  rw[Uc]
  cases e:P1 {S with ln:=i} l with
  |none=>rw[e]at h;cases h
  |some S'=>
   rw[e]at h
   obtain⟨S2,h2⟩:=rdAll_app h
   exact⟨S2,by show Pq S' (i+1) (r++l2)=_;rw[h2,List.length_cons,Nat.add_right_comm,Nat.add_assoc]⟩
theorem rdAll_bad(h:∀S:TS,P1 {S with ln:=i} l=none):Pq S i (l::r)= .inl i:=by rw[Uc,h S]
theorem rdTake_un:P1 S l=if Vp (Ld l)=true then(match Lp (Ld l)with
 | []=>none
 |k::ws=>(X4 S k ws).bind endL)else none:=rfl
theorem first_scene{T:TS}(hw:S.ln=0)(hn:S.nds=[])(h:P1 S l=some T):∃ws,Lp (Ld l)=Sk::ws:=by
 rw[rdTake_un]at h
 split at h
 ·split at h
  ·cases h
  ·rename_i k ws e
   unfold X4 at h
   by_cases hk:k=Sk
   ·exact⟨ws,by rw[e,hk]⟩
   ·rw[if_neg hk,hn]at h
    split at h
    ·rw[if_neg Zo]at h;cases h
    ·cases h
 ·cases h
theorem again_bad{ws:WS}(h:Lp (Ld l)=Sk::ws)(hl:S.ln≠0):P1 S l=none:=by
 rw[rdTake_un,h]
 split
 ·show(X4 S Sk ws).bind endL=none
  unfold X4
  rw[if_pos rfl,if_neg hl];rfl
 ·rfl
theorem unqL_x{h:List UInt8}:Vt (120::h)=none∨∃b,Vt (120::h)=some (120::b):=by
 unfold Vt
 rw[if_neg (by intro e;injection e with e _;exact absurd e Zd),Xs (by decide+kernel)]
 cases unqS h with
 |none=>exact .inl rfl
 |some b=>exact .inr ⟨b,rfl⟩
theorem x_bad{x:List UInt8}:P1 S (120::x)=none:=by
 rw[rdTake_un]
 obtain⟨h,t,e⟩:∃h t,Ld (120::x)=(120::h)::t:=by
  unfold Ld
  rw[if_neg Zs,Km,if_neg Zd]
  cases hs:Km 32 x with
  |nil=>exact absurd hs (R7 32 x)
  |cons h t=>exact⟨h,t,rfl⟩
 rw[e]
 split
 ·rcases unqL_x (h:=h)with k|⟨b,k⟩
  ·rw[show Lp ((120::h)::t)=[] by unfold Lp;rw[k]]
  ·rw[show Lp ((120::h)::t)=(120::b)::Lp t by rw[Lp,k]]
   have ne:∀{c:UInt8} {m:List UInt8},c≠120→(120:UInt8)::b≠c::m:=fun hc e=>by injection e with e _;exact hc e.symm
   have n1:(120:UInt8)::b≠Sk:=ne (c:=115) Zd
   have n2:(120:UInt8)::b≠Y6:=ne (c:=103) Zd
   have n3:(120:UInt8)::b≠Xu:=ne (c:=115) Zd
   have n4:(120:UInt8)::b≠Zz:=ne (c:=105) Zd
   have n5:(120:UInt8)::b≠transN:=ne (c:=116) Zd
   have n6:(120:UInt8)::b≠clipN:=ne (c:=99) Zd
   have n7:(120:UInt8)::b≠fillN:=ne (c:=102) Zd
   have n8:(120:UInt8)::b≠strokeN:=ne (c:=115) Zd
   have hk:Tr (120::b)=0:=by unfold Tr;rw[if_neg n2,if_neg n3,if_neg n4]
   show(X4 S (120::b) (Lp t)).bind endL=none
   unfold X4
   rw[if_neg n1,hk,if_neg (fun h=>h rfl)]
   cases S.nds.getLast? with
   |none=>rfl
   |some N=>
    show(Rx S N (120::b) (Lp t)).bind endL=none
    unfold Rx
    rw[if_neg n5,if_neg n6,if_neg n7,if_neg n8]
    rfl
 ·rfl
end
section
variable{s m:List UInt8}
structure Canon(s:List UInt8):Prop where
 at_:(M3 s).2.1=0
 ok:Zb (M3 s).1=true
 eq:scT (M3 s).1=s
 len:s.length≤65536
 last:s.getLast? =some 10
 rd:∃S,Pq ts0 0 (Mm s)= .inr S∧(M3 s).1=S.sc
theorem parse_ok(h:(M3 s).2.2=0):Canon s:=by
 unfold M3 at h
 split at h
 ·cases h
 rename_i h1
 split at h
 ·cases h
 rename_i h2
 split at h
 ·cases h
 rename_i S e
 split at h
 ·cases h
 rename_i h3
 split at h
 case isFalse=>cases h
 rename_i h4
 have hp:M3 s=(S.sc,0,0):=by unfold M3;rw[if_neg h1,if_neg h2,e];show(if 0≤S.far then _ else _)=_;rw[if_neg h3,if_pos h4]
 exact⟨by rw[hp],by rw[hp];exact h4.1,by rw[hp];exact h4.2,by omega,Classical.not_not.1 h2,S,e,by rw[hp]⟩
theorem parse_no(h:(M3 s).2.2≠0):(M3 s).1=sc0:=by
 unfold M3 at h ⊢
 split
 ·rfl
 rename_i h1
 rw[if_neg h1]at h
 split
 ·rfl
 rename_i h2
 rw[if_neg h2]at h
 split
 ·rfl
 rename_i S e
 rw[e]at h
 split
 ·rfl
 rename_i h3
 split
 ·rename_i h4
  exfalso
  apply h
  show(if 0≤S.far then _ else _:Sc×Nat×Int).2.2=0
  rw[if_neg h3,if_pos h4]
 ·rfl
theorem parse_in{i:Nat}(h1:s.length≤65536)(h2:s.getLast? =some 10)(h3:Pq ts0 0 (Mm s)= .inl i):M3 s=(sc0,i,3):=by
 unfold M3
 rw[if_neg Zo,if_neg (fun h=>h h2),h3]
theorem canon_more{b x:List UInt8}{y:List (List UInt8)}(C:Canon s)(hb:b.getLast? =some 10)(hl:(s++b).length≤65536)(hx:Mm b=x::y)(h:∀S:TS,S.ln=s.count 10→P1 S x=none):M3 (s++b)=(sc0,s.count 10,3):=by
 obtain⟨S,e,_⟩:=C.rd
 obtain⟨S2,e2⟩:=rdAll_app (l2:=Mm b) e
 refine parse_in hl (by rw[List.getLast?_append,hb];rfl) ?_
 rw[lines_app C.last hb,e2,hx,rdAll_bad fun S=>h _ (by show 0+_=_;rw[Nat.zero_add,lines_cnt C.last]),Nat.zero_add,lines_cnt C.last]
theorem lines_ne{b:List UInt8}(hb:b.getLast? =some 10):∃x y,Mm b=x::y:=by
 obtain⟨x,rfl⟩:=ends10 hb
 rw[U3]
 cases hs:Km 10 x with
 |nil=>exact absurd hs (R7 10 x)
 |cons h t=>exact⟨h,t,rfl⟩
theorem canon_self(C:Canon s)(hl:(s++s).length≤65536):M3 (s++s)=(sc0,s.count 10,3):=by
 obtain⟨x,y,hx⟩:=lines_ne C.last
 obtain⟨S,e,_⟩:=C.rd
 have h0:s.count 10≠0:=by rw[←lines_cnt C.last,hx];simp
 rw[hx,Uc]at e
 cases e1:P1 {ts0 with ln:=0} x with
 |none=>rw[show P1 {ts0 with ln:=((0:Nat):Nat)} x=none from e1]at e;cases e
 |some T=>
  obtain⟨ws,hw⟩:=first_scene (S:={ts0 with ln:=0}) rfl rfl e1
  exact canon_more C C.last hl hx fun S hS=>again_bad hw Zo
theorem canon_x(C:Canon s)(hl:(s++120::m).length≤65536):M3 (s++120::m)=(sc0,if m.getLast? =some 10 then s.count 10 else 0,3):=by
 by_cases hm:m.getLast? =some 10
 ·rw[if_pos hm]
  have hb:(120::m).getLast? =some 10:=by
   obtain⟨x,rfl⟩:=ends10 hm
   rw[←List.cons_append,List.getLast?_concat]
  obtain⟨z,rfl⟩:=ends10 hm
  have e:∃h t,Mm (120::(z++ [10]))=(120::h)::t:=by
   rw[←List.cons_append,U3,Km,if_neg Zd]
   cases hs:Km 10 z with
   |nil=>exact absurd hs (R7 10 z)
   |cons h t=>exact⟨h,t,rfl⟩
  obtain⟨h,t,e⟩:=e
  exact canon_more C hb hl e fun S _=>x_bad
 ·rw[if_neg hm]
  unfold M3
  rw[if_neg Zo,if_pos]
  intro h
  rw[List.getLast?_append]at h
  cases m with
  |nil=>simp at h
  |cons c r=>rw[List.getLast?_cons_cons]at h;exact hm (by simpa using h)
end
def okA:Nat ⊕ TS→Bool
 | .inl _=>false
 | .inr _=>true
def AllG(W:World)(gt:Nat)(o:Nat ⊕ TS)(R:Nat→Prop)(x:YL×(Nat→Prop))(u:World):Prop:=match o with
 | .inl i=>Qr gt i u
 | .inr S=>S9 W gt (none,0) [] S R x u
structure Ta(W w:World)(gt go:Nat)(A:Option Addr)(n:Nat)(ls:WS)(b:Bool)(u:World):Prop where
 sz:w.heap.size≤u.heap.size
 fr:∀k,W.heap.size≤k→k<w.heap.size→k≠gt→u.heap[k]? =w.heap[k]?
 bo:K5 u go [.bool b]
 s:L5 u A n ls
structure Ka(W w:World)(gt go:Nat)(A:Option Addr):Prop where
 hW:Below W.heap.size W w
 lt:W.heap.size≤gt
 gl:gt<w.heap.size
 lo:w.heap.size≤go
 nA:∀b∈bl A,b<w.heap.size∧b≠gt
section
variable{W w wa u:World}{gt go n c:Nat}{A:Option Addr}{y:Option Addr×Nat}{ls:WS}{L:List (Nd×ND)}{S S2:TS}{R R2:Nat→Prop}{x x2:YL×(Nat→Prop)}{b b2:Bool}
theorem Ta.left{LL:List Nat}(K:Ka W w gt go A)(hL:∀k∈LL,k=gt∨w.heap.size≤k)(e1:wa.heap.size=u.heap.size)(e2:∀k,k∉LL→wa.heap[k]? =u.heap[k]?)(h:Ta W w gt go A n ls b wa)(hb:K5 u go [.bool b2]):Ta W w gt go A n ls b2 u:=
 ⟨by rw[←e1];exact h.sz,fun k h1 h2 h3=>(e2 k fun hm=>(hL k hm).elim h3 fun h=>by omega).symm.trans (h.fr k h1 h2 h3),hb,h.s.left2 e2 fun k hk hm=>by
  have:=K.nA k hk
  exact(hL k hm).elim this.2 fun h=>by omega⟩
theorem lnq_box(hy:gt∉bl x.1.1.1)(hx:¬x.2 gt)(hn:S2.nds=S.nds)(e1:wa.heap.size=u.heap.size)(e2:∀k,k∉[gt]→wa.heap[k]? =u.heap[k]?)(h:S9 W gt y L S R x wa)(hb:K5 u gt (txS S2 x.1.1 x.1.2.length)):S9 W gt y L S2 R x u:=
 ⟨hb,h.row.left e2 fun k hk hm=>by
  obtain rfl:k=gt:=by simpa using hm
  exact hy hk,by rw[hn];exact h.eq,h.hd.left e1 e2 fun k hk hm=>by
  obtain rfl:k=gt:=by simpa using hm
  exact hx hk,h.bl,h.ap⟩
theorem lnq_seq(e1:wa.heap.size=u.heap.size)(e2:∀k,k∉gt::bl x.1.1.1→wa.heap[k]? =u.heap[k]?)(h:S9 W gt y L S R x wa)(hG:S9 W gt x.1.1 x.1.2 S2 R2 x2 u)(hR:∀k,R2 k→R k∧¬x.2 k)(hx:¬x.2 gt):S9 W gt y L S2 R (x2.1,fun k=>x.2 k∨x2.2 k) u:=
 ⟨hG.bt,hG.row,hG.eq,((h.hd.left e1 e2 fun k hk hm=>by
  rcases List.mem_cons.1 hm with rfl|hm
  ·exact hx hk
  ·exact h.ap k hk hm).and hG.hd).imp fun v hv hL=>hv.2 (hv.1 hL),fun k hk=>(hG.bl k hk).elim (h.bl k) fun q=> .inr (hR k q).1,fun k hk hm=>hk.elim (fun q=>(hG.bl k hm).elim (h.ap k q) fun r=>(hR k r).2 q) fun q=>hG.ap k q hm⟩
theorem drop_cons{l:List UInt8}{i:Nat}(h:ls[i]? =some l):ls.drop i=l::ls.drop (i+1):=by
 obtain⟨h1,h2⟩:=List.getElem?_eq_some_iff.1 h
 rw[List.drop_eq_getElem_cons h1,h2]
theorem Ka.pan{i:Int}(K:Ka W w gt go A){w1 w':World}(hw:Below W.heap.size W w1)(h1:w.heap.size≤w1.heap.size∧∀k,W.heap.size≤k→k<w.heap.size→k≠gt→w1.heap[k]? =w.heap[k]?)(hl:Qr gt i w1)(hb:Below W.heap.size W w')(hst:Oh W w1 go [.bool false] w'){X:Type}(x:X){G:X→World→Prop}(hG:∀u,Qr gt i u→G x u):Ng w [gt] (fun _:X=> .bool false) G (.returned Zf) w':=by
 have h2:=hst.2.1
 refine⟨x,rfl,⟨hb.os.trans K.hW.os.symm,hb.tape.trans K.hW.tape.symm,hb.output.trans K.hW.output.symm,Nat.le_trans h1.1 hst.1,fun k hk hkl=> ?_⟩,fun w'' k1 k2=>hG w'' ?_⟩
 ·rcases Nat.lt_or_ge k W.heap.size with h4|h4
  ·rw[hb.block k h4,K.hW.block k h4]
  ·rw[h2 k h4 (Nat.lt_of_lt_of_le hk h1.1) (by have:=K.lo;omega)]
   exact h1.2 k h4 hk (by simpa using hkl)
 ·obtain⟨cs,q1,q2,q3⟩:=hl
  refine⟨cs,(q1.to (h2 gt K.lt q1.lt (by have:=K.gl;have:=K.lo;omega))).to (k2 gt (.inl Zs)),q2,q3⟩
theorem setL_len{l:List Nd}{N:Nd}:(Za l N).length≤l.length+1:=by unfold Za;simp
theorem rdPart_len{N:Nd}{k:List UInt8}{rest:WS}{d:TS×WS×Bool}(h:Rx S N k rest=some d):d.1.nds.length≤S.nds.length+1:=by
 unfold Rx at h
 split at h
 ·split at h
  ·obtain⟨_,_,rfl⟩:=Option.map_eq_some_iff.1 h;exact setL_len
  ·cases h
 split at h
 ·split at h
  ·obtain⟨_,_,h⟩:=Option.bind_eq_some_iff.1 h
   obtain⟨_,_,rfl⟩:=Option.map_eq_some_iff.1 h;exact setL_len
  ·cases h
 split at h
 ·split at h
  ·obtain⟨_,_,rfl⟩:=Option.map_eq_some_iff.1 h;exact setL_len
  ·cases h
 split at h
 ·split at h
  ·obtain⟨_,_,h⟩:=Option.bind_eq_some_iff.1 h
   obtain⟨_,_,rfl⟩:=Option.map_eq_some_iff.1 h;exact setL_len
  ·cases h
 ·cases h
theorem rdTake_len{l:List UInt8}{S':TS}(h:P1 S l=some S'):S'.nds.length≤S.nds.length+1:=by
 unfold P1 at h
 split at h
 case isFalse=>cases h
 split at h
 ·cases h
 obtain⟨d,h1,h2⟩:=Option.bind_eq_some_iff.1 h
 have h3:d.1.nds.length≤S.nds.length+1:=by
  unfold X4 at h1
  split at h1
  ·split at h1
   ·obtain⟨_,_,h1⟩:=Option.bind_eq_some_iff.1 h1
    obtain⟨_,_,h1⟩:=Option.bind_eq_some_iff.1 h1
    obtain⟨_,_,rfl⟩:=Option.map_eq_some_iff.1 h1
    exact Nat.le_succ _
   ·cases h1
  split at h1
  ·split at h1
   ·obtain⟨_,_,rfl⟩:=Option.map_eq_some_iff.1 h1
    show(S.nds++ [_]).length≤_
    simp
   ·cases h1
  split at h1
  ·cases h1
  ·exact rdPart_len h1
 unfold endL at h2
 split at h2
 ·injection h2 with h2
  subst h2
  split<;>exact h3
 ·cases h2
def Rw(w:World)(go:Nat)(k:Nat):Prop:=w.heap.size≤k∧k≠go
theorem all_t(hM:ML W)(hW:Below W.heap.size W w)(lt:W.heap.size≤gt)(hs:L5 w A n ls)(h0:0<n)(hn:n≤900000)(hlen:∀l∈ls,l.length≤65536)(hA:∀b∈bl A,W.heap.size≤b)(ht:K5 w gt (txS ts0 (none,0) 0))(hQ:∀k,w.heap.size≤k→R k):Calls Tryz.prog 23 #[Zq gt 0,.slice A n c] w
 (Ng w [gt] (fun _:Gh YL R=> .bool (okA (Pq ts0 0 ls))) (fun x u=>AllG W gt (Pq ts0 0 ls) R x.1 u)):=by
 have hgt:=ht.lt
 have hln:=hs.1
 obtain⟨o,ho⟩:∃o,o=Pq ts0 0 ls:=⟨_,rfl⟩
 rw[←ho]
 refine K0.enterD Tryz.func23 rfl hW <| ZS 0 <| K0.make (Up 4) (X5) (fun g u=>K5 u g [.bool false]∧w.heap.size≤g∧g<u.heap.size) Zk (fun w1 hw h=>Zw (z:= .bool false) Zk h.1) fun go=>ZR ?_
 refine K0.pure_ (p:=w.heap.size≤go∧∀b∈bl A,b<w.heap.size∧b≠gt) (fun u hu h=>⟨h.2.2.1,fun b hb=>⟨by
  obtain⟨cs,ty,own,e⟩:=hs.blk Zo b hb
  exact(Array.getElem?_eq_some_iff.1 e).1,strAt_ne ht (txC_ns nil_ns) hs Zo b hb⟩⟩) Zk (fun hp=> ?_)
 obtain⟨hgo,hnA⟩:=hp
 have K:Ka W w gt go A:=⟨hW,lt,hgt,hgo,hnA⟩
 obtain⟨x0,hx0⟩:∃x0:Gh YL (Rw w go),x0=⟨(((none,0),[]),fun _=>False),fun b hb=>hb.elim⟩:=⟨_,rfl⟩
 refine K0.impM (Φ':=fun u=>Ta W w gt go A n ls false u∧S9 W gt (none,0) [] ts0 (Rw w go) x0.1 u) (fun u h=>⟨⟨h.1.1,fun b h1 h2 _=>h.1.2 b h1 h2,h.2.1,hs.stay hA h.1.2⟩,by rw[hx0];exact⟨ht.stay lt h.1.2,K7.nil_,rfl,Lm.triv fun v h=>h,fun b hb=> .inl hb,fun b hb=>hb.elim⟩⟩) Zk ?_
 have hR:∀(x:Gh YL (Rw w go)),¬x.1.2 go∧¬x.1.2 gt:=fun x=>⟨fun h=>(x.2 _ h).2 rfl,fun h=>by have:=(x.2 _ h).1;omega⟩
 have hbl:∀{S:TS} {x:Gh YL (Rw w go)} {u:World},S9 W gt (none,0) [] S (Rw w go) x.1 u→∀k∈bl x.1.1.1.1,Rw w go k:=fun h k hk=>(h.bl k hk).elim (fun q=>by cases q) id
 have hgs:∀{S:TS} {x:Gh YL (Rw w go)} (wa u:World),wa.heap.size=u.heap.size→(∀k,k∉[go]→wa.heap[k]? =u.heap[k]?)→S9 W gt (none,0) [] S (Rw w go) x.1 wa→S9 W gt (none,0) [] S (Rw w go) x.1 u:=fun wa u e1 e2 h=>lnq_keep Zo (fun hb=>by cases hb) (fun q=>q.2 rfl) (hR _).1 e1 e2 h
 have hog:∀{S:TS} {x:Gh YL (Rw w go)} {b:Bool},Xq W [go] (fun u=>Ta W w gt go A n ls b u∧S9 W gt (none,0) [] S (Rw w go) x.1 u):=fun u h b hb=>by
  obtain rfl:b=go:=by simpa using hb
  exact⟨Nat.le_trans hW.size hgo,h.1.bo.own⟩
 have hot:∀{S:TS} {x:Gh YL (Rw w go)} {b:Bool},Xq W [gt] (fun u=>Ta W w gt go A n ls b u∧S9 W gt (none,0) [] S (Rw w go) x.1 u):=fun u h b hb=>by
  obtain rfl:b=gt:=by simpa using hb
  exact⟨lt,h.2.bt.own⟩
 have hset:∀{S S2:TS} {x:Gh YL (Rw w go)} (wa u:World),S2.nds=S.nds→wa.heap.size=u.heap.size→(∀k,k∉[gt]→wa.heap[k]? =u.heap[k]?)→(Ta W w gt go A n ls true wa∧S9 W gt (none,0) [] S (Rw w go) x.1 wa)→K5 u gt (txS S2 x.1.1.1 x.1.1.2.length)→Ta W w gt go A n ls true u∧S9 W gt (none,0) [] S2 (Rw w go) x.1 u:=fun wa u hn e1 e2 h hb=>⟨h.1.left K (fun k hk=> .inl (by simpa using hk)) e1 e2 (h.1.bo.to (e2 go Zp).symm),lnq_box (fun hk=>by have:=(hbl h.2 gt hk).1;omega) (hR _).2 hn e1 e2 h.2 hb⟩
 have hpan:∀{i:Nat} {w1:World},o= .inl i→Below W.heap.size W w1→(w.heap.size≤w1.heap.size∧∀k,W.heap.size≤k→k<w.heap.size→k≠gt→w1.heap[k]? =w.heap[k]?)∧Qr gt i w1∧K5 w1 go [.bool true]→CallsD Tryz.prog 45 #[Zq go 0] (.panicking Qg) w1 fun e u w'=>settle u= .returning∧∃x v,e= .returned x∧(loadVar 4 ⟨go,0,none⟩).run Tryz.prog w'= .ok v w'∧Ng w [gt] (fun _:Gh YL R=> .bool (okA o)) (fun x u=>AllG W gt o R x.1 u) (.returned v) w':=fun hi hw h=>by
  refine(all1_p hw h.2.2 (Nat.le_trans hW.size hgo)).mono fun e u' w' he=> ?_
  obtain⟨rfl,rfl,hb,hst⟩:=he
  refine⟨rfl,_,_,rfl,load_box1 Zk hst.2.2,?_⟩
  rw[hi]
  exact K.pan hw h.1 h.2.1 hb hst (x:=(⟨(((none,0),[]),fun _=>False),fun b hb=>hb.elim⟩:Gh YL R)) fun u hu=>hu
 refine K0.mutSt (L:=[go]) (G:=fun u=>K5 u go [.bool true]) (Φ':=fun u=>Ta W w gt go A n ls true u∧S9 W gt (none,0) [] ts0 (Rw w go) x0.1 u) (Om 4 ⟨go,0,none⟩ Zt) (fun w1 hw h=>bool_st h.1.bo) hog (fun wa u e1 e2 h hG=>⟨h.1.left K (fun k hk=> .inr (by simp at hk;omega)) e1 e2 hG,hgs wa u e1 e2 h.2⟩) Zk Zk <| ZR <| K0.defer_ ⟨.fn (.func 45) #[Zq go 0],#[]⟩ Zk Zk <| ZR <| K0.loop (ι:={q:Nat×TS×Gh YL (Rw w go) // q.1≤n∧Pq q.2.1 q.1 (ls.drop q.1)=o∧q.2.1.nds.length≤q.1}) 36 (fun q=>⟨[(0,.v (Zq gt 0)),(1,.v (.slice A n c)),(4,.v (X5 go)),(8,.v (.slice A n c)),(9,.v (Zi n)),(10,.v (Zi q.1.1))],[]⟩) (fun q u=>Ta W w gt go A n ls true u∧S9 W gt (none,0) [] q.1.2.1 (Rw w go) q.1.2.2.1 u) (fun q=>n-q.1.1) (⟨(0,ts0,x0),Nat.zero_le _,ho.symm,Nat.le_refl _⟩) Zk (fun _=>by kernel_rfl) ⟨Zk,Zk,Zk⟩ (fun u h=>h) ?_
 rintro⟨⟨i,S,x⟩,hi,hrd,hxl⟩ gg
 have hi:i≤n:=hi
 have hrd:Pq S i (ls.drop i)=o:=hrd
 have hxl:S.nds.length≤i:=hxl
 by_cases hlt:i<n
 ·obtain⟨l,hl⟩:∃v,ls[i]? =some v:=⟨_,List.getElem?_eq_getElem Zo⟩
  obtain⟨ad,hAd,hc⟩:=hs.2 i l hl
  rw[drop_cons hl,Uc]at hrd
  refine ZR <| ZJ (decide ((i:Int)<(n:Int))) true Zp <| ZA (Ku 66 (.slice A n c) i) (.pointer (some (ad.add i))) (fun w1 hw h=>by rw[hAd];exact Ky (elem:=9) Zk Zk hlt) <| ZA (Kt 9 (ad.add i)) (K4 l) (fun w1 hw h=>K6 Zk (by obtain⟨ad2,q1,q2⟩:=h.1.s.2 i l hl;obtain rfl:=Option.some.inj (hAd.symm.trans q1);exact q2)) <| K0.mutSt (L:=[gt]) (G:=fun u=>K5 u gt (txS {S with ln:=i} x.1.1.1 x.1.1.2.length)) (Φ':=fun u=>Ta W w gt go A n ls true u∧S9 W gt (none,0) [] {S with ln:=i} (Rw w go) x.1 u) (Om 3 ⟨gt,8,none⟩ (Zi i)) (fun w1 hw h=>h.2.bt.store1 (j:=8) Zk rfl (by show 8<10;decide) rfl) hot (fun wa u e1 e2 h hG=>hset (S2:={S with ln:=i}) wa u (by rfl) e1 e2 h hG) Zk Zk <| ZR ?_
  have own:Xq W (gt::bl x.1.1.1.1) (fun u=>Ta W w gt go A n ls true u∧S9 W gt (none,0) [] {S with ln:=i} (Rw w go) x.1 u):=fun u h b hb=>by
   rcases List.mem_cons.1 hb with rfl|hb
   ·exact⟨lt,h.2.bt.own⟩
   ·exact⟨(h.2.row.lt b hb).1,(h.2.row.blk b hb).2⟩
  have tk:∀w1,Below W.heap.size W w1→(Ta W w gt go A n ls true w1∧S9 W gt (none,0) [] {S with ln:=i} (Rw w go) x.1 w1)→Calls Tryz.prog 46 #[Zq gt 0,K4 l] w1 (Uv w1 (gt::bl x.1.1.1.1) Qg (Qr gt i) (P1 {S with ln:=i} l) (fun _ (_:Gh YL (fun k=>Rw w go k∧¬x.1.2 k))=> .tuple #[]) (fun S' x2 u=>S9 W gt x.1.1.1 x.1.1.2 S' (fun k=>Rw w go k∧¬x.1.2 k) x2.1 u)):=fun w1 hw h=>
   take_t (S:={S with ln:=i}) hM (hlen l (List.mem_of_getElem? hl)) hw lt (by have:=congrArg List.length h.2.eq;rw[List.length_map]at this;have h5:x.1.1.2.length=S.nds.length:=this;omega) h.2.bt h.2.row h.2.eq (fun b hb=>by have:=(hbl h.2 b hb).1;omega) (fun b hb=>⟨⟨Nat.le_trans h.1.sz hb,by have:=h.1.bo.lt;omega⟩,fun q=>by have:=h.2.hd.lt b q;omega⟩)
  have hin:∀u:World,S9 W gt (none,0) [] {S with ln:=i} (Rw w go) x.1 u→∀k∈gt::bl x.1.1.1.1,(k=gt∨w.heap.size≤k)∧k≠go:=fun u h k hk=>by
   rcases List.mem_cons.1 hk with rfl|hk
   ·exact⟨.inl rfl,by omega⟩
   ·exact⟨.inr (hbl h k hk).1,(hbl h k hk).2⟩
  cases e:P1 {S with ln:=i} l with
  |none=>
   have hN:o= .inl i:=by rw[←hrd,e]
   exact K0.mutxG (L:=gt::bl x.1.1.1.1) (G:=Qr gt i) (Φ':=fun u=>(w.heap.size≤u.heap.size∧∀k,W.heap.size≤k→k<w.heap.size→k≠gt→u.heap[k]? =w.heap[k]?)∧Qr gt i u∧K5 u go [.bool true]) (fun w1 hw h=>by have t:=tk w1 hw h;rw[e]at t;exact t) own (fun wa u e1 e2 h hG=>⟨⟨by rw[←e1];exact h.1.sz,fun k k1 k2 k3=>(e2 k fun hm=>((hin wa h.2 k hm).1).elim k3 fun q=>by omega).symm.trans (h.1.fr k k1 k2 k3)⟩,hG,h.1.bo.to (e2 go fun hm=>(hin wa h.2 go hm).2 rfl).symm⟩) Zk Zk <| ZR <| K0.leave Zk <| ZR <| K0.panD1 (f:=45) (args:= #[Zq go 0]) go 4 Zk Zk (fun w1=>rfl) (fun w1 hw h=>hpan hN hw h)
  |some S'=>
   rw[e]at hrd
   refine K0.mut (L:=gt::bl x.1.1.1.1) (Φ':=fun(x2:Gh YL (fun k=>Rw w go k∧¬x.1.2 k)) u=>Ta W w gt go A n ls true u∧S9 W gt (none,0) [] S' (Rw w go) (x2.1.1,fun k=>x.1.2 k∨x2.1.2 k) u) (fun w1 hw h=>by have t:=tk w1 hw h;rw[e]at t;exact t) own (fun x2 wa u e1 e2 h hG=>⟨h.1.left K (fun k hk=>(hin wa h.2 k hk).1) e1 e2 (h.1.bo.to (e2 go fun hm=>(hin wa h.2 go hm).2 rfl).symm),lnq_seq e1 e2 h.2 hG (fun k hk=>hk) (hR x).2⟩) Zk Zk fun x2=>ZR <| K0.slot 10 (Zi (IntKind.i64.wrap ((i:Int)+1))) (Zi ((i+1:Nat):Int)) Zk (by rw[Ki hlt Zo]) <| K0.next (⟨(i+1,S',⟨(x2.1.1,fun k=>x.1.2 k∨x2.1.2 k),fun b hb=>hb.elim (x.2 b) fun q=>(x2.2 b q).1⟩),hlt,hrd,by have:=rdTake_len e;exact Nat.le_trans this (Nat.succ_le_succ hxl)⟩) Zk (by show n- (i+1)<n-i;omega) ⟨Zk,Zk,Zk⟩ (fun u h=>h)
 obtain rfl:i=n:=by omega
 rw[List.drop_eq_nil_of_le Zo,Pq]at hrd
 refine ZR <| ZJ (decide ((i:Int)<(i:Int))) false Zs <| K0.leave Zk <| ZR <| K0.mutSt (L:=[gt]) (G:=fun u=>K5 u gt (txS {S with ln:=i} x.1.1.1 x.1.1.2.length)) (Φ':=fun u=>Ta W w gt go A i ls true u∧S9 W gt (none,0) [] {S with ln:=i} (Rw w go) x.1 u) (Om 3 ⟨gt,8,none⟩ (Zi i)) (fun w1 hw h=>h.2.bt.store1 (j:=8) Zk rfl (by show 8<10;decide) rfl) hot (fun wa u e1 e2 h hG=>hset (S2:={S with ln:=i}) wa u (by rfl) e1 e2 h hG) Zk Zk <| ZR <| ZA (Kt 3 ⟨gt,7,none⟩) (Zi S.wh) (fun w1 hw h=>K6 Zk (by rw[h.2.bt.cell];rfl)) ?_
 by_cases h1:S.wh=1
 ·rw[if_pos h1]at hrd
  exact ZJ ((S.wh==1)) true (beq_iff_eq.2 h1) <| K0.throw (Instr.panic Kf >>= fun v=>pure (.value v)) Kf Zk (fun w1 hw h=>by simp[Instr.panic,Kf,Go.goPanic]) Zk <| K0.panD1 (f:=45) (args:= #[Zq go 0]) go 4 Zk Zk (fun w1=>rfl) (fun w1 hw h=>hpan hrd.symm hw ⟨⟨h.1.sz,h.1.fr⟩,Xt h.2.bt,h.1.bo⟩)
 rw[if_neg h1]at hrd
 refine ZJ ((S.wh==1)) false (beq_eq_false_iff_ne.2 h1) <| ZA (Kt 4 ⟨go,0,none⟩) Zt (fun w1 hw h=>K6 Zk h.1.bo.one) <| K0.mutSt (L:=[go]) (G:=fun u=>K5 u go [.bool true]) (Φ':=fun u=>Ta W w gt go A i ls true u∧S9 W gt (none,0) [] {S with ln:=i} (Rw w go) x.1 u) (Om 4 ⟨go,0,none⟩ Zt) (fun w1 hw h=>bool_st h.1.bo) hog (fun wa u e1 e2 h hG=>⟨h.1.left K (fun k hk=> .inr (by simp at hk;omega)) e1 e2 hG,hgs wa u e1 e2 h.2⟩) Zk Zk <| ZR <| K0.retD1 (f:=45) (args:= #[Zq go 0]) go 4 Zk (fun w1=>rfl) fun w1 hw h=>(all1_r hw).mono fun e u' w' he=> ?_
 obtain⟨rfl,rfl,hb,hst⟩:=he
 refine⟨rfl,_,_,rfl,load_box1 Zk (h.1.bo.stay (Nat.le_trans hW.size hgo) hst.2),?_⟩
 rw[←hrd]
 have hlq:S9 W gt (none,0) [] {S with ln:=i} (Rw w go) x.1 w':=⟨h.2.bt.stay lt hst.2,h.2.row.same fun b hb=>hst.2 b (h.2.row.lt b hb).1 (h.2.row.lt b hb).2,h.2.eq,h.2.hd.to hst.1 fun b hb=>hst.2 b (Nat.le_trans hW.size (x.2 b hb).1) (h.2.hd.lt b hb),h.2.bl,h.2.ap⟩
 refine⟨⟨x.1,fun b hb=>hQ b (x.2 b hb).1⟩,rfl,⟨hb.os.trans hW.os.symm,hb.tape.trans hW.tape.symm,hb.output.trans hW.output.symm,Nat.le_trans h.1.sz hst.1,fun k hk hkl=> ?_⟩,fun w'' k1 k2=>⟨hlq.bt.to (k2 gt (.inl Zs)),hlq.row.same fun b hb=>k2 b (.inr ⟨(hbl hlq b hb).1,(hlq.row.lt b hb).2⟩),hlq.eq,hlq.hd.to k1 fun b hb=>k2 b (.inr ⟨(x.2 b hb).1,hlq.hd.lt b hb⟩),fun b hb=> .inr (hQ b (hbl hlq b hb).1),hlq.ap⟩⟩
 rcases Nat.lt_or_ge k W.heap.size with h4|h4
 ·rw[hb.block k h4,hW.block k h4]
 ·rw[hst.2 k h4 (Nat.lt_of_lt_of_le hk h.1.sz)]
  exact h.1.fr k h4 hk (by simpa using hkl)
end
theorem parseF_le(ws:List (List UInt8)):∀(n i:Nat) (acc:List Sg),(Qu ws n i acc).1.length≤acc.length+n
 |0,i,acc=>by rw[Qu];unfold endP;split<;>simp
 | n +1,i,acc=>by
  rw[Qu]
  split
  ·unfold endP;split<;>simp
  ·split
   ·simp
   ·split
    ·simp
    ·have:=parseF_le ws n (i+1+2*(Lf (Qv ‹_›)).toNat) (acc++ [sgOf ws (Qv ‹_›) i])
     rw[List.length_append,List.length_singleton]at this
     omega
theorem parseP_le{s:List UInt8}:(Nj s).1.length≤s.length+1:=by
 unfold Nj
 split
 ·simp
 ·have h1:=parseF_le (Ld s) ((Ld s).length-0) 0 []
  have h2:=words_len s
  simp only[List.length_nil]at h1
  unfold Pi
  omega
theorem decL_le:∀{l b:List UInt8},decL l=some b→2*b.length≤l.length
 | [],b,h=>by cases h;exact Nat.le_refl _
 | [_],b,h=>by cases h
 | x::y::l,b,h=>by
  rw[decL_cons]at h
  split at h
  ·cases h
  ·obtain⟨p,hp,rfl⟩:=Option.map_eq_some_iff.1 h
   have:=decL_le hp
   simp only[List.length_cons]
   omega
theorem quads_le:∀b:List UInt8,4*(Oc b).length≤b.length
 |r::g::b::a::l=>by have:=quads_le l;simp only[Oc,List.length_cons];omega
 | []=>by simp[Oc]
 | [_]=>by simp[Oc]
 | [_,_]=>by simp[Oc]
 | [_,_,_]=>by simp[Oc]
theorem rdS_le:∀{ws:WS} {f:Bool} {l:List (Int×Co)×Bool},rdS f ws=some l→2*l.1.length≤ws.length
 | [],f,l,h=>by cases h;exact Nat.le_refl _
 | [_],f,l,h=>by cases h
 |s::c::r,f,l,h=>by
  rw[rdS]at h
  obtain⟨x,_,h⟩:=Option.bind_eq_some_iff.1 h
  obtain⟨k,_,h⟩:=Option.bind_eq_some_iff.1 h
  obtain⟨m,hm,rfl⟩:=Option.map_eq_some_iff.1 h
  have:=rdS_le hm
  simp only[List.length_cons]
  omega
theorem rdNs_le:∀{n:Nat} {f:Bool} {ws:WS} {l:List Int×WS×Bool},rdNs n f ws=some l→l.1.length=n
 |0,f,ws,l,h=>by cases h;rfl
 |n+1,f,ws,l,h=>by
  rw[rdNs_succ]at h
  obtain⟨x,_,h⟩:=Option.bind_eq_some_iff.1 h
  obtain⟨m,hm,rfl⟩:=Option.map_eq_some_iff.1 h
  rw[List.length_cons,rdNs_le hm]
structure Wb(ws0:WS)(n:Nat):Prop where
 len:n≤6001
 mem:∀s∈ws0,s.length≤6000
def Fw(N:Nd):Prop:=NFew N∧NSm N
section
variable{ws0 rest:WS}{n:Nat}{f:Bool}
theorem path_few(hb:Wb ws0 n)(hs:Pa ws0 n rest){d:List Sg×WS×Bool}(h:Xx f rest=some d):d.1.length≤6001:=by
 cases rest with
 |nil=>cases h
 | cons s r=>
  have h1:=hb.mem s (List.mem_of_getElem? hs.get)
  have h2:=parseP_le (s:=s)
  rw[show Xx f (s::r)=if (Nj s).2.2=0 then some ((Nj s).1,r,f)else if (Nj s).2.2=6 then some ([],r,true)else none from rfl]at h
  split at h
  ·cases h;show(Nj s).1.length≤6001;omega
  ·split at h
   ·cases h;exact Nat.zero_le _
   ·cases h
theorem im_few(hb:Wb ws0 n)(hs:Pa ws0 n rest){d:Im×WS×Bool}(h:Xz f rest=some d):d.1.px.length≤1000:=by
 unfold Xz at h
 obtain⟨⟨x,bx,r1,f1⟩,h1,h⟩:=Option.bind_eq_some_iff.1 h
 obtain⟨⟨y,by_,r2,f2⟩,h2,h⟩:=Option.bind_eq_some_iff.1 h
 have h3:=Uz (Uz hs h1) h2
 simp only at h
 cases r2 with
 |nil=>cases h
 | cons s r3=>
  have h4:=hb.mem s (List.mem_of_getElem? h3.get)
  simp only at h
  split at h
  ·cases h
  ·rename_i b hd
   have h5:=decL_le hd
   have h6:=quads_le b
   split at h
   ·cases h
   ·split at h
    ·cases h;exact Nat.zero_le _
    ·split at h
     ·cases h
     ·cases h;show(Oc b).length≤1000;omega
theorem pn_few(hb:Wb ws0 n)(hs:Pa ws0 n rest){d:Pn×Bool}(h:rdPn f rest=some d):d.1.im.px.length≤1000∧d.1.stops.length≤6001:=by
 have hbl:=hb.len
 cases rest with
 |nil=>cases h
 | cons k r=>
  have hs:=hs.tail
  rw[rdPn_cons]at h
  split at h
  ·unfold rdSol at h
   obtain⟨c,_,h⟩:=Option.bind_eq_some_iff.1 h
   split at h
   ·cases h;exact⟨Nat.zero_le _,Nat.zero_le _⟩
   ·cases h
  split at h
  ·unfold rdLin at h
   obtain⟨⟨p,r1,f1⟩,h1,h⟩:=Option.bind_eq_some_iff.1 h
   obtain⟨⟨q,r2,f2⟩,h2,h⟩:=Option.bind_eq_some_iff.1 h
   obtain⟨⟨k,r3,f3⟩,h3,h⟩:=Option.bind_eq_some_iff.1 h
   obtain⟨⟨t,r4,f4⟩,h4,h⟩:=Option.bind_eq_some_iff.1 h
   obtain⟨l,h5,rfl⟩:=Option.map_eq_some_iff.1 h
   have h6:=(rdA_suf (Nn (X0 (X0 hs h1) h2) h3) h4).2
   have h7:=rdS_le h5
   refine⟨Nat.zero_le _,?_⟩
   show l.1.length≤6001
   simp only at h7
   omega
  split at h
  ·unfold rdRad at h
   obtain⟨⟨p,r1,f1⟩,h1,h⟩:=Option.bind_eq_some_iff.1 h
   obtain⟨⟨q,r2,f2⟩,h2,h⟩:=Option.bind_eq_some_iff.1 h
   obtain⟨⟨k,r3,f3⟩,h3,h⟩:=Option.bind_eq_some_iff.1 h
   obtain⟨⟨t,r4,f4⟩,h4,h⟩:=Option.bind_eq_some_iff.1 h
   obtain⟨l,h5,rfl⟩:=Option.map_eq_some_iff.1 h
   have h6:=(rdA_suf (Nn (M6 (X0 hs h1) h2) h3) h4).2
   have h7:=rdS_le h5
   refine⟨Nat.zero_le _,?_⟩
   show l.1.length≤6001
   simp only at h7
   omega
  split at h
  ·unfold rdPat at h
   obtain⟨⟨k,r1,f1⟩,h1,h⟩:=Option.bind_eq_some_iff.1 h
   obtain⟨⟨q,r2,f2⟩,h2,h⟩:=Option.bind_eq_some_iff.1 h
   obtain⟨⟨t,r3,f3⟩,h3,h⟩:=Option.bind_eq_some_iff.1 h
   obtain⟨⟨m,r4,f4⟩,h4,h⟩:=Option.bind_eq_some_iff.1 h
   have h5:=im_few hb (rdA_suf (Nn (Nn hs h1) h2) h3) h4
   split at h
   ·cases h;exact⟨h5,Nat.zero_le _⟩
   ·cases h
  ·cases h
theorem pen_few(hb:Wb ws0 n)(hs:Pa ws0 n rest){d:Sty×WS×Bool}(h:rdPen f rest=some d):d.1.d.length≤6001:=by
 have hbl:=hb.len
 unfold rdPen at h
 obtain⟨⟨w,r1,f1⟩,h1,h⟩:=Option.bind_eq_some_iff.1 h
 obtain⟨⟨j,r2,f2⟩,h2,h⟩:=Option.bind_eq_some_iff.1 h
 obtain⟨⟨c,r3,f3⟩,h3,h⟩:=Option.bind_eq_some_iff.1 h
 obtain⟨⟨m,r4,f4⟩,h4,h⟩:=Option.bind_eq_some_iff.1 h
 obtain⟨⟨p,r5,f5⟩,h5,h⟩:=Option.bind_eq_some_iff.1 h
 obtain⟨l,h6,rfl⟩:=Option.map_eq_some_iff.1 h
 have h7:=M6 (M6 (Nn (Nn (M6 hs h1) h2) h3) h4) h5
 simp only at h6
 cases r5 with
 |nil=>cases h6
 | cons s r=>
  have h8:=h7.2
  rw[show rdDs f5 (s::r)=if piE s≠0∨Th s<0∨Th s>(r.length:Int)then none else rdNs (Th s).toNat f5 r from rfl]at h6
  split at h6
  ·cases h6
  ·have h9:=rdNs_le h6
   show l.1.length≤6001
   simp only[List.length_cons]at h8
   omega
theorem Head.few{N:Nd}(h:Head N)(h1:N.path.length≤6001)(h2:N.im.px.length≤1000):Fw N:=
 ⟨⟨by rw[h.clip];exact Nat.zero_le _,by omega,by rw[h.sty];exact Nat.zero_le _,by omega,by rw[h.fill];exact fun P hP=>(by cases hP),by rw[h.stroke];exact fun P hP=>(by cases hP),by rw[h.fill];exact Nat.zero_le _,by rw[h.stroke];exact Nat.zero_le _⟩,
  ⟨h2,by rw[h.fill];exact fun P hP=>(by cases hP),by rw[h.stroke];exact fun P hP=>(by cases hP)⟩⟩
theorem head_few(hb:Wb ws0 n)(hs:Pa ws0 n rest){k:Int}(hk:k=1∨k=2∨k=3){d:Nd×WS×Bool}(h:Nz k f rest=some d):Fw d.1:=by
 rcases hk with rfl|rfl|rfl
 ·obtain⟨h1,h2,h3⟩:=head_1 h
  exact h1.few (by rw[h2];exact Nat.zero_le _) (by rw[h3];exact Nat.zero_le _)
 ·obtain⟨h1,h3⟩:=head_2 h
  refine h1.few ?_ (by rw[h3];exact Nat.zero_le _)
  unfold Nz at h
  obtain⟨⟨i,r1,f1⟩,k1,h⟩:=Option.bind_eq_some_iff.1 h
  obtain⟨⟨d1,r2,f2⟩,k2,h⟩:=Option.bind_eq_some_iff.1 h
  rw[if_neg Zd,if_pos rfl]at h
  obtain⟨⟨o,r3,f3⟩,k3,h⟩:=Option.bind_eq_some_iff.1 h
  obtain⟨b,k4,rfl⟩:=Option.map_eq_some_iff.1 h
  exact path_few hb (Nn (M6 (M6 hs k1) k2) k3) k4
 ·obtain⟨h1,h3⟩:=head_3 h
  refine h1.few (by rw[h3];exact Nat.zero_le _) ?_
  unfold Nz at h
  obtain⟨⟨i,r1,f1⟩,k1,h⟩:=Option.bind_eq_some_iff.1 h
  obtain⟨⟨d1,r2,f2⟩,k2,h⟩:=Option.bind_eq_some_iff.1 h
  rw[if_neg Zd,if_neg Zd]at h
  obtain⟨⟨o,r3,f3⟩,k3,h⟩:=Option.bind_eq_some_iff.1 h
  obtain⟨b,k4,rfl⟩:=Option.map_eq_some_iff.1 h
  exact im_few hb (Nn (M6 (M6 hs k1) k2) k3) k4
theorem setL_few{l:List Nd}{N:Nd}(h:∀M∈l,Fw M)(hN:Fw N):∀M∈Za l N,Fw M:=fun M hM=>by
 rcases List.mem_append.1 hM with hM|hM
 ·exact h M (List.dropLast_subset _ hM)
 ·obtain rfl:M=N:=by simpa using hM
  exact hN
theorem one_few{P:Pn}{Q:Pn→Prop}(h:Q P):∀R∈[P],Q R:=fun R hR=>by
 obtain rfl:R=P:=by simpa using hR
 exact h
theorem part_few(hb:Wb ws0 n)(hs:Pa ws0 n rest){S:TS}{N:Nd}{k:List UInt8}{x:TS×WS×Bool}(hS:∀M∈S.nds,Fw M)(hN:Fw N)(h:Rx S N k rest=some x):∀M∈x.1.nds,Fw M:=by
 unfold Rx at h
 split at h
 ·split at h
  ·obtain⟨t,_,rfl⟩:=Option.map_eq_some_iff.1 h
   exact setL_few hS ⟨⟨hN.1.cl,hN.1.pa,hN.1.da,hN.1.px,hN.1.fi,hN.1.st,hN.1.fn,hN.1.sn⟩,⟨hN.2.im,hN.2.fi,hN.2.st⟩⟩
  ·cases h
 split at h
 ·split at h
  ·obtain⟨⟨u,r1,f1⟩,h1,h⟩:=Option.bind_eq_some_iff.1 h
   obtain⟨p,h2,rfl⟩:=Option.map_eq_some_iff.1 h
   have h3:=path_few hb (Nn hs h1) h2
   exact setL_few hS ⟨⟨by show p.1.length≤_;omega,hN.1.pa,hN.1.da,hN.1.px,hN.1.fi,hN.1.st,hN.1.fn,hN.1.sn⟩,⟨hN.2.im,hN.2.fi,hN.2.st⟩⟩
  ·cases h
 split at h
 ·split at h
  ·obtain⟨p,h2,rfl⟩:=Option.map_eq_some_iff.1 h
   have h3:=pn_few hb hs h2
   exact setL_few hS ⟨⟨hN.1.cl,hN.1.pa,hN.1.da,hN.1.px,one_few (Q:=fun P=>P.im.px.length≤20000∧P.stops.length≤1000000) Zo,hN.1.st,(by decide:(1:Nat)≤1000000),hN.1.sn⟩,⟨hN.2.im,one_few (Q:=fun P=>P.im.px.length≤1000) h3.1,hN.2.st⟩⟩
  ·cases h
 split at h
 ·split at h
  ·obtain⟨⟨s,r1,f1⟩,h1,h⟩:=Option.bind_eq_some_iff.1 h
   obtain⟨p,h2,rfl⟩:=Option.map_eq_some_iff.1 h
   have h3:=pn_few hb (rdPen_suf hs h1) h2
   have h4:=pen_few hb hs h1
   exact setL_few hS ⟨⟨hN.1.cl,hN.1.pa,by show s.d.length≤_;simp only at h4;omega,hN.1.px,hN.1.fi,one_few (Q:=fun P=>P.im.px.length≤20000∧P.stops.length≤1000000) Zo,hN.1.fn,(by decide:(1:Nat)≤1000000)⟩,⟨hN.2.im,hN.2.fi,one_few (Q:=fun P=>P.im.px.length≤1000) h3.1⟩⟩
  ·cases h
 ·cases h
theorem headK_in(k:List UInt8):Tr k=0∨Tr k=1∨Tr k=2∨Tr k=3:=by
 unfold Tr
 split
 ·exact .inr (.inl rfl)
 split
 ·exact .inr (.inr (.inl rfl))
 split
 ·exact .inr (.inr (.inr rfl))
 ·exact .inl rfl
theorem ln_few(hb:Wb ws0 n)(hs:Pa ws0 n rest){S:TS}{k:List UInt8}{x:TS×WS×Bool}(hS:∀M∈S.nds,Fw M)(h:X4 S k rest=some x):∀M∈x.1.nds,Fw M:=by
 unfold X4 at h
 split at h
 ·split at h
  ·obtain⟨w,_,h⟩:=Option.bind_eq_some_iff.1 h
   obtain⟨v,_,h⟩:=Option.bind_eq_some_iff.1 h
   obtain⟨c,_,rfl⟩:=Option.map_eq_some_iff.1 h
   exact hS
  ·cases h
 split at h
 ·split at h
  ·obtain⟨N,h1,rfl⟩:=Option.map_eq_some_iff.1 h
   have h2:=head_few hb hs ((headK_in k).resolve_left ‹_›) h1
   exact fun M hM=>by
    rcases List.mem_append.1 hM with hM|hM
    ·exact hS M hM
    ·obtain rfl:M=N.1:=by simpa using hM
     exact h2
  ·cases h
 split at h
 ·cases h
 ·rename_i N hg
  exact part_few hb hs hS (hS N (List.mem_of_getLast? hg)) h
theorem unq_wb{l:List UInt8}(hB:Vp (Ld l)=true)(hl:l.length≤6000):Wb (Lp (Ld l)) (Lp (Ld l)).length:=
 ⟨by have:=words_len2 (l:=l);omega,fun s hs=>Nat.le_trans (words_mem2 hB s hs) hl⟩
theorem take_few{S S':TS}{l:List UInt8}(hl:l.length≤6000)(hS:∀M∈S.nds,Fw M)(h:P1 S l=some S'):∀M∈S'.nds,Fw M:=by
 unfold P1 at h
 split at h
 case isFalse=>cases h
 rename_i hB
 have hb:=unq_wb hB hl
 split at h
 ·cases h
 rename_i k ws e
 rw[e]at hb
 obtain⟨x,h1,h2⟩:=Option.bind_eq_some_iff.1 h
 have h3:=ln_few hb (suf_full (k::ws)).tail hS h1
 unfold endL at h2
 split at h2
 ·injection h2 with h2
  subst h2
  split<;>exact h3
 ·cases h2
theorem all_few:∀{ls:List (List UInt8)} {S S':TS} {i:Nat},(∀l∈ls,l.length≤6000)→(∀M∈S.nds,Fw M)→Pq S i ls= .inr S'→∀M∈S'.nds,Fw M
 | [],S,S',i,_,hS,h=>by
  rw[Pq]at h
  split at h
  ·cases h
  ·cases h;exact hS
 | l::r,S,S',i,hl,hS,h=>by
  rw[Pq]at h
  split at h
  ·cases h
  ·rename_i S1 e
   exact all_few (fun x hx=>hl x (by simp[hx])) (take_few (S:={S with ln:=i}) (hl l Zs) hS e) h
end
section
variable{w:World}{s l:List UInt8}{B:Nat}{n c sz:Nat}{A:Option Addr}{e:TypeId}{xs:List Value}{S:TS}
theorem K7.cap(h:K7 w B e sz A n c xs):n≤c:=by
 rcases h.2 with ⟨h1,h2⟩|⟨g,cap,cur,h1,hB,hh,hn,_⟩
 ·omega
 ·injection h1 with _ _ h1
  omega
theorem hsuf_m(hl:l.length≤100000000){b:Bool}(h:Lib.hasSuffix l [10]=b):Zv 21 #[K4 l,.string ⟨#[10]⟩] w (.bool b):=
 (Tryz.strings_HasSuffix ⟨l.toArray⟩ ⟨#[10]⟩ w (show l.length≤_ by omega)).mono fun e w' k=>⟨(),by rw[k.1];show Ending.returned (.bool (Lib.hasSuffix l [10]))=_;rw[h],by rw[k.2];exact Below.refl _ _,fun _ _ _=>trivial⟩
theorem lines_sm(m:List UInt8):(∀l∈Mm m,l.length≤m.length)∧(Mm m).length≤m.length+1:=by
 unfold Mm
 split
 ·exact⟨fun l h=>(by cases h),Nat.zero_le _⟩
 ·have h1:m.dropLast.length≤m.length:=by simp
  exact⟨fun l h=>Nat.le_trans (split_mem 10 _ l h) h1,by rw[T6];have:=List.count_le_length (a:=(10:UInt8)) (l:=m.dropLast);omega⟩
theorem okN_last:okN s=true↔s=[]∨s.getLast? =some 10:=by
 unfold okN
 cases s<;>simp
theorem suf_dec:Lib.hasSuffix s [10]=decide (s.getLast? =some 10):=by
 cases h:s with
 |nil=>rfl
 |cons b r=>
  rw[←ok_dec Zs]
  unfold okN
  simp only[List.isEmpty_cons,Bool.false_or]
  by_cases h2:(b::r).getLast? =some 10
  ·rw[h2,decide_eq_true rfl];rfl
  ·rw[decide_eq_false h2];exact beq_eq_false_iff_ne.2 h2
abbrev PX:Type:=(Option Addr×Nat)×List (Nd×ND)
def parG(s:List UInt8)(q:PX)(u:World):Prop:=Yx u q.1.1 q.2 125 (M3 s).1.nds∧(M3 s).1.nds.length≤q.1.2
def parV(s:List UInt8)(q:PX):Value:= .tuple #[soV (M3 s).1 q.1,Zi (M3 s).2.1,Zi (M3 s).2.2]
theorem par_nil{u:World}(h:(M3 s).1=sc0):parG s ((none,0),[]) u:=by
 unfold parG
 rw[h]
 exact⟨⟨rfl,Od.nil_,fun x hx=>by cases hx⟩,Nat.le_refl _⟩
theorem X9{n:Nat}{e:Int}(h:M3 s=(sc0,n,e)):parV s ((none,0),[])= .tuple #[.agg #[Zi 0,Zi 0,.int .u8 0,.int .u8 0,.int .u8 0,.int .u8 0,.slice none 0 0],Zi n,Zi e]:=by
 unfold parV
 rw[h]
 rfl
theorem lnq_ns{W u:World}{gt:Nat}{R:Nat→Prop}{x:YL×(Nat→Prop)}(h:S9 W gt (none,0) [] S R x u):Yx u x.1.1.1 x.1.2 125 S.nds∧S.nds.length≤x.1.1.2∧K5 u gt (soC S.sc x.1.1++ [Zi S.wh,Zi S.ln,Zi S.far]):=by
 have hl:x.1.2.length=S.nds.length:=by rw[←h.eq,List.length_map]
 have h1:=h.row
 rw[hl]at h1
 refine⟨⟨h.eq,K7.rowA (cl:=fun x=>Ys x.1 x.2) (fun _=>by kernel_rfl) hl h1,h.hd.get fun y hy=>by cases hy⟩,h1.cap,?_⟩
 have h2:=h.bt
 rw[hl]at h2
 exact h2
theorem parse_t(hE:ET w)(hM:ML w)(hl:s.length≤65536)(hF:s.getLast? =some 10→∀S,Pq ts0 0 (Mm s)= .inr S→∀N∈S.nds,Fw N):Calls Tryz.prog 9 #[K4 s] w (K8 w (parV s) (parG s)):=by
 refine K0.enter Tryz.func9 rfl <| ZR <| ZJ (decide ((s.length:Int)>65536)) false (decide_eq_false Zo) ?_
 by_cases h10:s.getLast? =some 10
 case neg=>
  have hp:M3 s=(sc0,0,3):=by unfold M3;rw[if_neg Zo,if_pos h10]
  exact ZC (fun w1 hw h=>hsuf_m (l:=s) Zo (suf_dec.trans (decide_eq_false h10))) fun u=>ZI true <| ZV (.tuple #[.agg #[Zi 0,Zi 0,.int .u8 0,.int .u8 0,.int .u8 0,.int .u8 0,.slice none 0 0],Zi 0,Zi 3]) fun w1 hw h=>⟨((none,0),[]),by rw[X9 hp];rfl,hw,fun w'' _ _=>par_nil (by rw[hp])⟩
 have hok:okN s=true:=okN_last.2 (.inr h10)
 obtain⟨x,y,hxy⟩:=lines_ne h10
 obtain⟨hlm,hnl⟩:=lines_sm s
 obtain⟨n,hn⟩:∃n,n=(Mm s).length:=⟨_,rfl⟩
 have hn0:0<n:=by rw[hn,hxy];simp
 have hlen:∀l∈Mm s,l.length≤65536:=fun l h=>Nat.le_trans (hlm l h) hl
 obtain⟨o,ho⟩:∃o,o=Pq ts0 0 (Mm s):=⟨_,rfl⟩
 have hpo:M3 s=match (generalizing:=false) o with| .inl i=>(sc0,i,3)| .inr S=>if 0≤S.far then(sc0,S.far.toNat,6)else if Zb S.sc=true∧scT S.sc=s then(S.sc,0,0)else(sc0,(Mm s).length,18):=by
  unfold M3
  rw[if_neg Zo,if_neg (fun h=>h h10),ho];rfl
 refine ZC (fun w1 hw h=>hsuf_m (l:=s) Zo (suf_dec.trans (decide_eq_true h10))) fun u=>ZI false <| ZD 1 (fun w1 hw h=>sl_f (l:=s) (ws:=Mm s) (n:=n) (N:=w.heap.size) (hM.below hw) hok Zo rfl hn.symm Zo hw.size) fun q=>K0.make (boxS 74 (.agg #[Zi 0,Zi 0,.int .u8 0,.int .u8 0,.int .u8 0,.int .u8 0,.slice none 0 0,Zi 0,Zi 0,Zi (-1)])) (X5) (fun g u=>K5 u g (txS ts0 (none,0) 0)∧w.heap.size≤g∧g<u.heap.size) Zk (fun w1 hw h=>make_box (v:= .agg (txS ts0 (none,0) 0).toArray) hw.size) fun gt=>ZR <| K0.mut (X:=Gh YL (fun _=>True)) (L:=[gt]) (g:=23) (args:= #[Zq gt 0,.slice q.1.1 n q.1.2]) (val:=fun _=> .bool (okA o)) (G:=fun x u=>AllG w gt o (fun _=>True) x.1 u) (Φ':=fun x u=>AllG w gt o (fun _=>True) x.1 u) (fun w1 hw h=>by have t:=all_t (R:=fun _=>True) (n:=n) (c:=q.1.2) hM hw h.2.2.1 h.1.2.1 hn0 Zo hlen h.1.2.2 h.2.1 (fun _ _=>trivial);rw[←ho]at t;exact t) (fun u h b hb=>by obtain rfl:b=gt:=by{simpa using hb};exact⟨h.2.2.1,h.2.1.own⟩) (fun _ wa u e1 e2 h hG=>hG) Zk Zk (fun x=> ?_)
 cases o with
 |inl i=>
  exact ZR <| ZI true <| ZB 4 (Kt 3 ⟨gt,8,none⟩) (Zi i) (fun w1 hw h=>K6 Zk (by obtain⟨cs,h1,h2,h3⟩:=h;rw[h1.cell];exact h3)) <| ZV (.tuple #[.agg #[Zi 0,Zi 0,.int .u8 0,.int .u8 0,.int .u8 0,.int .u8 0,.slice none 0 0],Zi i,Zi 3]) fun w1 hw h=>⟨((none,0),[]),by rw[X9 hpo],hw,fun w'' _ _=>par_nil (by rw[hpo])⟩
 | inr S=>
  have hFw:=hF h10 S ho.symm
  obtain⟨⟨⟨y,L⟩,Sg⟩,_⟩:=x
  refine K0.impM (Φ':=fun u=>Yx u y.1 L 125 S.nds∧S.nds.length≤y.2∧K5 u gt (soC S.sc y++ [Zi S.wh,Zi S.ln,Zi S.far])) (fun u h=>lnq_ns h) Zk ?_
  have hpo:M3 s=if 0≤S.far then(sc0,S.far.toNat,6)else if Zb S.sc=true∧scT S.sc=s then(S.sc,0,0)else(sc0,(Mm s).length,18):=hpo
  refine ZR <| ZI false <| ZA (Kt 3 ⟨gt,9,none⟩) (Zi S.far) (fun w1 hw h=>K6 Zk (by rw[h.2.2.cell];rfl)) ?_
  by_cases hfar:0≤S.far
  ·rw[if_pos hfar]at hpo
   exact ZJ (decide (S.far≥0)) true (decide_eq_true hfar) <| ZB 4 (Kt 3 ⟨gt,9,none⟩) (Zi S.far) (fun w1 hw h=>K6 Zk (by rw[h.2.2.cell];rfl)) <| ZV (.tuple #[.agg #[Zi 0,Zi 0,.int .u8 0,.int .u8 0,.int .u8 0,.int .u8 0,.slice none 0 0],Zi S.far,Zi 6]) fun w1 hw h=>⟨((none,0),[]),by rw[X9 hpo,show((S.far.toNat:Nat):Int)=S.far by omega],hw,fun w'' _ _=>par_nil (by rw[hpo])⟩
  rw[if_neg hfar]at hpo
  refine ZJ (decide (S.far≥0)) false (decide_eq_false hfar) <| ZA (Kt 26 ⟨gt,0,none⟩) (soV S.sc y) (fun w1 hw h=>M1 (vs:=soC S.sc y) Zk Zk (K5.fst (a:=soC S.sc y) (b:=[Zi S.wh,Zi S.ln,Zi S.far]) h.2.2)) ?_
  by_cases hok2:Zb S.sc=true
  rotate_left
  ·rw[if_neg (fun h=>hok2 h.1)]at hpo
   exact ZC (fun w1 hw h=>format_no (S:=S.sc) (y:=y) (hE.below hw) h.1 (fun N hN=>(hFw N hN).1) Zd (by simpa using hok2)) fun _=>ZI true <| ZV (.tuple #[.agg #[Zi 0,Zi 0,.int .u8 0,.int .u8 0,.int .u8 0,.int .u8 0,.slice none 0 0],Zi n,Zi 18]) fun w1 hw h=>⟨((none,0),[]),by rw[X9 hpo,←hn],hw,fun w'' _ _=>par_nil (by rw[hpo])⟩
  by_cases hlen2:(scT S.sc).length≤65536
  rotate_left
  ·rw[if_neg (fun h=>hlen2 (by rw[h.2];omega))]at hpo
   exact K0.callv (val:=fun _:Unit=> .tuple #[K4 [],Zi 5]) (G:=fun _ _=>True) (fun w1 hw h=>by have t:=Y8 (S:=S.sc) (y:=y) (hE.below hw) h.1 (fun N hN=>(hFw N hN).1) (fun N hN=>(hFw N hN).2) (sc_parts hok2).2.1 Zd hok2;unfold outV at t;rw[if_neg hlen2]at t;exact t) Zk fun _=>ZR <| ZI true <| ZV (.tuple #[.agg #[Zi 0,Zi 0,.int .u8 0,.int .u8 0,.int .u8 0,.int .u8 0,.slice none 0 0],Zi n,Zi 18]) fun w1 hw h=>⟨((none,0),[]),by rw[X9 hpo,←hn],hw,fun w'' _ _=>par_nil (by rw[hpo])⟩
  refine K0.callv (val:=fun _:Unit=> .tuple #[K4 (scT S.sc),Zi 0]) (G:=fun _ _=>True) (fun w1 hw h=>by have t:=Y8 (S:=S.sc) (y:=y) (hE.below hw) h.1 (fun N hN=>(hFw N hN).1) (fun N hN=>(hFw N hN).2) (sc_parts hok2).2.1 Zd hok2;unfold outV at t;rw[if_pos hlen2]at t;exact t) Zk fun _=>ZS 0 <| ZS 5 ?_
  by_cases hts:scT S.sc=s
  ·rw[if_pos ⟨hok2,hts⟩]at hpo
   refine ZA (Pw .neq 9 (.tmp 55) (.tmp 56) (K4 (scT S.sc)) (K4 s)) Zf (fun w1 hw h=>Uw (by rw[hts];simp)) <| ZI false <| ZA (Kt 26 ⟨gt,0,none⟩) (soV S.sc y) (fun w1 hw h=>M1 (vs:=soC S.sc y) Zk Zk (K5.fst (a:=soC S.sc y) (b:=[Zi S.wh,Zi S.ln,Zi S.far]) h.1.2.2)) <| ZV (.tuple #[soV S.sc y,Zi 0,Zi 0]) (fun w1 hw h=> ?_)
   have k:=h w1 (Nat.le_refl _) (fun _ _ _=>rfl)
   exact⟨(y,L),by unfold parV;rw[hpo];rfl,hw,fun w'' k1 k2=>by unfold parG;rw[hpo];have k:=h w'' k1 k2;exact⟨k.1.1,k.1.2.1⟩⟩
  ·rw[if_neg (fun h=>hts h.2)]at hpo
   exact ZA (Pw .neq 9 (.tmp 55) (.tmp 56) (K4 (scT S.sc)) (K4 s)) Zt (fun w1 hw h=>Uw (by simpa using hts)) <| ZI true <| ZV (.tuple #[.agg #[Zi 0,Zi 0,.int .u8 0,.int .u8 0,.int .u8 0,.int .u8 0,.slice none 0 0],Zi n,Zi 18]) fun w1 hw h=>⟨((none,0),[]),by rw[X9 hpo,←hn],hw,fun w'' _ _=>par_nil (by rw[hpo])⟩
end
section
open Go.RowKit
--ATNAMES
def solP(k:Co):Pn:=⟨1,k,0,0,0,0,0,[],0,im0,0,Q6⟩
theorem sol_cells(k:Co):∃C:List Value,C.length=40∧X7 (solP k) pm0= .agg C.toArray∧(∀u∈C,u.oneCell'=true)∧C=pnC (solP k) pm0:=
 ⟨pnC (solP k) pm0,by kernel_rfl,by kernel_rfl,List.all_eq_true.1 (show((pnC (solP k) pm0).all fun u=>u.oneCell')=true from by kernel_rfl),rfl⟩
section
variable{w W:World}{g n c:Nat}{A:Option Addr}{ws0:WS}{f:Bool}{cw l:List UInt8}{k:Co}
theorem paint_e(hk:Vn cw=some k)(hR:RE W w g A n c ws0)(hs:Pa ws0 n [Q0,cw])(hb:K5 w g (L8 A n c 2 f)):Calls Tryz.prog 54 #[Zq g 0] w
 (Ng w [g] (fun _:Unit=>X7 (solP k) pm0) fun _ u=>K5 u g (L8 A n c 0 f)):=by
 have lg:=hR.lg
 have hs1:=hs.tail
 have hrd:rdC f [cw]=some (k,[],f):=by show(Vn cw).map (fun c=>(c,[],f))=_;rw[hk];rfl
 refine K0.enterB Tryz.func54 rfl hR.hW lg hb <| ZR <| K0.mut (L:=[g]) (Φ':=fun _ u=>Oh W w g (L8 A n c 1 f) u) (fun w1 hw h=>Oj (hR.next hw h) hs h.2.2) (fun u h=>Kc (cs':=[]) lg u h) (fun _ wa u e1 e2 h hG=>Kk wa u e1 e2 h hG) Zk Zk fun _=>ZS 0 <| ZA (Pw .eql 9 (.tmp 5) (.const (.string ⟨#[115,111,108,105,100]⟩)) (K4 Q0) (K4 [115,111,108,105,100])) Zt (fun w1 hw h=>Kv Zd) <| ZI true <| K0.mut (L:=[g]) (Φ':=fun _ u=>Oh W w g (L8 A n c 0 f) u) (fun w1 hw h=>by have t:=Xg (hR.next hw h) hs1 h.2.2;rw[hrd]at t;exact t) (fun u h=>Kc (cs':=[]) lg u h) (fun _ wa u e1 e2 h hG=>Kk wa u e1 e2 h hG) Zk Zk fun _=>ZR <| K0.mut (L:=[g]) (Φ':=fun _ u=>Oh W w g (L8 A n c 0 f) u) (fun w1 hw h=>end_s hw lg h.2.2) (fun u h=>Kc (cs':=[]) lg u h) (fun _ wa u e1 e2 h hG=>Kk wa u e1 e2 h hG) Zk Zk fun _=>ZR <| ZV (X7 (solP k) pm0) (fun w1 hw h=>Mt hR.hW hw (h w1 (Nat.le_refl _) fun _ _ _=>rfl))
theorem read_e(hM:ML w)(hB:Vp (Ld l)=true)(hl:l.length≤10000)(hws:Lp (Ld l)=[Q0,cw])(hc9:cw.length≤10000)(hk:Vn cw=some k):Zv 25 #[K4 l] w (.tuple #[X7 (solP k) pm0,.bool true]):=by
 obtain⟨C,hCl,hCv,hC1,_⟩:=sol_cells k
 have hsf:=fun(w1:World) (hM:ML w1)=>sf_c (w:=w1) hM hB (show l.length≤10000000 from by omega)
 rw[hws]at hsf
 refine K0.enterD Tryz.func25 rfl (Below.refl _ _) <| ZS 0 <| K0.make (Up 60) (X5) (fun g u=>K5 u g pnZ∧w.heap.size≤g∧g<u.heap.size) Zk (fun w1 hw h=>Zw (z:= .agg pnZ.toArray) Zk hw.size) fun gp=>ZS 1 <| K0.make (Up 4) (X5) (fun g u=>K5 u g [.bool false]∧gp+1≤g∧g<u.heap.size) Zk (fun w1 hw h=>Zw (z:= .bool false) Zk h.2.2.2) fun go=>ZR <| ZC (fun w1 hw h=>hsf w1 (hM.below hw)) fun y=>ZI false <| K0.defer_ ⟨.fn (.func 53) #[Zq gp 0,Zq go 0],#[]⟩ Zk Zk <| ZS 2 ?_
 have hmk:∀w1:World,go<w1.heap.size→L5 w1 y.1 2 [Q0,cw]→max (go+1) (yb y.1)≤w1.heap.size:=fun w1 k1 k2=>by
  obtain⟨ad,q1,q2⟩:=k2.2 0 _ rfl
  have q3:=V9 q2
  rw[Ou]at q3
  rw[q1]
  exact Nat.max_le.2 ⟨k1,q3⟩
 refine K0.make (boxS 118 (.agg #[.slice y.1 2 y.2,.bool false])) (X5) (fun g u=>K5 u g [.slice y.1 2 y.2,.bool false]∧max (go+1) (yb y.1)≤g∧g<u.heap.size) Zk (fun w1 hw h=>make_box (v:= .agg #[.slice y.1 2 y.2,.bool false]) (hmk w1 h.1.2.2.2 h.2.1)) fun gr=>ZR ?_
 have hg:go<max (go+1) (yb y.1):=by omega
 refine K0.mut (g:=54) (args:= #[Zq gr 0]) (L:=[gr]) (val:=fun _:Unit=>X7 (solP k) pm0) (G:=fun _ u=>K5 u gr (L8 y.1 2 y.2 0 false)) (Φ':=fun _ u=>TwoR w gp go pnZ false u∧K5 u gr (L8 y.1 2 y.2 0 false)∧go<gr) (fun w1 hw h=> ?_) (fun u h b hb=> ?_) (fun q wa u e1 e2 h hG=> ?_) Zk Zk (fun q=> ?_)
 ·have k1:=h.1.1.1.2;have k2:=h.1.1.2;have k3:=h.1.2;have k4:=h.2
  refine paint_e (ws0:=[Q0,cw]) hk ⟨hw,by omega,k3.1,fun ad h0 e=> ?_,k3.2,by decide,fun z hz=> ?_⟩ ⟨rfl,Nat.le_refl _⟩ ?_
  ·have k5:=k4.2.1
   rw[e]at k5
   have:ad.block+1≤max (go+1) (yb (some ad)):=Nat.le_max_right _ _
   omega
  ·rcases List.mem_cons.1 hz with rfl|hz
   ·decide
   ·obtain rfl:z=cw:=by simpa using hz
    omega
  ·have e:L8 y.1 2 y.2 2 false=[.slice y.1 2 y.2,.bool false]:=by
    unfold L8 rsl
    rw[Nat.sub_self,stepA_zero,Nat.sub_zero]
   rw[e];exact k4.1
 ·obtain rfl:b=gr:=by simpa using hb
  have k1:=h.1.1.1.2.2.1;have k2:=h.1.1.2.2.1;have k3:=h.2.2.1
  exact⟨by omega,h.2.1.own⟩
 ·have k1:=h.1.1.1.2;have k2:=h.1.1.2;have k3:=h.2.2.1
  exact⟨TwoR.left ⟨k1.1,k2.1,k1.2.1,k2.2.1,k2.2.2⟩ e1 e2 Zo,hG,by omega⟩
 refine ZT 22 (X7 (solP k) pm0) (.agg C.toArray) (hCv) <| K0.mutSt (L:=[gp]) (G:=fun u=>K5 u gp C) (Φ':=fun u=>TwoR w gp go C false u∧K5 u gr (L8 y.1 2 y.2 0 false)∧go<gr) (Om 60 ⟨gp,0,none⟩ (.agg C.toArray)) (fun w1 hw h=>h.1.1.store Zk (by show C.toArray.size=_;simp[hCl];rfl) hC1) (fun u h b hb=> ?_) (fun wa u e1 e2 h hG=> ?_) Zk Zk ?_
 ·obtain rfl:b=gp:=by simpa using hb
  exact⟨h.1.2.2.1,h.1.1.own⟩
 ·have k:=h.1;have k2:=h.2
  have k3:=k.2.2.2.1
  exact⟨⟨hG,k.2.1.left e2 Zp,k.2.2.1,k3,by rw[←e1];exact k.2.2.2.2⟩,k2.1.left e2 Zp,k2.2⟩
 refine ZR <| ZB 0 (Kt 60 ⟨gp,0,none⟩) (.agg C.toArray) (fun w1 hw h=>M1 (vs:=C) Zk (by rw[hCl];kernel_rfl) h.1.1.range) <| ZB 4 (Kt 4 ⟨gr,1,none⟩) Zf (fun w1 hw h=>K6 Zk (by rw[h.2.1.cell];rfl)) <| K0.skipAt 6 (Om 60 ⟨gp,0,none⟩ (.agg C.toArray)) Zk (fun w1 hw h=>store_same h.1.1 rfl (by rw[hCl];kernel_rfl) hC1) <| ZR <| K0.mutStAny (L:=[go]) (G:=fun u=>K5 u go [.bool true]) (Φ':=fun u=>TwoR w gp go C true u) (Om 4 ⟨go,0,none⟩ Zt) (fun w1 hw h=>h.1.2.1.store Zk rfl (by intro u hu;simp[Value.cells]at hu;subst hu;rfl)) (fun u h b hb=> ?_) (fun wa u e1 e2 h hG=> ?_) Zk Zk ?_
 ·obtain rfl:b=go:=by simpa using hb
  have k:=h.1
  exact⟨by have:=k.2.2;omega,k.2.1.own⟩
 ·have k:=h.1
  have k3:=k.2.2.2.1
  exact⟨k.1.left e2 Zp,hG,k.2.2.1,k3,by rw[←e1];exact k.2.2.2.2⟩
 refine ZR <| K0.retD2 (f:=53) (args:= #[Zq gp 0,Zq go 0]) gp go 60 4 Zk Zk (fun w1=>rfl) fun w1 hw h=>(read1_r hw).mono fun e u' w' he=> ?_
 obtain⟨rfl,rfl,hb,hst⟩:=he
 refine⟨rfl,_,_,_,rfl,load_boxN Zk (by rw[hCl];kernel_rfl) (h.1.stay h.2.2.1 hst.2),load_box1 Zk (h.2.1.stay (by have:=h.2.2;omega) hst.2),(),by rw[←hCv],hb,fun _ _ _=>trivial⟩
theorem ppe_m(hM:ML w)(hB:Vp (Ld l)=true)(hl:l.length≤10000)(hws:Lp (Ld l)=[Q0,cw])(hc9:cw.length≤10000)(hk:Vn cw=some k)(hv:L6 (solP k)=true)(hj:Oi (Sp (solP k))=l):Zv 13 #[K4 l] w (.tuple #[X7 (solP k) pm0,Zi 0]):=by
 exact K0.enter Tryz.func13 rfl <| ZR <| ZC (fun w1 hw h=>read_e (hM.below hw) hB hl hws hc9 hk) fun q=>ZI false <| ZD 5 (fun w1 hw h=>by have t:=formatPaint_s (K:=125) hv ((show PAt 0 (solP k) pm0 w1 from⟨K7.nil_,K7.nil_,.inl ⟨(show(1:Int)<2 by decide),rfl,rfl⟩⟩).rd (Nat.le_refl 125)) Zd (Nat.zero_le _);rw[hj]at t;exact t) fun u=>K0.run Zk (stop:=1000) 6 _ <| ZS 5 <| ZA (Pw .neq 9 (.tmp 24) (.tmp 25) (K4 l) (K4 l)) Zf (fun w1 hw h=>Uw Zs) <| ZI false <| ZW (.tuple #[X7 (solP k) pm0,Zi 0])
end
end
section
open Go.RowKit
--ATNAMES
section
variable{w:World}
def paintL:List UInt8:=[115,111,108,105,100,32,35,102,102,56,48,48,48,56,48]
def orange:Co:=(255,128,0,128)
def text1:List UInt8:=[115,99,101,110,101,32,52,32,52,32,35,102,102,102,102,102,102,102,102,10]
def text2:List UInt8:=text1++ [115,104,97,112,101,32,49,32,48,32,110,111,110,122,101,114,111,32,42,10]
def scW:Sc:=⟨4,4,(255,255,255,255),[]⟩
theorem pn_agg(P:Pn)(q:PM):X7 P q= .agg (pnC P q).toArray:=by kernel_rfl
theorem pp_e(hM:ML w):Zv 13 #[K4 paintL] w (.tuple #[.agg (pnC (solP orange) pm0).toArray,Zi 0]):=by
 refine(ppe_m (w:=w) (l:=paintL) (cw:=[35,102,102,56,48,48,48,56,48]) (k:=orange) hM (by decide+kernel) Zd (by decide+kernel) Zd (by decide+kernel) (by decide+kernel) (by decide+kernel)).mono fun e w' h=> ?_
 obtain⟨x,h1,h2,h3⟩:=h
 exact⟨x,h1.trans (congrArg (fun v=>Ending.returned (.tuple #[v,Zi 0])) (pn_agg (solP orange) pm0)),h2,fun _ _ _=>trivial⟩
theorem pt1:M3 text1=(scW,0,0):=by kernel_rfl
theorem pt2:M3 text2=(sc0,2,3):=by kernel_rfl
theorem few0{s:List UInt8}(h:(s.length≤6000)):s.getLast? =some 10→∀S,Pq ts0 0 (Mm s)= .inr S→∀N∈S.nds,Fw N:=
 fun _ S e=>all_few (fun l hl=>Nat.le_trans ((lines_sm s).1 l hl) h) (fun M hM=>by cases hM) e
theorem par_e{s:List UInt8}{sc:Sc}{n:Nat}{e:Int}(hE:ET w)(hM:ML w)(hl:s.length≤6000)(hp:M3 s=(sc,n,e)):Calls Tryz.prog 9 #[K4 s] w (K8 w (fun q:PX=> .tuple #[soV sc q.1,Zi n,Zi e]) fun q u=>Yx u q.1.1 q.2 125 sc.nds∧sc.nds.length≤q.1.2):=
 (parse_t hE hM Zo (few0 hl)).mono fun e w' h=>by
  obtain⟨q,h1,h2,h3⟩:=h
  unfold parV parG at*
  rw[hp]at h1 h3
  exact⟨q,h1,h2,h3⟩
theorem format_e(hE:ET w):Zv 7 #[soV scW (none,0)] w (.tuple #[K4 text1,Zi 0]):=by
 have t:=Y8 (w:=w) (S:=scW) (y:=(none,0)) (nl:=[]) (K:=2) hE ⟨rfl,Od.nil_,fun x hx=>by cases hx⟩ (fun N hN=>by cases hN) (fun N hN=>by cases hN) Zd Zd Zk
 rw[show outV scW= .tuple #[K4 text1,Zi 0] by kernel_rfl]at t
 exact t
theorem Rj(hE:ET w)(hM:ML w):Zv 6 #[] w Zt:=by
 exact K0.enter Tryz.func6 rfl <| ZR <| ZC (fun w1 hw h=>par_e (s:=text1) (hE.below hw) (hM.below hw) Zd pt1) fun a=>ZC (fun w1 hw h=>format_e (hE.below hw)) fun _=>ZC (fun w1 hw h=>par_e (s:=text2) (hE.below hw) (hM.below hw) Zd pt2) fun c=>ZD 20 (fun w1 hw h=>pp_e (hM.below hw)) fun q=>K0.ask (eqP 23 (.tmp 51) (.tmp 52) (Te (255,255,255,255)) (Te (255,255,255,255))) Zt Zk (fun w1 hw h=>Pv Zs) <| ZS 57 <| ZA (eqP 23 (.tmp 88) (.tmp 89) (Te (255,128,0,128)) (Te (255,128,0,128))) Zt (fun w1 hw h=>Pv Zs) <| ZW Zt
end
end
theorem u8_eq10(b:UInt8):(((b.toNat:Nat):Int)==10)=(b==10):=by
 by_cases h:b=10
 ·subst h;rfl
 ·have h2:b.toNat≠10:=fun e=>h (UInt8.toNat_inj.1 e)
  rw[beq_eq_false_iff_ne.2 h,beq_eq_false_iff_ne.2 Zo]
section
variable{w:World}{s m:List UInt8}
theorem rd_no3(h:(M3 s).2.2=3)(hl:s.length≤65536)(h10:s.getLast? =some 10){S:TS}:Pq ts0 0 (Mm s)≠ .inr S:=fun e=>by
 unfold M3 at h
 rw[if_neg Zo,if_neg (fun k=>k h10),e]at h
 have h:(if 0≤S.far then(sc0,S.far.toNat,6)else if Zb S.sc=true∧scT S.sc=s then(S.sc,0,0)else(sc0,(Mm s).length,18):Sc×Nat×Int).2.2=3:=h
 split at h
 ·exact absurd (show(6:Int)=3 from h) Zd
 ·split at h
  ·exact absurd (show(0:Int)=3 from h) Zd
  ·exact absurd (show(18:Int)=3 from h) Zd
theorem parse_bad(hE:ET w)(hM:ML w)(hl:s.length≤65536){n:Nat}(hp:M3 s=(sc0,n,3)):Calls Tryz.prog 9 #[K4 s] w (K8 w (fun q:PX=> .tuple #[soV sc0 q.1,Zi n,Zi 3]) fun _ _=>True):=
 (parse_t hE hM hl fun h10 S e=>absurd e (rd_no3 (by rw[hp]) hl h10)).mono fun e w' h=>by
  obtain⟨q,h1,h2,h3⟩:=h
  refine⟨q,?_,h2,fun _ _ _=>trivial⟩
  rw[h1]
  unfold parV
  rw[hp]
theorem lawCanon45(hE:ET w)(hM:ML w):Zv 4 #[K4 s,K4 m] w Zt:=by
 refine K0.enter Tryz.func4 rfl <| ZS 4 ?_
 by_cases hs:s.length≤6000
 rotate_left
 ·exact ZT 22 (.bool (decide ((s.length:Int)>6000))) Zt (by rw[decide_eq_true Zo]) <| ZI true <| ZC (fun w1 hw h=>Rj (hE.below hw) (hM.below hw)) fun u=>ZW Zt
 refine ZT 22 (.bool (decide ((s.length:Int)>6000))) Zf (by rw[decide_eq_false Zo]) ?_
 by_cases hm:m.length≤200
 rotate_left
 ·exact ZJ (decide ((m.length:Int)>200)) true (decide_eq_true Zo) <| ZC (fun w1 hw h=>Rj (hE.below hw) (hM.below hw)) fun u=>ZW Zt
 refine ZJ (decide ((m.length:Int)>200)) false (decide_eq_false Zo) ?_
 obtain⟨⟨sc,at_,e⟩,hp⟩:∃x,M3 s=x:=⟨_,rfl⟩
 refine K0.callv (X:=PX) (val:=fun q=> .tuple #[soV sc q.1,Zi at_,Zi e]) (G:=fun q u=>Yx u q.1.1 q.2 125 sc.nds∧sc.nds.length≤q.1.2) (fun w1 hw h=>(parse_t (s:=s) (hE.below hw) (hM.below hw) Zo fun h10 S e=>all_few (fun l hl=>Nat.le_trans ((lines_sm s).1 l hl) hs) (fun M hM=>by cases hM) e).mono fun e w' h=>by
  obtain⟨q,h1,h2,h3⟩:=h
  unfold parV parG at*
  rw[hp]at h1 h3
  exact⟨q,h1,h2,h3⟩) Zk (fun q=> ?_)
 by_cases he:e=0
 rotate_left
 ·have hz:sc=sc0:=by have:=parse_no (s:=s) (by rw[hp];exact he);rw[hp]at this;exact this
  subst hz
  exact ZR <| ZJ ((!(e==0))) true (by simpa using he) <| ZC (fun w1 hw h=>Rj (hE.below hw) (hM.below hw)) fun u=>ZW Zt
 subst he
 have C:=parse_ok (s:=s) (by rw[hp])
 have c1:=C.at_
 have c2:=C.ok
 have c3:=C.eq
 rw[hp]at c1 c2 c3
 obtain rfl:at_=0:=c1
 have c2:Zb sc=true:=c2
 have c3:scT sc=s:=c3
 have hfw:∀N∈sc.nds,Fw N:=by
  obtain⟨S,h1,h2⟩:=C.rd
  rw[hp]at h2
  have h2:sc=S.sc:=h2
  rw[h2]
  exact all_few (fun l hl=>Nat.le_trans ((lines_sm s).1 l hl) hs) (fun M hM=>by cases hM) h1
 refine ZR <| ZI false <| K0.callv (val:=fun _:Unit=> .tuple #[K4 s,Zi 0]) (G:=fun _ _=>True) (fun w1 hw h=>by have t:=Y8 (S:=sc) (y:=q.1) (hE.below hw) h.2.1 (fun N hN=>(hfw N hN).1) (fun N hN=>(hfw N hN).2) (sc_parts c2).2.1 Zd c2;unfold outV at t;rw[c3,if_pos Zo]at t;exact t) Zk fun _=>ZS 9 <| ZA (Pw .neq 9 (.tmp 60) (.tmp 61) (K4 s) (K4 s)) Zf (fun w1 hw h=>Uw Zs) <| ZC (fun w1 hw h=>rsvalid_v (S:=sc) (y:=q.1) h.1.2.1 (fun N hN=>(hfw N hN).1) Zd h.1.2.2 c2) fun _=>K0.cond false Zk <| ZS 2 <| ZA (Pw .add 9 (.tmp 70) (.tmp 71) (K4 s) (K4 s)) (K4 (s++s)) (fun w1 hw h=>T7 Zo) <| ZD 1 (fun w1 hw h=>parse_bad (s:=s++s) (hE.below hw) (hM.below hw) Zp (canon_self C Zp)) fun q2=>K0.ask (Pw .add 9 (.tmp 78) (.const (.string ⟨#[120]⟩)) (K4 s) (K4 [120])) (K4 (s++ [120])) Zk (fun w1 hw h=>T7 Zp) <| ZS 3 <| ZA (Pw .add 9 (.tmp 79) (.tmp 80) (K4 (s++ [120])) (K4 m)) (K4 (s++120::m)) (fun w1 hw h=>by rw[T7 Zp];simp) ?_
 obtain⟨kz,hkz⟩:∃kz,kz=if m.getLast? =some 10 then s.count 10 else 0:=⟨_,rfl⟩
 refine ZC (fun w1 hw h=>parse_bad (s:=s++120::m) (n:=kz) (hE.below hw) (hM.below hw) Zp (by rw[hkz];exact canon_x C Zp)) fun q3=>K0.loop (ι:={q:Nat // q≤s.length}) 139 (fun q=>⟨[(0,.v (K4 s)),(1,.v (K4 m)),(4,.v Zf),(11,.v (Zi (s.count 10:Nat))),(12,.v (Zi 3)),(14,.v (Zi kz)),(15,.v (Zi 3)),(16,.v (Zi ((s.take q.1).count 10:Nat))),(87,.v (Zi s.length)),(88,.v (Zi q.1))],[]⟩) (fun q u=>True) (fun q=>s.length-q.1) (⟨0,Nat.zero_le _⟩) Zk (fun _=>by kernel_rfl) ⟨Zk,Zk,Zk⟩ (fun u h=>trivial) ?_
 rintro⟨i,hi⟩ gg
 have hi:i≤s.length:=hi
 by_cases hlt:i<s.length
 ·obtain⟨b,hb⟩:∃b,s[i]? =some b:=⟨_,List.getElem?_eq_getElem hlt⟩
  have ht:s.take (i+1)=s.take i++ [b]:=by rw[List.take_add_one,hb];rfl
  have hc:(s.take i).count 10≤i:=Nat.le_trans List.count_le_length Zp
  refine ZR <| K0.condr (decide ((i:Int)<(s.length:Int))) true Zk Zp <| ZS 2 <| ZA (ixS 9 (K4 s) i) (.int .u8 b.toNat) (fun w1 hw h=>Qh Zk hb) ?_
  by_cases h10:b=10
  ·refine ZJ ((((b.toNat:Nat):Int)==10)) true (by rw[u8_eq10];simpa using h10) <| K0.slot 16 (Zi (IntKind.i64.wrap ((((s.take i).count 10:Nat):Int)+1))) (Zi ((s.take (i+1)).count 10:Nat)) Zk (by rw[ht,List.count_append,h10,IntWalk.i64_in _ Zo];rfl) <| K0.slot 88 (Zi (IntKind.i64.wrap ((i:Int)+1))) (Zi ((i+1:Nat):Int)) Zk (by rw[Ki hlt Zo]) <| K0.next (⟨i+1,hlt⟩) Zk (by show s.length- (i+1)<s.length-i;omega) ⟨Zk,Zk,Zk⟩ (fun _ _=>trivial)
  ·refine ZJ ((((b.toNat:Nat):Int)==10)) false (by rw[u8_eq10];simpa using h10) <| K0.slot 16 (Zi ((s.take i).count 10:Nat)) (Zi ((s.take (i+1)).count 10:Nat)) Zk (by rw[ht,List.count_append,List.count_singleton,if_neg (by simpa using h10),Nat.add_zero]) <| K0.slot 88 (Zi (IntKind.i64.wrap ((i:Int)+1))) (Zi ((i+1:Nat):Int)) Zk (by rw[Ki hlt Zo]) <| K0.next (⟨i+1,hlt⟩) Zk (by show s.length- (i+1)<s.length-i;omega) ⟨Zk,Zk,Zk⟩ (fun _ _=>trivial)
 obtain rfl:i=s.length:=by omega
 refine ZR <| ZJ (decide ((s.length:Int)<(s.length:Int))) false Zs <| K0.leave Zk <| ZS 4 <| K0.slot 16 (Zi ((s.take s.length).count 10:Nat)) (Zi (s.count 10:Nat)) Zk (by rw[List.take_length]) ?_
 by_cases hz:m=[]
 ·rw[if_neg (by rw[hz];decide)]at hkz
  subst hkz
  exact K0.slot 101 (.bool (decide ((m.length:Int)>0))) Zf Zk (by rw[hz];rfl) <| ZS 0 <| ZS 6 <| ZT 114 (.bool (((s.count 10:Nat):Int)==((s.count 10:Nat):Int))) Zt (by rw[beq_iff_eq.2 rfl]) <| ZC (fun w1 hw h=>Rj (hE.below hw) (hM.below hw)) fun u=>ZW Zt
 have hml:0<m.length:=List.length_pos_iff.2 hz
 obtain⟨b,hb⟩:∃b,m[m.length-1]? =some b:=⟨_,List.getElem?_eq_getElem Zo⟩
 have hgl:m.getLast? =some b:=by rw[List.getLast?_eq_getElem?,hb]
 rw[hgl]at hkz
 refine K0.slot 101 (.bool (decide ((m.length:Int)>0))) Zt Zk (by rw[decide_eq_true Zo]) <| ZS 8 <| K0.slot 105 (Zi (IntKind.i64.wrap ((m.length:Int)-1))) (Zi ((m.length-1:Nat):Int)) Zk (by rw[IntWalk.i64_in _ Zo];congr 1;omega) <| K0.ask (ixS 9 (K4 m) (m.length-1:Nat)) (.int .u8 b.toNat) Zk (fun w1 hw h=>Qh Zk hb) <| ZS 10 ?_
 by_cases h10:b=10
 ·rw[if_pos (by rw[h10])]at hkz
  subst hkz
  exact K0.slot 107 (.bool (((b.toNat:Nat):Int)==10)) Zt Zk (by rw[u8_eq10,h10];rfl) <| ZS 0 <| ZS 6 <| K0.slot 114 (.bool (((s.count 10:Nat):Int)==((s.count 10:Nat):Int))) Zt Zk (by rw[beq_iff_eq.2 rfl]) <| ZS 17 <| ZT 125 (.bool (((s.count 10:Nat):Int)==((s.count 10:Nat):Int))) Zt (by rw[beq_iff_eq.2 rfl]) <| ZC (fun w1 hw h=>Rj (hE.below hw) (hM.below hw)) fun u=>ZW Zt
 ·rw[if_neg (by simpa using h10)]at hkz
  subst hkz
  exact K0.slot 107 (.bool (((b.toNat:Nat):Int)==10)) Zf Zk (by rw[u8_eq10];simpa using h10) <| ZS 0 <| ZS 6 <| ZT 114 (.bool (((s.count 10:Nat):Int)==((s.count 10:Nat):Int))) Zt (by rw[beq_iff_eq.2 rfl]) <| ZC (fun w1 hw h=>Rj (hE.below hw) (hM.below hw)) fun u=>ZW Zt
theorem rowCanon45{s m:ByteArray}(hE:ET w)(hM:ML w):Calls Tryz.prog 4 #[.string s,.string m] w (Done w):=(lawCanon45 (s:=s.data.toList) (m:=m.data.toList) hE hM).mono fun _ _ h=>law_done h
end
end Go.Proofs.YtoeiphicmcndlaaGreatDoor
