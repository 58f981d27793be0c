/-
 Scenes as text: the line that begins a node.
-/
import Derived.Test.YtoeiphicmcndlaaGreatDoorCA
namespace Go.Proofs.YtoeiphicmcndlaaGreatDoor
set_option maxRecDepth 100000
set_option maxHeartbeats 8000000
set_option linter.unusedVariables false
set_option linter.unusedSimpArgs false
open Go.RowKit
@[reducible] def Y6(W H r g b a:Int)(l:Value)(wh ln far:Int):List Value:=[Zi W,Zi H,.int .u8 r,.int .u8 g,.int .u8 b,.int .u8 a,l,Zi wh,Zi ln,Zi far]
section
variable{W w:World}{gt gr:Nat}{a1 a2 a3 a4 a5 a6 a7 a8 a9:Int}
theorem B1{z:Int}(hW:Below W.heap.size W w):Calls Tryz.prog 77 #[Zq gt 0,Zi z,.bool false] w (Us w [] Qn):=by
 refine K0.enterW Tryz.func77 rfl hW <| ZR <| ZI true <| K0.throw (Instr.panic Ke >>= fun v=>pure (.value v)) Ke Zk (fun w1 hw h=>by simp[Instr.panic,Ke,Go.goPanic]) Zk ?_
 exact K0.pan fun w1 hw h=>⟨rfl,⟨hw.os.trans hW.os.symm,hw.tape.trans hW.tape.symm,hw.output.trans hW.output.symm,h.1,fun k hk _=>by
  rcases Nat.lt_or_ge k W.heap.size with h4|h4
  ·rw[hw.block k h4,hW.block k h4]
  ·exact h.2 k h4 hk⟩⟩
theorem last_m{m cap:Nat}{ad:Addr}(hm:m<1000000)(hb:K5 w gt (Y6 a1 a2 a3 a4 a5 a6 (.slice (some ad) (m+1) cap) a7 a8 a9)):Zv 138 #[Zq gt 0] w (.pointer (some (ad.add (m*47)))):=by
 exact K0.enter Tryz.func138 rfl <| ZR <| ZB 4 (L5 24 ⟨gt,6,none⟩) (.slice (some ad) (m+1) cap) (fun w1 hw h=>K8 Zk (by rw[(hb.below hw).cell];rfl)) <| ZB 9 (L5 24 ⟨gt,6,none⟩) (.slice (some ad) (m+1) cap) (fun w1 hw h=>K8 Zk (by rw[(hb.below hw).cell];rfl)) <| K0.slot 14 (Zi (IntKind.i64.wrap (((m+1:Nat):Int)-1))) (Zi (m:Int)) Zk (by rw[IntWalk.i64_in _ Zo];congr 1;omega) <| ZA (Kj 24 (.slice (some ad) (m+1) cap) m) (.pointer (some (ad.add (m*47)))) (fun w1 hw h=>Yc (elem:=52) Zk Zk Zo) <| ZW (.pointer (some (ad.add (m*47))))
end
section
variable{P:Program}{Δ:List Deferred}{W:World}{Q:Exit→Act→World→Prop}{Φ Φ':World→Prop}{c:Nn}
def PanG(w:World)(L:List Nat)(ch:List PanicEntry)(G:World→Prop)(e:Ending)(w':World):Prop:=
 e= .panicked ch∧Chg L w w'∧∀w'',w'.heap.size≤w''.heap.size→(∀b,b∈L∨(w.heap.size≤b∧b<w'.heap.size)→w''.heap[b]? =w'.heap[b]?)→G w''
theorem K0.mutxG{G:World→Prop}{L:List Nat}{g:FuncId}{args:Array Value}{ch:List PanicEntry}
 (hs:∀w,Below W.heap.size W w→Φ w→Calls P g args w (PanG w L ch G)) (hL:Yx W L Φ) (hΦ:Ej L Φ G Φ')
 (hf:Qj c=true) (hc:Lk P c=some (g,args)) (h:K0 P Δ W Q Φ' (amPan ch c)):K0 P Δ W Q Φ c:=by
 obtain⟨foc,k,σ⟩:=c
 replace h:=h.get
 refine⟨?_⟩
 unfold Lk at hc
 split at hc
 ·rename_i g' xs hn
  split at hc
  ·rename_i vs hv
   injection hc with hc
   injection hc with h1 h2
   subst h1;subst h2
   unfold Sn at hn
   split at hn
   ·rename_i ops o ho
    split at hn
    ·rename_i hw
     unfold O7 at ho
     simp only at ho
     split at ho
     ·rename_i ops' i l
      cases hoi:ops'[i]? with
      |none=>rw[hoi]at ho;cases ho
      |some o'=>
       rw[hoi]at ho
       simp only[Option.map_some,Option.some.injEq,Prod.mk.injEq]at ho
       obtain⟨rfl,rfl⟩:=ho
       intro hwf β a w hr
       show wpOps P ops' (post P Q k) (i::l) a w
       rw[wpOps_cons]
       unfold wpOp
       simp only[hoi,M4 hr,hw,if_true]
       refine .inl ?_
       unfold Oper.wp
       rw[Vn hn hr,Pf hv]
       refine Calls.mono (hs w hr.bel hr.phi) fun e w' he=> ?_
       obtain⟨rfl,hch,hG⟩:=he
       exact h hwf β _ w' (hr.mut hL hch hG hΦ)
     ·cases hf
     ·cases ho
    ·cases hn
   ·cases hn
  ·cases hc
 ·cases hc
end
def Vv{D X:Type}(w:World)(L:List Nat)(ch:List PanicEntry)(G0:World→Prop)(o:Option D)(val:D→X→Value)(G:D→X→World→Prop)(e:Ending)(w':World):Prop:=
 match o with
 |none=>PanG w L ch G0 e w'
 |some d=>Nm w L (val d) (G d) e w'
structure TE(W w:World)(gt gr:Nat)(LL:List Nat)(A:Option Addr)(n c:Nat)(ws0:WS):Prop where
 hW:Below W.heap.size W w
 str:L3 w A n ws0
 lt:W.heap.size≤gt
 lr:W.heap.size≤gr
 ne:gt≠gr
 nA:∀b∈bl A,b≠gt∧b≠gr∧b∉LL
 hn:n≤c
 hn2:n≤1000000
 len:∀y∈ws0,y.length≤65536
structure Tm(W w:World)(gt gr:Nat)(LL:List Nat)(tc rc:List Value)(u:World):Prop where
 sz:w.heap.size≤u.heap.size
 fr:∀b,W.heap.size≤b→b<w.heap.size→b≠gt→b≠gr→b∉LL→u.heap[b]? =w.heap[b]?
 bt:K5 u gt tc
 br:K5 u gr rc
structure Tp(W w:World)(gt gr:Nat)(LL:List Nat)(tc:List Value)(u:World):Prop where
 sz:w.heap.size≤u.heap.size
 fr:∀b,W.heap.size≤b→b<w.heap.size→b≠gt→b≠gr→b∉LL→u.heap[b]? =w.heap[b]?
 bt:K5 u gt tc
section
variable{W w wa u:World}{gt gr n c:Nat}{LL:List Nat}{A:Option Addr}{ws0 rest:WS}{f:Bool}{tc rc tc2 rc2:List Value}
theorem Tm.mr(T:TE W w gt gr LL A n c ws0)(e1:wa.heap.size=u.heap.size)(e2:∀b,b∉[gr]→wa.heap[b]? =u.heap[b]?)(h:Tm W w gt gr LL tc rc wa)(hG:K5 u gr rc2):Tm W w gt gr LL tc rc2 u:=
 ⟨by rw[←e1];exact h.sz,fun b h1 h2 h3 h4 h5=>(e2 b (by simpa using h4)).symm.trans (h.fr b h1 h2 h3 h4 h5),h.bt.to (e2 gt (by simpa using T.ne)).symm,hG⟩
theorem Tm.mp(T:TE W w gt gr LL A n c ws0)(e1:wa.heap.size=u.heap.size)(e2:∀b,b∉[gr]→wa.heap[b]? =u.heap[b]?)(h:Tm W w gt gr LL tc rc wa):Tp W w gt gr LL tc u:=
 ⟨by rw[←e1];exact h.sz,fun b h1 h2 h3 h4 h5=>(e2 b (by simpa using h4)).symm.trans (h.fr b h1 h2 h3 h4 h5),h.bt.to (e2 gt (by simpa using T.ne)).symm⟩
theorem Tm.mt(T:TE W w gt gr LL A n c ws0)(e1:wa.heap.size=u.heap.size)(e2:∀b,b∉[gt]→wa.heap[b]? =u.heap[b]?)(h:Tm W w gt gr LL tc rc wa)(hG:K5 u gt tc2):Tm W w gt gr LL tc2 rc u:=
 ⟨by rw[←e1];exact h.sz,fun b h1 h2 h3 h4 h5=>(e2 b (by simpa using h3)).symm.trans (h.fr b h1 h2 h3 h4 h5),hG,h.br.to (e2 gr (by simpa using T.ne.symm)).symm⟩
theorem Tm.ownr(T:TE W w gt gr LL A n c ws0):∀u,Tm W w gt gr LL tc rc u→∀b∈[gr],W.heap.size≤b∧∃xs ty own,u.heap[b]? =some (.cells xs ty own):=fun u h b hb=>by
 obtain rfl:b=gr:=by simpa using hb
 exact⟨T.lr,h.br.own⟩
theorem Tm.ownt(T:TE W w gt gr LL A n c ws0):∀u,Tm W w gt gr LL tc rc u→∀b∈[gt],W.heap.size≤b∧∃xs ty own,u.heap[b]? =some (.cells xs ty own):=fun u h b hb=>by
 obtain rfl:b=gt:=by simpa using hb
 exact⟨T.lt,h.bt.own⟩
theorem Tm.re(T:TE W w gt gr LL A n c ws0)(hu:Below W.heap.size W u)(h:Tm W w gt gr LL tc rc u):RE W u gr A n c ws0:=
 ⟨hu,T.lr,⟨T.str.1,fun k s hk=>by
  obtain⟨ad,h1,h2⟩:=T.str.2 k s hk
  refine⟨ad,h1,Zw h2 ?_⟩
  have hb:=T.nA ad.block (by rw[h1];simp[bl])
  have hlt:=Xg h2
  rw[Ov]at hlt
  rw[Ov]
  rcases Nat.lt_or_ge ad.block W.heap.size with h3|h3
  ·rw[hu.block _ h3,T.hW.block _ h3]
  ·exact h.fr _ h3 hlt hb.1 hb.2.1 hb.2.2⟩,fun ad _ hA=>(T.nA ad.block (by rw[hA];simp[bl])).2.1,T.hn,T.hn2,T.len⟩
theorem Tm.start(T:TE W w gt gr LL A n c ws0)(ht:K5 w gt tc)(hr:K5 w gr rc)(u:World)(h:w.heap.size≤u.heap.size∧∀b,W.heap.size≤b→b<w.heap.size→u.heap[b]? =w.heap[b]?):Tm W w gt gr LL tc rc u:=
 ⟨h.1,fun b h1 h2 _ _ _=>h.2 b h1 h2,ht.stay T.lt h.2,hr.stay T.lr h.2⟩
theorem rdM_{D:Type}{Δ:List Deferred}{Q:Exit→Act→World→Prop}{F:World→Prop}{q:Option D}{vq:D→Value}{rs:D→WS}{fl:D→Bool}{e:FuncId}{args:Array Value}{c0:Nn}(T:TE W w gt gr LL A n c ws0)
 (hc:∀w1,RE W w1 gr A n c ws0→K5 w1 gr (L7 A n c rest.length f)→Calls Tryz.prog e args w1 (Ld w1 [gr] Qn q (fun d (_:Unit)=>vq d) (fun d _ u=>K5 u gr (L7 A n c (rs d).length (fl d)))))
 (hF:∀wa u:World,wa.heap.size=u.heap.size→(∀b,b∉[gr]→wa.heap[b]? =u.heap[b]?)→Tm W w gt gr LL tc (L7 A n c rest.length f) wa→F wa→F u)
 (hp:q=none→K0 Tryz.prog Δ W Q (Tp W w gt gr LL tc) (amPan Qn c0))
 (hk:∀d,q=some d→K0 Tryz.prog Δ W Q (fun u=>Tm W w gt gr LL tc (L7 A n c (rs d).length (fl d)) u∧F u) (Lw Tryz.prog 1000 1000 (Le (.v (vq d)) c0)))
 (hf:Qj c0=true:=by kernel_rfl) (hc2:Lk Tryz.prog c0=some (e,args):=by kernel_rfl):K0 Tryz.prog Δ W Q (fun u=>Tm W w gt gr LL tc (L7 A n c rest.length f) u∧F u) c0:=by
 cases hq:q with
 |none=>exact K0.mutx (L:=[gr]) (Φ':=Tp W w gt gr LL tc) (fun w1 hw h=>by have t:=hc w1 (h.1.re T hw) h.1.br;rw[hq]at t;exact t) (fun u h=>Tm.ownr T u h.1) (fun wa u e1 e2 h _=>h.1.mp T e1 e2) hf hc2 (hp hq)
 |some d=>exact K0.mut (L:=[gr]) (Φ':=fun _ u=>Tm W w gt gr LL tc (L7 A n c (rs d).length (fl d)) u∧F u) (fun w1 hw h=>by have t:=hc w1 (h.1.re T hw) h.1.br;rw[hq]at t;exact t) (fun u h=>Tm.ownr T u h.1) (fun _ wa u e1 e2 h hG=>⟨h.1.mr T e1 e2 hG,hF wa u e1 e2 h.1 h.2⟩) hf hc2 (fun _=>K0.run Zk 1000 _ (hk d hq))
def Qw(gt:Nat)(ln:Int)(u:World):Prop:=∃cs,K5 u gt cs∧cs.length=10∧cs[8]? =some (Zi ln)
theorem Tp.pan{w1:World}{ln:Int}(T:TE W w gt gr LL A n c ws0)(hw:Below W.heap.size W w1)(h:Tp W w gt gr LL tc w1)(hl:tc.length=10)(h8:tc[8]? =some (Zi ln)):PanG w (gt::gr::LL) Qn (Qw gt ln) (.panicked Qn) w1:=
 ⟨rfl,⟨hw.os.trans T.hW.os.symm,hw.tape.trans T.hW.tape.symm,hw.output.trans T.hW.output.symm,h.sz,fun k hk hkl=>by
  simp only[List.mem_cons,not_or]at hkl
  rcases Nat.lt_or_ge k W.heap.size with h4|h4
  ·rw[hw.block k h4,T.hW.block k h4]
  ·exact h.fr k h4 hk hkl.1 hkl.2.1 hkl.2.2⟩,fun w'' k1 k2=>⟨tc,h.bt.to (k2 gt (.inl Zs)),hl,h8⟩⟩
end
section
variable{W w:World}{gt gr n c m:Nat}{A:Option Addr}{y:Option Addr×Nat}{ws0 rest:WS}{f:Bool}{a1 a2 a3 a4 a5 a6 a9 wh:Int}{ln:Nat}
def Eb(p:Option Addr×Nat):ND:=⟨Gg,none,0,p.1,p.2,none,0,[],none,0,none,0,[],none,0⟩
section
variable{u:World}{B s n:Nat}{e:TypeId}{y:Option Addr×Nat}{xs:List Value}
theorem mut_new{P:Program}{sm:Sem Next}(ha:Ot P u (bl y.1) (fun z:Option Addr×Nat=> .slice z.1 n z.2) (fun z v=>K6 v B e s z.1 n z.2 xs) sm){R:Option Addr×Nat→Prop}(hR:∀z,(∀b∈bl z.1,b∈bl y.1∨u.heap.size≤b)→R z):
 Ot P u (bl y.1) (fun z:Option Addr×Nat=> .slice z.1 n z.2) (fun z v=>K6 v B e s z.1 n z.2 xs∧R z) sm:=by
 obtain⟨z,w',h1,h2,h3⟩:=ha
 refine⟨z,w',h1,h2,fun w'' k1 k2=>⟨h3 w'' k1 k2,hR z fun b hb=> ?_⟩⟩
 by_cases hne:b∈bl y.1
 ·exact .inl hne
 right
 rcases Nat.lt_or_ge b u.heap.size with hlt|hge
 case inr=>exact hge
 exfalso
 have hz0:=h3 w' (Nat.le_refl _) fun _ _=>rfl
 have hlt':b<w'.heap.size:=(hz0.lt b hb).2
 have hz2:=h3 {w' with heap:=w'.heap.setIfInBounds b (.pending #[] 0)} Zs fun k hk=>by
  rw[Array.getElem?_setIfInBounds_ne]
  intro hc
  subst hc
  rcases hk with hk|hk
  ·exact hne hk
  ·omega
 obtain⟨_,cs,ty,own,h5⟩:=hz2.blk b hb
 rw[Array.getElem?_setIfInBounds_self_of_lt hlt']at h5;cases h5
end
theorem app_no{u:World}{N:Nd}{q:ND}{B gb:Nat}{xs:List Value}(ho:K6 u B 52 47 y.1 m y.2 xs)(hB:B≤u.heap.size)(hg:L4 52 (X9 N q).toArray gb u)(hm:m<1000000)(h1:(X9 N q).all (fun v=>v.oneCell')=true){Rz:Option Addr×Nat→Prop}(hR:∀z,(∀b∈bl z.1,b∈bl y.1∨u.heap.size≤b)→Rz z):
 Ot Tryz.prog u (bl y.1) (fun z:Option Addr×Nat=> .slice z.1 (m+1) z.2) (fun z v=>K6 v B 52 47 z.1 (m+1) z.2 (xs++X9 N q)∧Rz z) (M9 24 24 (.slice y.1 m y.2) (Kf 1 gb)):=by
 have ha:=O3 (P:=Tryz.prog) (s:=47) (z:=Gv Ga (Eb (none,0))) (bytes:=656) (m:=1) (cc:=1) (t:=24) (elem:=52) Zk Zk Zk Zd ho hB (N5 (n:=1) hg Zk) (fun v hv=>List.all_eq_true.1 h1 v (by simpa using hv)) Zo Zd
 exact mut_new (y:=y) ha hR
theorem Ix{D D2 X2:Type}{tc:List Value}{LL:List Nat}{fn:Func}{o2:Option D2}{val2:D2→X2→Value}{G2:D2→X2→World→Prop}{F:World→Prop}{q:Option D}{vq:D→Value}{rs:D→WS}{fl:D→Bool}{e:FuncId}{args:Array Value}{c0:Nn}{z:Int}(T:TE W w gt gr LL A n c ws0)
 (hc:∀w1,RE W w1 gr A n c ws0→K5 w1 gr (L7 A n c rest.length f)→Calls Tryz.prog e args w1 (Ld w1 [gr] Qn q (fun d (_:Unit)=>vq d) (fun d _ u=>K5 u gr (L7 A n c (rs d).length (fl d)))))
 (hF:∀wa u:World,wa.heap.size=u.heap.size→(∀b,b∉[gr]→wa.heap[b]? =u.heap[b]?)→Tm W w gt gr LL tc (L7 A n c rest.length f) wa→F wa→F u)
 (hn:q=none→o2=none) (hl:tc.length=10) (h8:tc[8]? =some (Zi z))
 (hk:∀d,q=some d→K0 Tryz.prog [] W (bodyPost Tryz.prog fn (Vv w (gt::gr::LL) Qn (Qw gt z) o2 val2 G2)) (fun u=>Tm W w gt gr LL tc (L7 A n c (rs d).length (fl d)) u∧F u) (Lw Tryz.prog 1000 1000 (Le (.v (vq d)) c0)))
 (hf:Qj c0=true:=by kernel_rfl) (hc2:Lk Tryz.prog c0=some (e,args):=by kernel_rfl):K0 Tryz.prog [] W (bodyPost Tryz.prog fn (Vv w (gt::gr::LL) Qn (Qw gt z) o2 val2 G2)) (fun u=>Tm W w gt gr LL tc (L7 A n c rest.length f) u∧F u) c0:=
 rdM_ T hc hF (fun e=>K0.pan fun w1 hw h=>by rw[hn e];exact Tp.pan T hw h hl h8) hk hf hc2
theorem We{tc:List Value}{z:Int}(hW:Below W.heap.size W w)(lg:W.heap.size≤gt)(hb:K5 w gt tc)(hl:7<tc.length):Calls Tryz.prog 77 #[Zq gt 0,Zi z,.bool true] w (Nm w [gt] (fun _:Unit=> .tuple #[]) fun _ u=>K5 u gt (tc.set 7 (Zi z))):=by
 refine K0.enterB Tryz.func77 rfl hW lg hb <| ZR <| ZI false <| K0.mutSt (L:=[gt]) (G:=fun u=>K5 u gt (tc.set 7 (Zi z))) (Φ':=Om W w gt (tc.set 7 (Zi z))) (Tc 3 ⟨gt,7,none⟩ (Zi z)) (fun w1 hw h=>h.2.2.store1 (j:=7) Zk rfl hl rfl) (fun u h=>K9 (cs':=[]) lg u h) (fun wa u e1 e2 h hG=>Kg wa u e1 e2 h hG) Zk Zk <| ZR <| ZV (.tuple #[]) (fun w1 hw h=>Mt hW hw (h w1 (Nat.le_refl _) fun _ _ _=>rfl))
theorem begin_shape{xs:List Value}{R:Nat→Prop}(hM:ML W)(hmm:m<1000000)(hO:K6 w W.heap.size 52 47 y.1 m y.2 xs)(hA:∀b∈bl y.1,b≠gt∧b≠gr)(hQ:∀b,w.heap.size≤b→R b)(T:TE W w gt gr (bl y.1) A n c ws0)(hs:Ph ws0 n rest)(ht:K5 w gt (Y6 a1 a2 a3 a4 a5 a6 (.slice y.1 m y.2) wh ln a9))(hr:K5 w gr (L7 A n c rest.length f)):
 Calls Tryz.prog 80 #[Zq gt 0,Zq gr 0,K4 Z6] w
 (Vv w (gt::gr::bl y.1) Qn (Qw gt ln) (if wh≠1∧0<ln then Mz 2 f rest else none) (fun _ (_:Gh (Option Addr×Nat) R×(Option Addr×Nat))=> .tuple #[]) (fun d x u=>K5 u gr (L7 A n c d.2.1.length d.2.2)∧K5 u gt (Y6 a1 a2 a3 a4 a5 a6 (.slice x.2.1 (m+1) x.2.2) 1 ln a9)∧
  K6 u W.heap.size 52 47 x.2.1 (m+1) x.2.2 (xs++X9 d.1 (Eb x.1.1.1))∧Lj x.1.1.2 (fun v=>Qt v x.1.1.1.1 d.1.path.length d.1.path) u∧(∀b∈bl x.2.1,b∈bl y.1∨w.heap.size≤b)∧∀b,x.1.1.2 b→b∉bl x.2.1)):=by
 have hF:∀{tc rc:List Value} (wa u:World),wa.heap.size=u.heap.size→(∀b,b∉[gr]→wa.heap[b]? =u.heap[b]?)→Tm W w gt gr (bl y.1) tc rc wa→K6 wa W.heap.size 52 47 y.1 m y.2 xs→K6 u W.heap.size 52 47 y.1 m y.2 xs:=fun wa u e1 e2 _ h=>h.left e2 fun b hb=>by simpa using(hA b hb).2
 obtain⟨o,ho⟩:∃o,o=(if wh≠1∧0<ln then Mz 2 f rest else none):=⟨_,rfl⟩
 rw[←ho]
 refine K0.enterW Tryz.func80 rfl T.hW (K0.impC (Φ':=fun u=>Tm W w gt gr (bl y.1) (Y6 a1 a2 a3 a4 a5 a6 (.slice y.1 m y.2) wh ln a9) (L7 A n c rest.length f) u∧K6 u W.heap.size 52 47 y.1 m y.2 xs) (fun u h=>⟨Tm.start T ht hr u h,hO.same fun b hb=>h.2 b (hO.lt b hb).1 (hO.lt b hb).2⟩) ?_)
 refine ZR <| K0.ask (L5 3 ⟨gt,7,none⟩) (Zi wh) Zk (fun w1 hw h=>K8 Zk (by rw[h.1.bt.cell];rfl)) <| ZS 7 ?_
 by_cases h1:wh=1
 ·rw[if_neg (fun h=>h.1 h1)]at ho
  exact ZT 18 (.bool (!(wh==1))) Zf (by rw[h1];rfl) <| K0.mutx (L:=[]) (Φ':=Tp W w gt gr (bl y.1) (Y6 a1 a2 a3 a4 a5 a6 (.slice y.1 m y.2) wh ln a9)) (fun w1 hw h=>B1 (gt:=gt) (z:=1) hw) (fun u h b hb=>by cases hb) (fun wa u e1 e2 h _=>⟨by rw[←e1];exact h.1.sz,fun b k1 k2 k3 k4 k5=>(e2 b Zs).symm.trans (h.1.fr b k1 k2 k3 k4 k5),h.1.bt.to (e2 gt Zs).symm⟩) Zk Zk <| K0.pan fun w1 hw h=>by rw[ho];exact Tp.pan T hw h rfl rfl
 refine ZT 18 (.bool (!(wh==1))) Zt (by simp[h1]) <| K0.ask (L5 3 ⟨gt,8,none⟩) (Zi ln) Zk (fun w1 hw h=>K8 Zk (by rw[h.1.bt.cell];rfl)) <| ZS 13 ?_
 by_cases h2:0<ln
 rotate_left
 ·rw[if_neg (fun h=>h2 h.2)]at ho
  exact K0.slot 24 (.bool (decide ((ln:Int)>0))) Zf Zk (by rw[decide_eq_false Zo]) <| K0.mutx (L:=[]) (Φ':=Tp W w gt gr (bl y.1) (Y6 a1 a2 a3 a4 a5 a6 (.slice y.1 m y.2) wh ln a9)) (fun w1 hw h=>B1 (gt:=gt) (z:=1) hw) (fun u h b hb=>by cases hb) (fun wa u e1 e2 h _=>⟨by rw[←e1];exact h.1.sz,fun b k1 k2 k3 k4 k5=>(e2 b Zs).symm.trans (h.1.fr b k1 k2 k3 k4 k5),h.1.bt.to (e2 gt Zs).symm⟩) Zk Zk <| K0.pan fun w1 hw h=>by rw[ho];exact Tp.pan T hw h rfl rfl
 rw[if_pos ⟨h1,h2⟩]at ho
 refine K0.slot 24 (.bool (decide ((ln:Int)>0))) Zt Zk (by rw[decide_eq_true Zo]) <| K0.mut (L:=[gt]) (Φ':=fun(_:Unit) u=>Tm W w gt gr (bl y.1) (Y6 a1 a2 a3 a4 a5 a6 (.slice y.1 m y.2) 1 ln a9) (L7 A n c rest.length f) u∧K6 u W.heap.size 52 47 y.1 m y.2 xs) (fun w1 hw h=>We (z:=1) hw T.lt h.1.bt (by show 7<10;decide)) (fun u h=>Tm.ownt T u h.1) (fun _ wa u e1 e2 h hG=>⟨h.1.mt T e1 e2 hG,h.2.left e2 fun b hb=>by simpa using(hA b hb).1⟩) Zk Zk fun _=>ZR ?_
 rw[show Mz 2 f rest=(Vq f rest).bind fun i=>(Vq i.2.2 i.2.1).bind fun d=>(Dg Na 1 d.2.2 d.2.1).bind fun u=>(Vd u.2.2 u.2.1).map fun p=>({Ga with id:=i.1,kind:=2,dep:=d.1,frule:=u.1,path:=p.1},p.2.1,p.2.2)from rfl]at ho
 refine Ix T (fun w1 k1 k2=>Mc k1 hs k2) hF (fun e=>by rw[ho,e];rfl) rfl rfl fun d e1=> ?_
 rw[e1,Option.bind_some]at ho
 obtain⟨x1,r1,f1⟩:=d
 have hs1:=M2 hs e1
 refine Ix T (fun w1 k1 k2=>Mc k1 hs1 k2) hF (fun e=>by rw[ho];simp only;rw[e];rfl) rfl rfl fun d e2=> ?_
 simp only at ho
 rw[e2,Option.bind_some]at ho
 obtain⟨x2,r2,f2⟩:=d
 have hs2:=M2 hs1 e2
 refine ZI false <| ZI true <| Ix T (fun w1 k1 k2=>word_rule k1 hs2 k2) hF (fun e=>by rw[ho];simp only;rw[e];rfl) rfl rfl fun d e3=> ?_
 simp only at ho
 rw[e3,Option.bind_some]at ho
 obtain⟨x3,r3,f3⟩:=d
 have hs3:=O0 hs2 e3
 simp only at ho
 cases e4:Vd f3 r3 with
 |none=>
  rw[e4]at ho
  exact K0.mutx (L:=[gr]) (Φ':=Tp W w gt gr (bl y.1) (Y6 a1 a2 a3 a4 a5 a6 (.slice y.1 m y.2) 1 ln a9)) (fun w1 hw h=>by have t:=path_t (R:=fun b=>w.heap.size≤b) hM (h.1.re T hw) hs3 h.1.br (fun b hb=>Nat.le_trans h.1.sz hb);rw[e4]at t;exact t) (fun u h=>Tm.ownr T u h.1) (fun wa u e1 e2 h _=>h.1.mp T e1 e2) Zk Zk <| K0.pan fun w1 hw h=>by rw[ho];exact Tp.pan T hw h rfl rfl
 | some d=>
  obtain⟨pl,r4,f4⟩:=d
  rw[e4]at ho
  refine K0.mut (L:=[gr]) (Φ':=fun(q:Gh (Option Addr×Nat) fun b=>w.heap.size≤b) u=>Tm W w gt gr (bl y.1) (Y6 a1 a2 a3 a4 a5 a6 (.slice y.1 m y.2) 1 ln a9) (L7 A n c r4.length f4) u∧K6 u W.heap.size 52 47 y.1 m y.2 xs∧Lj q.1.2 (fun v=>Qt v q.1.1.1 pl.length pl) u) (fun w1 hw h=>by have t:=path_t (R:=fun b=>w.heap.size≤b) hM (h.1.re T hw) hs3 h.1.br (fun b hb=>Nat.le_trans h.1.sz hb);rw[e4]at t;exact t) (fun u h=>Tm.ownr T u h.1) (fun q wa u e1 e2 h (hG:K5 u gr (L7 A n c r4.length f4)∧Lj q.1.2 (fun v=>Qt v q.1.1.1 pl.length pl) u)=>⟨h.1.mr T e1 e2 hG.1,hF wa u e1 e2 h.1 h.2,hG.2⟩) Zk Zk fun q=>ZR <| ZB 5 (L5 24 ⟨gt,6,none⟩) (.slice y.1 m y.2) (fun w1 hw h=>K8 Zk (by rw[h.1.bt.cell];rfl)) <| K0.make (Lq (24) 1 #[(0,Gv {Ga with id:=x1,kind:=2,dep:=x2,frule:=x3,path:=pl} (Eb q.1.1))]) (Kf 1) (L4 52 (X9 {Ga with id:=x1,kind:=2,dep:=x2,frule:=x3,path:=pl} (Eb q.1.1)).toArray) Zk (fun w1 hw h=>Kc Zk) fun gb=>ZS 0 <| K0.mutAnyB (L:=bl y.1) (val:=fun(z:Option Addr×Nat)=> .slice z.1 (m+1) z.2) (Φ':=fun(z:Option Addr×Nat) u=>Tm W w gt gr (bl y.1) (Y6 a1 a2 a3 a4 a5 a6 (.slice y.1 m y.2) 1 ln a9) (L7 A n c r4.length f4) u∧K6 u W.heap.size 52 47 z.1 (m+1) z.2 (xs++X9 {Ga with id:=x1,kind:=2,dep:=x2,frule:=x3,path:=pl} (Eb q.1.1))∧Lj q.1.2 (fun v=>Qt v q.1.1.1 pl.length pl) u∧(∀b∈bl z.1,b∈bl y.1∨w.heap.size≤b)∧∀b,q.1.2 b→b∉bl z.1) (G:=fun(z:Option Addr×Nat) u=>K6 u W.heap.size 52 47 z.1 (m+1) z.2 (xs++X9 {Ga with id:=x1,kind:=2,dep:=x2,frule:=x3,path:=pl} (Eb q.1.1))∧(∀b∈bl z.1,b∈bl y.1∨w.heap.size≤b)∧∀b,q.1.2 b→b∉bl z.1) (M9 24 24 (.slice y.1 m y.2) (Kf 1 gb))
   (fun w1 hw h=>app_no h.1.2.1 (Nat.le_trans T.hW.size h.1.1.sz) h.2 hmm Zk fun z hz=>⟨fun b hb=>(hz b hb).imp id (Nat.le_trans h.1.1.sz),fun b hb hc=>(hz b hc).elim (fun k=>by have:=(hO.lt b k).2;have:=q.2 b hb;omega) fun k=>by have:=h.1.2.2.lt b hb;omega⟩)
   (fun u h b hb=>⟨(hO.lt b hb).1,(h.1.2.1.blk b hb).2⟩)
   (fun z wa u e1 e2 h hG=>⟨⟨by rw[←e1];exact h.1.1.sz,fun b k1 k2 k3 k4 k5=>(e2 b k5).symm.trans (h.1.1.fr b k1 k2 k3 k4 k5),h.1.1.bt.to (e2 gt fun hb=>(hA gt hb).1 rfl).symm,h.1.1.br.to (e2 gr fun hb=>(hA gr hb).2 rfl).symm⟩,hG.1,h.1.2.2.left e1 e2 (fun b hb hc=>by have:=(hO.lt b hc).2;have:=q.2 b hb;omega),hG.2⟩) Zk Zk (fun z=> ?_)
  refine ZR <| K0.mutStAny (L:=[gt]) (G:=fun u=>K5 u gt (Y6 a1 a2 a3 a4 a5 a6 (.slice z.1 (m+1) z.2) 1 ln a9)) (Φ':=fun u=>Tm W w gt gr (bl y.1) (Y6 a1 a2 a3 a4 a5 a6 (.slice z.1 (m+1) z.2) 1 ln a9) (L7 A n c r4.length f4) u∧K6 u W.heap.size 52 47 z.1 (m+1) z.2 (xs++X9 {Ga with id:=x1,kind:=2,dep:=x2,frule:=x3,path:=pl} (Eb q.1.1))∧Lj q.1.2 (fun v=>Qt v q.1.1.1 pl.length pl) u∧(∀b∈bl z.1,b∈bl y.1∨w.heap.size≤b)∧∀b,q.1.2 b→b∉bl z.1) (Tc 24 ⟨gt,6,none⟩ (.slice z.1 (m+1) z.2)) (fun w1 hw h=>h.1.bt.store1 (j:=6) Zk rfl (by show 6<10;decide) rfl) (fun u h=>Tm.ownt T u h.1)
   (fun wa u e1 e2 h hG=>⟨h.1.mt T e1 e2 hG,h.2.1.left e2 (fun b hb hc=>by
    obtain rfl:b=gt:=by simpa using hc
    exact(h.2.2.2.1 b hb).elim (fun k=>(hA b k).1 rfl) fun k=>by have:=ht.lt;omega),h.2.2.1.left e1 e2 (fun b hb hc=>by
    obtain rfl:b=gt:=by simpa using hc
    have:=ht.lt;have:=q.2 b hb;omega),h.2.2.2⟩) Zk Zk ?_
  refine ZR <| ZV (.tuple #[]) (fun w1 hw h=> ?_)
  have k:=h w1 (Nat.le_refl _) (fun _ _ _=>rfl)
  rw[ho]
  refine⟨(⟨q.1,fun b hb=>hQ b (q.2 b hb)⟩,z),rfl,⟨hw.os.trans T.hW.os.symm,hw.tape.trans T.hW.tape.symm,hw.output.trans T.hW.output.symm,k.1.sz,fun b hb hbl=> ?_⟩,fun w'' k1 k2=>⟨k.1.br.to (k2 gr (.inl Zs)),k.1.bt.to (k2 gt (.inl Zs)),k.2.1.same (fun b hb=>k2 b ((k.2.2.2.1 b hb).imp (fun x=>by simp[x]) fun x=>⟨x,(k.2.1.lt b hb).2⟩)),k.2.2.1.to k1 (fun b hb=>k2 b (.inr ⟨q.2 b hb,k.2.2.1.lt b hb⟩)),k.2.2.2⟩⟩
  simp only[List.mem_cons,not_or]at hbl
  rcases Nat.lt_or_ge b W.heap.size with h4|h4
  ·rw[hw.block b h4,T.hW.block b h4]
  ·exact k.1.fr b h4 hb hbl.1 hbl.2.1 hbl.2.2
end
section
variable{W w:World}{gt gr n c m:Nat}{A:Option Addr}{y:Option Addr×Nat}{ws0 rest:WS}{f:Bool}{a1 a2 a3 a4 a5 a6 a9 wh:Int}{ln:Nat}
theorem image_h{R:Nat→Prop}{g:Nat}(hR:RE W w g A n c ws0)(hs:Ph ws0 n rest)(hb:K5 w g (L7 A n c rest.length f))(hQ:∀b,w.heap.size≤b→R b):Calls Tryz.prog 92 #[Zq g 0] w
 (Ld w [g] Qn (Xt f rest) (fun d (q:Gh (Option Addr×Nat) R)=>imV d.1 q.1.1) (fun d q u=>K5 u g (L7 A n c d.2.1.length d.2.2)∧Lj q.1.2 (fun v=>Ma v q.1.1.1 d.1.px.length 4 Oa d.1.px) u)):=by
 refine(image_t hR hs hb).mono fun e w' h=> ?_
 cases hq:Xt f rest with
 |none=>rw[hq]at h;exact h
 |some d=>
  rw[hq]at h
  obtain⟨z,h1,h2,h3⟩:=h
  have k:=h3 w' (Nat.le_refl _) fun _ _=>rfl
  exact⟨⟨(z,fun b=>b∈bl z.1),fun b hb=>hQ b (k.2.lt b hb).1⟩,h1,h2,fun w'' k1 k2=>⟨(h3 w'' k1 k2).1,⟨fun b hb=>Nat.lt_of_lt_of_le (k.2.lt b hb).2 k1,fun v e1 e2=>K6.rowA (cl:=Oa) (fun _=>rfl) rfl ((h3 w'' k1 k2).2.same fun b hb=>e2 b hb)⟩⟩⟩
def nd0I(p:Option Addr×Nat):ND:=⟨Gg,none,0,none,0,none,0,[],none,0,none,0,[],p.1,p.2⟩
theorem begin_image{xs:List Value}{R:Nat→Prop}(hmm:m<1000000)(hO:K6 w W.heap.size 52 47 y.1 m y.2 xs)(hA:∀b∈bl y.1,b≠gt∧b≠gr)(hQ:∀b,w.heap.size≤b→R b)(T:TE W w gt gr (bl y.1) A n c ws0)(hs:Ph ws0 n rest)(ht:K5 w gt (Y6 a1 a2 a3 a4 a5 a6 (.slice y.1 m y.2) wh ln a9))(hr:K5 w gr (L7 A n c rest.length f)):
 Calls Tryz.prog 80 #[Zq gt 0,Zq gr 0,K4 Bs] w
 (Vv w (gt::gr::bl y.1) Qn (Qw gt ln) (if wh≠1∧0<ln then Mz 3 f rest else none) (fun _ (_:Gh (Option Addr×Nat) R×(Option Addr×Nat))=> .tuple #[]) (fun d x u=>K5 u gr (L7 A n c d.2.1.length d.2.2)∧K5 u gt (Y6 a1 a2 a3 a4 a5 a6 (.slice x.2.1 (m+1) x.2.2) 1 ln a9)∧
  K6 u W.heap.size 52 47 x.2.1 (m+1) x.2.2 (xs++X9 d.1 (nd0I x.1.1.1))∧Lj x.1.1.2 (fun v=>Ma v x.1.1.1.1 d.1.im.px.length 4 Oa d.1.im.px) u∧(∀b∈bl x.2.1,b∈bl y.1∨w.heap.size≤b)∧∀b,x.1.1.2 b→b∉bl x.2.1)):=by
 have hF:∀{tc rc:List Value} (wa u:World),wa.heap.size=u.heap.size→(∀b,b∉[gr]→wa.heap[b]? =u.heap[b]?)→Tm W w gt gr (bl y.1) tc rc wa→K6 wa W.heap.size 52 47 y.1 m y.2 xs→K6 u W.heap.size 52 47 y.1 m y.2 xs:=fun wa u e1 e2 _ h=>h.left e2 fun b hb=>by simpa using(hA b hb).2
 obtain⟨o,ho⟩:∃o,o=(if wh≠1∧0<ln then Mz 3 f rest else none):=⟨_,rfl⟩
 rw[←ho]
 refine K0.enterW Tryz.func80 rfl T.hW (K0.impC (Φ':=fun u=>Tm W w gt gr (bl y.1) (Y6 a1 a2 a3 a4 a5 a6 (.slice y.1 m y.2) wh ln a9) (L7 A n c rest.length f) u∧K6 u W.heap.size 52 47 y.1 m y.2 xs) (fun u h=>⟨Tm.start T ht hr u h,hO.same fun b hb=>h.2 b (hO.lt b hb).1 (hO.lt b hb).2⟩) ?_)
 refine ZR <| K0.ask (L5 3 ⟨gt,7,none⟩) (Zi wh) Zk (fun w1 hw h=>K8 Zk (by rw[h.1.bt.cell];rfl)) <| ZS 7 ?_
 by_cases h1:wh=1
 ·rw[if_neg (fun h=>h.1 h1)]at ho
  exact ZT 18 (.bool (!(wh==1))) Zf (by rw[h1];rfl) <| K0.mutx (L:=[]) (Φ':=Tp W w gt gr (bl y.1) (Y6 a1 a2 a3 a4 a5 a6 (.slice y.1 m y.2) wh ln a9)) (fun w1 hw h=>B1 (gt:=gt) (z:=1) hw) (fun u h b hb=>by cases hb) (fun wa u e1 e2 h _=>⟨by rw[←e1];exact h.1.sz,fun b k1 k2 k3 k4 k5=>(e2 b Zs).symm.trans (h.1.fr b k1 k2 k3 k4 k5),h.1.bt.to (e2 gt Zs).symm⟩) Zk Zk <| K0.pan fun w1 hw h=>by rw[ho];exact Tp.pan T hw h rfl rfl
 refine ZT 18 (.bool (!(wh==1))) Zt (by simp[h1]) <| K0.ask (L5 3 ⟨gt,8,none⟩) (Zi ln) Zk (fun w1 hw h=>K8 Zk (by rw[h.1.bt.cell];rfl)) <| ZS 13 ?_
 by_cases h2:0<ln
 rotate_left
 ·rw[if_neg (fun h=>h2 h.2)]at ho
  exact K0.slot 24 (.bool (decide ((ln:Int)>0))) Zf Zk (by rw[decide_eq_false Zo]) <| K0.mutx (L:=[]) (Φ':=Tp W w gt gr (bl y.1) (Y6 a1 a2 a3 a4 a5 a6 (.slice y.1 m y.2) wh ln a9)) (fun w1 hw h=>B1 (gt:=gt) (z:=1) hw) (fun u h b hb=>by cases hb) (fun wa u e1 e2 h _=>⟨by rw[←e1];exact h.1.sz,fun b k1 k2 k3 k4 k5=>(e2 b Zs).symm.trans (h.1.fr b k1 k2 k3 k4 k5),h.1.bt.to (e2 gt Zs).symm⟩) Zk Zk <| K0.pan fun w1 hw h=>by rw[ho];exact Tp.pan T hw h rfl rfl
 rw[if_pos ⟨h1,h2⟩]at ho
 refine K0.slot 24 (.bool (decide ((ln:Int)>0))) Zt Zk (by rw[decide_eq_true Zo]) <| K0.mut (L:=[gt]) (Φ':=fun(_:Unit) u=>Tm W w gt gr (bl y.1) (Y6 a1 a2 a3 a4 a5 a6 (.slice y.1 m y.2) 1 ln a9) (L7 A n c rest.length f) u∧K6 u W.heap.size 52 47 y.1 m y.2 xs) (fun w1 hw h=>We (z:=1) hw T.lt h.1.bt (by show 7<10;decide)) (fun u h=>Tm.ownt T u h.1) (fun _ wa u e1 e2 h hG=>⟨h.1.mt T e1 e2 hG,h.2.left e2 fun b hb=>by simpa using(hA b hb).1⟩) Zk Zk fun _=>ZR ?_
 rw[show Mz 3 f rest=(Vq f rest).bind fun i=>(Vq i.2.2 i.2.1).bind fun d=>(Dg Oc 1 d.2.2 d.2.1).bind fun u=>(Xt u.2.2 u.2.1).map fun m=>({Ga with id:=i.1,kind:=3,dep:=d.1,samp:=u.1,im:=m.1},m.2.1,m.2.2)from rfl]at ho
 refine Ix T (fun w1 k1 k2=>Mc k1 hs k2) hF (fun e=>by rw[ho,e];rfl) rfl rfl fun d e1=> ?_
 rw[e1,Option.bind_some]at ho
 obtain⟨x1,r1,f1⟩:=d
 have hs1:=M2 hs e1
 refine Ix T (fun w1 k1 k2=>Mc k1 hs1 k2) hF (fun e=>by rw[ho];simp only;rw[e];rfl) rfl rfl fun d e2=> ?_
 simp only at ho
 rw[e2,Option.bind_some]at ho
 obtain⟨x2,r2,f2⟩:=d
 have hs2:=M2 hs1 e2
 refine ZI false <| ZI false <| Ix T (fun w1 k1 k2=>Gc k1 hs2 k2) hF (fun e=>by rw[ho];simp only;rw[e];rfl) rfl rfl fun d e3=> ?_
 simp only at ho
 rw[e3,Option.bind_some]at ho
 obtain⟨x3,r3,f3⟩:=d
 have hs3:=O0 hs2 e3
 simp only at ho
 cases e4:Xt f3 r3 with
 |none=>
  rw[e4]at ho
  exact K0.mutx (L:=[gr]) (Φ':=Tp W w gt gr (bl y.1) (Y6 a1 a2 a3 a4 a5 a6 (.slice y.1 m y.2) 1 ln a9)) (fun w1 hw h=>by have t:=image_h (R:=fun b=>w.heap.size≤b) (h.1.re T hw) hs3 h.1.br (fun b hb=>Nat.le_trans h.1.sz hb);rw[e4]at t;exact t) (fun u h=>Tm.ownr T u h.1) (fun wa u e1 e2 h _=>h.1.mp T e1 e2) Zk Zk <| K0.pan fun w1 hw h=>by rw[ho];exact Tp.pan T hw h rfl rfl
 | some d=>
  obtain⟨pl,r4,f4⟩:=d
  rw[e4]at ho
  refine K0.mut (L:=[gr]) (Φ':=fun(q:Gh (Option Addr×Nat) fun b=>w.heap.size≤b) u=>Tm W w gt gr (bl y.1) (Y6 a1 a2 a3 a4 a5 a6 (.slice y.1 m y.2) 1 ln a9) (L7 A n c r4.length f4) u∧K6 u W.heap.size 52 47 y.1 m y.2 xs∧Lj q.1.2 (fun v=>Ma v q.1.1.1 pl.px.length 4 Oa pl.px) u) (fun w1 hw h=>by have t:=image_h (R:=fun b=>w.heap.size≤b) (h.1.re T hw) hs3 h.1.br (fun b hb=>Nat.le_trans h.1.sz hb);rw[e4]at t;exact t) (fun u h=>Tm.ownr T u h.1) (fun q wa u e1 e2 h (hG:K5 u gr (L7 A n c r4.length f4)∧Lj q.1.2 (fun v=>Ma v q.1.1.1 pl.px.length 4 Oa pl.px) u)=>⟨h.1.mr T e1 e2 hG.1,hF wa u e1 e2 h.1 h.2,hG.2⟩) Zk Zk fun q=>ZR <| ZB 5 (L5 24 ⟨gt,6,none⟩) (.slice y.1 m y.2) (fun w1 hw h=>K8 Zk (by rw[h.1.bt.cell];rfl)) <| K0.make (Lq (24) 1 #[(0,Gv {Ga with id:=x1,kind:=3,dep:=x2,samp:=x3,im:=pl} (nd0I q.1.1))]) (Kf 1) (L4 52 (X9 {Ga with id:=x1,kind:=3,dep:=x2,samp:=x3,im:=pl} (nd0I q.1.1)).toArray) Zk (fun w1 hw h=>Kc Zk) fun gb=>ZS 0 <| K0.mutAnyB (L:=bl y.1) (val:=fun(z:Option Addr×Nat)=> .slice z.1 (m+1) z.2) (Φ':=fun(z:Option Addr×Nat) u=>Tm W w gt gr (bl y.1) (Y6 a1 a2 a3 a4 a5 a6 (.slice y.1 m y.2) 1 ln a9) (L7 A n c r4.length f4) u∧K6 u W.heap.size 52 47 z.1 (m+1) z.2 (xs++X9 {Ga with id:=x1,kind:=3,dep:=x2,samp:=x3,im:=pl} (nd0I q.1.1))∧Lj q.1.2 (fun v=>Ma v q.1.1.1 pl.px.length 4 Oa pl.px) u∧(∀b∈bl z.1,b∈bl y.1∨w.heap.size≤b)∧∀b,q.1.2 b→b∉bl z.1) (G:=fun(z:Option Addr×Nat) u=>K6 u W.heap.size 52 47 z.1 (m+1) z.2 (xs++X9 {Ga with id:=x1,kind:=3,dep:=x2,samp:=x3,im:=pl} (nd0I q.1.1))∧(∀b∈bl z.1,b∈bl y.1∨w.heap.size≤b)∧∀b,q.1.2 b→b∉bl z.1) (M9 24 24 (.slice y.1 m y.2) (Kf 1 gb))
   (fun w1 hw h=>app_no h.1.2.1 (Nat.le_trans T.hW.size h.1.1.sz) h.2 hmm Zk fun z hz=>⟨fun b hb=>(hz b hb).imp id (Nat.le_trans h.1.1.sz),fun b hb hc=>(hz b hc).elim (fun k=>by have:=(hO.lt b k).2;have:=q.2 b hb;omega) fun k=>by have:=h.1.2.2.lt b hb;omega⟩)
   (fun u h b hb=>⟨(hO.lt b hb).1,(h.1.2.1.blk b hb).2⟩)
   (fun z wa u e1 e2 h hG=>⟨⟨by rw[←e1];exact h.1.1.sz,fun b k1 k2 k3 k4 k5=>(e2 b k5).symm.trans (h.1.1.fr b k1 k2 k3 k4 k5),h.1.1.bt.to (e2 gt fun hb=>(hA gt hb).1 rfl).symm,h.1.1.br.to (e2 gr fun hb=>(hA gr hb).2 rfl).symm⟩,hG.1,h.1.2.2.left e1 e2 (fun b hb hc=>by have:=(hO.lt b hc).2;have:=q.2 b hb;omega),hG.2⟩) Zk Zk (fun z=> ?_)
  refine ZR <| K0.mutStAny (L:=[gt]) (G:=fun u=>K5 u gt (Y6 a1 a2 a3 a4 a5 a6 (.slice z.1 (m+1) z.2) 1 ln a9)) (Φ':=fun u=>Tm W w gt gr (bl y.1) (Y6 a1 a2 a3 a4 a5 a6 (.slice z.1 (m+1) z.2) 1 ln a9) (L7 A n c r4.length f4) u∧K6 u W.heap.size 52 47 z.1 (m+1) z.2 (xs++X9 {Ga with id:=x1,kind:=3,dep:=x2,samp:=x3,im:=pl} (nd0I q.1.1))∧Lj q.1.2 (fun v=>Ma v q.1.1.1 pl.px.length 4 Oa pl.px) u∧(∀b∈bl z.1,b∈bl y.1∨w.heap.size≤b)∧∀b,q.1.2 b→b∉bl z.1) (Tc 24 ⟨gt,6,none⟩ (.slice z.1 (m+1) z.2)) (fun w1 hw h=>h.1.bt.store1 (j:=6) Zk rfl (by show 6<10;decide) rfl) (fun u h=>Tm.ownt T u h.1)
   (fun wa u e1 e2 h hG=>⟨h.1.mt T e1 e2 hG,h.2.1.left e2 (fun b hb hc=>by
    obtain rfl:b=gt:=by simpa using hc
    exact(h.2.2.2.1 b hb).elim (fun k=>(hA b k).1 rfl) fun k=>by have:=ht.lt;omega),h.2.2.1.left e1 e2 (fun b hb hc=>by
    obtain rfl:b=gt:=by simpa using hc
    have:=ht.lt;have:=q.2 b hb;omega),h.2.2.2⟩) Zk Zk ?_
  refine ZR <| ZV (.tuple #[]) (fun w1 hw h=> ?_)
  have k:=h w1 (Nat.le_refl _) (fun _ _ _=>rfl)
  rw[ho]
  refine⟨(⟨q.1,fun b hb=>hQ b (q.2 b hb)⟩,z),rfl,⟨hw.os.trans T.hW.os.symm,hw.tape.trans T.hW.tape.symm,hw.output.trans T.hW.output.symm,k.1.sz,fun b hb hbl=> ?_⟩,fun w'' k1 k2=>⟨k.1.br.to (k2 gr (.inl Zs)),k.1.bt.to (k2 gt (.inl Zs)),k.2.1.same (fun b hb=>k2 b ((k.2.2.2.1 b hb).imp (fun x=>by simp[x]) fun x=>⟨x,(k.2.1.lt b hb).2⟩)),k.2.2.1.to k1 (fun b hb=>k2 b (.inr ⟨q.2 b hb,k.2.2.1.lt b hb⟩)),k.2.2.2⟩⟩
  simp only[List.mem_cons,not_or]at hbl
  rcases Nat.lt_or_ge b W.heap.size with h4|h4
  ·rw[hw.block b h4,T.hW.block b h4]
  ·exact k.1.fr b h4 hb hbl.1 hbl.2.1 hbl.2.2
end
def noX(N:Nd)(q:ND)(v:Value):List Value:=[Zi N.id,Zi N.kind,Zi N.dep]++(q.t.cl++ [.slice q.clA N.clip.length q.clc,Zi N.crule,v,Zi N.bl,.bool N.iso,.bool N.ko,.slice q.paA N.path.length q.pac,Zi N.frule,.slice q.fiA N.fill.length q.fic,Zi N.sty.w,Zi N.sty.j,Zi N.sty.c,Zi N.sty.m,.slice q.daA N.sty.d.length q.dac,Zi N.sty.p,.slice q.stA N.stroke.length q.stc,Zi N.im.w,Zi N.im.h,.slice q.pxA N.im.px.length q.pxc,Zi N.samp])
theorem u8_op{x:Int}(h:0≤x∧x≤255):IntKind.u8.wrap x=((UInt8.ofNat x.toNat).toNat:Int):=by
 obtain⟨k,rfl⟩:=Int.eq_ofNat_of_zero_le h.1
 have hk:k≤255:=by omega
 have e:(UInt8.ofNat ((k:Int).toNat)).toNat=k:=by simp;omega
 rw[e]
 simp[IntKind.wrap,IntKind.signed,IntKind.bits]
 omega
section
variable{W w:World}{gt gr n c m:Nat}{A:Option Addr}{y:Option Addr×Nat}{ws0 rest:WS}{f:Bool}{s:List UInt8}{r:WS}{a1 a2 a3 a4 a5 a6 a9 wh:Int}{ln:Nat}
theorem rdI_op{z:Int}{b f':Bool}(h:rdI 0 255 f rest=some (z,b,r,f')):0≤z∧z≤255:=by
 cases b with
 |true=>exact Fb h
 | false=>
  cases rest with
  |nil=>cases h
  | cons s r=>
   rw[show rdI 0 255 f (s::r)=if Rj s 0 255=0 then some (Xv s 0 255,true,r,f)else if Rj s 0 255=6 then some (0,false,r,true)else none from rfl]at h
   split at h
   ·cases h
   ·split at h
    ·cases h;exact⟨Int.le_refl _,by decide⟩
    ·cases h
theorem rdBit_suf{x:Bool×WS×Bool}(hs:Ph ws0 n rest)(h:Fc f rest=some x):Ph ws0 n x.2.1:=by
 cases rest with
 |nil=>cases h
 | cons s r=>
  rw[show Fc f (s::r)=if s=[48]then some (false,r,f)else if s=[49]then some (true,r,f)else none from rfl]at h
  split at h
  ·injection h with h;subst h;exact hs.tail
  ·split at h
   ·injection h with h;subst h;exact hs.tail
   ·cases h
theorem byName_no(hi:S9 s Ms=none):Zv 135 #[K4 s] w (.tuple #[Zi 0,.bool false]):=by
 have t:=byName_v (w:=w) (s:=s)
 rw[show mdV s=0 by unfold mdV;rw[hi],hi]at t
 exact t
theorem byName_yes{j:Nat}(hi:S9 s Ms=some j):Zv 135 #[K4 s] w (.tuple #[Zi (1+(j:Int)),.bool true]):=by
 have t:=byName_v (w:=w) (s:=s)
 rw[show mdV s=1+(j:Int) by unfold mdV;rw[hi],hi]at t
 exact t
theorem begin_group{xs:List Value}(hmm:m<1000000)(hO:K6 w W.heap.size 52 47 y.1 m y.2 xs)(hA:∀b∈bl y.1,b≠gt∧b≠gr)(T:TE W w gt gr (bl y.1) A n c ws0)(hs:Ph ws0 n rest)(ht:K5 w gt (Y6 a1 a2 a3 a4 a5 a6 (.slice y.1 m y.2) wh ln a9))(hr:K5 w gr (L7 A n c rest.length f)):
 Calls Tryz.prog 80 #[Zq gt 0,Zq gr 0,K4 Ze] w
 (Vv w (gt::gr::bl y.1) Qn (Qw gt ln) (if wh≠1∧0<ln then Mz 1 f rest else none) (fun _ (_:Option Addr×Nat)=> .tuple #[]) (fun d z u=>K5 u gr (L7 A n c d.2.1.length d.2.2)∧K5 u gt (Y6 a1 a2 a3 a4 a5 a6 (.slice z.1 (m+1) z.2) 1 ln a9)∧
  K6 u W.heap.size 52 47 z.1 (m+1) z.2 (xs++X9 d.1 (Eb (none,0)))∧∀b∈bl z.1,b∈bl y.1∨w.heap.size≤b)):=by
 have hF:∀{tc rc:List Value} (wa u:World),wa.heap.size=u.heap.size→(∀b,b∉[gr]→wa.heap[b]? =u.heap[b]?)→Tm W w gt gr (bl y.1) tc rc wa→K6 wa W.heap.size 52 47 y.1 m y.2 xs→K6 u W.heap.size 52 47 y.1 m y.2 xs:=fun wa u e1 e2 _ h=>h.left e2 fun b hb=>by simpa using(hA b hb).2
 obtain⟨o,ho⟩:∃o,o=(if wh≠1∧0<ln then Mz 1 f rest else none):=⟨_,rfl⟩
 rw[←ho]
 refine K0.enterW Tryz.func80 rfl T.hW (K0.impC (Φ':=fun u=>Tm W w gt gr (bl y.1) (Y6 a1 a2 a3 a4 a5 a6 (.slice y.1 m y.2) wh ln a9) (L7 A n c rest.length f) u∧K6 u W.heap.size 52 47 y.1 m y.2 xs) (fun u h=>⟨Tm.start T ht hr u h,hO.same fun b hb=>h.2 b (hO.lt b hb).1 (hO.lt b hb).2⟩) ?_)
 refine ZR <| K0.ask (L5 3 ⟨gt,7,none⟩) (Zi wh) Zk (fun w1 hw h=>K8 Zk (by rw[h.1.bt.cell];rfl)) <| ZS 7 ?_
 by_cases h1:wh=1
 ·rw[if_neg (fun h=>h.1 h1)]at ho
  exact ZT 18 (.bool (!(wh==1))) Zf (by rw[h1];rfl) <| K0.mutx (L:=[]) (Φ':=Tp W w gt gr (bl y.1) (Y6 a1 a2 a3 a4 a5 a6 (.slice y.1 m y.2) wh ln a9)) (fun w1 hw h=>B1 (gt:=gt) (z:=1) hw) (fun u h b hb=>by cases hb) (fun wa u e1 e2 h _=>⟨by rw[←e1];exact h.1.sz,fun b k1 k2 k3 k4 k5=>(e2 b Zs).symm.trans (h.1.fr b k1 k2 k3 k4 k5),h.1.bt.to (e2 gt Zs).symm⟩) Zk Zk <| K0.pan fun w1 hw h=>by rw[ho];exact Tp.pan T hw h rfl rfl
 refine ZT 18 (.bool (!(wh==1))) Zt (by simp[h1]) <| K0.ask (L5 3 ⟨gt,8,none⟩) (Zi ln) Zk (fun w1 hw h=>K8 Zk (by rw[h.1.bt.cell];rfl)) <| ZS 13 ?_
 by_cases h2:0<ln
 rotate_left
 ·rw[if_neg (fun h=>h2 h.2)]at ho
  exact K0.slot 24 (.bool (decide ((ln:Int)>0))) Zf Zk (by rw[decide_eq_false Zo]) <| K0.mutx (L:=[]) (Φ':=Tp W w gt gr (bl y.1) (Y6 a1 a2 a3 a4 a5 a6 (.slice y.1 m y.2) wh ln a9)) (fun w1 hw h=>B1 (gt:=gt) (z:=1) hw) (fun u h b hb=>by cases hb) (fun wa u e1 e2 h _=>⟨by rw[←e1];exact h.1.sz,fun b k1 k2 k3 k4 k5=>(e2 b Zs).symm.trans (h.1.fr b k1 k2 k3 k4 k5),h.1.bt.to (e2 gt Zs).symm⟩) Zk Zk <| K0.pan fun w1 hw h=>by rw[ho];exact Tp.pan T hw h rfl rfl
 rw[if_pos ⟨h1,h2⟩]at ho
 refine K0.slot 24 (.bool (decide ((ln:Int)>0))) Zt Zk (by rw[decide_eq_true Zo]) <| K0.mut (L:=[gt]) (Φ':=fun(_:Unit) u=>Tm W w gt gr (bl y.1) (Y6 a1 a2 a3 a4 a5 a6 (.slice y.1 m y.2) 1 ln a9) (L7 A n c rest.length f) u∧K6 u W.heap.size 52 47 y.1 m y.2 xs) (fun w1 hw h=>We (z:=1) hw T.lt h.1.bt (by show 7<10;decide)) (fun u h=>Tm.ownt T u h.1) (fun _ wa u e1 e2 h hG=>⟨h.1.mt T e1 e2 hG,h.2.left e2 fun b hb=>by simpa using(hA b hb).1⟩) Zk Zk fun _=>ZR ?_
 rw[show Mz 1 f rest=(Vq f rest).bind fun i=>(Vq i.2.2 i.2.1).bind fun d=>(rdI 0 255 d.2.2 d.2.1).bind fun o=>(rdMd o.2.2.2 o.2.2.1).bind fun m=>(Fc m.2.2 m.2.1).bind fun a=>(Fc a.2.2 a.2.1).map fun b=>({Ga with id:=i.1,kind:=1,dep:=d.1,op:=UInt8.ofNat o.1.toNat,bl:=m.1,iso:=a.1,ko:=b.1},b.2.1,b.2.2)from rfl]at ho
 refine Ix T (fun w1 k1 k2=>Mc k1 hs k2) hF (fun e=>by rw[ho,e];rfl) rfl rfl fun d e1=> ?_
 rw[e1,Option.bind_some]at ho
 obtain⟨x1,r1,f1⟩:=d
 have hs1:=M2 hs e1
 refine Ix T (fun w1 k1 k2=>Mc k1 hs1 k2) hF (fun e=>by rw[ho];simp only;rw[e];rfl) rfl rfl fun d e2=> ?_
 simp only at ho
 rw[e2,Option.bind_some]at ho
 obtain⟨x2,r2,f2⟩:=d
 have hs2:=M2 hs1 e2
 refine ZI true <| Ix (D:=Int×Bool×WS×Bool) (vq:=fun d=> .tuple #[Zi d.1,.bool d.2.1]) (rs:=fun d=>d.2.2.1) (fl:=fun d=>d.2.2.2) T (fun w1 k1 k2=>V0 k1 hs2 k2) hF (fun e=>by rw[ho];simp only;rw[e];rfl) rfl rfl fun d e3=> ?_
 simp only at ho
 rw[e3,Option.bind_some]at ho
 obtain⟨x3,b3,r3,f3⟩:=d
 have hs3:=X0 hs2 e3
 have hx3:=rdI_op e3
 refine Ix T (fun w1 k1 k2=>next_t k1 hs3 k2) hF (fun e=>by rw[ho];simp only;cases r3 with|nil=>rfl|cons s r=>cases e) rfl rfl fun d e4=> ?_
 cases r3 with
 |nil=>cases e4
 |cons s r=>
 cases e4
 have hs4:=hs3.tail
 simp only at ho
 rw[show rdMd f3 (s::r)=(S9 s Ms).map fun(k:Nat)=>(1+(k:Int),r,f3)from rfl]at ho
 cases hi:S9 s Ms with
 |none=>
  rw[hi]at ho
  exact ZC (fun w1 hw h=>byName_no (s:=s) hi) fun _=>ZI true <| K0.throw (Instr.panic Ke >>= fun v=>pure (.value v)) Ke Zk (fun w1 hw h=>by simp[Instr.panic,Ke,Go.goPanic]) Zk <| K0.pan fun w1 hw h=>by rw[ho];exact Tp.pan T hw ⟨h.1.1.sz,h.1.1.fr,h.1.1.bt⟩ rfl rfl
 |some j=>
 rw[hi,Option.map_some,Option.bind_some]at ho
 refine ZC (fun w1 hw h=>byName_yes (s:=s) hi) fun _=>K0.weak Zk (fun u h=>h.1) <| ZI false <| Ix T (fun w1 k1 k2=>bit_t k1 hs4 k2) hF (fun e=>by rw[ho];simp only;rw[e];rfl) rfl rfl fun d e5=> ?_
 simp only at ho
 rw[e5,Option.bind_some]at ho
 obtain⟨x5,r5,f5⟩:=d
 have hs5:=rdBit_suf hs4 e5
 refine Ix T (fun w1 k1 k2=>bit_t k1 hs5 k2) hF (fun e=>by rw[ho];simp only;rw[e];rfl) rfl rfl fun d e6=> ?_
 simp only at ho
 rw[e6]at ho
 obtain⟨x6,r6,f6⟩:=d
 have hx:Value.int .u8 (IntKind.u8.wrap x3)= .int .u8 ((UInt8.ofNat x3.toNat).toNat:Int):=by rw[u8_op hx3]
 refine ZB 5 (L5 24 ⟨gt,6,none⟩) (.slice y.1 m y.2) (fun w1 hw h=>K8 Zk (by rw[h.1.bt.cell];rfl)) <| K0.make (Lq (24) 1 #[(0,.agg (noX {Ga with id:=x1,kind:=1,dep:=x2,op:=UInt8.ofNat x3.toNat,bl:=1+(j:Int),iso:=x5,ko:=x6} (Eb (none,0)) (.int .u8 (IntKind.u8.wrap x3))).toArray)]) (Kf 1) (L4 52 (noX {Ga with id:=x1,kind:=1,dep:=x2,op:=UInt8.ofNat x3.toNat,bl:=1+(j:Int),iso:=x5,ko:=x6} (Eb (none,0)) (.int .u8 (IntKind.u8.wrap x3))).toArray) Zk (fun w1 hw h=>Kc Zk) fun gb=>ZS 0 <| K0.mutAnyB (L:=bl y.1) (val:=fun(z:Option Addr×Nat)=> .slice z.1 (m+1) z.2) (Φ':=fun(z:Option Addr×Nat) u=>Tm W w gt gr (bl y.1) (Y6 a1 a2 a3 a4 a5 a6 (.slice y.1 m y.2) 1 ln a9) (L7 A n c r6.length f6) u∧K6 u W.heap.size 52 47 z.1 (m+1) z.2 (xs++X9 {Ga with id:=x1,kind:=1,dep:=x2,op:=UInt8.ofNat x3.toNat,bl:=1+(j:Int),iso:=x5,ko:=x6} (Eb (none,0)))∧∀b∈bl z.1,b∈bl y.1∨w.heap.size≤b) (G:=fun(z:Option Addr×Nat) u=>K6 u W.heap.size 52 47 z.1 (m+1) z.2 (xs++X9 {Ga with id:=x1,kind:=1,dep:=x2,op:=UInt8.ofNat x3.toNat,bl:=1+(j:Int),iso:=x5,ko:=x6} (Eb (none,0)))∧∀b∈bl z.1,b∈bl y.1∨w.heap.size≤b) (M9 24 24 (.slice y.1 m y.2) (Kf 1 gb))
  (fun w1 hw h=>app_no h.1.2 (Nat.le_trans T.hW.size h.1.1.sz) (by have:=h.2;rw[hx]at this;exact this) hmm Zk fun z hz=>fun b hb=>(hz b hb).imp id (Nat.le_trans h.1.1.sz))
  (fun u h b hb=>⟨(hO.lt b hb).1,(h.1.2.blk b hb).2⟩)
  (fun z wa u e1 e2 h hG=>⟨⟨by rw[←e1];exact h.1.1.sz,fun b k1 k2 k3 k4 k5=>(e2 b k5).symm.trans (h.1.1.fr b k1 k2 k3 k4 k5),h.1.1.bt.to (e2 gt fun hb=>(hA gt hb).1 rfl).symm,h.1.1.br.to (e2 gr fun hb=>(hA gr hb).2 rfl).symm⟩,hG⟩) Zk Zk (fun z=> ?_)
 refine ZR <| K0.mutStAny (L:=[gt]) (G:=fun u=>K5 u gt (Y6 a1 a2 a3 a4 a5 a6 (.slice z.1 (m+1) z.2) 1 ln a9)) (Φ':=fun u=>Tm W w gt gr (bl y.1) (Y6 a1 a2 a3 a4 a5 a6 (.slice z.1 (m+1) z.2) 1 ln a9) (L7 A n c r6.length f6) u∧K6 u W.heap.size 52 47 z.1 (m+1) z.2 (xs++X9 {Ga with id:=x1,kind:=1,dep:=x2,op:=UInt8.ofNat x3.toNat,bl:=1+(j:Int),iso:=x5,ko:=x6} (Eb (none,0)))∧∀b∈bl z.1,b∈bl y.1∨w.heap.size≤b) (Tc 24 ⟨gt,6,none⟩ (.slice z.1 (m+1) z.2)) (fun w1 hw h=>h.1.bt.store1 (j:=6) Zk rfl (by show 6<10;decide) rfl) (fun u h=>Tm.ownt T u h.1)
  (fun wa u e1 e2 h hG=>⟨h.1.mt T e1 e2 hG,h.2.1.left e2 (fun b hb hc=>by
   obtain rfl:b=gt:=by simpa using hc
   exact(h.2.2 b hb).elim (fun k=>(hA b k).1 rfl) fun k=>by have:=ht.lt;omega),h.2.2⟩) Zk Zk ?_
 refine ZR <| ZV (.tuple #[]) (fun w1 hw h=> ?_)
 have k:=h w1 (Nat.le_refl _) (fun _ _ _=>rfl)
 rw[ho]
 refine⟨z,rfl,⟨hw.os.trans T.hW.os.symm,hw.tape.trans T.hW.tape.symm,hw.output.trans T.hW.output.symm,k.1.sz,fun b hb hbl=> ?_⟩,fun w'' k1 k2=>⟨k.1.br.to (k2 gr (.inl Zs)),k.1.bt.to (k2 gt (.inl Zs)),k.2.1.same (fun b hb=>k2 b ((k.2.2 b hb).imp (fun x=>by simp[x]) fun x=>⟨x,(k.2.1.lt b hb).2⟩)),k.2.2⟩⟩
 simp only[List.mem_cons,not_or]at hbl
 rcases Nat.lt_or_ge b W.heap.size with h4|h4
 ·rw[hw.block b h4,T.hW.block b h4]
 ·exact k.1.fr b h4 hb hbl.1 hbl.2.1 hbl.2.2
end
theorem K6.storeN{P:Program}{t e:TypeId}{w:World}{B s n c g j:Nat}{xs:List Value}{v:Value}(h:K6 w B e s (some ⟨g,0,none⟩) n c xs)(hn:Nz P t=some v.cells.toList.length)(hj:j+v.cells.toList.length≤xs.length)(h1:∀u∈v.cells.toList,u.oneCell'=true):
 ∃w',(Tc t ⟨g,j,none⟩ v).run P w= .ok .skip w'∧Chg [g] w w'∧∀w'',w'.heap.size≤w''.heap.size→(∀b∈[g],w''.heap[b]? =w'.heap[b]?)→K6 w'' B e s (some ⟨g,0,none⟩) n c (xs.take j++v.cells.toList++xs.drop (j+v.cells.toList.length)):=by
 obtain⟨hl,hx⟩:=h
 rcases hx with ⟨h2,_⟩|⟨g',cap,cur,h2,hB,hh,hc,hm,hs,ht⟩
 ·cases h2
 injection h2 with h2 _ h3
 injection h2 with h2
 injection h2 with h2 _ _
 subst h2;subst h3
 obtain⟨vs,hvs⟩:∃vs,vs=v.cells.toList:=⟨_,rfl⟩
 rw[←hvs]at hn hj h1 ⊢
 have hcl:xs.length≤cur.size:=by rw[hl,hs];exact Nat.mul_le_mul_right _ hc
 have hcur:cur.toList=xs++cur.toList.drop xs.length:=by
  rw[←ht,List.length_take,Nat.min_eq_left (by rw[hl]at hcl;simpa using hcl),List.take_append_drop]
 have hst:=run_storeCells_at P g j e vs 0 cur w hh Zo h1
 rw[Nat.add_zero]at hst
 have hnew:cur.toList.take j++vs++cur.toList.drop (j+vs.length)=(xs.take j++vs++xs.drop (j+vs.length))++cur.toList.drop xs.length:=by
  rw[hcur,List.take_append_of_le_length Zo,List.drop_append_of_le_length Zo]
  simp
 have hlen:(xs.take j++vs++xs.drop (j+vs.length)).length=n*s:=by
  simp only[List.length_append,List.length_take,List.length_drop];omega
 rw[hnew]at hst
 refine⟨w.setRow g ((xs.take j++vs++xs.drop (j+vs.length))++cur.toList.drop xs.length).toArray,?_,⟨rfl,rfl,rfl,by rw[Pk];exact Nat.le_refl _,fun k _ hk=>Ox _ _ _ _ (by simpa using hk)⟩,fun w'' k1 k2=>⟨hlen,.inr ⟨g,c,((xs.take j++vs++xs.drop (j+vs.length))++cur.toList.drop xs.length).toArray,rfl,hB,?_,hc,hm,?_,?_⟩⟩⟩
 rotate_left
 ·rw[k2 g Zs]
  simp only[World.setRow,Array.getElem?_modify,if_true,hh,Option.map_some]
 ·simp only[List.size_toArray,List.length_append,List.length_take,List.length_drop,Array.length_toList]
  omega
 ·show List.take (n*s) ((xs.take j++vs++xs.drop (j+vs.length))++cur.toList.drop xs.length)=_
  rw[←hlen,List.take_left]
 ·simp only[Tc,Instr.storeAt,Instr.sureAddr,storeVar,Sem.run_bind,Sem.run_pure,Result.andThen_ok,Lf hn]
  rw[if_neg (by rw[hvs];simp)]
  rw[show v.cells=vs.toArray by rw[hvs]]
  simp only[hst,Sem.run_pure,Sem.run_bind,Result.andThen_ok]
section
variable{w w' u:World}{g N:Nat}{ch:List PanicEntry}{e:Ending}
theorem Ld.gh{D X:Type}{q:Option D}{val:D→X→Value}{A B C:D→X→World→Prop}{R:Nat→Prop}(h:Ld w [g] ch q val (fun d x u=>A d x u∧B d x u) e w')(hB:∀d x u,B d x u→Lj (fun b=>w.heap.size≤b∧b<u.heap.size) (C d x) u)(hQ:∀b,w.heap.size≤b→R b):
 Ld w [g] ch q (fun d (q:Gh X R)=>val d q.1.1) (fun d q u=>A d q.1.1 u∧Lj q.1.2 (C d q.1.1) u) e w':=by
 cases q with
 |none=>exact h
 |some d=>
  obtain⟨x,h1,h2,h3⟩:=h
  have k:=hB d x w' (h3 w' (Nat.le_refl _) fun _ _=>rfl).2
  exact⟨⟨(x,fun b=>w.heap.size≤b∧b<w'.heap.size),fun b hb=>hQ b hb.1⟩,h1,h2,fun w'' k1 k2=>⟨(h3 w'' k1 k2).1,k.to k1 fun b hb=>k2 b (.inr hb)⟩⟩
theorem AF.isA{t:TV}{T:Y0}(h:AF N t T u):Ag t T 125 u:=⟨h.a.1.q,h.b.1.q,h.c.1.q,h.d.1.q,h.e.1.q,h.f.1.q⟩
theorem AF.held{t:TV}{T:Y0}(h:AF N t T u):Lj (fun b=>N≤b∧b<u.heap.size) (Ag t T 125) u:=
 ⟨fun b hb=>hb.2,fun v k1 k2=>(h.same k1 fun b h1 h2=>k2 b ⟨h1,h2⟩).isA⟩
theorem PAt.prd{P:Pn}{q:PM}(h:PAt N P q u):Db P q 125 u:=
 ⟨K6.rowA (cl:=Ri) (fun _=>rfl) rfl h.st,K6.rowA (cl:=Oa) (fun _=>rfl) rfl h.px,h.tr.elim (fun k=>by rw[k.2.1,k.2.2];exact Ag.zero) fun k=>k.2.isA⟩
theorem PAt.held{P:Pn}{q:PM}(h:PAt N P q u):Lj (fun b=>N≤b∧b<u.heap.size) (Db P q 125) u:=
 ⟨fun b hb=>hb.2,fun v k1 k2=>(h.same k1 fun b h1 h2=>k2 b ⟨h1,h2⟩).prd⟩
end
section
variable{W w:World}{g n c:Nat}{A:Option Addr}{ws0 rest:WS}{f:Bool}
theorem affine_h{R:Nat→Prop}(hM:ML W)(hR:RE W w g A n c ws0)(hs:Ph ws0 n rest)(hb:K5 w g (L7 A n c rest.length f))(hQ:∀b,w.heap.size≤b→R b):Calls Tryz.prog 90 #[Zq g 0] w
 (Ld w [g] Qn (En f rest) (fun d (q:Gh TV R)=>q.1.1.val) (fun d q u=>K5 u g (L7 A n c d.2.1.length d.2.2)∧Lj q.1.2 (Ag q.1.1 d.1 125) u)):=
 (affine_t hM hR hs hb).mono fun _ _ h=>h.gh (fun _ _ _=>AF.held) hQ
theorem paint_h{R:Nat→Prop}(hM:ML W)(hR:RE W w g A n c ws0)(hs:Ph ws0 n rest)(hb:K5 w g (L7 A n c rest.length f))(hQ:∀b,w.heap.size≤b→R b):Calls Tryz.prog 54 #[Zq g 0] w
 (Ld w [g] Qn (Wz f rest) (fun d (q:Gh PM R)=>X4 d.1 q.1.1) (fun d q u=>K5 u g (L7 A n c 0 d.2)∧Lj q.1.2 (Db d.1 q.1.1 125) u)):=
 (paint_t imageOk hM hR hs hb).mono fun _ _ h=>h.gh (fun _ _ _=>PAt.held) hQ
end
@[reducible] def Em(S:TS)(y:Option Addr×Nat)(m:Nat):List Value:=Y6 S.w S.h (S.bg.1.toNat:Int) (S.bg.2.1.toNat:Int) (S.bg.2.2.1.toNat:Int) (S.bg.2.2.2.toNat:Int) (.slice y.1 m y.2) S.wh S.ln S.far
def Xb(L:List (Nd×ND)):List Value:=L.flatMap fun x=>X9 x.1 x.2
def NsRd(L:List (Nd×ND))(v:World):Prop:=∀x∈L,Jv x.1 x.2 125 v
abbrev YL:Type:=(Option Addr×Nat)×List (Nd×ND)
structure T0(W:World)(gt:Nat)(y:Option Addr×Nat)(L:List (Nd×ND))(S':TS)(R:Nat→Prop)(x:YL×(Nat→Prop))(u:World):Prop where
 bt:K5 u gt (Em S' x.1.1 x.1.2.length)
 row:K6 u W.heap.size 52 47 x.1.1.1 x.1.2.length x.1.1.2 (Xb x.1.2)
 eq:x.1.2.map (·.1)=S'.nds
 hd:Lj x.2 (fun v=>NsRd L v→NsRd x.1.2 v) u
 bl:∀b∈bl x.1.1.1,b∈Go.Proofs.YtoeiphicmcndlaaGreatDoor.bl y.1∨R b
 ap:∀b,x.2 b→b∉Go.Proofs.YtoeiphicmcndlaaGreatDoor.bl x.1.1.1
theorem Vw.nil_{w:World}{K:Nat}:Vw w none [] K []:=⟨rfl,⟨rfl,fun k x hk=>by cases hk⟩,fun x hx=>by cases hx⟩
theorem Ma.nil_{α:Type}{w:World}{s:Nat}{cl:α→List Value}:Ma w none 0 s cl []:=⟨rfl,fun k x hk=>by cases hk⟩
theorem Qt.nil_{w:World}:Qt w none 0 []:=⟨rfl,fun k s hk=>by cases hk⟩
structure Head(N:Nd):Prop where
 T:N.T=Px
 clip:N.clip=[]
 fill:N.fill=[]
 sty:N.sty=sty0
 stroke:N.stroke=[]
theorem Head.nrd{N:Nd}{v:World}{pa px:Option Addr}{a b:Nat}(h:Head N)(h1:Qt v pa N.path.length N.path)(h2:Ma v px N.im.px.length 4 Oa N.im.px):Jv N ⟨Gg,none,0,pa,a,none,0,[],none,0,none,0,[],px,b⟩ 125 v:=by
 refine⟨by rw[h.T];exact Ag.zero,by rw[h.clip];exact Qt.nil_,h1,by rw[h.fill];exact Vw.nil_,by rw[h.sty];exact Ma.nil_,by rw[h.stroke];exact Vw.nil_,h2⟩
theorem head_1{f:Bool}{rest:WS}{d:Nd×WS×Bool}(h:Mz 1 f rest=some d):Head d.1∧d.1.path=[]∧d.1.im.px=[]:=by
 unfold Mz at h
 obtain⟨i,_,h⟩:=Option.bind_eq_some_iff.1 h
 obtain⟨d1,_,h⟩:=Option.bind_eq_some_iff.1 h
 rw[if_pos rfl]at h
 obtain⟨o,_,h⟩:=Option.bind_eq_some_iff.1 h
 obtain⟨m,_,h⟩:=Option.bind_eq_some_iff.1 h
 obtain⟨a,_,h⟩:=Option.bind_eq_some_iff.1 h
 obtain⟨b,_,rfl⟩:=Option.map_eq_some_iff.1 h
 exact⟨⟨rfl,rfl,rfl,rfl,rfl⟩,rfl,rfl⟩
theorem head_2{f:Bool}{rest:WS}{d:Nd×WS×Bool}(h:Mz 2 f rest=some d):Head d.1∧d.1.im.px=[]:=by
 unfold Mz at h
 obtain⟨i,_,h⟩:=Option.bind_eq_some_iff.1 h
 obtain⟨d1,_,h⟩:=Option.bind_eq_some_iff.1 h
 rw[if_neg Zd,if_pos rfl]at h
 obtain⟨o,_,h⟩:=Option.bind_eq_some_iff.1 h
 obtain⟨b,_,rfl⟩:=Option.map_eq_some_iff.1 h
 exact⟨⟨rfl,rfl,rfl,rfl,rfl⟩,rfl⟩
theorem head_3{f:Bool}{rest:WS}{d:Nd×WS×Bool}(h:Mz 3 f rest=some d):Head d.1∧d.1.path=[]:=by
 unfold Mz at h
 obtain⟨i,_,h⟩:=Option.bind_eq_some_iff.1 h
 obtain⟨d1,_,h⟩:=Option.bind_eq_some_iff.1 h
 rw[if_neg Zd,if_neg Zd]at h
 obtain⟨o,_,h⟩:=Option.bind_eq_some_iff.1 h
 obtain⟨b,_,rfl⟩:=Option.map_eq_some_iff.1 h
 exact⟨⟨rfl,rfl,rfl,rfl,rfl⟩,rfl⟩
section
variable{W w w':World}{gt gr n c:Nat}{A:Option Addr}{y:Option Addr×Nat}{ws0 rest:WS}{f:Bool}{L:List (Nd×ND)}{S:TS}{e:Ending}
def begP(S:TS)(k:Int)(f:Bool)(ws:WS):Option (TS×WS×Bool):=if S.wh≠1∧0<S.ln then(Mz k f ws).map fun n=>({S with nds:=S.nds++ [n.1],wh:=1},n.2.1,n.2.2)else none
theorem Ea{x:Nd×ND}:Xb (L++ [x])=Xb L++X9 x.1 x.2:=by unfold Xb;simp
theorem NsRd.snoc{v:World}{x:Nd×ND}(h:NsRd L v)(hx:Jv x.1 x.2 125 v):NsRd (L++ [x]) v:=fun z hz=>by
 rcases List.mem_append.1 hz with hz|hz
 ·exact h z hz
 ·obtain rfl:z=x:=by simpa using hz
  exact hx
theorem beg_post{X:Type}{k:Int}{nd:X→ND}{bk:X→Nat→Prop}{yy:X→Option Addr×Nat}{R:Nat→Prop}{LL:List Nat}{G0:World→Prop}(hE:L.map (·.1)=S.nds)
 (h:Vv w LL Qn G0 (if S.wh≠1∧0<(S.ln:Nat)then Mz k f rest else none) (fun _ (_:X)=> .tuple #[]) (fun d x u=>K5 u gr (L7 A n c d.2.1.length d.2.2)∧K5 u gt (Y6 S.w S.h (S.bg.1.toNat:Int) (S.bg.2.1.toNat:Int) (S.bg.2.2.1.toNat:Int) (S.bg.2.2.2.toNat:Int) (.slice (yy x).1 (L.length+1) (yy x).2) 1 S.ln S.far)∧
  K6 u W.heap.size 52 47 (yy x).1 (L.length+1) (yy x).2 (Xb L++X9 d.1 (nd x))∧Lj (bk x) (fun v=>Jv d.1 (nd x) 125 v) u∧(∀b∈bl (yy x).1,b∈bl y.1∨w.heap.size≤b)∧∀b,bk x b→b∉bl (yy x).1) e w')
 (hQ:∀x b,bk x b→R b) (hR:∀b,w.heap.size≤b→R b):
 Vv w LL Qn G0 (begP S k f rest) (fun _ (_:Gh YL R)=> .tuple #[]) (fun d x u=>K5 u gr (L7 A n c d.2.1.length d.2.2)∧T0 W gt y L d.1 R x.1 u) e w':=by
 unfold begP
 by_cases hc:S.wh≠1∧0<S.ln
 ·rw[if_pos hc]at h ⊢
  cases hq:Mz k f rest with
  |none=>rw[hq]at h;exact h
  | some d=>
   rw[hq]at h
   obtain⟨x,h1,h2,h3⟩:=h
   exact⟨⟨((yy x,L++ [(d.1,nd x)]),bk x),hQ x⟩,h1,h2,fun w'' k1 k2=>by
    obtain⟨a1,a2,a3,a4,a5,a6⟩:=h3 w'' k1 k2
    exact⟨a1,⟨by show K5 w'' gt (Y6 _ _ _ _ _ _ (.slice _ (L++ [(d.1,nd x)]).length _) _ _ _);rw[List.length_append];exact a2,by show K6 w'' _ _ _ _ (L++ [(d.1,nd x)]).length _ _;rw[List.length_append,Ea];exact a3,by show(L++ [(d.1,nd x)]).map (·.1)=S.nds++ [d.1];rw[List.map_append,hE];rfl,a4.imp fun v hv hL=>hL.snoc hv,fun b hb=>(a5 b hb).imp id (hR b),a6⟩⟩⟩
 ·rw[if_neg hc]at h ⊢;exact h
theorem begin_t{k:List UInt8}{R:Nat→Prop}(hk:Ue k≠0)(hM:ML W)(hmm:L.length<1000000)(hE:L.map (·.1)=S.nds)(hO:K6 w W.heap.size 52 47 y.1 L.length y.2 (Xb L))(hA:∀b∈bl y.1,b≠gt∧b≠gr)(hQ:∀b,w.heap.size≤b→R b)(T:TE W w gt gr (bl y.1) A n c ws0)(hs:Ph ws0 n rest)(ht:K5 w gt (Em S y L.length))(hr:K5 w gr (L7 A n c rest.length f)):
 Calls Tryz.prog 80 #[Zq gt 0,Zq gr 0,K4 k] w
 (Vv w (gt::gr::bl y.1) Qn (Qw gt S.ln) (begP S (Ue k) f rest) (fun _ (_:Gh YL R)=> .tuple #[]) (fun d x u=>K5 u gr (L7 A n c d.2.1.length d.2.2)∧T0 W gt y L d.1 R x.1 u)):=by
 unfold Ue at hk ⊢
 by_cases h1:k=Ze
 ·subst h1
  rw[if_pos rfl]
  refine(begin_group hmm hO hA T hs ht hr).mono fun e w' h=>beg_post (X:=Option Addr×Nat) (nd:=fun _=>Eb (none,0)) (bk:=fun _ _=>False) (yy:=fun z=>z) hE ?_ (fun x b hb=>hb.elim) hQ
  revert h
  generalize hq:(if S.wh≠1∧0<(S.ln:Nat)then Mz 1 f rest else none)=q
  intro h
  cases q with
  |none=>exact h
  | some d=>
   have hd:Head d.1∧d.1.path=[]∧d.1.im.px=[]:=by split at hq;exact head_1 hq;cases hq
   obtain⟨x,h1,h2,h3⟩:=h
   exact⟨x,h1,h2,fun w'' k1 k2=>by
    obtain⟨a1,a2,a3,a4⟩:=h3 w'' k1 k2
    exact⟨a1,a2,a3,Lj.triv fun v=>hd.1.nrd (by rw[hd.2.1];exact Qt.nil_) (by rw[hd.2.2];exact Ma.nil_),a4,fun b hb=>hb.elim⟩⟩
 rw[if_neg h1]at hk ⊢
 by_cases h2:k=Z6
 ·subst h2
  rw[if_pos rfl]
  refine(begin_shape hM hmm hO hA hQ T hs ht hr).mono fun e w' h=>beg_post (X:=Gh (Option Addr×Nat) R×(Option Addr×Nat)) (nd:=fun x=>Eb x.1.1.1) (bk:=fun x=>x.1.1.2) (yy:=fun x=>x.2) hE ?_ (fun x b hb=>x.1.2 b hb) hQ
  revert h
  generalize hq:(if S.wh≠1∧0<(S.ln:Nat)then Mz 2 f rest else none)=q
  intro h
  cases q with
  |none=>exact h
  | some d=>
   have hd:Head d.1∧d.1.im.px=[]:=by split at hq;exact head_2 hq;cases hq
   obtain⟨x,h1,h2,h3⟩:=h
   exact⟨x,h1,h2,fun w'' k1 k2=>by
    obtain⟨a1,a2,a3,a4,a5,a6⟩:=h3 w'' k1 k2
    exact⟨a1,a2,a3,a4.imp fun v hv=>hd.1.nrd hv (by rw[hd.2];exact Ma.nil_),a5,a6⟩⟩
 rw[if_neg h2]at hk ⊢
 by_cases h3:k=Bs
 ·subst h3
  rw[if_pos rfl]
  refine(begin_image hmm hO hA hQ T hs ht hr).mono fun e w' h=>beg_post (X:=Gh (Option Addr×Nat) R×(Option Addr×Nat)) (nd:=fun x=>nd0I x.1.1.1) (bk:=fun x=>x.1.1.2) (yy:=fun x=>x.2) hE ?_ (fun x b hb=>x.1.2 b hb) hQ
  revert h
  generalize hq:(if S.wh≠1∧0<(S.ln:Nat)then Mz 3 f rest else none)=q
  intro h
  cases q with
  |none=>exact h
  | some d=>
   have hd:Head d.1∧d.1.path=[]:=by split at hq;exact head_3 hq;cases hq
   obtain⟨x,h1,h2,h3⟩:=h
   exact⟨x,h1,h2,fun w'' k1 k2=>by
    obtain⟨a1,a2,a3,a4,a5,a6⟩:=h3 w'' k1 k2
    exact⟨a1,a2,a3,a4.imp fun v hv=>hd.1.nrd (by rw[hd.2];exact Qt.nil_) hv,a5,a6⟩⟩
 ·rw[if_neg h3]at hk
  exact absurd rfl hk
end
end Go.Proofs.YtoeiphicmcndlaaGreatDoor
