/-
 Paints as text: the reader.
-/
import Derived.Test.YtoeiphicmcndlaaGreatDoorYA
namespace Go.Proofs.YtoeiphicmcndlaaGreatDoor
set_option maxRecDepth 100000
set_option maxHeartbeats 8000000
set_option linter.unusedVariables false
set_option linter.unusedSimpArgs false
open Go.RowKit
def dblk(A:Option Addr)(c:Nat):List Nat:=match A with|some p=>if c=0 then []else [p.block]|none=>[]
theorem Py.dblk{w:World}{B:Nat}{A:Option Addr}{n c:Nat}{l:List Nat}(h:Py w B A n c l):∀b∈dblk A c,B≤b∧∃cs ty own,w.heap[b]? =some (.cells cs ty own):=by
 intro b hb
 unfold Go.Proofs.YtoeiphicmcndlaaGreatDoor.dblk at hb
 split at hb
 ·split at hb
  ·cases hb
  ·rename_i p h0
   obtain⟨g,cur,t,hA,hB,hh,_⟩:=h.own Zo
   injection hA with hA
   subst hA
   simp only[List.mem_singleton]at hb
   subst hb
   exact⟨hB,_,_,_,hh⟩
 ·cases hb
theorem Py.dsame{w w':World}{B:Nat}{A:Option Addr}{n c:Nat}{l:List Nat}(h:Py w B A n c l)(e1:w.heap.size≤w'.heap.size)(e2:∀b∈Go.Proofs.YtoeiphicmcndlaaGreatDoor.dblk A c,w'.heap[b]? =w.heap[b]?):Py w' B A n c l:=by
 have hkeep:∀p,A=some p→0<c→w'.heap[p.block]? =w.heap[p.block]? :=fun p hp h0=>e2 _ (by unfold Go.Proofs.YtoeiphicmcndlaaGreatDoor.dblk;rw[hp];simp;omega)
 refine⟨⟨h.dig,h.len,h.le,h.cap,h.rd.1,fun h0=> ?_⟩,fun h0=> ?_⟩
 ·obtain⟨x,hA,hb,hc⟩:=h.rd.2 h0
  have hle:=h.le
  refine⟨x,hA,Nat.lt_of_lt_of_le hb e1,fun j u hu=> ?_⟩
  have e:w'.cell? (x.add j)=w.cell? (x.add j):=World.cell?_of_block (by rw[Ov];exact hkeep x hA Zo)
  exact e.trans (hc j u hu)
 ·obtain⟨g,cur,t,hA,hB,hh,hs⟩:=h.own h0
  exact⟨g,cur,t,hA,hB,(hkeep _ hA h0).trans hh,hs⟩
theorem T7.dsame{v:SV}{x:Int}{K:Nat}{w w':World}(h:T7 v x K w)(e1:w.heap.size≤w'.heap.size)(e2:∀b∈dblk v.A v.c,w'.heap[b]? =w.heap[b]?):T7 v x K w':=by
 have ho:=h.2.2.2.dsame e1 e2
 exact⟨⟨ho.toIn,h.1.zi,h.1.le⟩,h.2.1,h.2.2.1,ho⟩
def qblk(r:RV):List Nat:=dblk r.a.A r.a.c++dblk r.b.A r.b.c
theorem Nr.dsame{r:RV}{q:Rat}{K:Nat}{w w':World}(h:Nr r q K w)(e1:w.heap.size≤w'.heap.size)(e2:∀b∈qblk r,w'.heap[b]? =w.heap[b]?):Nr r q K w':=
 ⟨h.1.dsame e1 fun b hb=>e2 b (by unfold qblk;simp[hb]),h.2.dsame e1 fun b hb=>e2 b (by unfold qblk;simp[hb])⟩
theorem Nr.dblk{r:RV}{q:Rat}{K:Nat}{w:World}(h:Nr r q K w):∀b∈qblk r,b<w.heap.size:=fun b hb=>by
 unfold qblk at hb
 rcases List.mem_append.1 hb with hb|hb
 ·obtain⟨_,_,_,_,h2⟩:=h.1.2.2.2.dblk b hb
  exact(Array.getElem?_eq_some_iff.1 h2).1
 ·obtain⟨_,_,_,_,h2⟩:=h.2.2.2.2.dblk b hb
  exact(Array.getElem?_eq_some_iff.1 h2).1
def QF(N:Nat)(r:RV)(q:Rat)(u:World):Prop:=Nr r q 125 u∧∀b∈qblk r,N≤b
theorem QF.same{N:Nat}{r:RV}{q:Rat}{w w':World}(h:QF N r q w)(e1:w.heap.size≤w'.heap.size)(e2:∀b,N≤b→b<w.heap.size→w'.heap[b]? =w.heap[b]?):QF N r q w':=
 ⟨h.1.dsame e1 fun b hb=>e2 b (h.2 b hb) (h.1.dblk b hb),h.2⟩
theorem QF.left{N g:Nat}{r:RV}{q:Rat}{wa u:World}(hg:g<N)(h:QF N r q wa)(e1:wa.heap.size=u.heap.size)(e2:∀b,b∉[g]→wa.heap[b]? =u.heap[b]?):QF N r q u:=
 h.same Zo fun b h1 _=>(e2 b Zp).symm
structure AF(N:Nat)(t:TV)(T:Y0)(u:World):Prop where
 a:QF N t.a T.a u
 b:QF N t.b T.b u
 c:QF N t.c T.c u
 d:QF N t.d T.d u
 e:QF N t.e T.e u
 f:QF N t.f T.f u
theorem AF.same{N:Nat}{t:TV}{T:Y0}{w w':World}(h:AF N t T w)(e1:w.heap.size≤w'.heap.size)(e2:∀b,N≤b→b<w.heap.size→w'.heap[b]? =w.heap[b]?):AF N t T w':=
 ⟨h.a.same e1 e2,h.b.same e1 e2,h.c.same e1 e2,h.d.same e1 e2,h.e.same e1 e2,h.f.same e1 e2⟩
theorem AF.left{N g:Nat}{t:TV}{T:Y0}{wa u:World}(hg:g<N)(h:AF N t T wa)(e1:wa.heap.size=u.heap.size)(e2:∀b,b∉[g]→wa.heap[b]? =u.heap[b]?):AF N t T u:=
 h.same Zo fun b h1 _=>(e2 b Zp).symm
section
variable{w W:World}{g n c m:Nat}{A:Option Addr}{f:Bool}{s l:List UInt8}{ws0 rest r:WS}
theorem Oe{X:Type}{cs:List Value}{val:X→Value}{G:X→World→Prop}{w1:World}(x:X)(hW:Below W.heap.size W w)(hw:Below W.heap.size W w1)(h:Om W w g cs w1)
 (hG:∀w'',w1.heap.size≤w''.heap.size→(∀b,b∈[g]∨(w.heap.size≤b∧b<w1.heap.size)→w''.heap[b]? =w1.heap[b]?)→G x w''):Nm w [g] val G (.returned (val x)) w1:=
 ⟨x,rfl,⟨hw.os.trans hW.os.symm,hw.tape.trans hW.tape.symm,hw.output.trans hW.output.symm,h.1,fun k hk hkl=>by
  rcases Nat.lt_or_ge k W.heap.size with h4|h4
  ·rw[hw.block k h4,hW.block k h4]
  ·exact h.2.1 k h4 hk fun e=>hkl (by simp[e])⟩,hG⟩
theorem Yh{N:Nat}(hN:N≤w.heap.size)(h0:Ia l=0)(hM:ML w)(hL:l.length≤65536):Calls Tryz.prog 145 #[K4 l] w (K7 w (fun r:RV=> .tuple #[r.val,Zi 0]) fun r u=>QF N r (Dh l) u):=by
 refine(T8 h0 hM Zo).mono fun e w' k=> ?_
 obtain⟨r,h1,h2,h3⟩:=k
 have hq:∀w'',w'.heap.size≤w''.heap.size→(∀b,w.heap.size≤b→b<w'.heap.size→w''.heap[b]? =w'.heap[b]?)→Nr r (Dh l) 125 w'':=fun w'' k1 k2=>by
  have t:OutQ r 0 (Dh l) 125 w'':=h3 w'' k1 k2
  unfold OutQ at t
  rwa [if_pos rfl]at t
 refine⟨r,h1,h2,fun w'' k1 k2=>⟨hq w'' k1 k2,fun b hb=> ?_⟩⟩
 refine Nat.le_trans hN (Nat.le_of_not_lt fun hn=> ?_)
 have hlt:=(hq w' (Nat.le_refl _) fun _ _ _=>rfl).dblk b hb
 have h4:=hq {w' with heap:=w'.heap.setIfInBounds b (.pending #[] 0)} Zs fun k k1 k2=>by
  rw[Array.getElem?_setIfInBounds_ne Zo]
 unfold qblk at hb
 rcases List.mem_append.1 hb with hb|hb
 ·obtain⟨_,cs,ty,own,h5⟩:=h4.1.2.2.2.dblk b hb
  rw[Array.getElem?_setIfInBounds_self_of_lt hlt]at h5;cases h5
 ·obtain⟨_,cs,ty,own,h5⟩:=h4.2.2.2.2.dblk b hb
  rw[Array.getElem?_setIfInBounds_self_of_lt hlt]at h5;cases h5
theorem affine_t(hM:ML W)(hR:RE W w g A n c ws0)(hs:Ph ws0 n rest)(hb:K5 w g (L7 A n c rest.length f)):Calls Tryz.prog 90 #[Zq g 0] w
 (Ld w [g] Qn (En f rest) (fun d (t:TV)=>t.val) (fun d t u=>K5 u g (L7 A n c d.2.1.length d.2.2)∧AF w.heap.size t d.1 u)):=by
 have lg:=hR.lg
 have hg:=hb.lt
 refine K0.enterB Tryz.func90 rfl hR.hW lg hb <| ZR ?_
 obtain⟨o,ho⟩:∃o,o=En f rest:=⟨_,rfl⟩
 rw[←ho]
 refine K0.un Zk <| ZR <| ZI true ?_
 cases rest with
 |nil=>
  have hN:o=none:=by rw[ho];unfold En;rfl
  rw[hN]
  exact K0.mutx (L:=[g]) (Φ':=fun u=>Me W w g u) (fun w1 hw h=>Qk (hR.next hw h) h.2.2) (fun u h=>K9 (cs':=[]) lg u h) (fun wa u e1 e2 h _=>Mn wa u e1 e2 h) Zk Zk <| K0.pan fun w1 hw h=>Mm hR.hW hw h
 | cons s0 r0=>
  have hs0:=Ph.tail hs
  have hl0:=hR.mem hs
  refine K0.mut (L:=[g]) (Φ':=fun _ u=>Om W w g (L7 A n c r0.length f) u) (fun w1 hw h=>Oq (hR.next hw h) hs h.2.2) (fun u h=>K9 (cs':=[]) lg u h) (fun _ wa u e1 e2 h hG=>Kg wa u e1 e2 h hG) Zk Zk fun _=>ZR ?_
  by_cases p0:Ia s0=0
  case neg=>
   have hN:o=none:=by rw[ho];unfold En;rw[Kt,if_neg p0];rfl
   rw[hN]
   exact ZC (fun w1 hw h=>T8 (l:=s0) rfl (hM.below hw) Zo) fun u=>ZJ ((Ia s0 !=0)) true (by simpa using p0) <| K0.throw (Instr.panic Ke >>= fun v=>pure (.value v)) Ke Zk (fun w1 hw h=>by simp[Instr.panic,Ke,Go.goPanic]) Zk <| K0.pan fun w1 hw h=>Mg hR.hW hw h.1
  refine ZC (fun w1 hw h=>Yh (N:=w.heap.size) h.1 p0 (hM.below hw) hl0) fun q0=>ZI false <| K0.drop 5 Zk fun _=>ZI true ?_
  cases r0 with
  |nil=>
   have hN:o=none:=by rw[ho];unfold En;rw[Kt,if_pos p0];simp only[Option.bind_some];rfl
   rw[hN]
   exact K0.mutx (L:=[g]) (Φ':=fun u=>Me W w g u) (fun w1 hw h=>Qk (hR.next hw h.1) h.1.2.2) (fun u h=>K9 (cs':=[]) lg u h.1) (fun wa u e1 e2 h _=>Mn wa u e1 e2 h.1) Zk Zk <| K0.pan fun w1 hw h=>Mm hR.hW hw h
  | cons s1 r1=>
   have hs1:=Ph.tail hs0
   have hl1:=hR.mem hs0
   refine K0.mut (L:=[g]) (Φ':=fun _ u=>Om W w g (L7 A n c r1.length f) u∧QF w.heap.size q0 (Dh s0) u) (fun w1 hw h=>Oq (hR.next hw h.1) hs0 h.1.2.2) (fun u h=>K9 (cs':=[]) lg u h.1) (fun _ wa u e1 e2 h hG=>⟨Kg wa u e1 e2 h.1 hG,QF.left hg h.2 e1 e2⟩) Zk Zk fun _=>ZR ?_
   by_cases p1:Ia s1=0
   case neg=>
    have hN:o=none:=by rw[ho];unfold En;rw[Kt,if_pos p0];simp only[Option.bind_some];rw[Kt,if_neg p1];rfl
    rw[hN]
    exact ZC (fun w1 hw h=>T8 (l:=s1) rfl (hM.below hw) Zo) fun u=>ZJ ((Ia s1 !=0)) true (by simpa using p1) <| K0.throw (Instr.panic Ke >>= fun v=>pure (.value v)) Ke Zk (fun w1 hw h=>by simp[Instr.panic,Ke,Go.goPanic]) Zk <| K0.pan fun w1 hw h=>Mg hR.hW hw h.1.1
   refine ZC (fun w1 hw h=>Yh (N:=w.heap.size) h.1.1 p1 (hM.below hw) hl1) fun q1=>ZI false <| K0.drop 5 Zk fun _=>ZI true ?_
   cases r1 with
   |nil=>
    have hN:o=none:=by rw[ho];unfold En;rw[Kt,if_pos p0];simp only[Option.bind_some];rw[Kt,if_pos p1];simp only[Option.bind_some];rfl
    rw[hN]
    exact K0.mutx (L:=[g]) (Φ':=fun u=>Me W w g u) (fun w1 hw h=>Qk (hR.next hw h.1.1) h.1.1.2.2) (fun u h=>K9 (cs':=[]) lg u h.1.1) (fun wa u e1 e2 h _=>Mn wa u e1 e2 h.1.1) Zk Zk <| K0.pan fun w1 hw h=>Mm hR.hW hw h
   | cons s2 r2=>
    have hs2:=Ph.tail hs1
    have hl2:=hR.mem hs1
    refine K0.mut (L:=[g]) (Φ':=fun _ u=>Om W w g (L7 A n c r2.length f) u∧QF w.heap.size q0 (Dh s0) u∧QF w.heap.size q1 (Dh s1) u) (fun w1 hw h=>Oq (hR.next hw h.1.1) hs1 h.1.1.2.2) (fun u h=>K9 (cs':=[]) lg u h.1.1) (fun _ wa u e1 e2 h hG=>⟨Kg wa u e1 e2 h.1.1 hG,QF.left hg h.1.2 e1 e2,QF.left hg h.2 e1 e2⟩) Zk Zk fun _=>ZR ?_
    by_cases p2:Ia s2=0
    case neg=>
     have hN:o=none:=by rw[ho];unfold En;rw[Kt,if_pos p0];simp only[Option.bind_some];rw[Kt,if_pos p1];simp only[Option.bind_some];rw[Kt,if_neg p2];rfl
     rw[hN]
     exact ZC (fun w1 hw h=>T8 (l:=s2) rfl (hM.below hw) Zo) fun u=>ZJ ((Ia s2 !=0)) true (by simpa using p2) <| K0.throw (Instr.panic Ke >>= fun v=>pure (.value v)) Ke Zk (fun w1 hw h=>by simp[Instr.panic,Ke,Go.goPanic]) Zk <| K0.pan fun w1 hw h=>Mg hR.hW hw h.1.1
    refine ZC (fun w1 hw h=>Yh (N:=w.heap.size) h.1.1 p2 (hM.below hw) hl2) fun q2=>ZI false <| K0.drop 5 Zk fun _=>ZI true ?_
    cases r2 with
    |nil=>
     have hN:o=none:=by rw[ho];unfold En;rw[Kt,if_pos p0];simp only[Option.bind_some];rw[Kt,if_pos p1];simp only[Option.bind_some];rw[Kt,if_pos p2];simp only[Option.bind_some];rfl
     rw[hN]
     exact K0.mutx (L:=[g]) (Φ':=fun u=>Me W w g u) (fun w1 hw h=>Qk (hR.next hw h.1.1) h.1.1.2.2) (fun u h=>K9 (cs':=[]) lg u h.1.1) (fun wa u e1 e2 h _=>Mn wa u e1 e2 h.1.1) Zk Zk <| K0.pan fun w1 hw h=>Mm hR.hW hw h
    | cons s3 r3=>
     have hs3:=Ph.tail hs2
     have hl3:=hR.mem hs2
     refine K0.mut (L:=[g]) (Φ':=fun _ u=>Om W w g (L7 A n c r3.length f) u∧QF w.heap.size q0 (Dh s0) u∧QF w.heap.size q1 (Dh s1) u∧QF w.heap.size q2 (Dh s2) u) (fun w1 hw h=>Oq (hR.next hw h.1.1) hs2 h.1.1.2.2) (fun u h=>K9 (cs':=[]) lg u h.1.1) (fun _ wa u e1 e2 h hG=>⟨Kg wa u e1 e2 h.1.1 hG,QF.left hg h.1.2.1 e1 e2,QF.left hg h.1.2.2 e1 e2,QF.left hg h.2 e1 e2⟩) Zk Zk fun _=>ZR ?_
     by_cases p3:Ia s3=0
     case neg=>
      have hN:o=none:=by rw[ho];unfold En;rw[Kt,if_pos p0];simp only[Option.bind_some];rw[Kt,if_pos p1];simp only[Option.bind_some];rw[Kt,if_pos p2];simp only[Option.bind_some];rw[Kt,if_neg p3];rfl
      rw[hN]
      exact ZC (fun w1 hw h=>T8 (l:=s3) rfl (hM.below hw) Zo) fun u=>ZJ ((Ia s3 !=0)) true (by simpa using p3) <| K0.throw (Instr.panic Ke >>= fun v=>pure (.value v)) Ke Zk (fun w1 hw h=>by simp[Instr.panic,Ke,Go.goPanic]) Zk <| K0.pan fun w1 hw h=>Mg hR.hW hw h.1.1
     refine ZC (fun w1 hw h=>Yh (N:=w.heap.size) h.1.1 p3 (hM.below hw) hl3) fun q3=>ZI false <| K0.drop 5 Zk fun _=>ZI true ?_
     cases r3 with
     |nil=>
      have hN:o=none:=by rw[ho];unfold En;rw[Kt,if_pos p0];simp only[Option.bind_some];rw[Kt,if_pos p1];simp only[Option.bind_some];rw[Kt,if_pos p2];simp only[Option.bind_some];rw[Kt,if_pos p3];simp only[Option.bind_some];rfl
      rw[hN]
      exact K0.mutx (L:=[g]) (Φ':=fun u=>Me W w g u) (fun w1 hw h=>Qk (hR.next hw h.1.1) h.1.1.2.2) (fun u h=>K9 (cs':=[]) lg u h.1.1) (fun wa u e1 e2 h _=>Mn wa u e1 e2 h.1.1) Zk Zk <| K0.pan fun w1 hw h=>Mm hR.hW hw h
     | cons s4 r4=>
      have hs4:=Ph.tail hs3
      have hl4:=hR.mem hs3
      refine K0.mut (L:=[g]) (Φ':=fun _ u=>Om W w g (L7 A n c r4.length f) u∧QF w.heap.size q0 (Dh s0) u∧QF w.heap.size q1 (Dh s1) u∧QF w.heap.size q2 (Dh s2) u∧QF w.heap.size q3 (Dh s3) u) (fun w1 hw h=>Oq (hR.next hw h.1.1) hs3 h.1.1.2.2) (fun u h=>K9 (cs':=[]) lg u h.1.1) (fun _ wa u e1 e2 h hG=>⟨Kg wa u e1 e2 h.1.1 hG,QF.left hg h.1.2.1 e1 e2,QF.left hg h.1.2.2.1 e1 e2,QF.left hg h.1.2.2.2 e1 e2,QF.left hg h.2 e1 e2⟩) Zk Zk fun _=>ZR ?_
      by_cases p4:Ia s4=0
      case neg=>
       have hN:o=none:=by rw[ho];unfold En;rw[Kt,if_pos p0];simp only[Option.bind_some];rw[Kt,if_pos p1];simp only[Option.bind_some];rw[Kt,if_pos p2];simp only[Option.bind_some];rw[Kt,if_pos p3];simp only[Option.bind_some];rw[Kt,if_neg p4];rfl
       rw[hN]
       exact ZC (fun w1 hw h=>T8 (l:=s4) rfl (hM.below hw) Zo) fun u=>ZJ ((Ia s4 !=0)) true (by simpa using p4) <| K0.throw (Instr.panic Ke >>= fun v=>pure (.value v)) Ke Zk (fun w1 hw h=>by simp[Instr.panic,Ke,Go.goPanic]) Zk <| K0.pan fun w1 hw h=>Mg hR.hW hw h.1.1
      refine ZC (fun w1 hw h=>Yh (N:=w.heap.size) h.1.1 p4 (hM.below hw) hl4) fun q4=>ZI false <| K0.drop 5 Zk fun _=>ZI true ?_
      cases r4 with
      |nil=>
       have hN:o=none:=by rw[ho];unfold En;rw[Kt,if_pos p0];simp only[Option.bind_some];rw[Kt,if_pos p1];simp only[Option.bind_some];rw[Kt,if_pos p2];simp only[Option.bind_some];rw[Kt,if_pos p3];simp only[Option.bind_some];rw[Kt,if_pos p4];simp only[Option.bind_some];rfl
       rw[hN]
       exact K0.mutx (L:=[g]) (Φ':=fun u=>Me W w g u) (fun w1 hw h=>Qk (hR.next hw h.1.1) h.1.1.2.2) (fun u h=>K9 (cs':=[]) lg u h.1.1) (fun wa u e1 e2 h _=>Mn wa u e1 e2 h.1.1) Zk Zk <| K0.pan fun w1 hw h=>Mm hR.hW hw h
      | cons s5 r5=>
       have hs5:=Ph.tail hs4
       have hl5:=hR.mem hs4
       refine K0.mut (L:=[g]) (Φ':=fun _ u=>Om W w g (L7 A n c r5.length f) u∧QF w.heap.size q0 (Dh s0) u∧QF w.heap.size q1 (Dh s1) u∧QF w.heap.size q2 (Dh s2) u∧QF w.heap.size q3 (Dh s3) u∧QF w.heap.size q4 (Dh s4) u) (fun w1 hw h=>Oq (hR.next hw h.1.1) hs4 h.1.1.2.2) (fun u h=>K9 (cs':=[]) lg u h.1.1) (fun _ wa u e1 e2 h hG=>⟨Kg wa u e1 e2 h.1.1 hG,QF.left hg h.1.2.1 e1 e2,QF.left hg h.1.2.2.1 e1 e2,QF.left hg h.1.2.2.2.1 e1 e2,QF.left hg h.1.2.2.2.2 e1 e2,QF.left hg h.2 e1 e2⟩) Zk Zk fun _=>ZR ?_
       by_cases p5:Ia s5=0
       case neg=>
        have hN:o=none:=by rw[ho];unfold En;rw[Kt,if_pos p0];simp only[Option.bind_some];rw[Kt,if_pos p1];simp only[Option.bind_some];rw[Kt,if_pos p2];simp only[Option.bind_some];rw[Kt,if_pos p3];simp only[Option.bind_some];rw[Kt,if_pos p4];simp only[Option.bind_some];rw[Kt,if_neg p5];rfl
        rw[hN]
        exact ZC (fun w1 hw h=>T8 (l:=s5) rfl (hM.below hw) Zo) fun u=>ZJ ((Ia s5 !=0)) true (by simpa using p5) <| K0.throw (Instr.panic Ke >>= fun v=>pure (.value v)) Ke Zk (fun w1 hw h=>by simp[Instr.panic,Ke,Go.goPanic]) Zk <| K0.pan fun w1 hw h=>Mg hR.hW hw h.1.1
       refine ZC (fun w1 hw h=>Yh (N:=w.heap.size) h.1.1 p5 (hM.below hw) hl5) fun q5=>ZI false ?_
       have hN:o=some (⟨Dh s0,Dh s1,Dh s2,Dh s3,Dh s4,Dh s5⟩,r5,f):=by rw[ho];unfold En;rw[Kt,if_pos p0];simp only[Option.bind_some];rw[Kt,if_pos p1];simp only[Option.bind_some];rw[Kt,if_pos p2];simp only[Option.bind_some];rw[Kt,if_pos p3];simp only[Option.bind_some];rw[Kt,if_pos p4];simp only[Option.bind_some];rw[Kt,if_pos p5];rfl
       rw[hN]
       refine ZI false <| ZV ((⟨q0,q1,q2,q3,q4,q5⟩:TV).val) (fun w1 hw h=>by have k:=h w1 (Nat.le_refl _) (fun _ _ _=>rfl);exact Oe (val:=fun t:TV=>t.val) (⟨q0,q1,q2,q3,q4,q5⟩:TV) hR.hW hw k.1.1 fun w'' k1 k2=>⟨k.1.1.2.2.to (k2 g (.inl Zs)),AF.same ⟨k.1.2.1,k.1.2.2.1,k.1.2.2.2.1,k.1.2.2.2.2.1,k.1.2.2.2.2.2,k.2⟩ k1 fun b b1 b2=>k2 b (.inr ⟨b1,b2⟩)⟩)
end
def Ri(x:Int×Co):List Value:=[Zi x.1,.int .u8 (x.2.1.toNat:Int),.int .u8 (x.2.2.1.toNat:Int),.int .u8 (x.2.2.2.1.toNat:Int),.int .u8 (x.2.2.2.2.toNat:Int)]
def stC(l:List (Int×Co)):List Value:=l.flatMap Ri
section
variable{w W:World}{g n c m:Nat}{A:Option Addr}{f:Bool}{s l:List UInt8}{ws0 rest r:WS}
theorem K0.panF{P:Program}{Φ:World→Prop}{cf:Nn}{fn:Func}{R:Ending→World→Prop}{ch:List PanicEntry}(hc:cf.foc= .out (.panic ch))(h:∀w,Below W.heap.size W w→Φ w→R (.panicked ch) w):K0 P [] W (bodyPost P fn R) Φ cf:=by
 obtain⟨foc,k,σ⟩:=cf
 simp only at hc
 subst hc
 exact⟨fun hwf β a w hr=>Yg k ⟨hr.defers,h w hr.bel hr.phi⟩⟩
theorem Hs{cs:List Value}{L:List Nat}{wa u:World}(hL:∀b∈L,w.heap.size≤b)(hg:g<w.heap.size)(e1:wa.heap.size=u.heap.size)(e2:∀b,b∉L→wa.heap[b]? =u.heap[b]?)(h:Om W w g cs wa):Om W w g cs u:=
 ⟨by rw[←e1];exact h.1,fun b h1 h2 h3=>(e2 b fun hb=>by have:=hL b hb;omega).symm.trans (h.2.1 b h1 h2 h3),h.2.2.to (e2 g fun hb=>by have:=hL g hb;omega).symm⟩
theorem Cv{u:World}{e:TypeId}{s m cc:Nat}{y:Option Addr}{xs:List Value}(h:K6 u w.heap.size e s y m cc xs)(hg:g<w.heap.size):∀b∈bl y,b∉[g]:=fun b hb hm=>by
 have:=(h.lt b hb).1
 simp only[List.mem_singleton]at hm
 omega
theorem app_stop{B m yc gb:Nat}{y:Option Addr}{acc:List (Int×Co)}{x:Int×Co}(ho:K6 w B 139 5 y m yc (stC acc))(hB:B≤w.heap.size)(hg:L4 139 (Ri x).toArray gb w)(hm:m<1000000):
 Ot Tryz.prog w (bl y) (fun z:Option Addr×Nat=> .slice z.1 (m+1) z.2) (fun z v=>K6 v B 139 5 z.1 (m+1) z.2 (stC (acc++ [x]))) (M9 58 58 (.slice y m yc) (Kf 1 gb)):=by
 have ha:=O3 (P:=Tryz.prog) (s:=5) (z:= .agg (Ri (0,Uq)).toArray) (bytes:=16) (m:=1) (cc:=1) (t:=58) (elem:=139) Zk Zk rfl Zd ho hB (N5 (n:=1) hg rfl) (by intro v hv;simp[Ri]at hv;rcases hv with rfl|rfl|rfl|rfl|rfl<;>rfl) Zo Zd
 have e:stC (acc++ [x])=stC acc++Ri x:=by simp[stC]
 rw[e];exact ha
theorem rdN_one{v:WS}:(Vq f (s::v)=none→Vq f [s]=none)∧∀z r f',Vq f (s::v)=some (z,r,f')→r=v∧Vq f [s]=some (z,[],f'):=by
 have e:∀v:WS,Vq f (s::v)=if Rj s mnI mxI=0 then some (Xv s mnI mxI,v,f)else if Rj s mnI mxI=6 then some (0,v,true)else none:=fun v=>by
  unfold Vq;rw[Yf]
  split
  ·rfl
  ·split<;>rfl
 rw[e v,e []]
 by_cases h0:Rj s mnI mxI=0
 ·simp only[h0,if_true]
  exact⟨fun h=>(by cases h),fun z r f' h=>(by cases h;exact⟨rfl,rfl⟩)⟩
 ·by_cases h6:Rj s mnI mxI=6
  ·rw[if_neg h0,if_pos h6,if_neg h0,if_pos h6]
   refine⟨fun h=>(by cases h),fun z r f' h=> ?_⟩
   simp only[Option.some.injEq,Prod.mk.injEq]at h ⊢
   obtain⟨rfl,rfl,rfl⟩:=h
   simp
  ·rw[if_neg h0,if_neg h6,if_neg h0,if_neg h6]
   exact⟨fun _=>rfl,fun z r f' h=>by cases h⟩
theorem stops_t(hR:RE W w g A n c ws0)(hs:Ph ws0 n rest)(hb:K5 w g (L7 A n c rest.length f)):Calls Tryz.prog 91 #[Zq g 0] w
 (Ld w [g] Qn (rdS f rest) (fun d (y:Option Addr×Nat)=> .slice y.1 d.1.length y.2) (fun d y u=>K5 u g (L7 A n c 0 d.2)∧K6 u w.heap.size 139 5 y.1 d.1.length y.2 (stC d.1))):=by
 have lg:=hR.lg
 have hg:=hb.lt
 have hn2:=hR.hn2
 obtain⟨o,ho⟩:∃o,o=rdS f rest:=⟨_,rfl⟩
 rw[←ho]
 refine K0.enterB Tryz.func91 rfl hR.hW lg hb <| ZR <| K0.loop (ι:={q:(WS×Bool×List (Int×Co)×Nat)×(Option Addr×Nat) // Ph ws0 n q.1.1∧o=(rdS q.1.2.1 q.1.1).map (fun l=>(q.1.2.2.1++l.1,l.2))∧q.1.1.length+q.1.2.2.2≤n∧q.1.2.2.1.length=q.1.2.2.2}) 21 (fun q=>⟨[(0,.v (Zq g 0)),(3,.v (.slice q.1.2.1 q.1.1.2.2.2 q.1.2.2))],[]⟩) (fun q u=>Om W w g (L7 A n c q.1.1.1.length q.1.1.2.1) u∧K6 u w.heap.size 139 5 q.1.2.1 q.1.1.2.2.2 q.1.2.2 (stC q.1.1.2.2.1)) (fun q=>q.1.1.1.length) (⟨((rest,f,[],0),(none,0)),hs,by rw[ho];cases rdS f rest<;>simp,by have:=hs.2;simpa using this,rfl⟩) Zk (fun _=>by kernel_rfl) ⟨Zk,Zk,Zk⟩ (fun u h=>⟨h,K6.nil_⟩) ?_
 rintro⟨⟨⟨rest,f,acc,m⟩,y,yc⟩,hk⟩ gg
 have hs:Ph ws0 n rest:=hk.1
 have ho:o=(rdS f rest).map (fun l=>(acc++l.1,l.2)):=hk.2.1
 have hlen:rest.length+m≤n:=hk.2.2.1
 have hm:acc.length=m:=hk.2.2.2
 refine ZR ?_
 cases rest with
 |nil=>
  have hN:o=some (acc,f):=by rw[ho];simp[rdS]
  refine ZA (L5 66 ⟨g,0,none⟩) (rsl A n c 0) (fun w1 hw h=>K8 Zk (by rw[h.1.2.2.cell];rfl)) <| ZI false <| K0.leave Zk <| ZR <| ZV (.slice y m yc) (fun w1 hw h=>by rw[hN,←hm];have k:Om W w g (L7 A n c 0 f) w1∧K6 w1 w.heap.size 139 5 y m yc (stC acc):=h w1 (Nat.le_refl _) (fun _ _ _=>rfl);rw[←hm]at k;exact Oe (val:=fun y:Option Addr×Nat=> .slice y.1 acc.length y.2) (y,yc) hR.hW hw k.1 fun w'' k1 k2=>⟨k.1.2.2.to (k2 g (.inl Zs)),k.2.same fun b hb=>k2 b (.inr (k.2.lt b hb))⟩)
 | cons s r=>
  refine ZA (L5 66 ⟨g,0,none⟩) (rsl A n c (r.length+1)) (fun w1 hw h=>K8 Zk (by rw[h.1.2.2.cell];rfl)) <| ZJ (decide (((r.length+1:Nat):Int)>0)) true Zs ?_
  cases ho1:Vq f (s::r)with
  | none=>
   have hN:o=none:=by
    rw[ho]
    cases r with
    |nil=>rfl
    |cons k v=>rw[show rdS f (s::k::v)=(Vq f [s]).bind _ from rfl,rdN_one.1 ho1];rfl
   exact K0.mutx (L:=[g]) (Φ':=fun u=>Me W w g u) (fun w1 hw h=>by have t:=Mc (hR.next hw h.1) hs h.1.2.2;rw[ho1]at t;exact t) (fun u h=>K9 (cs':=[]) lg u h.1) (fun wa u e1 e2 h _=>Mn wa u e1 e2 h.1) Zk Zk <| ZR <| K0.leave Zk <| ZR <| K0.panF Zk fun w1 hw h=>by rw[hN];exact Mm hR.hW hw h
  | some d=>
   obtain⟨x,r1,f1⟩:=d
   obtain⟨rfl,ho3⟩:=rdN_one.2 _ _ _ ho1
   have hs1:=hs.tail
   refine K0.mut (L:=[g]) (Φ':=fun _ u=>Om W w g (L7 A n c r1.length f1) u∧K6 u w.heap.size 139 5 y m yc (stC acc)) (fun w1 hw h=>by have t:=Mc (hR.next hw h.1) hs h.1.2.2;rw[ho1]at t;exact t) (fun u h=>K9 (cs':=[]) lg u h.1) (fun _ wa u e1 e2 h hG=>⟨Kg wa u e1 e2 h.1 hG,K6.left h.2 e2 (Cv h.2 hg)⟩) Zk Zk fun _=>ZR ?_
   cases ho2:rdC f1 r1 with
   | none=>
    have hN:o=none:=by
     rw[ho]
     cases r1 with
     |nil=>rfl
     | cons k v=>
      have hc:U3 k=none:=by
       cases hc:U3 k with
       |none=>rfl
       |some q=>rw[show rdC f1 (k::v)=(U3 k).map _ from rfl,hc]at ho2;cases ho2
      rw[show rdS f (s::k::v)=(Vq f [s]).bind fun x=>(U3 k).bind fun q=>(rdS x.2.2 v).map fun l=>((x.1,q)::l.1,l.2)from rfl,ho3,Option.bind_some,hc,Option.bind_none];rfl
    exact K0.mutx (L:=[g]) (Φ':=fun u=>Me W w g u) (fun w1 hw h=>by have t:=Yq (hR.next hw h.1) hs1 h.1.2.2;rw[ho2]at t;exact t) (fun u h=>K9 (cs':=[]) lg u h.1) (fun wa u e1 e2 h _=>Mn wa u e1 e2 h.1) Zk Zk <| ZR <| K0.leave Zk <| ZR <| K0.panF Zk fun w1 hw h=>by rw[hN];exact Mm hR.hW hw h
   | some d=>
    obtain⟨k,r2,f2⟩:=d
    cases r1 with
    |nil=>cases ho2
    |cons k1 v=>
    obtain⟨hc,rfl,rfl⟩:U3 k1=some k∧v=r2∧f1=f2:=by
     rw[show rdC f1 (k1::v)=(U3 k1).map (fun c=>(c,v,f1))from rfl]at ho2
     obtain⟨q,q1,q2⟩:=Option.map_eq_some_iff.1 ho2
     cases q2;exact⟨q1,rfl,rfl⟩
    have hs2:=hs1.tail
    have ho4:o=(rdS f1 v).map (fun l=>(acc++ [(x,k)]++l.1,l.2)):=by
     rw[ho,show rdS f (s::k1::v)=(Vq f [s]).bind fun x=>(U3 k1).bind fun q=>(rdS x.2.2 v).map fun l=>((x.1,q)::l.1,l.2)from rfl,ho3,Option.bind_some,hc,Option.bind_some]
     cases rdS f1 v<;>simp
    refine K0.mut (L:=[g]) (Φ':=fun _ u=>Om W w g (L7 A n c v.length f1) u∧K6 u w.heap.size 139 5 y m yc (stC acc)) (fun w1 hw h=>by have t:=Yq (hR.next hw h.1) hs1 h.1.2.2;rw[ho2]at t;exact t) (fun u h=>K9 (cs':=[]) lg u h.1) (fun _ wa u e1 e2 h hG=>⟨Kg wa u e1 e2 h.1 hG,K6.left h.2 e2 (Cv h.2 hg)⟩) Zk Zk fun _=>ZS 5 <| K0.make (Lq (58) 1 #[(0,.agg (Ri (x,k)).toArray)]) (Kf 1) (L4 139 (Ri (x,k)).toArray) Zk (fun w1 hw h=>Kc Zk) fun gb=>ZS 6 <| K0.mutOp (L:=bl y) (val:=fun(z:Option Addr×Nat)=> .slice z.1 (m+1) z.2) (Φ':=fun(z:Option Addr×Nat) u=>Om W w g (L7 A n c v.length f1) u∧K6 u w.heap.size 139 5 z.1 (m+1) z.2 (stC (acc++ [(x,k)]))) (G:=fun(z:Option Addr×Nat) u=>K6 u w.heap.size 139 5 z.1 (m+1) z.2 (stC (acc++ [(x,k)]))) (M9 58 58 (.slice y m yc) (Kf 1 gb)) (fun w1 hw h=>app_stop h.1.2 h.1.1.1 h.2 (by simp only[List.length_cons]at hlen;omega)) (fun u h=>fun b hb=>⟨Nat.le_trans hR.hW.size (h.1.2.lt b hb).1,(h.1.2.blk b hb).2⟩) (fun z wa u e1 e2 h hG=>⟨Hs (fun b hb=>(h.1.2.lt b hb).1) hg e1 e2 h.1.1,hG⟩) Zk Zk fun z=>ZR <| K0.next (⟨((v,f1,acc++ [(x,k)],m+1),z),hs2,ho4,by simp only[List.length_cons]at hlen ⊢;omega,by simp[hm]⟩) Zk (by show v.length<(s::k1::v).length;simp only[List.length_cons];omega) ⟨Zk,Zk,Zk⟩ (fun u h=>h)
end
def Oa(c:Co):List Value:=[.int .u8 (c.1.toNat:Int),.int .u8 (c.2.1.toNat:Int),.int .u8 (c.2.2.1.toNat:Int),.int .u8 (c.2.2.2.toNat:Int)]
def pxC(l:List Co):List Value:=l.flatMap Oa
@[reducible] def imV(m:Im)(y:Option Addr×Nat):Value:= .agg #[Zi m.w,Zi m.h,.slice y.1 m.px.length y.2]
def ImageOk:Prop:=∀(w W:World) (g n c:Nat) (A:Option Addr) (f:Bool) (ws0 rest:WS),RE W w g A n c ws0→Ph ws0 n rest→K5 w g (L7 A n c rest.length f)→Calls Tryz.prog 92 #[Zq g 0] w
 (Ld w [g] Qn (Xt f rest) (fun d (y:Option Addr×Nat)=>imV d.1 y) (fun d y u=>K5 u g (L7 A n c d.2.1.length d.2.2)∧K6 u w.heap.size 152 4 y.1 d.1.px.length y.2 (pxC d.1.px)))
structure PM where
 sA:Option Addr
 sc:Nat
 xA:Option Addr
 xc:Nat
 t:TV
@[reducible] def X4(P:Pn)(q:PM):Value:= .agg (#[Zi P.kind,.int .u8 (P.co.1.toNat:Int),.int .u8 (P.co.2.1.toNat:Int),.int .u8 (P.co.2.2.1.toNat:Int),.int .u8 (P.co.2.2.2.toNat:Int),Zi P.p0x,Zi P.p0y,Zi P.p1x,Zi P.p1y,Zi P.rad,.slice q.sA P.stops.length q.sc,Zi P.spread,Zi P.im.w,Zi P.im.h,.slice q.xA P.im.px.length q.xc,Zi P.samp]++q.t.cl.toArray)
def Gg:TV:=⟨Ju,Ju,Ju,Ju,Ju,Ju⟩
def pm0:PM:=⟨none,0,none,0,Gg⟩
structure PAt(N:Nat)(P:Pn)(q:PM)(u:World):Prop where
 st:K6 u N 139 5 q.sA P.stops.length q.sc (stC P.stops)
 px:K6 u N 152 4 q.xA P.im.px.length q.xc (pxC P.im.px)
 tr:(P.kind<2∧P.T=Px∧q.t=Gg)∨(2≤P.kind∧AF N q.t P.T u)
theorem PAt.same{N:Nat}{P:Pn}{q:PM}{w w':World}(h:PAt N P q w)(e1:w.heap.size≤w'.heap.size)(e2:∀b,N≤b→b<w.heap.size→w'.heap[b]? =w.heap[b]?):PAt N P q w':=
 ⟨h.st.same fun b hb=>e2 b (h.st.lt b hb).1 (h.st.lt b hb).2,h.px.same fun b hb=>e2 b (h.px.lt b hb).1 (h.px.lt b hb).2,h.tr.imp id fun k=>⟨k.1,k.2.same e1 e2⟩⟩
section
variable{w W:World}{g n c m:Nat}{A:Option Addr}{f:Bool}{s l:List UInt8}{ws0 rest r:WS}
theorem Ye{z:Int×Int}{f':Bool}(hs:Ph ws0 n rest)(h:Iw f rest=some (z,r,f')):Ph ws0 n r:=by
 unfold Iw at h
 obtain⟨⟨x,r1,f1⟩,h1,h⟩:=Option.bind_eq_some_iff.1 h
 obtain⟨⟨y,r2,f2⟩,h2,h⟩:=Option.map_eq_some_iff.1 h
 cases h
 exact M2 (M2 hs h1) h2
theorem Cn{T:Y0}{f':Bool}(hs:Ph ws0 n rest)(h:En f rest=some (T,r,f')):Ph ws0 n r:=by
 unfold En at h
 obtain⟨⟨a,r1,f1⟩,h1,h⟩:=Option.bind_eq_some_iff.1 h
 obtain⟨⟨b,r2,f2⟩,h2,h⟩:=Option.bind_eq_some_iff.1 h
 obtain⟨⟨d,r3,f3⟩,h3,h⟩:=Option.bind_eq_some_iff.1 h
 obtain⟨⟨e,r4,f4⟩,h4,h⟩:=Option.bind_eq_some_iff.1 h
 obtain⟨⟨q,r5,f5⟩,h5,h⟩:=Option.bind_eq_some_iff.1 h
 obtain⟨⟨u,r6,f6⟩,h6,h⟩:=Option.map_eq_some_iff.1 h
 cases h
 exact Cj (Cj (Cj (Cj (Cj (Cj hs h1) h2) h3) h4) h5) h6
theorem rdIm_suf{m:Im}{f':Bool}(hs:Ph ws0 n rest)(h:Xt f rest=some (m,r,f')):Ph ws0 n r:=by
 unfold Xt at h
 obtain⟨⟨x,bx,r1,f1⟩,h1,h⟩:=Option.bind_eq_some_iff.1 h
 obtain⟨⟨y,by_,r2,f2⟩,h2,h⟩:=Option.bind_eq_some_iff.1 h
 have h3:=X0 (X0 hs h1) h2
 simp only at h
 cases r2 with
 |nil=>cases h
 | cons s r3=>
  simp only at h
  split at h
  ·cases h
  ·split at h
   ·cases h
   ·split at h
    ·cases h;exact h3.tail
    ·split at h
     ·cases h
     ·cases h;exact h3.tail
theorem Ld.imp{D X:Type}{L:List Nat}{ch:List PanicEntry}{q:Option D}{val:D→X→Value}{G G':D→X→World→Prop}{e:Ending}{w':World}(h:Ld w L ch q val G e w')(k:∀d x u,G d x u→G' d x u):Ld w L ch q val G' e w':=by
 cases q with
 |none=>exact h
 |some d=>
  obtain⟨x,h1,h2,h3⟩:=h
  exact⟨x,h1,h2,fun w'' k1 k2=>k _ _ _ (h3 w'' k1 k2)⟩
theorem QF.base{N N':Nat}{r:RV}{q:Rat}{u:World}(h:QF N r q u)(hN:N'≤N):QF N' r q u:=⟨h.1,fun b hb=>Nat.le_trans hN (h.2 b hb)⟩
theorem AF.base{N N':Nat}{t:TV}{T:Y0}{u:World}(h:AF N t T u)(hN:N'≤N):AF N' t T u:=⟨h.a.base hN,h.b.base hN,h.c.base hN,h.d.base hN,h.e.base hN,h.f.base hN⟩
theorem Yu{N:Nat}(hN:N≤w.heap.size)(hM:ML W)(hR:RE W w g A n c ws0)(hs:Ph ws0 n rest)(hb:K5 w g (L7 A n c rest.length f)):Calls Tryz.prog 90 #[Zq g 0] w
 (Ld w [g] Qn (En f rest) (fun d (t:TV)=>t.val) (fun d t u=>K5 u g (L7 A n c d.2.1.length d.2.2)∧AF N t d.1 u)):=
 (affine_t hM hR hs hb).mono fun _ _ h=>h.imp fun _ _ _ k=>⟨k.1,k.2.base hN⟩
theorem J8{N:Nat}(hN:N≤w.heap.size)(hR:RE W w g A n c ws0)(hs:Ph ws0 n rest)(hb:K5 w g (L7 A n c rest.length f)):Calls Tryz.prog 91 #[Zq g 0] w
 (Ld w [g] Qn (rdS f rest) (fun d (y:Option Addr×Nat)=> .slice y.1 d.1.length y.2) (fun d y u=>K5 u g (L7 A n c 0 d.2)∧K6 u N 139 5 y.1 d.1.length y.2 (stC d.1))):=
 (stops_t hR hs hb).mono fun _ _ h=>h.imp fun _ _ _ k=>⟨k.1,k.2.rebase fun b hb=>Nat.le_trans hN (k.2.lt b hb).1⟩
theorem image_n{N:Nat}(hI:ImageOk)(hN:N≤w.heap.size)(hR:RE W w g A n c ws0)(hs:Ph ws0 n rest)(hb:K5 w g (L7 A n c rest.length f)):Calls Tryz.prog 92 #[Zq g 0] w
 (Ld w [g] Qn (Xt f rest) (fun d (y:Option Addr×Nat)=>imV d.1 y) (fun d y u=>K5 u g (L7 A n c d.2.1.length d.2.2)∧K6 u N 152 4 y.1 d.1.px.length y.2 (pxC d.1.px))):=
 (hI _ _ _ _ _ _ _ _ _ hR hs hb).mono fun _ _ h=>h.imp fun _ _ _ k=>⟨k.1,k.2.rebase fun b hb=>Nat.le_trans hN (k.2.lt b hb).1⟩
theorem paint_t(hI:ImageOk)(hM:ML W)(hR:RE W w g A n c ws0)(hs:Ph ws0 n rest)(hb:K5 w g (L7 A n c rest.length f)):Calls Tryz.prog 54 #[Zq g 0] w
 (Ld w [g] Qn (Wz f rest) (fun d (q:PM)=>X4 d.1 q) (fun d q u=>K5 u g (L7 A n c 0 d.2)∧PAt w.heap.size d.1 q u)):=by
 have lg:=hR.lg
 have hg:=hb.lt
 obtain⟨o,ho⟩:∃o,o=Wz f rest:=⟨_,rfl⟩
 rw[←ho]
 refine K0.enterB Tryz.func54 rfl hR.hW lg hb <| ZR ?_
 cases rest with
 |nil=>
  have hN:o=none:=by rw[ho];rfl
  exact K0.mutx (L:=[g]) (Φ':=fun u=>Me W w g u) (fun w1 hw h=>Qk (hR.next hw h) h.2.2) (fun u h=>K9 (cs':=[]) lg u h) (fun wa u e1 e2 h _=>Mn wa u e1 e2 h) Zk Zk <| K0.pan fun w1 hw h=>by rw[hN];exact Mm hR.hW hw h
 |cons s r=>
 have hs1:=hs.tail
 rw[Uv]at ho
 refine K0.mut (L:=[g]) (Φ':=fun _ u=>Om W w g (L7 A n c r.length f) u) (fun w1 hw h=>Oq (hR.next hw h) hs h.2.2) (fun u h=>K9 (cs':=[]) lg u h) (fun _ wa u e1 e2 h hG=>Kg wa u e1 e2 h hG) Zk Zk fun _=>ZS 0 ?_
 by_cases csolid:s=[115,111,108,105,100]
 case pos=>
  refine ZA (Qf .eql 9 (.tmp 5) (.const (.string ⟨#[115,111,108,105,100]⟩)) (K4 s) (K4 [115,111,108,105,100])) Zt (fun w1 hw h=>Ks (by simpa using csolid)) <| ZI true ?_
  rw[if_pos (show s=Pr from csolid)]at ho
  cases e0:rdC f r with
  |none=>
   have hN:o=none:=by rw[ho];unfold Wy;rw[e0];rfl
   exact K0.mutx (L:=[g]) (Φ':=fun u=>Me W w g u) (fun w1 hw h=>by have t:=Yq (hR.next hw h) hs1 h.2.2;rw[e0]at t;exact t) (fun u h=>K9 (cs':=[]) lg u h) (fun wa u e1 e2 h _=>Mn wa u e1 e2 h) Zk Zk <| K0.pan fun w1 hw h=>by rw[hN];exact Mm hR.hW hw h
  |some d=>
  obtain⟨v0,r0,f0⟩:=d
  have hx0:=rdC_suf hs1 e0
  refine K0.mut (L:=[g]) (Φ':=fun _ u=>Om W w g (L7 A n c r0.length f0) u) (fun w1 hw h=>by have t:=Yq (hR.next hw h) hs1 h.2.2;rw[e0]at t;exact t) (fun u h=>K9 (cs':=[]) lg u h) (fun _ wa u e1 e2 h hG=>Kg wa u e1 e2 h hG) Zk Zk fun _=>ZR ?_
  cases r0 with
  |cons s2 r2=>
   have hN:o=none:=by rw[ho];unfold Wy;rw[e0];rfl
   exact K0.mutx (L:=[g]) (Φ':=fun u=>Me W w g u) (fun w1 hw h=>end_p hw lg h.2.2) (fun u h=>K9 (cs':=[]) lg u h) (fun wa u e1 e2 h _=>Mn wa u e1 e2 h) Zk Zk <| K0.pan fun w1 hw h=>by rw[hN];exact Mm hR.hW hw h
  |nil=>
  have hN:o=some ((⟨1,v0,0,0,0,0,0,[],0,Di,0,Px⟩:Pn),f0):=by rw[ho];unfold Wy;rw[e0];rfl
  refine K0.mut (L:=[g]) (Φ':=fun _ u=>Om W w g (L7 A n c 0 f0) u) (fun w1 hw h=>end_s hw lg h.2.2) (fun u h=>K9 (cs':=[]) lg u h) (fun _ wa u e1 e2 h hG=>Kg wa u e1 e2 h hG) Zk Zk fun _=>ZR <| ZV (X4 (⟨1,v0,0,0,0,0,0,[],0,Di,0,Px⟩:Pn) pm0) (fun w1 hw h=>by have k:=h w1 (Nat.le_refl _) (fun _ _ _=>rfl);rw[hN];exact Oe (val:=fun q:PM=>X4 (⟨1,v0,0,0,0,0,0,[],0,Di,0,Px⟩:Pn) q) pm0 hR.hW hw k fun w'' k1 k2=>⟨k.2.2.to (k2 g (.inl Zs)),PAt.same ⟨K6.nil_,K6.nil_,.inl ⟨(show(1:Int)<2 by decide),rfl,rfl⟩⟩ k1 fun b b1 b2=>k2 b (.inr ⟨b1,b2⟩)⟩)
 refine ZA (Qf .eql 9 (.tmp 5) (.const (.string ⟨#[115,111,108,105,100]⟩)) (K4 s) (K4 [115,111,108,105,100])) Zf (fun w1 hw h=>Ks (by simpa using csolid)) <| K0.cond false Zk <| ZS 0 ?_
 by_cases clinear:s=[108,105,110,101,97,114]
 case pos=>
  refine ZA (Qf .eql 9 (.tmp 5) (.const (.string ⟨#[108,105,110,101,97,114]⟩)) (K4 s) (K4 [108,105,110,101,97,114])) Zt (fun w1 hw h=>Ks (by simpa using clinear)) <| ZI true ?_
  rw[if_neg (show¬s=Pr from csolid),if_pos (show s=Qc from clinear)]at ho
  cases e0:Iw f r with
  |none=>
   have hN:o=none:=by rw[ho];unfold Dp;rw[e0];rfl
   exact K0.mutx (L:=[g]) (Φ':=fun u=>Me W w g u) (fun w1 hw h=>by have t:=Cp (hR.next hw h) hs1 h.2.2;rw[e0]at t;exact t) (fun u h=>K9 (cs':=[]) lg u h) (fun wa u e1 e2 h _=>Mn wa u e1 e2 h) Zk Zk <| K0.pan fun w1 hw h=>by rw[hN];exact Mm hR.hW hw h
  |some d=>
  obtain⟨v0,r0,f0⟩:=d
  have hx0:=Ye hs1 e0
  refine K0.mut (L:=[g]) (Φ':=fun _ u=>Om W w g (L7 A n c r0.length f0) u) (fun w1 hw h=>by have t:=Cp (hR.next hw h) hs1 h.2.2;rw[e0]at t;exact t) (fun u h=>K9 (cs':=[]) lg u h) (fun _ wa u e1 e2 h hG=>Kg wa u e1 e2 h hG) Zk Zk fun _=>ZR ?_
  cases e1:Iw f0 r0 with
  |none=>
   have hN:o=none:=by rw[ho];unfold Dp;rw[e0];simp only[Option.bind_some];rw[e1];rfl
   exact K0.mutx (L:=[g]) (Φ':=fun u=>Me W w g u) (fun w1 hw h=>by have t:=Cp (hR.next hw h) hx0 h.2.2;rw[e1]at t;exact t) (fun u h=>K9 (cs':=[]) lg u h) (fun wa u e1 e2 h _=>Mn wa u e1 e2 h) Zk Zk <| K0.pan fun w1 hw h=>by rw[hN];exact Mm hR.hW hw h
  |some d=>
  obtain⟨v1,r1,f1⟩:=d
  have hx1:=Ye hx0 e1
  refine K0.mut (L:=[g]) (Φ':=fun _ u=>Om W w g (L7 A n c r1.length f1) u) (fun w1 hw h=>by have t:=Cp (hR.next hw h) hx0 h.2.2;rw[e1]at t;exact t) (fun u h=>K9 (cs':=[]) lg u h) (fun _ wa u e1 e2 h hG=>Kg wa u e1 e2 h hG) Zk Zk fun _=>ZR ?_
  cases e2:Dg Ln 0 f1 r1 with
  |none=>
   have hN:o=none:=by rw[ho];unfold Dp;rw[e0];simp only[Option.bind_some];rw[e1];simp only[Option.bind_some];rw[e2];rfl
   exact K0.mutx (L:=[g]) (Φ':=fun u=>Me W w g u) (fun w1 hw h=>by have t:=Rt (hR.next hw h) hx1 h.2.2;rw[e2]at t;exact t) (fun u h=>K9 (cs':=[]) lg u h) (fun wa u e1 e2 h _=>Mn wa u e1 e2 h) Zk Zk <| K0.pan fun w1 hw h=>by rw[hN];exact Mm hR.hW hw h
  |some d=>
  obtain⟨v2,r2,f2⟩:=d
  have hx2:=O0 hx1 e2
  refine K0.mut (L:=[g]) (Φ':=fun _ u=>Om W w g (L7 A n c r2.length f2) u) (fun w1 hw h=>by have t:=Rt (hR.next hw h) hx1 h.2.2;rw[e2]at t;exact t) (fun u h=>K9 (cs':=[]) lg u h) (fun _ wa u e1 e2 h hG=>Kg wa u e1 e2 h hG) Zk Zk fun _=>ZR ?_
  cases e3:En f2 r2 with
  |none=>
   have hN:o=none:=by rw[ho];unfold Dp;rw[e0];simp only[Option.bind_some];rw[e1];simp only[Option.bind_some];rw[e2];simp only[Option.bind_some];rw[e3];rfl
   exact K0.mutx (L:=[g]) (Φ':=fun u=>Me W w g u) (fun w1 hw h=>by have t:=Yu h.1 hM (hR.next hw h) hx2 h.2.2;rw[e3]at t;exact t) (fun u h=>K9 (cs':=[]) lg u h) (fun wa u e1 e2 h _=>Mn wa u e1 e2 h) Zk Zk <| K0.pan fun w1 hw h=>by rw[hN];exact Mm hR.hW hw h
  |some d=>
  obtain⟨v3,r3,f3⟩:=d
  have hx3:=Cn hx2 e3
  refine K0.mut (L:=[g]) (val:=fun t:TV=>t.val) (G:=fun(t:TV) u=>K5 u g (L7 A n c r3.length f3)∧AF w.heap.size t v3 u) (Φ':=fun(t:TV) u=>Om W w g (L7 A n c r3.length f3) u∧AF w.heap.size t v3 u) (fun w1 hw h=>by have t:=Yu h.1 hM (hR.next hw h) hx2 h.2.2;rw[e3]at t;exact t) (fun u h=>K9 (cs':=[]) lg u h) (fun t wa u e1 e2 h hG=>⟨Kg wa u e1 e2 h hG.1,hG.2⟩) Zk Zk fun t=>ZR ?_
  cases e4:rdS f3 r3 with
  |none=>
   have hN:o=none:=by rw[ho];unfold Dp;rw[e0];simp only[Option.bind_some];rw[e1];simp only[Option.bind_some];rw[e2];simp only[Option.bind_some];rw[e3];simp only[Option.bind_some];rw[e4];rfl
   exact K0.mutx (L:=[g]) (Φ':=fun u=>Me W w g u) (fun w1 hw h=>by have t:=J8 h.1.1 (hR.next hw h.1) hx3 h.1.2.2;rw[e4]at t;exact t) (fun u h=>K9 (cs':=[]) lg u h.1) (fun wa u e1 e2 h _=>Mn wa u e1 e2 h.1) Zk Zk <| K0.pan fun w1 hw h=>by rw[hN];exact Mm hR.hW hw h
  |some d=>
  obtain⟨v4,f4⟩:=d
  refine K0.mut (L:=[g]) (val:=fun y:Option Addr×Nat=> .slice y.1 v4.length y.2) (G:=fun(y:Option Addr×Nat) u=>K5 u g (L7 A n c 0 f4)∧K6 u w.heap.size 139 5 y.1 v4.length y.2 (stC v4)) (Φ':=fun(y:Option Addr×Nat) u=>Om W w g (L7 A n c 0 f4) u∧AF w.heap.size t v3 u∧K6 u w.heap.size 139 5 y.1 v4.length y.2 (stC v4)) (fun w1 hw h=>by have t:=J8 h.1.1 (hR.next hw h.1) hx3 h.1.2.2;rw[e4]at t;exact t) (fun u h=>K9 (cs':=[]) lg u h.1) (fun y wa u e1 e2 h hG=>⟨Kg wa u e1 e2 h.1 hG.1,AF.left hg h.2 e1 e2,hG.2⟩) Zk Zk fun y=>ZR ?_
  have hN:o=some ((⟨2,Uq,v0.1,v0.2,v1.1,v1.2,0,v4,v2,Di,0,v3⟩:Pn),f4):=by rw[ho];unfold Dp;rw[e0];simp only[Option.bind_some];rw[e1];simp only[Option.bind_some];rw[e2];simp only[Option.bind_some];rw[e3];simp only[Option.bind_some];rw[e4];rfl
  refine K0.mut (L:=[g]) (Φ':=fun _ u=>Om W w g (L7 A n c 0 f4) u∧AF w.heap.size t v3 u∧K6 u w.heap.size 139 5 y.1 v4.length y.2 (stC v4)) (fun w1 hw h=>end_s hw lg h.1.2.2) (fun u h=>K9 (cs':=[]) lg u h.1) (fun _ wa u e1 e2 h hG=>⟨Kg wa u e1 e2 h.1 hG,AF.left hg h.2.1 e1 e2,K6.left h.2.2 e2 (Cv h.2.2 hg)⟩) Zk Zk fun _=>ZR <| ZV (X4 (⟨2,Uq,v0.1,v0.2,v1.1,v1.2,0,v4,v2,Di,0,v3⟩:Pn) (⟨y.1,y.2,none,0,t⟩:PM)) (fun w1 hw h=>by have k:=h w1 (Nat.le_refl _) (fun _ _ _=>rfl);rw[hN];exact Oe (val:=fun q:PM=>X4 (⟨2,Uq,v0.1,v0.2,v1.1,v1.2,0,v4,v2,Di,0,v3⟩:Pn) q) (⟨y.1,y.2,none,0,t⟩:PM) hR.hW hw k.1 fun w'' k1 k2=>⟨k.1.2.2.to (k2 g (.inl Zs)),PAt.same ⟨k.2.2,K6.nil_,.inr ⟨(show(2:Int)≤2 by decide),k.2.1⟩⟩ k1 fun b b1 b2=>k2 b (.inr ⟨b1,b2⟩)⟩)
 refine ZA (Qf .eql 9 (.tmp 5) (.const (.string ⟨#[108,105,110,101,97,114]⟩)) (K4 s) (K4 [108,105,110,101,97,114])) Zf (fun w1 hw h=>Ks (by simpa using clinear)) <| K0.cond false Zk <| ZS 0 ?_
 by_cases cradial:s=[114,97,100,105,97,108]
 case pos=>
  refine ZA (Qf .eql 9 (.tmp 5) (.const (.string ⟨#[114,97,100,105,97,108]⟩)) (K4 s) (K4 [114,97,100,105,97,108])) Zt (fun w1 hw h=>Ks (by simpa using cradial)) <| ZI true ?_
  rw[if_neg (show¬s=Pr from csolid),if_neg (show¬s=Qc from clinear),if_pos (show s=Qp from cradial)]at ho
  cases e0:Iw f r with
  |none=>
   have hN:o=none:=by rw[ho];unfold Dm;rw[e0];rfl
   exact K0.mutx (L:=[g]) (Φ':=fun u=>Me W w g u) (fun w1 hw h=>by have t:=Cp (hR.next hw h) hs1 h.2.2;rw[e0]at t;exact t) (fun u h=>K9 (cs':=[]) lg u h) (fun wa u e1 e2 h _=>Mn wa u e1 e2 h) Zk Zk <| K0.pan fun w1 hw h=>by rw[hN];exact Mm hR.hW hw h
  |some d=>
  obtain⟨v0,r0,f0⟩:=d
  have hx0:=Ye hs1 e0
  refine K0.mut (L:=[g]) (Φ':=fun _ u=>Om W w g (L7 A n c r0.length f0) u) (fun w1 hw h=>by have t:=Cp (hR.next hw h) hs1 h.2.2;rw[e0]at t;exact t) (fun u h=>K9 (cs':=[]) lg u h) (fun _ wa u e1 e2 h hG=>Kg wa u e1 e2 h hG) Zk Zk fun _=>ZR ?_
  cases e1:Vq f0 r0 with
  |none=>
   have hN:o=none:=by rw[ho];unfold Dm;rw[e0];simp only[Option.bind_some];rw[e1];rfl
   exact K0.mutx (L:=[g]) (Φ':=fun u=>Me W w g u) (fun w1 hw h=>by have t:=Mc (hR.next hw h) hx0 h.2.2;rw[e1]at t;exact t) (fun u h=>K9 (cs':=[]) lg u h) (fun wa u e1 e2 h _=>Mn wa u e1 e2 h) Zk Zk <| K0.pan fun w1 hw h=>by rw[hN];exact Mm hR.hW hw h
  |some d=>
  obtain⟨v1,r1,f1⟩:=d
  have hx1:=M2 hx0 e1
  refine K0.mut (L:=[g]) (Φ':=fun _ u=>Om W w g (L7 A n c r1.length f1) u) (fun w1 hw h=>by have t:=Mc (hR.next hw h) hx0 h.2.2;rw[e1]at t;exact t) (fun u h=>K9 (cs':=[]) lg u h) (fun _ wa u e1 e2 h hG=>Kg wa u e1 e2 h hG) Zk Zk fun _=>ZR ?_
  cases e2:Dg Ln 0 f1 r1 with
  |none=>
   have hN:o=none:=by rw[ho];unfold Dm;rw[e0];simp only[Option.bind_some];rw[e1];simp only[Option.bind_some];rw[e2];rfl
   exact K0.mutx (L:=[g]) (Φ':=fun u=>Me W w g u) (fun w1 hw h=>by have t:=Rt (hR.next hw h) hx1 h.2.2;rw[e2]at t;exact t) (fun u h=>K9 (cs':=[]) lg u h) (fun wa u e1 e2 h _=>Mn wa u e1 e2 h) Zk Zk <| K0.pan fun w1 hw h=>by rw[hN];exact Mm hR.hW hw h
  |some d=>
  obtain⟨v2,r2,f2⟩:=d
  have hx2:=O0 hx1 e2
  refine K0.mut (L:=[g]) (Φ':=fun _ u=>Om W w g (L7 A n c r2.length f2) u) (fun w1 hw h=>by have t:=Rt (hR.next hw h) hx1 h.2.2;rw[e2]at t;exact t) (fun u h=>K9 (cs':=[]) lg u h) (fun _ wa u e1 e2 h hG=>Kg wa u e1 e2 h hG) Zk Zk fun _=>ZR ?_
  cases e3:En f2 r2 with
  |none=>
   have hN:o=none:=by rw[ho];unfold Dm;rw[e0];simp only[Option.bind_some];rw[e1];simp only[Option.bind_some];rw[e2];simp only[Option.bind_some];rw[e3];rfl
   exact K0.mutx (L:=[g]) (Φ':=fun u=>Me W w g u) (fun w1 hw h=>by have t:=Yu h.1 hM (hR.next hw h) hx2 h.2.2;rw[e3]at t;exact t) (fun u h=>K9 (cs':=[]) lg u h) (fun wa u e1 e2 h _=>Mn wa u e1 e2 h) Zk Zk <| K0.pan fun w1 hw h=>by rw[hN];exact Mm hR.hW hw h
  |some d=>
  obtain⟨v3,r3,f3⟩:=d
  have hx3:=Cn hx2 e3
  refine K0.mut (L:=[g]) (val:=fun t:TV=>t.val) (G:=fun(t:TV) u=>K5 u g (L7 A n c r3.length f3)∧AF w.heap.size t v3 u) (Φ':=fun(t:TV) u=>Om W w g (L7 A n c r3.length f3) u∧AF w.heap.size t v3 u) (fun w1 hw h=>by have t:=Yu h.1 hM (hR.next hw h) hx2 h.2.2;rw[e3]at t;exact t) (fun u h=>K9 (cs':=[]) lg u h) (fun t wa u e1 e2 h hG=>⟨Kg wa u e1 e2 h hG.1,hG.2⟩) Zk Zk fun t=>ZR ?_
  cases e4:rdS f3 r3 with
  |none=>
   have hN:o=none:=by rw[ho];unfold Dm;rw[e0];simp only[Option.bind_some];rw[e1];simp only[Option.bind_some];rw[e2];simp only[Option.bind_some];rw[e3];simp only[Option.bind_some];rw[e4];rfl
   exact K0.mutx (L:=[g]) (Φ':=fun u=>Me W w g u) (fun w1 hw h=>by have t:=J8 h.1.1 (hR.next hw h.1) hx3 h.1.2.2;rw[e4]at t;exact t) (fun u h=>K9 (cs':=[]) lg u h.1) (fun wa u e1 e2 h _=>Mn wa u e1 e2 h.1) Zk Zk <| K0.pan fun w1 hw h=>by rw[hN];exact Mm hR.hW hw h
  |some d=>
  obtain⟨v4,f4⟩:=d
  refine K0.mut (L:=[g]) (val:=fun y:Option Addr×Nat=> .slice y.1 v4.length y.2) (G:=fun(y:Option Addr×Nat) u=>K5 u g (L7 A n c 0 f4)∧K6 u w.heap.size 139 5 y.1 v4.length y.2 (stC v4)) (Φ':=fun(y:Option Addr×Nat) u=>Om W w g (L7 A n c 0 f4) u∧AF w.heap.size t v3 u∧K6 u w.heap.size 139 5 y.1 v4.length y.2 (stC v4)) (fun w1 hw h=>by have t:=J8 h.1.1 (hR.next hw h.1) hx3 h.1.2.2;rw[e4]at t;exact t) (fun u h=>K9 (cs':=[]) lg u h.1) (fun y wa u e1 e2 h hG=>⟨Kg wa u e1 e2 h.1 hG.1,AF.left hg h.2 e1 e2,hG.2⟩) Zk Zk fun y=>ZR ?_
  have hN:o=some ((⟨3,Uq,v0.1,v0.2,0,0,v1,v4,v2,Di,0,v3⟩:Pn),f4):=by rw[ho];unfold Dm;rw[e0];simp only[Option.bind_some];rw[e1];simp only[Option.bind_some];rw[e2];simp only[Option.bind_some];rw[e3];simp only[Option.bind_some];rw[e4];rfl
  refine K0.mut (L:=[g]) (Φ':=fun _ u=>Om W w g (L7 A n c 0 f4) u∧AF w.heap.size t v3 u∧K6 u w.heap.size 139 5 y.1 v4.length y.2 (stC v4)) (fun w1 hw h=>end_s hw lg h.1.2.2) (fun u h=>K9 (cs':=[]) lg u h.1) (fun _ wa u e1 e2 h hG=>⟨Kg wa u e1 e2 h.1 hG,AF.left hg h.2.1 e1 e2,K6.left h.2.2 e2 (Cv h.2.2 hg)⟩) Zk Zk fun _=>ZR <| ZV (X4 (⟨3,Uq,v0.1,v0.2,0,0,v1,v4,v2,Di,0,v3⟩:Pn) (⟨y.1,y.2,none,0,t⟩:PM)) (fun w1 hw h=>by have k:=h w1 (Nat.le_refl _) (fun _ _ _=>rfl);rw[hN];exact Oe (val:=fun q:PM=>X4 (⟨3,Uq,v0.1,v0.2,0,0,v1,v4,v2,Di,0,v3⟩:Pn) q) (⟨y.1,y.2,none,0,t⟩:PM) hR.hW hw k.1 fun w'' k1 k2=>⟨k.1.2.2.to (k2 g (.inl Zs)),PAt.same ⟨k.2.2,K6.nil_,.inr ⟨(show(2:Int)≤3 by decide),k.2.1⟩⟩ k1 fun b b1 b2=>k2 b (.inr ⟨b1,b2⟩)⟩)
 refine ZA (Qf .eql 9 (.tmp 5) (.const (.string ⟨#[114,97,100,105,97,108]⟩)) (K4 s) (K4 [114,97,100,105,97,108])) Zf (fun w1 hw h=>Ks (by simpa using cradial)) <| K0.cond false Zk <| ZS 0 ?_
 by_cases cpattern:s=[112,97,116,116,101,114,110]
 case pos=>
  refine ZA (Qf .eql 9 (.tmp 5) (.const (.string ⟨#[112,97,116,116,101,114,110]⟩)) (K4 s) (K4 [112,97,116,116,101,114,110])) Zt (fun w1 hw h=>Ks (by simpa using cpattern)) <| ZI true ?_
  rw[if_neg (show¬s=Pr from csolid),if_neg (show¬s=Qc from clinear),if_neg (show¬s=Qp from cradial),if_pos (show s=M5 from cpattern)]at ho
  cases e0:Dg Ln 0 f r with
  |none=>
   have hN:o=none:=by rw[ho];unfold Dn;rw[e0];rfl
   exact K0.mutx (L:=[g]) (Φ':=fun u=>Me W w g u) (fun w1 hw h=>by have t:=Rt (hR.next hw h) hs1 h.2.2;rw[e0]at t;exact t) (fun u h=>K9 (cs':=[]) lg u h) (fun wa u e1 e2 h _=>Mn wa u e1 e2 h) Zk Zk <| K0.pan fun w1 hw h=>by rw[hN];exact Mm hR.hW hw h
  |some d=>
  obtain⟨v0,r0,f0⟩:=d
  have hx0:=O0 hs1 e0
  refine K0.mut (L:=[g]) (Φ':=fun _ u=>Om W w g (L7 A n c r0.length f0) u) (fun w1 hw h=>by have t:=Rt (hR.next hw h) hs1 h.2.2;rw[e0]at t;exact t) (fun u h=>K9 (cs':=[]) lg u h) (fun _ wa u e1 e2 h hG=>Kg wa u e1 e2 h hG) Zk Zk fun _=>ZR ?_
  cases e1:Dg Oc 1 f0 r0 with
  |none=>
   have hN:o=none:=by rw[ho];unfold Dn;rw[e0];simp only[Option.bind_some];rw[e1];rfl
   exact K0.mutx (L:=[g]) (Φ':=fun u=>Me W w g u) (fun w1 hw h=>by have t:=Gc (hR.next hw h) hx0 h.2.2;rw[e1]at t;exact t) (fun u h=>K9 (cs':=[]) lg u h) (fun wa u e1 e2 h _=>Mn wa u e1 e2 h) Zk Zk <| K0.pan fun w1 hw h=>by rw[hN];exact Mm hR.hW hw h
  |some d=>
  obtain⟨v1,r1,f1⟩:=d
  have hx1:=O0 hx0 e1
  refine K0.mut (L:=[g]) (Φ':=fun _ u=>Om W w g (L7 A n c r1.length f1) u) (fun w1 hw h=>by have t:=Gc (hR.next hw h) hx0 h.2.2;rw[e1]at t;exact t) (fun u h=>K9 (cs':=[]) lg u h) (fun _ wa u e1 e2 h hG=>Kg wa u e1 e2 h hG) Zk Zk fun _=>ZR ?_
  cases e2:En f1 r1 with
  |none=>
   have hN:o=none:=by rw[ho];unfold Dn;rw[e0];simp only[Option.bind_some];rw[e1];simp only[Option.bind_some];rw[e2];rfl
   exact K0.mutx (L:=[g]) (Φ':=fun u=>Me W w g u) (fun w1 hw h=>by have t:=Yu h.1 hM (hR.next hw h) hx1 h.2.2;rw[e2]at t;exact t) (fun u h=>K9 (cs':=[]) lg u h) (fun wa u e1 e2 h _=>Mn wa u e1 e2 h) Zk Zk <| K0.pan fun w1 hw h=>by rw[hN];exact Mm hR.hW hw h
  |some d=>
  obtain⟨v2,r2,f2⟩:=d
  have hx2:=Cn hx1 e2
  refine K0.mut (L:=[g]) (val:=fun t:TV=>t.val) (G:=fun(t:TV) u=>K5 u g (L7 A n c r2.length f2)∧AF w.heap.size t v2 u) (Φ':=fun(t:TV) u=>Om W w g (L7 A n c r2.length f2) u∧AF w.heap.size t v2 u) (fun w1 hw h=>by have t:=Yu h.1 hM (hR.next hw h) hx1 h.2.2;rw[e2]at t;exact t) (fun u h=>K9 (cs':=[]) lg u h) (fun t wa u e1 e2 h hG=>⟨Kg wa u e1 e2 h hG.1,hG.2⟩) Zk Zk fun t=>ZR ?_
  cases e3:Xt f2 r2 with
  |none=>
   have hN:o=none:=by rw[ho];unfold Dn;rw[e0];simp only[Option.bind_some];rw[e1];simp only[Option.bind_some];rw[e2];simp only[Option.bind_some];rw[e3];rfl
   exact K0.mutx (L:=[g]) (Φ':=fun u=>Me W w g u) (fun w1 hw h=>by have t:=image_n hI h.1.1 (hR.next hw h.1) hx2 h.1.2.2;rw[e3]at t;exact t) (fun u h=>K9 (cs':=[]) lg u h.1) (fun wa u e1 e2 h _=>Mn wa u e1 e2 h.1) Zk Zk <| K0.pan fun w1 hw h=>by rw[hN];exact Mm hR.hW hw h
  |some d=>
  obtain⟨v3,r3,f3⟩:=d
  have hx3:=rdIm_suf hx2 e3
  refine K0.mut (L:=[g]) (val:=fun z:Option Addr×Nat=>imV v3 z) (G:=fun(z:Option Addr×Nat) u=>K5 u g (L7 A n c r3.length f3)∧K6 u w.heap.size 152 4 z.1 v3.px.length z.2 (pxC v3.px)) (Φ':=fun(z:Option Addr×Nat) u=>Om W w g (L7 A n c r3.length f3) u∧AF w.heap.size t v2 u∧K6 u w.heap.size 152 4 z.1 v3.px.length z.2 (pxC v3.px)) (fun w1 hw h=>by have t:=image_n hI h.1.1 (hR.next hw h.1) hx2 h.1.2.2;rw[e3]at t;exact t) (fun u h=>K9 (cs':=[]) lg u h.1) (fun z wa u e1 e2 h hG=>⟨Kg wa u e1 e2 h.1 hG.1,AF.left hg h.2 e1 e2,hG.2⟩) Zk Zk fun z=>ZR ?_
  cases r3 with
  |cons s2 r2=>
   have hN:o=none:=by rw[ho];unfold Dn;rw[e0];simp only[Option.bind_some];rw[e1];simp only[Option.bind_some];rw[e2];simp only[Option.bind_some];rw[e3];rfl
   exact K0.mutx (L:=[g]) (Φ':=fun u=>Me W w g u) (fun w1 hw h=>end_p hw lg h.1.2.2) (fun u h=>K9 (cs':=[]) lg u h.1) (fun wa u e1 e2 h _=>Mn wa u e1 e2 h.1) Zk Zk <| K0.pan fun w1 hw h=>by rw[hN];exact Mm hR.hW hw h
  |nil=>
  have hN:o=some ((⟨4,Uq,0,0,0,0,0,[],v0,v3,v1,v2⟩:Pn),f3):=by rw[ho];unfold Dn;rw[e0];simp only[Option.bind_some];rw[e1];simp only[Option.bind_some];rw[e2];simp only[Option.bind_some];rw[e3];rfl
  refine K0.mut (L:=[g]) (Φ':=fun _ u=>Om W w g (L7 A n c 0 f3) u∧AF w.heap.size t v2 u∧K6 u w.heap.size 152 4 z.1 v3.px.length z.2 (pxC v3.px)) (fun w1 hw h=>end_s hw lg h.1.2.2) (fun u h=>K9 (cs':=[]) lg u h.1) (fun _ wa u e1 e2 h hG=>⟨Kg wa u e1 e2 h.1 hG,AF.left hg h.2.1 e1 e2,K6.left h.2.2 e2 (Cv h.2.2 hg)⟩) Zk Zk fun _=>ZR <| ZV (X4 (⟨4,Uq,0,0,0,0,0,[],v0,v3,v1,v2⟩:Pn) (⟨none,0,z.1,z.2,t⟩:PM)) (fun w1 hw h=>by have k:=h w1 (Nat.le_refl _) (fun _ _ _=>rfl);rw[hN];exact Oe (val:=fun q:PM=>X4 (⟨4,Uq,0,0,0,0,0,[],v0,v3,v1,v2⟩:Pn) q) (⟨none,0,z.1,z.2,t⟩:PM) hR.hW hw k.1 fun w'' k1 k2=>⟨k.1.2.2.to (k2 g (.inl Zs)),PAt.same ⟨K6.nil_,k.2.2,.inr ⟨(show(2:Int)≤4 by decide),k.2.1⟩⟩ k1 fun b b1 b2=>k2 b (.inr ⟨b1,b2⟩)⟩)
 refine ZA (Qf .eql 9 (.tmp 5) (.const (.string ⟨#[112,97,116,116,101,114,110]⟩)) (K4 s) (K4 [112,97,116,116,101,114,110])) Zf (fun w1 hw h=>Ks (by simpa using cpattern)) <| ZI false ?_
 have hN:o=none:=by rw[ho,if_neg (show¬s=Pr from csolid),if_neg (show¬s=Qc from clinear),if_neg (show¬s=Qp from cradial),if_neg (show¬s=M5 from cpattern)]
 exact K0.throw (Instr.panic Ke >>= fun v=>pure (.value v)) Ke Zk (fun w1 hw h=>by simp[Instr.panic,Ke,Go.goPanic]) Zk <| K0.pan fun w1 hw h=>by rw[hN];exact Mg hR.hW hw h
end
section
variable{P:Program}{W w:World}
theorem K0.enterRec{f:FuncId}{fn:Func}{args:Array Value}{u u0:FrameMode}{rv:Value}{R:Ending→World→Prop}{id d0 d1:Nat}{o0 o1:Oper}{rest:Code}
 (hf:P.funcs[f]? =some fn) (hb:fn.body=some (.seq (.region id #[o0,o1] false) rest))
 (h0:∀(ρ:Operand→Value) (w:World),(execOp ρ o0).run P w= .ok .recover w) (hg0:o0.guard=none) (hd0:o0.dst=some d0)
 (h1:o1.op= .assign (.tmp d0)) (hg1:o1.guard=none) (hd1:o1.dst=some d1) (hs0:d0<args.size+(fn.ntmps-args.size))
 (hrec:∀(c₀:Frame) (cs:List Frame),c₀.mode=u→match recoverD (c₀::cs)with
  |some (v,cs')=>v=rv∧cs'={c₀ with mode:=u0}::cs
  |none=>rv= .nilIface∧u0=u)
 (hW:Below W.heap.size W w)
 (H:K0 P [] W (bodyPost P fn R) (fun u=>w.heap.size≤u.heap.size∧∀b,W.heap.size≤b→b<w.heap.size→u.heap[b]? =w.heap[b]?) ⟨.code rest,[],⟨((((args.toList++List.replicate (fn.ntmps-args.size) undef).set d0 rv).set d1 rv)).map .v,fun _=>none⟩⟩):
 CallsD P f args u w fun e u' w'=>u'=u0∧R e w':=by
 refine callsD_of_wpS hf hb fun c₀ cs hu=>wpS_seq (wpS_region ?_)
 have key:∀(cs':List Frame),cs'={c₀ with mode:=u0}::cs→rest.wpS P (bodyPostS P fn c₀ cs (fun e u' w'=>u'=u0∧R e w')) ⟨((args++Array.replicate (fn.ntmps-args.size) undef).setIfInBounds d0 rv).setIfInBounds d1 rv,[]⟩ cs' w:=fun cs' hcs=>by
  refine wpS_of_wp ?_
  have hw:=H.get ⟨fun x hx k hk=>by simp only[List.mem_map]at hx;obtain⟨q,_,rfl⟩:=hx;simp[AV.ids]at hk,fun j cs hj=>by cases hj⟩ (fun _=>0) ⟨((args++Array.replicate (fn.ntmps-args.size) undef).setIfInBounds d0 rv).setIfInBounds d1 rv,[]⟩ w
   ⟨by simp[Function.comp_def,AV.conc],rfl,hW,fun k cs hk=>(by cases hk),fun k k' hk=>(by cases hk),fun w' hw=>⟨hw.size,fun b h1 h2=>hw.heap b h1 h2 (fun k hk=>by cases hk)⟩⟩
  refine wp_mono hw fun e a' w' hq=> ?_
  cases e with
  |normal=>obtain⟨k1,v,k2,k3⟩:=hq;exact⟨k1,u0,hcs,v,k2,rfl,k3⟩
  |ret=>obtain⟨k1,v,k2,k3⟩:=hq;exact⟨k1,u0,hcs,v,k2,rfl,k3⟩
  |panic ch=>obtain⟨k1,k3⟩:=hq;exact⟨k1,u0,hcs,rfl,k3⟩
  |outgrown=>exact⟨u0,rfl,hq⟩
  |exit _=>exact hq
  |goto _=>exact hq
 have e1:∀(ρ:Operand→Value) (w:World),(execOp ρ o1).run P w= .ok (.value (ρ (.tmp d0))) w:=fun ρ w=>by unfold execOp;rw[h1];rfl
 have hev:Act.eval ⟨(args++Array.replicate (fn.ntmps-args.size) undef).setIfInBounds d0 rv,[]⟩ (.tmp d0)=rv:=by
  simp only[Act.eval,Array.getD_eq_getD_getElem?]
  rw[Array.getElem?_setIfInBounds_self_of_lt (by simpa using hs0)];rfl
 rw[show List.range (#[o0,o1]:Array Oper).size=[0,1]from rfl]
 have hrec':=hrec c₀ cs hu
 simp only[wpOpsS,show(#[o0,o1]:Array Oper)[0]? =some o0 from rfl,show(#[o0,o1]:Array Oper)[1]? =some o1 from rfl,Region.wanted,hg0,hg1,if_true,h0,hd0,hd1,Act.put]
 cases hr:recoverD (c₀::cs)with
 |none=>
  rw[hr]at hrec'
  obtain⟨rfl,rfl⟩:=hrec'
  simp only[e1,hev]
  have hc0:(c₀::cs)={c₀ with mode:=u0}::cs:=by rw[←hu]
  simp only[Oper.upon_value,hd1,Act.put,Exit.thenS]
  exact key _ hc0
 |some p=>
  rw[hr]at hrec'
  obtain⟨v,cs'⟩:=p
  obtain⟨rfl,hcs⟩:=hrec'
  simp only[e1,hev,Oper.upon_value,hd1,Act.put,Exit.thenS]
  exact key _ hcs
end
def pnZ:List Value:=[Zi 0,.int .u8 0,.int .u8 0,.int .u8 0,.int .u8 0,Zi 0,Zi 0,Zi 0,Zi 0,Zi 0,.slice none 0 0,Zi 0,Zi 0,Zi 0,.slice none 0 0,Zi 0]++Gg.cl
section
variable{w W:World}{gp go:Nat}{cs:List Value}{b:Bool}
def Stay(W w:World)(u:World):Prop:=w.heap.size≤u.heap.size∧∀b,W.heap.size≤b→b<w.heap.size→u.heap[b]? =w.heap[b]?
theorem read1_r(hW:Below W.heap.size W w):CallsD Tryz.prog 53 #[Zq gp 0,Zq go 0] .returning w (fun e u' w'=>u'= .returning∧(e= .returned (.tuple #[])∧Below W.heap.size W w'∧Stay W w w')):=by
 refine K0.enterRec (rv:= .nilIface) Tryz.func53 rfl (fun ρ w=>rfl) rfl rfl rfl rfl rfl (by show 5<2+(17-2);decide) (fun c₀ cs hu=> ?_) hW ?_
 ·simp[recoverD,hu]
 refine ZR <| ZI true <| ZV (.tuple #[]) (fun w1 hw h=>⟨rfl,hw,h w1 (Nat.le_refl _) fun _ _ _=>rfl⟩)
end
def cells2(fn:Func)(σ:AS):Option ((Nat×TypeId)×(Nat×TypeId)):=
 match fn.results.toList with
 | [.cell t ty,.cell t2 ty2]=>match σ.tmps.getD t (.v undef),σ.tmps.getD t2 (.v undef)with
  | .v (.pointer (some ⟨g,0,none⟩)),.v (.pointer (some ⟨g2,0,none⟩))=>some ((g,ty),(g2,ty2))
  |_,_=>none
 |_=>none
theorem cells2_ok{P:Program}{Δ:List Deferred}{W:World}{Φ:World→Prop}{fn:Func}{σ:AS}{β:Nat→Nat}{a:Act}{w w':World}{g g2:Nat}{ty ty2:TypeId}{v v2:Value}(hc:cells2 fn σ=some ((g,ty),(g2,ty2)))(hr:Q4 Δ W β σ Φ a w)
 (h1:(loadVar ty ⟨g,0,none⟩).run P w'= .ok v w') (h2:(loadVar ty2 ⟨g2,0,none⟩).run P w'= .ok v2 w'):(results fn a.tmps).run P w'= .ok (.tuple #[v,v2]) w':=by
 unfold cells2 at hc
 split at hc
 ·rename_i t ty' t2 ty2' hres
  split at hc
  ·rename_i gg gg2 e1 e2
   simp only[Option.some.injEq,Prod.mk.injEq]at hc
   obtain⟨⟨rfl,rfl⟩,rfl,rfl⟩:=hc
   have hg1:a.tmps.getD t undef=Zq gg 0:=by
    have:=hr.eval (.tmp t)
    simp only[Act.eval,AS.eval,e1,AV.conc]at this
    exact this
   have hg2:a.tmps.getD t2 undef=Zq gg2 0:=by
    have:=hr.eval (.tmp t2)
    simp only[Act.eval,AS.eval,e2,AV.conc]at this
    exact this
   rw[Vz,Sem.run_bind,Array.mapM_eq_mapM_toList,Sem.run_map,hres,List.mapM_cons,Sem.run_bind]
   simp only[Bh,hg1,hg2,asAddr,Sem.run_bind,Sem.run_pure,Result.andThen_ok,h1,h2,List.mapM_nil,List.mapM_cons]
   rfl
  ·cases hc
 ·cases hc
section
variable{P:Program}{W:World}{Φ:World→Prop}{c:Nn}{fn:Func}{R:Ending→World→Prop}{fv:Fn}{cap dargs:Array Value}{f:FuncId}{args:Array Value}
def retFoc(c:Nn):Bool:=match c.foc,c.k with| .out .ret,[]=>true|_,_=>false
theorem K0.retD2(g g2:Nat)(ty ty2:TypeId)(hf:retFoc c=true)(hc:cells2 fn c.st=some ((g,ty),(g2,ty2)))(hi:∀w,(invoke (.fn fv cap) dargs).run P w= .ok (.enter f args) w)
 (h:∀w,Below W.heap.size W w→Φ w→CallsD P f args .returning w fun e u w'=>u= .returning∧∃x v v2,e= .returned x∧(loadVar ty ⟨g,0,none⟩).run P w'= .ok v w'∧(loadVar ty2 ⟨g2,0,none⟩).run P w'= .ok v2 w'∧R (.returned (.tuple #[v,v2])) w'):
 K0 P [⟨.fn fv cap,dargs⟩] W (bodyPostD P fn R) Φ c:=by
 obtain⟨foc,k,σ⟩:=c
 refine⟨?_⟩
 unfold retFoc at hf
 split at hf
 ·rename_i h1 h2
  simp only at h1 h2
  subst h1;subst h2
  intro hwf β a w hr
  show Leaves P fn a.tmps R a.defers .returning w
  rw[hr.defers]
  refine leaves_cons Zs (hi w) ((h w hr.bel hr.phi).mono fun e u' w' he=> ?_)
  obtain⟨rfl,x,v,v2,rfl,k1,k2,hR⟩:=he
  exact⟨_,cells2_ok hc hr k1 k2,hR⟩
 ·cases hf
end
theorem lonebut_of{ops:Array Oper}{o:Oper}{σ:AS}(h:(List.range ops.size).all (fun i=>match ops[i]? with
 |some o'=>(o'.dst !=o.dst)||(List.range ops.size).all (fun k=>Nat.beq k i||(Pc ops i ops.size).getD k false||(Pc ops k ops.size).getD i false||(match ops[k]? with|some ok=>(Zg ops ok&& !(σ.plain ok.op))||(isMv ok.op||Rs ops σ ok)|none=>false))
 |none=>true)=true):G7 ops o σ:=by
 intro i hi listed j hcl hri hrj
 have hlt:i<ops.size:=(Array.getElem?_eq_some_iff.1 hi).1
 have h1:=List.all_eq_true.1 h i (List.mem_range.2 hlt)
 simp only[hi,bne_self_eq_false,Bool.false_or]at h1
 obtain⟨hiu,oi,hoi,halli⟩:=mem_ready.1 hri
 obtain⟨hju,oj,hoj,hallj⟩:=mem_ready.1 hrj
 have hltj:j<ops.size:=(Array.getElem?_eq_some_iff.1 hoj).1
 have h2:=List.all_eq_true.1 h1 j (List.mem_range.2 hltj)
 simp only[Bool.or_eq_true,Nat.beq_eq,hoj,Bool.and_eq_true,Bool.not_eq_true']at h2
 rcases h2 with ((h2|h2)|h2)|h2
 ·exact .inl h2
 ·obtain⟨om,hom,hn⟩:=Qm hcl hiu _ _ h2
  rw[hoj]at hom;injection hom with hom;subst hom
  exact absurd hallj hn
 ·obtain⟨om,hom,hn⟩:=Qm hcl hju _ _ h2
  rw[hoi]at hom;injection hom with hom;subst hom
  exact absurd halli hn
 ·exact .inr ⟨oj,hoj,h2⟩
def butFoc(c:Nn):Bool:=match c.foc with
 | .any ops (_+1) listed=>match Region.ready .any ops listed with
  | [i]=>match ops[i]? with
   |some o=>(List.range ops.size).all (fun i=>match ops[i]? with
    |some o'=>(o'.dst !=o.dst)||(List.range ops.size).all (fun k=>Nat.beq k i||(Pc ops i ops.size).getD k false||(Pc ops k ops.size).getD i false||(match ops[k]? with|some ok=>(Zg ops ok&& !(c.st.plain ok.op))||(isMv ok.op||Rs ops c.st ok)|none=>false))
    |none=>true)
   |none=>false
  |_=>false
 |_=>false
theorem lone_of2{ops:Array Oper}{o:Oper}(h:(List.range ops.size).all (fun i=>match ops[i]? with
 |some o'=>(o'.dst !=o.dst)||(o'.after.size !=o.after.size)||(List.range ops.size).all (fun k=>Nat.beq k i||(Pc ops i ops.size).getD k false||(Pc ops k ops.size).getD i false)
 |none=>true)=true):LoneOp ops o:=by
 intro i hi listed j hcl hri hrj
 have hlt:i<ops.size:=(Array.getElem?_eq_some_iff.1 hi).1
 have h1:=List.all_eq_true.1 h i (List.mem_range.2 hlt)
 simp only[hi,bne_self_eq_false,Bool.false_or]at h1
 obtain⟨hiu,oi,hoi,halli⟩:=mem_ready.1 hri
 obtain⟨hju,oj,hoj,hallj⟩:=mem_ready.1 hrj
 have hltj:j<ops.size:=(Array.getElem?_eq_some_iff.1 hoj).1
 have h2:=List.all_eq_true.1 h1 j (List.mem_range.2 hltj)
 simp only[Bool.or_eq_true,Nat.beq_eq]at h2
 rcases h2 with (h2|h2)|h2
 ·exact h2
 ·obtain⟨om,hom,hn⟩:=Qm hcl hiu _ _ h2
  rw[hoj]at hom;injection hom with hom;subst hom
  exact absurd hallj hn
 ·obtain⟨om,hom,hn⟩:=Qm hcl hju _ _ h2
  rw[hoi]at hom;injection hom with hom;subst hom
  exact absurd halli hn
def lone2Foc(c:Nn):Bool:=match c.foc with
 | .any ops (_+1) listed=>match Region.ready .any ops listed with
  | [i]=>match ops[i]? with
   |some o=>(List.range ops.size).all (fun i=>match ops[i]? with
    |some o'=>(o'.dst !=o.dst)||(o'.after.size !=o.after.size)||(List.range ops.size).all (fun k=>Nat.beq k i||(Pc ops i ops.size).getD k false||(Pc ops k ops.size).getD i false)
    |none=>true)
   |none=>false
  |_=>false
 |_=>false
section
variable{P:Program}{Δ:List Deferred}{W:World}{Q:Exit→Act→World→Prop}{Φ:World→Prop}{c:Nn}
theorem K0.mutAnyB{X:Type}{L:List Nat}{val:X→Value}{G Φ':X→World→Prop}(s:Sem Next)
 (hs:∀w,Below W.heap.size W w→Φ w→Ot P w L val G s) (hL:Yx W L Φ) (hΦ:∀x,Ej L Φ (G x) (Φ' x))
 (hf:butFoc c=true) (hc:Uc c=some s) (h:∀x,K0 P Δ W Q (Φ' x) (Le (.v (val x)) c)):K0 P Δ W Q Φ c:=by
 obtain⟨foc,k,σ⟩:=c
 replace h:=fun x=>(h x).get
 refine⟨?_⟩
 replace hc:=(Q3 hc).1
 unfold Sz at hc
 split at hc
 ·rename_i ops o ho
  split at hc
  ·cases hc
  ·cases hc
  ·rename_i hns hnm
   split at hc
   ·rename_i hw
    simp only[Bool.and_eq_true]at hw
    injection hc with hc
    subst hc
    unfold O7 at ho
    simp only at ho
    split at ho
    ·cases hf
    ·rename_i ops' fuel listed
     split at ho
     ·rename_i i hrd
      cases hoi:ops'[i]? with
      |none=>rw[hoi]at ho;cases ho
      | some o'=>
       rw[hoi]at ho
       simp only[Option.map_some,Option.some.injEq,Prod.mk.injEq]at ho
       obtain⟨rfl,rfl⟩:=ho
       intro hssa hcl hwf
       refine⟨fun h0=>(by rw[h0]at hrd;cases hrd),fun j hj=> ?_⟩
       rw[hrd]at hj
       obtain rfl:j=i:=by simpa using hj
       obtain⟨_,o2,ho2,hall⟩:=mem_ready.1 (show j∈Region.ready .any ops' listed by rw[hrd];simp)
       obtain rfl:o'=o2:=by rw[hoi]at ho2;injection ho2
       have hlone:G7 ops' o' σ:=by
        refine lonebut_of ?_
        unfold butFoc at hf
        simp only[hrd,hoi]at hf
        exact hf
       refine⟨o',hoi,.mutm val G Φ' hlone hw.1 hw.2 (fun cs b e=>hns cs b e) (.inl hs) hL hΦ fun x=> ?_⟩
       have hx:=h x
       simp only[U6,Le,hrd,hoi,Option.bind_some,Nat.add_one_sub_one]at hx
       exact hx hssa (hcl.set_ hoi hall) (hwf.put _ (by intro k hk;simp[AV.ids]at hk))
     ·cases ho
    ·cases ho
   ·cases hc
 ·cases hc
theorem K0.mutStAny{L:List Nat}{G Φ':World→Prop}(s:Sem Next)
 (hs:∀w,Below W.heap.size W w→Φ w→∃w',s.run P w= .ok .skip w'∧Chg L w w'∧∀w'',w'.heap.size≤w''.heap.size→(∀b∈L,w''.heap[b]? =w'.heap[b]?)→G w'') (hL:Yx W L Φ) (hΦ:Ej L Φ G Φ')
 (hf:lone2Foc c=true) (hc:Uc c=some s) (h:K0 P Δ W Q Φ' (Le (.v undef) c)):K0 P Δ W Q Φ c:=by
 obtain⟨foc,k,σ⟩:=c
 replace h:=h.get
 refine⟨?_⟩
 replace hc:=(Q3 hc).1
 unfold Sz at hc
 split at hc
 ·rename_i ops o ho
  split at hc
  ·cases hc
  ·cases hc
  ·rename_i hns hnm
   split at hc
   ·rename_i hw
    simp only[Bool.and_eq_true]at hw
    injection hc with hc
    subst hc
    unfold O7 at ho
    simp only at ho
    split at ho
    ·cases hf
    ·rename_i ops' fuel listed
     split at ho
     ·rename_i i hrd
      cases hoi:ops'[i]? with
      |none=>rw[hoi]at ho;cases ho
      | some o'=>
       rw[hoi]at ho
       simp only[Option.map_some,Option.some.injEq,Prod.mk.injEq]at ho
       obtain⟨rfl,rfl⟩:=ho
       intro hssa hcl hwf
       refine⟨fun h0=>(by rw[h0]at hrd;cases hrd),fun j hj=> ?_⟩
       rw[hrd]at hj
       obtain rfl:j=i:=by simpa using hj
       obtain⟨_,o2,ho2,hall⟩:=mem_ready.1 (show j∈Region.ready .any ops' listed by rw[hrd];simp)
       obtain rfl:o'=o2:=by rw[hoi]at ho2;injection ho2
       have hlone:LoneOp ops' o':=by
        refine lone_of2 ?_
        unfold lone2Foc at hf
        simp only[hrd,hoi]at hf
        exact hf
       refine⟨o',hoi,.lone hlone fun Δ' β a w Q' i' K' hi' hr hwf' hK=> ?_⟩
       unfold wpOp
       simp only[hi',M4 hr,hw.1,if_true]
       refine .inl ?_
       have hrho:∀x∈o'.op.operands,a.eval x=σ.rho x:=fun x hx=>by
        rw[hr.eval,AV.conc_isV];· rfl
        exact List.all_eq_true.1 hw.2 x (by simpa using hx)
       obtain⟨w',hrun,hch,hG⟩:=hs w hr.bel hr.phi
       unfold Oper.wp
       rw[execOp_congr o' (fun cs b e=>hns cs b e) hrho,hrun]
       simp only[U6,Le,hrd,hoi,Option.bind_some,Nat.add_one_sub_one]at h
       have hwf2:(σ.put o'.dst (.v undef)).wf:=hwf.put _ (by intro k hk;simp[AV.ids]at hk)
       exact hK _ _ _ _ _ (h hssa (hcl.set_ hoi hall) hwf2) ((hr.mut hL hch (fun w'' a1 a2=>hG w'' a1 fun b hb=>a2 b (.inl hb)) hΦ).put o'.dst (.v undef)) hwf2
     ·cases ho
    ·cases ho
   ·cases hc
 ·cases hc
def Js(c:Nn):Bool:=butFoc c&&(match O7 c with|some (_,o)=>c.st.plain o.op|none=>false)
theorem butCall_ok{ops:Array Oper}{fuel:Nat}{listed:Array Bool}{k:List FrK}{σ:AS}{i:Nat}{o:Oper}(hrd:Region.ready .any ops listed=[i])(hoi:ops[i]? =some o)(hf:Js ⟨.any ops (fuel+1) listed,k,σ⟩=true):G7 ops o σ∧σ.plain o.op=true:=by
 unfold Js butFoc O7 at hf
 simp only[hrd,hoi,Option.map_some,Bool.and_eq_true]at hf
 exact⟨lonebut_of hf.1,hf.2⟩
theorem K0.mutCallAny{X:Type}{L:List Nat}{g:FuncId}{args:Array Value}{val:X→Value}{G Φ':X→World→Prop}
 (hs:∀w,Below W.heap.size W w→Φ w→Calls P g args w (Nm w L val G)) (hL:Yx W L Φ) (hΦ:∀x,Ej L Φ (G x) (Φ' x))
 (hf:Js c=true) (hc:Lk P c=some (g,args)) (h:∀x,K0 P Δ W Q (Φ' x) (Le (.v (val x)) c)):K0 P Δ W Q Φ c:=by
 obtain⟨foc,k,σ⟩:=c
 replace h:=fun x=>(h x).get
 refine⟨?_⟩
 unfold Lk at hc
 split at hc
 ·rename_i g' xs hn
  split at hc
  ·rename_i vs hv
   injection hc with hc
   injection hc with h1 h2
   subst h1;subst h2
   unfold Sn at hn
   split at hn
   ·rename_i ops o ho
    split at hn
    ·rename_i hw
     unfold O7 at ho
     simp only at ho
     split at ho
     ·cases hf
     ·rename_i ops' fuel listed
      split at ho
      ·rename_i i hrd
       cases hoi:ops'[i]? with
       |none=>rw[hoi]at ho;cases ho
       | some o'=>
        rw[hoi]at ho
        simp only[Option.map_some,Option.some.injEq,Prod.mk.injEq]at ho
        obtain⟨rfl,rfl⟩:=ho
        intro hssa hcl hwf
        refine⟨fun h0=>(by rw[h0]at hrd;cases hrd),fun j hj=> ?_⟩
        rw[hrd]at hj
        obtain rfl:j=i:=by simpa using hj
        obtain⟨_,o2,ho2,hall⟩:=mem_ready.1 (show j∈Region.ready .any ops' listed by rw[hrd];simp)
        obtain rfl:o'=o2:=by rw[hoi]at ho2;injection ho2
        obtain⟨hl,hp⟩:=butCall_ok hrd hoi hf
        refine⟨o',hoi,.mutm val G Φ' hl hw hp (fun cs b e=> ?_) (.inr ⟨g',xs,vs,hn,hv,hs⟩) hL hΦ fun x=> ?_⟩
        ·unfold Vp at hn
         rw[e]at hn
         cases hn
        have hx:=h x
        simp only[U6,Le,hrd,hoi,Option.bind_some,Nat.add_one_sub_one]at hx
        exact hx hssa (hcl.set_ hoi hall) (hwf.put _ (by intro k hk;simp[AV.ids]at hk))
      ·cases ho
     ·cases ho
    ·cases hn
   ·cases hn
  ·cases hc
 ·cases hc
theorem K0.panAny{L:List Nat}{g:FuncId}{args:Array Value}{ch:List PanicEntry}{Φ':World→Prop}
 (hs:∀w,Below W.heap.size W w→Φ w→Calls P g args w (Us w L ch)) (hL:Yx W L Φ) (hΦ:Ej L Φ (fun _=>True) Φ')
 (hf:Js c=true) (hc:Lk P c=some (g,args)) (h:∀σ,K0 P Δ W Q Φ' (amPan ch ⟨c.foc,c.k,σ⟩)):K0 P Δ W Q Φ c:=by
 obtain⟨foc,k,σ⟩:=c
 replace h:=fun x=>(h x).get
 refine⟨?_⟩
 unfold Lk at hc
 split at hc
 ·rename_i g' xs hn
  split at hc
  ·rename_i vs hv
   injection hc with hc
   injection hc with h1 h2
   subst h1;subst h2
   unfold Sn at hn
   split at hn
   ·rename_i ops o ho
    split at hn
    ·rename_i hw
     unfold O7 at ho
     simp only at ho
     split at ho
     ·cases hf
     ·rename_i ops' fuel listed
      split at ho
      ·rename_i i hrd
       cases hoi:ops'[i]? with
       |none=>rw[hoi]at ho;cases ho
       |some o'=>
        rw[hoi]at ho
        simp only[Option.map_some,Option.some.injEq,Prod.mk.injEq]at ho
        obtain⟨rfl,rfl⟩:=ho
        intro hssa hcl hwf
        refine⟨fun h0=>(by rw[h0]at hrd;cases hrd),fun j hj=> ?_⟩
        rw[hrd]at hj
        obtain rfl:j=i:=by simpa using hj
        obtain⟨hl,hp⟩:=butCall_ok hrd hoi hf
        exact⟨o',hoi,.pan ch Φ' g' xs vs hl hw hp hn hv hs hL hΦ h⟩
      ·cases ho
     ·cases ho
    ·cases hn
   ·cases hn
  ·cases hc
 ·cases hc
end
theorem quads_get:∀{b:List UInt8} {k:Nat} {c:Co},(O8 b)[k]? =some c→b[4*k]? =some c.1∧b[4*k+1]? =some c.2.1∧b[4*k+2]? =some c.2.2.1∧b[4*k+3]? =some c.2.2.2
 |x::y::z::u::l,0,c,h=>by cases h;exact⟨rfl,rfl,rfl,rfl⟩
 |x::y::z::u::l,k+1,c,h=>by
  have ih:=quads_get (b:=l) (k:=k) (c:=c) h
  rw[show 4*(k+1)=4*k+1+1+1+1 by omega,show 4*k+1+1+1+1+1=(4*k+1)+1+1+1+1 by omega,show 4*k+1+1+1+1+2=(4*k+2)+1+1+1+1 by omega,show 4*k+1+1+1+1+3=(4*k+3)+1+1+1+1 by omega]
  simpa only[List.getElem?_cons_succ]using ih
 | [],k,c,h=>by cases h
 | [_],k,c,h=>by cases h
 | [_,_],k,c,h=>by cases h
 | [_,_,_],k,c,h=>by cases h
theorem Fb{lo hi z:Int}{f f':Bool}{ws r:WS}(h:rdI lo hi f ws=some (z,true,r,f')):lo≤z∧z≤hi:=by
 cases ws with
 |nil=>cases h
 | cons s v=>
  rw[Yf]at h
  split at h
  ·rename_i h0
   cases h
   have hv:Xv s lo hi=Ry s:=by unfold Xv;rw[if_pos h0]
   have hr:¬(Ry s<lo∨hi<Ry s):=fun hc=>by
    unfold Rj at h0
    by_cases hp:Aj s=0
    ·rw[if_pos hp,if_pos hc]at h0;exact absurd h0 Zd
    ·rw[if_neg hp]at h0;exact hp h0
   rw[hv];omega
  ·split at h<;>cases h
section
variable{w W:World}{g n c m:Nat}{A:Option Addr}{f:Bool}{s l:List UInt8}{ws0 rest r:WS}
theorem app_px{B m yc gb:Nat}{y:Option Addr}{acc:List Co}{x:Co}(ho:K6 w B 152 4 y m yc (pxC acc))(hB:B≤w.heap.size)(hg:L4 152 (Oa x).toArray gb w)(hm:m<1000000):
 Ot Tryz.prog w (bl y) (fun z:Option Addr×Nat=> .slice z.1 (m+1) z.2) (fun z v=>K6 v B 152 4 z.1 (m+1) z.2 (pxC (acc++ [x]))) (M9 48 48 (.slice y m yc) (Kf 1 gb)):=by
 have ha:=O3 (P:=Tryz.prog) (s:=4) (z:= .agg (Oa Uq).toArray) (bytes:=4) (m:=1) (cc:=1) (t:=48) (elem:=152) Zk Zk rfl Zd ho hB (N5 (n:=1) hg rfl) (by intro v hv;simp[Oa]at hv;rcases hv with rfl|rfl|rfl|rfl<;>rfl) Zo Zd
 have e:pxC (acc++ [x])=pxC acc++Oa x:=by simp[pxC]
 rw[e];exact ha
theorem ty_ne{u:World}{B B2 m cc m2 c2 s1 s2:Nat}{e1 e2:TypeId}{Y Y2:Option Addr}{xs xs2:List Value}(h:K6 u B e1 s1 Y m cc xs)(h2:K6 u B2 e2 s2 Y2 m2 c2 xs2)(hne:e1≠e2):∀b∈bl Y,b∉bl Y2:=fun b hb hb2=>by
 obtain⟨c1,o1,h3⟩:=h.ty b hb
 obtain⟨c2,o2,h4⟩:=h2.ty b hb2
 rw[h3]at h4
 simp only[Option.some.injEq,Obj.cells.injEq]at h4
 exact hne h4.2.1
theorem xdecode_o{p:List UInt8}{K:Nat}(hd:decL l=some p)(hK:p.length=K)(h0:0<K)(hL:l.length≤100000):Calls Tryz.prog 146 #[K4 l] w (K7 w (fun y:Nat×Nat=> .tuple #[.slice (some ⟨y.1,0,none⟩) K y.2,Zi 0]) fun y u=>K6 u 0 5 1 (some ⟨y.1,0,none⟩) K y.2 (bv p)):=by
 subst hK
 refine(Y1 hd Zo).mono fun e w' k=> ?_
 obtain⟨y,h1,h2,h3⟩:=k
 have hown:K6 w' 0 5 1 y.1 p.length y.2 (bv p):=h3 w' (Nat.le_refl _) fun _ _ _=>rfl
 obtain⟨g,hg,_⟩:=hown.cells h0
 refine⟨(g,y.2),by rw[h1];show Ending.returned (.tuple #[.slice y.1 _ _,_])=_;rw[hg],h2,fun w'' k1 k2=> ?_⟩
 have ho2:K6 w'' 0 5 1 y.1 p.length y.2 (bv p):=h3 w'' k1 k2
 rw[hg]at ho2
 exact ho2
theorem own_u8{u:World}{B K cc g2 k:Nat}{p:List UInt8}{b:UInt8}(h:K6 u B 5 1 (some ⟨g2,0,none⟩) K cc (bv p))(hk:p[k]? =some b):u.cell? ((⟨g2,0,none⟩:Addr).add k)=some (.int .u8 (b.toNat:Int)):=by
 have hkl:=(List.getElem?_eq_some_iff.1 hk).1
 have hl:=h.len
 unfold bv at hl
 rw[List.length_map]at hl
 obtain⟨g3,e3,hc⟩:=h.cells Zo
 cases e3
 rw[Addr.add_mid,Nat.zero_add]
 exact hc k _ (by unfold bv;rw[List.getElem?_map,hk];rfl)
theorem rem4{n:Nat}:((n:Int).tmod 4 !=0)=decide (n%4≠0):=by
 have e:(n:Int).tmod 4=((n%4:Nat):Int):=rfl
 rw[e]
 by_cases h:n%4=0
 ·rw[h];rfl
 ·simp[h];omega
theorem image_t(hR:RE W w g A n c ws0)(hs:Ph ws0 n rest)(hb:K5 w g (L7 A n c rest.length f)):Calls Tryz.prog 92 #[Zq g 0] w
 (Ld w [g] Qn (Xt f rest) (fun d (y:Option Addr×Nat)=>imV d.1 y) (fun d y u=>K5 u g (L7 A n c d.2.1.length d.2.2)∧K6 u w.heap.size 152 4 y.1 d.1.px.length y.2 (pxC d.1.px))):=by
 have lg:=hR.lg
 have hg:=hb.lt
 obtain⟨o,ho⟩:∃o,o=Xt f rest:=⟨_,rfl⟩
 rw[←ho]
 refine K0.enterB Tryz.func92 rfl hR.hW lg hb <| ZR ?_
 cases h1:rdI 1 4096 f rest with
 |none=>
  have hN:o=none:=by rw[ho];unfold Xt;rw[h1];rfl
  exact K0.mutx (L:=[g]) (Φ':=fun u=>Me W w g u) (fun w1 hw h=>by have t:=V0 (lo:=1) (hi:=4096) (hR.next hw h) hs h.2.2;rw[h1]at t;exact t) (fun u h=>K9 (cs':=[]) lg u h) (fun wa u e1 e2 h _=>Mn wa u e1 e2 h) Zk Zk <| K0.pan fun w1 hw h=>by rw[hN];exact Mm hR.hW hw h
 |some d=>
 obtain⟨x,bx,r1,f1⟩:=d
 have hs1:=X0 hs h1
 refine K0.mut (L:=[g]) (Φ':=fun _ u=>Om W w g (L7 A n c r1.length f1) u) (fun w1 hw h=>by have t:=V0 (lo:=1) (hi:=4096) (hR.next hw h) hs h.2.2;rw[h1]at t;exact t) (fun u h=>K9 (cs':=[]) lg u h) (fun _ wa u e1 e2 h hG=>Kg wa u e1 e2 h hG) Zk Zk fun _=>ZR ?_
 cases h2:rdI 1 4096 f1 r1 with
 |none=>
  have hN:o=none:=by rw[ho];unfold Xt;rw[h1,Option.bind_some,h2];rfl
  exact K0.mutx (L:=[g]) (Φ':=fun u=>Me W w g u) (fun w1 hw h=>by have t:=V0 (lo:=1) (hi:=4096) (hR.next hw h) hs1 h.2.2;rw[h2]at t;exact t) (fun u h=>K9 (cs':=[]) lg u h) (fun wa u e1 e2 h _=>Mn wa u e1 e2 h) Zk Zk <| K0.pan fun w1 hw h=>by rw[hN];exact Mm hR.hW hw h
 |some d=>
 obtain⟨y,by_,r2,f2⟩:=d
 have hs2:=X0 hs1 h2
 refine K0.mut (L:=[g]) (Φ':=fun _ u=>Om W w g (L7 A n c r2.length f2) u) (fun w1 hw h=>by have t:=V0 (lo:=1) (hi:=4096) (hR.next hw h) hs1 h.2.2;rw[h2]at t;exact t) (fun u h=>K9 (cs':=[]) lg u h) (fun _ wa u e1 e2 h hG=>Kg wa u e1 e2 h hG) Zk Zk fun _=>ZR ?_
 cases r2 with
 |nil=>
  have hN:o=none:=by rw[ho];unfold Xt;rw[h1,Option.bind_some,h2];rfl
  exact K0.mutx (L:=[g]) (Φ':=fun u=>Me W w g u) (fun w1 hw h=>Qk (hR.next hw h) h.2.2) (fun u h=>K9 (cs':=[]) lg u h) (fun wa u e1 e2 h _=>Mn wa u e1 e2 h) Zk Zk <| K0.pan fun w1 hw h=>by rw[hN];exact Mm hR.hW hw h
 |cons s r3=>
 have hs3:=hs2.tail
 have hsl:=hR.mem hs2
 refine K0.mut (L:=[g]) (Φ':=fun _ u=>Om W w g (L7 A n c r3.length f2) u) (fun w1 hw h=>Oq (hR.next hw h) hs2 h.2.2) (fun u h=>K9 (cs':=[]) lg u h) (fun _ wa u e1 e2 h hG=>Kg wa u e1 e2 h hG) Zk Zk fun _=>ZR ?_
 have ho2:o=match decL s with
  |none=>none
  |some b=>if b.length%4≠0 then none else if bx=false∨by_=false∨x*y>65536 then some (Di,r3,true)
   else if (b.length:Int)≠4*x*y then none else some (⟨x,y,O8 b⟩,r3,f2):=by
  rw[ho];unfold Xt;rw[h1,Option.bind_some,h2];rfl
 cases hd:decL s with
 |none=>
  have hN:o=none:=by rw[ho2,hd]
  exact ZC (fun w1 hw h=>xdecode_n hd Zo) fun yd=>ZI true <| K0.throw (Instr.panic Ke >>= fun v=>pure (.value v)) Ke Zk (fun w1 hw h=>by simp[Instr.panic,Ke,Go.goPanic]) Zk <| K0.pan fun w1 hw h=>by rw[hN];exact Mg hR.hW hw h.1
 |some b=>
 rw[hd]at ho2
 simp only at ho2
 have hbl:2*b.length=s.length:=by rw[←Fs hd,Sr]
 by_cases h4:b.length%4=0
 case neg=>
  have hN:o=none:=by rw[ho2,if_pos h4]
  exact K0.callv (fun w1 hw h=>Y1 hd Zo) Zk fun yd=>K0.run Zk (stop:=1000) 9 _ <| ZS 7 <| ZT 33 (.bool (((b.length:Int).tmod 4) !=0)) Zt (by rw[rem4];simp[h4]) <| ZI true <| K0.throw (Instr.panic Ke >>= fun v=>pure (.value v)) Ke Zk (fun w1 hw h=>by simp[Instr.panic,Ke,Go.goPanic]) Zk <| K0.pan fun w1 hw h=>by rw[hN];exact Mg hR.hW hw h.1
 rw[if_neg Zo]at ho2
 have hsl4:(((b.length:Int).tmod 4) !=0)=false:=by rw[rem4];simp[h4]
 by_cases hfar:bx=false∨by_=false∨x*y>65536
 case pos=>
  have hN:o=some (Di,r3,true):=by rw[ho2,if_pos hfar]
  refine K0.callv (fun w1 hw h=>Y1 hd Zo) Zk fun yd=>K0.run Zk (stop:=1000) 9 _ <| ZS 7 <| K0.slot 33 (.bool (((b.length:Int).tmod 4) !=0)) Zf Zk (by rw[hsl4]) ?_
  cases bx with
  |false=>
   refine ZR <| ZI false <| ZI true <| K0.mutSt (L:=[g]) (G:=fun u=>K5 u g (L7 A n c r3.length true)) (Φ':=Om W w g (L7 A n c r3.length true)) (Tc 4 ⟨g,1,none⟩ Zt) (fun w1 hw h=>h.1.2.2.store1 (j:=1) Zk rfl Zs rfl) (fun u h=>K9 (cs':=[]) lg u h.1) (fun wa u e1 e2 h hG=>Kg wa u e1 e2 h.1 hG) Zk Zk <| ZR <| ZV (imV Di (none,0)) (fun w1 hw h=>by rw[hN];have k:=h w1 (Nat.le_refl _) (fun _ _ _=>rfl);exact Oe (val:=fun y:Option Addr×Nat=>imV Di y) (none,0) hR.hW hw k fun w'' k1 k2=>⟨k.2.2.to (k2 g (.inl Zs)),K6.nil_⟩)
  | true=>
   cases by_ with
   |false=>
    refine ZR <| ZI false <| ZI true <| K0.mutSt (L:=[g]) (G:=fun u=>K5 u g (L7 A n c r3.length true)) (Φ':=Om W w g (L7 A n c r3.length true)) (Tc 4 ⟨g,1,none⟩ Zt) (fun w1 hw h=>h.1.2.2.store1 (j:=1) Zk rfl Zs rfl) (fun u h=>K9 (cs':=[]) lg u h.1) (fun wa u e1 e2 h hG=>Kg wa u e1 e2 h.1 hG) Zk Zk <| ZR <| ZV (imV Di (none,0)) (fun w1 hw h=>by rw[hN];have k:=h w1 (Nat.le_refl _) (fun _ _ _=>rfl);exact Oe (val:=fun y:Option Addr×Nat=>imV Di y) (none,0) hR.hW hw k fun w'' k1 k2=>⟨k.2.2.to (k2 g (.inl Zs)),K6.nil_⟩)
   |true=>
    have hxy:x*y>65536:=by simpa using hfar
    have hx:=Fb h1
    have hy:=Fb h2
    have hm:x*y≤4096*4096:=Int.mul_le_mul hx.2 hy.2 Zo Zd
    refine ZR <| K0.cond false Zk <| ZS 10 <| K0.slot 46 (Zi (IntKind.i64.wrap (x*y))) (Zi (x*y)) Zk (by rw[IntWalk.i64_in _ Zo]) <| ZS 11 <| ZT 47 (.bool (decide (x*y>65536))) Zt (by simp[hxy]) <| ZI true <| K0.mutSt (L:=[g]) (G:=fun u=>K5 u g (L7 A n c r3.length true)) (Φ':=Om W w g (L7 A n c r3.length true)) (Tc 4 ⟨g,1,none⟩ Zt) (fun w1 hw h=>h.1.2.2.store1 (j:=1) Zk rfl Zs rfl) (fun u h=>K9 (cs':=[]) lg u h.1) (fun wa u e1 e2 h hG=>Kg wa u e1 e2 h.1 hG) Zk Zk <| ZR <| ZV (imV Di (none,0)) (fun w1 hw h=>by rw[hN];have k:=h w1 (Nat.le_refl _) (fun _ _ _=>rfl);exact Oe (val:=fun y:Option Addr×Nat=>imV Di y) (none,0) hR.hW hw k fun w'' k1 k2=>⟨k.2.2.to (k2 g (.inl Zs)),K6.nil_⟩)
 obtain⟨hbx,hby,hxy⟩:bx=true∧by_=true∧x*y≤65536:=by
  refine⟨?_,?_,?_⟩
  ·cases bx with
   |true=>rfl
   |false=>exact absurd (.inl rfl) hfar
  ·cases by_ with
   |true=>rfl
   |false=>exact absurd (.inr (.inl rfl)) hfar
  ·exact Int.not_lt.1 fun hc=>hfar (.inr (.inr hc))
 rw[if_neg hfar]at ho2
 subst hbx hby
 have hx:=Fb h1
 have hy:=Fb h2
 have hxy1:1≤x*y:=by have:=Int.mul_le_mul hx.1 hy.1 Zd Zo;omega
 have e4:4*x*y=4*(x*y):=Int.mul_assoc 4 x y
 by_cases hl:(b.length:Int)=4*x*y
 case neg=>
  have hN:o=none:=by rw[ho2,if_pos hl]
  exact K0.callv (fun w1 hw h=>Y1 hd Zo) Zk fun yd=>K0.run Zk (stop:=1000) 9 _ <| ZS 7 <| ZT 33 (.bool (((b.length:Int).tmod 4) !=0)) Zf (by rw[hsl4]) <| K0.cond false Zk <| ZS 10 <| K0.slot 46 (Zi (IntKind.i64.wrap (x*y))) (Zi (x*y)) Zk (by rw[IntWalk.i64_in _ Zo]) <| ZS 11 <| ZT 47 (.bool (decide (x*y>65536))) Zf Zp <| K0.cond false Zk <| ZS 4 <| K0.slot 56 (Zi (IntKind.i64.wrap (4*x))) (Zi (4*x)) Zk (by rw[IntWalk.i64_in _ Zo]) <| ZS 6 <| ZT 58 (Zi (IntKind.i64.wrap (4*x*y))) (Zi (4*x*y)) (by rw[IntWalk.i64_in _ Zo]) <| ZJ (((b.length:Int) !=4*x*y)) true (by simpa using hl) <| K0.throw (Instr.panic Ke >>= fun v=>pure (.value v)) Ke Zk (fun w1 hw h=>by simp[Instr.panic,Ke,Go.goPanic]) Zk <| K0.pan fun w1 hw h=>by rw[hN];exact Mg hR.hW hw h.1
 have hN:o=some (⟨x,y,O8 b⟩,r3,f2):=by rw[ho2,if_neg (by simpa using hl)]
 obtain⟨N,hNq⟩:∃N,b.length=4*N:=⟨b.length/4,by omega⟩
 have hq2:=(quads_flat N b hNq).2
 refine K0.callv (fun w1 hw h=>xdecode_o (K:=b.length) hd rfl Zo Zo) Zk fun yd=>K0.run Zk (stop:=1000) 9 _ <| ZS 7 <| ZT 33 (.bool (((b.length:Int).tmod 4) !=0)) Zf (by rw[hsl4]) <| K0.cond false Zk <| ZS 10 <| K0.slot 46 (Zi (IntKind.i64.wrap (x*y))) (Zi (x*y)) Zk (by rw[IntWalk.i64_in _ Zo]) <| ZS 11 <| ZT 47 (.bool (decide (x*y>65536))) Zf Zp <| K0.cond false Zk <| ZS 4 <| K0.slot 56 (Zi (IntKind.i64.wrap (4*x))) (Zi (4*x)) Zk (by rw[IntWalk.i64_in _ Zo]) <| ZS 6 <| ZT 58 (Zi (IntKind.i64.wrap (4*x*y))) (Zi (4*x*y)) (by rw[IntWalk.i64_in _ Zo]) <| ZJ (((b.length:Int) !=4*x*y)) false (by simpa using hl) <| K0.loop (ι:={q:Nat×(Option Addr×Nat) // q.1≤N}) 97 (fun q=>⟨[(2,.p 2 0),(7,.v (.slice (some ⟨yd.1,0,none⟩) b.length yd.2)),(9,.p 9 0),(10,.v (Zi ((4*q.1.1:Nat):Int)))],[(2,[.v (Zi 0),.v (Zi 0),.v (.slice none 0 0)]),(9,[.v (Zi x),.v (Zi y),.v (.slice q.1.2.1 q.1.1 q.1.2.2)])]⟩) (fun q u=>(Om W w g (L7 A n c r3.length f2) u∧K6 u 0 5 1 (some ⟨yd.1,0,none⟩) b.length yd.2 (bv b))∧K6 u w.heap.size 152 4 q.1.2.1 q.1.1 q.1.2.2 (pxC ((O8 b).take q.1.1))) (fun q=>N-q.1.1) (⟨(0,(none,0)),Nat.zero_le _⟩) Zk (fun _=>by kernel_rfl) ⟨Zk,Zk,Zk⟩ (fun u h=>⟨h,K6.nil_⟩) ?_
 rintro⟨⟨k,ya,yc⟩,hk⟩ gg
 have hk:k≤N:=hk
 refine ZR ?_
 by_cases hlt:k<N
 case neg=>
  obtain rfl:k=N:=by omega
  refine ZJ (decide (((4*k:Nat):Int)<(b.length:Int))) false Zp <| K0.leave Zk <| ZR ?_
  have hfull:(O8 b).take k=O8 b:=List.take_of_length_le Zo
  have ev:(Value.agg #[Zi x,Zi y,.slice ya k yc])=imV ⟨x,y,O8 b⟩ (ya,yc):=by
   show _=Value.agg #[_,_,.slice ya (O8 b).length yc]
   rw[hq2]
  refine ZV (.agg #[Zi x,Zi y,.slice ya k yc]) (fun w1 hw h=>by rw[hN,ev];have k1:(Om W w g (L7 A n c r3.length f2) w1∧K6 w1 0 5 1 (some ⟨yd.1,0,none⟩) b.length yd.2 (bv b))∧K6 w1 w.heap.size 152 4 ya k yc (pxC ((O8 b).take k)):=h w1 (Nat.le_refl _) (fun _ _ _=>rfl);rw[hfull]at k1;exact Oe (val:=fun y2:Option Addr×Nat=>imV ⟨x,y,O8 b⟩ y2) (ya,yc) hR.hW hw k1.1.1 fun w'' k2 k3=>⟨k1.1.1.2.2.to (k3 g (.inl Zs)),by show K6 w'' w.heap.size 152 4 ya (O8 b).length yc (pxC (O8 b));rw[hq2];exact k1.2.same fun bb hb=>k3 bb (.inr (k1.2.lt bb hb))⟩)
 obtain⟨px,hpx⟩:∃px,(O8 b)[k]? =some px:=⟨_,List.getElem?_eq_getElem Zo⟩
 obtain⟨p1,p2,p3,p4⟩:=quads_get hpx
 refine ZJ (decide (((4*k:Nat):Int)<(b.length:Int))) true Zp <| K0.slot 79 (Zi (IntKind.i64.wrap (((4*k:Nat):Int)+1))) (Zi ((4*k+1:Nat):Int)) Zk (by rw[IntWalk.i64_in _ Zo];congr 1) <| K0.slot 84 (Zi (IntKind.i64.wrap (((4*k:Nat):Int)+2))) (Zi ((4*k+2:Nat):Int)) Zk (by rw[IntWalk.i64_in _ Zo];congr 1) <| K0.slot 89 (Zi (IntKind.i64.wrap (((4*k:Nat):Int)+3))) (Zi ((4*k+3:Nat):Int)) Zk (by rw[IntWalk.i64_in _ Zo];congr 1) <| ZB 4 (Kj 86 (.slice (some ⟨yd.1,0,none⟩) b.length yd.2) ((4*k:Nat):Int)) (.pointer (some ((⟨yd.1,0,none⟩:Addr).add (4*k)))) (fun w1 hw h=>Kn (k:=4*k) (elem:=5) Zk Zk Zo) <| ZB 5 (L5 5 ((⟨yd.1,0,none⟩:Addr).add (4*k))) (.int .u8 (px.1.toNat:Int)) (fun w1 hw h=>K8 Zk (own_u8 h.1.2 p1)) <| ZB 9 (Kj 86 (.slice (some ⟨yd.1,0,none⟩) b.length yd.2) ((4*k+1:Nat):Int)) (.pointer (some ((⟨yd.1,0,none⟩:Addr).add (4*k+1)))) (fun w1 hw h=>Kn (k:=4*k+1) (elem:=5) Zk Zk Zo) <| ZB 10 (L5 5 ((⟨yd.1,0,none⟩:Addr).add (4*k+1))) (.int .u8 (px.2.1.toNat:Int)) (fun w1 hw h=>K8 Zk (own_u8 h.1.2 p2)) <| ZB 14 (Kj 86 (.slice (some ⟨yd.1,0,none⟩) b.length yd.2) ((4*k+2:Nat):Int)) (.pointer (some ((⟨yd.1,0,none⟩:Addr).add (4*k+2)))) (fun w1 hw h=>Kn (k:=4*k+2) (elem:=5) Zk Zk Zo) <| ZB 15 (L5 5 ((⟨yd.1,0,none⟩:Addr).add (4*k+2))) (.int .u8 (px.2.2.1.toNat:Int)) (fun w1 hw h=>K8 Zk (own_u8 h.1.2 p3)) <| ZB 19 (Kj 86 (.slice (some ⟨yd.1,0,none⟩) b.length yd.2) ((4*k+3:Nat):Int)) (.pointer (some ((⟨yd.1,0,none⟩:Addr).add (4*k+3)))) (fun w1 hw h=>Kn (k:=4*k+3) (elem:=5) Zk Zk Zo) <| ZB 20 (L5 5 ((⟨yd.1,0,none⟩:Addr).add (4*k+3))) (.int .u8 (px.2.2.2.toNat:Int)) (fun w1 hw h=>K8 Zk (own_u8 h.1.2 p4)) <| K0.make (Lq (48) 1 #[(0,.agg (Oa px).toArray)]) (Kf 1) (L4 152 (Oa px).toArray) Zk (fun w1 hw h=>Kc Zk) fun gb=>ZS 23 <| K0.take [24] <| K0.mutAnyB (L:=bl ya) (val:=fun(z:Option Addr×Nat)=> .slice z.1 (k+1) z.2) (Φ':=fun(z:Option Addr×Nat) u=>(Om W w g (L7 A n c r3.length f2) u∧K6 u 0 5 1 (some ⟨yd.1,0,none⟩) b.length yd.2 (bv b))∧K6 u w.heap.size 152 4 z.1 (k+1) z.2 (pxC ((O8 b).take k++ [px]))) (G:=fun(z:Option Addr×Nat) u=>K6 u w.heap.size 152 4 z.1 (k+1) z.2 (pxC ((O8 b).take k++ [px]))) (M9 48 48 (.slice ya k yc) (Kf 1 gb)) (fun w1 hw h=>app_px h.1.2 h.1.1.1.1 h.2 Zo) (fun u h=>fun bb hb=>⟨Nat.le_trans hR.hW.size (h.1.2.lt bb hb).1,(h.1.2.blk bb hb).2⟩) (fun z wa u e1 e2 h hG=>⟨⟨Hs (fun bb hb=>(h.1.2.lt bb hb).1) hg e1 e2 h.1.1.1,K6.left h.1.1.2 e2 (ty_ne h.1.1.2 h.1.2 Zd)⟩,hG⟩) Zk Zk fun z=>ZR <| K0.slot 10 (Zi (IntKind.i64.wrap (((4*k:Nat):Int)+4))) (Zi ((4*(k+1):Nat):Int)) Zk (by rw[IntWalk.i64_in _ Zo];congr 1) ?_
 have htk:(O8 b).take (k+1)=(O8 b).take k++ [px]:=by rw[List.take_add_one,hpx];rfl
 refine K0.next (⟨(k+1,z),by show k+1≤N;omega⟩) Zk (by show N- (k+1)<N-k;omega) ⟨Zk,Zk,Zk⟩ (fun u h=>⟨h.1,by show K6 u w.heap.size 152 4 z.1 (k+1) z.2 (pxC ((O8 b).take (k+1)));rw[htk];exact h.2⟩)
theorem imageOk:ImageOk:=fun w W g n c A f ws0 rest hR hs hb=>image_t hR hs hb
end
theorem H4{P:Program}{t:TypeId}{g:Nat}{v:Value}{w:World}(ht:Rm P t=some false)(h:K5 w g [v]):(loadVar t ⟨g,0,none⟩).run P w= .ok v w:=by
 have h1:=Gn (P:=P) ht h.one
 simp only[Sem.run_bind,Instr.loadAt,Instr.sureAddr,Sem.run_pure,Result.andThen_ok]at h1
 generalize (loadVar t ⟨g,0,none⟩).run P w=r at h1 ⊢
 cases r with
 |ok x w'=>simp only[Result.andThen_ok,Result.ok.injEq,Next.value.injEq]at h1;rw[h1.1,h1.2]
 |_=>cases h1
theorem load_boxN{P:Program}{t:TypeId}{g:Nat}{vs:List Value}{w:World}(ht:Rm P t=some true)(hn:Nz P t=some vs.length)(h:K5 w g vs):(loadVar t ⟨g,0,none⟩).run P w= .ok (.agg vs.toArray) w:=by
 have h1:=Mj (P:=P) ht hn h.range
 simp only[L5,Sem.run_bind,Instr.loadAt,Instr.sureAddr,Sem.run_pure,Result.andThen_ok]at h1
 generalize (loadVar t ⟨g,0,none⟩).run P w=r at h1 ⊢
 cases r with
 |ok x w'=>simp only[Result.andThen_ok,Result.ok.injEq,Next.value.injEq]at h1;rw[h1.1,h1.2]
 |_=>cases h1
section
variable{w W:World}{l:List UInt8}
theorem sf_c(hM:ML w)(hB:Vm (L9 l)=true)(hl:l.length≤10000000):Calls Tryz.prog 52 #[K4 l] w (K7 w (fun y:Option Addr×Nat=> .tuple #[.slice y.1 (Lx (L9 l)).length y.2,Zi 0,Zi 0]) fun y u=>L3 u y.1 (Lx (L9 l)).length (Lx (L9 l))∧(Lx (L9 l)).length≤y.2):=Xq hM hB rfl hl
def TwoR(w:World)(gp go:Nat)(cs:List Value)(b:Bool)(u:World):Prop:=K5 u gp cs∧K5 u go [.bool b]∧w.heap.size≤gp∧gp<go∧go<u.heap.size
theorem TwoR.left{gp go g:Nat}{cs:List Value}{b:Bool}{wa u:World}(h:TwoR w gp go cs b wa)(e1:wa.heap.size=u.heap.size)(e2:∀b,b∉[g]→wa.heap[b]? =u.heap[b]?)(hg:go<g):TwoR w gp go cs b u:=
 ⟨h.1.left e2 (by have:=h.2.2.2.1;simp;omega),h.2.1.left e2 Zp,h.2.2.1,h.2.2.2.1,by rw[←e1];exact h.2.2.2.2⟩
def yb(A:Option Addr):Nat:=match A with|some ad=>ad.block+1|none=>0
end
def pnC(P:Pn)(q:PM):List Value:=[Zi P.kind,.int .u8 (P.co.1.toNat:Int),.int .u8 (P.co.2.1.toNat:Int),.int .u8 (P.co.2.2.1.toNat:Int),.int .u8 (P.co.2.2.2.toNat:Int),Zi P.p0x,Zi P.p0y,Zi P.p1x,Zi P.p1y,Zi P.rad,.slice q.sA P.stops.length q.sc,Zi P.spread,Zi P.im.w,Zi P.im.h,.slice q.xA P.im.px.length q.xc,Zi P.samp]++q.t.cl
theorem setRow_same{w:World}{g:Nat}{c:Array Value}{t:TypeId}{o:Nat×Nat}(h:w.heap[g]? =some (.cells c t o)):w.setRow g c=w:=by
 have e:(w.setRow g c).heap=w.heap:=by
  apply Array.ext_getElem?
  intro i
  simp only[World.setRow,Array.getElem?_modify]
  split
  ·rename_i e;subst e;rw[h];rfl
  ·rfl
 show{w with heap:=(w.setRow g c).heap}=w
 rw[e]
theorem store_same{P:Program}{t:TypeId}{w:World}{g:Nat}{v:Value}{cs:List Value}(h:K5 w g cs)(he:v.cells.toList=cs)(hn:Nz P t=some cs.length)(h1:∀u∈v.cells.toList,u.oneCell'=true):(Tc t ⟨g,0,none⟩ v).run P w= .ok .skip w:=by
 obtain⟨ty,h⟩:=h
 have hst:=run_storeCells_at P g 0 ty v.cells.toList 0 cs.toArray w h (by simp;rw[←he];simp) h1
 have hsz:v.cells.size=cs.length:=by rw[←he];simp
 have hnew:((cs.toArray.toList.take (0+0)++v.cells.toList++cs.toArray.toList.drop (0+0+v.cells.toList.length)).toArray)=cs.toArray:=by
  rw[he];simp
 rw[hnew,setRow_same h]at hst
 simp only[Tc,Instr.storeAt,Instr.sureAddr,storeVar,Sem.run_bind,Sem.run_pure,Result.andThen_ok,Lf hn]
 rw[if_neg (by simpa using hsz)]
 simp only[hst,Sem.run_pure,Sem.run_bind,Result.andThen_ok]
theorem Wf{A:Option Addr}{c:Nat}:B3 0 A c=A:=by
 unfold B3
 cases A with
 |none=>rfl
 |some a=>simp[Addr.add]
section
variable{w W:World}{l:List UInt8}
theorem Jx(hB:Vm (L9 l)=true):∀y∈Lx (L9 l),y.length≤l.length:=fun y hy=>by
 have h1:P0 y∈L9 l:=by rw[←quo_all hB];exact List.mem_map.2 ⟨y,hy,rfl⟩
 have h2:(P0 y).length≤l.length:=by
  unfold L9 at h1
  split at h1
  ·cases h1
  ·exact Cc 32 l _ h1
 have h3:y.length≤(P0 y).length:=by
  unfold P0
  split
  ·rename_i e;subst e;simp
  ·exact(flat_len y).1
 omega
theorem Jy:(Lx (L9 l)).length≤l.length+1:=by
 refine Nat.le_trans (W3 _) ?_
 unfold L9
 split
 ·simp
 ·rw[Vx];have:=List.count_le_length (a:=(32:UInt8)) (l:=l);omega
end
section
variable{w:World}{z:Int}
theorem Bm(h1:0≤z)(h2:z<0+4):Zv 35 #[.string ⟨#[115,112,114,101,97,100]⟩,Zi z] w (K4 (Kz Ln 0 z)):=by
 obtain⟨k,hk⟩:∃k:Nat,z=0+(k:Int):=⟨(z-0).toNat,by omega⟩
 have hlt:k<4:=by omega
 obtain⟨s,hs⟩:∃s,Ln[k]? =some s:=⟨_,List.getElem?_eq_getElem (show k<Ln.length from hlt)⟩
 have hn:Kz Ln 0 z=s:=by
  unfold Kz
  rw[show(z-0).toNat=k by omega,hs];rfl
 rw[hn]
 exact K0.enter Tryz.func35 rfl <| ZR <| K0.callv (fun w1 hw h=>Fg) Zk fun y=>K0.run Zk (stop:=1000) 7 _ <| ZS 4 <| K0.slot 15 (Zi (IntKind.i64.wrap (z-0))) (Zi (k:Int)) Zk (by rw[IntWalk.i64_in _ Zo];congr 1;omega) <| K0.ask (Kj 66 (.slice (some ⟨y,0,none⟩) 4 4) k) (.pointer (some ((⟨y,0,none⟩:Addr).add k))) Zk (fun w1 hw h=>Kn (elem:=9) Zk Zk hlt) <| ZS 5 <| ZA (L5 9 ((⟨y,0,none⟩:Addr).add k)) (K4 s) (fun w1 hw h=>K8 Zk (by obtain⟨ad,q1,q2⟩:=h.2.2 k s hs;cases q1;exact q2)) <| ZW (K4 s)
theorem name_look(h1:1≤z)(h2:z<1+2):Zv 35 #[.string ⟨#[108,111,111,107]⟩,Zi z] w (K4 (Kz Oc 1 z)):=by
 obtain⟨k,hk⟩:∃k:Nat,z=1+(k:Int):=⟨(z-1).toNat,by omega⟩
 have hlt:k<2:=by omega
 obtain⟨s,hs⟩:∃s,Oc[k]? =some s:=⟨_,List.getElem?_eq_getElem (show k<Oc.length from hlt)⟩
 have hn:Kz Oc 1 z=s:=by
  unfold Kz
  rw[show(z-1).toNat=k by omega,hs];rfl
 rw[hn]
 exact K0.enter Tryz.func35 rfl <| ZR <| K0.callv (fun w1 hw h=>names_look) Zk fun y=>K0.run Zk (stop:=1000) 7 _ <| ZS 4 <| K0.slot 15 (Zi (IntKind.i64.wrap (z-1))) (Zi (k:Int)) Zk (by rw[IntWalk.i64_in _ Zo];congr 1;omega) <| K0.ask (Kj 66 (.slice (some ⟨y,0,none⟩) 2 2) k) (.pointer (some ((⟨y,0,none⟩:Addr).add k))) Zk (fun w1 hw h=>Kn (elem:=9) Zk Zk hlt) <| ZS 5 <| ZA (L5 9 ((⟨y,0,none⟩:Addr).add k)) (K4 s) (fun w1 hw h=>K8 Zk (by obtain⟨ad,q1,q2⟩:=h.2.2 k s hs;cases q1;exact q2)) <| ZW (K4 s)
theorem name_rule(h1:1≤z)(h2:z<1+2):Zv 35 #[.string ⟨#[114,117,108,101]⟩,Zi z] w (K4 (Kz Na 1 z)):=by
 obtain⟨k,hk⟩:∃k:Nat,z=1+(k:Int):=⟨(z-1).toNat,by omega⟩
 have hlt:k<2:=by omega
 obtain⟨s,hs⟩:∃s,Na[k]? =some s:=⟨_,List.getElem?_eq_getElem (show k<Na.length from hlt)⟩
 have hn:Kz Na 1 z=s:=by
  unfold Kz
  rw[show(z-1).toNat=k by omega,hs];rfl
 rw[hn]
 exact K0.enter Tryz.func35 rfl <| ZR <| K0.callv (fun w1 hw h=>names_rule) Zk fun y=>K0.run Zk (stop:=1000) 7 _ <| ZS 4 <| K0.slot 15 (Zi (IntKind.i64.wrap (z-1))) (Zi (k:Int)) Zk (by rw[IntWalk.i64_in _ Zo];congr 1;omega) <| K0.ask (Kj 66 (.slice (some ⟨y,0,none⟩) 2 2) k) (.pointer (some ((⟨y,0,none⟩:Addr).add k))) Zk (fun w1 hw h=>Kn (elem:=9) Zk Zk hlt) <| ZS 5 <| ZA (L5 9 ((⟨y,0,none⟩:Addr).add k)) (K4 s) (fun w1 hw h=>K8 Zk (by obtain⟨ad,q1,q2⟩:=h.2.2 k s hs;cases q1;exact q2)) <| ZW (K4 s)
theorem Fr{k:Co}:Zv 17 #[Rf k] w (K4 (Pd k)):=by
 exact K0.enter Tryz.func17 rfl <| ZR <| K0.make (Lq (86) 4 #[(0,.int .u8 (k.1.toNat:Int)),(1,.int .u8 (k.2.1.toNat:Int)),(2,.int .u8 (k.2.2.1.toNat:Int)),(3,.int .u8 (k.2.2.2.toNat:Int))]) (Kf 4) (L4 5 #[.int .u8 (k.1.toNat:Int),.int .u8 (k.2.1.toNat:Int),.int .u8 (k.2.2.1.toNat:Int),.int .u8 (k.2.2.2.toNat:Int)]) Zk (fun w1 hw h=>Kc Zk) fun gb=>ZR <| ZD 10 (fun w1 hw h=>xencode_m (A:=some ⟨gb,0,none⟩) (n:=4) (c:=4) (bs:=Ep k) (by have h2:=K6.lit (B:=0) (n:=4) (s:=1) h.2 rfl (Nat.zero_le _) Zd;exact K6.bytes (l:=Ep k) h2) Zd) fun u=>ZA (Qf .add 9 (.const (.string ⟨#[35]⟩)) (.tmp 12) (K4 [35]) (K4 (T1 (Ep k)))) (K4 (Pd k)) (fun w1 hw h=>B9 (l:=[35]) (m:=T1 (Ep k)) (by rw[Sr];show 1+2*4≤_;decide)) <| ZW (K4 (Pd k))
end
end Go.Proofs.YtoeiphicmcndlaaGreatDoor
