/-
 Scenes as text: the program's Format.
-/
import Derived.Test.YtoeiphicmcndlaaGreatDoorFC
namespace Go.Proofs.YtoeiphicmcndlaaGreatDoor
set_option maxRecDepth 100000
set_option maxHeartbeats 8000000
set_option linter.unusedVariables false
set_option linter.unusedSimpArgs false
open Go.RowKit
def Ms:WS:=[[110,111,114,109,97,108],[109,117,108,116,105,112,108,121],[115,99,114,101,101,110],[111,118,101,114,108,97,121],[100,97,114,107,101,110],[108,105,103,104,116,101,110],[100,105,102,102,101,114,101,110,99,101],[101,120,99,108,117,115,105,111,110],[104,97,114,100,108,105,103,104,116],[104,117,101],[115,97,116,117,114,97,116,105,111,110],[99,111,108,111,114],[108,117,109,105,110,111,115,105,116,121]]
def Sp:WS:=[[109,105,116,101,114],[98,101,118,101,108],[114,111,117,110,100]]
def Xh:WS:=[[114,111,117,110,100],[98,117,116,116],[115,113,117,97,114,101]]
def bitW(b:Bool):List UInt8:=if b then [49]else [48]
def Md(N:Nd):WS:=
 if N.kind=1 then [[103,114,111,117,112],Kb N.id,Kb N.dep,Kb (N.op.toNat:Int),Kz Ms 1 N.bl,bitW N.iso,bitW N.ko]
 else if N.kind=2 then [[115,104,97,112,101],Kb N.id,Kb N.dep,Kz Na 1 N.frule,Rq N.path]
 else [[105,109,97,103,101],Kb N.id,Kb N.dep,Kz Oc 1 N.samp]++Hd N.im
def De(N:Nd):WS:=[116,114,97,110,115,102,111,114,109]::Oz N.T
def Bk(S:Jt):WS:=[Kb S.w,Kz Sp 1 S.j,Kz Xh 3 S.c,Kb S.m,Kb S.p,Kb (S.d.length:Int)]++S.d.map Kb
def Sx(N:Nd):List WS:=if N.clip.length=0 then []else [[[99,108,105,112],Kz Na 1 N.crule,Rq N.clip]]
def Pb(P:Pn):WS:=[102,105,108,108]::Rx P
def Lg(S:Jt)(P:Pn):WS:=[115,116,114,111,107,101]::(Bk S++Rx P)
def R6(N:Nd):List WS:=Md N::De N::(Sx N++(N.fill.map Pb++N.stroke.map (Lg N.sty)))
def Y9(S:Sc):WS:=[[115,99,101,110,101],Kb S.w,Kb S.h,Pd S.bg]
def scL(S:Sc):List (List UInt8):=Lr (Y9 S)::S.nds.flatMap fun N=>(R6 N).map Lr
def F6(S:Sc):List UInt8:=R7 (scL S)
section
open Go.RowKit
--ATNAMES
section
variable{w:World}{z x:Int}{A:Option Addr}{n c:Nat}{N:Nd}{q:ND}{K:Nat}{S:Jt}{y:Option Addr×Nat}{l:List Int}{B:Bool}
theorem names_join:Calls Tryz.prog 68 #[.string ⟨#[106,111,105,110]⟩] w (K7 w (fun y:Nat=> .tuple #[.slice (some ⟨y,0,none⟩) 3 3,Zi 1]) fun y u=>L3 u (some ⟨y,0,none⟩) 3 Sp):=by
 refine K0.enter Tryz.func68 rfl <| ZR <| ZI false <| ZI false <| ZI false <| ZI true <| K0.make (Lq (66) 3 #[(0,K4 [109,105,116,101,114]),(1,K4 [98,101,118,101,108]),(2,K4 [114,111,117,110,100])]) (Kf 3) (L4 9 #[K4 [109,105,116,101,114],K4 [98,101,118,101,108],K4 [114,111,117,110,100]]) Zk (fun w1 hw h=>Kc Zk) fun y=>ZR <| ZV (.tuple #[.slice (some ⟨y,0,none⟩) 3 3,Zi 1]) (fun w1 hw h=>⟨y,rfl,hw,fun w'' k1 k2=>O9 (h w'' k1 k2).2 rfl⟩)
theorem name_join(h1:1≤z)(h2:z<1+3):Zv 35 #[.string ⟨#[106,111,105,110]⟩,Zi z] w (K4 (Kz Sp 1 z)):=by
 obtain⟨k,hk⟩:∃k:Nat,z=1+(k:Int):=⟨(z-1).toNat,by omega⟩
 have hlt:k<3:=by omega
 obtain⟨s,hs⟩:∃s,Sp[k]? =some s:=⟨_,List.getElem?_eq_getElem (show k<Sp.length from hlt)⟩
 have hn:Kz Sp 1 z=s:=by
  unfold Kz
  rw[show(z-1).toNat=k by omega,hs];rfl
 rw[hn]
 exact K0.enter Tryz.func35 rfl <| ZR <| K0.callv (fun w1 hw h=>names_join) Zk fun y=>K0.run Zk (stop:=1000) 7 _ <| ZS 4 <| K0.slot 15 (Zi (IntKind.i64.wrap (z-1))) (Zi (k:Int)) Zk (by rw[IntWalk.i64_in _ Zo];congr 1;omega) <| K0.ask (Kj 66 (.slice (some ⟨y,0,none⟩) 3 3) k) (.pointer (some ((⟨y,0,none⟩:Addr).add k))) Zk (fun w1 hw h=>Kn (elem:=9) Zk Zk hlt) <| ZS 5 <| ZA (L5 9 ((⟨y,0,none⟩:Addr).add k)) (K4 s) (fun w1 hw h=>K8 Zk (by obtain⟨ad,q1,q2⟩:=h.2.2 k s hs;cases q1;exact q2)) <| ZW (K4 s)
theorem names_cap:Calls Tryz.prog 68 #[.string ⟨#[99,97,112]⟩] w (K7 w (fun y:Nat=> .tuple #[.slice (some ⟨y,0,none⟩) 3 3,Zi 3]) fun y u=>L3 u (some ⟨y,0,none⟩) 3 Xh):=by
 refine K0.enter Tryz.func68 rfl <| ZR <| ZI false <| ZI false <| ZI false <| ZI false <| K0.make (Lq (66) 3 #[(0,K4 [114,111,117,110,100]),(1,K4 [98,117,116,116]),(2,K4 [115,113,117,97,114,101])]) (Kf 3) (L4 9 #[K4 [114,111,117,110,100],K4 [98,117,116,116],K4 [115,113,117,97,114,101]]) Zk (fun w1 hw h=>Kc Zk) fun y=>ZR <| ZV (.tuple #[.slice (some ⟨y,0,none⟩) 3 3,Zi 3]) (fun w1 hw h=>⟨y,rfl,hw,fun w'' k1 k2=>O9 (h w'' k1 k2).2 rfl⟩)
theorem name_cap(h1:3≤z)(h2:z<3+3):Zv 35 #[.string ⟨#[99,97,112]⟩,Zi z] w (K4 (Kz Xh 3 z)):=by
 obtain⟨k,hk⟩:∃k:Nat,z=3+(k:Int):=⟨(z-3).toNat,by omega⟩
 have hlt:k<3:=by omega
 obtain⟨s,hs⟩:∃s,Xh[k]? =some s:=⟨_,List.getElem?_eq_getElem (show k<Xh.length from hlt)⟩
 have hn:Kz Xh 3 z=s:=by
  unfold Kz
  rw[show(z-3).toNat=k by omega,hs];rfl
 rw[hn]
 exact K0.enter Tryz.func35 rfl <| ZR <| K0.callv (fun w1 hw h=>names_cap) Zk fun y=>K0.run Zk (stop:=1000) 7 _ <| ZS 4 <| K0.slot 15 (Zi (IntKind.i64.wrap (z-3))) (Zi (k:Int)) Zk (by rw[IntWalk.i64_in _ Zo];congr 1;omega) <| K0.ask (Kj 66 (.slice (some ⟨y,0,none⟩) 3 3) k) (.pointer (some ((⟨y,0,none⟩:Addr).add k))) Zk (fun w1 hw h=>Kn (elem:=9) Zk Zk hlt) <| ZS 5 <| ZA (L5 9 ((⟨y,0,none⟩:Addr).add k)) (K4 s) (fun w1 hw h=>K8 Zk (by obtain⟨ad,q1,q2⟩:=h.2.2 k s hs;cases q1;exact q2)) <| ZW (K4 s)
def R5:Value:= .agg #[K4 [],K4 [110,111,114,109,97,108],K4 [109,117,108,116,105,112,108,121],K4 [115,99,114,101,101,110],K4 [111,118,101,114,108,97,121],K4 [100,97,114,107,101,110],K4 [108,105,103,104,116,101,110],K4 [100,105,102,102,101,114,101,110,99,101],K4 [101,120,99,108,117,115,105,111,110],K4 [104,97,114,100,108,105,103,104,116],K4 [104,117,101],K4 [115,97,116,117,114,97,116,105,111,110],K4 [99,111,108,111,114],K4 [108,117,109,105,110,111,115,105,116,121]]
theorem mnames_v:Zv 114 #[] w R5:=by
 exact K0.enter Tryz.func114 rfl <| ZR <| ZW (R5)
theorem mode_cases(h:Xc x=true):x=1∨x=2∨x=3∨x=4∨x=5∨x=6∨x=7∨x=8∨x=9∨x=10∨x=11∨x=12∨x=13:=by
 unfold Xc at h
 rw[Bool.and_eq_true,decide_eq_true_iff,decide_eq_true_iff]at h
 omega
def Ak(t:TypeId)(v i:Value):Sem Next:=Instr.index t v i >>= fun v=>pure (.value v)
theorem run_mode(hm:Xc x=true):(Ak 179 R5 (Zi x)).run Tryz.prog w= .ok (.value (K4 (Kz Ms 1 x))) w:=by
 rcases mode_cases hm with rfl|rfl|rfl|rfl|rfl|rfl|rfl|rfl|rfl|rfl|rfl|rfl|rfl<;>kernel_rfl
theorem modeName_v(hm:Xc x=true):Zv 64 #[Zi x] w (K4 (Kz Ms 1 x)):=by
 exact K0.enter Tryz.func64 rfl <| ZR <| ZC (fun w1 hw h=>mode_v (x:=x)) fun u=>ZJ ((!Xc x)) false (by rw[hm];rfl) <| ZD 2 (fun w1 hw h=>mnames_v) fun u2=>ZA (Ak 179 R5 (Zi x)) (K4 (Kz Ms 1 x)) (fun w1 hw h=>run_mode hm) <| ZW (K4 (Kz Ms 1 x))
theorem bit_v:Zv 65 #[.bool B] w (K4 (bitW B)):=by
 cases B
 ·exact K0.enter Tryz.func65 rfl <| ZR <| ZI false <| ZW (K4 [48])
 ·exact K0.enter Tryz.func65 rfl <| ZR <| ZI true <| ZW (K4 [49])
theorem pathWord_v{ls:List Sg}(hs:Qt w A n ls)(hB:Pt ls=true):Zv 36 #[.slice A n c] w (K4 (Rq ls)):=by
 exact K0.enter Tryz.func36 rfl <| ZR <| ZC (fun w1 hw h=>format_s (c:=c) (hs.below hw) hB) fun u=>ZW (K4 (Rq ls))
theorem Ve(h:Lm N=true):(1≤N.kind∧N.kind≤3)∧(1≤N.id∧N.id≤1073741824)∧(0≤N.dep∧N.dep<8)∧N.T.ok=true∧Pt N.clip=true∧Qe N=true∧T6 N=true∧ownB N=true:=by
 unfold Lm commB Ig rngX at h
 simp only[Bool.and_eq_true,Bool.not_eq_true',Bool.or_eq_false_iff,decide_eq_false_iff_not]at h
 obtain⟨⟨h1,h2,h3,h4,h5,h6,h7⟩,h8⟩:=h
 exact⟨by omega,by omega,by omega,h3,h5,h6,h7,h8⟩
theorem rule_rng(h:R4 x=true):1≤x∧x<1+2:=by
 unfold R4 at h
 rw[Bool.or_eq_true,beq_iff_eq,beq_iff_eq]at h
 omega
theorem im_rng{m:Im}(h:Xy m=true):(-9223372036854775808≤m.w∧m.w≤9223372036854775807)∧(-9223372036854775808≤m.h∧m.h≤9223372036854775807):=by
 unfold Xy at h
 rw[Bool.and_eq_true,Bool.and_eq_true]at h
 have hsz:=of_decide_eq_true h.1.1
 omega
theorem op_rng(o:UInt8):(0:Int)≤(o.toNat:Int)∧(o.toNat:Int)<256:=by
 have:=o.toNat_lt
 omega
theorem first_w(hp:Jv N q K w)(hv:Lm N=true)(hl:N.im.px.length≤20000):Calls Tryz.prog 33 #[Gv N q] w (K7 w (fun y:Option Addr×Nat=> .slice y.1 (Md N).length y.2) fun y u=>L3 u y.1 (Md N).length (Md N)):=by
 obtain⟨hk,hid,hdep,_,_,_,_,how⟩:=Ve hv
 unfold ownB at how
 refine K0.enter Tryz.func33 rfl <| ZR <| ZC (fun w1 hw h=>Kv (n:=N.id) Zo Zo) fun u0=>ZC (fun w1 hw h=>Kv (n:=N.dep) Zo Zo) fun u1=> ?_
 by_cases k1:N.kind=1
 ·rw[if_pos k1]at how
  have e:Md N=[[103,114,111,117,112],Kb N.id,Kb N.dep,Kb (N.op.toNat:Int),Kz Ms 1 N.bl,bitW N.iso,bitW N.ko]:=by unfold Md;rw[if_pos k1]
  have hop:=op_rng N.op
  rw[e]
  refine K0.condr ((N.kind==1)) true Zk (beq_iff_eq.2 k1) <| ZS 5 <| ZT 19 (Zi (IntKind.i64.wrap (N.op.toNat:Int))) (Zi (N.op.toNat:Int)) (by rw[IntWalk.i64_in _ Zo]) <| ZC (fun w1 hw h=>Kv (n:=(N.op.toNat:Int)) Zo Zo) fun u2=>ZC (fun w1 hw h=>modeName_v how) fun u3=>ZC (fun w1 hw h=>bit_v (B:=N.iso)) fun u4=>ZC (fun w1 hw h=>bit_v (B:=N.ko)) fun u5=>K0.make (Lq (66) 7 #[(0,K4 [103,114,111,117,112]),(1,K4 (Kb N.id)),(2,K4 (Kb N.dep)),(3,K4 (Kb (N.op.toNat:Int))),(4,K4 (Kz Ms 1 N.bl)),(5,K4 (bitW N.iso)),(6,K4 (bitW N.ko))]) (Kf 7) (L4 9 #[K4 [103,114,111,117,112],K4 (Kb N.id),K4 (Kb N.dep),K4 (Kb (N.op.toNat:Int)),K4 (Kz Ms 1 N.bl),K4 (bitW N.iso),K4 (bitW N.ko)]) Zk (fun w1 hw h=>Kc Zk) fun gb=>ZR <| ZV (.slice (some ⟨gb,0,none⟩) 7 7) (fun w1 hw h=>⟨(some ⟨gb,0,none⟩,7),rfl,hw,fun w'' k1 k2=>O9 (h w'' k1 k2).2 rfl⟩)
 rw[if_neg k1]at how
 refine ZJ ((N.kind==1)) false (beq_eq_false_iff_ne.2 k1) ?_
 by_cases k2:N.kind=2
 ·rw[if_pos k2]at how
  unfold V4 at how
  simp only[Bool.and_eq_true]at how
  have e:Md N=[[115,104,97,112,101],Kb N.id,Kb N.dep,Kz Na 1 N.frule,Rq N.path]:=by unfold Md;rw[if_neg k1,if_pos k2]
  have hr:=rule_rng how.2.1
  rw[e]
  refine ZJ ((N.kind==2)) true (beq_iff_eq.2 k2) <| ZC (fun w1 hw h=>name_rule hr.1 hr.2) fun u2=>ZC (fun w1 hw h=>pathWord_v (c:=q.pac) (hp.pa.below hw) how.1) fun u3=>K0.make (Lq (66) 5 #[(0,K4 [115,104,97,112,101]),(1,K4 (Kb N.id)),(2,K4 (Kb N.dep)),(3,K4 (Kz Na 1 N.frule)),(4,K4 (Rq N.path))]) (Kf 5) (L4 9 #[K4 [115,104,97,112,101],K4 (Kb N.id),K4 (Kb N.dep),K4 (Kz Na 1 N.frule),K4 (Rq N.path)]) Zk (fun w1 hw h=>Kc Zk) fun gb=>ZR <| ZV (.slice (some ⟨gb,0,none⟩) 5 5) (fun w1 hw h=>⟨(some ⟨gb,0,none⟩,5),rfl,hw,fun w'' k1 k2=>O9 (h w'' k1 k2).2 rfl⟩)
 rw[if_neg k2,Bool.and_eq_true]at how
 obtain⟨L1,hL1⟩:∃L:WS,L=[[105,109,97,103,101],Kb N.id,Kb N.dep,Kz Oc 1 N.samp]:=⟨_,rfl⟩
 have hL4:L1.length=4:=by rw[hL1];rfl
 have e:Md N=L1++Hd N.im:=by unfold Md;rw[if_neg k1,if_neg k2,hL1]
 have hi:=im_rng how.1
 have hs:N.samp=1∨N.samp=2:=by
  have:=how.2
  simp only[Bool.not_eq_true',Bool.and_eq_false_iff,bne_eq_false_iff_eq]at this
  exact this
 have el:(L1++Hd N.im).length=4+3:=by rw[List.length_append,hL4];rfl
 rw[e,el]
 refine ZJ ((N.kind==2)) false (beq_eq_false_iff_ne.2 k2) <| ZD 5 (fun w1 hw h=>name_look (z:=N.samp) Zo Zo) fun u2=>K0.two (i:=5) (j:=8) Zk ?_ ?_
 ·refine Qa.make (i:=5) (Lq (66) 4 #[(0,K4 [105,109,97,103,101]),(1,K4 (Kb N.id)),(2,K4 (Kb N.dep)),(3,K4 (Kz Oc 1 N.samp))]) (Kf 4) (L4 9 #[K4 [105,109,97,103,101],K4 (Kb N.id),K4 (Kb N.dep),K4 (Kz Oc 1 N.samp)]) Zk (fun w1 hw h=>Kc Zk) fun gb=>ZS 9 <| ZD 9 (fun w1 hw h=>Un (y:=(q.pxA,q.pxc)) (hp.px.below hw) hl hi.1 hi.2) fun y=>K0.make (M9 66 66 (Kf 4 gb) (.slice y.1 3 y.2)) (fun y:Option Addr×Nat=> .slice y.1 (4+3) y.2) (fun y v=>K6 v w.heap.size 9 1 y.1 (4+3) y.2 (sv (L1++Hd N.im))) Zk (fun w1 hw h=>Rb (p:=L1) (l:=Hd N.im) (by rw[hL1];exact h.1.2) hL4 h.2 Zd Zd hw.size) fun z=>ZR <| ZV (.slice z.1 (4+3) z.2) (fun w1 hw h=>⟨z,rfl,hw,fun w'' k1 k2=>(h w'' k1 k2).2.strs⟩)
 ·refine Qa.callv (i:=8) (fun w1 hw h=>Un (y:=(q.pxA,q.pxc)) (hp.px.below hw) hl hi.1 hi.2) Zk fun y=>ZS 5 <| K0.make (Lq (66) 4 #[(0,K4 [105,109,97,103,101]),(1,K4 (Kb N.id)),(2,K4 (Kb N.dep)),(3,K4 (Kz Oc 1 N.samp))]) (Kf 4) (L4 9 #[K4 [105,109,97,103,101],K4 (Kb N.id),K4 (Kb N.dep),K4 (Kz Oc 1 N.samp)]) Zk (fun w1 hw h=>Kc Zk) fun gb=>ZS 9 <| K0.make (M9 66 66 (Kf 4 gb) (.slice y.1 3 y.2)) (fun y:Option Addr×Nat=> .slice y.1 (4+3) y.2) (fun y v=>K6 v w.heap.size 9 1 y.1 (4+3) y.2 (sv (L1++Hd N.im))) Zk (fun w1 hw h=>Rb (p:=L1) (l:=Hd N.im) (by rw[hL1];exact h.2) hL4 h.1.2 Zd Zd hw.size) fun z=>ZR <| ZV (.slice z.1 (4+3) z.2) (fun w1 hw h=>⟨z,rfl,hw,fun w'' k1 k2=>(h w'' k1 k2).2.strs⟩)
theorem Ym{P:Program}{t elem:TypeId}{len s:Nat}{parts:Array (Nat×Value)}{cells:Array Value}{N:Nat}(h:litOf P t len parts=some (elem,cells))(hN:N≤w.heap.size)(hn:cells.size=len*s)(hm:len≤maxLen):
 Lh P w (Kf len) (fun g u=>K6 u N elem s (some ⟨g,0,none⟩) len len cells.toList) (Lq t len parts):=by
 obtain⟨x,w',hrun,hb,hG⟩:=Lh.fresh (Kc (w:=w) h) (fun g=>[g]) (fun g u h b hb=>by
  simp only[List.mem_singleton]at hb;subst hb;exact⟨_,_,_,h⟩)
 exact⟨x,w',hrun,hb,fun w'' h1 h2=>K6.lit (hG w'' h1 h2).1 hn (Nat.le_trans hN ((hG w'' h1 h2).2 x Zs)) hm⟩
theorem J6(h:P6 S=true):(1≤S.w∧S.w≤16384)∧(1≤S.j∧S.j<1+3)∧(3≤S.c∧S.c<3+3)∧(256≤S.m∧S.m≤65536)∧(0≤S.p∧S.p≤1048576)∧Ra S.d=true:=by
 unfold P6 Zz at h
 simp only[Bool.and_eq_true,Bool.or_eq_true,decide_eq_true_eq,beq_iff_eq]at h
 obtain⟨⟨⟨⟨⟨⟨⟨h1,h2⟩,h3⟩,h4⟩,h5⟩,h6⟩,h7⟩,h8⟩:=h
 exact⟨by omega,by omega,by omega,by omega,by omega,h6⟩
theorem Fu(h:Ra l=true):(∀z∈l,0≤z∧z≤1048576)∧l.length≤16:=by
 unfold Ra at h
 simp only[Bool.and_eq_true,Bool.not_eq_true',decide_eq_true_eq]at h
 refine⟨fun z hz=> ?_,by omega⟩
 have h1:=List.any_eq_false.1 h.1 z hz
 unfold Dq at h1
 simp only[Bool.or_eq_true,decide_eq_true_eq,not_or]at h1
 omega
theorem dw_snoc{k:Nat}(hx:l[k]? =some x):(l.take (k+1)).map Kb=(l.take k).map Kb++ [Kb x]:=by rw[Ug hx,List.map_append];rfl
theorem pw_step{B m yc gb:Nat}{y:Option Addr}{p:WS}{a:List UInt8}(ho:K6 w B 9 1 y m yc (sv p))(hB:B≤w.heap.size)(hg:L4 9 #[K4 a] gb w)(hm:m<999990):
 Ot Tryz.prog w (bl y) (fun z:Option Addr×Nat=> .slice z.1 (m+1) z.2) (fun z v=>K6 v B 9 1 z.1 (m+1) z.2 (sv (p++ [a]))) (M9 66 66 (.slice y m yc) (Kf 1 gb)):=
 Xk (cc:=1) ho hB (O9 (L:=[a]) hg rfl) (show m+1≤1000000 by omega)
def penH(S:Jt):WS:=[Kb S.w,Kz Sp 1 S.j,Kz Xh 3 S.c,Kb S.m,Kb S.p,Kb (S.d.length:Int)]
theorem penW_eq:Bk S=penH S++S.d.map Kb:=rfl
theorem penW_len:(Bk S).length=6+S.d.length:=by rw[penW_eq,List.length_append,List.length_map];rfl
theorem penWords_v(hd:Ma w y.1 S.d.length 1 daC S.d)(hv:P6 S=true):Calls Tryz.prog 38 #[styV S y] w (K7 w (fun y:Option Addr×Nat=> .slice y.1 (6+S.d.length) y.2) fun y u=>L3 u y.1 (6+S.d.length) (Bk S)):=by
 obtain⟨h1,h2,h3,h4,h5,h6⟩:=J6 hv
 obtain⟨hdr,Ih⟩:=Fu h6
 refine K0.enter Tryz.func38 rfl <| ZR <| ZC (fun w1 hw h=>Kv (n:=S.w) Zo Zo) fun u0=>ZC (fun w1 hw h=>name_join h2.1 h2.2) fun u1=>ZC (fun w1 hw h=>name_cap h3.1 h3.2) fun u2=>ZC (fun w1 hw h=>Kv (n:=S.m) Zo Zo) fun u3=>ZC (fun w1 hw h=>Kv (n:=S.p) Zo Zo) fun u4=>ZC (fun w1 hw h=>Kv (n:=(S.d.length:Int)) Zo Zo) fun u5=>K0.make (Lq 66 6 #[(0,K4 (Kb S.w)),(1,K4 (Kz Sp 1 S.j)),(2,K4 (Kz Xh 3 S.c)),(3,K4 (Kb S.m)),(4,K4 (Kb S.p)),(5,K4 (Kb (S.d.length:Int)))]) (Kf 6) (fun g u=>K6 u w.heap.size 9 1 (some ⟨g,0,none⟩) 6 6 (sv (penH S))) Zk (fun w1 hw h=>Ym (s:=1) Zk hw.size rfl Zd) fun gb=>ZR <| K0.loop (ι:={q:Nat×(Option Addr×Nat) // q.1≤S.d.length}) 40 (fun q=>⟨[(3,.v (.slice q.1.2.1 (6+q.1.1) q.1.2.2)),(27,.v (.slice y.1 S.d.length y.2)),(28,.v (Zi S.d.length)),(29,.v (Zi q.1.1))],[]⟩) (fun q u=>K6 u w.heap.size 9 1 q.1.2.1 (6+q.1.1) q.1.2.2 (sv (penH S++(S.d.take q.1.1).map Kb))) (fun q=>S.d.length-q.1.1) (⟨(0,(some ⟨gb,0,none⟩,6)),Nat.zero_le _⟩) Zk (fun _=>by kernel_rfl) ⟨Zk,Zk,Zk⟩ (fun u h=>by show K6 u _ _ 1 _ 6 6 (sv (penH S++ []));rw[List.append_nil];exact h.2) ?_
 rintro⟨⟨k,z⟩,hk⟩ gg
 have hk:k≤S.d.length:=hk
 by_cases hlt:k<S.d.length
 case neg=>
  obtain rfl:k=S.d.length:=by omega
  refine ZR <| ZJ (decide ((S.d.length:Int)<(S.d.length:Int))) false Zs <| K0.leave Zk <| ZR <| ZV (.slice z.1 (6+S.d.length) z.2) (fun w1 hw h=>⟨z,rfl,hw,fun w'' k1 k2=>by have t:=(show K6 w'' w.heap.size 9 1 z.1 (6+S.d.length) z.2 (sv (penH S++(S.d.take S.d.length).map Kb))from h w'' k1 k2).strs;rw[List.take_length]at t;exact t⟩)
 obtain⟨v,hx⟩:∃v,S.d[k]? =some v:=⟨_,List.getElem?_eq_getElem hlt⟩
 obtain⟨ad,hA,hc⟩:=hd.2 k v hx
 have hvr:=hdr v (List.mem_of_getElem? hx)
 refine ZR <| ZJ (decide ((k:Int)<(S.d.length:Int))) true Zp <| ZA (Kj 45 (.slice y.1 S.d.length y.2) k) (.pointer (some (ad.add k))) (fun w1 hw h=>by rw[hA];exact Kn (elem:=3) Zk Zk hlt) <| ZA (L5 3 (ad.add k)) (Zi v) (fun w1 hw h=>K8 Zk (by have:=Lc hw (hc 0 (Zi v) rfl);rw[Ei,Nat.mul_one,Nat.add_zero]at this;exact this)) <| ZD 3 (fun w1 hw h=>Kv (n:=v) Zo Zo) fun u=>K0.make (Lq (66) 1 #[(0,K4 (Kb v))]) (Kf 1) (L4 9 #[K4 (Kb v)]) Zk (fun w1 hw h=>Kc Zk) fun ga=>ZS 4 <| K0.mutOp (L:=bl z.1) (val:=fun(z:Option Addr×Nat)=> .slice z.1 (6+(k+1)) z.2) (Φ':=fun(z:Option Addr×Nat) v=>K6 v w.heap.size 9 1 z.1 (6+(k+1)) z.2 (sv (penH S++(S.d.take (k+1)).map Kb))) (G:=fun(z:Option Addr×Nat) v=>K6 v w.heap.size 9 1 z.1 (6+(k+1)) z.2 (sv (penH S++(S.d.take (k+1)).map Kb))) (M9 66 66 (.slice z.1 (6+k) z.2) (Kf 1 ga)) (fun w1 hw h=>by have t:=pw_step (m:=6+k) (a:=Kb v) h.1.1 hw.size h.2 Zo;rw[List.append_assoc,←dw_snoc hx]at t;exact t) (fun u h=>h.1.1.blk) (fun _ wa u e1 e2 h hG=>hG) Zk Zk fun z2=>ZR <| K0.slot 29 (Zi (IntKind.i64.wrap ((k:Int)+1))) (Zi ((k+1:Nat):Int)) Zk (by rw[Kd hlt Zo]) <| K0.next (⟨(k+1,z2),by show k+1≤S.d.length;omega⟩) Zk (by show S.d.length- (k+1)<S.d.length-k;omega) ⟨Zk,Zk,Zk⟩ (fun u h=>h)
end
end
section
open Go.RowKit
--ATNAMES
abbrev LR:=WS×(Option Addr×Nat)
def Vs(x:LR):Value:= .slice x.2.1 x.1.length x.2.2
section
variable{u w w':World}{B gb n c s:Nat}{y z:Option Addr×Nat}{L:List LR}{X:LR}{e:TypeId}{A:Option Addr}{ws:WS}{xs:List Value}
theorem strAt_blk(h:L3 u A n ws)(h0:ws≠[]):∀b∈bl A,∃cs ty own,u.heap[b]? =some (.cells cs ty own):=fun b hb=>by
 cases ws with
 |nil=>exact absurd rfl h0
 |cons x r=>
  obtain⟨ad,h1,h2⟩:=h.2 0 x rfl
  subst h1
  obtain rfl:b=ad.block:=by simpa[bl]using hb
  have hb2:(ad.add 0).block=ad.block:=by cases ad;simp[Addr.add]
  unfold World.cell? at h2
  rw[hb2]at h2
  split at h2
  ·rename_i c t o hh;exact⟨c,t,o,hh⟩
  ·cases h2
theorem B0(h:L3 u A n ws)(h0:ws≠[]):∀b∈bl A,b<u.heap.size:=fun b hb=>by
 obtain⟨_,_,_,h2⟩:=strAt_blk h h0 b hb
 exact(Array.getElem?_eq_some_iff.1 h2).1
theorem Lh.aptR{P:Program}{X:Type}{val:X→Value}{G:X→World→Prop}{s:Sem Next}(L:X→List Nat){R:X→Prop}(h:Lh P w val G s)(hL:∀x w,G x w→∀b∈L x,∃cs ty own,w.heap[b]? =some (.cells cs ty own))
 (hR:∀x,(∀b∈L x,w.heap.size≤b)→R x):Lh P w val (fun x u=>G x u∧R x) s:=by
 obtain⟨x,w',h1,h2,h3⟩:=h.fresh L hL
 exact⟨x,w',h1,h2,fun w'' k1 k2=>⟨(h3 w'' k1 k2).1,hR _ (h3 w'' k1 k2).2⟩⟩
theorem mut_fresh{P:Program}{sm:Sem Next}(ha:Ot P u (bl y.1) (fun z:Option Addr×Nat=> .slice z.1 n z.2) (fun z v=>K6 v B e s z.1 n z.2 xs) sm){R:Option Addr×Nat→Prop}(hR:∀z,(∀b∈bl z.1,b∈bl y.1∨u.heap.size≤b)→R z):
 Ot P u (bl y.1) (fun z:Option Addr×Nat=> .slice z.1 n z.2) (fun z v=>K6 v B e s z.1 n z.2 xs∧R z) sm:=by
 obtain⟨z,w',h1,h2,h3⟩:=ha
 refine⟨z,w',h1,h2,fun w'' k1 k2=>⟨h3 w'' k1 k2,hR z fun b hb=> ?_⟩⟩
 by_cases hne:b∈bl y.1
 ·exact .inl hne
 right
 rcases Nat.lt_or_ge b u.heap.size with hlt|hge
 case inr=>exact hge
 exfalso
 have hz0:=h3 w' (Nat.le_refl _) fun _ _=>rfl
 have hlt':b<w'.heap.size:=(hz0.lt b hb).2
 have hz2:=h3 {w' with heap:=w'.heap.setIfInBounds b (.pending #[] 0)} Zs fun k hk=>by
  rw[Array.getElem?_setIfInBounds_ne]
  intro hc
  subst hc
  rcases hk with hk|hk
  ·exact hne hk
  ·omega
 obtain⟨_,cs,ty,own,h5⟩:=hz2.blk b hb
 rw[Array.getElem?_setIfInBounds_self_of_lt hlt']at h5;cases h5
structure Qu(B:Nat)(y:Option Addr×Nat)(L:List LR)(u:World):Prop where
 own:K6 u B 66 1 y.1 L.length y.2 (L.map Vs)
 str:∀x∈L,L3 u x.2.1 x.1.length x.1
 ne:∀x∈L,x.1≠[]
 apart:∀x∈L,∀b∈bl y.1,b∉bl x.2.1
def Apt(A:Option Addr)(y:Option Addr×Nat)(L:List LR):Prop:=∀b∈bl A,b∉bl y.1∧∀x∈L,b∉bl x.2.1
theorem Qu.apt(h:Qu B y L u)(hA:∀b∈bl A,u.heap.size≤b):Apt A y L:=fun b hb=>
 ⟨fun hc=>by have:=(h.own.lt b hc).2;have:=hA b hb;omega,fun x hx hc=>by have:=B0 (h.str x hx) (h.ne x hx) b hc;have:=hA b hb;omega⟩
theorem Qu.stay{Lb:List Nat}{wa:World}(h:Qu B y L wa)(e2:∀b,b∉Lb→wa.heap[b]? =u.heap[b]?)(hA:∀b∈Lb,b∉bl y.1∧∀x∈L,b∉bl x.2.1):Qu B y L u:=
 ⟨h.own.left e2 fun b hb hc=>(hA b hc).1 hb,fun x hx=>(h.str x hx).left e2 fun b hb hc=>(hA b hc).2 x hx hb,h.ne,h.apart⟩
theorem sl_map:(L++ [X]).map Vs=L.map Vs++ [Vs X]:=by rw[List.map_append];rfl
theorem Fa(h:Qu B y L u)(hB:B≤u.heap.size)(hX:L3 u X.2.1 X.1.length X.1)(hne:X.1≠[])(hap:Apt X.2.1 y L)(hg:L4 66 #[Vs X] gb u)(hn:L.length≤10000000):
 Ot Tryz.prog u (bl y.1) (fun z:Option Addr×Nat=> .slice z.1 (L.length+1) z.2) (fun z v=>K6 v B 66 1 z.1 (L.length+1) z.2 (L.map Vs++ [Vs X])∧∀x∈L++ [X],∀b∈bl z.1,b∉bl x.2.1) (M9 88 88 (.slice y.1 L.length y.2) (Kf 1 gb)):=by
 have ha:=O3 (P:=Tryz.prog) (s:=1) (z:= .slice none 0 0) (bytes:=24) (m:=1) (cc:=1) (t:=88) (elem:=66) Zk Zk rfl Zd h.own hB (N5 (n:=1) hg rfl) (by intro v hv;simp at hv;subst hv;rfl) Zo Zd
 refine mut_fresh ha fun z hz x hx b hb hc=> ?_
 rcases List.mem_append.1 hx with h4|h4
 ·rcases hz b hb with h5|h5
  ·exact h.apart x h4 b h5 hc
  ·have:=B0 (h.str x h4) (h.ne x h4) b hc;omega
 ·obtain rfl:x=X:=by simpa using h4
  rcases hz b hb with h5|h5
  ·exact(hap b hc).1 h5
  ·have:=B0 hX hne b hc;omega
theorem Qu.left{wa:World}(h:Qu B y L wa)(hX:L3 wa X.2.1 X.1.length X.1)(hne:X.1≠[])(hap:Apt X.2.1 y L)
 (e2:∀b,b∉bl y.1→wa.heap[b]? =u.heap[b]?) (hG:K6 u B 66 1 z.1 (L.length+1) z.2 (L.map Vs++ [Vs X])∧∀x∈L++ [X],∀b∈bl z.1,b∉bl x.2.1):Qu B z (L++ [X]) u:=by
 refine⟨by rw[List.length_append,sl_map];exact hG.1,fun x hx=> ?_,fun x hx=> ?_,hG.2⟩
 ·rcases List.mem_append.1 hx with h4|h4
  ·exact(h.str x h4).left e2 fun b hb hc=>h.apart x h4 b hc hb
  ·obtain rfl:x=X:=by simpa using h4
   exact hX.left e2 fun b hb=>(hap b hb).1
 ·rcases List.mem_append.1 hx with h4|h4
  ·exact h.ne x h4
  ·obtain rfl:x=X:=by simpa using h4
   exact hne
theorem app_rowA{m yc cc:Nat}{A1 A2:Option Addr}{p l:WS}(hr:Qu B y L u)(ho:K6 u B 9 1 A1 m yc (sv p))(hB:B≤u.heap.size)(hs:L3 u A2 n l)(hm:m+n≤1000000)(hap:Apt A1 y L):
 Ot Tryz.prog u (bl A1) (fun z:Option Addr×Nat=> .slice z.1 (m+n) z.2) (fun z v=>K6 v B 9 1 z.1 (m+n) z.2 (sv (p++l))∧Apt z.1 y L) (M9 66 66 (.slice A1 m yc) (.slice A2 n cc)):=
 mut_fresh (y:=(A1,yc)) (Xk ho hB hs hm) fun z hz b hb=>by
  rcases hz b hb with h5|h5
  ·exact hap b h5
  ·exact hr.apt (A:=some ⟨b,0,none⟩) (fun b' hb'=>by obtain rfl:b'=b:=(by simpa[bl]using hb');exact h5) b (by simp[bl])
theorem make_l2{X1 X2:LR}{N:Nat}(hN:N≤w.heap.size)(h1:L3 w X1.2.1 X1.1.length X1.1)(n1:X1.1≠[])(h2:L3 w X2.2.1 X2.1.length X2.1)(n2:X2.1≠[]):
 Lh Tryz.prog w (Kf 2) (fun g u=>K6 u N 66 1 (some ⟨g,0,none⟩) 2 2 [Vs X1,Vs X2]∧∀x∈[X1,X2],∀b∈bl (some (⟨g,0,none⟩:Addr)),b∉bl x.2.1) (Lq 88 2 #[(0,Vs X1),(1,Vs X2)]):=by
 refine Lh.aptR (fun g=>[g]) (Ym (cells:= #[Vs X1,Vs X2]) Zk hN rfl Zd) (fun g u h b hb=> ?_) (fun g hg x hx b hb hc=> ?_)
 ·exact(h.blk b (by simpa[bl]using hb)).2
 ·obtain rfl:b=g:=by simpa[bl]using hb
  have hge:=hg b Zs
  rcases List.mem_cons.1 hx with rfl|hx
  ·have:=B0 h1 n1 b hc;omega
  ·obtain rfl:x=X2:=by simpa using hx
   have:=B0 h2 n2 b hc;omega
theorem make_hd{m cc:Nat}{A2:Option Addr}{p l:WS}(hr:Qu B y L w)(hg:L4 9 (sv p).toArray gb w)(hn:p.length=n)(hs:L3 w A2 m l)(hm:0<m)(hk:n+m≤1000000)(hB:B≤w.heap.size):
 Lh Tryz.prog w (fun z:Option Addr×Nat=> .slice z.1 (n+m) z.2) (fun z v=>K6 v B 9 1 z.1 (n+m) z.2 (sv (p++l))∧Apt z.1 y L) (M9 66 66 (Kf n gb) (.slice A2 m cc)):=
 Lh.aptR (fun z=>bl z.1) (Rb hg hn hs hm hk hB) (fun z u h b hb=>(h.blk b hb).2) fun z hz=>hr.apt hz
end
section
variable{w:World}{z x:Int}{A:Option Addr}{n c:Nat}{N:Nd}{q:ND}{K:Nat}{S:Jt}{y:Option Addr×Nat}{l:List Int}{B:Bool}
theorem Gw(h:Lm N=true):(N.fill.length≤1∧N.stroke.length≤1)∧(∀P∈N.fill,Ku P=true)∧(∀P∈N.stroke,Ku P=true)∧(N.stroke.length≠0→P6 N.sty=true):=by
 obtain⟨hk,_,_,_,_,_,hb,ho⟩:=Ve h
 unfold T6 at hb
 unfold ownB at ho
 by_cases k2:N.kind=2
 ·rw[if_neg Zo,if_pos k2]at ho
  unfold V4 Id penB at ho
  simp only[Bool.and_eq_true,Bool.not_eq_true',Bool.or_eq_false_iff,decide_eq_false_iff_not,List.all_eq_true]at ho
  obtain⟨_,_,hm,hp,hf,hs⟩:=ho
  exact⟨by omega,hf,hs,fun h0=>by rw[if_neg h0]at hp;exact hp⟩
 ·have hs:Ui N=true:=by
   by_cases k1:N.kind=1
   ·rw[if_pos k1,Bool.and_eq_true,Bool.and_eq_true]at hb;exact hb.1.1
   ·rw[if_neg k1,if_neg k2,Bool.and_eq_true,Bool.and_eq_true]at hb;exact hb.2.1
  unfold Ui at hs
  simp only[Bool.and_eq_true,beq_iff_eq]at hs
  have h1:N.fill.length=0:=by omega
  have h2:N.stroke.length=0:=by omega
  rw[List.length_eq_zero_iff]at h1 h2
  rw[h1,h2]
  exact⟨by decide,by simp,by simp,by simp⟩
theorem Cx{α β:Type}{l:List α}{k:Nat}{x:α}(f:α→β)(hx:l[k]? =some x):(l.take (k+1)).map f=(l.take k).map f++ [f x]:=by rw[Ug hx,List.map_append];rfl
def Ad(N:Nd):List WS:=[Md N,De N]
theorem len_map{L:List LR}{M:List WS}(h:L.map (·.1)=M):L.length=M.length:=by rw[←h,List.length_map]
theorem Yn:Md N≠[]:=by
 unfold Md
 split
 ·simp
 ·split
  ·simp
  ·simp
theorem head_r(hp:Jv N q K w)(hv:Lm N=true)(hl:N.im.px.length≤20000):Calls Tryz.prog 33 #[Gv N q] w (K7 w (fun y:Option Addr×Nat=>Vs (Md N,y)) fun y u=>L3 u y.1 (Md N).length (Md N)):=first_w hp hv hl
def bkA:List Nat:=[11,12,13,14,15,16,17,18]
def bkB:List Nat:=[23,24,25,26,27,28,29,30,31,32]
end
end
section
open Go.RowKit
--ATNAMES
section
variable{w u:World}{z x:Int}{A:Option Addr}{n c B:Nat}{N:Nd}{q:ND}{K:Nat}{S:Jt}{y:Option Addr×Nat}{l:List Int}{L:List LR}{X:LR}
theorem make_wsA{parts:Array (Nat×Value)}{cells:Array Value}{ws:WS}(h:litOf Tryz.prog 66 n parts=some (9,cells))(he:cells.toList=sv ws)(hn:ws.length=n)(hr:Qu B y L w):
 Lh Tryz.prog w (Kf n) (fun g u=>L3 u (some ⟨g,0,none⟩) n ws∧Apt (some ⟨g,0,none⟩) y L) (Lq 66 n parts):=by
 obtain⟨g,w',h1,h2,h3⟩:=Lh.aptR (R:=fun g=>Apt (some (⟨g,0,none⟩:Addr)) y L) (fun g=>[g]) (Kc (w:=w) h) (fun g u h b hb=>by obtain rfl:b=g:=(by simpa using hb);exact⟨_,_,_,h⟩) (fun g hg=>hr.apt fun b hb=>hg b (by simpa[bl]using hb))
 exact⟨g,w',h1,h2,fun w'' k1 k2=>⟨O9 (h3 w'' k1 k2).1 he hn,(h3 w'' k1 k2).2⟩⟩
theorem two_all{α:Type}{P:α→Prop}{a b:α}(h1:P a)(h2:P b):∀x∈[a,b],P x:=by simp[h1,h2]
theorem row2{g:Nat}{X1 X2:LR}(ho:K6 u B 66 1 (some ⟨g,0,none⟩) 2 2 [Vs X1,Vs X2])(ha:∀x∈[X1,X2],∀b∈bl (some (⟨g,0,none⟩:Addr)),b∉bl x.2.1)(h1:L3 u X1.2.1 X1.1.length X1.1)(n1:X1.1≠[])(h2:L3 u X2.2.1 X2.1.length X2.1)(n2:X2.1≠[]):Qu B (some ⟨g,0,none⟩,2) [X1,X2] u:=
 ⟨ho,two_all h1 h2,two_all (P:=fun x:LR=>x.1≠[]) n1 n2,ha⟩
theorem clipW_len:(Sx N).length≤1:=by unfold Sx;split<;>simp
theorem pnW_pos{P:Pn}(hv:Ku P=true):0<(Rx P).length:=by
 unfold Rx
 split
 ·simp
 split
 ·simp
 split<;>simp
theorem lns_eq:R6 N=(Ad N++Sx N)++N.fill.map Pb++N.stroke.map (Lg N.sty):=by unfold R6 Ad;simp
theorem lines_w(hp:Jv N q K w)(hf:Hx N)(hv:Lm N=true)(hK:2≤K∧K≤1000)(hsm:∀ws∈R6 N,ws.length≤2000000∧Mq ws≤2000000):
 Calls Tryz.prog 18 #[Gv N q] w (K7 w (fun y:Option Addr×Nat=> .slice y.1 (R6 N).length y.2) fun y u=>L3 u y.1 (R6 N).length ((R6 N).map Lr)):=by
 obtain⟨hk,hid,hdep,hok,hclip,hcl,_,_⟩:=Ve hv
 obtain⟨hn1,hfv,hsv,hsty⟩:=Gw hv
 have hcn:=clipW_len (N:=N)
 refine K0.enter Tryz.func18 rfl <| ZR <| K0.meet3 (ι:=(Nat×(Option Addr×Nat)×(Option Addr×Nat))×(Nat→AV)) (fun i c=>Q9 bkA i.2 (M7 3 (Kf 2 i.1.1) (Lw Tryz.prog 1000 1000 (Le (.v (Kf 2 0)) (Lw Tryz.prog 1000 1000 (Le (.v (.slice none 7 7)) (Lw Tryz.prog 1000 1000 (Le (.v (.slice none 6 6)) (Lw Tryz.prog 1000 1000 (Le (.v (.slice none 1 1)) (Lw Tryz.prog 1000 1000 (Ae 2 (Kf 1 0) c)))))))))))) (fun i u=>Qu w.heap.size (some ⟨i.1.1,0,none⟩,2) [(Md N,i.1.2.1),(De N,i.1.2.2)] u) (fun k=> ?_) (fun i=> ?_)
 ·refine K0.two (i:=1) (j:=2) Zk ?_ ?_
  ·refine Qa.callv (i:=1) (fun w1 hw h=>head_r (hp.below hw) hv hf.px) Zk fun y1=>ZR <| K0.two (i:=2) (j:=5) Zk ?_ ?_
   ·exact Qa.make (i:=2) (Lq (66) 1 #[(0,K4 [116,114,97,110,115,102,111,114,109])]) (Kf 1) (L4 9 #[K4 [116,114,97,110,115,102,111,114,109]]) Zk (fun w1 hw h=>Kc Zk) fun gb=>ZR <| ZD 6 (fun w1 hw h=>P3 (N:=w.heap.size) hw.size (hp.tr.below hw) hK) fun y2=>K0.make (M9 66 66 (Kf 1 gb) (.slice y2.1 6 y2.2)) (fun y:Option Addr×Nat=> .slice y.1 (1+6) y.2) (fun y v=>K6 v w.heap.size 9 1 y.1 (1+6) y.2 (sv ([[116,114,97,110,115,102,111,114,109]]++Oz N.T))) Zk (fun w1 hw h=>Rb (p:=[[116,114,97,110,115,102,111,114,109]]) (l:=Oz N.T) h.1.2 rfl h.2.strs Zd Zd hw.size) fun z=>ZR <| K0.make (Lq 88 2 #[(0,Vs (Md N,y1)),(1,Vs (De N,z))]) (Kf 2) (fun g u=>K6 u w.heap.size 66 1 (some ⟨g,0,none⟩) 2 2 [Vs (Md N,y1),Vs (De N,z)]∧∀x∈[((Md N,y1):LR),(De N,z)],∀b∈bl (some (⟨g,0,none⟩:Addr)),b∉bl x.2.1) Zk (fun w1 hw h=>make_l2 (X1:=(Md N,y1)) (X2:=(De N,z)) hw.size h.1.1.1.2 Yn h.2.strs (by simp[De])) fun g=>ZR <| K0.weak Zk (fun u h=>row2 (X1:=(Md N,y1)) (X2:=(De N,z)) h.2.1 h.2.2 h.1.1.1.1.2 Yn h.1.2.strs (by simp[De])) <| K0.blur bkA fun x=>K0.eq (k ((g,y1,z),x)) Zk
   ·exact Qa.callv (i:=5) (fun w1 hw h=>P3 (N:=w.heap.size) hw.size (hp.tr.below hw) hK) Zk fun y2=>ZS 2 <| K0.make (Lq (66) 1 #[(0,K4 [116,114,97,110,115,102,111,114,109])]) (Kf 1) (L4 9 #[K4 [116,114,97,110,115,102,111,114,109]]) Zk (fun w1 hw h=>Kc Zk) fun gb=>ZS 6 <| K0.make (M9 66 66 (Kf 1 gb) (.slice y2.1 6 y2.2)) (fun y:Option Addr×Nat=> .slice y.1 (1+6) y.2) (fun y v=>K6 v w.heap.size 9 1 y.1 (1+6) y.2 (sv ([[116,114,97,110,115,102,111,114,109]]++Oz N.T))) Zk (fun w1 hw h=>Rb (p:=[[116,114,97,110,115,102,111,114,109]]) (l:=Oz N.T) h.2 rfl h.1.2.strs Zd Zd hw.size) fun z=>ZR <| K0.make (Lq 88 2 #[(0,Vs (Md N,y1)),(1,Vs (De N,z))]) (Kf 2) (fun g u=>K6 u w.heap.size 66 1 (some ⟨g,0,none⟩) 2 2 [Vs (Md N,y1),Vs (De N,z)]∧∀x∈[((Md N,y1):LR),(De N,z)],∀b∈bl (some (⟨g,0,none⟩:Addr)),b∉bl x.2.1) Zk (fun w1 hw h=>make_l2 (X1:=(Md N,y1)) (X2:=(De N,z)) hw.size h.1.1.1.2 Yn h.2.strs (by simp[De])) fun g=>ZR <| K0.weak Zk (fun u h=>row2 (X1:=(Md N,y1)) (X2:=(De N,z)) h.2.1 h.2.2 h.1.1.1.1.2 Yn h.1.2.strs (by simp[De])) <| K0.blur bkA fun x=>K0.eq (k ((g,y1,z),x)) Zk
  ·exact Qa.make (i:=2) (Lq (66) 1 #[(0,K4 [116,114,97,110,115,102,111,114,109])]) (Kf 1) (L4 9 #[K4 [116,114,97,110,115,102,111,114,109]]) Zk (fun w1 hw h=>Kc Zk) fun gb=>ZR <| ZC (fun w1 hw h=>head_r (hp.below hw) hv hf.px) fun y1=>ZD 6 (fun w1 hw h=>P3 (N:=w.heap.size) hw.size (hp.tr.below hw) hK) fun y2=>K0.make (M9 66 66 (Kf 1 gb) (.slice y2.1 6 y2.2)) (fun y:Option Addr×Nat=> .slice y.1 (1+6) y.2) (fun y v=>K6 v w.heap.size 9 1 y.1 (1+6) y.2 (sv ([[116,114,97,110,115,102,111,114,109]]++Oz N.T))) Zk (fun w1 hw h=>Rb (p:=[[116,114,97,110,115,102,111,114,109]]) (l:=Oz N.T) h.1.1.2 rfl h.2.strs Zd Zd hw.size) fun z=>ZR <| K0.make (Lq 88 2 #[(0,Vs (Md N,y1)),(1,Vs (De N,z))]) (Kf 2) (fun g u=>K6 u w.heap.size 66 1 (some ⟨g,0,none⟩) 2 2 [Vs (Md N,y1),Vs (De N,z)]∧∀x∈[((Md N,y1):LR),(De N,z)],∀b∈bl (some (⟨g,0,none⟩:Addr)),b∉bl x.2.1) Zk (fun w1 hw h=>make_l2 (X1:=(Md N,y1)) (X2:=(De N,z)) hw.size h.1.1.2 Yn h.2.strs (by simp[De])) fun g=>ZR <| K0.weak Zk (fun u h=>row2 (X1:=(Md N,y1)) (X2:=(De N,z)) h.2.1 h.2.2 h.1.1.1.2 Yn h.1.2.strs (by simp[De])) <| K0.blur bkA fun x=>K0.eq (k ((g,y1,z),x)) Zk
 obtain⟨⟨g,y1,y2⟩,x0⟩:=i
 refine K0.meet3 (ι:={p:(Option Addr×Nat)×List LR // p.2.map (·.1)=Ad N++Sx N}×(Nat→AV)) (fun i c=>Q9 bkB i.2 (M7 3 (.slice i.1.1.1.1 i.1.1.2.length i.1.1.1.2) (Lw Tryz.prog 1000 1000 (J2 false c)))) (fun i u=>Qu w.heap.size i.1.1.1 i.1.1.2 u) (fun k2=> ?_) (fun i=> ?_)
 ·by_cases hc:N.clip.length=0
  ·exact ZJ (decide ((N.clip.length:Int)>0)) false (decide_eq_false Zo) <| K0.blur bkB fun x=>K0.eq (k2 (⟨((some ⟨g,0,none⟩,2),[(Md N,y1),(De N,y2)]),by unfold Sx;rw[if_pos hc];rfl⟩,x)) Zk
  ·have hr:=rule_rng (x:=N.crule) (by unfold Qe at hcl;rw[if_neg hc]at hcl;exact hcl)
   exact ZJ (decide ((N.clip.length:Int)>0)) true (decide_eq_true Zo) <| ZC (fun w1 hw h=>name_rule hr.1 hr.2) fun u1=>ZC (fun w1 hw h=>pathWord_v (c:=q.clc) (hp.cl.below hw) hclip) fun u2=>K0.make (Lq 66 3 #[(0,K4 [99,108,105,112]),(1,K4 (Kz Na 1 N.crule)),(2,K4 (Rq N.clip))]) (Kf 3) (fun ga u=>L3 u (some ⟨ga,0,none⟩) 3 [[99,108,105,112],Kz Na 1 N.crule,Rq N.clip]∧Apt (some ⟨ga,0,none⟩) (some ⟨g,0,none⟩,2) [(Md N,y1),(De N,y2)]) Zk (fun w1 hw h=>make_wsA (cells:= #[K4 [99,108,105,112],K4 (Kz Na 1 N.crule),K4 (Rq N.clip)]) Zk rfl rfl h.1.1) fun ga=>ZR <| K0.make (Lq 88 1 #[(0,Vs ([[99,108,105,112],Kz Na 1 N.crule,Rq N.clip],(some ⟨ga,0,none⟩,3)))]) (Kf 1) (L4 66 #[Vs ([[99,108,105,112],Kz Na 1 N.crule,Rq N.clip],(some ⟨ga,0,none⟩,3))]) Zk (fun w1 hw h=>Kc Zk) fun gb=>ZS 9 <| K0.mutAny (L:=bl (some (⟨g,0,none⟩:Addr))) (val:=fun(z:Option Addr×Nat)=> .slice z.1 (2+1) z.2) (Φ':=fun(z:Option Addr×Nat) u=>Qu w.heap.size z [(Md N,y1),(De N,y2),([[99,108,105,112],Kz Na 1 N.crule,Rq N.clip],(some ⟨ga,0,none⟩,3))] u) (G:=fun(z:Option Addr×Nat) v=>K6 v w.heap.size 66 1 z.1 (2+1) z.2 [Vs (Md N,y1),Vs (De N,y2),Vs ([[99,108,105,112],Kz Na 1 N.crule,Rq N.clip],(some ⟨ga,0,none⟩,3))]∧∀x∈[((Md N,y1):LR),(De N,y2),([[99,108,105,112],Kz Na 1 N.crule,Rq N.clip],(some ⟨ga,0,none⟩,3))],∀b∈bl z.1,b∉bl x.2.1) (M9 88 88 (.slice (some ⟨g,0,none⟩) 2 2) (Kf 1 gb)) (fun w1 hw h=>Fa (y:=(some ⟨g,0,none⟩,2)) (L:=[(Md N,y1),(De N,y2)]) (X:=([[99,108,105,112],Kz Na 1 N.crule,Rq N.clip],(some ⟨ga,0,none⟩,3))) h.1.1.1.1 hw.size h.1.2.1 Zs h.1.2.2 h.2 Zs) (fun u h=>h.1.1.1.1.own.blk) (fun z wa u e1 e2 h hG=>Qu.left (L:=[(Md N,y1),(De N,y2)]) (X:=([[99,108,105,112],Kz Na 1 N.crule,Rq N.clip],(some ⟨ga,0,none⟩,3))) h.1.1.1.1 h.1.2.1 Zs h.1.2.2 e2 hG) Zk Zk fun z=>ZR <| K0.blur bkB fun x=>K0.eq (k2 (⟨(z,[(Md N,y1),(De N,y2),([[99,108,105,112],Kz Na 1 N.crule,Rq N.clip],(some ⟨ga,0,none⟩,3))]),by unfold Sx;rw[if_neg hc];rfl⟩,x)) Zk
 obtain⟨⟨⟨y,L⟩,hL⟩,x1⟩:=i
 refine K0.loop (ι:={p:Nat×(Option Addr×Nat)×List LR // p.1≤N.fill.length∧p.2.2.map (·.1)=(Ad N++Sx N)++(N.fill.take p.1).map Pb}) 80 (fun p=>⟨[(1,.p 1 0),(3,.v (.slice p.1.2.1.1 p.1.2.2.length p.1.2.1.2)),(34,.v (.slice q.fiA N.fill.length q.fic)),(35,.v (Zi N.fill.length)),(36,.v (Zi p.1.1))],[(1,(X9 N q).map .v)]⟩) (fun p u=>Qu w.heap.size p.1.2.1 p.1.2.2 u) (fun p=>N.fill.length-p.1.1) (⟨(0,y,L),Nat.zero_le _,by show L.map (·.1)=_;rw[show L.map (·.1)=Ad N++Sx N from hL];simp⟩) Zk (fun _=>by kernel_rfl) ⟨Zk,Zk,Zk⟩ (fun u h=>h) ?_
 rintro⟨⟨k,y,L⟩,hk,hLM⟩ gg
 have hk:k≤N.fill.length:=hk
 have hLM:L.map (·.1)=(Ad N++Sx N)++(N.fill.take k).map Pb:=hLM
 have hLn:L.length≤10:=by rw[len_map hLM];simp[Ad];omega
 by_cases hlt:k<N.fill.length
 case pos=>
  obtain⟨P,hx⟩:∃v,N.fill[k]? =some v:=⟨_,List.getElem?_eq_getElem hlt⟩
  obtain⟨p,hx2,hrd⟩:=hp.fi.get hx
  obtain⟨ad,hA,hc⟩:=hp.fi.row.2 k _ hx2
  have hPm:=List.mem_of_getElem? hx
  have hPv:=hfv P hPm
  have hPf:=hf.fi P hPm
  have hps:=Fe hPv
  have hpn:0<(Rx P).length:=pnW_pos hPv
  have eF:1+(Rx P).length=(Pb P).length:=Nat.add_comm _ _
  refine ZR <| ZJ (decide ((k:Int)<(N.fill.length:Int))) true Zp <| ZA (Kj 44 (.slice q.fiA N.fill.length q.fic) k) (.pointer (some (ad.add (k*40)))) (fun w1 hw h=>U1 hA hlt) <| ZA (L5 60 (ad.add (k*40))) (.agg (pC2 (P,p)).toArray) (fun w1 hw h=>Vy fun j v hj=>Lc hw (hc j v hj)) <| K0.make (Lq 66 1 #[(0,K4 [102,105,108,108])]) (Kf 1) (L4 9 #[K4 [102,105,108,108]]) Zk (fun w1 hw h=>Kc Zk) fun gb=>ZR <| ZD 4 (fun w1 hw h=>Uk (hrd.below hw) hPv hK hPf.1) fun wy=>K0.make (M9 66 66 (Kf 1 gb) (.slice wy.1 (Rx P).length wy.2)) (fun z:Option Addr×Nat=> .slice z.1 (1+(Rx P).length) z.2) (fun z v=>K6 v w.heap.size 9 1 z.1 (1+(Rx P).length) z.2 (sv (Pb P))∧Apt z.1 y L) Zk (fun w1 hw h=>make_hd (p:=[[102,105,108,108]]) (l:=Rx P) h.1.1 h.1.2 rfl h.2 hpn Zo hw.size) fun z=>ZR <| K0.make (Lq 88 1 #[(0,.slice z.1 (1+(Rx P).length) z.2)]) (Kf 1) (L4 66 #[.slice z.1 (1+(Rx P).length) z.2]) Zk (fun w1 hw h=>Kc Zk) fun ga=>ZS 6 ?_
  have hX:∀v:World,K6 v w.heap.size 9 1 z.1 (1+(Rx P).length) z.2 (sv (Pb P))→L3 v z.1 (Pb P).length (Pb P):=fun v h=>by have t:=h.strs;rw[eF]at t;exact t
  have eX:Value.slice z.1 (1+(Rx P).length) z.2=Vs (Pb P,z):=by rw[eF];rfl
  refine K0.mutOp (L:=bl y.1) (val:=fun(z2:Option Addr×Nat)=> .slice z2.1 (L.length+1) z2.2) (Φ':=fun(z2:Option Addr×Nat) u=>Qu w.heap.size z2 (L++ [(Pb P,z)]) u) (G:=fun(z2:Option Addr×Nat) v=>K6 v w.heap.size 66 1 z2.1 (L.length+1) z2.2 (L.map Vs++ [Vs (Pb P,z)])∧∀x∈L++ [(Pb P,z)],∀b∈bl z2.1,b∉bl x.2.1) (M9 88 88 (.slice y.1 L.length y.2) (Kf 1 ga)) (fun w1 hw h=>Fa (X:=(Pb P,z)) h.1.1.1.1 hw.size (hX _ h.1.2.1) (by simp[Pb]) h.1.2.2 (by rw[←eX];exact h.2) Zo) (fun u h=>h.1.1.1.1.own.blk) (fun z2 wa u e1 e2 h hG=>Qu.left h.1.1.1.1 (hX _ h.1.2.1) (by simp[Pb]) h.1.2.2 e2 hG) Zk Zk fun z2=>ZR <| K0.slot 36 (Zi (IntKind.i64.wrap ((k:Int)+1))) (Zi ((k+1:Nat):Int)) Zk (by rw[Kd hlt Zo]) <| K0.slot 3 (.slice z2.1 (L.length+1) z2.2) (.slice z2.1 (L++ [((Pb P,z):LR)]).length z2.2) Zk (by rw[List.length_append];rfl) <| K0.next (⟨(k+1,z2,L++ [(Pb P,z)]),by show k+1≤N.fill.length;omega,by show(L++ [((Pb P,z):LR)]).map (·.1)=_;rw[List.map_append,hLM,Cx Pb hx];simp⟩) Zk (by show N.fill.length- (k+1)<N.fill.length-k;omega) ⟨Zk,Zk,Zk⟩ (fun u h=>h)
 obtain rfl:k=N.fill.length:=by omega
 rw[List.take_length]at hLM
 refine ZR <| ZJ (decide ((N.fill.length:Int)<(N.fill.length:Int))) false Zs <| K0.leave Zk <| ZR <| K0.loop (ι:={p:Nat×(Option Addr×Nat)×List LR // p.1≤N.stroke.length∧p.2.2.map (·.1)=((Ad N++Sx N)++N.fill.map Pb)++(N.stroke.take p.1).map (Lg N.sty)}) 80 (fun p=>⟨[(1,.p 1 0),(3,.v (.slice p.1.2.1.1 p.1.2.2.length p.1.2.1.2)),(49,.v (.slice q.stA N.stroke.length q.stc)),(50,.v (Zi N.stroke.length)),(51,.v (Zi p.1.1))],[(1,(X9 N q).map .v)]⟩) (fun p u=>Qu w.heap.size p.1.2.1 p.1.2.2 u) (fun p=>N.stroke.length-p.1.1) (⟨(0,y,L),Nat.zero_le _,by show L.map (·.1)=_;rw[hLM];simp⟩) Zk (fun _=>by kernel_rfl) ⟨Zk,Zk,Zk⟩ (fun u h=>h) ?_
 rintro⟨⟨k,y,L⟩,hk,hLM⟩ gg
 have hk:k≤N.stroke.length:=hk
 have hLM:L.map (·.1)=((Ad N++Sx N)++N.fill.map Pb)++(N.stroke.take k).map (Lg N.sty):=hLM
 have hLn:L.length≤10:=by rw[len_map hLM];simp[Ad];omega
 by_cases hlt:k<N.stroke.length
 case pos=>
  obtain⟨P,hx⟩:∃v,N.stroke[k]? =some v:=⟨_,List.getElem?_eq_getElem hlt⟩
  obtain⟨p,hx2,hrd⟩:=hp.st.get hx
  obtain⟨ad,hA,hc⟩:=hp.st.row.2 k _ hx2
  have hPm:=List.mem_of_getElem? hx
  have hPv:=hsv P hPm
  have hPf:=hf.st P hPm
  have hS:=hsty Zo
  have hps:=Fe hPv
  have hpn:0<(Rx P).length:=pnW_pos hPv
  have hd16:=(Fu (J6 hS).2.2.2.2.2).2
  have eF:1+(6+N.sty.d.length)+(Rx P).length=(Lg N.sty P).length:=by unfold Lg;rw[List.length_cons,List.length_append,penW_len];omega
  refine ZR <| ZJ (decide ((k:Int)<(N.stroke.length:Int))) true Zp <| ZA (Kj 44 (.slice q.stA N.stroke.length q.stc) k) (.pointer (some (ad.add (k*40)))) (fun w1 hw h=>U1 hA hlt) <| ZA (L5 60 (ad.add (k*40))) (.agg (pC2 (P,p)).toArray) (fun w1 hw h=>Vy fun j v hj=>Lc hw (hc j v hj)) <| K0.two (i:=1) (j:=4) Zk ?_ ?_
  ·refine Qa.make (i:=1) (Lq (66) 1 #[(0,K4 [115,116,114,111,107,101])]) (Kf 1) (L4 9 #[K4 [115,116,114,111,107,101]]) Zk (fun w1 hw h=>Kc Zk) fun gb=>ZR <| ZD 5 (fun w1 hw h=>penWords_v (y:=(q.daA,q.dac)) (hp.da.below hw) hS) fun py=>K0.make (M9 66 66 (Kf 1 gb) (.slice py.1 (6+N.sty.d.length) py.2)) (fun z:Option Addr×Nat=> .slice z.1 (1+(6+N.sty.d.length)) z.2) (fun z v=>K6 v w.heap.size 9 1 z.1 (1+(6+N.sty.d.length)) z.2 (sv ([[115,116,114,111,107,101]]++Bk N.sty))∧Apt z.1 y L) Zk (fun w1 hw h=>make_hd (p:=[[115,116,114,111,107,101]]) (l:=Bk N.sty) h.1.1 h.1.2 rfl h.2 Zo Zo hw.size) fun z=>ZR <| ZD 8 (fun w1 hw h=>Uk (hrd.below hw) hPv hK hPf.1) fun wy=>K0.mutAnyB (L:=bl z.1) (val:=fun(z3:Option Addr×Nat)=> .slice z3.1 (1+(6+N.sty.d.length)+(Rx P).length) z3.2) (Φ':=fun(z3:Option Addr×Nat) u=>Qu w.heap.size y L u∧K6 u w.heap.size 9 1 z3.1 (1+(6+N.sty.d.length)+(Rx P).length) z3.2 (sv (([[115,116,114,111,107,101]]++Bk N.sty)++Rx P))∧Apt z3.1 y L) (G:=fun(z3:Option Addr×Nat) v=>K6 v w.heap.size 9 1 z3.1 (1+(6+N.sty.d.length)+(Rx P).length) z3.2 (sv (([[115,116,114,111,107,101]]++Bk N.sty)++Rx P))∧Apt z3.1 y L) (M9 66 66 (.slice z.1 (1+(6+N.sty.d.length)) z.2) (.slice wy.1 (Rx P).length wy.2)) (fun w1 hw h=>app_rowA h.1.1.1.1 h.1.2.1 hw.size h.2 Zo h.1.2.2) (fun u h=>h.1.2.1.blk) (fun z3 wa u e1 e2 h hG=>⟨Qu.stay h.1.1.1.1 e2 h.1.2.2,hG⟩) Zk Zk fun z3=>ZR <| K0.make (Lq 88 1 #[(0,.slice z3.1 (1+(6+N.sty.d.length)+(Rx P).length) z3.2)]) (Kf 1) (L4 66 #[.slice z3.1 (1+(6+N.sty.d.length)+(Rx P).length) z3.2]) Zk (fun w1 hw h=>Kc Zk) fun ga=>ZS 10 ?_
   have hX:∀v:World,K6 v w.heap.size 9 1 z3.1 (1+(6+N.sty.d.length)+(Rx P).length) z3.2 (sv (([[115,116,114,111,107,101]]++Bk N.sty)++Rx P))→L3 v z3.1 (Lg N.sty P).length (Lg N.sty P):=fun v h=>by have t:=h.strs;rw[eF]at t;exact t
   have eX:Value.slice z3.1 (1+(6+N.sty.d.length)+(Rx P).length) z3.2=Vs (Lg N.sty P,z3):=by rw[eF];rfl
   refine K0.mutAny (L:=bl y.1) (val:=fun(z2:Option Addr×Nat)=> .slice z2.1 (L.length+1) z2.2) (Φ':=fun(z2:Option Addr×Nat) u=>Qu w.heap.size z2 (L++ [(Lg N.sty P,z3)]) u) (G:=fun(z2:Option Addr×Nat) v=>K6 v w.heap.size 66 1 z2.1 (L.length+1) z2.2 (L.map Vs++ [Vs (Lg N.sty P,z3)])∧∀x∈L++ [(Lg N.sty P,z3)],∀b∈bl z2.1,b∉bl x.2.1) (M9 88 88 (.slice y.1 L.length y.2) (Kf 1 ga)) (fun w1 hw h=>Fa (X:=(Lg N.sty P,z3)) h.1.1 hw.size (hX _ h.1.2.1) (by simp[Lg]) h.1.2.2 (by rw[←eX];exact h.2) Zo) (fun u h=>h.1.1.own.blk) (fun z2 wa u e1 e2 h hG=>Qu.left h.1.1 (hX _ h.1.2.1) (by simp[Lg]) h.1.2.2 e2 hG) Zk Zk fun z2=>ZR <| K0.slot 51 (Zi (IntKind.i64.wrap ((k:Int)+1))) (Zi ((k+1:Nat):Int)) Zk (by rw[Kd hlt Zo]) <| K0.slot 3 (.slice z2.1 (L.length+1) z2.2) (.slice z2.1 (L++ [((Lg N.sty P,z3):LR)]).length z2.2) Zk (by rw[List.length_append];rfl) <| K0.next (⟨(k+1,z2,L++ [(Lg N.sty P,z3)]),by show k+1≤N.stroke.length;omega,by show(L++ [((Lg N.sty P,z3):LR)]).map (·.1)=_;rw[List.map_append,hLM,Cx (Lg N.sty) hx];simp⟩) Zk (by show N.stroke.length- (k+1)<N.stroke.length-k;omega) ⟨Zk,Zk,Zk⟩ (fun u h=>h)
  ·refine Qa.callv (i:=4) (fun w1 hw h=>penWords_v (y:=(q.daA,q.dac)) (hp.da.below hw) hS) Zk fun py=>ZS 1 <| K0.make (Lq (66) 1 #[(0,K4 [115,116,114,111,107,101])]) (Kf 1) (L4 9 #[K4 [115,116,114,111,107,101]]) Zk (fun w1 hw h=>Kc Zk) fun gb=>ZS 5 <| K0.make (M9 66 66 (Kf 1 gb) (.slice py.1 (6+N.sty.d.length) py.2)) (fun z:Option Addr×Nat=> .slice z.1 (1+(6+N.sty.d.length)) z.2) (fun z v=>K6 v w.heap.size 9 1 z.1 (1+(6+N.sty.d.length)) z.2 (sv ([[115,116,114,111,107,101]]++Bk N.sty))∧Apt z.1 y L) Zk (fun w1 hw h=>make_hd (p:=[[115,116,114,111,107,101]]) (l:=Bk N.sty) h.1.1 h.2 rfl h.1.2 Zo Zo hw.size) fun z=>ZR <| ZD 8 (fun w1 hw h=>Uk (hrd.below hw) hPv hK hPf.1) fun wy=>K0.mutAnyB (L:=bl z.1) (val:=fun(z3:Option Addr×Nat)=> .slice z3.1 (1+(6+N.sty.d.length)+(Rx P).length) z3.2) (Φ':=fun(z3:Option Addr×Nat) u=>Qu w.heap.size y L u∧K6 u w.heap.size 9 1 z3.1 (1+(6+N.sty.d.length)+(Rx P).length) z3.2 (sv (([[115,116,114,111,107,101]]++Bk N.sty)++Rx P))∧Apt z3.1 y L) (G:=fun(z3:Option Addr×Nat) v=>K6 v w.heap.size 9 1 z3.1 (1+(6+N.sty.d.length)+(Rx P).length) z3.2 (sv (([[115,116,114,111,107,101]]++Bk N.sty)++Rx P))∧Apt z3.1 y L) (M9 66 66 (.slice z.1 (1+(6+N.sty.d.length)) z.2) (.slice wy.1 (Rx P).length wy.2)) (fun w1 hw h=>app_rowA h.1.1.1.1 h.1.2.1 hw.size h.2 Zo h.1.2.2) (fun u h=>h.1.2.1.blk) (fun z3 wa u e1 e2 h hG=>⟨Qu.stay h.1.1.1.1 e2 h.1.2.2,hG⟩) Zk Zk fun z3=>ZR <| K0.make (Lq 88 1 #[(0,.slice z3.1 (1+(6+N.sty.d.length)+(Rx P).length) z3.2)]) (Kf 1) (L4 66 #[.slice z3.1 (1+(6+N.sty.d.length)+(Rx P).length) z3.2]) Zk (fun w1 hw h=>Kc Zk) fun ga=>ZS 10 ?_
   have hX:∀v:World,K6 v w.heap.size 9 1 z3.1 (1+(6+N.sty.d.length)+(Rx P).length) z3.2 (sv (([[115,116,114,111,107,101]]++Bk N.sty)++Rx P))→L3 v z3.1 (Lg N.sty P).length (Lg N.sty P):=fun v h=>by have t:=h.strs;rw[eF]at t;exact t
   have eX:Value.slice z3.1 (1+(6+N.sty.d.length)+(Rx P).length) z3.2=Vs (Lg N.sty P,z3):=by rw[eF];rfl
   refine K0.mutAny (L:=bl y.1) (val:=fun(z2:Option Addr×Nat)=> .slice z2.1 (L.length+1) z2.2) (Φ':=fun(z2:Option Addr×Nat) u=>Qu w.heap.size z2 (L++ [(Lg N.sty P,z3)]) u) (G:=fun(z2:Option Addr×Nat) v=>K6 v w.heap.size 66 1 z2.1 (L.length+1) z2.2 (L.map Vs++ [Vs (Lg N.sty P,z3)])∧∀x∈L++ [(Lg N.sty P,z3)],∀b∈bl z2.1,b∉bl x.2.1) (M9 88 88 (.slice y.1 L.length y.2) (Kf 1 ga)) (fun w1 hw h=>Fa (X:=(Lg N.sty P,z3)) h.1.1 hw.size (hX _ h.1.2.1) (by simp[Lg]) h.1.2.2 (by rw[←eX];exact h.2) Zo) (fun u h=>h.1.1.own.blk) (fun z2 wa u e1 e2 h hG=>Qu.left h.1.1 (hX _ h.1.2.1) (by simp[Lg]) h.1.2.2 e2 hG) Zk Zk fun z2=>ZR <| K0.slot 51 (Zi (IntKind.i64.wrap ((k:Int)+1))) (Zi ((k+1:Nat):Int)) Zk (by rw[Kd hlt Zo]) <| K0.slot 3 (.slice z2.1 (L.length+1) z2.2) (.slice z2.1 (L++ [((Lg N.sty P,z3):LR)]).length z2.2) Zk (by rw[List.length_append];rfl) <| K0.next (⟨(k+1,z2,L++ [(Lg N.sty P,z3)]),by show k+1≤N.stroke.length;omega,by show(L++ [((Lg N.sty P,z3):LR)]).map (·.1)=_;rw[List.map_append,hLM,Cx (Lg N.sty) hx];simp⟩) Zk (by show N.stroke.length- (k+1)<N.stroke.length-k;omega) ⟨Zk,Zk,Zk⟩ (fun u h=>h)
 obtain rfl:k=N.stroke.length:=by omega
 rw[List.take_length]at hLM
 refine ZR <| ZJ (decide ((N.stroke.length:Int)<(N.stroke.length:Int))) false Zs <| K0.leave Zk <| ZR ?_
 have hLe:L.map (·.1)=R6 N:=by rw[hLM,lns_eq]
 have hLl:=len_map hLe
 have hL0:0<L.length:=by rw[hLl];simp[R6]
 refine K0.pure_ (p:=∃g:Nat,y.1=some ⟨g,0,none⟩) (fun w1 hw h=>by obtain⟨g,e,_⟩:=(show Qu w.heap.size y L w1 from h).own.cells hL0;exact⟨g,e⟩) Zk (fun hg=> ?_)
 obtain⟨g1,hg⟩:=hg
 refine K0.loop (ι:={p:Nat×(Option Addr×Nat) // p.1≤L.length}) 80 (fun p=>⟨[(8,.v (.slice p.1.2.1 p.1.1 p.1.2.2)),(67,.v (.slice y.1 L.length y.2)),(68,.v (Zi L.length)),(69,.v (Zi p.1.1))],[]⟩) (fun p u=>Qu w.heap.size y L u∧K6 u w.heap.size 9 1 p.1.2.1 p.1.1 p.1.2.2 (sv ((L.take p.1.1).map fun x=>Lr x.1))∧Apt p.1.2.1 y L) (fun p=>L.length-p.1.1) (⟨(0,(none,0)),Nat.zero_le _⟩) Zk (fun _=>by kernel_rfl) ⟨Zk,Zk,Zk⟩ (fun u h=>⟨h,K6.nil_,fun b hb=>by cases hb⟩) ?_
 rintro⟨⟨k,z⟩,hk⟩ gg
 have hk:k≤L.length:=hk
 by_cases hlt:k<L.length
 case pos=>
  obtain⟨X,hx⟩:∃v,L[k]? =some v:=⟨_,List.getElem?_eq_getElem hlt⟩
  have hXm:=List.mem_of_getElem? hx
  have hXs:=hsm X.1 (by rw[←hLe];exact List.mem_map_of_mem hXm)
  refine ZR <| ZJ (decide ((k:Int)<(L.length:Int))) true Zp <| ZA (Kj 88 (.slice y.1 L.length y.2) k) (.pointer (some ((⟨g1,0,none⟩:Addr).add k))) (fun w1 hw h=>by rw[hg];exact Kn (elem:=66) Zk Zk hlt) <| ZA (L5 66 ((⟨g1,0,none⟩:Addr).add k)) (Vs X) (fun w1 hw h=>K8 Zk (by obtain⟨g2,e2,h2⟩:=h.1.own.cells hL0;rw[hg]at e2;cases e2;rw[Addr.add_mid,Nat.zero_add];exact h2 k _ (by rw[List.getElem?_map,hx];rfl))) ?_
  refine ZC (fun w1 hw h=>Zc (c:=X.2.2) (h.1.str X hXm) hXs.1 hXs.2) fun v=>K0.make (Lq 66 1 #[(0,K4 (Lr X.1))]) (Kf 1) (L4 9 #[K4 (Lr X.1)]) Zk (fun w1 hw h=>Kc Zk) fun ga=>ZS 4 <| K0.mutOp (L:=bl z.1) (val:=fun(z2:Option Addr×Nat)=> .slice z2.1 (k+1) z2.2) (Φ':=fun(z2:Option Addr×Nat) u=>Qu w.heap.size y L u∧K6 u w.heap.size 9 1 z2.1 (k+1) z2.2 (sv ((L.take (k+1)).map fun x=>Lr x.1))∧Apt z2.1 y L) (G:=fun(z2:Option Addr×Nat) v=>K6 v w.heap.size 9 1 z2.1 (k+1) z2.2 (sv ((L.take (k+1)).map fun x=>Lr x.1))∧Apt z2.1 y L) (M9 66 66 (.slice z.1 k z.2) (Kf 1 ga)) (fun w1 hw h=>by rw[Cx (fun x:LR=>Lr x.1) hx];exact app_rowA (n:=1) (cc:=1) (l:=[Lr X.1]) h.1.1.1 h.1.1.2.1 hw.size (O9 (L:=[Lr X.1]) h.2 rfl) (show k+1≤1000000 by omega) h.1.1.2.2) (fun u h=>h.1.1.2.1.blk) (fun z2 wa u e1 e2 h hG=>⟨Qu.stay h.1.1.1 e2 h.1.1.2.2,hG⟩) Zk Zk fun z2=>ZR <| K0.slot 69 (Zi (IntKind.i64.wrap ((k:Int)+1))) (Zi ((k+1:Nat):Int)) Zk (by rw[Kd hlt Zo]) <| K0.next (⟨(k+1,z2),by show k+1≤L.length;omega⟩) Zk (by show L.length- (k+1)<L.length-k;omega) ⟨Zk,Zk,Zk⟩ (fun u h=>h)
 obtain rfl:k=L.length:=by omega
 refine ZR <| ZJ (decide ((L.length:Int)<(L.length:Int))) false Zs <| K0.leave Zk <| ZR <| ZV (.slice z.1 L.length z.2) (fun w1 hw h=>⟨z,by rw[hLl],hw,fun w'' k1 k2=>by have t:=(show Qu w.heap.size y L w''∧K6 w'' w.heap.size 9 1 z.1 L.length z.2 (sv ((L.take L.length).map fun x=>Lr x.1))∧Apt z.1 y L from h w'' k1 k2).2.1.strs;rw[List.take_length,hLl]at t;rw[←hLe,List.map_map];rw[hLe];exact t⟩)
end
end
section
variable{N:Nd}{S:Sc}{ws:WS}{P:Pn}
structure NSm(N:Nd):Prop where
 im:N.im.px.length≤1000
 fi:∀P∈N.fill,P.im.px.length≤1000
 st:∀P∈N.stroke,P.im.px.length≤1000
theorem Yj{l:WS}{f k:Int}(h:∀x∈l,x.length≤10):(Kz l f k).length≤10:=by
 unfold Kz
 cases e:l[(k-f).toNat]? with
 |none=>simp
 |some x=>exact h x (List.mem_of_getElem? e)
theorem fmtP_le{l:List Sg}(h:Pt l=true):(Rq l).length≤40448:=by
 obtain⟨h1,h2⟩:=Hg h
 have:=fmtP_len h1
 omega
theorem Re{x:Int}(h: -9223372036854775808≤x∧x≤9223372036854775807):(Kb x).length≤21:=Sq h
theorem Dy{α:Type}{f:α→List UInt8}{n:Nat}:∀{l:List α},(∀x∈l,(f x).length≤n)→Mq (l.map f)≤n*l.length
 | [],_=>Nat.zero_le _
 |x::l,h=>by
  have h1:=h x Zs
  have h2:=Dy (l:=l) fun y hy=>h y (List.mem_cons_of_mem _ hy)
  simp only[List.map_cons,Mq,List.length_cons,Nat.mul_succ]
  omega
theorem penW_le{T:Jt}(h:P6 T=true):Mq (Bk T)≤500∧(Bk T).length≤22:=by
 obtain⟨h1,h2,h3,h4,h5,h6⟩:=J6 h
 obtain⟨h7,h8⟩:=Fu h6
 have k1:=Re (x:=T.w) Zo;have k2:=Re (x:=T.m) Zo;have k3:=Re (x:=T.p) Zo;have k4:=Re (x:=(T.d.length:Int)) Zo
 have k5:=Yj (l:=Sp) (f:=1) (k:=T.j) Zd
 have k6:=Yj (l:=Xh) (f:=3) (k:=T.c) Zd
 have k7:=Dy (f:=Kb) (n:=21) (l:=T.d) fun z hz=>Re (by have:=h7 z hz;omega)
 refine⟨?_,by rw[penW_len];omega⟩
 rw[penW_eq,Pz]
 simp only[penH,Mq]
 omega
theorem imW_le{m:Im}(h:Xy m=true)(hn:m.px.length≤1000):Mq (Hd m)≤8100∧(Hd m).length=3:=by
 obtain⟨h1,h2⟩:=im_rng h
 have k1:=Re h1
 have k2:=Re h2
 have k3:=hexW_len m.px
 refine⟨?_,rfl⟩
 simp only[Hd,Mq]
 omega
theorem Cy(hv:Lm N=true)(hs:NSm N):(∀ws∈R6 N,Mq ws≤50000∧ws.length≤100)∧(R6 N).length≤5:=by
 obtain⟨hk,hid,hdep,hok,hclip,hcl,_,ho⟩:=Ve hv
 obtain⟨hn1,hfv,hsv,hsty⟩:=Gw hv
 have hcn:=clipW_len (N:=N)
 refine⟨fun ws hw=> ?_,by rw[lns_eq];simp[Ad];omega⟩
 rw[lns_eq]at hw
 have q1:=Re (x:=N.id) Zo;have q2:=Re (x:=N.dep) Zo;have q3:=Re (x:=(N.op.toNat:Int)) (by have:=op_rng N.op;omega)
 rcases List.mem_append.1 hw with hw|hw
 rcases List.mem_append.1 hw with hw|hw
 rcases List.mem_append.1 hw with hw|hw
 ·simp only[Ad,List.mem_cons,List.not_mem_nil,or_false]at hw
  rcases hw with rfl|rfl
  ·unfold ownB at ho
   unfold Md
   by_cases k1:N.kind=1
   ·rw[if_pos k1]
    have k5:=Yj (l:=Ms) (f:=1) (k:=N.bl) Zd
    have k6:∀b:Bool,(bitW b).length≤1:=fun b=>by cases b<;>decide
    have k7:=k6 N.iso
    have k8:=k6 N.ko
    simp only[Mq,List.length_cons,List.length_nil]
    omega
   rw[if_neg k1]at ho ⊢
   by_cases k2:N.kind=2
   ·rw[if_pos k2]at ho ⊢
    unfold V4 at ho
    simp only[Bool.and_eq_true]at ho
    have k5:=Yj (l:=Na) (f:=1) (k:=N.frule) Zd
    have k6:=fmtP_le ho.1
    simp only[Mq,List.length_cons,List.length_nil]
    omega
   rw[if_neg k2,Bool.and_eq_true]at ho
   rw[if_neg k2]
   have k5:=Yj (l:=Oc) (f:=1) (k:=N.samp) Zd
   obtain⟨k6,k7⟩:=imW_le ho.1 hs.im
   rw[Pz,List.length_append,k7]
   simp only[Mq,List.length_cons,List.length_nil]
   omega
  ·obtain⟨k1,k2⟩:=affW_len hok
   unfold De
   simp only[Mq,List.length_cons,List.length_nil]
   omega
 ·unfold Sx at hw
  split at hw
  ·cases hw
  ·obtain rfl:ws=_:=by simpa using hw
   have k5:=Yj (l:=Na) (f:=1) (k:=N.crule) Zd
   have k6:=fmtP_le hclip
   simp only[Mq,List.length_cons,List.length_nil]
   omega
 ·obtain⟨P,hP,rfl⟩:=List.mem_map.1 hw
  obtain⟨k1,k2⟩:=Fe (hfv P hP)
  have k3:=hs.fi P hP
  unfold Pb
  simp only[Mq,List.length_cons,List.length_nil]
  omega
 ·obtain⟨P,hP,rfl⟩:=List.mem_map.1 hw
  obtain⟨k1,k2⟩:=Fe (hsv P hP)
  have k3:=hs.st P hP
  obtain⟨k4,k5⟩:=penW_le (hsty fun h=>by rw[List.length_eq_zero_iff]at h;rw[h]at hP;cases hP)
  unfold Lg
  simp only[Mq,List.length_cons,List.length_nil,Pz,List.length_append]
  omega
theorem lns_two(hv:Lm N=true)(hs:NSm N):∀ws∈R6 N,ws.length≤2000000∧Mq ws≤2000000:=fun ws hw=>by have:=(Cy hv hs).1 ws hw;omega
theorem nodeJ(hv:Lm N=true)(hs:NSm N):Mq ((R6 N).map Lr)≤800000:=by
 obtain⟨h1,h2⟩:=Cy hv hs
 have:=Dy (f:=Lr) (n:=150200) (l:=R6 N) fun ws hw=>by have:=Cz ws;have:=h1 ws hw;omega
 omega
theorem sizeJ(h:I5 S=false):(Y9 S).length=4∧Mq (Y9 S)≤100:=by
 unfold I5 at h
 simp only[Bool.or_eq_false_iff,decide_eq_false_iff_not]at h
 have q1:=Re (x:=S.w) Zo;have q2:=Re (x:=S.h) Zo
 have q3:(Pd S.bg).length=9:=by unfold Pd;rw[List.length_cons,Sr];rfl
 refine⟨rfl,?_⟩
 unfold Y9
 simp only[Mq,List.length_cons,List.length_nil]
 omega
def G9(S:Sc)(k:Nat):List (List UInt8):=Lr (Y9 S)::(S.nds.take k).flatMap fun N=>(R6 N).map Lr
theorem Jb:G9 S S.nds.length=scL S:=by unfold G9 scL;rw[List.take_length]
theorem Wk{k:Nat}(hx:S.nds[k]? =some N):G9 S (k+1)=G9 S k++(R6 N).map Lr:=by
 unfold G9
 rw[Ug hx]
 simp
def ndAll(S:Sc):Prop:=∀N∈S.nds,Lm N=true∧NSm N
theorem scP_len(h:ndAll S):∀{k:Nat},k≤S.nds.length→(G9 S k).length≤1+5*k∧Mq (G9 S k)≤(Lr (Y9 S)).length+800000*k
 |0,_=>by unfold G9;simp[Mq]
 |k+1,hk=>by
  obtain⟨N,hx⟩:∃v,S.nds[k]? =some v:=⟨_,List.getElem?_eq_getElem (show k<S.nds.length by omega)⟩
  obtain⟨hv,hs⟩:=h N (List.mem_of_getElem? hx)
  obtain⟨h1,h2⟩:=scP_len h (k:=k) Zo
  have h3:=(Cy hv hs).2
  have h4:=nodeJ hv hs
  rw[Wk hx,List.length_append,List.length_map,Pz]
  omega
theorem nds_mem{l:List Nd}:∀{pre:List Nd},Ab pre l=true→∀M∈l,Lm M=true:=by
 induction l with
 |nil=>exact fun _ M hM=>by cases hM
 |cons x r ih=>
  intro pre h M hM
  have h2:=Bool.and_eq_true_iff.1 (show(Lm x&&(!decide (x.id∈pre.map (·.id))&&(!decide (x.dep>mxd pre)&&Ab (pre++ [x]) r)))=true from h)
  rcases List.mem_cons.1 hM with rfl|hM
  ·exact h2.1
  ·exact ih (Bool.and_eq_true_iff.1 (Bool.and_eq_true_iff.1 h2.2).2).2 M hM
theorem F5(h:Ai S=true):I5 S=false∧S.nds.length≤64∧∀N∈S.nds,Lm N=true:=by
 unfold Ai at h
 simp only[Bool.and_eq_true,Bool.not_eq_true',decide_eq_false_iff_not]at h
 exact⟨h.1,by omega,nds_mem h.2.2⟩
end
section
open Go.RowKit
--ATNAMES
section
variable{w:World}{B:Bool}{K n c:Nat}{S:Sc}{y:Option Addr×Nat}{nl:List (Nd×ND)}
theorem format_no(hE:ET w)(hp:Ut w y.1 nl K S.nds)(hf:NFs S.nds)(hK:2≤K∧K≤1000)(hB:Ai S=false):Zv 7 #[soV S y] w (.tuple #[K4 [],Zi 18]):=by
 exact K0.enter Tryz.func7 rfl <| ZR <| ZC (fun w1 hw h=>svalid_v (y:=y) (hE.below hw) (hp.below hw) hf Zo hB) fun u=>ZI true <| ZW (.tuple #[K4 [],Zi 18])
def outV(S:Sc):Value:=if (F6 S).length≤65536 then .tuple #[K4 (F6 S),Zi 0]else .tuple #[K4 [],Zi 5]
theorem Th(hE:ET w)(hp:Ut w y.1 nl K S.nds)(hf:NFs S.nds)(hs:∀N∈S.nds,NSm N)(hn:S.nds.length≤64)(hK:2≤K∧K≤1000)(hB:Ai S=true):Zv 7 #[soV S y] w (outV S):=by
 obtain⟨hz,_,hv⟩:=F5 hB
 have hall:ndAll S:=fun N hN=>⟨hv N hN,hs N hN⟩
 obtain⟨j1,j2⟩:=sizeJ hz
 have j3:=Cz (Y9 S)
 have hzr:(-9223372036854775808≤S.w∧S.w≤9223372036854775807)∧(-9223372036854775808≤S.h∧S.h≤9223372036854775807):=by
  unfold I5 at hz
  simp only[Bool.or_eq_false_iff,decide_eq_false_iff_not]at hz
  omega
 have hlen:=scP_len hall (k:=S.nds.length) (Nat.le_refl _)
 rw[Jb]at hlen
 refine K0.enter Tryz.func7 rfl <| ZR <| ZC (fun w1 hw h=>svalid_v (y:=y) (hE.below hw) (hp.below hw) hf Zo hB) fun u=>ZI false <| ZC (fun w1 hw h=>Kv (n:=S.w) hzr.1.1 hzr.1.2) fun u0=>ZC (fun w1 hw h=>Kv (n:=S.h) hzr.2.1 hzr.2.2) fun u1=>ZC (fun w1 hw h=>Fr (k:=S.bg)) fun u2=>K0.make (Lq (66) 4 #[(0,K4 [115,99,101,110,101]),(1,K4 (Kb S.w)),(2,K4 (Kb S.h)),(3,K4 (Pd S.bg))]) (Kf 4) (L4 9 #[K4 [115,99,101,110,101],K4 (Kb S.w),K4 (Kb S.h),K4 (Pd S.bg)]) Zk (fun w1 hw h=>Kc Zk) fun ga=>ZR <| ZC (fun w1 hw h=>Zc (A:=some ⟨ga,0,none⟩) (n:=4) (c:=4) (ls:=Y9 S) (O9 (L:=Y9 S) h.2 rfl) Zo Zo) fun u3=>K0.make (Lq 66 1 #[(0,K4 (Lr (Y9 S)))]) (Kf 1) (fun g u=>K6 u w.heap.size 9 1 (some ⟨g,0,none⟩) 1 1 (sv (G9 S 0))) Zk (fun w1 hw h=>Ym (cells:= #[K4 (Lr (Y9 S))]) Zk hw.size rfl Zd) fun gb=>ZR <| K0.loop (ι:={p:Nat×(Option Addr×Nat) // p.1≤S.nds.length}) 41 (fun p=>⟨[(4,.v (.slice p.1.2.1 (G9 S p.1.1).length p.1.2.2)),(24,.v (.slice y.1 S.nds.length y.2)),(25,.v (Zi S.nds.length)),(26,.v (Zi p.1.1))],[]⟩) (fun p u=>K6 u w.heap.size 9 1 p.1.2.1 (G9 S p.1.1).length p.1.2.2 (sv (G9 S p.1.1))) (fun p=>S.nds.length-p.1.1) (⟨(0,(some ⟨gb,0,none⟩,1)),Nat.zero_le _⟩) Zk (fun _=>by kernel_rfl) ⟨Zk,Zk,Zk⟩ (fun u h=>h.2) ?_
 rintro⟨⟨k,z⟩,hk⟩ gg
 have hk:k≤S.nds.length:=hk
 by_cases hlt:k<S.nds.length
 case pos=>
  obtain⟨N,hx⟩:∃v,S.nds[k]? =some v:=⟨_,List.getElem?_eq_getElem hlt⟩
  obtain⟨q,hx2,hrd⟩:=hp.get hx
  obtain⟨ad,hA,hc⟩:=hp.row.2 k _ hx2
  have hNm:=List.mem_of_getElem? hx
  obtain⟨hNv,hNs⟩:=hall N hNm
  have hkl:=(scP_len hall (k:=k) hk).1
  have hl5:=(Cy hNv hNs).2
  refine ZR <| ZJ (decide ((k:Int)<(S.nds.length:Int))) true Zp <| ZA (Kj 24 (.slice y.1 S.nds.length y.2) k) (.pointer (some (ad.add (k*47)))) (fun w1 hw h=>N9 hA hlt) <| ZA (L5 52 (ad.add (k*47))) (Gv N q) (fun w1 hw h=>Yb fun j v hj=>Lc hw (hc j v hj)) <| ZD 3 (fun w1 hw h=>lines_w (hrd.below hw) (hf N hNm) hNv hK (lns_two hNv hNs)) fun r=>K0.mutOp (L:=bl z.1) (val:=fun(z2:Option Addr×Nat)=> .slice z2.1 ((G9 S k).length+(R6 N).length) z2.2) (Φ':=fun(z2:Option Addr×Nat) u=>K6 u w.heap.size 9 1 z2.1 ((G9 S k).length+(R6 N).length) z2.2 (sv (G9 S k++(R6 N).map Lr))) (G:=fun(z2:Option Addr×Nat) u=>K6 u w.heap.size 9 1 z2.1 ((G9 S k).length+(R6 N).length) z2.2 (sv (G9 S k++(R6 N).map Lr))) (M9 66 66 (.slice z.1 (G9 S k).length z.2) (.slice r.1 (R6 N).length r.2)) (fun w1 hw h=>Xk (m:=(G9 S k).length) h.1 hw.size h.2 Zo) (fun u h=>h.1.blk) (fun _ wa u e1 e2 h hG=>hG) Zk Zk fun z2=>ZR <| K0.slot 26 (Zi (IntKind.i64.wrap ((k:Int)+1))) (Zi ((k+1:Nat):Int)) Zk (by rw[Kd hlt Zo]) <| K0.slot 4 (.slice z2.1 ((G9 S k).length+(R6 N).length) z2.2) (.slice z2.1 (G9 S (k+1)).length z2.2) Zk (by rw[Wk hx,List.length_append,List.length_map]) <| K0.next (⟨(k+1,z2),by show k+1≤S.nds.length;omega⟩) Zk (by show S.nds.length- (k+1)<S.nds.length-k;omega) ⟨Zk,Zk,Zk⟩ (fun u h=>by show K6 u w.heap.size 9 1 z2.1 (G9 S (k+1)).length z2.2 (sv (G9 S (k+1)));rw[Wk hx,List.length_append,List.length_map];exact h)
 obtain rfl:k=S.nds.length:=by omega
 refine ZR <| ZJ (decide ((S.nds.length:Int)<(S.nds.length:Int))) false Zs <| K0.leave Zk <| ZR <| K0.callv (fun w1 hw h=>by have t:=joinLines_m (w:=w1) (A:=z.1) (n:=(G9 S S.nds.length).length) (c:=z.2) (ls:=G9 S S.nds.length) (show K6 w1 w.heap.size 9 1 z.1 (G9 S S.nds.length).length z.2 (sv (G9 S S.nds.length))from h).strs (by rw[Jb];omega) (by rw[Jb];omega);exact t) Zk (fun t=> ?_)
 have eT:R7 (G9 S S.nds.length)=F6 S:=by rw[Jb];rfl
 rw[eT]
 refine ZR ?_
 unfold outV
 by_cases hle:(F6 S).length≤65536
 ·rw[if_pos hle]
  exact ZJ (decide (((F6 S).length:Int)>65536)) false (decide_eq_false Zo) <| ZW (.tuple #[K4 (F6 S),Zi 0])
 ·rw[if_neg hle]
  exact ZJ (decide (((F6 S).length:Int)>65536)) true (decide_eq_true Zo) <| ZW (.tuple #[K4 [],Zi 5])
end
end
end Go.Proofs.YtoeiphicmcndlaaGreatDoor
