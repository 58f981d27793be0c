/-
 A part of the proof.
-/
import Derived.Test.YtpgkbllcnphmbaaGreatDoorBSh
namespace Go.Proofs.YtpgkbllcnphmbaaGreatDoor
set_option maxRecDepth 100000
set_option maxHeartbeats 8000000
set_option linter.unusedVariables false
set_option linter.unusedSimpArgs false
open Go.RowKit
structure ShH(w:World)(S:Sc)(gn c:Nat)(nl:List (Nd×ND))(i:Nat)(N:Nd)(q:ND)(T:Mi)(co:Co):Prop extends FlH w S gn c nl i N q T where
 f1:N.fill=[Q6 co]
 f2:q.fl=[(Q6 co,Fw)]
 sk:N.stroke=[]
def Sv(N:Nd)(T:Mi)(x y:Int):Nat:=mulB (Mc N T x y) (Rc N T x y)
theorem shapeK_lt(N:Nd)(T:Mi)(x y:Int):Sv N T x y≤255:=Ow (Zx ..) (clipK_lt ..)
def Px.fine(d:Px):Prop:=d.clamp=d∧d.ok
section
variable{w u:World}{S:Sc}{gn c i N0 n g:Nat}{nl:List (Nd×ND)}{N:Nd}{q:ND}{T:Mi}{x y:Int}{co:Co}{d e s:Px}{z:Option Addr×Nat}{m:MV}{k:Nat}
theorem ShH.below{w1:World}(k:ShH w S gn c nl i N q T co)(hw:Below w.heap.size w w1):ShH w1 S gn c nl i N q T co:=⟨k.toFlH.below hw,k.f1,k.f2,k.sk⟩
theorem through_m(px:W5 x y)(ht:WtOk S gn c i T w)(hd:Cq w d z)(fd:d.fine)(hm:G9 w x y k m)(hk:k≤255)(hN:N0≤w.heap.size):
 Calls Tryz.prog 195 #[S8 S gn c,Lr (Mn x y z),.int .i64 i,pnV (Q6 co) Fw,Lr m] w (K3 w (fun z:Option Addr×Nat=>Lr (Mn x y z)) fun z u=>Tu N0 ((Mb co).pre.blend d k) z u):=by
 refine K0.enter Tryz.func195 rfl ?_
 refine ZR ?_
 refine ZC (fun w1 hw h=>ht w1 hw) fun r=> ?_
 refine ZI false ?_
 refine ZC (fun w1 hw h=>brush_m (co:=co) (t:=r)) fun b=> ?_
 refine ZI false ?_
 refine ZC (fun w1 hw h=>with_m2 (N0:=w.heap.size) px (hd.below hw) (hm.below hw) h.2 fd.1 fd.2 (Lj co).pre hk hw.size) fun o=> ?_
 refine ZV (Lr (Mn x y o)) (fun w1 hw h=>⟨o,rfl,hw,fun u k1 k2=>Tu.mono (h u k1 k2).2 hN⟩)
theorem node_m(k:ShH w S gn c nl i N q T co)(px:W5 x y)(hd:Cq w d z)(fd:d.fine)(hN:N0≤w.heap.size):
 Calls Tryz.prog 136 #[S8 S gn c,.int .i64 i,Lr (Mn x y z)] w (K3 w (fun z:Option Addr×Nat=>Lr (Mn x y z)) fun z u=>Tu N0 ((Mb co).pre.blend d (Sv N T x y)) z u):=by
 have hl:=(k.s.at_ k.x).2.1
 have hfr:=(k.s.at_ k.x).2.2.fi.row
 have h1:N.fill.length=1:=by rw[k.f1];rfl
 have h2:N.stroke.length=0:=by rw[k.sk];rfl
 rw[k.f2]at hfr
 obtain⟨ad,hA,hc⟩:=hfr.2 0 _ rfl
 refine K0.enter Tryz.func136 rfl ?_
 refine ZR ?_
 refine ZA (Kc 48 (.slice (some ⟨gn,0,none⟩) S.nds.length c) i) (.pointer (some ⟨gn,i*47,none⟩)) (fun w1 hw h=>La hl) ?_
 refine ZA (Kd 47 ⟨gn,i*47,none⟩) (noV N q) (fun w1 hw h=>(k.s.below hw).ld k.x) ?_
 refine K0.condr ((N.kind==2)) true Zk (by rw[k.k];rfl) ?_
 refine ZS 3 ?_
 refine ZT 30 (.int .i64 (N.fill.length:Int)) (.int .i64 1) (by rw[h1];rfl) ?_
 refine K0.un Zk ?_
 refine ZR ?_
 refine ZI true ?_
 refine ZA (Kc 42 (.slice q.fiA N.fill.length q.fic) (0:Nat)) (.pointer (some (ad.add (0*40)))) (fun w1 hw h=>by rw[hA];exact Lg (elem:=41) Zk Zk Zo) ?_
 refine ZA (Kd 41 (ad.add (0*40))) (.agg (pC2 (Q6 co,Fw)).toArray) (fun w1 hw h=>run_ldPn fun j v hj=>Kt hw (hc j v hj)) ?_
 refine ZC (fun w1 hw h=>fmask_m (N0:=w.heap.size) (k.toFlH.below hw) px hw.size) fun m=> ?_
 refine ZC (fun w1 hw h=>through_m (co:=co) (N0:=w.heap.size) px (k.wt.below hw) (hd.below hw) fd h.2.a (shapeK_lt N T x y) hw.size) fun o=> ?_
 refine ZI false ?_
 refine K0.un Zk ?_
 refine ZR ?_
 refine ZJ (decide ((0:Int)<(N.stroke.length:Int))) false (by rw[h2];rfl) ?_
 refine ZV (Lr (Mn x y o)) (fun w1 hw h=>⟨o,rfl,hw,fun u k1 k2=>Tu.mono (h u k1 k2).2 hN⟩)
theorem kids_top(hS:Uu w S gn c nl)(hch:∀w1 N1,Below w.heap.size w w1→N1≤w1.heap.size→Calls Tryz.prog 137 #[S8 S gn c,.int .i64 (-1)] w1 (K3 w1 (fun z:Option Addr×Nat=> .slice z.1 1 z.2) fun z u=>K6 u N1 3 1 z.1 1 z.2 [.int .i64 0]))
 (hnd:∀w1 N1,Below w.heap.size w w1→N1≤w1.heap.size→Calls Tryz.prog 136 #[S8 S gn c,.int .i64 0,Lr (Mn x y z)] w1 (K3 w1 (fun z:Option Addr×Nat=>Lr (Mn x y z)) fun z u=>Tu N1 e z u)) (hN:N0≤w.heap.size):
 Calls Tryz.prog 80 #[S8 S gn c,.int .i64 (-1),Lr (Mn x y z)] w (K3 w (fun z:Option Addr×Nat=>Lr (Mn x y z)) fun z u=>Tu N0 e z u):=by
 refine K0.enter Tryz.func80 rfl ?_
 refine ZR ?_
 refine ZI false ?_
 refine ZC (fun w1 hw h=>hch w1 w.heap.size hw hw.size) fun l=> ?_
 refine K0.pure_ (p:=∃gl,l.1=some ⟨gl,0,none⟩) (fun w1 hw h=>by obtain⟨gl,h1,_⟩:=h.2.cells Zd;exact⟨gl,h1⟩) Zk (fun hl=> ?_)
 obtain⟨gl,hl⟩:=hl
 obtain⟨lA,lc⟩:=l
 obtain rfl:lA=some ⟨gl,0,none⟩:=hl
 refine K0.un Zk ?_
 refine ZR ?_
 refine ZI true ?_
 refine ZA (Kc 43 (.slice (some ⟨gl,0,none⟩) 1 lc) (0:Nat)) (.pointer (some ⟨gl,0*1,none⟩)) (fun w1 hw h=>K9 (elem:=3) Zk Zk Zd) ?_
 refine ZA (Kd 3 ⟨gl,0,none⟩) (.int .i64 0) (fun w1 hw h=>Kg Zk (by obtain⟨_,e1,hc⟩:=h.2.cells Zd;injection e1 with e1;injection e1 with e1;subst e1;exact hc 0 _ rfl)) ?_
 refine ZC (fun w1 hw h=>hnd w1 w.heap.size hw hw.size) fun o=> ?_
 refine ZI false ?_
 refine ZV (Lr (Mn x y o)) (fun w1 hw h=>⟨o,rfl,hw,fun u k1 k2=>Tu.mono (h u k1 k2).2 hN⟩)
theorem kids_sub(hS:Uu w S gn c nl)(hx:nl[0]? =some (N,q))(hko:N.ko=false)(hch:∀w1 N1,Below w.heap.size w w1→N1≤w1.heap.size→Calls Tryz.prog 137 #[S8 S gn c,.int .i64 (0)] w1 (K3 w1 (fun z:Option Addr×Nat=> .slice z.1 1 z.2) fun z u=>K6 u N1 3 1 z.1 1 z.2 [.int .i64 1]))
 (hnd:∀w1 N1,Below w.heap.size w w1→N1≤w1.heap.size→Calls Tryz.prog 136 #[S8 S gn c,.int .i64 1,Lr (Mn x y z)] w1 (K3 w1 (fun z:Option Addr×Nat=>Lr (Mn x y z)) fun z u=>Tu N1 e z u)) (hN:N0≤w.heap.size):
 Calls Tryz.prog 80 #[S8 S gn c,.int .i64 (0),Lr (Mn x y z)] w (K3 w (fun z:Option Addr×Nat=>Lr (Mn x y z)) fun z u=>Tu N0 e z u):=by
 refine K0.enter Tryz.func80 rfl ?_
 refine ZR ?_
 refine ZA (Kc 48 (.slice (some ⟨gn,0,none⟩) S.nds.length c) (0:Nat)) (.pointer (some ⟨gn,0*47,none⟩)) (fun w1 hw h=>La (hS.at_ hx).2.1) ?_
 refine ZA (Kd 4 ⟨gn,0*47+32,none⟩) (.bool false) (fun w1 hw h=>Kg Zk (Kt hw (by have:=hS.cell (j:=32) hx rfl;rw[hko]at this;exact this))) ?_
 refine ZI false ?_
 refine ZC (fun w1 hw h=>hch w1 w.heap.size hw hw.size) fun l=> ?_
 refine K0.pure_ (p:=∃gl,l.1=some ⟨gl,0,none⟩) (fun w1 hw h=>by obtain⟨gl,h1,_⟩:=h.2.cells Zd;exact⟨gl,h1⟩) Zk (fun hl=> ?_)
 obtain⟨gl,hl⟩:=hl
 obtain⟨lA,lc⟩:=l
 obtain rfl:lA=some ⟨gl,0,none⟩:=hl
 refine K0.un Zk ?_
 refine ZR ?_
 refine ZI true ?_
 refine ZA (Kc 43 (.slice (some ⟨gl,0,none⟩) 1 lc) (0:Nat)) (.pointer (some ⟨gl,0*1,none⟩)) (fun w1 hw h=>K9 (elem:=3) Zk Zk Zd) ?_
 refine ZA (Kd 3 ⟨gl,0,none⟩) (.int .i64 1) (fun w1 hw h=>Kg Zk (by obtain⟨_,e1,hc⟩:=h.2.cells Zd;injection e1 with e1;injection e1 with e1;subst e1;exact hc 0 _ rfl)) ?_
 refine ZC (fun w1 hw h=>hnd w1 w.heap.size hw hw.size) fun o=> ?_
 refine ZI false ?_
 refine ZV (Lr (Mn x y o)) (fun w1 hw h=>⟨o,rfl,hw,fun u k1 k2=>Tu.mono (h u k1 k2).2 hN⟩)
theorem group_m(k:ClH w S gn c nl i N q T)(px:W5 x y)(hd:Cq w d z)(fd:d.fine)(fe:e.fine)(h0:N.clip.length=0)(hi:N.iso=true)(hb:N.bl=1)
 (hk:∀w1 z1 N1,Below w.heap.size w w1→Cq w1 ⟨0,0,0,0⟩ z1→N1≤w1.heap.size→Calls Tryz.prog 80 #[S8 S gn c,.int .i64 i,Lr (Mn x y z1)] w1 (K3 w1 (fun z:Option Addr×Nat=>Lr (Mn x y z)) fun z u=>Tu N1 e z u)) (hN:N0≤w.heap.size):
 Calls Tryz.prog 198 #[S8 S gn c,.int .i64 i,Lr (Mn x y z)] w (K3 w (fun z:Option Addr×Nat=>Lr (Mn x y z)) fun z u=>Tu N0 (e.blend d (mulB 255 N.op.toNat)) z u):=by
 have hl:=(k.s.at_ k.x).2.1
 have hop:N.op.toNat≤255:=Nat.le_of_lt_succ N.op.toNat_lt
 have hcl:Rc N T x y=255:=by unfold Rc;rw[if_pos h0]
 refine K0.enter Tryz.func198 rfl ?_
 refine ZR ?_
 refine ZA (Kc 48 (.slice (some ⟨gn,0,none⟩) S.nds.length c) i) (.pointer (some ⟨gn,i*47,none⟩)) (fun w1 hw h=>La hl) ?_
 refine ZA (Kd 47 ⟨gn,i*47,none⟩) (noV N q) (fun w1 hw h=>(k.s.below hw).ld k.x) ?_
 refine ZC (fun w1 hw h=>cnode_m (N0:=w.heap.size) (k.below hw) px hw.size) fun m=> ?_
 refine K0.pure_ (p:=∃zm:Option Addr×Nat,m=Mn x y zm∧1≤zm.2) (fun w1 hw h=>by
  rcases h.2 with ⟨h1,_⟩|⟨zm,h1,h2⟩
  ·rw[hcl]at h1;cases h1
  ·exact⟨zm,h2,K6.cap h1⟩) Zk (fun hm=> ?_)
 obtain⟨zm,rfl,hcap⟩:=hm
 have hrow:∀u,Cn w.heap.size x y (Rc N T x y) (Mn x y zm) u→Kq u zm.1 1 1 Ar [255]:=fun u hh=>by
  rcases hh with ⟨h1,_⟩|⟨z2,h1,h2⟩
  ·rw[hcl]at h1;cases h1
  ·rw[hcl]at h1
   have e1:zm.1=z2.1:=congrArg MV.A h2
   rw[e1];exact(K6.reads h1).rows (cl:=Ar) (l:=[255]) Jw rfl
 refine ZD 3 (fun w1 hw h=>scaleM_m (N:=w.heap.size) (k2:=N.op.toNat) px.r (hrow _ h.2) hcap hop Zd hw.size) fun sc=> ?_
 refine ZT 42 (.bool (!N.iso)) (.bool false) (by rw[hi];rfl) ?_
 refine ZI false ?_
 refine ZC (fun w1 hw h=>bnew_m (p:=⟨0,0,0,0⟩) (N:=w.heap.size) px.r rfl hw.size) fun cl=> ?_
 refine ZC (fun w1 hw h=>hk w1 cl w.heap.size hw h.2.toP hw.size) fun kd=> ?_
 refine K0.slot 68 (.int .i64 N.bl) (.int .i64 1) Zk (by rw[hb]) ?_
 refine ZC (fun w1 hw h=>bover_m (N:=w.heap.size) (z3:=Mn x y sc) px.r h.2.toP (hd.below hw) fe.1 fd.1 (Cn.a (.one sc h.1.1.2 rfl)) fe.2 fd.2 (Ow Zd hop) hw.size) fun bo=> ?_
 refine ZV (Lr (Mn x y bo)) (fun w1 hw h=>⟨bo,rfl,hw,fun u k1 k2=>Tu.mono (h u k1 k2).2 hN⟩)
theorem nodeG_m(hS:Uu w S gn c nl)(hx:nl[i]? =some (N,q))(hk:N.kind=1)
 (hg:∀w1 N1,Below w.heap.size w w1→N1≤w1.heap.size→Calls Tryz.prog 198 #[S8 S gn c,.int .i64 i,Lr (Mn x y z)] w1 (K3 w1 (fun z:Option Addr×Nat=>Lr (Mn x y z)) fun z u=>Tu N1 e z u)) (hN:N0≤w.heap.size):
 Calls Tryz.prog 136 #[S8 S gn c,.int .i64 i,Lr (Mn x y z)] w (K3 w (fun z:Option Addr×Nat=>Lr (Mn x y z)) fun z u=>Tu N0 e z u):=by
 have hl:=(hS.at_ hx).2.1
 refine K0.enter Tryz.func136 rfl ?_
 refine ZR ?_
 refine ZA (Kc 48 (.slice (some ⟨gn,0,none⟩) S.nds.length c) i) (.pointer (some ⟨gn,i*47,none⟩)) (fun w1 hw h=>La hl) ?_
 refine ZA (Kd 47 ⟨gn,i*47,none⟩) (noV N q) (fun w1 hw h=>(hS.below hw).ld hx) ?_
 refine ZJ ((N.kind==2)) false (by rw[hk];rfl) ?_
 refine ZJ ((N.kind==3)) false (by rw[hk];rfl) ?_
 refine ZC (fun w1 hw h=>hg w1 w.heap.size hw hw.size) fun o=> ?_
 refine ZV (Lr (Mn x y o)) (fun w1 hw h=>⟨o,rfl,hw,fun u k1 k2=>Tu.mono (h u k1 k2).2 hN⟩)
end
section
variable{w u:World}{S:Sc}{gn c i N0 n g:Nat}{nl:List (Nd×ND)}{N:Nd}{q:ND}{T:Mi}{x y:Int}{co:Co}{d e s:Px}{z:Option Addr×Nat}{k:Nat}
theorem corners_m(px:W5 x y):Calls Tryz.prog 135 #[Mv x y (x+1) (y+1)] w (K3 w (fun _:Unit=> .bool true) fun _ _=>True):=by
 have hx:=px.x
 have hy:=px.y
 have v0:Lt (x*256) (y*256)=true:=by unfold Lt;simp only[Bool.and_eq_true,decide_eq_true_eq];omega
 have v1:Lt ((x+1)*256) ((y+1)*256)=true:=by unfold Lt;simp only[Bool.and_eq_true,decide_eq_true_eq];omega
 refine K0.enter Tryz.func135 rfl ?_
 refine ZR ?_
 refine K0.slot 9 (pt (IntKind.i64.wrap (x*256)) (IntKind.i64.wrap (y*256))) (pt (x*256) (y*256)) Zk (by rw[IntWalk.i64_in _ Zo,IntWalk.i64_in _ Zo]) ?_
 refine ZC (fun w1 hw h=>Nh (X:=x*256) (Y:=y*256) (B:=true) v0) fun a=> ?_
 refine K0.slot 18 (pt (IntKind.i64.wrap ((x+1)*256)) (IntKind.i64.wrap ((y+1)*256))) (pt ((x+1)*256) ((y+1)*256)) Zk (by rw[IntWalk.i64_in _ Zo,IntWalk.i64_in _ Zo]) ?_
 refine ZC (fun w1 hw h=>Nh (X:=(x+1)*256) (Y:=(y+1)*256) (B:=true) v1) fun b=> ?_
 exact ZW (.bool true)
theorem checkN_m(hS:Uu w S gn c nl):Calls Tryz.prog 134 #[S8 S gn c,.int .i64 (-1),.bool true] w (K3 w (fun _:Unit=> .int .i64 0) fun _ _=>True):=by
 refine K0.enter Tryz.func134 rfl ?_
 refine ZR ?_
 refine ZC (fun w1 hw h=>Dv (hS.below hw)) fun v=> ?_
 refine ZI false ?_
 refine ZI false ?_
 exact ZW (.int .i64 0)
theorem checkA_m(hS:Uu w S gn c nl)(px:W5 x y)(hd:Cq w d z)(cd:d.clamp=d):Calls Tryz.prog 79 #[S8 S gn c,.int .i64 (-1),Lr (Mn x y z),.bool true] w (K3 w (fun _:Unit=> .int .i64 0) fun _ _=>True):=by
 refine K0.enter Tryz.func79 rfl ?_
 refine ZR ?_
 refine ZC (fun w1 hw h=>checkN_m (hS.below hw)) fun v=> ?_
 refine ZI false ?_
 refine ZC (fun w1 hw h=>Vv px.r ((hd.below hw).a cd)) fun b=> ?_
 refine ZI false ?_
 refine ZC (fun w1 hw h=>corners_m px) fun r=> ?_
 refine ZI false ?_
 exact ZW (.int .i64 0)
theorem clone1_m(px:W5 x y)(hd:Cq w d z)(cd:d.clamp=d)(hN:N0≤w.heap.size):Calls Tryz.prog 81 #[Lr (Mn x y z)] w (K3 w (fun z:Option Addr×Nat=>Lr (Mn x y z)) fun z u=>Tu N0 d z u):=by
 refine K0.enter Tryz.func81 rfl ?_
 refine ZR ?_
 refine ZC (fun w1 hw h=>crop_m (N:=w.heap.size) px.r (hd.below hw) cd hw.size) fun o=> ?_
 refine ZV (Lr (Mn x y o)) (fun w1 hw h=>⟨o,rfl,hw,fun u k1 k2=>Tu.mono (h u k1 k2).2 hN⟩)
def Yu(S:Sc)(gn c:Nat)(x y:Int)(d e:Px)(w:World):Prop:=∀w1 z1 N1,Below w.heap.size w w1→Cq w1 d z1→N1≤w1.heap.size→Calls Tryz.prog 80 #[S8 S gn c,.int .i64 (-1),Lr (Mn x y z1)] w1 (K3 w1 (fun z:Option Addr×Nat=>Lr (Mn x y z)) fun z u=>Tu N1 e z u)
theorem Yu.below{w1:World}(h:Yu S gn c x y d e w)(hw:Below w.heap.size w w1):Yu S gn c x y d e w1:=fun w2 z1 N1 hw2=>h w2 z1 N1 (hw.trans (hw2.mono hw.size))
theorem draw_m(hS:Uu w S gn c nl)(px:W5 x y)(hd:Cq w d z)(cd:d.clamp=d)(hk:Yu S gn c x y d e w)(hN:N0≤w.heap.size):
 Calls Tryz.prog 41 #[S8 S gn c,.int .i64 (-1),Lr (Mn x y z)] w (K3 w (fun z:Option Addr×Nat=> .tuple #[Lr (Mn x y z),.int .i64 0]) fun z u=>Tu N0 e z u):=by
 refine K0.enter Tryz.func41 rfl ?_
 refine ZR ?_
 refine ZC (fun w1 hw h=>checkA_m (hS.below hw) px (hd.below hw) cd) fun v=> ?_
 refine ZI false ?_
 refine ZI false ?_
 refine ZC (fun w1 hw h=>clone1_m (N0:=w.heap.size) px (hd.below hw) cd hw.size) fun cl=> ?_
 refine ZC (fun w1 hw h=>hk w1 cl w.heap.size hw h.2.toP hw.size) fun o=> ?_
 refine ZV (.tuple #[Lr (Mn x y o),.int .i64 0]) (fun w1 hw h=>⟨o,rfl,hw,fun u k1 k2=>Tu.mono (h u k1 k2).2 hN⟩)
theorem page_m(hS:Uu w S gn c nl):Calls Tryz.prog 20 #[S8 S gn c] w (K3 w (fun _:Unit=>Mv 0 0 S.w S.h) fun _ _=>True):=by
 refine K0.enter Tryz.func20 rfl ?_
 refine ZR ?_
 refine ZC (fun w1 hw h=>Dv (hS.below hw)) fun v=> ?_
 refine ZI false ?_
 exact ZW (Mv 0 0 S.w S.h)
structure OnP(S:Sc)(x y:Int):Prop where
 x:0≤x∧x<S.w
 y:0≤y∧y<S.h
 w:S.w≤256
 h:S.h≤256
theorem OnP.px(o:OnP S x y):W5 x y:=by
 have:=o.x;have:=o.y;have:=o.w;have:=o.h
 exact⟨by unfold Qk;omega,by omega,by omega⟩
theorem OnP.page(o:OnP S x y):Qk 0 0 S.w S.h:=by
 have:=o.x;have:=o.y;have:=o.w;have:=o.h
 unfold Qk;omega
theorem rect_m(hS:Uu w S gn c nl)(o:OnP S x y)(hk:Yu S gn c x y (Mb S.bg).pre e w)(hN:N0≤w.heap.size):
 Calls Tryz.prog 21 #[S8 S gn c,Mv x y (x+1) (y+1)] w (K3 w (fun z:Option Addr×Nat=> .tuple #[Lr (Mn x y z),.int .i64 0]) fun z u=>Tu N0 e z u):=by
 have px:=o.px
 have ox:=o.x
 have oy:=o.y
 have cp:=Px.pre_clamp (Lj S.bg)
 refine K0.enter Tryz.func21 rfl ?_
 refine ZR ?_
 refine ZC (fun w1 hw h=>Dv (hS.below hw)) fun v=> ?_
 refine ZI false ?_
 refine ZC (fun w1 hw h=>R4 px.r.in_) fun r=> ?_
 refine ZI false ?_
 refine ZC (fun w1 hw h=>page_m (hS.below hw)) fun p=> ?_
 refine ZC (fun w1 hw h=>rinter_t (e:=x) (f:=y) (g:=x+1) (k:=y+1) px.r o.page (by rw[Rh];omega) (by rw[Rh];omega) (by rw[Ri];omega) (by rw[Ri];omega) px.r) fun it=> ?_
 refine ZC (fun w1 hw h=>Nm (c:=Mb S.bg) (Lj S.bg)) fun cl=> ?_
 refine ZC (fun w1 hw h=>bnew_m (p:=(Mb S.bg).pre) (N:=w.heap.size) px.r cp hw.size) fun bn=> ?_
 refine ZI false ?_
 refine ZC (fun w1 hw h=>draw_m (N0:=w.heap.size) (hS.below hw) px h.2.toP cp (hk.below hw) hw.size) fun dr=> ?_
 refine ZV (.tuple #[Lr (Mn x y dr),.int .i64 0]) (fun w1 hw h=>⟨dr,rfl,hw,fun u k1 k2=>Tu.mono (h u k1 k2).2 hN⟩)
theorem pixel_m(hS:Uu w S gn c nl)(o:OnP S x y)(hk:Yu S gn c x y (Mb S.bg).pre e w)(ce:e.clamp=e):
 Calls Tryz.prog 7 #[S8 S gn c,.int .i64 x,.int .i64 y] w (K3 w (fun _:Unit=> .tuple #[Mw e,.int .i64 0]) fun _ _=>True):=by
 have px:=o.px
 have ox:=o.x
 have oy:=o.y
 refine K0.enter Tryz.func7 rfl ?_
 refine ZR ?_
 refine ZC (fun w1 hw h=>Dv (hS.below hw)) fun v=> ?_
 refine ZI false ?_
 refine ZC (fun w1 hw h=>page_m (hS.below hw)) fun p=> ?_
 refine ZC (fun w1 hw h=>rcont_t (x:=x) (y:=y) o.page ox oy) fun ct=> ?_
 refine K0.cond false Zk ?_
 refine ZS 7 ?_
 refine K0.slot 26 (.int .i64 (IntKind.i64.wrap (x+1))) (.int .i64 (x+1)) Zk (by have:=px.x;rw[IntWalk.i64_in _ Zo]) ?_
 refine ZT 28 (.int .i64 (IntKind.i64.wrap (y+1))) (.int .i64 (y+1)) (by have:=px.y;rw[IntWalk.i64_in _ Zo]) ?_
 refine ZC (fun w1 hw h=>rect_m (N0:=w.heap.size) (hS.below hw) o (hk.below hw) hw.size) fun r=> ?_
 refine ZI false ?_
 refine ZC (fun w1 hw h=>bAt_m px.r h.2.toP ce) fun a=> ?_
 exact ZW (.tuple #[Mw e,.int .i64 0])
end
abbrev Cnt(ls:List Sg):={r:Nat // (r≤24→Mj ls≤24)∧r≤1007}
def shR(r:RV):Bool:=decide (r.a.n≤2)&&decide (r.b.n≤2)
def shT(t:TV):Bool:=[t.a,t.b,t.c,t.d,t.e,t.f].all shR
section
variable{w u:World}{A:Option Addr}{n c k:Nat}{ls:List Sg}{t:TV}{B:Bool}{co:Co}{N:Nd}{q:ND}{S:Sc}{gn:Nat}{nl:List (Nd×ND)}
theorem pcsN_snoc{s:Sg}(h:ls[k]? =some s):Mj (ls.take (k+1))=Mj (ls.take k)+G5 s:=by
 unfold Mj;rw[Lb h,List.map_append,List.sum_append];simp
theorem pcsN_le(k:Nat):Mj (ls.take k)≤Mj ls:=by
 have e:Mj ls=Mj (ls.take k)+Mj (ls.drop k):=by
  unfold Mj;rw[←List.sum_append,←List.map_append,List.take_append_drop]
 omega
theorem pcN_le(s:Sg):1≤G5 s∧G5 s≤8:=by unfold G5;split<;>decide
theorem Zq(hs:Sa w A n ls)(hn:n≤9223372036854775807):Calls Tryz.prog 13 #[.slice A n c] w (K3 w (fun r:Cnt ls=> .int .i64 r.1) fun _ _=>True):=by
 have hln:ls.length=n:=hs.1
 refine K0.enter Tryz.func13 rfl ?_
 refine ZR ?_
 refine K0.loop (ι:={k:Nat // k≤n∧Mj (ls.take k)≤1007}) 34 (fun q=>⟨[(0,.v (.slice A n c)),(3,.v (.int .i64 (Mj (ls.take q.1):Int))),(4,.v (.int .i64 (q.1:Int)))],[]⟩) (fun _ _=>True) (fun q=>n-q.1) (⟨0,Nat.zero_le _,by show Mj []≤1007;decide⟩) Zk (fun _=>by kernel_rfl) ⟨Zk,Zk,Zk⟩ (fun _ _=>trivial) ?_
 rintro⟨k,hk,hp⟩ gg
 have hk:k≤n:=hk
 have hp:Mj (ls.take k)≤1007:=hp
 by_cases hlt:k<n
 case neg=>
  obtain rfl:k=n:=by omega
  refine ZS 4 ?_
  refine ZT 8 (.bool (decide ((k:Int)<(k:Int)))) (.bool false) (by rw[decide_eq_false Zo]) ?_
  refine ZI false ?_
  refine K0.leave Zk ?_
  refine ZR ?_
  refine ZV (.int .i64 (Mj (ls.take k):Int)) (fun w1 hw h=>⟨⟨Mj (ls.take k),fun h1=>by rw[List.take_of_length_le Zo]at h1;exact h1,hp⟩,rfl,hw,fun _ _ _=>trivial⟩)
 obtain⟨s,hx⟩:∃s,ls[k]? =some s:=⟨_,List.getElem?_eq_getElem Zo⟩
 obtain⟨ad,hA,hc⟩:=hs.2 k s hx
 have hsn:=pcsN_snoc hx
 have hpl:=pcsN_le (ls:=ls) k
 have hps:=pcN_le s
 refine ZS 4 ?_
 refine ZT 8 (.bool (decide ((k:Int)<(n:Int)))) (.bool true) (by rw[decide_eq_true Zo]) ?_
 by_cases h10:Mj (ls.take k)<1000
 case neg=>
  refine ZJ (decide ((Mj (ls.take k):Int)<1000)) false (decide_eq_false Zo) ?_
  refine K0.leave Zk ?_
  refine ZR ?_
  refine ZV (.int .i64 (Mj (ls.take k):Int)) (fun w1 hw h=>⟨⟨Mj (ls.take k),fun h1=>by omega,hp⟩,rfl,hw,fun _ _ _=>trivial⟩)
 refine ZJ (decide ((Mj (ls.take k):Int)<1000)) true (decide_eq_true Zo) ?_
 refine K0.ask (Kc 29 (.slice A n c) k) (.pointer (some (ad.add (k*7)))) Zk (fun w1 hw h=>E3 hA hlt) ?_
 refine ZS 3 ?_
 refine ZA (Zw 96 (ad.add (k*7)) 0) (.pointer (some ((ad.add (k*7)).add 0))) (fun w1 hw h=>Zc (d:=0) Zk) ?_
 refine K0.ask (Kd 3 ((ad.add (k*7)).add 0)) (.int .i64 s.v) Zk (fun w1 hw h=>Kg Zk (Kt hw (hc 0 _ rfl))) ?_
 refine ZS 6 ?_
 by_cases h3:s.v=3
 ·have hp8:G5 s=8:=by unfold G5;rw[if_pos (.inl h3)]
  refine ZT 20 (.bool (s.v==3)) (.bool true) (by rw[h3];rfl) ?_
  refine ZI true ?_
  refine K0.slot 3 (.int .i64 (IntKind.i64.wrap (IntKind.i64.wrap ((Mj (ls.take k):Int)+7)+1))) (.int .i64 (Mj (ls.take (k+1)):Int)) Zk (by rw[IntWalk.i64_in ((Mj (ls.take k):Int)+7) Zo,IntWalk.i64_in _ Zo,hsn,hp8];congr 1) ?_
  refine K0.slot 4 (.int .i64 (IntKind.i64.wrap ((k:Int)+1))) (.int .i64 ((k+1:Nat):Int)) Zk (by rw[K7 hlt Zo]) ?_
  refine K0.next (⟨k+1,hlt,by show Mj (ls.take (k+1))≤1007;rw[hsn];omega⟩) Zk (by show n- (k+1)<n-k;omega) ⟨Zk,Zk,Zk⟩ (fun _ _=>trivial)
 refine ZT 20 (.bool (s.v==3)) (.bool false) (by rw[beq_eq_false_iff_ne.2 h3]) ?_
 refine K0.ask (Kc 29 (.slice A n c) k) (.pointer (some (ad.add (k*7)))) Zk (fun w1 hw h=>E3 hA hlt) ?_
 refine ZS 10 ?_
 refine ZA (Zw 96 (ad.add (k*7)) 0) (.pointer (some ((ad.add (k*7)).add 0))) (fun w1 hw h=>Zc (d:=0) Zk) ?_
 refine ZA (Kd 3 ((ad.add (k*7)).add 0)) (.int .i64 s.v) (fun w1 hw h=>Kg Zk (Kt hw (hc 0 _ rfl))) ?_
 by_cases h4:s.v=4
 ·have hp8:G5 s=8:=by unfold G5;rw[if_pos (.inr h4)]
  refine ZJ ((s.v==4)) true (by rw[h4];rfl) ?_
  refine K0.slot 3 (.int .i64 (IntKind.i64.wrap (IntKind.i64.wrap ((Mj (ls.take k):Int)+7)+1))) (.int .i64 (Mj (ls.take (k+1)):Int)) Zk (by rw[IntWalk.i64_in ((Mj (ls.take k):Int)+7) Zo,IntWalk.i64_in _ Zo,hsn,hp8];congr 1) ?_
  refine K0.slot 4 (.int .i64 (IntKind.i64.wrap ((k:Int)+1))) (.int .i64 ((k+1:Nat):Int)) Zk (by rw[K7 hlt Zo]) ?_
  refine K0.next (⟨k+1,hlt,by show Mj (ls.take (k+1))≤1007;rw[hsn];omega⟩) Zk (by show n- (k+1)<n-k;omega) ⟨Zk,Zk,Zk⟩ (fun _ _=>trivial)
 ·have hp1:G5 s=1:=by unfold G5;rw[if_neg (by rintro(h|h);exact h3 h;exact h4 h)]
  refine ZJ ((s.v==4)) false (beq_eq_false_iff_ne.2 h4) ?_
  refine K0.slot 3 (.int .i64 (IntKind.i64.wrap ((Mj (ls.take k):Int)+1))) (.int .i64 (Mj (ls.take (k+1)):Int)) Zk (by rw[IntWalk.i64_in _ Zo,hsn,hp1];congr 1) ?_
  refine K0.slot 4 (.int .i64 (IntKind.i64.wrap ((k:Int)+1))) (.int .i64 ((k+1:Nat):Int)) Zk (by rw[K7 hlt Zo]) ?_
  refine K0.next (⟨k+1,hlt,by show Mj (ls.take (k+1))≤1007;rw[hsn];omega⟩) Zk (by show n- (k+1)<n-k;omega) ⟨Zk,Zk,Zk⟩ (fun _ _=>trivial)
def shL(t:TV):List RV:=[t.a,t.b,t.c,t.d,t.e,t.f]
theorem Iq(hB:shT t=B):Calls Tryz.prog 14 #[t.val] w (K3 w (fun _:Unit=> .bool B) fun _ _=>True):=by
 subst hB
 refine K0.enter Tryz.func14 rfl ?_
 refine ZR ?_
 refine K0.make (M5 (97) 6 #[(0,t.a.val),(1,t.b.val),(2,t.c.val),(3,t.d.val),(4,t.e.val),(5,t.f.val)]) (Km 6) (Kv 26 ((shL t).flatMap RV.cl).toArray) Zk (fun w1 hw h=>Ke Zk) (fun g=> ?_)
 refine ZR ?_
 refine K0.loop (ι:={k:Nat // k≤6∧∀r∈(shL t).take k,shR r=true}) 42 (fun k=>⟨[(2,.v (.bool false)),(3,.v (Km 6 g)),(4,.v (.int .i64 k.1))],[]⟩) (fun _ u=>Kv 26 ((shL t).flatMap RV.cl).toArray g u) (fun k=>6-k.1) (⟨0,by decide,fun r hr=>absurd hr Zs⟩) Zk (fun _=>by kernel_rfl) ⟨Zk,Zk,Zk⟩ (fun u h=>h.2) ?_
 rintro⟨k,hk,hI⟩ gg
 have hk:k≤6:=hk
 by_cases hlt:k<6
 case neg=>
  obtain rfl:k=6:=by omega
  refine ZR ?_
  refine ZI false ?_
  refine K0.leave Zk ?_
  refine ZR ?_
  exact ZX (.bool true) (by rw[show shT t=true from List.all_eq_true.2 fun r hr=>hI r (by simpa[shL]using hr)])
 obtain⟨r,hr⟩:∃r,(shL t)[k]? =some r:=⟨_,List.getElem?_eq_getElem (by show k<6;exact hlt)⟩
 refine ZR ?_
 refine ZJ (decide ((k:Int)<6)) true (decide_eq_true Zo) ?_
 refine K0.ask (Kc 97 (Km 6 g) k) (.pointer (some ⟨g,k*4,none⟩)) Zk (fun w1 hw h=>K9 (elem:=26) Zk Zk hlt) ?_
 refine ZS 3 ?_
 refine K0.ask (Zw 26 ⟨g,k*4,none⟩ 0) (.pointer (some ⟨g,k*4,none⟩)) Zk (fun w1 hw h=>R6 (d:=0) Zk) ?_
 refine ZS 4 ?_
 refine ZA (Zw 24 ⟨g,k*4,none⟩ 1) (.pointer (some ⟨g,k*4+1,none⟩)) (fun w1 hw h=>R6 (d:=1) Zk) ?_
 refine K0.ask (Kd 22 ⟨g,k*4+1,none⟩) (.slice r.a.A r.a.n r.a.c) Zk (fun w1 hw h=>Kg Zk (Ed h k r hr 1 _ rfl)) ?_
 refine ZS 8 ?_
 by_cases h1:r.a.n≤2
 case neg=>
  refine ZT 31 (.bool (decide ((2:Int)<r.a.n))) (.bool true) (by rw[decide_eq_true Zo]) ?_
  refine ZI true ?_
  refine K0.leave Zk ?_
  refine ZR ?_
  exact ZX (.bool false) (by rw[show shT t=false from List.all_eq_false.2 ⟨r,List.mem_of_getElem? hr,by simp[shR,h1]⟩])
 refine K0.slot 31 (.bool (decide ((2:Int)<r.a.n))) (.bool false) Zk (by rw[decide_eq_false Zo]) ?_
 refine ZS 11 ?_
 refine K0.ask (Kc 97 (Km 6 g) k) (.pointer (some ⟨g,k*4,none⟩)) Zk (fun w1 hw h=>K9 (elem:=26) Zk Zk hlt) ?_
 refine ZS 12 ?_
 refine K0.ask (Zw 26 ⟨g,k*4,none⟩ 1) (.pointer (some ⟨g,k*4+2,none⟩)) Zk (fun w1 hw h=>R6 (d:=2) Zk) ?_
 refine ZS 13 ?_
 refine ZA (Zw 24 ⟨g,k*4+2,none⟩ 1) (.pointer (some ⟨g,k*4+2+1,none⟩)) (fun w1 hw h=>R6 (d:=1) Zk) ?_
 refine ZA (Kd 22 ⟨g,k*4+2+1,none⟩) (.slice r.b.A r.b.n r.b.c) (fun w1 hw h=>Kg Zk (Ed h k r hr 3 _ rfl)) ?_
 by_cases h2:r.b.n≤2
 case neg=>
  refine ZJ (decide ((2:Int)<r.b.n)) true (decide_eq_true Zo) ?_
  refine K0.leave Zk ?_
  refine ZR ?_
  exact ZX (.bool false) (by rw[show shT t=false from List.all_eq_false.2 ⟨r,List.mem_of_getElem? hr,by simp[shR,h2]⟩])
 refine ZJ (decide ((2:Int)<r.b.n)) false (decide_eq_false Zo) ?_
 refine K0.slot 4 (.int .i64 (IntKind.i64.wrap ((k:Int)+1))) (.int .i64 ((k+1:Nat):Int)) Zk (by rw[IntWalk.i64_in _ Zo];rfl) ?_
 have hn:∀s∈(shL t).take (k+1),shR s=true:=fun s hs=>by
  rw[Lb hr,List.mem_append,List.mem_singleton]at hs
  rcases hs with hs|rfl
  ·exact hI s hs
  ·simp[shR,h1,h2]
 refine K0.next (⟨k+1,by show k+1≤6;omega,hn⟩) Zk (by show 6- (k+1)<6-k;omega) ⟨Zk,Zk,Zk⟩ (fun u h=>h)
theorem spaints0_m(hn:n=0):Calls Tryz.prog 15 #[.slice A n c] w (K3 w (fun _:Unit=> .bool true) fun _ _=>True):=by
 subst hn
 refine K0.enter Tryz.func15 rfl ?_
 refine ZR ?_
 refine K0.un Zk ?_
 refine ZR ?_
 refine ZR ?_
 refine ZI false ?_
 exact ZW (.bool true)
theorem spaints1_m(hr:Kq w A 1 40 pC2 [(Q6 co,Fw)])(hn:n=1):Calls Tryz.prog 15 #[.slice A n c] w (K3 w (fun _:Unit=> .bool true) fun _ _=>True):=by
 subst hn
 obtain⟨ad,hA,hc⟩:=hr.2 0 _ rfl
 have hT:∀(j:Nat) (v:Value),Ay.cl[j]? =some v→w.cell? (((ad.add (0*40)).add 16).add j)=some v:=fun j v hj=>by
  have:=hc (16+j) v (by show(pnC (Q6 co) Fw)[16+j]? =some v;unfold pnC;rw[List.getElem?_append_right Zs];simpa[Fw]using hj)
  rwa [Addr.add_add]
 refine K0.enter Tryz.func15 rfl ?_
 refine ZR ?_
 refine K0.un Zk ?_
 refine ZR ?_
 refine ZR ?_
 refine ZI true ?_
 refine K0.ask (Kc 42 (.slice A 1 c) (0:Nat)) (.pointer (some (ad.add (0*40)))) Zk (fun w1 hw h=>by rw[hA];exact Lg (elem:=41) Zk Zk Zo) ?_
 refine ZS 3 ?_
 refine ZA (Zw 41 (ad.add (0*40)) 9) (.pointer (some ((ad.add (0*40)).add 16))) (fun w1 hw h=>Zc (d:=16) Zk) ?_
 refine ZA (Kd 28 ((ad.add (0*40)).add 16)) (Ay.val) (fun w1 hw h=>N7 (vs:=Ay.cl) Zk Zk fun j v hj=>Kt hw (hT j v hj)) ?_
 refine ZC (fun w1 hw h=>Iq (t:=Ay) (B:=true) rfl) fun b=> ?_
 refine ZI false ?_
 refine ZI false ?_
 exact ZW (.bool true)
theorem sverts_m(h0:N.stroke.length=0):Calls Tryz.prog 16 #[noV N q] w (K3 w (fun _:Unit=> .int .i64 0) fun _ _=>True):=by
 refine K0.enter Tryz.func16 rfl ?_
 refine ZR ?_
 refine ZJ (((N.stroke.length:Int)==0)) true (by rw[h0];rfl) ?_
 exact ZW (.int .i64 0)
abbrev SmB(N:Nd)(q:ND):={b:Bool // b=true→Mj N.clip≤24∧Mj N.path≤24∧shT q.t=true}
theorem small_m{K:Nat}(hr:Cy w (some ⟨gn,0,none⟩) [(N,q)] K S.nds)(hfl:N.fill=[Q6 co])(hql:q.fl=[(Q6 co,Fw)])(hst:N.stroke=[])(him:N.im.px.length=0)(hsw:N.sty.w≤2000)(hsd:N.sty.d=[])(hn1:N.clip.length≤9223372036854775807)(hn2:N.path.length≤9223372036854775807):
 Calls Tryz.prog 4 #[S8 S gn c] w (K3 w (fun b:SmB N q=> .bool b.1) fun _ _=>True):=by
 have hS1:S.nds.length=1:=by rw[←hr.eq];rfl
 have hq:=hr.rd _ (List.mem_singleton.2 rfl)
 have h1:N.fill.length=1:=by rw[hfl];rfl
 have h2:N.stroke.length=0:=by rw[hst];rfl
 have h3:N.sty.d.length=0:=by rw[hsd];rfl
 obtain⟨ad,hA,hc⟩:=hr.row.2 0 _ rfl
 injection hA with hA;subst hA
 have hfr:=hq.fi.row
 rw[hql,h1]at hfr
 refine K0.enter Tryz.func4 rfl ?_
 refine ZR ?_
 refine ZJ (decide ((8:Int)<(S.nds.length:Int))) false (by rw[hS1];rfl) ?_
 refine K0.un Zk ?_
 refine ZR ?_
 refine ZJ (decide ((0:Int)<(S.nds.length:Int))) true (by rw[hS1];rfl) ?_
 refine ZA (Kc 48 (.slice (some ⟨gn,0,none⟩) S.nds.length c) (0:Nat)) (.pointer (some ⟨gn,0*47,none⟩)) (fun w1 hw h=>La Zo) ?_
 refine ZA (Kd 47 ⟨gn,0*47,none⟩) (noV N q) (fun w1 hw h=>Ka (vs:=noC N q) Zk Zk (fun j v hj=>by have:=Kt hw (hc j v hj);rwa [Addr.add_mid,Addr.add_mid]at this)) ?_
 refine ZD 4 (fun w1 hw h=>Zq (c:=q.clc) (hq.cl.below hw) hn1) fun v1=> ?_
 by_cases g1:v1.1≤24
 case neg=>
  refine ZT 26 (.bool (decide ((24:Int)<v1.1))) (.bool true) (by rw[decide_eq_true Zo]) ?_
  refine ZI true ?_
  refine ZV (.bool false) (fun w1 hw h=>⟨⟨false,nofun⟩,rfl,hw,fun _ _ _=>trivial⟩)
 refine ZT 26 (.bool (decide ((24:Int)<v1.1))) (.bool false) (by rw[decide_eq_false Zo]) ?_
 refine ZD 9 (fun w1 hw h=>Zq (c:=q.pac) (hq.pa.below hw) hn2) fun v2=> ?_
 by_cases g2:v2.1≤24
 case neg=>
  refine ZT 31 (.bool (decide ((24:Int)<v2.1))) (.bool true) (by rw[decide_eq_true Zo]) ?_
  refine ZI true ?_
  refine ZV (.bool false) (fun w1 hw h=>⟨⟨false,nofun⟩,rfl,hw,fun _ _ _=>trivial⟩)
 refine K0.slot 31 (.bool (decide ((24:Int)<v2.1))) (.bool false) Zk (by rw[decide_eq_false Zo]) ?_
 refine ZS 16 ?_
 refine K0.slot 38 (.bool (decide ((64:Int)<N.im.px.length))) (.bool false) Zk (by rw[decide_eq_false Zo]) ?_
 refine ZS 22 ?_
 refine ZT 44 (.bool (decide ((2000:Int)<N.sty.w))) (.bool false) (by rw[decide_eq_false Zo]) ?_
 refine ZJ (decide ((0:Int)<N.sty.d.length)) false (by rw[h3];rfl) ?_
 by_cases hT:shT q.t=true
 case neg=>
  refine ZC (fun w1 hw h=>Iq (Bool.eq_false_iff.2 hT)) fun b=> ?_
  refine ZI true ?_
  refine ZV (.bool false) (fun w1 hw h=>⟨⟨false,nofun⟩,rfl,hw,fun _ _ _=>trivial⟩)
 refine ZC (fun w1 hw h=>Iq hT) fun b=> ?_
 refine ZC (fun w1 hw h=>spaints1_m (co:=co) (c:=q.fic) (hfr.below hw) h1) fun p1=> ?_
 refine ZC (fun w1 hw h=>spaints0_m (A:=q.stA) (c:=q.stc) h2) fun p2=> ?_
 refine ZI false ?_
 refine ZC (fun w1 hw h=>Zq (c:=q.clc) (hq.cl.below hw) hn1) fun v3=> ?_
 refine ZC (fun w1 hw h=>Zq (c:=q.pac) (hq.pa.below hw) hn2) fun v4=> ?_
 refine ZC (fun w1 hw h=>sverts_m (N:=N) (q:=q) h2) fun sv=> ?_
 refine K0.condr (decide (IntKind.i64.wrap (0+1)<(S.nds.length:Int))) false Zk (by rw[hS1];decide) ?_
 refine ZS 2 ?_
 by_cases h60:IntKind.i64.wrap (IntKind.i64.wrap (0+(v3.1:Int))+(v4.1:Int))≤60
 case neg=>
  refine ZT 83 (.bool (decide (IntKind.i64.wrap (IntKind.i64.wrap (0+(v3.1:Int))+(v4.1:Int))≤60))) (.bool false) (by rw[decide_eq_false h60]) ?_
  refine ZV (.bool false) (fun w1 hw h=>⟨⟨false,nofun⟩,rfl,hw,fun _ _ _=>trivial⟩)
 refine ZT 83 (.bool (decide (IntKind.i64.wrap (IntKind.i64.wrap (0+(v3.1:Int))+(v4.1:Int))≤60))) (.bool true) (by rw[decide_eq_true h60]) ?_
 refine ZV (.bool true) (fun w1 hw h=>⟨⟨true,fun _=>⟨v1.2.1 g1,v2.2.1 g2,hT⟩⟩,rfl,hw,fun _ _ _=>trivial⟩)
end
section
variable{w u:World}{S:Sc}{gn c K:Nat}{nl:List (Nd×ND)}{N:Nd}{q:ND}{T:Mi}{x y:Int}{co:Co}{t:TV}
theorem fine_pre(c:Co):(Mb c).pre.fine:=⟨Px.pre_clamp (Lj c),(Lj c).pre⟩
theorem blend_cl{s d:Px}{k:Nat}:(s.blend d k).clamp=s.blend d k:=Px.over_clamp _ _
theorem top_m(k:ShH w S gn c [(N,q)] 0 N q T co)(hd:N.dep=0)(o:OnP S x y):
 Calls Tryz.prog 7 #[S8 S gn c,.int .i64 x,.int .i64 y] w (K3 w (fun _:Unit=> .tuple #[Mw ((Mb co).pre.blend (Mb S.bg).pre (Sv N T x y)),.int .i64 0]) fun _ _=>True):=
 have hl:S.nds.length=1:=by rw[←k.s.len];rfl
 pixel_m k.s o (fun w1 z1 N1 hw hz hN=>kids_top (k.s.below hw) (fun w2 N2 hw2 h2=>ch1_m ((k.s.below hw).below hw2) rfl hd hl h2) (fun w2 N2 hw2 h2=>node_m ((k.below hw).below hw2) o.px (hz.below hw2) (fine_pre S.bg) h2) hN) blend_cl
theorem in_one{g:Nat}(h:Kv 144 #[.int .u32 1] g u):In u (some ⟨g,0,none⟩) 1 1 [1]:=⟨O3.one Zo,rfl,Nat.le_refl _,by unfold maxLen;omega,M8 (n:=1) (s:=1) h rfl⟩
def one1(g:Nat):SV:=⟨false,some ⟨g,0,none⟩,1,1,[1]⟩
theorem is_one{g:Nat}(h:Kv 144 #[.int .u32 1] g u):Ss (one1 g) 1 1 u:=⟨in_one h,rfl,Nat.le_refl _⟩
theorem frac1_m:Calls Tryz.prog 73 #[.int .u32 1] w (K3 w RV.val fun r u=>Ox r ((1:Int):Rat) 1 u):=by
 refine K0.enter Tryz.func73 rfl ?_
 refine ZR ?_
 refine K0.make (M5 (22) 1 #[(0,.int .u32 1)]) (Km 1) (Kv 144 #[.int .u32 1]) Zk (fun w1 hw h=>Ke Zk) (fun g1=> ?_)
 refine ZR ?_
 refine ZI true ?_
 refine K0.make (M5 (22) 1 #[(0,.int .u32 1)]) (Km 1) (Kv 144 #[.int .u32 1]) Zk (fun w1 hw h=>Ke Zk) (fun g2=> ?_)
 refine ZR ?_
 refine ZV (RV.val ⟨one1 g2,one1 g1⟩) (fun w1 hw h=>⟨⟨one1 g2,one1 g1⟩,rfl,hw,fun w'' k1 k2=>⟨1,1,is_one ((h w'' k1 k2).2),is_one ((h w'' k1 k2).1.2),by decide⟩⟩)
theorem De:Calls Tryz.prog 73 #[.int .u32 0] w (K3 w RV.val fun r u=>Ox r ((0:Int):Rat) 1 u):=by
 refine K0.enter Tryz.func73 rfl ?_
 refine ZR ?_
 refine K0.make (M5 (22) 1 #[(0,.int .u32 1)]) (Km 1) (Kv 144 #[.int .u32 1]) Zk (fun w1 hw h=>Ke Zk) (fun g1=> ?_)
 refine ZR ?_
 refine ZI false ?_
 refine ZV (RV.val ⟨SV0,one1 g1⟩) (fun w1 hw h=>⟨⟨SV0,one1 g1⟩,rfl,hw,fun w'' k1 k2=>⟨0,1,⟨In.nil_,rfl,Nat.zero_le _⟩,is_one ((h w'' k1 k2).2),by decide⟩⟩)
theorem ident_m:Calls Tryz.prog 35 #[] w (K3 w TV.val fun t u=>S4 t Oi 1 u):=by
 refine K0.enter Tryz.func35 rfl ?_
 refine ZR ?_
 refine ZC (fun w1 hw h=>frac1_m) fun a=> ?_
 refine ZC (fun w1 hw h=>De) fun b=> ?_
 refine ZC (fun w1 hw h=>De) fun c=> ?_
 refine ZC (fun w1 hw h=>frac1_m) fun d=> ?_
 refine ZC (fun w1 hw h=>De) fun e=> ?_
 refine ZC (fun w1 hw h=>De) fun f=> ?_
 refine ZV (TV.val ⟨a,b,c,d,e,f⟩) (fun w1 hw h=>⟨⟨a,b,c,d,e,f⟩,rfl,hw,fun w'' k1 k2=>⟨((h w'' k1 k2).1.1.1.1.1.2),((h w'' k1 k2).1.1.1.1.2),((h w'' k1 k2).1.1.1.2),((h w'' k1 k2).1.1.2),((h w'' k1 k2).1.2),((h w'' k1 k2).2)⟩⟩)
def bxL:List Sg:=[⟨1,256,0,0,0,0,0⟩,⟨2,512,0,0,0,0,0⟩,⟨2,512,256,0,0,0,0⟩,⟨2,256,256,0,0,0,0⟩,⟨5,0,0,0,0,0,0⟩]
theorem box12_m:Calls Tryz.prog 36 #[.int .i64 1,.int .i64 2] w (K3 w (fun g:Nat=> .slice (some ⟨g,0,none⟩) 5 5) fun g u=>Sa u (some ⟨g,0,none⟩) 5 bxL):=by
 refine K0.enter Tryz.func36 rfl ?_
 refine ZR ?_
 refine K0.make (M5 (29) 5 #[(0,(Sg.mk 1 256 0 0 0 0 0).val),(1,(Sg.mk 2 512 0 0 0 0 0).val),(2,(Sg.mk 2 512 256 0 0 0 0).val),(3,(Sg.mk 2 256 256 0 0 0 0).val),(4,(Sg.mk 5 0 0 0 0 0 0).val)]) (Km 5) (Kv 96 (bxL.flatMap Sg.cl).toArray) Zk (fun w1 hw h=>Ke Zk) (fun g=> ?_)
 refine ZR ?_
 refine ZV (.slice (some ⟨g,0,none⟩) 5 5) (fun w1 hw h=>⟨g,rfl,hw,fun w'' k1 k2=>Kq.lit (s:=7) (cl:=Sg.cl) (fun _=>rfl) ((h w'' k1 k2).2)⟩)
def Yx:Co:=(255,255,255,255)
def exG:Nd:=⟨1,1,0,Oi,[],0,128,1,true,false,[],0,[],⟨0,0,0,0,[],0⟩,[],im0,0⟩
def exN:Nd:=⟨2,2,1,Oi,[],0,0,0,false,false,bxL,1,[Q6 Yx],⟨0,0,0,0,[],0⟩,[],im0,0⟩
def exGq(t:TV):ND:=⟨t,none,0,none,0,none,0,[],none,0,none,0,[],none,0⟩
def exNq(t:TV)(gp gf:Nat):ND:=⟨t,none,0,some ⟨gp,0,none⟩,5,some ⟨gf,0,none⟩,1,[(Q6 Yx,Fw)],none,0,none,0,[],none,0⟩
def exS:Sc:=⟨2,1,(0,0,0,255),[exG,exN]⟩
structure ExR where
 t:TV
 s:TV
 gp:Nat
 gf:Nat
 gn:Nat
def exL(r:ExR):List (Nd×ND):=[(exG,exGq r.t),(exN,exNq r.s r.gp r.gf)]
theorem ex_ok:G2 exS=true:=by kernel_rfl
theorem Sa.nil0:Sa u none 0 []:=⟨rfl,fun k x hk=>by cases hk⟩
theorem Xu.nil0:Xu u none [] K []:=⟨rfl,Kq.nil0,fun x hx=>by cases hx⟩
theorem PRd.sol:PRd (Q6 co) Fw K u:=⟨Kq.nil0,Kq.nil0,S4.zero⟩
theorem pC2_len(x:Pn×PM):(pC2 x).length=40:=by simp[pC2,pnC,TV.cl_len]
theorem noC_len(x:Nd×ND):(noC x.1 x.2).length=47:=by simp[noC,TV.cl_len]
theorem Xu.one{g:Nat}(h:Kv 41 ([(Q6 co,Fw)].flatMap pC2).toArray g u):Xu u (some ⟨g,0,none⟩) [(Q6 co,Fw)] K [Q6 co]:=
 ⟨rfl,Kq.lit pC2_len h,fun x hx=>by obtain rfl:=List.mem_singleton.1 hx;exact PRd.sol⟩
theorem example_m:Calls Tryz.prog 18 #[] w (K3 w (fun r:ExR=>S8 exS r.gn 2) fun r u=>Cy u (some ⟨r.gn,0,none⟩) (exL r) 8 exS.nds):=by
 refine K0.enter Tryz.func18 rfl ?_
 refine ZR ?_
 refine ZC (fun w1 hw h=>ident_m) fun t=> ?_
 refine ZC (fun w1 hw h=>ident_m) fun s=> ?_
 refine ZC (fun w1 hw h=>box12_m) fun gp=> ?_
 refine K0.make (M5 (42) 1 #[(0,pnV (Q6 Yx) Fw)]) (Km 1) (Kv 41 ([(Q6 Yx,Fw)].flatMap pC2).toArray) Zk (fun w1 hw h=>Ke Zk) (fun gf=> ?_)
 refine ZR ?_
 refine K0.make (M5 (48) 2 #[(0,noV exG (exGq t)),(1,noV exN (exNq s gp gf))]) (Km 2) (Kv 47 ([(exG,exGq t),(exN,exNq s gp gf)].flatMap fun x=>noC x.1 x.2).toArray) Zk (fun w1 hw h=>Ke Zk) (fun gn=> ?_)
 refine ZR ?_
 have hrd:∀u,((S4 t Oi 1 u∧S4 s Oi 1 u)∧Sa u (some ⟨gp,0,none⟩) 5 bxL)∧Xu u (some ⟨gf,0,none⟩) [(Q6 Yx,Fw)] 8 [Q6 Yx]→∀x∈exL ⟨t,s,gp,gf,gn⟩,NRd x.1 x.2 8 u:=fun u ⟨⟨⟨a,b⟩,d⟩,f⟩ x hx=>by
  rcases List.mem_cons.1 hx with rfl|hx
  ·exact⟨a.mono Zd,.nil0,.nil0,.nil0,Kq.nil0,.nil0,Kq.nil0⟩
  ·obtain rfl:=List.mem_singleton.1 hx
   exact⟨b.mono Zd,.nil0,d,f,Kq.nil0,.nil0,Kq.nil0⟩
 refine ZV (S8 exS gn 2) (fun w1 hw h=>⟨⟨t,s,gp,gf,gn⟩,rfl,hw,fun w'' k1 k2=>⟨rfl,Kq.lit noC_len ((h w'' k1 k2).2),hrd w'' ⟨⟨⟨(h w'' k1 k2).1.1.1.1.2,(h w'' k1 k2).1.1.1.2⟩,(h w'' k1 k2).1.1.2⟩,.one ((h w'' k1 k2).1.2)⟩⟩⟩)
theorem Ai:Oi.ok=true:=by kernel_rfl
theorem ex_cov:Sv exN Oi 1 0=255:=by kernel_rfl
variable{r:ExR}
theorem exT:Oi.comp Oi=Oi:=Zu Oi
theorem exN_h(hS:Uu w exS r.gn 2 (exL r)):ShH w exS r.gn 2 (exL r) 1 exN (exNq r.s r.gp r.gf) Oi Yx where
 s:=hS
 x:=rfl
 wt:=by have:=wt1_m hS (N:=exG) (N1:=exN) rfl rfl rfl rfl Ai Ai (by show(Oi.comp Oi).ok=true;rw[exT];exact Ai);have e:exN.T.comp exG.T=Oi:=exT;rwa [e]at this
 cl:=rfl
 few:=by decide
 ru:= .inl rfl
 k:=rfl
 fl:=by decide
 pa:=by kernel_rfl
 pf:=by decide
 fr:= .inl rfl
 f1:=rfl
 f2:=rfl
 sk:=rfl
theorem exG_h(hS:Uu w exS r.gn 2 (exL r)):ClH w exS r.gn 2 (exL r) 0 exG (exGq r.t) Oi:=⟨hS,rfl,wt0_m hS rfl Ai,rfl,by decide,.inl rfl⟩
theorem exOn:OnP exS 1 0:=⟨by decide,by decide,by decide,by decide⟩
def exE:Px:=(Mb Yx).pre.blend ⟨0,0,0,0⟩ (Sv exN Oi 1 0)
def exP:Px:=⟨128,128,128,255⟩
theorem exE_eq:exE.blend (Mb exS.bg).pre (mulB 255 exG.op.toNat)=exP:=by unfold exE;rw[ex_cov];kernel_rfl
theorem ex_draw(hS:Uu w exS r.gn 2 (exL r)):Yu exS r.gn 2 1 0 (Mb exS.bg).pre exP w:=fun w1 z1 N1 hw hz hN=>by
 have h1:=hS.below hw
 refine kids_top h1 (fun w2 N2 hw2 h2=>ch2_m (h1.below hw2) rfl rfl rfl rfl rfl h2) (fun w2 N2 hw2 h2=>nodeG_m (h1.below hw2) rfl rfl (fun w3 N3 hw3 h3=> ?_) h2) hN
 have h4:=(h1.below hw2).below hw3
 rw[←exE_eq]
 exact group_m (exG_h h4) exOn.px ((hz.below hw2).below hw3) (fine_pre _) ⟨blend_cl,Px.over_ok _ _⟩ rfl rfl rfl (fun w4 z4 N4 hw4 hz4 h5=>kids_sub (h4.below hw4) rfl rfl (fun w5 N5 hw5 h6=>ch2b_m ((h4.below hw4).below hw5) rfl rfl rfl rfl rfl h6) (fun w5 N5 hw5 h6=>node_m (exN_h ((h4.below hw4).below hw5)) exOn.px (hz4.below hw5) ⟨rfl,by decide,by decide,by decide,by decide⟩ h6) h5) h3
theorem W7.sol(h1:N.clip.length≤24)(h2:N.path.length≤24)(h3:N.sty.d=[])(h4:N.im.px=[])(h5:∀P∈N.fill,∃co,P=Q6 co)(h6:N.stroke=[])(h7:N.fill.length≤1):W7 N:=
 have s0:∀P∈N.stroke,P.im.px.length≤20000∧P.stops.length≤1000000:=fun P hP=>absurd hP (by rw[h6];exact List.not_mem_nil)
 have f0:∀P∈N.fill,P.im.px.length≤20000∧P.stops.length≤1000000:=fun P hP=>by
  obtain⟨co,rfl⟩:=h5 P hP
  simp[Q6,im0]
 {cl:=Nat.le_trans h1 Zd,pa:=Nat.le_trans h2 Zd,da:=by simp[h3],px:=by simp[h4],fi:=f0,st:=s0,fn:=Nat.le_trans h7 Zd,sn:=by simp[h6]}
theorem exG_few:W7 exG:= .sol Zd Zd rfl rfl (fun P hP=>absurd hP List.not_mem_nil) rfl Zd
theorem exN_few:W7 exN:= .sol Zd Zd rfl rfl (fun P hP=>⟨Yx,List.mem_singleton.1 hP⟩) rfl Zd
theorem ex_few:NFs exS.nds:=fun N hN=>by
 rcases List.mem_cons.1 hN with h|hN
 ·rw[h];exact exG_few
 ·rw[List.mem_singleton.1 hN];exact exN_few
theorem Pj(hE:ET w):Calls Tryz.prog 6 #[] w (K3 w (fun _:Unit=> .bool true) fun _ _=>True):=by
 refine K0.enter Tryz.func6 rfl ?_
 refine ZR ?_
 refine ZC (fun w1 hw h=>example_m) fun r=> ?_
 refine ZC (fun w1 hw h=>pixel_m ⟨hE.below hw,h.2,ex_few,ex_ok⟩ exOn (ex_draw ⟨hE.below hw,h.2,ex_few,ex_ok⟩) (show exP.clamp=exP from rfl)) fun v=> ?_
 exact ZW (.bool true)
end
end Go.Proofs.YtpgkbllcnphmbaaGreatDoor
