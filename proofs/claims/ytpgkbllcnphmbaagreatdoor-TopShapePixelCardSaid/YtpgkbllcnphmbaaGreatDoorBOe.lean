/-
 A part of the proof.
-/
import Derived.Test.YtpgkbllcnphmbaaGreatDoorBSf
namespace Go.Proofs.YtpgkbllcnphmbaaGreatDoor
set_option maxRecDepth 100000
set_option maxHeartbeats 8000000
set_option linter.unusedVariables false
set_option linter.unusedSimpArgs false
open Go.RowKit
def Tc(a b d:Pt):List Pt×Int:=if (Ph (Ip a b d) [a,b,d]).2=0 then(Qn (Ee a b d (Ph (Ip a b d) [a,b,d]).1) (Ph (Ip a b d) [a,b,d]).1.toNat,0)else([],(Ph (Ip a b d) [a,b,d]).2)
def Qw(a b d e:Pt):List Pt×Int:=if (Ph (cuM a b d e) [a,b,d,e]).2=0 then(Qn (Fg a b d e (Ph (cuM a b d e) [a,b,d,e]).1) (Ph (cuM a b d e) [a,b,d,e]).1.toNat,0)else([],(Ph (cuM a b d e) [a,b,d,e]).2)
section
variable{w W u:World}{a b d e:Pt}{N:Nat}
theorem stepsV_m{m:Int}{fid:FuncId}{gq gn:Nat}:Calls Tryz.prog 148 #[.int .i64 m,.func (.func fid) #[] #[Ku gq,Ku gn]] w (K3 w (fun q:Nat×Nat=> .func (.func 219) #[] #[Ku q.1,Ku q.2]) fun q u=>K8 u q.1 [.int .i64 m]∧K8 u q.2 [.func (.func fid) #[] #[Ku gq,Ku gn]]):=by
 refine K0.enter Tryz.func148 rfl ?_
 refine ZS 0 ?_
 refine K0.make (Ad 3 (.int .i64 m)) (Ku) (fun g u=>Kb u g 3 [.int .i64 m]∧w.heap.size≤g∧g∉[]) Zk (fun w1 hw h=>Q3 (v:= .int .i64 m) hw.size Zs) (fun g1=> ?_)
 refine ZS 1 ?_
 refine K0.make (Ad 244 (.func (.func fid) #[] #[Ku gq,Ku gn])) (Ku) (fun g u=>Kb u g 244 [.func (.func fid) #[] #[Ku gq,Ku gn]]∧w.heap.size≤g∧g∉[]) Zk (fun w1 hw h=>Q3 (v:= .func (.func fid) #[] #[Ku gq,Ku gn]) hw.size Zs) (fun g2=> ?_)
 refine ZR ?_
 refine ZV (.func (.func 219) #[] #[Ku g1,Ku g2]) (fun w1 hw h=>⟨(g1,g2),rfl,hw,fun u k1 k2=>⟨⟨_,(h u k1 k2).1.2.1⟩,⟨_,(h u k1 k2).2.1⟩⟩⟩)
theorem quad_m(hN:N≤w.heap.size):Calls Tryz.prog 90 #[q3V a b d,.int .i64 32] w (K3 w (fun y:Option Addr×Nat=> .tuple #[.slice y.1 (Tc a b d).1.length y.2,.int .i64 (Tc a b d).2]) fun y u=>K6 u N 35 2 y.1 (Tc a b d).1.length y.2 ((Tc a b d).1.flatMap Kf)):=by
 obtain⟨pc,hpc⟩:∃pc,pc=Ph (Ip a b d) [a,b,d]:=⟨_,rfl⟩
 refine K0.enter Tryz.func90 rfl ?_
 refine ZS 0 ?_
 refine K0.make (Ad 164 (q3V a b d)) (Ku) (fun g u=>Kb u g 164 (q3C a b d)∧w.heap.size≤g∧g∉[]) Zk (fun w1 hw h=>Q3 (v:=q3V a b d) hw.size Zs) (fun gq=> ?_)
 refine ZR ?_
 refine ZA (Kd 164 ⟨gq,0,none⟩) (q3V a b d) (fun w1 hw h=>h.2.1.loadN Zk Zk) ?_
 by_cases h0:pc.2=0
 case neg=>
  have hL:Tc a b d=([],pc.2):=by unfold Tc;rw[←hpc,if_neg h0]
  refine ZC (fun w1 hw h=>qseg_m (w:=w1) (a:=a) (b:=b) (d:=d)) fun sg=> ?_
  refine ZJ ((Ph (Ip a b d) [a,b,d]).2 !=0) true (by rw[←hpc];exact bne_iff_ne.2 h0) ?_
  refine ZV (.tuple #[.slice none 0 0,.int .i64 (Ph (Ip a b d) [a,b,d]).2]) (fun w1 hw h=>⟨(none,0),by rw[hL,←hpc];rfl,hw,fun u k1 k2=>by rw[hL];exact K6.nil_⟩)
 have hok:=D8 (need:=Ip a b d) (l:=[a,b,d]) (by rw[←hpc];exact h0)
 have hL:Tc a b d=(Qn (Ee a b d pc.1) pc.1.toNat,0):=by unfold Tc;rw[←hpc,if_pos h0]
 obtain⟨m,hm⟩:∃m:Nat,pc.1=(m:Int):=⟨pc.1.toNat,by rw[hpc];omega⟩
 rw[←hpc,hm]at hok
 rw[hm,Int.toNat_natCast]at hL
 have hs:∀w,Calls Tryz.prog 146 #[q3V a b d,.int .i64 32] w (K3 w (fun _:Unit=> .tuple #[.int .i64 (m:Int),.int .i64 0]) fun _ _=>True):=by
  intro w
  have:=qseg_m (w:=w) (a:=a) (b:=b) (d:=d)
  rw[←hpc,hm,h0]at this;exact this
 refine ZC (fun w1 hw h=>hs w1) fun sg=> ?_
 refine ZI false ?_
 refine K0.expose 6 [.int .i64 (m:Int)] Zk Zk (fun gn hgn=> ?_)
 refine ZR ?_
 refine ZC (fun w1 hw h=>stepsV_m (m:=(m:Int)) (fid:=149) (gq:=gq) (gn:=gn)) fun st=> ?_
 refine ZC (fun w1 hw h=>(all_m (xs:=Qn (Ee a b d m) m) (gn:=st.1) (ga:=st.2) (by rw[Ry];omega) (quad_iter ⟨_,h.1.1.1.2.1⟩ h.1.2 h.2.1 h.2.2 hok.1 ⟨hok.2.1,hok.2.2⟩)).mono fun ee w' k=>k.cast (G':=fun y u=>K6 u w.heap.size 35 2 y.1 (Qn (Ee a b d m) m).length y.2 ((Qn (Ee a b d m) m).flatMap Kf)) fun y u h2=>h2.rebase fun b hb=>Nat.le_trans hw.size (h2.lt b hb).1) fun al=> ?_
 refine ZV (.tuple #[.slice al.1 (Qn (Ee a b d m) m).length al.2,.int .i64 0]) (fun w1 hw h=>⟨al,by rw[hL],hw,fun u k1 k2=>by rw[hL];exact(h u k1 k2).2.rebase fun b hb=>Nat.le_trans hN ((h u k1 k2).2.lt b hb).1⟩)
theorem cubic_m(hN:N≤w.heap.size):Calls Tryz.prog 91 #[q4V a b d e,.int .i64 32] w (K3 w (fun y:Option Addr×Nat=> .tuple #[.slice y.1 (Qw a b d e).1.length y.2,.int .i64 (Qw a b d e).2]) fun y u=>K6 u N 35 2 y.1 (Qw a b d e).1.length y.2 ((Qw a b d e).1.flatMap Kf)):=by
 obtain⟨pc,hpc⟩:∃pc,pc=Ph (cuM a b d e) [a,b,d,e]:=⟨_,rfl⟩
 refine K0.enter Tryz.func91 rfl ?_
 refine ZS 0 ?_
 refine K0.make (Ad 166 (q4V a b d e)) (Ku) (fun g u=>Kb u g 166 (q4C a b d e)∧w.heap.size≤g∧g∉[]) Zk (fun w1 hw h=>Q3 (v:=q4V a b d e) hw.size Zs) (fun gq=> ?_)
 refine ZR ?_
 refine ZA (Kd 166 ⟨gq,0,none⟩) (q4V a b d e) (fun w1 hw h=>h.2.1.loadN Zk Zk) ?_
 by_cases h0:pc.2=0
 case neg=>
  have hL:Qw a b d e=([],pc.2):=by unfold Qw;rw[←hpc,if_neg h0]
  refine ZC (fun w1 hw h=>cseg_m (w:=w1) (a:=a) (b:=b) (d:=d) (e:=e)) fun sg=> ?_
  refine ZJ ((Ph (cuM a b d e) [a,b,d,e]).2 !=0) true (by rw[←hpc];exact bne_iff_ne.2 h0) ?_
  refine ZV (.tuple #[.slice none 0 0,.int .i64 (Ph (cuM a b d e) [a,b,d,e]).2]) (fun w1 hw h=>⟨(none,0),by rw[hL,←hpc];rfl,hw,fun u k1 k2=>by rw[hL];exact K6.nil_⟩)
 have hok:=D8 (need:=cuM a b d e) (l:=[a,b,d,e]) (by rw[←hpc];exact h0)
 have hL:Qw a b d e=(Qn (Fg a b d e pc.1) pc.1.toNat,0):=by unfold Qw;rw[←hpc,if_pos h0]
 obtain⟨m,hm⟩:∃m:Nat,pc.1=(m:Int):=⟨pc.1.toNat,by rw[hpc];omega⟩
 rw[←hpc,hm]at hok
 rw[hm,Int.toNat_natCast]at hL
 have hs:∀w,Calls Tryz.prog 151 #[q4V a b d e,.int .i64 32] w (K3 w (fun _:Unit=> .tuple #[.int .i64 (m:Int),.int .i64 0]) fun _ _=>True):=by
  intro w
  have:=cseg_m (w:=w) (a:=a) (b:=b) (d:=d) (e:=e)
  rw[←hpc,hm,h0]at this;exact this
 refine ZC (fun w1 hw h=>hs w1) fun sg=> ?_
 refine ZI false ?_
 refine K0.expose 6 [.int .i64 (m:Int)] Zk Zk (fun gn hgn=> ?_)
 refine ZR ?_
 refine ZC (fun w1 hw h=>stepsV_m (m:=(m:Int)) (fid:=152) (gq:=gq) (gn:=gn)) fun st=> ?_
 refine ZC (fun w1 hw h=>(all_m (xs:=Qn (Fg a b d e m) m) (gn:=st.1) (ga:=st.2) (by rw[Ry];omega) (cubic_iter ⟨_,h.1.1.1.2.1⟩ h.1.2 h.2.1 h.2.2 hok.1 ⟨hok.2.1,hok.2.2⟩)).mono fun ee w' k=>k.cast (G':=fun y u=>K6 u w.heap.size 35 2 y.1 (Qn (Fg a b d e m) m).length y.2 ((Qn (Fg a b d e m) m).flatMap Kf)) fun y u h2=>h2.rebase fun b hb=>Nat.le_trans hw.size (h2.lt b hb).1) fun al=> ?_
 refine ZV (.tuple #[.slice al.1 (Qn (Fg a b d e m) m).length al.2,.int .i64 0]) (fun w1 hw h=>⟨al,by rw[hL],hw,fun u k1 k2=>by rw[hL];exact(h u k1 k2).2.rebase fun b hb=>Nat.le_trans hN ((h u k1 k2).2.lt b hb).1⟩)
def O9(p:Pt)(s:Sg):List Pt×Int:=if s.v=3 then Tc p (s.ax,s.ay) (s.bx,s.by_)else if s.v=4 then Qw p (s.ax,s.ay) (s.bx,s.by_) (s.cx,s.cy)else([(s.ax,s.ay)],0)
theorem segment_m{p:Pt}{s:Sg}(hN:N≤w.heap.size):Calls Tryz.prog 48 #[Ls p,s.val,.int .i64 32] w (K3 w (fun y:Option Addr×Nat=> .tuple #[.slice y.1 (O9 p s).1.length y.2,.int .i64 (O9 p s).2]) fun y u=>K6 u N 35 2 y.1 (O9 p s).1.length y.2 ((O9 p s).1.flatMap Kf)):=by
 refine K0.enter Tryz.func48 rfl ?_
 refine ZR ?_
 by_cases h3:s.v=3
 ·have hL:O9 p s=Tc p (s.ax,s.ay) (s.bx,s.by_):=by unfold O9;rw[if_pos h3]
  rw[hL]
  refine ZJ (s.v==3) true (by rw[h3];rfl) ?_
  refine ZC (fun w1 hw h=>quad_m (a:=p) (b:=(s.ax,s.ay)) (d:=(s.bx,s.by_)) (N:=w.heap.size) hw.size) fun q=> ?_
  refine ZV (.tuple #[.slice q.1 (Tc p (s.ax,s.ay) (s.bx,s.by_)).1.length q.2,.int .i64 (Tc p (s.ax,s.ay) (s.bx,s.by_)).2]) (fun w1 hw h=>⟨q,rfl,hw,fun u k1 k2=>(h u k1 k2).2.rebase fun b hb=>Nat.le_trans hN ((h u k1 k2).2.lt b hb).1⟩)
 by_cases h4:s.v=4
 ·have hL:O9 p s=Qw p (s.ax,s.ay) (s.bx,s.by_) (s.cx,s.cy):=by unfold O9;rw[if_neg h3,if_pos h4]
  rw[hL]
  refine ZJ (s.v==3) false (by rw[h4];rfl) ?_
  refine ZJ (s.v==4) true (by rw[h4];rfl) ?_
  refine ZC (fun w1 hw h=>cubic_m (a:=p) (b:=(s.ax,s.ay)) (d:=(s.bx,s.by_)) (e:=(s.cx,s.cy)) (N:=w.heap.size) hw.size) fun q=> ?_
  refine ZV (.tuple #[.slice q.1 (Qw p (s.ax,s.ay) (s.bx,s.by_) (s.cx,s.cy)).1.length q.2,.int .i64 (Qw p (s.ax,s.ay) (s.bx,s.by_) (s.cx,s.cy)).2]) (fun w1 hw h=>⟨q,rfl,hw,fun u k1 k2=>(h u k1 k2).2.rebase fun b hb=>Nat.le_trans hN ((h u k1 k2).2.lt b hb).1⟩)
 have hL:O9 p s=([(s.ax,s.ay)],0):=by unfold O9;rw[if_neg h3,if_neg h4]
 rw[hL]
 refine ZJ (s.v==3) false (beq_eq_false_iff_ne.2 h3) ?_
 refine ZJ (s.v==4) false (beq_eq_false_iff_ne.2 h4) ?_
 refine K0.make (M5 108 1 #[(0,pt s.ax s.ay)]) (Km 1) (fun g u=>K6 u w.heap.size 35 2 (some ⟨g,0,none⟩) 1 1 (Kf (s.ax,s.ay))) Zk (fun w1 hw h=>H7 (len:=1) (cells:=(Kf (s.ax,s.ay)).toArray) Zk hw.size (by rfl) Zd) (fun g=> ?_)
 refine ZR ?_
 refine ZV (.tuple #[.slice (some ⟨g,0,none⟩) 1 1,.int .i64 0]) (fun w1 hw h=>⟨(some ⟨g,0,none⟩,1),rfl,hw,fun u k1 k2=>by have h2:=(h u k1 k2).2;exact K6.rebase (by simpa using h2) fun b hb=>Nat.le_trans hN (h2.lt b hb).1⟩)
end
def putL(acc:List Pt):List Pt→List Pt
 | []=>acc
 |x::l=>putL (if acc.getLast? =some x then acc else acc++ [x]) l
theorem putL_app:∀(l acc:List Pt) (x:Pt),putL acc (l++ [x])=if (putL acc l).getLast? =some x then putL acc l else putL acc l++ [x]
 | [],acc,x=>rfl
 |y::l,acc,x=>by rw[List.cons_append,putL,putL,putL_app l]
theorem J2:∀(l acc:List Pt),acc≠[]→putL acc l≠[]
 | [],_,h=>h
 |x::l,acc,h=>by
  rw[putL]
  refine J2 l _ ?_
  split
  ·exact h
  ·simp
theorem V7:∀(l acc:List Pt),(putL acc l).length≤acc.length+l.length
 | [],acc=>Nat.le_refl _
 |x::l,acc=>by
  rw[putL,List.length_cons]
  by_cases h:acc.getLast? =some x
  ·rw[if_pos h];have:=V7 l acc;omega
  ·rw[if_neg h];have:=V7 l (acc++ [x]);rw[List.length_append]at this;simp at this;omega
theorem Kq.hold{α:Type}{w u:World}{A:Option Addr}{n s:Nat}{cl:α→List Value}{l:List α}(h:Kq w A n s cl l)(hb:∀b∈bl A,b<w.heap.size→u.heap[b]? =w.heap[b]?):Kq u A n s cl l:=⟨h.1,fun k x hk=>by
 obtain⟨ad,h3,h4⟩:=h.2 k x hk
 refine⟨ad,h3,fun j v hj=> ?_⟩
 have h5:=h4 j v hj
 obtain⟨_,_,_,hb2⟩:=T4 h5
 rw[On,On]at hb2
 refine(World.cell?_of_block ?_).trans h5
 rw[On,On]
 exact hb _ (by rw[h3];simp[bl]) (Array.getElem?_eq_some_iff.1 hb2).1⟩
theorem Uk.old{W w u:World}{L:List Nat}(h:Uk L W w u)(hW:Below W.heap.size W w)(hu:Below W.heap.size W u):∀b,b<w.heap.size→b∉L→u.heap[b]? =w.heap[b]? :=fun b h1 h2=>by
 rcases Nat.lt_or_ge b W.heap.size with h3|h3
 ·rw[hu.block b h3,hW.block b h3]
 ·exact h.2 b h3 h1 h2
theorem Uk.left{W w wa u:World}{L L2:List Nat}(h:Uk L W w wa)(e1:wa.heap.size=u.heap.size)(e2:∀b,b∉L2→wa.heap[b]? =u.heap[b]?)(hL:∀b∈L2,b∈L∨w.heap.size≤b):Uk L W w u:=
 ⟨by rw[←e1];exact h.1,fun b h1 h2 h3=>(e2 b fun hc=>(hL b hc).elim h3 fun h4=>by omega).symm.trans (h.2 b h1 h2 h3)⟩
def Qm(H0:List LQ)(acc:List Pt)(z:Option Addr×Nat)(cl:Bool):List Value:=(H0++ [((acc,z),cl)]).flatMap Yh
theorem rowQ_set{H0:List LQ}{acc acc':List Pt}{z z':Option Addr×Nat}{cl:Bool}{m:Nat}(hm:acc'.length=m):
 (Qm H0 acc z cl).take (H0.length*2)++ [.slice z'.1 m z'.2]++(Qm H0 acc z cl).drop (H0.length*2+1)=Qm H0 acc' z' cl:=by
 have hl:(H0.flatMap Yh).length=H0.length*2:=Pk (cl:=Yh) (fun _=>rfl) H0
 subst hm
 unfold Qm
 rw[List.flatMap_append,List.flatMap_append,←hl,List.take_left,List.drop_append,List.drop_of_length_le Zo]
 rw[show(H0.flatMap Yh).length+1- (H0.flatMap Yh).length=1 by omega]
 simp[Yh,Cs]
theorem Rt{H0:List LQ}{acc:List Pt}{z:Option Addr×Nat}{cl:Bool}:(Qm H0 acc z cl)[H0.length*2]? =some (.slice z.1 acc.length z.2):=by
 have hl:(H0.flatMap Yh).length=H0.length*2:=Pk (cl:=Yh) (fun _=>rfl) H0
 unfold Qm
 rw[List.flatMap_append,List.getElem?_append_right Zo,hl,Nat.sub_self];rfl
theorem E8{H0:List LQ}{acc:List Pt}{z:Option Addr×Nat}{cl:Bool}:(Qm H0 acc z cl).length=(H0.length+1)*2:=by
 unfold Qm;rw[Pk (cl:=Yh) (k:=2) (fun _=>rfl)];simp
structure W6(W w:World)(L:List Nat)(g n c:Nat)(H0:List LQ)(cl:Bool)(bs:List Nat)(acc:List Pt)(z:Option Addr×Nat)(u:World):Prop where
 k:Uk L W w u
 row:K6 u W.heap.size 114 2 (some ⟨g,0,none⟩) n c (Qm H0 acc z cl)
 pts:K6 u W.heap.size 35 2 z.1 acc.length z.2 (acc.flatMap Kf)
 bk:∀b∈bl z.1,b∈bs∨w.heap.size≤b
section
variable{W w u:World}{g c n m c2:Nat}{H0:List LQ}{cl:Bool}{acc l:List Pt}{z:Option Addr×Nat}{A:Option Addr}
theorem K6.cellR{u:World}{B s n c j:Nat}{e:TypeId}{g:Nat}{xs:List Value}{v:Value}(h:K6 u B e s (some ⟨g,0,none⟩) n c xs)(hv:xs[j]? =some v):u.cell? ⟨g,j,none⟩=some v:=by
 rcases Nat.eq_zero_or_pos n with h0|h0
 ·have:=h.len;rw[h0,Nat.zero_mul]at this;rw[List.length_eq_zero_iff.1 this]at hv;cases hv
 ·obtain⟨g2,h1,h2⟩:=h.cells h0
  injection h1 with h1;injection h1 with h1;subst h1
  exact h2 j v hv
theorem put_out{w1:World}{y:Option Addr×Nat}(h:W6 W w (g::bl z.1) g n c H0 cl (bl z.1) acc y w1)(k2:∀b,b∈g::bl z.1∨(w.heap.size≤b∧b<w1.heap.size)→u.heap[b]? =w1.heap[b]?):
 K6 u W.heap.size 114 2 (some ⟨g,0,none⟩) n c (Qm H0 acc y cl)∧K6 u W.heap.size 35 2 y.1 acc.length y.2 (acc.flatMap Kf)∧∀b∈bl y.1,b∈bl z.1∨w.heap.size≤b:=by
 refine⟨h.row.same fun b hb=>k2 b (.inl ?_),h.pts.same fun b hb=>k2 b ?_,h.bk⟩
 ·simp only[bl,List.mem_singleton]at hb;subst hb;exact List.mem_cons_self ..
 ·rcases h.bk b hb with h1|h1
  ·exact .inl (List.mem_cons_of_mem _ h1)
  ·exact .inr ⟨h1,(h.pts.lt b hb).2⟩
theorem flput_m(hW:Below W.heap.size W w)(hn:n=H0.length+1)(hr:K6 w W.heap.size 114 2 (some ⟨g,0,none⟩) n c (Qm H0 acc z cl))(hp:K6 w W.heap.size 35 2 z.1 acc.length z.2 (acc.flatMap Kf))(hacc:acc≠[])(hl:Kq w A m 2 Kf l)(hA:∀b∈bl A,b∉g::bl z.1)(hb:acc.length+l.length≤100000):
 Calls Tryz.prog 49 #[.pointer (some ⟨g,H0.length*2,none⟩),.slice A m c2] w (Ky w (g::bl z.1) (fun _:Option Addr×Nat=> .tuple #[]) fun z' u=>K6 u W.heap.size 114 2 (some ⟨g,0,none⟩) n c (Qm H0 (putL acc l) z' cl)∧K6 u W.heap.size 35 2 z'.1 (putL acc l).length z'.2 ((putL acc l).flatMap Kf)∧∀b∈bl z'.1,b∈bl z.1∨w.heap.size≤b):=by
 refine K0.enterW Tryz.func49 rfl hW ?_
 refine ZR ?_
 refine K0.loop (ι:={q:Nat×(Option Addr×Nat) // q.1≤m}) 43 (fun q=>⟨[(0,.v (.pointer (some ⟨g,H0.length*2,none⟩))),(7,.v (.slice A m c2)),(8,.v (.int .i64 (m:Int))),(9,.v (.int .i64 (q.1.1:Int)))],[]⟩) (fun q u=>W6 W w (g::bl z.1) g n c H0 cl (bl z.1) (putL acc (l.take q.1.1)) q.1.2 u) (fun q=>m-q.1.1) (⟨(0,z),Nat.zero_le _⟩) Zk (fun _=>by kernel_rfl) ⟨Zk,Zk,Zk⟩ (fun u h=>⟨⟨h.1,fun b h1 h2 _=>h.2 b h1 h2⟩,hr.same fun b hb=>h.2 b (hr.lt b hb).1 (hr.lt b hb).2,hp.same fun b hb=>h.2 b (hp.lt b hb).1 (hp.lt b hb).2,fun b hb=> .inl hb⟩) ?_
 rintro⟨⟨i,y⟩,hi⟩ gg
 have hi:i≤m:=hi
 have hml:l.length=m:=hl.1
 by_cases hlt:i<m
 case neg=>
  obtain rfl:i=m:=by omega
  have hte:l.take i=l:=List.take_of_length_le Zo
  refine ZR ?_
  refine ZJ (decide ((i:Int)<(i:Int))) false (decide_eq_false Zo) ?_
  refine K0.leave Zk ?_
  refine ZR ?_
  have key:∀{v:World},W6 W w (g::bl z.1) g n c H0 cl (bl z.1) (putL acc (l.take i)) y v→W6 W w (g::bl z.1) g n c H0 cl (bl z.1) (putL acc l) y v:=fun h=>by rw[hte]at h;exact h
  refine ZV (.tuple #[]) (fun w1 hw h=>⟨y,rfl,(h w1 (Nat.le_refl _) fun _ _ _=>rfl).k.chg hW hw,fun u k1 k2=>put_out (key (h w1 (Nat.le_refl _) fun _ _ _=>rfl)) k2⟩)
 obtain⟨x,hx⟩:∃x,l[i]? =some x:=⟨_,List.getElem?_eq_getElem Zo⟩
 obtain⟨ad,hAd⟩:∃ad,A=some ad:=by obtain⟨ad,h1,_⟩:=hl.2 i x hx;exact⟨ad,h1⟩
 have hrow:∀{v:World},Below W.heap.size W v→W6 W w (g::bl z.1) g n c H0 cl (bl z.1) (putL acc (l.take i)) y v→Kq v A m 2 Kf l:=fun hv h=>hl.hold fun b hb h1=>h.k.old hW hv b h1 (hA b hb)
 obtain⟨P,hP⟩:∃P,P=putL acc (l.take i):=⟨_,rfl⟩
 have hPn:P≠[]:=hP▸J2 _ _ hacc
 have hPl:P.length≤100000:=by have:=V7 (l.take i) acc;rw[←hP,List.length_take]at this;omega
 have hP1:putL acc (l.take (i+1))=if P.getLast? =some x then P else P++ [x]:=by rw[Lb hx,putL_app,←hP]
 rw[←hP]
 obtain⟨j,hj⟩:∃j,P.length=j+1:=⟨P.length-1,by have:=List.length_pos_iff.2 hPn;omega⟩
 obtain⟨t,ht⟩:∃t,P[j]? =some t:=⟨_,List.getElem?_eq_getElem Zo⟩
 have htl:P.getLast? =some t:=by rw[List.getLast?_eq_getElem?,hj];exact ht
 rw[htl]at hP1
 rw[←hP]at hrow
 refine K0.pure_ (p:=∃gy,y.1=some ⟨gy,0,none⟩) (fun u hu h=>by obtain⟨gy,h1,_⟩:=h.pts.cells (by rw[hj];omega);exact⟨gy,h1⟩) Zk (fun hyg=> ?_)
 obtain⟨gy,hgy⟩:=hyg
 have hpt:∀{v:World},W6 W w (g::bl z.1) g n c H0 cl (bl z.1) P y v→v.rangeAt gy (j*2) (Kf t):=fun h=>by
  have h2:=h.pts;rw[hgy]at h2;exact Lw Td h2 Zo ht
 refine ZR ?_
 refine ZJ (decide ((i:Int)<(m:Int))) true (decide_eq_true Zo) ?_
 refine ZA (Kc 108 (.slice A m c2) i) (.pointer (some (ad.add (i*2)))) (fun w1 hw h=>Pe hAd hlt) ?_
 refine ZA (Kd 35 (ad.add (i*2))) (Ls x) (fun w1 hw h=>R1 ((hrow hw h).at hAd hx)) ?_
 refine K0.ask (Kd 108 ⟨g,H0.length*2,none⟩) (.slice y.1 P.length y.2) Zk (fun w1 hw h=>Kg Zk (h.row.cellR Rt)) ?_
 refine ZS 2 ?_
 refine ZT 19 (.bool ((P.length:Int)==0)) (.bool false) (by rw[beq_eq_false_iff_ne.2 Zo]) ?_
 refine K0.slot 26 (.int .i64 (IntKind.i64.wrap ((P.length:Int)-1))) (.int .i64 (j:Int)) Zk (by rw[IntWalk.i64_in _ Zo,show(P.length:Int)-1=(j:Int) by omega]) ?_
 refine K0.askAt 6 (Kd 108 ⟨g,H0.length*2,none⟩) (.slice y.1 P.length y.2) Zk (fun w1 hw h=>Kg Zk (h.row.cellR Rt)) ?_
 refine ZS 12 ?_
 refine K0.askAt 9 (Kc 108 (.slice y.1 P.length y.2) j) (.pointer (some ⟨gy,j*2,none⟩)) Zk (fun w1 hw h=>by rw[hgy];exact K9 (elem:=35) Zk Zk Zo) ?_
 refine ZS 12 ?_
 refine K0.askAt 10 (Kd 35 ⟨gy,j*2,none⟩) (Ls t) Zk (fun w1 hw h=>Ka (vs:=Kf t) Zk Zk (hpt h)) ?_
 refine ZS 12 ?_
 refine ZB 12 (neP 35 (.tmp 28) (.tmp 29) (Ls t) (Ls x)) (.bool (!(t.1==x.1&&t.2==x.2))) (fun w1 hw h=>D4) ?_
 by_cases he:t=x
 ·subst he
  refine ZJ (!(t.1==t.1&&t.2==t.2)) false Zs ?_
  refine K0.slot 9 (.int .i64 (IntKind.i64.wrap ((i:Int)+1))) (.int .i64 ((i+1:Nat):Int)) Zk (by rw[K7 hlt Zo]) ?_
  refine K0.next (⟨(i+1,y),hlt⟩) Zk (by show m- (i+1)<m-i;omega) ⟨Zk,Zk,Zk⟩ (fun u h=>by show W6 W w (g::bl z.1) g n c H0 cl (bl z.1) (putL acc (l.take (i+1))) y u;rw[hP1,if_pos rfl];exact h)
 have hne:(!(t.1==x.1&&t.2==x.2))=true:=by rw[eqPt,decide_eq_false he];rfl
 rw[if_neg (fun hc=>he (by injection hc))]at hP1
 refine K0.condr (!(t.1==x.1&&t.2==x.2)) true Zk (hne) ?_
 refine ZS 7 ?_
 refine K0.askAt 4 (Kd 108 ⟨g,H0.length*2,none⟩) (.slice y.1 P.length y.2) Zk (fun w1 hw h=>Kg Zk (h.row.cellR Rt)) ?_
 refine ZS 7 ?_
 refine K0.make (M5 (108) 1 #[(0,Ls x)]) (Km 1) (Kv 35 (Kf x).toArray) Zk (fun w1 hw h=>Ke Zk) (fun gb=> ?_)
 refine ZS 7 ?_
 refine K0.mutAnyB (L:=bl y.1) (val:=fun z':Option Addr×Nat=> .slice z'.1 (P.length+1) z'.2) (Φ':=fun z' u=>Uk (g::bl z.1) W w u∧K6 u W.heap.size 114 2 (some ⟨g,0,none⟩) n c (Qm H0 P y cl)∧K6 u W.heap.size 35 2 z'.1 (P.length+1) z'.2 ((P++ [x]).flatMap Kf)∧∀b∈bl z'.1,b∈bl z.1∨w.heap.size≤b) (G:=fun z' v=>K6 v W.heap.size 35 2 z'.1 (P.length+1) z'.2 ((P++ [x]).flatMap Kf)∧∀b∈bl z'.1,b∈bl y.1∨w.heap.size≤b) (Nc 108 108 (.slice y.1 P.length y.2) (Km 1 gb)) (fun w1 hw h=>app_fr h.1.pts hw.size h.1.k.1 h.2 Zo) (fun u h=>h.1.pts.blk) (fun z' wa u e1 e2 h hG=>⟨h.1.k.left e1 e2 (fun b hb=>(h.1.bk b hb).imp (List.mem_cons_of_mem _) id),h.1.row.left e2 (fun b hb=>Oq h.1.row h.1.pts Zd b hb),hG.1,fun b hb=>(hG.2 b hb).elim (h.1.bk b) .inr⟩) Zk Zk (fun z'=> ?_)
 refine ZR ?_
 refine K0.mutStB (L:=[g]) (G:=fun u=>K6 u W.heap.size 114 2 (some ⟨g,0,none⟩) n c (Qm H0 (P++ [x]) z' cl)) (Φ':=fun u=>W6 W w (g::bl z.1) g n c H0 cl (bl z.1) (P++ [x]) z' u) (Rm 108 ⟨g,H0.length*2,none⟩ (.slice z'.1 (P.length+1) z'.2)) (fun w1 hw h=>by
  have h3:=h.2.1.storeN (P:=Tryz.prog) (t:=108) (v:= .slice z'.1 (P.length+1) z'.2) (j:=H0.length*2) Zk (by rw[E8];show H0.length*2+1≤_;omega) (fun v hv=>by have hv:v∈[Value.slice z'.1 (P.length+1) z'.2]:=hv;have hv:=List.mem_singleton.1 hv;subst hv;rfl)
  rw[←rowQ_set (acc:=P) (z:=y) (acc':=P++ [x]) (z':=z') (m:=P.length+1) Zs];exact h3) (fun u h b hb=>by have hb:=List.mem_singleton.1 hb;subst hb;exact⟨(h.2.1.lt b (by simp[bl])).1,(h.2.1.blk b (by simp[bl])).2⟩) (fun wa u e1 e2 h hG=>⟨h.1.left e1 e2 (fun b hb=> .inl (by have hb:=List.mem_singleton.1 hb;subst hb;exact List.mem_cons_self ..)),hG,by rw[List.length_append];exact h.2.2.1.left e2 (fun b hb hc=>Oq h.2.2.1 h.2.1 Zd b hb (by simpa[bl]using hc)),h.2.2.2⟩) Zk Zk ?_
 refine ZR ?_
 refine K0.slot 9 (.int .i64 (IntKind.i64.wrap ((i:Int)+1))) (.int .i64 ((i+1:Nat):Int)) Zk (by rw[K7 hlt Zo]) ?_
 refine K0.next (⟨(i+1,z'),hlt⟩) Zk (by show m- (i+1)<m-i;omega) ⟨Zk,Zk,Zk⟩ (fun u h=>by show W6 W w (g::bl z.1) g n c H0 cl (bl z.1) (putL acc (l.take (i+1))) z' u;rw[hP1];exact h)
end
def clP(P:List Pt):List Pt:=if 1<P.length∧P.getLast? =P.head? then P.dropLast else P
def Ov:List (List Pt×Bool)→List Sg→List (List Pt×Bool)×Int
 |L,[]=>(L,0)
 | L,s::t=>if s.v=1 then Ov (L++ [([(s.ax,s.ay)],false)]) t else
  match L.getLast? with
  |none=>([],-1)
  |some x=>if s.v=5 then Ov (L.dropLast++ [(clP x.1,true)]) t else
   if (O9 (x.1.getLast?.getD (0,0)) s).2=0 then Ov (L.dropLast++ [(putL x.1 (O9 (x.1.getLast?.getD (0,0)) s).1,x.2)]) t else([],(O9 (x.1.getLast?.getD (0,0)) s).2)
def Mr(L:List (List Pt×Bool)):Nat:=(L.map fun x=>x.1.length).sum
def Pi(ls:List Sg):List (List Pt×Bool)×Int:=if (Ov [] ls).2=0 then(if 4096<Mr (Ov [] ls).1 then([],5)else Ov [] ls)else([],(Ov [] ls).2)
abbrev S9(H:List LQ):List (List Pt×Bool):=H.map fun x=>(x.1.1,x.2)
structure O2(B:Nat)(y:Option Addr×Nat)(n:Nat)(H:List LQ)(u:World):Prop where
 own:K6 u B 114 2 y.1 n y.2 (H.flatMap Yh)
 ring:∀x∈H,K6 u B 35 2 x.1.2.1 x.1.1.length x.1.2.2 (x.1.1.flatMap Kf)
 apt:H.Pairwise fun a b=>∀x∈bl a.1.2.1,x∉bl b.1.2.1
section
variable{W w u wa:World}{B n m g c N k M:Nat}{y z z':Option Addr×Nat}{H H0:List LQ}{P P':List Pt}{cl cl':Bool}{A:Option Addr}{ls:List Sg}
theorem O2.nil_:O2 B (none,0) 0 [] u:=⟨K6.nil_,(by intro x hx;cases hx),.nil⟩
theorem O2.mono(h:O2 B y n H u)(hN:N≤B):O2 N y n H u:=
 ⟨h.own.rebase fun b hb=>Nat.le_trans hN (h.own.lt b hb).1,fun x hx=>(h.ring x hx).rebase fun b hb=>Nat.le_trans hN ((h.ring x hx).lt b hb).1,h.apt⟩
theorem O2.lin(h:O2 B y n H u)(hn:H.length=n):LinA u y.1 n H:=
 ⟨h.own.reads.rows (cl:=Yh) (fun _=>rfl) hn,fun x hx=>(h.ring x hx).reads.rows (cl:=Kf) (fun _=>rfl) rfl⟩
theorem O2.last(h:O2 B (some ⟨g,0,none⟩,c) n (H0++ [((P,z),cl)]) wa)(e1:wa.heap.size=u.heap.size)(e2:∀b,b∉g::bl z.1→wa.heap[b]? =u.heap[b]?)
 (hr:K6 u B 114 2 (some ⟨g,0,none⟩) n c (Qm H0 P' z' cl')) (hp:K6 u B 35 2 z'.1 P'.length z'.2 (P'.flatMap Kf)) (hk:∀x∈H0,∀b∈bl x.1.2.1,b∉bl z'.1):O2 B (some ⟨g,0,none⟩,c) n (H0++ [((P',z'),cl')]) u:=by
 obtain⟨p1,_,p3⟩:=List.pairwise_append.1 h.apt
 have hz:∀x∈H0,∀b∈bl x.1.2.1,b∉bl z.1:=fun x hx=>p3 x hx _ (List.mem_singleton.2 rfl)
 refine⟨hr,fun x hx=> ?_,List.pairwise_append.2 ⟨p1,List.pairwise_singleton ..,fun x hx q hq b hb hc=> ?_⟩⟩
 ·rcases List.mem_append.1 hx with h1|h1
  ·have hrx:=h.ring x (List.mem_append.2 (.inl h1))
   refine hrx.left e2 fun b hb hc=> ?_
   rcases List.mem_cons.1 hc with h2|h2
   ·exact Oq hrx h.own Zd b hb (by simpa[bl]using h2)
   ·exact hz x h1 b hb h2
  ·obtain rfl:x=((P',z'),cl'):=by simpa using h1
   exact hp
 ·obtain rfl:q=((P',z'),cl'):=by simpa using hq
  exact hk x hx b hb hc
theorem O2.add{q:LQ}(h:O2 B y n H wa)(hq:K6 wa B 35 2 q.1.2.1 q.1.1.length q.1.2.2 (q.1.1.flatMap Kf))(hf:∀x∈H,∀b∈bl x.1.2.1,b∉bl q.1.2.1)(e2:∀b,b∉bl y.1→wa.heap[b]? =u.heap[b]?)(hG:K6 u B 114 2 z.1 (n+1) z.2 ((H++ [q]).flatMap Yh)):O2 B z (n+1) (H++ [q]) u:=by
 refine⟨hG,fun x hx=> ?_,List.pairwise_append.2 ⟨h.apt,List.pairwise_singleton ..,fun x hx a ha b hb hc=> ?_⟩⟩
 ·rcases List.mem_append.1 hx with h4|h4
  ·exact(h.ring x h4).left e2 fun b hb=>Oq (h.ring x h4) h.own Zd b hb
  ·obtain rfl:x=q:=by simpa using h4
   exact hq.left e2 fun b hb=>Oq hq h.own Zd b hb
 ·obtain rfl:a=q:=by simpa using ha
  exact hf x hx b hb hc
theorem app_lq{q:LQ}{gb:Nat}(hp:O2 B y n H u)(hB:B≤u.heap.size)(hg:Kv 114 (Yh q).toArray gb u)(hn:n≤10000000):
 Nf Tryz.prog u (bl y.1) (fun z:Option Addr×Nat=> .slice z.1 (n+1) z.2) (fun z v=>K6 v B 114 2 z.1 (n+1) z.2 ((H++ [q]).flatMap Yh)) (Nc 83 83 (.slice y.1 n y.2) (Km 1 gb)):=by
 have ha:=M9 (P:=Tryz.prog) (s:=2) (z:= .agg #[.slice none 0 0,.bool false]) (bytes:=32) (m:=1) (cc:=1) (t:=83) (elem:=114) Zk Zk rfl Zd hp.own hB (M8 (n:=1) hg rfl) (by intro v hv;simp[Yh]at hv;rcases hv with rfl|rfl<;>rfl) Zo Zd
 have e:(H++ [q]).flatMap Yh=H.flatMap Yh++(Yh q).toArray.toList:=by simp
 rw[e];exact ha
structure PathI(ls:List Sg)(k:Nat)(H:List LQ):Prop where
 le:k≤ls.length
 v:Ov (S9 H) (ls.drop k)=Ov [] ls
 len:Mr (S9 H)≤65*k
 ne:∀x∈H,x.1.1≠[]
 k0:H=[]→k=0
 hk:H.length≤k
abbrev mvQ(s:Sg)(gp:Nat):LQ:=(([(s.ax,s.ay)],(some ⟨gp,0,none⟩,1)),false)
theorem chk_first{s:Sg}(h:(Ff ls).1=0)(h0:ls[0]? =some s):s.v=1:=by
 have h2:=Xp h
 unfold Ff at h
 rw[if_neg Zo]at h
 obtain _|⟨x,t⟩:=ls
 ·cases h0
 obtain rfl:x=s:=by simpa using h0
 by_cases h1:T3 5 x=0
 ·unfold T3 at h1
  split at h1
  ·cases h1
  ·split at h1
   ·cases h1
   ·rename_i h3
    have h4:Su 5 x.v=true:=by simpa using h3
    unfold Su at h4
    simp at h4
    exact h4
 ·rw[Tp h1]at h;exact absurd h h1
theorem make_pts{w:World}{N:Nat}{H:List LQ}{x y:Int}(hN:N≤w.heap.size)(hH:∀q∈H,∀b∈bl q.1.2.1,b<w.heap.size):Lp Tryz.prog w (Km 1) (fun g u=>Kv 35 #[.int .i64 x,.int .i64 y] g u∧(∀q∈H,∀b∈bl q.1.2.1,b<g)∧N≤g) (M5 108 1 #[(0,pt x y)]):=
 Bd Zk (fun g hg=>⟨fun q hq b hb=>Nat.lt_of_lt_of_le (hH q hq b hb) hg,Nat.le_trans hN hg⟩)
theorem segL_len(p:Pt)(s:Sg):(O9 p s).1.length≤64:=by
 unfold O9
 split
 ·unfold Tc
  split
  ·rename_i h;have:=D8 h;dsimp only;rw[Ry];omega
  ·exact Nat.zero_le _
 ·split
  ·unfold Qw
   split
   ·rename_i h;have:=D8 h;dsimp only;rw[Ry];omega
   ·exact Nat.zero_le _
  ·show 1≤64;decide
theorem rowQ_setB:(Qm H0 P z cl).take (H0.length*2+1)++ [.bool true]++(Qm H0 P z cl).drop (H0.length*2+1+1)=Qm H0 P z true:=by
 have hl:(H0.flatMap Yh).length=H0.length*2:=Pk (cl:=Yh) (fun _=>rfl) H0
 unfold Qm
 rw[List.flatMap_append,List.flatMap_append,←hl,List.take_append,List.take_of_length_le Zo,List.drop_append,List.drop_of_length_le Zo]
 rw[show(H0.flatMap Yh).length+1- (H0.flatMap Yh).length=1 by omega,show(H0.flatMap Yh).length+1+1- (H0.flatMap Yh).length=2 by omega]
 simp[Yh,Cs]
theorem K6.cut{u:World}{B s n c i gz:Nat}{e:TypeId}{xs:List Value}(h:K6 u B e s (some ⟨gz,0,none⟩) n c xs)(hi:i≤n):K6 u B e s (some ⟨gz,0,none⟩) i c (xs.take (i*s)):=by
 obtain⟨hl,hx⟩:=h
 have hle:i*s≤n*s:=Nat.mul_le_mul_right _ hi
 refine⟨by rw[List.length_take,hl];omega,?_⟩
 rcases hx with ⟨h2,_⟩|⟨g',cap,cur,h2,hB,hh,hc,hm,hs,ht⟩
 ·cases h2
 injection h2 with h2 _ h3
 injection h2 with h2
 injection h2 with h2 _ _
 subst h2;subst h3
 exact .inr ⟨gz,c,cur,rfl,hB,hh,Nat.le_trans hi hc,hm,hs,by rw[←ht,List.take_take,Nat.min_eq_left hle]⟩
theorem Ex:∀(l:List Pt) (j:Nat),(l.take j).flatMap Kf=(l.flatMap Kf).take (j*2)
 | [],j=>by simp
 |x::l,0=>by simp
 |x::l,j+1=>by
  rw[List.take_succ_cons,List.flatMap_cons,List.flatMap_cons,Ex l j,show(j+1)*2=j*2+1+1 by omega]
  rfl
theorem patV(y:Option Addr×Nat)(L:List LQ){e e':Int}(h:e'=e):Ending.returned (Value.tuple #[.slice y.1 L.length y.2,.int .i64 e])= .returned (.tuple #[.slice y.1 L.length y.2,.int .i64 e']):=by rw[h]
theorem path_m(hs:Sa w A n ls)(hv:(Ff ls).1=0)(hN:N≤w.heap.size):
 Calls Tryz.prog 25 #[.slice A n c,.int .i64 32] w (K3 w (fun q:(Option Addr×Nat)×{H:List LQ // S9 H=(Pi ls).1}=> .tuple #[.slice q.1.1 q.2.1.length q.1.2,.int .i64 (Pi ls).2]) fun q u=>O2 N q.1 q.2.1.length q.2.1 u):=by
 have hln:=Xp hv
 have hnl:ls.length=n:=hs.1
 refine K0.enter Tryz.func25 rfl ?_
 refine ZR ?_
 refine ZC (fun w1 hw h=>Yz (c:=c) (hs.below hw) Zo (B:=true) (by rw[hv];rfl)) fun v0=> ?_
 refine ZI false ?_
 refine ZI false ?_
 refine K0.loop (ι:={q:(Nat×List LQ)×(Option Addr×Nat) // PathI ls q.1.1 q.1.2}) 128 (fun q=>⟨[(1,.v (.int .i64 32)),(6,.v (.slice q.1.2.1 q.1.1.2.length q.1.2.2)),(27,.v (.slice A n c)),(28,.v (.int .i64 (n:Int))),(29,.v (.int .i64 (q.1.1.1:Int)))],[]⟩) (fun q u=>O2 w.heap.size q.1.2 q.1.1.2.length q.1.1.2 u) (fun q=>n-q.1.1.1) (⟨((0,[]),(none,0)),Nat.zero_le _,rfl,Nat.zero_le _,(by intro x hx;cases hx),fun _=>rfl,Nat.le_refl _⟩) Zk (fun _=>by kernel_rfl) ⟨Zk,Zk,Zk⟩ (fun u h=>O2.nil_) ?_
 rintro⟨⟨⟨k,H⟩,y⟩,hI⟩ gg
 have hI:PathI ls k H:=hI
 by_cases hlt:k<n
 case neg=>
  refine ZR ?_
  refine ZJ (decide ((k:Int)<(n:Int))) false (decide_eq_false Zo) ?_
  refine K0.leave Zk ?_
  refine ZR ?_
  have hkn:k=ls.length:=by have:=hI.le;omega
  have hv0:Ov [] ls=(S9 H,0):=by have:=hI.v;rw[hkn,List.drop_length]at this;exact this.symm
  have hS:Mr (S9 H)≤16640:=by have:=hI.len;omega
  have hHk:=hI.hk
  refine K0.loop (ι:={i:Nat // i≤H.length}) 128 (fun i=>⟨[(6,.v (.slice y.1 H.length y.2)),(13,.v (.int .i64 (Mr (S9 (H.take i.1)):Int))),(113,.v (.slice y.1 H.length y.2)),(114,.v (.int .i64 (H.length:Int))),(115,.v (.int .i64 (i.1:Int)))],[]⟩) (fun i u=>O2 w.heap.size y H.length H u) (fun i=>H.length-i.1) (⟨0,Nat.zero_le _⟩) Zk (fun _=>by kernel_rfl) ⟨Zk,Zk,Zk⟩ (fun u h=>h) ?_
  rintro⟨i,hi⟩ gg2
  have hi:i≤H.length:=hi
  by_cases hli:i<H.length
  case neg=>
   obtain rfl:i=H.length:=by omega
   have hte:H.take H.length=H:=List.take_length
   refine ZR ?_
   refine ZJ (decide ((H.length:Int)<(H.length:Int))) false (decide_eq_false Zo) ?_
   refine K0.leave Zk ?_
   refine ZR ?_
   by_cases hbig:4096<Mr (S9 H)
   ·have hR:Pi ls=([],5):=by unfold Pi;rw[hv0,if_pos rfl,if_pos hbig]
    refine ZJ (decide ((Mr (S9 (H.take H.length)):Int)>4096)) true (by rw[hte];exact decide_eq_true Zo) ?_
    refine ZV (.tuple #[.slice none 0 0,.int .i64 5]) (fun w1 hw h=>⟨((none,0),⟨[],by rw[hR];rfl⟩),patV (none,0) [] (by rw[hR]),hw,fun u k1 k2=>O2.nil_⟩)
   have hR:Pi ls=(S9 H,0):=by unfold Pi;rw[hv0,if_pos rfl,if_neg hbig]
   refine ZJ (decide ((Mr (S9 (H.take H.length)):Int)>4096)) false (by rw[hte];exact decide_eq_false Zo) ?_
   refine ZV (.tuple #[.slice y.1 H.length y.2,.int .i64 0]) (fun w1 hw h=>⟨(y,⟨H,by rw[hR]⟩),patV y H (by rw[hR]),hw,fun u k1 k2=>O2.mono (h u k1 k2) hN⟩)
  obtain⟨x,hx⟩:∃x,H[i]? =some x:=⟨_,List.getElem?_eq_getElem hli⟩
  refine K0.pure_ (p:=∃ad,y.1=some ad) (fun u hu h=>by obtain⟨_,ad,_,h2,_⟩:=LinA.at (O2.lin h rfl) hli;exact⟨ad,h2⟩) Zk (fun hp=> ?_)
  obtain⟨ad,hA⟩:=hp
  have hsl:Mr (S9 (H.take (i+1)))=Mr (S9 (H.take i))+x.1.1.length:=by unfold Mr S9;rw[Lb hx];simp
  have hsm:Mr (S9 (H.take (i+1)))≤Mr (S9 H):=by
   have e:H=H.take (i+1)++H.drop (i+1):=(List.take_append_drop ..).symm
   have e2:Mr (S9 H)=Mr (S9 (H.take (i+1)))+Mr (S9 (H.drop (i+1))):=by
    unfold Mr S9;rw[←List.sum_append,←List.map_append,←List.map_append,List.take_append_drop]
   omega
  refine ZR ?_
  refine ZJ (decide ((i:Int)<(H.length:Int))) true (decide_eq_true Zo) ?_
  refine ZA (Kc 83 (.slice y.1 H.length y.2) i) (.pointer (some (ad.add (i*2)))) (fun w1 hw h=>by rw[hA];exact Lg (elem:=114) Zk Zk hli) ?_
  refine ZA (Kd 114 (ad.add (i*2))) (lqV x) (fun w1 hw h=>N7 (vs:=Yh x) Zk Zk ((O2.lin h rfl).row.at hA hx)) ?_
  refine K0.slot 13 (.int .i64 (IntKind.i64.wrap ((Mr (S9 (H.take i)):Int)+(x.1.1.length:Int)))) (.int .i64 (Mr (S9 (H.take (i+1))):Int)) Zk (by rw[Rq Zo Zo,hsl]) ?_
  refine K0.slot 115 (.int .i64 (IntKind.i64.wrap ((i:Int)+1))) (.int .i64 ((i+1:Nat):Int)) Zk (by rw[K7 hli Zo]) ?_
  refine K0.next (⟨i+1,hli⟩) Zk (by show H.length- (i+1)<H.length-i;omega) ⟨Zk,Zk,Zk⟩ (fun u h=>h)
 obtain⟨s,hx⟩:∃s,ls[k]? =some s:=⟨_,List.getElem?_eq_getElem Zo⟩
 obtain⟨ad,hA,hc⟩:=hs.2 k s hx
 have hdr:ls.drop k=s::ls.drop (k+1):=Is hx
 have hIv:=hI.v
 have hIl:=hI.len
 have hIh:=hI.hk
 rw[hdr]at hIv
 refine ZR ?_
 refine ZJ (decide ((k:Int)<(n:Int))) true (decide_eq_true Zo) ?_
 refine ZA (Kc 29 (.slice A n c) k) (.pointer (some (ad.add (k*7)))) (fun w1 hw h=>E3 hA hlt) ?_
 refine ZA (Kd 96 (ad.add (k*7))) (s.val) (fun w1 hw h=>sg_ld (fun j v hj=>Kt hw (hc j v hj))) ?_
 by_cases h1:s.v=1
 ·
  refine ZJ (s.v==1) true (by rw[h1];rfl) ?_
  refine K0.make (M5 108 1 #[(0,pt s.ax s.ay)]) (Km 1) (fun g u=>Kv 35 #[.int .i64 s.ax,.int .i64 s.ay] g u∧(∀q∈H,∀b∈bl q.1.2.1,b<g)∧w.heap.size≤g) Zk (fun w1 hw h=>make_pts hw.size (fun q hq b hb=>((h.ring q hq).lt b hb).2)) (fun gp=> ?_)
  refine ZR ?_
  refine K0.make (M5 (83) 1 #[(0,.agg #[Km 1 gp,.bool false])]) (Km 1) (Kv 114 (Yh (mvQ s gp)).toArray) Zk (fun w1 hw h=>Ke Zk) (fun gb=> ?_)
  refine ZS 6 ?_
  refine K0.mutOp (L:=bl y.1) (val:=fun(z:Option Addr×Nat)=> .slice z.1 (H.length+1) z.2) (Φ':=fun(z':Option Addr×Nat) v=>O2 w.heap.size z' (H.length+1) (H++ [mvQ s gp]) v) (G:=fun(z':Option Addr×Nat) v=>K6 v w.heap.size 114 2 z'.1 (H.length+1) z'.2 ((H++ [mvQ s gp]).flatMap Yh)) (Nc 83 83 (.slice y.1 H.length y.2) (Km 1 gb)) (fun w1 hw h=>app_lq h.1.1 hw.size h.2 (show H.length≤10000000 by omega)) (fun w1 h b hb=>⟨(h.1.1.own.lt b hb).1,(h.1.1.own.blk b hb).2⟩) (fun y' wa w1 e1 e2 h hG=>h.1.1.add (K6.lit (n:=1) (s:=2) h.1.2.1 rfl h.1.2.2.2 Zd) (fun q hq b hb hc=>by have h3:=h.1.2.2.1 q hq b hb;simp[bl]at hc;omega) e2 hG) Zk Zk (fun y'=> ?_)
  refine ZR ?_
  refine K0.slot 6 (.slice y'.1 (H.length+1) y'.2) (.slice y'.1 (H++ [mvQ s gp]).length y'.2) Zk (by rw[List.length_append];rfl) ?_
  refine K0.slot 29 (.int .i64 (IntKind.i64.wrap ((k:Int)+1))) (.int .i64 ((k+1:Nat):Int)) Zk (by rw[K7 hlt Zo]) ?_
  have hI2:PathI ls (k+1) (H++ [mvQ s gp]):=by
   refine⟨by omega,?_,?_,fun q hq=> ?_,fun hc=>absurd hc Zs,by simp;omega⟩
   ·rw[←hIv,Ov,if_pos h1];unfold S9;rw[List.map_append];rfl
   ·unfold Mr S9 at hIl ⊢;rw[List.map_append,List.map_append,List.sum_append];simp at hIl ⊢;omega
   ·rcases List.mem_append.1 hq with h2|h2
    ·exact hI.ne q h2
    ·obtain rfl:=List.mem_singleton.1 h2;simp
  refine K0.next (⟨((k+1,_),y'),hI2⟩) Zk (by show n- (k+1)<n-k;omega) ⟨Zk,Zk,Zk⟩ (fun u h=>by show O2 w.heap.size y' (H++ [mvQ s gp]).length (H++ [mvQ s gp]) u;rw[List.length_append];exact h)
 have hHne:H≠[]:=fun hc=>by
  have h2:=hI.k0 hc
  subst h2
  exact h1 (chk_first hv hx)
 obtain⟨H0,⟨⟨P,z⟩,cl⟩,rfl⟩:∃H0 q,H=H0++ [q]:=⟨H.dropLast,H.getLast hHne,(List.dropLast_concat_getLast hHne).symm⟩
 have hPn:P≠[]:=hI.ne _ (List.mem_append.2 (.inr (List.mem_singleton.2 rfl)))
 have hl1:(H0++ [((P,z),cl)]).length=H0.length+1:=by rw[List.length_append];rfl
 rw[hl1]at hIh
 have hsP:Mr (S9 H0)+P.length≤65*k:=by
  have e:Mr (S9 (H0++ [((P,z),cl)]))=Mr (S9 H0)+P.length:=by unfold Mr S9;rw[List.map_append,List.map_append,List.sum_append];simp
  rw[e]at hIl;exact hIl
 refine K0.pure_ (p:=(∃g,y.1=some ⟨g,0,none⟩)∧∃gz,z.1=some ⟨gz,0,none⟩) (fun u hu h=>⟨by obtain⟨g,h2,_⟩:=h.own.cells (by show 0<(H0++ [((P,z),cl)]).length;omega);exact⟨g,h2⟩,by obtain⟨g,h2,_⟩:=(h.ring _ (List.mem_append.2 (.inr (List.mem_singleton.2 rfl)))).cells (List.length_pos_iff.2 hPn);exact⟨g,h2⟩⟩) Zk (fun hyg=> ?_)
 obtain⟨⟨g,hg⟩,gz,hgz⟩:=hyg
 obtain⟨yA,yc⟩:=y
 obtain rfl:yA=some ⟨g,0,none⟩:=hg
 have hrow:∀{v:World},O2 w.heap.size (some ⟨g,0,none⟩,yc) (H0++ [((P,z),cl)]).length (H0++ [((P,z),cl)]) v→K6 v w.heap.size 114 2 (some ⟨g,0,none⟩) (H0.length+1) yc (Qm H0 P z cl):=fun h=>by have:=h.own;rw[hl1]at this;exact this
 have hring:∀{v:World},O2 w.heap.size (some ⟨g,0,none⟩,yc) (H0++ [((P,z),cl)]).length (H0++ [((P,z),cl)]) v→K6 v w.heap.size 35 2 z.1 P.length z.2 (P.flatMap Kf):=fun h=>h.ring _ (List.mem_append.2 (.inr (List.mem_singleton.2 rfl)))
 refine K0.condr (s.v==1) false Zk (beq_eq_false_iff_ne.2 h1) ?_
 refine ZS 4 ?_
 refine K0.slot 46 (.int .i64 (IntKind.i64.wrap (((H0++ [((P,z),cl)]).length:Int)-1))) (.int .i64 (H0.length:Int)) Zk (by rw[hl1,IntWalk.i64_in _ Zo];congr 2;omega) ?_
 refine ZA (Kc 83 (.slice (some ⟨g,0,none⟩) (H0++ [((P,z),cl)]).length yc) H0.length) (.pointer (some ⟨g,H0.length*2,none⟩)) (fun w1 hw h=>K9 (elem:=114) Zk Zk Zo) ?_
 by_cases h5:s.v=5
 ·have hIv2:Ov (S9 H0++ [(clP P,true)]) (ls.drop (k+1))=Ov [] ls:=by
   have e:S9 (H0++ [((P,z),cl)])=S9 H0++ [(P,cl)]:=by unfold S9;rw[List.map_append];rfl
   rw[←hIv,e,Ov,if_neg h1,List.getLast?_concat]
   dsimp only
   rw[if_pos h5,List.dropLast_concat]
  have hI3:∀(Q:List Pt) (zz:Option Addr×Nat),Q=clP P→Q≠[]→Q.length≤P.length→PathI ls (k+1) (H0++ [((Q,zz),true)]):=fun Q zz hQ hQn hQl=>by
   refine⟨by omega,?_,?_,fun q hq=> ?_,fun hc=>absurd hc Zs,by rw[List.length_append];show H0.length+1≤k+1;omega⟩
   ·rw[←hIv2,←hQ];unfold S9;rw[List.map_append];rfl
   ·have e:Mr (S9 (H0++ [((Q,zz),true)]))=Mr (S9 H0)+Q.length:=by unfold Mr S9;rw[List.map_append,List.map_append,List.sum_append];simp
    omega
   ·rcases List.mem_append.1 hq with h2|h2
    ·exact hI.ne q (List.mem_append.2 (.inl h2))
    ·obtain rfl:=List.mem_singleton.1 h2;exact hQn
  obtain⟨j,hj⟩:∃j,P.length=j+1:=⟨P.length-1,by have:=List.length_pos_iff.2 hPn;omega⟩
  obtain⟨t,ht⟩:∃t,P[j]? =some t:=⟨_,List.getElem?_eq_getElem Zo⟩
  obtain⟨p0,hp0⟩:∃t,P[0]? =some t:=⟨_,List.getElem?_eq_getElem Zo⟩
  have htl:P.getLast? =some t:=by rw[List.getLast?_eq_getElem?,hj];exact ht
  have hth:P.head? =some p0:=by rw[List.head?_eq_getElem?];exact hp0
  refine ZJ (s.v !=5) false (by rw[h5];rfl) ?_
  refine K0.mutSt (L:=[g]) (G:=fun u=>K6 u w.heap.size 114 2 (some ⟨g,0,none⟩) (H0.length+1) yc (Qm H0 P z true)) (Φ':=fun u=>O2 w.heap.size (some ⟨g,0,none⟩,yc) (H0.length+1) (H0++ [((P,z),true)]) u) (Rm 4 ⟨g,H0.length*2+1,none⟩ (.bool true)) (fun w1 hw h=>by
   have h3:=(hrow h).storeN (P:=Tryz.prog) (t:=4) (v:= .bool true) (j:=H0.length*2+1) Zk (by rw[E8];show H0.length*2+1+1≤_;omega) (fun v hv=>by have hv:v∈[Value.bool true]:=hv;have hv:=List.mem_singleton.1 hv;subst hv;rfl)
   rw[←rowQ_setB (cl:=cl)];exact h3) (fun u h b hb=>by have hb:=List.mem_singleton.1 hb;subst hb;exact⟨((hrow h).lt _ (by simp[bl])).1,((hrow h).blk _ (by simp[bl])).2⟩) (fun wa u e1 e2 h hG=>by
   have hpt:K6 u w.heap.size 35 2 z.1 P.length z.2 (P.flatMap Kf):=(hring h).left e2 fun b hb hc=>Oq (hring h) (hrow h) Zd b hb (by simpa[bl]using hc)
   have hz3:=fun x hx b hb=>(List.pairwise_append.1 h.apt).2.2 x hx _ (List.mem_singleton.2 rfl) b hb
   have h3:=h;rw[hl1]at h3
   exact h3.last e1 (fun b hb=>e2 b fun hc=>hb (List.mem_cons.2 (.inl (List.mem_singleton.1 hc)))) hG hpt hz3) Zk Zk ?_
  refine ZR ?_
  refine K0.ask (Kd 108 ⟨g,H0.length*2,none⟩) (.slice z.1 P.length z.2) Zk (fun w1 hw h=>Kg Zk (K6.cellR (xs:=Qm H0 P z true) h.own Rt)) ?_
  refine ZS 2 ?_
  by_cases hj0:j=0
  ·have hc0:P=clP P:=by unfold clP;rw[if_neg Zo]
   refine ZT 84 (.bool (decide ((P.length:Int)>1))) (.bool false) (by rw[decide_eq_false Zo]) ?_
   refine ZI false ?_
   refine K0.slot 29 (.int .i64 (IntKind.i64.wrap ((k:Int)+1))) (.int .i64 ((k+1:Nat):Int)) Zk (by rw[K7 hlt Zo]) ?_
   refine K0.slot 6 (.slice (some ⟨g,0,none⟩) (H0++ [((P,z),cl)]).length yc) (.slice (some ⟨g,0,none⟩) (H0++ [((P,z),true)]).length yc) Zk (by rw[List.length_append,List.length_append];rfl) ?_
   refine K0.next (⟨((k+1,_),(some ⟨g,0,none⟩,yc)),hI3 (P) z hc0 hPn (Nat.le_refl _)⟩) Zk (by show n- (k+1)<n-k;omega) ⟨Zk,Zk,Zk⟩ (fun u h=>by show O2 w.heap.size (some ⟨g,0,none⟩,yc) (H0++ [((P,z),true)]).length (H0++ [((P,z),true)]) u;rw[List.length_append];exact h)
  refine K0.slot 84 (.bool (decide ((P.length:Int)>1))) (.bool true) Zk (by rw[decide_eq_true Zo]) ?_
  refine ZS 17 ?_
  refine K0.askAt 6 (Kd 108 ⟨g,H0.length*2,none⟩) (.slice z.1 P.length z.2) Zk (fun w1 hw h=>Kg Zk (K6.cellR (xs:=Qm H0 P z true) h.own Rt)) ?_
  refine ZS 17 ?_
  refine K0.askAt 14 (Kd 108 ⟨g,H0.length*2,none⟩) (.slice z.1 P.length z.2) Zk (fun w1 hw h=>Kg Zk (K6.cellR (xs:=Qm H0 P z true) h.own Rt)) ?_
  refine ZS 17 ?_
  refine K0.slot 91 (.int .i64 (IntKind.i64.wrap ((P.length:Int)-1))) (.int .i64 (j:Int)) Zk (by rw[IntWalk.i64_in _ Zo,show(P.length:Int)-1=(j:Int) by omega]) ?_
  have hpt:∀{v:World},O2 w.heap.size (some ⟨g,0,none⟩,yc) (H0.length+1) (H0++ [((P,z),true)]) v→K6 v w.heap.size 35 2 (some ⟨gz,0,none⟩) P.length z.2 (P.flatMap Kf):=fun h=>by have h2:=h.ring _ (List.mem_append.2 (.inr (List.mem_singleton.2 rfl)));rw[←hgz];exact h2
  refine K0.askAt 9 (Kc 108 (.slice z.1 P.length z.2) j) (.pointer (some ⟨gz,j*2,none⟩)) Zk (fun w1 hw h=>by rw[hgz];exact K9 (elem:=35) Zk Zk Zo) ?_
  refine ZS 17 ?_
  refine K0.askAt 10 (Kd 35 ⟨gz,j*2,none⟩) (Ls t) Zk (fun w1 hw h=>Ka (vs:=Kf t) Zk Zk (Lw Td (hpt h) Zo ht)) ?_
  refine ZS 17 ?_
  refine K0.askAt 15 (Kc 108 (.slice z.1 P.length z.2) (0:Nat)) (.pointer (some ⟨gz,0*2,none⟩)) Zk (fun w1 hw h=>by rw[hgz];exact K9 (elem:=35) Zk Zk Zo) ?_
  refine ZS 17 ?_
  refine K0.askAt 16 (Kd 35 ⟨gz,0*2,none⟩) (Ls p0) Zk (fun w1 hw h=>Ka (vs:=Kf p0) Zk Zk (Lw Td (hpt h) Zo hp0)) ?_
  refine ZS 17 ?_
  refine ZB 17 (Xs 35 (.tmp 93) (.tmp 99) (Ls t) (Ls p0)) (.bool (t.1==p0.1&&t.2==p0.2)) (fun w1 hw h=>U0) ?_
  by_cases hq:t=p0
  case neg=>
   have hc0:P=clP P:=by unfold clP;rw[if_neg (fun hc=>hq (by have h2:=hc.2;rw[htl,hth]at h2;injection h2))]
   refine ZJ ((t.1==p0.1&&t.2==p0.2)) false (by rw[eqPt];exact decide_eq_false hq) ?_
   refine K0.slot 29 (.int .i64 (IntKind.i64.wrap ((k:Int)+1))) (.int .i64 ((k+1:Nat):Int)) Zk (by rw[K7 hlt Zo]) ?_
   refine K0.slot 6 (.slice (some ⟨g,0,none⟩) (H0++ [((P,z),cl)]).length yc) (.slice (some ⟨g,0,none⟩) (H0++ [((P,z),true)]).length yc) Zk (by rw[List.length_append,List.length_append];rfl) ?_
   refine K0.next (⟨((k+1,_),(some ⟨g,0,none⟩,yc)),hI3 (P) z hc0 hPn (Nat.le_refl _)⟩) Zk (by show n- (k+1)<n-k;omega) ⟨Zk,Zk,Zk⟩ (fun u h=>by show O2 w.heap.size (some ⟨g,0,none⟩,yc) (H0++ [((P,z),true)]).length (H0++ [((P,z),true)]) u;rw[List.length_append];exact h)
  have hc0:P.take j=clP P:=by unfold clP;rw[if_pos ⟨by omega,by rw[htl,hth,hq]⟩,List.dropLast_eq_take,hj];rfl
  have htj:(P.take j).length=j:=by rw[List.length_take];omega
  refine K0.condr ((t.1==p0.1&&t.2==p0.2)) true Zk (by rw[eqPt];exact decide_eq_true hq) ?_
  refine ZS 7 ?_
  refine K0.ask (Kd 108 ⟨g,H0.length*2,none⟩) (.slice z.1 P.length z.2) Zk (fun w1 hw h=>Kg Zk (K6.cellR (xs:=Qm H0 P z true) h.own Rt)) ?_
  refine ZS 7 ?_
  refine K0.slot 108 (.int .i64 (IntKind.i64.wrap ((P.length:Int)-1))) (.int .i64 (j:Int)) Zk (by rw[IntWalk.i64_in _ Zo,show(P.length:Int)-1=(j:Int) by omega]) ?_
  refine ZA (slH 108 (.slice z.1 P.length z.2) j) (.slice z.1 j z.2) (fun w1 hw h=>by rw[hgz];exact E6 (e:=35) (s:=2) Zk Zk Zk (by have:=K6.cap (hpt h);omega)) ?_
  refine K0.mutSt (L:=[g]) (G:=fun u=>K6 u w.heap.size 114 2 (some ⟨g,0,none⟩) (H0.length+1) yc (Qm H0 (P.take j) z true)) (Φ':=fun u=>O2 w.heap.size (some ⟨g,0,none⟩,yc) (H0.length+1) (H0++ [((P.take j,z),true)]) u) (Rm 108 ⟨g,H0.length*2,none⟩ (.slice z.1 j z.2)) (fun w1 hw h=>by
   have h3:=K6.storeN (xs:=Qm H0 P z true) (P:=Tryz.prog) (t:=108) (v:= .slice z.1 j z.2) (j:=H0.length*2) h.own Zk (by rw[E8];show H0.length*2+1≤_;omega) (fun v hv=>by have hv:v∈[Value.slice z.1 j z.2]:=hv;have hv:=List.mem_singleton.1 hv;subst hv;rfl)
   rw[←rowQ_set (acc:=P) (z:=z) (acc':=P.take j) (z':=z) (m:=j) htj];exact h3) (fun u h b hb=>by have hb:=List.mem_singleton.1 hb;subst hb;exact⟨(h.own.lt _ (by simp[bl])).1,(h.own.blk _ (by simp[bl])).2⟩) (fun wa u e1 e2 h hG=>by
   have hp2:K6 u w.heap.size 35 2 z.1 (P.take j).length z.2 ((P.take j).flatMap Kf):=by
    have h4:=(hpt h).left e2 fun b hb hc=>Oq (hpt h) h.own Zd b hb (by simpa[bl]using hc)
    rw[htj,hgz,Ex]
    exact h4.cut Zo
   have hz3:=fun x hx b hb=>(List.pairwise_append.1 h.apt).2.2 x hx _ (List.mem_singleton.2 rfl) b hb
   exact h.last e1 (fun b hb=>e2 b fun hc=>hb (List.mem_cons.2 (.inl (List.mem_singleton.1 hc)))) hG hp2 hz3) Zk Zk ?_
  refine ZR ?_
  refine K0.slot 29 (.int .i64 (IntKind.i64.wrap ((k:Int)+1))) (.int .i64 ((k+1:Nat):Int)) Zk (by rw[K7 hlt Zo]) ?_
  refine K0.slot 6 (.slice (some ⟨g,0,none⟩) (H0++ [((P,z),cl)]).length yc) (.slice (some ⟨g,0,none⟩) (H0++ [((P.take j,z),true)]).length yc) Zk (by rw[List.length_append,List.length_append];rfl) ?_
  refine K0.next (⟨((k+1,_),(some ⟨g,0,none⟩,yc)),hI3 (P.take j) z hc0 (fun hc=>by rw[hc]at htj;simp at htj;omega) Zo⟩) Zk (by show n- (k+1)<n-k;omega) ⟨Zk,Zk,Zk⟩ (fun u h=>by show O2 w.heap.size (some ⟨g,0,none⟩,yc) (H0++ [((P.take j,z),true)]).length (H0++ [((P.take j,z),true)]) u;rw[List.length_append];exact h)
 obtain⟨j,hj⟩:∃j,P.length=j+1:=⟨P.length-1,by have:=List.length_pos_iff.2 hPn;omega⟩
 obtain⟨t,ht⟩:∃t,P[j]? =some t:=⟨_,List.getElem?_eq_getElem Zo⟩
 have htl:P.getLast? =some t:=by rw[List.getLast?_eq_getElem?,hj];exact ht
 have hIv2:(if (O9 t s).2=0 then Ov (S9 H0++ [(putL P (O9 t s).1,cl)]) (ls.drop (k+1))else([],(O9 t s).2))=Ov [] ls:=by
  have e:S9 (H0++ [((P,z),cl)])=S9 H0++ [(P,cl)]:=by unfold S9;rw[List.map_append];rfl
  rw[←hIv,e,Ov,if_neg h1,List.getLast?_concat]
  dsimp only
  rw[if_neg h5,List.dropLast_concat,htl];rfl
 have hsl:=segL_len t s
 refine K0.condr (s.v !=5) true Zk (bne_iff_ne.2 h5) ?_
 refine ZS 14 ?_
 refine K0.askAt 3 (Kd 108 ⟨g,H0.length*2,none⟩) (.slice z.1 P.length z.2) Zk (fun w1 hw h=>Kg Zk ((hrow h).cellR Rt)) ?_
 refine ZS 14 ?_
 refine K0.askAt 7 (Kd 108 ⟨g,H0.length*2,none⟩) (.slice z.1 P.length z.2) Zk (fun w1 hw h=>Kg Zk ((hrow h).cellR Rt)) ?_
 refine ZS 14 ?_
 refine K0.slot 61 (.int .i64 (IntKind.i64.wrap ((P.length:Int)-1))) (.int .i64 (j:Int)) Zk (by rw[IntWalk.i64_in _ Zo,show(P.length:Int)-1=(j:Int) by omega]) ?_
 refine K0.askAt 10 (Kc 108 (.slice z.1 P.length z.2) j) (.pointer (some ⟨gz,j*2,none⟩)) Zk (fun w1 hw h=>by rw[hgz];exact K9 (elem:=35) Zk Zk Zo) ?_
 refine ZS 14 ?_
 refine K0.askAt 11 (Kd 35 ⟨gz,j*2,none⟩) (Ls t) Zk (fun w1 hw h=>Ka (vs:=Kf t) Zk Zk (by have h2:=hring h;rw[hgz]at h2;exact Lw Td h2 Zo ht)) ?_
 refine ZS 14 ?_
 refine ZC (fun w1 hw h=>(segment_m (p:=t) (s:=s) (N:=w.heap.size) hw.size).mono fun e w' k=>K3.apt (R:=fun r=>∀b∈bl r.1,b∉bl z.1) k (fun r=>bl r.1) (fun r u k b hb=>(k.blk b hb).2) (fun r hr b hb hc=>by have h2:=((hring h).lt b hc).2;have h3:=hr b hb;omega)) fun sg=> ?_
 by_cases he:(O9 t s).2=0
 case neg=>
  have hR:Pi ls=([],(O9 t s).2):=by unfold Pi;rw[←hIv2,if_neg he,if_neg he]
  refine ZJ ((O9 t s).2 !=0) true (bne_iff_ne.2 he) ?_
  refine K0.leave Zk ?_
  refine ZR ?_
  refine ZV (.tuple #[.slice none 0 0,.int .i64 (O9 t s).2]) (fun w1 hw h=>⟨((none,0),⟨[],by rw[hR];rfl⟩),patV (none,0) [] (by rw[hR]),hw,fun u k1 k2=>O2.nil_⟩)
 rw[if_pos he]at hIv2
 refine ZJ ((O9 t s).2 !=0) false (by rw[he];rfl) ?_
 have hzx:∀{v:World},O2 w.heap.size (some ⟨g,0,none⟩,yc) (H0++ [((P,z),cl)]).length (H0++ [((P,z),cl)]) v→∀x∈H0,∀b∈bl x.1.2.1,b∉bl z.1∧b<v.heap.size:=fun h x hx b hb=>⟨(List.pairwise_append.1 h.apt).2.2 x hx _ (List.mem_singleton.2 rfl) b hb,((h.ring x (List.mem_append.2 (.inl hx))).lt b hb).2⟩
 refine K0.mut (L:=g::bl z.1) (val:=fun _:Option Addr×Nat=> .tuple #[]) (G:=fun z' u=>K6 u w.heap.size 114 2 (some ⟨g,0,none⟩) (H0.length+1) yc (Qm H0 (putL P (O9 t s).1) z' cl)∧K6 u w.heap.size 35 2 z'.1 (putL P (O9 t s).1).length z'.2 ((putL P (O9 t s).1).flatMap Kf)∧∀x∈H0,∀b∈bl x.1.2.1,b∉bl z'.1) (Φ':=fun z' u=>O2 w.heap.size (some ⟨g,0,none⟩,yc) (H0.length+1) (H0++ [((putL P (O9 t s).1,z'),cl)]) u) (fun w1 hw h=>(flput_m (c2:=sg.2) hw rfl (hrow h.1) (hring h.1) hPn (h.2.1.reads.rows (cl:=Kf) (fun _=>rfl) rfl) (fun b hb hc=>by
  rcases List.mem_cons.1 hc with h2|h2
  ·exact Oq h.2.1 (hrow h.1) Zd b hb (by simpa[bl]using h2)
  ·exact h.2.2 b hb h2) Zo).mono fun e w' k=>by
   obtain⟨z',k1,k2,k3⟩:=k
   exact⟨z',k1,k2,fun w'' j1 j2=>⟨(k3 w'' j1 j2).1,(k3 w'' j1 j2).2.1,fun x hx b hb hc=>((k3 w'' j1 j2).2.2 b hc).elim (hzx h.1 x hx b hb).1 fun h4=>by have:=(hzx h.1 x hx b hb).2;omega⟩⟩) (fun u h b hb=>by
  rcases List.mem_cons.1 hb with rfl|h2
  ·exact⟨((hrow h.1).lt _ (by simp[bl])).1,((hrow h.1).blk _ (by simp[bl])).2⟩
  ·exact⟨((hring h.1).lt b h2).1,((hring h.1).blk b h2).2⟩) (fun z' wa u e1 e2 h hG=>by have h3:=h.1;rw[hl1]at h3;exact h3.last e1 e2 hG.1 hG.2.1 hG.2.2) Zk Zk (fun z'=> ?_)
 refine ZR ?_
 refine K0.slot 29 (.int .i64 (IntKind.i64.wrap ((k:Int)+1))) (.int .i64 ((k+1:Nat):Int)) Zk (by rw[K7 hlt Zo]) ?_
 have hpl:=V7 (O9 t s).1 P
 have hI2:PathI ls (k+1) (H0++ [((putL P (O9 t s).1,z'),cl)]):=by
  refine⟨by omega,?_,?_,fun q hq=> ?_,fun hc=>absurd hc Zs,by rw[List.length_append];show H0.length+1≤k+1;omega⟩
  ·rw[←hIv2];unfold S9;rw[List.map_append];rfl
  ·have e:Mr (S9 (H0++ [((putL P (O9 t s).1,z'),cl)]))=Mr (S9 H0)+(putL P (O9 t s).1).length:=by unfold Mr S9;rw[List.map_append,List.map_append,List.sum_append];simp
   omega
  ·rcases List.mem_append.1 hq with h2|h2
   ·exact hI.ne q (List.mem_append.2 (.inl h2))
   ·obtain rfl:=List.mem_singleton.1 h2;exact J2 _ _ hPn
 refine K0.slot 6 (.slice (some ⟨g,0,none⟩) (H0++ [((P,z),cl)]).length yc) (.slice (some ⟨g,0,none⟩) (H0++ [((putL P (O9 t s).1,z'),cl)]).length yc) Zk (by rw[List.length_append,List.length_append];rfl) ?_
 refine K0.next (⟨((k+1,_),(some ⟨g,0,none⟩,yc)),hI2⟩) Zk (by show n- (k+1)<n-k;omega) ⟨Zk,Zk,Zk⟩ (fun u h=>by show O2 w.heap.size (some ⟨g,0,none⟩,yc) (H0++ [((putL P (O9 t s).1,z'),cl)]).length (H0++ [((putL P (O9 t s).1,z'),cl)]) u;rw[List.length_append];exact h)
end
end Go.Proofs.YtpgkbllcnphmbaaGreatDoor
