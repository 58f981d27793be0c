/-
 A part of the proof.
-/
import Derived.Test.YtpgkbllcnphmbaaGreatDoorBSl
import Derived.Test.YtpgkbllcnphmbaaGreatDoorBNum
import Derived.OpenShut
import Derived.Lib.SmallJoins
import Derived.ChangeSlices
import Derived.Test.YtpgkbllcnphmbaaGreatDoorBQP
import Derived.Deep.Slices
import Derived.Test.YtpgkbllcnphmbaaGreatDoorBBr
namespace Go.Proofs.YtpgkbllcnphmbaaGreatDoor
set_option maxRecDepth 100000
set_option maxHeartbeats 8000000
set_option linter.unusedVariables false
set_option linter.unusedSimpArgs false
open Go.RowKit
def M2(T:Mi)(cl:List Sg)(cr:Int)(path:List Sg)(rule:Int)(co:Co):Nd:=⟨1,2,0,T,cl,cr,0,0,false,false,path,rule,[Q6 co],⟨0,0,0,0,[],0⟩,[],im0,0⟩
def Id(t:TV)(clA:Option Addr)(clc:Nat)(paA:Option Addr)(pac gf:Nat)(co:Co):ND:=⟨t,clA,clc,paA,pac,some ⟨gf,0,none⟩,1,[(Q6 co,Fw)],none,0,none,0,[],none,0⟩
def Tx(bg:Co)(N:Nd):Sc:=⟨4,4,bg,[N]⟩
section
variable{w u:World}{S:Sc}{gn gf c c2 K:Nat}{N:Nd}{q:ND}{T:Mi}{x y rule cr:Int}{co bg:Co}{t:TV}{A A2:Option Addr}{ls cl:List Sg}{a b:UInt8}{H:List LP}
theorem V0(hT:S4 t T K u)(hc:Sa u A2 cl.length cl)(hp:Sa u A ls.length ls)(hf:Xu u (some ⟨gf,0,none⟩) [(Q6 co,Fw)] K [Q6 co]):NRd (M2 T cl cr ls rule co) (Id t A2 c2 A c gf co) K u:=
 ⟨hT,hc,hp,hf,Kq.nil0,.nil0,Kq.nil0⟩
theorem V1(hn:Kv 47 ([(N,q)].flatMap fun x=>noC x.1 x.2).toArray gn u)(hr:NRd N q K u):Cy u (some ⟨gn,0,none⟩) [(N,q)] K (Tx bg N).nds:=
 ⟨rfl,Kq.lit noC_len hn,fun x hx=>by obtain rfl:=List.mem_singleton.1 hx;exact hr⟩
theorem Xg{r:RV}{p:Rat}(h:Ox r p K u)(h2:shR r=true):Ox r p 8 u:=by
 obtain⟨x,y,i,j,e⟩:=h
 simp only[shR,Bool.and_eq_true,decide_eq_true_eq]at h2
 exact⟨x,y,⟨i.inn,i.zi,Nat.le_trans h2.1 Zd⟩,⟨j.inn,j.zi,Nat.le_trans h2.2 Zd⟩,e⟩
theorem isa_few(h:S4 t T K u)(h2:shT t=true):S4 t T 8 u:=by
 simp only[shT,List.all_cons,List.all_nil,Bool.and_true,Bool.and_eq_true]at h2
 obtain⟨h1,h2,h3,h4,h5,h6⟩:=h2
 exact⟨Xg h.a h1,Xg h.b h2,Xg h.c h3,Xg h.d h4,Xg h.e h5,Xg h.f h6⟩
theorem len_pcs(ls:List Sg):ls.length≤Mj ls:=by
 induction ls with
 |nil=>exact Nat.zero_le _
 |cons s r ih=>
  have h1:=(pcN_le s).1
  show r.length+1≤G5 s+Mj r
  omega
theorem Ic(h1:Mj cl≤24)(h2:Mj ls≤24):NFs (Tx bg (M2 T cl cr ls rule co)).nds:=fun N hN=>by
 have k1:=len_pcs cl
 have k2:=len_pcs ls
 rw[List.mem_singleton.1 hN]
 exact .sol (Nat.le_trans k1 h1) (Nat.le_trans k2 h2) rfl rfl (fun P hP=>⟨co,List.mem_singleton.1 hP⟩) rfl (Nat.le_refl 1)
theorem top_ok(h:G2 (Tx bg (M2 T cl cr ls rule co))=true):T.ok=true∧(Ff ls).1=0∧(Ff cl).1=0∧(cl.length=0∨cr=1∨cr=2)∧(rule=1∨rule=2):=by
 have hv:Rr (M2 T cl cr ls rule co)=true:=by
  unfold G2 at h
  simp only[Bool.and_eq_true]at h
  have:=h.2.2
  unfold Tx Ei at this
  simp only[Bool.and_eq_true]at this
  exact this.1
 unfold Rr Hx ownB E2 U4 Tn Zg at hv
 simp only[M2,Bool.and_eq_true,decide_eq_true_eq,Bool.or_eq_true,beq_iff_eq]at hv
 grind
theorem Hu{n:Nat}(hH:K4 H=(Kz T ls).1)(hp:Np w A H.length H)(h2:Mj ls≤24)(hr:rule=1∨rule=2)(hx:0≤x∧x≤4000)(hy:0≤y∧y≤4000):
 Calls Tryz.prog 9 #[.slice A H.length n,.int .i64 rule,.int .i64 x,.int .i64 y] w (K3 w (fun _:Unit=> .int .u8 (Mh (Kz T ls).1 rule x y:Int)) fun _ _=>True):=by
 have e1:=Br (T:=T) h2
 have e2:=Bs (T:=T) (ls:=ls)
 have hl:=D6 hH
 have:=Fa (c:=n) hp Zo (fun r hr=>by have:=hl.1 r hr;omega) (by rw[hH];exact e1) hr hx hy
 rwa [hH]at this
theorem top_h{gn:Nat}(hE:ET w)(hA:Cy w (some ⟨gn,0,none⟩) [(M2 T cl cr ls rule co,Id t A2 c2 A c gf co)] 8 (Tx bg (M2 T cl cr ls rule co)).nds)(hv:G2 (Tx bg (M2 T cl cr ls rule co))=true)(h1:Mj cl≤24)(h2:Mj ls≤24):
 ShH w (Tx bg (M2 T cl cr ls rule co)) gn 1 [(M2 T cl cr ls rule co,Id t A2 c2 A c gf co)] 0 (M2 T cl cr ls rule co) (Id t A2 c2 A c gf co) T co:=
 have o:=top_ok hv
 have s:Uu w (Tx bg (M2 T cl cr ls rule co)) gn 1 [(M2 T cl cr ls rule co,Id t A2 c2 A c gf co)]:=⟨hE,hA,Ic h1 h2,hv⟩
 {s:=s,x:=rfl,wt:=wt0_m s (N:=M2 T cl cr ls rule co) rfl o.1,cl:=o.2.2.1,few:=h1,ru:=o.2.2.2.1,k:=rfl,fl:=Nat.succ_ne_zero 0,pa:=o.2.1,pf:=h2,fr:=o.2.2.2.2,f1:=rfl,f2:=rfl,sk:=rfl}
abbrev rm(a:UInt8):Int:=(IntKind.i64.wrap (a.toNat:Int)).tmod 4
theorem O6(a:UInt8):0≤rm a∧rm a<4:=by
 have:=a.toNat_lt
 unfold rm
 rw[IntWalk.i64_in _ Zo]
 exact⟨Int.tmod_nonneg 4 Zo,Int.tmod_lt_of_pos _ Zo⟩
theorem top_on:OnP (Tx bg N) (rm a) (rm b):=⟨O6 a,O6 b,by show(4:Int)≤256;decide,by show(4:Int)≤256;decide⟩
theorem top_k{k:Nat}(h:ShH w S gn c [(N,q)] 0 N q T co)(hd:N.dep=0)(o:OnP S x y)(hb:S.bg=bg)(hk:Sv N T x y=k):
 Calls Tryz.prog 7 #[S8 S gn c,.int .i64 x,.int .i64 y] w (K3 w (fun _:Unit=> .tuple #[Mw ((Mb co).pre.blend (Mb bg).pre k),.int .i64 0]) fun _ _=>True):=by
 subst hb;subst hk;exact top_m h hd o
theorem cov_no{T:Mi}(h:(Kz T ls).2≠0):Mh (Kz T ls).1 rule x y=0:=by
 rw[Xk h];unfold Mh;split;exact cov_nil;rfl
theorem law_m(hE:ET w)(hT:S4 t T K w)(hp:Sa w A ls.length ls)(hc:Sa w A2 cl.length cl)(hn:ls.length≤9223372036854775807)(hn2:cl.length≤9223372036854775807):
 Calls Tryz.prog 3 #[t.val,.slice A ls.length c,.int .i64 rule,.slice A2 cl.length c2,.agg #[.int .u8 (co.1.toNat:Int),.int .u8 (co.2.1.toNat:Int),.int .u8 (co.2.2.1.toNat:Int),.int .u8 (co.2.2.2.toNat:Int),.int .u8 (bg.1.toNat:Int),.int .u8 (bg.2.1.toNat:Int),.int .u8 (bg.2.2.1.toNat:Int),.int .u8 (bg.2.2.2.toNat:Int)],.agg #[.int .u8 (a.toNat:Int),.int .u8 (b.toNat:Int)]] w (K3 w (fun _:Unit=> .bool true) fun _ _=>True):=by
 refine K0.enter Tryz.func3 rfl ?_
 refine ZR ?_
 refine K0.make (M5 (42) 1 #[(0,pnV (Q6 co) Fw)]) (Km 1) (Kv 41 ([(Q6 co,Fw)].flatMap pC2).toArray) Zk (fun w1 hw h=>Ke Zk) (fun gf=> ?_)
 refine ZR ?_
 by_cases h0:cl.length=0
 ·
  refine ZJ (decide ((0:Int)<cl.length)) false (by rw[h0];rfl) ?_
  refine K0.make (M5 (48) 1 #[(0,noV (M2 T [] 0 ls rule co) (Id t none 0 A c gf co))]) (Km 1) (Kv 47 ([(M2 T [] 0 ls rule co,Id t none 0 A c gf co)].flatMap fun x=>noC x.1 x.2).toArray) Zk (fun w1 hw h=>Ke Zk) (fun gn=> ?_)
  refine ZR ?_
  refine ZC (fun w1 hw h=>small_m (co:=co) (K:=K) (S:=Tx bg (M2 T [] 0 ls rule co)) (c:=1) (V1 (bg:=bg) h.2 (V0 (hT.below hw) .nil0 (hp.below hw) (.one h.1.2))) rfl rfl rfl rfl (show(0:Int)≤2000 by decide) rfl (Nat.zero_le _) hn) fun s=> ?_
  obtain⟨s,hs⟩:=s
  cases s with
  |false=>
   refine ZI true ?_
   refine ZC (fun w1 hw h=>Pj (hE.below hw)) fun e=> ?_
   exact ZW (.bool true)
  | true=>
   obtain⟨g1,g2,g3⟩:=hs rfl
   have h8:=isa_few hT g3
   have hfw:NFs (Tx bg (M2 T [] 0 ls rule co)).nds:=Ic Zd g2
   cases hv:G2 (Tx bg (M2 T [] 0 ls rule co))with
   |false=>
    refine ZC (fun w1 hw h=>V2 (S:=Tx bg (M2 T [] 0 ls rule co)) (y:=(some ⟨gn,0,none⟩,1)) (hE.below hw) (V1 (bg:=bg) h.1.2 (V0 (h8.below hw) .nil0 (hp.below hw) (.one h.1.1.2))) hfw Zd hv) fun v=> ?_
    refine ZI true ?_
    refine ZC (fun w1 hw h=>Pj (hE.below hw)) fun e=> ?_
    exact ZW (.bool true)
   | true=>
    obtain⟨o1,o2,o3,o4,o5⟩:=top_ok hv
    refine ZC (fun w1 hw h=>V2 (S:=Tx bg (M2 T [] 0 ls rule co)) (y:=(some ⟨gn,0,none⟩,1)) (hE.below hw) (V1 (bg:=bg) h.1.2 (V0 (h8.below hw) .nil0 (hp.below hw) (.one h.1.1.2))) hfw Zd hv) fun v=> ?_
    refine ZI false ?_
    have bk:Mc (M2 T [] 0 ls rule co) T (rm a) (rm b)≤255:=Zx ..
    have ek:Sv (M2 T [] 0 ls rule co) T (rm a) (rm b)=Mc (M2 T [] 0 ls rule co) T (rm a) (rm b):=by unfold Sv;rw[show Rc (M2 T [] 0 ls rule co) T (rm a) (rm b)=255 from rfl,mulB_255 _]
    refine ZC (fun w1 hw h=>top_k (bg:=bg) (c:=1) (gn:=gn) (x:=rm a) (y:=rm b) (top_h (c:=c) (c2:=0) (hE.below hw) (V1 (bg:=bg) h.1.1.2 (V0 (h8.below hw) .nil0 (hp.below hw) (.one h.1.1.1.2))) hv Zd g2) rfl top_on rfl ek) fun px=> ?_
    refine ZC (fun w1 hw h=>Ey (c:=c) (N:=w.heap.size) (h8.below hw) Zd (hp.below hw) o2 hw.size) fun f=> ?_
    by_cases he:(Kz T ls).2=0
    ·
     refine ZJ (((Kz T ls).2==0)) true (by rw[he];rfl) ?_
     refine ZC (fun w1 hw h=>Hu (T:=T) (n:=f.1.2) f.2.2 h.2.polyA g2 o5 ⟨(O6 a).1,by have:=(O6 a).2;omega⟩ ⟨(O6 b).1,by have:=(O6 b).2;omega⟩) fun cv=> ?_
     refine ZJ (decide ((0:Int)<cl.length)) false (by rw[h0];rfl) ?_
     refine ZC (fun w1 hw h=>Nm (c:=Mb co) (Lj co)) fun p1=> ?_
     refine ZC (fun w1 hw h=>Nm (c:=Mb bg) (Lj bg)) fun p2=> ?_
     refine ZD 12 (fun w1 hw h=>Qj (k:=Mc (M2 T [] 0 ls rule co) T (rm a) (rm b)) (Lj co).pre (Lj bg).pre bk) fun bl=> ?_
     refine ZB 12 (Xs 53 (.tmp 100) (.tmp 108) (Mw ((Mb co).pre.blend (Mb bg).pre (Mc (M2 T [] 0 ls rule co) T (rm a) (rm b)))) (Mw ((Mb co).pre.blend (Mb bg).pre (Mc (M2 T [] 0 ls rule co) T (rm a) (rm b))))) (.bool true) (fun w1 hw h=>Qt) ?_
     refine ZC (fun w1 hw h=>Pj (hE.below hw)) fun e=> ?_
     exact ZW (.bool true)
    ·
     refine ZJ (((Kz T ls).2==0)) false (beq_eq_false_iff_ne.2 he) ?_
     refine K0.slot 21 (.int .u8 0) (.int .u8 (Mc (M2 T [] 0 ls rule co) T (rm a) (rm b):Int)) Zk (by rw[show Mc (M2 T [] 0 ls rule co) T (rm a) (rm b)=0 from cov_no he];rfl) ?_
     refine ZJ (decide ((0:Int)<cl.length)) false (by rw[h0];rfl) ?_
     refine ZC (fun w1 hw h=>Nm (c:=Mb co) (Lj co)) fun p1=> ?_
     refine ZC (fun w1 hw h=>Nm (c:=Mb bg) (Lj bg)) fun p2=> ?_
     refine ZD 12 (fun w1 hw h=>Qj (k:=Mc (M2 T [] 0 ls rule co) T (rm a) (rm b)) (Lj co).pre (Lj bg).pre bk) fun bl=> ?_
     refine ZB 12 (Xs 53 (.tmp 100) (.tmp 108) (Mw ((Mb co).pre.blend (Mb bg).pre (Mc (M2 T [] 0 ls rule co) T (rm a) (rm b)))) (Mw ((Mb co).pre.blend (Mb bg).pre (Mc (M2 T [] 0 ls rule co) T (rm a) (rm b))))) (.bool true) (fun w1 hw h=>Qt) ?_
     refine ZC (fun w1 hw h=>Pj (hE.below hw)) fun e=> ?_
     exact ZW (.bool true)
 ·
  refine ZJ (decide ((0:Int)<cl.length)) true (decide_eq_true Zo) ?_
  refine K0.make (M5 (48) 1 #[(0,noV (M2 T cl 2 ls rule co) (Id t A2 c2 A c gf co))]) (Km 1) (Kv 47 ([((M2 T cl 2 ls rule co),Id t A2 c2 A c gf co)].flatMap fun x=>noC x.1 x.2).toArray) Zk (fun w1 hw h=>Ke Zk) (fun gn=> ?_)
  refine ZR ?_
  refine ZC (fun w1 hw h=>small_m (co:=co) (K:=K) (S:=Tx bg (M2 T cl 2 ls rule co)) (c:=1) (V1 (bg:=bg) h.2 (V0 (hT.below hw) (hc.below hw) (hp.below hw) (.one h.1.2))) rfl rfl rfl rfl (show(0:Int)≤2000 by decide) rfl hn2 hn) fun s=> ?_
  obtain⟨s,hs⟩:=s
  cases s with
  |false=>
   refine ZI true ?_
   refine ZC (fun w1 hw h=>Pj (hE.below hw)) fun e=> ?_
   exact ZW (.bool true)
  | true=>
   obtain⟨g1,g2,g3⟩:=hs rfl
   have h8:=isa_few hT g3
   have hfw:NFs (Tx bg (M2 T cl 2 ls rule co)).nds:=Ic g1 g2
   cases hv:G2 (Tx bg (M2 T cl 2 ls rule co))with
   |false=>
    refine ZC (fun w1 hw h=>V2 (S:=Tx bg (M2 T cl 2 ls rule co)) (y:=(some ⟨gn,0,none⟩,1)) (hE.below hw) (V1 (bg:=bg) h.1.2 (V0 (h8.below hw) (hc.below hw) (hp.below hw) (.one h.1.1.2))) hfw Zd hv) fun v=> ?_
    refine ZI true ?_
    refine ZC (fun w1 hw h=>Pj (hE.below hw)) fun e=> ?_
    exact ZW (.bool true)
   | true=>
    obtain⟨o1,o2,o3,o4,o5⟩:=top_ok hv
    refine ZC (fun w1 hw h=>V2 (S:=Tx bg (M2 T cl 2 ls rule co)) (y:=(some ⟨gn,0,none⟩,1)) (hE.below hw) (V1 (bg:=bg) h.1.2 (V0 (h8.below hw) (hc.below hw) (hp.below hw) (.one h.1.1.2))) hfw Zd hv) fun v=> ?_
    refine ZI false ?_
    have bk:(Mc (M2 T cl 2 ls rule co) T (rm a) (rm b))≤255:=Zx ..
    have bc:(Mh (Kz T cl).1 2 (rm a) (rm b))≤255:=Jr ..
    have ek:Sv (M2 T cl 2 ls rule co) T (rm a) (rm b)=mulB (Mc (M2 T cl 2 ls rule co) T (rm a) (rm b)) (Mh (Kz T cl).1 2 (rm a) (rm b)):=by unfold Sv;rw[show Rc (M2 T cl 2 ls rule co) T (rm a) (rm b)=(Mh (Kz T cl).1 2 (rm a) (rm b))from if_neg h0]
    refine ZC (fun w1 hw h=>top_k (bg:=bg) (c:=1) (gn:=gn) (x:=rm a) (y:=rm b) (top_h (c:=c) (c2:=c2) (hE.below hw) (V1 (bg:=bg) h.1.1.2 (V0 (h8.below hw) (hc.below hw) (hp.below hw) (.one h.1.1.1.2))) hv g1 g2) rfl top_on rfl ek) fun px=> ?_
    refine ZC (fun w1 hw h=>Ey (c:=c) (N:=w.heap.size) (h8.below hw) Zd (hp.below hw) o2 hw.size) fun f=> ?_
    by_cases he:(Kz T ls).2=0
    ·
     refine ZJ (((Kz T ls).2==0)) true (by rw[he];rfl) ?_
     refine ZC (fun w1 hw h=>Hu (T:=T) (n:=f.1.2) f.2.2 h.2.polyA g2 o5 ⟨(O6 a).1,by have:=(O6 a).2;omega⟩ ⟨(O6 b).1,by have:=(O6 b).2;omega⟩) fun cv=> ?_
     refine ZJ (decide ((0:Int)<cl.length)) true (decide_eq_true Zo) ?_
     refine ZC (fun w1 hw h=>Ey (c:=c2) (N:=w.heap.size) (h8.below hw) Zd (hc.below hw) o3 hw.size) fun f2=> ?_
     by_cases he2:(Kz T cl).2=0
     ·
      refine ZJ (((Kz T cl).2 !=0)) false (by rw[he2];rfl) ?_
      refine ZC (fun w1 hw h=>Hu (ls:=cl) (T:=T) (n:=f2.1.2) f2.2.2 h.2.polyA g1 (.inr rfl) ⟨(O6 a).1,by have:=(O6 a).2;omega⟩ ⟨(O6 b).1,by have:=(O6 b).2;omega⟩) fun cv2=> ?_
      refine ZC (fun w1 hw h=>Vc (a:=(Mc (M2 T cl 2 ls rule co) T (rm a) (rm b))) (b:=(Mh (Kz T cl).1 2 (rm a) (rm b))) bk bc) fun ck=> ?_
      refine ZC (fun w1 hw h=>Nm (c:=Mb co) (Lj co)) fun p1=> ?_
      refine ZC (fun w1 hw h=>Nm (c:=Mb bg) (Lj bg)) fun p2=> ?_
      refine ZD 12 (fun w1 hw h=>Qj (k:=mulB (Mc (M2 T cl 2 ls rule co) T (rm a) (rm b)) (Mh (Kz T cl).1 2 (rm a) (rm b))) (Lj co).pre (Lj bg).pre (Ow bk bc)) fun bl=> ?_
      refine ZB 12 (Xs 53 (.tmp 100) (.tmp 108) (Mw ((Mb co).pre.blend (Mb bg).pre (mulB (Mc (M2 T cl 2 ls rule co) T (rm a) (rm b)) (Mh (Kz T cl).1 2 (rm a) (rm b))))) (Mw ((Mb co).pre.blend (Mb bg).pre (mulB (Mc (M2 T cl 2 ls rule co) T (rm a) (rm b)) (Mh (Kz T cl).1 2 (rm a) (rm b)))))) (.bool true) (fun w1 hw h=>Qt) ?_
      refine ZC (fun w1 hw h=>Pj (hE.below hw)) fun e=> ?_
      exact ZW (.bool true)
     ·
      refine ZJ (((Kz T cl).2 !=0)) true (bne_iff_ne.2 he2) ?_
      refine ZC (fun w1 hw h=>Hu (ls:=cl) (T:=T) (A:=none) (n:=0) (H:=[]) (by rw[Xk he2];rfl) (L4.nil_ (B:=0)).polyA g1 (.inr rfl) ⟨(O6 a).1,by have:=(O6 a).2;omega⟩ ⟨(O6 b).1,by have:=(O6 b).2;omega⟩) fun cv2=> ?_
      refine ZC (fun w1 hw h=>Vc (a:=(Mc (M2 T cl 2 ls rule co) T (rm a) (rm b))) (b:=(Mh (Kz T cl).1 2 (rm a) (rm b))) bk bc) fun ck=> ?_
      refine ZC (fun w1 hw h=>Nm (c:=Mb co) (Lj co)) fun p1=> ?_
      refine ZC (fun w1 hw h=>Nm (c:=Mb bg) (Lj bg)) fun p2=> ?_
      refine ZD 12 (fun w1 hw h=>Qj (k:=mulB (Mc (M2 T cl 2 ls rule co) T (rm a) (rm b)) (Mh (Kz T cl).1 2 (rm a) (rm b))) (Lj co).pre (Lj bg).pre (Ow bk bc)) fun bl=> ?_
      refine ZB 12 (Xs 53 (.tmp 100) (.tmp 108) (Mw ((Mb co).pre.blend (Mb bg).pre (mulB (Mc (M2 T cl 2 ls rule co) T (rm a) (rm b)) (Mh (Kz T cl).1 2 (rm a) (rm b))))) (Mw ((Mb co).pre.blend (Mb bg).pre (mulB (Mc (M2 T cl 2 ls rule co) T (rm a) (rm b)) (Mh (Kz T cl).1 2 (rm a) (rm b)))))) (.bool true) (fun w1 hw h=>Qt) ?_
      refine ZC (fun w1 hw h=>Pj (hE.below hw)) fun e=> ?_
      exact ZW (.bool true)
    ·
     refine ZJ (((Kz T ls).2==0)) false (beq_eq_false_iff_ne.2 he) ?_
     refine K0.slot 21 (.int .u8 0) (.int .u8 ((Mc (M2 T cl 2 ls rule co) T (rm a) (rm b)):Int)) Zk (by rw[show(Mc (M2 T cl 2 ls rule co) T (rm a) (rm b))=0 from cov_no he];rfl) ?_
     refine ZJ (decide ((0:Int)<cl.length)) true (decide_eq_true Zo) ?_
     refine ZC (fun w1 hw h=>Ey (c:=c2) (N:=w.heap.size) (h8.below hw) Zd (hc.below hw) o3 hw.size) fun f2=> ?_
     by_cases he2:(Kz T cl).2=0
     ·
      refine ZJ (((Kz T cl).2 !=0)) false (by rw[he2];rfl) ?_
      refine ZC (fun w1 hw h=>Hu (ls:=cl) (T:=T) (n:=f2.1.2) f2.2.2 h.2.polyA g1 (.inr rfl) ⟨(O6 a).1,by have:=(O6 a).2;omega⟩ ⟨(O6 b).1,by have:=(O6 b).2;omega⟩) fun cv2=> ?_
      refine ZC (fun w1 hw h=>Vc (a:=(Mc (M2 T cl 2 ls rule co) T (rm a) (rm b))) (b:=(Mh (Kz T cl).1 2 (rm a) (rm b))) bk bc) fun ck=> ?_
      refine ZC (fun w1 hw h=>Nm (c:=Mb co) (Lj co)) fun p1=> ?_
      refine ZC (fun w1 hw h=>Nm (c:=Mb bg) (Lj bg)) fun p2=> ?_
      refine ZD 12 (fun w1 hw h=>Qj (k:=mulB (Mc (M2 T cl 2 ls rule co) T (rm a) (rm b)) (Mh (Kz T cl).1 2 (rm a) (rm b))) (Lj co).pre (Lj bg).pre (Ow bk bc)) fun bl=> ?_
      refine ZB 12 (Xs 53 (.tmp 100) (.tmp 108) (Mw ((Mb co).pre.blend (Mb bg).pre (mulB (Mc (M2 T cl 2 ls rule co) T (rm a) (rm b)) (Mh (Kz T cl).1 2 (rm a) (rm b))))) (Mw ((Mb co).pre.blend (Mb bg).pre (mulB (Mc (M2 T cl 2 ls rule co) T (rm a) (rm b)) (Mh (Kz T cl).1 2 (rm a) (rm b)))))) (.bool true) (fun w1 hw h=>Qt) ?_
      refine ZC (fun w1 hw h=>Pj (hE.below hw)) fun e=> ?_
      exact ZW (.bool true)
     ·
      refine ZJ (((Kz T cl).2 !=0)) true (bne_iff_ne.2 he2) ?_
      refine ZC (fun w1 hw h=>Hu (ls:=cl) (T:=T) (A:=none) (n:=0) (H:=[]) (by rw[Xk he2];rfl) (L4.nil_ (B:=0)).polyA g1 (.inr rfl) ⟨(O6 a).1,by have:=(O6 a).2;omega⟩ ⟨(O6 b).1,by have:=(O6 b).2;omega⟩) fun cv2=> ?_
      refine ZC (fun w1 hw h=>Vc (a:=(Mc (M2 T cl 2 ls rule co) T (rm a) (rm b))) (b:=(Mh (Kz T cl).1 2 (rm a) (rm b))) bk bc) fun ck=> ?_
      refine ZC (fun w1 hw h=>Nm (c:=Mb co) (Lj co)) fun p1=> ?_
      refine ZC (fun w1 hw h=>Nm (c:=Mb bg) (Lj bg)) fun p2=> ?_
      refine ZD 12 (fun w1 hw h=>Qj (k:=mulB (Mc (M2 T cl 2 ls rule co) T (rm a) (rm b)) (Mh (Kz T cl).1 2 (rm a) (rm b))) (Lj co).pre (Lj bg).pre (Ow bk bc)) fun bl=> ?_
      refine ZB 12 (Xs 53 (.tmp 100) (.tmp 108) (Mw ((Mb co).pre.blend (Mb bg).pre (mulB (Mc (M2 T cl 2 ls rule co) T (rm a) (rm b)) (Mh (Kz T cl).1 2 (rm a) (rm b))))) (Mw ((Mb co).pre.blend (Mb bg).pre (mulB (Mc (M2 T cl 2 ls rule co) T (rm a) (rm b)) (Mh (Kz T cl).1 2 (rm a) (rm b)))))) (.bool true) (fun w1 hw h=>Qt) ?_
      refine ZC (fun w1 hw h=>Pj (hE.below hw)) fun e=> ?_
      exact ZW (.bool true)
end
theorem in_of_row{w:World}{a:Option Addr}{len cap:Nat}{zs:List Int}
 (h:(a=none∧len=0∧cap=0∧zs=[])∨∃x,a=some x∧len≤cap∧cap≤maxLen∧zs.length=cap∧(∀i,i<zs.length→w.cell? (x.add i)=some (.int .u32 (zs.getD i 0)))∧∀n∈zs,(Lit.int .u32 n).wf=true):
 ∃l,In w a len cap l:=by
 rcases h with ⟨rfl,rfl,rfl,rfl⟩|⟨x,rfl,hl,hm,hz,hc,hwf⟩
 ·exact⟨[],In.nil_⟩
 ·have hb:∀i,i<zs.length→0≤zs.getD i 0∧zs.getD i 0≤4294967295:=by
   intro i hi
   have hmem:zs.getD i 0∈zs:=by
    rw[List.getD_eq_getElem?_getD,List.getElem?_eq_getElem hi]
    exact List.getElem_mem hi
   exact bounds_u32 (hwf _ hmem)
  have hlen:((zs.take len).map Int.toNat).length=len:=by rw[List.length_map,List.length_take];omega
  have hget:∀i,i<len→(dg ((zs.take len).map Int.toNat) i:Int)=zs.getD i 0:=by
   intro i hi
   have h1:=hb i Zo
   have h2:dg ((zs.take len).map Int.toNat) i=(zs.getD i 0).toNat:=by
    simp[dg,List.getElem?_take,hi,List.getElem?_eq_getElem (show i<zs.length by omega)]
   rw[h2];omega
  refine⟨(zs.take len).map Int.toNat,?_,hlen,hl,hm,⟨by rw[O4,hlen];omega,fun h0=> ?_⟩⟩
  ·intro i
   by_cases hi:i<len
   ·have h1:=hb i Zo
    have h2:=hget i hi
    omega
   ·rw[Ua Zo];omega
  ·have hlt:x.block<w.heap.size:=by
    have h1:=World.block_lt_of_cell? w (x.add 0) (hc 0 Zo)
    rwa [Ud]at h1
   refine⟨x,rfl,hlt,fun j u hu=> ?_⟩
   have hj:j<len:=by
    have:=(List.getElem?_eq_some_iff.1 hu).1
    rw[O4,hlen]at this;exact this
   rw[T8 (by rw[hlen];exact hj),hget j hj]at hu
   rw[hc j Zo];exact hu
section
open Go.ChangeShapes Go.WideShapes Go.ChangeAt Go.RowKit Go.Deep Go.WideElems Go.Maps Go.Joins
variable{H:Type}{enc:TypeId×Value→H}{P:Program}{w:World}{base:Nat}{held:Bool}
theorem G1{t e:TypeId}{fuel:Nat}{v:Value}{x:DataW H×List MemPlace}(ht:P.underlying t=some (.slice e))(he:P.underlying e=some (.int .u32))(hc:P.cellsOf e=1)
 (h:DataW.trod enc P w base (fun _=>true) held fuel t [v]=some x):∃A n c l,v= .slice A n c∧In w A n c l:=by
 rcases open_ints ht he hc h with ⟨hcs,_⟩|⟨a,l,c,zs,hcs,_,hl,hm,hz,_,hcell,hwz⟩
 ·simp at hcs
  subst hcs
  exact⟨none,0,0,[],rfl,In.nil_⟩
 ·simp at hcs
  subst hcs
  obtain⟨l',hin⟩:=in_of_row (w:=w) (a:=some a) (len:=l) (cap:=c) (zs:=zs) (.inr ⟨_,rfl,hl,hm,by simpa using hz,hcell,hwz⟩)
  exact⟨_,_,_,l',rfl,hin⟩
open Go.ChangeShapes Go.WideShapes Go.ChangeAt Go.RowKit Go.Deep Go.WideElems Go.Maps Go.Joins
theorem of_in{v:SV}{K:Nat}{w:World}(i:In w v.A v.n v.c v.l)(hK:v.n≤K):Ss v (zi v.s (val v.l)) K w:=⟨i,rfl,hK⟩
end
section
open Go.ChangeShapes Go.WideShapes Go.ChangeAt Go.RowKit Go.Deep Go.WideElems Go.Maps Go.Joins
inductive Sh where
 |int (k:IntKind)
 |bool
 |str
 |dig
 |sl (n:Nat) (e:Sh)
 |nil
 |cons (n:Nat) (s r:Sh)
def Rdw(w:World):Sh→List Value→Prop
 | .int k,cs=>∃z,cs=[.int k z]∧(Lit.int k z).wf=true
 | .bool,cs=>∃b,cs=[.bool b]
 | .str,cs=>∃s:ByteArray,cs=[.string s]∧s.size≤maxLen
 | .dig,cs=>∃A n c l,cs=[.slice A n c]∧In w A n c l
 | .sl n e,cs=>∃A len cap,cs=[.slice A len cap]∧len≤cap∧cap≤maxLen∧∀i,i<len→∃(ad:Addr) (xs:List Value),A=some ad∧xs.length=n∧
  (∀(j:Nat) (v:Value),xs[j]? =some v→w.cell? ((ad.add (i*n)).add j)=some v)∧Rdw w e xs
 | .nil,cs=>cs=[]
 | .cons n s r,cs=>∃a b,cs=a++b∧a.length=n∧Rdw w s a∧Rdw w r b
def shRow(P:Program)(g:TypeId→Option Sh):List Field→Nat→Option Sh
 | [],_=>some .nil
 |f::r,off=>if f.offset=off then(match g f.type,shRow P g r (off+P.cellsOf f.type)with
  |some a,some b=>some (.cons (P.cellsOf f.type) a b)
  |_,_=>none)else none
def shRep(m:Nat)(s:Sh):Nat→Sh
 |0=> .nil
 |n+1=> .cons m s (shRep m s n)
def sumF(P:Program):List Field→Nat
 | []=>0
 |f::r=>P.cellsOf f.type+sumF P r
def shOf(P:Program):Nat→TypeId→Option Sh
 |0,_=>none
 | n+1,t=>match P.underlying t with
  |some (.int k)=>some (.int k)
  |some .bool=>some .bool
  |some .string=>some .str
  | some (.slice e)=>match P.underlying e with
   |some (.int .u32)=>if P.cellsOf e=1 then some .dig else none
   |_=>match shOf P n e with
    |some s=>some (.sl (P.cellsOf e) s)
    |none=>none
  |some (.struct fs)=>if P.cellsOf t=sumF P fs.toList then shRow P (shOf P n) fs.toList 0 else none
  |some (.array m e)=>if P.cellsOf t=m*P.cellsOf e then(match shOf P n e with
   |some s=>some (shRep (P.cellsOf e) s m)
   |none=>none)else none
  |_=>none
section
variable{H:Type}{enc:TypeId×Value→H}{P:Program}{w:World}{base:Nat}{held:Bool}
theorem rd_row{g:TypeId→Option Sh}{m:Nat}{cs:List Value}(hg:∀t sh cs x,g t=some sh→DataW.trod enc P w base (fun _=>true) held m t cs=some x→Rdw w sh cs):∀(l:List Field) (off:Nat) (sh:Sh),shRow P g l off=some sh→
 cs.length=off+sumF P l→(∀f∈l,∃x,DataW.trod enc P w base (fun _=>true) held m f.type ((cs.drop f.offset).take (P.cellsOf f.type))=some x)→Rdw w sh (cs.drop off)
 | [],off,sh,h,hl,_=>by
  simp only[shRow,Option.some.injEq]at h
  subst h
  simp only[Rdw,List.drop_eq_nil_iff]
  simp only[sumF]at hl
  omega
 | f ::r,off,sh,h,hl,hx=>by
  simp only[shRow]at h
  split at h
  ·rename_i hoff
   split at h
   ·rename_i a b ha hb
    injection h with h
    subst h
    simp only[sumF]at hl
    obtain⟨x,hx0⟩:=hx f (List.mem_cons_self ..)
    rw[hoff]at hx0
    refine⟨(cs.drop off).take (P.cellsOf f.type),(cs.drop off).drop (P.cellsOf f.type),(List.take_append_drop _ _).symm,?_,hg _ _ _ _ ha hx0,?_⟩
    ·rw[List.length_take,List.length_drop];omega
    ·rw[List.drop_drop]
     exact rd_row hg r _ b hb Zo fun f' hf'=>hx f' (List.mem_cons_of_mem _ hf')
   ·cases h
  ·cases h
theorem rd_rep{n:Nat}{s:Sh}:∀(k:Nat) (cs:List Value),cs.length=k*n→(∀i,i<k→Rdw w s ((cs.drop (i*n)).take n))→Rdw w (shRep n s k) cs
 |0,cs,hl,_=>by
  show cs=[]
  exact List.length_eq_zero_iff.1 Zo
 |k+1,cs,hl,h=>by
  have e:(k+1)*n=k*n+n:=Nat.succ_mul k n
  have h0:=h 0 Zo
  rw[Nat.zero_mul,List.drop_zero]at h0
  refine⟨cs.take n,cs.drop n,(List.take_append_drop _ _).symm,by rw[List.length_take];omega,h0,rd_rep k _ (by rw[List.length_drop];omega) fun i hi=> ?_⟩
  have:=h (i+1) Zo
  rwa [Nat.succ_mul,Nat.add_comm (i*n) n,←List.drop_drop]at this
theorem rd_of_trod:∀(n:Nat) (m:Nat) (t:TypeId) (cs:List Value) (x:DataW H×List MemPlace) (sh:Sh),shOf P n t=some sh→DataW.trod enc P w base (fun _=>true) held m t cs=some x→Rdw w sh cs
 |0,_,_,_,_,_,h,_=>by cases h
 | n +1,m,t,cs,x,sh,h,hx=>by
  simp only[shOf]at h
  split at h
  ·rename_i k hu
   injection h with h;subst h
   obtain⟨z,h1,h2⟩:=DataW.trod_int hu hx
   exact⟨z,h1,h2.2⟩
  ·rename_i hu
   injection h with h;subst h
   obtain⟨b,h1,_⟩:=DataW.trod_bool hu hx
   exact⟨b,h1⟩
  ·rename_i hu
   injection h with h;subst h
   obtain⟨s,h1,h2⟩:=DataW.trod_string hu hx
   exact⟨s,h1,h2.2⟩
  ·rename_i e hu
   split at h
   ·rename_i he
    split at h
    ·rename_i hc
     injection h with h;subst h
     have hone:∃v,cs=[v]:=by
      rcases open_slice hu hx with ⟨hcs,_⟩|⟨a,len,cap,m,k,D,Pl,hcs,_⟩
      ·exact⟨_,hcs⟩
      ·exact⟨_,hcs⟩
     obtain⟨v,rfl⟩:=hone
     obtain⟨A,n',c,l,rfl,hin⟩:=G1 hu he hc hx
     exact⟨A,n',c,l,rfl,hin⟩
    ·cases h
   ·split at h
    ·rename_i s hs
     injection h with h;subst h
     rcases open_slice hu hx with ⟨hcs,_⟩|⟨a,len,cap,m',k,D,Pl,hcs,hb,hl,hm,hmm,_,hel⟩
     ·exact⟨none,0,0,hcs,Nat.le_refl _,Nat.zero_le _,fun i hi=>absurd hi (Nat.not_lt_zero _)⟩
     ·refine⟨some a,len,cap,hcs,hl,hm,fun i hi=> ?_⟩
      obtain⟨cs',k1,k2⟩:=hel i (by rw[hmm];simp;omega)
      obtain⟨_,k5,k3⟩:=World.cells?_some k1
      exact⟨a,cs',rfl,k5,fun j v hv=>(k3 j (by rw[←k5];exact(List.getElem?_eq_some_iff.1 hv).1)).trans hv,rd_of_trod n k e cs' _ s hs k2⟩
    ·cases h
  ·rename_i fs hu
   split at h
   ·rename_i hc
    obtain⟨xs,n',_,rfl,hl,hlen,hf⟩:=DataW.trod_struct hu hx
    have:=rd_row (w:=w) (base:=base) (held:=held) (enc:=enc) (cs:=cs) (fun t' sh' cs' x' h1 h2=>rd_of_trod n n' t' cs' x' sh' h1 h2) fs.toList 0 sh h Zo (fun f hf'=>by
     obtain⟨i,hi⟩:=List.mem_iff_getElem?.1 hf'
     have h3:=hf i f (by simpa using hi)
     have h4:i<xs.length:=by rw[hlen];exact(Array.getElem?_eq_some_iff.1 (show fs[i]? =some f by simpa using hi)).1
     rw[List.getElem?_eq_getElem h4]at h3
     exact⟨_,h3⟩)
    exact this
   ·cases h
  ·rename_i m' e hu
   split at h
   ·rename_i hc
    split at h
    ·rename_i s hs
     injection h with h;subst h
     obtain⟨xs,k,_,_,hl,hlen,hf⟩:=DataW.trod_array hu hx
     refine rd_rep m' cs (by rw[hl,hc]) fun i hi=> ?_
     have h3:=hf i hi
     obtain⟨y,hy⟩:∃y,xs[i]? =some y:=⟨_,List.getElem?_eq_getElem Zo⟩
     rw[hy]at h3
     exact rd_of_trod n k e _ y s hs h3
    ·cases h
   ·cases h
  ·cases h
theorem rd_of_read{r:Reach}{b0 n:Nat}{t:TypeId}{sh:Sh}{v:Value}{d:DataW H}{p:List MemPlace}(hs:shOf P n t=some sh)(hr:(match P.underlying t with|some (.struct _)|some (.array _ _)=>true|_=>false)=true)
 (hv:Value.okWide P w r b0 t v) (h:DataW.Trod enc P w base (fun _=>true) held t v d p):∃cs:List Value,v= .agg cs.toArray∧Rdw w sh cs:=by
 obtain⟨fuel,hf⟩:=h
 have h1:=rd_of_trod n fuel t _ _ sh hs hf
 unfold Value.okWide at hv
 split at hv
 ·obtain⟨cs,rfl,_⟩:=hv
  exact⟨cs.toList,by simp,h1⟩
 ·obtain⟨cs,rfl,_⟩:=hv
  exact⟨cs.toList,by simp,h1⟩
 ·rename_i hn1 hn2
  split at hr
  ·rename_i hu;exact absurd hu (hn1 _)
  ·rename_i hu;exact absurd hu (hn2 _ _)
  ·cases hr
end
def C7:Sh:= .cons 2 (.cons 1 .bool (.cons 1 .dig .nil)) (.cons 2 (.cons 1 .bool (.cons 1 .dig .nil)) .nil)
section
variable{w:World}{cs:List Value}{n:Nat}{s r:Sh}{k:IntKind}
theorem rd_rat(h:Rdw w C7 cs):∃r:RV,cs=r.cl∧In w r.a.A r.a.n r.a.c r.a.l∧In w r.b.A r.b.n r.b.c r.b.l:=by
 obtain⟨a,b,rfl,_,h1,c,d,rfl,_,h2,rfl⟩:=h
 obtain⟨a1,b1,rfl,_,⟨s1,rfl⟩,a2,b2,rfl,_,⟨A1,n1,c1,l1,rfl,i1⟩,rfl⟩:=h1
 obtain⟨a3,b3,rfl,_,⟨s2,rfl⟩,a4,b4,rfl,_,⟨A2,n2,c2,l2,rfl,i2⟩,rfl⟩:=h2
 exact⟨⟨⟨s1,A1,n1,c1,l1⟩,⟨s2,A2,n2,c2,l2⟩⟩,rfl,i1,i2⟩
end
def shAff:Sh:= .cons 4 C7 (.cons 4 C7 (.cons 4 C7 (.cons 4 C7 (.cons 4 C7 (.cons 4 C7 .nil)))))
def InR(r:RV)(w:World):Prop:=In w r.a.A r.a.n r.a.c r.a.l∧In w r.b.A r.b.n r.b.c r.b.l
theorem Pq{w:World}{n:Nat}{s r:Sh}{cs:List Value}(h:Rdw w (.cons n s r) cs):∃a b,cs=a++b∧a.length=n∧Rdw w s a∧Rdw w r b:=h
theorem X9{w:World}{cs:List Value}(h:Rdw w C7 cs):∃r:RV,cs=r.cl∧InR r w:=by
 obtain⟨r,h1,h2⟩:=rd_rat h
 exact⟨r,h1,h2⟩
end
structure InT(t:TV)(w:World):Prop where
 a:InR t.a w
 b:InR t.b w
 c:InR t.c w
 d:InR t.d w
 e:InR t.e w
 f:InR t.f w
theorem rd_aff{w:World}{cs:List Value}(h:Rdw w shAff cs):∃t:TV,cs=t.cl∧InT t w:=by
 obtain⟨_,_,rfl,_,h1,h⟩:=Pq h
 obtain⟨_,_,rfl,_,h2,h⟩:=Pq h
 obtain⟨_,_,rfl,_,h3,h⟩:=Pq h
 obtain⟨_,_,rfl,_,h4,h⟩:=Pq h
 obtain⟨_,_,rfl,_,h5,h⟩:=Pq h
 obtain⟨_,_,rfl,_,h6,h⟩:=Pq h
 obtain rfl:=h
 obtain⟨a,rfl,ia⟩:=X9 h1
 obtain⟨b,rfl,ib⟩:=X9 h2
 obtain⟨c,rfl,ic⟩:=X9 h3
 obtain⟨d,rfl,id⟩:=X9 h4
 obtain⟨e,rfl,ie⟩:=X9 h5
 obtain⟨f,rfl,if_⟩:=X9 h6
 exact⟨⟨a,b,c,d,e,f⟩,by simp[TV.cl],ia,ib,ic,id,ie,if_⟩
def shPtS:Sh:= .cons 1 (.int .i64) (.cons 1 (.int .i64) .nil)
def shSg:Sh:= .cons 1 (.int .i64) (.cons 2 shPtS (.cons 2 shPtS (.cons 2 shPtS .nil)))
section
variable{w:World}{A:Option Addr}{n c:Nat}{ls:List Sg}
theorem Iy{k:IntKind}{a:List Value}(h:Rdw w (.int k) a):∃z,a=[.int k z]:=by obtain⟨z,h,_⟩:=h;exact⟨z,h⟩
theorem rd_ptS{a:List Value}(h:Rdw w shPtS a):∃x y,a=[.int .i64 x,.int .i64 y]:=by
 obtain⟨a1,b1,rfl,_,h1,a2,b2,rfl,_,h2,h3⟩:=h
 obtain⟨x,rfl⟩:=Iy h1
 obtain⟨y,rfl⟩:=Iy h2
 have h3:b2=[]:=h3
 subst h3
 exact⟨x,y,rfl⟩
theorem rd_sg{a:List Value}(h:Rdw w shSg a):∃s:Sg,a=s.cl:=by
 obtain⟨a1,b1,rfl,_,h1,a2,b2,rfl,_,h2,a3,b3,rfl,_,h3,a4,b4,rfl,_,h4,h5⟩:=h
 obtain⟨v,rfl⟩:=Iy h1
 obtain⟨ax,ay,rfl⟩:=rd_ptS h2
 obtain⟨bx,by_,rfl⟩:=rd_ptS h3
 obtain⟨cx,cy,rfl⟩:=rd_ptS h4
 have h5:b4=[]:=h5
 subst h5
 exact⟨⟨v,ax,ay,bx,by_,cx,cy⟩,rfl⟩
theorem sg_of_rd(h:Rdw w (.sl 7 shSg) [.slice A n c]):∃ls,Sa w A n ls:=by
 obtain⟨A',len,cap,e,h1,h2,h3⟩:=h
 simp only[List.cons.injEq,Value.slice.injEq,and_true]at e
 obtain⟨rfl,rfl,rfl⟩:=e
 have key:∀j,j≤n→∃ls:List Sg,ls.length=j∧∀(k:Nat) (s:Sg),ls[k]? =some s→∃ad,A=some ad∧∀(i:Nat) (v:Value),s.cl[i]? =some v→w.cell? ((ad.add (k*7)).add i)=some v:=by
  intro j
  induction j with
  |zero=>exact fun _=>⟨[],rfl,fun k s h=>by simp at h⟩
  | succ j ih=>
   intro hj
   obtain⟨ls,k1,k2⟩:=ih Zo
   obtain⟨ad,xs,hA,hx,hc,hr⟩:=h3 j Zo
   obtain⟨s,rfl⟩:=rd_sg hr
   refine⟨ls++ [s],by simp[k1],fun k u hu=> ?_⟩
   rcases Nat.lt_or_ge k j with hlt|hge
   ·rw[List.getElem?_append_left Zo]at hu
    exact k2 k u hu
   ·have hu':=(List.getElem?_eq_some_iff.1 hu).1
    simp only[List.length_append,List.length_singleton]at hu'
    obtain rfl:k=j:=by omega
    rw[List.getElem?_append_right Zo,k1,Nat.sub_self]at hu
    cases hu
    exact⟨ad,hA,hc⟩
 obtain⟨ls,k1,k2⟩:=key n (Nat.le_refl _)
 exact⟨ls,k1,k2⟩
end
section
variable{w:World}{cs:List Value}
theorem Gv(h:Rdw w (.int .u8) cs):∃c:UInt8,cs=[.int .u8 (c.toNat:Int)]:=by
 obtain⟨z,rfl,hz⟩:=h
 have h2:0≤z∧z≤255:=by
  simp only[Lit.wf,Bool.and_eq_true,decide_eq_true_iff]at hz
  exact hz
 refine⟨UInt8.ofNat z.toNat,?_⟩
 have h3:(UInt8.ofNat z.toNat).toNat=z.toNat:=by
  rw[UInt8.toNat_ofNat']
  omega
 rw[h3,Int.toNat_of_nonneg h2.1]
def shCol:Sh:= .cons 1 (.int .u8) (.cons 1 (.int .u8) (.cons 1 (.int .u8) (.cons 1 (.int .u8) .nil)))
def coL(c:Co):List Value:=[.int .u8 (c.1.toNat:Int),.int .u8 (c.2.1.toNat:Int),.int .u8 (c.2.2.1.toNat:Int),.int .u8 (c.2.2.2.toNat:Int)]
theorem rd_co(h:Rdw w shCol cs):∃c:Co,cs=coL c:=by
 obtain⟨_,_,rfl,_,h1,h⟩:=Pq h
 obtain⟨_,_,rfl,_,h2,h⟩:=Pq h
 obtain⟨_,_,rfl,_,h3,h⟩:=Pq h
 obtain⟨_,_,rfl,_,h4,h⟩:=Pq h
 obtain rfl:=h
 obtain⟨a,rfl⟩:=Gv h1
 obtain⟨b,rfl⟩:=Gv h2
 obtain⟨c,rfl⟩:=Gv h3
 obtain⟨d,rfl⟩:=Gv h4
 exact⟨(a,b,c,d),rfl⟩
theorem rd_two{n:Nat}{s:Sh}(h:Rdw w (.cons n s (.cons n s .nil)) cs):∃a b,cs=a++b∧Rdw w s a∧Rdw w s b:=by
 obtain⟨a,_,rfl,_,h1,h⟩:=Pq h
 obtain⟨b,_,rfl,_,h2,h⟩:=Pq h
 obtain rfl:=h
 exact⟨a,b,by rw[List.append_nil],h1,h2⟩
theorem rd_lens{n m c:Nat}{A:Option Addr}{e:Sh}(h:Rdw w (.sl n e) [.slice A m c]):m≤9223372036854775807:=by
 obtain⟨A',n',c',e,h1,h2,_⟩:=h
 simp only[List.cons.injEq,Value.slice.injEq,and_true]at e
 obtain⟨rfl,rfl,rfl⟩:=e
 have:maxLen≤9223372036854775807:=by unfold maxLen;decide
 omega
theorem Xh{r:RV}{K:Nat}(h:InR r w)(hK:r.a.n+r.b.n≤K):∃q,Ox r q K w:=⟨_,_,_,of_in h.1 Zo,of_in h.2 Zo,rfl⟩
theorem int_isA{t:TV}(h:InT t w):∃T K,S4 t T K w:=by
 obtain⟨K,hK⟩:∃K,K=(t.a.a.n+t.a.b.n)+(t.b.a.n+t.b.b.n)+(t.c.a.n+t.c.b.n)+(t.d.a.n+t.d.b.n)+(t.e.a.n+t.e.b.n)+(t.f.a.n+t.f.b.n):=⟨_,rfl⟩
 obtain⟨a,ha⟩:=Xh (K:=K) h.a Zo
 obtain⟨b,hb⟩:=Xh (K:=K) h.b Zo
 obtain⟨c,hc⟩:=Xh (K:=K) h.c Zo
 obtain⟨d,hd⟩:=Xh (K:=K) h.d Zo
 obtain⟨e,he⟩:=Xh (K:=K) h.e Zo
 obtain⟨f,hf⟩:=Xh (K:=K) h.f Zo
 exact⟨⟨a,b,c,d,e,f⟩,K,ha,hb,hc,hd,he,hf⟩
def Done(w:World)(e:Ending)(w':World):Prop:=e= .returned (.bool true)∧Below w.heap.size w w'
theorem law_done{e:Ending}{w':World}(h:K3 w (fun _:Unit=> .bool true) (fun _ _=>True) e w'):Done w e w':=⟨h.choose_spec.1,h.choose_spec.2.1⟩
theorem rowTop{x0 x4 x5:List Value}{A A2:Option Addr}{n c n2 c2:Nat}{rule:Int}(hE:ET w)(i0:Rdw w shAff x0)(i1:Rdw w (.sl 7 shSg) [.slice A n c])(i3:Rdw w (.sl 7 shSg) [.slice A2 n2 c2])(i4:Rdw w (.cons 4 shCol (.cons 4 shCol .nil)) x4)(i5:Rdw w (.cons 1 (.int .u8) (.cons 1 (.int .u8) .nil)) x5):
 Calls Tryz.prog 3 #[.agg x0.toArray,.slice A n c,.int .i64 rule,.slice A2 n2 c2,.agg x4.toArray,.agg x5.toArray] w (Done w):=by
 obtain⟨t,rfl,it⟩:=rd_aff i0
 obtain⟨T,K,hT⟩:=int_isA it
 obtain⟨ls,hp⟩:=sg_of_rd i1
 obtain⟨cl,hc⟩:=sg_of_rd i3
 obtain⟨_,_,rfl,j1,j2⟩:=rd_two i4
 obtain⟨co,rfl⟩:=rd_co j1
 obtain⟨bg,rfl⟩:=rd_co j2
 obtain⟨_,_,rfl,k1,k2⟩:=rd_two i5
 obtain⟨a,rfl⟩:=Gv k1
 obtain⟨b,rfl⟩:=Gv k2
 have hn:=rd_lens i1
 have hn2:=rd_lens i3
 obtain rfl:=hp.1
 obtain rfl:=hc.1
 exact(law_m (co:=co) (bg:=bg) (a:=a) (b:=b) hE hT hp hc hn hn2).mono fun _ _ h=>law_done h
end
end Go.Proofs.YtpgkbllcnphmbaaGreatDoor
