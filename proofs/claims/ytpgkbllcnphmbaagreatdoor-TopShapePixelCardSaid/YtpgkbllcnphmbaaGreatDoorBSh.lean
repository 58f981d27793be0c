/-
 A part of the proof.
-/
import Derived.Test.YtpgkbllcnphmbaaGreatDoorBSa
namespace Go.Proofs.YtpgkbllcnphmbaaGreatDoor
set_option linter.unusedVariables false
set_option linter.unusedSimpArgs false
open Go.RowKit
theorem aff_ext{T U:Mi}(h1:T.a=U.a)(h2:T.b=U.b)(h3:T.c=U.c)(h4:T.d=U.d)(h5:T.e=U.e)(h6:T.f=U.f):T=U:=by
 cases T;cases U
 simp only at h1 h2 h3 h4 h5 h6
 subst h1;subst h2;subst h3;subst h4;subst h5;subst h6
 rfl
theorem q0:((0:Int):Rat)=0:=rfl
theorem q1:((1:Int):Rat)=1:=rfl
theorem Zu(T:Mi):Oi.comp T=T:=by
 refine aff_ext ?_ ?_ ?_ ?_ ?_ ?_<;>simp only[Mi.comp,Oi,affI,Mi.app,q0,q1]<;>grind
theorem comp1E{T:Mi}(h:T.ok=true):Tm [T]=0:=by
 unfold Tm Xy Xy
 rw[Zu,List.all_cons,List.all_nil,h];rfl
theorem comp1F(T:Mi):compF [T]=T:=Zu T
theorem comp2E{T U:Mi}(h:T.ok=true)(h2:U.ok=true)(h3:(T.comp U).ok=true):Tm [T,U]=0:=by
 unfold Tm Xy Xy Xy
 rw[Zu,List.all_cons,List.all_cons,List.all_nil,h,h2,h3];rfl
theorem comp2F(T U:Mi):compF [T,U]=T.comp U:=congrArg (·.comp U) (Zu T)
def WtOk(S:Sc)(gn c i:Nat)(T:Mi)(w:World):Prop:=∀w1,Below w.heap.size w w1→Calls Tryz.prog 265 #[S8 S gn c,.int .i64 i] w1 (K3 w1 (fun r:TV=> .tuple #[r.val,.int .i64 0]) fun r u=>Sb r T 8 u)
section
variable{w u:World}{S:Sc}{gn c i N0 n:Nat}{nl:List (Nd×ND)}{N N1:Nd}{q q1:ND}{T:Mi}{t:TV}{K:Nat}{A:Option Addr}{ls:List Sg}
theorem WtOk.below{w1:World}(h:WtOk S gn c i T w)(hw:Below w.heap.size w w1):WtOk S gn c i T w1:=fun w2 hw2=>h w2 (hw.trans (hw2.mono hw.size))
theorem TV.cl_len(t:TV):t.cl.length=24:=rfl
theorem TV.cl_one(t:TV):∀v∈t.cl,v.oneCell'=true:=List.all_eq_true.1 (show(t.cl.all fun u=>u.oneCell')=true from by kernel_rfl)
theorem noC_t{j:Nat}{v:Value}(hv:q.t.cl[j]? =some v):(noC N q)[3+j]? =some v:=by
 have hj:j<24:=(List.getElem?_eq_some_iff.1 hv).1
 unfold noC
 rw[List.getElem?_append_right Zs,List.getElem?_append_left (by simp;exact hj)]
 simpa using hv
theorem Uu.ldT(hS:Uu w S gn c nl)(hx:nl[i]? =some (N,q)):(Kd 28 ⟨gn,i*47+3,none⟩).run Tryz.prog w= .ok (.value q.t.val) w:=
 Ka (vs:=q.t.cl) Zk Zk fun j v hj=>by have:=hS.cell hx (noC_t hj);rwa [←Nat.add_assoc]at this
theorem row_own{L:List TV}{Ts:List Mi}{z:Option Addr×Nat}{B:Nat}(h:K6 u B 28 24 z.1 n z.2 (L.flatMap TV.cl))(hn:L.length=n)(hT:Ts.length=n)(he:∀(k:Nat) (t:TV) (T:Mi),L[k]? =some t→Ts[k]? =some T→S4 t T K u):RowT u z.1 n L Ts K:=
 ⟨hn,hT,(h.reads.rows (cl:=TV.cl) (l:=L) TV.cl_len hn).2,he⟩
theorem elems1(h:S4 t T K u):∀(k:Nat) (t':TV) (T':Mi),[t][k]? =some t'→[T][k]? =some T'→S4 t' T' K u
 |0,_,_,h1,h2=>by simp at h1 h2;subst h1;subst h2;exact h
 |k+1,_,_,h1,_=>by simp at h1
theorem elems2{t2:TV}{T2:Mi}(h:S4 t T K u)(h3:S4 t2 T2 K u):∀(k:Nat) (t':TV) (T':Mi),[t,t2][k]? =some t'→[T,T2][k]? =some T'→S4 t' T' K u
 |0,_,_,h1,h2=>by simp at h1 h2;subst h1;subst h2;exact h
 |1,_,_,h1,h2=>by simp at h1 h2;subst h1;subst h2;exact h3
 |k+2,_,_,h1,_=>by simp at h1
theorem wt0_m(hS:Uu w S gn c nl)(hx:nl[0]? =some (N,q))(hok:N.T.ok=true):WtOk S gn c 0 N.T w:=fun w2 hw2=>by
 have hl:0<S.nds.length:=(hS.at_ hx).2.1
 have hS2:=hS.below hw2
 have htr:=(hS2.at_ hx).2.2.tr
 refine K0.enter Tryz.func265 rfl ?_
 refine ZR ?_
 refine ZC (fun w1 hw h=>Dv (hS2.below hw)) fun v=> ?_
 refine ZI false ?_
 refine ZJ (decide ((0:Int)≥(S.nds.length:Int))) false (decide_eq_false Zo) ?_
 refine K0.un Zk ?_
 refine ZR ?_
 refine ZI true ?_
 refine ZA (Kc 48 (.slice (some ⟨gn,0,none⟩) S.nds.length c) (0:Nat)) (.pointer (some ⟨gn,0*47,none⟩)) (fun w1 hw h=>La hl) ?_
 refine K0.ask (Kd 28 ⟨gn,0*47+3,none⟩) (q.t.val) Zk (fun w1 hw h=>(hS2.below hw).ldT hx) ?_
 refine ZS 7 ?_
 refine K0.make (M5 (395) 1 #[(0,q.t.val)]) (Km 1) (Kv 28 q.t.cl.toArray) Zk (fun w1 hw h=>Ke Zk) (fun gb=> ?_)
 refine ZS 8 ?_
 refine K0.make (Nc 395 395 (.slice none 0 0) (Km 1 gb)) (fun z:Option Addr×Nat=> .slice z.1 1 z.2) (fun z u=>K6 u w2.heap.size 28 24 z.1 1 z.2 q.t.cl) Zk (fun w1 hw h=>Ue (z0:=TV0.val) (bytes:=384) Zk Zk rfl Zd rfl q.t.cl_one Zd h.2 hw.size) (fun z=> ?_)
 refine ZR ?_
 refine ZC (fun w1 hw h=>H2 (hS2.below hw) hl) fun p=> ?_
 refine ZI false ?_
 refine ZC (fun w1 hw h=>Hw (L:=[q.t]) (Ts:=[N.T]) (c:=z.2) (K:=8) (comp1E hok) (row_own (z:=z) (by simpa using h.1.2) rfl rfl (elems1 (htr.below hw))) (by show 1≤1000;decide) Zd) fun r=> ?_
 refine ZV (.tuple #[r.val,.int .i64 0]) (fun w1 hw h=>⟨r,rfl,hw,fun u k1 k2=>by have:=(h u k1 k2).2;unfold OutA at this;rw[if_pos rfl,comp1F]at this;exact this⟩)
theorem app_aff{z:Option Addr×Nat}{acc:List TV}{B m gb:Nat}(ho:K6 u B 28 24 z.1 m z.2 (acc.flatMap TV.cl))(hB:B≤u.heap.size)(hg:Kv 28 t.cl.toArray gb u)(hm:m≤10000000):
 Nf Tryz.prog u (bl z.1) (fun z:Option Addr×Nat=> .slice z.1 (m+1) z.2) (fun z v=>K6 v B 28 24 z.1 (m+1) z.2 ((acc++ [t]).flatMap TV.cl)) (Nc 395 395 (.slice z.1 m z.2) (Km 1 gb)):=by
 have ha:=M9 (P:=Tryz.prog) (s:=24) (z:=TV0.val) (bytes:=384) (m:=1) (cc:=1) (t:=395) (elem:=28) Zk Zk rfl Zd ho hB (M8 (n:=1) hg rfl) (by simpa using t.cl_one) Zo Zd
 have e:(acc++ [t]).flatMap TV.cl=acc.flatMap TV.cl++t.cl.toArray.toList:=by simp
 rw[e];exact ha
theorem wt1_m(hS:Uu w S gn c nl)(hx:nl[0]? =some (N,q))(hx1:nl[1]? =some (N1,q1))(hd:N.dep=0)(hd1:N1.dep=1)(hok:N.T.ok=true)(hok1:N1.T.ok=true)(hok2:(N1.T.comp N.T).ok=true):WtOk S gn c 1 (N1.T.comp N.T) w:=fun w2 hw2=>by
 have hl:1<S.nds.length:=(hS.at_ hx1).2.1
 have hS2:=hS.below hw2
 have htr:=(hS2.at_ hx).2.2.tr
 have htr1:=(hS2.at_ hx1).2.2.tr
 refine K0.enter Tryz.func265 rfl ?_
 refine ZR ?_
 refine ZC (fun w1 hw h=>Dv (hS2.below hw)) fun v=> ?_
 refine ZI false ?_
 refine ZJ (decide ((1:Int)≥(S.nds.length:Int))) false (decide_eq_false Zo) ?_
 refine K0.un Zk ?_
 refine ZR ?_
 refine ZI true ?_
 refine ZA (Kc 48 (.slice (some ⟨gn,0,none⟩) S.nds.length c) (1:Nat)) (.pointer (some ⟨gn,1*47,none⟩)) (fun w1 hw h=>La hl) ?_
 refine K0.ask (Kd 28 ⟨gn,1*47+3,none⟩) (q1.t.val) Zk (fun w1 hw h=>(hS2.below hw).ldT hx1) ?_
 refine ZS 7 ?_
 refine K0.make (M5 (395) 1 #[(0,q1.t.val)]) (Km 1) (Kv 28 q1.t.cl.toArray) Zk (fun w1 hw h=>Ke Zk) (fun gb=> ?_)
 refine ZS 8 ?_
 refine K0.make (Nc 395 395 (.slice none 0 0) (Km 1 gb)) (fun z:Option Addr×Nat=> .slice z.1 1 z.2) (fun z u=>K6 u w2.heap.size 28 24 z.1 1 z.2 q1.t.cl) Zk (fun w1 hw h=>Ue (z0:=TV0.val) (bytes:=384) Zk Zk rfl Zd rfl q1.t.cl_one Zd h.2 hw.size) (fun z=> ?_)
 refine ZR ?_
 refine ZC (fun w1 hw h=>parent1_m (hS2.below hw) hx hx1 hd hd1) fun p=> ?_
 refine ZI true ?_
 refine ZA (Kc 48 (.slice (some ⟨gn,0,none⟩) S.nds.length c) (0:Nat)) (.pointer (some ⟨gn,0*47,none⟩)) (fun w1 hw h=>La Zo) ?_
 refine K0.ask (Kd 28 ⟨gn,0*47+3,none⟩) (q.t.val) Zk (fun w1 hw h=>(hS2.below hw).ldT hx) ?_
 refine ZS 7 ?_
 refine K0.make (M5 (395) 1 #[(0,q.t.val)]) (Km 1) (Kv 28 q.t.cl.toArray) Zk (fun w1 hw h=>Ke Zk) (fun gb2=> ?_)
 refine ZS 8 ?_
 refine K0.mutOp (L:=bl z.1) (val:=fun(z:Option Addr×Nat)=> .slice z.1 (1+1) z.2) (Φ':=fun(z':Option Addr×Nat) v=>K6 v w2.heap.size 28 24 z'.1 (1+1) z'.2 (([q1.t]++ [q.t]).flatMap TV.cl)) (G:=fun(z':Option Addr×Nat) v=>K6 v w2.heap.size 28 24 z'.1 (1+1) z'.2 (([q1.t]++ [q.t]).flatMap TV.cl)) (Nc 395 395 (.slice z.1 1 z.2) (Km 1 gb2)) (fun w1 hw h=>app_aff (acc:=[q1.t]) (by simpa using h.1.1.2) hw.size h.2 Zd) (fun w1 h b hb=>⟨(h.1.1.2.lt b hb).1,(h.1.1.2.blk b hb).2⟩) (fun z' wa w1 e1 e2 h hG=>hG) Zk Zk (fun z'=> ?_)
 refine ZR ?_
 refine ZC (fun w1 hw h=>H2 (hS2.below hw) Zo) fun p2=> ?_
 refine ZI false ?_
 refine ZC (fun w1 hw h=>Hw (L:=[q1.t,q.t]) (Ts:=[N1.T,N.T]) (c:=z'.2) (K:=8) (comp2E hok1 hok hok2) (row_own (z:=z') h.1 rfl rfl (elems2 (htr1.below hw) (htr.below hw))) (by show 2≤1000;decide) Zd) fun r=> ?_
 refine ZV (.tuple #[r.val,.int .i64 0]) (fun w1 hw h=>⟨r,rfl,hw,fun u k1 k2=>by have:=(h u k1 k2).2;unfold OutA at this;rw[if_pos rfl,comp2F]at this;exact this⟩)
theorem Xk{T:Mi}{ls:List Sg}(h:(Kz T ls).2≠0):(Kz T ls).1=[]:=by
 unfold Kz at h ⊢
 split
 ·rename_i h1
  rw[if_pos h1]at h
  split
  ·rename_i h2;rw[if_pos h2]at h;exact absurd rfl h
  ·rfl
 ·rfl
abbrev PolX(L:List (List Pt)):=(Option Addr×Nat)×{H:List LP // K4 H=L}
theorem wfill_m{cc:Nat}(ht:S4 t T K w)(hK:8≤K∧K≤10000)(hs:Sa w A n ls)(hv:(Ff ls).1=0)(hN:N0≤w.heap.size):
 Calls Tryz.prog 282 #[.agg (t.cl++ [Value.bool true]).toArray,.slice A n cc] w (K3 w (fun x:PolX (Kz T ls).1=> .slice x.1.1 x.2.1.length x.1.2) fun x u=>L4 N0 x.1 x.2.1.length x.2.1 u):=by
 obtain⟨e,he⟩:∃e,(Kz T ls).2=e:=⟨_,rfl⟩
 have hf:∀w1,Below w.heap.size w w1→Calls Tryz.prog 8 #[.slice A n cc,t.val,.int .i64 32] w1 (K3 w1 (fun x:PolX (Kz T ls).1=> .tuple #[.slice x.1.1 x.2.1.length x.1.2,.int .i64 e]) fun x u=>L4 w.heap.size x.1 x.2.1.length x.2.1 u):=fun w1 hw1=>by
  have:=Ey (c:=cc) (N:=w.heap.size) (ht.below hw1) hK (hs.below hw1) hv hw1.size
  rw[he]at this;exact this
 refine K0.enter Tryz.func282 rfl ?_
 refine ZR ?_
 refine ZI false ?_
 refine ZC (fun w1 hw h=>hf w1 hw) fun f=> ?_
 by_cases h0:e=0
 ·
  refine ZJ (e !=0) false (by rw[h0];rfl) ?_
  refine ZV (.slice f.1.1 f.2.1.length f.1.2) (fun w1 hw h=>⟨f,rfl,hw,fun u k1 k2=>L4.mono (h u k1 k2).2 hN⟩)
 ·
  refine ZJ (e !=0) true (bne_iff_ne.2 h0) ?_
  refine ZV (.slice none 0 0) (fun w1 hw h=>⟨((none,0),⟨[],by rw[Xk (by rw[he];exact h0)];rfl⟩),rfl,hw,fun u k1 k2=>L4.nil_⟩)
theorem pmask_m{x y rule:Int}{H:List LP}(hr:Qk x y (x+1) (y+1))(hp:Np w A H.length H)(hV:(K4 H).flatten.length≤192)(hru:rule=1∨rule=2)(hx:0≤x∧x≤4000)(hy:0≤y∧y≤4000)(hn:H.length≤1000000)(hl:∀x∈H,x.1.length≤1000000)(hN:N0≤w.heap.size):
 Calls Tryz.prog 205 #[.slice A H.length n,.int .i64 rule,Mv x y (x+1) (y+1)] w (K3 w (fun m:MV=>Lr m) fun m u=>Cn N0 x y (Mh (K4 H) rule x y) m u):=by
 by_cases h0:H.length=0
 ·obtain rfl:H=[]:=List.length_eq_zero_iff.1 h0
  have hc:Mh (K4 []) rule x y=0:=by unfold Mh;split;exact cov_nil;rfl
  rw[hc]
  refine K0.enter Tryz.func205 rfl ?_
  refine ZR ?_
  refine ZI true ?_
  refine ZC (fun w1 hw h=>Ge (k:=0) (N:=w.heap.size) hr hw.size) fun m=> ?_
  refine ZV (Lr m) (fun w1 hw h=>⟨m,rfl,hw,fun u k1 k2=>Cn.mono (h u k1 k2).2 hN⟩)
 cases hv:vL 0 (K4 H)
 ·have hc:Mh (K4 H) rule x y=0:=by unfold Mh;rw[if_neg (by rw[hv];decide)]
  rw[hc]
  refine K0.enter Tryz.func205 rfl ?_
  refine ZR ?_
  refine ZJ ((H.length:Int)==0) false (beq_eq_false_iff_ne.2 Zo) ?_
  refine ZC (fun w1 hw h=>cmask_no (c:=n) (rule:=rule) (x:=x) (y:=y) (hp.below hw) hn hl hv rfl) fun m=> ?_
  refine ZV (Lr X5) (fun w1 hw h=>⟨X5,rfl,hw,fun u k1 k2=> .nil rfl rfl⟩)
 ·
  refine K0.enter Tryz.func205 rfl ?_
  refine ZR ?_
  refine ZJ ((H.length:Int)==0) false (beq_eq_false_iff_ne.2 Zo) ?_
  refine ZC (fun w1 hw h=>(cmask_m (c:=n) (rule:=rule) (x:=x) (y:=y) (hp.below hw) hn hl hv hV hru hx hy).mono fun e w' k=>k.cast (G':=fun(g:Nat) u=>Kb u g 5 [.int .u8 (Mh (K4 H) rule x y:Int)]∧w.heap.size≤g) fun x u hx=>⟨hx.1,Nat.le_trans hw.size hx.2⟩) fun g=> ?_
  refine ZV (Lr (Mn x y (some ⟨g,0,none⟩,1))) (fun w1 hw h=>⟨Mn x y (some ⟨g,0,none⟩,1),rfl,hw,fun u k1 k2=> .one (some ⟨g,0,none⟩,1) (K6.lit (n:=1) (s:=1) (cells:= #[.int .u8 (Mh (K4 H) rule x y:Int)]) (h u k1 k2).2.1 rfl (Nat.le_trans hN (h u k1 k2).2.2) Zd) rfl⟩)
end
abbrev rcC(x y:Int):List Value:=[.int .i64 x,.int .i64 y,.int .i64 (x+1),.int .i64 (y+1)]
structure W5(x y:Int):Prop where
 r:Qk x y (x+1) (y+1)
 x:0≤x∧x≤4000
 y:0≤y∧y≤4000
structure ClH(w:World)(S:Sc)(gn c:Nat)(nl:List (Nd×ND))(i:Nat)(N:Nd)(q:ND)(T:Mi):Prop where
 s:Uu w S gn c nl
 x:nl[i]? =some (N,q)
 wt:WtOk S gn c i T w
 cl:(Ff N.clip).1=0
 few:Mj N.clip≤24
 ru:N.clip.length=0∨N.crule=1∨N.crule=2
structure FlH(w:World)(S:Sc)(gn c:Nat)(nl:List (Nd×ND))(i:Nat)(N:Nd)(q:ND)(T:Mi):Prop extends ClH w S gn c nl i N q T where
 k:N.kind=2
 fl:N.fill.length≠0
 pa:(Ff N.path).1=0
 pf:Mj N.path≤24
 fr:N.frule=1∨N.frule=2
def Rc(N:Nd)(T:Mi)(x y:Int):Nat:=if N.clip.length=0 then 255 else Mh (Kz T N.clip).1 N.crule x y
def Mc(N:Nd)(T:Mi)(x y:Int):Nat:=Mh (Kz T N.path).1 N.frule x y
theorem clipK_lt(N:Nd)(T:Mi)(x y:Int):Rc N T x y≤255:=by unfold Rc;split;exact Nat.le_refl _;exact Jr ..
section
variable{w u:World}{S:Sc}{gn c i N0 n g1 g2 g3:Nat}{nl:List (Nd×ND)}{N:Nd}{q:ND}{T:Mi}{x y rule:Int}{A:Option Addr}{H:List LP}
theorem ClH.below{w1:World}(k:ClH w S gn c nl i N q T)(hw:Below w.heap.size w w1):ClH w1 S gn c nl i N q T:=⟨k.s.below hw,k.x,k.wt.below hw,k.cl,k.few,k.ru⟩
theorem FlH.below{w1:World}(k:FlH w S gn c nl i N q T)(hw:Below w.heap.size w w1):FlH w1 S gn c nl i N q T:=⟨k.toClH.below hw,k.k,k.fl,k.pa,k.pf,k.fr⟩
theorem find_m(k:ClH w S gn c nl i N q T):Calls Tryz.prog 281 #[S8 S gn c,.int .i64 i] w (K3 w (fun r:TV=> .agg (r.cl++([Value.bool true]++noC N q)).toArray) fun r u=>Sb r T 8 u):=by
 have hl:=(k.s.at_ k.x).2.1
 refine K0.enter Tryz.func281 rfl ?_
 refine ZR ?_
 refine ZC (fun w1 hw h=>k.wt w1 hw) fun r=> ?_
 refine ZI false ?_
 refine ZB 7 (Kc 48 (.slice (some ⟨gn,0,none⟩) S.nds.length c) i) (.pointer (some ⟨gn,i*47,none⟩)) (fun w1 hw h=>La hl) ?_
 refine ZB 8 (Kd 47 ⟨gn,i*47,none⟩) (noV N q) (fun w1 hw h=>(k.s.below hw).ld k.x) ?_
 refine ZV (.agg (r.cl++([Value.bool true]++noC N q)).toArray) (fun w1 hw h=>⟨r,rfl,hw,fun u k1 k2=>(h u k1 k2).2⟩)
theorem fpoly_m(k:FlH w S gn c nl i N q T)(hN:N0≤w.heap.size):Calls Tryz.prog 278 #[S8 S gn c,.int .i64 i] w (K3 w (fun x:PolX (Kz T N.path).1=> .slice x.1.1 x.2.1.length x.1.2) fun x u=>L4 N0 x.1 x.2.1.length x.2.1 u):=by
 have hf:=k.fl
 refine K0.enter Tryz.func278 rfl ?_
 refine ZR ?_
 refine ZD 4 (fun w1 hw h=>find_m (k.toClH.below hw)) fun r=> ?_
 refine K0.run Zk (stop:=1000) 1 _ ?_
 refine ZS 4 ?_
 refine ZT 12 (.bool (N.kind !=2)) (.bool false) (by rw[k.k];rfl) ?_
 refine ZJ ((N.fill.length:Int)==0) false (beq_eq_false_iff_ne.2 Zo) ?_
 refine ZC (fun w1 hw h=>wfill_m (cc:=q.pac) (N0:=w.heap.size) h.2.q Zd ((k.s.at_ k.x).2.2.pa.below hw) k.pa hw.size) fun f=> ?_
 refine ZV (.slice f.1.1 f.2.1.length f.1.2) (fun w1 hw h=>⟨f,rfl,hw,fun u k1 k2=>L4.mono (h u k1 k2).2 hN⟩)
theorem cpoly0_m(k:ClH w S gn c nl i N q T)(h0:N.clip.length=0):Calls Tryz.prog 357 #[S8 S gn c,.int .i64 i] w (K3 w (fun _:Unit=> .tuple #[.slice none 0 0,.bool false]) fun _ _=>True):=by
 refine K0.enter Tryz.func357 rfl ?_
 refine ZR ?_
 refine ZC (fun w1 hw h=>find_m (k.below hw)) fun r=> ?_
 refine ZJ ((N.clip.length:Int)==0) true (by rw[h0];rfl) ?_
 exact ZW (.tuple #[.slice none 0 0,.bool false])
theorem cpoly_m(k:ClH w S gn c nl i N q T)(h0:N.clip.length≠0)(hN:N0≤w.heap.size):Calls Tryz.prog 357 #[S8 S gn c,.int .i64 i] w (K3 w (fun x:PolX (Kz T N.clip).1=> .tuple #[.slice x.1.1 x.2.1.length x.1.2,.bool true]) fun x u=>L4 N0 x.1 x.2.1.length x.2.1 u):=by
 refine K0.enter Tryz.func357 rfl ?_
 refine ZR ?_
 refine ZC (fun w1 hw h=>find_m (k.below hw)) fun r=> ?_
 refine ZJ ((N.clip.length:Int)==0) false (beq_eq_false_iff_ne.2 Zo) ?_
 refine ZC (fun w1 hw h=>wfill_m (cc:=q.clc) (N0:=w.heap.size) h.2.q Zd ((k.s.at_ k.x).2.2.cl.below hw) k.cl hw.size) fun f=> ?_
 refine ZV (.tuple #[.slice f.1.1 f.2.1.length f.1.2,.bool true]) (fun w1 hw h=>⟨f,rfl,hw,fun u k1 k2=>L4.mono (h u k1 k2).2 hN⟩)
theorem Hk:∀(L:List (List Pt)),(P0 L).length≤(P0 L).flatten.length
 | []=>Nat.le_refl _
 | r::t=>by
  have:=Hk t
  unfold P0 at this ⊢
  rw[List.filter_cons]
  split
  ·rename_i h
   have h3:3≤r.length:=of_decide_eq_true h
   rw[List.flatten_cons,List.length_append,List.length_cons];omega
  ·exact this
theorem Bs{T:Mi}{ls:List Sg}:(Kz T ls).1.length≤(Kz T ls).1.flatten.length:=by
 unfold Kz
 split
 ·split
  ·exact Hk _
  ·exact Nat.le_refl _
 ·exact Nat.le_refl _
theorem D6{L:List (List Pt)}(h:K4 H=L):(∀x∈H,x.1.length≤L.flatten.length)∧H.length=L.length:=by
 subst h
 refine⟨fun x hx=> ?_,by unfold K4;rw[List.length_map]⟩
 rw[List.length_flatten]
 exact Ii (List.mem_map.2 ⟨x.1,List.mem_map.2 ⟨x,hx,rfl⟩,rfl⟩)
theorem cmaskX_m(px:W5 x y)(hp:Np w A n H)(hV:(K4 H).flatten.length≤192)(hn:n≤1000000)(hru:rule=1∨rule=2)(hN:N0≤w.heap.size){cc:Nat}:
 Calls Tryz.prog 280 #[.slice A n cc,.int .i64 rule,Mv x y (x+1) (y+1)] w (K3 w (fun me:MV×Int=> .tuple #[Lr me.1,.int .i64 me.2]) fun me u=>Cn N0 x y (Mh (K4 H) rule x y) me.1 u):=by
 have hl:∀x∈H,x.1.length≤1000000:=fun x hx=>by have:=(D6 (H:=H) rfl).1 x hx;omega
 cases hv:vL 0 (K4 H)
 ·have hc:Mh (K4 H) rule x y=0:=by unfold Mh;rw[if_neg (by rw[hv];decide)]
  refine(cmask_no (c:=cc) (rule:=rule) hp hn hl hv rfl).mono fun e w' kk=> ?_
  obtain⟨_,k1,k2,_⟩:=kk
  exact⟨(X5,12),k1,k2,fun u _ _=> .nil hc rfl⟩
 ·refine(cmask_m (c:=cc) (rule:=rule) hp hn hl hv hV hru px.x px.y).mono fun e w' kk=> ?_
  obtain⟨g,k1,k2,k3⟩:=kk
  exact⟨(Mn x y (some ⟨g,0,none⟩,1),0),k1,k2,fun u j1 j2=> .one (some ⟨g,0,none⟩,1) (K6.lit (n:=1) (s:=1) (cells:= #[.int .u8 (Mh (K4 H) rule x y:Int)]) (k3 u j1 j2).1 rfl (Nat.le_trans hN (k3 u j1 j2).2) Zd) rfl⟩
theorem own1_m(k:ClH w S gn c nl i N q T)(px:W5 x y)(b1:K8 w g1 (soC S (some ⟨gn,0,none⟩,c)))(b2:K8 w g2 (rcC x y))(hN:N0≤w.heap.size):
 Calls Tryz.prog 356 #[.int .i64 i,Ku g1,Ku g2] w (K3 w (fun m:MV=>Lr m) fun m u=>Cn N0 x y (Rc N T x y) m u):=by
 have hl:=(k.s.at_ k.x).2.1
 refine K0.enter Tryz.func356 rfl ?_
 refine ZR ?_
 refine ZA (Kd 50 ⟨g1,0,none⟩) (S8 S gn c) (fun w1 hw h=>Ka (vs:=soC S (some ⟨gn,0,none⟩,c)) Zk Zk (b1.below hw).range) ?_
 by_cases h0:N.clip.length=0
 ·have hc:Rc N T x y=255:=by unfold Rc;rw[if_pos h0]
  rw[hc]
  refine ZC (fun w1 hw h=>cpoly0_m (k.below hw) h0) fun cp=> ?_
  refine ZI true ?_
  refine ZA (Kd 74 ⟨g2,0,none⟩) (Mv x y (x+1) (y+1)) (fun w1 hw h=>Ka (vs:=rcC x y) Zk Zk (b2.below hw).range) ?_
  refine ZC (fun w1 hw h=>Ge (k:=255) (N:=w.heap.size) px.r hw.size) fun m=> ?_
  refine ZV (Lr m) (fun w1 hw h=>⟨m,rfl,hw,fun u k1 k2=>Cn.mono (h u k1 k2).2 hN⟩)
 have hc:Rc N T x y=Mh (Kz T N.clip).1 N.crule x y:=by unfold Rc;rw[if_neg h0]
 have hru:=k.ru.resolve_left h0
 have hV:=Br (T:=T) k.few
 have hcnt:=Bs (T:=T) (ls:=N.clip)
 rw[hc]
 refine ZC (fun w1 hw h=>cpoly_m (N0:=w.heap.size) (k.below hw) h0 hw.size) fun cp=> ?_
 obtain⟨z,H,hH⟩:=cp
 have hHl:=D6 hH
 have e1:(K4 H).flatten.length≤192:=by rw[hH];exact hV
 refine ZI false ?_
 refine ZB 2 (Kd 48 ⟨g1,6,none⟩) (.slice (some ⟨gn,0,none⟩) S.nds.length c) (fun w1 hw h=>Kg Zk (by have:=(b1.below hw).range 6 _ rfl;simpa using this)) ?_
 refine ZB 4 (Kc 48 (.slice (some ⟨gn,0,none⟩) S.nds.length c) i) (.pointer (some ⟨gn,i*47,none⟩)) (fun w1 hw h=>La hl) ?_
 refine ZB 6 (Kd 3 ⟨gn,i*47+28,none⟩) (.int .i64 N.crule) (fun w1 hw h=>Kg Zk (Kt hw (k.s.cell (j:=28) k.x rfl))) ?_
 refine ZB 7 (Kd 74 ⟨g2,0,none⟩) (Mv x y (x+1) (y+1)) (fun w1 hw h=>Ka (vs:=rcC x y) Zk Zk (b2.below hw).range) ?_
 refine ZC (fun w1 hw h=>cmaskX_m (cc:=z.2) (N0:=w.heap.size) px h.2.polyA e1 (by show H.length≤1000000;have:=hHl.2;omega) hru hw.size) fun me=> ?_
 refine ZV (Lr me.1) (fun w1 hw h=>⟨me.1,rfl,hw,fun u k1 k2=>by have:=(h u k1 k2).2;rw[hH]at this;exact Cn.mono this hN⟩)
theorem fits_m(hS:Uu w S gn c nl)(hi:i<S.nds.length)(px:W5 x y):Calls Tryz.prog 316 #[S8 S gn c,.int .i64 i,Mv x y (x+1) (y+1)] w (K3 w (fun _:Unit=> .int .i64 0) fun _ _=>True):=by
 refine K0.enter Tryz.func316 rfl ?_
 refine ZR ?_
 refine ZD 2 (fun w1 hw h=>Dv (hS.below hw)) fun v=> ?_
 refine K0.run Zk (stop:=1000) 2 _ ?_
 refine ZR ?_
 refine K0.cond false Zk ?_
 refine ZS 2 ?_
 refine ZT 13 (.bool (decide ((i:Int)<0))) (.bool false) (by rw[decide_eq_false Zo]) ?_
 refine ZJ (decide ((i:Int)≥(S.nds.length:Int))) false (decide_eq_false Zo) ?_
 refine ZC (fun w1 hw h=>R4 px.r.in_) fun v2=> ?_
 refine ZI false ?_
 refine ZC (fun w1 hw h=>Rv px.r Eg Zd) fun a=> ?_
 refine ZI false ?_
 exact ZW (.int .i64 0)
theorem own_m{v1 v2:Value}{c1 c2:List Value}:Calls Tryz.prog 317 #[S8 S gn c,Mv x y (x+1) (y+1)] w (K3 w (fun p:Nat×Nat=> .func (.func 356) #[] #[Ku p.1,Ku p.2]) fun p u=>K8 u p.1 (soC S (some ⟨gn,0,none⟩,c))∧K8 u p.2 (rcC x y)):=by
 refine K0.enter Tryz.func317 rfl ?_
 refine ZS 2 ?_
 refine K0.expose 2 (soC S (some ⟨gn,0,none⟩,c)) Zk Zk (fun g1 hg1=> ?_)
 refine K0.expose 3 (rcC x y) Zk Zk (fun g2 hg2=> ?_)
 refine ZR ?_
 refine ZV (.func (.func 356) #[] #[Ku g1,Ku g2]) (fun w1 hw h=>⟨(g1,g2),rfl,hw,fun u k1 k2=>⟨(h u k1 k2).1.2,(h u k1 k2).2⟩⟩)
theorem cnode_m(k:ClH w S gn c nl i N q T)(px:W5 x y)(hN:N0≤w.heap.size):Calls Tryz.prog 270 #[S8 S gn c,.int .i64 i,Mv x y (x+1) (y+1)] w (K3 w (fun m:MV=> .tuple #[Lr m,.int .i64 0]) fun m u=>Cn N0 x y (Rc N T x y) m u):=by
 have hl:=(k.s.at_ k.x).2.1
 refine K0.enter Tryz.func270 rfl ?_
 refine ZR ?_
 refine ZC (fun w1 hw h=>fits_m (k.s.below hw) hl px) fun f=> ?_
 refine ZI false ?_
 refine ZC (fun w1 hw h=>own_m (S:=S) (gn:=gn) (c:=c) (x:=x) (y:=y) (v1:=undef) (v2:=undef) (c1:=[]) (c2:=[])) fun o=> ?_
 refine ZC (fun w1 hw h=>own1_m (N0:=w.heap.size) (k.below hw) px h.2.1 h.2.2 hw.size) fun m=> ?_
 refine ZV (.tuple #[Lr m,.int .i64 0]) (fun w1 hw h=>⟨m,rfl,hw,fun u k1 k2=>Cn.mono (h u k1 k2).2 hN⟩)
theorem uncl_m(k:FlH w S gn c nl i N q T)(px:W5 x y)(hN:N0≤w.heap.size):Calls Tryz.prog 203 #[S8 S gn c,.int .i64 i,Mv x y (x+1) (y+1)] w (K3 w (fun m:MV=>Lr m) fun m u=>Cn N0 x y (Mc N T x y) m u):=by
 have hl:=(k.s.at_ k.x).2.1
 have hV:=Br (T:=T) k.pf
 have hcnt:=Bs (T:=T) (ls:=N.path)
 refine K0.enter Tryz.func203 rfl ?_
 refine ZR ?_
 refine ZB 6 (Kc 48 (.slice (some ⟨gn,0,none⟩) S.nds.length c) i) (.pointer (some ⟨gn,i*47,none⟩)) (fun w1 hw h=>La hl) ?_
 refine ZB 8 (Kd 3 ⟨gn,i*47+34,none⟩) (.int .i64 N.frule) (fun w1 hw h=>Kg Zk (Kt hw (k.s.cell (j:=34) k.x rfl))) ?_
 refine ZC (fun w1 hw h=>fpoly_m (N0:=w.heap.size) (k.below hw) hw.size) fun cp=> ?_
 obtain⟨z,H,hH⟩:=cp
 have hHl:=D6 hH
 have e1:(K4 H).flatten.length≤192:=by rw[hH];exact hV
 refine ZC (fun w1 hw h=>pmask_m (n:=z.2) (N0:=w.heap.size) px.r h.2.polyA e1 k.fr px.x px.y (by show H.length≤1000000;have:=hHl.2;omega) (fun r hr=>by have:=hHl.1 r hr;omega) hw.size) fun m=> ?_
 refine ZV (Lr m) (fun w1 hw h=>⟨m,rfl,hw,fun u k1 k2=>by have:=(h u k1 k2).2;rw[hH]at this;exact Cn.mono this hN⟩)
theorem fm1_m(k:FlH w S gn c nl i N q T)(px:W5 x y)(b1:K8 w g1 (soC S (some ⟨gn,0,none⟩,c)))(b2:K8 w g2 [.int .i64 (i:Int)])(b3:K8 w g3 (rcC x y))(hN:N0≤w.heap.size):Calls Tryz.prog 264 #[Ku g1,Ku g2,Ku g3] w (K3 w (fun m:MV=>Lr m) fun m u=>Cn N0 x y (Mc N T x y) m u):=by
 refine K0.enter Tryz.func264 rfl ?_
 refine ZR ?_
 refine ZA (Kd 50 ⟨g1,0,none⟩) (S8 S gn c) (fun w1 hw h=>Ka (vs:=soC S (some ⟨gn,0,none⟩,c)) Zk Zk (b1.below hw).range) ?_
 refine ZA (Kd 3 ⟨g2,0,none⟩) (.int .i64 i) (fun w1 hw h=>(b2.below hw).load1 Zk) ?_
 refine ZA (Kd 74 ⟨g3,0,none⟩) (Mv x y (x+1) (y+1)) (fun w1 hw h=>Ka (vs:=rcC x y) Zk Zk (b3.below hw).range) ?_
 refine ZC (fun w1 hw h=>uncl_m (N0:=w.heap.size) (k.below hw) px hw.size) fun m=> ?_
 refine ZV (Lr m) (fun w1 hw h=>⟨m,rfl,hw,fun u k1 k2=>Cn.mono (h u k1 k2).2 hN⟩)
theorem Zx(N:Nd)(T:Mi)(x y:Int):Mc N T x y≤255:=Jr ..
theorem wclip_m(k:FlH w S gn c nl i N q T)(px:W5 x y)(b1:K8 w g1 (soC S (some ⟨gn,0,none⟩,c)))(b2:K8 w g2 [.int .i64 (i:Int)])(b3:K8 w g3 (rcC x y))(hN:N0≤w.heap.size):
 Calls Tryz.prog 209 #[S8 S gn c,.int .i64 i,Mv x y (x+1) (y+1),.func (.func 264) #[] #[Ku g1,Ku g2,Ku g3]] w (K3 w (fun m:MV=> .tuple #[Lr m,.int .i64 0]) fun m u=>Cn N0 x y (mulB (Mc N T x y) (Rc N T x y)) m u):=by
 refine K0.enter Tryz.func209 rfl ?_
 refine ZR ?_
 refine ZC (fun w1 hw h=>cnode_m (N0:=w.heap.size) (k.toClH.below hw) px hw.size) fun m2=> ?_
 refine ZI false ?_
 refine ZC (fun w1 hw h=>fm1_m (N0:=w.heap.size) (k.below hw) px (b1.below hw) (b2.below hw) (b3.below hw) hw.size) fun m1=> ?_
 refine K0.make (M5 (411) 2 #[(0,Lr m1),(1,Lr m2)]) (Km 2) (Kv 225 ([m1,m2].flatMap Bb).toArray) Zk (fun w1 hw h=>Ke Zk) (fun gl=> ?_)
 refine ZR ?_
 refine ZC (fun w1 hw h=>multiply_m (N:=w.heap.size) px.r h.2 (h.1.2.a) (h.1.1.2.a) (Zx ..) (clipK_lt ..) hw.size) fun m=> ?_
 refine ZV (.tuple #[Lr m,.int .i64 0]) (fun w1 hw h=>⟨m,rfl,hw,fun u k1 k2=>Cn.mono (h u k1 k2).2 hN⟩)
theorem fmask_m(k:FlH w S gn c nl i N q T)(px:W5 x y)(hN:N0≤w.heap.size):Calls Tryz.prog 194 #[S8 S gn c,.int .i64 i,Mv x y (x+1) (y+1)] w (K3 w (fun m:MV=> .tuple #[Lr m,.int .i64 0]) fun m u=>Cn N0 x y (mulB (Mc N T x y) (Rc N T x y)) m u):=by
 refine K0.enter Tryz.func194 rfl ?_
 refine ZR ?_
 refine K0.call (val:=fun m:MV=> .tuple #[Lr m,.int .i64 0]) (G:=fun m u=>Cn w.heap.size x y (mulB (Mc N T x y) (Rc N T x y)) m u) (xs:=[.v (S8 S gn c),.v (.int .i64 i),.v (Mv x y (x+1) (y+1)),.f 264 [(3,0),(4,0),(5,0)]]) Zk (fun β w1 hw h hB=>wclip_m (k.below hw) px (Pc hB (k:=3) (by simp[AV.ids]) (cs:=(soC S (some ⟨gn,0,none⟩,c)).map .v) Zk) (Pc hB (k:=4) (by simp[AV.ids]) (cs:=[.v (.int .i64 (i:Int))]) Zk) (Pc hB (k:=5) (by simp[AV.ids]) (cs:=(rcC x y).map .v) Zk) hw.size) (fun m=> ?_)
 refine ZR ?_
 refine ZV (.tuple #[Lr m,.int .i64 0]) (fun w1 hw h=>⟨m,rfl,hw,fun u k1 k2=>Cn.mono (h u k1 k2).2 hN⟩)
end
def Q6(co:Co):Pn:=⟨1,co,0,0,0,0,0,[],0,im0,0,Qy⟩
abbrev Mb(c:Co):Px:=⟨c.1.toNat,c.2.1.toNat,c.2.2.1.toNat,c.2.2.2.toNat⟩
theorem Lj(c:Co):(Mb c).ok:=⟨Nat.le_of_lt_succ c.1.toNat_lt,Nat.le_of_lt_succ c.2.1.toNat_lt,Nat.le_of_lt_succ c.2.2.1.toNat_lt,Nat.le_of_lt_succ c.2.2.2.toNat_lt⟩
theorem sol_valid(co:Co):Ma (Q6 co)=true:=by kernel_rfl
abbrev solV(p:Px):Value:= .iface 404 (Mw p)
def brC(p:Px):List Value:=solV p::Ay.cl
section
variable{P:Program}{Δ:List Deferred}{W:World}{Q:Exit→Act→World→Prop}{Φ:World→Prop}{c:Md}
theorem K0.callJ [Rnd]{X:Type}{g:FuncId}{args:Array Value}{val:X→Value}{G:X→World→Prop}
 (hs:∀w,Below W.heap.size W w→Φ w→Calls P g args w (K3 w val G)) (hf:Yd c=true) (hi:∀w,(Q1 c).map (fun s=>s.run P w)=some (.ok (.enter g args) w))
 (h:∀x:X,K0 P Δ W Q (fun w=>Φ w∧G x w) (Lh (.v (val x)) c)):K0 P Δ W Q Φ c:=by
 obtain⟨foc,k,σ⟩:=c
 replace h:=fun x=>(h x).get
 refine⟨?_⟩
 have hc0:∃s,Q1 ⟨foc,k,σ⟩=some s:=by
  cases hq:Q1 ⟨foc,k,σ⟩with
  |none=>have:=hi W;rw[hq]at this;cases this
  |some s=>exact⟨s,rfl⟩
 obtain⟨s,hc⟩:=hc0
 replace hi:∀w,s.run P w= .ok (.enter g args) w:=fun w=>by have:=hi w;rw[hc]at this;exact Option.some.inj this
 replace hc:=(O1 hc).1
 unfold Pu at hc
 split at hc
 ·rename_i ops o ho
  split at hc
  ·cases hc
  ·cases hc
  ·rename_i hns hnm
   split at hc
   ·rename_i hw
    simp only[Bool.and_eq_true]at hw
    injection hc with hc
    subst hc
    unfold Na at ho
    simp only at ho
    split at ho
    ·rename_i ops' i l
     cases hoi:ops'[i]? with
     |none=>rw[hoi]at ho;cases ho
     | some o'=>
      rw[hoi]at ho
      simp only[Option.map_some,Option.some.injEq,Prod.mk.injEq]at ho
      obtain⟨rfl,rfl⟩:=ho
      intro hwf β a w hr
      show wpOpsIn Fe 0 P ops' (post P Q k) (i::l) a w
      rw[wpOpsIn_cons]
      unfold wpOpIn
      simp only[hoi,Lv hr,hw.1,if_true]
      have hrho:∀x∈o'.op.operands,a.eval x=σ.rho x:=fun x hx=>by
       rw[hr.eval,AV.conc_isV];· rfl
       exact List.all_eq_true.1 hw.2 x (by simpa using hx)
      refine Ds ((congrArg (fun s=>s.run P w) (execOp_congr o' (fun cs b e=>hns cs b e) hrho)).trans (hi w)) ?_
      refine Calls.mono (hs w hr.bel hr.phi) fun e w' he=> ?_
      obtain⟨x,rfl,hb,hG⟩:=he
      have hx:=h x
      simp only[Qp,Lh,hoi,Option.bind_some]at hx
      exact hx (hwf.put _ (by intro k hk;simp[AV.ids]at hk)) β _ _ ((hr.call hb hG).put o'.dst (.v (val x)))
    ·cases hf
    ·cases ho
   ·cases hc
 ·cases hc
end
section
variable{w u:World}{co:Co}{K N0 g:Nat}{p d:Px}{x y:Int}{t:TV}{T:Mi}
theorem sol_rd:PRd (Q6 co) Fw K w:=⟨⟨rfl,fun k x hk=>by cases hk⟩,⟨rfl,fun k x hk=>by cases hk⟩,S4.zero⟩
theorem cs0_m:Calls Tryz.prog 346 #[.slice none 0 0] w (K3 w (fun _:Unit=> .slice none 0 0) fun _ _=>True):=by
 refine K0.enter Tryz.func346 rfl ?_
 refine ZR ?_
 refine ZI true ?_
 exact ZW (.slice none 0 0)
theorem src_m:Calls Tryz.prog 309 #[pnV (Q6 co) Fw] w (K3 w (fun _:Unit=>solV (Mb co).pre) fun _ _=>True):=by
 refine K0.enter Tryz.func309 rfl ?_
 refine ZR ?_
 refine ZC (fun w1 hw h=>cs0_m) fun c=> ?_
 refine K0.runC Zk (stop:=1000) 6000 _ ?_
 refine ZC (fun w1 hw h=>Nm (c:=Mb co) (Lj co)) fun p=> ?_
 exact ZW (solV (Mb co).pre)
theorem brush_m:Calls Tryz.prog 266 #[pnV (Q6 co) Fw,t.val] w (K3 w (fun g:Nat=> .tuple #[Ku g,.int .i64 0]) fun g u=>K8 u g (brC (Mb co).pre)):=by
 refine K0.enter Tryz.func266 rfl ?_
 refine ZR ?_
 refine ZC (fun w1 hw h=>pvalid_v (sol_valid co) (K:=8) sol_rd (by show 0≤1000000000;decide) Zd) fun v=> ?_
 refine ZI false ?_
 refine ZC (fun w1 hw h=>src_m (co:=co)) fun s=> ?_
 refine K0.expose 15 (brC (Mb co).pre) Zk Zk (fun g hg=> ?_)
 refine ZI true ?_
 refine ZV (.tuple #[Ku g,.int .i64 0]) (fun w1 hw h=>⟨g,rfl,hw,fun u k1 k2=>(h u k1 k2).2⟩)
theorem within_m(hx:0≤x∧x≤4000):Calls Tryz.prog 354 #[.int .i64 x] w (K3 w (fun _:Unit=> .bool true) fun _ _=>True):=by
 refine K0.enter Tryz.func354 rfl ?_
 refine ZS 2 ?_
 refine K0.slot 4 (.bool (decide (x≥-4096))) (.bool true) Zk (by rw[decide_eq_true Zo]) ?_
 refine ZS 5 ?_
 refine ZT 7 (.bool (decide (x≤4096))) (.bool true) (by rw[decide_eq_true Zo]) ?_
 exact ZW (.bool true)
theorem solAt_m{v1 v2:Value}:Calls Tryz.prog 469 #[Mw p,Oc.val,Oc.val] w (K3 w (fun _:Unit=>Mw p) fun _ _=>True):=by
 refine K0.enter Tryz.func469 rfl ?_
 refine ZR ?_
 exact ZW (Mw p)
theorem bAtP_m(hb:K8 w g (brC p))(hx:0≤x∧x≤4000)(hy:0≤y∧y≤4000):Calls Tryz.prog 314 #[Ku g,.int .i64 x,.int .i64 y] w (K3 w (fun _:Unit=>Mw p) fun _ _=>True):=by
 refine K0.enter Tryz.func314 rfl ?_
 refine ZR ?_
 have hs:∀w1,Below w.heap.size w w1→(Kd 399 ⟨g,0,none⟩).run Tryz.prog w1= .ok (.value (solV p)) w1:=fun w1 hw1=>Kg Zk (by have:=(hb.below hw1).range 0 _ rfl;simpa using this)
 refine ZA (Kd 399 ⟨g,0,none⟩) (solV p) (fun w1 hw h=>hs w1 hw) ?_
 refine ZC (fun w1 hw h=>within_m hx) fun v1=> ?_
 refine ZC (fun w1 hw h=>within_m hy) fun v2=> ?_
 refine ZI false ?_
 refine ZA (Kd 399 ⟨g,0,none⟩) (solV p) (fun w1 hw h=>hs w1 hw) ?_
 refine ZI true ?_
 refine ZA (Kd 399 ⟨g,0,none⟩) (solV p) (fun w1 hw h=>hs w1 hw) ?_
 refine K0.callJ (fun w1 hw h=>solAt_m (p:=p) (v1:=undef) (v2:=undef)) Zk (fun w=>by kernel_rfl) (fun v3=> ?_)
 refine ZR ?_
 exact ZW (Mw p)
end
def copS(dT sT ty:TypeId)(x y:Value):Sem Next:=Builtin.copy_ #[dT,sT] ty #[x,y] >>= fun v=>pure (.value v)
section
variable{w u:World}{co:Co}{K N0 g gs:Nat}{p d s:Px}{x y:Int}{t:TV}{T:Mi}{z:Option Addr×Nat}{m:MV}{k n c c2:Nat}{ad:Addr}
theorem copy1_m{P:Program}{t e ty:TypeId}{sz:Nat}{cs cs0:List Value}(hu:P.underlying t=some (.slice e))(hs:(P.info? e).map (·.size)=some sz)(hl:cs.length=sz)(hl0:cs0.length=sz)(hb:Kb w g e cs0)(hsrc:∀j v,cs[j]? =some v→w.cell? (ad.add j)=some v)(h1:∀v∈cs,v.oneCell'=true):
 Nf P w [g] (fun _:Unit=> .int .i64 1) (fun _ u=>Kb u g e cs) (copS t t ty (.slice (some ⟨g,0,none⟩) 1 c) (.slice (some ad) 1 c2)):=by
 have hld:=run_loadCells_list (P:=P) w ad cs hsrc
 have hst:=run_storeCells_at P g 0 e cs 0 cs0.toArray w hb Zp h1
 have hnew:((cs0.toArray.toList.take (0+0)++cs++cs0.toArray.toList.drop (0+0+cs.length)).toArray)=cs.toArray:=by
  rw[List.drop_of_length_le Zp];simp
 rw[hnew]at hst
 rw[hl]at hld
 refine⟨(),w.setRow g cs.toArray,?_,⟨rfl,rfl,rfl,by rw[O5];exact Nat.le_refl _,fun k _ hk=>Nj _ _ _ _ (by simpa using hk)⟩,fun w'' k1 k2=> ?_⟩
 ·cases hq:P.info? e with
  |none=>simp[hq]at hs
  | some i=>
   have hi:i.size=sz:=by simpa[hq]using hs
   simp only[copS,Sem.run_bind]
   have:(Builtin.copy_ #[t,t] ty #[.slice (some ⟨g,0,none⟩) 1 c,.slice (some ad) 1 c2]).run P w= .ok (goInt 1) (w.setRow g cs.toArray):=by
    simp[Builtin.copy_,run_underlying hu,Builtin.lenOf,Builtin.firstCells,sizeOf,typeInfo,hq,hi,hld,hst]
   rw[this];rfl
 ·show Kb w'' g e cs
  unfold Kb
  rw[k2 g (.inl Zs)]
  simp only[World.setRow,Array.getElem?_modify,if_true,show w.heap[g]? =_ from hb,Option.map_some]
theorem make_1X{P:Program}{t e:TypeId}{N:Nat}(ht:P.underlying t=some (.slice e))(hi:S5 P e=some (Mw ⟨0,0,0,0⟩,4,4))(hN:N≤w.heap.size):
 Lp P w (fun g:Nat=> .slice (some ⟨g,0,none⟩) 1 1) (fun g u=>Kb u g e (Ur ⟨0,0,0,0⟩)∧N≤g) (mk1S t):=by
 unfold S5 at hi
 obtain⟨i,hi0,hi1⟩:=Option.bind_eq_some_iff.1 hi
 obtain⟨z,hz,hi2⟩:=Option.map_eq_some_iff.1 hi1
 simp only[Prod.mk.injEq]at hi2
 obtain⟨rfl,hsz,hby⟩:=hi2
 have hr:=run_makeSlice (P:=P) w t e i _ ht hi0 hz .i64 .i64 1 1 Zd Zd (by rw[hsz];decide) (by rw[hby];decide) Zd
 rw[hsz]at hr
 refine⟨w.heap.size,_,by simp only[mk1S,Sem.run_bind,hr,Result.andThen_ok,Sem.run_pure];rfl,Om _ _,fun w'' h1 h2=>⟨?_,hN⟩⟩
 unfold Kb
 rw[(P6 w _ h1 h2).1]
 show some (Obj.cells (madeCells (Mw ⟨0,0,0,0⟩).cells (1*4)) e)=_
 have:madeCells (Mw ⟨0,0,0,0⟩).cells (1*4)=(Ur ⟨0,0,0,0⟩).toArray:=Array.ext (by rw[size_madeCells];rfl) fun i h1 h2=>by
  have h3:i<4:=h2
  rcases(by omega:i=0∨i=1∨i=2∨i=3)with rfl|rfl|rfl|rfl<;>simp[madeCells]<;>rfl
 rw[this]
theorem high_m:Calls Tryz.prog 311 #[Mv x y (x+1) (y+1)] w (K3 w (fun _:Unit=> .int .i64 1) fun _ _=>True):=by
 refine K0.enter Tryz.func311 rfl ?_
 refine ZR ?_
 exact ZX (.int .i64 (IntKind.i64.wrap (y+1-y))) (by rw[show y+1-y=1 by omega];rfl)
theorem wide_m:Calls Tryz.prog 312 #[Mv x y (x+1) (y+1)] w (K3 w (fun _:Unit=> .int .i64 1) fun _ _=>True):=by
 refine K0.enter Tryz.func312 rfl ?_
 refine ZR ?_
 exact ZX (.int .i64 (IntKind.i64.wrap (x+1-x))) (by rw[show x+1-x=1 by omega];rfl)
theorem index_n(px:W5 x y):Calls Tryz.prog 313 #[Mv 0 0 0 0,.int .i64 x,.int .i64 y] w (K3 w (fun _:Unit=> .tuple #[.int .i64 0,.bool false]) fun _ _=>True):=by
 have:=px.x
 refine K0.enter Tryz.func313 rfl ?_
 refine ZS 4 ?_
 refine K0.slot 11 (.bool (decide (x<0))) (.bool false) Zk (by rw[decide_eq_false Zo]) ?_
 refine ZS 9 ?_
 refine ZT 16 (.bool (decide (x≥0))) (.bool true) (by rw[decide_eq_true Zo]) ?_
 refine ZI true ?_
 exact ZW (.tuple #[.int .i64 0,.bool false])
theorem index_1(px:W5 x y):Calls Tryz.prog 313 #[Mv x y (x+1) (y+1),.int .i64 x,.int .i64 y] w (K3 w (fun _:Unit=> .tuple #[.int .i64 0,.bool true]) fun _ _=>True):=by
 refine K0.enter Tryz.func313 rfl ?_
 refine ZS 4 ?_
 refine K0.slot 11 (.bool (decide (x<x))) (.bool false) Zk (by rw[decide_eq_false Zo]) ?_
 refine ZS 9 ?_
 refine K0.slot 16 (.bool (decide (x≥x+1))) (.bool false) Zk (by rw[decide_eq_false Zo]) ?_
 refine ZS 15 ?_
 refine K0.slot 22 (.bool (decide (y<y))) (.bool false) Zk (by rw[decide_eq_false Zo]) ?_
 refine ZS 21 ?_
 refine ZT 28 (.bool (decide (y≥y+1))) (.bool false) (by rw[decide_eq_false Zo]) ?_
 refine ZI false ?_
 refine ZC (fun w1 hw h=>wide_m (x:=x) (y:=y)) fun v=> ?_
 have:=px.x
 exact ZX (.tuple #[.int .i64 (IntKind.i64.wrap (IntKind.i64.wrap (IntKind.i64.wrap (IntKind.i64.wrap (y-y)*1)+x)-x)),.bool true]) (by rw[show y-y=0 by omega,show IntKind.i64.wrap (IntKind.i64.wrap 0*1)=0 from rfl,IntWalk.i64_in (0+x) Zo,show 0+x-x=0 by omega];rfl)
theorem with_m2(px:W5 x y)(hd:Cq w d z)(hm:G9 w x y k m)(hb:K8 w g (brC s))(cd:d.clamp=d)(od:d.ok)(os:s.ok)(hk:k≤255)(hN:N0≤w.heap.size):
 Calls Tryz.prog 267 #[Lr (Mn x y z),Lr m,Ku g,.int .i64 1] w (K3 w (fun z:Option Addr×Nat=> .tuple #[Lr (Mn x y z),.int .i64 0]) fun z u=>Tu N0 (s.blend d k) z u):=by
 obtain⟨hrow,hcap⟩:=hd
 obtain⟨zA,zc⟩:=z
 obtain⟨ad,hA,hc⟩:=hrow.2 0 d rfl
 obtain rfl:zA=some ad:=hA
 have hc0:∀(j:Nat) (v:Value),(Ur d)[j]? =some v→w.cell? (ad.add j)=some v:=fun j v hj=>by have:=hc j v hj;rwa [T6,Nat.zero_mul,Nat.zero_add]at this
 have hx:=px.x
 have hy:=px.y
 refine K0.enter Tryz.func267 rfl ?_
 refine ZR ?_
 refine ZC (fun w1 hw h=>Vv px.r (Cq.a (Cq.below ⟨hrow,hcap⟩ hw) cd)) fun v1=> ?_
 refine ZI false ?_
 refine ZC (fun w1 hw h=>V9 px.r (hm.below hw)) fun v2=> ?_
 refine ZI false ?_
 refine ZC (fun w1 hw h=>bover0_m px.r) fun v3=> ?_
 refine ZI false ?_
 refine K0.make (mk1S 37) (fun g:Nat=> .slice (some ⟨g,0,none⟩) 1 1) (fun g u=>Kb u g 53 (Ur ⟨0,0,0,0⟩)∧w.heap.size≤g) Zk (fun w1 hw h=>make_1X Zk Zk hw.size) (fun gs=> ?_)
 refine ZR ?_
 refine K0.mutOp (L:=[gs]) (val:=fun _:Unit=> .int .i64 1) (Φ':=fun _ u=>Kb u gs 53 (Ur d)∧w.heap.size≤gs) (G:=fun _ u=>Kb u gs 53 (Ur d)) (copS 37 37 3 (.slice (some ⟨gs,0,none⟩) 1 1) (.slice (some ad) 1 zc)) (fun w1 hw h=>copy1_m (e:=53) (sz:=4) Zk Zk rfl rfl h.2.1 (fun j v hj=>Kt hw (hc0 j v hj)) (Xa d)) (fun u h b hb=>by obtain rfl:=List.mem_singleton.1 hb;exact⟨h.2.2,h.2.1.own⟩) (fun _ wa u e1 e2 h hG=>⟨hG,h.2.2⟩) Zk Zk (fun _=> ?_)
 refine ZR ?_
 refine ZC (fun w1 hw h=>high_m (x:=x) (y:=y)) fun h1=> ?_
 refine K0.un Zk ?_
 refine ZR ?_
 refine ZI true ?_
 refine ZC (fun w1 hw h=>wide_m (x:=x) (y:=y)) fun w2=> ?_
 refine K0.un Zk ?_
 refine ZR ?_
 refine K0.cond true Zk ?_
 refine ZS 10 ?_
 refine K0.slot 69 (.int .i64 (IntKind.i64.wrap (x+0))) (.int .i64 x) Zk (by rw[Int.add_zero,IntWalk.i64_in _ Zo]) ?_
 refine ZT 74 (.int .i64 (IntKind.i64.wrap (y+0))) (.int .i64 y) (by rw[Int.add_zero,IntWalk.i64_in _ Zo]) ?_
 refine ZC (fun w1 hw h=>wide_m (x:=x) (y:=y)) fun w3=> ?_
 cases hm with
 |nil h0=>
  subst h0
  refine ZC (fun w1 hw h=>index_n px) fun ix=> ?_
  refine ZI false ?_
  refine ZB 11 (Kc 37 (.slice (some ad) 1 zc) (0:Nat)) (.pointer (some (ad.add (0*4)))) (fun w1 hw h=>Zb rfl Zd) ?_
  refine ZB 12 (Kd 53 (ad.add (0*4))) (Mw d) (fun w1 hw h=>D5 fun j v hj=>Kt hw (hc j v hj)) ?_
  refine ZC (fun w1 hw h=>bAtP_m (hb.below hw) hx hy) fun bp=> ?_
  refine ZC (fun w1 hw h=>Qj os od hk) fun bl=> ?_
  refine ZA (Kc 37 (.slice (some ⟨gs,0,none⟩) 1 1) (0:Nat)) (.pointer (some ⟨gs,0*4,none⟩)) (fun w1 hw h=>K9 (elem:=53) Zk Zk Zd) ?_
  refine K0.mutStAny (L:=[gs]) (G:=fun u=>Kb u gs 53 (Ur (s.blend d 0))) (Φ':=fun u=>Kb u gs 53 (Ur (s.blend d 0))∧w.heap.size≤gs) (Rm 53 ⟨gs,0,none⟩ (Mw (s.blend d 0))) (fun w1 hw h=>Kb.store (v:=Mw (s.blend d 0)) h.1.1.1.1.1.1.1 Zk rfl (Xa _)) (fun u h b hb=>by obtain rfl:=List.mem_singleton.1 hb;exact⟨h.1.1.1.1.1.1.2,h.1.1.1.1.1.1.1.own⟩) (fun wa u e1 e2 h hG=>⟨hG,h.1.1.1.1.1.1.2⟩) Zk Zk ?_
  refine ZR ?_
  refine ZI false ?_
  refine ZI false ?_
  refine ZV (.tuple #[Lr (Mn x y (some ⟨gs,0,none⟩,1)),.int .i64 0]) (fun w1 hw h=>⟨(some ⟨gs,0,none⟩,1),rfl,hw,fun u k1 k2=>K6.lit (n:=1) (s:=4) (cells:=(Ur (s.blend d 0)).toArray) (h u k1 k2).1 rfl (Nat.le_trans hN (h u k1 k2).2) Zd⟩)
 |one zm hmr=>
  obtain⟨am,hAm,hcm⟩:=hmr.2 0 k rfl
  refine ZC (fun w1 hw h=>index_1 px) fun ix=> ?_
  refine ZI true ?_
  refine ZA (Kc 223 (.slice zm.1 1 zm.2) (0:Nat)) (.pointer (some (am.add (0*1)))) (fun w1 hw h=>by rw[hAm];exact Lg (elem:=5) Zk Zk Zd) ?_
  refine ZA (Kd 5 (am.add (0*1))) (.int .u8 k) (fun w1 hw h=>Kg Zk (Kt hw (by have:=hcm 0 _ rfl;rw[T6]at this;exact this))) ?_
  refine ZB 11 (Kc 37 (.slice (some ad) 1 zc) (0:Nat)) (.pointer (some (ad.add (0*4)))) (fun w1 hw h=>Zb rfl Zd) ?_
  refine ZB 12 (Kd 53 (ad.add (0*4))) (Mw d) (fun w1 hw h=>D5 fun j v hj=>Kt hw (hc j v hj)) ?_
  refine ZC (fun w1 hw h=>bAtP_m (hb.below hw) hx hy) fun bp=> ?_
  refine ZC (fun w1 hw h=>Qj os od hk) fun bl=> ?_
  refine ZA (Kc 37 (.slice (some ⟨gs,0,none⟩) 1 1) (0:Nat)) (.pointer (some ⟨gs,0*4,none⟩)) (fun w1 hw h=>K9 (elem:=53) Zk Zk Zd) ?_
  refine K0.mutStAny (L:=[gs]) (G:=fun u=>Kb u gs 53 (Ur (s.blend d k))) (Φ':=fun u=>Kb u gs 53 (Ur (s.blend d k))∧w.heap.size≤gs) (Rm 53 ⟨gs,0,none⟩ (Mw (s.blend d k))) (fun w1 hw h=>Kb.store (v:=Mw (s.blend d k)) h.1.1.1.1.1.1.1 Zk rfl (Xa _)) (fun u h b hb=>by obtain rfl:=List.mem_singleton.1 hb;exact⟨h.1.1.1.1.1.1.2,h.1.1.1.1.1.1.1.own⟩) (fun wa u e1 e2 h hG=>⟨hG,h.1.1.1.1.1.1.2⟩) Zk Zk ?_
  refine ZR ?_
  refine ZI false ?_
  refine ZI false ?_
  refine ZV (.tuple #[Lr (Mn x y (some ⟨gs,0,none⟩,1)),.int .i64 0]) (fun w1 hw h=>⟨(some ⟨gs,0,none⟩,1),rfl,hw,fun u k1 k2=>K6.lit (n:=1) (s:=4) (cells:=(Ur (s.blend d k)).toArray) (h u k1 k2).1 rfl (Nat.le_trans hN (h u k1 k2).2) Zd⟩)
end
end Go.Proofs.YtpgkbllcnphmbaaGreatDoor
