/-
 A part of the proof.
-/
import Derived.Test.YtpgkbllcnphmbaaGreatDoorBBu
namespace Go.Proofs.YtpgkbllcnphmbaaGreatDoor
set_option maxRecDepth 100000
set_option maxHeartbeats 8000000
set_option linter.unusedVariables false
set_option linter.unusedSimpArgs false
open Go.RowKit
theorem Kb.loadJ{P:Program}{u:World}{g j:Nat}{t t2:TypeId}{cs:List Value}{v:Value}(h:Kb u g t cs)(ht:Ob P t2=some false)(hj:cs[j]? =some v):(Kd t2 ⟨g,j,none⟩).run P u= .ok (.value v) u:=
 Kg ht (by have:=h.range j v hj;rw[Nat.zero_add]at this;exact this)
theorem Bd{P:Program}{w:World}{t e:TypeId}{len:Nat}{parts:Array (Nat×Value)}{cells:Array Value}{R:Nat→Prop}(h:Em P t len parts=some (e,cells))(hR:∀g,w.heap.size≤g→R g):Lp P w (Km len) (fun g u=>Kv e cells g u∧R g) (M5 t len parts):=by
 obtain⟨x,w',hrun,hb,hG⟩:=Lp.fresh (Ke (w:=w) h) (fun g=>[g]) (fun g u h b hb=>by
  simp only[List.mem_singleton]at hb;subst hb;exact⟨_,_,_,h⟩)
 exact⟨x,w',hrun,hb,fun w'' h1 h2=>⟨(hG w'' h1 h2).1,hR _ ((hG w'' h1 h2).2 x Zs)⟩⟩
theorem litG_lt{e:TypeId}{cs:Array Value}{g:Nat}{u:World}(h:Kv e cs g u):g<u.heap.size:=(Array.getElem?_eq_some_iff.1 h).1
def Am(w:World)(ga gb gl gh:Nat)(rl rh:RV)(M:Nat):Prop:=w.heap.size≤M∧ga<M∧gb<M∧gl<M∧gh<M∧(∀b∈Ln rl,b<M)∧∀b∈Ln rh,b<M
structure Ev0(a b:Pt)(ga gb gl gh:Nat)(rl rh:RV)(u:World):Prop where
 pa:Kb u ga 35 (Kf a)
 pb:Kb u gb 35 (Kf b)
 pl:K8 u gl rl.cl
 ph:K8 u gh rh.cl
 ql:Kh rl (a.2:Rat) 7 u
 qh:Kh rh (b.2:Rat) 7 u
theorem Ev0.left{a b:Pt}{ga gb gl gh M:Nat}{rl rh:RV}{w wa u:World}{L:List Nat}(hM:Am w ga gb gl gh rl rh M)(hL:∀b∈L,M≤b)(e1:wa.heap.size=u.heap.size)(e2:∀b,b∉L→wa.heap[b]? =u.heap[b]?)(h:Ev0 a b ga gb gl gh rl rh wa):Ev0 a b ga gb gl gh rl rh u:=by
 obtain⟨_,m1,m2,m3,m4,m5,m6⟩:=hM
 have k:∀{g},g<M→g∉L:=fun hg hm=>by have:=hL _ hm;omega
 exact⟨h.pa.left e2 (k m1),h.pb.left e2 (k m2),h.pl.left e2 (k m3),h.ph.left e2 (k m4),h.ql.leftL e1 e2 fun b hb=>k (m5 b hb),h.qh.leftL e1 e2 fun b hb=>k (m6 b hb)⟩
theorem ev_start{a b:Pt}{ga gb gl gh g2 go:Nat}{rl rh:RV}{w wa u:World}(hM:Am w ga gb gl gh rl rh g2)(hgo:g2≤go)(e1:wa.heap.size=u.heap.size)(e2:∀b,b∉[go]→wa.heap[b]? =u.heap[b]?)
 (h:(Kb wa ga 35 (Kf a)∧Kb wa gb 35 (Kf b)∧K8 wa gl rl.cl∧K8 wa gh rh.cl)∧Kh rl (a.2:Rat) 2 wa∧Kh rh (b.2:Rat) 2 wa) (hl:Kv 26 ([rl,rh].flatMap RV.cl).toArray g2 wa) (hb:Kb wa go 97 [.slice none 0 0]) (hG:Kb u go 97 [.slice (some ⟨g2,0,none⟩) 2 2]):
 Ev0 a b ga gb gl gh rl rh u∧Out w.heap.size go 7 (some ⟨g2,0,none⟩,2) [(rl,(a.2:Rat)),(rh,(b.2:Rat))] u:=by
 have h0:Ev0 a b ga gb gl gh rl rh u:=Ev0.left hM (L:=[go]) (by simpa using hgo) e1 e2 ⟨h.1.1,h.1.2.1,h.1.2.2.1,h.1.2.2.2,h.2.1.mono (K':=7) Zd,h.2.2.mono (K':=7) Zd⟩
 have ho:K6 wa w.heap.size 26 4 (some ⟨g2,0,none⟩) 2 2 ([rl,rh].flatMap RV.cl).toArray.toList:=K6.lit hl rfl hM.1 Zd
 have hne:go≠g2:=fun e=>hb.ne ho Zd g2 (by simp[bl]) e.symm
 obtain⟨_,m1,m2,m3,m4,m5,m6⟩:=hM
 refine⟨h0,⟨⟨hG,ho.left e2 (fun b hb=>by have hb:=List.mem_singleton.1 hb;subst hb;simpa using hne.symm),?_⟩,?_⟩⟩
 ·intro r hr
  simp only[List.mem_cons,List.not_mem_nil,or_false]at hr
  rcases hr with rfl|rfl
  ·exact⟨fun b hb hc=>by have hb:=List.mem_singleton.1 hb;subst hb;have:=m5 _ hc;omega,fun hc=>by have:=m5 _ hc;omega⟩
  ·exact⟨fun b hb hc=>by have hb:=List.mem_singleton.1 hb;subst hb;have:=m6 _ hc;omega,fun hc=>by have:=m6 _ hc;omega⟩
 ·intro r hr
  simp only[List.mem_cons,List.not_mem_nil,or_false]at hr
  rcases hr with rfl|rfl
  ·exact h0.ql
  ·exact h0.qh
def putF(gl gh go:Nat):Value:= .func (.func 162) #[] #[Ku gl,Ku gh,Ku go]
theorem Out.leftL{B go K:Nat}{y:Option Addr×Nat}{rs:List RQ}{wa u:World}{L:List Nat}(h:Out B go K y rs wa)(e1:wa.heap.size=u.heap.size)(e2:∀b,b∉L→wa.heap[b]? =u.heap[b]?)(h1:go∉L)(h2:∀b∈bl y.1,b∉L)(h3:∀r∈rs,∀b∈Ln r.1,b∉L):Out B go K y rs u:=
 ⟨⟨h.box.left e2 h1,h.own.left e2 h2,h.apart⟩,fun r hr=>(h.num r hr).leftL e1 e2 (h3 r hr)⟩
structure Ev(a b:Pt)(ga gb gl gh gp go:Nat)(rl rh:RV)(M B:Nat)(y:Option Addr×Nat)(rs:List RQ)(u:World):Prop where
 c:Ev0 a b ga gb gl gh rl rh u
 p:Kb u gp 261 [putF gl gh go]
 o:Out B go 7 y rs u
 m:∀b∈bl y.1,M≤b
def Oe(a b:Pt)(vals:List Rat):List Rat:=(a.2:Rat)::(b.2:Rat)::vals.filter fun y=>decide ((a.2:Rat)<y)&&decide (y<(b.2:Rat))
theorem B8{a b:Pt}{rs:List RQ}{vals:List Rat}(h:rs.map (·.2)=Oe a b vals)(r:RV)(q:Rat):(Qf (a.2:Rat) (b.2:Rat) rs r q).map (·.2)=Oe a b (vals++ [q]):=by
 unfold Qf Oe at*
 split
 ·rename_i h1
  rw[List.map_append,h,List.filter_append,List.filter_cons_of_pos (by simp[h1])];rfl
 ·rename_i h1
  rw[h,List.filter_append,List.filter_cons_of_neg (by simpa using fun h2 h3=>h1 ⟨h2,h3⟩)];simp
theorem Xi{a b:Pt}{rs:List RQ}{vals:List Rat}(h:rs.map (·.2)=Oe a b vals):rs.length≤2+vals.length:=by
 have h1:=congrArg List.length h
 rw[List.length_map]at h1
 have h2:(Oe a b vals).length≤2+vals.length:=by unfold Oe;simp only[List.length_cons];have:=List.length_filter_le (fun y=>decide ((a.2:Rat)<y)&&decide (y<(b.2:Rat))) vals;omega
 omega
theorem K3.apt{X:Type}{w w':World}{val:X→Value}{G:X→World→Prop}{e:Ending}(h:K3 w val G e w')(L:X→List Nat)(hL:∀x u,G x u→∀b∈L x,∃cs ty own,u.heap[b]? =some (.cells cs ty own)){R:X→Prop}(hR:∀x,(∀b∈L x,w.heap.size≤b)→R x):K3 w val (fun x u=>G x u∧R x) e w':=by
 obtain⟨x,he,hb,hG⟩:=h.fresh L hL
 exact⟨x.1,he,hb,fun w'' k1 k2=>⟨(hG w'' k1 k2).1,hR _ fun b hb=>((hG w'' k1 k2).2.1 b hb).1⟩⟩
theorem Kh.blk{r:RV}{q:Rat}{K:Nat}{w:World}(h:Kh r q K w):∀b∈Ln r,∃cs ty own,w.heap[b]? =some (.cells cs ty own):=fun b hb=>by
 rcases List.mem_append.1 hb with hb|hb
 ·exact(h.1.2.2.2.blk b hb).2
 ·exact(h.2.2.2.2.blk b hb).2
section
variable{W w wa u:World}{a b:Pt}{ga gb gl gh gp go M N:Nat}{rl rh r:RV}{q:Rat}{y z:Option Addr×Nat}{rs:List RQ}
theorem Ev.apq(h:Ev a b ga gb gl gh gp go rl rh M N y rs w)(hr:∀b∈Ln r,w.heap.size≤b):Apq go y r:=
 ⟨fun b hb hc=>by have:=hr b hc;have:=(h.o.own.lt b hb).2;omega,fun hc=>by have:=hr _ hc;have:=h.o.box.lt;omega⟩
theorem Ev.put(hM:Am W ga gb gl gh rl rh M)(hgo:M≤go)(hW:Below W.heap.size W w)(h:Ev a b ga gb gl gh gp go rl rh M W.heap.size y rs w)(hr:Kh r q 7 w)(ha:Apq go y r)(hn:rs.length≤99999999){N:Nat}(hN:N≤w.heap.size):
 Calls Tryz.prog 162 #[r.val,Ku gl,Ku gh,Ku go] w (Ky w (go::bl y.1) (fun _:Option Addr×Nat=> .tuple #[]) fun z u=>Yr W.heap.size go z (Qf (a.2:Rat) (b.2:Rat) rs r q) u∧∀b∈bl z.1,b∈bl y.1∨N≤b):=
 put_m hN hW (Nat.le_trans hM.1 hgo) (fun b hb=>Nat.le_trans hM.1 (h.m b hb)) (Nat.le_refl _) h.o hr ha hn Zd h.c.pl h.c.ph h.c.ql h.c.qh ⟨fun hc=>by have:=hM.2.2.2.2.2.1 _ hc;omega,fun hc=>by have:=hM.2.2.2.2.2.2 _ hc;omega⟩
theorem Ev.own(hM:Am W ga gb gl gh rl rh M)(hgo:M≤go)(h:Ev a b ga gb gl gh gp go rl rh M W.heap.size y rs w):∀b∈go::bl y.1,W.heap.size≤b∧∃cs ty own,w.heap[b]? =some (.cells cs ty own):=fun b hb=>by
 rcases List.mem_cons.1 hb with rfl|hb
 ·exact⟨Nat.le_trans hM.1 hgo,h.o.box.own⟩
 ·exact⟨Nat.le_trans hM.1 (h.m b hb),(h.o.own.blk b hb).2⟩
theorem Ev.next(hM:Am W ga gb gl gh rl rh M)(hgo:M≤go)(e1:wa.heap.size=u.heap.size)(e2:∀b,b∉go::bl y.1→wa.heap[b]? =u.heap[b]?)(h:Ev a b ga gb gl gh gp go rl rh M W.heap.size y rs wa)(hr:Kh r q 7 wa)(ha:Apq go y r)(hN:M≤N)(hG:Yr W.heap.size go z (Qf (a.2:Rat) (b.2:Rat) rs r q) u∧∀b∈bl z.1,b∈bl y.1∨N≤b):
 Ev a b ga gb gl gh gp go rl rh M W.heap.size z (Qf (a.2:Rat) (b.2:Rat) rs r q) u:=by
 have hq:∀x:RQ,Kh x.1 x.2 7 wa→Apq go y x.1→Kh x.1 x.2 7 u:=fun x hx hax=>hx.leftL e1 e2 fun b hb hc=>by
  rcases List.mem_cons.1 hc with rfl|hc
  ·exact hax.2 hb
  ·exact hax.1 b hc hb
 refine⟨h.c.left hM (L:=go::bl y.1) (fun b hb=> ?_) e1 e2,h.p.left e2 fun hc=> ?_,⟨hG.1,fun x hx=> ?_⟩,fun b hb=> ?_⟩
 ·rcases List.mem_cons.1 hb with rfl|hb
  ·exact hgo
  ·exact h.m b hb
 ·rcases List.mem_cons.1 hc with rfl|hc
  ·exact h.p.ne2 h.o.box Zd rfl
  ·exact h.p.ne h.o.own Zd _ hc rfl
 ·unfold Qf at hx
  split at hx
  ·rcases List.mem_append.1 hx with h4|h4
   ·exact hq x (h.o.num x h4) (h.o.apart x h4)
   ·obtain rfl:x=(r,q):=by simpa using h4
    exact hq _ hr ha
  ·exact hq x (h.o.num x hx) (h.o.apart x hx)
 ·rcases hG.2 b hb with h4|h4
  ·exact h.m b h4
  ·exact Nat.le_trans hN h4
end
def rgA(c:Md):Code:=match Zj c with|some q=>q.2.2.2.1|none=> .skip
def rgB(c:Md):Code:=match Zj c with|some q=>q.2.2.2.2|none=> .skip
theorem K0.rangeC{P:Program}{Δ:List Deferred}{W:World}{Q:Exit→Act→World→Prop}{Φ:World→Prop}{c:Md}{gf:FuncId}{lb:Array Value}{ps:Array Tmp}{α:Type}{encs:α→Array Value}{xs:List α}{Pre:World→Prop}
 (ι:Type) (J:ι→Nat→World→Prop) (L:ι→List Nat) (G:ι→ι→World→Prop) (s0:ι)
 (hc:Zj c=some (gf,lb,ps,rgA c,rgB c)) (hit:∀w,Below W.heap.size W w→Φ w→I3 P W gf lb encs xs Pre) (he:∀args w,(callFunc gf args).run P w= .ok (.enter gf args) w) (hps:∀x,(encs x).size=ps.size)
 (hPre:∀s k u,J s k u→Pre u) (hL:∀s k,Uv W (L s) (J s k)) (hJ:∀s k s',Tt (L s) (J s k) (G s s') (J s' (k+1))) (hcel:∀s k,C4 (J s k)) (h0:∀w,Φ w→J s0 0 w)
 (hb:∀(l:Nat) (s:ι) (k:Nat) (x:α) (w0:World) (fn:FuncId) (tmps:Array Value) (D:Nat),Below W.heap.size W w0→W.heap.size≤l→l<w0.heap.size→l∉L s→w0.heap[l]? =some (.loop (Yb fn tmps ps (rgA c) (rgB c) D .ready))→xs[k]? =some x→
  (∀r u,RF W w0 l r u→J s k u)→∀[R:Rnd],R.r=some l→
  K0 P [] W (rndA P (rgB c) l (Ky w0 (L s) (fun _:ι=> .bool true) (G s))) (RF W w0 l (Yb fn tmps ps (rgA c) (rgB c) D .ready)) ⟨.code (rgA c),[],⟨rTmps ps (encs x) c.st.tmps,fun _=>none⟩⟩)
 (hd:∀s D,W.heap.size≤D→K0 P (⟨.collected D,#[]⟩::Δ) W Q (fun u=>J s xs.length u∧u.heap[D]? =some (.deferred (some []))) (amDone c)):K0 P Δ W Q Φ c:=
 K0.range ι J L G s0 hc hit he hps hPre hL hJ hcel h0 hb hd
def edC(e:Pt×Pt):List Value:=Kf e.1++Kf e.2
structure EvE(ge M B:Nat)(y:Option Addr×Nat)(k:Nat)(es:List (Pt×Pt))(u:World):Prop where
 g:Kb u ge 262 [.slice y.1 k y.2]
 r:K6 u B 268 4 y.1 k y.2 (es.flatMap edC)
 m:∀b∈bl y.1,M≤b
def ApE(ge:Nat)(y:Option Addr×Nat)(rs:List RQ):Prop:=∀r∈rs,ge∉Ln r.1∧∀b∈bl y.1,b∉Ln r.1
def RFL(W w0:World)(l:Nat)(L:List Nat)(r:Loop)(u:World):Prop:=w0.heap.size≤u.heap.size∧(∀b,W.heap.size≤b→b<w0.heap.size→b≠l→b∉L→u.heap[b]? =w0.heap[b]?)∧u.heap[l]? =some (.loop r)
theorem RFL.left{W w0 wa u:World}{l:Nat}{L L2:List Nat}{r:Loop}(h:RFL W w0 l L r wa)(e1:wa.heap.size=u.heap.size)(e2:∀b,b∉L2→wa.heap[b]? =u.heap[b]?)(hL:∀b∈L2,b∈L∨w0.heap.size≤b)(hc:∀b∈L2,∃cs ty own,wa.heap[b]? =some (.cells cs ty own)):RFL W w0 l L r u:=by
 refine⟨by rw[←e1];exact h.1,fun b h1 h2 h3 h4=> ?_,?_⟩
 ·rw[←e2 b fun hc=>(hL b hc).elim h4 fun h=>by omega];exact h.2.1 b h1 h2 h3 h4
 ·rw[←e2 l fun hm=>by obtain⟨_,_,_,hh⟩:=hc l hm;rw[h.2.2]at hh;cases hh];exact h.2.2
def Q8(L:List (List Pt))(a b:Pt)(k:Nat):List Rat:=(L.flatten.map fun p=>(p.2:Rat))++Sf a.1 b.1 [] ((Kj L).take k)
theorem Gx(x0 x1:Int):∀(es l:List (Pt×Pt)) (e:Pt×Pt),Sf x0 x1 es (l++ [e])=Sf x0 x1 es l++J3 x0 x1 (es++l) e
 |es,[],e=>by simp[Sf]
 |es,x::l,e=>by
  show J3 x0 x1 es x++Sf x0 x1 (es++ [x]) (l++ [e])=(J3 x0 x1 es x++Sf x0 x1 (es++ [x]) l)++_
  rw[Gx x0 x1 (es++ [x]) l e,List.append_assoc,List.append_assoc];rfl
theorem valsK_succ{L:List (List Pt)}{a b:Pt}{k:Nat}{e:Pt×Pt}(h:(Kj L)[k]? =some e):Q8 L a b (k+1)=Q8 L a b k++J3 a.1 b.1 ((Kj L).take k) e:=by
 unfold Q8
 rw[Lb h,Gx,List.nil_append,List.append_assoc]
abbrev ESt:=Nat×((Option Addr×Nat)×List RQ)×(Option Addr×Nat)
section
variable{W w wa u:World}{a b:Pt}{ga gb gl gh gp go ge gE M n k:Nat}{rl rh:RV}{L:List (List Pt)}{yE:Option Addr×Nat}{HE:List LP}{s s':ESt}
structure EJ(W:World)(a b:Pt)(ga gb gl gh gp go ge gE M n:Nat)(rl rh:RV)(L:List (List Pt))(yE:Option Addr×Nat)(HE:List LP)(s:ESt)(k:Nat)(u:World):Prop where
 kk:s.1=k
 v:s.2.1.2.map (·.2)=Oe a b (Q8 L a b k)
 ap:ApE ge s.2.2 s.2.1.2
 e:Ev a b ga gb gl gh gp go rl rh M W.heap.size s.2.1.1 s.2.1.2 u
 g:EvE ge M W.heap.size s.2.2 k ((Kj L).take k) u
 o:C3 W.heap.size gE yE n HE u
def EL(go ge:Nat)(s:ESt):List Nat:=go::ge::(bl s.2.1.1.1++bl s.2.2.1)
structure EG(W:World)(a b:Pt)(go ge M:Nat)(L:List (List Pt))(s s':ESt)(u:World):Prop where
 k:s'.1=s.1+1
 v:s'.2.1.2.map (·.2)=Oe a b (Q8 L a b (s.1+1))
 ap:ApE ge s'.2.2 s'.2.1.2
 new:∃new,s'.2.1.2=s.2.1.2++new∧∀x∈new,Kh x.1 x.2 7 u
 o:Yr W.heap.size go s'.2.1.1 s'.2.1.2 u
 m:∀b∈bl s'.2.1.1.1,M≤b
 g:EvE ge M W.heap.size s'.2.2 (s.1+1) ((Kj L).take (s.1+1)) u
theorem el_mem{x:Nat}:x∈EL go ge s↔x=go∨x=ge∨x∈bl s.2.1.1.1∨x∈bl s.2.2.1:=by unfold EL;simp
theorem EJ.own(hM:Am W ga gb gl gh rl rh M)(hgo:M≤go)(hge:M≤ge):Uv W (EL go ge s) (EJ W a b ga gb gl gh gp go ge gE M n rl rh L yE HE s k):=fun u h x hx=>by
 rcases el_mem.1 hx with rfl|rfl|hx|hx
 ·exact⟨Nat.le_trans hM.1 hgo,h.e.o.box.own⟩
 ·exact⟨Nat.le_trans hM.1 hge,h.g.g.own⟩
 ·exact⟨Nat.le_trans hM.1 (h.e.m x hx),(h.e.o.own.blk x hx).2⟩
 ·exact⟨(h.g.r.blk x hx).1,(h.g.r.blk x hx).2⟩
theorem EJ.box(h:EJ W a b ga gb gl gh gp go ge gE M n rl rh L yE HE s k wa){g:Nat}{t:TypeId}{cs:List Value}(hb:Kb wa g t cs)(h1:t≠97)(h2:t≠262)(h3:t≠26)(h4:t≠268):g∉EL go ge s:=fun hc=>by
 rcases el_mem.1 hc with rfl|rfl|hx|hx
 ·exact hb.ne2 h.e.o.box h1 rfl
 ·exact hb.ne2 h.g.g h2 rfl
 ·exact hb.ne h.e.o.own (fun e=>h3 e.symm) _ hx rfl
 ·exact hb.ne h.g.r (fun e=>h4 e.symm) _ hx rfl
theorem EJ.row(h:EJ W a b ga gb gl gh gp go ge gE M n rl rh L yE HE s k wa){B s2 m cc:Nat}{e:TypeId}{A:Option Addr}{xs:List Value}(hr:K6 wa B e s2 A m cc xs)(h1:e≠97)(h2:e≠262)(h3:e≠26)(h4:e≠268):∀x∈bl A,x∉EL go ge s:=fun x hxA hc=>by
 rcases el_mem.1 hc with rfl|rfl|hx|hx
 ·exact h.e.o.box.ne hr h1 _ hxA rfl
 ·exact h.g.g.ne hr h2 _ hxA rfl
 ·exact Oq hr h.e.o.own h3 x hxA hx
 ·exact Oq hr h.g.r h4 x hxA hx
theorem EJ.left(hM:Am W ga gb gl gh rl rh M)(hgo:M≤go)(hge:M≤ge):Tt (EL go ge s) (EJ W a b ga gb gl gh gp go ge gE M n rl rh L yE HE s k) (EG W a b go ge M L s s') (EJ W a b ga gb gl gh gp go ge gE M n rl rh L yE HE s' (k+1)):=fun wa u e1 e2 h hG=>by
 have hk:=h.kk
 subst hk
 refine⟨hG.k,hG.v,hG.ap,⟨h.e.c.left hM (L:=EL go ge s) (fun x hx=> ?_) e1 e2,h.e.p.left e2 (h.box h.e.p Zd Zd Zd Zd),⟨hG.o,fun x hx=> ?_⟩,hG.m⟩,hG.g,h.o.1.left e2 (h.box h.o.1 Zd Zd Zd Zd),h.o.2.own.left e2 (h.row h.o.2.own Zd Zd Zd Zd),fun x hx=>(h.o.2.ring x hx).left e2 (h.row (h.o.2.ring x hx) Zd Zd Zd Zd)⟩
 ·rcases el_mem.1 hx with rfl|rfl|hx|hx
  ·exact hgo
  ·exact hge
  ·exact h.e.m x hx
  ·exact h.g.m x hx
 ·obtain⟨new,hn1,hn2⟩:=hG.new
  rw[hn1]at hx
  rcases List.mem_append.1 hx with hx|hx
  ·refine(h.e.o.num x hx).leftL e1 e2 fun c hc hcl=> ?_
   have h1:=h.e.o.apart x hx
   have h2:=h.ap x hx
   rcases el_mem.1 hcl with rfl|rfl|h3|h3
   ·exact h1.2 hc
   ·exact h2.1 hc
   ·exact h1.1 c h3 hc
   ·exact h2.2 c h3 hc
  ·exact hn2 x hx
theorem Kh.cel{r:RV}{q:Rat}{K:Nat}:C4 fun u=>Kh r q K u:=fun wa u h1 h2 h=>h.same h1 fun b hb=>by
 obtain⟨_,_,_,hh⟩:=h.blk b hb
 exact h2 _ _ _ _ hh
theorem K6.cel{B s n c:Nat}{e:TypeId}{A:Option Addr}{xs:List Value}:C4 fun u=>K6 u B e s A n c xs:=fun wa u h1 h2 h=>h.same fun b hb=>by
 obtain⟨_,_,_,_,hh⟩:=h.blk b hb
 exact h2 _ _ _ _ hh
theorem K8.cel{g:Nat}{cs:List Value}:C4 fun u=>K8 u g cs:=fun wa u h1 h2 h=>by
 obtain⟨t,h⟩:=h;exact⟨t,(h2 _ _ _ _ h).trans h⟩
theorem Ev.cel{y:Option Addr×Nat}{rs:List RQ}{B:Nat}:C4 (Ev a b ga gb gl gh gp go rl rh M B y rs):=fun wa u h1 h2 h=>
 ⟨⟨Kb.cel wa u h1 h2 h.c.pa,Kb.cel wa u h1 h2 h.c.pb,K8.cel wa u h1 h2 h.c.pl,K8.cel wa u h1 h2 h.c.ph,Kh.cel wa u h1 h2 h.c.ql,Kh.cel wa u h1 h2 h.c.qh⟩,Kb.cel wa u h1 h2 h.p,⟨⟨Kb.cel wa u h1 h2 h.o.box,K6.cel wa u h1 h2 h.o.own,h.o.apart⟩,fun r hr=>Kh.cel wa u h1 h2 (h.o.num r hr)⟩,h.m⟩
theorem EJ.cel:C4 (EJ W a b ga gb gl gh gp go ge gE M n rl rh L yE HE s k):=fun wa u h1 h2 h=>
 ⟨h.kk,h.v,h.ap,Ev.cel wa u h1 h2 h.e,⟨Kb.cel wa u h1 h2 h.g.g,K6.cel wa u h1 h2 h.g.r,h.g.m⟩,Kb.cel wa u h1 h2 h.o.1,K6.cel wa u h1 h2 h.o.2.own,fun x hx=>K6.cel wa u h1 h2 (h.o.2.ring x hx)⟩
end
section
variable{W w w0 wa u:World}{a b:Pt}{ga gb gl gh gp go ge gE M n k l:Nat}{rl rh r:RV}{q:Rat}{L:List (List Pt)}{s:ESt}{y z:Option Addr×Nat}{rs:List RQ}{rc:Loop}
structure RdP(w0:World)(ge:Nat)(s:ESt)(y:Option Addr×Nat)(rs:List RQ):Prop where
 new:∃new,rs=s.2.1.2++new∧∀x∈new,∀b∈Ln x.1,w0.heap.size≤b
 blk:∀b∈bl y.1,b∈bl s.2.1.1.1∨w0.heap.size≤b
 ap:ApE ge s.2.2 rs
structure Rd(W w0:World)(l:Nat)(rc:Loop)(a b:Pt)(ga gb gl gh gp go ge M:Nat)(rl rh:RV)(L:List (List Pt))(s:ESt)(y:Option Addr×Nat)(rs:List RQ)(u:World):Prop where
 f:RFL W w0 l (EL go ge s) rc u
 e:Ev a b ga gb gl gh gp go rl rh M W.heap.size y rs u
 g:EvE ge M W.heap.size s.2.2 s.1 ((Kj L).take s.1) u
 p:RdP w0 ge s y rs
structure Apr(w0:World)(go ge:Nat)(s:ESt)(y:Option Addr×Nat)(r:RV):Prop where
 q:Apq go y r
 n:∀b∈Ln r,w0.heap.size≤b
 e:ge∉Ln r∧∀b∈bl s.2.2.1,b∉Ln r
theorem Rd.apr(h:Rd W w0 l rc a b ga gb gl gh gp go ge M rl rh L s y rs w)(hr:∀b∈Ln r,w.heap.size≤b):Apr w0 go ge s y r:=
 ⟨h.e.apq hr,fun b hb=>Nat.le_trans h.f.1 (hr b hb),fun hc=>by have:=hr _ hc;have:=h.g.g.lt;omega,fun b hb hc=>by have:=hr b hc;have:=(h.g.r.lt b hb).2;omega⟩
theorem RdP.next{lo hi:Rat}(h:RdP w0 ge s y rs)(ha:Apr w0 go ge s y r)(hz:∀b∈bl z.1,b∈bl y.1∨w0.heap.size≤b):RdP w0 ge s z (Qf lo hi rs r q):=by
 have hb2:∀b∈bl z.1,b∈bl s.2.1.1.1∨w0.heap.size≤b:=fun b hb=>(hz b hb).elim (h.blk b) .inr
 unfold Qf
 split
 ·obtain⟨new,h1,h2⟩:=h.new
  refine⟨⟨new++ [(r,q)],by rw[h1,List.append_assoc],fun x hx=> ?_⟩,hb2,fun x hx=> ?_⟩
  ·rcases List.mem_append.1 hx with hx|hx
   ·exact h2 x hx
   ·obtain rfl:x=(r,q):=by simpa using hx
    exact ha.n
  ·rcases List.mem_append.1 hx with hx|hx
   ·exact h.ap x hx
   ·obtain rfl:x=(r,q):=by simpa using hx
    exact ha.e
 ·exact⟨h.new,hb2,h.ap⟩
theorem Rd.put(hM:Am W ga gb gl gh rl rh M)(hgo:M≤go)(hW:Below W.heap.size W w)(h:Rd W w0 l rc a b ga gb gl gh gp go ge M rl rh L s y rs w)(hr:Kh r q 7 w)(ha:Apr w0 go ge s y r)(hn:rs.length≤99999999):
 Calls Tryz.prog 162 #[r.val,Ku gl,Ku gh,Ku go] w (Ky w (go::bl y.1) (fun _:Option Addr×Nat=> .tuple #[]) fun z u=>Yr W.heap.size go z (Qf (a.2:Rat) (b.2:Rat) rs r q) u∧∀b∈bl z.1,b∈bl y.1∨w0.heap.size≤b):=
 h.e.put hM hgo hW hr ha.q hn h.f.1
theorem Rd.next(hM:Am W ga gb gl gh rl rh M)(hgo:M≤go)(hM0:M≤w0.heap.size)(e1:wa.heap.size=u.heap.size)(e2:∀b,b∉go::bl y.1→wa.heap[b]? =u.heap[b]?)(h:Rd W w0 l rc a b ga gb gl gh gp go ge M rl rh L s y rs wa)(hr:Kh r q 7 wa)(ha:Apr w0 go ge s y r)(hG:Yr W.heap.size go z (Qf (a.2:Rat) (b.2:Rat) rs r q) u∧∀b∈bl z.1,b∈bl y.1∨w0.heap.size≤b):
 Rd W w0 l rc a b ga gb gl gh gp go ge M rl rh L s z (Qf (a.2:Rat) (b.2:Rat) rs r q) u:=by
 refine⟨h.f.left e1 e2 (fun x hx=> ?_) (fun x hx=>(h.e.own hM hgo x hx).2),h.e.next hM hgo e1 e2 hr ha.q hM0 hG,⟨h.g.g.left e2 fun hc=> ?_,h.g.r.left e2 fun x hx hc=> ?_,h.g.m⟩,h.p.next ha hG.2⟩
 ·rcases List.mem_cons.1 hx with rfl|hx
  ·exact .inl (el_mem.2 (.inl rfl))
  ·exact(h.p.blk x hx).imp (fun h=>el_mem.2 (.inr (.inr (.inl h)))) id
 ·rcases List.mem_cons.1 hc with rfl|hc
  ·exact h.g.g.ne2 h.e.o.box Zd rfl
  ·exact h.g.g.ne h.e.o.own Zd _ hc rfl
 ·rcases List.mem_cons.1 hc with rfl|hc
  ·exact h.e.o.box.ne h.g.r Zd _ hx rfl
  ·exact Oq h.g.r h.e.o.own Zd x hx hc
end
theorem lit_left{wa u:World}{L:List Nat}{e:TypeId}{cs:Array Value}{g:Nat}(e2:∀b,b∉L→wa.heap[b]? =u.heap[b]?)(h:Kv e cs g wa)(hg:g∉L):Kv e cs g u:=(e2 g hg).symm.trans h
theorem Rd.lit{W w0 wa:World}{a b:Pt}{ga gb gl gh gp go ge M l g:Nat}{rl rh:RV}{L:List (List Pt)}{s:ESt}{y:Option Addr×Nat}{rs:List RQ}{rc:Loop}{e:TypeId}{cs:Array Value}(h1:e≠97)(h2:e≠26)(hl:Kv e cs g wa)(h:Rd W w0 l rc a b ga gb gl gh gp go ge M rl rh L s y rs wa):g∉go::bl y.1:=fun hc=>by
 have hb:Kb wa g e cs.toList:=by unfold Kb;rw[Array.toArray_toList];exact hl
 rcases List.mem_cons.1 hc with rfl|hc
 ·exact hb.ne2 h.e.o.box h1 rfl
 ·exact hb.ne h.e.o.own (fun e=>h2 e.symm) _ hc rfl
section
variable{W w w0 wa u:World}{a b:Pt}{ga gb gl gh gp go ge gE M n k l gq:Nat}{rl rh r:RV}{q:Rat}{L:List (List Pt)}{s:ESt}{x:Pt×Pt}{y z:Option Addr×Nat}{rs:List RQ}{rc:Loop}
theorem Ev.leftL{L2:List Nat}{B:Nat}(hM:Am W ga gb gl gh rl rh M)(h:Ev a b ga gb gl gh gp go rl rh M B y rs wa)(e1:wa.heap.size=u.heap.size)(e2:∀b,b∉L2→wa.heap[b]? =u.heap[b]?)(h1:∀b∈L2,M≤b)(h2:gp∉L2)(h3:go∉L2)(h4:∀b∈bl y.1,b∉L2)(h5:∀r∈rs,∀b∈Ln r.1,b∉L2):Ev a b ga gb gl gh gp go rl rh M B y rs u:=
 ⟨h.c.left hM h1 e1 e2,h.p.left e2 h2,h.o.leftL e1 e2 h3 h4 h5,h.m⟩
structure ReP(w0:World)(s:ESt)(rs:List RQ)(z:Option Addr×Nat):Prop where
 blk:∀b∈bl z.1,b∈bl s.2.2.1∨w0.heap.size≤b
 ap:∀r∈rs,∀b∈bl z.1,b∉Ln r.1
structure Re(W w0:World)(l:Nat)(rc:Loop)(a b:Pt)(ga gb gl gh gp go ge M:Nat)(rl rh:RV)(L:List (List Pt))(s:ESt)(x:Pt×Pt)(y:Option Addr×Nat)(rs:List RQ)(z:Option Addr×Nat)(u:World):Prop where
 f:RFL W w0 l (EL go ge s) rc u
 e:Ev a b ga gb gl gh gp go rl rh M W.heap.size y rs u
 g:Kb u ge 262 [.slice s.2.2.1 s.1 s.2.2.2]
 r:K6 u W.heap.size 268 4 z.1 (s.1+1) z.2 (((Kj L).take s.1++ [x]).flatMap edC)
 p:RdP w0 ge s y rs
 z:ReP w0 s rs z
theorem Rd.app(h:Rd W w0 l rc a b ga gb gl gh gp go ge M rl rh L s y rs u)(hB:W.heap.size≤u.heap.size)(hg:Kv 268 (edC x).toArray gq u)(hn:s.1<4096):
 Nf Tryz.prog u (bl s.2.2.1) (fun z:Option Addr×Nat=> .slice z.1 (s.1+1) z.2) (fun z v=>K6 v W.heap.size 268 4 z.1 (s.1+1) z.2 (((Kj L).take s.1++ [x]).flatMap edC)∧ReP w0 s rs z) (Nc 262 262 (.slice s.2.2.1 s.1 s.2.2.2) (Km 1 gq)):=by
 have ha2:=M9 (P:=Tryz.prog) (s:=4) (z:= .agg #[.int .i64 0,.int .i64 0,.int .i64 0,.int .i64 0]) (bytes:=32) (m:=1) (cc:=1) (t:=262) (elem:=268) Zk Zk rfl Zd h.g.r hB (M8 (n:=1) hg rfl) (by intro v hv;simp[edC,Kf]at hv;rcases hv with rfl|rfl|rfl|rfl<;>rfl) Zo Zd
 have e:((Kj L).take s.1++ [x]).flatMap edC=((Kj L).take s.1).flatMap edC++(edC x).toArray.toList:=by simp
 rw[e]
 refine Oy ha2 fun z' hz=>⟨fun b hb=>(hz b hb).imp id fun h2=>Nat.le_trans h.f.1 h2,fun r hr b hb hc=> ?_⟩
 rcases hz b hb with h5|h5
 ·exact(h.p.ap r hr).2 b h5 hc
 ·have:=Nz (h.e.o.num r hr) b hc;omega
theorem Rd.re(hM:Am W ga gb gl gh rl rh M)(h:Rd W w0 l rc a b ga gb gl gh gp go ge M rl rh L s y rs wa)(e1:wa.heap.size=u.heap.size)(e2:∀b,b∉bl s.2.2.1→wa.heap[b]? =u.heap[b]?)(hG:K6 u W.heap.size 268 4 z.1 (s.1+1) z.2 (((Kj L).take s.1++ [x]).flatMap edC)∧ReP w0 s rs z):
 Re W w0 l rc a b ga gb gl gh gp go ge M rl rh L s x y rs z u:=
 ⟨h.f.left e1 e2 (fun x hx=> .inl (el_mem.2 (.inr (.inr (.inr hx))))) (fun x hx=>(h.g.r.blk x hx).2),h.e.leftL hM e1 e2 h.g.m (fun hc=>h.e.p.ne h.g.r Zd _ hc rfl) (fun hc=>h.e.o.box.ne h.g.r Zd _ hc rfl) (fun b hb hc=>Oq h.e.o.own h.g.r Zd b hb hc) (fun r hr b hb hc=>(h.p.ap r hr).2 b hc hb),h.g.g.left e2 (fun hc=>h.g.g.ne h.g.r Zd _ hc rfl),hG.1,h.p,hG.2⟩
structure Rz(W w0:World)(l:Nat)(rc:Loop)(a b:Pt)(ga gb gl gh gp go ge M:Nat)(rl rh:RV)(L:List (List Pt))(s:ESt)(x:Pt×Pt)(y:Option Addr×Nat)(rs:List RQ)(z:Option Addr×Nat)(u:World):Prop where
 f:RFL W w0 l (EL go ge s) rc u
 e:Ev a b ga gb gl gh gp go rl rh M W.heap.size y rs u
 g:Kb u ge 262 [.slice z.1 (s.1+1) z.2]
 r:K6 u W.heap.size 268 4 z.1 (s.1+1) z.2 (((Kj L).take s.1++ [x]).flatMap edC)
 p:RdP w0 ge s y rs
 z:ReP w0 s rs z
theorem Re.rz(hM:Am W ga gb gl gh rl rh M)(hge:M≤ge)(h:Re W w0 l rc a b ga gb gl gh gp go ge M rl rh L s x y rs z wa)(e1:wa.heap.size=u.heap.size)(e2:∀b,b∉[ge]→wa.heap[b]? =u.heap[b]?)(hG:Kb u ge 262 [.slice z.1 (s.1+1) z.2]):
 Rz W w0 l rc a b ga gb gl gh gp go ge M rl rh L s x y rs z u:=
 ⟨h.f.left e1 e2 (fun x hx=>by have hx:=List.mem_singleton.1 hx;subst hx;exact .inl (el_mem.2 (.inr (.inl rfl)))) (fun x hx=>by have hx:=List.mem_singleton.1 hx;subst hx;exact h.g.own),h.e.leftL hM e1 e2 (fun x hx=>by have hx:=List.mem_singleton.1 hx;subst hx;exact hge) (fun hc=>h.e.p.ne2 h.g Zd (List.mem_singleton.1 hc)) (fun hc=>h.e.o.box.ne2 h.g Zd (List.mem_singleton.1 hc)) (fun b hb hc=>h.g.ne h.e.o.own Zd b hb (List.mem_singleton.1 hc)) (fun r hr b hb hc=>(h.p.ap r hr).1 (List.mem_singleton.1 hc▸hb)),hG,h.r.left e2 (fun b hb hc=>h.g.ne h.r Zd b hb (List.mem_singleton.1 hc)),h.p,h.z⟩
theorem Rz.eg(hM0:M≤w0.heap.size)(hm:∀b∈bl s.2.2.1,M≤b)(hx:(Kj L)[s.1]? =some x)(hv:rs.map (·.2)=Oe a b (Q8 L a b (s.1+1)))(h:Rz W w0 l rc a b ga gb gl gh gp go ge M rl rh L s x y rs z w)(k1:w.heap.size≤u.heap.size)(k2:∀b,b∈EL go ge s∨(w0.heap.size≤b∧b<w.heap.size)→u.heap[b]? =w.heap[b]?):
 EG W a b go ge M L s (s.1+1,(y,rs),z) u:=by
 refine⟨rfl,hv,fun r hr=>⟨(h.p.ap r hr).1,h.z.ap r hr⟩,?_,h.e.o.toYr.to fun b hb=> ?_,h.e.m,⟨h.g.to (k2 ge (.inl (el_mem.2 (.inr (.inl rfl))))),?_,fun b hb=>(h.z.blk b hb).elim (hm b) fun h2=>Nat.le_trans hM0 h2⟩⟩
 ·obtain⟨new,h1,h2⟩:=h.p.new
  refine⟨new,h1,fun r hr=> ?_⟩
  have hq:=h.e.o.num r (by rw[h1];exact List.mem_append_right _ hr)
  exact hq.same k1 fun b hb=>k2 b (.inr ⟨h2 r hr b hb,Nz hq b hb⟩)
 ·refine k2 b ?_
  rcases List.mem_cons.1 hb with rfl|hb
  ·exact .inl (el_mem.2 (.inl rfl))
  ·exact(h.p.blk b hb).elim (fun h3=> .inl (el_mem.2 (.inr (.inr (.inl h3))))) fun h3=> .inr ⟨h3,(h.e.o.own.lt b hb).2⟩
 ·rw[Lb hx]
  refine h.r.same fun b hb=>k2 b ?_
  exact(h.z.blk b hb).elim (fun h3=> .inl (el_mem.2 (.inr (.inr (.inr h3))))) fun h3=> .inr ⟨h3,(h.r.lt b hb).2⟩
end
structure Fin(B gr n c:Nat)(r t:List RQ)(u:World):Prop where
 o:K6 u B 26 4 (some ⟨gr,0,none⟩) n c ((r++t).flatMap Nx)
 q:∀x∈r,Kh x.1 x.2 7 u
theorem Fin.cel{B gr n c:Nat}{r t:List RQ}:C4 (Fin B gr n c r t):=fun wa u h1 h2 h=>⟨K6.cel wa u h1 h2 h.o,fun x hx=>Kh.cel wa u h1 h2 (h.q x hx)⟩
theorem rowA_of{B gr n c:Nat}{r t:List RQ}{u:World}(h:K6 u B 26 4 (some ⟨gr,0,none⟩) n c ((r++t).flatMap Nx))(h0:0<n):Kq u (some ⟨gr,0,none⟩) r.length 4 Nx r:=
 ⟨rfl,fun k x hk=>⟨_,rfl,fun j v hj=>by
  have h1:(r++t)[k]? =some x:=by rw[List.getElem?_append_left (List.getElem?_eq_some_iff.1 hk).1];exact hk
  have:=Ba h h0 h1 j v hj
  rw[Addr.add_mid,Addr.add_mid,Nat.zero_add];exact this⟩⟩
theorem B9(x0 x1:Int):∀(es l:List (Pt×Pt)),(Sf x0 x1 es l).length≤l.length*(2+es.length+l.length)
 |es,[]=>by simp[Sf]
 | es,e::l=>by
  have h1:(J3 x0 x1 es e).length≤2+es.length:=by
   unfold J3
   rw[List.length_append,List.length_append]
   have h2:=List.length_filterMap_le (fun o=>Pa o.1 o.2 e.1 e.2) es
   have h3:∀o:Option Rat,o.toList.length≤1:=fun o=>by cases o<;>simp
   have h4:=h3 (yAt e.1 e.2 x0)
   have h5:=h3 (yAt e.1 e.2 x1)
   omega
  have h2:=B9 x0 x1 (es++ [e]) l
  rw[List.length_append,List.length_singleton]at h2
  show(J3 x0 x1 es e++Sf x0 x1 (es++ [e]) l).length≤(l.length+1)*(2+es.length+(l.length+1))
  rw[List.length_append,Nat.add_mul,Nat.one_mul]
  have e2:2+(es.length+1)+l.length=2+es.length+(l.length+1):=by omega
  rw[e2]at h2
  omega
theorem Au{L:List (List Pt)}{a b:Pt}{k:Nat}(hL:L.flatten.length≤4096)(hk:k≤4096):(Q8 L a b k).length≤20000000:=by
 have h1:=B9 a.1 b.1 [] ((Kj L).take k)
 have h2:((Kj L).take k).length≤4096:=by rw[List.length_take];omega
 have h3:((Kj L).take k).length*(2+0+((Kj L).take k).length)≤4096*(2+0+4096):=Nat.mul_le_mul h2 Zo
 unfold Q8
 rw[List.length_append,List.length_map]
 simp only[List.length_nil]at h1
 omega
theorem F3{L:List (List Pt)}(h:∀p∈L.flatten,vP p=true){e:Pt×Pt}(he:e∈Kj L):vP e.1=true∧vP e.2=true∧e.1≠e.2:=by
 obtain⟨r,hr,hm⟩:=List.mem_flatMap.1 he
 have h1:=B4 hm
 refine⟨h _ (List.mem_flatten.2 ⟨r,hr,h1.1⟩),h _ (List.mem_flatten.2 ⟨r,hr,h1.2⟩),?_⟩
 have:=(List.mem_filter.1 hm).2
 simpa using this
theorem Qv:∀(L:List (List Pt)),(Kj L).length≤L.flatten.length
 | []=>Nat.le_refl _
 | r::L=>by
  have h1:(ringE r).length≤r.length:=by
   refine Nat.le_trans (List.length_filter_le _ _) ?_
   rw[List.length_zip];omega
  have:=Qv L
  unfold Kj at*
  rw[List.flatMap_cons,List.length_append,List.flatten_cons,List.length_append];omega
section
variable{w:World}{A:Option Addr}{n c:Nat}{H:List LP}{a b:Pt}
theorem eventYs_m(hp:Np w A n H)(hn:n≤1000000)(hv:vL 0 (K4 H)=true)(ha:vP a=true)(hb:vP b=true)(hab:a.2<b.2):Calls Tryz.prog 101 #[.slice A n c,Ls a,Ls b] w (K3 w (fun q:(Option Addr×Nat)×{r:List RQ // r.map (·.2)=Zz (K4 H) a b}=> .slice q.1.1 q.2.1.length q.1.2) fun q u=>Kq u q.1.1 q.2.1.length 4 Nx q.2.1∧∀r∈q.2.1,Kh r.1 r.2 7 u):=by
 have hf:=hv
 rw[Aw (Nat.zero_le _),Bool.and_eq_true,decide_eq_true_eq,List.all_eq_true]at hf
 have hlen:∀x∈H,x.1.length≤4096:=fun x hx=>by
  have:x.1.length≤(K4 H).flatten.length:=List.Sublist.length_le (List.sublist_flatten_of_mem (List.mem_map_of_mem hx))
  omega
 have hpt:∀x∈H,∀p∈x.1,vP p=true:=fun x hx p hp=>hf.2 p (List.mem_flatten.2 ⟨x.1,List.mem_map_of_mem hx,hp⟩)
 have hva:=Ni ha
 have hvb:=Ni hb
 refine K0.enterM Tryz.func101 rfl (Below.refl _ _) ?_
 refine ZS 0 ?_
 refine K0.make (Ad 35 (Ls a)) (Ku) (fun g u=>Kb u g 35 (Kf a)∧w.heap.size≤g∧g∉[]) Zk (fun w1 hw h=>Q3 (v:=Ls a) hw.size Zs) (fun ga=> ?_)
 refine ZS 1 ?_
 refine K0.make (Ad 35 (Ls b)) (Ku) (fun g u=>Kb u g 35 (Kf b)∧w.heap.size≤g∧g∉[]) Zk (fun w1 hw h=>Q3 (v:=Ls b) hw.size Zs) (fun gb=> ?_)
 refine ZR ?_
 refine ZD 6 (fun w1 hw h=>Pg (c:=c) (hp.below hw) hn (fun x hx=>by have:=hlen x hx;omega) hv) fun v=> ?_
 refine ZA (Kd 35 ⟨ga,0,none⟩) (Ls a) (fun w1 hw h=>(h.1.1.2).1.loadN Zk Zk) ?_
 refine ZA (Kd 35 ⟨gb,0,none⟩) (Ls b) (fun w1 hw h=>(h.1.2).1.loadN Zk Zk) ?_
 refine K0.make (M5 (108) 2 #[(0,Ls a),(1,Ls b)]) (Km 2) (Kv 35 #[.int .i64 a.1,.int .i64 a.2,.int .i64 b.1,.int .i64 b.2]) Zk (fun w1 hw h=>Ke Zk) (fun g1=> ?_)
 refine ZR ?_
 refine ZC (fun w1 hw h=>may_m (c:=2) (l:=[a,b]) (B:=true) (Kq.lit (fun _=>rfl) h.2) Zs (by simp[ha,hb])) fun v2=> ?_
 refine ZA (Kd 3 ⟨ga,1,none⟩) (.int .i64 a.2) (fun w1 hw h=>(h.1.1.1.1.2).1.loadJ Zk rfl) ?_
 refine ZA (Kd 3 ⟨gb,1,none⟩) (.int .i64 b.2) (fun w1 hw h=>(h.1.1.1.2).1.loadJ Zk rfl) ?_
 refine ZJ (decide (a.2≥b.2)) false (decide_eq_false Zo) ?_
 refine ZB 1 (Kd 3 ⟨ga,1,none⟩) (.int .i64 a.2) (fun w1 hw h=>(h.1.1.1.1.2).1.loadJ Zk rfl) ?_
 refine ZB 4 (Kd 3 ⟨gb,1,none⟩) (.int .i64 b.2) (fun w1 hw h=>(h.1.1.1.2).1.loadJ Zk rfl) ?_
 refine ZC (fun w1 hw h=>Ki a.2 w1 Zo Zo) fun rl=> ?_
 refine ZD 0 (fun w1 hw h=>Ki b.2 w1 Zo Zo) fun rh=> ?_
 refine K0.run Zk (stop:=1000) 2 _ ?_
 refine K0.expose 7 rl.cl Zk Zk (fun gl hgl=> ?_)
 refine K0.expose 8 rh.cl Zk Zk (fun gh hgh=> ?_)
 refine K0.weak (Φ':=fun u=>(Kb u ga 35 (Kf a)∧Kb u gb 35 (Kf b)∧K8 u gl rl.cl∧K8 u gh rh.cl)∧Kh rl (a.2:Rat) 2 u∧Kh rh (b.2:Rat) 2 u) Zk (fun u h=>⟨⟨h.1.1.1.1.1.1.1.1.2.1,h.1.1.1.1.1.1.1.2.1,h.1.2,h.2⟩,h.1.1.1.2,h.1.1.2⟩) ?_
 refine ZR ?_
 refine ZA (Kd 26 ⟨gl,0,none⟩) (rl.val) (fun w1 hw h=>Ka (vs:=rl.cl) Zk Zk (K8.range h.1.2.2.1)) ?_
 refine ZA (Kd 26 ⟨gh,0,none⟩) (rh.val) (fun w1 hw h=>Ka (vs:=rh.cl) Zk Zk (K8.range h.1.2.2.2)) ?_
 refine K0.make (M5 97 2 #[(0,rl.val),(1,rh.val)]) (Km 2) (fun g u=>Kv 26 ([rl,rh].flatMap RV.cl).toArray g u∧Am w ga gb gl gh rl rh g) Zk (fun w1 hw h=>Bd Zk (fun g hg=>⟨Nat.le_trans hw.size hg,Nat.lt_of_lt_of_le h.1.1.lt hg,Nat.lt_of_lt_of_le h.1.2.1.lt hg,Nat.lt_of_lt_of_le h.1.2.2.1.ltW hg,Nat.lt_of_lt_of_le h.1.2.2.2.ltW hg,fun b hb=>Nat.lt_of_lt_of_le (Nz h.2.1 b hb) hg,fun b hb=>Nat.lt_of_lt_of_le (Nz h.2.2 b hb) hg⟩)) (fun g2=> ?_)
 refine ZS 3 ?_
 refine K0.make (C1 97) (Ku) (fun go u=>Kb u go 97 [.slice none 0 0]∧g2≤go∧go∉[]) Zk (fun w1 hw h=>Q4 (z:= .slice none 0 0) Zk (Nat.le_of_lt (litG_lt h.2.1)) Zs) (fun go=> ?_)
 refine ZR ?_
 refine K0.pure_ (p:=Am w ga gb gl gh rl rh g2∧g2≤go) (fun u hu h=>⟨h.1.2.2,h.2.2.1⟩) Zk (fun hM=> ?_)
 obtain⟨hM,hgo⟩:=hM
 refine K0.mutSt (L:=[go]) (G:=fun u=>Kb u go 97 [.slice (some ⟨g2,0,none⟩) 2 2]) (Φ':=fun u=>Ev0 a b ga gb gl gh rl rh u∧Out w.heap.size go 7 (some ⟨g2,0,none⟩,2) [(rl,(a.2:Rat)),(rh,(b.2:Rat))] u) (Rm 97 ⟨go,0,none⟩ (.slice (some ⟨g2,0,none⟩) 2 2)) (fun w1 hw h=>h.2.1.store Zk rfl (fun v hv=>by have hv:=List.mem_singleton.1 hv;subst hv;rfl)) (fun u h b hb=>by have hb:=List.mem_singleton.1 hb;subst hb;exact⟨Nat.le_trans hM.1 hgo,h.2.1.own⟩) (fun wa u e1 e2 h hG=>ev_start hM hgo e1 e2 h.1.1 h.1.2.1 h.2.1 hG) Zk Zk ?_
 refine ZS 1 ?_
 refine K0.make (C1 261) (Ku) (fun gp u=>Kb u gp 261 [.nilFunc]∧go≤gp∧gp∉[go]) Zk (fun w1 hw h=>Q4 (z:= .nilFunc) Zk (Nat.le_of_lt h.2.box.lt) (by simp;exact h.2.box.lt)) (fun gp=> ?_)
 refine ZR ?_
 refine K0.pure_ (p:=go≤gp∧gp≠go) (fun u hu h=>⟨h.2.2.1,by simpa using h.2.2.2⟩) Zk (fun hgp=> ?_)
 obtain⟨hgp,hgpo⟩:=hgp
 refine K0.mutSt (L:=[gp]) (G:=fun u=>Kb u gp 261 [putF gl gh go]) (Φ':=fun u=>Ev a b ga gb gl gh gp go rl rh g2 w.heap.size (some ⟨g2,0,none⟩,2) [(rl,(a.2:Rat)),(rh,(b.2:Rat))] u) (Rm 261 ⟨gp,0,none⟩ (putF gl gh go)) (fun w1 hw h=>h.2.1.store Zk rfl (fun v hv=>by have hv:=List.mem_singleton.1 hv;subst hv;rfl)) (fun u h b hb=>by have hb:=List.mem_singleton.1 hb;subst hb;exact⟨Nat.le_trans hM.1 (Nat.le_trans hgo hgp),h.2.1.own⟩) (fun wa u e1 e2 h hG=>⟨h.1.1.left hM (L:=[gp]) Zp e1 e2,hG,h.1.2.leftL e1 e2 (by simpa using hgpo.symm) (fun b hb=>by simpa using h.2.1.ne h.1.2.own Zd b hb) (fun r hr b hb=>by
  simp only[List.mem_cons,List.not_mem_nil,or_false]at hr
  obtain⟨_,_,_,_,_,m5,m6⟩:=hM
  rcases hr with rfl|rfl
  ·have:=m5 b hb;simp;omega
  ·have:=m6 b hb;simp;omega),fun b hb=>by have hb:=List.mem_singleton.1 hb;subst hb;exact Nat.le_refl _⟩) Zk Zk ?_
 refine ZR ?_
 have hgoW:w.heap.size≤go:=Nat.le_trans hM.1 hgo
 have hlen2:(K4 H).flatten.length≤4096:=by omega
 refine K0.loop (ι:={q:Nat×(Option Addr×Nat)×List RQ // q.1≤n∧q.2.2.map (·.2)=Oe a b ((K4 (H.take q.1)).flatten.map fun p=>(p.2:Rat))}) 130 (fun q=>⟨[(0,.v (.slice A n c)),(1,.v (Ls a)),(2,.v (Ls b)),(4,.v (Ku ga)),(5,.v (Ku gb)),(6,.v (.slice none 0 0)),(7,.v (Ku gl)),(8,.v (Ku gh)),(9,.v (Ku go)),(10,.v (Ku gp)),(54,.v (.slice A n c)),(55,.v (.int .i64 n)),(56,.v (.int .i64 q.1.1))],[]⟩) (fun q u=>Ev a b ga gb gl gh gp go rl rh g2 w.heap.size q.1.2.1 q.1.2.2 u) (fun q=>n-q.1.1) (⟨(0,(some ⟨g2,0,none⟩,2),[(rl,(a.2:Rat)),(rh,(b.2:Rat))]),Nat.zero_le _,rfl⟩) Zk (fun _=>by kernel_rfl) ⟨Zk,Zk,Zk⟩ (fun u h=>h) ?_
 rintro⟨⟨k,y,rs⟩,hk,hvs⟩ gg
 have hk2:k≤n:=hk
 by_cases hlt:k<n
 case neg=>
  refine ZR ?_
  refine ZJ (decide ((k:Int)<(n:Int))) false (decide_eq_false Zo) ?_
  refine K0.leave Zk ?_
  refine ZS 0 ?_
  have hkn:k=n:=by omega
  have hvs2:rs.map (·.2)=Oe a b ((K4 H).flatten.map fun p=>(p.2:Rat)):=by have:=hvs;simp only at this;rw[this,hkn,List.take_of_length_le (by rw[hp.row.1];omega)]
  refine K0.make (C1 262) (Ku) (fun ge u=>Kb u ge 262 [.slice none 0 0]∧g2≤ge∧ge∉rs.flatMap fun r=>Ln r.1) Zk (fun w1 hw h=>Q4 (z:= .slice none 0 0) Zk (by have:=h.o.box.lt;omega) (fun b hb=>by obtain⟨r,hr,hb⟩:=List.mem_flatMap.1 hb;exact Nz (h.o.num r hr) b hb)) (fun ge=> ?_)
  refine ZR ?_
  refine ZC (fun w1 hw h=>edges_m (N:=w.heap.size) (c:=c) hw.size (hp.below hw) hn hv) fun E=> ?_
  obtain⟨⟨gE,yE⟩,HE,hHE⟩:=E
  refine K0.pure_ (p:=g2≤ge∧ge∉rs.flatMap fun r=>Ln r.1) (fun u hu h=>h.1.2.2) Zk (fun hge=> ?_)
  obtain⟨hge,hgr⟩:=hge
  have hHEl:HE.length=n:=by have h1:=congrArg List.length hHE;simp only[K4,List.length_map]at h1;rw[h1];exact hp.row.1
  have hHEm:∀x∈HE,∃z∈H,z.1=x.1:=fun x hx=>by
   have:x.1∈K4 H:=hHE▸List.mem_map_of_mem hx
   exact List.mem_map.1 this
  refine K0.rangeC (α:=Pt×Pt) (gf:=236) (lb:= #[Ku gE]) (ps:= #[75,76]) (encs:=fun e=> #[Ls e.1,Ls e.2]) (xs:=Kj (K4 HE)) (Pre:=Dm gE yE n HE) ESt (fun s k u=>EJ w a b ga gb gl gh gp go ge gE g2 n rl rh (K4 H) yE HE s k u) (EL go ge) (fun s s' u=>EG w a b go ge g2 (K4 H) s s' u) (0,(y,rs),(none,0)) Zk (fun w1 hw h=>F1 hn hHEl (fun x hx=>by obtain⟨z,hz,e⟩:=hHEm x hx;rw[←e];exact hlen z hz) (fun x hx=>by obtain⟨z,hz,e⟩:=hHEm x hx;rw[←e];exact hpt z hz)) (enters_of Tryz.func236 Zk rfl) (fun x=>rfl) (fun s k u h=>h.o.at) (fun s k=>EJ.own hM hgo hge) (fun s k s'=>EJ.left hM hgo hge) (fun s k=>EJ.cel) (fun u h=>⟨rfl,by show rs.map (·.2)=_;rw[hvs2];unfold Q8;simp[Sf],fun r hr=>⟨fun hc=>hgr (List.mem_flatMap.2 ⟨r,hr,hc⟩),by intro b hb;cases hb⟩,h.1.1,⟨h.1.2.1,K6.nil_,by intro b hb;cases hb⟩,h.2.1⟩) (fun l s k' x w0 fn tmps D hw0 hl hlt hlL hrec hx hRF R hR=> ?_) (fun s D hD=> ?_)
  rotate_left
  ·obtain⟨cnt,⟨⟨ya,yc⟩,rz⟩,ye⟩:=s
   have hxl:(Kj (K4 HE)).length=(Kj (K4 H)).length:=by rw[hHE]
   rw[hxl]
   refine K0.pure_ (p:=rz.map (·.2)=Ec (K4 H) a b∧∃gr,ya=some ⟨gr,0,none⟩) (fun u hu h=>by
    have h1:rz.map (·.2)=Oe a b (Q8 (K4 H) a b (Kj (K4 H)).length):=h.1.v
    unfold Q8 at h1
    rw[List.take_length]at h1
    have h2:rz.length=(rz.map (·.2)).length:=(List.length_map _).symm
    obtain⟨gr,h3,_⟩:=h.1.e.o.own.cells (by show 0<rz.length;rw[h2,h1];unfold Oe;simp)
    exact⟨h1,gr,h3⟩) Zk (fun hz=> ?_)
   obtain⟨hrz,gr,rfl⟩:=hz
   have hz2:2≤rz.length∧rz.length≤100000000:=by
    have h1:rz.length=(Ec (K4 H) a b).length:=by rw[←hrz,List.length_map]
    have h2:rz.map (·.2)=Oe a b (Q8 (K4 H) a b (Kj (K4 H)).length):=by rw[hrz];unfold Q8;rw[List.take_length];rfl
    have h3:=Xi h2
    have h4:=Qv (K4 H)
    have h5:=Au (a:=a) (b:=b) (k:=(Kj (K4 H)).length) hlen2 Zo
    refine⟨?_,by omega⟩
    rw[h1];unfold Ec;simp
   refine ZR ?_
   refine ZA (Kd 97 ⟨go,0,none⟩) (.slice (some ⟨gr,0,none⟩) rz.length yc) (fun w1 hw h=>h.1.e.o.box.load1 Zk) ?_
   refine K0.mut (L:=[gr]) (val:=fun q:{q:List RQ×List RQ // q.1 ⊆ rz∧q.1.map (·.2)=Xx (rz.map (·.2))}=> .slice (some ⟨gr,0,none⟩) q.1.1.length yc) (G:=fun q u=>K6 u w.heap.size 26 4 (some ⟨gr,0,none⟩) rz.length yc ((q.1.1++q.1.2).flatMap Nx)) (Φ':=fun q u=>Fin w.heap.size gr rz.length yc q.1.1 q.1.2 u∧u.heap[D]? =some (.deferred (some []))) (fun w1 hw h=>rising_m hw (Nat.le_trans hM.1 (h.1.e.m gr (by simp[bl]))) hz2.1 hz2.2 h.1.e.o.own h.1.e.o.num (fun z hz hc=>(h.1.e.o.apart z hz).1 gr (by simp[bl]) hc) Zd) (fun u h b hb=>by have hb:=List.mem_singleton.1 hb;subst hb;exact⟨Nat.le_trans hM.1 (h.1.e.m _ (by simp[bl])),(h.1.e.o.own.blk _ (by simp[bl])).2⟩) (fun q wa u e1 e2 h hG=>⟨⟨hG,fun r hr=>(h.1.e.o.num r (q.2.1 hr)).leftL e1 e2 (fun b hb hc=>(h.1.e.o.apart r (q.2.1 hr)).1 gr (by simp[bl]) (List.mem_singleton.1 hc▸hb))⟩,(e2 D (fun hc=>by obtain⟨_,_,_,hh⟩:=(h.1.e.o.own.blk gr (by simp[bl])).2;rw[←List.mem_singleton.1 hc,h.2]at hh;cases hh)).symm.trans h.2⟩) Zk Zk (fun q=> ?_)
   refine ZR ?_
   refine K0.retM (v:= .slice (some ⟨gr,0,none⟩) q.1.1.length yc) Fin.cel hD Zk (fun w1 hw h=>⟨((some ⟨gr,0,none⟩,yc),⟨q.1.1,by rw[q.2.2,hrz];rfl⟩),rfl,hw,fun u k1 k2=> ?_⟩)
   have hF:=h u ⟨k1,fun b h1 h2=>k2 b h1 h2⟩
   exact⟨rowA_of hF.o Zo,hF.q⟩
  have hJ0:=hRF _ w0 ⟨Nat.le_refl _,fun _ _ _ _=>rfl,hrec⟩
  obtain rfl:s.1=k':=hJ0.kk
  have hx2:(Kj (K4 H))[s.1]? =some x:=by rw[←hHE];exact hx
  have hM0:g2≤w0.heap.size:=by have:=hJ0.e.o.box.lt;omega
  refine ZR ?_
  refine K0.begin Zk hl ?_
  refine K0.weak (Φ':=fun u=>Rd w w0 l _ a b ga gb gl gh gp go ge g2 rl rh (K4 H) s s.2.1.1 s.2.1.2 u) Zk (fun u h=>⟨⟨h.1,fun b k1 k2 k3 _=>h.2.1 b k1 k2 k3,h.2.2⟩,(hRF _ u h).e,(hRF _ u h).g,⟨[],by simp,by simp⟩,fun b hb=> .inl hb,(hRF _ u h).ap⟩) ?_
  refine ZR ?_
  refine ZA (Kd 3 ⟨ga,0,none⟩) (.int .i64 a.1) (fun w1 hw h=>h.e.c.pa.loadJ Zk rfl) ?_
  refine ZA (Kd 3 ⟨gb,0,none⟩) (.int .i64 b.1) (fun w1 hw h=>h.e.c.pb.loadJ Zk rfl) ?_
  refine K0.make (M5 (43) 2 #[(0,.int .i64 a.1),(1,.int .i64 b.1)]) (Km 2) (Kv 3 #[.int .i64 a.1,.int .i64 b.1]) Zk (fun w1 hw h=>Ke Zk) (fun gx=> ?_)
  refine ZR ?_
  have hxv:=F3 hf.2 (List.mem_of_getElem? hx2)
  have hkl:s.1<4096:=by
   have h1:=(List.getElem?_eq_some_iff.1 hx2).1
   have h2:=Qv (K4 H)
   omega
  refine K0.loop (ι:={q:Nat×(Option Addr×Nat)×List RQ // q.1≤2∧q.2.2.map (·.2)=Oe a b (Q8 (K4 H) a b s.1++([a.1,b.1].take q.1).flatMap fun v=>(yAt x.1 x.2 v).toList)}) 130 (fun q=>⟨[(0,.v (.slice A n c)),(4,.v (Ku ga)),(5,.v (Ku gb)),(7,.v (Ku gl)),(8,.v (Ku gh)),(9,.v (Ku go)),(10,.v (Ku gp)),(15,.v (Ku ge)),(16,.p 16 0),(17,.p 17 0),(81,.v (Km 2 gx)),(82,.v (.int .i64 2)),(83,.v (.int .i64 q.1.1))],[(16,(Kf x.1).map .v),(17,(Kf x.2).map .v)]⟩) (fun q u=>Rd w w0 l _ a b ga gb gl gh gp go ge g2 rl rh (K4 H) s q.1.2.1 q.1.2.2 u∧Kv 3 #[.int .i64 a.1,.int .i64 b.1] gx u) (fun q=>2-q.1.1) (⟨(0,s.2.1.1,s.2.1.2),Nat.zero_le 2,by show s.2.1.2.map (·.2)=_;rw[hJ0.v];simp⟩) Zk (fun _=>by kernel_rfl) ⟨Zk,Zk,Zk⟩ (fun u h=>h) ?_
  rintro⟨⟨i,y,rs⟩,hi,hvi⟩ gg3
  have hi2:i≤2:=hi
  have hvi2:rs.map (·.2)=Oe a b (Q8 (K4 H) a b s.1++([a.1,b.1].take i).flatMap fun v=>(yAt x.1 x.2 v).toList):=hvi
  by_cases hli:i<2
  case neg=>
   refine ZR ?_
   refine ZJ (decide ((i:Int)<2)) false (decide_eq_false Zo) ?_
   refine K0.leave Zk ?_
   refine ZR ?_
   have hvi3:rs.map (·.2)=Oe a b (Q8 (K4 H) a b s.1++((yAt x.1 x.2 a.1).toList++(yAt x.1 x.2 b.1).toList)):=by rw[hvi2,show i=2 by omega];simp
   refine ZA (Kd 262 ⟨ge,0,none⟩) (.slice s.2.2.1 s.1 s.2.2.2) (fun w1 hw h=>h.1.g.g.load1 Zk) ?_
   refine K0.weak (Φ':=fun u=>Rd w w0 l _ a b ga gb gl gh gp go ge g2 rl rh (K4 H) s y rs u) Zk (fun u h=>h.1) ?_
   refine K0.loop (ι:={q:Nat×(Option Addr×Nat)×List RQ // q.1≤s.1∧q.2.2.map (·.2)=Oe a b (Q8 (K4 H) a b s.1++((yAt x.1 x.2 a.1).toList++(yAt x.1 x.2 b.1).toList)++(((Kj (K4 H)).take s.1).take q.1).filterMap fun o=>Pa o.1 o.2 x.1 x.2)}) 130 (fun q=>⟨[(0,.v (.slice A n c)),(4,.v (Ku ga)),(5,.v (Ku gb)),(7,.v (Ku gl)),(8,.v (Ku gh)),(9,.v (Ku go)),(10,.v (Ku gp)),(15,.v (Ku ge)),(16,.p 16 0),(17,.p 17 0),(99,.v (.slice s.2.2.1 s.1 s.2.2.2)),(100,.v (.int .i64 s.1)),(101,.v (.int .i64 q.1.1))],[(16,(Kf x.1).map .v),(17,(Kf x.2).map .v)]⟩) (fun q u=>Rd w w0 l _ a b ga gb gl gh gp go ge g2 rl rh (K4 H) s q.1.2.1 q.1.2.2 u) (fun q=>s.1-q.1.1) (⟨(0,y,rs),Nat.zero_le _,by show rs.map (·.2)=_;rw[hvi3];simp⟩) Zk (fun _=>by kernel_rfl) ⟨Zk,Zk,Zk⟩ (fun u h=>h) ?_
   rintro⟨⟨i,y,rs⟩,hi,hvi⟩ gg4
   have hi2:i≤s.1:=hi
   have hvi2:rs.map (·.2)=Oe a b (Q8 (K4 H) a b s.1++((yAt x.1 x.2 a.1).toList++(yAt x.1 x.2 b.1).toList)++(((Kj (K4 H)).take s.1).take i).filterMap fun o=>Pa o.1 o.2 x.1 x.2):=hvi
   by_cases hli:i<s.1
   case neg=>
    refine ZR ?_
    refine ZJ (decide ((i:Int)<(s.1:Int))) false (decide_eq_false Zo) ?_
    refine K0.leave Zk ?_
    refine ZR ?_
    refine ZA (Kd 262 ⟨ge,0,none⟩) (.slice s.2.2.1 s.1 s.2.2.2) (fun w1 hw h=>h.g.g.load1 Zk) ?_
    refine K0.make (M5 262 1 #[(0,.agg (edC x).toArray)]) (Km 1) (Kv 268 (edC x).toArray) Zk (fun w1 hw h=>Ke Zk) (fun gq=> ?_)
    refine ZS 5 ?_
    refine K0.mutOp (L:=bl s.2.2.1) (val:=fun z:Option Addr×Nat=> .slice z.1 (s.1+1) z.2) (Φ':=fun z u=>Re w w0 l _ a b ga gb gl gh gp go ge g2 rl rh (K4 H) s x y rs z u) (G:=fun z u=>K6 u w.heap.size 268 4 z.1 (s.1+1) z.2 (((Kj (K4 H)).take s.1++ [x]).flatMap edC)∧ReP w0 s rs z) (Nc 262 262 (.slice s.2.2.1 s.1 s.2.2.2) (Km 1 gq)) (fun w1 hw h=>h.1.app hw.size h.2 hkl) (fun u h b hb=>⟨(h.1.g.r.blk b hb).1,(h.1.g.r.blk b hb).2⟩) (fun z wa u e1 e2 h hG=>h.1.re hM e1 e2 hG) Zk Zk (fun z=> ?_)
    refine ZR ?_
    refine K0.mutSt (L:=[ge]) (G:=fun u=>Kb u ge 262 [.slice z.1 (s.1+1) z.2]) (Φ':=fun u=>Rz w w0 l _ a b ga gb gl gh gp go ge g2 rl rh (K4 H) s x y rs z u) (Rm 262 ⟨ge,0,none⟩ (.slice z.1 (s.1+1) z.2)) (fun w1 hw h=>h.g.store Zk rfl (fun v hv=>by have hv:=List.mem_singleton.1 hv;subst hv;rfl)) (fun u h b hb=>by have hb:=List.mem_singleton.1 hb;subst hb;exact⟨Nat.le_trans hM.1 hge,h.g.own⟩) (fun wa u e1 e2 h hG=>h.rz hM hge e1 e2 hG) Zk Zk ?_
    have hvK:rs.map (·.2)=Oe a b (Q8 (K4 H) a b (s.1+1)):=by
     rw[hvi2,valsK_succ hx2,List.take_of_length_le (by rw[List.length_take];omega)]
     unfold J3
     simp
    refine ZR ?_
    refine K0.rend ((s.1+1,(y,rs),z):ESt) Zk hl hlt hlL hrec hw0 (fun w1 hw1 h=> ?_)
    have h0:=h w1 ⟨Nat.le_refl _,fun _ _ _=>rfl⟩
    exact⟨h0.f.2.2,h0.f.1,h0.f.2.1,fun u k1 k2=>h0.eg hM0 hJ0.g.m hx2 hvK k1 k2⟩
   obtain⟨o,ho⟩:∃o,((Kj (K4 H)).take s.1)[i]? =some o:=by
    have h1:=(List.getElem?_eq_some_iff.1 hx2).1
    exact⟨_,List.getElem?_eq_getElem (by rw[List.length_take];omega)⟩
   have hov:=F3 hf.2 (List.mem_of_mem_take (List.mem_of_getElem? ho))
   have htk:((((Kj (K4 H)).take s.1).take (i+1)).filterMap fun o=>Pa o.1 o.2 x.1 x.2)=((((Kj (K4 H)).take s.1).take i).filterMap fun o=>Pa o.1 o.2 x.1 x.2)++(Pa o.1 o.2 x.1 x.2).toList:=by
    rw[Lb ho,List.filterMap_append]
    cases hs:Pa o.1 o.2 x.1 x.2<;>simp[hs]
   refine K0.pure_ (p:=∃gy,s.2.2.1=some ⟨gy,0,none⟩) (fun u hu h=>by obtain⟨gy,h1,_⟩:=h.g.r.cells Zo;exact⟨gy,h1⟩) Zk (fun hgy=> ?_)
   obtain⟨gy,hgy⟩:=hgy
   refine ZR ?_
   refine ZJ (decide ((i:Int)<(s.1:Int))) true (decide_eq_true Zo) ?_
   refine ZA (Kc 262 (.slice s.2.2.1 s.1 s.2.2.2) i) (.pointer (some ⟨gy,i*4,none⟩)) (fun w1 hw h=>by rw[hgy];exact K9 (elem:=268) Zk Zk hli) ?_
   refine ZA (Kd 268 ⟨gy,i*4,none⟩) (.agg (edC o).toArray) (fun w1 hw h=>Ka (vs:=edC o) Zk Zk (fun j v hj=>by obtain⟨gy2,h1,h2⟩:=h.g.r.cells Zo;rw[hgy]at h1;injection h1 with h1;injection h1 with h1;subst h1;exact h2 _ _ (Pm (cl:=edC) (fun _=>rfl) _ i o j v ho hj))) ?_
   cases hsg:Pa o.1 o.2 x.1 x.2 with
   |none=>
    refine ZC (fun w1 hw h=>segs_m hov.1 hov.2.1 hxv.1 hxv.2.1 hov.2.2) fun z=> ?_
    have hz:(z.2.1==1)=false:=by have h1:decide (z.2.1=1)=(Pa o.1 o.2 x.1 x.2).isSome:=z.2.2;generalize z.2.1=kk at h1 ⊢;rw[hsg]at h1;simpa using h1
    refine ZJ (z.2.1==1) false (hz) ?_
    refine K0.slot 101 (.int .i64 (IntKind.i64.wrap ((i:Int)+1))) (.int .i64 ((i+1:Nat):Int)) Zk (by rw[K7 hli Zo]) ?_
    refine K0.next (⟨(i+1,y,rs),hli,by show rs.map (·.2)=_;rw[hvi2,htk,hsg];simp⟩) Zk (by show s.1- (i+1)<s.1-i;omega) ⟨Zk,Zk,Zk⟩ (fun _ h=>h.1)
   | some q=>
    have hrsn:rs.length≤99999999:=by
     have h1:=Xi hvi2
     have h2:=Au (a:=a) (b:=b) hlen2 (Nat.le_of_lt hkl)
     have h3:=List.length_filterMap_le (fun o:Pt×Pt=>Pa o.1 o.2 x.1 x.2) (((Kj (K4 H)).take s.1).take i)
     rw[List.length_take]at h3
     have h4:∀o:Option Rat,o.toList.length≤1:=fun o=>by cases o<;>simp
     have h5:=h4 (yAt x.1 x.2 a.1)
     have h6:=h4 (yAt x.1 x.2 b.1)
     rw[List.length_append,List.length_append,List.length_append]at h1
     omega
    refine ZC (fun w1 hw h=>(segs_m hov.1 hov.2.1 hxv.1 hxv.2.1 hov.2.2).mono fun e w' k=>K3.apt (R:=fun z=>Apr w0 go ge s y z.1.2) (k.cast (G':=fun z u=>Kh z.1.2 q 7 u) (fun z u k=>k q hsg)) (fun z=>Ln z.1.2) (fun z u k=>k.blk) (fun z hr=>h.apr hr)) fun z=> ?_
    have hz:(z.2.1==1)=true:=by have h1:decide (z.2.1=1)=(Pa o.1 o.2 x.1 x.2).isSome:=z.2.2;generalize z.2.1=kk at h1 ⊢;rw[hsg]at h1;simpa using h1
    refine ZJ (z.2.1==1) true (hz) ?_
    refine ZA (Kd 261 ⟨gp,0,none⟩) (putF gl gh go) (fun w1 hw h=>h.1.e.p.load1 Zk) ?_
    refine K0.mut (L:=go::bl y.1) (val:=fun _:Option Addr×Nat=> .tuple #[]) (G:=fun z' u=>Yr w.heap.size go z' (Qf (a.2:Rat) (b.2:Rat) rs z.1.2 q) u∧∀b∈bl z'.1,b∈bl y.1∨w0.heap.size≤b) (Φ':=fun z' u=>Rd w w0 l _ a b ga gb gl gh gp go ge g2 rl rh (K4 H) s z' (Qf (a.2:Rat) (b.2:Rat) rs z.1.2 q) u) (fun w1 hw h=>h.1.put hM hgo hw h.2.1 h.2.2 hrsn) (fun u h=>h.1.e.own hM hgo) (fun z' wa u e1 e2 h hG=>h.1.next hM hgo hM0 e1 e2 h.2.1 h.2.2 hG) Zk Zk (fun z'=> ?_)
    refine ZR ?_
    refine K0.slot 101 (.int .i64 (IntKind.i64.wrap ((i:Int)+1))) (.int .i64 ((i+1:Nat):Int)) Zk (by rw[K7 hli Zo]) ?_
    refine K0.next (⟨(i+1,z',Qf (a.2:Rat) (b.2:Rat) rs z.1.2 q),hli,by show(Qf (a.2:Rat) (b.2:Rat) rs z.1.2 q).map (·.2)=_;rw[B8 hvi2,htk,hsg];simp⟩) Zk (by show s.1- (i+1)<s.1-i;omega) ⟨Zk,Zk,Zk⟩ (fun _ h=>h)
  obtain⟨v,hv⟩:∃v,v=(if i=0 then a.1 else b.1):=⟨_,rfl⟩
  have hvx: [a.1,b.1][i]? =some v:=by rcases(by omega:i=0∨i=1)with rfl|rfl<;>simp[hv]
  have hvb2: -2097152≤v∧v≤2097152:=by rw[hv];split<;>omega
  have htk:([a.1,b.1].take (i+1)).flatMap (fun v=>(yAt x.1 x.2 v).toList)=(([a.1,b.1].take i).flatMap fun v=>(yAt x.1 x.2 v).toList)++(yAt x.1 x.2 v).toList:=by rw[Lb hvx,List.flatMap_append];simp
  refine ZR ?_
  refine ZJ (decide ((i:Int)<2)) true (decide_eq_true Zo) ?_
  refine ZA (Kc 43 (Km 2 gx) i) (.pointer (some ⟨gx,i*1,none⟩)) (fun w1 hw h=>K9 (elem:=3) Zk Zk hli) ?_
  refine ZA (Kd 3 ⟨gx,i*1,none⟩) (.int .i64 v) (fun w1 hw h=>Kg Zk (by have h2:Kv 3 _ gx _:=h.2;unfold Kv at h2;simp only[World.cell?,h2,Option.isSome_none,Bool.false_eq_true,if_false,Nat.mul_one];rcases(by omega:i=0∨i=1)with rfl|rfl<;>simp[hv])) ?_
  cases hy:yAt x.1 x.2 v with
  |none=>
   refine ZC (fun w1 hw h=>yAt_m hxv.1 hxv.2.1 hvb2) fun r=> ?_
   refine ZJ ((yAt x.1 x.2 v).isSome) false (by rw[hy];rfl) ?_
   refine K0.slot 83 (.int .i64 (IntKind.i64.wrap ((i:Int)+1))) (.int .i64 ((i+1:Nat):Int)) Zk (by rw[K7 hli Zd]) ?_
   refine K0.next (⟨(i+1,y,rs),hli,by show rs.map (·.2)=_;rw[hvi2,htk,hy];simp⟩) Zk (by show 2- (i+1)<2-i;omega) ⟨Zk,Zk,Zk⟩ (fun _ h=>h.1)
  | some q=>
   refine ZC (fun w1 hw h=>(yAt_m hxv.1 hxv.2.1 hvb2).mono fun e w' k=>K3.apt (R:=fun r=>Apr w0 go ge s y r) (k.cast (G':=fun r u=>Kh r q 7 u) (fun r u k=>k q hy)) (fun r=>Ln r) (fun r u k=>k.blk) (fun r hr=>h.1.apr hr)) fun r=> ?_
   refine ZJ ((yAt x.1 x.2 v).isSome) true (by rw[hy];rfl) ?_
   have hrsn:rs.length≤99999999:=by
    have h1:=Xi hvi2
    have h2:=Au (a:=a) (b:=b) hlen2 (Nat.le_of_lt hkl)
    have h3:(([a.1,b.1].take i).flatMap fun v=>(yAt x.1 x.2 v).toList).length≤2:=by
     rcases(by omega:i=0∨i=1)with rfl|rfl
     ·simp
     ·simp;cases yAt x.1 x.2 a.1<;>simp
    rw[List.length_append]at h1
    omega
   refine ZA (Kd 261 ⟨gp,0,none⟩) (putF gl gh go) (fun w1 hw h=>h.1.1.e.p.load1 Zk) ?_
   refine K0.mut (L:=go::bl y.1) (val:=fun _:Option Addr×Nat=> .tuple #[]) (G:=fun z u=>Yr w.heap.size go z (Qf (a.2:Rat) (b.2:Rat) rs r q) u∧∀b∈bl z.1,b∈bl y.1∨w0.heap.size≤b) (Φ':=fun z u=>Rd w w0 l _ a b ga gb gl gh gp go ge g2 rl rh (K4 H) s z (Qf (a.2:Rat) (b.2:Rat) rs r q) u∧Kv 3 #[.int .i64 a.1,.int .i64 b.1] gx u) (fun w1 hw h=>h.1.1.put hM hgo hw h.2.1 h.2.2 hrsn) (fun u h=>h.1.1.e.own hM hgo) (fun z wa u e1 e2 h hG=>⟨h.1.1.next hM hgo hM0 e1 e2 h.2.1 h.2.2 hG,lit_left e2 h.1.2 (h.1.1.lit Zd Zd h.1.2)⟩) Zk Zk (fun z=> ?_)
   refine ZR ?_
   refine K0.slot 83 (.int .i64 (IntKind.i64.wrap ((i:Int)+1))) (.int .i64 ((i+1:Nat):Int)) Zk (by rw[K7 hli Zd]) ?_
   refine K0.next (⟨(i+1,z,Qf (a.2:Rat) (b.2:Rat) rs r q),hli,by show(Qf (a.2:Rat) (b.2:Rat) rs r q).map (·.2)=_;rw[B8 hvi2,htk,hy];simp⟩) Zk (by show 2- (i+1)<2-i;omega) ⟨Zk,Zk,Zk⟩ (fun _ h=>h)
 obtain⟨x,hx⟩:∃v,H[k]? =some v:=⟨_,List.getElem?_eq_getElem (by rw[hp.row.1];exact hlt)⟩
 obtain⟨ad,hA,hc⟩:=hp.row.2 k x hx
 have hmx:=List.mem_of_getElem? hx
 have hlx:=hlen x hmx
 refine ZR ?_
 refine ZJ (decide ((k:Int)<(n:Int))) true (decide_eq_true Zo) ?_
 refine ZA (Kc 57 (.slice A n c) k) (.pointer (some (ad.add (k*1)))) (fun w1 hw h=>T9 hA hlt) ?_
 refine ZA (Kd 108 (ad.add (k*1))) (Cs x) (fun w1 hw h=>X8 fun j v hj=>Kt hw (hc j v hj)) ?_
 have hvs2:rs.map (·.2)=Oe a b ((K4 (H.take k)).flatten.map fun p=>(p.2:Rat)):=hvs
 refine K0.loop (ι:={q:Nat×(Option Addr×Nat)×List RQ // q.1≤x.1.length∧q.2.2.map (·.2)=Oe a b (((K4 (H.take k)).flatten++x.1.take q.1).map fun p=>(p.2:Rat))}) 130 (fun q=>⟨[(0,.v (.slice A n c)),(1,.v (Ls a)),(2,.v (Ls b)),(4,.v (Ku ga)),(5,.v (Ku gb)),(6,.v (.slice none 0 0)),(7,.v (Ku gl)),(8,.v (Ku gh)),(9,.v (Ku go)),(10,.v (Ku gp)),(54,.v (.slice A n c)),(55,.v (.int .i64 n)),(56,.v (.int .i64 k)),(60,.v (Cs x)),(61,.v (.int .i64 x.1.length)),(62,.v (.int .i64 q.1.1))],[]⟩) (fun q u=>Ev a b ga gb gl gh gp go rl rh g2 w.heap.size q.1.2.1 q.1.2.2 u) (fun q=>x.1.length-q.1.1) (⟨(0,y,rs),Nat.zero_le _,by show rs.map (·.2)=Oe a b (((K4 (H.take k)).flatten++x.1.take 0).map fun p=>(p.2:Rat));rw[List.take_zero,List.append_nil];exact hvs2⟩) Zk (fun _=>by kernel_rfl) ⟨Zk,Zk,Zk⟩ (fun u h=>h) ?_
 rintro⟨⟨j,y,rs⟩,hj,hvj⟩ gg2
 have hj2:j≤x.1.length:=hj
 have hvj2:rs.map (·.2)=Oe a b (((K4 (H.take k)).flatten++x.1.take j).map fun p=>(p.2:Rat)):=hvj
 by_cases hlj:j<x.1.length
 case neg=>
  refine ZR ?_
  refine ZJ (decide ((j:Int)<(x.1.length:Int))) false (decide_eq_false Zo) ?_
  refine K0.leave Zk ?_
  refine ZR ?_
  have hxe:x.1.take j=x.1:=List.take_of_length_le Zo
  refine K0.slot 56 (.int .i64 (IntKind.i64.wrap ((k:Int)+1))) (.int .i64 ((k+1:Nat):Int)) Zk (by rw[K7 hlt Zo]) ?_
  refine K0.next (⟨(k+1,y,rs),hlt,by show rs.map (·.2)=Oe a b ((K4 (H.take (k+1))).flatten.map fun p=>(p.2:Rat));rw[hvj2,hxe,Lb hx];simp[K4]⟩) Zk (by show n- (k+1)<n-k;omega) ⟨Zk,Zk,Zk⟩ (fun _ h=>h)
 obtain⟨p,hpj⟩:∃v,x.1[j]? =some v:=⟨_,List.getElem?_eq_getElem hlj⟩
 have hpv:=Ni (hpt x hmx p (List.mem_of_getElem? hpj))
 obtain⟨ad2,hA2,hc2⟩:=(hp.ring x hmx).2 j p hpj
 have hsl:((K4 (H.take k)).flatten++x.1.take j).length≤4096:=by
  have h1:((K4 (H.take k)).flatten++x.1).length≤(K4 H).flatten.length:=by
   have h2:K4 H=K4 (H.take k)++x.1::K4 (H.drop (k+1)):=by
    conv=>lhs;rw[←List.take_append_drop k H,Nn hx]
    simp[K4]
   rw[h2];simp
  rw[List.length_append]at h1 ⊢
  rw[List.length_take];omega
 have hrl:=Xi hvj2
 rw[List.length_map]at hrl
 have hrsn:rs.length≤99999999:=by omega
 refine ZR ?_
 refine ZJ (decide ((j:Int)<(x.1.length:Int))) true (decide_eq_true Zo) ?_
 refine ZA (Kc 108 (Cs x) j) (.pointer (some (ad2.add (j*2)))) (fun w1 hw h=>Pe hA2 hlj) ?_
 refine ZA (Kd 35 (ad2.add (j*2))) (Ls p) (fun w1 hw h=>R1 fun i v hi=>Kt hw (hc2 i v hi)) ?_
 refine ZB 0 (Kd 261 ⟨gp,0,none⟩) (putF gl gh go) (fun w1 hw h=>h.p.load1 Zk) ?_
 refine ZC (fun w1 hw h=>((Ki p.2 w1 Zo Zo).mono fun e w' k=>K3.apt (R:=fun r=>Apq go y r) k (fun r=>Ln r) (fun r u k=>k.blk) (fun r hr=>h.apq hr))) fun r=> ?_
 refine K0.mutCallAny (L:=go::bl y.1) (val:=fun _:Option Addr×Nat=> .tuple #[]) (G:=fun z u=>Yr w.heap.size go z (Qf (a.2:Rat) (b.2:Rat) rs r (p.2:Rat)) u∧∀b∈bl z.1,b∈bl y.1∨g2≤b) (Φ':=fun z u=>Ev a b ga gb gl gh gp go rl rh g2 w.heap.size z (Qf (a.2:Rat) (b.2:Rat) rs r (p.2:Rat)) u) (fun w1 hw h=>h.1.put hM hgo hw (h.2.1.mono Zd) h.2.2 hrsn (by have:=h.1.o.box.lt;omega)) (fun u h=>h.1.own hM hgo) (fun z wa u e1 e2 h hG=>h.1.next hM hgo e1 e2 (h.2.1.mono Zd) h.2.2 (Nat.le_refl _) hG) Zk Zk (fun z=> ?_)
 refine ZR ?_
 refine K0.slot 62 (.int .i64 (IntKind.i64.wrap ((j:Int)+1))) (.int .i64 ((j+1:Nat):Int)) Zk (by rw[K7 hlj Zo]) ?_
 refine K0.next (⟨(j+1,z,Qf (a.2:Rat) (b.2:Rat) rs r (p.2:Rat)),hlj,by show(Qf (a.2:Rat) (b.2:Rat) rs r (p.2:Rat)).map (·.2)=_;rw[B8 hvj2,Lb hpj];simp⟩) Zk (by show x.1.length- (j+1)<x.1.length-j;omega) ⟨Zk,Zk,Zk⟩ (fun _ h=>h)
end
end Go.Proofs.YtpgkbllcnphmbaaGreatDoor
