/-
 A part of the proof.
-/
import Derived.Test.YtpgkbllcnphmbaaGreatDoorBBc
import Derived.Lone
import Derived.StepT
import Derived.Shelf.SlSortCmp.WholeK
namespace Go.Proofs.YtpgkbllcnphmbaaGreatDoor
set_option maxRecDepth 100000
set_option maxHeartbeats 8000000
set_option linter.unusedVariables false
set_option linter.unusedSimpArgs false
open Go.RowKit
def Kb(u:World)(g:Nat)(t:TypeId)(cs:List Value):Prop:=u.heap[g]? =some (.cells cs.toArray t (0,0))
section
variable{P:Program}{w u wa:World}{g g2 N B m cc s:Nat}{t t2 e:TypeId}{cs cs2 xs:List Value}{v z:Value}{L:List Nat}{Y:Option Addr}
theorem Kb.lt(h:Kb u g t cs):g<u.heap.size:=(Array.getElem?_eq_some_iff.1 h).1
theorem Kb.own(h:Kb u g t cs):∃cs ty own,u.heap[g]? =some (.cells cs ty own):=⟨_,_,_,h⟩
theorem Kb.to(h:Kb w g t cs)(e:u.heap[g]? =w.heap[g]?):Kb u g t cs:=e.trans h
theorem Kb.below(h:Kb w g t cs)(hb:Below w.heap.size w u):Kb u g t cs:=h.to (hb.block g h.lt)
theorem Kb.left(h:Kb wa g t cs)(e2:∀b,b∉L→wa.heap[b]? =u.heap[b]?)(hg:g∉L):Kb u g t cs:=h.to (e2 g hg).symm
theorem Kb.cel:C4 fun u=>Kb u g t cs:=fun wa u _ h2 h=>(h2 _ _ _ _ h).trans h
theorem Kb.range(h:Kb w g t cs):w.rangeAt g 0 cs:=K8.range ⟨t,h⟩
theorem Kb.ne(h:Kb u g t cs)(ho:K6 u B e s Y m cc xs)(hne:e≠t):∀b∈bl Y,b≠g:=fun b hb k=>by
 obtain⟨c1,o1,h3⟩:=ho.ty b hb
 rw[k,show u.heap[g]? =_ from h]at h3
 simp only[Option.some.injEq,Obj.cells.injEq]at h3
 exact hne h3.2.1.symm
theorem Kb.ne2(h:Kb u g t cs)(h2:Kb u g2 t2 cs2)(hne:t≠t2):g≠g2:=fun k=>by
 subst k
 have h3:=Eq.trans (show u.heap[g]? =_ from h).symm h2
 simp only[Option.some.injEq,Obj.cells.injEq]at h3
 exact hne h3.2.1
theorem Kb.load1(h:Kb u g t [v])(ht:Ob P t=some false):(Kd t ⟨g,0,none⟩).run P u= .ok (.value v) u:=
 Kg ht (by have:=h.range 0 v rfl;simpa using this)
theorem Kb.loadN(h:Kb u g t cs)(ht:Ob P t=some true)(hn:N8 P t=some cs.length):(Kd t ⟨g,0,none⟩).run P u= .ok (.value (.agg cs.toArray)) u:=Ka ht hn h.range
theorem Kb.store(h:Kb w g t cs)(hn:N8 P t=some cs.length)(hl:v.cells.size=cs.length)(h1:∀u∈v.cells.toList,u.oneCell'=true):
 ∃w',(Rm t ⟨g,0,none⟩ v).run P w= .ok .skip w'∧Ga [g] w w'∧∀w'',w'.heap.size≤w''.heap.size→(∀b∈[g],w''.heap[b]? =w'.heap[b]?)→Kb w'' g t v.cells.toList:=by
 have hst:=run_storeCells_at P g 0 t v.cells.toList 0 cs.toArray w h Zp h1
 have hnew:((cs.toArray.toList.take (0+0)++v.cells.toList++cs.toArray.toList.drop (0+0+v.cells.toList.length)).toArray)=v.cells:=by
  simp[hl]
 rw[hnew]at hst
 refine⟨w.setRow g v.cells,?_,⟨rfl,rfl,rfl,by rw[O5];exact Nat.le_refl _,fun k _ hk=>Nj _ _ _ _ (by simpa using hk)⟩,fun w'' k1 k2=> ?_⟩
 ·simp only[Rm,Instr.storeAt,Instr.sureAddr,storeVar,Sem.run_bind,Sem.run_pure,Result.andThen_ok,Lf hn]
  rw[if_neg (by simpa using hl)]
  simp only[hst,Sem.run_pure,Sem.run_bind,Result.andThen_ok]
 ·unfold Kb
  rw[k2 g Zs]
  simp only[World.setRow,Array.getElem?_modify,if_true,show w.heap[g]? =_ from h,Option.map_some,Array.toArray_toList]
theorem Q3(hN:N≤w.heap.size)(hL:∀b∈L,b<w.heap.size):Lp P w Ku (fun g u=>Kb u g t v.cells.toList∧N≤g∧g∉L) (Ad t v):=
 ⟨w.heap.size,w.alloc (.cells v.cells t),by simp only[Ad,Instr.box,Sem.run_bind,Qs,Result.andThen_ok,Sem.run_pure,Ku],Om _ _,fun w'' h1 h2=>⟨by unfold Kb;rw[(P6 w _ h1 h2).1,Array.toArray_toList],hN,fun hm=>by have:=hL _ hm;omega⟩⟩
theorem Q4(hz:Tv P t=some z)(hN:N≤w.heap.size)(hL:∀b∈L,b<w.heap.size):Lp P w Ku (fun g u=>Kb u g t z.cells.toList∧N≤g∧g∉L) (C1 t):=
 ⟨w.heap.size,w.alloc (.cells z.cells t),by simp only[C1,Instr.alloc,Sem.run_bind,Qr hz,Qs,Result.andThen_ok,Sem.run_pure,Ku],Om _ _,fun w'' h1 h2=>⟨by unfold Kb;rw[(P6 w _ h1 h2).1,Array.toArray_toList],hN,fun hm=>by have:=hL _ hm;omega⟩⟩
end
def Dm(g:Nat)(y:Option Addr×Nat)(n:Nat)(H:List LP)(u:World):Prop:=Kb u g 57 [.slice y.1 n y.2]∧Np u y.1 n H
def C3(N g:Nat)(y:Option Addr×Nat)(n:Nat)(H:List LP)(u:World):Prop:=Kb u g 57 [.slice y.1 n y.2]∧L4 N y n H u
theorem C3.at{N g n:Nat}{y:Option Addr×Nat}{H:List LP}{u:World}(h:C3 N g y n H u):Dm g y n H u:=⟨h.1,h.2.polyA⟩
section
variable{w:World}{A:Option Addr}{n c k:Nat}{H:List LP}{B:Bool}
theorem edges_m{N:Nat}(hN:N≤w.heap.size)(hp:Np w A n H)(hn:n≤1000000)(hv:vL 0 (K4 H)=true):Calls Tryz.prog 163 #[.slice A n c] w (K3 w (fun q:(Nat×Option Addr×Nat)×{l:List LP // K4 l=K4 H}=> .func (.func 236) #[] #[Ku q.1.1]) fun q u=>C3 N q.1.1 q.1.2 n q.2.1 u∧N≤q.1.1):=by
 refine K0.enter Tryz.func163 rfl ?_
 refine ZR ?_
 refine ZD 3 (fun w1 hw h=>ptrans_m (c:=c) hw.size (hp.below hw) hn hv) fun y=> ?_
 refine K0.make (C1 57) (Ku) (fun g u=>Kb u g 57 [.slice none 0 0]∧w.heap.size≤g∧g∉[]) Zk (fun w1 hw h=>Q4 (z:= .slice none 0 0) Zk hw.size Zs) (fun g=> ?_)
 refine ZS 4 ?_
 refine K0.pure_ (p:=w.heap.size≤g) (fun u hu h=>h.2.2.1) Zk (fun hgN=> ?_)
 refine K0.mutSt (L:=[g]) (G:=fun u=>Kb u g 57 [.slice y.1.1 n y.1.2]) (Φ':=fun u=>C3 w.heap.size g y.1 n y.2.1 u) (Rm 57 ⟨g,0,none⟩ (.slice y.1.1 n y.1.2)) (fun w1 hw h=>h.2.1.store Zk rfl (fun v hv=>by have hv:=List.mem_singleton.1 hv;subst hv;rfl)) (fun u h b hb=>by have hb:=List.mem_singleton.1 hb;subst hb;exact⟨h.2.2.1,h.2.1.own⟩) (fun wa u e1 e2 h hG=>⟨hG,(show L4 w.heap.size y.1 n y.2.1 u from⟨h.1.2.own.left e2 fun b hb=>by simpa using h.2.1.ne h.1.2.own Zd b hb,fun x hx=>(h.1.2.ring x hx).left e2 fun b hb=>by simpa using h.2.1.ne (h.1.2.ring x hx) Zd b hb⟩)⟩) Zk Zk ?_
 refine ZR ?_
 refine ZV (.func (.func 236) #[] #[Ku g]) (fun w1 hw h=>⟨((g,y.1),y.2),rfl,hw,fun w'' k1 k2=>⟨⟨(h w'' k1 k2).1,(h w'' k1 k2).2.mono hN⟩,Nat.le_trans hN hgN⟩⟩)
theorem run_remS{t:TypeId}{x y:Operand}{a b:Nat}{k:IntKind}(hb:0<b):(opS .rem t x y (.int k (a:Int)) (.int k (b:Int))).run Tryz.prog w= .ok (.value (.int k ((a%b:Nat):Int))) w:=by
 have h0:((b:Nat):Int)≠0:=by omega
 have h1:((a:Nat):Int).tmod (b:Int)=((a%b:Nat):Int):=rfl
 simp only[opS,eqGuard_rem,Sem.run_bind,Sem.run_pure,Result.andThen_ok,binOp,Op.intDiv,ne_eq,not_true_eq_false,if_false,h0,h1]
end
theorem Kq.at{α:Type}{w:World}{A:Option Addr}{n s k:Nat}{cl:α→List Value}{l:List α}{ad:Addr}{x:α}(h:Kq w A n s cl l)(hA:A=some ad)(hx:l[k]? =some x):∀(j:Nat) (v:Value),(cl x)[j]? =some v→w.cell? ((ad.add (k*s)).add j)=some v:=by
 obtain⟨ad',h1,h2⟩:=h.2 k x hx
 rw[h1]at hA;cases hA;exact h2
theorem Kq.some{α:Type}{w:World}{A:Option Addr}{n s k:Nat}{cl:α→List Value}{l:List α}{x:α}(h:Kq w A n s cl l)(hx:l[k]? = .some x):∃ad,A= .some ad:=by
 obtain⟨ad',h1,h2⟩:=h.2 k x hx
 exact⟨ad',h1⟩
def zipR(r:List Pt):List (Pt×Pt):=r.zip (r.drop 1++r.take 1)
theorem rot_len(r:List Pt):(r.drop 1++r.take 1).length=r.length:=by simp;omega
theorem zipR_len(r:List Pt):(zipR r).length=r.length:=by unfold zipR;rw[List.length_zip,rot_len];omega
theorem zipR_get{r:List Pt}{j:Nat}{a b:Pt}(ha:r[j]? =some a)(hb:r[(j+1)%r.length]? =some b):(zipR r)[j]? =some (a,b):=by
 have hj:=(List.getElem?_eq_some_iff.1 ha).1
 unfold zipR
 rw[List.getElem?_zip_eq_some]
 refine⟨ha,?_⟩
 by_cases h:j+1<r.length
 ·rw[Nat.mod_eq_of_lt h]at hb
  rw[List.getElem?_append_left Zp,List.getElem?_drop,Nat.add_comm];exact hb
 ·obtain rfl:j=r.length-1:=by omega
  rw[show r.length-1+1=r.length by omega,Nat.mod_self]at hb
  rw[List.getElem?_append_right Zs,List.length_drop,Nat.sub_self,List.getElem?_take,if_pos Zd];exact hb
theorem drop_next{α:Type}{xs l:List α}{k:Nat}{x:α}(h:xs.drop k=x::l):xs[k]? =some x∧xs.drop (k+1)=l∧k<xs.length:=by
 have h1:k<xs.length:=Nat.lt_of_not_le fun hc=>by rw[List.drop_of_length_le hc]at h;cases h
 rw[List.drop_eq_getElem_cons h1]at h
 injection h with h2 h3
 exact⟨by rw[List.getElem?_eq_getElem h1,h2],h3,h1⟩
def neE(e:Pt×Pt):Bool:=e.1 !=e.2
theorem F1{W:World}{g n:Nat}{y:Option Addr×Nat}{H:List LP}(hn:n≤1000000)(hln:H.length=n)(hl:∀x∈H,x.1.length≤4096)(hv:∀x∈H,∀p∈x.1,vP p=true):I3 Tryz.prog W 236 #[Ku g] (fun e:Pt×Pt=> #[Ls e.1,Ls e.2]) (Kj (K4 H)) (Dm g y n H):=by
 intro l ι J L G s0 w hW hPre hOwn hLeft hy h0
 obtain⟨xs,hxs⟩:∃xs,xs=Kj (K4 H):=⟨_,rfl⟩
 rw[←hxs]at hy ⊢
 refine K0.enterW Tryz.func236 rfl hW ?_
 refine K0.weak (Φ':=fun u=>J s0 0 u∧w.heap.size≤u.heap.size) Zk (fun u hu=>⟨h0 u hu,hu.1⟩) ?_
 refine ZR ?_
 refine ZA (Kd 57 ⟨g,0,none⟩) (.slice y.1 n y.2) (fun w1 hw h=>(hPre _ _ _ h.1).1.load1 Zk) ?_
 refine K0.loop (ι:={q:(ι×Nat)×Nat // q.2≤n∧xs.drop q.1.2=Kj (K4 (H.drop q.2))∧q.1.2≤xs.length}) 41 (fun q=>⟨[(0,.v (.func (.yield l) #[] #[])),(1,.v (Ku g)),(8,.v (.slice y.1 n y.2)),(9,.v (.int .i64 n)),(10,.v (.int .i64 q.1.2))],[]⟩) (fun q u=>J q.1.1.1 q.1.1.2 u∧w.heap.size≤u.heap.size) (fun q=>n-q.1.2) (⟨((s0,0),0),Nat.zero_le _,by rw[hxs];rfl,Nat.zero_le _⟩) Zk (fun _=>by kernel_rfl) ⟨Zk,Zk,Zk⟩ (fun _ h=>h) ?_
 rintro⟨⟨⟨s,k⟩,i⟩,hi,hd,hk⟩ gg
 have hd2:xs.drop k=Kj (K4 (H.drop i)):=hd
 have hk2:k≤xs.length:=hk
 by_cases hlt:i<n
 case neg=>
  refine ZR ?_
  refine ZJ (decide ((i:Int)<(n:Int))) false (decide_eq_false Zo) ?_
  refine K0.leave Zk ?_
  refine ZR ?_
  have hk3:k=xs.length:=by
   rw[List.drop_of_length_le (show H.length≤i by omega)]at hd2
   have:=List.drop_eq_nil_iff.1 (show xs.drop k=[]from hd2);omega
  refine ZV (.tuple #[]) (fun w1 hw h=>⟨⟨_,rfl⟩,hw,(h w1 (Nat.le_refl _) fun _ _ _=>rfl).2,s,fun u hu=>by rw[←hk3];exact(h u hu.1 hu.2).1⟩)
 obtain⟨x,hx⟩:∃v,H[i]? =some v:=⟨_,List.getElem?_eq_getElem Zo⟩
 have hmx:=List.mem_of_getElem? hx
 have hlx:=hl x hmx
 have hd3:xs.drop k=(zipR x.1).filter neE++Kj (K4 (H.drop (i+1))):=by rw[hd2,Nn hx];rfl
 refine K0.pure_ (p:=∃ad,y.1=some ad) (fun u hu h=>(hPre _ _ _ h.1).2.row.some hx) Zk (fun hp=> ?_)
 obtain⟨ad,hA⟩:=hp
 refine ZR ?_
 refine ZJ (decide ((i:Int)<(n:Int))) true (decide_eq_true Zo) ?_
 refine ZA (Kc 57 (.slice y.1 n y.2) i) (.pointer (some (ad.add (i*1)))) (fun w1 hw h=>T9 hA hlt) ?_
 refine ZA (Kd 108 (ad.add (i*1))) (Cs x) (fun w1 hw h=>X8 ((hPre _ _ _ h.1).2.row.at hA hx)) ?_
 refine K0.loop (ι:={q:(ι×Nat)×Nat // q.2≤x.1.length∧xs.drop q.1.2=((zipR x.1).drop q.2).filter neE++Kj (K4 (H.drop (i+1)))∧q.1.2≤xs.length}) 41 (fun q=>⟨[(0,.v (.func (.yield l) #[] #[])),(1,.v (Ku g)),(4,.v (Cs x)),(8,.v (.slice y.1 n y.2)),(9,.v (.int .i64 n)),(10,.v (.int .i64 i)),(14,.v (Cs x)),(15,.v (.int .i64 x.1.length)),(16,.v (.int .i64 q.1.2))],[]⟩) (fun q u=>J q.1.1.1 q.1.1.2 u∧w.heap.size≤u.heap.size) (fun q=>x.1.length-q.1.2) (⟨((s,k),0),Nat.zero_le _,hd3,hk2⟩) Zk (fun _=>by kernel_rfl) ⟨Zk,Zk,Zk⟩ (fun _ h=>h) ?_
 rintro⟨⟨⟨s,k⟩,j⟩,hj,hd,hk⟩ gg2
 have hj2:j≤x.1.length:=hj
 have hd2:xs.drop k=((zipR x.1).drop j).filter neE++Kj (K4 (H.drop (i+1))):=hd
 have hk2:k≤xs.length:=hk
 by_cases hlj:j<x.1.length
 case neg=>
  have hd4:xs.drop k=Kj (K4 (H.drop (i+1))):=by rw[hd2,List.drop_of_length_le (by rw[zipR_len];omega)];rfl
  refine ZR ?_
  refine ZJ (decide ((j:Int)<(x.1.length:Int))) false (decide_eq_false Zo) ?_
  refine K0.leave Zk ?_
  refine ZR ?_
  refine K0.slot 10 (.int .i64 (IntKind.i64.wrap ((i:Int)+1))) (.int .i64 ((i+1:Nat):Int)) Zk (by rw[K7 hlt Zo]) ?_
  refine K0.next (⟨((s,k),i+1),hlt,hd4,hk2⟩) Zk (by show n- (i+1)<n-i;omega) ⟨Zk,Zk,Zk⟩ (fun _ h=>h)
 obtain⟨a,ha⟩:∃v,x.1[j]? =some v:=⟨_,List.getElem?_eq_getElem hlj⟩
 have hlb:(j+1)%x.1.length<x.1.length:=Nat.mod_lt _ Zo
 obtain⟨b,hb⟩:∃v,x.1[(j+1)%x.1.length]? =some v:=⟨_,List.getElem?_eq_getElem hlb⟩
 have hva:=hv x hmx a (List.mem_of_getElem? ha)
 have hvb:=hv x hmx b (List.mem_of_getElem? hb)
 rw[Nn (zipR_get ha hb)]at hd2
 refine K0.pure_ (p:=∃ad,x.2.1=some ad) (fun u hu h=>((hPre _ _ _ h.1).2.ring x hmx).some ha) Zk (fun hp=> ?_)
 obtain⟨ad2,hA2⟩:=hp
 refine ZR ?_
 refine ZJ (decide ((j:Int)<(x.1.length:Int))) true (decide_eq_true Zo) ?_
 refine ZA (Kc 108 (Cs x) j) (.pointer (some (ad2.add (j*2)))) (fun w1 hw h=>Pe hA2 hlj) ?_
 refine K0.ask (Kd 35 (ad2.add (j*2))) (Ls a) Zk (fun w1 hw h=>R1 (((hPre _ _ _ h.1).2.ring x hmx).at hA2 ha)) ?_
 refine ZS 5 ?_
 refine K0.run Zk (stop:=1000) 1 _ ?_
 refine ZS 5 ?_
 refine K0.slot 23 (.int .i64 (IntKind.i64.wrap ((j:Int)+1))) (.int .i64 ((j+1:Nat):Int)) Zk (by rw[K7 hlj Zo]) ?_
 refine ZA (opS .rem 3 (.tmp 23) (.tmp 25) (.int .i64 ((j+1:Nat):Int)) (.int .i64 (x.1.length:Int))) (.int .i64 (((j+1)%x.1.length:Nat):Int)) (fun w1 hw h=>run_remS Zo) ?_
 refine ZA (Kc 108 (Cs x) ((j+1)%x.1.length:Nat)) (.pointer (some (ad2.add ((j+1)%x.1.length*2)))) (fun w1 hw h=>Pe hA2 hlb) ?_
 refine K0.ask (Kd 35 (ad2.add ((j+1)%x.1.length*2))) (Ls b) Zk (fun w1 hw h=>R1 (((hPre _ _ _ h.1).2.ring x hmx).at hA2 hb)) ?_
 refine ZS 2 ?_
 cases he:decide (a=b)
 case true=>
  have hd3:xs.drop k=((zipR x.1).drop (j+1)).filter neE++Kj (K4 (H.drop (i+1))):=by
   rw[hd2,List.filter_cons_of_neg (by rw[of_decide_eq_true he];simp[neE])]
  refine ZA (neH (.tmp 29) (.tmp 30) hva hvb) (.bool false) (fun w1 hw h=>run_neH hva hvb he) ?_
  refine ZI false ?_
  refine K0.slot 16 (.int .i64 (IntKind.i64.wrap ((j:Int)+1))) (.int .i64 ((j+1:Nat):Int)) Zk (by rw[K7 hlj Zo]) ?_
  refine K0.next (⟨((s,k),j+1),hlj,hd3,hk2⟩) Zk (by show x.1.length- (j+1)<x.1.length-j;omega) ⟨Zk,Zk,Zk⟩ (fun _ h=>h)
 rw[List.filter_cons_of_pos (by simpa[neE]using he)]at hd2
 obtain⟨q1,q2,q3⟩:=drop_next (by rw[hd2,List.cons_append])
 refine ZA (neH (.tmp 29) (.tmp 30) hva hvb) (.bool true) (fun w1 hw h=>run_neH hva hvb he) ?_
 refine K0.yield (L:=L s) (val:=fun _:ι=> .bool true) (G:=G s) (Φ':=fun s' u=>J s' (k+1) u∧w.heap.size≤u.heap.size) (l:=l) (args:= #[Ls a,Ls b]) (fun w1 hb hcl=>hy s k (a,b) w1 hb (fun u hu=>(hcl u hu).1) q1) (fun u h=>hOwn s k u h.1) (fun s' wa u e1 e2 h hG=>⟨hLeft s k s' wa u e1 e2 h.1 hG,by rw[←e1];exact h.2⟩) Zk Zk (fun s'=> ?_)
 refine ZR ?_
 refine ZI false ?_
 refine K0.slot 16 (.int .i64 (IntKind.i64.wrap ((j:Int)+1))) (.int .i64 ((j+1:Nat):Int)) Zk (by rw[K7 hlj Zo]) ?_
 refine K0.next (⟨((s',k+1),j+1),hlj,q2,q3⟩) Zk (by show x.1.length- (j+1)<x.1.length-j;omega) ⟨Zk,Zk,Zk⟩ (fun _ h=>h)
def RU{α:Type}(d:Nat):Result α→Prop
 | .ok _ w=>d≤w.drawn
 | .halt _ w=>d≤w.drawn
theorem ask_up{α:Type}(a:Ask α):∀w:World,w.drawn≤(w.ask a).2.drawn:=by
 induction a with
 |done a=>exact fun w=>Nat.le_refl _
 |ask what range k ih=>
  intro w
  unfold World.ask
  dsimp only
  split
  ·exact ih _ w
  ·exact Nat.le_trans (Nat.le_succ w.drawn) (ih _ {w with drawn:=w.drawn+1})
theorem sys_up(w:World)(c:Sys):w.drawn≤(w.sys c).2.drawn:=by
 have h:=ask_up (Kernel.perform c w.os) w
 unfold World.sys
 split
 ·exact Nat.le_refl _
 ·rename_i e;rw[e]at h;exact h
theorem I5{p:Program}{w w':World}{at_:Addr}{u:TypeId}{k:Addr}{v:Value}{a:Bool}{l:List Addr}(h:w.viewStore p at_ u k v a= .ok (w',l)):w'.drawn=w.drawn:=by
 unfold World.viewStore at h
 simp only[bind,Except.bind,pure,Except.pure]at h
 repeat' first
  |(cases h;done)
  |(cases h;rfl)
  |split at h
theorem farStore_up{p:Program}{w w':World}{a:Addr}{v:Value}{b:Bool}{l:List Addr}(h:w.farStore p a v b= .ok (w',l)):w'.drawn=w.drawn:=by
 unfold World.farStore at h
 split at h
 ·split at h
  ·rename_i e;cases h;exact I5 e
  ·cases h
 ·cases h
theorem E4(p:Program){α:Type}(s:Sem α):∀w:World,RU w.drawn (s.run p w):=by
 induction s with
 |pure a=>exact fun w=>Nat.le_refl _
 |load m a k ih=>
  intro w;simp only[Sem.run]
  repeat' split
  all_goals first|exact ih _ w|exact Nat.le_refl _
 | store m a v k ih=>
  intro w
  cases v
  all_goals
   simp only[Sem.run]
   try exact Nat.le_refl _
  all_goals
   split
   ·split
    ·exact Nat.le_refl _
    ·exact ih (w.setCell _ _)
   ·split
    ·rename_i w2 _ e
     have e2:=farStore_up e
     have:=ih w2
     rw[e2]at this;exact this
    ·exact Nat.le_refl _
 |new o k ih=>intro w;exact ih _ _
 |shape r k ih=>intro w;exact ih _ w
 |freeze a n k ih=>
  intro w
  have h1:=ih (w.freeze a n)
  have e:(w.freeze a n).drawn=w.drawn:=by unfold World.freeze;split<;>rfl
  rw[e]at h1;exact h1
 |frozen a k ih=>intro w;exact ih _ w
 |getObj r k ih=>
  intro w;simp only[Sem.run]
  repeat' split
  all_goals first|exact ih _ w|exact Nat.le_refl _
 |setObj r o k ih=>
  intro w;simp only[Sem.run]
  repeat' split
  all_goals first|exact Nat.le_refl _|exact ih _
 | choose q k ih=>
  intro w;simp only[Sem.run]
  split
  ·exact ih _ w
  ·have:=ih (q.cut (w.tape w.drawn q)) {w with drawn:=w.drawn+1}
   revert this
   generalize Sem.run p _ _=r
   cases r<;>exact fun h=>Nat.le_trans (Nat.le_succ _) h
 |sys c k ih=>
  intro w;simp only[Sem.run]
  have h1:=sys_up w c
  have:=ih (w.sys c).1 (w.sys c).2
  revert this
  generalize Sem.run p _ _=r
  cases r<;>exact fun h=>Nat.le_trans h1 h
 |program k ih=>intro w;exact ih _ w
 |mark m k ih=>intro w;exact ih w
 |halt h=>exact fun w=>Nat.le_refl _
def GU(d:Nat):GStep→Prop
 | .go _ w _=>d≤w.drawn
 | .comm _ _ _ _ w _=>d≤w.drawn
 | .spawn _ _ w _=>d≤w.drawn
 | .count _ w _=>d≤w.drawn
 | .timer _ _ w _=>d≤w.drawn
 | .alone _ _ w _=>d≤w.drawn
 | .newcoro _ _ _ w _=>d≤w.drawn
 | .coroswitch _ _ _ w _=>d≤w.drawn
 | .collect _ w _=>d≤w.drawn
 | .watch _ w _=>d≤w.drawn
 | .ended _ _ _=>True
theorem X4{d:Nat}{es:Array Event}{g:GStep}(h:GU d g):GU d (GStep.after es g):=by cases g<;>exact h
theorem Nr{p:Program}{α:Type}{s:Sem α}{w w':World}{a:α}(e:s.run p w= .ok a w'):w.drawn≤w'.drawn:=by have h:=E4 p s w;rw[e]at h;exact h
theorem Qe{p:Program}{α:Type}{s:Sem α}{w w':World}{a:Halt}(e:s.run p w= .halt a w'):w.drawn≤w'.drawn:=by have h:=E4 p s w;rw[e]at h;exact h
theorem Ym{d:Nat}{w:World}{fd:Nat}{t:ByteArray}{o:Outcome}:GU d (endWith w fd t o):=by
 unfold endWith
 simp only[]
 repeat' split
 all_goals trivial
theorem P3{fr:Frame}{m:String}{w:World}:GU w.drawn (endThrow fr m w):=Nat.le_refl _
theorem Qh{p:Program}{fr:Frame}{v:Value}{w:World}:GU w.drawn (endPrinting p fr v w):=by
 unfold endPrinting
 simp only[]
 split
 ·exact P3
 ·trivial
theorem GU.mono{d d':Nat}{g:GStep}(h:GU d' g)(hd:d≤d'):GU d g:=by
 cases g<;>first|exact Nat.le_trans hd h|trivial
theorem Cg{p:Program}{fr:Frame}{cs:List Frame}{dy:Option Dying}{m:String}{w:World}:GU w.drawn (endFatal p fr cs dy m w):=by
 have key:∀s:Sem (List (ByteArray×String)×List ByteArray),GU w.drawn (match s.run p w with
  | .ok (texts,tabs) w=>dieOf fr (panicPieces texts++tabs) m true w
  | .halt (.unsupported u) w=> .ended (.unsupported u "") w
  | .halt _ w=> .ended (.stuck "the report of a panic" "") w):=by
  intro s
  split
  all_goals first|trivial|exact Nat.le_refl _|exact Nr (by assumption)|exact Qe (by assumption)|exact P3|exact Qh|exact Ym
 exact key _
theorem Vm{p:Program}{main:Bool}{fr:Frame}{cs:List Frame}{dy:Option Dying}{v:Value}{w:World}:GU w.drawn (doReturn p main fr cs dy v w):=by
 unfold doReturn
 repeat' split
 all_goals first|trivial|exact Nat.le_refl _|exact Nr (by assumption)|exact Qe (by assumption)|exact P3|exact Qh|exact Ym
theorem Cw{p:Program}{fr:Frame}{cs:List Frame}{dy:Option Dying}{d:Deferred}{w:World}:GU w.drawn (callDeferred p fr cs dy d w):=by
 unfold callDeferred
 simp only[Sem.runT_eq]
 repeat' first
  |refine X4 ?_
  |split
 all_goals first|trivial|exact Nat.le_refl _|exact Nr (by assumption)|exact Qe (by assumption)|exact P3.mono (Qe (by assumption))|exact Cg.mono (Qe (by assumption))
theorem unwind_up{p:Program}{main:Bool}{fr:Frame}{cs:List Frame}{dy:Option Dying}{w:World}:GU w.drawn (unwind p main fr cs dy w):=by
 unfold unwind
 simp only[Sem.runT_eq]
 repeat' first
  |exact Cw
  |exact Vm
  |refine X4 ?_
  |split
 all_goals first|trivial|exact Nat.le_refl _|exact Nr (by assumption)|exact Qe (by assumption)|exact Vm.mono (Nr (by assumption))|exact Qh
theorem writeOn_up{p:Program}{fr:Frame}{dy:Dying}{f:Fatal}{w:World}:GU w.drawn (writeOn p fr dy f w):=by
 unfold writeOn
 simp only[Sem.runT_eq]
 split
 ·trivial
 ·have key:∀(s:Sem Unit) (es:Array Event) (a b:Fatal),GU w.drawn (match (s.run p w,es)with
   |(.ok _ w,es)=> .go {frame:=fr,callers:=[],status:= .running,dying:=some {dy with fatal:=some a}} w es
   |(.halt .blocked w,_)=> .go {frame:=fr,callers:=[],status:= .blocked,dying:=some {dy with fatal:=some b}} w #[]
   |(.halt (.unsupported u) w,_)=> .ended (.unsupported u "") w
   |(.halt _ w,_)=> .ended (.stuck "the report of a fatal error" "") w):=by
   intro s es a b
   have h:=E4 p s w
   generalize s.run p w=r at h ⊢
   cases r with
   |ok a w=>exact h
   |halt a w=>cases a<;>first|exact h|trivial
  exact key _ _ _ _
theorem die_up{p:Program}{fr:Frame}{dy:Dying}{w:World}:GU w.drawn (die p fr dy w):=by
 unfold die
 simp only[Sem.runT_eq]
 repeat' first
  |exact writeOn_up
  |refine X4 ?_
  |split
 all_goals first|trivial|exact Nat.le_refl _|exact Nr (by assumption)|exact Ym|exact Qh.mono (Qe (by assumption))
theorem early_up{p:Program}{fr:Frame}{cs:List Frame}{dy:Option Dying}{g:Nat}{w:World}:GU w.drawn (early p fr cs dy g w):=by
 unfold early
 simp only[]
 repeat' split
 all_goals first|trivial|exact Nat.le_refl _|exact Nr (by assumption)|(have h:=Nr (by assumption);exact h)|(have h:=Nr ‹Sem.run _ _ _=Result.ok _ _›;exact h)
theorem Vz{p:Program}{b:Bool}{fr:Frame}{cs:List Frame}{dy:Option Dying}{s:Sem Next}{w:World}:GU w.drawn (stepG.apply p b fr cs dy s w):=by
 unfold stepG.apply
 have h:=E4 p s w
 cases b
 all_goals
  simp only[Sem.runT_eq,if_true,Bool.false_eq_true,if_false]
  refine X4 ?_
  generalize s.run p w=r at h ⊢
  cases r with
  | ok a w'=>
   cases a
   all_goals first
    |exact h
    |(try dsimp only
      repeat' split
      all_goals first|exact h|exact P3.mono h|trivial)
  | halt a w'=>
   cases a
   all_goals first
    |exact h
    |trivial
    |exact Cg.mono h
    |exact P3.mono h
    |(rename_i u;cases u<;>first|exact h|trivial|exact early_up.mono h)
theorem oper_up{p:Program}{b:Bool}{fr:Frame}{cs:List Frame}{dy:Option Dying}{w:World}:GU w.drawn (stepG.oper p b fr cs dy w):=by
 unfold stepG.oper
 repeat' split
 all_goals first|trivial|exact Vz
theorem elim_up{d:Nat}{α:Type}{o:Option α}{a:GStep}{f:α→GStep}(h1:GU d a)(h2:∀x,GU d (f x)):GU d (o.elim a f):=by
 cases o
 ·exact h1
 ·exact h2 _
theorem exec_up{p:Program}{main b:Bool}{fr:Frame}{cs:List Frame}{dy:Option Dying}{w:World}:GU w.drawn (stepG.exec p main b fr cs dy w):=by
 unfold stepG.exec
 simp only[Sem.runT_eq]
 split
 all_goals first
  |exact Vz
  |trivial
  |exact Nat.le_refl _
  |(repeat' first
      |exact Vz
      |exact oper_up
      |exact Vz.mono (Nr (by assumption))
      |(refine X4 ?_)
      |refine elim_up ?_ (fun x=> ?_)
      |split
    all_goals first|trivial|exact Nat.le_refl _|exact Nr (by assumption)|exact Qe (by assumption)|exact Vz.mono (Nr (by assumption))|exact Vm.mono (Nr (by assumption)))
theorem stepG_up{p:Program}{main b:Bool}{g:Goroutine}{w:World}:GU w.drawn (stepG p main g w b):=by
 unfold stepG
 repeat' split
 all_goals first|exact die_up|exact exec_up|exact unwind_up
theorem I4{rest:Rest}{cases:Array CommCase}{w w':World}(h:waitingAt rest cases w=some w'):w'.drawn=w.drawn:=by
 unfold waitingAt at h
 split at h
 ·split at h<;>cases h;rfl
 ·cases h;rfl
theorem Fc(p:Program)(rest:Rest)(gs:Array Goroutine)(i:Nat)(g:Goroutine)(cases:Array CommCase)(blocking:Bool)
 (shape:CommShape) (w:World) (m':Machine) (h:(communicate p rest gs i g cases blocking shape w).1= .next m'):w.drawn≤m'.world.drawn:=by
 unfold communicate at h
 simp only[]at h
 repeat' first
  |(simp at h;done)
  | (simp only[Stepped.next.injEq]at h;subst h
     first
      |exact Nat.le_refl _
      |exact Nat.le_of_eq (I4 (by assumption)).symm
      | (have h0:=Nr ‹Sem.run p _ w=Result.ok _ _›
         first
          |exact h0
          |(have h1:=Qe ‹Sem.run p _ _=Result.halt _ _›
            exact Nat.le_trans h0 h1)
          |(have h1:=Nr ‹Sem.run p _ _=Result.ok _ _›
            exact Nat.le_trans h0 h1)))
  |split at h
theorem look_up(p:Program)(gs:Array Goroutine)(rest:Rest)(w:World)(m':Machine)(h:look p gs rest w= .next m'):w.drawn≤m'.world.drawn:=by
 unfold look at h
 simp only[]at h
 repeat' first
  |(simp at h;done)
  |(simp only[Stepped.next.injEq]at h;subst h
    have h0:=Nr ‹Sem.run p _ w=Result.ok _ _›
    exact h0)
  |split at h
theorem drain_up(w:World)(c:Nat):(drain w c).2.drawn=w.drawn:=by unfold drain;split<;>rfl
theorem Gt{m:Machine}{k:Nat}{t:Timer}{w p:Nat}:(retime m k t w p).2.world.drawn=m.world.drawn:=by
 unfold retime
 cases hc:t.chan with
 |none=>rfl
 |some c=>
  have h:=drain_up m.world c
  revert h
  simp only[]
  generalize drain m.world c=x
  obtain⟨a,b⟩:=x
  exact id
theorem named_up{m m':Machine}{var:Addr}{f:Nat→Timer→Value×Machine}{v:Value}{d:Nat}(hf:∀k t,(f k t).2.world.drawn=d)(h:timerOp.named m var f= .ok (v,m')):m'.world.drawn=d:=by
 unfold timerOp.named at h
 split at h
 ·rename_i k _
  simp only[Except.ok.injEq]at h
  have:=hf k (m.rest.timers.getD k default)
  rw[h]at this;exact this
 ·cases h
theorem opened_up{m m':Machine}{var:Addr}(h:timerOp.opened m var=some m'):m'.world.drawn=m.world.drawn:=by
 unfold timerOp.opened at h
 split at h
 ·split at h<;>cases h;rfl
 ·cases h;rfl
theorem timerOp_up{m m':Machine}{op:TimerOp}{v:Value}(h:timerOp m op= .ok (v,m')):m'.world.drawn=m.world.drawn:=by
 cases op with
 | new t=>
  simp only[timerOp]at h
  split at h
  ·simp only[Except.ok.injEq,Prod.mk.injEq]at h;obtain⟨-,rfl⟩:=h;rfl
  ·split at h
   ·split at h
    ·cases h
    ·simp only[Except.ok.injEq,Prod.mk.injEq]at h;obtain⟨-,rfl⟩:=h;rfl
   ·cases h
 |stop var=>exact named_up (fun k t=>Gt) h
 | reset var w p=>
  simp only[timerOp]at h
  split at h
  ·rename_i m2 e
   exact named_up (fun k t=>Gt.trans (opened_up e)) h
  ·cases h
 |deadline ctx r w wh=>
  simp only[timerOp,Except.ok.injEq,Prod.mk.injEq]at h;obtain⟨-,rfl⟩:=h;rfl
theorem runT_up(p:Program)(m m':Machine)(i:Nat)(b:Bool)(h:(runT p m i b).1= .next m'):m.world.drawn≤m'.world.drawn:=by
 simp only[runT]at h
 have hs:=stepG_up (p:=p) (main:=i==0) (b:=b) (g:=(m.gs.swapAt! i {(default:Goroutine)with status:= .finished}).1) (w:=m.world)
 revert hs h
 generalize m.gs.swapAt! _ _=gg
 generalize stepG p _ gg.1 m.world b=s
 intro h hs
 cases s<;>simp only[]at h
 all_goals first
  |(simp at h;done)
  |exact Nat.le_trans hs (Fc _ _ _ _ _ _ _ _ _ _ h)
  |exact Nat.le_trans hs (look_up _ _ _ _ _ h)
  |(simp only[Stepped.next.injEq]at h;subst h;exact hs)
  |(repeat' first
      |(simp at h;done)
      |(simp only[Stepped.next.injEq]at h;subst h;exact hs)
      |(simp only[Stepped.next.injEq]at h;subst h;have h2:=timerOp_up (by assumption);rw[h2];exact hs)
      |split at h)
 all_goals
  have h1:=P3 (fr:=(by assumption:Goroutine).frame) (m:= "") (w:=(by assumption:World))
  rename_i e
  cases e
  cases h
  exact hs
theorem serve_up(p:Program)(m m':Machine)(k:Nat)(h:serve p m k= .next m'):m.world.drawn≤m'.world.drawn:=by
 unfold serve at h
 simp only[]at h
 repeat' first
  |(simp at h;done)
  |(simp only[Stepped.next.injEq]at h;subst h;exact Nat.le_refl _)
  |split at h
theorem askOn_upM(p:Program)(m m':Machine)(ops:Array MemOp)(h:askOn p m= .machine (.next m') ops):m.world.drawn≤m'.world.drawn:=by
 unfold askOn at h
 simp only[]at h
 repeat' first
  |(simp at h;done)
  |(simp only[Move.machine.injEq]at h
    have h0:=Nr ‹Sem.run p _ m.world=Result.ok _ _›
    exact Nat.le_trans h0 (serve_up _ _ _ _ h.1))
  | (simp only[Move.machine.injEq,Stepped.next.injEq]at h;obtain⟨rfl,_⟩:=h
     have h0:=Nr ‹Sem.run p _ m.world=Result.ok _ _›
     first
      |exact h0
      |(have h1:=Nr ‹Sem.run p _ _=Result.ok _ _›
        exact Nat.le_trans h0 h1))
  |split at h
theorem askOn_upG(p:Program)(m m':Machine)(i:Nat)(h:askOn p m= .goroutine m' i):m.world.drawn≤m'.world.drawn:=by
 unfold askOn at h
 simp only[]at h
 repeat' first
  |(simp at h;done)
  |split at h
 all_goals
  simp only[Move.goroutine.injEq]at h
  obtain⟨rfl,_⟩:=h
 all_goals
  repeat first
   |exact Nat.le_refl _
   |(dsimp only;refine Nat.le_trans ?_ (Nr (by assumption)))
   |refine Nat.le_trans ?_ (Nr (by assumption))
   |dsimp only[Machine.advanceTo]
theorem ask_cases_up(p:Program)(m:Machine):(∃m₂,m.world.drawn≤m₂.world.drawn∧ask p m=askOn p m₂)∨(∃o w,ask p m= .machine (.ended o w) #[]):=by
 unfold ask
 by_cases hw:m.rest.watch=true
 ·rw [if_pos hw]
  generalize hX:choose _=X
  have hr:=E4 p X m.world
  cases he:X.run p m.world with
  |halt h w=>exact .inr ⟨_,_,rfl⟩
  | ok k world=>
   rw[he]at hr
   rcases k with _|_|k
   ·exact .inl ⟨{m with world},hr,rfl⟩
   ·show(∃m₂,m.world.drawn≤m₂.world.drawn∧(match look p m.gs m.rest world with| .next m=>askOn p m|e=>Move.machine e)=askOn p m₂)∨
     (∃o w,(match look p m.gs m.rest world with| .next m=>askOn p m|e=>Move.machine e)= .machine (.ended o w) #[])
    cases hl:look p m.gs m.rest world with
    |next m₂=>exact .inl ⟨m₂,Nat.le_trans hr (look_up _ _ _ _ _ hl),rfl⟩
    |ended o w=>exact .inr ⟨o,w,rfl⟩
   ·exact .inl ⟨{m with world},hr,rfl⟩
 ·simp only[hw,Bool.false_eq_true,if_false]
  exact .inl ⟨m,Nat.le_refl _,rfl⟩
theorem ask_upM(p:Program)(m m':Machine)(ops:Array MemOp)(h:ask p m= .machine (.next m') ops):m.world.drawn≤m'.world.drawn:=by
 rcases ask_cases_up p m with ⟨m₂,hs,he⟩|⟨o,w,he⟩
 ·rw[he]at h;exact Nat.le_trans hs (askOn_upM p m₂ m' ops h)
 ·rw[he]at h;simp at h
theorem ask_upG(p:Program)(m m':Machine)(i:Nat)(h:ask p m= .goroutine m' i):m.world.drawn≤m'.world.drawn:=by
 rcases ask_cases_up p m with ⟨m₂,hs,he⟩|⟨o,w,he⟩
 ·rw[he]at h;exact Nat.le_trans hs (askOn_upG p m₂ m' i h)
 ·rw[he]at h;cases h
theorem stepT_up(p:Program)(m m':Machine)(b:Bool)(h:(stepT p m b).1= .next m'):m.world.drawn≤m'.world.drawn:=by
 simp only[stepT]at h
 split at h
 ·rename_i m1 i hm
  refine Nat.le_trans ?_ (runT_up p m1 m' i b h)
  unfold move at hm
  repeat' first
   |(simp at hm;done)
   |(have:=ask_upG p _ m1 i hm;exact this)
   |(simp only[Move.goroutine.injEq]at hm;obtain⟨rfl,_⟩:=hm;exact Nat.le_refl _)
   |split at hm
 ·rename_i s ops hm
  simp only[]at h
  subst h
  unfold move at hm
  repeat' first
   |(simp at hm;done)
   |(have:=ask_upM p _ m' ops hm;exact this)
   |split at hm
theorem runN_up(p:Program):∀(n:Nat) (m m':Machine),runN p n m= .next m'→m.world.drawn≤m'.world.drawn
 |0,m,m',h=>by simp only[runN,Stepped.next.injEq]at h;subst h;exact Nat.le_refl _
 |n+1,m,m',h=>by
  simp only[runN]at h
  cases hs:step p m with
  |next m1=>rw[hs]at h;exact Nat.le_trans (stepT_up p m m1 true hs) (runN_up p n m1 m' h)
  |ended o w=>rw[hs]at h;cases h
theorem calls_up{P:Program}{f:FuncId}{args:Array Value}{w:World}{R:Ending→World→Prop}(h:Calls P f args w R):Calls P f args w fun e w'=>R e w'∧(e≠ .outgrown→w.drawn≤w'.drawn):=fun cs=>by
 obtain⟨e,w',fr,hR,hc,hr⟩:=h cs
 refine⟨e,w',fr,⟨hR,fun he=> ?_⟩,hc,hr⟩
 have key:Steps P (lone (Frame.enter P f args .normal) cs w) (lone fr cs w'):=by
  cases e with
  |returned v=>exact hc
  |panicked c=>exact hc
  |outgrown=>exact absurd rfl he
 obtain⟨n,hn⟩:=key
 exact runN_up P n _ _ hn
section
open Go.Shelf
def sortRat_ren:Go.Shelf.Ren:=⟨fun|6=>242|15=>298|14=>297|28=>299|29=>300|20=>333|21=>334|22=>335|23=>336|24=>337|25=>338|26=>339|27=>340|46=>365|47=>366|48=>367|49=>368|50=>369|57=>380|n=>n,fun|22=>97|24=>26|25=>125|3=>3|39=>182|0=>0|53=>144|55=>181|4=>4|46=>422|45=>421|50=>127|5=>5|9=>9|66=>450|70=>454|76=>462|77=>285|n=>n,fun|n=>n⟩
theorem sortRat:SlLaysF0.n6 Tryz.prog sortRat_ren:={
 mixed:=by kernel_rfl
 f6:=⟨ "slices.SortFunc[[]grisaille/api.Rat,grisaille/api.Rat]",by decide,Tryz.func242.trans (congrArg some Zk)⟩
 f14:=⟨ "slices.pdqsortCmpFunc[grisaille/api.Rat]",by decide,Tryz.func297.trans (congrArg some Zk)⟩
 f15:=Tryz.func298.trans (congrArg some Zk)
 f20:=⟨ "slices.insertionSortCmpFunc[grisaille/api.Rat]",by decide,Tryz.func333.trans (congrArg some Zk)⟩
 f21:=⟨ "slices.heapSortCmpFunc[grisaille/api.Rat]",by decide,Tryz.func334.trans (congrArg some Zk)⟩
 f22:=⟨ "slices.breakPatternsCmpFunc[grisaille/api.Rat]",by decide,Tryz.func335.trans (congrArg some Zk)⟩
 f23:=⟨ "slices.choosePivotCmpFunc[grisaille/api.Rat]",by decide,Tryz.func336.trans (congrArg some Zk)⟩
 f24:=⟨ "slices.reverseRangeCmpFunc[grisaille/api.Rat]",by decide,Tryz.func337.trans (congrArg some Zk)⟩
 f25:=⟨ "slices.partialInsertionSortCmpFunc[grisaille/api.Rat]",by decide,Tryz.func338.trans (congrArg some Zk)⟩
 f26:=⟨ "slices.partitionEqualCmpFunc[grisaille/api.Rat]",by decide,Tryz.func339.trans (congrArg some Zk)⟩
 f27:=⟨ "slices.partitionCmpFunc[grisaille/api.Rat]",by decide,Tryz.func340.trans (congrArg some Zk)⟩
 f28:=Tryz.func299.trans (congrArg some Zk)
 f29:=Tryz.func300.trans (congrArg some Zk)
 f46:=⟨ "slices.siftDownCmpFunc[grisaille/api.Rat]",by decide,Tryz.func365.trans (congrArg some Zk)⟩
 f47:=Tryz.func366.trans (congrArg some Zk)
 f48:=Tryz.func367.trans (congrArg some Zk)
 f49:=⟨ "slices.medianAdjacentCmpFunc[grisaille/api.Rat]",by decide,Tryz.func368.trans (congrArg some Zk)⟩
 f50:=⟨ "slices.medianCmpFunc[grisaille/api.Rat]",by decide,Tryz.func369.trans (congrArg some Zk)⟩
 f57:=⟨ "slices.order2CmpFunc[grisaille/api.Rat]",by decide,Tryz.func380.trans (congrArg some Zk)⟩
 t0:=Tryz.underlying0
 a0:=Tryz.isAgg0
 z0:=Tryz.sizeOf0
 v0:=Tryz.zeroValue0
 t3:=Tryz.underlying3
 a3:=Tryz.isAgg3
 z3:=Tryz.sizeOf3
 v3:=Tryz.zeroValue3
 t4:=Tryz.underlying4
 a4:=Tryz.isAgg4
 z4:=Tryz.sizeOf4
 v4:=Tryz.zeroValue4
 t5:=Tryz.underlying5
 a5:=Tryz.isAgg5
 z5:=Tryz.sizeOf5
 v5:=Tryz.zeroValue5
 t9:=Tryz.underlying9
 a9:=Tryz.isAgg9
 z9:=Tryz.sizeOf9
 v9:=Tryz.zeroValue9
 t22:=Tryz.underlying97
 a22:=Tryz.isAgg97
 z22:=Tryz.sizeOf97
 v22:=Tryz.zeroValue97
 t25:=Tryz.underlying125
 a25:=Tryz.isAgg125
 z25:=Tryz.sizeOf125
 v25:=Tryz.zeroValue125
 t39:=Tryz.underlying182
 a39:=Tryz.isAgg182
 z39:=Tryz.sizeOf182
 v39:=Tryz.zeroValue182
 t45:=Tryz.underlying421
 a45:=Tryz.isAgg421
 z45:=Tryz.sizeOf421
 v45:=Tryz.zeroValue421
 t46:=Tryz.underlying422
 a46:=Tryz.isAgg422
 z46:=Tryz.sizeOf422
 v46:=Tryz.zeroValue422
 t50:=Tryz.underlying127
 a50:=Tryz.isAgg127
 z50:=Tryz.sizeOf127
 v50:=Tryz.zeroValue127
 t53:=Tryz.underlying144
 a53:=Tryz.isAgg144
 z53:=Tryz.sizeOf144
 v53:=Tryz.zeroValue144
 t55:=Tryz.underlying181
 a55:=Tryz.isAgg181
 z55:=Tryz.sizeOf181
 v55:=Tryz.zeroValue181
 t66:=Tryz.underlying450
 a66:=Tryz.isAgg450
 z66:=Tryz.sizeOf450
 v66:=Tryz.zeroValue450
 t70:=Tryz.underlying454
 a70:=Tryz.isAgg454
 z70:=Tryz.sizeOf454
 v70:=Tryz.zeroValue454
 t76:=Tryz.underlying462
 a76:=Tryz.isAgg462
 z76:=Tryz.sizeOf462
 v76:=Tryz.zeroValue462
 t77:=Tryz.underlying285
 a77:=Tryz.isAgg285
 z77:=Tryz.sizeOf285
 v77:=Tryz.zeroValue285}
abbrev RQ:=RV×Rat
def Nx(r:RQ):List Value:=r.1.cl
def blks(A:Option Addr)(c:Nat):List Nat:=match A with|some p=>if c=0 then []else [p.block]|none=>[]
theorem Sr.blk{w:World}{B:Nat}{A:Option Addr}{n c:Nat}{l:List Nat}(h:Sr w B A n c l):∀b∈blks A c,B≤b∧∃cs ty own,w.heap[b]? =some (.cells cs ty own):=by
 intro b hb
 unfold blks at hb
 split at hb
 ·split at hb
  ·cases hb
  ·rename_i p h0
   obtain⟨g,cur,t,hA,hB,hh,_⟩:=h.own Zo
   injection hA with hA
   subst hA
   simp only[List.mem_singleton]at hb
   subst hb
   exact⟨hB,_,_,_,hh⟩
 ·cases hb
def Ln(a:RV):List Nat:=blks a.a.A a.a.c++blks a.b.A a.b.c
section
variable{q:Rat}{K:Nat}
theorem Sr.same{w w':World}{B:Nat}{A:Option Addr}{n c:Nat}{l:List Nat}(h:Sr w B A n c l)(e1:w.heap.size≤w'.heap.size)(e2:∀b∈blks A c,w'.heap[b]? =w.heap[b]?):Sr w' B A n c l:=by
 have hkeep:∀p,A=some p→0<c→w'.heap[p.block]? =w.heap[p.block]? :=fun p hp h0=>e2 _ (by unfold blks;rw[hp];simp;omega)
 refine⟨⟨h.dig,h.len,h.le,h.cap,h.rd.1,fun h0=> ?_⟩,fun h0=> ?_⟩
 ·obtain⟨x,hA,hb,hc⟩:=h.rd.2 h0
  have hle:=h.le
  refine⟨x,hA,Nat.lt_of_lt_of_le hb e1,fun j u hu=> ?_⟩
  have e:w'.cell? (x.add j)=w.cell? (x.add j):=World.cell?_of_block (by rw[Ud];exact hkeep x hA Zo)
  exact e.trans (hc j u hu)
 ·obtain⟨g,cur,t,hA,hB,hh,hs⟩:=h.own h0
  exact⟨g,cur,t,hA,hB,(hkeep _ hA h0).trans hh,hs⟩
theorem Xr.same{v:SV}{x:Int}{w w':World}(h:Xr v x K w)(e1:w.heap.size≤w'.heap.size)(e2:∀b∈blks v.A v.c,w'.heap[b]? =w.heap[b]?):Xr v x K w':=
 have ho:=h.2.2.2.same e1 e2
 ⟨⟨ho.toIn,h.1.zi,h.1.le⟩,h.2.1,h.2.2.1,ho⟩
theorem Kh.same{r:RV}{w w':World}(h:Kh r q K w)(e1:w.heap.size≤w'.heap.size)(e2:∀b∈Ln r,w'.heap[b]? =w.heap[b]?):Kh r q K w':=
 ⟨h.1.same e1 fun b hb=>e2 b (List.mem_append_left _ hb),h.2.same e1 fun b hb=>e2 b (List.mem_append_right _ hb)⟩
end
theorem Fk{w w':World}(h:Below w.heap.size w w')(hd:w.drawn≤w'.drawn):∃q os,w'=Sort.grow (w.drewN q) os:=by
 refine⟨w'.drawn-w.drawn,(w'.heap.toList.drop w.heap.size).toArray,?_⟩
 obtain⟨h1,h2,h3,h4,h5⟩:=h
 have e:w'.heap=w.heap++(w'.heap.toList.drop w.heap.size).toArray:=by
  refine Array.ext_getElem? fun k=> ?_
  by_cases hk:k<w.heap.size
  ·rw[Array.getElem?_append_left hk];exact h5 k hk
  ·rw[Array.getElem?_append_right Zo];simp;congr 1;omega
 obtain⟨a1,a2,a3,a4,a5⟩:=w'
 simp only at h1 h2 h3 e hd
 subst h1;subst h2;subst h3
 unfold Sort.grow World.drewN
 simp only[World.mk.injEq,true_and,and_true]
 exact⟨e,by omega⟩
theorem cmp_swo{α:Type}(f:α→Rat):Sort.SWO (ltOf fun x y:α=>Kk (f x) (f y)):=by
 have e:∀x y:α,ltOf (fun x y:α=>Kk (f x) (f y)) x y=decide (f x<f y):=fun x y=>by
  show decide ((if f x<f y then(-1:Int)else if f x=f y then 0 else 1)<0)=_
  by_cases h:f x<f y
  ·rw[if_pos h,decide_eq_true h];rfl
  ·rw[if_neg h,decide_eq_false h];split<;>rfl
 refine⟨fun x=>by rw[e];exact decide_eq_false Rat.lt_irrefl,fun x y z h1 h2=> ?_,fun x y z h1 h2=> ?_⟩
 ·rw[e]at *;simp only[decide_eq_true_eq]at *;grind
 ·rw[e]at *;simp only[decide_eq_false_iff_not]at *;grind
section
variable{w:World}{g n c B K:Nat}{l:List RQ}
abbrev ElQ(w:World)(g K:Nat):={z:RQ // Kh z.1 z.2 K w∧g∉Ln z.1}
theorem frozen00{a:Addr}{cs:Array Value}{t:TypeId}(h:w.heap[a.block]? =some (.cells cs t (0,0))):w.frozen? a=false:=by
 unfold World.frozen?;rw[h];simp
theorem elq_same{W:World}(z:ElQ w g K)(h1:w.heap.size≤W.heap.size)(h2:∀b,b<w.heap.size→b≠g→W.heap[b]? =w.heap[b]?):Kh z.1.1 z.1.2 K W:=
 z.2.1.same h1 fun b hb=>by
  have hne:b≠g:=fun e=>z.2.2 (e▸hb)
  have:∃cs ty own,w.heap[b]? =some (.cells cs ty own):=by
   rcases List.mem_append.1 hb with hb|hb
   ·exact(z.2.1.1.2.2.2.blk b hb).2
   ·exact(z.2.1.2.2.2.2.blk b hb).2
  obtain⟨_,_,_,hh⟩:=this
  exact h2 b (Array.getElem?_eq_some_iff.1 hh).1 hne
theorem Gw{F:Array Value}{off b:Nat}(hb:b≠g):(Sort.putRow id w g off F).heap[b]? =w.heap[b]? :=by
 unfold Sort.putRow Sort.mapBlock
 simp only[Array.getElem?_modify]
 rw[if_neg (fun e=>hb e.symm)]
theorem V3 [Inhabited (ElQ w g K)]{m:Nat}{dk:Array (ElQ w g K)}{os:Array Obj}{enc:ElQ w g K→List Value}{b:Nat}(h:b<w.heap.size)(hb:b≠g):(sortWorldK enc 4 w g 0 m dk os).heap[b]? =w.heap[b]? :=by
 unfold sortWorldK Sort.putRowK
 show((Sort.putRow id (Sort.ahead w m) g 0 _).heap++os)[b]? =_
 rw[Array.getElem?_append_left (by rw[Sort.size_putRow];exact h),Gw hb];rfl
theorem Ru(r:RQ):(Nx r).length=4:=rfl
theorem Hm{α:Type} [Inhabited α]{enc:α→List Value}(hk:∀x,(enc x).length=4){d:Array α}{t:Nat}(ht:t<d.size*4):(d.toList.flatMap enc)[t]? =some (Sort.flatK enc 4 d)[t]! :=by
 rw[Sort.get_flatK enc 4 d t ht]
 have h1:t/4<d.size:=by omega
 have h2:t%4<(enc d[t/4]!).length:=by rw[hk];omega
 have hx:d.toList[t/4]? =some d[t/4]! :=by simp[h1]
 have hv:(enc d[t/4]!)[t%4]? =some (enc d[t/4]!)[t%4]! :=by rw[getElem!_pos (enc d[t/4]!) (t%4) h2,List.getElem?_eq_getElem h2]
 have:=Pm (cl:=enc) hk d.toList (t/4) _ (t%4) _ hx hv
 rw[show t/4*4+t%4=t by omega]at this
 exact this
theorem holdsQ{α:Type} [Inhabited α]{enc:α→List Value}(hk:∀x,(enc x).length=4){d:Array α}{e:TypeId}(ho:K6 w B e 4 (some ⟨g,0,none⟩) n c (d.toList.flatMap enc)):Sort.HoldsK enc 4 w g 0 d:=by
 intro t ht
 rw[Sort.size_flatK]at ht
 have hl:=ho.len
 rcases ho.2 with ⟨h1,_⟩|⟨g2,cap,cur,h1,hB,hh,hn,hc,hs,hx⟩
 ·cases h1
 injection h1 with h1 _ h2
 injection h1 with h1
 injection h1 with h1
 subst h1;subst h2
 refine⟨?_,frozen00 (a:=⟨g,0+t,none⟩) hh⟩
 have h3:=Hm hk ht
 rw[←hx,List.getElem?_take]at h3
 split at h3
 ·simp only[World.cell?,hh,Option.isSome_none,Bool.false_eq_true,if_false,Nat.zero_add]
  simpa using h3
 ·cases h3
theorem ownQ{α:Type} [Inhabited α]{enc:α→List Value}(hk:∀x,(enc x).length=4){d d':Array α}{m:Nat}{os:Array Obj}{e:TypeId}{u:World}(ho:K6 w B e 4 (some ⟨g,0,none⟩) n c (d.toList.flatMap enc))(hd:d'.size=d.size)(hn:d.size=n)
 (hu:u.heap[g]? =(sortWorldK enc 4 w g 0 m d' os).heap[g]?):K6 u B e 4 (some ⟨g,0,none⟩) n c (d'.toList.flatMap enc):=by
 have hl:∀l:List α,(l.flatMap enc).length=l.length*4:=fun l=>by
  induction l with
  |nil=>rfl
  |cons x l ih=>rw[List.flatMap_cons,List.length_append,ih,hk,List.length_cons];omega
 rcases ho.2 with ⟨h1,_⟩|⟨g2,cap,cur,h1,hB,hh,hn2,hc,hs,hx⟩
 ·cases h1
 injection h1 with h1 _ h2
 injection h1 with h1
 injection h1 with h1
 subst h1;subst h2
 have hlt:=(Array.getElem?_eq_some_iff.1 hh).1
 have hW:u.heap[g]? =some (.cells (Sort.putCells id 0 (Sort.flatK enc 4 d') cur) e (0,0)):=by
  rw[hu]
  show((Sort.putRow id (Sort.ahead w m) g 0 _).heap++os)[g]? =_
  rw[Array.getElem?_append_left (by rw[Sort.size_putRow];exact hlt)]
  unfold Sort.putRow Sort.mapBlock
  simp only[Array.getElem?_modify,if_true,Sort.heap_ahead,hh,Option.map_some,Sort.onCells]
 have hsz:(Sort.putCells id 0 (Sort.flatK enc 4 d') cur).size=cur.size:=by simp[Sort.putCells]
 refine⟨by rw[hl,Array.length_toList];omega,.inr ⟨g,c,_,rfl,hB,hW,hn2,hc,by rw[hsz];exact hs,?_⟩⟩
 refine List.ext_getElem? fun t=> ?_
 rw[List.getElem?_take]
 by_cases ht:t<n*4
 ·rw[if_pos ht,Hm hk Zo]
  have htc:t<cur.size:=by rw[hs];have:=Nat.mul_le_mul_right 4 hn2;omega
  unfold Sort.putCells
  rw[Array.getElem?_toList,Array.getElem?_mapIdx,Array.getElem?_eq_getElem htc,Option.map_some,if_pos (by rw[Sort.size_flatK];omega)]
  simp
 ·rw[if_neg ht,List.getElem?_eq_none (by rw[hl,Array.length_toList];omega)]
theorem sortq_m{l:List RQ}(ho:K6 w B 26 4 (some ⟨g,0,none⟩) n c (l.flatMap Nx))(hq:∀z∈l,Kh z.1 z.2 K w)(hd:∀z∈l,g∉Ln z.1)(hK:2≤K∧K+K≤68719476736)(h0:0<n)(hn:n≤1000000000):
 Calls Tryz.prog 242 #[.slice (some ⟨g,0,none⟩) n c,.func (.func 56) #[] #[]] w (Ky w [g] (fun _:{m:List RQ // m.Perm l∧m.Pairwise fun a b=>¬b.2<a.2}=> .tuple #[]) fun m u=>K6 u B 26 4 (some ⟨g,0,none⟩) n c (m.1.flatMap Nx)):=by
 have hln:l.length=n:=by
  have:=ho.len
  have hl:∀l:List RQ,(l.flatMap Nx).length=l.length*4:=fun l=>by
   induction l with
   |nil=>rfl
   |cons x l ih=>rw[List.flatMap_cons,List.length_append,ih,Ru,List.length_cons];omega
  rw[hl]at this;omega
 have hlt:g<w.heap.size:=(ho.lt g (by simp[bl])).2
 obtain⟨D,hD⟩:∃D:List (ElQ w g K),D.map (·.1)=l:=⟨l.attach.map fun z=>⟨z.1,hq z.1 z.2,hd z.1 z.2⟩,by rw[List.map_map];exact(List.map_congr_left fun z _=>rfl).trans l.attach_map_subtype_val⟩
 have hDl:D.length=n:=by rw[←hln,←hD,List.length_map]
 haveI:Inhabited (ElQ w g K):=⟨D[0]'Zo⟩
 have hfm:∀E:List (ElQ w g K),E.flatMap (fun z=>Nx z.1)=(E.map (·.1)).flatMap Nx:=fun E=>by rw[List.flatMap_map]
 have ho2:K6 w B 26 4 (some ⟨g,0,none⟩) n c (D.toArray.toList.flatMap fun z=>Nx z.1):=by rw[List.toList_toArray,hfm,hD];exact ho
 have hcmp:CmpLays Tryz.prog 56 #[] (fun z:ElQ w g K=>Nx z.1) 4 (fun x y=>Kk x.1.2 y.1.2) g 0 D.toArray.size w:=fun m os dk hdk x y=>by
  obtain⟨W,hW⟩:∃W,W=sortWorldK (fun z:ElQ w g K=>Nx z.1) 4 w g 0 m dk os:=⟨_,rfl⟩
  rw[←hW]
  have hs:w.heap.size≤W.heap.size:=by rw[hW];exact size_sortWorldK_c _ _ _ _ _ _ _ _
  have hx:=elq_same x (W:=W) hs fun b h1 h2=>by rw[hW];exact V3 h1 h2
  have hy:=elq_same y (W:=W) hs fun b h1 h2=>by rw[hW];exact V3 h1 h2
  refine(calls_up (Lq hx.q hy.q ⟨hK.1,hK.1,hK.2⟩)).mono ?_
  rintro e w' ⟨⟨_,rfl,hb,_⟩,hup⟩
  exact⟨rfl,Fk hb (hup Zs)⟩
 have hcon:=AnyQ.slices_SortFunc sortRat 4 (fun w=>by kernel_rfl) (fun w=>by kernel_rfl) (fun z:ElQ w g K=>Nx z.1) (fun _=>rfl) (fun z v hv=>by simp[Nx,RV.cl]at hv;rcases hv with rfl|rfl|rfl|rfl<;>rfl) (fun x y=>Kk x.1.2 y.1.2) (cmp_swo fun z:ElQ w g K=>z.1.2) 56 #[] g 0 c D.toArray w (enters_of Tryz.func56 Zk rfl) hcmp (holdsQ (fun _=>rfl) ho2) hlt (by rw[List.size_toArray];omega)
 rw[List.size_toArray,hDl]at hcon
 refine hcon.mono ?_
 rintro e w' ⟨rfl,d',m,os,⟨hsz,_,hp⟩,hs,rfl⟩
 have hs2:d'.size=n:=by have h:d'.size=D.toArray.size:=hsz;rw[h,List.size_toArray,hDl]
 have hp2:d'.toList.Perm D:=by
  have e1:d'.extract 0 n=d':=by rw[←hs2];exact Array.extract_size
  have e2:D.toArray.extract 0 n=D.toArray:=by rw[←hDl,←List.size_toArray];exact Array.extract_size
  rw[e1,e2]at hp;exact hp
 refine⟨⟨d'.toList.map (·.1),by rw[←hD];exact hp2.map _,?_⟩,rfl,⟨rfl,rfl,rfl,size_sortWorldK_c _ _ _ _ _ _ _ _,fun k hk hne=>V3 hk (by simpa using hne)⟩,fun u k1 k2=> ?_⟩
 ·rw[List.pairwise_map,List.pairwise_iff_getElem]
  intro i j hi hj hij
  rw[Array.length_toList]at hi hj
  have:=hs i j (Nat.zero_le _) hij Zo
  rw[getElem!_pos d' j hj,getElem!_pos d' i hi]at this
  unfold ltOf Kk at this
  simp only[Array.getElem_toList]
  intro hc
  have h2:=of_decide_eq_false this
  dsimp only at h2
  rw[if_pos hc]at h2
  exact h2 Zd
 ·show K6 u B _ 4 _ n c ((d'.toList.map (·.1)).flatMap Nx)
  rw[←hfm]
  exact ownQ (fun _=>rfl) ho2 (by rw[hs2,List.size_toArray,hDl]) (by rw[List.size_toArray,hDl]) (k2 g (.inl Zs))
end
end
end Go.Proofs.YtpgkbllcnphmbaaGreatDoor
