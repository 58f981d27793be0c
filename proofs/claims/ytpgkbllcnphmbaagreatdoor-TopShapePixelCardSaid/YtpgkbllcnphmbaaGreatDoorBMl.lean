/-
 A part of the proof.
-/
import Derived.Test.YtpgkbllcnphmbaaGreatDoorBMh
import Derived.Test.YtpgkbllcnphmbaaGreatDoorBAr
namespace Go.Proofs.YtpgkbllcnphmbaaGreatDoor
set_option maxRecDepth 100000
set_option maxHeartbeats 8000000
set_option linter.unusedVariables false
set_option linter.unusedSimpArgs false
open Go.RowKit
def Ft(M:List Pv)(os:List Nv):Prop:=∀o∈os,(∃s∈M,o.1.1=s.1∧o.2.1=s.2.1)∧∃s∈M,o.1.2=s.1∧o.2.2=s.2.1
section
variable{w u:World}{A:Option Addr}{n c N K B:Nat}{y z:Option Addr×Nat}{M:List Pv}{os:List Nv}{H:List LP}{yR:RV}{yq:Rat}{rule:Int}
theorem Ft.num(h:Ft M os)(hm:∀z∈M,∀x∈U2 z,Kh x.1 x.2 K u):∀z∈os,Kh z.1.1 z.2.1 K u∧Kh z.1.2 z.2.2 K u:=fun z hz=>by
 obtain⟨⟨s,h1,h2,h3⟩,s2,h4,h5,h6⟩:=h z hz
 rw[h2,h3,h5,h6]
 exact⟨hm s h1 (s.1,s.2.1) (by simp[U2]),hm s2 h4 (s2.1,s2.2.1) (by simp[U2])⟩
theorem Ft.snoc(h:Ft M os){s t:Pv}(hs:s∈M)(ht:t∈M):Ft M (os++ [((s.1,t.1),(s.2.1,t.2.1))]):=fun o ho=>by
 rcases List.mem_append.1 ho with h4|h4
 ·exact h o h4
 ·obtain rfl:o=((s.1,t.1),(s.2.1,t.2.1)):=by simpa using h4
  exact⟨⟨s,hs,rfl,rfl⟩,t,ht,rfl,rfl⟩
theorem app_in{s:Nv}{gb:Nat}(h:K6 u B 254 8 z.1 os.length z.2 (os.flatMap L7))(hm:∀z∈M,∀x∈U2 z,Kh x.1 x.2 K u)(hz:Un U2 z.1 M)(hB:B≤u.heap.size)(hg:Kv 254 (L7 s).toArray gb u)(hn:os.length≤99999999):
 Nf Tryz.prog u (bl z.1) (fun z':Option Addr×Nat=> .slice z'.1 (os.length+1) z'.2) (fun z' v=>K6 v B 254 8 z'.1 (os.length+1) z'.2 ((os++ [s]).flatMap L7)∧Un U2 z'.1 M) (Nc 171 171 (.slice z.1 os.length z.2) (Km 1 gb)):=by
 have ha2:=M9 (P:=Tryz.prog) (s:=8) (z:= .agg (L7 (((Oc,Oc),(0,0)):Nv)).toArray) (bytes:=128) (m:=1) (cc:=1) (t:=171) (elem:=254) Zk Zk rfl Zd h hB (M8 (n:=1) hg rfl) (fun v hv=>R0 s v (by simpa using hv)) Zo Zd
 have e2:(os++ [s]).flatMap L7=os.flatMap L7++(L7 s).toArray.toList:=by simp
 rw[e2]
 refine Oy ha2 fun z' hz'=>fun q hq x hxq b hb hc=> ?_
 rcases hz' b hb with h5|h5
 ·exact hz q hq x hxq b h5 hc
 ·have:=Nz (hm q hq x hxq) b hc;omega
theorem mark_x{i:Nat}{z:Pv}{u:World}{g:Nat}(h:u.rangeAt g (i*5) (M0 z)):u.rangeAt g (i*5) z.1.cl:=fun j v hv=>h j v (by show(z.1.cl++ [Value.int .i64 z.2.2])[j]? =some v;rw[List.getElem?_append_left (List.getElem?_eq_some_iff.1 hv).1];exact hv)
theorem marks_up{L:List (List Pt)}{m:W8}(h:m∈Rj L yq): -1≤m.2∧m.2≤1:=by
 obtain⟨e,_,he⟩:=Xf h
 unfold N9 at he
 split at he
 ·cases he
 ·injection he with he
  subst he
  rcases cmp_rng (e.2.2:Rat) yq with h|h|h<;>dsimp only<;>omega
theorem marks_len{L:List (List Pt)}:(Rj L yq).length≤L.flatten.length:=by
 have h1:(Rj L yq).length=((Kj L).filterMap (N9 yq)).length:=Qq.length_eq
 have h2:=List.length_filterMap_le (N9 yq) (Kj L)
 have h3:=Qv L
 omega
theorem spans_m(hp:Np w A n H)(hn:n≤1000000)(hv:vL 0 (K4 H)=true)(hr:rule=1∨rule=2)(hy:Ox yR yq K w)(hK:2≤K∧K≤900):
 Calls Tryz.prog 98 #[.slice A n c,.int .i64 rule,yR.val] w (K3 w (fun r:(Option Addr×Nat)×{r:List Nv // r.map (·.2)=Qb (K4 H) rule yq∧r.length≤(K4 H).flatten.length}=> .slice r.1.1 r.2.1.length r.1.2) fun r u=>M7 254 8 L7 Q7 w.heap.size (K+10) r.1 r.2.1 u):=by
 have hf:=hv
 rw[Aw (Nat.zero_le _),Bool.and_eq_true,decide_eq_true_eq,List.all_eq_true]at hf
 refine K0.enter Tryz.func98 rfl ?_
 refine ZR ?_
 refine ZC (fun w1 hw h=>(marks_m (c:=c) (hp.below hw) hn hv (hy.below hw) hK).mono fun e w' k=>k.cast (G':=fun q u=>M7 258 5 M0 U2 w.heap.size (K+10) q.1 q.2.1 u) fun q u h=>h.mono hw.size) fun mm=> ?_
 obtain⟨y,⟨M,hM⟩⟩:=mm
 have hML:M.length=(Rj (K4 H) yq).length:=by rw[←hM,List.length_map]
 have hMl:=marks_len (L:=K4 H) (yq:=yq)
 have hup:∀z∈M,-1≤z.2.2∧z.2.2≤1:=fun z hz=>marks_up (L:=K4 H) (yq:=yq) (m:=z.2) (by rw[←hM];exact List.mem_map_of_mem hz)
 refine K0.loop (ι:={q:(Nat×Int)×(Option Addr×Nat)×List Nv // ((q.1.1≤M.length∧q.2.2.length≤q.1.1)∧-(q.1.1:Int)≤q.1.2∧q.1.2≤q.1.1)∧q.2.2.map (·.2)++M3 rule q.1.2 ((M.map (·.2)).drop q.1.1)=M3 rule 0 (M.map (·.2))∧Ft M q.2.2∧Un U2 q.2.1.1 M}) 51 (fun q=>⟨[(1,.v (.int .i64 rule)),(7,.v (.slice q.1.2.1.1 q.1.2.2.length q.1.2.1.2)),(8,.v (.int .i64 q.1.1.2)),(9,.v (.slice y.1 M.length y.2)),(15,.v (.slice y.1 M.length y.2)),(16,.v (.int .i64 (M.length:Int))),(17,.v (.int .i64 (q.1.1.1:Int)))],[]⟩) (fun q u=>M7 258 5 M0 U2 w.heap.size (K+10) y M u∧K6 u w.heap.size 254 8 q.1.2.1.1 q.1.2.2.length q.1.2.1.2 (q.1.2.2.flatMap L7)) (fun q=>M.length-q.1.1.1) (⟨((0,0),(none,0),[]),⟨⟨Nat.zero_le _,Nat.zero_le _⟩,by simp,by simp⟩,rfl,(fun o ho=>by cases ho),fun z hz x hx b hb=>by cases hb⟩) Zk (fun _=>by kernel_rfl) ⟨Zk,Zk,Zk⟩ (fun u h=>⟨h.2,K6.nil_⟩) ?_
 rintro⟨⟨⟨k,m⟩,z,os⟩,⟨⟨hk,hol⟩,hm1,hm2⟩,hos,hfs,hzm⟩ gg
 have hk:k≤M.length:=hk
 have hol:os.length≤k:=hol
 have hm1: -(k:Int)≤m:=hm1
 have hm2:m≤(k:Int):=hm2
 have hos:os.map (·.2)++M3 rule m ((M.map (·.2)).drop k)=M3 rule 0 (M.map (·.2)):=hos
 have hfs:Ft M os:=hfs
 have hzm:Un U2 z.1 M:=hzm
 by_cases hlt:k<M.length
 case neg=>
  obtain rfl:k=M.length:=by omega
  rw[List.drop_of_length_le Zs]at hos
  have hos2:os.map (·.2)=M3 rule 0 (Rj (K4 H) yq):=by rw[←hM,←hos];simp[M3]
  refine ZR ?_
  refine ZJ (decide ((M.length:Int)<(M.length:Int))) false (decide_eq_false Zo) ?_
  refine K0.leave Zk ?_
  refine ZR ?_
  refine ZC (fun w1 hw h=>merge_m (Z:=os) (c:=z.2) (N:=w.heap.size) (h.2.reads.rows Lu rfl) (fun q hq=>⟨(hfs.num h.1.num q hq).1.q,(hfs.num h.1.num q hq).2.q⟩) Zo ⟨by omega,by omega⟩ hw.size) fun r=> ?_
  refine ZV (.slice r.1.1 r.2.1.length r.1.2) (fun w1 hw h=>⟨(r.1,⟨r.2.1,by rw[r.2.2.1,hos2];rfl,by have:=r.2.2.2;omega⟩),rfl,hw,fun w'' k1 k2=>(h w'' k1 k2).2.1⟩)
 obtain⟨e,he⟩:∃e,M[k]? =some e:=⟨_,List.getElem?_eq_getElem hlt⟩
 have hem:=List.mem_of_getElem? he
 have hue:=hup e hem
 refine K0.pure_ (p:=∃g,y.1=some ⟨g,0,none⟩) (fun u hu h=>h.1.some (by intro e;rw[e]at hlt;simp at hlt)) Zk (fun hyg=> ?_)
 obtain⟨gy,hgy⟩:=hyg
 have elY:∀{v:World} {i:Nat} {x:Pv},M7 258 5 M0 U2 w.heap.size (K+10) y M v→M[i]? =some x→v.rangeAt gy (i*5) (M0 x):=fun h hx=>by
  have h2:=h.own;rw[hgy]at h2;exact Lw Mg h2 Zo hx
 refine ZR ?_
 refine ZJ (decide ((k:Int)<(M.length:Int))) true (decide_eq_true Zo) ?_
 refine ZA (Kc 255 (.slice y.1 M.length y.2) k) (.pointer (some ⟨gy,k*5,none⟩)) (fun w1 hw h=>by rw[hgy];exact K9 (elem:=258) Zk Zk hlt) ?_
 refine K0.ask (Kd 258 ⟨gy,k*5,none⟩) (.agg (M0 e).toArray) Zk (fun w1 hw h=>Ka (vs:=M0 e) Zk Zk (elY h.1 he)) ?_
 refine ZS 5 ?_
 refine K0.run Zk (stop:=1000) 1 _ ?_
 refine ZS 5 ?_
 refine K0.slot 8 (.int .i64 (IntKind.i64.wrap (m+e.2.2))) (.int .i64 (m+e.2.2)) Zk (by rw[IntWalk.i64_in _ Zo]) ?_
 have hdr:(M.map (·.2)).drop k=e.2::(M.map (·.2)).drop (k+1):=Nn (by rw[List.getElem?_map,he];rfl)
 by_cases hl2:k+1<M.length
 case neg=>
  have hd2:(M.map (·.2)).drop (k+1)=[]:=List.drop_of_length_le Zp
  refine ZT 30 (.bool (decide (IntKind.i64.wrap ((k:Int)+1)<(M.length:Int)))) (.bool false) (by rw[IntWalk.i64_in _ Zo,decide_eq_false Zo]) ?_
  refine ZI false ?_
  refine K0.slot 17 (.int .i64 (IntKind.i64.wrap ((k:Int)+1))) (.int .i64 ((k+1:Nat):Int)) Zk (by rw[K7 hlt Zo]) ?_
  refine K0.next (⟨((k+1,m+e.2.2),z,os),⟨⟨hlt,by show os.length≤k+1;omega⟩,by show -((k+1:Nat):Int)≤m+e.2.2;omega,by show m+e.2.2≤((k+1:Nat):Int);omega⟩,by show os.map (·.2)++M3 rule (m+e.2.2) ((M.map (·.2)).drop (k+1))=M3 rule 0 (M.map (·.2));rw[←hos,hdr,hd2];rfl,hfs,hzm⟩) Zk (by show M.length- (k+1)<M.length-k;omega) ⟨Zk,Zk,Zk⟩ (fun _ h=>h)
 obtain⟨e2,he2⟩:∃e2,M[k+1]? =some e2:=⟨_,List.getElem?_eq_getElem hl2⟩
 have hem2:=List.mem_of_getElem? he2
 have hstep:M3 rule m ((M.map (·.2)).drop k)=(if Bq rule (m+e.2.2)then [(e.2.1,e2.2.1)]else [])++M3 rule (m+e.2.2) ((M.map (·.2)).drop (k+1)):=by
  have hd2:(M.map (·.2)).drop (k+1)=e2.2::(M.map (·.2)).drop (k+1+1):=Nn (by rw[List.getElem?_map,he2];rfl)
  rw[hdr,hd2];rfl
 rw[hstep]at hos
 refine ZT 30 (.bool (decide (IntKind.i64.wrap ((k:Int)+1)<(M.length:Int)))) (.bool true) (by rw[IntWalk.i64_in _ Zo,decide_eq_true Zo]) ?_
 cases hfb:Bq rule (m+e.2.2)
 ·
  refine ZC (fun w1 hw h=>fills_m (n:=m+e.2.2) hr ⟨by omega,by omega⟩) fun fb=> ?_
  refine ZJ (Bq rule (m+e.2.2)) false (hfb) ?_
  refine K0.slot 17 (.int .i64 (IntKind.i64.wrap ((k:Int)+1))) (.int .i64 ((k+1:Nat):Int)) Zk (by rw[K7 hlt Zo]) ?_
  refine K0.next (⟨((k+1,m+e.2.2),z,os),⟨⟨hlt,by show os.length≤k+1;omega⟩,by show -((k+1:Nat):Int)≤m+e.2.2;omega,by show m+e.2.2≤((k+1:Nat):Int);omega⟩,by show os.map (·.2)++M3 rule (m+e.2.2) ((M.map (·.2)).drop (k+1))=M3 rule 0 (M.map (·.2));rw[←hos,hfb];rfl,hfs,hzm⟩) Zk (by show M.length- (k+1)<M.length-k;omega) ⟨Zk,Zk,Zk⟩ (fun _ h=>h.1)
 refine ZC (fun w1 hw h=>fills_m (n:=m+e.2.2) hr ⟨by omega,by omega⟩) fun fb=> ?_
 refine ZJ (Bq rule (m+e.2.2)) true (hfb) ?_
 refine K0.slot 41 (.int .i64 (IntKind.i64.wrap ((k:Int)+1))) (.int .i64 ((k+1:Nat):Int)) Zk (by rw[K7 hlt Zo]) ?_
 refine K0.askAt 6 (Kc 255 (.slice y.1 M.length y.2) ((k+1:Nat):Int)) (.pointer (some ⟨gy,(k+1)*5,none⟩)) Zk (fun w1 hw h=>by rw[hgy];exact K9 (elem:=258) Zk Zk hl2) ?_
 refine ZS 7 ?_
 refine K0.askAt 7 (Zw 258 ⟨gy,(k+1)*5,none⟩ 0) (.pointer (some ⟨gy,(k+1)*5,none⟩)) Zk (fun w1 hw h=>R6 (d:=0) Zk) ?_
 refine ZS 7 ?_
 refine ZB 8 (Kd 26 ⟨gy,(k+1)*5,none⟩) (e2.1.val) (fun w1 hw h=>Ka (vs:=e2.1.cl) Zk Zk (mark_x (elY h.1.1 he2))) ?_
 refine K0.make (M5 (171) 1 #[(0,.agg (L7 (((e.1,e2.1),(e.2.1,e2.2.1)):Nv)).toArray)]) (Km 1) (Kv 254 (L7 (((e.1,e2.1),(e.2.1,e2.2.1)):Nv)).toArray) Zk (fun w1 hw h=>Ke Zk) (fun gb=> ?_)
 refine ZS 11 ?_
 refine K0.mutAnyB (L:=bl z.1) (val:=fun z':Option Addr×Nat=> .slice z'.1 (os.length+1) z'.2) (Φ':=fun z' u=>M7 258 5 M0 U2 w.heap.size (K+10) y M u∧K6 u w.heap.size 254 8 z'.1 (os.length+1) z'.2 ((os++ [((e.1,e2.1),(e.2.1,e2.2.1))]).flatMap L7)∧Un U2 z'.1 M) (G:=fun z' v=>K6 v w.heap.size 254 8 z'.1 (os.length+1) z'.2 ((os++ [((e.1,e2.1),(e.2.1,e2.2.1))]).flatMap L7)∧Un U2 z'.1 M) (Nc 171 171 (.slice z.1 os.length z.2) (Km 1 gb)) (fun w1 hw h=>app_in h.1.1.2 h.1.1.1.num hzm hw.size h.2 Zo) (fun u h=>h.1.1.2.blk) (fun z' wa u e1 e2 h hG=>⟨h.1.1.1.left (Oq h.1.1.1.own h.1.1.2 Zd) (fun q hq x hx b hb hc=>hzm q hq x hx b hc hb) e1 e2,hG⟩) Zk Zk (fun z'=> ?_)
 refine ZR ?_
 refine K0.pure_ (p:=Un U2 z'.1 M) (fun u hu h=>h.2.2) Zk (fun hz2=> ?_)
 have hl3:(os++ [(((e.1,e2.1),(e.2.1,e2.2.1)):Nv)]).length=os.length+1:=by rw[List.length_append];rfl
 refine K0.slot 7 (.slice z'.1 (os.length+1) z'.2) (.slice z'.1 (os++ [(((e.1,e2.1),(e.2.1,e2.2.1)):Nv)]).length z'.2) Zk (by rw[hl3]) ?_
 refine K0.slot 17 (.int .i64 (IntKind.i64.wrap ((k:Int)+1))) (.int .i64 ((k+1:Nat):Int)) Zk (by rw[K7 hlt Zo]) ?_
 refine K0.next (⟨((k+1,m+e.2.2),z',os++ [((e.1,e2.1),(e.2.1,e2.2.1))]),⟨⟨hlt,by show(os++ [(((e.1,e2.1),(e.2.1,e2.2.1)):Nv)]).length≤k+1;omega⟩,by show -((k+1:Nat):Int)≤m+e.2.2;omega,by show m+e.2.2≤((k+1:Nat):Int);omega⟩,by show(os++ [(((e.1,e2.1),(e.2.1,e2.2.1)):Nv)]).map (·.2)++M3 rule (m+e.2.2) ((M.map (·.2)).drop (k+1))=M3 rule 0 (M.map (·.2));rw[←hos,hfb];simp,hfs.snoc hem hem2,hz2⟩) Zk (by show M.length- (k+1)<M.length-k;omega) ⟨Zk,Zk,Zk⟩ (fun u h=>⟨h.1,by show K6 u w.heap.size 254 8 z'.1 (os++ [(((e.1,e2.1),(e.2.1,e2.2.1)):Nv)]).length z'.2 ((os++ [(((e.1,e2.1),(e.2.1,e2.2.1)):Nv)]).flatMap L7);rw[hl3];exact h.2.1⟩)
end
theorem K8.storeN{P:Program}{t:TypeId}{w:World}{g j:Nat}{cs:List Value}{v:Value}(h:K8 w g cs)(hn:N8 P t=some v.cells.toList.length)(hj:j+v.cells.toList.length≤cs.length)(h1:∀u∈v.cells.toList,u.oneCell'=true):
 ∃w',(Rm t ⟨g,j,none⟩ v).run P w= .ok .skip w'∧Ga [g] w w'∧∀w'',w'.heap.size≤w''.heap.size→(∀b∈[g],w''.heap[b]? =w'.heap[b]?)→K8 w'' g (cs.take j++v.cells.toList++cs.drop (j+v.cells.toList.length)):=by
 obtain⟨ty,h⟩:=h
 have hst:=run_storeCells_at P g j ty v.cells.toList 0 cs.toArray w h (by simp at hj ⊢;omega) h1
 have hsz:v.cells.size=v.cells.toList.length:=by simp
 have hnew:((cs.toArray.toList.take (j+0)++v.cells.toList++cs.toArray.toList.drop (j+0+v.cells.toList.length)).toArray)=(cs.take j++v.cells.toList++cs.drop (j+v.cells.toList.length)).toArray:=rfl
 rw[hnew]at hst
 refine⟨w.setRow g (cs.take j++v.cells.toList++cs.drop (j+v.cells.toList.length)).toArray,?_,⟨rfl,rfl,rfl,by rw[O5];exact Nat.le_refl _,fun k _ hk=>Nj _ _ _ _ (by simpa using hk)⟩,fun w'' k1 k2=>⟨ty,?_⟩⟩
 ·simp only[Rm,Instr.storeAt,Instr.sureAddr,storeVar,Sem.run_bind,Sem.run_pure,Result.andThen_ok,Lf hn]
  rw[if_neg Zs]
  simp only[hst,Sem.run_pure,Sem.run_bind,Result.andThen_ok]
 ·rw[k2 g Zs]
  simp only[World.setRow,Array.getElem?_modify,if_true,h,Option.map_some]
theorem K8.load1{P:Program}{u:World}{g:Nat}{t:TypeId}{v:Value}(h:K8 u g [v])(ht:Ob P t=some false):(Kd t ⟨g,0,none⟩).run P u= .ok (.value v) u:=by
 exact Kg ht (h.range 0 v rfl)
theorem bel_of{W w u:World}(hW:Below W.heap.size W w)(hu:Below W.heap.size W u)(h:w.heap.size≤u.heap.size∧∀b,W.heap.size≤b→b<w.heap.size→u.heap[b]? =w.heap[b]?):Below w.heap.size w u:=
 ⟨hu.os.trans hW.os.symm,hu.tape.trans hW.tape.symm,hu.output.trans hW.output.symm,h.1,fun b hb=>by
  rcases Nat.lt_or_ge b W.heap.size with h3|h3
  ·rw[hu.block b h3,hW.block b h3]
  ·exact h.2 b h3 hb⟩
theorem K8.bel{w u:World}{g:Nat}{cs:List Value}(h:K8 w g cs)(hb:Below w.heap.size w u):K8 u g cs:=h.toW (hb.block g h.ltW)
section
variable{w W u:World}{A:Option Addr}{n c:Nat}{H:List LP}{rule:Int}
theorem band_m{gl gr gf gt gs Ks:Nat}{lo hi fr te sm:RV}{p q t:Rat}{x0 x1:Int}(hW:Below W.heap.size W w)(hgs:W.heap.size≤gs)(b1:K8 w gl [.slice A n c])(b2:K8 w gr [.int .i64 rule])(b3:K8 w gf fr.cl)(b4:K8 w gt te.cl)(b5:K8 w gs sm.cl)
 (hp:Np w A n H) (hn:n≤1000000) (hv:vL 0 (K4 H)=true) (hV:(K4 H).flatten.length≤192) (hr:rule=1∨rule=2) (hlo:Ox lo p 7 w) (hhi:Ox hi q 7 w) (hf:Ox fr (x0:Rat) 2 w) (ht:Ox te (x1:Rat) 2 w) (hs:Ox sm t Ks w) (hK:2≤Ks∧Ks≤4000000000):
 Calls Tryz.prog 96 #[lo.val,hi.val,Ku gl,Ku gr,Ku gf,Ku gt,Ku gs] w (Ky w [gs] (fun _:RV=> .tuple #[]) fun r u=>K8 u gs r.cl∧Kh r (t+Bg (Qb (K4 H) rule ((p+q)/2)) x0 x1*(q-p)) (Ks+10016) u):=by
 have hbl:∀{u:World},Below W.heap.size W u→(w.heap.size≤u.heap.size∧∀b,W.heap.size≤b→b<w.heap.size→u.heap[b]? =w.heap[b]?)→Below w.heap.size w u:=fun hu h=>bel_of hW hu h
 refine K0.enterW Tryz.func96 rfl hW ?_
 refine ZR ?_
 refine ZB 0 (Kd 57 ⟨gl,0,none⟩) (.slice A n c) (fun w1 hw h=>(b1.bel (hbl hw h)).load1 Zk) ?_
 refine ZB 1 (Kd 3 ⟨gr,0,none⟩) (.int .i64 rule) (fun w1 hw h=>(b2.bel (hbl hw h)).load1 Zk) ?_
 refine ZB 6 (Kd 26 ⟨gf,0,none⟩) (fr.val) (fun w1 hw h=>Ka (vs:=fr.cl) Zk Zk (b3.bel (hbl hw h)).range) ?_
 refine ZB 7 (Kd 26 ⟨gt,0,none⟩) (te.val) (fun w1 hw h=>Ka (vs:=te.cl) Zk Zk (b4.bel (hbl hw h)).range) ?_
 refine ZC (fun w1 hw h=>qmid_m (hlo.below (hbl hw h)) (hhi.below (hbl hw h)) ⟨by decide,by decide,by decide⟩) fun mid=> ?_
 refine ZC (fun w1 hw h=>(spans_m (c:=c) (yR:=mid) (yq:=(p+q)/2) (K:=15) (rule:=rule) (hp.below (hbl hw h.1)) hn hv hr h.2.q ⟨by decide,by decide⟩).mono fun e w' k=>k.cast (G':=fun r u=>M7 254 8 L7 Q7 w.heap.size 25 r.1 r.2.1 u) fun r u h2=>h2.mono h.1.1) fun sp=> ?_
 refine ZC (fun w1 hw h=>length_m (c:=sp.1.2) (Z:=sp.2.1) (K:=25) (h.2.rows Lu) (fun z hz=>⟨(h.2.num z hz (z.1.1,z.2.1) (by simp[Q7])).q,(h.2.num z hz (z.1.2,z.2.2) (by simp[Q7])).q⟩) ((hf.below (hbl hw h.1.1)).mono Zd) ((ht.below (hbl hw h.1.1)).mono Zd) (by have:=sp.2.2.2;omega) ⟨by decide,by decide⟩) fun ln=> ?_
 have hln:2+sp.2.1.length*(2*25+2)≤10000:=by have:=sp.2.2.2;omega
 refine ZB 0 (Kd 26 ⟨gs,0,none⟩) (sm.val) (fun w1 hw h=>Ka (vs:=sm.cl) Zk Zk (b5.bel (hbl hw h.1.1.1)).range) ?_
 refine ZC (fun w1 hw h=>J0 (hhi.below (hbl hw h.1.1.1)) (hlo.below (hbl hw h.1.1.1)) ⟨by decide,by decide,by decide⟩) fun df=> ?_
 refine ZC (fun w1 hw h=>V5 (h.1.2.mono hln).q h.2.q ⟨by decide,by decide,by decide⟩) fun ml=> ?_
 refine ZC (fun w1 hw h=>(Sx (hs.below (hbl hw h.1.1.1.1.1)) h.2.q ⟨hK.1,by decide,by omega⟩).mono fun e w' k=>K3.apt (R:=fun r=>∀b∈Ln r,w.heap.size≤b) k (fun r=>Ln r) (fun r u k=>k.blk) (fun r hr b hb=>Nat.le_trans h.1.1.1.1.1.1 (hr b hb))) fun r=> ?_
 have hval:t+Bg (sp.2.1.map (·.2)) x0 x1*(q-p)=t+Bg (Qb (K4 H) rule ((p+q)/2)) x0 x1*(q-p):=by rw[sp.2.2.1]
 rw[hval]
 have hgl:gs<w.heap.size:=b5.ltW
 refine K0.mutStB (L:=[gs]) (G:=fun u=>K8 u gs r.cl) (Φ':=fun u=>Kn W w gs u∧K8 u gs r.cl∧Kh r (t+Bg (Qb (K4 H) rule ((p+q)/2)) x0 x1*(q-p)) (Ks+(10000+(7+7+1))+1) u∧∀b∈Ln r,w.heap.size≤b) (Rm 26 ⟨gs,0,none⟩ r.val) (fun w1 hw h=>by
  have h3:=(b5.bel (hbl hw h.1.1.1.1.1.1)).storeN (P:=Tryz.prog) (t:=26) (v:=r.val) (j:=0) Zk (by show 0+4≤4;omega) (fun v hv=>by have hv:v∈r.cl:=hv;simp[RV.cl]at hv;rcases hv with rfl|rfl|rfl|rfl<;>rfl)
  exact h3) (fun u h b hb=>by have hb:=List.mem_singleton.1 hb;subst hb;exact⟨hgs,by have:=h.1.1.1.1.1.1;obtain⟨ty,h2⟩:=b5;exact⟨_,_,_,(this.2 _ hgs hgl).trans h2⟩⟩) (fun wa u e1 e2 h hG=>⟨⟨by rw[←e1];exact h.1.1.1.1.1.1.1,fun b k1 k2 k3=>(e2 b (by simpa using k3)).symm.trans (h.1.1.1.1.1.1.2 b k1 k2)⟩,hG,h.2.1.leftL e1 e2 (fun b hb hc=>by have h1:=h.2.2 b hb;have hc:=List.mem_singleton.1 hc;omega),h.2.2⟩) Zk Zk ?_
 refine ZR ?_
 refine ZV (.tuple #[]) (fun w1 hw h=>⟨r,rfl,(h w1 (Nat.le_refl _) fun _ _ _=>rfl).1.chg hW hw,fun u k1 k2=>(fun h0=>⟨h0.2.1.toW (k2 gs (.inl Zs)),h0.2.2.1.same k1 fun b hb=>k2 b (.inr ⟨h0.2.2.2 b hb,Nz h0.2.2.1 b hb⟩)⟩) (h w1 (Nat.le_refl _) fun _ _ _=>rfl)⟩)
end
theorem expKey{Δ:List Deferred}{W:World}{Φ:World→Prop}{σ:AS}{β:Nat→Nat}{a:Act}{w:World}{k:Nat}{vs:List Value}(hids:(σ.tmps.all fun x=>(Cu k 0 x).ids.all fun i=>(Zy k σ.box i).isSome)=true)(hb:σ.box k=some (vs.map .v))(hwf:σ.wf)(hr:O7 Δ W β σ Φ a w):
 W.heap.size≤β k∧(AS.mk (σ.tmps.map (Cu k (β k))) (Zy k σ.box)).wf∧O7 Δ W β (AS.mk (σ.tmps.map (Cu k (β k))) (Zy k σ.box)) (fun u=>Φ u∧K8 u (β k) vs) a w:=by
 obtain⟨h1,ty,h2⟩:=hr.box k _ hb
 refine⟨h1,⟨fun x hx i hi=> ?_,fun j cs hj x hx i hi=> ?_⟩,⟨?_,hr.defers,hr.bel,fun j cs hj=>hr.box j cs (M6 hj).1,fun j j' hj hj' e=> ?_,fun w' hw=> ?_⟩⟩
 ·obtain⟨y,hy,rfl⟩:=List.mem_map.1 hx
  rw[expV_ids]at hi
  exact List.all_eq_true.1 (List.all_eq_true.1 hids y hy) i hi
 ·have:=List.all_eq_true.1 (M6 hj).2.2 x hx
  cases x<;>first|(simp[AV.ids]at hi;done)|cases this
 ·rw[hr.tmps]
  simp only[List.map_map]
  exact List.map_congr_left fun x _=>(Hq x).symm
 ·obtain⟨cs,hcs⟩:=Option.isSome_iff_exists.1 hj
  obtain⟨cs',hcs'⟩:=Option.isSome_iff_exists.1 hj'
  exact hr.inj j j' (by rw[(M6 hcs).1];rfl) (by rw[(M6 hcs').1];rfl) e
 ·have hne:∀j,(Zy k σ.box j).isSome=true→β k≠β j:=fun j hj e=>by
   obtain⟨cs,hcs⟩:=Option.isSome_iff_exists.1 hj
   exact(M6 hcs).2.1 (hr.inj k j (by rw[hb];rfl) (by rw[(M6 hcs).1];rfl) e).symm
  refine⟨hr.keep w' ⟨hw.size,fun b k1 k2 k3=>hw.heap b k1 k2 fun j hj=>k3 j ?_⟩,ty,?_⟩
  ·obtain⟨cs,hcs⟩:=Option.isSome_iff_exists.1 hj
   rw[(M6 hcs).1];rfl
  ·rw[hw.heap (β k) h1 (Array.getElem?_eq_some_iff.1 h2).1 fun j hj=>(hne j hj).symm,h2]
   simp[AV.conc,Function.comp_def]
section
variable{P:Program}{Δ:List Deferred}{W:World}{Q:Exit→Act→World→Prop}{Φ:World→Prop}{c:Md}
theorem K0.expose3 [Rnd](R:Nat→Prop)(hR:∀(w:World) (g:Nat),g<w.heap.size→Φ w→Φ {w with heap:=w.heap.setIfInBounds g (.pending #[] 0)}→R g)(k1 k2 k3:Nat)(v1 v2 v3:List Value)(o1:Ez k1 c=true)(b1:c.st.box k1=some (v1.map .v))(o2:∀g,Ez k2 (Rp k1 g c)=true)(b2:∀g,(Rp k1 g c).st.box k2=some (v2.map .v))(o3:∀g g',Ez k3 (Rp k2 g' (Rp k1 g c))=true)(b3:∀g g',(Rp k2 g' (Rp k1 g c)).st.box k3=some (v3.map .v))
 (h:∀g1 g2 g3,W.heap.size≤g1→W.heap.size≤g2→W.heap.size≤g3→g1≠g2→g1≠g3→g2≠g3→R g1→K0 P Δ W Q (fun u=>((Φ u∧K8 u g1 v1)∧K8 u g2 v2)∧K8 u g3 v3) (Rp k3 g3 (Rp k2 g2 (Rp k1 g1 c)))):K0 P Δ W Q Φ c:=by
 obtain⟨foc,kk,σ⟩:=c
 have hf:J7 ⟨foc,kk,σ⟩=true:=by unfold Ez at o1;exact(Bool.and_eq_true _ _▸o1).1
 have key:∀{β:Nat→Nat} {a:Act} {w:World},σ.wf→O7 Δ W β σ Φ a w→∃g1 g2 g3,W.heap.size≤g1∧W.heap.size≤g2∧W.heap.size≤g3∧g1≠g2∧g1≠g3∧g2≠g3∧R g1∧(Rp k3 g3 (Rp k2 g2 (Rp k1 g1 ⟨foc,kk,σ⟩))).st.wf∧O7 Δ W β (Rp k3 g3 (Rp k2 g2 (Rp k1 g1 ⟨foc,kk,σ⟩))).st (fun u=>((Φ u∧K8 u g1 v1)∧K8 u g2 v2)∧K8 u g3 v3) a w:=by
  intro β a w hwf hr
  unfold Ez at o1 o2 o3
  simp only[Bool.and_eq_true]at o1 o2 o3
  obtain⟨h1,wf1,r1⟩:=expKey o1.2 b1 hwf hr
  obtain⟨h2,wf2,r2⟩:=expKey (o2 (β k1)).2 (b2 (β k1)) wf1 r1
  obtain⟨h3,wf3,r3⟩:=expKey (o3 (β k1) (β k2)).2 (b3 (β k1) (β k2)) wf2 r2
  have s1:(σ.box k1).isSome=true:=by rw[show σ.box k1=_ from b1];rfl
  have hlt:β k1<w.heap.size:=by obtain⟨_,ty,h2⟩:=hr.box k1 _ b1;exact(Array.getElem?_eq_some_iff.1 h2).1
  have x2:=M6 (show Zy k1 σ.box k2=_ from b2 0)
  have x3:=M6 (show Zy k2 (Zy k1 σ.box) k3=_ from b3 0 0)
  have x4:=M6 x3.1
  have s2:(σ.box k2).isSome=true:=by rw[x2.1];rfl
  have s3:(σ.box k3).isSome=true:=by rw[x4.1];rfl
  exact⟨β k1,β k2,β k3,h1,h2,h3,fun e=>x2.2.1 (hr.inj k1 k2 s1 s2 e).symm,fun e=>x4.2.1 (hr.inj k1 k3 s1 s3 e).symm,fun e=>x3.2.1 (hr.inj k2 k3 s2 s3 e).symm,hR w (β k1) hlt hr.phi (hr.keep {w with heap:=w.heap.setIfInBounds (β k1) (.pending #[] 0)} ⟨by simp,fun b _ _ k3'=>Array.getElem?_setIfInBounds_ne (k3' k1 s1)⟩),wf3,r3⟩
 refine⟨?_⟩
 cases foc with
 |code x=>exact fun hwf β a w hr=>by obtain⟨g1,g2,g3,h1,h2,h3,h4,h5,h6,hr1,h7,h8⟩:=key hwf hr;exact(h g1 g2 g3 h1 h2 h3 h4 h5 h6 hr1).get h7 β a w h8
 |ops o l=>exact fun hwf β a w hr=>by obtain⟨g1,g2,g3,h1,h2,h3,h4,h5,h6,hr1,h7,h8⟩:=key hwf hr;exact(h g1 g2 g3 h1 h2 h3 h4 h5 h6 hr1).get h7 β a w h8
 |any o f l=>cases hf
 |out e=>exact fun hwf β a w hr=>by obtain⟨g1,g2,g3,h1,h2,h3,h4,h5,h6,hr1,h7,h8⟩:=key hwf hr;exact(h g1 g2 g3 h1 h2 h3 h4 h5 h6 hr1).get h7 β a w h8
end
theorem pend_no{u:World}{g:Nat}{r:RV}{q:Rat}{K:Nat}(hg:g<u.heap.size)(h:Kh r q K {u with heap:=u.heap.setIfInBounds g (.pending #[] 0)}):g∉Ln r:=fun hm=>by
 obtain⟨_,_,_,hh⟩:=h.blk g hm
 rw[Array.getElem?_setIfInBounds_self_of_lt hg]at hh
 cases hh
theorem On(a:Addr)(m:Nat):(a.add m).block=a.block:=by
 cases a;unfold Addr.add;split<;>rfl
theorem Kq.left{α:Type}{wa u:World}{A:Option Addr}{n s:Nat}{cl:α→List Value}{l:List α}{L:List Nat}(h:Kq wa A n s cl l)(h1:∀b∈bl A,b∉L)(e2:∀b,b∉L→wa.heap[b]? =u.heap[b]?):Kq u A n s cl l:=⟨h.1,fun k x hk=>by
 obtain⟨ad,h3,h4⟩:=h.2 k x hk
 refine⟨ad,h3,fun j v hj=>(World.cell?_of_block ?_).trans (h4 j v hj)⟩
 rw[On,On]
 exact(e2 _ (h1 _ (by rw[h3];simp[bl]))).symm⟩
theorem insR_len(x:Rat):∀l:List Rat,(Ct x l).length≤l.length+1
 | []=>by simp[Ct]
 | y::l=>by
  unfold Ct
  split
  ·simp
  ·split
   ·simp
   ·have:=insR_len x l;simp;omega
theorem sortR_len(l:List Rat):(Xx l).length≤l.length:=by
 unfold Xx
 induction l with
 |nil=>simp
 |cons x l ih=>have:=insR_len x (l.foldr Ct []);simp only[List.foldr_cons,List.length_cons];omega
theorem event_len{L:List (List Pt)}{a b:Pt}(hV:L.flatten.length≤192):(Zz L a b).length≤37500:=by
 have h1:=sortR_len (Ec L a b)
 have h2:=B9 a.1 b.1 [] (Kj L)
 have h3:=Qv L
 have h4:(Kj L).length*(2+0+(Kj L).length)≤192*(2+0+192):=Nat.mul_le_mul Zo Zo
 simp only[List.length_nil]at h2
 have h5:(Ec L a b).length≤2+((L.flatten.map fun p=>(p.2:Rat))++Sf a.1 b.1 [] (Kj L)).length:=by
  unfold Ec
  simp only[List.length_cons]
  have:=List.length_filter_le (fun y=>decide ((a.2:Rat)<y)&&decide (y<(b.2:Rat))) ((L.flatten.map fun p=>(p.2:Rat))++Sf a.1 b.1 [] (Kj L))
  omega
 rw[List.length_append,List.length_map]at h5
 unfold Zz
 omega
section
variable{w u:World}{A:Option Addr}{n c:Nat}{H:List LP}{rule x y:Int}{a b:Pt}{B:Bool}
theorem afits_m{e:Int}(hp:Np w A n H)(hn:n≤1000000)(hl:∀x∈H,x.1.length≤1000000)(he:e=if vL 0 (K4 H)=false then 12 else if rule=1∨rule=2 then 0 else 2):
 Calls Tryz.prog 95 #[.slice A n c,.int .i64 rule] w (K3 w (fun _:Unit=> .int .i64 e) fun _ _=>True):=by
 subst he
 cases hv:vL 0 (K4 H)
 ·
  refine K0.enter Tryz.func95 rfl ?_
  refine ZR ?_
  refine ZC (fun w1 hw h=>Pg (c:=c) (hp.below hw) hn hl hv) fun v=> ?_
  refine ZI true ?_
  exact ZW (.int .i64 12)
 by_cases h1:rule=1
 ·subst h1
  refine K0.enter Tryz.func95 rfl ?_
  refine ZR ?_
  refine ZC (fun w1 hw h=>Pg (c:=c) (hp.below hw) hn hl hv) fun v=> ?_
  refine ZI false ?_
  refine ZI false ?_
  exact ZW (.int .i64 0)
 by_cases h2:rule=2
 ·subst h2
  refine K0.enter Tryz.func95 rfl ?_
  refine ZR ?_
  refine ZC (fun w1 hw h=>Pg (c:=c) (hp.below hw) hn hl hv) fun v=> ?_
  refine ZI false ?_
  refine ZI false ?_
  exact ZW (.int .i64 0)
 refine K0.enter Tryz.func95 rfl ?_
 refine ZR ?_
 refine ZC (fun w1 hw h=>Pg (c:=c) (hp.below hw) hn hl hv) fun v=> ?_
 refine K0.cond false Zk ?_
 refine ZS 2 ?_
 refine ZT 11 (.bool (rule !=1)) (.bool true) (by simp[h1]) ?_
 refine ZJ ((rule !=2)) true (by simp[h2]) ?_
 exact ZX (.int .i64 2) (by simp[h1,h2])
theorem inbox_no(hp:Np w A n H)(hn:n≤1000000)(hl:∀x∈H,x.1.length≤1000000)(hv:vL 0 (K4 H)=false):Calls Tryz.prog 54 #[.slice A n c,.int .i64 rule,Ls a,Ls b] w (K3 w (fun _:Unit=> .tuple #[Oc.val,.int .i64 12]) fun _ _=>True):=by
 refine K0.enter Tryz.func54 rfl ?_
 refine ZR ?_
 refine ZC (fun w1 hw h=>afits_m (e:=12) (rule:=rule) (c:=c) (hp.below hw) hn hl (by rw[hv];rfl)) fun e=> ?_
 refine ZI true ?_
 exact ZW (.tuple #[Oc.val,.int .i64 12])
theorem K8.neL{u:World}{g g2:Nat}{cs cs2:List Value}(h:K8 u g cs)(h2:K8 u g2 cs2)(hl:cs.length≠cs2.length):g≠g2:=fun e=>by
 obtain⟨t,h⟩:=h
 obtain⟨t2,h2⟩:=h2
 subst e
 have h3:(some (Obj.cells cs.toArray t (0,0)):Option Obj)=some (Obj.cells cs2.toArray t2 (0,0)):=h.symm.trans h2
 injection h3 with h3
 injection h3 with h3
 exact hl (by have:=congrArg Array.size h3;simpa using this)
def EvL(q:(Option Addr×Nat)×List RQ):List Nat:=(if q.2=[]then []else bl q.1.1)++q.2.flatMap fun r=>Ln r.1
theorem evl_ok{q:(Option Addr×Nat)×List RQ}(h:Kq u q.1.1 q.2.length 4 Nx q.2∧∀r∈q.2,Kh r.1 r.2 7 u):∀b∈EvL q,∃cs ty own,u.heap[b]? =some (.cells cs ty own):=fun b hb=>by
 unfold EvL at hb
 rcases List.mem_append.1 hb with hb|hb
 ·split at hb
  ·cases hb
  ·rename_i h0
   obtain⟨x,l,hl⟩:=List.exists_cons_of_ne_nil h0
   obtain⟨ad,h1,h2⟩:=h.1.2 0 x (by rw[hl];rfl)
   have h3:=T4 (h2 0 (.bool x.1.a.s) rfl)
   rw[On,On]at h3
   rw[h1]at hb
   simp only[bl,List.mem_singleton]at hb
   rw[hb];exact h3
 ·obtain⟨r,hr,hb⟩:=List.mem_flatMap.1 hb
  exact(h.2 r hr).blk b hb
structure IB(A:Option Addr)(n c:Nat)(rule:Int)(gl gr gf gt gs:Nat)(fr te:RV)(x0 x1:Int)(yA:Option Addr)(hs:List RQ)(u:World):Prop where
 b1:K8 u gl [.slice A n c]
 b2:K8 u gr [.int .i64 rule]
 b3:K8 u gf fr.cl
 b4:K8 u gt te.cl
 qf:Kh fr (x0:Rat) 2 u
 qt:Kh te (x1:Rat) 2 u
 row:Kq u yA hs.length 4 Nx hs
 num:∀r∈hs,Kh r.1 r.2 7 u
theorem IB.left{gl gr gf gt gs:Nat}{fr te:RV}{x0 x1:Int}{yA:Option Addr}{hs:List RQ}{wa u:World}(h:IB A n c rule gl gr gf gt gs fr te x0 x1 yA hs wa)(h1:gl≠gs∧gr≠gs∧gf≠gs∧gt≠gs)(h2:gs∉Ln fr∧gs∉Ln te)(h3:hs≠[]→gs∉bl yA)(h4:∀r∈hs,gs∉Ln r.1)(e1:wa.heap.size=u.heap.size)(e2:∀b,b∉[gs]→wa.heap[b]? =u.heap[b]?):IB A n c rule gl gr gf gt gs fr te x0 x1 yA hs u:=by
 have e3:∀b,b≠gs→u.heap[b]? =wa.heap[b]? :=fun b hb=>(e2 b (by simpa using hb)).symm
 refine⟨h.b1.toW (e3 _ h1.1),h.b2.toW (e3 _ h1.2.1),h.b3.toW (e3 _ h1.2.2.1),h.b4.toW (e3 _ h1.2.2.2),h.qf.leftL e1 e2 (fun b hb hc=>h2.1 (List.mem_singleton.1 hc▸hb)),h.qt.leftL e1 e2 (fun b hb hc=>h2.2 (List.mem_singleton.1 hc▸hb)),?_,fun r hr=>(h.num r hr).leftL e1 e2 (fun b hb hc=>h4 r hr (List.mem_singleton.1 hc▸hb))⟩
 by_cases h0:hs=[]
 ·subst h0;exact⟨rfl,fun k x hk=>by simp at hk⟩
 ·exact h.row.left (L:=[gs]) (fun b hb hc=>h3 h0 (by rw[←List.mem_singleton.1 hc];exact hb)) e2
theorem inbox_m(hp:Np w A n H)(hn:n≤1000000)(hv:vL 0 (K4 H)=true)(hV:(K4 H).flatten.length≤192)(hr:rule=1∨rule=2)(ha:vP a=true)(hb:vP b=true)(hx:a.1<b.1)(hy:a.2<b.2):
 Calls Tryz.prog 54 #[.slice A n c,.int .i64 rule,Ls a,Ls b] w (K3 w (fun r:RV=> .tuple #[r.val,.int .i64 0]) fun r u=>Kh r (Vy (K4 H) rule a b) 400000000 u):=by
 have hva:=Ni ha
 have hvb:=Ni hb
 have hl:∀x∈H,x.1.length≤1000000:=fun x hx=>by
  have:x.1.length≤(K4 H).flatten.length:=List.Sublist.length_le (List.sublist_flatten_of_mem (List.mem_map_of_mem hx))
  omega
 refine K0.enter Tryz.func54 rfl ?_
 refine ZR ?_
 refine ZC (fun w1 hw h=>afits_m (e:=0) (rule:=rule) (c:=c) (hp.below hw) hn hl (by rw[hv];simp[hr])) fun e=> ?_
 refine ZI false ?_
 refine ZC (fun w1 hw h=>Nh (X:=a.1) (Y:=a.2) (B:=true) ha) fun v1=> ?_
 refine ZC (fun w1 hw h=>Nh (X:=b.1) (Y:=b.2) (B:=true) hb) fun v2=> ?_
 refine ZI false ?_
 refine ZC (fun w1 hw h=>Ki 0 w1 Zd Zd) fun s0=> ?_
 refine ZJ (decide (b.1≤a.1)) false (decide_eq_false Zo) ?_
 refine ZC (fun w1 hw h=>Ki a.1 w1 Zo Zo) fun fr=> ?_
 refine ZD 0 (fun w1 hw h=>Ki b.1 w1 Zo Zo) fun te=> ?_
 refine K0.run Zk (stop:=1000) 2 _ ?_
 refine K0.expose 4 [.slice A n c] Zk Zk (fun gl hgl=> ?_)
 refine K0.expose 5 [.int .i64 rule] Zk Zk (fun gr hgr=> ?_)
 refine K0.expose3 (fun g=>g∉Ln fr∧g∉Ln te) (fun u g hg h h2=>⟨pend_no hg h2.1.1.1.2,pend_no hg h2.1.1.2⟩) 11 12 13 s0.cl fr.cl te.cl Zk Zk (fun _=>by kernel_rfl) (fun _=>by kernel_rfl) (fun _ _=>by kernel_rfl) (fun _ _=>by kernel_rfl) (fun gs gf gt hgs hgf hgt n1 n2 _ hmu=> ?_)
 refine K0.weak (Φ':=fun u=>(K8 u gl [.slice A n c]∧K8 u gr [.int .i64 rule]∧K8 u gf fr.cl∧K8 u gt te.cl∧Kh fr (a.1:Rat) 2 u∧Kh te (b.1:Rat) 2 u)∧K8 u gs s0.cl∧Kh s0 0 2 u) Zk (fun u h=>⟨⟨h.1.1.1.1.2,h.1.1.1.2,h.1.2,h.2,h.1.1.1.1.1.1.2,h.1.1.1.1.1.2⟩,h.1.1.2,h.1.1.1.1.1.1.1.2⟩) ?_
 refine K0.pure_ (p:=gl≠gs∧gr≠gs) (fun u hu h=>⟨h.1.1.neL h.2.1 (by simp[RV.cl]),h.1.2.1.neL h.2.1 (by simp[RV.cl])⟩) Zk (fun hne=> ?_)
 refine ZR ?_
 refine ZA (Kd 57 ⟨gl,0,none⟩) (.slice A n c) (fun w1 hw h=>h.1.1.load1 Zk) ?_
 refine ZC (fun w1 hw h=>(eventYs_m (c:=c) (hp.below hw) hn hv ha hb hy).mono fun e w' k=>K3.apt (R:=fun q=>∀b∈EvL (q.1,q.2.1),b≠gs) k (fun q=>EvL (q.1,q.2.1)) (fun q u h=>evl_ok h) (fun q hq b hb e=>by have h1:=hq b hb;have h2:=h.2.1.ltW;omega)) fun ev=> ?_
 obtain⟨yq,⟨hs,hhs⟩⟩:=ev
 have hlen:hs.length≤37500:=by
  have h1:=event_len (L:=K4 H) (a:=a) (b:=b) hV
  rw[←hhs,List.length_map]at h1;exact h1
 refine K0.pure_ (p:=∀b∈EvL (yq,hs),b≠gs) (fun u hu h=>h.2.2) Zk (fun hap=> ?_)
 have hap1:hs≠[]→gs∉bl yq.1:=fun h0 hc=>hap gs (by unfold EvL;rw[if_neg h0];exact List.mem_append.2 (.inl hc)) rfl
 have hap2:∀r∈hs,gs∉Ln r.1:=fun r hr hc=>hap gs (by unfold EvL;exact List.mem_append.2 (.inr (List.mem_flatMap.2 ⟨r,hr,hc⟩))) rfl
 refine K0.loop (ι:={q:Nat×RV×Rat // q.1≤hs.length∧Vx (K4 H) rule a b q.2.2 ((hs.map (·.2)).drop q.1)=Vy (K4 H) rule a b}) 70 (fun q=>⟨[(8,.p 8 0),(11,.v (Ku gs)),(14,.v (.func (.func 96) #[] #[Ku gl,Ku gr,Ku gf,Ku gt,Ku gs])),(15,.v (.slice yq.1 hs.length yq.2)),(16,.v (.int .i64 (q.1.1:Int)))],[(8,Oc.cl.map .v)]⟩) (fun q u=>IB A n c rule gl gr gf gt gs fr te a.1 b.1 yq.1 hs u∧K8 u gs q.1.2.1.cl∧Kh q.1.2.1 q.1.2.2 (2+q.1.1*10016) u) (fun q=>hs.length-q.1.1) (⟨(0,s0,0),Nat.zero_le _,by show Vx (K4 H) rule a b 0 ((hs.map (·.2)).drop 0)=_;rw[List.drop_zero,hhs];rfl⟩) Zk (fun _=>by kernel_rfl) ⟨Zk,Zk,Zk⟩ (fun u h=>⟨⟨h.1.1.1,h.1.1.2.1,h.1.1.2.2.1,h.1.1.2.2.2.1,h.1.1.2.2.2.2.1,h.1.1.2.2.2.2.2,h.2.1.1,h.2.1.2⟩,h.1.2.1,by show Kh s0 0 (2+0*10016) u;exact h.1.2.2⟩) ?_
 rintro⟨⟨i,sm,t⟩,hi,hbd⟩ gg
 have hi:i≤hs.length:=hi
 have hbd:Vx (K4 H) rule a b t ((hs.map (·.2)).drop i)=Vy (K4 H) rule a b:=hbd
 by_cases hlt:i+1<hs.length
 case neg=>
  have hval:t=Vy (K4 H) rule a b:=by
   rw[←hbd]
   have h1:((hs.map (·.2)).drop i).length≤1:=by rw[List.length_drop,List.length_map];omega
   generalize (hs.map (·.2)).drop i=l at h1
   match l,h1 with
   | [],_=>rfl
   | [_],_=>rfl
   |_::_::_,h1=>simp at h1
  subst hval
  refine ZR ?_
  refine ZJ (decide (IntKind.i64.wrap ((i:Int)+1)<(hs.length:Int))) false (by rw[IntWalk.i64_in _ Zo];exact decide_eq_false Zo) ?_
  refine K0.leave Zk ?_
  refine ZR ?_
  refine ZA (Kd 26 ⟨gs,0,none⟩) (sm.val) (fun w1 hw h=>Ka (vs:=sm.cl) Zk Zk h.2.1.range) ?_
  refine ZV (.tuple #[sm.val,.int .i64 0]) (fun w1 hw h=>⟨sm,rfl,hw,fun w'' k1 k2=>Kh.mono (show Kh sm (Vy (K4 H) rule a b) (2+i*10016) w'' from(h w'' k1 k2).2.2) Zo⟩)
 obtain⟨p,hp1⟩:∃p,hs[i]? =some p:=⟨_,List.getElem?_eq_getElem Zo⟩
 obtain⟨q,hq1⟩:∃q,hs[i+1]? =some q:=⟨_,List.getElem?_eq_getElem hlt⟩
 have hpm:=List.mem_of_getElem? hp1
 have hqm:=List.mem_of_getElem? hq1
 have hstep:Vx (K4 H) rule a b (t+Bg (Qb (K4 H) rule ((p.2+q.2)/2)) a.1 b.1*(q.2-p.2)) ((hs.map (·.2)).drop (i+1))=Vy (K4 H) rule a b:=by
  have d1:(hs.map (·.2)).drop i=p.2::(hs.map (·.2)).drop (i+1):=Nn (by rw[List.getElem?_map,hp1];rfl)
  have d2:(hs.map (·.2)).drop (i+1)=q.2::(hs.map (·.2)).drop (i+1+1):=Nn (by rw[List.getElem?_map,hq1];rfl)
  rw[d1,d2]at hbd
  rw[d2];exact hbd
 refine K0.pure_ (p:=∃ad,yq.1=some ad) (fun u hu h=>by obtain⟨ad,h1,_⟩:=h.1.row.2 i p hp1;exact⟨ad,h1⟩) Zk (fun had=> ?_)
 obtain⟨ad,had⟩:=had
 have el:∀{v:World} {j:Nat} {x:RQ},Kq v yq.1 hs.length 4 Nx hs→hs[j]? =some x→∀(k:Nat) (z:Value),(Nx x)[k]? =some z→v.cell? ((ad.add (j*4)).add k)=some z:=fun h hx=>by
  obtain⟨ad2,h1,h2⟩:=h.2 _ _ hx
  rw[had]at h1;injection h1 with h1;subst h1;exact h2
 have hi2:2+i*10016≤400000000:=by omega
 refine ZR ?_
 refine ZJ (decide (IntKind.i64.wrap ((i:Int)+1)<(hs.length:Int))) true (by rw[IntWalk.i64_in _ Zo];exact decide_eq_true Zo) ?_
 refine K0.slot 65 (.int .i64 (IntKind.i64.wrap ((i:Int)+1))) (.int .i64 ((i+1:Nat):Int)) Zk (by rw[IntWalk.i64_in _ Zo];rfl) ?_
 refine ZB 3 (Kc 97 (.slice yq.1 hs.length yq.2) i) (.pointer (some (ad.add (i*4)))) (fun w1 hw h=>by rw[had];exact Lg (elem:=26) Zk Zk Zo) ?_
 refine ZB 4 (Kd 26 (ad.add (i*4))) (p.1.val) (fun w1 hw h=>N7 (vs:=Nx p) Zk Zk (el h.1.row hp1)) ?_
 refine ZB 8 (Kc 97 (.slice yq.1 hs.length yq.2) ((i+1:Nat):Int)) (.pointer (some (ad.add ((i+1)*4)))) (fun w1 hw h=>by rw[had];exact Lg (elem:=26) Zk Zk hlt) ?_
 refine ZB 9 (Kd 26 (ad.add ((i+1)*4))) (q.1.val) (fun w1 hw h=>N7 (vs:=Nx q) Zk Zk (el h.1.row hq1)) ?_
 refine K0.mutCallAny (L:=[gs]) (val:=fun _:RV=> .tuple #[]) (G:=fun r u=>K8 u gs r.cl∧Kh r (t+Bg (Qb (K4 H) rule ((p.2+q.2)/2)) a.1 b.1*(q.2-p.2)) (2+i*10016+10016) u) (Φ':=fun r u=>IB A n c rule gl gr gf gt gs fr te a.1 b.1 yq.1 hs u∧K8 u gs r.cl∧Kh r (t+Bg (Qb (K4 H) rule ((p.2+q.2)/2)) a.1 b.1*(q.2-p.2)) (2+i*10016+10016) u) (fun w1 hw h=>band_m hw hgs h.1.b1 h.1.b2 h.1.b3 h.1.b4 h.2.1 (hp.below hw) hn hv hV hr (h.1.num p hpm).q (h.1.num q hqm).q h.1.qf.q h.1.qt.q (show Ox sm t (2+i*10016) w1 from h.2.2.q) ⟨by omega,by omega⟩) (fun u h b hb=>by have hb:=List.mem_singleton.1 hb;subst hb;obtain⟨ty,h2⟩:=h.2.1;exact⟨hgs,_,_,_,h2⟩) (fun r wa u e1 e2 h hG=>⟨h.1.left ⟨hne.1,hne.2,fun e=>n1 e.symm,fun e=>n2 e.symm⟩ hmu hap1 hap2 e1 e2,hG⟩) Zk Zk (fun r=> ?_)
 refine ZR ?_
 refine K0.slot 16 (.int .i64 (IntKind.i64.wrap ((i:Int)+1))) (.int .i64 ((i+1:Nat):Int)) Zk (by rw[IntWalk.i64_in _ Zo];rfl) ?_
 refine K0.next (⟨(i+1,r,t+Bg (Qb (K4 H) rule ((p.2+q.2)/2)) a.1 b.1*(q.2-p.2)),by show i+1≤hs.length;omega,hstep⟩) Zk (by show hs.length- (i+1)<hs.length-i;omega) ⟨Zk,Zk,Zk⟩ (fun u h=>⟨h.1,h.2.1,by show Kh r _ (2+(i+1)*10016) u;rw[Nat.add_mul,Nat.one_mul,←Nat.add_assoc];exact h.2.2⟩)
end
theorem Fj{L:List (List Pt)}{x y:Int}{lo hi:Pt}(h:∀p∈L.flatten,lo.1≤p.1∧p.1≤hi.1∧lo.2≤p.2∧p.2≤hi.2)(ho:¬((lo.1/256≤x∧x<(hi.1+255)/256)∧(lo.2/256≤y∧y<(hi.2+255)/256))):C5 L (Oh x y) (Oh (x+1) (y+1)):=by
 by_cases c1:lo.1/256≤x
 ·by_cases c2:x<(hi.1+255)/256
  ·by_cases c3:lo.2/256≤y
   ·refine .inr (.inl fun p hp=> ?_)
    have:=h p hp;show p.2≤y*256;omega
   ·refine .inl fun p hp=> ?_
    have:=h p hp;show(y+1)*256≤p.2;omega
  ·refine .inr (.inr (.inr (.inl fun p hp=> ?_)))
   have:=h p hp;show p.1≤x*256;omega
 ·refine .inr (.inr (.inl fun p hp=> ?_))
  have:=h p hp;show(x+1)*256≤p.1;omega
theorem byte0:byteOf (0/65536)=0:=by
 have:(0:Rat)/65536=0:=by rw[Rat.div_def,Rat.zero_mul]
 rw[this];unfold byteOf;rw[if_pos (Rat.le_refl)]
theorem Fb{L:List (List Pt)}{rule x y:Int}(h:C5 L (Oh x y) (Oh (x+1) (y+1))):covP L rule x y=0:=by
 unfold covP
 rw[area_zero h (by show y*256≤(y+1)*256;omega)]
 exact byte0
theorem cov_nil{rule x y:Int}:covP [] rule x y=0:=Fb (.inl fun p hp=>by simp at hp)
theorem I1(f:Rat):byteOf f<256:=by
 unfold byteOf
 split
 ·decide
 ·split
  ·decide
  ·rename_i h1 h2
   have:(f*255+1/2).floor<256:=by
    have h3:f*255+1/2<((256:Int):Rat):=by
     have:((256:Int):Rat)=256:=by rfl
     rw[this];grind
    have h4:=Rat.floor_lt_iff.2 h3
    exact h4
   omega
def drN(n:Nat):Nat:=(n+127)/255
def mulB(a b:Nat):Nat:=drN (a*b)
def dnB(n:Nat):Nat:=min (drN n) 255
theorem mulB_255(v:Nat):mulB v 255=v:=by unfold mulB drN;omega
theorem Db{n a:Nat}(h:n≤255):mulB n a≤a:=by
 have:=Nat.mul_le_mul_right a h
 unfold mulB drN;omega
theorem Ow{a b:Nat}(h:a≤255)(k:b≤255):mulB a b≤255:=Nat.le_trans (Db h) k
theorem Jn(n:Nat):dnB n≤255:=Nat.min_le_right _ _
theorem dnB_mono{m n:Nat}(h:m≤n):dnB m≤dnB n:=by unfold dnB drN;omega
structure Px where
 r:Nat
 g:Nat
 b:Nat
 a:Nat
deriving DecidableEq
structure Px.ok(p:Px):Prop where
 r:p.r≤255
 g:p.g≤255
 b:p.b≤255
 a:p.a≤255
def Px.clamp(p:Px):Px:=⟨min p.r p.a,min p.g p.a,min p.b p.a,min p.a p.a⟩
def Px.scale(p:Px)(k:Nat):Px:=⟨mulB p.r k,mulB p.g k,mulB p.b k,mulB p.a k⟩
def Px.pre(c:Px):Px:=⟨mulB c.r c.a,mulB c.g c.a,mulB c.b c.a,c.a⟩
def chanN(s sa d da:Nat):Nat:=dnB (s*(255-da)+d*(255-sa)+s*da)
def alphN(sa da:Nat):Nat:=dnB (sa*(255-da)+da*(255-sa)+sa*da)
def Px.over(s d:Px):Px:=⟨chanN s.clamp.r s.clamp.a d.clamp.r d.clamp.a,chanN s.clamp.g s.clamp.a d.clamp.g d.clamp.a,chanN s.clamp.b s.clamp.a d.clamp.b d.clamp.a,alphN s.clamp.a d.clamp.a⟩
def Px.blend(s d:Px)(k:Nat):Px:=(s.scale k).over d
theorem Px.ok.clamp{p:Px}(h:p.ok):p.clamp.ok:=⟨Nat.le_trans (Nat.min_le_left _ _) h.r,Nat.le_trans (Nat.min_le_left _ _) h.g,Nat.le_trans (Nat.min_le_left _ _) h.b,Nat.le_trans (Nat.min_le_left _ _) h.a⟩
theorem Px.ok.scale{p:Px}{k:Nat}(h:p.ok)(hk:k≤255):(p.scale k).ok:=⟨Ow h.r hk,Ow h.g hk,Ow h.b hk,Ow h.a hk⟩
theorem Px.ok.pre{p:Px}(h:p.ok):p.pre.ok:=⟨Ow h.r h.a,Ow h.g h.a,Ow h.b h.a,h.a⟩
theorem Px.over_ok(s d:Px):(s.over d).ok:=⟨Jn _,Jn _,Jn _,Jn _⟩
theorem Px.pre_clamp{p:Px}(h:p.ok):p.pre.clamp=p.pre:=by
 unfold Px.clamp Px.pre
 simp only[Nat.min_self,Nat.min_eq_left (Db h.r),Nat.min_eq_left (Db h.g),Nat.min_eq_left (Db h.b)]
theorem Ju{s sa d da:Nat}(h:s≤sa)(k:d≤da):chanN s sa d da≤alphN sa da:=
 dnB_mono (Nat.add_le_add (Nat.add_le_add (Nat.mul_le_mul_right _ h) (Nat.mul_le_mul_right _ k)) (Nat.mul_le_mul_right _ h))
theorem Px.clamp_of{p:Px}(h1:p.r≤p.a)(h2:p.g≤p.a)(h3:p.b≤p.a):p.clamp=p:=by
 unfold Px.clamp;rw[Nat.min_eq_left h1,Nat.min_eq_left h2,Nat.min_eq_left h3,Nat.min_self]
theorem Px.over_clamp(s d:Px):(s.over d).clamp=s.over d:=by
 have h1:∀p:Px,p.clamp.r≤p.clamp.a∧p.clamp.g≤p.clamp.a∧p.clamp.b≤p.clamp.a:=fun p=>by
  simp only[Px.clamp,Nat.min_self];exact⟨Nat.min_le_right _ _,Nat.min_le_right _ _,Nat.min_le_right _ _⟩
 exact Px.clamp_of (Ju (h1 s).1 (h1 d).1) (Ju (h1 s).2.1 (h1 d).2.1) (Ju (h1 s).2.2 (h1 d).2.2)
end Go.Proofs.YtpgkbllcnphmbaaGreatDoor
