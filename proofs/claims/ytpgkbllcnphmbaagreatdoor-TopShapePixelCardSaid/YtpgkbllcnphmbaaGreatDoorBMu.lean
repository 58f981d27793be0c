/-
 A part of the proof.
-/
import Derived.Test.YtpgkbllcnphmbaaGreatDoorBMs
import Derived.Test.YtpgkbllcnphmbaaGreatDoorBIx
import Derived.Test.YtpgkbllcnphmbaaGreatDoorBSd
namespace Go.Proofs.YtpgkbllcnphmbaaGreatDoor
set_option maxRecDepth 100000
set_option maxHeartbeats 8000000
set_option linter.unusedVariables false
set_option linter.unusedSimpArgs false
open Go.RowKit
def sgP(s:Sg):List Pt:=[(s.ax,s.ay),(s.bx,s.by_),(s.cx,s.cy)]
def P9(v:Int):List Pt→Sg
 | []=>⟨v,0,0,0,0,0,0⟩
 | [a]=>⟨v,a.1,a.2,0,0,0,0⟩
 | [a,b]=>⟨v,a.1,a.2,b.1,b.2,0,0⟩
 |a::b::c::_=>⟨v,a.1,a.2,b.1,b.2,c.1,c.2⟩
def Ut:List Int→Int
 | []=>0
 |e::t=>if e=0 then Ut t else e
theorem Et:∀(a b:List Int),Ut (a++b)=if Ut a=0 then Ut b else Ut a
 | [],b=>by simp[Ut]
 |e::a,b=>by
  rw[List.cons_append,Ut,Ut,Et a b]
  by_cases h:e=0
  ·rw[if_pos h,if_pos h]
  ·rw[if_neg h,if_neg h,if_neg h]
def Fv(s:Sg):List Pt:=(sgP s).take (Me s.v).toNat
def trP(T:Mi)(p:Pt):Pt:=(atX T p.1 p.2,atY T p.1 p.2)
def Pd(T:Mi)(s:Sg):Sg:=P9 s.v ((Fv s).map (trP T))
def G4(T:Mi)(l:List Pt):Int:=Ut (l.map fun p=>Fy T p.1 p.2)
def Mx(T:Mi)(l:List Sg):Int:=Ut (l.map fun s=>G4 T (Fv s))
section
variable{w u:World}{A:Option Addr}{n c N m:Nat}{l:List Pt}{ad:Addr}{s:Sg}{v:Int}
theorem Kq.take_{α:Type}{cl:α→List Value}{l:List α}{k:Nat}(h:Kq u A n k cl l)(hm:m≤n):Kq u A m k cl (l.take m):=by
 refine⟨by rw[List.length_take,h.1];omega,fun i x hk=>h.2 i x ?_⟩
 rw[List.getElem?_take]at hk
 split at hk
 ·exact hk
 ·cases hk
theorem pts_row{g:Nat}(h2:Kv 35 #[.int .i64 s.ax,.int .i64 s.ay,.int .i64 s.bx,.int .i64 s.by_,.int .i64 s.cx,.int .i64 s.cy] g u)(hm:m≤3):Kq u (some ⟨g,0,none⟩) m 2 Kf ((sgP s).take m):=
 ((K6.lit (n:=3) (s:=2) (B:=0) h2 rfl (Nat.zero_le _) Zd).reads.rows (cl:=Kf) (l:=sgP s) (fun _=>rfl) rfl).take_ hm
theorem withS_step{k:Nat}{p:Pt}(hk:k<3)(hp:l[k]? =some p):(P9 v (l.take k)).cl.take (1+2*k)++Kf p++(P9 v (l.take k)).cl.drop (1+2*k+2)=(P9 v (l.take (k+1))).cl:=by
 rcases(by omega:k=0∨k=1∨k=2)with rfl|rfl|rfl<;>rcases l with _|⟨a,_|⟨b,_|⟨c,t⟩⟩⟩<;>first|(simp at hp;done)|(simp at hp;subst hp;rfl)
theorem ptr3{g gl k:Nat}(h:Kv 161 #[.pointer (some ⟨g,1,none⟩),.pointer (some ⟨g,3,none⟩),.pointer (some ⟨g,5,none⟩)] gl u)(hk:k<3):u.cell? ((⟨gl,0,none⟩:Addr).add k)=some (.pointer (some ⟨g,1+2*k,none⟩)):=by
 have hb:K8 u gl [.pointer (some ⟨g,1,none⟩),.pointer (some ⟨g,3,none⟩),.pointer (some ⟨g,5,none⟩)]:=⟨_,h⟩
 rw[Addr.add_mid,Nat.zero_add]
 have:=hb.range k (.pointer (some ⟨g,1+2*k,none⟩)) (by rcases(by omega:k=0∨k=1∨k=2)with rfl|rfl|rfl<;>rfl)
 simpa using this
theorem K8.own{g:Nat}{cs:List Value}(h:K8 w g cs):∃xs ty own,w.heap[g]? =some (.cells xs ty own):=by
 obtain⟨ty,h⟩:=h;exact⟨_,_,_,h⟩
theorem points_m(hn:Me s.v=(m:Int))(hm:m≤3):Calls Tryz.prog 45 #[s.val] w (K3 w (fun g:Nat=> .slice (some ⟨g,0,none⟩) m 3) fun g u=>Kq u (some ⟨g,0,none⟩) m 2 Kf ((sgP s).take m)∧g<u.heap.size):=by
 refine K0.enter Tryz.func45 rfl ?_
 refine ZR ?_
 refine K0.make (M5 (108) 3 #[(0,pt s.ax s.ay),(1,pt s.bx s.by_),(2,pt s.cx s.cy)]) (Km 3) (Kv 35 #[.int .i64 s.ax,.int .i64 s.ay,.int .i64 s.bx,.int .i64 s.by_,.int .i64 s.cx,.int .i64 s.cy]) Zk (fun w1 hw h=>Ke Zk) (fun g=> ?_)
 refine ZR ?_
 refine ZD 5 (fun w1 hw h=>Da hn) fun u=> ?_
 refine K0.slot 15 (.int .i64 (if (0:Int)>(m:Int)then 0 else(m:Int))) (.int .i64 (m:Int)) Zk (by rw[if_neg Zo]) ?_
 refine ZA (slH 108 (Km 3 g) m) (.slice (some ⟨g,0,none⟩) m 3) (fun w1 hw h=>E6 (e:=35) (s:=2) Zk Zk Zk hm) ?_
 refine ZV (.slice (some ⟨g,0,none⟩) m 3) (fun w1 hw h=>⟨g,rfl,hw,fun u k1 k2=>⟨pts_row (h u k1 k2).1.2 hm,litG_lt (h u k1 k2).1.2⟩⟩)
theorem with_m(hr:Kq w A m 2 Kf l)(hm:m≤3):Calls Tryz.prog 47 #[.int .i64 v,.slice A m c] w (K3 w (fun _:Unit=>(P9 v l).val) fun _ _=>True):=by
 refine K0.enter Tryz.func47 rfl ?_
 refine ZR ?_
 refine K0.expose 5 (⟨v,0,0,0,0,0,0⟩:Sg).cl Zk Zk (fun g hg=> ?_)
 refine K0.make (M5 162 3 #[(0,.pointer (some ⟨g,1,none⟩)),(1,.pointer (some ⟨g,3,none⟩)),(2,.pointer (some ⟨g,5,none⟩))]) (Km 3) (fun gl u=>Kv 161 #[.pointer (some ⟨g,1,none⟩),.pointer (some ⟨g,3,none⟩),.pointer (some ⟨g,5,none⟩)] gl u∧g<gl) Zk (fun w1 hw h=>Bd Zk (fun x hx=>Nat.lt_of_lt_of_le h.2.ltW hx)) (fun gl=> ?_)
 refine ZR ?_
 refine K0.loop (ι:={k:Nat // k≤3}) 32 (fun k=>⟨[(1,.v (.slice A m c)),(4,.p 4 0),(5,.v (.pointer (some ⟨g,0,none⟩))),(13,.v (Km 3 gl)),(14,.v (.int .i64 3)),(15,.v (.int .i64 (k.1:Int)))],[(4,(⟨0,0,0,0,0,0,0⟩:Sg).cl.map .v)]⟩) (fun k u=>(Kv 161 #[.pointer (some ⟨g,1,none⟩),.pointer (some ⟨g,3,none⟩),.pointer (some ⟨g,5,none⟩)] gl u∧g<gl)∧K8 u g (P9 v (l.take k.1)).cl) (fun k=>3-k.1) (⟨0,Nat.zero_le _⟩) Zk (fun _=>by kernel_rfl) ⟨Zk,Zk,Zk⟩ (fun u h=>⟨h.2,h.1.2⟩) ?_
 rintro⟨k,hk⟩ g2
 have hk:k≤3:=hk
 by_cases hlt:k<3
 case neg=>
  obtain rfl:k=3:=by omega
  refine ZR ?_
  refine ZI false ?_
  refine K0.leave Zk ?_
  refine ZR ?_
  have e3:P9 v (l.take 3)=P9 v l:=by rw[List.take_of_length_le (by rw[hr.1];exact hm)]
  refine ZA (Kd 96 ⟨g,0,none⟩) ((P9 v l).val) (fun w1 hw h=>Ka (vs:=(P9 v l).cl) Zk Zk (by have h2:K8 _ g (P9 v (l.take 3)).cl:=h.2;rw[e3]at h2;exact h2.range)) ?_
  exact ZW ((P9 v l).val)
 refine ZR ?_
 refine ZJ (decide ((k:Int)<3)) true (decide_eq_true Zo) ?_
 refine ZA (Kc 162 (Km 3 gl) k) (.pointer (some ((⟨gl,0,none⟩:Addr).add k))) (fun w1 hw h=>R5 (elem:=161) Zk Zk hlt) ?_
 refine ZA (Kd 161 ((⟨gl,0,none⟩:Addr).add k)) (.pointer (some ⟨g,1+2*k,none⟩)) (fun w1 hw h=>Kg Zk (ptr3 h.1.1 hlt)) ?_
 by_cases hkm:k<m
 case neg=>
  refine ZJ (decide ((k:Int)<(m:Int))) false (decide_eq_false Zo) ?_
  have ek:P9 v (l.take (k+1))=P9 v (l.take k):=by rw[List.take_of_length_le (by rw[hr.1];omega),List.take_of_length_le (by rw[hr.1];omega)]
  refine K0.slot 15 (.int .i64 (IntKind.i64.wrap ((k:Int)+1))) (.int .i64 ((k+1:Nat):Int)) Zk (by rw[K7 hlt Zo]) ?_
  refine K0.next (⟨k+1,hlt⟩) Zk (by show 3- (k+1)<3-k;omega) ⟨Zk,Zk,Zk⟩ (fun u h=>by show _∧K8 u g (P9 v (l.take (k+1))).cl;rw[ek];exact h)
 obtain⟨p,hp⟩:∃p,l[k]? =some p:=⟨_,List.getElem?_eq_getElem (by rw[hr.1];exact hkm)⟩
 obtain⟨ad,hA,hc⟩:=hr.2 k p hp
 refine ZJ (decide ((k:Int)<(m:Int))) true (decide_eq_true Zo) ?_
 refine ZA (Kc 108 (.slice A m c) k) (.pointer (some (ad.add (k*2)))) (fun w1 hw h=>Pe hA hkm) ?_
 refine ZA (Kd 35 (ad.add (k*2))) (Ls p) (fun w1 hw h=>R1 fun i v hi=>Kt hw (hc i v hi)) ?_
 refine K0.mutSt (L:=[g]) (G:=fun u=>K8 u g (P9 v (l.take (k+1))).cl) (Φ':=fun u=>(Kv 161 #[.pointer (some ⟨g,1,none⟩),.pointer (some ⟨g,3,none⟩),.pointer (some ⟨g,5,none⟩)] gl u∧g<gl)∧K8 u g (P9 v (l.take (k+1))).cl) (Rm 35 ⟨g,1+2*k,none⟩ (Ls p)) (fun w1 hw h=>by
  have h3:=h.2.storeN (P:=Tryz.prog) (t:=35) (v:=Ls p) (j:=1+2*k) Zk (by show 1+2*k+2≤7;omega) (fun x hx=>by have hx:x∈Kf p:=hx;simp[Kf]at hx;rcases hx with rfl|rfl<;>rfl)
  rw[←withS_step hlt hp];exact h3) (fun u h b hb=>by have hb:=List.mem_singleton.1 hb;subst hb;exact⟨hg,h.2.own⟩) (fun wa u e1 e2 h hG=>⟨⟨(e2 gl (by have:=h.1.2;simp;omega)).symm.trans h.1.1,h.1.2⟩,hG⟩) Zk Zk ?_
 refine ZR ?_
 refine K0.slot 15 (.int .i64 (IntKind.i64.wrap ((k:Int)+1))) (.int .i64 ((k+1:Nat):Int)) Zk (by rw[K7 hlt Zo]) ?_
 refine K0.next (⟨k+1,hlt⟩) Zk (by show 3- (k+1)<3-k;omega) ⟨Zk,Zk,Zk⟩ (fun u h=>h)
end
section
variable{w u:World}{A:Option Addr}{n c N K:Nat}{ls:List Sg}{t:TV}{T:Mi}
theorem Jt:∀{ls:List Sg} {last:Int} {k:Nat},(Xt last k ls).1=0→∀s∈ls,∃m:Nat,Me s.v=(m:Int)∧m≤3
 | [],_,_,_,s,hs=>by cases hs
 | x ::l,last,k,h,s,hs=>by
  by_cases h1:T3 last x=0
  ·rw [Ab h1]at h
   rcases List.mem_cons.1 hs with rfl|h2
   ·by_cases h3:Me s.v<0
    ·unfold T3 at h1;rw[if_pos h3]at h1;cases h1
    ·refine⟨(Me s.v).toNat,by omega,?_⟩
     have:Me s.v≤3:=by
      unfold Me
      (repeat' split)<;>decide
     omega
   ·exact Jt h s h2
  ·rw[Tp h1]at h
   exact absurd h h1
theorem Xp(h:(Ff ls).1=0):ls.length≤256:=by
 unfold Ff at h
 split at h
 ·cases h
 ·omega
theorem chk_in{s:Sg}(h:(Ff ls).1=0)(hs:s∈ls):∃m:Nat,Me s.v=(m:Int)∧m≤3:=by
 have h2:=Xp h
 unfold Ff at h
 rw[if_neg Zo]at h
 exact Jt h s hs
theorem Bn{l:List Int}{e:Int}(h:Ut l=0):Ut (l++ [e])=e:=by
 rw[Et,if_pos h]
 unfold Ut
 split
 ·rename_i h0;rw[h0];rfl
 ·rfl
theorem fstE_cut{l:List Int}{k:Nat}{e:Int}(h:Ut (l.take k)=0)(hk:l[k]? =some e)(he:e≠0):Ut l=e:=by
 have h1:l=(l.take k++ [e])++l.drop (k+1):=by rw[←Lb hk,List.take_append_drop]
 rw[h1,Et,Bn h,if_neg he]
theorem apply_ok{X Y:Int}{K:Nat}{t:TV}{T:Mi}(ht:S4 t T K w)(hK:8≤K∧K≤10000)(he:Fy T X Y=0):Calls Tryz.prog 46 #[t.val,pt X Y] w (K3 w (fun _:Unit=> .tuple #[pt (atX T X Y) (atY T X Y),.int .i64 0]) fun _ _=>True):=by
 have:=apply_m (X:=X) (Y:=Y) ht hK
 unfold atP at this
 rw[he,if_pos rfl]at this;exact this
theorem apply_no{X Y e:Int}{K:Nat}{t:TV}{T:Mi}(ht:S4 t T K w)(hK:8≤K∧K≤10000)(he:Fy T X Y=e)(h0:e≠0):Calls Tryz.prog 46 #[t.val,pt X Y] w (K3 w (fun _:Unit=> .tuple #[pt 0 0,.int .i64 e]) fun _ _=>True):=by
 have:=apply_m (X:=X) (Y:=Y) ht hK
 rw[C0 he h0]at this;exact this
theorem app_one{z:Option Addr×Nat}{acc:List Pt}{p:Pt}{B m g gb:Nat}(ho:K6 u B 35 2 z.1 m z.2 (acc.flatMap Kf))(hB:B≤u.heap.size)(hap:∀b∈bl z.1,b≠g)(hgl:g<u.heap.size)(hg:Kv 35 (Kf p).toArray gb u)(hm:m≤10000000):
 Nf Tryz.prog u (bl z.1) (fun z:Option Addr×Nat=> .slice z.1 (m+1) z.2) (fun z v=>K6 v B 35 2 z.1 (m+1) z.2 ((acc++ [p]).flatMap Kf)∧∀b∈bl z.1,b≠g) (Nc 108 108 (.slice z.1 m z.2) (Km 1 gb)):=by
 have ha:=M9 (P:=Tryz.prog) (s:=2) (z:=pt 0 0) (bytes:=16) (m:=1) (cc:=1) (t:=108) (elem:=35) Zk Zk rfl Zd ho hB (M8 (n:=1) hg rfl) (by intro v hv;simp[Kf]at hv;rcases hv with rfl|rfl<;>rfl) Zo Zd
 have e:(acc++ [p]).flatMap Kf=acc.flatMap Kf++(Kf p).toArray.toList:=by simp
 rw[e]
 refine Oy ha fun z' hz b hb hx=> ?_
 rcases hz b hb with h5|h5
 ·exact hap b h5 hx
 ·omega
theorem app_seg{z:Option Addr×Nat}{acc:List Sg}{s:Sg}{B m gb:Nat}(ho:K6 u B 96 7 z.1 m z.2 (acc.flatMap Sg.cl))(hB:B≤u.heap.size)(hg:Kv 96 s.cl.toArray gb u)(hm:m≤10000000):
 Nf Tryz.prog u (bl z.1) (fun z:Option Addr×Nat=> .slice z.1 (m+1) z.2) (fun z v=>K6 v B 96 7 z.1 (m+1) z.2 ((acc++ [s]).flatMap Sg.cl)) (Nc 29 29 (.slice z.1 m z.2) (Km 1 gb)):=by
 have ha:=M9 (P:=Tryz.prog) (s:=7) (z:=(⟨0,0,0,0,0,0,0⟩:Sg).val) (bytes:=56) (m:=1) (cc:=1) (t:=29) (elem:=96) Zk Zk rfl Zd ho hB (M8 (n:=1) hg rfl) (by intro v hv;simp[Sg.cl]at hv;rcases hv with rfl|rfl|rfl|rfl|rfl|rfl|rfl<;>rfl) Zo Zd
 have e:(acc++ [s]).flatMap Sg.cl=acc.flatMap Sg.cl++s.cl.toArray.toList:=by simp
 rw[e];exact ha
theorem trv_ok{T:Mi}{y:Option Addr×Nat}(h:Mx T ls=0):(Value.tuple #[.slice y.1 n y.2,.int .i64 0])= .tuple #[if Mx T ls=0 then .slice y.1 n y.2 else .slice none 0 0,.int .i64 (Mx T ls)]:=by rw[h];rfl
theorem trv_no{T:Mi}{y:Option Addr×Nat}{e:Int}(h:Mx T ls=e)(h0:e≠0):(Value.tuple #[.slice none 0 0,.int .i64 e])= .tuple #[if Mx T ls=0 then .slice y.1 n y.2 else .slice none 0 0,.int .i64 (Mx T ls)]:=by rw[h,if_neg h0]
theorem ptsE_cut{T:Mi}{l:List Pt}{j:Nat}{p:Pt}(h:G4 T (l.take j)=0)(hp:l[j]? =some p)(he:Fy T p.1 p.2≠0):G4 T l=Fy T p.1 p.2:=by
 unfold G4 at h ⊢
 rw[List.map_take]at h
 exact fstE_cut h (by rw[List.getElem?_map,hp];rfl) he
theorem H1{T:Mi}{k:Nat}{s:Sg}{e:Int}(h:Mx T (ls.take k)=0)(hs:ls[k]? =some s)(h2:G4 T (Fv s)=e)(he:e≠0):Mx T ls=e:=by
 unfold Mx at h ⊢
 rw[List.map_take]at h
 exact fstE_cut h (by rw[List.getElem?_map,hs];exact congrArg some h2) he
theorem trans_m(ht:S4 t T K w)(hK:8≤K∧K≤10000)(hs:Sa w A n ls)(hv:(Ff ls).1=0)(hN:N≤w.heap.size):
 Calls Tryz.prog 24 #[.slice A n c,t.val] w (K3 w (fun y:Option Addr×Nat=> .tuple #[if Mx T ls=0 then .slice y.1 n y.2 else .slice none 0 0,.int .i64 (Mx T ls)]) fun y u=>Mx T ls=0→K6 u N 96 7 y.1 n y.2 ((ls.map (Pd T)).flatMap Sg.cl)):=by
 have hln:=Xp hv
 have hnl:ls.length=n:=hs.1
 refine K0.enter Tryz.func24 rfl ?_
 refine ZR ?_
 refine ZC (fun w1 hw h=>Yz (c:=c) (hs.below hw) Zo (B:=true) (by rw[hv];rfl)) fun v0=> ?_
 refine ZI false ?_
 refine K0.loop (ι:={q:Nat×(Option Addr×Nat) // q.1≤n∧Mx T (ls.take q.1)=0}) 53 (fun q=>⟨[(3,.p 3 0),(6,.v (.slice q.1.2.1 q.1.1 q.1.2.2)),(17,.v (.slice A n c)),(18,.v (.int .i64 (n:Int))),(19,.v (.int .i64 (q.1.1:Int)))],[(3,t.cl.map .v)]⟩) (fun q u=>K6 u w.heap.size 96 7 q.1.2.1 q.1.1 q.1.2.2 (((ls.take q.1.1).map (Pd T)).flatMap Sg.cl)) (fun q=>n-q.1.1) (⟨(0,(none,0)),Nat.zero_le _,rfl⟩) Zk (fun _=>by kernel_rfl) ⟨Zk,Zk,Zk⟩ (fun u h=>K6.nil_) ?_
 rintro⟨⟨k,y⟩,hk,hE⟩ gg
 have hk:k≤n:=hk
 have hE:Mx T (ls.take k)=0:=hE
 by_cases hlt:k<n
 case neg=>
  obtain rfl:k=n:=by omega
  have hte:ls.take k=ls:=List.take_of_length_le Zo
  rw[hte]at hE
  refine ZR ?_
  refine ZJ (decide ((k:Int)<(k:Int))) false (decide_eq_false Zo) ?_
  refine K0.leave Zk ?_
  refine ZR ?_
  refine ZV (.tuple #[.slice y.1 k y.2,.int .i64 0]) (fun w1 hw h=>⟨y,congrArg Ending.returned (trv_ok hE),hw,fun u k1 k2 _=>by have h2:K6 u w.heap.size 96 7 y.1 k y.2 (((ls.take k).map (Pd T)).flatMap Sg.cl):=h u k1 k2;rw[hte]at h2;exact h2.rebase fun b hb=>Nat.le_trans hN (h2.lt b hb).1⟩)
 obtain⟨s,hx⟩:∃s,ls[k]? =some s:=⟨_,List.getElem?_eq_getElem Zo⟩
 obtain⟨ad,hA,hc⟩:=hs.2 k s hx
 obtain⟨m,hm,hm3⟩:=chk_in hv (List.mem_of_getElem? hx)
 have hsN:Fv s=(sgP s).take m:=by unfold Fv;rw[hm];rfl
 have hsl:(Fv s).length=m:=by rw[hsN,List.length_take];show min m 3=m;omega
 refine ZR ?_
 refine ZJ (decide ((k:Int)<(n:Int))) true (decide_eq_true Zo) ?_
 refine ZA (Kc 29 (.slice A n c) k) (.pointer (some (ad.add (k*7)))) (fun w1 hw h=>E3 hA hlt) ?_
 refine ZA (Kd 96 (ad.add (k*7))) (s.val) (fun w1 hw h=>sg_ld (fun j v hj=>Kt hw (hc j v hj))) ?_
 refine ZC (fun w1 hw h=>points_m hm hm3) fun gp=> ?_
 refine K0.loop (ι:={q:Nat×(Option Addr×Nat) // q.1≤m∧G4 T ((Fv s).take q.1)=0}) 53 (fun q=>⟨[(3,.p 3 0),(6,.v (.slice y.1 k y.2)),(8,.p 8 0),(9,.v (.slice q.1.2.1 q.1.1 q.1.2.2)),(17,.v (.slice A n c)),(18,.v (.int .i64 (n:Int))),(19,.v (.int .i64 (k:Int))),(24,.v (.slice (some ⟨gp,0,none⟩) m 3)),(25,.v (.int .i64 (m:Int))),(26,.v (.int .i64 (q.1.1:Int)))],[(3,t.cl.map .v),(8,s.cl.map .v)]⟩) (fun q u=>(K6 u w.heap.size 35 2 q.1.2.1 q.1.1 q.1.2.2 ((((Fv s).take q.1.1).map (trP T)).flatMap Kf)∧∀b∈bl q.1.2.1,b≠gp)∧K6 u w.heap.size 96 7 y.1 k y.2 (((ls.take k).map (Pd T)).flatMap Sg.cl)∧Kq u (some ⟨gp,0,none⟩) m 2 Kf (Fv s)∧gp<u.heap.size) (fun q=>m-q.1.1) (⟨(0,(none,0)),Nat.zero_le _,rfl⟩) Zk (fun _=>by kernel_rfl) ⟨Zk,Zk,Zk⟩ (fun u h=>⟨⟨K6.nil_,by intro b hb;cases hb⟩,h.1,by rw[hsN];exact h.2.1,h.2.2⟩) ?_
 rintro⟨⟨j,z⟩,hj,hE2⟩ gg2
 have hj:j≤m:=hj
 have hE2:G4 T ((Fv s).take j)=0:=hE2
 by_cases hlj:j<m
 case neg=>
  obtain rfl:j=m:=by omega
  have htj:(Fv s).take j=Fv s:=List.take_of_length_le Zo
  rw[htj]at hE2
  refine ZR ?_
  refine ZJ (decide ((j:Int)<(j:Int))) false (decide_eq_false Zo) ?_
  refine K0.leave Zk ?_
  refine ZR ?_
  refine ZD 5 (fun w1 hw h=>with_m (v:=s.v) (c:=z.2) (l:=(Fv s).map (trP T)) (by have h2:K6 w1 w.heap.size 35 2 z.1 j z.2 ((((Fv s).take j).map (trP T)).flatMap Kf):=h.1.1;rw[htj]at h2;exact h2.reads.rows (cl:=Kf) (fun _=>rfl) (by rw[List.length_map];exact hsl)) hm3) fun wi=> ?_
  refine K0.make (M5 (29) 1 #[(0,(Pd T s).val)]) (Km 1) (Kv 96 (Pd T s).cl.toArray) Zk (fun w1 hw h=>Ke Zk) (fun gb=> ?_)
  refine ZS 6 ?_
  refine K0.mutOp (L:=bl y.1) (val:=fun(z:Option Addr×Nat)=> .slice z.1 (k+1) z.2) (Φ':=fun(y':Option Addr×Nat) v=>K6 v w.heap.size 96 7 y'.1 (k+1) y'.2 (((ls.take (k+1)).map (Pd T)).flatMap Sg.cl)) (G:=fun(y':Option Addr×Nat) v=>K6 v w.heap.size 96 7 y'.1 (k+1) y'.2 (((ls.take (k+1)).map (Pd T)).flatMap Sg.cl)) (Nc 29 29 (.slice y.1 k y.2) (Km 1 gb)) (fun w1 hw h=>by rw[Lb hx,List.map_append];exact app_seg h.1.1.2.1 hw.size h.2 Zo) (fun w1 h b hb=>⟨(h.1.1.2.1.lt b hb).1,(h.1.1.2.1.blk b hb).2⟩) (fun y' wa w1 e1 e2 h hG=>hG) Zk Zk (fun y'=> ?_)
  refine ZR ?_
  refine K0.slot 19 (.int .i64 (IntKind.i64.wrap ((k:Int)+1))) (.int .i64 ((k+1:Nat):Int)) Zk (by rw[K7 hlt Zo]) ?_
  have hE3:Mx T (ls.take (k+1))=0:=by unfold Mx;rw[Lb hx,List.map_append];exact(Bn hE).trans hE2
  refine K0.next (⟨((k+1),y'),hlt,hE3⟩) Zk (by show n- (k+1)<n-k;omega) ⟨Zk,Zk,Zk⟩ (fun u h=>h)
 obtain⟨p,hp⟩:∃p,(Fv s)[j]? =some p:=⟨_,List.getElem?_eq_getElem Zo⟩
 refine ZR ?_
 refine ZJ (decide ((j:Int)<(m:Int))) true (decide_eq_true Zo) ?_
 refine ZA (Kc 108 (.slice (some ⟨gp,0,none⟩) m 3) j) (.pointer (some ⟨gp,j*2,none⟩)) (fun w1 hw h=>K9 (elem:=35) Zk Zk hlj) ?_
 refine ZA (Kd 35 ⟨gp,j*2,none⟩) (Ls p) (fun w1 hw h=>Ka (vs:=Kf p) Zk Zk (fun i v hi=>by obtain⟨a,h1,h2⟩:=h.2.2.1.2 j p hp;injection h1 with h1;subst h1;have:=h2 i v hi;rwa [Addr.add_mid,Addr.add_mid,Nat.zero_add]at this)) ?_
 by_cases he:Fy T p.1 p.2=0
 case neg=>
  refine ZC (fun w1 hw h=>apply_no (X:=p.1) (Y:=p.2) (ht.below hw) hK rfl he) fun ap=> ?_
  refine ZJ (Fy T p.1 p.2 !=0) true (bne_iff_ne.2 he) ?_
  refine K0.leave Zk ?_
  refine ZR ?_
  refine K0.leave Zk ?_
  refine ZR ?_
  refine ZV (.tuple #[.slice none 0 0,.int .i64 (Fy T p.1 p.2)]) (fun w1 hw h=>⟨(none,0),congrArg Ending.returned (trv_no (H1 hE hx (ptsE_cut hE2 hp he) he) he),hw,fun u k1 k2 h0=>absurd ((H1 hE hx (ptsE_cut hE2 hp he) he).symm.trans h0) he⟩)
 refine ZC (fun w1 hw h=>apply_ok (X:=p.1) (Y:=p.2) (ht.below hw) hK he) fun ap=> ?_
 refine K0.cond false Zk ?_
 refine ZS 2 ?_
 refine K0.make (M5 (108) 1 #[(0,Ls (trP T p))]) (Km 1) (Kv 35 (Kf (trP T p)).toArray) Zk (fun w1 hw h=>Ke Zk) (fun gb=> ?_)
 refine ZS 3 ?_
 refine K0.mutOp (L:=bl z.1) (val:=fun(z:Option Addr×Nat)=> .slice z.1 (j+1) z.2) (Φ':=fun(z':Option Addr×Nat) v=>(K6 v w.heap.size 35 2 z'.1 (j+1) z'.2 ((((Fv s).take (j+1)).map (trP T)).flatMap Kf)∧∀b∈bl z'.1,b≠gp)∧K6 v w.heap.size 96 7 y.1 k y.2 (((ls.take k).map (Pd T)).flatMap Sg.cl)∧Kq v (some ⟨gp,0,none⟩) m 2 Kf (Fv s)∧gp<v.heap.size) (G:=fun(z':Option Addr×Nat) v=>K6 v w.heap.size 35 2 z'.1 (j+1) z'.2 ((((Fv s).take (j+1)).map (trP T)).flatMap Kf)∧∀b∈bl z'.1,b≠gp) (Nc 108 108 (.slice z.1 j z.2) (Km 1 gb)) (fun w1 hw h=>by rw[Lb hp,List.map_append];exact app_one h.1.1.1.1 hw.size h.1.1.1.2 h.1.1.2.2.2 h.2 Zo) (fun w1 h b hb=>⟨(h.1.1.1.1.lt b hb).1,(h.1.1.1.1.blk b hb).2⟩) (fun z' wa w1 e1 e2 h hG=>⟨hG,h.1.1.2.1.left e2 fun b hb=>Oq h.1.1.2.1 h.1.1.1.1 Zd b hb,h.1.1.2.2.1.left (fun b hb hc=>h.1.1.1.2 b hc (by simpa[bl]using hb)) e2,by rw[←e1];exact h.1.1.2.2.2⟩) Zk Zk (fun z'=> ?_)
 refine ZR ?_
 refine K0.slot 26 (.int .i64 (IntKind.i64.wrap ((j:Int)+1))) (.int .i64 ((j+1:Nat):Int)) Zk (by rw[K7 hlj Zo]) ?_
 have hE3:G4 T ((Fv s).take (j+1))=0:=by unfold G4;rw[Lb hp,List.map_append];exact(Bn hE2).trans he
 refine K0.next (⟨(j+1,z'),hlj,hE3⟩) Zk (by show m- (j+1)<m-j;omega) ⟨Zk,Zk,Zk⟩ (fun u h=>h)
end
inductive BmA(u:World)(x y:Int)(p:Px):MV→Prop
 |nil:BmA u x y p X5
 |one (z:Option Addr×Nat) (h:Kq u z.1 1 4 Ur [p]) (hp:p.clamp=p) (hc:1≤z.2):BmA u x y p (Mn x y z)
def Cq(u:World)(p:Px)(z:Option Addr×Nat):Prop:=Kq u z.1 1 4 Ur [p]∧1≤z.2
def Tu(N:Nat)(p:Px)(z:Option Addr×Nat)(u:World):Prop:=K6 u N 53 4 z.1 1 z.2 (Ur p)
theorem pxC_len:∀p,(Ur p).length=4:=fun _=>rfl
theorem Xa:∀p:Px,∀v∈Ur p,v.oneCell'=true:=fun p v hv=>by simp[Ur]at hv;rcases hv with rfl|rfl|rfl|rfl<;>rfl
section
variable{w u:World}{x y:Int}{m m1 m2:MV}{k k1 k2 N g gl n c:Nat}{z z2:Option Addr×Nat}{A:Option Addr}{L:List Px}{M:List (MV×Px)}{p q s d:Px}{ad:Addr}
theorem Cq.below{w1:World}(h:Cq w p z)(hw:Below w.heap.size w w1):Cq w1 p z:=⟨h.1.below hw,h.2⟩
theorem Tu.toP(h:Tu N p z u):Cq u p z:=⟨(K6.reads h).rows (cl:=Ur) (l:=[p]) pxC_len rfl,K6.cap h⟩
theorem Tu.mono(h:Tu N p z u){B:Nat}(hB:B≤N):Tu B p z u:=K6.rebase h fun b hb=>Nat.le_trans hB (K6.lt h b hb).1
theorem Cq.a(h:Cq u p z)(hp:p.clamp=p):BmA u x y p (Mn x y z):= .one z h.1 hp h.2
theorem BmA.below{w1:World}(h:BmA w x y p m)(hw:Below w.heap.size w w1):BmA w1 x y p m:=by
 cases h with
 |nil=>exact .nil
 |one z h hp hc=>exact .one z (h.below hw) hp hc
theorem Zb{i:Nat}(hA:A=some ad)(hi:i<n):(Kc 37 (.slice A n c) i).run Tryz.prog w= .ok (.value (.pointer (some (ad.add (i*4))))) w:=by
 rw[hA];exact Lg (elem:=53) Zk Zk hi
theorem D5(h:∀(j:Nat) (v:Value),(Ur p)[j]? =some v→w.cell? (ad.add j)=some v):(Kd 53 ad).run Tryz.prog w= .ok (.value (Mw p)) w:=
 N7 (vs:=Ur p) Zk Zk h
theorem bvalid1_m(hp:p.clamp=p):Calls Tryz.prog 83 #[Mw p] w (K3 w (fun _:Unit=> .bool false) fun _ _=>True):=by
 refine K0.enter Tryz.func83 rfl ?_
 refine ZR ?_
 refine ZC (fun w1 hw h=>cvalid_m hp) fun v=> ?_
 exact ZW (.bool false)
theorem bindex_m(hl:Kq w A n 4 Ur L)(hn:n≤1000000)(ha:∀p∈L,p.clamp=p):Calls Tryz.prog 141 #[.slice A n c,.func (.func 83) #[] #[]] w (K3 w (fun _:Unit=> .int .i64 (-1)) fun _ _=>True):=by
 refine K0.enter Tryz.func141 rfl ?_
 refine ZR ?_
 refine K0.loop (ι:={q:Nat // q≤n}) 19 (fun q=>⟨[(0,.v (.slice A n c)),(1,.v (.func (.func 83) #[] #[])),(7,.v (.int .i64 n)),(8,.v (.int .i64 q.1))],[]⟩) (fun q u=>True) (fun q=>n-q.1) (⟨0,Nat.zero_le _⟩) Zk (fun _=>by kernel_rfl) ⟨Zk,Zk,Zk⟩ (fun u h=>trivial) ?_
 rintro⟨i,hi⟩ gg
 by_cases hlt:i<n
 case neg=>
  obtain rfl:i=n:=by omega
  refine ZR ?_
  refine ZJ (decide ((i:Int)<(i:Int))) false (decide_eq_false Zo) ?_
  refine K0.leave Zk ?_
  refine ZR ?_
  exact ZW (.int .i64 (-1))
 obtain⟨p,hx⟩:∃v,L[i]? =some v:=⟨_,List.getElem?_eq_getElem (by rw[hl.1];exact hlt)⟩
 obtain⟨ad,hA,hc⟩:=hl.2 i p hx
 refine ZR ?_
 refine ZJ (decide ((i:Int)<(n:Int))) true (decide_eq_true Zo) ?_
 refine ZA (Kc 37 (.slice A n c) i) (.pointer (some (ad.add (i*4)))) (fun w1 hw h=>Zb hA hlt) ?_
 refine ZA (Kd 53 (ad.add (i*4))) (Mw p) (fun w1 hw h=>D5 fun j v hj=>Kt hw (hc j v hj)) ?_
 refine ZC (fun w1 hw h=>bvalid1_m (ha p (List.mem_of_getElem? hx))) fun u=> ?_
 refine ZI false ?_
 refine K0.slot 8 (.int .i64 (IntKind.i64.wrap ((i:Int)+1))) (.int .i64 ((i+1:Nat):Int)) Zk (by rw[K7 hlt Zo]) ?_
 refine K0.next (⟨i+1,hlt⟩) Zk (by show n- (i+1)<n-i;omega) ⟨Zk,Zk,Zk⟩ (fun u h=>trivial)
theorem bcont_m(hl:Kq w A n 4 Ur L)(hn:n≤1000000)(ha:∀p∈L,p.clamp=p):Calls Tryz.prog 82 #[.slice A n c,.func (.func 83) #[] #[]] w (K3 w (fun _:Unit=> .bool false) fun _ _=>True):=by
 refine K0.enter Tryz.func82 rfl ?_
 refine ZR ?_
 refine ZC (fun w1 hw h=>bindex_m (c:=c) (hl.below hw) hn ha) fun u=> ?_
 exact ZW (.bool false)
theorem Kq.nil0{α:Type}{s:Nat}{cl:α→List Value}:Kq w none 0 s cl []:=⟨rfl,fun k x hk=>by cases hk⟩
theorem Vv(hr:Qk x y (x+1) (y+1))(hm:BmA w x y p m):Calls Tryz.prog 42 #[Lr m] w (K3 w (fun _:Unit=> .bool true) fun _ _=>True):=by
 refine K0.enter Tryz.func42 rfl ?_
 refine ZR ?_
 cases hm with
 |nil=>
  refine ZC (fun w1 hw h=>rarea_0) fun a=> ?_
  refine ZD 5 (fun w1 hw h=>Pf) fun c=> ?_
  refine ZB 5 (neP 74 (.tmp 9) (.tmp 11) (Mv 0 0 0 0) (Mv 0 0 0 0)) (.bool false) (fun w1 hw h=>Gn) ?_
  refine ZI false ?_
  refine ZC (fun w1 hw h=>bcont_m (c:=0) (L:=[]) Kq.nil0 Zd (by intro p hp;cases hp)) fun e=> ?_
  exact ZW (.bool true)
 |one z h0 hp hc=>
  refine ZC (fun w1 hw h=>Rv hr Eg Zd) fun a=> ?_
  refine ZD 5 (fun w1 hw h=>Nk hr) fun c=> ?_
  refine ZB 5 (neP 74 (.tmp 9) (.tmp 11) (Mv x y (x+1) (y+1)) (Mv x y (x+1) (y+1))) (.bool false) (fun w1 hw h=>Gn) ?_
  refine ZI false ?_
  refine ZC (fun w1 hw h=>bcont_m (c:=z.2) (h0.below hw) Zd (by intro q hq;obtain rfl:=List.mem_singleton.1 hq;exact hp)) fun e=> ?_
  exact ZW (.bool true)
theorem bat_m(hr:Qk x y (x+1) (y+1))(hz:Cq w p z):Calls Tryz.prog 43 #[Lr (Mn x y z),.int .i64 x,.int .i64 y] w (K3 w (fun _:Unit=>Mw p) fun _ _=>True):=by
 obtain⟨ad,hA,hc⟩:=hz.1.2 0 p rfl
 refine K0.enter Tryz.func43 rfl ?_
 refine ZR ?_
 refine ZC (fun w1 hw h=>B1 hr) fun i=> ?_
 refine ZI false ?_
 refine ZA (Kc 37 (.slice z.1 1 z.2) (0:Nat)) (.pointer (some (ad.add (0*4)))) (fun w1 hw h=>Zb hA Zd) ?_
 refine ZA (Kd 53 (ad.add (0*4))) (Mw p) (fun w1 hw h=>D5 fun j v hj=>Kt hw (hc j v hj)) ?_
 exact ZW (Mw p)
theorem bAt_m(hr:Qk x y (x+1) (y+1))(hz:Cq w p z)(hp:p.clamp=p):Calls Tryz.prog 22 #[Lr (Mn x y z),.int .i64 x,.int .i64 y] w (K3 w (fun _:Unit=>Mw p) fun _ _=>True):=by
 refine K0.enter Tryz.func22 rfl ?_
 refine ZR ?_
 refine ZC (fun w1 hw h=>Vv hr ((hz.below hw).a hp)) fun v=> ?_
 refine ZI false ?_
 refine ZC (fun w1 hw h=>bat_m hr (hz.below hw)) fun v2=> ?_
 exact ZW (Mw p)
theorem new1_m{x y:Value}(hp:p.clamp=p)(hb:K8 w g (Ur p)):Calls Tryz.prog 77 #[x,y,Ku g] w (K3 w (fun _:Unit=>Mw p) fun _ _=>True):=by
 have hc:∀w1,Calls Tryz.prog 64 #[Mw p] w1 (K3 w1 (fun _:Unit=>Mw p) fun _ _=>True):=fun w1=>by
  have:=Di (w:=w1) (p:=p);rwa [hp]at this
 refine K0.enter Tryz.func77 rfl ?_
 refine ZR ?_
 refine ZA (Kd 53 ⟨g,0,none⟩) (Mw p) (fun w1 hw h=>Ka (vs:=Ur p) Zk Zk (hb.below hw).range) ?_
 refine ZC (fun w1 hw h=>hc w1) fun c=> ?_
 exact ZW (Mw p)
theorem over1_m{g1 g2 g3 g4:Nat}{z3:MV}(hr:Qk x y (x+1) (y+1))(b1:K8 w g1 [.int .i64 1])(b2:K8 w g2 (Bb (Mn x y z)))(b3:K8 w g3 (Bb (Mn x y z2)))(b4:K8 w g4 (Bb z3))(hs:Cq w s z)(hd:Cq w d z2)(hm:G9 w x y k z3)(os:s.ok)(od:d.ok)(hk:k≤255):
 Calls Tryz.prog 320 #[.int .i64 x,.int .i64 y,Ku g1,Ku g2,Ku g3,Ku g4] w (K3 w (fun _:Unit=>Mw (s.blend d k)) fun _ _=>True):=by
 refine K0.enter Tryz.func320 rfl ?_
 refine ZR ?_
 refine ZB 0 (Kd 3 ⟨g1,0,none⟩) (.int .i64 1) (fun w1 hw h=>(b1.below hw).load1 Zk) ?_
 refine ZB 1 (Kd 77 ⟨g2,0,none⟩) (Lr (Mn x y z)) (fun w1 hw h=>Ka (vs:=Bb (Mn x y z)) Zk Zk (b2.below hw).range) ?_
 refine ZB 5 (Kd 77 ⟨g3,0,none⟩) (Lr (Mn x y z2)) (fun w1 hw h=>Ka (vs:=Bb (Mn x y z2)) Zk Zk (b3.below hw).range) ?_
 refine ZB 9 (Kd 225 ⟨g4,0,none⟩) (Lr z3) (fun w1 hw h=>Ka (vs:=Bb z3) Zk Zk (b4.below hw).range) ?_
 refine ZC (fun w1 hw h=>bat_m hr (hs.below hw)) fun v1=> ?_
 refine ZC (fun w1 hw h=>bat_m hr (hd.below hw)) fun v2=> ?_
 refine ZC (fun w1 hw h=>mlevel_m hr (hm.below hw)) fun v3=> ?_
 refine ZC (fun w1 hw h=>Qj os od hk) fun v4=> ?_
 exact ZW (Mw (s.blend d k))
theorem bmade_new{g:Nat}(hr:Qk x y (x+1) (y+1))(hf:∀w1,Below w.heap.size w w1→Calls Tryz.prog 77 #[.int .i64 x,.int .i64 y,Ku g] w1 (K3 w1 (fun _:Unit=>Mw p) fun _ _=>True))(hN:N≤w.heap.size):
 Calls Tryz.prog 76 #[Mv x y (x+1) (y+1),.func (.func 77) #[] #[Ku g]] w (K3 w (fun z:Option Addr×Nat=>Lr (Mn x y z)) fun z u=>Tu N p z u):=by
 have hr2:=hr
 unfold Qk at hr2
 refine K0.enter Tryz.func76 rfl ?_
 refine ZR ?_
 refine ZC (fun w1 hw h=>Nk hr) fun c=> ?_
 refine K0.un Zk ?_
 refine ZR ?_
 refine ZJ (decide (y<y+1)) true (decide_eq_true Zo) ?_
 refine K0.un Zk ?_
 refine ZR ?_
 refine ZJ (decide (x<x+1)) true (decide_eq_true Zo) ?_
 refine ZD 7 (fun w1 hw h=>hf w1 hw) fun v=> ?_
 refine K0.make (M5 (37) 1 #[(0,Mw p)]) (Km 1) (Kv 53 (Ur p).toArray) Zk (fun w1 hw h=>Ke Zk) (fun gb=> ?_)
 refine ZS 7 ?_
 refine K0.make (Nc 37 37 (.slice none 0 0) (Km 1 gb)) (fun z:Option Addr×Nat=> .slice z.1 1 z.2) (fun z u=>K6 u w.heap.size 53 4 z.1 1 z.2 (Ur p)) Zk (fun w1 hw h=>Ue (z0:=Mw ⟨0,0,0,0⟩) (bytes:=4) Zk Zk rfl Zd rfl (Xa p) Zd h.2 hw.size) (fun z=> ?_)
 refine ZR ?_
 refine ZJ (decide (IntKind.i64.wrap (x+1)<x+1)) false (decide_eq_false (by rw[IntWalk.i64_in _ Zo];omega)) ?_
 refine ZJ (decide (IntKind.i64.wrap (y+1)<y+1)) false (decide_eq_false (by rw[IntWalk.i64_in _ Zo];omega)) ?_
 refine ZV (Lr (Mn x y z)) (fun w1 hw h=>⟨z,rfl,hw,fun u k1 k2=>Tu.mono (h u k1 k2).2 hN⟩)
theorem bmade_over{g1 g2 g3 g4:Nat}(hr:Qk x y (x+1) (y+1))(hf:∀w1,Below w.heap.size w w1→Calls Tryz.prog 320 #[.int .i64 x,.int .i64 y,Ku g1,Ku g2,Ku g3,Ku g4] w1 (K3 w1 (fun _:Unit=>Mw p) fun _ _=>True))(hN:N≤w.heap.size):
 Calls Tryz.prog 76 #[Mv x y (x+1) (y+1),.func (.func 320) #[] #[Ku g1,Ku g2,Ku g3,Ku g4]] w (K3 w (fun z:Option Addr×Nat=>Lr (Mn x y z)) fun z u=>Tu N p z u):=by
 have hr2:=hr
 unfold Qk at hr2
 refine K0.enter Tryz.func76 rfl ?_
 refine ZR ?_
 refine ZC (fun w1 hw h=>Nk hr) fun c=> ?_
 refine K0.un Zk ?_
 refine ZR ?_
 refine ZJ (decide (y<y+1)) true (decide_eq_true Zo) ?_
 refine K0.un Zk ?_
 refine ZR ?_
 refine ZJ (decide (x<x+1)) true (decide_eq_true Zo) ?_
 refine ZD 7 (fun w1 hw h=>hf w1 hw) fun v=> ?_
 refine K0.make (M5 (37) 1 #[(0,Mw p)]) (Km 1) (Kv 53 (Ur p).toArray) Zk (fun w1 hw h=>Ke Zk) (fun gb=> ?_)
 refine ZS 7 ?_
 refine K0.make (Nc 37 37 (.slice none 0 0) (Km 1 gb)) (fun z:Option Addr×Nat=> .slice z.1 1 z.2) (fun z u=>K6 u w.heap.size 53 4 z.1 1 z.2 (Ur p)) Zk (fun w1 hw h=>Ue (z0:=Mw ⟨0,0,0,0⟩) (bytes:=4) Zk Zk rfl Zd rfl (Xa p) Zd h.2 hw.size) (fun z=> ?_)
 refine ZR ?_
 refine ZJ (decide (IntKind.i64.wrap (x+1)<x+1)) false (decide_eq_false (by rw[IntWalk.i64_in _ Zo];omega)) ?_
 refine ZJ (decide (IntKind.i64.wrap (y+1)<y+1)) false (decide_eq_false (by rw[IntWalk.i64_in _ Zo];omega)) ?_
 refine ZV (Lr (Mn x y z)) (fun w1 hw h=>⟨z,rfl,hw,fun u k1 k2=>Tu.mono (h u k1 k2).2 hN⟩)
theorem bmade0_m{g1 g2 g3 g4:Nat}:Calls Tryz.prog 76 #[Mv 0 0 0 0,.func (.func 320) #[] #[Ku g1,Ku g2,Ku g3,Ku g4]] w (K3 w (fun _:Unit=>Lr X5) fun _ _=>True):=by
 refine K0.enter Tryz.func76 rfl ?_
 refine ZR ?_
 refine ZC (fun w1 hw h=>Pf) fun c=> ?_
 refine K0.un Zk ?_
 refine ZR ?_
 refine ZI false ?_
 exact ZW (Lr X5)
theorem bnew_m(hr:Qk x y (x+1) (y+1))(hp:p.clamp=p)(hN:N≤w.heap.size):Calls Tryz.prog 39 #[Mv x y (x+1) (y+1),Mw p] w (K3 w (fun z:Option Addr×Nat=> .tuple #[Lr (Mn x y z),.int .i64 0]) fun z u=>Tu N p z u):=by
 refine K0.enter Tryz.func39 rfl ?_
 refine ZR ?_
 refine ZC (fun w1 hw h=>R4 hr.in_) fun v=> ?_
 refine ZI false ?_
 refine ZC (fun w1 hw h=>Rv hr Eg Zd) fun a=> ?_
 refine ZI false ?_
 refine K0.call (val:=fun z:Option Addr×Nat=>Lr (Mn x y z)) (G:=fun z u=>Tu w.heap.size p z u) (xs:=[.v (Mv x y (x+1) (y+1)),.f 77 [(3,0)]]) Zk (fun β w1 hw h hB=>bmade_new hr (fun w2 hw2=>new1_m hp (K8.below (Pc hB (k:=3) (by simp[AV.ids]) (cs:=(Ur p).map .v) Zk) hw2)) hw.size) (fun z=> ?_)
 refine ZR ?_
 refine ZV (.tuple #[Lr (Mn x y z),.int .i64 0]) (fun w1 hw h=>⟨z,rfl,hw,fun u k1 k2=>Tu.mono (h u k1 k2).2 hN⟩)
theorem run_idxB{i:Nat}{ad:Addr}(hA:A=some ad)(hi:i<n):(Kc 381 (.slice A n c) i).run Tryz.prog w= .ok (.value (.pointer (some (ad.add (i*5))))) w:=by
 rw[hA];exact Lg (elem:=77) Zk Zk hi
theorem run_ldB{ad:Addr}(h:∀(j:Nat) (v:Value),(Bb m)[j]? =some v→w.cell? (ad.add j)=some v):(Kd 77 ad).run Tryz.prog w= .ok (.value (Lr m)) w:=
 N7 (vs:=Bb m) Zk Zk h
theorem ball1_m(hr:Qk x y (x+1) (y+1))(hm:BmA w x y p m):Calls Tryz.prog 287 #[Lr m] w (K3 w (fun _:Unit=> .bool false) fun _ _=>True):=by
 refine K0.enter Tryz.func287 rfl ?_
 refine ZR ?_
 refine ZC (fun w1 hw h=>Vv hr (hm.below hw)) fun v=> ?_
 exact ZW (.bool false)
theorem bindexB_m{M:List MV}(hr:Qk x y (x+1) (y+1))(hl:Kq w A n 5 Bb M)(hn:n≤1000000)(ha:∀m∈M,∃p,BmA w x y p m):Calls Tryz.prog 328 #[.slice A n c,.func (.func 287) #[] #[]] w (K3 w (fun _:Unit=> .int .i64 (-1)) fun _ _=>True):=by
 refine K0.enter Tryz.func328 rfl ?_
 refine ZR ?_
 refine K0.loop (ι:={q:Nat // q≤n}) 19 (fun q=>⟨[(0,.v (.slice A n c)),(1,.v (.func (.func 287) #[] #[])),(7,.v (.int .i64 n)),(8,.v (.int .i64 q.1))],[]⟩) (fun q u=>True) (fun q=>n-q.1) (⟨0,Nat.zero_le _⟩) Zk (fun _=>by kernel_rfl) ⟨Zk,Zk,Zk⟩ (fun u h=>trivial) ?_
 rintro⟨i,hi⟩ gg
 by_cases hlt:i<n
 case neg=>
  obtain rfl:i=n:=by omega
  refine ZR ?_
  refine ZJ (decide ((i:Int)<(i:Int))) false (decide_eq_false Zo) ?_
  refine K0.leave Zk ?_
  refine ZR ?_
  exact ZW (.int .i64 (-1))
 obtain⟨m,hx⟩:∃v,M[i]? =some v:=⟨_,List.getElem?_eq_getElem (by rw[hl.1];exact hlt)⟩
 obtain⟨ad,hA,hc⟩:=hl.2 i m hx
 obtain⟨p,hm⟩:=ha m (List.mem_of_getElem? hx)
 refine ZR ?_
 refine ZJ (decide ((i:Int)<(n:Int))) true (decide_eq_true Zo) ?_
 refine ZA (Kc 381 (.slice A n c) i) (.pointer (some (ad.add (i*5)))) (fun w1 hw h=>run_idxB hA hlt) ?_
 refine ZA (Kd 77 (ad.add (i*5))) (Lr m) (fun w1 hw h=>run_ldB fun j v hj=>Kt hw (hc j v hj)) ?_
 refine ZC (fun w1 hw h=>ball1_m hr (hm.below hw)) fun u=> ?_
 refine ZI false ?_
 refine K0.slot 8 (.int .i64 (IntKind.i64.wrap ((i:Int)+1))) (.int .i64 ((i+1:Nat):Int)) Zk (by rw[K7 hlt Zo]) ?_
 refine K0.next (⟨i+1,hlt⟩) Zk (by show n- (i+1)<n-i;omega) ⟨Zk,Zk,Zk⟩ (fun u h=>trivial)
theorem ball_m{M:List MV}(hr:Qk x y (x+1) (y+1))(hl:Kq w A n 5 Bb M)(hn:n≤1000000)(ha:∀m∈M,∃p,BmA w x y p m):Calls Tryz.prog 211 #[.slice A n c] w (K3 w (fun _:Unit=> .bool true) fun _ _=>True):=by
 have hct:∀w1,Below w.heap.size w w1→Calls Tryz.prog 286 #[.slice A n c,.func (.func 287) #[] #[]] w1 (K3 w1 (fun _:Unit=> .bool false) fun _ _=>True):=fun w1 hw1=>by
  refine K0.enter Tryz.func286 rfl ?_
  refine ZR ?_
  refine ZC (fun w1 hw h=>bindexB_m (c:=c) hr ((hl.below hw1).below hw) hn (fun m hm=>by obtain⟨k,hk⟩:=ha m hm;exact⟨k,(hk.below hw1).below hw⟩)) fun u=> ?_
  exact ZW (.bool false)
 refine K0.enter Tryz.func211 rfl ?_
 refine ZR ?_
 refine ZC (fun w1 hw h=>hct w1 hw) fun u=> ?_
 exact ZW (.bool true)
theorem all2{α:Type}{a b:α}{P:α→Prop}(h1:P a)(h2:P b):∀m∈[a,b],P m:=fun m hm=>by
 rcases List.mem_cons.1 hm with rfl|hm
 ·exact h1
 ·obtain rfl:=List.mem_singleton.1 hm;exact h2
theorem bover0_m(hr:Qk x y (x+1) (y+1)):Calls Tryz.prog 272 #[.int .i64 1,Lr X5,Lr X5,Lr X5] w (K3 w (fun _:Unit=> .tuple #[Lr X5,.int .i64 0]) fun _ _=>True):=by
 refine K0.enter Tryz.func272 rfl ?_
 refine ZR ?_
 refine K0.make (M5 (381) 2 #[(0,Lr X5),(1,Lr X5)]) (Km 2) (Kv 77 ([X5,X5].flatMap Bb).toArray) Zk (fun w1 hw h=>Ke Zk) (fun gl=> ?_)
 refine ZR ?_
 refine ZC (fun w1 hw h=>ball_m (x:=x) (y:=y) (c:=2) hr (Kq.lit (cl:=Bb) (l:=[X5,X5]) Jd h.2) Zd (all2 ⟨⟨0,0,0,0⟩,.nil⟩ ⟨⟨0,0,0,0⟩,.nil⟩)) fun v=> ?_
 refine ZI false ?_
 refine ZC (fun w1 hw h=>V9 hr (.nil rfl)) fun v2=> ?_
 refine ZI false ?_
 refine ZC (fun w1 hw h=>Je) fun v3=> ?_
 refine ZI false ?_
 refine K0.call (val:=fun _:Unit=>Lr X5) (G:=fun _ _=>True) (xs:=[.v (Mv 0 0 0 0),.f 320 [(4,0),(5,0),(6,0),(7,0)]]) Zk (fun β w1 hw h hB=>bmade0_m) (fun z=> ?_)
 refine ZR ?_
 exact ZW (.tuple #[Lr X5,.int .i64 0])
theorem bover_m{z3:MV}(hr:Qk x y (x+1) (y+1))(hs:Cq w s z)(hd:Cq w d z2)(cs:s.clamp=s)(cd:d.clamp=d)(hm:G9 w x y k z3)(os:s.ok)(od:d.ok)(hk:k≤255)(hN:N≤w.heap.size):
 Calls Tryz.prog 272 #[.int .i64 1,Lr (Mn x y z),Lr (Mn x y z2),Lr z3] w (K3 w (fun z:Option Addr×Nat=> .tuple #[Lr (Mn x y z),.int .i64 0]) fun z u=>Tu N (s.blend d k) z u):=by
 refine K0.enter Tryz.func272 rfl ?_
 refine ZR ?_
 refine K0.make (M5 (381) 2 #[(0,Lr (Mn x y z)),(1,Lr (Mn x y z2))]) (Km 2) (Kv 77 ([Mn x y z,Mn x y z2].flatMap Bb).toArray) Zk (fun w1 hw h=>Ke Zk) (fun gl=> ?_)
 refine ZR ?_
 refine ZC (fun w1 hw h=>ball_m (c:=2) hr (Kq.lit (cl:=Bb) (l:=[Mn x y z,Mn x y z2]) Jd h.2) (by show 2≤1000000;decide) (all2 ⟨_,(hs.below hw).a cs⟩ ⟨_,(hd.below hw).a cd⟩)) fun v=> ?_
 refine ZI false ?_
 refine ZC (fun w1 hw h=>V9 hr (hm.below hw)) fun v2=> ?_
 refine ZI false ?_
 refine ZC (fun w1 hw h=>Je) fun v3=> ?_
 refine ZI false ?_
 refine K0.call (val:=fun z:Option Addr×Nat=>Lr (Mn x y z)) (G:=fun z u=>Tu w.heap.size (s.blend d k) z u) (xs:=[.v (Mv x y (x+1) (y+1)),.f 320 [(4,0),(5,0),(6,0),(7,0)]]) Zk (fun β w1 hw h hB=>bmade_over hr (fun w2 hw2=>over1_m hr (K8.below (Pc hB (k:=4) (by simp[AV.ids]) (cs:=[.v (.int .i64 1)]) Zk) hw2) (K8.below (Pc hB (k:=5) (by simp[AV.ids]) (cs:=(Bb (Mn x y z)).map .v) Zk) hw2) (K8.below (Pc hB (k:=6) (by simp[AV.ids]) (cs:=(Bb (Mn x y z2)).map .v) Zk) hw2) (K8.below (Pc hB (k:=7) (by simp[AV.ids]) (cs:=(Bb z3).map .v) Zk) hw2) ((hs.below hw).below hw2) ((hd.below hw).below hw2) ((hm.below hw).below hw2) os od hk) hw.size) (fun q=> ?_)
 refine ZR ?_
 refine ZV (.tuple #[Lr (Mn x y q),.int .i64 0]) (fun w1 hw h=>⟨q,rfl,hw,fun u k1 k2=>Tu.mono (h u k1 k2).2 hN⟩)
def sl3(t:TypeId)(s:Value)(l h m:Int):Sem Next:=Instr.sliceAt t s (some (.int .i64 l)) (some (.int .i64 h)) (some (.int .i64 m)) >>= fun v=>pure (.value v)
def sl2(t:TypeId)(s:Value)(h m:Int):Sem Next:=Instr.sliceAt t s none (some (.int .i64 h)) (some (.int .i64 m)) >>= fun v=>pure (.value v)
theorem run_sl3{P:Program}{t e:TypeId}{sz:Nat}(ht:P.underlying t=some (.slice e))(he:P.elem t=e)(hs:N8 P e=some sz)(hc:1≤c):(sl3 t (.slice (some ad) 1 c) 0 1 1).run P w= .ok (.value (.slice (some (ad.add (0*sz))) 1 1)) w:=by
 have h1:=run_slice_lhm (P:=P) w t (some ad) 1 c (by rw[he];exact ht) .i64 .i64 .i64 0 1 1 Zd Zd Zd Zo
 have h2:=run_sliceAt_slice (P:=P) w t (.slice (some ad) 1 c) (some (.int .i64 0)) (some (.int .i64 1)) (some (.int .i64 1)) (by rw[he];exact ht)
 simp only[sl3,Sem.run_bind,h2,h1,he,Lf hs,Result.andThen_ok,Sem.run_pure]
 rfl
theorem run_sl2{P:Program}{t e:TypeId}{sz:Nat}(ht:P.underlying t=some (.slice e))(he:P.elem t=e)(hs:N8 P e=some sz)(hc:1≤c):(sl2 t (.slice (some ad) 1 c) 1 1).run P w= .ok (.value (.slice (some (ad.add (0*sz))) 1 1)) w:=by
 have h1:=run_slice_hm (P:=P) w t (some ad) 1 c (by rw[he];exact ht) .i64 .i64 1 1 Zd Zd Zo
 have h2:=run_sliceAt_slice (P:=P) w t (.slice (some ad) 1 c) none (some (.int .i64 1)) (some (.int .i64 1)) (by rw[he];exact ht)
 simp only[sl2,Sem.run_bind,h2,h1,he,Lf hs,Result.andThen_ok,Sem.run_pure]
 rfl
theorem Kq.at0{α:Type}{s:Nat}{cl:α→List Value}{a:α}(h:Kq w (Option.some ad) 1 s cl [a]):Kq w (Option.some (ad.add (0*s))) 1 s cl [a]:=by
 refine⟨rfl,fun i x hi=>⟨_,rfl,fun j v hj=> ?_⟩⟩
 obtain⟨ad',e,hc⟩:=h.2 i x hi
 injection e with e;subst e
 have:=hc j v hj
 rw[T6]at this
 rw[T6,T6,show 0*s+(i*s+j)=i*s+j by omega]
 exact this
theorem appR1_m{P:Program}{t e:TypeId}{s bytes B:Nat}{z0:Value}{cs:List Value}(hu:P.underlying t=some (.slice e))(hi:S5 P e=some (z0,s,bytes))(hzs:z0.cells.size=s)(hs:0<s)(hr:Mu w w.heap.size s A 1 cs)(h1:∀v∈cs,v.oneCell'=true)(hb:bytes≤10000)(hB:B≤w.heap.size):
 Lp P w (fun z:Option Addr×Nat=> .slice z.1 1 z.2) (fun z u=>K6 u B e s z.1 1 z.2 cs) (Nc t t (.slice none 0 0) (.slice A 1 c)):=by
 have:=M9 (P:=P) (A:=none) (n:=0) (c:=0) (m:=1) (cc:=c) (xs:=[]) hu hi hzs hs K6.nil_ hB hr h1 Zd hb
 refine mut_make ?_
 rw[List.nil_append]at this
 exact this
theorem crop_m(hr:Qk x y (x+1) (y+1))(hz:Cq w p z)(hp:p.clamp=p)(hN:N≤w.heap.size):Calls Tryz.prog 140 #[Lr (Mn x y z),Mv x y (x+1) (y+1)] w (K3 w (fun z:Option Addr×Nat=> .tuple #[Lr (Mn x y z),.int .i64 0]) fun z u=>Tu N p z u):=by
 have hr2:=hr
 unfold Qk at hr2
 obtain⟨hrow,hcap⟩:=hz
 obtain⟨zA,zc⟩:=z
 obtain⟨ad,hA,hc⟩:=hrow.2 0 p rfl
 obtain rfl:zA=some ad:=hA
 refine K0.enter Tryz.func140 rfl ?_
 refine ZR ?_
 refine ZC (fun w1 hw h=>Vv hr (Cq.a (Cq.below ⟨hrow,hcap⟩ hw) hp)) fun v=> ?_
 refine ZI false ?_
 refine ZD 7 (fun w1 hw h=>Zi hr) fun i=> ?_
 refine ZT 25 (.int .i64 (IntKind.i64.wrap (x+1-x))) (.int .i64 1) (by rw[show x+1-x=1 by omega];rfl) ?_
 refine K0.un Zk ?_
 refine ZR ?_
 refine ZJ (decide (y<y+1)) true (decide_eq_true Zo) ?_
 refine ZD 11 (fun w1 hw h=>B1 hr) fun ix=> ?_
 refine K0.ask (sl3 37 (.slice (some ad) 1 zc) 0 1 1) (.slice (some (ad.add (0*4))) 1 1) Zk (fun w1 hw h=>run_sl3 (e:=53) Zk Zk Zk hcap) ?_
 refine ZS 12 ?_
 refine K0.make (Nc 37 37 (.slice none 0 0) (.slice (some (ad.add (0*4))) 1 1)) (fun z:Option Addr×Nat=> .slice z.1 1 z.2) (fun z u=>K6 u w.heap.size 53 4 z.1 1 z.2 (Ur p)) Zk (fun w1 hw h=>appR1_m (z0:=Mw ⟨0,0,0,0⟩) (bytes:=4) Zk Zk rfl Zd (by have:=Kq.reads (Kq.below (Kq.at0 hrow) hw) pxC_len Zd;simpa using this) (Xa p) Zd hw.size) (fun q=> ?_)
 refine ZR ?_
 refine ZJ (decide (IntKind.i64.wrap (y+1)<y+1)) false (decide_eq_false (by rw[IntWalk.i64_in _ Zo];omega)) ?_
 refine ZV (.tuple #[Lr (Mn x y q),.int .i64 0]) (fun w1 hw h=>⟨q,rfl,hw,fun u k1 k2=>Tu.mono (h u k1 k2).2 hN⟩)
end
end Go.Proofs.YtpgkbllcnphmbaaGreatDoor
