/-
 A part of the proof.
-/
import Derived.Test.YtoakjcolbjifnaaGreatDoorBHt
import Derived.Test.YtoakjcolbjifnaaGreatDoorBBf
import Derived.Test.YtoakjcolbjifnaaGreatDoorBMh
import Derived.Test.YtoakjcolbjifnaaGreatDoorBOb
import Derived.Test.YtoakjcolbjifnaaGreatDoorBWc
import Derived.OpenShut
import Derived.Lib.SmallJoins
import Derived.ChangeSlices
import Derived.Deep.Slices
open Array renaming getElem?_eq_some_iff->AP
open Bool renaming and_eq_true->AK,eq_false_iff->CG
open Go.IntWalk renaming i64_in->AD
open Go.Result renaming andThen_ok->AQ,andThen->CL
open Go.Sem renaming run_bind->AU,run_pure->AY
open Go.Value renaming int->AI,cells->AX,slice->BY
open Int renaming natCast_mul->BQ
open List renaming getElem?_eq_getElem->AA,mem_singleton->AB,mem_of_getElem?->AE,not_mem_nil->AF,length_append->AM,getElem?_eq_some_iff->AN,mem_append->AO,map_append->AR,mem_cons->BA,mem_cons_self->BB,getElem?_map->BC,all_eq_true->BD,mem_cons_of_mem->BE,getD_eq_getElem?_getD->BF,length_pos_iff->BG,take_of_length_le->BJ,map_cons->BK,take_append_drop->BM,length_set->BO,length_map->BP,replicate->BS,getElem?_append_right->BT,length_take->BV,length_eq_zero_iff->BW,getElem?_toArray->BZ,mem_map->CB,map_map->CC,length_drop->CI,nil_append->CJ,mapM_cons->CK
open Nat renaming zero_le->AC,le_trans->AH,le_refl->AL,mul_le_mul_left->AZ,zero_add->BH,mul_one->BI,mul_le_mul->BR,add_one_sub_one->CA,mul_comm->CD,zero_mul->CE,add_comm->CF,add_mul->CH
open Option renaming map_some->BN,bind_some->BU,map_eq_some_iff->BX
open Option.some renaming injEq->AW
open Prod.mk renaming injEq->BL
open Go renaming World->YM,Value->YI,Program->YH,Operand->XZ,Deferred->XY,TypeId->XX,Calls->XW,PanicEntry->XV,FuncId->XU,Oper->XT,Ending->XS,Addr->XR
open Go.IntKind renaming i64->XQ,u64->XP,u32->XO,u8->XN
namespace Go.Proofs.YtoakjcolbjifnaaGreatDoor
set_option maxRecDepth 100000
set_option maxHeartbeats 8000000
set_option linter.unusedVariables false
set_option linter.unusedSimpArgs false
open Go.RowKit Go.Proofs.Tryz
open Go.Proofs.Tryz renaming prog->XM
abbrev Zr(b:Nat):List (List Pt)->Prop:=kA λL=>L.flatten.length<=b
abbrev tM{P:List (List Pt)->Prop}(x:Cy P):YI:= .slice x.1.1 x.2.1.length x.1.2
section
variable{w W u wa:YM}{p q a b v:Pt}{g g2 n c N i k B:Nat}{z wd lm:Int}{A A2:YY}{L l:List Pt}{S:Ef}{y y0 y':YZ}{H H0 H2:List LP}
structure RJ(B g:Nat)(y:YZ)(H:List LP)(u:YM):Prop where
 b:Kg u g 132 [.slice y.1 H.length y.2]
 o:Kf B y H.length H u
theorem RJ.put(h:RJ B g y H wa)(D:∀x∈H2,K6 wa B 74 2 x.2.1 x.1.length x.2.2 (x.1.flatMap K9))(t:∀b,b∉g::bl y.1->wa.heap[b]? =u.heap[b]?)
 (m:Kg u g 132 [.slice y'.1 (H++H2.filter Qs).length y'.2]/\K6 u B 296 1 y'.1 (H++H2.filter Qs).length y'.2 ((H++H2.filter Qs).flatMap Qc)):RJ B g y' (H++H2.filter Qs) u:=by
 have f:∀x:LP,K6 wa B 74 2 x.2.1 x.1.length x.2.2 (x.1.flatMap K9)->K6 u B 74 2 x.2.1 x.1.length x.2.2 (x.1.flatMap K9):=λx e=>e.left t λb s j=>by
  rcases BA.1 j with j|j
  .exact h.b.ne e Zd b s j
  .exact N8 e h.o.own Zd b s j
 refine⟨m.1,m.2,λx e=> ?_⟩;rcases AO.1 e with e|e
 .exact f x (h.o.ring x e)
 .exact f x (D x (List.mem_filter.1 e).1)
theorem RJ.own(h:RJ B g y H u)(f:B<=g):∀b∈g::bl y.1,B<=b/\∃cs ty own,u.heap[b]? =some (.cells cs ty own):=λb e=>by
 rcases BA.1 e with rfl|e
 .exact⟨f,_,_,_,h.b⟩
 .exact⟨(h.o.own.lt b e).1,(h.o.own.blk b e).2⟩
theorem RJ.lt(h:RJ B g y H u):∀b∈g::bl y.1,b<u.heap.size:=λb e=>by
 rcases BA.1 e with rfl|e
 .exact h.b.lt
 .exact(h.o.own.lt b e).2
theorem VE:∀H2:List LP,(K5 (H2.filter Qs)).flatten.length<=(K5 H2).flatten.length
 | []=>AL _
 |x::r=>by
  have f:=VE r;have e:(K5 (x::r)).flatten.length=x.1.length+(K5 r).flatten.length:=by show(x.1::K5 r).flatten.length=_;rw[List.flatten_cons,AM]
  rw[e,List.filter_cons];split
  .show(x.1::K5 (r.filter Qs)).flatten.length<=_;rw[List.flatten_cons,AM];omega
  .omega
theorem Z2(m:Below W.heap.size W w)(t:W.heap.size<=g)(h:RJ W.heap.size g y0 H0 w)(F:Kk w A2 k 1 Qc H2)(f:∀b∈bl A2,b∉g::bl y0.1)(s:k<=100000)(D:H0.length<=100000):
 Ca 352 #[.slice A2 k c,Kp g] w (L4 w (g::bl y0.1) (λ_:YZ=> .tuple #[]) λy u=>Kg u g 132 [.slice y.1 (H0++H2.filter Qs).length y.2]/\K6 u W.heap.size 296 1 y.1 (H0++H2.filter Qs).length y.2 ((H0++H2.filter Qs).flatMap Qc)):=by
 refine(oU (c:=c) m t h.b h.o.own F f s D).mono λe G q=> ?_
 obtain⟨x,E,k2,j⟩:=q;exact⟨x,E,k2,λu a b=>⟨(j u a b).1,(j u a b).2.1⟩⟩
theorem Dj{b d:Nat}(h:Zr b (K5 H))(o:(K5 H2).flatten.length<=d):Zr (b+d) (K5 (H++H2.filter Qs)):=by
 have e:K5 (H++H2.filter Qs)=K5 H++K5 (H2.filter Qs):=AR;have m:=VE H2;refine⟨?_,λr f=> ?_⟩
 .show(K5 (H++H2.filter Qs)).flatten.length<=b+d;rw[e,List.flatten_append,AM];have:=h.1;omega
 .rw[e]at f;rcases AO.1 f with f|f
  .exact h.2 r f
  .obtain⟨x,j,rfl⟩:=CB.1 f;have:=YP (List.mem_filter.1 j).2;exact this
theorem Pf{b d:Nat}(h:Zr b (K5 H))(e:b<=d):Zr d (K5 H):=⟨AH h.1 e,h.2⟩
theorem bH{l e:List Pt}{z f:YZ}{b:Nat}(h:l.length+e.length<=b):(K5 [((l,z):LP),(e,f)]).flatten.length<=b:=by
 show([l,e]:List (List Pt)).flatten.length<=b;simpa using h
theorem Xy{b:Nat}(h:Zr b (K5 H)):H.length<=b:=AH (Uy h.2) h.1
abbrev UU(g:Nat):YI:= .func (.func 352) #[] #[Kp g]
theorem i6{cl:Bool}(hP:Tw S)(P:Kk w A n 2 K9 L)(hn:n<=4096)(hN:N<=w.heap.size):Ca 325 #[.agg #[.slice A n c,.bool cl],Bj S y] w (K4 w (λx:Cy (Zr ((4+jB S)*n+32))=>tM x) λx u=>Kf N x.1 x.2.1.length x.2.1 u):=by
 have hwd:=hP.wd;have hl:=P.1;have hj16:jB S<=16:=by unfold jB;split<;>decide
 refine uf func325 rfl<|ZS 2<|uo O (stop:=1000) 5 _<|uk (Vz 132) (Kp) (λg u=>Kg u g 132 [.slice none 0 0]/\w.heap.size<=g/\g∉[]) O (λt s h=>Ny (z:= .slice none 0 0) O s.size Zs) λg=>ZR<|um (p:=w.heap.size<=g) (λu hu h=>h.2.2.1) O λT=>uN (Φ':=λu=>RJ w.heap.size g (none,0) [] u) O (λu h=>⟨h.2.1,ux⟩) ?_
 by_cases h0:n=0
 .refine ZJ (((n:Int)==0)) true (by rw[h0];rfl)<|ZV (.slice none 0 0) (λt s h=>⟨((none,0),⟨[],⟨AC _,λr P=>absurd P AF⟩⟩),rfl,s,λu Z k2=>ux⟩)
 obtain⟨a0,ha0⟩:∃v,L[0]? =some v:=⟨_,AA I⟩
 obtain⟨ad,hA,_⟩:=P.2 0 a0 ha0;obtain rfl:A=some ad:=hA;have K:∀{t:YM} {i:Nat} {q:Pt},Below w.heap.size w t->L[i]? =some q->∀(j:Nat) (v:YI),(K9 q)[j]? =some v->t.cell? ((ad.add (i*2)).add j)=some v:=λY hq j v hj=>by
  obtain⟨ad',e,hc⟩:=P.2 _ _ hq;injection e with e;subst e;exact L5 Y (hc j v hj)
 refine ZJ (((n:Int)==0)) false (YR.2 I) ?_
 by_cases h1:n=1
 .refine ZJ (((n:Int)==1)) true (by rw[h1];rfl)<|ZB 2 (Kd 296 (.slice (some ad) n c) (0:Nat)) (.pointer (some (ad.add (0*2)))) (λt s h=>Lh (k:=0) rfl I)<|ZB 3 (Ke 74 (ad.add (0*2))) (Km a0) (λt s h=>M5 (K s ha0))<|ZD 6 (λt s h=>ip (p:=a0) (y:=y) (N:=w.heap.size) hP s.size) λx=>uk (Lr 132 1 #[(0,Sn x.1)]) (Kr 1) (λD u=>Kw 296 ([((x.1.2,x.1.1):LP)].flatMap Qc).toArray D u/\D∉g::bl ((none,0):YZ).1) O (λt s h=>Q2 (R:=λD=>D∉g::bl ((none,0):YZ).1) O (λD h1 hm=>by have:=(h.1).lt D hm;omega)) λD=>ZR<|uH (L:=g::bl ((none,0):YZ).1) (val:=λ_:YZ=> .tuple #[]) (G:=λy' u=>Kg u g 132 [.slice y'.1 (([]:List LP)++([((x.1.2,x.1.1):LP)]).filter Qs).length y'.2]/\K6 u w.heap.size 296 1 y'.1 (([]:List LP)++([((x.1.2,x.1.1):LP)]).filter Qs).length y'.2 ((([]:List LP)++([((x.1.2,x.1.1):LP)]).filter Qs).flatMap Qc)) (Φ':=λy' u=>RJ w.heap.size g y' (([]:List LP)++([((x.1.2,x.1.1):LP)]).filter Qs) u) (λt s h=>Z2 (c:=1) s T h.1.1 (Kk.lit (cl:=Qc) (l:=[((x.1.2,x.1.1):LP)]) (λ_=>rfl) h.2.1) (λb hb=>by obtain rfl:=AB.1 hb;exact h.2.2) (by show 1<=100000;decide) (by show 0<=100000;decide)) (λu h=>(h.1.1).own T) (λy' wa u e1 X h U=>RJ.put h.1.1 (λq hq=>by obtain rfl:=AB.1 hq;exact h.1.2) X U) O O λM=>ZR<|ZA (Ke 132 ⟨g,0,none⟩) (.slice M.1 (([]:List LP)++ [((x.1.2,x.1.1):LP)].filter Qs).length M.2) (λt s h=>h.b.load1 O)<|ZV (.slice M.1 (([]:List LP)++ [((x.1.2,x.1.1):LP)].filter Qs).length M.2) (λt s h=>⟨(M,⟨([]:List LP)++ [((x.1.2,x.1.1):LP)].filter Qs,Pf (Dj (H:=[]) (b:=0) (d:=16) ⟨AC _,λr P=>absurd P AF⟩ (T3 x.2)) I⟩),rfl,s,λu Z k2=>Kf.mono (h u Z k2).o hN⟩)
 refine ZJ (((n:Int)==1)) false (YR.2 I) ?_;cases cl
 case true=>
  refine ZI true<|uj (ι:={q:(Nat×(YZ))×List LP // q.1.1<=n/\Zr (4*q.1.1) (K5 q.2)}) 121 (λq=>⟨[(2,.p 2 0),(3,.p 3 0),vS 4 none 0 0,vV 5 (Kp g),vV 6 (UU g),(7,.p 7 0),(8,.p 8 0),(9,.f 354 [(7,0),(8,0)]),vI 39 ((n:Nat):Int),vI 40 (q.1.1.1:Nat)],[(2,[.v (.slice (some ad) n c),.v (.bool true)]),(3,[.v (.int .i64 S.w),.v (.int .i64 S.j),.v (.int .i64 S.c),.v (.int .i64 S.m),.v (.slice y.1 S.d.length y.2),.v (.int .i64 S.p)]),(7,[.v (.slice (some ad) n c)]),(8,[.v (.int .i64 (n:Int))])]⟩) (λq u=>RJ w.heap.size g q.1.1.2 q.1.2 u) (λq=>n-q.1.1.1) (⟨((0,(none,0)),[]),AC _,⟨AC _,λr P=>absurd P AF⟩⟩) O Zf Zt (λ_ h=>h) ?_
  rintro⟨⟨⟨i,E⟩,H⟩,hi,F⟩ gg;have hi:i<=n:=hi;have F:Zr (4*i) (K5 H):=F;have hHc:=Xy F
  by_cases Q:i<n
  case pos=>
   obtain⟨a,ha⟩:∃v,L[i]? =some v:=⟨_,AA I⟩
   refine ZR<|ul (decide ((i:Int)<((n:Nat):Int))) true O (YU I)<|ZS 8<|YC 50 ((i:Int)+1) ((i+1:Nat):Int)<|ZB 3 (Kd 296 (.slice (some ad) n c) i) (.pointer (some (ad.add (i*2)))) (λt s h=>Lh rfl I)<|ZB 4 (Ke 74 (ad.add (i*2))) (Km a) (λt s h=>M5 (K s ha))<|uy (val:=λp:Pt=>Km p) (G:=λ_ _=>True) (xs:=[.v (.int .i64 ((i+1:Nat):Int)),.p 7 0,.p 8 0]) O (λβ t s h wJ=>Ds (P.below s) (Kz wJ (k:=7) (by simp[AV.ids]) (cs:=[.v (.slice (some ad) n c)]) O) (Kz wJ (k:=8) (by simp[AV.ids]) (cs:=[.v (.int .i64 (n:Int))]) O) I I I I) λp1=>ZR<|ZD 12 (λt s h=>ef (a:=a) (b:=p1) (N:=w.heap.size) hwd s.size) λx=>uk (Lr 132 1 #[(0,Sn x.1)]) (Kr 1) (λD u=>Kw 296 ([((x.1.2,x.1.1):LP)].flatMap Qc).toArray D u/\D∉g::bl E.1) O (λt s h=>Q2 (R:=λD=>D∉g::bl E.1) O (λD h1 hm=>by have:=(h.1.1).lt D hm;omega)) λD=>ZR<|uH (L:=g::bl E.1) (val:=λ_:YZ=> .tuple #[]) (G:=λy' u=>Kg u g 132 [.slice y'.1 (H++([((x.1.2,x.1.1):LP)]).filter Qs).length y'.2]/\K6 u w.heap.size 296 1 y'.1 (H++([((x.1.2,x.1.1):LP)]).filter Qs).length y'.2 ((H++([((x.1.2,x.1.1):LP)]).filter Qs).flatMap Qc)) (Φ':=λy' u=>RJ w.heap.size g y' (H++([((x.1.2,x.1.1):LP)]).filter Qs) u) (λt s h=>Z2 (c:=1) s T h.1.1.1 (Kk.lit (cl:=Qc) (l:=[((x.1.2,x.1.1):LP)]) (λ_=>rfl) h.2.1) (λb hb=>by obtain rfl:=AB.1 hb;exact h.2.2) (by show 1<=100000;decide) I) (λu h=>(h.1.1.1).own T) (λy' wa u e1 X h U=>RJ.put h.1.1.1 (λq hq=>by obtain rfl:=AB.1 hq;exact h.1.2) X U) O O λM=>ZR<|YB 40 ((i:Int)+1) ((i+1:Nat):Int)<|ui (⟨((i+1,M),H++ [((x.1.2,x.1.1):LP)].filter Qs),Zn,Pf (Dj (d:=4) F (T3 x.2)) Zn⟩) O Zn Zt (λ_ h=>h)
  refine ZR<|YN ((i:Int)<((n:Nat):Int))<|ug O<|ZR<|uj (ι:={q:(Nat×(YZ))×List LP // q.1.1<=n/\Zr (4*n+jB S*q.1.1) (K5 q.2)}) 121 (λq=>⟨[(2,.p 2 0),(3,.p 3 0),vS 4 none 0 0,vV 5 (Kp g),vV 6 (UU g),(7,.p 7 0),(8,.p 8 0),(9,.f 354 [(7,0),(8,0)]),vI 58 (n:Int),vI 59 (q.1.1.1:Nat)],[(2,[.v (.slice (some ad) n c),.v (.bool true)]),(3,[.v (.int .i64 S.w),.v (.int .i64 S.j),.v (.int .i64 S.c),.v (.int .i64 S.m),.v (.slice y.1 S.d.length y.2),.v (.int .i64 S.p)]),(7,[.v (.slice (some ad) n c)]),(8,[.v (.int .i64 (n:Int))])]⟩) (λq u=>RJ w.heap.size g q.1.1.2 q.1.2 u) (λq=>n-q.1.1.1) (⟨((0,E),H),AC _,Pf F (by rw[Nat.mul_zero];omega)⟩) O Zf Zt (λ_ h=>h) ?_
  rintro⟨⟨⟨i,E⟩,H⟩,hi,F⟩ gg2;have hi:i<=n:=hi;have F:Zr (4*n+jB S*i) (K5 H):=F;have hHc:=Xy F;have hji:jB S*i<=16*4096:=BR hj16 I;have jn:∀(t:YM) (a b v:Pt),Below w.heap.size w t->RJ w.heap.size g E H t->Ca 356 #[Km a,Km v,Km b,Bj S y] t (K4 t (λx:pJ 1 (jB S)=>tx x) λx u=>tb w.heap.size x u/\∀b∈bl x.1.1,b∉g::bl E.1):=λt a b v Y hj=>(gv (a:=a) (b:=b) (v:=v) (y:=y) (N:=t.heap.size) hP (AL _)).mono λe w' k=>by
   obtain⟨x,Z,k2,k3⟩:=k;exact⟨x,Z,k2,λu c d=>⟨Kf.mono (k3 u c d) Y.size,λb' hb' hc=>by have h1:=((k3 u c d).own.lt b' hb').1;have h2:=hj.lt b' hc;omega⟩⟩
  by_cases Q:i<n
  case pos=>
   obtain⟨a,ha⟩:∃v,L[i]? =some v:=⟨_,AA I⟩
   refine ZR<|YL ((i:Int)<(n:Int))<|uu true O<|ZS 4<|YB 77 ((i:Int)-1) ((i:Int)-1)<|ZS 12<|YC 85 ((i:Int)+1) ((i+1:Nat):Int)<|ZB 7 (Kd 296 (.slice (some ad) n c) i) (.pointer (some (ad.add (i*2)))) (λt s h=>Lh rfl I)<|ZB 8 (Ke 74 (ad.add (i*2))) (Km a) (λt s h=>M5 (K s ha))<|uy (val:=λp:Pt=>Km p) (G:=λ_ _=>True) (xs:=[.v (.int .i64 ((i:Int)-1)),.p 7 0,.p 8 0]) O (λβ t s h wJ=>Ds (P.below s) (Kz wJ (k:=7) (by simp[AV.ids]) (cs:=[.v (.slice (some ad) n c)]) O) (Kz wJ (k:=8) (by simp[AV.ids]) (cs:=[.v (.int .i64 (n:Int))]) O) I I I I) λp0=>ZR<|uy (val:=λp:Pt=>Km p) (G:=λ_ _=>True) (xs:=[.v (.int .i64 ((i+1:Nat):Int)),.p 7 0,.p 8 0]) O (λβ t s h wJ=>Ds (P.below s) (Kz wJ (k:=7) (by simp[AV.ids]) (cs:=[.v (.slice (some ad) n c)]) O) (Kz wJ (k:=8) (by simp[AV.ids]) (cs:=[.v (.int .i64 (n:Int))]) O) I I I I) λp1=>ZR<|ZC (λt s h=>jn t p0 p1 a s h.1.1) λx=>uH (L:=g::bl E.1) (val:=λ_:YZ=> .tuple #[]) (G:=λy' u=>Kg u g 132 [.slice y'.1 (H++(x.2.1).filter Qs).length y'.2]/\K6 u w.heap.size 296 1 y'.1 (H++(x.2.1).filter Qs).length y'.2 ((H++(x.2.1).filter Qs).flatMap Qc)) (Φ':=λy' u=>RJ w.heap.size g y' (H++(x.2.1).filter Qs) u) (λt s h=>Z2 (c:=x.1.2) s T h.1.1.1 h.2.1.polyA.row h.2.2 (by have:=x.2.2.1;omega) I) (λu h=>(h.1.1.1).own T) (λy' wa u e1 X h U=>RJ.put h.1.1.1 h.2.1.ring X U) O O λM=>ZR<|YB 59 ((i:Int)+1) ((i+1:Nat):Int)<|ui (⟨((i+1,M),H++x.2.1.filter Qs),Q,Pf (Dj (d:=jB S) F x.2.2.2) (by rw[Nat.mul_succ];omega)⟩) O Zn Zt (λ_ h=>h)
  refine ZR<|YN ((i:Int)<(n:Int))<|ug O<|ZR ?_
  obtain rfl:i=n:=I
  refine ZI false<|ZA (Ke 132 ⟨g,0,none⟩) (.slice E.1 (H).length E.2) (λt s h=>h.b.load1 O)<|ZV (.slice E.1 (H).length E.2) (λt s h=>⟨(E,⟨H,Pf F (by rw[CH];omega)⟩),rfl,s,λu Z k2=>Kf.mono (h u Z k2).o hN⟩)
 case false=>
  refine YB 10 ((n:Int)-1) ((n-1:Nat):Int)<|ZI false<|uj (ι:={q:(Nat×(YZ))×List LP // q.1.1<=n-1/\Zr (4*q.1.1) (K5 q.2)}) 121 (λq=>⟨[(2,.p 2 0),(3,.p 3 0),vS 4 none 0 0,vV 5 (Kp g),vV 6 (UU g),(7,.p 7 0),(8,.p 8 0),(9,.f 354 [(7,0),(8,0)]),vI 39 ((n-1:Nat):Int),vI 40 (q.1.1.1:Nat)],[(2,[.v (.slice (some ad) n c),.v (.bool false)]),(3,[.v (.int .i64 S.w),.v (.int .i64 S.j),.v (.int .i64 S.c),.v (.int .i64 S.m),.v (.slice y.1 S.d.length y.2),.v (.int .i64 S.p)]),(7,[.v (.slice (some ad) n c)]),(8,[.v (.int .i64 (n:Int))])]⟩) (λq u=>RJ w.heap.size g q.1.1.2 q.1.2 u) (λq=>n-1-q.1.1.1) (⟨((0,(none,0)),[]),AC _,⟨AC _,λr P=>absurd P AF⟩⟩) O Zf Zt (λ_ h=>h) ?_
  rintro⟨⟨⟨i,E⟩,H⟩,hi,F⟩ gg;have hi:i<=n-1:=hi;have F:Zr (4*i) (K5 H):=F;have hHc:=Xy F
  by_cases Q:i<n-1
  case pos=>
   obtain⟨a,ha⟩:∃v,L[i]? =some v:=⟨_,AA I⟩
   refine ZR<|ul (decide ((i:Int)<((n-1:Nat):Int))) true O (YU I)<|ZS 8<|YC 50 ((i:Int)+1) ((i+1:Nat):Int)<|ZB 3 (Kd 296 (.slice (some ad) n c) i) (.pointer (some (ad.add (i*2)))) (λt s h=>Lh rfl I)<|ZB 4 (Ke 74 (ad.add (i*2))) (Km a) (λt s h=>M5 (K s ha))<|uy (val:=λp:Pt=>Km p) (G:=λ_ _=>True) (xs:=[.v (.int .i64 ((i+1:Nat):Int)),.p 7 0,.p 8 0]) O (λβ t s h wJ=>Ds (P.below s) (Kz wJ (k:=7) (by simp[AV.ids]) (cs:=[.v (.slice (some ad) n c)]) O) (Kz wJ (k:=8) (by simp[AV.ids]) (cs:=[.v (.int .i64 (n:Int))]) O) I I I I) λp1=>ZR<|ZD 12 (λt s h=>ef (a:=a) (b:=p1) (N:=w.heap.size) hwd s.size) λx=>uk (Lr 132 1 #[(0,Sn x.1)]) (Kr 1) (λD u=>Kw 296 ([((x.1.2,x.1.1):LP)].flatMap Qc).toArray D u/\D∉g::bl E.1) O (λt s h=>Q2 (R:=λD=>D∉g::bl E.1) O (λD h1 hm=>by have:=(h.1.1).lt D hm;omega)) λD=>ZR<|uH (L:=g::bl E.1) (val:=λ_:YZ=> .tuple #[]) (G:=λy' u=>Kg u g 132 [.slice y'.1 (H++([((x.1.2,x.1.1):LP)]).filter Qs).length y'.2]/\K6 u w.heap.size 296 1 y'.1 (H++([((x.1.2,x.1.1):LP)]).filter Qs).length y'.2 ((H++([((x.1.2,x.1.1):LP)]).filter Qs).flatMap Qc)) (Φ':=λy' u=>RJ w.heap.size g y' (H++([((x.1.2,x.1.1):LP)]).filter Qs) u) (λt s h=>Z2 (c:=1) s T h.1.1.1 (Kk.lit (cl:=Qc) (l:=[((x.1.2,x.1.1):LP)]) (λ_=>rfl) h.2.1) (λb hb=>by obtain rfl:=AB.1 hb;exact h.2.2) (by show 1<=100000;decide) I) (λu h=>(h.1.1.1).own T) (λy' wa u e1 X h U=>RJ.put h.1.1.1 (λq hq=>by obtain rfl:=AB.1 hq;exact h.1.2) X U) O O λM=>ZR<|YB 40 ((i:Int)+1) ((i+1:Nat):Int)<|ui (⟨((i+1,M),H++ [((x.1.2,x.1.1):LP)].filter Qs),Zn,Pf (Dj (d:=4) F (T3 x.2)) Zn⟩) O Zn Zt (λ_ h=>h)
  refine ZR<|YN ((i:Int)<((n-1:Nat):Int))<|ug O<|ZR<|uj (ι:={q:(Nat×(YZ))×List LP // q.1.1<=n/\Zr (4*n+jB S*q.1.1) (K5 q.2)}) 121 (λq=>⟨[(2,.p 2 0),(3,.p 3 0),vS 4 none 0 0,vV 5 (Kp g),vV 6 (UU g),(7,.p 7 0),(8,.p 8 0),(9,.f 354 [(7,0),(8,0)]),vI 58 (n:Int),vI 59 (q.1.1.1:Nat)],[(2,[.v (.slice (some ad) n c),.v (.bool false)]),(3,[.v (.int .i64 S.w),.v (.int .i64 S.j),.v (.int .i64 S.c),.v (.int .i64 S.m),.v (.slice y.1 S.d.length y.2),.v (.int .i64 S.p)]),(7,[.v (.slice (some ad) n c)]),(8,[.v (.int .i64 (n:Int))])]⟩) (λq u=>RJ w.heap.size g q.1.1.2 q.1.2 u) (λq=>n-q.1.1.1) (⟨((0,E),H),AC _,Pf F (by rw[Nat.mul_zero];omega)⟩) O Zf Zt (λ_ h=>h) ?_
  rintro⟨⟨⟨i,E⟩,H⟩,hi,F⟩ gg2;have hi:i<=n:=hi;have F:Zr (4*n+jB S*i) (K5 H):=F;have hHc:=Xy F;have hji:jB S*i<=16*4096:=BR hj16 I;have jn:∀(t:YM) (a b v:Pt),Below w.heap.size w t->RJ w.heap.size g E H t->Ca 356 #[Km a,Km v,Km b,Bj S y] t (K4 t (λx:pJ 1 (jB S)=>tx x) λx u=>tb w.heap.size x u/\∀b∈bl x.1.1,b∉g::bl E.1):=λt a b v Y hj=>(gv (a:=a) (b:=b) (v:=v) (y:=y) (N:=t.heap.size) hP (AL _)).mono λe w' k=>by
   obtain⟨x,Z,k2,k3⟩:=k;exact⟨x,Z,k2,λu c d=>⟨Kf.mono (k3 u c d) Y.size,λb' hb' hc=>by have h1:=((k3 u c d).own.lt b' hb').1;have h2:=hj.lt b' hc;omega⟩⟩
  by_cases Q:i<n
  case pos=>
   obtain⟨a,ha⟩:∃v,L[i]? =some v:=⟨_,AA I⟩
   refine ZR<|ul (decide ((i:Int)<(n:Int))) true O (YU I)<|ZS 5<|uM 66 O ?_ ?_
   .refine ZR<|uz O ?_ ?_
    .refine ZS 4<|YB 77 ((i:Int)-1) ((i:Int)-1)<|ZS 12<|YC 85 ((i:Int)+1) ((i+1:Nat):Int)<|ZB 7 (Kd 296 (.slice (some ad) n c) i) (.pointer (some (ad.add (i*2)))) (λt s h=>Lh rfl I)<|ZB 8 (Ke 74 (ad.add (i*2))) (Km a) (λt s h=>M5 (K s ha))<|uy (val:=λp:Pt=>Km p) (G:=λ_ _=>True) (xs:=[.v (.int .i64 ((i:Int)-1)),.p 7 0,.p 8 0]) O (λβ t s h wJ=>Ds (P.below s) (Kz wJ (k:=7) (by simp[AV.ids]) (cs:=[.v (.slice (some ad) n c)]) O) (Kz wJ (k:=8) (by simp[AV.ids]) (cs:=[.v (.int .i64 (n:Int))]) O) I I I I) λp0=>ZR<|uy (val:=λp:Pt=>Km p) (G:=λ_ _=>True) (xs:=[.v (.int .i64 ((i+1:Nat):Int)),.p 7 0,.p 8 0]) O (λβ t s h wJ=>Ds (P.below s) (Kz wJ (k:=7) (by simp[AV.ids]) (cs:=[.v (.slice (some ad) n c)]) O) (Kz wJ (k:=8) (by simp[AV.ids]) (cs:=[.v (.int .i64 (n:Int))]) O) I I I I) λp1=>ZR<|ZC (λt s h=>jn t p0 p1 a s h.1.1) λx=>uH (L:=g::bl E.1) (val:=λ_:YZ=> .tuple #[]) (G:=λy' u=>Kg u g 132 [.slice y'.1 (H++(x.2.1).filter Qs).length y'.2]/\K6 u w.heap.size 296 1 y'.1 (H++(x.2.1).filter Qs).length y'.2 ((H++(x.2.1).filter Qs).flatMap Qc)) (Φ':=λy' u=>RJ w.heap.size g y' (H++(x.2.1).filter Qs) u) (λt s h=>Z2 (c:=x.1.2) s T h.1.1.1 h.2.1.polyA.row h.2.2 (by have:=x.2.2.1;omega) I) (λu h=>(h.1.1.1).own T) (λy' wa u e1 X h U=>RJ.put h.1.1.1 h.2.1.ring X U) O O λM=>ZR<|YB 59 ((i:Int)+1) ((i+1:Nat):Int)<|ui (⟨((i+1,M),H++x.2.1.filter Qs),Q,Pf (Dj (d:=jB S) F x.2.2.2) (by rw[Nat.mul_succ];omega)⟩) O Zn Zt (λ_ h=>h)
    .refine ZR<|YB 59 ((i:Int)+1) ((i+1:Nat):Int)<|ui (⟨((i+1,E),H),Q,Pf F (by rw[Nat.mul_succ];omega)⟩) O Zn Zt (λ_ h=>h)
   .refine ZR<|ZI false<|YB 59 ((i:Int)+1) ((i+1:Nat):Int)<|ui (⟨((i+1,E),H),Q,Pf F (by rw[Nat.mul_succ];omega)⟩) O Zn Zt (λ_ h=>h)
  refine ZR<|YN ((i:Int)<(n:Int))<|ug O<|ZR ?_
  obtain rfl:i=n:=I
  obtain⟨b0,hb0⟩:∃v,L[1]? =some v:=⟨_,AA I⟩
  obtain⟨b1,hb1⟩:∃v,L[i-2]? =some v:=⟨_,AA I⟩
  obtain⟨b2,hb2⟩:∃v,L[i-1]? =some v:=⟨_,AA I⟩
  refine uu true O<|ZS 13<|YB 109 ((i:Int)-2) ((i-2:Nat):Int)<|ZS 18<|YC 114 ((i:Int)-1) ((i-1:Nat):Int)<|ZB 3 (Kd 296 (.slice (some ad) i c) (1:Nat)) (.pointer (some (ad.add (1*2)))) (λt s h=>Lh rfl I)<|ZB 4 (Ke 74 (ad.add (1*2))) (Km b0) (λt s h=>M5 (K s hb0))<|ZB 6 (Kd 296 (.slice (some ad) i c) (0:Nat)) (.pointer (some (ad.add (0*2)))) (λt s h=>Lh rfl I)<|ZB 7 (Ke 74 (ad.add (0*2))) (Km a0) (λt s h=>M5 (K s ha0))<|ZB 13 (Kd 296 (.slice (some ad) i c) (i-2:Nat)) (.pointer (some (ad.add ((i-2)*2)))) (λt s h=>Lh rfl I)<|ZB 14 (Ke 74 (ad.add ((i-2)*2))) (Km b1) (λt s h=>M5 (K s hb1))<|ZB 18 (Kd 296 (.slice (some ad) i c) (i-1:Nat)) (.pointer (some (ad.add ((i-1)*2)))) (λt s h=>Lh rfl I)<|ZB 19 (Ke 74 (ad.add ((i-1)*2))) (Km b2) (λt s h=>M5 (K s hb2))<|ZC (λt s h=>q7 (a:=b0) (b:=a0) (y:=y) (N:=w.heap.size) hP s.size) λJ=>ZD 21 (λt s h=>q7 (a:=b1) (b:=b2) (y:=y) (N:=w.heap.size) hP s.size) λwI=>uk (Lr 132 2 #[(0,Sn J.1),(1,Sn wI.1)]) (Kr 2) (λD u=>Kw 296 ([((J.1.2,J.1.1):LP),((wI.1.2,wI.1.1):LP)].flatMap Qc).toArray D u/\D∉g::bl E.1) O (λt s h=>Q2 (R:=λD=>D∉g::bl E.1) O (λD h1 hm=>by have:=(h.1.1).lt D hm;omega)) λD=>ZR<|uH (L:=g::bl E.1) (val:=λ_:YZ=> .tuple #[]) (G:=λy' u=>Kg u g 132 [.slice y'.1 (H++([((J.1.2,J.1.1):LP),((wI.1.2,wI.1.1):LP)]).filter Qs).length y'.2]/\K6 u w.heap.size 296 1 y'.1 (H++([((J.1.2,J.1.1):LP),((wI.1.2,wI.1.1):LP)]).filter Qs).length y'.2 ((H++([((J.1.2,J.1.1):LP),((wI.1.2,wI.1.1):LP)]).filter Qs).flatMap Qc)) (Φ':=λy' u=>RJ w.heap.size g y' (H++([((J.1.2,J.1.1):LP),((wI.1.2,wI.1.1):LP)]).filter Qs) u) (λt s h=>Z2 (c:=2) s T h.1.1.1 (Kk.lit (cl:=Qc) (l:=[((J.1.2,J.1.1):LP),((wI.1.2,wI.1.1):LP)]) (λ_=>rfl) h.2.1) (λb hb=>by obtain rfl:=AB.1 hb;exact h.2.2) (by show 2<=100000;decide) I) (λu h=>(h.1.1.1).own T) (λy' wa u e1 X h U=>RJ.put h.1.1.1 (ju h.1.1.2 h.1.2) X U) O O λM=>ZR<|ZA (Ke 132 ⟨g,0,none⟩) (.slice M.1 (H++ [((J.1.2,J.1.1):LP),((wI.1.2,wI.1.1):LP)].filter Qs).length M.2) (λt s h=>h.b.load1 O)<|ZV (.slice M.1 (H++ [((J.1.2,J.1.1):LP),((wI.1.2,wI.1.1):LP)].filter Qs).length M.2) (λt s h=>⟨(M,⟨H++ [((J.1.2,J.1.1):LP),((wI.1.2,wI.1.1):LP)].filter Qs,Pf (Dj (d:=32) F (bH (by have:=J.2;have:=wI.2;omega))) (by rw[CH];omega)⟩),rfl,s,λu Z k2=>Kf.mono (h u Z k2).o hN⟩)
end
section
variable{w W u wa:YM}{p q a b v:Pt}{g g2 n c N i k B:Nat}{z wd lm:Int}{A A2:YY}{L l:List Pt}{S:Ef}{y y0 y':YZ}{H H0 H2:List LP}{cl:Bool}
theorem pz:Ca 326 #[Km p] w (K4 w (λb:Bool=> .bool b) λ_ _=>True):=by
 refine uf func326 rfl<|ZR<|ZC (λf e h=>W3 (p:=p)) λb=>ZV (.bool (!b)) (λf e h=>⟨_,rfl,e,Zv⟩)
theorem mH(o:Kk w A n 2 K9 L)(F:n<=1000000):Ca 256 #[.slice A n c,.func (.func 326) #[] #[]] w (K4 w (λz:Int=> .int .i64 z) λ_ _=>True):=by
 refine uf func256 rfl<|ZR<|uj (ι:={q:Nat // q<=n}) 19 (λq=>⟨[vS 0 A n c,vV 1 (.func (.func 326) #[] #[]),vI 7 n,vI 8 q.1],[]⟩) (λq u=>True) (λq=>n-q.1) (⟨0,AC _⟩) O Zf Zt (λu h=>trivial) ?_
 rintro⟨i,hi⟩ G
 by_cases e:i<n
 case neg=>
  obtain rfl:i=n:=I
  refine ZR<|YN ((i:Int)<(i:Int))<|ug O<|ZR<|ZV (.int .i64 (-1)) (λm f h=>⟨_,rfl,f,Zv⟩)
 obtain⟨x,E⟩:∃v,L[i]? =some v:=⟨_,AA (by rw[o.1];exact e)⟩
 obtain⟨ad,s,t⟩:=o.2 i x E;refine ZR<|YL ((i:Int)<(n:Int))<|ZA (Kd 296 (.slice A n c) i) (.pointer (some (ad.add (i*2)))) (λm f h=>Lh s e)<|ZA (Ke 74 (ad.add (i*2))) (Km x) (λm f h=>M5 λj v D=>L5 f (t j v D))<|ZC (λm f h=>pz (p:=x)) λb=> ?_
 cases b
 .refine ZI false<|YA 8 i e<|ui (⟨i+1,e⟩) O Zn Zt (λu h=>trivial)
 .refine ZI true<|ug O<|ZR<|ZV (.int .i64 (i:Int)) (λm f h=>⟨_,rfl,f,Zv⟩)
theorem gY(j:Kk w A n 2 K9 L)(f:n<=1000000):Ca 219 #[.slice A n c,.func (.func 326) #[] #[]] w (K4 w (λb:Bool=> .bool b) λ_ _=>True):=by
 refine uf func219 rfl<|ZR<|ZC (λm e h=>mH (c:=c) (j.below e) f) λz=>ZV (.bool (decide (z>=0))) (λm e h=>⟨_,rfl,e,Zv⟩)
theorem I4(s:Nw w A n H)(Z:n<=1000000)(G:∀x∈H,x.1.length<=1000000):Ca 292 #[.slice A n c] w (K4 w (λr:Int×Bool=> .tuple #[.int .i64 r.1,.bool r.2]) λ_ _=>True):=by
 refine uf func292 rfl<|ZR<|uj (ι:={q:Nat×Int // q.1<=n}) 21 (λq=>⟨[vS 0 A n c,vI 2 0,vV 3 (.bool false),vI 4 q.1.2,vS 7 A n c,vI 8 n,vI 9 q.1.1],[]⟩) (λq u=>True) (λq=>n-q.1.1) (⟨(0,0),AC _⟩) O Zf Zt (λu h=>trivial) ?_
 rintro⟨⟨i,z⟩,hi⟩ J;have hi:i<=n:=hi
 by_cases e:i<n
 case neg=>
  obtain rfl:i=n:=I
  refine ZR<|YN ((i:Int)<(i:Int))<|ug O<|ZR<|ZV (.tuple #[.int .i64 z,.bool true]) (λo f h=>⟨(z,true),rfl,f,Zv⟩)
 obtain⟨x,t⟩:∃v,H[i]? =some v:=⟨_,AA (by rw[s.row.1];exact e)⟩
 have m:=AE t;obtain⟨ad,D,E⟩:=s.row.2 i x t;refine ZR<|YL ((i:Int)<(n:Int))<|ZA (Kd 132 (.slice A n c) i) (.pointer (some (ad.add (i*1)))) (λo f h=>Qy D e)<|ZA (Ke 296 (ad.add (i*1))) (X9 x) (λo f h=>Sk λj v F=>L5 f (E j v F))<|ZC (λo f h=>gY (c:=x.2.2) ((s.ring x m).below f) (G x m)) λb=> ?_
 cases b
 .refine ZI false<|YA 9 i e<|ui (⟨(i+1,XQ.wrap (z+(x.1.length:Int))),e⟩) O Zn Zt (λu h=>trivial)
 .refine ZI true<|ug O<|ZR<|ZV (.tuple #[.int .i64 0,.bool false]) (λo f h=>⟨(0,false),rfl,f,Zv⟩)
abbrev rV{P:List (List Pt)->Prop}(x:Cy P×Int):YI:= .tuple #[tM x.1,.int .i64 x.2]
theorem rk{ad:XR}(G:Tw S)(s:Kk w (some ad) n 2 K9 L)(M:n<=4096)(E:1<=n)(J:N<=w.heap.size):Ca 291 #[.agg #[.slice (some ad) n c,.bool cl],Bj S y] w (K4 w (λx:Cy (Zr ((4+jB S)*n+32))×Int=>rV x) λx u=>Kf N x.1.1 x.1.2.1.length x.1.2.1 u):=by
 have F:jB S<=16:=by unfold jB;split<;>decide
 have f:Zr ((4+jB S)*n+32) (K5 []):=⟨AC _,λr s=>absurd s AF⟩
 have Z:=s.1;obtain rfl:=Z;have P:(4+jB S)*L.length<=20*4096:=BR I M;refine uf func291 rfl<|ZR<|ZC (λj e h=>IJ (y:=y) G) λv=>ZI false<|uk (Lr 132 1 #[(0,.slice (some ad) L.length c)]) (Kr 1) (Kw 296 ([((L,(some ad,c)):LP)].flatMap Qc).toArray) O (λj e h=>Kj O) λX=>ZR<|ZC (λj e h=>I4 (c:=1) (H:=[((L,(some ad,c)):LP)]) ⟨Kk.lit (cl:=Qc) (l:=[((L,(some ad,c)):LP)]) (λ_=>rfl) h.2,λx o=>by obtain rfl:=AB.1 o;exact s.below e⟩ (by show 1<=1000000;decide) (λx o=>by obtain rfl:=AB.1 o;show L.length<=1000000;omega)) λpt=> ?_
 obtain⟨Y,wI⟩:=pt;cases wI
 .refine ZI true<|ZV (.tuple #[.slice none 0 0,.int .i64 6]) (λj e h=>⟨(((none,0),⟨[],f⟩),6),rfl,e,λ_ _ _=>ux⟩)
 refine ZI false<|YN ((L.length:Int)>4096)<|ZC (λj e h=>R_ (c:=c) (cl:=cl) (N:=w.heap.size) (s.below e) I E e.size) λd=>ZC (λj e h=>i6 (cl:=cl) (c:=d.1.1.2) (y:=y) (N:=w.heap.size) G h.2.row (by have:=d.2;omega) e.size) λr=> ?_
 have T:=d.2;have m:Zr ((4+jB S)*L.length+32) (K5 r.2.1):=Pf r.2.2 (Nat.add_le_add_right (AZ _ T) 32);have R:=Xy m;refine ZC (λj e h=>I4 (c:=r.1.2) h.2.polyA I (λx o=>by have U:x.1.length<=(K5 r.2.1).flatten.length:=List.Sublist.length_le (List.sublist_flatten_of_mem (List.mem_map_of_mem o));have:=m.1;omega)) λt=> ?_
 obtain⟨K,D⟩:=t;cases D
 .refine ZI true<|ZV (.tuple #[.slice none 0 0,.int .i64 6]) (λj e h=>⟨(((none,0),⟨[],f⟩),6),rfl,e,λ_ _ _=>ux⟩)
 refine ZI false<|uz O ?_ ?_
 .refine ZR<|ZV (.tuple #[.slice none 0 0,.int .i64 5]) (λj e h=>⟨(((none,0),⟨[],f⟩),5),rfl,e,λ_ _ _=>ux⟩)
 .refine ZR<|ZV (.tuple #[.slice r.1.1 r.2.1.length r.1.2,.int .i64 0]) (λj e h=>⟨((r.1,⟨r.2.1,m⟩),0),rfl,e,λu Q k2=>Kf.mono (h u Q k2).1.2 J⟩)
def X8(S:Ef)(H:List LQ):Nat:=(H.map λx=>(4+jB S)*x.1.1.length+32).sum
theorem dv(S:Ef)(H:List LQ)(x:LQ):X8 S (H++ [x])=X8 S H+((4+jB S)*x.1.1.length+32):=by unfold X8;simp
theorem C2(S:Ef):∀(H:List LQ) (i:Nat),X8 S (H.take i)<=X8 S H
 | [],i=>by simp
 |x::r,0=>by unfold X8;simp
 |x::r,i+1=>by
  have:=C2 S r i;unfold X8 at this ⊢;simp only[List.take_succ_cons,BK,List.sum_cons];omega
theorem oh{b d:Nat}(h:Zr b (K5 H))(f:Zr d (K5 H2)):Zr (b+d) (K5 (H++H2)):=by
 have e:K5 (H++H2)=K5 H++K5 H2:=AR;rw[e];refine⟨?_,λr j=>(AO.1 j).elim (h.2 r) (f.2 r)⟩;show(K5 H++K5 H2).flatten.length<=b+d;rw[List.flatten_append,AM];have:=h.1;have:=f.1;omega
theorem wy{M R2:List LP}{z z':YZ}(h:Kf B z M.length M wa)(o:∀x∈R2,K6 wa B 74 2 x.2.1 x.1.length x.2.2 (x.1.flatMap K9))(j:∀b,b∉bl z.1->wa.heap[b]? =u.heap[b]?)(m:K6 u B 296 1 z'.1 (M.length+R2.length) z'.2 ((M++R2).flatMap Qc)):Kf B z' (M++R2).length (M++R2) u:=by
 have f:∀x:LP,K6 wa B 74 2 x.2.1 x.1.length x.2.2 (x.1.flatMap K9)->K6 u B 74 2 x.2.1 x.1.length x.2.2 (x.1.flatMap K9):=λx e=>e.left j λb s=>N8 e h.own Zd b s
 refine⟨by rw[AM];exact m,λx e=> ?_⟩;rcases AO.1 e with e|e
 .exact f x (h.ring x e)
 .exact f x (o x e)
theorem ZM{M R2:List LP}{z rz:YZ}(h:K6 u B 296 1 z.1 M.length z.2 (M.flatMap Qc))(j:B<=u.heap.size)(o:Mt u u.heap.size 1 rz.1 R2.length (R2.flatMap Qc))(D:M.length+R2.length<=10000000):
 Mv XM u (bl z.1) (λz':YZ=> .slice z'.1 (M.length+R2.length) z'.2) (λz' v=>K6 v B 296 1 z'.1 (M.length+R2.length) z'.2 ((M++R2).flatMap Qc)) (My 132 132 (.slice z.1 M.length z.2) (.slice rz.1 R2.length rz.2)):=by
 have f:=M2 (P:=XM) (s:=1) (z:= .slice none 0 0) (bytes:=24) (m:=R2.length) (cc:=rz.2) (t:=132) (elem:=296) O O rfl Zd h j o (by intro v e;obtain⟨x,_,e⟩:=List.mem_flatMap.1 e;have e:v∈[X9 x]:=e;obtain rfl:=AB.1 e;rfl) I Zd;rw[List.flatMap_append];exact f
theorem rK{Q:List LQ}(hP:Tw S)(hq:NH w A n Q)(hn:n<=4096)(hQ:∀x∈Q,1<=x.1.1.length/\x.1.1.length<=4096)(hb:X8 S Q<=100000)(hN:N<=w.heap.size):Ca 254 #[.slice A n c,Bj S y] w (K4 w (λx:Cy (Zr (X8 S Q))×Int=>rV x) λx u=>Kf N x.1.1 x.1.2.1.length x.1.2.1 u):=by
 have t:Zr (X8 S Q) (K5 []):=⟨AC _,λr hr=>absurd hr AF⟩
 refine uf func254 rfl<|ZR<|ZC (λs e h=>IJ (y:=y) hP) λv=>ZI false<|uj (ι:={q:(Nat×(YZ))×List LP // q.1.1<=n/\Zr (X8 S (Q.take q.1.1)) (K5 q.2)}) 43 (λq=>⟨[vS 0 A n c,(3,.p 3 0),vS 4 none 0 0,vI 5 0,vS 6 q.1.1.2.1 q.1.2.length q.1.1.2.2,vS 16 A n c,vI 17 (n:Int),vI 18 (q.1.1.1:Nat)],[(3,[.v (.int .i64 S.w),.v (.int .i64 S.j),.v (.int .i64 S.c),.v (.int .i64 S.m),.v (.slice y.1 S.d.length y.2),.v (.int .i64 S.p)])]⟩) (λq u=>Kf w.heap.size q.1.1.2 q.1.2.length q.1.2 u) (λq=>n-q.1.1.1) (⟨((0,(none,0)),[]),AC _,⟨AC _,λr hr=>absurd hr AF⟩⟩) O Zf Zt (λ_ _=>ux) ?_
 rintro⟨⟨⟨i,z⟩,M⟩,hi,U⟩ gg;have hi:i<=n:=hi;have U:Zr (X8 S (Q.take i)) (K5 M):=U;have wI:=Pf U (C2 S Q i);have hMc:=Xy wI;have hln:=hq.row.1
 by_cases D:i<n
 case neg=>
  obtain rfl:i=n:=I
  refine ZR<|YN ((i:Int)<(i:Int))<|ug O<|ZR<|ZC (λs e h=>I4 (c:=z.2) (H:=M) h.polyA (show M.length<=1000000 by omega) (λx K=>by have h1:x.1.length<=(K5 M).flatten.length:=List.Sublist.length_le (List.sublist_flatten_of_mem (List.mem_map_of_mem K));have:=wI.1;omega)) λpt=>uz O ?_ ?_
  .refine ZR<|ZV (.tuple #[.slice none 0 0,.int .i64 5]) (λs e h=>⟨(((none,0),⟨[],t⟩),5),rfl,e,λ_ _ _=>ux⟩)
  .refine ZR<|ZV (.tuple #[.slice z.1 M.length z.2,.int .i64 0]) (λs e h=>⟨((z,⟨M,wI⟩),0),rfl,e,λu k1 k2=>Kf.mono (h u k1 k2).1 hN⟩)
 obtain⟨x,K⟩:∃v,Q[i]? =some v:=⟨_,AA I⟩
 have wJ:=AE K;obtain⟨R,Y⟩:=hQ x wJ;obtain⟨ad,hA,hc⟩:=hq.row.2 i x K;have o:=hq.ring x wJ;obtain⟨⟨f,xA,xc⟩,F⟩:=x;obtain⟨p0,X⟩:∃v,f[0]? =some v:=⟨_,AA R⟩
 obtain⟨E,hxA,_⟩:=o.2 0 p0 X;obtain rfl:xA=some E:=hxA;have P:X8 S (Q.take (i+1))=X8 S (Q.take i)+((4+jB S)*f.length+32):=by rw[L7 K,dv]
 have htk2:=C2 S Q (i+1);refine ZR<|YL ((i:Int)<(n:Int))<|ZA (Kd 304 (.slice A n c) i) (.pointer (some (ad.add (i*2)))) (λs e h=>by rw[hA];exact L9 (elem:=325) O O D)<|ZA (Ke 325 (ad.add (i*2))) (.agg #[.slice (some E) f.length xc,.bool F]) (λs e h=>Mh (vs:=[.slice (some E) f.length xc,.bool F]) O O λj v hj=>L5 e (hc j v hj))<|ZC (λs e h=>rk (c:=xc) (cl:=F) (y:=y) (L:=f) (N:=w.heap.size) hP (o.below e) Y R e.size) λr=> ?_
 obtain⟨⟨rz,R2,hR2⟩,re⟩:=r
 by_cases he:re=0
 case neg=>
  refine ZJ (re !=0) true (bne_iff_ne.2 he)<|ug O<|ZR<|ZV (.tuple #[.slice none 0 0,.int .i64 re]) (λs e h=>⟨(((none,0),⟨[],t⟩),re),rfl,e,λ_ _ _=>ux⟩)
 have J:=oh U hR2;have T:=Xy J;rw[AM]at T;have Z:M.length+R2.length<=10000000:=by
  have h9:X8 S (Q.take i)+((4+jB S)*f.length+32)<=100000:=by rw[<-P];omega
  exact AH T (AH h9 Zd)
 refine ul (re !=0) false O (by rw[he];rfl)<|ZS 2<|uA (L:=bl z.1) (val:=λz':YZ=> .slice z'.1 (M.length+R2.length) z'.2) (Φ':=λz' u=>Kf w.heap.size z' (M++R2).length (M++R2) u) (G:=λz' u=>K6 u w.heap.size 296 1 z'.1 (M.length+R2.length) z'.2 ((M++R2).flatMap Qc)) (My 132 132 (.slice z.1 M.length z.2) (.slice rz.1 R2.length rz.2)) (λs e h=>ZM h.1.own e.size h.2.own.reads Z) (λu h=>h.1.own.blk) (λz' wa u e1 e2 h hG=>wy h.1 h.2.ring e2 hG) O O λz'=>ZR<|YA 18 i D<|uh 6 (.slice z'.1 (M.length+R2.length) z'.2) (.slice z'.1 (M++R2).length z'.2) O (by rw[AM])<|ui (⟨((i+1,z'),M++R2),D,by show Zr (X8 S (Q.take (i+1))) _;rw[P];exact J⟩) O Zn Zt (λ_ h=>h)
end
section
variable{P:YH}{Δ:List XY}{W:YM}{Q:Exit->Act->YM->Prop}{Φ:YM->Prop}{c:Mm}
theorem vx [Rnd]{X:Type}{L:List Nat}{val:X->YI}{G Φ':X->YM->Prop}{l:Nat}{args:Array YI}
 (hs:∀w,Below W.heap.size W w->(∀u,cn W w u->Φ u)->YieldAt Fe 0 P l args w (L4 w L val G)) (hL:Ub W L Φ) (R:∀x,Tg L Φ (G x) (Φ' x))
 (K:Uq c=true) (g:Ox c=some (Instr.yield l args)) (h:∀x,K0 P Δ W Q (Φ' x) (Lp (.v (val x)) c)):K0 P Δ W Q Φ c:=by
 obtain⟨foc,k,σ⟩:=c;replace h:=λx=>(h x).get
 refine⟨?_⟩;replace g:=(Nk g).1;unfold Pg at g;split at g
 .rename_i ops o p;split at g
  .cases g
  .cases g
  .rename_i S hnm;split at g
   .rename_i U;simp only[AK]at U;injection g with g;unfold Nc at p;simp only at p;split at p
    .cases K
    .rename_i t fuel y;split at p
     .rename_i i m;cases f:t[i]? with
      |none=>rw[f]at p;cases p
      | some B=>
       rw[f]at p;simp only[BN,AW,BL]at p;obtain⟨rfl,rfl⟩:=p;intro F wJ Y;refine⟨λh0=>(by rw[h0]at m;cases m),λj hj=> ?_⟩;rw[m]at hj;obtain rfl:j=i:=by simpa using hj
       obtain⟨_,o2,D,E⟩:=mem_ready.1 (show j∈Region.ready .any t y by rw[m];simp);obtain rfl:B=o2:=by rw[f]at D;injection D
       have A:Js t B:=by
        refine Ib ?_;unfold Uq at K;simp only[m,f]at K;exact K
       refine⟨B,f,.lone A λΔ' β a w Q' i' K' T wI hwf' hK=> ?_⟩;unfold wpOpIn;simp only[T,M3 wI,U.1,if_true];have J:∀x∈B.op.operands,a.eval x=σ.rho x:=λx M=>by
        rw[wI.eval,uF];· rfl
        exact BD.1 U.2 x (by simpa using M)
       obtain⟨fn,tmps,N,bd,H,hR⟩:=hs w wI.bel λu hu=>wI.keep u ⟨hu.1,λb h1 h2 _=>hu.2 b h1 h2⟩
       refine Zy (nx:= .round l fn tmps N bd) ((congrArg (λs=>s.run P w) ((execOp_congr B (λcs b e=>S cs b e) J).trans g)).trans H) Zs<|⟨λh=>(by cases h),hR.mono λe w' he=> ?_⟩
       obtain⟨x,rfl,Z,hG⟩:=he;have M:=h x;simp only[Qq,Lp,m,f,BU,CA]at M;have z:(σ.put B.dst (.v (val x))).wf:=Y.put _ (by intro k hk;simp[AV.ids]at hk);exact hK _ _ _ _ _ (M F (wJ.set_ f E) z) ((wI.mut hL Z hG (R x)).put B.dst (.v (val x))) z
     .cases p
    .cases p
   .cases g
 .cases g
end
theorem vk{P:YH}{W:YM}{Φ:YM->Prop}{c:Mm}{fn:Func}{R:XS->YM->Prop}{v:YI}(h:A9 P fn c=some v)
 (u:∀w,Below W.heap.size W w->(∀s,w.heap.size<=s.heap.size->(∀b,W.heap.size<=b->b<w.heap.size->s.heap[b]? =w.heap[b]?)->Φ s)->R (.returned v) w):K0 P [] W (bodyPostM Fence.wide 0 P fn R) Φ c:=by
 have m:∀{σ:AS} {β:Nat->Nat} {a:Act} {w:YM} {xs:List YI},σ.wf->Ok [] W β σ Φ a w->T0 P σ fn.results.toList=some xs->Hm xs=v->LeavesInM Fence.wide 0 P fn a.tmps R a.defers .returning w:=by
  intro σ β a w xs e g o p;rw[g.defers];have f:=Vc o g e;rw[p]at f;exact⟨v,f,u w g.bel λs x A=>g.keep s ⟨x,λb t z _=>A b t z⟩⟩
 obtain⟨y,k,σ⟩:=c;refine⟨?_⟩;unfold A9 at h;split at h
 .rename_i j l;simp only at j l;subst j;subst l;obtain⟨xs,o,p⟩:=BX.1 h;exact λe β a w g=>m e g o p
 .rename_i j l;simp only at j l;subst j;subst l;obtain⟨xs,o,p⟩:=BX.1 h;exact λe β a w g=>m e g o p
 .cases h
def sE(L:List Pt):List (Pt×Pt):=(List.range (L.length-1)).map λi=>(L.getD i (0,0),L.getD (i+1) (0,0))
def KG(L:List Pt)(cl:Bool):List (Pt×Pt):=sE L++if cl=true/\1<L.length then [(L.getD (L.length-1) (0,0),L.getD 0 (0,0))]else []
theorem Fw(L:List Pt):(sE L).length=L.length-1:=by unfold sE;simp
theorem kh{L:List Pt}{k:Nat}{a b:Pt}(e:L[k]? =some a)(c:L[k+1]? =some b){cl:Bool}:(KG L cl)[k]? =some (a,b):=by
 have f:=(AN.1 c).1;unfold KG;rw[List.getElem?_append_left (by rw[Fw];omega)];unfold sE;rw[BC,List.getElem?_range I];simp[BF,e,c]
theorem fe{L:List Pt}{a b:Pt}(e:1<L.length)(c:L[L.length-1]? =some a)(f:L[0]? =some b):(KG L true)[L.length-1]? =some (a,b):=by
 unfold KG;rw[YS ⟨rfl,e⟩,BT (by rw[Fw];exact AL _),Fw,Nat.sub_self];simp[BF,c,f]
theorem JN(L:List Pt)(cl:Bool):(KG L cl).length=L.length-1+if cl=true/\1<L.length then 1 else 0:=by
 unfold KG;rw[AM,Fw];split<;>rfl
section
variable{w W u:YM}{A:YY}{n c g:Nat}{L:List Pt}{cl:Bool}
theorem km:Ca 317 #[.agg #[.slice A n c,.bool cl]] w (K4 w (λg:Nat=> .func (.func 348) #[] #[Kp g]) λg u=>K8 u g [.slice A n c,.bool cl]):=by
 refine uf func317 rfl<|ZS 1<|uq 1 [.slice A n c,.bool cl] O O λg f=>ZR<|ZV (.func (.func 348) #[] #[Kp g]) (λj e h=>⟨g,rfl,e,λu b k2=>(h u b k2).2⟩)
theorem fX(hn:n<=1000000)(M:L.length=n):Jt XM W 348 #[Kp g] (λe:Pt×Pt=> #[Km e.1,Km e.2]) (KG L cl) (λu=>Kk u A n 2 K9 L/\K8 u g [.slice A n c,.bool cl]):=by
 intro l ι J K G Z w hW f y t hy h0;have wI:∀{u:YM},K8 u g [.slice A n c,.bool cl]->(Ke 296 ⟨g,0,none⟩).run XM u= .ok (.value (.slice A n c)) u:=λh=>Kh O (by have:=h.range 0 _ rfl;simpa using this)
 have E:∀{u:YM},K8 u g [.slice A n c,.bool cl]->(Ke 4 ⟨g,1,none⟩).run XM u= .ok (.value (.bool cl)) u:=λh=>Kh O (by have:=h.range 1 _ rfl;simpa using this)
 refine uB func348 rfl hW<|uN (Φ':=λu=>J Z 0 u/\w.heap.size<=u.heap.size) O (λu o=>⟨h0 u o,o.1⟩)<|ZR<|ZA (Ke 296 ⟨g,0,none⟩) (.slice A n c) (λj m h=>wI (f _ _ _ h.1).2)<|uj (ι:={q:ι×Nat // q.2<=n-1}) 45 (λq=>⟨[vV 0 (.func (.yield l) #[] #[]),vV 1 (Kp g),vI 3 (n:Int),vI 4 ((q.1.2+1:Nat):Int)],[]⟩) (λq u=>J q.1.1 q.1.2 u/\w.heap.size<=u.heap.size) (λq=>n-1-q.1.2) (⟨(Z,0),AC _⟩) O Zf Zt (λ_ h=>h) ?_
 rintro⟨⟨s,k⟩,Y⟩ gg;have Y:k<=n-1:=Y
 by_cases Q:k+1<n
 case neg=>
  have z:k=n-1:=I
  refine ZR<|YN (((k+1:Nat):Int)<(n:Int))<|ug O<|ZR ?_
  have fin:(n-1=k)->¬(cl=true/\1<L.length)->(KG L cl).length=k:=λe hc=>by rw[JN,YT hc,M,Nat.add_zero];exact e
  cases cl
  .refine ZA (Ke 4 ⟨g,1,none⟩) (.bool false) (λj m h=>E (f _ _ _ h.1).2)<|ZI false<|ZV (.tuple #[]) (λj m h=>⟨⟨_,rfl⟩,m,(Yh h).2,s,λu o=>by rw[fin z.symm (λe=>by cases e.1)];exact(h u o.1 o.2).1⟩)
  by_cases h1:1<n
  case neg=>
   refine uw (Ke 4 ⟨g,1,none⟩) (.bool true) O (λj m h=>E (f _ _ _ h.1).2)<|ZS 5<|ZR<|YN ((n:Int)>1)<|ZV (.tuple #[]) (λj m h=>⟨⟨_,rfl⟩,m,(Yh h).2,s,λu o=>by rw[fin z.symm (λe=>h1 (M▸e.2))];exact(h u o.1 o.2).1⟩)
  obtain⟨a,F⟩:∃v,L[n-1]? =some v:=⟨_,AA I⟩
  obtain⟨b,D⟩:∃v,L[0]? =some v:=⟨_,AA I⟩
  have S:(KG L true)[k]? =some (a,b):=by rw[z,<-M];exact fe I (by rw[M];exact F) D
  have U:(KG L true).length=k+1:=by rw[JN,YS ⟨rfl,by omega⟩,M];omega
  refine um (p:=∃ad,A=some ad) (λu o h=>by obtain⟨ad,e,_⟩:=(f _ _ _ h.1).1.2 0 b D;exact⟨ad,e⟩) O (λX=> ?_);obtain⟨ad,wJ⟩:=X;subst wJ;refine uw (Ke 4 ⟨g,1,none⟩) (.bool true) O (λj m h=>E (f _ _ _ h.1).2)<|ZS 5<|ZR<|ul (decide ((n:Int)>1)) true O (YU I)<|ZS 5<|YB 37 ((n:Int)-1) ((n-1:Nat):Int)<|ZB 2 (Ke 296 ⟨g,0,none⟩) (.slice (some ad) n c) (λj m h=>wI (f _ _ _ h.1).2)<|ZB 5 (Kd 296 (.slice (some ad) n c) (n-1:Nat)) (.pointer (some (ad.add ((n-1)*2)))) (λj m h=>Lh rfl I)<|ZB 6 (Ke 74 (ad.add ((n-1)*2))) (Km a) (λj m h=>M5 ((f _ _ _ h.1).1.at rfl F))<|ZB 8 (Ke 296 ⟨g,0,none⟩) (.slice (some ad) n c) (λj m h=>wI (f _ _ _ h.1).2)<|ZB 9 (Kd 296 (.slice (some ad) n c) (0:Nat)) (.pointer (some (ad.add (0*2)))) (λj m h=>Lh (k:=0) rfl I)<|ZB 10 (Ke 74 (ad.add (0*2))) (Km b) (λj m h=>M5 ((f _ _ _ h.1).1.at rfl D))<|vx (L:=K s) (val:=λ_:ι=> .bool true) (G:=G s) (Φ':=λx u=>J x (k+1) u/\w.heap.size<=u.heap.size) (l:=l) (args:= #[Km a,Km b]) (λj D B=>hy s k (a,b) j D (λu o=>(B u o).1) S) (λu h=>y s k u h.1) (λx P u N T h R=>⟨t s k x P u N T h.1 R,by rw[<-N];exact h.2⟩) O O λx=>ZR<|ZV (.tuple #[]) (λj m h=>⟨⟨_,rfl⟩,m,(Yh h).2,x,λu o=>by rw[U];exact(h u o.1 o.2).1⟩)
 obtain⟨a,F⟩:∃v,L[k]? =some v:=⟨_,AA I⟩
 obtain⟨b,H⟩:∃v,L[k+1]? =some v:=⟨_,AA I⟩
 refine um (p:=∃ad,A=some ad) (λu o h=>by obtain⟨ad,e,_⟩:=(f _ _ _ h.1).1.2 k a F;exact⟨ad,e⟩) O (λX=> ?_);obtain⟨ad,wJ⟩:=X;subst wJ;refine ZR<|ul (decide (((k+1:Nat):Int)<(n:Int))) true O (YU I)<|ZS 5<|YC 17 (((k+1:Nat):Int)-1) ((k:Nat):Int)<|ZB 2 (Ke 296 ⟨g,0,none⟩) (.slice (some ad) n c) (λj m h=>wI (f _ _ _ h.1).2)<|ZB 5 (Kd 296 (.slice (some ad) n c) (k:Nat)) (.pointer (some (ad.add (k*2)))) (λj m h=>Lh rfl I)<|ZB 6 (Ke 74 (ad.add (k*2))) (Km a) (λj m h=>M5 ((f _ _ _ h.1).1.at rfl F))<|ZB 8 (Ke 296 ⟨g,0,none⟩) (.slice (some ad) n c) (λj m h=>wI (f _ _ _ h.1).2)<|ZB 10 (Kd 296 (.slice (some ad) n c) (k+1:Nat)) (.pointer (some (ad.add ((k+1)*2)))) (λj m h=>Lh rfl Q)<|ZB 11 (Ke 74 (ad.add ((k+1)*2))) (Km b) (λj m h=>M5 ((f _ _ _ h.1).1.at rfl H))<|vx (L:=K s) (val:=λ_:ι=> .bool true) (G:=G s) (Φ':=λx u=>J x (k+1) u/\w.heap.size<=u.heap.size) (l:=l) (args:= #[Km a,Km b]) (λj D B=>hy s k (a,b) j D (λu o=>(B u o).1) (kh F H)) (λu h=>y s k u h.1) (λx P u N T h R=>⟨t s k x P u N T h.1 R,by rw[<-N];exact h.2⟩) O O λx=>ZR<|ZI false<|YB 4 (((k+1:Nat):Int)+1) ((k+1+1:Nat):Int)<|ui (⟨(x,k+1),Zn⟩) O Zn Zt (λ_ h=>h)
end
theorem Kg.storeK{P:YH}{w:YM}{g k:Nat}{t p:XX}{cs:List YI}{v:YI}(h:Kg w g t cs)(m:k<cs.length)(x:Mq P p=some 1)(j:v.cells= #[v])(s:v.oneCell'=true):
 ∃l,(Om p ⟨g,k,none⟩ v).run P w= .ok .skip l/\Ei [g] w l/\∀c,l.heap.size<=c.heap.size->(∀b∈[g],c.heap[b]? =l.heap[b]?)->Kg c g t (cs.set k v):=by
 have f:=run_storeCells_at P g k t v.cells.toList 0 cs.toArray w h (by simp[j];omega) (by rw[j];intro u o;have o:=AB.1 o;subst o;exact s);have e:((cs.toArray.toList.take (k+0)++v.cells.toList++cs.toArray.toList.drop (k+0+v.cells.toList.length)).toArray)=(cs.set k v).toArray:=by
  rw[j,List.set_eq_take_append_cons_drop,YS m];simp
 rw[e]at f;refine⟨w.setRow g (cs.set k v).toArray,?_,⟨rfl,rfl,rfl,by rw[O1];exact AL _,λk _ m=>Na _ _ _ _ (by simpa using m)⟩,λc y k2=> ?_⟩
 .simp only[Om,Instr.storeAt,Instr.sureAddr,storeVar,AU,AY,AQ,Lb x];rw[YT (by simp[j])];simp only[f,AY,AU,AQ]
 .unfold Kg;rw[k2 g Zs];simp only[World.setRow,Array.getElem?_modify,if_true,show w.heap[g]? =_ from h,BN]
structure GG where
 kk:Nat
 y:YZ
 z:Int
 ds:List Int
structure ek(W:YM)(gm g g2:Nat)(d:ab)(cl:Bool)(s:GG)(k:Nat)(u:YM):Prop where
 kk:s.kk=k
 dl:s.ds.length=k
 box:Kg u gm 362 [Sn d,.slice s.y.1 k s.y.2,.int .i64 s.z]
 own:K6 u W.heap.size 3 1 s.y.1 k s.y.2 (s.ds.map λz=>AI .i64 z)
 lo:∀b∈bl s.y.1,max g g2<b
 row:Ud W.heap.size d u
 seg:K8 u g [Sn d,.bool cl]
 two:K8 u g2 [.slice none 0 0,.slice none 0 0,.int .i64 0]
structure tF(W:YM)(gm g:Nat)(d:ab)(s s':GG)(u:YM):Prop where
 kk:s'.kk=s.kk+1
 dl:s'.ds.length=s.kk+1
 box:Kg u gm 362 [Sn d,.slice s'.y.1 (s.kk+1) s'.y.2,.int .i64 s'.z]
 own:K6 u W.heap.size 3 1 s'.y.1 (s.kk+1) s'.y.2 (s'.ds.map λz=>AI .i64 z)
 lo:∀b∈bl s'.y.1,g<b
def Jw(b:Nat)(s:GG):List Nat:=b::bl s.y.1
theorem Bo{b x:Nat}{s:GG}:x∈Jw b s↔x=b\/x∈bl s.y.1:=by unfold Jw;simp
theorem wG{W:YM}{e g f k:Nat}{d:ab}{cl:Bool}{s:GG}(c:W.heap.size<=e):Ub W (Jw e s) (ek W e g f d cl s k):=λu h x b=>by
 rcases Bo.1 b with rfl|b
 .exact⟨c,h.box.own⟩
 .exact⟨(h.own.blk x b).1,(h.own.blk x b).2⟩
theorem wC{u:YM}{B B2 s o m t c c2:Nat}{e l:XX}{Y Y2:YY}{xs j:List YI}(h:K6 u B e s Y m c xs)(w:K6 u B2 l o Y2 t c2 j)(f:e≠l):∀b∈bl Y,b∉bl Y2:=λb p g=>by
 obtain⟨y,x,v⟩:=h.ty b p;obtain⟨z,A,k⟩:=w.ty b g;rw[v]at k;simp only[AW,Obj.cells.injEq]at k;exact f k.2.1
theorem ek.left{W:YM}{e g f k:Nat}{d:ab}{cl:Bool}{s w:GG}(l:f≠e)(m:e≠g):Tg (Jw e s) (ek W e g f d cl s k) (tF W e (max g f) d s w) (ek W e g f d cl w (k+1)):=λB u D p h j=>by
 have y:=h.kk;subst y;have z:g∉Jw e s:=λc=>by
  rcases Bo.1 c with c|c
  .exact m c.symm
  .have:=h.lo g c;omega
 have x:f∉Jw e s:=λc=>by
  rcases Bo.1 c with c|c
  .exact l c
  .have:=h.lo f c;omega
 have A:∀b∈bl d.1.1,b∉Jw e s:=λb v c=>by
  rcases Bo.1 c with c|c
  .exact h.box.ne h.row Zd b v c
  .exact wC h.row h.own Zd b v c
 refine⟨j.kk,j.dl,j.box,j.own,j.lo,K6.left h.row p A,?_,?_⟩
 .obtain⟨t,o⟩:=h.seg;exact⟨t,(p g z).symm.trans o⟩
 .obtain⟨t,o⟩:=h.two;exact⟨t,(p f x).symm.trans o⟩
theorem wA{W:YM}{l g j k:Nat}{d:ab}{cl:Bool}{s:GG}:D3 (ek W l g j d cl s k):=λe u f c h=>
 ⟨h.kk,h.dl,uT e u f c h.box,uV e u f c h.own,h.lo,uV e u f c h.row,by obtain⟨t,b⟩:=h.seg;exact⟨t,(c _ _ _ _ b).trans b⟩,by obtain⟨t,b⟩:=h.two;exact⟨t,(c _ _ _ _ b).trans b⟩⟩
def cN(fn:Func)(σ:AS):Option ((Nat×XX)×YI):=match fn.results.toList with
 | [.cell t ty,.tmp t2]=>match σ.tmps.getD t (.v undef),σ.tmps.getD t2 (.v undef)with
  | .v (.pointer (some ⟨g,0,none⟩)),.v x=>some ((g,ty),x)
  |_,_=>none
 |_=>none
theorem cH{P:YH}{Δ:List XY}{W w u:YM}{β:Nat->Nat}{σ:AS}{Φ:YM->Prop}{a:Act}{fn:Func}{g:Nat}{ty:XX}{v x:YI}(b:cN fn σ=some ((g,ty),x))(j:Ok Δ W β σ Φ a w)(k:(loadVar ty ⟨g,0,none⟩).run P u= .ok v u):(results fn a.tmps).run P u= .ok (.tuple #[v,x]) u:=by
 unfold cN at b;split at b
 .rename_i t m h c;split at b
  .rename_i s l p o;simp only[AW,BL]at b;obtain⟨⟨rfl,rfl⟩,rfl⟩:=b;have f:a.tmps.getD t undef= .pointer (some ⟨s,0,none⟩):=by
    have:=j.eval (.tmp t);simp only[Act.eval,AS.eval,p,AV.conc]at this;exact this
   have e:a.tmps.getD h undef=l:=by
    have:=j.eval (.tmp h);simp only[Act.eval,AS.eval,o,AV.conc]at this;exact this
   rw[Tk,AU,Array.mapM_eq_mapM_toList,Sem.run_map,c,CK,AU];simp only[Xz,f,e,asAddr,AU,AY,AQ,k,List.mapM_nil,CK]
   rfl
  .cases b
 .cases b
theorem wm{P:YH}{W:YM}{c:Mm}{fn:Func}{R:XS->YM->Prop}{v x:YI}{g D:Nat}{ty:XX}(f:Dk c=true)(H:W.heap.size<=D)(h:cN fn c.st=some ((g,ty),x))(E:∀u o:YM,K8 u g v.cells.toList->o.heap[g]? =u.heap[g]? ->(loadVar ty ⟨g,0,none⟩).run P o= .ok v o)
 (y:∀w,Below W.heap.size W w->R (.returned (.tuple #[v,x])) w):K0 P [⟨.collected D,#[]⟩] W (bodyPostM Fence.wide 0 P fn R) (λu=>K8 u g v.cells.toList/\u.heap[D]? =some (.deferred (some []))) c:=by
 obtain⟨B,k,σ⟩:=c;refine⟨?_⟩;unfold Dk at f;split at f
 .rename_i p s;simp only at p s;subst p;subst s;intro G β a w b;show LeavesInM Fence.wide 0 P fn a.tmps R a.defers .returning w;rw[b.defers];have l:=b.phi.2;have A:D<w.heap.size:=(AP.1 l).1;obtain⟨t,m⟩:=b.phi.1;have j:g≠D:=λe=>by rw[e,l]at m;cases m
  refine⟨by simp,.inl ⟨D,_,rfl,run_takeDeferred l,?_⟩⟩;have F:Below W.heap.size W (w.putObj D (.deferred none)):=⟨b.bel.os,b.bel.tape,b.bel.output,by rw[World.putObj_size];exact b.bel.size,λk z=>by rw[World.putObj_heap_other I];exact b.bel.block k z⟩
  exact⟨_,cH h b (E w _ ⟨t,m⟩ (World.putObj_heap_other j)),y _ F⟩
 .cases f
theorem mQ{u:YM}{z:YZ}{acc:List Int}{x:Int}{B m M f:Nat}(l:K6 u B 3 1 z.1 m z.2 (acc.map λz=>AI .i64 z))(o:B<=u.heap.size)(p:M<=u.heap.size)(j:Kw 3 #[.int .i64 x] f u)(w:m<1000000):
 Mv XM u (bl z.1) (λz:YZ=> .slice z.1 (m+1) z.2) (λz' v=>K6 v B 3 1 z'.1 (m+1) z'.2 ((acc++ [x]).map λz=>AI .i64 z)/\∀b∈bl z'.1,b∈bl z.1\/M<=b) (My 58 58 (.slice z.1 m z.2) (Kr 1 f)):=by
 have h:=M2 (P:=XM) (s:=1) (z:= .int .i64 0) (bytes:=8) (m:=1) (cc:=1) (t:=58) (elem:=3) O O rfl Zd l o (Mc (n:=1) j rfl) (by intro v c;simp at c;subst c;rfl) I Zd;rw[AR];refine O7 h λz' g b k=> ?_
 rcases g b k with e|e
 .exact .inl e
 .exact .inr I
abbrev tj:=(YY×Nat×Nat)×(YY×Nat×Nat)×Int×Bool
section
variable{w W u:YM}{A:YY}{n c g:Nat}{L:List Pt}{cl:Bool}
theorem n0{N:Nat}(b:Kk w A n 2 K9 L)(j:n<=1000000)(f:n=0->A=none/\c=0)(h:N<=w.heap.size):Ca 288 #[.agg #[.slice A n c,.bool cl]] w (K4 w (λx:gS n=> .agg #[Sn x.1,.bool cl]) λx u=>Ud N x.1 u):=by
 by_cases l:n=0
 .subst l;obtain⟨rfl,rfl⟩:=f rfl;refine(KV (cl:=cl)).mono λe p k=> ?_
  obtain⟨_,o,k2,s⟩:=k;exact⟨⟨((none,0),[]),AC _⟩,o,k2,λ_ _ _=>uU⟩
 obtain⟨x,m⟩:∃v,L[0]? =some v:=⟨_,AA (by rw[b.1];omega)⟩
 obtain⟨ad,rfl,_⟩:=b.2 0 x m;exact R_ b j I h
theorem aI(hr:Kk w A n 2 K9 L)(hn:n<=100000)(hz:n=0->A=none/\c=0):
 Ca 287 #[.agg #[.slice A n c,.bool cl]] w (K4 w (λx:tj=> .tuple #[.agg #[.slice x.1.1 x.1.2.1 x.1.2.2,.slice x.2.1.1 x.2.1.2.1 x.2.1.2.2,.int .i64 x.2.2.1],.bool x.2.2.2]) λ_ _=>True):=by
 refine u4 func287 rfl (Below.refl _ _)<|ZR<|uj (ι:={i:Nat // i<=n}) 47 (λi=>⟨[(1,.p 1 0),(2,.p 2 0),vV 3 (.bool false),vS 11 A n c,vI 12 (n:Nat),vI 13 (i.1:Nat)],[(1,[.v (.slice A n c),.v (.bool cl)]),(2,[.v (.slice none 0 0),.v (.slice none 0 0),.v (.int .i64 0)])]⟩) (λi u=>True) (λi=>n-i.1) (⟨0,AC _⟩) O Zf Zt (λu h=>trivial) ?_
 rintro⟨i,hi⟩ gg
 by_cases K:i<n
 case pos=>
  obtain⟨x,hx⟩:∃v,L[i]? =some v:=⟨_,AA (by rw[hr.1];exact K)⟩
  obtain⟨ad,hA,E⟩:=hr.2 i x hx;refine ZR<|YL ((i:Int)<(n:Int))<|ZA (Kd 296 (.slice A n c) i) (.pointer (some (ad.add (i*2)))) (λo m h=>Lh hA K)<|ZA (Ke 74 (ad.add (i*2))) (Km x) (λo m h=>M5 λj v hj=>L5 m (E j v hj))<|ZC (λo m h=>W3 (p:=x)) λb=> ?_
  cases b
  .refine ZJ (!false) true (rfl)<|ug O<|ZR<|vk (v:= .tuple #[.agg #[.slice none 0 0,.slice none 0 0,.int .i64 0],.bool false]) O (λo m h=>⟨((none,0,0),(none,0,0),0,false),rfl,m,Zv⟩)
  .refine ZJ (!true) false (rfl)<|YA 13 i K<|ui (⟨i+1,K⟩) O Zn Zt (λu h=>trivial)
 obtain rfl:i=n:=I
 refine ZR<|YN ((i:Int)<(i:Int))<|ug O<|ZR<|ZD 3 (λo m h=>n0 (c:=c) (cl:=cl) (N:=w.heap.size) (hr.below m) I hz m.size) λd=>uq 1 [.slice A i c,.bool cl] O O λg1 hg1=>uq 2 [.slice none 0 0,.slice none 0 0,.int .i64 0] O O λwI hg2=>uo O (stop:=1000) 1 _<|ZS 3<|uk (Vz 362) (Kp) (λg u=>Kg u g 362 [.slice none 0 0,.slice none 0 0,.int .i64 0]/\w.heap.size<=g/\g∉wI::bl d.1.1.1) O (λo m h=>Ny (z:= .agg #[.slice none 0 0,.slice none 0 0,.int .i64 0]) O m.size (λb hb=>by rcases BA.1 hb with rfl|hb;exact(by obtain⟨t,F⟩:=h.2;exact(AP.1 F).1);exact(K6.lt h.1.1.2 b hb).2)) (λf=> ?_)
 refine ZS 4<|um (p:=w.heap.size<=f/\f∉wI::bl d.1.1.1) (λu hu h=>h.2.2) O λH=>ur (L:=[f]) (G:=λu=>Kg u f 362 [Sn d.1,.slice none 0 0,.int .i64 0]) (Φ':=λu=>(Ud w.heap.size d.1 u/\K8 u wI [.slice none 0 0,.slice none 0 0,.int .i64 0])/\Kg u f 362 [Sn d.1,.slice none 0 0,.int .i64 0]) (Om 362 ⟨f,0,none⟩ (.agg #[Sn d.1,.slice none 0 0,.int .i64 0])) (λo m h=>h.2.1.store O rfl (λv hv=>by simp[AX]at hv;rcases hv with rfl|rfl|rfl<;>rfl)) (λu h=>Za ⟨H.1,h.2.1.own⟩) (λS u X J h wJ=>⟨⟨K6.left h.1.1.1.2 J (λb hb E=>H.2 (by have:=AB.1 E;subst this;exact BE _ hb)),by obtain⟨t,F⟩:=h.1.2;exact⟨t,(J wI (λE=>H.2 (by have:=AB.1 E;subst this;exact BB))).symm.trans F⟩⟩,wJ⟩) O O<|ZS 1<|uq 6 [Sn d.1,.bool cl] O O λg6 hg6=>ZC (λo m h=>(km (A:=d.1.1.1) (n:=d.1.2.length) (c:=d.1.1.2) (cl:=cl))) λg=>ZR<|um (p:=f≠g) (λu hu h=>λE=>by subst E;obtain⟨t,F⟩:=h.2;have e:=Eq.trans (show u.heap[f]? =_ from h.1.1.2).symm F;simp at e) O λhgg=>ve (α:=Pt×Pt) (gf:=348) (lb:= #[Kp g]) (ps:= #[29,30]) (encs:=λe=> #[Km e.1,Km e.2]) (xs:=KG d.1.2 cl) (Pre:=λu=>Kk u d.1.1.1 d.1.2.length 2 K9 d.1.2/\K8 u g [Sn d.1,.bool cl]) GG (λs k u=>ek w f g wI d.1 cl s k u) (Jw f) (λs s' u=>tF w f (max g wI) d.1 s s' u) ⟨0,(none,0),0,[]⟩ O (λo m h=>fX (by have:=d.2;omega) rfl) (enters_of func348 O rfl) (λx=>rfl) (λs k u h=>⟨Ud.row h.row,h.seg⟩) (λs k=>wG H.1) (λs k s'=>ek.left (λE=>H.2 (E▸BB)) hgg) (λs k=>wA) (λu h=>⟨rfl,rfl,h.1.1.2,uG,(by intro b hb;cases hb),h.1.1.1.1,h.2,h.1.1.1.2⟩) (λl s k' x Q fn tmps D hw0 hl K hlL U hx B R hR=> ?_) (λs D hD=> ?_)
 rotate_left
 .obtain⟨kk,y,z,ds⟩:=s;refine ZR<|ZA (Ke 362 ⟨f,0,none⟩) (.agg #[Sn d.1,.slice y.1 (KG d.1.2 cl).length y.2,.int .i64 z]) (λo m h=>h.1.box.loadN O O)<|ur (L:=[wI]) (G:=λu=>K8 u wI [Sn d.1,.slice y.1 (KG d.1.2 cl).length y.2,.int .i64 z]) (Φ':=λu=>K8 u wI [Sn d.1,.slice y.1 (KG d.1.2 cl).length y.2,.int .i64 z]/\u.heap[D]? =some (.deferred (some []))) (Om 362 ⟨wI,0,none⟩ (.agg #[Sn d.1,.slice y.1 (KG d.1.2 cl).length y.2,.int .i64 z])) (λo m h=>K8.store h.1.two O rfl (λv hv=>by simp[AX]at hv;rcases hv with rfl|rfl|rfl<;>rfl)) (λu h b hb=>by have hb:=AB.1 hb;subst hb;obtain⟨t,F⟩:=h.1.two;exact⟨hg2,_,_,_,F⟩) (λS u X J h wJ=>⟨wJ,(J D (λE=>by have:=AB.1 E;subst this;obtain⟨t,F⟩:=h.1.two;have e:=h.2.symm.trans F;cases e)).symm.trans h.2⟩) O O<|ZR<|wm (v:= .agg #[Sn d.1,.slice y.1 (KG d.1.2 cl).length y.2,.int .i64 z]) (x:= .bool true) (g:=wI) (ty:=362) O hD O (λu u' hu e=> ?_) (λo m=>⟨((d.1.1.1,d.1.2.length,d.1.1.2),(y.1,(KG d.1.2 cl).length,y.2),z,true),rfl,m,Zv⟩)
  obtain⟨t,F⟩:=hu;have hn:K8 u' wI [Sn d.1,.slice y.1 (KG d.1.2 cl).length y.2,.int .i64 z]:=⟨t,e.trans F⟩
  have Y:=Ka (P:=XM) (t:=362) O O hn.range;simp only[Ke,AU,Instr.loadAt,Instr.sureAddr,AY,AQ]at Y;generalize (loadVar 362 ⟨wI,0,none⟩).run XM u'=r at Y ⊢;cases r with
  |ok x w'=>simp only[AQ,Result.ok.injEq,Next.value.injEq]at Y;rw[Y.1,Y.2]
  |_=>cases Y
 have M:=B _ Q ⟨AL _,λ_ _ _ _=>rfl,U⟩;obtain rfl:s.kk=k':=M.kk;refine ZR<|vt O hl<|ZR<|ZA (Ke 58 ⟨f,1,none⟩) (.slice s.y.1 s.kk s.y.2) (λo m h=>Kh O (by have:=(B _ o h).box.range 1 _ rfl;simpa using this))<|ZA (Ke 3 ⟨f,2,none⟩) (.int .i64 s.z) (λo m h=>Kh O (by have:=(B _ o h).box.range 2 _ rfl;simpa using this))<|uk (Lr 58 1 #[(0,.int .i64 s.z)]) (Kr 1) (Kw 3 #[.int .i64 s.z]) O (λo m h=>Kj O) λgb=>ZS 5<|uA (L:=bl s.y.1) (val:=λz':YZ=> .slice z'.1 (s.kk+1) z'.2) (Φ':=λz' u=>(VH w Q l (Jw f s) (Xf fn tmps #[29,30] _ _ D .busy) u/\K6 u w.heap.size 3 1 z'.1 (s.kk+1) z'.2 ((s.ds++ [s.z]).map λz=>AI .i64 z)/\∀b∈bl z'.1,b∈bl s.y.1\/Q.heap.size<=b)/\Kg u f 362 [Sn d.1,.slice s.y.1 s.kk s.y.2,.int .i64 s.z]) (G:=λz' v=>K6 v w.heap.size 3 1 z'.1 (s.kk+1) z'.2 ((s.ds++ [s.z]).map λz=>AI .i64 z)/\∀b∈bl z'.1,b∈bl s.y.1\/Q.heap.size<=b) (My 58 58 (.slice s.y.1 s.kk s.y.2) (Kr 1 gb)) (λo m h=>mQ (B _ o h.1).own m.size h.1.1 h.2 (by have:=(AN.1 hx).1;have:=d.2;have:=JN d.1.2 cl;split at this<;>omega)) (λu h=>(B _ u h.1).own.blk) (λz' S u X J h wJ=>⟨⟨VH.left ⟨h.1.1,λb k1 k2 k3 _=>h.1.2.1 b k1 k2 k3,h.1.2.2⟩ X J (λb hb=> .inl (Bo.2 (.inr hb))) (λb hb=>((B _ S h.1).own.blk b hb).2),wJ.1,wJ.2⟩,(B _ S h.1).box.left J (λhb=>(B _ S h.1).box.ne (B _ S h.1).own Zd _ hb rfl)⟩) O O (λz'=> ?_)
 refine ZR<|ur (L:=[f]) (G:=λu=>Kg u f 362 [Sn d.1,.slice z'.1 (s.kk+1) z'.2,.int .i64 s.z]) (Φ':=λu=>(VH w Q l (Jw f s) (Xf fn tmps #[29,30] _ _ D .busy) u/\K6 u w.heap.size 3 1 z'.1 (s.kk+1) z'.2 ((s.ds++ [s.z]).map λz=>AI .i64 z)/\∀b∈bl z'.1,b∈bl s.y.1\/Q.heap.size<=b)/\Kg u f 362 [Sn d.1,.slice z'.1 (s.kk+1) z'.2,.int .i64 s.z]) (Om 58 ⟨f,1,none⟩ (.slice z'.1 (s.kk+1) z'.2)) (λo m h=>h.2.storeK (k:=1) Zs O rfl rfl) (λu h=>Za ⟨H.1,h.2.own⟩) (λS u X J h wJ=>⟨⟨h.1.1.left X J (λb hb=> .inl (Bo.2 (.inl (AB.1 hb)))) (λb hb=>by have hb:=AB.1 hb;subst hb;exact h.2.own),h.1.2.1.left J (λb hb E=>h.2.ne h.1.2.1 Zd b hb (AB.1 E)),h.1.2.2⟩,wJ⟩) O O<|ZR<|ZB 1 (Ke 3 ⟨f,2,none⟩) (.int .i64 s.z) (λo m h=>Kh O (by have:=h.2.range 2 _ rfl;simpa using this))<|ZC (λo m h=>qm (p:=x.2) (q:=x.1)) λv=>ZC (λo m h=>dM (p:=v)) λln=>vO (L:=[f]) (G:=λu=>Kg u f 362 [Sn d.1,.slice z'.1 (s.kk+1) z'.2,.int .i64 (XQ.wrap (s.z+ln))]) (Φ':=λu=>(VH w Q l (Jw f s) (Xf fn tmps #[29,30] _ _ D .busy) u/\K6 u w.heap.size 3 1 z'.1 (s.kk+1) z'.2 ((s.ds++ [s.z]).map λz=>AI .i64 z)/\∀b∈bl z'.1,b∈bl s.y.1\/Q.heap.size<=b)/\Kg u f 362 [Sn d.1,.slice z'.1 (s.kk+1) z'.2,.int .i64 (XQ.wrap (s.z+ln))]) (Om 3 ⟨f,2,none⟩ (.int .i64 (XQ.wrap (s.z+ln)))) (λo m h=>h.1.1.2.storeK (k:=2) Zs O rfl rfl) (λu h=>Za ⟨H.1,h.1.1.2.own⟩) (λS u X J h wJ=>⟨⟨h.1.1.1.1.left X J (λb hb=> .inl (Bo.2 (.inl (AB.1 hb)))) (λb hb=>by have hb:=AB.1 hb;subst hb;exact h.1.1.2.own),h.1.1.1.2.1.left J (λb hb E=>h.1.1.2.ne h.1.1.1.2.1 Zd b hb (AB.1 E)),h.1.1.1.2.2⟩,wJ⟩) O O<|ZR<|vm (⟨s.kk+1,z',XQ.wrap (s.z+ln),s.ds++ [s.z]⟩:GG) O hl K hlL U hw0 (λo hw1 h=> ?_)
 have T:=h o ⟨AL _,λ_ _ _=>rfl⟩;refine⟨T.1.1.2.2,T.1.1.1,T.1.1.2.1,λu k1 k2=>⟨rfl,by simp[M.dl],T.2.to (k2 f (.inl (Bo.2 (.inl rfl)))),T.1.2.1.same λb hb=>k2 b ?_,λb hb=> ?_⟩⟩
 .rcases T.1.2.2 b hb with Z|Z
  .exact .inl (Bo.2 (.inr Z))
  .exact .inr ⟨Z,(T.1.2.1.lt b hb).2⟩
 .rcases T.1.2.2 b hb with Z|Z
  .exact M.lo b Z
  .have X:g<Q.heap.size:=by obtain⟨t,F⟩:=M.seg;exact(AP.1 F).1
   have J:wI<Q.heap.size:=by obtain⟨t,F⟩:=M.two;exact(AP.1 F).1
   omega
end
structure Wc(B:Nat)(y:YZ)(n:Nat)(H:List LQ)(u:YM):Prop where
 own:K6 u B 325 2 y.1 n y.2 (H.flatMap Uc)
 ring:∀x∈H,K6 u B 74 2 x.1.2.1 x.1.1.length x.1.2.2 (x.1.1.flatMap K9)
section
variable{w W u wa:YM}{B n m g c N k:Nat}{y z z':YZ}{H R2 M:List LQ}{A:YY}{L:List Pt}{cl:Bool}{S:Ef}
theorem vz:Wc B (none,0) 0 [] u:=⟨uG,λx b=>absurd b AF⟩
theorem Wc.mono(h:Wc B y n H u)(j:N<=B):Wc N y n H u:=
 ⟨h.own.rebase λb e=>AH j (h.own.lt b e).1,λx f=>(h.ring x f).rebase λb e=>AH j ((h.ring x f).lt b e).1⟩
theorem Wc.lin(h:Wc B y n H u)(e:H.length=n):NH u y.1 n H:=
 ⟨h.own.reads.rows (cl:=Uc) (λ_=>rfl) e,λx b=>(h.ring x b).reads.rows (cl:=K9) (λ_=>rfl) rfl⟩
def tP(n:Nat)(x:((YZ)×List LQ)×Int):Prop:=x.1.2.length<=1/\∀q∈x.1.2,(n≠0->1<=q.1.1.length)/\q.1.1.length<=n
abbrev tR(n:Nat):={x:((YZ)×List LQ)×Int // tP n x}
abbrev qC(x:((YZ)×List LQ)×Int):YI:= .tuple #[.slice x.1.1.1 x.1.2.length x.1.1.2,.int .i64 x.2]
theorem tH{n:Nat}{e:Int}:tP n (((none,0),[]),e):=⟨AC _,λx b=>absurd b AF⟩
abbrev tU(n:Nat):={x:ab // x.2.length<=n/\(n≠0->1<=x.2.length)}
theorem ir(f:Kk w A n 2 K9 L)(s:n<=1000000)(o:n=0->A=none/\c=0)(p:N<=w.heap.size):Ca 288 #[.agg #[.slice A n c,.bool cl]] w (K4 w (λx:tU n=> .agg #[Sn x.1,.bool cl]) λx u=>Ud N x.1 u):=by
 by_cases t:n=0
 .subst t;obtain⟨rfl,rfl⟩:=o rfl;refine(KV (cl:=cl)).mono λe l k=> ?_
  obtain⟨_,b,k2,j⟩:=k;exact⟨⟨((none,0),[]),AC _,λh=>absurd rfl h⟩,b,k2,λ_ _ _=>uU⟩
 obtain⟨x,D⟩:∃v,L[0]? =some v:=⟨_,AA (by rw[f.1];omega)⟩
 obtain⟨ad,rfl,_⟩:=f.2 0 x D;refine(N_ f s I p).mono λe l k=> ?_
 obtain⟨x,b,k2,j⟩:=k;exact⟨⟨x.1,x.2,λ_=>(j l (AL _) λ_ _ _=>rfl).2⟩,b,k2,λu F E=>(j u F E).1⟩
theorem LM(o:Tw S)(s:Kk w A n 2 K9 L)(E:n<=100000)(j:n=0->A=none/\c=0)(t:N<=w.heap.size):
 Ca 252 #[.agg #[.slice A n c,.bool cl],Bj S y] w (K4 w (λx:tR n=>qC x.1) λx u=>Wc N x.1.1.1 x.1.1.2.length x.1.1.2 u):=by
 have G:=o.d0;refine u4 func252 rfl (Below.refl _ _)<|ZR<|ZC (λe b h=>IJ (y:=y) o) λv=>ZI false<|ZC (λe b h=>aI (c:=c) (cl:=cl) (s.below b) E j) λm=> ?_
 obtain⟨J,K,Z,D⟩:=m;cases D
 .refine ZJ (!false) true (rfl)<|vk (v:=qC (((none,0),[]),6)) O (λe b h=>⟨⟨_,tH⟩,rfl,b,λ_ _ _=>vz⟩)
 refine ZJ (!true) false (rfl) ?_
 by_cases l:n>4096
 .refine YL ((n:Int)>4096)<|vk (v:=qC (((none,0),[]),5)) O (λe b h=>⟨⟨_,tH⟩,rfl,b,λ_ _ _=>vz⟩)
 refine YN ((n:Int)>4096)<|ZJ (((S.d.length:Int)==0)) true (by rw[G];rfl)<|ZC (λe b h=>ir (c:=c) (cl:=cl) (N:=w.heap.size) (s.below b) I j b.size) λd=>uk (Lr 304 1 #[(0,.agg #[Sn d.1,.bool cl])]) (Kr 1) (λg u=>K6 u w.heap.size 325 2 (some ⟨g,0,none⟩) 1 1 (Uc ((d.1.2,d.1.1),cl))) O (λe b h=>Up (cells:=(Uc ((d.1.2,d.1.1),cl)).toArray) O b.size rfl Zd) λF=>ZR<|vk (v:=qC (((some ⟨F,0,none⟩,1),[((d.1.2,d.1.1),cl)]),0)) O (λe b h=>⟨⟨_,⟨AL _,λq f=>by obtain rfl:=AB.1 f;exact⟨d.2.2,d.2.1⟩⟩⟩,rfl,b,λu p k2=>Wc.mono (B:=w.heap.size) ⟨(h u p k2).2,λq f=>by obtain rfl:=AB.1 f;exact(h u p k2).1.2⟩ t⟩)
end
section
variable{w W u wa:YM}{B n m g c N k:Nat}{y z z':YZ}{H R2 M Q:List LQ}{A:YY}{L:List Pt}{cl:Bool}{S:Ef}
theorem io(S:Ef)(H R:List LQ):X8 S (H++R)=X8 S H+X8 S R:=by unfold X8;rw[AR,List.sum_append]
theorem pe{n:Nat}(f:R2.length<=1)(b:∀q∈R2,q.1.1.length<=n):X8 S R2<=(4+jB S)*n+32:=by
 cases R2 with
 |nil=>show 0<=_;exact AC _
 |cons x r=>
  have e:r=[]:=BW.1 (by rw[List.length_cons]at f;omega);subst e;have:=AZ (4+jB S) (b x (AB.2 rfl));show(4+jB S)*x.1.1.length+32+0<=_;omega
theorem ww(h:Wc B z M.length M wa)(o:∀x∈R2,K6 wa B 74 2 x.1.2.1 x.1.1.length x.1.2.2 (x.1.1.flatMap K9))(j:∀b,b∉bl z.1->wa.heap[b]? =u.heap[b]?)(l:K6 u B 325 2 z'.1 (M.length+R2.length) z'.2 ((M++R2).flatMap Uc)):Wc B z' (M++R2).length (M++R2) u:=by
 have f:∀x:LQ,K6 wa B 74 2 x.1.2.1 x.1.1.length x.1.2.2 (x.1.1.flatMap K9)->K6 u B 74 2 x.1.2.1 x.1.1.length x.1.2.2 (x.1.1.flatMap K9):=λx e=>e.left j λb p=>N8 e h.own Zd b p
 refine⟨by rw[AM];exact l,λx e=> ?_⟩;rcases AO.1 e with e|e
 .exact f x (h.ring x e)
 .exact f x (o x e)
theorem iE{rz:YZ}(e:K6 u B 325 2 z.1 M.length z.2 (M.flatMap Uc))(h:B<=u.heap.size)(j:Mt u u.heap.size 2 rz.1 R2.length (R2.flatMap Uc))(l:M.length+R2.length<=10000000):
 Mv XM u (bl z.1) (λz':YZ=> .slice z'.1 (M.length+R2.length) z'.2) (λz' v=>K6 v B 325 2 z'.1 (M.length+R2.length) z'.2 ((M++R2).flatMap Uc)) (My 304 304 (.slice z.1 M.length z.2) (.slice rz.1 R2.length rz.2)):=by
 have f:=M2 (P:=XM) (s:=2) (z:= .agg #[.slice none 0 0,.bool false]) (bytes:=32) (m:=R2.length) (cc:=rz.2) (t:=304) (elem:=325) O O rfl Zd e h j (by intro v b;obtain⟨x,_,b⟩:=List.mem_flatMap.1 b;simp[Uc]at b;rcases b with rfl|rfl<;>rfl) I Zd;rw[List.flatMap_append];exact f
def tN(S:Ef)(Q:List LQ)(x:((YZ)×List LQ)×Int):Prop:=(X8 S x.1.2<=X8 S Q/\x.1.2.length<=Q.length)/\∀q∈x.1.2,1<=q.1.1.length/\q.1.1.length<=4096
abbrev tQ(S:Ef)(Q:List LQ):={x:((YZ)×List LQ)×Int // tN S Q x}
theorem t6{e:Int}:tN S Q (((none,0),[]),e):=⟨⟨AC _,AC _⟩,λx b=>absurd b AF⟩
theorem pn(Y:Tw S)(f:NH w A n Q)(hn:n<=4096)(R:∀x∈Q,1<=x.1.1.length/\x.1.1.length<=4096)(X:N<=w.heap.size):
 Ca 253 #[.slice A n c,Bj S y] w (K4 w (λx:tQ S Q=>qC x.1) λx u=>Wc N x.1.1.1 x.1.1.2.length x.1.1.2 u):=by
 have hln:=f.row.1;refine uf func253 rfl<|ZR<|uj (ι:={q:(Nat×(YZ))×List LQ // q.1.1<=n/\(X8 S q.2<=X8 S (Q.take q.1.1)/\q.2.length<=q.1.1)/\∀x∈q.2,1<=x.1.1.length/\x.1.1.length<=4096}) 31 (λq=>⟨[vS 0 A n c,(3,.p 3 0),vS 4 none 0 0,vI 5 0,vS 6 q.1.1.2.1 q.1.2.length q.1.1.2.2,vS 11 A n c,vI 12 (n:Int),vI 13 (q.1.1.1:Nat)],[(3,[.v (.int .i64 S.w),.v (.int .i64 S.j),.v (.int .i64 S.c),.v (.int .i64 S.m),.v (.slice y.1 S.d.length y.2),.v (.int .i64 S.p)])]⟩) (λq u=>Wc w.heap.size q.1.1.2 q.1.2.length q.1.2 u) (λq=>n-q.1.1.1) (⟨((0,(none,0)),[]),AC _,⟨AC _,AL _⟩,λr hr=>absurd hr AF⟩) O Zf Zt (λ_ _=>vz) ?_
 rintro⟨⟨⟨i,z⟩,M⟩,hi,⟨J,F⟩,t⟩ gg;have hi:i<=n:=hi;have J:X8 S M<=X8 S (Q.take i):=J;have F:M.length<=i:=F
 by_cases o:i<n
 case neg=>
  obtain rfl:i=n:=I
  refine ZR<|YN ((i:Int)<(i:Int))<|ug O<|ZR<|ZV (.tuple #[.slice z.1 M.length z.2,.int .i64 0]) (λD b h=>⟨⟨((z,M),0),⟨AH J (C2 S Q i),Zn⟩,t⟩,rfl,b,λu k1 k2=>Wc.mono (h u k1 k2) X⟩)
 obtain⟨x,K⟩:∃v,Q[i]? =some v:=⟨_,AA I⟩
 have E:=AE K;obtain⟨hx1,wI⟩:=R x E;obtain⟨ad,T,U⟩:=f.row.2 i x K;have s:=f.ring x E;have wJ:X8 S (Q.take (i+1))=X8 S (Q.take i)+((4+jB S)*x.1.1.length+32):=by rw[L7 K,dv]
 refine ZR<|YL ((i:Int)<(n:Int))<|ZA (Kd 304 (.slice A n c) i) (.pointer (some (ad.add (i*2)))) (λD b h=>by rw[T];exact L9 (elem:=325) O O o)<|ZA (Ke 325 (ad.add (i*2))) (tg x) (λD b h=>Mh (vs:=Uc x) O O λj v Z=>L5 b (U j v Z))<|ZC (λD b h=>LM (c:=x.1.2.2) (cl:=x.2) (y:=y) (L:=x.1.1) (N:=w.heap.size) Y (s.below b) I (λh0=>I) b.size) λr=> ?_
 obtain⟨⟨⟨rz,R2⟩,re⟩,l,e⟩:=r;have l:R2.length<=1:=l;have e:∀q∈R2,(x.1.1.length≠0->1<=q.1.1.length)/\q.1.1.length<=x.1.1.length:=e
 by_cases P:re=0
 case neg=>
  refine ZJ (re !=0) true (bne_iff_ne.2 P)<|ug O<|ZR<|ZV (.tuple #[.slice none 0 0,.int .i64 re]) (λD b h=>⟨⟨(((none,0),[]),re),t6⟩,rfl,b,λ_ _ _=>vz⟩)
 have hpb:=pe (S:=S) l (λq f=>(e q f).2);refine ul (re !=0) false O (by rw[P];rfl)<|ZS 2<|uA (L:=bl z.1) (val:=λz':YZ=> .slice z'.1 (M.length+R2.length) z'.2) (Φ':=λz' u=>Wc w.heap.size z' (M++R2).length (M++R2) u) (G:=λz' u=>K6 u w.heap.size 325 2 z'.1 (M.length+R2.length) z'.2 ((M++R2).flatMap Uc)) (My 304 304 (.slice z.1 M.length z.2) (.slice rz.1 R2.length rz.2)) (λD b h=>iE h.1.own b.size h.2.own.reads I) (λu h=>h.1.own.blk) (λz' wa u e1 e2 h hG=>ww h.1 h.2.ring e2 hG) O O λz'=>ZR<|YA 13 i o<|uh 6 (.slice z'.1 (M.length+R2.length) z'.2) (.slice z'.1 (M++R2).length z'.2) O (by rw[AM])<|ui (⟨((i+1,z'),M++R2),o,⟨by show X8 S (M++R2)<=X8 S (Q.take (i+1));rw[wJ,io];omega,by show(M++R2).length<=i+1;rw[AM];omega⟩,λq f=>(AO.1 f).elim (t q) λf=>⟨(e q f).1 I,AH (e q f).2 wI⟩⟩) O Zn Zt (λ_ h=>h)
end
theorem wq{P:YH}{W:YM}{Φ:YM->Prop}{c:Mm}{fn:Func}{R:XS->YM->Prop}(g m:Nat)(ty b:XX)(f:Dk c=true)(s:JW fn c.st=some ((g,ty),(m,b)))
 (h:∀w,Below W.heap.size W w->Φ w->∃v j,(loadVar ty ⟨g,0,none⟩).run P w= .ok v w/\(loadVar b ⟨m,0,none⟩).run P w= .ok j w/\R (.returned (.tuple #[v,j])) w):
 K0 P [] W (bodyPostD P fn R) Φ c:=by
 obtain⟨t,k,σ⟩:=c;refine⟨?_⟩;unfold Dk at f;split at f
 .rename_i l o;simp only at l o;subst l;subst o;intro x β a w e;show Leaves P fn a.tmps R a.defers .returning w;rw[e.defers];obtain⟨v,j,u,k2,p⟩:=h w e.bel e.phi;exact⟨_,EK s e u k2,p⟩
 .cases f
section
variable{w W:YM}{ge go:Nat}{v:YI}{z:Int}
theorem qP(c:Below W.heap.size W w)(j:K8 w ge [.int .i64 0]):CallsD XM 293 #[Kp ge,Kp go] .returning w (λe k f=>k= .returning/\(e= .returned (.tuple #[])/\Below W.heap.size W f/\cn W w f)):=by
 refine u0 func293 rfl c<|ZR<|ZA (Ke 34 ⟨ge,0,none⟩) (.int .i64 0) (λg b h=>(j.bel (B3 c b h)).load1 O)<|ZI false<|ZV (.tuple #[]) (λg b h=>⟨rfl,b,h g (AL _) λ_ _ _=>rfl⟩)
theorem qJ(m:Below W.heap.size W w)(k:K8 w ge [.int .i64 z])(o:z≠0)(f:Kg w go 132 [v])(lo:W.heap.size<=go)(le:W.heap.size<=ge)(g:ge≠go):CallsD XM 293 #[Kp ge,Kp go] .returning w (λe t l=>t= .returning/\(e= .returned (.tuple #[])/\Below W.heap.size W l/\Kg l go 132 [.slice none 0 0]/\K8 l ge [.int .i64 z])):=by
 refine u0 func293 rfl m<|ZR<|ZA (Ke 34 ⟨ge,0,none⟩) (.int .i64 z) (λj c h=>(k.bel (B3 m c h)).load1 O)<|ZJ (z !=0) true (bne_iff_ne.2 o)<|ur (L:=[go]) (G:=λu=>Kg u go 132 [.slice none 0 0]) (Φ':=λu=>Kg u go 132 [.slice none 0 0]/\K8 u ge [.int .i64 z]) (Om 132 ⟨go,0,none⟩ (.slice none 0 0)) (λj c h=>(f.to (h.2 go lo f.lt)).store O rfl (λv b=>by have b:v∈[BY none 0 0]:=b;have b:=AB.1 b;subst b;rfl)) (λu h=>Za ⟨lo,(f.to (h.2 _ lo f.lt)).own⟩) (λx u y s h p=>⟨p,(k.toW (h.2 ge le k.ltW)).toW (s ge (by simpa using g)).symm⟩) O O<|ZR<|ZV (.tuple #[]) (λj c h=>⟨rfl,c,h j (AL _) λ_ _ _=>rfl⟩)
end
section
variable{w u:YM}{A:YY}{n c N K b:Nat}{H R:List LP}{t:TV}{T:N7}{p:Pt}{L M:List Pt}
theorem iX(h:S3 t T K w)(j:8<=K/\K<=10000):Ca 264 #[t.val,Km p] w (K4 w (λx:Pt×Int=> .tuple #[Km x.1,.int .i64 x.2]) λ_ _=>True):=by
 by_cases g:Gi T p.1 p.2=0
 .refine(Lo (X:=p.1) (Y:=p.2) h j g).mono λe l k=> ?_
  obtain⟨_,f,k2,_⟩:=k;exact⟨((iD T p.1 p.2,gT T p.1 p.2),0),f,k2,Zv⟩
 .refine(LO (X:=p.1) (Y:=p.2) h j rfl g).mono λe l k=> ?_
  obtain⟨_,f,k2,_⟩:=k;exact⟨((0,0),Gi T p.1 p.2),f,k2,Zv⟩
theorem jq{m N:Nat}{w:YM}(G:m<=10000)(l:N<=w.heap.size)(h:∀x∈R,∀b∈bl x.2.1,b<w.heap.size):M9 XM w (λg:Nat=> .slice (some ⟨g,0,none⟩) m m) (λg u=>K6 u N 74 2 (some ⟨g,0,none⟩) m m ((BS m ((0,0):Pt)).flatMap K9)/\∀x∈R,g∉bl x.2.1) (af 296 m):=by
 obtain⟨g,E,j,F,D⟩:=QL (P:=XM) (w:=w) (t:=296) (e:=74) (s:=2) (bytes:=16) (z:=Km (0,0)) (v:= .int .i64 0) (n:=m) (N:=w.heap.size) O O rfl Zd G Zd (AL _);refine⟨g,E,j,F,λu B k2=> ?_⟩;have f:=D u B k2;rw[<-Iw (cl:=K9) (x:=((0,0):Pt)) (s:=2) rfl m]at f;refine⟨f.rebase λb o=>AH l (f.lt b o).1,λx y k=> ?_⟩;have J:=h x y g k;have Z:=(f.lt g (by simp[bl])).1;omega
theorem aB(p:Pt):∀v∈K9 p,v.oneCell'=true:=λv e=>by simp[K9]at e;rcases e with rfl|rfl<;>rfl
def Jn(R H:List LP):Prop:=R.map (λx=>x.1.length)=H.map (λx=>x.1.length)
theorem Jn.rg(h:Jn R H)(f:Zr b (K5 H)):Zr b (K5 R):=by
 have e:(K5 R).map List.length=(K5 H).map List.length:=by unfold K5;rw[CC,CC];exact h
 refine⟨?_,λr l=> ?_⟩
 .show(K5 R).flatten.length<=b;rw[List.length_flatten,e,<-List.length_flatten];exact f.1
 .have g:r.length∈(K5 R).map List.length:=List.mem_map_of_mem l;rw[e]at g;obtain⟨r2,k,j⟩:=CB.1 g;rw[<-j];exact f.2 r2 k
def WQ(B go f:Nat)(z:YZ)(R:List LP)(e:Int)(u:YM):Prop:=((Kg u go 132 [.slice z.1 R.length z.2]/\B<=go)/\Kg u f 34 [.int .i64 e]/\B<=f)/\Kf B z R.length R u
theorem Kf.out{B g n:Nat}{z:YZ}{ty:XX}{cs:List YI}{f:YM}(h:Kf B z n R f)(l:Kg f g ty cs)(s:296≠ty)(o:74≠ty)(k:∀b,b∉[g]->f.heap[b]? =u.heap[b]?):Kf B z n R u:=
 ⟨h.own.left k λb e j=>l.ne h.own s b e (by simpa using j),λx e=>(h.ring x e).left k λb m j=>l.ne (h.ring x e) o b m (by simpa using j)⟩
section
variable{B go ge gn:Nat}{z z':YZ}{e e':Int}{wa:YM}{y:LP}
theorem WQ.setE(h:WQ B go ge z R e wa)(f:∀b,b∉[ge]->wa.heap[b]? =u.heap[b]?)(g:Kg u ge 34 [.int .i64 e']):WQ B go ge z R e' u:=
 ⟨⟨⟨h.1.1.1.left f (λj=>h.1.1.1.ne2 h.1.2.1 Zd (by simpa using j)),h.1.1.2⟩,g,h.1.2.2⟩,h.2.out h.1.2.1 Zd Zd f⟩
theorem WQ.own_n(h:WQ B go ge z R e wa){n c:Nat}{xs:List YI}(k:K6 wa B 74 2 (some ⟨gn,0,none⟩) n c xs)(m:∀x∈R,gn∉bl x.2.1)(j:∀b,b∉[gn]->wa.heap[b]? =u.heap[b]?):WQ B go ge z R e u:=by
 have l:gn∈bl (some (⟨gn,0,none⟩:XR)):=by simp[bl]
 refine⟨⟨⟨h.1.1.1.left j λf=> ?_,h.1.1.2⟩,h.1.2.1.left j λf=> ?_,h.1.2.2⟩,h.2.own.left j λb g f=> ?_,λx g=>(h.2.ring x g).left j λb o f=> ?_⟩
 .exact h.1.1.1.ne k Zd gn l (AB.1 f).symm
 .exact h.1.2.1.ne k Zd gn l (AB.1 f).symm
 .obtain rfl:=AB.1 f;exact N8 h.2.own k Zd b g l
 .obtain rfl:=AB.1 f;exact m x g o
theorem Kf.add{n:Nat}(h:Kf B z n R wa)(k:K6 wa B 74 2 y.2.1 y.1.length y.2.2 (y.1.flatMap K9))(j:∀b,b∉bl z.1->wa.heap[b]? =u.heap[b]?)(l:K6 u B 296 1 z'.1 (n+1) z'.2 ((R++ [y]).flatMap Qc)):Kf B z' (n+1) (R++ [y]) u:=by
 refine⟨l,λx f=> ?_⟩;rcases AO.1 f with f|f
 .exact(h.ring x f).left j λb g=>N8 (h.ring x f) h.own Zd b g
 .obtain rfl:=AB.1 f;exact k.left j λb g=>N8 k h.own Zd b g
end
theorem rj(ht:S3 t T K w)(hK:8<=K/\K<=10000)(hp:Nw w A H.length H)(Q:Zr b (K5 H))(hb2:b<=10000)(hN:N<=w.heap.size):
 Ca 255 #[.slice A H.length c,t.val] w (K4 w (λx:Cy (Zr b)×Int=>rV x) λx u=>Kf N x.1.1 x.1.2.1.length x.1.2.1 u):=by
 have wJ:Zr b (K5 []):=⟨AC _,λr hr=>absurd hr AF⟩
 have hcnt:=Xy Q;have hln:=hp.row.1;have Z:∀x∈H,x.1.length<=1000000:=λx hx=>by have:=IP x hx;have:=Q.1;omega
 refine vv func255 rfl (Below.refl _ _)<|ZS 1<|uk (Vz 132) (Kp) (λg u=>Kg u g 132 [.slice none 0 0]/\w.heap.size<=g/\g∉[]) O (λB l h=>Ny (z:= .slice none 0 0) O l.size Zs) λgo=>ZS 2<|uk (Vz 34) (Kp) (λg u=>Kg u g 34 [.int .i64 0]/\w.heap.size<=g/\g∉[]) O (λB l h=>Ny (z:= .int .i64 0) O l.size Zs) λo=>ZR ?_
 cases m:vL 0 (K5 H)
 .refine ZC (λB l h=>Oz (c:=c) (hp.below l) I Z m) λpv=>ZJ (!false) true (rfl)<|ur (L:=[go]) (G:=λu=>Kg u go 132 [.slice none 0 0]) (Φ':=λu=>WQ w.heap.size go o (none,0) [] 0 u) (Om 132 ⟨go,0,none⟩ (.slice none 0 0)) (λB l h=>h.1.1.2.1.store O rfl (λv m=>by have m:v∈[BY none 0 0]:=m;have m:=AB.1 m;subst m;rfl)) (λu h=>Za ⟨h.1.1.2.2.1,h.1.1.2.1.own⟩) (λwa u e1 D h wI=>⟨⟨⟨wI,h.1.1.2.2.1⟩,h.1.2.1.left D (λE=>h.1.1.2.1.ne2 h.1.2.1 Zd (AB.1 E).symm),h.1.2.2.1⟩,ux⟩) O O<|ZR<|ur (L:=[o]) (G:=λu=>Kg u o 34 [.int .i64 12]) (Φ':=λu=>WQ w.heap.size go o (none,0) [] 12 u) (Om 34 ⟨o,0,none⟩ (.int .i64 12)) (λB l h=>h.1.2.1.store O rfl (λv m=>by have m:v∈[AI .i64 12]:=m;have m:=AB.1 m;subst m;rfl)) (λu h=>Za ⟨h.1.2.2,h.1.2.1.own⟩) (λwa u e1 D h wI=>h.setE D wI) O O<|ZR<|wq go o 132 34 O O (λB l h=>⟨_,_,Nj O ⟨_,h.1.1.1⟩,Nj O ⟨_,h.1.2.1⟩,(((none,0),⟨[],wJ⟩),12),rfl,l,λ_ _ _=>ux⟩)
 refine ZC (λB l h=>Oz (c:=c) (hp.below l) I Z m) λpv=>ZJ (!true) false (rfl)<|vw ⟨.fn (.func 293) #[Kp o,Kp go],#[]⟩ O O<|ZR<|uj (ι:={q:(Nat×(YZ))×List LP // q.1.1<=H.length/\Jn q.2 (H.take q.1.1)}) 48 (λq=>⟨[(3,.p 3 0),vV 4 (Kp go),vV 5 (Kp o),vS 15 A H.length c,vI 16 (H.length:Nat),vI 17 (q.1.1.1:Nat)],[(3,t.cl.map .v)]⟩) (λq u=>WQ w.heap.size go o q.1.1.2 q.1.2 0 u) (λq=>H.length-q.1.1.1) (⟨((0,(none,0)),[]),AC _,rfl⟩) O Zf Zt (λu h=>⟨⟨⟨h.1.1.2.1,h.1.1.2.2.1⟩,h.1.2.1,h.1.2.2.1⟩,ux⟩) ?_
 rintro⟨⟨⟨i,z⟩,R⟩,hi,S⟩ gg;have hi:i<=H.length:=hi;have S:Jn R (H.take i):=S;have hRl:R.length=i:=by have:=congrArg List.length S;simpa[Jn,Nat.min_eq_left hi]using this
 by_cases J:i<H.length
 case neg=>
  obtain rfl:i=H.length:=I
  rw[List.take_length]at S;refine ZR<|YN ((H.length:Int)<(H.length:Int))<|ug O<|ZR<|vl (f:=293) (args:= #[Kp o,Kp go]) go o 132 34 O O (λB=>rfl) λB l h=>(qP l ⟨_,h.1.2.1⟩).mono λe u' w' hh=> ?_
  obtain⟨rfl,rfl,X,W⟩:=hh;have hgo:=h.1.1.1.to (W.2 go h.1.1.2 h.1.1.1.lt);have hge:=h.1.2.1.to (W.2 o h.1.2.2 h.1.2.1.lt);exact⟨rfl,_,_,_,rfl,Nj O ⟨_,hgo⟩,Nj O ⟨_,hge⟩,((z,⟨R,S.rg Q⟩),0),rfl,X,λu k1 k2=>(Kf.same (Kf.same h.2 W.2) λb b1 b2=>k2 b b1 (Nat.lt_of_lt_of_le b2 (AL _))).mono hN⟩
 obtain⟨x,hx⟩:∃v,H[i]? =some v:=⟨_,AA J⟩
 have hmx:=AE hx;obtain⟨ad,hA,E⟩:=hp.row.2 i x hx;have Y:=hp.ring x hmx;have hxl:x.1.length<=10000:=AH (IP x hmx) (AH Q.1 hb2);refine ZR<|YL ((i:Int)<(H.length:Int))<|ZA (Kd 132 (.slice A H.length c) i) (.pointer (some (ad.add (i*1)))) (λB l h=>Qy hA J)<|uw (Ke 296 (ad.add (i*1))) (X9 x) O (λB l h=>Sk λj v hj=>L5 l (E j v hj))<|ZS 2<|uo O (stop:=1000) 1 _<|ZS 2<|uk (af 296 x.1.length) (λg:Nat=> .slice (some ⟨g,0,none⟩) x.1.length x.1.length) (λg u=>K6 u w.heap.size 74 2 (some ⟨g,0,none⟩) x.1.length x.1.length ((BS x.1.length ((0,0):Pt)).flatMap K9)/\∀y∈R,g∉bl y.2.1) O (λB l h=>jq hxl l.size (λy hy b Q=>((h.2.ring y hy).lt b Q).2)) λgn=>ZR<|um (p:=∀y∈R,gn∉bl y.2.1) (λu hu h=>h.2.2) O λhgn=>uj (ι:={s:Nat×List Pt // s.1<=x.1.length/\s.2.length=x.1.length}) 48 (λs=>⟨[(3,.p 3 0),vV 4 (Kp go),vV 5 (Kp o),vV 7 (X9 x),vS 8 (some ⟨gn,0,none⟩) x.1.length x.1.length,vS 15 A H.length c,vI 16 (H.length:Nat),vI 17 (i:Nat),vV 24 (X9 x),vI 25 (x.1.length:Nat),vI 26 (s.1.1:Nat)],[(3,t.cl.map .v)]⟩) (λs u=>WQ w.heap.size go o z R 0 u/\K6 u w.heap.size 74 2 (some ⟨gn,0,none⟩) x.1.length x.1.length (s.1.2.flatMap K9)) (λs=>x.1.length-s.1.1) (⟨(0,BS x.1.length (0,0)),AC _,List.length_replicate⟩) O Zf Zt (λu h=>⟨h.1,h.2.1⟩) ?_
 rintro⟨⟨k,M⟩,hk,U⟩ gg2;have hk:k<=x.1.length:=hk;have U:M.length=x.1.length:=U
 by_cases F:k<x.1.length
 case neg=>
  obtain rfl:k=x.1.length:=I
  obtain⟨y,hy⟩:∃y:LP,y=(M,some ⟨gn,0,none⟩,x.1.length):=⟨_,rfl⟩
  have hyO:∀u,K6 u w.heap.size 74 2 (some ⟨gn,0,none⟩) x.1.length x.1.length (M.flatMap K9)->K6 u w.heap.size 74 2 y.2.1 y.1.length y.2.2 (y.1.flatMap K9):=λu h=>by rw[hy];show K6 u _ _ _ _ M.length _ _;rw[U];exact h
  have hyl:X9 y= .slice (some ⟨gn,0,none⟩) x.1.length x.1.length:=by rw[hy];show BY _ M.length _=_;rw[U]
  refine ZR<|YN ((x.1.length:Int)<(x.1.length:Int))<|ug O<|ZR<|ZA (Ke 132 ⟨go,0,none⟩) (.slice z.1 R.length z.2) (λB l h=>h.1.1.1.1.load1 O)<|uh 44 (.slice (some ⟨gn,0,none⟩) x.1.length x.1.length) (X9 y) O (hyl.symm) ?_
  have eL:(R++ [y]).length=R.length+1:=Zs
  have hS2:Jn (R++ [y]) (H.take (i+1)):=by
   unfold Jn at S ⊢;rw[L7 hx,AR,AR,S,hy];show _++ [M.length]=_++ [x.1.length];rw[U]
  refine uk (Lr 132 1 #[(0,X9 y)]) (Kr 1) (Kw 296 (Qc y).toArray) O (λB l h=>Kj O) λgb=>ZS 3<|uA (L:=bl z.1) (val:=λz':YZ=> .slice z'.1 (R.length+1) z'.2) (Φ':=λz' u=>((Kg u go 132 [.slice z.1 R.length z.2]/\w.heap.size<=go)/\Kg u o 34 [.int .i64 0]/\w.heap.size<=o)/\Kf w.heap.size z' (R.length+1) (R++ [y]) u) (G:=λz' u=>K6 u w.heap.size 296 1 z'.1 (R.length+1) z'.2 ((R++ [y]).flatMap Qc)) (My 132 132 (.slice z.1 R.length z.2) (Kr 1 gb)) (λB l h=>U9 (cl:=Qc) (z0:= .slice none 0 0) (bytes:=24) O O rfl Zd Zd rfl (λv m=>by obtain rfl:=AB.1 (show v∈[X9 y]from m);rfl) h.1.1.2.own l.size h.2 I) (λu h=>h.1.1.2.own.blk) (λz' wa u e1 D h wI=>⟨⟨⟨h.1.1.1.1.1.left D (λE=>h.1.1.1.1.1.ne h.1.1.2.own Zd go E rfl),h.1.1.1.1.2⟩,h.1.1.1.2.1.left D (λE=>h.1.1.1.2.1.ne h.1.1.2.own Zd o E rfl),h.1.1.1.2.2⟩,h.1.1.2.add (hyO _ h.1.2) D wI⟩) O O λz'=>ZR<|ur (L:=[go]) (G:=λu=>Kg u go 132 [.slice z'.1 (R.length+1) z'.2]) (Φ':=λu=>WQ w.heap.size go o z' (R++ [y]) 0 u) (Om 132 ⟨go,0,none⟩ (.slice z'.1 (R.length+1) z'.2)) (λB l h=>h.1.1.1.store O rfl (λv m=>by have m:v∈[BY z'.1 (R.length+1) z'.2]:=m;have m:=AB.1 m;subst m;rfl)) (λu h=>Za ⟨h.1.1.2,h.1.1.1.own⟩) (λwa u e1 D h wI=>⟨⟨⟨by rw[eL];exact wI,h.1.1.2⟩,h.1.2.1.left D (λE=>h.1.1.1.ne2 h.1.2.1 Zd (AB.1 E).symm),h.1.2.2⟩,by rw[eL];exact h.2.out h.1.1.1 Zd Zd D⟩) O O<|ZR<|YA 17 i J<|ui (⟨((i+1,z'),R++ [y]),J,hS2⟩) O Zn Zt (λ_ h=>h)
 obtain⟨p,hpx⟩:∃v,x.1[k]? =some v:=⟨_,AA F⟩
 obtain⟨ad2,hA2,hc2⟩:=Y.2 k p hpx;refine ZR<|YL ((k:Int)<(x.1.length:Int))<|ZA (Kd 296 (X9 x) k) (.pointer (some (ad2.add (k*2)))) (λB l h=>Lh hA2 F)<|ZA (Ke 74 (ad2.add (k*2))) (Km p) (λB l h=>M5 λj v hj=>L5 l (hc2 j v hj))<|ZD 8 (λB l h=>iX (p:=p) (ht.below l) hK) λa=>ZA (Kd 296 (.slice (some ⟨gn,0,none⟩) x.1.length x.1.length) k) (.pointer (some ⟨gn,k*2,none⟩)) (λB l h=>Kc (elem:=74) O O F)<|ur (L:=[gn]) (G:=λu=>K6 u w.heap.size 74 2 (some ⟨gn,0,none⟩) x.1.length x.1.length ((M.set k a.1).flatMap K9)) (Φ':=λu=>WQ w.heap.size go o z R 0 u/\K6 u w.heap.size 74 2 (some ⟨gn,0,none⟩) x.1.length x.1.length ((M.set k a.1).flatMap K9)) (Om 74 ⟨gn,k*2,none⟩ (Km a.1)) (λB l h=>h.1.2.setE (P:=XM) (t:=74) (v:=Km a.1) (i:=k) (x:=a.1) L8 (by rw[U];exact F) rfl O (aB _)) (λu h b' hb'=>by obtain rfl:=AB.1 hb';exact⟨(h.1.2.lt b' (by simp[bl])).1,(h.1.2.blk b' (by simp[bl])).2⟩) (λwa u e1 D h wI=>⟨h.1.1.own_n h.1.2 hgn D,wI⟩) O O<|ZR<|ur (L:=[o]) (G:=λu=>Kg u o 34 [.int .i64 a.2]) (Φ':=λu=>WQ w.heap.size go o z R a.2 u/\K6 u w.heap.size 74 2 (some ⟨gn,0,none⟩) x.1.length x.1.length ((M.set k a.1).flatMap K9)) (Om 34 ⟨o,0,none⟩ (.int .i64 a.2)) (λB l h=>h.1.1.2.1.store O rfl (λv m=>by have m:v∈[AI .i64 a.2]:=m;have m:=AB.1 m;subst m;rfl)) (λu h=>Za ⟨h.1.1.2.2,h.1.1.2.1.own⟩) (λwa u e1 D h wI=>⟨h.1.setE D wI,h.2.left D (λb Q E=>h.1.1.2.1.ne h.2 Zd b Q (by simpa using E))⟩) O O<|ZR<|ZA (Ke 34 ⟨o,0,none⟩) (.int .i64 a.2) (λB l h=>h.1.1.2.1.load1 O) ?_
 by_cases he:a.2=0
 case neg=>
  refine ZJ (a.2 !=0) true (bne_iff_ne.2 he)<|ug O<|ZR<|ug O<|ZR<|vl (f:=293) (args:= #[Kp o,Kp go]) go o 132 34 O O (λB=>rfl) λB l h=>(qJ l ⟨_,h.1.1.2.1⟩ he h.1.1.1.1 h.1.1.1.2 h.1.1.2.2 (λE=>h.1.1.1.1.ne2 h.1.1.2.1 Zd E.symm)).mono λe u' w' hh=> ?_
  obtain⟨rfl,rfl,X,ho2,he2⟩:=hh;exact⟨rfl,_,_,_,rfl,Nj O ⟨_,ho2⟩,Nj O he2,(((none,0),⟨[],wJ⟩),a.2),rfl,X,λu k1 k2=>ux⟩
 refine ZJ (a.2 !=0) false (by rw[he];rfl)<|YA 26 k F<|ui (⟨(k+1,M.set k a.1),F,by show(M.set k a.1).length=x.1.length;rw[BO];exact U⟩) O Zn Zt (λu h=>by rw[he]at h;exact h)
end
def KB(a:Nat)(L:List (List Pt×Bool)):Nat:=(L.map λx=>a*x.1.length+32).sum
def jx(a:Nat)(s:Sg):Nat:=if s.v=3\/s.v=4 then 64*a else a+32
def Jb(a:Nat)(ls:List Sg):Nat:=(ls.map (jx a)).sum
theorem Gc(a:Nat)(L M:List (List Pt×Bool)):KB a (L++M)=KB a L+KB a M:=by unfold KB;rw[AR,List.sum_append]
theorem H_(a:Nat)(P:List Pt)(b:Bool):KB a [(P,b)]=a*P.length+32:=by simp[KB]
theorem eD{a:Nat}{L:List (List Pt×Bool)}{x:List Pt×Bool}(h:L.getLast? =some x):KB a L=KB a L.dropLast+(a*x.1.length+32):=by
 obtain⟨c,b⟩:=List.getLast?_eq_some_iff.1 h;subst b;rw[Gc,List.dropLast_concat];simp[KB]
theorem k8(a:Nat)(p:Pt)(s:Sg):a*(O5 p s).1.length<=jx a s:=by
 unfold jx;split
 .have h:=AZ a (H8 p s);rw[CD a 64]at h;exact h
 .rename_i h;have b:s.v≠3:=λe=>h (.inl e)
  have c:s.v≠4:=λe=>h (.inr e)
  unfold O5;rw[YT b,YT c];show a*1<=a+32;omega
theorem Vh(a:Nat):∀(ls:List Sg) (L:List (List Pt×Bool)),KB a (Nu L ls).1<=KB a L+Jb a ls
 | [],L=>by unfold Nu Jb;simp
 | s ::t,L=>by
  have e:Jb a (s::t)=jx a s+Jb a t:=by unfold Jb;rw[BK,List.sum_cons]
  rw[Nu,e];split
  .rename_i h;have:=Vh a t (L++ [([(s.ax,s.ay)],false)]);rw[Gc,H_,List.length_singleton]at this;have g:jx a s=a+32:=by unfold jx;rw[YT I]
   omega
  .split
   .show KB a []<=_;exact AC _
   .rename_i x b;have f:=eD (a:=a) b;split
    .have:=Vh a t (L.dropLast++ [(OH x.1,true)]);rw[Gc,H_]at this;have:=AZ a (UT x.1);omega
    .split
     .have:=Vh a t (L.dropLast++ [(putL x.1 (O5 (x.1.getLast?.getD (0,0)) s).1,x.2)]);rw[Gc,H_]at this;have c:=AZ a (Uk (O5 (x.1.getLast?.getD (0,0)) s).1 x.1);rw[Nat.mul_add]at c;have:=k8 a (x.1.getLast?.getD (0,0)) s;omega
     .show KB a []<=_;exact AC _
theorem UI(a:Nat):∀(ls:List Sg),∃c m:Nat,M8 ls=8*c+m/\Jb a ls=(64*a)*c+(a+32)*m
 | []=>⟨0,0,rfl,by unfold Jb;simp⟩
 | s::t=>by
  obtain⟨c,m,g,f⟩:=UI a t;have e:M8 (s::t)=G0 s+M8 t:=by unfold M8;rw[BK,List.sum_cons]
  have b:Jb a (s::t)=jx a s+Jb a t:=by unfold Jb;rw[BK,List.sum_cons]
  by_cases h:s.v=3\/s.v=4
  .refine⟨c+1,m,?_,?_⟩
   .rw[e,g];unfold G0;rw[YS h];omega
   .rw[b,f];unfold jx;rw[YS h,Nat.mul_succ];omega
  .refine⟨c,m+1,?_,?_⟩
   .rw[e,g];unfold G0;rw[YT h];omega
   .rw[b,f];unfold jx;rw[YT h,Nat.mul_succ];omega
theorem oe(S:Ef)(H:List LQ):X8 S H=KB (4+jB S) (Sr H):=by unfold X8 KB Sr;rw[CC];rfl
def dA(S:Ef):Nat:=if S.j=3 then 20 else 8
theorem PJ{S:Ef}{ls:List Sg}{H:List LQ}(h:dA S*M8 ls<=80)(l:Sr H=(Oa ls).1):X8 S H<=600:=by
 rw[oe,l];have k:KB (4+jB S) (Oa ls).1<=Jb (4+jB S) ls:=by
  have o:=Vh (4+jB S) ls [];have f:KB (4+jB S) []=0:=rfl;unfold Oa;split
  .split
   .show KB _ []<=_;rw[f];exact AC _
   .omega
  .show KB _ []<=_;rw[f];exact AC _
 refine AH k ?_;obtain⟨c,m,j,g⟩:=UI (4+jB S) ls;rw[g];rw[j]at h;unfold dA at h;unfold jB;split at h
 .rename_i b;rw[YS b];have e:c=0:=I
  subst e;omega
 .rename_i b;rw[YT b];have e:c<=1:=I
  rcases(by omega:c=0\/c=1)with rfl|rfl<;>omega
theorem oW{P:List Pt}(h:P≠[]):OH P≠[]:=by
 unfold OH;split
 .rename_i b;intro e;have:=congrArg List.length e;rw[List.length_dropLast]at this;simp only[List.length_nil]at this;omega
 .exact h
theorem C3:∀(ls:List Sg) (L:List (List Pt×Bool)),(∀x∈L,x.1≠[])->∀x∈(Nu L ls).1,x.1≠[]
 | [],L,h=>by unfold Nu;exact h
 | s ::t,L,h=>by
  have e:∀x∈L.dropLast,x.1≠[]:=λx b=>h x (List.dropLast_subset L b)
  have ap:∀{y:List Pt×Bool} {M:List (List Pt×Bool)},(∀x∈M,x.1≠[])->y.1≠[]->∀x∈M++ [y],x.1≠[]:=λg f x b=>(AO.1 b).elim (g x) λb=>by obtain rfl:=AB.1 b;exact f
  rw[Nu];split
  .exact C3 t _ (ap h (List.cons_ne_nil _ _))
  .split
   .intro x b;exact absurd b AF
   .rename_i x b;have c:=h x (List.mem_of_getLast? b);split
    .exact C3 t _ (ap e (oW c))
    .split
     .exact C3 t _ (ap e (Fy _ _ c))
     .intro x b;exact absurd b AF
theorem eQ(ls:List Sg):∀x∈(Oa ls).1,1<=x.1.length:=by
 have h:=C3 ls [] λx b=>absurd b AF
 unfold Oa;split
 .split
  .intro x b;exact absurd b AF
  .exact λx b=>BG.2 (h x b)
 .intro x b;exact absurd b AF
structure pV(N:Nd):Prop where
 d0:N.sty.d=[]
 few:N.stroke≠[]->dA N.sty*M8 N.path<=80
theorem mC{N:Nd}(b:Pz N=true)(e:N.kind=2)(c:N.stroke≠[])(h:pV N):Tw N.sty:=by
 refine⟨?_,h.d0⟩;unfold Pz PW Dh o_ at b;rw[YT I,YS e]at b;simp only[AK]at b;have:=b.2.2.2.2.1;rwa [YT (by have:=BG.2 c;omega)]at this
section
variable{w u:YM}{S:Sc}{gn go c i N0 n K cc:Nat}{nl:List (Nd×ND)}{N:Nd}{q:ND}{T:N7}{t:TV}{A:YY}{ls:List Sg}{b:Bool}{St:Ef}{y:YZ}
theorem t_(e:Py w S gn go c nl)(f:N∈S.nds):Pz N=true:=by
 have h:=e.ok;unfold W6 at h;simp only[AK]at h;exact Dt _ _ h.2.2 N f
theorem XC(G:Tw St)(ht:S3 t T K w)(hK:8<=K/\K<=10000)(hs:Sa w A n ls)(P:(Ff ls).1=0)(W:dA St*M8 ls<=80)(X:N0<=w.heap.size):
 Ca 218 #[.slice A n c,Bj St y,t.val,.int .i64 32] w (K4 w (λx:Cy (Zr 600)×Int=>rV x) λx u=>Kf N0 x.1.1 x.1.2.1.length x.1.2.1 u):=by
 have f:Zr 600 (K5 []):=⟨AC _,λr hr=>absurd hr AF⟩
 have s:=FA ls;refine uf func218 rfl<|ZR<|ZC (λg e h=>LM (A:=none) (n:=0) (c:=0) (L:=[]) (cl:=false) (y:=y) (N:=w.heap.size) G Kk.nil0 Zd (λ_=>⟨rfl,rfl⟩) e.size) λa=> ?_
 obtain⟨⟨⟨az,A2⟩,k⟩,_⟩:=a
 by_cases wJ:k=0
 case neg=>
  refine ZJ (k !=0) true (bne_iff_ne.2 wJ)<|ZV (.tuple #[.slice none 0 0,.int .i64 k]) (λg e h=>⟨(((none,0),⟨[],f⟩),k),rfl,e,λ_ _ _=>ux⟩)
 refine ZJ (k !=0) false (by rw[wJ];rfl)<|ZC (λg e h=>cG (c:=c) (N:=w.heap.size) (hs.below e) P e.size) λpl=> ?_
 obtain⟨yl,H,F⟩:=pl;obtain⟨E,hE⟩:∃E,E=(Oa ls).2:=⟨_,rfl⟩
 have Y:H.length<=256:=by have J:=congrArg List.length F;unfold Sr at J;rw[BP]at J;have h2:=s.1;have:=Vw P;omega
 have B:∀x∈H,1<=x.1.1.length/\x.1.1.length<=4096:=λx Z=>by
  have R:(x.1.1,x.2)∈(Oa ls).1:=by rw[<-F];exact CB.2 ⟨x,Z,rfl⟩
  exact⟨eQ ls _ R,s.2 _ R⟩
 have hpb:=PJ W F;rw[<-hE]
 by_cases m:E=0
 case neg=>
  refine ZJ (E !=0) true (bne_iff_ne.2 m)<|ZV (.tuple #[.slice none 0 0,.int .i64 E]) (λg e h=>⟨(((none,0),⟨[],f⟩),E),rfl,e,λ_ _ _=>ux⟩)
 refine ZJ (E !=0) false (by rw[m];rfl)<|ZC (λg e h=>pn (c:=yl.2) (y:=y) (N:=w.heap.size) G (h.2.lin rfl) (show H.length<=4096 by omega) B e.size) λcu=> ?_
 obtain⟨⟨⟨U,M⟩,v⟩,⟨j,z⟩,D⟩:=cu
 by_cases l:v=0
 case neg=>
  refine ZJ (v !=0) true (bne_iff_ne.2 l)<|ZV (.tuple #[.slice none 0 0,.int .i64 v]) (λg e h=>⟨(((none,0),⟨[],f⟩),v),rfl,e,λ_ _ _=>ux⟩)
 refine ZJ (v !=0) false (by rw[l];rfl) ?_;have j:X8 St M<=X8 St H:=j;have z:M.length<=H.length:=z;refine ZC (λg e h=>rK (c:=U.2) (y:=y) (Q:=M) (N:=w.heap.size) G (h.2.lin rfl) (show M.length<=4096 by omega) D (show X8 St M<=100000 by omega) e.size) λr=> ?_
 obtain⟨⟨rz,R2,wI⟩,re⟩:=r
 by_cases p:re=0
 case neg=>
  refine ZJ (re !=0) true (bne_iff_ne.2 p)<|ZV (.tuple #[.slice none 0 0,.int .i64 re]) (λg e h=>⟨(((none,0),⟨[],f⟩),re),rfl,e,λ_ _ _=>ux⟩)
 refine ZJ (re !=0) false (by rw[p];rfl)<|ZC (λg e h=>rj (b:=600) (c:=rz.2) (N:=w.heap.size) (ht.below e) hK h.2.polyA (Pf wI (show X8 St M<=600 by omega)) Zd e.size) λo=>ZV (rV o) (λg e h=>⟨o,rfl,e,λu k1 k2=>Kf.mono (h u k1 k2).2 X⟩)
theorem ZP(m:b=true->S3 t T K w)(v:Tw St)(E:8<=K/\K<=10000)(z:Sa w A n ls)(D:(Ff ls).1=0)(p:dA St*M8 ls<=80)(s:N0<=w.heap.size):
 Ca 166 #[.agg (t.cl++ [Value.bool b]).toArray,.slice A n cc,Bj St y] w (K4 w (λx:Cy (Zr 600)=> .slice x.1.1 x.2.1.length x.1.2) λx u=>Kf N0 x.1 x.2.1.length x.2.1 u):=by
 have j:Zr 600 (K5 []):=⟨AC _,λr B=>absurd B AF⟩
 cases b
 .refine uf func166 rfl<|ZR<|ZI true<|ZV (.slice none 0 0) (λk g h=>⟨((none,0),⟨[],j⟩),rfl,g,λu l k2=>ux⟩)
 have m:=m rfl;refine uf func166 rfl<|ZR<|ZI false<|ZC (λk g h=>XC (c:=cc) (y:=y) (N0:=w.heap.size) v (m.below g) E (z.below g) D p g.size) λf=> ?_
 obtain⟨f,e⟩:=f
 by_cases o:e=0
 .refine ZJ (e !=0) false (by rw[o];rfl)<|ZV (.slice f.1.1 f.2.1.length f.1.2) (λk g h=>⟨f,rfl,g,λu l k2=>Kf.mono (h u l k2).2 s⟩)
 .refine ZJ (e !=0) true (bne_iff_ne.2 o)<|ZV (.slice none 0 0) (λk g h=>⟨((none,0),⟨[],j⟩),rfl,g,λu l k2=>ux⟩)
theorem iG(k:Py w S gn go c nl)(m:nl[i]? =some (N,q))(p:N.kind=2)(s:pV N)(z:N0<=w.heap.size):Ca 119 #[Sb S gn go c,.int .i64 i] w (K4 w (λx:Cy (kA λL=>L.flatten.length<=600)=> .slice x.1.1 x.2.1.length x.1.2) λx u=>Kf N0 x.1 x.2.1.length x.2.1 u):=by
 have v:=k.ndk m;have g:=AE (k.at_ m).1;have j:kA (λL=>L.flatten.length<=600) (K5 []):=⟨AC _,λr E=>absurd E AF⟩
 refine uf func119 rfl<|ZR<|ZD 4 (λo e h=>Ix (k.below e) m) λr=>uo O (stop:=1000) 1 _<|ZS 4<|ZT 12 (.bool (N.kind !=2)) (.bool false) (by rw[p];rfl) ?_
 by_cases l:N.stroke=[]
 .refine ZJ ((N.stroke.length:Int)==0) true (by rw[l];rfl)<|ZV (.slice none 0 0) (λo e h=>⟨((none,0),⟨[],j⟩),rfl,e,λ_ _ _=>ux⟩)
 refine ZJ ((N.stroke.length:Int)==0) false (YR.2 (by have:=BG.2 l;omega))<|ZC (λo e h=>ZP (b:=X_ r.2.1) (t:=r.1) (cc:=q.pac) (y:=(q.daA,q.dac)) (T:=O2 r.2.1) (K:=8) (N0:=w.heap.size) (λB=>(h.2.n (by simpa[X_]using B)).q) (mC (t_ k g) p l s) Zd ((k.at_ m).2.2.pa.below e) (v.pa p).1 (s.few l) e.size) λf=>ZV (.slice f.1.1 f.2.1.length f.1.2) (λo e h=>⟨(f.1,⟨f.2.1,f.2.2⟩),rfl,e,λu D k2=>Kf.mono (h u D k2).2 z⟩)
end
theorem Kk.spot{α:Type}{w:YM}{n s:Nat}{cl:α->List YI}{l:List α}{x:α}{v:YI}{ad:XR}(h:Kk w (Option.some ad) n s cl l)(j:l[0]? =Option.some x)(k:(cl x)[0]? =Option.some v):∃g o,ad=⟨g,o,none⟩:=by
 obtain⟨c,e,f⟩:=h.2 0 x j;injection e with e;subst e;have b:=f 0 v k;rw[CE]at b;have m:(ad.add 0).add 0=ad:=by simp[Addr.add]
 rw[m]at b;obtain⟨g,o,sp⟩:=ad;cases sp with
 |none=>exact⟨g,o,rfl⟩
 |some q=>exact absurd b (by simp[World.cell?];split<;>simp)
section
variable{w u:YM}{p q:Px}{g g2 n c k i:Nat}{z a b t:Int}{A:YY}{L:List (Int×Co)}
abbrev jW:={p:Px // p.ok}
theorem lK(j:1<=b):Ca 477 #[.int .i64 a,.int .i64 b] w (K4 w (λz:Int=> .int .i64 z) λ_ _=>True):=by
 refine uf func477 rfl<|ZR<|ul (decide (b<1)) false O (YV I)<|ZS 2<|ZA (C4 .rem 3 (.tmp 8) (.tmp 9) (.int .i64 a) (.int .i64 b)) (.int .i64 (a.tmod b)) (λf e h=>Xv I)<|uz O ?_ ?_
 .refine ZR<|ZV (.int .i64 (XQ.wrap (a.tmod b+b))) (λf e h=>⟨_,rfl,e,Zv⟩)
 .refine ZR<|ZV (.int .i64 (a.tmod b)) (λf e h=>⟨_,rfl,e,Zv⟩)
theorem TY:Ca 175 #[.int .i64 z,.int .i64 a,.int .i64 b] w (K4 w (λz:Int=> .int .i64 z) λ_ _=>True):=by
 refine uf func175 rfl<|ZR<|uz O ?_ ?_
 .refine ZR<|ZV (.int .i64 a) (λf e h=>⟨_,rfl,e,Zv⟩)
 refine ZR<|uz O ?_ ?_
 .refine ZR<|ZV (.int .i64 b) (λf e h=>⟨_,rfl,e,Zv⟩)
 .refine ZR<|ZV (.int .i64 z) (λf e h=>⟨_,rfl,e,Zv⟩)
theorem VI{x y:Nat}(b1:K8 w g [.int .i64 a])(b2:K8 w g2 [.int .i64 b]):Ca 478 #[.int .u8 x,.int .u8 y,Kp g,Kp g2] w (K4 w (λk:{k:Nat // k<=255}=> .int .u8 (k.1:Nat)) λ_ _=>True):=by
 refine uf func478 rfl<|ZR<|ZA (Ke 3 ⟨g,0,none⟩) (.int .i64 a) (λf e h=>MB (b1.below e) O)<|ZA (Ke 3 ⟨g2,0,none⟩) (.int .i64 b) (λf e h=>MB (b2.below e) O)<|ZC (λf e h=>Yj (z:=XQ.wrap (a*XQ.wrap (XQ.wrap (y:Int)-XQ.wrap (x:Int)))) (c:=b)) λd=> ?_
 obtain⟨k,l,j⟩:=s_ (XQ.wrap (XQ.wrap (x:Int)+d));refine ZV (.int .u8 (XN.wrap (XQ.wrap (XQ.wrap (x:Int)+d)))) (λf e h=>⟨⟨k,l⟩,by rw[j],e,Zv⟩)
theorem dX(b1:K8 w g [.int .i64 a])(b2:K8 w g2 [.int .i64 b]):Ca 128 #[Ls p,Ls q,.func (.func 478) #[] #[Kp g,Kp g2]] w (K4 w (λp:jW=>Ls p.1) λ_ _=>True):=by
 refine uf func128 rfl<|ZR<|ZC (λf e h=>VI (x:=p.r) (y:=q.r) (b1.below e) (b2.below e)) λo=>ZC (λf e h=>VI (x:=p.g) (y:=q.g) (b1.below e) (b2.below e)) λl=>ZC (λf e h=>VI (x:=p.b) (y:=q.b) (b1.below e) (b2.below e)) λj=>ZC (λf e h=>VI (x:=p.a) (y:=q.a) (b1.below e) (b2.below e)) λm=>ZV (Ls ⟨o.1,l.1,j.1,m.1⟩) (λf e h=>⟨⟨⟨o.1,l.1,j.1,m.1⟩,⟨o.2,l.2,j.2,m.2⟩⟩,rfl,e,Zv⟩)
theorem lk(m:p.ok):Ca 476 #[Ls p,Ls q,.int .i64 a,.int .i64 b] w (K4 w (λp:jW=>Ls p.1) λ_ _=>True):=by
 refine uf func476 rfl<|ZS 4<|uo O (stop:=1000) 5 _<|ZS 2<|uM 10 O ?_ ?_
 .refine ZR<|ZI true<|ZV (Ls p) (λj e h=>⟨⟨p,m⟩,rfl,e,Zv⟩)
 refine ZR<|uz O ?_ ?_
 .refine ZR<|ZV (Ls p) (λj e h=>⟨⟨p,m⟩,rfl,e,Zv⟩)
 refine ZR<|ZC (λj e h=>TY (z:=a) (a:=0) (b:=b)) λz=>uy (val:=λp:jW=>Ls p.1) (G:=λ_ _=>True) (xs:=[.v (Ls p),.v (Ls q),.f 478 [(6,0),(7,0)]]) O (λβ j e h l=>dX (Kz l (k:=6) (by simp[AV.ids]) (cs:=[.v (.int .i64 z)]) O) (Kz l (k:=7) (by simp[AV.ids]) (cs:=[.v (.int .i64 b)]) O)) λr=>ZR<|ZV (Ls r.1) (λj e h=>⟨r,rfl,e,Zv⟩)
theorem bf:Ca 475 #[.int .i64 t,.int .i64 a] w (K4 w (λz:Int=> .int .i64 z) λ_ _=>True):=by
 refine uf func475 rfl<|ZR<|uz O ?_ ?_
 .refine ZR<|ZC (λf e h=>TY (z:=t) (a:=0) (b:=65536)) λz=>ZV (.int .i64 z) (λf e h=>⟨z,rfl,e,Zv⟩)
 refine ZR<|uz O ?_ ?_
 .refine ZR<|ZC (λf e h=>lK (a:=t) (b:=65536) Zd) λz=>ZV (.int .i64 z) (λf e h=>⟨z,rfl,e,Zv⟩)
 refine ZR<|uz O ?_ ?_
 .refine ZR<|ZC (λf e h=>lK (a:=t) (b:=131072) Zd) λz=>uK .i64 4 O λj=>ZV (.int .i64 j) (λf e h=>⟨j,rfl,e,Zv⟩)
 .refine ZR<|ZV (.int .i64 0) (λf e h=>⟨_,rfl,e,Zv⟩)
def UO(c:Co):Px:=⟨c.1.toNat,c.2.1.toNat,c.2.2.1.toNat,c.2.2.2.toNat⟩
theorem IT(c:Co):(UO c).ok:=⟨by have:=c.1.toNat_lt;show c.1.toNat<=255;omega,by have:=c.2.1.toNat_lt;show c.2.1.toNat<=255;omega,by have:=c.2.2.1.toNat_lt;show c.2.2.1.toNat<=255;omega,by have:=c.2.2.2.toNat_lt;show c.2.2.2.toNat<=255;omega⟩
theorem aa(J:Kk w A n 5 Qr L):Ca 474 #[.slice A n c,.int .i64 t] w (K4 w (λp:jW=>Ls p.1) λ_ _=>True):=by
 refine uf func474 rfl<|ZR<|vD O<|ZR<|ZC (λf l h=>C8 (c:=c) (B:=Q0 L) rfl (J.below l)) λv=> ?_
 cases M:Q0 L
 .refine ZI true<|ZV (Ls ⟨0,0,0,0⟩) (λf l h=>⟨⟨⟨0,0,0,0⟩,⟨by decide,by decide,by decide,by decide⟩⟩,rfl,l,Zv⟩)
 have R:=J.1;have U:1<=n/\n<=16:=by unfold Q0 at M;simp only[AK,decide_eq_true_eq]at M;rw[<-R];exact M.1
 obtain⟨S,wI⟩:∃v,L[0]? =some v:=⟨_,AA I⟩
 obtain⟨ad,Z,_⟩:=J.2 0 S wI;obtain rfl:A=some ad:=Z;obtain⟨m,go,rfl⟩:=J.spot wI rfl;have cel:∀{k:Nat} {x:Int×Co} {j:Nat} {v:YI},L[k]? =some x->(Qr x)[j]? =some v->w.cell? ⟨m,go+k*5+j,none⟩=some v:=λ{k x j v} y G=>by
  obtain⟨ad,e,Q⟩:=J.2 k x y;injection e with e;subst e;have:=Q j v G;rwa [Addr.add_mid,Addr.add_mid]at this
 have o:∀{f:YM} {k:Nat},k<n->(Kd 75 (.slice (some ⟨m,go,none⟩) n c) k).run XM f= .ok (.value (.pointer (some ⟨m,go+k*5,none⟩))) f:=λ{f k} y=>by
  have:=L9 (P:=XM) (t:=75) (elem:=275) (s:=5) (ad:=⟨m,go,none⟩) (c:=c) (w:=f) O O y;rwa [Addr.add_mid]at this
 have D:∀{f:YM} {k:Nat} {x:Int×Co},Below w.heap.size w f->L[k]? =some x->(Ke 275 ⟨m,go+k*5,none⟩).run XM f= .ok (.value (.agg (Qr x).toArray)) f:=λE y=>Ka (vs:=Qr _) O O λj v G=>L5 E (cel y G)
 have K:∀{f:YM} {k:Nat} {x:Int×Co},Below w.heap.size w f->L[k]? =some x->(Ke 23 ⟨m,go+k*5+1,none⟩).run XM f= .ok (.value (Ls (UO x.2))) f:=λ{f k x} E y=>Ka (vs:=S0 (UO x.2)) O O λj v G=>L5 E (by rw[Nat.add_assoc];exact cel (j:=1+j) y (by rw[CF];exact G))
 refine ZI false<|uj (ι:={q:Nat // q<=n}) 68 (λq=>⟨[vS 0 (some ⟨m,go,none⟩) n c,vI 1 t,(4,.p 4 0),vI 5 ((q.1:Int)-1),vS 14 (some ⟨m,go,none⟩) n c,vI 15 (n:Int),vI 16 (q.1:Nat)],[(4,(S0 ⟨0,0,0,0⟩).map .v)]⟩) (λ_ _=>True) (λq=>n-q.1) (⟨0,AC _⟩) O Zf Zt (λ_ _=>trivial) ?_
 rintro⟨i,hi⟩ W
 by_cases F:i<n
 case neg=>
  refine ZR<|YN ((i:Int)<(n:Int))<|ug O<|ZR<|ZJ (((i:Int)-1== -1)) false (YR.2 I)<|uh 5 (.int .i64 ((i:Int)-1)) (.int .i64 ((i-1:Nat):Int)) O (by congr 1;omega) ?_
  obtain⟨s,H⟩:∃v,L[i-1]? =some v:=⟨_,AA I⟩
  refine ZJ (((i:Int)-1==XQ.wrap ((n:Int)-1))) true (by rw[AD _ I];exact YQ.2 I)<|ZA (Kd 75 (.slice (some ⟨m,go,none⟩) n c) (i-1:Nat)) (.pointer (some ⟨m,go+(i-1)*5,none⟩)) (λf l h=>o I)<|ZA (Ke 23 ⟨m,go+(i-1)*5+1,none⟩) (Ls (UO s.2)) (λf l h=>K l H)<|ZV (Ls (UO s.2)) (λf l h=>⟨⟨UO s.2,IT _⟩,rfl,l,Zv⟩)
 obtain⟨x,N⟩:∃v,L[i]? =some v:=⟨_,AA I⟩
 refine ZR<|YL ((i:Int)<(n:Int))<|ZA (Kd 75 (.slice (some ⟨m,go,none⟩) n c) (i:Nat)) (.pointer (some ⟨m,go+i*5,none⟩)) (λf l h=>o I)<|ZA (Ke 275 ⟨m,go+i*5,none⟩) (.agg (Qr x).toArray) (λf l h=>D l N)<|uz O ?_ ?_
 .refine ZR<|ug O<|ZR ?_
  by_cases T:i=0
  .refine ZJ (((i:Int)-1== -1)) true (by rw[T];rfl) ?_;obtain⟨s,H⟩:∃v,L[0]? =some v:=⟨_,AA I⟩
   refine ZA (Kd 75 (.slice (some ⟨m,go,none⟩) n c) (0:Nat)) (.pointer (some ⟨m,go+0*5,none⟩)) (λf l h=>o I)<|ZA (Ke 23 ⟨m,go+0*5+1,none⟩) (Ls (UO s.2)) (λf l h=>K l H)<|ZV (Ls (UO s.2)) (λf l h=>⟨⟨UO s.2,IT _⟩,rfl,l,Zv⟩)
  refine ZJ (((i:Int)-1== -1)) false (YR.2 I)<|uh 5 (.int .i64 ((i:Int)-1)) (.int .i64 ((i-1:Nat):Int)) O (by congr 1;omega) ?_
  obtain⟨s,H⟩:∃v,L[i-1]? =some v:=⟨_,AA I⟩
  refine ul (((i:Int)-1==XQ.wrap ((n:Int)-1))) false O (by rw[AD _ I];exact YR.2 I)<|ZS 7<|YC 51 (((i-1:Nat):Int)+1) (i:Nat)<|ZB 2 (Kd 75 (.slice (some ⟨m,go,none⟩) n c) (i-1:Nat)) (.pointer (some ⟨m,go+(i-1)*5,none⟩)) (λf l h=>o I)<|ZB 3 (Ke 275 ⟨m,go+(i-1)*5,none⟩) (.agg (Qr s).toArray) (λf l h=>D l H)<|ZB 7 (Kd 75 (.slice (some ⟨m,go,none⟩) n c) (i:Nat)) (.pointer (some ⟨m,go+i*5,none⟩)) (λf l h=>o I)<|ZB 8 (Ke 275 ⟨m,go+i*5,none⟩) (.agg (Qr x).toArray) (λf l h=>D l N)<|ZC (λf l h=>lk (p:=UO s.2) (q:=UO x.2) (a:=XQ.wrap (t-s.1)) (b:=XQ.wrap (x.1-s.1)) (IT _)) λr=>ZV (Ls r.1) (λf l h=>⟨r,rfl,l,Zv⟩)
 .refine ZR<|YA 16 i F<|uh 5 (.int .i64 (i:Nat)) (.int .i64 (((i+1:Nat):Int)-1)) O (by congr 1;omega)<|ui (⟨i+1,F⟩) O Zn Zt (λ_ _=>trivial)
theorem Gx(j:Kk w A n 5 Qr L):Ca 473 #[.slice A n c,.int .i64 a,.int .i64 t] w (K4 w (λp:jW=>Ls p.1) λ_ _=>True):=by
 refine uf func473 rfl<|ZS 2<|uM 8 O ?_ ?_
 .refine ZR<|ZI true<|ZV (Ls ⟨0,0,0,0⟩) (λf e h=>⟨⟨⟨0,0,0,0⟩,⟨by decide,by decide,by decide,by decide⟩⟩,rfl,e,Zv⟩)
 refine ZR<|uz O ?_ ?_
 .refine ZR<|ZV (Ls ⟨0,0,0,0⟩) (λf e h=>⟨⟨⟨0,0,0,0⟩,⟨by decide,by decide,by decide,by decide⟩⟩,rfl,e,Zv⟩)
 .refine ZR<|ZC (λf e h=>bf (t:=t) (a:=a)) λz=>ZC (λf e h=>aa (t:=z) (c:=c) (j.below e)) λr=>ZV (Ls r.1) (λf e h=>⟨r,rfl,e,Zv⟩)
end
section
variable{w u:YM}{p q:Px}{g g2 c k:Nat}{z a b t i n:Int}{A:YY}
theorem S_(m:1<=b/\b<=1073741824):Ca 477 #[.int .i64 a,.int .i64 b] w (K4 w (λz:{z:Int // 0<=z/\z<b}=> .int .i64 z.1) λ_ _=>True):=by
 have j:=Int.tmod_lt_of_pos a (b:=b) I;have l:=Int.lt_tmod_of_pos a (b:=b) I;refine uf func477 rfl<|ZR<|ul (decide (b<1)) false O (YV I)<|ZS 2<|ZA (C4 .rem 3 (.tmp 8) (.tmp 9) (.int .i64 a) (.int .i64 b)) (.int .i64 (a.tmod b)) (λf e h=>Xv I) ?_
 by_cases h:a.tmod b<0
 .refine YJ (a.tmod b<0) h<|ZV (.int .i64 (XQ.wrap (a.tmod b+b))) (λf e h=>⟨⟨a.tmod b+b,by omega,by omega⟩,by rw[AD _ I],e,Zv⟩)
 .refine YK (a.tmod b<0) h<|ZV (.int .i64 (a.tmod b)) (λf e h=>⟨⟨a.tmod b,by omega,j⟩,rfl,e,Zv⟩)
theorem UF(e:a<=b):Ca 175 #[.int .i64 z,.int .i64 a,.int .i64 b] w (K4 w (λz:{z:Int // a<=z/\z<=b}=> .int .i64 z.1) λ_ _=>True):=by
 refine uf func175 rfl<|ZR ?_
 by_cases l:z<a
 .refine YJ (z<a) l<|ZV (.int .i64 a) (λm f h=>⟨⟨a,by omega,e⟩,rfl,f,Zv⟩)
 refine YK (z<a) l ?_
 by_cases j:z>b
 .refine YJ (z>b) j<|ZV (.int .i64 b) (λm f h=>⟨⟨b,e,by omega⟩,rfl,f,Zv⟩)
 .refine YK (z>b) j<|ZV (.int .i64 z) (λm f h=>⟨⟨z,by omega,by omega⟩,rfl,f,Zv⟩)
abbrev tT(n:Int):={r:Int×Bool // r.2=true->0<=r.1/\r.1<n}
theorem U_(y:1<=n/\n<=1048576):Ca 488 #[.int .i64 i,.int .i64 n,.int .i64 a] w (K4 w (λr:tT n=> .tuple #[.int .i64 r.1.1,.bool r.1.2]) λ_ _=>True):=by
 have l:XQ.wrap (n-1)=n-1:=AD _ I;refine uf func488 rfl<|ZR ?_
 by_cases s:0<=i/\i<n
 .refine ul (decide (n<1)) false O (YV I)<|ZS 2<|YE 15 (i>=0) I<|YJ (i<n) s.2<|ZV (.tuple #[.int .i64 i,.bool true]) (λj f h=>⟨⟨(i,true),λ_=>s⟩,rfl,f,Zv⟩)
 refine ul (decide (n<1)) false O (YV I)<|ZS 2 ?_
 obtain⟨m,o⟩:∃m,m=decide (i>=0):=⟨_,rfl⟩
 refine uh 15 (.bool (decide (i>=0))) (.bool m) O (by rw[o]) ?_;have v:m=true->¬i<n:=λe=>by rw[o]at e;have:=YP e;omega
 cases m
 .refine ZR<|ZI false<|uz O ?_ ?_
  .refine ZS 3<|ZT 27 (.int .i64 (XQ.wrap (n-1))) (.int .i64 (n-1)) (by rw[l])<|ZC (λj f h=>UF (z:=i) (a:=0) (b:=n-1) I) λz=>ZV (.tuple #[.int .i64 z.1,.bool true]) (λj f h=>⟨⟨(z.1,true),λ_=>by have:=z.2;constructor<;>(dsimp only;omega)⟩,rfl,f,Zv⟩)
  refine ZR<|uz O ?_ ?_
  .refine ZR<|ZC (λj f h=>S_ (a:=i) (b:=n) I) λz=>ZV (.tuple #[.int .i64 z.1,.bool true]) (λj f h=>⟨⟨(z.1,true),λ_=>z.2⟩,rfl,f,Zv⟩)
  refine ZR<|uz O ?_ ?_
  .refine ZS 5<|ZB 5 (C4 .quo 3 (.tmp 39) (.tmp 40) (.int .i64 i) (.int .i64 n)) (.int .i64 (XQ.wrap (i.tdiv n))) (λj f h=>Hf I)<|ZD 0 (λj f h=>S_ (a:=i) (b:=n) I) λz=>vj [6,7]<|ZS 2<|uK .i64 9 O λx=>ZA (C4 .rem 3 (.tmp 42) (.tmp 43) (.int .i64 i) (.int .i64 n)) (.int .i64 (i.tmod n)) (λj f h=>Xv I)<|uz O ?_ ?_
   .refine ZR<|uz O ?_ ?_
    .refine ZR<|ZV (.tuple #[.int .i64 (XQ.wrap (XQ.wrap (n-1)-z.1)),.bool true]) (λj f h=>⟨⟨(n-1-z.1,true),λ_=>by have:=z.2;constructor<;>(dsimp only;omega)⟩,by have:=z.2;rw[l,AD _ I],f,Zv⟩)
    .refine ZR<|ZV (.tuple #[.int .i64 z.1,.bool true]) (λj f h=>⟨⟨(z.1,true),λ_=>z.2⟩,rfl,f,Zv⟩)
   .refine ZR<|uz O ?_ ?_
    .refine ZR<|ZV (.tuple #[.int .i64 (XQ.wrap (XQ.wrap (n-1)-z.1)),.bool true]) (λj f h=>⟨⟨(n-1-z.1,true),λ_=>by have:=z.2;constructor<;>(dsimp only;omega)⟩,by have:=z.2;rw[l,AD _ I],f,Zv⟩)
    .refine ZR<|ZV (.tuple #[.int .i64 z.1,.bool true]) (λj f h=>⟨⟨(z.1,true),λ_=>z.2⟩,rfl,f,Zv⟩)
  .refine ZR<|ZV (.tuple #[.int .i64 0,.bool false]) (λj f h=>⟨⟨(0,false),λe=>by cases e⟩,rfl,f,Zv⟩)
 .refine ZR<|YK (i<n) (v rfl)<|uz O ?_ ?_
  .refine ZS 3<|ZT 27 (.int .i64 (XQ.wrap (n-1))) (.int .i64 (n-1)) (by rw[l])<|ZC (λj f h=>UF (z:=i) (a:=0) (b:=n-1) I) λz=>ZV (.tuple #[.int .i64 z.1,.bool true]) (λj f h=>⟨⟨(z.1,true),λ_=>by have:=z.2;constructor<;>(dsimp only;omega)⟩,rfl,f,Zv⟩)
  refine ZR<|uz O ?_ ?_
  .refine ZR<|ZC (λj f h=>S_ (a:=i) (b:=n) I) λz=>ZV (.tuple #[.int .i64 z.1,.bool true]) (λj f h=>⟨⟨(z.1,true),λ_=>z.2⟩,rfl,f,Zv⟩)
  refine ZR<|uz O ?_ ?_
  .refine ZS 5<|ZB 5 (C4 .quo 3 (.tmp 39) (.tmp 40) (.int .i64 i) (.int .i64 n)) (.int .i64 (XQ.wrap (i.tdiv n))) (λj f h=>Hf I)<|ZD 0 (λj f h=>S_ (a:=i) (b:=n) I) λz=>vj [6,7]<|ZS 2<|uK .i64 9 O λx=>ZA (C4 .rem 3 (.tmp 42) (.tmp 43) (.int .i64 i) (.int .i64 n)) (.int .i64 (i.tmod n)) (λj f h=>Xv I)<|uz O ?_ ?_
   .refine ZR<|uz O ?_ ?_
    .refine ZR<|ZV (.tuple #[.int .i64 (XQ.wrap (XQ.wrap (n-1)-z.1)),.bool true]) (λj f h=>⟨⟨(n-1-z.1,true),λ_=>by have:=z.2;constructor<;>(dsimp only;omega)⟩,by have:=z.2;rw[l,AD _ I],f,Zv⟩)
    .refine ZR<|ZV (.tuple #[.int .i64 z.1,.bool true]) (λj f h=>⟨⟨(z.1,true),λ_=>z.2⟩,rfl,f,Zv⟩)
   .refine ZR<|uz O ?_ ?_
    .refine ZR<|ZV (.tuple #[.int .i64 (XQ.wrap (XQ.wrap (n-1)-z.1)),.bool true]) (λj f h=>⟨⟨(n-1-z.1,true),λ_=>by have:=z.2;constructor<;>(dsimp only;omega)⟩,by have:=z.2;rw[l,AD _ I],f,Zv⟩)
    .refine ZR<|ZV (.tuple #[.int .i64 z.1,.bool true]) (λj f h=>⟨⟨(z.1,true),λ_=>z.2⟩,rfl,f,Zv⟩)
  .refine ZR<|ZV (.tuple #[.int .i64 0,.bool false]) (λj f h=>⟨⟨(0,false),λe=>by cases e⟩,rfl,f,Zv⟩)
theorem d5{m:Im}(h:Vn m=true):(1<=m.w/\m.w<=1048576)/\(1<=m.h/\m.h<=1048576)/\(m.px.length:Int)=m.w*m.h/\m.w*m.h<=1048576:=by
 unfold Vn H1 at h;simp only[AK,decide_eq_true_eq]at h;obtain⟨⟨⟨e,o,f,l,s⟩,j⟩,_⟩:=h;exact⟨⟨e,by omega⟩,⟨f,by omega⟩,j,by omega⟩
theorem SR{m:Im}{y:YZ}{x yy sp:Int}(S:Vn m=true)(R:Kk w y.1 m.px.length 4 Pm m.px):Ca 486 #[oJ m y,.int .i64 x,.int .i64 yy,.int .i64 sp] w (K4 w (λp:jW=>Ls p.1) λ_ _=>True):=by
 obtain⟨F,E,H,Z⟩:=d5 S;refine uf func486 rfl<|ZR<|ZC (λl e h=>U_ (i:=x) (n:=m.w) (a:=sp) F) λr1=>ZD 3 (λl e h=>U_ (i:=yy) (n:=m.h) (a:=sp) E) λr2=> ?_
 obtain⟨⟨G,J⟩,D⟩:=r1;obtain⟨⟨B,P⟩,s⟩:=r2;cases J
 .refine ZR<|ZI true<|ZV (Ls ⟨0,0,0,0⟩) (λl e h=>⟨⟨⟨0,0,0,0⟩,⟨by decide,by decide,by decide,by decide⟩⟩,rfl,e,Zv⟩)
 refine ZR ?_;cases P
 .refine ZI true<|ZV (Ls ⟨0,0,0,0⟩) (λl e h=>⟨⟨⟨0,0,0,0⟩,⟨by decide,by decide,by decide,by decide⟩⟩,rfl,e,Zv⟩)
 have D:=D rfl;have s:=s rfl;dsimp only at D s;obtain⟨k,L⟩:∃k:Nat,B*m.w+G=k:=⟨(B*m.w+G).toNat,by have:=Int.mul_nonneg s.1 (show 0<=m.w by omega);omega⟩
 have Q:B*m.w<=(m.h-1)*m.w:=Int.mul_le_mul_of_nonneg_right I I;have M:=Int.mul_nonneg s.1 (show 0<=m.w by omega);have T:(m.h-1)*m.w=m.w*m.h-m.w:=by rw[Int.sub_mul,Int.one_mul,Int.mul_comm]
 have o:k<m.px.length:=I
 obtain⟨cc,K⟩:∃v,m.px[k]? =some v:=⟨_,AA o⟩
 obtain⟨ad,wI,f⟩:=R.2 k cc K;refine uu false O<|ZS 8<|uh 43 (.int .i64 (XQ.wrap (XQ.wrap (B*m.w)+G))) (.int .i64 (k:Nat)) O (by rw[AD (B*m.w) I,AD _ I,L])<|ZA (Kd 31 (.slice y.1 m.px.length y.2) k) (.pointer (some (ad.add (k*4)))) (λl e h=>by rw[wI];exact L9 (elem:=38) O O o)<|ZA (Ke 38 (ad.add (k*4))) (Ls (UO cc)) (λl e h=>Mh (vs:=Pm cc) O O λj v N=>L5 e (f j v N))<|ZV (Ls (UO cc)) (λl e h=>⟨⟨UO cc,IT cc⟩,rfl,e,Zv⟩)
end
theorem Xw{P:YH}{w:YM}{t e:XX}{n i g s:Nat}(f:P.underlying t=some (.array n e))(b:Mq P e=some s)(hi:i<n):
 (Kd t (Kp g) i).run P w= .ok (.value (.pointer (some ⟨g,i*s,none⟩))) w:=by
 have c:(0:Int)<=(i:Int)/\(i:Int)<(n:Int):=I
 simp only[Kd,Kp,Instr.indexAt,asIntOf,AU,AY,AQ,run_underlying f,Lb b,YS c,Int.toNat_natCast,Instr.sureAddr];rw[Addr.add_mid,BH]
section
variable{w u:YM}{g g2 c k K1 K2:Nat}{a b t i n sp:Int}{A:YY}{r r2:RV}{x yq:Rat}{m:Im}{y:YZ}
theorem HI(s:Nf r x K1 w)(z:2<=K1/\K1<=1000000):Ca 481 #[r.val] w (K4 w (λb:Bool=> .bool b) λ_ _=>True):=by
 refine uf func481 rfl<|ZR<|ZC (λl j h=>Ki (-1073741824) l Zd Zd) λf=>ZD 5 (λl j h=>Lv (s.below j) h.2.q I) λv=> ?_
 obtain⟨o,p⟩:∃o,o=decide (Kv x ((-1073741824:Int):Rat)>=0):=⟨_,rfl⟩
 refine uh 7 (.bool (decide (Kv x ((-1073741824:Int):Rat)>=0))) (.bool o) O (by rw[p]) ?_;cases o
 .refine ZR<|ZV (.bool false) (λl j h=>⟨_,rfl,j,Zv⟩)
 .refine ZR<|ZC (λl j h=>Ki 1073741824 l Zd Zd) λe=>ZC (λl j h=>Lv (s.below j) h.2.q I) λk2=>ZV (.bool (decide (Kv x ((1073741824:Int):Rat)<=0))) (λl j h=>⟨_,rfl,j,Zv⟩)
theorem GO(o:Nf r x K1 w)(p:2<=K1/\K1<=1000000):Ca 485 #[r.val] w (K4 w (λz:Int=> .int .i64 z) λ_ _=>True):=by
 refine uf func485 rfl<|ZR<|ZC (λl j h=>T1 (o.below j) I) λf=>ZC (λl j h=>Ig h.2.i I) λe=>ZV (.int .i64 (Jy x.floor)) (λl j h=>⟨_,rfl,j,Zv⟩)
theorem XH(D:Vn m=true)(z:Kk w y.1 m.px.length 4 Pm m.px)(o:Nf r x K1 w)(s:Nf r2 yq K2 w)(f:2<=K1/\K1<=1000000)(j:2<=K2/\K2<=1000000):Ca 483 #[oJ m y,.int .i64 sp,r.val,r2.val] w (K4 w (λp:jW=>Ls p.1) λ_ _=>True):=by
 refine uf func483 rfl<|ZR<|ZC (λl e h=>GO (o.below e) f) λB=>ZC (λl e h=>GO (s.below e) j) λv=>ZC (λl e h=>SR (x:=B) (yy:=v) (sp:=sp) D (z.below e)) λt=>ZV (Ls t.1) (λl e h=>⟨t,rfl,e,Zv⟩)
abbrev rZ:YI->Bool:=FJ [aU .i64,aU .i64]
theorem Wr(D:Nf r x K1 w)(F:Nf r2 yq K2 w)(b2:K8 w g r2.cl)(G:2<=K1/\K1<=400000)(B:2<=K2/\K2<=400000):Ca 484 #[r.val,Kp g] w (K4 w (λq:Int×Int=> .tuple #[.int .i64 q.1,.int .i64 q.2]) λ_ _=>True):=by
 have o:Ca 484 #[r.val,Kp g] w (K4 w (λv:VP rZ=>v.1) λ_ _=>True):=by
  refine uf func484 rfl<|ZR<|ZB 2 (Ke 53 ⟨g,0,none⟩) (r2.val) (λl j h=>Ka (vs:=r2.cl) O O (b2.below j).range)<|ZC (λl j h=>Ki 256 l Zd Zd) λf=>ZC (λl j h=>Aj (D.below j) (F.below j) I) λs=>ZC (λl j h=>Pi (h.1.2).q (h.2).q I) λq=>ZC (λl j h=>GO (h.2).q I) λz=>uO (rZ) O (λv o l j h=>⟨⟨v,o⟩,rfl,j,Zv⟩)
 refine o.mono λe J k=> ?_
 obtain⟨⟨v,o⟩,E,k2,H⟩:=k;obtain⟨a,b,rfl,p,Z⟩:=C7 o;obtain⟨x,rfl⟩:=T5 p;obtain⟨y,rfl⟩:=T5 Z;exact⟨(x,y),E,k2,H⟩
theorem Z3{zs:List Int}(b1:K8 w g (zs.map λz=>AI .i64 z))(B:zs.length=4)(p:k<4):Ca 487 #[.int .i64 (k:Int),Kp g] w (K4 w (λk:{k:Nat // k<=255}=> .int .u8 (k.1:Nat)) λ_ _=>True):=by
 obtain⟨z,l⟩:∃v,zs[k]? =some v:=⟨_,AA I⟩
 refine uf func487 rfl<|ZS 1<|ZS 1<|ZA (Kd 529 (Kp g) k) (.pointer (some ⟨g,k*1,none⟩)) (λj f h=>Xw (n:=4) (e:=3) O O p)<|ZA (Ke 3 ⟨g,k*1,none⟩) (.int .i64 z) (λj f h=>Kh O (by have:=(b1.below f).range (k*1) (.int .i64 z) (by rw[BI,BC,l];rfl);rw[BH]at this;exact this)) ?_
 refine ZC (λj f h=>Yj (z:=z) (c:=65536)) λd=> ?_
 obtain⟨e,o,s⟩:=s_ d;refine ZV (.int .u8 (XN.wrap d)) (λj f h=>⟨⟨e,o⟩,by rw[s],f,Zv⟩)
theorem RK{u:YM}{e:XX}{cs:Array YI}{g j:Nat}{v:YI}(h:Kw e cs g u)(f:cs[j]? =some v):u.cell? ⟨g,j,none⟩=some v:=by
 have:=(K8.range (cs:=cs.toList) ⟨e,h⟩) j v (by rw[Array.getElem?_toList];exact f);rw[BH]at this;exact this
theorem p5{a b d e z:Int}{j:Nat}(h: [a,b,d,e][j]? =some z):(#[AI .i64 a,.int .i64 b,.int .i64 d,.int .i64 e])[j]? =some (.int .i64 z):=by
 have f:([a,b,d,e].map λz=>AI .i64 z)[j]? =some (.int .i64 z):=by rw[BC,h];rfl
 rw[<-BZ]at f;exact f
theorem r6{a b d e z:Nat}{j:Nat}(h: [a,b,d,e][j]? =some z):(#[AI .u8 a,AI .u8 b,AI .u8 d,AI .u8 e])[j]? =some (.int .u8 z):=by
 have f:([a,b,d,e].map λz:Nat=>AI .u8 z)[j]? =some (.int .u8 z):=by rw[BC,h];rfl
 rw[<-BZ]at f;exact f
theorem tq{P:YH}{t:XX}{u:YM}{zs:List Int}{j:Nat}{z:Int}(h:K8 u g (zs.map λz=>AI .i64 z))(s:j<zs.length)(B:Mq P t=some 1):
 ∃l,(Om t ⟨g,j*1,none⟩ (.int .i64 z)).run P u= .ok .skip l/\Ei [g] u l/\∀f,l.heap.size<=f.heap.size->(∀b∈[g],f.heap[b]? =l.heap[b]?)->K8 f g ((zs.set j z).map λz=>AI .i64 z):=by
 have p:=h.storeN (P:=P) (t:=t) (v:= .int .i64 z) (j:=j*1) B (by show j*1+1<=_;rw[BP];omega) (λv o=>by have o:v∈[AI .i64 z]:=o;obtain rfl:=AB.1 o;rfl);have e:((zs.map λz=>AI .i64 z).take (j*1)++(AI .i64 z).cells.toList++(zs.map λz=>AI .i64 z).drop (j*1+(AI .i64 z).cells.toList.length))=(zs.set j z).map λz=>AI .i64 z:=by
  show(zs.map λz=>AI .i64 z).take (j*1)++ [AI .i64 z]++(zs.map λz=>AI .i64 z).drop (j*1+1)=_;rw[BI,List.map_set,List.set_eq_take_append_cons_drop,YS (by rw[BP];exact s)];simp
 rw[e]at p;exact p
theorem dh(hm:Vn m=true)(hp:Kk w y.1 m.px.length 4 Pm m.px)(hx:Nf r x K1 w)(hy:Nf r2 yq K2 w)(hK1:2<=K1/\K1<=400000)(X:2<=K2/\K2<=400000):Ca 482 #[oJ m y,.int .i64 sp,r.val,r2.val] w (K4 w (λp:jW=>Ls p.1) λ_ _=>True):=by
 refine uf func482 rfl<|ZR<|ZC (λB o h=>Pj (x:=1) (y:=2) Zd Zd) λhf=>uy (val:=λq:Int×Int=> .tuple #[.int .i64 q.1,.int .i64 q.2]) (G:=λ_ _=>True) (xs:=[.v r.val,.p 9 0]) O (λβ B o h hB=>Wr (K2:=2) (yq:=_) (hx.below o) (h.2.n Zd).q (Kz hB (k:=9) (by simp[AV.ids]) (cs:=hf.cl.map .v) O) hK1 Zd) λp1=>ZR<|uy (val:=λq:Int×Int=> .tuple #[.int .i64 q.1,.int .i64 q.2]) (G:=λ_ _=>True) (xs:=[.v r2.val,.p 9 0]) O (λβ B o h hB=>Wr (K2:=2) (yq:=_) (hy.below o) (h.1.2.n Zd).q (Kz hB (k:=9) (by simp[AV.ids]) (cs:=hf.cl.map .v) O) X Zd) λp2=>ZR<|uq 16 (([0,0,0,0]:List Int).map λz=>AI .i64 z) O O λg hg=>uK .i64 44 O λM=>uK .i64 48 O λN=>uK .i64 52 O λJ=>uK .i64 55 O λK=>uk (Lr 58 4 #[(0,.int .i64 M),(1,.int .i64 N),(2,.int .i64 J),(3,.int .i64 K)]) (Kr 4) (λD u=>Kw 3 #[.int .i64 M,.int .i64 N,.int .i64 J,.int .i64 K] D u/\D≠g) O (λB o h=>Q2 (R:=λD=>D≠g) O (λD h1 e=>by have:=h.2.ltW;omega)) λF=>ZR<|um (p:=F≠g) (λu hu h=>h.2.2) O λS=>uj (ι:={q:Nat×List Int // q.1<=4/\q.2.length=4}) 110 (λq=>⟨[vI 1 sp,(4,.p 4 0),(8,.p 8 0),vI 12 p1.1,vI 14 p2.1,vV 16 (Kp g),vV 56 (Kr 4 F),vI 57 4,vI 58 (q.1.1:Nat)],[(4,[.v (.int .i64 m.w),.v (.int .i64 m.h),.v (.slice y.1 m.px.length y.2)]),(8,(S0 ⟨0,0,0,0⟩).map .v)]⟩) (λq u=>K8 u g (q.1.2.map λz=>AI .i64 z)/\Kw 3 #[.int .i64 M,.int .i64 N,.int .i64 J,.int .i64 K] F u) (λq=>4-q.1.1) (⟨(0,[0,0,0,0]),AC _,rfl⟩) O Zf Zt (λu h=>⟨h.1.2,h.2.1⟩) ?_
 rintro⟨⟨j,zs⟩,hj,f⟩ gg;have hj:j<=4:=hj;have f:zs.length=4:=f
 by_cases wI:j<4
 case neg=>
  obtain rfl:j=4:=I
  refine ZR<|ZI false<|ug O<|ZR<|ZC (λB o h=>Z3 (k:=0) h.1 f Zd) λZ=>ZC (λB o h=>Z3 (k:=1) h.1.1 f Zd) λP=>ZC (λB o h=>Z3 (k:=2) h.1.1.1 f Zd) λU=>ZC (λB o h=>Z3 (k:=3) h.1.1.1.1 f Zd) λT=>ZV (Ls ⟨Z.1,P.1,U.1,T.1⟩) (λB o h=>⟨⟨⟨Z.1,P.1,U.1,T.1⟩,⟨Z.2,P.2,U.2,T.2⟩⟩,rfl,o,Zv⟩)
 obtain⟨aj,W⟩:∃v,[M,N,J,K][j]? =some v:=⟨_,AA wI⟩
 refine ZR<|YL ((j:Int)<4)<|ZA (Kd 58 (Kr 4 F) j) (.pointer (some ⟨F,j*1,none⟩)) (λB o h=>Kc (elem:=3) O O wI)<|ZA (Ke 3 ⟨F,j*1,none⟩) (.int .i64 aj) (λB o h=>Kh O (RK h.2 (by rw[BI];exact p5 W)))<|uK .i64 67 O λxx=>uK .i64 71 O λyy=>ZC (λB o h=>SR (x:=xx) (yy:=yy) (sp:=sp) hm (hp.below o)) λs=>uk (Lr 108 4 #[(0,.int .u8 (s.1.r:Int)),(1,.int .u8 (s.1.g:Int)),(2,.int .u8 (s.1.b:Int)),(3,.int .u8 (s.1.a:Int))]) (Kr 4) (λD u=>Kw 5 #[.int .u8 (s.1.r:Int),.int .u8 (s.1.g:Int),.int .u8 (s.1.b:Int),.int .u8 (s.1.a:Int)] D u/\D≠g) O (λB o h=>Q2 (R:=λD=>D≠g) O (λD h1 e=>by have:=h.1.1.ltW;omega)) λH=>ZR<|um (p:=H≠g) (λu hu h=>h.2.2) O λY=>uj (ι:={q:Nat×List Int // q.1<=4/\q.2.length=4}) 110 (λq=>⟨[vI 1 sp,(4,.p 4 0),(8,.p 8 0),vI 12 p1.1,vI 14 p2.1,vV 16 (Kp g),vI 18 aj,vV 56 (Kr 4 F),vI 57 4,vI 58 (j:Nat),vV 82 (Kr 4 H),vI 83 4,vI 84 (q.1.1:Nat)],[(4,[.v (.int .i64 m.w),.v (.int .i64 m.h),.v (.slice y.1 m.px.length y.2)]),(8,(S0 ⟨0,0,0,0⟩).map .v)]⟩) (λq u=>K8 u g (q.1.2.map λz=>AI .i64 z)/\Kw 3 #[.int .i64 M,.int .i64 N,.int .i64 J,.int .i64 K] F u/\Kw 5 #[.int .u8 (s.1.r:Int),.int .u8 (s.1.g:Int),.int .u8 (s.1.b:Int),.int .u8 (s.1.a:Int)] H u) (λq=>4-q.1.1) (⟨(0,zs),AC _,f⟩) O Zf Zt (λu h=>⟨h.1.1.1,h.1.1.2,h.2.1⟩) ?_
 rintro⟨⟨l,zs⟩,hl,f⟩ gg2;have hl:l<=4:=hl;have f:zs.length=4:=f
 by_cases E:l<4
 case neg=>
  obtain rfl:l=4:=I
  refine ZR<|ZI false<|ug O<|ZR<|YB 58 ((j:Int)+1) ((j+1:Nat):Int)<|ui (⟨(j+1,zs),wI,f⟩) O Zn Zt (λu h=>⟨h.1,h.2.1⟩)
 obtain⟨bl,hbl⟩:∃v,[s.1.r,s.1.g,s.1.b,s.1.a][l]? =some v:=⟨_,AA E⟩
 obtain⟨z,hz⟩:∃v,zs[l]? =some v:=⟨_,AA I⟩
 refine ZR<|YL ((l:Int)<4)<|ZA (Kd 108 (Kr 4 H) l) (.pointer (some ⟨H,l*1,none⟩)) (λB o h=>Kc (elem:=5) O O E)<|uw (Ke 5 ⟨H,l*1,none⟩) (.int .u8 (bl:Int)) O (λB o h=>Kh O (RK h.2.2 (by rw[BI];exact r6 hbl)))<|ZS 1<|ZA (Kd 529 (Kp g) l) (.pointer (some ⟨g,l*1,none⟩)) (λB o h=>Xw (n:=4) (e:=3) O O E)<|uw (Ke 3 ⟨g,l*1,none⟩) (.int .i64 z) O (λB o h=>Kh O (by have:=h.1.range (l*1) (.int .i64 z) (by rw[BI,BC,hz];rfl);rw[BH]at this;exact this)) ?_
 refine ZS 8<|uK .i64 96 O λwJ=>ZA (Kd 529 (Kp g) l) (.pointer (some ⟨g,l*1,none⟩)) (λB o h=>Xw (n:=4) (e:=3) O O E)<|ur (L:=[g]) (G:=λu=>K8 u g ((zs.set l wJ).map λz=>AI .i64 z)) (Φ':=λu=>K8 u g ((zs.set l wJ).map λz=>AI .i64 z)/\Kw 3 #[.int .i64 M,.int .i64 N,.int .i64 J,.int .i64 K] F u/\Kw 5 #[.int .u8 (s.1.r:Int),.int .u8 (s.1.g:Int),.int .u8 (s.1.b:Int),.int .u8 (s.1.a:Int)] H u) (Om 3 ⟨g,l*1,none⟩ (.int .i64 wJ)) (λB o h=>tq h.1 I O) (λu h b' Q=>by obtain rfl:=AB.1 Q;obtain⟨ty,h2⟩:=h.1;exact⟨hg,_,_,_,h2⟩) (λwa u e1 e2 h hG=>⟨hG,(e2 F (by simpa using S)).symm.trans h.2.1,(e2 H (by simpa using Y)).symm.trans h.2.2⟩) O O<|ZR<|YB 84 ((l:Int)+1) ((l+1:Nat):Int)<|ui (⟨(l+1,zs.set l wJ),E,by show(zs.set l wJ).length=4;rw[BO,f]⟩) O Zn Zt (λ_ h=>h)
end
def pI(W H:Int):List Sg:=[⟨1,0,0,0,0,0,0⟩,⟨2,W*256,0,0,0,0,0⟩,⟨2,W*256,H*256,0,0,0,0⟩,⟨2,0,H*256,0,0,0,0⟩,⟨5,0,0,0,0,0,0⟩]
theorem oA{W H:Int}(j:1<=W/\W<=4096)(o:1<=H/\H<=4096):(Ff (pI W H)).1=0:=by
 have f:Se ⟨1,0,0,0,0,0,0⟩=true:=Zd
 have g:Se ⟨5,0,0,0,0,0,0⟩=true:=Zd
 have c:∀a b:Int,0<=a->a<=1048576->0<=b->b<=1048576->Se ⟨2,a,b,0,0,0,0⟩=true:=λa b l k h m=>by
  have e:Lf a b=true:=YU I;show((Lf a b&&true)&&J_ 1 1 0 0&&J_ 2 1 0 0)=true;rw[e];decide
 unfold Ff pI;rw[YT Zs];simp only[Yr,Tf];rw[f,g,c _ _ I I I I,c _ _ I I I I,c _ _ I I I I]
 rfl
theorem k6(W H:Int):M8 (pI W H)<=24:=by
 have e:M8 (pI W H)=5:=rfl;omega
section
variable{w u:YM}{R:Rc}{S:Sc}{gn go c i N0 n g1 g2 g3:Nat}{nl:List (Nd×ND)}{N:Nd}{q:ND}{x y:Int}{A:YY}{K K1 K2 K3:Nat->Prop}
theorem bo(s:1<=x/\x<=4096)(t:1<=y/\y<=4096):Ca 171 #[Pw 0 0 x y] w (CU w (.bool false)):=by
 have m:∀(k:Nat) (z:Int),[0,0,x,y][k]? =some z->0<=z/\z<=4096:=λk z h=>by
  rcases k with _|_|_|_|k<;>simp at h<;>omega
 refine uf func171 rfl<|ZR<|uk (Lr 58 4 #[(0,.int .i64 0),(1,.int .i64 0),(2,.int .i64 x),(3,.int .i64 y)]) (Kr 4) (Kw 3 #[.int .i64 0,.int .i64 0,.int .i64 x,.int .i64 y]) O (λl j h=>Kj O) λg=>ZR<|uj (ι:={k:Nat // k<=4}) 38 (λk=>⟨[(1,.p 1 0),vV 2 (.bool false),vV 13 (Kr 4 g),vI 14 4,vI 15 (k.1:Nat)],[(1,([.int .i64 0,.int .i64 0,.int .i64 x,.int .i64 y]:List YI).map .v)]⟩) (λ_ u=>Kw 3 #[.int .i64 0,.int .i64 0,.int .i64 x,.int .i64 y] g u) (λk=>4-k.1) (⟨0,by decide⟩) O Zf Zt (λu h=>h.2) ?_
 rintro⟨k,e⟩ B;have e:k<=4:=e
 by_cases b:k<4
 case neg=>
  obtain rfl:k=4:=I
  exact ZR<|ZI false<|ug O<|ZS 5<|YG 30 (x<=0) I<|ZX (.bool (decide (y<=0))) (by rw[YV I])
 obtain⟨v,f⟩:∃v,[0,0,x,y][k]? =some v:=⟨_,AA (by show k<4;exact b)⟩
 have o:=m k v f;refine ZR<|YL ((k:Int)<4)<|ZA (Kd 58 (Kr 4 g) k) (.pointer (some ⟨g,k*1,none⟩)) (λl j h=>Kc (elem:=3) O O b)<|uw (Ke 3 ⟨g,k*1,none⟩) (.int .i64 v) O (λl j h=>Kh O (by rw[BI];exact RK h (p5 f)))<|ZS 2<|uo O (stop:=1000) 1 _<|ZS 2<|YG 20 (v< -4096) I<|YN (v>4096)<|YB 15 ((k:Int)+1) ((k+1:Nat):Int)<|ui (⟨k+1,b⟩) O Zn Zt (λ_ h=>h)
theorem JS(b:0<=x/\x<=4096)(e:0<=y/\y<=4096):Ca 172 #[.int .i64 x,.int .i64 y] w (CU w (pt (x*256) (y*256))):=uf func172 rfl<|ZR<|ZX (pt (XQ.wrap (x*256)) (XQ.wrap (y*256))) (by rw[AD _ I,AD _ I])
theorem rq(k:1<=x/\x<=4096)(m:1<=y/\y<=4096):Ca 123 #[Pw 0 0 x y] w (K4 w (λg:Nat=> .slice (some ⟨g,0,none⟩) 5 5) λg u=>Sa u (some ⟨g,0,none⟩) 5 (pI x y)):=by
 refine uf func123 rfl<|ZR<|ZC (λf b h=>bo k m) λe=>ZI false<|ZC (λf b h=>JS (x:=0) (y:=0) I I) λo=>ZC (λf b h=>JS (x:=x) (y:=0) I I) λv=>ZC (λf b h=>JS (x:=x) (y:=y) I I) λt=>ZC (λf b h=>JS (x:=0) (y:=y) I I) λp=>uk (Lr 56 5 #[(0,(Sg.mk 1 (0*256) (0*256) 0 0 0 0).val),(1,(Sg.mk 2 (x*256) (0*256) 0 0 0 0).val),(2,(Sg.mk 2 (x*256) (y*256) 0 0 0 0).val),(3,(Sg.mk 2 (0*256) (y*256) 0 0 0 0).val),(4,(Sg.mk 5 0 0 0 0 0 0).val)]) (Kr 5) (Kw 87 ((pI x y).flatMap Sg.cl).toArray) O (λf b h=>Kj O) λg=>ZR<|ZV (.slice (some ⟨g,0,none⟩) 5 5) (λf b h=>⟨g,rfl,b,λj l k2=>Kk.lit (s:=7) (cl:=Sg.cl) (λ_=>rfl) ((h j l k2).2)⟩)
theorem kl(v:Py w S gn go c nl)(s:nl[i]? =some (N,q))(p:N.kind=3)(B:N0<=w.heap.size):Ca 75 #[Sb S gn go c,.int .i64 i] w (K4 w (λx:Cy (kA λL=>L.flatten.length<=600)=> .slice x.1.1 x.2.1.length x.1.2) λx u=>Kf N0 x.1 x.2.1.length x.2.1 u):=by
 have z:=v.ndk s;have e:=z.im p;unfold Vn H1 at e;simp only[AK,decide_eq_true_eq]at e;obtain⟨⟨⟨m,j,k,l,_⟩,_⟩,_⟩:=e;refine uf func75 rfl<|ZR<|ZC (λo g h=>Ix (v.below g) s) λr=>ZJ (N.kind !=3) false (by rw[p];rfl)<|ZC (λo g h=>rq (x:=N.im.w) (y:=N.im.h) ⟨m,j⟩ ⟨k,l⟩) λfr=>ZC (λo g h=>JZ (b:=X_ r.2.1) (t:=r.1) (cc:=5) (P:=kA λL=>L.flatten.length<=600) (T:=O2 r.2.1) (K:=8) (N0:=w.heap.size) (λD=>((Fi.n h.1.2 (by simpa[X_]using D)).q)) Zd h.2 (oA ⟨m,j⟩ ⟨k,l⟩) (RM (P:=λL=>L.flatten.length<=600) (by unfold SM;split;exact AH (Zg (k6 _ _)) Zd;exact AC _)) g.size) λf=>ZV (.slice f.1.1 f.2.1.length f.1.2) (λo g h=>⟨f,rfl,g,λu E k2=>Kf.mono (h u E k2).2 B⟩)
theorem Wg(g:O4 R)(v:Py w S gn go c nl)(p:nl[i]? =some (N,q))(j:N.kind=2)(t:pV N)(k:N0<=w.heap.size):Ca 73 #[Sb S gn go c,.int .i64 i,R.V] w (K4 w (λm:MV=>Le m) λm u=>Qf N0 R Kb m u):=by
 refine uf func73 rfl<|ZR<|ZC (λf b h=>iG (N0:=w.heap.size) (v.below b) p j t b.size) λo=> ?_
 obtain⟨z,H,l,e⟩:=o;refine ZC (λf b h=>HD (n:=z.2) (K:=Kb) (N0:=w.heap.size) g h.2.polyA (by show H.length<=1000000;have:=Uy e;omega) ⟨l,Zv⟩ (λ_=> .inl rfl) b.size) λm=>ZV (Le m) (λf b h=>⟨m,rfl,b,λu s k2=>Qf.mono (h u s k2).2 k⟩)
theorem qO(l:O4 R)(o:Py w S gn go c nl)(f:nl[i]? =some (N,q))(j:N.kind=2)(p:pV N)(b1:K8 w g1 (W0 S gn go c))(b2:K8 w g2 [.int .i64 (i:Int)])(s:K8 w g3 R.C)(k:N0<=w.heap.size):Ca 108 #[Kp g1,Kp g2,Kp g3] w (K4 w (λm:MV=>Le m) λm u=>Qf N0 R Kb m u):=by
 refine uf func108 rfl<|ZR<|ZA (Ke 26 ⟨g1,0,none⟩) (Sb S gn go c) (λe b h=>Ka (vs:=W0 S gn go c) O O (b1.below b).range)<|ZA (Ke 3 ⟨g2,0,none⟩) (.int .i64 i) (λe b h=>(b2.below b).load1 O)<|ZA (Ke 30 ⟨g3,0,none⟩) (R.V) (λe b h=>Ka (vs:=R.C) O O (s.below b).range)<|ZC (λe b h=>Wg (N0:=w.heap.size) l (o.below b) f j p b.size) λm=>ZV (Le m) (λe b h=>⟨m,rfl,b,λu g k2=>Qf.mono (h u g k2).2 k⟩)
theorem ka(j:O4 R)(o:Py w S gn go c nl)(l:nl[i]? =some (N,q))(s:N.kind=2)(D:pV N)(p:eM S R N K2)(z:N0<=w.heap.size):Ca 65 #[Sb S gn go c,.int .i64 i,R.V] w (K4 w (λm:MV=> .tuple #[Le m,.int .i64 0]) λm u=>Qf N0 R Kb m u):=by
 refine uf func65 rfl<|ZR<|uy (val:=λm:MV=> .tuple #[Le m,.int .i64 0]) (G:=λm u=>Qf w.heap.size R Kb m u) (xs:=[.v (Sb S gn go c),.v (.int .i64 i),.v R.V,.f 108 [(3,0),(4,0),(5,0)]]) O (λβ t e h g=>Kl (K1:=Kb) j (o.below e) l p (.inr (.inl ⟨rfl,_,_,_,rfl⟩)) (λE b=>qO j ((o.below e).below b) l s D (K8.below (Kz g (k:=3) (by simp[AV.ids]) (cs:=(W0 S gn go c).map .v) O) b) (K8.below (Kz g (k:=4) (by simp[AV.ids]) (cs:=[.v (.int .i64 (i:Int))]) O) b) (K8.below (Kz g (k:=5) (by simp[AV.ids]) (cs:=R.C.map .v) O) b) b.size) (λ_ _ _ _ _ _=>trivial) e.size) λm=>ZR<|ZV (.tuple #[Le m,.int .i64 0]) (λt e h=>⟨m,rfl,e,λu B k2=>Qf.mono (h u B k2).2 z⟩)
structure nG(N:Nd):Prop where
 cl:M8 N.clip<=24
 pa:M8 N.path<=24
 sk:N.kind=2->pV N
theorem lR(h:nG N):pL S R N Kb:=⟨λ_=>trivial,λ_ Ts _=>⟨by unfold SM;split;exact AH (Zg h.pa) Zd;exact AC _,Zv⟩⟩
theorem LI(h:nG N):eM S R N Kb:=⟨λ_=>trivial,λ_ Ts _=>⟨by unfold SM;split;exact AH (Zg h.cl) Zd;exact AC _,Zv⟩⟩
theorem s6(j:O4 R)(h:∀N∈S.nds,nG N):XF S gn go c nl R where
 st:=λw i N0 N q f e g b=>Wg j f e g ((h N (AE (f.at_ e).1)).sk g) b
 im:=λw i N0 N q f e g b=>kl f e g b
 fi:=λN b=>lR (h N b)
 cl:=λN b=>LI (h N b)
end
def oL(X Y U V:Int)(p q:Rat):Rat:=(((65536:Int):Rat)*((p- (X:Rat))*((U-X:Int):Rat)+(q- (Y:Rat))*((V-Y:Int):Rat)))/(((U-X:Int):Rat)*((U-X:Int):Rat)+((V-Y:Int):Rat)*((V-Y:Int):Rat))
def VS(X Y U V:Int)(p q:Rat):Int:=if Lf X Y=true/\Lf U V=true/\¬(X=U/\Y=V)then Pu (oL X Y U V p q).floor else 65536
section
variable{w W:YM}{X Y U V x r o:Int}{p q:Rat}{K g1 g2 g3:Nat}{a:SV}{b:Bool}{u:FrameMode}
theorem rY{a b:Int}(h:¬(a=0/\b=0)):((a:Rat)*(a:Rat)+(b:Rat)*(b:Rat))≠0:=by
 intro e;have k:((a*a+b*b:Int):Rat)=0:=by rw[<-e];push_cast;rfl
 have j:a*a+b*b=0:=by exact_mod_cast k
 have g:∀z:Int,z*z=((z.natAbs*z.natAbs:Nat):Int):=λz=>by rw[BQ];exact(Int.natAbs_mul_self' z).symm
 rw[g a,g b]at j;have f:a.natAbs*a.natAbs=0:=I
 have c:b.natAbs*b.natAbs=0:=I
 have f:a.natAbs=0:=by rcases Nat.mul_eq_zero.1 f with e|e<;>exact e
 have c:b.natAbs=0:=by rcases Nat.mul_eq_zero.1 c with e|e<;>exact e
 exact h ⟨by omega,by omega⟩
theorem d9{z:Int}(h: -2097152<=z/\z<=2097152):0<=z*z/\z*z<=4398046511104:=by
 have c:z*z=((z.natAbs*z.natAbs:Nat):Int):=by rw[BQ];exact(Int.natAbs_mul_self' z).symm
 have e:z.natAbs*z.natAbs<=2097152*2097152:=BR I I;rw[c];omega
def Jo:Prop:=∀(a:SV) (x:Int) (K:Nat) (u:YM),Sx a x K u->K<=1000000->Ca 244 #[a.val] u (CU u (.int .i64 (Pu x)))
theorem bF{r s:RV}(G:Jo)(F:Nf r p 100 w)(Z:Nf s q 100 w):
 Ca 202 #[pt X Y,pt U V,r.val,s.val] w (CU w (.int .i64 (VS X Y U V p q))):=by
 by_cases B:X=U/\Y=V
 .exact uf func202 rfl<|ZS 2<|uo O (stop:=1000) 1 _<|ZS 2<|ZA (Xj 74 (.tmp 16) (.tmp 17) (pt X Y) (pt U V)) (.bool true) (λf g h=>by rw[Oc,B.1,B.2];simp)<|ZI true<|ZX (.int .i64 65536) (by unfold VS;rw[YT (by simp[B])])
 have D:(X==U&&Y==V)=false:=by simp;omega
 cases t:Lf X Y
 case false=>
  exact uf func202 rfl<|ZS 2<|uo O (stop:=1000) 1 _<|ZS 2<|ZA (Xj 74 (.tmp 16) (.tmp 17) (pt X Y) (pt U V)) (.bool false) (λf g h=>by rw[Oc,D])<|ZC (λf g h=>Mg t) λu=>ZI true<|ZX (.int .i64 65536) (by unfold VS;rw[YT (by rw[t];simp)])
 cases A:Lf U V
 case false=>
  exact uf func202 rfl<|ZS 2<|uo O (stop:=1000) 1 _<|ZS 2<|ZA (Xj 74 (.tmp 16) (.tmp 17) (pt X Y) (pt U V)) (.bool false) (λf g h=>by rw[Oc,D])<|ZC (λf g h=>Mg t) λu=>ZC (λf g h=>Mg A) λu=>ZI true<|ZX (.int .i64 65536) (by unfold VS;rw[YT (by rw[A];simp)])
 have M:(-1048576<=X/\X<=1048576)/\(-1048576<=Y/\Y<=1048576):=by unfold Lf at t;simpa using t
 have H:(-1048576<=U/\U<=1048576)/\(-1048576<=V/\V<=1048576):=by unfold Lf at A;simpa using A
 have N:=d9 (z:=U-X) I;have L:=d9 (z:=V-Y) I;have E:=rY (a:=U-X) (b:=V-Y) I;have j:(((U-X)*(U-X)+(V-Y)*(V-Y):Int):Rat)=((U-X:Int):Rat)*((U-X:Int):Rat)+((V-Y:Int):Rat)*((V-Y:Int):Rat):=by push_cast;rfl
 have J:(((U-X)*(U-X)+(V-Y)*(V-Y):Int):Rat)≠0:=by rw[j];exact E
 exact uf func202 rfl<|ZS 2<|uo O (stop:=1000) 1 _<|ZS 2<|ZA (Xj 74 (.tmp 16) (.tmp 17) (pt X Y) (pt U V)) (.bool false) (λf g h=>by rw[Oc,D])<|ZC (λf g h=>Mg t) λu=>ZC (λf g h=>Mg A) λu=>ZI false<|YB 9 (U-X) (U-X)<|YB 10 (V-Y) (V-Y)<|ZC (λf g h=>KJ (X:=X) (Y:=Y) I I (F.below g) (Z.below g) Zd) λo=>ZC (λf g h=>Ki (U-X) f I I) λu=>ZC (λf g h=>Pi h.1.2.1.q h.2.q Zd) λm=>ZC (λf g h=>Ki (V-Y) f I I) λv=>ZC (λf g h=>Pi h.1.1.1.2.2.q h.2.q Zd) λn=>ZC (λf g h=>S5 h.1.1.2.q h.2.q Zd) λd=>ZC (λf g h=>Ki 65536 f Zd Zd) λc=>ZC (λf g h=>Pi h.2.q h.1.2.q Zd) λe=>uh 65 (.int .i64 (XQ.wrap (XQ.wrap ((U-X)*(U-X))+XQ.wrap ((V-Y)*(V-Y))))) (.int .i64 ((U-X)*(U-X)+(V-Y)*(V-Y))) O (by rw[AD ((U-X)*(U-X)) I,AD ((V-Y)*(V-Y)) I,AD _ I])<|ZC (λf g h=>Ki ((U-X)*(U-X)+(V-Y)*(V-Y)) f I I) λk=>ZC (λf g h=>HY h.1.2.q h.2.q Zd) λz=>ZC (λf g h=>T1 (dC h.2 J).q Zd) λl=>ZC (λf g h=>G _ (oL X Y U V p q).floor _ f (Yz.cast h.2 (by rw[j];rfl)).i Zd) λy=>ZX (.int .i64 (Pu (oL X Y U V p q).floor)) (by unfold VS;rw[YS ⟨t,A,B⟩])
def aA(n:Nat):Nat->Nat
 |0=>0
 |k+1=>if (k+1)*(k+1)<=n then k+1 else aA n k
def Ij(n:Nat):Nat:=aA n n
theorem FG(n:Nat):∀k,n<(k+1)*(k+1)->B6 n (aA n k)
 |0,h=>⟨by simp[aA],by simpa[aA]using h⟩
 |k+1,h=>by
  unfold aA;split
  .rename_i c;exact⟨c,h⟩
  .exact FG n k I
theorem Ii(n:Nat):B6 n (Ij n):=FG n n (by rw[Nat.succ_mul,Nat.mul_succ];omega)
theorem fh{n r:Nat}(h:B6 n r):Ij n=r:=(Ii n).unique h
theorem bK(n:Nat):Ij n<=n:=by
 have h:=(Ii n).1;rcases Nat.eq_zero_or_pos (Ij n)with e|e
 .omega
 .exact AH (Nat.le_mul_of_pos_left _ e) h
theorem oC{a:DV}{x K:Nat}{w:YM}(c:F6 a x K w)(f:K<=4000):Ca 246 #[a.val] w (K4 w DV.val λv w=>Zz v (Ij x) K w):=by
 refine(od w c.1 (by have:=c.2.2;omega)).mono λ_ _ h=> ?_
 obtain⟨r,e,h⟩:=h;rw[c.2.1]at e;rw[<-fh e]at h;exact h.post (Nat.lt_of_le_of_lt (bK x) c.lt)
def s8(X Y r:Int)(p q:Rat):Rat:=(((4294967296:Int):Rat)*((p- (X:Rat))*(p- (X:Rat))+(q- (Y:Rat))*(q- (Y:Rat))))/((r*r:Int):Rat)
def am(X Y r:Int)(p q:Rat):Int:=if Lf X Y=true/\1<=r/\r<=1048576 then Pu (Ij (s8 X Y r p q).floor.natAbs:Nat)else 65536
theorem di{s t:RV}(j:Jo)(J: -9223372036854775808<=r/\r<=9223372036854775807)(F:Nf s p 100 w)(H:Nf t q 100 w):
 Ca 204 #[pt X Y,.int .i64 r,s.val,t.val] w (CU w (.int .i64 (am X Y r p q))):=by
 refine uf func204 rfl<|ZS 3<|uo O (stop:=1000) 1 _<|ZS 3<|vf 16 (decide (r<1)) O (λj=> ?_) (λj=> ?_)
 .refine uv O (stop:=1000) 6000 _ ?_;have E:r<1:=YP j;exact ZX (.int .i64 65536) (by unfold am;rw[YT I])
 have E:¬r<1:=YO j;clear j;refine ZS 7<|vf 20 (decide (r>1048576)) O (λj=> ?_) (λj=> ?_)
 .refine uv O (stop:=1000) 6000 _ ?_;have B:r>1048576:=YP j;exact ZX (.int .i64 65536) (by unfold am;rw[YT I])
 have B:¬r>1048576:=YO j;clear j;refine ZR ?_;cases A:Lf X Y
 case false=>
  exact ZC (λf g h=>Mg A) λu=>uv O (stop:=1000) 6000 _<|ZX (.int .i64 65536) (by unfold am;rw[YT (by rw[A];simp)])
 have L:(-1048576<=X/\X<=1048576)/\(-1048576<=Y/\Y<=1048576):=by unfold Lf at A;simpa using A
 have Z:=d9 (z:=r) I;have D:((r*r:Int):Rat)≠0:=by
  intro e;have G:r*r=0:=by exact_mod_cast e
  rcases Int.mul_eq_zero.1 G with e|e<;>omega
 exact ZC (λf g h=>Mg A) λu=>ZI false<|ZC (λf g h=>KJ (X:=X) (Y:=Y) I I (F.below g) (H.below g) Zd) λo=>ZC (λf g h=>Pi h.2.1.q h.2.1.q Zd) λm=>ZC (λf g h=>Pi h.1.2.2.q h.1.2.2.q Zd) λn=>ZC (λf g h=>S5 h.1.2.q h.2.q Zd) λd=>ZC (λf g h=>Ki 4294967296 f Zd Zd) λc=>ZC (λf g h=>Pi h.2.q h.1.2.q Zd) λe=>ZC (λf g h=>Ki (XQ.wrap (r*r)) f (by rw[AD _ I];omega) (by rw[AD _ I];omega)) λk=>ZC (λf g h=>HY h.1.2.q h.2.q Zd) λz=>ZC (λf g h=>T1 (dC h.2 (by rw[AD _ I];exact D)).q Zd) λl=>ZC (λf g h=>oC h.2.1.d Zd) λb=>ZC (λf g h=>Rg (h.2.sv false) Zd) λv=>ZC (λf g h=>j _ _ _ f h.2.i Zd) λy=>ZX (.int .i64 (Pu (zi false (Ij (((((4294967296:Int):Rat)*((p- (X:Rat))*(p- (X:Rat))+(q- (Y:Rat))*(q- (Y:Rat))))/((XQ.wrap (r*r):Int):Rat)).floor.natAbs))))) (by unfold am;rw[YS ⟨A,by omega,by omega⟩,AD _ I];rfl)
theorem K8.stay{w u:YM}{B g:Nat}{cs:List YI}(h:K8 w g cs)(c:B<=g)(e:∀b,B<=b->b<w.heap.size->u.heap[b]? =w.heap[b]?):K8 u g cs:=by
 obtain⟨t,h⟩:=h;exact⟨t,(e g c (AP.1 h).1).trans h⟩
theorem kE(h: -9223372036854775808<=x/\x<=9223372036854775807):(if (if x<1099511627776 then x else 1099511627776)> -1099511627776 then(if x<1099511627776 then x else 1099511627776)else -1099511627776)=Pu x:=by
 unfold Pu
 repeat' split
 all_goals omega
theorem SN(h:¬(-9223372036854775808<=x/\x<=9223372036854775807)):Pu x=if x<0 then -1099511627776 else 1099511627776:=by
 unfold Pu
 repeat' split
 all_goals omega
theorem dz:decide (V7 x<0)=decide (x<0):=by
 unfold V7;split
 .rename_i h;rw[YU h];rfl
 .rename_i h;rw[YV h];split<;>rfl
theorem OU(N:Below W.heap.size W w)(P:K8 w g1 [.bool a.s,.slice a.A a.n a.c])(y:K8 w g2 [.int .i64 o])(T:K8 w g3 [.bool b])(wJ:W.heap.size<=g1)(m:W.heap.size<=g2)(S:W.heap.size<=g3)
 (Q:Sx a x K W) (hK:K<=1000000) (E:b=true->o=x/\(-9223372036854775808<=x/\x<=9223372036854775807)) (D:b=false->¬(-9223372036854775808<=x/\x<=9223372036854775807)):
 CallsD XM 310 #[.pointer (some ⟨g3,0,none⟩),.pointer (some ⟨g2,0,none⟩),.pointer (some ⟨g1,0,none⟩)] u w (λe Z M=>Z=u/\e= .returned (.tuple #[])/\Below W.heap.size W M/\K8 M g2 [.int .i64 (Pu x)]):=by
 refine u0 func310 rfl N<|ZR<|ZA (Ke 4 ⟨g3,0,none⟩) (.bool b) (λf g h=>(T.stay S h.2).load1 O) ?_
 have j:Ub W [g2] (λu=>w.heap.size<=u.heap.size/\∀b,W.heap.size<=b->b<w.heap.size->u.heap[b]? =w.heap[b]?):=λf h b R=>by
  obtain rfl:b=g2:=by simpa using R
  exact⟨m,(y.stay m h.2).own⟩
 refine uP (b) O (λk=> ?_) (λk=> ?_)
 .obtain⟨rfl,z⟩:=E k;refine ZR<|uw (Ke 3 ⟨g2,0,none⟩) (.int .i64 o) O (λf g h=>(y.stay m h.2).load1 O)<|ZS 3<|uh 7 (.int .i64 (if (if o<1099511627776 then o else 1099511627776)> -1099511627776 then(if o<1099511627776 then o else 1099511627776)else -1099511627776)) (.int .i64 (Pu o)) O (by rw[kE z])<|ur (L:=[g2]) (G:=λu=>K8 u g2 [.int .i64 (Pu o)]) (Φ':=λu=>K8 u g2 [.int .i64 (Pu o)]) (Om 3 ⟨g2,0,none⟩ (.int .i64 (Pu o))) (λf g h=>(y.stay m h.2).store O rfl (by intro u l;simp[AX]at l;subst l;rfl)) j (λF w J wI H t=>t) O O<|ZR<|ZV (.tuple #[]) (λf g h=>⟨rfl,g,h f (AL _) λ_ _ _=>rfl⟩)
 .have z:=D k;refine ZR<|ZA (Ke 51 ⟨g1,0,none⟩) (a.val) (λf g h=>Ka (vs:=[.bool a.s,.slice a.A a.n a.c]) O O (P.stay wJ h.2).range)<|ZC (λf g h=>Zb (Q.below g) I) λv=>uP (decide (V7 x<0)) O (λk=> ?_) (λk=> ?_)
  .rw[dz]at k;have B:x<0:=YP k;refine ZR<|ur (L:=[g2]) (G:=λu=>K8 u g2 [.int .i64 (-1099511627776)]) (Φ':=λu=>K8 u g2 [.int .i64 (-1099511627776)]) (Om 3 ⟨g2,0,none⟩ (.int .i64 (-1099511627776))) (λf g h=>(y.stay m h.1.2).store O rfl (by intro u l;simp[AX]at l;subst l;rfl)) (λf h=>j f h.1) (λF w J wI H t=>t) O O<|ZR<|ZV (.tuple #[]) (λf g h=>⟨rfl,g,by rw[SN z,YS B];exact h f (AL _) λ_ _ _=>rfl⟩)
  .rw[dz]at k;have B:¬x<0:=YO k;refine ZR<|ur (L:=[g2]) (G:=λu=>K8 u g2 [.int .i64 1099511627776]) (Φ':=λu=>K8 u g2 [.int .i64 1099511627776]) (Om 3 ⟨g2,0,none⟩ (.int .i64 1099511627776)) (λf g h=>(y.stay m h.1.2).store O rfl (by intro u l;simp[AX]at l;subst l;rfl)) (λf h=>j f h.1) (λF w J wI H t=>t) O O<|ZR<|ZV (.tuple #[]) (λf g h=>⟨rfl,g,by rw[SN z,YT B];exact h f (AL _) λ_ _ _=>rfl⟩)
theorem ZO(M:Sx a x K w)(N:K<=1000000):
 Ca 277 #[a.val] w (CU w (.int .i64 (Pu x))):=by
 refine vv func277 rfl (Below.refl _ _)<|ZS 0<|uk (B0 51 a.val) (Kp) (λg u=>K8 u g [.bool a.s,.slice a.A a.n a.c]/\w.heap.size<=g/\g<u.heap.size) O (λj l h=>I9 l.size) λg1=>ZS 1<|uk (Vz 3) (Kp) (λg u=>K8 u g [.int .i64 0]/\g1+1<=g/\g<u.heap.size) O (λj l h=>Ia (z:= .int .i64 0) O h.2.2.2) λg2=>ZS 0<|uk (Vz 4) (Kp) (λg u=>K8 u g [.bool false]/\g2+1<=g/\g<u.heap.size) O (λj l h=>Ia (z:= .bool false) O h.2.2.2) λg3=>ZS 1<|ur (L:=[g3]) (G:=λu=>K8 u g3 [.bool false]) (Φ':=λu=>K8 u g1 [.bool a.s,.slice a.A a.n a.c]/\K8 u g2 [.int .i64 0]/\K8 u g3 [.bool false]/\w.heap.size<=g1/\g1<g2/\g2<g3) (Om 4 ⟨g3,0,none⟩ (.bool false)) (λj l h=>h.2.1.store O rfl (by intro u t;simp[AX]at t;subst t;rfl)) (λj h b E=> ?_) (λwI j J y h H=> ?_) O O ?_
 .obtain rfl:b=g3:=by simpa using E
  obtain⟨⟨⟨_,k⟩,k2⟩,m⟩:=h;exact⟨by omega,m.1.own⟩
 .obtain⟨⟨⟨_,k⟩,k2⟩,m⟩:=h;exact⟨k.1.left y Zp,k2.1.left y Zp,H,k.2.1,by omega,by omega⟩
 refine ZR<|vw ⟨.fn (.func 310) #[.pointer (some ⟨g3,0,none⟩),.pointer (some ⟨g2,0,none⟩),.pointer (some ⟨g1,0,none⟩)],#[]⟩ O O<|ZR<|ZA (Ke 51 ⟨g1,0,none⟩) (a.val) (λj l h=>Ka (vs:=[.bool a.s,.slice a.A a.n a.c]) O O h.1.range)<|ZC (λj l h=>Ig (M.below l) (AH N Zd)) λv=>ur (L:=[g2]) (G:=λu=>K8 u g2 [.int .i64 (Jy x)]) (Φ':=λu=>K8 u g1 [.bool a.s,.slice a.A a.n a.c]/\K8 u g2 [.int .i64 (Jy x)]/\K8 u g3 [.bool false]/\w.heap.size<=g1/\g1<g2/\g2<g3) (Om 3 ⟨g2,0,none⟩ (.int .i64 (Jy x))) (λj l h=>h.1.2.1.store O rfl (by intro u t;simp[AX]at t;subst t;rfl)) (λj h b E=> ?_) (λwI j J y h H=> ?_) O O ?_
 .obtain rfl:b=g2:=by simpa using E
  obtain⟨⟨k,k2,m,B,D,F⟩,_⟩:=h;exact⟨by omega,k2.own⟩
 .obtain⟨⟨k,k2,m,B,D,F⟩,_⟩:=h;exact⟨k.left y Zp,H,m.left y Zp,B,D,F⟩
 refine ZR<|ur (L:=[g3]) (G:=λu=>K8 u g3 [.bool (U7 x)]) (Φ':=λu=>K8 u g1 [.bool a.s,.slice a.A a.n a.c]/\K8 u g2 [.int .i64 (Jy x)]/\K8 u g3 [.bool (U7 x)]/\w.heap.size<=g1/\g1<g2/\g2<g3) (Om 4 ⟨g3,0,none⟩ (.bool (U7 x))) (λj l h=>h.2.2.1.store O rfl (by intro u t;simp[AX]at t;subst t;rfl)) (λj h b E=> ?_) (λwI j J y h H=> ?_) O O ?_
 .obtain rfl:b=g3:=by simpa using E
  obtain⟨k,k2,m,B,D,F⟩:=h;exact⟨by omega,m.own⟩
 .obtain⟨k,k2,m,B,D,F⟩:=h;exact⟨k.left y Zp,k2.left y Zp,H,B,D,F⟩
 refine ZR<|ZA (Ke 3 ⟨g2,0,none⟩) (.int .i64 (Jy x)) (λj l h=>h.2.1.load1 O)<|ur (L:=[g2]) (G:=λu=>K8 u g2 [.int .i64 (Jy x)]) (Φ':=λu=>K8 u g1 [.bool a.s,.slice a.A a.n a.c]/\K8 u g2 [.int .i64 (Jy x)]/\K8 u g3 [.bool (U7 x)]/\w.heap.size<=g1/\g1<g2/\g2<g3) (Om 3 ⟨g2,0,none⟩ (.int .i64 (Jy x))) (λj l h=>h.2.1.store O rfl (by intro u t;simp[AX]at t;subst t;rfl)) (λj h b E=> ?_) (λwI j J y h H=> ?_) O O ?_
 .obtain rfl:b=g2:=by simpa using E
  obtain⟨k,k2,m,B,D,F⟩:=h;exact⟨by omega,k2.own⟩
 .obtain⟨k,k2,m,B,D,F⟩:=h;exact⟨k.left y Zp,H,m.left y Zp,B,D,F⟩
 refine ZR<|wn (f:=310) (args:= #[.pointer (some ⟨g3,0,none⟩),.pointer (some ⟨g2,0,none⟩),.pointer (some ⟨g1,0,none⟩)]) g2 3 O (λj=>rfl) (λj l h=> ?_)
 obtain⟨k,k2,m,B,D,F⟩:=h;refine(OU (W:=w) l k k2 m B I I M N (λe=> ?_) (λe=> ?_)).mono λe R Q Z=> ?_
 .have: -9223372036854775808<=x/\x<=9223372036854775807:=by unfold U7 at e;simpa using e
  exact⟨by unfold Jy;rw[YS e],this⟩
 .unfold U7 at e;simpa using e
 .obtain⟨rfl,rfl,E,P⟩:=Z;exact⟨rfl,_,_,rfl,Nj O P,(),rfl,E,Zv⟩
theorem QC(c:Sx a x K w)(f:K<=1000000):
 Ca 244 #[a.val] w (CU w (.int .i64 (Pu x))):=by
 exact uf func244 rfl<|ZR<|ZC (λg e h=>ZO (c.below e) f) λv=>ZW (.int .i64 (Pu x))
theorem SW:Jo:=λa x K u c e=>QC c e
end
section
variable{w u:YM}{R:Rc}{K:Nat->Prop}{S D E:Px->Prop}{x y:Int}{k N n:Nat}{z:YZ}{m:MV}{ad:XR}{bv:YI}
theorem ov(b:O4 R):Ca 153 #[R.V] w (CU w (.int .i64 (R.H:Nat))):=by
 have:=b.H;exact uf func153 rfl<|ZR<|ZX (.int .i64 (XQ.wrap (R.y+R.H-R.y))) (by rw[show R.y+R.H-R.y=(R.H:Int) by omega,AD _ I])
theorem RA(b:O4 R):Ca 154 #[R.V] w (CU w (.int .i64 (R.W:Nat))):=by
 have:=b.W;exact uf func154 rfl<|ZR<|ZX (.int .i64 (XQ.wrap (R.x+R.W-R.x))) (by rw[show R.x+R.W-R.x=(R.W:Int) by omega,AD _ I])
theorem lr(b:0<=x):Ca 155 #[Pw 0 0 0 0,.int .i64 x,.int .i64 y] w (CU w (.tuple #[.int .i64 0,.bool false])):=uf func155 rfl<|ZS 4<|YF 11 (x<0) I<|ZS 9<|YE 16 (x>=0) I<|ZI true<|ZW (.tuple #[.int .i64 0,.bool false])
theorem kM(b:O4 R)(hi:R.In x y):Ca 155 #[R.V,.int .i64 x,.int .i64 y] w (K4 w (λk:{k:Nat // k<R.n}=> .tuple #[.int .i64 (k.1:Nat),.bool true]) λ_ _=>True):=by
 have c:=hi;unfold Rc.In at c;have g:=b.x;have f:=b.y;have B:=b.W;have F:=b.H;have G:=b.n;obtain⟨i,p⟩:∃i:Nat,x=R.x+i:=⟨(x-R.x).toNat,by omega⟩
 obtain⟨j,s⟩:∃j:Nat,y=R.y+j:=⟨(y-R.y).toNat,by omega⟩
 have l:i<R.W:=I
 have A:j<R.H:=I
 have t:=GT l A;refine uf func155 rfl<|ZS 4<|YF 11 (x<R.x) I<|ZS 9<|YF 16 (x>=R.x+R.W) I<|ZS 15<|YF 22 (y<R.y) I<|ZS 21<|YG 28 (y>=R.y+R.H) I<|ZI false<|ZC (λo e h=>RA b) λv=>ZV (.tuple #[.int .i64 (XQ.wrap (XQ.wrap (XQ.wrap (XQ.wrap (y-R.y)*(R.W:Int))+x)-R.x)),.bool true]) (λo e h=>⟨⟨j*R.W+i,t⟩,by rw[show y-R.y=(j:Int) by omega,AD (j:Int) I,<-BQ,AD ((j*R.W:Nat):Int) I,AD (((j*R.W:Nat):Int)+x) I,AD _ I];show Ending.returned (.tuple #[.int .i64 _,.bool true])=Ending.returned (.tuple #[.int .i64 ((j*R.W+i:Nat):Int),.bool true]);congr 5;omega,e,Zv⟩)
def nX(w:YM)(R:Rc)(bv:YI)(S:Px->Prop):Prop:=∀b x y,Below w.heap.size w b->R.In x y->Ca 157 #[bv,.int .i64 x,.int .i64 y] b (K4 b (λp:{p:Px // p.ok/\S p}=>Ls p.1) λ_ _=>True)
theorem ss(B:O4 R)(hd:Xm w R D z)(hm:Zw w R K m)(hb:nX w R bv S)(hE:∀s d k,s.ok->S s->Nm D d->k<=255->K k->Nm E (s.blend d k))(hN:N<=w.heap.size):
 Ca 107 #[Le (Mp R z),Le m,bv,.int .i64 1] w (K4 w (λz:YZ=> .tuple #[Le (Mp R z),.int .i64 0]) λz u=>Ag N R E z u):=by
 have hd2:=hd;obtain⟨ds,A,hcap,hds⟩:=hd;obtain⟨zA,zc⟩:=z;have hn:=B.n;have hx2:=B.x;have hy2:=B.y;have hW:=B.W;have hH:=B.H;have Do:ds.length=R.n:=A.1;obtain⟨p0,hp0⟩:∃v,ds[0]? =some v:=⟨_,AA I⟩
 obtain⟨ad,hA,_⟩:=A.2 0 p0 hp0;obtain rfl:zA=some ad:=hA;have hsrc:∀(j:Nat) (v:YI),(ds.flatMap S0)[j]? =some v->w.cell? (ad.add j)=some v:=λj v M=>by
  have hr:=Kk.reads A Vg Zd;obtain⟨_,e,_,hc⟩:=hr.2 hn.1;injection e with e;subst e;exact hc j v M
 refine uf func107 rfl<|ZR<|ZC (λf c h=>V3 B (.row (some ad,zc) D (hd2.below c))) λv1=>ZI false<|ZC (λf c h=>T4 B (hm.below c)) λv2=>ZI false<|ZC (λf c h=>ec B) λv3=>uu false O<|ZS 5<|vj [7]<|uk (af 31 R.n) (λg:Nat=> .slice (some ⟨g,0,none⟩) R.n R.n) (λg u=>K6 u w.heap.size 38 4 (some ⟨g,0,none⟩) R.n R.n (BS (R.n*4) (.int .u8 0))) O (λf c h=>QL (z:=Ls ⟨0,0,0,0⟩) (bytes:=4) O O rfl Zd I Zd c.size) λl=>ZS 0<|vj [6,8]<|ZS 4<|uA (L:=[l]) (val:=λ_:Unit=> .int .i64 (R.n:Nat)) (Φ':=λ_ u=>K6 u w.heap.size 38 4 (some ⟨l,0,none⟩) R.n R.n (ds.flatMap S0)) (G:=λ_ u=>K6 u w.heap.size 38 4 (some ⟨l,0,none⟩) R.n R.n (ds.flatMap S0)) (n_ 31 31 3 (.slice (some ⟨l,0,none⟩) R.n R.n) (.slice (some ad) R.n zc)) (λf c h=>kD O O h.2 (by rw[Nq Vg,Do]) (λj v M=>L5 c (hsrc j v M)) (λv hv=>by obtain⟨b,_,hv⟩:=List.mem_flatMap.1 hv;exact Bz b v hv)) (λu h b hb=>by obtain rfl:=AB.1 hb;exact⟨(h.2.lt b (by simp[bl])).1,(h.2.blk b (by simp[bl])).2⟩) (λ_ wa u e1 e2 h hG=>hG) O O λ_=>ZR<|ZC (λf c h=>ov B) λh1=>uj (ι:={q:Nat×List Px // q.1<=R.H/\q.2.length=R.n/\∀j p,j<q.1*R.W->q.2[j]? =some p->Nm E p}) 115 (λq=>⟨[vV 2 bv,vI 3 1,(4,.p 4 0),(5,.p 5 0),(8,.p 8 0),vI 9 0,(12,.p 12 0),vI 55 (R.H:Nat),vI 56 (q.1.1:Nat)],[(4,(Ob (Mp R (some ad,zc))).map .v),(5,(Ob m).map .v),(8,(Ob T9).map .v),(12,(Ob (Mp R (some ⟨l,0,none⟩,R.n))).map .v)]⟩) (λq u=>K6 u w.heap.size 38 4 (some ⟨l,0,none⟩) R.n R.n (q.1.2.flatMap S0)) (λq=>R.H-q.1.1) (⟨(0,ds),AC _,Do,λj p h _=>by rw[CE]at h;omega⟩) O Zf Zt (λ_ h=>h.1) ?_
 rintro⟨⟨j,qs⟩,M,T,wJ⟩ gg;have M:j<=R.H:=M;have T:qs.length=R.n:=T;have wJ:∀a p,a<j*R.W->qs[a]? =some p->Nm E p:=wJ
 by_cases hlt:j<R.H
 case neg=>
  obtain rfl:j=R.H:=I
  have hWH:R.H*R.W=R.n:=CD _ _;refine ZR<|YN ((R.H:Int)<(R.H:Int))<|ug O<|ZR<|ZV (.tuple #[Le (Mp R (some ⟨l,0,none⟩,R.n)),.int .i64 0]) (λf c h=>⟨(some ⟨l,0,none⟩,R.n),rfl,c,λu k1 k2=>⟨qs,(h u k1 k2).rebase λb hb=>AH hN ((h u k1 k2).lt b hb).1,T,λp Y=>by obtain⟨a,ha,rfl⟩:=List.mem_iff_getElem.1 Y;exact wJ a _ I (AA ha)⟩⟩)
 have hjw:(j+1)*R.W=j*R.W+R.W:=by rw[CH,Nat.one_mul]
 have hjn:=Nat.mul_le_mul_right R.W (show j+1<=R.H from hlt);have hWH:R.H*R.W=R.n:=CD _ _;refine ZR<|YL ((j:Int)<(R.H:Int))<|ZC (λf c h=>RA B) λw2=>uj (ι:={q:Nat×List Px // q.1<=R.W/\q.2.length=R.n/\∀a p,a<j*R.W+q.1->q.2[a]? =some p->Nm E p}) 115 (λq=>⟨[vV 2 bv,vI 3 1,(4,.p 4 0),(5,.p 5 0),(8,.p 8 0),vI 9 0,(12,.p 12 0),vI 13 (j:Nat),vI 55 (R.H:Nat),vI 56 (j:Nat),vI 61 (R.W:Nat),vI 62 (q.1.1:Nat)],[(4,(Ob (Mp R (some ad,zc))).map .v),(5,(Ob m).map .v),(8,(Ob T9).map .v),(12,(Ob (Mp R (some ⟨l,0,none⟩,R.n))).map .v)]⟩) (λq u=>K6 u w.heap.size 38 4 (some ⟨l,0,none⟩) R.n R.n (q.1.2.flatMap S0)) (λq=>R.W-q.1.1) (⟨(0,qs),AC _,T,wJ⟩) O Zf Zt (λ_ h=>h.1) ?_
 rintro⟨⟨i,F⟩,hi,o,J⟩ gg2;have hi:i<=R.W:=hi;have o:F.length=R.n:=o;have J:∀a p,a<j*R.W+i->F[a]? =some p->Nm E p:=J
 by_cases wI:i<R.W
 case neg=>
  obtain rfl:i=R.W:=I
  refine ZR<|YN ((R.W:Int)<(R.W:Int))<|ug O<|ZR<|YB 56 ((j:Int)+1) ((j+1:Nat):Int)<|ui (⟨(j+1,F),hlt,o,λa p ha=>J a p (by have ha:a<(j+1)*R.W:=ha;omega)⟩) O Zn Zt (λ_ h=>h)
 have U:=GT (R:=R) wI hlt;obtain⟨k,hkk⟩:∃k,k=j*R.W+i:=⟨_,rfl⟩
 rw[<-hkk]at U J;obtain⟨d,hd⟩:=Yg ds k;obtain⟨_,e,hc⟩:=A.2 k d hd;injection e with e;subst e;have Q:=hds d (AE hd);have Z:R.In (R.x+(i:Int)) (R.y+(j:Int)):=by unfold Rc.In;omega
 have X:∀q,Nm E q->∀a p,a<j*R.W+(i+1)->(F.set k q)[a]? =some p->Nm E p:=λq hq a p ha Y=>by
  by_cases e:a=k
  .rw[e,List.getElem?_set_self (by rw[o];exact U)]at Y;injection Y with Y;subst Y;exact hq
  .rw[List.getElem?_set_ne (λhc=>e hc.symm)]at Y;exact J a p I Y
 refine ZR<|ul (decide ((i:Int)<(R.W:Int))) true O (YU I)<|ZS 10<|YB 69 (R.x+(i:Int)) (R.x+(i:Int))<|YC 74 (R.y+(j:Int)) (R.y+(j:Int))<|ZD 7 (λf c h=>RA B) λw3=>ZT 81 (.int .i64 (XQ.wrap (XQ.wrap ((j:Int)*(R.W:Int))+(i:Int)))) (.int .i64 (k:Nat)) (by rw[<-BQ,AD ((j*R.W:Nat):Int) I,AD _ I,hkk];rfl) ?_
 cases hm with
 |nil hk0=>
  refine ZC (λf c h=>lr (x:=R.x+(i:Int)) (y:=R.y+(j:Int)) I) λix=>ZI false<|ZB 11 (Kd 31 (.slice (some ad) R.n zc) k) (.pointer (some (ad.add (k*4)))) (λf c h=>L9 (elem:=38) O O U)<|ZB 12 (Ke 38 (ad.add (k*4))) (Ls d) (λf c h=>Mh (vs:=S0 d) O O λj v M=>L5 c (hc j v M))<|ZC (λf c h=>hb f (R.x+(i:Int)) (R.y+(j:Int)) c Z) λs=>ZD 15 (λf c h=>Jg (s:=s.1) (d:=d) (k:=0) s.2.1 Q.1.2 (⟨AC _,hk0⟩:0<=255/\K 0).1) λr=>us 15 (Kd 31 (.slice (some ⟨l,0,none⟩) R.n R.n) k) (.pointer (some ⟨l,k*4,none⟩)) O (λf c h=>Kc (elem:=38) O O U)<|ZS 16<|uE (L:=[l]) (G:=λu=>K6 u w.heap.size 38 4 (some ⟨l,0,none⟩) R.n R.n ((F.set k (s.1.blend d 0)).flatMap S0)) (Φ':=λu=>K6 u w.heap.size 38 4 (some ⟨l,0,none⟩) R.n R.n ((F.set k (s.1.blend d 0)).flatMap S0)) (Om 38 ⟨l,k*4,none⟩ (Ls (s.1.blend d 0))) (λf c h=>h.1.1.1.1.setE (P:=XM) (t:=38) (v:=Ls (s.1.blend d 0)) (i:=k) (x:=s.1.blend d 0) Vg (by rw[o];exact U) rfl O (Bz _)) (λu h b' hb'=>by obtain rfl:=AB.1 hb';exact⟨(h.1.1.1.1.lt b' (by simp[bl])).1,(h.1.1.1.1.blk b' (by simp[bl])).2⟩) (λwa u e1 e2 h hG=>hG) O O<|ZR<|YB 62 ((i:Int)+1) ((i+1:Nat):Int)<|ui (⟨(i+1,F.set k (s.1.blend d 0)),wI,by show(F.set k _).length=R.n;rw[BO];exact o,X _ (hE s.1 d 0 s.2.1 s.2.2 Q (⟨AC _,hk0⟩:0<=255/\K 0).1 (⟨AC _,hk0⟩:0<=255/\K 0).2)⟩) O Zn Zt (λ_ h=>h)
 |row zm bs hr hcm hbk=>
  refine ZC (λf c h=>kM B Z) λix=> ?_
  obtain⟨mi,hmi⟩:=ix;obtain⟨mk,hmk⟩:∃v,bs[mi]? =some v:=⟨_,AA (by rw[hr.1];exact hmi)⟩
  obtain⟨mad,hmA,hmc⟩:=hr.2 mi mk hmk;have hmb:=hbk mk (AE hmk);refine ZI true<|ZA (Kd 108 (.slice zm.1 R.n zm.2) mi) (.pointer (some (mad.add (mi*1)))) (λf c h=>by rw[hmA];exact L9 (elem:=5) O O hmi)<|ZA (Ke 5 (mad.add (mi*1))) (.int .u8 mk) (λf c h=>Kh O (L5 c (by have:=hmc 0 _ rfl;rw[X4]at this;exact this)))<|ZB 11 (Kd 31 (.slice (some ad) R.n zc) k) (.pointer (some (ad.add (k*4)))) (λf c h=>L9 (elem:=38) O O U)<|ZB 12 (Ke 38 (ad.add (k*4))) (Ls d) (λf c h=>Mh (vs:=S0 d) O O λj v M=>L5 c (hc j v M))<|ZC (λf c h=>hb f (R.x+(i:Int)) (R.y+(j:Int)) c Z) λs=>ZD 15 (λf c h=>Jg (s:=s.1) (d:=d) (k:=mk) s.2.1 Q.1.2 (hmb).1) λr=>us 15 (Kd 31 (.slice (some ⟨l,0,none⟩) R.n R.n) k) (.pointer (some ⟨l,k*4,none⟩)) O (λf c h=>Kc (elem:=38) O O U)<|ZS 16<|uE (L:=[l]) (G:=λu=>K6 u w.heap.size 38 4 (some ⟨l,0,none⟩) R.n R.n ((F.set k (s.1.blend d mk)).flatMap S0)) (Φ':=λu=>K6 u w.heap.size 38 4 (some ⟨l,0,none⟩) R.n R.n ((F.set k (s.1.blend d mk)).flatMap S0)) (Om 38 ⟨l,k*4,none⟩ (Ls (s.1.blend d mk))) (λf c h=>h.1.1.1.1.setE (P:=XM) (t:=38) (v:=Ls (s.1.blend d mk)) (i:=k) (x:=s.1.blend d mk) Vg (by rw[o];exact U) rfl O (Bz _)) (λu h b' hb'=>by obtain rfl:=AB.1 hb';exact⟨(h.1.1.1.1.lt b' (by simp[bl])).1,(h.1.1.1.1.blk b' (by simp[bl])).2⟩) (λwa u e1 e2 h hG=>hG) O O<|ZR<|YB 62 ((i:Int)+1) ((i+1:Nat):Int)<|ui (⟨(i+1,F.set k (s.1.blend d mk)),wI,by show(F.set k _).length=R.n;rw[BO];exact o,X _ (hE s.1 d mk s.2.1 s.2.2 Q (hmb).1 (hmb).2)⟩) O Zn Zt (λ_ h=>h)
end
theorem KL:∀x,(Qr x).length=5:=λ_=>rfl
theorem f0:∀x,∀v∈Qr x,v.oneCell'=true:=λx v b=>by simp[Qr]at b;rcases b with rfl|rfl|rfl|rfl|rfl<;>rfl
theorem Ll:∀x,(Pm x).length=4:=λ_=>rfl
theorem fu:∀x,∀v∈Pm x,v.oneCell'=true:=λx v b=>by simp[Pm]at b;rcases b with rfl|rfl|rfl|rfl<;>rfl
theorem LR{α:Type}{w:YM}{n s:Nat}{cl:α->List YI}{l:List α}(h:Kk w none n s cl l):l=[]:=by
 cases l with
 |nil=>rfl
 |cons x r=>obtain⟨ad,e,_⟩:=h.2 0 x rfl;cases e
abbrev z5:Int×Co:=(0,WR)
section
variable{w u:YM}{A:YY}{n c N:Nat}
theorem rb{L:List (Int×Co)}(j:Kk w A n 5 Qr L)(J:n<=2000000)(Z:N<=w.heap.size):Ca 200 #[.slice A n c] w (K4 w (λy:YZ=> .slice y.1 n y.2) λy u=>Kk u y.1 n 5 Qr L):=by
 refine uf func200 rfl<|ZR ?_
 cases A with
 |none=>
  have D:=LR j;have k:n=0:=by rw[<-j.1,D];rfl
  subst D;subst k;refine ZI true<|ZV (.slice none 0 0) (λf e h=>⟨(none,0),rfl,e,λ_ _ _=>Kk.nil0⟩)
 | some ad=>
  refine ZI false<|uk (Lr 75 0 #[]) (λy:YZ=> .slice y.1 0 y.2) (λy u=>K6 u w.heap.size 275 5 y.1 0 y.2 []) O (λf e h=>GC O e.size) λg=>ZS 2 ?_
  refine uA (L:=bl g.1) (val:=λ(z:YZ)=> .slice z.1 n z.2) (Φ':=λ(z:YZ) v=>K6 v w.heap.size 275 5 z.1 n z.2 (L.flatMap Qr)) (G:=λ(z:YZ) v=>K6 v w.heap.size 275 5 z.1 n z.2 (L.flatMap Qr)) (My 75 75 (.slice g.1 0 g.2) (.slice (some ad) n c)) (λf e h=>by
   have p:Mt f f.heap.size 5 (some ad) n (L.flatMap Qr):=Kk.reads (Kk.below j e) KL Zd;have:=M2 (P:=XM) (s:=5) (z:= .agg (Qr z5).toArray) (bytes:=16) (m:=n) (cc:=c) (t:=75) (elem:=275) O O rfl Zd h.2 e.size p (by intro v x;obtain⟨b,_,x⟩:=List.mem_flatMap.1 x;exact f0 b v x) I Zd;rw[CJ,BH]at this;exact this) (λf h b B=>⟨(h.2.lt b B).1,(h.2.blk b B).2⟩) (λz' H f K M h F=>F) O O (λz'=> ?_)
  refine ZR<|ZV (.slice z'.1 n z'.2) (λf e h=>⟨z',rfl,e,λo E k2=>(h o E k2).reads.rows (cl:=Qr) (l:=L) KL j.1⟩)
theorem rm{L:List Co}(j:Kk w A n 4 Pm L)(J:n<=2000000)(Z:N<=w.heap.size):Ca 205 #[.slice A n c] w (K4 w (λy:YZ=> .slice y.1 n y.2) λy u=>Kk u y.1 n 4 Pm L):=by
 refine uf func205 rfl<|ZR ?_
 cases A with
 |none=>
  have D:=LR j;have k:n=0:=by rw[<-j.1,D];rfl
  subst D;subst k;refine ZI true<|ZV (.slice none 0 0) (λf e h=>⟨(none,0),rfl,e,λ_ _ _=>Kk.nil0⟩)
 | some ad=>
  refine ZI false<|uk (Lr 31 0 #[]) (λy:YZ=> .slice y.1 0 y.2) (λy u=>K6 u w.heap.size 38 4 y.1 0 y.2 []) O (λf e h=>GC O e.size) λg=>ZS 2 ?_
  refine uA (L:=bl g.1) (val:=λ(z:YZ)=> .slice z.1 n z.2) (Φ':=λ(z:YZ) v=>K6 v w.heap.size 38 4 z.1 n z.2 (L.flatMap Pm)) (G:=λ(z:YZ) v=>K6 v w.heap.size 38 4 z.1 n z.2 (L.flatMap Pm)) (My 31 31 (.slice g.1 0 g.2) (.slice (some ad) n c)) (λf e h=>by
   have p:Mt f f.heap.size 4 (some ad) n (L.flatMap Pm):=Kk.reads (Kk.below j e) Ll Zd;have:=M2 (P:=XM) (s:=4) (z:= .agg (Pm WR).toArray) (bytes:=4) (m:=n) (cc:=c) (t:=31) (elem:=38) O O rfl Zd h.2 e.size p (by intro v x;obtain⟨b,_,x⟩:=List.mem_flatMap.1 x;exact fu b v x) I Zd;rw[CJ,BH]at this;exact this) (λf h b B=>⟨(h.2.lt b B).1,(h.2.blk b B).2⟩) (λz' H f K M h F=>F) O O (λz'=> ?_)
  refine ZR<|ZV (.slice z'.1 n z'.2) (λf e h=>⟨z',rfl,e,λo E k2=>(h o E k2).reads.rows (cl:=Pm) (l:=L) Ll j.1⟩)
end
inductive Xk where
 |sol (p:Px)
 |lin (A:YY) (n c g:Nat) (sp:Int)
 |rad (A:YY) (n c g:Nat) (sp:Int)
 |img (m:Im) (y:YZ) (sa sp:Int)
abbrev Xk.val:Xk->YI
 | .sol p=> .iface 235 (Ls p)
 | .lin A n c g sp=> .iface 277 (.agg #[.slice A n c,.int .i64 sp,.func (.func 201) #[] #[Kp g]])
 | .rad A n c g sp=> .iface 277 (.agg #[.slice A n c,.int .i64 sp,.func (.func 203) #[] #[Kp g]])
 | .img m y sa sp=> .iface 282 (.agg #[.int .i64 m.w,.int .i64 m.h,.slice y.1 m.px.length y.2,.int .i64 sa,.int .i64 sp])
def LY(w:YM)(C:Px->Prop):Xk->Prop
 | .sol p=>p.ok/\C p
 | .lin A n _ g _=>((∃L,Kk w A n 5 Qr L)/\∃P q,K8 w g (OC P q))/\∀p:Px,p.ok->C p
 | .rad A n _ g _=>((∃L,Kk w A n 5 Qr L)/\∃P q,K8 w g (OC P q)/\1<=P.rad/\P.rad<=1048576)/\∀p:Px,p.ok->C p
 | .img m y sa _=>(Vn m=true/\Kk w y.1 m.px.length 4 Pm m.px/\(sa=1\/sa=2))/\∀p:Px,p.ok->C p
theorem LY.below{w l:YM}{C:Px->Prop}{s:Xk}(h:LY w C s)(e:Below w.heap.size w l):LY l C s:=by
 cases s with
 |sol p=>exact h
 |lin A n c g sp=>obtain⟨⟨⟨L,b⟩,P,q,j⟩,f⟩:=h;exact⟨⟨⟨L,b.below e⟩,P,q,j.below e⟩,f⟩
 |rad A n c g sp=>obtain⟨⟨⟨L,b⟩,P,q,j,k⟩,f⟩:=h;exact⟨⟨⟨L,b.below e⟩,P,q,j.below e,k⟩,f⟩
 |img m y sa sp=>obtain⟨⟨b,j,k⟩,f⟩:=h;exact⟨⟨b,j.below e,k⟩,f⟩
def aO(w:YM)(C:Px->Prop)(g:Nat):Prop:=∃(s:Xk) (t:TV) (T:N7),(K8 w g (s.val::t.cl)/\LY w C s)/\S3 t T 8 w
theorem aO.below{w c:YM}{C:Px->Prop}{g:Nat}(h:aO w C g)(b:Below w.heap.size w c):aO c C g:=by
 obtain⟨s,t,T,⟨j,f⟩,e⟩:=h;exact⟨s,t,T,⟨j.below b,f.below b⟩,e.below b⟩
abbrev Td(c:Co):Px:=⟨c.1.toNat,c.2.1.toNat,c.2.2.1.toNat,c.2.2.2.toNat⟩
theorem By(c:Co):(Td c).ok:=⟨Nat.le_of_lt_succ c.1.toNat_lt,Nat.le_of_lt_succ c.2.1.toNat_lt,Nat.le_of_lt_succ c.2.2.1.toNat_lt,Nat.le_of_lt_succ c.2.2.2.toNat_lt⟩
theorem dw{P:Pn}(h:Lu P=true):P.stops.length<=1000000:=by
 unfold Lu GS Q0 at h;simp only[AK]at h;obtain⟨_,b,c⟩:=h;have b:Sy (Bb P):=YP b;unfold Sy Bb at b
 by_cases f:P.kind=1
 .rw[YS f]at b;have e:P.stops=[]:=b.2.2.2.2.2.2.1;rw[e];decide
 by_cases k2:P.kind=2
 .rw[YT f,YS k2]at c;simp only[AK,decide_eq_true_eq]at c;omega
 by_cases g:P.kind=3
 .rw[YT f,YT k2,YS g]at c;simp only[AK,decide_eq_true_eq]at c;omega
 by_cases j:P.kind=4
 .rw[YT f,YT k2,YT g,YS j]at b;have e:P.stops=[]:=b.2.2.2.2.2.2.1;rw[e];decide
 rw[YT f,YT k2,YT g,YT j]at c;cases c
theorem jY{P:Pn}(h:Lu P=true):P.kind=1\/(P.kind=2/\P.stops.length<=16)\/(P.kind=3/\P.stops.length<=16/\1<=P.rad/\P.rad<=1048576)\/(P.kind=4/\Vn P.im=true/\(P.samp=1\/P.samp=2)):=by
 unfold Lu GS Q0 at h;simp only[AK]at h;have b:=h.2.2
 by_cases c:P.kind=1
 .exact .inl c
 by_cases k2:P.kind=2
 .rw[YT c,YS k2]at b;simp only[AK,decide_eq_true_eq]at b;exact .inr (.inl ⟨k2,b.2.2.1.1.1.2⟩)
 by_cases e:P.kind=3
 .rw[YT c,YT k2,YS e]at b;simp only[AK,decide_eq_true_eq]at b;exact .inr (.inr (.inl ⟨e,b.2.2.1.1.1.2,b.2.1⟩))
 by_cases f:P.kind=4
 .rw[YT c,YT k2,YT e,YS f]at b;simp only[AK,decide_eq_true_eq]at b;exact .inr (.inr (.inr ⟨f,b.1,b.2.2.1⟩))
 rw[YT c,YT k2,YT e,YT f]at b;cases b
structure tt(P:Pn)(C:Px->Prop):Prop where
 sol:P.kind=1->C (Td P.co).pre
 any:P.kind≠1->∀p:Px,p.ok->C p
section
variable{w u:YM}{P:Pn}{q:PM}{C:Px->Prop}{K N:Nat}{t:TV}{T:N7}
abbrev tn(P:Pn):={s:Xk // P.kind=1->∃p,s=Xk.sol p}
theorem p7(A:Lu P=true)(D:Jp P q K w)(m:tt P C):Ca 151 #[KH P q] w (K4 w (λs:tn P=>s.1.val) λs u=>LY u C s.1):=by
 have G:=jY A;have Z:P.stops.length<=2000000:=AH (dw A) Zd;refine uf func151 rfl<|ZR<|ZC (λk b h=>rb (c:=q.sc) (N:=w.heap.size) (D.st.below b) Z b.size) λy=> ?_
 rcases G with l|⟨k2,_⟩|⟨B,_,J⟩|⟨o,hi,x⟩
 .refine ZJ (P.kind==2) false (by rw[l];rfl)<|ZJ (P.kind==3) false (by rw[l];rfl)<|ZJ (P.kind==4) false (by rw[l];rfl)<|ZC (λk b h=>C1 (c:=Td P.co) (By P.co)) λp=>ZV ((Xk.sol (Td P.co).pre).val) (λk b h=>⟨⟨Xk.sol (Td P.co).pre,λ_=>⟨_,rfl⟩⟩,rfl,b,λu E F=>⟨(By P.co).pre,m.sol l⟩⟩)
 .refine ul (P.kind==2) true O (by rw[k2];rfl)<|ZS 0<|uq 1 (OC P q) O O λg H=>ZR<|ZV ((Xk.lin y.1 P.stops.length y.2 g P.spread).val) (λk b h=>⟨⟨Xk.lin y.1 P.stops.length y.2 g P.spread,λe=>I⟩,rfl,b,λu j f=>⟨⟨⟨_,(h u j f).1.2⟩,P,q,(h u j f).2⟩,m.any I⟩⟩)
 .refine ZJ (P.kind==2) false (by rw[B];rfl)<|ul (P.kind==3) true O (by rw[B];rfl)<|ZS 0<|uq 1 (OC P q) O O λg H=>ZR<|ZV ((Xk.rad y.1 P.stops.length y.2 g P.spread).val) (λk b h=>⟨⟨Xk.rad y.1 P.stops.length y.2 g P.spread,λe=>I⟩,rfl,b,λu j f=>⟨⟨⟨_,(h u j f).1.2⟩,P,q,(h u j f).2,J⟩,m.any I⟩⟩)
 .have v:P.im.px.length<=2000000:=by have:=d5 hi;omega
  refine ZJ (P.kind==2) false (by rw[o];rfl)<|ZJ (P.kind==3) false (by rw[o];rfl)<|ZJ (P.kind==4) true (by rw[o];rfl)<|ZC (λk b h=>rm (c:=q.xc) (N:=w.heap.size) (D.px.below b) v b.size) λz=>ZV ((Xk.img P.im z P.samp P.spread).val) (λk b h=>⟨⟨Xk.img P.im z P.samp P.spread,λe=>I⟩,rfl,b,λu j f=>⟨⟨hi,(h u j f).2,x⟩,m.any I⟩⟩)
end
section
open Go.MapKept in
def HF(w:YM)(g:Nat)(l:List (Int×Bool)):Prop:=∃c b,w.heap[g]? =some (.map c b)/\c.toList.map (λe=>(e.key,e.val))=l.map (λi=>(AI .i64 i.1,Value.bool i.2))
def dB(t:XX):Sem Next:=Instr.makeMap t none >>= λv=>pure (.value v)
def i5(t:XX)(m k:YI):Sem Next:=Instr.lookup t m k true >>= λv=>pure (.value v)
section
variable{P:YH}{w:YM}{t kt et:XX}{g:Nat}{l:List (Int×Bool)}{x:Int}{z:Bool}
theorem Aw{x:Int}:∀{c:List MapEntry} {l:List (Int×Bool)} {i:Nat},c.map (λe=>(e.key,e.val))=l.map (λi=>(AI .i64 i.1,Value.bool i.2))->
 ∃a,Instr.findNow (.int .i64) (.int .i64 x) c i=some a/\((a=none/\l.lookup x=none)\/∃j v,a=some (j,.bool v)/\l.lookup x=some v)
 | [],[],i,h=>⟨none,rfl,.inl ⟨rfl,rfl⟩⟩
 | [],_::_,i,h=>by simp at h
 |_::_,[],i,h=>by simp at h
 | e::c,y::l,i,h=>by
  simp only[BK,List.cons.injEq,BL]at h;obtain⟨⟨f,k⟩,h⟩:=h
  by_cases b:x=y.1
  .subst b;exact⟨some (i,.bool y.2),by simp[Instr.findNow,Instr.sameNow,f,k],.inr ⟨i,y.2,rfl,by rw[List.lookup,beq_self_eq_true]⟩⟩
  .obtain⟨a,m,p⟩:=Aw (x:=x) (i:=i+1) h;have o:(y::l).lookup x=l.lookup x:=by rw[List.lookup,YR.2 b]
   exact⟨a,by simp only[Instr.findNow,Instr.sameNow,f,if_true,YR.2 b,m],by rw[o];exact p⟩
open Go.MapKept in
theorem FZ(m:P.underlying t=some (.map kt et))(e:P.underlying kt=some (.int .i64))(p:(zeroValue et).run P w= .ok (.bool false) w)(h:HF w g l):
 (i5 t (.map (some g)) (.int .i64 x)).run P w= .ok (.value (.tuple #[.bool ((l.lookup x).getD false),.bool (l.lookup x).isSome])) w:=by
 obtain⟨A,f,o,s⟩:=h;obtain⟨a,k,y⟩:=Aw (x:=x) (i:=0) s;have b:(Instr.checkKey A.isEmpty 10000 kt (.int .i64 x)).run P w= .ok () w:=by
  exact MapKept.run_checkKey e (by simp[MapKept.IsKey]) _ _
 have u:(Instr.lookup t (.map (some g)) (.int .i64 x) true).run P w= .ok (.tuple #[.bool ((l.lookup x).getD false),.bool (l.lookup x).isSome]) w:=by
  rcases y with ⟨rfl,c⟩|⟨j,v,rfl,c⟩
  .simp[Instr.lookup,run_underlying m,MapKept.run_getObj_map o,b,run_findKey e k,p,CL,c]
  .simp[Instr.lookup,run_underlying m,MapKept.run_getObj_map o,b,run_findKey e k,CL,c]
 simp only[i5,AU,u,AQ,AY]
open Go.MapKept in
theorem Wi(A:P.underlying t=some (.map kt et))(o:P.underlying kt=some (.int .i64))(h:HF w g l)(y:l.lookup x=none):
 ∃j,(dT t (.map (some g)) (.int .i64 x) (.bool z)).run P w= .ok .skip j/\Ei [g] w j/\∀e,j.heap.size<=e.heap.size->(∀b∈[g],e.heap[b]? =j.heap[b]?)->HF e g (l++ [(x,z)]):=by
 obtain⟨s,c,f,p⟩:=h;obtain⟨a,v,u⟩:=Aw (x:=x) (i:=0) p;rcases u with ⟨rfl,_⟩|⟨_,_,_,h⟩
 case inr=>rw[y]at h;cases h
 have m:(Instr.checkKey false 10000 kt (.int .i64 x)).run P w= .ok () w:=by
  exact MapKept.run_checkKey o (by simp[MapKept.IsKey]) _ _
 refine⟨{w with heap:=w.heap.setIfInBounds g (.map (s.push ⟨.int .i64 x,.bool z,c⟩) (c+1))},by simp only[dT,Instr.mapUpdate,AU,run_underlying A,MapKept.run_getObj_map f,m,run_findKey o v,run_setObj_map _ f,AQ,AY],⟨rfl,rfl,rfl,Nat.le_of_eq Zs,λk _ B=>(heap_set f).2 k (by simpa using B)⟩,λe _ k2=>⟨s.push ⟨.int .i64 x,.bool z,c⟩,c+1,?_,by simp[p]⟩⟩;rw[k2 g Zs];exact(heap_set f).1
theorem jt{N:Nat}(b:N<=w.heap.size):M9 P w (λg:Nat=> .map (some g)) (λg u=>HF u g []/\N<=g) (dB t):=
 ⟨w.heap.size,w.alloc (.map #[] 0),by simp only[dB,Instr.makeMap,AU,run_newObj_alloc,AQ,AY],Pa _ _,λc f e=>⟨⟨#[],0,(Pv w _ f e).1,rfl⟩,b⟩⟩
end
section
variable{w u:YM}{g g2 c k K1 K2:Nat}{a b t i n sp look:Int}{A:YY}{r r2:RV}{x yq:Rat}{m:Im}{y:YZ}
theorem d_(E:look=1\/look=2)(o:Vn m=true)(z:Kk w y.1 m.px.length 4 Pm m.px)(s:Nf r x K1 w)(v:Nf r2 yq K2 w)(K:2<=K1/\K1<=400000)(F:2<=K2/\K2<=400000):Ca 480 #[oJ m y,.int .i64 look,.int .i64 sp,r.val,r2.val] w (K4 w (λp:jW=>Ls p.1) λ_ _=>True):=by
 have j:m.px.length<=9223372036854775807:=by have h:=d5 o;omega
 refine uf func480 rfl<|ZR<|uk (dB 102) ((λg:Nat=> .map (some g))) (λg u=>HF u g []/\w.heap.size<=g) O (λf e h=>jt e.size) λg=>ZR<|vo (g:=g) (G:=λu=>HF u g [(1,false)]) (Φ':=λu=>HF u g [(1,false)]/\w.heap.size<=g) (dT 102 (.map (some g)) (.int .i64 1) (.bool false)) (λf e h=>Wi (P:=XM) (kt:=3) (et:=4) (l:=[]) O O h.2.1 rfl) (λu h=>⟨h.2.2,by obtain⟨J,c,D,_⟩:=h.2.1;exact⟨J,c,D⟩⟩) (λL u Z N h wI=>⟨wI,h.2.2⟩) O O<|ZR<|vo (g:=g) (G:=λu=>HF u g [(1,false),(2,true)]) (Φ':=λu=>HF u g [(1,false),(2,true)]) (dT 102 (.map (some g)) (.int .i64 2) (.bool true)) (λf e h=>Wi (P:=XM) (kt:=3) (et:=4) (l:=[(1,false)]) O O h.1 rfl) (λu h=>⟨h.2,by obtain⟨J,c,D,_⟩:=h.1;exact⟨J,c,D⟩⟩) (λL u Z N h wI=>wI) O O<|ZR ?_
 rcases E with rfl|rfl
 .refine ZA (i5 102 (.map (some g)) (.int .i64 1)) (.tuple #[.bool false,.bool true]) (λf e h=>FZ (P:=XM) (kt:=3) (et:=4) (l:=[(1,false),(2,true)]) (x:=1) O O O h)<|ZC (λf e h=>Us (y:=y) o (z.below e) j) λM=>ZD 12 (λf e h=>HI (s.below e) I) λH=> ?_
  cases H
  .refine ZR<|ZI true<|ZV (Ls ⟨0,0,0,0⟩) (λf e h=>⟨⟨⟨0,0,0,0⟩,⟨by decide,by decide,by decide,by decide⟩⟩,rfl,e,Zv⟩)
  refine ZR<|ZC (λf e h=>HI (v.below e) I) λB=> ?_
  cases B
  .refine ZI true<|ZV (Ls ⟨0,0,0,0⟩) (λf e h=>⟨⟨⟨0,0,0,0⟩,⟨by decide,by decide,by decide,by decide⟩⟩,rfl,e,Zv⟩)
  refine ZI false<|ZI false<|ZC (λf e h=>XH (sp:=sp) o (z.below e) (s.below e) (v.below e) I I) λp=>ZV (Ls p.1) (λf e h=>⟨p,rfl,e,Zv⟩)
 .refine ZA (i5 102 (.map (some g)) (.int .i64 2)) (.tuple #[.bool true,.bool true]) (λf e h=>FZ (P:=XM) (kt:=3) (et:=4) (l:=[(1,false),(2,true)]) (x:=2) O O O h)<|ZC (λf e h=>Us (y:=y) o (z.below e) j) λM=>ZD 12 (λf e h=>HI (s.below e) I) λH=> ?_
  cases H
  .refine ZR<|ZI true<|ZV (Ls ⟨0,0,0,0⟩) (λf e h=>⟨⟨⟨0,0,0,0⟩,⟨by decide,by decide,by decide,by decide⟩⟩,rfl,e,Zv⟩)
  refine ZR<|ZC (λf e h=>HI (v.below e) I) λB=> ?_
  cases B
  .refine ZI true<|ZV (Ls ⟨0,0,0,0⟩) (λf e h=>⟨⟨⟨0,0,0,0⟩,⟨by decide,by decide,by decide,by decide⟩⟩,rfl,e,Zv⟩)
  refine ZI false<|ZI true<|ZC (λf e h=>dh (sp:=sp) o (z.below e) (s.below e) (v.below e) K F) λp=>ZV (Ls p.1) (λf e h=>⟨p,rfl,e,Zv⟩)
end
end
section
variable{P:YH}{Δ:List XY}{W:YM}{Q:Exit->Act->YM->Prop}{Φ:YM->Prop}{c:Mm}
theorem wu [Rnd]{X:Type}{g:XU}{args:Array YI}{val:X->YI}{G:X->YM->Prop}
 (N:∀w,Below W.heap.size W w->Φ w->XW P g args w (K4 w val G)) (H:An c=true) (hi:∀w,(Ox c).map (λs=>s.run P w)=some (.ok (.enter g args) w))
 (h:∀x:X,K0 P Δ W Q (λw=>Φ w/\G x w) (Lp (.v (val x)) c)):K0 P Δ W Q Φ c:=by
 obtain⟨t,k,σ⟩:=c;replace h:=λx=>(h x).get
 refine⟨?_⟩;have D:∃s,Ox ⟨t,k,σ⟩=some s:=by
  cases R:Ox ⟨t,k,σ⟩with
  |none=>have:=hi W;rw[R]at this;cases this
  |some s=>exact⟨s,rfl⟩
 obtain⟨s,f⟩:=D;replace hi:∀w,s.run P w= .ok (.enter g args) w:=λw=>by have:=hi w;rw[f]at this;exact Option.some.inj this
 replace f:=(Nk f).1;unfold Pg at f;split at f
 .rename_i wI o m;split at f
  .cases f
  .cases f
  .rename_i A M;split at f
   .rename_i B;simp only[AK]at B;injection f with f;subst f;unfold Nc at m;simp only at m;split at m
    .rename_i p i l;cases j:p[i]? with
     |none=>rw[j]at m;cases m
     | some E=>
      rw[j]at m;simp only[BN,AW,BL]at m;obtain⟨rfl,rfl⟩:=m;intro F β a w u;show wpOpsIn Fe 0 P p (post P Q k) (i::l) a w;rw[wpOpsIn_cons];unfold wpOpIn;simp only[j,M3 u,B.1,if_true];have y:∀x∈E.op.operands,a.eval x=σ.rho x:=λx z=>by
       rw[u.eval,uF];· rfl
       exact BD.1 B.2 x (by simpa using z)
      refine Da ((congrArg (λs=>s.run P w) (execOp_congr E (λcs b e=>A cs b e) y)).trans (hi w))<|Calls.mono (N w u.bel u.phi) λe S K=> ?_
      obtain⟨x,rfl,L,Z⟩:=K;have z:=h x;simp only[Qq,Lp,j,BU]at z;exact z (F.put _ (by intro k J;simp[AV.ids]at J)) β _ _ ((u.call L Z).put E.dst (.v (val x)))
    .cases H
    .cases m
   .cases f
 .cases f
theorem u9 [Rnd]{X:Type}{g:XU}{args:Array YI}{val:X->YI}{G:X->YM->Prop}
 (hs:∀w,Below W.heap.size W w->Φ w->XW P g args w (K4 w val G)) (J:Uq c=true) (hi:∀w,(Ox c).map (λs=>s.run P w)=some (.ok (.enter g args) w))
 (h:∀x:X,K0 P Δ W Q (λw=>Φ w/\G x w) (Lp (.v (val x)) c)):K0 P Δ W Q Φ c:=by
 obtain⟨E,k,σ⟩:=c;replace h:=λx=>(h x).get
 refine⟨?_⟩;have R:∃s,Ox ⟨E,k,σ⟩=some s:=by
  cases hq:Ox ⟨E,k,σ⟩with
  |none=>have:=hi W;rw[hq]at this;cases this
  |some s=>exact⟨s,rfl⟩
 obtain⟨s,l⟩:=R;replace hi:∀w,s.run P w= .ok (.enter g args) w:=λw=>by have:=hi w;rw[l]at this;exact Option.some.inj this
 replace l:=(Nk l).1;unfold Pg at l;split at l
 .rename_i Y o p;split at l
  .cases l
  .cases l
  .rename_i M hnm;split at l
   .rename_i wJ;simp only[AK]at wJ;injection l with l;unfold Nc at p;simp only at p;split at p
    .cases J
    .rename_i t fuel u;split at p
     .rename_i i m;cases f:t[i]? with
      |none=>rw[f]at p;cases p
      | some A=>
       rw[f]at p;simp only[BN,AW,BL]at p;obtain⟨rfl,rfl⟩:=p;intro F L S;refine⟨λh0=>(by rw[h0]at m;cases m),λj T=> ?_⟩;rw[m]at T;obtain rfl:j=i:=by simpa using T
       obtain⟨_,o2,B,D⟩:=mem_ready.1 (show j∈Region.ready .any t u by rw[m];simp);obtain rfl:A=o2:=by rw[f]at B;injection B
       have z:Js t A:=by
        refine Ib ?_;unfold Uq at J;simp only[m,f]at J;exact J
       refine⟨A,f,.lone z λΔ' β a w Q' i' K' N H U hK=> ?_⟩;unfold wpOpIn;simp only[N,M3 H,wJ.1,if_true];have wI:∀x∈A.op.operands,a.eval x=σ.rho x:=λx K=>by
        rw[H.eval,uF];· rfl
        exact BD.1 wJ.2 x (by simpa using K)
       refine Da ((congrArg (λs=>s.run P w) ((execOp_congr A (λcs b e=>M cs b e) wI).trans l)).trans (hi w))<|Calls.mono (hs w H.bel H.phi) λe w' he=> ?_
       obtain⟨x,rfl,hb,hG⟩:=he;have K:=h x;simp only[Qq,Lp,m,f,BU,CA]at K;have y:(σ.put A.dst (.v (val x))).wf:=S.put _ (by intro k Z;simp[AV.ids]at Z);exact hK _ _ _ _ _ (K F (L.set_ f D) y) ((H.call hb hG).put A.dst (.v (val x))) y
     .cases p
    .cases p
   .cases l
 .cases l
end
section
variable{w u:YM}{P:Pn}{q:PM}{C:Px->Prop}{K N g n c:Nat}{A:YY}{L:List (Int×Co)}{t:TV}{T:N7}{R:Rc}{x y:Int}{s:Xk}{r r2:RV}{X Y:Rat}{F:Bool}{m:Im}{z:YZ}{sa sp:Int}
def j0(k:Nat)(P:Pn):Prop:=k=2->1<=P.rad/\P.rad<=1048576
theorem cB{o:Nat}{a b:YI}(f:K8 w g (OC P q))(k:(OC P q)[o]? =some a)(h:(OC P q)[o+1]? =some b):w.rangeAt g o [a,b]:=λj v e=>by
 rcases j with _|_|j
 .obtain rfl:a=v:=by simpa using e
  exact f.cell.trans k
 .obtain rfl:b=v:=by simpa using e
  exact f.cell.trans h
 .simp at e
theorem pF(l:j0 1 P)(f:K8 w g (OC P q))(k:Nf r X 100 w)(j:Nf r2 Y 100 w):Ca 201 #[r.val,r2.val,Kp g] w (K4 w (λz:Int=> .int .i64 z) λ_ _=>True):=by
 refine uf func201 rfl<|ZR<|ZA (Ke 74 ⟨g,5,none⟩) (pt P.p0x P.p0y) (λe b h=>Ka (vs:=[.int .i64 P.p0x,.int .i64 P.p0y]) O O (cB (f.below b) rfl rfl))<|ZA (Ke 74 ⟨g,7,none⟩) (pt P.p1x P.p1y) (λe b h=>Ka (vs:=[.int .i64 P.p1x,.int .i64 P.p1y]) O O (cB (f.below b) rfl rfl))<|ZC (λe b h=>bF (X:=P.p0x) (Y:=P.p0y) (U:=P.p1x) (V:=P.p1y) SW (k.below b) (j.below b)) λz=>ZV (.int .i64 (VS P.p0x P.p0y P.p1x P.p1y X Y)) (λe b h=>⟨_,rfl,b,Zv⟩)
theorem oa(j:j0 2 P)(f:K8 w g (OC P q))(l:Nf r X 100 w)(k:Nf r2 Y 100 w):Ca 203 #[r.val,r2.val,Kp g] w (K4 w (λz:Int=> .int .i64 z) λ_ _=>True):=by
 have j:=j rfl;refine uf func203 rfl<|ZR<|ZA (Ke 74 ⟨g,5,none⟩) (pt P.p0x P.p0y) (λe b h=>Ka (vs:=[.int .i64 P.p0x,.int .i64 P.p0y]) O O (cB (f.below b) rfl rfl))<|ZA (Ke 3 ⟨g,9,none⟩) (.int .i64 P.rad) (λe b h=>Kh O ((f.below b).cell.trans rfl))<|ZC (λe b h=>di (X:=P.p0x) (Y:=P.p0y) (r:=P.rad) SW I (l.below b) (k.below b)) λz=>ZV (.int .i64 (am P.p0x P.p0y P.rad X Y)) (λe b h=>⟨_,rfl,b,Zv⟩)
theorem jL(l:j0 1 P)(f:Kk w A n 5 Qr L)(k:K8 w g (OC P q))(o:Nf r X 100 w)(j:Nf r2 Y 100 w):Ca 472 #[.agg #[.slice A n c,.int .i64 sp,.func (.func 201) #[] #[Kp g]],r.val,r2.val] w (K4 w (λp:{p:Px // p.ok}=>Ls p.1) λ_ _=>True):=by
 refine uf func472 rfl<|ZR<|ZC (λe b h=>pF l (k.below b) (o.below b) (j.below b)) λz=>ZC (λe b h=>Gx (c:=c) (a:=sp) (t:=z) (f.below b)) λp=>ZC (λe b h=>C1 (c:=p.1) p.2) λv=>ZV (Ls p.1.pre) (λe b h=>⟨⟨p.1.pre,p.2.pre⟩,rfl,b,Zv⟩)
theorem iT(l:j0 2 P)(f:Kk w A n 5 Qr L)(k:K8 w g (OC P q))(o:Nf r X 100 w)(j:Nf r2 Y 100 w):Ca 472 #[.agg #[.slice A n c,.int .i64 sp,.func (.func 203) #[] #[Kp g]],r.val,r2.val] w (K4 w (λp:{p:Px // p.ok}=>Ls p.1) λ_ _=>True):=by
 refine uf func472 rfl<|ZR<|ZC (λe b h=>oa l (k.below b) (o.below b) (j.below b)) λz=>ZC (λe b h=>Gx (c:=c) (a:=sp) (t:=z) (f.below b)) λp=>ZC (λe b h=>C1 (c:=p.1) p.2) λv=>ZV (Ls p.1.pre) (λe b h=>⟨⟨p.1.pre,p.2.pre⟩,rfl,b,Zv⟩)
theorem i_(J:Vn m=true)(Z:Kk w z.1 m.px.length 4 Pm m.px)(B:sa=1\/sa=2)(l:Nf r X 100 w)(G:Nf r2 Y 100 w):Ca 479 #[.agg #[.int .i64 m.w,.int .i64 m.h,.slice z.1 m.px.length z.2,.int .i64 sa,.int .i64 sp],r.val,r2.val] w (K4 w (λp:{p:Px // p.ok}=>Ls p.1) λ_ _=>True):=by
 have o:∀f,Ca 261 #[.int .i64 1,.int .i64 256] f (K4 f (λr:RV=> .tuple #[r.val,.int .i64 0]) λr u=>Kn r (Rat.divInt 1 256) 2 u):=λf=>(Pj (x:=1) (y:=256) (w:=f) Zd Zd).mono λe M k=>by
  obtain⟨r,v,k2,E⟩:=k;exact⟨r,v,k2,λu H D=>by have e:B7 r 1 256 2 u:=E u H D;unfold B7 at e;rwa [YT Zd]at e⟩
 refine uf func479 rfl<|ZR<|ZC (λf j h=>o f) λun=>ZC (λf j h=>Pi (l.below j) h.2.q Zd) λa=>ZC (λf j h=>Pi (G.below j) h.1.2.q Zd) λb=>ZC (λf j h=>d_ (look:=sa) (sp:=sp) (y:=z) B J (Z.below j) h.1.2.q h.2.q Zd Zd) λp=>ZV (Ls p.1) (λf j h=>⟨p,rfl,j,Zv⟩)
theorem i8{p:Px}:Ca 471 #[Ls p,Ou.val,Ou.val] w (CU w (Ls p)):=uf func471 rfl<|ZR<|ZW (Ls p)
theorem Rt(b:0<=x/\x<=4096):Ca 212 #[.int .i64 x] w (CU w (.bool true)):=uf func212 rfl<|ZS 2<|YD 4 (x>=-4096) I<|ZS 5<|YE 7 (x<=4096) I<|ZW (.bool true)
theorem EW(j:0<=x/\x<=4096):Ca 213 #[.int .i64 x] w (K4 w RV.val λr u=>Kn r ((x*256+128:Int):Rat) 2 u):=by
 refine uf func213 rfl<|ZS 3<|ZT 5 (.int .i64 (XQ.wrap (XQ.wrap (x*256)+128))) (.int .i64 (x*256+128)) (by rw[AD (x*256) I,AD _ I])<|ZC (λe b h=>Ki (x*256+128) e I I) λv=>ZV (v.val) (λe b h=>⟨v,rfl,b,λu f k2=>(h u f k2).2⟩)
theorem nM(wI:aO w C g)(B:0<=x/\x<=4096)(E:0<=y/\y<=4096):Ca 157 #[Kp g,.int .i64 x,.int .i64 y] w (K4 w (λp:{p:Px // p.ok/\C p}=>Ls p.1) λ_ _=>True):=by
 obtain⟨s,t,T,⟨wI,J⟩,U⟩:=wI;have k:∀f,Below w.heap.size w f->(Ke 230 ⟨g,0,none⟩).run XM f= .ok (.value s.val) f:=λf G=>Kh O ((wI.below G).cell.trans rfl)
 have o:∀f,Below w.heap.size w f->(Ke 55 ⟨g,1,none⟩).run XM f= .ok (.value t.val) f:=λf G=>Ka (vs:=t.cl) O O (λj v hj=>(wI.below G).cell.trans (by rw[CF,List.getElem?_cons_succ];exact hj))
 refine uf func157 rfl<|ZR ?_
 cases s with
 |sol p=>
  refine ZA (Ke 230 ⟨g,0,none⟩) ((Xk.sol p).val) (λf b h=>k f b)<|ZC (λf b h=>Rt B) λM=>ZC (λf b h=>Rt E) λS=>ZI false<|ZA (Ke 230 ⟨g,0,none⟩) ((Xk.sol p).val) (λf b h=>k f b)<|ZI true<|ZA (Ke 230 ⟨g,0,none⟩) ((Xk.sol p).val) (λf b h=>k f b)<|wu (λf b h=>i8 (p:=p)) O (λw=>O) λl=>ZR<|ZV (Ls p) (λf b h=>⟨⟨p,J⟩,rfl,b,Zv⟩)
 |lin A n c D sp=>
  obtain⟨⟨⟨L,Q⟩,P,q,wJ⟩,H⟩:=J;refine ZA (Ke 230 ⟨g,0,none⟩) ((Xk.lin A n c D sp).val) (λf b h=>k f b)<|ZC (λf b h=>Rt B) λM=>ZC (λf b h=>Rt E) λS=>ZI false<|ZA (Ke 230 ⟨g,0,none⟩) ((Xk.lin A n c D sp).val) (λf b h=>k f b)<|ZI false<|ZB 3 (Ke 230 ⟨g,0,none⟩) ((Xk.lin A n c D sp).val) (λf b h=>k f b)<|ZB 7 (Ke 55 ⟨g,1,none⟩) (t.val) (λf b h=>o f b)<|ZC (λf b h=>EW B) λm1=>ZC (λf b h=>EW E) λm2=>ZC (λf b h=>V4 (U.below b) (h.1.2.q.mono Zd) (h.2.q.mono Zd) Zd) λae=>u9 (λf b h=>jL (c:=c) (sp:=sp) (P:=P) (q:=q) (λe=>absurd e Zd) (Q.below b) (wJ.below b) (h.2.1.q.mono Zd) (h.2.2.q.mono Zd)) O (λw=>O) λl=>ZR<|ZV (Ls l.1) (λf b h=>⟨⟨l.1,l.2,H _ l.2⟩,rfl,b,Zv⟩)
 |rad A n c D sp=>
  obtain⟨⟨⟨L,Q⟩,P,q,wJ,hr⟩,H⟩:=J;refine ZA (Ke 230 ⟨g,0,none⟩) ((Xk.rad A n c D sp).val) (λf b h=>k f b)<|ZC (λf b h=>Rt B) λM=>ZC (λf b h=>Rt E) λS=>ZI false<|ZA (Ke 230 ⟨g,0,none⟩) ((Xk.rad A n c D sp).val) (λf b h=>k f b)<|ZI false<|ZB 3 (Ke 230 ⟨g,0,none⟩) ((Xk.rad A n c D sp).val) (λf b h=>k f b)<|ZB 7 (Ke 55 ⟨g,1,none⟩) (t.val) (λf b h=>o f b)<|ZC (λf b h=>EW B) λm1=>ZC (λf b h=>EW E) λm2=>ZC (λf b h=>V4 (U.below b) (h.1.2.q.mono Zd) (h.2.q.mono Zd) Zd) λae=>u9 (λf b h=>iT (c:=c) (sp:=sp) (P:=P) (q:=q) (λ_=>hr) (Q.below b) (wJ.below b) (h.2.1.q.mono Zd) (h.2.2.q.mono Zd)) O (λw=>O) λl=>ZR<|ZV (Ls l.1) (λf b h=>⟨⟨l.1,l.2,H _ l.2⟩,rfl,b,Zv⟩)
 |img m z sa sp=>
  obtain⟨⟨hm,W,Z⟩,H⟩:=J;refine ZA (Ke 230 ⟨g,0,none⟩) ((Xk.img m z sa sp).val) (λf b h=>k f b)<|ZC (λf b h=>Rt B) λM=>ZC (λf b h=>Rt E) λS=>ZI false<|ZA (Ke 230 ⟨g,0,none⟩) ((Xk.img m z sa sp).val) (λf b h=>k f b)<|ZI false<|ZB 3 (Ke 230 ⟨g,0,none⟩) ((Xk.img m z sa sp).val) (λf b h=>k f b)<|ZB 7 (Ke 55 ⟨g,1,none⟩) (t.val) (λf b h=>o f b)<|ZC (λf b h=>EW B) λm1=>ZC (λf b h=>EW E) λm2=>ZC (λf b h=>V4 (U.below b) (h.1.2.q.mono Zd) (h.2.q.mono Zd) Zd) λae=>u9 (λf b h=>i_ (sp:=sp) hm (W.below b) Z (h.2.1.q.mono Zd) (h.2.2.q.mono Zd)) O (λw=>O) λl=>ZR<|ZV (Ls l.1) (λf b h=>⟨⟨l.1,l.2,H _ l.2⟩,rfl,b,Zv⟩)
theorem rr(b:O4 R)(f:aO w C g):nX w R (Kp g) C:=λo x y e hi=>by
 have k:=b.x;have j:=b.y;have h:=b.W;have l:=b.H;unfold Rc.In at hi;exact nM (f.below e) I I
theorem Hi{t u:TV}{T U:N7}{g:Nat}(h:Kw 55 ([t,u].flatMap TV.cl).toArray g w)(j:S3 t T K w)(f:S3 u U K w):kN w (some ⟨g,0,none⟩) 2 [t,u] [T,U] K:=by
 refine cX ⟨_,h⟩ rfl rfl λk x X b e=> ?_
 rcases k with _|_|k
 .obtain rfl:t=x:=by simpa using b
  obtain rfl:T=X:=by simpa using e
  exact j
 .obtain rfl:u=x:=by simpa using b
  obtain rfl:U=X:=by simpa using e
  exact f
 .simp at b
theorem fZ(Q:Lu P=true)(B:Jp P q 8 w)(S:P.im.px.length<=9223372036854775807)(U:tt P C)(D:P.kind≠1->F=true)(J:S3 t T 8 w):
 Ca 106 #[KH P q,t.val] w (K4 w (λx:{x:YI×Int // x.2=0\/F=true}=> .tuple #[x.1.1,.int .i64 x.1.2]) λx u=>x.1.2=0->∃g,x.1.1=Kp g/\aO u C g):=by
 have G:P.kind=1\/F=true:=by by_cases h:P.kind=1;exact .inl h;exact .inr (D h)
 refine uf func106 rfl<|ZR<|ZC (λj b h=>I1 Q (K:=8) (B.below b) S Zd) λv=>ZI false<|ZC (λj b h=>p7 Q (B.below b) U) λs=> ?_
 obtain⟨s,E⟩:=s;cases s with
 |sol p=>
  refine uq 15 ((Xk.sol p).val::Fq.cl) O O λg wI=>ZI true<|ZV (.tuple #[Kp g,.int .i64 0]) (λj b h=>⟨⟨(Kp g,0),.inl rfl⟩,rfl,b,λu o l _=>⟨g,rfl,Xk.sol p,Fq,Qt,⟨(h u o l).2,(h u o l).1.2⟩,S3.zero⟩⟩)
 | lin A n c H sp=>
  have D:=G.resolve_left λe=>by obtain⟨p,B⟩:=E e;cases B
  refine ZI false<|uk (Lr 225 2 #[(0,q.t.val),(1,t.val)]) (Kr 2) (Kw 55 ([q.t,t].flatMap TV.cl).toArray) O (λj b h=>Kj O) λZ=>ZR<|ZC (λj b h=>Zj (n:=2) (c:=2) (L:=[q.t,t]) (Ts:=[P.T,T]) (K:=8) (Hi h.2 (B.tr.below b) (J.below b)) Zd Zd) λM=> ?_
  by_cases k:Mn [P.T,T]=0
  case neg=>
   refine ZJ (Mn [P.T,T] !=0) true (bne_iff_ne.2 k)<|ZV (.tuple #[.pointer none,.int .i64 (Mn [P.T,T])]) (λj b h=>⟨⟨(.pointer none,Mn [P.T,T]),.inr D⟩,rfl,b,λ_ _ _ h=>absurd h k⟩)
  refine ZJ (Mn [P.T,T] !=0) false (by rw[k];rfl)<|ZC (λj b h=>Ik (h.2.n k).q Zd) λiv=> ?_
  by_cases f:S9 (O2 [P.T,T])=0
  case neg=>
   refine ZJ ((S9 (O2 [P.T,T]) !=0)) true (bne_iff_ne.2 f)<|ZV (.tuple #[.pointer none,.int .i64 (S9 (O2 [P.T,T]))]) (λj b h=>⟨⟨(.pointer none,S9 (O2 [P.T,T])),.inr D⟩,rfl,b,λ_ _ _ h=>absurd h f⟩)
  refine ul ((S9 (O2 [P.T,T]) !=0)) false O (by rw[f];rfl)<|ZS 0<|uq 15 ((Xk.lin A n c H sp).val::iv.cl) O O λg wI=>ZR<|ZV (.tuple #[Kp g,.int .i64 0]) (λj b h=>⟨⟨(Kp g,0),.inl rfl⟩,rfl,b,λu o l _=>⟨g,rfl,Xk.lin A n c H sp,iv,_,⟨(h u o l).2,(h u o l).1.1.1.1.2⟩,((h u o l).1.2.n f).q⟩⟩)
 | rad A n c H sp=>
  have D:=G.resolve_left λe=>by obtain⟨p,B⟩:=E e;cases B
  refine ZI false<|uk (Lr 225 2 #[(0,q.t.val),(1,t.val)]) (Kr 2) (Kw 55 ([q.t,t].flatMap TV.cl).toArray) O (λj b h=>Kj O) λZ=>ZR<|ZC (λj b h=>Zj (n:=2) (c:=2) (L:=[q.t,t]) (Ts:=[P.T,T]) (K:=8) (Hi h.2 (B.tr.below b) (J.below b)) Zd Zd) λM=> ?_
  by_cases k:Mn [P.T,T]=0
  case neg=>
   refine ZJ (Mn [P.T,T] !=0) true (bne_iff_ne.2 k)<|ZV (.tuple #[.pointer none,.int .i64 (Mn [P.T,T])]) (λj b h=>⟨⟨(.pointer none,Mn [P.T,T]),.inr D⟩,rfl,b,λ_ _ _ h=>absurd h k⟩)
  refine ZJ (Mn [P.T,T] !=0) false (by rw[k];rfl)<|ZC (λj b h=>Ik (h.2.n k).q Zd) λiv=> ?_
  by_cases f:S9 (O2 [P.T,T])=0
  case neg=>
   refine ZJ ((S9 (O2 [P.T,T]) !=0)) true (bne_iff_ne.2 f)<|ZV (.tuple #[.pointer none,.int .i64 (S9 (O2 [P.T,T]))]) (λj b h=>⟨⟨(.pointer none,S9 (O2 [P.T,T])),.inr D⟩,rfl,b,λ_ _ _ h=>absurd h f⟩)
  refine ul ((S9 (O2 [P.T,T]) !=0)) false O (by rw[f];rfl)<|ZS 0<|uq 15 ((Xk.rad A n c H sp).val::iv.cl) O O λg wI=>ZR<|ZV (.tuple #[Kp g,.int .i64 0]) (λj b h=>⟨⟨(Kp g,0),.inl rfl⟩,rfl,b,λu o l _=>⟨g,rfl,Xk.rad A n c H sp,iv,_,⟨(h u o l).2,(h u o l).1.1.1.1.2⟩,((h u o l).1.2.n f).q⟩⟩)
 | img m z sa sp=>
  have D:=G.resolve_left λe=>by obtain⟨p,B⟩:=E e;cases B
  refine ZI false<|uk (Lr 225 2 #[(0,q.t.val),(1,t.val)]) (Kr 2) (Kw 55 ([q.t,t].flatMap TV.cl).toArray) O (λj b h=>Kj O) λZ=>ZR<|ZC (λj b h=>Zj (n:=2) (c:=2) (L:=[q.t,t]) (Ts:=[P.T,T]) (K:=8) (Hi h.2 (B.tr.below b) (J.below b)) Zd Zd) λM=> ?_
  by_cases k:Mn [P.T,T]=0
  case neg=>
   refine ZJ (Mn [P.T,T] !=0) true (bne_iff_ne.2 k)<|ZV (.tuple #[.pointer none,.int .i64 (Mn [P.T,T])]) (λj b h=>⟨⟨(.pointer none,Mn [P.T,T]),.inr D⟩,rfl,b,λ_ _ _ h=>absurd h k⟩)
  refine ZJ (Mn [P.T,T] !=0) false (by rw[k];rfl)<|ZC (λj b h=>Ik (h.2.n k).q Zd) λiv=> ?_
  by_cases f:S9 (O2 [P.T,T])=0
  case neg=>
   refine ZJ ((S9 (O2 [P.T,T]) !=0)) true (bne_iff_ne.2 f)<|ZV (.tuple #[.pointer none,.int .i64 (S9 (O2 [P.T,T]))]) (λj b h=>⟨⟨(.pointer none,S9 (O2 [P.T,T])),.inr D⟩,rfl,b,λ_ _ _ h=>absurd h f⟩)
  refine ul ((S9 (O2 [P.T,T]) !=0)) false O (by rw[f];rfl)<|ZS 0<|uq 15 ((Xk.img m z sa sp).val::iv.cl) O O λg wI=>ZR<|ZV (.tuple #[Kp g,.int .i64 0]) (λj b h=>⟨⟨(Kp g,0),.inl rfl⟩,rfl,b,λu o l _=>⟨g,rfl,Xk.img m z sa sp,iv,_,⟨(h u o l).2,(h u o l).1.1.1.1.2⟩,((h u o l).1.2.n f).q⟩⟩)
end
def dW(w:YM)(R:Rc)(F:Bool)(b:YI)(C:Px->Prop):Prop:=∀w1 (t:TV) (T:N7),Below w.heap.size w w1->S3 t T 8 w1->Ca 106 #[b,t.val] w1 (K4 w1 (λx:{x:YI×Int // x.2=0\/F=true}=> .tuple #[x.1.1,.int .i64 x.1.2]) λx u=>x.1.2=0->nX u R x.1.1 C)
theorem dW.below{w f:YM}{R:Rc}{F:Bool}{c:YI}{C:Px->Prop}(h:dW w R F c C)(e:Below w.heap.size w f):dW f R F c C:=λg t T b=>h g t T (e.trans (b.mono e.size))
theorem ZL{w:YM}{P:Pn}{q:PM}{t:TV}{K:Nat}(c:Lu P=false)(g:Jp P q K w)(b:P.im.px.length<=9223372036854775807)(f:2<=K/\K<=10000000):Ca 106 #[KH P q,t.val] w (CU w (.tuple #[.pointer none,.int .i64 16])):=uf func106 rfl<|ZR<|ZC (λj e h=>I1 c (K:=K) (g.below e) b f) λv=>ZI true<|ZW (.tuple #[.pointer none,.int .i64 16])
theorem gA{w:YM}{R:Rc}{F:Bool}{P:Pn}{q:PM}{C:Px->Prop}(o:O4 R)(m:Jp P q 8 w)(B:tt P C)(z:Lu P=true\/F=true)(v:P.kind≠1->F=true)(l:P.im.px.length<=9223372036854775807):dW w R F (KH P q) C:=λH t T j s=>by
 cases c:Lu P
 .have b:F=true:=z.resolve_left (by rw[c];decide);refine(ZL (t:=t) c (m.below j) l Zd).mono λe A k=> ?_
  obtain⟨_,f,k2,_⟩:=k;exact⟨⟨(.pointer none,16),.inr b⟩,f,k2,λ_ _ _ h=>absurd h (show(16:Int)≠0 by decide)⟩
 .refine(fZ c (m.below j) l B v s).mono λe A k=> ?_
  obtain⟨x,f,k2,D⟩:=k;exact⟨x,f,k2,λu G y h=>by obtain⟨g,p,E⟩:=D u G y h;rw[p];exact rr o E⟩
def D4(N:Nat)(R:Rc)(D E:Px->Prop)(z z':YZ)(u:YM):Prop:=(z'=z/\∀p,Nm D p->Nm E p)\/Ag N R E z' u
structure KO(w:YM)(S:Sc)(R:Rc)(F:Bool)(C:Px->Prop)(K:Nat->Prop)(P:Pn)(p:PM)(D E:Px->Prop):Prop where
 br:dW w R F (KH P p) C
 bl:∀s d k,s.ok->C s->Nm D d->k<=255->K k->Nm E (s.blend d k)
 er:F=true->∀p,Nm D p->Nm E p
 tr:F=true\/∀Ts,jr S Ts->Mn Ts=0
section
variable{w u:YM}{R:Rc}{S:Sc}{gn go c i N0 N1 n k:Nat}{nl:List (Nd×ND)}{N:Nd}{q:ND}{F:Bool}{C D E G:Px->Prop}{K:Nat->Prop}{P:Pn}{p:PM}{z z1 z2:YZ}{m:MV}
theorem KO.below{b:YM}(h:KO w S R F C K P p D E)(e:Below w.heap.size w b):KO b S R F C K P p D E:=⟨h.br.below e,h.bl,h.er,h.tr⟩
theorem D4.get(f:Xm u R D z)(h:D4 N0 R D E z z1 u):Xm u R E z1:=by
 rcases h with ⟨rfl,h⟩|h
 .exact f.imp λp e b=>(h p ⟨e,b⟩).2
 .exact h.toP
theorem D4.mono(h:D4 N0 R D E z z1 u)(b:N1<=N0):D4 N1 R D E z z1 u:=h.imp id λh=>h.mono b
theorem D4.trans(h:D4 N0 R D E z z1 u)(b:D4 N0 R E G z1 z2 u):D4 N0 R D G z z2 u:=by
 rcases b with ⟨rfl,k⟩|b
 .rcases h with ⟨rfl,h⟩|h
  .exact .inl ⟨rfl,λp f=>k p (h p f)⟩
  .exact .inr (h.imp λp e b=>(k p ⟨e,b⟩).2)
 .exact .inr b
theorem vM:D4 N0 R D D z z u:= .inl ⟨rfl,λ_ h=>h⟩
theorem JO(t:O4 R)(Z:Py w S gn go c nl)(hi:i<S.nds.length)(J:Xm w R D z)(L:Zw w R K m)(j:KO w S R F C K P p D E)(v:N0<=w.heap.size):
 Ca 64 #[Sb S gn go c,Le (Mp R z),.int .i64 i,KH P p,Le m] w (K4 w (λz:YZ=>Le (Mp R z)) λz1 u=>D4 N0 R D E z z1 u):=by
 refine uf func64 rfl<|ZR<|ZC (λg f h=>ry (Z.below f) hi) λr=> ?_
 rcases NY r.2.1 with s|H
 case inr=>
  have B:F=true:=j.tr.resolve_right λA=>by have:=A _ r.2.2;omega
  refine ZJ (Mn r.2.1 !=0) true (by rw[H];rfl)<|ZV (Le (Mp R z)) (λg f h=>⟨z,rfl,f,λ_ _ _=> .inl ⟨rfl,j.er B⟩⟩)
 refine ZJ (Mn r.2.1 !=0) false (by rw[s];rfl)<|ZC (λg f h=>j.br g r.1 (O2 r.2.1) f (h.2.n s).q) λb=> ?_
 obtain⟨⟨M,e⟩,x⟩:=b
 by_cases l:e=0
 case neg=>
  refine ZJ (e !=0) true (bne_iff_ne.2 l)<|ZV (Le (Mp R z)) (λg f h=>⟨z,rfl,f,λ_ _ _=> .inl ⟨rfl,j.er (x.resolve_left l)⟩⟩)
 refine ZJ (e !=0) false (by rw[l];rfl)<|ZC (λg f h=>ss (N:=w.heap.size) t (J.below f) (L.below f) (h.2 l) j.bl f.size) λo=>ZV (Le (Mp R o)) (λg f h=>⟨o,rfl,f,λu y k2=> .inr ((h u y k2).2.mono v)⟩)
def Wd(F:XU)(S:Sc)(y:YZ)(R:Rc)(i:Int)(w:YM)(D E:Px->Prop):Prop:=∀b z N1,Below w.heap.size w b->Xm b R D z->N1<=b.heap.size->Ca F #[De S y,.int .i64 i,Le (Mp R z)] b (K4 b (λz1:YZ=>Le (Mp R z1)) λz1 u=>D4 N1 R D E z z1 u)
theorem Wd.below{f:XU}{g:YM}{i:Int}{y:YZ}(h:Wd f S y R i w D E)(e:Below w.heap.size w g):Wd f S y R i g D E:=λj z N1 b=>h j z N1 (e.trans (b.mono e.size))
def RC(w:YM)(S:Sc)(y:YZ):Prop:=∀b,Below w.heap.size w b->Ca 23 #[De S y] b (CU b (.bool true))
theorem RC.below{f:YM}{y:YZ}(h:RC w S y)(e:Below w.heap.size w f):RC f S y:=λg b=>h g (e.trans (b.mono e.size))
theorem Py.sv(b:Py w S gn go c nl):RC w S (some ⟨gn,go,none⟩,c):=λf e=>WI (b.below e)
def sI(F:XU)(S:Sc)(gn go c:Nat)(R:Rc)(i:Nat)(w:YM)(K:Nat->Prop):Prop:=∀b N1,Below w.heap.size w b->N1<=b.heap.size->Ca F #[Sb S gn go c,.int .i64 i,R.V] b (K4 b (λm:MV=> .tuple #[Le m,.int .i64 0]) λm u=>Qf N1 R K m u)
theorem eh{K2:Nat->Prop}(f:O4 R)(l:Py w S gn go c nl)(g:nl[i]? =some (N,q))(hi:N.iso=false)(A:N.bl=1)(t:eM S R N K)(Z:∀a,a<=255->K a->K2 (Al a N.op.toNat))(s:Xm w R D z)(v:Wd 46 S (some ⟨gn,go,none⟩,c) R i w D G)(H:∀p q k,Nm D p->Nm G q->k<=255->K2 k->Nm E (p.lerp q k))(x:N0<=w.heap.size):
 Ca 67 #[Sb S gn go c,.int .i64 i,Le (Mp R z)] w (K4 w (λz:YZ=>Le (Mp R z)) λz1 u=>D4 N0 R D E z z1 u):=by
 have y:=(l.at_ g).2.1;have j:N.op.toNat<=255:=Nat.le_of_lt_succ N.op.toNat_lt;refine uf func67 rfl<|ZR<|ZA (Kd 24 (.slice (some ⟨gn,go,none⟩) S.nds.length c) i) (.pointer (some ⟨gn,go+i*47,none⟩)) (λe b h=>Li y)<|ZA (Ke 64 ⟨gn,go+i*47,none⟩) (GE N q) (λe b h=>(l.below b).ld g)<|ZC (λe b h=>Gd (K:=K) (N0:=w.heap.size) f (l.below b) g t b.size) λm=>ZD 3 (λe b h=>H9 (K:=K2) (N:=w.heap.size) (k2:=N.op.toNat) f h.2.a j Z b.size) λL=>ZT 42 (.bool (!N.iso)) (.bool true) (by rw[hi];rfl)<|ZJ (N.bl==1) true (by rw[A];rfl)<|ZC (λe b h=>v e z w.heap.size b (s.below b) b.size) λJ=>ZC (λe b h=>SD (N:=w.heap.size) f (s.below b) (h.2.get (s.below b)) h.1.2.a H b.size) λo=>ZV (Le (Mp R o)) (λe b h=>⟨o,rfl,b,λu B k2=> .inr ((h u B k2).2.mono x)⟩)
theorem OD{K2:Nat->Prop}{D1:Px->Prop}(f:O4 R)(t:Py w S gn go c nl)(j:nl[i]? =some (N,q))(hi:N.iso=true\/(N.iso=false/\N.bl≠1))(o:1<=N.bl/\N.bl<=13)(y:eM S R N K)(J:∀a,a<=255->K a->K2 (Al a N.op.toNat))(x:Nm D1 ⟨0,0,0,0⟩)(L:Xm w R D z)(A:Wd 46 S (some ⟨gn,go,none⟩,c) R i w D1 G)(wI:OX w N.bl G D K2 E)(B:N0<=w.heap.size):
 Ca 67 #[Sb S gn go c,.int .i64 i,Le (Mp R z)] w (K4 w (λz:YZ=>Le (Mp R z)) λz1 u=>D4 N0 R D E z z1 u):=by
 have H:=(t.at_ j).2.1;have l:N.op.toNat<=255:=Nat.le_of_lt_succ N.op.toNat_lt;rcases hi with hi|⟨g,hi⟩
 .refine uf func67 rfl<|ZR<|ZA (Kd 24 (.slice (some ⟨gn,go,none⟩) S.nds.length c) i) (.pointer (some ⟨gn,go+i*47,none⟩)) (λe b h=>Li H)<|ZA (Ke 64 ⟨gn,go+i*47,none⟩) (GE N q) (λe b h=>(t.below b).ld j)<|ZC (λe b h=>Gd (K:=K) (N0:=w.heap.size) f (t.below b) j y b.size) λm=>ZD 3 (λe b h=>H9 (K:=K2) (N:=w.heap.size) (k2:=N.op.toNat) f h.2.a l J b.size) λZ=>ZT 42 (.bool (!N.iso)) (.bool false) (by rw[hi];rfl)<|ZI false<|ZC (λe b h=>OV (p:=⟨0,0,0,0⟩) (N:=w.heap.size) f x b.size) λcl=>ZC (λe b h=>A e cl w.heap.size b h.2.toP b.size) λM=>ZC (λe b h=>RZ (N:=w.heap.size) f o (h.2.get h.1.2.toP) (L.below b) h.1.1.2.a (wI.below b) b.size) λs=>ZV (Le (Mp R s)) (λe b h=>⟨s,rfl,b,λu v k2=> .inr ((h u v k2).2.mono B)⟩)
 .refine uf func67 rfl<|ZR<|ZA (Kd 24 (.slice (some ⟨gn,go,none⟩) S.nds.length c) i) (.pointer (some ⟨gn,go+i*47,none⟩)) (λe b h=>Li H)<|ZA (Ke 64 ⟨gn,go+i*47,none⟩) (GE N q) (λe b h=>(t.below b).ld j)<|ZC (λe b h=>Gd (K:=K) (N0:=w.heap.size) f (t.below b) j y b.size) λm=>ZD 3 (λe b h=>H9 (K:=K2) (N:=w.heap.size) (k2:=N.op.toNat) f h.2.a l J b.size) λZ=>ZT 42 (.bool (!N.iso)) (.bool true) (by rw[g];rfl)<|ZJ (N.bl==1) false (YR.2 hi)<|ZC (λe b h=>OV (p:=⟨0,0,0,0⟩) (N:=w.heap.size) f x b.size) λcl=>ZC (λe b h=>A e cl w.heap.size b h.2.toP b.size) λM=>ZC (λe b h=>RZ (N:=w.heap.size) f o (h.2.get h.1.2.toP) (L.below b) h.1.1.2.a (wI.below b) b.size) λs=>ZV (Le (Mp R s)) (λe b h=>⟨s,rfl,b,λu v k2=> .inr ((h u v k2).2.mono B)⟩)
end
section
variable{w u:YM}{R:Rc}{S:Sc}{gn go c i N0 N1 n k lo:Nat}{nl:List (Nd×ND)}{N:Nd}{q:ND}{F o:Bool}{C D E G:Px->Prop}{K:Nat->Prop}{z z1 z2:YZ}{m:MV}{A:Nat->Px->Prop}
def kI(MF:XU)(w:YM)(S:Sc)(gn go c:Nat)(R:Rc)(i:Nat)(P:Pn)(p:PM)(D E:Px->Prop):Prop:=∃(F:Bool) (C:Px->Prop) (K:Nat->Prop),sI MF S gn go c R i w K/\KO w S R F C K P p D E
theorem TW(U:O4 R)(wI:Py w S gn go c nl)(J:nl[i]? =some (N,q))(W:N.kind=2)(Y:∀j P p,q.fl[j]? =some (P,p)->kI 63 w S gn go c R i P p (A j) (A (j+1)))(hs:∀j P p,q.sl[j]? =some (P,p)->kI 65 w S gn go c R i P p (A (N.fill.length+j)) (A (N.fill.length+(j+1))))(X:Xm w R (A 0) z)(hN:N0<=w.heap.size):
 Ca 53 #[Sb S gn go c,.int .i64 i,Le (Mp R z)] w (K4 w (λz:YZ=>Le (Mp R z)) λz1 u=>D4 N0 R (A 0) (A (N.fill.length+N.stroke.length)) z z1 u):=by
 have Q:=(wI.at_ J).2.1;have t:=(wI.at_ J).2.2;have hpa:=(wI.ndk J).pa W;have T:=t.fi.row;have wJ:=t.st.row;have Z:=t.fi.len;have hsl:=t.st.len;refine uf func53 rfl<|ZR<|ZA (Kd 24 (.slice (some ⟨gn,go,none⟩) S.nds.length c) i) (.pointer (some ⟨gn,go+i*47,none⟩)) (λf b h=>Li Q)<|ZA (Ke 64 ⟨gn,go+i*47,none⟩) (GE N q) (λf b h=>(wI.below b).ld J)<|ZJ (N.kind==2) true (by rw[W];rfl)<|uj (ι:={s:Nat×(YZ) // s.1<=N.fill.length}) 101 (λs=>⟨[vI 1 (i:Nat),(3,.p 3 0),(5,.p 5 0),(6,.p 6 0),(7,.p 7 0),vS 29 q.fiA N.fill.length q.fic,vI 30 (N.fill.length:Nat),vI 31 (s.1.1:Nat)],[(3,(W0 S gn go c).map .v),(5,(Ob (Mp R s.1.2)).map .v),(6,(Ob T9).map .v),(7,(Es N q).map .v)]⟩) (λs u=>D4 w.heap.size R (A 0) (A s.1.1) z s.1.2 u) (λs=>N.fill.length-s.1.1) (⟨(0,z),AC _⟩) O Zf Zt (λu h=>vM) ?_
 rintro⟨⟨j,y⟩,l⟩ gg;have l:j<=N.fill.length:=l
 by_cases e:j<N.fill.length
 case pos=>
  obtain⟨⟨P,p⟩,g⟩:∃v,q.fl[j]? =some v:=⟨_,AA I⟩
  obtain⟨ad,L,M⟩:=T.2 j _ g;obtain⟨F,C,K,B,H⟩:=Y j P p g;refine ZR<|YL ((j:Int)<(N.fill.length:Int))<|ZA (Kd 57 (.slice q.fiA N.fill.length q.fic) j) (.pointer (some (ad.add (j*40)))) (λf b h=>by rw[L];exact L9 (elem:=77) O O e)<|ZA (Ke 77 (ad.add (j*40))) (.agg (HU (P,p)).toArray) (λf b h=>Hg λj v l=>L5 b (M j v l))<|ZC (λf b h=>B f w.heap.size b b.size) λm=>ZC (λf b h=>JO (N0:=w.heap.size) U (wI.below b) Q (h.1.get (X.below b)) h.2.a (H.below b) b.size) λx=>YA 31 j e<|ui (⟨(j+1,x),e⟩) O Zn Zt (λu h=>h.1.1.trans h.2)
 obtain rfl:j=N.fill.length:=I
 refine ZR<|YN ((N.fill.length:Int)<(N.fill.length:Int))<|ug O<|ZR<|uj (ι:={s:Nat×(YZ) // s.1<=N.stroke.length}) 101 (λs=>⟨[vI 1 (i:Nat),(3,.p 3 0),(5,.p 5 0),(6,.p 6 0),(7,.p 7 0),vS 52 q.stA N.stroke.length q.stc,vI 53 (N.stroke.length:Nat),vI 54 (s.1.1:Nat)],[(3,(W0 S gn go c).map .v),(5,(Ob (Mp R s.1.2)).map .v),(6,(Ob T9).map .v),(7,(Es N q).map .v)]⟩) (λs u=>D4 w.heap.size R (A 0) (A (N.fill.length+s.1.1)) z s.1.2 u) (λs=>N.stroke.length-s.1.1) (⟨(0,y),AC _⟩) O Zf Zt (λu h=>h) ?_
 rintro⟨⟨j,y⟩,l⟩ gg2;have l:j<=N.stroke.length:=l
 by_cases e:j<N.stroke.length
 case pos=>
  obtain⟨⟨P,p⟩,g⟩:∃v,q.sl[j]? =some v:=⟨_,AA I⟩
  obtain⟨ad,L,M⟩:=wJ.2 j _ g;obtain⟨F,C,K,B,H⟩:=hs j P p g;refine ZR<|YL ((j:Int)<(N.stroke.length:Int))<|ZA (Kd 57 (.slice q.stA N.stroke.length q.stc) j) (.pointer (some (ad.add (j*40)))) (λf b h=>by rw[L];exact L9 (elem:=77) O O e)<|ZA (Ke 77 (ad.add (j*40))) (.agg (HU (P,p)).toArray) (λf b h=>Hg λj v l=>L5 b (M j v l))<|ZC (λf b h=>B f w.heap.size b b.size) λm=>ZC (λf b h=>JO (N0:=w.heap.size) U (wI.below b) Q (h.1.get (X.below b)) h.2.a (H.below b) b.size) λx=>YA 54 j e<|ui (⟨(j+1,x),e⟩) O Zn Zt (λu h=>h.1.1.trans h.2)
 obtain rfl:j=N.stroke.length:=I
 refine ZR<|YN ((N.stroke.length:Int)<(N.stroke.length:Int))<|ug O<|ZR<|ZV (Le (Mp R y)) (λf b h=>⟨y,rfl,b,λu k1 k2=>(h u k1 k2).mono hN⟩)
def tV(N:Nd):Pn:=⟨4,WR,0,0,0,0,0,[],0,N.im,N.samp,P7⟩
theorem jo(p:O4 R)(f:Py w S gn go c nl)(l:nl[i]? =some (N,q))(g:N.kind=3)(H:sI 55 S gn go c R i w K)(y:∀e (t:TV),Below w.heap.size w e->S3 t P7 8 e->KO e S R F C K (tV N) ⟨none,0,q.pxA,q.pxc,t⟩ D E)(B:Xm w R D z)(s:N0<=w.heap.size):
 Ca 53 #[Sb S gn go c,.int .i64 i,Le (Mp R z)] w (K4 w (λz:YZ=>Le (Mp R z)) λz1 u=>D4 N0 R D E z z1 u):=by
 have j:=(f.at_ l).2.1;refine uf func53 rfl<|ZR<|ZA (Kd 24 (.slice (some ⟨gn,go,none⟩) S.nds.length c) i) (.pointer (some ⟨gn,go+i*47,none⟩)) (λe b h=>Li j)<|ZA (Ke 64 ⟨gn,go+i*47,none⟩) (GE N q) (λe b h=>(f.below b).ld l)<|ZJ (N.kind==2) false (by rw[g];rfl)<|ZJ (N.kind==3) true (by rw[g];rfl)<|ZC (λe b h=>H e w.heap.size b b.size) λm=>ZC (λe b h=>Ir) λt=>ZC (λe b h=>JO (N0:=w.heap.size) p (f.below b) j (B.below b) h.1.2.a (y e t b (h.2.q.mono Zd)) b.size) λx=>ZV (Le (Mp R x)) (λe b h=>⟨x,rfl,b,λu v k2=>(h u v k2).2.mono s⟩)
theorem MI(j:Py w S gn go c nl)(f:nl[i]? =some (N,q))(g:N.kind=1)(s:Wd 67 S (some ⟨gn,go,none⟩,c) R i w D E)(v:Xm w R D z)(p:N0<=w.heap.size):
 Ca 53 #[Sb S gn go c,.int .i64 i,Le (Mp R z)] w (K4 w (λz:YZ=>Le (Mp R z)) λz1 u=>D4 N0 R D E z z1 u):=by
 have t:=(j.at_ f).2.1;refine uf func53 rfl<|ZR<|ZA (Kd 24 (.slice (some ⟨gn,go,none⟩) S.nds.length c) i) (.pointer (some ⟨gn,go+i*47,none⟩)) (λe b h=>Li t)<|ZA (Ke 64 ⟨gn,go+i*47,none⟩) (GE N q) (λe b h=>(j.below b).ld f)<|ZJ (N.kind==2) false (by rw[g];rfl)<|ZJ (N.kind==3) false (by rw[g];rfl)<|ZC (λe b h=>s e z w.heap.size b (v.below b) b.size) λo=>ZV (Le (Mp R o)) (λe b h=>⟨o,rfl,b,λu l k2=>(h u l k2).2.mono p⟩)
def s9(w:YM)(V:YI)(h:Int)(Pk:List Nat->Prop):Prop:=∀b N1,Below w.heap.size w b->N1<=b.heap.size->Ca 54 #[V,.int .i64 h] b (K4 b (λz:rG Pk=> .slice z.1.1 z.2.1.length z.1.2) λz u=>K6 u N1 3 1 z.1.1 z.2.1.length z.1.2 (z.2.1.flatMap aV))
structure pi(w:YM)(S:Sc)(gn go c:Nat)(R:Rc)(A:Nat->Px->Prop)(E:Px->Prop)(ks:List Nat):Prop where
 le:ks.length<=8
 st:∀(j k:Nat),ks[j]? =some k->Wd 53 S (some ⟨gn,go,none⟩,c) R k w (A j) (A (j+1))
 en:A ks.length=E
theorem GP{wI:Int}{Pk:List Nat->Prop}(hR:O4 R)(X:Py w S gn go c nl)(H:wI= -1\/∃(i:Nat) (N:Nd) (q:ND),wI=i/\nl[i]? =some (N,q)/\N.ko=false)(hK:s9 w (Sb S gn go c) wI Pk)(P:∀b,Pk b->pi w S gn go c R A E b)(hd:Xm w R (A 0) z)(hN:N0<=w.heap.size):
 Ca 46 #[Sb S gn go c,.int .i64 wI,Le (Mp R z)] w (K4 w (λz:YZ=>Le (Mp R z)) λz1 u=>D4 N0 R (A 0) E z z1 u):=by
 rcases H with H|⟨i,N,q,H,W,Q⟩
 case' inl=>
  subst H;refine uf func46 rfl<|ZR<|ZI false ?_
 case' inr=>
  subst H;have hl:=(X.at_ W).2.1;refine uf func46 rfl<|ZS 3<|YE 19 ((i:Int)>=0) I<|ZA (Kd 24 (.slice (some ⟨gn,go,none⟩) S.nds.length c) i) (.pointer (some ⟨gn,go+i*47,none⟩)) (λg f h=>Li hl)<|ZA (Ke 4 ⟨gn,go+i*47+32,none⟩) (.bool N.ko) (λg f h=>Kh O (L5 f (X.cell (j:=32) W rfl)))<|ZJ (N.ko) false (Q) ?_
 all_goals
  refine ZC (λg f h=>hK g w.heap.size f f.size) λb=> ?_
  obtain⟨B,b,L⟩:=b;have J:=P b L;have h8:=J.le;refine uj (ι:={s:Nat×(YZ) // s.1<=b.length}) 74 (λs=>⟨[(3,.p 3 0),(5,.p 5 0),(6,.p 6 0),vV 7 (.func (.func 53) #[Sb S gn go c] #[]),vS 62 B.1 b.length B.2,vI 63 (b.length:Nat),vI 64 (s.1.1:Nat)],[(3,(W0 S gn go c).map .v),(5,(Ob (Mp R s.1.2)).map .v),(6,(Ob T9).map .v)]⟩) (λs u=>K6 u w.heap.size 3 1 B.1 b.length B.2 (b.flatMap aV)/\D4 w.heap.size R (A 0) (A s.1.1) z s.1.2 u) (λs=>b.length-s.1.1) (⟨(0,z),AC _⟩) O Zf Zt (λu h=>⟨h.2,vM⟩) ?_;rintro⟨⟨j,y⟩,U⟩ gg;have U:j<=b.length:=U
  by_cases l:j<b.length
  case neg=>
   obtain rfl:j=b.length:=I
   refine ZR<|YN ((b.length:Int)<(b.length:Int))<|ug O<|ZR<|ZV (Le (Mp R y)) (λg f h=>⟨y,rfl,f,λu k1 k2=>by rw[<-J.en];exact(h u k1 k2).2.mono hN⟩)
  obtain⟨k,T⟩:∃v,b[j]? =some v:=⟨_,AA l⟩
  have M:=J.st j k T;refine um (p:=∃gq,B.1=some ⟨gq,0,none⟩) (λg f h=>by obtain⟨gq,Y,_⟩:=h.1.cells I;exact⟨gq,Y⟩) O (λwJ=> ?_);obtain⟨gq,wJ⟩:=wJ;obtain⟨zA,Z⟩:=B;obtain rfl:zA=some ⟨gq,0,none⟩:=wJ;refine ZR<|YL ((j:Int)<(b.length:Int))<|ZA (Kd 58 (.slice (some ⟨gq,0,none⟩) b.length Z) j) (.pointer (some ⟨gq,j*1,none⟩)) (λg f h=>Kc (elem:=3) O O l)<|ZA (Ke 3 ⟨gq,j*1,none⟩) (.int .i64 (k:Int)) (λg f h=>Kh O (by obtain⟨_,e,t⟩:=h.1.cells I;injection e with e;injection e with e;subst e;exact t _ _ (Mr JF _ j k 0 _ T rfl)))<|ZC (λg f h=>M g y w.heap.size f (h.2.get (hd.below f)) f.size) λx=>YA 64 j l<|ui (⟨(j+1,x),l⟩) O Zn Zt (λu h=>⟨h.1.1,h.1.2.trans h.2⟩)
theorem mZ{Pk:List Nat->Prop}(Z:O4 R)(Y:Py w S gn go c nl)(X:nl[i]? =some (N,q))(Q:N.ko=true)(hK:s9 w (Sb S gn go c) i Pk)(P:∀b,Pk b->pi w S gn go c R (λ_=>D) D b)(hm:∀b,Pk b->∀k∈b,sI 55 S gn go c R k w K)(hE:∀p q k,Nm D p->Nm D q->k<=255->K k->Nm D (p.lerp q k))(T:Xm w R D z)(hN:N0<=w.heap.size):
 Ca 46 #[Sb S gn go c,.int .i64 i,Le (Mp R z)] w (K4 w (λz:YZ=>Le (Mp R z)) λz1 u=>D4 N0 R D D z z1 u):=by
 have hl:=(Y.at_ X).2.1;refine uf func46 rfl<|ZS 3<|YE 19 ((i:Int)>=0) I<|ZA (Kd 24 (.slice (some ⟨gn,go,none⟩) S.nds.length c) i) (.pointer (some ⟨gn,go+i*47,none⟩)) (λg f h=>Li hl)<|ZA (Ke 4 ⟨gn,go+i*47+32,none⟩) (.bool N.ko) (λg f h=>Kh O (L5 f (Y.cell (j:=32) X rfl)))<|ZJ (N.ko) true (Q)<|ZC (λg f h=>hK g w.heap.size f f.size) λb=> ?_
 obtain⟨B,b,H⟩:=b;have U:=P b H;have L:=hm b H;have h8:=U.le;refine uj (ι:={s:Nat×(YZ) // s.1<=b.length}) 74 (λs=>⟨[(3,.p 3 0),(5,.p 5 0),(6,.p 6 0),(8,.p 8 0),vV 7 (.func (.func 53) #[Sb S gn go c] #[]),vS 32 B.1 b.length B.2,vI 33 (b.length:Nat),vI 34 (s.1.1:Nat)],[(3,(W0 S gn go c).map .v),(5,(Ob (Mp R z)).map .v),(6,(Ob T9).map .v),(8,(Ob (Mp R s.1.2)).map .v)]⟩) (λs u=>K6 u w.heap.size 3 1 B.1 b.length B.2 (b.flatMap aV)/\D4 w.heap.size R D D z s.1.2 u) (λs=>b.length-s.1.1) (⟨(0,z),AC _⟩) O Zf Zt (λu h=>⟨h.2,vM⟩) ?_;rintro⟨⟨j,y⟩,W⟩ gg;have W:j<=b.length:=W
 by_cases l:j<b.length
 case neg=>
  obtain rfl:j=b.length:=I
  refine ZR<|YN ((b.length:Int)<(b.length:Int))<|ug O<|ZR<|ZV (Le (Mp R y)) (λg f h=>⟨y,rfl,f,λu k1 k2=>(h u k1 k2).2.mono hN⟩)
 obtain⟨k,J⟩:∃v,b[j]? =some v:=⟨_,AA l⟩
 have M:=U.st j k J;have wI:=L k (AE J);refine um (p:=∃gq,B.1=some ⟨gq,0,none⟩) (λg f h=>by obtain⟨gq,h1,_⟩:=h.1.cells I;exact⟨gq,h1⟩) O (λwJ=> ?_);obtain⟨gq,wJ⟩:=wJ;obtain⟨zA,zc⟩:=B;obtain rfl:zA=some ⟨gq,0,none⟩:=wJ;refine ZR<|YL ((j:Int)<(b.length:Int))<|ZA (Kd 58 (.slice (some ⟨gq,0,none⟩) b.length zc) j) (.pointer (some ⟨gq,j*1,none⟩)) (λg f h=>Kc (elem:=3) O O l)<|ZA (Ke 3 ⟨gq,j*1,none⟩) (.int .i64 (k:Int)) (λg f h=>Kh O (by obtain⟨_,e,t⟩:=h.1.cells I;injection e with e;injection e with e;subst e;exact t _ _ (Mr JF _ j k 0 _ J rfl)))<|ZC (λg f h=>wI g w.heap.size f f.size) λm=>ZC (λg f h=>M g z w.heap.size f (T.below f) f.size) λx=>ZC (λg f h=>SD (N:=w.heap.size) Z (h.1.1.2.get (T.below f)) (h.2.get (T.below f)) h.1.2.a hE f.size) λo=>YA 34 j l<|ui (⟨(j+1,o),l⟩) O Zn Zt (λu h=>⟨h.1.1.1.1,.inr h.2⟩)
end
section
variable{w u:YM}{R:Rc}{S:Sc}{N0:Nat}{y0:YZ}{D E:Px->Prop}{z:YZ}{x y:Int}
theorem WC(c:O4 R):Ca 52 #[R.V] w (CU w (.bool true)):=by
 have k:=c.x;have m:=c.y;have l:=c.W;have o:=c.H;have g:Lf (R.x*256) (R.y*256)=true:=by unfold Lf;simp only[AK,decide_eq_true_eq];omega
 have e:Lf ((R.x+R.W)*256) ((R.y+R.H)*256)=true:=by unfold Lf;simp only[AK,decide_eq_true_eq];omega
 exact uf func52 rfl<|ZR<|uh 9 (pt (XQ.wrap (R.x*256)) (XQ.wrap (R.y*256))) (pt (R.x*256) (R.y*256)) O (by rw[AD _ I,AD _ I])<|ZC (λj f h=>Mg (X:=R.x*256) (Y:=R.y*256) (B:=true) g) λa=>uh 18 (pt (XQ.wrap ((R.x+R.W)*256)) (XQ.wrap ((R.y+R.H)*256))) (pt ((R.x+R.W)*256) ((R.y+R.H)*256)) O (by rw[AD _ I,AD _ I])<|ZC (λj f h=>Mg (X:=(R.x+R.W)*256) (Y:=(R.y+R.H)*256) (B:=true) e) λb=>ZW (.bool true)
theorem fU(c:RC w S y0):Ca 51 #[De S y0,.int .i64 (-1),.bool true] w (CU w (.int .i64 0)):=uf func51 rfl<|ZR<|ZC (λe b h=>c e b) λv=>ZI false<|ZI false<|ZW (.int .i64 0)
theorem fE(g:RC w S y0)(e:O4 R)(j:Xm w R D z):Ca 45 #[De S y0,.int .i64 (-1),Le (Mp R z),.bool true] w (CU w (.int .i64 0)):=uf func45 rfl<|ZR<|ZC (λf c h=>fU (g.below c)) λv=>ZI false<|ZC (λf c h=>V3 e (.row z D (j.below c))) λb=>ZI false<|ZC (λf c h=>WC e) λr=>ZI false<|ZW (.int .i64 0)
theorem kR(f:O4 R)(g:Xm w R D z)(e:N0<=w.heap.size):Ca 47 #[Le (Mp R z)] w (K4 w (λz:YZ=>Le (Mp R z)) λz u=>Ag N0 R D z u):=by
 refine uf func47 rfl<|ZR<|ZC (λj b h=>mJ (N:=w.heap.size) f (g.below b) b.size) λo=>ZV (Le (Mp R o)) (λj b h=>⟨o,rfl,b,λu c k2=>Ag.mono (h u c k2).2 e⟩)
theorem D4.toQ{b:YZ}(h:D4 N0 R D E z b u)(c:Ag N0 R D z u):Ag N0 R E b u:=by
 rcases h with ⟨rfl,h⟩|h
 .exact c.imp λp f e=>(h p ⟨f,e⟩).2
 .exact h
theorem pB(l:RC w S y0)(f:O4 R)(g:Xm w R D z)(j:Wd 46 S y0 R (-1) w D E)(k:N0<=w.heap.size):
 Ca 32 #[De S y0,.int .i64 (-1),Le (Mp R z)] w (K4 w (λz:YZ=> .tuple #[Le (Mp R z),.int .i64 0]) λz u=>Ag N0 R E z u):=by
 refine uf func32 rfl<|ZR<|ZC (λc b h=>fE (l.below b) f (g.below b)) λv=>ZI false<|ZI false<|ZC (λc b h=>kR (N0:=w.heap.size) f (g.below b) b.size) λcl=>ZC (λc b h=>j c cl w.heap.size b h.2.toP b.size) λo=>ZV (.tuple #[Le (Mp R o),.int .i64 0]) (λc b h=>⟨o,rfl,b,λu e k2=>((h u e k2).2.toQ (h u e k2).1.2).mono k⟩)
theorem PN(c:RC w S y0):Ca 13 #[De S y0] w (CU w (Pw 0 0 S.w S.h)):=uf func13 rfl<|ZR<|ZC (λe b h=>c e b) λv=>ZI false<|ZW (Pw 0 0 S.w S.h)
structure sh(S:Sc)(R:Rc):Prop where
 x:0<=R.x/\R.x+R.W<=S.w
 y:0<=R.y/\R.y+R.H<=S.h
 w:S.w<=256
 h:S.h<=256
theorem eV(m:RC w S y0)(l:O4 R)(o:sh S R)(wI:D (Td S.bg).pre)(B:Wd 46 S y0 R (-1) w D E)(F:N0<=w.heap.size):
 Ca 12 #[De S y0,R.V] w (K4 w (λz:YZ=> .tuple #[Le (Mp R z),.int .i64 0]) λz u=>Ag N0 R E z u):=by
 have L:=o.x;have P:=o.y;have ow:=o.w;have Q:=o.h;have J:=l.W;have M:=l.H;have t:Nm D (Td S.bg).pre:=⟨⟨vG (By S.bg),(By S.bg).pre⟩,wI⟩
 have s:Hy 0 0 S.w S.h:=by unfold Hy;omega
 refine uf func12 rfl<|ZR<|ZC (λj b h=>m j b) λv=>ZI false<|ZC (λj b h=>Sz l.r.in_) λr=>ZI false<|ZC (λj b h=>PN (m.below b)) λp=>ZC (λj b h=>Hk (e:=R.x) (f:=R.y) (g:=R.x+R.W) (k:=R.y+R.H) l.r s (by rw[S6];omega) (by rw[S6];omega) (by rw[S7];omega) (by rw[S7];omega) l.r) λK=>ZC (λj b h=>C1 (c:=Td S.bg) (By S.bg)) λcl=>ZC (λj b h=>OV (N:=w.heap.size) l t b.size) λZ=>ZI false<|ZC (λj b h=>pB (N0:=w.heap.size) (m.below b) l h.2.toP (B.below b) b.size) λA=>ZV (.tuple #[Le (Mp R A),.int .i64 0]) (λj b h=>⟨A,rfl,b,λu G k2=>Ag.mono (h u G k2).2 F⟩)
theorem VF(f:RC w S y0)(l:O4 R)(m:R.V=Pw 0 0 S.w S.h)(o:sh S R)(s:D (Td S.bg).pre)(j:Wd 46 S y0 R (-1) w D E)(k:N0<=w.heap.size):
 Ca 6 #[De S y0] w (K4 w (λz:YZ=> .tuple #[Le (Mp R z),.int .i64 0]) λz u=>Ag N0 R E z u):=by
 have e:∀{c:YM},RC c S y0->Ca 13 #[De S y0] c (CU c R.V):=λh=>by rw[m];exact PN h
 refine uf func6 rfl<|ZR<|ZC (λc b h=>e (f.below b)) λp=>ZC (λc b h=>eV (N0:=w.heap.size) (f.below b) l o s (j.below b) b.size) λr=>ZV (.tuple #[Le (Mp R r),.int .i64 0]) (λc b h=>⟨r,rfl,b,λu g k2=>Ag.mono (h u g k2).2 k⟩)
theorem dU{p:Px}(g:RC w S y0)(f:O4 ⟨x,y,1,1⟩)(o:sh S ⟨x,y,1,1⟩)(B:D (Td S.bg).pre)(m:Wd 46 S y0 ⟨x,y,1,1⟩ (-1) w D (λq=>q=p)):
 Ca 10 #[De S y0,.int .i64 x,.int .i64 y] w (CU w (.tuple #[Ls p,.int .i64 0])):=by
 have K:0<=x/\x+((1:Nat):Int)<=S.w:=o.x;have J:0<=y/\y+((1:Nat):Int)<=S.h:=o.y;have ow:=o.w;have G:=o.h;have j:Hy 0 0 S.w S.h:=by unfold Hy;omega
 have l:∀{b:YM} {z:YZ},Xm b ⟨x,y,1,1⟩ (λq=>q=p) z->Ca 25 #[Le (Mp ⟨x,y,1,1⟩ z),.int .i64 x,.int .i64 y] b (CU b (Ls p)):=λs=>(qy f f.in0 s).mono λe Z k=>by
  obtain⟨q,t,k2,_⟩:=k;have A:q.1=p:=q.2.2;exact⟨(),by rw[t];show Ending.returned (Ls q.1)=Ending.returned (Ls p);rw[A],k2,Zv⟩
 exact uf func10 rfl<|ZR<|ZC (λb c h=>g b c) λv=>ZI false<|ZC (λb c h=>PN (g.below c)) λF=>ZC (λb c h=>TJ (x:=x) (y:=y) j ⟨by omega,by omega⟩ ⟨by omega,by omega⟩) λH=>uu false O<|ZS 7<|YB 26 (x+1) (x+((1:Nat):Int))<|YC 28 (y+1) (y+((1:Nat):Int))<|ZC (λb c h=>eV (R:=⟨x,y,1,1⟩) (N0:=w.heap.size) (g.below c) f o B (m.below c) c.size) λr=>ZI false<|ZC (λb c h=>l h.2.toP) λa=>ZW (.tuple #[Ls p,.int .i64 0])
end
def Ai(co:Co):Pn:=⟨1,co,0,0,0,0,0,[],0,cM,0,Qt⟩
theorem ai(co:Co):Lu (Ai co)=true:=O
section
variable{w u:YM}{K:Nat}{N:Nd}{co:Co}
theorem nw{g:Nat}(h:Kw 92 #[.int .u32 1] g u):In u (some ⟨g,0,none⟩) 1 1 [1]:=⟨Oq.one I,rfl,AL _,by unfold maxLen;omega,Mc (n:=1) (s:=1) h rfl⟩
def PL(g:Nat):SV:=⟨false,some ⟨g,0,none⟩,1,1,[1]⟩
theorem PQ{g:Nat}(h:Kw 92 #[.int .u32 1] g u):Sx (PL g) 1 1 u:=⟨nw h,rfl,AL _⟩
theorem TF:Ca 39 #[.int .u32 1] w (K4 w RV.val λr u=>Nf r ((1:Int):Rat) 1 u):=by
 refine uf func39 rfl<|ZR<|uk (Lr 49 1 #[(0,.int .u32 1)]) (Kr 1) (Kw 92 #[.int .u32 1]) O (λj c h=>Kj O) λf=>ZR<|ZI true<|uk (Lr 49 1 #[(0,.int .u32 1)]) (Kr 1) (Kw 92 #[.int .u32 1]) O (λj c h=>Kj O) λg=>ZR<|ZV (RV.val ⟨PL g,PL f⟩) (λj c h=>⟨⟨PL g,PL f⟩,rfl,c,λb e k2=>⟨1,1,PQ ((h b e k2).2),PQ ((h b e k2).1.2),by decide⟩⟩)
theorem G9:Ca 39 #[.int .u32 0] w (K4 w RV.val λr u=>Nf r ((0:Int):Rat) 1 u):=by
 refine uf func39 rfl<|ZR<|uk (Lr 49 1 #[(0,.int .u32 1)]) (Kr 1) (Kw 92 #[.int .u32 1]) O (λg e h=>Kj O) λc=>ZR<|ZI false<|ZV (RV.val ⟨sz,PL c⟩) (λg e h=>⟨⟨sz,PL c⟩,rfl,e,λb f k2=>⟨0,1,⟨vh,rfl,AC _⟩,PQ ((h b f k2).2),by decide⟩⟩)
theorem UM:Ca 26 #[] w (K4 w TV.val λt u=>S3 t P7 1 u):=by
 refine uf func26 rfl<|ZR<|ZC (λl j h=>TF) λa=>ZC (λl j h=>G9) λb=>ZC (λl j h=>G9) λc=>ZC (λl j h=>TF) λd=>ZC (λl j h=>G9) λe=>ZC (λl j h=>G9) λf=>ZV (TV.val ⟨a,b,c,d,e,f⟩) (λl j h=>⟨⟨a,b,c,d,e,f⟩,rfl,j,λg k k2=>⟨((h g k k2).1.1.1.1.1.2),((h g k k2).1.1.1.1.2),((h g k k2).1.1.1.2),((h g k k2).1.1.2),((h g k k2).1.2),((h g k k2).2)⟩⟩)
def qX:List Sg:=[⟨1,256,0,0,0,0,0⟩,⟨2,512,0,0,0,0,0⟩,⟨2,512,256,0,0,0,0⟩,⟨2,256,256,0,0,0,0⟩,⟨5,0,0,0,0,0,0⟩]
theorem kL:Ca 27 #[.int .i64 1,.int .i64 2] w (K4 w (λg:Nat=> .slice (some ⟨g,0,none⟩) 5 5) λg u=>Sa u (some ⟨g,0,none⟩) 5 qX):=by
 refine uf func27 rfl<|ZR<|uk (Lr 56 5 #[(0,(Sg.mk 1 256 0 0 0 0 0).val),(1,(Sg.mk 2 512 0 0 0 0 0).val),(2,(Sg.mk 2 512 256 0 0 0 0).val),(3,(Sg.mk 2 256 256 0 0 0 0).val),(4,(Sg.mk 5 0 0 0 0 0 0).val)]) (Kr 5) (Kw 87 (qX.flatMap Sg.cl).toArray) O (λf c h=>Kj O) λg=>ZR<|ZV (.slice (some ⟨g,0,none⟩) 5 5) (λf c h=>⟨g,rfl,c,λb e k2=>Kk.lit (s:=7) (cl:=Sg.cl) (λ_=>rfl) ((h b e k2).2)⟩)
def Ti:Co:=(255,255,255,255)
def e7:Nd:=⟨1,1,0,P7,[],0,128,1,true,false,[],0,[],⟨0,0,0,0,[],0⟩,[],cM,0⟩
def lL:Nd:=⟨2,2,1,P7,[],0,0,0,false,false,qX,1,[Ai Ti],⟨0,0,0,0,[],0⟩,[],cM,0⟩
def gd(t:TV):ND:=⟨t,none,0,none,0,none,0,[],none,0,none,0,[],none,0⟩
def WF(t:TV)(b gf:Nat):ND:=⟨t,none,0,some ⟨b,0,none⟩,5,some ⟨gf,0,none⟩,1,[(Ai Ti,gR)],none,0,none,0,[],none,0⟩
def Zh:Sc:=⟨2,1,(0,0,0,255),[e7,lL]⟩
structure td where
 t:TV
 s:TV
 gp:Nat
 gf:Nat
 gn:Nat
def lG(r:td):List (Nd×ND):=[(e7,gd r.t),(lL,WF r.s r.gp r.gf)]
theorem l8:W6 Zh=true:=O
theorem Sa.nil0:Sa u none 0 []:=⟨rfl,λk x b=>by cases b⟩
theorem X5.nil0:X5 u none [] K []:=⟨rfl,Kk.nil0,λx b=>by cases b⟩
theorem Jp.sol:Jp (Ai co) gR K u:=⟨Kk.nil0,Kk.nil0,S3.zero⟩
theorem kV(x:Pn×PM):(HU x).length=40:=by simp[HU,OC,u_]
theorem jl(x:Nd×ND):(Es x.1 x.2).length=47:=by simp[Es,u_]
theorem X5.one{g:Nat}(h:Kw 77 ([(Ai co,gR)].flatMap HU).toArray g u):X5 u (some ⟨g,0,none⟩) [(Ai co,gR)] K [Ai co]:=
 ⟨rfl,Kk.lit kV h,λx b=>by obtain rfl:=AB.1 b;exact Jp.sol⟩
theorem WV:Ca 11 #[] w (K4 w (λr:td=>Sb Zh r.gn 0 2) λr u=>Jq u (some ⟨r.gn,0,none⟩) (lG r) 8 Zh.nds):=by
 refine uf func11 rfl<|ZR<|ZC (λg e h=>UM) λt=>ZC (λg e h=>UM) λs=>ZC (λg e h=>kL) λk=>uk (Lr 57 1 #[(0,KH (Ai Ti) gR)]) (Kr 1) (Kw 77 ([(Ai Ti,gR)].flatMap HU).toArray) O (λg e h=>Kj O) λgf=>ZR<|uk (Lr 24 2 #[(0,GE e7 (gd t)),(1,GE lL (WF s k gf))]) (Kr 2) (Kw 64 ([(e7,gd t),(lL,WF s k gf)].flatMap λx=>Es x.1 x.2).toArray) O (λg e h=>Kj O) λgn=>ZR ?_
 have m:∀u,((S3 t P7 1 u/\S3 s P7 1 u)/\Sa u (some ⟨k,0,none⟩) 5 qX)/\X5 u (some ⟨gf,0,none⟩) [(Ai Ti,gR)] 8 [Ai Ti]->∀x∈lG ⟨t,s,k,gf,gn⟩,Xo x.1 x.2 8 u:=λu ⟨⟨⟨a,b⟩,d⟩,f⟩ x l=>by
  rcases BA.1 l with rfl|l
  .exact⟨a.mono Zd,.nil0,.nil0,.nil0,Kk.nil0,.nil0,Kk.nil0⟩
  .obtain rfl:=AB.1 l;exact⟨b.mono Zd,.nil0,d,f,Kk.nil0,.nil0,Kk.nil0⟩
 refine ZV (Sb Zh gn 0 2) (λg e h=>⟨⟨t,s,k,gf,gn⟩,rfl,e,λc j k2=>⟨rfl,Kk.lit jl ((h c j k2).2),m c ⟨⟨⟨(h c j k2).1.1.1.1.2,(h c j k2).1.1.1.2⟩,(h c j k2).1.1.2⟩,.one ((h c j k2).1.2)⟩⟩⟩)
theorem Nl:P7.ok=true:=O
variable{r:td}
theorem tG:P7.comp P7=P7:=O
theorem Jr.sol(j:N.clip.length<=24)(h:N.path.length<=24)(e:N.sty.d=[])(k:N.im.px=[])(f:∀P∈N.fill,∃co,P=Ai co)(c:N.stroke=[])(m:N.fill.length<=1):Jr N:=
 have l:∀P∈N.stroke,P.im.px.length<=9223372036854775807/\P.stops.length<=9223372036854775807:=λP b=>absurd b (by rw[c];exact AF)
 have g:∀P∈N.fill,P.im.px.length<=9223372036854775807/\P.stops.length<=9223372036854775807:=λP b=>by
  obtain⟨co,rfl⟩:=f P b;simp[Ai,cM]
 {cl:=AH j Zd,pa:=AH h Zd,da:=by simp[e],px:=by simp[k],fi:=g,st:=l,fn:=AH m Zd,sn:=by simp[c]}
theorem iz:Jr e7:= .sol Zd Zd rfl rfl (λP b=>absurd b AF) rfl Zd
theorem k9:Jr lL:= .sol Zd Zd rfl rfl (λP b=>⟨Ti,AB.1 b⟩) rfl Zd
theorem fW:pW Zh.nds:=λN b=>by
 rcases BA.1 b with h|b
 .rw[h];exact iz
 .rw[AB.1 b];exact k9
theorem VG:∀(l:List N7),(∀T∈l,T=P7)->l.foldl N7.comp P7=P7
 | [],_=>rfl
 |x::t,h=>by
  rw[List.foldl_cons,h x (BB ..),tG];exact VG t λT b=>h T (BE _ b)
theorem ed:∀(l:List N7),(∀T∈l,T=P7)->I3 P7 l=true
 | [],_=>rfl
 |x::t,h=>by
  unfold I3;rw[h x (BB ..),tG,Nl,ed t λT b=>h T (BE _ b)]
  rfl
theorem oE{Ts:List N7}(h:jr Zh Ts):∀T∈Ts,T=P7:=λT c=>by
 obtain⟨N,b,rfl⟩:=h T c;rcases BA.1 b with rfl|b
 .rfl
 .obtain rfl:=AB.1 b;rfl
theorem SK{Ts:List N7}(h:jr Zh Ts):Mn Ts=0/\O2 Ts=P7:=by
 have b:=oE h;refine⟨?_,VG Ts b⟩;unfold Mn;have e:Ts.all N7.ok=true:=BD.2 λT c=>by rw[b T c];exact Nl
 rw[e,ed Ts b];rfl
abbrev gV:Rc:=⟨1,0,1,1⟩
theorem Ax:O4 gV:=⟨by decide,by decide,by decide,by decide⟩
abbrev GQ:Nat->Prop:=λk=>k=255
theorem mM:E8 (Q7 P7 qX).1 1 1 0=255:=O
theorem rE:pL Zh gV lL GQ where
 none:=λh=>by cases h
 some:=λ_ Ts b=>by
  obtain⟨e,c⟩:=SK b;refine⟨?_,λx y hi=> ?_⟩
  .unfold SM;split;exact AH (Zg Zd) Zd;exact AC _
  .unfold Rc.In at hi;obtain rfl:x=1:=by simp only at hi;omega
   obtain rfl:y=0:=by simp only at hi;omega
   unfold SM;rw[YS (by unfold X_;rw[e];rfl),c];exact mM
theorem oG:eM Zh gV lL GQ:=⟨λ_=>rfl,λh=>absurd rfl h⟩
theorem pu:eM Zh gV e7 GQ:=⟨λ_=>rfl,λh=>absurd rfl h⟩
def iY:Px:=⟨128,128,128,255⟩
abbrev bN:Px:=⟨0,0,0,0⟩
def VT:Px:=(Td Ti).pre.blend bN 255
theorem mP:VT.blend (Td Zh.bg).pre (Al 255 e7.op.toNat)=iY:=O
theorem nc:Nm (λp=>p=VT) VT:=⟨⟨vi _ _,vA _ _⟩,rfl⟩
theorem rn(w:YM):KO w Zh gV false (λp=>p=(Td Ti).pre) GQ (Ai Ti) gR (λp=>p=bN) (λp=>p=VT)where
 br:=gA Ax Jp.sol ⟨λ_=>rfl,λh=>absurd rfl h⟩ (.inl (ai Ti)) (λh=>absurd rfl h) Zd
 bl:=λs d k j c f g e=>by
  obtain rfl:s=(Td Ti).pre:=c;obtain rfl:d=bN:=f.2;obtain rfl:k=255:=e;exact nc
 er:=nofun
 tr:= .inr λTs b=>(SK b).1
theorem ke:Zq Zh 0 Zh.nds.length 0=[0]:=Zd
theorem jh{e:Nat}(h:nH Zh 0 e):Zq Zh 1 e (Ch Zh 0+1)=[1]:=by
 have c:=h.lt;have b:e<=2:=h.le;rcases(by omega:e=1\/e=2)with rfl|rfl
 .exact absurd (show Ch Zh 1>Ch Zh 0 by decide) (h.stop Zd)
 .decide
def ZF(a b:Px)(j:Nat)(p:Px):Prop:=p=if j=0 then a else b
theorem cY(v:Py w Zh r.gn 0 2 (lG r)):Wd 53 Zh (some ⟨r.gn,0,none⟩,2) gV (1:Nat) w (ZF bN VT 0) (ZF bN VT 1):=λk z N1 o y l=>by
 have c:=v.below o;have h:(lG r)[1]? =some (lL,WF r.s r.gp r.gf):=rfl;refine TW (A:=ZF bN VT) Ax c h rfl (λj P p f=> ?_) (λj P p f=>by cases f) y l;obtain rfl:j=0:=by have:=(AN.1 f).1;simp[WF]at this;exact this
 have e:(Ai Ti,gR)=(P,p):=by simpa[WF]using f
 injection e with e1 e2;subst e1;subst e2;exact⟨false,λp=>p=(Td Ti).pre,GQ,λB N2 g x=>UY (K1:=GQ) (K2:=GQ) (K3:=GQ) Ax (c.below g) h rfl rE oG (λa b _ _ m t=>by rw[show a=255 from m,show b=255 from t];decide) x,rn k⟩
theorem gP(p:Py w Zh r.gn 0 2 (lG r)):Wd 46 Zh (some ⟨r.gn,0,none⟩,2) gV (0:Nat) w (ZF bN VT 0) (ZF bN VT 1):=λx z N1 o v l=>by
 have b:=p.below o;exact GP (A:=ZF bN VT) (Pk:=λg=>g=[1]) Ax b (.inr ⟨0,e7,gd r.t,rfl,rfl,rfl⟩) (λy N2 c s=>If (b.below c) (.inr ⟨0,rfl,by decide,λe m=>jh m⟩) s) (λg h=>by subst h;exact⟨by decide,λj k f=>by
  obtain rfl:j=0:=by have:=(AN.1 f).1;simpa using this
  obtain rfl:1=k:=by simpa using f
  exact cY b,rfl⟩) v l
theorem b_(D:Py w Zh r.gn 0 2 (lG r)):Wd 53 Zh (some ⟨r.gn,0,none⟩,2) gV (0:Nat) w (ZF (Td Zh.bg).pre iY 0) (ZF (Td Zh.bg).pre iY 1):=λH z N1 A F x=>by
 have b:=D.below A;have l:(lG r)[0]? =some (e7,gd r.t):=rfl;refine MI b l rfl (λJ M N2 h g E=> ?_) F x;have f:=b.below h;refine OD (K:=GQ) (K2:=λk=>k=Al 255 e7.op.toNat) (D1:=ZF bN VT 0) (G:=ZF bN VT 1) Ax f l (.inl rfl) Zd pu (λa _ y=>by rw[show a=255 from y]) ⟨⟨rfl,by decide,by decide,by decide,by decide⟩,rfl⟩ g (gP f) (λZ s d k B o c v j=> ?_) E;obtain rfl:s=VT:=o.2;obtain rfl:d=(Td Zh.bg).pre:=c.2;obtain rfl:k=Al 255 e7.op.toNat:=j;refine(Jg o.1.2 c.1.2 v).mono λe L p=> ?_
 obtain⟨_,m,k2,_⟩:=p;rw[mP]at m;exact⟨⟨iY,⟨rfl,by decide,by decide,by decide,by decide⟩,rfl⟩,m,k2,Zv⟩
theorem jA(m:Py w Zh r.gn 0 2 (lG r)):Wd 46 Zh (some ⟨r.gn,0,none⟩,2) gV (-1) w (ZF (Td Zh.bg).pre iY 0) (λq=>q=iY):=λs z N1 l p h=>by
 have b:=m.below l;exact GP (A:=ZF (Td Zh.bg).pre iY) (Pk:=λf=>f=[0]) Ax b (.inl rfl) (λt N2 c o=>If (b.below c) (.inl ⟨rfl,ke⟩) o) (λf g=>by subst g;exact⟨by decide,λj k e=>by
  obtain rfl:j=0:=by have:=(AN.1 e).1;simpa using this
  obtain rfl:0=k:=by simpa using e
  exact b_ b,by funext q;rfl⟩) p h
theorem s7:sh Zh gV:=⟨by decide,by decide,by decide,by decide⟩
theorem Is(c:ET w):Ca 5 #[] w (CU w (.bool true)):=uf func5 rfl<|ZR<|ZC (λe b h=>WV) λr=>ZC (λe b h=>dU (x:=1) (y:=0) (p:=iY) (D:=ZF (Td Zh.bg).pre iY 0) (Py.sv ⟨c.below b,h.2,fW,l8,by decide⟩) Ax s7 rfl (jA ⟨c.below b,h.2,fW,l8,by decide⟩)) λv=>ZW (.bool true)
end
def Zu(o:Bool)(p:Px):Prop:=o=true->p.a=255
theorem dY{o:Bool}{s d:Px}{k:Nat}(c:s.ok)(g:Nm (Zu o) d)(b:k<=255):Nm (Zu o) (s.blend d k):=⟨⟨vi _ _,vA _ _⟩,λe=>by
 show R9 (s.scale k).clamp.a d.clamp.a=255;have f:d.clamp.a=255:=by show min d.a d.a=255;rw[Nat.min_self];exact g.2 e
 rw[f];exact LE (c.scale b).clamp.a⟩
theorem TT{o:Bool}{p q:Px}{k:Nat}(c:Nm (Zu o) p)(b:Nm (Zu o) q)(e:k<=255):Nm (Zu o) (p.lerp q k):=by
 have h:=vH e (⟨c.1.1,c.1.2,c.2⟩:p.fineO o) ⟨b.1.1,b.1.2,b.2⟩;exact⟨⟨h.cl,h.ok⟩,h.op⟩
section
variable{w u:YM}{R:Rc}{S:Sc}{gn go c i N0 N1 n k lo:Nat}{nl:List (Nd×ND)}{N:Nd}{q:ND}{F o:Bool}{C D E G:Px->Prop}{K:Nat->Prop}{z z1 z2:YZ}{m:MV}{A:Nat->Px->Prop}
theorem jX{b:Int}(p:1<=b/\b<=13){t:Bool}:OX w b (Zu t) (Zu o) Kb (Zu o):=λy s d k _ l f g _=>(aG p l.1.2 f.1.2 g).mono λe v j=>by
 obtain⟨x,h,k2,_⟩:=j;exact⟨⟨x.1,x.2.1,λe=>x.2.2 (f.2 e)⟩,h,k2,Zv⟩
theorem RP{P:Pn}{p:PM}(f:O4 R)(j:Jp P p 8 w)(b:P.im.px.length<=9223372036854775807):KO w S R true (λ_=>True) Kb P p (Zu o) (Zu o)where
 br:=gA f j ⟨λ_=>trivial,Zv⟩ (.inr rfl) (λ_=>rfl) b
 bl:=λs d k g _ l e _=>dY g l e
 er:=λ_ p h=>h
 tr:= .inl rfl
def sW(S:Sc)(gn go c:Nat)(nl:List (Nd×ND))(R:Rc)(lo:Nat):Prop:=∀(w:YM) (i:Nat) (o:Bool),lo<=i->i<S.nds.length->Py w S gn go c nl->Wd 53 S (some ⟨gn,go,none⟩,c) R i w (Zu o) (Zu o)
theorem eU{A:YY}{l:List (Pn×PM)}{Ps:List Pn}{j K:Nat}{P:Pn}{p:PM}(h:X5 w A l K Ps)(b:l[j]? =some (P,p)):P∈Ps:=by rw[<-h.eq];exact List.mem_map_of_mem (f:=λx:Pn×PM=>x.1) (AE b)
abbrev pX(S:Sc):Prop:=∀N∈S.nds,nG N
theorem cg(b:O4 R)(h:pX S)(f:Py w S gn go c nl)(hi:i<S.nds.length):sI 55 S gn go c R i w Kb:=λj N1 g e=>je b (s6 b h) (f.below g) hi e
theorem dd{wI:Int}(v:O4 R)(X:pX S)(U:sW S gn go c nl R lo)(P:Py w S gn go c nl)(g:(wI= -1/\lo=0)\/∃i:Nat,wI=i/\i<S.nds.length/\lo=i+1):Wd 46 S (some ⟨gn,go,none⟩,c) R wI w (Zu o) (Zu o):=λy z N1 W J B=>by
 have T:=P.n8;have b:=P.below W;have H:s9 y (Sb S gn go c) wI (λh=>h.length<=8/\∀k∈h,lo<=k/\k<S.nds.length):=λw2 N2 s Q=>by
  rcases g with ⟨g,l⟩|⟨i,g,hi,l⟩
  .exact If (b.below s) (.inl ⟨g,AH Gg T,λk f=>⟨by omega,(Cp f).2⟩⟩) Q
  .exact If (b.below s) (.inr ⟨i,g,hi,λe L=>⟨AH Gg (AH L.le T),λk f=>⟨by have:=(Cp f).1;omega,by have:=(Cp f).2;have:=L.le;omega⟩⟩⟩) Q
 have x:∀h:List Nat,(h.length<=8/\∀k∈h,lo<=k/\k<S.nds.length)->pi y S gn go c R (λ_=>Zu o) (Zu o) h:=λh f=>⟨f.1,λj k M=>U y k o (f.2 k (AE M)).1 (f.2 k (AE M)).2 b,rfl⟩
 rcases g with ⟨g,l⟩|⟨i,g,hi,l⟩
 .exact GP (A:=λ_=>Zu o) v b (.inl g) H x J B
 .obtain⟨N,q,wJ⟩:=b.get hi;cases t:N.ko
  .exact GP (A:=λ_=>Zu o) v b (.inr ⟨i,N,q,g,wJ,t⟩) H x J B
  .subst g;exact mZ v b wJ t H x (λh f k hm=>cg v X b (f.2 k hm).2) (λp q k Z Y f _=>TT Z Y f) J B
theorem o0(l:O4 R)(W:pX S)(hP:sW S gn go c nl R (i+1))(hi:i<S.nds.length)(hS:Py w S gn go c nl):Wd 53 S (some ⟨gn,go,none⟩,c) R i w (Zu o) (Zu o):=λZ z N1 hw Y T=>by
 have b:=hS.below hw;obtain⟨N,q,v⟩:=b.get hi;have x:=AE (b.at_ v).1;have Q:=b.ndk v;have s:=(b.at_ v).2.2;have g:=W N x;have B:=b.few N x;rcases Q.kind with h|h|h
 .refine MI b v h (λM z2 N2 f wI H=> ?_) Y T;have y:=b.below f;have L:∀X,Wd 46 S (some ⟨gn,go,none⟩,c) R i M (Zu X) (Zu X):=λX=>dd l W hP y (.inr ⟨i,rfl,hi,rfl⟩)
  by_cases U:N.iso=false/\N.bl=1
  .exact eh (K:=Kb) (K2:=Kb) l y v U.1 U.2 (LI g) Zv wI (L o) (λp q k hp hq h _=>TT hp hq h) H
  .refine OD (K:=Kb) (K2:=Kb) (D1:=Zu false) l y v ?_ (Q.bl h) (LI g) Zv ⟨⟨rfl,by decide,by decide,by decide,by decide⟩,nofun⟩ wI (L false) (jX (Q.bl h)) H;cases wJ:N.iso
   .exact .inr ⟨rfl,λe=>U ⟨wJ,e⟩⟩
   .exact .inl rfl
 .have hf:∀j P p,q.fl[j]? =some (P,p)->kI 63 Z S gn go c R i P p (Zu o) (Zu o):=λj P p J=>⟨true,λ_=>True,Kb,λM N2 f H=>UY (K1:=Kb) (K2:=Kb) l (b.below f) v h (lR g) (LI g) (λ_ _ _ _ _ _=>trivial) H,RP l (s.fi.rd _ (AE J)) (B.fi P (eU s.fi J)).1⟩
  have hs:∀j P p,q.sl[j]? =some (P,p)->kI 65 Z S gn go c R i P p (Zu o) (Zu o):=λj P p J=>⟨true,λ_=>True,Kb,λM N2 f H=>ka (K2:=Kb) l (b.below f) v h (g.sk h) (LI g) H,RP l (s.st.rd _ (AE J)) (B.st P (eU s.st J)).1⟩
  exact TW (A:=λ_=>Zu o) l b v h hf hs Y T
 .refine jo (F:=true) (C:=λ_=>True) (K:=Kb) l b v h (cg l W b hi) (λM t f ht=>RP l ⟨Kk.nil0,s.px.below f,ht⟩ B.px) Y T
theorem c8(e:O4 R)(f:pX S):∀(d lo:Nat),S.nds.length<=lo+d->sW S gn go c nl R lo
 |0,lo,l=>λw i o j b=>absurd b I
 |d+1,lo,l=>λw i o j b h=>o0 e f (λg s p t=>c8 e f d (lo+1) I g s p I) b h
theorem gI(b:O4 R)(e:pX S)(f:Py w S gn go c nl):Wd 46 S (some ⟨gn,go,none⟩,c) R (-1) w (Zu o) (Zu o):=dd b e (c8 b e S.nds.length 0 I) f (.inl ⟨rfl,rfl⟩)
end
abbrev tX(ls:List Sg):={r:Nat // ((M8 ls<1000->r=M8 ls)/\(r<1000->r=M8 ls))/\r<=1007}
def mY(r:RV):Bool:=decide (r.a.n<=2)&&decide (r.b.n<=2)
def OP(t:TV):Bool:=[t.a,t.b,t.c,t.d,t.e,t.f].all mY
structure pH(x:Nd×ND):Prop where
 cl:M8 x.1.clip<=24
 pa:M8 x.1.path<=24
 px:x.1.im.px.length<=64
 d0:x.1.sty.d.length=0
 t:OP x.2.t=true
 fl:x.2.fl.length<=2/\∀y∈x.2.fl,OP y.2.t=true
 sl:x.2.sl.length<=2/\∀y∈x.2.sl,OP y.2.t=true
 sk:x.1.stroke≠[]->dA x.1.sty*M8 x.1.path<=80
structure pK(x:Nd×ND)(w:YM):Prop where
 cl:Sa w x.2.clA x.1.clip.length x.1.clip/\x.1.clip.length<=9223372036854775807
 pa:Sa w x.2.paA x.1.path.length x.1.path/\x.1.path.length<=9223372036854775807
 fi:Kk w x.2.fiA x.1.fill.length 40 HU x.2.fl/\x.1.fill.length<=9223372036854775807
 st:Kk w x.2.stA x.1.stroke.length 40 HU x.2.sl/\x.1.stroke.length<=9223372036854775807
section
variable{w u:YM}{A:YY}{n c k:Nat}{ls:List Sg}{t:TV}{B:Bool}{co:Co}{N:Nd}{q:ND}{S:Sc}{y:YZ}{nl:List (Nd×ND)}{l:List (Pn×PM)}
theorem pK.below{x:Nd×ND}{e:YM}(h:pK x w)(b:Below w.heap.size w e):pK x e:=⟨⟨h.cl.1.below b,h.cl.2⟩,⟨h.pa.1.below b,h.pa.2⟩,⟨h.fi.1.below b,h.fi.2⟩,⟨h.st.1.below b,h.st.2⟩⟩
theorem VW{s:Sg}(h:ls[k]? =some s):M8 (ls.take (k+1))=M8 (ls.take k)+G0 s:=by
 unfold M8;rw[L7 h,AR,List.sum_append];simp
theorem lh(k:Nat):M8 (ls.take k)<=M8 ls:=by
 have e:M8 ls=M8 (ls.take k)+M8 (ls.drop k):=by
  unfold M8;rw[<-List.sum_append,<-AR,BM]
 omega
theorem cq(s:Sg):1<=G0 s/\G0 s<=8:=by unfold G0;split<;>decide
theorem Rv(G:Sa w A n ls)(M:n<=9223372036854775807):Ca 19 #[.slice A n c] w (K4 w (λr:tX ls=> .int .i64 r.1) λ_ _=>True):=by
 have L:ls.length=n:=G.1;refine uf func19 rfl<|ZR<|uj (ι:={k:Nat // k<=n/\M8 (ls.take k)<=1007}) 34 (λq=>⟨[vS 0 A n c,vI 3 (M8 (ls.take q.1):Int),vI 4 (q.1:Int)],[]⟩) (λ_ _=>True) (λq=>n-q.1) (⟨0,AC _,by show M8 []<=1007;decide⟩) O Zf Zt (λ_ _=>trivial) ?_
 rintro⟨k,E,p⟩ Z;have E:k<=n:=E;have p:M8 (ls.take k)<=1007:=p
 by_cases b:k<n
 case neg=>
  obtain rfl:k=n:=I
  refine ZS 4<|YG 8 ((k:Int)<(k:Int)) I<|ZI false<|ug O<|ZR<|ZV (.int .i64 (M8 (ls.take k):Int)) (λg f h=>⟨⟨M8 (ls.take k),by rw[BJ I];exact⟨λ_=>rfl,λ_=>rfl⟩,p⟩,rfl,f,Zv⟩)
 obtain⟨s,F⟩:=Yg ls k;obtain⟨ad,z,D⟩:=G.2 k s F;have e:=VW F;have J:=lh (ls:=ls) k;have K:=cq s;refine ZS 4<|YE 8 ((k:Int)<(n:Int)) I ?_
 by_cases wI:M8 (ls.take k)<1000
 case neg=>
  refine YN ((M8 (ls.take k):Int)<1000)<|ug O<|ZR<|ZV (.int .i64 (M8 (ls.take k):Int)) (λg f h=>⟨⟨M8 (ls.take k),⟨λH=>I,λH=>I⟩,p⟩,rfl,f,Zv⟩)
 refine YL ((M8 (ls.take k):Int)<1000)<|uw (Kd 56 (.slice A n c) k) (.pointer (some (ad.add (k*7)))) O (λg f h=>H7 z b)<|ZS 3<|ZA (Au 87 (ad.add (k*7)) 0) (.pointer (some ((ad.add (k*7)).add 0))) (λg f h=>Bt (d:=0) O)<|uw (Ke 3 ((ad.add (k*7)).add 0)) (.int .i64 s.v) O (λg f h=>Kh O (L5 f (D 0 _ rfl)))<|ZS 6 ?_
 by_cases m:s.v=3
 .have j:G0 s=8:=by unfold G0;rw[YS (.inl m)]
  refine ZT 20 (.bool (s.v==3)) (.bool true) (by rw[m];rfl)<|ZI true<|uh 3 (.int .i64 (XQ.wrap (XQ.wrap ((M8 (ls.take k):Int)+7)+1))) (.int .i64 (M8 (ls.take (k+1)):Int)) O (by rw[AD ((M8 (ls.take k):Int)+7) I,AD _ I,e,j];congr 1)<|YA 4 k b<|ui (⟨k+1,b,by show M8 (ls.take (k+1))<=1007;rw[e];omega⟩) O Zn Zt (λ_ _=>trivial)
 refine ZT 20 (.bool (s.v==3)) (.bool false) (by rw[YR.2 m])<|uw (Kd 56 (.slice A n c) k) (.pointer (some (ad.add (k*7)))) O (λg f h=>H7 z b)<|ZS 10<|ZA (Au 87 (ad.add (k*7)) 0) (.pointer (some ((ad.add (k*7)).add 0))) (λg f h=>Bt (d:=0) O)<|ZA (Ke 3 ((ad.add (k*7)).add 0)) (.int .i64 s.v) (λg f h=>Kh O (L5 f (D 0 _ rfl))) ?_
 by_cases o:s.v=4
 .have j:G0 s=8:=by unfold G0;rw[YS (.inr o)]
  refine ZJ (s.v==4) true (by rw[o];rfl)<|uh 3 (.int .i64 (XQ.wrap (XQ.wrap ((M8 (ls.take k):Int)+7)+1))) (.int .i64 (M8 (ls.take (k+1)):Int)) O (by rw[AD ((M8 (ls.take k):Int)+7) I,AD _ I,e,j];congr 1)<|YA 4 k b<|ui (⟨k+1,b,by show M8 (ls.take (k+1))<=1007;rw[e];omega⟩) O Zn Zt (λ_ _=>trivial)
 .have x:G0 s=1:=by unfold G0;rw[YT (by rintro(h|h);exact m h;exact o h)]
  refine ZJ (s.v==4) false (YR.2 o)<|uh 3 (.int .i64 (XQ.wrap ((M8 (ls.take k):Int)+1))) (.int .i64 (M8 (ls.take (k+1)):Int)) O (by rw[AD _ I,e,x];congr 1)<|YA 4 k b<|ui (⟨k+1,b,by show M8 (ls.take (k+1))<=1007;rw[e];omega⟩) O Zn Zt (λ_ _=>trivial)
def pN(t:TV):List RV:=[t.a,t.b,t.c,t.d,t.e,t.f]
theorem Fu(G:OP t=B):Ca 20 #[t.val] w (CU w (.bool B)):=by
 subst G;refine uf func20 rfl<|ZR<|uk (Lr 88 6 #[(0,t.a.val),(1,t.b.val),(2,t.c.val),(3,t.d.val),(4,t.e.val),(5,t.f.val)]) (Kr 6) (Kw 53 ((pN t).flatMap RV.cl).toArray) O (λm o h=>Kj O) λg=>ZR<|uj (ι:={k:Nat // k<=6/\∀r∈(pN t).take k,mY r=true}) 42 (λk=>⟨[vV 2 (.bool false),vV 3 (Kr 6 g),vI 4 k.1],[]⟩) (λ_ u=>Kw 53 ((pN t).flatMap RV.cl).toArray g u) (λk=>6-k.1) (⟨0,by decide,λr j=>absurd j Zs⟩) O Zf Zt (λu h=>h.2) ?_
 rintro⟨k,z,D⟩ H;have z:k<=6:=z
 by_cases p:k<6
 case neg=>
  obtain rfl:k=6:=I
  exact ZR<|ZI false<|ug O<|ZR<|ZX (.bool true) (by rw[show OP t=true from BD.2 λr j=>D r (by simpa[pN]using j)])
 obtain⟨r,j⟩:∃r,(pN t)[k]? =some r:=⟨_,AA (by show k<6;exact p)⟩
 refine ZR<|YL ((k:Int)<6)<|uw (Kd 88 (Kr 6 g) k) (.pointer (some ⟨g,k*4,none⟩)) O (λm o h=>Kc (elem:=53) O O p)<|ZS 3<|uw (Au 53 ⟨g,k*4,none⟩ 0) (.pointer (some ⟨g,k*4,none⟩)) O (λm o h=>R0 (d:=0) O)<|ZS 4<|ZA (Au 51 ⟨g,k*4,none⟩ 1) (.pointer (some ⟨g,k*4+1,none⟩)) (λm o h=>R0 (d:=1) O)<|uw (Ke 49 ⟨g,k*4+1,none⟩) (.slice r.a.A r.a.n r.a.c) O (λm o h=>Kh O (Hx h k r j 1 _ rfl))<|ZS 8 ?_
 by_cases x:r.a.n<=2
 case neg=>
  exact YE 31 ((2:Int)<r.a.n) I<|ZI true<|ug O<|ZR<|ZX (.bool false) (by rw[show OP t=false from List.all_eq_false.2 ⟨r,AE j,by simp[mY,x]⟩])
 refine YF 31 ((2:Int)<r.a.n) I<|ZS 11<|uw (Kd 88 (Kr 6 g) k) (.pointer (some ⟨g,k*4,none⟩)) O (λm o h=>Kc (elem:=53) O O p)<|ZS 12<|uw (Au 53 ⟨g,k*4,none⟩ 1) (.pointer (some ⟨g,k*4+2,none⟩)) O (λm o h=>R0 (d:=2) O)<|ZS 13<|ZA (Au 51 ⟨g,k*4+2,none⟩ 1) (.pointer (some ⟨g,k*4+2+1,none⟩)) (λm o h=>R0 (d:=1) O)<|ZA (Ke 49 ⟨g,k*4+2+1,none⟩) (.slice r.b.A r.b.n r.b.c) (λm o h=>Kh O (Hx h k r j 3 _ rfl)) ?_
 by_cases E:r.b.n<=2
 case neg=>
  exact YL ((2:Int)<r.b.n)<|ug O<|ZR<|ZX (.bool false) (by rw[show OP t=false from List.all_eq_false.2 ⟨r,AE j,by simp[mY,E]⟩])
 refine YN ((2:Int)<r.b.n)<|YB 4 ((k:Int)+1) ((k+1:Nat):Int) ?_
 have F:∀s∈(pN t).take (k+1),mY s=true:=λs v=>by
  rw[L7 j,AO,AB]at v;rcases v with v|rfl
  .exact D s v
  .simp[mY,x,E]
 refine ui (⟨k+1,Zn,F⟩) O Zn Zt (λu h=>h)
abbrev ub(l:List (Pn×PM)):={b:Bool // b=true->l.length<=2/\∀x∈l,OP x.2.t=true}
theorem Wq(wI:Kk w A n 40 HU l)(P:n<=9223372036854775807):Ca 21 #[.slice A n c] w (K4 w (λb:ub l=> .bool b.1) λ_ _=>True):=by
 have Z:=wI.1;refine uf func21 rfl<|ZR<|uj (ι:={k:Nat // (k<=n/\k<=3)/\∀x∈l.take k,OP x.2.t=true}) 24 (λq=>⟨[vS 0 A n c,vV 2 (.bool false),vI 3 (q.1:Int)],[]⟩) (λ_ _=>True) (λq=>n-q.1) (⟨0,⟨AC _,by decide⟩,λx s=>absurd s Zs⟩) O Zf Zt (λ_ _=>trivial) ?_
 rintro⟨k,⟨D,p⟩,F⟩ Q;have D:k<=n:=D;have p:k<=3:=p;have g:(k=n\/k=3)->decide ((n:Int)<=2)=true->l.length<=2/\∀x∈l,OP x.2.t=true:=λD H=>by
  have H:=YP H;have e:l.take k=l:=BJ I;rw[e]at F;exact⟨by omega,F⟩
 by_cases o:k<n
 case neg=>
  obtain rfl:k=n:=I
  refine ZS 4<|YG 7 ((k:Int)<(k:Int)) I<|ZI false<|ug O<|ZR<|ZV (.bool (decide ((k:Int)<=2))) (λm f h=>⟨⟨_,g (.inl rfl)⟩,rfl,f,Zv⟩)
 refine ZS 4<|YE 7 ((k:Int)<(n:Int)) I ?_
 by_cases M:k<3
 case neg=>
  refine YN ((k:Int)<3)<|ug O<|ZR<|ZV (.bool (decide ((n:Int)<=2))) (λm f h=>⟨⟨_,g (.inr I)⟩,rfl,f,Zv⟩)
 obtain⟨x,s⟩:=Yg l k;obtain⟨ad,J,K⟩:=wI.2 k x s;have L:∀(j:Nat) (v:YI),x.2.t.cl[j]? =some v->w.cell? (((ad.add (k*40)).add 16).add j)=some v:=λj v E=>by
  have:=K (16+j) v (by show(OC x.1 x.2)[16+j]? =some v;unfold OC;rw[BT Zs];simpa using E);rwa [Addr.add_add]
 refine YL ((k:Int)<3)<|uw (Kd 57 (.slice A n c) k) (.pointer (some (ad.add (k*40)))) O (λm f h=>by rw[J];exact L9 (elem:=77) O O o)<|ZS 3<|ZA (Au 77 (ad.add (k*40)) 9) (.pointer (some ((ad.add (k*40)).add 16))) (λm f h=>Bt (d:=16) O)<|ZA (Ke 55 ((ad.add (k*40)).add 16)) (x.2.t.val) (λm f h=>Mh (vs:=x.2.t.cl) O O λj v E=>L5 f (L j v E)) ?_
 by_cases G:OP x.2.t=true
 case neg=>
  refine ZC (λm f h=>Fu (CG.2 G)) λb=>ZI true<|ug O<|ZR<|ZV (.bool false) (λm f h=>⟨⟨false,nofun⟩,rfl,f,Zv⟩)
 refine ZC (λm f h=>Fu G) λb=>ZI false<|YA 3 k o<|ui (⟨k+1,⟨o,M⟩,λy z=>by rw[L7 s,AO,AB]at z;rcases z with z|rfl;exact F y z;exact G⟩) O Zn Zt (λ_ _=>trivial)
abbrev ud(N:Nd):={v:Nat // (N.stroke≠[]->dA N.sty*M8 N.path<=v)/\v<=600}
theorem eY(x:Sa w q.paA N.path.length N.path)(p:N.path.length<=9223372036854775807)(E:M8 N.path<=24):Ca 22 #[GE N q] w (K4 w (λv:ud N=> .int .i64 (v.1:Nat)) λ_ _=>True):=by
 have i64:∀z:Int,0<=z->z<=1000->XQ.wrap z=z:=λz F G=>AD _ I
 by_cases D:N.stroke=[]
 .refine uf func22 rfl<|ZR<|ZJ (((N.stroke.length:Int)==0)) true (by rw[D];rfl)<|ZV (.int .i64 0) (λe b h=>⟨⟨0,λh=>absurd D h,by decide⟩,rfl,b,Zv⟩)
 have s:((N.stroke.length:Int)==0)=false:=YR.2 (by have:=BG.2 D;omega)
 by_cases g:N.sty.j=3
 .have o:dA N.sty=20:=YS g
  by_cases m:N.sty.c=3
  .refine uf func22 rfl<|ZR<|ZJ (((N.stroke.length:Int)==0)) false (s)<|ZJ (N.sty.j==3) true (by rw[g];rfl)<|ZJ (N.sty.c==3) true (by rw[m];rfl)<|ZC (λe b h=>Rv (c:=q.pac) (x.below b) p) λr=> ?_
   have f:=r.2.1.1 I;refine ZV (.int .i64 (XQ.wrap (XQ.wrap (20*(r.1:Int))+32))) (λe b h=>⟨⟨20*r.1+32,λ_=>by rw[o,f];omega,by omega⟩,by rw[i64 (20*(r.1:Int)) I I,i64 (20*(r.1:Int)+32) I I];rfl,b,Zv⟩)
  .refine uf func22 rfl<|ZR<|ZJ (((N.stroke.length:Int)==0)) false (s)<|ZJ (N.sty.j==3) true (by rw[g];rfl)<|ZJ (N.sty.c==3) false (YR.2 m)<|ZC (λe b h=>Rv (c:=q.pac) (x.below b) p) λr=> ?_
   have f:=r.2.1.1 I;refine ZV (.int .i64 (XQ.wrap (20*(r.1:Int)))) (λe b h=>⟨⟨20*r.1,λ_=>by rw[o,f];omega,by omega⟩,by rw[i64 _ I I];rfl,b,Zv⟩)
 .have o:dA N.sty=8:=YT g
  by_cases m:N.sty.c=3
  .refine uf func22 rfl<|ZR<|ZJ (((N.stroke.length:Int)==0)) false (s)<|ZJ (N.sty.j==3) false (YR.2 g)<|ZJ (N.sty.c==3) true (by rw[m];rfl)<|ZC (λe b h=>Rv (c:=q.pac) (x.below b) p) λr=> ?_
   have f:=r.2.1.1 I;refine ZV (.int .i64 (XQ.wrap (XQ.wrap (8*(r.1:Int))+32))) (λe b h=>⟨⟨8*r.1+32,λ_=>by rw[o,f];omega,by omega⟩,by rw[i64 (8*(r.1:Int)) I I,i64 (8*(r.1:Int)+32) I I];rfl,b,Zv⟩)
  .refine uf func22 rfl<|ZR<|ZJ (((N.stroke.length:Int)==0)) false (s)<|ZJ (N.sty.j==3) false (YR.2 g)<|ZJ (N.sty.c==3) false (YR.2 m)<|ZC (λe b h=>Rv (c:=q.pac) (x.below b) p) λr=> ?_
   have f:=r.2.1.1 I;refine ZV (.int .i64 (XQ.wrap (8*(r.1:Int)))) (λe b h=>⟨⟨8*r.1,λ_=>by rw[o,f];omega,by omega⟩,by rw[i64 _ I I];rfl,b,Zv⟩)
def tf(V:Nat)(x:Nd×ND):Prop:=(∀h:x.1.stroke≠[]->dA x.1.sty*M8 x.1.path<=80,pH x)/\(x.1.stroke≠[]->dA x.1.sty*M8 x.1.path<=V)
abbrev tS(S:Sc)(nl:List (Nd×ND)):={b:Bool // b=true->S.nds.length<=8/\∀x∈nl,pH x}
theorem j8(X:Kk w y.1 S.nds.length 47 (λx:Nd×ND=>Es x.1 x.2) nl)(P:∀x∈nl,pK x w):
 Ca 9 #[De S y] w (K4 w (λb:tS S nl=> .bool b.1) λ_ _=>True):=by
 have hln:=X.1;refine uf func9 rfl<|ZR ?_
 by_cases h8:S.nds.length<=8
 case neg=>
  refine YL ((8:Int)<(S.nds.length:Int))<|ZV (.bool false) (λf e h=>⟨⟨false,nofun⟩,rfl,e,Zv⟩)
 refine YN ((8:Int)<(S.nds.length:Int))<|uj (ι:={s:(Nat×Nat)×Nat // (s.2<=S.nds.length/\s.1.1<=48*s.2/\s.1.2<=600*s.2)/\∀x∈nl.take s.2,tf s.1.2 x}) 88 (λs=>⟨[(1,.p 1 0),vV 2 (.bool false),vI 3 (s.1.1.1:Nat),vI 4 (s.1.1.2:Nat),vI 5 (s.1.2:Nat)],[(1,(jg S y).map .v)]⟩) (λ_ _=>True) (λs=>S.nds.length-s.1.2) (⟨((0,0),0),⟨AC _,AC _,AC _⟩,λx o=>absurd o Zs⟩) O Zf Zt (λ_ _=>trivial) ?_
 rintro⟨⟨⟨m,z⟩,i⟩,⟨hi,H,F⟩,E⟩ gg;have hi:i<=S.nds.length:=hi;have H:m<=48*i:=H;have F:z<=600*i:=F
 by_cases D:i<S.nds.length
 case neg=>
  obtain rfl:i=S.nds.length:=I
  have M:nl.take S.nds.length=nl:=BJ I;have E:∀x∈nl.take S.nds.length,tf z x:=E;rw[M]at E;refine ZR<|YN ((S.nds.length:Int)<(S.nds.length:Int))<|ug O<|ZS 2 ?_
  by_cases h60:m<=60
  case neg=>
   refine YG 83 ((m:Int)<=60) I<|ZV (.bool false) (λf e h=>⟨⟨false,nofun⟩,rfl,e,Zv⟩)
  refine YE 83 ((m:Int)<=60) I<|ZV (.bool (decide ((z:Int)<=80))) (λf e h=>⟨⟨_,λhb=>⟨h8,λx o=>(E x o).1 λh=>by have h2:=(E x o).2 h;have h3:=YP hb;omega⟩⟩,rfl,e,Zv⟩)
 obtain⟨⟨N,q⟩,o⟩:∃x,nl[i]? =some x:=⟨_,AA I⟩
 obtain⟨ad,hA,hc⟩:=X.2 i _ o;have g:=P _ (AE o);refine ZR<|YL ((i:Int)<(S.nds.length:Int))<|ZA (Kd 24 (.slice y.1 S.nds.length y.2) i) (.pointer (some (ad.add (i*47)))) (λf e h=>by rw[hA];exact L9 (elem:=64) O O D)<|ZA (Ke 64 (ad.add (i*47))) (GE N q) (λf e h=>Mh (vs:=Es N q) O O (λj v hj=>L5 e (hc j v hj)))<|ZD 4 (λf e h=>Rv (c:=q.clc) (g.cl.1.below e) g.cl.2) λJ=> ?_
 by_cases Y:J.1<=24
 case neg=>
  refine YE 26 ((24:Int)<J.1) I<|ZI true<|ug O<|ZR<|ZV (.bool false) (λf e h=>⟨⟨false,nofun⟩,rfl,e,Zv⟩)
 have e1:=J.2.1.2 I;refine YG 26 ((24:Int)<J.1) I<|ZD 9 (λf e h=>Rv (c:=q.pac) (g.pa.1.below e) g.pa.2) λL=> ?_
 by_cases g2:L.1<=24
 case neg=>
  refine YE 31 ((24:Int)<L.1) I<|ZI true<|ug O<|ZR<|ZV (.bool false) (λf e h=>⟨⟨false,nofun⟩,rfl,e,Zv⟩)
 have e2:=L.2.1.2 I;refine YF 31 ((24:Int)<L.1) I<|ZS 16 ?_
 by_cases g3:N.im.px.length<=64
 case neg=>
  refine YE 38 ((64:Int)<N.im.px.length) I<|ZI true<|ug O<|ZR<|ZV (.bool false) (λf e h=>⟨⟨false,nofun⟩,rfl,e,Zv⟩)
 refine YF 38 ((64:Int)<N.im.px.length) I<|ZS 22 ?_
 by_cases g4:N.sty.w<=2000
 case neg=>
  refine YE 44 ((2000:Int)<N.sty.w) I<|ZI true<|ug O<|ZR<|ZV (.bool false) (λf e h=>⟨⟨false,nofun⟩,rfl,e,Zv⟩)
 refine YG 44 ((2000:Int)<N.sty.w) I ?_
 by_cases g5:N.sty.d.length=0
 case neg=>
  refine YL ((0:Int)<N.sty.d.length)<|ug O<|ZR<|ZV (.bool false) (λf e h=>⟨⟨false,nofun⟩,rfl,e,Zv⟩)
 refine YN ((0:Int)<N.sty.d.length) ?_
 by_cases T:OP q.t=true
 case neg=>
  refine ZC (λf e h=>Fu (CG.2 T)) λb=>ZI true<|ug O<|ZR<|ZV (.bool false) (λf e h=>⟨⟨false,nofun⟩,rfl,e,Zv⟩)
 refine ZC (λf e h=>Fu T) λb=>ZC (λf e h=>Wq (c:=q.fic) (g.fi.1.below e) g.fi.2) λQ=> ?_
 obtain⟨Q,wJ⟩:=Q;cases Q
 .refine ZR<|ZI true<|ug O<|ZR<|ZV (.bool false) (λf e h=>⟨⟨false,nofun⟩,rfl,e,Zv⟩)
 refine ZC (λf e h=>Wq (c:=q.stc) (g.st.1.below e) g.st.2) λR=> ?_
 obtain⟨R,U⟩:=R;cases R
 .refine ZR<|ZI true<|ug O<|ZR<|ZV (.bool false) (λf e h=>⟨⟨false,nofun⟩,rfl,e,Zv⟩)
 refine ZI false ?_;have Z:M8 N.clip<=24:=by rw[<-e1];exact Y
 have W:M8 N.path<=24:=by rw[<-e2];exact g2
 refine ZC (λf e h=>Rv (c:=q.clc) (g.cl.1.below e) g.cl.2) λG=>ZC (λf e h=>Rv (c:=q.pac) (g.pa.1.below e) g.pa.2) λK=> ?_
 have e3:=G.2.1.1 I;have e4:=K.2.1.1 I;refine ZC (λf e h=>eY (g.pa.1.below e) g.pa.2 W) λsv=> ?_
 have hv6:=sv.2.2;refine uh 3 (.int .i64 (XQ.wrap (XQ.wrap ((m:Int)+(G.1:Int))+(K.1:Int)))) (.int .i64 ((m+G.1+K.1:Nat):Int)) O (by rw[AD ((m:Int)+(G.1:Int)) I,AD _ I];rfl)<|YB 4 ((z:Int)+(sv.1:Int)) ((z+sv.1:Nat):Int)<|YA 5 i D ?_
 have hq:tf (z+sv.1) (N,q):=⟨λh=>⟨Z,W,g3,g5,T,wJ rfl,U rfl,h⟩,λh=>by have:=sv.2.1 h;show _<=z+sv.1;omega⟩
 refine ui (⟨((m+G.1+K.1,z+sv.1),i+1),⟨D,Zn,Zn⟩,λx wI=>by rw[L7 o,AO,AB]at wI;rcases wI with wI|rfl;exact⟨(E x wI).1,λh=>AH ((E x wI).2 h) (Nat.le_add_right _ _)⟩;exact hq⟩) O Zn Zt (λ_ _=>trivial)
end
theorem ZH{w:YM}{a:YY}{len cap:Nat}{zs:List Int}
 (h:(a=none/\len=0/\cap=0/\zs=[])\/∃x,a=some x/\len<=cap/\cap<=maxLen/\zs.length=cap/\(∀i,i<zs.length->w.cell? (x.add i)=some (.int .u32 (zs.getD i 0)))/\∀n∈zs,(Lit.int .u32 n).wf=true):
 ∃l,In w a len cap l:=by
 rcases h with ⟨rfl,rfl,rfl,rfl⟩|⟨x,rfl,v,y,z,o,m⟩
 .exact⟨[],vh⟩
 .have s:∀i,i<zs.length->0<=zs.getD i 0/\zs.getD i 0<=4294967295:=by
   intro i hi;have e:zs.getD i 0∈zs:=by
    rw[BF,AA hi];exact List.getElem_mem hi
   exact bounds_u32 (m _ e)
  have b:((zs.take len).map Int.toNat).length=len:=by rw[BP,BV];omega
  have c:∀i,i<len->(dg ((zs.take len).map Int.toNat) i:Int)=zs.getD i 0:=by
   intro i hi;have f:=s i I;have t:dg ((zs.take len).map Int.toNat) i=(zs.getD i 0).toNat:=by
    simp[dg,List.getElem?_take,hi,AA (show i<zs.length by omega)]
   rw[t];omega
  refine⟨(zs.take len).map Int.toNat,?_,b,v,y,⟨by rw[Ot,b];omega,λA=> ?_⟩⟩
  .intro i
   by_cases hi:i<len
   .have f:=s i I;have t:=c i hi;omega
   .rw[Vt I];omega
  .have g:x.block<w.heap.size:=by
    have f:=World.block_lt_of_cell? w (x.add 0) (o 0 I);rwa [Vx]at f
   refine⟨x,rfl,g,λj u k=> ?_⟩;have p:j<len:=by
    have:=(AN.1 k).1;rw[Ot,b]at this;exact this
   rw[Uf (by rw[b];exact p),c j p]at k;rw[o j I];exact k
section
open Go.ChangeShapes Go.WideShapes Go.ChangeAt Go.RowKit Go.Deep Go.WideElems Go.Maps Go.Joins
variable{H:Type}{enc:XX×YI->H}{P:YH}{w:YM}{base:Nat}{held:Bool}
theorem W5{t e:XX}{fuel:Nat}{v:YI}{x:DataW H×List MemPlace}(s:P.underlying t=some (.slice e))(o:P.underlying e=some (.int .u32))(m:P.cellsOf e=1)
 (h:DataW.trod enc P w base (λ_=>true) held fuel t [v]=some x):∃A n c l,v= .slice A n c/\In w A n c l:=by
 rcases open_ints s o m h with ⟨b,_⟩|⟨a,l,c,zs,b,_,p,y,k,_,f,j⟩
 .simp at b;subst b;exact⟨none,0,0,[],rfl,vh⟩
 .simp at b;subst b;obtain⟨u,g⟩:=ZH (w:=w) (a:=some a) (len:=l) (cap:=c) (zs:=zs) (.inr ⟨_,rfl,p,y,by simpa using k,f,j⟩);exact⟨_,_,_,u,rfl,g⟩
open Go.ChangeShapes Go.WideShapes Go.ChangeAt Go.RowKit Go.Deep Go.WideElems Go.Maps Go.Joins
theorem lV{v:SV}{K:Nat}{w:YM}(i:In w v.A v.n v.c v.l)(b:v.n<=K):Sx v (zi v.s (val v.l)) K w:=⟨i,rfl,b⟩
end
section
open Go.ChangeShapes Go.WideShapes Go.ChangeAt Go.RowKit Go.Deep Go.WideElems Go.Maps Go.Joins
inductive Sh where
 |int (k:IntKind)
 |bool
 |str
 |dig
 |sl (n:Nat) (e:Sh)
 |nil
 |cons (n:Nat) (s r:Sh)
def Rdw(w:YM):Sh->List YI->Prop
 | .int k,cs=>∃z,cs=[.int k z]/\(Lit.int k z).wf=true
 | .bool,cs=>∃b,cs=[.bool b]
 | .str,cs=>∃s:ByteArray,cs=[.string s]/\s.size<=maxLen
 | .dig,cs=>∃A n c l,cs=[.slice A n c]/\In w A n c l
 | .sl n e,cs=>∃A len cap,cs=[.slice A len cap]/\len<=cap/\cap<=maxLen/\∀i,i<len->∃(ad:XR) (xs:List YI),A=some ad/\xs.length=n/\
  (∀(j:Nat) (v:YI),xs[j]? =some v->w.cell? ((ad.add (i*n)).add j)=some v)/\Rdw w e xs
 | .nil,cs=>cs=[]
 | .cons n s r,cs=>∃a b,cs=a++b/\a.length=n/\Rdw w s a/\Rdw w r b
def NB(P:YH)(g:XX->Option Sh):List Field->Nat->Option Sh
 | [],_=>some .nil
 |f::r,off=>if f.offset=off then(match g f.type,NB P g r (off+P.cellsOf f.type)with
  |some a,some b=>some (.cons (P.cellsOf f.type) a b)
  |_,_=>none)else none
def c_(m:Nat)(s:Sh):Nat->Sh
 |0=> .nil
 |n+1=> .cons m s (c_ m s n)
def dm(P:YH):List Field->Nat
 | []=>0
 |f::r=>P.cellsOf f.type+dm P r
def WE(P:YH):Nat->XX->Option Sh
 |0,_=>none
 | n+1,t=>match P.underlying t with
  |some (.int k)=>some (.int k)
  |some .bool=>some .bool
  |some .string=>some .str
  | some (.slice e)=>match P.underlying e with
   |some (.int .u32)=>if P.cellsOf e=1 then some .dig else none
   |_=>match WE P n e with
    |some s=>some (.sl (P.cellsOf e) s)
    |none=>none
  |some (.struct b)=>if P.cellsOf t=dm P b.toList then NB P (WE P n) b.toList 0 else none
  |some (.array m e)=>if P.cellsOf t=m*P.cellsOf e then(match WE P n e with
   |some s=>some (c_ (P.cellsOf e) s m)
   |none=>none)else none
  |_=>none
section
variable{H:Type}{enc:XX×YI->H}{P:YH}{w:YM}{base:Nat}{held:Bool}
theorem fV{g:XX->Option Sh}{m:Nat}{cs:List YI}(p:∀t c cs x,g t=some c->DataW.trod enc P w base (λ_=>true) held m t cs=some x->Rdw w c cs):∀(l:List Field) (off:Nat) (c:Sh),NB P g l off=some c->
 cs.length=off+dm P l->(∀f∈l,∃x,DataW.trod enc P w base (λ_=>true) held m f.type ((cs.drop f.offset).take (P.cellsOf f.type))=some x)->Rdw w c (cs.drop off)
 | [],off,c,h,o,_=>by
  simp only[NB,AW]at h;subst h;simp only[Rdw,List.drop_eq_nil_iff];simp only[dm]at o;omega
 | f ::r,off,c,h,o,s=>by
  simp only[NB]at h;split at h
  .rename_i j;split at h
   .rename_i a b v y;injection h with h;subst h;simp only[dm]at o;obtain⟨x,e⟩:=s f (BB ..);rw[j]at e;refine⟨(cs.drop off).take (P.cellsOf f.type),(cs.drop off).drop (P.cellsOf f.type),(BM _ _).symm,?_,p _ _ _ _ v e,?_⟩
    .rw[BV,CI];omega
    .rw[List.drop_drop];exact fV p r _ b y I λu k=>s u (BE _ k)
   .cases h
  .cases h
theorem bS{n:Nat}{s:Sh}:∀(k:Nat) (cs:List YI),cs.length=k*n->(∀i,i<k->Rdw w s ((cs.drop (i*n)).take n))->Rdw w (c_ n s k) cs
 |0,cs,c,_=>by
  show cs=[];exact BW.1 I
 |k+1,cs,c,h=>by
  have e:(k+1)*n=k*n+n:=Nat.succ_mul k n;have b:=h 0 I;rw[CE,List.drop_zero]at b;refine⟨cs.take n,cs.drop n,(BM _ _).symm,by rw[BV];omega,b,bS k _ (by rw[CI];omega) λi hi=> ?_⟩;have:=h (i+1) I;rwa [Nat.succ_mul,CF (i*n) n,<-List.drop_drop]at this
theorem rd_of_trod:∀(n:Nat) (m:Nat) (t:XX) (cs:List YI) (x:DataW H×List MemPlace) (K:Sh),WE P n t=some K->DataW.trod enc P w base (λ_=>true) held m t cs=some x->Rdw w K cs
 |0,_,_,_,_,_,h,_=>by cases h
 | n +1,m,t,cs,x,K,h,u=>by
  simp only[WE]at h;split at h
  .rename_i k o;injection h with h;subst h;obtain⟨z,E,wI⟩:=DataW.trod_int o u;exact⟨z,E,wI.2⟩
  .rename_i o;injection h with h;subst h;obtain⟨b,E,_⟩:=DataW.trod_bool o u;exact⟨b,E⟩
  .rename_i o;injection h with h;subst h;obtain⟨s,E,wI⟩:=DataW.trod_string o u;exact⟨s,E,wI.2⟩
  .rename_i e o;split at h
   .rename_i he;split at h
    .rename_i J;injection h with h;subst h;have F:∃v,cs=[v]:=by
      rcases open_slice o u with ⟨g,_⟩|⟨a,len,cap,m,k,D,Pl,g,_⟩
      .exact⟨_,g⟩
      .exact⟨_,g⟩
     obtain⟨v,rfl⟩:=F;obtain⟨A,T,c,l,rfl,Q⟩:=W5 o he J u;exact⟨A,T,c,l,rfl,Q⟩
    .cases h
   .split at h
    .rename_i s R;injection h with h;subst h;rcases open_slice o u with ⟨g,_⟩|⟨a,len,cap,W,k,D,Pl,g,hb,L,hm,U,_,M⟩
     .exact⟨none,0,0,g,AL _,AC _,λi hi=>absurd hi (Nat.not_lt_zero _)⟩
     .refine⟨some a,len,cap,g,L,hm,λi hi=> ?_⟩;obtain⟨p,k1,k2⟩:=M i (by rw[U];simp;omega);obtain⟨_,X,k3⟩:=World.cells?_some k1;exact⟨a,p,rfl,X,λj v Z=>(k3 j (by rw[<-X];exact(AN.1 Z).1)).trans Z,rd_of_trod n k e p _ s R k2⟩
    .cases h
  .rename_i Y o;split at h
   .rename_i J;obtain⟨xs,T,_,rfl,L,B,wJ⟩:=DataW.trod_struct o u;have:=fV (w:=w) (base:=base) (held:=held) (enc:=enc) (cs:=cs) (λt' S p x' E wI=>rd_of_trod n T t' p x' S E wI) Y.toList 0 K h I (λf N=>by
     obtain⟨i,hi⟩:=List.mem_iff_getElem?.1 N;have G:=wJ i f (by simpa using hi);have h4:i<xs.length:=by rw[B];exact(AP.1 (show Y[i]? =some f by simpa using hi)).1
     rw[AA h4]at G;exact⟨_,G⟩)
    exact this
   .cases h
  .rename_i W e o;split at h
   .rename_i J;split at h
    .rename_i s R;injection h with h;subst h;obtain⟨xs,k,_,_,L,B,wJ⟩:=DataW.trod_array o u;refine bS W cs (by rw[L,J]) λi hi=> ?_
     have G:=wJ i hi;obtain⟨y,hy⟩:=Yg xs i;rw[hy]at G;exact rd_of_trod n k e _ y s R G
    .cases h
   .cases h
  .cases h
theorem rd_of_read{r:Reach}{o n:Nat}{t:XX}{c:Sh}{v:YI}{d:DataW H}{p:List MemPlace}(m:WE P n t=some c)(k:(match P.underlying t with|some (.struct _)|some (.array _ _)=>true|_=>false)=true)
 (b:Value.okWide P w r o t v) (h:DataW.Trod enc P w base (λ_=>true) held t v d p):∃cs:List YI,v= .agg cs.toArray/\Rdw w c cs:=by
 obtain⟨fuel,l⟩:=h;have j:=rd_of_trod n fuel t _ _ c m l;unfold Value.okWide at b;split at b
 .obtain⟨cs,rfl,_⟩:=b;exact⟨cs.toList,by simp,j⟩
 .obtain⟨cs,rfl,_⟩:=b;exact⟨cs.toList,by simp,j⟩
 .rename_i g f;split at k
  .rename_i e;exact absurd e (g _)
  .rename_i e;exact absurd e (f _ _)
  .cases k
end
def Em:Sh:= .cons 2 (.cons 1 .bool (.cons 1 .dig .nil)) (.cons 2 (.cons 1 .bool (.cons 1 .dig .nil)) .nil)
section
variable{w:YM}{cs:List YI}{n:Nat}{s r:Sh}{k:IntKind}
theorem mR(h:Rdw w Em cs):∃r:RV,cs=r.cl/\In w r.a.A r.a.n r.a.c r.a.l/\In w r.b.A r.b.n r.b.c r.b.l:=by
 obtain⟨a,b,rfl,_,m,c,d,rfl,_,v,rfl⟩:=h;obtain⟨D,b1,rfl,_,⟨x,rfl⟩,F,b2,rfl,_,⟨A1,t,o,g,rfl,p⟩,rfl⟩:=m;obtain⟨y,B,rfl,_,⟨e,rfl⟩,z,E,rfl,_,⟨A2,f,c2,j,rfl,u⟩,rfl⟩:=v;exact⟨⟨⟨x,A1,t,o,g⟩,⟨e,A2,f,c2,j⟩⟩,rfl,p,u⟩
end
def fN:Sh:= .cons 4 Em (.cons 4 Em (.cons 4 Em (.cons 4 Em (.cons 4 Em (.cons 4 Em .nil)))))
def lC(r:RV)(w:YM):Prop:=In w r.a.A r.a.n r.a.c r.a.l/\In w r.b.A r.b.n r.b.c r.b.l
theorem Kq{w:YM}{n:Nat}{s r:Sh}{cs:List YI}(h:Rdw w (.cons n s r) cs):∃a b,cs=a++b/\a.length=n/\Rdw w s a/\Rdw w r b:=h
theorem Z4{w:YM}{cs:List YI}(h:Rdw w Em cs):∃r:RV,cs=r.cl/\lC r w:=by
 obtain⟨r,c,b⟩:=mR h;exact⟨r,c,b⟩
end
structure qw(t:TV)(w:YM):Prop where
 a:lC t.a w
 b:lC t.b w
 c:lC t.c w
 d:lC t.d w
 e:lC t.e w
 f:lC t.f w
theorem gJ{w:YM}{cs:List YI}(h:Rdw w fN cs):∃t:TV,cs=t.cl/\qw t w:=by
 obtain⟨_,_,rfl,_,j,h⟩:=Kq h;obtain⟨_,_,rfl,_,s,h⟩:=Kq h;obtain⟨_,_,rfl,_,o,h⟩:=Kq h;obtain⟨_,_,rfl,_,u,h⟩:=Kq h;obtain⟨_,_,rfl,_,p,h⟩:=Kq h;obtain⟨_,_,rfl,_,l,h⟩:=Kq h;obtain rfl:=h;obtain⟨a,rfl,ia⟩:=Z4 j;obtain⟨b,rfl,ib⟩:=Z4 s;obtain⟨c,rfl,k⟩:=Z4 o;obtain⟨d,rfl,id⟩:=Z4 u;obtain⟨e,rfl,m⟩:=Z4 p;obtain⟨f,rfl,g⟩:=Z4 l;exact⟨⟨a,b,c,d,e,f⟩,by simp[TV.cl],ia,ib,k,id,m,g⟩
end Go.Proofs.YtoakjcolbjifnaaGreatDoor
