/-
 A part of the proof.
-/
import Derived.Test.YtoakjcolbjifnaaGreatDoorBMh
import Derived.Test.YtoakjcolbjifnaaGreatDoorBBf
import Derived.Shelf.Spec.SlicesGrow
import Derived.Scope
open Array renaming getElem?_eq_some_iff->BL
open Bool renaming and_eq_true->AP,false_eq_true->CD
open Function renaming comp_def->CP
open Go.IntWalk renaming i64_in->AA
open Go.Result renaming andThen_ok->AL
open Go.Sem renaming run_bind->AM,run_pure->AX
open Go.Value renaming int->BK
open Int renaming toNat_natCast->BE,fdiv_eq_ediv_of_nonneg->BJ,natCast_mul->BM,toNat_of_nonneg->CA
open List renaming getElem?_eq_getElem->AB,mem_singleton->AE,mem_of_getElem?->AF,take_of_length_le->AI,length_append->AK,getElem?_eq_some_iff->AN,length_map->AO,map_eq_cons_iff->AQ,all_eq_true->AW,replicate->AZ,length_take->BA,map_append->BC,getElem?_map->BD,drop_of_length_le->BG,mem_append->BI,mem_cons->BP,length_drop->BQ,getElem?_append_right->BV,getElem?_append_left->BW,take_append_drop->BZ,map_eq_nil_iff->CB,getElem?_take->CE,flatMap_cons->CF,length_cons->CG,length_nil->CH,nil_append->CI,append_nil->CJ,length_set->CK,drop_zero->CL,mem_map->CM
open Nat renaming mul_le_mul_right->AC,zero_le->AD,le_trans->AH,add_mul->AR,min_eq_left->AU,mul_comm->AY,mul_le_mul->BF,le_refl->BH,zero_add->BN,zero_mul->BR,add_one_sub_one->BS,lt_or_ge->CC,add_zero->CN,mod_lt->CO
open Option renaming isSome_iff_exists->BB,map_eq_some_iff->BO,bind_some->BX,bind_eq_some_iff->BY
open Prod.mk renaming inj->BT,injEq->BU
open Go renaming World->YM,Value->YI,Program->YH,Operand->XZ,Deferred->XY,TypeId->XX,Calls->XW,PanicEntry->XV,FuncId->XU,Oper->XT,Ending->XS,Addr->XR
open Go.IntKind renaming i64->XQ,u64->XP,u32->XO,u8->XN
namespace Go.Proofs.YtoakjcolbjifnaaGreatDoor
set_option maxRecDepth 100000
set_option maxHeartbeats 8000000
set_option linter.unusedVariables false
set_option linter.unusedSimpArgs false
open Go.RowKit Go.Proofs.Tryz
open Go.Proofs.Tryz renaming prog->XM
def Jv(M:List Qg)(os:List Oi):Prop:=∀o∈os,(∃s∈M,o.1.1=s.1/\o.2.1=s.2.1)/\∃s∈M,o.1.2=s.1/\o.2.2=s.2.1
section
variable{w u:YM}{A:YY}{n c N K B:Nat}{y z:YZ}{M:List Qg}{os:List Oi}{H:List LP}{yR:RV}{yq:Rat}{rule:Int}
theorem Jv.num(h:Jv M os)(e:∀z∈M,∀x∈Vf z,Kn x.1 x.2 K u):∀z∈os,Kn z.1.1 z.2.1 K u/\Kn z.1.2 z.2.2 K u:=λz f=>by
 obtain⟨⟨s,m,k,g⟩,b,o,j,l⟩:=h z f;rw[k,g,j,l];exact⟨e s m (s.1,s.2.1) (by simp[Vf]),e b o (b.1,b.2.1) (by simp[Vf])⟩
theorem Jv.snoc(h:Jv M os){s t:Qg}(f:s∈M)(g:t∈M):Jv M (os++ [((s.1,t.1),(s.2.1,t.2.1))]):=λo e=>by
 rcases BI.1 e with b|b
 .exact h o b
 .obtain rfl:o=((s.1,t.1),(s.2.1,t.2.1)):=by simpa using b
  exact⟨⟨s,f,rfl,rfl⟩,t,g,rfl,rfl⟩
theorem mV{s:Oi}{o:Nat}(h:K6 u B 411 8 z.1 os.length z.2 (os.flatMap Lg))(J:∀z∈M,∀x∈Vf z,Kn x.1 x.2 K u)(p:Xd Vf z.1 M)(Z:B<=u.heap.size)(D:Kw 411 (Lg s).toArray o u)(L:os.length<=99999999):
 Mv XM u (bl z.1) (λz':YZ=> .slice z'.1 (os.length+1) z'.2) (λz' v=>K6 v B 411 8 z'.1 (os.length+1) z'.2 ((os++ [s]).flatMap Lg)/\Xd Vf z'.1 M) (My 375 375 (.slice z.1 os.length z.2) (Kr 1 o)):=by
 have g:=M2 (P:=XM) (s:=8) (z:= .agg (Lg (((Ou,Ou),(0,0)):Oi)).toArray) (bytes:=128) (m:=1) (cc:=1) (t:=375) (elem:=411) O O rfl Zd h Z (Mc (n:=1) D rfl) (λv F=>Rp s v (by simpa using F)) I Zd;have G:(os++ [s]).flatMap Lg=os.flatMap Lg++(Lg s).toArray.toList:=Zs
 rw[G];refine O7 g λz' f=>λq k x e b E j=> ?_
 rcases f b E with l|l
 .exact p q k x e b l j
 .have:=Og (J q k x e) b j;omega
theorem mx{i:Nat}{z:Qg}{u:YM}{g:Nat}(h:u.rangeAt g (i*5) (Mb z)):u.rangeAt g (i*5) z.1.cl:=λj v b=>h j v (by show(z.1.cl++ [BK .i64 z.2.2])[j]? =some v;rw[BW (AN.1 b).1];exact b)
theorem ce{L:List (List Pt)}{m:KD}(h:m∈S8 L yq): -1<=m.2/\m.2<=1:=by
 obtain⟨e,_,b⟩:=Z8 h;unfold Nv at b;split at b
 .cases b
 .injection b with b;subst b;rcases Ho (e.2.2:Rat) yq with h|h|h<;>dsimp only<;>omega
theorem aF{L:List (List Pt)}:(S8 L yq).length<=L.flatten.length:=by
 have f:(S8 L yq).length=((Ku L).filterMap (Nv yq)).length:=Rb.length_eq;have b:=List.length_filterMap_le (Nv yq) (Ku L);have e:=Ri L;omega
theorem kH(hp:Nw w A n H)(hn:n<=1000000)(hv:vL 0 (K5 H)=true)(hr:rule=1\/rule=2)(hy:Nf yR yq K w)(hK:2<=K/\K<=900):
 Ca 299 #[.slice A n c,.int .i64 rule,yR.val] w (K4 w (λr:(YZ)×{r:List Oi // r.map (·.2)=Qx (K5 H) rule yq/\r.length<=(K5 H).flatten.length}=> .slice r.1.1 r.2.1.length r.1.2) λr u=>Mj 411 8 Lg Qu w.heap.size (K+10) r.1 r.2.1 u):=by
 have hf:=hv;rw[D9 (AD _),AP,decide_eq_true_eq,AW]at hf;refine uf func299 rfl<|ZR<|ZC (λE l h=>(ja (c:=c) (hp.below l) hn hv (hy.below l) hK).mono λe w' k=>k.cast (G':=λq u=>Mj 415 5 Mb Vf w.heap.size (K+10) q.1 q.2.1 u) λq u h=>h.mono l.size) λmm=> ?_
 obtain⟨y,⟨M,hM⟩⟩:=mm;have hML:M.length=(S8 (K5 H) yq).length:=by rw[<-hM,AO]
 have hMl:=aF (L:=K5 H) (yq:=yq);have hup:∀z∈M,-1<=z.2.2/\z.2.2<=1:=λz hz=>ce (L:=K5 H) (yq:=yq) (m:=z.2) (by rw[<-hM];exact List.mem_map_of_mem hz)
 refine uj (ι:={q:(Nat×Int)×(YZ)×List Oi // ((q.1.1<=M.length/\q.2.2.length<=q.1.1)/\-(q.1.1:Int)<=q.1.2/\q.1.2<=q.1.1)/\q.2.2.map (·.2)++Md rule q.1.2 ((M.map (·.2)).drop q.1.1)=Md rule 0 (M.map (·.2))/\Jv M q.2.2/\Xd Vf q.2.1.1 M}) 51 (λq=>⟨[vI 1 rule,vS 7 q.1.2.1.1 q.1.2.2.length q.1.2.1.2,vI 8 q.1.1.2,vS 9 y.1 M.length y.2,vS 15 y.1 M.length y.2,vI 16 (M.length:Int),vI 17 (q.1.1.1:Int)],[]⟩) (λq u=>Mj 415 5 Mb Vf w.heap.size (K+10) y M u/\K6 u w.heap.size 411 8 q.1.2.1.1 q.1.2.2.length q.1.2.1.2 (q.1.2.2.flatMap Lg)) (λq=>M.length-q.1.1.1) (⟨((0,0),(none,0),[]),⟨⟨AD _,AD _⟩,by simp,by simp⟩,rfl,(λo ho=>by cases ho),λz hz x hx b hb=>by cases hb⟩) O Zf Zt (λu h=>⟨h.2,uG⟩) ?_
 rintro⟨⟨⟨k,m⟩,z,os⟩,⟨⟨hk,U⟩,R,X⟩,s,t,D⟩ gg;have hk:k<=M.length:=hk;have U:os.length<=k:=U;have R: -(k:Int)<=m:=R;have X:m<=(k:Int):=X;have s:os.map (·.2)++Md rule m ((M.map (·.2)).drop k)=Md rule 0 (M.map (·.2)):=s
 have t:Jv M os:=t;have D:Xd Vf z.1 M:=D
 by_cases j:k<M.length
 case neg=>
  obtain rfl:k=M.length:=I
  rw[BG Zs]at s;have W:os.map (·.2)=Md rule 0 (S8 (K5 H) yq):=by rw[<-hM,<-s];simp[Md]
  refine ZR<|YN ((M.length:Int)<(M.length:Int))<|ug O<|ZR<|ZC (λE l h=>VJ (Z:=os) (c:=z.2) (N:=w.heap.size) (h.2.reads.rows M7 rfl) (λq hq=>⟨(t.num h.1.num q hq).1.q,(t.num h.1.num q hq).2.q⟩) I ⟨by omega,by omega⟩ l.size) λr=>ZV (.slice r.1.1 r.2.1.length r.1.2) (λE l h=>⟨(r.1,⟨r.2.1,by rw[r.2.2.1,W];rfl,by have:=r.2.2.2;omega⟩),rfl,l,λw'' k1 k2=>(h w'' k1 k2).2.1⟩)
 obtain⟨e,he⟩:∃e,M[k]? =some e:=⟨_,AB j⟩
 have Y:=AF he;have hue:=hup e Y;refine um (p:=∃g,y.1=some ⟨g,0,none⟩) (λu hu h=>h.1.some (by intro e;rw[e]at j;simp at j)) O (λhyg=> ?_);obtain⟨Q,wI⟩:=hyg;have S:∀{v:YM} {i:Nat} {x:Qg},Mj 415 5 Mb Vf w.heap.size (K+10) y M v->M[i]? =some x->v.rangeAt Q (i*5) (Mb x):=λh hx=>by
  have h2:=h.own;rw[wI]at h2;exact Ln Mx h2 I hx
 refine ZR<|YL ((k:Int)<(M.length:Int))<|ZA (Kd 412 (.slice y.1 M.length y.2) k) (.pointer (some ⟨Q,k*5,none⟩)) (λE l h=>by rw[wI];exact Kc (elem:=415) O O j)<|uw (Ke 415 ⟨Q,k*5,none⟩) (.agg (Mb e).toArray) O (λE l h=>Ka (vs:=Mb e) O O (S h.1 he))<|ZS 5<|uo O (stop:=1000) 1 _<|ZS 5<|YB 8 (m+e.2.2) (m+e.2.2) ?_
 have hdr:(M.map (·.2)).drop k=e.2::(M.map (·.2)).drop (k+1):=N3 (by rw[BD,he];rfl)
 by_cases T:k+1<M.length
 case neg=>
  have P:(M.map (·.2)).drop (k+1)=[]:=BG Zp
  refine ZT 30 (.bool (decide (XQ.wrap ((k:Int)+1)<(M.length:Int)))) (.bool false) (by rw[AA _ I,YV I])<|ZI false<|YA 17 k j<|ui (⟨((k+1,m+e.2.2),z,os),⟨⟨j,Zn⟩,Zn,Zn⟩,by show os.map (·.2)++Md rule (m+e.2.2) ((M.map (·.2)).drop (k+1))=Md rule 0 (M.map (·.2));rw[<-s,hdr,P];rfl,t,D⟩) O Zn Zt (λ_ h=>h)
 obtain⟨f,wJ⟩:∃f,M[k+1]? =some f:=⟨_,AB T⟩
 have hem2:=AF wJ;have J:Md rule m ((M.map (·.2)).drop k)=(if E4 rule (m+e.2.2)then [(e.2.1,f.2.1)]else [])++Md rule (m+e.2.2) ((M.map (·.2)).drop (k+1)):=by
  have P:(M.map (·.2)).drop (k+1)=f.2::(M.map (·.2)).drop (k+1+1):=N3 (by rw[BD,wJ];rfl)
  rw[hdr,P];rfl
 rw[J]at s;refine ZT 30 (.bool (decide (XQ.wrap ((k:Int)+1)<(M.length:Int)))) (.bool true) (by rw[AA _ I,YU I]) ?_;cases F:E4 rule (m+e.2.2)
 .refine ZC (λE l h=>TC (n:=m+e.2.2) hr ⟨by omega,by omega⟩) λfb=>ZJ (E4 rule (m+e.2.2)) false (F)<|YA 17 k j<|ui (⟨((k+1,m+e.2.2),z,os),⟨⟨j,Zn⟩,Zn,Zn⟩,by show os.map (·.2)++Md rule (m+e.2.2) ((M.map (·.2)).drop (k+1))=Md rule 0 (M.map (·.2));rw[<-s,F];rfl,t,D⟩) O Zn Zt (λ_ h=>h.1)
 refine ZC (λE l h=>TC (n:=m+e.2.2) hr ⟨by omega,by omega⟩) λfb=>ZJ (E4 rule (m+e.2.2)) true (F)<|YA 41 k j<|us 6 (Kd 412 (.slice y.1 M.length y.2) ((k+1:Nat):Int)) (.pointer (some ⟨Q,(k+1)*5,none⟩)) O (λE l h=>by rw[wI];exact Kc (elem:=415) O O T)<|ZS 7<|us 7 (Au 415 ⟨Q,(k+1)*5,none⟩ 0) (.pointer (some ⟨Q,(k+1)*5,none⟩)) O (λE l h=>R0 (d:=0) O)<|ZS 7<|ZB 8 (Ke 53 ⟨Q,(k+1)*5,none⟩) (f.1.val) (λE l h=>Ka (vs:=f.1.cl) O O (mx (S h.1.1 wJ)))<|uk (Lr 375 1 #[(0,.agg (Lg (((e.1,f.1),(e.2.1,f.2.1)):Oi)).toArray)]) (Kr 1) (Kw 411 (Lg (((e.1,f.1),(e.2.1,f.2.1)):Oi)).toArray) O (λE l h=>Kj O) λgb=>ZS 11<|uQ (L:=bl z.1) (val:=λz':YZ=> .slice z'.1 (os.length+1) z'.2) (Φ':=λz' u=>Mj 415 5 Mb Vf w.heap.size (K+10) y M u/\K6 u w.heap.size 411 8 z'.1 (os.length+1) z'.2 ((os++ [((e.1,f.1),(e.2.1,f.2.1))]).flatMap Lg)/\Xd Vf z'.1 M) (G:=λz' v=>K6 v w.heap.size 411 8 z'.1 (os.length+1) z'.2 ((os++ [((e.1,f.1),(e.2.1,f.2.1))]).flatMap Lg)/\Xd Vf z'.1 M) (My 375 375 (.slice z.1 os.length z.2) (Kr 1 gb)) (λE l h=>mV h.1.1.2 h.1.1.1.num D l.size h.2 I) (λu h=>h.1.1.2.blk) (λz' wa u e1 f h hG=>⟨h.1.1.1.left (N8 h.1.1.1.own h.1.1.2 Zd) (λq hq x hx b hb hc=>D q hq x hx b hc hb) e1 f,hG⟩) O O λz'=>ZR<|um (p:=Xd Vf z'.1 M) (λu hu h=>h.2.2) O (λhz2=> ?_)
 have hl3:(os++ [(((e.1,f.1),(e.2.1,f.2.1)):Oi)]).length=os.length+1:=by rw[AK];rfl
 refine uh 7 (.slice z'.1 (os.length+1) z'.2) (.slice z'.1 (os++ [(((e.1,f.1),(e.2.1,f.2.1)):Oi)]).length z'.2) O (by rw[hl3])<|YA 17 k j<|ui (⟨((k+1,m+e.2.2),z',os++ [((e.1,f.1),(e.2.1,f.2.1))]),⟨⟨j,Zn⟩,Zn,Zn⟩,by show(os++ [(((e.1,f.1),(e.2.1,f.2.1)):Oi)]).map (·.2)++Md rule (m+e.2.2) ((M.map (·.2)).drop (k+1))=Md rule 0 (M.map (·.2));rw[<-s,F];simp,t.snoc Y hem2,hz2⟩) O Zn Zt (λu h=>⟨h.1,by show K6 u w.heap.size 411 8 z'.1 (os++ [(((e.1,f.1),(e.2.1,f.2.1)):Oi)]).length z'.2 ((os++ [(((e.1,f.1),(e.2.1,f.2.1)):Oi)]).flatMap Lg);rw[hl3];exact h.2.1⟩)
end
theorem K8.storeN{P:YH}{t:XX}{w:YM}{g j:Nat}{cs:List YI}{v:YI}(h:K8 w g cs)(s:Mq P t=some v.cells.toList.length)(p:j+v.cells.toList.length<=cs.length)(m:∀u∈v.cells.toList,u.oneCell'=true):
 ∃l,(Om t ⟨g,j,none⟩ v).run P w= .ok .skip l/\Ei [g] w l/\∀c,l.heap.size<=c.heap.size->(∀b∈[g],c.heap[b]? =l.heap[b]?)->K8 c g (cs.take j++v.cells.toList++cs.drop (j+v.cells.toList.length)):=by
 obtain⟨ty,h⟩:=h;have f:=run_storeCells_at P g j ty v.cells.toList 0 cs.toArray w h (by simp at p ⊢;omega) m;have x:v.cells.size=v.cells.toList.length:=Zs
 have e:((cs.toArray.toList.take (j+0)++v.cells.toList++cs.toArray.toList.drop (j+0+v.cells.toList.length)).toArray)=(cs.take j++v.cells.toList++cs.drop (j+v.cells.toList.length)).toArray:=rfl;rw[e]at f;refine⟨w.setRow g (cs.take j++v.cells.toList++cs.drop (j+v.cells.toList.length)).toArray,?_,⟨rfl,rfl,rfl,by rw[O1];exact BH _,λk _ o=>Na _ _ _ _ (by simpa using o)⟩,λc y k2=>⟨ty,?_⟩⟩
 .simp only[Om,Instr.storeAt,Instr.sureAddr,storeVar,AM,AX,AL,Lb s];rw[YT Zs];simp only[f,AX,AM,AL]
 .rw[k2 g Zs];simp only[World.setRow,Array.getElem?_modify,if_true,h,Option.map_some]
theorem K8.load1{P:YH}{u:YM}{g:Nat}{t:XX}{v:YI}(h:K8 u g [v])(b:Nx P t=some false):(Ke t ⟨g,0,none⟩).run P u= .ok (.value v) u:=Kh b (h.range 0 v rfl)
theorem B3{W w u:YM}(e:Below W.heap.size W w)(f:Below W.heap.size W u)(h:w.heap.size<=u.heap.size/\∀b,W.heap.size<=b->b<w.heap.size->u.heap[b]? =w.heap[b]?):Below w.heap.size w u:=
 ⟨f.os.trans e.os.symm,f.tape.trans e.tape.symm,f.output.trans e.output.symm,h.1,λb g=>by
  rcases CC b W.heap.size with c|c
  .rw[f.block b c,e.block b c]
  .exact h.2 b c g⟩
theorem K8.bel{w u:YM}{g:Nat}{cs:List YI}(h:K8 w g cs)(b:Below w.heap.size w u):K8 u g cs:=h.toW (b.block g h.ltW)
section
variable{w W u:YM}{A:YY}{n c:Nat}{H:List LP}{rule:Int}
theorem nS{T Y gf Q l Ks:Nat}{lo hi fr wI N:RV}{p q t:Rat}{D y:Int}(wJ:Below W.heap.size W w)(B:W.heap.size<=l)(b1:K8 w T [.slice A n c])(b2:K8 w Y [.int .i64 rule])(b3:K8 w gf fr.cl)(b4:K8 w Q wI.cl)(J:K8 w l N.cl)
 (hp:Nw w A n H) (hn:n<=1000000) (s:vL 0 (K5 H)=true) (hV:(K5 H).flatten.length<=600) (X:rule=1\/rule=2) (x:Nf lo p 7 w) (E:Nf hi q 7 w) (hf:Nf fr (D:Rat) 2 w) (ht:Nf wI (y:Rat) 2 w) (hs:Nf N t Ks w) (hK:2<=Ks/\Ks<=17000000000):
 Ca 297 #[lo.val,hi.val,Kp T,Kp Y,Kp gf,Kp Q,Kp l] w (L4 w [l] (λ_:RV=> .tuple #[]) λr u=>K8 u l r.cl/\Kn r (t+Dx (Qx (K5 H) rule ((p+q)/2)) D y*(q-p)) (Ks+31218) u):=by
 have f:∀{u:YM},Below W.heap.size W u->(w.heap.size<=u.heap.size/\∀b,W.heap.size<=b->b<w.heap.size->u.heap[b]? =w.heap[b]?)->Below w.heap.size w u:=λhu h=>B3 wJ hu h
 refine uB func297 rfl wJ<|ZR<|ZB 0 (Ke 132 ⟨T,0,none⟩) (.slice A n c) (λm g h=>(b1.bel (f g h)).load1 O)<|ZB 1 (Ke 3 ⟨Y,0,none⟩) (.int .i64 rule) (λm g h=>(b2.bel (f g h)).load1 O)<|ZB 6 (Ke 53 ⟨gf,0,none⟩) (fr.val) (λm g h=>Ka (vs:=fr.cl) O O (b3.bel (f g h)).range)<|ZB 7 (Ke 53 ⟨Q,0,none⟩) (wI.val) (λm g h=>Ka (vs:=wI.cl) O O (b4.bel (f g h)).range)<|ZC (λm g h=>nW (x.below (f g h)) (E.below (f g h)) ⟨by decide,by decide,by decide⟩) λmid=>ZC (λm g h=>(kH (c:=c) (yR:=mid) (yq:=(p+q)/2) (K:=15) (rule:=rule) (hp.below (f g h.1)) hn s X h.2.q ⟨by decide,by decide⟩).mono λe w' k=>k.cast (G':=λr u=>Mj 411 8 Lg Qu w.heap.size 25 r.1 r.2.1 u) λr u h2=>h2.mono h.1.1) λsp=> ?_
 refine ZC (λm g h=>fS (c:=sp.1.2) (Z:=sp.2.1) (K:=25) (h.2.rows M7) (λz hz=>⟨(h.2.num z hz (z.1.1,z.2.1) (by simp[Qu])).q,(h.2.num z hz (z.1.2,z.2.2) (by simp[Qu])).q⟩) ((hf.below (f g h.1.1)).mono Zd) ((ht.below (f g h.1.1)).mono Zd) (by have:=sp.2.2.2;omega) ⟨by decide,by decide⟩) λln=> ?_
 have hln:2+sp.2.1.length*(2*25+2)<=31202:=by have:=sp.2.2.2;omega
 refine ZB 0 (Ke 53 ⟨l,0,none⟩) (N.val) (λm g h=>Ka (vs:=N.cl) O O (J.bel (f g h.1.1.1)).range)<|ZC (λm g h=>Aj (E.below (f g h.1.1.1)) (x.below (f g h.1.1.1)) ⟨by decide,by decide,by decide⟩) λdf=>ZC (λm g h=>Pi (h.1.2.mono hln).q h.2.q ⟨by decide,by decide,by decide⟩) λml=>ZC (λm g h=>(S5 (hs.below (f g h.1.1.1.1.1)) h.2.q ⟨hK.1,by decide,by omega⟩).mono λe w' k=>K4.apt (R:=λr=>∀b∈M6 r,w.heap.size<=b) k (λr=>M6 r) (λr u k=>k.blk) (λr X b o=>AH h.1.1.1.1.1.1 (X b o))) λr=> ?_
 have F:t+Dx (sp.2.1.map (·.2)) D y*(q-p)=t+Dx (Qx (K5 H) rule ((p+q)/2)) D y*(q-p):=by rw[sp.2.2.1]
 rw[F];have S:l<w.heap.size:=J.ltW;refine uE (L:=[l]) (G:=λu=>K8 u l r.cl) (Φ':=λu=>Kt W w l u/\K8 u l r.cl/\Kn r (t+Dx (Qx (K5 H) rule ((p+q)/2)) D y*(q-p)) (Ks+(31202+(7+7+1))+1) u/\∀b∈M6 r,w.heap.size<=b) (Om 53 ⟨l,0,none⟩ r.val) (λm g h=>by
  have h3:=(J.bel (f g h.1.1.1.1.1.1)).storeN (P:=XM) (t:=53) (v:=r.val) (j:=0) O (by show 0+4<=4;omega) (λv s=>by have s:v∈r.cl:=s;simp[RV.cl]at s;rcases s with rfl|rfl|rfl|rfl<;>rfl);exact h3) (λu h=>Za ⟨B,by have:=h.1.1.1.1.1.1;obtain⟨ty,h2⟩:=J;exact⟨_,_,_,(this.2 _ B S).trans h2⟩⟩) (λwa u e1 e2 h hG=>⟨⟨by rw[<-e1];exact h.1.1.1.1.1.1.1,λb U k2 k3=>(e2 b (by simpa using k3)).symm.trans (h.1.1.1.1.1.1.2 b U k2)⟩,hG,h.2.1.leftL e1 e2 (λb o hc=>by have h1:=h.2.2 b o;have hc:=AE.1 hc;omega),h.2.2⟩) O O ?_
 refine ZR<|ZV (.tuple #[]) (λm g h=>⟨r,rfl,(Yh h).1.chg wJ g,λu U k2=>(λM=>⟨M.2.1.toW (k2 l (.inl Zs)),M.2.2.1.same U λb o=>k2 b (.inr ⟨M.2.2.2 b o,Og M.2.2.1 b o⟩)⟩) (Yh h)⟩)
end
theorem RW{Δ:List XY}{W:YM}{Φ:YM->Prop}{σ:AS}{β:Nat->Nat}{a:Act}{w:YM}{k:Nat}{vs:List YI}(l:(σ.tmps.all λx=>(Fc k 0 x).ids.all λi=>(C9 k σ.box i).isSome)=true)(z:σ.box k=some (vs.map .v))(F:σ.wf)(g:Ok Δ W β σ Φ a w):
 W.heap.size<=β k/\(AS.mk (σ.tmps.map (Fc k (β k))) (C9 k σ.box)).wf/\Ok Δ W β (AS.mk (σ.tmps.map (Fc k (β k))) (C9 k σ.box)) (λu=>Φ u/\K8 u (β k) vs) a w:=by
 obtain⟨t,ty,A⟩:=g.box k _ z;refine⟨t,⟨λx p i hi=> ?_,λj cs f x p i hi=> ?_⟩,⟨?_,g.defers,g.bel,λj cs f=>g.box j cs (Mf f).1,λj B f s e=> ?_,λG o=> ?_⟩⟩
 .obtain⟨y,E,rfl⟩:=CM.1 p;rw[NW]at hi;exact AW.1 (AW.1 l y E) i hi
 .have:=AW.1 (Mf f).2.2 x p;cases x<;>first|(simp[AV.ids]at hi;done)|cases this
 .rw[g.tmps];simp only[List.map_map];exact List.map_congr_left λx _=>(EX x).symm
 .obtain⟨cs,c⟩:=BB.1 f;obtain⟨H,h⟩:=BB.1 s;exact g.inj j B (by rw[(Mf c).1];rfl) (by rw[(Mf h).1];rfl) e
 .have m:∀j,(C9 k σ.box j).isSome=true->β k≠β j:=λj f e=>by
   obtain⟨cs,c⟩:=BB.1 f;exact(Mf c).2.1 (g.inj k j (by rw[z];rfl) (by rw[(Mf c).1];rfl) e).symm
  refine⟨g.keep G ⟨o.size,λb D k2 J=>o.heap b D k2 λj f=>J j ?_⟩,ty,?_⟩
  .obtain⟨cs,c⟩:=BB.1 f;rw[(Mf c).1];rfl
  .rw[o.heap (β k) t (BL.1 A).1 λj f=>(m j f).symm,A];simp[AV.conc,CP]
section
variable{P:YH}{Δ:List XY}{W:YM}{Q:Exit->Act->YM->Prop}{Φ:YM->Prop}{c:Mm}
theorem vU [Rnd](R:Nat->Prop)(hR:∀(w:YM) (g:Nat),g<w.heap.size->Φ w->Φ {w with heap:=w.heap.setIfInBounds g (.pending #[] 0)}->R g)(j k2 z:Nat)(wJ Z S:List YI)(G:Iy j c=true)(b1:c.st.box j=some (wJ.map .v))(o2:∀g,Iy k2 (Sf j g c)=true)(b2:∀g,(Sf j g c).st.box k2=some (Z.map .v))(o3:∀g U,Iy z (Sf k2 U (Sf j g c))=true)(b3:∀g U,(Sf k2 U (Sf j g c)).st.box z=some (S.map .v))
 (h:∀k p m,W.heap.size<=k->W.heap.size<=p->W.heap.size<=m->k≠p->k≠m->p≠m->R k->K0 P Δ W Q (λu=>((Φ u/\K8 u k wJ)/\K8 u p Z)/\K8 u m S) (Sf z m (Sf k2 p (Sf j k c)))):K0 P Δ W Q Φ c:=by
 obtain⟨A,N,σ⟩:=c;have hf:JH ⟨A,N,σ⟩=true:=by unfold Iy at G;exact(AP _ _▸G).1
 have E:∀{β:Nat->Nat} {a:Act} {w:YM},σ.wf->Ok Δ W β σ Φ a w->∃k p m,W.heap.size<=k/\W.heap.size<=p/\W.heap.size<=m/\k≠p/\k≠m/\p≠m/\R k/\(Sf z m (Sf k2 p (Sf j k ⟨A,N,σ⟩))).st.wf/\Ok Δ W β (Sf z m (Sf k2 p (Sf j k ⟨A,N,σ⟩))).st (λu=>((Φ u/\K8 u k wJ)/\K8 u p Z)/\K8 u m S) a w:=by
  intro β a w s t;unfold Iy at G o2 o3;simp only[AP]at G o2 o3;obtain⟨D,Y,r1⟩:=RW G.2 b1 s t;obtain⟨B,M,r2⟩:=RW (o2 (β j)).2 (b2 (β j)) Y r1;obtain⟨F,wf3,r3⟩:=RW (o3 (β j) (β k2)).2 (b3 (β j) (β k2)) M r2;have T:(σ.box j).isSome=true:=by rw[show σ.box j=_ from b1];rfl
  have X:β j<w.heap.size:=by obtain⟨_,ty,B⟩:=t.box j _ b1;exact(BL.1 B).1
  have x2:=Mf (show C9 j σ.box k2=_ from b2 0);have x3:=Mf (show C9 k2 (C9 j σ.box) z=_ from b3 0 0);have x4:=Mf x3.1;have s2:(σ.box k2).isSome=true:=by rw[x2.1];rfl
  have s3:(σ.box z).isSome=true:=by rw[x4.1];rfl
  exact⟨β j,β k2,β z,D,B,F,λe=>x2.2.1 (t.inj j k2 T s2 e).symm,λe=>x4.2.1 (t.inj j z T s3 e).symm,λe=>x3.2.1 (t.inj k2 z s2 s3 e).symm,hR w (β j) X t.phi (t.keep {w with heap:=w.heap.setIfInBounds (β j) (.pending #[] 0)} ⟨by simp,λb _ _ k3'=>Array.getElem?_setIfInBounds_ne (k3' j T)⟩),wf3,r3⟩
 refine⟨?_⟩;cases A with
 |code x=>exact λs β a w t=>by obtain⟨k,p,m,D,B,F,K,J,H,y,wI,L⟩:=E s t;exact(h k p m D B F K J H y).get wI β a w L
 |ops o l=>exact λs β a w t=>by obtain⟨k,p,m,D,B,F,K,J,H,y,wI,L⟩:=E s t;exact(h k p m D B F K J H y).get wI β a w L
 |any o f l=>cases hf
 |out e=>exact λs β a w t=>by obtain⟨k,p,m,D,B,F,K,J,H,y,wI,L⟩:=E s t;exact(h k p m D B F K J H y).get wI β a w L
end
theorem UN{u:YM}{g:Nat}{r:RV}{q:Rat}{K:Nat}(c:g<u.heap.size)(h:Kn r q K {u with heap:=u.heap.setIfInBounds g (.pending #[] 0)}):g∉M6 r:=λe=>by
 obtain⟨_,_,_,b⟩:=h.blk g e;rw[Array.getElem?_setIfInBounds_self_of_lt c]at b;cases b
theorem Pb(a:XR)(m:Nat):(a.add m).block=a.block:=by
 cases a;unfold Addr.add;split<;>rfl
theorem Kk.left{α:Type}{c u:YM}{A:YY}{n s:Nat}{cl:α->List YI}{l:List α}{L:List Nat}(h:Kk c A n s cl l)(f:∀b∈bl A,b∉L)(o:∀b,b∉L->c.heap[b]? =u.heap[b]?):Kk u A n s cl l:=⟨h.1,λk x g=>by
 obtain⟨ad,e,p⟩:=h.2 k x g;refine⟨ad,e,λj v m=>(World.cell?_of_block ?_).trans (p j v m)⟩;rw[Pb,Pb];exact(o _ (f _ (by rw[e];simp[bl]))).symm⟩
theorem ME(x:Rat):∀l:List Rat,(Fa x l).length<=l.length+1
 | []=>by simp[Fa]
 | y::l=>by
  unfold Fa;split
  .simp
  .split
   .simp
   .have:=ME x l;simp;omega
theorem aC(l:List Rat):(A7 l).length<=l.length:=by
 unfold A7;induction l with
 |nil=>simp
 |cons x l b=>have:=ME x (l.foldr Fa []);simp only[List.foldr_cons,CG];omega
theorem ZK{L:List (List Pt)}{a b:Pt}(g:L.flatten.length<=600):(Cb L a b).length<=362000:=by
 have h:=aC (Hw L a b);have e:=Dq a.1 b.1 [] (Ku L);have f:=Ri L;have j:(Ku L).length*(2+0+(Ku L).length)<=600*(2+0+600):=BF I I;simp only[CH]at e;have c:(Hw L a b).length<=2+((L.flatten.map λp=>(p.2:Rat))++Tm a.1 b.1 [] (Ku L)).length:=by
  unfold Hw;simp only[CG];have:=List.length_filter_le (λy=>decide ((a.2:Rat)<y)&&decide (y<(b.2:Rat))) ((L.flatten.map λp=>(p.2:Rat))++Tm a.1 b.1 [] (Ku L));omega
 rw[AK,AO]at c;unfold Cb;omega
section
variable{w u:YM}{A:YY}{n c:Nat}{H:List LP}{rule x y:Int}{a b:Pt}{B:Bool}
theorem TB{e:Int}(l:Nw w A n H)(j:n<=1000000)(k:∀x∈H,x.1.length<=1000000)(s:e=if vL 0 (K5 H)=false then 12 else if rule=1\/rule=2 then 0 else 2):
 Ca 296 #[.slice A n c,.int .i64 rule] w (CU w (.int .i64 e)):=by
 subst s;cases g:vL 0 (K5 H)
 .exact uf func296 rfl<|ZR<|ZC (λp f h=>Oz (c:=c) (l.below f) j k g) λv=>ZI true<|ZW (.int .i64 12)
 by_cases o:rule=1
 .subst o;exact uf func296 rfl<|ZR<|ZC (λp f h=>Oz (c:=c) (l.below f) j k g) λv=>ZI false<|ZI false<|ZW (.int .i64 0)
 by_cases m:rule=2
 .subst m;exact uf func296 rfl<|ZR<|ZC (λp f h=>Oz (c:=c) (l.below f) j k g) λv=>ZI false<|ZI false<|ZW (.int .i64 0)
 exact uf func296 rfl<|ZR<|ZC (λp f h=>Oz (c:=c) (l.below f) j k g) λv=>uu false O<|ZS 2<|ZT 11 (.bool (rule !=1)) (.bool true) (by simp[o])<|ZJ (rule !=2) true (by simp[m])<|ZX (.int .i64 2) (by simp[o,m])
theorem be(l:Nw w A n H)(g:n<=1000000)(k:∀x∈H,x.1.length<=1000000)(f:vL 0 (K5 H)=false):Ca 260 #[.slice A n c,.int .i64 rule,Km a,Km b] w (CU w (.tuple #[Ou.val,.int .i64 12])):=uf func260 rfl<|ZR<|ZC (λm j h=>TB (e:=12) (rule:=rule) (c:=c) (l.below j) g k (by rw[f];rfl)) λe=>ZI true<|ZW (.tuple #[Ou.val,.int .i64 12])
theorem K8.neL{u:YM}{g l:Nat}{cs f:List YI}(h:K8 u g cs)(k:K8 u l f)(m:cs.length≠f.length):g≠l:=λe=>by
 obtain⟨t,h⟩:=h;obtain⟨o,k⟩:=k;subst e;have j:(some (Obj.cells cs.toArray t (0,0)):Option Obj)=some (Obj.cells f.toArray o (0,0)):=h.symm.trans k;injection j with j;injection j with j;exact m (by have:=congrArg Array.size j;simpa using this)
def nB(q:(YZ)×List RQ):List Nat:=(if q.2=[]then []else bl q.1.1)++q.2.flatMap λr=>M6 r.1
theorem m3{q:(YZ)×List RQ}(h:Kk u q.1.1 q.2.length 4 Oe q.2/\∀r∈q.2,Kn r.1 r.2 7 u):∀b∈nB q,∃cs ty own,u.heap[b]? =some (.cells cs ty own):=λb e=>by
 unfold nB at e;rcases BI.1 e with e|e
 .split at e
  .cases e
  .rename_i o;obtain⟨x,l,g⟩:=List.exists_cons_of_ne_nil o;obtain⟨ad,k,j⟩:=h.1.2 0 x (by rw[g];rfl);have f:=U8 (j 0 (.bool x.1.a.s) rfl);rw[Pb,Pb]at f;rw[k]at e;simp only[bl,AE]at e;rw[e];exact f
 .obtain⟨r,m,e⟩:=List.mem_flatMap.1 e;exact(h.2 r m).blk b e
structure IB(A:YY)(n c:Nat)(rule:Int)(gl gr gf gt gs:Nat)(fr te:RV)(x0 x1:Int)(yA:YY)(hs:List RQ)(u:YM):Prop where
 b1:K8 u gl [.slice A n c]
 b2:K8 u gr [.int .i64 rule]
 b3:K8 u gf fr.cl
 b4:K8 u gt te.cl
 qf:Kn fr (x0:Rat) 2 u
 qt:Kn te (x1:Rat) 2 u
 row:Kk u yA hs.length 4 Oe hs
 num:∀r∈hs,Kn r.1 r.2 7 u
theorem IB.left{v D gf t e:Nat}{fr s:RV}{G F:Int}{z:YY}{j:List RQ}{m u:YM}(h:IB A n c rule v D gf t e fr s G F z j m)(o:v≠e/\D≠e/\gf≠e/\t≠e)(K:e∉M6 fr/\e∉M6 s)(N:j≠[]->e∉bl z)(Z:∀r∈j,e∉M6 r.1)(E:m.heap.size=u.heap.size)(l:∀b,b∉[e]->m.heap[b]? =u.heap[b]?):IB A n c rule v D gf t e fr s G F z j u:=by
 have p:∀b,b≠e->u.heap[b]? =m.heap[b]? :=λb f=>(l b (by simpa using f)).symm
 refine⟨h.b1.toW (p _ o.1),h.b2.toW (p _ o.2.1),h.b3.toW (p _ o.2.2.1),h.b4.toW (p _ o.2.2.2),h.qf.leftL E l (λb f g=>K.1 (AE.1 g▸f)),h.qt.leftL E l (λb f g=>K.2 (AE.1 g▸f)),?_,λr J=>(h.num r J).leftL E l (λb f g=>Z r J (AE.1 g▸f))⟩
 by_cases wI:j=[]
 .subst wI;exact⟨rfl,λk x M=>by simp at M⟩
 .exact h.row.left (L:=[e]) (λb f g=>N wI (by rw[<-AE.1 g];exact f)) l
theorem js(hp:Nw w A n H)(hn:n<=1000000)(hv:vL 0 (K5 H)=true)(hV:(K5 H).flatten.length<=600)(hr:rule=1\/rule=2)(ha:vP a=true)(wI:vP b=true)(hx:a.1<b.1)(hy:a.2<b.2):
 Ca 260 #[.slice A n c,.int .i64 rule,Km a,Km b] w (K4 w (λr:RV=> .tuple #[r.val,.int .i64 0]) λr u=>Kn r (Yw (K5 H) rule a b) 11400000000 u):=by
 have hva:=O0 ha;have hvb:=O0 wI;have hl:∀x∈H,x.1.length<=1000000:=λx hx=>by
  have:x.1.length<=(K5 H).flatten.length:=List.Sublist.length_le (List.sublist_flatten_of_mem (List.mem_map_of_mem hx));omega
 refine uf func260 rfl<|ZR<|ZC (λs m h=>TB (e:=0) (rule:=rule) (c:=c) (hp.below m) hn hl (by rw[hv];simp[hr])) λe=>ZI false<|ZC (λs m h=>Mg (X:=a.1) (Y:=a.2) (B:=true) ha) λv1=>ZC (λs m h=>Mg (X:=b.1) (Y:=b.2) (B:=true) wI) λv2=>ZI false<|ZC (λs m h=>Ki 0 s Zd Zd) λU=>YN (b.1<=a.1)<|ZC (λs m h=>Ki a.1 s I I) λfr=>ZD 0 (λs m h=>Ki b.1 s I I) λP=>uo O (stop:=1000) 2 _<|uq 4 [.slice A n c] O O λQ hgl=>uq 5 [.int .i64 rule] O O λgr hgr=>vU (λg=>g∉M6 fr/\g∉M6 P) (λu g hg h N=>⟨UN hg N.1.1.1.2,UN hg N.1.1.2⟩) 11 12 13 U.cl fr.cl P.cl O O Zf (λ_=>O) (λ_ _=>O) (λ_ _=>O) λo gf gt hgs hgf hgt n1 n2 _ hmu=>uN (Φ':=λu=>(K8 u Q [.slice A n c]/\K8 u gr [.int .i64 rule]/\K8 u gf fr.cl/\K8 u gt P.cl/\Kn fr (a.1:Rat) 2 u/\Kn P (b.1:Rat) 2 u)/\K8 u o U.cl/\Kn U 0 2 u) O (λu h=>⟨⟨h.1.1.1.1.2,h.1.1.1.2,h.1.2,h.2,h.1.1.1.1.1.1.2,h.1.1.1.1.1.2⟩,h.1.1.2,h.1.1.1.1.1.1.1.2⟩)<|um (p:=Q≠o/\gr≠o) (λu hu h=>⟨h.1.1.neL h.2.1 (by simp[RV.cl]),h.1.2.1.neL h.2.1 (by simp[RV.cl])⟩) O λhne=>ZR<|ZA (Ke 132 ⟨Q,0,none⟩) (.slice A n c) (λs m h=>h.1.1.load1 O)<|ZC (λs m h=>(WN (c:=c) (hp.below m) hn hv ha wI hy).mono λe w' k=>K4.apt (R:=λq=>∀b∈nB (q.1,q.2.1),b≠o) k (λq=>nB (q.1,q.2.1)) (λq u h=>m3 h) (λq hq b wI e=>by have D:=hq b wI;have N:=h.2.1.ltW;omega)) λev=> ?_
 obtain⟨yq,⟨f,hhs⟩⟩:=ev;have hlen:f.length<=362000:=by
  have D:=ZK (L:=K5 H) (a:=a) (b:=b) hV;rw[<-hhs,AO]at D;exact D
 refine um (p:=∀b∈nB (yq,f),b≠o) (λu hu h=>h.2.2) O (λhap=> ?_);have hap1:f≠[]->o∉bl yq.1:=λh0 hc=>hap o (by unfold nB;rw[YT h0];exact BI.2 (.inl hc)) rfl
 have S:∀r∈f,o∉M6 r.1:=λr hr hc=>hap o (by unfold nB;exact BI.2 (.inr (List.mem_flatMap.2 ⟨r,hr,hc⟩))) rfl
 refine uj (ι:={q:Nat×RV×Rat // q.1<=f.length/\Yv (K5 H) rule a b q.2.2 ((f.map (·.2)).drop q.1)=Yw (K5 H) rule a b}) 70 (λq=>⟨[(8,.p 8 0),vV 11 (Kp o),vV 14 (.func (.func 297) #[] #[Kp Q,Kp gr,Kp gf,Kp gt,Kp o]),vS 15 yq.1 f.length yq.2,vI 16 (q.1.1:Int)],[(8,Ou.cl.map .v)]⟩) (λq u=>IB A n c rule Q gr gf gt o fr P a.1 b.1 yq.1 f u/\K8 u o q.1.2.1.cl/\Kn q.1.2.1 q.1.2.2 (2+q.1.1*31218) u) (λq=>f.length-q.1.1) (⟨(0,U,0),AD _,by show Yv (K5 H) rule a b 0 ((f.map (·.2)).drop 0)=_;rw[CL,hhs];rfl⟩) O Zf Zt (λu h=>⟨⟨h.1.1.1,h.1.1.2.1,h.1.1.2.2.1,h.1.1.2.2.2.1,h.1.1.2.2.2.2.1,h.1.1.2.2.2.2.2,h.2.1.1,h.2.1.2⟩,h.1.2.1,by show Kn U 0 (2+0*31218) u;exact h.1.2.2⟩) ?_
 rintro⟨⟨i,wJ,t⟩,hi,E⟩ gg;have hi:i<=f.length:=hi;have E:Yv (K5 H) rule a b t ((f.map (·.2)).drop i)=Yw (K5 H) rule a b:=E
 by_cases T:i+1<f.length
 case neg=>
  have Z:t=Yw (K5 H) rule a b:=by
   rw[<-E];have D:((f.map (·.2)).drop i).length<=1:=by rw[BQ,AO];omega
   generalize (f.map (·.2)).drop i=l at D
   match l,D with
   | [],_=>rfl
   | [_],_=>rfl
   |_::_::_,D=>simp at D
  subst Z;refine ZR<|ZJ (decide (XQ.wrap ((i:Int)+1)<(f.length:Int))) false (by rw[AA _ I];exact YV I)<|ug O<|ZR<|ZA (Ke 53 ⟨o,0,none⟩) (wJ.val) (λs m h=>Ka (vs:=wJ.cl) O O h.2.1.range)<|ZV (.tuple #[wJ.val,.int .i64 0]) (λs m h=>⟨wJ,rfl,m,λW k1 k2=>Kn.mono (show Kn wJ (Yw (K5 H) rule a b) (2+i*31218) W from(h W k1 k2).2.2) I⟩)
 obtain⟨p,J⟩:=Yg f i;obtain⟨q,K⟩:∃q,f[i+1]? =some q:=⟨_,AB T⟩
 have hpm:=AF J;have hqm:=AF K;have M:Yv (K5 H) rule a b (t+Dx (Qx (K5 H) rule ((p.2+q.2)/2)) a.1 b.1*(q.2-p.2)) ((f.map (·.2)).drop (i+1))=Yw (K5 H) rule a b:=by
  have d1:(f.map (·.2)).drop i=p.2::(f.map (·.2)).drop (i+1):=N3 (by rw[BD,J];rfl)
  have d2:(f.map (·.2)).drop (i+1)=q.2::(f.map (·.2)).drop (i+1+1):=N3 (by rw[BD,K];rfl)
  rw[d1,d2]at E;rw[d2];exact E
 refine um (p:=∃ad,yq.1=some ad) (λu hu h=>by obtain⟨ad,D,_⟩:=h.1.row.2 i p J;exact⟨ad,D⟩) O (λF=> ?_);obtain⟨ad,F⟩:=F;have el:∀{v:YM} {j:Nat} {x:RQ},Kk v yq.1 f.length 4 Oe f->f[j]? =some x->∀(k:Nat) (z:YI),(Oe x)[k]? =some z->v.cell? ((ad.add (j*4)).add k)=some z:=λh hx=>by
  obtain⟨ad2,D,N⟩:=h.2 _ _ hx;rw[F]at D;injection D with D;subst D;exact N
 have hi2:2+i*31218<=11400000000:=I
 refine ZR<|ZJ (decide (XQ.wrap ((i:Int)+1)<(f.length:Int))) true (by rw[AA _ I];exact YU I)<|YB 65 ((i:Int)+1) ((i+1:Nat):Int)<|ZB 3 (Kd 88 (.slice yq.1 f.length yq.2) i) (.pointer (some (ad.add (i*4)))) (λs m h=>by rw[F];exact L9 (elem:=53) O O I)<|ZB 4 (Ke 53 (ad.add (i*4))) (p.1.val) (λs m h=>Mh (vs:=Oe p) O O (el h.1.row J))<|ZB 8 (Kd 88 (.slice yq.1 f.length yq.2) ((i+1:Nat):Int)) (.pointer (some (ad.add ((i+1)*4)))) (λs m h=>by rw[F];exact L9 (elem:=53) O O T)<|ZB 9 (Ke 53 (ad.add ((i+1)*4))) (q.1.val) (λs m h=>Mh (vs:=Oe q) O O (el h.1.row K))<|uH (L:=[o]) (val:=λ_:RV=> .tuple #[]) (G:=λr u=>K8 u o r.cl/\Kn r (t+Dx (Qx (K5 H) rule ((p.2+q.2)/2)) a.1 b.1*(q.2-p.2)) (2+i*31218+31218) u) (Φ':=λr u=>IB A n c rule Q gr gf gt o fr P a.1 b.1 yq.1 f u/\K8 u o r.cl/\Kn r (t+Dx (Qx (K5 H) rule ((p.2+q.2)/2)) a.1 b.1*(q.2-p.2)) (2+i*31218+31218) u) (λs m h=>nS m hgs h.1.b1 h.1.b2 h.1.b3 h.1.b4 h.2.1 (hp.below m) hn hv hV hr (h.1.num p hpm).q (h.1.num q hqm).q h.1.qf.q h.1.qt.q (show Nf wJ t (2+i*31218) s from h.2.2.q) ⟨by omega,by omega⟩) (λu h b wI=>by have wI:=AE.1 wI;subst wI;obtain⟨ty,N⟩:=h.2.1;exact⟨hgs,_,_,_,N⟩) (λr wa u e1 e2 h hG=>⟨h.1.left ⟨hne.1,hne.2,λe=>n1 e.symm,λe=>n2 e.symm⟩ hmu hap1 S e1 e2,hG⟩) O O λr=>ZR<|YB 16 ((i:Int)+1) ((i+1:Nat):Int)<|ui (⟨(i+1,r,t+Dx (Qx (K5 H) rule ((p.2+q.2)/2)) a.1 b.1*(q.2-p.2)),Zn,M⟩) O Zn Zt (λu h=>⟨h.1,h.2.1,by show Kn r _ (2+(i+1)*31218) u;rw[AR,Nat.one_mul,<-Nat.add_assoc];exact h.2.2⟩)
end
theorem Jh{L:List (List Pt)}{x y:Int}{lo hi:Pt}(h:∀p∈L.flatten,lo.1<=p.1/\p.1<=hi.1/\lo.2<=p.2/\p.2<=hi.2)(e:¬((lo.1/256<=x/\x<(hi.1+255)/256)/\(lo.2/256<=y/\y<(hi.2+255)/256))):Ej L (P6 x y) (P6 (x+1) (y+1)):=by
 by_cases c:lo.1/256<=x
 .by_cases c2:x<(hi.1+255)/256
  .by_cases f:lo.2/256<=y
   .refine .inr (.inl λp b=> ?_);have:=h p b;show p.2<=y*256;omega
   .refine .inl λp b=> ?_
    have:=h p b;show(y+1)*256<=p.2;omega
  .refine .inr (.inr (.inr (.inl λp b=> ?_)));have:=h p b;show p.1<=x*256;omega
 .refine .inr (.inr (.inl λp b=> ?_));have:=h p b;show(x+1)*256<=p.1;omega
theorem rt:C_ (0/65536)=0:=by
 have:(0:Rat)/65536=0:=by rw[Rat.div_def,Rat.zero_mul]
 rw[this];unfold C_;rw[YS (Rat.le_refl)]
theorem LK{L:List (List Pt)}{rule x y:Int}(h:Ej L (P6 x y) (P6 (x+1) (y+1))):VZ L rule x y=0:=by
 unfold VZ;rw[aN h (by show y*256<=(y+1)*256;omega)];exact rt
theorem lu{rule x y:Int}:VZ [] rule x y=0:=LK (.inl λp b=>by simp at b)
theorem FL(f:Rat):C_ f<256:=by
 unfold C_;split
 .decide
 .split
  .decide
  .rename_i g e;have:(f*255+1/2).floor<256:=by
    have b:f*255+1/2<((256:Int):Rat):=by
     have:((256:Int):Rat)=256:=by rfl
     rw[this];grind
    have c:=Rat.floor_lt_iff.2 b;exact c
   omega
def EC(n:Nat):Nat:=(n+127)/255
def Al(a b:Nat):Nat:=EC (a*b)
def WP(n:Nat):Nat:=min (EC n) 255
theorem G4{n a:Nat}(h:n<=255):Al n a<=a:=by
 have:=AC a h;unfold Al EC;omega
theorem Rq{a b:Nat}(h:a<=255)(k:b<=255):Al a b<=255:=AH (G4 h) k
theorem Vs(n:Nat):WP n<=255:=Nat.min_le_right _ _
theorem J2{m n:Nat}(h:m<=n):WP m<=WP n:=by unfold WP EC;omega
structure Px where
 r:Nat
 g:Nat
 b:Nat
 a:Nat
deriving DecidableEq
structure Px.ok(p:Px):Prop where
 r:p.r<=255
 g:p.g<=255
 b:p.b<=255
 a:p.a<=255
def Px.clamp(p:Px):Px:=⟨min p.r p.a,min p.g p.a,min p.b p.a,min p.a p.a⟩
def Px.scale(p:Px)(k:Nat):Px:=⟨Al p.r k,Al p.g k,Al p.b k,Al p.a k⟩
def Px.pre(c:Px):Px:=⟨Al c.r c.a,Al c.g c.a,Al c.b c.a,c.a⟩
def El(s sa d da:Nat):Nat:=WP (s*(255-da)+d*(255-sa)+s*da)
def R9(sa da:Nat):Nat:=WP (sa*(255-da)+da*(255-sa)+sa*da)
def Px.over(s d:Px):Px:=⟨El s.clamp.r s.clamp.a d.clamp.r d.clamp.a,El s.clamp.g s.clamp.a d.clamp.g d.clamp.a,El s.clamp.b s.clamp.a d.clamp.b d.clamp.a,R9 s.clamp.a d.clamp.a⟩
def Px.blend(s d:Px)(k:Nat):Px:=(s.scale k).over d
theorem Px.ok.clamp{p:Px}(h:p.ok):p.clamp.ok:=⟨AH (Nat.min_le_left _ _) h.r,AH (Nat.min_le_left _ _) h.g,AH (Nat.min_le_left _ _) h.b,AH (Nat.min_le_left _ _) h.a⟩
theorem Px.ok.scale{p:Px}{k:Nat}(h:p.ok)(c:k<=255):(p.scale k).ok:=⟨Rq h.r c,Rq h.g c,Rq h.b c,Rq h.a c⟩
theorem Px.ok.pre{p:Px}(h:p.ok):p.pre.ok:=⟨Rq h.r h.a,Rq h.g h.a,Rq h.b h.a,h.a⟩
theorem vA(s d:Px):(s.over d).ok:=⟨Vs _,Vs _,Vs _,Vs _⟩
theorem vG{p:Px}(h:p.ok):p.pre.clamp=p.pre:=by
 unfold Px.clamp Px.pre;simp only[Nat.min_self,AU (G4 h.r),AU (G4 h.g),AU (G4 h.b)]
theorem JT{s sa d da:Nat}(h:s<=sa)(k:d<=da):El s sa d da<=R9 sa da:=
 J2 (Nat.add_le_add (Nat.add_le_add (AC _ h) (AC _ k)) (AC _ h))
theorem u7{p:Px}(f:p.r<=p.a)(c:p.g<=p.a)(e:p.b<=p.a):p.clamp=p:=by
 unfold Px.clamp;rw[AU f,AU c,AU e,Nat.min_self]
theorem vi(s d:Px):(s.over d).clamp=s.over d:=by
 have c:∀p:Px,p.clamp.r<=p.clamp.a/\p.clamp.g<=p.clamp.a/\p.clamp.b<=p.clamp.a:=λp=>by
  simp only[Px.clamp,Nat.min_self];exact⟨Nat.min_le_right _ _,Nat.min_le_right _ _,Nat.min_le_right _ _⟩
 exact u7 (JT (c s).1 (c d).1) (JT (c s).2.1 (c d).2.1) (JT (c s).2.2 (c d).2.2)
section
variable{w u:YM}{A:YY}{n c K:Nat}{H:List LP}{rule x y z:Int}{a b:Pt}{r:RV}{q:Rat}
theorem lB(f: -4096<=z)(e:z<=4096):Ca 295 #[.int .i64 z] w (CU w (.bool false)):=uf func295 rfl<|ZS 2<|YG 4 (z< -4096) I<|YF 7 (z>4096) I<|YF 2 (z>4096) I<|ZW (.bool false)
theorem Ux(e: -4096<=x/\x<=4096)(f: -4096<=y/\y<=4096):Ca 258 #[.int .i64 x,.int .i64 y] w (CU w (Km (P6 x y))):=uf func258 rfl<|ZR<|ZC (λj g h=>lB e.1 e.2) λk=>ZC (λj g h=>lB f.1 f.2) λl=>ZI false<|ZX (pt (XQ.wrap (x*256)) (XQ.wrap (y*256))) (by rw[AA _ I,AA _ I];rfl)
theorem fM(o:Nf r q K w)(p:2<=K/\K<=17000000000):Ca 259 #[r.val,.int .i64 0] w (K4 w (λv:RV=> .tuple #[v.val,.int .i64 0]) λv u=>Kn v (q/65536) (K+2) u):=by
 have g:((65536:Int):Rat)≠0:=Zd
 refine uf func259 rfl<|ZR<|ZI false<|ZC (λl e h=>Ki 65536 l Zd Zd) λf=>ZC (λl e h=>HY (o.below e) h.2.q ⟨p.1,by decide,by omega⟩) λd=>ZV (.tuple #[d.val,.int .i64 0]) (λl e h=>⟨d,rfl,e,λj m k2=>by have k:=(h j m k2).2;unfold EU at k;rw[YT g]at k;exact k⟩)
theorem aS{e:Int}(f:e≠0):Ca 259 #[r.val,.int .i64 e] w (CU w (.tuple #[Ou.val,.int .i64 e])):=uf func259 rfl<|ZR<|ZJ (e !=0) true (by simp[f])<|ZW (.tuple #[Ou.val,.int .i64 e])
theorem Fp(e: -4096<=x/\x<=4096)(f: -4096<=y/\y<=4096):vP (P6 x y)=true:=by
 unfold vP P6 Lf;simp only[AP,decide_eq_true_eq];omega
theorem ci(p:Nw w A n H)(j:n<=1000000)(o:vL 0 (K5 H)=true)(l:(K5 H).flatten.length<=600)(m:rule=1\/rule=2)(F:0<=x/\x<=4000)(G:0<=y/\y<=4000):
 Ca 223 #[.slice A n c,.int .i64 rule,.int .i64 x,.int .i64 y] w (K4 w (λv:RV=> .tuple #[v.val,.int .i64 0]) λv u=>Kn v (Yw (K5 H) rule (P6 x y) (P6 (x+1) (y+1))/65536) 11400000002 u):=by
 refine uf func223 rfl<|ZR<|ZC (λf e h=>Ux (x:=x) (y:=y) ⟨by omega,by omega⟩ ⟨by omega,by omega⟩) λt=>ZC (λf e h=>Ux (x:=x) (y:=y) ⟨by omega,by omega⟩ ⟨by omega,by omega⟩) λc2=>ZC (λf e h=>Mg (X:=(P6 x y).1) (Y:=(P6 x y).2) (B:=true) (Fp ⟨by omega,by omega⟩ ⟨by omega,by omega⟩)) λs=>uu true O<|ZS 4<|YB 21 (x+1) (x+1)<|YB 23 (y+1) (y+1)<|ZC (λf e h=>Ux (x:=x+1) (y:=y+1) ⟨by omega,by omega⟩ ⟨by omega,by omega⟩) λE=>ZC (λf e h=>js (c:=c) (a:=P6 x y) (b:=P6 (x+1) (y+1)) (p.below e) j o l m (Fp ⟨by omega,by omega⟩ ⟨by omega,by omega⟩) (Fp ⟨by omega,by omega⟩ ⟨by omega,by omega⟩) (by show x*256<(x+1)*256;omega) (by show y*256<(y+1)*256;omega)) λD=>ZC (λf e h=>fM h.2.q ⟨by decide,by decide⟩) λpx=>ZV (.tuple #[px.val,.int .i64 0]) (λf e h=>⟨px,rfl,e,λg k k2=>(h g k k2).2⟩)
theorem WW(m:Nw w A n H)(k:n<=1000000)(l:∀x∈H,x.1.length<=1000000)(j:vL 0 (K5 H)=false)(p:0<=x/\x<=4000)(t:0<=y/\y<=4000):
 Ca 223 #[.slice A n c,.int .i64 rule,.int .i64 x,.int .i64 y] w (CU w (.tuple #[Ou.val,.int .i64 12])):=by
 exact uf func223 rfl<|ZR<|ZC (λg f h=>Ux (x:=x) (y:=y) ⟨by omega,by omega⟩ ⟨by omega,by omega⟩) λo=>ZC (λg f h=>Ux (x:=x) (y:=y) ⟨by omega,by omega⟩ ⟨by omega,by omega⟩) λc2=>ZC (λg f h=>Mg (X:=(P6 x y).1) (Y:=(P6 x y).2) (B:=true) (Fp ⟨by omega,by omega⟩ ⟨by omega,by omega⟩)) λs=>uu true O<|ZS 4<|YB 21 (x+1) (x+1)<|YB 23 (y+1) (y+1)<|ZC (λg f h=>Ux (x:=x+1) (y:=y+1) ⟨by omega,by omega⟩ ⟨by omega,by omega⟩) λD=>ZC (λg f h=>be (c:=c) (rule:=rule) (a:=P6 x y) (b:=P6 (x+1) (y+1)) (m.below f) k l j) λv=>ZC (λg f h=>aS (r:=Ou) (e:=12) Zd) λpx=>ZW (.tuple #[Ou.val,.int .i64 12])
theorem IC{p:Rat}:decide (Kv p ((0:Int):Rat)<=0)=decide (p<=0):=by
 have e:((0:Int):Rat)=0:=rfl;rw[e];unfold Kv;split
 .rename_i h;rw[YU Zd,YU (Rat.le_of_lt h)]
 .split
  .rename_i h;subst h;rfl
  .rename_i g f;rw[YV Zd,YV (by grind)]
theorem UV{p:Rat}:decide (Kv p ((1:Int):Rat)>=0)=decide (1<=p):=by
 have e:((1:Int):Rat)=1:=rfl;rw[e];unfold Kv;split
 .rename_i h;rw[YV Zd,YV (by grind)]
 .split
  .rename_i h;subst h;rfl
  .rename_i g f;rw[YU Zd,YU (by grind)]
theorem QV(m:Nf r q K w)(p:2<=K/\K<=17000000000):Ca 224 #[r.val] w (CU w (.int .u8 (C_ q:Int))):=by
 by_cases k:q<=0
 .exact uf func224 rfl<|ZR<|ZC (λg j h=>Pj (x:=1) (y:=2) Zd Zd) λf=>ZC (λg j h=>Ki 0 g Zd Zd) λz=>ZC (λg j h=>Lv (m.below j) h.2.q ⟨p.1,by decide,by omega⟩) λF=>ZJ (decide (Kv q ((0:Int):Rat)<=0)) true (by rw[IC,YU k])<|ZX (.int .u8 0) (by unfold C_;rw[YS k];rfl)
 by_cases s:1<=q
 .exact uf func224 rfl<|ZR<|ZC (λg j h=>Pj (x:=1) (y:=2) Zd Zd) λf=>ZC (λg j h=>Ki 0 g Zd Zd) λz=>ZC (λg j h=>Lv (m.below j) h.2.q ⟨p.1,by decide,by omega⟩) λF=>ZJ (decide (Kv q ((0:Int):Rat)<=0)) false (by rw[IC,YV k])<|ZC (λg j h=>Ki 1 g Zd Zd) λo=>ZC (λg j h=>Lv (m.below j) h.2.q ⟨p.1,by decide,by omega⟩) λc2=>ZJ (decide (Kv q ((1:Int):Rat)>=0)) true (by rw[UV,YU s])<|ZX (.int .u8 255) (by unfold C_;rw[YT k,YS s];rfl)
 have D:0<=(q*255+1/2).floor/\(q*255+1/2).floor<256:=by
  constructor
  .exact Rat.le_floor_iff.2 (show((0:Int):Rat)<=q*255+1/2 by have e:((0:Int):Rat)=0:=rfl;rw[e];grind)
  .have Z:=FL q;unfold C_ at Z;rw[YT k,YT s]at Z;omega
 have L:Rat.divInt 1 2=(1/2:Rat):=O
 have J:(q*((255:Int):Rat)+Rat.divInt 1 2).floor=(q*255+1/2).floor:=by rw[L];rfl
 have l:C_ q=(q*255+1/2).floor.toNat:=by unfold C_;rw[YT k,YT s]
 rw[<-J]at D l;obtain⟨v,G⟩:∃v,v=(q*((255:Int):Rat)+Rat.divInt 1 2).floor:=⟨_,rfl⟩
 rw[<-G]at D l;have E:v.natAbs<pw 2:=by have:pw 2=18446744073709551616:=Zd;omega
 exact uf func224 rfl<|ZR<|ZC (λg j h=>Pj (x:=1) (y:=2) Zd Zd) λf=>ZC (λg j h=>Ki 0 g Zd Zd) λz=>ZC (λg j h=>Lv (m.below j) h.2.q ⟨p.1,by decide,by omega⟩) λF=>ZJ (decide (Kv q ((0:Int):Rat)<=0)) false (by rw[IC,YV k])<|ZC (λg j h=>Ki 1 g Zd Zd) λo=>ZC (λg j h=>Lv (m.below j) h.2.q ⟨p.1,by decide,by omega⟩) λc2=>ZJ (decide (Kv q ((1:Int):Rat)>=0)) false (by rw[UV,YV s])<|ZC (λg j h=>Ki 255 g Zd Zd) λt=>ZC (λg j h=>Pi (m.below j) h.2.q ⟨p.1,by decide,by omega⟩) λN=>ZC (λg j h=>S5 h.2.q (h.1.1.1.1.1.1.2.n Zd).q ⟨by omega,by decide,by omega⟩) λad=>ZC (λg j h=>T1 h.2.q ⟨by omega,by omega⟩) λfl=>ZC (λg j h=>Ur (x:=v) (v:=v) (B:=true) (K:=2) (Bf (by unfold U7;simp;omega)) (by unfold U7;simp;omega) (U5 (show Yz fl v _ g by rw[G];exact h.2) E).i Zd) λM=>ZX (.int .u8 (XN.wrap v)) (by rw[show XN.wrap v=v from IntWalk.u8_in _ I,l,CA D.1])
def E8(L:List (List Pt))(rule x y:Int):Nat:=if vL 0 L=true then VZ L rule x y else 0
theorem kG(L:List (List Pt))(rule x y:Int):E8 L rule x y<=255:=by
 unfold E8;split
 .have:=FL (Yw L rule (P6 x y) (P6 (x+1) (y+1))/65536);unfold VZ;omega
 .decide
theorem ex(l:Nw w A n H)(k:n<=1000000)(o:∀x∈H,x.1.length<=1000000)(p:(K5 H).flatten.length<=600)(s:rule=1\/rule=2)(g:0<=x/\x<=4000)(j:0<=y/\y<=4000):
 Ca 169 #[.slice A n c,.int .i64 rule,.int .i64 x,.int .i64 y] w (CU w (.int .u8 (E8 (K5 H) rule x y:Int))):=by
 cases e:vL 0 (K5 H)
 .exact uf func169 rfl<|ZR<|ZC (λm f h=>WW (c:=c) (rule:=rule) (l.below f) k o e g j) λpx=>ZI true<|ZX (.int .u8 0) (by unfold E8;rw[YT (by rw[e];decide)];rfl)
 .exact uf func169 rfl<|ZR<|ZC (λm f h=>ci (c:=c) (l.below f) k e p s g j) λpx=>ZI false<|ZC (λm f h=>QV h.2.q ⟨by decide,by decide⟩) λv=>ZX (.int .u8 (C_ (Yw (K5 H) rule (P6 x y) (P6 (x+1) (y+1))/65536):Int)) (by unfold E8 VZ;rw[YS e])
end
abbrev Pw(a b c d:Int):YI:= .agg #[.int .i64 a,.int .i64 b,.int .i64 c,.int .i64 d]
def Hy(a b c d:Int):Prop:=(-4096<=a/\a<c/\c<=4096)/\(-4096<=b/\b<d/\d<=4096)
def gU(a b c d:Int):Prop:=((-4096<=a/\a<=4096)/\(-4096<=b/\b<=4096))/\((-4096<=c/\c<=4096)/\(-4096<=d/\d<=4096))
theorem Hy.in_{a b c d:Int}(e:Hy a b c d):gU a b c d:=by unfold Hy at e;unfold gU;omega
section
variable{w:YM}{a b c d a2 b2 c2 d2 x y z:Int}
theorem UX(e: -4096<=z/\z<=4096):Ca 40 #[.int .i64 z] w (CU w (.bool true)):=uf func40 rfl<|ZS 2<|YE 4 (z>=-4096) I<|YD 2 (z<=4096) I<|ZW (.bool true)
theorem Sz(e:gU a b c d):Ca 28 #[Pw a b c d] w (CU w (.bool true)):=uf func28 rfl<|ZR<|ZC (λg f h=>UX e.1.1) λk=>ZC (λg f h=>UX e.1.2) λj=>ZC (λg f h=>UX e.2.1) λm=>ZC (λg f h=>UX e.2.2) λl=>ZW (.bool true)
theorem Y4(e:Hy a b c d):Ca 35 #[Pw a b c d] w (CU w (.bool false)):=uf func35 rfl<|ZR<|ZD 10 (λj f h=>Sz e.in_) λg=>ZT 12 (.bool (decide (c<=a))) (.bool false) (by unfold Hy at e;rw[YV I])<|uh 2 (.bool (decide (d<=b))) (.bool false) O (by unfold Hy at e;rw[YV I])<|ZW (.bool false)
theorem Hn(e:gU a b c d)(f:c<=a):Ca 35 #[Pw a b c d] w (CU w (.bool true)):=uf func35 rfl<|ZR<|ZD 10 (λk g h=>Sz e) λj=>YE 12 (c<=a) f<|ZW (.bool true)
theorem Oy(e:Hy a b c d):Ca 16 #[Pw a b c d] w (CU w (Pw a b c d)):=uf func16 rfl<|ZR<|ZC (λj f h=>Y4 e) λg=>ZI false<|ZW (Pw a b c d)
theorem Hu(e:gU a b c d)(f:c<=a):Ca 16 #[Pw a b c d] w (CU w (Pw 0 0 0 0)):=uf func16 rfl<|ZR<|ZC (λk g h=>Hn e f) λj=>ZI true<|ZW (Pw 0 0 0 0)
theorem Ph:Ca 16 #[Pw 0 0 0 0] w (CU w (Pw 0 0 0 0)):=Hu (by unfold gU;decide) Zd
theorem jH{n:Int}(e:Hy a b c d)(f:(c-a)*(d-b)=n)(k:0<=n/\n<=100000000):Ca 15 #[Pw a b c d] w (CU w (.int .i64 n)):=uf func15 rfl<|ZR<|ZC (λl g h=>Oy e) λj=>ZX (.int .i64 (XQ.wrap (XQ.wrap (c-a)*XQ.wrap (d-b)))) (by unfold Hy at e;rw[AA (c-a) I,AA (d-b) I,f,AA _ I])
theorem JE:Ca 15 #[Pw 0 0 0 0] w (CU w (.int .i64 0)):=uf func15 rfl<|ZR<|ZC (λf g h=>Ph) λe=>ZW (.int .i64 0)
theorem TJ(e:Hy a b c d)(f:a<=x/\x<c)(g:b<=y/\y<d):Ca 24 #[Pw a b c d,.int .i64 x,.int .i64 y] w (CU w (.bool true)):=uf func24 rfl<|ZR<|ZD 9 (λl j h=>Y4 e) λk=>YD 15 (x>=a) I<|ZS 15<|YD 21 (x<c) I<|ZS 21<|YE 27 (y>=b) I<|YD 6 (y<d) I<|ZW (.bool true)
theorem lw:Ca 24 #[Pw 0 0 0 0,.int .i64 x,.int .i64 y] w (CU w (.bool false)):=uf func24 rfl<|ZR<|ZC (λf g h=>Hn (a:=0) (b:=0) (c:=0) (d:=0) (by unfold gU;decide) Zd) λe=>ZW (.bool false)
theorem eR:Ca 49 #[Pw 0 0 0 0,.int .i64 x,.int .i64 y] w (CU w (.int .i64 (-1))):=uf func49 rfl<|ZR<|ZC (λf g h=>lw (x:=x) (y:=y)) λe=>ZI true<|ZW (.int .i64 (-1))
theorem Hk(m:Hy a b c d)(v:Hy a2 b2 c2 d2){e f g k:Int}(o:G3 a a2=e)(u:G3 b b2=f)(p:F9 c c2=g)(s:F9 d d2=k)(t:Hy e f g k):
 Ca 30 #[Pw a b c d,Pw a2 b2 c2 d2] w (CU w (Pw e f g k)):=by
 exact uf func30 rfl<|ZR<|ZC (λl j h=>Oy m) λB=>ZD 21 (λl j h=>Oy v) λA=>uh 29 (Pw (G3 a a2) (G3 b b2) (F9 c c2) (F9 d d2)) (Pw e f g k) O (by rw[o,u,p,s])<|ZC (λl j h=>Oy t) λD=>ZW (Pw e f g k)
theorem dN(e:Hy a b c d):Ca 30 #[Pw 0 0 0 0,Pw a b c d] w (CU w (Pw 0 0 0 0)):=by
 have j:=e;unfold Hy at j;have m:=S6 0 a;have l:=S6 0 b;have k:=S7 0 c;have s:=S7 0 d;exact uf func30 rfl<|ZR<|ZC (λg f h=>Ph) λp=>ZD 21 (λg f h=>Oy e) λo=>ZC (λg f h=>Hu (a:=G3 0 a) (b:=G3 0 b) (c:=F9 0 c) (d:=F9 0 d) (by unfold gU;omega) I) λt=>ZW (Pw 0 0 0 0)
theorem VM(e:Hy a b c d):Ca 30 #[Pw a b c d,Pw 0 0 0 0] w (CU w (Pw 0 0 0 0)):=by
 have j:=e;unfold Hy at j;have m:=S6 a 0;have l:=S6 b 0;have k:=S7 c 0;have s:=S7 d 0;exact uf func30 rfl<|ZR<|ZC (λg f h=>Oy e) λp=>ZD 21 (λg f h=>Ph) λo=>ZC (λg f h=>Hu (a:=G3 a 0) (b:=G3 b 0) (c:=F9 c 0) (d:=F9 d 0) (by unfold gU;omega) I) λt=>ZW (Pw 0 0 0 0)
theorem W_:Ca 30 #[Pw 0 0 0 0,Pw 0 0 0 0] w (CU w (Pw 0 0 0 0)):=uf func30 rfl<|ZR<|ZC (λf e h=>Ph) λj=>ZC (λf e h=>Ph) λg=>ZC (λf e h=>Ph) λk=>ZW (Pw 0 0 0 0)
end
section
variable{w:YM}{n a b v:Nat}{g:Nat}{p c:Px}
theorem F8{n:Nat}(h:n<=18446744073709551615):XP.wrap (n:Int)=n:=IntWalk.u64_in _ I
theorem Fb{n:Nat}(h:n<=9223372036854775807):XQ.wrap (n:Int)=n:=AA _ I
theorem GM(h:n<=4294967295):Ca 100 #[.int .i64 n] w (CU w (.int .u64 n)):=uf func100 rfl<|ZR<|YN ((n:Int)<0)<|ZX (.int .u64 (XP.wrap (n:Int))) (by rw[F8 I])
theorem lE(h:n<=4294967295):XP.wrap (((BitVec.ofInt 64 (n:Int) &&& BitVec.ofInt 64 4294967295).toNat:Nat):Int)=n:=by
 have e:(BitVec.ofInt 64 (n:Int) &&& BitVec.ofInt 64 4294967295).toNat=n:=by
  rw[BitVec.toNat_and];have f:(BitVec.ofInt 64 4294967295).toNat=2 ^ 32-1:=Zd
  rw[f,Nat.and_two_pow_sub_one_eq_mod,BitVec.toNat_ofInt];omega
 rw[e,F8 I]
theorem dO{n:Nat}(h:n<=4294967295):(n:Int).fdiv (2 ^ min (Int.toNat 32) XP.bits)=0:=by
 have e:(2:Int) ^ min (Int.toNat 32) XP.bits=4294967296:=Zd
 rw[e,BJ _ Zd];omega
theorem mN(h:n<=4294967295):Ca 99 #[.int .u64 n,.int .u64 1] w (CU w (.tuple #[.int .u64 0,.int .u64 n])):=uf func99 rfl<|ZS 2<|uh 15 (.int .u64 (XP.wrap (((BitVec.ofInt 64 (n:Int) &&& BitVec.ofInt 64 4294967295).toNat:Nat):Int))) (.int .u64 n) O (by rw[lE h])<|uo O (stop:=1000) 1 _<|ZS 2<|uh 17 (.int .u64 ((n:Int).fdiv (2 ^ min (Int.toNat 32) XP.bits))) (.int .u64 0) O (by rw[dO h])<|uo O (stop:=1000) 1 _<|ZS 2<|uo O (stop:=1000) 1 _<|ZS 2<|uo O (stop:=1000) 1 _<|ZS 3<|uh 24 (.int .u64 (XP.wrap ((n:Int)*1))) (.int .u64 n) O (by rw[Int.mul_one,F8 I])<|uo O (stop:=1000) 1 _<|ZS 5<|uh 29 (.int .u64 ((n:Int).fdiv (2 ^ min (Int.toNat 32) XP.bits))) (.int .u64 0) O (by rw[dO h])<|uo O (stop:=1000) 1 _<|ZS 5<|ZT 38 (.int .u64 (XP.wrap ((n:Int)*0))) (.int .u64 0) (by rw[Int.mul_zero];rfl)<|ZX (.tuple #[.int .u64 0,.int .u64 (XP.wrap ((n:Int)*1))]) (by rw[Int.mul_one,F8 I])
theorem qe(h:n<=4294967295):Ca 146 #[.int .u64 0,.int .u64 n,.int .u64 255] w (CU w (.tuple #[.int .u64 (n/255:Nat),.int .u64 (n%255:Nat)])):=uf func146 rfl<|ZR<|ZI false<|ZI false<|ZI true<|ZX (.tuple #[.int .u64 (XP.wrap ((n:Int).tdiv 255)),.int .u64 ((n:Int).tmod 255)]) (by rw[show((n:Int).tdiv 255)=((n/255:Nat):Int)from rfl,F8 I];rfl)
theorem qL(n:Nat):EC n=if n%255>=255-n%255 then n/255+1 else n/255:=by
 unfold EC;split<;>omega
theorem oP(s:n<=4294967295):Ca 102 #[.agg #[.int .u64 0,.int .u64 n,.int .u64 255]] w (CU w (.tuple #[.int .u64 (EC n:Nat),.bool true])):=by
 have u:n%255<255:=CO _ Zd;have t:n/255<=4294967295:=I
 have k:=qL n;obtain⟨q,e⟩:∃q,n/255=q:=⟨_,rfl⟩
 obtain⟨r,f⟩:∃r,n%255=r:=⟨_,rfl⟩
 rw[e]at t;rw[f]at u;rw[e,f]at k;refine uf func102 rfl<|ZR ?_
 have o:∀j,Ca 146 #[.int .u64 0,.int .u64 n,.int .u64 255] j (CU j (.tuple #[.int .u64 (q:Nat),.int .u64 (r:Nat)])):=λj=>by
  have:=qe (w:=j) s;rw[e,f]at this;exact this
 refine ZI false<|ZC (λj y h=>o j) λx=> ?_
 have l:XP.wrap (255- (r:Int))=((255-r:Nat):Int):=by rw[show(255- (r:Int))=((255-r:Nat):Int) by omega,F8 I]
 by_cases m:r>=255-r
 .rw[YS m]at k;exact ZJ (decide ((r:Int)>=XP.wrap (255- (r:Int)))) true (by rw[l];exact YU I)<|ZX (.tuple #[.int .u64 (XP.wrap ((q:Int)+1)),.bool (XP.wrap ((q:Int)+1) !=0)]) (by rw[show((q:Int)+1)=((q+1:Nat):Int)from rfl,F8 I,k,show(((q+1:Nat):Int) !=0)=true from bne_iff_ne.2 I])
 .rw[YT m]at k;exact ZJ (decide ((r:Int)>=XP.wrap (255- (r:Int)))) false (by rw[l];exact YV I)<|ZX (.tuple #[.int .u64 (q:Int),.bool true]) (by rw[k])
theorem c9(e:n<=4294967295):Ca 101 #[.bool false,.func (.func 102) #[.agg #[.int .u64 0,.int .u64 n,.int .u64 255]] #[]] w (CU w (.tuple #[.int .i64 (EC n:Nat),.bool true])):=by
 have k:EC n<=4294967295:=by unfold EC;omega
 exact uf func101 rfl<|ZR<|ZD 5 (λl j h=>oP e) λf=>uo O (stop:=1000) 2 _<|ZS 5<|YF 18 (((EC n:Nat):Int)>9223372036854775808) I<|uo O (stop:=1000) 1 _<|ZS 9<|ZT 22 (.bool (((EC n:Nat):Int)==9223372036854775808)) (.bool false) (by rw[YR.2 I])<|ZI false<|ZI false<|ZX (.tuple #[.int .i64 (XQ.wrap ((EC n:Nat):Int)),.bool true]) (by rw[Fb I])
theorem cJ(j:n<=4294967295):Ca 50 #[.int .i64 n,.int .i64 255] w (CU w (.int .i64 (EC n:Nat))):=by
 have k:∀e,Ca 61 #[.int .i64 n,.int .i64 1,.int .i64 255] e (CU e (.tuple #[.int .i64 (EC n:Nat),.bool true])):=λw=>by
  exact uf func61 rfl<|ZR<|ZI false<|ZC (λe f h=>GM j) λt=>ZC (λe f h=>GM (n:=1) Zd) λm=>ZC (λe f h=>mN j) λl=>ZD 7 (λe f h=>GM (n:=255) Zd) λo=>ZT 30 (.bool (!(decide ((n:Int)<0)==decide ((1:Int)<0)))) (.bool false) (by rw[YV I];rfl)<|ZC (λe f h=>c9 j) λs=>ZW (.tuple #[.int .i64 (EC n:Nat),.bool true])
 exact uf func50 rfl<|ZR<|ZC (λe f h=>k e) λu=>ZW (.int .i64 (EC n:Nat))
theorem I8(e:a<=255)(f:b<=255):Ca 44 #[.int .u8 a,.int .u8 b] w (CU w (.int .u8 (Al a b:Nat))):=by
 have m:=BF e f;have j:=Rq e f;exact uf func44 rfl<|ZR<|uh 9 (.int .i64 (XQ.wrap (XQ.wrap (a:Int)*XQ.wrap (b:Int)))) (.int .i64 ((a*b:Nat):Int)) O (by rw[Fb I,Fb I,<-BM,Fb I])<|ZC (λo l h=>cJ (n:=a*b) I) λu=>ZX (.int .u8 (XN.wrap ((EC (a*b):Nat):Int))) (by rw[IntWalk.u8_in _ ⟨by omega,by have k:EC (a*b)<=255:=j;omega⟩];rfl)
theorem gK(e:n<=4294967295):Ca 175 #[.int .i64 n,.int .i64 0,.int .i64 255] w (CU w (.int .i64 (min n 255:Nat))):=by
 refine uf func175 rfl<|ZR<|YN ((n:Int)<0) ?_
 by_cases f:n>255
 .exact YL ((n:Int)>255)<|ZX (.int .i64 255) (by rw[Nat.min_eq_right I];rfl)
 .exact YN ((n:Int)>255)<|ZX (.int .i64 n) (by rw[AU I])
theorem E6(e:n<=4294967295):Ca 130 #[.int .i64 n] w (CU w (.int .u8 (WP n:Nat))):=by
 have j:EC n<=4294967295:=by unfold EC;omega
 exact uf func130 rfl<|ZR<|ZC (λl f h=>cJ e) λu=>ZC (λl f h=>gK j) λk=>ZX (.int .u8 (XN.wrap ((min (EC n) 255:Nat):Int))) (by rw[IntWalk.u8_in _ I];rfl)
end
abbrev S0(p:Px):List YI:=[.int .u8 (p.r:Int),.int .u8 (p.g:Int),.int .u8 (p.b:Int),.int .u8 (p.a:Int)]
abbrev Ls(p:Px):YI:= .agg #[.int .u8 (p.r:Int),.int .u8 (p.g:Int),.int .u8 (p.b:Int),.int .u8 (p.a:Int)]
section
variable{w:YM}{n a b v k:Nat}{g:Nat}{p c s d:Px}
theorem tB:(if (a:Int)<(v:Int)then(a:Int)else(v:Int))=((min v a:Nat):Int):=by split<;>omega
theorem Cm(e:K8 w g (S0 p)):Ca 34 #[.int .u8 v,Kp g] w (CU w (.int .u8 (min v p.a:Nat))):=uf func34 rfl<|ZR<|ZA (Ke 5 ⟨g,3,none⟩) (.int .u8 p.a) (λj f h=>Kh O (by have:=(e.below f).range 3 _ rfl;simpa using this))<|ZX (.int .u8 (if (p.a:Int)<(v:Int)then(p.a:Int)else(v:Int))) (by rw[tB])
theorem JV(j:K8 w g (S0 c))(l:c.ok)(f:v<=255):Ca 43 #[.int .u8 v,Kp g] w (CU w (.int .u8 (Al v c.a:Nat))):=uf func43 rfl<|ZR<|ZA (Ke 5 ⟨g,3,none⟩) (.int .u8 c.a) (λo e h=>Kh O (by have:=(j.below e).range 3 _ rfl;simpa using this))<|ZC (λo e h=>I8 f l.a) λm=>ZW (.int .u8 (Al v c.a:Nat))
theorem Bq(l:K8 w g [.int .u8 (k:Int)])(f:k<=255)(j:v<=255):Ca 251 #[.int .u8 v,Kp g] w (CU w (.int .u8 (Al v k:Nat))):=uf func251 rfl<|ZR<|ZA (Ke 5 ⟨g,0,none⟩) (.int .u8 k) (λo e h=>Kh O (by have:=(l.below e).range 0 _ rfl;simpa using this))<|ZC (λo e h=>I8 j f) λm=>ZW (.int .u8 (Al v k:Nat))
theorem kC(f:K8 w g (S0 p)):Ca 33 #[Ls p,.func (.func 34) #[] #[Kp g]] w (CU w (Ls p.clamp)):=uf func33 rfl<|ZR<|ZC (λj e h=>Cm (v:=p.r) (f.below e)) λt=>ZC (λj e h=>Cm (v:=p.g) (f.below e)) λm=>ZC (λj e h=>Cm (v:=p.b) (f.below e)) λl=>ZC (λj e h=>Cm (v:=p.a) (f.below e)) λo=>ZW (Ls p.clamp)
theorem jD(j:K8 w g (S0 c))(f:c.ok):Ca 33 #[Ls ⟨c.r,c.g,c.b,0⟩,.func (.func 43) #[] #[Kp g]] w (CU w (Ls ⟨Al c.r c.a,Al c.g c.a,Al c.b c.a,Al 0 c.a⟩)):=uf func33 rfl<|ZR<|ZC (λl e h=>JV (v:=c.r) (j.below e) f f.r) λu=>ZC (λl e h=>JV (v:=c.g) (j.below e) f f.g) λo=>ZC (λl e h=>JV (v:=c.b) (j.below e) f f.b) λm=>ZC (λl e h=>JV (v:=0) (j.below e) f Zd) λt=>ZW (Ls ⟨Al c.r c.a,Al c.g c.a,Al c.b c.a,Al 0 c.a⟩)
theorem iC(j:K8 w g [.int .u8 (k:Int)])(f:k<=255)(l:p.ok):Ca 33 #[Ls p,.func (.func 251) #[] #[Kp g]] w (CU w (Ls (p.scale k))):=uf func33 rfl<|ZR<|ZC (λm e h=>Bq (v:=p.r) (j.below e) f l.r) λx=>ZC (λm e h=>Bq (v:=p.g) (j.below e) f l.g) λt=>ZC (λm e h=>Bq (v:=p.b) (j.below e) f l.b) λo=>ZC (λm e h=>Bq (v:=p.a) (j.below e) f l.a) λu=>ZW (Ls (p.scale k))
theorem Tu:Ca 14 #[Ls p] w (CU w (Ls p.clamp)):=uf func14 rfl<|ZR<|uy (val:=λ_:Unit=>Ls p.clamp) (G:=λ_ _=>True) (xs:=[.v (Ls p),.f 34 [(1,0)]]) O (λβ l j h e=>kC (Kz e (k:=1) (by simp[AV.ids]) (cs:=(S0 p).map .v) O)) λu=>ZR<|ZW (Ls p.clamp)
theorem C1(j:c.ok):Ca 31 #[Ls c] w (CU w (Ls c.pre)):=uf func31 rfl<|ZR<|uy (val:=λ_:Unit=>Ls ⟨Al c.r c.a,Al c.g c.a,Al c.b c.a,Al 0 c.a⟩) (G:=λ_ _=>True) (xs:=[.v (Ls ⟨c.r,c.g,c.b,0⟩),.f 43 [(1,0)]]) O (λβ m l h e=>jD (Kz e (k:=1) (by simp[AV.ids]) (cs:=(S0 c).map .v) O) j) λu=>ZR<|ZW (Ls c.pre)
theorem NT(e:k<=255)(l:p.ok):Ca 211 #[Ls p,.int .u8 k] w (CU w (Ls (p.scale k))):=uf func211 rfl<|ZR<|uy (val:=λ_:Unit=>Ls (p.scale k)) (G:=λ_ _=>True) (xs:=[.v (Ls p),.f 251 [(3,0)]]) O (λβ o m h j=>iC (Kz j (k:=3) (by simp[AV.ids]) (cs:=[.v (.int .u8 (k:Int))]) O) e l) λu=>ZR<|ZW (Ls (p.scale k))
theorem Ra(e:b<=255):XQ.wrap (255- (b:Int))=((255-b:Nat):Int):=by rw[AA _ I];omega
theorem Te(f:a<=65535)(e:b<=65535):XQ.wrap ((a:Int)*(b:Int))=((a*b:Nat):Int):=by
 have:=BF f e;rw[<-BM,Fb I]
theorem Fh(f:a<=4294967295)(e:b<=4294967295):XQ.wrap ((a:Int)+(b:Int))=((a+b:Nat):Int):=by rw[<-Int.natCast_add,Fb I]
section
variable{s sa d da:Nat}{S SA D DA:Int}
theorem Nb(f:a<=255)(e:b<=255):a*b<=65025:=BF f e
theorem mK(j:s<=255)(f:da<=255)(e:S=s)(h:DA=da):Ca 286 #[.int .i64 1,.int .i64 S,.int .i64 SA,.int .i64 D,.int .i64 DA] w (CU w (.int .i64 (s*da:Nat))):=by
 subst e;subst h;exact uf func286 rfl<|ZR<|uv O (stop:=1000) 6000 _<|ZX (.int .i64 (XQ.wrap ((s:Int)*(da:Int)))) (by rw[Te I I])
theorem Ea(j:s<=255)(m:sa<=255)(y:d<=255)(e:da<=255)(o:S=s)(l:SA=sa)(u:D=d)(f:DA=da):Ca 250 #[.int .i64 1,.int .i64 S,.int .i64 SA,.int .i64 D,.int .i64 DA] w (CU w (.int .u8 (El s sa d da:Nat))):=by
 subst o;subst l;subst u;subst f;have E:=Nb j (show 255-da<=255 by omega);have B:=Nb y (show 255-sa<=255 by omega);have A:=Nb j e;exact uf func250 rfl<|ZR<|ZC (λz x h=>mK (SA:=(sa:Int)) (D:=(d:Int)) j e rfl rfl) λt=>uh 26 (.int .i64 (XQ.wrap (XQ.wrap (XQ.wrap ((s:Int)*XQ.wrap (255- (da:Int)))+XQ.wrap ((d:Int)*XQ.wrap (255- (sa:Int))))+((s*da:Nat):Int)))) (.int .i64 ((s*(255-da)+d*(255-sa)+s*da:Nat):Int)) O (by rw[Ra e,Ra m,Te I I,Te I I,Fh I I,Fh I I])<|ZC (λz x h=>E6 (n:=s*(255-da)+d*(255-sa)+s*da) I) λn=>ZW (.int .u8 (El s sa d da:Nat))
end
theorem Ty:Ca 92 #[.int .i64 1] w (CU w (.bool true)):=uf func92 rfl<|ZR<|ZW (.bool true)
theorem nE:Ca 248 #[.int .i64 1] w (CU w (.bool true)):=uf func248 rfl<|ZR<|ZW (.bool true)
theorem ik(x:s.ok)(z:d.ok):Ca 210 #[.int .i64 1,Ls s,Ls d] w (CU w (Ls (s.over d))):=by
 obtain⟨S,t⟩:∃S,s.clamp=S:=⟨_,rfl⟩
 obtain⟨D,o⟩:∃D,d.clamp=D:=⟨_,rfl⟩
 have j:=x.clamp;have f:=z.clamp;rw[t]at j;rw[o]at f;have y:∀e,Ca 14 #[Ls s] e (CU e (Ls S)):=λe=>by rw[<-t];exact Tu
 have u:∀e,Ca 14 #[Ls d] e (CU e (Ls D)):=λe=>by rw[<-o];exact Tu
 have A:=Nb j.a (show 255-D.a<=255 by omega);have J:=Nb f.a (show 255-S.a<=255 by omega);have H:=Nb j.a f.a;have K:=j.a;have Z:=f.a;have l:∀n:Nat,n<=255->XQ.wrap (n:Int)=n:=λn h=>Fb I
 exact uf func210 rfl<|ZR<|ZC (λe m h=>Ty) λv=>ZI false<|ZC (λe m h=>y e) λB=>ZC (λe m h=>u e) λc2=>ZC (λe m h=>nE) λE=>uu false O<|ZS 6<|uh 26 (.int .i64 (XQ.wrap (S.a:Int))) (.int .i64 S.a) O (by rw[l _ j.a])<|ZT 29 (.int .i64 (XQ.wrap (D.a:Int))) (.int .i64 D.a) (by rw[l _ f.a])<|ZC (λe m h=>Ea j.r j.a f.r f.a (l _ j.r) rfl (l _ f.r) rfl) λF=>ZC (λe m h=>Ea j.g j.a f.g f.a (l _ j.g) rfl (l _ f.g) rfl) λr1=>ZC (λe m h=>Ea j.b j.a f.b f.a (l _ j.b) rfl (l _ f.b) rfl) λr2=>uh 72 (.int .i64 (XQ.wrap (XQ.wrap (XQ.wrap ((S.a:Int)*XQ.wrap (255- (D.a:Int)))+XQ.wrap ((D.a:Int)*XQ.wrap (255- (S.a:Int))))+XQ.wrap ((S.a:Int)*(D.a:Int))))) (.int .i64 ((S.a*(255-D.a)+D.a*(255-S.a)+S.a*D.a:Nat):Int)) O (by rw[Ra f.a,Ra j.a,Te I I,Te I I,Te I I,Fh I I,Fh I I])<|ZC (λe m h=>E6 (n:=S.a*(255-D.a)+D.a*(255-S.a)+S.a*D.a) I) λG=>ZX (Ls ⟨El S.r S.a D.r D.a,El S.g S.a D.g D.a,El S.b S.a D.b D.a,R9 S.a D.a⟩) (by rw[<-t,<-o];rfl)
theorem Jg(f:s.ok)(l:d.ok)(e:k<=255):Ca 156 #[.int .i64 1,Ls s,Ls d,.int .u8 k] w (CU w (Ls (s.blend d k))):=uf func156 rfl<|ZR<|ZC (λm j h=>NT e f) λc=>ZC (λm j h=>ik (f.scale e) l) λb=>ZW (Ls (s.blend d k))
end
theorem Od{P:YH}{n:Nat}{xs e:Array YI}{f:Field}{g:List Field}{u v:YI}{b c:Bool}{w:YM}(j:f.name≠ "_")(l:(part f.type xs f.offset).run P w= .ok u w)(k:(part f.type e f.offset).run P w= .ok v w)
 (h:(Op.equalIn n f.type u v).run P w= .ok b w) (m:(Op.eqFields n xs e g).run P w= .ok c w):(Op.eqFields n xs e (f::g)).run P w= .ok (b&&c) w:=by
 simp only[Op.eqFields,AM,l,k,h,AL,j,ne_eq,not_false_eq_true,if_true];cases b
 .simp
 .simp[m]
theorem La{P:YH}{t:XX}{d:TypeDesc}{xs:Array YI}{off:Nat}{v:YI}{w:YM}(e:P.underlying t=some d)(f:d.isRow=false)(c:xs[off]? =some v):(part t xs off).run P w= .ok v w:=by
 have b:(isAgg t).run P w= .ok false w:=by unfold isAgg;rw[AM,run_underlying e w];cases d<;>first|rfl|cases f
 simp only[part,AM,b,AL,CD,if_false,c,AX]
section
variable{w:YM}{p:Px}{a b c d:Int}{x y:XZ}
theorem l_(k:Nat)(a b c d:Int):(Op.equalIn (k+2) 30 (.agg #[.int .i64 a,.int .i64 b,.int .i64 c,.int .i64 d]) (.agg #[.int .i64 a,.int .i64 b,.int .i64 c,.int .i64 d])).run XM w= .ok true w:=by
 have wI:XM.underlying 30=some (.struct (XM.fieldsOf 30)):=O
 have M:XM.stoodInHeld 30=false:=O
 have g:(XM.fieldsOf 30).toList.map (λf=>(f.name,f.offset,f.type))=[("X0",0,3),("Y0",1,3),("X1",2,3),("Y1",3,3)]:=O
 have e:XM.underlying 3=some (.int .i64):=O
 obtain⟨S,Q,H,E,g⟩:=AQ.1 g;obtain⟨R,r1,j,A,g⟩:=AQ.1 g;obtain⟨Z,r2,m,k2,g⟩:=AQ.1 g;obtain⟨P,K,o,F,g⟩:=AQ.1 g;obtain rfl:K=[]:=CB.1 g;subst o;subst m;subst j;simp only[BU]at E A k2 F;obtain⟨J,z,t⟩:=E;obtain⟨L,v,s⟩:=A;obtain⟨G,D,l⟩:=k2;obtain⟨N,B,u⟩:=F;have h:∀a:Int,(Op.equalIn (k+1) 3 (.int .i64 a) (.int .i64 a)).run XM w= .ok true w:=λa=>by rw[run_equalIn_int w k _ .i64 .i64 a a e,beq_self_eq_true]
 show(Op.equalIn (k+1+1) 30 (.agg _) (.agg _)).run XM w=_;rw[run_equalIn_struct w (k+1) _ _ _ wI M,H];refine Od (c:=true) (b:=true) (by rw[J];decide) (by rw[t,z];exact La e rfl rfl) (by rw[t,z];exact La e rfl rfl) (by rw[t];exact h _)<|Od (c:=true) (b:=true) (by rw[L];decide) (by rw[s,v];exact La e rfl rfl) (by rw[s,v];exact La e rfl rfl) (by rw[s];exact h _)<|Od (c:=true) (b:=true) (by rw[G];decide) (by rw[l,D];exact La e rfl rfl) (by rw[l,D];exact La e rfl rfl) (by rw[l];exact h _)<|Od (c:=true) (b:=true) (by rw[N];decide) (by rw[u,B];exact La e rfl rfl) (by rw[u,B];exact La e rfl rfl) (by rw[u];exact h _) ?_
 simp[Op.eqFields]
theorem Wz:(Xj 30 x y (.agg #[.int .i64 a,.int .i64 b,.int .i64 c,.int .i64 d]) (.agg #[.int .i64 a,.int .i64 b,.int .i64 c,.int .i64 d])).run XM w= .ok (.value (.bool true)) w:=by
 have f:XM.eqGuardType XM.depth 30=false:=O
 have e:=l_ (w:=w) 9998 a b c d;simp only[Xj,AM,run_eqGuard_agg w .eql _ x y _ _ f,AL,run_eql_struct,AX]at e ⊢;rw[e]
 rfl
theorem Ww:(cS 30 x y (.agg #[.int .i64 a,.int .i64 b,.int .i64 c,.int .i64 d]) (.agg #[.int .i64 a,.int .i64 b,.int .i64 c,.int .i64 d])).run XM w= .ok (.value (.bool false)) w:=by
 have f:XM.eqGuardType XM.depth 30=false:=O
 have e:=l_ (w:=w) 9998 a b c d;simp only[cS,AM,run_eqGuard_agg w .neq _ x y _ _ f,AL,run_neq_struct,AX]at e ⊢;rw[e]
 rfl
theorem rJ(k:Nat)(a b c d:Int):(Op.equalIn (k+2) 38 (.agg #[.int .u8 a,.int .u8 b,.int .u8 c,.int .u8 d]) (.agg #[.int .u8 a,.int .u8 b,.int .u8 c,.int .u8 d])).run XM w= .ok true w:=by
 have wI:XM.underlying 38=some (.struct (XM.fieldsOf 38)):=O
 have M:XM.stoodInHeld 38=false:=O
 have g:(XM.fieldsOf 38).toList.map (λf=>(f.name,f.offset,f.type))=[("R",0,5),("G",1,5),("B",2,5),("A",3,5)]:=O
 have e:XM.underlying 5=some (.int .u8):=O
 obtain⟨S,Q,H,E,g⟩:=AQ.1 g;obtain⟨R,r1,j,A,g⟩:=AQ.1 g;obtain⟨Z,r2,m,k2,g⟩:=AQ.1 g;obtain⟨P,K,o,F,g⟩:=AQ.1 g;obtain rfl:K=[]:=CB.1 g;subst o;subst m;subst j;simp only[BU]at E A k2 F;obtain⟨J,z,t⟩:=E;obtain⟨L,v,s⟩:=A;obtain⟨G,D,l⟩:=k2;obtain⟨N,B,u⟩:=F;have h:∀a:Int,(Op.equalIn (k+1) 5 (.int .u8 a) (.int .u8 a)).run XM w= .ok true w:=λa=>by rw[run_equalIn_int w k _ .u8 .u8 a a e,beq_self_eq_true]
 show(Op.equalIn (k+1+1) 38 (.agg _) (.agg _)).run XM w=_;rw[run_equalIn_struct w (k+1) _ _ _ wI M,H];refine Od (c:=true) (b:=true) (by rw[J];decide) (by rw[t,z];exact La e rfl rfl) (by rw[t,z];exact La e rfl rfl) (by rw[t];exact h _)<|Od (c:=true) (b:=true) (by rw[L];decide) (by rw[s,v];exact La e rfl rfl) (by rw[s,v];exact La e rfl rfl) (by rw[s];exact h _)<|Od (c:=true) (b:=true) (by rw[G];decide) (by rw[l,D];exact La e rfl rfl) (by rw[l,D];exact La e rfl rfl) (by rw[l];exact h _)<|Od (c:=true) (b:=true) (by rw[N];decide) (by rw[u,B];exact La e rfl rfl) (by rw[u,B];exact La e rfl rfl) (by rw[u];exact h _) ?_
 simp[Op.eqFields]
theorem WL:(Xj 38 x y (.agg #[.int .u8 a,.int .u8 b,.int .u8 c,.int .u8 d]) (.agg #[.int .u8 a,.int .u8 b,.int .u8 c,.int .u8 d])).run XM w= .ok (.value (.bool true)) w:=by
 have f:XM.eqGuardType XM.depth 38=false:=O
 have e:=rJ (w:=w) 9998 a b c d;simp only[Xj,AM,run_eqGuard_agg w .eql _ x y _ _ f,AL,run_eql_struct,AX]at e ⊢;rw[e]
 rfl
theorem KP(g:p.clamp=p):Ca 7 #[Ls p] w (CU w (.bool true)):=by
 have j:∀e,Ca 14 #[Ls p] e (CU e (Ls p)):=λe=>by
  have:=Tu (w:=e) (p:=p);rwa [g]at this
 exact uf func7 rfl<|ZR<|ZD 3 (λe f h=>j e) λu=>ZB 3 (Xj 38 (.tmp 4) (.tmp 5) (Ls p) (Ls p)) (.bool true) (λe f h=>WL)<|ZW (.bool true)
end
structure Rc where
 x:Int
 y:Int
 W:Nat
 H:Nat
abbrev Rc.V(R:Rc):YI:=Pw R.x R.y (R.x+R.W) (R.y+R.H)
abbrev Rc.C(R:Rc):List YI:=[.int .i64 R.x,.int .i64 R.y,.int .i64 (R.x+R.W),.int .i64 (R.y+R.H)]
abbrev Rc.n(R:Rc):Nat:=R.W*R.H
structure O4(R:Rc):Prop where
 x:0<=R.x/\R.x<=3900
 y:0<=R.y/\R.y<=3900
 W:1<=R.W/\R.W<=8
 H:1<=R.H/\R.H<=8
def Rc.In(R:Rc)(x y:Int):Prop:=(R.x<=x/\x<R.x+R.W)/\(R.y<=y/\y<R.y+R.H)
theorem O4.r{R:Rc}(h:O4 R):Hy R.x R.y (R.x+R.W) (R.y+R.H):=by obtain⟨f,c,b,e⟩:=h;unfold Hy;omega
theorem O4.n{R:Rc}(h:O4 R):1<=R.n/\R.n<=64:=⟨BF h.W.1 h.H.1,BF h.W.2 h.H.2⟩
theorem O4.in0{R:Rc}(h:O4 R):R.In R.x R.y:=by obtain⟨f,c,b,e⟩:=h;unfold Rc.In;omega
structure MV where
 x0:Int
 y0:Int
 x1:Int
 y1:Int
 A:YY
 n:Nat
 c:Nat
abbrev Ob(m:MV):List YI:=[.int .i64 m.x0,.int .i64 m.y0,.int .i64 m.x1,.int .i64 m.y1,.slice m.A m.n m.c]
abbrev Le(m:MV):YI:= .agg #[.int .i64 m.x0,.int .i64 m.y0,.int .i64 m.x1,.int .i64 m.y1,.slice m.A m.n m.c]
abbrev T9:MV:=⟨0,0,0,0,none,0,0⟩
abbrev Mp(R:Rc)(z:YZ):MV:=⟨R.x,R.y,R.x+R.W,R.y+R.H,z.1,R.n,z.2⟩
theorem C5(m:MV):(Ob m).length=5:=rfl
def Jf(k:Nat):List YI:=[.int .u8 (k:Int)]
theorem Cr:∀k,(Jf k).length=1:=λ_=>rfl
theorem Gh:∀k,∀v∈Jf k,v.oneCell'=true:=λk v b=>by obtain rfl:=AE.1 b;rfl
abbrev pM(K:Nat->Prop):={k:Nat // k<=255/\K k}
inductive Zw(u:YM)(R:Rc)(K:Nat->Prop):MV->Prop
 |nil (h:K 0):Zw u R K T9
 |row (z:YZ) (bs:List Nat) (h:Kk u z.1 R.n 1 Jf bs) (hc:R.n<=z.2) (hk:∀b∈bs,b<=255/\K b):Zw u R K (Mp R z)
inductive Qf(N:Nat)(R:Rc)(K:Nat->Prop)(m:MV)(u:YM):Prop
 |nil (h:K 0) (e:m=T9)
 |row (z:YZ) (bs:List Nat) (h:K6 u N 5 1 z.1 R.n z.2 (bs.flatMap Jf)) (hl:bs.length=R.n) (hk:∀b∈bs,b<=255/\K b) (e:m=Mp R z)
section
variable{w u:YM}{R:Rc}{K K1 K2 K3:Nat->Prop}{x y:Int}{m m1 m2:MV}{N g gl n c:Nat}{z:YZ}{A:YY}{L:List MV}
theorem Zw.below{b:YM}(h:Zw w R K m)(f:Below w.heap.size w b):Zw b R K m:=by
 cases h with
 |nil h=>exact .nil h
 |row z e h j k=>exact .row z e (h.below f) j k
theorem Qf.a(h:Qf N R K m u):Zw u R K m:=by
 rcases h with ⟨h,rfl⟩|⟨z,b,h,e,f,rfl⟩
 .exact .nil h
 .exact .row z b ((K6.reads h).rows (cl:=Jf) (l:=b) Cr e) (K6.cap h) f
theorem Qf.mono(h:Qf N R K m u){B:Nat}(j:B<=N):Qf B R K m u:=by
 rcases h with ⟨h,e⟩|⟨z,f,h,k,o,e⟩
 .exact .nil h e
 .exact .row z f (K6.rebase h λb l=>AH j (K6.lt h b l).1) k o e
theorem j7:(R.x+R.W-R.x)*(R.y+R.H-R.y)=(R.n:Int):=by rw[show R.x+R.W-R.x=R.W by omega,show R.y+R.H-R.y=R.H by omega];rfl
theorem Y5(b:O4 R):Ca 15 #[R.V] w (CU w (.int .i64 (R.n:Nat))):=
 jH b.r j7 (by have:=b.n;omega)
theorem fR{i j k:Nat}(b:O4 R)(s:i<R.W)(o:j<R.H)(v:k=j*R.W+i)(F:x=R.x+i)(G:y=R.y+j):Ca 49 #[R.V,.int .i64 x,.int .i64 y] w (CU w (.int .i64 (k:Nat))):=by
 have l:=b.r;have J:j*R.W+R.W<=R.n:=by
  have:=AC R.W (show j+1<=R.H from o);rw[AR,Nat.one_mul,AY R.H]at this;exact this
 have D:=b.n;have f:=b.x;have e:=b.y;have p:=b.W;have t:=b.H;exact uf func49 rfl<|ZR<|ZC (λB E h=>TJ (x:=x) (y:=y) l I I) λZ=>ZI false<|ZX (.int .i64 (XQ.wrap (XQ.wrap (XQ.wrap (XQ.wrap (y-R.y)*XQ.wrap (R.x+R.W-R.x))+x)-R.x))) (by rw[show y-R.y=(j:Int) by omega,show R.x+R.W-R.x=(R.W:Int) by omega,AA (j:Int) I,AA (R.W:Int) I,<-BM,AA ((j*R.W:Nat):Int) I,AA (((j*R.W:Nat):Int)+x) I,AA _ I];congr 2;omega)
theorem GT{i j:Nat}(e:i<R.W)(b:j<R.H):j*R.W+i<R.n:=by
 have:=AC R.W (show j+1<=R.H from b);rw[AR,Nat.one_mul,AY R.H]at this;show j*R.W+i<R.W*R.H;omega
theorem fk(j:O4 R)(hi:R.In x y):Ca 49 #[R.V,.int .i64 x,.int .i64 y] w (K4 w (λk:{k:Nat // k<R.n}=> .int .i64 (k.1:Nat)) λ_ _=>True):=by
 unfold Rc.In at hi;have f:(x-R.x).toNat<R.W:=I
 have b:(y-R.y).toNat<R.H:=I
 refine(fR j f b rfl I I).mono λe o k=> ?_
 obtain⟨_,h,k2,l⟩:=k;exact⟨⟨_,GT f b⟩,h,k2,l⟩
theorem T4(f:O4 R)(j:Zw w R K m):Ca 81 #[Le m] w (CU w (.bool true)):=by
 have l:=f.n;refine uf func81 rfl<|ZR ?_
 cases j with
 |nil h=>
  exact ZC (λe b h=>JE) λa=>ZD 5 (λe b h=>Ph) λc=>ZB 5 (Xj 30 (.tmp 9) (.tmp 11) (Pw 0 0 0 0) (Pw 0 0 0 0)) (.bool true) (λe b h=>Wz)<|ZW (.bool true)
 |row z k h=>
  exact ZC (λe b h=>Y5 f) λa=>ZD 5 (λe b h=>Oy f.r) λc=>us 5 (Xj 30 (.tmp 9) (.tmp 11) R.V R.V) (.bool true) O (λe b h=>Wz)<|ZS 9<|YE 15 ((R.n:Int)<=65536) I<|ZX (.bool ((R.n:Int)==(R.n:Int))) (by rw[beq_self_eq_true])
theorem SB(p:O4 R)(hi:R.In x y)(j:Zw w R K m):Ca 117 #[Le m,.int .i64 x,.int .i64 y] w (K4 w (λk:pM K=> .int .u8 (k.1:Nat)) λ_ _=>True):=by
 refine uf func117 rfl<|ZR ?_
 cases j with
 |nil D=>
  refine ZC (λe b h=>eR (x:=x) (y:=y)) λi=>ZI true<|ZV (.int .u8 0) (λe b h=>⟨⟨0,AD _,D⟩,rfl,b,Zv⟩)
 |row z B j E t=>
  refine ZC (λe b h=>fk p hi) λi=> ?_
  obtain⟨i,f⟩:=i;obtain⟨k,o⟩:∃v,B[i]? =some v:=⟨_,AB (by rw[j.1];exact f)⟩
  obtain⟨ad,s,l⟩:=j.2 i k o;refine YN ((i:Int)<0)<|ZA (Kd 108 (.slice z.1 R.n z.2) i) (.pointer (some (ad.add (i*1)))) (λe b h=>by rw[s];exact L9 (elem:=5) O O f)<|ZA (Ke 5 (ad.add (i*1))) (.int .u8 k) (λe b h=>Kh O (L5 b (by have:=l 0 _ rfl;rw[X4]at this;exact this)))<|ZV (.int .u8 k) (λe b h=>⟨⟨k,t k (AF o)⟩,rfl,b,Zv⟩)
theorem MT(p:O4 R)(hi:R.In x y)(j:Zw w R K m):Ca 84 #[Le m,.int .i64 x,.int .i64 y] w (K4 w (λk:pM K=> .int .u8 (k.1:Nat)) λ_ _=>True):=by
 refine uf func84 rfl<|ZR ?_
 cases j with
 |nil D=>
  refine ZC (λe b h=>eR (x:=x) (y:=y)) λi=>ZI true<|ZV (.int .u8 0) (λe b h=>⟨⟨0,AD _,D⟩,rfl,b,Zv⟩)
 |row z B j E t=>
  refine ZC (λe b h=>fk p hi) λi=> ?_
  obtain⟨i,f⟩:=i;obtain⟨k,o⟩:∃v,B[i]? =some v:=⟨_,AB (by rw[j.1];exact f)⟩
  obtain⟨ad,s,l⟩:=j.2 i k o;refine YN ((i:Int)<0)<|ZA (Kd 108 (.slice z.1 R.n z.2) i) (.pointer (some (ad.add (i*1)))) (λe b h=>by rw[s];exact L9 (elem:=5) O O f)<|ZA (Ke 5 (ad.add (i*1))) (.int .u8 k) (λe b h=>Kh O (L5 b (by have:=l 0 _ rfl;rw[X4]at this;exact this)))<|ZV (.int .u8 k) (λe b h=>⟨⟨k,t k (AF o)⟩,rfl,b,Zv⟩)
theorem qV{k:Nat}{x y:YI}(f:K8 w g [.int .u8 (k:Int)])(e:k<=255/\K k):Ca 124 #[x,y,Kp g] w (K4 w (λk:pM K=> .int .u8 (k.1:Nat)) λ_ _=>True):=by
 refine uf func124 rfl<|ZR<|ZA (Ke 5 ⟨g,0,none⟩) (.int .u8 k) (λj b h=>Kh O (by have:=(f.below b).range 0 _ rfl;simpa using this))<|ZV (.int .u8 k) (λj b h=>⟨⟨k,e⟩,rfl,b,Zv⟩)
theorem Ui{i:Nat}{ad:XR}(b:A=some ad)(hi:i<n):(Kd 243 (.slice A n c) i).run XM w= .ok (.value (.pointer (some (ad.add (i*5))))) w:=by
 rw[b];exact L9 (elem:=110) O O hi
theorem Bs{ad:XR}(h:∀(j:Nat) (v:YI),(Ob m)[j]? =some v->w.cell? (ad.add j)=some v):(Ke 110 ad).run XM w= .ok (.value (Le m)) w:=
 Mh (vs:=Ob m) O O h
theorem h_(b:O4 R)(f:Zw w R K m):Ca 165 #[Le m] w (CU w (.bool false)):=uf func165 rfl<|ZR<|ZC (λj e h=>T4 b (f.below e)) λv=>ZW (.bool false)
theorem cQ(o:O4 R)(k:Kk w A n 5 Ob L)(E:n<=1000000)(t:∀m∈L,∃K,Zw w R K m):Ca 217 #[.slice A n c,.func (.func 165) #[] #[]] w (CU w (.int .i64 (-1))):=by
 refine uf func217 rfl<|ZR<|uj (ι:={q:Nat // q<=n}) 19 (λq=>⟨[vS 0 A n c,vV 1 (.func (.func 165) #[] #[]),vI 7 n,vI 8 q.1],[]⟩) (λq u=>True) (λq=>n-q.1) (⟨0,AD _⟩) O Zf Zt (λu h=>trivial) ?_
 rintro⟨i,hi⟩ F
 by_cases b:i<n
 case neg=>
  obtain rfl:i=n:=I
  exact ZR<|YN ((i:Int)<(i:Int))<|ug O<|ZR<|ZW (.int .i64 (-1))
 obtain⟨m,l⟩:∃v,L[i]? =some v:=⟨_,AB (by rw[k.1];exact b)⟩
 obtain⟨ad,p,s⟩:=k.2 i m l;obtain⟨K,D⟩:=t m (AF l);refine ZR<|YL ((i:Int)<(n:Int))<|ZA (Kd 243 (.slice A n c) i) (.pointer (some (ad.add (i*5)))) (λf e h=>Ui p b)<|ZA (Ke 110 (ad.add (i*5))) (Le m) (λf e h=>Bs λj v B=>L5 e (s j v B))<|ZC (λf e h=>h_ o (D.below e)) λu=>ZI false<|YA 8 i b<|ui (⟨i+1,b⟩) O Zn Zt (λu h=>trivial)
theorem cw(p:O4 R)(t:Kk w A n 5 Ob L)(s:n<=1000000)(o:∀m∈L,∃K,Zw w R K m):Ca 114 #[.slice A n c] w (CU w (.bool true)):=by
 have j:∀b,Below w.heap.size w b->Ca 164 #[.slice A n c,.func (.func 165) #[] #[]] b (CU b (.bool false)):=λb e=>by
  exact uf func164 rfl<|ZR<|ZC (λb f h=>cQ (c:=c) p ((t.below e).below f) s (λm v=>by obtain⟨k,l⟩:=o m v;exact⟨k,(l.below e).below f⟩)) λu=>ZW (.bool false)
 exact uf func114 rfl<|ZR<|ZC (λb f h=>j b f) λu=>ZW (.bool true)
end
section
variable{P:YH}{Δ:List XY}{W:YM}{Q:Exit->Act->YM->Prop}{Φ:YM->Prop}{c:Mm}
structure Ry [Rnd](P:YH)(Δ:List XY)(W:YM)(Q:Exit->Act->YM->Prop)(Φ:YM->Prop)(c:Mm):Prop where
 get:match c.foc with
  | .any ops fuel listed=>c.st.wf->∀β a w,Ok Δ W β c.st Φ a w->wpAnyIn Fe 0 P .any ops (post P Q c.k) fuel listed a w
  |_=>False
structure Xc [Rnd](P:YH)(Δ:List XY)(W:YM)(Q:Exit->Act->YM->Prop)(i:Nat)(Φ:YM->Prop)(c:Mm):Prop where
 get:match c.foc with
  | .any ops (fuel+1) listed=>c.st.wf->∀β a w,Ok Δ W β c.st Φ a w->wpOpIn Fe 0 P ops (post P Q c.k) i (wpAnyIn Fe 0 P .any ops (post P Q c.k) fuel (listed.setIfInBounds i true)) a w
  |_=>False
def lD(c:Mm):Bool:=match c.foc with
 | .code (.region _ _ true)=>true
 |_=>false
def mq(c:Mm):Mm:=match c.foc with
 | .code (.region _ b true)=>⟨.any b b.size (Array.replicate b.size false),c.k,c.st⟩
 |_=>c
theorem v6 [Rnd](l:P.follows .mixedOrders=true)(b:lD c=true)(h:Ry P Δ W Q Φ (mq c)):K0 P Δ W Q Φ c:=by
 obtain⟨f,k,σ⟩:=c;replace h:=h.get;refine⟨?_⟩;unfold lD at b;unfold mq at h;simp only at b h;split at b
 .rename_i n g;intro e β a w j;exact wpIn_region_any l (h e β a _ j.drew)
 .cases b
def IY(c:Mm):Option (List Nat):=match c.foc with
 | .any e (_+1) b=>some (Region.ready .any e b)
 |_=>none
theorem Ry.each [Rnd](l:List Nat)(b:IY c=some l)(f:l≠[])(h:∀i∈l,Xc P Δ W Q i Φ c):Ry P Δ W Q Φ c:=by
 obtain⟨j,k,σ⟩:=c;refine⟨?_⟩;unfold IY at b;simp only at b;split at b
 .rename_i m fuel e;injection b with b;intro g β a w o;refine⟨λp=>absurd (b.symm.trans p) f,λi hi=>(h i (by rw[<-b];exact hi)).get g β a w o⟩
 .cases b
theorem Ry.one [Rnd](i:Nat)(e:IY c=some [i])(h:Xc P Δ W Q i Φ c):Ry P Δ W Q Φ c:=
 .each [i] e Zs λj b=>by obtain rfl:=AE.1 b;exact h
theorem Ry.two [Rnd](i j:Nat)(e:IY c=some [i,j])(h:Xc P Δ W Q i Φ c)(f:Xc P Δ W Q j Φ c):Ry P Δ W Q Φ c:=
 .each [i,j] e Zs λx b=>by
  rcases BP.1 b with rfl|b
  .exact h
  .obtain rfl:=AE.1 b;exact f
def lZ(c:Mm):Bool:=match c.foc with
 | .any e _ b=>match Region.ready .any e b with
  | []=>true
  |_=>false
 |_=>false
theorem Ry.done [Rnd](b:lZ c=true)(h:K0 P Δ W Q Φ ⟨.out .normal,c.k,c.st⟩):Ry P Δ W Q Φ c:=by
 obtain⟨l,k,σ⟩:=c;replace h:=h.get;refine⟨?_⟩;unfold lZ at b;simp only at b;split at b
 .rename_i m fuel f;split at b
  .rename_i j;intro e β a w g;cases fuel with
   |zero=>exact⟨j,h e β a w g⟩
   |succ n=>exact⟨λ_=>h e β a w g,λi hi=>by rw[j]at hi;cases hi⟩
  .cases b
 .cases b
def oy(P:YH)(i:Nat)(c:Mm):Option Mm:=match c.foc with
 | .any f (fuel+1) b=>match f[i]? with
  |some o=>match Ua P f o c.st with
   |some e=>some ⟨.any f fuel (b.setIfInBounds i true),c.k,c.st.app o.dst e⟩
   |none=>none
  |none=>none
 |_=>none
def lS(P:YH)(i:Nat)(c:Mm):Mm:=(oy P i c).getD c
theorem Xc.det [Rnd]{i:Nat}(b:(oy P i c).isSome=true)(h:Ry P Δ W Q Φ (lS P i c)):Xc P Δ W Q i Φ c:=by
 obtain⟨x,k,σ⟩:=c;replace h:=h.get;refine⟨?_⟩;unfold lS at h;unfold oy at b h;simp only at b h;split at b
 .rename_i u fuel g;split at b
  .rename_i o s;split at b
   .rename_i e p;simp only[s,p,Option.getD_some]at h;intro m β a w z;exact B5 (Z:=λ_ _=>False) (KA:=λσ' Φ'=>σ'=σ.app o.dst e/\Φ'=Φ) (.det e p ⟨rfl,rfl⟩) s z m (λ_ _ _ _ _ _ t=>t.elim) λj σ' Φ' y A v l f=>by
     obtain⟨rfl,rfl⟩:=v;exact h f j y A l
   .cases b
  .cases b
 .cases b
def mb(P:YH)(i:Nat)(c:Mm):Option (XU×Array YI):=match c.foc with
 | .any b (_+1) _=>match b[i]? with
  | some o=>if Kx b o c.st then(match T8 P o c.st with
   |some (g,xs)=>match Cv xs with
    |some vs=>some (g,vs.toArray)
    |none=>none
   |none=>none)else none
  |none=>none
 |_=>none
theorem Xc.call [Rnd]{X:Type}{i:Nat}{g:XU}{args:Array YI}{val:X->YI}{G:X->YM->Prop}
 (H:∀w,Below W.heap.size W w->Φ w->XW P g args w (K4 w val G)) (b:mb P i c=some (g,args))
 (h:∀x:X,Ry P Δ W Q (λw=>Φ w/\G x w) (Ae i (val x) c)):Xc P Δ W Q i Φ c:=by
 obtain⟨A,k,σ⟩:=c;replace h:=λx=>(h x).get
 refine⟨?_⟩;unfold mb at b;simp only at b;split at b
 .rename_i u fuel f;split at b
  .rename_i o s;split at b
   .rename_i B;split at b
    .rename_i y xs D;split at b
     .rename_i vs J;injection b with b;injection b with h1 h2;subst h1;subst h2;intro p β a w wI;refine B5 (Z:=λ_ _=>False) (KA:=λσ' Φ'=>∃x,σ'=σ.put o.dst (.v (val x))/\Φ'=λw=>Φ w/\G x w) (.call y xs val G B D (λβ w E l _=>by rw[Qp J];exact H w E l) λx=>⟨x,rfl,rfl⟩) s wI p (λ_ _ _ _ _ _ t=>t.elim) λj σ' Φ' F K z m e=> ?_
      obtain⟨x,rfl,rfl⟩:=z;have:=h x;simp only[Ae,s,BX,BS]at this;exact this e j F K m
     .cases b
    .cases b
   .cases b
  .cases b
 .cases b
def j_(i:Nat)(c:Mm):Option (Sem Next):=match c.foc with
 | .any b (_+1) _=>match b[i]? with
  |some o=>match o.op with
   | .select _ _=>none
   |_=>if Kx b o c.st&&c.st.plain o.op then some (execOp c.st.rho o)else none
  |none=>none
 |_=>none
theorem Xc.ask [Rnd]{i:Nat}(s:Sem Next)(v:YI)(f:j_ i c=some s)(D:∀w,Below W.heap.size W w->Φ w->s.run P w= .ok (.value v) w)(h:Ry P Δ W Q Φ (Ae i v c)):Xc P Δ W Q i Φ c:=by
 obtain⟨A,k,σ⟩:=c;replace h:=h.get;refine⟨?_⟩;unfold j_ at f;simp only at f;split at f
 .rename_i y fuel l;split at f
  .rename_i o u;split at f
   .cases f
   .rename_i m;split at f
    .rename_i p;simp only[AP]at p;injection f with f;subst f;intro t β a w g;have j:∀x∈o.op.operands,a.eval x=σ.rho x:=λx B=>by
      rw[g.eval,uF];· rfl
      exact AW.1 p.2 x (by simpa using B)
     unfold wpOpIn;simp only[u,M3 g,p.1,if_true];refine Zy ((congrArg (λs=>s.run P w) (execOp_congr o (λcs b e=>m cs b e) j)).trans (D w g.bel g.phi)) Zs ?_;simp only[Ae,u,BX,BS]at h;exact h (t.put _ (by intro k z;simp[AV.ids]at z)) β _ _ (g.put o.dst (.v v))
    .cases f
  .cases f
 .cases f
theorem Xc.store [Rnd]{i:Nat}{L:List Nat}{G Φ':YM->Prop}(s:Sem Next)(f:j_ i c=some s)
 (N:∀w,Below W.heap.size W w->Φ w->∃m,s.run P w= .ok .skip m/\Ei L w m/\∀g,m.heap.size<=g.heap.size->(∀b∈L,g.heap[b]? =m.heap[b]?)->G g) (J:Ub W L Φ) (u:Tg L Φ G Φ')
 (h:Ry P Δ W Q Φ' (Ae i undef c)):Xc P Δ W Q i Φ c:=by
 obtain⟨wI,k,σ⟩:=c;replace h:=h.get;refine⟨?_⟩;unfold j_ at f;simp only at f;split at f
 .rename_i E fuel t;split at f
  .rename_i o D;split at f
   .cases f
   .rename_i y;split at f
    .rename_i z;simp only[AP]at z;injection f with f;subst f;intro A β a w l;have p:∀x∈o.op.operands,a.eval x=σ.rho x:=λx M=>by
      rw[l.eval,uF];· rfl
      exact AW.1 z.2 x (by simpa using M)
     unfold wpOpIn;simp only[D,M3 l,z.1,if_true];obtain⟨m,j,B,Z⟩:=N w l.bel l.phi;refine Zy ((congrArg (λs=>s.run P w) (execOp_congr o (λcs b e=>y cs b e) p)).trans j) Zs ?_;simp only[Ae,D,BX,BS]at h;exact h (A.put _ (by intro k F;simp[AV.ids]at F)) β _ _ ((l.mut J B (λg H R=>Z g H λb K=>R b (.inl K)) u).put o.dst (.v undef))
    .cases f
  .cases f
 .cases f
theorem v8 [Rnd]{ι:Type}(f:ι->Mm->Mm)(Ψ:ι->YM->Prop)(h:(∀i,K0 P Δ W Q (Ψ i) (f i c))->Ry P Δ W Q Φ c)(k:∀i,K0 P Δ W Q (Ψ i) (f i c)):Ry P Δ W Q Φ c:=h k
end
def aU(k:IntKind):YI->Bool
 | .int b _=>decide (b=k)
 |_=>false
def nR:YI->Bool
 | .bool _=>true
 |_=>false
def OW:List (YI->Bool)->List YI->Bool
 | [],[]=>true
 |p::ps,v::vs=>p v&&OW ps vs
 |_,_=>false
def isAgg(ps:List (YI->Bool)):YI->Bool
 | .agg xs=>OW ps xs.toList
 |_=>false
def FJ(ps:List (YI->Bool)):YI->Bool
 | .tuple xs=>OW ps xs.toList
 |_=>false
abbrev iH:YI->Bool:=isAgg [aU .i64,aU .i64]
theorem T5{k:IntKind}{v:YI}(h:aU k v=true):∃z,v= .int k z:=by
 unfold aU at h;split at h
 .exact⟨_,by rw[YP h]⟩
 .cases h
theorem KF{v:YI}(h:nR v=true):∃b,v= .bool b:=by
 unfold nR at h;split at h
 .exact⟨_,rfl⟩
 .cases h
theorem UL{p q:YI->Bool}{l:List YI}(h:OW [p,q] l=true):∃a b,l=[a,b]/\p a=true/\q b=true:=by
 match l,h with
 | [a,b],h=>exact⟨a,b,rfl,by simpa[OW]using h⟩
 | [a],h=>simp[OW]at h
 |a::b::d::r,h=>simp[OW]at h
theorem kn{v:YI}(h:iH v=true):∃x y,v=pt x y:=by
 unfold iH isAgg at h;split at h
 .rename_i xs;obtain⟨a,b,e,f,c⟩:=UL h;obtain⟨x,rfl⟩:=T5 f;obtain⟨y,rfl⟩:=T5 c;exact⟨x,y,congrArg Value.agg (Array.ext' e)⟩
 .cases h
theorem C7{p q:YI->Bool}{v:YI}(h:FJ [p,q] v=true):∃a b,v= .tuple #[a,b]/\p a=true/\q b=true:=by
 unfold FJ at h;split at h
 .rename_i xs;obtain⟨a,b,e,f,c⟩:=UL h;exact⟨a,b,congrArg Value.tuple (Array.ext' e),f,c⟩
 .cases h
section
variable{P:YH}{Δ:List XY}{W:YM}{Q:Exit->Act->YM->Prop}{Φ:YM->Prop}{c:Mm}
theorem uz [Rnd](e:(T7 c).isSome=true)(g:K0 P Δ W Q Φ (V6 true c))(f:K0 P Δ W Q Φ (V6 false c)):K0 P Δ W Q Φ c:=by
 obtain⟨b,e⟩:=BB.1 e;cases b
 .exact uu false e f
 .exact uu true e g
def Df(p:YI->Bool)(t:Nat)(c:Mm):Bool:=match c.st.tmps[t]? with
 |some (.v v)=>p v
 |_=>false
theorem XJ{p:YI->Bool}{t:Nat}(h:Df p t c=true):∃v,c.st.tmps[t]? =some (.v v)/\p v=true:=by
 unfold Df at h;split at h
 .exact⟨_,by assumption,h⟩
 .cases h
theorem vg [Rnd](p:YI->Bool)(t:Nat)(f:Df p t c=true)(h:∀v,p v=true->K0 P Δ W Q Φ (Ky t v c)):K0 P Δ W Q Φ c:=by
 obtain⟨v,e,b⟩:=XJ f;exact uh t v v e rfl (h v b)
theorem uK [Rnd](k:IntKind)(t:Nat)(e:Df (aU k) t c=true)(h:∀z,K0 P Δ W Q Φ (Ky t (.int k z) c)):K0 P Δ W Q Φ c:=
 vg (aU k) t e λv b=>by obtain⟨z,rfl⟩:=T5 b;exact h z
theorem u5 [Rnd](t:Nat)(e:Df iH t c=true)(h:∀x y,K0 P Δ W Q Φ (Ky t (pt x y) c)):K0 P Δ W Q Φ c:=
 vg iH t e λv b=>by obtain⟨x,y,rfl⟩:=kn b;exact h x y
theorem uM [Rnd](t:Nat)(h:Df nR t c=true)(f:K0 P Δ W Q Φ (Ky t (.bool true) c))(g:K0 P Δ W Q Φ (Ky t (.bool false) c)):K0 P Δ W Q Φ c:=
 vg nR t h λv e=>by
  obtain⟨b,rfl⟩:=KF e;cases b
  .exact g
  .exact f
theorem uO{fn:Func}{R:XS->YM->Prop}(p:YI->Bool)(h:(A9 P fn c).map p=some true)(f:∀v,p v=true->∀w,Below W.heap.size W w->(∀e,w.heap.size<=e.heap.size->(∀b,W.heap.size<=b->b<w.heap.size->e.heap[b]? =w.heap[b]?)->Φ e)->R (.returned v) w):K0 P [] W (bodyPost P fn R) Φ c:=by
 obtain⟨v,j,g⟩:=BO.1 h;exact vu j (f v g)
abbrev VP(p:YI->Bool):={v:YI // p v=true}
end
section
open Go.Shelf
def Uu:Go.Shelf.Ren:=⟨λ|4=>294|n=>n,λ|22=>296|25=>74|3=>3|4=>4|9=>9|20=>20|0=>0|n=>n,λ|n=>n⟩
theorem mf:Lays8.n4 XM Uu:={
 mixed:=O
 f4:=⟨ "slices.Grow[[]grisaille/api.Point,grisaille/api.Point]",by decide,func294.trans (congrArg some O)⟩
 t0:=underlying0
 a0:=isAgg0
 z0:=sizeOf0
 v0:=zeroValue0
 t3:=underlying3
 a3:=isAgg3
 z3:=sizeOf3
 v3:=zeroValue3
 t4:=underlying4
 a4:=isAgg4
 z4:=sizeOf4
 v4:=zeroValue4
 t9:=underlying9
 a9:=isAgg9
 z9:=sizeOf9
 v9:=zeroValue9
 t20:=underlying20
 a20:=isAgg20
 z20:=sizeOf20
 v20:=zeroValue20
 t22:=underlying296
 a22:=isAgg296
 z22:=sizeOf296
 v22:=zeroValue296}
theorem OB{α:Type}{s:Nat}{cl:α->List YI}(c:∀x,(cl x).length=s):∀(l:List α) (t:Nat) (v:YI),(l.flatMap cl)[t]? =some v->∃(k:Nat) (x:α) (j:Nat),l[k]? =some x/\(cl x)[j]? =some v/\t=k*s+j
 | [],t,v,h=>by simp at h
 | x::l,t,v,h=>by
  rw[CF]at h;rcases CC t (cl x).length with b|b
  .rw[BW b]at h;exact⟨0,x,t,rfl,h,by omega⟩
  .rw[BV b]at h;obtain⟨k,y,j,f,e,g⟩:=OB c l _ v h;have:=c x;exact⟨k+1,y,j,f,e,by rw[AR];omega⟩
theorem Kk.reads{α:Type}{w:YM}{A:YY}{n s:Nat}{cl:α->List YI}{l:List α}(h:Kk w A n s cl l)(c:∀x,(cl x).length=s)(p:0<s):Mt w w.heap.size s A n (l.flatMap cl):=by
 refine⟨by rw[Nq c,h.1],λg=> ?_⟩;obtain⟨x,t⟩:∃x,l[0]? =Option.some x:=⟨_,AB (by rw[h.1];exact g)⟩
 obtain⟨ad,e,E⟩:=h.2 0 x t;obtain⟨v,D⟩:∃v,(cl x)[0]? =Option.some v:=⟨_,AB (by rw[c];exact p)⟩
 obtain⟨_,_,_,f⟩:=U8 (E 0 v D);rw[Pb,Pb]at f;refine⟨ad,e,(BL.1 f).1,λj u o=> ?_⟩;obtain⟨k,y,i,B,F,rfl⟩:=OB c l j u o;obtain⟨m,b,z⟩:=h.2 k y B;rw[e]at b;injection b with b;subst b;rw[<-X4];exact z i u F
section
variable{w u:YM}{A:YY}{n c N:Nat}{H:List LP}{l:List Pt}
theorem L8:∀p,(K9 p).length=2:=λ_=>rfl
theorem I2(l:List Pt):∀v∈l.flatMap K9,v.oneCell'=true:=λv e=>by
 obtain⟨p,_,b⟩:=List.mem_flatMap.1 e;simp[K9]at b;rcases b with rfl|rfl<;>rfl
theorem ST{z:YZ}{m B c2:Nat}{A2:YY}{acc:List Pt}(h:K6 u B 74 2 z.1 m z.2 (acc.flatMap K9))(b:B<=u.heap.size)(f:Kk u A2 l.length 2 K9 l)(e:m+l.length<=100000000):
 Mv XM u (bl z.1) (λz:YZ=> .slice z.1 (m+l.length) z.2) (λz v=>K6 v B 74 2 z.1 (m+l.length) z.2 ((acc++l).flatMap K9)) (My 296 296 (.slice z.1 m z.2) (.slice A2 l.length c2)):=by
 rw[List.flatMap_append];exact M2 (P:=XM) (s:=2) (z:=pt 0 0) (bytes:=16) (m:=l.length) (cc:=c2) (t:=296) (elem:=74) O O rfl Zd h b (f.reads L8 Zd) (I2 l) e Zd
theorem ig(F:0<n)(J:n<=1000000)(s:N<=w.heap.size):Ca 294 #[.slice none 0 0,.int .i64 n] w (K4 w (λy:YZ=> .slice y.1 0 y.2) λy u=>K6 u N 74 2 y.1 0 y.2 []):=by
 have hi:Ya XM 74=some (pt 0 0,2,16):=O
 unfold Ya at hi;obtain⟨z,j,p⟩:=BY.1 hi;obtain⟨z',k,b⟩:=BO.1 p;simp only[BU]at b;obtain⟨rfl,E,m⟩:=b;have h:=Any8.slices_Grow_grow mf z (pt 0 0) j k I none 0 0 n [] w (BH _) I (by rw[m];omega) I Zs (λ_=>rfl) (λa x=>by cases x);refine h.mono λe Z v=> ?_
 obtain⟨rfl,rfl⟩:=v;have o:0+n<=grownCap w (0+n) 0 (Uu.t 25):=grownCap_ge w _ _ _;have f:grownCap w (0+n) 0 (Uu.t 25)<=maxLen:=grownCap_le_maxLen w (0+n) 0 _ (by unfold maxLen;omega);generalize grownCap w (0+n) 0 (Uu.t 25)=G at o f;have g:=Pa w.drew (Obj.cells (#[]++Builtin.zeroCells (pt 0 0).cells (0+n-0)++Builtin.zeroCells (pt 0 0).cells (G- (0+n))) (Uu.t 25));refine⟨(some ⟨w.heap.size,0,none⟩,G),rfl,⟨rfl,rfl,rfl,g.size,g.block⟩,λD B k2=>⟨by simp,.inr ⟨w.heap.size,G,_,rfl,s,(Pv w.drew _ B k2).1,AD _,f,?_,by simp⟩⟩⟩;have e:(pt 0 0).cells.size=2:=rfl;simp only[Builtin.zeroCells,e,Array.size_append,Array.size_map,Array.size_range,List.size_toArray,CH];omega
theorem j4(g:n<=1000000)(f:N<=w.heap.size):Ca 294 #[.slice none 0 0,.int .i64 n] w (K4 w (λy:YZ=> .slice y.1 0 y.2) λy u=>K6 u N 74 2 y.1 0 y.2 []):=by
 by_cases h:0<n
 .exact ig h g f
 .obtain rfl:n=0:=I
  refine(Any8.slices_Grow_room mf none 0 0 0 w (BH _) I I (BH _)).mono λe j b=> ?_
  obtain⟨rfl,rfl⟩:=b;exact⟨(none,0),rfl,Below.refl _ _,λ_ _ _=>uG⟩
theorem Nw.at(h:Nw w A n H){k:Nat}(e:k<n):∃x ad,H[k]? =some x/\A=some ad/\∀(j:Nat) (v:YI),(Qc x)[j]? =some v->w.cell? ((ad.add (k*1)).add j)=some v:=by
 obtain⟨x,b⟩:∃v,H[k]? =some v:=⟨_,AB (by rw[h.row.1];exact e)⟩
 obtain⟨ad,f,g⟩:=h.row.2 k x b;exact⟨x,ad,b,f,g⟩
theorem Uv{k:Nat}{x:LP}(h:H[k]? =some x):(K5 (H.take (k+1))).flatten=(K5 (H.take k)).flatten++x.1:=by
 rw[L7 h];simp[K5]
theorem SE(k:Nat):(K5 (H.take k)).flatten.length<=(K5 H).flatten.length:=by
 have e:K5 H=K5 (H.take k)++K5 (H.drop k):=by unfold K5;rw[<-BC,BZ]
 rw[e,List.flatten_append,AK];omega
theorem LW(F:Nw w A n H)(hn:n<=1000000)(U:(K5 H).flatten.length<=1000000)(Q:N<=w.heap.size):
 Ca 257 #[.slice A n c] w (K4 w (λy:YZ=> .slice y.1 (K5 H).flatten.length y.2) λy u=>K6 u N 74 2 y.1 (K5 H).flatten.length y.2 ((K5 H).flatten.flatMap K9)):=by
 have R:H.length=n:=F.row.1;refine uf func257 rfl<|ZR<|uj (ι:={k:Nat // k<=n}) 36 (λk=>⟨[vS 0 A n c,vI 3 ((K5 (H.take k.1)).flatten.length:Int),vS 9 A n c,vI 10 (n:Int),vI 11 (k.1:Int)],[]⟩) (λ_ _=>True) (λk=>n-k.1) (⟨0,AD _⟩) O Zf Zt (λ_ _=>trivial) ?_
 rintro⟨k,Z⟩ gg
 by_cases m:k<n
 .obtain⟨x,ad,t,wI,K⟩:=F.at m;have J:=SE (H:=H) (k+1);rw[Uv t,AK]at J;refine ZR<|YL ((k:Int)<(n:Int))<|ZA (Kd 132 (.slice A n c) k) (.pointer (some (ad.add (k*1)))) (λD e h=>Qy wI m)<|ZA (Ke 296 (ad.add (k*1))) (X9 x) (λD e h=>Sk λj v M=>L5 e (K j v M))<|ZJ (decide (XQ.wrap (((K5 (H.take k)).flatten.length:Int)+(x.1.length:Int))<0)) false (by rw[Sj I I];exact YV I)<|uh 3 (.int .i64 (XQ.wrap (((K5 (H.take k)).flatten.length:Int)+(x.1.length:Int)))) (.int .i64 ((K5 (H.take (k+1))).flatten.length:Int)) O (by rw[Sj I I,Uv t,AK])<|YA 11 k m<|ui (⟨k+1,m⟩) O Zn Zt (λ_ _=>trivial)
 obtain rfl:k=n:=I
 have p:H.take k=H:=AI I;refine ZR<|YN ((k:Int)<(k:Int))<|uh 3 (.int .i64 ((K5 (H.take k)).flatten.length:Int)) (.int .i64 ((K5 H).flatten.length:Int)) O (by rw[p])<|ug O<|ZR<|ZC (λD e h=>j4 (n:=(K5 H).flatten.length) (N:=w.heap.size) U e.size) λg=>uj (ι:={q:Nat×(YZ) // q.1<=k}) 36 (λq=>⟨[vS 6 q.1.2.1 (K5 (H.take q.1.1)).flatten.length q.1.2.2,vS 25 A k c,vI 26 (k:Int),vI 27 (q.1.1:Int)],[]⟩) (λq u=>K6 u w.heap.size 74 2 q.1.2.1 (K5 (H.take q.1.1)).flatten.length q.1.2.2 ((K5 (H.take q.1.1)).flatten.flatMap K9)) (λq=>k-q.1.1) (⟨(0,g),AD _⟩) O Zf Zt (λu h=>h.2) ?_
 rintro⟨⟨i,z⟩,hi⟩ X;have hi:i<=k:=hi
 by_cases f:i<k
 case neg=>
  obtain rfl:i=k:=I
  refine ZR<|YN ((i:Int)<(i:Int))<|ug O<|ZR<|ZV (.slice z.1 (K5 (H.take i)).flatten.length z.2) (λD e h=>⟨z,by rw[p],e,λE T k2=>by have P:K6 E w.heap.size 74 2 z.1 (K5 (H.take i)).flatten.length z.2 ((K5 (H.take i)).flatten.flatMap K9):=h E T k2;rw[p]at P;exact P.rebase λb S=>AH Q (P.lt b S).1⟩)
 obtain⟨x,ad,t,wI,K⟩:=F.at f;have J:=SE (H:=H) (i+1);rw[Uv t,AK]at J;have wJ:=AF t;refine ZR<|YL ((i:Int)<(k:Int))<|ZA (Kd 132 (.slice A k c) i) (.pointer (some (ad.add (i*1)))) (λD e h=>Qy wI f)<|uw (Ke 296 (ad.add (i*1))) (X9 x) O (λD e h=>Sk λj v M=>L5 e (K j v M))<|ZS 2<|uo O (stop:=1000) 1 _<|ZS 2<|uA (L:=bl z.1) (val:=λz':YZ=> .slice z'.1 ((K5 (H.take i)).flatten.length+x.1.length) z'.2) (Φ':=λz' u=>K6 u w.heap.size 74 2 z'.1 ((K5 (H.take i)).flatten.length+x.1.length) z'.2 (((K5 (H.take i)).flatten++x.1).flatMap K9)) (G:=λz' u=>K6 u w.heap.size 74 2 z'.1 ((K5 (H.take i)).flatten.length+x.1.length) z'.2 (((K5 (H.take i)).flatten++x.1).flatMap K9)) (My 296 296 (.slice z.1 (K5 (H.take i)).flatten.length z.2) (X9 x)) (λD e h=>ST (A2:=x.2.1) (c2:=x.2.2) h e.size ((F.ring x wJ).below e) I) (λu h=>K6.blk (B:=w.heap.size) (elem:=74) (s:=2) (n:=(K5 (H.take i)).flatten.length) (c:=z.2) (xs:=(K5 (H.take i)).flatten.flatMap K9) h) (λz' Y u e1 e2 h W=>W) O O λz'=>ZR ?_
 have o:(K5 (H.take (i+1))).flatten.length=(K5 (H.take i)).flatten.length+x.1.length:=by rw[Uv t,AK]
 refine uh 6 (.slice z'.1 ((K5 (H.take i)).flatten.length+x.1.length) z'.2) (.slice z'.1 (K5 (H.take (i+1))).flatten.length z'.2) O (by rw[o])<|YA 27 i f<|ui (⟨(i+1,z'),f⟩) O Zn Zt (λu h=>by show K6 u w.heap.size 74 2 z'.1 (K5 (H.take (i+1))).flatten.length z'.2 ((K5 (H.take (i+1))).flatten.flatMap K9);rw[o,Uv t];exact h)
end
end
def WZ(b:Pt×Pt)(p:Pt):Pt×Pt:=((F9 b.1.1 p.1,F9 b.1.2 p.2),(G3 b.2.1 p.1,G3 b.2.2 p.2))
structure Ju(l:List Pt)(b:Pt×Pt):Prop where
 h:∀p∈l,b.1.1<=p.1/\p.1<=b.2.1/\b.1.2<=p.2/\p.2<=b.2.2
 lo:vP b.1=true
 hi:vP b.2=true
theorem Ju.step{l:List Pt}{b:Pt×Pt}{p:Pt}(h:Ju l b)(f:vP p=true):Ju (l++ [p]) (WZ b p):=by
 have t:=O0 h.lo;have o:=O0 h.hi;have j:=O0 f;have m:=S7 b.1.1 p.1;have k:=S7 b.1.2 p.2;have g:=S6 b.2.1 p.1;have s:=S6 b.2.2 p.2;refine⟨λq e=> ?_,?_,?_⟩
 .unfold WZ;dsimp only;rcases BI.1 e with c|c
  .have:=h.h q c;omega
  .obtain rfl:q=p:=by simpa using c
   omega
 .unfold WZ vP Lf;simp only[AP,decide_eq_true_eq];omega
 .unfold WZ vP Lf;simp only[AP,decide_eq_true_eq];omega
theorem Ju.one{p:Pt}(b:vP p=true):Ju [] (p,p):=⟨λq c=>(by cases c),b,b⟩
section
variable{w u:YM}{A:YY}{n c N:Nat}{H:List LP}{z:Int}
theorem fp(T:Nw w A n H)(Q:n<=1000000)(S:vL 0 (K5 H)=true)(R:0<(K5 H).flatten.length):
 Ca 221 #[.slice A n c] w (K4 w (λq:{q:Pt×Pt // Ju (K5 H).flatten q}=> .tuple #[Km q.1.1,Km q.1.2,.bool true]) λ_ _=>True):=by
 have F:=S;rw[D9 (AD _),AP,decide_eq_true_eq,AW]at F;have W:∀x∈H,x.1.length<=1000000:=λx J=>by
  have:x.1.length<=(K5 H).flatten.length:=List.Sublist.length_le (List.sublist_flatten_of_mem (List.mem_map_of_mem J));omega
 obtain⟨L,G⟩:∃L,L=(K5 H).flatten:=⟨_,rfl⟩
 rw[<-G]at F R ⊢;obtain⟨l,s⟩:∃l,L[0]? =some l:=⟨_,AB R⟩
 have K:=F.2 l (AF s);have X:L.length<=4096:=I
 obtain⟨m,Y⟩:∃m,L.length=m+1:=⟨L.length-1,by omega⟩
 refine uf func221 rfl<|ZR<|ZC (λo f h=>(LW (c:=c) (N:=w.heap.size) (T.below f) Q (by rw[<-G];omega) f.size).mono λe w' k=>by rw[<-G,Y]at k;exact k) λy=> ?_
 refine um (p:=∃g,y.1=some ⟨g,0,none⟩) (λu Z h=>by obtain⟨g,U,_⟩:=h.2.cells (Nat.succ_pos m);exact⟨g,U⟩) O (λwI=> ?_);obtain⟨t,j⟩:=wI;have wJ:∀{v:YM} {i:Nat} {x:Pt},K6 v w.heap.size 74 2 y.1 (m+1) y.2 (L.flatMap K9)->L[i]? =some x->v.rangeAt t (i*2) (K9 x):=λh J=>by
  rw[j]at h;exact Ln L8 h (Nat.succ_pos m) J
 refine ZC (λo f h=>Oz (c:=c) (T.below f) Q W S) λv=>ZI false<|ZB 1 (Kd 296 (.slice y.1 (m+1) y.2) (0:Nat)) (.pointer (some ⟨t,0*2,none⟩)) (λo f h=>by rw[j];exact Kc (elem:=74) O O (Nat.succ_pos m))<|ZB 2 (Ke 74 ⟨t,0*2,none⟩) (Km l) (λo f h=>Ka (vs:=K9 l) O O (wJ h.1.2 s))<|ZB 4 (Kd 296 (.slice y.1 (m+1) y.2) (0:Nat)) (.pointer (some ⟨t,0*2,none⟩)) (λo f h=>by rw[j];exact Kc (elem:=74) O O (Nat.succ_pos m))<|ZB 5 (Ke 74 ⟨t,0*2,none⟩) (Km l) (λo f h=>Ka (vs:=K9 l) O O (wJ h.1.2 s))<|uj (ι:={q:Nat×Pt×Pt // q.1<=m+1/\Ju (L.take q.1) q.2}) 59 (λq=>⟨[(2,.p 2 0),(3,.p 3 0),(6,.p 6 0),(7,.p 7 0),vS 28 y.1 (m+1) y.2,vI 29 ((m+1:Nat):Int),vI 30 (q.1.1:Int)],[(2,(K9 (0,0)).map .v),(3,(K9 (0,0)).map .v),(6,(K9 q.1.2.1).map .v),(7,(K9 q.1.2.2).map .v)]⟩) (λ_ u=>K6 u w.heap.size 74 2 y.1 (m+1) y.2 (L.flatMap K9)) (λq=>m+1-q.1.1) (⟨(0,l,l),AD _,Ju.one K⟩) O Zf Zt (λu h=>h.1.2) ?_
 rintro⟨⟨k,b⟩,P,E⟩ gg;have P:k<=m+1:=P;have E:Ju (L.take k) b:=E
 by_cases B:k<m+1
 case neg=>
  obtain rfl:k=m+1:=I
  rw[AI I]at E;refine ZR<|YN (((m+1:Nat):Int)<((m+1:Nat):Int))<|ug O<|ZR<|ZV (.tuple #[Km b.1,Km b.2,.bool true]) (λo f h=>⟨⟨b,E⟩,rfl,f,Zv⟩)
 obtain⟨p,D⟩:=Yg L k;have M:=F.2 p (AF D);refine ZR<|YL ((k:Int)<((m+1:Nat):Int))<|ZA (Kd 296 (.slice y.1 (m+1) y.2) k) (.pointer (some ⟨t,k*2,none⟩)) (λo f h=>by rw[j];exact Kc (elem:=74) O O B)<|ZA (Ke 74 ⟨t,k*2,none⟩) (Km p) (λo f h=>Ka (vs:=K9 p) O O (wJ h D))<|YA 30 k B<|ui (⟨(k+1,WZ b p),B,by show Ju (L.take (k+1)) (WZ b p);rw[L7 D];exact E.step M⟩) O Zn Zt (λu h=>h)
theorem dZ(j:Nw w A n H)(g:n<=1000000)(f:(K5 H).flatten.length=0):Ca 221 #[.slice A n c] w (CU w (.tuple #[pt 0 0,pt 0 0,.bool false])):=by
 refine uf func221 rfl<|ZR<|ZC (λm b h=>(LW (c:=c) (N:=w.heap.size) (j.below b) g I b.size).mono λe l k=>by rw[f]at k;exact k) λy=> ?_
 exact ZI true<|ZW (.tuple #[pt 0 0,pt 0 0,.bool false])
def fq(b:Pt×Pt):Int×Int×Int×Int:=if b.1.1/256>=(b.2.1+255)/256\/b.1.2/256>=(b.2.2+255)/256 then(0,0,0,0)else(b.1.1/256,b.1.2/256,(b.2.1+255)/256,(b.2.2+255)/256)
structure tz(L:List (List Pt))(r:Int×Int×Int×Int):Prop where
 rng:(-4096<=r.1/\r.1<=4096)/\(-4096<=r.2.1/\r.2.1<=4096)/\(-4096<=r.2.2.1/\r.2.2.1<=4096)/\(-4096<=r.2.2.2/\r.2.2.2<=4096)
 out:∀x y:Int,¬((r.1<=x/\x<r.2.2.1)/\(r.2.1<=y/\y<r.2.2.2))->Ej L (P6 x y) (P6 (x+1) (y+1))
theorem pm{L:List (List Pt)}{b:Pt×Pt}(h:Ju L.flatten b):tz L (fq b):=by
 have j:=O0 h.lo;have g:=O0 h.hi;unfold fq;split
 .rename_i f;refine⟨by dsimp only;omega,λx y _=>Jh h.h ?_⟩;omega
 .exact⟨by dsimp only;omega,λx y e=>Jh h.h e⟩
theorem qI{L:List (List Pt)}(h:L.flatten.length=0):tz L (0,0,0,0):=⟨by dsimp only;omega,λx y _=> .inl λp b=>by rw[List.eq_nil_of_length_eq_zero h]at b;cases b⟩
theorem r7(h: -1048576<=z/\z<=1048576):Ca 222 #[.int .i64 z] w (CU w (.int .i64 ((z+255)/256))):=by
 have b:=h;exact uf func222 rfl<|ZR<|ZX (.int .i64 (Int.fdiv (XQ.wrap (XQ.wrap (z+256)-1)) 256)) (by rw[AA (z+256) I,AA _ I,BJ _ Zd,show z+256-1=z+255 by omega])
theorem oI(p:Nw w A n H)(o:n<=1000000)(t:vL 0 (K5 H)=true):Ca 168 #[.slice A n c] w (K4 w (λr:{r:Int×Int×Int×Int // tz (K5 H) r}=>Pw r.1.1 r.1.2.1 r.1.2.2.1 r.1.2.2.2) λ_ _=>True):=by
 refine uf func168 rfl<|ZR ?_
 by_cases s:0<(K5 H).flatten.length
 case neg=>
  refine ZC (λg f h=>dZ (c:=c) (p.below f) o I) λq=>ZI true<|ZV (Pw 0 0 0 0) (λg f h=>⟨⟨(0,0,0,0),qI I⟩,rfl,f,Zv⟩)
 refine ZC (λg f h=>fp (c:=c) (p.below f) o t s) λq=> ?_
 obtain⟨b,l⟩:=q;have v:=O0 l.lo;have B:=O0 l.hi;refine ZI false<|ZC (λg f h=>r7 (z:=b.2.1) ⟨by omega,by omega⟩) λy=>ZD 5 (λg f h=>r7 (z:=b.2.2) ⟨by omega,by omega⟩) λx=>uo O (stop:=1000) 2 _<|ZS 5 ?_
 have m:Int.fdiv b.1.1 256=b.1.1/256:=BJ _ Zd;have j:Int.fdiv b.1.2 256=b.1.2/256:=BJ _ Zd;have e:=pm l
 by_cases k:b.1.1/256>=(b.2.1+255)/256
 .refine ZT 36 (.bool (decide (Int.fdiv b.1.1 256>=(b.2.1+255)/256))) (.bool true) (by rw[m,YU k])<|ZI true<|ZV (Pw 0 0 0 0) (λg f h=>⟨⟨(0,0,0,0),by unfold fq at e;rw[YS (.inl k)]at e;exact e⟩,rfl,f,Zv⟩)
 refine ZT 36 (.bool (decide (Int.fdiv b.1.1 256>=(b.2.1+255)/256))) (.bool false) (by rw[m,YV k]) ?_
 by_cases c2:b.1.2/256>=(b.2.2+255)/256
 .refine ZJ (decide (Int.fdiv b.1.2 256>=(b.2.2+255)/256)) true (by rw[j,YU c2])<|ZV (Pw 0 0 0 0) (λg f h=>⟨⟨(0,0,0,0),by unfold fq at e;rw[YS (.inr c2)]at e;exact e⟩,rfl,f,Zv⟩)
 refine ZJ (decide (Int.fdiv b.1.2 256>=(b.2.2+255)/256)) false (by rw[j,YV c2])<|ZV (Pw (Int.fdiv b.1.1 256) (Int.fdiv b.1.2 256) ((b.2.1+255)/256) ((b.2.2+255)/256)) (λg f h=>⟨⟨(Int.fdiv b.1.1 256,Int.fdiv b.1.2 256,(b.2.1+255)/256,(b.2.2+255)/256),by unfold fq at e;rw[YT I]at e;rw[m,j];exact e⟩,rfl,f,Zv⟩)
end
def Ip(c:Mm):Option Mm:=match c.foc with
 | .code (.scope x)=>match c.k with
  | []=>some ⟨.code x,[],c.st⟩
  |_=>none
 |_=>none
def T_(c:Mm):Mm:=(Ip c).getD c
theorem vD{P:YH}{Δ:List XY}{W:YM}{fn:Func}{R:XS->YM->Prop}{Φ:YM->Prop}{c:Mm}(b:(Ip c).isSome=true)(h:K0 P Δ W (bodyPost P fn R) Φ (T_ c)):K0 P Δ W (bodyPost P fn R) Φ c:=by
 obtain⟨j,k,σ⟩:=c;unfold T_ at h;unfold Ip at b h;simp only at b h;split at b
 .rename_i x;split at b
  .replace h:=h.get;refine⟨λf β a w l=>wpIn_wide.2 (wp_scope_straight (wp_mono (wpIn_wide.1 (h f β a w l)) λe a w g=> ?_))⟩;cases e<;>first|exact g|exact g.elim
  .cases b
 .cases b
abbrev LQ:=LP×Bool
def tg(x:LQ):YI:= .agg #[X9 x.1,.bool x.2]
def Uc(x:LQ):List YI:=[X9 x.1,.bool x.2]
structure NH(u:YM)(A:YY)(n:Nat)(H:List LQ):Prop where
 row:Kk u A n 2 Uc H
 ring:∀x∈H,Kk u x.1.2.1 x.1.1.length 2 K9 x.1.1
def Qb(L:List (List Pt)):List (List Pt):=L.filter λr=>decide (3<=r.length)
abbrev Sd(H:List LQ):List (List Pt):=H.map (·.1.1)
section
variable{w u:YM}{A:YY}{n c N:Nat}{H:List LQ}{l:List Pt}{ad:XR}
theorem Up{P:YH}{t elem:XX}{len s:Nat}{e:Array (Nat×YI)}{cells:Array YI}{N:Nat}(h:Ic P t len e=some (elem,cells))(v:N<=w.heap.size)(y:cells.size=len*s)(B:len<=maxLen):
 M9 P w (Kr len) (λg u=>K6 u N elem s (some ⟨g,0,none⟩) len len cells.toList) (Lr t len e):=by
 obtain⟨x,z,f,k,o⟩:=M9.fresh (Kj (w:=w) h) (λg=>[g]) (λg u h b k=>by
  simp only[AE]at k;subst k;exact⟨_,_,_,h⟩)
 exact⟨x,z,f,k,λj m p=>K6.lit (o j m p).1 y (AH v ((o j m p).2 x Zs)) B⟩
theorem GC{P:YH}{t elem:XX}{s:Nat}{N:Nat}(h:Ic P t 0 #[]=some (elem,#[]))(b:N<=w.heap.size):
 M9 P w (λy:YZ=> .slice y.1 0 y.2) (λy u=>K6 u N elem s y.1 0 y.2 []) (Lr t 0 #[]):=by
 obtain⟨g,e,f⟩:=Up (w:=w) (s:=s) (len:=0) (cells:= #[]) h b Zs Zd;exact⟨(some ⟨g,0,none⟩,0),e,f⟩
theorem GD(s:Kk w (some ad) n 2 K9 l)(D:n<=1000000)(t:N<=w.heap.size):Ca 268 #[.slice (some ad) n c] w (K4 w (λy:YZ=> .slice y.1 n y.2) λy u=>K6 u N 74 2 y.1 n y.2 (l.flatMap K9)):=by
 refine uf func268 rfl<|ZR<|ZI false<|uk (Lr 296 0 #[]) (λy:YZ=> .slice y.1 0 y.2) (λy u=>K6 u w.heap.size 74 2 y.1 0 y.2 []) O (λj e h=>GC O e.size) λg=>ZS 2 ?_
 refine uA (L:=bl g.1) (val:=λ(z:YZ)=> .slice z.1 n z.2) (Φ':=λ(z:YZ) v=>K6 v w.heap.size 74 2 z.1 n z.2 (l.flatMap K9)) (G:=λ(z:YZ) v=>K6 v w.heap.size 74 2 z.1 n z.2 (l.flatMap K9)) (My 296 296 (.slice g.1 0 g.2) (.slice (some ad) n c)) (λj e h=>by
  have o:=s.1;have:=ST (z:=g) (m:=0) (acc:=[]) (l:=l) (A2:=some ad) (c2:=c) h.2 e.size (by rw[o];exact s.below e) I;rw[o,BN]at this;exact this) (λj h b k=>⟨(h.2.lt b k).1,(h.2.blk b k).2⟩) (λz' B j E F h x=>x) O O (λz'=> ?_)
 refine ZR<|ZV (.slice z'.1 n z'.2) (λj e h=>⟨z',rfl,e,λf p k2=>(h f p k2).rebase λb k=>AH t ((h f p k2).lt b k).1⟩)
theorem NH.at(h:NH w A n H){k:Nat}(e:k<n):∃x ad,H[k]? =some x/\A=some ad/\∀(j:Nat) (v:YI),(Uc x)[j]? =some v->w.cell? ((ad.add (k*2)).add j)=some v:=by
 obtain⟨x,b⟩:∃v,H[k]? =some v:=⟨_,AB (by rw[h.row.1];exact e)⟩
 obtain⟨ad,f,g⟩:=h.row.2 k x b;exact⟨x,ad,b,f,g⟩
theorem QW(L:List (List Pt))(r:List Pt):Qb (L++ [r])=if 3<=r.length then Qb L++ [r]else Qb L:=by
 unfold Qb;rw[List.filter_append]
 by_cases h:3<=r.length
 .rw[YS h];simp[h]
 .rw[YT h];simp[h]
theorem HH(J:NH w A n H)(hn:n<=1000000)(hl:∀x∈H,x.1.1.length<=1000000)(U:N<=w.heap.size):Ca 228 #[.slice A n c] w (K4 w (λq:(YZ)×{L:List LP // K5 L=Qb (Sd H)}=> .slice q.1.1 q.2.1.length q.1.2) λq u=>Kf N q.1 q.2.1.length q.2.1 u):=by
 refine uf func228 rfl<|ZR<|uj (ι:={q:(Nat×List LP)×(YZ) // q.1.1<=n/\K5 q.1.2=Qb (Sd (H.take q.1.1))}) 24 (λq=>⟨[vS 3 q.1.2.1 q.1.1.2.length q.1.2.2,vS 6 A n c,vI 7 n,vI 8 q.1.1.1],[]⟩) (λq u=>Kf w.heap.size q.1.2 q.1.1.2.length q.1.1.2 u) (λq=>n-q.1.1.1) (⟨((0,[]),(none,0)),AD _,rfl⟩) O Zf Zt (λ_ _=>ux) ?_
 rintro⟨⟨⟨k,L⟩,y⟩,T,M⟩ gg;have X:k<=n:=T;have Z:L.length<=k:=by have:=congrArg List.length M;unfold K5 Qb at this;rw[AO]at this;rw[this];exact AH (List.length_filter_le _ _) (by simp[Sd];omega)
 have o:K5 L=Qb (Sd (H.take k)):=M
 by_cases e:k<n
 case neg=>
  obtain rfl:k=n:=I
  have wI:K5 L=Qb (Sd H):=by rw[o,AI (by rw[J.row.1];omega)]
  refine ZR<|YN ((k:Int)<(k:Int))<|ug O<|ZR<|ZV (.slice y.1 L.length y.2) (λm f h=>⟨(y,⟨L,wI⟩),rfl,f,λB k1 k2=>Kf.mono (h B k1 k2) U⟩)
 obtain⟨⟨x,cl⟩,ad,P,R,S⟩:=J.at e;have s:=AF P;have F:x.1.length<=1000000:=hl _ s;have t:Qb (Sd (H.take (k+1)))=if 3<=x.1.length then Qb (Sd (H.take k))++ [x.1]else Qb (Sd (H.take k)):=by
  unfold Sd;rw[L7 P,BC];exact QW _ _
 refine ZR<|YL ((k:Int)<(n:Int))<|ZA (Kd 304 (.slice A n c) k) (.pointer (some (ad.add (k*2)))) (λm f h=>by rw[R];exact L9 (elem:=325) O O e)<|ZA (Ke 325 (ad.add (k*2))) (tg (x,cl)) (λm f h=>Mh (vs:=Uc (x,cl)) O O (λj v Y=>L5 f (S j v Y))) ?_
 by_cases E:3<=x.1.length
 case neg=>
  refine YN ((x.1.length:Int)>=3)<|YA 8 k e<|ui (⟨((k+1,L),y),e,by show K5 L=_;rw[t,YT E];exact o⟩) O Zn Zt (λ_ h=>h)
 have Q:=J.ring _ s;obtain⟨_,xa,_,D,_⟩:∃(p:Pt) (a:XR),True/\x.2.1=some a/\True:=by
  obtain⟨p,K⟩:∃v,x.1[0]? =some v:=⟨_,AB I⟩
  obtain⟨a,W,_⟩:=Q.2 0 p K;exact⟨p,a,trivial,W,trivial⟩
 obtain⟨xs,xA,xc⟩:=x;obtain rfl:xA=some xa:=D;refine YJ ((xs.length:Int)>=3) (by have:3<=xs.length:=E;omega)<|ZD 5 (λm f h=>GD (c:=xc) (N:=w.heap.size) (Q.below f) F f.size) λz=>uk (Lr 132 1 #[(0,.slice z.1 xs.length z.2)]) (Kr 1) (Kw 296 (Qc (xs,z)).toArray) O (λm f h=>Kj O) λgb=>ZS 5<|uA (L:=bl y.1) (val:=λ(z:YZ)=> .slice z.1 (L.length+1) z.2) (Φ':=λ(g:YZ) v=>Kf w.heap.size g (L.length+1) (L++ [(xs,z)]) v) (G:=λ(z':YZ) v=>K6 v w.heap.size 296 1 z'.1 (L.length+1) z'.2 ((L++ [(xs,z)]).flatMap Qc)) (My 132 132 (.slice y.1 L.length y.2) (Kr 1 gb)) (λm f h=>LN h.1.1 f.size h.2 I) (λm h b wJ=>⟨(h.1.1.own.lt b wJ).1,(h.1.1.own.blk b wJ).2⟩) (λg wa m e1 e2 h hG=>h.1.1.app h.1.2 e2 hG) O O λg=>ZR<|uh 3 (.slice g.1 (L.length+1) g.2) (.slice g.1 (L++ [(xs,z)]).length g.2) O (by rw[AK];rfl)<|YA 8 k e<|ui (⟨((k+1,L++ [(xs,z)]),g),e,by show K5 (L++ [(xs,z)])=_;rw[t,YS E,<-o];unfold K5;rw[BC];rfl⟩) O Zn Zt (λu h=>by show Kf w.heap.size g (L++ [(xs,z)]).length (L++ [(xs,z)]) u;rw[AK];exact h)
end
def Mu(v:Int):Int:=if v=1\/v=2 then 1 else if v=3 then 2 else if v=4 then 3 else if v=5 then 0 else -1
theorem EE(v:Int):v=1\/v=2\/v=3\/v=4\/v=5\/(v≠1/\v≠2/\v≠3/\v≠4/\v≠5):=I
theorem Eu{v:Int}(h:v≠1/\v≠2/\v≠3/\v≠4/\v≠5):Mu v= -1:=by
 unfold Mu;rw[YT I,YT I,YT I,YT I]
def J_(i n x y:Int):Bool:=Lf x y&&(decide (i<n)||(x==0&&y==0))
def Se(s:Sg):Bool:=J_ 0 (Mu s.v) s.ax s.ay&&J_ 1 (Mu s.v) s.bx s.by_&&J_ 2 (Mu s.v) s.cx s.cy
def U0(last v:Int):Bool:=v==1||(last !=5&&(v !=5||last !=1))
def Tf(last:Int)(s:Sg):Int:=if Mu s.v<0 then 2 else if U0 last s.v=false then 10 else if Se s=false then 6 else 0
def Yr:Int->Nat->List Sg->Int×Nat
 |_,_,[]=>(0,0)
 |last,i,s::l=>if Tf last s=0 then Yr s.v (i+1) l else(Tf last s,i)
def Ff(l:List Sg):Int×Nat:=if 256<l.length then(5,256)else Yr 5 0 l
def Sa(w:YM)(A:YY)(n:Nat)(ls:List Sg):Prop:=ls.length=n/\∀(k:Nat) (s:Sg),ls[k]? =some s->∃ad,A=some ad/\∀(j:Nat) (v:YI),s.cl[j]? =some v->w.cell? ((ad.add (k*7)).add j)=some v
theorem Sa.below{w b:YM}{A:YY}{n:Nat}{ls:List Sg}(h:Sa w A n ls)(e:Below w.heap.size w b):Sa b A n ls:=
 ⟨h.1,λk s l=>by obtain⟨ad,g,f⟩:=h.2 k s l;exact⟨ad,g,λj v c=>L5 e (f j v c)⟩⟩
def eX(s:Sg)(k:Nat):Int:=if k=0 then s.ax else if k=1 then s.bx else s.cx
def fI(s:Sg)(k:Nat):Int:=if k=0 then s.ay else if k=1 then s.by_ else s.cy
theorem ER{s:Sg}:Se s=true↔∀k,k<3->J_ (k:Nat) (Mu s.v) (eX s k) (fI s k)=true:=by
 unfold Se;simp only[AP];constructor
 .rintro⟨⟨e,c⟩,b⟩ k f;rcases(by omega:k=0\/k=1\/k=2)with rfl|rfl|rfl
  .exact e
  .exact c
  .exact b
 .intro h;exact⟨⟨h 0 I,h 1 I⟩,h 2 I⟩
section
variable{w:YM}{A A2:YY}{n n2 c c2:Nat}{ls ms:List Sg}{X Y:Int}
theorem H7{k:Nat}{ad:XR}(e:A=some ad)(b:k<n):(Kd 56 (.slice A n c) k).run XM w= .ok (.value (.pointer (some (ad.add (k*7))))) w:=by
 rw[e];exact L9 (elem:=87) O O b
theorem eE{ad:XR}{s:Sg}(h:∀(j:Nat) (v:YI),s.cl[j]? =some v->w.cell? (ad.add j)=some v):(Ke 87 ad).run XM w= .ok (.value s.val) w:=
 Mh (vs:=s.cl) O O h
theorem G2{v r:Int}(h:Mu v=r):Ca 183 #[.int .i64 v] w (CU w (.int .i64 r)):=by
 rcases EE v with rfl|rfl|rfl|rfl|rfl|b
 .obtain rfl:r=1:=h.symm;exact uf func183 rfl<|uv O (stop:=1000) 6000 _<|ZW (.int .i64 1)
 .obtain rfl:r=1:=h.symm;exact uf func183 rfl<|uv O (stop:=1000) 6000 _<|ZW (.int .i64 1)
 .obtain rfl:r=2:=h.symm;exact uf func183 rfl<|uv O (stop:=1000) 6000 _<|ZW (.int .i64 2)
 .obtain rfl:r=3:=h.symm;exact uf func183 rfl<|uv O (stop:=1000) 6000 _<|ZW (.int .i64 3)
 .obtain rfl:r=0:=h.symm;exact uf func183 rfl<|uv O (stop:=1000) 6000 _<|ZW (.int .i64 0)
 .obtain rfl:r= -1:=h.symm.trans (Eu b);exact uf func183 rfl<|ZR<|ZJ (v==4) false Zp<|ZJ (v==3) false Zp<|ZJ (v==1) false Zp<|ZJ (v==2) false Zp<|ZJ (v==5) false Zp<|ZW (.int .i64 (-1))
theorem ng{g off:Nat}{cells:Array YI}{x y:Int}(h:Kw 74 cells g w)(f:∀(j:Nat) (v:YI),([.int .i64 x,.int .i64 y]:List YI)[j]? =some v->cells[off+j]? =some v):(Ke 74 ⟨g,off,none⟩).run XM w= .ok (.value (pt x y)) w:=
 Ka (vs:=[.int .i64 x,.int .i64 y]) O O (λj v b=>by
  have e:w.heap[g]? =some (.cells cells 74 (0,0)):=h;simp only[World.cell?,e,Option.isSome_none,CD,if_false];exact f j v b)
theorem o7{i n x y:Int}(h:i<n):J_ i n x y=Lf x y:=by unfold J_;rw[YU h];simp
theorem To{i n x y:Int}(h:¬i<n):J_ i n x y=(Lf x y&&(x==0&&y==0)):=by unfold J_;rw[YV h];simp
theorem gB{s:Sg}{B:Bool}{r:Int}(z:Mu s.v=r)(h:Se s=B):Ca 184 #[s.val] w (CU w (.bool B)):=by
 refine uf func184 rfl<|ZR<|uk (Lr 296 3 #[(0,pt s.ax s.ay),(1,pt s.bx s.by_),(2,pt s.cx s.cy)]) (Kr 3) (Kw 74 #[.int .i64 s.ax,.int .i64 s.ay,.int .i64 s.bx,.int .i64 s.by_,.int .i64 s.cx,.int .i64 s.cy]) O (λf l h=>Kj O) λg=>ZR<|uj (ι:={k:Nat // k<=3/\∀j,j<k->J_ (j:Nat) (Mu s.v) (eX s j) (fI s j)=true}) 34 (λq=>⟨[(1,.p 1 0),vV 11 (Kr 3 g),vI 12 3,vI 13 q.1],[(1,s.cl.map .v)]⟩) (λq u=>Kw 74 #[.int .i64 s.ax,.int .i64 s.ay,.int .i64 s.bx,.int .i64 s.by_,.int .i64 s.cx,.int .i64 s.cy] g u) (λq=>3-q.1) (⟨0,AD _,λj t=>absurd t I⟩) O Zf Zt (λu h=>h.2) ?_
 rintro⟨k,G,E⟩ H
 by_cases b:k<3
 case neg=>
  obtain rfl:k=3:=I
  obtain rfl:B=true:=h.symm.trans (ER.2 E);exact ZR<|ZI false<|ug O<|ZR<|ZW (.bool true)
 have x:J_ (k:Nat) (Mu s.v) (eX s k) (fI s k)=false->B=false:=λe=>by rw[<-h];exact Bool.eq_false_iff.2 λF=>by rw[ER.1 F k b]at e;cases e
 refine ZR<|ul (decide ((k:Int)<3)) true O Zp<|ZS 1<|ZA (Kd 296 (Kr 3 g) k) (.pointer (some ⟨g,k*2,none⟩)) (λf l h=>Kc (elem:=74) O O b)<|ZA (Ke 74 ⟨g,k*2,none⟩) (pt (eX s k) (fI s k)) (λf l h=>ng h (λj v t=>by rcases(by omega:k=0\/k=1\/k=2)with rfl|rfl|rfl<;>(rcases j with _|_|j<;>simp[eX,fI]at t ⊢ <;>exact t))) ?_
 cases o:Lf (eX s k) (fI s k)with
 |false=>
  obtain rfl:B=false:=x (by unfold J_;rw[o];rfl);exact ZC (λf l h=>Mg o) λu=>ZI true<|ug O<|ZR<|ZW (.bool false)
 |true=>
 refine ZC (λf l h=>Mg o) λu=>ZD 9 (λf l h=>G2 z) λu=> ?_
 have nx:J_ (k:Nat) (Mu s.v) (eX s k) (fI s k)=true->∀j,j<k+1->J_ (j:Nat) (Mu s.v) (eX s j) (fI s j)=true:=λe j t=>by
  rcases CC j k with D|D
  .exact E j D
  .obtain rfl:j=k:=I
   exact e
 by_cases m:(k:Int)<r
 .refine YG 26 ((k:Int)>=r) I<|ZI false<|YA 13 k b<|ui (⟨k+1,b,nx (by rw[z,o7 m];exact o)⟩) O Zn Zt (λ_ h=>h.1.1)
 refine YD 26 ((k:Int)>=r) I<|ZS 12 ?_
 cases y:(eX s k==0&&fI s k==0)with
 |false=>
  obtain rfl:B=false:=x (by rw[z,To m,o,y];rfl);exact ZA (cS 74 (.tmp 28) (.tmp 29) (pt (eX s k) (fI s k)) (pt 0 0)) (.bool true) (λf l h=>by rw[Br,y];rfl)<|ZI true<|ug O<|ZR<|ZW (.bool false)
 |true=>
  refine ZA (cS 74 (.tmp 28) (.tmp 29) (pt (eX s k) (fI s k)) (pt 0 0)) (.bool false) (λf l h=>by rw[Br,y];rfl)<|ZI false<|YA 13 k b<|ui (⟨k+1,b,nx (by rw[z,To m,o,y];rfl)⟩) O Zn Zt (λ_ h=>h.1.1)
end
section
variable{w:YM}{A A2:YY}{n n2 c c2:Nat}{ls ms:List Sg}
theorem Cn{last:Int}{k:Nat}{s:Sg}{l:List Sg}(h:Tf last s=0):Yr last k (s::l)=Yr s.v (k+1) l:=by rw[Yr,YS h]
theorem V1{last:Int}{k:Nat}{s:Sg}{l:List Sg}(h:Tf last s≠0):Yr last k (s::l)=(Tf last s,k):=by rw[Yr,YT h]
theorem VK{last m:Int}{s:Sg}(h:Mu s.v=m)(e:0<=m)(b:U0 last s.v=false):Tf last s=10:=by unfold Tf;rw[h,YT I,YS b]
theorem ca{last m:Int}{s:Sg}(h:Mu s.v=m)(f:0<=m)(e:U0 last s.v=true)(b:Se s=false):Tf last s=6:=by unfold Tf;rw[h,YT I,e,YT Zd,YS b]
theorem TA{last m:Int}{s:Sg}(h:Mu s.v=m)(f:0<=m)(e:U0 last s.v=true)(b:Se s=true):Tf last s=0:=by unfold Tf;rw[h,YT I,e,YT Zd,b,YT Zd]
theorem IK{ls:List Sg}{k:Nat}{s:Sg}(h:ls[k]? =some s):ls.drop k=s::ls.drop (k+1):=by
 obtain⟨e,b⟩:=AN.1 h;rw[List.drop_eq_getElem_cons e,b]
theorem iu{e:Int}{i:Nat}(J:Sa w A n ls)(T:n<=1000000)(h:Ff ls=(e,i)):Ca 136 #[.slice A n c] w (CU w (.tuple #[.int .i64 e,.int .i64 i])):=by
 have S:=J.1
 by_cases p:256<ls.length
 .have z:Ff ls=(5,256):=YS p;rw[z]at h;obtain⟨rfl,rfl⟩:=BT h;exact uf func136 rfl<|ZR<|ZJ (decide ((n:Int)>256)) true Zp<|ZW (.tuple #[.int .i64 5,.int .i64 256])
 have z:Ff ls=Yr 5 0 ls:=YT p;rw[z]at h;refine uf func136 rfl<|ZR<|ZJ (decide ((n:Int)>256)) false Zp<|uj (ι:={q:Nat×Int // q.1<=n/\Yr 5 0 ls=Yr q.2 q.1 (ls.drop q.1)/\(1<=q.2/\q.2<=5)}) 52 (λq=>⟨[vI 4 q.1.2,vS 11 A n c,vI 12 n,vI 13 q.1.1],[]⟩) (λ_ _=>True) (λq=>n-q.1.1) (⟨(0,5),AD _,rfl,by decide⟩) O Zf Zt (λ_ _=>trivial) ?_
 rintro⟨⟨k,last⟩,wI⟩ g;have Q:k<=n:=wI.1;have l:Yr 5 0 ls=Yr last k (ls.drop k):=wI.2.1;have M:1<=last/\last<=5:=wI.2.2
 by_cases y:k<n
 case neg=>
  rw[l,BG I]at h;obtain⟨rfl,rfl⟩:=BT h;exact ZR<|ZJ (decide ((k:Int)<(n:Int))) false Zp<|ug O<|ZR<|ZW (.tuple #[.int .i64 0,.int .i64 0])
 obtain⟨s,t⟩:=Yg ls k;obtain⟨ad,K,L⟩:=J.2 k s t;rw[l,IK t]at h;rw[IK t]at l;refine ZR<|ZJ (decide ((k:Int)<(n:Int))) true Zp<|ZA (Kd 56 (.slice A n c) k) (.pointer (some (ad.add (k*7)))) (λF D h=>H7 K y)<|uw (Ke 87 (ad.add (k*7))) (s.val) O (λF D h=>eE λj u Z=>L5 D (L j u Z))<|ZS 3<|uo O (stop:=1000) 3 _<|ZS 3 ?_
 obtain⟨r,o⟩:∃r,Mu s.v=r:=⟨_,rfl⟩
 have G:r<0->e=2/\i=k:=λf=>by
  have m:Tf last s=2:=by unfold Tf;rw[o,YS f]
  rw[V1 (by rw[m];decide),m]at h;obtain⟨rfl,rfl⟩:=BT h;exact⟨rfl,rfl⟩
 cases b:U0 last s.v with
 | false=>
  refine vq (λ(x:Nat->AV) c=>O9 [20,21,22,23,24,25,26,27,28,29,30,31,32,33,34,35] x (Lw XM 1000 1000 (Ky 23 (.bool false) (Lw XM 6 1000 (Ky 20 (.bool false) c))))) (λB=> ?_) (λN=> ?_)
  .have E:s.v≠1:=λE=>by unfold U0 at b;rw[E]at b;cases b
   refine uh 20 (.bool (s.v==1)) (.bool false) O Zp<|ZS 6 ?_
   by_cases P:last=5
   .exact ZT 23 (.bool (last !=5)) (.bool false) Zp<|uC [20,21,22,23,24,25,26,27,28,29,30,31,32,33,34,35] λx=>K0.eq (B x) O
   have R:s.v=5/\last=1:=by
    unfold U0 at b;simp[E,P]at b;exact b
   exact uh 23 (.bool (last !=5)) (.bool true) O Zp<|ZS 10<|uh 27 (.bool (s.v !=5)) (.bool false) O Zp<|ZS 13<|ZT 30 (.bool (last !=1)) (.bool false) Zp<|uC [20,21,22,23,24,25,26,27,28,29,30,31,32,33,34,35] λx=>K0.eq (B x) O
  refine ZC (λF D h=>G2 o) λu=> ?_
  by_cases f:r<0
  .obtain⟨rfl,rfl⟩:=G f;exact YJ (r<0) f<|ug O<|ZR<|ZW (.tuple #[.int .i64 2,.int .i64 i])
  refine YK (r<0) f ?_;have m:=VK (s:=s) o I b;rw[V1 (by rw[m];decide),m]at h;obtain⟨rfl,rfl⟩:=BT h;exact ZI true<|ug O<|ZR<|ZW (.tuple #[.int .i64 10,.int .i64 k])
 | true=>
  refine vq (λ(x:Nat->AV) c=>O9 [20,21,22,23,24,25,26,27,28,29,30,31,32,33,34,35] x (Lw XM 1000 1000 (Ky 20 (.bool true) c))) (λB=> ?_) (λN=> ?_)
  .by_cases E:s.v=1
   .exact ZT 20 (.bool (s.v==1)) (.bool true) Zp<|uC [20,21,22,23,24,25,26,27,28,29,30,31,32,33,34,35] λx=>K0.eq (B x) O
   have R:last≠5/\(s.v≠5\/last≠1):=by
    unfold U0 at b;simp[E]at b;exact b
   refine uh 20 (.bool (s.v==1)) (.bool false) O Zp<|ZS 6<|uh 23 (.bool (last !=5)) (.bool true) O Zp<|ZS 10 ?_
   by_cases U:s.v=5
   .exact uh 27 (.bool (s.v !=5)) (.bool false) O Zp<|ZS 13<|ZT 30 (.bool (last !=1)) (.bool true) Zp<|uC [20,21,22,23,24,25,26,27,28,29,30,31,32,33,34,35] λx=>K0.eq (B x) O
   .exact ZT 27 (.bool (s.v !=5)) (.bool true) Zp<|uC [20,21,22,23,24,25,26,27,28,29,30,31,32,33,34,35] λx=>K0.eq (B x) O
  refine ZC (λF D h=>G2 o) λu=> ?_
  by_cases f:r<0
  .obtain⟨rfl,rfl⟩:=G f;exact YJ (r<0) f<|ug O<|ZR<|ZW (.tuple #[.int .i64 2,.int .i64 i])
  refine YK (r<0) f<|ZI false ?_
  cases H:Se s with
  |true=>
   have m:=TA (s:=s) o I b H;rw[Cn m]at l;refine ZC (λF D h=>gB o H) λu=>ZI false<|YA 13 k y<|ui (⟨(k+1,s.v),y,l,by rcases EE s.v with e|e|e|e|e|e<;>first|(show 1<=s.v/\s.v<=5;omega)|(rw[Eu e]at o;omega)⟩) O Zn Zt (λ_ _=>trivial)
  |false=>
   have m:=ca (s:=s) o I b H;rw[V1 (by rw[m];decide),m]at h;obtain⟨rfl,rfl⟩:=BT h;exact ZC (λF D h=>gB o H) λu=>ZI true<|ug O<|ZR<|ZW (.tuple #[.int .i64 6,.int .i64 k])
theorem Bd{B:Bool}(g:Sa w A n ls)(j:n<=1000000)(f:decide ((Ff ls).1=0)=B):Ca 90 #[.slice A n c] w (CU w (.bool B)):=by
 obtain⟨e,i,b⟩:∃e i,Ff ls=(e,i):=⟨_,_,rfl⟩
 rw[b]at f;exact uf func90 rfl<|ZR<|ZC (λl k h=>iu (c:=c) (g.below k) j b) λu=>ZX (.bool (e==0)) (by rw[<-f];rfl)
end
def pP(s:Sg):List Pt:=[(s.ax,s.ay),(s.bx,s.by_),(s.cx,s.cy)]
def Q4(v:Int):List Pt->Sg
 | []=>⟨v,0,0,0,0,0,0⟩
 | [a]=>⟨v,a.1,a.2,0,0,0,0⟩
 | [a,b]=>⟨v,a.1,a.2,b.1,b.2,0,0⟩
 |a::b::c::_=>⟨v,a.1,a.2,b.1,b.2,c.1,c.2⟩
def Xh:List Int->Int
 | []=>0
 |e::t=>if e=0 then Xh t else e
theorem It:∀(a b:List Int),Xh (a++b)=if Xh a=0 then Xh b else Xh a
 | [],b=>by simp[Xh]
 |e::a,b=>by
  rw[List.cons_append,Xh,Xh,It a b]
  by_cases h:e=0
  .rw[YS h,YS h]
  .rw[YT h,YT h,YT h]
def Jz(s:Sg):List Pt:=(pP s).take (Mu s.v).toNat
def jf(T:N7)(p:Pt):Pt:=(iD T p.1 p.2,gT T p.1 p.2)
def Q8(T:N7)(s:Sg):Sg:=Q4 s.v ((Jz s).map (jf T))
def W8(T:N7)(l:List Pt):Int:=Xh (l.map λp=>Gi T p.1 p.2)
def Nn(T:N7)(l:List Sg):Int:=Xh (l.map λs=>W8 T (Jz s))
section
variable{w u:YM}{A:YY}{n c N m:Nat}{l:List Pt}{ad:XR}{s:Sg}{v:Int}
theorem Kk.take_{α:Type}{cl:α->List YI}{l:List α}{k:Nat}(h:Kk u A n k cl l)(e:m<=n):Kk u A m k cl (l.take m):=by
 refine⟨by rw[BA,h.1];omega,λi x b=>h.2 i x ?_⟩;rw[CE]at b;split at b
 .exact b
 .cases b
theorem iV{g:Nat}(b:Kw 74 #[.int .i64 s.ax,.int .i64 s.ay,.int .i64 s.bx,.int .i64 s.by_,.int .i64 s.cx,.int .i64 s.cy] g u)(e:m<=3):Kk u (some ⟨g,0,none⟩) m 2 K9 ((pP s).take m):=
 ((K6.lit (n:=3) (s:=2) (B:=0) b rfl (AD _) Zd).reads.rows (cl:=K9) (l:=pP s) (λ_=>rfl) rfl).take_ e
theorem OK{k:Nat}{p:Pt}(f:k<3)(e:l[k]? =some p):(Q4 v (l.take k)).cl.take (1+2*k)++K9 p++(Q4 v (l.take k)).cl.drop (1+2*k+2)=(Q4 v (l.take (k+1))).cl:=by
 rcases(by omega:k=0\/k=1\/k=2)with rfl|rfl|rfl<;>rcases l with _|⟨a,_|⟨b,_|⟨c,t⟩⟩⟩<;>first|(simp at e;done)|(simp at e;subst e;rfl)
theorem ts{g b k:Nat}(h:Kw 379 #[.pointer (some ⟨g,1,none⟩),.pointer (some ⟨g,3,none⟩),.pointer (some ⟨g,5,none⟩)] b u)(f:k<3):u.cell? ((⟨b,0,none⟩:XR).add k)=some (.pointer (some ⟨g,1+2*k,none⟩)):=by
 have e:K8 u b [.pointer (some ⟨g,1,none⟩),.pointer (some ⟨g,3,none⟩),.pointer (some ⟨g,5,none⟩)]:=⟨_,h⟩
 rw[Addr.add_mid,BN];have:=e.range k (.pointer (some ⟨g,1+2*k,none⟩)) (by rcases(by omega:k=0\/k=1\/k=2)with rfl|rfl|rfl<;>rfl);simpa using this
theorem K8.own{g:Nat}{cs:List YI}(h:K8 w g cs):∃xs ty own,w.heap[g]? =some (.cells xs ty own):=by
 obtain⟨ty,h⟩:=h;exact⟨_,_,_,h⟩
theorem b7(o:Mu s.v=(m:Int))(k:m<=3):Ca 263 #[s.val] w (K4 w (λg:Nat=> .slice (some ⟨g,0,none⟩) m 3) λg u=>Kk u (some ⟨g,0,none⟩) m 2 K9 ((pP s).take m)/\g<u.heap.size):=by
 refine uf func263 rfl<|ZR<|uk (Lr 296 3 #[(0,pt s.ax s.ay),(1,pt s.bx s.by_),(2,pt s.cx s.cy)]) (Kr 3) (Kw 74 #[.int .i64 s.ax,.int .i64 s.ay,.int .i64 s.bx,.int .i64 s.by_,.int .i64 s.cx,.int .i64 s.cy]) O (λf b h=>Kj O) λg=>ZR<|ZD 5 (λf b h=>G2 o) λu=>uh 15 (.int .i64 (if (0:Int)>(m:Int)then 0 else(m:Int))) (.int .i64 (m:Int)) O (by rw[YT I])<|ZA (oV 296 (Kr 3 g) m) (.slice (some ⟨g,0,none⟩) m 3) (λf b h=>Xu (e:=74) (s:=2) O O O k)<|ZV (.slice (some ⟨g,0,none⟩) m 3) (λf b h=>⟨g,rfl,b,λu j k2=>⟨iV (h u j k2).1.2 k,UB (h u j k2).1.2⟩⟩)
theorem mT(B:Kk w A m 2 K9 l)(S:m<=3):Ca 265 #[.int .i64 v,.slice A m c] w (CU w ((Q4 v l).val)):=by
 refine uf func265 rfl<|ZR<|uq 5 (⟨v,0,0,0,0,0,0⟩:Sg).cl O O λg K=>uk (Lr 380 3 #[(0,.pointer (some ⟨g,1,none⟩)),(1,.pointer (some ⟨g,3,none⟩)),(2,.pointer (some ⟨g,5,none⟩))]) (Kr 3) (λe u=>Kw 379 #[.pointer (some ⟨g,1,none⟩),.pointer (some ⟨g,3,none⟩),.pointer (some ⟨g,5,none⟩)] e u/\g<e) O (λo f h=>Q2 O (λx y=>Nat.lt_of_lt_of_le h.2.ltW y)) λe=>ZR<|uj (ι:={k:Nat // k<=3}) 32 (λk=>⟨[vS 1 A m c,(4,.p 4 0),vV 5 (.pointer (some ⟨g,0,none⟩)),vV 13 (Kr 3 e),vI 14 3,vI 15 (k.1:Int)],[(4,(⟨0,0,0,0,0,0,0⟩:Sg).cl.map .v)]⟩) (λk u=>(Kw 379 #[.pointer (some ⟨g,1,none⟩),.pointer (some ⟨g,3,none⟩),.pointer (some ⟨g,5,none⟩)] e u/\g<e)/\K8 u g (Q4 v (l.take k.1)).cl) (λk=>3-k.1) (⟨0,AD _⟩) O Zf Zt (λu h=>⟨h.2,h.1.2⟩) ?_
 rintro⟨k,D⟩ U;have D:k<=3:=D
 by_cases b:k<3
 case neg=>
  obtain rfl:k=3:=I
  refine ZR<|ZI false<|ug O<|ZR ?_
  have Z:Q4 v (l.take 3)=Q4 v l:=by rw[AI (by rw[B.1];exact S)]
  exact ZA (Ke 87 ⟨g,0,none⟩) ((Q4 v l).val) (λo f h=>Ka (vs:=(Q4 v l).cl) O O (by have E:K8 _ g (Q4 v (l.take 3)).cl:=h.2;rw[Z]at E;exact E.range))<|ZW ((Q4 v l).val)
 refine ZR<|YL ((k:Int)<3)<|ZA (Kd 380 (Kr 3 e) k) (.pointer (some ((⟨e,0,none⟩:XR).add k))) (λo f h=>Uh (elem:=379) O O b)<|ZA (Ke 379 ((⟨e,0,none⟩:XR).add k)) (.pointer (some ⟨g,1+2*k,none⟩)) (λo f h=>Kh O (ts h.1.1 b)) ?_
 by_cases z:k<m
 case neg=>
  refine YN ((k:Int)<(m:Int)) ?_;have J:Q4 v (l.take (k+1))=Q4 v (l.take k):=by rw[AI (by rw[B.1];omega),AI (by rw[B.1];omega)]
  refine YA 15 k b<|ui (⟨k+1,b⟩) O Zn Zt (λu h=>by show _/\K8 u g (Q4 v (l.take (k+1))).cl;rw[J];exact h)
 obtain⟨p,F⟩:∃p,l[k]? =some p:=⟨_,AB (by rw[B.1];exact z)⟩
 obtain⟨ad,H,wI⟩:=B.2 k p F;refine YL ((k:Int)<(m:Int))<|ZA (Kd 296 (.slice A m c) k) (.pointer (some (ad.add (k*2)))) (λo f h=>Lh H z)<|ZA (Ke 74 (ad.add (k*2))) (Km p) (λo f h=>M5 λi v hi=>L5 f (wI i v hi)) ?_
 refine ur (L:=[g]) (G:=λu=>K8 u g (Q4 v (l.take (k+1))).cl) (Φ':=λu=>(Kw 379 #[.pointer (some ⟨g,1,none⟩),.pointer (some ⟨g,3,none⟩),.pointer (some ⟨g,5,none⟩)] e u/\g<e)/\K8 u g (Q4 v (l.take (k+1))).cl) (Om 74 ⟨g,1+2*k,none⟩ (Km p)) (λo f h=>by
  have Q:=h.2.storeN (P:=XM) (t:=74) (v:=Km p) (j:=1+2*k) O (by show 1+2*k+2<=7;omega) (λx y=>by have y:x∈K9 p:=y;simp[K9]at y;rcases y with rfl|rfl<;>rfl);rw[<-OK b F];exact Q) (λu h=>Za ⟨K,h.2.own⟩) (λT u W R h M=>⟨⟨(R e (by have:=h.1.2;simp;omega)).symm.trans h.1.1,h.1.2⟩,M⟩) O O ?_
 refine ZR<|YA 15 k b<|ui (⟨k+1,b⟩) O Zn Zt (λu h=>h)
end
section
variable{w u:YM}{A:YY}{n c N K:Nat}{ls:List Sg}{t:TV}{T:N7}
theorem GF:∀{ls:List Sg} {last:Int} {k:Nat},(Yr last k ls).1=0->∀s∈ls,∃m:Nat,Mu s.v=(m:Int)/\m<=3
 | [],_,_,_,s,e=>by cases e
 | x ::l,last,k,h,s,e=>by
  by_cases b:Tf last x=0
  .rw [Cn b]at h;rcases BP.1 e with rfl|g
   .by_cases f:Mu s.v<0
    .unfold Tf at b;rw[YS f]at b;cases b
    .refine⟨(Mu s.v).toNat,by omega,?_⟩;have:Mu s.v<=3:=by
      unfold Mu
      (repeat' split)<;>decide
     omega
   .exact GF h s g
  .rw[V1 b]at h;exact absurd h b
theorem Vw(h:(Ff ls).1=0):ls.length<=256:=by
 unfold Ff at h;split at h
 .cases h
 .omega
theorem m8{s:Sg}(h:(Ff ls).1=0)(b:s∈ls):∃m:Nat,Mu s.v=(m:Int)/\m<=3:=by
 have e:=Vw h;unfold Ff at h;rw[YT I]at h;exact GF h s b
theorem E2{l:List Int}{e:Int}(h:Xh l=0):Xh (l++ [e])=e:=by
 rw[It,YS h];unfold Xh;split
 .rename_i b;rw[b];rfl
 .rfl
theorem KZ{l:List Int}{k:Nat}{e:Int}(h:Xh (l.take k)=0)(b:l[k]? =some e)(f:e≠0):Xh l=e:=by
 have g:l=(l.take k++ [e])++l.drop (k+1):=by rw[<-L7 b,BZ]
 rw[g,It,E2 h,YT f]
theorem Lo{X Y:Int}{K:Nat}{t:TV}{T:N7}(e:S3 t T K w)(f:8<=K/\K<=10000)(b:Gi T X Y=0):Ca 264 #[t.val,pt X Y] w (CU w (.tuple #[pt (iD T X Y) (gT T X Y),.int .i64 0])):=by
 have:=SJ (X:=X) (Y:=Y) e f;unfold qU at this;rw[b,YS rfl]at this;exact this
theorem LO{X Y e:Int}{K:Nat}{t:TV}{T:N7}(f:S3 t T K w)(g:8<=K/\K<=10000)(b:Gi T X Y=e)(h:e≠0):Ca 264 #[t.val,pt X Y] w (CU w (.tuple #[pt 0 0,.int .i64 e])):=by
 have:=SJ (X:=X) (Y:=Y) f g;rw[Ed b h]at this;exact this
theorem jO{z:YZ}{acc:List Pt}{p:Pt}{B m g k:Nat}(F:K6 u B 74 2 z.1 m z.2 (acc.flatMap K9))(G:B<=u.heap.size)(f:∀b∈bl z.1,b≠g)(y:g<u.heap.size)(x:Kw 74 (K9 p).toArray k u)(H:m<=10000000):
 Mv XM u (bl z.1) (λz:YZ=> .slice z.1 (m+1) z.2) (λz v=>K6 v B 74 2 z.1 (m+1) z.2 ((acc++ [p]).flatMap K9)/\∀b∈bl z.1,b≠g) (My 296 296 (.slice z.1 m z.2) (Kr 1 k)):=by
 have o:=M2 (P:=XM) (s:=2) (z:=pt 0 0) (bytes:=16) (m:=1) (cc:=1) (t:=296) (elem:=74) O O rfl Zd F G (Mc (n:=1) x rfl) (by intro v h;simp[K9]at h;rcases h with rfl|rfl<;>rfl) I Zd;have e:(acc++ [p]).flatMap K9=acc.flatMap K9++(K9 p).toArray.toList:=Zs
 rw[e];refine O7 o λz' l b D E=> ?_
 rcases l b D with j|j
 .exact f b j E
 .omega
theorem jQ{z:YZ}{acc:List Sg}{s:Sg}{B m f:Nat}(g:K6 u B 87 7 z.1 m z.2 (acc.flatMap Sg.cl))(k:B<=u.heap.size)(j:Kw 87 s.cl.toArray f u)(l:m<=10000000):
 Mv XM u (bl z.1) (λz:YZ=> .slice z.1 (m+1) z.2) (λz v=>K6 v B 87 7 z.1 (m+1) z.2 ((acc++ [s]).flatMap Sg.cl)) (My 56 56 (.slice z.1 m z.2) (Kr 1 f)):=by
 have h:=M2 (P:=XM) (s:=7) (z:=(⟨0,0,0,0,0,0,0⟩:Sg).val) (bytes:=56) (m:=1) (cc:=1) (t:=56) (elem:=87) O O rfl Zd g k (Mc (n:=1) j rfl) (by intro v b;simp[Sg.cl]at b;rcases b with rfl|rfl|rfl|rfl|rfl|rfl|rfl<;>rfl) I Zd;have e:(acc++ [s]).flatMap Sg.cl=acc.flatMap Sg.cl++s.cl.toArray.toList:=Zs
 rw[e];exact h
theorem dx{T:N7}{y:YZ}(h:Nn T ls=0):(Value.tuple #[.slice y.1 n y.2,.int .i64 0])= .tuple #[if Nn T ls=0 then .slice y.1 n y.2 else .slice none 0 0,.int .i64 (Nn T ls)]:=by rw[h];rfl
theorem aY{T:N7}{y:YZ}{e:Int}(h:Nn T ls=e)(b:e≠0):(Value.tuple #[.slice none 0 0,.int .i64 e])= .tuple #[if Nn T ls=0 then .slice y.1 n y.2 else .slice none 0 0,.int .i64 (Nn T ls)]:=by rw[h,YT b]
theorem KU{T:N7}{l:List Pt}{j:Nat}{p:Pt}(h:W8 T (l.take j)=0)(e:l[j]? =some p)(b:Gi T p.1 p.2≠0):W8 T l=Gi T p.1 p.2:=by
 unfold W8 at h ⊢;rw[List.map_take]at h;exact KZ h (by rw[BD,e];rfl) b
theorem Fl{T:N7}{k:Nat}{s:Sg}{e:Int}(h:Nn T (ls.take k)=0)(f:ls[k]? =some s)(g:W8 T (Jz s)=e)(b:e≠0):Nn T ls=e:=by
 unfold Nn at h ⊢;rw[List.map_take]at h;exact KZ h (by rw[BD,f];exact congrArg some g) b
theorem UK(ht:S3 t T K w)(hK:8<=K/\K<=10000)(hs:Sa w A n ls)(hv:(Ff ls).1=0)(hN:N<=w.heap.size):
 Ca 226 #[.slice A n c,t.val] w (K4 w (λy:YZ=> .tuple #[if Nn T ls=0 then .slice y.1 n y.2 else .slice none 0 0,.int .i64 (Nn T ls)]) λy u=>Nn T ls=0->K6 u N 87 7 y.1 n y.2 ((ls.map (Q8 T)).flatMap Sg.cl)):=by
 have hln:=Vw hv;have hnl:ls.length=n:=hs.1;refine uf func226 rfl<|ZR<|ZC (λf e h=>Bd (c:=c) (hs.below e) I (B:=true) (by rw[hv];rfl)) λv0=>ZI false<|uj (ι:={q:Nat×(YZ) // q.1<=n/\Nn T (ls.take q.1)=0}) 53 (λq=>⟨[(3,.p 3 0),vS 6 q.1.2.1 q.1.1 q.1.2.2,vS 17 A n c,vI 18 (n:Int),vI 19 (q.1.1:Int)],[(3,t.cl.map .v)]⟩) (λq u=>K6 u w.heap.size 87 7 q.1.2.1 q.1.1 q.1.2.2 (((ls.take q.1.1).map (Q8 T)).flatMap Sg.cl)) (λq=>n-q.1.1) (⟨(0,(none,0)),AD _,rfl⟩) O Zf Zt (λu h=>uG) ?_
 rintro⟨⟨k,y⟩,hk,M⟩ gg;have hk:k<=n:=hk;have M:Nn T (ls.take k)=0:=M
 by_cases wI:k<n
 case neg=>
  obtain rfl:k=n:=I
  have P:ls.take k=ls:=AI I;rw[P]at M;refine ZR<|YN ((k:Int)<(k:Int))<|ug O<|ZR<|ZV (.tuple #[.slice y.1 k y.2,.int .i64 0]) (λf e h=>⟨y,congrArg Ending.returned (dx M),e,λu k1 k2 _=>by have F:K6 u w.heap.size 87 7 y.1 k y.2 (((ls.take k).map (Q8 T)).flatMap Sg.cl):=h u k1 k2;rw[P]at F;exact F.rebase λb o=>AH hN (F.lt b o).1⟩)
 obtain⟨s,wJ⟩:=Yg ls k;obtain⟨ad,hA,hc⟩:=hs.2 k s wJ;obtain⟨m,hm,Q⟩:=m8 hv (AF wJ);have R:Jz s=(pP s).take m:=by unfold Jz;rw[hm];rfl
 have hsl:(Jz s).length=m:=by rw[R,BA];show min m 3=m;omega
 refine ZR<|YL ((k:Int)<(n:Int))<|ZA (Kd 56 (.slice A n c) k) (.pointer (some (ad.add (k*7)))) (λf e h=>H7 hA wI)<|ZA (Ke 87 (ad.add (k*7))) (s.val) (λf e h=>eE (λj v W=>L5 e (hc j v W)))<|ZC (λf e h=>b7 hm Q) λx=>uj (ι:={q:Nat×(YZ) // q.1<=m/\W8 T ((Jz s).take q.1)=0}) 53 (λq=>⟨[(3,.p 3 0),vS 6 y.1 k y.2,(8,.p 8 0),vS 9 q.1.2.1 q.1.1 q.1.2.2,vS 17 A n c,vI 18 (n:Int),vI 19 (k:Int),vS 24 (some ⟨x,0,none⟩) m 3,vI 25 (m:Int),vI 26 (q.1.1:Int)],[(3,t.cl.map .v),(8,s.cl.map .v)]⟩) (λq u=>(K6 u w.heap.size 74 2 q.1.2.1 q.1.1 q.1.2.2 ((((Jz s).take q.1.1).map (jf T)).flatMap K9)/\∀b∈bl q.1.2.1,b≠x)/\K6 u w.heap.size 87 7 y.1 k y.2 (((ls.take k).map (Q8 T)).flatMap Sg.cl)/\Kk u (some ⟨x,0,none⟩) m 2 K9 (Jz s)/\x<u.heap.size) (λq=>m-q.1.1) (⟨(0,(none,0)),AD _,rfl⟩) O Zf Zt (λu h=>⟨⟨uG,by intro b o;cases o⟩,h.1,by rw[R];exact h.2.1,h.2.2⟩) ?_
 rintro⟨⟨j,z⟩,W,g⟩ gg2;have W:j<=m:=W;have g:W8 T ((Jz s).take j)=0:=g
 by_cases J:j<m
 case neg=>
  obtain rfl:j=m:=I
  have S:(Jz s).take j=Jz s:=AI I;rw[S]at g;refine ZR<|YN ((j:Int)<(j:Int))<|ug O<|ZR<|ZD 5 (λf e h=>mT (v:=s.v) (c:=z.2) (l:=(Jz s).map (jf T)) (by have F:K6 f w.heap.size 74 2 z.1 j z.2 ((((Jz s).take j).map (jf T)).flatMap K9):=h.1.1;rw[S]at F;exact F.reads.rows (cl:=K9) (λ_=>rfl) (by rw[AO];exact hsl)) Q) λwi=>uk (Lr 56 1 #[(0,(Q8 T s).val)]) (Kr 1) (Kw 87 (Q8 T s).cl.toArray) O (λf e h=>Kj O) λgb=>ZS 6<|uA (L:=bl y.1) (val:=λ(z:YZ)=> .slice z.1 (k+1) z.2) (Φ':=λ(E:YZ) v=>K6 v w.heap.size 87 7 E.1 (k+1) E.2 (((ls.take (k+1)).map (Q8 T)).flatMap Sg.cl)) (G:=λ(E:YZ) v=>K6 v w.heap.size 87 7 E.1 (k+1) E.2 (((ls.take (k+1)).map (Q8 T)).flatMap Sg.cl)) (My 56 56 (.slice y.1 k y.2) (Kr 1 gb)) (λf e h=>by rw[L7 wJ,BC];exact jQ h.1.1.2.1 e.size h.2 I) (λf h b o=>⟨(h.1.1.2.1.lt b o).1,(h.1.1.2.1.blk b o).2⟩) (λE wa f e1 e2 h hG=>hG) O O λE=>ZR<|YA 19 k wI ?_
  have H:Nn T (ls.take (k+1))=0:=by unfold Nn;rw[L7 wJ,BC];exact(E2 M).trans g
  refine ui (⟨((k+1),E),wI,H⟩) O Zn Zt (λu h=>h)
 obtain⟨p,U⟩:=Yg (Jz s) j;refine ZR<|YL ((j:Int)<(m:Int))<|ZA (Kd 296 (.slice (some ⟨x,0,none⟩) m 3) j) (.pointer (some ⟨x,j*2,none⟩)) (λf e h=>Kc (elem:=74) O O J)<|ZA (Ke 74 ⟨x,j*2,none⟩) (Km p) (λf e h=>Ka (vs:=K9 p) O O (λi v hi=>by obtain⟨a,Z,F⟩:=h.2.2.1.2 j p U;injection Z with Z;subst Z;have:=F i v hi;rwa [Addr.add_mid,Addr.add_mid,BN]at this)) ?_
 by_cases D:Gi T p.1 p.2=0
 case neg=>
  refine ZC (λf e h=>LO (X:=p.1) (Y:=p.2) (ht.below e) hK rfl D) λap=>ZJ (Gi T p.1 p.2 !=0) true (bne_iff_ne.2 D)<|ug O<|ZR<|ug O<|ZR<|ZV (.tuple #[.slice none 0 0,.int .i64 (Gi T p.1 p.2)]) (λf e h=>⟨(none,0),congrArg Ending.returned (aY (Fl M wJ (KU g U D) D) D),e,λu k1 k2 h0=>absurd ((Fl M wJ (KU g U D) D).symm.trans h0) D⟩)
 refine ZC (λf e h=>Lo (X:=p.1) (Y:=p.2) (ht.below e) hK D) λap=>uu false O<|ZS 2<|uk (Lr 296 1 #[(0,Km (jf T p))]) (Kr 1) (Kw 74 (K9 (jf T p)).toArray) O (λf e h=>Kj O) λgb=>ZS 3<|uA (L:=bl z.1) (val:=λ(z:YZ)=> .slice z.1 (j+1) z.2) (Φ':=λ(z':YZ) v=>(K6 v w.heap.size 74 2 z'.1 (j+1) z'.2 ((((Jz s).take (j+1)).map (jf T)).flatMap K9)/\∀b∈bl z'.1,b≠x)/\K6 v w.heap.size 87 7 y.1 k y.2 (((ls.take k).map (Q8 T)).flatMap Sg.cl)/\Kk v (some ⟨x,0,none⟩) m 2 K9 (Jz s)/\x<v.heap.size) (G:=λ(z':YZ) v=>K6 v w.heap.size 74 2 z'.1 (j+1) z'.2 ((((Jz s).take (j+1)).map (jf T)).flatMap K9)/\∀b∈bl z'.1,b≠x) (My 296 296 (.slice z.1 j z.2) (Kr 1 gb)) (λf e h=>by rw[L7 U,BC];exact jO h.1.1.1.1 e.size h.1.1.1.2 h.1.1.2.2.2 h.2 I) (λf h b o=>⟨(h.1.1.1.1.lt b o).1,(h.1.1.1.1.blk b o).2⟩) (λz' wa f e1 e2 h hG=>⟨hG,h.1.1.2.1.left e2 λb o=>N8 h.1.1.2.1 h.1.1.1.1 Zd b o,h.1.1.2.2.1.left (λb o hc=>h.1.1.1.2 b hc (by simpa[bl]using o)) e2,by rw[<-e1];exact h.1.1.2.2.2⟩) O O λz'=>ZR<|YA 26 j J ?_
 have H:W8 T ((Jz s).take (j+1))=0:=by unfold W8;rw[L7 U,BC];exact(E2 g).trans D
 refine ui (⟨(j+1,z'),J,H⟩) O Zn Zt (λu h=>h)
end
theorem U9{P:YH}{u:YM}{t e:XX}{s bytes B m c:Nat}{z0:YI}{z:YZ}{β:Type}{cl:β->List YI}{x:β}{acc:List β}(l:P.underlying t=some (.slice e))(hi:Ya P e=some (z0,s,bytes))(b:z0.cells.size=s)(p:0<s)(k:bytes<=10000)(j:(cl x).length=s)(f:∀v∈cl x,v.oneCell'=true)
 (o:K6 u B e s z.1 m z.2 (acc.flatMap cl)) (w:B<=u.heap.size) (h:Kw e (cl x).toArray c u) (y:m<=10000000):
 Mv P u (bl z.1) (λz:YZ=> .slice z.1 (m+1) z.2) (λz v=>K6 v B e s z.1 (m+1) z.2 ((acc++ [x]).flatMap cl)) (My t t (.slice z.1 m z.2) (Kr 1 c)):=by
 have g:=M2 (P:=P) (m:=1) (cc:=1) l hi b p o w (Mc (n:=1) h (by simpa using j)) (by simpa using f) I k;have e:(acc++ [x]).flatMap cl=acc.flatMap cl++(cl x).toArray.toList:=Zs
 rw[e];exact g
theorem OI{α:Type}{P:α->Prop}{l:List α}{x:α}(h:∀b∈l,P b)(e:P x):∀b∈l++ [x],P b:=λb c=>by
 rcases BI.1 c with c|c
 .exact h b c
 .obtain rfl:=AE.1 c;exact e
def bI(b:Bool)(z:Int):Int:=if b then z else 0
abbrev LL(R:Rc)(b:Bool):YI:=Pw (bI b R.x) (bI b R.y) (bI b (R.x+R.W)) (bI b (R.y+R.H))
theorem Um(a:Int):G3 a a=a:=by rw[S6];omega
theorem Un(a:Int):F9 a a=a:=by rw[S7];omega
theorem MB{P:YH}{u:YM}{t:XX}{g:Nat}{v:YI}(h:K8 u g [v])(b:Nx P t=some false):(Ke t ⟨g,0,none⟩).run P u= .ok (.value v) u:=Kh b (by have:=h.range 0 _ rfl;simpa using this)
section
variable{w u:YM}{R:Rc}{K K1 K2 K3:Nat->Prop}{x y:Int}{m m1 m2:MV}{N g g1 g2 gl n c k k2:Nat}{z:YZ}{A:YY}{b b1 b2:Bool}{F:XU}{caps:List YI}
theorem Zw.bd(h:Zw w R K m):∃b,Pw m.x0 m.y0 m.x1 m.y1=LL R b/\(b=false->K 0/\m=T9):=by
 cases h with
 |nil h=>exact⟨false,rfl,λ_=>⟨h,rfl⟩⟩
 |row z e h=>exact⟨true,rfl,nofun⟩
theorem Vl(e:O4 R):Ca 30 #[LL R b1,LL R b2] w (CU w (LL R (b1&&b2))):=by
 cases b1<;>cases b2
 .exact W_
 .exact dN e.r
 .exact VM e.r
 .exact Hk e.r e.r (Um _) (Um _) (Un _) (Un _) e.r
theorem mI(j:O4 R):Ca 15 #[LL R b] w (K4 w (λn:{n:Nat // n<=64}=> .int .i64 (n.1:Nat)) λ_ _=>True):=by
 cases b
 .refine(JE).mono λe l k=> ?_
  obtain⟨_,f,k2,h⟩:=k;exact⟨⟨0,by decide⟩,f,k2,h⟩
 .refine(Y5 j).mono λe l k=> ?_
  obtain⟨_,f,k2,h⟩:=k;exact⟨⟨R.n,j.n.2⟩,f,k2,h⟩
theorem ij(j:O4 R):Ca 113 #[LL R b1,LL R b2] w (CU w (LL R (b1||b2))):=by
 have l:∀w,Ca 35 #[Pw 0 0 0 0] w (CU w (.bool true)):=λw=>Hn (by unfold gU;decide) Zd
 cases b1
 .cases b2
  .exact uf func113 rfl<|ZR<|ZC (λe f h=>l e) λp=>ZI true<|ZC (λe f h=>Ph) λo=>ZW (Pw 0 0 0 0)
  .exact uf func113 rfl<|ZR<|ZC (λe f h=>l e) λp=>ZI true<|ZC (λe f h=>Oy j.r) λo=>ZW (R.V)
 .cases b2
  .exact uf func113 rfl<|ZR<|ZC (λe f h=>Y4 j.r) λp=>ZI false<|ZC (λe f h=>l e) λo=>ZI true<|ZW (R.V)
  .exact uf func113 rfl<|ZR<|ZC (λe f h=>Y4 j.r) λp=>ZI false<|ZC (λe f h=>Y4 j.r) λo=>ZI false<|ZX (Pw (F9 R.x R.x) (F9 R.y R.y) (G3 (R.x+R.W) (R.x+R.W)) (G3 (R.y+R.H) (R.y+R.H))) (by rw[Un,Un,Um,Um];rfl)
theorem IL(D:O4 R)(wJ:(F=124/\∃g,caps=[Kp g])\/(F=173/\∃g,caps=[Kp g])\/(F=116/\∃g g2,caps=[Kp g,Kp g2]))
 (Z:∀o x y,Below w.heap.size w o->R.In x y->Ca F ([BK .i64 x,BK .i64 y]++caps).toArray o (K4 o (λk:pM K=> .int .u8 (k.1:Nat)) λ_ _=>True)) (hN:N<=w.heap.size):
 Ca 115 #[R.V,.func (.func F) #[] caps.toArray] w (K4 w (λm:MV=>Le m) λm u=>Qf N R K m u):=by
 have hx:=D.x;have hy:=D.y;have hW:=D.W;have hH:=D.H;have hn:=D.n;obtain⟨FV,B⟩:∃FV,FV=Value.func (.func F) #[] caps.toArray:=⟨_,rfl⟩
 rw[<-B];rcases wJ with ⟨wJ,g,T⟩|⟨wJ,g,T⟩|⟨wJ,g,g2,T⟩<;>
 (
  have M:=Z;rw[wJ,T]at M B;refine uf func115 rfl<|ZR<|ZC (λo t h=>Oy D.r) λc=>uh 6 (.int .i64 R.y) (.int .i64 (R.y+((0:Nat):Int))) O (by show _=BK .i64 (R.y+0);rw[Int.add_zero])<|uj (ι:={q:(Nat×Nat)×(YZ)×List Nat // (q.1.1<=R.H/\q.1.2=q.1.1*R.W)/\q.2.2.length=q.1.2/\∀b∈q.2.2,b<=255/\K b}) 41 (λq=>⟨[vV 1 FV,(4,.p 4 0),(5,.p 5 0),vI 6 (R.y+(q.1.1.1:Int))],[(4,(Ob T9).map .v),(5,(Ob ⟨R.x,R.y,R.x+R.W,R.y+R.H,q.1.2.1.1,q.1.1.2,q.1.2.1.2⟩).map .v)]⟩) (λq u=>K6 u w.heap.size 5 1 q.1.2.1.1 q.1.1.2 q.1.2.1.2 (q.1.2.2.flatMap Jf)) (λq=>R.H-q.1.1.1) (⟨((0,0),(none,0),[]),⟨AD _,by rw[BR]⟩,rfl,nofun⟩) O Zf Zt (λ_ _=>uG) ?_
  rintro⟨⟨⟨j,m⟩,z,U⟩,⟨X,S⟩,P,wI⟩ gg;have X:j<=R.H:=X;have S:m=j*R.W:=S
  by_cases J:j<R.H
  case neg=>
   obtain rfl:j=R.H:=I
   have l:m=R.n:=by rw[S];exact AY _ _
   subst l;refine ZR<|YN (R.y+(R.H:Int)<R.y+R.H)<|ug O<|ZR<|ZV (Le (Mp R z)) (λo t h=>⟨Mp R z,rfl,t,λu Y k2=> .row z U ((h u Y k2).rebase λb hb=>AH hN ((h u Y k2).lt b hb).1) P wI rfl⟩)
  refine ZR<|YL (R.y+(j:Int)<R.y+R.H)<|uh 7 (.int .i64 R.x) (.int .i64 (R.x+((0:Nat):Int))) O (by show _=BK .i64 (R.x+0);rw[Int.add_zero])<|uj (ι:={q:(Nat×Nat)×(YZ)×List Nat // (q.1.1<=R.W/\q.1.2=j*R.W+q.1.1)/\q.2.2.length=q.1.2/\∀b∈q.2.2,b<=255/\K b}) 41 (λq=>⟨[vV 1 FV,(4,.p 4 0),(5,.p 5 0),vI 6 (R.y+(j:Int)),vI 7 (R.x+(q.1.1.1:Int))],[(4,(Ob T9).map .v),(5,(Ob ⟨R.x,R.y,R.x+R.W,R.y+R.H,q.1.2.1.1,q.1.1.2,q.1.2.1.2⟩).map .v)]⟩) (λq u=>K6 u w.heap.size 5 1 q.1.2.1.1 q.1.1.2 q.1.2.1.2 (q.1.2.2.flatMap Jf)) (λq=>R.W-q.1.1.1) (⟨((0,m),z,U),⟨AD _,S⟩,P,wI⟩) O Zf Zt (λ_ h=>h) ?_
  rintro⟨⟨⟨i,m2⟩,Q,f⟩,⟨hi,l⟩,e,s⟩ gg2;have hi:i<=R.W:=hi;have l:m2=j*R.W+i:=l;have e:f.length=m2:=e;have hjw:j*R.W+R.W<=R.n:=by
   have:=AC R.W (show j+1<=R.H from J);rw[AR,Nat.one_mul,AY R.H]at this;exact this
  by_cases E:i<R.W
  case neg=>
   obtain rfl:i=R.W:=I
   refine ZR<|YN (R.x+(R.W:Int)<R.x+R.W)<|ug O<|ZR<|YB 6 (R.y+(j:Int)+1) (R.y+((j+1:Nat):Int))<|ui (⟨((j+1,m2),Q,f),⟨J,by show m2=(j+1)*R.W;rw[l,AR,Nat.one_mul]⟩,e,s⟩) O Zn Zt (λ_ h=>h)
  refine ZR<|ul (decide (R.x+(i:Int)<R.x+R.W)) true O (YU I)<|ZS 5<|uh 33 FV _ O B<|ZD 7 (λo t h=>M o (R.x+(i:Int)) (R.y+(j:Int)) t (by unfold Rc.In;omega)) λv=> ?_
  obtain⟨k,hk⟩:=v;refine uk (Lr 108 1 #[(0,.int .u8 (k:Nat))]) (Kr 1) (Kw 5 (Jf k).toArray) O (λo t h=>Kj O) λgb=>ZS 7<|uQ (L:=bl Q.1) (val:=λz':YZ=> .slice z'.1 (m2+1) z'.2) (Φ':=λz' u=>K6 u w.heap.size 5 1 z'.1 (m2+1) z'.2 ((f++ [k]).flatMap Jf)) (G:=λz' u=>K6 u w.heap.size 5 1 z'.1 (m2+1) z'.2 ((f++ [k]).flatMap Jf)) (My 108 108 (.slice Q.1 m2 Q.2) (Kr 1 gb)) (λo t h=>U9 (z0:= .int .u8 0) (bytes:=1) O O rfl Zd Zd rfl (Gh k) h.1.1 t.size h.2 I) (λu h=>h.1.1.blk) (λz' wa u e1 e2 h hG=>hG) O O λz'=>ZR<|YB 7 (R.x+(i:Int)+1) (R.x+((i+1:Nat):Int)) ?_
  refine ui (⟨((i+1,m2+1),z',f++ [k]),⟨E,by show m2+1=_;rw[l];rfl⟩,by show(f++ [k]).length=m2+1;rw[AK,e];rfl,OI s hk⟩) O Zn Zt (λ_ h=>h))
theorem UD(e:(F=173/\∃g,caps=[Kp g])\/(F=116/\∃g g2,caps=[Kp g,Kp g2])):Ca 115 #[Pw 0 0 0 0,.func (.func F) #[] caps.toArray] w (CU w (Le T9)):=by
 rcases e with ⟨e,g,j⟩|⟨e,g,g2,j⟩<;>
 (
  refine uf func115 rfl<|ZR<|ZC (λl f h=>Ph) λc=>uR O<|ZR<|ZI false ?_
  refine vu (v:=Le T9) O (λl f h=>⟨(),rfl,f,Zv⟩))
theorem Db(j:O4 R)(p:k<=255/\K k)(s:N<=w.heap.size):Ca 76 #[R.V,.int .u8 k] w (K4 w (λm:MV=> .tuple #[Le m,.int .i64 0]) λm u=>Qf N R K m u):=by
 have D:=j.n;refine uf func76 rfl<|ZR<|ZC (λo e h=>Sz j.r.in_) λv=>ZI false<|ZC (λo e h=>Y5 j) λa=>YN ((R.n:Int)>65536)<|uy (val:=λm:MV=>Le m) (G:=λm u=>Qf w.heap.size R K m u) (xs:=[.v R.V,.f 124 [(3,0)]]) O (λβ o e h B=>IL j (.inl ⟨rfl,_,rfl⟩) (λE x y l _=>qV (K8.below (Kz B (k:=3) (by simp[AV.ids]) (cs:=[.v (.int .u8 (k:Int))]) O) l) p) e.size) λm=>ZR<|ZV (.tuple #[Le m,.int .i64 0]) (λo e h=>⟨m,rfl,e,λu t k2=>Qf.mono (h u t k2).2 s⟩)
theorem eB(k:Nat):Al 0 k=0:=by unfold Al EC;rw[BR]
theorem ku(k:Nat):Al k 0=0:=by unfold Al EC;rw[Nat.mul_zero]
theorem r9(D:O4 R)(hi:R.In x y)(G:K8 w g [.slice (some ⟨gl,0,none⟩) 2 2])(E:Kk w (some ⟨gl,0,none⟩) 2 5 Ob [m1,m2])(H:Zw w R K1 m1)(J:Zw w R K2 m2)(L:∀a b,a<=255->b<=255->K1 a->K2 b->K (Al a b)):
 Ca 173 #[.int .i64 x,.int .i64 y,Kp g] w (K4 w (λk:pM K=> .int .u8 (k.1:Nat)) λ_ _=>True):=by
 obtain⟨Z,B,wI⟩:=E.2 0 m1 rfl;obtain⟨P,t,c2⟩:=E.2 1 m2 rfl;injection B with B;subst B;injection t with t;subst t;refine uf func173 rfl<|ZR<|ZA (Ke 243 ⟨g,0,none⟩) (.slice (some ⟨gl,0,none⟩) 2 2) (λl f h=>MB (G.below f) O)<|ZA (Kd 243 (.slice (some ⟨gl,0,none⟩) 2 2) (0:Nat)) (.pointer (some ((⟨gl,0,none⟩:XR).add (0*5)))) (λl f h=>Ui rfl Zd)<|ZA (Ke 110 ((⟨gl,0,none⟩:XR).add (0*5))) (Le m1) (λl f h=>Bs λj v s=>L5 f (wI j v s))<|ZC (λl f h=>SB D hi (H.below f)) λo=>uw (Ke 243 ⟨g,0,none⟩) (.slice (some ⟨gl,0,none⟩) 2 2) O (λl f h=>MB (G.below f) O)<|ZS 1<|ZA (lA 243 (.slice (some ⟨gl,0,none⟩) 2 2) (1:Nat)) (.slice (some ⟨gl,1*5,none⟩) 1 1) (λl f h=>Ug (e:=110) O O O Zd Zd)<|uR O<|ZR<|ZI true<|ZA (Kd 243 (.slice (some ⟨gl,1*5,none⟩) 1 1) (0:Nat)) (.pointer (some ((⟨gl,1*5,none⟩:XR).add (0*5)))) (λl f h=>Ui rfl Zd)<|ZA (Ke 110 ((⟨gl,1*5,none⟩:XR).add (0*5))) (Le m2) (λl f h=>Bs λj v s=>L5 f (by have:=c2 j v s;rw[Addr.add_mid,Addr.add_mid]at this;rw[Addr.add_mid,Addr.add_mid];exact this))<|ZC (λl f h=>SB D hi (J.below f)) λp=>ZC (λl f h=>I8 o.2.1 p.2.1) λM=>ZI false<|ZV (.int .u8 (Al o.1 p.1:Nat)) (λl f h=>⟨⟨Al o.1 p.1,Rq o.2.1 p.2.1,L _ _ o.2.1 p.2.1 o.2.2 p.2.2⟩,rfl,f,Zv⟩)
theorem Zw.some(j:O4 R)(h:Zw w R K m):∃k,k<=255/\K k:=by
 cases h with
 |nil h=>exact⟨0,AD _,h⟩
 |row z e h o f=>
  have l:0<e.length:=by rw[h.1];exact j.n.1
  exact⟨e[0],f _ (List.getElem_mem l)⟩
theorem RB(B:O4 R)(hl:Kw 110 ([m1,m2].flatMap Ob).toArray gl w)(L:Zw w R K1 m1)(M:Zw w R K2 m2)(hK:∀a b,a<=255->b<=255->K1 a->K2 b->K (Al a b))(hN:N<=w.heap.size):
 Ca 125 #[Kr 2 gl] w (K4 w (λm:MV=> .tuple #[Le m,.int .i64 0]) λm u=>Qf N R K m u):=by
 have p:Kk w (some ⟨gl,0,none⟩) 2 5 Ob [m1,m2]:=Kk.lit (cl:=Ob) C5 hl;have E:∀m∈[m1,m2],∃K,Zw w R K m:=by
  intro m J;rcases BP.1 J with rfl|J
  .exact⟨_,L⟩
  .obtain rfl:=AE.1 J;exact⟨_,M⟩
 obtain⟨a1,e1,c1⟩:=p.2 0 m1 rfl;obtain⟨a2,e2,c2⟩:=p.2 1 m2 rfl;injection e1 with e1;subst e1;injection e2 with e2;subst e2;obtain⟨b1,wI,z1⟩:=L.bd;obtain⟨b2,T,z2⟩:=M.bd;have bd:∀l,Below w.heap.size w l->(Ke 30 ((⟨gl,0,none⟩:XR).add (0*5))).run XM l= .ok (.value (LL R b1)) l:=λl s=>by
  rw[<-wI];exact Mh (vs:=[.int .i64 m1.x0,.int .i64 m1.y0,.int .i64 m1.x1,.int .i64 m1.y1]) O O λj v D=>L5 s (c1 j v (by
   rcases(by have:=(AN.1 D).1;simp at this;omega:j=0\/j=1\/j=2\/j=3)with rfl|rfl|rfl|rfl<;>exact D))
 have k0:(b1&&b2)=false->K 0:=λhb=>by
  obtain⟨x1,y1,y2⟩:=L.some B;obtain⟨x2,y3,y4⟩:=M.some B;cases b1
  .have:=hK 0 x2 (AD _) y3 (z1 rfl).1 y4;rwa [eB]at this
  .have:=hK x1 0 y1 (AD _) y2 (z2 hb).1;rwa [ku]at this
 have hbo:∀b1 b2 P Q wJ Z X U:Int,(Pw b1 b2 P Q=Pw wJ Z X U)->b1=wJ/\b2=Z/\P=X/\Q=U:=λb1 b2 P Q wJ Z X U h=>by simpa[Pw]using h
 refine uf func125 rfl<|ZR<|ZC (λl o h=>cw (c:=2) B (p.below o) Zd λm J=>by obtain⟨k,hk⟩:=E m J;exact⟨k,hk.below o⟩) λa=>ZI false<|ZI false<|ZA (Kd 243 (Kr 2 gl) (0:Nat)) (.pointer (some ((⟨gl,0,none⟩:XR).add (0*5)))) (λl o h=>Ui rfl Zd)<|ZA (Ke 30 ((⟨gl,0,none⟩:XR).add (0*5))) (LL R b1) (λl o h=>bd l o)<|uR O<|ZR<|ZI true<|ZA (Kd 243 (Kr 2 gl) (0:Nat)) (.pointer (some ((⟨gl,0,none⟩:XR).add (0*5)))) (λl o h=>Ui rfl Zd)<|uw (Ke 110 ((⟨gl,0,none⟩:XR).add (0*5))) (Le m1) O (λl o h=>Bs λj v D=>L5 o (c1 j v D))<|ZS 3<|uo O (stop:=1000) 1 _<|ZS 3<|uh 27 (Pw m1.x0 m1.y0 m1.x1 m1.y1) (LL R b1) O (wI)<|ZC (λl o h=>Vl (b1:=b1) (b2:=b1) B) λi1=>uJ 6 O λ_=>ZI true<|ZA (Kd 243 (Kr 2 gl) (1:Nat)) (.pointer (some ((⟨gl,0,none⟩:XR).add (1*5)))) (λl o h=>Ui rfl Zd)<|uw (Ke 110 ((⟨gl,0,none⟩:XR).add (1*5))) (Le m2) O (λl o h=>Bs λj v D=>L5 o (c2 j v D))<|ZS 3<|uo O (stop:=1000) 1 _<|ZS 3<|uh 27 (Pw m2.x0 m2.y0 m2.x1 m2.y1) (LL R b2) O (T)<|ZC (λl o h=>Vl (b1:=b1&&b1) (b2:=b2) B) λi2=>ZI false ?_
 obtain⟨S,H⟩:∃S,(b1&&b1&&b2)=S:=⟨_,rfl⟩
 have W:∀(l:YM) (g:Nat),Below w.heap.size w l->K8 l g [Kr 2 gl]->Ca 115 #[LL R (b1&&b1&&b2),.func (.func 173) #[] #[Kp g]] l (K4 l (λm:MV=>Le m) λm u=>Qf w.heap.size R K m u):=λl g s hg=>by
  rw[H];cases S
  .refine(UD (.inl ⟨rfl,g,rfl⟩)).mono λe w' k=> ?_
   obtain⟨_,j1,Y,_⟩:=k;exact⟨T9,j1,Y,λu _ _=> .nil (k0 (by rw[<-H];cases b1<;>cases b2<;>rfl)) rfl⟩
  .refine(IL (caps:=[Kp g]) (N:=l.heap.size) B (.inr (.inl ⟨rfl,g,rfl⟩)) (λw2 x y t hi=>r9 B hi (hg.below t) ((p.below s).below t) ((L.below s).below t) ((M.below s).below t) hK) (BH _)).mono λe w' k=> ?_
   obtain⟨m,j1,Y,j3⟩:=k;exact⟨m,j1,Y,λu q1 q2=>Qf.mono (j3 u q1 q2) s.size⟩
 refine uy (val:=λm:MV=>Le m) (G:=λm u=>Qf w.heap.size R K m u) (xs:=[.v (LL R (b1&&b1&&b2)),.f 173 [(1,0)]]) O (λβ l o h hB=>W l _ o (Kz hB (k:=1) (by simp[AV.ids]) (cs:=[.v (Kr 2 gl)]) O)) λm=>ZR<|ZV (.tuple #[Le m,.int .i64 0]) (λl o h=>⟨m,rfl,o,λu k1 k2=>Qf.mono (h u k1 k2).2 hN⟩)
abbrev Kb:Nat->Prop:=λ_=>True
theorem s_(z:Int):∃k:Nat,k<=255/\XN.wrap z=k:=by
 have h:0<=XN.wrap z/\XN.wrap z<256:=⟨Int.emod_nonneg _ Zd,Int.emod_lt_of_pos _ Zd⟩
 exact⟨(XN.wrap z).toNat,by omega,by omega⟩
theorem p9(o:O4 R)(hi:R.In x y)(b1:K8 w g (Ob m1))(b2:K8 w g2 (Ob m2))(v:Zw w R K1 m1)(t:Zw w R K2 m2):
 Ca 116 #[.int .i64 x,.int .i64 y,Kp g,Kp g2] w (K4 w (λk:pM Kb=> .int .u8 (k.1:Nat)) λ_ _=>True):=by
 refine uf func116 rfl<|ZR<|ZB 0 (Ke 110 ⟨g,0,none⟩) (Le m1) (λl e h=>Ka (vs:=Ob m1) O O (b1.below e).range)<|ZB 4 (Ke 110 ⟨g2,0,none⟩) (Le m2) (λl e h=>Ka (vs:=Ob m2) O O (b2.below e).range)<|ZC (λl e h=>SB o hi (v.below e)) λf=>ZC (λl e h=>SB o hi (t.below e)) λj=>ZC (λl e h=>I8 f.2.1 j.2.1) λB=> ?_
 obtain⟨k,s,p⟩:=s_ (XQ.wrap (XQ.wrap (XQ.wrap (f.1:Int)+XQ.wrap (j.1:Int))-XQ.wrap ((Al f.1 j.1:Nat):Int)));refine ZV (.int .u8 (XN.wrap (XQ.wrap (XQ.wrap (XQ.wrap (f.1:Int)+XQ.wrap (j.1:Int))-XQ.wrap ((Al f.1 j.1:Nat):Int))))) (λl e h=>⟨⟨k,s,trivial⟩,by rw[p],e,Zv⟩)
theorem VB(t:O4 R)(E:Zw w R K1 m1)(Q:Zw w R K2 m2)(Y:N<=w.heap.size):
 Ca 71 #[Le m1,Le m2] w (K4 w (λm:MV=> .tuple #[Le m,.int .i64 0]) λm u=>Qf N R Kb m u):=by
 obtain⟨b1,wJ,z1⟩:=E.bd;obtain⟨b2,J,z2⟩:=Q.bd;have B:∀m∈[m1,m2],∃K,Zw w R K m:=by
  intro m D;rcases BP.1 D with rfl|D
  .exact⟨_,E⟩
  .obtain rfl:=AE.1 D;exact⟨_,Q⟩
 have hu:∀j,Ca 113 #[Pw m1.x0 m1.y0 m1.x1 m1.y1,Pw m2.x0 m2.y0 m2.x1 m2.y1] j (CU j (LL R (b1||b2))):=λj=>by rw[wJ,J];exact ij t
 refine uf func71 rfl<|ZR<|ZC (λj p h=>hu j) λun=>uk (Lr 243 2 #[(0,Le m1),(1,Le m2)]) (Kr 2) (Kw 110 ([m1,m2].flatMap Ob).toArray) O (λj p h=>Kj O) λgl=>ZR<|ZC (λj p h=>cw (c:=2) t (Kk.lit (cl:=Ob) (l:=[m1,m2]) C5 h.2) (by show 2<=1000000;decide) λm D=>by obtain⟨k,X⟩:=B m D;exact⟨k,X.below p⟩) λa=>ZI false<|ZC (λj p h=>mI (b:=(b1||b2)) t) λT=>YK ((T.1:Int)>65536) (by have:=T.2;omega) ?_
 have M:∀(j:YM) (g g2:Nat),Below w.heap.size w j->K8 j g (Ob m1)->K8 j g2 (Ob m2)->Ca 115 #[LL R (b1||b2),.func (.func 116) #[] #[Kp g,Kp g2]] j (K4 j (λm:MV=>Le m) λm u=>Qf w.heap.size R Kb m u):=λj g g2 s Z wI=>by
  obtain⟨H,L⟩:∃H,(b1||b2)=H:=⟨_,rfl⟩
  rw[L];cases H
  .refine(UD (.inr ⟨rfl,g,g2,rfl⟩)).mono λe w' k=> ?_
   obtain⟨_,S,P,_⟩:=k;exact⟨T9,S,P,λu _ _=> .nil trivial rfl⟩
  .refine(IL (caps:=[Kp g,Kp g2]) (N:=j.heap.size) t (.inr (.inr ⟨rfl,g,g2,rfl⟩)) (λw2 x y o hi=>p9 t hi (Z.below o) (wI.below o) ((E.below s).below o) ((Q.below s).below o)) (BH _)).mono λe w' k=> ?_
   obtain⟨m,S,P,j3⟩:=k;exact⟨m,S,P,λu W q2=>Qf.mono (j3 u W q2) s.size⟩
 refine uy (val:=λm:MV=>Le m) (G:=λm u=>Qf w.heap.size R Kb m u) (xs:=[.v (LL R (Bool.or b1 b2)),.f 116 [(2,0),(3,0)]]) O (λβ j p h U=>M j _ _ p (Kz U (k:=2) (by simp[AV.ids]) (cs:=(Ob m1).map .v) O) (Kz U (k:=3) (by simp[AV.ids]) (cs:=(Ob m2).map .v) O)) λm=>ZR<|ZV (.tuple #[Le m,.int .i64 0]) (λj p h=>⟨m,rfl,p,λu k1 k2=>Qf.mono (h u k1 k2).2 Y⟩)
end
theorem sd{s sa d da:Int}(c:0<=s)(h:s<=sa)(g:0<=d)(k:d<=da):(2*d<=da->0<=s*d/\2*(s*d)<=sa*da)/\(da<2*d->0<=(da-d)*(sa-s)/\2*((da-d)*(sa-s))<=sa*da):=by
 refine⟨λb=>⟨Int.mul_nonneg c g,?_⟩,λb=>⟨Int.mul_nonneg I I,?_⟩⟩
 .have f:=Int.mul_le_mul_of_nonneg_left b c;have j:=Int.mul_le_mul_of_nonneg_right h (show 0<=da by omega);have e:s*(2*d)=2*(s*d):=by rw[<-Int.mul_assoc,Int.mul_comm s 2,Int.mul_assoc]
  omega
 .have f:=Int.mul_le_mul_of_nonneg_right (show 2*(da-d)<=da by omega) (show 0<=sa-s by omega);have j:=Int.mul_le_mul_of_nonneg_left (show sa-s<=sa by omega) (show 0<=da by omega);have e:2*(da-d)*(sa-s)=2*((da-d)*(sa-s)):=Int.mul_assoc _ _ _;have l:da*sa=sa*da:=Int.mul_comm _ _;omega
theorem p_{s sa d da:Int}(b:0<=s)(h:s<=sa)(c:0<=d)(k:d<=da):0<=s*d/\0<=s*da/\0<=d*sa/\s*d<=s*da/\s*d<=d*sa/\s*da<=sa*da/\d*sa<=sa*da/\s*da+d*sa-s*d<=sa*da:=by
 have j:=Int.mul_nonneg b c;have p:=Int.mul_nonneg b (show 0<=da by omega);have e:=Int.mul_nonneg c (show 0<=sa by omega);have f:=Int.mul_le_mul_of_nonneg_left k b;have l:=Int.mul_le_mul_of_nonneg_left h c;have m:=Int.mul_le_mul_of_nonneg_right h (show 0<=da by omega);have o:=Int.mul_le_mul_of_nonneg_right k (show 0<=sa by omega);have w:=Int.mul_nonneg (show 0<=sa-s by omega) (show 0<=da-d by omega);have v:d*s=s*d:=Int.mul_comm _ _;have u:da*sa=sa*da:=Int.mul_comm _ _;have t:(sa-s)*(da-d)=sa*da-sa*d- (s*da-s*d):=by rw[Int.sub_mul,Int.mul_sub,Int.mul_sub]
 have g:sa*d=d*sa:=Int.mul_comm _ _;omega
def G7(r g b:Int):Int:=min r (min g b)
def EH(r g b:Int):Int:=max r (max g b)
def lum(r g b:Int):Int:=30*r+59*g+11*b
structure VR(a r g b:Int):Prop where
 r:0<=r/\r<=a
 g:0<=g/\g<=a
 b:0<=b/\b<=a
theorem VR.lum{a r g b:Int}(h:VR a r g b):0<=lum r g b/\lum r g b<=100*a:=by
 obtain⟨f,e,c⟩:=h;unfold Go.Proofs.YtoakjcolbjifnaaGreatDoor.lum;omega
theorem VR.sat{a r g b:Int}(h:VR a r g b):0<=EH r g b-G7 r g b/\EH r g b-G7 r g b<=a:=by
 obtain⟨f,e,c⟩:=h;unfold EH G7;omega
theorem bY{a m lo hi l L S x:Int}(A:m=hi-lo)(u:11*m<=l-100*lo)(p:11*m<=100*hi-l)(j:0<=L/\L<=100*a)(g:0<=S/\S<=a)(v:lo<=x/\x<=hi):
 (L*m-S*(l-100*lo)<0->0<=L*(x-lo)/\L*(x-lo)<=a*(l-100*lo))/\
 (0<=L*m-S*(l-100*lo)->100*m*S+(L*m-S*(l-100*lo))>100*a*m->0<=a*(100*hi-l)- (100*a-L)*(hi-x)/\a*(100*hi-l)- (100*a-L)*(hi-x)<=a*(100*hi-l))/\
 (0<=L*m-S*(l-100*lo)->¬100*m*S+(L*m-S*(l-100*lo))>100*a*m->0<=100*(x-lo)*S+(L*m-S*(l-100*lo))/\100*(x-lo)*S+(L*m-S*(l-100*lo))<=a*(100*m)):=by
 obtain⟨f,c⟩:∃f,f=l-100*lo:=⟨_,rfl⟩
 obtain⟨e,b⟩:∃e,e=100*hi-l:=⟨_,rfl⟩
 rw[<-c,<-b];rw[<-c]at u;rw[<-b]at p;have z:f+e=100*m:=I
 refine⟨λh=> ?_,λh s=> ?_,λh s=> ?_⟩
 .have k:=Int.mul_nonneg j.1 (show 0<=x-lo by omega);have k2:=Int.mul_le_mul_of_nonneg_left (show x-lo<=m by omega) j.1;have t:=Int.mul_le_mul_of_nonneg_right g.2 (show 0<=f by omega);omega
 .have k:=Int.mul_nonneg (show 0<=100*a-L by omega) (show 0<=hi-x by omega);have k2:=Int.mul_le_mul_of_nonneg_left (show hi-x<=m by omega) (show 0<=100*a-L by omega);have t:=Int.mul_le_mul_of_nonneg_right g.2 (show 0<=e by omega);have y:(100*a-L)*m=100*a*m-L*m:=Int.sub_mul _ _ _;have w:S*e=S*(100*m)-S*f:=by rw[<-Int.mul_sub];congr 1;omega
  have o:S*(100*m)=100*m*S:=Int.mul_comm _ _;omega
 .have k:=Int.mul_nonneg (show 0<=100*(x-lo) by omega) g.1;have k2:=Int.mul_le_mul_of_nonneg_right (show 100*(x-lo)<=100*m by omega) g.1;have o:a*(100*m)=100*a*m:=by rw[<-Int.mul_assoc,Int.mul_comm a 100]
  omega
theorem fw{B a n d:Int}(f:0<=B)(c:0<d)(h:0<=n/\n<=a*d):0<=(2*(B*d+n)+255*d).tdiv (510*d)/\(2*(B*d+n)+255*d).tdiv (510*d)<=(B+a+127)/255:=by
 have j:=Int.mul_nonneg f (Int.le_of_lt c);have b:0<=2*(B*d+n)+255*d:=I
 rw[Int.tdiv_eq_ediv_of_nonneg b];refine⟨Int.ediv_nonneg b I,?_⟩;have e:(2*(B+a)+255)*d=2*(B*d+a*d)+255*d:=by rw[Int.add_mul,Int.mul_assoc,Int.add_mul]
 have g:(2*(B*d+n)+255*d)/(510*d)<=((2*(B+a)+255)*d)/(510*d):=Int.ediv_le_ediv I (by rw[e];omega);rw[Int.mul_ediv_mul_of_pos_left _ _ c]at g;omega
theorem jw{sa da:Nat}(h:sa<=255)(k:da<=255):sa*(255-da)+da*(255-sa)+sa*da<=65025:=by
 have s:sa*(255-da)=sa*255-sa*da:=Nat.mul_sub _ _ _;have p:da*(255-sa)=da*255-da*sa:=Nat.mul_sub _ _ _;have m:da*sa=sa*da:=AY _ _;have j:=Nat.mul_le_mul_left sa k;have t:=AC da h;have u:(255-sa)*(255-da)+(255*da+sa*255)=65025+sa*da:=by
  obtain⟨x,f⟩:∃x,255=sa+x:=⟨255-sa,by omega⟩
  obtain⟨y,g⟩:∃y,255=da+y:=⟨255-da,by omega⟩
  have c:255-sa=x:=I
  have b:255-da=y:=I
  rw[c,b];have e:(sa+x)*(da+y)=65025:=by rw[<-f,<-g]
  have o:255*da=sa*da+x*da:=by rw[<-AR,<-f]
  have l:sa*255=sa*da+sa*y:=by rw[<-Nat.mul_add,<-g]
  rw[AR,Nat.mul_add,Nat.mul_add]at e;omega
 omega
def D_(n m k:Nat):Nat:=WP (n*(255-k)+m*k)
def Px.lerp(p q:Px)(k:Nat):Px:=⟨D_ p.r q.r k,D_ p.g q.g k,D_ p.b q.b k,D_ p.a q.a k⟩
theorem Ie{n m a b k:Nat}(h:n<=a)(c:m<=b):D_ n m k<=D_ a b k:=J2 (Nat.add_le_add (AC _ h) (AC _ c))
theorem u6{p:Px}(h:p.clamp=p):p.r<=p.a/\p.g<=p.a/\p.b<=p.a:=by
 have f:=congrArg Px.r h;have e:=congrArg Px.g h;have c:=congrArg Px.b h;simp only[Px.clamp]at f e c;omega
structure Px.fineO(o:Bool)(p:Px):Prop where
 cl:p.clamp=p
 ok:p.ok
 op:o=true->p.a=255
theorem vH{o:Bool}{p q:Px}{k:Nat}(l:k<=255)(h:p.fineO o)(b:q.fineO o):(p.lerp q k).fineO o where
 cl:=by
  obtain⟨j,g,c⟩:=u6 h.cl;obtain⟨b1,b2,f⟩:=u6 b.cl;exact u7 (Ie j b1) (Ie g b2) (Ie c f)
 ok:=⟨Vs _,Vs _,Vs _,Vs _⟩
 op:=λe=>by
  show D_ p.a q.a k=255;rw[h.op e,b.op e];unfold D_ WP EC;omega
theorem LE{sa:Nat}(h:sa<=255):R9 sa 255=255:=by unfold R9 WP EC;omega
theorem dr{sa da:Nat}:R9 sa da<=255:=Vs _
def sO(t:XX)(s:YI)(l h m:Int):Sem Next:=Instr.sliceAt t s (some (.int .i64 l)) (some (.int .i64 h)) (some (.int .i64 m)) >>= λv=>pure (.value v)
def tw(t:XX)(s:YI)(h m:Int):Sem Next:=Instr.sliceAt t s none (some (.int .i64 h)) (some (.int .i64 m)) >>= λv=>pure (.value v)
section
variable{w u:YM}{ad:XR}{n c i k:Nat}
theorem kJ{P:YH}{t e:XX}{f:Nat}(g:P.underlying t=some (.slice e))(b:P.elem t=e)(l:Mq P e=some f)(p:i+k<=c)(s:0<k):(sO t (.slice (some ad) n c) i ((i+k:Nat):Int) ((i+k:Nat):Int)).run P w= .ok (.value (.slice (some (ad.add (i*f))) k k)) w:=by
 have o:=run_slice_lhm (P:=P) w t (some ad) n c (by rw[b];exact g) .i64 .i64 .i64 (i:Int) ((i+k:Nat):Int) ((i+k:Nat):Int) I I I I;have m:=run_sliceAt_slice (P:=P) w t (.slice (some ad) n c) (some (.int .i64 (i:Int))) (some (.int .i64 ((i+k:Nat):Int))) (some (.int .i64 ((i+k:Nat):Int))) (by rw[b];exact g);simp only[sO,AM,m,o,b,Lb l,AL,AX];have j:(((i+k:Nat):Int)).toNat=i+k:=BE _;have h:(i:Int).toNat=i:=BE _;rw[j,h];unfold sliced;rw[YT I,Nat.add_sub_cancel_left];rfl
theorem jc{P:YH}{t e:XX}{f:Nat}(g:P.underlying t=some (.slice e))(b:P.elem t=e)(j:Mq P e=some f)(o:k<=c)(p:0<k):(tw t (.slice (some ad) n c) k k).run P w= .ok (.value (.slice (some (ad.add (0*f))) k k)) w:=by
 have m:=run_slice_hm (P:=P) w t (some ad) n c (by rw[b];exact g) .i64 .i64 (k:Int) (k:Int) I I I;have l:=run_sliceAt_slice (P:=P) w t (.slice (some ad) n c) none (some (.int .i64 (k:Int))) (some (.int .i64 (k:Int))) (by rw[b];exact g);simp only[tw,AM,l,m,b,Lb j,AL,AX];have h:(k:Int).toNat=k:=BE _;rw[h];unfold sliced;rw[YT I];rfl
theorem Kk.part{α:Type}{s:Nat}{cl:α->List YI}{l:List α}(h:Kk w (Option.some ad) n s cl l)(o:i+k<=n):Kk w (Option.some (ad.add (i*s))) k s cl ((l.drop i).take k):=by
 refine⟨by rw[BA,BQ,h.1];omega,λj x b=>⟨_,rfl,λq v f=> ?_⟩⟩;rw[CE]at b;split at b
 .rw[List.getElem?_drop]at b;obtain⟨g,e,m⟩:=h.2 (i+j) x b;injection e with e;subst e;have:=m q v f;rw[X4]at this;rw[X4,X4,show i*s+(j*s+q)=(i+j)*s+q by rw[AR];omega];exact this
 .cases b
end
theorem iq{f:Nat->Nat}{l:List Nat}{i x:Nat}(b:l[i]? =some x):((l.take i).map f++l.drop i).set i (f x)=(l.take (i+1)).map f++l.drop (i+1):=by
 have hi:=(AN.1 b).1;have c:((l.take i).map f).length=i:=by rw[AO,BA];omega
 rw[N3 b,List.set_append_right _ _ I,c,Nat.sub_self,L7 b,BC,List.append_assoc];rfl
section
variable{w u:YM}{R:Rc}{K K1 K2:Nat->Prop}{x y:Int}{m:MV}{k k2 N g n c:Nat}{z:YZ}{ad:XR}{bs:List Nat}
theorem q_(j:K8 w g [.int .u8 (k2:Int)])(e:k2<=255)(f:k<=255):Ca 162 #[.int .u8 k,Kp g] w (CU w (.int .u8 (Al k k2:Nat))):=uf func162 rfl<|ZR<|ZA (Ke 5 ⟨g,0,none⟩) (.int .u8 k2) (λl b h=>Kh O (by have:=(j.below b).range 0 _ rfl;simpa using this))<|ZC (λl b h=>I8 f e) λm=>ZW (.int .u8 (Al k k2:Nat))
theorem rx(E:Kk w (some ad) n 1 Jf bs)(H:n<=1000000)(B:N<=w.heap.size):Ca 216 #[.slice (some ad) n c] w (K4 w (λy:YZ=> .slice y.1 n y.2) λy u=>K6 u N 5 1 y.1 n y.2 (bs.flatMap Jf)):=by
 refine uf func216 rfl<|ZR<|ZI false<|uk (Lr 108 0 #[]) (λy:YZ=> .slice y.1 0 y.2) (λy u=>K6 u w.heap.size 5 1 y.1 0 y.2 []) O (λe f h=>GC O f.size) λg=>ZS 2 ?_
 refine uA (L:=bl g.1) (val:=λ(z:YZ)=> .slice z.1 n z.2) (Φ':=λ(z:YZ) v=>K6 v w.heap.size 5 1 z.1 n z.2 (bs.flatMap Jf)) (G:=λ(z:YZ) v=>K6 v w.heap.size 5 1 z.1 n z.2 (bs.flatMap Jf)) (My 108 108 (.slice g.1 0 g.2) (.slice (some ad) n c)) (λe f h=>by
  have o:Mt e e.heap.size 1 (some ad) n (bs.flatMap Jf):=by have:=Kk.reads (Kk.below E f) Cr Zd;exact this
  have:=M2 (P:=XM) (s:=1) (z:= .int .u8 0) (bytes:=1) (m:=n) (cc:=c) (t:=108) (elem:=5) O O rfl Zd h.2 f.size o (by intro v p;obtain⟨b,_,p⟩:=List.mem_flatMap.1 p;exact Gh b v p) I Zd;rw[CI,BN]at this;exact this) (λe h b l=>⟨(h.2.lt b l).1,(h.2.blk b l).2⟩) (λz' F e Z J h D=>D) O O (λz'=> ?_)
 refine ZR<|ZV (.slice z'.1 n z'.2) (λe f h=>⟨z',rfl,f,λj A k2=>(h j A k2).rebase λb l=>AH B ((h j A k2).lt b l).1⟩)
theorem mw:Ca 216 #[.slice none 0 0] w (CU w (.slice none 0 0)):=uf func216 rfl<|ZR<|ZI true<|ZW (.slice none 0 0)
theorem lv(F:O4 R)(hm:Zw w R K1 m)(B:K8 w g [.int .u8 (k2:Int)])(Y:k2<=255)(hK:∀a,a<=255->K1 a->K (Al a k2))(hN:N<=w.heap.size):
 Ca 161 #[Le m,.func (.func 162) #[] #[Kp g]] w (K4 w (λm:MV=> .tuple #[Le m,.int .i64 0]) λm u=>Qf N R K m u):=by
 have Z:=F.n;cases hm with
 |nil h0=>
  refine uf func161 rfl<|ZR<|ZC (λl j h=>T4 (m:=T9) F (.nil h0)) λv=>ZI false<|ZC (λl j h=>mw) λq=>uR O<|ZR<|ZI false<|ZV (.tuple #[Le T9,.int .i64 0]) (λl j h=>⟨T9,rfl,j,λu k1 k2=> .nil (by have:=hK 0 (AD _) h0;rwa [eB]at this) rfl⟩)
 | row z bs E X o=>
  obtain⟨zA,H⟩:=z;have W:bs.length=R.n:=E.1;obtain⟨b0,Q⟩:∃v,bs[0]? =some v:=⟨_,AB I⟩
  obtain⟨ad,hA,_⟩:=E.2 0 b0 Q;obtain rfl:zA=some ad:=hA;have M:Kk w (some (ad.add (0*1))) R.n 1 Jf bs:=by
   have:=E.part (i:=0) (k:=R.n) I;rwa [CL,AI I]at this
  refine uf func161 rfl<|ZR<|ZC (λl j h=>T4 (m:=Mp R (some ad,H)) F (.row (some ad,H) bs (E.below j) X o)) λv=>uu false O<|ZS 8<|ZA (tw 108 (.slice (some ad) R.n H) (R.n:Nat) (R.n:Nat)) (.slice (some (ad.add (0*1))) R.n R.n) (λl j h=>jc (e:=5) O O O X (by have:=F.n;omega))<|ZC (λl j h=>rx (c:=R.n) (N:=w.heap.size) (M.below j) I j.size) λq=>um (p:=∃gq,q.1=some ⟨gq,0,none⟩) (λl j h=>by obtain⟨gq,h1,_⟩:=h.2.cells Z.1;exact⟨gq,h1⟩) O (λU=> ?_)
  obtain⟨gq,U⟩:=U;obtain⟨qA,A⟩:=q;obtain rfl:qA=some ⟨gq,0,none⟩:=U;refine uj (ι:={i:Nat // i<=R.n}) 41 (λi=>⟨[vV 1 (.func (.func 162) #[] #[Kp g]),(2,.p 2 0),(4,.p 4 0),vI 5 0,vS 6 (some ⟨gq,0,none⟩) R.n A,vS 23 (some ⟨gq,0,none⟩) R.n A,vI 24 (R.n:Nat),vI 25 (i.1:Nat)],[(2,(Ob (Mp R (some ad,H))).map .v),(4,(Ob T9).map .v)]⟩) (λi u=>K6 u w.heap.size 5 1 (some ⟨gq,0,none⟩) R.n A (((bs.take i.1).map (λb=>Al b k2)++bs.drop i.1).flatMap Jf)) (λi=>R.n-i.1) (⟨0,AD _⟩) O Zf Zt (λu h=>h.2) ?_;rintro⟨i,hi⟩ gg;have hi:i<=R.n:=hi;have S:((bs.take i).map (λb=>Al b k2)++bs.drop i).length=R.n:=by rw[AK,AO,BA,BQ];omega
  by_cases s:i<R.n
  case neg=>
   obtain rfl:i=R.n:=I
   have e:(bs.take R.n).map (λb=>Al b k2)++bs.drop R.n=bs.map λb=>Al b k2:=by rw[AI I,BG I,CJ]
   refine ZR<|YN ((R.n:Int)<(R.n:Int))<|ug O<|ZR<|ZV (.tuple #[Le (Mp R (some ⟨gq,0,none⟩,A)),.int .i64 0]) (λl j h=>⟨Mp R (some ⟨gq,0,none⟩,A),rfl,j,λu k1 k2=> .row (some ⟨gq,0,none⟩,A) (bs.map λb=>Al b _) (by have:=h u k1 k2;rw[e]at this;exact this.rebase λb B=>AH hN (this.lt b B).1) (by rw[AO,W]) (λb B=>by obtain⟨a,wJ,rfl⟩:=CM.1 B;exact⟨Rq (o a wJ).1 Y,hK a (o a wJ).1 (o a wJ).2⟩) rfl⟩)
  obtain⟨x,T⟩:∃v,bs[i]? =some v:=⟨_,AB I⟩
  have wI:((bs.take i).map (λb=>Al b k2)++bs.drop i)[i]? =some x:=by
   rw[BV (by rw[AO,BA];omega),AO,BA,List.getElem?_drop,AU I,Nat.sub_self,CN];exact T
  have J:=o x (AF T);refine ZR<|YL ((i:Int)<(R.n:Int))<|ZA (Kd 108 (.slice (some ⟨gq,0,none⟩) R.n A) i) (.pointer (some ⟨gq,i*1,none⟩)) (λl j h=>Kc (elem:=5) O O s)<|ZA (Ke 5 ⟨gq,i*1,none⟩) (.int .u8 x) (λl j h=>Kh O (by obtain⟨_,e,D⟩:=h.cells Z.1;injection e with e;injection e with e;subst e;exact D _ _ (Mr Cr _ i x 0 _ wI rfl)))<|ZC (λl j h=>q_ (B.below j) Y J.1) λv2=>ZA (Kd 108 (.slice (some ⟨gq,0,none⟩) R.n A) i) (.pointer (some ⟨gq,i*1,none⟩)) (λl j h=>Kc (elem:=5) O O s) ?_
  refine ur (L:=[gq]) (G:=λu=>K6 u w.heap.size 5 1 (some ⟨gq,0,none⟩) R.n A (((bs.take (i+1)).map (λb=>Al b k2)++bs.drop (i+1)).flatMap Jf)) (Φ':=λu=>K6 u w.heap.size 5 1 (some ⟨gq,0,none⟩) R.n A (((bs.take (i+1)).map (λb=>Al b k2)++bs.drop (i+1)).flatMap Jf)) (Om 5 ⟨gq,i*1,none⟩ (.int .u8 (Al x k2:Nat))) (λl j h=>by
   have:=h.1.setE (P:=XM) (t:=5) (v:= .int .u8 (Al x k2:Nat)) (i:=i) (x:=Al x k2) Cr (by rw[S];exact s) rfl O (Gh _);rw[iq (f:=λb=>Al b k2) T]at this;exact this) (λu h b B=>by obtain rfl:=AE.1 B;exact⟨(h.1.lt b (by simp[bl])).1,(h.1.blk b (by simp[bl])).2⟩) (λwa u e1 e2 h hG=>hG) O O ?_
  refine ZR<|YA 25 i s<|ui (⟨i+1,s⟩) O Zn Zt (λu h=>h)
theorem H9(o:O4 R)(t:Zw w R K1 m)(j:k2<=255)(s:∀a,a<=255->K1 a->K (Al a k2))(l:N<=w.heap.size):
 Ca 111 #[Le m,.int .u8 k2] w (K4 w (λm:MV=> .tuple #[Le m,.int .i64 0]) λm u=>Qf N R K m u):=by
 refine uf func111 rfl<|ZR<|uy (val:=λm:MV=> .tuple #[Le m,.int .i64 0]) (G:=λm u=>Qf w.heap.size R K m u) (xs:=[.v (Le m),.f 162 [(3,0)]]) O (λβ A b h p=>lv o (t.below b) (Kz p (k:=3) (by simp[AV.ids]) (cs:=[.v (.int .u8 (k2:Int))]) O) j s b.size) λq=>ZR<|ZV (.tuple #[Le q,.int .i64 0]) (λA b h=>⟨q,rfl,b,λu e k2=>Qf.mono (h u e k2).2 l⟩)
end
def Nm(P:Px->Prop)(p:Px):Prop:=(p.clamp=p/\p.ok)/\P p
abbrev mE(P:Px->Prop):={p:Px // Nm P p}
def Xm(w:YM)(R:Rc)(P:Px->Prop)(z:YZ):Prop:=∃ps:List Px,Kk w z.1 R.n 4 S0 ps/\R.n<=z.2/\∀p∈ps,Nm P p
def Ag(N:Nat)(R:Rc)(P:Px->Prop)(z:YZ)(u:YM):Prop:=∃ps:List Px,K6 u N 38 4 z.1 R.n z.2 (ps.flatMap S0)/\ps.length=R.n/\∀p∈ps,Nm P p
inductive jz(u:YM)(R:Rc):MV->Prop
 |nil:jz u R T9
 |row (z:YZ) (P:Px->Prop) (h:Xm u R P z):jz u R (Mp R z)
theorem Vg:∀p,(S0 p).length=4:=λ_=>rfl
theorem Bz:∀p:Px,∀v∈S0 p,v.oneCell'=true:=λp v b=>by simp[S0]at b;rcases b with rfl|rfl|rfl|rfl<;>rfl
section
variable{w u:YM}{R:Rc}{P Q:Px->Prop}{x y:Int}{m:MV}{k N g n c:Nat}{z z2:YZ}{A:YY}{L:List Px}{M:List MV}{p:Px}{ad:XR}{F:XU}{caps:List YI}
theorem Xm.below{b:YM}(h:Xm w R P z)(f:Below w.heap.size w b):Xm b R P z:=by
 obtain⟨ps,l,j,e⟩:=h;exact⟨ps,l.below f,j,e⟩
theorem Ag.toP(h:Ag N R P z u):Xm u R P z:=by
 obtain⟨ps,b,f,e⟩:=h;exact⟨ps,(K6.reads b).rows (cl:=S0) (l:=ps) Vg f,K6.cap b,e⟩
theorem Ag.mono(h:Ag N R P z u){B:Nat}(j:B<=N):Ag B R P z u:=by
 obtain⟨ps,e,l,f⟩:=h;exact⟨ps,K6.rebase e λb o=>AH j (K6.lt e b o).1,l,f⟩
theorem Nm.imp(h:Nm P p)(k:(p.clamp=p/\p.ok)->P p->Q p):Nm Q p:=⟨h.1,k h.1 h.2⟩
theorem Xm.imp(h:Xm w R P z)(k:∀p,(p.clamp=p/\p.ok)->P p->Q p):Xm w R Q z:=by
 obtain⟨ps,f,e,b⟩:=h;exact⟨ps,f,e,λp j=>(b p j).imp (k p)⟩
theorem Ag.imp(h:Ag N R P z u)(k:∀p,(p.clamp=p/\p.ok)->P p->Q p):Ag N R Q z u:=by
 obtain⟨ps,f,e,b⟩:=h;exact⟨ps,f,e,λp j=>(b p j).imp (k p)⟩
theorem jz.below{b:YM}(h:jz w R m)(e:Below w.heap.size w b):jz b R m:=by
 cases h with
 |nil=>exact .nil
 |row z P h=>exact .row z P (h.below e)
theorem ML{i:Nat}(b:A=some ad)(hi:i<n):(Kd 31 (.slice A n c) i).run XM w= .ok (.value (.pointer (some (ad.add (i*4))))) w:=by
 rw[b];exact L9 (elem:=38) O O hi
theorem So(h:∀(j:Nat) (v:YI),(S0 p)[j]? =some v->w.cell? (ad.add j)=some v):(Ke 38 ad).run XM w= .ok (.value (Ls p)) w:=
 Mh (vs:=S0 p) O O h
theorem XK(b:p.clamp=p):Ca 18 #[Ls p] w (CU w (.bool false)):=uf func18 rfl<|ZR<|ZC (λf e h=>KP b) λv=>ZW (.bool false)
theorem ft(l:Kk w A n 4 S0 L)(E:n<=1000000)(B:∀p∈L,p.clamp=p):Ca 36 #[.slice A n c,.func (.func 18) #[] #[]] w (CU w (.int .i64 (-1))):=by
 refine uf func36 rfl<|ZR<|uj (ι:={q:Nat // q<=n}) 19 (λq=>⟨[vS 0 A n c,vV 1 (.func (.func 18) #[] #[]),vI 7 n,vI 8 q.1],[]⟩) (λq u=>True) (λq=>n-q.1) (⟨0,AD _⟩) O Zf Zt (λu h=>trivial) ?_
 rintro⟨i,hi⟩ G
 by_cases b:i<n
 case neg=>
  obtain rfl:i=n:=I
  exact ZR<|YN ((i:Int)<(i:Int))<|ug O<|ZR<|ZW (.int .i64 (-1))
 obtain⟨p,o⟩:∃v,L[i]? =some v:=⟨_,AB (by rw[l.1];exact b)⟩
 obtain⟨ad,s,t⟩:=l.2 i p o;refine ZR<|YL ((i:Int)<(n:Int))<|ZA (Kd 31 (.slice A n c) i) (.pointer (some (ad.add (i*4)))) (λf e h=>ML s b)<|ZA (Ke 38 (ad.add (i*4))) (Ls p) (λf e h=>So λj v D=>L5 e (t j v D))<|ZC (λf e h=>XK (B p (AF o))) λu=>ZI false<|YA 8 i b<|ui (⟨i+1,b⟩) O Zn Zt (λu h=>trivial)
theorem SH(f:Kk w A n 4 S0 L)(e:n<=1000000)(b:∀p∈L,p.clamp=p):Ca 17 #[.slice A n c,.func (.func 18) #[] #[]] w (CU w (.bool false)):=uf func17 rfl<|ZR<|ZC (λl j h=>ft (c:=c) (f.below j) e b) λu=>ZW (.bool false)
theorem Kk.nil0{α:Type}{s:Nat}{cl:α->List YI}:Kk w none 0 s cl []:=⟨rfl,λk x b=>by cases b⟩
theorem V3(j:O4 R)(t:jz w R m):Ca 8 #[Le m] w (CU w (.bool true)):=by
 have v:=j.n;refine uf func8 rfl<|ZR ?_
 cases t with
 |nil=>
  exact ZC (λf b h=>JE) λa=>ZD 5 (λf b h=>Ph) λc=>ZB 5 (cS 30 (.tmp 9) (.tmp 11) (Pw 0 0 0 0) (Pw 0 0 0 0)) (.bool false) (λf b h=>Ww)<|ZI false<|ZC (λf b h=>SH (c:=0) (L:=[]) Kk.nil0 Zd nofun) λe=>ZW (.bool true)
 |row z P h=>
  obtain⟨ps,o,B,l⟩:=h;exact ZC (λf b h=>Y5 j) λa=>ZD 5 (λf b h=>Oy j.r) λc=>us 5 (cS 30 (.tmp 9) (.tmp 11) R.V R.V) (.bool false) O (λf b h=>Ww)<|ZS 9<|YG 15 ((R.n:Int)>65536) I<|ZJ (((R.n:Int) !=(R.n:Int))) false (bne_self_eq_false _)<|ZC (λf b h=>SH (c:=z.2) (o.below b) I λp s=>(l p s).1.1) λe=>ZW (.bool true)
theorem No(t:O4 R)(hi:R.In x y)(s:Xm w R P z):Ca 38 #[Le (Mp R z),.int .i64 x,.int .i64 y] w (K4 w (λp:mE P=>Ls p.1) λ_ _=>True):=by
 obtain⟨ps,l,H,G⟩:=s;refine uf func38 rfl<|ZR<|ZC (λf e h=>fk t hi) λi=> ?_
 obtain⟨i,b⟩:=i;obtain⟨p,o⟩:∃v,ps[i]? =some v:=⟨_,AB (by rw[l.1];exact b)⟩
 obtain⟨ad,B,D⟩:=l.2 i p o;refine YN ((i:Int)<0)<|ZA (Kd 31 (.slice z.1 R.n z.2) i) (.pointer (some (ad.add (i*4)))) (λf e h=>ML B b)<|ZA (Ke 38 (ad.add (i*4))) (Ls p) (λf e h=>So λj v E=>L5 e (D j v E))<|ZV (Ls p) (λf e h=>⟨⟨p,G p (AF o)⟩,rfl,e,Zv⟩)
theorem qy(f:O4 R)(hi:R.In x y)(e:Xm w R P z):Ca 25 #[Le (Mp R z),.int .i64 x,.int .i64 y] w (K4 w (λp:mE P=>Ls p.1) λ_ _=>True):=by
 refine uf func25 rfl<|ZR<|ZC (λl b h=>V3 f (.row z P (e.below b))) λv=>ZI false<|ZC (λl b h=>No f hi (e.below b)) λj=>ZV (Ls j.1) (λl b h=>⟨j,rfl,b,Zv⟩)
theorem oB{x y:YI}(f:Nm P p)(j:K8 w g (S0 p)):Ca 42 #[x,y,Kp g] w (K4 w (λp:mE P=>Ls p.1) λ_ _=>True):=by
 have l:∀b,Ca 14 #[Ls p] b (CU b (Ls p)):=λb=>by
  have:=Tu (w:=b) (p:=p);rwa [f.1.1]at this
 refine uf func42 rfl<|ZR<|ZA (Ke 38 ⟨g,0,none⟩) (Ls p) (λb e h=>Ka (vs:=S0 p) O O (j.below e).range)<|ZC (λb e h=>l b) λc=>ZV (Ls p) (λb e h=>⟨⟨p,f⟩,rfl,e,Zv⟩)
theorem IS(E:O4 R)(U:(F=42/\∃g,caps=[Kp g])\/(F=163/\∃g T S g4,caps=[Kp g,Kp T,Kp S,Kp g4])\/(F=82/\∃g T S,caps=[Kp g,Kp T,Kp S]))
 (hf:∀s x y,Below w.heap.size w s->R.In x y->Ca F ([BK .i64 x,BK .i64 y]++caps).toArray s (K4 s (λp:mE P=>Ls p.1) λ_ _=>True)) (hN:N<=w.heap.size):
 Ca 41 #[R.V,.func (.func F) #[] caps.toArray] w (K4 w (λz:YZ=>Le (Mp R z)) λz u=>Ag N R P z u):=by
 have hx:=E.x;have hy:=E.y;have hW:=E.W;have hH:=E.H;have hn:=E.n;obtain⟨FV,D⟩:∃FV,FV=Value.func (.func F) #[] caps.toArray:=⟨_,rfl⟩
 rw[<-D];rcases U with ⟨U,g,Z⟩|⟨U,g,T,S,g4,Z⟩|⟨U,g,T,S,Z⟩<;>
 (
  have wJ:=hf;rw[U,Z]at wJ D;refine uf func41 rfl<|ZR<|ZC (λs B h=>Oy E.r) λc=>uh 6 (.int .i64 R.y) (.int .i64 (R.y+((0:Nat):Int))) O (by show _=BK .i64 (R.y+0);rw[Int.add_zero])<|uj (ι:={q:(Nat×Nat)×(YZ)×List Px // (q.1.1<=R.H/\q.1.2=q.1.1*R.W)/\q.2.2.length=q.1.2/\∀b∈q.2.2,Nm P b}) 41 (λq=>⟨[vV 1 FV,(4,.p 4 0),(5,.p 5 0),vI 6 (R.y+(q.1.1.1:Int))],[(4,(Ob T9).map .v),(5,(Ob ⟨R.x,R.y,R.x+R.W,R.y+R.H,q.1.2.1.1,q.1.1.2,q.1.2.1.2⟩).map .v)]⟩) (λq u=>K6 u w.heap.size 38 4 q.1.2.1.1 q.1.1.2 q.1.2.1.2 (q.1.2.2.flatMap S0)) (λq=>R.H-q.1.1.1) (⟨((0,0),(none,0),[]),⟨AD _,by rw[BR]⟩,rfl,nofun⟩) O Zf Zt (λ_ _=>uG) ?_
  rintro⟨⟨⟨j,m⟩,z,bs⟩,⟨hj,Y⟩,X,J⟩ gg;have hj:j<=R.H:=hj;have Y:m=j*R.W:=Y
  by_cases K:j<R.H
  case neg=>
   obtain rfl:j=R.H:=I
   have l:m=R.n:=by rw[Y];exact AY _ _
   subst l;refine ZR<|YN (R.y+(R.H:Int)<R.y+R.H)<|ug O<|ZR<|ZV (Le (Mp R z)) (λs B h=>⟨z,rfl,B,λu k1 k2=>⟨bs,((h u k1 k2).rebase λb hb=>AH hN ((h u k1 k2).lt b hb).1),X,J⟩⟩)
  refine ZR<|YL (R.y+(j:Int)<R.y+R.H)<|uh 7 (.int .i64 R.x) (.int .i64 (R.x+((0:Nat):Int))) O (by show _=BK .i64 (R.x+0);rw[Int.add_zero])<|uj (ι:={q:(Nat×Nat)×(YZ)×List Px // (q.1.1<=R.W/\q.1.2=j*R.W+q.1.1)/\q.2.2.length=q.1.2/\∀b∈q.2.2,Nm P b}) 41 (λq=>⟨[vV 1 FV,(4,.p 4 0),(5,.p 5 0),vI 6 (R.y+(j:Int)),vI 7 (R.x+(q.1.1.1:Int))],[(4,(Ob T9).map .v),(5,(Ob ⟨R.x,R.y,R.x+R.W,R.y+R.H,q.1.2.1.1,q.1.1.2,q.1.2.1.2⟩).map .v)]⟩) (λq u=>K6 u w.heap.size 38 4 q.1.2.1.1 q.1.1.2 q.1.2.1.2 (q.1.2.2.flatMap S0)) (λq=>R.W-q.1.1.1) (⟨((0,m),z,bs),⟨AD _,Y⟩,X,J⟩) O Zf Zt (λ_ h=>h) ?_
  rintro⟨⟨⟨i,o⟩,z2,f⟩,⟨hi,l⟩,e,t⟩ gg2;have hi:i<=R.W:=hi;have l:o=j*R.W+i:=l;have e:f.length=o:=e;have hjw:j*R.W+R.W<=R.n:=by
   have:=AC R.W (show j+1<=R.H from K);rw[AR,Nat.one_mul,AY R.H]at this;exact this
  by_cases wI:i<R.W
  case neg=>
   obtain rfl:i=R.W:=I
   refine ZR<|YN (R.x+(R.W:Int)<R.x+R.W)<|ug O<|ZR<|YB 6 (R.y+(j:Int)+1) (R.y+((j+1:Nat):Int))<|ui (⟨((j+1,o),z2,f),⟨K,by show o=(j+1)*R.W;rw[l,AR,Nat.one_mul]⟩,e,t⟩) O Zn Zt (λ_ h=>h)
  refine ZR<|ul (decide (R.x+(i:Int)<R.x+R.W)) true O (YU I)<|ZS 5<|uh 33 FV _ O D<|ZD 7 (λs B h=>wJ s (R.x+(i:Int)) (R.y+(j:Int)) B (by unfold Rc.In;omega)) λv=> ?_
  obtain⟨k,hk⟩:=v;refine uk (Lr 31 1 #[(0,Ls k)]) (Kr 1) (Kw 38 (S0 k).toArray) O (λs B h=>Kj O) λgb=>ZS 7<|uQ (L:=bl z2.1) (val:=λz':YZ=> .slice z'.1 (o+1) z'.2) (Φ':=λz' u=>K6 u w.heap.size 38 4 z'.1 (o+1) z'.2 ((f++ [k]).flatMap S0)) (G:=λz' u=>K6 u w.heap.size 38 4 z'.1 (o+1) z'.2 ((f++ [k]).flatMap S0)) (My 31 31 (.slice z2.1 o z2.2) (Kr 1 gb)) (λs B h=>U9 (z0:=Ls ⟨0,0,0,0⟩) (bytes:=4) O O rfl Zd Zd rfl (Bz k) h.1.1 B.size h.2 I) (λu h=>h.1.1.blk) (λz' wa u e1 e2 h hG=>hG) O O λz'=>ZR<|YB 7 (R.x+(i:Int)+1) (R.x+((i+1:Nat):Int)) ?_
  refine ui (⟨((i+1,o+1),z',f++ [k]),⟨wI,by show o+1=_;rw[l];rfl⟩,by show(f++ [k]).length=o+1;rw[AK,e];rfl,OI t hk⟩) O Zn Zt (λ_ h=>h))
theorem cf{b e f j:Nat}:Ca 41 #[Pw 0 0 0 0,.func (.func 163) #[] #[Kp b,Kp e,Kp f,Kp j]] w (CU w (Le T9)):=uf func41 rfl<|ZR<|ZC (λo l h=>Ph) λc=>uR O<|ZR<|ZI false<|ZW (Le T9)
theorem OV(e:O4 R)(B:Nm P p)(o:N<=w.heap.size):Ca 29 #[R.V,Ls p] w (K4 w (λz:YZ=> .tuple #[Le (Mp R z),.int .i64 0]) λz u=>Ag N R P z u):=by
 have D:=e.n;refine uf func29 rfl<|ZR<|ZC (λl b h=>Sz e.r.in_) λv=>ZI false<|ZC (λl b h=>Y5 e) λa=>YN ((R.n:Int)>65536)<|uy (val:=λz:YZ=>Le (Mp R z)) (G:=λz u=>Ag w.heap.size R P z u) (xs:=[.v R.V,.f 42 [(3,0)]]) O (λβ l b h t=>IS e (.inl ⟨rfl,_,rfl⟩) (λE x y j _=>oB B (K8.below (Kz t (k:=3) (by simp[AV.ids]) (cs:=(S0 p).map .v) O) j)) b.size) λz=>ZR<|ZV (.tuple #[Le (Mp R z),.int .i64 0]) (λl b h=>⟨z,rfl,b,λu s k2=>Ag.mono (h u s k2).2 o⟩)
theorem bw{i:Nat}{ad:XR}(b:A=some ad)(hi:i<n):(Kd 189 (.slice A n c) i).run XM w= .ok (.value (.pointer (some (ad.add (i*5))))) w:=by
 rw[b];exact L9 (elem:=33) O O hi
theorem j6{ad:XR}(h:∀(j:Nat) (v:YI),(Ob m)[j]? =some v->w.cell? (ad.add j)=some v):(Ke 33 ad).run XM w= .ok (.value (Le m)) w:=
 Mh (vs:=Ob m) O O h
theorem kr(b:O4 R)(f:jz w R m):Ca 127 #[Le m] w (CU w (.bool false)):=uf func127 rfl<|ZR<|ZC (λj e h=>V3 b (f.below e)) λv=>ZW (.bool false)
theorem ak(s:O4 R)(l:Kk w A n 5 Ob M)(H:n<=1000000)(D:∀m∈M,jz w R m):Ca 174 #[.slice A n c,.func (.func 127) #[] #[]] w (CU w (.int .i64 (-1))):=by
 refine uf func174 rfl<|ZR<|uj (ι:={q:Nat // q<=n}) 19 (λq=>⟨[vS 0 A n c,vV 1 (.func (.func 127) #[] #[]),vI 7 n,vI 8 q.1],[]⟩) (λq u=>True) (λq=>n-q.1) (⟨0,AD _⟩) O Zf Zt (λu h=>trivial) ?_
 rintro⟨i,hi⟩ J
 by_cases b:i<n
 case neg=>
  obtain rfl:i=n:=I
  exact ZR<|YN ((i:Int)<(i:Int))<|ug O<|ZR<|ZW (.int .i64 (-1))
 obtain⟨m,o⟩:∃v,M[i]? =some v:=⟨_,AB (by rw[l.1];exact b)⟩
 obtain⟨ad,t,B⟩:=l.2 i m o;have G:=D m (AF o);refine ZR<|YL ((i:Int)<(n:Int))<|ZA (Kd 189 (.slice A n c) i) (.pointer (some (ad.add (i*5)))) (λf e h=>bw t b)<|ZA (Ke 33 (ad.add (i*5))) (Le m) (λf e h=>j6 λj v E=>L5 e (B j v E))<|ZC (λf e h=>kr s (G.below e)) λu=>ZI false<|YA 8 i b<|ui (⟨i+1,b⟩) O Zn Zt (λu h=>trivial)
theorem QG(o:O4 R)(t:Kk w A n 5 Ob M)(s:n<=1000000)(l:∀m∈M,jz w R m):Ca 80 #[.slice A n c] w (CU w (.bool true)):=by
 have j:∀b,Below w.heap.size w b->Ca 126 #[.slice A n c,.func (.func 127) #[] #[]] b (CU b (.bool false)):=λb e=>by
  exact uf func126 rfl<|ZR<|ZC (λb f h=>ak (c:=c) o ((t.below e).below f) s (λm v=>((l m v).below e).below f)) λu=>ZW (.bool false)
 exact uf func80 rfl<|ZR<|ZC (λb f h=>j b f) λu=>ZW (.bool true)
theorem ju{α:Type}{a b:α}{P:α->Prop}(h:P a)(f:P b):∀m∈[a,b],P m:=λm e=>by
 rcases BP.1 e with rfl|e
 .exact h
 .obtain rfl:=AE.1 e;exact f
theorem dq{B:Nat}{acc:List Px}{A2:YY}{m q c2:Nat}{z:YZ}{l:List Px}(j:K6 u B 38 4 z.1 m z.2 (acc.flatMap S0))(D:B<=u.heap.size)(o:Kk u A2 q 4 S0 l)(E:0<q)(G:m+q<=10000000):
 Mv XM u (bl z.1) (λz:YZ=> .slice z.1 (m+q) z.2) (λz v=>K6 v B 38 4 z.1 (m+q) z.2 ((acc++l).flatMap S0)) (My 31 31 (.slice z.1 m z.2) (.slice A2 q c2)):=by
 have e:Mt u u.heap.size 4 A2 q (l.flatMap S0):=by
  exact Kk.reads o Vg Zd
 have h:=M2 (P:=XM) (s:=4) (z:=Ls ⟨0,0,0,0⟩) (bytes:=4) (m:=q) (cc:=c2) (t:=31) (elem:=38) O O rfl Zd j D e (by intro v f;obtain⟨b,_,f⟩:=List.mem_flatMap.1 f;exact Bz b v f) I Zd;rw[List.flatMap_append];exact h
theorem mJ(f:O4 R)(hz:Xm w R P z)(hN:N<=w.heap.size):Ca 57 #[Le (Mp R z),R.V] w (K4 w (λz:YZ=> .tuple #[Le (Mp R z),.int .i64 0]) λz u=>Ag N R P z u):=by
 have hx:=f.x;have hy:=f.y;have hW:=f.W;have hH:=f.H;have hn:=f.n;have X:=hz;obtain⟨ps,l,hcap,Y⟩:=hz;obtain⟨zA,T⟩:=z;have hpl:ps.length=R.n:=l.1;obtain⟨p0,wJ⟩:∃v,ps[0]? =some v:=⟨_,AB I⟩
 obtain⟨ad,hA,_⟩:=l.2 0 p0 wJ;obtain rfl:zA=some ad:=hA;refine uf func57 rfl<|ZR<|ZC (λD o h=>V3 f (.row (some ad,T) P (X.below o))) λv=>ZI false<|ZC (λD o h=>Hk f.r f.r (Um _) (Um _) (Un _) (Un _) f.r) λi=>uh 7 (.int .i64 (XQ.wrap (R.x+R.W-R.x))) (.int .i64 (R.W:Nat)) O (by rw[show R.x+R.W-R.x=(R.W:Int) by omega,AA _ I])<|uh 8 (.int .i64 R.y) (.int .i64 (R.y+((0:Nat):Int))) O (by show _=BK .i64 (R.y+0);rw[Int.add_zero])<|uj (ι:={q:(Nat×Nat)×(YZ)×List Px // (q.1.1<=R.H/\q.1.2=q.1.1*R.W)/\q.2.2.length=q.1.2/\∀b∈q.2.2,Nm P b}) 58 (λq=>⟨[(2,.p 2 0),(4,.p 4 0),vI 5 0,(6,.p 6 0),vI 7 (R.W:Nat),vI 8 (R.y+(q.1.1.1:Int))],[(2,(Ob (Mp R (some ad,T))).map .v),(4,(Ob T9).map .v),(6,(Ob ⟨R.x,R.y,R.x+R.W,R.y+R.H,q.1.2.1.1,q.1.1.2,q.1.2.1.2⟩).map .v)]⟩) (λq u=>K6 u w.heap.size 38 4 q.1.2.1.1 q.1.1.2 q.1.2.1.2 (q.1.2.2.flatMap S0)) (λq=>R.H-q.1.1.1) (⟨((0,0),(none,0),[]),⟨AD _,by rw[BR]⟩,rfl,nofun⟩) O Zf Zt (λ_ _=>uG) ?_
 rintro⟨⟨⟨j,k⟩,z,B⟩,⟨hj,K⟩,s,E⟩ gg;have hj:j<=R.H:=hj;have K:k=j*R.W:=K;have s:B.length=k:=s
 by_cases t:j<R.H
 case neg=>
  obtain rfl:j=R.H:=I
  have U:k=R.n:=by rw[K];exact AY _ _
  subst U;refine ZR<|YN (R.y+(R.H:Int)<R.y+R.H)<|ug O<|ZR<|ZV (.tuple #[Le (Mp R z),.int .i64 0]) (λD o h=>⟨z,rfl,o,λu k1 k2=>⟨B,((h u k1 k2).rebase λb wI=>AH hN ((h u k1 k2).lt b wI).1),s,E⟩⟩)
 have Z:j*R.W+R.W<=R.n:=by
  have:=AC R.W (show j+1<=R.H from t);rw[AR,Nat.one_mul,AY R.H]at this;exact this
 refine ZR<|YL (R.y+(j:Int)<R.y+R.H) ?_
 have S:=K;rw[<-S]at Z;refine ZD 11 (λD o h=>fR (x:=R.x) (y:=R.y+(j:Int)) (i:=0) (j:=j) (k:=k) f I t S I rfl) λix=> ?_
 have ew:XQ.wrap ((k:Int)+(R.W:Int))=((k+R.W:Nat):Int):=by rw[AA _ I];rfl
 refine uh 50 (.int .i64 (XQ.wrap ((k:Int)+(R.W:Int)))) (.int .i64 ((k+R.W:Nat):Int)) O (by rw[ew])<|uh 53 (.int .i64 (XQ.wrap ((k:Int)+(R.W:Int)))) (.int .i64 ((k+R.W:Nat):Int)) O (by rw[ew])<|us 11 (sO 31 (.slice (some ad) R.n T) (k:Nat) ((k+R.W:Nat):Int) ((k+R.W:Nat):Int)) (.slice (some (ad.add (k*4))) R.W R.W) O (λD o h=>kJ (e:=38) O O O I (by have:=f.W;omega))<|ZS 12<|uQ (L:=bl z.1) (val:=λz':YZ=> .slice z'.1 (k+R.W) z'.2) (Φ':=λz' u=>K6 u w.heap.size 38 4 z'.1 (k+R.W) z'.2 ((B++(ps.drop k).take R.W).flatMap S0)) (G:=λz' u=>K6 u w.heap.size 38 4 z'.1 (k+R.W) z'.2 ((B++(ps.drop k).take R.W).flatMap S0)) (My 31 31 (.slice z.1 k z.2) (.slice (some (ad.add (k*4))) R.W R.W)) (λD o h=>dq h.1 o.size ((l.below o).part I) I I) (λu h=>h.1.blk) (λz' wa u e1 e2 h hG=>hG) O O λz'=>ZR<|YB 8 (R.y+(j:Int)+1) (R.y+((j+1:Nat):Int)) ?_
 have J:((ps.drop k).take R.W).length=R.W:=by rw[BA,BQ];omega
 refine ui (⟨((j+1,k+R.W),z',B++(ps.drop k).take R.W),⟨t,by show k+R.W=(j+1)*R.W;rw[S,AR,Nat.one_mul]⟩,by show(B++(ps.drop k).take R.W).length=k+R.W;rw[AK,s,J],λb wI=>(BI.1 wI).elim (E b) λwI=>Y b (List.mem_of_mem_drop (List.mem_of_mem_take wI))⟩) O Zn Zt (λ_ h=>h)
end
section
variable{w:YM}{m:Int}{s sa d da:Int}
structure B4(s sa d da:Int):Prop where
 s:0<=s/\s<=sa
 d:0<=d/\d<=da
 a:sa<=255
 e:da<=255
theorem B4.swap(b:B4 s sa d da):B4 d da s sa:=⟨b.d,b.s,b.e,b.a⟩
theorem B4.top(b:B4 s sa d da):sa*da<=65025:=by
 have f:=Int.mul_le_mul_of_nonneg_left b.e (show 0<=sa from Int.le_trans b.s.1 b.s.2);have c:=b.a;omega
abbrev tO(sa da:Int):={t:Int // 0<=t/\t<=sa*da}
theorem bL(b:B4 s sa d da):Ca 316 #[.int .i64 s,.int .i64 sa,.int .i64 d,.int .i64 da] w (K4 w (λt:tO sa da=> .int .i64 t.1) λ_ _=>True):=by
 obtain⟨l,k⟩:=sd b.s.1 b.s.2 b.d.1 b.d.2;have u:=b.top;have p:=b.s;have k2:=b.d;have x:=b.a;have y:=b.e;have j:XQ.wrap (2*d)=2*d:=AA _ I;have v:=Int.mul_nonneg (show 0<=sa by omega) (show 0<=da by omega);refine uf func316 rfl<|ZR ?_
 by_cases g:2*d<=da
 .have l:=l g;have c:2*s*d=2*(s*d):=Int.mul_assoc _ _ _;refine ZJ (decide (XQ.wrap (2*d)<=da)) true (by rw[j];exact YU g)<|ZV (.int .i64 (XQ.wrap (XQ.wrap (2*s)*d))) (λo f h=>⟨⟨2*(s*d),by omega⟩,by rw[AA (2*s) I,c,AA _ I],f,Zv⟩)
 .have k:=k I;have c:2*(da-d)*(sa-s)=2*((da-d)*(sa-s)):=Int.mul_assoc _ _ _;refine ZJ (decide (XQ.wrap (2*d)<=da)) false (by rw[j];exact YV g)<|ZV (.int .i64 (XQ.wrap (XQ.wrap (sa*da)-XQ.wrap (XQ.wrap (2*XQ.wrap (da-d))*XQ.wrap (sa-s))))) (λo f h=>⟨⟨sa*da-2*((da-d)*(sa-s)),by omega⟩,by rw[AA (da-d) I,AA (sa-s) I,AA (2*(da-d)) I,c,AA (2*((da-d)*(sa-s))) I,AA (sa*da) I,AA _ I],f,Zv⟩)
theorem nQ(f:B4 s sa d da)(F:1<=m/\m<=9):Ca 286 #[.int .i64 m,.int .i64 s,.int .i64 sa,.int .i64 d,.int .i64 da] w (K4 w (λt:tO sa da=> .int .i64 t.1) λ_ _=>True):=by
 obtain⟨o,u,y,z,A,p,B,x⟩:=p_ f.s.1 f.s.2 f.d.1 f.d.2;have E:=f.top;have D:=f.s;have k2:=f.d;have g:XQ.wrap (s*da)=s*da:=AA _ I;have j:XQ.wrap (d*sa)=d*sa:=AA _ I;have k:XQ.wrap (s*d)=s*d:=AA _ I;have v:2*s*d=2*(s*d):=Int.mul_assoc _ _ _;have l:XQ.wrap (XQ.wrap (2*s)*d)=2*(s*d):=by have:=f.a;rw[AA (2*s) I,v,AA _ I]
 rcases(by omega:m=1\/m=2\/m=3\/m=4\/m=5\/m=6\/m=7\/m=8\/m=9)with rfl|rfl|rfl|rfl|rfl|rfl|rfl|rfl|rfl
 .refine uf func286 rfl<|ZR<|uv O (stop:=1000) 6000 _<|ZV (.int .i64 (XQ.wrap (s*da))) (λc b h=>⟨⟨s*da,u,p⟩,by rw[g],b,Zv⟩)
 .refine uf func286 rfl<|ZR<|uv O (stop:=1000) 6000 _<|ZV (.int .i64 (XQ.wrap (s*d))) (λc b h=>⟨⟨s*d,o,by omega⟩,by rw[k],b,Zv⟩)
 .refine uf func286 rfl<|ZR<|uv O (stop:=1000) 6000 _<|ZV (.int .i64 (XQ.wrap (XQ.wrap (XQ.wrap (s*da)+XQ.wrap (d*sa))-XQ.wrap (s*d)))) (λc b h=>⟨⟨s*da+d*sa-s*d,by omega,x⟩,by rw[g,j,k,AA (s*da+d*sa) I,AA _ I],b,Zv⟩)
 .refine uf func286 rfl<|ZR<|uv O (stop:=1000) 6000 _<|ZC (λc b h=>bL f) λt=>ZV (.int .i64 t.1) (λc b h=>⟨t,rfl,b,Zv⟩)
 .refine uf func286 rfl<|ZR<|uv O (stop:=1000) 6000 _<|ZV (.int .i64 (if XQ.wrap (d*sa)<XQ.wrap (s*da)then XQ.wrap (d*sa)else XQ.wrap (s*da))) (λc b h=>⟨⟨if d*sa<s*da then d*sa else s*da,by split<;>omega⟩,by rw[g,j],b,Zv⟩)
 .refine uf func286 rfl<|ZR<|uv O (stop:=1000) 6000 _<|ZV (.int .i64 (if XQ.wrap (d*sa)>XQ.wrap (s*da)then XQ.wrap (d*sa)else XQ.wrap (s*da))) (λc b h=>⟨⟨if d*sa>s*da then d*sa else s*da,by split<;>omega⟩,by rw[g,j],b,Zv⟩)
 .refine uf func286 rfl<|ZR<|uv O (stop:=1000) 6000 _<|ZV (.int .i64 (XQ.wrap ((if XQ.wrap (d*sa)>XQ.wrap (s*da)then XQ.wrap (d*sa)else XQ.wrap (s*da))- (if XQ.wrap (d*sa)<XQ.wrap (s*da)then XQ.wrap (d*sa)else XQ.wrap (s*da))))) (λc b h=>⟨⟨(if d*sa>s*da then d*sa else s*da)- (if d*sa<s*da then d*sa else s*da),by split<;>split<;>omega⟩,by rw[g,j,AA _ (by split<;>split<;>omega)],b,Zv⟩)
 .refine uf func286 rfl<|ZR<|uv O (stop:=1000) 6000 _<|ZV (.int .i64 (XQ.wrap (XQ.wrap (XQ.wrap (s*da)+XQ.wrap (d*sa))-XQ.wrap (XQ.wrap (2*s)*d)))) (λc b h=>⟨⟨s*da+d*sa-2*(s*d),by omega⟩,by rw[g,j,l,AA (s*da+d*sa) I,AA _ I],b,Zv⟩)
 .refine uf func286 rfl<|ZR<|uv O (stop:=1000) 6000 _<|ZC (λc b h=>bL f.swap) λt=>ZV (.int .i64 t.1) (λc b h=>⟨⟨t.1,by have:=t.2;have e:=Int.mul_comm da sa;omega⟩,rfl,b,Zv⟩)
end
section
variable{w:YM}{m:Int}{s sa d da:Nat}{S SA D DA:Int}{p q c e:Px}
theorem PX(B:1<=m/\m<=9)(v:s<=sa)(f:sa<=255)(z:d<=da)(b:da<=255)(u:S=s)(g:SA=sa)(y:D=d)(j:DA=da):Ca 250 #[.int .i64 m,.int .i64 S,.int .i64 SA,.int .i64 D,.int .i64 DA] w (K4 w (λk:{k:Nat // k<=R9 sa da}=> .int .u8 (k.1:Nat)) λ_ _=>True):=by
 subst u;subst g;subst y;subst j;have E:=Nb (show s<=255 by omega) (show 255-da<=255 by omega);have H:=Nb (show d<=255 by omega) (show 255-sa<=255 by omega);have F:=Nb f b;have J:=AC (255-da) v;have G:=AC (255-sa) z;refine uf func250 rfl<|ZR<|ZC (λo l h=>nQ (m:=m) (s:=(s:Int)) (sa:=(sa:Int)) (d:=(d:Int)) (da:=(da:Int)) ⟨by omega,by omega,by omega,by omega⟩ B) λt=> ?_
 obtain⟨t,x⟩:=t;obtain⟨T,rfl⟩:∃T:Nat,t=T:=⟨t.toNat,by omega⟩
 have A:T<=sa*da:=by have:=x.2;rw[<-BM]at this;omega
 refine uh 26 (.int .i64 (XQ.wrap (XQ.wrap (XQ.wrap ((s:Int)*XQ.wrap (255- (da:Int)))+XQ.wrap ((d:Int)*XQ.wrap (255- (sa:Int))))+(T:Int)))) (.int .i64 ((s*(255-da)+d*(255-sa)+T:Nat):Int)) O (by rw[Ra b,Ra f,Te I I,Te I I,Fh I I,Fh I I])<|ZC (λo l h=>E6 (n:=s*(255-da)+d*(255-sa)+T) I) λn=>ZV (.int .u8 (WP (s*(255-da)+d*(255-sa)+T):Nat)) (λo l h=>⟨⟨WP (s*(255-da)+d*(255-sa)+T),J2 I⟩,rfl,l,Zv⟩)
theorem Ql(b:1<=m/\m<=13):Ca 92 #[.int .i64 m] w (CU w (.bool true)):=uf func92 rfl<|ZS 2<|YE 4 (m>=1) I<|ZX (.bool (decide (m<=13))) (by rw[YU I])
theorem lM(b:1<=m):Ca 248 #[.int .i64 m] w (CU w (.bool (decide (m<=9)))):=uf func248 rfl<|ZS 2<|YE 4 (m>=1) I<|ZW (.bool (decide (m<=9)))
end
section
variable{w:YM}{m:Int}{p d:Px}
def rT(d p:Px):Prop:=(p.clamp=p/\p.ok)/\(d.a=255->p.a=255)
theorem bq{S D p:Px}(k:p.r<=R9 S.a D.a)(j:p.g<=R9 S.a D.a)(h:p.b<=R9 S.a D.a)(c:p.a=R9 S.a D.a)(f:S.a<=255)(l:D.a=min d.a d.a):rT d p:=by
 have:=dr (sa:=S.a) (da:=D.a);refine⟨⟨u7 I I I,⟨by omega,by omega,by omega,by omega⟩⟩,λe=> ?_⟩;rw[c,show D.a=255 by omega];exact LE f
theorem fJ(l:1<=m/\m<=9)(y:p.ok)(A:d.ok):Ca 210 #[.int .i64 m,Ls p,Ls d] w (K4 w (λq:{q:Px // rT d q}=>Ls q.1) λ_ _=>True):=by
 obtain⟨S,u⟩:∃S,p.clamp=S:=⟨_,rfl⟩
 obtain⟨D,o⟩:∃D,d.clamp=D:=⟨_,rfl⟩
 have e:=y.clamp;have f:=A.clamp;have ls:=u6 (p:=S) (by rw[<-u];unfold Px.clamp;simp);have ld:=u6 (p:=D) (by rw[<-o];unfold Px.clamp;simp);have t:D.a=min d.a d.a:=by rw[<-o];rfl
 rw[u]at e;rw[o]at f;have z:∀c,Ca 14 #[Ls p] c (CU c (Ls S)):=λc=>by rw[<-u];exact Tu
 have x:∀c,Ca 14 #[Ls d] c (CU c (Ls D)):=λc=>by rw[<-o];exact Tu
 have B:=Nb e.a (show 255-D.a<=255 by omega);have J:=Nb f.a (show 255-S.a<=255 by omega);have H:=Nb e.a f.a;have K:=e.a;have Z:=f.a;have k:∀n:Nat,n<=255->XQ.wrap (n:Int)=n:=λn h=>Fb I
 refine uf func210 rfl<|ZR<|ZC (λc j h=>Ql ⟨l.1,by omega⟩) λv=>ZI false<|ZC (λc j h=>z c) λE=>ZC (λc j h=>x c) λc2=>ZC (λc j h=>lM l.1) λF=>ul ((!decide (m<=9))) false O (by rw[YU l.2];rfl)<|ZS 6<|uh 26 (.int .i64 (XQ.wrap (S.a:Int))) (.int .i64 S.a) O (by rw[k _ e.a])<|ZT 29 (.int .i64 (XQ.wrap (D.a:Int))) (.int .i64 D.a) (by rw[k _ f.a])<|ZC (λc j h=>PX l ls.1 e.a ld.1 f.a (k _ e.r) rfl (k _ f.r) rfl) λs=>ZC (λc j h=>PX l ls.2.1 e.a ld.2.1 f.a (k _ e.g) rfl (k _ f.g) rfl) λr1=>ZC (λc j h=>PX l ls.2.2 e.a ld.2.2 f.a (k _ e.b) rfl (k _ f.b) rfl) λr2=>uh 72 (.int .i64 (XQ.wrap (XQ.wrap (XQ.wrap ((S.a:Int)*XQ.wrap (255- (D.a:Int)))+XQ.wrap ((D.a:Int)*XQ.wrap (255- (S.a:Int))))+XQ.wrap ((S.a:Int)*(D.a:Int))))) (.int .i64 ((S.a*(255-D.a)+D.a*(255-S.a)+S.a*D.a:Nat):Int)) O (by rw[Ra f.a,Ra e.a,Te I I,Te I I,Te I I,Fh I I,Fh I I])<|ZC (λc j h=>E6 (n:=S.a*(255-D.a)+D.a*(255-S.a)+S.a*D.a) I) λG=>ZV (Ls ⟨s.1,r1.1,r2.1,R9 S.a D.a⟩) (λc j h=>⟨⟨⟨s.1,r1.1,r2.1,R9 S.a D.a⟩,bq s.2 r1.2 r2.2 rfl e.a t⟩,rfl,j,Zv⟩)
end
abbrev aW(r g b:Int):YI:= .agg #[.int .i64 r,.int .i64 g,.int .i64 b]
structure sJ where
 r:Int
 g:Int
 b:Int
 S:Int
 L:Int
abbrev nD(c:sJ)(a:Int):YI:= .agg #[.int .i64 c.r,.int .i64 c.g,.int .i64 c.b,.int .i64 c.S,.int .i64 c.L,.int .i64 a]
structure dK(c:sJ)(a:Int):Prop where
 i:VR a c.r c.g c.b
 S:0<=c.S/\c.S<=a
 L:0<=c.L/\c.L<=100*a
theorem W2{x y:Int}(c:0<=x/\x<=6502500)(b:0<=y/\y<=6502500):XQ.wrap (x*y)=x*y/\0<=x*y/\x*y<=42282506250000:=by
 have e:=Int.mul_nonneg c.1 b.1;have f:=Int.mul_le_mul c.2 b.2 b.1 Zd;exact⟨AA _ I,e,by omega⟩
section
variable{w:YM}{m r g b a x B:Int}{c:sJ}
theorem lI:Ca 347 #[aW r g b] w (CU w (.int .i64 (G7 r g b))):=uf func347 rfl<|ZR<|ZX (.int .i64 (if b<(if g<r then g else r)then b else(if g<r then g else r))) (by rw[show(if b<(if g<r then g else r)then b else(if g<r then g else r))=G7 r g b by unfold G7;split<;>split<;>omega])
theorem e5:Ca 346 #[aW r g b] w (CU w (.int .i64 (EH r g b))):=uf func346 rfl<|ZR<|ZX (.int .i64 (if b>(if g>r then g else r)then b else(if g>r then g else r))) (by rw[show(if b>(if g>r then g else r)then b else(if g>r then g else r))=EH r g b by unfold EH;split<;>split<;>omega])
theorem MN(hi:VR a r g b)(j:a<=65025):Ca 313 #[aW r g b] w (CU w (.int .i64 (EH r g b-G7 r g b))):=by
 have k:=hi.sat;exact uf func313 rfl<|ZR<|ZC (λf e h=>e5 (r:=r) (g:=g) (b:=b)) λu=>ZC (λf e h=>lI (r:=r) (g:=g) (b:=b)) λv=>ZX (.int .i64 (XQ.wrap (EH r g b-G7 r g b))) (by rw[AA _ I])
theorem LF(hi:VR a r g b)(f:a<=65025):Ca 314 #[aW r g b] w (CU w (.int .i64 (lum r g b))):=by
 obtain⟨j,h,e⟩:=hi;exact uf func314 rfl<|ZR<|ZX (.int .i64 (XQ.wrap (XQ.wrap (XQ.wrap (30*r)+XQ.wrap (59*g))+XQ.wrap (11*b)))) (by rw[AA (30*r) I,AA (59*g) I,AA (11*b) I,AA (30*r+59*g) I,AA _ I];rfl)
theorem fP{r2 j b2:Int}(t:10<=m/\m<=13)(p:VR a r g b)(f:VR a r2 j b2)(o:a<=65025):Ca 282 #[.int .i64 m,aW r g b,aW r2 j b2,.int .i64 a] w (K4 w (λc:{c:sJ // dK c a}=>nD c.1 a) λ_ _=>True):=by
 rcases(by omega:m=10\/m=11\/m=12\/m=13)with rfl|rfl|rfl|rfl
 .refine uf func282 rfl<|ZR<|uv O (stop:=1000) 6000 _<|ZC (λk e h=>MN f o) λs=>ZC (λk e h=>LF f o) λl=>ZV (nD ⟨r,g,b,EH r2 j b2-G7 r2 j b2,lum r2 j b2⟩ a) (λk e h=>⟨⟨_,p,f.sat,f.lum⟩,rfl,e,Zv⟩)
 .refine uf func282 rfl<|ZR<|uv O (stop:=1000) 6000 _<|ZC (λk e h=>MN p o) λs=>ZC (λk e h=>LF f o) λl=>ZV (nD ⟨r2,j,b2,EH r g b-G7 r g b,lum r2 j b2⟩ a) (λk e h=>⟨⟨_,f,p.sat,f.lum⟩,rfl,e,Zv⟩)
 .refine uf func282 rfl<|ZR<|uv O (stop:=1000) 6000 _<|ZC (λk e h=>MN p o) λs=>ZC (λk e h=>LF f o) λl=>ZV (nD ⟨r,g,b,EH r g b-G7 r g b,lum r2 j b2⟩ a) (λk e h=>⟨⟨_,p,p.sat,f.lum⟩,rfl,e,Zv⟩)
 .refine uf func282 rfl<|ZR<|uv O (stop:=1000) 6000 _<|ZC (λk e h=>MN f o) λs=>ZC (λk e h=>LF p o) λl=>ZV (nD ⟨r2,j,b2,EH r2 j b2-G7 r2 j b2,lum r g b⟩ a) (λk e h=>⟨⟨_,f,f.sat,p.lum⟩,rfl,e,Zv⟩)
abbrev tW(a:Int):={q:Int×Int // (0<q.2/\q.2<=6502500)/\0<=q.1/\q.1<=a*q.2}
theorem jd(Y:dK c a)(Q:a<=65025)(hx:x=c.r\/x=c.g\/x=c.b):Ca 315 #[nD c a,.int .i64 x] w (K4 w (λq:tW a=> .tuple #[.int .i64 q.1.1,.int .i64 q.1.2]) λ_ _=>True):=by
 obtain⟨r,g,b,S,L⟩:=c;obtain⟨f,M,J⟩:=Y;have f:VR a r g b:=f;have M:0<=S/\S<=a:=M;have J:0<=L/\L<=100*a:=J;have H:=f.sat;have R:=f.lum;have N:G7 r g b<=x/\x<=EH r g b:=by unfold G7 EH;rcases hx with h|h|h<;>(simp only at h;omega)
 have hlh:0<=G7 r g b/\EH r g b<=a:=by obtain⟨W,q2,q3⟩:=f;unfold G7 EH;omega
 have D:11*(EH r g b-G7 r g b)<=lum r g b-100*G7 r g b:=by unfold lum EH G7;omega
 have z:11*(EH r g b-G7 r g b)<=100*EH r g b-lum r g b:=by unfold lum EH G7;omega
 have p:∀e,Ca 313 #[aW r g b] e (CU e (.int .i64 (EH r g b-G7 r g b))):=λe=>MN f Q
 have F:∀e,Ca 347 #[aW r g b] e (CU e (.int .i64 (G7 r g b))):=λe=>lI
 have v:∀e,Ca 346 #[aW r g b] e (CU e (.int .i64 (EH r g b))):=λe=>e5
 have o:∀e,Ca 314 #[aW r g b] e (CU e (.int .i64 (lum r g b))):=λe=>LF f Q
 generalize EH r g b=hi at*;generalize G7 r g b=lo at*;generalize lum r g b=l at*;have E:=bY (a:=a) (m:=hi-lo) (lo:=lo) (hi:=hi) (l:=l) (L:=L) (S:=S) (x:=x) rfl D z J M N;obtain⟨t,A⟩:∃t,t=l-100*lo:=⟨_,rfl⟩
 obtain⟨s,u⟩:∃s,s=100*hi-l:=⟨_,rfl⟩
 obtain⟨m,U⟩:∃m,m=hi-lo:=⟨_,rfl⟩
 rw[<-A,<-u,<-U]at E;rw[<-U]at H p D z;rw[<-A]at D;rw[<-u]at z;obtain⟨p1,p2,p3⟩:=W2 (x:=L) (y:=m) I I;obtain⟨Z,s2,s3⟩:=W2 (x:=S) (y:=t) I I;obtain⟨t1,K,wJ⟩:=W2 (x:=L) (y:=x-lo) I I;obtain⟨u1,u2,u3⟩:=W2 (x:=100*m) (y:=S) I I;obtain⟨X,v2,v3⟩:=W2 (x:=100*a) (y:=m) I I;obtain⟨x1,x2,x3⟩:=W2 (x:=a) (y:=s) I I;obtain⟨y1,y2,y3⟩:=W2 (x:=100*a-L) (y:=hi-x) I I;obtain⟨z1,z2,z3⟩:=W2 (x:=100*(x-lo)) (y:=S) I I;refine uf func315 rfl<|ZR<|ZC (λe k h=>p e) λW=>ZC (λe k h=>F e) λq2=>ZC (λe k h=>v e) λq3=> ?_
 by_cases P:m=0
 .refine ZJ (m==0) true (by rw[P];rfl)<|ZV (.tuple #[.int .i64 L,.int .i64 100]) (λe k h=>⟨⟨(L,100),⟨by show(0:Int)<100;decide,by show(100:Int)<=6502500;decide⟩,J.1,Zn⟩,rfl,k,Zv⟩)
 refine ZJ (m==0) false (YR.2 P)<|ZD 6 (λe k h=>o e) λq4=>ZT 30 (.int .i64 (XQ.wrap (l-XQ.wrap (100*lo)))) (.int .i64 t) (by rw[AA (100*lo) I,AA _ I,A])<|ZD 6 (λe k h=>o e) λq5=>uh 36 (.int .i64 (XQ.wrap (XQ.wrap (100*hi)-l))) (.int .i64 s) O (by rw[AA (100*hi) I,AA _ I,u])<|ZS 9 ?_
 obtain⟨j,G⟩:∃j,j=L*m-S*t:=⟨_,rfl⟩
 rw[<-G]at E;refine ZT 45 (.int .i64 (XQ.wrap (XQ.wrap (L*m)-XQ.wrap (S*t)))) (.int .i64 j) (by rw[p1,Z,AA _ I,G]) ?_
 by_cases wI:j<0
 .refine YJ (j<0) wI<|ZV (.tuple #[.int .i64 (XQ.wrap (L*XQ.wrap (x-lo))),.int .i64 t]) (λe k h=>⟨⟨(L*(x-lo),t),⟨Zn,Zn⟩,(E.1 wI).1,(E.1 wI).2⟩,by rw[AA (x-lo) I,t1],k,Zv⟩)
 refine YK (j<0) wI ?_;have T:decide (XQ.wrap (XQ.wrap (XQ.wrap (100*m)*S)+j)>XQ.wrap (XQ.wrap (100*a)*m))=decide (100*m*S+j>100*a*m):=by rw[AA (100*m) I,AA (100*a) I,u1,X,AA _ I]
 by_cases c2:100*m*S+j>100*a*m
 .have K:=E.2.1 I c2;refine ZJ (decide (XQ.wrap (XQ.wrap (XQ.wrap (100*m)*S)+j)>XQ.wrap (XQ.wrap (100*a)*m))) true (by rw[T];exact YU c2)<|ZV (.tuple #[.int .i64 (XQ.wrap (XQ.wrap (a*s)-XQ.wrap (XQ.wrap (XQ.wrap (100*a)-L)*XQ.wrap (hi-x)))),.int .i64 s]) (λe k h=>⟨⟨(a*s- (100*a-L)*(hi-x),s),⟨Zn,Zn⟩,K.1,K.2⟩,by rw[AA (100*a) I,AA (100*a-L) I,AA (hi-x) I,x1,y1,AA _ I],k,Zv⟩)
 have wJ:=E.2.2 I c2;refine ZJ (decide (XQ.wrap (XQ.wrap (XQ.wrap (100*m)*S)+j)>XQ.wrap (XQ.wrap (100*a)*m))) false (by rw[T];exact YV c2)<|ZV (.tuple #[.int .i64 (XQ.wrap (XQ.wrap (XQ.wrap (100*XQ.wrap (x-lo))*S)+j)),.int .i64 (XQ.wrap (100*m))]) (λe k h=>⟨⟨(100*(x-lo)*S+j,100*m),⟨Zn,Zn⟩,wJ.1,wJ.2⟩,by rw[AA (x-lo) I,AA (100*(x-lo)) I,z1,AA (100*m) I,AA _ I],k,Zv⟩)
theorem gC{t:XX}{x y:XZ}{a b:Int}{k:IntKind}(e:b≠0):(C4 .quo t x y (.int k a) (.int k b)).run XM w= .ok (.value (.int k (k.wrap (a.tdiv b)))) w:=by
 simp only[C4,eqGuard_quo,AM,AX,AL,binOp,Op.intDiv,ne_eq,not_true_eq_false,if_false,e]
theorem JA(j:dK c a)(u:a<=65025)(z:x=c.r\/x=c.g\/x=c.b)(E:0<=B)(v:B+a<=65025):Ca 285 #[nD c a,.int .i64 B,.int .i64 x] w (K4 w (λk:{k:Nat // (k:Int)<=(B+a+127)/255}=> .int .u8 (k.1:Nat)) λ_ _=>True):=by
 have A:0<=a:=Int.le_trans j.S.1 j.S.2;refine uf func285 rfl<|ZR<|ZD 11 (λp o h=>jd j u z) λt=> ?_
 obtain⟨⟨n,d⟩,⟨e,f⟩,l⟩:=t;have e:0<d:=e;have f:d<=6502500:=f;have l:0<=n/\n<=a*d:=l;obtain⟨D,J,Z⟩:=W2 (x:=B) (y:=d) I I;obtain⟨H,F,G⟩:=W2 (x:=a) (y:=d) I I;have cl:=fw E e l;obtain⟨Q,s⟩:∃Q,Q=(2*(B*d+n)+255*d).tdiv (510*d):=⟨_,rfl⟩
 rw[<-s]at cl;refine uh 23 (.int .i64 (XQ.wrap (XQ.wrap (2*XQ.wrap (XQ.wrap (B*d)+n))+XQ.wrap (255*d)))) (.int .i64 (2*(B*d+n)+255*d)) O (by rw[D,AA (B*d+n) I,AA (2*(B*d+n)) I,AA (255*d) I,AA _ I])<|YB 25 (510*d) (510*d)<|ZA (C4 .quo 3 (.tmp 23) (.tmp 25) (.int .i64 (2*(B*d+n)+255*d)) (.int .i64 (510*d))) (.int .i64 (XQ.wrap ((2*(B*d+n)+255*d).tdiv (510*d)))) (λp o h=>gC I)<|ZV (.int .u8 (XN.wrap (XQ.wrap ((2*(B*d+n)+255*d).tdiv (510*d))))) (λp o h=>⟨⟨Q.toNat,by omega⟩,by rw[<-s,AA Q I,IntWalk.u8_in Q I];show Ending.returned _=Ending.returned (.int .u8 (Q.toNat:Int));rw[CA cl.1],o,Zv⟩)
end
section
variable{w:YM}{m:Int}{p d S D:Px}{g1 g2 x y k:Nat}
theorem Ol(c:p.ok)(o:k<=255):Ca 283 #[Ls p,.int .i64 k] w (CU w (aW ((p.r*k:Nat):Int) ((p.g*k:Nat):Int) ((p.b*k:Nat):Int))):=by
 have e:∀n:Nat,n<=255->XQ.wrap (n:Int)=n:=λn h=>Fb I
 exact uf func283 rfl<|ZR<|ZX (aW (XQ.wrap (XQ.wrap (p.r:Int)*(k:Int))) (XQ.wrap (XQ.wrap (p.g:Int)*(k:Int))) (XQ.wrap (XQ.wrap (p.b:Int)*(k:Int)))) (by have l:=c.r;have j:=c.g;have f:=c.b;rw[e _ l,e _ j,e _ f,Te I I,Te I I,Te I I])
def EF(x y sa da:Nat):Nat:=x*(255-da)+y*(255-sa)
theorem PC(c:x<=255)(e:y<=255)(g:S.a<=255)(j:D.a<=255)(b1:K8 w g1 [.int .i64 (D.a:Nat)])(b2:K8 w g2 [.int .i64 (S.a:Nat)]):Ca 284 #[.int .u8 x,.int .u8 y,Kp g1,Kp g2] w (CU w (.int .i64 (EF x y S.a D.a:Nat))):=by
 have s:=Nb c (show 255-D.a<=255 by omega);have o:=Nb e (show 255-S.a<=255 by omega);have f:∀n:Nat,n<=255->XQ.wrap (n:Int)=n:=λn h=>Fb I
 exact uf func284 rfl<|ZR<|ZA (Ke 3 ⟨g1,0,none⟩) (.int .i64 (D.a:Nat)) (λl b h=>Kh O (by have:=(b1.below b).range 0 _ rfl;simpa using this))<|ZA (Ke 3 ⟨g2,0,none⟩) (.int .i64 (S.a:Nat)) (λl b h=>Kh O (by have:=(b2.below b).range 0 _ rfl;simpa using this))<|ZX (.int .i64 (XQ.wrap (XQ.wrap (XQ.wrap (x:Int)*XQ.wrap (255- (D.a:Int)))+XQ.wrap (XQ.wrap (y:Int)*XQ.wrap (255- (S.a:Int)))))) (by rw[f _ c,f _ e,Ra g,Ra j,Te I I,Te I I,Fh I I];rfl)
theorem ro{r g b k a:Nat}(f:r*k<=a)(e:g*k<=a)(c:b*k<=a):VR (a:Int) ((r*k:Nat):Int) ((g*k:Nat):Int) ((b*k:Nat):Int):=⟨by omega,by omega,by omega⟩
theorem Ge{x y sa da k:Nat}(b:x<=sa)(f:y<=da)(e:sa<=255)(g:da<=255)(c:(k:Int)<=(((EF x y sa da:Nat):Int)+((sa*da:Nat):Int)+127)/255):k<=R9 sa da/\EF x y sa da+sa*da<=65025:=by
 have l:=AC (255-da) b;have h:=AC (255-sa) f;have j:=jw e g;unfold EF at c ⊢;unfold R9 WP EC;omega
theorem pC(L:10<=m/\m<=13)(s:S.ok)(o:D.ok)(ls:S.r<=S.a/\S.g<=S.a/\S.b<=S.a)(ld:D.r<=D.a/\D.g<=D.a/\D.b<=D.a)(A:D.a=min d.a d.a):Ca 249 #[.int .i64 m,Ls S,Ls D] w (K4 w (λq:{q:Px // rT d q}=>Ls q.1) λ_ _=>True):=by
 have F:∀n:Nat,n<=255->XQ.wrap (n:Int)=n:=λn h=>Fb I
 have N:=Nb s.a (show 255-D.a<=255 by omega);have R:=Nb o.a (show 255-S.a<=255 by omega);have Q:=Nb s.a o.a;have wI:VR ((S.a*D.a:Nat):Int) ((S.r*D.a:Nat):Int) ((S.g*D.a:Nat):Int) ((S.b*D.a:Nat):Int):=ro (AC _ ls.1) (AC _ ls.2.1) (AC _ ls.2.2);have K:VR ((S.a*D.a:Nat):Int) ((D.r*S.a:Nat):Int) ((D.g*S.a:Nat):Int) ((D.b*S.a:Nat):Int):=by
  rw[AY S.a D.a];exact ro (AC _ ld.1) (AC _ ld.2.1) (AC _ ld.2.2)
 have t:((S.a*D.a:Nat):Int)<=65025:=I
 have c:=s.a;have e:=o.a;have u:∀{x y:Nat},x<=S.a->y<=D.a->((EF x y S.a D.a:Nat):Int)+((S.a*D.a:Nat):Int)<=65025:=λ{x y} H J=>by have:=(Ge (k:=0) H J c e I).2;omega
 refine uf func249 rfl<|ZS 0<|ZS 3<|uh 13 (.int .i64 (XQ.wrap (S.a:Int))) (.int .i64 (S.a:Nat)) O (by rw[F _ c])<|vj [6,7]<|ZS 6<|ZT 16 (.int .i64 (XQ.wrap (D.a:Int))) (.int .i64 (D.a:Nat)) (by rw[F _ e])<|ZC (λj f h=>Ol s e) λT=>ZD 10 (λj f h=>Ol o c) λM=>uh 26 (.int .i64 (XQ.wrap ((S.a:Int)*(D.a:Int)))) (.int .i64 ((S.a*D.a:Nat):Int)) O (by rw[Te I I])<|ZC (λj f h=>fP L wI K t) λz=>uy (val:=λ_:Unit=> .int .i64 (EF S.r D.r S.a D.a:Nat)) (G:=λ_ _=>True) (xs:=[.v (.int .u8 S.r),.v (.int .u8 D.r),.p 8 0,.p 7 0]) O (λβ j f h l=>PC s.r o.r c e (Kz l (k:=8) (by simp[AV.ids]) (cs:=[.v (.int .i64 (D.a:Nat))]) O) (Kz l (k:=7) (by simp[AV.ids]) (cs:=[.v (.int .i64 (S.a:Nat))]) O)) λP=>ZR<|ZC (λj f h=>JA z.2 t (.inl rfl) I (u ls.1 ld.1)) λE=>uy (val:=λ_:Unit=> .int .i64 (EF S.g D.g S.a D.a:Nat)) (G:=λ_ _=>True) (xs:=[.v (.int .u8 S.g),.v (.int .u8 D.g),.p 8 0,.p 7 0]) O (λβ j f h l=>PC s.g o.g c e (Kz l (k:=8) (by simp[AV.ids]) (cs:=[.v (.int .i64 (D.a:Nat))]) O) (Kz l (k:=7) (by simp[AV.ids]) (cs:=[.v (.int .i64 (S.a:Nat))]) O)) λb1=>ZR<|ZC (λj f h=>JA z.2 t (.inr (.inl rfl)) I (u ls.2.1 ld.2.1)) λB=>uy (val:=λ_:Unit=> .int .i64 (EF S.b D.b S.a D.a:Nat)) (G:=λ_ _=>True) (xs:=[.v (.int .u8 S.b),.v (.int .u8 D.b),.p 8 0,.p 7 0]) O (λβ j f h l=>PC s.b o.b c e (Kz l (k:=8) (by simp[AV.ids]) (cs:=[.v (.int .i64 (D.a:Nat))]) O) (Kz l (k:=7) (by simp[AV.ids]) (cs:=[.v (.int .i64 (S.a:Nat))]) O)) λb2=>ZR<|ZD 46 (λj f h=>JA z.2 t (.inr (.inr rfl)) I (u ls.2.2 ld.2.2)) λk2=>uh 74 (.int .i64 (XQ.wrap (XQ.wrap (XQ.wrap ((S.a:Int)*XQ.wrap (255- (D.a:Int)))+XQ.wrap ((D.a:Int)*XQ.wrap (255- (S.a:Int))))+XQ.wrap ((S.a:Int)*(D.a:Int))))) (.int .i64 ((S.a*(255-D.a)+D.a*(255-S.a)+S.a*D.a:Nat):Int)) O (by rw[Ra e,Ra c,Te I I,Te I I,Te I I,Fh I I,Fh I I])<|ZC (λj f h=>E6 (n:=S.a*(255-D.a)+D.a*(255-S.a)+S.a*D.a) I) λZ=>ZV (Ls ⟨E.1,B.1,k2.1,R9 S.a D.a⟩) (λj f h=>⟨⟨⟨E.1,B.1,k2.1,R9 S.a D.a⟩,bq (Ge ls.1 ld.1 c e E.2).1 (Ge ls.2.1 ld.2.1 c e B.2).1 (Ge ls.2.2 ld.2.2 c e k2.2).1 rfl c A⟩,rfl,f,Zv⟩)
theorem dR(f:1<=m/\m<=13)(l:p.ok)(o:d.ok):Ca 210 #[.int .i64 m,Ls p,Ls d] w (K4 w (λq:{q:Px // rT d q}=>Ls q.1) λ_ _=>True):=by
 by_cases j:m<=9
 .exact fJ ⟨f.1,j⟩ l o
 have cl:∀p:Px,p.clamp.r<=p.clamp.a/\p.clamp.g<=p.clamp.a/\p.clamp.b<=p.clamp.a:=λp=>u6 (by unfold Px.clamp;simp)
 refine uf func210 rfl<|ZR<|ZC (λe c h=>Ql f) λv=>ZI false<|ZC (λe c h=>Tu (p:=p)) λs=>ZC (λe c h=>Tu (p:=d)) λc2=>ZC (λe c h=>lM f.1) λt=>ZJ ((!decide (m<=9))) true (by rw[YV j];rfl)<|ZC (λe c h=>pC (d:=d) ⟨by omega,f.2⟩ l.clamp o.clamp (cl p) (cl d) rfl) λq=>ZV (Ls q.1) (λe c h=>⟨q,rfl,c,Zv⟩)
theorem aG(o:1<=m/\m<=13)(g:p.ok)(l:d.ok)(f:k<=255):Ca 156 #[.int .i64 m,Ls p,Ls d,.int .u8 k] w (K4 w (λq:{q:Px // rT d q}=>Ls q.1) λ_ _=>True):=by
 refine uf func156 rfl<|ZR<|ZC (λj e h=>NT f g) λc=>ZC (λj e h=>dR o (g.scale f) l) λb=>ZV (Ls b.1) (λj e h=>⟨b,rfl,e,Zv⟩)
end
section
variable{w u:YM}{R:Rc}{K:Nat->Prop}{S D E:Px->Prop}{x y mode:Int}{k N g1 g2 g3 g4:Nat}{z z2:YZ}{m:MV}{p q:Px}
def OX(w:YM)(mode:Int)(S D:Px->Prop)(K:Nat->Prop)(E:Px->Prop):Prop:=∀b s d k,Below w.heap.size w b->Nm S s->Nm D d->k<=255->K k->Ca 156 #[.int .i64 mode,Ls s,Ls d,.int .u8 (k:Nat)] b (K4 b (λp:mE E=>Ls p.1) λ_ _=>True)
theorem OX.below{e:YM}(h:OX w mode S D K E)(c:Below w.heap.size w e):OX e mode S D K E:=λf s d k b=>h f s d k (c.trans (b.mono c.size))
theorem il(e:O4 R)(hi:R.In x y)(b1:K8 w g1 [.int .i64 mode])(b2:K8 w g2 (Ob (Mp R z)))(o:K8 w g3 (Ob (Mp R z2)))(s:K8 w g4 (Ob m))(t:Xm w R S z)(A:Xm w R D z2)(B:Zw w R K m)(v:OX w mode S D K E):
 Ca 163 #[.int .i64 x,.int .i64 y,Kp g1,Kp g2,Kp g3,Kp g4] w (K4 w (λp:mE E=>Ls p.1) λ_ _=>True):=by
 refine uf func163 rfl<|ZR<|ZB 0 (Ke 3 ⟨g1,0,none⟩) (.int .i64 mode) (λc b h=>(b1.below b).load1 O)<|ZB 1 (Ke 33 ⟨g2,0,none⟩) (Le (Mp R z)) (λc b h=>Ka (vs:=Ob (Mp R z)) O O (b2.below b).range)<|ZB 5 (Ke 33 ⟨g3,0,none⟩) (Le (Mp R z2)) (λc b h=>Ka (vs:=Ob (Mp R z2)) O O (o.below b).range)<|ZB 9 (Ke 110 ⟨g4,0,none⟩) (Le m) (λc b h=>Ka (vs:=Ob m) O O (s.below b).range)<|ZC (λc b h=>No e hi (t.below b)) λg=>ZC (λc b h=>No e hi (A.below b)) λl=>ZC (λc b h=>MT e hi (B.below b)) λf=>ZC (λc b h=>v c g.1 l.1 f.1 b g.2 l.2 f.2.1 f.2.2) λj=>ZV (Ls j.1) (λc b h=>⟨j,rfl,b,Zv⟩)
theorem ec(g:O4 R):Ca 112 #[.int .i64 1,Le T9,Le T9,Le T9] w (CU w (.tuple #[Le T9,.int .i64 0])):=uf func112 rfl<|ZR<|uk (Lr 189 2 #[(0,Le T9),(1,Le T9)]) (Kr 2) (Kw 33 ([T9,T9].flatMap Ob).toArray) O (λe b h=>Kj O) λo=>ZR<|ZC (λe b h=>QG (R:=R) (c:=2) g (Kk.lit (cl:=Ob) (l:=[T9,T9]) C5 h.2) Zd (ju .nil .nil)) λv=>ZI false<|ZC (λe b h=>T4 (K:=Kb) g (.nil trivial)) λt=>ZI false<|ZC (λe b h=>Ty) λs=>ZI false<|uy (val:=λ_:Unit=>Le T9) (G:=λ_ _=>True) (xs:=[.v (Pw 0 0 0 0),.f 163 [(4,0),(5,0),(6,0),(7,0)]]) O (λβ e b h j=>cf) λz=>ZR<|ZW (.tuple #[Le T9,.int .i64 0])
theorem RZ(j:O4 R)(t:1<=mode/\mode<=13)(A:Xm w R S z)(B:Xm w R D z2)(F:Zw w R K m)(s:OX w mode S D K E)(H:N<=w.heap.size):
 Ca 112 #[.int .i64 mode,Le (Mp R z),Le (Mp R z2),Le m] w (K4 w (λz:YZ=> .tuple #[Le (Mp R z),.int .i64 0]) λz u=>Ag N R E z u):=by
 refine uf func112 rfl<|ZR<|uk (Lr 189 2 #[(0,Le (Mp R z)),(1,Le (Mp R z2))]) (Kr 2) (Kw 33 ([Mp R z,Mp R z2].flatMap Ob).toArray) O (λg e h=>Kj O) λL=>ZR<|ZC (λg e h=>QG (c:=2) j (Kk.lit (cl:=Ob) (l:=[Mp R z,Mp R z2]) C5 h.2) (by show 2<=1000000;decide) (ju (.row z S (A.below e)) (.row z2 D (B.below e)))) λv=>ZI false<|ZC (λg e h=>T4 j (F.below e)) λM=>ZI false<|ZC (λg e h=>Ql t) λJ=>ZI false<|uy (val:=λz:YZ=>Le (Mp R z)) (G:=λz u=>Ag w.heap.size R E z u) (xs:=[.v R.V,.f 163 [(4,0),(5,0),(6,0),(7,0)]]) O (λβ g e h o=>IS j (.inr (.inl ⟨rfl,_,_,_,_,rfl⟩)) (λZ x y b hi=>il j hi (K8.below (Kz o (k:=4) (by simp[AV.ids]) (cs:=[.v (.int .i64 mode)]) O) b) (K8.below (Kz o (k:=5) (by simp[AV.ids]) (cs:=(Ob (Mp R z)).map .v) O) b) (K8.below (Kz o (k:=6) (by simp[AV.ids]) (cs:=(Ob (Mp R z2)).map .v) O) b) (K8.below (Kz o (k:=7) (by simp[AV.ids]) (cs:=(Ob m).map .v) O) b) ((A.below e).below b) ((B.below e).below b) ((F.below e).below b) ((s.below e).below b)) e.size) λq=>ZR<|ZV (.tuple #[Le (Mp R q),.int .i64 0]) (λg e h=>⟨q,rfl,e,λu wI k2=>Ag.mono (h u wI k2).2 H⟩)
theorem G8{n m:Nat}(g:K8 w g1 [.int .u8 (k:Int)])(c:k<=255)(f:n<=255)(j:m<=255):Ca 129 #[.int .u8 n,.int .u8 m,Kp g1] w (CU w (.int .u8 (D_ n m k:Nat))):=by
 have s:=Nb f (show 255-k<=255 by omega);have o:=Nb j c;have e:∀n:Nat,n<=255->XQ.wrap (n:Int)=n:=λn h=>Fb I
 exact uf func129 rfl<|ZR<|ZA (Ke 5 ⟨g1,0,none⟩) (.int .u8 k) (λl b h=>Kh O (by have:=(g.below b).range 0 _ rfl;simpa using this))<|ZA (Ke 5 ⟨g1,0,none⟩) (.int .u8 k) (λl b h=>Kh O (by have:=(g.below b).range 0 _ rfl;simpa using this))<|uh 17 (.int .i64 (XQ.wrap (XQ.wrap (XQ.wrap (n:Int)*XQ.wrap (255-XQ.wrap (k:Int)))+XQ.wrap (XQ.wrap (m:Int)*XQ.wrap (k:Int))))) (.int .i64 ((n*(255-k)+m*k:Nat):Int)) O (by rw[e _ f,e _ j,e _ c,Ra c,Te I I,Te I I,Fh I I])<|ZC (λl b h=>E6 (n:=n*(255-k)+m*k) I) λv=>ZW (.int .u8 (D_ n m k:Nat))
theorem oS(j:K8 w g1 [.int .u8 (k:Int)])(e:k<=255)(l:p.ok)(f:q.ok):Ca 128 #[Ls p,Ls q,.func (.func 129) #[] #[Kp g1]] w (CU w (Ls (p.lerp q k))):=uf func128 rfl<|ZR<|ZC (λo c h=>G8 (j.below c) e l.r f.r) λA=>ZC (λo c h=>G8 (j.below c) e l.g f.g) λt=>ZC (λo c h=>G8 (j.below c) e l.b f.b) λs=>ZC (λo c h=>G8 (j.below c) e l.a f.a) λv=>ZW (Ls (p.lerp q k))
theorem oT(b:k<=255)(g:p.ok)(e:q.ok):Ca 83 #[Ls p,Ls q,.int .u8 k] w (CU w (Ls (p.lerp q k))):=uf func83 rfl<|ZR<|uy (val:=λ_:Unit=>Ls (p.lerp q k)) (G:=λ_ _=>True) (xs:=[.v (Ls p),.v (Ls q),.f 129 [(5,0)]]) O (λβ l j h c=>oS (Kz c (k:=5) (by simp[AV.ids]) (cs:=[.v (.int .u8 (k:Int))]) O) b g e) λu=>ZR<|ZW (Ls (p.lerp q k))
theorem ea(f:O4 R)(hi:R.In x y)(b2:K8 w g2 (Ob (Mp R z)))(l:K8 w g3 (Ob (Mp R z2)))(o:K8 w g4 (Ob m))(s:Xm w R D z)(v:Xm w R S z2)(A:Zw w R K m)(t:∀p q k,Nm D p->Nm S q->k<=255->K k->Nm E (p.lerp q k)):
 Ca 82 #[.int .i64 x,.int .i64 y,Kp g2,Kp g3,Kp g4] w (K4 w (λp:mE E=>Ls p.1) λ_ _=>True):=by
 refine uf func82 rfl<|ZR<|ZB 0 (Ke 33 ⟨g2,0,none⟩) (Le (Mp R z)) (λc b h=>Ka (vs:=Ob (Mp R z)) O O (b2.below b).range)<|ZB 4 (Ke 33 ⟨g3,0,none⟩) (Le (Mp R z2)) (λc b h=>Ka (vs:=Ob (Mp R z2)) O O (l.below b).range)<|ZB 8 (Ke 110 ⟨g4,0,none⟩) (Le m) (λc b h=>Ka (vs:=Ob m) O O (o.below b).range)<|ZC (λc b h=>No f hi (s.below b)) λg=>ZC (λc b h=>No f hi (v.below b)) λj=>ZC (λc b h=>MT f hi (A.below b)) λe=>ZC (λc b h=>oT e.2.1 g.2.1.2 j.2.1.2) λB=>ZV (Ls (g.1.lerp j.1 e.1)) (λc b h=>⟨⟨_,t _ _ _ g.2 j.2 e.2.1 e.2.2⟩,rfl,b,Zv⟩)
theorem SD(g:O4 R)(s:Xm w R D z)(t:Xm w R S z2)(A:Zw w R K m)(H:∀p q k,Nm D p->Nm S q->k<=255->K k->Nm E (p.lerp q k))(B:N<=w.heap.size):
 Ca 56 #[Le (Mp R z),Le (Mp R z2),Le m] w (K4 w (λz:YZ=> .tuple #[Le (Mp R z),.int .i64 0]) λz u=>Ag N R E z u):=by
 refine uf func56 rfl<|ZR<|uk (Lr 189 2 #[(0,Le (Mp R z)),(1,Le (Mp R z2))]) (Kr 2) (Kw 33 ([Mp R z,Mp R z2].flatMap Ob).toArray) O (λj e h=>Kj O) λZ=>ZR<|ZC (λj e h=>QG (c:=2) g (Kk.lit (cl:=Ob) (l:=[Mp R z,Mp R z2]) C5 h.2) (by show 2<=1000000;decide) (ju (.row z D (s.below e)) (.row z2 S (t.below e)))) λv=>ZI false<|ZC (λj e h=>T4 g (A.below e)) λJ=>ZI false<|uy (val:=λz:YZ=>Le (Mp R z)) (G:=λz u=>Ag w.heap.size R E z u) (xs:=[.v R.V,.f 82 [(3,0),(4,0),(5,0)]]) O (λβ j e h o=>IS g (.inr (.inr ⟨rfl,_,_,_,rfl⟩)) (λL x y b hi=>ea g hi (K8.below (Kz o (k:=3) (by simp[AV.ids]) (cs:=(Ob (Mp R z)).map .v) O) b) (K8.below (Kz o (k:=4) (by simp[AV.ids]) (cs:=(Ob (Mp R z2)).map .v) O) b) (K8.below (Kz o (k:=5) (by simp[AV.ids]) (cs:=(Ob m).map .v) O) b) ((s.below e).below b) ((t.below e).below b) ((A.below e).below b) H) e.size) λq=>ZR<|ZV (.tuple #[Le (Mp R q),.int .i64 0]) (λj e h=>⟨q,rfl,e,λu F k2=>Ag.mono (h u F k2).2 B⟩)
end
def af(t:XX)(n:Nat):Sem Next:=Instr.makeSlice t (.int .i64 (n:Int)) (.int .i64 (n:Int)) >>= λv=>pure (.value v)
theorem Iw{α:Type}{cl:α->List YI}{x:α}{s:Nat}{v:YI}(h:cl x=AZ s v):∀n,(AZ n x).flatMap cl=AZ (n*s) v
 |0=>by simp
 |n+1=>by rw[List.replicate_succ,CF,h,Iw h n,List.replicate_append_replicate,Nat.succ_mul,Nat.add_comm]
theorem QL{P:YH}{w:YM}{t e:XX}{s bytes n N:Nat}{z v:YI}(E:P.underlying t=some (.slice e))(hi:Ya P e=some (z,s,bytes))(m:z.cells=(AZ s v).toArray)(D:0<s)(o:n<=10000)(p:s<=100/\bytes<=10000)(A:N<=w.heap.size):
 M9 P w (λg:Nat=> .slice (some ⟨g,0,none⟩) n n) (λg u=>K6 u N e s (some ⟨g,0,none⟩) n n (AZ (n*s) v)) (af t n):=by
 unfold Ya at hi;obtain⟨i,f,l⟩:=BY.1 hi;obtain⟨z',j,b⟩:=BO.1 l;simp only[BU]at b;obtain⟨rfl,c,h⟩:=b;have y:n*s<=10000*100:=BF o p.1;have H:bytes*n<=10000*10000:=BF p.2 o;have x:=run_makeSlice (P:=P) w t e i _ E f j .i64 .i64 (n:Int) (n:Int) I I (by rw[c,BE];omega) (by rw[h,<-BM];omega) I;rw[c,BE]at x;have K:madeCells z'.cells (n*s)=(AZ (n*s) v).toArray:=Array.ext (by rw[size_madeCells];simp) λi y H=>by
  have G:z'.cells.size=s:=by rw[m];simp
  have J:i%s<s:=CO _ D;simp only[madeCells,Array.getElem_map,Array.getElem_range,G];rw[m,getElem!_pos _ _ (by simpa using J)];simp
 refine⟨w.heap.size,_,by simp only[af,AM,x,AL,AX];rfl,Pa _ _,λk Z F=> ?_⟩;have B:Kw e (AZ (n*s) v).toArray w.heap.size k:=by
  unfold Kw;rw[(Pv w _ Z F).1];show some (Obj.cells (madeCells z'.cells (n*s)) e)=_;rw[K]
 have:=K6.lit (n:=n) (s:=s) B Zs A (by unfold maxLen;omega);simpa using this
def n_(c b ty:XX)(x y:YI):Sem Next:=Builtin.copy_ #[c,b] ty #[x,y] >>= λv=>pure (.value v)
theorem kD{P:YH}{w:YM}{t e ty:XX}{s n c c2 g B:Nat}{ad:XR}{xs cs:List YI}(D:P.underlying t=some (.slice e))(p:(P.info? e).map (·.size)=some s)(l:K6 w B e s (some ⟨g,0,none⟩) n c xs)(k:cs.length=n*s)(f:∀j v,cs[j]? =some v->w.cell? (ad.add j)=some v)(z:∀v∈cs,v.oneCell'=true):
 Mv P w [g] (λ_:Unit=> .int .i64 (n:Int)) (λ_ u=>K6 u B e s (some ⟨g,0,none⟩) n c cs) (n_ t t ty (.slice (some ⟨g,0,none⟩) n c) (.slice (some ad) n c2)):=by
 have h:=run_loadCells_list (P:=P) w ad cs f;obtain⟨x,E,k2,G⟩:=l.storeL (P:=P) (j:=0) (vs:=cs) (by rw[l.len,k];omega) z;rw[k]at h;refine⟨(),x,?_,k2,λm H F=> ?_⟩
 .cases o:P.info? e with
  |none=>simp[o]at p
  | some i=>
   have hi:i.size=s:=by simpa[o]using p
   simp only[n_,AM];have:(Builtin.copy_ #[t,t] ty #[.slice (some ⟨g,0,none⟩) n c,.slice (some ad) n c2]).run P w= .ok (goInt n) x:=by
    simp[Builtin.copy_,run_underlying D,Builtin.lenOf,Builtin.firstCells,sizeOf,typeInfo,o,hi,h,E]
   rw[this];rfl
 .have y:=G m H λb A=>F b (.inl A)
  rw[List.take_zero,CI,BG (by rw[l.len,k];omega),CJ]at y;exact y
def Xi(K:Nat->Prop)(b:Nat)(c:List Nat):Prop:=∀(i k:Nat),c[i]? =some k->k<=255/\(K k\/¬K 0/\b<=i)
theorem Xi.any{K:Nat->Prop}{a b:Nat}{c:List Nat}(h:Xi K a c)(g:K 0):Xi K b c:=λi k e=>⟨(h i k e).1,(h i k e).2.elim .inl λf=>absurd g f.1⟩
theorem Xi.set{K:Nat->Prop}{a k:Nat}{g:List Nat}(h:Xi K a g)(f:k<=255/\K k):Xi K (a+1) (g.set a k):=λi x b=>by
 by_cases e:i=a
 .subst e;have j:=(AN.1 b).1;rw[CK]at j;rw[List.getElem?_set_self j]at b;injection b with b;subst b;exact⟨f.1,.inl f.2⟩
 .rw[List.getElem?_set_ne (λc=>e c.symm)]at b;obtain⟨m,l⟩:=h i x b;exact⟨m,l.imp id λc=>⟨c.1,by omega⟩⟩
theorem Xi.zero(K:Nat->Prop)(n:Nat):Xi K 0 (AZ n 0):=λi k b=>by
 obtain⟨_,b⟩:=AN.1 b;rw[List.getElem_replicate]at b;subst b
 by_cases h:K 0
 .exact⟨AD _,.inl h⟩
 .exact⟨AD _,.inr ⟨h,AD _⟩⟩
theorem Xi.done{K:Nat->Prop}{n:Nat}{c:List Nat}(h:Xi K n c)(j:c.length=n):∀b∈c,b<=255/\K b:=λb f=>by
 obtain⟨i,hi,rfl⟩:=List.mem_iff_getElem.1 f;obtain⟨g,e⟩:=h i _ (AB hi);exact⟨g,e.elim id λk=>I⟩
section
variable{w u:YM}{R:Rc}{K:Nat->Prop}{A:YY}{n c N:Nat}{H:List LP}{rule:Int}
theorem cz(j:Nw w A n H)(e:n<=1000000)(g:∀x∈H,x.1.length<=1000000)(b:vL 0 (K5 H)=false):
 Ca 120 #[.slice A n c,.int .i64 rule,R.V] w (CU w (.tuple #[Le T9,.int .i64 12])):=by
 exact uf func120 rfl<|ZR<|vD O<|ZR<|ZC (λk f h=>Oz (c:=c) (j.below f) e g b) λv=>ZI true<|ZW (.tuple #[Le T9,.int .i64 12])
theorem bM(F:O4 R)(hp:Nw w A n H)(hn:n<=1000000)(hv:vL 0 (K5 H)=true)(hV:(K5 H).flatten.length<=600)(hr:rule=1\/rule=2)(hK:∀x y,R.In x y->K (E8 (K5 H) rule x y))(hN:N<=w.heap.size):
 Ca 120 #[.slice A n c,.int .i64 rule,R.V] w (K4 w (λm:MV=> .tuple #[Le m,.int .i64 0]) λm u=>Qf N R K m u):=by
 have hx:=F.x;have hy:=F.y;have hW:=F.W;have hH:=F.H;have hRn:=F.n;have hl:∀x∈H,x.1.length<=1000000:=λx hx=>by
  have:x.1.length<=(K5 H).flatten.length:=List.Sublist.length_le (List.sublist_flatten_of_mem (List.mem_map_of_mem hx));omega
 have e1:∀a b:Int,(if a>b then a else b)=max a b:=λa b=>by split<;>omega
 have e2:∀a b:Int,(if a<b then a else b)=min a b:=λa b=>by split<;>omega
 refine uf func120 rfl<|ZR<|vD O<|ZR<|ZC (λf l h=>Oz (c:=c) (hp.below l) hn hl hv) λv=>uu false O<|ZS 3<|up O 1000 3 20 [21,22] 23 (rule !=2) false ((rule !=1)&&(rule !=2)) O O O Zf N4 λxj1=>ZR<|ZJ ((rule !=1)&&(rule !=2)) false (hr.elim (λe=>by rw[e];rfl) (λe=>by rw[e];rfl))<|ZC (λf l h=>Sz F.r.in_) λv1=>ZI false<|ZC (λf l h=>Y5 F) λa1=>YN ((R.n:Int)>65536)<|ZC (λf l h=>Oy F.r) λc1=>ZD 3 (λf l h=>Y5 F) λa2=>uk (af 108 R.n) (λg:Nat=> .slice (some ⟨g,0,none⟩) R.n R.n) (λg u=>K6 u w.heap.size 5 1 (some ⟨g,0,none⟩) R.n R.n (AZ (R.n*1) (.int .u8 0))) O (λf l h=>QL (z:= .int .u8 0) (bytes:=1) O O rfl Zd I Zd l.size) λg=>ZR<|ZC (λf l h=>oI (c:=c) (hp.below l) hn hv) λpx=> ?_
 obtain⟨⟨D,J,M,wI⟩,Z⟩:=px;have hq:=Z.rng;dsimp only at hq;have hz:∀x y,R.In x y->¬((D<=x/\x<M)/\(J<=y/\y<wI))->K 0:=λx y hi k=>by
  have h1:=hK x y hi;unfold E8 at h1;rw[YS hv,LK (Z.out x y k)]at h1;exact h1
 refine uh 10 (.int .i64 R.y) (.int .i64 (R.y+((0:Nat):Int))) O (by show _=BK .i64 (R.y+0);rw[Int.add_zero])<|uj (ι:={q:Nat×List Nat // q.1<=R.H/\q.2.length=R.n/\Xi K (q.1*R.W) q.2}) 89 (λq=>⟨[vS 0 A n c,vI 1 rule,(5,.p 5 0),(6,.p 6 0),vI 7 0,(8,.p 8 0),(9,.p 9 0),vI 10 (R.y+(q.1.1:Int))],[(5,R.C.map .v),(6,(Ob T9).map .v),(8,(Ob (Mp R (some ⟨g,0,none⟩,R.n))).map .v),(9,[.v (.int .i64 D),.v (.int .i64 J),.v (.int .i64 M),.v (.int .i64 wI)])]⟩) (λq u=>K6 u w.heap.size 5 1 (some ⟨g,0,none⟩) R.n R.n (q.1.2.flatMap Jf)) (λq=>R.H-q.1.1) (⟨(0,AZ R.n 0),AD _,List.length_replicate,by rw[BR];exact Xi.zero _ _⟩) O Zf Zt (λu h=>by rw[Iw (x:=0) (s:=1) (v:= .int .u8 0) rfl];exact h.1.2) ?_
 rintro⟨⟨j,U⟩,hj,o,X⟩ gg;have hj:j<=R.H:=hj;have o:U.length=R.n:=o;have X:Xi K (j*R.W) U:=X
 by_cases B:j<R.H
 case neg=>
  obtain rfl:j=R.H:=I
  refine ZR<|YN (R.y+(R.H:Int)<R.y+R.H)<|ug O<|ZR<|ZV (.tuple #[Le (Mp R (some ⟨g,0,none⟩,R.n)),.int .i64 0]) (λf l h=>⟨Mp R (some ⟨g,0,none⟩,R.n),rfl,l,λu k1 k2=> .row (some ⟨g,0,none⟩,R.n) U ((h u k1 k2).rebase λb hb=>AH hN ((h u k1 k2).lt b hb).1) o ((AY R.H R.W▸X).done o) rfl⟩)
 have hjw:(j+1)*R.W=j*R.W+R.W:=by rw[AR,Nat.one_mul]
 have hjn:=AC R.W (show j+1<=R.H from B);have hWH:R.H*R.W=R.n:=AY _ _;have ey:XQ.wrap (R.y+(j:Int)+1)=R.y+((j+1:Nat):Int):=by rw[AA _ I,Int.add_assoc];rfl
 refine ZR<|ul (decide (R.y+(j:Int)<R.y+R.H)) true O (YU I)<|ZS 5 ?_
 by_cases c1:R.y+(j:Int)<J\/R.y+(j:Int)>=wI
 .have k0:K 0:=hz R.x (R.y+j) (by unfold Rc.In;omega) I;refine up O 1000 5 56 [57,58,59,60] 61 true (decide (R.y+(j:Int)>=wI)) ((decide (R.y+(j:Int)<J))||(decide (R.y+(j:Int)>=wI))) O O O Zf R3 λxj2=>ZR<|ZJ (Bool.or (decide (R.y+(j:Int)<J)) (decide (R.y+(j:Int)>=wI))) true (by simpa using c1)<|uh 10 (.int .i64 (XQ.wrap (R.y+(j:Int)+1))) (.int .i64 (R.y+((j+1:Nat):Int))) O (by rw[ey])<|ui (⟨(j+1,U),B,o,X.any k0⟩) O Zn Zt (λ_ h=>h)
 refine up O 1000 5 56 [57,58,59,60] 61 true (decide (R.y+(j:Int)>=wI)) ((decide (R.y+(j:Int)<J))||(decide (R.y+(j:Int)>=wI))) O O O Zf R3 λxj3=>ZR<|ZJ (Bool.or (decide (R.y+(j:Int)<J)) (decide (R.y+(j:Int)>=wI))) false (by simpa using c1) ?_
 obtain⟨S,wJ⟩:∃S:Nat,(if D>R.x then D else R.x)=R.x+(S:Int):=⟨(max R.x D-R.x).toNat,by split<;>omega⟩
 have h10:D<=R.x+(S:Int):=by rw[<-wJ];split<;>omega
 have hI0:Xi K (j*R.W+min S R.W) U:=by
  by_cases e:S=0
  .subst e;rw[Nat.zero_min,CN];exact X
  .exact X.any (hz R.x (R.y+j) (by unfold Rc.In;omega) (by split at wJ<;>omega))
 refine uh 11 (.int .i64 (if D>R.x then D else R.x)) (.int .i64 (R.x+(S:Int))) O (by rw[wJ])<|uj (ι:={q:Nat×List Nat // D<=R.x+(q.1:Int)/\q.2.length=R.n/\Xi K (j*R.W+min q.1 R.W) q.2}) 89 (λq=>⟨[vS 0 A n c,vI 1 rule,(5,.p 5 0),(6,.p 6 0),vI 7 0,(8,.p 8 0),(9,.p 9 0),vI 10 (R.y+(j:Int)),vI 11 (R.x+(q.1.1:Int))],[(5,R.C.map .v),(6,(Ob T9).map .v),(8,(Ob (Mp R (some ⟨g,0,none⟩,R.n))).map .v),(9,[.v (.int .i64 D),.v (.int .i64 J),.v (.int .i64 M),.v (.int .i64 wI)])]⟩) (λq u=>K6 u w.heap.size 5 1 (some ⟨g,0,none⟩) R.n R.n (q.1.2.flatMap Jf)) (λq=>R.W-q.1.1) (⟨(S,U),h10,o,hI0⟩) O Zf Zt (λ_ h=>h) ?_
 rintro⟨⟨i,cs⟩,Y,E,T⟩ gg2;have Y:D<=R.x+(i:Int):=Y;have E:cs.length=R.n:=E;have T:Xi K (j*R.W+min i R.W) cs:=T
 by_cases c2:i<R.W/\R.x+(i:Int)<M
 case neg=>
  refine ZR<|YK (R.x+(i:Int)<(if M<R.x+R.W then M else R.x+R.W)) (by split<;>omega)<|ug O<|ZR<|uh 10 (.int .i64 (XQ.wrap (R.y+(j:Int)+1))) (.int .i64 (R.y+((j+1:Nat):Int))) O (by rw[ey]) ?_
  have hK2:Xi K ((j+1)*R.W) cs:=by
   rw[hjw]
   by_cases e:i<R.W
   .exact T.any (hz (R.x+i) (R.y+j) (by unfold Rc.In;omega) I)
   .rw[Nat.min_eq_right I]at T;exact T
  refine ui (⟨(j+1,cs),B,E,hK2⟩) O Zn Zt (λ_ h=>h)
 have Q:=GT c2.1 B;obtain⟨k,hk⟩:∃k,k=j*R.W+i:=⟨_,rfl⟩
 rw[<-hk]at Q;obtain⟨b,hb⟩:∃b,b=E8 (K5 H) rule (R.x+(i:Int)) (R.y+(j:Int)):=⟨_,rfl⟩
 have hbk:b<=255/\K b:=by rw[hb];exact⟨kG _ _ _ _,hK _ _ (by unfold Rc.In;omega)⟩
 rw[AU I,<-hk]at T;have cpx:∀f,Below w.heap.size w f->Ca 169 #[.slice A n c,.int .i64 rule,.int .i64 (R.x+(i:Int)),.int .i64 (R.y+(j:Int))] f (CU f (.int .u8 (b:Int))):=λf hw1=>by rw[hb];exact ex (hp.below hw1) hn hl hV hr I I
 refine ZR<|YJ (R.x+(i:Int)<(if M<R.x+R.W then M else R.x+R.W)) (by split<;>omega)<|ZC (λf l h=>fR (x:=R.x+(i:Int)) (y:=R.y+(j:Int)) (k:=k) F c2.1 B hk rfl rfl) λix=>ZD 11 (λf l h=>cpx f l) λcv=>us 11 (Kd 108 (.slice (some ⟨g,0,none⟩) R.n R.n) k) (.pointer (some ⟨g,k*1,none⟩)) O (λf l h=>Kc (elem:=5) O O Q)<|ZS 12 ?_
 have hK3:Xi K (j*R.W+min (i+1) R.W) (cs.set k b):=by
  rw[AU I,<-Nat.add_assoc,<-hk];exact T.set hbk
 refine uE (L:=[g]) (G:=λu=>K6 u w.heap.size 5 1 (some ⟨g,0,none⟩) R.n R.n ((cs.set k b).flatMap Jf)) (Φ':=λu=>K6 u w.heap.size 5 1 (some ⟨g,0,none⟩) R.n R.n ((cs.set k b).flatMap Jf)) (Om 5 ⟨g,k*1,none⟩ (.int .u8 (b:Nat))) (λf l h=>h.1.1.setE (P:=XM) (t:=5) (v:= .int .u8 (b:Nat)) (i:=k) (x:=b) Cr (by rw[E];exact Q) rfl O (Gh _)) (λu h b' hb'=>by obtain rfl:=AE.1 hb';exact⟨(h.1.1.lt b' (by simp[bl])).1,(h.1.1.blk b' (by simp[bl])).2⟩) (λwa u e1 e2 h hG=>hG) O O<|ZR<|YB 11 (R.x+(i:Int)+1) (R.x+((i+1:Nat):Int))<|ui (⟨(i+1,cs.set k b),Zn,by show(cs.set k b).length=R.n;rw[CK];exact E,hK3⟩) O Zn Zt (λ_ h=>h)
end
abbrev wr(x:Int):Int:=XQ.wrap x
def LD(a b:Int):Int:=
 let n:=wr (wr (2*a)+b)
 let d:=wr (2*b)
 if n.tmod d<0 then wr (wr (n.tdiv d)-1)else wr (n.tdiv d)
def GH(a b c:Pt):Int:=
 let x:=wr (wr (a.1-wr (2*b.1))+c.1)
 let y:=wr (wr (a.2-wr (2*b.2))+c.2)
 wr (wr (x*x)+wr (y*y))
section
variable{w u:YM}{A:YY}{n c m:Nat}{l:List Pt}
theorem fz{t:XX}{x y:XZ}{a b:Int}(e:b≠0):(C4 .quo t x y (.int .i64 a) (.int .i64 b)).run XM w= .ok (.value (.int .i64 (wr (a.tdiv b)))) w:=by
 simp only[C4,eqGuard_quo,AM,AX,AL,binOp,Op.intDiv,ne_eq,not_true_eq_false,if_false,e]
theorem bW{t:XX}{x y:XZ}{a b:Int}(e:b≠0):(C4 .rem t x y (.int .i64 a) (.int .i64 b)).run XM w= .ok (.value (.int .i64 (a.tmod b))) w:=by
 simp only[C4,eqGuard_rem,AM,AX,AL,binOp,Op.intDiv,ne_eq,not_true_eq_false,if_false,e]
theorem Gw{a b c:Pt}:Ca 376 #[Km a,Km b,Km c] w (CU w (.int .i64 (GH a b c))):=uf func376 rfl<|ZR<|ZW (.int .i64 (GH a b c))
theorem e9{a b:Int}(f:wr (2*b)≠0):Ca 380 #[.int .i64 a,.int .i64 b] w (CU w (.int .i64 (LD a b))):=by
 refine uf func380 rfl<|ZS 6<|ZS 2<|uw (C4 .quo 3 (.tmp 14) (.tmp 15) (.int .i64 (wr (wr (2*a)+b))) (.int .i64 (wr (2*b)))) (.int .i64 (wr ((wr (wr (2*a)+b)).tdiv (wr (2*b))))) O (λj g h=>fz f)<|ZS 2<|ZA (C4 .rem 3 (.tmp 17) (.tmp 18) (.int .i64 (wr (wr (2*a)+b))) (.int .i64 (wr (2*b)))) (.int .i64 ((wr (wr (2*a)+b)).tmod (wr (2*b)))) (λj g h=>bW f) ?_
 by_cases e:(wr (wr (2*a)+b)).tmod (wr (2*b))<0
 .exact YJ ((wr (wr (2*a)+b)).tmod (wr (2*b))<0) e<|ZX (.int .i64 (wr (wr ((wr (wr (2*a)+b)).tdiv (wr (2*b)))-1))) (by unfold LD;dsimp only;rw[YS e])
 .exact YK ((wr (wr (2*a)+b)).tmod (wr (2*b))<0) e<|ZX (.int .i64 (wr ((wr (wr (2*a)+b)).tdiv (wr (2*b))))) (by unfold LD;dsimp only;rw[YT e])
def qS(need n:Int):Bool:=decide (need<=wr (wr (wr (wr (wr (wr (16*n)*n)*n)*n)*32)*32))
theorem cW{i m:Int}(j:Kk w A n 2 K9 l)(z:n<=100)(y:l.all vP=true)(s:1<=m/\m<=64)(hi:0<=i/\i<=m):Ca 378 #[.slice A n c,.int .i64 i,.int .i64 m] w (CU w (.bool true)):=by
 refine uf func378 rfl<|ZR<|uj (ι:={k:Nat // k<=n}) 34 (λk=>⟨[vI 1 i,vI 2 m,vS 9 A n c,vI 10 (n:Int),vI 11 (k.1:Int)],[]⟩) (λ_ _=>True) (λk=>n-k.1) (⟨0,AD _⟩) O Zf Zt (λu h=>trivial) ?_
 rintro⟨k,f⟩ B;have f:k<=n:=f
 by_cases b:k<n
 case neg=>
  obtain rfl:k=n:=I
  exact ZR<|ul (decide ((k:Int)<(k:Int))) false O (YV I)<|ZS 2<|ug O<|ZS 2<|YD 20 (m>=1) s.1<|ZS 6<|YD 24 (m<=64) s.2<|ZS 10<|YE 28 (i>=0) hi.1<|YD 6 (i<=m) hi.2<|ZW (.bool true)
 obtain⟨p,o⟩:∃p,l[k]? =some p:=⟨_,AB (by rw[j.1];exact b)⟩
 obtain⟨ad,t,x⟩:=j.2 k p o;refine ZR<|YL ((k:Int)<(n:Int))<|ZA (Kd 296 (.slice A n c) k) (.pointer (some (ad.add (k*2)))) (λg e h=>Lh t b)<|ZA (Ke 74 (ad.add (k*2))) (Km p) (λg e h=>M5 λi v hi=>L5 e (x i v hi))<|ZC (λg e h=>Mg (AW.1 y p (AF o))) λD=>ZI false<|YA 11 k b<|ui (⟨k+1,b⟩) O Zn Zt (λ_ _=>trivial)
def U2(need:Int):Nat->Nat->Int×Int
 |_,0=>(0,11)
 |n,f+1=>if qS need n then(n,0)else U2 need (n+1) f
theorem Er(need:Int)(n f:Nat):U2 need n (f+1)=if qS need n then((n:Int),0)else U2 need (n+1) f:=rfl
def Qa(need:Int)(l:List Pt):Int×Int:=if l.all vP=true then U2 need 1 64 else(0,6)
theorem lY{need:Int}(y:Kk w A n 2 K9 l)(K:n<=100):Ca 375 #[.int .i64 need,.int .i64 32,.slice A n c] w (CU w (.tuple #[.int .i64 (Qa need l).1,.int .i64 (Qa need l).2])):=by
 refine uf func375 rfl<|ZR<|ZI false<|uj (ι:={k:Nat // k<=n/\(l.take k).all vP=true}) 46 (λk=>⟨[vI 0 need,vI 1 32,vS 17 A n c,vI 18 (n:Int),vI 19 (k.1:Int)],[]⟩) (λ_ _=>True) (λk=>n-k.1) (⟨0,AD _,rfl⟩) O Zf Zt (λu h=>trivial) ?_
 rintro⟨k,B,e⟩ M;have B:k<=n:=B
 by_cases g:k<n
 case neg=>
  obtain rfl:k=n:=I
  rw[AI (by rw[y.1];exact BH _)]at e;refine ZR<|YN ((k:Int)<(k:Int))<|ug O<|ZR ?_
  have t:Qa need l=U2 need 1 64:=by unfold Qa;rw[YS e]
  refine uj (ι:={j:Nat // (1<=j/\j<=65)/\U2 need j (65-j)=U2 need 1 64}) 46 (λj=>⟨[vI 0 need,vI 1 32,vI 10 (j.1:Int)],[]⟩) (λ_ _=>True) (λj=>65-j.1) (⟨1,by decide,rfl⟩) O Zf Zt (λu h=>trivial) ?_;rintro⟨j,J,b⟩ L
  by_cases G:j<=64
  case neg=>
   obtain rfl:j=65:=I
   exact ZR<|ZI false<|ug O<|ZR<|ZX (.tuple #[.int .i64 0,.int .i64 11]) (by rw[t,<-b];rfl)
  have Z:65-j=(64-j)+1:=I
  rw[Z,Er need j (64-j)]at b;refine ZR<|YL ((j:Int)<=64) ?_
  cases o:qS need j with
  |true=>
   rw[o]at b;exact ZJ (qS need j) true (o)<|ug O<|ZR<|ZX (.tuple #[.int .i64 (j:Int),.int .i64 0]) (by rw[t,<-b];rfl)
  |false=>
  rw[o]at b;refine ZJ (qS need j) false (o)<|YB 10 ((j:Int)+1) ((j+1:Nat):Int)<|ui (⟨j+1,⟨by omega,by omega⟩,by rw[show 65- (j+1)=64-j by omega];exact b⟩) O Zn Zt (λu h=>trivial)
 obtain⟨p,z⟩:∃p,l[k]? =some p:=⟨_,AB (by rw[y.1];exact g)⟩
 obtain⟨ad,E,F⟩:=y.2 k p z;refine ZR<|YL ((k:Int)<(n:Int))<|ZA (Kd 296 (.slice A n c) k) (.pointer (some (ad.add (k*2)))) (λx s h=>Lh E g)<|ZA (Ke 74 (ad.add (k*2))) (Km p) (λx s h=>M5 λi v hi=>L5 s (F i v hi)) ?_
 cases f:vP p with
 |false=>
  have t:Qa need l=(0,6):=by unfold Qa;rw[YT λD=>by rw[AW]at D;rw[D p (AF z)]at f;cases f]
  exact ZC (λx s h=>Mg f) λH=>ZI true<|ug O<|ZR<|ZX (.tuple #[.int .i64 0,.int .i64 6]) (by rw[t])
 |true=>
 refine ZC (λx s h=>Mg f) λH=>ZI false<|YA 19 k g<|ui (⟨k+1,g,by show(l.take (k+1)).all vP=true;rw[L7 z,List.all_append,show(l.take k).all vP=true from e];simp[f]⟩) O Zn Zt (λ_ _=>trivial)
end
section
variable{w u:YM}{A:YY}{n c m:Nat}{l:List Pt}{a b d e:Pt}{W:YM}
theorem FI{need:Int}:∀(f n:Nat),1<=n->(U2 need n f).2=0->(1:Int)<=(U2 need n f).1/\(U2 need n f).1<=n+f-1
 |0,n,g,h=>by cases h
 | f+1,n,g,h=>by
  rw[Er]at h ⊢;split
  .dsimp only;omega
  .rename_i j;rw[YT j]at h;have:=FI f (n+1) I h;omega
theorem Fz{need:Int}(h:(Qa need l).2=0):l.all vP=true/\(1:Int)<=(Qa need l).1/\(Qa need l).1<=64:=by
 unfold Qa at h ⊢;split at h
 .rename_i f;rw[YS f];have:=FI 64 1 (BH _) h;exact⟨f,by omega,by omega⟩
 .cases h
def nA(a b d:Pt):List YI:=[a,b,d].flatMap K9
def ou(a b d e:Pt):List YI:=[a,b,d,e].flatMap K9
abbrev mc(a b d:Pt):YI:= .agg (nA a b d).toArray
abbrev lH(a b d e:Pt):YI:= .agg (ou a b d e).toArray
def an(a b d e:Pt):Int:=wr (9*(if GH b d e>GH a b d then GH b d e else GH a b d))
theorem K8.sub{g off:Nat}{cs vs:List YI}(h:K8 u g cs)(f:∀(j:Nat) (v:YI),vs[j]? =some v->cs[off+j]? =some v):u.rangeAt g off vs:=λj v k=>by
 have:=h.range (off+j) v (f j v k);rw[BN]at this;exact this
theorem JP{l:List Pt}{k:Nat}{p:Pt}(f:l[k]? =some p):∀(j:Nat) (v:YI),(K9 p)[j]? =some v->(l.flatMap K9)[k*2+j]? =some v:=λj v g=>Mr (cl:=K9) (λ_=>rfl) l k p j v f g
theorem K8.row{g:Nat}{l:List Pt}(h:K8 u g (l.flatMap K9)):Kk u (some ⟨g,0,none⟩) l.length 2 K9 l:=by
 obtain⟨ty,h⟩:=h;exact Kk.lit (λ_=>rfl) h
def Ep(k i m x y z:Int):Int:=LD (wr (wr (wr (wr (k*k)*x)+wr (wr (wr (2*i)*k)*y))+wr (wr (i*i)*z))) (wr (m*m))
theorem K8.loadJ{P:YH}{g j:Nat}{cs:List YI}{v:YI}{t:XX}(h:K8 u g cs)(f:Nx P t=some false)(k:cs[j]? =some v):(Ke t ⟨g,j,none⟩).run P u= .ok (.value v) u:=Kh f (by have:=h.range j v k;rw[BN]at this;exact this)
def MO(k i m x y z t:Int):Int:=LD (wr (wr (wr (wr (wr (wr (k*k)*k)*x)+wr (wr (wr (wr (3*i)*k)*k)*y))+wr (wr (wr (wr (3*i)*i)*k)*z))+wr (wr (wr (i*i)*i)*t))) (wr (wr (m*m)*m))
theorem fy:Ca 337 #[mc a b d,.int .i64 32] w (CU w (.tuple #[.int .i64 (Qa (GH a b d) [a,b,d]).1,.int .i64 (Qa (GH a b d) [a,b,d]).2])):=uf func337 rfl<|ZS 0<|uo O (stop:=1000) 3 _<|uq 2 (nA a b d) O O λg p=>ZR<|ZB 1 (Ke 74 ⟨g,0,none⟩) (Km a) (λj f h=>Ka (vs:=K9 a) O O (h.2.sub (JP (k:=0) rfl)))<|ZB 3 (Ke 74 ⟨g,2,none⟩) (Km b) (λj f h=>Ka (vs:=K9 b) O O (h.2.sub (JP (k:=1) rfl)))<|ZB 5 (Ke 74 ⟨g,4,none⟩) (Km d) (λj f h=>Ka (vs:=K9 d) O O (h.2.sub (JP (k:=2) rfl)))<|ZC (λj f h=>Gw (a:=a) (b:=b) (c:=d)) λs=>ZC (λj f h=>lY (need:=GH a b d) (l:=[a,b,d]) (c:=3) h.1.2.row Zs) λo=>ZW (.tuple #[.int .i64 (Qa (GH a b d) [a,b,d]).1,.int .i64 (Qa (GH a b d) [a,b,d]).2])
theorem fA:Ca 342 #[lH a b d e,.int .i64 32] w (CU w (.tuple #[.int .i64 (Qa (an a b d e) [a,b,d,e]).1,.int .i64 (Qa (an a b d e) [a,b,d,e]).2])):=uf func342 rfl<|ZS 0<|uo O (stop:=1000) 3 _<|uq 2 (ou a b d e) O O λg p=>ZR<|ZB 1 (Ke 74 ⟨g,0,none⟩) (Km a) (λj f h=>Ka (vs:=K9 a) O O (h.2.sub (JP (k:=0) rfl)))<|ZB 3 (Ke 74 ⟨g,2,none⟩) (Km b) (λj f h=>Ka (vs:=K9 b) O O (h.2.sub (JP (k:=1) rfl)))<|ZB 5 (Ke 74 ⟨g,4,none⟩) (Km d) (λj f h=>Ka (vs:=K9 d) O O (h.2.sub (JP (k:=2) rfl)))<|ZB 8 (Ke 74 ⟨g,2,none⟩) (Km b) (λj f h=>Ka (vs:=K9 b) O O (h.2.sub (JP (k:=1) rfl)))<|ZB 10 (Ke 74 ⟨g,4,none⟩) (Km d) (λj f h=>Ka (vs:=K9 d) O O (h.2.sub (JP (k:=2) rfl)))<|ZB 12 (Ke 74 ⟨g,6,none⟩) (Km e) (λj f h=>Ka (vs:=K9 e) O O (h.2.sub (JP (k:=3) rfl)))<|ZC (λj f h=>Gw (a:=a) (b:=b) (c:=d)) λs=>ZC (λj f h=>Gw (a:=b) (b:=d) (c:=e)) λsr=>ZC (λj f h=>lY (need:=an a b d e) (l:=[a,b,d,e]) (c:=4) h.1.1.2.row Zs) λo=>ZW (.tuple #[.int .i64 (Qa (an a b d e) [a,b,d,e]).1,.int .i64 (Qa (an a b d e) [a,b,d,e]).2])
theorem fc{o j gn:Nat}{k i m x y z:Int}(s:K8 w o [.int .i64 k])(p:K8 w j [.int .i64 i])(t:K8 w gn [.int .i64 m])(v:wr (2*wr (m*m))≠0):
 Ca 379 #[.int .i64 x,.int .i64 y,.int .i64 z,Kp o,Kp j,Kp gn] w (CU w (.int .i64 (Ep k i m x y z))):=by
 exact uf func379 rfl<|ZR<|ZA (Ke 3 ⟨o,0,none⟩) (.int .i64 k) (λg f h=>(s.bel f).load1 O)<|ZA (Ke 3 ⟨o,0,none⟩) (.int .i64 k) (λg f h=>(s.bel f).load1 O)<|ZA (Ke 3 ⟨j,0,none⟩) (.int .i64 i) (λg f h=>(p.bel f).load1 O)<|ZA (Ke 3 ⟨o,0,none⟩) (.int .i64 k) (λg f h=>(s.bel f).load1 O)<|ZA (Ke 3 ⟨j,0,none⟩) (.int .i64 i) (λg f h=>(p.bel f).load1 O)<|ZA (Ke 3 ⟨j,0,none⟩) (.int .i64 i) (λg f h=>(p.bel f).load1 O)<|ZA (Ke 3 ⟨gn,0,none⟩) (.int .i64 m) (λg f h=>(t.bel f).load1 O)<|ZA (Ke 3 ⟨gn,0,none⟩) (.int .i64 m) (λg f h=>(t.bel f).load1 O)<|ZC (λg f h=>e9 (a:=wr (wr (wr (wr (k*k)*x)+wr (wr (wr (2*i)*k)*y))+wr (wr (i*i)*z))) v) λB=>ZW (.int .i64 (Ep k i m x y z))
theorem qN{m:Int}(h:1<=m/\m<=64):wr (2*wr (m*m))≠0:=by
 have g:1<=m*m:=by have:=Int.mul_le_mul h.1 h.1 Zd I;omega
 have f:m*m<=64*64:=Int.mul_le_mul h.2 h.2 I Zd;unfold wr;rw[AA (m*m) I,AA _ I];omega
theorem rL{i m:Int}(F: [a,b,d].all vP=true)(v:1<=m/\m<=64)(hi:0<=i/\i<=m):
 Ca 341 #[mc a b d,.int .i64 i,.int .i64 m] w (CU w (Km (Ep (wr (m-i)) i m a.1 b.1 d.1,Ep (wr (m-i)) i m a.2 b.2 d.2))):=by
 refine uf func341 rfl<|ZS 0<|uo O (stop:=1000) 4 _<|uq 3 (nA a b d) O O λg Z=>uq 4 [.int .i64 i] O O λo B=>uq 5 [.int .i64 m] O O λp E=>ZR<|ZB 1 (Ke 3 ⟨o,0,none⟩) (.int .i64 i) (λf j h=>h.1.2.load1 O)<|ZB 2 (Ke 3 ⟨p,0,none⟩) (.int .i64 m) (λf j h=>h.2.load1 O)<|ZC (λf j h=>cW (l:=[a,b,d]) (c:=3) h.1.1.2.row Zs F v hi) λH=>ZI false<|ZA (Ke 3 ⟨p,0,none⟩) (.int .i64 m) (λf j h=>h.1.2.load1 O)<|ZA (Ke 3 ⟨o,0,none⟩) (.int .i64 i) (λf j h=>h.1.1.2.load1 O)<|uq 7 [.int .i64 (wr (m-i))] O O λt D=>uo O (stop:=1000) 2 _<|ZT 8 (.func (.func 379) #[] #[Kp t,Kp o,Kp p]) (.func (.func 379) #[] #[Kp t,Kp o,Kp p]) (rfl)<|ZB 3 (Ke 3 ⟨g,0,none⟩) (.int .i64 a.1) (λf j h=>h.1.1.1.1.2.loadJ O rfl)<|ZB 6 (Ke 3 ⟨g,2,none⟩) (.int .i64 b.1) (λf j h=>h.1.1.1.1.2.loadJ O rfl)<|ZB 9 (Ke 3 ⟨g,4,none⟩) (.int .i64 d.1) (λf j h=>h.1.1.1.1.2.loadJ O rfl)<|ZB 14 (Ke 3 ⟨g,1,none⟩) (.int .i64 a.2) (λf j h=>h.1.1.1.1.2.loadJ O rfl)<|ZB 17 (Ke 3 ⟨g,3,none⟩) (.int .i64 b.2) (λf j h=>h.1.1.1.1.2.loadJ O rfl)<|ZB 20 (Ke 3 ⟨g,5,none⟩) (.int .i64 d.2) (λf j h=>h.1.1.1.1.2.loadJ O rfl) ?_
 have s:=qN v;exact ZC (λf j h=>fc (k:=wr (m-i)) (i:=i) (m:=m) (x:=a.1) (y:=b.1) (z:=d.1) h.2 h.1.1.1.2 h.1.1.2 s) λG=>ZC (λf j h=>fc (k:=wr (m-i)) (i:=i) (m:=m) (x:=a.2) (y:=b.2) (z:=d.2) h.1.2 h.1.1.1.1.2 h.1.1.1.2 s) λJ=>ZW (Km (Ep (wr (m-i)) i m a.1 b.1 d.1,Ep (wr (m-i)) i m a.2 b.2 d.2))
theorem eT{o j gn:Nat}{k i m x y z t:Int}(s:K8 w o [.int .i64 k])(p:K8 w j [.int .i64 i])(v:K8 w gn [.int .i64 m])(B:wr (2*wr (wr (m*m)*m))≠0):
 Ca 381 #[.int .i64 x,.int .i64 y,.int .i64 z,.int .i64 t,Kp o,Kp j,Kp gn] w (CU w (.int .i64 (MO k i m x y z t))):=by
 exact uf func381 rfl<|ZR<|ZA (Ke 3 ⟨o,0,none⟩) (.int .i64 k) (λg f h=>(s.bel f).load1 O)<|ZA (Ke 3 ⟨o,0,none⟩) (.int .i64 k) (λg f h=>(s.bel f).load1 O)<|ZA (Ke 3 ⟨o,0,none⟩) (.int .i64 k) (λg f h=>(s.bel f).load1 O)<|ZA (Ke 3 ⟨j,0,none⟩) (.int .i64 i) (λg f h=>(p.bel f).load1 O)<|ZA (Ke 3 ⟨o,0,none⟩) (.int .i64 k) (λg f h=>(s.bel f).load1 O)<|ZA (Ke 3 ⟨o,0,none⟩) (.int .i64 k) (λg f h=>(s.bel f).load1 O)<|ZA (Ke 3 ⟨j,0,none⟩) (.int .i64 i) (λg f h=>(p.bel f).load1 O)<|ZA (Ke 3 ⟨j,0,none⟩) (.int .i64 i) (λg f h=>(p.bel f).load1 O)<|ZA (Ke 3 ⟨o,0,none⟩) (.int .i64 k) (λg f h=>(s.bel f).load1 O)<|ZA (Ke 3 ⟨j,0,none⟩) (.int .i64 i) (λg f h=>(p.bel f).load1 O)<|ZA (Ke 3 ⟨j,0,none⟩) (.int .i64 i) (λg f h=>(p.bel f).load1 O)<|ZA (Ke 3 ⟨j,0,none⟩) (.int .i64 i) (λg f h=>(p.bel f).load1 O)<|ZA (Ke 3 ⟨gn,0,none⟩) (.int .i64 m) (λg f h=>(v.bel f).load1 O)<|ZA (Ke 3 ⟨gn,0,none⟩) (.int .i64 m) (λg f h=>(v.bel f).load1 O)<|ZA (Ke 3 ⟨gn,0,none⟩) (.int .i64 m) (λg f h=>(v.bel f).load1 O)<|ZC (λg f h=>e9 (a:=wr (wr (wr (wr (wr (wr (k*k)*k)*x)+wr (wr (wr (wr (3*i)*k)*k)*y))+wr (wr (wr (wr (3*i)*i)*k)*z))+wr (wr (wr (i*i)*i)*t))) B) λD=>ZW (.int .i64 (MO k i m x y z t))
theorem sf{m:Int}(h:1<=m/\m<=64):wr (2*wr (wr (m*m)*m))≠0:=by
 have g:1<=m*m:=by have:=Int.mul_le_mul h.1 h.1 Zd I;omega
 have f:m*m<=64*64:=Int.mul_le_mul h.2 h.2 I Zd;have j:1<=m*m*m:=by have:=Int.mul_le_mul g h.1 Zd I;omega
 have k:m*m*m<=64*64*64:=Int.mul_le_mul f h.2 I Zd;unfold wr;rw[AA (m*m) I,AA (m*m*m) I,AA _ I];omega
theorem qH{i m:Int}(G: [a,b,d,e].all vP=true)(B:1<=m/\m<=64)(hi:0<=i/\i<=m):
 Ca 344 #[lH a b d e,.int .i64 i,.int .i64 m] w (CU w (Km (MO (wr (m-i)) i m a.1 b.1 d.1 e.1,MO (wr (m-i)) i m a.2 b.2 d.2 e.2))):=by
 refine uf func344 rfl<|ZS 0<|uo O (stop:=1000) 4 _<|uq 3 (ou a b d e) O O λg J=>uq 4 [.int .i64 i] O O λo D=>uq 5 [.int .i64 m] O O λp F=>ZR<|ZB 1 (Ke 3 ⟨o,0,none⟩) (.int .i64 i) (λf j h=>h.1.2.load1 O)<|ZB 2 (Ke 3 ⟨p,0,none⟩) (.int .i64 m) (λf j h=>h.2.load1 O)<|ZC (λf j h=>cW (l:=[a,b,d,e]) (c:=4) h.1.1.2.row Zs G B hi) λZ=>ZI false<|ZA (Ke 3 ⟨p,0,none⟩) (.int .i64 m) (λf j h=>h.1.2.load1 O)<|ZA (Ke 3 ⟨o,0,none⟩) (.int .i64 i) (λf j h=>h.1.1.2.load1 O)<|uq 7 [.int .i64 (wr (m-i))] O O λv E=>uo O (stop:=1000) 2 _<|ZT 8 (.func (.func 381) #[] #[Kp v,Kp o,Kp p]) (.func (.func 381) #[] #[Kp v,Kp o,Kp p]) (rfl)<|ZB 3 (Ke 3 ⟨g,0,none⟩) (.int .i64 a.1) (λf j h=>h.1.1.1.1.2.loadJ O rfl)<|ZB 6 (Ke 3 ⟨g,2,none⟩) (.int .i64 b.1) (λf j h=>h.1.1.1.1.2.loadJ O rfl)<|ZB 9 (Ke 3 ⟨g,4,none⟩) (.int .i64 d.1) (λf j h=>h.1.1.1.1.2.loadJ O rfl)<|ZB 12 (Ke 3 ⟨g,6,none⟩) (.int .i64 e.1) (λf j h=>h.1.1.1.1.2.loadJ O rfl)<|ZB 17 (Ke 3 ⟨g,1,none⟩) (.int .i64 a.2) (λf j h=>h.1.1.1.1.2.loadJ O rfl)<|ZB 20 (Ke 3 ⟨g,3,none⟩) (.int .i64 b.2) (λf j h=>h.1.1.1.1.2.loadJ O rfl)<|ZB 23 (Ke 3 ⟨g,5,none⟩) (.int .i64 d.2) (λf j h=>h.1.1.1.1.2.loadJ O rfl)<|ZB 26 (Ke 3 ⟨g,7,none⟩) (.int .i64 e.2) (λf j h=>h.1.1.1.1.2.loadJ O rfl) ?_
 have s:=sf B;exact ZC (λf j h=>eT (k:=wr (m-i)) (i:=i) (m:=m) (x:=a.1) (y:=b.1) (z:=d.1) (t:=e.1) h.2 h.1.1.1.2 h.1.1.2 s) λH=>ZC (λf j h=>eT (k:=wr (m-i)) (i:=i) (m:=m) (x:=a.2) (y:=b.2) (z:=d.2) (t:=e.2) h.1.2 h.1.1.1.1.2 h.1.1.1.2 s) λK=>ZW (Km (MO (wr (m-i)) i m a.1 b.1 d.1 e.1,MO (wr (m-i)) i m a.2 b.2 d.2 e.2))
end
abbrev oY:=Nat×(YZ)
structure AJ(W:YM)(go:Nat)(xs:List Pt)(s:oY)(k:Nat)(u:YM):Prop where
 kk:s.1=k
 box:Kg u go 296 [.slice s.2.1 k s.2.2]
 own:K6 u W.heap.size 74 2 s.2.1 k s.2.2 ((xs.take k).flatMap K9)
def pQ(go:Nat)(s:oY):List Nat:=go::bl s.2.1
structure AG(W:YM)(go:Nat)(xs:List Pt)(s s':oY)(u:YM):Prop where
 kk:s'.1=s.1+1
 box:Kg u go 296 [.slice s'.2.1 (s.1+1) s'.2.2]
 own:K6 u W.heap.size 74 2 s'.2.1 (s.1+1) s'.2.2 ((xs.take (s.1+1)).flatMap K9)
section
variable{w W w0 wa u:YM}{go l k:Nat}{xs:List Pt}{s s':oY}
theorem Eo{x:Nat}:x∈pQ go s↔x=go\/x∈bl s.2.1:=by unfold pQ;simp
theorem wH(c:W.heap.size<=go):Ub W (pQ go s) (AJ W go xs s k):=λu h x b=>by
 rcases Eo.1 b with rfl|b
 .exact⟨c,h.box.own⟩
 .exact⟨(h.own.blk x b).1,(h.own.blk x b).2⟩
theorem AJ.left:Tg (pQ go s) (AJ W go xs s k) (AG W go xs s s') (AJ W go xs s' (k+1)):=λwa u f e h b=>by
 have c:=h.kk;subst c;exact⟨b.kk,b.box,b.own⟩
theorem wv:D3 (AJ W go xs s k):=λwa u c b h=>
 ⟨h.kk,uT wa u c b h.box,uV wa u c b h.own⟩
structure tJ(W w0:YM)(l:Nat)(rc:Loop)(go:Nat)(xs:List Pt)(s:oY)(y':YZ)(u:YM):Prop where
 f:VH W w0 l (pQ go s) rc u
 own:K6 u W.heap.size 74 2 y'.1 (s.1+1) y'.2 ((xs.take (s.1+1)).flatMap K9)
 bk:∀b∈bl y'.1,b∈bl s.2.1\/w0.heap.size<=b
theorem aZ{z:YZ}{acc:List Pt}{p:Pt}{B m M g:Nat}(y:K6 u B 74 2 z.1 m z.2 (acc.flatMap K9))(A:B<=u.heap.size)(D:M<=u.heap.size)(o:Kw 74 (K9 p).toArray g u)(E:m<=10000000):
 Mv XM u (bl z.1) (λz:YZ=> .slice z.1 (m+1) z.2) (λz' v=>K6 v B 74 2 z'.1 (m+1) z'.2 ((acc++ [p]).flatMap K9)/\∀b∈bl z'.1,b∈bl z.1\/M<=b) (My 296 296 (.slice z.1 m z.2) (Kr 1 g)):=by
 have j:=M2 (P:=XM) (s:=2) (z:=pt 0 0) (bytes:=16) (m:=1) (cc:=1) (t:=296) (elem:=74) O O rfl Zd y A (Mc (n:=1) o rfl) (by intro v c;simp[K9]at c;rcases c with rfl|rfl<;>rfl) I Zd;have e:(acc++ [p]).flatMap K9=acc.flatMap K9++(K9 p).toArray.toList:=Zs
 rw[e];refine O7 j λz' h b x=> ?_
 rcases h b x with f|f
 .exact .inl f
 .exact .inr I
theorem mn{gn ga:Nat}(hxl:xs.length<=1000)(N:Jt XM w 377 #[Kp gn,Kp ga] (λp:Pt=> #[Km p]) xs λ_=>True):
 Ca 338 #[.func (.func 377) #[] #[Kp gn,Kp ga]] w (K4 w (λy:YZ=> .slice y.1 xs.length y.2) λy u=>K6 u w.heap.size 74 2 y.1 xs.length y.2 (xs.flatMap K9)):=by
 refine u4 func338 rfl (Below.refl _ _)<|ZS 0<|uo O (stop:=1000) 1 _<|ZS 0<|uk (Vz 296) (Kp) (λg u=>Kg u g 296 [.slice none 0 0]/\w.heap.size<=g/\g∉[]) O (λj m h=>Ny (z:= .slice none 0 0) O m.size Zs) λgo=>ZR<|um (p:=w.heap.size<=go) (λu hu h=>h.2.2.1) O λB=>ve (α:=Pt) (gf:=377) (lb:= #[Kp gn,Kp ga]) (ps:= #[6]) (encs:=λp=> #[Km p]) (xs:=xs) (Pre:=λ_=>True) oY (λs k u=>AJ w go xs s k u) (pQ go) (λs s' u=>AG w go xs s s' u) (0,(none,0)) O (λj m h=>N) (enters_of func377 O rfl) (λx=>rfl) (λs k u h=>trivial) (λs k=>wH B) (λs k s'=>AJ.left) (λs k=>wv) (λu h=>⟨rfl,h.2.1,uG⟩) (λl s k' x w0 fn tmps D Q Y wJ P o Z c R hR=> ?_) (λs D hD=> ?_)
 rotate_left
 .obtain⟨wI,y⟩:=s;refine ZR<|ZA (Ke 296 ⟨go,0,none⟩) (.slice y.1 xs.length y.2) (λj m h=>h.1.box.load1 O)<|vK (v:= .slice y.1 xs.length y.2) (J:=λu=>AJ w go xs (wI,y) xs.length u) (λwa u M A h=>wv wa u M A h) hD O (λj m h=>⟨y,rfl,m,λu F k2=>by have A:=(h u ⟨F,λb M A=>k2 b M A⟩).own;rw[List.take_length]at A;exact A⟩)
 have K:=c _ w0 ⟨BH _,λ_ _ _ _=>rfl,o⟩;obtain rfl:s.1=k':=K.kk;have hkl:s.1<xs.length:=(AN.1 Z).1;have U:xs.take (s.1+1)=xs.take s.1++ [x]:=L7 Z;refine ZR<|vt O Y<|ZR<|ZA (Ke 296 ⟨go,0,none⟩) (.slice s.2.1 s.1 s.2.2) (λj m h=>(c _ j h).box.load1 O)<|uk (Lr 296 1 #[(0,Km x)]) (Kr 1) (Kw 74 (K9 x).toArray) O (λj m h=>Kj O) λgb=>ZS 3<|uA (L:=bl s.2.1) (val:=λz':YZ=> .slice z'.1 (s.1+1) z'.2) (Φ':=λz' u=>tJ w w0 l (Xf fn tmps #[6] _ _ D .busy) go xs s z' u/\Kg u go 296 [.slice s.2.1 s.1 s.2.2]) (G:=λz' v=>K6 v w.heap.size 74 2 z'.1 (s.1+1) z'.2 ((xs.take (s.1+1)).flatMap K9)/\∀b∈bl z'.1,b∈bl s.2.1\/w0.heap.size<=b) (My 296 296 (.slice s.2.1 s.1 s.2.2) (Kr 1 gb)) (λj m h=>by rw[U];exact aZ (c _ j h.1).own m.size h.1.1 h.2 I) (λu h=>(c _ u h.1).own.blk) (λz' wa u T E h H=>⟨⟨VH.left ⟨h.1.1,λb F k2 k3 _=>h.1.2.1 b F k2 k3,h.1.2.2⟩ T E (λb e=> .inl (Eo.2 (.inr e))) (λb e=>((c _ wa h.1).own.blk b e).2),H.1,H.2⟩,(c _ wa h.1).box.left E (λe=>(c _ wa h.1).box.ne (c _ wa h.1).own Zd _ e rfl)⟩) O O λz'=>ZR<|ur (L:=[go]) (G:=λu=>Kg u go 296 [.slice z'.1 (s.1+1) z'.2]) (Φ':=λu=>tJ w w0 l (Xf fn tmps #[6] _ _ D .busy) go xs s z' u/\Kg u go 296 [.slice z'.1 (s.1+1) z'.2]) (Om 296 ⟨go,0,none⟩ (.slice z'.1 (s.1+1) z'.2)) (λj m h=>h.2.store O rfl (λv S=>by have S:=AE.1 S;subst S;rfl)) (λu h=>Za ⟨B,h.2.own⟩) (λwa u T E h H=>⟨⟨h.1.f.left T E (λb e=> .inl (Eo.2 (.inl (AE.1 e)))) (λb e=>by have e:=AE.1 e;subst e;exact h.2.own),h.1.own.left E (λb e hc=>h.2.ne h.1.own Zd b e (AE.1 hc)),h.1.bk⟩,H⟩) O O<|ZR<|vm ((s.1+1,z'):oY) O Y wJ P o Q (λj hw1 h=> ?_)
 have t:=h j ⟨BH _,λ_ _ _=>rfl⟩;refine⟨t.1.f.2.2,t.1.f.1,t.1.f.2.1,λu F k2=>⟨rfl,t.2.to (k2 go (.inl (Eo.2 (.inl rfl)))),t.1.own.same λb e=>k2 b ?_⟩⟩;rcases t.1.bk b e with X|X
 .exact .inl (Eo.2 (.inr X))
 .exact .inr ⟨X,(t.1.own.lt b e).2⟩
end
def I0(a b d:Pt)(m i:Int):Pt:=(Ep (wr (m-i)) i m a.1 b.1 d.1,Ep (wr (m-i)) i m a.2 b.2 d.2)
def Jc(a b d e:Pt)(m i:Int):Pt:=(MO (wr (m-i)) i m a.1 b.1 d.1 e.1,MO (wr (m-i)) i m a.2 b.2 d.2 e.2)
def R8(F:Int->Pt)(m:Nat):List Pt:=(List.range m).map λi=>F ((i+1:Nat):Int)
theorem Wn{F:Int->Pt}{m k:Nat}(h:k<m):(R8 F m)[k]? =some (F ((k+1:Nat):Int)):=by
 unfold R8;rw[BD,List.getElem?_range h];rfl
theorem Sv{F:Int->Pt}{m:Nat}:(R8 F m).length=m:=by simp[R8]
section
variable{w W u:YM}{a b d e:Pt}{gq gn g2 ga m:Nat}
theorem kZ{i:Int}(k:K8 w gq (nA a b d))(j:K8 w gn [.int .i64 (m:Int)])(g: [a,b,d].all vP=true)(l:1<=(m:Int)/\(m:Int)<=64)(hi:0<=i/\i<=m):
 Ca 340 #[.int .i64 i,Kp gq,Kp gn] w (CU w (Km (I0 a b d m i))):=by
 exact uf func340 rfl<|ZR<|ZA (Ke 382 ⟨gq,0,none⟩) (mc a b d) (λf c h=>Ka (vs:=nA a b d) O O (k.bel c).range)<|ZA (Ke 3 ⟨gn,0,none⟩) (.int .i64 (m:Int)) (λf c h=>(j.bel c).load1 O)<|ZC (λf c h=>rL g l hi) λq=>ZW (Km (I0 a b d m i))
theorem cd{i:Int}(k:K8 w gq (ou a b d e))(j:K8 w gn [.int .i64 (m:Int)])(g: [a,b,d,e].all vP=true)(l:1<=(m:Int)/\(m:Int)<=64)(hi:0<=i/\i<=m):
 Ca 343 #[.int .i64 i,Kp gq,Kp gn] w (CU w (Km (Jc a b d e m i))):=by
 exact uf func343 rfl<|ZR<|ZA (Ke 384 ⟨gq,0,none⟩) (lH a b d e) (λf c h=>Ka (vs:=ou a b d e) O O (k.bel c).range)<|ZA (Ke 3 ⟨gn,0,none⟩) (.int .i64 (m:Int)) (λf c h=>(j.bel c).load1 O)<|ZC (λf c h=>qH g l hi) λq=>ZW (Km (Jc a b d e m i))
theorem ac(H:K8 W gq (nA a b d))(Q:K8 W gn [.int .i64 (m:Int)])(B:K8 W g2 [.int .i64 (m:Int)])(R:K8 W ga [.func (.func 340) #[] #[Kp gq,Kp gn]])(Z: [a,b,d].all vP=true)(S:1<=(m:Int)/\(m:Int)<=64):
 Jt XM W 377 #[Kp g2,Kp ga] (λp:Pt=> #[Km p]) (R8 (I0 a b d m) m) (λ_=>True):=by
 intro l ι J L G A w E y t g M K;refine uB func377 rfl E<|uN (Φ':=λu=>J A 0 u/\w.heap.size<=u.heap.size) O (λu f=>⟨K u f,f.1⟩)<|ZR<|uj (ι:={q:ι×Nat // q.2<=m}) 16 (λq=>⟨[vV 0 (.func (.yield l) #[] #[]),vV 1 (Kp g2),vV 2 (Kp ga),vI 4 ((q.1.2+1:Nat):Int)],[]⟩) (λq u=>J q.1.1 q.1.2 u/\w.heap.size<=u.heap.size) (λq=>m-q.1.2) (⟨(A,0),AD _⟩) O Zf Zt (λ_ h=>h) ?_
 rintro⟨⟨s,k⟩,z⟩ T;have z:k<=m:=z
 by_cases o:k<m
 case neg=>
  obtain rfl:k=m:=I
  refine ZR<|ZA (Ke 3 ⟨g2,0,none⟩) (.int .i64 (k:Int)) (λj c h=>(B.bel c).load1 O)<|YN (((k+1:Nat):Int)<=(k:Int))<|ug O<|ZR<|ZV (.tuple #[]) (λj c h=>⟨⟨_,rfl⟩,c,(Yh h).2,s,λu f=>by rw[Sv];exact(h u f.1 f.2).1⟩)
 refine ZR<|ZA (Ke 3 ⟨g2,0,none⟩) (.int .i64 (m:Int)) (λj c h=>(B.bel c).load1 O)<|YL (((k+1:Nat):Int)<=(m:Int))<|ZA (Ke 405 ⟨ga,0,none⟩) (.func (.func 340) #[] #[Kp gq,Kp gn]) (λj c h=>(R.bel c).load1 O)<|ZC (λj c h=>kZ (i:=((k+1:Nat):Int)) (H.bel c) (Q.bel c) Z S ⟨by omega,by omega⟩) λp=>vC (L:=L s) (val:=λ_:ι=> .bool true) (G:=G s) (Φ':=λv u=>J v (k+1) u/\w.heap.size<=u.heap.size) (l:=l) (args:= #[Km (I0 a b d m ((k+1:Nat):Int))]) (λj wI x=>M s k (I0 a b d m ((k+1:Nat):Int)) j wI (λu f=>(x u f).1.1) (Wn o)) (λu h=>t s k u h.1.1) (λv F u D P h N=>⟨g s k v F u D P h.1.1 N,by rw[<-D];exact h.1.2⟩) O O λv=>ZR<|ZI false<|YB 4 (((k+1:Nat):Int)+1) ((k+1+1:Nat):Int)<|ui (⟨(v,k+1),o⟩) O Zn Zt (λ_ h=>h)
theorem QO(H:K8 W gq (ou a b d e))(Q:K8 W gn [.int .i64 (m:Int)])(B:K8 W g2 [.int .i64 (m:Int)])(R:K8 W ga [.func (.func 343) #[] #[Kp gq,Kp gn]])(Z: [a,b,d,e].all vP=true)(S:1<=(m:Int)/\(m:Int)<=64):
 Jt XM W 377 #[Kp g2,Kp ga] (λp:Pt=> #[Km p]) (R8 (Jc a b d e m) m) (λ_=>True):=by
 intro l ι J L G A w E y t g M K;refine uB func377 rfl E<|uN (Φ':=λu=>J A 0 u/\w.heap.size<=u.heap.size) O (λu f=>⟨K u f,f.1⟩)<|ZR<|uj (ι:={q:ι×Nat // q.2<=m}) 16 (λq=>⟨[vV 0 (.func (.yield l) #[] #[]),vV 1 (Kp g2),vV 2 (Kp ga),vI 4 ((q.1.2+1:Nat):Int)],[]⟩) (λq u=>J q.1.1 q.1.2 u/\w.heap.size<=u.heap.size) (λq=>m-q.1.2) (⟨(A,0),AD _⟩) O Zf Zt (λ_ h=>h) ?_
 rintro⟨⟨s,k⟩,z⟩ T;have z:k<=m:=z
 by_cases o:k<m
 case neg=>
  obtain rfl:k=m:=I
  refine ZR<|ZA (Ke 3 ⟨g2,0,none⟩) (.int .i64 (k:Int)) (λj c h=>(B.bel c).load1 O)<|YN (((k+1:Nat):Int)<=(k:Int))<|ug O<|ZR<|ZV (.tuple #[]) (λj c h=>⟨⟨_,rfl⟩,c,(Yh h).2,s,λu f=>by rw[Sv];exact(h u f.1 f.2).1⟩)
 refine ZR<|ZA (Ke 3 ⟨g2,0,none⟩) (.int .i64 (m:Int)) (λj c h=>(B.bel c).load1 O)<|YL (((k+1:Nat):Int)<=(m:Int))<|ZA (Ke 405 ⟨ga,0,none⟩) (.func (.func 343) #[] #[Kp gq,Kp gn]) (λj c h=>(R.bel c).load1 O)<|ZC (λj c h=>cd (i:=((k+1:Nat):Int)) (H.bel c) (Q.bel c) Z S ⟨by omega,by omega⟩) λp=>vC (L:=L s) (val:=λ_:ι=> .bool true) (G:=G s) (Φ':=λv u=>J v (k+1) u/\w.heap.size<=u.heap.size) (l:=l) (args:= #[Km (Jc a b d e m ((k+1:Nat):Int))]) (λj wI x=>M s k (Jc a b d e m ((k+1:Nat):Int)) j wI (λu f=>(x u f).1.1) (Wn o)) (λu h=>t s k u h.1.1) (λv F u D P h N=>⟨g s k v F u D P h.1.1 N,by rw[<-D];exact h.1.2⟩) O O λv=>ZR<|ZI false<|YB 4 (((k+1:Nat):Int)+1) ((k+1+1:Nat):Int)<|ui (⟨(v,k+1),o⟩) O Zn Zt (λ_ h=>h)
end
def Uj(a b d:Pt):List Pt×Int:=if (Qa (GH a b d) [a,b,d]).2=0 then(R8 (I0 a b d (Qa (GH a b d) [a,b,d]).1) (Qa (GH a b d) [a,b,d]).1.toNat,0)else([],(Qa (GH a b d) [a,b,d]).2)
def Rj(a b d e:Pt):List Pt×Int:=if (Qa (an a b d e) [a,b,d,e]).2=0 then(R8 (Jc a b d e (Qa (an a b d e) [a,b,d,e]).1) (Qa (an a b d e) [a,b,d,e]).1.toNat,0)else([],(Qa (an a b d e) [a,b,d,e]).2)
section
variable{w W u:YM}{a b d e:Pt}{N:Nat}
theorem MS{m:Int}{fid:XU}{gq gn:Nat}:Ca 339 #[.int .i64 m,.func (.func fid) #[] #[Kp gq,Kp gn]] w (K4 w (λq:Nat×Nat=> .func (.func 377) #[] #[Kp q.1,Kp q.2]) λq u=>K8 u q.1 [.int .i64 m]/\K8 u q.2 [.func (.func fid) #[] #[Kp gq,Kp gn]]):=by
 refine uf func339 rfl<|ZS 0<|uk (B0 3 (.int .i64 m)) (Kp) (λg u=>Kg u g 3 [.int .i64 m]/\w.heap.size<=g/\g∉[]) O (λl c h=>Qn (v:= .int .i64 m) c.size Zs) λj=>ZS 1<|uk (B0 405 (.func (.func fid) #[] #[Kp gq,Kp gn])) (Kp) (λg u=>Kg u g 405 [.func (.func fid) #[] #[Kp gq,Kp gn]]/\w.heap.size<=g/\g∉[]) O (λl c h=>Qn (v:= .func (.func fid) #[] #[Kp gq,Kp gn]) c.size Zs) λk=>ZR<|ZV (.func (.func 377) #[] #[Kp j,Kp k]) (λl c h=>⟨(j,k),rfl,c,λu f k2=>⟨⟨_,(h u f k2).1.2.1⟩,⟨_,(h u f k2).2.1⟩⟩⟩)
theorem ot(E:N<=w.heap.size):Ca 302 #[mc a b d,.int .i64 32] w (K4 w (λy:YZ=> .tuple #[.slice y.1 (Uj a b d).1.length y.2,.int .i64 (Uj a b d).2]) λy u=>K6 u N 74 2 y.1 (Uj a b d).1.length y.2 ((Uj a b d).1.flatMap K9)):=by
 obtain⟨p,c⟩:∃p,p=Qa (GH a b d) [a,b,d]:=⟨_,rfl⟩
 refine uf func302 rfl<|ZS 0<|uk (B0 382 (mc a b d)) (Kp) (λg u=>Kg u g 382 (nA a b d)/\w.heap.size<=g/\g∉[]) O (λj f h=>Qn (v:=mc a b d) f.size Zs) λgq=>ZR<|ZA (Ke 382 ⟨gq,0,none⟩) (mc a b d) (λj f h=>h.2.1.loadN O O) ?_
 by_cases t:p.2=0
 case neg=>
  have s:Uj a b d=([],p.2):=by unfold Uj;rw[<-c,YT t]
  refine ZC (λj f h=>fy (w:=j) (a:=a) (b:=b) (d:=d)) λH=>ZJ ((Qa (GH a b d) [a,b,d]).2 !=0) true (by rw[<-c];exact bne_iff_ne.2 t)<|ZV (.tuple #[.slice none 0 0,.int .i64 (Qa (GH a b d) [a,b,d]).2]) (λj f h=>⟨(none,0),by rw[s,<-c];rfl,f,λu A k2=>by rw[s];exact uG⟩)
 have o:=Fz (need:=GH a b d) (l:=[a,b,d]) (by rw[<-c];exact t);have s:Uj a b d=(R8 (I0 a b d p.1) p.1.toNat,0):=by unfold Uj;rw[<-c,YS t]
 obtain⟨m,B⟩:∃m:Nat,p.1=(m:Int):=⟨p.1.toNat,by rw[c];omega⟩
 rw[<-c,B]at o;rw[B,BE]at s;have F:∀w,Ca 337 #[mc a b d,.int .i64 32] w (CU w (.tuple #[.int .i64 (m:Int),.int .i64 0])):=by
  intro w;have:=fy (w:=w) (a:=a) (b:=b) (d:=d);rw[<-c,B,t]at this;exact this
 refine ZC (λj f h=>F j) λH=>ZI false<|uq 6 [.int .i64 (m:Int)] O O λgn G=>ZR<|ZC (λj f h=>MS (m:=(m:Int)) (fid:=340) (gq:=gq) (gn:=gn)) λst=>ZC (λj f h=>(mn (xs:=R8 (I0 a b d m) m) (gn:=st.1) (ga:=st.2) (by rw[Sv];omega) (ac ⟨_,h.1.1.1.2.1⟩ h.1.2 h.2.1 h.2.2 o.1 ⟨o.2.1,o.2.2⟩)).mono λZ J k=>k.cast (G':=λy u=>K6 u w.heap.size 74 2 y.1 (R8 (I0 a b d m) m).length y.2 ((R8 (I0 a b d m) m).flatMap K9)) λy u D=>D.rebase λb z=>AH f.size (D.lt b z).1) λx=> ?_
 refine ZV (.tuple #[.slice x.1 (R8 (I0 a b d m) m).length x.2,.int .i64 0]) (λj f h=>⟨x,by rw[s],f,λu A k2=>by rw[s];exact(h u A k2).2.rebase λb z=>AH E ((h u A k2).2.lt b z).1⟩)
theorem g_(E:N<=w.heap.size):Ca 303 #[lH a b d e,.int .i64 32] w (K4 w (λy:YZ=> .tuple #[.slice y.1 (Rj a b d e).1.length y.2,.int .i64 (Rj a b d e).2]) λy u=>K6 u N 74 2 y.1 (Rj a b d e).1.length y.2 ((Rj a b d e).1.flatMap K9)):=by
 obtain⟨p,c⟩:∃p,p=Qa (an a b d e) [a,b,d,e]:=⟨_,rfl⟩
 refine uf func303 rfl<|ZS 0<|uk (B0 384 (lH a b d e)) (Kp) (λg u=>Kg u g 384 (ou a b d e)/\w.heap.size<=g/\g∉[]) O (λj f h=>Qn (v:=lH a b d e) f.size Zs) λgq=>ZR<|ZA (Ke 384 ⟨gq,0,none⟩) (lH a b d e) (λj f h=>h.2.1.loadN O O) ?_
 by_cases t:p.2=0
 case neg=>
  have s:Rj a b d e=([],p.2):=by unfold Rj;rw[<-c,YT t]
  refine ZC (λj f h=>fA (w:=j) (a:=a) (b:=b) (d:=d) (e:=e)) λH=>ZJ ((Qa (an a b d e) [a,b,d,e]).2 !=0) true (by rw[<-c];exact bne_iff_ne.2 t)<|ZV (.tuple #[.slice none 0 0,.int .i64 (Qa (an a b d e) [a,b,d,e]).2]) (λj f h=>⟨(none,0),by rw[s,<-c];rfl,f,λu A k2=>by rw[s];exact uG⟩)
 have o:=Fz (need:=an a b d e) (l:=[a,b,d,e]) (by rw[<-c];exact t);have s:Rj a b d e=(R8 (Jc a b d e p.1) p.1.toNat,0):=by unfold Rj;rw[<-c,YS t]
 obtain⟨m,B⟩:∃m:Nat,p.1=(m:Int):=⟨p.1.toNat,by rw[c];omega⟩
 rw[<-c,B]at o;rw[B,BE]at s;have F:∀w,Ca 342 #[lH a b d e,.int .i64 32] w (CU w (.tuple #[.int .i64 (m:Int),.int .i64 0])):=by
  intro w;have:=fA (w:=w) (a:=a) (b:=b) (d:=d) (e:=e);rw[<-c,B,t]at this;exact this
 refine ZC (λj f h=>F j) λH=>ZI false<|uq 6 [.int .i64 (m:Int)] O O λgn G=>ZR<|ZC (λj f h=>MS (m:=(m:Int)) (fid:=343) (gq:=gq) (gn:=gn)) λst=>ZC (λj f h=>(mn (xs:=R8 (Jc a b d e m) m) (gn:=st.1) (ga:=st.2) (by rw[Sv];omega) (QO ⟨_,h.1.1.1.2.1⟩ h.1.2 h.2.1 h.2.2 o.1 ⟨o.2.1,o.2.2⟩)).mono λZ J k=>k.cast (G':=λy u=>K6 u w.heap.size 74 2 y.1 (R8 (Jc a b d e m) m).length y.2 ((R8 (Jc a b d e m) m).flatMap K9)) λy u D=>D.rebase λb z=>AH f.size (D.lt b z).1) λx=> ?_
 refine ZV (.tuple #[.slice x.1 (R8 (Jc a b d e m) m).length x.2,.int .i64 0]) (λj f h=>⟨x,by rw[s],f,λu A k2=>by rw[s];exact(h u A k2).2.rebase λb z=>AH E ((h u A k2).2.lt b z).1⟩)
def O5(p:Pt)(s:Sg):List Pt×Int:=if s.v=3 then Uj p (s.ax,s.ay) (s.bx,s.by_)else if s.v=4 then Rj p (s.ax,s.ay) (s.bx,s.by_) (s.cx,s.cy)else([(s.ax,s.ay)],0)
theorem VU{p:Pt}{s:Sg}(t:N<=w.heap.size):Ca 266 #[Km p,s.val,.int .i64 32] w (K4 w (λy:YZ=> .tuple #[.slice y.1 (O5 p s).1.length y.2,.int .i64 (O5 p s).2]) λy u=>K6 u N 74 2 y.1 (O5 p s).1.length y.2 ((O5 p s).1.flatMap K9)):=by
 refine uf func266 rfl<|ZR ?_
 by_cases j:s.v=3
 .have k:O5 p s=Uj p (s.ax,s.ay) (s.bx,s.by_):=by unfold O5;rw[YS j]
  rw[k];refine ZJ (s.v==3) true (by rw[j];rfl)<|ZC (λo c h=>ot (a:=p) (b:=(s.ax,s.ay)) (d:=(s.bx,s.by_)) (N:=w.heap.size) c.size) λq=>ZV (.tuple #[.slice q.1 (Uj p (s.ax,s.ay) (s.bx,s.by_)).1.length q.2,.int .i64 (Uj p (s.ax,s.ay) (s.bx,s.by_)).2]) (λo c h=>⟨q,rfl,c,λu f k2=>(h u f k2).2.rebase λb l=>AH t ((h u f k2).2.lt b l).1⟩)
 by_cases m:s.v=4
 .have k:O5 p s=Rj p (s.ax,s.ay) (s.bx,s.by_) (s.cx,s.cy):=by unfold O5;rw[YT j,YS m]
  rw[k];refine ZJ (s.v==3) false (by rw[m];rfl)<|ZJ (s.v==4) true (by rw[m];rfl)<|ZC (λo c h=>g_ (a:=p) (b:=(s.ax,s.ay)) (d:=(s.bx,s.by_)) (e:=(s.cx,s.cy)) (N:=w.heap.size) c.size) λq=>ZV (.tuple #[.slice q.1 (Rj p (s.ax,s.ay) (s.bx,s.by_) (s.cx,s.cy)).1.length q.2,.int .i64 (Rj p (s.ax,s.ay) (s.bx,s.by_) (s.cx,s.cy)).2]) (λo c h=>⟨q,rfl,c,λu f k2=>(h u f k2).2.rebase λb l=>AH t ((h u f k2).2.lt b l).1⟩)
 have k:O5 p s=([(s.ax,s.ay)],0):=by unfold O5;rw[YT j,YT m]
 rw[k];refine ZJ (s.v==3) false (YR.2 j)<|ZJ (s.v==4) false (YR.2 m)<|uk (Lr 296 1 #[(0,pt s.ax s.ay)]) (Kr 1) (λg u=>K6 u w.heap.size 74 2 (some ⟨g,0,none⟩) 1 1 (K9 (s.ax,s.ay))) O (λo c h=>Up (len:=1) (cells:=(K9 (s.ax,s.ay)).toArray) O c.size (by rfl) Zd) λg=>ZR<|ZV (.tuple #[.slice (some ⟨g,0,none⟩) 1 1,.int .i64 0]) (λo c h=>⟨(some ⟨g,0,none⟩,1),rfl,c,λu f k2=>by have x:=(h u f k2).2;exact K6.rebase (by simpa using x) λb l=>AH t (x.lt b l).1⟩)
end
end Go.Proofs.YtoakjcolbjifnaaGreatDoor
