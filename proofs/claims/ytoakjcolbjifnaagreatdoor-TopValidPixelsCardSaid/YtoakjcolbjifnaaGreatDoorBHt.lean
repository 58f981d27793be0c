/-
 A part of the proof.
-/
import Derived.Test.YtoakjcolbjifnaaGreatDoorBOb
import Derived.Test.YtoakjcolbjifnaaGreatDoorBBf
import Derived.Recover
import Derived.WalkKit
import Derived.LaidEql
import Derived.Stop.Asserts
import Derived.RowKitTokens
open Array renaming getElem?_eq_some_iff->BT
open Bool renaming true_and->AE,false_and->AN,and_eq_true->AU,eq_iff_iff->BP,or_eq_false_iff->BR,not_false->BS,not_eq_true'->BW,or_eq_true->CP
open Go.IntWalk renaming i64_in->AQ
open Go.Result renaming andThen_ok->AK,andThen->BM
open Go.Sem renaming run_bind->AL,run_pure->AX
open Go.Value renaming slice->BB,int->BH
open Go.World renaming cell?_alloc_lt->BQ,cell?->CT
open Int renaming toNat_natCast->CM
open List renaming mem_singleton->AA,length_append->AB,getElem?_eq_getElem->AC,map_append->AF,mem_of_getElem?->AI,replicate->AM,mem_append->AP,take_of_length_le->AR,map_eq_cons_iff->AW,length_pos_iff->AY,length_map->AZ,length_take->BA,mem_cons_of_mem->BC,length_eq_zero_iff->BD,drop_of_length_le->BE,mem_cons_self->BF,mem_cons->BG,mem_map->BI,getElem?_map->BJ,length_set->BL,map_cons->BO,getElem?_append_right->BU,getElem?_eq_some_iff->BX,getElem?_cons_zero->BY,append_nil->BZ,take_append_drop->CA,getElem?_eq_none->CC,getLast?_concat->CD,take_succ_cons->CE,map_eq_nil_iff->CF,flatMap_cons->CJ,take_add_one->CK,not_mem_nil->CN,length_drop->CO,mapM_cons->CQ,map_map->CS
open Nat renaming zero_le->AD,le_refl->AH,le_trans->AO,eq_zero_or_pos->CG,lt_of_lt_of_le->CH,zero_add->CI,add_zero->CR,mod_lt->CV
open Option renaming map_eq_some_iff->BN
open Option.some renaming injEq->CL
open Prod.mk renaming injEq->BV
open UInt8 renaming lt_iff_toNat_lt->BK,le_iff_toNat_le->CB
open Go renaming World->YM,Value->YI,Program->YH,Operand->XZ,Deferred->XY,TypeId->XX,Calls->XW,PanicEntry->XV,FuncId->XU,Oper->XT,Ending->XS,Addr->XR
open Go.IntKind renaming i64->XQ,u64->XP,u32->XO,u8->XN
namespace Go.Proofs.YtoakjcolbjifnaaGreatDoor
set_option maxRecDepth 100000
set_option maxHeartbeats 8000000
set_option linter.unusedVariables false
set_option linter.unusedSimpArgs false
open Go.RowKit Go.Proofs.Tryz
open Go.Proofs.Tryz renaming prog->XM
def putL(acc:List Pt):List Pt->List Pt
 | []=>acc
 |x::l=>putL (if acc.getLast? =some x then acc else acc++ [x]) l
theorem NE:∀(l acc:List Pt) (x:Pt),putL acc (l++ [x])=if (putL acc l).getLast? =some x then putL acc l else putL acc l++ [x]
 | [],acc,x=>rfl
 |y::l,acc,x=>by rw[List.cons_append,putL,putL,NE l]
theorem Fy:∀(l acc:List Pt),acc≠[]->putL acc l≠[]
 | [],_,h=>h
 |x::l,acc,h=>by
  rw[putL];refine Fy l _ ?_;split
  .exact h
  .simp
theorem Uk:∀(l acc:List Pt),(putL acc l).length<=acc.length+l.length
 | [],acc=>AH _
 |x::l,acc=>by
  rw[putL,List.length_cons]
  by_cases h:acc.getLast? =some x
  .rw[YS h];have:=Uk l acc;omega
  .rw[YT h];have:=Uk l (acc++ [x]);rw[AB]at this;simp at this;omega
theorem Kk.hold{α:Type}{w u:YM}{A:YY}{n s:Nat}{cl:α->List YI}{l:List α}(h:Kk w A n s cl l)(o:∀b∈bl A,b<w.heap.size->u.heap[b]? =w.heap[b]?):Kk u A n s cl l:=⟨h.1,λk x g=>by
 obtain⟨ad,e,p⟩:=h.2 k x g;refine⟨ad,e,λj v m=> ?_⟩;have f:=p j v m;obtain⟨_,_,_,c⟩:=U8 f;rw[Pb,Pb]at c;refine(World.cell?_of_block ?_).trans f;rw[Pb,Pb];exact o _ (by rw[e];simp[bl]) (BT.1 c).1⟩
theorem Tx.old{W w u:YM}{L:List Nat}(h:Tx L W w u)(e:Below W.heap.size W w)(j:Below W.heap.size W u):∀b,b<w.heap.size->b∉L->u.heap[b]? =w.heap[b]? :=λb g f=>by
 rcases Nat.lt_or_ge b W.heap.size with c|c
 .rw[j.block b c,e.block b c]
 .exact h.2 b c g f
theorem Tx.left{W w c u:YM}{L L2:List Nat}(h:Tx L W w c)(g:c.heap.size=u.heap.size)(f:∀b,b∉L2->c.heap[b]? =u.heap[b]?)(k:∀b∈L2,b∈L\/w.heap.size<=b):Tx L W w u:=
 ⟨by rw[<-g];exact h.1,λb l j e=>(f b λm=>(k b m).elim e λo=>I).symm.trans (h.2 b l j e)⟩
def R7(H0:List LQ)(acc:List Pt)(z:YZ)(cl:Bool):List YI:=(H0++ [((acc,z),cl)]).flatMap Uc
theorem M_{H0:List LQ}{acc acc':List Pt}{z z':YZ}{cl:Bool}{m:Nat}(c:acc'.length=m):
 (R7 H0 acc z cl).take (H0.length*2)++ [.slice z'.1 m z'.2]++(R7 H0 acc z cl).drop (H0.length*2+1)=R7 H0 acc' z' cl:=by
 have b:(H0.flatMap Uc).length=H0.length*2:=Nq (cl:=Uc) (λ_=>rfl) H0;subst c;unfold R7;rw[List.flatMap_append,List.flatMap_append,<-b,List.take_left,List.drop_append,BE I];rw[show(H0.flatMap Uc).length+1- (H0.flatMap Uc).length=1 by omega];simp[Uc,X9]
theorem Sm{H0:List LQ}{acc:List Pt}{z:YZ}{cl:Bool}:(R7 H0 acc z cl)[H0.length*2]? =some (.slice z.1 acc.length z.2):=by
 have b:(H0.flatMap Uc).length=H0.length*2:=Nq (cl:=Uc) (λ_=>rfl) H0;unfold R7;rw[List.flatMap_append,BU I,b,Nat.sub_self];rfl
theorem Hj{H0:List LQ}{acc:List Pt}{z:YZ}{cl:Bool}:(R7 H0 acc z cl).length=(H0.length+1)*2:=by
 unfold R7;rw[Nq (cl:=Uc) (k:=2) (λ_=>rfl)];simp
structure Il(W w:YM)(L:List Nat)(g n c:Nat)(H0:List LQ)(cl:Bool)(bs:List Nat)(acc:List Pt)(z:YZ)(u:YM):Prop where
 k:Tx L W w u
 row:K6 u W.heap.size 325 2 (some ⟨g,0,none⟩) n c (R7 H0 acc z cl)
 pts:K6 u W.heap.size 74 2 z.1 acc.length z.2 (acc.flatMap K9)
 bk:∀b∈bl z.1,b∈bs\/w.heap.size<=b
section
variable{W w u:YM}{g c n m c2:Nat}{H0:List LQ}{cl:Bool}{acc l:List Pt}{z:YZ}{A:YY}
theorem K6.cellR{u:YM}{B s n c j:Nat}{e:XX}{g:Nat}{xs:List YI}{v:YI}(h:K6 u B e s (some ⟨g,0,none⟩) n c xs)(f:xs[j]? =some v):u.cell? ⟨g,j,none⟩=some v:=by
 rcases CG n with k|k
 .have:=h.len;rw[k,Nat.zero_mul]at this;rw[BD.1 this]at f;cases f
 .obtain⟨p,b,o⟩:=h.cells k;injection b with b;injection b with b;subst b;exact o j v f
theorem ic{j:YM}{y:YZ}(h:Il W w (g::bl z.1) g n c H0 cl (bl z.1) acc y j)(k2:∀b,b∈g::bl z.1\/(w.heap.size<=b/\b<j.heap.size)->u.heap[b]? =j.heap[b]?):
 K6 u W.heap.size 325 2 (some ⟨g,0,none⟩) n c (R7 H0 acc y cl)/\K6 u W.heap.size 74 2 y.1 acc.length y.2 (acc.flatMap K9)/\∀b∈bl y.1,b∈bl z.1\/w.heap.size<=b:=by
 refine⟨h.row.same λb e=>k2 b (.inl ?_),h.pts.same λb e=>k2 b ?_,h.bk⟩
 .simp only[bl,AA]at e;subst e;exact BF ..
 .rcases h.bk b e with f|f
  .exact .inl (BC _ f)
  .exact .inr ⟨f,(h.pts.lt b e).2⟩
theorem kx(S:Below W.heap.size W w)(hn:n=H0.length+1)(hr:K6 w W.heap.size 325 2 (some ⟨g,0,none⟩) n c (R7 H0 acc z cl))(hp:K6 w W.heap.size 74 2 z.1 acc.length z.2 (acc.flatMap K9))(M:acc≠[])(hl:Kk w A m 2 K9 l)(hA:∀b∈bl A,b∉g::bl z.1)(e:acc.length+l.length<=100000):
 Ca 267 #[.pointer (some ⟨g,H0.length*2,none⟩),.slice A m c2] w (L4 w (g::bl z.1) (λ_:YZ=> .tuple #[]) λz' u=>K6 u W.heap.size 325 2 (some ⟨g,0,none⟩) n c (R7 H0 (putL acc l) z' cl)/\K6 u W.heap.size 74 2 z'.1 (putL acc l).length z'.2 ((putL acc l).flatMap K9)/\∀b∈bl z'.1,b∈bl z.1\/w.heap.size<=b):=by
 refine uB func267 rfl S<|ZR<|uj (ι:={q:Nat×(YZ) // q.1<=m}) 43 (λq=>⟨[vV 0 (.pointer (some ⟨g,H0.length*2,none⟩)),vS 7 A m c2,vI 8 (m:Int),vI 9 (q.1.1:Int)],[]⟩) (λq u=>Il W w (g::bl z.1) g n c H0 cl (bl z.1) (putL acc (l.take q.1.1)) q.1.2 u) (λq=>m-q.1.1) (⟨(0,z),AD _⟩) O Zf Zt (λu h=>⟨⟨h.1,λb F Q _=>h.2 b F Q⟩,hr.same λb e=>h.2 b (hr.lt b e).1 (hr.lt b e).2,hp.same λb e=>h.2 b (hp.lt b e).1 (hp.lt b e).2,λb e=> .inl e⟩) ?_
 rintro⟨⟨i,y⟩,hi⟩ gg;have hi:i<=m:=hi;have hml:l.length=m:=hl.1
 by_cases s:i<m
 case neg=>
  obtain rfl:i=m:=I
  have T:l.take i=l:=AR I;refine ZR<|YN ((i:Int)<(i:Int))<|ug O<|ZR ?_
  have key:∀{v:YM},Il W w (g::bl z.1) g n c H0 cl (bl z.1) (putL acc (l.take i)) y v->Il W w (g::bl z.1) g n c H0 cl (bl z.1) (putL acc l) y v:=λh=>by rw[T]at h;exact h
  refine ZV (.tuple #[]) (λo f h=>⟨y,rfl,(Yh h).k.chg S f,λu k1 k2=>ic (key (Yh h)) k2⟩)
 obtain⟨x,hx⟩:=Yg l i;obtain⟨ad,K⟩:∃ad,A=some ad:=by obtain⟨ad,F,_⟩:=hl.2 i x hx;exact⟨ad,F⟩
 have D:∀{v:YM},Below W.heap.size W v->Il W w (g::bl z.1) g n c H0 cl (bl z.1) (putL acc (l.take i)) y v->Kk v A m 2 K9 l:=λH h=>hl.hold λb e F=>h.k.old S H b F (hA b e)
 obtain⟨P,J⟩:∃P,P=putL acc (l.take i):=⟨_,rfl⟩
 have R:P≠[]:=J▸Fy _ _ M;have hPl:P.length<=100000:=by have:=Uk (l.take i) acc;rw[<-J,BA]at this;omega
 have B:putL acc (l.take (i+1))=if P.getLast? =some x then P else P++ [x]:=by rw[L7 hx,NE,<-J]
 rw[<-J];obtain⟨j,hj⟩:∃j,P.length=j+1:=⟨P.length-1,by have:=AY.2 R;omega⟩
 obtain⟨t,ht⟩:=Yg P j;have htl:P.getLast? =some t:=by rw[List.getLast?_eq_getElem?,hj];exact ht
 rw[htl]at B;rw[<-J]at D;refine um (p:=∃E,y.1=some ⟨E,0,none⟩) (λu hu h=>by obtain⟨E,F,_⟩:=h.pts.cells (by rw[hj];omega);exact⟨E,F⟩) O (λhyg=> ?_);obtain⟨E,wI⟩:=hyg;have Z:∀{v:YM},Il W w (g::bl z.1) g n c H0 cl (bl z.1) P y v->v.rangeAt E (j*2) (K9 t):=λh=>by
  have Q:=h.pts;rw[wI]at Q;exact Ln L8 Q I ht
 refine ZR<|YL ((i:Int)<(m:Int))<|ZA (Kd 296 (.slice A m c2) i) (.pointer (some (ad.add (i*2)))) (λo f h=>Lh K s)<|ZA (Ke 74 (ad.add (i*2))) (Km x) (λo f h=>M5 ((D f h).at K hx))<|uw (Ke 296 ⟨g,H0.length*2,none⟩) (.slice y.1 P.length y.2) O (λo f h=>Kh O (h.row.cellR Sm))<|ZS 2<|ZT 19 (.bool ((P.length:Int)==0)) (.bool false) (by rw[YR.2 I])<|uh 26 (.int .i64 (XQ.wrap ((P.length:Int)-1))) (.int .i64 (j:Int)) O (by rw[AQ _ I,show(P.length:Int)-1=(j:Int) by omega])<|us 6 (Ke 296 ⟨g,H0.length*2,none⟩) (.slice y.1 P.length y.2) O (λo f h=>Kh O (h.row.cellR Sm))<|ZS 12<|us 9 (Kd 296 (.slice y.1 P.length y.2) j) (.pointer (some ⟨E,j*2,none⟩)) O (λo f h=>by rw[wI];exact Kc (elem:=74) O O I)<|ZS 12<|us 10 (Ke 74 ⟨E,j*2,none⟩) (Km t) O (λo f h=>Ka (vs:=K9 t) O O (Z h))<|ZS 12<|ZB 12 (cS 74 (.tmp 28) (.tmp 29) (Km t) (Km x)) (.bool (!(t.1==x.1&&t.2==x.2))) (λo f h=>Br) ?_
 by_cases Y:t=x
 .subst Y;refine ZJ (!(t.1==t.1&&t.2==t.2)) false Zs<|YA 9 i s<|ui (⟨(i+1,y),s⟩) O Zn Zt (λu h=>by show Il W w (g::bl z.1) g n c H0 cl (bl z.1) (putL acc (l.take (i+1))) y u;rw[B,YS rfl];exact h)
 have U:(!(t.1==x.1&&t.2==x.2))=true:=by rw[fm,YV Y];rfl
 rw[YT (λX=>Y (by injection X))]at B;refine ul (!(t.1==x.1&&t.2==x.2)) true O (U)<|ZS 7<|us 4 (Ke 296 ⟨g,H0.length*2,none⟩) (.slice y.1 P.length y.2) O (λo f h=>Kh O (h.row.cellR Sm))<|ZS 7<|uk (Lr 296 1 #[(0,Km x)]) (Kr 1) (Kw 74 (K9 x).toArray) O (λo f h=>Kj O) λgb=>ZS 7<|uQ (L:=bl y.1) (val:=λz':YZ=> .slice z'.1 (P.length+1) z'.2) (Φ':=λz' u=>Tx (g::bl z.1) W w u/\K6 u W.heap.size 325 2 (some ⟨g,0,none⟩) n c (R7 H0 P y cl)/\K6 u W.heap.size 74 2 z'.1 (P.length+1) z'.2 ((P++ [x]).flatMap K9)/\∀b∈bl z'.1,b∈bl z.1\/w.heap.size<=b) (G:=λz' v=>K6 v W.heap.size 74 2 z'.1 (P.length+1) z'.2 ((P++ [x]).flatMap K9)/\∀b∈bl z'.1,b∈bl y.1\/w.heap.size<=b) (My 296 296 (.slice y.1 P.length y.2) (Kr 1 gb)) (λo f h=>aZ h.1.pts f.size h.1.k.1 h.2 I) (λu h=>h.1.pts.blk) (λz' wa u e1 N h wJ=>⟨h.1.k.left e1 N (λb e=>(h.1.bk b e).imp (BC _) id),h.1.row.left N (λb e=>N8 h.1.row h.1.pts Zd b e),wJ.1,λb e=>(wJ.2 b e).elim (h.1.bk b) .inr⟩) O O λz'=>ZR ?_
 refine uE (L:=[g]) (G:=λu=>K6 u W.heap.size 325 2 (some ⟨g,0,none⟩) n c (R7 H0 (P++ [x]) z' cl)) (Φ':=λu=>Il W w (g::bl z.1) g n c H0 cl (bl z.1) (P++ [x]) z' u) (Om 296 ⟨g,H0.length*2,none⟩ (.slice z'.1 (P.length+1) z'.2)) (λo f h=>by
  have h3:=h.2.1.storeN (P:=XM) (t:=296) (v:= .slice z'.1 (P.length+1) z'.2) (j:=H0.length*2) O (by rw[Hj];show H0.length*2+1<=_;omega) (λv H=>by have H:v∈[BB z'.1 (P.length+1) z'.2]:=H;have H:=AA.1 H;subst H;rfl);rw[<-M_ (acc:=P) (z:=y) (acc':=P++ [x]) (z':=z') (m:=P.length+1) Zs];exact h3) (λu h b e=>by have e:=AA.1 e;subst e;exact⟨(h.2.1.lt b (by simp[bl])).1,(h.2.1.blk b (by simp[bl])).2⟩) (λwa u e1 N h wJ=>⟨h.1.left e1 N (λb e=> .inl (by have e:=AA.1 e;subst e;exact BF ..)),wJ,by rw[AB];exact h.2.2.1.left N (λb e X=>N8 h.2.2.1 h.2.1 Zd b e (by simpa[bl]using X)),h.2.2.2⟩) O O ?_
 refine ZR<|YA 9 i s<|ui (⟨(i+1,z'),s⟩) O Zn Zt (λu h=>by show Il W w (g::bl z.1) g n c H0 cl (bl z.1) (putL acc (l.take (i+1))) z' u;rw[B];exact h)
end
def OH(P:List Pt):List Pt:=if 1<P.length/\P.getLast? =P.head? then P.dropLast else P
def Nu:List (List Pt×Bool)->List Sg->List (List Pt×Bool)×Int
 |L,[]=>(L,0)
 | L,s::t=>if s.v=1 then Nu (L++ [([(s.ax,s.ay)],false)]) t else
  match L.getLast? with
  |none=>([],-1)
  |some x=>if s.v=5 then Nu (L.dropLast++ [(OH x.1,true)]) t else
   if (O5 (x.1.getLast?.getD (0,0)) s).2=0 then Nu (L.dropLast++ [(putL x.1 (O5 (x.1.getLast?.getD (0,0)) s).1,x.2)]) t else([],(O5 (x.1.getLast?.getD (0,0)) s).2)
def N9(L:List (List Pt×Bool)):Nat:=(L.map λx=>x.1.length).sum
def Oa(ls:List Sg):List (List Pt×Bool)×Int:=if (Nu [] ls).2=0 then(if 4096<N9 (Nu [] ls).1 then([],5)else Nu [] ls)else([],(Nu [] ls).2)
abbrev Sr(H:List LQ):List (List Pt×Bool):=H.map λx=>(x.1.1,x.2)
structure On(B:Nat)(y:YZ)(n:Nat)(H:List LQ)(u:YM):Prop where
 own:K6 u B 325 2 y.1 n y.2 (H.flatMap Uc)
 ring:∀x∈H,K6 u B 74 2 x.1.2.1 x.1.1.length x.1.2.2 (x.1.1.flatMap K9)
 apt:H.Pairwise λa b=>∀x∈bl a.1.2.1,x∉bl b.1.2.1
section
variable{W w u wa:YM}{B n m g c N k M:Nat}{y z z':YZ}{H H0:List LQ}{P P':List Pt}{cl cl':Bool}{A:YY}{ls:List Sg}
theorem vJ:On B (none,0) 0 [] u:=⟨uG,(by intro x b;cases b),.nil⟩
theorem On.mono(h:On B y n H u)(j:N<=B):On N y n H u:=
 ⟨h.own.rebase λb e=>AO j (h.own.lt b e).1,λx f=>(h.ring x f).rebase λb e=>AO j ((h.ring x f).lt b e).1,h.apt⟩
theorem On.lin(h:On B y n H u)(e:H.length=n):NH u y.1 n H:=
 ⟨h.own.reads.rows (cl:=Uc) (λ_=>rfl) e,λx b=>(h.ring x b).reads.rows (cl:=K9) (λ_=>rfl) rfl⟩
theorem On.last(h:On B (some ⟨g,0,none⟩,c) n (H0++ [((P,z),cl)]) wa)(J:wa.heap.size=u.heap.size)(G:∀b,b∉g::bl z.1->wa.heap[b]? =u.heap[b]?)
 (F:K6 u B 325 2 (some ⟨g,0,none⟩) n c (R7 H0 P' z' cl')) (Z:K6 u B 74 2 z'.1 P'.length z'.2 (P'.flatMap K9)) (t:∀x∈H0,∀b∈bl x.1.2.1,b∉bl z'.1):On B (some ⟨g,0,none⟩,c) n (H0++ [((P',z'),cl')]) u:=by
 obtain⟨v,_,D⟩:=List.pairwise_append.1 h.apt;have s:∀x∈H0,∀b∈bl x.1.2.1,b∉bl z.1:=λx f=>D x f _ (AA.2 rfl)
 refine⟨F,λx f=> ?_,List.pairwise_append.2 ⟨v,List.pairwise_singleton ..,λx f q E b l o=> ?_⟩⟩
 .rcases AP.1 f with j|j
  .have e:=h.ring x (AP.2 (.inl j));refine e.left G λb l o=> ?_
   rcases BG.1 o with p|p
   .exact N8 e h.own Zd b l (by simpa[bl]using p)
   .exact s x j b l p
  .obtain rfl:x=((P',z'),cl'):=by simpa using j
   exact Z
 .obtain rfl:q=((P',z'),cl'):=by simpa using E
  exact t x f b l o
theorem On.add{q:LQ}(h:On B y n H wa)(o:K6 wa B 74 2 q.1.2.1 q.1.1.length q.1.2.2 (q.1.1.flatMap K9))(s:∀x∈H,∀b∈bl x.1.2.1,b∉bl q.1.2.1)(l:∀b,b∉bl y.1->wa.heap[b]? =u.heap[b]?)(t:K6 u B 325 2 z.1 (n+1) z.2 ((H++ [q]).flatMap Uc)):On B z (n+1) (H++ [q]) u:=by
 refine⟨t,λx j=> ?_,List.pairwise_append.2 ⟨h.apt,List.pairwise_singleton ..,λx j a p b e v=> ?_⟩⟩
 .rcases AP.1 j with f|f
  .exact(h.ring x f).left l λb e=>N8 (h.ring x f) h.own Zd b e
  .obtain rfl:x=q:=by simpa using f
   exact o.left l λb e=>N8 o h.own Zd b e
 .obtain rfl:a=q:=by simpa using p
  exact s x j b e v
theorem nO{q:LQ}{f:Nat}(o:On B y n H u)(l:B<=u.heap.size)(j:Kw 325 (Uc q).toArray f u)(p:n<=10000000):
 Mv XM u (bl y.1) (λz:YZ=> .slice z.1 (n+1) z.2) (λz v=>K6 v B 325 2 z.1 (n+1) z.2 ((H++ [q]).flatMap Uc)) (My 304 304 (.slice y.1 n y.2) (Kr 1 f)):=by
 have h:=M2 (P:=XM) (s:=2) (z:= .agg #[.slice none 0 0,.bool false]) (bytes:=32) (m:=1) (cc:=1) (t:=304) (elem:=325) O O rfl Zd o.own l (Mc (n:=1) j rfl) (by intro v b;simp[Uc]at b;rcases b with rfl|rfl<;>rfl) I Zd;have e:(H++ [q]).flatMap Uc=H.flatMap Uc++(Uc q).toArray.toList:=Zs
 rw[e];exact h
structure NZ(ls:List Sg)(k:Nat)(H:List LQ):Prop where
 le:k<=ls.length
 v:Nu (Sr H) (ls.drop k)=Nu [] ls
 len:N9 (Sr H)<=65*k
 ne:∀x∈H,x.1.1≠[]
 k0:H=[]->k=0
 hk:H.length<=k
abbrev nv(s:Sg)(b:Nat):LQ:=(([(s.ax,s.ay)],(some ⟨b,0,none⟩,1)),false)
theorem VX{s:Sg}(h:(Ff ls).1=0)(f:ls[0]? =some s):s.v=1:=by
 have l:=Vw h;unfold Ff at h;rw[YT I]at h;obtain _|⟨x,t⟩:=ls
 .cases f
 obtain rfl:x=s:=by simpa using f
 by_cases b:Tf 5 x=0
 .unfold Tf at b;split at b
  .cases b
  .split at b
   .cases b
   .rename_i j;have e:U0 5 x.v=true:=by simpa using j
    unfold U0 at e;simp at e;exact e
 .rw[V1 b]at h;exact absurd h b
theorem dy{w:YM}{N:Nat}{H:List LQ}{x y:Int}(f:N<=w.heap.size)(l:∀q∈H,∀b∈bl q.1.2.1,b<w.heap.size):M9 XM w (Kr 1) (λg u=>Kw 74 #[.int .i64 x,.int .i64 y] g u/\(∀q∈H,∀b∈bl q.1.2.1,b<g)/\N<=g) (Lr 296 1 #[(0,pt x y)]):=
 Q2 O (λg e=>⟨λq h b j=>CH (l q h b j) e,AO f e⟩)
theorem H8(p:Pt)(s:Sg):(O5 p s).1.length<=64:=by
 unfold O5;split
 .unfold Uj;split
  .rename_i h;have:=Fz h;dsimp only;rw[Sv];omega
  .exact AD _
 .split
  .unfold Rj;split
   .rename_i h;have:=Fz h;dsimp only;rw[Sv];omega
   .exact AD _
  .show 1<=64;decide
theorem aM:(R7 H0 P z cl).take (H0.length*2+1)++ [.bool true]++(R7 H0 P z cl).drop (H0.length*2+1+1)=R7 H0 P z true:=by
 have b:(H0.flatMap Uc).length=H0.length*2:=Nq (cl:=Uc) (λ_=>rfl) H0;unfold R7;rw[List.flatMap_append,List.flatMap_append,<-b,List.take_append,AR I,List.drop_append,BE I];rw[show(H0.flatMap Uc).length+1- (H0.flatMap Uc).length=1 by omega,show(H0.flatMap Uc).length+1+1- (H0.flatMap Uc).length=2 by omega];simp[Uc,X9]
theorem K6.cut{u:YM}{B s n c i l:Nat}{e:XX}{xs:List YI}(h:K6 u B e s (some ⟨l,0,none⟩) n c xs)(hi:i<=n):K6 u B e s (some ⟨l,0,none⟩) i c (xs.take (i*s)):=by
 obtain⟨p,t⟩:=h;have j:i*s<=n*s:=Nat.mul_le_mul_right _ hi;refine⟨by rw[BA,p];omega,?_⟩;rcases t with ⟨b,_⟩|⟨G,cap,f,b,E,v,o,F,x,D⟩
 .cases b
 injection b with b _ h3;injection b with b;injection b with b _ _;subst b;subst h3;exact .inr ⟨l,c,f,rfl,E,v,AO hi o,F,x,by rw[<-D,List.take_take,Nat.min_eq_left j]⟩
theorem T6:∀(l:List Pt) (j:Nat),(l.take j).flatMap K9=(l.flatMap K9).take (j*2)
 | [],j=>by simp
 |x::l,0=>by simp
 |x::l,j+1=>by
  rw[CE,CJ,CJ,T6 l j,show(j+1)*2=j*2+1+1 by omega]
  rfl
theorem pq(y:YZ)(L:List LQ){e b:Int}(h:b=e):Ending.returned (Value.tuple #[.slice y.1 L.length y.2,.int .i64 e])= .returned (.tuple #[.slice y.1 L.length y.2,.int .i64 b]):=by rw[h]
theorem cG(hs:Sa w A n ls)(X:(Ff ls).1=0)(hN:N<=w.heap.size):
 Ca 227 #[.slice A n c,.int .i64 32] w (K4 w (λq:(YZ)×{H:List LQ // Sr H=(Oa ls).1}=> .tuple #[.slice q.1.1 q.2.1.length q.1.2,.int .i64 (Oa ls).2]) λq u=>On N q.1 q.2.1.length q.2.1 u):=by
 have hln:=Vw X;have hnl:ls.length=n:=hs.1;refine uf func227 rfl<|ZR<|ZC (λE f h=>Bd (c:=c) (hs.below f) I (B:=true) (by rw[X];rfl)) λv0=>ZI false<|ZI false<|uj (ι:={q:(Nat×List LQ)×(YZ) // NZ ls q.1.1 q.1.2}) 128 (λq=>⟨[vI 1 32,vS 6 q.1.2.1 q.1.1.2.length q.1.2.2,vS 27 A n c,vI 28 (n:Int),vI 29 (q.1.1.1:Int)],[]⟩) (λq u=>On w.heap.size q.1.2 q.1.1.2.length q.1.1.2 u) (λq=>n-q.1.1.1) (⟨((0,[]),(none,0)),AD _,rfl,AD _,(by intro x K;cases K),λ_=>rfl,AH _⟩) O Zf Zt (λu h=>vJ) ?_
 rintro⟨⟨⟨k,H⟩,y⟩,Z⟩ gg;have Z:NZ ls k H:=Z
 by_cases hlt:k<n
 case neg=>
  refine ZR<|YN ((k:Int)<(n:Int))<|ug O<|ZR ?_
  have hkn:k=ls.length:=by have:=Z.le;omega
  have hv0:Nu [] ls=(Sr H,0):=by have:=Z.v;rw[hkn,List.drop_length]at this;exact this.symm
  have hS:N9 (Sr H)<=16640:=by have:=Z.len;omega
  have hHk:=Z.hk;refine uj (ι:={i:Nat // i<=H.length}) 128 (λi=>⟨[vS 6 y.1 H.length y.2,vI 13 (N9 (Sr (H.take i.1)):Int),vS 113 y.1 H.length y.2,vI 114 (H.length:Int),vI 115 (i.1:Int)],[]⟩) (λi u=>On w.heap.size y H.length H u) (λi=>H.length-i.1) (⟨0,AD _⟩) O Zf Zt (λu h=>h) ?_;rintro⟨i,hi⟩ gg2;have hi:i<=H.length:=hi
  by_cases hli:i<H.length
  case neg=>
   obtain rfl:i=H.length:=I
   have hte:H.take H.length=H:=List.take_length;refine ZR<|YN ((H.length:Int)<(H.length:Int))<|ug O<|ZR ?_
   by_cases hbig:4096<N9 (Sr H)
   .have hR:Oa ls=([],5):=by unfold Oa;rw[hv0,YS rfl,YS hbig]
    refine ZJ (decide ((N9 (Sr (H.take H.length)):Int)>4096)) true (by rw[hte];exact YU I)<|ZV (.tuple #[.slice none 0 0,.int .i64 5]) (λE f h=>⟨((none,0),⟨[],by rw[hR];rfl⟩),pq (none,0) [] (by rw[hR]),f,λu k1 k2=>vJ⟩)
   have hR:Oa ls=(Sr H,0):=by unfold Oa;rw[hv0,YS rfl,YT hbig]
   refine ZJ (decide ((N9 (Sr (H.take H.length)):Int)>4096)) false (by rw[hte];exact YV I)<|ZV (.tuple #[.slice y.1 H.length y.2,.int .i64 0]) (λE f h=>⟨(y,⟨H,by rw[hR]⟩),pq y H (by rw[hR]),f,λu k1 k2=>On.mono (h u k1 k2) hN⟩)
  obtain⟨x,K⟩:∃x,H[i]? =some x:=⟨_,AC hli⟩
  refine um (p:=∃ad,y.1=some ad) (λu hu h=>by obtain⟨_,ad,_,l,_⟩:=NH.at (On.lin h rfl) hli;exact⟨ad,l⟩) O (λhp=> ?_);obtain⟨ad,hA⟩:=hp;have hsl:N9 (Sr (H.take (i+1)))=N9 (Sr (H.take i))+x.1.1.length:=by unfold N9 Sr;rw[L7 K];simp
  have hsm:N9 (Sr (H.take (i+1)))<=N9 (Sr H):=by
   have e:H=H.take (i+1)++H.drop (i+1):=(CA ..).symm;have e2:N9 (Sr H)=N9 (Sr (H.take (i+1)))+N9 (Sr (H.drop (i+1))):=by
    unfold N9 Sr;rw[<-List.sum_append,<-AF,<-AF,CA]
   omega
  refine ZR<|YL ((i:Int)<(H.length:Int))<|ZA (Kd 304 (.slice y.1 H.length y.2) i) (.pointer (some (ad.add (i*2)))) (λE f h=>by rw[hA];exact L9 (elem:=325) O O hli)<|ZA (Ke 325 (ad.add (i*2))) (tg x) (λE f h=>Mh (vs:=Uc x) O O ((On.lin h rfl).row.at hA K))<|uh 13 (.int .i64 (XQ.wrap ((N9 (Sr (H.take i)):Int)+(x.1.1.length:Int)))) (.int .i64 (N9 (Sr (H.take (i+1))):Int)) O (by rw[Sj I I,hsl])<|YA 115 i hli<|ui (⟨i+1,hli⟩) O Zn Zt (λu h=>h)
 obtain⟨s,K⟩:=Yg ls k;obtain⟨ad,hA,wI⟩:=hs.2 k s K;have hdr:ls.drop k=s::ls.drop (k+1):=IK K;have hIv:=Z.v;have hIl:=Z.len;have hIh:=Z.hk;rw[hdr]at hIv;refine ZR<|YL ((k:Int)<(n:Int))<|ZA (Kd 56 (.slice A n c) k) (.pointer (some (ad.add (k*7)))) (λE f h=>H7 hA hlt)<|ZA (Ke 87 (ad.add (k*7))) (s.val) (λE f h=>eE (λj v hj=>L5 f (wI j v hj))) ?_
 by_cases h1:s.v=1
 .refine ZJ (s.v==1) true (by rw[h1];rfl)<|uk (Lr 296 1 #[(0,pt s.ax s.ay)]) (Kr 1) (λg u=>Kw 74 #[.int .i64 s.ax,.int .i64 s.ay] g u/\(∀q∈H,∀b∈bl q.1.2.1,b<g)/\w.heap.size<=g) O (λE f h=>dy f.size (λq Y b o=>((h.ring q Y).lt b o).2)) λgp=>ZR<|uk (Lr 304 1 #[(0,.agg #[Kr 1 gp,.bool false])]) (Kr 1) (Kw 325 (Uc (nv s gp)).toArray) O (λE f h=>Kj O) λgb=>ZS 6<|uA (L:=bl y.1) (val:=λ(z:YZ)=> .slice z.1 (H.length+1) z.2) (Φ':=λ(z':YZ) v=>On w.heap.size z' (H.length+1) (H++ [nv s gp]) v) (G:=λ(z':YZ) v=>K6 v w.heap.size 325 2 z'.1 (H.length+1) z'.2 ((H++ [nv s gp]).flatMap Uc)) (My 304 304 (.slice y.1 H.length y.2) (Kr 1 gb)) (λE f h=>nO h.1.1 f.size h.2 (show H.length<=10000000 by omega)) (λE h b o=>⟨(h.1.1.own.lt b o).1,(h.1.1.own.blk b o).2⟩) (λy' wa E e1 e2 h hG=>h.1.1.add (K6.lit (n:=1) (s:=2) h.1.2.1 rfl h.1.2.2.2 Zd) (λq Y b o wI=>by have h3:=h.1.2.2.1 q Y b o;simp[bl]at wI;omega) e2 hG) O O λy'=>ZR<|uh 6 (.slice y'.1 (H.length+1) y'.2) (.slice y'.1 (H++ [nv s gp]).length y'.2) O (by rw[AB];rfl)<|YA 29 k hlt ?_
  have hI2:NZ ls (k+1) (H++ [nv s gp]):=by
   refine⟨by omega,?_,?_,λq Y=> ?_,λwI=>absurd wI Zs,by simp;omega⟩
   .rw[<-hIv,Nu,YS h1];unfold Sr;rw[AF];rfl
   .unfold N9 Sr at hIl ⊢;rw[AF,AF,List.sum_append];simp at hIl ⊢;omega
   .rcases AP.1 Y with l|l
    .exact Z.ne q l
    .obtain rfl:=AA.1 l;simp
  refine ui (⟨((k+1,_),y'),hI2⟩) O Zn Zt (λu h=>by show On w.heap.size y' (H++ [nv s gp]).length (H++ [nv s gp]) u;rw[AB];exact h)
 have hHne:H≠[]:=λwI=>by
  have l:=Z.k0 wI;subst l;exact h1 (VX X K)
 obtain⟨H0,⟨⟨P,z⟩,cl⟩,rfl⟩:∃H0 q,H=H0++ [q]:=⟨H.dropLast,H.getLast hHne,(List.dropLast_concat_getLast hHne).symm⟩
 have S:P≠[]:=Z.ne _ (AP.2 (.inr (AA.2 rfl)));have hl1:(H0++ [((P,z),cl)]).length=H0.length+1:=by rw[AB];rfl
 rw[hl1]at hIh;have hsP:N9 (Sr H0)+P.length<=65*k:=by
  have e:N9 (Sr (H0++ [((P,z),cl)]))=N9 (Sr H0)+P.length:=by unfold N9 Sr;rw[AF,AF,List.sum_append];simp
  rw[e]at hIl;exact hIl
 refine um (p:=(∃g,y.1=some ⟨g,0,none⟩)/\∃gz,z.1=some ⟨gz,0,none⟩) (λu hu h=>⟨by obtain⟨g,l,_⟩:=h.own.cells Zn;exact⟨g,l⟩,by obtain⟨g,l,_⟩:=(h.ring _ (AP.2 (.inr (AA.2 rfl)))).cells (AY.2 S);exact⟨g,l⟩⟩) O (λhyg=> ?_);obtain⟨⟨g,hg⟩,gz,T⟩:=hyg;obtain⟨yA,J⟩:=y;obtain rfl:yA=some ⟨g,0,none⟩:=hg;have D:∀{v:YM},On w.heap.size (some ⟨g,0,none⟩,J) (H0++ [((P,z),cl)]).length (H0++ [((P,z),cl)]) v->K6 v w.heap.size 325 2 (some ⟨g,0,none⟩) (H0.length+1) J (R7 H0 P z cl):=λh=>by have:=h.own;rw[hl1]at this;exact this
 have F:∀{v:YM},On w.heap.size (some ⟨g,0,none⟩,J) (H0++ [((P,z),cl)]).length (H0++ [((P,z),cl)]) v->K6 v w.heap.size 74 2 z.1 P.length z.2 (P.flatMap K9):=λh=>h.ring _ (AP.2 (.inr (AA.2 rfl)))
 refine ul (s.v==1) false O (YR.2 h1)<|ZS 4<|uh 46 (.int .i64 (XQ.wrap (((H0++ [((P,z),cl)]).length:Int)-1))) (.int .i64 (H0.length:Int)) O (by rw[hl1,AQ _ I];congr 2;omega)<|ZA (Kd 304 (.slice (some ⟨g,0,none⟩) (H0++ [((P,z),cl)]).length J) H0.length) (.pointer (some ⟨g,H0.length*2,none⟩)) (λE f h=>Kc (elem:=325) O O I) ?_
 by_cases h5:s.v=5
 .have wJ:Nu (Sr H0++ [(OH P,true)]) (ls.drop (k+1))=Nu [] ls:=by
   have e:Sr (H0++ [((P,z),cl)])=Sr H0++ [(P,cl)]:=by unfold Sr;rw[AF];rfl
   rw[<-hIv,e,Nu,YT h1,CD];dsimp only;rw[YS h5,List.dropLast_concat]
  have hI3:∀(Q:List Pt) (zz:YZ),Q=OH P->Q≠[]->Q.length<=P.length->NZ ls (k+1) (H0++ [((Q,zz),true)]):=λQ zz hQ hQn hQl=>by
   refine⟨by omega,?_,?_,λq Y=> ?_,λwI=>absurd wI Zs,by rw[AB];show H0.length+1<=k+1;omega⟩
   .rw[<-wJ,<-hQ];unfold Sr;rw[AF];rfl
   .have e:N9 (Sr (H0++ [((Q,zz),true)]))=N9 (Sr H0)+Q.length:=by unfold N9 Sr;rw[AF,AF,List.sum_append];simp
    omega
   .rcases AP.1 Y with l|l
    .exact Z.ne q (AP.2 (.inl l))
    .obtain rfl:=AA.1 l;exact hQn
  obtain⟨j,hj⟩:∃j,P.length=j+1:=⟨P.length-1,by have:=AY.2 S;omega⟩
  obtain⟨t,ht⟩:=Yg P j;obtain⟨p0,hp0⟩:∃t,P[0]? =some t:=⟨_,AC I⟩
  have htl:P.getLast? =some t:=by rw[List.getLast?_eq_getElem?,hj];exact ht
  have hth:P.head? =some p0:=by rw[List.head?_eq_getElem?];exact hp0
  refine ZJ (s.v !=5) false (by rw[h5];rfl) ?_;refine ur (L:=[g]) (G:=λu=>K6 u w.heap.size 325 2 (some ⟨g,0,none⟩) (H0.length+1) J (R7 H0 P z true)) (Φ':=λu=>On w.heap.size (some ⟨g,0,none⟩,J) (H0.length+1) (H0++ [((P,z),true)]) u) (Om 4 ⟨g,H0.length*2+1,none⟩ (.bool true)) (λE f h=>by
   have h3:=(D h).storeN (P:=XM) (t:=4) (v:= .bool true) (j:=H0.length*2+1) O (by rw[Hj];show H0.length*2+1+1<=_;omega) (λv X=>by have X:v∈[Value.bool true]:=X;have X:=AA.1 X;subst X;rfl);rw[<-aM (cl:=cl)];exact h3) (λu h=>Za ⟨((D h).lt _ (by simp[bl])).1,((D h).blk _ (by simp[bl])).2⟩) (λwa u e1 e2 h hG=>by
   have U:K6 u w.heap.size 74 2 z.1 P.length z.2 (P.flatMap K9):=(F h).left e2 λb o wI=>N8 (F h) (D h) Zd b o (by simpa[bl]using wI)
   have hz3:=λx K b o=>(List.pairwise_append.1 h.apt).2.2 x K _ (AA.2 rfl) b o
   have h3:=h;rw[hl1]at h3;exact h3.last e1 (λb o=>e2 b λwI=>o (BG.2 (.inl (AA.1 wI)))) hG U hz3) O O ?_
  refine ZR<|uw (Ke 296 ⟨g,H0.length*2,none⟩) (.slice z.1 P.length z.2) O (λE f h=>Kh O (K6.cellR (xs:=R7 H0 P z true) h.own Sm))<|ZS 2 ?_
  by_cases hj0:j=0
  .have hc0:P=OH P:=by unfold OH;rw[YT I]
   refine YG 84 ((P.length:Int)>1) I<|ZI false<|YA 29 k hlt<|uh 6 (.slice (some ⟨g,0,none⟩) (H0++ [((P,z),cl)]).length J) (.slice (some ⟨g,0,none⟩) (H0++ [((P,z),true)]).length J) O (by rw[AB,AB];rfl)<|ui (⟨((k+1,_),(some ⟨g,0,none⟩,J)),hI3 (P) z hc0 S (AH _)⟩) O Zn Zt (λu h=>by show On w.heap.size (some ⟨g,0,none⟩,J) (H0++ [((P,z),true)]).length (H0++ [((P,z),true)]) u;rw[AB];exact h)
  refine YD 84 ((P.length:Int)>1) I<|ZS 17<|us 6 (Ke 296 ⟨g,H0.length*2,none⟩) (.slice z.1 P.length z.2) O (λE f h=>Kh O (K6.cellR (xs:=R7 H0 P z true) h.own Sm))<|ZS 17<|us 14 (Ke 296 ⟨g,H0.length*2,none⟩) (.slice z.1 P.length z.2) O (λE f h=>Kh O (K6.cellR (xs:=R7 H0 P z true) h.own Sm))<|ZS 17<|uh 91 (.int .i64 (XQ.wrap ((P.length:Int)-1))) (.int .i64 (j:Int)) O (by rw[AQ _ I,show(P.length:Int)-1=(j:Int) by omega]) ?_
  have U:∀{v:YM},On w.heap.size (some ⟨g,0,none⟩,J) (H0.length+1) (H0++ [((P,z),true)]) v->K6 v w.heap.size 74 2 (some ⟨gz,0,none⟩) P.length z.2 (P.flatMap K9):=λh=>by have l:=h.ring _ (AP.2 (.inr (AA.2 rfl)));rw[<-T];exact l
  refine us 9 (Kd 296 (.slice z.1 P.length z.2) j) (.pointer (some ⟨gz,j*2,none⟩)) O (λE f h=>by rw[T];exact Kc (elem:=74) O O I)<|ZS 17<|us 10 (Ke 74 ⟨gz,j*2,none⟩) (Km t) O (λE f h=>Ka (vs:=K9 t) O O (Ln L8 (U h) I ht))<|ZS 17<|us 15 (Kd 296 (.slice z.1 P.length z.2) (0:Nat)) (.pointer (some ⟨gz,0*2,none⟩)) O (λE f h=>by rw[T];exact Kc (elem:=74) O O I)<|ZS 17<|us 16 (Ke 74 ⟨gz,0*2,none⟩) (Km p0) O (λE f h=>Ka (vs:=K9 p0) O O (Ln L8 (U h) I hp0))<|ZS 17<|ZB 17 (Xj 74 (.tmp 93) (.tmp 99) (Km t) (Km p0)) (.bool (t.1==p0.1&&t.2==p0.2)) (λE f h=>Oc) ?_
  by_cases Y:t=p0
  case neg=>
   have hc0:P=OH P:=by unfold OH;rw[YT (λwI=>Y (by have l:=wI.2;rw[htl,hth]at l;injection l))]
   refine ZJ (t.1==p0.1&&t.2==p0.2) false (by rw[fm];exact YV Y)<|YA 29 k hlt<|uh 6 (.slice (some ⟨g,0,none⟩) (H0++ [((P,z),cl)]).length J) (.slice (some ⟨g,0,none⟩) (H0++ [((P,z),true)]).length J) O (by rw[AB,AB];rfl)<|ui (⟨((k+1,_),(some ⟨g,0,none⟩,J)),hI3 (P) z hc0 S (AH _)⟩) O Zn Zt (λu h=>by show On w.heap.size (some ⟨g,0,none⟩,J) (H0++ [((P,z),true)]).length (H0++ [((P,z),true)]) u;rw[AB];exact h)
  have hc0:P.take j=OH P:=by unfold OH;rw[YS ⟨by omega,by rw[htl,hth,Y]⟩,List.dropLast_eq_take,hj];rfl
  have htj:(P.take j).length=j:=by rw[BA];omega
  refine ul (t.1==p0.1&&t.2==p0.2) true O (by rw[fm];exact YU Y)<|ZS 7<|uw (Ke 296 ⟨g,H0.length*2,none⟩) (.slice z.1 P.length z.2) O (λE f h=>Kh O (K6.cellR (xs:=R7 H0 P z true) h.own Sm))<|ZS 7<|uh 108 (.int .i64 (XQ.wrap ((P.length:Int)-1))) (.int .i64 (j:Int)) O (by rw[AQ _ I,show(P.length:Int)-1=(j:Int) by omega])<|ZA (oV 296 (.slice z.1 P.length z.2) j) (.slice z.1 j z.2) (λE f h=>by rw[T];exact Xu (e:=74) (s:=2) O O O (by have:=K6.cap (U h);omega)) ?_
  refine ur (L:=[g]) (G:=λu=>K6 u w.heap.size 325 2 (some ⟨g,0,none⟩) (H0.length+1) J (R7 H0 (P.take j) z true)) (Φ':=λu=>On w.heap.size (some ⟨g,0,none⟩,J) (H0.length+1) (H0++ [((P.take j,z),true)]) u) (Om 296 ⟨g,H0.length*2,none⟩ (.slice z.1 j z.2)) (λE f h=>by
   have h3:=K6.storeN (xs:=R7 H0 P z true) (P:=XM) (t:=296) (v:= .slice z.1 j z.2) (j:=H0.length*2) h.own O (by rw[Hj];show H0.length*2+1<=_;omega) (λv X=>by have X:v∈[BB z.1 j z.2]:=X;have X:=AA.1 X;subst X;rfl);rw[<-M_ (acc:=P) (z:=z) (acc':=P.take j) (z':=z) (m:=j) htj];exact h3) (λu h=>Za ⟨(h.own.lt _ (by simp[bl])).1,(h.own.blk _ (by simp[bl])).2⟩) (λwa u e1 e2 h hG=>by
   have hp2:K6 u w.heap.size 74 2 z.1 (P.take j).length z.2 ((P.take j).flatMap K9):=by
    have h4:=(U h).left e2 λb o wI=>N8 (U h) h.own Zd b o (by simpa[bl]using wI)
    rw[htj,T,T6];exact h4.cut I
   have hz3:=λx K b o=>(List.pairwise_append.1 h.apt).2.2 x K _ (AA.2 rfl) b o
   exact h.last e1 (λb o=>e2 b λwI=>o (BG.2 (.inl (AA.1 wI)))) hG hp2 hz3) O O ?_
  refine ZR<|YA 29 k hlt<|uh 6 (.slice (some ⟨g,0,none⟩) (H0++ [((P,z),cl)]).length J) (.slice (some ⟨g,0,none⟩) (H0++ [((P.take j,z),true)]).length J) O (by rw[AB,AB];rfl)<|ui (⟨((k+1,_),(some ⟨g,0,none⟩,J)),hI3 (P.take j) z hc0 (λwI=>by rw[wI]at htj;simp at htj;omega) I⟩) O Zn Zt (λu h=>by show On w.heap.size (some ⟨g,0,none⟩,J) (H0++ [((P.take j,z),true)]).length (H0++ [((P.take j,z),true)]) u;rw[AB];exact h)
 obtain⟨j,hj⟩:∃j,P.length=j+1:=⟨P.length-1,by have:=AY.2 S;omega⟩
 obtain⟨t,ht⟩:=Yg P j;have htl:P.getLast? =some t:=by rw[List.getLast?_eq_getElem?,hj];exact ht
 have wJ:(if (O5 t s).2=0 then Nu (Sr H0++ [(putL P (O5 t s).1,cl)]) (ls.drop (k+1))else([],(O5 t s).2))=Nu [] ls:=by
  have e:Sr (H0++ [((P,z),cl)])=Sr H0++ [(P,cl)]:=by unfold Sr;rw[AF];rfl
  rw[<-hIv,e,Nu,YT h1,CD];dsimp only;rw[YT h5,List.dropLast_concat,htl];rfl
 have hsl:=H8 t s;refine ul (s.v !=5) true O (bne_iff_ne.2 h5)<|ZS 14<|us 3 (Ke 296 ⟨g,H0.length*2,none⟩) (.slice z.1 P.length z.2) O (λE f h=>Kh O ((D h).cellR Sm))<|ZS 14<|us 7 (Ke 296 ⟨g,H0.length*2,none⟩) (.slice z.1 P.length z.2) O (λE f h=>Kh O ((D h).cellR Sm))<|ZS 14<|uh 61 (.int .i64 (XQ.wrap ((P.length:Int)-1))) (.int .i64 (j:Int)) O (by rw[AQ _ I,show(P.length:Int)-1=(j:Int) by omega])<|us 10 (Kd 296 (.slice z.1 P.length z.2) j) (.pointer (some ⟨gz,j*2,none⟩)) O (λE f h=>by rw[T];exact Kc (elem:=74) O O I)<|ZS 14<|us 11 (Ke 74 ⟨gz,j*2,none⟩) (Km t) O (λE f h=>Ka (vs:=K9 t) O O (by have l:=F h;rw[T]at l;exact Ln L8 l I ht))<|ZS 14<|ZC (λE f h=>(VU (p:=t) (s:=s) (N:=w.heap.size) f.size).mono λe w' k=>K4.apt (R:=λr=>∀b∈bl r.1,b∉bl z.1) k (λr=>bl r.1) (λr u k b o=>(k.blk b o).2) (λr hr b o wI=>by have l:=((F h).lt b wI).2;have h3:=hr b o;omega)) λsg=> ?_
 by_cases he:(O5 t s).2=0
 case neg=>
  have hR:Oa ls=([],(O5 t s).2):=by unfold Oa;rw[<-wJ,YT he,YT he]
  refine ZJ ((O5 t s).2 !=0) true (bne_iff_ne.2 he)<|ug O<|ZR<|ZV (.tuple #[.slice none 0 0,.int .i64 (O5 t s).2]) (λE f h=>⟨((none,0),⟨[],by rw[hR];rfl⟩),pq (none,0) [] (by rw[hR]),f,λu k1 k2=>vJ⟩)
 rw[YS he]at wJ;refine ZJ ((O5 t s).2 !=0) false (by rw[he];rfl) ?_;have hzx:∀{v:YM},On w.heap.size (some ⟨g,0,none⟩,J) (H0++ [((P,z),cl)]).length (H0++ [((P,z),cl)]) v->∀x∈H0,∀b∈bl x.1.2.1,b∉bl z.1/\b<v.heap.size:=λh x K b o=>⟨(List.pairwise_append.1 h.apt).2.2 x K _ (AA.2 rfl) b o,((h.ring x (AP.2 (.inl K))).lt b o).2⟩
 refine uD (L:=g::bl z.1) (val:=λ_:YZ=> .tuple #[]) (G:=λz' u=>K6 u w.heap.size 325 2 (some ⟨g,0,none⟩) (H0.length+1) J (R7 H0 (putL P (O5 t s).1) z' cl)/\K6 u w.heap.size 74 2 z'.1 (putL P (O5 t s).1).length z'.2 ((putL P (O5 t s).1).flatMap K9)/\∀x∈H0,∀b∈bl x.1.2.1,b∉bl z'.1) (Φ':=λz' u=>On w.heap.size (some ⟨g,0,none⟩,J) (H0.length+1) (H0++ [((putL P (O5 t s).1,z'),cl)]) u) (λE f h=>(kx (c2:=sg.2) f rfl (D h.1) (F h.1) S (h.2.1.reads.rows (cl:=K9) (λ_=>rfl) rfl) (λb o wI=>by
  rcases BG.1 wI with l|l
  .exact N8 h.2.1 (D h.1) Zd b o (by simpa[bl]using l)
  .exact h.2.2 b o l) I).mono λe w' k=>by
   obtain⟨z',k1,k2,k3⟩:=k;exact⟨z',k1,k2,λw'' j1 j2=>⟨(k3 w'' j1 j2).1,(k3 w'' j1 j2).2.1,λx K b o wI=>((k3 w'' j1 j2).2.2 b wI).elim (hzx h.1 x K b o).1 λh4=>by have:=(hzx h.1 x K b o).2;omega⟩⟩) (λu h b o=>by
  rcases BG.1 o with rfl|l
  .exact⟨((D h.1).lt _ (by simp[bl])).1,((D h.1).blk _ (by simp[bl])).2⟩
  .exact⟨((F h.1).lt b l).1,((F h.1).blk b l).2⟩) (λz' wa u e1 e2 h hG=>by have h3:=h.1;rw[hl1]at h3;exact h3.last e1 e2 hG.1 hG.2.1 hG.2.2) O O (λz'=> ?_)
 refine ZR<|YA 29 k hlt ?_
 have hpl:=Uk (O5 t s).1 P;have hI2:NZ ls (k+1) (H0++ [((putL P (O5 t s).1,z'),cl)]):=by
  refine⟨by omega,?_,?_,λq Y=> ?_,λwI=>absurd wI Zs,by rw[AB];show H0.length+1<=k+1;omega⟩
  .rw[<-wJ];unfold Sr;rw[AF];rfl
  .have e:N9 (Sr (H0++ [((putL P (O5 t s).1,z'),cl)]))=N9 (Sr H0)+(putL P (O5 t s).1).length:=by unfold N9 Sr;rw[AF,AF,List.sum_append];simp
   omega
  .rcases AP.1 Y with l|l
   .exact Z.ne q (AP.2 (.inl l))
   .obtain rfl:=AA.1 l;exact Fy _ _ S
 refine uh 6 (.slice (some ⟨g,0,none⟩) (H0++ [((P,z),cl)]).length J) (.slice (some ⟨g,0,none⟩) (H0++ [((putL P (O5 t s).1,z'),cl)]).length J) O (by rw[AB,AB];rfl)<|ui (⟨((k+1,_),(some ⟨g,0,none⟩,J)),hI2⟩) O Zn Zt (λu h=>by show On w.heap.size (some ⟨g,0,none⟩,J) (H0++ [((putL P (O5 t s).1,z'),cl)]).length (H0++ [((putL P (O5 t s).1,z'),cl)]) u;rw[AB];exact h)
end
theorem Iu:∀{l:List Int},Xh l=0->∀e∈l,e=0
 | [],_,e,h=>by cases h
 | x::l,b,e,h=>by
  unfold Xh at b;split at b
  .rename_i c;rcases BG.1 h with rfl|f
   .exact c
   .exact Iu b e f
  .rename_i c;exact absurd b c
theorem dt{T:N7}{X Y:Int}(h:Gi T X Y=0):Lf (iD T X Y) (gT T X Y)=true:=by
 unfold Gi at h;split at h
 .cases h
 .split at h
  .cases h
  .split at h
   .cases h
   .rename_i c;have b:IQ T X Y=true:=by simpa using c
    unfold IQ at b;simp only[AU]at b;rw[Bf b.1,Bf b.2.1]at b;exact b.2.2
theorem JI(T:N7)(s:Sg):(Q8 T s).v=s.v:=by
 unfold Q8;rcases(Jz s).map (jf T)with _|⟨a,_|⟨b,_|⟨c,t⟩⟩⟩<;>rfl
theorem mL:Lf 0 0=true:=Zd
theorem QE{v:Int}{l:List Pt}{m:Nat}(k:Mu v=(m:Int))(s:m<=3)(f:l.length=m)(e:∀p∈l,Lf p.1 p.2=true):Se (Q4 v l)=true:=by
 have h:=mL;rcases l with _|⟨a,_|⟨b,_|⟨c,_|⟨d,t⟩⟩⟩⟩
 .obtain rfl:m=0:=f.symm;simp[Q4,Se,J_,h]
 .obtain rfl:m=1:=f.symm;have g:=e a Zs;simp[Q4,Se,J_,h,k,g]
 .obtain rfl:m=2:=f.symm;have g:=e a Zs;have j:=e b Zs;simp[Q4,Se,J_,h,k,g,j]
 .obtain rfl:m=3:=f.symm;have g:=e a Zs;have j:=e b Zs;have o:=e c Zs;simp[Q4,Se,J_,k,g,j,o]
 .simp at f;omega
theorem lx{T:N7}{s:Sg}{last:Int}(h:Tf last s=0)(e:W8 T (Jz s)=0):Tf last (Q8 T s)=0:=by
 obtain⟨m,b,c⟩:∃m:Nat,Mu s.v=(m:Int)/\m<=3:=by
  have l:(Yr last 0 [s]).1=0:=by rw[Cn h];rfl
  exact GF l s (AA.2 rfl)
 have g:Se (Q8 T s)=true:=by
  refine QE b c (by unfold Jz pP;rw[AZ,BA,b];show min m 3=m;omega) λp k=> ?_
  obtain⟨q,j,rfl⟩:=BI.1 k;exact dt (Iu e _ (BI.2 ⟨q,j,rfl⟩))
 refine TA (m:=(m:Int)) (by rw[JI];exact b) I ?_ g;rw[JI];unfold Tf at h;split at h
 .cases h
 .split at h
  .cases h
  .rename_i f;simpa using f
theorem SG{T:N7}:∀{ls:List Sg} {last:Int} {k:Nat},(Yr last k ls).1=0->Nn T ls=0->(Yr last k (ls.map (Q8 T))).1=0
 | [],_,_,_,_=>rfl
 | s::l,last,k,h,b=>by
  have e:=Iu b _ (BI.2 ⟨s,BF ..,rfl⟩);have f:Nn T l=0:=by
   unfold Nn at b ⊢;rw[BO,Xh,YS e]at b;exact b
  by_cases c:Tf last s=0
  .rw[Cn c]at h;rw[BO,Cn (lx c e),JI];exact SG h f
  .rw[V1 c]at h;exact absurd h c
theorem oz{T:N7}{ls:List Sg}(h:(Ff ls).1=0)(b:Nn T ls=0):(Ff (ls.map (Q8 T))).1=0:=by
 have c:=Vw h;unfold Ff at h ⊢;rw[YT I]at h;rw[YT (by rw[AZ];omega)];exact SG h b
def Q7(T:N7)(ls:List Sg):List (List Pt)×Int:=
 if Nn T ls=0 then(if (Oa (ls.map (Q8 T))).2=0 then(Qb ((Oa (ls.map (Q8 T))).1.map (·.1)),0)else([],(Oa (ls.map (Q8 T))).2))else([],Nn T ls)
abbrev WS:=List YX
abbrev Co:=UInt8×UInt8×UInt8×UInt8
structure Im where
 w:Int
 h:Int
 px:List Co
structure Pn where
 kind:Int
 co:Co
 p0x:Int
 p0y:Int
 p1x:Int
 p1y:Int
 rad:Int
 stops:List (Int×Co)
 spread:Int
 im:Im
 samp:Int
 T:N7
def WR:Co:=(0,0,0,0)
def cM:Im:=⟨0,0,[]⟩
def Qt:N7:=⟨0,0,0,0,0,0⟩
structure ue where
 i:Nat
 syn:Bool
 rng:Bool
def H1(w h:Int):Bool:=decide (1<=w/\w<=4096/\1<=h/\h<=4096/\w*h<=65536)
theorem K8.cell{w:YM}{g j:Nat}{cs:List YI}(h:K8 w g cs):w.cell? ⟨g,j,none⟩=cs[j]? :=by
 obtain⟨t,h⟩:=h;simp only[CT,h,Option.isSome_none,Bool.false_eq_true,if_false];simp
abbrev Fd(c:Co):YI:= .agg #[.int .u8 (c.1.toNat:Int),.int .u8 (c.2.1.toNat:Int),.int .u8 (c.2.2.1.toNat:Int),.int .u8 (c.2.2.2.toNat:Int)]
abbrev oJ(m:Im)(y:YZ):YI:= .agg #[.int .i64 m.w,.int .i64 m.h,.slice y.1 m.px.length y.2]
def Qr(x:Int×Co):List YI:=[.int .i64 x.1,.int .u8 (x.2.1.toNat:Int),.int .u8 (x.2.2.1.toNat:Int),.int .u8 (x.2.2.2.1.toNat:Int),.int .u8 (x.2.2.2.2.toNat:Int)]
def Pm(c:Co):List YI:=[.int .u8 (c.1.toNat:Int),.int .u8 (c.2.1.toNat:Int),.int .u8 (c.2.2.1.toNat:Int),.int .u8 (c.2.2.2.toNat:Int)]
structure PM where
 sA:YY
 sc:Nat
 xA:YY
 xc:Nat
 t:TV
abbrev KH(P:Pn)(q:PM):YI:= .agg (#[.int .i64 P.kind,.int .u8 (P.co.1.toNat:Int),.int .u8 (P.co.2.1.toNat:Int),.int .u8 (P.co.2.2.1.toNat:Int),.int .u8 (P.co.2.2.2.toNat:Int),.int .i64 P.p0x,.int .i64 P.p0y,.int .i64 P.p1x,.int .i64 P.p1y,.int .i64 P.rad,.slice q.sA P.stops.length q.sc,.int .i64 P.spread,.int .i64 P.im.w,.int .i64 P.im.h,.slice q.xA P.im.px.length q.xc,.int .i64 P.samp]++q.t.cl.toArray)
def OC(P:Pn)(q:PM):List YI:=[.int .i64 P.kind,.int .u8 (P.co.1.toNat:Int),.int .u8 (P.co.2.1.toNat:Int),.int .u8 (P.co.2.2.1.toNat:Int),.int .u8 (P.co.2.2.2.toNat:Int),.int .i64 P.p0x,.int .i64 P.p0y,.int .i64 P.p1x,.int .i64 P.p1y,.int .i64 P.rad,.slice q.sA P.stops.length q.sc,.int .i64 P.spread,.int .i64 P.im.w,.int .i64 P.im.h,.slice q.xA P.im.px.length q.xc,.int .i64 P.samp]++q.t.cl
def Fq:TV:=⟨Ou,Ou,Ou,Ou,Ou,Ou⟩
def gR:PM:=⟨none,0,none,0,Fq⟩
section
variable{w:YM}{A:YY}{n c K:Nat}{px:List Co}
theorem pE{k:Nat}{ad:XR}(e:A=some ad)(b:k<n):(Kd 31 (.slice A n c) k).run XM w= .ok (.value (.pointer (some (ad.add (k*4))))) w:=by
 rw[e];exact L9 (elem:=38) O O b
theorem rM{ad:XR}{x:Co}(h:∀j v,(Pm x)[j]? =some v->w.cell? (ad.add j)=some v):(Ke 38 ad).run XM w= .ok (.value (.agg (Pm x).toArray)) w:=
 Mh O O h
theorem pA{k:Nat}{ad:XR}(e:A=some ad)(b:k<n):(Kd 75 (.slice A n c) k).run XM w= .ok (.value (.pointer (some (ad.add (k*5))))) w:=by
 rw[e];exact L9 (elem:=275) O O b
theorem rW{ad:XR}{x:Int×Co}(h:∀j v,(Qr x)[j]? =some v->w.cell? (ad.add j)=some v):(Ke 275 ad).run XM w= .ok (.value (.agg (Qr x).toArray)) w:=
 Mh O O h
end
theorem Q3{p q:Rat}{B:Bool}(h:decide (p=q)=B):(Kv p q !=0)= !B:=by
 rw[<-h];unfold Kv
 by_cases c:p<q
 .rw[YS c,YV (λk=>by rw[k]at c;exact absurd c (Rat.lt_irrefl))];rfl
 .rw[YT c]
  by_cases b:p=q
  .rw[YS b,YU b];rfl
  .rw[YT b,YV b];rfl
section
variable{w wa:YM}{t u:TV}{T U:N7}{K K1 K2:Nat}{r s:RV}{p q:Rat}{X Y:Int}{L:List Nat}{ty:XX}
theorem KW(B:S3 t T K w)(D:S3 u U K w)(A:2<=K/\K<=10000000):Ca 197 #[t.val,u.val] w (CU w (.bool (aX T U))):=by
 refine uf func197 rfl<|ZR<|ZC (λz j h=>Z7 (B.below j) A) λn=>ZC (λz j h=>Z7 (D.below j) A) λm=>uR O<|ZR<|uJ 8 O λ_=>ZI true<|ZC (λz j h=>Lv h.1.2.a.q h.2.a.q I) λv=> ?_
 cases x:decide (T.a=U.a)
 .exact ZJ (Kv T.a U.a !=0) true (by rw[Q3 x];rfl)<|ZX (.bool false) (by unfold aX;rw[x];simp)
 refine ZJ (Kv T.a U.a !=0) false (by rw[Q3 x];rfl)<|uJ 8 O λ_=>ZI true<|ZC (λz j h=>Lv h.1.1.2.b.q h.1.2.b.q I) λv=> ?_
 cases l:decide (T.b=U.b)
 .exact ZJ (Kv T.b U.b !=0) true (by rw[Q3 l];rfl)<|ZX (.bool false) (by unfold aX;rw[l];simp)
 refine ZJ (Kv T.b U.b !=0) false (by rw[Q3 l];rfl)<|uJ 8 O λ_=>ZI true<|ZC (λz j h=>Lv h.1.1.1.2.c.q h.1.1.2.c.q I) λv=> ?_
 cases y:decide (T.c=U.c)
 .exact ZJ (Kv T.c U.c !=0) true (by rw[Q3 y];rfl)<|ZX (.bool false) (by unfold aX;rw[y];simp)
 refine ZJ (Kv T.c U.c !=0) false (by rw[Q3 y];rfl)<|uJ 8 O λ_=>ZI true<|ZC (λz j h=>Lv h.1.1.1.1.2.d.q h.1.1.1.2.d.q I) λv=> ?_
 cases k:decide (T.d=U.d)
 .exact ZJ (Kv T.d U.d !=0) true (by rw[Q3 k];rfl)<|ZX (.bool false) (by unfold aX;rw[k];simp)
 refine ZJ (Kv T.d U.d !=0) false (by rw[Q3 k];rfl)<|uJ 8 O λ_=>ZI true<|ZC (λz j h=>Lv h.1.1.1.1.1.2.e.q h.1.1.1.1.2.e.q I) λv=> ?_
 cases o:decide (T.e=U.e)
 .exact ZJ (Kv T.e U.e !=0) true (by rw[Q3 o];rfl)<|ZX (.bool false) (by unfold aX;rw[o];simp)
 refine ZJ (Kv T.e U.e !=0) false (by rw[Q3 o];rfl)<|uJ 8 O λ_=>ZI true<|ZC (λz j h=>Lv h.1.1.1.1.1.1.2.f.q h.1.1.1.1.1.2.f.q I) λv=> ?_
 cases g:decide (T.f=U.f)
 .exact ZJ (Kv T.f U.f !=0) true (by rw[Q3 g];rfl)<|ZX (.bool false) (by unfold aX;rw[g];simp)
 exact ZJ (Kv T.f U.f !=0) false (by rw[Q3 g];rfl)<|ZI false<|ZX (.bool true) (by unfold aX;rw[x,l,y,k,o,g];rfl)
end
section
variable{w:YM}
def kO(a b:Co):Bool:=((a.1.toNat:Int)==(b.1.toNat:Int))&&(((a.2.1.toNat:Int)==(b.2.1.toNat:Int))&&(((a.2.2.1.toNat:Int)==(b.2.2.1.toNat:Int))&&(((a.2.2.2.toNat:Int)==(b.2.2.2.toNat:Int))&&true)))
theorem HO{a b:UInt8}:((a.toNat:Int)==(b.toNat:Int))=decide (a=b):=by
 rw[BP,YQ,decide_eq_true_iff,Int.ofNat_inj];exact UInt8.toNat_inj
theorem TP{a b:Co}:kO a b=decide (a=b):=by
 obtain⟨j,h,e,f⟩:=a;obtain⟨b1,b2,g,c⟩:=b;unfold kO;rw[HO,HO,HO,HO,BP];simp
theorem sj(k:Nat)(a b:Co):(Op.equalIn (k+2) 23 (Fd a) (Fd b)).run XM w= .ok (kO a b) w:=by
 have E:XM.underlying 23=some (.struct (XM.fieldsOf 23)):=O
 have wI:XM.stoodInHeld 23=false:=O
 have e:(XM.fieldsOf 23).toList.map (λf=>(f.name,f.offset,f.type))=[("R",0,5),("G",1,5),("B",2,5),("A",3,5)]:=O
 have c:XM.underlying 5=some (.int .u8):=O
 obtain⟨Z,M,D,z,e⟩:=AW.1 e;obtain⟨N,r1,h,v,e⟩:=AW.1 e;obtain⟨K,r2,l,k2,e⟩:=AW.1 e;obtain⟨L,G,m,A,e⟩:=AW.1 e;obtain rfl:G=[]:=CF.1 e;subst m;subst l;subst h;simp only[BV]at z v k2 A;obtain⟨F,u,p⟩:=z;obtain⟨H,t,o⟩:=v;obtain⟨B,y,j⟩:=k2;obtain⟨J,x,s⟩:=A;have g:∀a b:Int,(Op.equalIn (k+1) 5 (.int .u8 a) (.int .u8 b)).run XM w= .ok (a==b) w:=λa b=>run_equalIn_int w k _ .u8 .u8 a b c
 show(Op.equalIn (k+1+1) 23 (.agg _) (.agg _)).run XM w=_;rw[run_equalIn_struct w (k+1) _ _ _ E wI,D];refine Od (by rw[F];decide) (by rw[p,u];exact La c rfl rfl) (by rw[p,u];exact La c rfl rfl) (by rw[p];exact g _ _)<|Od (by rw[H];decide) (by rw[o,t];exact La c rfl rfl) (by rw[o,t];exact La c rfl rfl) (by rw[o];exact g _ _)<|Od (by rw[B];decide) (by rw[j,y];exact La c rfl rfl) (by rw[j,y];exact La c rfl rfl) (by rw[j];exact g _ _)<|Od (by rw[J];decide) (by rw[s,x];exact La c rfl rfl) (by rw[s,x];exact La c rfl rfl) (by rw[s];exact g _ _) ?_
 simp[Op.eqFields]
theorem E_{x y:XZ}{a b:Co}{B:Bool}(f:decide (a=b)=B):(Xj 23 x y (Fd a) (Fd b)).run XM w= .ok (.value (.bool B)) w:=by
 subst f;have e:XM.eqGuardType XM.depth 23=false:=O
 have c:=sj (w:=w) 9998 a b;rw[TP]at c;simp only[Xj,AL,run_eqGuard_agg w .eql _ x y _ _ e,AK,run_eql_struct,AX]at c ⊢;rw[c]
 rfl
theorem ox(k:Nat)(a b:Co):(Op.equalIn (k+2) 38 (Fd a) (Fd b)).run XM w= .ok (kO a b) w:=by
 have E:XM.underlying 38=some (.struct (XM.fieldsOf 38)):=O
 have wI:XM.stoodInHeld 38=false:=O
 have e:(XM.fieldsOf 38).toList.map (λf=>(f.name,f.offset,f.type))=[("R",0,5),("G",1,5),("B",2,5),("A",3,5)]:=O
 have c:XM.underlying 5=some (.int .u8):=O
 obtain⟨Z,M,D,z,e⟩:=AW.1 e;obtain⟨N,r1,h,v,e⟩:=AW.1 e;obtain⟨K,r2,l,k2,e⟩:=AW.1 e;obtain⟨L,G,m,A,e⟩:=AW.1 e;obtain rfl:G=[]:=CF.1 e;subst m;subst l;subst h;simp only[BV]at z v k2 A;obtain⟨F,u,p⟩:=z;obtain⟨H,t,o⟩:=v;obtain⟨B,y,j⟩:=k2;obtain⟨J,x,s⟩:=A;have g:∀a b:Int,(Op.equalIn (k+1) 5 (.int .u8 a) (.int .u8 b)).run XM w= .ok (a==b) w:=λa b=>run_equalIn_int w k _ .u8 .u8 a b c
 show(Op.equalIn (k+1+1) 38 (.agg _) (.agg _)).run XM w=_;rw[run_equalIn_struct w (k+1) _ _ _ E wI,D];refine Od (by rw[F];decide) (by rw[p,u];exact La c rfl rfl) (by rw[p,u];exact La c rfl rfl) (by rw[p];exact g _ _)<|Od (by rw[H];decide) (by rw[o,t];exact La c rfl rfl) (by rw[o,t];exact La c rfl rfl) (by rw[o];exact g _ _)<|Od (by rw[B];decide) (by rw[j,y];exact La c rfl rfl) (by rw[j,y];exact La c rfl rfl) (by rw[j];exact g _ _)<|Od (by rw[J];decide) (by rw[s,x];exact La c rfl rfl) (by rw[s,x];exact La c rfl rfl) (by rw[s];exact g _ _) ?_
 simp[Op.eqFields]
theorem OT{x y:XZ}{a b:Co}{B:Bool}(f:decide (a=b)=B):(Xj 38 x y (Fd a) (Fd b)).run XM w= .ok (.value (.bool B)) w:=by
 subst f;have e:XM.eqGuardType XM.depth 38=false:=O
 have c:=ox (w:=w) 9998 a b;rw[TP]at c;simp only[Xj,AL,run_eqGuard_agg w .eql _ x y _ _ e,AK,run_eql_struct,AX]at c ⊢;rw[c]
 rfl
end
structure Jp(P:Pn)(q:PM)(K:Nat)(w:YM):Prop where
 st:Kk w q.sA P.stops.length 5 Qr P.stops
 px:Kk w q.xA P.im.px.length 4 Pm P.im.px
 tr:S3 q.t P.T K w
theorem Jp.below{P:Pn}{q:PM}{K:Nat}{w c:YM}(h:Jp P q K w)(b:Below w.heap.size w c):Jp P q K c:=⟨h.st.below b,h.px.below b,h.tr.below b⟩
theorem S3.zero{K:Nat}{w:YM}:S3 Fq Qt K w:=⟨JR,JR,JR,JR,JR,JR⟩
def WO:Int->List (Int×Co)->Bool
 |_,[]=>true
 |a,x::l=>decide (a<=x.1/\x.1<=65536)&&WO x.1 l
def Q0(l:List (Int×Co)):Bool:=decide (1<=l.length/\l.length<=16)&&WO 0 l
def W7(c:Co):Bool:=decide (c.1<=c.2.2.2/\c.2.1<=c.2.2.2/\c.2.2.1<=c.2.2.2)
def Vn(m:Im):Bool:=H1 m.w m.h&&decide ((m.px.length:Int)=m.w*m.h)&&m.px.all W7
def A0(n:Int):Bool:=decide (1<=n/\n<=3)
def Bb(P:Pn):Pn:=
 if P.kind=1 then{P with co:=WR,T:=Qt}
 else if P.kind=2 then{P with p0x:=0,p0y:=0,p1x:=0,p1y:=0,stops:=[],spread:=0,T:=Qt}
 else if P.kind=3 then{P with p0x:=0,p0y:=0,rad:=0,stops:=[],spread:=0,T:=Qt}
 else if P.kind=4 then{P with im:=cM,spread:=0,samp:=0,T:=Qt}
 else{P with T:=Qt}
def Sy(P:Pn):Prop:=P.co=WR/\(P.p0x=0/\P.p0y=0)/\(P.p1x=0/\P.p1y=0)/\P.rad=0/\P.spread=0/\P.samp=0/\P.stops=[]/\(P.im.w=0/\P.im.h=0/\P.im.px=[])
instance(P:Pn):Decidable (Sy P):=decidable_of_iff (P.co=WR/\(P.p0x=0/\P.p0y=0)/\(P.p1x=0/\P.p1y=0)/\P.rad=0/\P.spread=0/\P.samp=0/\P.stops=[]/\(P.im.w=0/\P.im.h=0/\P.im.px=[])) Iff.rfl
def GS(P:Pn):Bool:=
 if P.kind=1 then aX P.T Qt
 else if P.kind=2 then Lf P.p0x P.p0y&&(Lf P.p1x P.p1y&&((Q0 P.stops&&A0 P.spread)&&decide (P.T.det≠0)))
 else if P.kind=3 then Lf P.p0x P.p0y&&(decide (1<=P.rad/\P.rad<=1048576)&&((Q0 P.stops&&A0 P.spread)&&decide (P.T.det≠0)))
 else if P.kind=4 then Vn P.im&&((decide (P.spread=0)||A0 P.spread)&&(decide (P.samp=1\/P.samp=2)&&decide (P.T.det≠0)))
 else false
def Lu(P:Pn):Bool:=P.T.ok&&(decide (Sy (Bb P))&&GS P)
section
variable{w:YM}{A A2:YY}{n c:Nat}{l:List (Int×Co)}{px:List Co}{P:Pn}{q:PM}{K:Nat}{B:Bool}{k x y:Int}{m:Im}{co:Co}{g:Nat}
def gW(a b:UInt8):UInt8:=if b<a then b else a
theorem ol(a b:UInt8):((gW a b).toNat:Int)=if (b.toNat:Int)<(a.toNat:Int)then(b.toNat:Int)else(a.toNat:Int):=by
 unfold gW
 by_cases h:b<a
 .rw[YS h,YS (by have:=BK.1 h;omega)]
 .rw[YT h,YT (by have:=mt BK.2 h;omega)]
def Az(c:Co):Co:=(gW c.1 c.2.2.2,gW c.2.1 c.2.2.2,gW c.2.2.1 c.2.2.2,gW c.2.2.2 c.2.2.2)
theorem gw{a b:UInt8}:gW a b=a↔a<=b:=by
 unfold gW
 by_cases h:b<a
 .rw[YS h];have:=BK.1 h;constructor
  .intro e;subst e;exact UInt8.le_refl _
  .intro e;have:=CB.1 e;omega
 .rw[YT h];have:=mt BK.2 h;exact⟨λ_=>CB.2 I,λ_=>rfl⟩
theorem aw:decide (Az co=co)=W7 co:=by
 obtain⟨r,g,b,a⟩:=co;unfold Az W7;apply decide_eq_decide.2;simp only[BV,gw];constructor
 .exact λh=>⟨h.1,h.2.1,h.2.2.1⟩
 .exact λh=>⟨h.1,h.2.1,h.2.2,UInt8.le_refl _⟩
theorem Zm{v:UInt8}(e:K8 w g (Pm co)):Ca 34 #[.int .u8 (v.toNat:Int),.pointer (some ⟨g,0,none⟩)] w (CU w (.int .u8 ((gW v co.2.2.2).toNat:Int))):=uf func34 rfl<|ZR<|ZA (Ke 5 ⟨g,3,none⟩) (.int .u8 (co.2.2.2.toNat:Int)) (λf b h=>Kh O (by rw[(e.below b).cell];rfl))<|ZX (.int .u8 (if (co.2.2.2.toNat:Int)<(v.toNat:Int)then(co.2.2.2.toNat:Int)else(v.toNat:Int))) (by rw[ol])
theorem gj(e:K8 w g (Pm co)):Ca 33 #[Fd co,.func (.func 34) #[] #[.pointer (some ⟨g,0,none⟩)]] w (CU w (Fd (Az co))):=uf func33 rfl<|ZR<|ZC (λf b h=>Zm (v:=co.1) (e.below b)) λs=>ZC (λf b h=>Zm (v:=co.2.1) (e.below b)) λo=>ZC (λf b h=>Zm (v:=co.2.2.1) (e.below b)) λj=>ZC (λf b h=>Zm (v:=co.2.2.2) (e.below b)) λp=>ZW (Fd (Az co))
theorem fK:Ca 14 #[Fd co] w (CU w (Fd (Az co))):=uf func14 rfl<|ZS 0<|uk (B0 38 (Fd co)) (Kp) (λg u=>K8 u g (Pm co)/\0<=g/\g<u.heap.size) O (λe b h=>I9 (v:=Fd co) (AD _)) λg=>ZS 1<|ZR<|ZA (Ke 38 ⟨g,0,none⟩) (Fd co) (λe b h=>Ka (vs:=Pm co) O O h.2.1.range)<|ZC (λe b h=>gj h.2.1) λu=>ZW (Fd (Az co))
theorem dH(b:W7 co=B):Ca 7 #[Fd co] w (CU w (.bool B)):=uf func7 rfl<|ZR<|ZD 3 (λf e h=>fK (co:=co)) λu=>ZB 3 (Xj 38 (.tmp 4) (.tmp 5) (Fd (Az co)) (Fd co)) (.bool B) (λf e h=>OT (aw.trans b))<|ZW (.bool B)
theorem FT(b:W7 co=B):Ca 142 #[Fd co] w (CU w (.bool (!B))):=uf func142 rfl<|ZR<|ZC (λf e h=>dH b) λu=>ZW (.bool (!B))
theorem SC(b:decide (1<=x/\x<=4096)=B):Ca 141 #[.int .i64 x] w (CU w (.bool B)):=by
 refine uf func141 rfl<|ZS 3 ?_
 by_cases e:1<=x
 case neg=>
  exact YG 5 (x>=1) I<|ZX (.bool false) (by rw[<-b,YV I])
 exact YE 5 (x>=1) I<|ZX (.bool (decide (x<=4096))) (by rw[<-b];congr 2;exact decide_eq_decide.2 I)
theorem Bk(b:A0 x=B):Ca 199 #[.int .i64 x] w (CU w (.bool B)):=by
 unfold A0 at b;refine uf func199 rfl<|ZS 3 ?_
 by_cases e:1<=x
 case neg=>
  exact YG 5 (x>=1) I<|ZX (.bool false) (by rw[<-b,YV I])
 exact YE 5 (x>=1) I<|ZX (.bool (decide (x<=3))) (by rw[<-b];congr 2;exact decide_eq_decide.2 I)
theorem Jk{α:Type}{p:α->Bool}{l:List α}{k:Nat}{x:α}(b:l[k]? =some x)(h:(l.take k).all p=true):(l.take (k+1)).all p=p x:=by
 rw[CK,b];simp[h]
theorem VC{α:Type}{p:α->Bool}{l:List α}{k:Nat}{x:α}(b:l[k]? =some x)(h:p x=false):l.all p=false:=by
 rw[List.all_eq_false];exact⟨x,AI b,by simp[h]⟩
theorem j5(z:px.all W7=B)(D:Kk w A n 4 Pm px)(Z:n<=9223372036854775807):Ca 36 #[.slice A n c,.func (.func 142) #[] #[]] w (K4 w (λr:{r:Int // decide (r>=0)= !B}=> .int .i64 r.1) λ_ _=>True):=by
 have G:=D.1;refine uf func36 rfl<|ZR<|uj (ι:={q:Nat // q<=n/\(px.take q).all W7=true}) 19 (λq=>⟨[vS 0 A n c,vV 1 (.func (.func 142) #[] #[]),vI 7 n,vI 8 q.1],[]⟩) (λq u=>True) (λq=>n-q.1) (⟨0,AD _,rfl⟩) O Zf Zt (λu h=>trivial) ?_
 rintro⟨k,t,b⟩ J;have t:k<=n:=t;have b:(px.take k).all W7=true:=b
 by_cases o:k<n
 case neg=>
  obtain rfl:k=n:=I
  rw[AR I]at b;refine ZR<|ZJ (decide ((k:Int)<(k:Int))) false Zs<|ug O<|ZR<|ZV (.int .i64 (-1)) (λf e h=>⟨⟨-1,by rw[<-z,b];rfl⟩,rfl,e,Zv⟩)
 obtain⟨x,s⟩:=Yg px k;obtain⟨ad,E,F⟩:=D.2 k x s;refine ZR<|ZJ (decide ((k:Int)<(n:Int))) true Zp<|ZA (Kd 31 (.slice A n c) k) (.pointer (some (ad.add (k*4)))) (λf e h=>pE E o)<|ZA (Ke 38 (ad.add (k*4))) (.agg (Pm x).toArray) (λf e h=>rM λj v H=>L5 e (F j v H)) ?_
 cases p:W7 x
 .refine ZC (λf e h=>FT (co:=x) p) λu=>ZI true<|ug O<|ZR<|ZV (.int .i64 (k:Int)) (λf e h=>⟨⟨k,by rw[<-z,VC s p];simp⟩,rfl,e,Zv⟩)
 .refine ZC (λf e h=>FT (co:=x) p) λu=>ZI false<|YA 8 k o<|ui (⟨k+1,Zn,by rw[Jk s b,p]⟩) O Zn Zt (λu h=>trivial)
theorem QS(b:px.all W7=B)(j:Kk w A n 4 Pm px)(e:n<=9223372036854775807):Ca 17 #[.slice A n c,.func (.func 142) #[] #[]] w (CU w (.bool (!B))):=uf func17 rfl<|ZR<|ZC (λo f h=>j5 (c:=c) b (j.below f) e) λu=>ZX (.bool (decide (u.1>=0))) (by rw[u.2])
theorem Fj(e:1<=x/\x<=4096)(b:1<=y/\y<=4096):XQ.wrap (x*y)=x*y:=by
 have f:x*y<=4096*4096:=Int.mul_le_mul e.2 b.2 I I;have h:0<=x*y:=Int.mul_nonneg I I;rw[AQ _ I]
theorem Us{y:YZ}(b:Vn m=B)(E:Kk w y.1 m.px.length 4 Pm m.px)(D:m.px.length<=9223372036854775807):Ca 94 #[oJ m y] w (CU w (.bool B)):=by
 unfold Vn at b;refine uf func94 rfl<|ZR ?_
 by_cases f:1<=m.w/\m.w<=4096
 case neg=>
  have j:H1 m.w m.h=false:=YV I;exact ZC (λs o h=>SC (x:=m.w) (YV f)) λu=>ZR<|ZI true<|ZX (.bool false) (by rw[<-b,j];rfl)
 refine ZC (λs o h=>SC (x:=m.w) (YU f)) λu=> ?_
 by_cases e:1<=m.h/\m.h<=4096
 case neg=>
  have j:H1 m.w m.h=false:=YV I;exact ZC (λs o h=>SC (x:=m.h) (YV e)) λz=>ZR<|ZI true<|ZX (.bool false) (by rw[<-b,j];rfl)
 refine ZD 21 (λs o h=>SC (x:=m.h) (YU e)) λz=> ?_
 by_cases t:m.w*m.h<=65536
 case neg=>
  have j:H1 m.w m.h=false:=YV I;exact ZT 24 (.bool (decide (XQ.wrap (m.w*m.h)>65536))) (.bool true) (by rw[Fj f e,YU I])<|ZI true<|ZX (.bool false) (by rw[<-b,j];rfl)
 have j:H1 m.w m.h=true:=YU ⟨f.1,f.2,e.1,e.2,t⟩;rw[j,AE]at b;refine ZT 24 (.bool (decide (XQ.wrap (m.w*m.h)>65536))) (.bool false) (by rw[Fj f e,YV I]) ?_
 by_cases p:(m.px.length:Int)=m.w*m.h
 case neg=>
  exact ZJ (((m.px.length:Int) !=XQ.wrap (m.w*m.h))) true (by rw[Fj f e];simpa using p)<|ZX (.bool false) (by rw[<-b,YV p];rfl)
 rw[YU p,AE]at b;exact ZJ (((m.px.length:Int) !=XQ.wrap (m.w*m.h))) false (by rw[Fj f e];simpa using p)<|ZC (λs o h=>QS (c:=y.2) b (E.below o) D) λv=>ZX (.bool (!!B)) (by rw[Bool.not_not])
theorem C8(o:Q0 l=B)(E:Kk w A n 5 Qr l):Ca 241 #[.slice A n c] w (CU w (.bool B)):=by
 have H:=E.1;unfold Q0 at o;refine uf func241 rfl<|ZS 4 ?_
 by_cases L:n<1
 case pos=>
  exact YE 9 ((n:Int)<1) I<|ZI true<|ZX (.bool false) (by rw[<-o,YV I];rfl)
 refine YG 9 ((n:Int)<1) I ?_
 by_cases M:n>16
 case pos=>
  exact ZJ (decide ((n:Int)>16)) true Zp<|ZX (.bool false) (by rw[<-o,YV I];rfl)
 rw[YU I,AE]at o;refine ZJ (decide ((n:Int)>16)) false Zp<|uj (ι:={q:Nat×Int // q.1<=n/\WO q.2 (l.drop q.1)=B}) 32 (λq=>⟨[vI 3 q.1.2,vS 14 A n c,vI 15 n,vI 16 q.1.1],[]⟩) (λq u=>True) (λq=>n-q.1.1) (⟨(0,0),AD _,o⟩) O Zf Zt (λu h=>trivial) ?_
 rintro⟨⟨k,a⟩,p,b⟩ N;have p:k<=n:=p;have b:WO a (l.drop k)=B:=b
 by_cases f:k<n
 case neg=>
  obtain rfl:k=n:=I
  rw[List.drop_eq_nil_of_le I]at b;exact ZR<|ZJ (decide ((k:Int)<(k:Int))) false Zs<|ug O<|ZR<|ZX (.bool true) (by rw[<-b];rfl)
 obtain⟨x,t⟩:=Yg l k;obtain⟨ad,F,G⟩:=E.2 k x t;have e:WO a (l.drop k)=(decide (a<=x.1/\x.1<=65536)&&WO x.1 (l.drop (k+1))):=by rw[N3 t];rfl
 rw[e]at b;refine ZR<|ZJ (decide ((k:Int)<(n:Int))) true Zp<|ZA (Kd 75 (.slice A n c) k) (.pointer (some (ad.add (k*5)))) (λZ s h=>pA F f)<|uw (Ke 275 (ad.add (k*5))) (.agg (Qr x).toArray) O (λZ s h=>rW λj v J=>L5 s (G j v J))<|ZS 5 ?_
 by_cases z:x.1<a
 case pos=>
  exact YE 24 (x.1<a) z<|ZI true<|ug O<|ZR<|ZX (.bool false) (by rw[<-b,YV I];rfl)
 refine YG 24 (x.1<a) z ?_
 by_cases D:x.1>65536
 case pos=>
  exact ZJ (decide (x.1>65536)) true (by simpa using D)<|ug O<|ZR<|ZX (.bool false) (by rw[<-b,YV I];rfl)
 rw[YU I,AE]at b;refine ZJ (decide (x.1>65536)) false (by simpa using D)<|YA 16 k f<|ui (⟨(k+1,x.1),Zn,b⟩) O Zn Zt (λu h=>trivial)
theorem Bc(o:(Q0 P.stops&&A0 P.spread)=B)(p:Jp P q K w):Ca 198 #[KH P q] w (CU w (.bool B)):=by
 cases e:Q0 P.stops
 .exact uf func198 rfl<|ZR<|ZC (λj b h=>C8 (c:=q.sc) e (p.st.below b)) λu=>ZX (.bool false) (by rw[<-o,e];rfl)
 cases f:A0 P.spread
 .exact uf func198 rfl<|ZR<|ZC (λj b h=>C8 (c:=q.sc) e (p.st.below b)) λu=>ZC (λj b h=>Bk (x:=P.spread) f) λs=>ZX (.bool false) (by rw[<-o,e,f];rfl)
 .exact uf func198 rfl<|ZR<|ZC (λj b h=>C8 (c:=q.sc) e (p.st.below b)) λu=>ZC (λj b h=>Bk (x:=P.spread) f) λs=>ZX (.bool true) (by rw[<-o,e,f];rfl)
theorem NR(e:decide (n=0)=B):Ca 240 #[.slice A n c,.slice none 0 0] w (CU w (.bool B)):=by
 refine uf func240 rfl<|ZR ?_
 by_cases b:n=0
 case neg=>
  exact ZJ (((n:Int) !=0)) true (by simpa using b)<|ZX (.bool false) (by rw[<-e,YV b])
 subst b;exact ZI false<|uR O<|ZR<|ZI false<|ZX (.bool true) (by rw[<-e];rfl)
theorem eN(e:decide (n=0)=B):Ca 186 #[.slice A n c,.slice none 0 0] w (CU w (.bool B)):=by
 refine uf func186 rfl<|ZR ?_
 by_cases b:n=0
 case neg=>
  exact ZJ (((n:Int) !=0)) true (by simpa using b)<|ZX (.bool false) (by rw[<-e,YV b])
 subst b;exact ZI false<|uR O<|ZR<|ZI false<|ZX (.bool true) (by rw[<-e];rfl)
theorem Iq{y:YZ}(j:decide (m.w=0/\m.h=0/\m.px=[])=B):Ca 138 #[oJ m y,oJ cM (none,0)] w (CU w (.bool B)):=by
 refine uf func138 rfl<|ZS 6 ?_
 by_cases f:m.w=0
 case neg=>
  refine ZT 10 (.bool (m.w==0)) (.bool false) (by rw[YR.2 f])<|ZV (.bool false) (λo b h=>⟨(),by rw[<-j,YV (λh=>f h.1)],b,Zv⟩)
 refine uh 10 (.bool (m.w==0)) (.bool true) O (by rw[YQ.2 f])<|ZS 13 ?_
 by_cases e:m.h=0
 case neg=>
  refine ZT 17 (.bool (m.h==0)) (.bool false) (by rw[YR.2 e])<|ZV (.bool false) (λo b h=>⟨(),by rw[<-j,YV (λh=>e h.2.1)],b,Zv⟩)
 exact ZT 17 (.bool (m.h==0)) (.bool true) (by rw[YQ.2 e])<|ZC (λo b h=>eN (A:=y.1) (c:=y.2) (n:=m.px.length) (B:=B) (by rw[<-j];apply decide_eq_decide.2;rw[BD];exact⟨λh=>⟨f,e,h⟩,λh=>h.2.2⟩)) λu=>ZW (.bool B)
theorem JY{a b:XZ}(e:decide (x=0/\y=0)=B):(Xj 74 a b (pt x y) (pt 0 0)).run XM w= .ok (.value (.bool B)) w:=by
 rw[Oc,<-e];congr 2;rw[Value.bool.injEq,BP];simp
theorem lJ(D:decide (Sy P)=B)(F:P.kind=k)(G:P.T=Qt)(Z:Jp P q K w)(H:2<=K/\K<=10000000):Ca 195 #[KH P q,KH (⟨k,WR,0,0,0,0,0,[],0,cM,0,Qt⟩:Pn) gR] w (CU w (.bool B)):=by
 refine uf func195 rfl<|ZS 6<|uh 10 (.bool (P.kind==k)) (.bool true) O (by rw[YQ.2 F])<|ZS 10 ?_
 by_cases p:P.co=WR
 case neg=>
  refine ZA (Xj 23 (.tmp 12) (.tmp 14) (Fd P.co) (Fd WR)) (.bool false) (λe b h=>E_ (YV p))<|ZV (.bool false) (λe b h=>⟨(),by rw[<-D,YV (λh:Sy P=>p h.1)],b,Zv⟩)
 refine uw (Xj 23 (.tmp 12) (.tmp 14) (Fd P.co) (Fd WR)) (.bool true) O (λe b h=>E_ (YU p))<|ZS 17 ?_
 by_cases E:P.p0x=0/\P.p0y=0
 case neg=>
  refine ZA (Xj 74 (.tmp 19) (.tmp 21) (pt P.p0x P.p0y) (pt 0 0)) (.bool false) (λe b h=>JY (YV E))<|ZV (.bool false) (λe b h=>⟨(),by rw[<-D,YV (λh:Sy P=>E h.2.1)],b,Zv⟩)
 refine uw (Xj 74 (.tmp 19) (.tmp 21) (pt P.p0x P.p0y) (pt 0 0)) (.bool true) O (λe b h=>JY (YU E))<|ZS 24 ?_
 by_cases z:P.p1x=0/\P.p1y=0
 case neg=>
  refine ZA (Xj 74 (.tmp 26) (.tmp 28) (pt P.p1x P.p1y) (pt 0 0)) (.bool false) (λe b h=>JY (YV z))<|ZV (.bool false) (λe b h=>⟨(),by rw[<-D,YV (λh:Sy P=>z h.2.2.1)],b,Zv⟩)
 refine uw (Xj 74 (.tmp 26) (.tmp 28) (pt P.p1x P.p1y) (pt 0 0)) (.bool true) O (λe b h=>JY (YU z))<|ZS 34 ?_
 by_cases o:P.rad=0
 case neg=>
  refine ZT 38 (.bool (P.rad==0)) (.bool false) (by rw[YR.2 o])<|ZV (.bool false) (λe b h=>⟨(),by rw[<-D,YV (λh:Sy P=>o h.2.2.2.1)],b,Zv⟩)
 refine uh 38 (.bool (P.rad==0)) (.bool true) O (by rw[YQ.2 o])<|ZS 41 ?_
 by_cases f:P.spread=0
 case neg=>
  refine ZT 45 (.bool (P.spread==0)) (.bool false) (by rw[YR.2 f])<|ZV (.bool false) (λe b h=>⟨(),by rw[<-D,YV (λh:Sy P=>f h.2.2.2.2.1)],b,Zv⟩)
 refine uh 45 (.bool (P.spread==0)) (.bool true) O (by rw[YQ.2 f])<|ZS 48 ?_
 by_cases j:P.samp=0
 case neg=>
  refine ZT 52 (.bool (P.samp==0)) (.bool false) (by rw[YR.2 j])<|ZV (.bool false) (λe b h=>⟨(),by rw[<-D,YV (λh:Sy P=>j h.2.2.2.2.2.1)],b,Zv⟩)
 refine ZT 52 (.bool (P.samp==0)) (.bool true) (by rw[YQ.2 j]) ?_
 by_cases v:P.stops=[]
 case neg=>
  refine ZC (λe b h=>NR (A:=q.sA) (c:=q.sc) (n:=P.stops.length) (B:=false) (YV λh=>v (BD.1 h))) λu=>ZV (.bool false) (λe b h=>⟨(),by rw[<-D,YV (λh:Sy P=>v h.2.2.2.2.2.2.1)],b,Zv⟩)
 refine ZC (λe b h=>NR (A:=q.sA) (c:=q.sc) (n:=P.stops.length) (B:=true) (YU (BD.2 v))) λu=> ?_
 by_cases s:P.im.w=0/\P.im.h=0/\P.im.px=[]
 case neg=>
  refine ZC (λe b h=>Iq (m:=P.im) (y:=(q.xA,q.xc)) (YV s)) λu=>ZV (.bool false) (λe b h=>⟨(),by rw[<-D,YV (λh:Sy P=>s h.2.2.2.2.2.2.2)],b,Zv⟩)
 refine ZC (λe b h=>Iq (m:=P.im) (y:=(q.xA,q.xc)) (YU s)) λL=>ZC (λe b h=>by have t:=KW (Z.tr.below b) (S3.zero (w:=e)) H;rw[G,iZ]at t;exact t) λJ=> ?_
 exact ZX (.bool true) (by rw[<-D,YU (show Sy P from⟨p,E,z,o,f,j,v,s⟩)])
def Tc(P:Pn)(q:PM):PM:=
 if P.kind=1 then⟨q.sA,q.sc,q.xA,q.xc,Fq⟩else if P.kind=2 then⟨none,0,q.xA,q.xc,Fq⟩else if P.kind=3 then⟨none,0,q.xA,q.xc,Fq⟩else if P.kind=4 then⟨q.sA,q.sc,none,0,Fq⟩else⟨q.sA,q.sc,q.xA,q.xc,Fq⟩
theorem Jp.wofR(h:Jp P q K w):Jp (Bb P) (Tc P q) K w:=by
 by_cases b:P.kind=1
 case pos=>
  have e:Bb P=(⟨P.kind,WR,P.p0x,P.p0y,P.p1x,P.p1y,P.rad,P.stops,P.spread,P.im,P.samp,Qt⟩:Pn):=by unfold Bb;rw[YS b]
  have f:Tc P q=(⟨q.sA,q.sc,q.xA,q.xc,Fq⟩:PM):=by unfold Tc;rw[YS b]
  rw[e,f];exact⟨h.st,h.px,.zero⟩
 by_cases j:P.kind=2
 case pos=>
  have e:Bb P=(⟨P.kind,P.co,0,0,0,0,P.rad,[],0,P.im,P.samp,Qt⟩:Pn):=by unfold Bb;rw[YT b];rw[YS j]
  have f:Tc P q=(⟨none,0,q.xA,q.xc,Fq⟩:PM):=by unfold Tc;rw[YT b];rw[YS j]
  rw[e,f];exact⟨⟨rfl,λk x h=>by simp at h⟩,h.px,.zero⟩
 by_cases o:P.kind=3
 case pos=>
  have e:Bb P=(⟨P.kind,P.co,0,0,P.p1x,P.p1y,0,[],0,P.im,P.samp,Qt⟩:Pn):=by unfold Bb;rw[YT b];rw[YT j];rw[YS o]
  have f:Tc P q=(⟨none,0,q.xA,q.xc,Fq⟩:PM):=by unfold Tc;rw[YT b];rw[YT j];rw[YS o]
  rw[e,f];exact⟨⟨rfl,λk x h=>by simp at h⟩,h.px,.zero⟩
 by_cases p:P.kind=4
 case pos=>
  have e:Bb P=(⟨P.kind,P.co,P.p0x,P.p0y,P.p1x,P.p1y,P.rad,P.stops,0,cM,0,Qt⟩:Pn):=by unfold Bb;rw[YT b];rw[YT j];rw[YT o];rw[YS p]
  have f:Tc P q=(⟨q.sA,q.sc,none,0,Fq⟩:PM):=by unfold Tc;rw[YT b];rw[YT j];rw[YT o];rw[YS p]
  rw[e,f];exact⟨h.st,⟨rfl,λk x h=>by simp[cM]at h⟩,.zero⟩
 have e:Bb P=(⟨P.kind,P.co,P.p0x,P.p0y,P.p1x,P.p1y,P.rad,P.stops,P.spread,P.im,P.samp,Qt⟩:Pn):=by unfold Bb;rw[YT b,YT j,YT o,YT p]
 have f:Tc P q=(⟨q.sA,q.sc,q.xA,q.xc,Fq⟩:PM):=by unfold Tc;rw[YT b,YT j,YT o,YT p]
 rw[e,f];exact⟨h.st,h.px,.zero⟩
theorem rp:Ca 196 #[KH P q] w (CU w (KH (Bb P) (Tc P q))):=by
 refine uf func196 rfl<|ZR ?_
 by_cases b:P.kind=1
 case pos=>
  have e:Bb P=(⟨P.kind,WR,P.p0x,P.p0y,P.p1x,P.p1y,P.rad,P.stops,P.spread,P.im,P.samp,Qt⟩:Pn):=by unfold Bb;rw[YS b]
  have h:Tc P q=(⟨q.sA,q.sc,q.xA,q.xc,Fq⟩:PM):=by unfold Tc;rw[YS b]
  rw[e,h];exact ZJ (P.kind==1) true (YQ.2 b)<|ZW (KH (⟨P.kind,WR,P.p0x,P.p0y,P.p1x,P.p1y,P.rad,P.stops,P.spread,P.im,P.samp,Qt⟩:Pn) (⟨q.sA,q.sc,q.xA,q.xc,Fq⟩:PM))
 refine ZJ (P.kind==1) false (YR.2 b) ?_
 by_cases f:P.kind=2
 case pos=>
  have e:Bb P=(⟨P.kind,P.co,0,0,0,0,P.rad,[],0,P.im,P.samp,Qt⟩:Pn):=by unfold Bb;rw[YT b];rw[YS f]
  have h:Tc P q=(⟨none,0,q.xA,q.xc,Fq⟩:PM):=by unfold Tc;rw[YT b];rw[YS f]
  rw[e,h];exact ZJ (P.kind==2) true (YQ.2 f)<|ZW (KH (⟨P.kind,P.co,0,0,0,0,P.rad,[],0,P.im,P.samp,Qt⟩:Pn) (⟨none,0,q.xA,q.xc,Fq⟩:PM))
 refine ZJ (P.kind==2) false (YR.2 f) ?_
 by_cases j:P.kind=3
 case pos=>
  have e:Bb P=(⟨P.kind,P.co,0,0,P.p1x,P.p1y,0,[],0,P.im,P.samp,Qt⟩:Pn):=by unfold Bb;rw[YT b];rw[YT f];rw[YS j]
  have h:Tc P q=(⟨none,0,q.xA,q.xc,Fq⟩:PM):=by unfold Tc;rw[YT b];rw[YT f];rw[YS j]
  rw[e,h];exact ZJ (P.kind==3) true (YQ.2 j)<|ZW (KH (⟨P.kind,P.co,0,0,P.p1x,P.p1y,0,[],0,P.im,P.samp,Qt⟩:Pn) (⟨none,0,q.xA,q.xc,Fq⟩:PM))
 refine ZJ (P.kind==3) false (YR.2 j) ?_
 by_cases o:P.kind=4
 case pos=>
  have e:Bb P=(⟨P.kind,P.co,P.p0x,P.p0y,P.p1x,P.p1y,P.rad,P.stops,0,cM,0,Qt⟩:Pn):=by unfold Bb;rw[YT b];rw[YT f];rw[YT j];rw[YS o]
  have h:Tc P q=(⟨q.sA,q.sc,none,0,Fq⟩:PM):=by unfold Tc;rw[YT b];rw[YT f];rw[YT j];rw[YS o]
  rw[e,h];exact ZJ (P.kind==4) true (YQ.2 o)<|ZW (KH (⟨P.kind,P.co,P.p0x,P.p0y,P.p1x,P.p1y,P.rad,P.stops,0,cM,0,Qt⟩:Pn) (⟨q.sA,q.sc,none,0,Fq⟩:PM))
 have e:Bb P=(⟨P.kind,P.co,P.p0x,P.p0y,P.p1x,P.p1y,P.rad,P.stops,P.spread,P.im,P.samp,Qt⟩:Pn):=by unfold Bb;rw[YT b,YT f,YT j,YT o]
 have h:Tc P q=(⟨q.sA,q.sc,q.xA,q.xc,Fq⟩:PM):=by unfold Tc;rw[YT b,YT f,YT j,YT o]
 rw[e,h];exact ZJ (P.kind==4) false (YR.2 o)<|ZW (KH (⟨P.kind,P.co,P.p0x,P.p0y,P.p1x,P.p1y,P.rad,P.stops,P.spread,P.im,P.samp,Qt⟩:Pn) (⟨q.sA,q.sc,q.xA,q.xc,Fq⟩:PM))
theorem QI:(Bb P).kind=P.kind/\(Bb P).T=Qt:=by
 unfold Bb
 by_cases h:P.kind=1
 .rw[YS h];exact⟨rfl,rfl⟩
 rw[YT h]
 by_cases b:P.kind=2
 .rw[YS b];exact⟨rfl,rfl⟩
 rw[YT b]
 by_cases f:P.kind=3
 .rw[YS f];exact⟨rfl,rfl⟩
 rw[YT f]
 by_cases e:P.kind=4
 .rw[YS e];exact⟨rfl,rfl⟩
 rw[YT e];exact⟨rfl,rfl⟩
theorem Dn{X Y:Int}(b:Lf X Y=B):Ca 62 #[pt X Y] w (CU w (.bool B)):=by subst b;exact IX
theorem Vv{r:Rat}:(Kv r ((0:Int):Rat) !=0)=decide (r≠0):=by
 rw[Q3 rfl];rw[BP];simp
theorem I1(b:Lu P=B)(j:Jp P q K w)(U:P.im.px.length<=9223372036854775807)(t:2<=K/\K<=10000000):Ca 150 #[KH P q] w (CU w (.bool B)):=by
 unfold Lu at b;obtain⟨L,wI⟩:=QI (P:=P);refine uf func150 rfl<|ZR ?_
 cases M:P.T.ok
 .rw[M,AN]at b;exact ZC (λf e h=>Oj M (j.tr.below e) t) λu=>ZR<|ZI true<|ZX (.bool false) (by rw[<-b])
 rw[M,AE]at b;refine ZC (λf e h=>Oj M (j.tr.below e) t) λu=>ZC (λf e h=>rp (P:=P) (q:=q)) λY=> ?_
 cases Q:decide (Sy (Bb P))
 .rw[Q,AN]at b;exact ZC (λf e h=>lJ (k:=P.kind) Q L wI (j.below e).wofR t) λW=>ZR<|ZI true<|ZX (.bool false) (by rw[<-b])
 rw[Q,AE]at b;unfold GS at b;have o:∀f:YM,Jp P q K f->∀v:RV,Kn v P.T.det (4*K+1) f->Ca 133 #[v.val,Ou.val] f (CU f (.int .i64 (Kv P.T.det ((0:Int):Rat)))):=λf _ v X=>Lv X.q (JR (K:=2)) I
 refine ZC (λf e h=>lJ (k:=P.kind) Q L wI (j.below e).wofR t) λW=>ZR<|ZI false ?_
 by_cases F:P.kind=1
 case pos=>
  rw[YS F]at b;exact ZJ (P.kind==1) true (YQ.2 F)<|ZC (λf e h=>KW (j.tr.below e) (S3.zero (w:=f)) t) λZ=>ZX (.bool (aX P.T Qt)) (by rw[<-b])
 refine ZJ (P.kind==1) false (YR.2 F) ?_
 by_cases k2:P.kind=2
 case pos=>
  rw[YT F,YS k2]at b;refine ZJ (P.kind==2) true (YQ.2 k2) ?_;cases p:Lf P.p0x P.p0y
  .rw[p,AN]at b;exact ZC (λf e h=>Dn p) λH=>ZR<|ZI true<|ZX (.bool false) (by rw[<-b])
  rw[p,AE]at b;refine ZC (λf e h=>Dn p) λH=> ?_
  cases c2:Lf P.p1x P.p1y
  .rw[c2,AN]at b;exact ZC (λf e h=>Dn c2) λR=>ZR<|ZI true<|ZX (.bool false) (by rw[<-b])
  rw[c2,AE]at b;refine ZC (λf e h=>Dn c2) λR=> ?_
  cases D:(Q0 P.stops&&A0 P.spread)
  .rw[D,AN]at b;exact ZC (λf e h=>Bc D (j.below e)) λS=>ZR<|ZI true<|ZX (.bool false) (by rw[<-b])
  rw[D,AE]at b;exact ZC (λf e h=>Bc D (j.below e)) λS=>ZR<|ZI false<|ZC (λf e h=>Yk (j.tr.below e) t) λs=>ZC (λf e h=>o f (j.below e) s h.2) λG=>ZX (.bool (Kv P.T.det ((0:Int):Rat) !=0)) (by rw[Vv,<-b])
 refine ZJ (P.kind==2) false (YR.2 k2) ?_
 by_cases J:P.kind=3
 case pos=>
  rw[YT F,YT k2,YS J]at b;refine ZJ (P.kind==3) true (YQ.2 J) ?_;cases p:Lf P.p0x P.p0y
  .rw[p,AN]at b;exact ZC (λf e h=>Dn p) λH=>ZR<|ZI true<|ZX (.bool false) (by rw[<-b])
  rw[p,AE]at b;refine ZD 10 (λf e h=>Dn p) λH=> ?_
  by_cases r1:P.rad<1
  case pos=>
   rw[show decide (1<=P.rad/\P.rad<=1048576)=false from YV I,AN]at b;exact YE 52 (P.rad<1) r1<|ZI true<|ZX (.bool false) (by rw[<-b])
  refine YF 52 (P.rad<1) r1<|ZS 15 ?_
  by_cases r2:P.rad>1048576
  case pos=>
   rw[show decide (1<=P.rad/\P.rad<=1048576)=false from YV I,AN]at b;exact YE 57 (P.rad>1048576) r2<|ZI true<|ZX (.bool false) (by rw[<-b])
  rw[show decide (1<=P.rad/\P.rad<=1048576)=true from YU I,AE]at b;refine YG 57 (P.rad>1048576) r2 ?_;cases D:(Q0 P.stops&&A0 P.spread)
  .rw[D,AN]at b;exact ZC (λf e h=>Bc D (j.below e)) λS=>ZR<|ZI true<|ZX (.bool false) (by rw[<-b])
  rw[D,AE]at b;exact ZC (λf e h=>Bc D (j.below e)) λS=>ZR<|ZI false<|ZC (λf e h=>Yk (j.tr.below e) t) λs=>ZC (λf e h=>o f (j.below e) s h.2) λG=>ZX (.bool (Kv P.T.det ((0:Int):Rat) !=0)) (by rw[Vv,<-b])
 refine ZJ (P.kind==3) false (YR.2 J) ?_
 by_cases N:P.kind=4
 case pos=>
  rw[YT F,YT k2,YT J,YS N]at b;refine ZJ (P.kind==4) true (YQ.2 N) ?_;cases p:Vn P.im
  .rw[p,AN]at b;exact ZC (λf e h=>Us (y:=(q.xA,q.xc)) p (j.px.below e) U) λH=>ZR<|ZI true<|ZX (.bool false) (by rw[<-b])
  rw[p,AE]at b;refine ZD 9 (λf e h=>Us (y:=(q.xA,q.xc)) p (j.px.below e) U) λH=> ?_
  by_cases wJ:P.spread=0
  case pos=>
   rw[YU wJ,Bool.true_or,AE]at b;refine uh 72 (.bool (P.spread !=0)) (.bool false) O (by rw[bne_eq_false_iff_eq.2 wJ])<|ZS 20 ?_
   by_cases z:P.samp=1
   case pos=>
    rw[YU (.inl z),AE]at b;exact ZT 83 (.bool (P.samp !=1)) (.bool false) (by rw[bne_eq_false_iff_eq.2 z])<|ZI false<|ZC (λf e h=>Yk (j.tr.below e) t) λs=>ZC (λf e h=>o f (j.below e) s h.2) λG=>ZX (.bool (Kv P.T.det ((0:Int):Rat) !=0)) (by rw[Vv,<-b])
   refine ZT 83 (.bool (P.samp !=1)) (.bool true) (by rw[bne_iff_ne.2 z]) ?_
   by_cases E:P.samp=2
   case pos=>
    rw[YU (.inr E),AE]at b;exact ZJ (P.samp !=2) false (bne_eq_false_iff_eq.2 E)<|ZC (λf e h=>Yk (j.tr.below e) t) λs=>ZC (λf e h=>o f (j.below e) s h.2) λG=>ZX (.bool (Kv P.T.det ((0:Int):Rat) !=0)) (by rw[Vv,<-b])
   rw[show decide (P.samp=1\/P.samp=2)=false from YV (λh=>h.elim z E),AN]at b;exact ZJ (P.samp !=2) true (bne_iff_ne.2 E)<|ZX (.bool false) (by rw[<-b])
  rw[YV wJ,Bool.false_or]at b;refine ZT 72 (.bool (P.spread !=0)) (.bool true) (by rw[bne_iff_ne.2 wJ]) ?_;cases c2:A0 P.spread
  .rw[c2,AN]at b;exact ZC (λf e h=>Bk c2) λR=>ZR<|ZI true<|ZX (.bool false) (by rw[<-b])
  rw[c2,AE]at b;refine ZD 20 (λf e h=>Bk c2) λR=> ?_
  by_cases z:P.samp=1
  case pos=>
   rw[YU (.inl z),AE]at b;exact ZT 83 (.bool (P.samp !=1)) (.bool false) (by rw[bne_eq_false_iff_eq.2 z])<|ZI false<|ZC (λf e h=>Yk (j.tr.below e) t) λs=>ZC (λf e h=>o f (j.below e) s h.2) λG=>ZX (.bool (Kv P.T.det ((0:Int):Rat) !=0)) (by rw[Vv,<-b])
  refine ZT 83 (.bool (P.samp !=1)) (.bool true) (by rw[bne_iff_ne.2 z]) ?_
  by_cases E:P.samp=2
  case pos=>
   rw[YU (.inr E),AE]at b;exact ZJ (P.samp !=2) false (bne_eq_false_iff_eq.2 E)<|ZC (λf e h=>Yk (j.tr.below e) t) λs=>ZC (λf e h=>o f (j.below e) s h.2) λG=>ZX (.bool (Kv P.T.det ((0:Int):Rat) !=0)) (by rw[Vv,<-b])
  rw[show decide (P.samp=1\/P.samp=2)=false from YV (λh=>h.elim z E),AN]at b;exact ZJ (P.samp !=2) true (bne_iff_ne.2 E)<|ZX (.bool false) (by rw[<-b])
 rw[YT F,YT k2,YT J,YT N]at b;exact ZJ (P.kind==4) false (YR.2 N)<|ZX (.bool false) (by rw[<-b])
end
def U3(l:List Sg):Bool:=decide ((Ff l).1=0)
open Go.Extern.Stop Go.Stop Go.Extern
section
variable{w:YM}
theorem Po{t:YI}:Ca 60 #[.nilIface,t] w (CU w (.bool false)):=uf func60 rfl<|ZR<|ZI true<|ZW (.bool false)
abbrev Do(t:Nat):YI:= .pointer (some ⟨3,t,none⟩)
abbrev gQ(t:Nat):YI:= .agg #[Do t]
theorem qz(t:XR):(ReflectliteValue.unpack (.iface 121 (.pointer (some t)))).run XM w= .ok (.agg #[Do 121,.pointer (some ⟨w.heap.size,0,none⟩),.int .u64 150]) (w.alloc (.cells #[.pointer (some t)] 121)):=O
theorem qB(a:XR):(ReflectliteValue.methodAny (ReflectliteValue.valueError "reflectlite.Value.Type" 0) (λt _ _ _=>ReflectliteType.toType t) #[.agg #[Do 121,.pointer (some a),.int .u64 150]]).run XM w= .ok (.iface 207 (gQ 121)) w:=O
theorem rC:((ReflectliteType.abiMethod λt=>Functor.map (λa:Nat=>BH XN (a:Int)) (Rtype.kind t)) #[Do 121]).run XM w= .ok (.int .u8 22) w:=O
theorem qZ:((ReflectliteType.abiMethod λt=>Functor.map (λa:Nat=>BH XN (a:Int)) (Rtype.kind t)) #[Do 119]).run XM w= .ok (.int .u8 25) w:=O
theorem rv:(ReflectliteType.method ReflectliteType.elem #[gQ 121]).run XM w= .ok (.iface 207 (gQ 119)) w:=O
theorem rR:(ReflectliteType.relation "Implements" ReflectliteType.implements_ #[gQ 119,.iface 207 (gQ 116)]).run XM w= .ok (.bool true) w:=O
theorem qo(v:YI):(ReflectliteType.typeOf #[.iface 119 v]).run XM w= .ok (.iface 207 (gQ 119)) w:=O
theorem p6:(ReflectliteType.relation "AssignableTo" ReflectliteType.assignableTo #[gQ 119,.iface 207 (gQ 119)]).run XM w= .ok (.bool true) w:=O
theorem tL(z:Sem YI)(f:XX->XR->Nat->Nat->Sem YI)(v:YI):
 ReflectliteValue.method z f #[v]=(do match<-ReflectliteValue.parts v with|none=>z|some (t,a,fl)=>f t a fl (fl%32)):=rfl
theorem lN(a:XR):(ReflectliteValue.parts (.agg #[Do 121,.pointer (some a),.int .u64 150])).run XM w= .ok (some (121,a,150)) w:=O
theorem qq(a p:XR)(c:w.cell? a=some (.pointer (some p))):
 (ReflectliteValue.method (ReflectliteValue.valueError "reflectlite.Value.IsNil" 0) ReflectliteValue.isNil #[.agg #[Do 121,.pointer (some a),.int .u64 150]]).run XM w= .ok (.bool false) w:=by
 have b:XM.underlying 121=some (.pointer 119):=O
 rw[tL];simp only[AL,lN,BM];simp[ReflectliteValue.isNil,loadVar,isAgg,underlying,b,c,BM]
theorem nJ:(Rtype.elem? 121).run XM w= .ok (some 119) w:=O
theorem ns(p:XR):(ReflectliteValue.mk 119 p ReflectliteValue.flagAddr).run XM w= .ok (.agg #[Do 119,.pointer (some p),.int .u64 409]) w:=O
theorem rQ(a p:XR)(c:w.cell? a=some (.pointer (some p))):
 (ReflectliteValue.method (ReflectliteValue.valueError "reflectlite.Value.Elem" 0) ReflectliteValue.elem #[.agg #[Do 121,.pointer (some a),.int .u64 150]]).run XM w= .ok (.agg #[Do 119,.pointer (some p),.int .u64 409]) w:=by
 have b:XM.underlying 121=some (.pointer 119):=O
 rw[tL];simp only[AL,lN,BM];simp[ReflectliteValue.elem,loadVar,isAgg,underlying,b,c,BM,nJ,ns]
theorem rU(cs:Array YI):(ReflectliteValue.unpack (.iface 119 (.agg cs))).run XM w= .ok (.agg #[Do 119,.pointer (some ⟨w.heap.size,0,none⟩),.int .u64 153]) (w.alloc (.cells cs 119)):=O
theorem tY(v x:YI):ReflectliteValue.set #[v,x]=(do
 let(some (dst,a,fl),some (src,b,_)):=(<-ReflectliteValue.parts v,<-ReflectliteValue.parts x)
  |unsupported (.noEntry "extern/(internal/reflectlite.Value).Set.zeroValue")
 if fl/ReflectliteValue.flagAddr%2==0 then unsupported (.noEntry "extern/(internal/reflectlite.Value).Set.unaddressable")
 let val<-loadVar src b
 if<-Rtype.directlyAssignable dst src then storeVar dst a val
 else if<-Rtype.implements dst src then
  if (<-Rtype.kind src)==20 then
   match val with
   | .nilIface=>unsupported (.noEntry "extern/reflectlite: a nil value of one interface type handed on as a value of another")
   |_=>storeVar dst a val
  else storeVar dst a (.iface src val)
 else panicString ("reflectlite.Set: value of type " ++(<-Rtype.spelt src)++ " is not assignable to type " ++(<-Rtype.spelt dst))
 pure (.tuple #[])):=rfl
theorem o6(a:XR):(ReflectliteValue.parts (.agg #[Do 119,.pointer (some a),.int .u64 409])).run XM w= .ok (some (119,a,409)) w:=O
theorem qT(a:XR):(ReflectliteValue.parts (.agg #[Do 119,.pointer (some a),.int .u64 153])).run XM w= .ok (some (119,a,153)) w:=O
theorem qj:(Rtype.directlyAssignable 119 119).run XM w= .ok true w:=O
theorem r5{ta b:Nat}{cs:List YI}{c u:YI}(m:w.rangeAt b 0 [c,u])(o:K8 w ta cs)(p:cs.length=2)(s:c.oneCell'=true/\u.oneCell'=true):
 (ReflectliteValue.set #[.agg #[Do 119,.pointer (some ⟨ta,0,none⟩),.int .u64 409],.agg #[Do 119,.pointer (some ⟨b,0,none⟩),.int .u64 153]]).run XM w= .ok (.tuple #[]) (w.setRow ta #[c,u]):=by
 have g:Nx XM 119=some true:=O
 have k:Mq XM 119=some 2:=O
 have j:(loadVar 119 ⟨b,0,none⟩).run XM w= .ok (.agg #[c,u]) w:=by
  unfold Nx at g;split at g
  .rename_i l;exact run_loadVar_mid w b 0 _ [c,u] _ m l rfl k
  .rename_i l;exact run_loadVar_mid w b 0 _ [c,u] _ m l rfl k
  .cases g
  .cases g
 obtain⟨ty,h⟩:=o;have e:=run_storeCells_at XM ta 0 ty [c,u] 0 cs.toArray w h Zp (by simp;exact s);have f:((cs.toArray.toList.take (0+0)++ [c,u]++cs.toArray.toList.drop (0+0+ [c,u].length)).toArray)= #[c,u]:=by
  simp[p]
 rw[f]at e;rw[tY];simp only[AL,o6,qT,AK];simp[ReflectliteValue.flagAddr,j,BM,qj,storeVar,Lb k,Value.cells,e]
theorem cZ{g:Nat}{cs:List YI}(h:K8 w g cs):g<w.heap.size:=by obtain⟨t,h⟩:=h;exact(BT.1 h).1
theorem VY(w:YM)(o:Obj):(w.alloc o).heap[w.heap.size]? =some o:=by show(w.heap.push _)[w.heap.size]? =_;simp
theorem Nz(w:YM)(o:Obj)(b:Nat)(h:b<w.heap.size):(w.alloc o).heap[b]? =w.heap[b]? :=by show(w.heap.push _)[b]? =_;rw[Array.getElem?_push,YT I]
def ET(w:YM):Prop:=w.cell? ⟨0,0,none⟩=some (.iface 207 (gQ 116))
theorem nu{ta:Nat}{cs:List YI}{c u:YI}(f:ET w)(g:K8 w ta cs)(o:cs.length=2)(k:c.oneCell'=true/\u.oneCell'=true):
 Ca 60 #[.iface 119 (.agg #[c,u]),.iface 121 (.pointer (some ⟨ta,0,none⟩))] w λl v=>l= .returned (.bool true)/\v=((((w.alloc (.cells #[.pointer (some ⟨ta,0,none⟩)] 121)).alloc (.cells #[Do 121,.pointer (some ⟨w.heap.size,0,none⟩),.int .u64 150] 150)).alloc (.cells #[Do 121,.pointer (some ⟨w.heap.size,0,none⟩),.int .u64 150] 150)).alloc (.cells #[c,u] 119)).setRow ta #[c,u]:=by
 have Q:= @run_callFunc_extern XM 95 _ (λargs=>ReflectliteValue.unpack (args.getD 0 (.tuple #[]))) func95 O O O O;have S:= @run_callFunc_extern XM 96 _ (ReflectliteValue.methodAny (ReflectliteValue.valueError "reflectlite.Value.Type" 0) (λt _ _ _=>ReflectliteType.toType t)) func96 O O O O;have R:= @run_callFunc_extern XM 97 _ (ReflectliteValue.method (ReflectliteValue.valueError "reflectlite.Value.IsNil" 0) ReflectliteValue.isNil) func97 O O O O;have N:= @run_callFunc_extern XM 452 _ (ReflectliteType.abiMethod λt=>do pure (.int .u8 (<-Rtype.kind t))) func452 O O O O;have z:= @run_callFunc_extern XM 463 _ (ReflectliteType.method ReflectliteType.elem) func463 O O O O;have Z:= @run_callFunc_extern XM 464 _ (ReflectliteType.relation "Implements" ReflectliteType.implements_) func464 O O O O;have A:= @run_callFunc_extern XM 143 _ ReflectliteType.typeOf func143 O O O O;have B:= @run_callFunc_extern XM 461 _ (ReflectliteType.relation "AssignableTo" ReflectliteType.assignableTo) func461 O O O O;have H:= @run_callFunc_extern XM 144 _ (ReflectliteValue.method (ReflectliteValue.valueError "reflectlite.Value.Elem" 0) ReflectliteValue.elem) func144 O O O O;have y:= @run_callFunc_extern XM 145 _ ReflectliteValue.set func145 O O O O;have M:= @qz;have J:= @qB;have X:= @rC;have p:= @qZ;have D:= @rv;have L:= @rR;have F:= @qo;have x:= @p6;have E:= @rU;have G:∀(h:YI) (w:YM),(Go.method 643 207 (.agg #[h]) "Kind").run XM w= .ok (452,h) w:=λh w=>by kernel_rfl
 have T:∀(h:YI) (w:YM),(Go.method 643 207 (.agg #[h]) "Elem").run XM w= .ok (463,.agg #[h]) w:=λh w=>by kernel_rfl
 have U:∀(h:YI) (w:YM),(Go.method 643 207 (.agg #[h]) "Implements").run XM w= .ok (464,.agg #[h]) w:=λh w=>by kernel_rfl
 have P:∀(h:YI) (w:YM),(Go.method 643 207 (.agg #[h]) "AssignableTo").run XM w= .ok (461,.agg #[h]) w:=λh w=>by kernel_rfl
 have e:ta<w.heap.size:=cZ g;have j:0<w.heap.size:=by
  rcases CG w.heap.size with s|h
  .simp[ET,CT,s]at f
  .exact h
 have wI:=qq (w:=(w.alloc (.cells #[.pointer (some ⟨ta,0,none⟩)] 121)).alloc (.cells #[Do 121,.pointer (some ⟨w.heap.size,0,none⟩),.int .u64 150] 150)) ⟨w.heap.size,0,none⟩ ⟨ta,0,none⟩ Zs;have m:((w.alloc (.cells #[.pointer (some ⟨ta,0,none⟩)] 121)).alloc (.cells #[Do 121,.pointer (some ⟨w.heap.size,0,none⟩),.int .u64 150] 150)).cell? ⟨0,0,none⟩=some (.iface 207 (gQ 116)):=by
  rw[BQ _ _ ⟨0,0,none⟩ Zs,BQ _ _ ⟨0,0,none⟩ j];exact f
 have W:=rQ (w:=((w.alloc (.cells #[.pointer (some ⟨ta,0,none⟩)] 121)).alloc (.cells #[Do 121,.pointer (some ⟨w.heap.size,0,none⟩),.int .u64 150] 150)).alloc (.cells #[Do 121,.pointer (some ⟨w.heap.size,0,none⟩),.int .u64 150] 150)) ⟨w.heap.size,0,none⟩ ⟨ta,0,none⟩ (by rw[BQ _ _ ⟨w.heap.size,0,none⟩ Zp];simp);have st:=r5 (w:=(((w.alloc (.cells #[.pointer (some ⟨ta,0,none⟩)] 121)).alloc (.cells #[Do 121,.pointer (some ⟨w.heap.size,0,none⟩),.int .u64 150] 150)).alloc (.cells #[Do 121,.pointer (some ⟨w.heap.size,0,none⟩),.int .u64 150] 150)).alloc (.cells #[c,u] 119)) (ta:=ta) (b:=w.heap.size+1+1+1) (cs:=cs) (c:=c) (u:=u)
  (K8.range ⟨119,by rw[show w.heap.size+1+1+1=(((w.alloc (.cells #[.pointer (some ⟨ta,0,none⟩)] 121)).alloc (.cells #[Do 121,.pointer (some ⟨w.heap.size,0,none⟩),.int .u64 150] 150)).alloc (.cells #[Do 121,.pointer (some ⟨w.heap.size,0,none⟩),.int .u64 150] 150)).heap.size by simp];exact VY _ _⟩)
  (by obtain⟨ty,h⟩:=g;exact⟨ty,by rw[Nz _ _ _ Zp,Nz _ _ _ Zp,Nz _ _ _ Zp,Nz _ _ _ e];exact h⟩) o k
 go_enter func60,ntmps60;go_wp2;refine wp_loop_rounds 1 ?_;rw[rounds_succ];go_wp2;go_ret;exact⟨rfl,rfl⟩
theorem OQ{ta:Nat}{cs:List YI}{c u:YI}(l:ET w)(f:K8 w ta cs)(o:cs.length=2)(g:c.oneCell'=true/\u.oneCell'=true):
 Ca 60 #[.iface 119 (.agg #[c,u]),.iface 121 (.pointer (some ⟨ta,0,none⟩))] w (L4 w [ta] (λ_:Unit=> .bool true) λ_ v=>K8 v ta [c,u]):=
 (nu l f o g).mono λe y ⟨t,s⟩=>by
  subst s;have b:=cZ f;refine⟨(),t,⟨rfl,rfl,rfl,by rw[O1];simp;omega,λk j m=> ?_⟩,λp x k2=> ?_⟩
  .rw[Na _ _ _ _ (by simpa using m),Nz _ _ _ Zp,Nz _ _ _ Zp,Nz _ _ _ Zp,Nz _ _ _ j]
  .obtain⟨ty,h⟩:=f;refine⟨ty,?_⟩;rw[k2 ta (.inl Zs)];simp only[World.setRow,Array.getElem?_modify,if_true];rw[Nz _ _ _ Zp,Nz _ _ _ Zp,Nz _ _ _ Zp,Nz _ _ _ b,h]
   rfl
end
structure Ef where
 w:Int
 j:Int
 c:Int
 m:Int
 d:List Int
 p:Int
structure Nd where
 id:Int
 kind:Int
 dep:Int
 T:N7
 clip:List Sg
 crule:Int
 op:UInt8
 bl:Int
 iso:Bool
 ko:Bool
 path:List Sg
 frule:Int
 fill:List Pn
 sty:Ef
 stroke:List Pn
 im:Im
 samp:Int
structure ND where
 t:TV
 clA:YY
 clc:Nat
 paA:YY
 pac:Nat
 fiA:YY
 fic:Nat
 fl:List (Pn×PM)
 daA:YY
 dac:Nat
 stA:YY
 stc:Nat
 sl:List (Pn×PM)
 pxA:YY
 pxc:Nat
def Es(N:Nd)(q:ND):List YI:=[.int .i64 N.id,.int .i64 N.kind,.int .i64 N.dep]++(q.t.cl++ [.slice q.clA N.clip.length q.clc,.int .i64 N.crule,.int .u8 (N.op.toNat:Int),.int .i64 N.bl,.bool N.iso,.bool N.ko,.slice q.paA N.path.length q.pac,.int .i64 N.frule,.slice q.fiA N.fill.length q.fic,.int .i64 N.sty.w,.int .i64 N.sty.j,.int .i64 N.sty.c,.int .i64 N.sty.m,.slice q.daA N.sty.d.length q.dac,.int .i64 N.sty.p,.slice q.stA N.stroke.length q.stc,.int .i64 N.im.w,.int .i64 N.im.h,.slice q.pxA N.im.px.length q.pxc,.int .i64 N.samp])
abbrev GE(N:Nd)(q:ND):YI:= .agg (Es N q).toArray
abbrev Bj(S:Ef)(y:YZ):YI:= .agg #[.int .i64 S.w,.int .i64 S.j,.int .i64 S.c,.int .i64 S.m,.slice y.1 S.d.length y.2,.int .i64 S.p]
def HU(x:Pn×PM):List YI:=OC x.1 x.2
def qg(z:Int):List YI:=[.int .i64 z]
structure X5(w:YM)(A:YY)(l:List (Pn×PM))(K:Nat)(Ps:List Pn):Prop where
 eq:l.map (·.1)=Ps
 row:Kk w A Ps.length 40 HU l
 rd:∀x∈l,Jp x.1 x.2 K w
structure Xo(N:Nd)(q:ND)(K:Nat)(w:YM):Prop where
 tr:S3 q.t N.T K w
 cl:Sa w q.clA N.clip.length N.clip
 pa:Sa w q.paA N.path.length N.path
 fi:X5 w q.fiA q.fl K N.fill
 da:Kk w q.daA N.sty.d.length 1 qg N.sty.d
 st:X5 w q.stA q.sl K N.stroke
 px:Kk w q.pxA N.im.px.length 4 Pm N.im.px
structure Jr(N:Nd):Prop where
 cl:N.clip.length<=1000000
 pa:N.path.length<=1000000
 da:N.sty.d.length<=1000000
 px:N.im.px.length<=9223372036854775807
 fi:∀P∈N.fill,P.im.px.length<=9223372036854775807/\P.stops.length<=9223372036854775807
 st:∀P∈N.stroke,P.im.px.length<=9223372036854775807/\P.stops.length<=9223372036854775807
 fn:N.fill.length<=1000000
 sn:N.stroke.length<=1000000
section
variable{w w1:YM}{A:YY}{l:List (Pn×PM)}{K:Nat}{Ps:List Pn}{N:Nd}{q:ND}
theorem X5.below(h:X5 w A l K Ps)(b:Below w.heap.size w w1):X5 w1 A l K Ps:=⟨h.eq,h.row.below b,λx c=>(h.rd x c).below b⟩
theorem Xo.below(h:Xo N q K w)(b:Below w.heap.size w w1):Xo N q K w1:=⟨h.tr.below b,h.cl.below b,h.pa.below b,h.fi.below b,h.da.below b,h.st.below b,h.px.below b⟩
theorem X5.get{k:Nat}{P:Pn}(h:X5 w A l K Ps)(c:Ps[k]? =some P):∃q:PM,l[k]? =some (P,q)/\Jp P q K w:=by
 rw[<-h.eq,BJ]at c;obtain⟨x,b,rfl⟩:=BN.1 c;exact⟨x.2,b,h.rd x (AI b)⟩
theorem X5.len(h:X5 w A l K Ps):l.length=Ps.length:=by rw[<-h.eq,AZ]
end
def A8(n:Int):Bool:=(n==1)||(n==2)
def UP(z:Int):Bool:=decide (z<0)||decide (z>1048576)
def Ym(n:Nat)(l:List Int):Bool:=((n:Int)==0)||l.any λz=>decide (z>0)
def Ci(l:List Int):Bool:=(!l.any UP)&&((Ym l.length l&&(Int.tmod (l.length:Int) 2==0))&&decide ((l.length:Int)<=16))
def Ue(n:Int):Bool:=decide (n>=1)&&decide (n<=16384)
def Xs(S:Ef):Bool:=((((((Ue S.w&&(((S.j==1)||(S.j==2))||(S.j==3)))&&(((S.c==3)||(S.c==4))||(S.c==5)))&&decide (S.m>=256))&&decide (S.m<=65536))&&Ci S.d)&&decide (S.p>=0))&&decide (S.p<=1048576)
def V9(S:Ef):Bool:=(((((S.w==0)&&(S.j==0))&&(S.c==0))&&(S.m==0))&&(S.p==0))&&decide (S.d.length=0)
def VL(N:Nd):Bool:=((((N.op.toNat:Int)==0)&&(N.bl==0))&& !N.iso)&& !N.ko
def L_(N:Nd):Bool:=((((N.path.length:Int)==0)&&(N.frule==0))&&((N.fill.length:Int)==0))&&((N.stroke.length:Int)==0)
def NG(N:Nd):Bool:=decide (N.im.w=0/\N.im.h=0/\N.im.px=[])&&(N.samp==0)
def Ct(N:Nd):Bool:=if N.kind=1 then(L_ N&&V9 N.sty)&&NG N else if N.kind=2 then VL N&&NG N else VL N&&(L_ N&&V9 N.sty)
def V0(N:Nd):Bool:=if N.clip.length=0 then(N.crule==0)else A8 N.crule
def NC(N:Nd):Bool:=decide ((N.fill.length:Int)>1)||decide ((N.stroke.length:Int)>1)
def o_(N:Nd):Bool:=if N.stroke.length=0 then V9 N.sty else Xs N.sty
def Dh(N:Nd):Bool:=U3 N.path&&(A8 N.frule&&(!NC N&&(o_ N&&(N.fill.all Lu&&N.stroke.all Lu))))
def FD(n:Int):Bool:=decide (n>=1)&&decide (n<=13)
def PW(N:Nd):Bool:=if N.kind=1 then FD N.bl else if N.kind=2 then Dh N else Vn N.im&& !((N.samp !=1)&&(N.samp !=2))
def NV(N:Nd):Bool:=decide (N.kind<1)||decide (N.kind>3)
def VN(N:Nd):Bool:=((decide (N.id<1)||decide (N.id>1073741824))||decide (N.dep<0))||decide (N.dep>=8)
def FH(N:Nd):Bool:= !NV N&&(!VN N&&(N.T.ok&&(decide (N.T.det≠0)&&(U3 N.clip&&(V0 N&&Ct N)))))
def Pz(N:Nd):Bool:=FH N&&PW N
structure Sc where
 w:Int
 h:Int
 bg:Co
 nds:List Nd
def gi(pre:List Nd):Int:=match pre.getLast? with
 |none=>0
 |some y=>y.dep+(if y.kind=1 then 1 else 0)
def Et(pre:List Nd):List Nd->Bool
 | []=>true
 |x::r=>Pz x&&(!decide (x.id∈pre.map (·.id))&&(!decide (x.dep>gi pre)&&Et (pre++ [x]) r))
def fd(S:Sc):Bool:=((decide (S.w<1)||decide (S.w>256))||decide (S.h<1))||decide (S.h>256)
def W6(S:Sc):Bool:= !fd S&&(!decide ((S.nds.length:Int)>64)&&Et [] S.nds)
structure Jq(w:YM)(A:YY)(l:List (Nd×ND))(K:Nat)(Ns:List Nd):Prop where
 eq:l.map (·.1)=Ns
 row:Kk w A Ns.length 47 (λx=>Es x.1 x.2) l
 rd:∀x∈l,Xo x.1 x.2 K w
section
variable{w w1:YM}{A:YY}{l:List (Nd×ND)}{K:Nat}{Ns:List Nd}
theorem Jq.below(h:Jq w A l K Ns)(b:Below w.heap.size w w1):Jq w1 A l K Ns:=⟨h.eq,h.row.below b,λx c=>(h.rd x c).below b⟩
theorem Jq.get{k:Nat}{N:Nd}(h:Jq w A l K Ns)(c:Ns[k]? =some N):∃q:ND,l[k]? =some (N,q)/\Xo N q K w:=by
 rw[<-h.eq,BJ]at c;obtain⟨x,b,rfl⟩:=BN.1 c;exact⟨x.2,b,h.rd x (AI b)⟩
end
section
variable{w:YM}{A:YY}{n c g:Nat}{x:Int}{B:Bool}{N:Nd}{q:ND}{K:Nat}{S:Ef}{y:YZ}{l:List Int}
def wh(b:Bool)(z:Int):YI:=if b then .iface 119 (.agg #[.int .i64 z,.nilIface])else .nilIface
def rS(z:Int):YI:= .iface 119 (.agg #[.int .i64 0,wh true z])
def E1:List (Bool×Int)->YI
 | []=> .nilIface
 |v::r=>if v.1 then rS v.2 else E1 r
theorem Qh{b:Bool}{z:Int}:Ca 87 #[.bool b,.int .i64 z] w (CU w (wh b z)):=by
 cases b
 .exact uf func87 rfl<|ZR<|ZI true<|ZW (wh false z)
 .exact uf func87 rfl<|ZR<|ZI false<|ZW (wh true z)
theorem it{vs:List (Bool×Int)}{k:Nat}{z:Int}(b:vs[k]? =some (true,z))(h:(vs.take k).all (λv=> !v.1)=true):E1 vs=rS z:=by
 induction vs generalizing k with
 |nil=>simp at b
 | cons v r e=>
  cases k with
  |zero=>simp only[BY,CL]at b;subst b;rfl
  |succ k=>
   simp only[CE,List.all_cons,AU]at h;simp only[List.getElem?_cons_succ]at b;have f:v.1=false:=by simpa using h.1
   unfold E1;rw[f];exact e b h.2
theorem bT{vs:List (Bool×Int)}(h:vs.all (λv=> !v.1)=true):E1 vs= .nilIface:=by
 induction vs with
 |nil=>rfl
 |cons v r b=>
  simp only[List.all_cons,AU]at h;have e:v.1=false:=by simpa using h.1
  unfold E1;rw[e];exact b h.2
theorem IW{vs:List (Bool×Int)}(D:Kw 116 (vs.map λv=>wh v.1 v.2).toArray g w)(F:vs.length=n)(E:n<=1000):Ca 86 #[Kr n g] w (CU w (E1 vs)):=by
 have t:K8 w g (vs.map λv=>wh v.1 v.2):=⟨_,D⟩
 refine uf func86 rfl<|ZR<|uj (ι:={k:Nat // k<=n/\(vs.take k).all (λv=> !v.1)=true}) 17 (λk=>⟨[vV 0 (Kr n g),vV 5 (Kr n g),vI 6 n,vI 7 k.1],[]⟩) (λk u=>True) (λk=>n-k.1) (⟨0,AD _,rfl⟩) O Zf Zt (λu h=>trivial) ?_
 rintro⟨k,p,e⟩ G;have p:k<=n:=p;have e:(vs.take k).all (λv=> !v.1)=true:=e
 by_cases j:k<n
 case neg=>
  obtain rfl:k=n:=I
  rw[AR I]at e;exact ZR<|ZJ (decide ((k:Int)<(k:Int))) false Zs<|ug O<|ZR<|ZX (.nilIface) (by rw[bT e])
 obtain⟨⟨b,z⟩,o⟩:∃v,vs[k]? =some v:=⟨_,AC I⟩
 have f:(vs.map λv=>wh v.1 v.2)[k]? =some (wh b z):=by rw[BJ,o];rfl
 refine ZR<|ZJ (decide ((k:Int)<(n:Int))) true Zp<|ZA (Kd 193 (Kr n g) k) (.pointer (some ((⟨g,0,none⟩:XR).add k))) (λs m h=>Uh (elem:=116) O O j) ?_
 cases b
 .refine ZA (Ke 116 ((⟨g,0,none⟩:XR).add k)) (wh false z) (λs m h=>Kh O (by rw[Addr.add_mid,CI];simpa using(t.below m).range k _ f))<|ZI false<|YA 7 k j<|ui (⟨k+1,Zn,by rw[Jk o e];rfl⟩) O Zn Zt (λu h=>trivial)
 .exact ZA (Ke 116 ((⟨g,0,none⟩:XR).add k)) (wh true z) (λs m h=>Kh O (by rw[Addr.add_mid,CI];simpa using(t.below m).range k _ f))<|ZI true<|ug O<|ZR<|ZX (rS z) (by rw[it o e])
theorem ff:Ca 85 #[.int .i64 x] w (CU w (.bool (A8 x))):=uf func85 rfl<|ZS 3<|up O 1000 4 5 [6,7,8] 2 true (x==2) ((x==1)||(x==2)) O O O Zf R3 λb=>ZR<|ZW (.bool (A8 x))
theorem gG:Ca 187 #[.int .i64 x] w (CU w (.bool (Ue x))):=uf func187 rfl<|ZS 3<|up O 1000 4 5 [6,7,8] 2 (decide (x<=16384)) false ((decide (x>=1))&&(decide (x<=16384))) O O O Zf N4 λb=>ZR<|ZW (.bool (Ue x))
theorem jS:Ca 92 #[.int .i64 x] w (CU w (.bool (FD x))):=uf func92 rfl<|ZS 3<|up O 1000 4 5 [6,7,8] 2 (decide (x<=13)) false ((decide (x>=1))&&(decide (x<=13))) O O O Zf N4 λb=>ZR<|ZW (.bool (FD x))
theorem cC(e:decide (n=0)=B):Ca 185 #[.slice A n c,.slice none 0 0] w (CU w (.bool B)):=by
 by_cases b:n=0
 .subst b;exact uf func185 rfl<|ZR<|ZI false<|uR O<|ZR<|ZI false<|ZX (.bool true) (by rw[<-e];rfl)
 .exact uf func185 rfl<|ZR<|ZJ (((n:Int) !=0)) true (by simpa using b)<|ZX (.bool false) (by rw[<-e,YV b])
theorem Wv:Ca 137 #[Bj S y,.agg #[.int .i64 0,.int .i64 0,.int .i64 0,.int .i64 0,.slice none 0 0,.int .i64 0]] w (CU w (.bool (V9 S))):=uf func137 rfl<|ZS 6<|up O 1000 7 10 [11,12,13,14,15,16] 17 (S.j==0) false ((S.w==0)&&(S.j==0)) O O O Zf N4 λo=>up O 1000 7 17 [18,19,20,21,22,23] 24 (S.c==0) false (((S.w==0)&&(S.j==0))&&(S.c==0)) O O O Zf N4 λk=>up O 1000 7 24 [25,26,27,28,29,30] 31 (S.m==0) false ((((S.w==0)&&(S.j==0))&&(S.c==0))&&(S.m==0)) O O O Zf N4 λe=>up O 1000 7 31 [32,33,34,35,36,37] 38 (S.p==0) false (((((S.w==0)&&(S.j==0))&&(S.c==0))&&(S.m==0))&&(S.p==0)) O O O Zf N4 λs=>uW O true 1000 1000 1000 38 [39,40,41,42,43,44] 4 false (decide (S.d.length=0)) (decide (S.d.length=0)) ((((((S.w==0)&&(S.j==0))&&(S.c==0))&&(S.m==0))&&(S.p==0))&&(decide (S.d.length=0))) O (λu t h=>cC (A:=y.1) (c:=y.2) rfl) O O O Zf Cu λf Φxj8 b=>ZR<|ZW (.bool (V9 S))
end
section
variable{w:YM}{A:YY}{n c g:Nat}{x:Int}{B:Bool}{N:Nd}{q:ND}{K:Nat}{S:Ef}{y:YZ}{l:List Int}{Ps:List Pn}{ql:List (Pn×PM)}
theorem LV{α:Type}{p:α->Bool}{l:List α}{k:Nat}{x:α}(b:l[k]? =some x):(l.take (k+1)).any p=((l.take k).any p||p x):=by
 rw[CK,b];simp
theorem jU{α:Type}{p:α->Bool}{l:List α}{k:Nat}{x:α}(b:l[k]? =some x)(h:p x=true):l.any p=true:=
 List.any_eq_true.2 ⟨x,AI b,h⟩
theorem d7(s:Kk w A n 1 qg l)(J:n<=9223372036854775807):Ca 188 #[.slice A n c] w (CU w (.bool (Ci l))):=by
 have m:=s.1;refine uf func188 rfl<|ZR<|uh 3 (.bool ((n:Int)==0)) (.bool (Ym n (l.take 0))) O (by simp[Ym])<|uj (ι:={k:Nat // k<=n/\(l.take k).any UP=false}) 39 (λk=>⟨[vS 0 A n c,vV 3 (.bool (Ym n (l.take k.1))),vS 9 A n c,vI 10 n,vI 11 k.1],[]⟩) (λk u=>True) (λk=>n-k.1) (⟨0,AD _,rfl⟩) O Zf Zt (λu h=>trivial) ?_
 rintro⟨k,o,b⟩ L;have o:k<=n:=o;have b:(l.take k).any UP=false:=b
 by_cases e:k<n
 case neg=>
  obtain rfl:k=n:=I
  exact ZR<|ZJ (decide ((k:Int)<(k:Int))) false Zs<|ug O<|ZS 2<|up O 1000 6 28 [29,30,31,32,33] 34 (Int.tmod (k:Int) 2==0) false ((Ym k (l.take k))&&(Int.tmod (k:Int) 2==0)) O O O Zf N4 λZ=>up O 1000 5 34 [35,36,37,38] 2 (decide ((k:Int)<=16)) false ((Ym k (l.take k)&&(Int.tmod (k:Int) 2==0))&&(decide ((k:Int)<=16))) O O O Zf N4 λF=>ZR<|ZX (.bool ((Ym k (l.take k)&&(Int.tmod (k:Int) 2==0))&&decide ((k:Int)<=16))) (by unfold Ci;rw[AR I]at b ⊢;rw[b,m];rfl)
 obtain⟨z,j⟩:∃v,l[k]? =some v:=⟨_,AC I⟩
 obtain⟨ad,t,D⟩:=s.2 k z j;refine ZR<|ZJ (decide ((k:Int)<(n:Int))) true Zp<|ZA (Kd 58 (.slice A n c) k) (.pointer (some (ad.add k))) (λE p h=>by rw[t];exact Uh (elem:=3) O O e)<|uw (Ke 3 (ad.add k)) (.int .i64 z) O (λE p h=>Kh O (by have:=L5 p (D 0 (.int .i64 z) rfl);rw[X4,Nat.mul_one,CR]at this;exact this))<|ZS 3<|up O 1000 3 17 [18,19] 20 true (decide (z>1048576)) ((decide (z<0))||(decide (z>1048576))) O O O Zf R3 (λH=> ?_)
 cases f:UP z
 .refine uh 20 (.bool (decide (z<0)||decide (z>1048576))) (.bool false) O (by rw[<-f];rfl)<|ZS 2<|uu false O<|ZS 2<|up O 1000 4 22 [23,24,25] 3 true (decide (z>0)) ((Ym n (l.take k))||(decide (z>0))) O O O Zf R3 λG=>ZR<|YA 11 k e<|uh 3 (.bool (Ym n (l.take k)||decide (z>0))) (.bool (Ym n (l.take (k+1)))) O (by unfold Ym;rw[LV j,Bool.or_assoc])<|ui (⟨k+1,Zn,by rw[LV j,b,f];rfl⟩) O Zn Zt (λu h=>trivial)
 .exact ZT 20 (.bool (decide (z<0)||decide (z>1048576))) (.bool true) (by rw[<-f];rfl)<|ZI true<|ug O<|ZR<|ZX (.bool false) (by unfold Ci;rw[jU j f];rfl)
theorem UJ(J:Kk w y.1 S.d.length 1 qg S.d)(E:S.d.length<=9223372036854775807):Ca 139 #[Bj S y] w (CU w (.bool (Xs S))):=uf func139 rfl<|ZS 4<|up O 1000 5 8 [9,10,11,12] 13 true (S.j==2) ((S.j==1)||(S.j==2)) O O O Zf R3 λZ=>up O 1000 5 13 [14,15,16,17] 3 true (S.j==3) (((S.j==1)||(S.j==2))||(S.j==3)) O O O Zf R3 λz=>ZS 4<|up O 1000 5 21 [22,23,24,25] 26 true (S.c==4) ((S.c==3)||(S.c==4)) O O O Zf R3 λG=>up O 1000 5 26 [27,28,29,30] 4 true (S.c==5) (((S.c==3)||(S.c==4))||(S.c==5)) O O O Zf R3 λH=>ZR<|ZD 4 (λD o h=>gG (x:=S.w)) λu=>up O 1000 3 34 [35,36] 37 (((S.j==1)||(S.j==2))||(S.j==3)) false ((Ue S.w)&&(((S.j==1)||(S.j==2))||(S.j==3))) O O O Zf N4 λF=>up O 1000 3 37 [38,39] 40 (((S.c==3)||(S.c==4))||(S.c==5)) false ((Ue S.w&&(((S.j==1)||(S.j==2))||(S.j==3)))&&(((S.c==3)||(S.c==4))||(S.c==5))) O O O Zf N4 λv=>up O 1000 5 40 [41,42,43,44] 45 (decide (S.m>=256)) false (((Ue S.w&&(((S.j==1)||(S.j==2))||(S.j==3)))&&(((S.c==3)||(S.c==4))||(S.c==5)))&&(decide (S.m>=256))) O O O Zf N4 λs=>up O 1000 5 45 [46,47,48,49] 50 (decide (S.m<=65536)) false ((((Ue S.w&&(((S.j==1)||(S.j==2))||(S.j==3)))&&(((S.c==3)||(S.c==4))||(S.c==5)))&&decide (S.m>=256))&&(decide (S.m<=65536))) O O O Zf N4 λt=>uW O true 1000 5 2 50 [51,52,53,54] 55 false (Ci S.d) (Ci S.d) (((((Ue S.w&&(((S.j==1)||(S.j==2))||(S.j==3)))&&(((S.c==3)||(S.c==4))||(S.c==5)))&&decide (S.m>=256))&&decide (S.m<=65536))&&(Ci S.d)) O (λD o h=>d7 (c:=y.2) (J.below o) E) O O O Zf Cu λe Φxj13 b=>up O 1000 5 55 [56,57,58,59] 60 (decide (S.p>=0)) false ((((((Ue S.w&&(((S.j==1)||(S.j==2))||(S.j==3)))&&(((S.c==3)||(S.c==4))||(S.c==5)))&&decide (S.m>=256))&&decide (S.m<=65536))&&Ci S.d)&&(decide (S.p>=0))) O O O Zf N4 λf=>up O 1000 5 60 [61,62,63,64] 2 (decide (S.p<=1048576)) false (((((((Ue S.w&&(((S.j==1)||(S.j==2))||(S.j==3)))&&(((S.c==3)||(S.c==4))||(S.c==5)))&&decide (S.m>=256))&&decide (S.m<=65536))&&Ci S.d)&&decide (S.p>=0))&&(decide (S.p<=1048576))) O O O Zf N4 λk=>ZR<|ZW (.bool (Xs S))
end
section
variable{w:YM}{A:YY}{n c g:Nat}{x:Int}{B:Bool}{N:Nd}{q:ND}{K:Nat}{S:Ef}{y:YZ}{l:List Int}{Ps:List Pn}{ql:List (Pn×PM)}{T:N7}{t:TV}
def sY(P:Pn):Prop:=P.im.px.length<=9223372036854775807/\P.stops.length<=9223372036854775807
theorem bR{P:Pn}{p:PM}(b:Lu P=B)(k:Jp P p K w)(f:P.im.px.length<=9223372036854775807)(j:2<=K/\K<=10000000):Ca 190 #[.agg (HU (P,p)).toArray] w (CU w (.bool (!B))):=uf func190 rfl<|ZR<|ZC (λm e h=>I1 b (k.below e) f j) λu=>ZW (.bool (!B))
theorem WM{k:Nat}{ad:XR}(e:A=some ad)(b:k<n):(Kd 57 (.slice A n c) k).run XM w= .ok (.value (.pointer (some (ad.add (k*40))))) w:=by
 rw[e];exact L9 (elem:=77) O O b
theorem Hg{P:Pn}{p:PM}{ad:XR}(h:∀(j:Nat) (v:YI),(HU (P,p))[j]? =some v->w.cell? (ad.add j)=some v):(Ke 77 ad).run XM w= .ok (.value (.agg (HU (P,p)).toArray)) w:=
 Mh O O h
theorem e6(G:Ps.all Lu=B)(wI:X5 w A ql K Ps)(R:Ps.length=n)(Q:n<=9223372036854775807)(Z:∀P∈Ps,sY P)(H:2<=K/\K<=10000000):Ca 237 #[.slice A n c,.func (.func 190) #[] #[]] w (K4 w (λr:{r:Int // decide (r>=0)= !B}=> .int .i64 r.1) λ_ _=>True):=by
 refine uf func237 rfl<|ZR<|uj (ι:={q:Nat // q<=n/\(Ps.take q).all Lu=true}) 19 (λq=>⟨[vS 0 A n c,vV 1 (.func (.func 190) #[] #[]),vI 7 n,vI 8 q.1],[]⟩) (λq u=>True) (λq=>n-q.1) (⟨0,AD _,rfl⟩) O Zf Zt (λu h=>trivial) ?_
 rintro⟨k,F,b⟩ U;have F:k<=n:=F;have b:(Ps.take k).all Lu=true:=b
 by_cases m:k<n
 case neg=>
  obtain rfl:k=n:=I
  rw[AR I]at b;refine ZR<|ZJ (decide ((k:Int)<(k:Int))) false Zs<|ug O<|ZR<|ZV (.int .i64 (-1)) (λf e h=>⟨⟨-1,by rw[<-G,b];rfl⟩,rfl,e,Zv⟩)
 obtain⟨P,z⟩:∃x,Ps[k]? =some x:=⟨_,AC I⟩
 obtain⟨p,D,o⟩:=wI.get z;obtain⟨ad,J,L⟩:=wI.row.2 k _ D;have E:=Z P (AI z);refine ZR<|ZJ (decide ((k:Int)<(n:Int))) true Zp<|ZA (Kd 57 (.slice A n c) k) (.pointer (some (ad.add (k*40)))) (λf e h=>WM J m)<|ZA (Ke 77 (ad.add (k*40))) (.agg (HU (P,p)).toArray) (λf e h=>Hg λj v M=>L5 e (L j v M)) ?_
 cases s:Lu P
 .refine ZC (λf e h=>bR s (o.below e) (by have:=E.1;omega) H) λu=>ZI true<|ug O<|ZR<|ZV (.int .i64 (k:Int)) (λf e h=>⟨⟨k,by rw[<-G,VC z s];simp⟩,rfl,e,Zv⟩)
 .refine ZC (λf e h=>bR s (o.below e) (by have:=E.1;omega) H) λu=>ZI false<|YA 8 k m<|ui (⟨k+1,Zn,by rw[Jk z b,s]⟩) O Zn Zt (λu h=>trivial)
theorem NJ(e:Ps.all Lu=B)(o:X5 w A ql K Ps)(f:Ps.length=n)(b:n<=9223372036854775807)(k:∀P∈Ps,sY P)(m:2<=K/\K<=10000000):Ca 189 #[.slice A n c,.func (.func 190) #[] #[]] w (CU w (.bool (!B))):=uf func189 rfl<|ZR<|ZC (λp j h=>e6 (c:=c) e (o.below j) f b k m) λu=>ZX (.bool (decide (u.1>=0))) (by rw[u.2])
theorem fB(e:Ps.all Lu=B)(o:X5 w A ql K Ps)(f:Ps.length=n)(b:n<=9223372036854775807)(k:∀P∈Ps,sY P)(m:2<=K/\K<=10000000):Ca 140 #[.slice A n c] w (CU w (.bool B)):=uf func140 rfl<|ZR<|ZC (λp j h=>NJ (c:=c) e (o.below j) f b k m) λu=>ZX (.bool (!!B)) (by rw[Bool.not_not])
theorem iU{r:Rat}:(Kv r ((0:Int):Rat)==0)=decide (r=0):=by
 have:=Vv (r:=r)
 by_cases h:r=0
 .rw[YU h];rw[YV (by simpa using h)]at this;simpa using this
 .rw[YV h];rw[YU h]at this;simpa using this
theorem oN(f:S3 t T K w)(j:2<=K/\K<=10000000):Ca 89 #[t.val] w (CU w (.bool (decide (T.det=0)))):=uf func89 rfl<|ZR<|ZC (λe b h=>Yk (f.below b) j) λd=>ZC (λe b h=>Ki 0 e Zd Zd) λz=>ZC (λe b h=>Lv h.1.2.q h.2.q I) λv=>ZX (.bool (Kv T.det ((0:Int):Rat)==0)) (by rw[iU])
theorem mU:Ca 91 #[GE N q] w (CU w (.bool (Ct N))):=by
 refine uf func91 rfl<|ZS 4<|up O 1000 5 9 [10,11,12,13] 14 (N.bl==0) false (((N.op.toNat:Int)==0)&&(N.bl==0)) O O O Zf N4 λH=>up O 1000 5 14 [15,16,17,18] 19 (!N.iso) false ((((N.op.toNat:Int)==0)&&(N.bl==0))&&(!N.iso)) O O O Zf N4 λp=>up O 1000 5 19 [20,21,22,23] 3 (!N.ko) false (((((N.op.toNat:Int)==0)&&(N.bl==0))&& !N.iso)&&(!N.ko)) O O O Zf N4 λF=>ZS 5<|up O 1000 5 28 [29,30,31,32] 33 (N.frule==0) false (((N.path.length:Int)==0)&&(N.frule==0)) O O O Zf N4 λv=>up O 1000 6 33 [34,35,36,37,38] 39 ((N.fill.length:Int)==0) false ((((N.path.length:Int)==0)&&(N.frule==0))&&((N.fill.length:Int)==0)) O O O Zf N4 λG=>up O 1000 6 39 [40,41,42,43,44] 45 ((N.stroke.length:Int)==0) false (((((N.path.length:Int)==0)&&(N.frule==0))&&((N.fill.length:Int)==0))&&((N.stroke.length:Int)==0)) O O O Zf N4 λk=>uW O true 1000 1000 1000 45 [46,47,48,49,50] 4 false (V9 N.sty) (V9 N.sty) ((L_ N)&&(V9 N.sty)) O (λo s h=>Wv (y:=(q.daA,q.dac))) O O O Zf Cu λD Φxj7 e=>ZD 5 (λo s h=>Iq (m:=N.im) (y:=(q.pxA,q.pxc)) rfl) λu=>up O 1000 5 55 [56,57,58,59] 5 (N.samp==0) false ((decide (N.im.w=0/\N.im.h=0/\N.im.px=[]))&&(N.samp==0)) O O O Zf N4 λE=>ZR ?_
 unfold Ct
 by_cases b:N.kind=1
 .exact ul (N.kind==1) true O (YQ.2 b)<|ZS 2<|up O 1000 3 65 [66,67] 2 (NG N) false ((L_ N&&V9 N.sty)&&(NG N)) O O O Zf N4 λz=>ZR<|ZX (.bool ((L_ N&&V9 N.sty)&&NG N)) (by rw[YS b])
 refine ZJ (N.kind==1) false (YR.2 b) ?_
 by_cases k2:N.kind=2
 .exact ul (N.kind==2) true O (YQ.2 k2)<|ZS 2<|up O 1000 3 71 [72,73] 2 (NG N) false ((VL N)&&(NG N)) O O O Zf N4 λj=>ZR<|ZX (.bool (VL N&&NG N)) (by rw[YT b,YS k2])
 exact ul (N.kind==2) false O (YR.2 k2)<|ZS 2<|up O 1000 3 75 [76,77] 2 (L_ N&&V9 N.sty) false ((VL N)&&(L_ N&&V9 N.sty)) O O O Zf N4 λf=>ZR<|ZX (.bool (VL N&&(L_ N&&V9 N.sty))) (by rw[YT b,YT k2])
theorem qM{b b1 b2 h e f:Bool}{z0 o k j m z5:Int}:Ic XM 193 6 #[(0,wh b z0),(1,wh b1 o),(2,wh b2 k),(3,wh h j),(4,wh e m),(5,wh f z5)]=some (116,(List.map (λv:Bool×Int=>wh v.1 v.2) [(b,z0),(b1,o),(b2,k),(h,j),(e,m),(f,z5)]).toArray):=by
 cases b<;>cases b1<;>cases b2<;>cases h<;>cases e<;>cases f<;>kernel_rfl
theorem tA{b b1:Bool}{z0 e:Int}:Ic XM 193 2 #[(0,wh b z0),(1,wh b1 e)]=some (116,(List.map (λv:Bool×Int=>wh v.1 v.2) [(b,z0),(b1,e)]).toArray):=by
 cases b<;>cases b1<;>kernel_rfl
end
section
variable{w:YM}{B:Bool}{N:Nd}{q:ND}{K:Nat}{vs:List (Bool×Int)}
def pT(B:Bool)(e:YI):Prop:=(B=true/\e= .nilIface)\/(B=false/\∃z:Int,z≠0/\(e=wh true z\/e=rS z))
theorem JD(c:∀v∈vs,v.2≠0)(f:vs.all (λv=> !v.1)=B):pT B (E1 vs):=by
 subst f;induction vs with
 |nil=>exact .inl ⟨rfl,rfl⟩
 |cons v r g=>
  obtain⟨b,z⟩:=v;cases b
  .exact g λv e=>c v (BC _ e)
  .exact .inr ⟨rfl,z,c (true,z) Zs,.inr rfl⟩
theorem m9{b:Bool}{z:Int}(c:z≠0)(e:(!b)=B):pT B (wh b z):=by
 subst e;cases b
 .exact .inl ⟨rfl,rfl⟩
 .exact .inr ⟨rfl,z,c,.inl rfl⟩
def pS(N:Nd):List (Bool×Int):=[(NV N,2),(VN N,6),(!N.T.ok,5),(decide (N.T.det=0),9),(!U3 N.clip,10),(!V0 N|| !Ct N,17)]
def nI(N:Nd):List (Bool×Int):=[(!U3 N.path,10),(!A8 N.frule,2),(NC N,5),(decide ((N.stroke.length:Int)>0)&& !Xs N.sty,13),(!decide ((N.stroke.length:Int)>0)&& !V9 N.sty,17),(!N.fill.all Lu|| !N.stroke.all Lu,16)]
def pU(N:Nd):List (Bool×Int):=[(!Vn N.im,16),((N.samp !=1)&&(N.samp !=2),2)]
def sD:List Nat:=[8,9,10,11,12,13,14,15,16,17,18,19,20,21,22,23]
theorem Ml(p:Xo N q K w)(t:Jr N)(s:2<=K/\K<=10000000)(H:FH N=B):Ca 58 #[GE N q] w (K4 w (λe:{e:YI // pT B e}=>e.1) λ_ _=>True):=by
 refine uf func58 rfl<|ZS 5<|vQ (λ(i:Nat->AV) c=>O9 sD i (Ky 3 (.bool (V0 N)) (Lw XM 1000 11 (Ky 13 (.bool true) (Lw XM 1000 5 (Ky 8 (.bool true) c)))))) (λk=> ?_) (λZ Φ9 D=> ?_)
 .by_cases l:N.clip.length=0
  .refine uh 8 (.bool ((N.clip.length:Int)==0)) (.bool true) O (by rw[YQ.2 I])<|uo O (stop:=1000) 5 _<|vf 13 (N.crule==0) O (λm=> ?_) (λm=> ?_)
   .exact uo O (stop:=1000) 11 _<|uh 3 (.bool true) (.bool (V0 N)) O (by unfold V0;rw[YS l,m])<|uC sD λx=>K0.eq (k x _ λw h=>h) O
   .exact uo O (stop:=1000) 5 _<|YF 18 ((N.clip.length:Int)>0) I<|uo O (stop:=1000) 6 _<|uh 3 (.bool false) (.bool (V0 N)) O (by unfold V0;rw[YS l,m])<|uC sD λx=>K0.eq (k x _ λw h=>h) O
  .exact uh 8 (.bool ((N.clip.length:Int)==0)) (.bool false) O (by rw[YR.2 I])<|uo O (stop:=1000) 10 _<|YE 18 ((N.clip.length:Int)>0) I<|vr (λj f h=>ff (x:=N.crule)) O λu=>uo O (stop:=1000) 3 _<|uh 3 (.bool (A8 N.crule)) (.bool (V0 N)) O (by unfold V0;rw[YT l])<|uC sD λx=>K0.eq (k x _ λw h=>h.1) O
 refine ZS 4<|up O 8 1000 27 [28,29,30] 31 true (decide (N.kind>3)) ((decide (N.kind<1))||(decide (N.kind>3))) O O O Zf R3 λG=>ZR<|ZD 13 (λj f h=>Qh (b:=NV N) (z:=2)) λS=>up O 18 1000 36 [37,38,39,40] 41 true (decide (N.id>1073741824)) ((decide (N.id<1))||(decide (N.id>1073741824))) O O O Zf R3 λy=>up O 23 1000 41 [42,43,44,45] 46 true (decide (N.dep<0)) ((decide (N.id<1)||decide (N.id>1073741824))||(decide (N.dep<0))) O O O Zf R3 λE=>up O 27 1000 46 [47,48,49] 50 true (decide (N.dep>=8)) (((decide (N.id<1)||decide (N.id>1073741824))||decide (N.dep<0))||(decide (N.dep>=8))) O O O Zf R3 λA=>ZR<|ZC (λj f h=>Qh (b:=VN N) (z:=6)) λW=>ZC (λj f h=>Oj rfl (p.tr.below f) s) λwI=>ZC (λj f h=>Qh (b:= !N.T.ok) (z:=5)) λU=>ZC (λj f h=>oN (p.tr.below f) s) λP=>ZC (λj f h=>Qh (b:=decide (N.T.det=0)) (z:=9)) λQ=>ZC (λj f h=>Bd (c:=q.clc) (p.cl.below f) t.cl rfl) λL=>ZD 45 (λj f h=>Qh (b:= !U3 N.clip) (z:=10)) λJ=>uW O false 1000 1000 1000 68 [69,70,71] 72 true (Ct N) (!Ct N) ((!V0 N)||(!Ct N)) O (λj f h=>mU (q:=q)) O O O Zf fQ λF Φxj5 o=>ZC (λj f h=>Qh (b:= !V0 N|| !Ct N) (z:=17)) λR=>uk (Lr 193 6 #[(0,wh (NV N) 2),(1,wh (VN N) 6),(2,wh (!N.T.ok) 5),(3,wh (decide (N.T.det=0)) 9),(4,wh (!U3 N.clip) 10),(5,wh (!V0 N|| !Ct N) 17)]) (Kr 6) (Kw 116 (List.map (λv:Bool×Int=>wh v.1 v.2) (pS N)).toArray) O (λj f h=>Kj qM) λg=>ZR<|ZC (λj f h=>IW (vs:=pS N) (n:=6) h.2 rfl Zd) λM=>ZV (E1 (pS N)) (λj f h=>⟨⟨E1 (pS N),JD (by simp[pS]) (by rw[<-H];simp[pS,FH])⟩,rfl,f,Zv⟩)
theorem WJ:List.all (nI N) (λv=> !v.1)=Dh N:=by
 unfold Dh o_ nI
 by_cases h:N.stroke.length=0
 .rw[YS h,show decide ((N.stroke.length:Int)>0)=false from YV I];simp[Bool.not_or]
 .rw[YT h,show decide ((N.stroke.length:Int)>0)=true from YU I];simp[Bool.not_or]
theorem jv(l:Xo N q K w)(k:Jr N)(s:2<=K/\K<=10000000)(E:Dh N=B):Ca 93 #[GE N q] w (K4 w (λe:{e:YI // pT B e}=>e.1) λ_ _=>True):=by
 refine uf func93 rfl<|ZR<|ZC (λj f h=>Bd (c:=q.pac) (l.pa.below f) k.pa rfl) λJ=>ZC (λj f h=>Qh (b:= !U3 N.path) (z:=10)) λZ=>ZC (λj f h=>ff (x:=N.frule)) λF=>ZD 15 (λj f h=>Qh (b:= !A8 N.frule) (z:=2)) λQ=>up O 20 1000 22 [23,24,25,26] 27 true (decide ((N.stroke.length:Int)>1)) ((decide ((N.fill.length:Int)>1))||(decide ((N.stroke.length:Int)>1))) O O O Zf R3 λt=>ZR<|ZD 23 (λj f h=>Qh (b:=NC N) (z:=5)) λP=>uW O true 1000 1000 1000 30 [31,32,33,34] 35 false (Xs N.sty) (!Xs N.sty) ((decide ((N.stroke.length:Int)>0))&&(!Xs N.sty)) O (λj f h=>UJ (y:=(q.daA,q.dac)) (l.da.below f) (by have:=k.da;omega)) O O O Zf Cu λA Φxj7 o=>ZD 32 (λj f h=>Qh (b:=decide ((N.stroke.length:Int)>0)&& !Xs N.sty) (z:=13)) λL=>uW O true 1000 1000 1000 39 [40,41,42,43,44] 45 false (V9 N.sty) (!V9 N.sty) ((!decide ((N.stroke.length:Int)>0))&&(!V9 N.sty)) O (λj f h=>Wv (y:=(q.daA,q.dac))) O O O Zf Cu λD Φxj8 m=>ZC (λj f h=>Qh (b:= !decide ((N.stroke.length:Int)>0)&& !V9 N.sty) (z:=17)) λG=>ZD 44 (λj f h=>fB (c:=q.fic) rfl (l.fi.below f) rfl (by have:=k.fn;omega) k.fi s) λwI=>uW O false 1000 1000 1000 51 [52,53,54,55] 56 true (N.stroke.all Lu) (!N.stroke.all Lu) ((!N.fill.all Lu)||(!N.stroke.all Lu)) O (λj f h=>fB (c:=q.stc) rfl (l.st.below f) rfl (by have:=k.sn;omega) k.st s) O O O Zf fQ λu Φxj9 p=>ZC (λj f h=>Qh (b:= !N.fill.all Lu|| !N.stroke.all Lu) (z:=16)) λM=>uk (Lr 193 6 #[(0,wh (!U3 N.path) 10),(1,wh (!A8 N.frule) 2),(2,wh (NC N) 5),(3,wh (decide ((N.stroke.length:Int)>0)&& !Xs N.sty) 13),(4,wh (!decide ((N.stroke.length:Int)>0)&& !V9 N.sty) 17),(5,wh (!N.fill.all Lu|| !N.stroke.all Lu) 16)]) (Kr 6) (Kw 116 (List.map (λv:Bool×Int=>wh v.1 v.2) (nI N)).toArray) O (λj f h=>Kj qM) λg=>ZR<|ZC (λj f h=>IW (vs:=nI N) (n:=6) h.2 rfl Zd) λH=>ZV (E1 (nI N)) (λj f h=>⟨⟨E1 (nI N),JD (by simp[nI]) (by rw[<-E];exact WJ)⟩,rfl,f,Zv⟩)
theorem qY(p:Xo N q K w)(o:Jr N)(t:2<=K/\K<=10000000)(j:PW N=B):Ca 59 #[GE N q] w (K4 w (λe:{e:YI // pT B e}=>e.1) λ_ _=>True):=by
 unfold PW at j;refine uf func59 rfl<|ZR ?_
 by_cases k:N.kind=1
 .rw[YS k]at j;refine ZJ (N.kind==1) true (YQ.2 k)<|ZC (λf c h=>jS (x:=N.bl)) λu=>ZC (λf c h=>Qh (b:= !FD N.bl) (z:=2)) λl=>ZV (wh (!FD N.bl) 2) (λf c h=>⟨⟨_,m9 Zd (by rw[Bool.not_not];exact j)⟩,rfl,c,Zv⟩)
 rw[YT k]at j;refine ZJ (N.kind==1) false (YR.2 k) ?_
 by_cases k2:N.kind=2
 .rw[YS k2]at j;refine ZJ (N.kind==2) true (YQ.2 k2)<|ZC (λf c h=>jv (p.below c) o t j) λl=>ZV (l.1) (λf c h=>⟨l,rfl,c,Zv⟩)
 rw[YT k2]at j;refine ZJ (N.kind==2) false (YR.2 k2)<|ZC (λf c h=>Us (m:=N.im) (y:=(q.pxA,q.pxc)) rfl (p.px.below c) (by have:=o.px;omega)) λu=>ZD 9 (λf c h=>Qh (b:= !Vn N.im) (z:=16)) λl=>up O 13 1000 24 [25,26,27] 28 (N.samp !=2) false ((N.samp !=1)&&(N.samp !=2)) O O O Zf N4 λs=>ZR<|ZC (λf c h=>Qh (b:=(N.samp !=1)&&(N.samp !=2)) (z:=2)) λA=>uk (Lr 193 2 #[(0,wh (!Vn N.im) 16),(1,wh ((N.samp !=1)&&(N.samp !=2)) 2)]) (Kr 2) (Kw 116 (List.map (λv:Bool×Int=>wh v.1 v.2) (pU N)).toArray) O (λf c h=>Kj tA) λg=>ZR<|ZC (λf c h=>IW (vs:=pU N) (n:=2) h.2 rfl Zd) λD=>ZV (E1 (pU N)) (λf c h=>⟨⟨E1 (pU N),JD (by simp[pU]) (by rw[<-j];simp[pU])⟩,rfl,c,Zv⟩)
end
section
variable{w:YM}{B:Bool}{N:Nd}{q:ND}{K:Nat}
theorem ET.below{w b:YM}(h:ET w)(c:Below w.heap.size w b):ET b:=L5 c h
def sF(W:YM)(g:Nat)(cs:List YI)(u:YM):Prop:=W.heap.size<=g/\K8 u g cs
theorem RT{W u:YM}{g:Nat}{cs:List YI}(h:sF W g cs u):∀b∈[g],W.heap.size<=b/\∃cs ty own,u.heap[b]? =some (.cells cs ty own):=λb e=>by
 obtain rfl:b=g:=by simpa using e
 obtain⟨ty,c⟩:=h.2;exact⟨h.1,_,_,_,c⟩
def sB:List Nat:=[6,7,8,9,10,11]
theorem TI(D:ET w)(F:Xo N q K w)(y:Jr N)(E:2<=K/\K<=10000000)(o:Pz N=B):Ca 48 #[GE N q] w (K4 w (λz:{z:Int // decide (z=0)=B}=> .int .i64 z.1) λ_ _=>True):=by
 unfold Pz at o;refine uf func48 rfl<|ZR<|vQ (ι:={e:YI // pT B e}×(Nat->AV)) (λi c=>O9 sB i.2 (Ky 3 i.1.1 (Lw XM 0 1000 (V6 false (Lw XM 1000 1000 (Lp (.v (wh true 0)) c)))))) (λk=> ?_) (λi Φ9 J=> ?_)
 .cases p:FH N
  .rw[p,AN]at o;subst o;refine ZC (λf b h=>Ml (F.below b) y E p) λe=> ?_
   obtain⟨e,l⟩:=e;rcases l with ⟨A,_⟩|⟨_,z,j,rfl|rfl⟩
   .cases A
   .exact uu false O<|ZS 0<|uC sB λx=>K0.eq (k (⟨wh true z,.inr ⟨rfl,z,j,.inl rfl⟩⟩,x) _ λw h=>h.1) O
   .exact uu false O<|ZS 0<|uC sB λx=>K0.eq (k (⟨rS z,.inr ⟨rfl,z,j,.inr rfl⟩⟩,x) _ λw h=>h.1) O
  .rw[p,AE]at o;refine ZC (λf b h=>Ml (F.below b) y E p) λe=> ?_
   obtain⟨e,l⟩:=e;rcases l with ⟨_,rfl⟩|⟨A,_⟩
   case inr=>cases A
   exact ZI true<|ZD 0 (λf b h=>qY (F.below b) y E o) λe=>uC sB λx=>K0.eq (k (e,x) _ λw h=>h.1.1) O
 obtain⟨⟨e,l⟩,x⟩:=i;refine uo O (stop:=1000) 1 _<|ZS 0<|uk (Vz 119) (Kp) (λg u=>K8 u g [.int .i64 0,.nilIface]/\w.heap.size<=g/\g<u.heap.size) O (λf b h=>Ia (z:= .agg #[.int .i64 0,.nilIface]) O b.size) λg=>ZR<|uR O<|ZR ?_
 rcases l with ⟨s,rfl⟩|⟨s,z,j,rfl|rfl⟩
 .refine ZC (λf b h=>Po (t:= .iface 121 (.pointer (some ⟨g,0,none⟩)))) λu=>ZI false<|ZV (.int .i64 0) (λf b h=>⟨⟨0,by rw[s];rfl⟩,rfl,b,Zv⟩)
 .refine uD (L:=[g]) (Φ':=λ(_:Unit)=>sF w g [.int .i64 z,.nilIface]) (λf b h=>OQ (D.below b) h.2.1 rfl ⟨rfl,rfl⟩) (λu h=>RT ⟨h.2.2.1,h.2.1⟩) (λ_ G u H Z h m=>⟨h.2.2.1,m⟩) O O λ_=>ZR<|uu true O<|ZS 1<|us 1 (Ke 34 ⟨g,0,none⟩) (.int .i64 z) O (λf b h=>Kh O (by have:=h.2.range 0 _ rfl;simpa using this))<|ZS 3<|ZB 3 (Ke 116 ⟨g,1,none⟩) (.nilIface) (λf b h=>Kh O (by have:=h.2.range 1 _ rfl;simpa using this))<|ZC (λf b h=>Po (t:= .iface 121 (.pointer (some ⟨g,0,none⟩)))) λu=>ZI false<|ZV (.int .i64 z) (λf b h=>⟨⟨z,by rw[s];exact YV j⟩,rfl,b,Zv⟩)
 .refine uD (L:=[g]) (Φ':=λ(_:Unit)=>sF w g [.int .i64 0,wh true z]) (λf b h=>OQ (D.below b) h.2.1 rfl ⟨rfl,rfl⟩) (λu h=>RT ⟨h.2.2.1,h.2.1⟩) (λ_ G u H Z h m=>⟨h.2.2.1,m⟩) O O λ_=>ZR<|uu true O<|ZS 1<|us 1 (Ke 34 ⟨g,0,none⟩) (.int .i64 0) O (λf b h=>Kh O (by have:=h.2.range 0 _ rfl;simpa using this))<|ZS 3<|ZB 3 (Ke 116 ⟨g,1,none⟩) (wh true z) (λf b h=>Kh O (by have:=h.2.range 1 _ rfl;simpa using this))<|uD (L:=[g]) (Φ':=λ(_:Unit)=>sF w g [.int .i64 z,.nilIface]) (λf b h=>OQ (D.below b) h.2 rfl ⟨rfl,rfl⟩) (λu h=>RT h) (λ_ G u H Z h m=>⟨h.1,m⟩) O O λ_=>ZR<|uu true O<|ZS 1<|us 1 (Ke 34 ⟨g,0,none⟩) (.int .i64 z) O (λf b h=>Kh O (by have:=h.2.range 0 _ rfl;simpa using this))<|ZS 3<|ZB 3 (Ke 116 ⟨g,1,none⟩) (.nilIface) (λf b h=>Kh O (by have:=h.2.range 1 _ rfl;simpa using this))<|ZC (λf b h=>Po (t:= .iface 121 (.pointer (some ⟨g,0,none⟩)))) λu=>ZI false<|ZV (.int .i64 z) (λf b h=>⟨⟨z,by rw[s];exact YV j⟩,rfl,b,Zv⟩)
end
def jg(S:Sc)(y:YZ):List YI:=[.int .i64 S.w,.int .i64 S.h,.int .u8 (S.bg.1.toNat:Int),.int .u8 (S.bg.2.1.toNat:Int),.int .u8 (S.bg.2.2.1.toNat:Int),.int .u8 (S.bg.2.2.2.toNat:Int),.slice y.1 S.nds.length y.2]
abbrev De(S:Sc)(y:YZ):YI:= .agg (jg S y).toArray
section
variable{w:YM}{B:Bool}{N:Nd}{q:ND}{K n c g:Nat}{S:Sc}{y:YZ}{nl:List (Nd×ND)}{A:YY}
def fj(t:XX):Sem Next:=Instr.makeMap t none >>= λv=>pure (.value v)
theorem e_{t:XX}{N:Nat}(b:N<=w.heap.size):M9 XM w (λg:Nat=> .map (some g)) (λg u=>F7 u g []/\N<=g) (fj t):=
 ⟨w.heap.size,w.alloc (.map #[] 0),by simp only[fj,Instr.makeMap,AL,run_newObj_alloc,AK,AX],Pa _ _,λe h f=>⟨⟨#[],0,(Pv w _ h f).1,rfl⟩,b⟩⟩
def sU(t:XX)(m k:YI):Sem Next:=Instr.lookup t m k false >>= λv=>pure (.value v)
theorem nK{l:List Int}{x:Int}(h:F7 w g l):(sU 102 (.map (some g)) (.int .i64 x)).run XM w= .ok (.value (.bool (decide (x∈l)))) w:=by
 simp only[sU,AL,PK (P:=XM) (t:=102) (kt:=3) (et:=4) O O O h,AK,AX]
theorem WD{k:Nat}{ad:XR}(e:A=some ad)(b:k<n):(Kd 24 (.slice A n c) k).run XM w= .ok (.value (.pointer (some (ad.add (k*47))))) w:=by
 rw[e];exact L9 (elem:=64) O O b
theorem dQ{ad:XR}(h:∀(j:Nat) (v:YI),(Es N q)[j]? =some v->w.cell? (ad.add j)=some v):(Ke 64 ad).run XM w= .ok (.value (GE N q)) w:=
 Mh O O h
theorem fF{l:List Nd}{k:Nat}(b:l[k]? =some N)(h:Et (l.take k) (l.drop k)=B):(Pz N&&(!decide (N.id∈(l.take k).map (·.id))&&(!decide (N.dep>gi (l.take k))&&Et (l.take (k+1)) (l.drop (k+1)))))=B:=by
 rw[N3 b]at h;rw[L7 b];exact h
theorem bX{l:List Nd}{k:Nat}(b:l[k]? =some N):gi (l.take (k+1))=N.dep+(if N.kind=1 then 1 else 0):=by
 unfold gi;rw[L7 b,List.getLast?_append];rfl
theorem jJ(h:Pz N=true):0<=N.dep/\N.dep<8:=by
 unfold Pz FH VN at h;simp only[AU,BW,BR,decide_eq_false_iff_not]at h;omega
def pW(l:List Nd):Prop:=∀N∈l,Jr N
def IG(W:YM)(g:Nat)(l:List Int)(u:YM):Prop:=F7 u g l/\W.heap.size<=g
theorem nz{W:YM}{l:List Int}:nU W g (IG W g l):=λu h=>by
 obtain⟨⟨f,cl,e,_⟩,b⟩:=h;exact⟨b,f,cl,e⟩
theorem cA(M:ET w)(Q:Jq w y.1 nl K S.nds)(R:pW S.nds)(wJ:2<=K/\K<=10000000)(o:W6 S=B):Ca 37 #[De S y] w (K4 w (λz:{z:Int // decide (z=0)=B}×Int=> .tuple #[.int .i64 z.1.1,.int .i64 z.2]) λ_ _=>True):=by
 unfold W6 at o;refine uf func37 rfl<|ZS 4<|up O 1000 5 12 [13,14,15,16] 17 true (decide (S.w>256)) ((decide (S.w<1))||(decide (S.w>256))) O O O Zf R3 λxj1=>up O 1000 5 17 [18,19,20,21] 22 true (decide (S.h<1)) ((decide (S.w<1)||decide (S.w>256))||(decide (S.h<1))) O O O Zf R3 λW=>up O 1000 4 22 [23,24,25] 26 true (decide (S.h>256)) (((decide (S.w<1)||decide (S.w>256))||decide (S.h<1))||(decide (S.h>256))) O O O Zf R3 (λZ=> ?_)
 cases H:fd S
 case true=>
  rw[H]at o;refine ZT 26 (.bool (((decide (S.w<1)||decide (S.w>256))||decide (S.h<1))||decide (S.h>256))) (.bool true) (by rw[<-H];rfl)<|ZI true<|ZV (.tuple #[.int .i64 6,.int .i64 0]) (λl b h=>⟨(⟨6,by rw[<-o];rfl⟩,0),rfl,b,Zv⟩)
 rw[H,BS,AE]at o;refine ZT 26 (.bool (((decide (S.w<1)||decide (S.w>256))||decide (S.h<1))||decide (S.h>256))) (.bool false) (by rw[<-H];rfl)<|ZI false ?_
 cases D:decide ((S.nds.length:Int)>64)
 case true=>
  rw[D]at o;refine ZJ (decide ((S.nds.length:Int)>64)) true (D)<|ZV (.tuple #[.int .i64 5,.int .i64 64]) (λl b h=>⟨(⟨5,by rw[<-o];rfl⟩,64),rfl,b,Zv⟩)
 rw[D,BS,AE]at o;have hn:S.nds.length<=64:=by have:=YO D;omega
 refine ZJ (decide ((S.nds.length:Int)>64)) false (D)<|uk (fj 102) ((λg:Nat=> .map (some g))) (λg u=>F7 u g []/\w.heap.size<=g) O (λl b h=>e_ b.size) λg=>ZR<|uj (ι:={k:Nat // k<=S.nds.length/\Et (S.nds.take k) (S.nds.drop k)=B}) 67 (λk=>⟨[vV 4 (.map (some g)),vI 5 (gi (S.nds.take k.1)),vS 33 y.1 S.nds.length y.2,vI 34 S.nds.length,vI 35 k.1],[]⟩) (λk u=>IG w g ((S.nds.take k.1).map (·.id)) u) (λk=>S.nds.length-k.1) (⟨0,AD _,o⟩) O Zf Zt (λu h=>h.2) ?_
 rintro⟨k,J,f⟩ gg;have J:k<=S.nds.length:=J;have f:Et (S.nds.take k) (S.nds.drop k)=B:=f
 by_cases m:k<S.nds.length
 case neg=>
  refine ZR<|ZJ (decide ((k:Int)<(S.nds.length:Int))) false Zp<|ug O<|ZR<|ZV (.tuple #[.int .i64 0,.int .i64 0]) (λl b h=>⟨(⟨0,by rw[<-f,BE I];rfl⟩,0),rfl,b,Zv⟩)
 obtain⟨N,p⟩:∃v,S.nds[k]? =some v:=⟨_,AC m⟩
 obtain⟨q,wI,t⟩:=Q.get p;obtain⟨ad,T,U⟩:=Q.row.2 k _ wI;have L:=R N (AI p);have e:=fF p f;refine ZR<|ZJ (decide ((k:Int)<(S.nds.length:Int))) true Zp<|ZA (Kd 24 (.slice y.1 S.nds.length y.2) k) (.pointer (some (ad.add (k*47)))) (λl b h=>WD T m)<|ZA (Ke 64 (ad.add (k*47))) (GE N q) (λl b h=>dQ λj v X=>L5 b (U j v X)) ?_
 cases x:Pz N
 .rw[x,AN]at e;refine ZC (λl b h=>TI (M.below b) (t.below b) L wJ x) λz=>ZJ (z.1 !=0) true (by have:=YO z.2;simpa using this)<|ug O<|ZR<|ZV (.tuple #[.int .i64 z.1,.int .i64 k]) (λl b h=>⟨(⟨z.1,by rw[z.2,<-e]⟩,k),rfl,b,Zv⟩)
 rw[x,AE]at e;refine ZC (λl b h=>TI (M.below b) (t.below b) L wJ x) λz=>ZJ (z.1 !=0) false (by have:=YP z.2;simpa using this)<|ZA (sU 102 (.map (some g)) (.int .i64 N.id)) (.bool (decide (N.id∈(S.nds.take k).map (·.id)))) (λl b h=>nK h.1.1) ?_
 cases hi:decide (N.id∈(S.nds.take k).map (·.id))
 case true=>
  rw[hi]at e;refine ZI true<|ug O<|ZR<|ZV (.tuple #[.int .i64 7,.int .i64 k]) (λl b h=>⟨(⟨7,by rw[<-e];rfl⟩,k),rfl,b,Zv⟩)
 rw[hi,BS,AE]at e;refine ZI false ?_;cases F:decide (N.dep>gi (S.nds.take k))
 case true=>
  rw[F]at e;refine ZJ (decide (N.dep>gi (S.nds.take k))) true (F)<|ug O<|ZR<|ZV (.tuple #[.int .i64 17,.int .i64 k]) (λl b h=>⟨(⟨17,by rw[<-e];rfl⟩,k),rfl,b,Zv⟩)
 rw[F,BS,AE]at e;refine ZJ (decide (N.dep>gi (S.nds.take k))) false (F)<|vo (g:=g) (G:=λu=>F7 u g ((S.nds.take k).map (·.id)++ [N.id])) (Φ':=IG w g ((S.nds.take k).map (·.id)++ [N.id])) (dT 102 (.map (some g)) (.int .i64 N.id) (.bool true)) (λl b h=>PZ (P:=XM) (kt:=3) (et:=4) O O h.1.1 (YO hi)) (λu h=>nz u h.1) (λwa u e1 e2 h Y=>⟨Y,h.1.2⟩) O O<|ZR ?_
 have hr:=jJ x;have s:gi (S.nds.take (k+1))=N.dep+(if N.kind=1 then 1 else 0):=bX p
 by_cases E:N.kind=1
 .refine ZJ (N.kind==1) true (YQ.2 E)<|YA 35 k m<|uh 5 (.int .i64 (XQ.wrap (N.dep+1))) (.int .i64 (gi (S.nds.take (k+1)))) O (by rw[s,YS E,AQ _ I])<|ui (⟨k+1,Zn,e⟩) O Zn Zt (λu h=>by show IG w g ((S.nds.take (k+1)).map (·.id)) u;rw[L7 p,AF];exact h)
 .refine ZJ (N.kind==1) false (YR.2 E)<|YA 35 k m<|uh 5 (.int .i64 N.dep) (.int .i64 (gi (S.nds.take (k+1)))) O (by rw[s,YT E,Int.add_zero])<|ui (⟨k+1,Zn,e⟩) O Zn Zt (λu h=>by show IG w g ((S.nds.take (k+1)).map (·.id)) u;rw[L7 p,AF];exact h)
theorem Gu(f:ET w)(m:Jq w y.1 nl K S.nds)(j:pW S.nds)(l:2<=K/\K<=10000000)(k:W6 S=B):Ca 23 #[De S y] w (CU w (.bool B)):=uf func23 rfl<|ZR<|ZC (λo e h=>cA (f.below e) (m.below e) j l k) λz=>ZX (.bool (z.1.1==0)) (congrArg (λb=>Ending.returned (Value.bool b)) z.1.2)
end
structure Py(w:YM)(S:Sc)(gn go c:Nat)(nl:List (Nd×ND)):Prop where
 et:ET w
 row:Jq w (some ⟨gn,go,none⟩) nl 8 S.nds
 few:pW S.nds
 ok:W6 S=true
 n8:S.nds.length<=8
abbrev Sb(S:Sc)(gn go c:Nat):YI:=De S (some ⟨gn,go,none⟩,c)
abbrev W0(S:Sc)(gn go c:Nat):List YI:=jg S (some ⟨gn,go,none⟩,c)
theorem Dt:∀(l pre:List Nd),Et pre l=true->∀N∈l,Pz N=true
 | [],_,_,N,h=>absurd h CN
 |x::r,pre,h,N,b=>by
  unfold Et at h;simp only[AU]at h;rcases BG.1 b with rfl|b
  .exact h.1
  .exact Dt r _ h.2.2.2 N b
structure nT(N:Nd):Prop where
 kind:N.kind=1\/N.kind=2\/N.kind=3
 dep:0<=N.dep/\N.dep<8
 T:N.T.ok=true
 cl:(Ff N.clip).1=0
 cr:N.clip.length=0\/N.crule=1\/N.crule=2
 bl:N.kind=1->1<=N.bl/\N.bl<=13
 pa:N.kind=2->(Ff N.path).1=0/\(N.frule=1\/N.frule=2)/\N.fill.length<=1/\N.stroke.length<=1
 im:N.kind=3->Vn N.im=true
theorem rA{N:Nd}(c:Pz N=true):nT N:=by
 unfold Pz FH NV VN V0 A8 at c;simp only[AU,BW,BR,decide_eq_false_iff_not,decide_eq_true_eq]at c;obtain⟨⟨t,p,g,s,f,e,u⟩,b⟩:=c;have j:N.kind=1\/N.kind=2\/N.kind=3:=I
 refine⟨j,by omega,g,?_,?_,λk=> ?_,λk=> ?_,λk=> ?_⟩
 .unfold U3 at f;simpa using f
 .split at e
  .rename_i h;exact .inl h
  .simp only[CP,YQ]at e;exact .inr e
 .unfold PW FD at b;rw[YS k]at b;simpa using b
 .unfold PW Dh U3 A8 NC at b;rw[YT I,YS k]at b;simp only[AU,BW,BR,decide_eq_false_iff_not,CP,YQ,decide_eq_true_eq]at b;obtain⟨l,m,o,_⟩:=b;exact⟨l,m,by omega,by omega⟩
 .unfold PW at b;rw[YT I,YT I]at b;simp only[AU]at b;exact b.1
def Ch(S:Sc)(k:Nat):Int:=((S.nds[k]?).map (·.dep)).getD 0
def Zq(S:Sc)(ia ib:Nat)(d:Int):List Nat:=((List.range ib).drop ia).filter λk=>decide (Ch S k=d)
theorem ez{S:Sc}{ia k:Nat}{d:Int}(h:ia<=k):Zq S ia (k+1) d=if Ch S k=d then Zq S ia k d++ [k]else Zq S ia k d:=by
 unfold Zq;rw[List.range_succ,List.drop_append_of_le_length (by rw[List.length_range];exact h),List.filter_append];split
 .rename_i b;simp[b]
 .rename_i b;simp[b]
theorem UE{S:Sc}{ia:Nat}{d:Int}:Zq S ia ia d=[]:=by
 unfold Zq;rw[BE (by rw[List.length_range];exact AH _)];rfl
theorem Cp{S:Sc}{ia ib k:Nat}{d:Int}(h:k∈Zq S ia ib d):ia<=k/\k<ib:=by
 unfold Zq at h;have c:=(List.mem_filter.1 h).1;obtain⟨j,b,e⟩:=List.mem_iff_getElem.1 c;rw[List.getElem_drop,List.getElem_range]at e;rw[CO,List.length_range]at b;omega
theorem Gg{S:Sc}{ia ib:Nat}{d:Int}:(Zq S ia ib d).length<=ib:=by
 unfold Zq;refine AO (List.length_filter_le _ _) ?_;rw[CO,List.length_range];omega
structure nH(S:Sc)(i e:Nat):Prop where
 lt:i<e
 le:e<=S.nds.length
 deep:∀k,i<k->k<e->Ch S k>Ch S i
 stop:e<S.nds.length->¬Ch S e>Ch S i
def aV(k:Nat):List YI:=[.int .i64 (k:Int)]
section
variable{w u:YM}{S:Sc}{gn go c i N0:Nat}{nl:List (Nd×ND)}{N:Nd}{q:ND}
theorem Py.below{e:YM}(b:Py w S gn go c nl)(f:Below w.heap.size w e):Py e S gn go c nl:=⟨b.et.below f,b.row.below f,b.few,b.ok,b.n8⟩
theorem Py.len(b:Py w S gn go c nl):nl.length=S.nds.length:=by rw[<-b.row.eq,AZ]
theorem Py.nd(e:Py w S gn go c nl):∀N∈S.nds,nT N:=λN b=>by
 have h:=e.ok;unfold W6 at h;simp only[AU]at h;exact rA (Dt _ _ h.2.2 N b)
theorem Py.get(b:Py w S gn go c nl)(hi:i<S.nds.length):∃N q,nl[i]? =some (N,q):=⟨_,_,AC (by rw[b.len];exact hi)⟩
theorem Py.at_(e:Py w S gn go c nl)(b:nl[i]? =some (N,q)):S.nds[i]? =some N/\i<S.nds.length/\Xo N q 8 w:=by
 have hi:=(BX.1 b).1;exact⟨by rw[<-e.row.eq,BJ,b];rfl,by rw[<-e.len];exact hi,e.row.rd _ (AI b)⟩
theorem Py.ndk(b:Py w S gn go c nl)(e:nl[i]? =some (N,q)):nT N:=b.nd N (AI (b.at_ e).1)
theorem Py.dep(e:Py w S gn go c nl)(b:nl[i]? =some (N,q)):Ch S i=N.dep:=by unfold Ch;rw[(e.at_ b).1];rfl
theorem Py.cell{j:Nat}{v:YI}(g:Py w S gn go c nl)(b:nl[i]? =some (N,q))(f:(Es N q)[j]? =some v):w.cell? ⟨gn,go+i*47+j,none⟩=some v:=by
 obtain⟨ad,e,h⟩:=g.row.row.2 i _ b;injection e with e;subst e;have:=h j v f;rwa [Addr.add_mid,Addr.add_mid]at this
theorem Py.ld(e:Py w S gn go c nl)(b:nl[i]? =some (N,q)):(Ke 64 ⟨gn,go+i*47,none⟩).run XM w= .ok (.value (GE N q)) w:=
 Ka (vs:=Es N q) O O λj v f=>e.cell b f
theorem Li(hi:i<S.nds.length):(Kd 24 (.slice (some ⟨gn,go,none⟩) S.nds.length c) i).run XM w= .ok (.value (.pointer (some ⟨gn,go+i*47,none⟩))) w:=by
 have:=L9 (P:=XM) (t:=24) (elem:=64) (s:=47) (ad:=⟨gn,go,none⟩) (c:=c) (w:=w) O O hi;rwa [Addr.add_mid]at this
theorem WI(b:Py w S gn go c nl):Ca 23 #[Sb S gn go c] w (CU w (.bool true)):=
 Gu (y:=(some ⟨gn,go,none⟩,c)) b.et b.row b.few Zd b.ok
theorem lU(b:Py w S gn go c nl)(hi:i<S.nds.length):Ca 68 #[Sb S gn go c,.int .i64 i] w (CU w (.bool true)):=uf func68 rfl<|ZS 2<|YD 6 ((i:Int)>=0) I<|ZS 8<|YE 12 ((i:Int)<(S.nds.length:Int)) I<|ZC (λf e h=>WI (b.below e)) λv=>ZW (.bool true)
theorem tm{z:Int}(h:0<=z/\z<8):XQ.wrap (z+1)=z+1:=AQ _ I
theorem rD(e:Py w S gn go c nl)(hi:i<S.nds.length):Ca 192 #[.slice (some ⟨gn,go,none⟩) S.nds.length c,.int .i64 i] w (K4 w (λp:{p:Int // p= -1\/∃k:Nat,p=k/\k<i}=> .int .i64 p.1) λ_ _=>True):=by
 have t:=e.n8;obtain⟨N,q,l⟩:=e.get hi;refine uf func192 rfl<|ZR<|YB 5 ((i:Int)-1) ((i:Int)-1)<|uj (ι:={m:Nat // m<=i}) 25 (λm=>⟨[vS 0 (some ⟨gn,go,none⟩) S.nds.length c,vI 1 (i:Int),vI 4 0,vI 5 ((m.1:Int)-1)],[]⟩) (λ_ _=>True) (λm=>m.1) (⟨i,AH _⟩) O Zf Zt (λ_ _=>trivial) ?_
 rintro⟨m,g⟩ s;have g:m<=i:=g;cases m with
 |zero=>
  refine ZR<|ZI false<|ug O<|ZR<|ZV (.int .i64 (-1)) (λf b h=>⟨⟨-1,.inl rfl⟩,rfl,b,Zv⟩)
 |succ k=>
  obtain⟨M,r,o⟩:=e.get (i:=k) I;refine ZT 5 (.int .i64 (((k+1:Nat):Int)-1)) (.int .i64 (k:Int)) (by congr 1;omega)<|YL ((k:Int)>=0)<|ZB 2 (Kd 24 (.slice (some ⟨gn,go,none⟩) S.nds.length c) k) (.pointer (some ⟨gn,go+k*47,none⟩)) (λf b h=>Li I)<|ZB 4 (Ke 3 ⟨gn,go+k*47+2,none⟩) (.int .i64 M.dep) (λf b h=>Kh O (L5 b (e.cell (j:=2) o rfl)))<|ZB 7 (Kd 24 (.slice (some ⟨gn,go,none⟩) S.nds.length c) i) (.pointer (some ⟨gn,go+i*47,none⟩)) (λf b h=>Li hi)<|ZB 9 (Ke 3 ⟨gn,go+i*47+2,none⟩) (.int .i64 N.dep) (λf b h=>Kh O (L5 b (e.cell (j:=2) l rfl)))<|uz O ?_ ?_
  .refine ZR<|ug O<|ZR<|ZV (.int .i64 (k:Int)) (λf b h=>⟨⟨(k:Int),.inr ⟨k,rfl,by omega⟩⟩,rfl,b,Zv⟩)
  .refine ZR<|YB 5 ((k:Int)-1) ((k:Int)-1)<|ui (⟨k,by omega⟩) O (Nat.lt_succ_self k) Zt (λ_ _=>trivial)
theorem du(e:Py w S gn go c nl)(hi:i<S.nds.length):Ca 148 #[Sb S gn go c,.int .i64 i] w (K4 w (λp:{p:Int // p= -1\/∃k:Nat,p=k/\k<i}=> .int .i64 p.1) λ_ _=>True):=by
 refine uf func148 rfl<|ZR<|ZC (λf b h=>lU (e.below b) hi) λv=>ZI false<|ZC (λf b h=>rD (e.below b) hi) λp=>ZV (.int .i64 p.1) (λf b h=>⟨p,rfl,b,Zv⟩)
theorem q9(f:Py w S gn go c nl)(hi:i<S.nds.length):Ca 69 #[.slice (some ⟨gn,go,none⟩) S.nds.length c,.int .i64 i] w (K4 w (λe:{e:Nat // nH S i e}=> .int .i64 (e.1:Nat)) λ_ _=>True):=by
 have z:=f.n8;obtain⟨N,q,p⟩:=f.get hi;refine uf func69 rfl<|ZR<|YB 5 ((i:Int)+1) ((i+1:Nat):Int)<|uj (ι:={k:Nat // (i<k/\k<=S.nds.length)/\∀j,i<j->j<k->Ch S j>Ch S i}) 28 (λk=>⟨[vS 0 (some ⟨gn,go,none⟩) S.nds.length c,vI 1 (i:Int),vI 4 0,vI 5 (k.1:Nat)],[]⟩) (λ_ _=>True) (λk=>S.nds.length-k.1) (⟨i+1,⟨Nat.lt_succ_self i,hi⟩,λj v y=>I⟩) O Zf Zt (λ_ _=>trivial) ?_
 rintro⟨k,⟨x,o⟩,t⟩ A
 by_cases g:k<S.nds.length
 case neg=>
  obtain rfl:k=S.nds.length:=I
  refine ZS 4<|YG 11 ((S.nds.length:Int)<(S.nds.length:Int)) I<|ZI false<|ug O<|ZR<|ZV (.int .i64 (S.nds.length:Nat)) (λl b h=>⟨⟨S.nds.length,x,AH _,t,λh=>absurd h (Nat.lt_irrefl _)⟩,rfl,b,Zv⟩)
 obtain⟨M,r,s⟩:=f.get g;refine ZS 4<|YE 11 (((k:Nat):Int)<(S.nds.length:Int)) I<|ZB 7 (Kd 24 (.slice (some ⟨gn,go,none⟩) S.nds.length c) k) (.pointer (some ⟨gn,go+k*47,none⟩)) (λl b h=>Li g)<|ZB 9 (Ke 3 ⟨gn,go+k*47+2,none⟩) (.int .i64 M.dep) (λl b h=>Kh O (L5 b (f.cell (j:=2) s rfl)))<|ZB 12 (Kd 24 (.slice (some ⟨gn,go,none⟩) S.nds.length c) i) (.pointer (some ⟨gn,go+i*47,none⟩)) (λl b h=>Li hi)<|ZB 14 (Ke 3 ⟨gn,go+i*47+2,none⟩) (.int .i64 N.dep) (λl b h=>Kh O (L5 b (f.cell (j:=2) p rfl))) ?_
 by_cases m:M.dep>N.dep
 .refine YJ (M.dep>N.dep) m<|YB 5 ((k:Int)+1) ((k+1:Nat):Int)<|ui (⟨k+1,⟨by omega,g⟩,λj v y=>(Nat.lt_succ_iff_lt_or_eq.1 y).elim (t j v) λe=>by subst e;rw[f.dep s,f.dep p];exact m⟩) O Zn Zt (λ_ _=>trivial)
 .refine YK (M.dep>N.dep) m<|ug O<|ZR<|ZV (.int .i64 (k:Nat)) (λl b h=>⟨⟨k,x,o,t,λ_=>by rw[f.dep s,f.dep p];exact m⟩,rfl,b,Zv⟩)
abbrev rG(P:List Nat->Prop):=(YZ)×{ks:List Nat // P ks}
theorem If{wI:Int}{P:List Nat->Prop}(l:Py w S gn go c nl)(D:(wI= -1/\P (Zq S 0 S.nds.length 0))\/∃i:Nat,wI=i/\i<S.nds.length/\∀e,nH S i e->P (Zq S (i+1) e (Ch S i+1)))(W:N0<=w.heap.size):
 Ca 54 #[Sb S gn go c,.int .i64 wI] w (K4 w (λz:rG P=> .slice z.1.1 z.2.1.length z.1.2) λz u=>K6 u N0 3 1 z.1.1 z.2.1.length z.1.2 (z.2.1.flatMap aV)):=by
 have h8:=l.n8;rcases D with ⟨D,t⟩|⟨i,D,hi,t⟩
 case' inl=>
  subst D;obtain⟨ia,x⟩:∃ia:Nat,ia=0:=⟨_,rfl⟩
  obtain⟨ib,R⟩:∃ib:Nat,ib=S.nds.length:=⟨_,rfl⟩
  obtain⟨d,E⟩:∃d:Int,d=0:=⟨_,rfl⟩
  rw[<-R,<-E,<-x]at t;have B:ia<=ib/\ib<=S.nds.length:=I
  refine uf func54 rfl<|ZR<|ZC (λm f h=>WI (l.below f)) λv=>ZI false<|ZI false<|uh 5 (.int .i64 0) (.int .i64 d) O (by rw[E])<|uh 7 (.int .i64 (S.nds.length:Int)) (.int .i64 (ib:Int)) O (by rw[R])<|uh 9 (.int .i64 0) (.int .i64 (ia:Int)) O (by rw[x];rfl) ?_
 case' inr=>
  subst D;obtain⟨N,q,K⟩:=l.get hi;have J:=(l.ndk K).dep;have wJ:=l.dep K;refine uf func54 rfl<|ZR<|ZT 11 (.bool ((i:Int) != -1)) (.bool true) (by rw[bne_iff_ne.2 I])<|ZC (λm f h=>lU (l.below f) hi) λhh=>ZC (λm f h=>WI (l.below f)) λv=>ZI false<|YL ((i:Int)>=0)<|ZB 3 (Kd 24 (.slice (some ⟨gn,go,none⟩) S.nds.length c) i) (.pointer (some ⟨gn,go+i*47,none⟩)) (λm f h=>Li hi)<|ZB 5 (Ke 3 ⟨gn,go+i*47+2,none⟩) (.int .i64 N.dep) (λm f h=>Kh O (L5 f (l.cell (j:=2) K rfl)))<|ZC (λm f h=>q9 (l.below f) hi) λe=> ?_
  obtain⟨ib,o⟩:=e;obtain⟨ia,x⟩:∃ia:Nat,ia=i+1:=⟨_,rfl⟩
  obtain⟨d,E⟩:∃d:Int,d=N.dep+1:=⟨_,rfl⟩
  replace t:=t ib o;rw[wJ,<-E,<-x]at t;have B:ia<=ib/\ib<=S.nds.length:=by have:=o.lt;have:=o.le;omega
  refine uh 5 (.int .i64 (XQ.wrap (N.dep+1))) (.int .i64 d) O (by rw[tm J,E])<|uh 9 (.int .i64 (XQ.wrap ((i:Int)+1))) (.int .i64 (ia:Int)) O (by rw[AQ _ I,x];rfl) ?_
 all_goals
  refine uh 8 (.slice none 0 0) (.slice none (Zq S ia ia d).length 0) O (by rw[UE];rfl)<|uj (ι:={s:Nat×(YZ) // ia<=s.1/\s.1<=ib}) 60 (λs=>⟨[(2,.p 2 0),vS 4 none 0 0,vI 5 d,vI 7 (ib:Int),vS 8 s.1.2.1 (Zq S ia s.1.1 d).length s.1.2.2,vI 9 (s.1.1:Int)],[(2,(W0 S gn go c).map .v)]⟩) (λs u=>K6 u w.heap.size 3 1 s.1.2.1 (Zq S ia s.1.1 d).length s.1.2.2 ((Zq S ia s.1.1 d).flatMap aV)) (λs=>ib-s.1.1) (⟨(ia,(none,0)),AH _,B.1⟩) O Zf Zt (λ_ _=>by rw[UE];exact uG) ?_
  rintro⟨⟨k,z⟩,H,A⟩ gg;have H:ia<=k:=H;have A:k<=ib:=A;have U:=Gg (S:=S) (ia:=ia) (ib:=k) (d:=d)
  by_cases y:k<ib
  case neg=>
   obtain rfl:k=ib:=I
   refine ZR<|YN ((k:Int)<(k:Int))<|ug O<|ZR<|ZV (.slice z.1 (Zq S ia k d).length z.2) (λm f h=>⟨(z,⟨Zq S ia k d,t⟩),rfl,f,λu Q k2=>(h u Q k2).rebase λb X=>AO W ((h u Q k2).lt b X).1⟩)
  obtain⟨M,r,T⟩:=l.get (i:=k) I;have g:=ez (S:=S) (d:=d) H;rw[l.dep T]at g;refine ZR<|YL ((k:Int)<(ib:Int))<|ZA (Kd 24 (.slice (some ⟨gn,go,none⟩) S.nds.length c) k) (.pointer (some ⟨gn,go+k*47,none⟩)) (λm f h=>Li I)<|ZA (Ke 3 ⟨gn,go+k*47+2,none⟩) (.int .i64 M.dep) (λm f h=>Kh O (L5 f (l.cell (j:=2) T rfl))) ?_
  by_cases F:M.dep=d
  case neg=>
   rw[YT F]at g;refine ZJ (M.dep==d) false (YR.2 F)<|YB 9 ((k:Int)+1) ((k+1:Nat):Int)<|uh 8 (.slice z.1 (Zq S ia k d).length z.2) (.slice z.1 (Zq S ia (k+1) d).length z.2) O (by rw[g])<|ui (⟨(k+1,z),Zn,y⟩) O Zn Zt (λu h=>by show K6 u w.heap.size 3 1 z.1 (Zq S ia (k+1) d).length z.2 ((Zq S ia (k+1) d).flatMap aV);rw[g];exact h)
  rw[YS F]at g;refine ul (M.dep==d) true O (YQ.2 F)<|ZS 2<|uk (Lr 58 1 #[(0,.int .i64 (k:Int))]) (Kr 1) (Kw 3 (aV k).toArray) O (λm f h=>Kj O) λgb=>ZS 3<|uA (L:=bl z.1) (val:=λz':YZ=> .slice z'.1 ((Zq S ia k d).length+1) z'.2) (Φ':=λz' u=>K6 u w.heap.size 3 1 z'.1 ((Zq S ia k d).length+1) z'.2 ((Zq S ia k d++ [k]).flatMap aV)) (G:=λz' u=>K6 u w.heap.size 3 1 z'.1 ((Zq S ia k d).length+1) z'.2 ((Zq S ia k d++ [k]).flatMap aV)) (My 58 58 (.slice z.1 (Zq S ia k d).length z.2) (Kr 1 gb)) (λm f h=>U9 (z0:= .int .i64 0) (bytes:=8) O O rfl Zd Zd rfl (λv Z=>by obtain rfl:=AA.1 Z;rfl) h.1 f.size h.2 I) (λu h=>h.1.blk) (λz' wa u e1 e2 h Y=>Y) O O λz'=>ZR<|YB 9 ((k:Int)+1) ((k+1:Nat):Int)<|uh 8 (.slice z'.1 ((Zq S ia k d).length+1) z'.2) (.slice z'.1 (Zq S ia (k+1) d).length z'.2) O (by rw[g,AB];rfl)<|ui (⟨(k+1,z'),Zn,y⟩) O Zn Zt (λu h=>by show K6 u w.heap.size 3 1 z'.1 (Zq S ia (k+1) d).length z'.2 ((Zq S ia (k+1) d).flatMap aV);rw[g,AB];exact h)
end
def JW(fn:Func)(σ:AS):Option ((Nat×XX)×(Nat×XX)):=
 match fn.results.toList with
 | [.cell t ty,.cell t2 ty2]=>match σ.tmps.getD t (.v undef),σ.tmps.getD t2 (.v undef)with
  | .v (.pointer (some ⟨g,0,none⟩)),.v (.pointer (some ⟨b,0,none⟩))=>some ((g,ty),(b,ty2))
  |_,_=>none
 |_=>none
theorem EK{P:YH}{Δ:List XY}{W:YM}{Φ:YM->Prop}{fn:Func}{σ:AS}{β:Nat->Nat}{a:Act}{w c:YM}{g p:Nat}{ty e:XX}{v o:YI}(b:JW fn σ=some ((g,ty),(p,e)))(s:Ok Δ W β σ Φ a w)
 (u:(loadVar ty ⟨g,0,none⟩).run P c= .ok v c) (A:(loadVar e ⟨p,0,none⟩).run P c= .ok o c):(results fn a.tmps).run P c= .ok (.tuple #[v,o]) c:=by
 unfold JW at b;split at b
 .rename_i t x m l f;split at b
  .rename_i B k z y;simp only[CL,BV]at b;obtain⟨⟨rfl,rfl⟩,rfl,rfl⟩:=b;have j:a.tmps.getD t undef= .pointer (some ⟨B,0,none⟩):=by
    have:=s.eval (.tmp t);simp only[Act.eval,AS.eval,z,AV.conc]at this;exact this
   have h:a.tmps.getD m undef= .pointer (some ⟨k,0,none⟩):=by
    have:=s.eval (.tmp m);simp only[Act.eval,AS.eval,y,AV.conc]at this;exact this
   rw[Tk,AL,Array.mapM_eq_mapM_toList,Sem.run_map,f,CQ,AL];simp only[Xz,j,h,asAddr,AL,AX,AK,u,A,List.mapM_nil,CQ]
   rfl
  .cases b
 .cases b
section
variable{P:YH}{W:YM}{Φ:YM->Prop}{c:Mm}{fn:Func}{R:XS->YM->Prop}{fv:Fn}{cap dargs:Array YI}{f:XU}{args:Array YI}
def Dk(c:Mm):Bool:=match c.foc,c.k with| .out .ret,[]=>true|_,_=>false
theorem vl(g s:Nat)(ty j:XX)(m:Dk c=true)(z:JW fn c.st=some ((g,ty),(s,j)))(hi:∀w,(invoke (.fn fv cap) dargs).run P w= .ok (.enter f args) w)
 (h:∀w,Below W.heap.size W w->Φ w->CallsD P f args .returning w λe u b=>u= .returning/\∃x v o,e= .returned x/\(loadVar ty ⟨g,0,none⟩).run P b= .ok v b/\(loadVar j ⟨s,0,none⟩).run P b= .ok o b/\R (.returned (.tuple #[v,o])) b):
 K0 P [⟨.fn fv cap,dargs⟩] W (bodyPostD P fn R) Φ c:=by
 obtain⟨B,k,σ⟩:=c;refine⟨?_⟩;unfold Dk at m;split at m
 .rename_i p t;simp only at p t;subst p;subst t;intro E β a w l;show Leaves P fn a.tmps R a.defers .returning w;rw[l.defers];refine leaves_cons Zs (hi w) ((h w l.bel l.phi).mono λe F b A=> ?_);obtain⟨rfl,x,v,o,rfl,D,k2,y⟩:=A;exact⟨_,EK z l D k2,y⟩
 .cases m
end
section
variable{w W:YM}{ge go:Nat}{v:YI}{z:Int}
theorem Nj{P:YH}{t:XX}{g:Nat}{v:YI}{w:YM}(c:Nx P t=some false)(h:K8 w g [v]):(loadVar t ⟨g,0,none⟩).run P w= .ok v w:=by
 have b:=h.load1 c;simp only[Ke,AL,Instr.loadAt,Instr.sureAddr,AX,AK]at b;generalize (loadVar t ⟨g,0,none⟩).run P w=r at b ⊢;cases r with
 |ok x e=>simp only[AK,Result.ok.injEq,Next.value.injEq]at b;rw[b.1,b.2]
 |_=>cases b
theorem hT(c:Below W.heap.size W w)(j:K8 w ge [.int .i64 0]):CallsD XM 225 #[Kp ge,Kp go] .returning w (λe k f=>k= .returning/\(e= .returned (.tuple #[])/\Below W.heap.size W f/\cn W w f)):=by
 refine u0 func225 rfl c<|ZR<|ZA (Ke 34 ⟨ge,0,none⟩) (.int .i64 0) (λg b h=>(j.bel (B3 c b h)).load1 O)<|ZI false<|ZV (.tuple #[]) (λg b h=>⟨rfl,b,h g (AH _) λ_ _ _=>rfl⟩)
theorem TE(m:Below W.heap.size W w)(k:K8 w ge [.int .i64 z])(o:z≠0)(f:Kg w go 132 [v])(lo:W.heap.size<=go)(le:W.heap.size<=ge)(g:ge≠go):CallsD XM 225 #[Kp ge,Kp go] .returning w (λe t l=>t= .returning/\(e= .returned (.tuple #[])/\Below W.heap.size W l/\Kg l go 132 [.slice none 0 0]/\K8 l ge [.int .i64 z])):=by
 refine u0 func225 rfl m<|ZR<|ZA (Ke 34 ⟨ge,0,none⟩) (.int .i64 z) (λj c h=>(k.bel (B3 m c h)).load1 O)<|ZJ (z !=0) true (bne_iff_ne.2 o)<|ur (L:=[go]) (G:=λu=>Kg u go 132 [.slice none 0 0]) (Φ':=λu=>Kg u go 132 [.slice none 0 0]/\K8 u ge [.int .i64 z]) (Om 132 ⟨go,0,none⟩ (.slice none 0 0)) (λj c h=>(f.to (h.2 go lo f.lt)).store O rfl (λv b=>by have b:v∈[BB none 0 0]:=b;have b:=AA.1 b;subst b;rfl)) (λu h=>Za ⟨lo,(f.to (h.2 _ lo f.lt)).own⟩) (λx u y s h p=>⟨p,(k.toW (h.2 ge le k.ltW)).toW (s ge (by simpa using g)).symm⟩) O O<|ZR<|ZV (.tuple #[]) (λj c h=>⟨rfl,c,h j (AH _) λ_ _ _=>rfl⟩)
end
section
variable{w u:YM}{A:YY}{n c N K:Nat}{ls:List Sg}{t:TV}{T:N7}
theorem Z6:∀(ls:List Sg) (L:List (List Pt×Bool)),(Nu L ls).1.length<=L.length+ls.length
 | [],L=>AH _
 | s ::t,L=>by
  rw[Nu];split
  .have:=Z6 t (L++ [([(s.ax,s.ay)],false)]);simp at this ⊢;omega
  .split
   .simp
   .split
    .rename_i x b e;have:=Z6 t (L.dropLast++ [(OH x.1,true)]);simp at this ⊢;omega
    .split
     .rename_i x b e f;have:=Z6 t (L.dropLast++ [(putL x.1 (O5 (x.1.getLast?.getD (0,0)) s).1,x.2)]);simp at this ⊢;omega
     .simp
theorem JU:∀{l:List Nat} {x:Nat},x∈l->x<=l.sum
 | [],_,h=>by cases h
 |y::l,x,h=>by
  rw[List.sum_cons];rcases BG.1 h with rfl|b
  .omega
  .have:=JU b;omega
theorem FA(ls:List Sg):(Oa ls).1.length<=ls.length/\∀x∈(Oa ls).1,x.1.length<=4096:=by
 unfold Oa;split
 .split
  .exact⟨AD _,by intro x b;cases b⟩
  .rename_i h;exact⟨by have:=Z6 ls [];simpa using this,λx b=>by have e:x.1.length<=N9 (Nu [] ls).1:=JU (BI.2 ⟨x,b,rfl⟩);omega⟩
 .exact⟨AD _,by intro x b;cases b⟩
theorem On.out{f:YM}{B m j:Nat}{y:YZ}{H:List LQ}{cs:List YI}(h:On B y m H f)(l:Kg f j 34 cs)(k:∀b,b∉[j]->f.heap[b]? =u.heap[b]?):On B y m H u:=
 ⟨h.own.left k λb e g=>l.ne h.own Zd b e (by simpa using g),λx e=>(h.ring x e).left k λb o g=>l.ne (h.ring x e) Zd b o (by simpa using g),h.apt⟩
theorem eb{L:List LP}{e:Int}{r:List (List Pt)}(h:Q7 T ls=(r,e)){y:YZ}:Ending.returned (Value.tuple #[.slice y.1 L.length y.2,.int .i64 e])= .returned (.tuple #[.slice y.1 L.length y.2,.int .i64 (Q7 T ls).2]):=by rw[h]
theorem oq(ht:S3 t T K w)(hK:8<=K/\K<=10000)(hs:Sa w A n ls)(j:(Ff ls).1=0)(hN:N<=w.heap.size):
 Ca 170 #[.slice A n c,t.val,.int .i64 32] w (K4 w (λq:(YZ)×{L:List LP // K5 L=(Q7 T ls).1}=> .tuple #[.slice q.1.1 q.2.1.length q.1.2,.int .i64 (Q7 T ls).2]) λq u=>Kf N q.1 q.2.1.length q.2.1 u):=by
 refine vv func170 rfl (Below.refl _ _)<|ZS 1<|uk (Vz 132) (Kp) (λg u=>Kg u g 132 [.slice none 0 0]/\w.heap.size<=g/\g∉[]) O (λp o h=>Ny (z:= .slice none 0 0) O o.size Zs) λgo=>ZS 2<|uk (Vz 34) (Kp) (λg u=>Kg u g 34 [.int .i64 0]/\w.heap.size<=g/\g∉[]) O (λp o h=>Ny (z:= .int .i64 0) O o.size Zs) λm=>ZR<|vw ⟨.fn (.func 225) #[Kp m,Kp go],#[]⟩ O O<|ZR ?_
 by_cases M:Nn T ls=0
 case neg=>
  have wJ:Q7 T ls=([],Nn T ls):=by unfold Q7;rw[YT M]
  have R:∀p,S3 t T K p->Sa p A n ls->Ca 226 #[.slice A n c,t.val] p (CU p (.tuple #[.slice none 0 0,.int .i64 (Nn T ls)])):=λp h1 h2=>by
   refine(UK h1 hK h2 j (AH _)).mono λe w' k=> ?_
   obtain⟨y,W,k2,_⟩:=k;exact⟨(),W.trans (congrArg Ending.returned (aY (y:=y) rfl M).symm),k2,Zv⟩
  refine ZC (λp o h=>R p (ht.below o) (hs.below o)) λtr=>ur (L:=[m]) (G:=λu=>Kg u m 34 [.int .i64 (Nn T ls)]) (Φ':=λu=>(Kg u go 132 [.slice none 0 0]/\w.heap.size<=go)/\Kg u m 34 [.int .i64 (Nn T ls)]/\w.heap.size<=m) (Om 34 ⟨m,0,none⟩ (.int .i64 (Nn T ls))) (λp o h=>h.1.2.1.store O rfl (λv j=>by have j:v∈[BH .i64 (Nn T ls)]:=j;have j:=AA.1 j;subst j;rfl)) (λu h=>Za ⟨h.1.2.2.1,h.1.2.1.own⟩) (λwI u J B h F=>⟨⟨h.1.1.2.1.left B (λl=>h.1.1.2.1.ne2 h.1.2.1 Zd (by simpa using l)),h.1.1.2.2.1⟩,F,h.1.2.2.1⟩) O O<|ZR<|ZA (Ke 34 ⟨m,0,none⟩) (.int .i64 (Nn T ls)) (λp o h=>h.2.1.load1 O)<|ZJ (Nn T ls !=0) true (bne_iff_ne.2 M)<|vl (f:=225) (args:= #[Kp m,Kp go]) go m 132 34 O O (λp=>rfl) λp o h=>(TE o ⟨_,h.2.1⟩ M h.1.1 h.1.2 h.2.2 (λl=>h.1.1.ne2 h.2.1 Zd l.symm)).mono λe u' w' Y=> ?_
  obtain⟨rfl,rfl,s,Q,S⟩:=Y;exact⟨rfl,_,_,_,rfl,Nj O ⟨_,Q⟩,Nj O S,((none,0),⟨[],by rw[wJ];rfl⟩),eb (L:=[]) (y:=(none,0)) wJ,s,λu W k2=>ux⟩
 have R:∀p,Below w.heap.size w p->Ca 226 #[.slice A n c,t.val] p (K4 p (λy:YZ=> .tuple #[.slice y.1 n y.2,.int .i64 0]) λy u=>K6 u w.heap.size 87 7 y.1 n y.2 ((ls.map (Q8 T)).flatMap Sg.cl)):=λp o=>by
  refine(UK (ht.below o) hK (hs.below o) j o.size).mono λe w' k=> ?_
  obtain⟨y,W,k2,k3⟩:=k;exact⟨y,W.trans (congrArg Ending.returned (dx (y:=y) M).symm),k2,λu j1 j2=>k3 u j1 j2 M⟩
 refine ZC (λp o h=>R p o) λtr=>ur (L:=[m]) (G:=λu=>Kg u m 34 [.int .i64 0]) (Φ':=λu=>((Kg u go 132 [.slice none 0 0]/\w.heap.size<=go)/\Kg u m 34 [.int .i64 0]/\w.heap.size<=m)/\K6 u w.heap.size 87 7 tr.1 n tr.2 ((ls.map (Q8 T)).flatMap Sg.cl)) (Om 34 ⟨m,0,none⟩ (.int .i64 0)) (λp o h=>h.1.2.1.store O rfl (λv j=>by have j:v∈[BH .i64 0]:=j;have j:=AA.1 j;subst j;rfl)) (λu h=>Za ⟨h.1.2.2.1,h.1.2.1.own⟩) (λwI u J B h F=>⟨⟨⟨h.1.1.2.1.left B (λl=>h.1.1.2.1.ne2 h.1.2.1 Zd (by simpa using l)),h.1.1.2.2.1⟩,F,h.1.2.2.1⟩,h.2.left B (λb s l=>h.1.2.1.ne h.2 Zd b s (by simpa using l))⟩) O O<|ZR<|ZA (Ke 34 ⟨m,0,none⟩) (.int .i64 0) (λp o h=>h.1.2.1.load1 O)<|ZI false<|ZC (λp o h=>cG (c:=tr.2) (N:=w.heap.size) (ls:=ls.map (Q8 T)) (h.2.reads.rows (cl:=Sg.cl) (λ_=>rfl) (by rw[AZ];exact hs.1)) (oz j M) o.size) λpl=> ?_
 obtain⟨X,H,hH⟩:=pl;obtain⟨E,hE⟩:∃E,E=(Oa (ls.map (Q8 T))).2:=⟨_,rfl⟩
 have Z:=FA (ls.map (Q8 T));have hHl:H.length<=256:=by have h1:=congrArg List.length hH;unfold Sr at h1;rw[AZ]at h1;have h2:=Z.1;rw[AZ]at h2;have:=Vw j;omega
 have P:∀x∈H,x.1.1.length<=1000000:=λx D=>by
  have:=Z.2 (x.1.1,x.2) (by rw[<-hH];exact BI.2 ⟨x,D,rfl⟩);have h2:x.1.1.length<=4096:=this;omega
 refine ur (L:=[m]) (G:=λu=>Kg u m 34 [.int .i64 (Oa (ls.map (Q8 T))).2]) (Φ':=λu=>((Kg u go 132 [.slice none 0 0]/\w.heap.size<=go)/\Kg u m 34 [.int .i64 (Oa (ls.map (Q8 T))).2]/\w.heap.size<=m)/\On w.heap.size X H.length H u) (Om 34 ⟨m,0,none⟩ (.int .i64 (Oa (ls.map (Q8 T))).2)) (λp o h=>h.1.1.2.1.store O rfl (λv j=>by have j:v∈[BH .i64 (Oa (ls.map (Q8 T))).2]:=j;have j:=AA.1 j;subst j;rfl)) (λu h=>Za ⟨h.1.1.2.2,h.1.1.2.1.own⟩) (λwI u J B h F=>⟨⟨⟨h.1.1.1.1.left B (λl=>h.1.1.1.1.ne2 h.1.1.2.1 Zd (by simpa using l)),h.1.1.1.2⟩,F,h.1.1.2.2⟩,h.2.out h.1.1.2.1 B⟩) O O ?_;rw[<-hE];refine uo O (stop:=1000) 3 _ ?_;have hpt:Sd H=(Oa (ls.map (Q8 T))).1.map (·.1):=by rw[<-hH];unfold Sd Sr;rw[CS];rfl
 refine v6 O O<|v8 (ι:=(YZ)×{L:List LP // K5 L=Qb (Sd H)}) (λi c=>⟨.out .normal,c.k,⟨((c.st.tmps.set 24 (.v (.slice X.1 H.length X.2))).set 25 (.v (.slice i.1.1 i.2.1.length i.1.2))).set 26 (.v (.int .i64 E)),c.st.box⟩⟩) (λi u=>((Kg u go 132 [.slice i.1.1 i.2.1.length i.1.2]/\w.heap.size<=go)/\Kg u m 34 [.int .i64 E]/\w.heap.size<=m)/\Kf w.heap.size i.1 i.2.1.length i.2.1 u) (λmeet=> ?_) (λi=> ?_)
 .refine .two 0 2 O ?_ ?_
  .refine .det O<|.two 1 2 O ?_ ?_
   .refine .call (val:=λq:(YZ)×{L:List LP // K5 L=Qb (Sd H)}=> .slice q.1.1 q.2.1.length q.1.2) (G:=λq u=>Kf w.heap.size q.1 q.2.1.length q.2.1 u) (λp o h=>HH (c:=X.2) (N:=w.heap.size) (h.2.lin rfl) I P o.size) O λi=> .two 2 3 O ?_ ?_
    .exact .ask (Ke 34 ⟨m,0,none⟩) (.int .i64 E) O (λp o h=>h.1.1.2.1.load1 O)<|.one 3 O<|.store (L:=[go]) (G:=λu=>Kg u go 132 [.slice i.1.1 i.2.1.length i.1.2]) (Φ':=(λu=>((Kg u go 132 [.slice i.1.1 i.2.1.length i.1.2]/\w.heap.size<=go)/\Kg u m 34 [.int .i64 E]/\w.heap.size<=m)/\Kf w.heap.size i.1 i.2.1.length i.2.1 u)) (Om 132 ⟨go,0,none⟩ (.slice i.1.1 i.2.1.length i.1.2)) O (λp o h=>h.1.1.1.1.store O rfl (λv j=>by have j:v∈[BB i.1.1 i.2.1.length i.1.2]:=j;have j:=AA.1 j;subst j;rfl)) (λu h=>Za ⟨h.1.1.1.2,h.1.1.1.1.own⟩) (λwI u J B h F=>⟨⟨⟨F,h.1.1.1.2⟩,h.1.1.2.1.left B (λl=>h.1.1.1.1.ne2 h.1.1.2.1 Zd (AA.1 l).symm),h.1.1.2.2⟩,h.2.own.left B (λb s l=>h.1.1.1.1.ne h.2.own Zd b s (by simpa using l)),λx D=>(h.2.ring x D).left B (λb s l=>h.1.1.1.1.ne (h.2.ring x D) Zd b s (by simpa using l))⟩)<|.one 4 O<|.store (L:=[m]) (G:=λu=>Kg u m 34 [.int .i64 E]) (Φ':=(λu=>((Kg u go 132 [.slice i.1.1 i.2.1.length i.1.2]/\w.heap.size<=go)/\Kg u m 34 [.int .i64 E]/\w.heap.size<=m)/\Kf w.heap.size i.1 i.2.1.length i.2.1 u)) (Om 34 ⟨m,0,none⟩ (.int .i64 E)) O (λp o h=>h.1.2.1.store O rfl (λv j=>by have j:v∈[BH .i64 E]:=j;have j:=AA.1 j;subst j;rfl)) (λu h=>Za ⟨h.1.2.2,h.1.2.1.own⟩) (λwI u J B h F=>⟨⟨⟨h.1.1.1.left B (λl=>h.1.1.1.ne2 h.1.2.1 Zd (by simpa using l)),h.1.1.2⟩,F,h.1.2.2⟩,h.2.own.left B (λb s l=>h.1.2.1.ne h.2.own Zd b s (by simpa using l)),λx D=>(h.2.ring x D).left B (λb s l=>h.1.2.1.ne (h.2.ring x D) Zd b s (by simpa using l))⟩)<|.done O ((meet i).eq O)
    .exact .store (L:=[go]) (G:=λu=>Kg u go 132 [.slice i.1.1 i.2.1.length i.1.2]) (Φ':=(λu=>((Kg u go 132 [.slice i.1.1 i.2.1.length i.1.2]/\w.heap.size<=go)/\Kg u m 34 [.int .i64 E]/\w.heap.size<=m)/\Kf w.heap.size i.1 i.2.1.length i.2.1 u)) (Om 132 ⟨go,0,none⟩ (.slice i.1.1 i.2.1.length i.1.2)) O (λp o h=>h.1.1.1.1.store O rfl (λv j=>by have j:v∈[BB i.1.1 i.2.1.length i.1.2]:=j;have j:=AA.1 j;subst j;rfl)) (λu h=>Za ⟨h.1.1.1.2,h.1.1.1.1.own⟩) (λwI u J B h F=>⟨⟨⟨F,h.1.1.1.2⟩,h.1.1.2.1.left B (λl=>h.1.1.1.1.ne2 h.1.1.2.1 Zd (AA.1 l).symm),h.1.1.2.2⟩,h.2.own.left B (λb s l=>h.1.1.1.1.ne h.2.own Zd b s (by simpa using l)),λx D=>(h.2.ring x D).left B (λb s l=>h.1.1.1.1.ne (h.2.ring x D) Zd b s (by simpa using l))⟩)<|.one 2 O<|.ask (Ke 34 ⟨m,0,none⟩) (.int .i64 E) O (λp o h=>h.1.2.1.load1 O)<|.one 4 O<|.store (L:=[m]) (G:=λu=>Kg u m 34 [.int .i64 E]) (Φ':=(λu=>((Kg u go 132 [.slice i.1.1 i.2.1.length i.1.2]/\w.heap.size<=go)/\Kg u m 34 [.int .i64 E]/\w.heap.size<=m)/\Kf w.heap.size i.1 i.2.1.length i.2.1 u)) (Om 34 ⟨m,0,none⟩ (.int .i64 E)) O (λp o h=>h.1.2.1.store O rfl (λv j=>by have j:v∈[BH .i64 E]:=j;have j:=AA.1 j;subst j;rfl)) (λu h=>Za ⟨h.1.2.2,h.1.2.1.own⟩) (λwI u J B h F=>⟨⟨⟨h.1.1.1.left B (λl=>h.1.1.1.ne2 h.1.2.1 Zd (by simpa using l)),h.1.1.2⟩,F,h.1.2.2⟩,h.2.own.left B (λb s l=>h.1.2.1.ne h.2.own Zd b s (by simpa using l)),λx D=>(h.2.ring x D).left B (λb s l=>h.1.2.1.ne (h.2.ring x D) Zd b s (by simpa using l))⟩)<|.done O ((meet i).eq O)
   .exact .ask (Ke 34 ⟨m,0,none⟩) (.int .i64 E) O (λp o h=>h.1.2.1.load1 O)<|.one 1 O<|.call (val:=λq:(YZ)×{L:List LP // K5 L=Qb (Sd H)}=> .slice q.1.1 q.2.1.length q.1.2) (G:=λq u=>Kf w.heap.size q.1 q.2.1.length q.2.1 u) (λp o h=>HH (c:=X.2) (N:=w.heap.size) (h.2.lin rfl) I P o.size) O λi=> .one 3 O<|.store (L:=[go]) (G:=λu=>Kg u go 132 [.slice i.1.1 i.2.1.length i.1.2]) (Φ':=(λu=>((Kg u go 132 [.slice i.1.1 i.2.1.length i.1.2]/\w.heap.size<=go)/\Kg u m 34 [.int .i64 E]/\w.heap.size<=m)/\Kf w.heap.size i.1 i.2.1.length i.2.1 u)) (Om 132 ⟨go,0,none⟩ (.slice i.1.1 i.2.1.length i.1.2)) O (λp o h=>h.1.1.1.1.store O rfl (λv j=>by have j:v∈[BB i.1.1 i.2.1.length i.1.2]:=j;have j:=AA.1 j;subst j;rfl)) (λu h=>Za ⟨h.1.1.1.2,h.1.1.1.1.own⟩) (λwI u J B h F=>⟨⟨⟨F,h.1.1.1.2⟩,h.1.1.2.1.left B (λl=>h.1.1.1.1.ne2 h.1.1.2.1 Zd (AA.1 l).symm),h.1.1.2.2⟩,h.2.own.left B (λb s l=>h.1.1.1.1.ne h.2.own Zd b s (by simpa using l)),λx D=>(h.2.ring x D).left B (λb s l=>h.1.1.1.1.ne (h.2.ring x D) Zd b s (by simpa using l))⟩)<|.one 4 O<|.store (L:=[m]) (G:=λu=>Kg u m 34 [.int .i64 E]) (Φ':=(λu=>((Kg u go 132 [.slice i.1.1 i.2.1.length i.1.2]/\w.heap.size<=go)/\Kg u m 34 [.int .i64 E]/\w.heap.size<=m)/\Kf w.heap.size i.1 i.2.1.length i.2.1 u)) (Om 34 ⟨m,0,none⟩ (.int .i64 E)) O (λp o h=>h.1.2.1.store O rfl (λv j=>by have j:v∈[BH .i64 E]:=j;have j:=AA.1 j;subst j;rfl)) (λu h=>Za ⟨h.1.2.2,h.1.2.1.own⟩) (λwI u J B h F=>⟨⟨⟨h.1.1.1.left B (λl=>h.1.1.1.ne2 h.1.2.1 Zd (by simpa using l)),h.1.1.2⟩,F,h.1.2.2⟩,h.2.own.left B (λb s l=>h.1.2.1.ne h.2.own Zd b s (by simpa using l)),λx D=>(h.2.ring x D).left B (λb s l=>h.1.2.1.ne (h.2.ring x D) Zd b s (by simpa using l))⟩)<|.done O ((meet i).eq O)
  .exact .ask (Ke 34 ⟨m,0,none⟩) (.int .i64 E) O (λp o h=>h.1.2.1.load1 O)<|.one 0 O<|.det O<|.one 1 O<|.call (val:=λq:(YZ)×{L:List LP // K5 L=Qb (Sd H)}=> .slice q.1.1 q.2.1.length q.1.2) (G:=λq u=>Kf w.heap.size q.1 q.2.1.length q.2.1 u) (λp o h=>HH (c:=X.2) (N:=w.heap.size) (h.2.lin rfl) I P o.size) O λi=> .one 3 O<|.store (L:=[go]) (G:=λu=>Kg u go 132 [.slice i.1.1 i.2.1.length i.1.2]) (Φ':=(λu=>((Kg u go 132 [.slice i.1.1 i.2.1.length i.1.2]/\w.heap.size<=go)/\Kg u m 34 [.int .i64 E]/\w.heap.size<=m)/\Kf w.heap.size i.1 i.2.1.length i.2.1 u)) (Om 132 ⟨go,0,none⟩ (.slice i.1.1 i.2.1.length i.1.2)) O (λp o h=>h.1.1.1.1.store O rfl (λv j=>by have j:v∈[BB i.1.1 i.2.1.length i.1.2]:=j;have j:=AA.1 j;subst j;rfl)) (λu h=>Za ⟨h.1.1.1.2,h.1.1.1.1.own⟩) (λwI u J B h F=>⟨⟨⟨F,h.1.1.1.2⟩,h.1.1.2.1.left B (λl=>h.1.1.1.1.ne2 h.1.1.2.1 Zd (AA.1 l).symm),h.1.1.2.2⟩,h.2.own.left B (λb s l=>h.1.1.1.1.ne h.2.own Zd b s (by simpa using l)),λx D=>(h.2.ring x D).left B (λb s l=>h.1.1.1.1.ne (h.2.ring x D) Zd b s (by simpa using l))⟩)<|.one 4 O<|.store (L:=[m]) (G:=λu=>Kg u m 34 [.int .i64 E]) (Φ':=(λu=>((Kg u go 132 [.slice i.1.1 i.2.1.length i.1.2]/\w.heap.size<=go)/\Kg u m 34 [.int .i64 E]/\w.heap.size<=m)/\Kf w.heap.size i.1 i.2.1.length i.2.1 u)) (Om 34 ⟨m,0,none⟩ (.int .i64 E)) O (λp o h=>h.1.2.1.store O rfl (λv j=>by have j:v∈[BH .i64 E]:=j;have j:=AA.1 j;subst j;rfl)) (λu h=>Za ⟨h.1.2.2,h.1.2.1.own⟩) (λwI u J B h F=>⟨⟨⟨h.1.1.1.left B (λl=>h.1.1.1.ne2 h.1.2.1 Zd (by simpa using l)),h.1.1.2⟩,F,h.1.2.2⟩,h.2.own.left B (λb s l=>h.1.2.1.ne h.2.own Zd b s (by simpa using l)),λx D=>(h.2.ring x D).left B (λb s l=>h.1.2.1.ne (h.2.ring x D) Zd b s (by simpa using l))⟩)<|.done O ((meet i).eq O)
 obtain⟨yp,L,hL⟩:=i;refine ZR<|vl (f:=225) (args:= #[Kp m,Kp go]) go m 132 34 O O (λp=>rfl) (λp o h=> ?_)
 by_cases h0:E=0
 .subst h0;have wJ:Q7 T ls=(Qb (Sd H),0):=by unfold Q7;rw[YS M,<-hE,YS rfl,hpt]
  refine(hT o ⟨_,h.1.2.1⟩).mono λe u' w' Y=> ?_
  obtain⟨rfl,rfl,s,U⟩:=Y;have hgo:=h.1.1.1.to (U.2 go h.1.1.2 h.1.1.1.lt);have hge:=h.1.2.1.to (U.2 m h.1.2.2 h.1.2.1.lt);exact⟨rfl,_,_,_,rfl,Nj O ⟨_,hgo⟩,Nj O ⟨_,hge⟩,(yp,⟨L,by rw[wJ,hL]⟩),eb (L:=L) (y:=yp) wJ,s,λu W k2=>(Kf.same (Kf.same h.2 U.2) λb b1 b2=>k2 b b1 (CH b2 (AH _))).mono hN⟩
 .have wJ:Q7 T ls=([],E):=by unfold Q7;rw[YS M,<-hE,YT h0]
  refine(TE o ⟨_,h.1.2.1⟩ h0 h.1.1.1 h.1.1.2 h.1.2.2 (λl=>h.1.1.1.ne2 h.1.2.1 Zd l.symm)).mono λe u' w' Y=> ?_
  obtain⟨rfl,rfl,s,Q,S⟩:=Y;exact⟨rfl,_,_,_,rfl,Nj O ⟨_,Q⟩,Nj O S,((none,0),⟨[],by rw[wJ];rfl⟩),eb (L:=[]) (y:=(none,0)) wJ,s,λu W k2=>ux⟩
end
def G0(s:Sg):Nat:=if s.v=3\/s.v=4 then 8 else 1
def M8(ls:List Sg):Nat:=(ls.map G0).sum
theorem iI(p:Pt)(s:Sg):(O5 p s).1.length<=8*G0 s:=by
 by_cases h:s.v=3\/s.v=4
 .have:=H8 p s;unfold G0;rw[YS h];omega
 .have b:s.v≠3:=λe=>h (.inl e)
  have c:s.v≠4:=λe=>h (.inr e)
  unfold O5 G0;rw[YT b,YT c,YT h];show 1<=8*1;decide
theorem Bi(L M:List (List Pt×Bool)):N9 (L++M)=N9 L+N9 M:=by unfold N9;rw[AF,List.sum_append]
theorem ZN{L:List (List Pt×Bool)}{x:List Pt×Bool}(h:L.getLast? =some x):N9 L=N9 L.dropLast+x.1.length:=by
 obtain⟨c,b⟩:=List.getLast?_eq_some_iff.1 h;subst b;rw[Bi,List.dropLast_concat];simp[N9]
theorem UT(P:List Pt):(OH P).length<=P.length:=by
 unfold OH;split
 .rw[List.length_dropLast];omega
 .exact AH _
theorem Z5:∀(ls:List Sg) (L:List (List Pt×Bool)),N9 (Nu L ls).1<=N9 L+8*M8 ls
 | [],L=>by unfold Nu M8;simp
 | s ::t,L=>by
  have e:M8 (s::t)=G0 s+M8 t:=by unfold M8;rw[BO,List.sum_cons]
  have g:1<=G0 s:=by unfold G0;split<;>decide
  have one:∀(P:List Pt) (b:Bool),N9 [(P,b)]=P.length:=λP b=>by simp[N9]
  rw[Nu,e];split
  .have:=Z5 t (L++ [([(s.ax,s.ay)],false)]);rw[Bi,one,List.length_singleton]at this;omega
  .split
   .show N9 []<=_;exact AD _
   .rename_i x c;have f:=ZN c;split
    .have:=Z5 t (L.dropLast++ [(OH x.1,true)]);rw[Bi,one]at this;have:=UT x.1;omega
    .split
     .have:=Z5 t (L.dropLast++ [(putL x.1 (O5 (x.1.getLast?.getD (0,0)) s).1,x.2)]);rw[Bi,one]at this;have:=Uk (O5 (x.1.getLast?.getD (0,0)) s).1 x.1;have:=iI (x.1.getLast?.getD (0,0)) s;omega
     .show N9 []<=_;exact AD _
theorem iN(T:N7)(ls:List Sg):M8 (ls.map (Q8 T))=M8 ls:=by
 unfold M8;rw[CS];congr 1;refine List.map_congr_left λs _=> ?_
 show G0 (Q8 T s)=G0 s;unfold G0;rw[JI]
theorem FB:∀(L:List (List Pt)),(Qb L).flatten.length<=L.flatten.length
 | []=>AH _
 |r::t=>by
  have:=FB t;unfold Qb at this ⊢;rw[List.filter_cons];split
  .rw[List.flatten_cons,List.flatten_cons,AB,AB];omega
  .rw[List.flatten_cons,AB];omega
theorem Wm:∀(L:List (List Pt×Bool)),(L.map (·.1)).flatten.length=N9 L
 | []=>rfl
 |x::t=>by
  rw[BO,List.flatten_cons,AB,Wm t];unfold N9;rw[BO,List.sum_cons]
theorem XL(T:N7)(ls:List Sg):(Q7 T ls).1.flatten.length<=8*M8 ls:=by
 unfold Q7;split
 .split
  .refine AO (FB _) ?_;rw[Wm];unfold Oa;split
   .split
    .show N9 []<=_;exact AD _
    .have:=Z5 (ls.map (Q8 T)) [];rw[iN]at this;show N9 (Nu [] (ls.map (Q8 T))).1<=_;have b:N9 []=0:=rfl;omega
   .show N9 []<=_;exact AD _
  .exact AD _
 .exact AD _
theorem Zg{T:N7}{ls:List Sg}(h:M8 ls<=24):(Q7 T ls).1.flatten.length<=192:=by
 have:=XL T ls;omega
theorem u_(t:TV):t.cl.length=24:=rfl
theorem TV.cl_one(t:TV):∀v∈t.cl,v.oneCell'=true:=List.all_eq_true.1 (show(t.cl.all λu=>u.oneCell')=true from by kernel_rfl)
def jr(S:Sc)(Ts:List N7):Prop:=∀T∈Ts,∃N∈S.nds,T=N.T
abbrev tD(S:Sc):={Ts:List N7 // jr S Ts}
def SM(b:Bool)(T:N7)(ls:List Sg):List (List Pt):=if b=true then(Q7 T ls).1 else []
abbrev X_(Ts:List N7):Bool:=Mn Ts==0
theorem NY(Ts:List N7):Mn Ts=0\/Mn Ts=5:=by unfold Mn;split;exact .inl rfl;exact .inr rfl
theorem LJ(Ts:List N7){k:Int}(h:k≠0/\k≠5):(Mn Ts==k)=false:=YR.2 λe=>(NY Ts).elim (λc=>h.1 (by rw[<-e,c])) (λb=>h.2 (by rw[<-e,b]))
section
variable{w u:YM}{S:Sc}{gn go c i N0 n:Nat}{nl:List (Nd×ND)}{N:Nd}{q:ND}{T:N7}{t:TV}{K:Nat}{A:YY}{ls:List Sg}{b:Bool}
theorem ra{j:Nat}{v:YI}(e:q.t.cl[j]? =some v):(Es N q)[3+j]? =some v:=by
 have f:j<24:=(BX.1 e).1;unfold Es;rw[BU Zs,List.getElem?_append_left (by simp;exact f)];simpa using e
theorem Py.ldT(f:Py w S gn go c nl)(e:nl[i]? =some (N,q)):(Ke 55 ⟨gn,go+i*47+3,none⟩).run XM w= .ok (.value q.t.val) w:=
 Ka (vs:=q.t.cl) O O λj v g=>by have:=f.cell e (ra g);rwa [<-Nat.add_assoc]at this
theorem kg{L:List TV}{Ts:List N7}{z:YZ}{B:Nat}(h:K6 u B 55 24 z.1 n z.2 (L.flatMap TV.cl))(e:L.length=n)(g:Ts.length=n)(f:∀(k:Nat) (t:TV) (T:N7),L[k]? =some t->Ts[k]? =some T->S3 t T K u):kN u z.1 n L Ts K:=
 ⟨e,g,(h.reads.rows (cl:=TV.cl) (l:=L) u_ e).2,f⟩
theorem ry(B:Py w S gn go c nl)(hi:i<S.nds.length):Ca 105 #[Sb S gn go c,.int .i64 i] w (K4 w (λr:TV×tD S=> .tuple #[r.1.val,.int .i64 (Mn r.2.1)]) λr u=>Fi r.1 (Mn r.2.1) (O2 r.2.1) 8 u):=by
 have h8:=B.n8;refine uf func105 rfl<|ZR<|ZC (λf e h=>WI (B.below e)) λv=>uu false O<|ZS 2<|YG 12 ((i:Int)<0) I<|YN ((i:Int)>=(S.nds.length:Int))<|uj (ι:={s:(Int×Nat)×(YZ)×List (Nd×ND) // (s.1.1= -1\/∃k:Nat,s.1.1=k/\k<S.nds.length)/\(s.1.2:Int)+s.1.1<=i/\s.2.2.length=s.1.2/\∀x∈s.2.2,x∈nl}) 39 (λs=>⟨[vI 1 s.1.1.1,(2,.p 2 0),(4,.p 4 0),vI 5 0,vS 6 s.1.2.1.1 s.1.1.2 s.1.2.1.2],[(2,(W0 S gn go c).map .v),(4,OE.cl.map .v)]⟩) (λs u=>K6 u w.heap.size 55 24 s.1.2.1.1 s.1.1.2 s.1.2.1.2 ((s.1.2.2.map λx=>x.2.t).flatMap TV.cl)) (λs=>(s.1.1.1+1).toNat) (⟨(((i:Int),0),(none,0),[]),.inr ⟨i,rfl,hi⟩,Zn,rfl,λx l=>absurd l CN⟩) O Zf Zt (λ_ _=>uG) ?_
 rintro⟨⟨⟨p,m⟩,z,Ms⟩,D,Q,F,g⟩ gg;have D:p= -1\/∃k:Nat,p=k/\k<S.nds.length:=D;have Q:(m:Int)+p<=i:=Q;have F:Ms.length=m:=F;rcases D with D|⟨k,D,H⟩
 .subst D;refine ZR<|ZI false<|ug O<|ZR ?_
  have M:jr S (Ms.map λx=>x.1.T):=λT U=>by
   obtain⟨x,l,rfl⟩:=BI.1 U;exact⟨x.1,by rw[<-B.row.eq];exact List.mem_map_of_mem (g x l),rfl⟩
  have wI:∀(f:YM),Below w.heap.size w f->∀(j:Nat) (t:TV) (T:N7),(Ms.map λx=>x.2.t)[j]? =some t->(Ms.map λx=>x.1.T)[j]? =some T->S3 t T 8 f:=λf P j t T o y=>by
   rw[BJ]at o y;obtain⟨x,l,rfl⟩:=BN.1 o;rw[l]at y;injection y with y;subst y;exact(B.row.rd x (g x (AI l))).tr.below P
  have J:(Ms.map λx=>x.2.t).length=m:=by rw[AZ];exact F
  have wJ:(Ms.map λx=>x.1.T).length=m:=by rw[AZ];exact F
  have Y:m<=9:=I
  refine ZC (λf e h=>Zj (n:=m) (L:=Ms.map λx=>x.2.t) (Ts:=Ms.map λx=>x.1.T) (c:=z.2) (K:=8) (kg (n:=m) (z:=z) h J wJ (wI f e)) I Zd) λr=>ZV (.tuple #[r.val,.int .i64 (Mn (Ms.map λx=>x.1.T))]) (λf e h=>⟨(r,⟨Ms.map λx=>x.1.T,M⟩),rfl,e,λu R k2=>(h u R k2).2⟩)
 subst D;obtain⟨N,q,l⟩:=B.get H;refine ZR<|YL ((k:Int)>=0)<|ZA (Kd 24 (.slice (some ⟨gn,go,none⟩) S.nds.length c) k) (.pointer (some ⟨gn,go+k*47,none⟩)) (λf e h=>Li H)<|uw (Ke 55 ⟨gn,go+k*47+3,none⟩) (q.t.val) O (λf e h=>(B.below e).ldT l)<|ZS 7<|uk (Lr 225 1 #[(0,q.t.val)]) (Kr 1) (Kw 55 q.t.cl.toArray) O (λf e h=>Kj O) λX=>ZS 8<|uA (L:=bl z.1) (val:=λz':YZ=> .slice z'.1 (m+1) z'.2) (Φ':=λz' u=>K6 u w.heap.size 55 24 z'.1 (m+1) z'.2 (((Ms.map λx=>x.2.t)++ [q.t]).flatMap TV.cl)) (G:=λz' u=>K6 u w.heap.size 55 24 z'.1 (m+1) z'.2 (((Ms.map λx=>x.2.t)++ [q.t]).flatMap TV.cl)) (My 225 225 (.slice z.1 m z.2) (Kr 1 X)) (λf e h=>U9 (z0:=OE.val) (bytes:=384) O O rfl Zd Zd (u_ _) q.t.cl_one h.1 e.size h.2 I) (λu h=>h.1.blk) (λz' Z u e1 e2 h W=>W) O O λz'=>ZR<|ZC (λf e h=>du (B.below e) H) λE=>ui (⟨((E.1,m+1),z',Ms++ [(N,q)]),E.2.imp id (λ⟨j,o,y⟩=>⟨j,o,by omega⟩),by show((m+1:Nat):Int)+E.1<=i;rcases E.2 with o|⟨j,o,y⟩<;>omega,by show(Ms++ [(N,q)]).length=m+1;rw[AB,F];rfl,OI g (AI l)⟩) O (by show(E.1+1).toNat<((k:Int)+1).toNat;rcases E.2 with o|⟨j,o,y⟩<;>omega) Zt (λu h=>by show K6 u _ _ _ _ _ _ (((Ms++ [(N,q)]).map λx=>x.2.t).flatMap TV.cl);rw[AF];exact h.1)
theorem Ix(f:Py w S gn go c nl)(j:nl[i]? =some (N,q)):Ca 121 #[Sb S gn go c,.int .i64 i] w (K4 w (λr:TV×tD S=> .agg (r.1.cl++([Value.bool (X_ r.2.1)]++Es N q)).toArray) λr u=>Fi r.1 (Mn r.2.1) (O2 r.2.1) 8 u):=by
 have k:=(f.at_ j).2.1;refine uf func121 rfl<|ZR<|ZD 2 (λg e h=>ry (f.below e) k) λr=>uh 14 (.bool (Mn r.2.1==18)) (.bool false) O (by rw[LJ r.2.1 Zd])<|ZS 5<|ZT 17 (.bool (Mn r.2.1==8)) (.bool false) (by rw[LJ r.2.1 Zd])<|ZI false<|ZB 7 (Kd 24 (.slice (some ⟨gn,go,none⟩) S.nds.length c) i) (.pointer (some ⟨gn,go+i*47,none⟩)) (λg e h=>Li k)<|ZB 8 (Ke 64 ⟨gn,go+i*47,none⟩) (GE N q) (λg e h=>(f.below e).ld j)<|ZV (.agg (r.1.cl++([Value.bool (X_ r.2.1)]++Es N q)).toArray) (λg e h=>⟨r,rfl,e,λu l k2=>(h u l k2).2⟩)
theorem WX{T:N7}{ls:List Sg}(h:(Q7 T ls).2≠0):(Q7 T ls).1=[]:=by
 unfold Q7 at h ⊢;split
 .rename_i f;rw[YS f]at h;split
  .rename_i e;rw[YS e]at h;exact absurd rfl h
  .rfl
 .rfl
abbrev Cy(P:List (List Pt)->Prop):=(YZ)×{H:List LP // P (K5 H)}
theorem JZ{cc:Nat}{P:List (List Pt)->Prop}(p:b=true->S3 t T K w)(D:8<=K/\K<=10000)(z:Sa w A n ls)(B:(Ff ls).1=0)(l:P (SM b T ls))(y:N0<=w.heap.size):
 Ca 122 #[.agg (t.cl++ [Value.bool b]).toArray,.slice A n cc] w (K4 w (λx:Cy P=> .slice x.1.1 x.2.1.length x.1.2) λx u=>Kf N0 x.1 x.2.1.length x.2.1 u):=by
 unfold SM at l;cases b
 .refine uf func122 rfl<|ZR<|ZI true<|ZV (.slice none 0 0) (λg j h=>⟨((none,0),⟨[],l⟩),rfl,j,λu o k2=>ux⟩)
 rw[YS rfl]at l;have p:=p rfl;obtain⟨e,s⟩:∃e,(Q7 T ls).2=e:=⟨_,rfl⟩
 have v:∀g,Below w.heap.size w g->Ca 170 #[.slice A n cc,t.val,.int .i64 32] g (K4 g (λx:(YZ)×{H:List LP // K5 H=(Q7 T ls).1}=> .tuple #[.slice x.1.1 x.2.1.length x.1.2,.int .i64 e]) λx u=>Kf w.heap.size x.1 x.2.1.length x.2.1 u):=λg k=>by
  have:=oq (c:=cc) (N:=w.heap.size) (p.below k) D (z.below k) B k.size;rw[s]at this;exact this
 refine uf func122 rfl<|ZR<|ZI false<|ZC (λg j h=>v g j) λf=> ?_
 by_cases m:e=0
 .refine ZJ (e !=0) false (by rw[m];rfl)<|ZV (.slice f.1.1 f.2.1.length f.1.2) (λg j h=>⟨(f.1,⟨f.2.1,by rw[f.2.2];exact l⟩),rfl,j,λu o k2=>Kf.mono (h u o k2).2 y⟩)
 .refine ZJ (e !=0) true (bne_iff_ne.2 m)<|ZV (.slice none 0 0) (λg j h=>⟨((none,0),⟨[],by have:=WX (T:=T) (ls:=ls) (by rw[s];exact m);rw[this]at l;exact l⟩),rfl,j,λu o k2=>ux⟩)
end
structure mh(R:Rc)(K:Nat->Prop)(rule:Int)(L:List (List Pt)):Prop where
 few:L.flatten.length<=600
 cov:∀x y,R.In x y->K (E8 L rule x y)
theorem MY{rule x y:Int}:E8 [] rule x y=0:=by unfold E8;split;exact lu;rfl
theorem mh.nil{R:Rc}{K:Nat->Prop}{rule:Int}(h:K 0):mh R K rule []:=⟨by decide,λx y _=>by rw[MY];exact h⟩
structure eM(S:Sc)(R:Rc)(N:Nd)(K:Nat->Prop):Prop where
 none:N.clip=[]->K 255
 some:N.clip≠[]->∀Ts,jr S Ts->mh R K N.crule (SM (X_ Ts) (O2 Ts) N.clip)
structure pL(S:Sc)(R:Rc)(N:Nd)(K:Nat->Prop):Prop where
 none:N.fill=[]->K 0
 some:N.fill≠[]->∀Ts,jr S Ts->mh R K N.frule (SM (X_ Ts) (O2 Ts) N.path)
theorem IP{H:List LP}:∀x∈H,x.1.length<=(K5 H).flatten.length:=λx b=>by
 rw[List.length_flatten];exact JU (BI.2 ⟨x.1,BI.2 ⟨x,b,rfl⟩,rfl⟩)
section
variable{w u:YM}{R:Rc}{S:Sc}{gn go c i N0 n g1 g2 g3:Nat}{nl:List (Nd×ND)}{N:Nd}{q:ND}{x y rule:Int}{A:YY}{H:List LP}{K K1 K2 K3:Nat->Prop}{P:List (List Pt)->Prop}{F:XU}{caps:List YI}
theorem NX{cc:Nat}(l:O4 R)(p:Nw w A n H)(o:n<=1000000)(g:mh R K rule (K5 H))(h:rule=1\/rule=2)(s:N0<=w.heap.size):
 Ca 120 #[.slice A n cc,.int .i64 rule,R.V] w (K4 w (λb:MV×Int=> .tuple #[Le b.1,.int .i64 b.2]) λb u=>Qf N0 R K b.1 u):=by
 have z:=g.few;have t:∀x∈H,x.1.length<=1000000:=λx v=>by have:=IP (H:=H) x v;omega
 cases k:vL 0 (K5 H)
 .refine(cz (c:=cc) (rule:=rule) p o t k).mono λe B f=> ?_
  obtain⟨_,j,k2,_⟩:=f;exact⟨(T9,12),j,k2,λu _ _=> .nil (by have:=g.cov _ _ l.in0;unfold E8 at this;rwa [YT (by rw[k];decide)]at this) rfl⟩
 .refine(bM (c:=cc) (K:=K) l p o k z h g.cov s).mono λe B f=> ?_
  obtain⟨m,j,k2,D⟩:=f;exact⟨(m,0),j,k2,D⟩
theorem HD(g:O4 R)(B:Nw w A H.length H)(z:H.length<=1000000)(p:mh R K rule (K5 H))(j:H≠[]->rule=1\/rule=2)(o:N0<=w.heap.size):
 Ca 74 #[.slice A H.length n,.int .i64 rule,R.V] w (K4 w (λm:MV=>Le m) λm u=>Qf N0 R K m u):=by
 by_cases t:H.length=0
 .obtain rfl:H=[]:=BD.1 t;have v:K 0:=by have:=p.cov _ _ g.in0;rwa [show K5 []=[]from rfl,MY]at this
  refine uf func74 rfl<|ZR<|ZI true<|ZC (λl b h=>Db (k:=0) (K:=K) (N:=w.heap.size) g ⟨by decide,v⟩ b.size) λm=>ZV (Le m) (λl b h=>⟨m,rfl,b,λu f k2=>Qf.mono (h u f k2).2 o⟩)
 .refine uf func74 rfl<|ZR<|ZJ ((H.length:Int)==0) false (YR.2 I)<|ZC (λl b h=>NX (cc:=n) (N0:=w.heap.size) g (B.below b) z p (j λe=>t (by rw[e];rfl)) b.size) λs=>ZV (Le s.1) (λl b h=>⟨s.1,rfl,b,λu f k2=>Qf.mono (h u f k2).2 o⟩)
theorem kK(l:Py w S gn go c nl)(k:nl[i]? =some (N,q))(m:N.kind≠2\/N.fill=[]->P [])(p:N.kind=2->N.fill≠[]->∀Ts,jr S Ts->P (SM (X_ Ts) (O2 Ts) N.path))(s:N0<=w.heap.size):
 Ca 118 #[Sb S gn go c,.int .i64 i] w (K4 w (λx:Cy P=> .slice x.1.1 x.2.1.length x.1.2) λx u=>Kf N0 x.1 x.2.1.length x.2.1 u):=by
 have o:=l.ndk k;refine uf func118 rfl<|ZR<|ZD 4 (λj b h=>Ix (l.below b) k) λr=>uo O (stop:=1000) 1 _<|ZS 4 ?_
 by_cases e:N.kind=2
 case neg=>
  refine ZT 12 (.bool (N.kind !=2)) (.bool true) (by rw[bne_iff_ne.2 e])<|ZI true<|ZV (.slice none 0 0) (λj b h=>⟨((none,0),⟨[],m (.inl e)⟩),rfl,b,λ_ _ _=>ux⟩)
 refine ZT 12 (.bool (N.kind !=2)) (.bool false) (by rw[e];rfl) ?_
 by_cases g:N.fill=[]
 .refine ZJ ((N.fill.length:Int)==0) true (by rw[g];rfl)<|ZV (.slice none 0 0) (λj b h=>⟨((none,0),⟨[],m (.inr g)⟩),rfl,b,λ_ _ _=>ux⟩)
 refine ZJ ((N.fill.length:Int)==0) false (YR.2 (by have:=AY.2 g;omega))<|ZC (λj b h=>JZ (cc:=q.pac) (P:=P) (T:=O2 r.2.1) (K:=8) (N0:=w.heap.size) (λt=>(h.2.n (by simpa[X_]using t)).q) Zd ((l.at_ k).2.2.pa.below b) (o.pa e).1 (p e g _ r.2.2) b.size) λf=>ZV (.slice f.1.1 f.2.1.length f.1.2) (λj b h=>⟨f,rfl,b,λu v k2=>Kf.mono (h u v k2).2 s⟩)
theorem eA(e:Py w S gn go c nl)(b:nl[i]? =some (N,q))(g:N.clip=[]):Ca 215 #[Sb S gn go c,.int .i64 i] w (CU w (.tuple #[.slice none 0 0,.bool false])):=uf func215 rfl<|ZR<|ZC (λj f h=>Ix (e.below f) b) λr=>ZJ ((N.clip.length:Int)==0) true (by rw[g];rfl)<|ZW (.tuple #[.slice none 0 0,.bool false])
theorem i9(g:Py w S gn go c nl)(e:nl[i]? =some (N,q))(p:N.clip≠[])(o:∀Ts,jr S Ts->P (SM (X_ Ts) (O2 Ts) N.clip))(l:N0<=w.heap.size):Ca 215 #[Sb S gn go c,.int .i64 i] w (K4 w (λx:Cy P=> .tuple #[.slice x.1.1 x.2.1.length x.1.2,.bool true]) λx u=>Kf N0 x.1 x.2.1.length x.2.1 u):=by
 refine uf func215 rfl<|ZR<|ZC (λj b h=>Ix (g.below b) e) λr=>ZJ ((N.clip.length:Int)==0) false (YR.2 (by have:=AY.2 p;omega))<|ZC (λj b h=>JZ (cc:=q.clc) (P:=P) (T:=O2 r.2.1) (K:=8) (N0:=w.heap.size) (λm=>(h.2.n (by simpa[X_]using m)).q) Zd ((g.at_ e).2.2.cl.below b) (g.ndk e).cl (o _ r.2.2) b.size) λf=>ZV (.tuple #[.slice f.1.1 f.2.1.length f.1.2,.bool true]) (λj b h=>⟨f,rfl,b,λu k k2=>Kf.mono (h u k k2).2 l⟩)
theorem Uy{Hs:List LP}(h:∀r∈K5 Hs,1<=r.length):Hs.length<=(K5 Hs).flatten.length:=by
 induction Hs with
 |nil=>exact AH _
 |cons x t e=>
  have g:=h x.1 (BF ..);have f:=e λr b=>h r (BC _ b)
  show t.length+1<=(x.1::K5 t).flatten.length;rw[List.flatten_cons,AB];omega
def kA(P:List (List Pt)->Prop)(L:List (List Pt)):Prop:=P L/\∀r∈L,1<=r.length
theorem cD{T:N7}{ls:List Sg}:∀r∈(Q7 T ls).1,1<=r.length:=by
 unfold Q7;split
 .split
  .intro r b;unfold Qb at b;have:=YP (List.mem_filter.1 b).2;omega
  .nofun
 .nofun
theorem RM{b:Bool}{T:N7}{ls:List Sg}(h:P (SM b T ls)):kA P (SM b T ls):=⟨h,by
 unfold SM;split
 .exact cD
 .nofun⟩
theorem ob(v:O4 R)(l:Py w S gn go c nl)(g:nl[i]? =some (N,q))(B:eM S R N K)(b1:K8 w g1 (W0 S gn go c))(b2:K8 w g2 R.C)(D:N0<=w.heap.size):
 Ca 214 #[.int .i64 i,Kp g1,Kp g2] w (K4 w (λm:MV=>Le m) λm u=>Qf N0 R K m u):=by
 have J:=(l.at_ g).2.1
 by_cases f:N.clip=[]
 .refine uf func214 rfl<|ZR<|ZA (Ke 26 ⟨g1,0,none⟩) (Sb S gn go c) (λe b h=>Ka (vs:=W0 S gn go c) O O (b1.below b).range)<|ZC (λe b h=>eA (l.below b) g f) λG=>ZI true<|ZA (Ke 30 ⟨g2,0,none⟩) (R.V) (λe b h=>Ka (vs:=R.C) O O (b2.below b).range)<|ZC (λe b h=>Db (k:=255) (K:=K) (N:=w.heap.size) v ⟨by decide,B.none f⟩ b.size) λm=>ZV (Le m) (λe b h=>⟨m,rfl,b,λu t k2=>Qf.mono (h u t k2).2 D⟩)
 have s:=(l.ndk g).cr.resolve_left (by have:=AY.2 f;omega);refine uf func214 rfl<|ZR<|ZA (Ke 26 ⟨g1,0,none⟩) (Sb S gn go c) (λe b h=>Ka (vs:=W0 S gn go c) O O (b1.below b).range)<|ZC (λe b h=>i9 (P:=kA (mh R K N.crule)) (N0:=w.heap.size) (l.below b) g f (λTs p=>RM (B.some f Ts p)) b.size) λG=> ?_
 obtain⟨z,H,E,o⟩:=G;refine ZI false<|ZB 2 (Ke 24 ⟨g1,6,none⟩) (.slice (some ⟨gn,go,none⟩) S.nds.length c) (λe b h=>Kh O (by have:=(b1.below b).range 6 _ rfl;simpa using this))<|ZB 4 (Kd 24 (.slice (some ⟨gn,go,none⟩) S.nds.length c) i) (.pointer (some ⟨gn,go+i*47,none⟩)) (λe b h=>Li J)<|ZB 6 (Ke 3 ⟨gn,go+i*47+28,none⟩) (.int .i64 N.crule) (λe b h=>Kh O (L5 b (l.cell (j:=28) g rfl)))<|ZB 7 (Ke 30 ⟨g2,0,none⟩) (R.V) (λe b h=>Ka (vs:=R.C) O O (b2.below b).range)<|ZC (λe b h=>NX (cc:=z.2) (N0:=w.heap.size) v h.2.polyA (by show H.length<=1000000;have:=Uy o;have:=E.few;omega) E s b.size) λZ=>ZV (Le Z.1) (λe b h=>⟨Z.1,rfl,b,λu t k2=>Qf.mono (h u t k2).2 D⟩)
theorem pk(b:O4 R)(g:Py w S gn go c nl)(hi:i<S.nds.length):Ca 159 #[Sb S gn go c,.int .i64 i,R.V] w (CU w (.int .i64 0)):=by
 have j:=b.n;exact uf func159 rfl<|ZR<|ZD 2 (λf e h=>WI (g.below e)) λv=>uo O (stop:=1000) 2 _<|ZR<|uu false O<|ZS 2<|YG 13 ((i:Int)<0) I<|YN ((i:Int)>=(S.nds.length:Int))<|ZC (λf e h=>Sz b.r.in_) λk=>ZI false<|ZC (λf e h=>Y5 b) λa=>YN ((R.n:Int)>65536)<|ZW (.int .i64 0)
theorem q6:Ca 160 #[Sb S gn go c,R.V] w (K4 w (λp:Nat×Nat=> .func (.func 214) #[] #[Kp p.1,Kp p.2]) λp u=>K8 u p.1 (W0 S gn go c)/\K8 u p.2 R.C):=by
 refine uf func160 rfl<|ZS 2<|uq 2 (W0 S gn go c) O O λg1 f=>uq 3 R.C O O λg2 e=>ZR<|ZV (.func (.func 214) #[] #[Kp g1,Kp g2]) (λj g h=>⟨(g1,g2),rfl,g,λu b k2=>⟨(h u b k2).1.2,(h u b k2).2⟩⟩)
theorem Gd(k:O4 R)(e:Py w S gn go c nl)(j:nl[i]? =some (N,q))(t:eM S R N K)(p:N0<=w.heap.size):Ca 110 #[Sb S gn go c,.int .i64 i,R.V] w (K4 w (λm:MV=> .tuple #[Le m,.int .i64 0]) λm u=>Qf N0 R K m u):=by
 have s:=(e.at_ j).2.1;refine uf func110 rfl<|ZR<|ZC (λg b h=>pk k (e.below b) s) λf=>ZI false<|ZC (λg b h=>q6 (S:=S) (gn:=gn) (go:=go) (c:=c) (R:=R)) λo=>ZC (λg b h=>ob (N0:=w.heap.size) k (e.below b) j t h.2.1 h.2.2 b.size) λm=>ZV (.tuple #[Le m,.int .i64 0]) (λg b h=>⟨m,rfl,b,λu l k2=>Qf.mono (h u l k2).2 p⟩)
theorem eJ(B:O4 R)(k:Py w S gn go c nl)(g:nl[i]? =some (N,q))(t:N.kind=2)(s:pL S R N K)(D:N0<=w.heap.size):Ca 72 #[Sb S gn go c,.int .i64 i,R.V] w (K4 w (λm:MV=>Le m) λm u=>Qf N0 R K m u):=by
 have G:=(k.at_ g).2.1;refine uf func72 rfl<|ZR<|ZB 6 (Kd 24 (.slice (some ⟨gn,go,none⟩) S.nds.length c) i) (.pointer (some ⟨gn,go+i*47,none⟩)) (λf b h=>Li G)<|ZB 8 (Ke 3 ⟨gn,go+i*47+34,none⟩) (.int .i64 N.frule) (λf b h=>Kh O (L5 b (k.cell (j:=34) g rfl)))<|ZC (λf b h=>kK (P:=kA (mh R K N.frule)) (N0:=w.heap.size) (k.below b) g (λo=>⟨.nil (s.none (o.resolve_left λe=>e t)),nofun⟩) (λ_ o Ts p=>RM (s.some o Ts p)) b.size) λE=> ?_
 obtain⟨z,H,v,l⟩:=E;refine ZC (λf b h=>HD (n:=z.2) (N0:=w.heap.size) B h.2.polyA (by show H.length<=1000000;have:=Uy l;have:=v.few;omega) v (λ_=>((k.ndk g).pa t).2.1) b.size) λm=>ZV (Le m) (λf b h=>⟨m,rfl,b,λu J k2=>Qf.mono (h u J k2).2 D⟩)
theorem r4(l:O4 R)(o:Py w S gn go c nl)(f:nl[i]? =some (N,q))(j:N.kind=2)(p:pL S R N K)(b1:K8 w g1 (W0 S gn go c))(b2:K8 w g2 [.int .i64 (i:Int)])(s:K8 w g3 R.C)(k:N0<=w.heap.size):Ca 104 #[Kp g1,Kp g2,Kp g3] w (K4 w (λm:MV=>Le m) λm u=>Qf N0 R K m u):=by
 refine uf func104 rfl<|ZR<|ZA (Ke 26 ⟨g1,0,none⟩) (Sb S gn go c) (λe b h=>Ka (vs:=W0 S gn go c) O O (b1.below b).range)<|ZA (Ke 3 ⟨g2,0,none⟩) (.int .i64 i) (λe b h=>(b2.below b).load1 O)<|ZA (Ke 30 ⟨g3,0,none⟩) (R.V) (λe b h=>Ka (vs:=R.C) O O (s.below b).range)<|ZC (λe b h=>eJ (N0:=w.heap.size) l (o.below b) f j p b.size) λm=>ZV (Le m) (λe b h=>⟨m,rfl,b,λu g k2=>Qf.mono (h u g k2).2 k⟩)
theorem Kl(p:O4 R)(Z:Py w S gn go c nl)(E:nl[i]? =some (N,q))(B:eM S R N K2)(o:(F=104/\∃g g2 g3,caps=[Kp g,Kp g2,Kp g3])\/(F=108/\∃g g2 g3,caps=[Kp g,Kp g2,Kp g3])\/(F=79/\∃g g2,caps=[Kp g,Kp g2]))
 (z:∀e,Below w.heap.size w e->Ca F caps.toArray e (K4 e (λm:MV=>Le m) λm u=>Qf w.heap.size R K1 m u)) (J:∀a b,a<=255->b<=255->K1 a->K2 b->K3 (Al a b)) (D:N0<=w.heap.size):
 Ca 78 #[Sb S gn go c,.int .i64 i,R.V,.func (.func F) #[] caps.toArray] w (K4 w (λm:MV=> .tuple #[Le m,.int .i64 0]) λm u=>Qf N0 R K3 m u):=by
 obtain⟨FV,j⟩:∃FV,FV=Value.func (.func F) #[] caps.toArray:=⟨_,rfl⟩
 rw[<-j];rcases o with ⟨o,g,g2,g3,k⟩|⟨o,g,g2,g3,k⟩|⟨o,g,g2,k⟩<;>
 (
  have l:=z;rw[o,k]at l j;refine uf func78 rfl<|ZR<|ZC (λe f h=>Gd (N0:=w.heap.size) p (Z.below f) E B f.size) λt=>uu false O<|ZS 1<|ZT 23 FV _ j<|ZC (λe f h=>l e f) λs=>uk (Lr 243 2 #[(0,Le s),(1,Le t)]) (Kr 2) (Kw 110 ([s,t].flatMap Ob).toArray) O (λe f h=>Kj O) λL=>ZR<|ZC (λe f h=>RB (N:=w.heap.size) (K:=K3) p h.2 (h.1.2.a) (h.1.1.2.a) J f.size) λm=> ?_
  refine vu (v:= .tuple #[Le m,.int .i64 0]) O (λe f h=>⟨m,rfl,f,λu G k2=>Qf.mono (h u G k2).2 D⟩))
theorem UY(l:O4 R)(p:Py w S gn go c nl)(o:nl[i]? =some (N,q))(z:N.kind=2)(s:pL S R N K1)(t:eM S R N K2)(Z:∀a b,a<=255->b<=255->K1 a->K2 b->K3 (Al a b))(D:N0<=w.heap.size):Ca 63 #[Sb S gn go c,.int .i64 i,R.V] w (K4 w (λm:MV=> .tuple #[Le m,.int .i64 0]) λm u=>Qf N0 R K3 m u):=by
 refine uf func63 rfl<|ZR<|uy (val:=λm:MV=> .tuple #[Le m,.int .i64 0]) (G:=λm u=>Qf w.heap.size R K3 m u) (xs:=[.v (Sb S gn go c),.v (.int .i64 i),.v R.V,.f 104 [(3,0),(4,0),(5,0)]]) O (λβ B g h j=>Kl l (p.below g) o t (.inl ⟨rfl,_,_,_,rfl⟩) (λJ e=>r4 (K:=K1) l ((p.below g).below e) o z s (K8.below (Kz j (k:=3) (by simp[AV.ids]) (cs:=(W0 S gn go c).map .v) O) e) (K8.below (Kz j (k:=4) (by simp[AV.ids]) (cs:=[.v (.int .i64 (i:Int))]) O) e) (K8.below (Kz j (k:=5) (by simp[AV.ids]) (cs:=R.C.map .v) O) e) e.size) Z g.size) λm=>ZR<|ZV (.tuple #[Le m,.int .i64 0]) (λB g h=>⟨m,rfl,g,λu E k2=>Qf.mono (h u E k2).2 D⟩)
end
theorem K8.ne_of{u:YM}{g j:Nat}{cs b:List YI}(h:K8 u g cs)(f:K8 u j b)(k:cs≠b):g≠j:=λe=>by
 obtain⟨t,h⟩:=h;obtain⟨l,f⟩:=f;subst e;have c:(some (Obj.cells cs.toArray t (0,0)):Option Obj)=some (Obj.cells b.toArray l (0,0)):=h.symm.trans f;injection c with c;injection c with c;exact k (by have:=congrArg Array.toList c;simpa using this)
theorem JF:∀k,(aV k).length=1:=λ_=>rfl
theorem UW{P:YH}{t:XX}{w:YM}{g:Nat}{a b:YI}(h:K8 w g [a])(j:Mq P t=some 1:=by kernel_rfl)(f:b.cells= #[b]:=by rfl)(k:b.oneCell'=true:=by rfl):
 ∃e,(Om t ⟨g,0,none⟩ b).run P w= .ok .skip e/\Ei [g] w e/\∀c,e.heap.size<=c.heap.size->(∀x∈[g],c.heap[x]? =e.heap[x]?)->K8 c g [b]:=by
 have:=K8.store (P:=P) (t:=t) (v:=b) h j (by rw[f];rfl) (by rw[f];intro u l;obtain rfl:=AA.1 l;exact k);rw[f]at this;exact this
theorem Qo{f u:YM}{g j:Nat}{cs c:List YI}(h:K8 f g cs)(m:K8 f j c)(e:cs≠c)(k:∀b,b∉[j]->f.heap[b]? =u.heap[b]?):K8 u g cs:=by
 have:=h.ne_of m e;obtain⟨t,l⟩:=h;exact⟨t,by rw[<-k g (by simpa using this)];exact l⟩
abbrev pO(e b c:Nat):YI:= .func (.func 77) #[] #[Kp e,Kp b,Kp c]
abbrev sC(c b e:Nat):YI:= .func (.func 70) #[] #[Kp c,Kp b,Kp e]
structure mO(w:YM)(S:Sc)(gn go c:Nat)(nl:List (Nd×ND))(R:Rc)(g3 g5 g8 g9:Nat):Prop where
 s:Py w S gn go c nl
 b3:K8 w g3 (W0 S gn go c)
 b5:K8 w g5 R.C
 b8:K8 w g8 [pO g3 g5 g9]
 b9:K8 w g9 [sC g3 g5 g8]
theorem mO.below{w k:YM}{S:Sc}{gn go c:Nat}{nl:List (Nd×ND)}{R:Rc}{j e f g:Nat}(h:mO w S gn go c nl R j e f g)(b:Below w.heap.size w k):mO k S gn go c nl R j e f g:=⟨h.s.below b,h.b3.below b,h.b5.below b,h.b8.below b,h.b9.below b⟩
structure XF(S:Sc)(gn go c:Nat)(nl:List (Nd×ND))(R:Rc):Prop where
 st:∀(w:YM) (i N0:Nat) (N:Nd) (q:ND),Py w S gn go c nl->nl[i]? =some (N,q)->N.kind=2->N0<=w.heap.size->Ca 73 #[Sb S gn go c,.int .i64 i,R.V] w (K4 w (λm:MV=>Le m) λm u=>Qf N0 R Kb m u)
 im:∀(w:YM) (i N0:Nat) (N:Nd) (q:ND),Py w S gn go c nl->nl[i]? =some (N,q)->N.kind=3->N0<=w.heap.size->Ca 75 #[Sb S gn go c,.int .i64 i] w (K4 w (λx:Cy (kA λL=>L.flatten.length<=600)=> .slice x.1.1 x.2.1.length x.1.2) λx u=>Kf N0 x.1 x.2.1.length x.2.1 u)
 fi:∀N∈S.nds,pL S R N Kb
 cl:∀N∈S.nds,eM S R N Kb
section
variable{w u:YM}{R:Rc}{S:Sc}{gn go c i N0 n g3 g5 g8 g9 g4:Nat}{nl:List (Nd×ND)}{N:Nd}{q:ND}
def sG(S:Sc)(gn go c:Nat)(nl:List (Nd×ND))(R:Rc)(lo:Nat):Prop:=∀(w:YM) (i N0 g3 g5 g8 g9:Nat),lo<=i->i<S.nds.length->mO w S gn go c nl R g3 g5 g8 g9->N0<=w.heap.size->
 Ca 77 #[.int .i64 i,Kp g3,Kp g5,Kp g9] w (K4 w (λm:MV=> .tuple #[Le m,.int .i64 0]) λm u=>Qf N0 R Kb m u)
theorem mz(y:O4 R)(wI:XF S gn go c nl R)(hP:sG S gn go c nl R (i+1))(hi:i<S.nds.length)(l:mO w S gn go c nl R g3 g5 g8 g9)(L:N0<=w.heap.size):
 Ca 70 #[.int .i64 i,Kp g3,Kp g5,Kp g8] w (K4 w (λm:MV=>Le m) λm u=>Qf N0 R Kb m u):=by
 obtain⟨N,q,x⟩:=l.s.get hi;have nk:=l.s.ndk x;have A:=AI (l.s.at_ x).1;have h8:=l.s.n8;have F:∀{f:YM},Below w.heap.size w f->(Ke 26 ⟨g3,0,none⟩).run XM f= .ok (.value (Sb S gn go c)) f:=λb=>Ka (vs:=W0 S gn go c) O O (l.b3.below b).range
 have G:∀{f:YM},Below w.heap.size w f->(Ke 30 ⟨g5,0,none⟩).run XM f= .ok (.value R.V) f:=λb=>Ka (vs:=R.C) O O (l.b5.below b).range
 refine uf func70 rfl<|ZR<|ZA (Ke 24 ⟨g3,6,none⟩) (.slice (some ⟨gn,go,none⟩) S.nds.length c) (λf b h=>Kh O (by have:=(l.b3.below b).range 6 _ rfl;simpa using this))<|ZA (Kd 24 (.slice (some ⟨gn,go,none⟩) S.nds.length c) i) (.pointer (some ⟨gn,go+i*47,none⟩)) (λf b h=>Li hi)<|ZA (Ke 3 ⟨gn,go+i*47+1,none⟩) (.int .i64 N.kind) (λf b h=>Kh O (L5 b (l.s.cell (j:=1) x rfl))) ?_
 by_cases k2:N.kind=2
 .refine ZJ (N.kind==2) true (by rw[k2];rfl)<|ZB 0 (Ke 26 ⟨g3,0,none⟩) (Sb S gn go c) (λf b h=>F b)<|ZB 2 (Ke 30 ⟨g5,0,none⟩) (R.V) (λf b h=>G b)<|ZB 4 (Ke 26 ⟨g3,0,none⟩) (Sb S gn go c) (λf b h=>F b)<|ZB 6 (Ke 30 ⟨g5,0,none⟩) (R.V) (λf b h=>G b)<|ZC (λf b h=>eJ (K:=Kb) (N0:=w.heap.size) y (l.s.below b) x k2 (wI.fi N A) b.size) λm1=>ZC (λf b h=>wI.st f i w.heap.size N q (l.s.below b) x k2 b.size) λm2=>ZC (λf b h=>VB (K1:=Kb) (K2:=Kb) (N:=w.heap.size) y h.1.2.a h.2.a b.size) λm=>ZV (Le m) (λf b h=>⟨m,rfl,b,λu D k2=>Qf.mono (h u D k2).2 L⟩)
 refine ZJ (N.kind==2) false (YR.2 k2) ?_
 by_cases T:N.kind=3
 .refine ZJ (N.kind==3) true (by rw[T];rfl)<|ZB 0 (Ke 26 ⟨g3,0,none⟩) (Sb S gn go c) (λf b h=>F b)<|ZB 3 (Ke 30 ⟨g5,0,none⟩) (R.V) (λf b h=>G b)<|ZC (λf b h=>wI.im f i w.heap.size N q (l.s.below b) x T b.size) λcp=> ?_
  obtain⟨z,H,M,J⟩:=cp;refine ZC (λf b h=>HD (n:=z.2) (K:=Kb) (N0:=w.heap.size) y h.2.polyA (by show H.length<=1000000;have:=Uy J;omega) ⟨M,Zv⟩ (λ_=> .inl rfl) b.size) λm=>ZV (Le m) (λf b h=>⟨m,rfl,b,λu D k2=>Qf.mono (h u D k2).2 L⟩)
 refine ZJ (N.kind==3) false (YR.2 T)<|ZA (Ke 30 ⟨g5,0,none⟩) (R.V) (λf b h=>G b)<|ZC (λf b h=>Db (k:=0) (K:=Kb) (N:=w.heap.size) y ⟨by decide,trivial⟩ b.size) λY=>ZA (Ke 26 ⟨g3,0,none⟩) (Sb S gn go c) (λf b h=>F b)<|ZC (λf b h=>If (P:=λg=>g.length<=8/\∀k∈g,i+1<=k/\k<S.nds.length) (N0:=w.heap.size) (l.s.below b) (.inr ⟨i,rfl,hi,λe U=>⟨AO Gg (AO U.le h8),λk B=>⟨(Cp B).1,by have:=(Cp B).2;have:=U.le;omega⟩⟩⟩) b.size) λg=> ?_
 obtain⟨z,g,hk8,Q⟩:=g;refine uj (ι:={s:Nat×MV // s.1<=g.length}) 69 (λs=>⟨[vV 1 (Kp g3),vV 2 (Kp g5),vV 3 (Kp g8),(5,.p 5 0),(8,.p 8 0),vS 49 z.1 g.length z.2,vI 50 (g.length:Nat),vI 51 (s.1.1:Nat)],[(5,(Ob T9).map .v),(8,(Ob s.1.2).map .v)]⟩) (λs u=>K6 u w.heap.size 3 1 z.1 g.length z.2 (g.flatMap aV)/\Qf w.heap.size R Kb s.1.2 u) (λs=>g.length-s.1.1) (⟨(0,Y),AD _⟩) O Zf Zt (λu h=>⟨h.2,h.1.2⟩) ?_;rintro⟨⟨j,m⟩,W⟩ gg;have W:j<=g.length:=W
 by_cases o:j<g.length
 case neg=>
  obtain rfl:j=g.length:=I
  refine ZR<|YN ((g.length:Int)<(g.length:Int))<|ug O<|ZR<|ZV (Le m) (λf b h=>⟨m,rfl,b,λu D k2=>Qf.mono (h u D k2).2 L⟩)
 obtain⟨k,B⟩:∃v,g[j]? =some v:=⟨_,AC o⟩
 have E:=Q k (AI B);refine um (p:=∃gq,z.1=some ⟨gq,0,none⟩) (λf b h=>by obtain⟨gq,X,_⟩:=h.1.cells I;exact⟨gq,X⟩) O (λwJ=> ?_);obtain⟨gq,wJ⟩:=wJ;obtain⟨zA,Z⟩:=z;obtain rfl:zA=some ⟨gq,0,none⟩:=wJ;refine ZR<|YL ((j:Int)<(g.length:Int))<|ZA (Kd 58 (.slice (some ⟨gq,0,none⟩) g.length Z) j) (.pointer (some ⟨gq,j*1,none⟩)) (λf b h=>Kc (elem:=3) O O o)<|ZA (Ke 3 ⟨gq,j*1,none⟩) (.int .i64 (k:Int)) (λf b h=>Kh O (by obtain⟨_,e,t⟩:=h.1.cells I;injection e with e;injection e with e;subst e;exact t _ _ (Mr JF _ j k 0 _ B rfl)))<|ZA (Ke 128 ⟨g8,0,none⟩) (pO g3 g5 g9) (λf b h=>MB (l.b8.below b) O)<|ZC (λf b h=>hP f k w.heap.size g3 g5 g8 g9 E.1 E.2 (l.below b) b.size) λnm=>ZC (λf b h=>VB (K1:=Kb) (K2:=Kb) (N:=w.heap.size) y h.1.2.a h.2.a b.size) λmu=>YA 51 j o<|ui (⟨(j+1,mu),o⟩) O Zn Zt (λu h=>⟨h.1.1.1,h.2⟩)
theorem pp(l:O4 R)(p:XF S gn go c nl R)(o:sG S gn go c nl R (i+1))(hi:i<S.nds.length)(f:mO w S gn go c nl R g3 g5 g8 g9)(j:K8 w g4 [.int .i64 (i:Int)])(k:N0<=w.heap.size):
 Ca 79 #[Kp g9,Kp g4] w (K4 w (λm:MV=>Le m) λm u=>Qf N0 R Kb m u):=by
 refine uf func79 rfl<|ZR<|ZA (Ke 135 ⟨g9,0,none⟩) (sC g3 g5 g8) (λe b h=>MB (f.b9.below b) O)<|ZA (Ke 3 ⟨g4,0,none⟩) (.int .i64 (i:Int)) (λe b h=>MB (j.below b) O)<|ZC (λe b h=>mz (N0:=w.heap.size) l p o hi (f.below b) b.size) λm=>ZV (Le m) (λe b h=>⟨m,rfl,b,λu g k2=>Qf.mono (h u g k2).2 k⟩)
theorem qE(k:O4 R)(l:XF S gn go c nl R)(t:sG S gn go c nl R (i+1))(hi:i<S.nds.length)(f:mO w S gn go c nl R g3 g5 g8 g9)(p:N0<=w.heap.size):
 Ca 77 #[.int .i64 i,Kp g3,Kp g5,Kp g9] w (K4 w (λm:MV=> .tuple #[Le m,.int .i64 0]) λm u=>Qf N0 R Kb m u):=by
 obtain⟨N,q,o⟩:=f.s.get hi;have g:=AI (f.s.at_ o).1;refine uf func77 rfl<|ZS 0<|uo O (stop:=1000) 1 _<|uq 4 [.int .i64 (i:Int)] O O λg4 x=>ZR<|ZA (Ke 26 ⟨g3,0,none⟩) (Sb S gn go c) (λj b h=>Ka (vs:=W0 S gn go c) O O (f.b3.below b).range)<|ZA (Ke 3 ⟨g4,0,none⟩) (.int .i64 (i:Int)) (λj b h=>MB h.2 O)<|ZA (Ke 30 ⟨g5,0,none⟩) (R.V) (λj b h=>Ka (vs:=R.C) O O (f.b5.below b).range)<|ZC (λj b h=>Kl (K1:=Kb) (K2:=Kb) (K3:=Kb) (N0:=w.heap.size) (caps:=[Kp g9,Kp g4]) k (f.s.below b) o (l.cl N g) (.inr (.inr ⟨rfl,g9,g4,rfl⟩)) (λy e=>pp k l t hi ((f.below b).below e) (h.2.below e) e.size) (λ_ _ _ _ _ _=>trivial) b.size) λm=>ZV (.tuple #[Le m,.int .i64 0]) (λj b h=>⟨m,rfl,b,λu v k2=>Qf.mono (h u v k2).2 p⟩)
theorem SQ(f:O4 R)(g:XF S gn go c nl R):∀(d lo:Nat),S.nds.length<=lo+d->sG S gn go c nl R lo
 |0,lo,o=>λw i N0 g3 g5 g8 g9 h e=>absurd e I
 |d+1,lo,o=>λw i N0 g3 g5 g8 g9 h e j k=>qE f g (λm l N' a b c' d' p=>SQ f g d (lo+1) I m l N' a b c' d' I) e j k
theorem je(o:O4 R)(p:XF S gn go c nl R)(B:Py w S gn go c nl)(hi:i<S.nds.length)(s:N0<=w.heap.size):
 Ca 55 #[Sb S gn go c,.int .i64 i,R.V] w (K4 w (λm:MV=> .tuple #[Le m,.int .i64 0]) λm u=>Qf N0 R Kb m u):=by
 refine uf func55 rfl<|ZS 3<|uo O (stop:=1000) 10 _<|uq 3 (W0 S gn go c) O O λg3 x=>uq 5 R.C O O λg5 l=>uq 8 [.nilFunc] O O λg8 j=>uo O (stop:=1000) 7 _<|uq 9 [sC g3 g5 g8] O O λg9 D=>ZS 1<|ur (L:=[g8]) (G:=λu=>K8 u g8 [pO g3 g5 g9]) (Φ':=λu=>(K8 u g3 (W0 S gn go c)/\K8 u g5 R.C)/\(K8 u g8 [pO g3 g5 g9]/\K8 u g9 [sC g3 g5 g8])) (Om 128 ⟨g8,0,none⟩ (pO g3 g5 g9)) (λg f h=>UW h.1.2) (λu h b v=>by obtain rfl:=AA.1 v;obtain⟨t,z⟩:=h.1.2;exact⟨j,_,t,_,z⟩) (λE u F k h A=>⟨⟨Qo h.1.1.1.2 h.1.2 (by intro e;cases e) k,Qo h.1.1.2 h.1.2 (by intro e;cases e) k⟩,A,Qo h.2 h.1.2 (by intro e;cases e) k⟩) O O<|ZR<|ZA (Ke 128 ⟨g8,0,none⟩) (pO g3 g5 g9) (λg f h=>MB h.2.1 O)<|ZC (λg f h=>SQ o p S.nds.length 0 I g i w.heap.size g3 g5 g8 g9 (AD _) hi ⟨B.below f,h.1.1,h.1.2,h.2.1,h.2.2⟩ f.size) λm=>ZV (.tuple #[Le m,.int .i64 0]) (λg f h=>⟨m,rfl,f,λu y k2=>Qf.mono (h u y k2).2 s⟩)
end
section
variable{w:YM}{m n:Nat}{z a c lo d:Int}
theorem qk(z:Int):∃m:Nat,m<18446744073709551616/\XP.wrap z=m:=by
 have h:0<=XP.wrap z/\XP.wrap z<18446744073709551616:=⟨Int.emod_nonneg _ Zd,Int.emod_lt_of_pos _ Zd⟩
 exact⟨(XP.wrap z).toNat,by omega,by omega⟩
abbrev t7:={m:Nat // m<18446744073709551616}
theorem cL:Ca 100 #[.int .i64 z] w (K4 w (λm:t7=> .int .u64 (m.1:Nat)) λ_ _=>True):=by
 refine uf func100 rfl<|ZR<|uz O ?_ ?_
 .refine ZR ?_;obtain⟨m,f,e⟩:=qk (0-XP.wrap z);refine ZV (.int .u64 (XP.wrap (0-XP.wrap z))) (λg b h=>⟨⟨m,f⟩,by rw[e],b,Zv⟩)
 .refine ZR ?_;obtain⟨m,f,e⟩:=qk z;refine ZV (.int .u64 (XP.wrap z)) (λg b h=>⟨⟨m,f⟩,by rw[e],b,Zv⟩)
theorem sZ(h:m<18446744073709551616):XP.wrap (((BitVec.ofInt 64 (m:Int) &&& BitVec.ofInt 64 4294967295).toNat:Nat):Int)=((m%4294967296:Nat):Int):=by
 have e:(BitVec.ofInt 64 (m:Int) &&& BitVec.ofInt 64 4294967295).toNat=m%4294967296:=by
  rw[BitVec.toNat_and];have b:(BitVec.ofInt 64 4294967295).toNat=2 ^ 32-1:=Zd
  rw[b,Nat.and_two_pow_sub_one_eq_mod,BitVec.toNat_ofInt];omega
 rw[e,F8 I]
theorem th:(m:Int).fdiv (2 ^ min (Int.toNat 32) XP.bits)=((m/4294967296:Nat):Int):=by
 have e:(2:Int) ^ min (Int.toNat 32) XP.bits=4294967296:=Zd
 rw[e,Int.fdiv_eq_ediv_of_nonneg _ Zd];omega
theorem oD(h:m<18446744073709551616):Ca 99 #[.int .u64 m,.int .u64 1] w (CU w (.tuple #[.int .u64 0,.int .u64 m])):=by
 obtain⟨x,f⟩:∃x,m%4294967296=x:=⟨_,rfl⟩
 obtain⟨y,g⟩:∃y,m/4294967296=y:=⟨_,rfl⟩
 have e:x<=4294967295:=I
 have b:y<=4294967295:=I
 exact uf func99 rfl<|ZS 2<|uh 15 (.int .u64 (XP.wrap (((BitVec.ofInt 64 (m:Int) &&& BitVec.ofInt 64 4294967295).toNat:Nat):Int))) (.int .u64 x) O (by rw[sZ h,f])<|uo O (stop:=1000) 1 _<|ZS 2<|uh 17 (.int .u64 ((m:Int).fdiv (2 ^ min (Int.toNat 32) XP.bits))) (.int .u64 y) O (by rw[th,g])<|uo O (stop:=1000) 1 _<|ZS 2<|uo O (stop:=1000) 1 _<|ZS 2<|uo O (stop:=1000) 1 _<|ZS 3<|uh 24 (.int .u64 (XP.wrap ((x:Int)*1))) (.int .u64 x) O (by rw[Int.mul_one,F8 I])<|uo O (stop:=1000) 1 _<|ZS 5<|uh 29 (.int .u64 ((x:Int).fdiv (2 ^ min (Int.toNat 32) XP.bits))) (.int .u64 0) O (by rw[dO e])<|uh 27 (.int .u64 (XP.wrap ((y:Int)*1))) (.int .u64 y) O (by rw[Int.mul_one,F8 I])<|uo O (stop:=1000) 1 _<|uh 30 (.int .u64 (XP.wrap ((y:Int)+0))) (.int .u64 y) O (by rw[Int.add_zero,F8 I])<|uo O (stop:=1000) 1 _<|ZS 2<|uh 32 (.int .u64 (XP.wrap (((BitVec.ofInt 64 (y:Int) &&& BitVec.ofInt 64 4294967295).toNat:Nat):Int))) (.int .u64 y) O (by rw[lE b])<|uo O (stop:=1000) 1 _<|ZS 2<|uh 34 (.int .u64 ((y:Int).fdiv (2 ^ min (Int.toNat 32) XP.bits))) (.int .u64 0) O (by rw[dO b])<|uo O (stop:=1000) 1 _<|ZS 4<|uh 38 (.int .u64 (XP.wrap ((x:Int)*0))) (.int .u64 0) O (by rw[Int.mul_zero];rfl)<|uo O (stop:=1000) 1 _<|uh 39 (.int .u64 (XP.wrap ((y:Int)+0))) (.int .u64 y) O (by rw[Int.add_zero,F8 I])<|uo O (stop:=1000) 1 _<|ZS 7<|uh 44 (.int .u64 (XP.wrap (XP.wrap ((y:Int)*0)+0))) (.int .u64 0) O (by rw[Int.mul_zero];rfl)<|ZT 46 (.int .u64 ((y:Int).fdiv (2 ^ min (Int.toNat 32) XP.bits))) (.int .u64 0) (by rw[dO b])<|ZX (.tuple #[.int .u64 0,.int .u64 (XP.wrap ((m:Int)*1))]) (by rw[Int.mul_one,IntWalk.u64_in _ I])
abbrev k7:YI->Bool:=FJ [aU .u64,aU .u64]
abbrev ll:YI->Bool:=FJ [aU .u64,nR]
abbrev LX:YI->Bool:=FJ [aU .i64,nR]
theorem Hf{t:XX}{x y:XZ}{a b:Int}{k:IntKind}(e:b≠0):(C4 .quo t x y (.int k a) (.int k b)).run XM w= .ok (.value (.int k (k.wrap (a.tdiv b)))) w:=by
 simp only[C4,eqGuard_quo,AL,AX,AK,binOp,Op.intDiv,ne_eq,not_true_eq_false,if_false,e]
theorem Xv{t:XX}{x y:XZ}{a b:Int}{k:IntKind}(e:b≠0):(C4 .rem t x y (.int k a) (.int k b)).run XM w= .ok (.value (.int k (a.tmod b))) w:=by
 simp only[C4,eqGuard_rem,AL,AX,AK,binOp,Op.intDiv,ne_eq,not_true_eq_false,if_false,e]
theorem nL(h:0<d):Ca 146 #[.int .u64 0,.int .u64 lo,.int .u64 d] w (K4 w (λv:VP k7=>v.1) λ_ _=>True):=by
 refine uf func146 rfl<|ZR<|ZJ (d==0) false (YR.2 I)<|YN (d<=0)<|uu true O<|ZS 2<|us 2 (C4 .quo 159 (.tmp 28) (.tmp 29) (.int .u64 lo) (.int .u64 d)) (.int .u64 (XP.wrap (lo.tdiv d))) O (λe b h=>Hf I)<|ZS 5<|ZB 5 (C4 .rem 159 (.tmp 31) (.tmp 32) (.int .u64 lo) (.int .u64 d)) (.int .u64 (lo.tmod d)) (λe b h=>Xv I)<|uO (k7) O (λv f e b h=>⟨⟨v,f⟩,rfl,b,Zv⟩)
theorem o5:Ca 102 #[.agg #[.int .u64 0,.int .u64 a,.int .u64 c]] w (K4 w (λv:VP ll=>v.1) λ_ _=>True):=by
 refine uf func102 rfl<|ZR ?_
 by_cases h:(0:Int)>=c
 .refine YJ ((0:Int)>=c) h<|uO (ll) O (λv g f j h=>⟨⟨v,g⟩,rfl,j,Zv⟩)
 refine YK ((0:Int)>=c) h ?_;have o:∀f,Ca 146 #[.int .u64 0,.int .u64 a,.int .u64 c] f (K4 f (λq:Int×Int=> .tuple #[.int .u64 q.1,.int .u64 q.2]) λ_ _=>True):=λf=>(nL I).mono λe u k=>by
  obtain⟨⟨v,g⟩,p,k2,s⟩:=k;obtain⟨a,b,rfl,l,t⟩:=C7 g;obtain⟨x,rfl⟩:=T5 l;obtain⟨y,rfl⟩:=T5 t;exact⟨(x,y),p,k2,s⟩
 refine ZC (λf j h=>o f) λq=>uz O ?_ ?_
 .refine ZR<|uO (ll) O (λv g f j h=>⟨⟨v,g⟩,rfl,j,Zv⟩)
 .refine ZR<|uO (ll) O (λv g f j h=>⟨⟨v,g⟩,rfl,j,Zv⟩)
theorem dj{b:Bool}:Ca 101 #[.bool b,.func (.func 102) #[.agg #[.int .u64 0,.int .u64 a,.int .u64 c]] #[]] w (K4 w (λv:VP LX=>v.1) λ_ _=>True):=by
 have p:∀j,Ca 102 #[.agg #[.int .u64 0,.int .u64 a,.int .u64 c]] j (K4 j (λq:Int×Bool=> .tuple #[.int .u64 q.1,.bool q.2]) λ_ _=>True):=λj=>o5.mono λe u k=>by
  obtain⟨⟨v,f⟩,o,k2,s⟩:=k;obtain⟨a,b,rfl,l,t⟩:=C7 f;obtain⟨x,rfl⟩:=T5 l;obtain⟨y,rfl⟩:=KF t;exact⟨(x,y),o,k2,s⟩
 refine uf func101 rfl<|ZR<|ZD 0 (λj g h=>p j) λq=>ZS 3<|uM 16 O ?_ ?_
 .refine ZR<|ZI true<|uO (LX) O (λv f j g h=>⟨⟨v,f⟩,rfl,g,Zv⟩)
 .refine ZS 6<|uM 19 O ?_ ?_
  .refine ZR<|ZI true<|uO (LX) O (λv f j g h=>⟨⟨v,f⟩,rfl,g,Zv⟩)
  .refine ZS 9<|uM 22 O ?_ ?_
   .refine ZR<|uz O ?_ ?_
    .refine ZR<|uO (LX) O (λv f j g h=>⟨⟨v,f⟩,rfl,g,Zv⟩)
    .refine ZR<|uz O ?_ ?_
     .refine ZR<|uO (LX) O (λv f j g h=>⟨⟨v,f⟩,rfl,g,Zv⟩)
     .refine ZR<|uO (LX) O (λv f j g h=>⟨⟨v,f⟩,rfl,g,Zv⟩)
   .refine ZR<|ZI false<|uz O ?_ ?_
    .refine ZR<|uO (LX) O (λv f j g h=>⟨⟨v,f⟩,rfl,g,Zv⟩)
    .refine ZR<|uO (LX) O (λv f j g h=>⟨⟨v,f⟩,rfl,g,Zv⟩)
theorem f9:Ca 61 #[.int .i64 z,.int .i64 1,.int .i64 c] w (K4 w (λq:Int×Bool=> .tuple #[.int .i64 q.1,.bool q.2]) λ_ _=>True):=by
 have A:∀(f:YM) (b:Bool) (a c:Int),Ca 101 #[.bool b,.func (.func 102) #[.agg #[.int .u64 0,.int .u64 a,.int .u64 c]] #[]] f (K4 f (λq:Int×Bool=> .tuple #[.int .i64 q.1,.bool q.2]) λ_ _=>True):=λf b a c=>dj.mono λe E k=>by
  obtain⟨⟨v,j⟩,s,k2,t⟩:=k;obtain⟨a,b,rfl,o,u⟩:=C7 j;obtain⟨x,rfl⟩:=T5 o;obtain⟨y,rfl⟩:=KF u;exact⟨(x,y),s,k2,t⟩
 refine uf func61 rfl<|ZR<|uz O ?_ ?_
 .refine ZR<|ZV (.tuple #[.int .i64 0,.bool false]) (λf g h=>⟨(0,false),rfl,g,Zv⟩)
 .refine ZR<|ZC (λf g h=>cL (z:=z)) λl=>ZC (λf g h=>GM (n:=1) Zd) λB=>ZC (λf g h=>oD l.2) λD=>ZD 9 (λf g h=>cL (z:=c)) λp=>vg nR 33 O (λv j=> ?_)
  obtain⟨b,rfl⟩:=KF j;refine ZR<|ZC (λf g h=>A f b l.1 p.1) λq=>ZV (.tuple #[.int .i64 q.1,.bool q.2]) (λf g h=>⟨q,rfl,g,Zv⟩)
theorem Yj:Ca 50 #[.int .i64 z,.int .i64 c] w (K4 w (λq:Int=> .int .i64 q) λ_ _=>True):=by
 refine uf func50 rfl<|ZR<|ZC (λe b h=>f9 (z:=z) (c:=c)) λq=>ZV (.int .i64 q.1) (λe b h=>⟨q.1,rfl,b,Zv⟩)
theorem bV{t:XX}{x y:XZ}{i:Nat}(hi:i<64):(C4 .shl t x y (.int .u64 1) (.int .i64 (i:Int))).run XM w= .ok (.value (.int .u64 (XP.wrap (1*2 ^ min (Int.toNat (i:Int)) XP.bits)))) w:=by
 have b:¬((i:Int)<0):=I
 simp only[C4,eqGuard_shl,AL,AX,AK,binOp,Op.shift,b,if_false]
theorem eW:Ca 349 #[.int .u64 z] w (K4 w (λq:Int=> .int .u64 q) λ_ _=>True):=by
 refine uf func349 rfl<|ZR<|uj (ι:={s:Nat×Int // s.1<=32}) 21 (λs=>⟨[vV 0 (.int .u64 z),vV 2 (.int .u64 0),vV 3 (.int .u64 s.1.2),vI 4 ((s.1.1:Int)-1)],[]⟩) (λ_ _=>True) (λs=>s.1.1) (⟨(32,0),AH _⟩) O Zf Zt (λ_ _=>trivial) ?_
 rintro⟨⟨m,r⟩,f⟩ j;have f:m<=32:=f;cases m with
 |zero=>
  refine ZR<|ZI false<|ug O<|ZR<|ZV (.int .u64 r) (λg b h=>⟨r,rfl,b,Zv⟩)
 |succ i=>
  refine ZT 4 (.int .i64 (((i+1:Nat):Int)-1)) (.int .i64 (i:Int)) (by congr 1;omega)<|ul (decide ((i:Int)>=0)) true O (YU I)<|ZS 2<|ZA (C4 .shl 159 (.const (.int .u64 1)) (.tmp 11) (.int .u64 1) (.int .i64 (i:Int))) (.int .u64 (XP.wrap (1*2 ^ min (Int.toNat (i:Int)) XP.bits))) (λg b h=>bV I) ?_
  have e:XQ.wrap ((i:Int)-1)=(i:Int)-1:=AQ _ I;refine uz O ?_ ?_
  .refine ZR<|uK .u64 3 O λr2=>uh 4 (.int .i64 (XQ.wrap ((i:Int)-1))) (.int .i64 ((i:Int)-1)) O (by rw[e])<|ui (⟨(i,r2),Zn⟩) O (Nat.lt_succ_self i) Zt (λ_ _=>trivial)
  .refine ZR<|uh 4 (.int .i64 (XQ.wrap ((i:Int)-1))) (.int .i64 ((i:Int)-1)) O (by rw[e])<|ui (⟨(i,r),Zn⟩) O (Nat.lt_succ_self i) Zt (λ_ _=>trivial)
end
abbrev ab:=(YZ)×List Pt
abbrev Sn(x:ab):YI:= .slice x.1.1 x.2.length x.1.2
def Ud(B:Nat)(x:ab)(u:YM):Prop:=K6 u B 74 2 x.1.1 x.2.length x.1.2 (x.2.flatMap K9)
abbrev gS(n:Nat):={x:ab // x.2.length<=n}
theorem uU{B:Nat}{u:YM}:Ud B ((none,0),[]) u:=uG
theorem Ud.mono{B N:Nat}{x:ab}{u:YM}(h:Ud B x u)(c:N<=B):Ud N x u:=K6.rebase h λb e=>AO c (K6.lt h b e).1
theorem Ud.row{B:Nat}{x:ab}{u:YM}(h:Ud B x u):Kk u x.1.1 x.2.length 2 K9 x.2:=(K6.reads h).rows L8 rfl
section
variable{w W u:YM}{p q:Pt}{g n c N i:Nat}{z:Int}{A:YY}{L:List Pt}{B:Bool}
theorem bQ:Ca 434 #[Km p,Km q] w (K4 w (λz:Int=> .int .i64 z) λ_ _=>True):=by
 refine uf func434 rfl<|ZR<|ZV (.int .i64 (XQ.wrap (XQ.wrap (p.1*q.2)-XQ.wrap (p.2*q.1)))) (λe b h=>⟨_,rfl,b,Zv⟩)
theorem oO:Ca 382 #[Km p,Km q] w (K4 w (λz:Int=> .int .i64 z) λ_ _=>True):=by
 refine uf func382 rfl<|ZR<|ZV (.int .i64 (XQ.wrap (XQ.wrap (p.1*q.1)+XQ.wrap (p.2*q.2)))) (λe b h=>⟨_,rfl,b,Zv⟩)
abbrev cT(p:Pt):Pt:=(Mi p.1,Mi p.2)
theorem At:Ca 103 #[Km p] w (CU w (Km (cT p))):=QJ
theorem jZ:Ca 426 #[Km p,Km q] w (K4 w (λz:Int=> .int .i64 z) λ_ _=>True):=by
 refine uf func426 rfl<|ZR<|ZC (λf e h=>At (p:=p)) λa=>ZC (λf e h=>At (p:=q)) λb=>ZC (λf e h=>bQ (p:=cT p) (q:=cT q)) λz=>ZV (.int .i64 z) (λf e h=>⟨z,rfl,e,Zv⟩)
theorem qu:Ca 350 #[Km p,Km q] w (K4 w (λz:Int=> .int .i64 z) λ_ _=>True):=by
 refine uf func350 rfl<|ZR<|ZC (λf e h=>At (p:=p)) λa=>ZC (λf e h=>At (p:=q)) λb=>ZC (λf e h=>oO (p:=cT p) (q:=cT q)) λz=>ZV (.int .i64 z) (λf e h=>⟨z,rfl,e,Zv⟩)
theorem qm:Ca 319 #[Km p,Km q] w (K4 w (λz:Pt=>Km z) λ_ _=>True):=by
 refine uf func319 rfl<|ZR<|ZC (λf e h=>At (p:=p)) λa=>ZC (λf e h=>At (p:=q)) λb=>ZV (Km (XQ.wrap (Mi p.1-Mi q.1),XQ.wrap (Mi p.2-Mi q.2))) (λf e h=>⟨_,rfl,e,Zv⟩)
theorem og:Ca 422 #[Km p] w (K4 w (λz:Pt=>Km z) λ_ _=>True):=by
 refine uf func422 rfl<|ZR<|ZC (λe b h=>At (p:=p)) λa=>ZV (Km (XQ.wrap (0-Mi p.2),Mi p.1)) (λe b h=>⟨_,rfl,b,Zv⟩)
theorem dM:Ca 318 #[Km p] w (K4 w (λz:Int=> .int .i64 z) λ_ _=>True):=by
 refine uf func318 rfl<|ZR<|ZC (λe b h=>qu (p:=p) (q:=p)) λd=>ZC (λe b h=>eW (z:=XP.wrap (XQ.wrap (65536*d)))) λs=>ZV (.int .i64 (XQ.wrap s)) (λe b h=>⟨_,rfl,b,Zv⟩)
theorem jm(f:Below W.heap.size W w)(o:W.heap.size<=g)(b:K8 w g [.int .i64 z]):Ca 425 #[Km p,Km q,Kp g] w (L4 w [g] (λ_:Int=> .tuple #[]) λz u=>K8 u g [.int .i64 z]):=by
 have l:g<w.heap.size:=b.ltW;refine uB func425 rfl f<|ZR<|ZB 0 (Ke 3 ⟨g,0,none⟩) (.int .i64 z) (λj e h=>MB (b.bel (B3 f e h)) O)<|ZC (λj e h=>jZ (p:=p) (q:=q)) λm=>uE (L:=[g]) (G:=λu=>K8 u g [.int .i64 (XQ.wrap (z+m))]) (Φ':=λu=>Kt W w g u/\K8 u g [.int .i64 (XQ.wrap (z+m))]) (Om 3 ⟨g,0,none⟩ (.int .i64 (XQ.wrap (z+m)))) (λj e h=>UW (b.bel (B3 f e h.1))) (λu h E k=>by obtain rfl:=AA.1 k;obtain⟨ty,D⟩:=b;exact⟨o,_,_,_,(h.1.2 _ o l).trans D⟩) (λF u v x h t=>⟨⟨by rw[<-v];exact h.1.1,λb s k2 y=>(x b (by simpa using y)).symm.trans (h.1.2 b s k2)⟩,t⟩) O O<|ZR<|ZV (.tuple #[]) (λj e h=>⟨_,rfl,(Yh h).1.chg f e,λu s k2=>(Yh h).2.toW (k2 g (.inl Zs))⟩)
theorem mX(wI:Below W.heap.size W w)(t:W.heap.size<=g)(b:K8 w g [.int .i64 z])(E:Kk W A n 2 K9 L)(Z:n<=1000000):Ca 424 #[.slice A n c,.func (.func 425) #[] #[Kp g]] w (L4 w [g] (λ_:Int=> .tuple #[]) λz u=>K8 u g [.int .i64 z]):=by
 have y:g<w.heap.size:=b.ltW;refine uB func424 rfl wI<|ZR<|uj (ι:={q:Nat×Int // q.1<=n}) 25 (λq=>⟨[vS 0 A n c,vV 1 (.func (.func 425) #[] #[Kp g]),vS 6 A n c,vI 7 n,vI 8 q.1.1],[]⟩) (λq u=>Kt W w g u/\K8 u g [.int .i64 q.1.2]) (λq=>n-q.1.1) (⟨(0,z),AD _⟩) O Zf Zt (λu h=>⟨⟨h.1,λb J F _=>h.2 b J F⟩,b.toW (h.2 g t y)⟩) ?_
 rintro⟨⟨i,z⟩,hi⟩ gg;have hi:i<=n:=hi
 by_cases k:i<n
 case neg=>
  obtain rfl:i=n:=I
  refine ZR<|YN ((i:Int)<(i:Int))<|ug O<|ZR<|ZV (.tuple #[]) (λm f h=>⟨z,rfl,(Yh h).1.chg wI f,λu k1 k2=>(Yh h).2.toW (k2 g (.inl Zs))⟩)
 have Y:=E.1;have D:(i+1)%n<n:=CV _ I;obtain⟨a,wJ⟩:∃v,L[i]? =some v:=⟨_,AC I⟩
 obtain⟨e,M⟩:∃v,L[(i+1)%n]? =some v:=⟨_,AC I⟩
 obtain⟨ad,o,K⟩:=E.2 i a wJ;obtain⟨P,l,H⟩:=E.2 _ e M;rw[o]at l;injection l with l;subst l;refine ZR<|YL ((i:Int)<(n:Int))<|ZA (Kd 296 (.slice A n c) i) (.pointer (some (ad.add (i*2)))) (λm f h=>Lh o k)<|uw (Ke 74 (ad.add (i*2))) (Km a) O (λm f h=>M5 λj v x=>L5 f (K j v x))<|ZS 5<|uo O (stop:=1000) 1 _<|ZS 7<|YA 17 i k<|us 7 (C4 .rem 3 (.tmp 17) (.tmp 19) (.int .i64 ((i+1:Nat):Int)) (.int .i64 (n:Int))) (.int .i64 (((i+1)%n:Nat):Int)) O (λm f h=>He I)<|ZS 7<|ZB 8 (Kd 296 (.slice A n c) ((i+1)%n:Nat)) (.pointer (some (ad.add ((i+1)%n*2)))) (λm f h=>Lh o D)<|ZB 9 (Ke 74 (ad.add ((i+1)%n*2))) (Km e) (λm f h=>M5 λj v x=>L5 f (H j v x))<|uH (L:=[g]) (val:=λ_:Int=> .tuple #[]) (G:=λz u=>K8 u g [.int .i64 z]) (Φ':=λz u=>Kt W w g u/\K8 u g [.int .i64 z]) (λm f h=>jm (p:=a) (q:=e) f t h.2) (λu h U s=>by obtain rfl:=AA.1 s;obtain⟨ty,F⟩:=h.2;exact⟨t,_,_,_,F⟩) (λz X u R S h Q=>⟨h.1.left R S,Q⟩) O O λT=>ZR<|YA 8 i k<|ui (⟨(i+1,T),k⟩) O Zn Zt (λ_ h=>h)
theorem kW(k:Kk w A n 2 K9 L)(o:n<=1000000):Ca 405 #[.slice A n c] w (K4 w (λz:Int=> .int .i64 z) λ_ _=>True):=by
 obtain rfl:=k.1;refine uf func405 rfl<|ZR<|uk (Lr 132 1 #[(0,.slice A L.length c)]) (Kr 1) (Kw 296 ([((L,(A,c)):LP)].flatMap Qc).toArray) O (λe b h=>Kj O) λE=>ZR<|ZC (λe b h=>Oz (c:=1) (H:=[(L,(A,c))]) ⟨Kk.lit (cl:=Qc) (l:=[(L,(A,c))]) (λ_=>rfl) h.2,λx j=>by obtain rfl:=AA.1 j;exact k.below b⟩ (by show 1<=1000000;decide) (λx j=>by obtain rfl:=AA.1 j;exact o) rfl) λv=>uz O ?_ ?_
 .refine ZR<|ZV (.int .i64 0) (λe b h=>⟨_,rfl,b,Zv⟩)
 refine ZS 1<|uo O (stop:=1000) 5 _<|uq 3 [.int .i64 0] O O λg m=>ZR<|uD (L:=[g]) (val:=λ_:Int=> .tuple #[]) (G:=λz u=>K8 u g [.int .i64 z]) (Φ':=λz u=>K8 u g [.int .i64 z]) (λe b h=>mX (c:=c) b m h.2 k o) (λu h y f=>by obtain rfl:=AA.1 f;obtain⟨ty,t⟩:=h.2;exact⟨m,_,_,_,t⟩) (λz D u F J h s=>s) O O λz=>ZR<|ZA (Ke 3 ⟨g,0,none⟩) (.int .i64 z) (λe b h=>MB h O)<|ZV (.int .i64 z) (λe b h=>⟨z,rfl,b,Zv⟩)
theorem lc(p:Pt):∀v∈K9 p,v.oneCell'=true:=λv b=>by have:=I2 [p] v (by simpa using b);exact this
abbrev ti(n:Nat):={M:List Pt // M.length=n}
theorem qD{m cc:Nat}(D:Below W.heap.size W w)(o:W.heap.size<=g)(E:K6 w N 74 2 (some ⟨g,0,none⟩) (m+1) c (L.flatMap K9))(K:L.length=m+1)(Q:m<=1000000):
 Ca 406 #[.slice (some ⟨g,2,none⟩) m cc] w (L4 w [g] (λ_:ti (m+1)=> .tuple #[]) λM u=>K6 u N 74 2 (some ⟨g,0,none⟩) (m+1) c (M.1.flatMap K9)):=by
 have s:=(E.lt g (by simp[bl])).2;refine uB func406 rfl D<|ZR<|YB 3 ((m:Int)-1) ((m:Int)-1- ((0:Nat):Int))<|uj (ι:={q:Nat×List Pt // q.2.length=m+1}) 28 (λq=>⟨[vS 0 (some ⟨g,2,none⟩) m cc,vI 2 (q.1.1:Nat),vI 3 ((m:Int)-1- (q.1.1:Int))],[]⟩) (λq u=>K6 u N 74 2 (some ⟨g,0,none⟩) (m+1) c (q.1.2.flatMap K9)/\Kt W w g u) (λq=>m-q.1.1) (⟨(0,L),K⟩) O Zf Zt (λu h=>⟨E.same λb j=>(by have j:=AA.1 j;subst j;exact h.2 _ o s),h.1,λb F Z _=>h.2 b F Z⟩) ?_
 rintro⟨⟨i,M⟩,l⟩ S;have l:M.length=m+1:=l
 by_cases wI:i+i+1<m
 case neg=>
  refine ZR<|YN ((i:Int)<(m:Int)-1- (i:Int))<|ug O<|ZR<|ZV (.tuple #[]) (λf e h=>⟨⟨M,l⟩,rfl,(Yh h).2.chg D e,λu R k2=>(Yh h).1.same λb j=>k2 b (.inl j)⟩)
 obtain⟨k,P⟩:∃k:Nat,k=m-1-i:=⟨_,rfl⟩
 obtain⟨a,J⟩:∃v,M[1+i]? =some v:=⟨_,AC I⟩
 obtain⟨b,j⟩:∃v,M[1+k]? =some v:=⟨_,AC I⟩
 refine ZT 3 (.int .i64 ((m:Int)-1- (i:Int))) (.int .i64 (k:Int)) (by congr 1;omega)<|YL ((i:Int)<(k:Int))<|ZB 6 (Kd 296 (.slice (some ⟨g,2,none⟩) m cc) k) (.pointer (some ⟨g,(1+k)*2,none⟩)) (λf e h=>by rw[show(1+k)*2=2+k*2 by omega];exact Q9 (elem:=74) O O I)<|ZB 7 (Ke 74 ⟨g,(1+k)*2,none⟩) (Km b) (λf e h=>Ka (vs:=K9 b) O O (Ln L8 h.1 I j))<|ZB 10 (Kd 296 (.slice (some ⟨g,2,none⟩) m cc) i) (.pointer (some ⟨g,(1+i)*2,none⟩)) (λf e h=>by rw[show(1+i)*2=2+i*2 by omega];exact Q9 (elem:=74) O O I)<|ZB 11 (Ke 74 ⟨g,(1+i)*2,none⟩) (Km a) (λf e h=>Ka (vs:=K9 a) O O (Ln L8 h.1 I J))<|ZB 12 (Kd 296 (.slice (some ⟨g,2,none⟩) m cc) i) (.pointer (some ⟨g,(1+i)*2,none⟩)) (λf e h=>by rw[show(1+i)*2=2+i*2 by omega];exact Q9 (elem:=74) O O I)<|uE (L:=[g]) (G:=λu=>K6 u N 74 2 (some ⟨g,0,none⟩) (m+1) c ((M.set (1+i) b).flatMap K9)) (Φ':=λu=>K6 u N 74 2 (some ⟨g,0,none⟩) (m+1) c ((M.set (1+i) b).flatMap K9)/\Kt W w g u) (Om 74 ⟨g,(1+i)*2,none⟩ (Km b)) (λf e h=>K6.setE L8 h.1 (by rw[l];omega) rfl O (lc b)) (λu h=>Za ⟨o,(h.1.blk _ (by simp[bl])).2⟩) (λH u y x h t=>⟨t,h.2.left y x⟩) O O<|ZB 14 (Kd 296 (.slice (some ⟨g,2,none⟩) m cc) k) (.pointer (some ⟨g,(1+k)*2,none⟩)) (λf e h=>by rw[show(1+k)*2=2+k*2 by omega];exact Q9 (elem:=74) O O I)<|uE (L:=[g]) (G:=λu=>K6 u N 74 2 (some ⟨g,0,none⟩) (m+1) c (((M.set (1+i) b).set (1+k) a).flatMap K9)) (Φ':=λu=>K6 u N 74 2 (some ⟨g,0,none⟩) (m+1) c (((M.set (1+i) b).set (1+k) a).flatMap K9)/\Kt W w g u) (Om 74 ⟨g,(1+k)*2,none⟩ (Km a)) (λf e h=>K6.setE L8 h.1 (by rw[BL,l];omega) rfl O (lc a)) (λu h=>Za ⟨o,(h.1.blk _ (by simp[bl])).2⟩) (λH u y x h t=>⟨t,h.2.left y x⟩) O O<|ZR<|YB 2 ((i:Int)+1) ((i+1:Nat):Int)<|YB 3 ((k:Int)-1) ((m:Int)-1- ((i+1:Nat):Int))<|ui (⟨(i+1,(M.set (1+i) b).set (1+k) a),by show((M.set (1+i) b).set (1+k) a).length=m+1;rw[BL,BL,l]⟩) O Zn Zt (λ_ h=>h)
theorem T2(l:Kk w A n 2 K9 L)(o:2<=n)(H:n<=1000000)(F:N<=w.heap.size):Ca 387 #[.slice A n c] w (K4 w (λx:gS n=>Sn x.1) λx u=>Ud N x.1 u):=by
 have y:=l.1;obtain⟨m,rfl⟩:∃m,n=m+1:=⟨n-1,by omega⟩
 obtain⟨a,K⟩:∃v,L[0]? =some v:=⟨_,AC I⟩
 obtain⟨ad,J,_⟩:=l.2 0 a K;obtain rfl:A=some ad:=J;refine uf func387 rfl<|ZR<|ZC (λj b h=>kW (c:=c) (l.below b) H) λz=>uz O ?_ ?_
 .refine ZR<|ZV (.slice none 0 0) (λj b h=>⟨⟨((none,0),[]),AD _⟩,rfl,b,λ_ _ _=>uU⟩)
 refine ZR<|ZC (λj b h=>GD (c:=c) (N:=w.heap.size) (l.below b) H b.size) λcl=>um (p:=∃gq,(cl.1=some ⟨gq,0,none⟩/\w.heap.size<=gq)/\m+1<=cl.2) (λj b h=>by obtain⟨gq,o,_⟩:=h.2.cells I;exact⟨gq,⟨o,(h.2.lt gq (by rw[o];simp[bl])).1⟩,h.2.cap⟩) O (λE=> ?_)
 obtain⟨gq,⟨E,k⟩,f⟩:=E;obtain⟨t,cc⟩:=cl;obtain rfl:t=some ⟨gq,0,none⟩:=E;have f:m+1<=cc:=f;refine uz O ?_ ?_
 .refine ZS 1<|ZA (lA 296 (.slice (some ⟨gq,0,none⟩) (m+1) cc) (1:Nat)) (.slice (some ⟨gq,2,none⟩) m (cc-1)) (λj b h=>Ug (i:=1) (e:=74) (s:=2) O O O I I)<|uD (L:=[gq]) (val:=λ_:ti (m+1)=> .tuple #[]) (G:=λM u=>K6 u w.heap.size 74 2 (some ⟨gq,0,none⟩) (m+1) cc (M.1.flatMap K9)) (Φ':=λM u=>K6 u w.heap.size 74 2 (some ⟨gq,0,none⟩) (m+1) cc (M.1.flatMap K9)) (λj b h=>qD (cc:=cc-1) b k h.2 y I) (λu h=>Za ⟨k,(h.2.blk _ (by simp[bl])).2⟩) (λM P u Q R h Z=>Z) O O (λM=> ?_)
  obtain⟨M,wI⟩:=M;refine ZR<|ZV (.slice (some ⟨gq,0,none⟩) (m+1) cc) (λj b h=>⟨⟨((some ⟨gq,0,none⟩,cc),M),Zn⟩,by show Ending.returned _=Ending.returned (.slice (some ⟨gq,0,none⟩) M.length cc);rw[wI],b,λu D k2=>Ud.mono (x:=((some ⟨gq,0,none⟩,cc),M)) (by have:=h u D k2;show K6 u w.heap.size _ 2 (some ⟨gq,0,none⟩) M.length cc _;rw[wI];exact this) F⟩)
 .refine ZR<|ZV (.slice (some ⟨gq,0,none⟩) (m+1) cc) (λj b h=>⟨⟨((some ⟨gq,0,none⟩,cc),L),Zn⟩,by show Ending.returned _=Ending.returned (.slice (some ⟨gq,0,none⟩) L.length cc);rw[y],b,λu D k2=>Ud.mono (x:=((some ⟨gq,0,none⟩,cc),L)) (by have:=(h u D k2).2;show K6 u w.heap.size _ 2 (some ⟨gq,0,none⟩) L.length cc _;rw[y];exact this) F⟩)
end
theorem Wy{P:YH}{w:YM}{t e:XX}{n i:Nat}{L:List Pt}{p:Pt}(l:P.underlying t=some (.array n e))(b:Nx P e=some true)(m:Mq P e=some 2)(hi:i<n)(h:L[i]? =some p):
 (sK t (.agg (L.flatMap K9).toArray) i).run P w= .ok (.value (Km p)) w:=by
 have c:(Go.isAgg e).run P w= .ok true w:=by
  unfold Nx at b;split at b
  .rename_i f;unfold Go.isAgg;rw[AL,run_underlying f w];rfl
  .rename_i f;unfold Go.isAgg;rw[AL,run_underlying f w];rfl
  .cases b
  .cases b
 have k:(0:Int)<=(i:Int)/\(i:Int)<(n:Int):=I
 have g:=Mr (cl:=K9) (s:=2) (λ_=>rfl) L i p 0 _ h rfl;have j:=Mr (cl:=K9) (s:=2) (λ_=>rfl) L i p 1 _ h rfl;have o:(L.flatMap K9).toArray.extract (i*2) (i*2+2)= #[.int .i64 p.1,.int .i64 p.2]:=by
  apply Array.ext';rw[Array.toList_extract];show List.take (i*2+2-i*2) (List.drop (i*2) (L.flatMap K9))=[.int .i64 p.1,.int .i64 p.2];rw[Nat.add_sub_cancel_left,N3 (by rw[CR]at g;exact g),N3 j]
  rfl
 simp only[sK,Instr.index,asIntOf,AL,AX,AK,run_underlying l,YS k,Lb m,part,c,if_true,CM,o]
 rfl
theorem RN{P:YH}{w:YM}{t e:XX}{n i g:Nat}(f:P.underlying t=some (.array n e))(b:Mq P e=some 2)(hi:i<n):
 (Kd t (Kp g) i).run P w= .ok (.value (.pointer (some ⟨g,i*2,none⟩))) w:=by
 have c:(0:Int)<=(i:Int)/\(i:Int)<(n:Int):=I
 simp only[Kd,Kp,Instr.indexAt,asIntOf,AL,AX,AK,run_underlying f,Lb b,YS c,CM,Instr.sureAddr];rw[Addr.add_mid,CI]
section
variable{w W u:YM}{p q a b:Pt}{g n c N i:Nat}{z wd:Int}{A:YY}{L:List Pt}
theorem SS(e:1<=wd/\wd<=16384){w:YM}:Ca 187 #[.int .i64 (wd:Int)] w (CU w (.bool true)):=by
 have h:=gG (w:=w) (x:=(wd:Int));rwa [show Ue (wd:Int)=true by unfold Ue;rw[YU I,YU I];rfl]at h
theorem Fk:Ca 62 #[Km p] w (CU w (.bool (vP p))):=IX
theorem lW:Ca 423 #[.int .i64 z] w (K4 w (λb:Bool=> .bool b) λ_ _=>True):=by
 refine uf func423 rfl<|ZS 2<|uM 4 O ?_ ?_
 .refine ZR<|ZV (.bool true) (λf e h=>⟨_,rfl,e,Zv⟩)
 .refine ZR<|ZV (.bool (decide (z>2097152))) (λf e h=>⟨_,rfl,e,Zv⟩)
theorem Id:Ca 388 #[Km p,Km q] w (K4 w (λp:Pt=>Km p) λ_ _=>True):=by
 refine uf func388 rfl<|ZR<|ZV (Km (XQ.wrap (p.1-q.1),XQ.wrap (p.2-q.2))) (λf e h=>⟨_,rfl,e,Zv⟩)
theorem Am:Ca 389 #[Km p,Km q] w (K4 w (λp:Pt=>Km p) λ_ _=>True):=by
 refine uf func389 rfl<|ZR<|ZV (Km (XQ.wrap (p.1+q.1),XQ.wrap (p.2+q.2))) (λf e h=>⟨_,rfl,e,Zv⟩)
theorem I6(j:1<=wd/\wd<=16384):Ca 404 #[Km p,.int .i64 (wd:Int)] w (K4 w (λp:Pt=>Km p) λ_ _=>True):=by
 refine uf func404 rfl<|ZR<|ZC (λf e h=>SS j) λv=>ZD 9 (λf e h=>lW (z:=p.1)) λl=> ?_
 cases l
 .refine ZR<|ZD 15 (λf e h=>lW (z:=p.2)) λo=> ?_
  cases o
  .refine ZS 18<|ZA (Xj 74 (.tmp 23) (.tmp 24) (Km p) (pt 0 0)) (.bool (p.1==0&&p.2==0)) (λf e h=>Oc)<|uz O ?_ ?_
   .refine ZR<|ZV (Km (0,0)) (λf e h=>⟨_,rfl,e,Zv⟩)
   .refine ZR<|ZC (λf e h=>eW (z:=XP.wrap (XQ.wrap (65536*XQ.wrap (XQ.wrap (p.1*p.1)+XQ.wrap (p.2*p.2)))))) λs=>ZC (λf e h=>Yj (z:=XQ.wrap (XQ.wrap (XQ.wrap (0-p.2)*(wd:Int))*128)) (c:=XQ.wrap s)) λk=>ZC (λf e h=>Yj (z:=XQ.wrap (XQ.wrap (p.1*(wd:Int))*128)) (c:=XQ.wrap s)) λm=>ZV (Km (k,m)) (λf e h=>⟨_,rfl,e,Zv⟩)
  .refine ZR<|ZI true<|ZV (Km (0,0)) (λf e h=>⟨_,rfl,e,Zv⟩)
 .refine ZR<|ZI true<|ZV (Km (0,0)) (λf e h=>⟨_,rfl,e,Zv⟩)
theorem KK(l:1<=wd/\wd<=16384):Ca 386 #[Km a,Km b,.int .i64 (wd:Int)] w (K4 w (λr:Pt×Bool=> .tuple #[Km r.1,.bool r.2]) λ_ _=>True):=by
 have m:∀(f:YM) (p:Pt),Ca 62 #[Km p] f (K4 f (λb:Bool=> .bool b) λ_ _=>True):=λf p=>(Fk (p:=p)).mono λe D k=>by
  obtain⟨_,x,k2,B⟩:=k;exact⟨vP p,x,k2,B⟩
 refine uf func386 rfl<|ZR<|ZC (λf j h=>SS l) λv=>ZD 8 (λf j h=>m f a) λy=> ?_
 cases y
 .refine ZR<|ZI true<|ZV (.tuple #[Km (0,0),.bool false]) (λf j h=>⟨((0,0),false),rfl,j,Zv⟩)
 .refine ZR<|ZC (λf j h=>m f b) λt=> ?_
  cases t
  .refine ZI true<|ZV (.tuple #[Km (0,0),.bool false]) (λf j h=>⟨((0,0),false),rfl,j,Zv⟩)
  .refine ZI false<|ZC (λf j h=>Id (p:=b) (q:=a)) λs=>ZC (λf j h=>I6 (p:=s) l) λo=>ZV (.tuple #[Km o,.bool true]) (λf j h=>⟨(o,true),rfl,j,Zv⟩)
theorem ef(k:1<=wd/\wd<=16384)(B:N<=w.heap.size):Ca 355 #[Km a,Km b,.int .i64 (wd:Int)] w (K4 w (λx:gS 4=>Sn x.1) λx u=>Ud N x.1 u):=by
 refine uf func355 rfl<|ZR<|ZC (λj e h=>KK (a:=a) (b:=b) k) λr=> ?_
 obtain⟨o,f⟩:=r;cases f
 .refine ZI true<|ZV (.slice none 0 0) (λj e h=>⟨⟨((none,0),[]),AD _⟩,rfl,e,λ_ _ _=>uU⟩)
 refine ZI false<|ZC (λj e h=>Id (p:=a) (q:=o)) λm=>ZC (λj e h=>Id (p:=b) (q:=o)) λv=>ZC (λj e h=>Am (p:=b) (q:=o)) λt=>ZC (λj e h=>Am (p:=a) (q:=o)) λs=>uk (Lr 296 4 #[(0,Km m),(1,Km v),(2,Km t),(3,Km s)]) (Kr 4) (Kw 74 ([m,v,t,s].flatMap K9).toArray) O (λj e h=>Kj O) λD=>ZR<|ZC (λj e h=>T2 (c:=4) (N:=w.heap.size) (Kk.lit (cl:=K9) (l:=[m,v,t,s]) L8 h.2) (by show 2<=4;decide) (by show 4<=1000000;decide) e.size) λx=>ZV (Sn x.1) (λj e h=>⟨x,rfl,e,λu y k2=>Ud.mono (h u y k2).2 B⟩)
theorem mD(m:1<=wd/\wd<=16384)(y:N<=w.heap.size):Ca 394 #[Km a,Km b,.int .i64 (wd:Int)] w (K4 w (λx:gS 4=>Sn x.1) λx u=>Ud N x.1 u):=by
 refine uf func394 rfl<|ZR<|ZC (λj e h=>KK (a:=a) (b:=b) m) λr=> ?_
 obtain⟨o,f⟩:=r;cases f
 .refine ZI true<|ZV (.slice none 0 0) (λj e h=>⟨⟨((none,0),[]),AD _⟩,rfl,e,λ_ _ _=>uU⟩)
 refine ZI false<|ZC (λj e h=>Id (p:=b) (q:=o)) λt=>ZC (λj e h=>Id (p:=b) (q:=o)) λB=>ZC (λj e h=>Am (p:=B) (q:=(o.2,XQ.wrap (0-o.1)))) λv=>ZC (λj e h=>Am (p:=b) (q:=o)) λE=>ZC (λj e h=>Am (p:=E) (q:=(o.2,XQ.wrap (0-o.1)))) λk=>ZC (λj e h=>Am (p:=b) (q:=o)) λs=>uk (Lr 296 4 #[(0,Km t),(1,Km v),(2,Km k),(3,Km s)]) (Kr 4) (Kw 74 ([t,v,k,s].flatMap K9).toArray) O (λj e h=>Kj O) λF=>ZR<|ZC (λj e h=>T2 (c:=4) (N:=w.heap.size) (Kk.lit (cl:=K9) (l:=[t,v,k,s]) L8 h.2) (by show 2<=4;decide) (by show 4<=1000000;decide) e.size) λx=>ZV (Sn x.1) (λj e h=>⟨x,rfl,e,λu D k2=>Ud.mono (h u D k2).2 y⟩)
theorem oM(m:1<=wd/\wd<=16384)(wI:N<=w.heap.size):Ca 384 #[Km p,.int .i64 (wd:Int)] w (K4 w (λx:gS 4=>Sn x.1) λx u=>Ud N x.1 u):=by
 have H:∀(f:YM) (p:Pt),Ca 62 #[Km p] f (K4 f (λb:Bool=> .bool b) λ_ _=>True):=λf p=>(Fk (p:=p)).mono λe Z k=>by
  obtain⟨_,B,k2,K⟩:=k;exact⟨vP p,B,k2,K⟩
 refine uf func384 rfl<|ZR<|ZC (λf j h=>SS m) λv=>ZC (λf j h=>H f p) λJ=> ?_
 cases J
 .refine ZI true<|ZV (.slice none 0 0) (λf j h=>⟨⟨((none,0),[]),AD _⟩,rfl,j,λ_ _ _=>uU⟩)
 refine ZI false<|ZD 36 (λf j h=>Yj (z:=(wd:Int)) (c:=2)) λd=>u5 24 O λs y=>u5 33 O λo F=>u5 42 O λE D=>u5 51 O λG t=>uk (Lr 296 4 #[(0,Km (s,y)),(1,Km (o,F)),(2,Km (E,D)),(3,Km (G,t))]) (Kr 4) (Kw 74 ([(s,y),(o,F),(E,D),(G,t)].flatMap K9).toArray) O (λf j h=>Kj O) λM=>ZR<|ZC (λf j h=>T2 (c:=4) (N:=w.heap.size) (Kk.lit (cl:=K9) (l:=[(s,y),(o,F),(E,D),(G,t)]) L8 h.2) (by show 2<=4;decide) (by show 4<=1000000;decide) j.size) λx=>ZV (Sn x.1) (λf j h=>⟨x,rfl,j,λu B k2=>Ud.mono (h u B k2).2 wI⟩)
theorem rO{u:YM}{vs:List Pt}{t:XX}{P:YH}{j:Nat}(h:K8 u g (vs.flatMap K9))(o:j<vs.length)(s:Mq P t=some 2):
 ∃k,(Om t ⟨g,j*2,none⟩ (Km p)).run P u= .ok .skip k/\Ei [g] u k/\∀f,k.heap.size<=f.heap.size->(∀b∈[g],f.heap[b]? =k.heap[b]?)->K8 f g ((vs.set j p).flatMap K9):=by
 have l:=h.storeN (P:=P) (t:=t) (v:=Km p) (j:=j*2) s (by show j*2+2<=_;rw[Nq L8];omega) (lc p);have e:=FE (cl:=K9) (x:=p) L8 o;have m:((vs.flatMap K9).take (j*2)++(Km p).cells.toList++(vs.flatMap K9).drop (j*2+(Km p).cells.toList.length))=(vs.set j p).flatMap K9:=e;rw[m]at l;exact l
theorem qp{B:List Pt}(h:B.length=16):∃y G x s v t D F o E k f m l e j,B=[y,G,x,s,v,t,D,F,o,E,k,f,m,l,e,j]:=by
 match B,h with
 | [y,G,x,s,v,t,D,F,o,E,k,f,m,l,e,j],_=>exact⟨y,G,x,s,v,t,D,F,o,E,k,f,m,l,e,j,rfl⟩
theorem nV:Ca 403 #[] w (K4 w (λL:ti 16=> .agg (L.1.flatMap K9).toArray) λ_ _=>True):=by
 obtain⟨P4,F⟩:∃P4:List Pt,P4=[(16384,0),(15137,6270),(11585,11585),(6270,15137)]:=⟨_,rfl⟩
 refine uf func403 rfl<|ZS 1<|uq 1 ((AM 16 ((0,0):Pt)).flatMap K9) O O λg hg=>ZR<|uh 9 (.agg ([((16384,0):Pt),(15137,6270),(11585,11585),(6270,15137)].flatMap K9).toArray) (.agg (P4.flatMap K9).toArray) O (by rw[F]) ?_
 have h4:P4.length=4:=by rw[F];rfl
 refine uj (ι:={q:Nat×List Pt // q.1<=4/\q.2.length=16}) 28 (λq=>⟨[(0,.p 0 0),vV 1 (Kp g),vV 9 (.agg (P4.flatMap K9).toArray),vI 10 (q.1.1:Nat)],[(0,(AM 32 (BH .i64 0)).map .v)]⟩) (λq u=>K8 u g (q.1.2.flatMap K9)) (λq=>4-q.1.1) (⟨(0,AM 16 (0,0)),AD _,rfl⟩) O Zf Zt (λu h=>h.2) ?_;rintro⟨⟨i,Y⟩,hi,P⟩ gg;have hi:i<=4:=hi;have P:Y.length=16:=P
 by_cases D:i<4
 case neg=>
  obtain rfl:i=4:=I
  refine ZR<|ZI false<|ug O<|ZR ?_
  obtain⟨K,M,S,H,wI,wJ,Q,R,T,J,s,l,m,t,j,f,X⟩:=qp P;subst X;refine ZA (Ke 476 ⟨g,0,none⟩) (.agg ([K,M,S,H,wI,wJ,Q,R,T,J,s,l,m,t,j,f].flatMap K9).toArray) (λB x h=>Ka (vs:=[K,M,S,H,wI,wJ,Q,R,T,J,s,l,m,t,j,f].flatMap K9) O O h.range)<|ZV (.agg ([K,M,S,H,wI,wJ,Q,R,T,J,s,l,m,t,j,f].flatMap K9).toArray) (λB x h=>⟨⟨[K,M,S,H,wI,wJ,Q,R,T,J,s,l,m,t,j,f],rfl⟩,rfl,x,Zv⟩)
 obtain⟨p,hp⟩:∃v,P4[i]? =some v:=⟨_,AC I⟩
 refine ZR<|ul (decide ((i:Int)<4)) true O (YU I)<|ZS 1<|ZA (sK 384 (.agg (P4.flatMap K9).toArray) i) (Km p) (λB x h=>Wy (n:=4) (e:=74) O O O D hp)<|uj (ι:={q:(Nat×Pt)×List Pt // q.1.1<=4/\q.2.length=16}) 28 (λq=>⟨[(0,.p 0 0),vV 1 (Kp g),vI 2 (i:Nat),(3,.p 3 0),vV 9 (.agg (P4.flatMap K9).toArray),vI 10 (i:Nat),vI 14 (q.1.1.1:Nat)],[(0,(AM 32 (BH .i64 0)).map .v),(3,(K9 q.1.1.2).map .v)]⟩) (λq u=>K8 u g (q.1.2.flatMap K9)) (λq=>4-q.1.1.1) (⟨((0,p),Y),AD _,P⟩) O Zf Zt (λu h=>h) ?_
 rintro⟨⟨⟨k,E⟩,vs⟩,Z,o⟩ gg2;have Z:k<=4:=Z;have o:vs.length=16:=o
 by_cases y:k<4
 case neg=>
  obtain rfl:k=4:=I
  refine ZR<|ZI false<|ug O<|ZR<|YB 10 ((i:Int)+1) ((i+1:Nat):Int)<|ui (⟨(i+1,vs),D,o⟩) O Zn Zt (λ_ h=>h)
 refine ZR<|ul (decide ((k:Int)<4)) true O (YU I)<|ZS 5<|uh 20 (.int .i64 (XQ.wrap (XQ.wrap (4*(k:Int))+(i:Int)))) (.int .i64 ((4*k+i:Nat):Int)) O (by rw[AQ (4*(k:Int)) I,AQ _ I];rfl)<|uw (Kd 476 (Kp g) (4*k+i:Nat)) (.pointer (some ⟨g,(4*k+i)*2,none⟩)) O (λB x h=>RN (n:=16) (e:=74) O O I)<|ZS 6 ?_
 have hgl:∀u,K8 u g (vs.flatMap K9)->K8 u g (vs.flatMap K9):=λ_ h=>h
 refine ur (L:=[g]) (G:=λu=>K8 u g ((vs.set (4*k+i) E).flatMap K9)) (Φ':=λu=>K8 u g ((vs.set (4*k+i) E).flatMap K9)) (Om 74 ⟨g,(4*k+i)*2,none⟩ (Km E)) (λB x h=>rO h I O) (λu h b' U=>by obtain rfl:=AA.1 U;obtain⟨ty,h2⟩:=h;exact⟨hg,_,_,_,h2⟩) (λwa u e1 e2 h hG=>hG) O O<|ZR<|ZC (λB x h=>og (p:=E)) λp3=>YB 14 ((k:Int)+1) ((k+1:Nat):Int)<|ui (⟨((k+1,p3),vs.set (4*k+i) E),y,by show(vs.set _ _).length=16;rw[BL,o]⟩) O Zn Zt (λu h=>h.1)
theorem RR(y:1<=wd/\wd<=16384)(F:N<=w.heap.size):Ca 385 #[Km p,.int .i64 (wd:Int)] w (K4 w (λx:gS 16=>Sn x.1) λx u=>Ud N x.1 u):=by
 have D:∀(f:YM) (p:Pt),Ca 62 #[Km p] f (K4 f (λb:Bool=> .bool b) λ_ _=>True):=λf p=>(Fk (p:=p)).mono λe T k=>by
  obtain⟨_,B,k2,P⟩:=k;exact⟨vP p,B,k2,P⟩
 refine uf func385 rfl<|ZR<|ZC (λf j h=>SS y) λv=>ZC (λf j h=>D f p) λwI=> ?_
 cases wI
 .refine ZI true<|ZV (.slice none 0 0) (λf j h=>⟨⟨((none,0),[]),AD _⟩,rfl,j,λ_ _ _=>uU⟩)
 refine ZI false<|ZC (λf j h=>nV) λm=> ?_
 obtain⟨m,H⟩:=m;refine uj (ι:={q:Nat×ab // q.1<=16/\q.2.2.length=q.1}) 39 (λq=>⟨[vI 1 (wd:Int),(2,.p 2 0),vS 4 none 0 0,vS 5 q.1.2.1.1 q.1.1 q.1.2.1.2,vV 16 (.agg (m.flatMap K9).toArray),vI 17 (q.1.1:Nat)],[(2,(K9 p).map .v)]⟩) (λq u=>K6 u w.heap.size 74 2 q.1.2.1.1 q.1.1 q.1.2.1.2 (q.1.2.2.flatMap K9)) (λq=>16-q.1.1) (⟨(0,((none,0),[])),AD _,rfl⟩) O Zf Zt (λu h=>uG) ?_;rintro⟨⟨i,z,l⟩,hi,t⟩ U;have hi:i<=16:=hi;have t:l.length=i:=t
 by_cases o:i<16
 case neg=>
  obtain rfl:i=16:=I
  refine ZR<|ZI false<|ug O<|ZR<|ZC (λf j h=>T2 (n:=16) (c:=z.2) (L:=l) (N:=w.heap.size) ((K6.reads h).rows L8 t) Zd Zd j.size) λx=>ZV (Sn x.1) (λf j h=>⟨x,rfl,j,λu B k2=>Ud.mono (h u B k2).2 F⟩)
 obtain⟨q,K⟩:∃v,m[i]? =some v:=⟨_,AC I⟩
 refine ZR<|ul (decide ((i:Int)<16)) true O (YU I)<|ZS 0<|ZA (sK 476 (.agg (m.flatMap K9).toArray) i) (Km q) (λf j h=>Wy (n:=16) (e:=74) O O O o K)<|ZC (λf j h=>Yj (z:=XQ.wrap (q.1*(wd:Int))) (c:=32768)) λM=>ZC (λf j h=>Yj (z:=XQ.wrap (q.2*(wd:Int))) (c:=32768)) λE=>ZD 15 (λf j h=>Am (p:=p) (q:=(M,E))) λs=>uk (Lr 296 1 #[(0,Km s)]) (Kr 1) (Kw 74 (K9 s).toArray) O (λf j h=>Kj O) λZ=>ZS 15<|uQ (L:=bl z.1) (val:=λz':YZ=> .slice z'.1 (i+1) z'.2) (Φ':=λz' u=>K6 u w.heap.size 74 2 z'.1 (i+1) z'.2 ((l++ [s]).flatMap K9)) (G:=λz' u=>K6 u w.heap.size 74 2 z'.1 (i+1) z'.2 ((l++ [s]).flatMap K9)) (My 296 296 (.slice z.1 i z.2) (Kr 1 Z)) (λf j h=>U9 (z0:=pt 0 0) (bytes:=16) O O rfl Zd Zd rfl (lc s) h.1.1.1.1 j.size h.2 I) (λu h=>h.1.1.1.1.blk) (λz' Q u R S h J=>J) O O λz'=>ZR<|YB 17 ((i:Int)+1) ((i+1:Nat):Int)<|ui (⟨(i+1,(z',l++ [s])),o,by show(l++ [s]).length=i+1;rw[AB,t];rfl⟩) O Zn Zt (λ_ h=>h)
end
structure Tw(S:Ef):Prop where
 ok:Xs S=true
 d0:S.d=[]
theorem Tw.wd{S:Ef}(h:Tw S):1<=S.w/\S.w<=16384:=by
 have:=h.ok;unfold Xs Ue at this;simp only[AU,decide_eq_true_eq]at this;omega
section
variable{w W u:YM}{p q a b v:Pt}{g g2 n c N i:Nat}{z wd lm:Int}{A:YY}{L:List Pt}{S:Ef}{y:YZ}{r:ab}
theorem IJ(h:Tw S){w:YM}:Ca 139 #[Bj S y] w (CU w (.bool true)):=by
 have e:=UJ (w:=w) (S:=S) (y:=y) (by rw[h.d0];exact⟨rfl,λk x f=>by cases f⟩) (by rw[h.d0];decide);rwa [h.ok]at e
theorem W3:Ca 62 #[Km p] w (K4 w (λb:Bool=> .bool b) λ_ _=>True):=(Fk (p:=p)).mono λe j k=>by
 obtain⟨_,f,k2,h⟩:=k;exact⟨vP p,f,k2,h⟩
theorem fT(e:1<=wd/\wd<=16384):Ca 407 #[.int .i64 wd] w (CU w (.bool true)):=uf func407 rfl<|ZS 2<|YE 4 (wd>=1) I<|ZX (.bool (decide (wd<=16384))) (by rw[YU I])
theorem Z9:Ca 392 #[Km p,Km q] w (K4 w (λp:Pt=>Km p) λ_ _=>True):=by
 refine uf func392 rfl<|ZR<|ZV (Km (XQ.wrap (p.1+q.1),XQ.wrap (p.2+q.2))) (λf e h=>⟨_,rfl,e,Zv⟩)
theorem TU:Ca 408 #[Km p,Km q] w (K4 w (λp:Pt=>Km p) λ_ _=>True):=by
 refine uf func408 rfl<|ZR<|ZV (Km (XQ.wrap (q.1-p.1),XQ.wrap (q.2-p.2))) (λf e h=>⟨_,rfl,e,Zv⟩)
theorem HC(b1:K8 w g [.int .i64 wd])(b2:K8 w g2 [.int .i64 z]){x:Int}:Ca 409 #[.int .i64 x,Kp g,Kp g2] w (K4 w (λz:Int=> .int .i64 z) λ_ _=>True):=by
 refine uf func409 rfl<|ZR<|ZA (Ke 3 ⟨g,0,none⟩) (.int .i64 wd) (λf e h=>MB (b1.below e) O)<|ZA (Ke 3 ⟨g,0,none⟩) (.int .i64 wd) (λf e h=>MB (b1.below e) O)<|ZA (Ke 3 ⟨g2,0,none⟩) (.int .i64 z) (λf e h=>MB (b2.below e) O)<|ZC (λf e h=>Yj (z:=XQ.wrap (XQ.wrap (x*wd)*wd)) (c:=XQ.wrap (2*z))) λd=>ZV (.int .i64 d) (λf e h=>⟨d,rfl,e,Zv⟩)
theorem iM{x y:Int}:Ca 99 #[.int .u64 x,.int .u64 y] w (K4 w (λq:Int×Int=> .tuple #[.int .u64 q.1,.int .u64 q.2]) λ_ _=>True):=by
 have h:Ca 99 #[.int .u64 x,.int .u64 y] w (K4 w (λv:VP k7=>v.1) λ_ _=>True):=by
  refine uf func99 rfl<|ZR<|uO (k7) O (λv f t l h=>⟨⟨v,f⟩,rfl,l,Zv⟩)
 refine h.mono λe B k=> ?_
 obtain⟨⟨v,f⟩,m,k2,o⟩:=k;obtain⟨a,b,rfl,j,s⟩:=C7 f;obtain⟨x,rfl⟩:=T5 j;obtain⟨y,rfl⟩:=T5 s;exact⟨(x,y),m,k2,o⟩
theorem qK(o:1<=wd/\wd<=16384):Ca 393 #[Km p,Km q,.int .i64 wd,.int .i64 lm] w (K4 w (λr:Pt×Bool=> .tuple #[Km r.1,.bool r.2]) λ_ _=>True):=by
 refine uf func393 rfl<|ZR<|ZD 8 (λf e h=>W3 (p:=p)) λt=> ?_
 cases t
 .refine ZR<|ZI true<|ZV (.tuple #[Km (0,0),.bool false]) (λf e h=>⟨((0,0),false),rfl,e,Zv⟩)
 refine ZR<|ZD 13 (λf e h=>W3 (p:=q)) λB=> ?_
 cases B
 .refine ZR<|ZI true<|ZV (.tuple #[Km (0,0),.bool false]) (λf e h=>⟨((0,0),false),rfl,e,Zv⟩)
 refine ZR<|ZD 16 (λf e h=>fT o) λE=>uM 30 O ?_ ?_
 .refine ZR<|ZI true<|ZV (.tuple #[Km (0,0),.bool false]) (λf e h=>⟨((0,0),false),rfl,e,Zv⟩)
 refine ZR<|uz O ?_ ?_
 .refine ZR<|ZV (.tuple #[Km (0,0),.bool false]) (λf e h=>⟨((0,0),false),rfl,e,Zv⟩)
 refine ZR<|ZC (λf e h=>Z9 (p:=p) (q:=q)) λs=>ZD 3 (λf e h=>iM (x:=XP.wrap (XQ.wrap (lm*lm))) (y:=XP.wrap (XQ.wrap (XQ.wrap (s.1*s.1)+XQ.wrap (s.2*s.2))))) λD=>uM 63 O ?_ ?_
 .refine ZR<|ZI true<|ZV (.tuple #[Km (0,0),.bool false]) (λf e h=>⟨((0,0),false),rfl,e,Zv⟩)
 refine ZS 6<|uM 66 O ?_ ?_
 .refine ZR<|uz O ?_ ?_
  .refine ZR<|ZV (.tuple #[Km (0,0),.bool false]) (λf e h=>⟨((0,0),false),rfl,e,Zv⟩)
  .refine ZR<|uy (val:=λz:Int=> .int .i64 z) (G:=λ_ _=>True) (xs:=[.v (.int .i64 s.1),.p 6 0,.p 11 0]) O (λβ f e h j=>HC (Kz j (k:=6) (by simp[AV.ids]) (cs:=[.v (.int .i64 wd)]) O) (Kz j (k:=11) (by simp[AV.ids]) (cs:=[.v (.int .i64 (XQ.wrap (XQ.wrap (s.1*s.1)+XQ.wrap (s.2*s.2))))]) O)) λl=>ZR<|uy (val:=λz:Int=> .int .i64 z) (G:=λ_ _=>True) (xs:=[.v (.int .i64 s.2),.p 6 0,.p 11 0]) O (λβ f e h j=>HC (Kz j (k:=6) (by simp[AV.ids]) (cs:=[.v (.int .i64 wd)]) O) (Kz j (k:=11) (by simp[AV.ids]) (cs:=[.v (.int .i64 (XQ.wrap (XQ.wrap (s.1*s.1)+XQ.wrap (s.2*s.2))))]) O)) λm=>ZR<|ZV (.tuple #[Km (l,m),.bool true]) (λf e h=>⟨((l,m),true),rfl,e,Zv⟩)
 .refine ZR<|ZI false<|uy (val:=λz:Int=> .int .i64 z) (G:=λ_ _=>True) (xs:=[.v (.int .i64 s.1),.p 6 0,.p 11 0]) O (λβ f e h j=>HC (Kz j (k:=6) (by simp[AV.ids]) (cs:=[.v (.int .i64 wd)]) O) (Kz j (k:=11) (by simp[AV.ids]) (cs:=[.v (.int .i64 (XQ.wrap (XQ.wrap (s.1*s.1)+XQ.wrap (s.2*s.2))))]) O)) λl=>ZR<|uy (val:=λz:Int=> .int .i64 z) (G:=λ_ _=>True) (xs:=[.v (.int .i64 s.2),.p 6 0,.p 11 0]) O (λβ f e h j=>HC (Kz j (k:=6) (by simp[AV.ids]) (cs:=[.v (.int .i64 wd)]) O) (Kz j (k:=11) (by simp[AV.ids]) (cs:=[.v (.int .i64 (XQ.wrap (XQ.wrap (s.1*s.1)+XQ.wrap (s.2*s.2))))]) O)) λm=>ZR<|ZV (.tuple #[Km (l,m),.bool true]) (λf e h=>⟨((l,m),true),rfl,e,Zv⟩)
theorem iW(j:1<=wd/\wd<=16384):Ca 391 #[Km a,Km v,Km b,.int .i64 wd] w (K4 w (λr:(Pt×Pt)×Bool=> .tuple #[Km r.1.1,Km r.1.2,.bool r.2]) λ_ _=>True):=by
 refine uf func391 rfl<|ZR<|ZD 8 (λf e h=>W3 (p:=a)) λo=> ?_
 cases o
 .refine ZR<|ZI true<|ZV (.tuple #[Km (0,0),Km (0,0),.bool false]) (λf e h=>⟨(((0,0),(0,0)),false),rfl,e,Zv⟩)
 refine ZR<|ZD 13 (λf e h=>W3 (p:=v)) λs=> ?_
 cases s
 .refine ZR<|ZI true<|ZV (.tuple #[Km (0,0),Km (0,0),.bool false]) (λf e h=>⟨(((0,0),(0,0)),false),rfl,e,Zv⟩)
 refine ZR<|ZD 16 (λf e h=>W3 (p:=b)) λt=> ?_
 cases t
 .refine ZR<|ZI true<|ZV (.tuple #[Km (0,0),Km (0,0),.bool false]) (λf e h=>⟨(((0,0),(0,0)),false),rfl,e,Zv⟩)
 refine ZR<|ZC (λf e h=>fT j) λB=>ZI false<|ZC (λf e h=>TU (p:=a) (q:=v)) λx=>ZC (λf e h=>TU (p:=v) (q:=b)) λy=>ZC (λf e h=>I6 (p:=x) j) λn=>ZC (λf e h=>I6 (p:=y) j) λm=>uz O ?_ ?_
 .refine ZR<|ZV (.tuple #[Km (0,0),Km (0,0),.bool false]) (λf e h=>⟨(((0,0),(0,0)),false),rfl,e,Zv⟩)
 refine ZR<|uz O ?_ ?_
 .refine ZR<|ZC (λf e h=>TU (p:=n) (q:=(0,0))) λk=>ZC (λf e h=>TU (p:=m) (q:=(0,0))) λl=>ZV (.tuple #[Km k,Km l,.bool true]) (λf e h=>⟨((k,l),true),rfl,e,Zv⟩)
 .refine ZR<|ZV (.tuple #[Km n,Km m,.bool true]) (λf e h=>⟨((n,m),true),rfl,e,Zv⟩)
theorem Ft(e:r.2=[]):Ca 390 #[Sn r] w (CU w (.slice none 0 0)):=by
 obtain⟨z,l⟩:=r;obtain rfl:l=[]:=e;exact uf func390 rfl<|ZR<|ZI true<|ZW (.slice none 0 0)
theorem Fs(m:r.2≠[])(t:r.2.length<=1000000)(k:N<=w.heap.size):Ca 390 #[Sn r] w (K4 w (λg:Nat=> .slice (some ⟨g,0,none⟩) 1 1) λg u=>K6 u N 296 1 (some ⟨g,0,none⟩) 1 1 ([((r.2,r.1):LP)].flatMap Qc)):=by
 have x:=AY.2 m;refine uf func390 rfl<|ZR<|ZJ (((r.2.length:Int)==0)) false (YR.2 I)<|uk (Lr 132 1 #[(0,Sn r)]) (Kr 1) (λg u=>K6 u w.heap.size 296 1 (some ⟨g,0,none⟩) 1 1 ([((r.2,r.1):LP)].flatMap Qc)) O (λo e h=>Up (s:=1) (cells:= #[Sn r]) O e.size rfl Zd) λj=>ZR<|ZV (.slice (some ⟨j,0,none⟩) 1 1) (λo e h=>⟨j,rfl,e,λu f k2=>((h u f k2).2).rebase λb l=>AO k (((h u f k2).2).lt b l).1⟩)
abbrev pJ(a b:Nat):=(YZ)×{H:List LP // H.length<=a/\(K5 H).flatten.length<=b}
abbrev tx{a b:Nat}(x:pJ a b):YI:= .slice x.1.1 x.2.1.length x.1.2
abbrev tb{a b:Nat}(N:Nat)(x:pJ a b)(u:YM):Prop:=Kf N x.1 x.2.1.length x.2.1 u
abbrev Aa{a b:Nat}:pJ a b:=((none,0),⟨[],AD _,AD _⟩)
theorem T3{l:List Pt}{z:YZ}{b:Nat}(h:l.length<=b):(K5 [((l,z):LP)]).flatten.length<=b:=by
 show([l]:List (List Pt)).flatten.length<=b;simpa using h
def jB(S:Ef):Nat:=if S.j=3 then 16 else 4
theorem gv(Z:Tw S)(R:N<=w.heap.size):Ca 356 #[Km a,Km v,Km b,Bj S y] w (K4 w (λx:pJ 1 (jB S)=>tx x) λx u=>tb N x u):=by
 have M:=Z.wd;refine uf func356 rfl<|ZR<|ZC (λk e h=>IJ (y:=y) Z) λv0=>ZD 8 (λk e h=>W3 (p:=a)) λf1=> ?_
 cases f1
 .refine ZR<|ZI true<|ZV (.slice none 0 0) (λk e h=>⟨Aa,rfl,e,λu o k2=>ux⟩)
 refine ZR<|ZD 13 (λk e h=>W3 (p:=v)) λf2=> ?_
 cases f2
 .refine ZR<|ZI true<|ZV (.slice none 0 0) (λk e h=>⟨Aa,rfl,e,λu o k2=>ux⟩)
 refine ZR<|ZD 18 (λk e h=>W3 (p:=b)) λf3=> ?_
 cases f3
 .refine ZR<|ZI true<|ZV (.slice none 0 0) (λk e h=>⟨Aa,rfl,e,λu o k2=>ux⟩)
 refine ZS 21<|uw (Xj 74 (.tmp 34) (.tmp 35) (Km v) (Km a)) (.bool (v.1==a.1&&v.2==a.2)) O (λk e h=>Oc)<|ZS 23<|uM 37 O ?_ ?_
 .refine ZR<|ZI true<|ZV (.slice none 0 0) (λk e h=>⟨Aa,rfl,e,λu o k2=>ux⟩)
 refine ZS 26<|ZA (Xj 74 (.tmp 39) (.tmp 40) (Km v) (Km b)) (.bool (v.1==b.1&&v.2==b.2)) (λk e h=>Oc)<|uz O ?_ ?_
 .refine ZR<|ZV (.slice none 0 0) (λk e h=>⟨Aa,rfl,e,λu o k2=>ux⟩)
 refine ZR ?_
 by_cases T:S.j=3
 .have wI:jB S=16:=YS T;refine ZJ (S.j==3) true (by rw[T];rfl)<|ZC (λk e h=>RR (p:=v) (N:=w.heap.size) M e.size) λx=> ?_
  by_cases H:x.1.2=[]
  .refine ZC (λk e h=>Ft (r:=x.1) H) λs=>ZV (.slice none 0 0) (λk e h=>⟨Aa,rfl,e,λu o k2=>ux⟩)
  .refine ZC (λk e h=>Fs (r:=x.1) (N:=w.heap.size) H (by have:=x.2;omega) e.size) λg=>ZV (.slice (some ⟨g,0,none⟩) 1 1) (λk e h=>⟨((some ⟨g,0,none⟩,1),⟨[(x.1.2,x.1.1)],AH _,T3 (AO x.2 (by rw[wI];decide))⟩),rfl,e,λu o k2=>Kf.mono (B:=w.heap.size) ⟨(h u o k2).2,λq P=>by obtain rfl:=AA.1 P;exact(h u o k2).1.2⟩ R⟩)
 have wI:jB S=4:=YT T;refine ZJ (S.j==3) false (YR.2 T)<|ZC (λk e h=>iW (a:=a) (v:=v) (b:=b) M) λon=> ?_
 obtain⟨⟨n,m⟩,f⟩:=on;cases f
 .refine ZI true<|ZV (.slice none 0 0) (λk e h=>⟨Aa,rfl,e,λu o k2=>ux⟩)
 refine ZI false<|ZD 4 (λk e h=>Z9 (p:=v) (q:=n)) λE=>uk (Lr 296 2 #[(0,Km v),(1,Km E)]) (Kr 2) (λg u=>K6 u w.heap.size 74 2 (some ⟨g,0,none⟩) 2 2 ([v,E].flatMap K9)) O (λk e h=>Up (s:=2) (cells:=([v,E].flatMap K9).toArray) O e.size rfl Zd) λK=>ZR<|uz O ?_ ?_
 .refine ZR<|ZC (λk e h=>qK (p:=n) (q:=m) (lm:=S.m) M) λt=> ?_
  obtain⟨t,f⟩:=t;cases f
  .refine ZI false<|ZD 4 (λk e h=>Z9 (p:=v) (q:=m)) λD=>uk (Lr 296 1 #[(0,Km D)]) (Kr 1) (Kw 74 (K9 D).toArray) O (λk e h=>Kj O) λQ=>ZS 5<|uA (L:=bl ((some ⟨K,0,none⟩,2):YZ).1) (val:=λl:YZ=> .slice l.1 3 l.2) (Φ':=λl u=>K6 u w.heap.size 74 2 l.1 3 l.2 ([v,E,D].flatMap K9)) (G:=λl u=>K6 u w.heap.size 74 2 l.1 3 l.2 ([v,E,D].flatMap K9)) (My 296 296 (.slice ((some ⟨K,0,none⟩,2):YZ).1 2 ((some ⟨K,0,none⟩,2):YZ).2) (Kr 1 Q)) (λk e h=>U9 (acc:=[v,E]) (z0:=pt 0 0) (bytes:=16) O O rfl Zd Zd rfl (lc D) h.1.1.1.2 e.size h.2 Zd) (λu h=>h.1.1.1.2.blk) (λz' U u X Y h wJ=>wJ) O O λl=>ZR<|ZC (λk e h=>T2 (n:=3) (c:=l.2) (L:=[v,E,D]) (N:=w.heap.size) ((K6.reads h).rows L8 rfl) Zd Zd e.size) λx=> ?_
   by_cases H:x.1.2=[]
   .refine ZC (λk e h=>Ft (r:=x.1) H) λs=>ZV (.slice none 0 0) (λk e h=>⟨Aa,rfl,e,λu o k2=>ux⟩)
   .refine ZC (λk e h=>Fs (r:=x.1) (N:=w.heap.size) H (by have:=x.2;omega) e.size) λg=>ZV (.slice (some ⟨g,0,none⟩) 1 1) (λk e h=>⟨((some ⟨g,0,none⟩,1),⟨[(x.1.2,x.1.1)],AH _,T3 (AO x.2 (by rw[wI];decide))⟩),rfl,e,λu o k2=>Kf.mono (B:=w.heap.size) ⟨(h u o k2).2,λq P=>by obtain rfl:=AA.1 P;exact(h u o k2).1.2⟩ R⟩)
  .refine ZI true<|ZD 4 (λk e h=>Z9 (p:=v) (q:=t)) λJ=>uk (Lr 296 1 #[(0,Km J)]) (Kr 1) (Kw 74 (K9 J).toArray) O (λk e h=>Kj O) λQ=>ZS 5<|uA (L:=bl ((some ⟨K,0,none⟩,2):YZ).1) (val:=λF:YZ=> .slice F.1 3 F.2) (Φ':=λF u=>K6 u w.heap.size 74 2 F.1 3 F.2 ([v,E,J].flatMap K9)) (G:=λF u=>K6 u w.heap.size 74 2 F.1 3 F.2 ([v,E,J].flatMap K9)) (My 296 296 (.slice ((some ⟨K,0,none⟩,2):YZ).1 2 ((some ⟨K,0,none⟩,2):YZ).2) (Kr 1 Q)) (λk e h=>U9 (acc:=[v,E]) (z0:=pt 0 0) (bytes:=16) O O rfl Zd Zd rfl (lc J) h.1.1.1.2 e.size h.2 Zd) (λu h=>h.1.1.1.2.blk) (λz' U u X Y h wJ=>wJ) O O λF=>ZR<|ZD 4 (λk e h=>Z9 (p:=v) (q:=m)) λD=>uk (Lr 296 1 #[(0,Km D)]) (Kr 1) (Kw 74 (K9 D).toArray) O (λk e h=>Kj O) λQ=>ZS 5<|uA (L:=bl F.1) (val:=λl:YZ=> .slice l.1 4 l.2) (Φ':=λl u=>K6 u w.heap.size 74 2 l.1 4 l.2 ([v,E,J,D].flatMap K9)) (G:=λl u=>K6 u w.heap.size 74 2 l.1 4 l.2 ([v,E,J,D].flatMap K9)) (My 296 296 (.slice F.1 3 F.2) (Kr 1 Q)) (λk e h=>U9 (acc:=[v,E,J]) (z0:=pt 0 0) (bytes:=16) O O rfl Zd Zd rfl (lc D) h.1.1 e.size h.2 Zd) (λu h=>h.1.1.blk) (λz' U u X Y h wJ=>wJ) O O λl=>ZR<|ZC (λk e h=>T2 (n:=4) (c:=l.2) (L:=[v,E,J,D]) (N:=w.heap.size) ((K6.reads h).rows L8 rfl) Zd Zd e.size) λx=> ?_
   by_cases H:x.1.2=[]
   .refine ZC (λk e h=>Ft (r:=x.1) H) λs=>ZV (.slice none 0 0) (λk e h=>⟨Aa,rfl,e,λu o k2=>ux⟩)
   .refine ZC (λk e h=>Fs (r:=x.1) (N:=w.heap.size) H (by have:=x.2;omega) e.size) λg=>ZV (.slice (some ⟨g,0,none⟩) 1 1) (λk e h=>⟨((some ⟨g,0,none⟩,1),⟨[(x.1.2,x.1.1)],AH _,T3 (AO x.2 (by rw[wI];decide))⟩),rfl,e,λu o k2=>Kf.mono (B:=w.heap.size) ⟨(h u o k2).2,λq P=>by obtain rfl:=AA.1 P;exact(h u o k2).1.2⟩ R⟩)
 .refine ZR<|ZD 4 (λk e h=>Z9 (p:=v) (q:=m)) λD=>uk (Lr 296 1 #[(0,Km D)]) (Kr 1) (Kw 74 (K9 D).toArray) O (λk e h=>Kj O) λQ=>ZS 5<|uA (L:=bl ((some ⟨K,0,none⟩,2):YZ).1) (val:=λl:YZ=> .slice l.1 3 l.2) (Φ':=λl u=>K6 u w.heap.size 74 2 l.1 3 l.2 ([v,E,D].flatMap K9)) (G:=λl u=>K6 u w.heap.size 74 2 l.1 3 l.2 ([v,E,D].flatMap K9)) (My 296 296 (.slice ((some ⟨K,0,none⟩,2):YZ).1 2 ((some ⟨K,0,none⟩,2):YZ).2) (Kr 1 Q)) (λk e h=>U9 (acc:=[v,E]) (z0:=pt 0 0) (bytes:=16) O O rfl Zd Zd rfl (lc D) h.1.1.2 e.size h.2 Zd) (λu h=>h.1.1.2.blk) (λz' U u X Y h wJ=>wJ) O O λl=>ZR<|ZC (λk e h=>T2 (n:=3) (c:=l.2) (L:=[v,E,D]) (N:=w.heap.size) ((K6.reads h).rows L8 rfl) Zd Zd e.size) λx=> ?_
  by_cases H:x.1.2=[]
  .refine ZC (λk e h=>Ft (r:=x.1) H) λs=>ZV (.slice none 0 0) (λk e h=>⟨Aa,rfl,e,λu o k2=>ux⟩)
  .refine ZC (λk e h=>Fs (r:=x.1) (N:=w.heap.size) H (by have:=x.2;omega) e.size) λg=>ZV (.slice (some ⟨g,0,none⟩) 1 1) (λk e h=>⟨((some ⟨g,0,none⟩,1),⟨[(x.1.2,x.1.1)],AH _,T3 (AO x.2 (by rw[wI];decide))⟩),rfl,e,λu o k2=>Kf.mono (B:=w.heap.size) ⟨(h u o k2).2,λq P=>by obtain rfl:=AA.1 P;exact(h u o k2).1.2⟩ R⟩)
end
section
variable{w W u:YM}{p q a b v:Pt}{g g2 n c N i k:Nat}{z wd lm:Int}{A A2:YY}{L l:List Pt}{S:Ef}{y y0:YZ}{H H0 H2:List LP}
theorem q7(B:Tw S)(t:N<=w.heap.size):Ca 357 #[.agg #[.int .i64 S.w,.int .i64 S.j,.int .i64 S.c,.int .i64 S.m,.slice y.1 S.d.length y.2,.int .i64 S.p],Km a,Km b] w (K4 w (λx:gS 16=>Sn x.1) λx u=>Ud N x.1 u):=by
 have f:=B.wd;refine uf func357 rfl<|ZR<|uz O ?_ ?_
 .refine ZR<|ZC (λo e h=>mD (a:=a) (b:=b) (N:=w.heap.size) f e.size) λx=>ZV (Sn x.1) (λo e h=>⟨⟨x.1,AO x.2 Zd⟩,rfl,e,λu s k2=>Ud.mono (h u s k2).2 t⟩)
 refine ZR<|uz O ?_ ?_
 .refine ZR<|ZC (λo e h=>RR (p:=b) (N:=w.heap.size) f e.size) λx=>ZV (Sn x.1) (λo e h=>⟨x,rfl,e,λu s k2=>Ud.mono (h u s k2).2 t⟩)
 .refine ZR<|ZV (.slice none 0 0) (λo e h=>⟨⟨((none,0),[]),AD _⟩,rfl,e,λ_ _ _=>uU⟩)
theorem ip(s:Tw S)(o:N<=w.heap.size):Ca 353 #[Km p,Bj S y] w (K4 w (λx:gS 16=>Sn x.1) λx u=>Ud N x.1 u):=by
 have f:=s.wd;refine uf func353 rfl<|ZR<|uz O ?_ ?_
 .refine ZR<|ZC (λj e h=>oM (p:=p) (N:=w.heap.size) f e.size) λx=>ZV (Sn x.1) (λj e h=>⟨⟨x.1,AO x.2 Zd⟩,rfl,e,λu m k2=>Ud.mono (h u m k2).2 o⟩)
 refine ZR<|uz O ?_ ?_
 .refine ZR<|ZC (λj e h=>RR (p:=p) (N:=w.heap.size) f e.size) λx=>ZV (Sn x.1) (λj e h=>⟨x,rfl,e,λu m k2=>Ud.mono (h u m k2).2 o⟩)
 .refine ZR<|ZV (.slice none 0 0) (λj e h=>⟨⟨((none,0),[]),AD _⟩,rfl,e,λ_ _ _=>uU⟩)
theorem Ds(t:Kk w A n 2 K9 L)(b1:K8 w g [.slice A n c])(b2:K8 w g2 [.int .i64 (n:Int)])(J:0<=z+(n:Int))(s:1<=n)(G:n<=1000000)(F:z<=2000000):Ca 354 #[.int .i64 z,Kp g,Kp g2] w (K4 w (λp:Pt=>Km p) λ_ _=>True):=by
 obtain⟨m,Z⟩:∃m:Nat,z+(n:Int)=m:=⟨(z+(n:Int)).toNat,by omega⟩
 have o:m%n<n:=CV _ s;obtain⟨a,D⟩:∃v,L[m%n]? =some v:=⟨_,AC (by rw[t.1];exact o)⟩
 obtain⟨ad,x,B⟩:=t.2 _ a D;refine uf func354 rfl<|ZS 5<|us 0 (Ke 296 ⟨g,0,none⟩) (.slice A n c) O (λf e h=>MB (b1.below e) O)<|ZS 5<|us 2 (Ke 3 ⟨g2,0,none⟩) (.int .i64 (n:Int)) O (λf e h=>MB (b2.below e) O)<|ZS 5<|us 4 (Ke 3 ⟨g2,0,none⟩) (.int .i64 (n:Int)) O (λf e h=>MB (b2.below e) O)<|ZS 5<|uh 8 (.int .i64 (XQ.wrap (z+(n:Int)))) (.int .i64 (m:Int)) O (by rw[AQ _ I,Z])<|ZB 5 (C4 .rem 3 (.tmp 8) (.tmp 9) (.int .i64 (m:Int)) (.int .i64 (n:Int))) (.int .i64 ((m%n:Nat):Int)) (λf e h=>He s)<|ZB 6 (Kd 296 (.slice A n c) (m%n:Nat)) (.pointer (some (ad.add (m%n*2)))) (λf e h=>Lh x o)<|ZB 7 (Ke 74 (ad.add (m%n*2))) (Km a) (λf e h=>M5 λj v E=>L5 e (B j v E))<|ZV (Km a) (λf e h=>⟨a,rfl,e,Zv⟩)
def Qs(x:LP):Bool:=decide (0<x.1.length)
structure mo(W w:YM)(L:List Nat)(g:Nat)(bs:List Nat)(H:List LP)(y:YZ)(u:YM):Prop where
 k:Tx L W w u
 b:Kg u g 132 [.slice y.1 H.length y.2]
 row:K6 u W.heap.size 296 1 y.1 H.length y.2 (H.flatMap Qc)
 bk:∀x∈bl y.1,x∈bs\/w.heap.size<=x
theorem m0{f:YM}(h:mo W w (g::bl y0.1) g (bl y0.1) H y f)(k2:∀b,b∈g::bl y0.1\/(w.heap.size<=b/\b<f.heap.size)->u.heap[b]? =f.heap[b]?):
 Kg u g 132 [.slice y.1 H.length y.2]/\K6 u W.heap.size 296 1 y.1 H.length y.2 (H.flatMap Qc)/\∀x∈bl y.1,x∈bl y0.1\/w.heap.size<=x:=
 ⟨h.b.to (k2 g (.inl (BF ..))),h.row.same λb j=>k2 b ((h.bk b j).elim (λe=> .inl (BC _ e)) λe=> .inr ⟨e,(h.row.lt b j).2⟩),h.bk⟩
theorem mB{B o N:Nat}{x:LP}(h:K6 u B 296 1 y.1 H.length y.2 (H.flatMap Qc))(Z:B<=u.heap.size)(J:N<=u.heap.size)(F:Kw 296 (Qc x).toArray o u)(K:H.length<=10000000):
 Mv XM u (bl y.1) (λz:YZ=> .slice z.1 (H.length+1) z.2) (λz v=>K6 v B 296 1 z.1 (H.length+1) z.2 ((H++ [x]).flatMap Qc)/\∀b∈bl z.1,b∈bl y.1\/N<=b) (My 132 132 (.slice y.1 H.length y.2) (Kr 1 o)):=by
 have E:=M2 (P:=XM) (s:=1) (z:= .slice none 0 0) (bytes:=24) (m:=1) (cc:=1) (t:=132) (elem:=296) O O rfl Zd h Z (Mc (n:=1) F rfl) (by intro v f;have f:v∈[X9 x]:=f;obtain rfl:=AA.1 f;rfl) I Zd;have e:(H++ [x]).flatMap Qc=H.flatMap Qc++(Qc x).toArray.toList:=Zs
 rw[e];refine O7 E λz' D b G=> ?_
 rcases D b G with j|j
 .exact .inl j
 .exact .inr I
theorem oU(J:Below W.heap.size W w)(Y:W.heap.size<=g)(e:Kg w g 132 [.slice y0.1 H0.length y0.2])(R:K6 w W.heap.size 296 1 y0.1 H0.length y0.2 (H0.flatMap Qc))(T:Kk w A2 k 1 Qc H2)(P:∀b∈bl A2,b∉g::bl y0.1)(hk:k<=100000)(hn:H0.length<=100000):
 Ca 352 #[.slice A2 k c,Kp g] w (L4 w (g::bl y0.1) (λ_:YZ=> .tuple #[]) λy u=>Kg u g 132 [.slice y.1 (H0++H2.filter Qs).length y.2]/\K6 u W.heap.size 296 1 y.1 (H0++H2.filter Qs).length y.2 ((H0++H2.filter Qs).flatMap Qc)/\∀x∈bl y.1,x∈bl y0.1\/w.heap.size<=x):=by
 have Q:=e.lt;refine uB func352 rfl J<|ZR<|uj (ι:={q:Nat×(YZ) // q.1<=k}) 19 (λq=>⟨[vS 0 A2 k c,vV 1 (Kp g),vS 5 A2 k c,vI 6 (k:Int),vI 7 (q.1.1:Int)],[]⟩) (λq u=>mo W w (g::bl y0.1) g (bl y0.1) (H0++(H2.take q.1.1).filter Qs) q.1.2 u) (λq=>k-q.1.1) (⟨(0,y0),AD _⟩) O Zf Zt (λu h=>⟨⟨h.1,λb M h2 _=>h.2 b M h2⟩,by show Kg u g _ [.slice y0.1 (H0++ []).length y0.2];rw[BZ];exact e.to (h.2 g Y Q),by show K6 u _ _ 1 y0.1 (H0++ []).length y0.2 ((H0++ []).flatMap Qc);rw[BZ];exact R.same λb e=>h.2 b (R.lt b e).1 (R.lt b e).2,λb e=> .inl e⟩) ?_
 rintro⟨⟨i,y⟩,hi⟩ gg;have hi:i<=k:=hi;have hml:H2.length=k:=T.1
 by_cases f:i<k
 case neg=>
  obtain rfl:i=k:=I
  have K:H2.take i=H2:=AR I;have wJ:∀{v:YM},mo W w (g::bl y0.1) g (bl y0.1) (H0++(H2.take i).filter Qs) y v->mo W w (g::bl y0.1) g (bl y0.1) (H0++H2.filter Qs) y v:=λh=>by rw[K]at h;exact h
  refine ZR<|YN ((i:Int)<(i:Int))<|ug O<|ZR<|ZV (.tuple #[]) (λo j h=>⟨y,rfl,(Yh h).k.chg J j,λu k1 k2=>m0 (wJ (Yh h)) k2⟩)
 obtain⟨x,F⟩:=Yg H2 i;obtain⟨ad,s,X⟩:=T.2 i x F;have t:∀{v:YM} {y:YZ} {H:List LP},Below W.heap.size W v->mo W w (g::bl y0.1) g (bl y0.1) H y v->Kk v A2 k 1 Qc H2:=λB h=>T.hold λb e M=>h.k.old J B b M (P b e)
 obtain⟨H,E⟩:∃H,H=H0++(H2.take i).filter Qs:=⟨_,rfl⟩
 have hHl:H.length<=200000:=by
  have:=List.length_filter_le Qs (H2.take i);rw[E,AB];rw[BA]at this;omega
 rw[<-E];refine ZR<|YL ((i:Int)<(k:Int))<|ZA (Kd 132 (.slice A2 k c) i) (.pointer (some (ad.add (i*1)))) (λo j h=>Qy s f)<|ZA (Ke 296 (ad.add (i*1))) (X9 x) (λo j h=>Sk ((t j h).at s F)) ?_
 by_cases Z:0<x.1.length
 case neg=>
  have m:H0++(H2.take (i+1)).filter Qs=H:=by rw[L7 F,List.filter_append,List.filter_cons_of_neg (by unfold Qs;rw[YV Z];decide),E];simp
  refine YN ((x.1.length:Int)>0)<|YA 7 i f<|ui (⟨(i+1,y),f⟩) O Zn Zt (λu h=>by show mo W w (g::bl y0.1) g (bl y0.1) (H0++(H2.take (i+1)).filter Qs) y u;rw[m];exact h)
 have m:H0++(H2.take (i+1)).filter Qs=H++ [x]:=by rw[L7 F,List.filter_append,List.filter_cons_of_pos (by unfold Qs;rw[YU Z]),E];simp
 refine YL ((x.1.length:Int)>0)<|ZA (Ke 132 ⟨g,0,none⟩) (.slice y.1 H.length y.2) (λo j h=>h.b.load1 O)<|uk (Lr 132 1 #[(0,X9 x)]) (Kr 1) (Kw 296 (Qc x).toArray) O (λo j h=>Kj O) λgb=>ZS 3<|uA (L:=bl y.1) (val:=λz':YZ=> .slice z'.1 (H.length+1) z'.2) (Φ':=λz' u=>(Tx (g::bl y0.1) W w u/\Kg u g 132 [.slice y.1 H.length y.2])/\K6 u W.heap.size 296 1 z'.1 (H.length+1) z'.2 ((H++ [x]).flatMap Qc)/\∀b∈bl z'.1,b∈bl y0.1\/w.heap.size<=b) (G:=λz' v=>K6 v W.heap.size 296 1 z'.1 (H.length+1) z'.2 ((H++ [x]).flatMap Qc)/\∀b∈bl z'.1,b∈bl y.1\/w.heap.size<=b) (My 132 132 (.slice y.1 H.length y.2) (Kr 1 gb)) (λo j h=>mB h.1.row j.size h.1.k.1 h.2 I) (λu h=>h.1.row.blk) (λz' wa u U D h wI=>⟨⟨h.1.k.left U D (λb e=>(h.1.bk b e).imp (BC _) id),h.1.b.left D (λe=>h.1.b.ne h.1.row Zd g e rfl)⟩,wI.1,λb e=>(wI.2 b e).elim (h.1.bk b) .inr⟩) O O λz'=>ZR<|ur (L:=[g]) (G:=λu=>Kg u g 132 [.slice z'.1 (H.length+1) z'.2]) (Φ':=λu=>mo W w (g::bl y0.1) g (bl y0.1) (H++ [x]) z' u) (Om 132 ⟨g,0,none⟩ (.slice z'.1 (H.length+1) z'.2)) (λo j h=>h.1.2.store O rfl (λv B=>by have B:=AA.1 B;subst B;rfl)) (λu h=>Za ⟨Y,_,_,_,h.1.2⟩) (λwa u U D h wI=>⟨h.1.1.left U D (λb e=> .inl (by have e:=AA.1 e;subst e;exact BF ..)),by rw[AB];exact wI,by rw[AB];exact h.2.1.left D (λb e X=>h.1.2.ne h.2.1 Zd b e (AA.1 X)),h.2.2⟩) O O<|ZR<|YA 7 i f<|ui (⟨(i+1,z'),f⟩) O Zn Zt (λu h=>by show mo W w (g::bl y0.1) g (bl y0.1) (H0++(H2.take (i+1)).filter Qs) z' u;rw[m];exact h)
end
theorem iB{u:YM}{N s n c:Nat}{e:XX}{A:YY}{xs:List YI}{L:List Pt}(b:L.length=n)(h:K6 u N e s A n c xs):K6 u N e s A L.length c xs:=by rw[b];exact h
theorem ky(n:Nat):(Builtin.zeroCells (Value.agg (K9 (0,0)).toArray).cells n).toList=(AM n ((0,0):Pt)).flatMap K9:=by
 have c:(Value.agg (K9 (0,0)).toArray).cells=(K9 (0,0)).toArray:=rfl;rw[c];apply List.ext_getElem?;intro i;have k:((AM n ((0,0):Pt)).flatMap K9).length=n*2:=by rw[Nq L8,List.length_replicate]
 by_cases hi:i<n*2
 .have f:i/2<n:=I
  obtain⟨v,b⟩:∃v,(K9 (0,0))[i%2]? =some v:=⟨_,AC (by show i%2<2;omega)⟩
  have:=Mr (cl:=K9) (s:=2) (λ_=>rfl) (AM n ((0,0):Pt)) (i/2) (0,0) (i%2) _ (by rw[List.getElem?_replicate,YS f]) b;rw[show i/2*2+i%2=i by omega]at this;rw[this];simp[Builtin.zeroCells,L8,hi];have e:∀j,j<2->(K9 (0,0))[j]? =some (.int .i64 0):=λj h=>by
   rcases(by omega:j=0\/j=1)with rfl|rfl<;>rfl
  rw[e _ I]at b;injection b with b;subst b;rw[e _ I];rfl
 .have g:(Builtin.zeroCells (K9 (0,0)).toArray n).toList.length=n*2:=by simp[Builtin.zeroCells,L8]
  rw[CC I,CC I]
section
variable{w W u:YM}{p q a b v:Pt}{g g2 n c N i k:Nat}{z wd lm:Int}{A A2:YY}{L l M:List Pt}{S:Ef}{y:YZ}
theorem Xl(h:K6 w N 74 2 (some ⟨g,0,none⟩) n c (M.flatMap K9))(E:M.length=n)(hi:i<n){c2:Nat}:
 Mv XM w [g] (λ_:Unit=> .tuple #[]) (λ_ u=>K6 u N 74 2 (some ⟨g,0,none⟩) n c ((M.take i++AM (n-i) ((0,0):Pt)).flatMap K9)) (XD 296 0 (.slice (some ⟨g,i*2,none⟩) (n-i) c2)):=by
 have o:(M.flatMap K9).length=n*2:=by rw[Nq L8,E]
 have f:((AM (n-i) ((0,0):Pt)).flatMap K9).length=(n-i)*2:=by rw[Nq L8,List.length_replicate]
 obtain⟨H,t,k2,x⟩:=h.storeL (P:=XM) (j:=i*2) (vs:=(AM (n-i) ((0,0):Pt)).flatMap K9) (by rw[o,f];omega) (I2 _);have e:(M.flatMap K9).take (i*2)++(AM (n-i) ((0,0):Pt)).flatMap K9++(M.flatMap K9).drop (i*2+((AM (n-i) ((0,0):Pt)).flatMap K9).length)=(M.take i++AM (n-i) ((0,0):Pt)).flatMap K9:=by
  rw[f,BE (by rw[o];omega),BZ,List.flatMap_append,T6]
 rw[e]at x;refine⟨(),H,?_,k2,λs D Z=>x s D λb F=>Z b (.inl F)⟩;obtain⟨m,J⟩:∃m,n-i=m+1:=⟨n-i-1,by omega⟩
 have G:XM.underlying 296=some (.slice 74):=O
 have B:Tz XM 74=some (.agg (K9 (0,0)).toArray):=O
 unfold XD Builtin.clear_;simp only[Array.getElem?_eq_getElem,List.getElem?_toArray,BY,AL,AX,AK,run_underlying G];rw[J]at t ⊢;simp only[AL,AK,Qj B,ky,t,AX]
theorem PO(wJ:Below W.heap.size W w)(Q:W.heap.size<=g)(hn2:2<=n)(hn:n<=100000000)(U:K6 w N 74 2 (some ⟨g,0,none⟩) n c (L.flatMap K9))(T:L.length=n):
 Ca 320 #[.slice (some ⟨g,0,none⟩) n c] w (L4 w [g] (λM:{M:List Pt // 1<=M.length/\M.length<=n}=> .slice (some ⟨g,0,none⟩) M.1.length c) λM u=>K6 u N 74 2 (some ⟨g,0,none⟩) M.1.length c (M.1.flatMap K9)):=by
 have hcap:=U.cap;have R:=(U.lt g (by simp[bl])).2;refine uB func320 rfl wJ<|ZR<|YN ((n:Int)<2)<|uj (ι:={k:Nat // 1<=k/\k<=n}) 61 (λk=>⟨[vS 0 (some ⟨g,0,none⟩) n c,vI 3 k.1],[]⟩) (λ_ u=>K6 u N 74 2 (some ⟨g,0,none⟩) n c (L.flatMap K9)/\Kt W w g u) (λk=>n-k.1) (⟨1,AH _,by omega⟩) O Zf Zt (λu h=>⟨U.same λb B=>(by have B:=AA.1 B;subst B;exact h.2 _ Q R),h.1,λb h1 K _=>h.2 b h1 K⟩) ?_
 rintro⟨k,hk1,hkn⟩ gg
 by_cases t:k<n
 case neg=>
  obtain rfl:k=n:=I
  refine ZR<|YN ((k:Int)<(k:Int))<|ug O<|ZR<|ZV (.slice (some ⟨g,0,none⟩) k c) (λm f h=>⟨⟨L,by omega,by omega⟩,by show Ending.returned (BB _ k c)=Ending.returned (BB _ L.length c);rw[T],(Yh h).2.chg wJ f,λu k1 k2=>iB T ((Yh h).1.same λb B=>k2 b (.inl B))⟩)
 obtain⟨x,J⟩:∃v,L[k]? =some v:=⟨_,AC I⟩
 obtain⟨y,X⟩:∃v,L[k-1]? =some v:=⟨_,AC I⟩
 refine ZR<|YL ((k:Int)<(n:Int))<|YB 22 ((k:Int)-1) ((k-1:Nat):Int)<|ZB 2 (Kd 296 (.slice (some ⟨g,0,none⟩) n c) k) (.pointer (some ⟨g,k*2,none⟩)) (λm f h=>Kc (elem:=74) O O t)<|ZB 3 (Ke 74 ⟨g,k*2,none⟩) (Km x) (λm f h=>Ka (vs:=K9 x) O O (Ln L8 h.1 I J))<|ZB 7 (Kd 296 (.slice (some ⟨g,0,none⟩) n c) ((k-1:Nat):Int)) (.pointer (some ⟨g,(k-1)*2,none⟩)) (λm f h=>Kc (elem:=74) O O I)<|us 8 (Ke 74 ⟨g,(k-1)*2,none⟩) (Km y) O (λm f h=>Ka (vs:=K9 y) O O (Ln L8 h.1 I X))<|ZS 9<|ZB 9 (Xj 74 (.tmp 19) (.tmp 24) (Km x) (Km y)) (.bool (x.1==y.1&&x.2==y.2)) (λm f h=>Oc) ?_
 cases he:(x.1==y.1&&x.2==y.2)
 case false=>
  refine ZI false<|YA 3 k t<|ui (⟨k+1,by omega,t⟩) O Zn Zt (λ_ h=>h)
 refine uu true O<|ZS 2<|ZA (lA 296 (.slice (some ⟨g,0,none⟩) n c) k) (.slice (some ⟨g,k*2,none⟩) (n-k) (c-k)) (λm f h=>Ug (e:=74) O O O I I)<|uj (ι:={q:(Nat×Nat)×List Pt // (k<=q.1.1/\q.1.1+1<=k+q.1.2)/\k+q.1.2<=n/\q.2.length=n}) 61 (λq=>⟨[vS 0 (some ⟨g,0,none⟩) n c,vI 3 (q.1.1.1:Nat),vS 4 (some ⟨g,k*2,none⟩) (n-k) (c-k),vI 5 (q.1.1.2:Nat)],[]⟩) (λq u=>K6 u N 74 2 (some ⟨g,0,none⟩) n c (q.1.2.flatMap K9)/\Kt W w g u) (λq=>n-q.1.1.2) (⟨((k,1),L),⟨AH _,AH _⟩,Zn,T⟩) O Zf Zt (λu h=>h) ?_
 rintro⟨⟨⟨i,j⟩,M⟩,⟨D,F⟩,hj,E⟩ gg2;have D:k<=i:=D;have F:i+1<=k+j:=F;have hj:k+j<=n:=hj;have E:M.length=n:=E
 by_cases o:j<n-k
 case neg=>
  refine ZR<|YN ((j:Int)<((n-k:Nat):Int))<|ug O<|ZS 2 ?_
  have P:i<n:=I
  have hMi:(M.take i++AM (n-i) ((0,0):Pt)).length=n:=by rw[AB,BA,List.length_replicate];omega
  refine uw (lA 296 (.slice (some ⟨g,0,none⟩) n c) i) (.slice (some ⟨g,i*2,none⟩) (n-i) (c-i)) O (λm f h=>Ug (e:=74) O O O I I)<|ZS 3<|uA (L:=[g]) (val:=λ_:Unit=> .tuple #[]) (Φ':=λ_ u=>K6 u N 74 2 (some ⟨g,0,none⟩) n c ((M.take i++AM (n-i) ((0,0):Pt)).flatMap K9)/\Kt W w g u) (G:=λ_ u=>K6 u N 74 2 (some ⟨g,0,none⟩) n c ((M.take i++AM (n-i) ((0,0):Pt)).flatMap K9)) (XD 296 0 (.slice (some ⟨g,i*2,none⟩) (n-i) (c-i))) (λm f h=>Xl h.1 E P) (λu h=>Za ⟨Q,(h.1.blk _ (by simp[bl])).2⟩) (λ_ wa u e1 Z h Y=>⟨Y,h.2.left e1 Z⟩) O O λ_=>ZS 2<|ZA (oV 296 (.slice (some ⟨g,0,none⟩) n c) i) (.slice (some ⟨g,0,none⟩) i c) (λm f h=>Xu (e:=74) (s:=2) O O O I)<|ug O<|ZR ?_
  have wI:(M.take i).length=i:=by rw[BA];omega
  have H:∀u,K6 u N 74 2 (some ⟨g,0,none⟩) n c ((M.take i++AM (n-i) ((0,0):Pt)).flatMap K9)->K6 u N 74 2 (some ⟨g,0,none⟩) (M.take i).length c ((M.take i).flatMap K9):=λu h=>by
   have K:=h.cut (i:=i) I;rw[<-T6,List.take_append_of_le_length I,AR I]at K;exact iB wI K
  refine ZV (.slice (some ⟨g,0,none⟩) i c) (λm f h=>⟨⟨M.take i,by omega,by omega⟩,by show Ending.returned (BB _ i c)=Ending.returned (BB _ (M.take i).length c);rw[wI],(Yh h).2.chg wJ f,λu k1 k2=>H u ((Yh h).1.same λb B=>k2 b (.inl B))⟩)
 obtain⟨x,J⟩:∃v,M[k+j]? =some v:=⟨_,AC I⟩
 obtain⟨y,X⟩:∃v,M[k+j-1]? =some v:=⟨_,AC I⟩
 refine ZR<|YL ((j:Int)<((n-k:Nat):Int))<|YB 41 ((j:Int)-1) ((j-1:Nat):Int)<|ZB 2 (Kd 296 (.slice (some ⟨g,k*2,none⟩) (n-k) (c-k)) j) (.pointer (some ⟨g,(k+j)*2,none⟩)) (λm f h=>by rw[show(k+j)*2=k*2+j*2 by omega];exact Q9 (elem:=74) O O o)<|ZB 3 (Ke 74 ⟨g,(k+j)*2,none⟩) (Km x) (λm f h=>Ka (vs:=K9 x) O O (Ln L8 h.1 I J))<|ZB 7 (Kd 296 (.slice (some ⟨g,k*2,none⟩) (n-k) (c-k)) ((j-1:Nat):Int)) (.pointer (some ⟨g,(k+j-1)*2,none⟩)) (λm f h=>by rw[show(k+j-1)*2=k*2+(j-1)*2 by omega];exact Q9 (elem:=74) O O I)<|us 8 (Ke 74 ⟨g,(k+j-1)*2,none⟩) (Km y) O (λm f h=>Ka (vs:=K9 y) O O (Ln L8 h.1 I X))<|ZS 9<|ZB 9 (cS 74 (.tmp 38) (.tmp 43) (Km x) (Km y)) (.bool (!(x.1==y.1&&x.2==y.2))) (λm f h=>Br) ?_
 cases he:(!(x.1==y.1&&x.2==y.2))
 case false=>
  refine ZI false<|YA 5 j o<|ui (⟨((i,j+1),M),⟨D,Zn⟩,Zn,E⟩) O Zn Zt (λ_ h=>h)
 refine ZI true<|ZA (Kd 296 (.slice (some ⟨g,k*2,none⟩) (n-k) (c-k)) j) (.pointer (some ⟨g,(k+j)*2,none⟩)) (λm f h=>by rw[show(k+j)*2=k*2+j*2 by omega];exact Q9 (elem:=74) O O o)<|ZA (Ke 74 ⟨g,(k+j)*2,none⟩) (Km x) (λm f h=>Ka (vs:=K9 x) O O (Ln L8 h.1 I J))<|ZA (Kd 296 (.slice (some ⟨g,0,none⟩) n c) i) (.pointer (some ⟨g,i*2,none⟩)) (λm f h=>Kc (elem:=74) O O I)<|ur (L:=[g]) (G:=λu=>K6 u N 74 2 (some ⟨g,0,none⟩) n c ((M.set i x).flatMap K9)) (Φ':=λu=>K6 u N 74 2 (some ⟨g,0,none⟩) n c ((M.set i x).flatMap K9)/\Kt W w g u) (Om 74 ⟨g,i*2,none⟩ (Km x)) (λm f h=>K6.setE L8 h.1 (by rw[E];omega) rfl O (lc x)) (λu h=>Za ⟨Q,(h.1.blk _ (by simp[bl])).2⟩) (λwa u e1 Z h Y=>⟨Y,h.2.left e1 Z⟩) O O<|ZR<|YB 3 ((i:Int)+1) ((i+1:Nat):Int)<|YA 5 j o<|ui (⟨((i+1,j+1),M.set i x),⟨Zn,Zn⟩,Zn,by show(M.set i x).length=n;rw[BL,E]⟩) O Zn Zt (λ_ h=>h)
theorem J8{A:YY}(h:n<2):Ca 320 #[.slice A n c] w (CU w (.slice A n c)):=uf func320 rfl<|ZR<|YL ((n:Int)<2)<|ZW (.slice A n c)
theorem bJ:Ca 268 #[.slice none 0 0] w (CU w (.slice none 0 0)):=uf func268 rfl<|ZR<|ZI true<|ZW (.slice none 0 0)
theorem RI(o:Below W.heap.size W w)(s:W.heap.size<=g)(x:1<=n)(t:n<=100000000)(j:K6 w N 74 2 (some ⟨g,0,none⟩) n c (L.flatMap K9))(h:L.length=n):
 Ca 320 #[.slice (some ⟨g,0,none⟩) n c] w (L4 w [g] (λM:{M:List Pt // 1<=M.length/\M.length<=n}=> .slice (some ⟨g,0,none⟩) M.1.length c) λM u=>K6 u N 74 2 (some ⟨g,0,none⟩) M.1.length c (M.1.flatMap K9)):=by
 by_cases m:2<=n
 .exact PO o s m t j h
 refine(J8 (A:=some ⟨g,0,none⟩) (c:=c) I).mono λe E k=> ?_
 obtain⟨_,B,k2,F⟩:=k;exact⟨⟨L,by omega,by omega⟩,by rw[B];show Ending.returned _=Ending.returned (.slice _ L.length c);rw[h],⟨k2.os,k2.tape,k2.output,k2.size,λb f _=>k2.block b f⟩,λu D m=>iB h (j.same λb f=>(m b (.inl f)).trans (k2.block b (j.lt b f).2))⟩
theorem KV{cl:Bool}:Ca 288 #[.agg #[.slice none 0 0,.bool cl]] w (CU w (.agg #[.slice none 0 0,.bool cl])):=by
 refine uf func288 rfl<|ZR<|ZC (λf e h=>bJ) λa=>ZC (λf e h=>J8 (n:=0) (c:=0) (A:=none) Zd) λb=>uR O<|ZR ?_
 cases cl
 .exact ZR<|ZI false<|ZW (.agg #[.slice none 0 0,.bool false])
 .exact ZR<|ZI false<|ZW (.agg #[.slice none 0 0,.bool true])
theorem N_{cl:Bool}{ad:XR}(R:Kk w (some ad) n 2 K9 L)(X:n<=1000000)(P:1<=n)(U:N<=w.heap.size):Ca 288 #[.agg #[.slice (some ad) n c,.bool cl]] w (K4 w (λx:gS n=> .agg #[Sn x.1,.bool cl]) λx u=>Ud N x.1 u/\1<=x.1.2.length):=by
 have Y:=R.1;refine uf func288 rfl<|ZR<|ZC (λj f h=>GD (c:=c) (N:=w.heap.size) (R.below f) X f.size) λq=>um (p:=∃gq,(q.1=some ⟨gq,0,none⟩/\w.heap.size<=gq)) (λj f h=>by obtain⟨gq,Q,_⟩:=h.2.cells I;exact⟨gq,Q,(h.2.lt gq (by rw[Q];simp[bl])).1⟩) O (λK=> ?_)
 obtain⟨gq,K,o⟩:=K;obtain⟨qA,cc⟩:=q;obtain rfl:qA=some ⟨gq,0,none⟩:=K;refine uD (L:=[gq]) (val:=λM:{M:List Pt // 1<=M.length/\M.length<=n}=> .slice (some ⟨gq,0,none⟩) M.1.length cc) (G:=λM u=>K6 u w.heap.size 74 2 (some ⟨gq,0,none⟩) M.1.length cc (M.1.flatMap K9)) (Φ':=λM u=>K6 u w.heap.size 74 2 (some ⟨gq,0,none⟩) M.1.length cc (M.1.flatMap K9)) (λj f h=>RI f o P I h.2 Y) (λu h=>Za ⟨o,(h.2.blk _ (by simp[bl])).2⟩) (λM wa u e1 e2 h hG=>hG) O O (λM0=> ?_);obtain⟨M0,H,wI⟩:=M0;refine ZR<|uj (ι:={q:Nat×List Pt // (1<=q.1/\q.1<=n)/\q.2.length=q.1}) 36 (λq=>⟨[(1,.p 1 0),(2,.p 2 0),vS 3 (some ⟨gq,0,none⟩) q.1.1 cc],[(1,[.v (.slice (some ad) n c),.v (.bool cl)]),(2,[.v (.slice none 0 0),.v (.bool false)])]⟩) (λq u=>K6 u w.heap.size 74 2 (some ⟨gq,0,none⟩) q.1.1 cc (q.1.2.flatMap K9)) (λq=>q.1.1) (⟨(M0.length,M0),⟨H,wI⟩,rfl⟩) O Zf Zt (λ_ h=>h) ?_
 rintro⟨⟨m,M⟩,⟨D,t⟩,F⟩ gg;have D:1<=m:=D;have t:m<=n:=t;have F:M.length=m:=F;have fin:∀u,K6 u w.heap.size 74 2 (some ⟨gq,0,none⟩) m cc (M.flatMap K9)->Ud N ((some ⟨gq,0,none⟩,cc),M) u/\1<=M.length:=λu h=>⟨Ud.mono (B:=w.heap.size) (iB F h) U,by omega⟩
 have J:∀cl:Bool,Ending.returned (Value.agg #[.slice (some ⟨gq,0,none⟩) m cc,.bool cl])=Ending.returned (.agg #[Sn ((some ⟨gq,0,none⟩,cc),M),.bool cl]):=λcl=>by rw[<-F]
 cases cl
 .refine ZR<|ZI false<|ug O<|ZR<|ZV (.agg #[.slice (some ⟨gq,0,none⟩) m cc,.bool false]) (λj f h=>⟨⟨((some ⟨gq,0,none⟩,cc),M),Zn⟩,J false,f,λu E k2=>fin u (h u E k2)⟩)
 by_cases wJ:1<m
 case neg=>
  refine ZS 7<|YG 14 ((m:Int)>1) I<|ZI false<|ug O<|ZR<|ZV (.agg #[.slice (some ⟨gq,0,none⟩) m cc,.bool true]) (λj f h=>⟨⟨((some ⟨gq,0,none⟩,cc),M),Zn⟩,J true,f,λu E k2=>fin u (h u E k2)⟩)
 obtain⟨x,Z⟩:∃v,M[m-1]? =some v:=⟨_,AC I⟩
 obtain⟨y,hy⟩:∃v,M[0]? =some v:=⟨_,AC I⟩
 refine ZS 7<|YD 14 ((m:Int)>1) I<|ZS 12<|YC 19 ((m:Int)-1) ((m-1:Nat):Int)<|ZB 12 (Kd 296 (.slice (some ⟨gq,0,none⟩) m cc) ((m-1:Nat):Int)) (.pointer (some ⟨gq,(m-1)*2,none⟩)) (λj f h=>Kc (elem:=74) O O I)<|ZB 13 (Ke 74 ⟨gq,(m-1)*2,none⟩) (Km x) (λj f h=>Ka (vs:=K9 x) O O (Ln L8 h (show 0<m by omega) Z))<|ZB 15 (Kd 296 (.slice (some ⟨gq,0,none⟩) m cc) (0:Nat)) (.pointer (some ⟨gq,0*2,none⟩)) (λj f h=>Kc (elem:=74) O O I)<|us 16 (Ke 74 ⟨gq,0*2,none⟩) (Km y) O (λj f h=>Ka (vs:=K9 y) O O (Ln L8 h (show 0<m by omega) hy))<|ZS 17<|ZB 17 (Xj 74 (.tmp 21) (.tmp 24) (Km x) (Km y)) (.bool (x.1==y.1&&x.2==y.2)) (λj f h=>Oc) ?_
 cases he:(x.1==y.1&&x.2==y.2)
 case false=>
  refine ZI false<|ug O<|ZR<|ZV (.agg #[.slice (some ⟨gq,0,none⟩) m cc,.bool true]) (λj f h=>⟨⟨((some ⟨gq,0,none⟩,cc),M),Zn⟩,J true,f,λu E k2=>fin u (h u E k2)⟩)
 refine uu true O<|ZS 4<|YB 30 ((m:Int)-1) ((m-1:Nat):Int)<|um (p:=m<=cc) (λu hu h=>h.cap) O λT=>ZA (oV 296 (.slice (some ⟨gq,0,none⟩) m cc) (m-1:Nat)) (.slice (some ⟨gq,0,none⟩) (m-1) cc) (λj f h=>Xu (e:=74) (s:=2) O O O I)<|ui (⟨(m-1,M.take (m-1)),⟨Zn,Zn⟩,by show(M.take (m-1)).length=m-1;rw[BA];omega⟩) O Zn Zt (λu h=>by have wJ:=h.cut (i:=m-1) (show m-1<=m by omega);rw[<-T6]at wJ;exact wJ)
theorem R_{cl:Bool}{ad:XR}(m:Kk w (some ad) n 2 K9 L)(j:n<=1000000)(e:1<=n)(f:N<=w.heap.size):Ca 288 #[.agg #[.slice (some ad) n c,.bool cl]] w (K4 w (λx:gS n=> .agg #[Sn x.1,.bool cl]) λx u=>Ud N x.1 u):=
 (N_ m j e f).mono λ_ _ k=>k.cast λ_ _ h=>h.1
end
end Go.Proofs.YtoakjcolbjifnaaGreatDoor
