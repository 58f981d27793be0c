/-
 A part of the proof.
-/
import Derived.Test.YtoakjcolbjifnaaGreatDoorBBf
open Array renaming getElem?_eq_some_iff->AM,getElem?_modify->CK
open Bool renaming and_eq_true->BB,false_eq_true->CE,or_eq_true->CI,false_or->CM
open Function renaming comp_def->DE
open Go.IntWalk renaming i64_in->AL
open Go.Result renaming andThen_ok->AU,andThen->CV
open Go.Sem renaming run_bind->BF,run_pure->BG
open Go.Shelf renaming Ren->CX
open Go.Value renaming slice->CJ,int->CP
open Go.World renaming cell?->CR
open List renaming length_append->AA,mem_singleton->AB,getElem?_eq_getElem->AD,mem_of_getElem?->AE,take_append_drop->AF,length_take->AI,mem_append->AN,append_assoc->AO,getElem?_eq_some_iff->AP,mem_cons->AQ,getElem?_take->AR,length_map->AW,take_of_length_le->AX,replicate->AY,length_drop->AZ,all_eq_true->BA,flatMap_cons->BE,ext_getElem?->BI,nil_append->BK,getElem?_eq_none->BL,map_append->BM,getElem?_append_right->BN,length_cons->BO,drop_of_length_le->BS,range->BT,take_length->BY,append_nil->CA,mem_map->CB,mem_range->CC,not_mem_nil->CG,length_pos_iff->CN,getElem?_map->CQ
open Nat renaming le_refl->AC,le_trans->AH,zero_le->AK,lt_of_lt_of_le->BC,mul_le_mul_right->BD,add_mul->BJ,add_sub_cancel_left->BQ,min_eq_left->BR,add_one_sub_one->BU,zero_add->BV,beq->CF,mul_comm->CH,eq_of_beq_eq_true->CL,lt_or_ge->CO,not_lt_zero->CS,mul_le_mul->CT,le_of_eq->CW,add_comm->CY,zero_mul->CZ,mul_one->DB,beq_eq->DC
open Option renaming map_some->BH,isSome_iff_exists->BP,bind_some->BZ,isSome_none->CD
open Option.some renaming injEq->BW
open Prod.mk renaming injEq->BX
open Go renaming World->YM,Value->YI,Program->YH,Operand->XZ,Deferred->XY,TypeId->XX,Calls->XW,PanicEntry->XV,FuncId->XU,Oper->XT,Ending->XS,Addr->XR
open Go.IntKind renaming i64->XQ,u64->XP,u32->XO,u8->XN
namespace Go.Proofs.YtoakjcolbjifnaaGreatDoor
set_option maxRecDepth 100000
set_option maxHeartbeats 8000000
set_option linter.unusedVariables false
set_option linter.unusedSimpArgs false
open Go.RowKit Go.Proofs.Tryz
open Go.Proofs.Tryz renaming prog->XM
def oV(t:XX)(s:YI)(i:Int):Sem Next:=Instr.sliceAt t s none (some (.int .i64 i)) none >>= λv=>pure (.value v)
def lA(t:XX)(s:YI)(i:Int):Sem Next:=Instr.sliceAt t s (some (.int .i64 i)) none none >>= λv=>pure (.value v)
def XD(t ty:XX)(s:YI):Sem Next:=Builtin.clear_ #[t] ty #[s] >>= λv=>pure (.value v)
section
variable{P:YH}{w:YM}{g n c i s j:Nat}{t e ty:XX}{A:YY}{z:YI}
theorem Xu(f:P.underlying t=some (.slice e))(b:P.elem t=e)(h:Mq P e=some s)(hi:i<=c):(oV t (.slice (some ⟨g,0,none⟩) n c) i).run P w= .ok (.value (.slice (some ⟨g,0,none⟩) i c)) w:=by
 have l:=run_slice_h (P:=P) w t (some ⟨g,0,none⟩) n c (by rw[b];exact f) .i64 i I I;have k:=run_sliceAt_slice (P:=P) w t (.slice (some ⟨g,0,none⟩) n c) none (some (.int .i64 i)) none (by rw[b];exact f);simp only[oV,BF,k,l,b,Lb h,AU,BG];simp[sliced,Addr.add]
theorem Ug(f:P.underlying t=some (.slice e))(b:P.elem t=e)(h:Mq P e=some s)(hi:i<c)(m:i<=n):(lA t (.slice (some ⟨g,0,none⟩) n c) i).run P w= .ok (.value (.slice (some ⟨g,i*s,none⟩) (n-i) (c-i))) w:=by
 have l:=run_slice_l (P:=P) w t (some ⟨g,0,none⟩) n c (by rw[b];exact f) .i64 i I I;have k:=run_sliceAt_slice (P:=P) w t (.slice (some ⟨g,0,none⟩) n c) (some (.int .i64 i)) none none (by rw[b];exact f);simp only[lA,BF,k,l,b,Lb h,AU,BG];have:c≠i:=I
 simp[sliced,this,Addr.add_mid]
theorem Q9{elem:XX}{off k:Nat}(h:P.underlying t=some (.slice elem))(f:Mq P elem=some s)(b:k<n):(Kd t (.slice (some ⟨g,off,none⟩) n c) k).run P w= .ok (.value (.pointer (some ⟨g,off+k*s,none⟩))) w:=by
 have:=L9 (P:=P) (w:=w) (ad:=⟨g,off,none⟩) (n:=n) (c:=c) h f b;rw[Addr.add_mid]at this;exact this
theorem K6.storeL{B:Nat}{xs vs:List YI}(h:K6 w B e s (some ⟨g,0,none⟩) n c xs)(Q:j+vs.length<=xs.length)(H:∀u∈vs,u.oneCell'=true):
 ∃D,(storeCells ⟨g,j,none⟩ vs 0).run P w= .ok () D/\Ei [g] w D/\∀l,D.heap.size<=l.heap.size->(∀b∈[g],l.heap[b]? =D.heap[b]?)->K6 l B e s (some ⟨g,0,none⟩) n c (xs.take j++vs++xs.drop (j+vs.length)):=by
 obtain⟨F,J⟩:=h;rcases J with ⟨m,_⟩|⟨Z,cap,f,m,M,G,E,N,K,L⟩
 .cases m
 injection m with m _ h3;injection m with m;injection m with m _ _;subst m;subst h3;have x:xs.length<=f.size:=by rw[F,K];exact BD _ E
 have v:f.toList=xs++f.toList.drop xs.length:=by
  rw[<-L,AI,BR (by rw[F]at x;simpa using x),AF]
 have p:=run_storeCells_at P g j e vs 0 f w G I H;rw[Nat.add_zero]at p;have y:f.toList.take j++vs++f.toList.drop (j+vs.length)=(xs.take j++vs++xs.drop (j+vs.length))++f.toList.drop xs.length:=by
  rw[v,List.take_append_of_le_length I,List.drop_append_of_le_length I];simp
 have o:(xs.take j++vs++xs.drop (j+vs.length)).length=n*s:=by
  simp only[AA,AI,AZ];omega
 rw[y]at p;refine⟨w.setRow g ((xs.take j++vs++xs.drop (j+vs.length))++f.toList.drop xs.length).toArray,p,⟨rfl,rfl,rfl,by rw[O1];exact AC _,λk _ wI=>Na _ _ _ _ (by simpa using wI)⟩,λl R k2=>⟨o,.inr ⟨g,c,((xs.take j++vs++xs.drop (j+vs.length))++f.toList.drop xs.length).toArray,rfl,M,?_,E,N,?_,?_⟩⟩⟩
 .rw[k2 g Zs];simp only[World.setRow,CK,if_true,G,BH]
 .simp only[List.size_toArray,AA,AI,AZ,Array.length_toList];omega
 .show List.take (n*s) ((xs.take j++vs++xs.drop (j+vs.length))++f.toList.drop xs.length)=_;rw[<-o,List.take_left]
theorem K6.storeN{B:Nat}{xs:List YI}{v:YI}(h:K6 w B e s (some ⟨g,0,none⟩) n c xs)(o:Mq P t=some v.cells.toList.length)(m:j+v.cells.toList.length<=xs.length)(x:∀u∈v.cells.toList,u.oneCell'=true):
 ∃k,(Om t ⟨g,j,none⟩ v).run P w= .ok .skip k/\Ei [g] w k/\∀f,k.heap.size<=f.heap.size->(∀b∈[g],f.heap[b]? =k.heap[b]?)->K6 f B e s (some ⟨g,0,none⟩) n c (xs.take j++v.cells.toList++xs.drop (j+v.cells.toList.length)):=by
 obtain⟨k,l,k2,p⟩:=h.storeL (P:=P) m x;refine⟨k,?_,k2,p⟩;simp only[Om,Instr.storeAt,Instr.sureAddr,storeVar,BF,BG,AU,Lb o];rw[YT Zs];simp only[l,BG,BF,AU]
end
section
variable{w W:YM}{g gc n c B K K1 K2:Nat}{l:List RQ}{a b:RV}{p q:Rat}
theorem cb:(Kv p q==0)=decide (p=q):=by
 unfold Kv
 by_cases h:p<q
 .rw[YS h,YV (by grind)];rfl
 .rw[YT h]
  by_cases e:p=q
  .rw[YS e,YU e];rfl
  .rw[YT e,YV e];rfl
abbrev Ja:YI:= .func (.func 133) #[] #[]
theorem qi(f:Nf a p K1 w)(j:Nf b q K2 w)(k:2<=K1/\2<=K2/\K1+K2<=68719476736)(m:Kg w gc 198 [Ja]):Ca 374 #[a.val,b.val,Kp gc] w (CU w (.bool (decide (p=q)))):=uf func374 rfl<|ZR<|ZA (Ke 198 ⟨gc,0,none⟩) (Ja) (λo e h=>(m.below e).load1 O)<|ZC (λo e h=>Lv (f.below e) (j.below e) k) λu=>ZX (.bool (Kv p q==0)) (by rw[cb])
def Kt(W w:YM)(g:Nat)(u:YM):Prop:=w.heap.size<=u.heap.size/\∀b,W.heap.size<=b->b<w.heap.size->b≠g->u.heap[b]? =w.heap[b]?
theorem Kt.old{u:YM}(h:Kt W w g u)(f:Below W.heap.size W w)(m:Below W.heap.size W u):∀b,b<w.heap.size->b≠g->u.heap[b]? =w.heap[b]? :=λb k j=>by
 rcases CO b W.heap.size with e|e
 .rw[m.block b e,f.block b e]
 .exact h.2 b e k j
theorem Kt.chg{u:YM}(h:Kt W w g u)(e:Below W.heap.size W w)(f:Below W.heap.size W u):Ei [g] w u:=
 ⟨f.os.trans e.os.symm,f.tape.trans e.tape.symm,f.output.trans e.output.symm,h.1,λb k j=>h.old e f b k (by simpa using j)⟩
theorem Kt.left{u e:YM}(h:Kt W w g e)(k:e.heap.size=u.heap.size)(j:∀b,b∉[g]->e.heap[b]? =u.heap[b]?):Kt W w g u:=
 ⟨by rw[<-k];exact h.1,λb o m f=>(j b (by simpa using f)).symm.trans (h.2 b o m f)⟩
theorem Og{r:RV}{q:Rat}(h:Kn r q K w):∀b∈M6 r,b<w.heap.size:=λb e=>by
 have:∃cs ty own,w.heap[b]? =some (.cells cs ty own):=by
  rcases AN.1 e with e|e
  .exact(h.1.2.2.2.blk b e).2
  .exact(h.2.2.2.2.blk b e).2
 obtain⟨_,_,_,f⟩:=this;exact(AM.1 f).1
theorem Kt.fr{u:YM}{z:RQ}(h:Kt W w g u)(k:Below W.heap.size W w)(m:Below W.heap.size W u)(f:Kn z.1 z.2 K w)(o:g∉M6 z.1):Kn z.1 z.2 K u:=
 f.same h.1 λb j=>h.old k m b (Og f b j) λe=>o (e▸j)
theorem Dr{u:YM}{L:List RQ}{k:Nat}{x:RQ}(h:K6 u B 53 4 (some ⟨g,0,none⟩) n c (L.flatMap Oe))(s:0<n)(f:L[k]? =some x):u.rangeAt g (k*4) x.1.cl:=λj v m=>by
 obtain⟨t,e,o⟩:=h.cells s;injection e with e;injection e with e;subst e;exact o _ _ (Mr (cl:=Oe) Sq L k x j v f m)
theorem K6.cap{u:YM}{e:XX}{s:Nat}{A:YY}{xs:List YI}(h:K6 u B e s A n c xs):n<=c:=by
 rcases h.2 with ⟨f,k⟩|⟨m,cap,j,f,_,_,k,_⟩
 .omega
 .injection f with _ _ f;omega
theorem HJ{u:YM}{e:XX}{A:YY}{L:List RQ}(h:K6 u B e 4 A n c (L.flatMap Oe)):L.length=n:=by
 have:=h.len;have f:∀l:List RQ,(l.flatMap Oe).length=l.length*4:=λl=>by
  induction l with
  |nil=>rfl
  |cons x l j=>rw[BE,AA,j,Sq,BO];omega
 rw[f]at this;omega
theorem Ru(l:List RQ):(l.flatMap Oe).length=l.length*4:=by
 induction l with
 |nil=>rfl
 |cons x l e=>rw[BE,AA,e,Sq,BO];omega
theorem dE(r t:List RQ)(x y:RQ):((r++y::t).flatMap Oe).take (r.length*4)++Oe x++((r++y::t).flatMap Oe).drop (r.length*4+(Oe x).length)=((r++ [x])++t).flatMap Oe:=by
 rw[Sq,List.flatMap_append,BE,<-Ru,List.take_left,List.drop_append,BS I,BQ,BK];rw[show(Oe y++t.flatMap Oe).drop 4=t.flatMap Oe from by rw[<-Sq y,List.drop_left]];simp[List.flatMap_append]
def DD(l r:List RQ)(i:Nat):Prop:=r.Sublist (l.take i)/\r.Pairwise (λa b=>a.2<b.2)/\∀x∈l.take i,∃y∈r,y.2=x.2
theorem DD.old{r:List RQ}{i:Nat}{x y:RQ}(h:DD l r i)(j:l[i]? =some x)(k:l[i-1]? =some y)(hi:0<i)(e:x.2=y.2):DD l r (i+1):=by
 rw[DD,L7 j];refine⟨h.1.trans (List.sublist_append_left _ _),h.2.1,λz f=> ?_⟩;rcases AN.1 f with f|f
 .exact h.2.2 z f
 .obtain rfl:z=x:=by simpa using f
  rw[e];refine h.2.2 y (AE (i:=i-1) ?_);rw[AR,YS I];exact k
theorem DD.new{r:List RQ}{i:Nat}{x y:RQ}(E:l.Pairwise λa b=>¬b.2<a.2)(h:DD l r i)(D:l[i]? =some x)(F:l[i-1]? =some y)(hi:0<i)(e:x.2≠y.2):DD l (r++ [x]) (i+1):=by
 have s:y.2<x.2:=by
  obtain⟨o,A⟩:=AP.1 D;obtain⟨u,m⟩:=AP.1 F;have:=List.pairwise_iff_getElem.1 E (i-1) i u o I;rw[A,m]at this
  grind
 have t:∀z∈l.take i,z.2<x.2:=λz f=>by
  obtain⟨j,k⟩:=List.getElem?_of_mem f;rw[AR]at k;split at k
  .rename_i H;obtain⟨L,G⟩:=AP.1 k;obtain⟨u,m⟩:=AP.1 F
   by_cases v:j=i-1
   .subst v;rw[<-G,m];exact s
   .have:=List.pairwise_iff_getElem.1 E j (i-1) L u I;rw[G,m]at this
    grind
  .cases k
 rw[DD,L7 D];refine⟨h.1.append (.refl _),List.pairwise_append.2 ⟨h.2.1,by simp,λa Z b J=> ?_⟩,λz f=> ?_⟩
 .obtain rfl:b=x:=by simpa using J
  exact t a (h.1.subset Z)
 .rcases AN.1 f with f|f
  .obtain⟨y,o,A⟩:=h.2.2 z f;exact⟨y,List.mem_append_left _ o,A⟩
  .obtain rfl:z=x:=by simpa using f
   exact⟨z,by simp,rfl⟩
theorem DD.one(h:0<l.length):DD l (l.take 1) 1:=by
 refine⟨.refl _,?_,λx e=>⟨x,e,rfl⟩⟩;cases l with
 |nil=>cases h
 |cons x l=>simp
theorem qv(n:Nat):(Builtin.zeroCells (Value.agg (Oe (Ou,0)).toArray).cells n).toList=(AY n ((Ou,0):RQ)).flatMap Oe:=by
 refine BI λi=> ?_
 have m:((AY n ((Ou,0):RQ)).flatMap Oe).length=n*4:=by rw[Ru,List.length_replicate]
 have h:(Value.agg (Oe (Ou,0)).toArray).cells=(Oe (Ou,0)).toArray:=rfl;rw[h]
 by_cases hi:i<n*4
 .have j:i/4<n:=I
  have e:i%4<4:=I
  have f:(Oe (Ou,0))[i%4]? =some (Oe (Ou,0))[i%4]! :=by rw[getElem!_pos (Oe (Ou,0)) (i%4) e,AD e]
  have:=Mr (cl:=Oe) Sq (AY n ((Ou,0):RQ)) (i/4) (Ou,0) (i%4) _ (by rw[List.getElem?_replicate,YS j]) f;rw[show i/4*4+i%4=i by omega]at this;rw[this];simp[Builtin.zeroCells,Sq,hi]
 .have k:(Builtin.zeroCells (Oe (Ou,0)).toArray n).toList.length=n*4:=by simp[Builtin.zeroCells,Sq]
  rw[BL I,BL I]
theorem ah{r t:List RQ}(h:K6 w B 53 4 (some ⟨g,0,none⟩) n c ((r++t).flatMap Oe))(L:r.length<n){c2:Nat}:
 Mv XM w [g] (λ_:Unit=> .tuple #[]) (λ_ u=>K6 u B 53 4 (some ⟨g,0,none⟩) n c ((r++AY (n-r.length) ((Ou,0):RQ)).flatMap Oe)) (XD 88 0 (.slice (some ⟨g,r.length*4,none⟩) (n-r.length) c2)):=by
 have o:=HJ h;have J:t.length=n-r.length:=by rw[AA]at o;omega
 obtain⟨G,s,k2,y⟩:=h.storeL (P:=XM) (j:=r.length*4) (vs:=(AY (n-r.length) ((Ou,0):RQ)).flatMap Oe) (by rw[Ru,Ru,List.length_replicate,AA];omega) (λv f=>by
  obtain⟨x,F,f⟩:=List.mem_flatMap.1 f;rw[List.eq_of_mem_replicate F]at f;simp[Oe,RV.cl]at f;rcases f with rfl|rfl|rfl|rfl<;>rfl)
 have e:((r++t).flatMap Oe).take (r.length*4)++(AY (n-r.length) ((Ou,0):RQ)).flatMap Oe++((r++t).flatMap Oe).drop (r.length*4+((AY (n-r.length) ((Ou,0):RQ)).flatMap Oe).length)=(r++AY (n-r.length) ((Ou,0):RQ)).flatMap Oe:=by
  rw[List.flatMap_append,List.flatMap_append,<-Ru r,List.take_left,BS (by rw[AA,Ru t,Ru (AY _ _),List.length_replicate];omega),CA]
 rw[e]at y;refine⟨(),G,?_,k2,λk A H=>y k A λb D=>H b (.inl D)⟩;obtain⟨m,Z⟩:∃m,n-r.length=m+1:=⟨n-r.length-1,by omega⟩
 have E:XM.underlying 88=some (.slice 53):=O
 have z:Tz XM 53=some (.agg (Oe (Ou,0)).toArray):=O
 unfold XD Builtin.clear_;simp only[Array.getElem?_eq_getElem,List.getElem?_toArray,List.getElem?_cons_zero,BF,BG,AU,run_underlying E];rw[Z]at s ⊢;simp only[BF,AU,Qj z,qv,s,BG]
def sX(gc:Nat):YI:= .func (.func 374) #[] #[Kp gc]
theorem WG{l:List RQ}(M:Below W.heap.size W w)(hg:W.heap.size<=g)(hn2:2<=n)(hn:n<=100000000)(U:K6 w B 53 4 (some ⟨g,0,none⟩) n c (l.flatMap Oe))(hq:∀z∈l,Kn z.1 z.2 K w)(hd:∀z∈l,g∉M6 z.1)(hs:l.Pairwise λa b=>¬b.2<a.2)(J:2<=K/\K+K<=68719476736)
 (hc:Kg w gc 198 [Ja]):Ca 373 #[.slice (some ⟨g,0,none⟩) n c,sX gc] w (L4 w [g] (λq:{q:List RQ×List RQ // DD l q.1 n}=> .slice (some ⟨g,0,none⟩) q.1.1.length c) λq u=>K6 u B 53 4 (some ⟨g,0,none⟩) n c ((q.1.1++q.1.2).flatMap Oe)):=by
 have hln:=HJ U;have hcap:=U.cap;have hgl:=(U.lt g (by simp[bl])).2;have hgc:g≠gc:=hc.ne U Zd g (by simp[bl]);have X:∀{u:YM},Below W.heap.size W u->Kt W w g u->∀{k:Nat} {z:RQ},l[k]? =some z->Nf z.1 z.2 K u:=λhu hk k z hz=>(hk.fr M hu (hq z (AE hz)) (hd z (AE hz))).q
 have hC:∀{u:YM},Below W.heap.size W u->Kt W w g u->Kg u gc 198 [Ja]:=λhu hk=>hc.to (hk.old M hu gc hc.lt (λe=>hgc e.symm))
 refine uB func373 rfl M<|ZR<|YN ((n:Int)<2)<|uj (ι:={k:Nat // 1<=k/\k<=n/\DD l (l.take k) k}) 66 (λk=>⟨[vS 0 (some ⟨g,0,none⟩) n c,vV 1 (sX gc),vI 5 k.1],[]⟩) (λ_ u=>K6 u B 53 4 (some ⟨g,0,none⟩) n c (l.flatMap Oe)/\Kt W w g u) (λk=>n-k.1) (⟨1,AC _,by omega,DD.one I⟩) O Zf Zt (λu h=>⟨U.same λb H=>(by have H:=AB.1 H;subst H;exact h.2 _ hg hgl),h.1,λb Y h2 _=>h.2 b Y h2⟩) ?_
 rintro⟨k,T,hkn,hD⟩ gg
 by_cases F:k<n
 case neg=>
  obtain rfl:k=n:=I
  refine ZR<|YN ((k:Int)<(k:Int))<|ug O<|ZR<|ZV (.slice (some ⟨g,0,none⟩) k c) (λm f h=>⟨⟨(l,[]),by have:=hD;rw[AX I]at this;exact this⟩,by show Ending.returned (CJ _ k c)=Ending.returned (CJ _ l.length c);rw[hln],(Yh h).2.chg M f,λu k1 k2=>by show K6 u B _ 4 _ k c ((l++ []).flatMap Oe);rw[CA];exact(Yh h).1.same λb H=>k2 b (.inl H)⟩)
 obtain⟨x,A⟩:∃v,l[k]? =some v:=⟨_,AD I⟩
 obtain⟨y,E⟩:∃v,l[k-1]? =some v:=⟨_,AD I⟩
 refine ZR<|YL ((k:Int)<(n:Int))<|YB 25 ((k:Int)-1) ((k-1:Nat):Int)<|ZB 3 (Kd 88 (.slice (some ⟨g,0,none⟩) n c) k) (.pointer (some ⟨g,k*4,none⟩)) (λm f h=>Kc (elem:=53) O O F)<|ZB 4 (Ke 53 ⟨g,k*4,none⟩) (x.1.val) (λm f h=>Ka (vs:=x.1.cl) O O (Dr h.1 I A))<|ZA (Kd 88 (.slice (some ⟨g,0,none⟩) n c) ((k-1:Nat):Int)) (.pointer (some ⟨g,(k-1)*4,none⟩)) (λm f h=>Kc (elem:=53) O O I)<|ZA (Ke 53 ⟨g,(k-1)*4,none⟩) (y.1.val) (λm f h=>Ka (vs:=y.1.cl) O O (Dr h.1 I E))<|ZC (λm f h=>qi (X f h.2 A) (X f h.2 E) ⟨J.1,J.1,J.2⟩ (hC f h.2)) λu=> ?_
 cases R:decide (x.2=y.2)
 case false=>
  refine ZI false<|YA 5 k F<|ui (⟨k+1,by omega,F,by rw[L7 A];exact DD.new hs hD A E T (YO R)⟩) O Zn Zt (λ_ h=>h.1)
 refine uu true O<|ZS 2<|ZA (lA 88 (.slice (some ⟨g,0,none⟩) n c) k) (.slice (some ⟨g,k*4,none⟩) (n-k) (c-k)) (λm f h=>Ug (e:=53) O O O I I) ?_
 have hD2:=DD.old hD A E T (YP R);have S:(l.take k).length=k:=by rw[AI];omega
 refine uh 5 (.int .i64 (k:Int)) (.int .i64 ((l.take k).length:Nat)) O (by rw[S])<|uj (ι:={q:List RQ×Nat // k<=q.1.length/\q.1.length+1<=k+q.2/\k+q.2<=n/\DD l q.1 (k+q.2)}) 66 (λq=>⟨[vS 0 (some ⟨g,0,none⟩) n c,vV 1 (sX gc),vI 5 q.1.1.length,vS 6 (some ⟨g,k*4,none⟩) (n-k) (c-k),vI 7 q.1.2],[]⟩) (λq u=>K6 u B 53 4 (some ⟨g,0,none⟩) n c ((q.1.1++l.drop q.1.1.length).flatMap Oe)/\Kt W w g u) (λq=>n-q.1.2) (⟨(l.take k,1),Zn,Zn,Zn,hD2⟩) O Zf Zt (λu h=>⟨by show K6 u B _ 4 _ n c ((l.take k++l.drop (l.take k).length).flatMap Oe);rw[S,AF];exact h.1.1,h.1.2⟩) ?_
 rintro⟨⟨r,k2⟩,wI,N,wJ,o⟩ gg2;have wI:k<=r.length:=wI;have N:r.length+1<=k+k2:=N;have wJ:k+k2<=n:=wJ;have o:DD l r (k+k2):=o
 by_cases D:k2<n-k
 case neg=>
  refine ZR<|YN ((k2:Int)<((n-k:Nat):Int))<|ug O<|ZS 2 ?_
  have hkk:k+k2=n:=I
  have hrn:r.length<n:=I
  refine uw (lA 88 (.slice (some ⟨g,0,none⟩) n c) r.length) (.slice (some ⟨g,r.length*4,none⟩) (n-r.length) (c-r.length)) O (λm f h=>Ug (e:=53) O O O I I)<|ZS 3<|uA (L:=[g]) (val:=λ_:Unit=> .tuple #[]) (Φ':=λ_ u=>K6 u B 53 4 (some ⟨g,0,none⟩) n c ((r++AY (n-r.length) ((Ou,0):RQ)).flatMap Oe)/\Kt W w g u) (G:=λ_ u=>K6 u B 53 4 (some ⟨g,0,none⟩) n c ((r++AY (n-r.length) ((Ou,0):RQ)).flatMap Oe)) (XD 88 0 (.slice (some ⟨g,r.length*4,none⟩) (n-r.length) (c-r.length))) (λm f h=>ah h.1 hrn) (λu h=>Za ⟨hg,(h.1.blk _ (by simp[bl])).2⟩) (λ_ wa u e1 e2 h hG=>⟨hG,h.2.left e1 e2⟩) O O λ_=>ZS 2<|ZA (oV 88 (.slice (some ⟨g,0,none⟩) n c) r.length) (.slice (some ⟨g,0,none⟩) r.length c) (λm f h=>Xu (e:=53) (s:=4) O O O I)<|ug O<|ZR<|ZV (.slice (some ⟨g,0,none⟩) r.length c) (λm f h=>⟨⟨(r,AY (n-r.length) ((Ou,0):RQ)),by rw[<-hkk];exact o⟩,rfl,(Yh h).2.chg M f,λu k1 k2=>(Yh h).1.same λb H=>k2 b (.inl H)⟩)
 have hil:k+k2<n:=I
 obtain⟨x,A⟩:∃v,l[k+k2]? =some v:=⟨_,AD I⟩
 obtain⟨y,E⟩:∃v,l[k+k2-1]? =some v:=⟨_,AD I⟩
 have Q:(r++l.drop r.length)[k+k2]? =some x:=by rw[BN I,List.getElem?_drop,Nat.add_sub_cancel' I];exact A
 have hRy:(r++l.drop r.length)[k+k2-1]? =some y:=by rw[BN I,List.getElem?_drop,Nat.add_sub_cancel' I];exact E
 refine ZR<|YL ((k2:Int)<((n-k:Nat):Int))<|YB 45 ((k2:Int)-1) ((k2-1:Nat):Int)<|ZB 3 (Kd 88 (.slice (some ⟨g,k*4,none⟩) (n-k) (c-k)) k2) (.pointer (some ⟨g,(k+k2)*4,none⟩)) (λm f h=>by rw[show(k+k2)*4=k*4+k2*4 by omega];exact Q9 (elem:=53) O O D)<|ZB 4 (Ke 53 ⟨g,(k+k2)*4,none⟩) (x.1.val) (λm f h=>Ka (vs:=x.1.cl) O O (Dr h.1 I Q))<|ZA (Kd 88 (.slice (some ⟨g,k*4,none⟩) (n-k) (c-k)) ((k2-1:Nat):Int)) (.pointer (some ⟨g,(k+k2-1)*4,none⟩)) (λm f h=>by rw[show(k+k2-1)*4=k*4+(k2-1)*4 by omega];exact Q9 (elem:=53) O O I)<|ZA (Ke 53 ⟨g,(k+k2-1)*4,none⟩) (y.1.val) (λm f h=>Ka (vs:=y.1.cl) O O (Dr h.1 I hRy))<|ZC (λm f h=>qi (X f h.2 A) (X f h.2 E) ⟨J.1,J.1,J.2⟩ (hC f h.2)) λu=> ?_
 cases R:decide (x.2=y.2)
 case true=>
  refine ZI false<|YA 7 k2 D<|ui (⟨(r,k2+1),wI,Zn,Zn,DD.old o A E (show 0<k+k2 by omega) (YP R)⟩) O Zn Zt (λ_ h=>h.1)
 refine ZI true ?_;have hrl:r.length<l.length:=I
 obtain⟨v0,hv0⟩:∃v,l[r.length]? =some v:=⟨_,AD hrl⟩
 have hdr:l.drop r.length=v0::l.drop (r.length+1):=N3 hv0;refine ZA (Kd 88 (.slice (some ⟨g,k*4,none⟩) (n-k) (c-k)) k2) (.pointer (some ⟨g,(k+k2)*4,none⟩)) (λm f h=>by rw[show(k+k2)*4=k*4+k2*4 by omega];exact Q9 (elem:=53) O O D)<|ZA (Ke 53 ⟨g,(k+k2)*4,none⟩) (x.1.val) (λm f h=>Ka (vs:=x.1.cl) O O (Dr h.1.1 I Q))<|ZA (Kd 88 (.slice (some ⟨g,0,none⟩) n c) r.length) (.pointer (some ⟨g,r.length*4,none⟩)) (λm f h=>Kc (elem:=53) O O I) ?_
 refine ur (L:=[g]) (G:=λu=>K6 u B 53 4 (some ⟨g,0,none⟩) n c (((r++ [x])++l.drop (r.length+1)).flatMap Oe)) (Φ':=λu=>K6 u B 53 4 (some ⟨g,0,none⟩) n c (((r++ [x])++l.drop (r.length+1)).flatMap Oe)/\Kt W w g u) (Om 53 ⟨g,r.length*4,none⟩ x.1.val) (λm f h=>by
  have Y:K6 m B 53 4 (some ⟨g,0,none⟩) n c ((r++l.drop r.length).flatMap Oe):=h.1.1;rw[hdr]at Y;have h2:=Y.storeN (P:=XM) (t:=53) (v:=x.1.val) (j:=r.length*4) O (by show r.length*4+4<=_;rw[Ru,AA,BO,AZ];omega) (λv Z=>by have Z:v∈x.1.cl:=Z;simp[RV.cl]at Z;rcases Z with rfl|rfl|rfl|rfl<;>rfl);rw[<-dE r (l.drop (r.length+1)) x v0];exact h2) (λu h=>Za ⟨hg,(h.1.1.blk _ (by simp[bl])).2⟩) (λwa u e1 e2 h hG=>⟨hG,h.1.2.left e1 e2⟩) O O ?_
 refine ZR<|uh 5 (.int .i64 (XQ.wrap ((r.length:Int)+1))) (.int .i64 ((r++ [x]).length:Nat)) O (by rw[aH (n:=n) I I,AA];rfl)<|YA 7 k2 D<|ui (⟨(r++ [x],k2+1),by show k<=(r++ [x]).length;simp;omega,by show(r++ [x]).length+1<=k+(k2+1);simp;omega,Zn,DD.new hs o A E (show 0<k+k2 by omega) (YO R)⟩) O Zn Zt (λ_ h=>⟨by show K6 _ B _ 4 _ n c (((r++ [x])++l.drop (r++ [x]).length).flatMap Oe);rw[AA];exact h.1,h.2⟩)
end
section
variable{w W:YM}{g gc n c B K K1 K2:Nat}{l:List RQ}{a b:RV}{p q:Rat}
theorem QX{l:List RQ}{r:List RQ}{m:List RQ}(s:m.Perm l)(h:DD m r m.length):(r.map (·.2)).Pairwise (· <·)/\∀x,x∈r.map (·.2)↔x∈l.map (·.2):=by
 obtain⟨o,u,k⟩:=h;rw[BY]at o k;refine⟨List.pairwise_map.2 u,λx=>⟨λf=> ?_,λf=> ?_⟩⟩
 .obtain⟨y,j,rfl⟩:=CB.1 f;exact List.mem_map_of_mem (s.mem_iff.1 (o.subset j))
 .obtain⟨y,j,rfl⟩:=CB.1 f;obtain⟨z,t,e⟩:=k y (s.mem_iff.2 j);rw[<-e];exact List.mem_map_of_mem t
theorem cj{l:List RQ}(s:Below W.heap.size W w)(y:W.heap.size<=g)(N:2<=n)(X:n<=100000000)(H:K6 w B 53 4 (some ⟨g,0,none⟩) n c (l.flatMap Oe))(wJ:∀z∈l,Kn z.1 z.2 K w)(D:∀z∈l,g∉M6 z.1)(P:2<=K/\K+K<=68719476736):
 Ca 336 #[.slice (some ⟨g,0,none⟩) n c,Ja] w (L4 w [g] (λq:{q:List RQ×List RQ // q.1 ⊆ l/\q.1.map (·.2)=A7 (l.map (·.2))}=> .slice (some ⟨g,0,none⟩) q.1.1.length c) λq u=>K6 u B 53 4 (some ⟨g,0,none⟩) n c ((q.1.1++q.1.2).flatMap Oe)):=by
 have F:=(H.lt g (by simp[bl])).2;refine uB func336 rfl s<|ZS 0<|uk (B0 198 Ja) (Kp) (λgc u=>Kg u gc 198 [Ja]/\w.heap.size<=gc/\gc∉[]) O (λt f h=>Qn (v:=Ja) h.1 Zs) λgc=>ZR<|um (p:=w.heap.size<=gc) (λu hu h=>h.2.2.1) O λR=>uN (Φ':=λu=>K6 u B 53 4 (some ⟨g,0,none⟩) n c (l.flatMap Oe)/\Kt W w g u/\Kg u gc 198 [Ja]) O (λu h=>⟨H.same λb k=>(by have k:=AB.1 k;subst k;exact h.1.2 _ y F),⟨h.1.1,λb S Z _=>h.1.2 b S Z⟩,h.2.1⟩)<|ZR<|ZA (Ke 198 ⟨gc,0,none⟩) (Ja) (λt f h=>h.2.2.load1 O)<|uD (L:=[g]) (val:=λ_:{m:List RQ // m.Perm l/\m.Pairwise λa b=>¬b.2<a.2}=> .tuple #[]) (G:=λm u=>K6 u B 53 4 (some ⟨g,0,none⟩) n c (m.1.flatMap Oe)) (Φ':=λm u=>K6 u B 53 4 (some ⟨g,0,none⟩) n c (m.1.flatMap Oe)/\Kt W w g u/\Kg u gc 198 [Ja]) (λt f h=>jV h.1 (λz j=>h.2.1.fr s f (wJ z j) (D z j)) D P I I) (λu h=>Za ⟨y,(h.1.blk _ (by simp[bl])).2⟩) (λm T u M A h J=>⟨J,h.2.1.left M A,h.2.2.left A Zp⟩) O O (λm=> ?_)
 obtain⟨m,e,wI⟩:=m;refine ZR<|uD (L:=[g]) (val:=λq:{q:List RQ×List RQ // DD m q.1 n}=> .slice (some ⟨g,0,none⟩) q.1.1.length c) (G:=λq u=>K6 u B 53 4 (some ⟨g,0,none⟩) n c ((q.1.1++q.1.2).flatMap Oe)) (Φ':=λq u=>K6 u B 53 4 (some ⟨g,0,none⟩) n c ((q.1.1++q.1.2).flatMap Oe)/\Kt W w g u) (λt f h=>WG f y N X h.1 (λz j=>h.2.1.fr s f (wJ z (e.mem_iff.1 j)) (D z (e.mem_iff.1 j))) (λz j=>D z (e.mem_iff.1 j)) wI P h.2.2) (λu h=>Za ⟨y,(h.1.blk _ (by simp[bl])).2⟩) (λq T u M A h J=>⟨J,h.2.1.left M A⟩) O O (λq=> ?_)
 obtain⟨q,o⟩:=q;have E:m.length=n:=by rw[e.length_eq];exact HJ H
 obtain⟨U,Q⟩:=QX (l:=l) e (by rw[E];exact o);refine ZR<|ZV (.slice (some ⟨g,0,none⟩) q.1.length c) (λt f h=>⟨⟨q,λx Y=>e.subset (List.take_subset _ _ (o.1.subset Y)),gL U Q⟩,rfl,(Yh h).2.chg s f,λu k1 k2=>(Yh h).1.same λb k=>k2 b (.inl k)⟩)
end
theorem K8.ltW{w:YM}{g:Nat}{cs:List YI}(h:K8 w g cs):g<w.heap.size:=by
 obtain⟨t,h⟩:=h;exact(AM.1 h).1
theorem K8.toW{w u:YM}{g:Nat}{cs:List YI}(h:K8 w g cs)(e:u.heap[g]? =w.heap[g]?):K8 u g cs:=by
 obtain⟨t,h⟩:=h;exact⟨t,e.trans h⟩
structure OutG(B go:Nat)(y:YZ)(rs:List RQ)(u:YM):Prop where
 box:Kg u go 88 [.slice y.1 rs.length y.2]
 own:K6 u B 53 4 y.1 rs.length y.2 (rs.flatMap Oe)
 apart:∀r∈rs,(∀b∈bl y.1,b∉M6 r.1)/\go∉M6 r.1
structure UG(B go K:Nat)(y:YZ)(rs:List RQ)(u:YM):Prop extends OutG B go y rs u where
 num:∀r∈rs,Kn r.1 r.2 K u
def jM(go:Nat)(y:YZ)(r:RV):Prop:=(∀b∈bl y.1,b∉M6 r)/\go∉M6 r
section
variable{w W u wa:YM}{B go gl gh K K1 n:Nat}{y z:YZ}{rs:List RQ}{r rl rh:RV}{q lo hi:Rat}
theorem Kn.leftL{L:List Nat}(h:Kn r q K wa)(e:wa.heap.size=u.heap.size)(c:∀b,b∉L->wa.heap[b]? =u.heap[b]?)(g:∀b∈M6 r,b∉L):Kn r q K u:=h.same (CW e) λb f=>(c b (g b f)).symm
theorem UG.ne(h:UG B go K y rs u):go∉bl y.1:=λb=>h.box.ne h.own Zd go b rfl
theorem UG.same(h:UG B go K y rs wa)(g:wa.heap.size<=u.heap.size)(c:∀b,b<wa.heap.size->u.heap[b]? =wa.heap[b]?):UG B go K y rs u:=
 ⟨⟨h.box.to (c go h.box.lt),h.own.same λb e=>c b (h.own.lt b e).2,h.apart⟩,λr f=>(h.num r f).same g λb e=>c b (Og (h.num r f) b e)⟩
theorem OutG.to(h:OutG B go y rs wa)(c:∀b,b∈go::bl y.1->u.heap[b]? =wa.heap[b]?):OutG B go y rs u:=
 ⟨h.box.to (c go Zs),h.own.same λb e=>c b (by simp[e]),h.apart⟩
theorem kX(h:UG B go K y rs u)(Z:B<=u.heap.size)(H:Kn r q K u)(E:jM go y r){A N:Nat}(F:Kw 53 r.cl.toArray A u)(J:rs.length<=99999999)(D:N<=u.heap.size):
 Mv XM u (bl y.1) (λz:YZ=> .slice z.1 (rs.length+1) z.2) (λz v=>K6 v B 53 4 z.1 (rs.length+1) z.2 ((rs++ [(r,q)]).flatMap Oe)/\(∀x∈rs++ [(r,q)],∀b∈bl z.1,b∉M6 x.1)/\∀b∈bl z.1,b∈bl y.1\/N<=b) (My 88 88 (.slice y.1 rs.length y.2) (Kr 1 A)):=by
 have j:=M2 (P:=XM) (s:=4) (z:= .agg Ou.cl.toArray) (bytes:=64) (m:=1) (cc:=1) (t:=88) (elem:=53) O O rfl Zd h.own Z (Mc (n:=1) F rfl) (by intro v o;simp[RV.cl]at o;rcases o with rfl|rfl|rfl|rfl<;>rfl) I Zd;have e:(rs++ [(r,q)]).flatMap Oe=rs.flatMap Oe++r.cl.toArray.toList:=by simp[Oe]
 rw[e];refine O7 j λz' k=>⟨λx G b g l=> ?_,λb g=>(k b g).imp id λh=>AH D h⟩
 have c:Kn x.1 x.2 K u/\∀b∈bl y.1,b∉M6 x.1:=by
  rcases AN.1 G with f|f
  .exact⟨h.num x f,(h.apart x f).1⟩
  .obtain rfl:x=(r,q):=by simpa using f
   exact⟨H,E.1⟩
 rcases k b g with p|p
 .exact c.2 b p l
 .have:=Og c.1 b l;omega
def R1(lo hi:Rat)(rs:List RQ)(r:RV)(q:Rat):List RQ:=if lo<q/\q<hi then rs++ [(r,q)]else rs
theorem Rk{p q:Rat}:decide (Kv p q<0)=decide (p<q):=by
 unfold Kv
 by_cases h:p<q
 .rw[YS h,YU h];rfl
 .rw[YT h,YV h];split<;>rfl
def Tx(L:List Nat)(W w u:YM):Prop:=w.heap.size<=u.heap.size/\∀b,W.heap.size<=b->b<w.heap.size->b∉L->u.heap[b]? =w.heap[b]?
theorem Tx.chg{L:List Nat}(h:Tx L W w u)(e:Below W.heap.size W w)(f:Below W.heap.size W u):Ei L w u:=
 ⟨f.os.trans e.os.symm,f.tape.trans e.tape.symm,f.output.trans e.output.symm,h.1,λb j g=>by
  rcases CO b W.heap.size with c|c
  .rw[f.block b c,e.block b c]
  .exact h.2 b c j g⟩
theorem mG{f:YM}{N:Nat}(m:N<=w.heap.size)(l:Below W.heap.size W w)(p:Below W.heap.size W f)(h:∀v:YM,f.heap.size<=v.heap.size->(∀b,W.heap.size<=b->b<f.heap.size->v.heap[b]? =f.heap[b]?)->Tx (go::bl y.1) W w v/\Kg v go 88 [.slice z.1 (rs.length+1) z.2]/\K6 v B 53 4 z.1 (rs.length+1) z.2 ((rs++ [(r,q)]).flatMap Oe)/\(∀x∈rs++ [(r,q)],∀b∈bl z.1,b∉M6 x.1)/\∀b∈bl z.1,b∈bl y.1\/w.heap.size<=b)
 (s:UG B go K y rs w) (o:jM go y r) (g:R1 lo hi rs r q=rs++ [(r,q)]):L4 w (go::bl y.1) (λ_:YZ=> .tuple #[]) (λz u=>OutG B go z (R1 lo hi rs r q) u/\∀b∈bl z.1,b∈bl y.1\/N<=b) (.returned (.tuple #[])) f:=by
 have c:=h f (AC _) λ_ _ _=>rfl
 refine⟨z,rfl,c.1.chg l p,λv t k2=> ?_⟩;rw[g];refine⟨?_,λb j=>(c.2.2.2.2 b j).imp id λh=>AH m h⟩;refine⟨by rw[AA];exact c.2.1.to (k2 go (.inl Zs)),?_,λx k=>⟨c.2.2.2.1 x k,?_⟩⟩
 .rw[AA];refine c.2.2.1.same λb j=>k2 b ?_
  rcases c.2.2.2.2 b j with e|e
  .exact .inl (by simp[e])
  .exact .inr ⟨e,(c.2.2.1.lt b j).2⟩
 .rcases AN.1 k with e|e
  .exact(s.apart x e).2
  .obtain rfl:x=(r,q):=by simpa using e
   exact o.2
theorem rP{N:Nat}(hN:N<=w.heap.size)(p:Below W.heap.size W w)(s:W.heap.size<=go)(Y:∀b∈bl y.1,W.heap.size<=b)(R:B<=W.heap.size)(j:UG B go K y rs w)(D:Kn r q K w)(U:jM go y r)(hn:rs.length<=99999999)(k:2<=K/\K+K<=68719476736)
 (X:K8 w gl rl.cl) (H:K8 w gh rh.cl) (ql:Kn rl lo K w) (qh:Kn rh hi K w) (al:go∉M6 rl/\go∉M6 rh):
 Ca 332 #[r.val,Kp gl,Kp gh,Kp go] w (L4 w (go::bl y.1) (λ_:YZ=> .tuple #[]) λz u=>OutG B go z (R1 lo hi rs r q) u/\∀b∈bl z.1,b∈bl y.1\/N<=b):=by
 have hold:∀{u:YM},Below W.heap.size W u->(w.heap.size<=u.heap.size/\∀b,W.heap.size<=b->b<w.heap.size->u.heap[b]? =w.heap[b]?)->∀b,b<w.heap.size->u.heap[b]? =w.heap[b]? :=λl h b e=>by
  rcases CO b W.heap.size with wI|wI
  .rw[l.block b wI,p.block b wI]
  .exact h.2 b wI e
 have f:∀{u:YM} {r:RV} {q:Rat},Kn r q K w->Below W.heap.size W u->(w.heap.size<=u.heap.size/\∀b,W.heap.size<=b->b<w.heap.size->u.heap[b]? =w.heap[b]?)->Kn r q K u:=λZ l h=>Z.same h.1 λb e=>hold l h b (Og Z b e)
 refine uB func332 rfl p<|ZR<|ZA (Ke 53 ⟨gl,0,none⟩) (rl.val) (λg c h=>Ka (vs:=rl.cl) O O (K8.range (X.toW (hold c h gl X.ltW)))) ?_
 have t:∀{u:YM},(wJ:¬(lo<q/\q<hi))->Below W.heap.size W u->(∀v:YM,u.heap.size<=v.heap.size->(∀b,W.heap.size<=b->b<u.heap.size->v.heap[b]? =u.heap[b]?)->w.heap.size<=v.heap.size/\∀b,W.heap.size<=b->b<w.heap.size->v.heap[b]? =w.heap[b]?)->L4 w (go::bl y.1) (λ_:YZ=> .tuple #[]) (λz u=>OutG B go z (R1 lo hi rs r q) u/\∀b∈bl z.1,b∈bl y.1\/N<=b) (.returned (.tuple #[])) u:=λ{u} wJ l h=>by
  have P:=h u (AC _) λ_ _ _=>rfl
  refine⟨y,rfl,⟨l.os.trans p.os.symm,l.tape.trans p.tape.symm,l.output.trans p.output.symm,P.1,λb e _=>hold l P b e⟩,λv o k2=> ?_⟩;unfold R1;rw[YT wJ];refine⟨j.toOutG.to λb e=> ?_,λb e=> .inl e⟩;rw[k2 b (.inl e)];refine hold l P b ?_;rcases AQ.1 e with rfl|e
  .exact j.box.lt
  .exact(j.own.lt b e).2
 cases F:decide (lo<q)
 case false=>
  refine ZD 5 (λg c h=>Lv (f ql c h).q (f D c h).q ⟨k.1,k.1,k.2⟩) λc1=>ZT 9 (.bool (decide (Kv lo q<0))) (.bool false) (by rw[Rk,F])<|ZI false<|ZV (.tuple #[]) (λg c h=>t (λm=>absurd m.1 (YO F)) c (λv o k2=>(h v o k2).1))
 refine ZD 5 (λg c h=>Lv (f ql c h).q (f D c h).q ⟨k.1,k.1,k.2⟩) λc1=>ZT 9 (.bool (decide (Kv lo q<0))) (.bool true) (by rw[Rk,F])<|ZA (Ke 53 ⟨gh,0,none⟩) (rh.val) (λg c h=>Ka (vs:=rh.cl) O O (K8.range (H.toW (hold c h.1 gh H.ltW)))) ?_
 cases M:decide (q<hi)
 case false=>
  refine ZC (λg c h=>Lv (f D c h.1).q (f qh c h.1).q ⟨k.1,k.1,k.2⟩) λc2=>ZJ (decide (Kv q hi<0)) false (by rw[Rk,M])<|ZV (.tuple #[]) (λg c h=>t (λm=>absurd m.2 (YO M)) c (λv o k2=>(h v o k2).1.1))
 have wJ:lo<q/\q<hi:=⟨YP F,YP M⟩
 have A:R1 lo hi rs r q=rs++ [(r,q)]:=YS wJ;refine ZC (λg c h=>Lv (f D c h.1).q (f qh c h.1).q ⟨k.1,k.1,k.2⟩) λc2=>ZJ (decide (Kv q hi<0)) true (by rw[Rk,M])<|uN (Φ':=λu=>(w.heap.size<=u.heap.size/\∀b,W.heap.size<=b->b<w.heap.size->u.heap[b]? =w.heap[b]?)) O (λu h=>h.1.1)<|ZA (Ke 88 ⟨go,0,none⟩) (.slice y.1 rs.length y.2) (λg c h=>(j.box.to (hold c h go j.box.lt)).load1 O)<|uk (Lr 88 1 #[(0,r.val)]) (Kr 1) (Kw 53 r.cl.toArray) O (λg c h=>Kj O) λgb=>ZS 3<|uA (L:=bl y.1) (val:=λz:YZ=> .slice z.1 (rs.length+1) z.2) (Φ':=λz u=>Tx (bl y.1) W w u/\Kg u go 88 [.slice y.1 rs.length y.2]/\K6 u B 53 4 z.1 (rs.length+1) z.2 ((rs++ [(r,q)]).flatMap Oe)/\(∀x∈rs++ [(r,q)],∀b∈bl z.1,b∉M6 x.1)/\∀b∈bl z.1,b∈bl y.1\/w.heap.size<=b) (G:=λz u=>K6 u B 53 4 z.1 (rs.length+1) z.2 ((rs++ [(r,q)]).flatMap Oe)/\(∀x∈rs++ [(r,q)],∀b∈bl z.1,b∉M6 x.1)/\∀b∈bl z.1,b∈bl y.1\/w.heap.size<=b) (My 88 88 (.slice y.1 rs.length y.2) (Kr 1 gb)) (λg c h=>kX (j.same h.1.1 (hold c h.1)) (AH R c.size) (f D c h.1) U h.2 hn h.1.1) (λu h b e=>⟨Y b e,by obtain⟨_,cs,ty,own,H⟩:=j.own.blk b e;exact⟨cs,ty,own,(h.1.2 b (Y b e) (j.own.lt b e).2).trans H⟩⟩) (λz wa u T E h Q=>⟨⟨by rw[<-T];exact h.1.1,λb o k2 J=>(E b J).symm.trans (h.1.2 b o k2)⟩,(j.box.to (h.1.2 go s j.box.lt)).left E j.ne,Q⟩) O O λz=>ZR<|ur (L:=[go]) (G:=λu=>Kg u go 88 [.slice z.1 (rs.length+1) z.2]) (Φ':=λu=>Tx (go::bl y.1) W w u/\Kg u go 88 [.slice z.1 (rs.length+1) z.2]/\K6 u B 53 4 z.1 (rs.length+1) z.2 ((rs++ [(r,q)]).flatMap Oe)/\(∀x∈rs++ [(r,q)],∀b∈bl z.1,b∉M6 x.1)/\∀b∈bl z.1,b∈bl y.1\/w.heap.size<=b) (Om 88 ⟨go,0,none⟩ (.slice z.1 (rs.length+1) z.2)) (λg c h=>h.2.1.store O rfl (λv S=>by have S:=AB.1 S;subst S;rfl)) (λu h=>Za ⟨s,h.2.1.own⟩) (λwa u T E h Q=>⟨⟨by rw[<-T];exact h.1.1,λb o k2 J=>(E b (λm=>J (by simp at m;simp[m]))).symm.trans (h.1.2 b o k2 (λm=>J (by simp[m])))⟩,Q,h.2.2.1.left E (λb e=>by simpa using h.2.1.ne h.2.2.1 Zd b e),h.2.2.2⟩) O O<|ZR<|ZV (.tuple #[]) (λg c h=>mG hN p c h j U A)
end
theorem As{b:Array XT}{o:XT}{σ:AS}(h:(BT b.size).all (λi=>match b[i]? with
 |some E=>(E.dst !=o.dst)||(BT b.size).all (λk=>CF k i||(Pd b i b.size).getD k false||(Pd b k b.size).getD i false||(match b[k]? with|some ok=>(Vp b ok&& !(σ.plain ok.op))||(WU ok.op||Qm b σ ok)|none=>false))
 |none=>true)=true):Zx b o σ:=by
 intro i hi s j m z t;have u:i<b.size:=(AM.1 hi).1;have A:=BA.1 h i (CC.2 u);simp only[hi,bne_self_eq_false,CM]at A;obtain⟨y,F,x,g⟩:=mem_ready.1 z;obtain⟨v,D,f,l⟩:=mem_ready.1 t;have p:j<b.size:=(AM.1 f).1;have e:=BA.1 A j (CC.2 p);simp only[CI,DC,f,BB,Bool.not_eq_true']at e;rcases e with ((e|e)|e)|e
 .exact .inl e
 .obtain⟨B,c,w⟩:=Rx m y _ _ e;rw[f]at c;injection c with c;subst c;exact absurd l w
 .obtain⟨B,c,w⟩:=Rx m v _ _ e;rw[x]at c;injection c with c;subst c;exact absurd g w
 .exact .inr ⟨D,f,e⟩
def Eb(c:Mm):Bool:=match c.foc with
 | .any b (_+1) e=>match Region.ready .any b e with
  | [i]=>match b[i]? with
   |some o=>(BT b.size).all (λi=>match b[i]? with
    |some f=>(f.dst !=o.dst)||(BT b.size).all (λk=>CF k i||(Pd b i b.size).getD k false||(Pd b k b.size).getD i false||(match b[k]? with|some ok=>(Vp b ok&& !(c.st.plain ok.op))||(WU ok.op||Qm b c.st ok)|none=>false))
    |none=>true)
   |none=>false
  |_=>false
 |_=>false
theorem Ib{b:Array XT}{o:XT}(h:(BT b.size).all (λi=>match b[i]? with
 |some B=>(B.dst !=o.dst)||(B.after.size !=o.after.size)||(BT b.size).all (λk=>CF k i||(Pd b i b.size).getD k false||(Pd b k b.size).getD i false)
 |none=>true)=true):Js b o:=by
 intro i hi s j l z t;have u:i<b.size:=(AM.1 hi).1;have A:=BA.1 h i (CC.2 u);simp only[hi,bne_self_eq_false,CM]at A;obtain⟨y,E,x,f⟩:=mem_ready.1 z;obtain⟨v,F,p,g⟩:=mem_ready.1 t;have m:j<b.size:=(AM.1 p).1;have e:=BA.1 A j (CC.2 m);simp only[CI,DC]at e;rcases e with (e|e)|e
 .exact e
 .obtain⟨D,c,w⟩:=Rx l y _ _ e;rw[p]at c;injection c with c;subst c;exact absurd g w
 .obtain⟨D,c,w⟩:=Rx l v _ _ e;rw[x]at c;injection c with c;subst c;exact absurd f w
def Uq(c:Mm):Bool:=match c.foc with
 | .any b (_+1) e=>match Region.ready .any b e with
  | [i]=>match b[i]? with
   |some o=>(BT b.size).all (λi=>match b[i]? with
    |some f=>(f.dst !=o.dst)||(f.after.size !=o.after.size)||(BT b.size).all (λk=>CF k i||(Pd b i b.size).getD k false||(Pd b k b.size).getD i false)
    |none=>true)
   |none=>false
  |_=>false
 |_=>false
section
variable{P:YH}{Δ:List XY}{W:YM}{Q:Exit->Act->YM->Prop}{Φ:YM->Prop}{c:Mm}
theorem uQ [Rnd]{X:Type}{L:List Nat}{val:X->YI}{G Φ':X->YM->Prop}(s:Sem Next)
 (Y:∀w,Below W.heap.size W w->Φ w->Mv P w L val G s) (S:Ub W L Φ) (E:∀x,Tg L Φ (G x) (Φ' x))
 (B:Eb c=true) (g:Ox c=some s) (h:∀x,K0 P Δ W Q (Φ' x) (Lp (.v (val x)) c)):K0 P Δ W Q Φ c:=by
 obtain⟨R,k,σ⟩:=c;replace h:=λx=>(h x).get
 refine⟨?_⟩;replace g:=(Nk g).1;unfold Pg at g;split at g
 .rename_i N o m;split at g
  .cases g
  .cases g
  .rename_i F U;split at g
   .rename_i H;simp only[BB]at H;injection g with g;subst g;unfold Nc at m;simp only at m;split at m
    .cases B
    .rename_i p fuel t;split at m
     .rename_i i l;cases f:p[i]? with
      |none=>rw[f]at m;cases m
      | some wI=>
       rw[f]at m;simp only[BH,BW,BX]at m;obtain⟨rfl,rfl⟩:=m;intro A D J;refine⟨λT=>(by rw[T]at l;cases l),λj K=> ?_⟩;rw[l]at K;obtain rfl:j=i:=by simpa using K
       obtain⟨_,Z,y,z⟩:=mem_ready.1 (show j∈Region.ready .any p t by rw[l];simp);obtain rfl:wI=Z:=by rw[f]at y;injection y
       have u:Zx p wI σ:=by
        refine As ?_;unfold Eb at B;simp only[l,f]at B;exact B
       refine⟨wI,f,.mutm val G Φ' u H.1 H.2 (λcs b e=>F cs b e) (.inl λw a b=> .inl (Y w a b)) S E λx=> ?_⟩;have M:=h x;simp only[Qq,Lp,l,f,BZ,BU]at M;exact M A (D.set_ f z) (J.put _ (by intro k wJ;simp[AV.ids]at wJ))
     .cases m
    .cases m
   .cases g
 .cases g
theorem uE [Rnd]{L:List Nat}{G Φ':YM->Prop}(s:Sem Next)
 (hs:∀w,Below W.heap.size W w->Φ w->∃z,s.run P w= .ok .skip z/\Ei L w z/\∀p,z.heap.size<=p.heap.size->(∀b∈L,p.heap[b]? =z.heap[b]?)->G p) (Y:Ub W L Φ) (H:Tg L Φ G Φ')
 (E:Eb c=true) (g:Ox c=some s) (h:K0 P Δ W Q Φ' (Lp (.v undef) c)):K0 P Δ W Q Φ c:=by
 obtain⟨U,k,σ⟩:=c;replace h:=h.get;refine⟨?_⟩;replace g:=(Nk g).1;unfold Pg at g;split at g
 .rename_i R o m;split at g
  .cases g
  .cases g
  .rename_i wI hnm;split at g
   .rename_i J;simp only[BB]at J;injection g with g;subst g;unfold Nc at m;simp only at m;split at m
    .cases E
    .rename_i t fuel u;split at m
     .rename_i i l;cases f:t[i]? with
      |none=>rw[f]at m;cases m
      | some K=>
       rw[f]at m;simp only[BH,BW,BX]at m;obtain⟨rfl,rfl⟩:=m;intro D F M;refine⟨λZ=>(by rw[Z]at l;cases l),λj N=> ?_⟩;rw[l]at N;obtain rfl:j=i:=by simpa using N
       obtain⟨_,o2,A,B⟩:=mem_ready.1 (show j∈Region.ready .any t u by rw[l];simp);obtain rfl:K=o2:=by rw[f]at A;injection A
       have y:Zx t K σ:=by
        refine As ?_;unfold Eb at E;simp only[l,f]at E;exact E
       refine⟨K,f,.mutm (λ_:Unit=>undef) (λ_=>G) (λ_=>Φ') y J.1 J.2 (λcs b e=>wI cs b e) (.inl λw a b=> .inr (by obtain⟨z,S,h2,h3⟩:=hs w a b;exact⟨(),z,rfl,S,h2,λp k1 k2=>h3 p k1 λb X=>k2 b (.inl X)⟩)) Y (λ_=>H) λx=> ?_⟩;have wJ:=h;simp only[Qq,Lp,l,f,BZ,BU]at wJ;exact wJ D (F.set_ f B) (M.put _ (by intro k T;simp[AV.ids]at T))
     .cases m
    .cases m
   .cases g
 .cases g
theorem vO [Rnd]{L:List Nat}{G Φ':YM->Prop}(s:Sem Next)
 (hs:∀w,Below W.heap.size W w->Φ w->∃wI,s.run P w= .ok .skip wI/\Ei L w wI/\∀p,wI.heap.size<=p.heap.size->(∀b∈L,p.heap[b]? =wI.heap[b]?)->G p) (hL:Ub W L Φ) (N:Tg L Φ G Φ')
 (K:Uq c=true) (g:Ox c=some s) (h:K0 P Δ W Q Φ' (Lp (.v undef) c)):K0 P Δ W Q Φ c:=by
 obtain⟨foc,k,σ⟩:=c;replace h:=h.get;refine⟨?_⟩;replace g:=(Nk g).1;unfold Pg at g;split at g
 .rename_i Z o m;split at g
  .cases g
  .cases g
  .rename_i wJ hnm;split at g
   .rename_i S;simp only[BB]at S;injection g with g;subst g;unfold Nc at m;simp only at m;split at m
    .cases K
    .rename_i t fuel u;split at m
     .rename_i i l;cases f:t[i]? with
      |none=>rw[f]at m;cases m
      | some A=>
       rw[f]at m;simp only[BH,BW,BX]at m;obtain⟨rfl,rfl⟩:=m;intro F M T;refine⟨λh0=>(by rw[h0]at l;cases l),λj X=> ?_⟩;rw[l]at X;obtain rfl:j=i:=by simpa using X
       obtain⟨_,o2,B,D⟩:=mem_ready.1 (show j∈Region.ready .any t u by rw[l];simp);obtain rfl:A=o2:=by rw[f]at B;injection B
       have z:Js t A:=by
        refine Ib ?_;unfold Uq at K;simp only[l,f]at K;exact K
       refine⟨A,f,.lone z λΔ' β a w Q' i' K' R H Y hK=> ?_⟩;unfold wpOpIn;simp only[R,M3 H,S.1,if_true];have J:∀x∈A.op.operands,a.eval x=σ.rho x:=λx hx=>by
        rw[H.eval,uF];· rfl
        exact BA.1 S.2 x (by simpa using hx)
       obtain⟨wI,E,U,hG⟩:=hs w H.bel H.phi;refine Zy ((congrArg (λs=>s.run P w) (execOp_congr A (λcs b e=>wJ cs b e) J)).trans E) Zs ?_;simp only[Qq,Lp,l,f,BZ,BU]at h;have y:(σ.put A.dst (.v undef)).wf:=T.put _ (by intro k hk;simp[AV.ids]at hk);exact hK _ _ _ _ _ (h F (M.set_ f D) y) ((H.mut hL U (λp a1 a2=>hG p a1 λb hb=>a2 b (.inl hb)) N).put A.dst (.v undef)) y
     .cases m
    .cases m
   .cases g
 .cases g
def IV(c:Mm):Bool:=Eb c&&(match Nc c with|some (_,o)=>c.st.plain o.op|none=>false)
theorem QA{e:Array XT}{fuel:Nat}{b:Array Bool}{k:List ny}{σ:AS}{i:Nat}{o:XT}(h:Region.ready .any e b=[i])(g:e[i]? =some o)(f:IV ⟨.any e (fuel+1) b,k,σ⟩=true):Zx e o σ/\σ.plain o.op=true:=by
 unfold IV Eb Nc at f;simp only[h,g,BH,BB]at f;exact⟨As f.1,f.2⟩
theorem uH [Rnd]{X:Type}{L:List Nat}{g:XU}{args:Array YI}{val:X->YI}{G Φ':X->YM->Prop}
 (Y:∀w,Below W.heap.size W w->Φ w->XW P g args w (L4 w L val G)) (T:Ub W L Φ) (D:∀x,Tg L Φ (G x) (Φ' x))
 (F:IV c=true) (t:Q1 P c=some (g,args)) (h:∀x,K0 P Δ W Q (Φ' x) (Lp (.v (val x)) c)):K0 P Δ W Q Φ c:=by
 obtain⟨wJ,k,σ⟩:=c;replace h:=λx=>(h x).get
 refine⟨?_⟩;unfold Q1 at t;split at t
 .rename_i M xs s;split at t
  .rename_i vs hv;injection t with t;injection t with h1 h2;subst h1;subst h2;unfold Y6 at s;split at s
   .rename_i K o m;split at s
    .rename_i R;unfold Nc at m;simp only at m;split at m
     .cases F
     .rename_i u fuel p;split at m
      .rename_i i l;cases f:u[i]? with
       |none=>rw[f]at m;cases m
       | some wI=>
        rw[f]at m;simp only[BH,BW,BX]at m;obtain⟨rfl,rfl⟩:=m;intro A B E;refine⟨λU=>(by rw[U]at l;cases l),λj H=> ?_⟩;rw[l]at H;obtain rfl:j=i:=by simpa using H
        obtain⟨_,Z,y,z⟩:=mem_ready.1 (show j∈Region.ready .any u p by rw[l];simp);obtain rfl:wI=Z:=by rw[f]at y;injection y
        obtain⟨S,hp⟩:=QA l f F;refine⟨wI,f,.mutm val G Φ' S R hp (λcs b e=> ?_) (.inr ⟨M,xs,vs,s,hv,Y⟩) T D λx=> ?_⟩
        .unfold T8 at s;rw[e]at s;cases s
        have J:=h x;simp only[Qq,Lp,l,f,BZ,BU]at J;exact J A (B.set_ f z) (E.put _ (by intro k N;simp[AV.ids]at N))
      .cases m
     .cases m
    .cases s
   .cases s
  .cases t
 .cases t
end
def Fc(k g:Nat):AV->AV
 | .p j o=>if CF j k then .v (.pointer (some ⟨g,o,none⟩))else .p j o
 | .s j n=>if CF j k then .v (.slice (some ⟨g,0,none⟩) n n)else .s j n
 |x=>x
def C9(k:Nat)(b:Nat->Option (List AV)):Nat->Option (List AV):=λj=>
 if CF j k then none else match b j with
  |some cs=>if cs.all AV.isV then some cs else none
  |none=>none
def Sf(k g:Nat)(c:Mm):Mm:=⟨c.foc,c.k,⟨c.st.tmps.map (Fc k g),C9 k c.st.box⟩⟩
def Iy(k:Nat)(c:Mm):Bool:=JH c&&c.st.tmps.all λx=>(Fc k 0 x).ids.all λi=>(C9 k c.st.box i).isSome
theorem EX{k:Nat}{β:Nat->Nat}(x:AV):(Fc k (β k) x).conc β=x.conc β:=by
 cases x<;>simp only[Fc]
 .split
  .rename_i h;rw[CL h];rfl
  .rfl
 .split
  .rename_i h;rw[CL h];rfl
  .rfl
theorem NW{k g:Nat}(x:AV):(Fc k g x).ids=(Fc k 0 x).ids:=by
 cases x<;>simp only[Fc]
 .split<;>rfl
 .split<;>rfl
theorem Mf{k j:Nat}{b:Nat->Option (List AV)}{cs:List AV}(h:C9 k b j=some cs):b j=some cs/\j≠k/\cs.all AV.isV=true:=by
 unfold C9 at h;split at h
 .cases h
 .rename_i f;split at h
  .rename_i g l;split at h
   .rename_i c;injection h with h;subst h;exact⟨l,λe=>f (by rw[e];exact Nat.beq_refl k),c⟩
   .cases h
  .cases h
section
variable{P:YH}{Δ:List XY}{W:YM}{Q:Exit->Act->YM->Prop}{Φ:YM->Prop}{c:Mm}
theorem uq [Rnd](k:Nat)(vs:List YI)(K:Iy k c=true)(M:c.st.box k=some (vs.map .v))(h:∀g,W.heap.size<=g->K0 P Δ W Q (λu=>Φ u/\K8 u g vs) (Sf k g c)):K0 P Δ W Q Φ c:=by
 obtain⟨H,Y,σ⟩:=c;unfold Iy at K;simp only[BB]at K;obtain⟨N,E⟩:=K;have B:∀{β:Nat->Nat} {a:Act} {w:YM},σ.wf->Ok Δ W β σ Φ a w->W.heap.size<=β k/\(AS.mk (σ.tmps.map (Fc k (β k))) (C9 k σ.box)).wf/\Ok Δ W β (AS.mk (σ.tmps.map (Fc k (β k))) (C9 k σ.box)) (λu=>Φ u/\K8 u (β k) vs) a w:=by
  intro β a w s m;obtain⟨z,ty,A⟩:=m.box k _ M;refine⟨z,⟨λx J i hi=> ?_,λj cs t x J i hi=> ?_⟩,⟨?_,m.defers,m.bel,λj cs t=>m.box j cs (Mf t).1,λj Z t L e=> ?_,λT wI=> ?_⟩⟩
  .obtain⟨y,S,rfl⟩:=CB.1 J;rw[NW]at hi;exact BA.1 (BA.1 E y S) i hi
  .have:=BA.1 (Mf t).2.2 x J;cases x<;>first|(simp[AV.ids]at hi;done)|cases this
  .rw[m.tmps];simp only[List.map_map];exact List.map_congr_left λx _=>(EX x).symm
  .obtain⟨cs,p⟩:=BP.1 t;obtain⟨U,D⟩:=BP.1 L;exact m.inj j Z (by rw[(Mf p).1];rfl) (by rw[(Mf D).1];rfl) e
  .have G:∀j,(C9 k σ.box j).isSome=true->β k≠β j:=λj t e=>by
    obtain⟨cs,p⟩:=BP.1 t;exact(Mf p).2.1 (m.inj k j (by rw[M];rfl) (by rw[(Mf p).1];rfl) e).symm
   refine⟨m.keep T ⟨wI.size,λb R k2 X=>wI.heap b R k2 λj t=>X j ?_⟩,ty,?_⟩
   .obtain⟨cs,p⟩:=BP.1 t;rw[(Mf p).1];rfl
   .rw[wI.heap (β k) z (AM.1 A).1 λj t=>(G j t).symm,A];simp[AV.conc,DE]
 refine⟨?_⟩;cases H with
 |code x=>exact λs β a w m=>by obtain⟨z,A,F⟩:=B s m;exact(h _ z).get A β a w F
 |ops o l=>exact λs β a w m=>by obtain⟨z,A,F⟩:=B s m;exact(h _ z).get A β a w F
 |any o f l=>cases N
 |out e=>exact λs β a w m=>by obtain⟨z,A,F⟩:=B s m;exact(h _ z).get A β a w F
end
theorem Kg.loadJ{P:YH}{u:YM}{g j:Nat}{t b:XX}{cs:List YI}{v:YI}(h:Kg u g t cs)(c:Nx P b=some false)(e:cs[j]? =some v):(Ke b ⟨g,j,none⟩).run P u= .ok (.value v) u:=
 Kh c (by have:=h.range j v e;rw[BV]at this;exact this)
theorem Q2{P:YH}{w:YM}{t e:XX}{len:Nat}{c:Array (Nat×YI)}{cells:Array YI}{R:Nat->Prop}(h:Ic P t len c=some (e,cells))(p:∀g,w.heap.size<=g->R g):M9 P w (Kr len) (λg u=>Kw e cells g u/\R g) (Lr t len c):=by
 obtain⟨x,s,f,k,m⟩:=M9.fresh (Kj (w:=w) h) (λg=>[g]) (λg u h b k=>by
  simp only[AB]at k;subst k;exact⟨_,_,_,h⟩)
 exact⟨x,s,f,k,λj l o=>⟨(m j l o).1,p _ ((m j l o).2 x Zs)⟩⟩
theorem UB{e:XX}{cs:Array YI}{g:Nat}{u:YM}(h:Kw e cs g u):g<u.heap.size:=(AM.1 h).1
def Cz(w:YM)(ga f g e:Nat)(c h:RV)(M:Nat):Prop:=w.heap.size<=M/\ga<M/\f<M/\g<M/\e<M/\(∀b∈M6 c,b<M)/\∀b∈M6 h,b<M
structure ma(a b:Pt)(ga gb gl gh:Nat)(rl rh:RV)(u:YM):Prop where
 pa:Kg u ga 74 (K9 a)
 pb:Kg u gb 74 (K9 b)
 pl:K8 u gl rl.cl
 ph:K8 u gh rh.cl
 ql:Kn rl (a.2:Rat) 7 u
 qh:Kn rh (b.2:Rat) 7 u
theorem ma.left{a b:Pt}{ga o j e M:Nat}{m p:RV}{w f u:YM}{L:List Nat}(z:Cz w ga o j e m p M)(y:∀b∈L,M<=b)(s:f.heap.size=u.heap.size)(c:∀b,b∉L->f.heap[b]? =u.heap[b]?)(h:ma a b ga o j e m p f):ma a b ga o j e m p u:=by
 obtain⟨_,t,D,B,x,A,v⟩:=z;have k:∀{g},g<M->g∉L:=λF E=>by have:=y _ E;omega
 exact⟨h.pa.left c (k t),h.pb.left c (k D),h.pl.left c (k B),h.ph.left c (k x),h.ql.leftL s c λb l=>k (A b l),h.qh.leftL s c λb l=>k (v b l)⟩
theorem cF{a b:Pt}{ga s p o g go:Nat}{j k:RV}{w f u:YM}(x:Cz w ga s p o j k g)(v:g<=go)(G:f.heap.size=u.heap.size)(D:∀b,b∉[go]->f.heap[b]? =u.heap[b]?)
 (h:(Kg f ga 74 (K9 a)/\Kg f s 74 (K9 b)/\K8 f p j.cl/\K8 f o k.cl)/\Kn j (a.2:Rat) 2 f/\Kn k (b.2:Rat) 2 f) (E:Kw 53 ([j,k].flatMap RV.cl).toArray g f) (c:Kg f go 88 [.slice none 0 0]) (F:Kg u go 88 [.slice (some ⟨g,0,none⟩) 2 2]):
 ma a b ga s p o j k u/\UG w.heap.size go 7 (some ⟨g,0,none⟩,2) [(j,(a.2:Rat)),(k,(b.2:Rat))] u:=by
 have y:ma a b ga s p o j k u:=ma.left x (L:=[go]) (by simpa using v) G D ⟨h.1.1,h.1.2.1,h.1.2.2.1,h.1.2.2.2,h.2.1.mono (K':=7) Zd,h.2.2.mono (K':=7) Zd⟩;have B:K6 f w.heap.size 53 4 (some ⟨g,0,none⟩) 2 2 ([j,k].flatMap RV.cl).toArray.toList:=K6.lit E rfl x.1 Zd;have t:go≠g:=λe=>c.ne B Zd g (by simp[bl]) e.symm
 obtain⟨_,H,K,J,Z,A,z⟩:=x;refine⟨y,⟨⟨F,B.left D (λb c=>by have c:=AB.1 c;subst c;simpa using t.symm),?_⟩,?_⟩⟩
 .intro r m;simp only[AQ,CG,or_false]at m;rcases m with rfl|rfl
  .exact⟨λb c l=>by have c:=AB.1 c;subst c;have:=A _ l;omega,λl=>by have:=A _ l;omega⟩
  .exact⟨λb c l=>by have c:=AB.1 c;subst c;have:=z _ l;omega,λl=>by have:=z _ l;omega⟩
 .intro r m;simp only[AQ,CG,or_false]at m;rcases m with rfl|rfl
  .exact y.ql
  .exact y.qh
def Yo(c b go:Nat):YI:= .func (.func 332) #[] #[Kp c,Kp b,Kp go]
theorem UG.leftL{B go K:Nat}{y:YZ}{f:List RQ}{e u:YM}{L:List Nat}(h:UG B go K y f e)(k:e.heap.size=u.heap.size)(c:∀b,b∉L->e.heap[b]? =u.heap[b]?)(m:go∉L)(l:∀b∈bl y.1,b∉L)(j:∀r∈f,∀b∈M6 r.1,b∉L):UG B go K y f u:=
 ⟨⟨h.box.left c m,h.own.left c l,h.apart⟩,λr g=>(h.num r g).leftL k c (j r g)⟩
structure Ev(a b:Pt)(ga gb gl gh gp go:Nat)(rl rh:RV)(M B:Nat)(y:YZ)(rs:List RQ)(u:YM):Prop where
 c:ma a b ga gb gl gh rl rh u
 p:Kg u gp 417 [Yo gl gh go]
 o:UG B go 7 y rs u
 m:∀b∈bl y.1,M<=b
def P0(a b:Pt)(c:List Rat):List Rat:=(a.2:Rat)::(b.2:Rat)::c.filter λy=>decide ((a.2:Rat)<y)&&decide (y<(b.2:Rat))
theorem Dp{a b:Pt}{f:List RQ}{c:List Rat}(h:f.map (·.2)=P0 a b c)(r:RV)(q:Rat):(R1 (a.2:Rat) (b.2:Rat) f r q).map (·.2)=P0 a b (c++ [q]):=by
 unfold R1 P0 at*;split
 .rename_i e;rw[BM,h,List.filter_append,List.filter_cons_of_pos (by simp[e])];rfl
 .rename_i e;rw[h,List.filter_append,List.filter_cons_of_neg (by simpa using λj g=>e ⟨j,g⟩)];simp
theorem Zc{a b:Pt}{e:List RQ}{c:List Rat}(h:e.map (·.2)=P0 a b c):e.length<=2+c.length:=by
 have f:=congrArg List.length h;rw[AW]at f;have g:(P0 a b c).length<=2+c.length:=by unfold P0;simp only[BO];have:=List.length_filter_le (λy=>decide ((a.2:Rat)<y)&&decide (y<(b.2:Rat))) c;omega
 omega
theorem K4.apt{X:Type}{w k:YM}{val:X->YI}{G:X->YM->Prop}{e:XS}(h:K4 w val G e k)(L:X->List Nat)(o:∀x u,G x u->∀b∈L x,∃cs ty own,u.heap[b]? =some (.cells cs ty own)){R:X->Prop}(l:∀x,(∀b∈L x,w.heap.size<=b)->R x):K4 w val (λx u=>G x u/\R x) e k:=by
 obtain⟨x,m,f,j⟩:=h.fresh L o;exact⟨x.1,m,f,λc g k2=>⟨(j c g k2).1,l _ λb f=>((j c g k2).2.1 b f).1⟩⟩
theorem Kn.blk{r:RV}{q:Rat}{K:Nat}{w:YM}(h:Kn r q K w):∀b∈M6 r,∃cs ty own,w.heap[b]? =some (.cells cs ty own):=λb c=>by
 rcases AN.1 c with c|c
 .exact(h.1.2.2.2.blk b c).2
 .exact(h.2.2.2.2.blk b c).2
section
variable{W w wa u:YM}{a b:Pt}{ga gb gl gh gp go M N:Nat}{rl rh r:RV}{q:Rat}{y z:YZ}{rs:List RQ}
theorem Ev.apq(h:Ev a b ga gb gl gh gp go rl rh M N y rs w)(e:∀b∈M6 r,w.heap.size<=b):jM go y r:=
 ⟨λb f c=>by have:=e b c;have:=(h.o.own.lt b f).2;omega,λc=>by have:=e _ c;have:=h.o.box.lt;omega⟩
theorem Ev.put(e:Cz W ga gb gl gh rl rh M)(f:M<=go)(k:Below W.heap.size W w)(h:Ev a b ga gb gl gh gp go rl rh M W.heap.size y rs w)(t:Kn r q 7 w)(l:jM go y r)(p:rs.length<=99999999){N:Nat}(j:N<=w.heap.size):
 Ca 332 #[r.val,Kp gl,Kp gh,Kp go] w (L4 w (go::bl y.1) (λ_:YZ=> .tuple #[]) λz u=>OutG W.heap.size go z (R1 (a.2:Rat) (b.2:Rat) rs r q) u/\∀b∈bl z.1,b∈bl y.1\/N<=b):=
 rP j k (AH e.1 f) (λb s=>AH e.1 (h.m b s)) (AC _) h.o t l p Zd h.c.pl h.c.ph h.c.ql h.c.qh ⟨λg=>by have:=e.2.2.2.2.2.1 _ g;omega,λg=>by have:=e.2.2.2.2.2.2 _ g;omega⟩
theorem Ev.own(f:Cz W ga gb gl gh rl rh M)(e:M<=go)(h:Ev a b ga gb gl gh gp go rl rh M W.heap.size y rs w):∀b∈go::bl y.1,W.heap.size<=b/\∃cs ty own,w.heap[b]? =some (.cells cs ty own):=λb c=>by
 rcases AQ.1 c with rfl|c
 .exact⟨AH f.1 e,h.o.box.own⟩
 .exact⟨AH f.1 (h.m b c),(h.o.own.blk b c).2⟩
theorem Ev.next(F:Cz W ga gb gl gh rl rh M)(s:M<=go)(v:wa.heap.size=u.heap.size)(l:∀b,b∉go::bl y.1->wa.heap[b]? =u.heap[b]?)(h:Ev a b ga gb gl gh gp go rl rh M W.heap.size y rs wa)(E:Kn r q 7 wa)(D:jM go y r)(B:M<=N)(A:OutG W.heap.size go z (R1 (a.2:Rat) (b.2:Rat) rs r q) u/\∀b∈bl z.1,b∈bl y.1\/N<=b):
 Ev a b ga gb gl gh gp go rl rh M W.heap.size z (R1 (a.2:Rat) (b.2:Rat) rs r q) u:=by
 have t:∀x:RQ,Kn x.1 x.2 7 wa->jM go y x.1->Kn x.1 x.2 7 u:=λx g k=>g.leftL v l λb e j=>by
  rcases AQ.1 j with rfl|j
  .exact k.2 e
  .exact k.1 b j e
 refine⟨h.c.left F (L:=go::bl y.1) (λb e=> ?_) v l,h.p.left l λj=> ?_,⟨A.1,λx g=> ?_⟩,λb e=> ?_⟩
 .rcases AQ.1 e with rfl|e
  .exact s
  .exact h.m b e
 .rcases AQ.1 j with rfl|j
  .exact h.p.ne2 h.o.box Zd rfl
  .exact h.p.ne h.o.own Zd _ j rfl
 .unfold R1 at g;split at g
  .rcases AN.1 g with f|f
   .exact t x (h.o.num x f) (h.o.apart x f)
   .obtain rfl:x=(r,q):=by simpa using f
    exact t _ E D
  .exact t x (h.o.num x g) (h.o.apart x g)
 .rcases A.2 b e with f|f
  .exact h.m b f
  .exact AH B f
end
def sH(c:Mm):Code:=match Bx c with|some q=>q.2.2.2.1|none=> .skip
def su(c:Mm):Code:=match Bx c with|some q=>q.2.2.2.2|none=> .skip
theorem ve{P:YH}{Δ:List XY}{W:YM}{Q:Exit->Act->YM->Prop}{Φ:YM->Prop}{c:Mm}{gf:XU}{lb:Array YI}{ps:Array Tmp}{α:Type}{encs:α->Array YI}{xs:List α}{Pre:YM->Prop}
 (ι:Type) (J:ι->Nat->YM->Prop) (L:ι->List Nat) (G:ι->ι->YM->Prop) (h:ι)
 (o:Bx c=some (gf,lb,ps,sH c,su c)) (f:∀w,Below W.heap.size W w->Φ w->Jt P W gf lb encs xs Pre) (p:∀args w,(callFunc gf args).run P w= .ok (.enter gf args) w) (g:∀x,(encs x).size=ps.size)
 (b:∀s k u,J s k u->Pre u) (t:∀s k,Ub W (L s) (J s k)) (m:∀s k j,Tg (L s) (J s k) (G s j) (J j (k+1))) (e:∀s k,D3 (J s k)) (y:∀w,Φ w->J h 0 w)
 (v:∀(l:Nat) (s:ι) (k:Nat) (x:α) (w0:YM) (fn:XU) (tmps:Array YI) (D:Nat),Below W.heap.size W w0->W.heap.size<=l->l<w0.heap.size->l∉L s->w0.heap[l]? =some (.loop (Xf fn tmps ps (sH c) (su c) D .ready))->xs[k]? =some x->
  (∀r u,RF W w0 l r u->J s k u)->∀[R:Rnd],R.r=some l->
  K0 P [] W (nt P (su c) l (L4 w0 (L s) (λ_:ι=> .bool true) (G s))) (RF W w0 l (Xf fn tmps ps (sH c) (su c) D .ready)) ⟨.code (sH c),[],⟨l9 ps (encs x) c.st.tmps,λ_=>none⟩⟩)
 (z:∀s D,W.heap.size<=D->K0 P (⟨.collected D,#[]⟩::Δ) W Q (λu=>J s xs.length u/\u.heap[D]? =some (.deferred (some []))) (a7 c)):K0 P Δ W Q Φ c:=
 ws ι J L G h o f p g b t m e y v z
def OF(e:Pt×Pt):List YI:=K9 e.1++K9 e.2
structure sV(ge M B:Nat)(y:YZ)(k:Nat)(es:List (Pt×Pt))(u:YM):Prop where
 g:Kg u ge 418 [.slice y.1 k y.2]
 r:K6 u B 422 4 y.1 k y.2 (es.flatMap OF)
 m:∀b∈bl y.1,M<=b
def tu(e:Nat)(y:YZ)(c:List RQ):Prop:=∀r∈c,e∉M6 r.1/\∀b∈bl y.1,b∉M6 r.1
def VH(W c:YM)(l:Nat)(L:List Nat)(r:Loop)(u:YM):Prop:=c.heap.size<=u.heap.size/\(∀b,W.heap.size<=b->b<c.heap.size->b≠l->b∉L->u.heap[b]? =c.heap[b]?)/\u.heap[l]? =some (.loop r)
theorem VH.left{W f c u:YM}{l:Nat}{L L2:List Nat}{r:Loop}(h:VH W f l L r c)(s:c.heap.size=u.heap.size)(j:∀b,b∉L2->c.heap[b]? =u.heap[b]?)(o:∀b∈L2,b∈L\/f.heap.size<=b)(e:∀b∈L2,∃cs ty own,c.heap[b]? =some (.cells cs ty own)):VH W f l L r u:=by
 refine⟨by rw[<-s];exact h.1,λb m t p k=> ?_,?_⟩
 .rw[<-j b λe=>(o b e).elim k λh=>I];exact h.2.1 b m t p k
 .rw[<-j l λv=>by obtain⟨_,_,_,g⟩:=e l v;rw[h.2.2]at g;cases g];exact h.2.2
def Qv(L:List (List Pt))(a b:Pt)(k:Nat):List Rat:=(L.flatten.map λp=>(p.2:Rat))++Tm a.1 b.1 [] ((Ku L).take k)
theorem FP(c b:Int):∀(es l:List (Pt×Pt)) (e:Pt×Pt),Tm c b es (l++ [e])=Tm c b es l++GN c b (es++l) e
 |es,[],e=>by simp[Tm]
 |es,x::l,e=>by
  show GN c b es x++Tm c b (es++ [x]) (l++ [e])=(GN c b es x++Tm c b (es++ [x]) l)++_;rw[FP c b (es++ [x]) l e,AO,AO];rfl
theorem OL{L:List (List Pt)}{a b:Pt}{k:Nat}{e:Pt×Pt}(h:(Ku L)[k]? =some e):Qv L a b (k+1)=Qv L a b k++GN a.1 b.1 ((Ku L).take k) e:=by
 unfold Qv;rw[L7 h,FP,BK,AO]
abbrev QB:=Nat×((YZ)×List RQ)×(YZ)
section
variable{W w wa u:YM}{a b:Pt}{ga gb gl gh gp go ge gE M n k:Nat}{rl rh:RV}{L:List (List Pt)}{yE:YZ}{HE:List LP}{s s':QB}
structure EJ(W:YM)(a b:Pt)(ga gb gl gh gp go ge gE M n:Nat)(rl rh:RV)(L:List (List Pt))(yE:YZ)(HE:List LP)(s:QB)(k:Nat)(u:YM):Prop where
 kk:s.1=k
 v:s.2.1.2.map (·.2)=P0 a b (Qv L a b k)
 ap:tu ge s.2.2 s.2.1.2
 e:Ev a b ga gb gl gh gp go rl rh M W.heap.size s.2.1.1 s.2.1.2 u
 g:sV ge M W.heap.size s.2.2 k ((Ku L).take k) u
 o:Eh W.heap.size gE yE n HE u
def EL(go ge:Nat)(s:QB):List Nat:=go::ge::(bl s.2.1.1.1++bl s.2.2.1)
structure EG(W:YM)(a b:Pt)(go ge M:Nat)(L:List (List Pt))(s s':QB)(u:YM):Prop where
 k:s'.1=s.1+1
 v:s'.2.1.2.map (·.2)=P0 a b (Qv L a b (s.1+1))
 ap:tu ge s'.2.2 s'.2.1.2
 new:∃new,s'.2.1.2=s.2.1.2++new/\∀x∈new,Kn x.1 x.2 7 u
 o:OutG W.heap.size go s'.2.1.1 s'.2.1.2 u
 m:∀b∈bl s'.2.1.1.1,M<=b
 g:sV ge M W.heap.size s'.2.2 (s.1+1) ((Ku L).take (s.1+1)) u
theorem B_{x:Nat}:x∈EL go ge s↔x=go\/x=ge\/x∈bl s.2.1.1.1\/x∈bl s.2.2.1:=by unfold EL;simp
theorem EJ.own(l:Cz W ga gb gl gh rl rh M)(f:M<=go)(j:M<=ge):Ub W (EL go ge s) (EJ W a b ga gb gl gh gp go ge gE M n rl rh L yE HE s k):=λu h x c=>by
 rcases B_.1 c with rfl|rfl|c|c
 .exact⟨AH l.1 f,h.e.o.box.own⟩
 .exact⟨AH l.1 j,h.g.g.own⟩
 .exact⟨AH l.1 (h.e.m x c),(h.e.o.own.blk x c).2⟩
 .exact⟨(h.g.r.blk x c).1,(h.g.r.blk x c).2⟩
theorem EJ.box(h:EJ W a b ga gb gl gh gp go ge gE M n rl rh L yE HE s k wa){g:Nat}{t:XX}{cs:List YI}(c:Kg wa g t cs)(m:t≠88)(l:t≠418)(j:t≠53)(p:t≠422):g∉EL go ge s:=λv=>by
 rcases B_.1 v with rfl|rfl|f|f
 .exact c.ne2 h.e.o.box m rfl
 .exact c.ne2 h.g.g l rfl
 .exact c.ne h.e.o.own (λe=>j e.symm) _ f rfl
 .exact c.ne h.g.r (λe=>p e.symm) _ f rfl
theorem EJ.row(h:EJ W a b ga gb gl gh gp go ge gE M n rl rh L yE HE s k wa){B p m cc:Nat}{e:XX}{A:YY}{xs:List YI}(f:K6 wa B e p A m cc xs)(v:e≠88)(t:e≠418)(l:e≠53)(y:e≠422):∀x∈bl A,x∉EL go ge s:=λx c z=>by
 rcases B_.1 z with rfl|rfl|j|j
 .exact h.e.o.box.ne f v _ c rfl
 .exact h.g.g.ne f t _ c rfl
 .exact N8 f h.e.o.own l x c j
 .exact N8 f h.g.r y x c j
theorem EJ.left(J:Cz W ga gb gl gh rl rh M)(y:M<=go)(A:M<=ge):Tg (EL go ge s) (EJ W a b ga gb gl gh gp go ge gE M n rl rh L yE HE s k) (EG W a b go ge M L s s') (EJ W a b ga gb gl gh gp go ge gE M n rl rh L yE HE s' (k+1)):=λwa u G l h j=>by
 have Z:=h.kk;subst Z;refine⟨j.k,j.v,j.ap,⟨h.e.c.left J (L:=EL go ge s) (λx f=> ?_) G l,h.e.p.left l (h.box h.e.p Zd Zd Zd Zd),⟨j.o,λx f=> ?_⟩,j.m⟩,j.g,h.o.1.left l (h.box h.o.1 Zd Zd Zd Zd),h.o.2.own.left l (h.row h.o.2.own Zd Zd Zd Zd),λx f=>(h.o.2.ring x f).left l (h.row (h.o.2.ring x f) Zd Zd Zd Zd)⟩
 .rcases B_.1 f with rfl|rfl|f|f
  .exact y
  .exact A
  .exact h.e.m x f
  .exact h.g.m x f
 .obtain⟨new,E,D⟩:=j.new;rw[E]at f;rcases AN.1 f with f|f
  .refine(h.e.o.num x f).leftL G l λc t z=> ?_
   have F:=h.e.o.apart x f;have H:=h.ap x f;rcases B_.1 z with rfl|rfl|B|B
   .exact F.2 t
   .exact H.1 t
   .exact F.1 c B t
   .exact H.2 c B t
  .exact D x f
theorem vB{r:RV}{q:Rat}{K:Nat}:D3 λu=>Kn r q K u:=λwa u g e h=>h.same g λb f=>by
 obtain⟨_,_,_,c⟩:=h.blk b f;exact e _ _ _ _ c
theorem uV{B s n c:Nat}{e:XX}{A:YY}{xs:List YI}:D3 λu=>K6 u B e s A n c xs:=λwa u l g h=>h.same λb j=>by
 obtain⟨_,_,_,_,f⟩:=h.blk b j;exact g _ _ _ _ f
theorem wl{g:Nat}{cs:List YI}:D3 λu=>K8 u g cs:=λwa u e c h=>by
 obtain⟨t,h⟩:=h;exact⟨t,(c _ _ _ _ h).trans h⟩
theorem wD{y:YZ}{j:List RQ}{B:Nat}:D3 (Ev a b ga gb gl gh gp go rl rh M B y j):=λwa u f e h=>
 ⟨⟨uT wa u f e h.c.pa,uT wa u f e h.c.pb,wl wa u f e h.c.pl,wl wa u f e h.c.ph,vB wa u f e h.c.ql,vB wa u f e h.c.qh⟩,uT wa u f e h.p,⟨⟨uT wa u f e h.o.box,uV wa u f e h.o.own,h.o.apart⟩,λr g=>vB wa u f e (h.o.num r g)⟩,h.m⟩
theorem wE:D3 (EJ W a b ga gb gl gh gp go ge gE M n rl rh L yE HE s k):=λwa u f c h=>
 ⟨h.kk,h.v,h.ap,wD wa u f c h.e,⟨uT wa u f c h.g.g,uV wa u f c h.g.r,h.g.m⟩,uT wa u f c h.o.1,uV wa u f c h.o.2.own,λx j=>uV wa u f c (h.o.2.ring x j)⟩
end
section
variable{W w w0 wa u:YM}{a b:Pt}{ga gb gl gh gp go ge gE M n k l:Nat}{rl rh r:RV}{q:Rat}{L:List (List Pt)}{s:QB}{y z:YZ}{rs:List RQ}{rc:Loop}
structure pY(w0:YM)(ge:Nat)(s:QB)(y:YZ)(rs:List RQ):Prop where
 new:∃new,rs=s.2.1.2++new/\∀x∈new,∀b∈M6 x.1,w0.heap.size<=b
 blk:∀b∈bl y.1,b∈bl s.2.1.1.1\/w0.heap.size<=b
 ap:tu ge s.2.2 rs
structure Rd(W w0:YM)(l:Nat)(rc:Loop)(a b:Pt)(ga gb gl gh gp go ge M:Nat)(rl rh:RV)(L:List (List Pt))(s:QB)(y:YZ)(rs:List RQ)(u:YM):Prop where
 f:VH W w0 l (EL go ge s) rc u
 e:Ev a b ga gb gl gh gp go rl rh M W.heap.size y rs u
 g:sV ge M W.heap.size s.2.2 s.1 ((Ku L).take s.1) u
 p:pY w0 ge s y rs
structure pG(w0:YM)(go ge:Nat)(s:QB)(y:YZ)(r:RV):Prop where
 q:jM go y r
 n:∀b∈M6 r,w0.heap.size<=b
 e:ge∉M6 r/\∀b∈bl s.2.2.1,b∉M6 r
theorem Rd.apr(h:Rd W w0 l rc a b ga gb gl gh gp go ge M rl rh L s y rs w)(c:∀b∈M6 r,w.heap.size<=b):pG w0 go ge s y r:=
 ⟨h.e.apq c,λb j=>AH h.f.1 (c b j),λm=>by have:=c _ m;have:=h.g.g.lt;omega,λb j m=>by have:=c b m;have:=(h.g.r.lt b j).2;omega⟩
theorem pY.next{lo hi:Rat}(h:pY w0 ge s y rs)(g:pG w0 go ge s y r)(j:∀b∈bl z.1,b∈bl y.1\/w0.heap.size<=b):pY w0 ge s z (R1 lo hi rs r q):=by
 have f:∀b∈bl z.1,b∈bl s.2.1.1.1\/w0.heap.size<=b:=λb o=>(j b o).elim (h.blk b) .inr
 unfold R1;split
 .obtain⟨new,p,m⟩:=h.new;refine⟨⟨new++ [(r,q)],by rw[p,AO],λx c=> ?_⟩,f,λx c=> ?_⟩
  .rcases AN.1 c with c|c
   .exact m x c
   .obtain rfl:x=(r,q):=by simpa using c
    exact g.n
  .rcases AN.1 c with c|c
   .exact h.ap x c
   .obtain rfl:x=(r,q):=by simpa using c
    exact g.e
 .exact⟨h.new,f,h.ap⟩
theorem Rd.put(p:Cz W ga gb gl gh rl rh M)(c:M<=go)(g:Below W.heap.size W w)(h:Rd W w0 l rc a b ga gb gl gh gp go ge M rl rh L s y rs w)(o:Kn r q 7 w)(j:pG w0 go ge s y r)(m:rs.length<=99999999):
 Ca 332 #[r.val,Kp gl,Kp gh,Kp go] w (L4 w (go::bl y.1) (λ_:YZ=> .tuple #[]) λz u=>OutG W.heap.size go z (R1 (a.2:Rat) (b.2:Rat) rs r q) u/\∀b∈bl z.1,b∈bl y.1\/w0.heap.size<=b):=
 h.e.put p c g o j.q m h.f.1
theorem Rd.next(F:Cz W ga gb gl gh rl rh M)(t:M<=go)(A:M<=w0.heap.size)(D:wa.heap.size=u.heap.size)(v:∀b,b∉go::bl y.1->wa.heap[b]? =u.heap[b]?)(h:Rd W w0 l rc a b ga gb gl gh gp go ge M rl rh L s y rs wa)(G:Kn r q 7 wa)(B:pG w0 go ge s y r)(E:OutG W.heap.size go z (R1 (a.2:Rat) (b.2:Rat) rs r q) u/\∀b∈bl z.1,b∈bl y.1\/w0.heap.size<=b):
 Rd W w0 l rc a b ga gb gl gh gp go ge M rl rh L s z (R1 (a.2:Rat) (b.2:Rat) rs r q) u:=by
 refine⟨h.f.left D v (λx c=> ?_) (λx c=>(h.e.own F t x c).2),h.e.next F t D v G B.q A E,⟨h.g.g.left v λj=> ?_,h.g.r.left v λx c j=> ?_,h.g.m⟩,h.p.next B E.2⟩
 .rcases AQ.1 c with rfl|c
  .exact .inl (B_.2 (.inl rfl))
  .exact(h.p.blk x c).imp (λh=>B_.2 (.inr (.inr (.inl h)))) id
 .rcases AQ.1 j with rfl|j
  .exact h.g.g.ne2 h.e.o.box Zd rfl
  .exact h.g.g.ne h.e.o.own Zd _ j rfl
 .rcases AQ.1 j with rfl|j
  .exact h.e.o.box.ne h.g.r Zd _ c rfl
  .exact N8 h.g.r h.e.o.own Zd x c j
end
theorem bA{c u:YM}{L:List Nat}{e:XX}{cs:Array YI}{g:Nat}(f:∀b,b∉L->c.heap[b]? =u.heap[b]?)(h:Kw e cs g c)(j:g∉L):Kw e cs g u:=(f g j).symm.trans h
theorem Rd.lit{W A c:YM}{a b:Pt}{ga B u k x go p M l g:Nat}{z E:RV}{L:List (List Pt)}{s:QB}{y:YZ}{w:List RQ}{t:Loop}{e:XX}{cs:Array YI}(m:e≠88)(D:e≠53)(v:Kw e cs g c)(h:Rd W A l t a b ga B u k x go p M z E L s y w c):g∉go::bl y.1:=λf=>by
 have j:Kg c g e cs.toList:=by unfold Kg;rw[Array.toArray_toList];exact v
 rcases AQ.1 f with rfl|f
 .exact j.ne2 h.e.o.box m rfl
 .exact j.ne h.e.o.own (λe=>D e.symm) _ f rfl
section
variable{W w w0 wa u:YM}{a b:Pt}{ga gb gl gh gp go ge gE M n k l gq:Nat}{rl rh r:RV}{q:Rat}{L:List (List Pt)}{s:QB}{x:Pt×Pt}{y z:YZ}{rs:List RQ}{rc:Loop}
theorem Ev.leftL{L2:List Nat}{B:Nat}(A:Cz W ga gb gl gh rl rh M)(h:Ev a b ga gb gl gh gp go rl rh M B y rs wa)(f:wa.heap.size=u.heap.size)(e:∀b,b∉L2->wa.heap[b]? =u.heap[b]?)(v:∀b∈L2,M<=b)(t:gp∉L2)(g:go∉L2)(D:∀b∈bl y.1,b∉L2)(j:∀r∈rs,∀b∈M6 r.1,b∉L2):Ev a b ga gb gl gh gp go rl rh M B y rs u:=
 ⟨h.c.left A v f e,h.p.left e t,h.o.leftL f e g D j,h.m⟩
structure q8(w0:YM)(s:QB)(rs:List RQ)(z:YZ):Prop where
 blk:∀b∈bl z.1,b∈bl s.2.2.1\/w0.heap.size<=b
 ap:∀r∈rs,∀b∈bl z.1,b∉M6 r.1
structure Re(W w0:YM)(l:Nat)(rc:Loop)(a b:Pt)(ga gb gl gh gp go ge M:Nat)(rl rh:RV)(L:List (List Pt))(s:QB)(x:Pt×Pt)(y:YZ)(rs:List RQ)(z:YZ)(u:YM):Prop where
 f:VH W w0 l (EL go ge s) rc u
 e:Ev a b ga gb gl gh gp go rl rh M W.heap.size y rs u
 g:Kg u ge 418 [.slice s.2.2.1 s.1 s.2.2.2]
 r:K6 u W.heap.size 422 4 z.1 (s.1+1) z.2 (((Ku L).take s.1++ [x]).flatMap OF)
 p:pY w0 ge s y rs
 z:q8 w0 s rs z
theorem Rd.app(h:Rd W w0 l rc a b ga gb gl gh gp go ge M rl rh L s y rs u)(H:W.heap.size<=u.heap.size)(G:Kw 422 (OF x).toArray gq u)(J:s.1<4096):
 Mv XM u (bl s.2.2.1) (λz:YZ=> .slice z.1 (s.1+1) z.2) (λz v=>K6 v W.heap.size 422 4 z.1 (s.1+1) z.2 (((Ku L).take s.1++ [x]).flatMap OF)/\q8 w0 s rs z) (My 418 418 (.slice s.2.2.1 s.1 s.2.2.2) (Kr 1 gq)):=by
 have j:=M2 (P:=XM) (s:=4) (z:= .agg #[.int .i64 0,.int .i64 0,.int .i64 0,.int .i64 0]) (bytes:=32) (m:=1) (cc:=1) (t:=418) (elem:=422) O O rfl Zd h.g.r H (Mc (n:=1) G rfl) (by intro v E;simp[OF,K9]at E;rcases E with rfl|rfl|rfl|rfl<;>rfl) I Zd;have e:((Ku L).take s.1++ [x]).flatMap OF=((Ku L).take s.1).flatMap OF++(OF x).toArray.toList:=Zs
 rw[e];refine O7 j λz' A=>⟨λb c=>(A b c).imp id λZ=>AH h.f.1 Z,λr D b c B=> ?_⟩
 rcases A b c with F|F
 .exact(h.p.ap r D).2 b F B
 .have:=Og (h.e.o.num r D) b B;omega
theorem Rd.re(E:Cz W ga gb gl gh rl rh M)(h:Rd W w0 l rc a b ga gb gl gh gp go ge M rl rh L s y rs wa)(A:wa.heap.size=u.heap.size)(t:∀b,b∉bl s.2.2.1->wa.heap[b]? =u.heap[b]?)(B:K6 u W.heap.size 422 4 z.1 (s.1+1) z.2 (((Ku L).take s.1++ [x]).flatMap OF)/\q8 w0 s rs z):
 Re W w0 l rc a b ga gb gl gh gp go ge M rl rh L s x y rs z u:=
 ⟨h.f.left A t (λx j=> .inl (B_.2 (.inr (.inr (.inr j))))) (λx j=>(h.g.r.blk x j).2),h.e.leftL E A t h.g.m (λc=>h.e.p.ne h.g.r Zd _ c rfl) (λc=>h.e.o.box.ne h.g.r Zd _ c rfl) (λb v c=>N8 h.e.o.own h.g.r Zd b v c) (λr D b v c=>(h.p.ap r D).2 b c v),h.g.g.left t (λc=>h.g.g.ne h.g.r Zd _ c rfl),B.1,h.p,B.2⟩
structure Rz(W w0:YM)(l:Nat)(rc:Loop)(a b:Pt)(ga gb gl gh gp go ge M:Nat)(rl rh:RV)(L:List (List Pt))(s:QB)(x:Pt×Pt)(y:YZ)(rs:List RQ)(z:YZ)(u:YM):Prop where
 f:VH W w0 l (EL go ge s) rc u
 e:Ev a b ga gb gl gh gp go rl rh M W.heap.size y rs u
 g:Kg u ge 418 [.slice z.1 (s.1+1) z.2]
 r:K6 u W.heap.size 422 4 z.1 (s.1+1) z.2 (((Ku L).take s.1++ [x]).flatMap OF)
 p:pY w0 ge s y rs
 z:q8 w0 s rs z
theorem Re.rz(E:Cz W ga gb gl gh rl rh M)(v:M<=ge)(h:Re W w0 l rc a b ga gb gl gh gp go ge M rl rh L s x y rs z wa)(A:wa.heap.size=u.heap.size)(t:∀b,b∉[ge]->wa.heap[b]? =u.heap[b]?)(B:Kg u ge 418 [.slice z.1 (s.1+1) z.2]):
 Rz W w0 l rc a b ga gb gl gh gp go ge M rl rh L s x y rs z u:=
 ⟨h.f.left A t (λx c=>by have c:=AB.1 c;subst c;exact .inl (B_.2 (.inr (.inl rfl)))) (λx c=>by have c:=AB.1 c;subst c;exact h.g.own),h.e.leftL E A t (λx c=>by have c:=AB.1 c;subst c;exact v) (λj=>h.e.p.ne2 h.g Zd (AB.1 j)) (λj=>h.e.o.box.ne2 h.g Zd (AB.1 j)) (λb m j=>h.g.ne h.e.o.own Zd b m (AB.1 j)) (λr D b m j=>(h.p.ap r D).1 (AB.1 j▸m)),B,h.r.left t (λb m j=>h.g.ne h.r Zd b m (AB.1 j)),h.p,h.z⟩
theorem Rz.eg(t:M<=w0.heap.size)(G:∀b∈bl s.2.2.1,M<=b)(D:(Ku L)[s.1]? =some x)(F:rs.map (·.2)=P0 a b (Qv L a b (s.1+1)))(h:Rz W w0 l rc a b ga gb gl gh gp go ge M rl rh L s x y rs z w)(E:w.heap.size<=u.heap.size)(k2:∀b,b∈EL go ge s\/(w0.heap.size<=b/\b<w.heap.size)->u.heap[b]? =w.heap[b]?):
 EG W a b go ge M L s (s.1+1,(y,rs),z) u:=by
 refine⟨rfl,F,λr j=>⟨(h.p.ap r j).1,h.z.ap r j⟩,?_,h.e.o.toOutG.to λb c=> ?_,h.e.m,⟨h.g.to (k2 ge (.inl (B_.2 (.inr (.inl rfl))))),?_,λb c=>(h.z.blk b c).elim (G b) λv=>AH t v⟩⟩
 .obtain⟨new,B,v⟩:=h.p.new;refine⟨new,B,λr j=> ?_⟩;have A:=h.e.o.num r (by rw[B];exact List.mem_append_right _ j);exact A.same E λb c=>k2 b (.inr ⟨v r j b c,Og A b c⟩)
 .refine k2 b ?_;rcases AQ.1 c with rfl|c
  .exact .inl (B_.2 (.inl rfl))
  .exact(h.p.blk b c).elim (λf=> .inl (B_.2 (.inr (.inr (.inl f))))) λf=> .inr ⟨f,(h.e.o.own.lt b c).2⟩
 .rw[L7 D];exact h.r.same λb c=>k2 b<|(h.z.blk b c).elim (λf=> .inl (B_.2 (.inr (.inr (.inr f))))) λf=> .inr ⟨f,(h.r.lt b c).2⟩
end
structure Fin(B gr n c:Nat)(r t:List RQ)(u:YM):Prop where
 o:K6 u B 53 4 (some ⟨gr,0,none⟩) n c ((r++t).flatMap Oe)
 q:∀x∈r,Kn x.1 x.2 7 u
theorem wz{B j n c:Nat}{r t:List RQ}:D3 (Fin B j n c r t):=λe u f b h=>⟨uV e u f b h.o,λx g=>vB e u f b (h.q x g)⟩
theorem kw{B b n c:Nat}{r t:List RQ}{u:YM}(h:K6 u B 53 4 (some ⟨b,0,none⟩) n c ((r++t).flatMap Oe))(l:0<n):Kk u (some ⟨b,0,none⟩) r.length 4 Oe r:=
 ⟨rfl,λk x e=>⟨_,rfl,λj v f=>by
  have g:(r++t)[k]? =some x:=by rw[List.getElem?_append_left (AP.1 e).1];exact e
  have:=Dr h l g j v f;rw[Addr.add_mid,Addr.add_mid,BV];exact this⟩⟩
theorem Dq(c b:Int):∀(es l:List (Pt×Pt)),(Tm c b es l).length<=l.length*(2+es.length+l.length)
 |es,[]=>by simp[Tm]
 | es,e::l=>by
  have m:(GN c b es e).length<=2+es.length:=by
   unfold GN;rw[AA,AA];have f:=List.length_filterMap_le (λo=>Q5 o.1 o.2 e.1 e.2) es;have g:∀o:Option Rat,o.toList.length<=1:=λo=>by cases o<;>simp
   have k:=g (ED e.1 e.2 c);have j:=g (ED e.1 e.2 b);omega
  have f:=Dq c b (es++ [e]) l;rw[AA,List.length_singleton]at f;show(GN c b es e++Tm c b (es++ [e]) l).length<=(l.length+1)*(2+es.length+(l.length+1));rw[AA,BJ,Nat.one_mul];have h:2+(es.length+1)+l.length=2+es.length+(l.length+1):=I
  rw[h]at f;omega
theorem D7{L:List (List Pt)}{a b:Pt}{k:Nat}(h:L.flatten.length<=4096)(g:k<=4096):(Qv L a b k).length<=20000000:=by
 have e:=Dq a.1 b.1 [] ((Ku L).take k);have c:((Ku L).take k).length<=4096:=by rw[AI];omega
 have f:((Ku L).take k).length*(2+0+((Ku L).take k).length)<=4096*(2+0+4096):=CT c I;unfold Qv;rw[AA,AW];simp only[List.length_nil]at e;omega
theorem J1{L:List (List Pt)}(h:∀p∈L.flatten,vP p=true){e:Pt×Pt}(g:e∈Ku L):vP e.1=true/\vP e.2=true/\e.1≠e.2:=by
 obtain⟨r,b,f⟩:=List.mem_flatMap.1 g;have c:=Di f;refine⟨h _ (List.mem_flatten.2 ⟨r,b,c.1⟩),h _ (List.mem_flatten.2 ⟨r,b,c.2⟩),?_⟩;have:=(List.mem_filter.1 f).2;simpa using this
theorem Ri:∀(L:List (List Pt)),(Ku L).length<=L.flatten.length
 | []=>AC _
 | r::L=>by
  have b:(gO r).length<=r.length:=by
   refine AH (List.length_filter_le _ _) ?_;rw[List.length_zip];omega
  have:=Ri L;unfold Ku at*;rw[BE,AA,List.flatten_cons,AA];omega
section
variable{w:YM}{A:YY}{n c:Nat}{H:List LP}{a b:Pt}
theorem WN(hp:Nw w A n H)(hn:n<=1000000)(hv:vL 0 (K5 H)=true)(ha:vP a=true)(M:vP b=true)(hab:a.2<b.2):Ca 301 #[.slice A n c,Km a,Km b] w (K4 w (λq:(YZ)×{r:List RQ // r.map (·.2)=Cb (K5 H) a b}=> .slice q.1.1 q.2.1.length q.1.2) λq u=>Kk u q.1.1 q.2.1.length 4 Oe q.2.1/\∀r∈q.2.1,Kn r.1 r.2 7 u):=by
 have hf:=hv;rw[D9 (AK _),BB,decide_eq_true_eq,BA]at hf;have hlen:∀x∈H,x.1.length<=4096:=λx hx=>by
  have:x.1.length<=(K5 H).flatten.length:=List.Sublist.length_le (List.sublist_flatten_of_mem (List.mem_map_of_mem hx));omega
 have hpt:∀x∈H,∀p∈x.1,vP p=true:=λx hx p hp=>hf.2 p (List.mem_flatten.2 ⟨x.1,List.mem_map_of_mem hx,hp⟩)
 have hva:=O0 ha;have hvb:=O0 M;refine u4 func301 rfl (Below.refl _ _)<|ZS 0<|uk (B0 74 (Km a)) (Kp) (λg u=>Kg u g 74 (K9 a)/\w.heap.size<=g/\g∉[]) O (λF t h=>Qn (v:=Km a) t.size Zs) λga=>ZS 1<|uk (B0 74 (Km b)) (Kp) (λg u=>Kg u g 74 (K9 b)/\w.heap.size<=g/\g∉[]) O (λF t h=>Qn (v:=Km b) t.size Zs) λY=>ZR<|ZD 6 (λF t h=>Oz (c:=c) (hp.below t) hn (λx hx=>by have:=hlen x hx;omega) hv) λv=>ZA (Ke 74 ⟨ga,0,none⟩) (Km a) (λF t h=>(h.1.1.2).1.loadN O O)<|ZA (Ke 74 ⟨Y,0,none⟩) (Km b) (λF t h=>(h.1.2).1.loadN O O)<|uk (Lr 296 2 #[(0,Km a),(1,Km b)]) (Kr 2) (Kw 74 #[.int .i64 a.1,.int .i64 a.2,.int .i64 b.1,.int .i64 b.2]) O (λF t h=>Kj O) λg1=>ZR<|ZC (λF t h=>TX (c:=2) (l:=[a,b]) (B:=true) (Kk.lit (λ_=>rfl) h.2) Zs (by simp[ha,M])) λv2=>ZA (Ke 3 ⟨ga,1,none⟩) (.int .i64 a.2) (λF t h=>(h.1.1.1.1.2).1.loadJ O rfl)<|ZA (Ke 3 ⟨Y,1,none⟩) (.int .i64 b.2) (λF t h=>(h.1.1.1.2).1.loadJ O rfl)<|YN (a.2>=b.2)<|ZB 1 (Ke 3 ⟨ga,1,none⟩) (.int .i64 a.2) (λF t h=>(h.1.1.1.1.2).1.loadJ O rfl)<|ZB 4 (Ke 3 ⟨Y,1,none⟩) (.int .i64 b.2) (λF t h=>(h.1.1.1.2).1.loadJ O rfl)<|ZC (λF t h=>Ki a.2 F I I) λU=>ZD 0 (λF t h=>Ki b.2 F I I) λX=>uo O (stop:=1000) 2 _<|uq 7 U.cl O O λS hgl=>uq 8 X.cl O O λQ hgh=>uN (Φ':=λu=>(Kg u ga 74 (K9 a)/\Kg u Y 74 (K9 b)/\K8 u S U.cl/\K8 u Q X.cl)/\Kn U (a.2:Rat) 2 u/\Kn X (b.2:Rat) 2 u) O (λu h=>⟨⟨h.1.1.1.1.1.1.1.1.2.1,h.1.1.1.1.1.1.1.2.1,h.1.2,h.2⟩,h.1.1.1.2,h.1.1.2⟩)<|ZR<|ZA (Ke 53 ⟨S,0,none⟩) (U.val) (λF t h=>Ka (vs:=U.cl) O O (K8.range h.1.2.2.1))<|ZA (Ke 53 ⟨Q,0,none⟩) (X.val) (λF t h=>Ka (vs:=X.cl) O O (K8.range h.1.2.2.2))<|uk (Lr 88 2 #[(0,U.val),(1,X.val)]) (Kr 2) (λg u=>Kw 53 ([U,X].flatMap RV.cl).toArray g u/\Cz w ga Y S Q U X g) O (λF t h=>Q2 O (λg hg=>⟨AH t.size hg,BC h.1.1.lt hg,BC h.1.2.1.lt hg,BC h.1.2.2.1.ltW hg,BC h.1.2.2.2.ltW hg,λb M=>BC (Og h.2.1 b M) hg,λb M=>BC (Og h.2.2 b M) hg⟩)) λT=>ZS 3<|uk (Vz 88) (Kp) (λgo u=>Kg u go 88 [.slice none 0 0]/\T<=go/\go∉[]) O (λF t h=>Ny (z:= .slice none 0 0) O (Nat.le_of_lt (UB h.2.1)) Zs) λgo=>ZR<|um (p:=Cz w ga Y S Q U X T/\T<=go) (λu hu h=>⟨h.1.2.2,h.2.2.1⟩) O (λZ=> ?_)
 obtain⟨Z,K⟩:=Z;refine ur (L:=[go]) (G:=λu=>Kg u go 88 [.slice (some ⟨T,0,none⟩) 2 2]) (Φ':=λu=>ma a b ga Y S Q U X u/\UG w.heap.size go 7 (some ⟨T,0,none⟩,2) [(U,(a.2:Rat)),(X,(b.2:Rat))] u) (Om 88 ⟨go,0,none⟩ (.slice (some ⟨T,0,none⟩) 2 2)) (λF t h=>h.2.1.store O rfl (λv hv=>by have hv:=AB.1 hv;subst hv;rfl)) (λu h=>Za ⟨AH Z.1 K,h.2.1.own⟩) (λwa u e1 e2 h hG=>cF Z K e1 e2 h.1.1 h.1.2.1 h.2.1 hG) O O<|ZS 1<|uk (Vz 417) (Kp) (λwJ u=>Kg u wJ 417 [.nilFunc]/\go<=wJ/\wJ∉[go]) O (λF t h=>Ny (z:= .nilFunc) O (Nat.le_of_lt h.2.box.lt) (by simp;exact h.2.box.lt)) λwJ=>ZR<|um (p:=go<=wJ/\wJ≠go) (λu hu h=>⟨h.2.2.1,by simpa using h.2.2.2⟩) O (λhgp=> ?_)
 obtain⟨hgp,hgpo⟩:=hgp;refine ur (L:=[wJ]) (G:=λu=>Kg u wJ 417 [Yo S Q go]) (Φ':=λu=>Ev a b ga Y S Q wJ go U X T w.heap.size (some ⟨T,0,none⟩,2) [(U,(a.2:Rat)),(X,(b.2:Rat))] u) (Om 417 ⟨wJ,0,none⟩ (Yo S Q go)) (λF t h=>h.2.1.store O rfl (λv hv=>by have hv:=AB.1 hv;subst hv;rfl)) (λu h=>Za ⟨AH Z.1 (AH K hgp),h.2.1.own⟩) (λwa u e1 e2 h hG=>⟨h.1.1.left Z (L:=[wJ]) Zp e1 e2,hG,h.1.2.leftL e1 e2 (by simpa using hgpo.symm) (λb M=>by simpa using h.2.1.ne h.1.2.own Zd b M) (λr hr b M=>by
  simp only[AQ,CG,or_false]at hr;obtain⟨_,_,_,_,_,m5,m6⟩:=Z;rcases hr with rfl|rfl
  .have:=m5 b M;simp;omega
  .have:=m6 b M;simp;omega),λb M=>by have M:=AB.1 M;subst M;exact AC _⟩) O O ?_
 refine ZR ?_;have hgoW:w.heap.size<=go:=AH Z.1 K;have hlen2:(K5 H).flatten.length<=4096:=I
 refine uj (ι:={q:Nat×(YZ)×List RQ // q.1<=n/\q.2.2.map (·.2)=P0 a b ((K5 (H.take q.1)).flatten.map λp=>(p.2:Rat))}) 130 (λq=>⟨[vS 0 A n c,vV 1 (Km a),vV 2 (Km b),vV 4 (Kp ga),vV 5 (Kp Y),vS 6 none 0 0,vV 7 (Kp S),vV 8 (Kp Q),vV 9 (Kp go),vV 10 (Kp wJ),vS 54 A n c,vI 55 n,vI 56 q.1.1],[]⟩) (λq u=>Ev a b ga Y S Q wJ go U X T w.heap.size q.1.2.1 q.1.2.2 u) (λq=>n-q.1.1) (⟨(0,(some ⟨T,0,none⟩,2),[(U,(a.2:Rat)),(X,(b.2:Rat))]),AK _,rfl⟩) O Zf Zt (λu h=>h) ?_
 rintro⟨⟨k,y,wI⟩,hk,hvs⟩ gg;have hk2:k<=n:=hk
 by_cases hlt:k<n
 case neg=>
  refine ZR<|YN ((k:Int)<(n:Int))<|ug O<|ZS 0 ?_
  have hkn:k=n:=I
  have hvs2:wI.map (·.2)=P0 a b ((K5 H).flatten.map λp=>(p.2:Rat)):=by have:=hvs;simp only at this;rw[this,hkn,AX (by rw[hp.row.1];omega)]
  refine uk (Vz 418) (Kp) (λW u=>Kg u W 418 [.slice none 0 0]/\T<=W/\W∉wI.flatMap λr=>M6 r.1) O (λF t h=>Ny (z:= .slice none 0 0) O (by have:=h.o.box.lt;omega) (λb M=>by obtain⟨r,hr,M⟩:=List.mem_flatMap.1 M;exact Og (h.o.num r hr) b M)) λW=>ZR<|ZC (λF t h=>SF (N:=w.heap.size) (c:=c) t.size (hp.below t) hn hv) λE=> ?_
  obtain⟨⟨gE,yE⟩,HE,hHE⟩:=E;refine um (p:=T<=W/\W∉wI.flatMap λr=>M6 r.1) (λu hu h=>h.1.2.2) O (λhge=> ?_);obtain⟨hge,hgr⟩:=hge;have hHEl:HE.length=n:=by have J:=congrArg List.length hHE;simp only[K5,AW]at J;rw[J];exact hp.row.1
  have hHEm:∀x∈HE,∃z∈H,z.1=x.1:=λx hx=>by
   have:x.1∈K5 H:=hHE▸List.mem_map_of_mem hx;exact CB.1 this
  refine ve (α:=Pt×Pt) (gf:=367) (lb:= #[Kp gE]) (ps:= #[75,76]) (encs:=λe=> #[Km e.1,Km e.2]) (xs:=Ku (K5 HE)) (Pre:=Gk gE yE n HE) QB (λs k u=>EJ w a b ga Y S Q wJ go W gE T n U X (K5 H) yE HE s k u) (EL go W) (λs s' u=>EG w a b go W T (K5 H) s s' u) (0,(y,wI),(none,0)) O (λF t h=>J0 hn hHEl (λx hx=>by obtain⟨z,hz,e⟩:=hHEm x hx;rw[<-e];exact hlen z hz) (λx hx=>by obtain⟨z,hz,e⟩:=hHEm x hx;rw[<-e];exact hpt z hz)) (enters_of func367 O rfl) (λx=>rfl) (λs k u h=>h.o.at) (λs k=>EJ.own Z K hge) (λs k s'=>EJ.left Z K hge) (λs k=>wE) (λu h=>⟨rfl,by show wI.map (·.2)=_;rw[hvs2];unfold Qv;simp[Tm],λr hr=>⟨λhc=>hgr (List.mem_flatMap.2 ⟨r,hr,hc⟩),by intro b M;cases M⟩,h.1.1,⟨h.1.2.1,uG,by intro b M;cases M⟩,h.2.1⟩) (λl s k' x w0 fn tmps D hw0 hl hlt hlL hrec hx hRF R hR=> ?_) (λs D hD=> ?_)
  rotate_left
  .obtain⟨cnt,⟨⟨ya,yc⟩,rz⟩,ye⟩:=s;have hxl:(Ku (K5 HE)).length=(Ku (K5 H)).length:=by rw[hHE]
   rw[hxl];refine um (p:=rz.map (·.2)=Hw (K5 H) a b/\∃gr,ya=some ⟨gr,0,none⟩) (λu hu h=>by
    have J:rz.map (·.2)=P0 a b (Qv (K5 H) a b (Ku (K5 H)).length):=h.1.v
    unfold Qv at J;rw[BY]at J;have h2:rz.length=(rz.map (·.2)).length:=(AW _).symm
    obtain⟨gr,h3,_⟩:=h.1.e.o.own.cells (by show 0<rz.length;rw[h2,J];unfold P0;simp);exact⟨J,gr,h3⟩) O (λhz=> ?_)
   obtain⟨hrz,gr,rfl⟩:=hz;have hz2:2<=rz.length/\rz.length<=100000000:=by
    have J:rz.length=(Hw (K5 H) a b).length:=by rw[<-hrz,AW]
    have h2:rz.map (·.2)=P0 a b (Qv (K5 H) a b (Ku (K5 H)).length):=by rw[hrz];unfold Qv;rw[BY];rfl
    have h3:=Zc h2;have h4:=Ri (K5 H);have h5:=D7 (a:=a) (b:=b) (k:=(Ku (K5 H)).length) hlen2 I;refine⟨?_,by omega⟩;rw[J];unfold Hw;simp
   refine ZR<|ZA (Ke 88 ⟨go,0,none⟩) (.slice (some ⟨gr,0,none⟩) rz.length yc) (λF t h=>h.1.e.o.box.load1 O)<|uD (L:=[gr]) (val:=λq:{q:List RQ×List RQ // q.1 ⊆ rz/\q.1.map (·.2)=A7 (rz.map (·.2))}=> .slice (some ⟨gr,0,none⟩) q.1.1.length yc) (G:=λq u=>K6 u w.heap.size 53 4 (some ⟨gr,0,none⟩) rz.length yc ((q.1.1++q.1.2).flatMap Oe)) (Φ':=λq u=>Fin w.heap.size gr rz.length yc q.1.1 q.1.2 u/\u.heap[D]? =some (.deferred (some []))) (λF t h=>cj t (AH Z.1 (h.1.e.m gr (by simp[bl]))) hz2.1 hz2.2 h.1.e.o.own h.1.e.o.num (λz hz hc=>(h.1.e.o.apart z hz).1 gr (by simp[bl]) hc) Zd) (λu h=>Za ⟨AH Z.1 (h.1.e.m _ (by simp[bl])),(h.1.e.o.own.blk _ (by simp[bl])).2⟩) (λq wa u e1 e2 h hG=>⟨⟨hG,λr hr=>(h.1.e.o.num r (q.2.1 hr)).leftL e1 e2 (λb M hc=>(h.1.e.o.apart r (q.2.1 hr)).1 gr (by simp[bl]) (AB.1 hc▸M))⟩,(e2 D (λhc=>by obtain⟨_,_,_,hh⟩:=(h.1.e.o.own.blk gr (by simp[bl])).2;rw[<-AB.1 hc,h.2]at hh;cases hh)).symm.trans h.2⟩) O O λq=>ZR<|vK (v:= .slice (some ⟨gr,0,none⟩) q.1.1.length yc) wz hD O (λF t h=>⟨((some ⟨gr,0,none⟩,yc),⟨q.1.1,by rw[q.2.2,hrz];rfl⟩),rfl,t,λu k1 k2=> ?_⟩)
   have hF:=h u ⟨k1,λb J h2=>k2 b J h2⟩;exact⟨kw hF.o I,hF.q⟩
  have hJ0:=hRF _ w0 ⟨AC _,λ_ _ _ _=>rfl,hrec⟩;obtain rfl:s.1=k':=hJ0.kk;have hx2:(Ku (K5 H))[s.1]? =some x:=by rw[<-hHE];exact hx
  have hM0:T<=w0.heap.size:=by have:=hJ0.e.o.box.lt;omega
  refine ZR<|vt O hl<|uN (Φ':=λu=>Rd w w0 l _ a b ga Y S Q wJ go W T U X (K5 H) s s.2.1.1 s.2.1.2 u) O (λu h=>⟨⟨h.1,λb k1 k2 k3 _=>h.2.1 b k1 k2 k3,h.2.2⟩,(hRF _ u h).e,(hRF _ u h).g,⟨[],by simp,by simp⟩,λb M=> .inl M,(hRF _ u h).ap⟩)<|ZR<|ZA (Ke 3 ⟨ga,0,none⟩) (.int .i64 a.1) (λF t h=>h.e.c.pa.loadJ O rfl)<|ZA (Ke 3 ⟨Y,0,none⟩) (.int .i64 b.1) (λF t h=>h.e.c.pb.loadJ O rfl)<|uk (Lr 58 2 #[(0,.int .i64 a.1),(1,.int .i64 b.1)]) (Kr 2) (Kw 3 #[.int .i64 a.1,.int .i64 b.1]) O (λF t h=>Kj O) λgx=>ZR ?_
  have hxv:=J1 hf.2 (AE hx2);have hkl:s.1<4096:=by
   have J:=(AP.1 hx2).1;have h2:=Ri (K5 H);omega
  refine uj (ι:={q:Nat×(YZ)×List RQ // q.1<=2/\q.2.2.map (·.2)=P0 a b (Qv (K5 H) a b s.1++([a.1,b.1].take q.1).flatMap λv=>(ED x.1 x.2 v).toList)}) 130 (λq=>⟨[vS 0 A n c,vV 4 (Kp ga),vV 5 (Kp Y),vV 7 (Kp S),vV 8 (Kp Q),vV 9 (Kp go),vV 10 (Kp wJ),vV 15 (Kp W),(16,.p 16 0),(17,.p 17 0),vV 81 (Kr 2 gx),vI 82 2,vI 83 q.1.1],[(16,(K9 x.1).map .v),(17,(K9 x.2).map .v)]⟩) (λq u=>Rd w w0 l _ a b ga Y S Q wJ go W T U X (K5 H) s q.1.2.1 q.1.2.2 u/\Kw 3 #[.int .i64 a.1,.int .i64 b.1] gx u) (λq=>2-q.1.1) (⟨(0,s.2.1.1,s.2.1.2),AK 2,by show s.2.1.2.map (·.2)=_;rw[hJ0.v];simp⟩) O Zf Zt (λu h=>h) ?_
  rintro⟨⟨i,y,wI⟩,hi,hvi⟩ gg3;have hi2:i<=2:=hi;have P:wI.map (·.2)=P0 a b (Qv (K5 H) a b s.1++([a.1,b.1].take i).flatMap λv=>(ED x.1 x.2 v).toList):=hvi
  by_cases hli:i<2
  case neg=>
   refine ZR<|YN ((i:Int)<2)<|ug O<|ZR ?_
   have hvi3:wI.map (·.2)=P0 a b (Qv (K5 H) a b s.1++((ED x.1 x.2 a.1).toList++(ED x.1 x.2 b.1).toList)):=by rw[P,show i=2 by omega];simp
   refine ZA (Ke 418 ⟨W,0,none⟩) (.slice s.2.2.1 s.1 s.2.2.2) (λF t h=>h.1.g.g.load1 O)<|uN (Φ':=λu=>Rd w w0 l _ a b ga Y S Q wJ go W T U X (K5 H) s y wI u) O (λu h=>h.1)<|uj (ι:={q:Nat×(YZ)×List RQ // q.1<=s.1/\q.2.2.map (·.2)=P0 a b (Qv (K5 H) a b s.1++((ED x.1 x.2 a.1).toList++(ED x.1 x.2 b.1).toList)++(((Ku (K5 H)).take s.1).take q.1).filterMap λo=>Q5 o.1 o.2 x.1 x.2)}) 130 (λq=>⟨[vS 0 A n c,vV 4 (Kp ga),vV 5 (Kp Y),vV 7 (Kp S),vV 8 (Kp Q),vV 9 (Kp go),vV 10 (Kp wJ),vV 15 (Kp W),(16,.p 16 0),(17,.p 17 0),vS 99 s.2.2.1 s.1 s.2.2.2,vI 100 s.1,vI 101 q.1.1],[(16,(K9 x.1).map .v),(17,(K9 x.2).map .v)]⟩) (λq u=>Rd w w0 l _ a b ga Y S Q wJ go W T U X (K5 H) s q.1.2.1 q.1.2.2 u) (λq=>s.1-q.1.1) (⟨(0,y,wI),AK _,by show wI.map (·.2)=_;rw[hvi3];simp⟩) O Zf Zt (λu h=>h) ?_
   rintro⟨⟨i,y,wI⟩,hi,hvi⟩ gg4;have hi2:i<=s.1:=hi;have P:wI.map (·.2)=P0 a b (Qv (K5 H) a b s.1++((ED x.1 x.2 a.1).toList++(ED x.1 x.2 b.1).toList)++(((Ku (K5 H)).take s.1).take i).filterMap λo=>Q5 o.1 o.2 x.1 x.2):=hvi
   by_cases hli:i<s.1
   case neg=>
    refine ZR<|YN ((i:Int)<(s.1:Int))<|ug O<|ZR<|ZA (Ke 418 ⟨W,0,none⟩) (.slice s.2.2.1 s.1 s.2.2.2) (λF t h=>h.g.g.load1 O)<|uk (Lr 418 1 #[(0,.agg (OF x).toArray)]) (Kr 1) (Kw 422 (OF x).toArray) O (λF t h=>Kj O) λgq=>ZS 5<|uA (L:=bl s.2.2.1) (val:=λz:YZ=> .slice z.1 (s.1+1) z.2) (Φ':=λz u=>Re w w0 l _ a b ga Y S Q wJ go W T U X (K5 H) s x y wI z u) (G:=λz u=>K6 u w.heap.size 422 4 z.1 (s.1+1) z.2 (((Ku (K5 H)).take s.1++ [x]).flatMap OF)/\q8 w0 s wI z) (My 418 418 (.slice s.2.2.1 s.1 s.2.2.2) (Kr 1 gq)) (λF t h=>h.1.app t.size h.2 hkl) (λu h b M=>⟨(h.1.g.r.blk b M).1,(h.1.g.r.blk b M).2⟩) (λz wa u e1 e2 h hG=>h.1.re Z e1 e2 hG) O O λz=>ZR<|ur (L:=[W]) (G:=λu=>Kg u W 418 [.slice z.1 (s.1+1) z.2]) (Φ':=λu=>Rz w w0 l _ a b ga Y S Q wJ go W T U X (K5 H) s x y wI z u) (Om 418 ⟨W,0,none⟩ (.slice z.1 (s.1+1) z.2)) (λF t h=>h.g.store O rfl (λv hv=>by have hv:=AB.1 hv;subst hv;rfl)) (λu h=>Za ⟨AH Z.1 hge,h.g.own⟩) (λwa u e1 e2 h hG=>h.rz Z hge e1 e2 hG) O O ?_
    have hvK:wI.map (·.2)=P0 a b (Qv (K5 H) a b (s.1+1)):=by
     rw[P,OL hx2,AX (by rw[AI];omega)];unfold GN;simp
    refine ZR<|vm ((s.1+1,(y,wI),z):QB) O hl hlt hlL hrec hw0 (λF hw1 h=> ?_)
    have h0:=h F ⟨AC _,λ_ _ _=>rfl⟩;exact⟨h0.f.2.2,h0.f.1,h0.f.2.1,λu k1 k2=>h0.eg hM0 hJ0.g.m hx2 hvK k1 k2⟩
   obtain⟨o,ho⟩:∃o,((Ku (K5 H)).take s.1)[i]? =some o:=by
    have J:=(AP.1 hx2).1;exact⟨_,AD (by rw[AI];omega)⟩
   have hov:=J1 hf.2 (List.mem_of_mem_take (AE ho));have htk:((((Ku (K5 H)).take s.1).take (i+1)).filterMap λo=>Q5 o.1 o.2 x.1 x.2)=((((Ku (K5 H)).take s.1).take i).filterMap λo=>Q5 o.1 o.2 x.1 x.2)++(Q5 o.1 o.2 x.1 x.2).toList:=by
    rw[L7 ho,List.filterMap_append];cases hs:Q5 o.1 o.2 x.1 x.2<;>simp[hs]
   refine um (p:=∃gy,s.2.2.1=some ⟨gy,0,none⟩) (λu hu h=>by obtain⟨gy,J,_⟩:=h.g.r.cells I;exact⟨gy,J⟩) O (λhgy=> ?_);obtain⟨gy,hgy⟩:=hgy;refine ZR<|YL ((i:Int)<(s.1:Int))<|ZA (Kd 418 (.slice s.2.2.1 s.1 s.2.2.2) i) (.pointer (some ⟨gy,i*4,none⟩)) (λF t h=>by rw[hgy];exact Kc (elem:=422) O O hli)<|ZA (Ke 422 ⟨gy,i*4,none⟩) (.agg (OF o).toArray) (λF t h=>Ka (vs:=OF o) O O (λj v hj=>by obtain⟨gy2,J,h2⟩:=h.g.r.cells I;rw[hgy]at J;injection J with J;injection J with J;subst J;exact h2 _ _ (Mr (cl:=OF) (λ_=>rfl) _ i o j v ho hj))) ?_
   cases hsg:Q5 o.1 o.2 x.1 x.2 with
   |none=>
    refine ZC (λF t h=>gF hov.1 hov.2.1 hxv.1 hxv.2.1 hov.2.2) λz=> ?_
    have hz:(z.2.1==1)=false:=by have J:decide (z.2.1=1)=(Q5 o.1 o.2 x.1 x.2).isSome:=z.2.2;generalize z.2.1=kk at J ⊢;rw[hsg]at J;simpa using J
    refine ZJ (z.2.1==1) false (hz)<|YA 101 i hli<|ui (⟨(i+1,y,wI),hli,by show wI.map (·.2)=_;rw[P,htk,hsg];simp⟩) O Zn Zt (λ_ h=>h.1)
   | some q=>
    have hrsn:wI.length<=99999999:=by
     have J:=Zc P;have h2:=D7 (a:=a) (b:=b) hlen2 (Nat.le_of_lt hkl);have h3:=List.length_filterMap_le (λo:Pt×Pt=>Q5 o.1 o.2 x.1 x.2) (((Ku (K5 H)).take s.1).take i);rw[AI]at h3;have h4:∀o:Option Rat,o.toList.length<=1:=λo=>by cases o<;>simp
     have h5:=h4 (ED x.1 x.2 a.1);have h6:=h4 (ED x.1 x.2 b.1);rw[AA,AA,AA]at J;omega
    refine ZC (λF t h=>(gF hov.1 hov.2.1 hxv.1 hxv.2.1 hov.2.2).mono λe w' k=>K4.apt (R:=λz=>pG w0 go W s y z.1.2) (k.cast (G':=λz u=>Kn z.1.2 q 7 u) (λz u k=>k q hsg)) (λz=>M6 z.1.2) (λz u k=>k.blk) (λz hr=>h.apr hr)) λz=> ?_
    have hz:(z.2.1==1)=true:=by have J:decide (z.2.1=1)=(Q5 o.1 o.2 x.1 x.2).isSome:=z.2.2;generalize z.2.1=kk at J ⊢;rw[hsg]at J;simpa using J
    refine ZJ (z.2.1==1) true (hz)<|ZA (Ke 417 ⟨wJ,0,none⟩) (Yo S Q go) (λF t h=>h.1.e.p.load1 O)<|uD (L:=go::bl y.1) (val:=λ_:YZ=> .tuple #[]) (G:=λz' u=>OutG w.heap.size go z' (R1 (a.2:Rat) (b.2:Rat) wI z.1.2 q) u/\∀b∈bl z'.1,b∈bl y.1\/w0.heap.size<=b) (Φ':=λz' u=>Rd w w0 l _ a b ga Y S Q wJ go W T U X (K5 H) s z' (R1 (a.2:Rat) (b.2:Rat) wI z.1.2 q) u) (λF t h=>h.1.put Z K t h.2.1 h.2.2 hrsn) (λu h=>h.1.e.own Z K) (λz' wa u e1 e2 h hG=>h.1.next Z K hM0 e1 e2 h.2.1 h.2.2 hG) O O λz'=>ZR<|YA 101 i hli<|ui (⟨(i+1,z',R1 (a.2:Rat) (b.2:Rat) wI z.1.2 q),hli,by show(R1 (a.2:Rat) (b.2:Rat) wI z.1.2 q).map (·.2)=_;rw[Dp P,htk,hsg];simp⟩) O Zn Zt (λ_ h=>h)
  obtain⟨v,hv⟩:∃v,v=(if i=0 then a.1 else b.1):=⟨_,rfl⟩
  have hvx: [a.1,b.1][i]? =some v:=by rcases(by omega:i=0\/i=1)with rfl|rfl<;>simp[hv]
  have hvb2: -2097152<=v/\v<=2097152:=by rw[hv];split<;>omega
  have htk:([a.1,b.1].take (i+1)).flatMap (λv=>(ED x.1 x.2 v).toList)=(([a.1,b.1].take i).flatMap λv=>(ED x.1 x.2 v).toList)++(ED x.1 x.2 v).toList:=by rw[L7 hvx,List.flatMap_append];simp
  refine ZR<|YL ((i:Int)<2)<|ZA (Kd 58 (Kr 2 gx) i) (.pointer (some ⟨gx,i*1,none⟩)) (λF t h=>Kc (elem:=3) O O hli)<|ZA (Ke 3 ⟨gx,i*1,none⟩) (.int .i64 v) (λF t h=>Kh O (by have h2:Kw 3 _ gx _:=h.2;unfold Kw at h2;simp only[CR,h2,CD,CE,if_false,DB];rcases(by omega:i=0\/i=1)with rfl|rfl<;>simp[hv])) ?_
  cases hy:ED x.1 x.2 v with
  |none=>
   refine ZC (λF t h=>lO hxv.1 hxv.2.1 hvb2) λr=>ZJ ((ED x.1 x.2 v).isSome) false (by rw[hy];rfl)<|YA 83 i hli<|ui (⟨(i+1,y,wI),hli,by show wI.map (·.2)=_;rw[P,htk,hy];simp⟩) O Zn Zt (λ_ h=>h.1)
  | some q=>
   refine ZC (λF t h=>(lO hxv.1 hxv.2.1 hvb2).mono λe w' k=>K4.apt (R:=λr=>pG w0 go W s y r) (k.cast (G':=λr u=>Kn r q 7 u) (λr u k=>k q hy)) (λr=>M6 r) (λr u k=>k.blk) (λr hr=>h.1.apr hr)) λr=> ?_
   refine ZJ ((ED x.1 x.2 v).isSome) true (by rw[hy];rfl) ?_;have hrsn:wI.length<=99999999:=by
    have J:=Zc P;have h2:=D7 (a:=a) (b:=b) hlen2 (Nat.le_of_lt hkl);have h3:(([a.1,b.1].take i).flatMap λv=>(ED x.1 x.2 v).toList).length<=2:=by
     rcases(by omega:i=0\/i=1)with rfl|rfl
     .simp
     .simp;cases ED x.1 x.2 a.1<;>simp
    rw[AA]at J;omega
   refine ZA (Ke 417 ⟨wJ,0,none⟩) (Yo S Q go) (λF t h=>h.1.1.e.p.load1 O)<|uD (L:=go::bl y.1) (val:=λ_:YZ=> .tuple #[]) (G:=λz u=>OutG w.heap.size go z (R1 (a.2:Rat) (b.2:Rat) wI r q) u/\∀b∈bl z.1,b∈bl y.1\/w0.heap.size<=b) (Φ':=λz u=>Rd w w0 l _ a b ga Y S Q wJ go W T U X (K5 H) s z (R1 (a.2:Rat) (b.2:Rat) wI r q) u/\Kw 3 #[.int .i64 a.1,.int .i64 b.1] gx u) (λF t h=>h.1.1.put Z K t h.2.1 h.2.2 hrsn) (λu h=>h.1.1.e.own Z K) (λz wa u e1 e2 h hG=>⟨h.1.1.next Z K hM0 e1 e2 h.2.1 h.2.2 hG,bA e2 h.1.2 (h.1.1.lit Zd Zd h.1.2)⟩) O O λz=>ZR<|YA 83 i hli<|ui (⟨(i+1,z,R1 (a.2:Rat) (b.2:Rat) wI r q),hli,by show(R1 (a.2:Rat) (b.2:Rat) wI r q).map (·.2)=_;rw[Dp P,htk,hy];simp⟩) O Zn Zt (λ_ h=>h)
 obtain⟨x,hx⟩:∃v,H[k]? =some v:=⟨_,AD (by rw[hp.row.1];exact hlt)⟩
 obtain⟨ad,hA,hc⟩:=hp.row.2 k x hx;have hmx:=AE hx;have hlx:=hlen x hmx;refine ZR<|YL ((k:Int)<(n:Int))<|ZA (Kd 132 (.slice A n c) k) (.pointer (some (ad.add (k*1)))) (λF t h=>Qy hA hlt)<|ZA (Ke 296 (ad.add (k*1))) (X9 x) (λF t h=>Sk λj v hj=>L5 t (hc j v hj)) ?_
 have hvs2:wI.map (·.2)=P0 a b ((K5 (H.take k)).flatten.map λp=>(p.2:Rat)):=hvs
 refine uj (ι:={q:Nat×(YZ)×List RQ // q.1<=x.1.length/\q.2.2.map (·.2)=P0 a b (((K5 (H.take k)).flatten++x.1.take q.1).map λp=>(p.2:Rat))}) 130 (λq=>⟨[vS 0 A n c,vV 1 (Km a),vV 2 (Km b),vV 4 (Kp ga),vV 5 (Kp Y),vS 6 none 0 0,vV 7 (Kp S),vV 8 (Kp Q),vV 9 (Kp go),vV 10 (Kp wJ),vS 54 A n c,vI 55 n,vI 56 k,vV 60 (X9 x),vI 61 x.1.length,vI 62 q.1.1],[]⟩) (λq u=>Ev a b ga Y S Q wJ go U X T w.heap.size q.1.2.1 q.1.2.2 u) (λq=>x.1.length-q.1.1) (⟨(0,y,wI),AK _,by show wI.map (·.2)=P0 a b (((K5 (H.take k)).flatten++x.1.take 0).map λp=>(p.2:Rat));rw[List.take_zero,CA];exact hvs2⟩) O Zf Zt (λu h=>h) ?_
 rintro⟨⟨j,y,wI⟩,hj,hvj⟩ gg2;have hj2:j<=x.1.length:=hj;have hvj2:wI.map (·.2)=P0 a b (((K5 (H.take k)).flatten++x.1.take j).map λp=>(p.2:Rat)):=hvj
 by_cases hlj:j<x.1.length
 case neg=>
  refine ZR<|YN ((j:Int)<(x.1.length:Int))<|ug O<|ZR ?_
  have hxe:x.1.take j=x.1:=AX I;refine YA 56 k hlt<|ui (⟨(k+1,y,wI),hlt,by show wI.map (·.2)=P0 a b ((K5 (H.take (k+1))).flatten.map λp=>(p.2:Rat));rw[hvj2,hxe,L7 hx];simp[K5]⟩) O Zn Zt (λ_ h=>h)
 obtain⟨p,hpj⟩:∃v,x.1[j]? =some v:=⟨_,AD hlj⟩
 have hpv:=O0 (hpt x hmx p (AE hpj));obtain⟨ad2,hA2,hc2⟩:=(hp.ring x hmx).2 j p hpj;have hsl:((K5 (H.take k)).flatten++x.1.take j).length<=4096:=by
  have J:((K5 (H.take k)).flatten++x.1).length<=(K5 H).flatten.length:=by
   have h2:K5 H=K5 (H.take k)++x.1::K5 (H.drop (k+1)):=by
    conv=>lhs;rw[<-AF k H,N3 hx]
    simp[K5]
   rw[h2];simp
  rw[AA]at J ⊢;rw[AI];omega
 have hrl:=Zc hvj2;rw[AW]at hrl;have hrsn:wI.length<=99999999:=I
 refine ZR<|YL ((j:Int)<(x.1.length:Int))<|ZA (Kd 296 (X9 x) j) (.pointer (some (ad2.add (j*2)))) (λF t h=>Lh hA2 hlj)<|ZA (Ke 74 (ad2.add (j*2))) (Km p) (λF t h=>M5 λi v hi=>L5 t (hc2 i v hi))<|ZB 0 (Ke 417 ⟨wJ,0,none⟩) (Yo S Q go) (λF t h=>h.p.load1 O)<|ZC (λF t h=>((Ki p.2 F I I).mono λe w' k=>K4.apt (R:=λr=>jM go y r) k (λr=>M6 r) (λr u k=>k.blk) (λr hr=>h.apq hr))) λr=> ?_
 refine uH (L:=go::bl y.1) (val:=λ_:YZ=> .tuple #[]) (G:=λz u=>OutG w.heap.size go z (R1 (a.2:Rat) (b.2:Rat) wI r (p.2:Rat)) u/\∀b∈bl z.1,b∈bl y.1\/T<=b) (Φ':=λz u=>Ev a b ga Y S Q wJ go U X T w.heap.size z (R1 (a.2:Rat) (b.2:Rat) wI r (p.2:Rat)) u) (λF t h=>h.1.put Z K t (h.2.1.mono Zd) h.2.2 hrsn (by have:=h.1.o.box.lt;omega)) (λu h=>h.1.own Z K) (λz wa u e1 e2 h hG=>h.1.next Z K e1 e2 (h.2.1.mono Zd) h.2.2 (AC _) hG) O O λz=>ZR<|YA 62 j hlj<|ui (⟨(j+1,z,R1 (a.2:Rat) (b.2:Rat) wI r (p.2:Rat)),hlj,by show(R1 (a.2:Rat) (b.2:Rat) wI r (p.2:Rat)).map (·.2)=_;rw[Dp hvj2,L7 hpj];simp⟩) O Zn Zt (λ_ h=>h)
end
def rB(z:RV×RV):List YI:=z.1.cl++z.2.cl
abbrev tE(z:RV×RV):YI:= .agg (rB z).toArray
def tc(z:RV×Int):List YI:=z.1.cl++ [.int .i64 z.2]
abbrev tK(z:RV×Int):YI:= .agg (tc z).toArray
section
variable{w:YM}{x y:RV×RV}{p q:Rat}{K:Nat}{a b:RV}{i j k:Int}
theorem QU(f:Nf x.1 p K w)(g:Nf y.1 q K w)(c:2<=K/\K+K<=68719476736):Ca 359 #[tE x,tE y] w (CU w (.int .i64 (Kv p q))):=uf func359 rfl<|ZR<|ZC (λl e h=>Lv (f.below e) (g.below e) ⟨c.1,c.1,c.2⟩) λu=>ZW (.int .i64 (Kv p q))
theorem UQ(l:Nf a p K w)(m:Nf b q K w)(f:2<=K/\K+K<=68719476736)(o: -9223372036854775808<=k/\k<=9223372036854775807):Ca 327 #[a.val,b.val,.int .i64 k] w (K4 w (λr:{r:RV // r=if Kv p q=k then a else b}=>r.1.val) λ_ _=>True):=by
 by_cases e:Kv p q=k
 .refine uf func327 rfl<|ZR<|ZC (λg c h=>Lv (l.below c) (m.below c) ⟨f.1,f.1,f.2⟩) λu=>ZJ (Kv p q==k) true (by simpa using e)<|ZV (a.val) (λg c h=>⟨⟨a,(YS e).symm⟩,rfl,c,Zv⟩)
 .refine uf func327 rfl<|ZR<|ZC (λg c h=>Lv (l.below c) (m.below c) ⟨f.1,f.1,f.2⟩) λu=>ZJ (Kv p q==k) false (by simpa using e)<|ZV (b.val) (λg c h=>⟨⟨b,(YT e).symm⟩,rfl,c,Zv⟩)
theorem ao:Ca 364 #[.int .i64 i,.int .i64 j] w (CU w (.int .i64 (Lib.compareInt i j))):=
 (Tryz.cmp_Compare_int i j w).mono λ_ _ ⟨e,c⟩=>⟨(),e,by subst c;exact Below.refl _ _,Zv⟩
theorem tv{g:Nat}(D:Kw 3 #[.int .i64 i,.int .i64 j] g w):Ca 363 #[Kr 2 g] w (CU w (.int .i64 (if i≠0 then i else j))):=by
 refine uf func363 rfl<|ZR<|uj (ι:={q:Nat // q<=2/\(1<=q->i=0)/\(q=2->j=0)}) 18 (λq=>⟨[vI 3 0,vV 6 (Kr 2 g),vI 7 2,vI 8 q.1],[]⟩) (λ_ _=>True) (λq=>2-q.1) (⟨0,AK _,by omega,by omega⟩) O Zf Zt (λ_ _=>trivial) ?_
 rintro⟨q,J,o,m⟩ L
 by_cases e:q<2
 case neg=>
  have B:j=0:=m I;have hi:i=0:=o I;subst B;subst hi;exact ZR<|YN ((q:Int)<2)<|ug O<|ZR<|ZW (.int .i64 0)
 obtain⟨v,f⟩:∃v,v=(if q=0 then i else j):=⟨_,rfl⟩
 refine ZR<|YL ((q:Int)<2)<|ZA (Kd 58 (Kr 2 g) q) (.pointer (some ⟨g,q*1,none⟩)) (λA u h=>Kc (elem:=3) O O e)<|ZA (Ke 3 ⟨g,q*1,none⟩) (.int .i64 v) (λA u h=>Kh O (by have m:=D;unfold Kw at m;have Z:=(u.block g (AM.1 m).1).trans m;simp only[CR,Z,CD,CE,if_false,DB];rcases(by omega:q=0\/q=1)with rfl|rfl<;>simp[f])) ?_
 cases c:v !=0
 .have l:v=0:=by simpa using c
  have G:i=0:=by
   by_cases s:q=0
   .rw[l,YS s]at f;exact f.symm
   .exact o I
  have z:q+1=2->j=0:=λE=>by
   rw[l,YT I]at f;exact f.symm
  refine ZJ (v !=0) false (c)<|YA 8 q e<|ui (⟨q+1,e,λ_=>G,z⟩) O Zn Zt (λ_ _=>trivial)
 have t:v≠0:=by simpa using c
 have H:v=if i≠0 then i else j:=by
  rcases(by omega:q=0\/q=1)with rfl|rfl
  .have:v=i:=by rw[f];rfl
   rw[<-this,YS t]
  .have F:=o I;rw[f,F];rfl
 exact ZJ (v !=0) true (c)<|ug O<|ZR<|ZX (.int .i64 v) (by rw[H])
def iS(a b:KD):Int:=if Kv a.1 b.1≠0 then Kv a.1 b.1 else Lib.compareInt b.2 a.2
theorem kP{a b:KD}:decide (iS a b<0)=Xg a b:=by
 unfold iS Xg Kv Lib.compareInt
 by_cases e:a.1<b.1
 .simp[e]
 .by_cases f:a.1=b.1
  .simp only[e,f,if_false,if_true,decide_true,Bool.true_and,decide_false,CM,ne_eq,not_true_eq_false,Rat.lt_irrefl]
   by_cases c:b.2<a.2
   .simp[c]
   .rw[YT c,YV c];split<;>rfl
  .simp[e,f]
theorem QQ{x y:RV×Int}(l:Nf x.1 p K w)(m:Nf y.1 q K w)(e:2<=K/\K+K<=68719476736):Ca 362 #[tK x,tK y] w (CU w (.int .i64 (iS (p,x.2) (q,y.2)))):=uf func362 rfl<|ZR<|ZC (λf c h=>Lv (l.below c) (m.below c) ⟨e.1,e.1,e.2⟩) λu=>ZC (λf c h=>ao (i:=y.2) (j:=x.2)) λv=>uk (Lr 58 2 #[(0,.int .i64 (Kv p q)),(1,.int .i64 (Lib.compareInt y.2 x.2))]) (Kr 2) (Kw 3 #[.int .i64 (Kv p q),.int .i64 (Lib.compareInt y.2 x.2)]) O (λf c h=>Kj O) λg=>ZR<|ZC (λf c h=>tv h.2) λo=>ZW (.int .i64 (if Kv p q≠0 then Kv p q else Lib.compareInt y.2 x.2))
end
section
open Go.Shelf
def WH:CX:=⟨λ|20=>410|n=>n,λ|24=>411|22=>375|3=>3|25=>447|4=>4|0=>0|n=>n,λ|n=>n⟩
theorem qF:SlLaysF0.n20 XM WH:={
 mixed:=O
 f20:=⟨ "slices.insertionSortCmpFunc[grisaille/api.Span]",by decide,func410.trans (congrArg some O)⟩
 t0:=underlying0
 a0:=isAgg0
 z0:=sizeOf0
 v0:=zeroValue0
 t3:=underlying3
 a3:=isAgg3
 z3:=sizeOf3
 v3:=zeroValue3
 t4:=underlying4
 a4:=isAgg4
 z4:=sizeOf4
 v4:=zeroValue4
 t22:=underlying375
 a22:=isAgg375
 z22:=sizeOf375
 v22:=zeroValue375
 t25:=underlying447
 a25:=isAgg447
 z25:=sizeOf447
 v25:=zeroValue447}
def XG:CX:=⟨λ|20=>412|n=>n,λ|24=>415|22=>412|3=>3|25=>451|4=>4|0=>0|n=>n,λ|n=>n⟩
theorem qG:SlLaysF0.n20 XM XG:={
 mixed:=O
 f20:=⟨ "slices.insertionSortCmpFunc[grisaille/scanline.mark]",by decide,func412.trans (congrArg some O)⟩
 t0:=underlying0
 a0:=isAgg0
 z0:=sizeOf0
 v0:=zeroValue0
 t3:=underlying3
 a3:=isAgg3
 z3:=sizeOf3
 v3:=zeroValue3
 t4:=underlying4
 a4:=isAgg4
 z4:=sizeOf4
 v4:=zeroValue4
 t22:=underlying412
 a22:=isAgg412
 z22:=sizeOf412
 v22:=zeroValue412
 t25:=underlying451
 a25:=isAgg451
 z25:=sizeOf451
 v25:=zeroValue451}
section
variable{w:YM}{g n c B k:Nat}
theorem FU{α:Type} [Inhabited α]{enc:α->List YI}(f:0<k)(h:∀x,(enc x).length=k){d:Array α}{t:Nat}(b:t<d.size*k):(d.toList.flatMap enc)[t]? =some (Sort.flatK enc k d)[t]! :=by
 rw[Sort.get_flatK enc k d t b];have m:t/k<d.size:=(Nat.div_lt_iff_lt_mul f).2 b;have e:t%k<(enc d[t/k]!).length:=by rw[h];exact Nat.mod_lt _ f
 have j:d.toList[t/k]? =some d[t/k]! :=by simp[m]
 have l:(enc d[t/k]!)[t%k]? =some (enc d[t/k]!)[t%k]! :=by rw[getElem!_pos (enc d[t/k]!) (t%k) e,AD e]
 have:=Mr (cl:=enc) h d.toList (t/k) _ (t%k) _ j l;rw[show t/k*k+t%k=t from by rw[CH];exact Nat.div_add_mod t k]at this;exact this
theorem mF{α:Type} [Inhabited α]{enc:α->List YI}(o:0<k)(m:∀x,(enc x).length=k){d:Array α}{e:XX}(D:d.size=n)(s:K6 w B e k (some ⟨g,0,none⟩) n c (d.toList.flatMap enc)):Sort.HoldsK enc k w g 0 d:=by
 intro t j;rw[Sort.size_flatK]at j;rcases s.2 with ⟨b,_⟩|⟨y,cap,l,b,A,h,v,u,z,p⟩
 .cases b
 injection b with b _ h2;injection b with b;injection b with b;subst b;subst h2;refine⟨?_,MZ (a:=⟨g,0+t,none⟩) h⟩;have f:=FU o m j;rw[<-p,AR]at f;split at f
 .simp only[CR,h,CD,CE,if_false,BV];simpa using f
 .cases f
theorem sS{α:Type} [Inhabited α]{enc:α->List YI}(H:0<k)(y:∀x,(enc x).length=k){d d':Array α}{m:Nat}{os:Array Obj}{e:XX}{u:YM}(Z:K6 w B e k (some ⟨g,0,none⟩) n c (d.toList.flatMap enc))(o:d'.size=n)
 (G:u.heap[g]? =(sortWorldK enc k w g 0 m d' os).heap[g]?):K6 u B e k (some ⟨g,0,none⟩) n c (d'.toList.flatMap enc):=by
 have z:∀l:List α,(l.flatMap enc).length=l.length*k:=λl=>by
  induction l with
  |nil=>simp
  |cons x l J=>rw[BE,AA,J,y,BO,BJ,Nat.one_mul,CY]
 rcases Z.2 with ⟨f,_⟩|⟨M,cap,b,f,K,A,h,F,D,L⟩
 .cases f
 injection f with f _ h2;injection f with f;injection f with f;subst f;subst h2;have s:=(AM.1 A).1;have E:u.heap[g]? =some (.cells (Sort.putCells id 0 (Sort.flatK enc k d') b) e (0,0)):=by
  rw[G];show((Sort.putRow id (Sort.ahead w m) g 0 _).heap++os)[g]? =_;rw[Array.getElem?_append_left (by rw[Sort.size_putRow];exact s)];unfold Sort.putRow Sort.mapBlock;simp only[CK,if_true,Sort.heap_ahead,A,BH,Sort.onCells]
 have v:(Sort.putCells id 0 (Sort.flatK enc k d') b).size=b.size:=by simp[Sort.putCells]
 refine⟨by rw[z,Array.length_toList,o],.inr ⟨g,c,_,rfl,K,E,h,F,by rw[v];exact D,?_⟩⟩;refine BI λt=> ?_
 rw[AR]
 by_cases j:t<n*k
 .rw[YS j,FU H y (by rw[o];exact j)];have p:t<b.size:=by rw[D];exact BC j (BD k h)
  unfold Sort.putCells;rw[Array.getElem?_toList,Array.getElem?_mapIdx,Array.getElem?_eq_getElem p,BH,YS (by rw[Sort.size_flatK,o];omega)];simp
 .rw[YT j,BL (by rw[z,Array.length_toList,o];omega)]
theorem Bn{α:Type} [Inhabited α]{m:Nat}{f:Array α}{os:Array Obj}{enc:α->List YI}{b:Nat}(h:b<w.heap.size)(e:b≠g):(sortWorldK enc k w g 0 m f os).heap[b]? =w.heap[b]? :=by
 unfold sortWorldK Sort.putRowK;show((Sort.putRow id (Sort.ahead w m) g 0 _).heap++os)[b]? =_;rw[Array.getElem?_append_left (by rw[Sort.size_putRow];exact h),FM e];rfl
structure D0{β:Type}(lt:β->β->Bool)(a b:Nat)(l m:List β):Prop where
 len:m.length=l.length
 out:∀i,i<a\/b<=i->m[i]? =l[i]?
 perm:((m.drop a).take (b-a)).Perm ((l.drop a).take (b-a))
 srt:NL lt ((m.drop a).take (b-a))
theorem lQ{β:Type}{cl:β->List YI}(h0:0<k)(hk:∀x,(cl x).length=k)(h1:∀x,∀v∈cl x,v.oneCell'=true){ρ:Ren}(Ly:SlLaysF0.n20 XM ρ)(aE:∀w,(isAgg (ρ.t 24)).run XM w= .ok true w)(zE:∀w,(Go.sizeOf (ρ.t 24)).run XM w= .ok k w)(A:β->β->Int)(hO:Sort.SWO (ltOf A)){f:XU}
 (eg:∀args w,(callFunc f args).run XM w= .ok (.enter f args) w) {l:List β} {e:XX} {a b:Nat} (ho:K6 w B e k (some ⟨g,0,none⟩) n c (l.flatMap cl)) (X:l.length=n) (hn0:0<n) (hn:n<=1000000000) (M:a<=b) (L:b<=n)
 (F:∀W:YM,w.heap.size<=W.heap.size->(∀b,b<w.heap.size->b≠g->W.heap[b]? =w.heap[b]?)->∀x∈l,∀y∈l,Ca f #[.agg (cl x).toArray,.agg (cl y).toArray] W (CU W (.int .i64 (A x y)))):
 Ca (ρ.f 20) #[.slice (some ⟨g,0,none⟩) n c,.int .i64 a,.int .i64 b,.func (.func f) #[] #[]] w (L4 w [g] (λ_:{m:List β // D0 (ltOf A) a b l m}=> .tuple #[]) λm u=>K6 u B e k (some ⟨g,0,none⟩) n c (m.1.flatMap cl)):=by
 have hlt:g<w.heap.size:=(ho.lt g (by simp[bl])).2;obtain⟨D,Y⟩:∃D:List {x:β // x∈l},D.map (·.1)=l:=⟨l.attach,l.attach_map_subtype_val⟩
 have R:D.length=n:=by rw[<-X];conv=>rhs;rw[<-Y,AW]
 haveI:Inhabited {x:β // x∈l}:=⟨D[0]' I⟩
 have wJ:∀E:List {x:β // x∈l},E.flatMap (λz=>cl z.1)=(E.map (·.1)).flatMap cl:=λE=>by rw[List.flatMap_map]
 have P:K6 w B e k (some ⟨g,0,none⟩) n c (D.toArray.toList.flatMap λz=>cl z.1):=by rw[List.toList_toArray,wJ,Y];exact ho
 have p:D.toArray.size=n:=by rw[List.size_toArray,R]
 have hC:CmpLays XM f #[] (λz:{x:β // x∈l}=>cl z.1) k (λx y=>A x.1 y.1) g 0 D.toArray.size w:=λm os dk hdk x y=>by
  obtain⟨W,hW⟩:∃W,W=sortWorldK (λz:{x:β // x∈l}=>cl z.1) k w g 0 m dk os:=⟨_,rfl⟩
  rw[<-hW];have hs:w.heap.size<=W.heap.size:=by rw[hW];exact size_sortWorldK_c _ _ _ _ _ _ _ _
  refine(KI (F W hs (λb h1 Z=>by rw[hW];exact Bn h1 Z) x.1 x.2 y.1 y.2)).mono ?_;rintro e w' ⟨⟨_,rfl,L,_⟩,hup⟩;exact⟨rfl,Ji L (hup Zs)⟩
 have Q:Sort.SWO (ltOf λx y:{x:β // x∈l}=>A x.1 y.1):=⟨λx=>hO.irrefl x.1,λx y z=>hO.trans x.1 y.1 z.1,λx y z=>hO.ntrans x.1 y.1 z.1⟩
 have o:=AnyQ.insertionSortCmpFunc Ly k aE zE (λz:{x:β // x∈l}=>cl z.1) (λz=>hk z.1) (λz=>h1 z.1) (λx y=>A x.1 y.1) f #[] g 0 c a b D.toArray w eg hC (mF h0 (λz=>hk z.1) p P) hlt M (by rw[p];exact L) (by rw[p];omega);rw[p]at o;obtain⟨⟨S,J,s⟩,H⟩:=Sort.insertionSort_holds Q D.toArray a b M (by rw[p];exact L);generalize Sort.insertionSort (ltOf λx y:{x:β // x∈l}=>A x.1 y.1) D.toArray a b=d' at o S J s H;have K:d'.size=n:=by have h:d'.size=D.toArray.size:=S;rw[h,p]
 refine o.mono ?_;rintro e' w' ⟨rfl,m,os,rfl⟩;have wI:∀i,i<n->(d'.toList.map (·.1))[i]? =some d'[i]!.1/\l[i]? =some D.toArray[i]!.1:=λi hi=>by
  constructor
  .rw[CQ,getElem!_pos d' i I];simp[K,hi]
  .conv=>lhs;rw[<-Y,CQ]
   rw[getElem!_pos D.toArray i I];simp[R,hi]
 have hml:(d'.toList.map (·.1)).length=l.length:=by rw[AW,Array.length_toList,K,X]
 have hI:D0 (ltOf A) a b l (d'.toList.map (·.1)):=by
  refine⟨hml,λi hi=> ?_,?_,?_⟩
  .by_cases Z:i<n
   .rw[(wI i Z).1,(wI i Z).2,J i hi]
   .rw[BL (by rw[AW,Array.length_toList];omega),BL I]
  .rw[Array.toList_extract,Array.toList_extract]at s;have:=s.map (·.1)
   rw[List.extract_eq_take_drop,List.extract_eq_take_drop,List.map_take,List.map_take,List.map_drop,List.map_drop,List.toList_toArray,Y]at this;exact this
  .unfold NL;rw[List.pairwise_iff_getElem];intro i j hi hj hij;rw[AI,AZ,AW,Array.length_toList]at hi hj;have:=H (a+i) (a+j) I I I;rw[getElem!_pos d' (a+j) I,getElem!_pos d' (a+i) I]at this;simp only[List.getElem_take,List.getElem_drop,List.getElem_map,Array.getElem_toList];exact this
 have U:Ei [g] w (sortWorldK (λz:{x:β // x∈l}=>cl z.1) k w g 0 m d' os):=⟨rfl,rfl,rfl,size_sortWorldK_c _ _ _ _ _ _ _ _,λb L hne=>Bn L (by simpa using hne)⟩
 have G:∀u:YM,u.heap[g]? =(sortWorldK (λz:{x:β // x∈l}=>cl z.1) k w g 0 m d' os).heap[g]? ->K6 u B e k (some ⟨g,0,none⟩) n c ((d'.toList.map (·.1)).flatMap cl):=λu hu=>by
  rw[<-wJ];exact sS (d:=D.toArray) (d':=d') (m:=m) (os:=os) (enc:=λz:{x:β // x∈l}=>cl z.1) (u:=u) (w:=w) (e:=e) (B:=B) (c:=c) (n:=n) (g:=g) (k:=k) h0 (λz=>hk z.1) P K hu
 have T:∀u:YM,(∀N,N∈[g]\/(w.heap.size<=N/\N<(sortWorldK (λz:{x:β // x∈l}=>cl z.1) k w g 0 m d' os).heap.size)->u.heap[N]? =(sortWorldK (λz:{x:β // x∈l}=>cl z.1) k w g 0 m d' os).heap[N]?)->u.heap[g]? =(sortWorldK (λz:{x:β // x∈l}=>cl z.1) k w g 0 m d' os).heap[g]? :=λu k2=>k2 g (.inl Zs)
 clear o hC Q H s J wI F;generalize sortWorldK (λz:{x:β // x∈l}=>cl z.1) k w g 0 m d' os=W' at U G T ⊢;exact⟨⟨d'.toList.map (·.1),hI⟩,rfl,U,λu k1 k2=>G u (T u k2)⟩
end
end
section
variable{P:YH}{w:YM}{g n c B k i:Nat}{e t:XX}{β:Type}{cl:β->List YI}{L:List β}{x:β}{v:YI}
theorem Nq(b:∀x,(cl x).length=k):∀l:List β,(l.flatMap cl).length=l.length*k
 | []=>by simp
 |x::l=>by rw[BE,AA,Nq b l,b,BO,BJ,Nat.one_mul,CY]
theorem FE(b:∀x,(cl x).length=k)(hi:i<L.length):(L.flatMap cl).take (i*k)++cl x++(L.flatMap cl).drop (i*k+(cl x).length)=(L.set i x).flatMap cl:=by
 obtain⟨y,h⟩:∃y,L[i]? =some y:=⟨_,AD hi⟩
 have e:L=L.take i++y::L.drop (i+1):=by conv=>lhs;rw[<-AF i L,N3 h]
 have f:L.set i x=L.take i++x::L.drop (i+1):=List.set_eq_take_append_cons_drop.trans (YS hi);have j:((L.take i).flatMap cl).length=i*k:=by rw[Nq b,AI,BR (Nat.le_of_lt hi)]
 rw[f,List.flatMap_append,BE]
 conv=>lhs;rw[e]
 rw[List.flatMap_append,BE,<-j,List.take_left,List.drop_append,BS I,BQ,BK,b,<-b y,List.drop_left,AO]
theorem K6.setE(o:∀x,(cl x).length=k)(h:K6 w B e k (some ⟨g,0,none⟩) n c (L.flatMap cl))(hi:i<L.length)(l:v.cells.toList=cl x)(s:Mq P t=some k)(y:∀u∈cl x,u.oneCell'=true):
 ∃m,(Om t ⟨g,i*k,none⟩ v).run P w= .ok .skip m/\Ei [g] w m/\∀f,m.heap.size<=f.heap.size->(∀b∈[g],f.heap[b]? =m.heap[b]?)->K6 f B e k (some ⟨g,0,none⟩) n c ((L.set i x).flatMap cl):=by
 have p:=h.storeN (P:=P) (t:=t) (v:=v) (j:=i*k) (by rw[l,o];exact s) (by rw[l,o,Nq o];have:=BD k (show i+1<=L.length from hi);rw[BJ,Nat.one_mul]at this;exact this) (by rw[l];exact y);rw[l,FE o hi]at p;exact p
def Dd(L:List β)(i j:Nat):List β:=match L[i]?,L[j]? with
 |some x,some y=>(L.set i y).set j x
 |_,_=>L
def Ah(a b:Nat):Nat->List β->List β
 |0,L=>L
 |m+1,L=>Dd (Ah a b m L) (a+m) (b+m)
theorem Ko(L:List β)(i j:Nat):(Dd L i j).length=L.length:=by unfold Dd;split<;>simp
theorem Fr(a b:Nat):∀(m:Nat) (L:List β),(Ah a b m L).length=L.length
 |0,_=>rfl
 |m+1,L=>by rw[Ah,Ko,Fr]
end
section
variable{β:Type}{lt:β->β->Bool}{L M N:List β}{a b c m i j k s e t n:Nat}
theorem HL(hi:i<L.length)(h:j<L.length)(t:Nat):(Dd L i j)[t]? =if t=j then L[i]? else if t=i then L[j]? else L[t]? :=by
 unfold Dd;rw[AD hi,AD h];dsimp only;rw[List.getElem?_set,List.getElem?_set]
 by_cases f:j=t
 .subst f;simp[h]
 .by_cases g:i=t
  .subst g;simp only[YT f,YT (λe:i=j=>f e.symm),if_true,hi]
  .rw[YT f,YT g,YT (λe=>f e.symm),YT (λe=>g e.symm)]
theorem LA(hi:i<L.length)(f:j<L.length):(Dd L i j).Perm L:=by
 have h:=Array.swap_perm (xs:=L.toArray) (i:=i) (j:=j) (by simpa using hi) (by simpa using f);have e:(L.toArray.swap i j (by simpa using hi) (by simpa using f)).toList=Dd L i j:=by
  unfold Dd;rw[AD hi,AD f];simp[Array.swap]
 have g:=Array.perm_iff_toList_perm.1 h;rw[e]at g;exact g
theorem jR(v:a+m<=b):b+m<=L.length->∀t,(Ah a b m L)[t]? =if a<=t/\t<a+m then L[b+(t-a)]? else if b<=t/\t<b+m then L[a+(t-b)]? else L[t]? :=by
 induction m with
 |zero=>intro _ t;simp only[Ah];rw[YT I,YT I]
 | succ m f=>
  intro u t;have f:=f I I;have p:=Fr (L:=L) a b m;show(Dd (Ah a b m L) (a+m) (b+m))[t]? =_;rw[HL I I,f,f,f]
  by_cases l:t=b+m
  .subst l;rw[YS rfl,YT I,YT I,YT I,YS I];congr 1;omega
  .rw[YT l]
   by_cases h:t=a+m
   .subst h;rw[YS rfl,YT I,YT I,YS I];congr 1;omega
   .rw[YT h]
    by_cases g:a<=t/\t<a+m
    .rw[YS g,YS I]
    .rw[YT g,YT (show¬(a<=t/\t<a+(m+1)) by omega)]
     by_cases o:b<=t/\t<b+m
     .rw[YS o,YS I]
     .rw[YT o,YT I]
theorem TL{P X Y Z S:List β}(f:X.length=m)(h:Y.length=m)(g:P.length=a)(l:a+m+Z.length=b):Ah a b m (P++(X++(Z++(Y++S))))=P++(Y++(Z++(X++S))):=by
 refine BI λt=> ?_
 rw[jR I (by simp only[AA];omega)];simp only[List.getElem?_append,AA,f,h,g]
 repeat' split
 all_goals first
  |omega
  |rfl
  |(congr 1;omega)
structure PR(a b:Nat)(L M:List β):Prop where
 len:M.length=L.length
 out:∀i,i<a\/b<=i->M[i]? =L[i]?
 perm:M.Perm L
theorem PR.rfl':PR a b L L:=⟨rfl,λ_ _=>rfl,.refl _⟩
theorem PR.trans(h:PR a b L M)(k:PR a b M N):PR a b L N:=⟨k.len.trans h.len,λi hi=>(k.out i hi).trans (h.out i hi),k.perm.trans h.perm⟩
theorem PR.mono(h:PR a b L M)(g:c<=a)(f:b<=e):PR c e L M:=⟨h.len,λi hi=>h.out i I,h.perm⟩
theorem PR.mem(h:PR a b L M)(v:a<=b){x:β}(z:a<=i)(y:i<b)(o:M[i]? =some x):∃j,a<=j/\j<b/\L[j]? =some x:=by
 have cut:∀l:List β,l=l.take a++((l.drop a).take (b-a)++l.drop b):=λl=>by
  conv=>lhs;rw[<-AF a l,<-AF (b-a) (l.drop a),List.drop_drop,show a+(b-a)=b by omega]
 have u:M.take a=L.take a:=BI λt=>by
  rw[AR,AR];split
  .exact h.out t (.inl (by assumption))
  .rfl
 have p:M.drop b=L.drop b:=BI λt=>by
  rw[List.getElem?_drop,List.getElem?_drop];exact h.out _ (.inr I)
 have g:=h.perm;rw[cut L,cut M,u,p,List.perm_append_left_iff,List.perm_append_right_iff]at g;have w:x∈(M.drop a).take (b-a):=by
  refine AE (i:=i-a) ?_;rw[AR,YS I,List.getElem?_drop,show a+(i-a)=i by omega];exact o
 obtain⟨j,f⟩:=List.getElem?_of_mem (g.mem_iff.1 w);rw[AR]at f;split at f
 .rw[List.getElem?_drop]at f;exact⟨a+j,by omega,by omega,f⟩
 .cases f
def P8(lt:β->β->Bool)(a b:Nat)(L:List β):Prop:=∀i j x y,a<=i->i<j->j<b->L[i]? =some x->L[j]? =some y->lt y x=false
theorem P8.mono(h:P8 lt a b L)(o:a<=c)(l:e<=b):P8 lt c e L:=λi j x y f k2 g=>h i j x y I k2 I
theorem P8.one(h:b<=a+1):P8 lt a b L:=λi j x y f k2 g=>by omega
theorem P8.same(h:P8 lt a b L)(g:∀i,a<=i->i<b->M[i]? =L[i]?):P8 lt a b M:=λi j x y f k2 l o p=>h i j x y f k2 l ((g i f I).symm.trans o) ((g j I l).symm.trans p)
theorem P8.shift{d f:Nat}(h:P8 lt a b L)(g:∀i,c<=i->i<e->M[i]? =L[a+(i-c)]?)(v:a+(e-c)<=b):P8 lt c e M:=λi j x y o k2 u l p=>h (a+(i-c)) (a+(j-c)) x y I I I ((g i o I).symm.trans l) ((g j I u).symm.trans p)
theorem D0.pr(h:D0 lt a b L M)(o:a<=b):PR a b L M:=by
 refine⟨h.len,h.out,?_⟩;have cut:∀l:List β,l=l.take a++((l.drop a).take (b-a)++l.drop b):=λl=>by
  conv=>lhs;rw[<-AF a l,<-AF (b-a) (l.drop a),List.drop_drop,show a+(b-a)=b by omega]
 have g:M.take a=L.take a:=BI λt=>by
  rw[AR,AR];split
  .exact h.out t (.inl (by assumption))
  .rfl
 have f:M.drop b=L.drop b:=BI λt=>by
  rw[List.getElem?_drop,List.getElem?_drop];exact h.out _ (.inr I)
 rw[cut L,cut M,g,f];exact(h.perm.append_right _).append_left _
theorem D0.sr(h:D0 lt a b L M):P8 lt a b M:=λi j x y w k2 D v A=>by
 have f:=h.srt;unfold NL at f;rw[List.pairwise_iff_getElem]at f;have g:∀t z,a<=t->t<b->M[t]? =some z->((M.drop a).take (b-a))[t-a]? =some z:=λt z F E p=>by
  rw[AR,YS I,List.getElem?_drop,show a+(t-a)=t by omega];exact p
 obtain⟨B,l⟩:=AP.1 (g i x w I v);obtain⟨o,u⟩:=AP.1 (g j y I D A);have:=f (i-a) (j-a) B o I;rw[l,u]at this;exact this
theorem P8.nl(h:P8 lt 0 n L)(l:L.length=n):NL lt L:=by
 unfold NL;rw[List.pairwise_iff_getElem];intro i j hi g f;exact h i j _ _ (AK _) f I (AD hi) (AD g)
structure I_(s m e:Nat)(L M:List β):Prop where
 pr:PR s e L M
 lo:∀i,s<=i->i<s+(e-m)->M[i]? =L[m+(i-s)]?
 hi:∀i,s+(e-m)<=i->i<e->M[i]? =L[s+(i- (s+(e-m)))]?
theorem VD{P X Y S:List β}(f:P.length=s)(o:s+X.length=m)(l:m+Y.length=e):I_ s m e (P++(X++(Y++S))) (P++(Y++(X++S))):=by
 refine⟨⟨by simp only[AA];omega,λi hi=> ?_,?_⟩,λi h g=> ?_,λi h g=> ?_⟩
 .simp only[List.getElem?_append,AA,f]
  repeat' split
  all_goals first
   |omega
   |rfl
   |(congr 1;omega)
 .refine List.Perm.append_left P ?_;rw[<-AO,<-AO];exact List.Perm.append_right S List.perm_append_comm
 .simp only[List.getElem?_append,AA,f]
  repeat' split
  all_goals first
   |omega
   |rfl
   |(congr 1;omega)
 .simp only[List.getElem?_append,AA,f]
  repeat' split
  all_goals first
   |omega
   |rfl
   |(congr 1;omega)
theorem Bw(h:s=m\/m=e)(l:s<=m)(g:m<=e):I_ s m e L L:=by
 refine⟨.rfl',λi f k2=> ?_,λi f k2=> ?_⟩
 .congr 1;omega
 .congr 1;omega
theorem G5(f:Sort.SWO lt){x y:β}(h:lt x y=true):lt y x=false:=by
 cases g:lt y x
 .rfl
 .have:=f.trans _ _ _ h g;rw[f.irrefl]at this;cases this
theorem F_(f:Sort.SWO lt){x y z:β}(h:lt y x=false)(k:lt z y=false):lt z x=false:=f.ntrans _ _ _ k h
theorem P8.le(o:Sort.SWO lt)(h:P8 lt a b L){x y:β}(p:a<=i)(u:i<=j)(l:j<b)(g:L[i]? =some x)(f:L[j]? =some y):lt y x=false:=by
 by_cases e:i=j
 .subst e;rw[g]at f;injection f with f;subst f;exact o.irrefl _
 .exact h i j x y p I l g f
theorem a6(l:Sort.SWO lt){L0 L1 L2 L3:List β}{mid:Nat}(hl:b<=L0.length)(wJ:a<=s)(h1:s<=m)(h2:m<=e)(h3:e<=b)(U:s+e=mid+m)
 (F:P8 lt a m L0) (k2:P8 lt m b L0) (o:I_ s m e L0 L1) (H:PR a mid L1 L2) (kp:P8 lt a mid L2) (A:PR mid b L2 L3) (kq:P8 lt mid b L3)
 (Y:∀x y,a<s->e<b->L0[s-1]? =some x->L0[e]? =some y->lt y x=false) (Z:∀x y,s<m->m<e->L0[e-1]? =some x->L0[s]? =some y->lt y x=false):PR a b L0 L3/\P8 lt a b L3:=by
 have S:s+(e-m)=mid:=I
 refine⟨((o.pr.mono wJ h3).trans (H.mono (AC _) I)).trans (A.mono I (AC _)),λi j x y wI c2 K B D=> ?_⟩
 by_cases T:j<mid
 .exact kp i j x y wI c2 T ((A.out i (.inl I)).symm.trans B) ((A.out j (.inl T)).symm.trans D)
 by_cases X:mid<=i
 .exact kq i j x y X c2 K B D
 obtain⟨w,R,d2,v⟩:=H.mem I wI I ((A.out i (.inl I)).symm.trans B);obtain⟨u,W,Q,h⟩:=A.mem I I K D;replace h:=(H.out u (.inr W)).symm.trans h;clear B D;have E:∀t,t<b->∃z,L0[t]? =some z:=λt ht=>⟨_,AD I⟩
 by_cases P:w<s<;>by_cases J:u<e
 .rw[o.pr.out w (.inl P)]at v;rw[o.hi u I J,S]at h;exact F _ _ x y R I I v h
 .rw[o.pr.out w (.inl P)]at v;rw[o.pr.out u (.inr I)]at h;obtain⟨p,f⟩:=E (s-1) I;obtain⟨q,g⟩:=E e I;have r1:=F.le l R (show w<=s-1 by omega) I v f;have r2:=Y p q I I f g;have G:=k2.le l h2 (show e<=u by omega) Q g h;exact F_ l (F_ l r1 r2) G
 .rw[o.lo w I I]at v;rw[o.hi u I J,S]at h;obtain⟨p,f⟩:=E (e-1) I;obtain⟨q,g⟩:=E s I;have r1:=k2.le l (Nat.le_add_right m _) (show m+(w- s)<=e-1 by omega) I v f;have r2:=Z p q I I f g;have G:=F.le l wJ (show s<=s+(u- mid) by omega) I g h;exact F_ l (F_ l r1 r2) G
 .rw[o.lo w I I]at v;rw[o.pr.out u (.inr I)]at h;exact k2.le l (Nat.le_add_right m _) I Q v h
theorem IU{mid:Nat}(o:a<=s)(l:s<=m)(f:P8 lt a m L)(g:I_ s m e L M):P8 lt a s M:=(f.mono (AC _) l).same λi _ h=>g.pr.out i (.inl h)
theorem G_(l:m<=e)(h:e<=b)(k2:P8 lt m b L)(g:I_ s m e L M):P8 lt s (s+(e-m)) M:=k2.shift (d:=0) (f:=0) (λi u v=>g.lo i u v) I
theorem fx(l:a<=s)(p:s<=m)(o:m<=e)(g:P8 lt a m L)(h:I_ s m e L M):P8 lt (s+(e-m)) e M:=(g.mono l (AC _)).shift (d:=0) (f:=0) (λi u v=>h.hi i u v) I
theorem ct(f:m<=e)(k2:P8 lt m b L)(g:I_ s m e L M):P8 lt e b M:=(k2.mono f (AC _)).same λi h _=>g.pr.out i (.inr h)
def Ab(a:Nat):Nat->List β->List β
 |0,L=>L
 |d+1,L=>Dd (Ab a d L) (a+d) (a+d+1)
def Ac(m:Nat):Nat->List β->List β
 |0,L=>L
 |d+1,L=>Dd (Ac m d L) (m-d) (m-d-1)
theorem JC:∀{d:Nat},a+d<L.length->PR a (a+d+1) L (Ab a d L)/\∀t,(Ab a d L)[t]? =if a<=t/\t<a+d then L[t+1]? else if t=a+d then L[a]? else L[t]?
 |0,_=>⟨.rfl',λt=>by
  show L[t]? =_;rw[YT I];split
  .congr 1
  .rfl⟩
 | d +1,h=>by
  obtain⟨g,f⟩:=JC (d:=d) I;have u:=g.len;have o:=HL (L:=Ab a d L) (i:=a+d) (j:=a+d+1) I I;refine⟨⟨by rw[<-u];exact Ko _ _ _,λt v=> ?_,(LA I I).trans g.perm⟩,λt=> ?_⟩
  .show(Dd (Ab a d L) (a+d) (a+d+1))[t]? =_;rw[o,YT I,YT I];exact g.out t I
  .show(Dd (Ab a d L) (a+d) (a+d+1))[t]? =_;rw[o,f,f,f]
   by_cases l:t=a+d+1
   .subst l;rw[YS rfl,YT I,YS rfl,YT I,YS I]
   .rw[YT l]
    by_cases c2:t=a+d
    .subst c2;rw[YS rfl,YT I,YT I,YS I]
    .rw[YT c2]
     by_cases p:a<=t/\t<a+d
     .rw[YS p,YS I]
     .rw[YT p,YT I,YT I,YT I]
theorem GV:∀{d:Nat},d<=m->m<L.length->PR (m-d) (m+1) L (Ac m d L)/\∀t,(Ac m d L)[t]? =if m-d<t/\t<=m then L[t-1]? else if t=m-d then L[m]? else L[t]?
 |0,_,_=>⟨.rfl',λt=>by
  show L[t]? =_;rw[YT I];split
  .congr 1
  .rfl⟩
 | d +1,h,v=>by
  obtain⟨g,f⟩:=GV (d:=d) I v;have u:=g.len;have o:=HL (L:=Ac m d L) (i:=m-d) (j:=m-d-1) I I;refine⟨⟨by rw[<-u];exact Ko _ _ _,λt w=> ?_,(LA I I).trans g.perm⟩,λt=> ?_⟩
  .show(Dd (Ac m d L) (m-d) (m-d-1))[t]? =_;rw[o,YT I,YT I];exact g.out t I
  .show(Dd (Ac m d L) (m-d) (m-d-1))[t]? =_;rw[o,f,f,f]
   by_cases l:t=m-d-1
   .subst l;rw[YS rfl,YT I,YS rfl,YT I,YS I]
   .rw[YT l]
    by_cases c2:t=m-d
    .subst c2;rw[YS rfl,YT I,YT I,YS I]
    .rw[YT c2]
     by_cases p:m-d<t/\t<=m
     .rw[YS p,YS I]
     .rw[YT p,YT I,YT I,YT I]
theorem me(h:Sort.SWO lt){x:β}(D:L[a]? =some x)(Z:b<=L.length)(J:a<i)(S:i<=b)(k:P8 lt (a+1) b L)(hi:∀y,a+1<i->L[i-1]? =some y->lt y x=true)(G:∀y,i<b->L[i]? =some y->lt y x=false):PR a b L (Ab a (i-1-a) L)/\P8 lt a b (Ab a (i-1-a) L):=by
 obtain⟨F,H⟩:=JC (L:=L) (a:=a) (d:=i-1-a) I;refine⟨F.mono (AC _) I,λt u y z K c2 B g f=> ?_⟩;rw[H]at g f;have A:∀t,t<b->∃z,L[t]? =some z:=λt P=>⟨_,AD I⟩
 have o:∀t y,a+1<=t->t<i->L[t]? =some y->lt y x=true:=λt y v w ty=>by
  obtain⟨q,l⟩:=A (i-1) I;have r1:=hi q I l;have r2:=k.le h v (show t<=i-1 by omega) I ty l;cases E:lt y x
  .rw[h.ntrans _ _ _ r2 E]at r1;cases r1
  .rfl
 have p:∀t y,i<=t->t<b->L[t]? =some y->lt y x=false:=λt y v w ty=>by
  obtain⟨q,l⟩:=A i I;exact F_ h (G q I l) (k.le h I v w l ty)
 by_cases Q:t<i-1
 .rw[YS I]at g
  by_cases R:u<i-1
  .rw[YS I]at f;exact k _ _ _ _ I I I g f
  .rw[YT I]at f
   by_cases wI:u=i-1
   .rw[YS I,D]at f;injection f with f;subst f;exact G5 h (o _ _ I I g)
   .rw[YT I]at f;exact k _ _ _ _ I I I g f
 .rw[YT I]at g;rw[YT I,YT I]at f
  by_cases wI:t=i-1
  .rw[YS I,D]at g;injection g with g;subst g;exact p _ _ I B f
  .rw[YT I]at g;exact k _ _ _ _ I c2 B g f
theorem Uo(h:Sort.SWO lt){x:β}(H:L[m]? =some x)(K:m<L.length)(D:a<=i)(T:i<=m)(k:P8 lt a m L)(hi:∀y,a<i->L[i-1]? =some y->lt x y=false)(J:∀y,i<m->L[i]? =some y->lt x y=true):PR a (m+1) L (Ac m (m-i) L)/\P8 lt a (m+1) (Ac m (m-i) L):=by
 obtain⟨F,G⟩:=GV (L:=L) (m:=m) (d:=m-i) I K;have P:m- (m-i)=i:=I
 rw[P]at F G;refine⟨F.mono D (AC _),λt u y z p c2 Q f g=> ?_⟩;rw[G]at f g;have E:∀t,t<=m->∃z,L[t]? =some z:=λt R=>⟨_,AD I⟩
 have o:∀t y,a<=t->t<i->L[t]? =some y->lt x y=false:=λt y w B ty=>by
  obtain⟨q,l⟩:=E (i-1) I;exact F_ h (k.le h w (show t<=i-1 by omega) I ty l) (hi q I l)
 have v:∀t y,i<=t->t<m->L[t]? =some y->lt x y=true:=λt y w B ty=>by
  obtain⟨q,l⟩:=E i I;have r1:=J q I l;have r2:=k.le h D w B l ty;cases wI:lt x y
  .rw[h.ntrans _ _ _ wI r2]at r1;cases r1
  .rfl
 by_cases S:u<=i
 .rw[YT I,YT I]at f;rw[YT I]at g
  by_cases A:u=i
  .rw[YS A,H]at g;injection g with g;subst g;exact o _ _ p I f
  .rw[YT A]at g;exact k _ _ _ _ p c2 I f g
 .rw[YS I]at g
  by_cases A:t<i
  .rw[YT I,YT I]at f;exact k _ _ _ _ p I I f g
  .by_cases Z:t=i
   .rw[YT I,YS Z,H]at f;injection f with f;subst f;exact G5 h (v _ _ I I g)
   .rw[YS I]at f;exact k _ _ _ _ I I I f g
def Jx(lt:β->β->Bool)(s n:Nat)(L:List β):Prop:=∀t,P8 lt (t*s) (min (t*s+s) n) L
structure S1(lt:β->β->Bool)(n q a:Nat)(L0 L:List β):Prop where
 pr:PR 0 n L0 L
 ok:∀t,t<q->P8 lt (t*20) (t*20+20) L
 ha:a=q*20
theorem S1.ins{q:Nat}(h:S1 lt n q a L M)(f:a+20<=n)(hi:D0 lt a (a+20) M N):S1 lt n (q+1) (a+20) L N:=by
 have ha:=h.ha;refine⟨h.pr.trans ((hi.pr I).mono (AK _) f),λt g=> ?_,by omega⟩
 by_cases e:t=q
 .subst e;rw[<-ha];exact hi.sr
 .exact(h.ok t I).same λi _ l=>hi.out i (.inl I)
theorem S1.fin{q:Nat}(h:S1 lt n q a L M)(g:a<=n)(o:n<a+20)(hi:D0 lt a n M N):PR 0 n L N/\Jx lt 20 n N:=by
 have ha:=h.ha;refine⟨h.pr.trans ((hi.pr g).mono (AK _) (AC _)),λt=> ?_⟩
 by_cases e:t<q
 .exact((h.ok t e).same λi _ l=>hi.out i (.inl I)).mono (AC _) (Nat.min_le_left _ _)
 .by_cases f:t=q
  .subst f;rw[<-ha];exact hi.sr.mono (AC _) (Nat.min_le_right _ _)
  .exact P8.one I
structure S2(lt:β->β->Bool)(s n q a:Nat)(L0 L:List β):Prop where
 pr:PR 0 n L0 L
 lo:∀t,t<q->P8 lt (t*(2*s)) (t*(2*s)+2*s) L
 hi:∀t,2*q<=t->P8 lt (t*s) (min (t*s+s) n) L
 ha:a=q*(2*s)
theorem vN(h:PR 0 n L M)(k:Jx lt s n M):S2 lt s n 0 0 L M:=⟨h,λt f=>I,λt _=>k t,by omega⟩
theorem S2.two{q:Nat}(h:S2 lt s n q a L M):(2*q)*s=a/\(2*q+1)*s=a+s:=by
 have e:(2*q)*s=a:=by rw[h.ha,CH 2 q,Nat.mul_assoc]
 exact⟨e,by rw[BJ,e,Nat.one_mul]⟩
theorem S2.r1{q:Nat}(h:S2 lt s n q a L M):P8 lt a (min (a+s) n) M:=by
 have:=h.hi (2*q) (AC _);rw[h.two.1]at this;exact this
theorem S2.r2{q:Nat}(h:S2 lt s n q a L M):P8 lt (a+s) (min (a+s+s) n) M:=by
 have:=h.hi (2*q+1) I;rw[h.two.2]at this;exact this
theorem S2.below{q t:Nat}(h:S2 lt s n q a L M)(f:t<q):t*(2*s)+2*s<=a:=by
 have:=BD (2*s) (show t+1<=q from f);rw[BJ,Nat.one_mul,<-h.ha]at this;exact this
theorem S2.step{q:Nat}(h:S2 lt s n q a L M)(l:a+2*s<=n)(k:PR a (a+2*s) M N/\P8 lt a (a+2*s) N):S2 lt s n (q+1) (a+2*s) L N:=by
 refine⟨h.pr.trans (k.1.mono (AK _) l),λt f=> ?_,λt f=> ?_,by rw[BJ,<-h.ha,Nat.one_mul]⟩
 .by_cases e:t=q
  .subst e;rw[<-h.ha];exact k.2
  .have:=h.below (show t<q by omega);exact(h.lo t I).same λi _ g=>k.1.out i (.inl I)
 .have o:=BD s f;have p:(2*(q+1))*s=a+2*s:=by rw[Nat.mul_add,BJ,h.two.1]
  exact(h.hi t I).same λi g _=>k.1.out i (.inr I)
theorem S2.fin{q:Nat}(h:S2 lt s n q a L M)(l:a<=n)(p:n<a+2*s)(k:PR a n M N/\P8 lt a n N):PR 0 n L N/\Jx lt (2*s) n N:=by
 refine⟨h.pr.trans (k.1.mono (AK _) (AC _)),λt=> ?_⟩
 by_cases e:t<q
 .have:=h.below e;exact((h.lo t e).same λi _ o=>k.1.out i (.inl I)).mono (AC _) (Nat.min_le_left _ _)
 .by_cases g:t=q
  .subst g;rw[<-h.ha];exact k.2.mono (AC _) (Nat.min_le_right _ _)
  .have f:=BD (2*s) (show q+1<=t by omega);rw[BJ,<-h.ha,Nat.one_mul]at f;exact P8.one I
theorem S2.skip{q:Nat}(h:S2 lt s n q a L M)(f:n<=a+s):PR a n M M/\P8 lt a n M:=⟨.rfl',by have:=h.r1;rw[Nat.min_eq_right f]at this;exact this⟩
theorem Jx.all(h:Jx lt s n L)(f:n<=s):P8 lt 0 n L:=by
 have:=h 0;rw[CZ,BV,Nat.min_eq_right f]at this;exact this
end
theorem Ln{β:Type}{cl:β->List YI}{k i B g n c:Nat}{u:YM}{e:XX}{L:List β}{x:β}(f:∀x,(cl x).length=k)(h:K6 u B e k (some ⟨g,0,none⟩) n c (L.flatMap cl))(l:0<n)(m:L[i]? =some x):u.rangeAt g (i*k) (cl x):=λj v o=>by
 obtain⟨s,b,p⟩:=h.cells l;injection b with b;injection b with b;subst b;exact p _ _ (Mr f L i x j v m o)
theorem Xe{x y:Nat}(h:y<=x)(b:x<=4000000000):XQ.wrap ((x:Int)- (y:Int))=((x-y:Nat):Int):=by rw[AL _ I];omega
theorem Sj{x y:Nat}(b:x<=4000000000)(c:y<=4000000000):XQ.wrap ((x:Int)+(y:Int))=((x+y:Nat):Int):=by rw[AL _ I];omega
theorem Lm{x y:Nat}(b:x<=2000000000)(c:y<=2000000000):XQ.wrap (Int.fdiv (XP.wrap (XQ.wrap ((x:Int)+(y:Int)))) 2)=(((x+y)/2:Nat):Int):=by
 rw[Sj I I,IntWalk.u64_in _ I,Int.fdiv_eq_ediv_of_nonneg _ Zd,AL _ I];omega
abbrev Oi:=(RV×RV)×Sp
abbrev Qg:=RV×KD
def Lg(z:Oi):List YI:=rB z.1
def Mb(z:Qg):List YI:=tc (z.1,z.2.2)
theorem Rp:∀x,∀v∈Lg x,v.oneCell'=true:=λx v b=>by
 simp[Lg,rB,RV.cl]at b;rcases b with rfl|rfl|rfl|rfl|rfl|rfl|rfl|rfl<;>rfl
theorem Tr:∀x,∀v∈Mb x,v.oneCell'=true:=λx v b=>by
 simp[Mb,tc,RV.cl]at b;rcases b with rfl|rfl|rfl|rfl|rfl<;>rfl
theorem M7:∀x,(Lg x).length=8:=λ_=>rfl
theorem Mx:∀x,(Mb x).length=5:=λ_=>rfl
section
variable{w W:YM}{g n c B:Nat}{a b m:Nat}{f:YI}
theorem bE{L:List Oi}(D:Below W.heap.size W w)(p:W.heap.size<=g)(F:K6 w B 411 8 (some ⟨g,0,none⟩) n c (L.flatMap Lg))(N:L.length=n)(P:n<=1000000000)(Z:a+m<=b)(k:b+m<=n):
 Ca 435 #[.slice (some ⟨g,0,none⟩) n c,.int .i64 a,.int .i64 b,.int .i64 m,f] w (L4 w [g] (λ_:Unit=> .tuple #[]) λ_ u=>K6 u B 411 8 (some ⟨g,0,none⟩) n c ((Ah a b m L).flatMap Lg)):=by
 have s:=(F.lt g (by simp[bl])).2;refine uB func435 rfl D<|ZR<|uj (ι:={i:Nat // i<=m}) 38 (λi=>⟨[vS 0 (some ⟨g,0,none⟩) n c,vI 1 a,vI 2 b,vI 3 m,vI 10 i.1],[]⟩) (λi u=>K6 u B 411 8 (some ⟨g,0,none⟩) n c ((Ah a b i.1 L).flatMap Lg)/\Kt W w g u) (λi=>m-i.1) (⟨0,AK _⟩) O Zf Zt (λu h=>⟨F.same λb k=>(by have k:=AB.1 k;subst k;exact h.2 _ p s),h.1,λb wI M _=>h.2 b wI M⟩) ?_
 rintro⟨i,hi⟩ R
 by_cases o:i<m
 case neg=>
  obtain rfl:i=m:=I
  refine ZR<|YN ((i:Int)<(i:Int))<|ug O<|ZR<|ZV (.tuple #[]) (λj e h=>⟨(),rfl,(Yh h).2.chg D e,λu Q k2=>(Yh h).1.same λb k=>k2 b (.inl k)⟩)
 refine ZR<|YL ((i:Int)<(m:Int)) ?_
 have l:i<m:=o;have K:=Fr (L:=L) a b i;obtain⟨x,E⟩:=Yg (Ah a b i L) (a+i);obtain⟨y,H⟩:=Yg (Ah a b i L) (b+i);refine YB 19 ((a:Int)+(i:Int)) ((a+i:Nat):Int)<|YB 23 ((b:Int)+(i:Int)) ((b+i:Nat):Int)<|YB 27 ((b:Int)+(i:Int)) ((b+i:Nat):Int)<|YB 33 ((a:Int)+(i:Int)) ((a+i:Nat):Int)<|ZB 12 (Kd 375 (.slice (some ⟨g,0,none⟩) n c) ((b+i:Nat):Int)) (.pointer (some ⟨g,(b+i)*8,none⟩)) (λj e h=>Kc (elem:=411) O O I)<|ZB 13 (Ke 411 ⟨g,(b+i)*8,none⟩) (.agg (Lg y).toArray) (λj e h=>Ka (vs:=Lg y) O O (Ln M7 h.1 I H))<|ZB 18 (Kd 375 (.slice (some ⟨g,0,none⟩) n c) ((a+i:Nat):Int)) (.pointer (some ⟨g,(a+i)*8,none⟩)) (λj e h=>Kc (elem:=411) O O I)<|ZB 19 (Ke 411 ⟨g,(a+i)*8,none⟩) (.agg (Lg x).toArray) (λj e h=>Ka (vs:=Lg x) O O (Ln M7 h.1 I E))<|ZB 20 (Kd 375 (.slice (some ⟨g,0,none⟩) n c) ((a+i:Nat):Int)) (.pointer (some ⟨g,(a+i)*8,none⟩)) (λj e h=>Kc (elem:=411) O O I)<|uE (L:=[g]) (G:=λu=>K6 u B 411 8 (some ⟨g,0,none⟩) n c (((Ah a b i L).set (a+i) y).flatMap Lg)) (Φ':=λu=>K6 u B 411 8 (some ⟨g,0,none⟩) n c (((Ah a b i L).set (a+i) y).flatMap Lg)/\Kt W w g u) (Om 411 ⟨g,(a+i)*8,none⟩ (.agg (Lg y).toArray)) (λj e h=>K6.setE M7 h.1 I rfl O (Rp y)) (λu h=>Za ⟨p,(h.1.blk _ (by simp[bl])).2⟩) (λJ u A z h v=>⟨v,h.2.left A z⟩) O O<|ZB 22 (Kd 375 (.slice (some ⟨g,0,none⟩) n c) ((b+i:Nat):Int)) (.pointer (some ⟨g,(b+i)*8,none⟩)) (λj e h=>Kc (elem:=411) O O I)<|uE (L:=[g]) (G:=λu=>K6 u B 411 8 (some ⟨g,0,none⟩) n c ((((Ah a b i L).set (a+i) y).set (b+i) x).flatMap Lg)) (Φ':=λu=>K6 u B 411 8 (some ⟨g,0,none⟩) n c ((((Ah a b i L).set (a+i) y).set (b+i) x).flatMap Lg)/\Kt W w g u) (Om 411 ⟨g,(b+i)*8,none⟩ (.agg (Lg x).toArray)) (λj e h=>K6.setE M7 h.1 Zp rfl O (Rp x)) (λu h=>Za ⟨p,(h.1.blk _ (by simp[bl])).2⟩) (λJ u A z h v=>⟨v,h.2.left A z⟩) O O<|ZR ?_
 have t:Ah a b (i+1) L=((Ah a b i L).set (a+i) y).set (b+i) x:=by
  show Dd (Ah a b i L) (a+i) (b+i)=_;unfold Dd;rw[E,H]
 refine YA 10 i l<|ui (⟨i+1,l⟩) O Zn Zt (λu h=>⟨by show K6 u B _ 8 _ n c ((Ah a b (i+1) L).flatMap Lg);rw[t];exact h.1,h.2⟩)
theorem GZ{P X Z Y S:List Oi}(k:Below W.heap.size W w)(o:W.heap.size<=g)(j:K6 w B 411 8 (some ⟨g,0,none⟩) n c ((P++(X++(Z++(Y++S)))).flatMap Lg))(e:(P++(X++(Z++(Y++S)))).length=n)(t:n<=1000000000)(l:X.length=m)(s:Y.length=m)(p:P.length=a)(v:a+m+Z.length=b):
 Ca 435 #[.slice (some ⟨g,0,none⟩) n c,.int .i64 a,.int .i64 b,.int .i64 m,f] w (L4 w [g] (λ_:Unit=> .tuple #[]) λ_ u=>K6 u B 411 8 (some ⟨g,0,none⟩) n c ((P++(Y++(Z++(X++S)))).flatMap Lg)):=by
 have h:=bE (f:=f) (a:=a) (b:=b) (m:=m) k o j e t I (by simp only[AA]at e;omega);rw[TL l s p v]at h;exact h
theorem n9{P X Y S:List Oi}(Q:Below W.heap.size W w)(k:W.heap.size<=g)(T:K6 w B 411 8 (some ⟨g,0,none⟩) n c ((P++(X++(Y++S))).flatMap Lg))(F:(P++(X++(Y++S))).length=n)(N:n<=1000000000)(ha:P.length=a)(hm:a+X.length=m)(o:m+Y.length=b)(U:0<X.length)(hY:0<Y.length):
 Ca 427 #[.slice (some ⟨g,0,none⟩) n c,.int .i64 a,.int .i64 m,.int .i64 b,f] w (L4 w [g] (λ_:Unit=> .tuple #[]) λ_ u=>K6 u B 411 8 (some ⟨g,0,none⟩) n c ((P++(Y++(X++S))).flatMap Lg)):=by
 have M:=(T.lt g (by simp[bl])).2;simp only[AA]at F;refine uB func427 rfl Q<|ZR<|YB 10 ((m:Int)- (a:Int)) (X.length:Int)<|YB 11 ((b:Int)- (m:Int)) (Y.length:Int)<|uj (ι:={q:(List Oi×List Oi)×List Oi×List Oi // (q.1.1.length+q.1.2.length=m/\0<q.1.2.length/\0<q.2.1.length/\q.1.1.length+(q.1.2.length+(q.2.1.length+q.2.2.length))=n)/\q.1.1++(q.2.1++(q.1.2++q.2.2))=P++(Y++(X++S))}) 58 (λq=>⟨[vS 0 (some ⟨g,0,none⟩) n c,vI 1 a,vI 2 m,vI 3 b,vV 4 f,vI 10 q.1.1.2.length,vI 11 q.1.2.1.length],[]⟩) (λq u=>K6 u B 411 8 (some ⟨g,0,none⟩) n c ((q.1.1.1++(q.1.1.2++(q.1.2.1++q.1.2.2))).flatMap Lg)/\Kt W w g u) (λq=>q.1.1.2.length+q.1.2.1.length) (⟨((P,X),Y,S),⟨Zn,U,hY,F⟩,rfl⟩) O Zf Zt (λu h=>⟨T.same λb o=>(by have o:=AB.1 o;subst o;exact h.2 _ k M),h.1,λb j wI _=>h.2 b j wI⟩) ?_
 rintro⟨⟨⟨P1,X1⟩,Y1,S1⟩,⟨J,wJ,K,H⟩,A⟩ gg;have J:P1.length+X1.length=m:=J;have wJ:0<X1.length:=wJ;have K:0<Y1.length:=K;have H:P1.length+(X1.length+(Y1.length+S1.length))=n:=H;have A:P1++(Y1++(X1++S1))=P++(Y++(X++S)):=A
 by_cases e:X1.length=Y1.length
 .refine ZR<|ZJ ((X1.length:Int) !=(Y1.length:Int)) false (by simp[e])<|ug O<|ZS 7<|YC 53 ((m:Int)- (X1.length:Int)) (P1.length:Int) ?_
  refine uD (L:=[g]) (val:=λ_:Unit=> .tuple #[]) (G:=λ_ u=>K6 u B 411 8 (some ⟨g,0,none⟩) n c ((P++(Y++(X++S))).flatMap Lg)) (Φ':=λ_ u=>K6 u B 411 8 (some ⟨g,0,none⟩) n c ((P++(Y++(X++S))).flatMap Lg)/\Kt W w g u) (λs l h=>by
   have wI:=GZ (f:=f) (Z:=[]) (m:=X1.length) (a:=P1.length) (b:=m) l k h.1 (by simp only[AA,BK];omega) N rfl e.symm rfl Zp;rw[BK,A]at wI;exact wI) (λu h=>Za ⟨k,(h.1.blk _ (by simp[bl])).2⟩) (λ_ R u E D h v=>⟨v,h.2.left E D⟩) O O (λ_=> ?_)
  refine ZR<|ZV (.tuple #[]) (λs l h=>⟨(),rfl,(Yh h).2.chg Q l,λu k1 k2=>(Yh h).1.same λb o=>k2 b (.inl o)⟩)
 by_cases z:Y1.length<X1.length
 .obtain⟨X2,X3,rfl,p⟩:∃X2 X3,X1=X2++X3/\X2.length=Y1.length:=⟨X1.take Y1.length,X1.drop Y1.length,(AF _ _).symm,by rw[AI];omega⟩
  simp only[AA]at J wJ H e z;refine ZR<|ZJ (((X2++X3).length:Int) !=(Y1.length:Int)) true Zp<|ul (decide (((X2++X3).length:Int)>(Y1.length:Int))) true O (YU Zp)<|ZS 7<|ZT 27 (.int .i64 (XQ.wrap ((m:Int)- ((X2++X3).length:Int)))) (.int .i64 (P1.length:Int)) (by rw[AL _ Zp];congr 1;simp;omega) ?_
  refine uD (L:=[g]) (val:=λ_:Unit=> .tuple #[]) (G:=λ_ u=>K6 u B 411 8 (some ⟨g,0,none⟩) n c ((P1++(Y1++(X3++(X2++S1)))).flatMap Lg)) (Φ':=λ_ u=>K6 u B 411 8 (some ⟨g,0,none⟩) n c ((P1++(Y1++(X3++(X2++S1)))).flatMap Lg)/\Kt W w g u) (λs l h=>by
   have j:K6 s B 411 8 (some ⟨g,0,none⟩) n c ((P1++((X2++X3)++(Y1++S1))).flatMap Lg):=h.1;rw[AO]at j;exact GZ (f:=f) (Z:=X3) (m:=Y1.length) (a:=P1.length) (b:=m) l k j (by simp only[AA];omega) N p rfl rfl I) (λu h=>Za ⟨k,(h.1.blk _ (by simp[bl])).2⟩) (λ_ R u E D h v=>⟨v,h.2.left E D⟩) O O (λ_=> ?_)
  refine ZR<|uh 10 (.int .i64 (XQ.wrap (((X2++X3).length:Int)- (Y1.length:Int)))) (.int .i64 (X3.length:Int)) O (by rw[AL _ Zp];congr 1;simp;omega)<|uh 11 (.int .i64 (Y1.length:Int)) (.int .i64 (X2.length:Int)) O (by rw[p])<|ui (⟨((P1++Y1,X3),X2,S1),⟨by show(P1++Y1).length+X3.length=m;simp;omega,Zn,Zn,by show(P1++Y1).length+(X3.length+(X2.length+S1.length))=n;simp;omega⟩,by show(P1++Y1)++(X2++(X3++S1))=_;rw[<-A];simp⟩) O (by show X3.length+X2.length<(X2++X3).length+Y1.length;simp;omega) Zt (λu h=>⟨by show K6 u B _ 8 _ n c (((P1++Y1)++(X3++(X2++S1))).flatMap Lg);rw[AO];exact h.1,h.2⟩)
 .obtain⟨Y2,Y3,rfl,t⟩:∃Y2 Y3,Y1=Y2++Y3/\Y3.length=X1.length:=⟨Y1.take (Y1.length-X1.length),Y1.drop (Y1.length-X1.length),(AF _ _).symm,by rw[AZ];omega⟩
  simp only[AA]at K H e z;refine ZR<|ZJ ((X1.length:Int) !=((Y2++Y3).length:Int)) true Zp<|ul (decide ((X1.length:Int)>((Y2++Y3).length:Int))) false O (YV Zp)<|ZS 11<|YB 38 ((m:Int)- (X1.length:Int)) (P1.length:Int)<|ZT 43 (.int .i64 (XQ.wrap (XQ.wrap ((m:Int)+((Y2++Y3).length:Int))- (X1.length:Int)))) (.int .i64 ((m+Y2.length:Nat):Int)) (by rw[Sj (x:=m) (y:=(Y2++Y3).length) I Zp,Xe Zp Zp];congr 1;simp;omega) ?_
  refine uD (L:=[g]) (val:=λ_:Unit=> .tuple #[]) (G:=λ_ u=>K6 u B 411 8 (some ⟨g,0,none⟩) n c ((P1++(Y3++(Y2++(X1++S1)))).flatMap Lg)) (Φ':=λ_ u=>K6 u B 411 8 (some ⟨g,0,none⟩) n c ((P1++(Y3++(Y2++(X1++S1)))).flatMap Lg)/\Kt W w g u) (λs l h=>by
   have j:K6 s B 411 8 (some ⟨g,0,none⟩) n c ((P1++(X1++((Y2++Y3)++S1))).flatMap Lg):=h.1;rw[AO Y2 Y3 S1]at j;exact GZ (f:=f) (Z:=Y2) (m:=X1.length) (a:=P1.length) (b:=m+Y2.length) l k j (by simp only[AA];omega) N rfl t rfl I) (λu h=>Za ⟨k,(h.1.blk _ (by simp[bl])).2⟩) (λ_ R u E D h v=>⟨v,h.2.left E D⟩) O O (λ_=> ?_)
  refine ZR<|uh 11 (.int .i64 (XQ.wrap (((Y2++Y3).length:Int)- (X1.length:Int)))) (.int .i64 (Y2.length:Int)) O (by rw[AL _ Zp];congr 1;simp;omega)<|uh 10 (.int .i64 (X1.length:Int)) (.int .i64 (Y3.length:Int)) O (by rw[t])<|ui (⟨((P1,Y3),Y2,X1++S1),⟨Zn,Zn,Zn,by show P1.length+(Y3.length+(Y2.length+(X1++S1).length))=n;simp;omega⟩,by show P1++(Y2++(Y3++(X1++S1)))=_;rw[<-A];simp⟩) O (by show Y3.length+Y2.length<X1.length+(Y2++Y3).length;simp;omega) Zt (λ_ h=>h)
theorem fg{L:List Qg}(D:Below W.heap.size W w)(p:W.heap.size<=g)(F:K6 w B 415 5 (some ⟨g,0,none⟩) n c (L.flatMap Mb))(N:L.length=n)(P:n<=1000000000)(Z:a+m<=b)(k:b+m<=n):
 Ca 436 #[.slice (some ⟨g,0,none⟩) n c,.int .i64 a,.int .i64 b,.int .i64 m,f] w (L4 w [g] (λ_:Unit=> .tuple #[]) λ_ u=>K6 u B 415 5 (some ⟨g,0,none⟩) n c ((Ah a b m L).flatMap Mb)):=by
 have s:=(F.lt g (by simp[bl])).2;refine uB func436 rfl D<|ZR<|uj (ι:={i:Nat // i<=m}) 38 (λi=>⟨[vS 0 (some ⟨g,0,none⟩) n c,vI 1 a,vI 2 b,vI 3 m,vI 10 i.1],[]⟩) (λi u=>K6 u B 415 5 (some ⟨g,0,none⟩) n c ((Ah a b i.1 L).flatMap Mb)/\Kt W w g u) (λi=>m-i.1) (⟨0,AK _⟩) O Zf Zt (λu h=>⟨F.same λb k=>(by have k:=AB.1 k;subst k;exact h.2 _ p s),h.1,λb wI M _=>h.2 b wI M⟩) ?_
 rintro⟨i,hi⟩ R
 by_cases o:i<m
 case neg=>
  obtain rfl:i=m:=I
  refine ZR<|YN ((i:Int)<(i:Int))<|ug O<|ZR<|ZV (.tuple #[]) (λj e h=>⟨(),rfl,(Yh h).2.chg D e,λu Q k2=>(Yh h).1.same λb k=>k2 b (.inl k)⟩)
 refine ZR<|YL ((i:Int)<(m:Int)) ?_
 have l:i<m:=o;have K:=Fr (L:=L) a b i;obtain⟨x,E⟩:=Yg (Ah a b i L) (a+i);obtain⟨y,H⟩:=Yg (Ah a b i L) (b+i);refine YB 19 ((a:Int)+(i:Int)) ((a+i:Nat):Int)<|YB 23 ((b:Int)+(i:Int)) ((b+i:Nat):Int)<|YB 27 ((b:Int)+(i:Int)) ((b+i:Nat):Int)<|YB 33 ((a:Int)+(i:Int)) ((a+i:Nat):Int)<|ZB 12 (Kd 412 (.slice (some ⟨g,0,none⟩) n c) ((b+i:Nat):Int)) (.pointer (some ⟨g,(b+i)*5,none⟩)) (λj e h=>Kc (elem:=415) O O I)<|ZB 13 (Ke 415 ⟨g,(b+i)*5,none⟩) (.agg (Mb y).toArray) (λj e h=>Ka (vs:=Mb y) O O (Ln Mx h.1 I H))<|ZB 18 (Kd 412 (.slice (some ⟨g,0,none⟩) n c) ((a+i:Nat):Int)) (.pointer (some ⟨g,(a+i)*5,none⟩)) (λj e h=>Kc (elem:=415) O O I)<|ZB 19 (Ke 415 ⟨g,(a+i)*5,none⟩) (.agg (Mb x).toArray) (λj e h=>Ka (vs:=Mb x) O O (Ln Mx h.1 I E))<|ZB 20 (Kd 412 (.slice (some ⟨g,0,none⟩) n c) ((a+i:Nat):Int)) (.pointer (some ⟨g,(a+i)*5,none⟩)) (λj e h=>Kc (elem:=415) O O I)<|uE (L:=[g]) (G:=λu=>K6 u B 415 5 (some ⟨g,0,none⟩) n c (((Ah a b i L).set (a+i) y).flatMap Mb)) (Φ':=λu=>K6 u B 415 5 (some ⟨g,0,none⟩) n c (((Ah a b i L).set (a+i) y).flatMap Mb)/\Kt W w g u) (Om 415 ⟨g,(a+i)*5,none⟩ (.agg (Mb y).toArray)) (λj e h=>K6.setE Mx h.1 I rfl O (Tr y)) (λu h=>Za ⟨p,(h.1.blk _ (by simp[bl])).2⟩) (λJ u A z h v=>⟨v,h.2.left A z⟩) O O<|ZB 22 (Kd 412 (.slice (some ⟨g,0,none⟩) n c) ((b+i:Nat):Int)) (.pointer (some ⟨g,(b+i)*5,none⟩)) (λj e h=>Kc (elem:=415) O O I)<|uE (L:=[g]) (G:=λu=>K6 u B 415 5 (some ⟨g,0,none⟩) n c ((((Ah a b i L).set (a+i) y).set (b+i) x).flatMap Mb)) (Φ':=λu=>K6 u B 415 5 (some ⟨g,0,none⟩) n c ((((Ah a b i L).set (a+i) y).set (b+i) x).flatMap Mb)/\Kt W w g u) (Om 415 ⟨g,(b+i)*5,none⟩ (.agg (Mb x).toArray)) (λj e h=>K6.setE Mx h.1 Zp rfl O (Tr x)) (λu h=>Za ⟨p,(h.1.blk _ (by simp[bl])).2⟩) (λJ u A z h v=>⟨v,h.2.left A z⟩) O O<|ZR ?_
 have t:Ah a b (i+1) L=((Ah a b i L).set (a+i) y).set (b+i) x:=by
  show Dd (Ah a b i L) (a+i) (b+i)=_;unfold Dd;rw[E,H]
 refine YA 10 i l<|ui (⟨i+1,l⟩) O Zn Zt (λu h=>⟨by show K6 u B _ 5 _ n c ((Ah a b (i+1) L).flatMap Mb);rw[t];exact h.1,h.2⟩)
theorem KE{P X Z Y S:List Qg}(k:Below W.heap.size W w)(o:W.heap.size<=g)(j:K6 w B 415 5 (some ⟨g,0,none⟩) n c ((P++(X++(Z++(Y++S)))).flatMap Mb))(e:(P++(X++(Z++(Y++S)))).length=n)(t:n<=1000000000)(l:X.length=m)(s:Y.length=m)(p:P.length=a)(v:a+m+Z.length=b):
 Ca 436 #[.slice (some ⟨g,0,none⟩) n c,.int .i64 a,.int .i64 b,.int .i64 m,f] w (L4 w [g] (λ_:Unit=> .tuple #[]) λ_ u=>K6 u B 415 5 (some ⟨g,0,none⟩) n c ((P++(Y++(Z++(X++S)))).flatMap Mb)):=by
 have h:=fg (f:=f) (a:=a) (b:=b) (m:=m) k o j e t I (by simp only[AA]at e;omega);rw[TL l s p v]at h;exact h
theorem mW{P X Y S:List Qg}(Q:Below W.heap.size W w)(k:W.heap.size<=g)(T:K6 w B 415 5 (some ⟨g,0,none⟩) n c ((P++(X++(Y++S))).flatMap Mb))(F:(P++(X++(Y++S))).length=n)(N:n<=1000000000)(ha:P.length=a)(hm:a+X.length=m)(o:m+Y.length=b)(U:0<X.length)(hY:0<Y.length):
 Ca 428 #[.slice (some ⟨g,0,none⟩) n c,.int .i64 a,.int .i64 m,.int .i64 b,f] w (L4 w [g] (λ_:Unit=> .tuple #[]) λ_ u=>K6 u B 415 5 (some ⟨g,0,none⟩) n c ((P++(Y++(X++S))).flatMap Mb)):=by
 have M:=(T.lt g (by simp[bl])).2;simp only[AA]at F;refine uB func428 rfl Q<|ZR<|YB 10 ((m:Int)- (a:Int)) (X.length:Int)<|YB 11 ((b:Int)- (m:Int)) (Y.length:Int)<|uj (ι:={q:(List Qg×List Qg)×List Qg×List Qg // (q.1.1.length+q.1.2.length=m/\0<q.1.2.length/\0<q.2.1.length/\q.1.1.length+(q.1.2.length+(q.2.1.length+q.2.2.length))=n)/\q.1.1++(q.2.1++(q.1.2++q.2.2))=P++(Y++(X++S))}) 58 (λq=>⟨[vS 0 (some ⟨g,0,none⟩) n c,vI 1 a,vI 2 m,vI 3 b,vV 4 f,vI 10 q.1.1.2.length,vI 11 q.1.2.1.length],[]⟩) (λq u=>K6 u B 415 5 (some ⟨g,0,none⟩) n c ((q.1.1.1++(q.1.1.2++(q.1.2.1++q.1.2.2))).flatMap Mb)/\Kt W w g u) (λq=>q.1.1.2.length+q.1.2.1.length) (⟨((P,X),Y,S),⟨Zn,U,hY,F⟩,rfl⟩) O Zf Zt (λu h=>⟨T.same λb o=>(by have o:=AB.1 o;subst o;exact h.2 _ k M),h.1,λb j wI _=>h.2 b j wI⟩) ?_
 rintro⟨⟨⟨P1,X1⟩,Y1,S1⟩,⟨J,wJ,K,H⟩,A⟩ gg;have J:P1.length+X1.length=m:=J;have wJ:0<X1.length:=wJ;have K:0<Y1.length:=K;have H:P1.length+(X1.length+(Y1.length+S1.length))=n:=H;have A:P1++(Y1++(X1++S1))=P++(Y++(X++S)):=A
 by_cases e:X1.length=Y1.length
 .refine ZR<|ZJ ((X1.length:Int) !=(Y1.length:Int)) false (by simp[e])<|ug O<|ZS 7<|YC 53 ((m:Int)- (X1.length:Int)) (P1.length:Int) ?_
  refine uD (L:=[g]) (val:=λ_:Unit=> .tuple #[]) (G:=λ_ u=>K6 u B 415 5 (some ⟨g,0,none⟩) n c ((P++(Y++(X++S))).flatMap Mb)) (Φ':=λ_ u=>K6 u B 415 5 (some ⟨g,0,none⟩) n c ((P++(Y++(X++S))).flatMap Mb)/\Kt W w g u) (λs l h=>by
   have wI:=KE (f:=f) (Z:=[]) (m:=X1.length) (a:=P1.length) (b:=m) l k h.1 (by simp only[AA,BK];omega) N rfl e.symm rfl Zp;rw[BK,A]at wI;exact wI) (λu h=>Za ⟨k,(h.1.blk _ (by simp[bl])).2⟩) (λ_ R u E D h v=>⟨v,h.2.left E D⟩) O O (λ_=> ?_)
  refine ZR<|ZV (.tuple #[]) (λs l h=>⟨(),rfl,(Yh h).2.chg Q l,λu k1 k2=>(Yh h).1.same λb o=>k2 b (.inl o)⟩)
 by_cases z:Y1.length<X1.length
 .obtain⟨X2,X3,rfl,p⟩:∃X2 X3,X1=X2++X3/\X2.length=Y1.length:=⟨X1.take Y1.length,X1.drop Y1.length,(AF _ _).symm,by rw[AI];omega⟩
  simp only[AA]at J wJ H e z;refine ZR<|ZJ (((X2++X3).length:Int) !=(Y1.length:Int)) true Zp<|ul (decide (((X2++X3).length:Int)>(Y1.length:Int))) true O (YU Zp)<|ZS 7<|ZT 27 (.int .i64 (XQ.wrap ((m:Int)- ((X2++X3).length:Int)))) (.int .i64 (P1.length:Int)) (by rw[AL _ Zp];congr 1;simp;omega) ?_
  refine uD (L:=[g]) (val:=λ_:Unit=> .tuple #[]) (G:=λ_ u=>K6 u B 415 5 (some ⟨g,0,none⟩) n c ((P1++(Y1++(X3++(X2++S1)))).flatMap Mb)) (Φ':=λ_ u=>K6 u B 415 5 (some ⟨g,0,none⟩) n c ((P1++(Y1++(X3++(X2++S1)))).flatMap Mb)/\Kt W w g u) (λs l h=>by
   have j:K6 s B 415 5 (some ⟨g,0,none⟩) n c ((P1++((X2++X3)++(Y1++S1))).flatMap Mb):=h.1;rw[AO]at j;exact KE (f:=f) (Z:=X3) (m:=Y1.length) (a:=P1.length) (b:=m) l k j (by simp only[AA];omega) N p rfl rfl I) (λu h=>Za ⟨k,(h.1.blk _ (by simp[bl])).2⟩) (λ_ R u E D h v=>⟨v,h.2.left E D⟩) O O (λ_=> ?_)
  refine ZR<|uh 10 (.int .i64 (XQ.wrap (((X2++X3).length:Int)- (Y1.length:Int)))) (.int .i64 (X3.length:Int)) O (by rw[AL _ Zp];congr 1;simp;omega)<|uh 11 (.int .i64 (Y1.length:Int)) (.int .i64 (X2.length:Int)) O (by rw[p])<|ui (⟨((P1++Y1,X3),X2,S1),⟨by show(P1++Y1).length+X3.length=m;simp;omega,Zn,Zn,by show(P1++Y1).length+(X3.length+(X2.length+S1.length))=n;simp;omega⟩,by show(P1++Y1)++(X2++(X3++S1))=_;rw[<-A];simp⟩) O (by show X3.length+X2.length<(X2++X3).length+Y1.length;simp;omega) Zt (λu h=>⟨by show K6 u B _ 5 _ n c (((P1++Y1)++(X3++(X2++S1))).flatMap Mb);rw[AO];exact h.1,h.2⟩)
 .obtain⟨Y2,Y3,rfl,t⟩:∃Y2 Y3,Y1=Y2++Y3/\Y3.length=X1.length:=⟨Y1.take (Y1.length-X1.length),Y1.drop (Y1.length-X1.length),(AF _ _).symm,by rw[AZ];omega⟩
  simp only[AA]at K H e z;refine ZR<|ZJ ((X1.length:Int) !=((Y2++Y3).length:Int)) true Zp<|ul (decide ((X1.length:Int)>((Y2++Y3).length:Int))) false O (YV Zp)<|ZS 11<|YB 38 ((m:Int)- (X1.length:Int)) (P1.length:Int)<|ZT 43 (.int .i64 (XQ.wrap (XQ.wrap ((m:Int)+((Y2++Y3).length:Int))- (X1.length:Int)))) (.int .i64 ((m+Y2.length:Nat):Int)) (by rw[Sj (x:=m) (y:=(Y2++Y3).length) I Zp,Xe Zp Zp];congr 1;simp;omega) ?_
  refine uD (L:=[g]) (val:=λ_:Unit=> .tuple #[]) (G:=λ_ u=>K6 u B 415 5 (some ⟨g,0,none⟩) n c ((P1++(Y3++(Y2++(X1++S1)))).flatMap Mb)) (Φ':=λ_ u=>K6 u B 415 5 (some ⟨g,0,none⟩) n c ((P1++(Y3++(Y2++(X1++S1)))).flatMap Mb)/\Kt W w g u) (λs l h=>by
   have j:K6 s B 415 5 (some ⟨g,0,none⟩) n c ((P1++(X1++((Y2++Y3)++S1))).flatMap Mb):=h.1;rw[AO Y2 Y3 S1]at j;exact KE (f:=f) (Z:=Y2) (m:=X1.length) (a:=P1.length) (b:=m+Y2.length) l k j (by simp only[AA];omega) N rfl t rfl I) (λu h=>Za ⟨k,(h.1.blk _ (by simp[bl])).2⟩) (λ_ R u E D h v=>⟨v,h.2.left E D⟩) O O (λ_=> ?_)
  refine ZR<|uh 11 (.int .i64 (XQ.wrap (((Y2++Y3).length:Int)- (X1.length:Int)))) (.int .i64 (Y2.length:Int)) O (by rw[AL _ Zp];congr 1;simp;omega)<|uh 10 (.int .i64 (X1.length:Int)) (.int .i64 (Y3.length:Int)) O (by rw[t])<|ui (⟨((P1,Y3),Y2,X1++S1),⟨Zn,Zn,Zn,by show P1.length+(Y3.length+(Y2.length+(X1++S1).length))=n;simp;omega⟩,by show P1++(Y2++(Y3++(X1++S1)))=_;rw[<-A];simp⟩) O (by show Y3.length+Y2.length<X1.length+(Y2++Y3).length;simp;omega) Zt (λ_ h=>h)
end
def Z0{β:Type}(cl:β->List YI)(f:XU)(c:β->β->Int)(L:List β)(g:Nat)(w:YM):Prop:=∀W:YM,w.heap.size<=W.heap.size->(∀b,b<w.heap.size->b≠g->W.heap[b]? =w.heap[b]?)->∀x∈L,∀y∈L,Ca f #[.agg (cl x).toArray,.agg (cl y).toArray] W (CU W (.int .i64 (c x y)))
theorem Z0.to{β:Type}{cl:β->List YI}{f:XU}{e:β->β->Int}{L M:List β}{g:Nat}{w u:YM}(h:Z0 cl f e L g w)(l:M.Perm L)(k:w.heap.size<=u.heap.size)(p:∀b,b<w.heap.size->b≠g->u.heap[b]? =w.heap[b]?):Z0 cl f e M g u:=λW m t x o y s=>h W (AH k m) (λb j c=>(t b (BC j k) c).trans (p b j c)) x (l.mem_iff.1 o) y (l.mem_iff.1 s)
def Lc(x y:Oi):Int:=Kv x.2.1 y.2.1
def Ld(x y:Qg):Int:=iS x.2 y.2
theorem fo:Sort.SWO (ltOf Lc):=TS λz:Oi=>z.2.1
theorem Tl{x y:Qg}:ltOf Ld x y=Xg x.2 y.2:=kP
theorem gM:Sort.SWO (ltOf Ld):=by
 refine⟨λx=> ?_,λx y z c b=> ?_,λx y z c b=> ?_⟩
 .rw[Tl];simp[Xg]
 .rw[Tl]at*;simp only[Xg,CI,BB,decide_eq_true_eq]at*;rcases c with c|⟨c,e⟩<;>rcases b with b|⟨b,f⟩
  .exact .inl (by grind)
  .exact .inl (by grind)
  .exact .inl (by grind)
  .exact .inr ⟨c.trans b,by omega⟩
 .rw[Tl]at*;exact bU _ _ _ b c
section
variable{g n c B:Nat}
theorem OR:∀(k:Nat) {a m b:Nat} {L:List Oi} {w W:YM},b-a<=k->Below W.heap.size W w->W.heap.size<=g->K6 w B 411 8 (some ⟨g,0,none⟩) n c (L.flatMap Lg)->L.length=n->n<=1000000000->a<m->m<b->b<=n->P8 (ltOf Lc) a m L->P8 (ltOf Lc) m b L->Z0 Lg 359 Lc L g w->
 Ca 411 #[.slice (some ⟨g,0,none⟩) n c,.int .i64 a,.int .i64 m,.int .i64 b,.func (.func 359) #[] #[]] w (L4 w [g] (λ_:{M:List Oi // PR a b L M/\P8 (ltOf Lc) a b M}=> .tuple #[]) λM u=>K6 u B 411 8 (some ⟨g,0,none⟩) n c (M.1.flatMap Lg))
 |0,a,m,b,L,w,W,hk,_,_,_,_,_,h1,h2,_,_,_,_=>by omega
 | k +1,a,m,b,L,w,W,hk,Z,hg,ho,hln,hn,ham,hmb,hbn,k1,k2,H=>by
  have hgl:=(ho.lt g (by simp[bl])).2;have hO:=fo;have J:∀u:YM,(w.heap.size<=u.heap.size/\∀b,W.heap.size<=b->b<w.heap.size->u.heap[b]? =w.heap[b]?)->K6 u B 411 8 (some ⟨g,0,none⟩) n c (L.flatMap Lg)/\Kt W w g u:=λu h=>⟨ho.same λb P=>(by have P:=AB.1 P;subst P;exact h.2 _ hg hgl),h.1,λb h1 h2 _=>h.2 b h1 h2⟩
  refine uB func411 rfl Z ?_
  by_cases hm1:m=a+1
  .obtain⟨x,wI⟩:=Yg L a;refine ZR<|ZJ ((XQ.wrap ((m:Int)- (a:Int))==1)) true (by rw[Xe I I];simp;omega)<|uj (ι:={q:Nat×Nat // (q.1<=q.2/\m<=q.1/\q.2<=b)/\(∀y,m<q.1->L[q.1-1]? =some y->ltOf Lc y x=true)/\(∀y,q.2<b->L[q.2]? =some y->ltOf Lc y x=false)}) 220 (λq=>⟨[vS 0 (some ⟨g,0,none⟩) n c,vI 1 a,vV 4 (.func (.func 359) #[] #[]),vI 10 q.1.1,vI 11 q.1.2],[]⟩) (λ_ u=>K6 u B 411 8 (some ⟨g,0,none⟩) n c (L.flatMap Lg)/\Kt W w g u) (λq=>q.1.2-q.1.1) (⟨(m,b),⟨Zn,AC _,AC _⟩,λ_ h=>absurd h (Nat.lt_irrefl _),λ_ h=>absurd h (Nat.lt_irrefl _)⟩) O Zf Zt (λu h=>J u h) ?_
   rintro⟨⟨i,j⟩,⟨q1,X,T⟩,N,wJ⟩ gg;have q1:i<=j:=q1;have X:m<=i:=X;have T:j<=b:=T;have N:∀y,m<i->L[i-1]? =some y->ltOf Lc y x=true:=N;have wJ:∀y,j<b->L[j]? =some y->ltOf Lc y x=false:=wJ
   by_cases hij:i<j
   case neg=>
    obtain rfl:i=j:=I
    have hup:=me hO wI (show b<=L.length by omega) (show a<i by omega) T (by rw[<-hm1];exact k2) (by rw[<-hm1];exact N) wJ;refine ZR<|YN ((i:Int)<(i:Int))<|ug O<|ZR<|uj (ι:={d:Nat // d<=i-1-a}) 220 (λd=>⟨[vS 0 (some ⟨g,0,none⟩) n c,vI 10 i,vI 13 ((a+d.1:Nat):Int)],[]⟩) (λd u=>K6 u B 411 8 (some ⟨g,0,none⟩) n c ((Ab a d.1 L).flatMap Lg)/\Kt W w g u) (λd=>i-1-a-d.1) (⟨0,AK _⟩) O Zf Zt (λu h=>h) ?_
    rintro⟨d,hd⟩ gg2;have hd:d<=i-1-a:=hd;have hmv:=(JC (L:=L) (a:=a) (d:=d) I).1.len
    by_cases Do:a+d<i-1
    case neg=>
     obtain rfl:d=i-1-a:=I
     refine ZR<|YK (((a+(i-1-a):Nat):Int)<XQ.wrap ((i:Int)-1)) (by rw[AL _ I];omega)<|ug O<|ZR<|ZV (.tuple #[]) (λA p h=>⟨⟨Ab a (i-1-a) L,hup⟩,rfl,(Yh h).2.chg Z p,λu k1 k2=>(Yh h).1.same λb P=>k2 b (.inl P)⟩)
    obtain⟨y,E⟩:=Yg (Ab a d L) (a+d);obtain⟨z,hz⟩:=Yg (Ab a d L) (a+d+1);refine ZR<|YJ (((a+d:Nat):Int)<XQ.wrap ((i:Int)-1)) (by rw[AL _ I];omega)<|YB 65 (((a+d:Nat):Int)+1) ((a+d+1:Nat):Int)<|YB 68 (((a+d:Nat):Int)+1) ((a+d+1:Nat):Int)<|ZB 8 (Kd 375 (.slice (some ⟨g,0,none⟩) n c) ((a+d+1:Nat):Int)) (.pointer (some ⟨g,(a+d+1)*8,none⟩)) (λA p h=>Kc (elem:=411) O O I)<|ZB 9 (Ke 411 ⟨g,(a+d+1)*8,none⟩) (.agg (Lg z).toArray) (λA p h=>Ka (vs:=Lg z) O O (Ln M7 h.1 I hz))<|ZB 12 (Kd 375 (.slice (some ⟨g,0,none⟩) n c) ((a+d:Nat):Int)) (.pointer (some ⟨g,(a+d)*8,none⟩)) (λA p h=>Kc (elem:=411) O O I)<|ZB 13 (Ke 411 ⟨g,(a+d)*8,none⟩) (.agg (Lg y).toArray) (λA p h=>Ka (vs:=Lg y) O O (Ln M7 h.1 I E))<|ZB 14 (Kd 375 (.slice (some ⟨g,0,none⟩) n c) ((a+d:Nat):Int)) (.pointer (some ⟨g,(a+d)*8,none⟩)) (λA p h=>Kc (elem:=411) O O I)<|uE (L:=[g]) (G:=λu=>K6 u B 411 8 (some ⟨g,0,none⟩) n c (((Ab a d L).set (a+d) z).flatMap Lg)) (Φ':=λu=>K6 u B 411 8 (some ⟨g,0,none⟩) n c (((Ab a d L).set (a+d) z).flatMap Lg)/\Kt W w g u) (Om 411 ⟨g,(a+d)*8,none⟩ (.agg (Lg z).toArray)) (λA p h=>K6.setE M7 h.1 I rfl O (Rp z)) (λu h=>Za ⟨hg,(h.1.blk _ (by simp[bl])).2⟩) (λwa u U R h Q=>⟨Q,h.2.left U R⟩) O O<|ZB 16 (Kd 375 (.slice (some ⟨g,0,none⟩) n c) ((a+d+1:Nat):Int)) (.pointer (some ⟨g,(a+d+1)*8,none⟩)) (λA p h=>Kc (elem:=411) O O I)<|uE (L:=[g]) (G:=λu=>K6 u B 411 8 (some ⟨g,0,none⟩) n c ((((Ab a d L).set (a+d) z).set (a+d+1) y).flatMap Lg)) (Φ':=λu=>K6 u B 411 8 (some ⟨g,0,none⟩) n c ((((Ab a d L).set (a+d) z).set (a+d+1) y).flatMap Lg)/\Kt W w g u) (Om 411 ⟨g,(a+d+1)*8,none⟩ (.agg (Lg y).toArray)) (λA p h=>K6.setE M7 h.1 Zp rfl O (Rp y)) (λu h=>Za ⟨hg,(h.1.blk _ (by simp[bl])).2⟩) (λwa u U R h Q=>⟨Q,h.2.left U R⟩) O O<|ZR ?_
    have hsw:Ab a (d+1) L=((Ab a d L).set (a+d) z).set (a+d+1) y:=by
     show Dd (Ab a d L) (a+d) (a+d+1)=_;unfold Dd;rw[E,hz]
    refine YB 13 (((a+d:Nat):Int)+1) ((a+(d+1):Nat):Int)<|ui (⟨d+1,by omega⟩) O Zn Zt (λu h=>⟨by show K6 u B _ 8 _ n c ((Ab a (d+1) L).flatMap Lg);rw[hsw];exact h.1,h.2⟩)
   obtain⟨t,ht⟩:∃t,t=(i+j)/2:=⟨_,rfl⟩
   obtain⟨y,E⟩:=Yg L t;refine ZR<|YL ((i:Int)<(j:Int))<|uh 12 (.int .i64 (XQ.wrap (Int.fdiv (XP.wrap (XQ.wrap ((i:Int)+(j:Int)))) 2))) (.int .i64 (t:Int)) O (by rw[Lm I I,ht])<|uh 42 (.int .i64 (XQ.wrap (Int.fdiv (XP.wrap (XQ.wrap ((i:Int)+(j:Int)))) 2))) (.int .i64 (t:Int)) O (by rw[Lm I I,ht])<|ZB 3 (Kd 375 (.slice (some ⟨g,0,none⟩) n c) t) (.pointer (some ⟨g,t*8,none⟩)) (λA p h=>Kc (elem:=411) O O I)<|ZB 4 (Ke 411 ⟨g,t*8,none⟩) (.agg (Lg y).toArray) (λA p h=>Ka (vs:=Lg y) O O (Ln M7 h.1 I E))<|ZA (Kd 375 (.slice (some ⟨g,0,none⟩) n c) a) (.pointer (some ⟨g,a*8,none⟩)) (λA p h=>Kc (elem:=411) O O I)<|ZA (Ke 411 ⟨g,a*8,none⟩) (.agg (Lg x).toArray) (λA p h=>Ka (vs:=Lg x) O O (Ln M7 h.1 I wI))<|ZC (λA p h=>H A h.2.1 (h.2.old Z p) y (AE E) x (AE wI)) λu=> ?_
   cases K:decide (Lc y x<0)
   .refine ZJ (decide (Lc y x<0)) false (K)<|ui (⟨(i,t),⟨Zn,X,Zn⟩,N,λy' _ o=>by rw[E]at o;injection o with o;subst o;exact K⟩) O Zn Zt (λ_ h=>h.1)
   .refine ZJ (decide (Lc y x<0)) true (K)<|YB 10 ((t:Int)+1) ((t+1:Nat):Int)<|ui (⟨(t+1,j),⟨Zn,Zn,T⟩,λy' _ o=>by rw[Nat.add_sub_cancel,E]at o;injection o with o;subst o;exact K,wJ⟩) O Zn Zt (λ_ h=>h.1)
  by_cases hb1:b=m+1
  .obtain⟨x,wI⟩:=Yg L m;refine ZR<|ZJ ((XQ.wrap ((m:Int)- (a:Int))==1)) false (by rw[Xe I I];simp;omega)<|ZJ ((XQ.wrap ((b:Int)- (m:Int))==1)) true (by rw[Xe I I];simp;omega)<|uj (ι:={q:Nat×Nat // (q.1<=q.2/\a<=q.1/\q.2<=m)/\(∀y,a<q.1->L[q.1-1]? =some y->ltOf Lc x y=false)/\(∀y,q.2<m->L[q.2]? =some y->ltOf Lc x y=true)}) 220 (λq=>⟨[vS 0 (some ⟨g,0,none⟩) n c,vI 2 m,vV 4 (.func (.func 359) #[] #[]),vI 14 q.1.1,vI 15 q.1.2],[]⟩) (λ_ u=>K6 u B 411 8 (some ⟨g,0,none⟩) n c (L.flatMap Lg)/\Kt W w g u) (λq=>q.1.2-q.1.1) (⟨(a,m),⟨Zn,AC _,AC _⟩,λ_ h=>absurd h (Nat.lt_irrefl _),λ_ h=>absurd h (Nat.lt_irrefl _)⟩) O Zf Zt (λu h=>J u h) ?_
   rintro⟨⟨i,j⟩,⟨q1,X,T⟩,N,wJ⟩ gg;have q1:i<=j:=q1;have X:a<=i:=X;have T:j<=m:=T;have N:∀y,a<i->L[i-1]? =some y->ltOf Lc x y=false:=N;have wJ:∀y,j<m->L[j]? =some y->ltOf Lc x y=true:=wJ
   by_cases hij:i<j
   case neg=>
    obtain rfl:i=j:=I
    have hdn:=Uo hO wI (show m<L.length by omega) X T k1 N wJ;rw[<-hb1]at hdn;refine ZR<|YN ((i:Int)<(i:Int))<|ug O<|ZR<|uj (ι:={d:Nat // d<=m-i}) 220 (λd=>⟨[vS 0 (some ⟨g,0,none⟩) n c,vI 14 i,vI 17 ((m-d.1:Nat):Int)],[]⟩) (λd u=>K6 u B 411 8 (some ⟨g,0,none⟩) n c ((Ac m d.1 L).flatMap Lg)/\Kt W w g u) (λd=>m-i-d.1) (⟨0,AK _⟩) O Zf Zt (λu h=>h) ?_
    rintro⟨d,hd⟩ gg2;have hd:d<=m-i:=hd;have hmv:=(GV (L:=L) (m:=m) (d:=d) I I).1.len
    by_cases Do:i<m-d
    case neg=>
     obtain rfl:d=m-i:=I
     refine ZR<|YN (((m- (m-i):Nat):Int)>(i:Int))<|ug O<|ZR<|ZV (.tuple #[]) (λA p h=>⟨⟨Ac m (m-i) L,hdn⟩,rfl,(Yh h).2.chg Z p,λu k1 k2=>(Yh h).1.same λb P=>k2 b (.inl P)⟩)
    obtain⟨y,E⟩:=Yg (Ac m d L) (m-d);obtain⟨z,hz⟩:=Yg (Ac m d L) (m-d-1);refine ZR<|YL (((m-d:Nat):Int)>(i:Int))<|YB 117 (((m-d:Nat):Int)-1) ((m-d-1:Nat):Int)<|YB 120 (((m-d:Nat):Int)-1) ((m-d-1:Nat):Int)<|ZB 8 (Kd 375 (.slice (some ⟨g,0,none⟩) n c) ((m-d-1:Nat):Int)) (.pointer (some ⟨g,(m-d-1)*8,none⟩)) (λA p h=>Kc (elem:=411) O O I)<|ZB 9 (Ke 411 ⟨g,(m-d-1)*8,none⟩) (.agg (Lg z).toArray) (λA p h=>Ka (vs:=Lg z) O O (Ln M7 h.1 I hz))<|ZB 12 (Kd 375 (.slice (some ⟨g,0,none⟩) n c) ((m-d:Nat):Int)) (.pointer (some ⟨g,(m-d)*8,none⟩)) (λA p h=>Kc (elem:=411) O O I)<|ZB 13 (Ke 411 ⟨g,(m-d)*8,none⟩) (.agg (Lg y).toArray) (λA p h=>Ka (vs:=Lg y) O O (Ln M7 h.1 I E))<|ZB 14 (Kd 375 (.slice (some ⟨g,0,none⟩) n c) ((m-d:Nat):Int)) (.pointer (some ⟨g,(m-d)*8,none⟩)) (λA p h=>Kc (elem:=411) O O I)<|uE (L:=[g]) (G:=λu=>K6 u B 411 8 (some ⟨g,0,none⟩) n c (((Ac m d L).set (m-d) z).flatMap Lg)) (Φ':=λu=>K6 u B 411 8 (some ⟨g,0,none⟩) n c (((Ac m d L).set (m-d) z).flatMap Lg)/\Kt W w g u) (Om 411 ⟨g,(m-d)*8,none⟩ (.agg (Lg z).toArray)) (λA p h=>K6.setE M7 h.1 I rfl O (Rp z)) (λu h=>Za ⟨hg,(h.1.blk _ (by simp[bl])).2⟩) (λwa u U R h Q=>⟨Q,h.2.left U R⟩) O O<|ZB 16 (Kd 375 (.slice (some ⟨g,0,none⟩) n c) ((m-d-1:Nat):Int)) (.pointer (some ⟨g,(m-d-1)*8,none⟩)) (λA p h=>Kc (elem:=411) O O I)<|uE (L:=[g]) (G:=λu=>K6 u B 411 8 (some ⟨g,0,none⟩) n c ((((Ac m d L).set (m-d) z).set (m-d-1) y).flatMap Lg)) (Φ':=λu=>K6 u B 411 8 (some ⟨g,0,none⟩) n c ((((Ac m d L).set (m-d) z).set (m-d-1) y).flatMap Lg)/\Kt W w g u) (Om 411 ⟨g,(m-d-1)*8,none⟩ (.agg (Lg y).toArray)) (λA p h=>K6.setE M7 h.1 Zp rfl O (Rp y)) (λu h=>Za ⟨hg,(h.1.blk _ (by simp[bl])).2⟩) (λwa u U R h Q=>⟨Q,h.2.left U R⟩) O O<|ZR ?_
    have hsw:Ac m (d+1) L=((Ac m d L).set (m-d) z).set (m-d-1) y:=by
     show Dd (Ac m d L) (m-d) (m-d-1)=_;unfold Dd;rw[E,hz]
    refine YB 17 (((m-d:Nat):Int)-1) ((m- (d+1):Nat):Int)<|ui (⟨d+1,by omega⟩) O Zn Zt (λu h=>⟨by show K6 u B _ 8 (some ⟨g,0,none⟩) n c ((Ac m (d+1) L).flatMap Lg);rw[hsw];exact h.1,h.2⟩)
   obtain⟨t,ht⟩:∃t,t=(i+j)/2:=⟨_,rfl⟩
   obtain⟨y,E⟩:=Yg L t;refine ZR<|YL ((i:Int)<(j:Int))<|uh 16 (.int .i64 (XQ.wrap (Int.fdiv (XP.wrap (XQ.wrap ((i:Int)+(j:Int)))) 2))) (.int .i64 (t:Int)) O (by rw[Lm I I,ht])<|uh 98 (.int .i64 (XQ.wrap (Int.fdiv (XP.wrap (XQ.wrap ((i:Int)+(j:Int)))) 2))) (.int .i64 (t:Int)) O (by rw[Lm I I,ht])<|ZB 3 (Kd 375 (.slice (some ⟨g,0,none⟩) n c) m) (.pointer (some ⟨g,m*8,none⟩)) (λA p h=>Kc (elem:=411) O O I)<|ZB 4 (Ke 411 ⟨g,m*8,none⟩) (.agg (Lg x).toArray) (λA p h=>Ka (vs:=Lg x) O O (Ln M7 h.1 I wI))<|ZA (Kd 375 (.slice (some ⟨g,0,none⟩) n c) t) (.pointer (some ⟨g,t*8,none⟩)) (λA p h=>Kc (elem:=411) O O I)<|ZA (Ke 411 ⟨g,t*8,none⟩) (.agg (Lg y).toArray) (λA p h=>Ka (vs:=Lg y) O O (Ln M7 h.1 I E))<|ZC (λA p h=>H A h.2.1 (h.2.old Z p) x (AE wI) y (AE E)) λu=> ?_
   cases K:decide (Lc x y<0)
   .refine ZJ (!(decide (Lc x y<0))) true (by rw[K];rfl)<|YB 14 ((t:Int)+1) ((t+1:Nat):Int)<|ui (⟨(t+1,j),⟨Zn,Zn,T⟩,λy' _ o=>by rw[Nat.add_sub_cancel,E]at o;injection o with o;subst o;exact K,wJ⟩) O Zn Zt (λ_ h=>h.1)
   .refine ZJ (!(decide (Lc x y<0))) false (by rw[K];rfl)<|ui (⟨(i,t),⟨Zn,X,Zn⟩,N,λy' _ o=>by rw[E]at o;injection o with o;subst o;exact K⟩) O Zn Zt (λ_ h=>h.1)
  obtain⟨mid,D⟩:∃mid,mid=(a+b)/2:=⟨_,rfl⟩
  refine ZR<|ZJ ((XQ.wrap ((m:Int)- (a:Int))==1)) false (by rw[Xe I I];simp;omega)<|ZJ ((XQ.wrap ((b:Int)- (m:Int))==1)) false (by rw[Xe I I];simp;omega)<|vq (ι:={q:Nat×Nat // ((a<=q.1/\q.1<=q.2)/\q.2<=m/\q.2<=mid/\mid+m<=b+q.1)/\(q.1=a\/mid+m-q.1=b)/\(q.2=m\/mid+m-q.2=m)}×(Nat->AV)) (λi c=>O9 [141,142,143,144,145,146] i.2 (Ky 22 (.int .i64 ((mid+m-1:Nat):Int)) (Ky 21 (.int .i64 (i.1.1.2:Int)) (Ky 20 (.int .i64 (i.1.1.1:Int)) (Ky 19 (.int .i64 ((mid+m:Nat):Int)) (Ky 18 (.int .i64 (mid:Int)) (Lw XM 1000 1000 (V6 true c)))))))) (λkk=> ?_) (λi=> ?_)
  .by_cases hgt:mid<m
   .exact ZJ (decide ((m:Int)>XQ.wrap (Int.fdiv (XP.wrap (XQ.wrap ((a:Int)+(b:Int)))) 2))) true (by rw[Lm I I,<-D];exact YU I)<|uh 18 (.int .i64 (XQ.wrap (Int.fdiv (XP.wrap (XQ.wrap ((a:Int)+(b:Int)))) 2))) (.int .i64 (mid:Int)) O (by rw[Lm I I,<-D])<|uh 19 (.int .i64 (XQ.wrap (XQ.wrap (Int.fdiv (XP.wrap (XQ.wrap ((a:Int)+(b:Int)))) 2)+(m:Int)))) (.int .i64 ((mid+m:Nat):Int)) O (by rw[Lm I I,<-D,Sj I I])<|uh 20 (.int .i64 (XQ.wrap (XQ.wrap (XQ.wrap (Int.fdiv (XP.wrap (XQ.wrap ((a:Int)+(b:Int)))) 2)+(m:Int))- (b:Int)))) (.int .i64 ((mid+m-b:Nat):Int)) O (by rw[Lm I I,<-D,Sj I I,Xe I I])<|uh 21 (.int .i64 (XQ.wrap (Int.fdiv (XP.wrap (XQ.wrap ((a:Int)+(b:Int)))) 2))) (.int .i64 (mid:Int)) O (by rw[Lm I I,<-D])<|uh 22 (.int .i64 (XQ.wrap (XQ.wrap (XQ.wrap (Int.fdiv (XP.wrap (XQ.wrap ((a:Int)+(b:Int)))) 2)+(m:Int))-1))) (.int .i64 ((mid+m-1:Nat):Int)) O (by rw[Lm I I,<-D,Sj I I,AL _ I];congr 1;omega)<|uC [141,142,143,144,145,146] λx=>K0.eq (kk (⟨(mid+m-b,mid),⟨⟨Zn,Zn⟩,Zn,Zn,Zn⟩,Zn,Zn⟩,x)) O
   .exact ZJ (decide ((m:Int)>XQ.wrap (Int.fdiv (XP.wrap (XQ.wrap ((a:Int)+(b:Int)))) 2))) false (by rw[Lm I I,<-D];exact YV I)<|uh 18 (.int .i64 (XQ.wrap (Int.fdiv (XP.wrap (XQ.wrap ((a:Int)+(b:Int)))) 2))) (.int .i64 (mid:Int)) O (by rw[Lm I I,<-D])<|uh 19 (.int .i64 (XQ.wrap (XQ.wrap (Int.fdiv (XP.wrap (XQ.wrap ((a:Int)+(b:Int)))) 2)+(m:Int)))) (.int .i64 ((mid+m:Nat):Int)) O (by rw[Lm I I,<-D,Sj I I])<|uh 20 (.int .i64 (a:Int)) (.int .i64 (a:Int)) O (rfl)<|uh 21 (.int .i64 (m:Int)) (.int .i64 (m:Int)) O (rfl)<|uh 22 (.int .i64 (XQ.wrap (XQ.wrap (XQ.wrap (Int.fdiv (XP.wrap (XQ.wrap ((a:Int)+(b:Int)))) 2)+(m:Int))-1))) (.int .i64 ((mid+m-1:Nat):Int)) O (by rw[Lm I I,<-D,Sj I I,AL _ I];congr 1;omega)<|uC [141,142,143,144,145,146] λx=>K0.eq (kk (⟨(a,m),⟨⟨Zn,Zn⟩,Zn,Zn,Zn⟩,Zn,Zn⟩,x)) O
  obtain⟨⟨⟨s0,r0⟩,⟨⟨f1,f2⟩,f3,f4,f5⟩,f6,f7⟩,xj⟩:=i;have f1:a<=s0:=f1;have f2:s0<=r0:=f2;have f3:r0<=m:=f3;have f4:r0<=mid:=f4;have f5:mid+m<=b+s0:=f5;have f6:s0=a\/mid+m-s0=b:=f6;have f7:r0=m\/mid+m-r0=m:=f7;refine uj (ι:={q:Nat×Nat // (q.1<=q.2/\s0<=q.1/\q.2<=r0)/\(∀x y,s0<q.1->L[q.1-1]? =some x->L[mid+m-q.1]? =some y->ltOf Lc y x=false)/\(∀x y,q.2<r0->L[mid+m-1-q.2]? =some x->L[q.2]? =some y->ltOf Lc x y=true)}) 220 (λq=>⟨[vS 0 (some ⟨g,0,none⟩) n c,vI 1 a,vI 2 m,vI 3 b,vV 4 (.func (.func 359) #[] #[]),vI 18 mid,vI 19 ((mid+m:Nat):Int),vI 20 q.1.1,vI 21 q.1.2,vI 22 ((mid+m-1:Nat):Int)],[]⟩) (λ_ u=>K6 u B 411 8 (some ⟨g,0,none⟩) n c (L.flatMap Lg)/\Kt W w g u) (λq=>q.1.2-q.1.1) (⟨(s0,r0),⟨f2,AC _,AC _⟩,λ_ _ h=>absurd h (Nat.lt_irrefl _),λ_ _ h=>absurd h (Nat.lt_irrefl _)⟩) O Zf Zt (λu h=>J u h) ?_;rintro⟨⟨s,r⟩,⟨q1,X,T⟩,N,wJ⟩ gg;have q1:s<=r:=q1;have X:s0<=s:=X;have T:r<=r0:=T;have N:∀x y,s0<s->L[s-1]? =some x->L[mid+m-s]? =some y->ltOf Lc y x=false:=N;have wJ:∀x y,r<r0->L[mid+m-1-r]? =some x->L[r]? =some y->ltOf Lc x y=true:=wJ
  by_cases hsr:s<r
  .obtain⟨t,ht⟩:∃t,t=(s+r)/2:=⟨_,rfl⟩
   obtain⟨x,wI⟩:=Yg L (mid+m-1-t);obtain⟨y,E⟩:=Yg L t;refine ZR<|YL ((s:Int)<(r:Int))<|uh 23 (.int .i64 (XQ.wrap (Int.fdiv (XP.wrap (XQ.wrap ((s:Int)+(r:Int)))) 2))) (.int .i64 (t:Int)) O (by rw[Lm I I,ht])<|uh 162 (.int .i64 (XQ.wrap (((mid+m-1:Nat):Int)-XQ.wrap (Int.fdiv (XP.wrap (XQ.wrap ((s:Int)+(r:Int)))) 2)))) (.int .i64 ((mid+m-1-t:Nat):Int)) O (by rw[Lm I I,<-ht,Xe I I])<|uh 166 (.int .i64 (XQ.wrap (Int.fdiv (XP.wrap (XQ.wrap ((s:Int)+(r:Int)))) 2))) (.int .i64 (t:Int)) O (by rw[Lm I I,ht])<|ZB 5 (Kd 375 (.slice (some ⟨g,0,none⟩) n c) ((mid+m-1-t:Nat):Int)) (.pointer (some ⟨g,(mid+m-1-t)*8,none⟩)) (λA p h=>Kc (elem:=411) O O I)<|ZB 6 (Ke 411 ⟨g,(mid+m-1-t)*8,none⟩) (.agg (Lg x).toArray) (λA p h=>Ka (vs:=Lg x) O O (Ln M7 h.1 I wI))<|ZA (Kd 375 (.slice (some ⟨g,0,none⟩) n c) t) (.pointer (some ⟨g,t*8,none⟩)) (λA p h=>Kc (elem:=411) O O I)<|ZA (Ke 411 ⟨g,t*8,none⟩) (.agg (Lg y).toArray) (λA p h=>Ka (vs:=Lg y) O O (Ln M7 h.1 I E))<|ZC (λA p h=>H A h.2.1 (h.2.old Z p) x (AE wI) y (AE E)) λu=> ?_
   cases K:decide (Lc x y<0)
   .refine ZJ (!(decide (Lc x y<0))) true (by rw[K];rfl)<|YB 20 ((t:Int)+1) ((t+1:Nat):Int)<|ui (⟨(t+1,r),⟨Zn,Zn,T⟩,λx' y' _ F o=>by rw[Nat.add_sub_cancel,E]at F;rw[show mid+m- (t+1)=mid+m-1-t by omega,wI]at o;injection F with F;injection o with o;subst F;subst o;exact K,wJ⟩) O Zn Zt (λ_ h=>h.1)
   .refine ZJ (!(decide (Lc x y<0))) false (by rw[K];rfl)<|ui (⟨(s,t),⟨Zn,X,Zn⟩,N,λx' y' _ F o=>by rw[wI]at F;rw[E]at o;injection F with F;injection o with o;subst F;subst o;exact K⟩) O Zn Zt (λ_ h=>h.1)
  obtain rfl:s=r:=I
  obtain⟨e,he⟩:∃e,e=mid+m-s:=⟨_,rfl⟩
  have hse:s+e=mid+m:=I
  have hX:∀x y,a<s->e<b->L[s-1]? =some x->L[e]? =some y->ltOf Lc y x=false:=λx y h1 h2 wI E=>N x y I wI (by rw[<-he];exact E)
  have hY:∀x y,s<m->m<e->L[e-1]? =some x->L[s]? =some y->ltOf Lc y x=false:=λx y h1 h2 wI E=>G5 hO (wJ x y I (by rw[show mid+m-1-s=e-1 by omega];exact wI) E)
  have hem:s+(e-m)=mid:=I
  have l:a<=s/\s<=m/\m<=e/\e<=b:=I
  refine ZR<|YN ((s:Int)<(s:Int))<|ug O<|ZS 3<|uh 177 (.int .i64 (XQ.wrap (((mid+m:Nat):Int)- (s:Int)))) (.int .i64 (e:Int)) O (by rw[Xe I I,he])<|uo O (stop:=1000) 1 _<|ZS 3<|vp (ι:={M:List Oi // I_ s m e L M}×(Nat->AV)) (λi c=>O9 [180,181,182,183,184,185,186,187,188,189,190,191] i.2 (Lw XM 3 1000 (V6 false (Lw XM 1000 1000 (Ky 180 (.bool false) c))))) (λi u=>K6 u B 411 8 (some ⟨g,0,none⟩) n c (i.1.1.flatMap Lg)/\Kt W w g u) (λkk=> ?_) (λi=> ?_)
  .by_cases c1:s<m
   .refine YE 180 ((s:Int)<(m:Int)) I ?_
    by_cases c2:m<e
    .refine YL ((m:Int)<(e:Int)) ?_;have Y:L=L.take s++((L.drop s).take (m-s)++((L.drop m).take (e-m)++L.drop e)):=by
      conv=>lhs;rw[<-AF s L,<-AF (m-s) (L.drop s),List.drop_drop,show s+(m-s)=m by omega,<-AF (e-m) (L.drop m),List.drop_drop,show m+(e-m)=e by omega]
     have l1:(L.take s).length=s:=by rw[AI];omega
     have l2:((L.drop s).take (m-s)).length=m-s:=by rw[AI,AZ];omega
     have l3:((L.drop m).take (e-m)).length=e-m:=by rw[AI,AZ];omega
     have hrot:=VD (s:=s) (m:=m) (e:=e) (S:=L.drop e) l1 (show s+((L.drop s).take (m-s)).length=m by omega) (show m+((L.drop m).take (e-m)).length=e by omega);rw[<-Y]at hrot;generalize hM:L.take s++((L.drop m).take (e-m)++((L.drop s).take (m-s)++L.drop e))=M at hrot;refine uD (L:=[g]) (val:=λ_:Unit=> .tuple #[]) (G:=λ_ u=>K6 u B 411 8 (some ⟨g,0,none⟩) n c (M.flatMap Lg)) (Φ':=λ_ u=>K6 u B 411 8 (some ⟨g,0,none⟩) n c (M.flatMap Lg)/\Kt W w g u) (λA p h=>by
      have h1:=h.1;rw[Y]at h1;have h2:=n9 (f:= .func (.func 359) #[] #[]) (a:=s) (m:=m) (b:=e) p hg h1 (by rw[<-Y];exact hln) hn l1 I I I I;rw[hM]at h2;exact h2) (λu h=>Za ⟨hg,(h.1.blk _ (by simp[bl])).2⟩) (λ_ wa u U R h Q=>⟨Q,h.2.left U R⟩) O O (λ_=> ?_)
     exact ZS 3<|uC [180,181,182,183,184,185,186,187,188,189,190,191] λx=>K0.eq (kk (⟨M,hrot⟩,x)) O
    .exact ul (decide ((m:Int)<(e:Int))) false O (YV I)<|ZS 3<|uC [180,181,182,183,184,185,186,187,188,189,190,191] λx=>K0.eq (kk (⟨L,Bw (.inr I) l.2.1 l.2.2.1⟩,x)) O
   .exact YG 180 ((s:Int)<(m:Int)) I<|uu false O<|ZS 3<|uC [180,181,182,183,184,185,186,187,188,189,190,191] λx=>K0.eq (kk (⟨L,Bw (.inl I) l.2.1 l.2.2.1⟩,x)) O
  obtain⟨⟨L1,hr⟩,x1⟩:=i;have hl1:=hr.pr.len;refine vp (ι:={M:List Oi // PR a mid L1 M/\P8 (ltOf Lc) a mid M}×(Nat->AV)) (λi c=>O9 [194,195,196,197,198,199,200,201,202,203,204,205] i.2 (Lw XM 3 1000 (V6 false (Lw XM 1000 1000 (Ky 194 (.bool false) c))))) (λi u=>K6 u B 411 8 (some ⟨g,0,none⟩) n c (i.1.1.flatMap Lg)/\Kt W w g u) (λkk=> ?_) (λi=> ?_)
  .by_cases c1:a<s
   .refine YE 194 ((a:Int)<(s:Int)) I ?_
    by_cases c2:s<mid
    .exact YL ((s:Int)<(mid:Int))<|uD (L:=[g]) (val:=λ_:{M:List Oi // PR a mid L1 M/\P8 (ltOf Lc) a mid M}=> .tuple #[]) (G:=λM u=>K6 u B 411 8 (some ⟨g,0,none⟩) n c (M.1.flatMap Lg)) (Φ':=λM u=>K6 u B 411 8 (some ⟨g,0,none⟩) n c (M.1.flatMap Lg)/\Kt W w g u) (λA p h=>OR k I p hg h.1 I hn c1 c2 I (IU (mid:=mid) l.1 l.2.1 k1 hr) (by have:=G_ l.2.2.1 l.2.2.2 k2 hr;rw[hem]at this;exact this) (H.to hr.pr.perm h.2.1 (h.2.old Z p))) (λu h=>Za ⟨hg,(h.1.blk _ (by simp[bl])).2⟩) (λ_ wa u U R h Q=>⟨Q,h.2.left U R⟩) O O λM=>ZS 3<|uC [194,195,196,197,198,199,200,201,202,203,204,205] λx=>K0.eq (kk (M,x)) O
    .exact ul (decide ((s:Int)<(mid:Int))) false O (YV I)<|ZS 3<|uC [194,195,196,197,198,199,200,201,202,203,204,205] λx=>K0.eq (kk (⟨L1,.rfl',by rw[<-hem,show s+(e-m)=s by omega];exact IU (mid:=mid) l.1 l.2.1 k1 hr⟩,x)) O
   .exact YG 194 ((a:Int)<(s:Int)) I<|uu false O<|ZS 3<|uC [194,195,196,197,198,199,200,201,202,203,204,205] λx=>K0.eq (kk (⟨L1,.rfl',by have:=G_ l.2.2.1 l.2.2.2 k2 hr;rw[hem,show s=a by omega]at this;exact this⟩,x)) O
  obtain⟨⟨L2,hp,hps⟩,x2⟩:=i;have hl2:=hp.len;have t3:P8 (ltOf Lc) mid e L2:=by have:=fx l.1 l.2.1 l.2.2.1 k1 hr;rw[hem]at this;exact this.same λi u v=>hp.out i (.inr u)
  have t4:P8 (ltOf Lc) e b L2:=(ct l.2.2.1 k2 hr).same λi u v=>hp.out i (.inr I)
  have fin:∀L3:List Oi,PR mid b L2 L3->P8 (ltOf Lc) mid b L3->PR a b L L3/\P8 (ltOf Lc) a b L3:=λL3 u v=>a6 hO I l.1 l.2.1 l.2.2.1 l.2.2.2 hse k1 k2 hr hp hps u v hX hY
  by_cases c1:mid<e
  .refine YE 208 ((mid:Int)<(e:Int)) I ?_
   by_cases c2:e<b
   .refine YL ((e:Int)<(b:Int))<|uD (L:=[g]) (val:=λ_:{M:List Oi // PR mid b L2 M/\P8 (ltOf Lc) mid b M}=> .tuple #[]) (G:=λM u=>K6 u B 411 8 (some ⟨g,0,none⟩) n c (M.1.flatMap Lg)) (Φ':=λM u=>K6 u B 411 8 (some ⟨g,0,none⟩) n c (M.1.flatMap Lg)/\Kt W w g u) (λA p h=>OR k I p hg h.1 I hn c1 c2 hbn t3 t4 (H.to (hp.perm.trans hr.pr.perm) h.2.1 (h.2.old Z p))) (λu h=>Za ⟨hg,(h.1.blk _ (by simp[bl])).2⟩) (λ_ wa u U R h Q=>⟨Q,h.2.left U R⟩) O O λM=>ZR<|ZV (.tuple #[]) (λA p h=>⟨⟨M.1,fin M.1 M.2.1 M.2.2⟩,rfl,(Yh h).2.chg Z p,λu k1 k2=>(Yh h).1.same λb P=>k2 b (.inl P)⟩)
   .refine YN ((e:Int)<(b:Int))<|ZV (.tuple #[]) (λA p h=>⟨⟨L2,fin L2 .rfl' (by rw[show b=e by omega];exact t3)⟩,rfl,(Yh h).2.chg Z p,λu k1 k2=>(Yh h).1.same λb P=>k2 b (.inl P)⟩)
  .refine YG 208 ((mid:Int)<(e:Int)) I<|ZI false<|ZV (.tuple #[]) (λA p h=>⟨⟨L2,fin L2 .rfl' (by rw[show mid=e by omega];exact t4)⟩,rfl,(Yh h).2.chg Z p,λu k1 k2=>(Yh h).1.same λb P=>k2 b (.inl P)⟩)
theorem PP:∀(k:Nat) {a m b:Nat} {L:List Qg} {w W:YM},b-a<=k->Below W.heap.size W w->W.heap.size<=g->K6 w B 415 5 (some ⟨g,0,none⟩) n c (L.flatMap Mb)->L.length=n->n<=1000000000->a<m->m<b->b<=n->P8 (ltOf Ld) a m L->P8 (ltOf Ld) m b L->Z0 Mb 362 Ld L g w->
 Ca 413 #[.slice (some ⟨g,0,none⟩) n c,.int .i64 a,.int .i64 m,.int .i64 b,.func (.func 362) #[] #[]] w (L4 w [g] (λ_:{M:List Qg // PR a b L M/\P8 (ltOf Ld) a b M}=> .tuple #[]) λM u=>K6 u B 415 5 (some ⟨g,0,none⟩) n c (M.1.flatMap Mb))
 |0,a,m,b,L,w,W,hk,_,_,_,_,_,h1,h2,_,_,_,_=>by omega
 | k +1,a,m,b,L,w,W,hk,Z,hg,ho,hln,hn,ham,hmb,hbn,k1,k2,H=>by
  have hgl:=(ho.lt g (by simp[bl])).2;have hO:=gM;have J:∀u:YM,(w.heap.size<=u.heap.size/\∀b,W.heap.size<=b->b<w.heap.size->u.heap[b]? =w.heap[b]?)->K6 u B 415 5 (some ⟨g,0,none⟩) n c (L.flatMap Mb)/\Kt W w g u:=λu h=>⟨ho.same λb P=>(by have P:=AB.1 P;subst P;exact h.2 _ hg hgl),h.1,λb h1 h2 _=>h.2 b h1 h2⟩
  refine uB func413 rfl Z ?_
  by_cases hm1:m=a+1
  .obtain⟨x,wI⟩:=Yg L a;refine ZR<|ZJ ((XQ.wrap ((m:Int)- (a:Int))==1)) true (by rw[Xe I I];simp;omega)<|uj (ι:={q:Nat×Nat // (q.1<=q.2/\m<=q.1/\q.2<=b)/\(∀y,m<q.1->L[q.1-1]? =some y->ltOf Ld y x=true)/\(∀y,q.2<b->L[q.2]? =some y->ltOf Ld y x=false)}) 220 (λq=>⟨[vS 0 (some ⟨g,0,none⟩) n c,vI 1 a,vV 4 (.func (.func 362) #[] #[]),vI 10 q.1.1,vI 11 q.1.2],[]⟩) (λ_ u=>K6 u B 415 5 (some ⟨g,0,none⟩) n c (L.flatMap Mb)/\Kt W w g u) (λq=>q.1.2-q.1.1) (⟨(m,b),⟨Zn,AC _,AC _⟩,λ_ h=>absurd h (Nat.lt_irrefl _),λ_ h=>absurd h (Nat.lt_irrefl _)⟩) O Zf Zt (λu h=>J u h) ?_
   rintro⟨⟨i,j⟩,⟨q1,X,T⟩,N,wJ⟩ gg;have q1:i<=j:=q1;have X:m<=i:=X;have T:j<=b:=T;have N:∀y,m<i->L[i-1]? =some y->ltOf Ld y x=true:=N;have wJ:∀y,j<b->L[j]? =some y->ltOf Ld y x=false:=wJ
   by_cases hij:i<j
   case neg=>
    obtain rfl:i=j:=I
    have hup:=me hO wI (show b<=L.length by omega) (show a<i by omega) T (by rw[<-hm1];exact k2) (by rw[<-hm1];exact N) wJ;refine ZR<|YN ((i:Int)<(i:Int))<|ug O<|ZR<|uj (ι:={d:Nat // d<=i-1-a}) 220 (λd=>⟨[vS 0 (some ⟨g,0,none⟩) n c,vI 10 i,vI 13 ((a+d.1:Nat):Int)],[]⟩) (λd u=>K6 u B 415 5 (some ⟨g,0,none⟩) n c ((Ab a d.1 L).flatMap Mb)/\Kt W w g u) (λd=>i-1-a-d.1) (⟨0,AK _⟩) O Zf Zt (λu h=>h) ?_
    rintro⟨d,hd⟩ gg2;have hd:d<=i-1-a:=hd;have hmv:=(JC (L:=L) (a:=a) (d:=d) I).1.len
    by_cases Do:a+d<i-1
    case neg=>
     obtain rfl:d=i-1-a:=I
     refine ZR<|YK (((a+(i-1-a):Nat):Int)<XQ.wrap ((i:Int)-1)) (by rw[AL _ I];omega)<|ug O<|ZR<|ZV (.tuple #[]) (λA p h=>⟨⟨Ab a (i-1-a) L,hup⟩,rfl,(Yh h).2.chg Z p,λu k1 k2=>(Yh h).1.same λb P=>k2 b (.inl P)⟩)
    obtain⟨y,E⟩:=Yg (Ab a d L) (a+d);obtain⟨z,hz⟩:=Yg (Ab a d L) (a+d+1);refine ZR<|YJ (((a+d:Nat):Int)<XQ.wrap ((i:Int)-1)) (by rw[AL _ I];omega)<|YB 65 (((a+d:Nat):Int)+1) ((a+d+1:Nat):Int)<|YB 68 (((a+d:Nat):Int)+1) ((a+d+1:Nat):Int)<|ZB 8 (Kd 412 (.slice (some ⟨g,0,none⟩) n c) ((a+d+1:Nat):Int)) (.pointer (some ⟨g,(a+d+1)*5,none⟩)) (λA p h=>Kc (elem:=415) O O I)<|ZB 9 (Ke 415 ⟨g,(a+d+1)*5,none⟩) (.agg (Mb z).toArray) (λA p h=>Ka (vs:=Mb z) O O (Ln Mx h.1 I hz))<|ZB 12 (Kd 412 (.slice (some ⟨g,0,none⟩) n c) ((a+d:Nat):Int)) (.pointer (some ⟨g,(a+d)*5,none⟩)) (λA p h=>Kc (elem:=415) O O I)<|ZB 13 (Ke 415 ⟨g,(a+d)*5,none⟩) (.agg (Mb y).toArray) (λA p h=>Ka (vs:=Mb y) O O (Ln Mx h.1 I E))<|ZB 14 (Kd 412 (.slice (some ⟨g,0,none⟩) n c) ((a+d:Nat):Int)) (.pointer (some ⟨g,(a+d)*5,none⟩)) (λA p h=>Kc (elem:=415) O O I)<|uE (L:=[g]) (G:=λu=>K6 u B 415 5 (some ⟨g,0,none⟩) n c (((Ab a d L).set (a+d) z).flatMap Mb)) (Φ':=λu=>K6 u B 415 5 (some ⟨g,0,none⟩) n c (((Ab a d L).set (a+d) z).flatMap Mb)/\Kt W w g u) (Om 415 ⟨g,(a+d)*5,none⟩ (.agg (Mb z).toArray)) (λA p h=>K6.setE Mx h.1 I rfl O (Tr z)) (λu h=>Za ⟨hg,(h.1.blk _ (by simp[bl])).2⟩) (λwa u U R h Q=>⟨Q,h.2.left U R⟩) O O<|ZB 16 (Kd 412 (.slice (some ⟨g,0,none⟩) n c) ((a+d+1:Nat):Int)) (.pointer (some ⟨g,(a+d+1)*5,none⟩)) (λA p h=>Kc (elem:=415) O O I)<|uE (L:=[g]) (G:=λu=>K6 u B 415 5 (some ⟨g,0,none⟩) n c ((((Ab a d L).set (a+d) z).set (a+d+1) y).flatMap Mb)) (Φ':=λu=>K6 u B 415 5 (some ⟨g,0,none⟩) n c ((((Ab a d L).set (a+d) z).set (a+d+1) y).flatMap Mb)/\Kt W w g u) (Om 415 ⟨g,(a+d+1)*5,none⟩ (.agg (Mb y).toArray)) (λA p h=>K6.setE Mx h.1 Zp rfl O (Tr y)) (λu h=>Za ⟨hg,(h.1.blk _ (by simp[bl])).2⟩) (λwa u U R h Q=>⟨Q,h.2.left U R⟩) O O<|ZR ?_
    have hsw:Ab a (d+1) L=((Ab a d L).set (a+d) z).set (a+d+1) y:=by
     show Dd (Ab a d L) (a+d) (a+d+1)=_;unfold Dd;rw[E,hz]
    refine YB 13 (((a+d:Nat):Int)+1) ((a+(d+1):Nat):Int)<|ui (⟨d+1,by omega⟩) O Zn Zt (λu h=>⟨by show K6 u B _ 5 _ n c ((Ab a (d+1) L).flatMap Mb);rw[hsw];exact h.1,h.2⟩)
   obtain⟨t,ht⟩:∃t,t=(i+j)/2:=⟨_,rfl⟩
   obtain⟨y,E⟩:=Yg L t;refine ZR<|YL ((i:Int)<(j:Int))<|uh 12 (.int .i64 (XQ.wrap (Int.fdiv (XP.wrap (XQ.wrap ((i:Int)+(j:Int)))) 2))) (.int .i64 (t:Int)) O (by rw[Lm I I,ht])<|uh 42 (.int .i64 (XQ.wrap (Int.fdiv (XP.wrap (XQ.wrap ((i:Int)+(j:Int)))) 2))) (.int .i64 (t:Int)) O (by rw[Lm I I,ht])<|ZB 3 (Kd 412 (.slice (some ⟨g,0,none⟩) n c) t) (.pointer (some ⟨g,t*5,none⟩)) (λA p h=>Kc (elem:=415) O O I)<|ZB 4 (Ke 415 ⟨g,t*5,none⟩) (.agg (Mb y).toArray) (λA p h=>Ka (vs:=Mb y) O O (Ln Mx h.1 I E))<|ZA (Kd 412 (.slice (some ⟨g,0,none⟩) n c) a) (.pointer (some ⟨g,a*5,none⟩)) (λA p h=>Kc (elem:=415) O O I)<|ZA (Ke 415 ⟨g,a*5,none⟩) (.agg (Mb x).toArray) (λA p h=>Ka (vs:=Mb x) O O (Ln Mx h.1 I wI))<|ZC (λA p h=>H A h.2.1 (h.2.old Z p) y (AE E) x (AE wI)) λu=> ?_
   cases K:decide (Ld y x<0)
   .refine ZJ (decide (Ld y x<0)) false (K)<|ui (⟨(i,t),⟨Zn,X,Zn⟩,N,λy' _ o=>by rw[E]at o;injection o with o;subst o;exact K⟩) O Zn Zt (λ_ h=>h.1)
   .refine ZJ (decide (Ld y x<0)) true (K)<|YB 10 ((t:Int)+1) ((t+1:Nat):Int)<|ui (⟨(t+1,j),⟨Zn,Zn,T⟩,λy' _ o=>by rw[Nat.add_sub_cancel,E]at o;injection o with o;subst o;exact K,wJ⟩) O Zn Zt (λ_ h=>h.1)
  by_cases hb1:b=m+1
  .obtain⟨x,wI⟩:=Yg L m;refine ZR<|ZJ ((XQ.wrap ((m:Int)- (a:Int))==1)) false (by rw[Xe I I];simp;omega)<|ZJ ((XQ.wrap ((b:Int)- (m:Int))==1)) true (by rw[Xe I I];simp;omega)<|uj (ι:={q:Nat×Nat // (q.1<=q.2/\a<=q.1/\q.2<=m)/\(∀y,a<q.1->L[q.1-1]? =some y->ltOf Ld x y=false)/\(∀y,q.2<m->L[q.2]? =some y->ltOf Ld x y=true)}) 220 (λq=>⟨[vS 0 (some ⟨g,0,none⟩) n c,vI 2 m,vV 4 (.func (.func 362) #[] #[]),vI 14 q.1.1,vI 15 q.1.2],[]⟩) (λ_ u=>K6 u B 415 5 (some ⟨g,0,none⟩) n c (L.flatMap Mb)/\Kt W w g u) (λq=>q.1.2-q.1.1) (⟨(a,m),⟨Zn,AC _,AC _⟩,λ_ h=>absurd h (Nat.lt_irrefl _),λ_ h=>absurd h (Nat.lt_irrefl _)⟩) O Zf Zt (λu h=>J u h) ?_
   rintro⟨⟨i,j⟩,⟨q1,X,T⟩,N,wJ⟩ gg;have q1:i<=j:=q1;have X:a<=i:=X;have T:j<=m:=T;have N:∀y,a<i->L[i-1]? =some y->ltOf Ld x y=false:=N;have wJ:∀y,j<m->L[j]? =some y->ltOf Ld x y=true:=wJ
   by_cases hij:i<j
   case neg=>
    obtain rfl:i=j:=I
    have hdn:=Uo hO wI (show m<L.length by omega) X T k1 N wJ;rw[<-hb1]at hdn;refine ZR<|YN ((i:Int)<(i:Int))<|ug O<|ZR<|uj (ι:={d:Nat // d<=m-i}) 220 (λd=>⟨[vS 0 (some ⟨g,0,none⟩) n c,vI 14 i,vI 17 ((m-d.1:Nat):Int)],[]⟩) (λd u=>K6 u B 415 5 (some ⟨g,0,none⟩) n c ((Ac m d.1 L).flatMap Mb)/\Kt W w g u) (λd=>m-i-d.1) (⟨0,AK _⟩) O Zf Zt (λu h=>h) ?_
    rintro⟨d,hd⟩ gg2;have hd:d<=m-i:=hd;have hmv:=(GV (L:=L) (m:=m) (d:=d) I I).1.len
    by_cases Do:i<m-d
    case neg=>
     obtain rfl:d=m-i:=I
     refine ZR<|YN (((m- (m-i):Nat):Int)>(i:Int))<|ug O<|ZR<|ZV (.tuple #[]) (λA p h=>⟨⟨Ac m (m-i) L,hdn⟩,rfl,(Yh h).2.chg Z p,λu k1 k2=>(Yh h).1.same λb P=>k2 b (.inl P)⟩)
    obtain⟨y,E⟩:=Yg (Ac m d L) (m-d);obtain⟨z,hz⟩:=Yg (Ac m d L) (m-d-1);refine ZR<|YL (((m-d:Nat):Int)>(i:Int))<|YB 117 (((m-d:Nat):Int)-1) ((m-d-1:Nat):Int)<|YB 120 (((m-d:Nat):Int)-1) ((m-d-1:Nat):Int)<|ZB 8 (Kd 412 (.slice (some ⟨g,0,none⟩) n c) ((m-d-1:Nat):Int)) (.pointer (some ⟨g,(m-d-1)*5,none⟩)) (λA p h=>Kc (elem:=415) O O I)<|ZB 9 (Ke 415 ⟨g,(m-d-1)*5,none⟩) (.agg (Mb z).toArray) (λA p h=>Ka (vs:=Mb z) O O (Ln Mx h.1 I hz))<|ZB 12 (Kd 412 (.slice (some ⟨g,0,none⟩) n c) ((m-d:Nat):Int)) (.pointer (some ⟨g,(m-d)*5,none⟩)) (λA p h=>Kc (elem:=415) O O I)<|ZB 13 (Ke 415 ⟨g,(m-d)*5,none⟩) (.agg (Mb y).toArray) (λA p h=>Ka (vs:=Mb y) O O (Ln Mx h.1 I E))<|ZB 14 (Kd 412 (.slice (some ⟨g,0,none⟩) n c) ((m-d:Nat):Int)) (.pointer (some ⟨g,(m-d)*5,none⟩)) (λA p h=>Kc (elem:=415) O O I)<|uE (L:=[g]) (G:=λu=>K6 u B 415 5 (some ⟨g,0,none⟩) n c (((Ac m d L).set (m-d) z).flatMap Mb)) (Φ':=λu=>K6 u B 415 5 (some ⟨g,0,none⟩) n c (((Ac m d L).set (m-d) z).flatMap Mb)/\Kt W w g u) (Om 415 ⟨g,(m-d)*5,none⟩ (.agg (Mb z).toArray)) (λA p h=>K6.setE Mx h.1 I rfl O (Tr z)) (λu h=>Za ⟨hg,(h.1.blk _ (by simp[bl])).2⟩) (λwa u U R h Q=>⟨Q,h.2.left U R⟩) O O<|ZB 16 (Kd 412 (.slice (some ⟨g,0,none⟩) n c) ((m-d-1:Nat):Int)) (.pointer (some ⟨g,(m-d-1)*5,none⟩)) (λA p h=>Kc (elem:=415) O O I)<|uE (L:=[g]) (G:=λu=>K6 u B 415 5 (some ⟨g,0,none⟩) n c ((((Ac m d L).set (m-d) z).set (m-d-1) y).flatMap Mb)) (Φ':=λu=>K6 u B 415 5 (some ⟨g,0,none⟩) n c ((((Ac m d L).set (m-d) z).set (m-d-1) y).flatMap Mb)/\Kt W w g u) (Om 415 ⟨g,(m-d-1)*5,none⟩ (.agg (Mb y).toArray)) (λA p h=>K6.setE Mx h.1 Zp rfl O (Tr y)) (λu h=>Za ⟨hg,(h.1.blk _ (by simp[bl])).2⟩) (λwa u U R h Q=>⟨Q,h.2.left U R⟩) O O<|ZR ?_
    have hsw:Ac m (d+1) L=((Ac m d L).set (m-d) z).set (m-d-1) y:=by
     show Dd (Ac m d L) (m-d) (m-d-1)=_;unfold Dd;rw[E,hz]
    refine YB 17 (((m-d:Nat):Int)-1) ((m- (d+1):Nat):Int)<|ui (⟨d+1,by omega⟩) O Zn Zt (λu h=>⟨by show K6 u B _ 5 (some ⟨g,0,none⟩) n c ((Ac m (d+1) L).flatMap Mb);rw[hsw];exact h.1,h.2⟩)
   obtain⟨t,ht⟩:∃t,t=(i+j)/2:=⟨_,rfl⟩
   obtain⟨y,E⟩:=Yg L t;refine ZR<|YL ((i:Int)<(j:Int))<|uh 16 (.int .i64 (XQ.wrap (Int.fdiv (XP.wrap (XQ.wrap ((i:Int)+(j:Int)))) 2))) (.int .i64 (t:Int)) O (by rw[Lm I I,ht])<|uh 98 (.int .i64 (XQ.wrap (Int.fdiv (XP.wrap (XQ.wrap ((i:Int)+(j:Int)))) 2))) (.int .i64 (t:Int)) O (by rw[Lm I I,ht])<|ZB 3 (Kd 412 (.slice (some ⟨g,0,none⟩) n c) m) (.pointer (some ⟨g,m*5,none⟩)) (λA p h=>Kc (elem:=415) O O I)<|ZB 4 (Ke 415 ⟨g,m*5,none⟩) (.agg (Mb x).toArray) (λA p h=>Ka (vs:=Mb x) O O (Ln Mx h.1 I wI))<|ZA (Kd 412 (.slice (some ⟨g,0,none⟩) n c) t) (.pointer (some ⟨g,t*5,none⟩)) (λA p h=>Kc (elem:=415) O O I)<|ZA (Ke 415 ⟨g,t*5,none⟩) (.agg (Mb y).toArray) (λA p h=>Ka (vs:=Mb y) O O (Ln Mx h.1 I E))<|ZC (λA p h=>H A h.2.1 (h.2.old Z p) x (AE wI) y (AE E)) λu=> ?_
   cases K:decide (Ld x y<0)
   .refine ZJ (!(decide (Ld x y<0))) true (by rw[K];rfl)<|YB 14 ((t:Int)+1) ((t+1:Nat):Int)<|ui (⟨(t+1,j),⟨Zn,Zn,T⟩,λy' _ o=>by rw[Nat.add_sub_cancel,E]at o;injection o with o;subst o;exact K,wJ⟩) O Zn Zt (λ_ h=>h.1)
   .refine ZJ (!(decide (Ld x y<0))) false (by rw[K];rfl)<|ui (⟨(i,t),⟨Zn,X,Zn⟩,N,λy' _ o=>by rw[E]at o;injection o with o;subst o;exact K⟩) O Zn Zt (λ_ h=>h.1)
  obtain⟨mid,D⟩:∃mid,mid=(a+b)/2:=⟨_,rfl⟩
  refine ZR<|ZJ ((XQ.wrap ((m:Int)- (a:Int))==1)) false (by rw[Xe I I];simp;omega)<|ZJ ((XQ.wrap ((b:Int)- (m:Int))==1)) false (by rw[Xe I I];simp;omega)<|vq (ι:={q:Nat×Nat // ((a<=q.1/\q.1<=q.2)/\q.2<=m/\q.2<=mid/\mid+m<=b+q.1)/\(q.1=a\/mid+m-q.1=b)/\(q.2=m\/mid+m-q.2=m)}×(Nat->AV)) (λi c=>O9 [141,142,143,144,145,146] i.2 (Ky 22 (.int .i64 ((mid+m-1:Nat):Int)) (Ky 21 (.int .i64 (i.1.1.2:Int)) (Ky 20 (.int .i64 (i.1.1.1:Int)) (Ky 19 (.int .i64 ((mid+m:Nat):Int)) (Ky 18 (.int .i64 (mid:Int)) (Lw XM 1000 1000 (V6 true c)))))))) (λkk=> ?_) (λi=> ?_)
  .by_cases hgt:mid<m
   .exact ZJ (decide ((m:Int)>XQ.wrap (Int.fdiv (XP.wrap (XQ.wrap ((a:Int)+(b:Int)))) 2))) true (by rw[Lm I I,<-D];exact YU I)<|uh 18 (.int .i64 (XQ.wrap (Int.fdiv (XP.wrap (XQ.wrap ((a:Int)+(b:Int)))) 2))) (.int .i64 (mid:Int)) O (by rw[Lm I I,<-D])<|uh 19 (.int .i64 (XQ.wrap (XQ.wrap (Int.fdiv (XP.wrap (XQ.wrap ((a:Int)+(b:Int)))) 2)+(m:Int)))) (.int .i64 ((mid+m:Nat):Int)) O (by rw[Lm I I,<-D,Sj I I])<|uh 20 (.int .i64 (XQ.wrap (XQ.wrap (XQ.wrap (Int.fdiv (XP.wrap (XQ.wrap ((a:Int)+(b:Int)))) 2)+(m:Int))- (b:Int)))) (.int .i64 ((mid+m-b:Nat):Int)) O (by rw[Lm I I,<-D,Sj I I,Xe I I])<|uh 21 (.int .i64 (XQ.wrap (Int.fdiv (XP.wrap (XQ.wrap ((a:Int)+(b:Int)))) 2))) (.int .i64 (mid:Int)) O (by rw[Lm I I,<-D])<|uh 22 (.int .i64 (XQ.wrap (XQ.wrap (XQ.wrap (Int.fdiv (XP.wrap (XQ.wrap ((a:Int)+(b:Int)))) 2)+(m:Int))-1))) (.int .i64 ((mid+m-1:Nat):Int)) O (by rw[Lm I I,<-D,Sj I I,AL _ I];congr 1;omega)<|uC [141,142,143,144,145,146] λx=>K0.eq (kk (⟨(mid+m-b,mid),⟨⟨Zn,Zn⟩,Zn,Zn,Zn⟩,Zn,Zn⟩,x)) O
   .exact ZJ (decide ((m:Int)>XQ.wrap (Int.fdiv (XP.wrap (XQ.wrap ((a:Int)+(b:Int)))) 2))) false (by rw[Lm I I,<-D];exact YV I)<|uh 18 (.int .i64 (XQ.wrap (Int.fdiv (XP.wrap (XQ.wrap ((a:Int)+(b:Int)))) 2))) (.int .i64 (mid:Int)) O (by rw[Lm I I,<-D])<|uh 19 (.int .i64 (XQ.wrap (XQ.wrap (Int.fdiv (XP.wrap (XQ.wrap ((a:Int)+(b:Int)))) 2)+(m:Int)))) (.int .i64 ((mid+m:Nat):Int)) O (by rw[Lm I I,<-D,Sj I I])<|uh 20 (.int .i64 (a:Int)) (.int .i64 (a:Int)) O (rfl)<|uh 21 (.int .i64 (m:Int)) (.int .i64 (m:Int)) O (rfl)<|uh 22 (.int .i64 (XQ.wrap (XQ.wrap (XQ.wrap (Int.fdiv (XP.wrap (XQ.wrap ((a:Int)+(b:Int)))) 2)+(m:Int))-1))) (.int .i64 ((mid+m-1:Nat):Int)) O (by rw[Lm I I,<-D,Sj I I,AL _ I];congr 1;omega)<|uC [141,142,143,144,145,146] λx=>K0.eq (kk (⟨(a,m),⟨⟨Zn,Zn⟩,Zn,Zn,Zn⟩,Zn,Zn⟩,x)) O
  obtain⟨⟨⟨s0,r0⟩,⟨⟨f1,f2⟩,f3,f4,f5⟩,f6,f7⟩,xj⟩:=i;have f1:a<=s0:=f1;have f2:s0<=r0:=f2;have f3:r0<=m:=f3;have f4:r0<=mid:=f4;have f5:mid+m<=b+s0:=f5;have f6:s0=a\/mid+m-s0=b:=f6;have f7:r0=m\/mid+m-r0=m:=f7;refine uj (ι:={q:Nat×Nat // (q.1<=q.2/\s0<=q.1/\q.2<=r0)/\(∀x y,s0<q.1->L[q.1-1]? =some x->L[mid+m-q.1]? =some y->ltOf Ld y x=false)/\(∀x y,q.2<r0->L[mid+m-1-q.2]? =some x->L[q.2]? =some y->ltOf Ld x y=true)}) 220 (λq=>⟨[vS 0 (some ⟨g,0,none⟩) n c,vI 1 a,vI 2 m,vI 3 b,vV 4 (.func (.func 362) #[] #[]),vI 18 mid,vI 19 ((mid+m:Nat):Int),vI 20 q.1.1,vI 21 q.1.2,vI 22 ((mid+m-1:Nat):Int)],[]⟩) (λ_ u=>K6 u B 415 5 (some ⟨g,0,none⟩) n c (L.flatMap Mb)/\Kt W w g u) (λq=>q.1.2-q.1.1) (⟨(s0,r0),⟨f2,AC _,AC _⟩,λ_ _ h=>absurd h (Nat.lt_irrefl _),λ_ _ h=>absurd h (Nat.lt_irrefl _)⟩) O Zf Zt (λu h=>J u h) ?_;rintro⟨⟨s,r⟩,⟨q1,X,T⟩,N,wJ⟩ gg;have q1:s<=r:=q1;have X:s0<=s:=X;have T:r<=r0:=T;have N:∀x y,s0<s->L[s-1]? =some x->L[mid+m-s]? =some y->ltOf Ld y x=false:=N;have wJ:∀x y,r<r0->L[mid+m-1-r]? =some x->L[r]? =some y->ltOf Ld x y=true:=wJ
  by_cases hsr:s<r
  .obtain⟨t,ht⟩:∃t,t=(s+r)/2:=⟨_,rfl⟩
   obtain⟨x,wI⟩:=Yg L (mid+m-1-t);obtain⟨y,E⟩:=Yg L t;refine ZR<|YL ((s:Int)<(r:Int))<|uh 23 (.int .i64 (XQ.wrap (Int.fdiv (XP.wrap (XQ.wrap ((s:Int)+(r:Int)))) 2))) (.int .i64 (t:Int)) O (by rw[Lm I I,ht])<|uh 162 (.int .i64 (XQ.wrap (((mid+m-1:Nat):Int)-XQ.wrap (Int.fdiv (XP.wrap (XQ.wrap ((s:Int)+(r:Int)))) 2)))) (.int .i64 ((mid+m-1-t:Nat):Int)) O (by rw[Lm I I,<-ht,Xe I I])<|uh 166 (.int .i64 (XQ.wrap (Int.fdiv (XP.wrap (XQ.wrap ((s:Int)+(r:Int)))) 2))) (.int .i64 (t:Int)) O (by rw[Lm I I,ht])<|ZB 5 (Kd 412 (.slice (some ⟨g,0,none⟩) n c) ((mid+m-1-t:Nat):Int)) (.pointer (some ⟨g,(mid+m-1-t)*5,none⟩)) (λA p h=>Kc (elem:=415) O O I)<|ZB 6 (Ke 415 ⟨g,(mid+m-1-t)*5,none⟩) (.agg (Mb x).toArray) (λA p h=>Ka (vs:=Mb x) O O (Ln Mx h.1 I wI))<|ZA (Kd 412 (.slice (some ⟨g,0,none⟩) n c) t) (.pointer (some ⟨g,t*5,none⟩)) (λA p h=>Kc (elem:=415) O O I)<|ZA (Ke 415 ⟨g,t*5,none⟩) (.agg (Mb y).toArray) (λA p h=>Ka (vs:=Mb y) O O (Ln Mx h.1 I E))<|ZC (λA p h=>H A h.2.1 (h.2.old Z p) x (AE wI) y (AE E)) λu=> ?_
   cases K:decide (Ld x y<0)
   .refine ZJ (!(decide (Ld x y<0))) true (by rw[K];rfl)<|YB 20 ((t:Int)+1) ((t+1:Nat):Int)<|ui (⟨(t+1,r),⟨Zn,Zn,T⟩,λx' y' _ F o=>by rw[Nat.add_sub_cancel,E]at F;rw[show mid+m- (t+1)=mid+m-1-t by omega,wI]at o;injection F with F;injection o with o;subst F;subst o;exact K,wJ⟩) O Zn Zt (λ_ h=>h.1)
   .refine ZJ (!(decide (Ld x y<0))) false (by rw[K];rfl)<|ui (⟨(s,t),⟨Zn,X,Zn⟩,N,λx' y' _ F o=>by rw[wI]at F;rw[E]at o;injection F with F;injection o with o;subst F;subst o;exact K⟩) O Zn Zt (λ_ h=>h.1)
  obtain rfl:s=r:=I
  obtain⟨e,he⟩:∃e,e=mid+m-s:=⟨_,rfl⟩
  have hse:s+e=mid+m:=I
  have hX:∀x y,a<s->e<b->L[s-1]? =some x->L[e]? =some y->ltOf Ld y x=false:=λx y h1 h2 wI E=>N x y I wI (by rw[<-he];exact E)
  have hY:∀x y,s<m->m<e->L[e-1]? =some x->L[s]? =some y->ltOf Ld y x=false:=λx y h1 h2 wI E=>G5 hO (wJ x y I (by rw[show mid+m-1-s=e-1 by omega];exact wI) E)
  have hem:s+(e-m)=mid:=I
  have l:a<=s/\s<=m/\m<=e/\e<=b:=I
  refine ZR<|YN ((s:Int)<(s:Int))<|ug O<|ZS 3<|uh 177 (.int .i64 (XQ.wrap (((mid+m:Nat):Int)- (s:Int)))) (.int .i64 (e:Int)) O (by rw[Xe I I,he])<|uo O (stop:=1000) 1 _<|ZS 3<|vp (ι:={M:List Qg // I_ s m e L M}×(Nat->AV)) (λi c=>O9 [180,181,182,183,184,185,186,187,188,189,190,191] i.2 (Lw XM 3 1000 (V6 false (Lw XM 1000 1000 (Ky 180 (.bool false) c))))) (λi u=>K6 u B 415 5 (some ⟨g,0,none⟩) n c (i.1.1.flatMap Mb)/\Kt W w g u) (λkk=> ?_) (λi=> ?_)
  .by_cases c1:s<m
   .refine YE 180 ((s:Int)<(m:Int)) I ?_
    by_cases c2:m<e
    .refine YL ((m:Int)<(e:Int)) ?_;have Y:L=L.take s++((L.drop s).take (m-s)++((L.drop m).take (e-m)++L.drop e)):=by
      conv=>lhs;rw[<-AF s L,<-AF (m-s) (L.drop s),List.drop_drop,show s+(m-s)=m by omega,<-AF (e-m) (L.drop m),List.drop_drop,show m+(e-m)=e by omega]
     have l1:(L.take s).length=s:=by rw[AI];omega
     have l2:((L.drop s).take (m-s)).length=m-s:=by rw[AI,AZ];omega
     have l3:((L.drop m).take (e-m)).length=e-m:=by rw[AI,AZ];omega
     have hrot:=VD (s:=s) (m:=m) (e:=e) (S:=L.drop e) l1 (show s+((L.drop s).take (m-s)).length=m by omega) (show m+((L.drop m).take (e-m)).length=e by omega);rw[<-Y]at hrot;generalize hM:L.take s++((L.drop m).take (e-m)++((L.drop s).take (m-s)++L.drop e))=M at hrot;refine uD (L:=[g]) (val:=λ_:Unit=> .tuple #[]) (G:=λ_ u=>K6 u B 415 5 (some ⟨g,0,none⟩) n c (M.flatMap Mb)) (Φ':=λ_ u=>K6 u B 415 5 (some ⟨g,0,none⟩) n c (M.flatMap Mb)/\Kt W w g u) (λA p h=>by
      have h1:=h.1;rw[Y]at h1;have h2:=mW (f:= .func (.func 362) #[] #[]) (a:=s) (m:=m) (b:=e) p hg h1 (by rw[<-Y];exact hln) hn l1 I I I I;rw[hM]at h2;exact h2) (λu h=>Za ⟨hg,(h.1.blk _ (by simp[bl])).2⟩) (λ_ wa u U R h Q=>⟨Q,h.2.left U R⟩) O O (λ_=> ?_)
     exact ZS 3<|uC [180,181,182,183,184,185,186,187,188,189,190,191] λx=>K0.eq (kk (⟨M,hrot⟩,x)) O
    .exact ul (decide ((m:Int)<(e:Int))) false O (YV I)<|ZS 3<|uC [180,181,182,183,184,185,186,187,188,189,190,191] λx=>K0.eq (kk (⟨L,Bw (.inr I) l.2.1 l.2.2.1⟩,x)) O
   .exact YG 180 ((s:Int)<(m:Int)) I<|uu false O<|ZS 3<|uC [180,181,182,183,184,185,186,187,188,189,190,191] λx=>K0.eq (kk (⟨L,Bw (.inl I) l.2.1 l.2.2.1⟩,x)) O
  obtain⟨⟨L1,hr⟩,x1⟩:=i;have hl1:=hr.pr.len;refine vp (ι:={M:List Qg // PR a mid L1 M/\P8 (ltOf Ld) a mid M}×(Nat->AV)) (λi c=>O9 [194,195,196,197,198,199,200,201,202,203,204,205] i.2 (Lw XM 3 1000 (V6 false (Lw XM 1000 1000 (Ky 194 (.bool false) c))))) (λi u=>K6 u B 415 5 (some ⟨g,0,none⟩) n c (i.1.1.flatMap Mb)/\Kt W w g u) (λkk=> ?_) (λi=> ?_)
  .by_cases c1:a<s
   .refine YE 194 ((a:Int)<(s:Int)) I ?_
    by_cases c2:s<mid
    .exact YL ((s:Int)<(mid:Int))<|uD (L:=[g]) (val:=λ_:{M:List Qg // PR a mid L1 M/\P8 (ltOf Ld) a mid M}=> .tuple #[]) (G:=λM u=>K6 u B 415 5 (some ⟨g,0,none⟩) n c (M.1.flatMap Mb)) (Φ':=λM u=>K6 u B 415 5 (some ⟨g,0,none⟩) n c (M.1.flatMap Mb)/\Kt W w g u) (λA p h=>PP k I p hg h.1 I hn c1 c2 I (IU (mid:=mid) l.1 l.2.1 k1 hr) (by have:=G_ l.2.2.1 l.2.2.2 k2 hr;rw[hem]at this;exact this) (H.to hr.pr.perm h.2.1 (h.2.old Z p))) (λu h=>Za ⟨hg,(h.1.blk _ (by simp[bl])).2⟩) (λ_ wa u U R h Q=>⟨Q,h.2.left U R⟩) O O λM=>ZS 3<|uC [194,195,196,197,198,199,200,201,202,203,204,205] λx=>K0.eq (kk (M,x)) O
    .exact ul (decide ((s:Int)<(mid:Int))) false O (YV I)<|ZS 3<|uC [194,195,196,197,198,199,200,201,202,203,204,205] λx=>K0.eq (kk (⟨L1,.rfl',by rw[<-hem,show s+(e-m)=s by omega];exact IU (mid:=mid) l.1 l.2.1 k1 hr⟩,x)) O
   .exact YG 194 ((a:Int)<(s:Int)) I<|uu false O<|ZS 3<|uC [194,195,196,197,198,199,200,201,202,203,204,205] λx=>K0.eq (kk (⟨L1,.rfl',by have:=G_ l.2.2.1 l.2.2.2 k2 hr;rw[hem,show s=a by omega]at this;exact this⟩,x)) O
  obtain⟨⟨L2,hp,hps⟩,x2⟩:=i;have hl2:=hp.len;have t3:P8 (ltOf Ld) mid e L2:=by have:=fx l.1 l.2.1 l.2.2.1 k1 hr;rw[hem]at this;exact this.same λi u v=>hp.out i (.inr u)
  have t4:P8 (ltOf Ld) e b L2:=(ct l.2.2.1 k2 hr).same λi u v=>hp.out i (.inr I)
  have fin:∀L3:List Qg,PR mid b L2 L3->P8 (ltOf Ld) mid b L3->PR a b L L3/\P8 (ltOf Ld) a b L3:=λL3 u v=>a6 hO I l.1 l.2.1 l.2.2.1 l.2.2.2 hse k1 k2 hr hp hps u v hX hY
  by_cases c1:mid<e
  .refine YE 208 ((mid:Int)<(e:Int)) I ?_
   by_cases c2:e<b
   .refine YL ((e:Int)<(b:Int))<|uD (L:=[g]) (val:=λ_:{M:List Qg // PR mid b L2 M/\P8 (ltOf Ld) mid b M}=> .tuple #[]) (G:=λM u=>K6 u B 415 5 (some ⟨g,0,none⟩) n c (M.1.flatMap Mb)) (Φ':=λM u=>K6 u B 415 5 (some ⟨g,0,none⟩) n c (M.1.flatMap Mb)/\Kt W w g u) (λA p h=>PP k I p hg h.1 I hn c1 c2 hbn t3 t4 (H.to (hp.perm.trans hr.pr.perm) h.2.1 (h.2.old Z p))) (λu h=>Za ⟨hg,(h.1.blk _ (by simp[bl])).2⟩) (λ_ wa u U R h Q=>⟨Q,h.2.left U R⟩) O O λM=>ZR<|ZV (.tuple #[]) (λA p h=>⟨⟨M.1,fin M.1 M.2.1 M.2.2⟩,rfl,(Yh h).2.chg Z p,λu k1 k2=>(Yh h).1.same λb P=>k2 b (.inl P)⟩)
   .refine YN ((e:Int)<(b:Int))<|ZV (.tuple #[]) (λA p h=>⟨⟨L2,fin L2 .rfl' (by rw[show b=e by omega];exact t3)⟩,rfl,(Yh h).2.chg Z p,λu k1 k2=>(Yh h).1.same λb P=>k2 b (.inl P)⟩)
  .refine YG 208 ((mid:Int)<(e:Int)) I<|ZI false<|ZV (.tuple #[]) (λA p h=>⟨⟨L2,fin L2 .rfl' (by rw[show mid=e by omega];exact t4)⟩,rfl,(Yh h).2.chg Z p,λu k1 k2=>(Yh h).1.same λb P=>k2 b (.inl P)⟩)
end
section
variable{g n c B:Nat}{w W:YM}
theorem ar{L:List Oi}(R:Below W.heap.size W w)(H:W.heap.size<=g)(ho:K6 w B 411 8 (some ⟨g,0,none⟩) n c (L.flatMap Lg))(E:L.length=n)(T:0<n)(hn:n<=1000000000)(x:Z0 Lg 359 Lc L g w):
 Ca 395 #[.slice (some ⟨g,0,none⟩) n c,.int .i64 n,.func (.func 359) #[] #[]] w (L4 w [g] (λ_:{M:List Oi // M.Perm L/\NL (ltOf Lc) M}=> .tuple #[]) λM u=>K6 u B 411 8 (some ⟨g,0,none⟩) n c (M.1.flatMap Lg)):=by
 have Y:=(ho.lt g (by simp[bl])).2;have v:∀{M:List Oi} {a b:Nat} {f:YM},M.length=n->M.Perm L->K6 f B 411 8 (some ⟨g,0,none⟩) n c (M.flatMap Lg)->Kt W w g f->Below W.heap.size W f->a<=b->b<=n->Ca 410 #[.slice (some ⟨g,0,none⟩) n c,.int .i64 a,.int .i64 b,.func (.func 359) #[] #[]] f (L4 f [g] (λ_:{N:List Oi // D0 (ltOf Lc) a b M N}=> .tuple #[]) λN u=>K6 u B 411 8 (some ⟨g,0,none⟩) n c (N.1.flatMap Lg)):=λ{M a b f} wI P h3 Q S Z h7=>
  lQ Zd M7 Rp qF Zf (λ_=>O) Lc fo (enters_of func359 O rfl) h3 wI T hn Z h7 (x.to P Q.1 (Q.old R S))
 have y:∀{M:List Oi} {a m b:Nat} {f:YM},M.length=n->M.Perm L->K6 f B 411 8 (some ⟨g,0,none⟩) n c (M.flatMap Lg)->Kt W w g f->Below W.heap.size W f->a<m->m<b->b<=n->P8 (ltOf Lc) a m M->P8 (ltOf Lc) m b M->Ca 411 #[.slice (some ⟨g,0,none⟩) n c,.int .i64 a,.int .i64 m,.int .i64 b,.func (.func 359) #[] #[]] f (L4 f [g] (λ_:{N:List Oi // PR a b M N/\P8 (ltOf Lc) a b N}=> .tuple #[]) λN u=>K6 u B 411 8 (some ⟨g,0,none⟩) n c (N.1.flatMap Lg)):=λ{M a m b f} wI P h3 Q S Z h7 h8 k1 k2=>
  OR (b-a) (AC _) S H h3 wI hn Z h7 h8 k1 k2 (x.to P Q.1 (Q.old R S))
 refine uB func395 rfl R<|ZR<|uj (ι:={q:(Nat×Nat)×List Oi // S1 (ltOf Lc) n q.1.1 q.1.2 L q.2/\q.1.2<=n}) 63 (λq=>⟨[vS 0 (some ⟨g,0,none⟩) n c,vI 1 n,vV 2 (.func (.func 359) #[] #[]),vI 6 20,vI 7 (q.1.1.2:Int),vI 8 ((q.1.1.2+20:Nat):Int)],[]⟩) (λq u=>K6 u B 411 8 (some ⟨g,0,none⟩) n c (q.1.2.flatMap Lg)/\Kt W w g u) (λq=>n-q.1.1.2) (⟨((0,0),L),⟨.rfl',λt ht=>absurd ht (CS _),rfl⟩,AK _⟩) O Zf Zt (λu h=>⟨ho.same λb l=>(by have l:=AB.1 l;subst l;exact h.2 _ H Y),h.1,λb wI P _=>h.2 b wI P⟩) ?_
 rintro⟨⟨⟨q,a⟩,M⟩,e,j⟩ gg;have e:S1 (ltOf Lc) n q a L M:=e;have j:a<=n:=j;have o:M.length=n:=e.pr.len.trans E
 by_cases l:a+20<=n
 .refine ZR<|YL (((a+20:Nat):Int)<=(n:Int))<|uD (L:=[g]) (val:=λ_:{N:List Oi // D0 (ltOf Lc) a (a+20) M N}=> .tuple #[]) (G:=λN u=>K6 u B 411 8 (some ⟨g,0,none⟩) n c (N.1.flatMap Lg)) (Φ':=λN u=>K6 u B 411 8 (some ⟨g,0,none⟩) n c (N.1.flatMap Lg)/\Kt W w g u) (λf p h=>v o e.pr.perm h.1 h.2 p I l) (λu h=>Za ⟨H,(h.1.blk _ (by simp[bl])).2⟩) (λ_ U u D A h z=>⟨z,h.2.left D A⟩) O O λN=>ZR<|YB 8 (((a+20:Nat):Int)+20) ((a+20+20:Nat):Int)<|ui (⟨((q+1,a+20),N.1),e.ins l N.2,l⟩) O Zn Zt (λ_ h=>h)
 refine ZR<|YN (((a+20:Nat):Int)<=(n:Int))<|ug O<|ZR<|uD (L:=[g]) (val:=λ_:{N:List Oi // D0 (ltOf Lc) a n M N}=> .tuple #[]) (G:=λN u=>K6 u B 411 8 (some ⟨g,0,none⟩) n c (N.1.flatMap Lg)) (Φ':=λN u=>K6 u B 411 8 (some ⟨g,0,none⟩) n c (N.1.flatMap Lg)/\Kt W w g u) (λf p h=>v o e.pr.perm h.1 h.2 p j (AC _)) (λu h=>Za ⟨H,(h.1.blk _ (by simp[bl])).2⟩) (λ_ U u D A h z=>⟨z,h.2.left D A⟩) O O (λN=> ?_)
 obtain⟨N,X⟩:=N;obtain⟨F,k⟩:=e.fin j I X;refine ZR<|uj (ι:={q:Nat×List Oi // 20<=q.1/\q.1<=2000000000/\PR 0 n L q.2/\Jx (ltOf Lc) q.1 n q.2}) 63 (λq=>⟨[vS 0 (some ⟨g,0,none⟩) n c,vI 1 n,vV 2 (.func (.func 359) #[] #[]),vI 6 (q.1.1:Int)],[]⟩) (λq u=>K6 u B 411 8 (some ⟨g,0,none⟩) n c (q.1.2.flatMap Lg)/\Kt W w g u) (λq=>n-q.1.1) (⟨(20,N),AC _,Zn,F,k⟩) O Zf Zt (λu h=>h) ?_
 rintro⟨⟨s,M⟩,wJ,K,F,k⟩ gg;have wJ:20<=s:=wJ;have K:s<=2000000000:=K;have F:PR 0 n L M:=F;have k:Jx (ltOf Lc) s n M:=k
 by_cases hsn:s<n
 case neg=>
  refine ZR<|YN ((s:Int)<(n:Int))<|ug O<|ZR<|ZV (.tuple #[]) (λf p h=>⟨⟨M,F.perm,(k.all I).nl (F.len.trans E)⟩,rfl,(Yh h).2.chg R p,λu k1 k2=>(Yh h).1.same λb l=>k2 b (.inl l)⟩)
 refine ZR<|YL ((s:Int)<(n:Int))<|YB 8 (2*(s:Int)) ((0+2*s:Nat):Int)<|uj (ι:={q:(Nat×Nat)×List Oi // S2 (ltOf Lc) s n q.1.1 q.1.2 L q.2/\q.1.2<=n}) 63 (λq=>⟨[vS 0 (some ⟨g,0,none⟩) n c,vI 1 n,vV 2 (.func (.func 359) #[] #[]),vI 6 (s:Int),vI 7 (q.1.1.2:Int),vI 8 ((q.1.1.2+2*s:Nat):Int)],[]⟩) (λq u=>K6 u B 411 8 (some ⟨g,0,none⟩) n c (q.1.2.flatMap Lg)/\Kt W w g u) (λq=>n-q.1.1.2) (⟨((0,0),M),vN F k,AK _⟩) O Zf Zt (λu h=>h) ?_
 rintro⟨⟨⟨q,a⟩,M1⟩,e,j⟩ gg2;have e:S2 (ltOf Lc) s n q a L M1:=e;have j:a<=n:=j;have o:M1.length=n:=e.pr.len.trans E
 by_cases l:a+2*s<=n
 .have r1:=e.r1;have r2:=e.r2;rw[BR I]at r1 r2;rw[show a+s+s=a+2*s by omega]at r2;refine ZR<|ul (decide (((a+2*s:Nat):Int)<=(n:Int))) true O (YU I)<|ZS 7<|uh 40 (.int .i64 (XQ.wrap ((a:Int)+(s:Int)))) (.int .i64 ((a+s:Nat):Int)) O (by rw[Sj I I])<|uD (L:=[g]) (val:=λ_:{N:List Oi // PR a (a+2*s) M1 N/\P8 (ltOf Lc) a (a+2*s) N}=> .tuple #[]) (G:=λN u=>K6 u B 411 8 (some ⟨g,0,none⟩) n c (N.1.flatMap Lg)) (Φ':=λN u=>K6 u B 411 8 (some ⟨g,0,none⟩) n c (N.1.flatMap Lg)/\Kt W w g u) (λf p h=>y o e.pr.perm h.1 h.2 p I I l r1 r2) (λu h=>Za ⟨H,(h.1.blk _ (by simp[bl])).2⟩) (λ_ U u D A h z=>⟨z,h.2.left D A⟩) O O λN=>ZR<|uh 8 (.int .i64 (XQ.wrap (((a+2*s:Nat):Int)+XQ.wrap (2*(s:Int))))) (.int .i64 ((a+2*s+2*s:Nat):Int)) O (by rw[AL (2*(s:Int)) I,AL _ I];congr 1<;>omega)<|ui (⟨((q+1,a+2*s),N.1),e.step l N.2,l⟩) O Zn Zt (λ_ h=>h)
 have J:∀N:List Oi,PR a n M1 N/\P8 (ltOf Lc) a n N->20<=s*2/\s*2<=2000000000/\PR 0 n L N/\Jx (ltOf Lc) (s*2) n N:=λN X=>by
  have:=e.fin j I X;rw[CH s 2];exact⟨by omega,by omega,this.1,this.2⟩
 refine ZR<|YN (((a+2*s:Nat):Int)<=(n:Int))<|ug O<|ZR ?_
 by_cases hm:a+s<n
 .have r1:=e.r1;have r2:=e.r2;rw[BR I]at r1;rw[Nat.min_eq_right I]at r2;refine ul (decide (XQ.wrap ((a:Int)+(s:Int))<(n:Int))) true O (by rw[Sj I I];exact YU I)<|ZS 5<|uh 57 (.int .i64 (XQ.wrap ((a:Int)+(s:Int)))) (.int .i64 ((a+s:Nat):Int)) O (by rw[Sj I I])<|uD (L:=[g]) (val:=λ_:{N:List Oi // PR a n M1 N/\P8 (ltOf Lc) a n N}=> .tuple #[]) (G:=λN u=>K6 u B 411 8 (some ⟨g,0,none⟩) n c (N.1.flatMap Lg)) (Φ':=λN u=>K6 u B 411 8 (some ⟨g,0,none⟩) n c (N.1.flatMap Lg)/\Kt W w g u) (λf p h=>y o e.pr.perm h.1 h.2 p I hm (AC _) r1 r2) (λu h=>Za ⟨H,(h.1.blk _ (by simp[bl])).2⟩) (λ_ U u D A h z=>⟨z,h.2.left D A⟩) O O λN=>ZR<|YB 6 ((s:Int)*2) ((s*2:Nat):Int)<|ui (⟨(s*2,N.1),J N.1 N.2⟩) O Zn Zt (λ_ h=>h)
 .refine ZJ (decide (XQ.wrap ((a:Int)+(s:Int))<(n:Int))) false (by rw[Sj I I];exact YV I)<|YB 6 ((s:Int)*2) ((s*2:Nat):Int)<|ui (⟨(s*2,M1),J M1 (e.skip I)⟩) O Zn Zt (λ_ h=>h)
theorem fL{L:List Oi}(m:Below W.heap.size W w)(k:W.heap.size<=g)(s:K6 w B 411 8 (some ⟨g,0,none⟩) n c (L.flatMap Lg))(v:L.length=n)(o:0<n)(z:n<=1000000000)(j:Z0 Lg 359 Lc L g w):
 Ca 358 #[.slice (some ⟨g,0,none⟩) n c,.func (.func 359) #[] #[]] w (L4 w [g] (λ_:{M:List Oi // M.Perm L/\NL (ltOf Lc) M}=> .tuple #[]) λM u=>K6 u B 411 8 (some ⟨g,0,none⟩) n c (M.1.flatMap Lg)):=by
 have e:=(s.lt g (by simp[bl])).2;refine uB func358 rfl m<|ZR ?_
 refine uD (L:=[g]) (val:=λ_:{M:List Oi // M.Perm L/\NL (ltOf Lc) M}=> .tuple #[]) (G:=λM u=>K6 u B 411 8 (some ⟨g,0,none⟩) n c (M.1.flatMap Lg)) (Φ':=λM u=>K6 u B 411 8 (some ⟨g,0,none⟩) n c (M.1.flatMap Lg)/\Kt W w g u) (λx l h=>by
  have y:Kt W w g x:=⟨h.1,λb p t _=>h.2 b p t⟩
  exact ar l k (s.same λb f=>(by have f:=AB.1 f;subst f;exact h.2 _ k e)) v o z (j.to (.refl _) y.1 (y.old m l))) (λu h=>Za ⟨k,_,_,_,(h.2 _ k e).trans (s.blk _ (by simp[bl])).2.choose_spec.choose_spec.choose_spec⟩) (λ_ H u F E h A=>⟨A,by rw[<-F];exact h.1,λb p t D=>(E b (by simpa using D)).symm.trans (h.2 b p t)⟩) O O (λM=> ?_)
 refine ZR<|ZV (.tuple #[]) (λx l h=>⟨M,rfl,(Yh h).2.chg m l,λu J k2=>(Yh h).1.same λb f=>k2 b (.inl f)⟩)
theorem jT{A:YY}{f:YI}:Ca 410 #[.slice A 0 c,.int .i64 0,.int .i64 0,f] w (CU w (.tuple #[])):=by
 refine uf func410 rfl<|ZR<|uj (ι:=Unit) 53 (λ_=>⟨[vI 2 0,vI 8 1],[]⟩) (λ_ _=>True) (λ_=>0) () O Zf Zt (λ_ _=>trivial) ?_
 rintro _ b;exact ZR<|ZI false<|ug O<|ZR<|ZW (.tuple #[])
theorem a_{A:YY}{f:YI}:Ca 358 #[.slice A 0 c,f] w (CU w (.tuple #[])):=by
 have b:∀w:YM,Ca 395 #[.slice A 0 c,.int .i64 0,f] w (CU w (.tuple #[])):=λw=>by
  refine uf func395 rfl<|ZR<|uj (ι:=Unit) 63 (λ_=>⟨[vS 0 A 0 c,vI 1 0,vV 2 f,vI 6 20,vI 7 0,vI 8 20],[]⟩) (λ_ _=>True) (λ_=>0) () O Zf Zt (λ_ _=>trivial) ?_
  rintro _ k;refine ZR<|ZI false<|ug O<|ZR<|ZC (λe j h=>jT (A:=A) (f:=f) (c:=c)) λu=>uj (ι:=Unit) 63 (λ_=>⟨[vI 1 0,vI 6 20],[]⟩) (λ_ _=>True) (λ_=>0) () O Zf Zt (λ_ _=>trivial) ?_
  rintro _ k;exact ZR<|ZI false<|ug O<|ZR<|ZW (.tuple #[])
 exact uf func358 rfl<|ZR<|ZC (λe j h=>b e) λu=>ZW (.tuple #[])
theorem WA{L:List Qg}(R:Below W.heap.size W w)(H:W.heap.size<=g)(ho:K6 w B 415 5 (some ⟨g,0,none⟩) n c (L.flatMap Mb))(E:L.length=n)(T:0<n)(hn:n<=1000000000)(x:Z0 Mb 362 Ld L g w):
 Ca 396 #[.slice (some ⟨g,0,none⟩) n c,.int .i64 n,.func (.func 362) #[] #[]] w (L4 w [g] (λ_:{M:List Qg // M.Perm L/\NL (ltOf Ld) M}=> .tuple #[]) λM u=>K6 u B 415 5 (some ⟨g,0,none⟩) n c (M.1.flatMap Mb)):=by
 have Y:=(ho.lt g (by simp[bl])).2;have v:∀{M:List Qg} {a b:Nat} {f:YM},M.length=n->M.Perm L->K6 f B 415 5 (some ⟨g,0,none⟩) n c (M.flatMap Mb)->Kt W w g f->Below W.heap.size W f->a<=b->b<=n->Ca 412 #[.slice (some ⟨g,0,none⟩) n c,.int .i64 a,.int .i64 b,.func (.func 362) #[] #[]] f (L4 f [g] (λ_:{N:List Qg // D0 (ltOf Ld) a b M N}=> .tuple #[]) λN u=>K6 u B 415 5 (some ⟨g,0,none⟩) n c (N.1.flatMap Mb)):=λ{M a b f} wI P h3 Q S Z h7=>
  lQ Zd Mx Tr qG Zf (λ_=>O) Ld gM (enters_of func362 O rfl) h3 wI T hn Z h7 (x.to P Q.1 (Q.old R S))
 have y:∀{M:List Qg} {a m b:Nat} {f:YM},M.length=n->M.Perm L->K6 f B 415 5 (some ⟨g,0,none⟩) n c (M.flatMap Mb)->Kt W w g f->Below W.heap.size W f->a<m->m<b->b<=n->P8 (ltOf Ld) a m M->P8 (ltOf Ld) m b M->Ca 413 #[.slice (some ⟨g,0,none⟩) n c,.int .i64 a,.int .i64 m,.int .i64 b,.func (.func 362) #[] #[]] f (L4 f [g] (λ_:{N:List Qg // PR a b M N/\P8 (ltOf Ld) a b N}=> .tuple #[]) λN u=>K6 u B 415 5 (some ⟨g,0,none⟩) n c (N.1.flatMap Mb)):=λ{M a m b f} wI P h3 Q S Z h7 h8 k1 k2=>
  PP (b-a) (AC _) S H h3 wI hn Z h7 h8 k1 k2 (x.to P Q.1 (Q.old R S))
 refine uB func396 rfl R<|ZR<|uj (ι:={q:(Nat×Nat)×List Qg // S1 (ltOf Ld) n q.1.1 q.1.2 L q.2/\q.1.2<=n}) 63 (λq=>⟨[vS 0 (some ⟨g,0,none⟩) n c,vI 1 n,vV 2 (.func (.func 362) #[] #[]),vI 6 20,vI 7 (q.1.1.2:Int),vI 8 ((q.1.1.2+20:Nat):Int)],[]⟩) (λq u=>K6 u B 415 5 (some ⟨g,0,none⟩) n c (q.1.2.flatMap Mb)/\Kt W w g u) (λq=>n-q.1.1.2) (⟨((0,0),L),⟨.rfl',λt ht=>absurd ht (CS _),rfl⟩,AK _⟩) O Zf Zt (λu h=>⟨ho.same λb l=>(by have l:=AB.1 l;subst l;exact h.2 _ H Y),h.1,λb wI P _=>h.2 b wI P⟩) ?_
 rintro⟨⟨⟨q,a⟩,M⟩,e,j⟩ gg;have e:S1 (ltOf Ld) n q a L M:=e;have j:a<=n:=j;have o:M.length=n:=e.pr.len.trans E
 by_cases l:a+20<=n
 .refine ZR<|YL (((a+20:Nat):Int)<=(n:Int))<|uD (L:=[g]) (val:=λ_:{N:List Qg // D0 (ltOf Ld) a (a+20) M N}=> .tuple #[]) (G:=λN u=>K6 u B 415 5 (some ⟨g,0,none⟩) n c (N.1.flatMap Mb)) (Φ':=λN u=>K6 u B 415 5 (some ⟨g,0,none⟩) n c (N.1.flatMap Mb)/\Kt W w g u) (λf p h=>v o e.pr.perm h.1 h.2 p I l) (λu h=>Za ⟨H,(h.1.blk _ (by simp[bl])).2⟩) (λ_ U u D A h z=>⟨z,h.2.left D A⟩) O O λN=>ZR<|YB 8 (((a+20:Nat):Int)+20) ((a+20+20:Nat):Int)<|ui (⟨((q+1,a+20),N.1),e.ins l N.2,l⟩) O Zn Zt (λ_ h=>h)
 refine ZR<|YN (((a+20:Nat):Int)<=(n:Int))<|ug O<|ZR<|uD (L:=[g]) (val:=λ_:{N:List Qg // D0 (ltOf Ld) a n M N}=> .tuple #[]) (G:=λN u=>K6 u B 415 5 (some ⟨g,0,none⟩) n c (N.1.flatMap Mb)) (Φ':=λN u=>K6 u B 415 5 (some ⟨g,0,none⟩) n c (N.1.flatMap Mb)/\Kt W w g u) (λf p h=>v o e.pr.perm h.1 h.2 p j (AC _)) (λu h=>Za ⟨H,(h.1.blk _ (by simp[bl])).2⟩) (λ_ U u D A h z=>⟨z,h.2.left D A⟩) O O (λN=> ?_)
 obtain⟨N,X⟩:=N;obtain⟨F,k⟩:=e.fin j I X;refine ZR<|uj (ι:={q:Nat×List Qg // 20<=q.1/\q.1<=2000000000/\PR 0 n L q.2/\Jx (ltOf Ld) q.1 n q.2}) 63 (λq=>⟨[vS 0 (some ⟨g,0,none⟩) n c,vI 1 n,vV 2 (.func (.func 362) #[] #[]),vI 6 (q.1.1:Int)],[]⟩) (λq u=>K6 u B 415 5 (some ⟨g,0,none⟩) n c (q.1.2.flatMap Mb)/\Kt W w g u) (λq=>n-q.1.1) (⟨(20,N),AC _,Zn,F,k⟩) O Zf Zt (λu h=>h) ?_
 rintro⟨⟨s,M⟩,wJ,K,F,k⟩ gg;have wJ:20<=s:=wJ;have K:s<=2000000000:=K;have F:PR 0 n L M:=F;have k:Jx (ltOf Ld) s n M:=k
 by_cases hsn:s<n
 case neg=>
  refine ZR<|YN ((s:Int)<(n:Int))<|ug O<|ZR<|ZV (.tuple #[]) (λf p h=>⟨⟨M,F.perm,(k.all I).nl (F.len.trans E)⟩,rfl,(Yh h).2.chg R p,λu k1 k2=>(Yh h).1.same λb l=>k2 b (.inl l)⟩)
 refine ZR<|YL ((s:Int)<(n:Int))<|YB 8 (2*(s:Int)) ((0+2*s:Nat):Int)<|uj (ι:={q:(Nat×Nat)×List Qg // S2 (ltOf Ld) s n q.1.1 q.1.2 L q.2/\q.1.2<=n}) 63 (λq=>⟨[vS 0 (some ⟨g,0,none⟩) n c,vI 1 n,vV 2 (.func (.func 362) #[] #[]),vI 6 (s:Int),vI 7 (q.1.1.2:Int),vI 8 ((q.1.1.2+2*s:Nat):Int)],[]⟩) (λq u=>K6 u B 415 5 (some ⟨g,0,none⟩) n c (q.1.2.flatMap Mb)/\Kt W w g u) (λq=>n-q.1.1.2) (⟨((0,0),M),vN F k,AK _⟩) O Zf Zt (λu h=>h) ?_
 rintro⟨⟨⟨q,a⟩,M1⟩,e,j⟩ gg2;have e:S2 (ltOf Ld) s n q a L M1:=e;have j:a<=n:=j;have o:M1.length=n:=e.pr.len.trans E
 by_cases l:a+2*s<=n
 .have r1:=e.r1;have r2:=e.r2;rw[BR I]at r1 r2;rw[show a+s+s=a+2*s by omega]at r2;refine ZR<|ul (decide (((a+2*s:Nat):Int)<=(n:Int))) true O (YU I)<|ZS 7<|uh 40 (.int .i64 (XQ.wrap ((a:Int)+(s:Int)))) (.int .i64 ((a+s:Nat):Int)) O (by rw[Sj I I])<|uD (L:=[g]) (val:=λ_:{N:List Qg // PR a (a+2*s) M1 N/\P8 (ltOf Ld) a (a+2*s) N}=> .tuple #[]) (G:=λN u=>K6 u B 415 5 (some ⟨g,0,none⟩) n c (N.1.flatMap Mb)) (Φ':=λN u=>K6 u B 415 5 (some ⟨g,0,none⟩) n c (N.1.flatMap Mb)/\Kt W w g u) (λf p h=>y o e.pr.perm h.1 h.2 p I I l r1 r2) (λu h=>Za ⟨H,(h.1.blk _ (by simp[bl])).2⟩) (λ_ U u D A h z=>⟨z,h.2.left D A⟩) O O λN=>ZR<|uh 8 (.int .i64 (XQ.wrap (((a+2*s:Nat):Int)+XQ.wrap (2*(s:Int))))) (.int .i64 ((a+2*s+2*s:Nat):Int)) O (by rw[AL (2*(s:Int)) I,AL _ I];congr 1<;>omega)<|ui (⟨((q+1,a+2*s),N.1),e.step l N.2,l⟩) O Zn Zt (λ_ h=>h)
 have J:∀N:List Qg,PR a n M1 N/\P8 (ltOf Ld) a n N->20<=s*2/\s*2<=2000000000/\PR 0 n L N/\Jx (ltOf Ld) (s*2) n N:=λN X=>by
  have:=e.fin j I X;rw[CH s 2];exact⟨by omega,by omega,this.1,this.2⟩
 refine ZR<|YN (((a+2*s:Nat):Int)<=(n:Int))<|ug O<|ZR ?_
 by_cases hm:a+s<n
 .have r1:=e.r1;have r2:=e.r2;rw[BR I]at r1;rw[Nat.min_eq_right I]at r2;refine ul (decide (XQ.wrap ((a:Int)+(s:Int))<(n:Int))) true O (by rw[Sj I I];exact YU I)<|ZS 5<|uh 57 (.int .i64 (XQ.wrap ((a:Int)+(s:Int)))) (.int .i64 ((a+s:Nat):Int)) O (by rw[Sj I I])<|uD (L:=[g]) (val:=λ_:{N:List Qg // PR a n M1 N/\P8 (ltOf Ld) a n N}=> .tuple #[]) (G:=λN u=>K6 u B 415 5 (some ⟨g,0,none⟩) n c (N.1.flatMap Mb)) (Φ':=λN u=>K6 u B 415 5 (some ⟨g,0,none⟩) n c (N.1.flatMap Mb)/\Kt W w g u) (λf p h=>y o e.pr.perm h.1 h.2 p I hm (AC _) r1 r2) (λu h=>Za ⟨H,(h.1.blk _ (by simp[bl])).2⟩) (λ_ U u D A h z=>⟨z,h.2.left D A⟩) O O λN=>ZR<|YB 6 ((s:Int)*2) ((s*2:Nat):Int)<|ui (⟨(s*2,N.1),J N.1 N.2⟩) O Zn Zt (λ_ h=>h)
 .refine ZJ (decide (XQ.wrap ((a:Int)+(s:Int))<(n:Int))) false (by rw[Sj I I];exact YV I)<|YB 6 ((s:Int)*2) ((s*2:Nat):Int)<|ui (⟨(s*2,M1),J M1 (e.skip I)⟩) O Zn Zt (λ_ h=>h)
theorem a8{L:List Qg}(m:Below W.heap.size W w)(k:W.heap.size<=g)(s:K6 w B 415 5 (some ⟨g,0,none⟩) n c (L.flatMap Mb))(v:L.length=n)(o:0<n)(z:n<=1000000000)(j:Z0 Mb 362 Ld L g w):
 Ca 361 #[.slice (some ⟨g,0,none⟩) n c,.func (.func 362) #[] #[]] w (L4 w [g] (λ_:{M:List Qg // M.Perm L/\NL (ltOf Ld) M}=> .tuple #[]) λM u=>K6 u B 415 5 (some ⟨g,0,none⟩) n c (M.1.flatMap Mb)):=by
 have e:=(s.lt g (by simp[bl])).2;refine uB func361 rfl m<|ZR ?_
 refine uD (L:=[g]) (val:=λ_:{M:List Qg // M.Perm L/\NL (ltOf Ld) M}=> .tuple #[]) (G:=λM u=>K6 u B 415 5 (some ⟨g,0,none⟩) n c (M.1.flatMap Mb)) (Φ':=λM u=>K6 u B 415 5 (some ⟨g,0,none⟩) n c (M.1.flatMap Mb)/\Kt W w g u) (λx l h=>by
  have y:Kt W w g x:=⟨h.1,λb p t _=>h.2 b p t⟩
  exact WA l k (s.same λb f=>(by have f:=AB.1 f;subst f;exact h.2 _ k e)) v o z (j.to (.refl _) y.1 (y.old m l))) (λu h=>Za ⟨k,_,_,_,(h.2 _ k e).trans (s.blk _ (by simp[bl])).2.choose_spec.choose_spec.choose_spec⟩) (λ_ H u F E h A=>⟨A,by rw[<-F];exact h.1,λb p t D=>(E b (by simpa using D)).symm.trans (h.2 b p t)⟩) O O (λM=> ?_)
 refine ZR<|ZV (.tuple #[]) (λx l h=>⟨M,rfl,(Yh h).2.chg m l,λu J k2=>(Yh h).1.same λb f=>k2 b (.inl f)⟩)
theorem kj{A:YY}{f:YI}:Ca 412 #[.slice A 0 c,.int .i64 0,.int .i64 0,f] w (CU w (.tuple #[])):=by
 refine uf func412 rfl<|ZR<|uj (ι:=Unit) 53 (λ_=>⟨[vI 2 0,vI 8 1],[]⟩) (λ_ _=>True) (λ_=>0) () O Zf Zt (λ_ _=>trivial) ?_
 rintro _ b;exact ZR<|ZI false<|ug O<|ZR<|ZW (.tuple #[])
theorem bm{A:YY}{f:YI}:Ca 361 #[.slice A 0 c,f] w (CU w (.tuple #[])):=by
 have b:∀w:YM,Ca 396 #[.slice A 0 c,.int .i64 0,f] w (CU w (.tuple #[])):=λw=>by
  refine uf func396 rfl<|ZR<|uj (ι:=Unit) 63 (λ_=>⟨[vS 0 A 0 c,vI 1 0,vV 2 f,vI 6 20,vI 7 0,vI 8 20],[]⟩) (λ_ _=>True) (λ_=>0) () O Zf Zt (λ_ _=>trivial) ?_
  rintro _ k;refine ZR<|ZI false<|ug O<|ZR<|ZC (λe j h=>kj (A:=A) (f:=f) (c:=c)) λu=>uj (ι:=Unit) 63 (λ_=>⟨[vI 1 0,vI 6 20],[]⟩) (λ_ _=>True) (λ_=>0) () O Zf Zt (λ_ _=>trivial) ?_
  rintro _ k;exact ZR<|ZI false<|ug O<|ZR<|ZW (.tuple #[])
 exact uf func361 rfl<|ZR<|ZC (λe j h=>b e) λu=>ZW (.tuple #[])
end
structure Mj{β:Type}(e:XX)(s:Nat)(cl:β->List YI)(qs:β->List RQ)(B K:Nat)(y:YZ)(rs:List β)(u:YM):Prop where
 own:K6 u B e s y.1 rs.length y.2 (rs.flatMap cl)
 num:∀z∈rs,∀x∈qs z,Kn x.1 x.2 K u
def Xd{β:Type}(c:β->List RQ)(A:YY)(e:List β):Prop:=∀z∈e,∀x∈c z,∀b∈bl A,b∉M6 x.1
section
variable{P:YH}{u wa w:YM}{β:Type}{e t:XX}{s B K bytes gb N:Nat}{cl:β->List YI}{qs:β->List RQ}{y z':YZ}{rs rs':List β}{z:β}{z0:YI}
theorem vX:Mj e s cl qs B K (none,0) [] u:=⟨uG,by simp⟩
theorem vW{A:YY}:Xd qs A ([]:List β):=by intro z b;cases b
theorem Mj.app(J:P.underlying t=some (.slice e))(hi:Ya P e=some (z0,s,bytes))(l:z0.cells.size=s)(M:0<s)(j:bytes<=10000)(F:∀x,(cl x).length=s)(E:∀x,∀v∈cl x,v.oneCell'=true)
 (h:Mj e s cl qs B K y rs u) (H:Xd qs y.1 rs) (S:B<=u.heap.size) (G:N<=u.heap.size) (L:∀x∈qs z,Kn x.1 x.2 K u) (D:∀x∈qs z,∀b∈bl y.1,b∉M6 x.1) (wI:Kw e (cl z).toArray gb u) (T:rs.length<=99999999):
 Mv P u (bl y.1) (λz':YZ=> .slice z'.1 (rs.length+1) z'.2) (λz' v=>K6 v B e s z'.1 (rs.length+1) z'.2 ((rs++ [z]).flatMap cl)/\Xd qs z'.1 (rs++ [z])/\∀b∈bl z'.1,b∈bl y.1\/N<=b) (My t t (.slice y.1 rs.length y.2) (Kr 1 gb)):=by
 have o:=M2 (P:=P) (s:=s) (z:=z0) (bytes:=bytes) (m:=1) (cc:=1) (t:=t) (elem:=e) J hi l M h.own S (Mc (n:=1) wI (by simp[F])) (λv Q=>E z v (by simpa using Q)) I j;have R:(rs++ [z]).flatMap cl=rs.flatMap cl++(cl z).toArray.toList:=Zs
 rw[R];refine O7 o λz' g=>⟨λq Z x c b j p=> ?_,λb j=>(g b j).imp id λh=>AH G h⟩
 have f:Kn x.1 x.2 K u/\∀b∈bl y.1,b∉M6 x.1:=by
  rcases AN.1 Z with k|k
  .exact⟨h.num q k x c,H q k x c⟩
  .obtain rfl:q=z:=by simpa using k
   exact⟨L x c,D x c⟩
 rcases g b j with A|A
 .exact f.2 b A p
 .have:=Og f.1 b p;omega
theorem Mj.next(h:Mj e s cl qs B K y rs wa)(p:Xd qs y.1 rs)(m:∀x∈qs z,Kn x.1 x.2 K wa)(o:∀x∈qs z,∀b∈bl y.1,b∉M6 x.1)(l:wa.heap.size=u.heap.size)(k:∀b,b∉bl y.1->wa.heap[b]? =u.heap[b]?)(v:K6 u B e s z'.1 (rs.length+1) z'.2 ((rs++ [z]).flatMap cl)):Mj e s cl qs B K z' (rs++ [z]) u:=by
 refine⟨by rw[AA];exact v,λq A x c=> ?_⟩;rcases AN.1 A with f|f
 .exact(h.num q f x c).leftL l k λb g j=>p q f x c b j g
 .obtain rfl:q=z:=by simpa using f
  exact(m x c).leftL l k λb g j=>o x c b j g
theorem Mj.perm(h:Mj e s cl qs B K y rs wa)(j:Xd qs y.1 rs)(f:rs'.Perm rs)(l:wa.heap.size=u.heap.size)(k:∀b,b∉bl y.1->wa.heap[b]? =u.heap[b]?)(m:K6 u B e s y.1 rs.length y.2 (rs'.flatMap cl)):Mj e s cl qs B K y rs' u:=
 ⟨by rw[f.length_eq];exact m,λq g x c=>(h.num q (f.mem_iff.1 g) x c).leftL l k λb o p=>j q (f.mem_iff.1 g) x c b p o⟩
theorem Mj.left{L:List Nat}(h:Mj e s cl qs B K y rs wa)(l:∀b∈bl y.1,b∉L)(k:∀z∈rs,∀x∈qs z,∀b∈M6 x.1,b∉L)(j:wa.heap.size=u.heap.size)(g:∀b,b∉L->wa.heap[b]? =u.heap[b]?):Mj e s cl qs B K y rs u:=
 ⟨h.own.left g l,λz f x c=>(h.num z f x c).leftL j g (k z f x c)⟩
theorem Mj.mono(h:Mj e s cl qs B K y rs u)(c:N<=B):Mj e s cl qs N K y rs u:=⟨h.own.rebase λb f=>AH c (h.own.lt b f).1,h.num⟩
theorem Mj.rows(h:Mj e s cl qs B K y rs u)(b:∀x,(cl x).length=s):Kk u y.1 rs.length s cl rs:=h.own.reads.rows b rfl
theorem Mj.some(h:Mj e s cl qs B K y rs u)(f:rs≠[]):∃g,y.1=some ⟨g,0,none⟩:=by
 rcases h.own.2 with ⟨b,j⟩|⟨g,cap,c,b,_⟩
 .injection b with _ h3 _;exact absurd (List.eq_nil_of_length_eq_zero h3) f
 .injection b with b _ _;exact⟨g,b⟩
end
def Qu(z:Oi):List RQ:=[(z.1.1,z.2.1),(z.1.2,z.2.2)]
def Vf(z:Qg):List RQ:=[(z.1,z.2.1)]
section
variable{w w1 W:YM}{A:YY}{n c N K:Nat}{y:YZ}
theorem cU{g:Nat}{j:List Oi}(m:∀z∈j,∀x∈Qu z,Kn x.1 x.2 K w)(p:∀z∈j,∀x∈Qu z,g∉M6 x.1)(v:2<=K/\K+K<=68719476736):Z0 Lg 359 Lc j g w:=λW' o u x s y t=>by
 have h:∀z∈j,∀q∈Qu z,Kn q.1 q.2 K W':=λz k q f=>(m z k q f).same o λb l=>u b (Og (m z k q f) b l) λe=>p z k q f (e▸l)
 exact QU (h x s (x.1.1,x.2.1) (by simp[Qu])).q (h y t (y.1.1,y.2.1) (by simp[Qu])).q v
theorem eF{g:Nat}{j:List Qg}(m:∀z∈j,∀x∈Vf z,Kn x.1 x.2 K w)(p:∀z∈j,∀x∈Vf z,g∉M6 x.1)(v:2<=K/\K+K<=68719476736):Z0 Mb 362 Ld j g w:=λW' o u x s y t=>by
 have h:∀z∈j,∀q∈Vf z,Kn q.1 q.2 K W':=λz k q f=>(m z k q f).same o λb l=>u b (Og (m z k q f) b l) λe=>p z k q f (e▸l)
 exact QQ (x:=(x.1,x.2.2)) (y:=(y.1,y.2.2)) (h x s (x.1,x.2.1) (by simp[Vf])).q (h y t (y.1,y.2.1) (by simp[Vf])).q v
theorem eZ{f:List Oi}(p:Below W.heap.size W w1)(h:Mj 411 8 Lg Qu W.heap.size K y f w1)(t:Xd Qu y.1 f)(D:f.length<=1000000000)(G:2<=K/\K+K<=68719476736):
 Ca 358 #[.slice y.1 f.length y.2,.func (.func 359) #[] #[]] w1 (L4 w1 (bl y.1) (λ_:{M:List Oi // M.Perm f/\NL (ltOf Lc) M}=> .tuple #[]) λM u=>K6 u W.heap.size 411 8 y.1 f.length y.2 (M.1.flatMap Lg)):=by
 by_cases m:f=[]
 .subst m;refine(a_ (c:=y.2) (A:=y.1)).mono λe J s=> ?_
  obtain⟨_,rfl,j,_⟩:=s;exact⟨⟨[],.refl _,List.Pairwise.nil⟩,rfl,⟨j.os,j.tape,j.output,j.size,λk h _=>j.block k h⟩,λF H k2=>h.own.same λb l=>(k2 b (.inl l)).trans (j.block b (h.own.lt b l).2)⟩
 .obtain⟨g,v⟩:=h.some m;obtain⟨A,c⟩:=y;obtain rfl:A=some ⟨g,0,none⟩:=v;have B:0<f.length:=CN.2 m;exact fL p ((h.own.lt g (by simp[bl])).1) h.own rfl B D (cU h.num (λz o x E=>t z o x E g (by simp[bl])) G)
theorem fa{f:List Qg}(p:Below W.heap.size W w1)(h:Mj 415 5 Mb Vf W.heap.size K y f w1)(t:Xd Vf y.1 f)(D:f.length<=1000000000)(G:2<=K/\K+K<=68719476736):
 Ca 361 #[.slice y.1 f.length y.2,.func (.func 362) #[] #[]] w1 (L4 w1 (bl y.1) (λ_:{M:List Qg // M.Perm f/\NL (ltOf Ld) M}=> .tuple #[]) λM u=>K6 u W.heap.size 415 5 y.1 f.length y.2 (M.1.flatMap Mb)):=by
 by_cases m:f=[]
 .subst m;refine(bm (c:=y.2) (A:=y.1)).mono λe J s=> ?_
  obtain⟨_,rfl,j,_⟩:=s;exact⟨⟨[],.refl _,List.Pairwise.nil⟩,rfl,⟨j.os,j.tape,j.output,j.size,λk h _=>j.block k h⟩,λF H k2=>h.own.same λb l=>(k2 b (.inl l)).trans (j.block b (h.own.lt b l).2)⟩
 .obtain⟨g,v⟩:=h.some m;obtain⟨A,c⟩:=y;obtain rfl:A=some ⟨g,0,none⟩:=v;have B:0<f.length:=CN.2 m;exact a8 p ((h.own.lt g (by simp[bl])).1) h.own rfl B D (eF h.num (λz o x E=>t z o x E g (by simp[bl])) G)
end
def Au(t:XX)(p:XR)(f:Nat):Sem Next:=Instr.fieldAt t (.pointer (some p)) f >>= λv=>pure (.value v)
theorem Bt{P:YH}{t:XX}{p:XR}{f d:Nat}{w:YM}(h:Rw P t f 0 0=some ⟨.p 0 (0+d),none⟩):(Au t p f).run P w= .ok (.value (.pointer (some (p.add d)))) w:=by
 unfold Rw at h;split at h
 .rename_i k j;split at h
  .rename_i e c;split at h
   .rename_i n g;injection h with h;injection h with h _;injection h with _ h;rw[BV,BV]at h;have b:(Instr.fieldAt t (.pointer (some p)) f).run P w= .ok (.pointer (some (p.add e.offset))) w:=by
     simp only[Instr.fieldAt,BF,run_underlying j,AU,c,Instr.sureAddr,BG,fieldPlace,Lb g,Nat.add_one_ne_zero,if_false]
    simp only[Au,BF,b,AU,BG,h]
   .cases h
  .cases h
 .cases h
theorem R0{g k fi d:Nat}{t:XX}{u:YM}(h:Rw XM t fi 0 0=some ⟨.p 0 (0+d),none⟩):(Au t ⟨g,k,none⟩ fi).run XM u= .ok (.value (.pointer (some ⟨g,k+d,none⟩))) u:=by
 rw[Bt h,Addr.add_mid]
theorem eG{u:YM}{g i:Nat}{z:Oi}(h:u.rangeAt g (i*8) (Lg z)):u.rangeAt g (i*8+4) z.1.2.cl:=λj v b=>by
 have:=h (4+j) v (by show(z.1.1.cl++z.1.2.cl)[4+j]? =some v;rw[BN (by show 4<=4+j;omega)];show z.1.2.cl[4+j-4]? =some v;rw[BQ];exact b);rw[<-Nat.add_assoc]at this;exact this
theorem jG(o:List Oi)(t s:Oi):((o++ [t]).flatMap Lg).take (o.length*8+4)++s.1.2.val.cells.toList++((o++ [t]).flatMap Lg).drop (o.length*8+4+s.1.2.val.cells.toList.length)=(o++ [((t.1.1,s.1.2),(t.2.1,s.2.2))]).flatMap Lg:=by
 have b:=Nq M7 o;have g:s.1.2.val.cells.toList=s.1.2.cl:=rfl;have f:s.1.2.cl.length=4:=rfl;have e:(o++ [t]).flatMap Lg=o.flatMap Lg++(t.1.1.cl++t.1.2.cl):=by rw[List.flatMap_append];simp[Lg,rB]
 have c:(o++ [((t.1.1,s.1.2),(t.2.1,s.2.2))]).flatMap Lg=o.flatMap Lg++(t.1.1.cl++s.1.2.cl):=by rw[List.flatMap_append];simp[Lg,rB]
 rw[g,f,e,c,List.take_append,AX I,b,BQ,BS (by rw[AA,b];show o.length*8+(4+4)<=_;omega),CA,AO]
 rfl
def Af(M os:List Oi):Prop:=∀o∈os,(∃s∈M,o.1.1=s.1.1/\o.2.1=s.2.1)/\∃s∈M,o.1.2=s.1.2/\o.2.2=s.2.2
section
variable{w u:YM}{A:YY}{n c N K B:Nat}{y:YZ}{M os:List Oi}
theorem Af.num(h:Af M os)(f:∀z∈M,∀x∈Qu z,Kn x.1 x.2 K u):∀z∈os,∀x∈Qu z,Kn x.1 x.2 K u:=λz g x e=>by
 obtain⟨⟨s,o,l,j⟩,b,p,k,m⟩:=h z g;simp only[Qu,AQ,List.mem_nil_iff,or_false]at e;rcases e with rfl|rfl
 .show Kn z.1.1 z.2.1 K u;rw[l,j];exact f s o (s.1.1,s.2.1) (by simp[Qu])
 .show Kn z.1.2 z.2.2 K u;rw[k,m];exact f b p (b.1.2,b.2.2) (by simp[Qu])
theorem Af.snoc(h:Af M os){s:Oi}(e:s∈M):Af M (os++ [s]):=λo f=>by
 rcases AN.1 f with b|b
 .exact h o b
 .obtain rfl:o=s:=by simpa using b
  exact⟨⟨o,e,rfl,rfl⟩,o,e,rfl,rfl⟩
theorem Af.ap{A:YY}(h:Af M os)(g:Xd Qu A M):Xd Qu A os:=λz j x f=>by
 obtain⟨⟨s,m,l,p⟩,e,o,k,t⟩:=h z j;simp only[Qu,AQ,List.mem_nil_iff,or_false]at f;rcases f with rfl|rfl
 .show∀b∈bl A,b∉M6 z.1.1;rw[l];exact g s m (s.1.1,s.2.1) (by simp[Qu])
 .show∀b∈bl A,b∉M6 z.1.2;rw[k];exact g e o (e.1.2,e.2.2) (by simp[Qu])
theorem pf{z:YZ}{s:Oi}{E:Nat}(h:K6 u B 411 8 z.1 os.length z.2 (os.flatMap Lg))(p:Mj 411 8 Lg Qu B K y M u)(o:(∀b∈bl z.1,b∉bl y.1)/\Xd Qu z.1 M)(Z:B<=u.heap.size)(F:Kw 411 (Lg s).toArray E u)(J:os.length<=99999999):
 Mv XM u (bl z.1) (λz':YZ=> .slice z'.1 (os.length+1) z'.2) (λz' v=>K6 v B 411 8 z'.1 (os.length+1) z'.2 ((os++ [s]).flatMap Lg)/\(∀b∈bl z'.1,b∉bl y.1)/\Xd Qu z'.1 M) (My 375 375 (.slice z.1 os.length z.2) (Kr 1 E)):=by
 have l:=M2 (P:=XM) (s:=8) (z:= .agg (Lg (((Ou,Ou),(0,0)):Oi)).toArray) (bytes:=128) (m:=1) (cc:=1) (t:=375) (elem:=411) O O rfl Zd h Z (Mc (n:=1) F rfl) (λv G=>Rp s v (by simpa using G)) I Zd;have H:(os++ [s]).flatMap Lg=os.flatMap Lg++(Lg s).toArray.toList:=Zs
 rw[H];refine O7 l λz' g=>⟨λb k e=> ?_,λq D x f b k e=> ?_⟩
 .rcases g b k with j|j
  .exact o.1 b j e
  .have:=(p.own.lt b e).2;omega
 .rcases g b k with j|j
  .exact o.2 q D x f b j e
  .have:=Og (p.num q D x f) b e;omega
theorem VJ{Z:List Oi}(hr:Kk w A n 8 Lg Z)(hq:∀z∈Z,Nf z.1.1 z.2.1 K w/\Nf z.1.2 z.2.2 K w)(hn:n<=10000000)(U:2<=K/\K+K<=68719476736)(hN:N<=w.heap.size):
 Ca 328 #[.slice A n c] w (K4 w (λr:(YZ)×{r:List Oi // r.map (·.2)=Vj (Z.map (·.2))/\r.length<=n}=> .slice r.1.1 r.2.1.length r.1.2) λr u=>Mj 411 8 Lg Qu N K r.1 r.2.1 u/\Xd Qu r.1.1 r.2.1):=by
 refine uf func328 rfl<|ZR<|uj (ι:={q:Nat×(YZ)×List Oi // (q.1<=n/\q.2.2.length<=q.1)/\q.2.2.map (·.2)=((Z.take q.1).map (·.2)).filter GL/\Xd Qu q.2.1.1 q.2.2}) 80 (λq=>⟨[vS 3 q.1.2.1.1 q.1.2.2.length q.1.2.1.2,vS 10 A n c,vI 11 n,vI 12 (q.1.1:Int)],[]⟩) (λq u=>Mj 411 8 Lg Qu w.heap.size K q.1.2.1 q.1.2.2 u) (λq=>n-q.1.1) (⟨(0,(none,0),[]),⟨AK _,AK _⟩,rfl,vW⟩) O Zf Zt (λ_ _=>vX) ?_
 rintro⟨⟨k,y,E⟩,⟨hk,hrl⟩,hrs,J⟩ gg;have hk:k<=n:=hk;have hrl:E.length<=k:=hrl;have hrs:E.map (·.2)=((Z.take k).map (·.2)).filter GL:=hrs
 have J:Xd Qu y.1 E:=J
 by_cases Y:k<n
 .obtain⟨z,hz⟩:∃z,Z[k]? =some z:=⟨_,AD (by rw[hr.1];exact Y)⟩
  obtain⟨ad,hA,W⟩:=hr.2 k z hz;have hqz:=hq z (AE hz);have htk:((Z.take (k+1)).map (·.2)).filter GL=((Z.take k).map (·.2)).filter GL++(if GL z.2 then [z.2]else []):=by
   rw[L7 hz,BM,List.filter_append];simp[List.filter_cons]
  refine ZR<|YL ((k:Int)<(n:Int))<|ZA (Kd 375 (.slice A n c) k) (.pointer (some (ad.add (k*8)))) (λD f h=>by rw[hA];exact L9 (elem:=411) O O Y)<|ZA (Ke 411 (ad.add (k*8))) (.agg (Lg z).toArray) (λD f h=>Mh (vs:=Lg z) O O λj v hj=>L5 f (W j v hj)) ?_
  cases ho:GL z.2
  .refine ZC (λD f h=>Lv (hqz.1.below f) (hqz.2.below f) ⟨U.1,U.1,U.2⟩) λc1=>ZJ (decide (Kv z.2.1 z.2.2<0)) false (by rw[Rk];exact ho)<|YA 12 k Y<|ui (⟨(k+1,y,E),⟨Y,Zn⟩,by show E.map (·.2)=((Z.take (k+1)).map (·.2)).filter GL;rw[htk,ho,hrs];simp,J⟩) O Zn Zt (λ_ h=>h.1)
  refine ZC (λD f h=>Lv (hqz.1.below f) (hqz.2.below f) ⟨U.1,U.1,U.2⟩) λc1=>ZJ (decide (Kv z.2.1 z.2.2<0)) true (by rw[Rk];exact ho)<|ZC (λD f h=>(Lj (hqz.1.below f) ⟨U.1,by omega⟩).mono λe w' k=>K4.apt (R:=λr=>∀b∈bl y.1,b∉M6 r) k (λr=>M6 r) (λr u k=>k.blk) (λr hr b T W=>by have:=(h.1.own.lt b T).2;have:=hr b W;omega)) λr1=> ?_
  refine ZC (λD f h=>(Lj (hqz.2.below f) ⟨U.1,by omega⟩).mono λe w' k=>K4.apt (R:=λr=>∀b∈bl y.1,b∉M6 r) k (λr=>M6 r) (λr u k=>k.blk) (λr hr b T W=>by have:=(h.1.1.own.lt b T).2;have:=hr b W;omega)) λr2=> ?_
  have hfx:∀{v:YM},Kn r1 z.2.1 K v->Kn r2 z.2.2 K v->∀x∈Qu (((r1,r2),z.2):Oi),Kn x.1 x.2 K v:=λh1 h2 x hx=>by
   simp only[Qu,AQ,List.mem_nil_iff,or_false]at hx;rcases hx with rfl|rfl
   .exact h1
   .exact h2
  have hfa:(∀b∈bl y.1,b∉M6 r1)->(∀b∈bl y.1,b∉M6 r2)->∀x∈Qu (((r1,r2),z.2):Oi),∀b∈bl y.1,b∉M6 x.1:=λh1 h2 x hx=>by
   simp only[Qu,AQ,List.mem_nil_iff,or_false]at hx;rcases hx with rfl|rfl
   .exact h1
   .exact h2
  refine uk (Lr 375 1 #[(0,.agg (Lg (((r1,r2),z.2):Oi)).toArray)]) (Kr 1) (Kw 411 (Lg (((r1,r2),z.2):Oi)).toArray) O (λD f h=>Kj O) λgb=>ZS 9<|uQ (L:=bl y.1) (val:=λz':YZ=> .slice z'.1 (E.length+1) z'.2) (Φ':=λz' u=>Mj 411 8 Lg Qu w.heap.size K z' (E++ [((r1,r2),z.2)]) u/\Xd Qu z'.1 (E++ [((r1,r2),z.2)])) (G:=λz' v=>K6 v w.heap.size 411 8 z'.1 (E.length+1) z'.2 ((E++ [((r1,r2),z.2)]).flatMap Lg)/\Xd Qu z'.1 (E++ [((r1,r2),z.2)])/\∀b∈bl z'.1,b∈bl y.1\/0<=b) (My 375 375 (.slice y.1 E.length y.2) (Kr 1 gb)) (λD f h=>Mj.app (z0:= .agg (Lg (((Ou,Ou),(0,0)):Oi)).toArray) (bytes:=128) O O rfl Zd Zd M7 Rp h.1.1.1.1 J f.size (AK _) (hfx h.1.1.2.1 h.1.2.1) (hfa h.1.1.2.2 h.1.2.2) h.2 I) (λu h=>h.1.1.1.1.own.blk) (λz' wa u e1 e2 h hG=>⟨Mj.next h.1.1.1.1 J (hfx h.1.1.2.1 h.1.2.1) (hfa h.1.1.2.2 h.1.2.2) e1 e2 hG.1,hG.2.1⟩) O O λz'=>ZR<|um (p:=Xd Qu z'.1 (E++ [((r1,r2),z.2)])) (λu hu h=>h.2) O λhap2=>YA 12 k Y<|uh 3 (.slice z'.1 (E.length+1) z'.2) (.slice z'.1 (E++ [(((r1,r2),z.2):Oi)]).length z'.2) O (by rw[AA];rfl)<|ui (⟨(k+1,z',E++ [((r1,r2),z.2)]),⟨Y,by show(E++ [(((r1,r2),z.2):Oi)]).length<=k+1;rw[AA];simp;omega⟩,by show(E++ [(((r1,r2),z.2):Oi)]).map (·.2)=((Z.take (k+1)).map (·.2)).filter GL;rw[htk,ho,BM,hrs];rfl,hap2⟩) O Zn Zt (λ_ h=>h.1)
 obtain rfl:k=n:=I
 have hrs2:E.map (·.2)=(Z.map (·.2)).filter GL:=by rw[hrs,AX (by rw[hr.1];exact AC _)]
 refine ZR<|YN ((k:Int)<(k:Int))<|ug O<|ZR<|uD (L:=bl y.1) (val:=λ_:{M:List Oi // M.Perm E/\NL (ltOf Lc) M}=> .tuple #[]) (G:=λM u=>K6 u w.heap.size 411 8 y.1 E.length y.2 (M.1.flatMap Lg)) (Φ':=λM u=>Mj 411 8 Lg Qu w.heap.size K y M.1 u) (λD f h=>eZ f h J I U) (λu h=>h.own.blk) (λM wa u e1 e2 h hG=>Mj.perm h J M.2.1 e1 e2 hG) O O (λM=> ?_)
 obtain⟨M,hMp,hMs⟩:=M;have hml:M.length=E.length:=hMp.length_eq;have hapM:Xd Qu y.1 M:=λz hz=>J z (hMp.mem_iff.1 hz)
 have hres:(M.map (·.2)).foldl Np []=Vj (Z.map (·.2)):=eO (by rw[<-hrs2];exact hMp.map _) (by
  unfold NL at hMs ⊢;rw[List.pairwise_map];exact hMs.imp λ{a b} hab=>by rw[<-hab];unfold Bm ltOf Lc;exact Rk.symm)
 refine ZT 3 (.slice y.1 E.length y.2) (.slice y.1 M.length y.2) (by rw[hml])<|uj (ι:={q:Nat×(YZ)×List Oi // (q.1<=M.length/\q.2.2.length<=q.1)/\q.2.2.map (·.2)=((M.take q.1).map (·.2)).foldl Np []/\Af M q.2.2/\(∀b∈bl q.2.1.1,b∉bl y.1)/\Xd Qu q.2.1.1 M}) 80 (λq=>⟨[vS 6 q.1.2.1.1 q.1.2.2.length q.1.2.1.2,vS 35 y.1 M.length y.2,vI 36 (M.length:Int),vI 37 (q.1.1:Int)],[]⟩) (λq u=>Mj 411 8 Lg Qu w.heap.size K y M u/\K6 u w.heap.size 411 8 q.1.2.1.1 q.1.2.2.length q.1.2.1.2 (q.1.2.2.flatMap Lg)) (λq=>M.length-q.1.1) (⟨(0,(none,0),[]),⟨AK _,AK _⟩,rfl,(λo ho=>by cases ho),(λb T=>by cases T),λz hz x hx b T=>by cases T⟩) O Zf Zt (λu h=>⟨h,uG⟩) ?_
 rintro⟨⟨k2,z,os⟩,⟨hk2,hol⟩,hos,F,S,wI⟩ gg2;have hk2:k2<=M.length:=hk2;have hol:os.length<=k2:=hol;have hos:os.map (·.2)=((M.take k2).map (·.2)).foldl Np []:=hos
 have F:Af M os:=F;have S:∀b∈bl z.1,b∉bl y.1:=S;have wI:Xd Qu z.1 M:=wI
 by_cases m:k2<M.length
 case neg=>
  obtain rfl:k2=M.length:=I
  rw[AX (AC _),hres]at hos;refine ZR<|YN ((M.length:Int)<(M.length:Int))<|ug O<|ZR<|ZV (.slice z.1 os.length z.2) (λD f h=>⟨(z,⟨os,hos,by omega⟩),rfl,f,λw'' k1 k2=>⟨Mj.mono ⟨(h w'' k1 k2).2,F.num (h w'' k1 k2).1.num⟩ hN,F.ap wI⟩⟩)
 obtain⟨s,hs⟩:∃s,M[k2]? =some s:=⟨_,AD m⟩
 have hsm:=AE hs;have htk:((M.take (k2+1)).map (·.2)).foldl Np []=Np (os.map (·.2)) s.2:=by
  rw[L7 hs,BM,List.foldl_append,<-hos];rfl
 refine um (p:=∃g,y.1=some ⟨g,0,none⟩) (λu hu h=>h.1.some (by intro e;rw[e]at m;simp at m)) O (λhyg=> ?_);obtain⟨gy,hgy⟩:=hyg;have nums:∀{v:YM},Mj 411 8 Lg Qu w.heap.size K y M v->Kn s.1.1 s.2.1 K v/\Kn s.1.2 s.2.2 K v:=λh=>⟨h.num s hsm (s.1.1,s.2.1) (by simp[Qu]),h.num s hsm (s.1.2,s.2.2) (by simp[Qu])⟩
 refine ZR<|YL ((k2:Int)<(M.length:Int))<|ZA (Kd 375 (.slice y.1 M.length y.2) k2) (.pointer (some ⟨gy,k2*8,none⟩)) (λD f h=>by rw[hgy];exact Kc (elem:=411) O O m) ?_
 have elY:∀{v:YM},Mj 411 8 Lg Qu w.heap.size K y M v->v.rangeAt gy (k2*8) (Lg s):=λh=>by
  have h2:=h.own;rw[hgy]at h2;exact Ln M7 h2 I hs
 refine uw (Ke 411 ⟨gy,k2*8,none⟩) (.agg (Lg s).toArray) O (λD f h=>Ka (vs:=Lg s) O O (elY h.1))<|ZS 0 ?_
 have wJ:∀l:List Oi,∀q:Oi,(l++ [q]).map (·.2)=l.map (·.2)++ [q.2]:=λl q=>by rw[BM];rfl
 refine vq (ι:={x:Nat->AV // Np (os.map (·.2)) s.2=os.map (·.2)++ [s.2]}) (λx c=>O9 [9,41,42,43,44,45,46,47,48,49,50,51,52,53,54,55,56] x.1 (Ky 57 (.slice z.1 os.length z.2) (Ky 6 (.slice z.1 os.length z.2) (Lw XM 2 1000 (V6 true (Lw XM 1000 1000 (Ky 6 (.slice z.1 0 z.2) c))))))) (λkk=> ?_) (λx=> ?_)
 .rcases List.eq_nil_or_concat os with h0|⟨o,t,h0⟩
  .subst h0;exact ZT 6 (.slice z.1 ([]:List Oi).length z.2) (.slice z.1 0 z.2) (rfl)<|uu true O<|ZS 2<|uh 6 (.slice z.1 0 z.2) (.slice z.1 ([]:List Oi).length z.2) O (rfl)<|uh 57 (.slice z.1 0 z.2) (.slice z.1 ([]:List Oi).length z.2) O (rfl)<|uC [9,41,42,43,44,45,46,47,48,49,50,51,52,53,54,55,56] λx=>K0.eq (kk ⟨x,rfl⟩) O
  rw[List.concat_eq_append]at h0;subst h0;have H:(o++ [t]).length=o.length+1:=by rw[AA];rfl
  have numt:∀{v:YM},Mj 411 8 Lg Qu w.heap.size K y M v->Kn t.1.2 t.2.2 K v:=λh=>F.num h.num t Zs (t.1.2,t.2.2) (by simp[Qu])
  have Q:Np ((o++ [t]).map (·.2)) s.2=if t.2.2<s.2.1 then o.map (·.2)++ [t.2]++ [s.2]else if t.2.2<s.2.2 then o.map (·.2)++ [(t.2.1,s.2.2)]else o.map (·.2)++ [t.2]:=by
   rw[wJ];unfold Np;rw[List.getLast?_append,List.getLast?_singleton,Option.some_or];dsimp only;rw[List.dropLast_concat]
  refine um (p:=∃g,z.1=some ⟨g,0,none⟩) (λu hu h=>(Mj.mk h.2 (F.num h.1.num):Mj 411 8 Lg Qu w.heap.size K z (o++ [t]) u).some Zs) O (λhzg=> ?_);obtain⟨gz,X⟩:=hzg;have elZ:∀{v:YM},K6 v w.heap.size 411 8 z.1 (o++ [t]).length z.2 ((o++ [t]).flatMap Lg)->v.rangeAt gz (o.length*8+4) t.1.2.cl:=λh=>by
   rw[X]at h;exact eG (Ln M7 h I (by rw[BN (AC _)];simp))
  refine ZT 6 (.slice z.1 (o++ [t]).length z.2) (.slice z.1 (o.length+1) z.2) (by rw[H])<|YB 48 (((o.length+1:Nat):Int)-1) (o.length:Int)<|us 6 (Kd 375 (.slice z.1 (o.length+1) z.2) o.length) (.pointer (some ⟨gz,o.length*8,none⟩)) O (λD f h=>by rw[X];exact Kc (elem:=411) O O I)<|ZS 7<|us 7 (Au 411 ⟨gz,o.length*8,none⟩ 1) (.pointer (some ⟨gz,o.length*8+4,none⟩)) O (λD f h=>R0 (d:=4) O)<|ZS 7<|ZB 8 (Ke 53 ⟨gz,o.length*8+4,none⟩) (t.1.2.val) (λD f h=>Ka (vs:=t.1.2.cl) O O (elZ h.2))<|ZC (λD f h=>Lv (numt h.1).q (nums h.1).1.q ⟨U.1,U.1,U.2⟩) λc1=> ?_
  by_cases hts:t.2.2<s.2.1
  .exact ul (decide (Kv t.2.2 s.2.1<0)) true O (by rw[Rk,YU hts])<|ZS 2<|uh 6 (.slice z.1 (o.length+1) z.2) (.slice z.1 (o++ [t]).length z.2) O (by rw[H])<|uh 57 (.slice z.1 (o.length+1) z.2) (.slice z.1 (o++ [t]).length z.2) O (by rw[H])<|uN O (λu h=>h.1)<|uC [9,41,42,43,44,45,46,47,48,49,50,51,52,53,54,55,56] λx=>K0.eq (kk ⟨x,by rw[Q,YS hts,wJ]⟩) O
  rw[YT hts]at Q;refine ZJ (decide (Kv t.2.2 s.2.1<0)) false (by rw[Rk,YV hts])<|YB 63 (((o.length+1:Nat):Int)-1) (o.length:Int)<|us 3 (Kd 375 (.slice z.1 (o.length+1) z.2) o.length) (.pointer (some ⟨gz,o.length*8,none⟩)) O (λD f h=>by rw[X];exact Kc (elem:=411) O O I)<|ZS 4<|us 4 (Au 411 ⟨gz,o.length*8,none⟩ 1) (.pointer (some ⟨gz,o.length*8+4,none⟩)) O (λD f h=>R0 (d:=4) O)<|ZS 4<|ZB 5 (Ke 53 ⟨gz,o.length*8+4,none⟩) (t.1.2.val) (λD f h=>Ka (vs:=t.1.2.cl) O O (elZ h.1.2))<|ZC (λD f h=>Lv (numt h.1.1).q (nums h.1.1).2.q ⟨U.1,U.1,U.2⟩) λc2=> ?_
  by_cases ht2:t.2.2<s.2.2
  case neg=>
   rw[YT ht2]at Q;refine ZJ (decide (Kv t.2.2 s.2.2<0)) false (by rw[Rk,YV ht2])<|uh 6 (.slice z.1 (o.length+1) z.2) (.slice z.1 (o++ [t]).length z.2) O (by rw[H])<|YA 37 k2 m<|ui (⟨(k2+1,z,o++ [t]),⟨m,Zn⟩,by show(o++ [t]).map (·.2)=((M.take (k2+1)).map (·.2)).foldl Np [];rw[htk,Q,wJ],F,S,wI⟩) O Zn Zt (λ_ h=>h.1.1)
  rw[YS ht2]at Q;have hl2:(o++ [(((t.1.1,s.1.2),(t.2.1,s.2.2)):Oi)]).length=o.length+1:=by rw[AA];rfl
  have hfs2:Af M (o++ [(((t.1.1,s.1.2),(t.2.1,s.2.2)):Oi)]):=λq hq=>by
   rcases AN.1 hq with h4|h4
   .exact F q (by simp[h4])
   .obtain rfl:q=((t.1.1,s.1.2),(t.2.1,s.2.2)):=by simpa using h4
    exact⟨(F t Zs).1,s,hsm,rfl,rfl⟩
  refine ul (decide (Kv t.2.2 s.2.2<0)) true O (by rw[Rk,YU ht2])<|ZS 5<|YB 73 (((o.length+1:Nat):Int)-1) (o.length:Int)<|uw (Kd 375 (.slice z.1 (o.length+1) z.2) o.length) (.pointer (some ⟨gz,o.length*8,none⟩)) O (λD f h=>by rw[X];exact Kc (elem:=411) O O I)<|ZS 6<|uw (Au 411 ⟨gz,o.length*8,none⟩ 1) (.pointer (some ⟨gz,o.length*8+4,none⟩)) O (λD f h=>R0 (d:=4) O)<|ZS 7 ?_
  refine ur (L:=bl z.1) (G:=λu=>K6 u w.heap.size 411 8 z.1 (o.length+1) z.2 ((o++ [((t.1.1,s.1.2),(t.2.1,s.2.2))]).flatMap Lg)) (Φ':=λu=>Mj 411 8 Lg Qu w.heap.size K y M u/\K6 u w.heap.size 411 8 z.1 (o.length+1) z.2 ((o++ [((t.1.1,s.1.2),(t.2.1,s.2.2))]).flatMap Lg)) (Om 53 ⟨gz,o.length*8+4,none⟩ s.1.2.val) (λD f h=>by
   have h2:K6 D w.heap.size 411 8 z.1 (o++ [t]).length z.2 ((o++ [t]).flatMap Lg):=h.1.1.2;rw[H,X]at h2;have h3:=h2.storeN (P:=XM) (t:=53) (v:=s.1.2.val) (j:=o.length*8+4) O (by rw[Nq M7,H];show o.length*8+4+4<=(o.length+1)*8;omega) (λv hv=>by have hv:v∈s.1.2.cl:=hv;simp[RV.cl]at hv;rcases hv with rfl|rfl|rfl|rfl<;>rfl);rw[jG o t s]at h3;rw[X];exact h3) (λu h=>h.1.1.2.blk) (λwa u e1 e2 h hG=>⟨h.1.1.1.left (λb T W=>S b W T) (λq hq x hx b T W=>wI q hq x hx b W T) e1 e2,hG⟩) O O ?_
  refine ZR<|uh 6 (.slice z.1 (o.length+1) z.2) (.slice z.1 (o++ [(((t.1.1,s.1.2),(t.2.1,s.2.2)):Oi)]).length z.2) O (by rw[hl2])<|YA 37 k2 m<|ui (⟨(k2+1,z,o++ [((t.1.1,s.1.2),(t.2.1,s.2.2))]),⟨m,Zn⟩,by show(o++ [(((t.1.1,s.1.2),(t.2.1,s.2.2)):Oi)]).map (·.2)=((M.take (k2+1)).map (·.2)).foldl Np [];rw[htk,Q,wJ],hfs2,S,wI⟩) O Zn Zt (λu h=>⟨h.1,by show K6 u w.heap.size 411 8 z.1 (o++ [(((t.1.1,s.1.2),(t.2.1,s.2.2)):Oi)]).length z.2 ((o++ [(((t.1.1,s.1.2),(t.2.1,s.2.2)):Oi)]).flatMap Lg);rw[hl2];exact h.2⟩)
 obtain⟨xj,Q⟩:=x;refine uk (Lr 375 1 #[(0,.agg (Lg s).toArray)]) (Kr 1) (Kw 411 (Lg s).toArray) O (λD f h=>Kj O) λgb=>ZS 3<|uA (L:=bl z.1) (val:=λz':YZ=> .slice z'.1 (os.length+1) z'.2) (Φ':=λz' u=>Mj 411 8 Lg Qu w.heap.size K y M u/\K6 u w.heap.size 411 8 z'.1 (os.length+1) z'.2 ((os++ [s]).flatMap Lg)/\(∀b∈bl z'.1,b∉bl y.1)/\Xd Qu z'.1 M) (G:=λz' v=>K6 v w.heap.size 411 8 z'.1 (os.length+1) z'.2 ((os++ [s]).flatMap Lg)/\(∀b∈bl z'.1,b∉bl y.1)/\Xd Qu z'.1 M) (My 375 375 (.slice z.1 os.length z.2) (Kr 1 gb)) (λD f h=>pf h.1.2 h.1.1 ⟨S,wI⟩ f.size h.2 I) (λu h=>h.1.2.blk) (λz' wa u e1 e2 h hG=>⟨h.1.1.left (λb T W=>S b W T) (λq hq x hx b T W=>wI q hq x hx b W T) e1 e2,hG⟩) O O λz'=>ZR<|um (p:=(∀b∈bl z'.1,b∉bl y.1)/\Xd Qu z'.1 M) (λu hu h=>h.2.2) O λhz2=>uh 6 (.slice z'.1 (os.length+1) z'.2) (.slice z'.1 (os++ [s]).length z'.2) O (by rw[AA];rfl)<|YA 37 k2 m<|ui (⟨(k2+1,z',os++ [s]),⟨m,by show(os++ [s]).length<=k2+1;rw[AA];simp;omega⟩,by show(os++ [s]).map (·.2)=((M.take (k2+1)).map (·.2)).foldl Np [];rw[htk,Q,wJ],F.snoc hsm,hz2.1,hz2.2⟩) O Zn Zt (λu h=>⟨h.1,by show K6 u w.heap.size 411 8 z'.1 (os++ [s]).length z'.2 ((os++ [s]).flatMap Lg);rw[AA];exact h.2.1⟩)
end
section
variable{w:YM}{A:YY}{n c K:Nat}{a b:RV}{p q:Rat}
theorem iK{p q:Rat}(h:¬q<p):Kv p q≠1:=λe=>by
 unfold Kv at e;split at e
 .cases e
 .split at e
  .cases e
  .exact h (by grind)
theorem iP{p q:Rat}(h:¬p<q):Kv p q≠-1:=λe=>by
 unfold Kv at e;split at e
 .exact h (by assumption)
 .split at e<;>cases e
theorem tk{K n:Nat}(e:n<=1000)(f:K<=1000000):2+n*(2*K+2)<=2001000002:=by
 have:=CT e (show 2*K+2<=2000002 by omega);omega
theorem fS{Z:List Oi}(hr:Kk w A n 8 Lg Z)(hq:∀z∈Z,Nf z.1.1 z.2.1 K w/\Nf z.1.2 z.2.2 K w)(ha:Nf a p K w)(hb:Nf b q K w)(hn:n<=1000)(E:2<=K/\K<=1000000):
 Ca 298 #[.slice A n c,a.val,b.val] w (K4 w RV.val λv u=>Kn v (Dx (Z.map (·.2)) p q) (2+n*(2*K+2)) u):=by
 refine uf func298 rfl<|ZR<|ZC (λD j h=>Ki 0 D Zd Zd) λs0=>ZC (λD j h=>VJ (c:=c) (N:=w.heap.size) (hr.below j) (λz X=>⟨(hq z X).1.below j,(hq z X).2.below j⟩) I ⟨E.1,by omega⟩ j.size) λm=> ?_
 obtain⟨y,⟨f,R,W⟩⟩:=m;refine uj (ι:={x:Nat×RV // x.1<=f.length}) 42 (λx=>⟨[(4,.p 4 0),(5,.p 5 0),(6,.p 6 0),(7,.p 7 0),vV 8 (.func (.func 327) #[] #[]),vS 15 y.1 f.length y.2,vI 16 (f.length:Int),vI 17 (x.1.1:Int)],[(4,a.cl.map .v),(5,b.cl.map .v),(6,Ou.cl.map .v),(7,x.1.2.cl.map .v)]⟩) (λx u=>Mj 411 8 Lg Qu w.heap.size K y f u/\Kn x.1.2 (((f.take x.1.1).map (·.2)).foldl (Cw p q) 0) (2+x.1.1*(2*K+2)) u) (λx=>f.length-x.1.1) (⟨(0,s0),AK _⟩) O Zf Zt (λu h=>⟨h.2.1,by show Kn s0 0 (2+0*(2*K+2)) u;rw[CZ];exact h.1.2⟩) ?_
 rintro⟨⟨k,s⟩,hk⟩ gg;have hk:k<=f.length:=hk
 by_cases l:k<f.length
 case neg=>
  obtain rfl:k=f.length:=I
  refine ZR<|YN ((f.length:Int)<(f.length:Int))<|ug O<|ZR<|ZV (s.val) (λD j h=>⟨s,rfl,j,λL k1 k2=>by have G:Kn s (((f.take f.length).map (·.2)).foldl (Cw p q) 0) (2+f.length*(2*K+2)) L:=(h L k1 k2).2;rw[AX (AC _),R]at G;exact G.mono (by have:=BD (2*K+2) W;omega)⟩)
 obtain⟨e,Q⟩:∃e,f[k]? =some e:=⟨_,AD l⟩
 have M:=AE Q;have wJ:((f.take (k+1)).map (·.2)).foldl (Cw p q) 0=Cw p q (((f.take k).map (·.2)).foldl (Cw p q) 0) e.2:=by
  rw[L7 Q,BM,List.foldl_append];rfl
 have B:∀{v:YM},Mj 411 8 Lg Qu w.heap.size K y f v->Kn e.1.1 e.2.1 K v/\Kn e.1.2 e.2.2 K v:=λh=>⟨h.num e M (e.1.1,e.2.1) (by simp[Qu]),h.num e M (e.1.2,e.2.2) (by simp[Qu])⟩
 have hb1:=tk (K:=K) (n:=k) I E.2;have J:2+(k+1)*(2*K+2)=2+k*(2*K+2)+(K+K+1)+1:=by rw[BJ];omega
 refine um (p:=∃g,y.1=some ⟨g,0,none⟩) (λu hu h=>h.1.some (by intro e;rw[e]at l;simp at l)) O (λS=> ?_);obtain⟨Y,wI⟩:=S;refine ZR<|YL ((k:Int)<(f.length:Int))<|ZA (Kd 375 (.slice y.1 f.length y.2) k) (.pointer (some ⟨Y,k*8,none⟩)) (λD j h=>by rw[wI];exact Kc (elem:=411) O O l)<|ZA (Ke 411 ⟨Y,k*8,none⟩) (.agg (Lg e).toArray) (λD j h=>Ka (vs:=Lg e) O O (by have G:=h.1.own;rw[wI]at G;exact Ln M7 G I Q))<|ZC (λD j h=>UQ (k:=1) (B h.1).1.q (ha.below j) ⟨E.1,by omega⟩ Zd) λlo=>ZC (λD j h=>UQ (k:= -1) (B h.1.1).2.q (hb.below j) ⟨E.1,by omega⟩ Zd) λhi=> ?_
 obtain⟨lo,P⟩:=lo;obtain⟨hi,T⟩:=hi;have H:∀{v:YM},Mj 411 8 Lg Qu w.heap.size K y f v->Below w.heap.size w v->Nf lo (Dw e.2 p) K v:=λh U=>by
  unfold Dw;rw[P]
  by_cases o:p<e.2.1
  .rw[YS o,YS (Yp o)];exact(B h).1.q
  .rw[YT o,YT (iK o)];exact ha.below U
 have F:∀{v:YM},Mj 411 8 Lg Qu w.heap.size K y f v->Below w.heap.size w v->Nf hi (Ut e.2 q) K v:=λh U=>by
  unfold Ut;rw[T]
  by_cases o:e.2.2<q
  .rw[YS o,YS (Yq o)];exact(B h).2.q
  .rw[YT o,YT (iP o)];exact hb.below U
 by_cases o:Dw e.2 p<Ut e.2 q
 .refine ZC (λD j h=>Lv (H h.1.1.1 j) (F h.1.1.1 j) ⟨E.1,E.1,by omega⟩) λc1=>ZJ (decide (Kv (Dw e.2 p) (Ut e.2 q)<0)) true (by rw[Rk,YU o])<|ZC (λD j h=>Aj (F h.1.1.1.1 j) (H h.1.1.1.1 j) ⟨E.1,E.1,by omega⟩) λd=>ZC (λD j h=>S5 (show Nf s (((f.take k).map (·.2)).foldl (Cw p q) 0) (2+k*(2*K+2)) D from h.1.1.1.1.2.q) h.2.q ⟨by omega,by omega,by omega⟩) λt=>YA 17 k l<|ui (⟨(k+1,t),l⟩) O Zn Zt (λu h=>⟨h.1.1.1.1.1.1,by show Kn t (((f.take (k+1)).map (·.2)).foldl (Cw p q) 0) (2+(k+1)*(2*K+2)) u;rw[wJ,J];unfold Cw;rw[YS o];exact h.2⟩)
 .refine ZC (λD j h=>Lv (H h.1.1.1 j) (F h.1.1.1 j) ⟨E.1,E.1,by omega⟩) λc1=>ZJ (decide (Kv (Dw e.2 p) (Ut e.2 q)<0)) false (by rw[Rk,YV o])<|YA 17 k l<|ui (⟨(k+1,s),l⟩) O Zn Zt (λu h=>⟨h.1.1.1.1,by show Kn s (((f.take (k+1)).map (·.2)).foldl (Cw p q) 0) (2+(k+1)*(2*K+2)) u;rw[wJ,J];have G:Kn s (((f.take k).map (·.2)).foldl (Cw p q) 0) (2+k*(2*K+2)) u:=h.1.1.1.2;unfold Cw;rw[YT o];exact G.mono I⟩)
end
section
open Go.MapKept in
def GR(w:YM)(g:Nat)(l:List (Int×Int)):Prop:=∃c b,w.heap[g]? =some (.map c b)/\c.toList.map (λe=>(e.key,e.val))=l.map (λi=>(CP .i64 i.1,CP .i64 i.2))
def bP(t:XX):Sem Next:=Instr.makeMap t none >>= λv=>pure (.value v)
def k_(t:XX)(m k:YI):Sem Next:=Instr.lookup t m k false >>= λv=>pure (.value v)
section
variable{P:YH}{w:YM}{t kt et:XX}{g:Nat}{l:List (Int×Int)}{x z:Int}
theorem Av{x:Int}:∀{c:List MapEntry} {l:List (Int×Int)} {i:Nat},c.map (λe=>(e.key,e.val))=l.map (λi=>(CP .i64 i.1,CP .i64 i.2))->
 ∃a,Instr.findNow (.int .i64) (.int .i64 x) c i=some a/\((a=none/\l.lookup x=none)\/∃j v,a=some (j,.int .i64 v)/\l.lookup x=some v)
 | [],[],i,h=>⟨none,rfl,.inl ⟨rfl,rfl⟩⟩
 | [],_::_,i,h=>by simp at h
 |_::_,[],i,h=>by simp at h
 | e::c,y::l,i,h=>by
  simp only[List.map_cons,List.cons.injEq,BX]at h;obtain⟨⟨f,k⟩,h⟩:=h
  by_cases b:x=y.1
  .subst b;exact⟨some (i,.int .i64 y.2),by simp[Instr.findNow,Instr.sameNow,f,k],.inr ⟨i,y.2,rfl,by rw[List.lookup,beq_self_eq_true]⟩⟩
  .obtain⟨a,m,p⟩:=Av (x:=x) (i:=i+1) h;have o:(y::l).lookup x=l.lookup x:=by rw[List.lookup,YR.2 b]
   exact⟨a,by simp only[Instr.findNow,Instr.sameNow,f,if_true,YR.2 b,m],by rw[o];exact p⟩
open Go.MapKept in
theorem EZ(m:P.underlying t=some (.map kt et))(e:P.underlying kt=some (.int .i64))(p:(zeroValue et).run P w= .ok (.int .i64 0) w)(h:GR w g l):
 (k_ t (.map (some g)) (.int .i64 x)).run P w= .ok (.value (.int .i64 ((l.lookup x).getD 0))) w:=by
 obtain⟨A,f,o,s⟩:=h;obtain⟨a,k,y⟩:=Av (x:=x) (i:=0) s;have b:(Instr.checkKey A.isEmpty 10000 kt (.int .i64 x)).run P w= .ok () w:=by
  exact MapKept.run_checkKey e (by simp[MapKept.IsKey]) _ _
 have u:(Instr.lookup t (.map (some g)) (.int .i64 x) false).run P w= .ok (.int .i64 ((l.lookup x).getD 0)) w:=by
  rcases y with ⟨rfl,c⟩|⟨j,v,rfl,c⟩
  .simp[Instr.lookup,run_underlying m,MapKept.run_getObj_map o,b,run_findKey e k,p,CV,c]
  .simp[Instr.lookup,run_underlying m,MapKept.run_getObj_map o,b,run_findKey e k,CV,c]
 simp only[k_,BF,u,AU,BG]
open Go.MapKept in
theorem Wh(A:P.underlying t=some (.map kt et))(o:P.underlying kt=some (.int .i64))(h:GR w g l)(y:l.lookup x=none):
 ∃j,(dT t (.map (some g)) (.int .i64 x) (.int .i64 z)).run P w= .ok .skip j/\Ei [g] w j/\∀e,j.heap.size<=e.heap.size->(∀b∈[g],e.heap[b]? =j.heap[b]?)->GR e g (l++ [(x,z)]):=by
 obtain⟨s,c,f,p⟩:=h;obtain⟨a,v,u⟩:=Av (x:=x) (i:=0) p;rcases u with ⟨rfl,_⟩|⟨_,_,_,h⟩
 case inr=>rw[y]at h;cases h
 have m:(Instr.checkKey false 10000 kt (.int .i64 x)).run P w= .ok () w:=by
  exact MapKept.run_checkKey o (by simp[MapKept.IsKey]) _ _
 refine⟨{w with heap:=w.heap.setIfInBounds g (.map (s.push ⟨.int .i64 x,.int .i64 z,c⟩) (c+1))},by simp only[dT,Instr.mapUpdate,BF,run_underlying A,MapKept.run_getObj_map f,m,run_findKey o v,run_setObj_map _ f,AU,BG],⟨rfl,rfl,rfl,CW Zs,λk _ B=>(heap_set f).2 k (by simpa using B)⟩,λe _ k2=>⟨s.push ⟨.int .i64 x,.int .i64 z,c⟩,c+1,?_,by simp[p]⟩⟩;rw[k2 g Zs];exact(heap_set f).1
theorem ie{N:Nat}(b:N<=w.heap.size):M9 P w (λg:Nat=> .map (some g)) (λg u=>GR u g []/\N<=g) (bP t):=
 ⟨w.heap.size,w.alloc (.map #[] 0),by simp only[bP,Instr.makeMap,BF,run_newObj_alloc,AU,BG],Pa _ _,λc f e=>⟨⟨#[],0,(Pv w _ f e).1,rfl⟩,b⟩⟩
end
def V_(n m:Int):Int:=XQ.wrap (((BitVec.ofInt 64 n &&& BitVec.ofInt 64 m).toNat:Nat):Int)
theorem so(n:Int):V_ n 1=n%2:=by
 unfold V_;have h:(BitVec.ofInt 64 n &&& BitVec.ofInt 64 1).toNat=(n%2).toNat:=by
  rw[BitVec.toNat_and];have b:(BitVec.ofInt 64 1).toNat=2 ^ 1-1:=Zd
  rw[b,Nat.and_two_pow_sub_one_eq_mod,BitVec.toNat_ofInt];omega
 rw[h,Int.toNat_of_nonneg I];have c:0<=n%2/\n%2<2:=I
 generalize n%2=m at c;obtain h|h:m=0\/m=1:=I
 all_goals (subst h;decide)
theorem oX{n:Int}(c: -1000000<=n/\n<=1000000):V_ n (-1)=n:=by
 unfold V_;have b:BitVec.ofInt 64 (-1)=BitVec.allOnes 64:=Zd
 rw[b,BitVec.and_allOnes,BitVec.toNat_ofInt,IntKind.wrap_i64];omega
section
variable{w:YM}{n rule:Int}
theorem TC(s:rule=1\/rule=2)(p: -1000000<=n/\n<=1000000):Ca 330 #[.int .i64 n,.int .i64 rule] w (CU w (.bool (E4 rule n))):=by
 refine uf func330 rfl<|ZR<|uk (bP 452) ((λg:Nat=> .map (some g))) (λg u=>GR u g []/\w.heap.size<=g) O (λe b h=>ie b.size) λg=>ZR<|vo (g:=g) (G:=λu=>GR u g [(1,-1)]) (Φ':=λu=>GR u g [(1,-1)]/\w.heap.size<=g) (dT 452 (.map (some g)) (.int .i64 1) (.int .i64 (-1))) (λe b h=>Wh (P:=XM) (kt:=3) (et:=3) (l:=[]) O O h.2.1 rfl) (λu h=>⟨h.2.2,by obtain⟨j,c,k,_⟩:=h.2.1;exact⟨j,c,k⟩⟩) (λt u o m h f=>⟨f,h.2.2⟩) O O<|ZR<|vo (g:=g) (G:=λu=>GR u g [(1,-1),(2,1)]) (Φ':=λu=>GR u g [(1,-1),(2,1)]) (dT 452 (.map (some g)) (.int .i64 2) (.int .i64 1)) (λe b h=>Wh (P:=XM) (kt:=3) (et:=3) (l:=[(1,-1)]) O O h.1 rfl) (λu h=>⟨h.2,by obtain⟨j,c,k,_⟩:=h.1;exact⟨j,c,k⟩⟩) (λt u o m h f=>f) O O<|ZR ?_
 rcases s with rfl|rfl
 .exact ZA (k_ 452 (.map (some g)) (.int .i64 1)) (.int .i64 (-1)) (λe b h=>EZ (P:=XM) (kt:=3) (et:=3) (l:=[(1,-1),(2,1)]) (x:=1) O O O h)<|ZX (.bool (V_ n (-1) !=0)) (by rw[oX p];rfl)
 .exact ZA (k_ 452 (.map (some g)) (.int .i64 2)) (.int .i64 1) (λe b h=>EZ (P:=XM) (kt:=3) (et:=3) (l:=[(1,-1),(2,1)]) (x:=2) O O O h)<|ZX (.bool (V_ n 1 !=0)) (by rw[so];rfl)
end
end
theorem we{β:Type}{e:XX}{s:Nat}{cl:β->List YI}{k:β->List RQ}{B K:Nat}{y:YZ}{l:List β}:D3 (Mj e s cl k B K y l):=λc u f b h=>⟨uV c u f b h.own,λz j x g=>vB c u f b (h.num z j x g)⟩
abbrev mj:=Nat×(YZ)×List Qg
structure MJ(W:YM)(yR:RV)(yq:Rat)(gy go gE n K:Nat)(L:List (List Pt))(yE:YZ)(HE:List LP)(s:mj)(k:Nat)(u:YM):Prop where
 kk:s.1=k
 v:s.2.2.map (·.2)=((Ku L).take k).filterMap (Nv yq)
 ap:Xd Vf s.2.1.1 s.2.2
 ag:∀z∈s.2.2,∀x∈Vf z,go∉M6 x.1
 cy:Kg u gy 53 yR.cl
 box:Kg u go 412 [.slice s.2.1.1 s.2.2.length s.2.1.2]
 row:Mj 415 5 Mb Vf W.heap.size K s.2.1 s.2.2 u
 o:Eh W.heap.size gE yE n HE u
def kv(go:Nat)(s:mj):List Nat:=go::bl s.2.1.1
structure MG(W:YM)(yq:Rat)(go K:Nat)(L:List (List Pt))(s s':mj)(u:YM):Prop where
 kk:s'.1=s.1+1
 v:s'.2.2.map (·.2)=((Ku L).take (s.1+1)).filterMap (Nv yq)
 ap:Xd Vf s'.2.1.1 s'.2.2
 ag:∀z∈s'.2.2,∀x∈Vf z,go∉M6 x.1
 box:Kg u go 412 [.slice s'.2.1.1 s'.2.2.length s'.2.1.2]
 own:K6 u W.heap.size 415 5 s'.2.1.1 s'.2.2.length s'.2.1.2 (s'.2.2.flatMap Mb)
 num:∀z∈s'.2.2,z∈s.2.2\/∀x∈Vf z,Kn x.1 x.2 K u
section
variable{w W w0 wa u:YM}{yR:RV}{yq:Rat}{gy go gE n c K l k:Nat}{L:List (List Pt)}{yE:YZ}{H HE:List LP}{s s':mj}{A:YY}
theorem Cl{x:Nat}:x∈kv go s↔x=go\/x∈bl s.2.1.1:=by unfold kv;simp
theorem MJ.own(e:W.heap.size<=go):Ub W (kv go s) (MJ W yR yq gy go gE n K L yE HE s k):=λu h x b=>by
 rcases Cl.1 b with rfl|b
 .exact⟨e,h.box.own⟩
 .exact⟨(h.row.own.blk x b).1,(h.row.own.blk x b).2⟩
theorem MJ.bx(h:MJ W yR yq gy go gE n K L yE HE s k wa){g:Nat}{t:XX}{cs:List YI}(b:Kg wa g t cs)(m:t≠412)(j:t≠415):g∉kv go s:=λo=>by
 rcases Cl.1 o with rfl|f
 .exact b.ne2 h.box m rfl
 .exact b.ne h.row.own (λe=>j e.symm) _ f rfl
theorem MJ.rw_(h:MJ W yR yq gy go gE n K L yE HE s k wa){B j m cc:Nat}{e:XX}{A:YY}{xs:List YI}(f:K6 wa B e j A m cc xs)(p:e≠412)(o:e≠415):∀x∈bl A,x∉kv go s:=λx b t=>by
 rcases Cl.1 t with rfl|g
 .exact h.box.ne f p _ b rfl
 .exact N8 f h.row.own o x b g
theorem MJ.left:Tg (kv go s) (MJ W yR yq gy go gE n K L yE HE s k) (MG W yq go K L s s') (MJ W yR yq gy go gE n K L yE HE s' (k+1)):=λwa u y g h f=>by
 have D:=h.kk;subst D;refine⟨f.kk,f.v,f.ap,f.ag,h.cy.left g (h.bx h.cy Zd Zd),f.box,⟨f.own,λz p x e=> ?_⟩,h.o.1.left g (h.bx h.o.1 Zd Zd),h.o.2.own.left g (h.rw_ h.o.2.own Zd Zd),λx e=>(h.o.2.ring x e).left g (h.rw_ (h.o.2.ring x e) Zd Zd)⟩;rcases f.num z p with j|j
 .refine(h.row.num z j x e).leftL y g λb m B=> ?_
  rcases Cl.1 B with rfl|t
  .exact h.ag z j x e m
  .exact h.ap z j x e b t m
 .exact j x e
theorem wB:D3 (MJ W yR yq gy go gE n K L yE HE s k):=λwa u e b h=>
 ⟨h.kk,h.v,h.ap,h.ag,uT wa u e b h.cy,uT wa u e b h.box,we wa u e b h.row,uT wa u e b h.o.1,uV wa u e b h.o.2.own,λx f=>uV wa u e b (h.o.2.ring x f)⟩
theorem MJ.len(h:MJ W yR yq gy go gE n K L yE HE s k u)(f:L.flatten.length<=4096):s.2.2.length<=4096:=by
 have g:s.2.2.length=(((Ku L).take k).filterMap (Nv yq)).length:=by rw[<-h.v,AW]
 have b:=List.length_filterMap_le (Nv yq) ((Ku L).take k);have e:=Ri L;rw[AI]at b;omega
theorem Wk{k:Nat}{e:Pt×Pt}(h:(Ku L)[k]? =some e):((Ku L).take (k+1)).filterMap (Nv yq)=((Ku L).take k).filterMap (Nv yq)++(Nv yq e).toList:=by
 rw[L7 h,List.filterMap_append];cases b:Nv yq e<;>simp[b]
theorem MJ.skip{f:YM}{e:Pt×Pt}(h:MJ W yR yq gy go gE n K L yE HE s k f)(j:(Ku L)[k]? =some e)(o:Nv yq e=none)(k2:∀b,b∈kv go s->u.heap[b]? =f.heap[b]?):MG W yq go K L s (s.1+1,s.2) u:=by
 have p:=h.kk;subst p;exact⟨rfl,by show s.2.2.map (·.2)=_;rw[Wk j,o,h.v];simp,h.ap,h.ag,h.box.to (k2 go (Cl.2 (.inl rfl))),h.row.own.same λb m=>k2 b (Cl.2 (.inr m)),λz g=> .inl g⟩
theorem Ho(p q:Rat):Kv p q= -1\/Kv p q=0\/Kv p q=1:=by
 unfold Kv;split
 .exact .inl rfl
 .split
  .exact .inr (.inl rfl)
  .exact .inr (.inr rfl)
theorem TO(p q r s:Rat):XQ.wrap (Kv p q*Kv r s)=Kv p q*Kv r s:=by
 rcases Ho p q with h|h|h<;>rcases Ho r s with k|k|k<;>rw[h,k]<;>decide
structure tI(W w0:YM)(l:Nat)(rc:Loop)(go K:Nat)(s:mj)(z:Qg)(y':YZ)(u:YM):Prop where
 f:VH W w0 l (kv go s) rc u
 q:Kn z.1 z.2.1 K u
 own:K6 u W.heap.size 415 5 y'.1 (s.2.2.length+1) y'.2 ((s.2.2++ [z]).flatMap Mb)
 ap:Xd Vf y'.1 (s.2.2++ [z])
 bk:∀b∈bl y'.1,b∈bl s.2.1.1\/w0.heap.size<=b
theorem ja(hp:Nw w A n H)(hn:n<=1000000)(hv:vL 0 (K5 H)=true)(hy:Nf yR yq K w)(hK:2<=K/\K<=900):
 Ca 329 #[.slice A n c,yR.val] w (K4 w (λq:(YZ)×{M:List Qg // M.map (·.2)=S8 (K5 H) yq}=> .slice q.1.1 q.2.1.length q.1.2) λq u=>Mj 415 5 Mb Vf w.heap.size (K+10) q.1 q.2.1 u):=by
 have hf:=hv;rw[D9 (AK _),BB,decide_eq_true_eq,BA]at hf;have Y:(K5 H).flatten.length<=4096:=I
 have hlen:∀x∈H,x.1.length<=4096:=λx hx=>by
  have:x.1.length<=(K5 H).flatten.length:=List.Sublist.length_le (List.sublist_flatten_of_mem (List.mem_map_of_mem hx));omega
 have hpt:∀x∈H,∀p∈x.1,vP p=true:=λx hx p hp=>hf.2 p (List.mem_flatten.2 ⟨x.1,List.mem_map_of_mem hx,hp⟩)
 refine u4 func329 rfl (Below.refl _ _)<|ZS 0<|uk (B0 53 yR.val) (Kp) (λg u=>Kg u g 53 yR.cl/\w.heap.size<=g/\g∉[]) O (λm t h=>Qn (v:=yR.val) t.size Zs) λgy=>ZS 0<|uk (Vz 412) (Kp) (λg u=>Kg u g 412 [.slice none 0 0]/\w.heap.size<=g/\g∉[]) O (λm t h=>Ny (z:= .slice none 0 0) O t.size Zs) λgo=>ZR<|ZC (λm t h=>SF (N:=w.heap.size) (c:=c) t.size (hp.below t) hn hv) λE=> ?_
 obtain⟨⟨gE,yE⟩,HE,hHE⟩:=E;refine um (p:=w.heap.size<=go) (λu hu h=>h.1.2.2.1) O (λhgo=> ?_);have hHEl:HE.length=n:=by have S:=congrArg List.length hHE;simp only[K5,AW]at S;rw[S];exact hp.row.1
 have hHEm:∀x∈HE,∃z∈H,z.1=x.1:=λx hx=>by
  have:x.1∈K5 H:=hHE▸List.mem_map_of_mem hx;exact CB.1 this
 refine ve (α:=Pt×Pt) (gf:=367) (lb:= #[Kp gE]) (ps:= #[14,15]) (encs:=λe=> #[Km e.1,Km e.2]) (xs:=Ku (K5 HE)) (Pre:=Gk gE yE n HE) mj (λs k u=>MJ w yR yq gy go gE n (K+10) (K5 H) yE HE s k u) (kv go) (λs s' u=>MG w yq go (K+10) (K5 H) s s' u) (0,(none,0),[]) O (λm t h=>J0 hn hHEl (λx hx=>by obtain⟨z,U,e⟩:=hHEm x hx;rw[<-e];exact hlen z U) (λx hx=>by obtain⟨z,U,e⟩:=hHEm x hx;rw[<-e];exact hpt z U)) (enters_of func367 O rfl) (λx=>rfl) (λs k u h=>h.o.at) (λs k=>MJ.own hgo) (λs k s'=>MJ.left) (λs k=>wB) (λu h=>⟨rfl,rfl,vW,(by intro z U;cases U),h.1.1.2.1,h.1.2.1,vX,h.2.1⟩) (λl s k' x w0 fn tmps D hw0 hl hlt hlL hrec hx B R hR=> ?_) (λs D hD=> ?_);rotate_left
 .obtain⟨cnt,y,T⟩:=s;have hxl:(Ku (K5 HE)).length=(Ku (K5 H)).length:=by rw[hHE]
  rw[hxl];refine um (p:=(T.map (·.2)=(Ku (K5 H)).filterMap (Nv yq)/\T.length<=4096)/\Xd Vf y.1 T) (λu hu h=>⟨⟨by have S:T.map (·.2)=((Ku (K5 H)).take (Ku (K5 H)).length).filterMap (Nv yq):=h.1.v;rw[BY]at S;exact S,h.1.len Y⟩,h.1.ap⟩) O (λU=> ?_)
  obtain⟨⟨hrs,hrl⟩,hap⟩:=U;refine ZR<|ZA (Ke 412 ⟨go,0,none⟩) (.slice y.1 T.length y.2) (λm t h=>h.1.box.load1 O)<|uD (L:=bl y.1) (val:=λ_:{M:List Qg // M.Perm T/\NL (ltOf Ld) M}=> .tuple #[]) (G:=λM u=>K6 u w.heap.size 415 5 y.1 T.length y.2 (M.1.flatMap Mb)) (Φ':=λM u=>(Mj 415 5 Mb Vf w.heap.size (K+10) y M.1 u/\Kg u go 412 [.slice y.1 T.length y.2])/\u.heap[D]? =some (.deferred (some []))) (λm t h=>fa t h.1.row hap I ⟨by omega,by omega⟩) (λu h=>h.1.row.own.blk) (λM wa u e1 e2 h hG=>⟨⟨Mj.perm h.1.row hap M.2.1 e1 e2 hG,h.1.box.left e2 (λj=>h.1.box.ne h.1.row.own Zd _ j rfl)⟩,(e2 D (λwI=>by obtain⟨_,_,_,hh⟩:=(h.1.row.own.blk D wI).2;rw[h.2]at hh;cases hh)).symm.trans h.2⟩) O O (λM=> ?_)
  obtain⟨M,hMp,hMs⟩:=M;refine ZR<|ZA (Ke 412 ⟨go,0,none⟩) (.slice y.1 T.length y.2) (λm t h=>h.1.2.load1 O)<|vK (v:= .slice y.1 T.length y.2) (J:=λu=>Mj 415 5 Mb Vf w.heap.size (K+10) y M u/\Kg u go 412 [.slice y.1 T.length y.2]) (λwa u S h2 h=>⟨we wa u S h2 h.1,uT wa u S h2 h.2⟩) hD O (λm t h=>⟨(y,⟨M,?_⟩),by show Ending.returned (CJ y.1 T.length y.2)=Ending.returned (CJ y.1 M.length y.2);rw[hMp.length_eq],t,λu k1 k2=>(h u ⟨k1,λb S h2=>k2 b S h2⟩).1⟩)
  refine dL (by rw[<-hrs];exact hMp.map _) ?_;unfold NL at hMs ⊢;rw[List.pairwise_map];exact hMs.imp λ{a b} hab=>by rw[<-Tl];exact hab
 have F:=B _ w0 ⟨AC _,λ_ _ _ _=>rfl,hrec⟩;obtain rfl:s.1=k':=F.kk;have hx2:(Ku (K5 H))[s.1]? =some x:=by rw[<-hHE];exact hx
 have hxv:=J1 hf.2 (AE hx2);have hva:=O0 hxv.1;have hvb:=O0 hxv.2.1;have hrl:=F.len Y;refine ZR<|vt O hl<|ZR<|ZB 3 (Ke 53 ⟨gy,0,none⟩) (yR.val) (λm t h=>(B _ m h).cy.loadN O O)<|ZB 8 (Ke 53 ⟨gy,0,none⟩) (yR.val) (λm t h=>(B _ m h).cy.loadN O O)<|ZC (λm t h=>Ki x.1.2 m I I) λf1=>ZC (λm t h=>Lv h.2.q (hy.below t) ⟨by decide,hK.1,by omega⟩) λc1=>ZC (λm t h=>Ki x.2.2 m I I) λf2=>ZC (λm t h=>Lv h.2.q (hy.below t) ⟨by decide,hK.1,by omega⟩) λc2=>uN (Φ':=RF w w0 l (Xf fn tmps #[14,15] _ _ D .busy)) O (λu h=>h.1.1.1.1) ?_
 cases Q:Nv yq x with
 | none=>
  have wI:decide (XQ.wrap (Kv (x.1.2:Rat) yq*Kv (x.2.2:Rat) yq)>=0)=true:=by
   rw[TO];unfold Nv at Q;split at Q
   .rename_i h;exact YU h
   .cases Q
  refine ZJ (decide (XQ.wrap (Kv (x.1.2:Rat) yq*Kv (x.2.2:Rat) yq)>=0)) true (wI)<|vm ((s.1+1,s.2):mj) O hl hlt hlL hrec hw0 (λm hw1 h=> ?_)
  have wJ:=h m ⟨AC _,λ_ _ _=>rfl⟩;exact⟨wJ.2.2,wJ.1,λb k1 k2 k3 _=>wJ.2.1 b k1 k2 k3,λu k1 k2=>(B _ m wJ).skip hx2 Q λb j=>k2 b (.inl j)⟩
 | some mk=>
  have wI:decide (XQ.wrap (Kv (x.1.2:Rat) yq*Kv (x.2.2:Rat) yq)>=0)=false:=by
   rw[TO];unfold Nv at Q;split at Q
   .cases Q
   .rename_i h;exact YV h
  have X:Kv (x.2.2:Rat) yq=mk.2:=by
   unfold Nv at Q;split at Q
   .cases Q
   .injection Q with Q;rw[<-Q]
  obtain⟨P,m2⟩:=mk;have X:Kv (x.2.2:Rat) yq=m2:=X;subst X;refine ZJ (decide (XQ.wrap (Kv (x.1.2:Rat) yq*Kv (x.2.2:Rat) yq)>=0)) false (wI)<|ZA (Ke 53 ⟨gy,0,none⟩) (yR.val) (λm t h=>(B _ m h).cy.loadN O O)<|ZC (λm t h=>(qa hxv.1 hxv.2.1 (hy.below t) Q hK).mono λe w' k=>K4.apt (R:=λr=>∀b∈M6 r,w0.heap.size<=b) k (λr=>M6 r) (λr u k=>k.blk) (λr hr b j=>AH h.1 (hr b j))) λr=> ?_
  refine ZI true<|ZA (Ke 412 ⟨go,0,none⟩) (.slice s.2.1.1 s.2.2.length s.2.1.2) (λm t h=>(B _ m h.1).box.load1 O)<|uk (Lr 412 1 #[(0,.agg (Mb ((r,(P,Kv (x.2.2:Rat) yq)):Qg)).toArray)]) (Kr 1) (Kw 415 (Mb ((r,(P,Kv (x.2.2:Rat) yq)):Qg)).toArray) O (λm t h=>Kj O) λgb=>ZS 5 ?_
  have hqz:∀{v:YM},Kn r P (K+10) v->∀q∈Vf ((r,(P,Kv (x.2.2:Rat) yq)):Qg),Kn q.1 q.2 (K+10) v:=λh q hq=>by
   simp only[Vf,AB]at hq;subst hq;exact h
  have hqa:(∀b∈M6 r,w0.heap.size<=b)->∀q∈Vf ((r,(P,Kv (x.2.2:Rat) yq)):Qg),∀b∈bl s.2.1.1,b∉M6 q.1:=λh q hq b j wI=>by
   simp only[Vf,AB]at hq;subst hq;have S:=h b wI;have h2:=(F.row.own.lt b j).2;omega
  refine uA (L:=bl s.2.1.1) (val:=λz':YZ=> .slice z'.1 (s.2.2.length+1) z'.2) (Φ':=λz' u=>tI w w0 l (Xf fn tmps #[14,15] _ _ D .busy) go (K+10) s ((r,(P,Kv (x.2.2:Rat) yq)):Qg) z' u/\Kg u go 412 [.slice s.2.1.1 s.2.2.length s.2.1.2]/\∀b∈M6 r,w0.heap.size<=b) (G:=λz' v=>K6 v w.heap.size 415 5 z'.1 (s.2.2.length+1) z'.2 ((s.2.2++ [((r,(P,Kv (x.2.2:Rat) yq)):Qg)]).flatMap Mb)/\Xd Vf z'.1 (s.2.2++ [((r,(P,Kv (x.2.2:Rat) yq)):Qg)])/\∀b∈bl z'.1,b∈bl s.2.1.1\/w0.heap.size<=b) (My 412 412 (.slice s.2.1.1 s.2.2.length s.2.1.2) (Kr 1 gb)) (λm t h=>Mj.app (z0:= .agg (Mb ((Ou,(0,0)):Qg)).toArray) (bytes:=72) O O rfl Zd Zd Mx Tr (B _ m h.1.1).row F.ap t.size h.1.1.1 (hqz h.1.2.1) (hqa h.1.2.2) h.2 I) (λu h=>(B _ u h.1.1).row.own.blk) (λz' wa u e1 e2 h hG=>⟨⟨VH.left ⟨h.1.1.1,λb k1 k2 k3 _=>h.1.1.2.1 b k1 k2 k3,h.1.1.2.2⟩ e1 e2 (λb j=> .inl (Cl.2 (.inr j))) (λb j=>((B _ wa h.1.1).row.own.blk b j).2),h.1.2.1.leftL e1 e2 (λb j wI=>by have S:=h.1.2.2 b j;have h2:=(F.row.own.lt b wI).2;omega),hG.1,hG.2.1,hG.2.2⟩,(B _ wa h.1.1).box.left e2 (λj=>(B _ wa h.1.1).box.ne (B _ wa h.1.1).row.own Zd _ j rfl),h.1.2.2⟩) O O λz'=>ZR<|ur (L:=[go]) (G:=λu=>Kg u go 412 [.slice z'.1 (s.2.2.length+1) z'.2]) (Φ':=λu=>tI w w0 l (Xf fn tmps #[14,15] _ _ D .busy) go (K+10) s ((r,(P,Kv (x.2.2:Rat) yq)):Qg) z' u/\Kg u go 412 [.slice z'.1 (s.2.2.length+1) z'.2]/\∀b∈M6 r,w0.heap.size<=b) (Om 412 ⟨go,0,none⟩ (.slice z'.1 (s.2.2.length+1) z'.2)) (λm t h=>h.2.1.store O rfl (λv hv=>by have hv:=AB.1 hv;subst hv;rfl)) (λu h=>Za ⟨hgo,h.2.1.own⟩) (λwa u e1 e2 h hG=>⟨⟨h.1.f.left e1 e2 (λb j=> .inl (Cl.2 (.inl (AB.1 j)))) (λb j=>by have j:=AB.1 j;subst j;exact h.2.1.own),h.1.q.leftL e1 e2 (λb j wI=>by have wI:=AB.1 wI;subst wI;have S:=h.2.2 _ j;have h2:=F.box.lt;omega),h.1.own.left e2 (λb j wI=>h.2.1.ne h.1.own Zd b j (AB.1 wI)),h.1.ap,h.1.bk⟩,hG,h.2.2⟩) O O<|ZR<|vm ((s.1+1,z',s.2.2++ [((r,(P,Kv (x.2.2:Rat) yq)):Qg)]):mj) O hl hlt hlL hrec hw0 (λm hw1 h=> ?_)
  have wJ:=h m ⟨AC _,λ_ _ _=>rfl⟩;have hlen3:(s.2.2++ [((r,(P,Kv (x.2.2:Rat) yq)):Qg)]).length=s.2.2.length+1:=by rw[AA];rfl
  refine⟨wJ.1.f.2.2,wJ.1.f.1,wJ.1.f.2.1,λu k1 k2=>⟨rfl,?_,wJ.1.ap,λz U q hq=> ?_,?_,?_,λz U=> ?_⟩⟩
  .show(s.2.2++ [((r,(P,Kv (x.2.2:Rat) yq)):Qg)]).map (·.2)=_
   rw[Wk hx2,Q,BM,F.v];rfl
  .rcases AN.1 U with Z|Z
   .exact F.ag z Z q hq
   .obtain rfl:z=((r,(P,Kv (x.2.2:Rat) yq)):Qg):=by simpa using Z
    simp only[Vf,AB]at hq;subst hq;intro wI;have S:=wJ.2.2 _ wI;have h2:=F.box.lt;omega
  .show Kg u go 412 [.slice z'.1 (s.2.2++ [((r,(P,Kv (x.2.2:Rat) yq)):Qg)]).length z'.2];rw[hlen3];exact wJ.2.1.to (k2 go (.inl (Cl.2 (.inl rfl))))
  .show K6 u w.heap.size 415 5 z'.1 (s.2.2++ [((r,(P,Kv (x.2.2:Rat) yq)):Qg)]).length z'.2 ((s.2.2++ [((r,(P,Kv (x.2.2:Rat) yq)):Qg)]).flatMap Mb);rw[hlen3];refine wJ.1.own.same λb j=>k2 b ?_
   rcases wJ.1.bk b j with Z|Z
   .exact .inl (Cl.2 (.inr Z))
   .exact .inr ⟨Z,(wJ.1.own.lt b j).2⟩
  .rcases AN.1 U with Z|Z
   .exact .inl Z
   .obtain rfl:z=((r,(P,Kv (x.2.2:Rat) yq)):Qg):=by simpa using Z
    refine .inr (hqz (wJ.1.q.same k1 λb j=>k2 b (.inr ⟨wJ.2.2 b j,Og wJ.1.q b j⟩)))
end
end Go.Proofs.YtoakjcolbjifnaaGreatDoor
