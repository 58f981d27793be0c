/-
 Scenes as text: lines, texts, the examples and the law.
-/
import Derived.Test.YtnmokookhcgklaaGreatDoorFN
import Derived.Test.YtnmokookhcgklaaGreatDoorFA
import Derived.Test.YtnmokookhcgklaaGreatDoorZK
open Bool renaming and_eq_true->AM,eq_iff_iff->AY,eq_false_iff->BL
open Go renaming goPanic->BD
open Go.IntWalk renaming i64_in->AN
open Go.Lib renaming hasSuffix->BI
open Go.Result renaming andThen_ok->BC
open Go.Sem renaming run_bind->BA,run_pure->BJ
open Go.Value renaming int->BH,cells->BN,slice->BX
open Go.World renaming cell?->BM
open List renaming getElem?_eq_getElem->AD,length_append->AE,mem_of_getElem?->AH,getElem?_eq_some_iff->AJ,mem_cons->AL,map_append->AP,length_map->AQ,getElem?_append_right->AR,length_cons->AU,all_eq_true->BE,length_eq_zero_iff->BG,not_mem_nil->BQ,take_length->BR,mem_append->BT,mapM_cons->BU,map_map->BW
open Nat renaming le_trans->AC,zero_le->AG,le_refl->AI,le_of_ble_eq_true->AK,lt_or_ge->AW,add_sub_cancel_left->AZ,lt_of_lt_of_le->BB,le_of_eq->BF,add_zero->BK,mul_one->BO,zero_add->BV
open Option renaming bind_eq_some_iff->AA,map_eq_some_iff->AB,bind_some->AX,map_some->BS
open UInt8 renaming ofNat->BP
open Go renaming World->YN,Value->YM,Program->YK,Operand->YJ,Deferred->YI,TypeId->YH,Calls->YG,PanicEntry->YF,FuncId->YE,Oper->YD,Ending->YC,Addr->YB
open Go.IntKind renaming i64->YA,u64->XZ,u32->XY,u8->XX
namespace Go.Proofs.YtnmokookhcgklaaGreatDoor
set_option maxRecDepth 100000
set_option maxHeartbeats 8000000
set_option linter.unusedVariables false
set_option linter.unusedSimpArgs false
open Go.RowKit Go.Proofs.Tryz
open Go.Proofs.Tryz renaming prog->XW
section
variable{w:YN}{B n c g j d:Nat}{e:YH}{xs C C':List YM}{v:YM}
theorem uw{P:YK}{t:YH}{s:Nat}(h:Y w B e s (some ⟨g,0,none⟩) n c (xs++C))(D:xs.length=j)(y:Ot P t=some v.cells.toList.length)(vg:d+v.cells.toList.length<=C.length)(x:∀u∈v.cells.toList,u.oneCell'=true)(A:C.take d++v.cells.toList++C.drop (d+v.cells.toList.length)=C'):
 ∃f,(Uk t ⟨g,j+d,none⟩ v).run P w= .ok .skip f/\SM [g] w f/\∀a,f.heap.size<=a.heap.size->(∀b∈[g],a.heap[b]? =f.heap[b]?)->Y a B e s (some ⟨g,0,none⟩) n c (xs++C'):=by
 obtain⟨f,m,o,r⟩:=h.storeN (P:=P) (t:=t) (j:=j+d) y (by rw[AE];omega) x;refine⟨f,m,o,λa p l=> ?_⟩;have k:=r a p l;rw[<-D,List.take_length_add_append,Nat.add_assoc,List.drop_length_add_append]at k;rw[<-A];simpa using k
end
section
variable{W w wa u:YN}{gt gr n c:Nat}{LL:List Nat}{A:YY}{ws0 rest:WS}{f:Bool}{tc rc:List YM}{a1 a2 a3 a4 a5 a6 a9 wh z:Int}{ln:Nat}{l:YM}
theorem Tm.ml(j:∀b∈LL,b≠gt/\b≠gr)(p:wa.heap.size=u.heap.size)(a:∀b,b∉LL->wa.heap[b]? =u.heap[b]?)(h:Tm W w gt gr LL tc rc wa):Tm W w gt gr LL tc rc u:=
 ⟨by rw[<-p];exact h.sz,λb r o k m g=>(a b g).symm.trans (h.fr b r o k m g),h.bt.to (a gt λe=>(j gt e).1 rfl).symm,h.br.to (a gr λe=>(j gr e).2 rfl).symm⟩
theorem ek{D2 X2:Type}{o:Func}{m:Option D2}{Eo:D2->X2->YM}{G2:D2->X2->YN->Prop}{F:YW}{b:Bool}{k:Ob}(T:TE W w gt gr LL A n c ws0)
 (x:∀wa u:YN,wa.heap.size=u.heap.size->(∀b,b∉[gt]->wa.heap[b]? =u.heap[b]?)->F wa->F u)
 (B:b=false->m=none)
 (C:b=true->K0 XW [] W (bodyPost XW o (Yg w (gt::gr::LL) S3 (Sj gt ln) m Eo G2)) (λu=>Tm W w gt gr LL (Zu a1 a2 a3 a4 a5 a6 l z ln a9) rc u/\F u) (M1 XW 1000 1000 (Lf (.v (.tuple #[])) k)))
 (p:Rt k=true:=by kernel_rfl) (e:M8 XW k=some (66,#[Zq gt 0,I z,.bool b]):=by kernel_rfl):K0 XW [] W (bodyPost XW o (Yg w (gt::gr::LL) S3 (Sj gt ln) m Eo G2)) (λu=>Tm W w gt gr LL (Zu a1 a2 a3 a4 a5 a6 l wh ln a9) rc u/\F u) k:=by
 cases b with
 |false=>
  exact s6 (L:=[]) (Φ':=Tp W w gt gr LL (Zu a1 a2 a3 a4 a5 a6 l wh ln a9)) (λr g h=>D9 (gt:=gt) (z:=z) g) (λu h b uS=>by cases uS) (λwa u j a h _=>⟨by rw[<-j];exact h.1.sz,λb t s vg y G=>(a b Zs).symm.trans (h.1.fr b t s vg y G),h.1.bt.to (a gt Zs).symm⟩) p e<|sX λr g h=>by rw[B rfl];exact Tp.pan T g h rfl rfl
 |true=>
  exact sZ (L:=[gt]) (Φ':=λ(_:Unit) u=>Tm W w gt gr LL (Zu a1 a2 a3 a4 a5 a6 l z ln a9) rc u/\F u) (λr g h=>JJ (z:=z) g T.lt h.1.bt (by show 7<10;decide)) (λu h=>tO T u h.1) (λ_ wa u j a h D=>⟨h.1.mt T j a D,x wa u j a h.2⟩) p e (λ_=>s0 O 1000 _ (C rfl))
theorem e7{D uX D2 X2:Type}{s:Func}{r:Option D2}{Eo:D2->X2->YM}{G2:D2->X2->YN->Prop}{F:YW}{q:Option D}{vq:D->uX->YM}{rs:D->WS}{fl:D->Bool}{Cq:D->uX->YN->Prop}{e:YE}{args:Array YM}{o:Ob}{y:Int}(st:Nat)(T:TE W w gt gr LL A n c ws0)
 (C:∀a,RE W a gr A n c ws0->K7 a gr (Lj A n c rest.length f)->w.heap.size<=a.heap.size->YG XW e args a (Lt a [gr] S3 q (λd (x:Gh uX λb=>w.heap.size<=b)=>vq d x.1.1) (λd x u=>K7 u gr (Lj A n c (rs d).length (fl d))/\Lz x.1.2 (Cq d x.1.1) u)))
 (G:∀wa u:YN,wa.heap.size=u.heap.size->(∀b,b∉[gr]->wa.heap[b]? =u.heap[b]?)->F wa->F u)
 (vf:q=none->r=none) (K:tc.length=10) (uS:tc[8]? =some (I y))
 (ve:∀d (x:Gh uX λb=>w.heap.size<=b),q=some d->K0 XW [] W (bodyPost XW s (Yg w (gt::gr::LL) S3 (Sj gt y) r Eo G2)) (λu=>Tm W w gt gr LL tc (Lj A n c (rs d).length (fl d)) u/\F u/\Lz x.1.2 (Cq d x.1.1) u) (M1 XW st 1000 (Lf (.v (vq d x.1.1)) o)))
 (B:Rt o=true:=by kernel_rfl) (g:M8 XW o=some (e,args):=by kernel_rfl):K0 XW [] W (bodyPost XW s (Yg w (gt::gr::LL) S3 (Sj gt y) r Eo G2)) (λu=>Tm W w gt gr LL tc (Lj A n c rest.length f) u/\F u) o:=by
 cases p:q with
 |none=>
  exact s6 (L:=[gr]) (Φ':=Tp W w gt gr LL tc) (λa j h=>by have t:=C a (h.1.re T j) h.1.br h.1.sz;rw[p]at t;exact t) (λu h=>tG T u h.1) (λwa u k m h _=>h.1.mp T k m) B g<|sX λa j h=>by rw[vf p];exact Tp.pan T j h K uS
 |some d=>exact sZ (L:=[gr]) (Φ':=λ(x:Gh uX λb=>w.heap.size<=b) u=>Tm W w gt gr LL tc (Lj A n c (rs d).length (fl d)) u/\F u/\Lz x.1.2 (Cq d x.1.1) u) (λa j h=>by have t:=C a (h.1.re T j) h.1.br h.1.sz;rw[p]at t;exact t) (λu h=>tG T u h.1) (λx wa u k m h (vg:K7 u gr (Lj A n c (rs d).length (fl d))/\Lz x.1.2 (Cq d x.1.1) u)=>⟨h.1.mr T k m vg.1,G wa u k m h.2,vg.2⟩) B g (λx=>s0 O (stop:=st) 1000 _ (ve d x p))
end
section
variable{ws0 rest:WS}{n:Nat}{f:Bool}
theorem UO:∀{m:Nat} {f:Bool} {rest:WS} {l:List Int×WS×Bool},Qm ws0 n rest->Dp m f rest=some l->Qm ws0 n l.2.1
 |0,f,rest,l,a,h=>by cases h;exact a
 |m+1,f,rest,l,a,h=>by
  rw[Wf]at h;obtain⟨⟨e,g,j⟩,c,h⟩:=AA.1 h;obtain⟨k,b,rfl⟩:=AB.1 h;exact(UO (Mv a c) b:Qm ws0 n k.2.1)
theorem O_(v:Qm ws0 n rest){d:Fo×WS×Bool}(h:Xw f rest=some d):Qm ws0 n d.2.1:=by
 unfold Xw at h;obtain⟨⟨w,C,B⟩,x,h⟩:=AA.1 h;obtain⟨⟨j,G,D⟩,g,h⟩:=AA.1 h;obtain⟨⟨c,y,vg⟩,k,h⟩:=AA.1 h;obtain⟨⟨m,F,A⟩,o,h⟩:=AA.1 h;obtain⟨⟨p,u,b⟩,t,h⟩:=AA.1 h;obtain⟨l,a,rfl⟩:=AB.1 h;have e:=Mv (Mv (Ou (Ou (Mv v x) g) k) o) t;simp only at a;cases u with
 |nil=>cases a
 |cons s r=>
  rw[show iI b (s::r)=if Pw s≠0\/O1 s<0\/O1 s>(r.length:Int)then none else Dp (O1 s).toNat b r from rfl]at a;split at a
  .cases a
  .exact UO e.tail a
theorem Lt.gh0{D:Type}{w j:YN}{g:Nat}{c:List YF}{e:YC}{q:Option D}{val:D->YM}{G:D->YN->Prop}{uY:Nat->Prop}(h:Lt w [g] c q (λd (_:Unit)=>val d) (λd _ u=>G d u) e j):
 Lt w [g] c q (λd (_:Gh Unit uY)=>val d) (λd x u=>G d u/\Lz x.1.2 (λ_=>True) u) e j:=by
 cases q with
 |none=>exact h
 |some d=>
  obtain⟨x,p,m,o⟩:=h;exact⟨⟨(x,λ_=>False),λb r=>r.elim⟩,p,m,λa l k=>⟨o a l k,tP λ_=>trivial⟩⟩
end
section
variable{W w:YN}{gt gr n c gl yc:Nat}{A:YY}{ws0 rest r:WS}{f f':Bool}{L:List (Nd×ND)}{S S':TS}{N N':Nd}{q q':ND}
theorem Ws:(Sz L).length=L.length*47:=by
 unfold Sz;induction L with
 |nil=>rfl
 |cons x l a=>rw[List.flatMap_cons,AE,a,AU,show(Yb x.1 x.2).length=47 from by kernel_rfl];omega
theorem F6{uY:Nat->Prop}{h:YN}{Sg:Nat->Prop}(T:TE W w gt gr [gl] A n c ws0)(k:Below W.heap.size W h)(F:W.heap.size<=gl/\gl<w.heap.size)(D:∀b,w.heap.size<=b->uY b)(G:S'.nds=L.map (·.1)++ [N'])
 (j:Tm W w gt gr [gl] (Hy S' (some ⟨gl,0,none⟩,yc) (L.length+1)) (Lj A n c r.length f') h) (y:Y h W.heap.size 69 47 (some ⟨gl,0,none⟩) (L.length+1) yc (Sz L++Yb N' q')) (s:Lz Sg (λv=>cf N q v->cf N' q' v) h) (p:∀b,Sg b->w.heap.size<=b):
 Ni w [gt,gr,gl] (λ_:Gh YL uY=> .tuple #[]) (λx u=>K7 u gr (Lj A n c r.length f')/\Uh W gt (some ⟨gl,0,none⟩,yc) (L++ [(N,q)]) S' uY x.1 u) (.returned (.tuple #[])) h:=
 ⟨⟨(((some ⟨gl,0,none⟩,yc),L++ [(N',q')]),Sg),λb a=>D b (p b a)⟩,rfl,⟨k.os.trans T.hW.os.symm,k.tape.trans T.hW.tape.symm,k.output.trans T.hW.output.symm,j.sz,λb a e=>by
  simp only[AL,not_or]at e;rcases AW b W.heap.size with l|l
  .rw[k.block b l,T.hW.block b l]
  .exact j.fr b l a e.1 e.2.1 (by simpa using e.2.2.1)⟩,λg vg m=>
  ⟨j.br.to (m gr (.inl Zs)),⟨by show K7 g gt (Hy S' _ (L++ [(N',q')]).length);rw[AE];exact j.bt.to (m gt (.inl Zs)),by show Y g _ _ _ _ (L++ [(N',q')]).length _ _;rw[AE,Tf];exact y.same λb a=>m b (.inl (by simp[bl]at a;simp[a])),by rw[G,AP];rfl,
   (s.to vg λb a=>m b (.inr ⟨p b a,s.lt b a⟩)).imp λv B t=>by
    have o:Zg L v:=λx uS=>t x (by simp[uS])
    exact o.snoc (B (t (N,q) Zs)),λb a=> .inl a,λb a C=>by
    obtain rfl:b=gl:=by simpa[bl]using C
    have:=p b a;omega⟩⟩⟩
theorem Zz{l:List Nd}:R0 (l++ [N]) N'=l++ [N']:=by unfold R0;rw[List.dropLast_concat]
theorem EX{u:YN}{d:Nat}{v:YM}(h:Y u W.heap.size 69 47 (some ⟨gl,0,none⟩) (L.length+1) yc (Sz L++Yb N q))(e:(Yb N q)[d]? =some v):u.cell? ⟨gl,L.length*47+d,none⟩=some v:=by
 obtain⟨g,a,b⟩:=h.cells J;injection a with a;injection a with a _ _;subst a;refine b _ v ?_;rw[AR (by rw[Ws];omega),Ws,AZ];exact e
theorem Vn{g k a d:Nat}{t:YH}{u:YN}(h:U8 XW t a 0 0=some ⟨.p 0 (0+d),none⟩):(P8 t ⟨g,k,none⟩ a).run XW u= .ok (.value (Zq g (k+d))) u:=by
 rw[Li h,Addr.add_mid]
theorem Il{u:YN}{B g:Nat}{P:Pn}{p:PM}{K:Nat}(h:Y u B 49 40 (some ⟨g,0,none⟩) 1 1 (Uo P p))(a:Hs P p K u):Cy u (some ⟨g,0,none⟩) [(P,p)] K [P]:=
 ⟨rfl,Y.rowA (cl:=dD) (l:=[(P,p)]) (λ_=>O) rfl (by simpa[dD]using h),λx b=>by rw[show x=(P,p) by simpa using b];exact a⟩
theorem Y.held{u:YN}{B s n c:Nat}{e:YH}{A:YY}{xs:List YM}(h:Y u B e s A n c xs):Lz (λb=>b∈bl A) (λv=>Y v B e s A n c xs) u:=
 ⟨λb g=>(h.lt b g).2,λv _ a=>h.same a⟩
abbrev I1(W:YN)(gl yc:Nat)(L:List (Nd×ND))(N:Nd)(q:ND)(u:YN):Prop:=Y u W.heap.size 69 47 (some ⟨gl,0,none⟩) (L.length+1) yc (Sz L++Yb N q)
theorem I1.keep{a u:YN}{b:Nat}(j:gl≠b)(g:∀x,x∉[b]->a.heap[x]? =u.heap[x]?)(h:I1 W gl yc L N q a):I1 W gl yc L N q u:=
 Y.left h g λx e=>by simp[bl]at e;subst e;simpa using j
theorem Lz.keep{Sg:Nat->Prop}{G:YW}{a u:YN}{b uR:Nat}(h:Lz Sg G a)(g:a.heap.size=u.heap.size)(j:∀x,x∉[b]->a.heap[x]? =u.heap[x]?)(e:∀x,Sg x->uR<=x)(m:b<uR):Lz Sg G u:=
 h.left g j λx k l=>by
  obtain rfl:x=b:=by simpa using l
  have:=e x k;omega
theorem I1.set{P:YK}{t:YH}{g:YN}{d:Nat}{v:YM}(h:I1 W gl yc L N q g)(k:Ot P t=some v.cells.toList.length)(m:d+v.cells.toList.length<=(Yb N q).length)(j:v.cells.toList.all (λu=>u.oneCell')=true)(l:(Yb N q).take d++v.cells.toList++(Yb N q).drop (d+v.cells.toList.length)=Yb N' q'):
 ∃e,(Uk t ⟨gl,L.length*47+d,none⟩ v).run P g= .ok .skip e/\SM [gl] g e/\∀a,e.heap.size<=a.heap.size->(∀b∈[gl],a.heap[b]? =e.heap[b]?)->I1 W gl yc L N' q' a:=
 uw h Ws k m (BE.1 j) l
theorem I1.own(a:W.heap.size<=gl){u:YN}(h:I1 W gl yc L N q u):∀b∈[gl],W.heap.size<=b/\∃xs ty own,u.heap[b]? =some (.cells xs ty own):=λb e=>by
 obtain rfl:b=gl:=by simpa using e
 exact⟨a,(h.blk b (by simp[bl])).2⟩
theorem pH{k:R}{uY:Nat->Prop}{y:YZ}(hM:ML W)(hmm:L.length<1000000)(hE:S.nds=L.map (·.1)++ [N])(hO:Y w W.heap.size 69 47 y.1 (L.length+1) y.2 (Sz L++Yb N q))(hA:∀b∈bl y.1,b≠gt/\b≠gr)(hQ:∀b,w.heap.size<=b->uY b)(T:TE W w gt gr (bl y.1) A n c ws0)(hs:Qm ws0 n rest)(ht:K7 w gt (Hy S y (L.length+1)))(hr:K7 w gr (Lj A n c rest.length false)):
 YG XW 70 #[Zq gt 0,Zq gr 0,E k] w
 (Yg w (gt::gr::bl y.1) S3 (Sj gt S.ln) (Sp S N k rest) (λ_ (_:Gh YL uY)=> .tuple #[]) (λd x u=>K7 u gr (Lj A n c d.2.1.length d.2.2)/\Uh W gt y (L++ [(N,q)]) d.1 uY x.1 u)):=by
 obtain⟨gl,hyA,_⟩:=hO.cells J;obtain⟨yA,yc⟩:=y;simp only at hyA;subst hyA;have hgl:gl≠gt/\gl≠gr:=hA gl (by simp[bl]);have B:W.heap.size<=gl/\gl<w.heap.size:=hO.lt gl (by simp[bl]);have hgr:=hr.lt;have hgt:=ht.lt;have vf:∀(D u:YN),D.heap.size=u.heap.size->(∀b,b∉[gt]->D.heap[b]? =u.heap[b]?)->I1 W gl yc L N q D->I1 W gl yc L N q u:=λD u _ vg h=>h.keep hgl.1 vg
 have K:∀(N q) (D u:YN),D.heap.size=u.heap.size->(∀b,b∉[gr]->D.heap[b]? =u.heap[b]?)->I1 W gl yc L N q D->I1 W gl yc L N q u:=λN q D u _ vg h=>h.keep hgl.2 vg
 have ve:∀{tc rc:List YM} (D u:YN),D.heap.size=u.heap.size->(∀b,b∉[gl]->D.heap[b]? =u.heap[b]?)->Tm W w gt gr [gl] tc rc D->Tm W w gt gr [gl] tc rc u:=λD u uS vg h=>h.ml hA uS vg
 obtain⟨o,l⟩:∃o,o=Sp S N k rest:=⟨_,rfl⟩
 rw[<-l];unfold Sp at l;obtain⟨uT,uV⟩:∃uT,uT=((N.kind==2)&&decide (S.wh>=2)):=⟨_,rfl⟩
 have hpn:uT=false->¬(N.kind=2/\2<=S.wh):=λe h=>by rw[uV,YQ.2 h.1,YU h.2]at e;cases e
 have hpy:uT=true->N.kind=2/\2<=S.wh:=λe=>by rw[uV,AM]at e;exact⟨YQ.1 e.1,YP e.2⟩
 refine ts func70 rfl T.hW (tQ (Φ':=λu=>Tm W w gt gr [gl] (Hy S (some ⟨gl,0,none⟩,yc) (L.length+1)) (Lj A n c rest.length false) u/\I1 W gl yc L N q u) (λu h=>⟨tX T ht hr u h,hO.same λb j=>h.2 b (hO.lt b j).1 (hO.lt b j).2⟩) ?_);refine M<|ZA (L4 25 ⟨gt,6,none⟩) (.slice (some ⟨gl,0,none⟩) (L.length+1) yc) (λa p h=>K9 O (by rw[h.1.bt.cell];rfl))<|X ((((L.length+1:Nat):Int)==0)) false Zp<|tf (val:=λ_:Unit=>Zq gl (L.length*47)) (G:=λ_ _=>True) (λa p h=>by have t:=oG (m:=L.length) J h.1.bt;rw[Addr.add_mid,BV]at t;exact t) O λ_=>tA O (λu h=>h.1)<|H 0<|H 2<|sV (P8 69 ⟨gl,L.length*47,none⟩ 1) (Zq gl (L.length*47+1)) O (λa p h=>Vn (d:=1) O)<|H 3<|sV (L4 3 ⟨gl,L.length*47+1,none⟩) (I N.kind) O (λa p h=>K9 O (EX h.2 O))<|H 6<|tU (λ(x:Nat->AV) c=>P5 [24,25,26,27,28,29,30] x (Ma 7 (.bool uT) (M1 XW 0 1000 (Ma 24 Zf c)))) (λk=> ?_) (λxj=> ?_)
 .by_cases hk2:N.kind=2
  .exact ZT 24 (.bool (N.kind==2)) Zt (by rw[YQ.2 hk2])<|sV (L4 3 ⟨gt,7,none⟩) (I S.wh) O (λa p h=>K9 O (by rw[h.1.bt.cell];rfl))<|H 0<|sM 7 (.bool (decide (S.wh>=2))) (.bool uT) O (by rw[uV,YQ.2 hk2,Bool.true_and])<|tb [24,25,26,27,28,29,30] λx=>tm (k x) O
  .exact sM 24 (.bool (N.kind==2)) Zf O (by rw[YR.2 hk2])<|H 0<|sM 7 Zf (.bool uT) O (by rw[uV,YR.2 hk2,Bool.false_and])<|tb [24,25,26,27,28,29,30] λx=>tm (k x) O
 refine s0 O (stop:=1000) 1 _<|H 0 ?_
 by_cases c1:k=My
 .subst c1;rw[YS rfl]at l;refine M<|ZI true<|ZA (L4 3 ⟨gt,7,none⟩) (I S.wh) (λa p h=>K9 O (by rw[h.1.bt.cell];rfl))<|ek (b:=(S.wh==1)) (z:=2) T vf (λe=>by rw[l,V (by simpa using e)]) (λe=> ?_)
  rw[YS (by simpa using e)]at l;refine e7 4 (q:=Jv false rest) (vq:=λ_ (t:TV)=>t.val) (rs:=λd=>d.2.1) (fl:=λd=>d.2.2) (Cq:=λd t=>Fu t d.1 125) T (λa uZ uR uU=>iN hM uZ hs uR λb j=>AC uU j) (K N q) (λe=>by rw[l,e];rfl) rfl rfl (λd x e=> ?_);rw[e]at l;refine sV (P8 69 ⟨gl,L.length*47,none⟩ 3) (Zq gl (L.length*47+3)) O (λa p h=>Vn (d:=3) O)<|H 5<|s8 (L:=[gl]) (G:=I1 W gl yc L {N with T:=d.1} {q with t:=x.1.1}) (Φ':=λu=>Tm W w gt gr [gl] (Hy {S with wh:=2} (some ⟨gl,0,none⟩,yc) (L.length+1)) (Lj A n c d.2.1.length d.2.2) u/\I1 W gl yc L {N with T:=d.1} {q with t:=x.1.1} u/\Lz x.1.2 (Fu x.1.1 d.1 125) u) (Uk 47 ⟨gl,L.length*47+3,none⟩ x.1.1.val) (λa p h=>h.2.1.set O (AK O) O O) (λu h=>h.2.1.own B.1) (λD u uS vg h Q=>⟨ve D u uS vg h.1,Q,h.2.2.keep uS vg x.2 B.2⟩) O O<|M<|ZV (.tuple #[]) (λa p h=> ?_)
  have k:=h a (AI _) (λ_ _ _=>rfl);rw[l];exact F6 (S':={S with nds:=R0 S.nds {N with T:=d.1},wh:=2}) T p B hQ (by show R0 S.nds _=_;rw[hE,Zz]) k.1 k.2.1 (k.2.2.imp λv uW C=>⟨⟨uW.isA,C.1.cl,C.1.pa,C.1.fi,C.1.da,C.1.st,C.1.px⟩,.inr uW⟩) x.2
 rw[V c1]at l;refine ZA (Nq .eql 9 (.tmp 31) (.const (.string ⟨#[116,114,97,110,115,102,111,114,109]⟩)) (E k) (E My)) Zf (λa p h=>Kj (by simpa using c1))<|sW false O<|H 0 ?_
 by_cases c2:k=Oy
 .subst c2;rw[YS rfl]at l;refine M<|ZI true<|ZA (L4 3 ⟨gt,7,none⟩) (I S.wh) (λa p h=>K9 O (by rw[h.1.bt.cell];rfl))<|ek (b:=(S.wh==2)) (z:=3) T vf (λe=>by rw[l,V (by simpa using e)]) (λe=> ?_)
  rw[YS (by simpa using e)]at l;refine e7 4 (uX:=Unit) (q:=Bm M2 1 false rest) (vq:=λd _=>I d.1) (rs:=λd=>d.2.1) (fl:=λd=>d.2.2) (Cq:=λ_ _ _=>True) T (λa uZ uR uU=>(NN uZ hs uR).mono λ_ _ h=>h.gh0) (K N q) (λe=>by rw[l,e];rfl) rfl rfl (λd x e=> ?_);rw[e,AX]at l;obtain⟨x1,r1,f1⟩:=d;have hs1:=Ou hs e;simp only at l;refine sV (P8 69 ⟨gl,L.length*47,none⟩ 5) (Zq gl (L.length*47+28)) O (λa p h=>Vn (d:=28) O)<|H 5<|s8 (L:=[gl]) (G:=I1 W gl yc L {N with crule:=x1} q) (Φ':=λu=>Tm W w gt gr [gl] (Hy {S with wh:=3} (some ⟨gl,0,none⟩,yc) (L.length+1)) (Lj A n c r1.length f1) u/\I1 W gl yc L {N with crule:=x1} q u) (Uk 3 ⟨gl,L.length*47+28,none⟩ (I x1)) (λa p h=>h.2.1.set O (AK O) O O) (λu h=>h.2.1.own B.1) (λD u uS vg h Q=>⟨ve D u uS vg h.1,Q⟩) O O<|M<|e7 4 (q:=Tc f1 r1) (vq:=λd (z:YZ)=> .slice z.1 d.1.length z.2) (rs:=λd=>d.2.1) (fl:=λd=>d.2.2) (Cq:=λd z v=>Qn v z.1 d.1.length d.1) T (λa uZ uR uU=>Yo hM uZ hs1 uR λb j=>AC uU j) (K {N with crule:=x1} q) (λe=>by rw[l,e];rfl) rfl rfl (λd z e=> ?_)
  rw[e]at l;refine sV (P8 69 ⟨gl,L.length*47,none⟩ 4) (Zq gl (L.length*47+27)) O (λa p h=>Vn (d:=27) O)<|H 5<|s8 (L:=[gl]) (G:=I1 W gl yc L {N with crule:=x1,clip:=d.1} {q with clA:=z.1.1.1,clc:=z.1.1.2}) (Φ':=λu=>Tm W w gt gr [gl] (Hy {S with wh:=3} (some ⟨gl,0,none⟩,yc) (L.length+1)) (Lj A n c d.2.1.length d.2.2) u/\I1 W gl yc L {N with crule:=x1,clip:=d.1} {q with clA:=z.1.1.1,clc:=z.1.1.2} u/\Lz z.1.2 (λv=>Qn v z.1.1.1 d.1.length d.1) u) (Uk 63 ⟨gl,L.length*47+27,none⟩ (.slice z.1.1.1 d.1.length z.1.1.2)) (λa p h=>h.2.1.set O (AK O) O O) (λu h=>h.2.1.own B.1) (λD u uS vg h Q=>⟨ve D u uS vg h.1,Q,h.2.2.keep uS vg z.2 B.2⟩) O O<|M<|ZV (.tuple #[]) (λa p h=> ?_)
  have k:=h a (AI _) (λ_ _ _=>rfl);rw[l];exact F6 (S':={S with nds:=R0 S.nds {N with crule:=x1,clip:=d.1},wh:=3}) T p B hQ (by show R0 S.nds _=_;rw[hE,Zz]) k.1 k.2.1 (k.2.2.imp λv uW C=>⟨⟨C.1.tr,uW,C.1.pa,C.1.fi,C.1.da,C.1.st,C.1.px⟩,C.2⟩) z.2
 rw[V c2]at l;refine ZA (Nq .eql 9 (.tmp 31) (.const (.string ⟨#[99,108,105,112]⟩)) (E k) (E Oy)) Zf (λa p h=>Kj (by simpa using c2))<|sW false O<|H 0 ?_
 by_cases c3:k=Qw
 .subst c3;rw[YS rfl]at l;refine M<|sW true O<|H 3 ?_
  cases j:uT with
  |false=>
   exact M<|ek (b:=false) (z:=4) T vf (λ_=>by rw[l,V λh=>hpn j ⟨h.1,h.2.1⟩]) (λe=>by cases e)
  |true=>
   refine M<|ZA (L4 3 ⟨gt,7,none⟩) (I S.wh) (λa p h=>K9 O (by rw[h.1.bt.cell];rfl))<|ek (b:=decide (S.wh<4)) (z:=4) T vf (λe=>by rw[l,V λh=>by simp at e;omega]) (λe=> ?_)
   rw[YS ⟨(hpy j).1,(hpy j).2,by simpa using e⟩]at l;refine e7 5 (q:=Fs false rest) (rs:=λ_=>[]) (fl:=λd=>d.2) (vq:=λd (z:PM)=>U2 d.1 z) (Cq:=λd z=>Hs d.1 z 125) T (λa uZ uR uU=>dt hM uZ hs uR λb j=>AC uU j) (K N q) (λe=>by rw[l,e];rfl) rfl rfl (λd x e=> ?_);rw[e]at l;refine sO (Kw 64 1 #[(0,U2 d.1 x.1.1)]) (Kd 1) (λg u=>Y u w.heap.size 49 40 (some ⟨g,0,none⟩) 1 1 (Uo d.1 x.1.1)) O (λa p h=>S7 (cells:=(Uo d.1 x.1.1).toArray) O h.1.sz O Zd) λP=>H 5<|sV (P8 69 ⟨gl,L.length*47,none⟩ 12) (Zq gl (L.length*47+35)) O (λa p h=>Vn (d:=35) O)<|H 6<|s8 (L:=[gl]) (G:=I1 W gl yc L {N with fill:=[d.1]} {q with fiA:=some ⟨P,0,none⟩,fic:=1,fl:=[(d.1,x.1.1)]}) (Φ':=λu=>Tm W w gt gr [gl] (Hy {S with wh:=4} (some ⟨gl,0,none⟩,yc) (L.length+1)) (Lj A n c 0 d.2) u/\I1 W gl yc L {N with fill:=[d.1]} {q with fiA:=some ⟨P,0,none⟩,fic:=1,fl:=[(d.1,x.1.1)]} u/\Lz (λb=>x.1.2 b\/b∈bl (some ⟨P,0,none⟩)) (λv=>Hs d.1 x.1.1 125 v/\Y v w.heap.size 49 40 (some ⟨P,0,none⟩) 1 1 (Uo d.1 x.1.1)) u) (Uk 64 ⟨gl,L.length*47+35,none⟩ (Kd 1 P)) (λa p h=>h.1.2.1.set O (AK O) O O) (λu h=>h.1.2.1.own B.1) (λD u uS vg h Q=>⟨ve D u uS vg h.1.1,Q,(h.1.2.2.and (Y.held h.2)).keep uS vg (λb j=>j.elim (x.2 b) λj=>(Y.lt h.2 b j).1) B.2⟩) O O<|M<|ZV (.tuple #[]) (λa p h=> ?_)
   have k:=h a (AI _) (λ_ _ _=>rfl);rw[l];exact F6 (r:=[]) (S':={S with nds:=R0 S.nds {N with fill:=[d.1]},wh:=4}) T p B hQ (by show R0 S.nds _=_;rw[hE,Zz]) k.1 k.2.1 (k.2.2.imp λv uW C=>⟨⟨C.1.tr,C.1.cl,C.1.pa,Il uW.2 uW.1,C.1.da,C.1.st,C.1.px⟩,C.2⟩) (λb j=>j.elim (x.2 b) λj=>(Y.lt k.2.2.get.2 b j).1)
 rw[V c3]at l;refine ZA (Nq .eql 9 (.tmp 31) (.const (.string ⟨#[102,105,108,108]⟩)) (E k) (E Qw)) Zf (λa p h=>Kj (by simpa using c3))<|sW false O<|H 0 ?_
 by_cases c4:k=O8
 .subst c4;rw[YS rfl]at l;refine M<|sW true O<|H 3 ?_
  cases j:uT with
  |false=>
   exact M<|ek (b:=false) (z:=5) T vf (λ_=>by rw[l,V λh=>hpn j ⟨h.1,h.2.1⟩]) (λe=>by cases e)
  |true=>
   refine M<|ZA (L4 3 ⟨gt,7,none⟩) (I S.wh) (λa p h=>K9 O (by rw[h.1.bt.cell];rfl))<|ek (b:=decide (S.wh<5)) (z:=5) T vf (λe=>by rw[l,V λh=>by simp at e;omega]) (λe=> ?_)
   rw[YS ⟨(hpy j).1,(hpy j).2,by simpa using e⟩]at l;refine e7 4 (q:=Xw false rest) (vq:=λd (z:YZ)=>MO d.1 z) (rs:=λd=>d.2.1) (fl:=λd=>d.2.2) (Cq:=λd z v=>O3 v z.1 d.1.d.length 1 Tl d.1.d) T (λa uZ uR uU=>qK uZ hs uR λb j=>AC uU j) (K N q) (λe=>by rw[l,e];rfl) rfl rfl (λd z e=> ?_);rw[e,AX]at l;obtain⟨s,r1,f1⟩:=d;have hs1:=O_ hs e;simp only at l hs1;refine sV (P8 69 ⟨gl,L.length*47,none⟩ 13) (Zq gl (L.length*47+36)) O (λa p h=>Vn (d:=36) O)<|H 5<|s8 (L:=[gl]) (G:=I1 W gl yc L {N with sty:=s} {q with daA:=z.1.1.1,dac:=z.1.1.2}) (Φ':=λu=>Tm W w gt gr [gl] (Hy {S with wh:=5} (some ⟨gl,0,none⟩,yc) (L.length+1)) (Lj A n c r1.length f1) u/\I1 W gl yc L {N with sty:=s} {q with daA:=z.1.1.1,dac:=z.1.1.2} u/\Lz z.1.2 (λv=>O3 v z.1.1.1 s.d.length 1 Tl s.d) u) (Uk 67 ⟨gl,L.length*47+36,none⟩ (MO s z.1.1)) (λa p h=>h.2.1.set O (AK O) O O) (λu h=>h.2.1.own B.1) (λD u uS vg h Q=>⟨ve D u uS vg h.1,Q,h.2.2.keep uS vg z.2 B.2⟩) O O<|M<|e7 5 (F:=λu=>I1 W gl yc L {N with sty:=s} {q with daA:=z.1.1.1,dac:=z.1.1.2} u/\Lz z.1.2 (λv=>O3 v z.1.1.1 s.d.length 1 Tl s.d) u) (q:=Fs f1 r1) (rs:=λ_=>[]) (fl:=λd=>d.2) (vq:=λd (z:PM)=>U2 d.1 z) (Cq:=λd z=>Hs d.1 z 125) T (λa uZ uR uU=>dt hM uZ hs1 uR λb j=>AC uU j) (λD u uS vg h=>⟨K _ _ D u uS vg h.1,h.2.keep uS vg z.2 hgr⟩) (λe=>by rw[l,e];rfl) rfl rfl (λd x e=> ?_)
   rw[e]at l;refine sO (Kw 64 1 #[(0,U2 d.1 x.1.1)]) (Kd 1) (λg u=>Y u w.heap.size 49 40 (some ⟨g,0,none⟩) 1 1 (Uo d.1 x.1.1)) O (λa p h=>S7 (cells:=(Uo d.1 x.1.1).toArray) O h.1.sz O Zd) λP=>H 5<|sV (P8 69 ⟨gl,L.length*47,none⟩ 14) (Zq gl (L.length*47+42)) O (λa p h=>Vn (d:=42) O)<|H 6<|s8 (L:=[gl]) (G:=I1 W gl yc L {N with sty:=s,stroke:=[d.1]} {q with daA:=z.1.1.1,dac:=z.1.1.2,stA:=some ⟨P,0,none⟩,stc:=1,sl:=[(d.1,x.1.1)]}) (Φ':=λu=>Tm W w gt gr [gl] (Hy {S with wh:=5} (some ⟨gl,0,none⟩,yc) (L.length+1)) (Lj A n c 0 d.2) u/\I1 W gl yc L {N with sty:=s,stroke:=[d.1]} {q with daA:=z.1.1.1,dac:=z.1.1.2,stA:=some ⟨P,0,none⟩,stc:=1,sl:=[(d.1,x.1.1)]} u/\Lz (λb=>z.1.2 b\/(x.1.2 b\/b∈bl (some ⟨P,0,none⟩))) (λv=>O3 v z.1.1.1 s.d.length 1 Tl s.d/\Hs d.1 x.1.1 125 v/\Y v w.heap.size 49 40 (some ⟨P,0,none⟩) 1 1 (Uo d.1 x.1.1)) u) (Uk 64 ⟨gl,L.length*47+42,none⟩ (Kd 1 P)) (λa p h=>h.1.2.1.1.set O (AK O) O O) (λu h=>h.1.2.1.1.own B.1) (λD u uS vg h Q=>⟨ve D u uS vg h.1.1,Q,(h.1.2.1.2.and (h.1.2.2.and (Y.held h.2))).keep uS vg (λb j=>j.elim (z.2 b) λj=>j.elim (x.2 b) λj=>(Y.lt h.2 b j).1) B.2⟩) O O<|M<|ZV (.tuple #[]) (λa p h=> ?_)
   have k:=h a (AI _) (λ_ _ _=>rfl);rw[l];exact F6 (r:=[]) (S':={S with nds:=R0 S.nds {N with sty:=s,stroke:=[d.1]},wh:=5}) T p B hQ (by show R0 S.nds _=_;rw[hE,Zz]) k.1 k.2.1 (k.2.2.imp λv uW C=>⟨⟨C.1.tr,C.1.cl,C.1.pa,C.1.fi,uW.1,Il uW.2.2 uW.2.1,C.1.px⟩,C.2⟩) (λb j=>j.elim (z.2 b) λj=>j.elim (x.2 b) λj=>(Y.lt k.2.2.get.2.2 b j).1)
 rw[V c4]at l;exact ZA (Nq .eql 9 (.tmp 31) (.const (.string ⟨#[115,116,114,111,107,101]⟩)) (E k) (E O8)) Zf (λa p h=>Kj (by simpa using c4))<|ZI false<|td (Instr.panic Kh >>= λv=>pure (.value v)) Kh O (λa p h=>by simp[Instr.panic,Kh,BD]) O<|sX λa p h=>by rw[l];exact Tp.pan T p ⟨h.1.sz,h.1.fr,h.1.bt⟩ rfl rfl
end
section
variable{W w wa u:YN}{gt go gr g n c N:Nat}{A:YY}{f b:Bool}{ws:WS}{tc:List YM}
theorem K7.storeN{P:YK}{t:YH}{w:YN}{g j:Nat}{cs:List YM}{v:YM}(h:K7 w g cs)(r:Ot P t=some v.cells.toList.length)(p:j+v.cells.toList.length<=cs.length)(y:∀u∈v.cells.toList,u.oneCell'=true):
 ∃m,(Uk t ⟨g,j,none⟩ v).run P w= .ok .skip m/\SM [g] w m/\∀a,m.heap.size<=a.heap.size->(∀b∈[g],a.heap[b]? =m.heap[b]?)->K7 a g (cs.take j++v.cells.toList++cs.drop (j+v.cells.toList.length)):=by
 obtain⟨ty,h⟩:=h;have l:=run_storeCells_at P g j ty v.cells.toList 0 cs.toArray w h (by simp at p ⊢;omega) y;have x:v.cells.size=v.cells.toList.length:=Zs
 have e:((cs.toArray.toList.take (j+0)++v.cells.toList++cs.toArray.toList.drop (j+0+v.cells.toList.length)).toArray)=(cs.take j++v.cells.toList++cs.drop (j+v.cells.toList.length)).toArray:=rfl;rw[e]at l;refine⟨w.setRow g (cs.take j++v.cells.toList++cs.drop (j+v.cells.toList.length)).toArray,?_,⟨rfl,rfl,rfl,by rw[Qt];exact AI _,λk _ s=>Q2 _ _ _ _ (by simpa using s)⟩,λa B o=>⟨ty,?_⟩⟩
 .simp only[Uk,Instr.storeAt,Instr.sureAddr,storeVar,BA,BJ,BC,M0 r];rw[V Zs];simp only[l,BJ,BA,BC]
 .rw[o g Zs];simp only[World.setRow,Array.getElem?_modify,if_true,h,BS]
abbrev ss:YM:= .slice none 0 0
theorem um{P:YK}{Δ:List YI}{W:YN}{Q:Exit->Act->YN->Prop}{Φ Φ':YW}{c:Ob}(h:∀w,Φ w->Φ' w)(r:aC c=true)(uS:K0 P Δ W Q Φ' c):K0 P Δ W Q Φ c:=by
 obtain⟨p,k,σ⟩:=c;replace uS:=uS.get;refine⟨?_⟩;unfold Vt at uS ⊢;cases p with
 |code x=>exact λj β a w m=>uS j β a w (m.imp h)
 |ops o l=>exact λj β a w m=>uS j β a w (m.imp h)
 |any o f l=>cases r
 |out e=>exact λj β a w m=>uS j β a w (m.imp h)
theorem XC(j:K7 u g tc)(k:∀v∈tc,∀s,v≠E s)(h:Km u A n ws)(m:0<ws.length):∀b∈bl A,b≠g:=by
 rintro b e rfl;obtain⟨s,l⟩:∃s,ws[0]? =some s:=⟨_,AD m⟩
 obtain⟨ad,o,a⟩:=h.2 0 s l;rw[o]at e;obtain rfl:b=ad.block:=by simpa[bl]using e
 obtain⟨ty,j⟩:=j;unfold BM at a;rw[Q1,j]at a;simp only at a;split at a
 .cases a
 .exact k _ (AH (by simpa using a)) s rfl
theorem Km.left2{L:List Nat}(j:∀b,b∉L->wa.heap[b]? =u.heap[b]?)(l:∀b∈bl A,b∉L)(h:Km wa A n ws):Km u A n ws:=
 ⟨h.1,λk s e=>by
  obtain⟨ad,a,m⟩:=h.2 k s e;exact⟨ad,a,Ch m (by rw[Q1];exact(j _ (l _ (by rw[a];simp[bl]))).symm)⟩⟩
theorem ia:Lj A n c n f=[.slice A n c,.bool f]:=by
 unfold Lj k0;rw[Nat.sub_self,LH,Nat.sub_zero]
theorem o0{W uS r g b a wh ln far:Int}{l:YM}(k:∀s,l≠E s):∀v∈Zu W uS r g b a l wh ln far,∀s,v≠E s:=by
 intro v j s e;subst e;unfold Zu at j;simp only[AL,BQ,or_false]at j;rcases j with h|h|h|h|h|h|h|h|h|h<;>first|exact absurd h.symm (k s)|cases h
theorem mL:∀v∈[BX A n c,.bool f],∀s,v≠E s:=by
 intro v a s e;subst e;simp only[AL,BQ,or_false]at a;rcases a with h|h<;>cases h
theorem pg:∀s,ss≠E s:=λs h=>by cases h
def gB(a:Func)(σ:AS):Option (Nat×YH):=
 match a.results.toList with
 | [.cell t ty]=>match σ.tmps.getD t (.v undef)with
  | .v (.pointer (some ⟨g,0,none⟩))=>some (g,ty)
  |_=>none
 |_=>none
theorem iy{P:YK}{Δ:List YI}{W:YN}{Φ:YW}{l:Func}{σ:AS}{β:Nat->Nat}{a:Act}{w j:YN}{g:Nat}{ty:YH}{v:YM}(e:gB l σ=some (g,ty))(p:Re Δ W β σ Φ a w)
 (s:(loadVar ty ⟨g,0,none⟩).run P j= .ok v j):(results l a.tmps).run P j= .ok v j:=by
 unfold gB at e;split at e
 .rename_i t o h;split at e
  .rename_i r m;simp only[Option.some.injEq,Prod.mk.injEq]at e;obtain⟨rfl,rfl⟩:=e;have k:a.tmps.getD t undef=Zq r 0:=by
    have:=p.eval (.tmp t);simp only[Act.eval,AS.eval,m,AV.conc]at this;exact this
   rw[Yq,BA,Array.mapM_eq_mapM_toList,Sem.run_map,h,BU,BA];simp only[Dm,k,asAddr,BA,BJ,BC,s,List.mapM_nil,BU]
   rfl
  .cases e
 .cases e
end
section
variable{P:YK}{W:YN}{Φ:YW}{c:Ob}{fn:Func}{uY:YC->YN->Prop}{fv:Fn}{cap dargs:Array YM}{f:YE}{args:Array YM}
theorem ur{m:List YF}(g:Nat)(ty:YH)(b:c.foc= .out (.panic m))(r:gB fn c.st=some (g,ty))(hi:∀w,(invoke (.fn fv cap) dargs).run P w= .ok (.enter f args) w)
 (h:∀w,Below W.heap.size W w->Φ w->CallsD P f args (.panicking m) w λe u j=>settle u= .returning/\∃x v,e= .returned x/\(loadVar ty ⟨g,0,none⟩).run P j= .ok v j/\uY (.returned v) j):
 K0 P [⟨.fn fv cap,dargs⟩] W (bodyPostD P fn uY) Φ c:=by
 obtain⟨foc,k,σ⟩:=c;refine⟨?_⟩;simp only at b;subst b;intro p β a w l;refine Ag k ?_;show Leaves P fn a.tmps uY a.defers (.panicking m) w;rw[l.defers];refine leaves_cons Zs (hi w) ((h w l.bel l.phi).mono λe t j s=> ?_);obtain⟨y,x,v,rfl,o,A⟩:=s;show Leaves P fn a.tmps uY [] (settle t) j;rw[y];exact⟨_,iy r l o,A⟩
end
section
variable{W w:YN}{gt go c N:Nat}{A:YY}{b:Bool}
theorem oR(g:Below W.heap.size W w):CallsD XW 29 #[Zq go 0] .returning w (λe m f=>m= .returning/\(e= .returned (.tuple #[])/\Below W.heap.size W f/\qV W w f)):=by
 refine tS (rv:= .nilIface) func29 rfl (λρ w=>rfl) rfl rfl rfl rfl rfl (by show 4<1+(15-1);decide) (λa cs k=> ?_) g ?_
 .simp[recoverD,k]
 refine M<|ZI true<|ZV (.tuple #[]) (λl j h=>⟨rfl,j,h l (AI _) λ_ _ _=>rfl⟩)
theorem pI(s:Below W.heap.size W w)(f:K7 w go [.bool b])(lo:W.heap.size<=go):CallsD XW 29 #[Zq go 0] (.panicking S3) w (λe t l=>t= .panicking [{v:=Kh,recovered:=true}]/\(e= .returned (.tuple #[])/\Below W.heap.size W l/\Pt W w go [.bool false] l)):=by
 refine tS (rv:=Kh) func29 rfl (λρ w=>rfl) rfl rfl rfl rfl rfl (by show 4<1+(15-1);decide) (λj cs a=> ?_) s ?_
 .simp[recoverD,a,S3]
 refine M<|ZI false<|M<|ZI false<|s8 (L:=[go]) (G:=λu=>K7 u go [.bool false]) (Φ':=Pt W w go [.bool false]) (Uk 4 ⟨go,0,none⟩ Zf) (λk g h=>(f.stay lo h.2).store O rfl (by intro u a;simp[BN]at a;subst a;rfl)) (λu h b B=> ?_) (λC u m o h x=>⟨by rw[<-m];exact h.1,λb y p r=>(o b (by simpa using r)).symm.trans (h.2 b y p),x⟩) O O ?_
 .obtain rfl:b=go:=by simpa using B
  exact⟨lo,(f.stay lo h.2).own⟩
 refine M<|ZV (.tuple #[]) (λk g h=>⟨rfl,g,h k (AI _) λ_ _ _=>rfl⟩)
theorem Km.stay{u:YN}{B n:Nat}{ws:WS}(h:Km w A n ws)(l:∀b∈bl A,B<=b)(j:∀b,B<=b->b<w.heap.size->u.heap[b]? =w.heap[b]?):Km u A n ws:=
 ⟨h.1,λk s g=>by
  obtain⟨ad,e,f⟩:=h.2 k s g;have a:=Z2 f;rw[Q1]at a;exact⟨ad,e,Ch f (by rw[Q1];exact j _ (l _ (by rw[e];simp[bl])) a)⟩⟩
theorem ce{f:YN}{g:Nat}{v b:Bool}(h:K7 f g [.bool b]):∃e,(Uk 4 ⟨g,0,none⟩ (.bool v)).run XW f= .ok .skip e/\SM [g] f e/\∀a,e.heap.size<=a.heap.size->(∀b∈[g],a.heap[b]? =e.heap[b]?)->K7 a g [.bool v]:=h.store O rfl (by intro u j;simp[BN]at j;subst j;rfl)
theorem Km.blk{u:YN}{A:YY}{n:Nat}{ws:WS}(h:Km u A n ws)(f:0<ws.length):∀b∈bl A,∃cs ty own,u.heap[b]? =some (.cells cs ty own):=λb e=>by
 obtain⟨ad,g,a⟩:=h.2 0 _ (AD f);rw[g]at e;obtain rfl:b=ad.block:=by simpa[bl]using e
 unfold BM at a;rw[Q1]at a;split at a
 .exact⟨_,_,_,by assumption⟩
 .cases a
theorem r8{l:R}{ws:WS}{n:Nat}(o:ML w)(B:XT l=true)(D:l.length<=10000000)(s:Lu l=ws)(t:ws.length=n)(v:0<ws.length)(r:N<=w.heap.size):YG XW 11 #[E l] w (K6 w (λq:(YZ)×Nat=> .tuple #[.slice q.1.1 n q.1.2,I 0]) λq u=>Km u q.1.1 n ws/\∀b∈bl q.1.1,N<=b):=by
 subst t;subst s;refine(sf o B D).mono λe vg h=> ?_
 obtain⟨x,C,p,m⟩:=h.fresh (λy=>bl y.1) (λy u k b f=>k.blk v b f);exact⟨x,C,p,λa j g=>⟨(m a j g).1,λb f=>AC r ((m a j g).2.1 b f).1⟩⟩
end
section
variable{W w:YN}{gt:Nat}{y:YZ}{L:List (Nd×ND)}{S:TS}{l:R}{N:Nat}
theorem rY(j:ML w)(s:Rq (Kt l)=true)(B:l.length<=65536){ws:WS}(p:Al (Kt l)=ws)(r:0<ws.length)(o:N<=w.heap.size):YG XW 59 #[E l] w (K6 w (λq:(YZ)×Nat=> .tuple #[.slice q.1.1 ws.length q.1.2,I 0,I 0]) λq u=>(Km u q.1.1 ws.length ws/\ws.length<=q.1.2)/\∀b∈bl q.1.1,N<=b):=by
 subst p;refine(qB j s J).mono λe A h=> ?_
 obtain⟨x,t,m,g⟩:=h.fresh (λx=>bl x.1) (λx u k=>k.1.blk r);exact⟨x,t,m,λa f c=>⟨(g a f c).1,λb v=>AC o ((g a f c).2.1 b v).1⟩⟩
end
section
variable{W w:YN}{gt gr n c:Nat}{A:YY}{y:YZ}{ws0 rest:WS}{f:Bool}{L:List (Nd×ND)}{S:TS}{uY:Nat->Prop}{tc rc:List YM}
structure KE(W w:YN)(gt gr:Nat)(y:YZ)(A:YY)(n c:Nat)(ws0:WS):Prop where
 hW:Below W.heap.size W w
 lt:W.heap.size<=gt
 gl:gt<w.heap.size
 lr:w.heap.size<=gr
 nA:∀b∈bl A,b≠gt/\b≠gr/\b∉bl y.1
 ny:∀b∈bl y.1,b≠gt/\b<w.heap.size
 hn:n<=c
 hn2:n<=1000000
 len:∀y∈ws0,y.length<=65536
structure Tk(W w:YN)(gt gr:Nat)(y:YZ)(A:YY)(n:Nat)(ws0:WS)(rc:List YM)(u:YN):Prop where
 sz:w.heap.size<=u.heap.size
 fr:∀b,W.heap.size<=b->b<w.heap.size->b≠gt->b∉bl y.1->u.heap[b]? =w.heap[b]?
 br:K7 u gr rc
 s:Km u A n ws0
theorem KE.te(K:KE W w gt gr y A n c ws0){u:YN}(a:Below W.heap.size W u)(h:Km u A n ws0):TE W u gt gr (bl y.1) A n c ws0:=
 ⟨a,h,K.lt,AC K.hW.size K.lr,by have:=K.gl;have:=K.lr;omega,K.nA,K.hn,K.hn2,K.len⟩
theorem KE.re(K:KE W w gt gr y A n c ws0){u:YN}(a:Below W.heap.size W u)(h:Km u A n ws0):RE W u gr A n c ws0:=
 ⟨a,AC K.hW.size K.lr,h,λad _ e=>(K.nA ad.block (by rw[e];simp[bl])).2.1,K.hn,K.hn2,K.len⟩
theorem Tk.left{l u:YN}{LL:List Nat}{a:List YM}(K:KE W w gt gr y A n c ws0)(p:∀b∈LL,b=gt\/b=gr\/b∈bl y.1)(B:l.heap.size<=u.heap.size)(m:∀b,b∉LL->b<l.heap.size->l.heap[b]? =u.heap[b]?)(h:Tk W w gt gr y A n ws0 rc l)(C:K7 u gr a):Tk W w gt gr y A n ws0 a u:=
 ⟨AC h.sz B,λb F o t v=>(m b (λg=>(p b g).elim t λk=>k.elim (λe=>by have:=K.lr;omega) v) (BB o h.sz)).symm.trans (h.fr b F o t v),C,by
  refine⟨h.s.1,λk s vg=> ?_⟩;obtain⟨ad,x,r⟩:=h.s.2 k s vg;refine⟨ad,x,Ch r ?_⟩;have g:=K.nA ad.block (by rw[x];simp[bl]);have j:=Z2 r;rw[Q1]at j ⊢;exact(m ad.block (λD=>(p _ D).elim g.1 λk=>k.elim g.2.1 g.2.2) j).symm⟩
theorem Tk.pan{e:YN}{ln:Int}(g:Below W.heap.size W w)(h:Below W.heap.size W e)(r:w.heap.size<=e.heap.size)(t:∀b,W.heap.size<=b->b<w.heap.size->b≠gt->b∉bl y.1->e.heap[b]? =w.heap[b]?)(v:Sj gt ln e):kB w (gt::bl y.1) S3 (Sj gt ln) (.panicked S3) e:=
 ⟨rfl,⟨h.os.trans g.os.symm,h.tape.trans g.tape.symm,h.output.trans g.output.symm,r,λk p a=>by
  simp only[AL,not_or]at a;rcases AW k W.heap.size with j|j
  .rw[h.block k j,g.block k j]
  .exact t k j p a.1 a.2⟩,λs x l=>by
  obtain⟨cs,u,m,o⟩:=v;exact⟨cs,u.to (l gt (.inl Zs)),m,o⟩⟩
theorem Br{m:Nat}{u:YN}(h:K7 u gt (Hy S y m)):Sj gt S.ln u:=⟨_,h,rfl,rfl⟩
structure Kp(W w:YN)(gt:Nat)(y:YZ)(ln:Int)(u:YN):Prop where
 sz:w.heap.size<=u.heap.size
 fr:∀b,W.heap.size<=b->b<w.heap.size->b≠gt->b∉bl y.1->u.heap[b]? =w.heap[b]?
 ln:Sj gt ln u
theorem lf{D D2 X2:Type}{B:Func}{x:Option D2}{Eo:D2->X2->YM}{G2:D2->X2->YN->Prop}{F:YW}{q:Option D}{vq:D->YM}{rs:D->WS}{fl:D->Bool}{e:YE}{args:Array YM}{p:Ob}{z:Int}(st:Nat)(K:KE W w gt gr y A n c ws0)
 (G:∀a,RE W a gr A n c ws0->K7 a gr (Lj A n c rest.length f)->YG XW e args a (Lt a [gr] S3 q (λd (_:Unit)=>vq d) (λd _ u=>K7 u gr (Lj A n c (rs d).length (fl d)))))
 (vg:∀g u:YN,g.heap.size=u.heap.size->(∀b,b∉[gr]->g.heap[b]? =u.heap[b]?)->F g->F u) (Q:∀u,F u->Sj gt z u)
 (uR:q=none->x=none)
 (N:∀d,q=some d->K0 XW [] W (bodyPost XW B (Yg w (gt::bl y.1) S3 (Sj gt z) x Eo G2)) (λu=>Tk W w gt gr y A n ws0 (Lj A n c (rs d).length (fl d)) u/\F u) (M1 XW st 1000 (Lf (.v (vq d)) p)))
 (C:Rt p=true:=by kernel_rfl) (l:M8 XW p=some (e,args):=by kernel_rfl):K0 XW [] W (bodyPost XW B (Yg w (gt::bl y.1) S3 (Sj gt z) x Eo G2)) (λu=>Tk W w gt gr y A n ws0 (Lj A n c rest.length f) u/\F u) p:=by
 have own:Bk W [gr] (λu=>Tk W w gt gr y A n ws0 (Lj A n c rest.length f) u/\F u):=λu h b o=>by
  obtain rfl:b=gr:=by simpa using o
  exact⟨AC K.hW.size K.lr,h.1.br.own⟩
 cases r:q with
 |none=>
  exact s6 (L:=[gr]) (Φ':=Kp W w gt y z) (λa m h=>by have t:=G a (K.re m h.1.s) h.1.br;rw[r]at t;exact t) own (λg u j k h _=>⟨by rw[<-j];exact h.1.sz,λb vf uS P ve=>(k b (by have:=K.lr;simp;omega)).symm.trans (h.1.fr b vf uS P ve),Q u (vg g u j k h.2)⟩) C l<|sX λa m h=>by rw[uR r];exact Tk.pan K.hW m h.sz h.fr h.ln
 |some d=>exact sZ (L:=[gr]) (Φ':=λ_ u=>Tk W w gt gr y A n ws0 (Lj A n c (rs d).length (fl d)) u/\F u) (λa m h=>by have t:=G a (K.re m h.1.s) h.1.br;rw[r]at t;exact t) own (λ_ g u j k h uZ=>⟨h.1.left K (λb o=> .inr (.inl (by simpa using o))) (BF j) (λb o _=>k b o) uZ,vg g u j k h.2⟩) C l (λ_=>s0 O (stop:=st) 1000 _ (N d r))
theorem UP{g u:YN}{S':TS}{x:YL×(Nat->Prop)}{b:Nat}(p:b≠gt)(m:b∉bl y.1)(l:¬uY b)(r:¬x.2 b)(o:g.heap.size=u.heap.size)(e:∀k,k∉[b]->g.heap[k]? =u.heap[k]?)(h:Uh W gt y L S' uY x g):Uh W gt y L S' uY x u:=
 ⟨h.bt.to (e gt (by simpa using p.symm)).symm,h.row.left e λk a j=>by
  obtain rfl:k=b:=by simpa using j
  exact(h.bl k a).elim m l,h.eq,h.hd.left o e λk a j=>by
  obtain rfl:k=b:=by simpa using j
  exact r a,h.bl,h.ap⟩
def R1(w:YN)(gr:Nat)(uY:Nat->Prop)(b:Nat):Prop:=(w.heap.size<=b/\uY b)/\b≠gr
theorem Wx{b u:YN}{S':TS}{x:Gh YL (R1 w gr uY)}(K:KE W w gt gr y A n c ws0)(e:b.heap.size=u.heap.size)(g:∀k,k∉[gr]->b.heap[k]? =u.heap[k]?)(h:Uh W gt y L S' (R1 w gr uY) x.1 b):Uh W gt y L S' (R1 w gr uY) x.1 u:=
 UP (by have:=K.gl;have:=K.lr;omega) (λa=>by have:=(K.ny gr a).2;have:=K.lr;omega) (λa=>a.2 rfl) (λa=>(x.2 _ a).2 rfl) e g h
theorem J6{b u:YN}{S' S2:TS}{x:Gh YL (R1 w gr uY)}(K:KE W w gt gr y A n c ws0)(m:S2.nds=S'.nds)(j:b.heap.size=u.heap.size)(g:∀k,k∉[gt]->b.heap[k]? =u.heap[k]?)(h:Uh W gt y L S' (R1 w gr uY) x.1 b)(l:K7 u gt (Hy S2 x.1.1.1 x.1.1.2.length)):Uh W gt y L S2 (R1 w gr uY) x.1 u:=
 ⟨l,h.row.left g λk a e=>by
  obtain rfl:k=gt:=by simpa using e
  exact(h.bl k a).elim (λk=>(K.ny _ k).1 rfl) λk=>by have:=k.1.1;have:=K.gl;omega,by rw[m];exact h.eq,h.hd.left j g λk a e=>by
  obtain rfl:k=gt:=by simpa using e
  have:=(x.2 _ a).1.1;have:=K.gl;omega,h.bl,h.ap⟩
theorem L_{l:YN}{S':TS}{x:Gh YL (R1 w gr uY)}(K:KE W w gt gr y A n c ws0)(g:Below W.heap.size W l)(o:Tk W w gt gr y A n ws0 rc l)(h:Uh W gt y L S' (R1 w gr uY) x.1 l):Ni w (gt::bl y.1) (λ_:Gh YL uY=> .tuple #[]) (λx u=>Uh W gt y L S' uY x.1 u) (.returned (.tuple #[])) l:=
 ⟨⟨x.1,λb a=>(x.2 b a).1.2⟩,rfl,⟨g.os.trans K.hW.os.symm,g.tape.trans K.hW.tape.symm,g.output.trans K.hW.output.symm,o.sz,λk p e=>by
  simp only[AL,not_or]at e;rcases AW k W.heap.size with j|j
  .rw[g.block k j,K.hW.block k j]
  .exact o.fr k j p e.1 e.2⟩,λr s m=>⟨h.bt.to (m gt (.inl Zs)),h.row.same λb a=>m b ((h.bl b a).imp (λk=>by simp[k]) λk=>⟨k.1.1,(h.row.lt b a).2⟩),h.eq,h.hd.to s λb a=>m b (.inr ⟨(x.2 b a).1.1,h.hd.lt b a⟩),λb a=>(h.bl b a).imp id λk=>k.1.2,h.ap⟩⟩
theorem qH{D2 X2:Type}{F:Func}{vg:Option D2}{Eo:D2->X2->YM}{G2:D2->X2->YN->Prop}{q:Option (TS×WS×Bool)}{e:YE}{args:Array YM}{r:Ob}(st:Nat)(K:KE W w gt gr y A n c ws0){B:Gh YL (R1 w gr uY)}(o:B.1.1.1=y)
 (ve:∀g,Below W.heap.size W g->Tk W w gt gr y A n ws0 (Lj A n c rest.length f) g->Uh W gt y L S (R1 w gr uY) B.1 g->YG XW e args g (Yg g (gt::gr::bl y.1) S3 (Sj gt S.ln) q (λ_ (_:Gh YL (R1 w gr uY))=> .tuple #[]) (λd x u=>K7 u gr (Lj A n c d.2.1.length d.2.2)/\Uh W gt y L d.1 (R1 w gr uY) x.1 u)))
 (Q:q=none->vg=none)
 (T:∀d (x:Gh YL (R1 w gr uY)),q=some d->K0 XW [] W (bodyPost XW F (Yg w (gt::bl y.1) S3 (Sj gt S.ln) vg Eo G2)) (λu=>Tk W w gt gr y A n ws0 (Lj A n c d.2.1.length d.2.2) u/\Uh W gt y L d.1 (R1 w gr uY) x.1 u) (M1 XW st 1000 (Lf (.v (.tuple #[])) r)))
 (uS:Rt r=true:=by kernel_rfl) (j:M8 XW r=some (e,args):=by kernel_rfl):K0 XW [] W (bodyPost XW F (Yg w (gt::bl y.1) S3 (Sj gt S.ln) vg Eo G2)) (λu=>Tk W w gt gr y A n ws0 (Lj A n c rest.length f) u/\Uh W gt y L S (R1 w gr uY) B.1 u) r:=by
 have own:Bk W (gt::gr::bl y.1) (λu=>Tk W w gt gr y A n ws0 (Lj A n c rest.length f) u/\Uh W gt y L S (R1 w gr uY) B.1 u):=λu h b a=>by
  simp only[AL]at a;rcases a with rfl|rfl|a
  .exact⟨K.lt,h.2.bt.own⟩
  .exact⟨AC K.hW.size K.lr,h.1.br.own⟩
  .exact⟨(h.2.row.lt b (by rw[o];exact a)).1,(h.2.row.blk b (by rw[o];exact a)).2⟩
 have m:∀b∈gt::gr::bl y.1,b=gt\/b=gr\/b∈bl y.1:=λb a=>by simpa using a
 cases s:q with
 |none=>
  exact us (L:=gt::gr::bl y.1) (G:=Sj gt S.ln) (Φ':=Kp W w gt y S.ln) (λg l h=>by have t:=ve g l h.1 h.2;rw[s]at t;exact t) own (λP u C D h p=>⟨by rw[<-C];exact h.1.sz,λb uZ N uR vf=>(D b (λa=>(m b a).elim uR λk=>k.elim (λe=>by have:=K.lr;omega) vf)).symm.trans (h.1.fr b uZ N uR vf),p⟩) uS j<|sX λg l h=>by rw[Q s];exact Tk.pan K.hW l h.sz h.fr h.ln
 |some d=>exact sZ (L:=gt::gr::bl y.1) (Φ':=λ(x:Gh YL (R1 w gr uY)) u=>Tk W w gt gr y A n ws0 (Lj A n c d.2.1.length d.2.2) u/\Uh W gt y L d.1 (R1 w gr uY) x.1 u) (λg l h=>by have t:=ve g l h.1 h.2;rw[s]at t;exact t) own (λx P u C D h (p:K7 u gr (Lj A n c d.2.1.length d.2.2)/\Uh W gt y L d.1 (R1 w gr uY) x.1 u)=>⟨h.1.left K m (BF C) (λb a _=>D b a) p.1,p.2⟩) uS j (λx=>s0 O (stop:=st) 1000 _ (T d x s))
theorem mw{k:Int}{d:TS×WS×Bool}(h:f_ S k f rest=some d):d.1.ln=S.ln:=by
 unfold f_ at h;split at h
 .obtain⟨_,_,rfl⟩:=AB.1 h;rfl
 .cases h
theorem gf{N:Nd}{k:R}{d:TS×WS×Bool}(h:Sp S N k rest=some d):d.1.ln=S.ln:=by
 unfold Sp at h;split at h
 .split at h
  .obtain⟨_,_,rfl⟩:=AB.1 h;rfl
  .cases h
 split at h
 .split at h
  .obtain⟨_,_,h⟩:=AA.1 h;obtain⟨_,_,rfl⟩:=AB.1 h;rfl
  .cases h
 split at h
 .split at h
  .obtain⟨_,_,rfl⟩:=AB.1 h;rfl
  .cases h
 split at h
 .split at h
  .obtain⟨_,_,h⟩:=AA.1 h;obtain⟨_,_,rfl⟩:=AB.1 h;rfl
  .cases h
 .cases h
theorem lB{k:R}{d:TS×WS×Bool}(h:Tu S k rest=some d):d.1.ln=S.ln:=by
 unfold Tu at h;split at h
 .split at h
  .obtain⟨_,_,h⟩:=AA.1 h;obtain⟨_,_,h⟩:=AA.1 h;obtain⟨_,_,rfl⟩:=AB.1 h;rfl
  .cases h
 split at h
 .exact mw (f:=false) h
 split at h
 .cases h
 .exact gf h
theorem g7{k:R}(e:Below W.heap.size W w)(lt:W.heap.size<=gt)(p:K7 w gt (Hy S y 0)):YG XW 70 #[Zq gt 0,Zq gr 0,E k] w (kB w (gt::gr::bl y.1) S3 (Sj gt S.ln)):=by
 refine ts func70 rfl e (tQ (Φ':=λu=>(w.heap.size<=u.heap.size/\∀b,W.heap.size<=b->b<w.heap.size->u.heap[b]? =w.heap[b]?)/\K7 u gt (Hy S y 0)) (λu h=>⟨h,p.stay lt h.2⟩) ?_);refine M<|ZA (L4 25 ⟨gt,6,none⟩) (.slice y.1 0 y.2) (λj a h=>K9 O (by rw[h.2.cell];rfl))<|ZI true<|td (Instr.panic Kh >>= λv=>pure (.value v)) Kh O (λj a h=>by simp[Instr.panic,Kh,BD]) O ?_
 exact sX λj a h=>⟨rfl,⟨a.os.trans e.os.symm,a.tape.trans e.tape.symm,a.output.trans e.output.symm,h.1.1,λk l _=>by
  rcases AW k W.heap.size with g|g
  .rw[a.block k g,e.block k g]
  .exact h.1.2 k g l⟩,λr s o=>Br (y:=y) (m:=0) (h.2.to (o gt (.inl Zs)))⟩
theorem VG(ws:WS):Qm ws ws.length ws:=⟨by rw[Nat.sub_self];rfl,AI _⟩
def rI:List Nat:=[30,31,32,33,34,35,36,37,38,39,40,41,42,43,44,45,46,47,48,49,50,51,52,53,54,55,56,57,58,59,60,61,62,63,64,65,66,67,68]
noncomputable def rV(c:Ob):Ob:=M1 XW 0 1000 (Em false (M1 XW 1000 1000 (Lf (.v Zf) c)))
noncomputable def qI(c:Ob):Ob:=M1 XW 0 1000 (Lf (.v (.tuple #[])) (M1 XW 1000 1000 (Em false (M1 XW 1000 1000 (Lf (.v Zf) (rV (rV (rV c))))))))
theorem jx{k:R}(m:ML W)(e:L.length<1000000)(l:L.map (·.1)=S.nds)(j:Y w W.heap.size 69 47 y.1 L.length y.2 (Sz L))(s:∀b∈bl y.1,b≠gt/\b≠gr)(p:∀b,w.heap.size<=b->uY b)(T:TE W w gt gr (bl y.1) A n c ws0)(r:Qm ws0 n rest)(g:K7 w gt (Hy S y L.length))(o:K7 w gr (Lj A n c rest.length false)):
 YG XW 70 #[Zq gt 0,Zq gr 0,E k] w
 (Yg w (gt::gr::bl y.1) S3 (Sj gt S.ln) (match S.nds.getLast? with|none=>none|some N=>Sp S N k rest) (λ_ (_:Gh YL uY)=> .tuple #[]) (λd x u=>K7 u gr (Lj A n c d.2.1.length d.2.2)/\Uh W gt y L d.1 uY x.1 u)):=by
 rcases List.eq_nil_or_concat L with h|⟨L0,⟨N,q⟩,h⟩
 .subst h;rw[<-l];exact g7 T.hW T.lt g
 .subst h;rw[List.concat_eq_append]at*;have a:S.nds=L0.map (·.1)++ [N]:=by rw[<-l,AP];rfl
  have t:=pH (uY:=uY) (k:=k) (q:=q) m (by simp at e;omega) a (by rw[AE,Tf]at j;exact j) s p T r (by rw[AE]at g;exact g) o;rw[a,List.getLast?_concat];exact t
theorem pp{l:R}(hM:ML W)(hl:l.length<=65536)(hW:Below W.heap.size W w)(lt:W.heap.size<=gt)(hm:L.length<1000000)(ht:K7 w gt (Hy S y L.length))(hO:Y w W.heap.size 69 47 y.1 L.length y.2 (Sz L))(hE:L.map (·.1)=S.nds)(hA:∀b∈bl y.1,b≠gt)(hQ:∀b,w.heap.size<=b->uY b):
 YG XW 30 #[Zq gt 0,E l] w (Yg w (gt::bl y.1) S3 (Sj gt S.ln) (Vv S l) (λ_ (_:Gh YL uY)=> .tuple #[]) (λS' x u=>Uh W gt y L S' uY x.1 u)):=by
 have hgt:=ht.lt;have hny:∀b∈bl y.1,b≠gt/\b<w.heap.size:=λb C=>⟨hA b C,(hO.lt b C).2⟩
 obtain⟨o,F⟩:∃o,o=Vv S l:=⟨_,rfl⟩
 rw[<-F];unfold Vv at F;refine ts func30 rfl hW<|M ?_
 have bad:o=none->∀B,Below W.heap.size W B->(w.heap.size<=B.heap.size/\∀b,W.heap.size<=b->b<w.heap.size->B.heap[b]? =w.heap[b]?)->Yg w (gt::bl y.1) S3 (Sj gt S.ln) o (λ_ (_:Gh YL uY)=> .tuple #[]) (λS' x u=>Uh W gt y L S' uY x.1 u) (.panicked S3) B:=λe B a h=>by rw[e];exact Tk.pan hW a h.1 (λb P h2 _ _=>h.2 b P h2) (Br (ht.stay lt h.2))
 cases hB:Rq (Kt l)with
 |false=>
  rw[hB,V Zd]at F;exact Z (λB a h=>rK (hM.below a) hB J) λ_=>ZI true<|td (Instr.panic Kh >>= λv=>pure (.value v)) Kh O (λB a h=>by simp[Instr.panic,Kh,BD]) O<|sX λB a h=>bad F B a h.1
 |true=>
 rw[hB,YS rfl]at F;cases he:Al (Kt l)with
 |nil=>
  rw[he]at F;exact tf (val:=λy:YZ=> .tuple #[.slice y.1 0 y.2,I 0,I 0]) (G:=λy u=>Km u y.1 0 []) (λB a h=>by have t:=rL (l:=l) (hM.below a) hB J;rw[he]at t;exact t) O λ_=>M<|ZI true<|td (Instr.panic Kh >>= λv=>pure (.value v)) Kh O (λB a h=>by simp[Instr.panic,Kh,BD]) O<|sX λB a h=>bad F B a h.1
 |cons k ws=>
 rw[he]at F;have F:o=(Tu S k ws).bind Hg:=F;have hwl:=Gf (l:=l);have hwm:=Ge hB;rw[he]at hwl hwm;obtain⟨uS,hn0⟩:∃uS,uS=(k::ws).length:=⟨_,rfl⟩
 have hn1:uS=ws.length+1:=hn0;refine tf (uX:=(YZ)×Nat) (val:=λq=> .tuple #[.slice q.1.1 uS q.1.2,I 0,I 0]) (G:=λq u=>(Km u q.1.1 uS (k::ws)/\uS<=q.1.2)/\∀b∈bl q.1.1,w.heap.size<=b) (λB a h=>by have t:=rY (hM.below a) hB hl he Zs h.1;rw[<-hn0]at t;exact t) O (λq=> ?_);obtain⟨⟨A,cap⟩,jj⟩:=q;refine M<|sQ (((uS:Int)==0)) false O Zp<|H 2<|sO (fu 124 (.agg #[.slice A uS cap,.bool false])) X0 (λg u=>K7 u g [.slice A uS cap,.bool false]/\w.heap.size<=g/\g<u.heap.size) O (λB a h=>J3 (v:= .agg #[.slice A uS cap,.bool false]) h.1.1) λgr=>H 2<|s7 (p:=w.heap.size<=gr/\uS<=cap/\∀b∈bl A,w.heap.size<=b/\b≠gr) (λu hu h=>⟨h.2.2.1,h.1.2.1.2,λb C=>⟨h.1.2.2 b C,XC h.2.1 mL h.1.2.1.1 Zs b C⟩⟩) O (λhp=> ?_)
 obtain⟨hgr,hcap,hAb⟩:=hp;have K:KE W w gt gr y A uS cap (k::ws):=⟨hW,lt,hgt,hgr,λb C=>⟨by have:=(hAb b C).1;omega,(hAb b C).2,λhy=>by have:=(hny b hy).2;have:=(hAb b C).1;omega⟩,hny,hcap,by omega,λz hz=>AC (hwm z hz) hl⟩
 have hs:Qm (k::ws) uS (k::ws):=by rw[hn0];exact VG _
 have hyr:∀b∈bl y.1,b≠gt/\b≠gr:=λb C=>⟨(hny b C).1,by have:=(hny b C).2;omega⟩
 obtain⟨uT,hx0⟩:∃uT:Gh YL (R1 w gr uY),uT=⟨((y,L),λ_=>False),λb C=>C.elim⟩:=⟨_,rfl⟩
 refine um (Φ':=λu=>Tk W w gt gr y A uS (k::ws) (Lj A uS cap (k::ws).length false) u/\Uh W gt y L S (R1 w gr uY) uT.1 u) (λu h=>⟨⟨h.1.1.1,λb P h2 _ _=>h.1.1.2 b P h2,by rw[<-hn0,ia];exact h.2.1,h.1.2.1.1⟩,by rw[hx0];exact⟨ht.stay lt h.1.1.2,hO.same λb C=>h.1.1.2 b (hO.lt b C).1 (hO.lt b C).2,hE,tP λv h=>h,λb C=> .inl C,λb C=>C.elim⟩⟩) O<|M<|lf 0 (q:=some (k,ws)) (rest:=k::ws) (vq:=λd=>E d.1) (rs:=λd=>d.2) (fl:=λ_=>false) K (λB T uZ=>aJ T hs uZ) (λve u vg D h=>Wx K vg D h) (λu h=>Br h.bt) (λe=>by cases e) (λd e=> ?_)
 obtain rfl:d=(k,ws):=by injection e with e;exact e.symm
 have hs1:=hs.tail;have uR:uT.1.1=(y,L):=by rw[hx0]
 have own:∀{rc:List YM} {S':TS},Bk W [gt] (λu=>Tk W w gt gr y A uS (k::ws) rc u/\Uh W gt y L S' (R1 w gr uY) uT.1 u):=λu h b C=>by
  obtain rfl:b=gt:=by simpa using C
  exact⟨lt,h.2.bt.own⟩
 have uW:∀{rc:List YM} (ve u:YN),ve.heap.size=u.heap.size->(∀b,b∉[gt]->ve.heap[b]? =u.heap[b]?)->Tk W w gt gr y A uS (k::ws) rc ve->Tk W w gt gr y A uS (k::ws) rc u:=λve u vg D h=>h.left K (λb C=> .inl (by simpa using C)) (BF vg) (λb C _=>D b C) (h.br.to (D gr Zp).symm)
 have vf:∀{S':TS} {u:YN},Uh W gt y L S' (R1 w gr uY) uT.1 u->K7 u gt (Hy S' y L.length):=λh=>by have:=h.bt;rw[uR]at this;exact this
 refine s0 O (stop:=1000) 1 _<|H 0<|tM (ι:=(Nat->AV)×{p:(TS×WS×Bool)×Gh YL (R1 w gr uY) // Tu S k ws=some p.1}) (λi c=>P5 rI i.1 (qI c)) (λi u=>Tk W w gt gr y A uS (k::ws) (Lj A uS cap i.2.1.1.2.1.length i.2.1.1.2.2) u/\Uh W gt y L i.2.1.1.1 (R1 w gr uY) i.2.1.2.1 u) (λkk=> ?_) (λi=> ?_)
 .by_cases c1:k=Lx
  .subst c1;have Q:Tu S Lx ws=if S.ln=0 then(Do false ws).bind λw=>(Do w.2.2 w.2.1).bind λh=>(XQ h.2.2 h.2.1).map λc=>({S with w:=w.1,h:=h.1,bg:=c.1,wh:=0},c.2.1,c.2.2)else none:=by unfold Tu;rw[YS rfl]
   rw[Q]at F;refine M<|ZI true<|sV (L4 3 ⟨gt,8,none⟩) (I S.ln) O (λB a h=>K9 O (by rw[(vf h.2).cell];rfl))<|H 6 ?_
   by_cases h0:S.ln=0
   rotate_left
   .rw[V h0]at F;exact sM 41 (.bool ((S.ln:Int)==0)) Zf O (by rw[YR.2 J])<|s6 (L:=[]) (Φ':=Kp W w gt y S.ln) (λB a h=>D9 (gt:=gt) (z:=0) a) (λu h b C=>by cases C) (λve u vg D h _=>⟨by rw[<-vg];exact h.1.sz,λb T uZ k3 k4=>(D b Zs).symm.trans (h.1.fr b T uZ k3 k4),Br ((vf h.2).to (D gt Zs).symm)⟩) O O<|sX λB a h=>by rw[F];exact Tk.pan hW a h.sz h.fr h.ln
   rw[YS h0]at F Q;refine sM 41 (.bool ((S.ln:Int)==0)) Zt O (by rw[YQ.2 J])<|sZ (L:=[gt]) (Φ':=λ(_:Unit) u=>Tk W w gt gr y A uS (Lx::ws) (Lj A uS cap ws.length false) u/\Uh W gt y L {S with wh:=0} (R1 w gr uY) uT.1 u) (λB a h=>JJ (z:=0) a lt (vf h.2) (by show 7<10;decide)) own (λ_ ve u vg D h uV=>⟨uW ve u vg D h.1,J6 (S2:={S with wh:=0}) K (by rfl) vg D h.2 (by rw[uR];exact uV)⟩) O O λ_=>M<|lf 1000 K (λB T uZ=>N5 T hs1 uZ) (λve u vg D h=>Wx K vg D h) (λu h=>by have t:=Br (vf h);exact t) (λe=>by rw[F,e];rfl) (λd vg=> ?_)
   rw[vg,AX]at F Q;obtain⟨uU,r1,f1⟩:=d;have hs2:=Mv hs1 vg;refine s8 (L:=[gt]) (G:=λu=>K7 u gt (Hy {S with w:=uU,wh:=0} y L.length)) (Φ':=λu=>Tk W w gt gr y A uS (Lx::ws) (Lj A uS cap r1.length f1) u/\Uh W gt y L {S with w:=uU,wh:=0} (R1 w gr uY) uT.1 u) (Uk 3 ⟨gt,0,none⟩ (I uU)) (λB a h=>(vf h.2).store1 (j:=0) O rfl (by show 0<10;decide) rfl) own (λve u vg D h uV=>⟨uW ve u vg D h.1,J6 (S2:={S with w:=uU,wh:=0}) K (by rfl) vg D h.2 (by rw[uR];exact uV)⟩) O O<|M<|lf 1000 K (λB T uZ=>N5 T hs2 uZ) (λve u vg D h=>Wx K vg D h) (λu h=>by have t:=Br (vf h);exact t) (λe=>by rw[F];simp only;rw[e];rfl) (λd D=> ?_)
   simp only at F Q;rw[D,AX]at F Q;obtain⟨x2,r2,f2⟩:=d;have hs3:=Mv hs2 D;refine s8 (L:=[gt]) (G:=λu=>K7 u gt (Hy {S with w:=uU,h:=x2,wh:=0} y L.length)) (Φ':=λu=>Tk W w gt gr y A uS (Lx::ws) (Lj A uS cap r2.length f2) u/\Uh W gt y L {S with w:=uU,h:=x2,wh:=0} (R1 w gr uY) uT.1 u) (Uk 3 ⟨gt,1,none⟩ (I x2)) (λB a h=>(vf h.2).store1 (j:=1) O rfl (by show 1<10;decide) rfl) own (λve u vg D h uV=>⟨uW ve u vg D h.1,J6 (S2:={S with w:=uU,h:=x2,wh:=0}) K (by rfl) vg D h.2 (by rw[uR];exact uV)⟩) O O<|M<|lf 1000 K (λB T uZ=>B5 T hs3 uZ) (λve u vg D h=>Wx K vg D h) (λu h=>by have t:=Br (vf h);exact t) (λe=>by rw[F];simp only;rw[e];rfl) (λd e3=> ?_)
   simp only at F Q;rw[e3,BS]at Q;obtain⟨x3,r3,f3⟩:=d;exact s8 (L:=[gt]) (G:=λu=>K7 u gt (Hy {S with w:=uU,h:=x2,bg:=x3,wh:=0} y L.length)) (Φ':=λu=>Tk W w gt gr y A uS (Lx::ws) (Lj A uS cap r3.length f3) u/\Uh W gt y L {S with w:=uU,h:=x2,bg:=x3,wh:=0} (R1 w gr uY) uT.1 u) (Uk 24 ⟨gt,2,none⟩ (Rk x3)) (λB a h=>(vf h.2).storeN (j:=2) O (by show 2+4<=10;decide) (BE.1 (show((Rk x3).cells.toList.all λu=>u.oneCell')=true from by kernel_rfl))) own (λve u vg D h uV=>⟨uW ve u vg D h.1,J6 (S2:={S with w:=uU,h:=x2,bg:=x3,wh:=0}) K (by rfl) vg D h.2 (by rw[uR];exact uV)⟩) O O<|H 0<|tb rI λz=>tm (kk (z,⟨(({S with w:=uU,h:=x2,bg:=x3,wh:=0},r3,f3),uT),Q⟩)) O
  refine ZA (Nq .eql 9 (.tmp 29) (.const (.string ⟨#[115,99,101,110,101]⟩)) (E k) (E Lx)) Zf (λB a h=>Kj (by simpa using c1))<|sW false O<|H 0 ?_
  by_cases c2:Ly k=0
  .have c3:k≠Y1/\k≠Xq/\k≠Zc:=by
    unfold Ly at c2;refine⟨λe=> ?_,λe=> ?_,λe=> ?_⟩<;>subst e<;>exact absurd c2 Zd
   have Q:Tu S k ws=match S.nds.getLast? with|none=>none|some N=>Sp S N k ws:=by unfold Tu;rw[V c1,V (λh=>h c2)];rfl
   exact ZA (Nq .eql 9 (.tmp 29) (.const (.string ⟨#[103,114,111,117,112]⟩)) (E k) (E Y1)) Zf (λB a h=>Kj (by simpa using c3.1))<|sW false O<|H 0<|ZA (Nq .eql 9 (.tmp 29) (.const (.string ⟨#[115,104,97,112,101]⟩)) (E k) (E Xq)) Zf (λB a h=>Kj (by simpa using c3.2.1))<|sW false O<|H 0<|ZA (Nq .eql 9 (.tmp 29) (.const (.string ⟨#[105,109,97,103,101]⟩)) (E k) (E Zc)) Zf (λB a h=>Kj (by simpa using c3.2.2))<|ZI false<|qH 0 K (by rw[uR]) (λB a P h2=>jx hM hm hE (by have:=h2.row;rw[uR]at this;exact this) hyr (λb C=>⟨⟨AC P.sz C,hQ b (AC P.sz C)⟩,by have:=P.br.lt;omega⟩) (K.te a P.s) hs1 (vf h2) P.br) (λe=>by rw[F,Q,e];rfl) λd x e=>tb rI λz=>tm (kk (z,⟨(d,x),Q.trans e⟩)) O
  .have Q:Tu S k ws=f_ S (Ly k) false ws:=by unfold Tu;rw[V c1,YS c2];rfl
   refine tU (λ(x:Nat->AV) c=>P5 [61,62,63,64] x (M1 XW 0 1000 (Em true (M1 XW 1000 1000 (Em true (M1 XW 1000 1000 (Lf (.v Zt) c))))))) (λuZ=> ?_) (λxj=> ?_)
   .by_cases d1:k=Y1
    .exact ZA (Nq .eql 9 (.tmp 29) (.const (.string ⟨#[103,114,111,117,112]⟩)) (E k) (E Y1)) Zt (λB a h=>Kj (by simpa using d1))<|ZI true<|sW true O<|H 0<|tb [61,62,63,64] λz=>tm (uZ z) O
    refine ZA (Nq .eql 9 (.tmp 29) (.const (.string ⟨#[103,114,111,117,112]⟩)) (E k) (E Y1)) Zf (λB a h=>Kj (by simpa using d1))<|sW false O<|H 0 ?_
    by_cases d2:k=Xq
    .exact ZA (Nq .eql 9 (.tmp 29) (.const (.string ⟨#[115,104,97,112,101]⟩)) (E k) (E Xq)) Zt (λB a h=>Kj (by simpa using d2))<|ZI true<|sW true O<|H 0<|tb [61,62,63,64] λz=>tm (uZ z) O
    refine ZA (Nq .eql 9 (.tmp 29) (.const (.string ⟨#[115,104,97,112,101]⟩)) (E k) (E Xq)) Zf (λB a h=>Kj (by simpa using d2))<|sW false O<|H 0 ?_
    have d3:k=Zc:=by
     unfold Ly at c2;rw[V d1,V d2]at c2;exact Classical.byContradiction λh=>c2 (V h)
    exact ZA (Nq .eql 9 (.tmp 29) (.const (.string ⟨#[105,109,97,103,101]⟩)) (E k) (E Zc)) Zt (λB a h=>Kj (by simpa using d3))<|sW true O<|H 0<|tb [61,62,63,64] λz=>tm (uZ z) O
   exact M<|qH 0 K (by rw[uR]) (λB a P h2=>nm c2 hM hm hE (by have:=h2.row;rw[uR]at this;exact this) hyr (λb C=>⟨⟨AC P.sz C,hQ b (AC P.sz C)⟩,by have:=P.br.lt;omega⟩) (K.te a P.s) hs1 (vf h2) P.br) (λe=>by rw[F,Q,e];rfl) λd x e=>tb rI λz=>tm (kk (z,⟨(d,x),Q.trans e⟩)) O
 obtain⟨xv,⟨⟨⟨S',r',f'⟩,x⟩,hd⟩⟩:=i;have hln:=lB hd;rw[hd,AX]at F;refine M ?_;cases r' with
 | cons s r=>
  have hN:o=none:=by rw[F];rfl
  refine s6 (L:=[gr]) (Φ':=Kp W w gt y S.ln) (λB a h=>j0 (m:=r.length) a (AC hW.size hgr) h.1.br) (λu h b C=> ?_) (λve u vg D h _=> ?_) O O ?_
  .obtain rfl:b=gr:=by simpa using C
   exact⟨AC hW.size hgr,h.1.br.own⟩
  .exact⟨by rw[<-vg];exact h.1.sz,λb T uZ k3 k4=>(D b Zp).symm.trans (h.1.fr b T uZ k3 k4),by rw[<-hln];exact Br (Wx K vg D h.2).bt⟩
  exact sX λB a h=>by rw[hN];exact Tk.pan hW a h.sz h.fr h.ln
 | nil=>
  have F:o=some (if f'=true/\S'.far<0 then{S' with far:=S'.ln}else S'):=by rw[F];rfl
  refine sZ (L:=[gr]) (Φ':=λ(_:Unit) u=>Tk W w gt gr y A uS (k::ws) (Lj A uS cap 0 f') u/\Uh W gt y L S' (R1 w gr uY) x.1 u) (λB a h=>PV a (AC hW.size hgr) h.1.br) (λu h b C=> ?_) (λ_ ve u vg D h uV=>⟨h.1.left K (λb C=> .inr (.inl (by simpa using C))) (BF vg) (λb C _=>D b C) uV,Wx K vg D h.2⟩) O O (λ_=> ?_)
  .obtain rfl:b=gr:=by simpa using C
   exact⟨AC hW.size hgr,h.1.br.own⟩
  refine M<|sV (L4 4 ⟨gr,1,none⟩) (.bool f') O (λB a h=>K9 O (by rw[h.1.br.cell];rfl))<|H 5 ?_
  cases f' with
  |false=>
   rw[V (λh=>by cases h.1)]at F;refine M<|ZI false<|ZV (.tuple #[]) (λB a h=>by have k:=h B (AI _) λ_ _ _=>rfl;rw[F];exact L_ K a k.1 k.2)
  | true=>
   refine M<|ZA (L4 3 ⟨gt,9,none⟩) (I S'.far) (λB a h=>K9 O (by rw[h.2.bt.cell];rfl)) ?_
   by_cases h9:S'.far<0
   .rw[YS ⟨rfl,h9⟩]at F;refine X (decide (S'.far<0)) true (YU h9)<|ZA (L4 3 ⟨gt,8,none⟩) (I S'.ln) (λB a h=>K9 O (by rw[h.2.bt.cell];rfl)) ?_
    refine s8 (L:=[gt]) (G:=λu=>K7 u gt (Hy {S' with far:=S'.ln} x.1.1.1 x.1.1.2.length)) (Φ':=λu=>Tk W w gt gr y A uS (k::ws) (Lj A uS cap 0 true) u/\Uh W gt y L {S' with far:=S'.ln} (R1 w gr uY) x.1 u) (Uk 3 ⟨gt,9,none⟩ (I S'.ln)) (λB a h=>h.2.bt.store1 (j:=9) O rfl (by show 9<10;decide) rfl) (λu h b C=>by
     obtain rfl:b=gt:=by simpa using C
     exact⟨lt,h.2.bt.own⟩) (λve u vg D h uV=>⟨uW ve u vg D h.1,J6 (S2:={S' with far:=S'.ln}) K (by rfl) vg D h.2 uV⟩) O O ?_
    refine M<|ZV (.tuple #[]) (λB a h=>by have k:=h B (AI _) λ_ _ _=>rfl;rw[F];exact L_ K a k.1 k.2)
   .rw[V (λh=>h9 h.2)]at F;refine X (decide (S'.far<0)) false (YV h9)<|ZV (.tuple #[]) (λB a h=>by have k:=h B (AI _) λ_ _ _=>rfl;rw[F];exact L_ K a k.1 k.2)
end
theorem pD{a:R}(b:a.getLast? =some 10):∃x,a=x++ [10]:=by
 obtain⟨_,e⟩:=List.getLast?_eq_some_iff.1 b;exact⟨_,e⟩
theorem fD(x:R):Lu (x++ [10])=Ke 10 x:=by
 unfold Lu;rw[V Zs,List.dropLast_concat]
section
variable{S S1:TS}{i:Nat}{l:R}{r l1 l2:List R}
theorem bI:Sk S i (l::r)=match Vv {S with ln:=i} l with
 |none=> .inl i
 |some S'=>Sk S' (i+1) r:=rfl
end
section
variable{s m:R}
structure qL(s:R):Prop where
 at_:(Nf s).2.1=0
 ok:A8 (Nf s).1=true
 eq:Ju (Nf s).1=s
 len:s.length<=65536
 last:s.getLast? =some 10
 rd:∃S,Sk SN 0 (Lu s)= .inr S/\(Nf s).1=S.sc
theorem iG(h:(Nf s).2.2=0):qL s:=by
 unfold Nf at h;split at h
 .cases h
 rename_i g;split at h
 .cases h
 rename_i c;split at h
 .cases h
 rename_i S e;split at h
 .cases h
 rename_i f;split at h
 case isFalse=>cases h
 rename_i b;have a:Nf s=(S.sc,0,0):=by unfold Nf;rw[V g,V c,e];show(if 0<=S.far then _ else _)=_;rw[V f,YS b]
 exact⟨by rw[a],by rw[a];exact b.1,by rw[a];exact b.2,by omega,Classical.not_not.1 c,S,e,by rw[a]⟩
theorem kJ(h:(Nf s).2.2≠0):(Nf s).1=Gs:=by
 unfold Nf at h ⊢;split
 .rfl
 rename_i b;rw[V b]at h;split
 .rfl
 rename_i f;rw[V f]at h;split
 .rfl
 rename_i S e;rw[e]at h;split
 .rfl
 rename_i a;split
 .rename_i c;exfalso;apply h;show(if 0<=S.far then _ else _:Sc×Nat×Int).2.2=0;rw[V a,YS c]
 .rfl
theorem XD{b:R}(c:b.getLast? =some 10):∃x y,Lu b=x::y:=by
 obtain⟨x,rfl⟩:=pD c;rw[fD];cases a:Ke 10 x with
 |nil=>exact absurd a (Uw 10 x)
 |cons h t=>exact⟨h,t,rfl⟩
end
def rU:Nat ⊕ TS->Bool
 | .inl _=>false
 | .inr _=>true
def l_(W:YN)(gt:Nat)(o:Nat ⊕ TS)(uY:Nat->Prop)(x:YL×(Nat->Prop))(u:YN):Prop:=match o with
 | .inl i=>Sj gt i u
 | .inr S=>Uh W gt (none,0) [] S uY x u
structure Ta(W w:YN)(gt go:Nat)(A:YY)(n:Nat)(ls:WS)(b:Bool)(u:YN):Prop where
 sz:w.heap.size<=u.heap.size
 fr:∀k,W.heap.size<=k->k<w.heap.size->k≠gt->u.heap[k]? =w.heap[k]?
 bo:K7 u go [.bool b]
 s:Km u A n ls
structure Ka(W w:YN)(gt go:Nat)(A:YY):Prop where
 hW:Below W.heap.size W w
 lt:W.heap.size<=gt
 gl:gt<w.heap.size
 lo:w.heap.size<=go
 nA:∀b∈bl A,b<w.heap.size/\b≠gt
section
variable{W w wa u:YN}{gt go n c:Nat}{A:YY}{y:YZ}{ls:WS}{L:List (Nd×ND)}{S S2:TS}{uY R2:Nat->Prop}{x x2:YL×(Nat->Prop)}{b b2:Bool}
theorem Ta.left{LL:List Nat}(K:Ka W w gt go A)(g:∀k∈LL,k=gt\/w.heap.size<=k)(m:wa.heap.size=u.heap.size)(f:∀k,k∉LL->wa.heap[k]? =u.heap[k]?)(h:Ta W w gt go A n ls b wa)(o:K7 u go [.bool b2]):Ta W w gt go A n ls b2 u:=
 ⟨by rw[<-m];exact h.sz,λk l p e=>(f k λa=>(g k a).elim e λh=>J).symm.trans (h.fr k l p e),o,h.s.left2 f λk j a=>by
  have:=K.nA k j;exact(g k a).elim this.2 λh=>J⟩
theorem lY(g:gt∉bl x.1.1.1)(m:¬x.2 gt)(o:S2.nds=S.nds)(j:wa.heap.size=u.heap.size)(f:∀k,k∉[gt]->wa.heap[k]? =u.heap[k]?)(h:Uh W gt y L S uY x wa)(l:K7 u gt (Hy S2 x.1.1 x.1.2.length)):Uh W gt y L S2 uY x u:=
 ⟨l,h.row.left f λk a e=>by
  obtain rfl:k=gt:=by simpa using e
  exact g a,by rw[o];exact h.eq,h.hd.left j f λk a e=>by
  obtain rfl:k=gt:=by simpa using e
  exact m a,h.bl,h.ap⟩
theorem mg(l:wa.heap.size=u.heap.size)(m:∀k,k∉gt::bl x.1.1.1->wa.heap[k]? =u.heap[k]?)(h:Uh W gt y L S uY x wa)(a:Uh W gt x.1.1 x.1.2 S2 R2 x2 u)(g:∀k,R2 k->uY k/\¬x.2 k)(o:¬x.2 gt):Uh W gt y L S2 uY (x2.1,λk=>x.2 k\/x2.2 k) u:=
 ⟨a.bt,a.row,a.eq,((h.hd.left l m λk e f=>by
  rcases AL.1 f with rfl|f
  .exact o e
  .exact h.ap k e f).and a.hd).imp λv j p=>j.2 (j.1 p),λk e=>(a.bl k e).elim (h.bl k) λq=> .inr (g k q).1,λk e f=>e.elim (λq=>(a.bl k f).elim (h.ap k q) λr=>(g k r).2 q) λq=>a.ap k q f⟩
theorem fg{l:R}{i:Nat}(h:ls[i]? =some l):ls.drop i=l::ls.drop (i+1):=by
 obtain⟨a,e⟩:=AJ.1 h;rw[List.drop_eq_getElem_cons a,e]
theorem Ka.pan{i:Int}(K:Ka W w gt go A){f j:YN}(D:Below W.heap.size W f)(l:w.heap.size<=f.heap.size/\∀k,W.heap.size<=k->k<w.heap.size->k≠gt->f.heap[k]? =w.heap[k]?)(B:Sj gt i f)(g:Below W.heap.size W j)(a:Pt W f go [.bool false] j){uX:Type}(x:uX){G:uX->YN->Prop}(t:∀u,Sj gt i u->G x u):Ni w [gt] (λ_:uX=> .bool false) G (.returned Zf) j:=by
 have o:=a.2.1;refine⟨x,rfl,⟨g.os.trans K.hW.os.symm,g.tape.trans K.hW.tape.symm,g.output.trans K.hW.output.symm,AC l.1 a.1,λk p m=> ?_⟩,λh C r=>t h ?_⟩
 .rcases AW k W.heap.size with e|e
  .rw[g.block k e,K.hW.block k e]
  .rw[o k e (BB p l.1) (by have:=K.lo;omega)];exact l.2 k e p (by simpa using m)
 .obtain⟨cs,q1,v,s⟩:=B;refine⟨cs,(q1.to (o gt K.lt q1.lt (by have:=K.gl;have:=K.lo;omega))).to (r gt (.inl Zs)),v,s⟩
theorem Dg{l:List Nd}{N:Nd}:(R0 l N).length<=l.length+1:=by unfold R0;simp
theorem ZG{N:Nd}{k:R}{rest:WS}{d:TS×WS×Bool}(h:Sp S N k rest=some d):d.1.nds.length<=S.nds.length+1:=by
 unfold Sp at h;split at h
 .split at h
  .obtain⟨_,_,rfl⟩:=AB.1 h;exact Dg
  .cases h
 split at h
 .split at h
  .obtain⟨_,_,h⟩:=AA.1 h;obtain⟨_,_,rfl⟩:=AB.1 h;exact Dg
  .cases h
 split at h
 .split at h
  .obtain⟨_,_,rfl⟩:=AB.1 h;exact Dg
  .cases h
 split at h
 .split at h
  .obtain⟨_,_,h⟩:=AA.1 h;obtain⟨_,_,rfl⟩:=AB.1 h;exact Dg
  .cases h
 .cases h
theorem ar{l:R}{S':TS}(h:Vv S l=some S'):S'.nds.length<=S.nds.length+1:=by
 unfold Vv at h;split at h
 case isFalse=>cases h
 split at h
 .cases h
 obtain⟨d,a,e⟩:=AA.1 h;have f:d.1.nds.length<=S.nds.length+1:=by
  unfold Tu at a;split at a
  .split at a
   .obtain⟨_,_,a⟩:=AA.1 a;obtain⟨_,_,a⟩:=AA.1 a;obtain⟨_,_,rfl⟩:=AB.1 a;exact Nat.le_succ _
   .cases a
  split at a
  .split at a
   .obtain⟨_,_,rfl⟩:=AB.1 a;show(S.nds++ [_]).length<=_;simp
   .cases a
  split at a
  .cases a
  .exact ZG a
 unfold Hg at e;split at e
 .injection e with e;subst e;split<;>exact f
 .cases e
def Rw(w:YN)(go:Nat)(k:Nat):Prop:=w.heap.size<=k/\k≠go
theorem qQ(hM:ML W)(uR:Below W.heap.size W w)(lt:W.heap.size<=gt)(hs:Km w A n ls)(h0:0<n)(hn:n<=900000)(hlen:∀l∈ls,l.length<=65536)(hA:∀b∈bl A,W.heap.size<=b)(ht:K7 w gt (Hy SN (none,0) 0))(hQ:∀k,w.heap.size<=k->uY k):YG XW 12 #[Zq gt 0,.slice A n c] w
 (Ni w [gt] (λ_:Gh YL uY=> .bool (rU (Sk SN 0 ls))) (λx u=>l_ W gt (Sk SN 0 ls) uY x.1 u)):=by
 have hgt:=ht.lt;have hln:=hs.1;obtain⟨o,ho⟩:∃o,o=Sk SN 0 ls:=⟨_,rfl⟩
 rw[<-ho];refine uh func12 rfl uR<|H 0<|sO (Cx 4) X0 (λg u=>K7 u g [.bool false]/\w.heap.size<=g/\g<u.heap.size) O (λm r h=>E0 (z:= .bool false) O h.1) λgo=>M ?_
 refine s7 (p:=w.heap.size<=go/\∀b∈bl A,b<w.heap.size/\b≠gt) (λu hu h=>⟨h.2.2.1,λb a=>⟨by
  obtain⟨cs,ty,own,e⟩:=hs.blk J b a;exact(Array.getElem?_eq_some_iff.1 e).1,XC ht (o0 pg) hs J b a⟩⟩) O (λhp=> ?_)
 obtain⟨N,hnA⟩:=hp;have K:Ka W w gt go A:=⟨uR,lt,hgt,N,hnA⟩
 obtain⟨x0,hx0⟩:∃x0:Gh YL (Rw w go),x0=⟨(((none,0),[]),λ_=>False),λb a=>a.elim⟩:=⟨_,rfl⟩
 refine um (Φ':=λu=>Ta W w gt go A n ls false u/\Uh W gt (none,0) [] SN (Rw w go) x0.1 u) (λu h=>⟨⟨h.1.1,λb uU h2 _=>h.1.2 b uU h2,h.2.1,hs.stay hA h.1.2⟩,by rw[hx0];exact⟨ht.stay lt h.1.2,s_,rfl,tP λv h=>h,λb a=> .inl a,λb a=>a.elim⟩⟩) O ?_;have hR:∀(x:Gh YL (Rw w go)),¬x.1.2 go/\¬x.1.2 gt:=λx=>⟨λh=>(x.2 _ h).2 rfl,λh=>by have:=(x.2 _ h).1;omega⟩
 have vf:∀{S:TS} {x:Gh YL (Rw w go)} {u:YN},Uh W gt (none,0) [] S (Rw w go) x.1 u->∀k∈bl x.1.1.1.1,Rw w go k:=λh k D=>(h.bl k D).elim (λq=>by cases q) id
 have hgs:∀{S:TS} {x:Gh YL (Rw w go)} (wa u:YN),wa.heap.size=u.heap.size->(∀k,k∉[go]->wa.heap[k]? =u.heap[k]?)->Uh W gt (none,0) [] S (Rw w go) x.1 wa->Uh W gt (none,0) [] S (Rw w go) x.1 u:=λwa u F C h=>UP J (λa=>by cases a) (λq=>q.2 rfl) (hR _).1 F C h
 have hog:∀{S:TS} {x:Gh YL (Rw w go)} {b:Bool},Bk W [go] (λu=>Ta W w gt go A n ls b u/\Uh W gt (none,0) [] S (Rw w go) x.1 u):=λu h b a=>by
  obtain rfl:b=go:=by simpa using a
  exact⟨AC uR.size N,h.1.bo.own⟩
 have hot:∀{S:TS} {x:Gh YL (Rw w go)} {b:Bool},Bk W [gt] (λu=>Ta W w gt go A n ls b u/\Uh W gt (none,0) [] S (Rw w go) x.1 u):=λu h b a=>by
  obtain rfl:b=gt:=by simpa using a
  exact⟨lt,h.2.bt.own⟩
 have Q:∀{S S2:TS} {x:Gh YL (Rw w go)} (wa u:YN),S2.nds=S.nds->wa.heap.size=u.heap.size->(∀k,k∉[gt]->wa.heap[k]? =u.heap[k]?)->(Ta W w gt go A n ls true wa/\Uh W gt (none,0) [] S (Rw w go) x.1 wa)->K7 u gt (Hy S2 x.1.1.1 x.1.1.2.length)->Ta W w gt go A n ls true u/\Uh W gt (none,0) [] S2 (Rw w go) x.1 u:=λwa u hn F C h a=>⟨h.1.left K (λk D=> .inl (by simpa using D)) F C (h.1.bo.to (C go Zp).symm),lY (λD=>by have:=(vf h.2 gt D).1;omega) (hR _).2 hn F C h.2 a⟩
 have P:∀{i:Nat} {m:YN},o= .inl i->Below W.heap.size W m->(w.heap.size<=m.heap.size/\∀k,W.heap.size<=k->k<w.heap.size->k≠gt->m.heap[k]? =w.heap[k]?)/\Sj gt i m/\K7 m go [.bool true]->CallsD XW 29 #[Zq go 0] (.panicking S3) m λe u uX=>settle u= .returning/\∃x v,e= .returned x/\(loadVar 4 ⟨go,0,none⟩).run XW uX= .ok v uX/\Ni w [gt] (λ_:Gh YL uY=> .bool (rU o)) (λx u=>l_ W gt o uY x.1 u) (.returned v) uX:=λhi r h=>by
  refine(pI r h.2.2 (AC uR.size N)).mono λe u' uX he=> ?_
  obtain⟨rfl,rfl,a,vg⟩:=he;refine⟨rfl,_,_,rfl,Ww O vg.2.2,?_⟩;rw[hi];exact K.pan r h.1 h.2.1 a vg (x:=(⟨(((none,0),[]),λ_=>False),λb a=>a.elim⟩:Gh YL uY)) λu hu=>hu
 refine s8 (L:=[go]) (G:=λu=>K7 u go [.bool true]) (Φ':=λu=>Ta W w gt go A n ls true u/\Uh W gt (none,0) [] SN (Rw w go) x0.1 u) (Uk 4 ⟨go,0,none⟩ Zt) (λm r h=>ce h.1.bo) hog (λwa u F C h ve=>⟨h.1.left K (λk D=> .inr (by simp at D;omega)) F C ve,hgs wa u F C h.2⟩) O O<|M<|ui ⟨.fn (.func 29) #[Zq go 0],#[]⟩ O O<|M<|sU (ι:={q:Nat×TS×Gh YL (Rw w go) // q.1<=n/\Sk q.2.1 q.1 (ls.drop q.1)=o/\q.2.1.nds.length<=q.1}) 36 (λq=>⟨[(0,.v (Zq gt 0)),(1,.v (.slice A n c)),(4,.v (X0 go)),(8,.v (.slice A n c)),(9,.v (I n)),(10,.v (I q.1.1))],[]⟩) (λq u=>Ta W w gt go A n ls true u/\Uh W gt (none,0) [] q.1.2.1 (Rw w go) q.1.2.2.1 u) (λq=>n-q.1.1) (⟨(0,SN,x0),AG _,ho.symm,AI _⟩) O (λ_=>O) zt (λu h=>h) ?_
 rintro⟨⟨i,S,x⟩,hi,B,T⟩ gg;have hi:i<=n:=hi;have B:Sk S i (ls.drop i)=o:=B;have T:S.nds.length<=i:=T
 by_cases uW:i<n
 .obtain⟨l,hl⟩:∃v,ls[i]? =some v:=⟨_,AD J⟩
  obtain⟨ad,uT,hc⟩:=hs.2 i l hl;rw[fg hl,bI]at B;refine M<|X (decide ((i:Int)<(n:Int))) true Zp<|ZA (Ki 53 (.slice A n c) i) (.pointer (some (ad.add i))) (λm r h=>by rw[uT];exact Kg (elem:=9) O O uW)<|ZA (L4 9 (ad.add i)) (E l) (λm r h=>K9 O (by obtain⟨ad2,q1,q2⟩:=h.1.s.2 i l hl;obtain rfl:=Option.some.inj (uT.symm.trans q1);exact q2))<|s8 (L:=[gt]) (G:=λu=>K7 u gt (Hy {S with ln:=i} x.1.1.1 x.1.1.2.length)) (Φ':=λu=>Ta W w gt go A n ls true u/\Uh W gt (none,0) [] {S with ln:=i} (Rw w go) x.1 u) (Uk 3 ⟨gt,8,none⟩ (I i)) (λm r h=>h.2.bt.store1 (j:=8) O rfl (by show 8<10;decide) rfl) hot (λwa u F C h ve=>Q (S2:={S with ln:=i}) wa u (by rfl) F C h ve) O O<|M ?_
  have own:Bk W (gt::bl x.1.1.1.1) (λu=>Ta W w gt go A n ls true u/\Uh W gt (none,0) [] {S with ln:=i} (Rw w go) x.1 u):=λu h b a=>by
   rcases AL.1 a with rfl|a
   .exact⟨lt,h.2.bt.own⟩
   .exact⟨(h.2.row.lt b a).1,(h.2.row.blk b a).2⟩
  have tk:∀m,Below W.heap.size W m->(Ta W w gt go A n ls true m/\Uh W gt (none,0) [] {S with ln:=i} (Rw w go) x.1 m)->YG XW 30 #[Zq gt 0,E l] m (Yg m (gt::bl x.1.1.1.1) S3 (Sj gt i) (Vv {S with ln:=i} l) (λ_ (_:Gh YL (λk=>Rw w go k/\¬x.1.2 k))=> .tuple #[]) (λS' x2 u=>Uh W gt x.1.1.1 x.1.1.2 S' (λk=>Rw w go k/\¬x.1.2 k) x2.1 u)):=λm r h=>
   pp (S:={S with ln:=i}) hM (hlen l (AH hl)) r lt (by have:=congrArg List.length h.2.eq;rw[AQ]at this;have h5:x.1.1.2.length=S.nds.length:=this;omega) h.2.bt h.2.row h.2.eq (λb a=>by have:=(vf h.2 b a).1;omega) (λb a=>⟨⟨AC h.1.sz a,by have:=h.1.bo.lt;omega⟩,λq=>by have:=h.2.hd.lt b q;omega⟩)
  have uZ:∀u:YN,Uh W gt (none,0) [] {S with ln:=i} (Rw w go) x.1 u->∀k∈gt::bl x.1.1.1.1,(k=gt\/w.heap.size<=k)/\k≠go:=λu h k D=>by
   rcases AL.1 D with rfl|D
   .exact⟨.inl rfl,by omega⟩
   .exact⟨.inr (vf h k D).1,(vf h k D).2⟩
  cases e:Vv {S with ln:=i} l with
  |none=>
   have hN:o= .inl i:=by rw[<-B,e]
   exact us (L:=gt::bl x.1.1.1.1) (G:=Sj gt i) (Φ':=λu=>(w.heap.size<=u.heap.size/\∀k,W.heap.size<=k->k<w.heap.size->k≠gt->u.heap[k]? =w.heap[k]?)/\Sj gt i u/\K7 u go [.bool true]) (λm r h=>by have t:=tk m r h;rw[e]at t;exact t) own (λwa u F C h ve=>⟨⟨by rw[<-F];exact h.1.sz,λk k1 uV k3=>(C k λhm=>((uZ wa h.2 k hm).1).elim k3 λq=>J).symm.trans (h.1.fr k k1 uV k3)⟩,ve,h.1.bo.to (C go λhm=>(uZ wa h.2 go hm).2 rfl).symm⟩) O O<|M<|sN O<|M<|ur (f:=29) (args:= #[Zq go 0]) go 4 O O (λm=>rfl) (λm r h=>P hN r h)
  |some S'=>
   rw[e]at B;refine sZ (L:=gt::bl x.1.1.1.1) (Φ':=λ(x2:Gh YL (λk=>Rw w go k/\¬x.1.2 k)) u=>Ta W w gt go A n ls true u/\Uh W gt (none,0) [] S' (Rw w go) (x2.1.1,λk=>x.1.2 k\/x2.1.2 k) u) (λm r h=>by have t:=tk m r h;rw[e]at t;exact t) own (λx2 wa u F C h ve=>⟨h.1.left K (λk D=>(uZ wa h.2 k D).1) F C (h.1.bo.to (C go λhm=>(uZ wa h.2 go hm).2 rfl).symm),mg F C h.2 ve (λk D=>D) (hR x).2⟩) O O λx2=>M<|sS 10 uW J O<|sR (⟨(i+1,S',⟨(x2.1.1,λk=>x.1.2 k\/x2.1.2 k),λb a=>a.elim (x.2 b) λq=>(x2.2 b q).1⟩),uW,B,by have:=ar e;exact AC this (Nat.succ_le_succ T)⟩) O zo zt (λu h=>h)
 obtain rfl:i=n:=J
 rw[List.drop_eq_nil_of_le J,Sk]at B;refine M<|X (decide ((i:Int)<(i:Int))) false Zs<|sN O<|M<|s8 (L:=[gt]) (G:=λu=>K7 u gt (Hy {S with ln:=i} x.1.1.1 x.1.1.2.length)) (Φ':=λu=>Ta W w gt go A i ls true u/\Uh W gt (none,0) [] {S with ln:=i} (Rw w go) x.1 u) (Uk 3 ⟨gt,8,none⟩ (I i)) (λm r h=>h.2.bt.store1 (j:=8) O rfl (by show 8<10;decide) rfl) hot (λwa u F C h ve=>Q (S2:={S with ln:=i}) wa u (by rfl) F C h ve) O O<|M<|ZA (L4 3 ⟨gt,7,none⟩) (I S.wh) (λm r h=>K9 O (by rw[h.2.bt.cell];rfl)) ?_
 by_cases uU:S.wh=1
 .rw[YS uU]at B;exact X (S.wh==1) true (YQ.2 uU)<|td (Instr.panic Kh >>= λv=>pure (.value v)) Kh O (λm r h=>by simp[Instr.panic,Kh,BD]) O<|ur (f:=29) (args:= #[Zq go 0]) go 4 O O (λm=>rfl) (λm r h=>P B.symm r ⟨⟨h.1.sz,h.1.fr⟩,Br h.2.bt,h.1.bo⟩)
 rw[V uU]at B;refine X (S.wh==1) false (YR.2 uU)<|ZA (L4 4 ⟨go,0,none⟩) Zt (λm r h=>K9 O h.1.bo.one)<|s8 (L:=[go]) (G:=λu=>K7 u go [.bool true]) (Φ':=λu=>Ta W w gt go A i ls true u/\Uh W gt (none,0) [] {S with ln:=i} (Rw w go) x.1 u) (Uk 4 ⟨go,0,none⟩ Zt) (λm r h=>ce h.1.bo) hog (λwa u F C h ve=>⟨h.1.left K (λk D=> .inr (by simp at D;omega)) F C ve,hgs wa u F C h.2⟩) O O<|M<|uL (f:=29) (args:= #[Zq go 0]) go 4 O (λm=>rfl) λm r h=>(oR r).mono λe u' uX he=> ?_
 obtain⟨rfl,rfl,a,vg⟩:=he;refine⟨rfl,_,_,rfl,Ww O (h.1.bo.stay (AC uR.size N) vg.2),?_⟩;rw[<-B];have uS:Uh W gt (none,0) [] {S with ln:=i} (Rw w go) x.1 uX:=⟨h.2.bt.stay lt vg.2,h.2.row.same λb a=>vg.2 b (h.2.row.lt b a).1 (h.2.row.lt b a).2,h.2.eq,h.2.hd.to vg.1 λb a=>vg.2 b (AC uR.size (x.2 b a).1) (h.2.hd.lt b a),h.2.bl,h.2.ap⟩
 refine⟨⟨x.1,λb a=>hQ b (x.2 b a).1⟩,rfl,⟨a.os.trans uR.os.symm,a.tape.trans uR.tape.symm,a.output.trans uR.output.symm,AC h.1.sz vg.1,λk D hkl=> ?_⟩,λw'' k1 uV=>⟨uS.bt.to (uV gt (.inl Zs)),uS.row.same λb a=>uV b (.inr ⟨(vf uS b a).1,(uS.row.lt b a).2⟩),uS.eq,uS.hd.to k1 λb a=>uV b (.inr ⟨(x.2 b a).1,uS.hd.lt b a⟩),λb a=> .inr (hQ b (vf uS b a).1),uS.ap⟩⟩;rcases AW k W.heap.size with h4|h4
 .rw[a.block k h4,uR.block k h4]
 .rw[vg.2 k h4 (BB D h.1.sz)];exact h.1.fr k h4 D (by simpa using hkl)
end
theorem Ol(ws:List R):∀(n i:Nat) (a:List Sg),(Sq ws n i a).1.length<=a.length+n
 |0,i,a=>by rw[Sq];unfold aL;split<;>simp
 | n +1,i,a=>by
  rw[Sq];split
  .unfold aL;split<;>simp
  .split
   .simp
   .split
    .simp
    .have:=Ol ws n (i+1+2*(Mh (Qr ‹_›)).toNat) (a++ [ZE ws (Qr ‹_›) i]);rw[AE,List.length_singleton]at this;omega
theorem fT{s:R}:(Mq s).1.length<=s.length+1:=by
 unfold Mq;split
 .simp
 .have a:=Ol (Kt s) ((Kt s).length-0) 0 [];have b:=Jx s;simp only[List.length_nil]at a;unfold P0;omega
theorem cA:∀{l b:R},Ao l=some b->2*b.length<=l.length
 | [],b,h=>by cases h;exact AI _
 | [_],b,h=>by cases h
 | x::y::l,b,h=>by
  rw[Fk]at h;split at h
  .cases h
  .obtain⟨p,a,rfl⟩:=AB.1 h;have:=cA a;simp only[AU];omega
theorem TI:∀b:R,4*(M5 b).length<=b.length
 |r::g::b::a::l=>by have:=TI l;simp only[M5,AU];omega
 | []=>by simp[M5]
 | [_]=>by simp[M5]
 | [_,_]=>by simp[M5]
 | [_,_,_]=>by simp[M5]
theorem aH:∀{ws:WS} {f:Bool} {l:List (Int×Co)×Bool},EV f ws=some l->2*l.1.length<=ws.length
 | [],f,l,h=>by cases h;exact AI _
 | [_],f,l,h=>by cases h
 |s::c::r,f,l,h=>by
  rw[EV]at h;obtain⟨x,_,h⟩:=AA.1 h;obtain⟨k,_,h⟩:=AA.1 h;obtain⟨m,a,rfl⟩:=AB.1 h;have:=aH a;simp only[AU];omega
theorem dO:∀{n:Nat} {f:Bool} {ws:WS} {l:List Int×WS×Bool},Dp n f ws=some l->l.1.length=n
 |0,f,ws,l,h=>by cases h;rfl
 |n+1,f,ws,l,h=>by
  rw[Wf]at h;obtain⟨x,_,h⟩:=AA.1 h;obtain⟨m,a,rfl⟩:=AB.1 h;rw[AU,dO a]
structure Wb(ws0:WS)(n:Nat):Prop where
 len:n<=6001
 mem:∀s∈ws0,s.length<=6000
def Fw(N:Nd):Prop:=LQ N/\pJ N
section
variable{ws0 rest:WS}{n:Nat}{f:Bool}
theorem WN(b:Wb ws0 n)(a:Qm ws0 n rest){d:List Sg×WS×Bool}(h:Tc f rest=some d):d.1.length<=6001:=by
 cases rest with
 |nil=>cases h
 | cons s r=>
  have c:=b.mem s (AH a.get);have e:=fT (s:=s);rw[show Tc f (s::r)=if (Mq s).2.2=0 then some ((Mq s).1,r,f)else if (Mq s).2.2=6 then some ([],r,true)else none from rfl]at h;split at h
  .cases h;show(Mq s).1.length<=6001;omega
  .split at h
   .cases h;exact AG _
   .cases h
theorem jy(l:Wb ws0 n)(j:Qm ws0 n rest){d:Im×WS×Bool}(h:Yd f rest=some d):d.1.px.length<=1000:=by
 unfold Yd at h;obtain⟨⟨x,t,v,r⟩,k,h⟩:=AA.1 h;obtain⟨⟨y,e,m,A⟩,a,h⟩:=AA.1 h;have c:=Yr (Yr j k) a;simp only at h;cases m with
 |nil=>cases h
 | cons s o=>
  have u:=l.mem s (AH c.get);simp only at h;split at h
  .cases h
  .rename_i b g;have w:=cA g;have p:=TI b;split at h
   .cases h
   .split at h
    .cases h;exact AG _
    .split at h
     .cases h
     .cases h;show(M5 b).length<=1000;omega
theorem kM(C:Wb ws0 n)(j:Qm ws0 n rest){d:Pn×Bool}(h:Fs f rest=some d):d.1.im.px.length<=1000/\d.1.stops.length<=6001:=by
 have F:=C.len;cases rest with
 |nil=>cases h
 | cons k r=>
  have j:=j.tail;rw[We]at h;split at h
  .unfold IX at h;obtain⟨c,_,h⟩:=AA.1 h;split at h
   .cases h;exact⟨AG _,AG _⟩
   .cases h
  split at h
  .unfold G1 at h;obtain⟨⟨p,x,w⟩,o,h⟩:=AA.1 h;obtain⟨⟨q,D,y⟩,a,h⟩:=AA.1 h;obtain⟨⟨k,u,A⟩,b,h⟩:=AA.1 h;obtain⟨⟨t,B,v⟩,e,h⟩:=AA.1 h;obtain⟨l,g,rfl⟩:=AB.1 h;have vg:=(F1 (Ou (Ae (Ae j o) a) b) e).2;have s:=aH g;refine⟨AG _,?_⟩;show l.1.length<=6001;simp only at s;omega
  split at h
  .unfold Fy at h;obtain⟨⟨p,x,w⟩,o,h⟩:=AA.1 h;obtain⟨⟨q,D,y⟩,a,h⟩:=AA.1 h;obtain⟨⟨k,u,A⟩,b,h⟩:=AA.1 h;obtain⟨⟨t,B,v⟩,e,h⟩:=AA.1 h;obtain⟨l,g,rfl⟩:=AB.1 h;have vg:=(F1 (Ou (Mv (Ae j o) a) b) e).2;have s:=aH g;refine⟨AG _,?_⟩;show l.1.length<=6001;simp only at s;omega
  split at h
  .unfold Fz at h;obtain⟨⟨k,x,w⟩,o,h⟩:=AA.1 h;obtain⟨⟨q,D,y⟩,a,h⟩:=AA.1 h;obtain⟨⟨t,u,A⟩,b,h⟩:=AA.1 h;obtain⟨⟨m,B,v⟩,e,h⟩:=AA.1 h;have g:=jy C (F1 (Ou (Ou j o) a) b) e;split at h
   .cases h;exact⟨g,AG _⟩
   .cases h
  .cases h
theorem lE(B:Wb ws0 n)(x:Qm ws0 n rest){d:Fo×WS×Bool}(h:Xw f rest=some d):d.1.d.length<=6001:=by
 have y:=B.len;unfold Xw at h;obtain⟨⟨w,G,F⟩,A,h⟩:=AA.1 h;obtain⟨⟨j,K,uS⟩,g,h⟩:=AA.1 h;obtain⟨⟨c,C,vf⟩,k,h⟩:=AA.1 h;obtain⟨⟨m,ve,D⟩,t,h⟩:=AA.1 h;obtain⟨⟨p,v,b⟩,u,h⟩:=AA.1 h;obtain⟨l,a,rfl⟩:=AB.1 h;have e:=Mv (Mv (Ou (Ou (Mv x A) g) k) t) u;simp only at a;cases v with
 |nil=>cases a
 | cons s r=>
  have o:=e.2;rw[show iI b (s::r)=if Pw s≠0\/O1 s<0\/O1 s>(r.length:Int)then none else Dp (O1 s).toNat b r from rfl]at a;split at a
  .cases a
  .have vg:=dO a;show l.1.length<=6001;simp only[AU]at o;omega
theorem Js.few{N:Nd}(h:Js N)(c:N.path.length<=6001)(b:N.im.px.length<=1000):Fw N:=
 ⟨⟨by rw[h.clip];exact AG _,by omega,by rw[h.sty];exact AG _,by omega,by rw[h.fill];exact λP a=>(by cases a),by rw[h.stroke];exact λP a=>(by cases a),by rw[h.fill];exact AG _,by rw[h.stroke];exact AG _⟩,
  ⟨b,by rw[h.fill];exact λP a=>(by cases a),by rw[h.stroke];exact λP a=>(by cases a)⟩⟩
theorem h7(p:Wb ws0 n)(m:Qm ws0 n rest){k:Int}(v:k=1\/k=2\/k=3){d:Nd×WS×Bool}(h:Nz k f rest=some d):Fw d.1:=by
 rcases v with rfl|rfl|rfl
 .obtain⟨c,t,a⟩:=kn h;exact c.few (by rw[t];exact AG _) (by rw[a];exact AG _)
 .obtain⟨c,a⟩:=g8 h;refine c.few ?_ (by rw[a];exact AG _);unfold Nz at h;obtain⟨⟨i,w,s⟩,g,h⟩:=AA.1 h;obtain⟨⟨u,A,x⟩,e,h⟩:=AA.1 h;rw[V Zd,YS rfl]at h;obtain⟨⟨o,r,y⟩,l,h⟩:=AA.1 h;obtain⟨b,j,rfl⟩:=AB.1 h;exact WN p (Ou (Mv (Mv m g) e) l) j
 .obtain⟨c,a⟩:=ki h;refine c.few (by rw[a];exact AG _) ?_;unfold Nz at h;obtain⟨⟨i,w,s⟩,g,h⟩:=AA.1 h;obtain⟨⟨u,A,x⟩,e,h⟩:=AA.1 h;rw[V Zd,V Zd]at h;obtain⟨⟨o,r,y⟩,l,h⟩:=AA.1 h;obtain⟨b,j,rfl⟩:=AB.1 h;exact jy p (Ou (Mv (Mv m g) e) l) j
theorem Ih{l:List Nd}{N:Nd}(h:∀uR∈l,Fw uR)(b:Fw N):∀uR∈R0 l N,Fw uR:=λuR a=>by
 rcases BT.1 a with a|a
 .exact h uR (List.dropLast_subset _ a)
 .obtain rfl:uR=N:=by simpa using a
  exact b
theorem GZ{P:Pn}{Q:Pn->Prop}(h:Q P):∀uY∈[P],Q uY:=λuY a=>by
 obtain rfl:uY=P:=by simpa using a
 exact h
theorem j6(l:Wb ws0 n)(g:Qm ws0 n rest){S:TS}{N:Nd}{k:R}{x:TS×WS×Bool}(e:∀uR∈S.nds,Fw uR)(a:Fw N)(h:Sp S N k rest=some x):∀uR∈x.1.nds,Fw uR:=by
 unfold Sp at h;split at h
 .split at h
  .obtain⟨t,_,rfl⟩:=AB.1 h;exact Ih e ⟨⟨a.1.cl,a.1.pa,a.1.da,a.1.px,a.1.fi,a.1.st,a.1.fn,a.1.sn⟩,⟨a.2.im,a.2.fi,a.2.st⟩⟩
  .cases h
 split at h
 .split at h
  .obtain⟨⟨u,r,m⟩,j,h⟩:=AA.1 h;obtain⟨p,b,rfl⟩:=AB.1 h;have c:=WN l (Ou g j) b;exact Ih e ⟨⟨by show p.1.length<=_;omega,a.1.pa,a.1.da,a.1.px,a.1.fi,a.1.st,a.1.fn,a.1.sn⟩,⟨a.2.im,a.2.fi,a.2.st⟩⟩
  .cases h
 split at h
 .split at h
  .obtain⟨p,b,rfl⟩:=AB.1 h;have c:=kM l g b;exact Ih e ⟨⟨a.1.cl,a.1.pa,a.1.da,a.1.px,GZ (Q:=λP=>P.im.px.length<=20000/\P.stops.length<=1000000) J,a.1.st,(by decide:(1:Nat)<=1000000),a.1.sn⟩,⟨a.2.im,GZ (Q:=λP=>P.im.px.length<=1000) c.1,a.2.st⟩⟩
  .cases h
 split at h
 .split at h
  .obtain⟨⟨s,r,m⟩,j,h⟩:=AA.1 h;obtain⟨p,b,rfl⟩:=AB.1 h;have c:=kM l (O_ g j) b;have o:=lE l g j;exact Ih e ⟨⟨a.1.cl,a.1.pa,by show s.d.length<=_;simp only at o;omega,a.1.px,a.1.fi,GZ (Q:=λP=>P.im.px.length<=20000/\P.stops.length<=1000000) J,a.1.fn,(by decide:(1:Nat)<=1000000)⟩,⟨a.2.im,a.2.fi,GZ (Q:=λP=>P.im.px.length<=1000) c.1⟩⟩
  .cases h
 .cases h
theorem gV(k:R):Ly k=0\/Ly k=1\/Ly k=2\/Ly k=3:=by
 unfold Ly;split
 .exact .inr (.inl rfl)
 split
 .exact .inr (.inr (.inl rfl))
 split
 .exact .inr (.inr (.inr rfl))
 .exact .inl rfl
theorem pn(g:Wb ws0 n)(e:Qm ws0 n rest){S:TS}{k:R}{x:TS×WS×Bool}(b:∀uR∈S.nds,Fw uR)(h:Tu S k rest=some x):∀uR∈x.1.nds,Fw uR:=by
 unfold Tu at h;split at h
 .split at h
  .obtain⟨w,_,h⟩:=AA.1 h;obtain⟨v,_,h⟩:=AA.1 h;obtain⟨c,_,rfl⟩:=AB.1 h;exact b
  .cases h
 split at h
 .split at h
  .obtain⟨N,j,rfl⟩:=AB.1 h;have m:=h7 g e ((gV k).resolve_left ‹_›) j;exact λuR a=>by
    rcases BT.1 a with a|a
    .exact b uR a
    .obtain rfl:uR=N.1:=by simpa using a
     exact m
  .cases h
 split at h
 .cases h
 .rename_i N l;exact j6 g e b (b N (List.mem_of_getLast? l)) h
theorem oD{l:R}(b:Rq (Kt l)=true)(c:l.length<=6000):Wb (Al (Kt l)) (Al (Kt l)).length:=
 ⟨by have:=Gf (l:=l);omega,λs a=>AC (Ge b s a) c⟩
theorem iL{S S':TS}{l:R}(o:l.length<=6000)(c:∀uR∈S.nds,Fw uR)(h:Vv S l=some S'):∀uR∈S'.nds,Fw uR:=by
 unfold Vv at h;split at h
 case isFalse=>cases h
 rename_i g;have b:=oD g o;split at h
 .cases h
 rename_i k ws e;rw[e]at b;obtain⟨x,j,a⟩:=AA.1 h;have m:=pn b (VG (k::ws)).tail c j;unfold Hg at a;split at a
 .injection a with a;subst a;split<;>exact m
 .cases a
theorem cM:∀{ls:List R} {S S':TS} {i:Nat},(∀l∈ls,l.length<=6000)->(∀uR∈S.nds,Fw uR)->Sk S i ls= .inr S'->∀uR∈S'.nds,Fw uR
 | [],S,S',i,_,a,h=>by
  rw[Sk]at h;split at h
  .cases h
  .cases h;exact a
 | l::r,S,S',i,b,a,h=>by
  rw[Sk]at h;split at h
  .cases h
  .rename_i S1 e;exact cM (λx c=>b x (by simp[c])) (iL (S:={S with ln:=i}) (b l Zs) a e) h
end
section
variable{w:YN}{s l:R}{B:Nat}{n c sz:Nat}{A:YY}{e:YH}{xs:List YM}{S:TS}
theorem Y.cap(h:Y w B e sz A n c xs):n<=c:=by
 rcases h.2 with ⟨a,m⟩|⟨g,cap,b,a,f,j,k,_⟩
 .omega
 .injection a with _ _ a;omega
theorem kK(a:l.length<=100000000){b:Bool}(h:BI l [10]=b):Zv 10 #[E l,.string ⟨#[10]⟩] w (.bool b):=
 (Tryz.strings_HasSuffix ⟨l.toArray⟩ ⟨#[10]⟩ w (show l.length<=_ by omega)).mono λe f k=>⟨(),by rw[k.1];show Ending.returned (.bool (BI l [10]))=_;rw[h],by rw[k.2];exact Below.refl _ _,λ_ _ _=>trivial⟩
theorem KI(m:R):(∀l∈Lu m,l.length<=m.length)/\(Lu m).length<=m.length+1:=by
 unfold Lu;split
 .exact⟨λl h=>(by cases h),AG _⟩
 .have b:m.dropLast.length<=m.length:=Zs
  exact⟨λl h=>AC (Zx 10 _ l h) b,by rw[Rr];have:=List.count_le_length (a:=(10:UInt8)) (l:=m.dropLast);omega⟩
theorem IV:XT s=true↔s=[]\/s.getLast? =some 10:=by
 unfold XT;cases s<;>simp
theorem cE:BI s [10]=decide (s.getLast? =some 10):=by
 cases h:s with
 |nil=>rfl
 |cons b r=>
  rw[<-bD Zs];unfold XT;simp only[List.isEmpty_cons,Bool.false_or]
  by_cases a:(b::r).getLast? =some 10
  .rw[a,YU rfl];rfl
  .rw[YV a];exact YR.2 a
abbrev PX:Type:=(YZ)×List (Nd×ND)
def GI(s:R)(q:PX)(u:YN):Prop:=Vs u q.1.1 q.2 125 (Nf s).1.nds/\(Nf s).1.nds.length<=q.1.2/\Zg q.2 u
def GJ(s:R)(q:PX):YM:= .tuple #[W3 (Nf s).1 q.1,I (Nf s).2.1,I (Nf s).2.2]
theorem C1{u:YN}(h:(Nf s).1=Gs):GI s ((none,0),[]) u:=by
 unfold GI;rw[h];exact⟨⟨rfl,tH,λx a=>by cases a⟩,AI _,λx a=>by cases a⟩
theorem Xx{n:Nat}{e:Int}(h:Nf s=(Gs,n,e)):GJ s ((none,0),[])= .tuple #[.agg #[I 0,I 0,.int .u8 0,.int .u8 0,.int .u8 0,.int .u8 0,.slice none 0 0],I n,I e]:=by
 unfold GJ;rw[h]
 rfl
theorem pY{W u:YN}{gt:Nat}{uY:Nat->Prop}{x:YL×(Nat->Prop)}(h:Uh W gt (none,0) [] S uY x u):(Vs u x.1.1.1 x.1.2 125 S.nds/\Zg x.1.2 u)/\S.nds.length<=x.1.1.2/\K7 u gt (eK S.sc x.1.1++ [I S.wh,I S.ln,I S.far]):=by
 have f:x.1.2.length=S.nds.length:=by rw[<-h.eq,AQ]
 have b:=h.row;rw[f]at b;have g:Zg x.1.2 u:=h.hd.get λy a=>by cases a
 refine⟨⟨⟨h.eq,Y.rowA (cl:=λx=>Yb x.1 x.2) (λ_=>O) f b,λy a=>(g y a).1⟩,g⟩,b.cap,?_⟩;have j:=h.bt;rw[f]at j;exact j
theorem b_(T:ET w)(uU:ML w)(hl:s.length<=65536)(hF:s.getLast? =some 10->∀S,Sk SN 0 (Lu s)= .inr S->∀N∈S.nds,Fw N):YG XW 5 #[E s] w (K6 w (GJ s) (GI s)):=by
 refine sL func5 rfl<|M<|X (decide ((s.length:Int)>65536)) false (YV J) ?_
 by_cases D:s.getLast? =some 10
 case neg=>
  have W:Nf s=(Gs,0,3):=by unfold Nf;rw[V J,YS D]
  exact Z (λp j h=>kK (l:=s) J (cE.trans (YV D))) λu=>ZI true<|ZV (.tuple #[.agg #[I 0,I 0,.int .u8 0,.int .u8 0,.int .u8 0,.int .u8 0,.slice none 0 0],I 0,I 3]) λp j h=>⟨((none,0),[]),by rw[Xx W];rfl,j,λC _ _=>C1 (by rw[W])⟩
 have P:XT s=true:=IV.2 (.inr D);obtain⟨x,y,uW⟩:=XD D;obtain⟨uZ,hnl⟩:=KI s;obtain⟨n,K⟩:∃n,n=(Lu s).length:=⟨_,rfl⟩
 have Q:0<n:=by rw[K,uW];simp
 have ve:∀l∈Lu s,l.length<=65536:=λl h=>AC (uZ l h) hl
 obtain⟨o,uR⟩:∃o,o=Sk SN 0 (Lu s):=⟨_,rfl⟩
 have f:Nf s=match (generalizing:=false) o with| .inl i=>(Gs,i,3)| .inr S=>if 0<=S.far then(Gs,S.far.toNat,6)else if A8 S.sc=true/\Ju S.sc=s then(S.sc,0,0)else(Gs,(Lu s).length,18):=by
  unfold Nf;rw[V J,V (λh=>h D),uR];rfl
 refine Z (λp j h=>kK (l:=s) J (cE.trans (YU D))) λu=>ZI false<|ZD 1 (λp j h=>r8 (l:=s) (ws:=Lu s) (n:=n) (N:=w.heap.size) (uU.below j) P J rfl K.symm J j.size) λq=>sO (fu 58 (.agg #[I 0,I 0,.int .u8 0,.int .u8 0,.int .u8 0,.int .u8 0,.slice none 0 0,I 0,I 0,I (-1)])) X0 (λg u=>K7 u g (Hy SN (none,0) 0)/\w.heap.size<=g/\g<u.heap.size) O (λp j h=>J3 (v:= .agg (Hy SN (none,0) 0).toArray) j.size) λgt=>M<|sZ (uX:=Gh YL (λ_=>True)) (L:=[gt]) (g:=12) (args:= #[Zq gt 0,.slice q.1.1 n q.1.2]) (val:=λ_=> .bool (rU o)) (G:=λx u=>l_ w gt o (λ_=>True) x.1 u) (Φ':=λx u=>l_ w gt o (λ_=>True) x.1 u) (λp j h=>by have t:=qQ (uY:=λ_=>True) (n:=n) (c:=q.1.2) uU j h.2.2.1 h.1.2.1 Q J ve h.1.2.2 h.2.1 (λ_ _=>trivial);rw[<-uR]at t;exact t) (λu h b hb=>by obtain rfl:b=gt:=by{simpa using hb};exact⟨h.2.2.1,h.2.1.own⟩) (λ_ wa u e1 e2 h hG=>hG) O O (λx=> ?_)
 cases o with
 |inl i=>
  exact M<|ZI true<|ZB 4 (L4 3 ⟨gt,8,none⟩) (I i) (λp j h=>K9 O (by obtain⟨cs,h1,h2,h3⟩:=h;rw[h1.cell];exact h3))<|ZV (.tuple #[.agg #[I 0,I 0,.int .u8 0,.int .u8 0,.int .u8 0,.int .u8 0,.slice none 0 0],I i,I 3]) λp j h=>⟨((none,0),[]),by rw[Xx f],j,λC _ _=>C1 (by rw[f])⟩
 | inr S=>
  have F:=hF D S uR.symm;obtain⟨⟨⟨y,L⟩,Sg⟩,_⟩:=x;refine um (Φ':=λu=>(Vs u y.1 L 125 S.nds/\Zg L u)/\S.nds.length<=y.2/\K7 u gt (eK S.sc y++ [I S.wh,I S.ln,I S.far])) (λu h=>pY h) O ?_;have f:Nf s=if 0<=S.far then(Gs,S.far.toNat,6)else if A8 S.sc=true/\Ju S.sc=s then(S.sc,0,0)else(Gs,(Lu s).length,18):=f;refine M<|ZI false<|ZA (L4 3 ⟨gt,9,none⟩) (I S.far) (λp j h=>K9 O (by rw[h.2.2.cell];rfl)) ?_
  by_cases vg:0<=S.far
  .rw[YS vg]at f;exact X (decide (S.far>=0)) true (YU vg)<|ZB 4 (L4 3 ⟨gt,9,none⟩) (I S.far) (λp j h=>K9 O (by rw[h.2.2.cell];rfl))<|ZV (.tuple #[.agg #[I 0,I 0,.int .u8 0,.int .u8 0,.int .u8 0,.int .u8 0,.slice none 0 0],I S.far,I 6]) λp j h=>⟨((none,0),[]),by rw[Xx f,show(S.far.toNat:Int)=S.far by omega],j,λC _ _=>C1 (by rw[f])⟩
  rw[V vg]at f;refine X (decide (S.far>=0)) false (YV vg)<|ZA (L4 27 ⟨gt,0,none⟩) (W3 S.sc y) (λp j h=>Nh (vs:=eK S.sc y) O O (K7.fst (a:=eK S.sc y) (b:=[I S.wh,I S.ln,I S.far]) h.2.2)) ?_
  by_cases m:A8 S.sc=true
  rotate_left
  .rw[V (λh=>m h.1)]at f;exact Z (λp j h=>fM (S:=S.sc) (y:=y) (T.below j) h.1.1 (λN uS=>(F N uS).1) Zd (by simpa using m)) λ_=>ZI true<|ZV (.tuple #[.agg #[I 0,I 0,.int .u8 0,.int .u8 0,.int .u8 0,.int .u8 0,.slice none 0 0],I n,I 18]) λp j h=>⟨((none,0),[]),by rw[Xx f,<-K],j,λC _ _=>C1 (by rw[f])⟩
  by_cases r:(Ju S.sc).length<=65536
  rotate_left
  .rw[V (λh=>r (by rw[h.2];omega))]at f;exact tf (val:=λ_:Unit=> .tuple #[E [],I 5]) (G:=λ_ _=>True) (λp j h=>by have t:=He (S:=S.sc) (y:=y) (T.below j) h.1.1 (λN uS=>(F N uS).1) (λN uS=>(F N uS).2) (A0 m).2.1 Zd m;unfold TW at t;rw[V r]at t;exact t) O λ_=>M<|ZI true<|ZV (.tuple #[.agg #[I 0,I 0,.int .u8 0,.int .u8 0,.int .u8 0,.int .u8 0,.slice none 0 0],I n,I 18]) λp j h=>⟨((none,0),[]),by rw[Xx f,<-K],j,λC _ _=>C1 (by rw[f])⟩
  refine tf (val:=λ_:Unit=> .tuple #[E (Ju S.sc),I 0]) (G:=λ_ _=>True) (λp j h=>by have t:=He (S:=S.sc) (y:=y) (T.below j) h.1.1 (λN uS=>(F N uS).1) (λN uS=>(F N uS).2) (A0 m).2.1 Zd m;unfold TW at t;rw[YS r]at t;exact t) O λ_=>H 0<|H 5 ?_
  by_cases vf:Ju S.sc=s
  .rw[YS ⟨m,vf⟩]at f;refine ZA (Nq .neq 9 (.tmp 55) (.tmp 56) (E (Ju S.sc)) (E s)) Zf (λp j h=>S5 (by rw[vf];simp))<|ZI false<|ZA (L4 27 ⟨gt,0,none⟩) (W3 S.sc y) (λp j h=>Nh (vs:=eK S.sc y) O O (K7.fst (a:=eK S.sc y) (b:=[I S.wh,I S.ln,I S.far]) h.1.2.2))<|ZV (.tuple #[W3 S.sc y,I 0,I 0]) (λp j h=> ?_)
   have k:=h p (AI _) (λ_ _ _=>rfl);exact⟨(y,L),by unfold GJ;rw[f];rfl,j,λC uT uV=>by unfold GI;rw[f];have k:=h C uT uV;exact⟨k.1.1.1,k.1.2.1,k.1.1.2⟩⟩
  .rw[V (λh=>vf h.2)]at f;exact ZA (Nq .neq 9 (.tmp 55) (.tmp 56) (E (Ju S.sc)) (E s)) Zt (λp j h=>S5 (by simpa using vf))<|ZI true<|ZV (.tuple #[.agg #[I 0,I 0,.int .u8 0,.int .u8 0,.int .u8 0,.int .u8 0,.slice none 0 0],I n,I 18]) λp j h=>⟨((none,0),[]),by rw[Xx f,<-K],j,λC _ _=>C1 (by rw[f])⟩
end
section
--ATNAMES
def Fr(k:Co):Pn:=⟨1,k,0,0,0,0,0,[],0,Yf,0,Pc⟩
theorem fc(k:Co):∃C:List YM,C.length=40/\U2 (Fr k) MV= .agg C.toArray/\(∀u∈C,u.oneCell'=true)/\C=Uo (Fr k) MV:=
 ⟨Uo (Fr k) MV,by kernel_rfl,by kernel_rfl,BE.1 (show((Uo (Fr k) MV).all λu=>u.oneCell')=true from by kernel_rfl),rfl⟩
section
variable{w W:YN}{g n c:Nat}{A:YY}{ws0:WS}{f:Bool}{cw l:R}{k:Co}
theorem lJ(x:Dl cw=some k)(b:RE W w g A n c ws0)(v:Qm ws0 n [Nn,cw])(y:K7 w g (Lj A n c 2 f)):YG XW 61 #[Zq g 0] w
 (Ni w [g] (λ_:Unit=>U2 (Fr k) MV) λ_ u=>K7 u g (Lj A n c 0 f)):=by
 have lg:=b.lg;have r:=v.tail;have s:XQ f [cw]=some (k,[],f):=by show(Dl cw).map (λc=>(c,[],f))=_;rw[x];rfl
 refine tg func61 rfl b.hW lg y<|M<|sZ (L:=[g]) (Φ':=λ_ u=>Pt W w g (Lj A n c 1 f) u) (λo a h=>Px (b.next a h) v h.2.2) (λu h=>Kf (cs':=[]) lg u h) (λ_ p u e j h m=>Kk p u e j h m) O O λ_=>H 0<|ZA (Nq .eql 9 (.tmp 5) (.const (.string ⟨#[115,111,108,105,100]⟩)) (E Nn) (E [115,111,108,105,100])) Zt (λo a h=>Kj Zd)<|ZI true<|sZ (L:=[g]) (Φ':=λ_ u=>Pt W w g (Lj A n c 0 f) u) (λo a h=>by have t:=B5 (b.next a h) r h.2.2;rw[s]at t;exact t) (λu h=>Kf (cs':=[]) lg u h) (λ_ p u e j h m=>Kk p u e j h m) O O λ_=>M<|sZ (L:=[g]) (Φ':=λ_ u=>Pt W w g (Lj A n c 0 f) u) (λo a h=>PV a lg h.2.2) (λu h=>Kf (cs':=[]) lg u h) (λ_ p u e j h m=>Kk p u e j h m) O O λ_=>M<|ZV (U2 (Fr k) MV) (λo a h=>Nw b.hW a (h o (AI _) λ_ _ _=>rfl))
theorem ph(uR:ML w)(uV:Rq (Kt l)=true)(hl:l.length<=10000)(P:Al (Kt l)=[Nn,cw])(uX:cw.length<=10000)(uU:Dl cw=some k):Zv 24 #[E l] w (.tuple #[U2 (Fr k) MV,.bool true]):=by
 obtain⟨C,r,vf,ve,_⟩:=fc k;have F:=λ(a:YN) (uR:ML a)=>qB (w:=a) uR uV (show l.length<=10000000 from by omega)
 rw[P]at F;refine uh func24 rfl (Below.refl _ _)<|H 0<|sO (Cx 49) X0 (λg u=>K7 u g rO/\w.heap.size<=g/\g<u.heap.size) O (λa m h=>E0 (z:= .agg rO.toArray) O m.size) λo=>H 1<|sO (Cx 4) X0 (λg u=>K7 u g [.bool false]/\o+1<=g/\g<u.heap.size) O (λa m h=>E0 (z:= .bool false) O h.2.2.2) λj=>M<|Z (λa m h=>F a (uR.below m)) λy=>ZI false<|ui ⟨.fn (.func 60) #[Zq o 0,Zq j 0],#[]⟩ O O<|H 2 ?_
 have uZ:∀a:YN,j<a.heap.size->Km a y.1 2 [Nn,cw]->max (j+1) (yb y.1)<=a.heap.size:=λa D p=>by
  obtain⟨ad,q1,uT⟩:=p.2 0 _ rfl;have S:=Z2 uT;rw[Q1]at S;rw[q1];exact Nat.max_le.2 ⟨D,S⟩
 refine sO (fu 124 (.agg #[.slice y.1 2 y.2,.bool false])) X0 (λg u=>K7 u g [.slice y.1 2 y.2,.bool false]/\max (j+1) (yb y.1)<=g/\g<u.heap.size) O (λa m h=>J3 (v:= .agg #[.slice y.1 2 y.2,.bool false]) (uZ a h.1.2.2.2 h.2.1)) λs=>M ?_
 have hg:j<max (j+1) (yb y.1):=J
 refine sZ (g:=61) (args:= #[Zq s 0]) (L:=[s]) (val:=λ_:Unit=>U2 (Fr k) MV) (G:=λ_ u=>K7 u s (Lj y.1 2 y.2 0 false)) (Φ':=λ_ u=>bH w o j rO false u/\K7 u s (Lj y.1 2 y.2 0 false)/\j<s) (λa m h=> ?_) (λu h b x=> ?_) (λq uY u vg B h K=> ?_) O O (λq=> ?_)
 .have D:=h.1.1.1.2;have p:=h.1.1.2;have t:=h.1.2;have Q:=h.2;refine lJ (ws0:=[Nn,cw]) uU ⟨m,by omega,t.1,λad h0 e=> ?_,t.2,by decide,λz N=> ?_⟩ ⟨rfl,AI _⟩ ?_
  .have k5:=Q.2.1;rw[e]at k5;have:ad.block+1<=max (j+1) (yb (some ad)):=Nat.le_max_right _ _;omega
  .rcases AL.1 N with rfl|N
   .decide
   .obtain rfl:z=cw:=by simpa using N
    omega
  .have e:Lj y.1 2 y.2 2 false=[.slice y.1 2 y.2,.bool false]:=by
    unfold Lj k0;rw[Nat.sub_self,LH,Nat.sub_zero]
   rw[e];exact Q.1
 .obtain rfl:b=s:=by simpa using x
  have D:=h.1.1.1.2.2.1;have p:=h.1.1.2.2.1;have t:=h.2.2.1;exact⟨by omega,h.2.1.own⟩
 .have D:=h.1.1.1.2;have p:=h.1.1.2;have t:=h.2.2.1;exact⟨bH.left ⟨D.1,p.1,D.2.1,p.2.1,p.2.2⟩ vg B J,K,by omega⟩
 refine ZT 22 (U2 (Fr k) MV) (.agg C.toArray) (vf)<|s8 (L:=[o]) (G:=λu=>K7 u o C) (Φ':=λu=>bH w o j C false u/\K7 u s (Lj y.1 2 y.2 0 false)/\j<s) (Uk 49 ⟨o,0,none⟩ (.agg C.toArray)) (λa m h=>h.1.1.store O (by show C.toArray.size=_;simp[r];rfl) ve) (λu h b x=> ?_) (λuY u vg B h K=> ?_) O O ?_
 .obtain rfl:b=o:=by simpa using x
  exact⟨h.1.2.2.1,h.1.1.own⟩
 .have k:=h.1;have p:=h.2;have t:=k.2.2.2.1;exact⟨⟨K,k.2.1.left B Zp,k.2.2.1,t,by rw[<-vg];exact k.2.2.2.2⟩,p.1.left B Zp,p.2⟩
 refine M<|ZB 0 (L4 49 ⟨o,0,none⟩) (.agg C.toArray) (λa m h=>Nh (vs:=C) O (by rw[r];kernel_rfl) h.1.1.range)<|ZB 4 (L4 4 ⟨s,1,none⟩) Zf (λa m h=>K9 O (by rw[h.2.1.cell];rfl))<|uD 6 (Uk 49 ⟨o,0,none⟩ (.agg C.toArray)) O (λa m h=>bj h.1.1 rfl (by rw[r];kernel_rfl) ve)<|M<|tJ (L:=[j]) (G:=λu=>K7 u j [.bool true]) (Φ':=λu=>bH w o j C true u) (Uk 4 ⟨j,0,none⟩ Zt) (λa m h=>h.1.2.1.store O rfl (by intro u T;simp[BN]at T;subst T;rfl)) (λu h b x=> ?_) (λuY u vg B h K=> ?_) O O ?_
 .obtain rfl:b=j:=by simpa using x
  have k:=h.1;exact⟨by have:=k.2.2;omega,k.2.1.own⟩
 .have k:=h.1;have t:=k.2.2.2.1;exact⟨k.1.left B Zp,K,k.2.2.1,t,by rw[<-vg];exact k.2.2.2.2⟩
 refine M<|uK (f:=60) (args:= #[Zq o 0,Zq j 0]) o j 49 4 O O (λa=>rfl) λa m h=>(mT m).mono λe u' w' uW=> ?_
 obtain⟨rfl,rfl,x,uS⟩:=uW;refine⟨rfl,_,_,_,rfl,fh O (by rw[r];kernel_rfl) (h.1.stay h.2.2.1 uS.2),Ww O (h.2.1.stay (by have:=h.2.2;omega) uS.2),(),by rw[<-vf],x,λ_ _ _=>trivial⟩
theorem ra(r:ML w)(p:Rq (Kt l)=true)(s:l.length<=10000)(j:Al (Kt l)=[Nn,cw])(a:cw.length<=10000)(m:Dl cw=some k)(v:Ld (Fr k)=true)(o:M7 (Pz (Fr k))=l):Zv 9 #[E l] w (.tuple #[U2 (Fr k) MV,I 0]):=sL func9 rfl<|M<|Z (λe b h=>ph (r.below b) p s j a m) λq=>ZI false<|ZD 5 (λe b h=>by have t:=NA (K:=125) v ((show XP 0 (Fr k) MV e from⟨s_,s_,.inl ⟨(show(1:Int)<2 by decide),rfl,rfl⟩⟩).rd (AI 125)) Zd (AG _);rw[o]at t;exact t) λu=>s0 O (stop:=1000) 6 _<|H 5<|ZA (Nq .neq 9 (.tmp 24) (.tmp 25) (E l) (E l)) Zf (λe b h=>S5 Zs)<|ZI false<|ZW (.tuple #[U2 (Fr k) MV,I 0])
end
end
section
--ATNAMES
section
variable{w:YN}
def jg:R:=[115,111,108,105,100,32,35,102,102,56,48,48,48,56,48]
def bu:Co:=(255,128,0,128)
def VX:R:=[115,99,101,110,101,32,52,32,52,32,35,102,102,102,102,102,102,102,102,10]
def nK:R:=VX++ [115,104,97,112,101,32,49,32,48,32,110,111,110,122,101,114,111,32,42,10]
def rJ:Sc:=⟨4,4,(255,255,255,255),[]⟩
theorem qg(P:Pn)(q:PM):U2 P q= .agg (Uo P q).toArray:=O
theorem rM(b:ML w):Zv 9 #[E jg] w (.tuple #[.agg (Uo (Fr bu) MV).toArray,I 0]):=by
 refine(ra (w:=w) (l:=jg) (cw:=[35,102,102,56,48,48,48,56,48]) (k:=bu) b (by decide+kernel) Zd (by decide+kernel) Zd (by decide+kernel) (by decide+kernel) (by decide+kernel)).mono λe g h=> ?_
 obtain⟨x,a,c,f⟩:=h;exact⟨x,a.trans (congrArg (λv=>Ending.returned (.tuple #[v,I 0])) (qg (Fr bu) MV)),c,λ_ _ _=>trivial⟩
theorem sG:Nf VX=(rJ,0,0):=O
theorem sJ:Nf nK=(Gs,2,3):=O
theorem mP{s:R}(h:(s.length<=6000)):s.getLast? =some 10->∀S,Sk SN 0 (Lu s)= .inr S->∀N∈S.nds,Fw N:=
 λ_ S e=>cM (λl b=>AC ((KI s).1 l b) h) (λuR a=>by cases a) e
theorem oh{s:R}{sc:Sc}{n:Nat}{e:Int}(l:ET w)(j:ML w)(m:s.length<=6000)(k:Nf s=(sc,n,e)):YG XW 5 #[E s] w (K6 w (λq:PX=> .tuple #[W3 sc q.1,I n,I e]) λq u=>Vs u q.1.1 q.2 125 sc.nds/\sc.nds.length<=q.1.2):=
 (b_ l j J (mP m)).mono λe p h=>by
  obtain⟨q,f,o,b⟩:=h;unfold GJ GI at*;rw[k]at f b;exact⟨q,f,o,λa g c=>⟨(b a g c).1,(b a g c).2.1⟩⟩
theorem iB(b:ET w):Zv 8 #[W3 rJ (none,0)] w (.tuple #[E VX,I 0]):=by
 have t:=He (w:=w) (S:=rJ) (y:=(none,0)) (nl:=[]) (K:=2) b ⟨rfl,tH,λx c=>by cases c⟩ (λN a=>by cases a) (λN a=>by cases a) Zd Zd O;rw[show TW rJ= .tuple #[E VX,I 0] by kernel_rfl]at t;exact t
theorem FF(g:ET w)(f:ML w):Zv 4 #[] w Zt:=sL func4 rfl<|M<|Z (λe b h=>oh (s:=VX) (g.below b) (f.below b) Zd sG) λa=>Z (λe b h=>iB (g.below b)) λ_=>Z (λe b h=>oh (s:=nK) (g.below b) (f.below b) Zd sJ) λc=>ZD 20 (λe b h=>rM (f.below b)) λq=>sV (Fi 24 (.tmp 51) (.tmp 52) (Rk (255,255,255,255)) (Rk (255,255,255,255))) Zt O (λe b h=>Qb Zs)<|H 57<|ZA (Fi 24 (.tmp 88) (.tmp 89) (Rk (255,128,0,128)) (Rk (255,128,0,128))) Zt (λe b h=>Qb Zs)<|ZW Zt
end
end
section
--ATNAMES
section
variable{w:YN}{z x:Int}{A:YY}{n c:Nat}{N:Nd}{q:ND}{K:Nat}{S:Fo}{y:YZ}{l:List Int}{B:Bool}
theorem Vp{pre l:WS}{f:Int}(b:(pre.length:Int)=f)(h:f<=z/\z<f+l.length):(pre++l)[z.toNat]? =some (Ks l f z):=by
 obtain⟨k,rfl⟩:∃k:Nat,z=f+(k:Int):=⟨(z-f).toNat,by omega⟩
 obtain⟨s,a⟩:∃s,l[k]? =some s:=⟨_,AD J⟩
 unfold Ks;rw[show(f+(k:Int)-f).toNat=k by omega,show(f+(k:Int)).toNat=pre.length+k by omega,AR J,AZ,a]
 rfl
theorem Rm{g:Nat}{L:WS}{s:R}(h:Km w (some ⟨g,0,none⟩) n L)(a:L[z.toNat]? =some s)(f:0<=z):(Ki 53 (.slice (some ⟨g,0,none⟩) n c) z).run XW w= .ok (.value (.pointer (some ((⟨g,0,none⟩:YB).add z.toNat)))) w/\w.cell? ((⟨g,0,none⟩:YB).add z.toNat)=some (E s):=by
 obtain⟨k,rfl⟩:∃k:Nat,z=(k:Int):=⟨z.toNat,by omega⟩
 have j:=h.1;have e:=(AJ.1 a).1;refine⟨Kg (k:=k) (elem:=9) O O J,?_⟩;obtain⟨ad,q1,b⟩:=h.2 _ s a;cases q1;exact b
theorem jo:YG XW 265 #[] w (K6 w (λy:Nat=> .slice (some ⟨y,0,none⟩) 13 13) λy u=>Km u (some ⟨y,0,none⟩) 13 Lr):=by
 refine sL func265 rfl<|M<|sO (Kw 53 13 #[(0,E [110,111,114,109,97,108]),(1,E [109,117,108,116,105,112,108,121]),(2,E [115,99,114,101,101,110]),(3,E [111,118,101,114,108,97,121]),(4,E [100,97,114,107,101,110]),(5,E [108,105,103,104,116,101,110]),(6,E [100,105,102,102,101,114,101,110,99,101]),(7,E [101,120,99,108,117,115,105,111,110]),(8,E [104,97,114,100,108,105,103,104,116]),(9,E [104,117,101]),(10,E [115,97,116,117,114,97,116,105,111,110]),(11,E [99,111,108,111,114]),(12,E [108,117,109,105,110,111,115,105,116,121])]) (Kd 13) (Kr 9 (sv Lr).toArray) O (λg b h=>Kb O) λy=>M<|ZV (.slice (some ⟨y,0,none⟩) 13 13) (λg b h=>⟨y,rfl,b,λa f e=>Lh (h a f e).2 rfl⟩)
theorem WP(e:Up x=true):Zv 209 #[I x] w (E (Ks Lr 1 x)):=by
 have j:1<=x/\x<=13:=by unfold Up at e;rw[AM,decide_eq_true_iff,decide_eq_true_iff]at e;omega
 have g:Lr[(x-1).toNat]? =some (Ks Lr 1 x):=by
  have t:=Vp (pre:=[]) (l:=Lr) (f:=0) (z:=x-1) rfl ⟨by omega,by show _<(0:Int)+(13:Nat);omega⟩;rw[List.nil_append]at t;rw[t];unfold Ks;rw[Int.sub_zero]
 exact sL func209 rfl<|M<|Z (λb a h=>cr (x:=x)) λu=>X (!Up x) false (by rw[e];rfl)<|ZD 3 (λb a h=>jo) λy=>sM 8 (I (YA.wrap (x-1))) (I (x-1)) O (by rw[AN _ J])<|sV (Ki 53 (.slice (some ⟨y,0,none⟩) 13 13) (x-1)) (.pointer (some ((⟨y,0,none⟩:YB).add (x-1).toNat))) O (λb a h=>(Rm h.2 g J).1)<|H 4<|ZA (L4 9 ((⟨y,0,none⟩:YB).add (x-1).toNat)) (E (Ks Lr 1 x)) (λb a h=>K9 O (Rm (c:=13) h.2 g J).2)<|ZW (E (Ks Lr 1 x))
theorem aR{k:Nat}(a:k<13):Lr.take (k+1)=Lr.take k++ [Ks Lr 1 (1+k:Nat)]:=by
 have t:=Vp (pre:=[[]]) (l:=Lr) (f:=1) (z:=((1+k:Nat):Int)) rfl ⟨by omega,by show _<(1:Int)+(13:Nat);omega⟩;rw[show((1+k:Nat):Int).toNat=[([]:R)].length+k by simp;omega,AR J,AZ]at t;exact Ve t
theorem RT:YG XW 141 #[] w (K6 w (λy:Nat×Nat=> .slice (some ⟨y.1,0,none⟩) 14 y.2) λy u=>Km u (some ⟨y.1,0,none⟩) 14 ([]::Lr)):=by
 refine sL func141 rfl<|M<|sO (Kw 53 1 #[(0,E [])]) (Kd 1) (λg u=>Y u w.heap.size 9 1 (some ⟨g,0,none⟩) 1 1 (sv [[]])) O (λf b h=>S7 (cells:= #[E []]) O b.size rfl Zd) λC=>M<|sU (ι:={p:Nat×(YZ) // p.1<=13}) 14 (λp=>⟨[(1,.v (.slice p.1.2.1 (1+p.1.1) p.1.2.2)),(2,.v (I (1+p.1.1:Nat)))],[]⟩) (λp u=>Y u w.heap.size 9 1 p.1.2.1 (1+p.1.1) p.1.2.2 (sv ([]::Lr.take p.1.1))) (λp=>13-p.1.1) (⟨(0,(some ⟨C,0,none⟩,1)),AG _⟩) O (λ_=>O) zt (λu h=>h.2) ?_
 rintro⟨⟨k,z⟩,s⟩ P;have s:k<=13:=s
 by_cases r:k<13
 case neg=>
  obtain rfl:k=13:=J
  refine M<|X (decide (((1+13:Nat):Int)<=13)) false Zd<|sN O<|M<|s7 (p:=∃g:Nat,z.1=some ⟨g,0,none⟩) (λf b h=>by obtain⟨g,e,_⟩:=(show Y f w.heap.size 9 1 z.1 (1+13) z.2 (sv ([]::Lr.take 13))from h).cells Zd;exact⟨g,e⟩) O (λo=> ?_)
  obtain⟨g,o⟩:=o;refine ZV (.slice z.1 (1+13) z.2) (λf b h=>⟨(g,z.2),by rw[o],b,λj vg D=>by have t:=(show Y j w.heap.size 9 1 z.1 (1+13) z.2 (sv ([]::Lr.take 13))from h j vg D).strs;rw[o]at t;exact t⟩)
 refine M<|X (decide (((1+k:Nat):Int)<=13)) true (YU J)<|Z (λf b h=>WP (x:=((1+k:Nat):Int)) (by unfold Up;rw[YU J,YU J];rfl)) λu=>sO (Kw 53 1 #[(0,E (Ks Lr 1 (1+k:Nat)))]) (Kd 1) (Kr 9 #[E (Ks Lr 1 (1+k:Nat))]) O (λf b h=>Kb O) λF=>H 4<|sY (L:=bl z.1) (val:=λ(z:YZ)=> .slice z.1 (1+k+1) z.2) (Φ':=λ(z:YZ) v=>Y v w.heap.size 9 1 z.1 (1+k+1) z.2 (sv ([]::Lr.take (k+1)))) (G:=λ(z:YZ) v=>Y v w.heap.size 9 1 z.1 (1+k+1) z.2 (sv ([]::Lr.take (k+1)))) (Ln 53 53 (.slice z.1 (1+k) z.2) (Kd 1 F)) (λf b h=>by have t:=QA (m:=1+k) (a:=Ks Lr 1 (1+k:Nat)) h.1.1 b.size h.2 J;rw[List.cons_append,<-aR r]at t;exact t) (λu h=>h.1.1.blk) (λ_ uZ u ve uR h uS=>uS) O O λvf=>M<|sM 2 (I (YA.wrap (((1+k:Nat):Int)+1))) (I ((1+(k+1):Nat):Int)) O (by rw[AN _ J];congr 1)<|sR (⟨(k+1,vf),by show k+1<=13;omega⟩) O zo zt (λu h=>h)
theorem GR:YG XW 84 #[] w (K6 w (λy:Nat=> .slice (some ⟨y,0,none⟩) 3 3) λy u=>Km u (some ⟨y,0,none⟩) 3 ([]::M2)):=by
 refine sL func84 rfl<|M<|sO (Kw 53 3 #[(0,E []),(1,E [110,111,110,122,101,114,111]),(2,E [101,118,101,110,111,100,100])]) (Kd 3) (Kr 9 (sv ([]::M2)).toArray) O (λg b h=>Kb O) λy=>M<|ZV (.slice (some ⟨y,0,none⟩) 3 3) (λg b h=>⟨y,rfl,b,λa f e=>Lh (h a f e).2 rfl⟩)
theorem dI:YG XW 161 #[] w (K6 w (λy:Nat=> .slice (some ⟨y,0,none⟩) 4 4) λy u=>Km u (some ⟨y,0,none⟩) 4 ([]::Ri)):=by
 refine sL func161 rfl<|M<|sO (Kw 53 4 #[(0,E []),(1,E [109,105,116,101,114]),(2,E [98,101,118,101,108]),(3,E [114,111,117,110,100])]) (Kd 4) (Kr 9 (sv ([]::Ri)).toArray) O (λg b h=>Kb O) λy=>M<|ZV (.slice (some ⟨y,0,none⟩) 4 4) (λg b h=>⟨y,rfl,b,λa f e=>Lh (h a f e).2 rfl⟩)
theorem kF:YG XW 162 #[] w (K6 w (λy:Nat=> .slice (some ⟨y,0,none⟩) 6 6) λy u=>Km u (some ⟨y,0,none⟩) 6 ([]:: []:: []::Ud)):=by
 refine sL func162 rfl<|M<|sO (Kw 53 6 #[(0,E []),(1,E []),(2,E []),(3,E [114,111,117,110,100]),(4,E [98,117,116,116]),(5,E [115,113,117,97,114,101])]) (Kd 6) (Kr 9 (sv ([]:: []:: []::Ud)).toArray) O (λg b h=>Kb O) λy=>M<|ZV (.slice (some ⟨y,0,none⟩) 6 6) (λg b h=>⟨y,rfl,b,λa f e=>Lh (h a f e).2 rfl⟩)
theorem FG:Zv 153 #[.bool B] w (E (Ej B)):=by
 cases B
 .exact sL func153 rfl<|M<|ZI false<|ZW (E [48])
 .exact sL func153 rfl<|M<|ZI true<|ZW (E [49])
theorem FX{ls:List Sg}(a:Qn w A n ls)(b:Ru ls=true):Zv 85 #[.slice A n c] w (E (Pb ls)):=sL func85 rfl<|M<|Z (λf e h=>eR (c:=c) (a.below e) b) λu=>ZW (E (Pb ls))
theorem J8(ve:NM N q K w)(uR:Mb N=true)(Q:N.im.px.length<=20000):YG XW 82 #[Ya N q] w (K6 w (λy:YZ=>Rf (Lp N,y)) λy u=>Km u y.1 (Lp N).length (Lp N)):=by
 obtain⟨uU,P,G,_,_,_,_,b⟩:=Aj uR;unfold R_ at b;refine sL func82 rfl<|M<|Z (λg a h=>Lv (n:=N.id) J J) λW=>Z (λg a h=>Lv (n:=N.dep) J J) λuY=> ?_
 by_cases j:N.kind=1
 .rw[YS j]at b;have e:Lp N=[[103,114,111,117,112],K8 N.id,K8 N.dep,K8 (N.op.toNat:Int),Ks Lr 1 N.bl,Ej N.iso,Ej N.ko]:=by unfold Lp;rw[YS j]
  have uZ:=bz N.op;have vf:1<=N.bl/\N.bl<=13:=by unfold Up at b;rw[AM,decide_eq_true_iff,decide_eq_true_iff]at b;omega
  have s:=Vp (pre:=[[]]) (l:=Lr) (f:=1) (z:=N.bl) rfl ⟨by omega,by show _<(1:Int)+(13:Nat);omega⟩;rw[e];refine sQ (N.kind==1) true O (YQ.2 j)<|H 5<|ZT 20 (I (YA.wrap (N.op.toNat:Int))) (I (N.op.toNat:Int)) (by rw[AN _ J])<|ZD 9 (λg a h=>Lv (n:=(N.op.toNat:Int)) J J) λuX=>ZD 9 (λg a h=>RT) λC=>sP 9 (Ki 53 (.slice (some ⟨C.1,0,none⟩) 14 C.2) N.bl) (.pointer (some ((⟨C.1,0,none⟩:YB).add N.bl.toNat))) O (λg a h=>(Rm h.2 s J).1)<|H 10<|sP 10 (L4 9 ((⟨C.1,0,none⟩:YB).add N.bl.toNat)) (E (Ks Lr 1 N.bl)) O (λg a h=>K9 O (Rm (c:=C.2) h.2 s J).2)<|H 17<|ZD 17 (λg a h=>FG (B:=N.iso)) λT=>ZD 17 (λg a h=>FG (B:=N.ko)) λuW=>sO (Kw 53 7 #[(0,E [103,114,111,117,112]),(1,E (K8 N.id)),(2,E (K8 N.dep)),(3,E (K8 (N.op.toNat:Int))),(4,E (Ks Lr 1 N.bl)),(5,E (Ej N.iso)),(6,E (Ej N.ko))]) (Kd 7) (Kr 9 #[E [103,114,111,117,112],E (K8 N.id),E (K8 N.dep),E (K8 (N.op.toNat:Int)),E (Ks Lr 1 N.bl),E (Ej N.iso),E (Ej N.ko)]) O (λg a h=>Kb O) λo=>M<|ZV (.slice (some ⟨o,0,none⟩) 7 7) (λg a h=>⟨(some ⟨o,0,none⟩,7),rfl,a,λm j k=>Lh (h m j k).2 rfl⟩)
 rw[V j]at b;refine X (N.kind==1) false (YR.2 j) ?_
 by_cases k:N.kind=2
 .rw[YS k]at b;unfold Z8 at b;simp only[AM]at b;have e:Lp N=[[115,104,97,112,101],K8 N.id,K8 N.dep,Ks M2 1 N.frule,Pb N.path]:=by unfold Lp;rw[V j,YS k]
  have vf:=Iq b.2.1;have s:=Vp (pre:=[[]]) (l:=M2) (f:=1) (z:=N.frule) rfl vf;rw[e];refine X (N.kind==2) true (YQ.2 k)<|ZD 5 (λg a h=>GR) λF=>sP 5 (Ki 53 (.slice (some ⟨F,0,none⟩) 3 3) N.frule) (.pointer (some ((⟨F,0,none⟩:YB).add N.frule.toNat))) O (λg a h=>(Rm h.2 s J).1)<|H 6<|sP 6 (L4 9 ((⟨F,0,none⟩:YB).add N.frule.toNat)) (E (Ks M2 1 N.frule)) O (λg a h=>K9 O (Rm (c:=3) h.2 s J).2)<|H 10<|ZD 10 (λg a h=>FX (c:=q.pac) (ve.pa.below a) b.1) λuV=>sO (Kw 53 5 #[(0,E [115,104,97,112,101]),(1,E (K8 N.id)),(2,E (K8 N.dep)),(3,E (Ks M2 1 N.frule)),(4,E (Pb N.path))]) (Kd 5) (Kr 9 #[E [115,104,97,112,101],E (K8 N.id),E (K8 N.dep),E (Ks M2 1 N.frule),E (Pb N.path)]) O (λg a h=>Kb O) λo=>M<|ZV (.slice (some ⟨o,0,none⟩) 5 5) (λg a h=>⟨(some ⟨o,0,none⟩,5),rfl,a,λm j k=>Lh (h m j k).2 rfl⟩)
 rw[V k,AM]at b;obtain⟨L1,r⟩:∃L:WS,L=[[105,109,97,103,101],K8 N.id,K8 N.dep,Ks Ng 1 N.samp]:=⟨_,rfl⟩
 have t:L1.length=4:=by rw[r];rfl
 have e:Lp N=L1++E5 N.im:=by unfold Lp;rw[V j,V k,r]
 have hi:=bV b.1;have s:N.samp=1\/N.samp=2:=by
  have:=b.2;simp only[Bool.not_eq_true',Bool.and_eq_false_iff,bne_eq_false_iff_eq]at this;exact this
 have D:=Vp (pre:=[[]]) (l:=Ng) (f:=1) (z:=N.samp) rfl ⟨by omega,by show _<(1:Int)+(2:Nat);omega⟩;have uS:(L1++E5 N.im).length=4+3:=by rw[AE,t];rfl
 unfold Rf;rw[e,uS];refine X (N.kind==2) false (YR.2 k)<|ZD 5 (λg a h=>Yk) λvg=>sP 5 (Ki 53 (.slice (some ⟨vg,0,none⟩) 3 3) N.samp) (.pointer (some ((⟨vg,0,none⟩:YB).add N.samp.toNat))) O (λg a h=>(Rm h.2 D J).1)<|H 6<|sP 6 (L4 9 ((⟨vg,0,none⟩:YB).add N.samp.toNat)) (E (Ks Ng 1 N.samp)) O (λg a h=>K9 O (Rm (c:=3) h.2 D J).2)<|H 7<|sO (Kw 53 4 #[(0,E [105,109,97,103,101]),(1,E (K8 N.id)),(2,E (K8 N.dep)),(3,E (Ks Ng 1 N.samp))]) (Kd 4) (Kr 9 #[E [105,109,97,103,101],E (K8 N.id),E (K8 N.dep),E (Ks Ng 1 N.samp)]) O (λg a h=>Kb O) λo=>M<|ZD 4 (λg a h=>G8 (y:=(q.pxA,q.pxc)) (ve.px.below a) Q hi.1 hi.2) λy=>sO (Ln 53 53 (Kd 4 o) (.slice (some ⟨y,0,none⟩) 3 3)) (λy:YZ=> .slice y.1 (4+3) y.2) (λy v=>Y v w.heap.size 9 1 y.1 (4+3) y.2 (sv (L1++E5 N.im))) O (λg a h=>Q3 (p:=L1) (l:=E5 N.im) (by rw[r];exact h.1.2) t h.2 Zd Zd a.size) λz=>M<|ZV (.slice z.1 (4+3) z.2) (λg a h=>⟨z,by show _=Ending.returned (.slice z.1 (L1++E5 N.im).length z.2);rw[uS],a,λm j k=>(h m j k).2.strs⟩)
def Tz(S:Fo):WS:=[115,116,114,111,107,101]::RL S
theorem JK{P:Pn}:L5 S P=(Tz S++S.d.map K8)++Pz P:=by unfold L5 Tz;rw[QR];simp
theorem FU{P:Pn}:(L5 S P).length=7+S.d.length+(Pz P).length:=by rw[JK,AE,AE,AQ];rfl
theorem MJ{P:Pn}(Q:NM N q K w)(hP:N.stroke[0]? =some P)(hf:P.im.px.length<=20000)(hS:R8 N.sty=true)(uV:Ld P=true)(hK:2<=K/\K<=1000):YG XW 87 #[Ya N q] w (K6 w (λy:YZ=>Rf (L5 N.sty P,y)) λy u=>Km u y.1 (L5 N.sty P).length (L5 N.sty P)):=by
 obtain⟨h1,h2,h3,h4,h5,h6⟩:=GT hS;obtain⟨uS,EO⟩:=Jd h6;have hps:=Bx uV;have vg:=Vp (pre:=[[]]) (l:=Ri) (f:=1) (z:=N.sty.j) rfl h2;have uT:=Vp (pre:=[[],[],[]]) (l:=Ud) (f:=3) (z:=N.sty.c) rfl h3;obtain⟨p,uR,uY⟩:=Q.st.get hP;obtain⟨ad,hA,uW⟩:=Q.st.row.2 0 _ uR;have uU:0<N.stroke.length:=(AJ.1 hP).1;refine sL func87 rfl<|M<|Z (λe b h=>Lv (n:=N.sty.w) J J) λu0=>ZD 6 (λe b h=>dI) λve=>sP 6 (Ki 53 (.slice (some ⟨ve,0,none⟩) 4 4) N.sty.j) (.pointer (some ((⟨ve,0,none⟩:YB).add N.sty.j.toNat))) O (λe b h=>(Rm h.2 vg J).1)<|H 7<|sP 7 (L4 9 ((⟨ve,0,none⟩:YB).add N.sty.j.toNat)) (E (Ks Ri 1 N.sty.j)) O (λe b h=>K9 O (Rm (c:=4) h.2 vg J).2)<|H 11<|ZD 11 (λe b h=>kF) λvf=>sP 11 (Ki 53 (.slice (some ⟨vf,0,none⟩) 6 6) N.sty.c) (.pointer (some ((⟨vf,0,none⟩:YB).add N.sty.c.toNat))) O (λe b h=>(Rm h.2 uT J).1)<|H 12<|sP 12 (L4 9 ((⟨vf,0,none⟩:YB).add N.sty.c.toNat)) (E (Ks Ud 3 N.sty.c)) O (λe b h=>K9 O (Rm (c:=6) h.2 uT J).2)<|H 23<|ZD 23 (λe b h=>Lv (n:=N.sty.m) J J) λu3=>ZD 23 (λe b h=>Lv (n:=N.sty.p) J J) λu4=>ZD 23 (λe b h=>Lv (n:=(N.sty.d.length:Int)) J J) λu5=>sO (Kw 53 7 #[(0,E [115,116,114,111,107,101]),(1,E (K8 N.sty.w)),(2,E (Ks Ri 1 N.sty.j)),(3,E (Ks Ud 3 N.sty.c)),(4,E (K8 N.sty.m)),(5,E (K8 N.sty.p)),(6,E (K8 (N.sty.d.length:Int)))]) (Kd 7) (λg u=>Y u w.heap.size 9 1 (some ⟨g,0,none⟩) 7 7 (sv (Tz N.sty))) O (λe b h=>S7 (s:=1) (cells:=(sv (Tz N.sty)).toArray) O b.size rfl Zd) λgb=>M<|sU (ι:={p:Nat×(YZ) // p.1<=N.sty.d.length}) 55 (λp=>⟨[(1,.p 1 0),(3,.p 3 0),(4,.v (.slice p.1.2.1 (7+p.1.1) p.1.2.2)),(5,.v (I p.1.1))],[(1,(Yb N q).map .v),(3,[.v (I N.sty.w),.v (I N.sty.j),.v (I N.sty.c),.v (I N.sty.m),.v (.slice q.daA N.sty.d.length q.dac),.v (I N.sty.p)])]⟩) (λp u=>Y u w.heap.size 9 1 p.1.2.1 (7+p.1.1) p.1.2.2 (sv (Tz N.sty++(N.sty.d.take p.1.1).map K8))) (λp=>N.sty.d.length-p.1.1) (⟨(0,(some ⟨gb,0,none⟩,7)),AG _⟩) O (λ_=>O) zt (λu h=>by show Y u _ _ 1 _ 7 7 (sv (Tz N.sty++ []));rw[List.append_nil];exact h.2) ?_
 rintro⟨⟨k,z⟩,hk⟩ gg;have hk:k<=N.sty.d.length:=hk
 by_cases r:k<N.sty.d.length
 case neg=>
  obtain rfl:k=N.sty.d.length:=J
  refine M<|X (decide ((N.sty.d.length:Int)<(N.sty.d.length:Int))) false Zs<|sN O<|M<|ZA (Ki 64 (.slice q.stA N.stroke.length q.stc) (0:Nat)) (.pointer (some (ad.add (0*40)))) (λe b h=>Vm (k:=0) hA uU)<|ZA (L4 49 (ad.add (0*40))) (.agg (dD (P,p)).toArray) (λe b h=>Yn λj v vg=>La b (uW j v vg))<|ZD 6 (λe b h=>G6 (uY.below b) uV hK hf) λuX=>sY (L:=bl z.1) (val:=λ(o:YZ)=> .slice o.1 (7+N.sty.d.length+(Pz P).length) o.2) (Φ':=λ(o:YZ) v=>Y v w.heap.size 9 1 o.1 (7+N.sty.d.length+(Pz P).length) o.2 (sv ((Tz N.sty++(N.sty.d.take N.sty.d.length).map K8)++Pz P))) (G:=λ(o:YZ) v=>Y v w.heap.size 9 1 o.1 (7+N.sty.d.length+(Pz P).length) o.2 (sv ((Tz N.sty++(N.sty.d.take N.sty.d.length).map K8)++Pz P))) (Ln 53 53 (.slice z.1 (7+N.sty.d.length) z.2) (.slice uX.1 (Pz P).length uX.2)) (λe b h=>O7 (m:=7+N.sty.d.length) h.1 b.size h.2 J) (λu h=>h.1.blk) (λ_ wa u e1 e2 h T=>T) O O λo=>M<|ZV (.slice o.1 (7+N.sty.d.length+(Pz P).length) o.2) (λe b h=>⟨o,by show _=Ending.returned (.slice o.1 (L5 N.sty P).length o.2);rw[FU],b,λD k1 k2=>by rw[FU,JK];have t:=(show Y D w.heap.size 9 1 o.1 (7+N.sty.d.length+(Pz P).length) o.2 (sv ((Tz N.sty++(N.sty.d.take N.sty.d.length).map K8)++Pz P))from h D k1 k2).strs;rw[BR]at t;exact t⟩)
 obtain⟨v,W⟩:∃v,N.sty.d[k]? =some v:=⟨_,AD r⟩
 obtain⟨C,F,uZ⟩:=Q.da.2 k v W;have hvr:=uS v (AH W);refine M<|X (decide ((k:Int)<(N.sty.d.length:Int))) true Zp<|ZA (Ki 65 (.slice q.daA N.sty.d.length q.dac) k) (.pointer (some (C.add k))) (λe b h=>by rw[F];exact Kg (elem:=3) O O r)<|ZA (L4 3 (C.add k)) (I v) (λe b h=>K9 O (by have:=La b (uZ 0 (I v) rfl);rw[Y7,BO,BK]at this;exact this))<|ZD 7 (λe b h=>Lv (n:=v) J J) λu=>sO (Kw 53 1 #[(0,E (K8 v))]) (Kd 1) (Kr 9 #[E (K8 v)]) O (λe b h=>Kb O) λga=>H 8<|sY (L:=bl z.1) (val:=λ(z:YZ)=> .slice z.1 (7+(k+1)) z.2) (Φ':=λ(z:YZ) v=>Y v w.heap.size 9 1 z.1 (7+(k+1)) z.2 (sv (Tz N.sty++(N.sty.d.take (k+1)).map K8))) (G:=λ(z:YZ) v=>Y v w.heap.size 9 1 z.1 (7+(k+1)) z.2 (sv (Tz N.sty++(N.sty.d.take (k+1)).map K8))) (Ln 53 53 (.slice z.1 (7+k) z.2) (Kd 1 ga)) (λe b h=>by have t:=QA (m:=7+k) (a:=K8 v) h.1.1 b.size h.2 J;rw[List.append_assoc,<-dp W]at t;exact t) (λu h=>h.1.1.blk) (λ_ wa u e1 e2 h T=>T) O O λo=>M<|sS 5 r J O<|sR (⟨(k+1,o),by show k+1<=N.sty.d.length;omega⟩) O zo zt (λu h=>h)
end
end
section
--ATNAMES
section
variable{w u:YN}{z x:Int}{A:YY}{n c B:Nat}{N:Nd}{q:ND}{K:Nat}{S:Sc}{y:YZ}{L:List LR}{uX:LR}{nl:List (Nd×ND)}
def rF:List Nat:=[4,5,6,7,8,9,10,11,12,13,14]
def rS:List Nat:=[15,16,17,18,19,20,21,22,23,24,25,26,27,28,29,30]
def rZ:List Nat:=[31,32,33,34,35,36,37,38,39,40,41,42,43,44]
theorem WK(h:N.stroke.length<=1){P:Pn}(a:N.stroke[0]? =some P):N.stroke=[P]:=by
 obtain⟨e,f⟩:=AJ.1 a;obtain⟨x,b⟩:=List.length_eq_one_iff.1 (show N.stroke.length=1 by omega);rw[b]at a ⊢;simpa using a
theorem eC(h:N.fill.length<=1){P:Pn}(a:N.fill[0]? =some P):N.fill=[P]:=by
 obtain⟨e,f⟩:=AJ.1 a;obtain⟨x,b⟩:=List.length_eq_one_iff.1 (show N.fill.length=1 by omega);rw[b]at a ⊢;simpa using a
theorem P6.zero(h:P6 B y L u):P6 0 y L u:=⟨h.own.rebase λ_ _=>AG _,h.str,h.ne,h.apart⟩
theorem m8{P:YK}{f:YE}{args:Array YM}{W:WS}(a:YG P f args w (K6 w (λy:YZ=>Rf (W,y)) λy u=>Km u y.1 W.length W))(g:P6 B y L w)(k:W≠[]:=by simp[L5]):
 YG P f args w (K6 w (λy:YZ=>Rf (W,y)) λy2 u=>Km u y2.1 W.length W/\LZ y2.1 y L):=
 a.mono λe m h=>h.aptR (λy=>bl y.1) (λy u h b l=>PZ h k b l) λy j=>g.apt j
theorem Xo(vg:NM N q K w)(hf:LQ N)(hv:Mb N=true)(uT:2<=K/\K<=1000):
 YG XW 41 #[Ya N q] w (K6 w (λp:{p:(YZ)×List LR // p.2.map (·.1)=Ui N}=> .slice p.1.1.1 p.1.2.length p.1.1.2) λp u=>P6 0 p.1.1 p.1.2 u):=by
 obtain⟨hk,hid,hdep,hok,uR,vf,_,_⟩:=Aj hv;obtain⟨uV,hfv,hsv,uU⟩:=Wr hv;have hcn:=EP (N:=N);refine sL func41 rfl<|M<|tM (ι:=(Nat×(YZ)×(YZ))×(Nat->AV)) (λi c=>P5 rF i.2 (Ma 3 (Kd 2 i.1.1) (M1 XW 1000 1000 (Lf (.v (Kd 2 0)) (M1 XW 1000 1000 (Lf (.v (.slice none 7 7)) (M1 XW 1000 1000 (Lf (.v (.slice none 6 6)) (M1 XW 1000 1000 (Lf (.v (.slice none 1 1)) (M1 XW 1000 1000 (Bg 2 (Kd 1 0) c)))))))))))) (λi u=>P6 w.heap.size (some ⟨i.1.1,0,none⟩,2) [(Lp N,i.1.2.1),(T9 N,i.1.2.2)] u) (λk=> ?_) (λi=> ?_)
 .refine tR (i:=1) (j:=2) O ?_ ?_
  .refine tD (i:=1) (λm a h=>J8 (vg.below a) hv hf.px) O λo=>M<|tR (i:=2) (j:=5) O ?_ ?_
   .exact Py.make (i:=2) (Kw 53 1 #[(0,E [116,114,97,110,115,102,111,114,109])]) (Kd 1) (Kr 9 #[E [116,114,97,110,115,102,111,114,109]]) O (λm a h=>Kb O) λD=>M<|ZD 6 (λm a h=>Om (vg.tr.below a) uT) λy2=>sO (Ln 53 53 (Kd 1 D) (.slice (some ⟨y2,0,none⟩) 6 6)) (λy:YZ=> .slice y.1 (1+6) y.2) (λy v=>Y v w.heap.size 9 1 y.1 (1+6) y.2 (sv ([[116,114,97,110,115,102,111,114,109]]++Mn N.T))) O (λm a h=>Q3 (p:=[[116,114,97,110,115,102,111,114,109]]) (l:=Mn N.T) h.1.2 rfl h.2 Zd Zd a.size) λz=>M<|sO (Kw 95 2 #[(0,Rf (Lp N,o)),(1,Rf (T9 N,z))]) (Kd 2) (λg u=>Y u w.heap.size 53 1 (some ⟨g,0,none⟩) 2 2 [Rf (Lp N,o),Rf (T9 N,z)]/\∀x∈[((Lp N,o):LR),(T9 N,z)],∀b∈bl (some (⟨g,0,none⟩:YB)),b∉bl x.2.1) O (λm a h=>F9 (X1:=(Lp N,o)) (X2:=(T9 N,z)) a.size h.1.1.1.2 R9 h.2.strs (by simp[T9])) λg=>M<|tA O (λu h=>fH (X1:=(Lp N,o)) (X2:=(T9 N,z)) h.2.1 h.2.2 h.1.1.1.1.2 R9 h.1.2.strs (by simp[T9]))<|tb rF λx=>tm (k ((g,o,z),x)) O
   .exact tD (i:=5) (λm a h=>Om (vg.tr.below a) uT) O λy2=>H 2<|sO (Kw 53 1 #[(0,E [116,114,97,110,115,102,111,114,109])]) (Kd 1) (Kr 9 #[E [116,114,97,110,115,102,111,114,109]]) O (λm a h=>Kb O) λD=>H 6<|sO (Ln 53 53 (Kd 1 D) (.slice (some ⟨y2,0,none⟩) 6 6)) (λy:YZ=> .slice y.1 (1+6) y.2) (λy v=>Y v w.heap.size 9 1 y.1 (1+6) y.2 (sv ([[116,114,97,110,115,102,111,114,109]]++Mn N.T))) O (λm a h=>Q3 (p:=[[116,114,97,110,115,102,111,114,109]]) (l:=Mn N.T) h.2 rfl h.1.2 Zd Zd a.size) λz=>M<|sO (Kw 95 2 #[(0,Rf (Lp N,o)),(1,Rf (T9 N,z))]) (Kd 2) (λg u=>Y u w.heap.size 53 1 (some ⟨g,0,none⟩) 2 2 [Rf (Lp N,o),Rf (T9 N,z)]/\∀x∈[((Lp N,o):LR),(T9 N,z)],∀b∈bl (some (⟨g,0,none⟩:YB)),b∉bl x.2.1) O (λm a h=>F9 (X1:=(Lp N,o)) (X2:=(T9 N,z)) a.size h.1.1.1.2 R9 h.2.strs (by simp[T9])) λg=>M<|tA O (λu h=>fH (X1:=(Lp N,o)) (X2:=(T9 N,z)) h.2.1 h.2.2 h.1.1.1.1.2 R9 h.1.2.strs (by simp[T9]))<|tb rF λx=>tm (k ((g,o,z),x)) O
  .exact Py.make (i:=2) (Kw 53 1 #[(0,E [116,114,97,110,115,102,111,114,109])]) (Kd 1) (Kr 9 #[E [116,114,97,110,115,102,111,114,109]]) O (λm a h=>Kb O) λD=>M<|Z (λm a h=>J8 (vg.below a) hv hf.px) λo=>ZD 6 (λm a h=>Om (vg.tr.below a) uT) λy2=>sO (Ln 53 53 (Kd 1 D) (.slice (some ⟨y2,0,none⟩) 6 6)) (λy:YZ=> .slice y.1 (1+6) y.2) (λy v=>Y v w.heap.size 9 1 y.1 (1+6) y.2 (sv ([[116,114,97,110,115,102,111,114,109]]++Mn N.T))) O (λm a h=>Q3 (p:=[[116,114,97,110,115,102,111,114,109]]) (l:=Mn N.T) h.1.1.2 rfl h.2 Zd Zd a.size) λz=>M<|sO (Kw 95 2 #[(0,Rf (Lp N,o)),(1,Rf (T9 N,z))]) (Kd 2) (λg u=>Y u w.heap.size 53 1 (some ⟨g,0,none⟩) 2 2 [Rf (Lp N,o),Rf (T9 N,z)]/\∀x∈[((Lp N,o):LR),(T9 N,z)],∀b∈bl (some (⟨g,0,none⟩:YB)),b∉bl x.2.1) O (λm a h=>F9 (X1:=(Lp N,o)) (X2:=(T9 N,z)) a.size h.1.1.2 R9 h.2.strs (by simp[T9])) λg=>M<|tA O (λu h=>fH (X1:=(Lp N,o)) (X2:=(T9 N,z)) h.2.1 h.2.2 h.1.1.1.2 R9 h.1.2.strs (by simp[T9]))<|tb rF λx=>tm (k ((g,o,z),x)) O
 obtain⟨⟨g,o,y2⟩,x0⟩:=i;refine tM (ι:={p:(YZ)×List LR // p.2.map (·.1)=Ur N++Uc N}×(Nat->AV)) (λi c=>P5 rS i.2 (Ma 3 (.slice i.1.1.1.1 i.1.1.2.length i.1.1.1.2) (M1 XW 1000 1000 (Em false c)))) (λi u=>P6 w.heap.size i.1.1.1 i.1.1.2 u) (λQ=> ?_) (λi=> ?_)
 .by_cases W:N.clip.length=0
  .exact X (decide ((N.clip.length:Int)>0)) false (YV J)<|tb rS λx=>tm (Q (⟨((some ⟨g,0,none⟩,2),[(Lp N,o),(T9 N,y2)]),by unfold Uc;rw[YS W];rfl⟩,x)) O
  .have hr:=Iq (x:=N.crule) (by unfold Ry at vf;rw[V W]at vf;exact vf);have hs:=Vp (pre:=[[]]) (l:=M2) (f:=1) (z:=N.crule) rfl hr;exact X (decide ((N.clip.length:Int)>0)) true (YU J)<|ZD 4 (λm a h=>GR) λru=>sP 4 (Ki 53 (.slice (some ⟨ru,0,none⟩) 3 3) N.crule) (.pointer (some ((⟨ru,0,none⟩:YB).add N.crule.toNat))) O (λm a h=>(Rm h.2 hs J).1)<|H 5<|sP 5 (L4 9 ((⟨ru,0,none⟩:YB).add N.crule.toNat)) (E (Ks M2 1 N.crule)) O (λm a h=>K9 O (Rm (c:=3) h.2 hs J).2)<|H 9<|ZD 9 (λm a h=>FX (c:=q.clc) (vg.cl.below a) uR) λu2=>sO (Kw 53 3 #[(0,E [99,108,105,112]),(1,E (Ks M2 1 N.crule)),(2,E (Pb N.clip))]) (Kd 3) (λr u=>Km u (some ⟨r,0,none⟩) 3 [[99,108,105,112],Ks M2 1 N.crule,Pb N.clip]/\LZ (some ⟨r,0,none⟩) (some ⟨g,0,none⟩,2) [(Lp N,o),(T9 N,y2)]) O (λm a h=>Vl (cells:= #[E [99,108,105,112],E (Ks M2 1 N.crule),E (Pb N.clip)]) O rfl rfl h.1.1) λr=>M<|sO (Kw 95 1 #[(0,Rf ([[99,108,105,112],Ks M2 1 N.crule,Pb N.clip],(some ⟨r,0,none⟩,3)))]) (Kd 1) (Kr 53 #[Rf ([[99,108,105,112],Ks M2 1 N.crule,Pb N.clip],(some ⟨r,0,none⟩,3))]) O (λm a h=>Kb O) λD=>H 11<|tl (L:=bl (some (⟨g,0,none⟩:YB))) (val:=λ(z:YZ)=> .slice z.1 (2+1) z.2) (Φ':=λ(z:YZ) u=>P6 w.heap.size z [(Lp N,o),(T9 N,y2),([[99,108,105,112],Ks M2 1 N.crule,Pb N.clip],(some ⟨r,0,none⟩,3))] u) (G:=λ(z:YZ) v=>Y v w.heap.size 53 1 z.1 (2+1) z.2 [Rf (Lp N,o),Rf (T9 N,y2),Rf ([[99,108,105,112],Ks M2 1 N.crule,Pb N.clip],(some ⟨r,0,none⟩,3))]/\∀x∈[((Lp N,o):LR),(T9 N,y2),([[99,108,105,112],Ks M2 1 N.crule,Pb N.clip],(some ⟨r,0,none⟩,3))],∀b∈bl z.1,b∉bl x.2.1) (Ln 95 95 (.slice (some ⟨g,0,none⟩) 2 2) (Kd 1 D)) (λm a h=>Xu (y:=(some ⟨g,0,none⟩,2)) (L:=[(Lp N,o),(T9 N,y2)]) (uX:=([[99,108,105,112],Ks M2 1 N.crule,Pb N.clip],(some ⟨r,0,none⟩,3))) h.1.1.1.1 a.size h.1.2.1 Zs h.1.2.2 h.2 Zs) (λu h=>h.1.1.1.1.own.blk) (λz wa u e1 uY h uW=>P6.left (L:=[(Lp N,o),(T9 N,y2)]) (uX:=([[99,108,105,112],Ks M2 1 N.crule,Pb N.clip],(some ⟨r,0,none⟩,3))) h.1.1.1.1 h.1.2.1 Zs h.1.2.2 uY uW) O O λz=>M<|tb rS λx=>tm (Q (⟨(z,[(Lp N,o),(T9 N,y2),([[99,108,105,112],Ks M2 1 N.crule,Pb N.clip],(some ⟨r,0,none⟩,3))]),by unfold Uc;rw[V W];rfl⟩,x)) O
 obtain⟨⟨⟨y,L⟩,s⟩,x1⟩:=i;have s:L.map (·.1)=Ur N++Uc N:=s
 have hLn:L.length<=10:=by rw[Fa s];simp[Ur];omega
 refine tM (ι:={p:(YZ)×List LR // p.2.map (·.1)=(Ur N++Uc N)++N.fill.map O2}×(Nat->AV)) (λi c=>P5 rZ i.2 (Ma 3 (.slice i.1.1.1.1 i.1.1.2.length i.1.1.1.2) (M1 XW 1000 1000 (Em false c)))) (λi u=>P6 w.heap.size i.1.1.1 i.1.1.2 u) (λk3=> ?_) (λi=> ?_)
 .by_cases h0:N.fill.length=0
  .exact X (decide ((N.fill.length:Int)>0)) false (YV J)<|tb rZ λx=>tm (k3 (⟨(y,L),by show L.map (·.1)=_;rw[s,BG.1 h0];simp⟩,x)) O
  .obtain⟨P,uZ⟩:∃v,N.fill[0]? =some v:=⟨_,AD J⟩
   obtain⟨p,hx2,hrd⟩:=vg.fi.get uZ;obtain⟨ad,hA,W⟩:=vg.fi.row.2 0 _ hx2;have C:=AH uZ;have uS:=hfv P C;have F:=hf.fi P C;have hps:=Bx uS;have hpn:0<(Pz P).length:=RJ uS;have eF:1+(Pz P).length=(O2 P).length:=Nat.add_comm _ _;refine sQ (decide ((N.fill.length:Int)>0)) true O (YU J)<|H 1<|sO (Kw 53 1 #[(0,E [102,105,108,108])]) (Kd 1) (Kr 9 #[E [102,105,108,108]]) O (λm a h=>Kb O) λD=>H 4<|sV (Ki 64 (.slice q.fiA N.fill.length q.fic) (0:Nat)) (.pointer (some (ad.add (0*40)))) O (λm a h=>Vm (k:=0) hA J)<|H 5<|sV (L4 49 (ad.add (0*40))) (.agg (dD (P,p)).toArray) O (λm a h=>Yn λj v hj=>La a (W j v hj))<|H 7<|ZD 7 (λm a h=>G6 (hrd.below a) uS uT F.1) λwy=>sO (Ln 53 53 (Kd 1 D) (.slice wy.1 (Pz P).length wy.2)) (λz:YZ=> .slice z.1 (1+(Pz P).length) z.2) (λz v=>Y v w.heap.size 9 1 z.1 (1+(Pz P).length) z.2 (sv (O2 P))/\LZ z.1 y L) O (λm a h=>HA (p:=[[102,105,108,108]]) (l:=Pz P) h.1.1 h.1.2 rfl h.2 hpn J a.size) λz=>M<|sO (Kw 95 1 #[(0,.slice z.1 (1+(Pz P).length) z.2)]) (Kd 1) (Kr 53 #[.slice z.1 (1+(Pz P).length) z.2]) O (λm a h=>Kb O) λr=>H 9 ?_
   have hX:∀v:YN,Y v w.heap.size 9 1 z.1 (1+(Pz P).length) z.2 (sv (O2 P))->Km v z.1 (O2 P).length (O2 P):=λv h=>by have t:=h.strs;rw[eF]at t;exact t
   have eX:BX z.1 (1+(Pz P).length) z.2=Rf (O2 P,z):=by rw[eF];rfl
   exact sY (L:=bl y.1) (val:=λ(e:YZ)=> .slice e.1 (L.length+1) e.2) (Φ':=λ(e:YZ) u=>P6 w.heap.size e (L++ [(O2 P,z)]) u) (G:=λ(e:YZ) v=>Y v w.heap.size 53 1 e.1 (L.length+1) e.2 (L.map Rf++ [Rf (O2 P,z)])/\∀x∈L++ [(O2 P,z)],∀b∈bl e.1,b∉bl x.2.1) (Ln 95 95 (.slice y.1 L.length y.2) (Kd 1 r)) (λm a h=>Xu (uX:=(O2 P,z)) h.1.1.1.1 a.size (hX _ h.1.2.1) (by simp[O2]) h.1.2.2 (by rw[<-eX];exact h.2) J) (λu h=>h.1.1.1.1.own.blk) (λe wa u e1 uY h uW=>P6.left h.1.1.1.1 (hX _ h.1.2.1) (by simp[O2]) h.1.2.2 uY uW) O O λe=>M<|sM 3 (.slice e.1 (L.length+1) e.2) (.slice e.1 (L++ [((O2 P,z):LR)]).length e.2) O (by rw[AE];rfl)<|tb rZ λx=>tm (k3 (⟨(e,L++ [(O2 P,z)]),by show(L++ [((O2 P,z):LR)]).map (·.1)=_;rw[AP,s,eC uV.1 uZ];rfl⟩,x)) O
 obtain⟨⟨⟨y,L⟩,s⟩,x2⟩:=i;have s:L.map (·.1)=(Ur N++Uc N)++N.fill.map O2:=s
 have hLn:L.length<=10:=by rw[Fa s];simp[Ur];omega
 by_cases h0:N.stroke.length=0
 .refine X (decide ((N.stroke.length:Int)>0)) false (YV J)<|ZV (.slice y.1 L.length y.2) (λm a h=>⟨⟨(y,L),by show L.map (·.1)=_;rw[s,Ll,BG.1 h0];simp⟩,rfl,a,λve k1 Q=>P6.zero (h ve k1 Q)⟩)
 obtain⟨P,uZ⟩:∃v,N.stroke[0]? =some v:=⟨_,AD J⟩
 have C:=AH uZ;have F:=hf.st P C;refine sQ (decide ((N.stroke.length:Int)>0)) true O (YU J)<|H 3<|ZD 3 (λm a h=>m8 (y:=y) (L:=L) (MJ (vg.below a) uZ F.1 (uU h0) (hsv P C) uT) h) λz=>sO (Kw 95 1 #[(0,Rf (L5 N.sty P,z))]) (Kd 1) (Kr 53 #[Rf (L5 N.sty P,z)]) O (λm a h=>Kb O) λr=>H 4<|sY (L:=bl y.1) (val:=λ(e:YZ)=> .slice e.1 (L.length+1) e.2) (Φ':=λ(e:YZ) u=>P6 w.heap.size e (L++ [(L5 N.sty P,z)]) u) (G:=λ(e:YZ) v=>Y v w.heap.size 53 1 e.1 (L.length+1) e.2 (L.map Rf++ [Rf (L5 N.sty P,z)])/\∀x∈L++ [(L5 N.sty P,z)],∀b∈bl e.1,b∉bl x.2.1) (Ln 95 95 (.slice y.1 L.length y.2) (Kd 1 r)) (λm a h=>Xu (uX:=(L5 N.sty P,z)) h.1.1 a.size h.1.2.1 (by simp[L5]) h.1.2.2 h.2 J) (λu h=>h.1.1.own.blk) (λe wa u e1 uY h uW=>P6.left h.1.1 h.1.2.1 (by simp[L5]) h.1.2.2 uY uW) O O λe=>M<|sM 2 (.slice e.1 (L.length+1) e.2) (.slice e.1 (L++ [((L5 N.sty P,z):LR)]).length e.2) O (by rw[AE];rfl)<|ZV (.slice e.1 (L++ [((L5 N.sty P,z):LR)]).length e.2) (λm a h=>⟨⟨(e,L++ [(L5 N.sty P,z)]),by show(L++ [((L5 N.sty P,z):LR)]).map (·.1)=_;rw[AP,s,Ll,WK uV.2 uZ];rfl⟩,rfl,a,λve k1 Q=>P6.zero (h ve k1 Q)⟩)
theorem bi(f:Vs w y.1 nl K S.nds)(j:gw S.nds)(g:2<=K/\K<=1000)(a:S.nds.length<=y.2)(b:A8 S=false):Zv 15 #[W3 S y] w (.tuple #[E [],I 18]):=sL func15 rfl<|M<|Z (λk e h=>PL (y:=y) (f.below e) j g a b) λu=>ZI true<|ZW (.tuple #[E [],I 18])
theorem eg(a b:List R):N0 (a++b)=N0 a++N0 b:=by simp[N0]
theorem fz{a:R}:N0 [a]=a++ [10]:=by simp[N0]
theorem WZ(T:Vs w y.1 nl K S.nds)(hf:gw S.nds)(hs:∀N∈S.nds,pJ N)(hn:S.nds.length<=64)(hK:2<=K/\K<=1000)(vf:S.nds.length<=y.2)(hB:A8 S=true):Zv 15 #[W3 S y] w (TW S):=by
 obtain⟨P,_,hv⟩:=A0 hB;have o:iM S:=λN hN=>⟨hv N hN,hs N hN⟩
 obtain⟨j1,j2⟩:=nI P;have j3:=Xh (Vz S);have l:(-9223372036854775808<=S.w/\S.w<=9223372036854775807)/\(-9223372036854775808<=S.h/\S.h<=9223372036854775807):=by
  unfold FI at P;simp only[Bool.or_eq_false_iff,decide_eq_false_iff_not]at P;omega
 refine sL func15 rfl<|M<|Z (λb a h=>PL (y:=y) (T.below a) hf hK vf hB) λu=>ZI false<|Z (λb a h=>Lv (n:=S.w) l.1.1 l.1.2) λu0=>Z (λb a h=>Lv (n:=S.h) l.2.1 l.2.2) λu1=>ZD 9 (λb a h=>Wa (k:=S.bg)) λu2=>sO (Kw 53 4 #[(0,E [115,99,101,110,101]),(1,E (K8 S.w)),(2,E (K8 S.h)),(3,E (P9 S.bg))]) (Kd 4) (Kr 9 #[E [115,99,101,110,101],E (K8 S.w),E (K8 S.h),E (P9 S.bg)]) O (λb a h=>Kb O) λga=>H 11<|ZD 11 (λb a h=>Fx (A:=some ⟨ga,0,none⟩) (n:=4) (c:=4) (ls:=Vz S) (Lh (L:=Vz S) h.2 rfl) J J) λu3=>ZA (Nq .add 9 (.tmp 21) (.const (.string ⟨#[10]⟩)) (E (M7 (Vz S))) (E [10])) (E (N0 (Zh S 0))) (λb a h=>by rw[M6 Zp];rw[show N0 (Zh S 0)=M7 (Vz S)++ [10]from fz])<|sU (ι:={k:Nat // k<=S.nds.length}) 54 (λk=>⟨[(1,.p 1 0),(4,.v (E (N0 (Zh S k.1)))),(5,.v (I k.1))],[(1,(eK S y).map .v)]⟩) (λk u=>True) (λk=>S.nds.length-k.1) (⟨0,AG _⟩) O (λ_=>O) zt (λu h=>trivial) ?_
 rintro⟨k,uU⟩ gg;have uU:k<=S.nds.length:=uU
 by_cases s:k<S.nds.length
 case neg=>
  obtain rfl:k=S.nds.length:=J
  have eT:N0 (Zh S S.nds.length)=Ju S:=by rw[Ij];rfl
  rw[eT];refine M<|X (decide ((S.nds.length:Int)<(S.nds.length:Int))) false Zs<|sN O<|M ?_
  unfold TW
  by_cases F:(Ju S).length<=65536
  .rw[YS F];exact X (decide (((Ju S).length:Int)>65536)) false (YV J)<|ZW (.tuple #[E (Ju S),I 0])
  .rw[V F];exact X (decide (((Ju S).length:Int)>65536)) true (YU J)<|ZW (.tuple #[E [],I 5])
 obtain⟨N,uV⟩:∃v,S.nds[k]? =some v:=⟨_,AD s⟩
 obtain⟨q,uY,uW⟩:=T.get uV;obtain⟨ad,hA,hc⟩:=T.row.2 k _ uY;have G:=AH uV;obtain⟨C,uS⟩:=o N G;have hkl:=GP o (k:=k) uU;have hlb:(N0 (Zh S k)).length<=60000000:=by rw[EJ];omega
 obtain⟨Q,hl5⟩:=Aq C uS;have hnj:=oa C uS;refine M<|X (decide ((k:Int)<(S.nds.length:Int))) true Zp<|ZA (Ki 25 (.slice y.1 S.nds.length y.2) k) (.pointer (some (ad.add (k*47)))) (λb a h=>Nb hA s)<|ZA (L4 69 (ad.add (k*47))) (Ya N q) (λb a h=>Xt λj v hj=>La a (hc j v hj))<|Z (λb a h=>Xo (uW.below a) (hf N G) C hK) λr=> ?_
 obtain⟨⟨z,L⟩,D⟩:=r;have D:L.map (·.1)=Ui N:=D
 have W:=Fa D;have ve:0<L.length:=by rw[W];simp[Ui]
 refine s7 (p:=(∃g:Nat,z.1=some ⟨g,0,none⟩)) (λb a h=>by obtain⟨g,e,_⟩:=h.2.own.cells ve;exact⟨g,e⟩) O (λuZ=> ?_);obtain⟨uT,uZ⟩:=uZ;refine sM 4 (E (N0 (Zh S k))) (E (N0 (Zh S k)++N0 ((L.take 0).map λx=>M7 x.1))) O (by simp[N0])<|sU (ι:={m:Nat // m<=L.length}) 54 (λm=>⟨[(1,.p 1 0),(4,.v (E (N0 (Zh S k)++N0 ((L.take m.1).map λx=>M7 x.1)))),(5,.v (I k)),(6,.v (.slice z.1 L.length z.2)),(7,.v (I m.1))],[(1,(eK S y).map .v)]⟩) (λm u=>P6 0 z L u) (λm=>L.length-m.1) (⟨0,AG _⟩) O (λ_=>O) zt (λu h=>h.2) ?_
 rintro⟨m,hm⟩ gg2;have hm:m<=L.length:=hm
 by_cases f:m<L.length
 case neg=>
  obtain rfl:m=L.length:=J
  have e1:N0 (Zh S k)++N0 ((L.take L.length).map λx=>M7 x.1)=N0 (Zh S (k+1)):=by rw[BR,Ii uV,eg,<-D,BW];rfl
  rw[e1];refine M<|X (decide ((L.length:Int)<(L.length:Int))) false Zs<|sN O<|M<|sS 5 s J O<|sR (⟨k+1,by show k+1<=S.nds.length;omega⟩) O zo zt (λu h=>trivial)
 obtain⟨uX,t⟩:∃v,L[m]? =some v:=⟨_,AD f⟩
 have vg:=AH t;have hXs:=Q uX.1 (by rw[<-D];exact List.mem_map_of_mem vg);have hXl:=Xh uX.1;have hml:(N0 ((L.take m).map λx=>M7 x.1)).length<=2000000:=by
  have uR:(L.take m).map (λx:LR=>M7 x.1)=((Ui N).map M7).take m:=by rw[<-D,BW,List.map_take];rfl
  rw[uR];have:=LP ((Ui N).map M7) m;rw[AQ]at this;omega
 refine M<|X (decide ((m:Int)<(L.length:Int))) true Zp<|ZA (Ki 95 (.slice z.1 L.length z.2) m) (.pointer (some ((⟨uT,0,none⟩:YB).add m))) (λb a h=>by rw[uZ];exact Kg (elem:=53) O O f)<|ZA (L4 53 ((⟨uT,0,none⟩:YB).add m)) (Rf uX) (λb a h=>K9 O (by obtain⟨g2,uR,h2⟩:=h.own.cells ve;rw[uZ]at uR;cases uR;rw[Addr.add_mid,BV];exact h2 m _ (by rw[List.getElem?_map,t];rfl))) ?_
 refine ZD 6 (λb a h=>Fx (c:=uX.2.2) (h.str uX vg) J J) λv=>sV (Nq .add 9 (.tmp 42) (.tmp 47) (E (N0 (Zh S k)++N0 ((L.take m).map λx=>M7 x.1))) (E (M7 uX.1))) (E ((N0 (Zh S k)++N0 ((L.take m).map λx=>M7 x.1))++M7 uX.1)) O (λb a h=>M6 (by rw[AE];omega))<|H 7<|ZA (Nq .add 9 (.tmp 48) (.const (.string ⟨#[10]⟩)) (E ((N0 (Zh S k)++N0 ((L.take m).map λx=>M7 x.1))++M7 uX.1)) (E [10])) (E (N0 (Zh S k)++N0 ((L.take (m+1)).map λx=>M7 x.1))) (λb a h=>by rw[M6 (by rw[AE,AE];show _+1<=_;omega),An (λx:LR=>M7 x.1) t,H9];simp)<|sS 7 f J O<|sR (⟨m+1,by show m+1<=L.length;omega⟩) O zo zt (λu h=>h.1)
end
end
section
--ATNAMES
section
variable{w:YN}{A:YY}{n c:Nat}{ws:WS}{x:Oj}{l:R}
theorem db(c:Nat){r:R×Oj}(b:r=Le ws x)(a:Si w A n ws):Zv 137 #[Ok A n c x] w (.tuple #[E r.1,Ok A n c r.2]):=b▸Fh a
theorem Qc(c:Nat){r:Int×Oj}(b:r=Ms ws x)(a:Si w A n ws):Zv 73 #[Ok A n c x] w (.tuple #[I r.1,Ok A n c r.2]):=b▸Te a
theorem S0(c c2:Nat){r:Int×Oj}{L:WS}{A2:YY}{n2:Nat}(b:r=Oi ws L x)(a:Si w A n ws)(e:Km w A2 n2 L)(f:n2<=100):Zv 140 #[Ok A n c x,.slice A2 n2 c2] w (.tuple #[I r.1,Ok A n c r.2]):=b▸B6 a e f
theorem NL(c:Nat){r:Pn×Oj}(b:r=G4 ws x)(a:Si w A n ws):YG XW 146 #[Ok A n c x] w (K6 w (λq:PM=> .tuple #[U2 r.1 q,Ok A n c r.2]) λq u=>oV r.2.syn r.1 q u):=b▸JR a
theorem jM(a:l.length<=65536):YG XW 210 #[E l] w (K6 w (λy:YZ=> .tuple #[.slice y.1 (Mq l).1.length y.2,I (Mq l).2.1,I (Mq l).2.2]) λy u=>Qn u y.1 (Mq l).1.length (Mq l).1):=by
 unfold Mq;rw[V J];exact gR (out:=(P0 (Kt l) 0 []).1) (at_:=(P0 (Kt l) 0 []).2.1) (e:=(P0 (Kt l) 0 []).2.2) a rfl
theorem FB(c:Nat){r:List Sg×Oj}(D:r=Cr ws x)(C:Si w A n ws):YG XW 142 #[Ok A n c x] w (K6 w (λy:YZ=> .tuple #[.slice y.1 r.1.length y.2,Ok A n c r.2]) λy u=>Qn u y.1 r.1.length r.1):=by
 have v:=C.fld (x:=x);obtain⟨f,s⟩:∃f,f=Le ws x:=⟨_,rfl⟩
 rw[<-s]at v;obtain⟨p,B⟩:∃p,p=Mq f.1:=⟨_,rfl⟩
 have e:Cr ws x=(p.1,if p.2.2=6 then⟨f.2.i,f.2.syn,true⟩else if p.2.2=0 then f.2 else⟨f.2.i,true,f.2.rng⟩):=by rw[B,s];rfl
 rw[D,e];refine sL func142 rfl<|M<|Z (λk b h=>db c s (C.below b)) λy=>Z (λk b h=>by have t:=jM (w:=k) (l:=f.1) J;rw[<-B]at t;exact t) λz=> ?_
 by_cases m:p.2.2=6
 .rw[YS m];refine X (p.2.2==6) true (YQ.2 m)<|ZV (.tuple #[.slice z.1 p.1.length z.2,Ok A n c ⟨f.2.i,f.2.syn,true⟩]) (λk b h=>⟨z,rfl,b,λa j g=>(h a j g).2⟩)
 rw[V m];refine X (p.2.2==6) false (YR.2 m) ?_
 by_cases o:p.2.2=0
 .rw[YS o];refine X (p.2.2 !=0) false (bne_eq_false_iff_eq.2 o)<|ZV (.tuple #[.slice z.1 p.1.length z.2,Ok A n c f.2]) (λk b h=>⟨z,rfl,b,λa j g=>(h a j g).2⟩)
 rw[V o];refine X (p.2.2 !=0) true (bne_iff_ne.2 o)<|ZV (.tuple #[.slice z.1 p.1.length z.2,Ok A n c ⟨f.2.i,true,f.2.rng⟩]) (λk b h=>⟨z,rfl,b,λa j g=>(h a j g).2⟩)
theorem rB(h:x.i<=ws.length):(Le ws x).2.i<=ws.length:=E7 h
theorem MQ(c:Nat){D:List Int×Oj}(W:D=Je ws x)(vf:Si w A n ws)(hi:x.i<=n):YG XW 216 #[Ok A n c x] w (K6 w (λy:YZ=> .tuple #[.slice y.1 D.1.length y.2,Ok A n c D.2]) λy u=>O3 u y.1 D.1.length 1 Tl D.1):=by
 have P:=vf.fld (x:=x);have hln:=vf.at_.1;have hn:=vf.len;have uZ:=rB (ws:=ws) (x:=x) J;obtain⟨f,K⟩:∃f,f=Le ws x:=⟨_,rfl⟩
 rw[<-K]at P uZ;have e:D=if Pw f.1≠0\/O1 f.1<0\/O1 f.1>(ws.length:Int)- (f.2.i:Int)then([],⟨f.2.i,true,f.2.rng⟩)else k9 ws (O1 f.1).toNat f.2 []:=by rw[W,K];rfl
 refine sL func216 rfl<|M<|Z (λB o h=>db c K (vf.below o)) λy=>Z (λB o h=>Dk (l:=f.1) J) λz=>sO (Kw 65 0 #[]) (Kd 0) (λg u=>Y u w.heap.size 3 1 (some ⟨g,0,none⟩) 0 0 []) O (λB o h=>U5 O o.size) λuR=>H 3 ?_
 have vg:YA.wrap ((n:Int)- (f.2.i:Int))=(n:Int)- (f.2.i:Int):=AN _ J;refine sT O 6 1000 25 [26,27] 28 true (decide (O1 f.1<0)) ((Pw f.1 !=0)||(decide (O1 f.1<0))) O O O (λ_=>O) Ov λuU=>H 7<|sT O 1000 1000 29 [30,31,32,33,34,35,36,37] 38 true (decide (O1 f.1>YA.wrap ((n:Int)- (f.2.i:Int)))) (((Pw f.1 !=0||decide (O1 f.1<0)))||(decide (O1 f.1>YA.wrap ((n:Int)- (f.2.i:Int))))) O O O (λ_=>O) Ov (λuT=> ?_)
 by_cases ve:Pw f.1≠0\/O1 f.1<0\/O1 f.1>(ws.length:Int)- (f.2.i:Int)
 .rw[YS ve]at e;refine X (((Pw f.1 !=0||decide (O1 f.1<0))||decide (O1 f.1>YA.wrap ((n:Int)- (f.2.i:Int))))) true (by rw[vg];simp;omega)<|ZV (.tuple #[.slice (some ⟨uR,0,none⟩) 0 0,Ok A n c ⟨f.2.i,true,f.2.rng⟩]) (λB o h=>⟨(some ⟨uR,0,none⟩,0),by rw[e];rfl,o,λ_ _ _=>by rw[e];exact⟨rfl,λk x uX=>by cases uX⟩⟩)
 rw[V ve]at e;refine X (((Pw f.1 !=0||decide (O1 f.1<0))||decide (O1 f.1>YA.wrap ((n:Int)- (f.2.i:Int))))) false (by rw[vg];simp;omega) ?_;obtain⟨N,Q⟩:∃N:Nat,O1 f.1=N:=⟨(O1 f.1).toNat,by omega⟩
 rw[Q,Int.toNat_natCast]at e;have hNn:N<=n:=J
 rw[Q];refine sU (ι:={q:(Nat×Oj×List Int)×(YZ) // k9 ws q.1.1 q.1.2.1 q.1.2.2=D/\q.1.2.2.length+q.1.1=N}) 59 (λq=>⟨[(3,.p 3 0),(5,.p 5 0),(6,.v (I N)),(8,.v (.slice q.1.2.1 q.1.1.2.2.length q.1.2.2)),(9,.v (I q.1.1.2.2.length))],[(3,[.v (.slice none 0 0),.v (I 0),.v Zf,.v Zf]),(5,[.v (.slice A n c),.v (I (q.1.1.2.1).i),.v (.bool (q.1.1.2.1).syn),.v (.bool (q.1.1.2.1).rng)])]⟩) (λq u=>Y u w.heap.size 3 1 q.1.2.1 q.1.1.2.2.length q.1.2.2 (q.1.1.2.2.map λz=>BH .i64 z)) (λq=>q.1.1.1) (⟨((N,f.2,[]),(some ⟨uR,0,none⟩,0)),e.symm,by simp⟩) O (λ_=>O) zt (λu h=>h.2) ?_;rintro⟨⟨⟨m,F,j⟩,y⟩,t,C⟩ gg;cases m with
 |zero=>
  obtain rfl:(j,F)=D:=t;have C:j.length+0=N:=C;refine M<|X (decide ((j.length:Int)<(N:Int))) false (YV J)<|sN O<|M<|ZV (.tuple #[.slice y.1 j.length y.2,Ok A n c F]) (λB o h=>⟨y,rfl,o,λuS uW T=>UE (show Y uS w.heap.size 3 1 y.1 j.length y.2 (j.map λz=>BH .i64 z)from h uS uW T) rfl⟩)
 |succ m=>
  have t:k9 ws m (Ms ws F).2 (j++ [(Ms ws F).1])=D:=t;have C:j.length+(m+1)=N:=C;obtain⟨a,uY⟩:∃a,a=Ms ws F:=⟨_,rfl⟩
  rw[<-uY]at t;refine M<|X (decide ((j.length:Int)<(N:Int))) true (YU J)<|tf (λB o h=>Qc c uY (vf.below o)) O λr=>s0 O (stop:=1000) 7 _<|H 2<|sO (Kw 65 1 #[(0,I a.1)]) (Kd 1) (Kr 3 #[I a.1]) O (λB o h=>Kb O) λS=>H 3<|sY (L:=bl y.1) (val:=λ(z:YZ)=> .slice z.1 (j.length+1) z.2) (Φ':=λ(z:YZ) v=>Y v w.heap.size 3 1 z.1 (j.length+1) z.2 ((j++ [a.1]).map λz=>BH .i64 z)) (G:=λ(z:YZ) v=>Y v w.heap.size 3 1 z.1 (j.length+1) z.2 ((j++ [a.1]).map λz=>BH .i64 z)) (Ln 65 65 (.slice y.1 j.length y.2) (Kd 1 S)) (λB o h=>cY h.1.1 o.size h.2 J) (λB h b ve=>⟨(Y.lt h.1.1 b ve).1,(Y.blk h.1.1 b ve).2⟩) (λz wa B e1 e2 h uV=>uV) O O λz=>M ?_
  have s:(j++ [a.1]).length=j.length+1:=Zs
  refine sM 8 (.slice z.1 (j.length+1) z.2) (.slice z.1 (j++ [a.1]).length z.2) O (by rw[s])<|sM 9 (I (YA.wrap ((j.length:Int)+1))) (I ((j++ [a.1]).length:Int)) O (by rw[s,Kc (n:=n) J J])<|sR (⟨((m,a.2,j++ [a.1]),z),t,by show(j++ [a.1]).length+m=N;omega⟩) O zo zt (λu h=>by show Y u w.heap.size 3 1 z.1 (j++ [a.1]).length z.2 ((j++ [a.1]).map λz=>BH .i64 z);rw[s];exact h)
end
end
section
--ATNAMES
section
variable{w:YN}{A:YY}{n c:Nat}{ws:WS}{x:Oj}{l k:R}{N:Nd}{q:ND}{B:Bool}
theorem No(o:Si w A n ws)(hi:x.i<=n):YG XW 147 #[Ya N q,Ok A n c x] w (K6 w (λq':ND=> .tuple #[Ya {N with sty:=(LA ws x).1,stroke:=[(G4 ws (LA ws x).2).1]} q',Ok A n c (G4 ws (LA ws x).2).2])
 λq' u=>cf N q u->cf {N with sty:=(LA ws x).1,stroke:=[(G4 ws (LA ws x).2).1]} q' u):=by
 have uR:=o.at_.1;obtain⟨a,G⟩:∃z,z=Ms ws x:=⟨_,rfl⟩
 obtain⟨j,v⟩:∃z,z=Oi ws jt a.2:=⟨_,rfl⟩
 obtain⟨k,F⟩:∃z,z=Oi ws mc j.2:=⟨_,rfl⟩
 obtain⟨m,vg⟩:∃z,z=Ms ws k.2:=⟨_,rfl⟩
 obtain⟨p,D⟩:∃z,z=Ms ws m.2:=⟨_,rfl⟩
 obtain⟨d,uS⟩:∃z,z=Je ws p.2:=⟨_,rfl⟩
 have e:LA ws x=(⟨a.1,j.1,k.1,m.1,d.1,p.1⟩,d.2):=by rw[uS,D,vg,F,v,G];rfl
 have L:p.2.i<=ws.length:=by rw[D,vg,F,v,G];exact Rh (Rh (Tj (Tj (Rh (x:=x) J))))
 rw[e];obtain⟨P,ve⟩:∃z,z=G4 ws d.2:=⟨_,rfl⟩
 rw[<-ve];refine sL func147 rfl<|M<|Z (λf b h=>Qc c G (o.below b)) λT=>Z (λf b h=>dI) λuU=>Z (λf b h=>S0 c 4 v (o.below b) h.2 Zd) λuZ=>Z (λf b h=>kF) λS=>Z (λf b h=>S0 c 6 F (o.below b) h.2 Zd) λQ=>Z (λf b h=>Qc c vg (o.below b)) λuY=>Z (λf b h=>Qc c D (o.below b)) λuW=>Z (λf b h=>MQ c uS (o.below b) J) λvf=>Z (λf b h=>NL c ve (o.below b)) λt=>sO (Kw 64 1 #[(0,U2 P.1 t)]) (Kd 1) (λg u=>Y u w.heap.size 49 40 (some ⟨g,0,none⟩) 1 1 (Uo P.1 t)) O (λf b h=>S7 (cells:=(Uo P.1 t).toArray) O b.size O Zd) λK=>M<|ZV (.tuple #[Ya {N with sty:=⟨a.1,j.1,k.1,m.1,d.1,p.1⟩,stroke:=[P.1]} {q with daA:=vf.1,dac:=vf.2,stA:=some ⟨K,0,none⟩,stc:=1,sl:=[(P.1,t)]},Ok A n c P.2]) (λf b h=>⟨_,rfl,b,λr C y s=>⟨⟨s.1.tr,s.1.cl,s.1.pa,s.1.fi,(h r C y).1.1.2,Il (h r C y).2 ((h r C y).1.2).rd,s.1.px⟩,s.2⟩⟩)
def rq(a b:R):Bool:=(⟨a.toArray⟩:ByteArray).toList==(⟨b.toArray⟩:ByteArray).toList
theorem jJ{a b:R}:rq a b=(a==b):=bR a b
theorem Xl{a b:R}(h:a=b):rq a b=true:=by rw[jJ];exact YQ.2 h
theorem TO{a b:R}(h:a≠b):rq a b=false:=by rw[jJ];exact YR.2 h
theorem Ar:Zv 36 #[E k] w (I (Ly k)):=by
 refine sL func36 rfl<|M ?_
 unfold Ly
 by_cases b:k=Y1
 .rw[YS b];exact X (rq k Y1) true (Xl b)<|ZW (I 1)
 rw[V b];refine X (rq k Y1) false (TO b) ?_
 by_cases e:k=Xq
 .rw[YS e];exact X (rq k Xq) true (Xl e)<|ZW (I 2)
 rw[V e];refine X (rq k Xq) false (TO e) ?_
 by_cases a:k=Zc
 .rw[YS a];exact X (rq k Zc) true (Xl a)<|ZW (I 3)
 rw[V a];exact X (rq k Zc) false (TO a)<|ZW (I 0)
def jP(a b:R)(kind:Int):Bool:=
 if (rq b []||rq a Lx)=true then rq b []&&rq a Lx
 else if Ly a>0 then Ly b==0
 else if rq a My=true then decide (Ly b>0)
 else if rq a Oy=true then rq b My
 else if rq a Qw=true then(kind==2)&&(rq b My||rq b Oy)
 else if rq a O8=true then(kind==2)&&((rq b My||rq b Oy)||rq b Qw)
 else false
theorem iF{a b:R}{kind:Int}:jP a b kind=Ye a b kind:=by
 have e:=Az b;unfold jP Ye;simp only[jJ,Bool.or_eq_true,YQ];split
 .rw[AY];simp
 split
 .rw[AY];simp
 split
 .rfl
 split
 .rw[AY];simp
 split
 .rw[AY];simp
 split
 .rw[AY];simp[or_assoc]
 .rfl
theorem ff{a b:R}{kind:Int}(t:Ye a b kind=B):Zv 33 #[E a,E b,I kind] w (.bool B):=by
 rw[<-iF]at t;subst t;unfold jP;refine sL func33 rfl<|H 3<|sT O 1000 1000 9 [10,11] 12 true (rq a Lx) ((rq b [])||(rq a Lx)) O O O (λ_=>O) Ov (λv=> ?_)
 by_cases p:(rq b []||rq a Lx)=true
 .rw[YS p];exact sQ (rq b []||rq a Lx) true O (p)<|H 3<|sT O 6 1000 15 [16,17] 18 (rq a Lx) false ((rq b [])&&(rq a Lx)) O O O (λ_=>O) M3 λy=>M<|ZW (.bool (rq b []&&rq a Lx))
 rw[V p];refine X (rq b []||rq a Lx) false (by simpa using p)<|Z (λs r h=>Ar (k:=a)) λu=> ?_
 by_cases j:Ly a>0
 .rw[YS j];exact X (decide (Ly a>0)) true (YU j)<|Z (λs r h=>Ar (k:=b)) λF=>ZW (.bool (Ly b==0))
 rw[V j];refine X (decide (Ly a>0)) false (YV j) ?_
 by_cases m:rq a My=true
 .rw[YS m];exact X (rq a My) true (m)<|Z (λs r h=>Ar (k:=b)) λF=>ZW (.bool (decide (Ly b>0)))
 rw[V m];refine X (rq a My) false (by simpa using m) ?_
 by_cases o:rq a Oy=true
 .rw[YS o];exact X (rq a Oy) true (o)<|ZW (.bool (rq b My))
 rw[V o];refine X (rq a Oy) false (by simpa using o) ?_
 by_cases g:rq a Qw=true
 .rw[YS g];refine sQ (rq a Qw) true O (g)<|H 3 ?_
  cases e:(kind==2)
  .exact ZT 39 (.bool (kind==2)) Zf (by rw[e])<|ZW Zf
  exact sM 39 (.bool (kind==2)) Zt O (by rw[e])<|H 6<|sT O 9 1000 42 [43,44] 45 true (rq b Oy) ((rq b My)||(rq b Oy)) O O O (λ_=>O) Ov λvg=>M<|ZW (.bool (rq b My||rq b Oy))
 rw[V g];refine X (rq a Qw) false (by simpa using g) ?_
 by_cases f:rq a O8=true
 .rw[YS f];refine sQ (rq a O8) true O (f)<|H 3 ?_
  cases e:(kind==2)
  .exact ZT 51 (.bool (kind==2)) Zf (by rw[e])<|ZW Zf
  exact sM 51 (.bool (kind==2)) Zt O (by rw[e])<|H 6<|sT O 9 1000 54 [55,56] 57 true (rq b Oy) ((rq b My)||(rq b Oy)) O O O (λ_=>O) Ov λD=>H 10<|sT O 13 1000 58 [59,60] 61 true (rq b Qw) ((rq b My||rq b Oy)||(rq b Qw)) O O O (λ_=>O) Ov λC=>M<|ZW (.bool ((rq b My||rq b Oy)||rq b Qw))
 rw[V f];exact X (rq a O8) false (by simpa using f)<|ZW Zf
theorem WI(c:Nat){r:Nd×Oj}(L:r=G5 N k ws x)(y:Si w A n ws)(hi:x.i<=n):YG XW 76 #[Ya N q,E k,Ok A n c x] w (K6 w (λq':ND=> .tuple #[Ya r.1 q',Ok A n c r.2]) λq' u=>r.2.syn=false->cf N q u->cf r.1 q' u):=by
 have Q:=y.at_.1;subst L;unfold G5;refine sL func76 rfl<|M ?_
 by_cases F:k=My
 .rw[YS F];obtain⟨t,et⟩:∃z,z=MB ws x:=⟨_,rfl⟩
  simp only[<-et];refine X (rq k My) true (Xl F)<|Z (λm f h=>by have t:=S6 (c:=c) (x:=x) (y.below f);rw[<-et]at t;exact t) λuZ=> ?_;refine ZV (.tuple #[Ya {N with T:=t.1} {q with t:=uZ},Ok A n c t.2]) (λm f h=>⟨_,rfl,f,λj v p o e=>by have k:=(h j v p).2;rw[o]at k;exact⟨⟨k.isA,e.1.cl,e.1.pa,e.1.fi,e.1.da,e.1.st,e.1.px⟩,.inr k.n⟩⟩)
 rw[V F];refine X (rq k My) false (TO F) ?_
 by_cases e:k=Oy
 .rw[YS e];obtain⟨a,K⟩:∃z,z=Oi ws ([]::M2) x:=⟨_,rfl⟩
  simp only[<-K];obtain⟨b,vf⟩:∃z,z=Cr ws a.2:=⟨_,rfl⟩
  simp only[<-vf];refine X (rq k Oy) true (Xl e)<|Z (λm f h=>GR) λs=>Z (λm f h=>S0 c 3 K (y.below f) h.2 Zd) λuY=>Z (λm f h=>FB c vf (y.below f)) λG=>ZV (.tuple #[Ya {N with crule:=a.1,clip:=b.1} {q with clA:=G.1,clc:=G.2},Ok A n c b.2]) (λm f h=>⟨_,rfl,f,λj v p o e=>⟨⟨e.1.tr,(h j v p).2,e.1.pa,e.1.fi,e.1.da,e.1.st,e.1.px⟩,e.2⟩⟩)
 rw[V e];refine X (rq k Oy) false (TO e) ?_
 by_cases D:k=Qw
 .rw[YS D];obtain⟨P,C⟩:∃z,z=G4 ws x:=⟨_,rfl⟩
  simp only[<-C];refine X (rq k Qw) true (Xl D)<|Z (λm f h=>NL c C (y.below f)) λvg=>sO (Kw 64 1 #[(0,U2 P.1 vg)]) (Kd 1) (λg u=>Y u w.heap.size 49 40 (some ⟨g,0,none⟩) 1 1 (Uo P.1 vg)) O (λm f h=>S7 (cells:=(Uo P.1 vg).toArray) O f.size O Zd) λuR=>M<|ZV (.tuple #[Ya {N with fill:=[P.1]} {q with fiA:=some ⟨uR,0,none⟩,fic:=1,fl:=[(P.1,vg)]},Ok A n c P.2]) (λm f h=>⟨_,rfl,f,λj v p o e=>⟨⟨e.1.tr,e.1.cl,e.1.pa,Il (h j v p).2 ((h j v p).1.2).rd,e.1.da,e.1.st,e.1.px⟩,e.2⟩⟩)
 rw[V D];refine X (rq k Qw) false (TO D) ?_;obtain⟨s,uS⟩:∃z,z=LA ws x:=⟨_,rfl⟩
 simp only[<-uS];obtain⟨P,C⟩:∃z,z=G4 ws s.2:=⟨_,rfl⟩
 simp only[<-C];refine Z (λm f h=>by have t:=No (c:=c) (N:=N) (q:=q) (x:=x) (y.below f) hi;rw[<-uS,<-C]at t;exact t) λve=> ?_;refine ZV (.tuple #[Ya {N with sty:=s.1,stroke:=[P.1]} ve,Ok A n c P.2]) (λm f h=>⟨ve,rfl,f,λj v p o e=>(h j v p).2 e⟩)
def er(p m:YZ):ND:=⟨I0,none,0,p.1,p.2,none,0,[],none,0,none,0,[],m.1,m.2⟩
theorem cW(z:Int):((BP (z%256).toNat).toNat:Int)=XX.wrap z:=by
 rw[IntKind.wrap_u8];simp;omega
theorem WF(c:Nat){r:Nd×Oj}{uS:Int}(W:uS=1\/uS=2\/uS=3)(ve:r=Y0 uS ws x)(j:Si w A n ws):YG XW 75 #[Ok A n c x,I uS] w (K6 w (λq:ND=> .tuple #[Ya r.1 q,Ok A n c r.2]) λq u=>cf r.1 q u):=by
 obtain⟨i,vg⟩:∃z,z=Ms ws x:=⟨_,rfl⟩
 obtain⟨d,C⟩:∃z,z=Ms ws i.2:=⟨_,rfl⟩
 rcases W with rfl|rfl|rfl
 .obtain⟨o,uY⟩:∃z,z=Ms ws d.2:=⟨_,rfl⟩
  obtain⟨B,uZ⟩:∃B,B=(decide (o.1<0)||decide (o.1>255)):=⟨_,rfl⟩
  obtain⟨m,D⟩:∃z,z=Oi ws ([]::Lr) ⟨o.2.i,o.2.syn,B||o.2.rng⟩:=⟨_,rfl⟩
  obtain⟨a,y⟩:∃z,z=Oi ws [[48],[49]] m.2:=⟨_,rfl⟩
  obtain⟨b,uR⟩:∃z,z=Oi ws [[48],[49]] a.2:=⟨_,rfl⟩
  have e:Y0 1 ws x=({Cv with id:=i.1,kind:=1,dep:=d.1,op:=BP (o.1%256).toNat,bl:=m.1,iso:=decide (a.1=1),ko:=decide (b.1=1)},b.2):=by
   have uT:gF ws d.2=(BP (o.1%256).toNat,⟨o.2.i,o.2.syn,B||o.2.rng⟩):=by
    rw[uZ,Bool.or_comm];unfold gF;rw[<-uY];simp only[Bool.decide_or]
   unfold Y0 lc;simp only[<-vg,<-C,uT,<-D,<-y,<-uR,if_true]
  rw[ve,e];refine sL func75 rfl<|M<|Z (λg f h=>Qc c vg (j.below f)) λP=>Z (λg f h=>Qc c C (j.below f)) λS=>ZI true<|tf (λg f h=>Qc c uY (j.below f)) O λuo=>s0 O (stop:=1000) 7 _<|H 3<|sT O 1000 1000 46 [47,48] 49 true (decide (o.1>255)) ((decide (o.1<0))||(decide (o.1>255))) O O O (λ_=>O) Ov λuV=>sM 49 (.bool (decide (o.1<0)||decide (o.1>255))) (.bool B) O (by rw[uZ]) ?_
  clear uZ e;cases B
  .refine ZI false<|Z (λg f h=>RT) λs=>Z (λg f h=>S0 c s.2 D (j.below f) h.2 Zd) λvf=>sO (Kw 53 2 #[(0,E [48]),(1,E [49])]) (Kd 2) (Kr 9 #[E [48],E [49]]) O (λg f h=>Kb O) λuU=>M<|Z (λg f h=>S0 c 2 y (j.below f) (Lh (L:=[[48],[49]]) h.2 rfl) Zd) λK=>sO (Kw 53 2 #[(0,E [48]),(1,E [49])]) (Kd 2) (Kr 9 #[E [48],E [49]]) O (λg f h=>Kb O) λT=>M<|Z (λg f h=>S0 c 2 uR (j.below f) (Lh (L:=[[48],[49]]) h.2 rfl) Zd) λuW=>ZV (.tuple #[.agg ((Yb {Cv with id:=i.1,kind:=1,dep:=d.1,bl:=m.1,iso:=a.1==1,ko:=b.1==1} (er (none,0) (none,0))).set 29 (.int .u8 (XX.wrap o.1))).toArray,Ok A n c b.2]) (λg f h=>⟨er (none,0) (none,0),by rw[<-cW];rfl,f,λv G F=>Js.nrd ⟨rfl,rfl,rfl,rfl,rfl⟩ tT tH⟩)
  .refine ZI true<|Z (λg f h=>RT) λs=>Z (λg f h=>S0 c s.2 D (j.below f) h.2 Zd) λvf=>sO (Kw 53 2 #[(0,E [48]),(1,E [49])]) (Kd 2) (Kr 9 #[E [48],E [49]]) O (λg f h=>Kb O) λuU=>M<|Z (λg f h=>S0 c 2 y (j.below f) (Lh (L:=[[48],[49]]) h.2 rfl) Zd) λK=>sO (Kw 53 2 #[(0,E [48]),(1,E [49])]) (Kd 2) (Kr 9 #[E [48],E [49]]) O (λg f h=>Kb O) λT=>M<|Z (λg f h=>S0 c 2 uR (j.below f) (Lh (L:=[[48],[49]]) h.2 rfl) Zd) λuW=>ZV (.tuple #[.agg ((Yb {Cv with id:=i.1,kind:=1,dep:=d.1,bl:=m.1,iso:=a.1==1,ko:=b.1==1} (er (none,0) (none,0))).set 29 (.int .u8 (XX.wrap o.1))).toArray,Ok A n c b.2]) (λg f h=>⟨er (none,0) (none,0),by rw[<-cW];rfl,f,λv G F=>Js.nrd ⟨rfl,rfl,rfl,rfl,rfl⟩ tT tH⟩)
 .obtain⟨a,y⟩:∃z,z=Oi ws ([]::M2) d.2:=⟨_,rfl⟩
  obtain⟨p,Q⟩:∃z,z=Cr ws a.2:=⟨_,rfl⟩
  have e:Y0 2 ws x=({Cv with id:=i.1,kind:=2,dep:=d.1,frule:=a.1,path:=p.1},p.2):=by rw[Q,y,C,vg];rfl
  rw[ve,e];refine sL func75 rfl<|M<|Z (λg f h=>Qc c vg (j.below f)) λP=>Z (λg f h=>Qc c C (j.below f)) λS=>ZI false<|ZI true<|Z (λg f h=>GR) λs=>Z (λg f h=>S0 c 3 y (j.below f) h.2 Zd) λK=>Z (λg f h=>FB c Q (j.below f)) λuX=>ZV (.tuple #[Ya {Cv with id:=i.1,kind:=2,dep:=d.1,frule:=a.1,path:=p.1} (er uX (none,0)),Ok A n c p.2]) (λg f h=>⟨_,rfl,f,λv G F=>Js.nrd ⟨rfl,rfl,rfl,rfl,rfl⟩ (h v G F).2 tH⟩)
 .obtain⟨a,y⟩:∃z,z=Oi ws ([]::Ng) d.2:=⟨_,rfl⟩
  obtain⟨m,D⟩:∃z,z=cS ws a.2:=⟨_,rfl⟩
  have e:Y0 3 ws x=({Cv with id:=i.1,kind:=3,dep:=d.1,samp:=a.1,im:=m.1},m.2):=by rw[D,y,C,vg];rfl
  rw[ve,e];refine sL func75 rfl<|M<|Z (λg f h=>Qc c vg (j.below f)) λP=>Z (λg f h=>Qc c C (j.below f)) λS=>ZI false<|ZI false<|Z (λg f h=>Yk) λs=>Z (λg f h=>S0 c 3 y (j.below f) h.2 Zd) λK=>Z (λg f h=>by have t:=Iy (c:=c) (x:=a.2) (j.below f);rw[<-D]at t;exact t) λvf=>ZV (.tuple #[Ya {Cv with id:=i.1,kind:=3,dep:=d.1,samp:=a.1,im:=m.1} (er (none,0) vf),Ok A n c m.2]) (λg f h=>⟨_,rfl,f,λv G F=>Js.nrd ⟨rfl,rfl,rfl,rfl,rfl⟩ tT (Y.rowA Qo rfl (h v G F).2)⟩)
end
end
section
--ATNAMES
structure lN(W w:YN)(L:List Nat)(u:YN):Prop where
 sz:w.heap.size<=u.heap.size
 fr:∀b,W.heap.size<=b->b<w.heap.size->b∉L->u.heap[b]? =w.heap[b]?
section
variable{W w u wa w1:YN}{L:List Nat}{n c m B uR:Nat}{A:YY}{y:YZ}{Ls:List (Nd×ND)}{S:Sc}{k:R}{ws:WS}{N:Nd}{q:ND}
theorem lN.left(h:lN W w L wa)(e:wa.heap.size=u.heap.size)(g:∀b,b∉L->wa.heap[b]? =u.heap[b]?):lN W w L u:=⟨by rw[<-e];exact h.sz,λb f j a=>(g b a).symm.trans (h.fr b f j a)⟩
theorem lN.post{uX:Type}{val:uX->YM}{G:uX->YN->Prop}(h:lN W w L w1)(x:uX)(e:Below W.heap.size W w)(g:Below W.heap.size W w1)
 (o:∀a,w1.heap.size<=a.heap.size->(∀b,b∈L\/(w.heap.size<=b/\b<w1.heap.size)->a.heap[b]? =w1.heap[b]?)->G x a):Ni w L val G (.returned (val x)) w1:=
 ⟨x,rfl,⟨g.os.trans e.os.symm,g.tape.trans e.tape.symm,g.output.trans e.output.symm,h.sz,λk l j=>by
  rcases AW k W.heap.size with f|f
  .rw[g.block k f,e.block k f]
  .exact h.fr k f l j⟩,o⟩
structure sB(B:Nat)(uY:Nat->Prop)(y:YZ)(L:List (Nd×ND))(nds:List Nd)(x:YL×(Nat->Prop))(u:YN):Prop where
 row:Y u B 69 47 x.1.1.1 x.1.2.length x.1.1.2 (Sz x.1.2)
 eq:x.1.2.map (·.1)=nds
 hd:Lz x.2 (λv=>Zg L v->Zg x.1.2 v) u
 bl:∀b∈Go.Proofs.YtnmokookhcgklaaGreatDoor.bl x.1.1.1,b∈Go.Proofs.YtnmokookhcgklaaGreatDoor.bl y.1\/uY b
 ap:∀b,x.2 b->b∉Go.Proofs.YtnmokookhcgklaaGreatDoor.bl x.1.1.1
 nw:∀b,x.2 b->uY b
 z:x.1.2=[]->x.1.1.1=none
abbrev aB(S:Sc)(m:Nat)(y:YZ):YM:= .agg #[I S.w,I S.h,.int .u8 (S.bg.1.toNat:Int),.int .u8 (S.bg.2.1.toNat:Int),.int .u8 (S.bg.2.2.1.toNat:Int),.int .u8 (S.bg.2.2.2.toNat:Int),.slice y.1 m y.2]
theorem ic{L:List (Nd×ND)}(h:(L++ [(N,q)]).map (·.1)=S.nds):SS S=N:=by
 unfold SS;rw[<-h];simp
theorem TN{uY:Nat->Prop}(hQ:∀b,w.heap.size<=b->uY b)(c:Nat){r:Sc×Oj}(hr:r=O6 S k (k::ws))(vg:Below W.heap.size W w)(vf:Si w A n (k::ws))(hE:Ls.map (·.1)=S.nds)(hm:Ls.length=m)(D:Y w W.heap.size 69 47 y.1 m y.2 (Sz Ls))(hN:Zg Ls w)(hmm:m<1000000)(hp:k=Lx\/0<Ly k\/Ls≠[]):
 YG XW 34 #[aB S m y,Ok A n c ⟨0,false,false⟩] w (Ni w (bl y.1) (λx:YL×(Nat->Prop)=> .tuple #[aB r.1 r.1.nds.length x.1.1,Ok A n c r.2]) λx u=>r.2.syn=false->sB W.heap.size uY y Ls r.1.nds x u):=by
 have hln:(k::ws).length=n:=vf.at_.1;have hn1:1<=n:=by rw[<-hln];simp
 obtain⟨ad,hA,hc0⟩:=vf.at_.2 0 k rfl;obtain⟨F,uT⟩:∃F,F=λu=>lN W w (bl y.1) u/\(∀b,b<w.heap.size->W.heap.size<=b->u.heap[b]? =w.heap[b]?):=⟨_,rfl⟩
 have T:∀{u:YN},F u->lN W w (bl y.1) u:=λh=>by rw[uT]at h;exact h.1
 have C:∀{w1:YN},Below W.heap.size W w1->F w1->Below w.heap.size w w1:=λg h=>by
  rw[uT]at h;exact⟨g.os.trans vg.os.symm,g.tape.trans vg.tape.symm,g.output.trans vg.output.symm,h.1.sz,λb f=>by
   rcases AW b W.heap.size with Q|Q
   .rw[g.block b Q,vg.block b Q]
   .exact h.2 b f Q⟩
 have hOw:∀{u:YN},F u->∀b∈bl y.1,W.heap.size<=b/\∃xs ty own,u.heap[b]? =some (.cells xs ty own):=λh b f=>by
  rw[uT]at h;obtain⟨Q,xs,ty,own,hx⟩:=D.blk b f;exact⟨Q,xs,ty,own,(h.2 b (D.lt b f).2 Q).trans hx⟩
 refine ts func34 rfl vg (tQ (Φ':=F) (λu h=>by rw[uT];exact⟨⟨h.1,λb p s _=>h.2 b p s⟩,λb p s=>h.2 b s p⟩) ?_);clear uT;refine M<|ZA (Ki 53 (.slice A n c) (0:Nat)) (.pointer (some (ad.add 0))) (λw1 g h=>by rw[hA];exact Kg (elem:=9) O O hn1)<|ZA (L4 9 (ad.add 0)) (E k) (λw1 g h=>K9 O (La (C g h) hc0)) ?_
 by_cases p:k=Lx
 .obtain⟨a,ea⟩:∃z,z=Ms (k::ws) ⟨1,false,false⟩:=⟨_,rfl⟩
  obtain⟨b,eb⟩:∃z,z=Ms (k::ws) a.2:=⟨_,rfl⟩
  obtain⟨d,ed⟩:∃z,z=Sd (k::ws) b.2:=⟨_,rfl⟩
  have e:r=(⟨a.1,b.1,d.1,[]⟩,d.2):=by rw[hr,ed,eb,ea];unfold O6;rw[YS p]
  subst e;exact X (rq k Lx) true (Xl p)<|Z (λw1 g h=>Qc c ea (vf.below (C g h))) λua=>Z (λw1 g h=>Qc c eb (vf.below (C g h.1))) λub=>Z (λw1 g h=>by have t:=Cf (c:=c) (x:=b.2) (vf.below (C g h.1.1));rw[<-ed]at t;exact t) λud=>ZV (.tuple #[aB ⟨a.1,b.1,d.1,[]⟩ 0 (none,0),Ok A n c d.2]) λw1 g h=>(T (h w1 (AI _) λ_ _ _=>rfl).1.1.1).post (((none,0),[]),λ_=>False) vg g λ_ _ _ _=>⟨s_,rfl,tP (λv _ x hx=>by cases hx),(λb f=>by cases f),λb f=>f.elim,λb f=>f.elim,λ_=>rfl⟩
 refine X (rq k Lx) false (TO p)<|Z (λw1 g h=>Ar (k:=k)) λu=> ?_
 by_cases s:Ly k>0
 .obtain⟨z,ez⟩:∃z,z=Y0 (Ly k) (k::ws) ⟨1,false,false⟩:=⟨_,rfl⟩
  have e:r=({S with nds:=S.nds++ [z.1]},z.2):=by rw[hr,ez];unfold O6;rw[V p,YS s]
  subst e;have K:(S.nds++ [z.1]).length=m+1:=by rw[AE,<-hE,AQ,hm];rfl
  show K0 _ _ _ (bodyPost _ _ (Ni w (bl y.1) (λx:YL×(Nat->Prop)=> .tuple #[aB _ (S.nds++ [z.1]).length x.1.1,_]) _)) _ _;rw[K];refine X (decide (Ly k>0)) true (YU s)<|Z (λw1 g h=>Ar (k:=k)) λu2=>Z (λw1 g h=>(WF c (Ql s) ez (vf.below (C g h.1.1))).mono λe w' t=>t.held (uY:=λb=>w.heap.size<=b) λb f=>AC (T h.1.1).sz f) λnd=>sO (Kw 25 1 #[(0,Ya z.1 nd.1.1)]) (Kd 1) (Kr 69 (Yb z.1 nd.1.1).toArray) O (λw1 g h=>Kb O) λgb=>H 4<|sY (L:=bl y.1) (val:=λ(o:YZ)=> .slice o.1 (m+1) o.2) (Φ':=λ(o:YZ) u=>lN W w (bl y.1) u/\Y u W.heap.size 69 47 o.1 (m+1) o.2 (Sz Ls++Yb z.1 nd.1.1)/\Lz nd.1.2 (λv=>cf z.1 nd.1.1 v) u/\(∀b∈bl o.1,b∈bl y.1\/w.heap.size<=b)/\∀b,nd.1.2 b->b∉bl o.1) (G:=λ(o:YZ) u=>Y u W.heap.size 69 47 o.1 (m+1) o.2 (Sz Ls++Yb z.1 nd.1.1)/\(∀b∈bl o.1,b∈bl y.1\/w.heap.size<=b)/\∀b,nd.1.2 b->b∉bl o.1) (Ln 25 25 (.slice y.1 m y.2) (Kd 1 gb))
   (λw1 g h=>QW (D.below (C g h.1.1.1.1)) g.size h.2 hmm O λo hz=>⟨λb f=>(hz b f).imp id (AC (T h.1.1.1.1).sz),λb f ve=>(hz b ve).elim (λk=>by have:=(D.lt b k).2;have:=nd.2 b f;omega) λk=>by have:=h.1.2.lt b f;omega⟩)
   (λu h=>hOw h.1.1.1.1)
   (λo wa u uU uX h hG=>⟨(T h.1.1.1.1).left uU uX,hG.1,h.1.2.left uU uX (λb f ve=>by have:=(D.lt b ve).2;have:=nd.2 b f;omega),hG.2⟩) O O (λo=> ?_)
  refine M<|ZV (.tuple #[aB {S with nds:=S.nds++ [z.1]} (m+1) o,Ok A n c z.2]) (λw1 g h=> ?_)
  have k:=h w1 (AI _) (λ_ _ _=>rfl);refine k.1.post (((o,Ls++ [(z.1,nd.1.1)]),nd.1.2):YL×(Nat->Prop)) vg g λuZ k1 uW _=>⟨?_,by rw[AP,hE];rfl,(k.2.2.1.to k1 λb f=>uW b (.inr ⟨nd.2 b f,k.2.2.1.lt b f⟩)).imp λv hv hL=>hL.snoc hv,λb f=>(k.2.2.2.1 b f).imp id (hQ b),k.2.2.2.2,λb f=>hQ b (nd.2 b f),λe=>by simp at e⟩
  show Y uZ W.heap.size 69 47 o.1 (Ls++ [(z.1,nd.1.1)]).length o.2 (Sz (Ls++ [(z.1,nd.1.1)]));rw[AE,Tf,hm];exact k.2.1.same λb f=>uW b ((k.2.2.2.1 b f).imp id λx=>⟨x,(k.2.1.lt b f).2⟩)
 refine sQ (decide (Ly k>0)) false O (YV s)<|H 4 ?_
 obtain⟨L1,⟨N,q⟩,rfl⟩:∃L1 x,Ls=L1++ [x]:=by
  rcases List.eq_nil_or_concat Ls with h|⟨L1,x,h⟩
  .exact absurd h (hp.resolve_left p |>.resolve_left s)
  .exact⟨L1,x,by simpa using h⟩
 obtain rfl:m=L1.length+1:=by rw[<-hm];simp
 obtain⟨yA,yc⟩:=y;obtain⟨l,hg,_⟩:=Y.cells D (Nat.succ_pos _);have hg:yA=some ⟨l,0,none⟩:=hg;subst hg;have uV:I1 W l yc L1 N q w:=by rw[Tf]at D;exact D
 have hgl:W.heap.size<=l/\l<w.heap.size:=D.lt l (by simp[bl]);obtain⟨z,ez⟩:∃z,z=G5 N k (k::ws) ⟨1,false,false⟩:=⟨_,rfl⟩
 have e:r=({S with nds:=R0 S.nds z.1},z.2):=by rw[hr,ez];unfold O6;rw[V p,V s,ic hE]
 subst e;have uS:R0 S.nds z.1=L1.map (·.1)++ [z.1]:=by rw[<-hE,AP];exact Zz
 have K:(R0 S.nds z.1).length=L1.length+1:=by rw[uS];simp
 show K0 _ _ _ (bodyPost _ _ (Ni w [l] (λx:YL×(Nat->Prop)=> .tuple #[aB _ (R0 S.nds z.1).length x.1.1,_]) _)) _ _;rw[K];refine ZT 66 (I (YA.wrap (((L1.length+1:Nat):Int)-1))) (I (L1.length:Int)) (by rw[AN _ J];congr 1;omega)<|ZA (Ki 25 (.slice (some ⟨l,0,none⟩) (L1.length+1) yc) L1.length) (Zq l (L1.length*47)) (λw1 g h=>Me (elem:=69) O O J)<|ZA (L4 69 ⟨l,L1.length*47,none⟩) (Ya N q) (λw1 g h=>Xt λj v hj=>by rw[Addr.add_mid];exact EX (Y.below uV (C g h.1)) hj)<|Z (λw1 g h=>(WI (q:=q) c ez (vf.below (C g h.1)) hn1).mono λe w' t=>t.held (uY:=λb=>w.heap.size<=b) λb f=>AC (T h.1).sz f) λnd=>ZA (Ki 25 (.slice (some ⟨l,0,none⟩) (L1.length+1) yc) L1.length) (Zq l (L1.length*47)) (λw1 g h=>Me (elem:=69) O O J)<|s8 (L:=[l]) (G:=I1 W l yc L1 z.1 nd.1.1) (Φ':=λu=>lN W w [l] u/\I1 W l yc L1 z.1 nd.1.1 u/\Lz nd.1.2 (λv=>z.2.syn=false->cf N q v->cf z.1 nd.1.1 v) u) (Uk 69 ⟨l,L1.length*47+0,none⟩ (Ya z.1 nd.1.1)) (λw1 g h=>I1.set (W:=W) (N:=N) (q:=q) (N':=z.1) (q':=nd.1.1) (P:=XW) (t:=69) (d:=0) (v:=Ya z.1 nd.1.1) (Y.below uV (C g h.1.1)) O (AK O) O O) (λu h=>hOw h.1.1) (λwa u uU uX h hG=>⟨(T h.1.1).left uU uX,hG,h.2.left uU uX (λb f ve=>by have:=nd.2 b f;simp at ve;omega)⟩) O O<|M<|ZV (.tuple #[aB {S with nds:=R0 S.nds z.1} (L1.length+1) (some ⟨l,0,none⟩,yc),Ok A n c z.2]) (λw1 g h=> ?_)
 have k:=h w1 (AI _) (λ_ _ _=>rfl);refine k.1.post ((((some ⟨l,0,none⟩,yc),L1++ [(z.1,nd.1.1)]),nd.1.2):YL×(Nat->Prop)) vg g λuZ k1 uW hsy=>⟨?_,by rw[AP];exact uS.symm,(k.2.2.to k1 λb f=>uW b (.inr ⟨nd.2 b f,k.2.2.lt b f⟩)).imp λv hv hL=> ?_,λb f=> .inl f,λb f ve=>by have:=nd.2 b f;simp[bl]at ve;omega,λb f=>hQ b (nd.2 b f),λe=>by simp at e⟩
 .show Y uZ W.heap.size 69 47 (some ⟨l,0,none⟩) (L1++ [(z.1,nd.1.1)]).length yc (Sz (L1++ [(z.1,nd.1.1)]));rw[AE,Tf];exact Y.same k.2.1 λb f=>uW b (.inl f)
 .exact Zg.snoc (λx hx=>hL x (by simp[hx])) (hv hsy (hL (N,q) Zs))
end
end
section
--ATNAMES
section
variable{w:YN}{A:YY}{n cl:Nat}{ls:WS}{l:R}
def MT(l:R):WS:=if Rq (Kt l)=true then Al (Kt l)else []
def l9(l:R):Int:=if Rq (Kt l)=true then 0 else 3
theorem mx{u:YN}{A:YY}{n:Nat}{s:R}{ws:WS}(h:Km u A n (s::ws)):∀b∈bl A,∃cs ty own,u.heap[b]? =some (.cells cs ty own):=λb c=>by
 obtain⟨ad,f,a⟩:=h.2 0 s rfl;rw[f]at c;obtain rfl:b=ad.block:=by simpa[bl]using c
 unfold BM at a;split at a
 .rename_i cs ty own e;exact⟨cs,ty,own,e⟩
 .cases a
theorem rl{LL:List Nat}(r:l.length<=10000)(B:∀b∈LL,b<w.heap.size):YG XW 32 #[E l] w (K6 w (λy:(YZ)×Int=> .tuple #[.slice y.1.1 (MT l).length y.1.2,I y.2,I (l9 l)]) λy u=>Km u y.1.1 (MT l).length (MT l)/\(MT l≠[]->∀b∈bl y.1.1,b∉LL)):=by
 unfold MT l9
 by_cases p:Rq (Kt l)=true
 .simp only[YS p];refine(qR p r).mono λe x h=> ?_
  cases f:Al (Kt l)with
  |nil=>
   rw[f]at h;obtain⟨y,g,c,o⟩:=h;exact⟨(y,0),g,c,λa m j=>⟨o a m j,λh=>absurd rfl h⟩⟩
  |cons s ws=>
   rw[f]at h;obtain⟨y,g,c,o⟩:=h.fresh (λy=>bl y.1) λy u k=>mx k
   exact⟨(y.1,0),g,c,λa m j=>⟨(o a m j).1,λ_ b C t=>by have:=((o a m j).2.1 b C).1;have:=B b t;omega⟩⟩
 .simp only[V p];refine(ri (by simpa using p) r).mono λe x h=> ?_
  obtain⟨y,g,c,_⟩:=h;exact⟨((none,0),_),g,c,λ_ _ _=>⟨⟨rfl,λk s v=>by cases v⟩,λh=>absurd rfl h⟩⟩
theorem To{L:qn}{i:Nat}{r:List R}:Sr n L i (l::r)=match MT l with
 | []=>(L.S,i,L.far)
 |k::ws=>if Ye k L.bf (Ts L.S)=true/\(O6 L.S k (k::ws)).2.syn=false/\(O6 L.S k (k::ws)).2.i=ws.length+1 then
  Sr n ⟨(O6 L.S k (k::ws)).1,k,if (O6 L.S k (k::ws)).2.rng=true/\n<L.far then i else L.far⟩ (i+1) r
  else(L.S,i,L.far):=by
 rw[Sr];unfold MT
 by_cases h:Rq (Kt l)=true
 .rw[YS h,YS h];cases Al (Kt l)<;>rfl
 .rw[V h,V h]
theorem e9{a b:R}{z:Int}(h:Ye a b z=true):a=Lx\/0<Ly a\/(b≠[]/\b≠Lx):=by
 by_cases e:a=Lx
 .exact .inl e
 by_cases f:0<Ly a
 .exact .inr (.inl f)
 refine .inr (.inr ?_);unfold Ye at h
 by_cases c:b=[]
 .rw[YS (.inl c)]at h;simp[e]at h
 refine⟨c,λg=> ?_⟩;rw[V (by simp[e,c]),V f,g]at h;revert h;split
 .exact λh=>absurd h Zd
 split
 .exact λh=>absurd h Zd
 split
 .exact λh=>by have:=YP h;exact absurd this.2 Zd
 split
 .exact λh=>by have:=YP h;exact absurd this.2 Zd
 .exact λh=>by cases h
theorem ge{S:Sc}(h:S.nds=[]):Ts S=0:=by unfold Ts;rw[h];rfl
theorem aa{S:Sc}{L:List (Nd×ND)}{N:Nd}{q:ND}(h:(L++ [(N,q)]).map (·.1)=S.nds):Ts S=N.kind:=by
 unfold Ts;rw[<-h];simp
theorem ep{S:Sc}{k:R}{ws:WS}:(O6 S k ws).1.nds.length<=S.nds.length+1:=by
 unfold O6;simp only;split
 .exact AG _
 split
 .simp
 .exact Dg
theorem j8{S:Sc}{k:R}{ws:WS}(h:k≠Lx):(O6 S k ws).1.nds≠[]:=by
 unfold O6;simp only[V h];split
 .simp
 .exact Ig
def sm:List Nat:=[38,39,40,41,42,43,44,45,46]
theorem SL{Q:Sc×Nat×Nat}(hQ:Q=Sr n ⟨Gs,[],n+1⟩ 0 ls)(hl:Km w A n ls)(hn:n<=100000)(hlen:∀l∈ls,l.length<=6000):
 YG XW 14 #[.slice A n cl] w (K6 w (λx:PX=> .tuple #[W3 Q.1 x.1,I Q.2.1,I Q.2.2]) λx u=>n<Q.2.1->Vs u x.1.1 x.2 125 Q.1.nds/\Q.1.nds.length<=x.1.2/\Zg x.2 u):=by
 have hln:ls.length=n:=hl.1;refine sL func14 rfl<|M<|sM 6 (I (YA.wrap ((n:Int)+1))) (I ((n+1:Nat):Int)) O (by rw[AN _ J];rfl)<|sU (ι:={q:(Nat×qn)×(YL×(Nat->Prop)) // q.1.1<=n/\Sr n q.1.2 q.1.1 (ls.drop q.1.1)=Q/\q.2.1.2.map (·.1)=q.1.2.S.nds/\q.2.1.2.length<=q.1.1/\(q.1.2.bf=[]\/q.1.2.bf=Lx\/q.2.1.2≠[])/\(∀b,q.2.2 b->b∉bl q.2.1.1.1)/\q.1.2.far<=n+1}) 104 (λq=>⟨[(0,.v (.slice A n cl)),(2,.p 2 0),(5,.p 5 0),(6,.v (I (q.1.1.2.far:Int))),(7,.v (E q.1.1.2.bf)),(8,.v (I (q.1.1.1:Int)))],[(2,[.v (I 0),.v (I 0),.v (.int .u8 0),.v (.int .u8 0),.v (.int .u8 0),.v (.int .u8 0),.v (.slice none 0 0)]),(5,(eK q.1.1.2.S q.1.2.1.1).map .v)]⟩) (λq u=>Y u w.heap.size 69 47 q.1.2.1.1.1 q.1.2.1.2.length q.1.2.1.1.2 (Sz q.1.2.1.2)/\Lz q.1.2.2 (Zg q.1.2.1.2) u) (λq=>n-q.1.1.1) (⟨((0,⟨Gs,[],n+1⟩),(((none,0),[]),λ_=>False)),AG _,hQ.symm,rfl,AI _,.inl rfl,λb G=>G.elim,AI _⟩) O (λ_=>O) zt (λu h=>⟨s_,tP λv x T=>by cases T⟩) ?_
 rintro⟨⟨⟨i,⟨S,bf,far⟩⟩,⟨⟨y,Ls⟩,Sg⟩⟩,D⟩ gg;have hi:i<=n:=D.1;have a:Sr n ⟨S,bf,far⟩ i (ls.drop i)=Q:=D.2.1;have hE:Ls.map (·.1)=S.nds:=D.2.2.1
 have hLi:Ls.length<=i:=D.2.2.2.1;have hbf:bf=[]\/bf=Lx\/Ls≠[]:=D.2.2.2.2.1;have uX:∀b,Sg b->b∉bl y.1:=D.2.2.2.2.2.1;have hfar:far<=n+1:=D.2.2.2.2.2.2;have uW:Ls.length=S.nds.length:=by rw[<-hE,AQ]
 by_cases uR:i<n
 case neg=>
  obtain rfl:i=n:=J
  rw[List.drop_of_length_le J,Sr]at a;refine M<|X (decide ((i:Int)<(i:Int))) false Zs<|sN O<|M<|Z (λj g h=>Ar (k:=bf)) λu=> ?_
  by_cases uS:0<Ly bf
  .rw[YS uS]at a;subst a;refine X (decide (Ly bf>0)) true (YU uS)<|ZV (.tuple #[W3 S y,I (i:Int),I (far:Int)]) (λj g h=>⟨(y,Ls),rfl,g,λ_ _ _ h=>absurd h (Nat.lt_irrefl _)⟩)
  .rw[V uS]at a;subst a;refine X (decide (Ly bf>0)) false (YV uS)<|ZV (.tuple #[W3 S y,I (YA.wrap ((i:Int)+1)),I (far:Int)]) (λj g h=>⟨(y,Ls),by rw[AN _ J];rfl,g,λw'' k1 k2 _=>by have k:=(h w'' k1 k2).1;exact⟨⟨hE,Y.rowA (cl:=λx=>Yb x.1 x.2) (λ_=>O) uW (uW▸k.1),λx T=>(k.2.get x T).1⟩,Y.cap (uW▸k.1),k.2.get⟩⟩)
 obtain⟨l,T⟩:∃l,ls[i]? =some l:=⟨_,AD J⟩
 obtain⟨ad,hA,o⟩:=hl.2 i l T;have hll:=hlen l (AH T);rw[Jb T,To]at a;have no:∀j:YN,Below w.heap.size w j->Q=(S,i,far)->K6 w (λx:PX=> .tuple #[W3 Q.1 x.1,I Q.2.1,I Q.2.2]) (λx u=>n<Q.2.1->Vs u x.1.1 x.2 125 Q.1.nds/\Q.1.nds.length<=x.1.2/\Zg x.2 u) (.returned (.tuple #[W3 S y,I (i:Int),I (far:Int)])) j:=λj g e=>by
  subst e;exact⟨(y,Ls),rfl,g,λ_ _ _ h=>absurd h (by show¬n<i;omega)⟩
 refine M<|X (decide ((i:Int)<(n:Int))) true Zp<|ZA (Ki 53 (.slice A n cl) i) (.pointer (some (ad.add i))) (λj g h=>by rw[hA];exact Kg (elem:=9) O O uR)<|ZA (L4 9 (ad.add i)) (E l) (λj g h=>K9 O (La g o))<|Z (λj g h=>rl (LL:=bl y.1) (l:=l) J (λb G=>(Y.lt h.1 b G).2)) λy9=> ?_
 obtain⟨⟨K,ac⟩,ix⟩:=y9;obtain⟨F,vf⟩:∃F,F=MT l:=⟨_,rfl⟩
 obtain⟨vg,uT⟩:∃vg,vg=l9 l:=⟨_,rfl⟩
 rw[<-vf,<-uT];rw[<-vf]at a;refine tU (λ(x:Nat->AV) c=>P5 sm x (Ma 12 (I (Ts S)) (M1 XW 3 1000 (Em false c)))) (λkk=> ?_) (λxj=> ?_)
 .by_cases h0:Ls=[]
  .have uV:S.nds=[]:=by rw[<-hE,h0];rfl
   exact sQ (decide ((S.nds.length:Int)>0)) false O (by rw[uV];rfl)<|H 3<|sM 12 (I 0) (I (Ts S)) O (by rw[ge uV])<|tb sm λx=>tm (kk x) O
  .obtain⟨L1,⟨N,q⟩,rfl⟩:∃L1 x,Ls=L1++ [x]:=by
    rcases List.eq_nil_or_concat Ls with h|⟨L1,x,h⟩
    .exact absurd h h0
    .exact⟨L1,x,by simpa using h⟩
   have hm1:S.nds.length=L1.length+1:=by rw[<-uW];simp
   refine s7 (p:=∃ve,y.1=some ⟨ve,0,none⟩) (λj g h=>by obtain⟨ve,uU,_⟩:=Y.cells h.1.1 Zs;exact⟨ve,uU⟩) O (λuU=> ?_);obtain⟨ve,uU⟩:=uU;exact sQ (decide ((S.nds.length:Int)>0)) true O (by rw[hm1];simp)<|H 6<|sM 43 (I (YA.wrap ((S.nds.length:Int)-1))) (I (L1.length:Int)) O (by rw[hm1,AN _ J];congr 1;omega)<|sV (Ki 25 (.slice y.1 S.nds.length y.2) L1.length) (Zq ve (L1.length*47)) O (λj g h=>by rw[uU];exact Me (elem:=69) O O J)<|H 7<|ZA (P8 69 ⟨ve,L1.length*47,none⟩ 1) (Zq ve (L1.length*47+1)) (λj g h=>Vn (d:=1) O)<|sV (L4 3 ⟨ve,L1.length*47+1,none⟩) (I N.kind) O (λj g h=>K9 O (EX (W:=w) (L:=L1) (yc:=y.2) (by have k:=h.1.1;rw[uU,Tf,AE]at k;exact k) O))<|H 3<|sM 12 (I N.kind) (I (Ts S)) O (by rw[aa hE])<|tb sm λx=>tm (kk x) O
 refine sT O 7 1000 49 [50,51,52] 53 true ((F.length:Int)==0) ((vg !=0)||((F.length:Int)==0)) O O O (λ_=>O) Ov λxj1=>H 8 ?_
 cases F with
 |nil=>
  refine ZT 54 (.bool (vg !=0||((([]:WS).length:Int)==0))) Zt Zs<|ZI true<|sN O<|M<|ZV (.tuple #[W3 S y,I (i:Int),I (far:Int)]) (λj g h=>no j g a.symm)
 | cons k ws=>
  have P:Rq (Kt l)=true:=by
   by_cases h:Rq (Kt l)=true
   .exact h
   .unfold MT at vf;rw[V h]at vf;cases vf
  have hE0:vg=0:=by rw[uT];unfold l9;exact YS P
  have hun:Al (Kt l)=k::ws:=by unfold MT at vf;rw[YS P]at vf;exact vf.symm
  have hwl:(k::ws).length<=100000:=by have:=Gf (l:=l);rw[hun]at this;omega
  have hwm:∀s∈k::ws,s.length<=10000:=λs hs=>by have:=Ge P s (by rw[hun];exact hs);omega
  refine sM 54 (.bool (vg !=0||(((k::ws).length:Int)==0))) Zf O (by rw[hE0];simp;omega)<|s7 (p:=∃m,K=some m) (λj g h=>by obtain⟨m,uS,_⟩:=h.2.1.2 0 k rfl;exact⟨m,uS⟩) O (λC=> ?_)
  obtain⟨m,C⟩:=C;have ld:∀{u:YN},Km u K (k::ws).length (k::ws)->u.cell? (m.add 0)=some (E k):=λh=>by
   obtain⟨ad3,e3,h4⟩:=h.2 0 k rfl;rw[C]at e3;cases e3;exact h4
  refine M<|ZA (Ki 53 (.slice K (k::ws).length ac) (0:Nat)) (.pointer (some (m.add 0))) (λj g h=>by rw[C];exact Kg (elem:=9) O O (Nat.succ_pos _))<|ZA (L4 9 (m.add 0)) (E k) (λj g h=>K9 O (ld h.2.1)) ?_
  obtain⟨B,hB⟩:∃B,Ye k bf (Ts S)=B:=⟨_,rfl⟩
  refine Z (λj g h=>ff hB) λub=> ?_
  have a:(if Ye k bf (Ts S)=true/\(O6 S k (k::ws)).2.syn=false/\(O6 S k (k::ws)).2.i=ws.length+1 then
   Sr n ⟨(O6 S k (k::ws)).1,k,if (O6 S k (k::ws)).2.rng=true/\n<far then i else far⟩ (i+1) (ls.drop (i+1))else(S,i,far))=Q:=a
  cases B with
  |false=>
   rw[V (λh=>by rw[hB]at h;cases h.1)]at a;refine ZI true<|sN O<|M<|ZV (.tuple #[W3 S y,I (i:Int),I (far:Int)]) (λj g h=>no j g a.symm)
  | true=>
   refine ZI false ?_;obtain⟨r,hr⟩:∃r,r=O6 S k (k::ws):=⟨_,rfl⟩
   rw[<-hr]at a;have hp:k=Lx\/0<Ly k\/Ls≠[]:=by
    rcases e9 hB with h|h|⟨uS,h2⟩
    .exact .inl h
    .exact .inr (.inl h)
    .exact .inr (.inr ((hbf.resolve_left uS).resolve_left h2))
   refine sZ (L:=bl y.1) (Φ':=λx u=>Km u K (k::ws).length (k::ws)/\(r.2.syn=false->sB w.heap.size (λb=>¬Sg b) y Ls r.1.nds x u/\Lz Sg (Zg Ls) u)) (λj g h=>TN (uY:=λb=>¬Sg b) (λb G o=>by have:=h.1.1.2.lt b o;omega) ac hr g ⟨h.1.2.1,hwl,hwm⟩ hE uW (uW▸h.1.1.1) h.1.1.2.get J hp) (λu h b G=>⟨(Y.lt h.1.1.1 b G).1,(Y.blk h.1.1.1 b G).2⟩) (λx wa u e1 e2 h hG=>⟨h.1.2.1.left e2 (h.1.2.2 Zs),λhs=>⟨hG hs,h.1.1.2.left e1 e2 uX⟩⟩) O O λx=>M ?_
   obtain⟨⟨z,L2⟩,Sg2⟩:=x
   by_cases o:r.2.syn=false/\r.2.i=ws.length+1
   rotate_left
   .rw[V (λh=>o h.2)]at a;refine Z (λj g h=>LN (A:=K) (n:=(k::ws).length) (c:=ac) (x:=r.2) (B:=false) (by rw[BL];intro uZ;rw[AM,YQ]at uZ;exact o ⟨by simpa using uZ.1,by have:=uZ.2;simp at this;omega⟩)) λu=>ZI true<|sN O<|M<|ZV (.tuple #[W3 S y,I (i:Int),I (far:Int)]) (λj g h=>no j g a.symm)
   obtain⟨fr,t⟩:∃f:Nat,f=if r.2.rng=true/\n<far then i else far:=⟨_,rfl⟩
   rw[YS ⟨hB,o⟩,<-t]at a;refine Z (λj g h=>LN (A:=K) (n:=(k::ws).length) (c:=ac) (x:=r.2) (B:=true) (by rw[o.1,o.2];show(true&&(((ws.length+1:Nat):Int)==((ws.length+1:Nat):Int)))=true;rw[beq_self_eq_true];rfl)) λu=>sW false O<|H 3<|sT O 1000 1000 82 [83,84,85,86] 87 (decide ((far:Int)>(n:Int))) false ((r.2.rng)&&(decide ((far:Int)>(n:Int)))) O O O (λ_=>O) M3 λxj2=>tU (λ(x:Nat->AV) c=>P5 [88] x (Ma 6 (I (fr:Int)) (M1 XW 1000 1000 (Em false c)))) (λkk=> ?_) (λxk=> ?_)
   .by_cases hf:r.2.rng=true/\n<far
    .rw[YS hf]at t;exact X ((r.2.rng&&decide ((far:Int)>(n:Int)))) true (by rw[hf.1];simp;omega)<|sM 6 (I (i:Int)) (I (fr:Int)) O (by rw[t])<|tb [88] λx=>tm (kk x) O
    .rw[V hf]at t;exact X ((r.2.rng&&decide ((far:Int)>(n:Int)))) false (by rw[BL];intro uZ;rw[AM]at uZ;exact hf ⟨uZ.1,by have:=YP uZ.2;omega⟩)<|sM 6 (I (far:Int)) (I (fr:Int)) O (by rw[t])<|tb [88] λx=>tm (kk x) O
   refine ZA (Ki 53 (.slice K (k::ws).length ac) (0:Nat)) (.pointer (some (m.add 0))) (λj g h=>by rw[C];exact Kg (elem:=9) O O (Nat.succ_pos _))<|ZA (L4 9 (m.add 0)) (E k) (λj g h=>K9 O (ld h.1.1))<|sS 8 uR J O<|s7 (p:=L2.map (·.1)=r.1.nds/\(∀b∈bl z.1,b∈bl y.1\/¬Sg b)/\∀b,Sg2 b->b∉bl z.1) (λj g h=>by have k:=(h.1.2 o.1).1;exact⟨k.eq,k.bl,k.ap⟩) O (λhp=> ?_)
   obtain⟨p1,p2,p3⟩:=hp;have hl2:L2.length=r.1.nds.length:=by rw[<-p1,AQ]
   have hl3:=ep (S:=S) (k:=k) (ws:=k::ws);rw[<-hr]at hl3;have hbf2:k=[]\/k=Lx\/L2≠[]:=by
    by_cases D:k=Lx
    .exact .inr (.inl D)
    .refine .inr (.inr λh=> ?_);have:=j8 (S:=S) (ws:=k::ws) D;rw[<-hr,<-p1,h]at this;exact this rfl
   refine sR (⟨((i+1,⟨r.1,k,fr⟩),((z,L2),λb=>Sg b\/Sg2 b)),uR,a,p1,by show L2.length<=i+1;omega,hbf2,λb G o=>G.elim (λh=>(p2 b o).elim (uX b h) λk=>k h) λh=>p3 b h o,by show fr<=n+1;rw[t];split<;>omega⟩) O zo zt (λu h=>⟨(h.1.2 o.1).1.row,((h.1.2 o.1).2.and (h.1.2 o.1).1.hd).imp λv k=>k.2 k.1⟩)
end
end
section
--ATNAMES
section
variable{w:YN}{s:R}
theorem aI(b:s.getLast? =some 10)(g:s.length<=6000){Q:Sc×Nat×Nat}(e:Q=Sr (Lu s).length ⟨Gs,[],(Lu s).length+1⟩ 0 (Lu s))(l:(Lu s).length<Q.2.1)(m:(Lu s).length<Q.2.2):∀N∈Q.1.nds,Fw N:=by
 have h:=JF (n:=(Lu s).length) (Lu s) (T:=SN) (L:=⟨Gs,[],(Lu s).length+1⟩) (i:=0) ⟨rfl,⟨λ_=>rfl,λ_=>rfl⟩,show(0:Int)=MM [] by decide,λh=>absurd rfl h,λ_=>rfl,.inl ⟨by decide,rfl,rfl⟩⟩ J;rw[<-e]at h;cases a:Sk SN 0 (Lu s)with
 |inl j=>
  rw[a]at h;have:=h.1;have:=h.2;omega
 | inr T=>
  rw[a]at h;obtain⟨_,⟨_,_,c⟩|⟨f,_,k,c⟩⟩:=h
  .have:=mP g b T a;rw[<-c];exact this
  .omega
abbrev gM:YM:= .agg #[I 0,I 0,.int .u8 0,.int .u8 0,.int .u8 0,.int .u8 0,.slice none 0 0]
theorem H4{n:Nat}{e:Int}{a:YN}(b:Below w.heap.size w a)(h:Nf s=(Gs,n,e)):K6 w (GJ s) (GI s) (.returned (.tuple #[gM,I n,I e])) a:=
 ⟨((none,0),[]),by rw[Xx h],b,λ_ _ _=>C1 (by rw[h])⟩
theorem UD(c:65536<s.length):YG XW 5 #[E s] w (K6 w (GJ s) (GI s)):=by
 have b:Nf s=(Gs,0,5):=YS c;refine sL func5 rfl<|M<|X (decide ((s.length:Int)>65536)) true (YU J)<|ZV (.tuple #[gM,I (0:Nat),I 5]) (λe a h=>H4 a b)
theorem kC(B:s.length<=6000\/65536<s.length):YG XW 6 #[E s] w (K6 w (GJ s) (GI s)):=by
 have c:=g_ s;unfold ZP at c;refine sL func6 rfl<|M ?_
 by_cases j:65536<s.length
 .rw[YS j]at c;refine X (decide ((s.length:Int)>65536)) true (YU J)<|ZV (.tuple #[gM,I (0:Nat),I 5]) (λa b h=>H4 b c.symm)
 rw[V j]at c;have B:s.length<=6000:=B.resolve_right j;refine X (decide ((s.length:Int)>65536)) false (YV J) ?_
 by_cases g:s.getLast? =some 10
 case neg=>
  rw[YS g]at c;cases p:XT s
  .refine Z (λa b h=>qN p J) λu=>ZI true<|ZV (.tuple #[gM,I (0:Nat),I 3]) (λa b h=>H4 b c.symm)
  .obtain rfl:s=[]:=(IV.1 p).resolve_right g;refine Z (λa b h=>nC p Zd) λu=>ZI true<|ZV (.tuple #[gM,I (0:Nat),I 3]) (λa b h=>H4 b c.symm)
 rw[V (λh=>h g)]at c;obtain⟨n,A⟩:∃n,n=(Lu s).length:=⟨_,rfl⟩
 obtain⟨D,uR⟩:=KI s;obtain⟨x,y,uS⟩:=XD g;have uZ:0<n:=by rw[A,uS];simp
 obtain⟨Q,C⟩:∃Q,Q=Sr n ⟨Gs,[],n+1⟩ 0 (Lu s):=⟨_,rfl⟩
 simp only[<-A]at c;rw[<-C]at c;have F:n<Q.2.1->n<Q.2.2->∀N∈Q.1.nds,Fw N:=λT uY=>aI g B (by rw[C,A]) J J
 refine Z (λa b h=>by have t:=nC (w:=a) (IV.2 (.inr g)) (show s.length<=10000 by omega);rw[<-A]at t;exact t) λP=> ?_;refine X (((n:Int)==0)) false Zp<|Z (λa b h=>SL (cl:=P.2) C h.2 J λl h=>AC (D l h) B) λq=> ?_
 by_cases vf:Q.2.1<=n
 .rw[YS vf]at c;refine X (decide ((Q.2.1:Int)<=(n:Int))) true (YU J)<|ZV (.tuple #[gM,I (Q.2.1:Nat),I 3]) (λa b h=>H4 b c.symm)
 rw[V vf]at c;refine X (decide ((Q.2.1:Int)<=(n:Int))) false (YV J) ?_
 by_cases ve:Q.2.2<=n
 .rw[YS ve]at c;refine X (decide ((Q.2.2:Int)<=(n:Int))) true (YU J)<|ZV (.tuple #[gM,I (Q.2.2:Nat),I 6]) (λa b h=>H4 b c.symm)
 rw[V ve]at c;refine X (decide ((Q.2.2:Int)<=(n:Int))) false (YV J) ?_;have m:=F J J;have r:∀a:YN,Below w.heap.size w a->¬(A8 Q.1=true/\Ju Q.1=s)->K6 w (GJ s) (GI s) (.returned (.tuple #[gM,I n,I 18])) a:=λa b h=>by
  rw[V h]at c;exact H4 b c.symm
 by_cases e:A8 Q.1=true
 rotate_left
 .refine tf (λa b h=>bi (S:=Q.1) (y:=q.1) (h.2 J).1 (λN v=>(m N v).1) Zd (h.2 J).2.1 (by simpa using e)) O λ_=>M<|ZI true<|ZV (.tuple #[gM,I n,I 18]) (λa b h=>r a b λh=>e h.1)
 have o:=λ(a:YN) (h:Vs a q.1.1 q.2 125 Q.1.nds/\Q.1.nds.length<=q.1.2/\Zg q.2 a)=>WZ (w:=a) (S:=Q.1) (y:=q.1) h.1 (λN v=>(m N v).1) (λN v=>(m N v).2) (A0 e).2.1 Zd h.2.1 e
 unfold TW at o
 by_cases f:(Ju Q.1).length<=65536
 rotate_left
 .refine tf (val:=λ_:Unit=> .tuple #[E [],I 5]) (G:=λ_ _=>True) (λa b h=>by have t:=o a (h.2 J);rw[V f]at t;exact t) O λ_=> ?_;refine M<|ZI true<|ZV (.tuple #[gM,I n,I 18]) (λa b h=>r a b λh=>f (by rw[h.2];omega))
 refine tf (val:=λ_:Unit=> .tuple #[E (Ju Q.1),I 0]) (G:=λ_ _=>True) (λa b h=>by have t:=o a (h.2 J);rw[YS f]at t;exact t) O λ_=> ?_;refine M ?_
 by_cases k:Ju Q.1=s
 .rw[YS ⟨e,k⟩]at c;exact X ((!rq (Ju Q.1) s)) false (by rw[Xl k];rfl)<|ZV (.tuple #[W3 Q.1 q.1,I 0,I 0]) λa b h=>⟨q,by unfold GJ;rw[<-c];rfl,b,λvg L K=>by unfold GI;rw[<-c];exact(h vg L K).1.2 J⟩
 .refine X ((!rq (Ju Q.1) s)) true (by rw[TO k];rfl)<|ZV (.tuple #[gM,I n,I 18]) (λa b h=>r a b λh=>k h.2)
end
end
section
variable{w:YN}{K n c c2:Nat}{A A2:YY}{ls:List Sg}{N:Nd}{q q2:ND}{S:Sc}
theorem UJ(o:Qn w A n ls)(r:Qn w A2 n ls)(D:n<=1000000000):Zv 89 #[.slice A n c,.slice A2 n c2] w Zt:=by
 have B:=o.1;refine sL func89 rfl<|M<|X (((n:Int) !=(n:Int))) false (bne_self_eq_false _)<|sU (ι:={q:Nat // q<=n}) 26 (λq=>⟨[(0,.v (.slice A n c)),(1,.v (.slice A2 n c2)),(5,.v (I q.1))],[]⟩) (λq u=>True) (λq=>n-q.1) (⟨0,AG _⟩) O (λ_=>O) zt (λu h=>trivial) ?_
 rintro⟨k,m⟩ vg;have m:k<=n:=m
 by_cases e:k<n
 case neg=>
  obtain rfl:k=n:=J
  exact M<|X (decide ((k:Int)<(k:Int))) false Zs<|sN O<|M<|ZW Zt
 obtain⟨x,p⟩:∃x,ls[k]? =some x:=⟨_,AD J⟩
 obtain⟨a,C,s⟩:=o.2 k x p;obtain⟨b,y,t⟩:=r.2 k x p;refine M<|sQ (decide ((k:Int)<(n:Int))) true O Zp<|H 2<|sP 2 (Ki 63 (.slice A n c) k) (.pointer (some (a.add (k*7)))) O (λg f h=>Rs C e)<|H 3<|sP 3 (L4 213 (a.add (k*7))) (x.val) O (λg f h=>OZ λj v l=>La f (s j v l))<|H 6<|sP 6 (Ki 63 (.slice A2 n c2) k) (.pointer (some (b.add (k*7)))) O (λg f h=>Rs y e)<|H 7<|sP 7 (L4 213 (b.add (k*7))) (x.val) O (λg f h=>OZ λj v l=>La f (t j v l))<|H 8<|ZB 8 (MN 213 (.tmp 20) (.tmp 24) x.val x.val) Zf (λg f h=>by rw[Yl,uv.2 rfl];rfl)<|ZI false<|sS 5 e J O<|sR (⟨k+1,by show k+1<=n;omega⟩) O zo zt (λu h=>trivial)
theorem TC{l L:List (Pn×PM)}{Ps:List Pn}(D:Cy w A l K Ps)(B:Cy w A2 L K Ps)(Q:2<=K/\K<=1000)(uY:Ps.length<=1000000000)(F:∀P∈Ps,P.stops.length<=1000000000/\P.im.px.length<=1000000000):Zv 90 #[.slice A Ps.length c,.slice A2 Ps.length c2] w Zt:=by
 obtain⟨n,y⟩:∃n,n=Ps.length:=⟨_,rfl⟩
 rw[<-y];refine sL func90 rfl<|M<|X (((n:Int) !=(n:Int))) false (bne_self_eq_false _)<|sU (ι:={q:Nat // q<=n}) 27 (λq=>⟨[(0,.v (.slice A n c)),(1,.v (.slice A2 n c2)),(5,.v (I q.1))],[]⟩) (λq u=>True) (λq=>n-q.1) (⟨0,AG _⟩) O (λ_=>O) zt (λu h=>trivial) ?_
 rintro⟨k,C⟩ T;have C:k<=n:=C
 by_cases f:k<n
 case neg=>
  obtain rfl:k=n:=J
  exact M<|X (decide ((k:Int)<(k:Int))) false Zs<|sN O<|M<|ZW Zt
 obtain⟨P,t⟩:∃x,Ps[k]? =some x:=⟨_,AD J⟩
 obtain⟨p,s,uS⟩:=D.get t;obtain⟨vg,o,uR⟩:=B.get t;obtain⟨a,uZ,G⟩:=D.row.2 k _ s;obtain⟨b,ve,vf⟩:=B.row.2 k _ o;have m:=F P (AH t);refine M<|sQ (decide ((k:Int)<(n:Int))) true O Zp<|H 2<|sP 2 (Ki 64 (.slice A n c) k) (.pointer (some (a.add (k*40)))) O (λg e h=>Vm uZ f)<|H 3<|sP 3 (L4 49 (a.add (k*40))) (.agg (dD (P,p)).toArray) O (λg e h=>Yn λj v r=>La e (G j v r))<|H 6<|sP 6 (Ki 64 (.slice A2 n c2) k) (.pointer (some (b.add (k*40)))) O (λg e h=>Vm ve f)<|H 7<|ZB 7 (L4 49 (b.add (k*40))) (.agg (dD (P,vg)).toArray) (λg e h=>Yn λj v r=>La e (vf j v r))<|Z (λg e h=>kV (P:=P) (uS.below e) (uR.below e) Q m) λ_=>tA O (λu h=>h.1)<|ZI false<|sS 5 f J O<|sR (⟨k+1,by show k+1<=n;omega⟩) O zo zt (λu h=>trivial)
theorem eD{T:Fo}{y y2:YZ}(D:O3 w y.1 T.d.length 1 Tl T.d)(r:O3 w y2.1 T.d.length 1 Tl T.d)(F:T.d.length<=1000000000):Zv 91 #[MO T y,MO T y2] w Zt:=by
 refine sL func91 rfl<|H 6<|sM 11 (.bool (T.w !=T.w)) Zf O (by rw[bne_self_eq_false])<|H 13<|sM 18 (.bool (T.j !=T.j)) Zf O (by rw[bne_self_eq_false])<|H 20<|sM 25 (.bool (T.c !=T.c)) Zf O (by rw[bne_self_eq_false])<|H 27<|sM 32 (.bool (T.m !=T.m)) Zf O (by rw[bne_self_eq_false])<|H 34<|ZT 39 (.bool (T.p !=T.p)) Zf (by rw[bne_self_eq_false])<|X (((T.d.length:Int) !=(T.d.length:Int))) false (bne_self_eq_false _)<|sU (ι:={q:Nat // q<=T.d.length}) 66 (λq=>⟨[(2,.p 2 0),(3,.p 3 0),(5,.v (I q.1))],[(2,[.v (I T.w),.v (I T.j),.v (I T.c),.v (I T.m),.v (.slice y.1 T.d.length y.2),.v (I T.p)]),(3,[.v (I T.w),.v (I T.j),.v (I T.c),.v (I T.m),.v (.slice y2.1 T.d.length y2.2),.v (I T.p)])]⟩) (λq u=>True) (λq=>T.d.length-q.1) (⟨0,AG _⟩) O (λ_=>O) zt (λu h=>trivial) ?_
 rintro⟨k,l⟩ G;have l:k<=T.d.length:=l
 by_cases e:k<T.d.length
 case neg=>
  have t:T.d.length=k:=J
  exact M<|X (decide ((k:Int)<(T.d.length:Int))) false Zp<|sN O<|M<|ZW Zt
 obtain⟨z,o⟩:∃x,T.d[k]? =some x:=⟨_,AD J⟩
 obtain⟨a,vg,s⟩:=D.2 k z o;obtain⟨b,C,B⟩:=r.2 k z o;refine M<|sQ (decide ((k:Int)<(T.d.length:Int))) true O Zp<|H 3<|sP 3 (Ki 65 (.slice y.1 T.d.length y.2) k) (.pointer (some (a.add k))) O (λg f h=>by rw[vg];exact Kg (elem:=3) O O e)<|H 4<|sP 4 (L4 3 (a.add k)) (I z) O (λg f h=>K9 O (by have:=La f (s 0 (I z) rfl);rw[Y7,BO,BK]at this;exact this))<|H 8<|sP 8 (Ki 65 (.slice y2.1 T.d.length y2.2) k) (.pointer (some (b.add k))) O (λg f h=>by rw[C];exact Kg (elem:=3) O O e)<|H 9<|ZB 9 (L4 3 (b.add k)) (I z) (λg f h=>K9 O (by have:=La f (B 0 (I z) rfl);rw[Y7,BO,BK]at this;exact this))<|X (z !=z) false (bne_self_eq_false _)<|sS 5 e J O<|sR (⟨k+1,by show k+1<=T.d.length;omega⟩) O zo zt (λu h=>trivial)
theorem iq(e:NM N q K w)(f:NM N q2 K w)(b:LQ N)(k:2<=K/\K<=1000):Zv 42 #[Ya N q,Ya N q2] w Zt:=by
 have j:∀l:List Pn,(∀P∈l,P.im.px.length<=20000/\P.stops.length<=1000000)->∀P∈l,P.stops.length<=1000000000/\P.im.px.length<=1000000000:=λl h P o=>by have:=h P o;omega
 exact sL func42 rfl<|H 6<|sM 10 (.bool (N.id !=N.id)) Zf O (by rw[bne_self_eq_false])<|H 13<|sM 17 (.bool (N.kind !=N.kind)) Zf O (by rw[bne_self_eq_false])<|H 20<|ZT 24 (.bool (N.dep !=N.dep)) Zf (by rw[bne_self_eq_false])<|ZD 35 (λg a h=>Wc (T:=N.T) (uW:=N.T) GV (e.tr.below a) (f.tr.below a) J) λx=>sM 39 (.bool (N.crule !=N.crule)) Zf O (by rw[bne_self_eq_false])<|H 42<|ZT 46 (.bool (N.frule !=N.frule)) Zf (by rw[bne_self_eq_false])<|sQ (N.samp !=N.samp) false O (bne_self_eq_false _)<|H 6<|sM 58 (.bool ((N.op.toNat:Int) !=(N.op.toNat:Int))) Zf O (by rw[bne_self_eq_false])<|H 13<|sM 65 (.bool (N.bl !=N.bl)) Zf O (by rw[bne_self_eq_false])<|H 20<|ZT 72 (.bool (N.iso !=N.iso)) Zf (by rw[bne_self_eq_false])<|X (N.ko !=N.ko) false (bne_self_eq_false _)<|Z (λg a h=>UJ (c:=q.clc) (c2:=q2.clc) (e.cl.below a) (f.cl.below a) (by have:=b.cl;omega)) λu=>Z (λg a h=>UJ (c:=q.pac) (c2:=q2.pac) (e.pa.below a) (f.pa.below a) (by have:=b.pa;omega)) λv=>Z (λg a h=>TC (c:=q.fic) (c2:=q2.fic) (e.fi.below a) (f.fi.below a) k (by have:=b.fn;omega) (j _ b.fi)) λp=>Z (λg a h=>TC (c:=q.stc) (c2:=q2.stc) (e.st.below a) (f.st.below a) k (by have:=b.sn;omega) (j _ b.st)) λr=>Z (λg a h=>eD (T:=N.sty) (y:=(q.daA,q.dac)) (y2:=(q2.daA,q2.dac)) (e.da.below a) (f.da.below a) (by have:=b.da;omega)) λt=>Z (λg a h=>TK (m:=N.im) (y:=(q.pxA,q.pxc)) (y2:=(q2.pxA,q2.pxc)) (e.px.below a) (f.px.below a) (by have:=b.px;omega)) λs=>ZW Zt
theorem ju{y y2:YZ}{nl r:List (Nd×ND)}(C:Vs w y.1 nl K S.nds)(t:Vs w y2.1 r K S.nds)(vg:gw S.nds)(P:2<=K/\K<=1000)(Q:S.nds.length<=1000000000):Zv 16 #[W3 S y,W3 S y2] w Zt:=by
 refine sL func16 rfl<|H 6<|sM 11 (.bool (S.w !=S.w)) Zf O (by rw[bne_self_eq_false])<|H 13<|sM 18 (.bool (S.h !=S.h)) Zf O (by rw[bne_self_eq_false])<|H 17<|ZA (MN 24 (.tmp 20) (.tmp 22) (Rk S.bg) (Rk S.bg)) Zf (λg e h=>fj Zs)<|X (((S.nds.length:Int) !=(S.nds.length:Int))) false (bne_self_eq_false _)<|sU (ι:={q:Nat // q<=S.nds.length}) 53 (λq=>⟨[(2,.p 2 0),(3,.p 3 0),(5,.v (I q.1))],[(2,[.v (I S.w),.v (I S.h),.v (.int .u8 (S.bg.1.toNat:Int)),.v (.int .u8 (S.bg.2.1.toNat:Int)),.v (.int .u8 (S.bg.2.2.1.toNat:Int)),.v (.int .u8 (S.bg.2.2.2.toNat:Int)),.v (.slice y.1 S.nds.length y.2)]),(3,[.v (I S.w),.v (I S.h),.v (.int .u8 (S.bg.1.toNat:Int)),.v (.int .u8 (S.bg.2.1.toNat:Int)),.v (.int .u8 (S.bg.2.2.1.toNat:Int)),.v (.int .u8 (S.bg.2.2.2.toNat:Int)),.v (.slice y2.1 S.nds.length y2.2)])]⟩) (λq u=>True) (λq=>S.nds.length-q.1) (⟨0,AG _⟩) O (λ_=>O) zt (λu h=>trivial) ?_
 rintro⟨k,B⟩ uY;have B:k<=S.nds.length:=B
 by_cases f:k<S.nds.length
 case neg=>
  have G:S.nds.length=k:=J
  exact M<|X (decide ((k:Int)<(S.nds.length:Int))) false Zp<|sN O<|M<|ZW Zt
 obtain⟨uR,s⟩:∃x,S.nds[k]? =some x:=⟨_,AD J⟩
 obtain⟨p,o,uS⟩:=C.get s;obtain⟨D,l,L⟩:=t.get s;obtain⟨a,uZ,F⟩:=C.row.2 k _ o;obtain⟨b,ve,vf⟩:=t.row.2 k _ l;refine M<|sQ (decide ((k:Int)<(S.nds.length:Int))) true O Zp<|H 3<|sP 3 (Ki 25 (.slice y.1 S.nds.length y.2) k) (.pointer (some (a.add (k*47)))) O (λg e h=>Nb uZ f)<|H 4<|sP 4 (L4 69 (a.add (k*47))) (Ya uR p) O (λg e h=>Xt λj v m=>La e (F j v m))<|H 8<|sP 8 (Ki 25 (.slice y2.1 S.nds.length y2.2) k) (.pointer (some (b.add (k*47)))) O (λg e h=>Nb ve f)<|H 9<|ZB 9 (L4 69 (b.add (k*47))) (Ya uR D) (λg e h=>Xt λj v m=>La e (vf j v m))<|Z (λg e h=>iq (uS.below e) (L.below e) (vg uR (AH s)) P) λ_=>tA O (λu h=>h.1)<|ZI false<|sS 5 f J O<|sR (⟨k+1,by show k+1<=S.nds.length;omega⟩) O zo zt (λu h=>trivial)
end
section
--ATNAMES
theorem iX{N:Nd}{q:ND}{j:Nat}{v:YM}(h:q.t.cl[j]? =some v):(Yb N q)[3+j]? =some v:=by
 have a:j<q.t.cl.length:=(AJ.1 h).1;unfold Yb;rw[AR Zs,List.getElem?_append_left Zp];simpa using h
theorem kR:Pc.det=0:=by unfold Xm.det Pc;grind
section
variable{w:YN}{s:R}{S:Sc}{y y2:YZ}{nl nl2:List (Nd×ND)}
theorem SK(r:Vs w y.1 nl 125 S.nds)(m:Vs w y2.1 nl2 125 S.nds)(vf:Zg nl w)(P:Zg nl2 w)(C:∀N∈S.nds,N.T≠Pc)(vg:gw S.nds)(uS:S.nds.length<=1000000000):Zv 7 #[W3 S y,W3 S y2] w Zt:=by
 refine sL func7 rfl<|M<|Z (λf c h=>ju (y:=y) (y2:=y2) (r.below c) (m.below c) vg Zd uS) λ_=>ZI false<|sU (ι:={k:Nat // k<=S.nds.length}) 31 (λk=>⟨[(2,.p 2 0),(3,.p 3 0),(12,.v (I S.nds.length)),(13,.v (I k.1))],[(2,(eK S y).map .v),(3,(eK S y2).map .v)]⟩) (λk u=>True) (λk=>S.nds.length-k.1) (⟨0,AG _⟩) O (λ_=>O) zt (λu h=>trivial) ?_
 rintro⟨k,B⟩ Q;have B:k<=S.nds.length:=B
 by_cases e:k<S.nds.length
 case neg=>
  have G:S.nds.length=k:=J
  exact M<|X (decide ((k:Int)<(S.nds.length:Int))) false Zp<|sN O<|M<|ZW Zt
 obtain⟨N,x⟩:∃v,S.nds[k]? =some v:=⟨_,AD e⟩
 obtain⟨q,l,_⟩:=r.get x;obtain⟨L,g,_⟩:=m.get x;obtain⟨a,uZ,F⟩:=r.row.2 k _ l;obtain⟨b,K,ve⟩:=m.row.2 k _ g;have A:=C N (AH x);have D:=(vf _ (AH l)).2.resolve_left A;have uR:=(P _ (AH g)).2.resolve_left A;refine M<|sQ (decide ((k:Int)<(S.nds.length:Int))) true O Zp<|H 3<|sP 3 (Ki 25 (.slice y.1 S.nds.length y.2) k) (.pointer (some (a.add (k*47)))) O (λf c h=>Nb uZ e)<|H 4<|sP 4 (P8 69 (a.add (k*47)) 3) (.pointer (some ((a.add (k*47)).add 3))) O (λf c h=>Li (d:=3) O)<|H 5<|sP 5 (L4 47 ((a.add (k*47)).add 3)) (q.t.val) O (λf c h=>Rn O O λj v o=>by rw[Y7];exact La c (F (3+j) v (iX o)))<|H 9<|sP 9 (Ki 25 (.slice y2.1 S.nds.length y2.2) k) (.pointer (some (b.add (k*47)))) O (λf c h=>Nb K e)<|H 10<|sP 10 (P8 69 (b.add (k*47)) 3) (.pointer (some ((b.add (k*47)).add 3))) O (λf c h=>Li (d:=3) O)<|H 11<|ZB 11 (L4 47 ((b.add (k*47)).add 3)) (L.t.val) (λf c h=>Rn O O λj v o=>by rw[Y7];exact La c (ve (3+j) v (iX o)))<|Z (λf c h=>PS GV (D.below c) (uR.below c)) λ_=>tA O (λu h=>trivial)<|ZI false<|sS 13 e J O<|sR (⟨k+1,by show k+1<=S.nds.length;omega⟩) O zo zt (λu h=>trivial)
theorem lh{S:Sc}{n:Nat}{e:Int}(c:Nf s=(S,n,e))(o:s.length<=6000\/65536<s.length):gw S.nds/\S.nds.length<=64/\∀N∈S.nds,N.T≠Pc:=by
 by_cases j:e=0
 .subst j;have C:=iG (s:=s) (by rw[c]);have c2:=C.ok;obtain⟨T,l,b⟩:=C.rd;rw[c]at c2 b;have b:S=T.sc:=b;have h:=A0 c2;have m:=C.len;refine⟨λN a=> ?_,h.2.1,λN a k=> ?_⟩
  .have a:N∈T.nds:=by rw[b]at a;exact a
   exact(mP (s:=s) J C.last T l N a).1
  .have f:=h.2.2 N a;unfold Mb GB at f;simp only[AM,decide_eq_true_eq]at f;have g:=f.1.2.2.2.1;rw[k]at g;exact g kR
 .obtain rfl:S=Gs:=by have:=kJ (s:=s) (by rw[c];exact j);rw[c]at this;exact this
  exact⟨(λN a=>by cases a),AG _,λN a=>by cases a⟩
theorem bG(l:ET w)(g:ML w):Zv 3 #[E s] w Zt:=by
 refine sL func3 rfl<|H 4<|sT O 1000 1000 12 [13,14,15] 16 (decide ((s.length:Int)<=65536)) false ((decide ((s.length:Int)>6000))&&(decide ((s.length:Int)<=65536))) O O O (λ_=>O) M3 (λp=> ?_)
 by_cases j:s.length<=6000\/65536<s.length
 rotate_left
 .exact X ((decide ((s.length:Int)>6000)&&decide ((s.length:Int)<=65536))) true Zp<|Z (λc f h=>FF (l.below f) (g.below f)) λu=>ZW Zt
 refine X ((decide ((s.length:Int)>6000)&&decide ((s.length:Int)<=65536))) false Zp ?_;have m:∀c:YN,Below w.heap.size w c->YG XW 5 #[E s] c (K6 c (GJ s) (GI s)):=λc f=>by
  rcases j with h|h
  .exact b_ (l.below f) (g.below f) J (mP h)
  .exact UD h
 have k:=λc=>kC (w:=c) j
 obtain⟨⟨S,n,e⟩,o⟩:∃x,Nf s=x:=⟨_,rfl⟩
 obtain⟨q1,t,r⟩:=lh o j;unfold GJ GI at m k;rw[o]at m k;exact Z (λc f h=>m c f) λa=>Z (λc f h=>k c) λb=>ZD 9 (λc f h=>SK (y:=a.1) (y2:=b.1) h.1.2.1 h.2.1 h.1.2.2.2 h.2.2.2 r q1 (show S.nds.length<=1000000000 by omega)) λ_=>sM 38 (.bool ((n:Int)==(n:Int))) Zt O (by rw[beq_self_eq_true])<|H 14<|sM 43 (.bool (e==e)) Zt O (by rw[beq_self_eq_true])<|Z (λc f h=>FF (l.below f) (g.below f)) λu=>ZW Zt
theorem rowParse45{s:ByteArray}(b:ET w)(a:ML w):YG XW 3 #[.string s] w (Done w):=(bG (s:=s.data.toList) b a).mono λ_ _ h=>gT h
end
end
end Go.Proofs.YtnmokookhcgklaaGreatDoor
