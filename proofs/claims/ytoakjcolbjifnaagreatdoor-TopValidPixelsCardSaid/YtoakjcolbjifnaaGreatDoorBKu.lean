/-
 A part of the proof.
-/
import Derived.Test.YtoakjcolbjifnaaGreatDoorBKn
open Bool renaming and_eq_true->AD
open Int renaming toNat_of_nonneg->AB
open List renaming length_map->AA,getElem?_map->AC,mem_map->AE,getElem?_eq_getElem->AF,length_eq_zero_iff->AH,mem_cons_of_mem->AK
open Nat renaming le_refl->AL,zero_le->AN
open Option renaming map_eq_some_iff->AI
open UInt8 renaming ofNat->AM
open Go renaming World->YM,Value->YI,Program->YH,Operand->XZ,Deferred->XY,TypeId->XX,Calls->XW,PanicEntry->XV,FuncId->XU,Oper->XT,Ending->XS,Addr->XR
open Go.IntKind renaming i64->XQ,u64->XP,u32->XO,u8->XN
namespace Go.Proofs.YtoakjcolbjifnaaGreatDoor
set_option maxRecDepth 100000
set_option maxHeartbeats 8000000
set_option linter.unusedVariables false
set_option linter.unusedSimpArgs false
open Go.RowKit Go.Proofs.Tryz
open Go.Proofs.Tryz renaming prog->XM
def MD:Sh:= .cons 1 (.int .u8) (.cons 1 (.int .u8) (.cons 1 (.int .u8) (.cons 1 (.int .u8) .nil)))
def Wt:Sh:= .cons 1 (.int .i64) (.cons 1 (.int .i64) .nil)
def eI:Sh:= .cons 1 (.int .i64) (.cons 4 MD .nil)
def lT:Sh:= .cons 1 (.int .i64) (.cons 1 (.int .i64) (.cons 1 (.sl 4 MD) .nil))
def Fv:Sh:= .cons 1 (.int .i64) (.cons 4 MD (.cons 2 Wt (.cons 2 Wt (.cons 1 (.int .i64) (.cons 1 (.sl 5 eI) (.cons 1 (.int .i64) (.cons 3 lT (.cons 1 (.int .i64) (.cons 24 fN .nil)))))))))
section
variable{w:YM}{cs:List YI}
theorem KN(h:Rdw w (.int .u8) cs):∃c:UInt8,cs=[.int .u8 (c.toNat:Int)]:=by
 obtain⟨z,rfl,b⟩:=h;have f:0<=z/\z<=255:=by
  simp only[Lit.wf,AD,decide_eq_true_iff]at b;exact b
 refine⟨AM z.toNat,?_⟩;have e:(AM z.toNat).toNat=z.toNat:=by
  rw[UInt8.toNat_ofNat'];omega
 rw[e,AB f.1]
theorem Hr(h:Rdw w MD cs):∃c:Co,cs=Pm c:=by
 obtain⟨_,_,rfl,_,g,h⟩:=Kq h;obtain⟨_,_,rfl,_,f,h⟩:=Kq h;obtain⟨_,_,rfl,_,e,h⟩:=Kq h;obtain⟨_,_,rfl,_,j,h⟩:=Kq h;obtain rfl:=h;obtain⟨a,rfl⟩:=KN g;obtain⟨b,rfl⟩:=KN f;obtain⟨c,rfl⟩:=KN e;obtain⟨d,rfl⟩:=KN j;exact⟨(a,b,c,d),rfl⟩
theorem Hq(h:Rdw w Wt cs):∃x y:Int,cs=[.int .i64 x,.int .i64 y]:=by
 obtain⟨_,_,rfl,_,e,h⟩:=Kq h;obtain⟨_,_,rfl,_,c,h⟩:=Kq h;obtain rfl:=h;obtain⟨a,rfl,_⟩:=e;obtain⟨b,rfl,_⟩:=c;exact⟨a,b,rfl⟩
theorem jP(h:Rdw w eI cs):∃x:Int×Co,cs=Qr x:=by
 obtain⟨_,_,rfl,_,e,h⟩:=Kq h;obtain⟨_,_,rfl,_,b,h⟩:=Kq h;obtain rfl:=h;obtain⟨a,rfl,_⟩:=e;obtain⟨c,rfl⟩:=Hr b;exact⟨(a,c),rfl⟩
theorem Vd{α:Type}{n:Nat}{e:Sh}{cl:α->List YI}(s:∀xs,Rdw w e xs->∃x,xs=cl x)(h:Rdw w (.sl n e) cs):∃(A:YY) (cap:Nat) (l:List α),cs=[.slice A l.length cap]/\Kk w A l.length n cl l/\l.length<=9223372036854775807:=by
 obtain⟨A,len,cap,rfl,t,y,m⟩:=h;have f:∀i:_root_.Fin len,∃x:α,∃ad,A=some ad/\∀(j:Nat) (v:YI),(cl x)[j]? =some v->w.cell? ((ad.add (i.1*n)).add j)=some v:=λi=>by
  obtain⟨ad,xs,c,_,g,u⟩:=m i.1 i.2;obtain⟨x,rfl⟩:=s xs u;exact⟨x,ad,c,g⟩
 have b:(List.ofFn λi:_root_.Fin len=>Classical.choose (f i)).length=len:=List.length_ofFn;have o:(List.ofFn λi:_root_.Fin len=>Classical.choose (f i)).length<=9223372036854775807:=by
  rw[b];have:maxLen<=9223372036854775807:=by unfold maxLen;decide
  omega
 refine⟨A,cap,List.ofFn λi:_root_.Fin len=>Classical.choose (f i),by rw[b],⟨rfl,λk x p=> ?_⟩,o⟩;obtain⟨c,g⟩:=List.getElem?_eq_some_iff.1 p;rw[List.getElem_ofFn]at g;have:=Classical.choose_spec (f ⟨k,by rw[b]at c;exact c⟩);rw[g]at this;exact this
theorem fs(h:Rdw w Fv cs):∃(P:Pn) (q:PM),cs=OC P q/\Kk w q.sA P.stops.length 5 Qr P.stops/\Kk w q.xA P.im.px.length 4 Pm P.im.px/\qw q.t w/\(P.im.px.length<=9223372036854775807/\P.stops.length<=9223372036854775807):=by
 obtain⟨_,_,rfl,_,m,h⟩:=Kq h;obtain⟨_,_,rfl,_,L,h⟩:=Kq h;obtain⟨_,_,rfl,_,J,h⟩:=Kq h;obtain⟨_,_,rfl,_,M,h⟩:=Kq h;obtain⟨_,_,rfl,_,K,h⟩:=Kq h;obtain⟨_,_,rfl,_,F,h⟩:=Kq h;obtain⟨_,_,rfl,_,Z,h⟩:=Kq h;obtain⟨_,_,rfl,_,p,h⟩:=Kq h;obtain⟨_,_,rfl,_,A,h⟩:=Kq h;obtain⟨_,_,rfl,_,f,h⟩:=Kq h;obtain rfl:=h;obtain⟨k,rfl,_⟩:=m;obtain⟨c,rfl⟩:=Hr L;obtain⟨v,o,rfl⟩:=Hq J;obtain⟨u,y,rfl⟩:=Hq M;obtain⟨r,rfl,_⟩:=K;obtain⟨sA,N,l,rfl,e,b⟩:=Vd (λxs=>jP) F;obtain⟨sp,rfl,_⟩:=Z;obtain⟨_,_,rfl,_,z,h⟩:=Kq p;obtain⟨_,_,rfl,_,D,h⟩:=Kq h;obtain⟨_,_,rfl,_,E,h⟩:=Kq h;obtain rfl:=h;obtain⟨x,rfl,_⟩:=z;obtain⟨G,rfl,_⟩:=D;obtain⟨xA,s,px,rfl,j,g⟩:=Vd (λxs=>Hr) E;obtain⟨H,rfl,_⟩:=A;obtain⟨t,rfl,B⟩:=gJ f;exact⟨⟨k,c,v,o,u,y,r,l,sp,⟨x,G,px⟩,H,Qt⟩,⟨sA,N,xA,s,t⟩,by simp[OC,Pm],e,j,B,g,b⟩
end
def d8:Sh:= .cons 1 (.int .i64) (.cons 2 Wt (.cons 2 Wt (.cons 2 Wt .nil)))
def cO:Sh:= .int .i64
def qn:Sh:= .cons 1 (.int .i64) (.cons 1 (.int .i64) (.cons 1 (.int .i64) (.cons 1 (.int .i64) (.cons 1 (.sl 1 cO) (.cons 1 (.int .i64) .nil)))))
def dJ:Sh:= .cons 1 (.int .i64) (.cons 1 (.int .i64) (.cons 1 (.int .i64) (.cons 24 fN (.cons 1 (.sl 7 d8) (.cons 1 (.int .i64) (.cons 1 (.int .u8) (.cons 1 (.int .i64) (.cons 1 .bool (.cons 1 .bool (.cons 1 (.sl 7 d8) (.cons 1 (.int .i64) (.cons 1 (.sl 40 Fv) (.cons 6 qn (.cons 1 (.sl 40 Fv) (.cons 3 lT (.cons 1 (.int .i64) .nil))))))))))))))))
def shScene:Sh:= .cons 1 (.int .i64) (.cons 1 (.int .i64) (.cons 4 MD (.cons 1 (.sl 47 dJ) .nil)))
structure nY(P:Pn)(q:PM)(w:YM):Prop where
 st:Kk w q.sA P.stops.length 5 Qr P.stops
 px:Kk w q.xA P.im.px.length 4 Pm P.im.px
 tr:qw q.t w
 le:P.im.px.length<=9223372036854775807/\P.stops.length<=9223372036854775807
structure KR(w:YM)(A:YY)(l:List (Pn×PM))(Ps:List Pn):Prop where
 eq:l.map (·.1)=Ps
 row:Kk w A Ps.length 40 HU l
 rd:∀x∈l,nY x.1 x.2 w
structure gX(N:Nd)(q:ND)(w:YM):Prop where
 tr:qw q.t w
 cl:Sa w q.clA N.clip.length N.clip
 pa:Sa w q.paA N.path.length N.path
 fi:KR w q.fiA q.fl N.fill
 da:Kk w q.daA N.sty.d.length 1 qg N.sty.d
 st:KR w q.stA q.sl N.stroke
 px:Kk w q.pxA N.im.px.length 4 Pm N.im.px
 le:(N.clip.length<=9223372036854775807/\N.path.length<=9223372036854775807)/\N.fill.length<=9223372036854775807/\N.stroke.length<=9223372036854775807
structure dS(w:YM)(A:YY)(l:List (Nd×ND))(Ns:List Nd):Prop where
 eq:l.map (·.1)=Ns
 row:Kk w A Ns.length 47 (λx=>Es x.1 x.2) l
 rd:∀x∈l,gX x.1 x.2 w
section
variable{w w1:YM}{cs:List YI}{A:YY}{n c m:Nat}{l:List (Pn×PM)}{Ps:List Pn}{N:Nd}{q:ND}{P:Pn}{p:PM}{nl:List (Nd×ND)}{Ns:List Nd}
theorem ck(h:Rdw w d8 cs):∃s:Sg,cs=s.cl:=by
 obtain⟨_,_,rfl,_,j,h⟩:=Kq h;obtain⟨_,_,rfl,_,g,h⟩:=Kq h;obtain⟨_,_,rfl,_,e,h⟩:=Kq h;obtain⟨_,_,rfl,_,k,h⟩:=Kq h;obtain rfl:=h;obtain⟨v,rfl,_⟩:=j;obtain⟨u,o,rfl⟩:=Hq g;obtain⟨bx,b,rfl⟩:=Hq e;obtain⟨f,t,rfl⟩:=Hq k;exact⟨⟨v,u,o,bx,b,f,t⟩,rfl⟩
theorem iQ(h:Rdw w cO cs):∃z:Int,cs=qg z:=by
 obtain⟨z,rfl,_⟩:=h;exact⟨z,rfl⟩
theorem TM{α:Type}{n:Nat}{e:Sh}{cl:α->List YI}{R:α->Prop}(o:∀xs,Rdw w e xs->∃x,xs=cl x/\R x)(h:Rdw w (.sl n e) cs):∃(A:YY) (cap:Nat) (l:List α),cs=[.slice A l.length cap]/\(Kk w A l.length n cl l/\l.length<=9223372036854775807)/\∀x∈l,R x:=by
 obtain⟨A,c,l,b,g,s⟩:=Vd (cl:=λx:{x:α // R x}=>cl x.1) (λxs f=>by obtain⟨x,b,g⟩:=o xs f;exact⟨⟨x,g⟩,b⟩) h;refine⟨A,c,l.map (·.1),by rw[AA];exact b,⟨⟨rfl,λk x j=> ?_⟩,by rw[AA];exact s⟩,λx f=> ?_⟩
 .rw[AC]at j;obtain⟨y,t,rfl⟩:=AI.1 j;exact g.2 k y t
 .obtain⟨y,_,rfl⟩:=AE.1 f;exact y.2
theorem fH{l:List (Pn×PM)}(h:Kk w A l.length 40 HU l)(b:∀x∈l,nY x.1 x.2 w):KR w A l (l.map (·.1)):=⟨rfl,by rw[AA];exact h,b⟩
theorem EY(h:Rdw w (.sl 40 Fv) cs):∃(A:YY) (cap:Nat) (l:List (Pn×PM)),cs=[.slice A (l.map (·.1)).length cap]/\KR w A l (l.map (·.1))/\(l.map (·.1)).length<=9223372036854775807:=by
 obtain⟨A,cap,l,t,⟨k,j⟩,f⟩:=TM (cl:=HU) (R:=λx=>nY x.1 x.2 w) (λxs b=>by obtain⟨P,q,e,g,k2,o,s⟩:=fs b;exact⟨(P,q),e,g,k2,o,s⟩) h;exact⟨A,cap,l,by rw[AA];exact t,fH k f,by rw[AA];exact j⟩
theorem lz(h:Rdw w dJ cs):∃(N:Nd) (q:ND),cs=Es N q/\gX N q w:=by
 obtain⟨_,_,rfl,_,h1,h⟩:=Kq h;obtain⟨_,_,rfl,_,h2,h⟩:=Kq h;obtain⟨_,_,rfl,_,h3,h⟩:=Kq h;obtain⟨_,_,rfl,_,h4,h⟩:=Kq h;obtain⟨_,_,rfl,_,h5,h⟩:=Kq h;obtain⟨_,_,rfl,_,h6,h⟩:=Kq h;obtain⟨_,_,rfl,_,h7,h⟩:=Kq h;obtain⟨_,_,rfl,_,h8,h⟩:=Kq h;obtain⟨_,_,rfl,_,h9,h⟩:=Kq h;obtain⟨_,_,rfl,_,B,h⟩:=Kq h;obtain⟨_,_,rfl,_,S,h⟩:=Kq h;obtain⟨_,_,rfl,_,M,h⟩:=Kq h;obtain⟨_,_,rfl,_,v,h⟩:=Kq h;obtain⟨_,_,rfl,_,u,h⟩:=Kq h;obtain⟨_,_,rfl,_,wJ,h⟩:=Kq h;obtain⟨_,_,rfl,_,o,h⟩:=Kq h;obtain⟨_,_,rfl,_,Q,h⟩:=Kq h;obtain rfl:=h;obtain⟨id,rfl,_⟩:=h1;obtain⟨kd,rfl,_⟩:=h2;obtain⟨dp,rfl,_⟩:=h3;obtain⟨t,rfl,ht⟩:=gJ h4;obtain⟨e,f,cl,rfl,H,j⟩:=Vd (λxs=>ck) h5;obtain⟨cr,rfl,_⟩:=h6;obtain⟨op,rfl⟩:=KN h7;obtain⟨bl,rfl,_⟩:=h8;obtain⟨U,rfl⟩:=h9;obtain⟨ko,rfl⟩:=B;obtain⟨E,T,pa,rfl,J,F⟩:=Vd (λxs=>ck) S;obtain⟨fr,rfl,_⟩:=M;obtain⟨D,R,fl,rfl,b,x⟩:=EY v;obtain⟨_,_,rfl,_,s1,h⟩:=Kq u;obtain⟨_,_,rfl,_,s2,h⟩:=Kq h;obtain⟨_,_,rfl,_,Z,h⟩:=Kq h;obtain⟨_,_,rfl,_,s4,h⟩:=Kq h;obtain⟨_,_,rfl,_,s5,h⟩:=Kq h;obtain⟨_,_,rfl,_,X,h⟩:=Kq h;obtain rfl:=h;obtain⟨sw,rfl,_⟩:=s1;obtain⟨Y,rfl,_⟩:=s2;obtain⟨sc,rfl,_⟩:=Z;obtain⟨sm,rfl,_⟩:=s4;obtain⟨K,s,da,rfl,z,_⟩:=Vd (λxs=>iQ) s5;obtain⟨sp,rfl,_⟩:=X;obtain⟨y,k,sl,rfl,g,L⟩:=EY wJ;obtain⟨_,_,rfl,_,i1,h⟩:=Kq o;obtain⟨_,_,rfl,_,i2,h⟩:=Kq h;obtain⟨_,_,rfl,_,i3,h⟩:=Kq h;obtain rfl:=h;obtain⟨iw,rfl,_⟩:=i1;obtain⟨ih,rfl,_⟩:=i2;obtain⟨wI,G,px,rfl,W,_⟩:=Vd (λxs=>Hr) i3;obtain⟨sa,rfl,_⟩:=Q;exact⟨⟨id,kd,dp,Qt,cl,cr,op,bl,U,ko,pa,fr,fl.map (·.1),⟨sw,Y,sc,sm,da,sp⟩,sl.map (·.1),⟨iw,ih,px⟩,sa⟩,⟨t,e,f,E,T,D,R,fl,K,s,y,k,sl,wI,G⟩,rfl,ht,H,J,b,z,g,W,⟨j,F⟩,x,L⟩
theorem oZ{n c:Nat}{e:Sh}(h:Rdw w (.sl n e) [.slice A m c]):m<=c/\c<=maxLen:=by
 obtain⟨A',g,c',e,f,b,_⟩:=h;simp only[List.cons.injEq,Value.slice.injEq,and_true]at e;obtain⟨rfl,rfl,rfl⟩:=e;exact⟨f,b⟩
theorem e8(h:Rdw w shScene cs):∃(S:Sc) (y:YZ) (nl:List (Nd×ND)),cs=jg S y/\dS w y.1 nl S.nds/\S.nds.length<=y.2/\y.2<=maxLen:=by
 obtain⟨_,_,rfl,_,f,h⟩:=Kq h;obtain⟨_,_,rfl,_,t,h⟩:=Kq h;obtain⟨_,_,rfl,_,o,h⟩:=Kq h;obtain⟨_,_,rfl,_,b,h⟩:=Kq h;obtain rfl:=h;obtain⟨x,rfl,_⟩:=f;obtain⟨y,rfl,_⟩:=t;obtain⟨c,rfl⟩:=Hr o;obtain⟨A,cap,l,rfl,⟨s,_⟩,j⟩:=TM (cl:=λx:Nd×ND=>Es x.1 x.2) (R:=λx=>gX x.1 x.2 w) (λxs g=>by obtain⟨N,q,e,k⟩:=lz g;exact⟨(N,q),e,k⟩) b;exact⟨⟨x,y,c,l.map (·.1)⟩,(A,cap),l,by simp[jg,Pm],⟨rfl,by rw[AA];exact s,j⟩,by rw[AA];exact oZ b⟩
theorem EN{α:Type}{s:Nat}{cl:α->List YI}{R:α->α->Prop}{l:List α}(h:Kk w A l.length s cl l)(f:∀x∈l,∃y,cl y=cl x/\R x y):
 ∃b:List α,b.length=l.length/\Kk w A b.length s cl b/\∀y∈b,∃x∈l,R x y:=by
 have t:∀l:List α,(∀x∈l,∃y,cl y=cl x/\R x y)->∃b:List α,b.map cl=l.map cl/\∀y∈b,∃x∈l,R x y:=by
  intro l;induction l with
  |nil=>exact λ_=>⟨[],rfl,λy F=>by cases F⟩
  | cons a r H=>
   intro f;obtain⟨y,g,v⟩:=f a Zs;obtain⟨Z,j,B⟩:=H λx J=>f x (AK _ J)
   refine⟨y::Z,by simp[g,j],λz o=> ?_⟩;rcases List.mem_cons.1 o with rfl|o
   .exact⟨a,by simp,v⟩
   .obtain⟨x,u,G⟩:=B z o;exact⟨x,AK _ u,G⟩
 obtain⟨b,g,v⟩:=t l f;have E:b.length=l.length:=by simpa using congrArg List.length g
 refine⟨b,E,⟨rfl,λk y D=> ?_⟩,v⟩;have j:(b.map cl)[k]? =some (cl y):=by rw[AC,D];rfl
 rw[g,AC]at j;obtain⟨x,f,e⟩:=AI.1 j;obtain⟨ad,B,u⟩:=h.2 k x f;exact⟨ad,B,by rw[<-e];exact u⟩
theorem Ws{t:TV}(h:OP t=true)(i:qw t w):∃T,S3 t T 8 w:=by
 simp only[OP,List.all_cons,List.all_nil,Bool.and_true,AD,mY,decide_eq_true_eq]at h;obtain⟨⟨u,D⟩,⟨b1,b2⟩,⟨v,c2⟩,⟨E,j⟩,⟨G,F⟩,⟨B,o⟩⟩:=h;have k:∀{r:RV},lC r w->r.a.n<=2->r.b.n<=2->∃q,Nf r q 8 w:=λh Z J=>⟨_,_,_,lV h.1 I,lV h.2 I,rfl⟩
 obtain⟨a,y⟩:=k i.a u D;obtain⟨b,z⟩:=k i.b b1 b2;obtain⟨c,s⟩:=k i.c v c2;obtain⟨d,H⟩:=k i.d E j;obtain⟨e,x⟩:=k i.e G F;obtain⟨f,g⟩:=k i.f B o;exact⟨⟨a,b,c,d,e,f⟩,y,z,s,H,x,g⟩
theorem KS(h:KR w A l Ps)(z:∀x∈l,OP x.2.t=true):∃b:List (Pn×PM),(b.map (·.1)).length=Ps.length/\X5 w A b 8 (b.map (·.1))/\∀P∈b.map (·.1),P.im.px.length<=9223372036854775807/\P.stops.length<=9223372036854775807:=by
 have g:l.length=Ps.length:=by rw[<-h.eq,AA]
 obtain⟨b,s,B,o⟩:=EN (cl:=HU) (R:=λx y=>Jp y.1 y.2 8 w/\y.1.im.px.length<=9223372036854775807/\y.1.stops.length<=9223372036854775807) (show Kk w A l.length 40 HU l by rw[g];exact h.row) λx j=>by
  have e:=h.rd x j;obtain⟨T,v⟩:=Ws (z x j) e.tr;exact⟨({x.1 with T:=T},x.2),rfl,⟨e.st,e.px,v⟩,e.le⟩
 refine⟨b,by rw[AA,s,g],⟨rfl,by rw[AA];exact B,λy f=> ?_⟩,λP u=> ?_⟩
 .obtain⟨x,_,k⟩:=o y f;exact k.1
 .obtain⟨y,f,rfl⟩:=AE.1 u;obtain⟨x,_,k⟩:=o y f;exact k.2
theorem TD(ls:List Sg):ls.length<=M8 ls:=by
 induction ls with
 |nil=>exact AN _
 |cons s r b=>
  have e:=(cq s).1;show r.length+1<=G0 s+M8 r;omega
theorem kF(h:gX N q w)(b:pH (N,q)):∃(N':Nd) (q':ND),Es N' q'=Es N q/\Xo N' q' 8 w/\Jr N'/\nG N':=by
 obtain⟨T,u⟩:=Ws b.t h.tr;obtain⟨fl,v,j,o⟩:=KS h.fi b.fl.2;obtain⟨sl,g,k,y⟩:=KS h.st b.sl.2;have B:=TD N.clip;have D:=TD N.path;have s:M8 N.clip<=24:=b.cl;have c2:M8 N.path<=24:=b.pa;have E:N.im.px.length<=64:=b.px;have x:N.sty.d.length=0:=b.d0;have F:N.fill.length<=2:=by have:=b.fl.1;rw[<-h.fi.eq,AA];exact this
 have z:N.stroke.length<=2:=by have:=b.sl.1;rw[<-h.st.eq,AA];exact this
 refine⟨{N with T:=T,fill:=fl.map (·.1),stroke:=sl.map (·.1)},{q with fl:=fl,sl:=sl},by simp only[Es,v,g],⟨u,h.cl,h.pa,j,h.da,k,h.px⟩,⟨Zn,Zn,Zn,Zn,o,y,Zn,Zn⟩,⟨s,c2,λ_=>⟨AH.1 x,λf=>b.sk λe=>f ?_⟩⟩⟩
 refine AH.1 ?_;show(sl.map (·.1)).length=0
 rw[g,e];rfl
theorem dF{S:Sc}{y:YZ}(h:dS w y.1 nl S.nds)(D:∀x∈nl,pH x):∃(S':Sc) (nl':List (Nd×ND)),(jg S' y=jg S y/\S'.w=S.w/\S'.h=S.h/\S'.bg=S.bg/\S'.nds.length=S.nds.length)/\Jq w y.1 nl' 8 S'.nds/\pW S'.nds/\∀N∈S'.nds,nG N:=by
 have o:nl.length=S.nds.length:=by rw[<-h.eq,AA]
 obtain⟨f,u,E,j⟩:=EN (cl:=λx:Nd×ND=>Es x.1 x.2) (R:=λx y=>Xo y.1 y.2 8 w/\Jr y.1/\nG y.1) (show Kk w y.1 nl.length 47 _ nl by rw[o];exact h.row) λx s=>by
  obtain⟨N',v,e,B,k2,F⟩:=kF (h.rd x s) (D x s);exact⟨(N',v),e,B,k2,F⟩
 have t:(f.map (·.1)).length=S.nds.length:=by rw[AA,u,o]
 refine⟨{S with nds:=f.map (·.1)},f,⟨by simp only[jg,t],rfl,rfl,rfl,t⟩,⟨rfl,by show Kk w y.1 (f.map (·.1)).length 47 _ f;rw[AA];exact E,λz b=> ?_⟩,λN g=> ?_,λN g=> ?_⟩
 .obtain⟨x,_,k⟩:=j z b;exact k.1
 .obtain⟨z,b,rfl⟩:=AE.1 g;obtain⟨x,_,k⟩:=j z b;exact k.2.1
 .obtain⟨z,b,rfl⟩:=AE.1 g;obtain⟨x,_,k⟩:=j z b;exact k.2.2
end
def mr(S:Sc):Prop:=S.w<1\/S.h<1\/(S.w<=8/\S.h<=8)\/S.w>256\/S.h>256
section
variable{w u:YM}{S S':Sc}{y:YZ}{nl:List (Nd×ND)}{R:Rc}{z:YZ}{o:Bool}{D E:Px->Prop}{N0:Nat}
theorem i7(c:RC w S y)(e:S.nds.length=0):Ca 54 #[De S y,.int .i64 (-1)] w (CU w (.slice none 0 0)):=uf func54 rfl<|ZR<|ZC (λf b h=>c f b) λv=>ZI false<|ZI false<|uh 7 (.int .i64 (S.nds.length:Int)) (.int .i64 0) O (by rw[e];rfl)<|uR O<|ZR<|ZR<|ZI false<|ZW (.slice none 0 0)
theorem ki(e:RC w S y)(f:S.nds.length=0):Wd 46 S y R (-1) w D D:=λl z N1 b m j=>by
 have e:=e.below b;refine uf func46 rfl<|ZR<|ZI false<|ZC (λg c h=>i7 (e.below c) f) λk=>uR O<|ZR<|ZR<|ZI false<|ZV (Le (Mp R z)) (λg c h=>⟨z,rfl,c,λ_ _ _=> .inl ⟨rfl,λ_ h=>h⟩⟩)
abbrev tZ(S:Sc)(nl:List (Nd×ND)):={b:Bool // b=true->(S.nds.length<=8/\∀x∈nl,pH x)/\mr S}
theorem ZQ(v:Kk w y.1 S.nds.length 47 (λx:Nd×ND=>Es x.1 x.2) nl)(k:∀x∈nl,pK x w):
 Ca 4 #[De S y] w (K4 w (λb:tZ S nl=> .bool b.1) λ_ _=>True):=by
 refine uf func4 rfl<|ZR<|ZD 6 (λf c h=>j8 (v.below c) (λx t=>(k x t).below c)) λs=> ?_
 obtain⟨s,e⟩:=s;cases s
 .refine ZR<|ZV (.bool false) (λf c h=>⟨⟨false,nofun⟩,rfl,c,Zv⟩)
 have e:=e rfl;refine ZS 6 ?_
 by_cases m:S.w<1
 .refine YE 8 (S.w<1) m<|ZV (.bool true) (λf c h=>⟨⟨true,λ_=>⟨e,.inl m⟩⟩,rfl,c,Zv⟩)
 refine YF 8 (S.w<1) m<|ZS 10 ?_
 by_cases l:S.h<1
 .refine YE 12 (S.h<1) l<|ZV (.bool true) (λf c h=>⟨⟨true,λ_=>⟨e,.inr (.inl l)⟩⟩,rfl,c,Zv⟩)
 refine YF 12 (S.h<1) l<|ZS 15 ?_
 by_cases j:S.w<=8
 .refine YD 17 (S.w<=8) j<|ZS 19 ?_
  by_cases p:S.h<=8
  .refine YE 21 (S.h<=8) p<|ZV (.bool true) (λf c h=>⟨⟨true,λ_=>⟨e,.inr (.inr (.inl ⟨j,p⟩))⟩⟩,rfl,c,Zv⟩)
  refine YF 21 (S.h<=8) p<|ZS 25 ?_
  by_cases g:S.w>256
  .refine YE 27 (S.w>256) g<|ZV (.bool true) (λf c h=>⟨⟨true,λ_=>⟨e,.inr (.inr (.inr (.inl g)))⟩⟩,rfl,c,Zv⟩)
  refine YG 27 (S.w>256) g<|ZV (.bool (decide (S.h>256))) (λf c h=>⟨⟨_,λh=>⟨e,.inr (.inr (.inr (.inr (YP h))))⟩⟩,rfl,c,Zv⟩)
 refine YF 17 (S.w<=8) j<|ZS 25 ?_
 by_cases g:S.w>256
 .refine YE 27 (S.w>256) g<|ZV (.bool true) (λf c h=>⟨⟨true,λ_=>⟨e,.inr (.inr (.inr (.inl g)))⟩⟩,rfl,c,Zv⟩)
 refine YG 27 (S.w>256) g<|ZV (.bool (decide (S.h>256))) (λf c h=>⟨⟨_,λh=>⟨e,.inr (.inr (.inr (.inr (YP h))))⟩⟩,rfl,c,Zv⟩)
abbrev sM(w:YM)(S:Sc)(y:YZ):Prop:=∀b,Below w.heap.size w b->Ca 23 #[De S y] b (CU b (.bool false))
theorem iR(c:sM w S y):Ca 12 #[De S y,Pw 0 0 0 0] w (CU w (.tuple #[Le T9,.int .i64 18])):=uf func12 rfl<|ZR<|ZC (λe b h=>c e b) λv=>ZI true<|ZW (.tuple #[Le T9,.int .i64 18])
theorem bz(c:sM w S y):Ca 13 #[De S y] w (CU w (Pw 0 0 0 0)):=uf func13 rfl<|ZR<|ZC (λe b h=>c e b) λv=>ZI true<|ZW (Pw 0 0 0 0)
theorem jF(f:sM w S y):Ca 6 #[De S y] w (CU w (.tuple #[Le T9,.int .i64 18])):=uf func6 rfl<|ZR<|ZC (λg c h=>bz λe b=>f e (c.trans (b.mono c.size))) λp=>ZC (λg c h=>iR λe b=>f e (c.trans (b.mono c.size))) λr=>ZW (.tuple #[Le T9,.int .i64 18])
abbrev t8(R:Rc)(o:Bool):={ps:List Px // ps.length=R.n/\∀p∈ps,Nm (Zu o) p}
def sR(w:YM)(S:Sc)(y:YZ)(R:Rc)(o:Bool):Prop:=∀b N1,Below w.heap.size w b->N1<=b.heap.size->Ca 6 #[De S y] b (K4 b (λx:(YZ)×t8 R o=> .tuple #[Le (Mp R x.1),.int .i64 0]) λx u=>K6 u N1 38 4 x.1.1 R.n x.1.2 (x.2.1.flatMap S0))
theorem r_(h:∀c,Below w.heap.size w c->Ca 6 #[De S y] c (K4 c (λz:YZ=> .tuple #[Le (Mp R z),.int .i64 0]) λz u=>Ag c.heap.size R (Zu o) z u)):sR w S y R o:=λc N1 l j=>(h c l).mono λe t k=>by
 obtain⟨z,m,k2,v⟩:=k;obtain⟨ps,f,x,s⟩:=v t (AL _) λ_ _ _=>rfl
 exact⟨(z,⟨ps,x,s⟩),m,k2,λu A p=>(f.same λb g=>p b (f.lt b g).1 (f.lt b g).2).rebase λb g=>Nat.le_trans j (f.lt b g).1⟩
theorem gD{w:YM}{A:YY}{n:Nat}{l:List (Nd×ND)}(h:Kk w A n 47 (λx:Nd×ND=>Es x.1 x.2) l)(f:n≠0):∃g o,A=some ⟨g,o,none⟩:=by
 obtain⟨x,b⟩:∃x,l[0]? =some x:=⟨_,AF (by rw[h.1];omega)⟩
 obtain⟨ad,c,_⟩:=h.2 0 x b;subst c;obtain⟨g,o,e⟩:=h.spot b (v:= .int .i64 x.1.id) rfl;exact⟨g,o,by rw[e]⟩
theorem p8(x:ET w)(j:Jq w y.1 nl 8 S.nds)(m:pW S.nds)(G:pX S)(L:S.nds.length<=8)(v:W6 S=true)(J:S.w<=8/\S.h<=8)(M:1<=S.w/\1<=S.h)(Z:o=true->S.bg.2.2.2.toNat=255):sR w S y ⟨0,0,S.w.toNat,S.h.toNat⟩ o:=by
 have f:O4 ⟨0,0,S.w.toNat,S.h.toNat⟩:=⟨by show(0:Int)<=0/\(0:Int)<=3900;decide,by show(0:Int)<=0/\(0:Int)<=3900;decide,Zn,Zn⟩
 have t:Rc.V ⟨0,0,S.w.toNat,S.h.toNat⟩=Pw 0 0 S.w S.h:=by
  show Pw 0 0 (0+(S.w.toNat:Int)) (0+(S.h.toNat:Int))=_;rw[Int.zero_add,Int.zero_add,AB I,AB I]
 have c:sh S ⟨0,0,S.w.toNat,S.h.toNat⟩:=⟨Zn,Zn,by omega,by omega⟩
 have l:RC w S y:=λB b=>Gu (x.below b) (j.below b) m Zd v
 have A:Zu o (Td S.bg).pre:=λe=>Z e
 refine r_ λB b=> ?_
 by_cases p:S.nds.length=0
 .exact VF (l.below b) f t c A (ki (l.below b) p) (AL _)
 .obtain⟨H,F⟩:=y;obtain⟨g,s,k⟩:=gD j.row p;have k:H=some ⟨g,s,none⟩:=k;subst k;have K:Py w S g s F nl:=⟨x,j,m,v,L⟩
  exact VF (l.below b) f t c A (gI f G (K.below b)) (AL _)
theorem VO(K:ET w)(hr:Kk w y.1 S.nds.length 47 (λx:Nd×ND=>Es x.1 x.2) nl)(G:∀x∈nl,pK x w)(m:(S.nds.length<=8/\∀x∈nl,pH x)/\mr S->sM w S y\/∃R,(O4 R/\(R.n:Int)=S.w*S.h)/\sR w S y R (S.bg.2.2.2.toNat==255)):
 Ca 3 #[De S y] w (CU w (.bool true)):=by
 refine uf func3 rfl<|ZR<|ZC (λc b h=>ZQ (hr.below b) (λx Y=>(G x Y).below b)) λs=> ?_
 obtain⟨s,Z⟩:=s;cases s
 .exact ZJ (!false) true (rfl)<|ZC (λc b h=>Is (K.below b)) λe=>ZW (.bool true)
 refine ZJ (!true) false (rfl) ?_;rcases m (Z rfl)with hF|⟨R,⟨L,X⟩,U⟩
 .exact ZC (λc b h=>jF λw2 B=>hF w2 (b.trans (B.mono b.size))) λM=>ZI true<|ZC (λc b h=>Is (K.below b)) λe=>ZW (.bool true)
 have wJ:=L.n;refine ZC (λc b h=>U c w.heap.size b b.size) λM=> ?_
 obtain⟨z,ps,t,A⟩:=M;refine ZI false<|uj (ι:={i:Nat // i<=R.n}) 63 (λi=>⟨[(1,.p 1 0),vV 2 (.bool false),(3,.p 3 0),vI 5 (i.1:Nat)],[(1,(jg S y).map .v),(3,(Ob (Mp R z)).map .v)]⟩) (λ_ u=>K6 u w.heap.size 38 4 z.1 R.n z.2 (ps.flatMap S0)) (λi=>R.n-i.1) (⟨0,AN _⟩) O Zf Zt (λu h=>h.2) ?_
 rintro⟨i,hi⟩ gg;have hi:i<=R.n:=hi;have H:∀u,K6 u w.heap.size 38 4 z.1 R.n z.2 (ps.flatMap S0)->Xm u R (Zu (S.bg.2.2.2.toNat==255)) z:=λu h=>Ag.toP (N:=w.heap.size) ⟨ps,h,t,A⟩
 by_cases f:i<R.n
 case neg=>
  exact ZR<|YN ((i:Int)<(R.n:Int))<|ug O<|ZR<|ZD 12 (λc b h=>V3 L (.row z _ (H _ h))) λbv=>ZT 58 (.bool ((R.n:Int)==XQ.wrap (S.w*S.h))) (.bool true) (by rw[IntWalk.i64_in _ I,<-X];simp)<|ZC (λc b h=>Is (K.below b)) λe=>ZW (.bool true)
 obtain⟨p,Q⟩:∃v,ps[i]? =some v:=⟨_,AF (by rw[t];exact f)⟩
 have l:=A p (List.mem_of_getElem? Q);refine um (p:=∃gq,z.1=some ⟨gq,0,none⟩) (λc b h=>by obtain⟨gq,T,_⟩:=h.cells I;exact⟨gq,T⟩) O (λJ=> ?_);obtain⟨gq,J⟩:=J;obtain⟨zA,F⟩:=z;obtain rfl:zA=some ⟨gq,0,none⟩:=J;have k:∀(c:YM),K6 c w.heap.size 38 4 (some ⟨gq,0,none⟩) R.n F (ps.flatMap S0)->∀(j:Nat) (v:YI),(S0 p)[j]? =some v->c.cell? ⟨gq,i*4+j,none⟩=some v:=λc h j v W=>by
  obtain⟨_,e,g⟩:=h.cells I;injection e with e;injection e with e;subst e;exact g _ _ (Mr Vg _ i p j _ Q W)
 refine ZR<|YL ((i:Int)<(R.n:Int))<|ZA (Kd 31 (.slice (some ⟨gq,0,none⟩) R.n F) i) (.pointer (some ⟨gq,i*4,none⟩)) (λc b h=>Kc (elem:=38) O O f)<|ZA (Ke 38 ⟨gq,i*4,none⟩) (Ls p) (λc b h=>Ka (vs:=S0 p) O O (k _ h))<|ZD 13 (λc b h=>KP l.1.1) λcv=> ?_
 by_cases P:S.bg.2.2.2.toNat=255
 .have wI:p.a=255:=l.2 (by simpa using P);refine ZT 37 (.bool ((S.bg.2.2.2.toNat:Int)==255)) (.bool true) (by rw[P];rfl)<|uw (Kd 31 (.slice (some ⟨gq,0,none⟩) R.n F) i) (.pointer (some ⟨gq,i*4,none⟩)) O (λc b h=>Kc (elem:=38) O O f)<|ZS 17<|ZA (Au 38 ⟨gq,i*4,none⟩ 3) (.pointer (some ⟨gq,i*4+3,none⟩)) (λc b h=>R0 (d:=3) O)<|ZA (Ke 5 ⟨gq,i*4+3,none⟩) (.int .u8 (p.a:Nat)) (λc b h=>Kh O (k _ h.1 3 _ rfl))<|ZJ (((p.a:Int) !=255)) false (by rw[wI];rfl)<|YA 5 i f<|ui (⟨i+1,f⟩) O Zn Zt (λu h=>h.1)
 .refine ZT 37 (.bool ((S.bg.2.2.2.toNat:Int)==255)) (.bool false) (by rw[YR.2 I])<|ZI false<|YA 5 i f<|ui (⟨i+1,f⟩) O Zn Zt (λu h=>h.1)
theorem rF(k:ET w)(b:dS w y.1 nl S.nds):Ca 3 #[De S y] w (CU w (.bool true)):=by
 refine VO k b.row (λx c=>⟨⟨(b.rd x c).cl,(b.rd x c).le.1.1⟩,⟨(b.rd x c).pa,(b.rd x c).le.1.2⟩,⟨(b.rd x c).fi.row,(b.rd x c).le.2.1⟩,⟨(b.rd x c).st.row,(b.rd x c).le.2.2⟩⟩) λ⟨⟨M,H⟩,v⟩=> ?_
 obtain⟨S',B,⟨J,Z,A,K,L⟩,m,l,G⟩:=dF b H;have t:De S y=De S' y:=by unfold De;rw[J]
 cases j:W6 S'
 .exact .inl λp f=>by rw[t];exact Gu (k.below f) (m.below f) l Zd j
 have s:(1<=S'.w/\S'.w<=256)/\1<=S'.h/\S'.h<=256:=by
  have:=j;unfold W6 fd at this;simp only[AD,Bool.not_eq_true',Bool.or_eq_false_iff,decide_eq_false_iff_not]at this;omega
 unfold mr at v;refine .inr ⟨⟨0,0,S'.w.toNat,S'.h.toNat⟩,⟨⟨by show(0:Int)<=0/\(0:Int)<=3900;decide,by show(0:Int)<=0/\(0:Int)<=3900;decide,Zn,Zn⟩,by show((S'.w.toNat*S'.h.toNat:Nat):Int)=_;rw[Int.natCast_mul,AB I,AB I,Z,A]⟩,?_⟩;have g:=p8 (o:=S.bg.2.2.2.toNat==255) k m l G I j I ⟨s.1.1,s.2.1⟩ (λe=>by rw[K];simpa using e);intro p N1 f F;rw[t];exact g p N1 f F
def Done(w:YM)(e:XS)(b:YM):Prop:=e= .returned (.bool true)/\Below w.heap.size w b
theorem eK{e:XS}{b:YM}(h:K4 w (λ_:Unit=> .bool true) (λ_ _=>True) e b):Done w e b:=⟨h.choose_spec.1,h.choose_spec.2.1⟩
theorem rowValid{b:List YI}(c:ET w)(f:Rdw w shScene b):Ca 3 #[.agg b.toArray] w (Done w):=by
 obtain⟨S,y,nl,rfl,e,_⟩:=e8 f;exact(rF c e).mono λ_ _ h=>eK h
end
end Go.Proofs.YtoakjcolbjifnaaGreatDoor
