import Derived.Test.YtmnlkganmgcpbaaGreatDoorQi24
set_option maxRecDepth 100000
set_option maxHeartbeats 4000000
set_option linter.unusedVariables false
set_option linter.unusedSectionVars false
set_option linter.unusedSimpArgs false
set_option linter.defProp false
open Go.Value renaming int->I
open Go.IntKind renaming i64->J
open Bool renaming false->R,true->wP,false_eq_true->Ax
open Option renaming none->U,some->gk
open Go renaming World->wR,Calls->wS,Value->xf,info_parts->CB,wpList_make_own->Vd
open Go.Proofs.Tryz renaming prog->w1,underlying64->z1,underlying40->Vy
open Go.RowKit renaming Hid->w2,Below->y5
open Go.RowKit.Below renaming refl->w3
open Nat renaming le_refl->w5,le_trans->x3
open List renaming length_append->w9,getD->x4,append_assoc->y6,length_take->Ai,take_of_length_le->CK,length_nil->HB
open _root_ renaming congrArg->z7,if_true->Qk,if_false->Rk
open Go.Proofs.Tryz
namespace Go.Proofs.YtmnlkganmgcpbaaGreatDoor
section
open Go.RowKit
theorem Pp (L:Nat) (c:Bool) (a:Nat):rN L c a=if c=wP then 4* (L-a)+9 else 4* (L-a)+12:=rfl
def fR (n:Nat) (w:wR) (v:xf) (b:List Pt):Prop:=SP w v b/\∀A m k a,v= .slice A m k->A=gk a->n<=a.block
theorem fR.bL {W:wR} {base:Nat} {e:TypeId} {n:Nat} {v:xf} {b:List Pt} (h:W.ownsRow base e 2 v n (b.flatMap fZ)):fR base W v b:=by
 refine⟨SP.bL h,λA m k i e1 e2=>?_⟩;subst e1 e2;rcases h.2 with⟨a,-⟩|⟨g,cap,j,a,c,-⟩
 ·cases a
 ·injection a with a _ _;injection a with a;rw[a];exact c
theorem fR.below {n:Nat} {W a:wR} {v:xf} {b:List Pt} (h:fR n W v b) (hb:af W a):fR n a v b:=⟨h.1.below hb,h.2⟩
theorem fR.mono {n m:Nat} {W:wR} {v:xf} {b:List Pt} (h:fR n W v b) (c:m<=n):fR m W v b:=⟨h.1,λA a k d e1 e2=>x3 c (h.2 A a k d e1 e2)⟩
theorem Dj (a b c d:xf):(#[a,b]++#[c,d]:Array xf)=#[a,b,c,d]:=by simp
theorem mA (a b c d e:xf):(#[a,b]++#[c,d,e]:Array xf)=#[a,b,c,d,e]:=by simp
theorem KA (L:Nat) (w:wR) (H:L<=32):wS w1 46 #[bX L wP] w λe T=>∃v,e= .returned v/\fR w.heap.size T v (cO L wP)/\af w T:=by
 obtain⟨c4,c5,c9,da,dd⟩:=CB qq;have K:=fI w L wP;have de:w2 (∀W,wS w1 92 #[bX L wP] W λe T=>∃hb D,e= .returned (.func (Fn.func 137) #[] #[])/\(wP=R->HC L T hb D)/\af W T):=λW=>uv L wP W H;have b7:w2 (∀W,wS w1 85 #[bX L wP] W (au (I J ((aE L wP:Nat):Int)) W)):=λW=>tf L wP W H;have b9:w2 (∀W,wS w1 89 #[bX L wP] W (au (I J ((gX L wP:Nat):Int)) W)):=λW=>yz L wP W H;have Y:w2 (L<=32):=H;have di:=aa (jc (c:=wP) H);have dl:=aa (room_le (c:=wP) H);obtain⟨bz,b1⟩:=di.out;have cy:=dl.out;obtain⟨M,ca⟩:∃M,M=aE L wP-1:=⟨_,rfl⟩;have cp:((aE L wP:Nat):Int)-1=(M:Int):=oO;have d7:=aa ca;have ef:M<=141:=oO;obtain⟨cK,F⟩:∃cK,cK=gX L wP:=⟨_,rfl⟩;rw[<-F]at b9 cy;clear ca F;obtain⟨B,hB⟩:∃B,B=aE L wP:=⟨_,rfl⟩;rw[<-hB]at b7 bz b1 cp;clear hB;obtain⟨ad,N⟩:∃ad,ad=w.alloc (cN L wP):=⟨_,rfl⟩;have dn:w2 (af w ad):=by show y5 _ _ _;rw[N];exact ax _ _
 have Z:w2 (ag ad w.heap.size #[I J L,.bool wP] 60):=by show ag _ _ _ _;rw[N];exact ag.new _ _ _ _ oS
 rw[<-N]at K;obtain⟨x,E⟩:=K.out _ (w3 _ _);rw[N]at x E;have ds:∀(W:wR) (a:Addr) (a8:Fn) (b c:Array xf),(store a (.func a8 b c)).run w1 W=stored w1 W a (.func a8 b c) .plain:=λW a a8 b c=>run_store _ W a _ _ rfl;go_enter func46,ntmps46
 go_wp2_with(first
  |(go_at_call 92;refine(de.out _).mono ?_;rintro e S ⟨hb,D,rfl,cb,bf⟩;rw[<-N]at bf;have u:=aa bf;have c8:=aa cb;clear bf cb x E;obtain⟨x,E⟩:=K.out _ u.out;have a9:w.heap.size<S.heap.size:=ay (Z.out.below u.out))
  |(go_at_call 85;refine(b7.out _).mono ?_;rintro e V ⟨rfl,ce⟩;have y:=aa ce;clear ce x E;obtain⟨x,E⟩:=K.out _ (ae (ah u.out _) y.out);have c6:w.heap.size<V.heap.size:=ay (Z.out.below (ae (ah u.out _) y.out)))
  |(go_at_call 89;refine(b9.out _).mono ?_;rintro e i ⟨rfl,ch⟩;have G:=aa ch;clear ch x E;obtain⟨x,E⟩:=K.out _ (ae (ah (ae (ah u.out _) y.out) _) G.out);have s3:w.heap.size<i.heap.size:=ay (Z.out.below (ae (ah (ae (ah u.out _) y.out) _) G.out)))
  |(at_make;refine Vd _ rfl _ _ _ rfl i.heap.size 47 c4 _ 2 Vy c5 c9 da .i64 .i64 _ cK rfl rfl (by first|rfl|omega) (by rw[dd];omega) oM (w5 _) ?_;intro al cq hg;have d8:=aa cq;have a7:w2 (af i al):=(w3 _ _).grown hg (w5 _) (λq hq=>by cases hq);clear cq hg x E;obtain⟨x,E⟩:=K.out _ (ae (ae (ah (ae (ah u.out _) y.out) _) G.out) a7.out);have c7:w.heap.size<al.heap.size:=ay (Z.out.below (ae (ae (ah (ae (ah u.out _) y.out) _) G.out) a7.out))))
 obtain⟨C,a0⟩:∃C,C=al.alloc (.cells #[.slice (gk ⟨i.heap.size,0,U⟩) 0 cK] 40):=⟨_,rfl⟩;obtain⟨t,be⟩:∃t,t=al.heap.size:=⟨_,rfl⟩;have a6:w2 (af i C):=by show y5 _ _ _;rw[a0];exact ah a7.out _
 obtain⟨n,bt⟩:∃n,n=S.heap.size:=⟨_,rfl⟩;obtain⟨lb,bv⟩:∃lb,lb=V.heap.size:=⟨_,rfl⟩;have c2:ag (S.alloc (.cells #[.func (Fn.func 137) #[] #[]] 77)) S.heap.size #[.func (Fn.func 137) #[] #[]] 77:=ag.new _ _ _ _ oS;have c3:ag (V.alloc (.cells #[I J (M:Int)] 3)) V.heap.size #[I J (M:Int)] 3:=ag.new _ _ _ _ oS;have av:af V i:=dT G.out;have dv:w2 (pH L wP n lb hb D C):=by
  exact R7
 have ci:=aa (ae dn.out (ae u.out (ae (dT y.out) av)));have bi:w2 (ag C w.heap.size #[I J L,.bool wP] 60):=((((Z.out.below u.out).below (dT y.out)).below av)).below a6.out;have ck:w2 (BP i.heap.size i C t (iL L wP 0)):=by
  exact SD
 have am:=eu bi.out;rw[<-a0,<-be,<-bt,<-bv];have O:w2 (bg C C):=bg.refl _;clear a9 c6 s3 c7 ds a0 be bt bv c2 c3 av x E N cp cy bz b1;go_wp2;clear am;go_loopw [23] (λbb wr=>∃f:Nat,f<=L/\bb=I J f/\w2 (BP i.heap.size i wr t (iL L wP f)/\bg C wr)) (λbb _=>L-(intOf bb).toNat)
 case atStart=>exact⟨0,Nat.zero_le _,rfl,ck.out,O.out⟩
 case round=>
  clear ck O;obtain⟨f,ec,rfl,F⟩:=hrel;by_cases dx:f<L
  ·obtain⟨d,b2⟩:∃d,d=L-f:=⟨_,rfl⟩;have dy:(L:Int)-(f:Int)=(d:Int):=oO;obtain⟨r,ap⟩:∃r,r=rN L wP f:=⟨_,rfl⟩;have a1:r<=140:=by rw[ap];exact Dn H
   have P:=aa ap;have dz:4* (d:Int)+9=(r:Int):=by have bd:=Pp L wP f;simp at bd;rw[ap,bd,b2];omega
   have ed:d<=32:=oO;obtain⟨o,ab⟩:∃o,o=wr.alloc (.cells #[I J (f:Int)] 3):=⟨_,rfl⟩;obtain⟨p,Q⟩:∃p,p=wr.heap.size:=⟨_,rfl⟩;have co:w2 (af wr o):=by show y5 _ _ _;rw[ab];exact ax _ _
   have ac:w2 (ag o p #[I J (f:Int)] 3):=by show ag _ _ _ _;rw[ab,Q];exact ag.new _ _ _ _ oS
   have O:w2 (bg C o):=F.out.2.trans (bg.below co.out);have dE:w2 (BP i.heap.size i o t (iL L wP f++sL L wP f 0)):=by show BP _ _ _ _ _;rw[show sL L wP f 0=[]from rfl,List.append_nil];exact F.out.1.below co.out
   have a2:w2 (pH L wP n lb hb D o):=dv.out.fP O.out;have am:=eu (bi.out.j7 O.out rfl);have X:=eu ac.out;have a3:=aa dx;have a9:w.heap.size<wr.heap.size:=ay (bi.out.j7 F.out.2 rfl);rw[ab]at am X;rw[Q]at X;clear b2 ap;have cr:w2 (∀W,bg o W->∀g k,g<r->k<2->wS w1 94 #[I J ((g:Nat):Int),I J ((k:Nat):Int),.pointer (gk ⟨n,0,U⟩),.pointer (gk ⟨p,0,U⟩)] W (au (.agg #[I J (((cM L wP f 0 g k).1:Nat):Int),I J (((cM L wP f 0 g k).2:Nat):Int)]) W)):=by
    show∀W,_;intro W j g k l m;exact I1 L wP n lb p hb D f g k W Y.out a3.out (by rw[<-P.out];exact l) m (a2.out.fP j) (ac.out.j7 j rfl)
   have cs:w2 (∀W,bg o W->∀g k,g<r->k<2->wS w1 95 #[I J ((g:Nat):Int),I J ((k:Nat):Int),.pointer (gk ⟨n,0,U⟩),.pointer (gk ⟨p,0,U⟩),.pointer (gk ⟨lb,0,U⟩)] W (au (.agg #[I J (((cM L wP f 1 g k).1:Nat):Int),I J (((cM L wP f 1 g k).2:Nat):Int)]) W)):=by
    show∀W,_;intro W j g k l m;exact Ho L wP n lb p hb D f g k W Y.out a3.out (by rw[<-P.out];exact l) m (a2.out.fP j) (ac.out.j7 j rfl)
   have cv:w2 (∀W,bg o W->∀g k,g<r->k<2->wS w1 96 #[I J ((g:Nat):Int),I J ((k:Nat):Int),.pointer (gk ⟨n,0,U⟩),.pointer (gk ⟨lb,0,U⟩),.pointer (gk ⟨p,0,U⟩)] W (au (.agg #[I J (((cM L wP f 2 g k).1:Nat):Int),I J (((cM L wP f 2 g k).2:Nat):Int)]) W)):=by
    show∀W,_;intro W j g k l m;exact Ic L wP n lb p hb D f g k W Y.out a3.out (by rw[<-P.out];exact l) m (a2.out.fP j) (ac.out.j7 j rfl)
   have cx:w2 (∀W,bg o W->∀g k,g<r->k<2->wS w1 97 #[I J ((g:Nat):Int),I J ((k:Nat):Int),.pointer (gk ⟨n,0,U⟩),.pointer (gk ⟨lb,0,U⟩),.pointer (gk ⟨p,0,U⟩)] W (au (.agg #[I J (((cM L wP f 3 g k).1:Nat):Int),I J (((cM L wP f 3 g k).2:Nat):Int)]) W)):=by
    show∀W,_;intro W j g k l m;exact Hv L wP n lb p hb D f g k W Y.out a3.out (by rw[<-P.out];exact l) m (a2.out.fP j) (ac.out.j7 j rfl)
   have a4:w2 (∀s,s<=4->(iL L wP f++sL L wP f s).length<=60000):=by
    show∀s,_;intro s hs;rw[w9,mL];have bd:=Dk (c:=wP) Y.out f;have d9:s* (2* rN L wP f)<=4* (2* 140):=Nat.mul_le_mul hs (by rw[<-P.out];omega);omega
   have a5:w2 (∀s,iL L wP f++sL L wP f (s+1)=iL L wP f++sL L wP f s++jL L wP f s r):=by
    show∀s,_;intro s;rw[wB,<-P.out,y6]
   rw[<-Q]at X;rw[Q]at X;go_wp2_with fail
   rw[<-ab,<-Q];clear a9 am X dz dy ab Q;refine(kr i.heap.size i _ t (iL L wP f++sL L wP f 0) 94 #[.pointer (gk ⟨n,0,U⟩),.pointer (gk ⟨p,0,U⟩)] L f 0 r wP dE.out (a4.out 0 oO) a1 (λargs W=>by go_simp) (λW j g l=>by rw[Dj];exact cr.out W (j) g 0 l oO) (λW j g l=>by rw[Dj];exact cr.out W (j) g 1 l oO)).mono ?_;rintro e v0 ⟨rfl,z,m⟩;have u:w2 (BP i.heap.size i v0 t (iL L wP f++sL L wP f 1)):=by show BP _ _ _ _ _;rw[a5.out 0];exact z
   have bo:w2 (bg o v0):=m;clear z m;go_wp2_with fail
   refine(kr i.heap.size i _ t (iL L wP f++sL L wP f 1) 95 #[.pointer (gk ⟨n,0,U⟩),.pointer (gk ⟨p,0,U⟩),.pointer (gk ⟨lb,0,U⟩)] L f 1 r wP u.out (a4.out 1 oO) a1 (λargs W=>by go_simp) (λW j g l=>by rw[mA];exact cs.out W ((bo.out.trans j)) g 0 l oO) (λW j g l=>by rw[mA];exact cs.out W ((bo.out.trans j)) g 1 l oO)).mono ?_;rintro e v1 ⟨rfl,z,m⟩;have y:w2 (BP i.heap.size i v1 t (iL L wP f++sL L wP f 2)):=by show BP _ _ _ _ _;rw[a5.out 1];exact z
   have bq:w2 (bg o v1):=bo.out.trans m;clear z m;go_wp2_with fail
   refine(kr i.heap.size i _ t (iL L wP f++sL L wP f 2) 96 #[.pointer (gk ⟨n,0,U⟩),.pointer (gk ⟨lb,0,U⟩),.pointer (gk ⟨p,0,U⟩)] L f 2 r wP y.out (a4.out 2 oO) a1 (λargs W=>by go_simp) (λW j g l=>by rw[mA];exact cv.out W ((bq.out.trans j)) g 0 l oO) (λW j g l=>by rw[mA];exact cv.out W ((bq.out.trans j)) g 1 l oO)).mono ?_;rintro e b3 ⟨rfl,z,m⟩;have G:w2 (BP i.heap.size i b3 t (iL L wP f++sL L wP f 3)):=by show BP _ _ _ _ _;rw[a5.out 2];exact z
   have bs:w2 (bg o b3):=bq.out.trans m;clear z m;go_wp2_with fail
   refine(kr i.heap.size i _ t (iL L wP f++sL L wP f 3) 97 #[.pointer (gk ⟨n,0,U⟩),.pointer (gk ⟨lb,0,U⟩),.pointer (gk ⟨p,0,U⟩)] L f 3 r wP G.out (a4.out 3 oO) a1 (λargs W=>by go_simp) (λW j g l=>by rw[mA];exact cx.out W ((bs.out.trans j)) g 0 l oO) (λW j g l=>by rw[mA];exact cx.out W ((bs.out.trans j)) g 1 l oO)).mono ?_;rintro e b4 ⟨rfl,z,m⟩;have d0:w2 (BP i.heap.size i b4 t (iL L wP f++sL L wP f 4)):=by show BP _ _ _ _ _;rw[a5.out 3];exact z
   have d1:w2 (bg o b4):=bs.out.trans m;clear z m;have d2:w2 (iL L wP (f+1)=iL L wP f++sL L wP f 4):=sq L wP f;go_wp2;exact⟨⟨f+1,by omega,by go_num,by rw[d2.out];exact d0.out,O.out.trans d1.out⟩,by simp[intOf];omega⟩
  ·obtain rfl:f=L:=oO;obtain⟨A,ea,b5,b6⟩:=F.out.1.X;have x:=eu b5;have d3:=aa b6;have d4:=aa F.out.1.B;clear b5 b6;go_wp2;go_ret;exact⟨_,rfl,(fR.bL d3.out).mono ci.out.size,ae ci.out d4.out⟩
theorem Jp (L:Nat) (w:wR) (H:L<=32):wS w1 46 #[bX L R] w λe T=>∃v,e= .returned v/\fR w.heap.size T v (cO L R)/\af w T:=by
 obtain⟨c4,c5,c9,da,dd⟩:=CB qq;have K:=fI w L R;have de:w2 (∀W,wS w1 92 #[bX L R] W λe T=>∃hb D,e= .returned (.func (Fn.func 138) #[] #[.pointer (gk ⟨hb,0,U⟩),.pointer (gk ⟨D,0,U⟩)])/\(R=R->HC L T hb D)/\af W T):=λW=>uv L R W H;have b7:w2 (∀W,wS w1 85 #[bX L R] W (au (I J ((aE L R:Nat):Int)) W)):=λW=>tf L R W H;have b9:w2 (∀W,wS w1 89 #[bX L R] W (au (I J ((gX L R:Nat):Int)) W)):=λW=>yz L R W H;have Y:w2 (L<=32):=H;have di:=aa (jc (c:=R) H);have dl:=aa (room_le (c:=R) H);obtain⟨bz,b1⟩:=di.out;have cy:=dl.out;obtain⟨M,ca⟩:∃M,M=aE L R-1:=⟨_,rfl⟩;have cp:((aE L R:Nat):Int)-1=(M:Int):=oO;have d7:=aa ca;have ef:M<=141:=oO;obtain⟨cK,F⟩:∃cK,cK=gX L R:=⟨_,rfl⟩;rw[<-F]at b9 cy;clear ca F;obtain⟨B,hB⟩:∃B,B=aE L R:=⟨_,rfl⟩;rw[<-hB]at b7 bz b1 cp;clear hB;obtain⟨ad,N⟩:∃ad,ad=w.alloc (cN L R):=⟨_,rfl⟩;have dn:w2 (af w ad):=by show y5 _ _ _;rw[N];exact ax _ _
 have Z:w2 (ag ad w.heap.size #[I J L,.bool R] 60):=by show ag _ _ _ _;rw[N];exact ag.new _ _ _ _ oS
 rw[<-N]at K;obtain⟨x,E⟩:=K.out _ (w3 _ _);rw[N]at x E;have ds:∀(W:wR) (a:Addr) (a8:Fn) (b c:Array xf),(store a (.func a8 b c)).run w1 W=stored w1 W a (.func a8 b c) .plain:=λW a a8 b c=>run_store _ W a _ _ rfl;go_enter func46,ntmps46
 go_wp2_with(first
  |(go_at_call 92;refine(de.out _).mono ?_;rintro e S ⟨hb,D,rfl,cb,bf⟩;rw[<-N]at bf;have u:=aa bf;have c8:=aa cb;clear bf cb x E;obtain⟨x,E⟩:=K.out _ u.out;have a9:w.heap.size<S.heap.size:=ay (Z.out.below u.out))
  |(go_at_call 85;refine(b7.out _).mono ?_;rintro e V ⟨rfl,ce⟩;have y:=aa ce;clear ce x E;obtain⟨x,E⟩:=K.out _ (ae (ah u.out _) y.out);have c6:w.heap.size<V.heap.size:=ay (Z.out.below (ae (ah u.out _) y.out)))
  |(go_at_call 89;refine(b9.out _).mono ?_;rintro e i ⟨rfl,ch⟩;have G:=aa ch;clear ch x E;obtain⟨x,E⟩:=K.out _ (ae (ah (ae (ah u.out _) y.out) _) G.out);have s3:w.heap.size<i.heap.size:=ay (Z.out.below (ae (ah (ae (ah u.out _) y.out) _) G.out)))
  |(at_make;refine Vd _ rfl _ _ _ rfl i.heap.size 47 c4 _ 2 Vy c5 c9 da .i64 .i64 _ cK rfl rfl (by first|rfl|omega) (by rw[dd];omega) oM (w5 _) ?_;intro al cq hg;have d8:=aa cq;have a7:w2 (af i al):=(w3 _ _).grown hg (w5 _) (λq hq=>by cases hq);clear cq hg x E;obtain⟨x,E⟩:=K.out _ (ae (ae (ah (ae (ah u.out _) y.out) _) G.out) a7.out);have c7:w.heap.size<al.heap.size:=ay (Z.out.below (ae (ae (ah (ae (ah u.out _) y.out) _) G.out) a7.out))))
 obtain⟨C,a0⟩:∃C,C=al.alloc (.cells #[.slice (gk ⟨i.heap.size,0,U⟩) 0 cK] 40):=⟨_,rfl⟩;obtain⟨t,be⟩:∃t,t=al.heap.size:=⟨_,rfl⟩;have a6:w2 (af i C):=by show y5 _ _ _;rw[a0];exact ah a7.out _
 obtain⟨n,bt⟩:∃n,n=S.heap.size:=⟨_,rfl⟩;obtain⟨lb,bv⟩:∃lb,lb=V.heap.size:=⟨_,rfl⟩;have c2:ag (S.alloc (.cells #[.func (Fn.func 138) #[] #[.pointer (gk ⟨hb,0,U⟩),.pointer (gk ⟨D,0,U⟩)]] 77)) S.heap.size #[.func (Fn.func 138) #[] #[.pointer (gk ⟨hb,0,U⟩),.pointer (gk ⟨D,0,U⟩)]] 77:=ag.new _ _ _ _ oS;have c3:ag (V.alloc (.cells #[I J (M:Int)] 3)) V.heap.size #[I J (M:Int)] 3:=ag.new _ _ _ _ oS;have av:af V i:=dT G.out;have dv:w2 (pH L R n lb hb D C):=by
  exact R7
 have ci:=aa (ae dn.out (ae u.out (ae (dT y.out) av)));have bi:w2 (ag C w.heap.size #[I J L,.bool R] 60):=((((Z.out.below u.out).below (dT y.out)).below av)).below a6.out;have ck:w2 (BP i.heap.size i C t (iL L R 0)):=by
  exact SD
 have am:=eu bi.out;rw[<-a0,<-be,<-bt,<-bv];have O:w2 (bg C C):=bg.refl _;clear a9 c6 s3 c7 ds a0 be bt bv c2 c3 av x E N cp cy bz b1;go_wp2;clear am;go_loopw [23] (λbb wr=>∃f:Nat,f<=L/\bb=I J f/\w2 (BP i.heap.size i wr t (iL L R f)/\bg C wr)) (λbb _=>L-(intOf bb).toNat)
 case atStart=>exact⟨0,Nat.zero_le _,rfl,ck.out,O.out⟩
 case round=>
  clear ck O;obtain⟨f,ec,rfl,F⟩:=hrel;by_cases dx:f<L
  ·obtain⟨d,b2⟩:∃d,d=L-f:=⟨_,rfl⟩;have dy:(L:Int)-(f:Int)=(d:Int):=oO;obtain⟨r,ap⟩:∃r,r=rN L R f:=⟨_,rfl⟩;have a1:r<=140:=by rw[ap];exact Dn H
   have P:=aa ap;have dz:4* (d:Int)+12=(r:Int):=by have bd:=Pp L R f;simp at bd;rw[ap,bd,b2];omega
   have ed:d<=32:=oO;obtain⟨o,ab⟩:∃o,o=wr.alloc (.cells #[I J (f:Int)] 3):=⟨_,rfl⟩;obtain⟨p,Q⟩:∃p,p=wr.heap.size:=⟨_,rfl⟩;have co:w2 (af wr o):=by show y5 _ _ _;rw[ab];exact ax _ _
   have ac:w2 (ag o p #[I J (f:Int)] 3):=by show ag _ _ _ _;rw[ab,Q];exact ag.new _ _ _ _ oS
   have O:w2 (bg C o):=F.out.2.trans (bg.below co.out);have dE:w2 (BP i.heap.size i o t (iL L R f++sL L R f 0)):=by show BP _ _ _ _ _;rw[show sL L R f 0=[]from rfl,List.append_nil];exact F.out.1.below co.out
   have a2:w2 (pH L R n lb hb D o):=dv.out.fP O.out;have am:=eu (bi.out.j7 O.out rfl);have X:=eu ac.out;have a3:=aa dx;have a9:w.heap.size<wr.heap.size:=ay (bi.out.j7 F.out.2 rfl);rw[ab]at am X;rw[Q]at X;clear b2 ap;have cr:w2 (∀W,bg o W->∀g k,g<r->k<2->wS w1 94 #[I J ((g:Nat):Int),I J ((k:Nat):Int),.pointer (gk ⟨n,0,U⟩),.pointer (gk ⟨p,0,U⟩)] W (au (.agg #[I J (((cM L R f 0 g k).1:Nat):Int),I J (((cM L R f 0 g k).2:Nat):Int)]) W)):=by
    show∀W,_;intro W j g k l m;exact I1 L R n lb p hb D f g k W Y.out a3.out (by rw[<-P.out];exact l) m (a2.out.fP j) (ac.out.j7 j rfl)
   have cs:w2 (∀W,bg o W->∀g k,g<r->k<2->wS w1 95 #[I J ((g:Nat):Int),I J ((k:Nat):Int),.pointer (gk ⟨n,0,U⟩),.pointer (gk ⟨p,0,U⟩),.pointer (gk ⟨lb,0,U⟩)] W (au (.agg #[I J (((cM L R f 1 g k).1:Nat):Int),I J (((cM L R f 1 g k).2:Nat):Int)]) W)):=by
    show∀W,_;intro W j g k l m;exact Ho L R n lb p hb D f g k W Y.out a3.out (by rw[<-P.out];exact l) m (a2.out.fP j) (ac.out.j7 j rfl)
   have cv:w2 (∀W,bg o W->∀g k,g<r->k<2->wS w1 96 #[I J ((g:Nat):Int),I J ((k:Nat):Int),.pointer (gk ⟨n,0,U⟩),.pointer (gk ⟨lb,0,U⟩),.pointer (gk ⟨p,0,U⟩)] W (au (.agg #[I J (((cM L R f 2 g k).1:Nat):Int),I J (((cM L R f 2 g k).2:Nat):Int)]) W)):=by
    show∀W,_;intro W j g k l m;exact Ic L R n lb p hb D f g k W Y.out a3.out (by rw[<-P.out];exact l) m (a2.out.fP j) (ac.out.j7 j rfl)
   have cx:w2 (∀W,bg o W->∀g k,g<r->k<2->wS w1 97 #[I J ((g:Nat):Int),I J ((k:Nat):Int),.pointer (gk ⟨n,0,U⟩),.pointer (gk ⟨lb,0,U⟩),.pointer (gk ⟨p,0,U⟩)] W (au (.agg #[I J (((cM L R f 3 g k).1:Nat):Int),I J (((cM L R f 3 g k).2:Nat):Int)]) W)):=by
    show∀W,_;intro W j g k l m;exact Hv L R n lb p hb D f g k W Y.out a3.out (by rw[<-P.out];exact l) m (a2.out.fP j) (ac.out.j7 j rfl)
   have a4:w2 (∀s,s<=4->(iL L R f++sL L R f s).length<=60000):=by
    show∀s,_;intro s hs;rw[w9,mL];have bd:=Dk (c:=R) Y.out f;have d9:s* (2* rN L R f)<=4* (2* 140):=Nat.mul_le_mul hs (by rw[<-P.out];omega);omega
   have a5:w2 (∀s,iL L R f++sL L R f (s+1)=iL L R f++sL L R f s++jL L R f s r):=by
    show∀s,_;intro s;rw[wB,<-P.out,y6]
   rw[<-Q]at X;rw[Q]at X;go_wp2_with fail
   rw[<-ab,<-Q];clear a9 am X dz dy ab Q;refine(kr i.heap.size i _ t (iL L R f++sL L R f 0) 94 #[.pointer (gk ⟨n,0,U⟩),.pointer (gk ⟨p,0,U⟩)] L f 0 r R dE.out (a4.out 0 oO) a1 (λargs W=>by go_simp) (λW j g l=>by rw[Dj];exact cr.out W (j) g 0 l oO) (λW j g l=>by rw[Dj];exact cr.out W (j) g 1 l oO)).mono ?_;rintro e v0 ⟨rfl,z,m⟩;have u:w2 (BP i.heap.size i v0 t (iL L R f++sL L R f 1)):=by show BP _ _ _ _ _;rw[a5.out 0];exact z
   have bo:w2 (bg o v0):=m;clear z m;go_wp2_with fail
   refine(kr i.heap.size i _ t (iL L R f++sL L R f 1) 95 #[.pointer (gk ⟨n,0,U⟩),.pointer (gk ⟨p,0,U⟩),.pointer (gk ⟨lb,0,U⟩)] L f 1 r R u.out (a4.out 1 oO) a1 (λargs W=>by go_simp) (λW j g l=>by rw[mA];exact cs.out W ((bo.out.trans j)) g 0 l oO) (λW j g l=>by rw[mA];exact cs.out W ((bo.out.trans j)) g 1 l oO)).mono ?_;rintro e v1 ⟨rfl,z,m⟩;have y:w2 (BP i.heap.size i v1 t (iL L R f++sL L R f 2)):=by show BP _ _ _ _ _;rw[a5.out 1];exact z
   have bq:w2 (bg o v1):=bo.out.trans m;clear z m;go_wp2_with fail
   refine(kr i.heap.size i _ t (iL L R f++sL L R f 2) 96 #[.pointer (gk ⟨n,0,U⟩),.pointer (gk ⟨lb,0,U⟩),.pointer (gk ⟨p,0,U⟩)] L f 2 r R y.out (a4.out 2 oO) a1 (λargs W=>by go_simp) (λW j g l=>by rw[mA];exact cv.out W ((bq.out.trans j)) g 0 l oO) (λW j g l=>by rw[mA];exact cv.out W ((bq.out.trans j)) g 1 l oO)).mono ?_;rintro e b3 ⟨rfl,z,m⟩;have G:w2 (BP i.heap.size i b3 t (iL L R f++sL L R f 3)):=by show BP _ _ _ _ _;rw[a5.out 2];exact z
   have bs:w2 (bg o b3):=bq.out.trans m;clear z m;go_wp2_with fail
   refine(kr i.heap.size i _ t (iL L R f++sL L R f 3) 97 #[.pointer (gk ⟨n,0,U⟩),.pointer (gk ⟨lb,0,U⟩),.pointer (gk ⟨p,0,U⟩)] L f 3 r R G.out (a4.out 3 oO) a1 (λargs W=>by go_simp) (λW j g l=>by rw[mA];exact cx.out W ((bs.out.trans j)) g 0 l oO) (λW j g l=>by rw[mA];exact cx.out W ((bs.out.trans j)) g 1 l oO)).mono ?_;rintro e b4 ⟨rfl,z,m⟩;have d0:w2 (BP i.heap.size i b4 t (iL L R f++sL L R f 4)):=by show BP _ _ _ _ _;rw[a5.out 3];exact z
   have d1:w2 (bg o b4):=bs.out.trans m;clear z m;have d2:w2 (iL L R (f+1)=iL L R f++sL L R f 4):=sq L R f;go_wp2;exact⟨⟨f+1,by omega,by go_num,by rw[d2.out];exact d0.out,O.out.trans d1.out⟩,by simp[intOf];omega⟩
  ·obtain rfl:f=L:=oO;obtain⟨A,ea,b5,b6⟩:=F.out.1.X;have x:=eu b5;have d3:=aa b6;have d4:=aa F.out.1.B;clear b5 b6;go_wp2;go_ret;exact⟨_,rfl,(fR.bL d3.out).mono ci.out.size,ae ci.out d4.out⟩
theorem xW (L:Nat) (c:Bool) (w:wR) (a:L<=32):wS w1 46 #[bX L c] w λe b=>∃v,e= .returned v/\fR w.heap.size b v (cO L c)/\af w b:=by
 cases c with
 |true=>exact KA L w a
 |false=>exact Jp L w a
def bn (a:Nat) (c:Bool):List Pt:=(aL c).map λb=>(qU a b,a-bu c)
def bY (a:Nat) (c:Bool):List Pt:=(aL c).map λb=>(a+bu c,qU a b)
def dB (a:Nat) (c:Bool):List Pt:=(aL c).reverse.map λb=>(qU a b,a+bu c)
def im (a:Nat) (c:Bool):List Pt:=(aL c).reverse.map λb=>(a-bu c,qU a b)
theorem oX (a:Nat) (c:Bool):dZ a c=bn a c++bY a c++dB a c++im a c:=rfl
theorem o5 {a g:Type} (f:a->g) (b:List a) (d:a) (e:g) {c:Nat} (i:c<b.length):(b.map f).getD c e=f (b.getD c d):=by simp[x4,i]
theorem EU {c:Type} (a:List c) (d:c) {b:Nat} (e:b<a.length):a.reverse.getD b d=a.getD (a.length-1-b) d:=by
 simp[x4,List.getElem?_reverse e]
theorem eV {c:Type} (a:List c) (d:c) {b:Nat} (e:b<a.length):a.take (b+1)=a.take b++[a.getD b d]:=by
 rw[List.take_succ_eq_append_getElem e];simp[x4,e]
theorem fN {c:Bool} {j:Nat} (a:j<(aL c).length):-((bu c:Nat):Int)+2<=(aL c).getD j 0/\(aL c).getD j 0+2<=((bu c:Nat):Int):=by
 refine H5 ?_;simp only[x4,List.getElem?_eq_getElem a,Option.getD_some];exact List.getElem_mem a
theorem bR (a:Nat) (c:Bool):(bn a c).length=(aL c).length/\(bY a c).length=(aL c).length/\(dB a c).length=(aL c).length/\(im a c).length=(aL c).length:=by
 simp[bn,bY,dB,im]
abbrev dR (n:Nat) (c:Bool) (a m:Nat):xf:= .agg #[I J (n:Int),.bool c,I J (a:Int),I J (m:Int)]
theorem iP (a:Nat) (c:Bool) (g:bu c<=a) (k b:Nat) (i:k<4) (d:b<(aL c).length):∃x y:Nat,(match k with|0=>bn a c|1=>bY a c|2=>dB a c|_=>im a c).getD b (0,0)=(x,y)/\
 (k=0->((a:Int)+(aL c).getD b 0=(x:Int)/\(a:Int)-((bu c:Nat):Int)=(y:Int)))/\(k=1->((a:Int)+((bu c:Nat):Int)=(x:Int)/\(a:Int)+(aL c).getD b 0=(y:Int)))/\
 (k=2->((a:Int)+(aL c).getD ((aL c).length-1-b) 0=(x:Int)/\(a:Int)+((bu c:Nat):Int)=(y:Int)))/\(k=3->((a:Int)-((bu c:Nat):Int)=(x:Int)/\(a:Int)+(aL c).getD ((aL c).length-1-b) 0=(y:Int)))/\x<=2* a/\y<=2* a:=by
 have j:=fN d;have f:(aL c).length-1-b<(aL c).length:=oO;have l:=fN f;have e:b<(aL c).reverse.length:=by simpa using d
 obtain rfl|rfl|rfl|rfl:k=0\/k=1\/k=2\/k=3:=oO
 ·refine⟨_,_,o5 _ _ 0 _ d,λ_=>?_,λh=>by omega,λh=>by omega,λh=>by omega,?_,?_⟩<;>(try unfold qU)<;>omega
 ·refine⟨_,_,o5 _ _ 0 _ d,λh=>by omega,λ_=>?_,λh=>by omega,λh=>by omega,?_,?_⟩<;>(try unfold qU)<;>omega
 ·refine⟨_,_,(o5 _ _ 0 _ e).trans (by rw[EU _ _ d]),λh=>by omega,λh=>by omega,λ_=>?_,λh=>by omega,?_,?_⟩<;>(try unfold qU)<;>omega
 ·refine⟨_,_,(o5 _ _ 0 _ e).trans (by rw[EU _ _ d]),λh=>by omega,λh=>by omega,λh=>by omega,λ_=>?_,?_,?_⟩<;>(try unfold qU)<;>omega
theorem Fp (n:Nat) (w:wR) (c:1<=n) (hn:n<=100000000):wS w1 39 #[I J n,.bool wP] w (au (dR n wP ((n-1)/2) 5) w):=by
 obtain⟨a,b⟩:∃a,a=(n-1)/2:=⟨_,rfl⟩;have e1:((n:Int)-1)/2=(a:Int):=oO;have d:a<=100000000:=oO;rw[<-b];clear b;go_enter func39,ntmps39;go_wp2;exact bodyPost_ret (v:=dR n wP a 5) (by simp[results,results39,go_sem]) rfl ⟨rfl,ah (ax _ _) _⟩
theorem Cz (n:Nat) (w:wR) (c:1<=n) (hn:n<=100000000):wS w1 39 #[I J n,.bool R] w (au (dR n R ((n-1)/2) 7) w):=by
 obtain⟨a,b⟩:∃a,a=(n-1)/2:=⟨_,rfl⟩;have e1:((n:Int)-1)/2=(a:Int):=oO;have d:a<=100000000:=oO;rw[<-b];clear b;go_enter func39,ntmps39;go_wp2;exact bodyPost_ret (v:=dR n R a 7) (by simp[results,results39,go_sem]) rfl ⟨rfl,ah (ax _ _) _⟩
theorem kS (n:Nat) (c:Bool) (w:wR) (a:1<=n) (hn:n<=100000000):wS w1 39 #[I J n,.bool c] w (au (dR n c ((n-1)/2) (bu c)) w):=by
 cases c with
 |true=>exact Fp n w a hn
 |false=>exact Cz n w a hn
def jS (c:Bool) (a:Nat):List Int:=((List.range a).map λb:Nat=>(2:Int)-((bu c:Nat):Int)+(b:Int)).filter λd=>!(d==0)||c
theorem EA (c:Bool) (a:Nat):jS c (a+1)=if(!((2:Int)-((bu c:Nat):Int)+(a:Int)==0)||c)=wP then jS c a++[(2:Int)-((bu c:Nat):Int)+(a:Int)]else jS c a:=by
 unfold jS;rw[List.range_succ,List.map_append,List.filter_append];simp only[List.map_cons,List.map_nil,List.filter_cons,List.filter_nil];split<;>simp
theorem IA (c:Bool):jS c (2* bu c-3)=aL c:=by cases c<;>decide
theorem Al (c:Bool) (a:Nat):(jS c a).length<=a:=by
 unfold jS;exact x3 (List.length_filter_le _ _) oS
theorem CY (s a:Nat) (w:wR) (al:5<=a) (dz:a<=100000000):wS w1 43 #[dR s wP a 5] w λe b1=>∃v,e= .returned v/\fR w.heap.size b1 v (dZ a wP)/\af w b1:=by
 obtain⟨cr,cs,de,di,dl⟩:=CB qq;obtain⟨b2,M,b4,b5,b6⟩:=CB cT;obtain⟨H,ab⟩:∃H,H=w.alloc (.cells #[I J (s:Int),.bool wP,I J (a:Int),I J 5] 71):=⟨_,rfl⟩;have b7:w2 (af w H):=by show y5 _ _ _;rw[ab];exact ax _ _
 have bd:w2 (ag H w.heap.size #[I J (s:Int),.bool wP,I J (a:Int),I J 5] 71):=by show ag _ _ _ _;rw[ab];exact ag.new _ _ _ _ oS
 have a5:w2 (∀W,af H W->W.cell? ⟨w.heap.size,1,U⟩=gk (.bool wP)/\W.cell? ⟨w.heap.size,2,U⟩=gk (I J (a:Int))/\W.cell? ⟨w.heap.size,3,U⟩=gk (I J 5)):=λW j=>⟨(bd.out.below j).cell 1 _ rfl,(bd.out.below j).cell 2 _ rfl,(bd.out.below j).cell 3 _ rfl⟩;have b9:w2 (OG vI 3 H H (.slice U 0 0) (jS wP 0)):=OG.start _ _;obtain⟨V,X,Y⟩:=a5.out _ (w3 _ _);rw[ab]at V X Y;go_enter func43,ntmps43;go_wp2;rw[<-ab];clear V X Y ab;go_loopw [3,4] (λg l wr=>∃f:Nat,f<=7/\l=I J (-3+(f:Int))/\w2 (OG vI 3 H wr g (jS wP f))) (λ_ l _=>10-(intOf l+5).toNat)
 case atStart=>exact⟨0,by omega,rfl,b9.out⟩
 case round=>
  clear b9;obtain⟨f,cv,rfl,c⟩:=hrel;obtain⟨V,X,Y⟩:=a5.out _ c.out.B;have a6:=aa (EA wP f);by_cases m:f<7
  ·have dE:(-3:Int)+(f:Int)<=3:=oO;have E:w2 ((jS wP f).length<=100):=by show _<=_;have:=Al wP f;omega
   by_cases K:f=3
   ·have a7:w2 (jS wP (f+1)=jS wP f++[0]):=by show _=_;rw[a6.out,K,if_pos oS];rfl
    have cx:(-3:Int)+(f:Int)=0:=oO;go_wp2_with(at_builtin;refine aY (f:=vI) (d:=0) OF rfl _ _ _ rfl H.heap.size 3 b2 _ 8 z1 M b4 b5 b6 rfl _ (jS wP f).length (jS wP f) rfl (aq c.out.O (ax _ _)) (gk ⟨wr.heap.size,0,U⟩) 1 1 [0] rfl rfl (RG.one _ _ _ _ rfl) (by have:=E.out;unfold maxLen;omega) (by have:=E.out;omega) (by have:=c.out.B.size;simp;omega) ?_;intro cy c2 o hg;have t:=aa (c.out.grow (ax _ _) o hg);clear o hg)
    exact⟨⟨f+1,by omega,by go_num,by show OG _ _ _ _ _ _;rw[a7.out];exact t.out⟩,by simp[intOf];omega⟩
   ·have a7:w2 (jS wP (f+1)=jS wP f++[-3+(f:Int)]):=by show _=_;rw[a6.out,if_pos oS];rfl
    have z:((-3:Int)+(f:Int)==0)=R:=by rw[beq_eq_false_iff_ne];omega
    have dx:((-3:Int)+(f:Int)!=0)=wP:=by rw[bne,z];rfl
    have cx:¬((-3:Int)+(f:Int)=0):=oO;go_wp2_with(at_builtin;refine aY (f:=vI) (d:=0) OF rfl _ _ _ rfl H.heap.size 3 b2 _ 8 z1 M b4 b5 b6 rfl _ (jS wP f).length (jS wP f) rfl (aq c.out.O (ax _ _)) (gk ⟨wr.heap.size,0,U⟩) 1 1 [-3+(f:Int)] rfl rfl (RG.one _ _ _ _ rfl) (by have:=E.out;unfold maxLen;omega) (by have:=E.out;omega) (by have:=c.out.B.size;simp;omega) ?_;intro cy c2 o hg;have t:=aa (c.out.grow (ax _ _) o hg);clear o hg)
    exact⟨⟨f+1,by omega,by go_num,by show OG _ _ _ _ _ _;rw[a7.out];exact t.out⟩,by simp[intOf];omega⟩
  ·obtain rfl:f=7:=oO;have d0:¬((-3:Int)+((7:Nat):Int)<=3):=oO;have be:=SG.bL (d:=0) c.out.O;rw[show jS wP 7=aL wP from IA wP]at be;have ca:=aa be;clear be;have bf:=aa c.out.B;clear c a6 cv m;obtain⟨d,rfl⟩:∃d:wR,d=wr:=⟨_,rfl⟩;obtain⟨A,n,dy,rfl,a8⟩:=ca.out.parts;have cb:=aa a8;have hn:n=7:=a8.hn;subst hn;clear a8 ca;obtain⟨S,rfl,ck,ce⟩:=cb.out.rd oD;have av:w2 (∀W,af d W->∀b:Nat,b<7->W.cell? (S.add b)=gk (I J ((aL wP).getD b 0))):=λW j b M=>(j.cell (by rw[aD];exact ck)).trans (ce b (by show b<(aL wP).length;exact M));have a0:w2 (∀W,af d W->W.cell? ⟨w.heap.size,1,U⟩=gk (.bool wP)/\W.cell? ⟨w.heap.size,2,U⟩=gk (I J (a:Int))/\W.cell? ⟨w.heap.size,3,U⟩=gk (I J 5)):=λW j=>a5.out W (ae bf.out j);clear ck ce cb;go_wp2_with(at_make;refine Vd _ rfl _ _ _ rfl d.heap.size 47 cr _ 2 Vy cs de di .i64 .i64 _ 28 rfl rfl (by first|rfl|omega) (by rw[dl];omega) oM (w5 _) ?_;intro b3 o hg;have ch:w2 (af d b3):=(w3 _ _).grown hg (w5 _) (λq hq=>by cases hq);have ci:w2 (aX d b3 (.slice (gk ⟨d.heap.size,0,U⟩) 0 28) ([]++(bn a wP).take 0)):=⟨ch.out,o⟩;clear o hg V X Y)
   clear ch;go_loopw [7,43] (λg l wr=>∃b:Nat,b<=7/\l=I J (b:Int)/\w2 (aX d wr g ([]++(bn a wP).take b))) (λ_ l _=>7-(intOf l).toNat)
   case atStart=>exact⟨0,by omega,rfl,ci.out⟩
   case round=>
    clear ci;obtain⟨b,M,rfl,c⟩:=hrel;by_cases m:b<7
    ·obtain⟨x,y,F,K,N,k,O,bi,bo⟩:=iP a wP al 0 b oO m;have L:w2 ([]++(bn a wP).take (b+1)=([]++(bn a wP).take b)++[(x,y)]):=by show _=_;rw[eV _ (0,0) (by rw[(bR a wP).1];exact m),<-y6];exact z7 (λP=>_++[P]) F
     have E:w2 (([]++(bn a wP).take b).length<=100):=by
      show _<=_;have:=bR a wP;have hn:(aL wP).length=7:=rfl;simp only[w9,Ai,HB,this.1,this.2.1,this.2.2.1,this.2.2.2,hn];omega
     have p:=K rfl;have B:=p.1;have C:=p.2;have G:(aL wP).getD b 0=(aL wP).getD (b) 0:=by rfl
     rw[<-G]at B;have D:=fN (c:=wP) (j:=b) m;have T:w2 (∀W,af d W->W.cell? (S.add b)=gk (I J ((aL wP).getD b 0))):=λW j=>av.out W j _ m;simp only[bu,Ax,Rk,Qk]at B C D;generalize(aL wP).getD b 0=r at*;have bq:-5<=r:=oO;have bs:r<=5:=oO;have bt:(a:Int)-5=(y:Int):=oO;clear C;clear K N k O p F G D;have c3:=T.out _ c.out.B;obtain⟨V,X,Y⟩:=a0.out _ c.out.B;generalize[]++(bn a wP).take b=Z at*;go_wp2_with(at_builtin;refine eT (aq c.out.O (ax _ _)) (x3 c.out.B.size oS) rfl _ _ rfl rfl ⟨wr.heap.size,0,U⟩ 1 1 [(x,y)] rfl rfl (gL wr [(x,y)] _) (by have:=E.out;omega) ?_;intro v6 Q o hg bv;have t:=aa (c.out.grow (ax _ _) o hg);clear o hg bv)
     first|exact⟨⟨b+1,by omega,by go_num,by show aX _ _ _ _;rw[L.out];exact t.out⟩,by simp[intOf];omega⟩|exact⟨⟨_,_,_,_,_,_,_,_,_,_,_,_,_,_,_,_,_,_,_,_,_,_,_,⟨b+1,by omega,by go_num,by show aX _ _ _ _;rw[L.out];exact t.out⟩,rfl⟩,by show 7-(intOf (I J ((b:Int)+1))).toNat<7-(intOf (I J (b:Int))).toNat;simp[intOf];omega⟩
    ·obtain rfl:b=7:=oO;have a1:∀g W,w2 (aX d W g ([]++(bn a wP).take 7))->w2 (aX d W g (bn a wP++(bY a wP).take 0)):=λg W h=>by show aX _ _ _ _;have k:=h.out;rw[CK (by simp[bn];decide)]at k;simpa using k
     have a1:=a1 _ _ c;clear c;go_wp2;go_loopw [7,61] (λg l wr=>∃b:Nat,b<=7/\l=I J (b:Int)/\w2 (aX d wr g (bn a wP++(bY a wP).take b))) (λ_ l _=>7-(intOf l).toNat)
     case atStart=>exact⟨0,by omega,rfl,a1.out⟩
     case round=>
      clear a1;obtain⟨b,M,rfl,c⟩:=hrel;by_cases m:b<7
      ·obtain⟨x,y,F,K,N,k,O,bi,bo⟩:=iP a wP al 1 b oO m;have L:w2 (bn a wP++(bY a wP).take (b+1)=(bn a wP++(bY a wP).take b)++[(x,y)]):=by show _=_;rw[eV _ (0,0) (by rw[(bR a wP).2.1];exact m),<-y6];exact z7 (λP=>_++[P]) F
       have E:w2 ((bn a wP++(bY a wP).take b).length<=100):=by
        show _<=_;have:=bR a wP;have hn:(aL wP).length=7:=rfl;simp only[w9,Ai,HB,this.1,this.2.1,this.2.2.1,this.2.2.2,hn];omega
       have p:=N rfl;have B:=p.1;have C:=p.2;have G:(aL wP).getD b 0=(aL wP).getD (b) 0:=by rfl
       rw[<-G]at C;have D:=fN (c:=wP) (j:=b) m;have T:w2 (∀W,af d W->W.cell? (S.add b)=gk (I J ((aL wP).getD b 0))):=λW j=>av.out W j _ m;simp only[bu,Ax,Rk,Qk]at B C D;generalize(aL wP).getD b 0=r at*;have bq:-5<=r:=oO;have bs:r<=5:=oO;have bt:(a:Int)+5=(x:Int):=oO;clear B;clear K N k O p F G D;have c3:=T.out _ c.out.B;obtain⟨V,X,Y⟩:=a0.out _ c.out.B;generalize bn a wP++(bY a wP).take b=Z at*;go_wp2_with(at_builtin;refine eT (aq c.out.O (ax _ _)) (x3 c.out.B.size oS) rfl _ _ rfl rfl ⟨wr.heap.size,0,U⟩ 1 1 [(x,y)] rfl rfl (gL wr [(x,y)] _) (by have:=E.out;omega) ?_;intro v6 Q o hg bv;have t:=aa (c.out.grow (ax _ _) o hg);clear o hg bv)
       first|exact⟨⟨b+1,by omega,by go_num,by show aX _ _ _ _;rw[L.out];exact t.out⟩,by simp[intOf];omega⟩|exact⟨⟨_,_,_,_,_,_,_,_,_,_,_,_,_,_,_,_,_,_,⟨b+1,by omega,by go_num,by show aX _ _ _ _;rw[L.out];exact t.out⟩,rfl⟩,by show 7-(intOf (I J ((b:Int)+1))).toNat<7-(intOf (I J (b:Int))).toNat;simp[intOf];omega⟩
      ·obtain rfl:b=7:=oO;have a2:∀g W,w2 (aX d W g (bn a wP++(bY a wP).take 7))->w2 (aX d W g (bn a wP++bY a wP++(dB a wP).take 0)):=λg W h=>by show aX _ _ _ _;have k:=h.out;rw[CK (by simp[bY];decide)]at k;simpa using k
       have a2:=a2 _ _ c;clear c;go_wp2;go_loopw [7,78] (λg l wr=>∃b:Nat,b<=7/\l=I J (b:Int)/\w2 (aX d wr g (bn a wP++bY a wP++(dB a wP).take b))) (λ_ l _=>7-(intOf l).toNat)
       case atStart=>exact⟨0,by omega,rfl,a2.out⟩
       case round=>
        clear a2;obtain⟨b,M,rfl,c⟩:=hrel;by_cases m:b<7
        ·obtain⟨x,y,F,K,N,k,O,bi,bo⟩:=iP a wP al 2 b oO m;have L:w2 (bn a wP++bY a wP++(dB a wP).take (b+1)=(bn a wP++bY a wP++(dB a wP).take b)++[(x,y)]):=by show _=_;rw[eV _ (0,0) (by rw[(bR a wP).2.2.1];exact m),<-y6];exact z7 (λP=>_++[P]) F
         have E:w2 ((bn a wP++bY a wP++(dB a wP).take b).length<=100):=by
          show _<=_;have:=bR a wP;have hn:(aL wP).length=7:=rfl;simp only[w9,Ai,HB,this.1,this.2.1,this.2.2.1,this.2.2.2,hn];omega
         have p:=k rfl;have B:=p.1;have C:=p.2;obtain⟨i,ac⟩:∃i,i=7-1-b:=⟨_,rfl⟩;have bx:(6:Int)-(b:Int)=(i:Int):=oO;have ad:i<7:=oO;have dv:(i:Int)<7:=oO;have dn:J.wrap 6=6:=aG _ oO oO;have ds:J.wrap (6-(b:Int))=(i:Int):=by rw[aG _ oO oO];omega
         have G:(aL wP).getD i 0=(aL wP).getD ((aL wP).length-1-b) 0:=by rw[ac];rfl
         rw[<-G]at B;have D:=fN (c:=wP) (j:=i) ad;have T:w2 (∀W,af d W->W.cell? (S.add i)=gk (I J ((aL wP).getD i 0))):=λW j=>av.out W j _ ad;simp only[bu,Ax,Rk,Qk]at B C D;generalize(aL wP).getD i 0=r at*;have bq:-5<=r:=oO;have bs:r<=5:=oO;have bt:(a:Int)+5=(y:Int):=oO;clear C;clear K N k O p F G D ac bx;have a9:w2 (∀W,af d W->(W.cell? ⟨w.heap.size,1,U⟩=gk (.bool wP)/\W.cell? ⟨w.heap.size,2,U⟩=gk (I J (a:Int))/\W.cell? ⟨w.heap.size,3,U⟩=gk (I J 5))/\W.cell? (S.add i)=gk (I J r)):=λW j=>⟨a0.out W j,T.out W j⟩;have c4:J.wrap (x:Int)=(x:Int):=aG _ oO oO;have c5:J.wrap (y:Int)=(y:Int):=aG _ oO oO;have c6:J.wrap ((a:Int)+r)=(x:Int):=by rw[aG _ oO oO];omega
         have c7:J.wrap ((a:Int)+5)=(y:Int):=by rw[aG _ oO oO];omega
         obtain⟨c8,c9,e5⟩:=cA c.out.O;subst e5;generalize bn a wP++bY a wP++(dB a wP).take b=Z at*;exact Sg
        ·obtain rfl:b=7:=oO;have a3:∀g W,w2 (aX d W g (bn a wP++bY a wP++(dB a wP).take 7))->w2 (aX d W g (bn a wP++bY a wP++dB a wP++(im a wP).take 0)):=λg W h=>by show aX _ _ _ _;have k:=h.out;rw[CK (by simp[dB];decide)]at k;simpa using k
         have a3:=a3 _ _ c;clear c;go_wp2;go_loopw [7,100] (λg l wr=>∃b:Nat,b<=7/\l=I J (b:Int)/\w2 (aX d wr g (bn a wP++bY a wP++dB a wP++(im a wP).take b))) (λ_ l _=>7-(intOf l).toNat)
         case atStart=>exact⟨0,by omega,rfl,a3.out⟩
         case round=>
          clear a3;obtain⟨b,M,rfl,c⟩:=hrel;by_cases m:b<7
          ·obtain⟨x,y,F,K,N,k,O,bi,bo⟩:=iP a wP al 3 b oO m;have L:w2 (bn a wP++bY a wP++dB a wP++(im a wP).take (b+1)=(bn a wP++bY a wP++dB a wP++(im a wP).take b)++[(x,y)]):=by show _=_;rw[eV _ (0,0) (by rw[(bR a wP).2.2.2];exact m),<-y6];exact z7 (λP=>_++[P]) F
           have E:w2 ((bn a wP++bY a wP++dB a wP++(im a wP).take b).length<=100):=by
            show _<=_;have:=bR a wP;have hn:(aL wP).length=7:=rfl;simp only[w9,Ai,HB,this.1,this.2.1,this.2.2.1,this.2.2.2,hn];omega
           have p:=O rfl;have B:=p.1;have C:=p.2;obtain⟨i,ac⟩:∃i,i=7-1-b:=⟨_,rfl⟩;have bx:(6:Int)-(b:Int)=(i:Int):=oO;have ad:i<7:=oO;have dv:(i:Int)<7:=oO;have dn:J.wrap 6=6:=aG _ oO oO;have ds:J.wrap (6-(b:Int))=(i:Int):=by rw[aG _ oO oO];omega
           have G:(aL wP).getD i 0=(aL wP).getD ((aL wP).length-1-b) 0:=by rw[ac];rfl
           rw[<-G]at C;have D:=fN (c:=wP) (j:=i) ad;have T:w2 (∀W,af d W->W.cell? (S.add i)=gk (I J ((aL wP).getD i 0))):=λW j=>av.out W j _ ad;simp only[bu,Ax,Rk,Qk]at B C D;generalize(aL wP).getD i 0=r at*;have bq:-5<=r:=oO;have bs:r<=5:=oO;have bt:(a:Int)-5=(x:Int):=oO;clear B;clear K N k O p F G D ac bx;have a9:w2 (∀W,af d W->(W.cell? ⟨w.heap.size,1,U⟩=gk (.bool wP)/\W.cell? ⟨w.heap.size,2,U⟩=gk (I J (a:Int))/\W.cell? ⟨w.heap.size,3,U⟩=gk (I J 5))/\W.cell? (S.add i)=gk (I J r)):=λW j=>⟨a0.out W j,T.out W j⟩;have c4:J.wrap (x:Int)=(x:Int):=aG _ oO oO;have c5:J.wrap (y:Int)=(y:Int):=aG _ oO oO;have c6:J.wrap ((a:Int)-5)=(x:Int):=by rw[aG _ oO oO];omega
           have c7:J.wrap ((a:Int)+r)=(y:Int):=by rw[aG _ oO oO];omega
           obtain⟨c8,c9,e5⟩:=cA c.out.O;subst e5;generalize bn a wP++bY a wP++dB a wP++(im a wP).take b=Z at*;exact Sg
          ·obtain rfl:b=7:=oO;have a4:∀g W,w2 (aX d W g (bn a wP++bY a wP++dB a wP++(im a wP).take 7))->w2 (aX d W g (dZ a wP)):=λg W h=>by show aX _ _ _ _;have k:=h.out;rw[CK (by simp[im];decide)]at k;rw[oX];exact k
           have a4:=a4 _ _ c;clear c;go_wp2;go_ret;exact⟨_,rfl,(fR.bL a4.out.O).mono (ae b7.out bf.out).size,ae (ae b7.out bf.out) a4.out.B⟩
theorem Bt (s a:Nat) (w:wR) (al:7<=a) (dz:a<=100000000):wS w1 43 #[dR s R a 7] w λe b1=>∃v,e= .returned v/\fR w.heap.size b1 v (dZ a R)/\af w b1:=by
 obtain⟨ck,co,c8,c9,da⟩:=CB qq;obtain⟨cp,Q,dd,de,di⟩:=CB cT;obtain⟨H,ab⟩:∃H,H=w.alloc (.cells #[I J (s:Int),.bool R,I J (a:Int),I J 7] 71):=⟨_,rfl⟩;have b3:w2 (af w H):=by show y5 _ _ _;rw[ab];exact ax _ _
 have bd:w2 (ag H w.heap.size #[I J (s:Int),.bool R,I J (a:Int),I J 7] 71):=by show ag _ _ _ _;rw[ab];exact ag.new _ _ _ _ oS
 have a5:w2 (∀W,af H W->W.cell? ⟨w.heap.size,1,U⟩=gk (.bool R)/\W.cell? ⟨w.heap.size,2,U⟩=gk (I J (a:Int))/\W.cell? ⟨w.heap.size,3,U⟩=gk (I J 7)):=λW j=>⟨(bd.out.below j).cell 1 _ rfl,(bd.out.below j).cell 2 _ rfl,(bd.out.below j).cell 3 _ rfl⟩;have b4:w2 (OG vI 3 H H (.slice U 0 0) (jS R 0)):=OG.start _ _;obtain⟨V,X,Y⟩:=a5.out _ (w3 _ _);rw[ab]at V X Y;go_enter func43,ntmps43;go_wp2;rw[<-ab];clear V X Y ab;go_loopw [3,4] (λg l wr=>∃f:Nat,f<=11/\l=I J (-5+(f:Int))/\w2 (OG vI 3 H wr g (jS R f))) (λ_ l _=>14-(intOf l+7).toNat)
 case atStart=>exact⟨0,by omega,rfl,b4.out⟩
 case round=>
  clear b4;obtain⟨f,cq,rfl,c⟩:=hrel;obtain⟨V,X,Y⟩:=a5.out _ c.out.B;have a6:=aa (EA R f);by_cases m:f<11
  ·have dE:(-5:Int)+(f:Int)<=5:=oO;have K:w2 ((jS R f).length<=100):=by show _<=_;have:=Al R f;omega
   by_cases G:f=5
   ·have a7:w2 (jS R (f+1)=jS R f):=by show _=_;rw[a6.out,G];decide
    have z:((-5:Int)+(f:Int)==0)=wP:=by rw[beq_iff_eq];omega
    have cr:((-5:Int)+(f:Int)!=0)=R:=by rw[bne,z];rfl
    have cs:(-5:Int)+(f:Int)=0:=oO;go_wp2;exact⟨⟨f+1,by omega,by go_num,by show OG _ _ _ _ _ _;rw[a7.out];exact c.out⟩,by simp[intOf];omega⟩
   ·have a7:w2 (jS R (f+1)=jS R f++[-5+(f:Int)]):=by show _=_;rw[a6.out,if_pos (by simp[bu];omega)];rfl
    have z:((-5:Int)+(f:Int)==0)=R:=by rw[beq_eq_false_iff_ne];omega
    have cr:((-5:Int)+(f:Int)!=0)=wP:=by rw[bne,z];rfl
    have cs:¬((-5:Int)+(f:Int)=0):=oO;go_wp2_with(at_builtin;refine aY (f:=vI) (d:=0) OF rfl _ _ _ rfl H.heap.size 3 cp _ 8 z1 Q dd de di rfl _ (jS R f).length (jS R f) rfl (aq c.out.O (ax _ _)) (gk ⟨wr.heap.size,0,U⟩) 1 1 [-5+(f:Int)] rfl rfl (RG.one _ _ _ _ rfl) (by have:=K.out;unfold maxLen;omega) (by have:=K.out;omega) (by have:=c.out.B.size;simp;omega) ?_;intro dv dx r hg;have t:=aa (c.out.grow (ax _ _) r hg);clear r hg)
    exact⟨⟨f+1,by omega,by go_num,by show OG _ _ _ _ _ _;rw[a7.out];exact t.out⟩,by simp[intOf];omega⟩
  ·obtain rfl:f=11:=oO;have d0:¬((-5:Int)+((11:Nat):Int)<=5):=oO;have be:=SG.bL (d:=0) c.out.O;rw[show jS R 11=aL R from IA R]at be;have b5:=aa be;clear be;have bf:=aa c.out.B;clear c a6 cq m;obtain⟨d,rfl⟩:∃d:wR,d=wr:=⟨_,rfl⟩;obtain⟨A,n,dy,rfl,a8⟩:=b5.out.parts;have b6:=aa a8;have hn:n=10:=a8.hn;subst hn;clear a8 b5;obtain⟨S,rfl,cb,b7⟩:=b6.out.rd oD;have av:w2 (∀W,af d W->∀b:Nat,b<10->W.cell? (S.add b)=gk (I J ((aL R).getD b 0))):=λW j b Q=>(j.cell (by rw[aD];exact cb)).trans (b7 b (by show b<(aL R).length;exact Q));have a0:w2 (∀W,af d W->W.cell? ⟨w.heap.size,1,U⟩=gk (.bool R)/\W.cell? ⟨w.heap.size,2,U⟩=gk (I J (a:Int))/\W.cell? ⟨w.heap.size,3,U⟩=gk (I J 7)):=λW j=>a5.out W (ae bf.out j);clear cb b7 b6;go_wp2_with(at_make;refine Vd _ rfl _ _ _ rfl d.heap.size 47 ck _ 2 Vy co c8 c9 .i64 .i64 _ 40 rfl rfl (by first|rfl|omega) (by rw[da];omega) oM (w5 _) ?_;intro b2 r hg;have b9:w2 (af d b2):=(w3 _ _).grown hg (w5 _) (λq hq=>by cases hq);have ca:w2 (aX d b2 (.slice (gk ⟨d.heap.size,0,U⟩) 0 40) ([]++(bn a R).take 0)):=⟨b9.out,r⟩;clear r hg V X Y)
   clear b9;go_loopw [7,43] (λg l wr=>∃b:Nat,b<=10/\l=I J (b:Int)/\w2 (aX d wr g ([]++(bn a R).take b))) (λ_ l _=>10-(intOf l).toNat)
   case atStart=>exact⟨0,by omega,rfl,ca.out⟩
   case round=>
    clear ca;obtain⟨b,Q,rfl,c⟩:=hrel;by_cases m:b<10
    ·obtain⟨x,y,E,G,M,k,N,bi,bo⟩:=iP a R al 0 b oO m;have L:w2 ([]++(bn a R).take (b+1)=([]++(bn a R).take b)++[(x,y)]):=by show _=_;rw[eV _ (0,0) (by rw[(bR a R).1];exact m),<-y6];exact z7 (λO=>_++[O]) E
     have K:w2 (([]++(bn a R).take b).length<=100):=by
      show _<=_;have:=bR a R;have hn:(aL R).length=10:=rfl;simp only[w9,Ai,HB,this.1,this.2.1,this.2.2.1,this.2.2.2,hn];omega
     have o:=G rfl;have B:=o.1;have C:=o.2;have F:(aL R).getD b 0=(aL R).getD (b) 0:=by rfl
     rw[<-F]at B;have D:=fN (c:=R) (j:=b) m;have T:w2 (∀W,af d W->W.cell? (S.add b)=gk (I J ((aL R).getD b 0))):=λW j=>av.out W j _ m;simp only[bu,Ax,Rk,Qk]at B C D;generalize(aL R).getD b 0=p at*;have bq:-7<=p:=oO;have bs:p<=7:=oO;have bt:(a:Int)-7=(y:Int):=oO;clear C;clear G M k N o E F D;have cv:=T.out _ c.out.B;obtain⟨V,X,Y⟩:=a0.out _ c.out.B;generalize[]++(bn a R).take b=Z at*;go_wp2_with(at_builtin;refine eT (aq c.out.O (ax _ _)) (x3 c.out.B.size oS) rfl _ _ rfl rfl ⟨wr.heap.size,0,U⟩ 1 1 [(x,y)] rfl rfl (gL wr [(x,y)] _) (by have:=K.out;omega) ?_;intro v6 P r hg bv;have t:=aa (c.out.grow (ax _ _) r hg);clear r hg bv)
     first|exact⟨⟨b+1,by omega,by go_num,by show aX _ _ _ _;rw[L.out];exact t.out⟩,by simp[intOf];omega⟩|exact⟨⟨_,_,_,_,_,_,_,_,_,_,_,_,_,_,_,_,_,_,_,_,_,_,_,⟨b+1,by omega,by go_num,by show aX _ _ _ _;rw[L.out];exact t.out⟩,rfl⟩,by show 10-(intOf (I J ((b:Int)+1))).toNat<10-(intOf (I J (b:Int))).toNat;simp[intOf];omega⟩
    ·obtain rfl:b=10:=oO;have a1:∀g W,w2 (aX d W g ([]++(bn a R).take 10))->w2 (aX d W g (bn a R++(bY a R).take 0)):=λg W h=>by show aX _ _ _ _;have k:=h.out;rw[CK (by simp[bn];decide)]at k;simpa using k
     have a1:=a1 _ _ c;clear c;go_wp2;go_loopw [7,61] (λg l wr=>∃b:Nat,b<=10/\l=I J (b:Int)/\w2 (aX d wr g (bn a R++(bY a R).take b))) (λ_ l _=>10-(intOf l).toNat)
     case atStart=>exact⟨0,by omega,rfl,a1.out⟩
     case round=>
      clear a1;obtain⟨b,Q,rfl,c⟩:=hrel;by_cases m:b<10
      ·obtain⟨x,y,E,G,M,k,N,bi,bo⟩:=iP a R al 1 b oO m;have L:w2 (bn a R++(bY a R).take (b+1)=(bn a R++(bY a R).take b)++[(x,y)]):=by show _=_;rw[eV _ (0,0) (by rw[(bR a R).2.1];exact m),<-y6];exact z7 (λO=>_++[O]) E
       have K:w2 ((bn a R++(bY a R).take b).length<=100):=by
        show _<=_;have:=bR a R;have hn:(aL R).length=10:=rfl;simp only[w9,Ai,HB,this.1,this.2.1,this.2.2.1,this.2.2.2,hn];omega
       have o:=M rfl;have B:=o.1;have C:=o.2;have F:(aL R).getD b 0=(aL R).getD (b) 0:=by rfl
       rw[<-F]at C;have D:=fN (c:=R) (j:=b) m;have T:w2 (∀W,af d W->W.cell? (S.add b)=gk (I J ((aL R).getD b 0))):=λW j=>av.out W j _ m;simp only[bu,Ax,Rk,Qk]at B C D;generalize(aL R).getD b 0=p at*;have bq:-7<=p:=oO;have bs:p<=7:=oO;have bt:(a:Int)+7=(x:Int):=oO;clear B;clear G M k N o E F D;have cv:=T.out _ c.out.B;obtain⟨V,X,Y⟩:=a0.out _ c.out.B;generalize bn a R++(bY a R).take b=Z at*;go_wp2_with(at_builtin;refine eT (aq c.out.O (ax _ _)) (x3 c.out.B.size oS) rfl _ _ rfl rfl ⟨wr.heap.size,0,U⟩ 1 1 [(x,y)] rfl rfl (gL wr [(x,y)] _) (by have:=K.out;omega) ?_;intro v6 P r hg bv;have t:=aa (c.out.grow (ax _ _) r hg);clear r hg bv)
       first|exact⟨⟨b+1,by omega,by go_num,by show aX _ _ _ _;rw[L.out];exact t.out⟩,by simp[intOf];omega⟩|exact⟨⟨_,_,_,_,_,_,_,_,_,_,_,_,_,_,_,_,_,_,⟨b+1,by omega,by go_num,by show aX _ _ _ _;rw[L.out];exact t.out⟩,rfl⟩,by show 10-(intOf (I J ((b:Int)+1))).toNat<10-(intOf (I J (b:Int))).toNat;simp[intOf];omega⟩
      ·obtain rfl:b=10:=oO;have a2:∀g W,w2 (aX d W g (bn a R++(bY a R).take 10))->w2 (aX d W g (bn a R++bY a R++(dB a R).take 0)):=λg W h=>by show aX _ _ _ _;have k:=h.out;rw[CK (by simp[bY];decide)]at k;simpa using k
       have a2:=a2 _ _ c;clear c;go_wp2;go_loopw [7,78] (λg l wr=>∃b:Nat,b<=10/\l=I J (b:Int)/\w2 (aX d wr g (bn a R++bY a R++(dB a R).take b))) (λ_ l _=>10-(intOf l).toNat)
       case atStart=>exact⟨0,by omega,rfl,a2.out⟩
       case round=>
        clear a2;obtain⟨b,Q,rfl,c⟩:=hrel;by_cases m:b<10
        ·obtain⟨x,y,E,G,M,k,N,bi,bo⟩:=iP a R al 2 b oO m;have L:w2 (bn a R++bY a R++(dB a R).take (b+1)=(bn a R++bY a R++(dB a R).take b)++[(x,y)]):=by show _=_;rw[eV _ (0,0) (by rw[(bR a R).2.2.1];exact m),<-y6];exact z7 (λO=>_++[O]) E
         have K:w2 ((bn a R++bY a R++(dB a R).take b).length<=100):=by
          show _<=_;have:=bR a R;have hn:(aL R).length=10:=rfl;simp only[w9,Ai,HB,this.1,this.2.1,this.2.2.1,this.2.2.2,hn];omega
         have o:=k rfl;have B:=o.1;have C:=o.2;obtain⟨i,ac⟩:∃i,i=10-1-b:=⟨_,rfl⟩;have bx:(9:Int)-(b:Int)=(i:Int):=oO;have ad:i<10:=oO;have ds:(i:Int)<10:=oO;have dl:J.wrap 9=9:=aG _ oO oO;have dn:J.wrap (9-(b:Int))=(i:Int):=by rw[aG _ oO oO];omega
         have F:(aL R).getD i 0=(aL R).getD ((aL R).length-1-b) 0:=by rw[ac];rfl
         rw[<-F]at B;have D:=fN (c:=R) (j:=i) ad;have T:w2 (∀W,af d W->W.cell? (S.add i)=gk (I J ((aL R).getD i 0))):=λW j=>av.out W j _ ad;simp only[bu,Ax,Rk,Qk]at B C D;generalize(aL R).getD i 0=p at*;have bq:-7<=p:=oO;have bs:p<=7:=oO;have bt:(a:Int)+7=(y:Int):=oO;clear C;clear G M k N o E F D ac bx;have a9:w2 (∀W,af d W->(W.cell? ⟨w.heap.size,1,U⟩=gk (.bool R)/\W.cell? ⟨w.heap.size,2,U⟩=gk (I J (a:Int))/\W.cell? ⟨w.heap.size,3,U⟩=gk (I J 7))/\W.cell? (S.add i)=gk (I J p)):=λW j=>⟨a0.out W j,T.out W j⟩;have cx:J.wrap (x:Int)=(x:Int):=aG _ oO oO;have cy:J.wrap (y:Int)=(y:Int):=aG _ oO oO;have c2:J.wrap ((a:Int)+p)=(x:Int):=by rw[aG _ oO oO];omega
         have c3:J.wrap ((a:Int)+7)=(y:Int):=by rw[aG _ oO oO];omega
         obtain⟨c4,c5,e5⟩:=cA c.out.O;subst e5;generalize bn a R++bY a R++(dB a R).take b=Z at*;exact RE
        ·obtain rfl:b=10:=oO;have a3:∀g W,w2 (aX d W g (bn a R++bY a R++(dB a R).take 10))->w2 (aX d W g (bn a R++bY a R++dB a R++(im a R).take 0)):=λg W h=>by show aX _ _ _ _;have k:=h.out;rw[CK (by simp[dB];decide)]at k;simpa using k
         have a3:=a3 _ _ c;clear c;go_wp2;go_loopw [7,100] (λg l wr=>∃b:Nat,b<=10/\l=I J (b:Int)/\w2 (aX d wr g (bn a R++bY a R++dB a R++(im a R).take b))) (λ_ l _=>10-(intOf l).toNat)
         case atStart=>exact⟨0,by omega,rfl,a3.out⟩
         case round=>
          clear a3;obtain⟨b,Q,rfl,c⟩:=hrel;by_cases m:b<10
          ·obtain⟨x,y,E,G,M,k,N,bi,bo⟩:=iP a R al 3 b oO m;have L:w2 (bn a R++bY a R++dB a R++(im a R).take (b+1)=(bn a R++bY a R++dB a R++(im a R).take b)++[(x,y)]):=by show _=_;rw[eV _ (0,0) (by rw[(bR a R).2.2.2];exact m),<-y6];exact z7 (λO=>_++[O]) E
           have K:w2 ((bn a R++bY a R++dB a R++(im a R).take b).length<=100):=by
            show _<=_;have:=bR a R;have hn:(aL R).length=10:=rfl;simp only[w9,Ai,HB,this.1,this.2.1,this.2.2.1,this.2.2.2,hn];omega
           have o:=N rfl;have B:=o.1;have C:=o.2;obtain⟨i,ac⟩:∃i,i=10-1-b:=⟨_,rfl⟩;have bx:(9:Int)-(b:Int)=(i:Int):=oO;have ad:i<10:=oO;have ds:(i:Int)<10:=oO;have dl:J.wrap 9=9:=aG _ oO oO;have dn:J.wrap (9-(b:Int))=(i:Int):=by rw[aG _ oO oO];omega
           have F:(aL R).getD i 0=(aL R).getD ((aL R).length-1-b) 0:=by rw[ac];rfl
           rw[<-F]at C;have D:=fN (c:=R) (j:=i) ad;have T:w2 (∀W,af d W->W.cell? (S.add i)=gk (I J ((aL R).getD i 0))):=λW j=>av.out W j _ ad;simp only[bu,Ax,Rk,Qk]at B C D;generalize(aL R).getD i 0=p at*;have bq:-7<=p:=oO;have bs:p<=7:=oO;have bt:(a:Int)-7=(x:Int):=oO;clear B;clear G M k N o E F D ac bx;have a9:w2 (∀W,af d W->(W.cell? ⟨w.heap.size,1,U⟩=gk (.bool R)/\W.cell? ⟨w.heap.size,2,U⟩=gk (I J (a:Int))/\W.cell? ⟨w.heap.size,3,U⟩=gk (I J 7))/\W.cell? (S.add i)=gk (I J p)):=λW j=>⟨a0.out W j,T.out W j⟩;have cx:J.wrap (x:Int)=(x:Int):=aG _ oO oO;have cy:J.wrap (y:Int)=(y:Int):=aG _ oO oO;have c2:J.wrap ((a:Int)-7)=(x:Int):=by rw[aG _ oO oO];omega
           have c3:J.wrap ((a:Int)+p)=(y:Int):=by rw[aG _ oO oO];omega
           obtain⟨c4,c5,e5⟩:=cA c.out.O;subst e5;generalize bn a R++bY a R++dB a R++(im a R).take b=Z at*;exact RE
          ·obtain rfl:b=10:=oO;have a4:∀g W,w2 (aX d W g (bn a R++bY a R++dB a R++(im a R).take 10))->w2 (aX d W g (dZ a R)):=λg W h=>by show aX _ _ _ _;have k:=h.out;rw[CK (by simp[im];decide)]at k;rw[oX];exact k
           have a4:=a4 _ _ c;clear c;go_wp2;go_ret;exact⟨_,rfl,(fR.bL a4.out.O).mono (ae b3.out bf.out).size,ae (ae b3.out bf.out) a4.out.B⟩
end
end Go.Proofs.YtmnlkganmgcpbaaGreatDoor
