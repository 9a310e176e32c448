import Derived.Test.YtmnlkganmgcpbaaGreatDoorQi21
set_option maxRecDepth 100000
set_option maxHeartbeats 4000000
set_option linter.unusedVariables false
set_option linter.unusedSectionVars false
set_option linter.unusedSimpArgs false
set_option linter.defProp false
open Go.Value renaming int->I,int->zz,slice->HM
open Go.IntKind renaming i64->J
open Bool renaming false->R,true->wP
open Option renaming none->U,some->gk
open Go renaming World->wR,Calls->wS
open Go.Proofs.Tryz renaming prog->w1,underlying64->z1
open Go.RowKit renaming Hid->w2
open Go.RowKit.Below renaming refl->w3
open _root_ renaming beq_eq_false_iff_ne->w4,Option->xv
open Nat renaming le_refl->w5,zero_le->x1,le_trans->x3,lt_of_lt_of_le->x6
open List renaming getElem?_cons_zero->w7,getElem?_cons_succ->w8,map_append->A1
open Go.World renaming ownsRow_nil->C1
open Go.Proofs.Tryz
namespace Go.Proofs.YtmnlkganmgcpbaaGreatDoor
section
open Go.RowKit
theorem JY (i S a g first m:Nat) (p b:List Nat) (A B:xv Addr) (bb d5:Nat) (w:wR) (bd:VF i S a) (ab:ak S p) (cs:ak S b) (b9:g=p.length) (ca:m=b.length) (cv:1<=g) (f7:g<=4096) (f8:m<=4095) (f1:first<=8000) (cb:RD w A (zl p)) (hb:RD w B (zl b)):
 wS w1 174 #[aU i S a,.slice A g bb,.slice B m d5,I J first] w λe t=>∃v,e= .returned v/\(az t v (zl (iN S a first g p b m))/\af w t)/\pS w v:=by
 obtain⟨a3,ac⟩:∃a3,a3=w.alloc (eX i S a):=⟨_,rfl⟩;obtain⟨C,ad⟩:∃C,C=a3.alloc (.cells #[I J 1] 3):=⟨_,rfl⟩;obtain⟨j,bt⟩:∃j,j=w.heap.size:=⟨_,rfl⟩;obtain⟨lb,bv⟩:∃lb,lb=a3.heap.size:=⟨_,rfl⟩;have d3:lb=w.heap.size+1:=by rw[bv,ac];simp
 have al:w2 (af w C):=by rw[ad,ac];exact ah (ax _ _) _
 have d6:w2 (an C j (lO i S a)):=by rw[ad,bt,ac];exact(an.new _ _ _ _ rfl).alloc _
 have es:w2 (az C (.slice (gk ⟨lb,0,U⟩) 1 1) (zl (gl S a b 0))):=by
  show az _ _ _;rw[ad,bv];exact az.lit _ [1] 3 _ 1 rfl rfl oO
 have d7:w2 (RD C A (zl p)):=cb.below al.out;have d8:w2 (RD C B (zl b)):=hb.below al.out;have l:=aa bd;have et:=aa ab;have a4:=aa cs;have ce:=aa b9;have be:=aa ca;have a5:w2 (2<=S):=bd.aO;have T:w2 (∀W,af C W->W.cell? ⟨j,0,U⟩=gk (I J i)/\W.cell? ⟨j,1,U⟩=gk (I J S)/\W.cell? ⟨j,2,U⟩=gk (I J a)):=λW o=>fs (d6.out.below o);have bx:w2 (∀W,af C W->∀q,q<m->∃r,B=gk r/\(r.add q).block<W.heap.size/\W.cell? (r.add q)=gk (I J ((b.getD q 0:Nat):Int))):=by
  show∀W,_;intro W o q hq;obtain⟨r,e,X,Y⟩:=(d8.out.below o) (by rw[ao,<-be.out];omega);refine⟨r,e,by rw[aD];exact X,?_⟩;rw[Y q (by rw[ao,<-be.out];exact hq),bT]
 clear bd ab cs b9 ca cb hb;go_enter func174,ntmps174;go_wp2;rw[<-d3,<-bt,<-ac,<-ad];clear ad bv d3 bt ac;go_loopw [9,10] (λbf M wr=>∃k:Nat,k<=m/\M=I J k/\w2 (az wr bf (zl (gl S a b k)))/\w2 (af C wr)) (λ_ M _=>m-(intOf M).toNat)
 case atStart=>exact⟨0,x1 _,rfl,es,w3 _ _⟩
 case round=>
  obtain⟨k,f2,rfl,bi,hB⟩:=hrel;obtain⟨E,G,rfl,-,-,cx⟩:=az.nat bi.out;have bz:=aa cx;clear cx;have am:w2 ((gl S a b k).length=k+1):=rB _ _ _ _;have b1:w2 (ak S (gl S a b k)):=AP l.out _ _;rw[am.out]at bi⊢;by_cases ew:k<m
  ·have Z:w2 (b.getD k 0<S):=a4.out k;have ex:w2 (dt S a (gl S a b k) [1,bD S a 0 (b.getD k 0)] (k+2) (k+1) 0=gl S a b (k+1)):=rfl;obtain⟨r,rfl,K,H⟩:=bx.out wr hB.out k ew;generalize gl S a b k=out at*;generalize b.getD k 0=x at*;have L:w2 (∀W,af wr W->(W.cell? ⟨j,0,U⟩=gk (I J i)/\W.cell? ⟨j,1,U⟩=gk (I J S)/\W.cell? ⟨j,2,U⟩=gk (I J a))/\W.cell? (r.add k)=gk (I J (x:Int))):=λW o=>⟨T.out _ (ae hB.out o),(o.cell K).trans H⟩;have ey:J.wrap (((k+1:Nat):Int)+1)=((k+2:Nat):Int):=by rw[aG _ oO oO];omega
   have fx:J.wrap ((k:Int)+1+1)=((k+2:Nat):Int):=by rw[aG _ oO oO];omega
   clear H K;go_wp2;refine yO (af wr) [1,2,3,4,5,6,7,10,11,12,0,8,9,13,0,14] (ai (w3 _ _)) ?_
   repeat refine zO L.out ?_
   refine zZ ?_;refine(Qt i S a x _ l.out Z.out).mono ?_;rintro e D ⟨rfl,cy⟩;have b2:w2 (af wr D):=ae (ai (w3 _ _)) cy;have ez:w2 (bD S a 0 x<S):=jd l.out (by have:=a5.out;omega) Z.out;clear cy;generalize bD S a 0 x=y at*;refine⟨_,rfl,b2.out,jO ?_⟩;refine' zQ (v:= .slice (gk ⟨D.heap.size,0,U⟩) 2 2) (w':=D.alloc (.cells #[I J 1,I J y] 3)) rfl (by go_simp) (ah b2.out _) ?_;have s:w2 (af wr (D.alloc (.cells #[I J 1,I J (y:Int)] 3))):=ah b2.out _;have b3:w2 (RD (D.alloc (.cells #[I J 1,I J (y:Int)] 3)) (gk ⟨D.heap.size,0,U⟩) (zl [1,y])):=RD.lit D [1,y] 3 _ rfl;have a6:w2 (∀W,af wr W->RD W (gk ⟨D.heap.size,0,U⟩) (zl [1,y])->wS w1 170 #[aU i S a,.slice E (k+1) G,.slice (gk ⟨D.heap.size,0,U⟩) 2 2,I J ((k:Int)+2)] W λe t=>∃v,e= .returned v/\az t v (zl (gl S a b (k+1)))/\af W t):=by
    show∀W,_;intro W o eA;have:=qS i S a (k+2) out [1,y] E (gk ⟨D.heap.size,0,U⟩) (k+1) 2 G 2 W l.out b1.out (K9 l.out (by have:=a5.out;omega) ez.out) am.out.symm rfl oO oO oO oO oO oO (bz.out.below o) eA;rw[show((k+2:Nat):Int)=(k:Int)+2 from by omega,show min (k+2) (k+1+2-1)=k+2 from by omega,am.out,ex.out]at this;exact this.mono λe t ⟨v,X,Y,_⟩=>⟨v,X,Y⟩
   clear ey fx;refine zZ ?_;refine(a6.out _ s.out b3.out).mono ?_;rintro e f3 ⟨v4,rfl,c2,c3⟩;have e0:=aa c2;have c4:=aa (ae s.out c3);clear c2 c3;refine⟨_,rfl,c4.out,jO ?_⟩
   repeat refine zO L.out ?_
   refine aj ?_;go_wp2;exact⟨⟨k+1,by omega,by go_num,e0,ae hB.out c4.out⟩,by simp[intOf];omega⟩
  ·obtain rfl:k=m:=oO;have c5:w2 (k=b.length):=be.out;have a6:w2 (∀W,af wr W->wS w1 170 #[aU i S a,.slice A g bb,.slice E (k+1) G,I J g] W λe t=>∃v,e= .returned v/\az t v (zl (dt S a p (gl S a b b.length) g g 0))/\af W t):=by
    show∀W,_;intro W o;have:=qS i S a g p (gl S a b k) A E g (k+1) bb G W l.out et.out b1.out ce.out am.out.symm cv oO oO oO cv oO ((d7.out.below hB.out).below o) (bz.out.below o);rw[show min g (g+(k+1)-1)=g from by omega,<-ce.out,show gl S a b k=gl S a b b.length from by rw[<-c5.out]]at this;exact this.mono λe t ⟨v,X,Y,_⟩=>⟨v,X,Y⟩
   obtain⟨d9,ea,ec⟩:=T.out _ hB.out;have c6:w2 (ak S (dt S a p (gl S a b b.length) g g 0)):=mw l.out _ _ _ _ _;have c7:w2 ((dt S a p (gl S a b b.length) g g 0).length=g):=gB _ _ _ _ _ _ _;have ed:w2 (iN S a first g p b 0=[]):=rfl;have e9:w2 (∀f,iN S a first g p b (f+1)=iN S a first g p b f++[yI S a first (dt S a p (gl S a b b.length) g g 0) b f]):=λf=>KQ _ _ _ _ _ _ _;generalize dt S a p (gl S a b b.length) g g 0=P at*;go_wp2_with(go_at_call 170;refine(a6.out _ (w3 _ _)).mono ?_;rintro e N ⟨f4,rfl,c8,c9⟩;obtain⟨ef,eh,rfl,-,-,da⟩:=az.nat c8;rw[c7.out];have fb:=aa da;have s:=aa (ae hB.out c9);clear da c8 c9 d9 ea ec)
   clear a6 bz am b1 bi hB;go_loopw [12,13] (λbf M wr=>∃(f:Nat) (E:xv Addr) (G:Nat),f<=k/\M=I J f/\bf= .slice E f G/\w2 (af N wr)/\w2 (wr.ownsRow N.heap.size 3 1 (.slice E f G) f ((zl (iN S a first g p b f)).map (zz .i64)))) (λ_ M _=>k-(intOf M).toNat)
   case atStart=>exact⟨0,U,0,x1 _,rfl,rfl,w3 _ _,by rw[ed.out];exact C1 _ _ _ _⟩
   case round=>
    obtain⟨f,E,G,f9,rfl,rfl,hB,a7⟩:=hrel;by_cases fz:f<k
    ·have Z:w2 (b.getD f 0<S):=a4.out f;obtain⟨r,rfl,K,H⟩:=bx.out wr (ae s.out hB.out) f fz;have b7:w2 (_=_):=e9.out f;have dd:w2 (yI S a first P b f=aA S a (cP S a (bW S a (b.getD f 0)) P) (bW S a (mM S a first b f k))):=by show _=_;rw[c5.out];rfl
     rw[dd.out]at b7;have de:w2 (mM S a first b f 0=aM S a (b.getD f 0) first):=rfl;have di:w2 (∀q,q=f->mM S a first b f (q+1)=mM S a first b f q):=λq e=>by show(if q=f then _ else _)=_;rw[if_pos e]
     have dl:w2 (∀q,q≠f->mM S a first b f (q+1)=aA S a (mM S a first b f q) (bD S a 1 (aA S a (b.getD q 0) (bW S a (b.getD f 0))))):=λq e=>by show(if q=f then _ else _)=_;rw[if_neg e]
     have b4:w2 (∀q,mM S a first b f q<S):=λq=>Jd l.out a4.out _ _;have dn:w2 (∀W,wS w1 213 #[aU i S a,I J ((b.getD f 0:Nat):Int),I J first] W (au (I J ((mM S a first b f 0:Nat):Int)) W)):=by
      show∀W,_;intro W;rw[de.out];exact s5 i S a (b.getD f 0) first W l.out Z.out oO
     clear dd de;generalize fc:b.getD f 0=x at*;have ds:w2 (bW S a x<S):=gM l.out;have L:w2 (∀W,af wr W->(W.cell? ⟨j,0,U⟩=gk (I J i)/\W.cell? ⟨j,1,U⟩=gk (I J S)/\W.cell? ⟨j,2,U⟩=gk (I J a))/\W.cell? (r.add f)=gk (I J (x:Int))):=λW o=>⟨T.out _ (ae (ae s.out hB.out) o),(o.cell K).trans H⟩;clear H K fc;go_wp2;refine yO (af wr) [1,2,3,4,5,0,6,0,7] (ai (w3 _ _)) ?_
     repeat refine zO L.out ?_
     refine zZ ?_;refine(qF i S a x _ l.out Z.out).mono ?_;rintro e ch ⟨rfl,ap⟩;have b5:w2 (af wr ch):=ae (ai (w3 _ _)) ap;clear ap;generalize bW S a x=y at*;refine⟨_,rfl,b5.out,jO ?_⟩
     repeat refine zO L.out ?_
     refine aj ?_;go_wp2;refine yO (af wr) [1,2,3,4,5,6,0,7,0,8] (ai b5.out) ?_
     repeat refine zO L.out ?_
     refine zZ ?_;refine(dn.out _).mono ?_;rintro e f5 ⟨rfl,dv⟩;have dx:=aa (ae (ai b5.out) dv);clear dv;refine⟨_,rfl,dx.out,jO ?_⟩
     repeat refine zO L.out ?_
     refine aj ?_;go_wp2;clear dn;obtain⟨F,rfl⟩:∃F:wR,F=wr:=⟨_,rfl⟩;go_loopw [15,16] (λek bo el=>∃q:Nat,q<=k/\bo=I J q/\ek=I J ((mM S a first b f q:Nat):Int)/\w2 (af F el)) (λ_ bo _=>k-(intOf bo).toNat)
     case atStart=>exact⟨0,x1 _,rfl,rfl,dx⟩
     case round=>
      obtain⟨q,hq,rfl,rfl,Q⟩:=hrel;by_cases fG:q<k
      ·by_cases a8:q=f
       ·have bq:=di.out q a8;subst a8;go_wp2;exact⟨⟨q+1,by omega,by go_num,by rw[bq],Q⟩,by simp[intOf];omega⟩
       ·have bq:=aa (dl.out q a8);have b6:=aa (b4.out q);have fd:w2 (b.getD q 0<S):=a4.out q;obtain⟨gb,e,K,H⟩:=bx.out F (ae s.out hB.out) q fG;cases e;generalize mM S a first b f q=d at*
        generalize b.getD q 0=z at*;have ci:((q:Int)==(f:Int))=R:=by rw[w4];omega
        have em:((q:Int)!=(f:Int))=wP:=by rw[bne,ci];rfl
        have dy:w2 (∀W,af F W->(W.cell? ⟨j,0,U⟩=gk (I J i)/\W.cell? ⟨j,1,U⟩=gk (I J S)/\W.cell? ⟨j,2,U⟩=gk (I J a))/\W.cell? (r.add q)=gk (I J (z:Int))):=λW o=>⟨T.out _ (ae (ae s.out hB.out) o),(o.cell K).trans H⟩;clear H K a8;go_wp2;clear ci em;refine yO (af F) [1,2,3,4,5,6,7,8,9,0,10,11,12,0,13] (ai Q.out) ?_
        repeat refine zO dy.out ?_
        refine zZ ?_;refine(kN i S a z y _ l.out fd.out ds.out).mono ?_;rintro e f6 ⟨rfl,dz⟩;have av:=aa (ae (ai Q.out) dz);have dE:w2 (aA S a z y<S):=bk l.out _ _;clear dz;generalize aA S a z y=bs at*;refine⟨_,rfl,av.out,jO ?_⟩;refine zZ ?_;refine(vH i S a 1 bs _ l.out (by have:=a5.out;omega) dE.out).mono ?_;rintro e en ⟨rfl,a0⟩;have a1:=aa (ae av.out a0);have fn:w2 (bD S a 1 bs<S):=jd l.out (by have:=a5.out;omega) dE.out;clear a0;generalize bD S a 1 bs=u at*;refine⟨_,rfl,a1.out,jO ?_⟩;refine zZ ?_;refine(kN i S a d u _ l.out b6.out fn.out).mono ?_;rintro e O ⟨rfl,a2⟩;have V:=aa (ae a1.out a2);clear a2;refine⟨_,rfl,V.out,jO ?_⟩
        repeat refine zO dy.out ?_
        refine aj ?_;go_wp2;exact⟨⟨q+1,by omega,by go_num,by rw[bq.out],V⟩,by simp[intOf];omega⟩
      ·obtain rfl:q=k:=oO;have b6:=aa (b4.out q);generalize mM S a first b f q=d at*
       generalize ab:zl (iN S a first g p b f)=eq at*;have f0:w2 (eq++zl [aA S a (cP S a y P) (bW S a d)]=zl (iN S a first g p b (f+1))):=by
        show _=_;rw[<-ab,b7.out];unfold zl;rw[<-A1]
       clear ab b7 di dl b4;have d0:w2 (N.heap.size<=F.heap.size):=hB.out.size;have gc:w2 (∀W,af F W->(W.cell? ⟨j,0,U⟩=gk (I J i)/\W.cell? ⟨j,1,U⟩=gk (I J S)/\W.cell? ⟨j,2,U⟩=gk (I J a))):=λW o=>T.out _ (ae (ae s.out hB.out) o);have d1:w2 (∀W,af N W->(W.cell? ⟨j,0,U⟩=gk (I J i)/\W.cell? ⟨j,1,U⟩=gk (I J S)/\W.cell? ⟨j,2,U⟩=gk (I J a))):=λW o=>T.out _ (ae s.out o);clear L;go_wp2;refine yO (λW=>af N W) [1,2,3,4,5,7,8,0,6,9,10,11,12,0,13] ((ae hB.out Q.out).drew) ?_
       repeat refine zO d1.out ?_
       refine zZ ?_;refine(Bz i S a y P g c7.out.symm ef eh _ l.out ds.out c6.out oO (fb.out.below (ae hB.out Q.out).drew)).mono ?_;rintro e ch ⟨rfl,ap⟩;have av:=aa (ae (ai Q.out) ap);have fo:w2 (cP S a y P<S):=jl l.out _ _ (fh c6.out);clear ap;generalize cP S a y P=ck at*;refine⟨_,rfl,ae hB.out av.out,jO ?_⟩;refine zZ ?_;refine(qF i S a d _ l.out b6.out).mono ?_;rintro e en ⟨rfl,a0⟩;have a1:=aa (ae av.out a0);have fr:w2 (bW S a d<S):=gM l.out;clear a0;generalize bW S a d=co at*;refine⟨_,rfl,ae hB.out a1.out,jO ?_⟩;refine zZ ?_;refine(kN i S a ck co _ l.out fo.out fr.out).mono ?_;rintro e O ⟨rfl,a2⟩;have V:=aa (ae a1.out a2);clear a2;generalize aA S a ck co=val at*;refine⟨_,rfl,ae hB.out V.out,jO ?_⟩;refine' zQ (v:= .slice (gk ⟨O.heap.size,0,U⟩) 1 1) (w':=O.alloc (.cells #[I J val] 3)) rfl (by go_simp) (ah (ae hB.out V.out) _) ?_;have a9:w2 (af F (O.alloc (.cells #[I J (val:Int)] 3))):=ah V.out _;have b3:w2 (RD (O.alloc (.cells #[I J (val:Int)] 3)) (gk ⟨O.heap.size,0,U⟩) (zl [val])):=RD.lit O [val] 3 _ rfl;refine' qy (ys:=zl [val]) (aq a7.out a9.out) (x3 d0.out a9.out.size) rfl _ _ rfl rfl rfl rfl (w5 _) b3.out oO ?_;intro cp cq cr d4 hg fv;have fw:w2 (cr.ownsRow N.heap.size 3 1 (.slice cp (f+1) cq) (f+1) ((zl (iN S a first g p b (f+1))).map (zz .i64))):=by
        show World.ownsRow _ _ _ _ _ _ _;rw[<-f0.out];exact d4
       have d2:w2 (af N cr):=(ae hB.out a9.out).grown hg (x3 d0.out a9.out.size) (λq hq=>(a7.out.lt q hq).1);clear d4 hg fv;refine⟨d2.out,?_⟩;simp only[yQ,yU,yX,yY]
       repeat refine zO d1.out ?_
       refine aj ?_;go_wp2;exact⟨⟨f+1,cp,cq,by omega,by go_num,rfl,d2,fw⟩,by simp[intOf];omega⟩
    ·obtain rfl:f=k:=oO;go_wp2;go_ret;refine⟨.slice E f G,rfl,⟨az.bL a7.out,al.out.trans ((ae s.out hB.out).mono al.out.size)⟩,λr n c e=>?_⟩;have er:=(a7.out.lt r.block (by injection e with e1;rw[e1];rfl)).1;exact x3 al.out.size (x3 s.out.size er)
theorem wD:prog.underlying 64=gk (.slice (prog.elem 64)):=oK
theorem Cv (w:wR):(sizeOf (prog.elem 64)).run w1 w= .ok 1 w:=oK
theorem Hi {a:Act} {d:Oper} {W:wR} {x f:Operand} (i:d.op= .slice 64 x (gk f) U U) {A:xv Addr} {n c:Nat} (j:a.eval x= .slice A n c) (k:a.eval f=I J 0):
 (execOp a.eval d).run w1 W= .ok (.value (.slice A n c)) W:=by
 have b:=run_slice_l (P:=w1) W 64 A n c wD .i64 (0:Int) oO oO;rw[Cv]at b;simp only[Result.andThen_ok,sliced,Int.toNat_zero,Nat.zero_mul,Nat.sub_zero]at b;have e:(if c=0 then A else A.map λg=>g.add 0)=A:=by
  split
  ·rfl
  ·cases A with
   |none=>rfl
   |some g=>simp[Addr.add]
 rw[e]at b;have l:=run_sliceAt_slice (P:=w1) W 64 (.slice A n c) (gk (I J (0:Int))) U U wD;unfold execOp;simp only[i,j,k,Option.map_some,Option.map_none,Sem.run_bind,Sem.run_pure,Result.andThen_ok,l,b]
theorem ON (s a n:Nat) (b:List Nat) (c:Nat):zl (iG s a n b)++zl [dk s a (n-1-c)]=zl (iG s a n (b++[c])):=by
 unfold iG;rw[A1];unfold zl;rw[<-A1];rfl
theorem Ix (a:List Nat) (b:Nat):zl a++zl [b]=zl (a++[b]):=by unfold zl;rw[<-A1]
theorem ND {P:List Nat} {i:Nat} (h:i<P.length):P.getD i 0∈P:=by
 have:P.getD i 0=P[i]:=by simp[List.getD,h]
 rw[this];exact List.getElem_mem h
theorem ag.grown {w W:wR} {a:Nat} {c:Array Value} {b:TypeId} {row:xv Nat} (h:ag w a c b) (hg:w.grownBy W row) (d:gk a≠row):ag W a c b:=(hg.block a (ay h) d).trans h
theorem bK.grown {w W:wR} {b:Nat} {c:List Nat} {row:xv Nat} (h:bK w b c) (hg:w.grownBy W row) (e:gk b≠row):bK W b c:=
 ⟨x6 h.1 hg.size,λa d=>⟨(hg.cell_far ⟨b,a,U⟩ h.1 e).trans (h.2 a d).1,(hg.frozen_far ⟨b,a,U⟩ h.1 e).trans (h.2 a d).2⟩⟩
theorem RD.Am {w:wR} {A:xv Addr} {c:List Int} (h:RD w A c) (b d:Nat) (u:Value) (g:∀a,A=gk a->a.block≠b):RD (w.setCell ⟨b,d,U⟩ u) A c:=λhn=>by
 obtain⟨a,e,hl,hc⟩:=h hn;refine⟨a,e,by simpa using hl,λf i=>?_⟩
 rw[World.cell?_setCell_other w _ _ _ (λe2=>g a e (by
  have:=congrArg Addr.block e2;rw[aD]at this
  exact this.symm))]
 exact hc f i
theorem ag.Am {w:wR} {a:Nat} {e:Array Value} {c:TypeId} (h:ag w a e c) (b d:Nat) (u:Value) (f:a≠b):ag (w.setCell ⟨b,d,U⟩ u) a e c:=(heap_setCell_other w ⟨b,d,U⟩ a u f).trans h
theorem sA {w:wR} {base:Nat} {e:TypeId} {sz:Nat} {v:Value} {k:Nat} {f:List Value} (h:w.ownsRow base e sz v k f) (b c:Nat) (u:Value) (hb:b<base):(w.setCell ⟨b,c,U⟩ u).ownsRow base e sz v k f:=by
 refine⟨h.1,?_⟩;rcases h.2 with a|⟨d,cap,l,g,a,i,j⟩
 ·exact .inl a
 ·exact .inr ⟨d,cap,l,g,a,(heap_setCell_other w ⟨b,c,U⟩ d u (λe=>by subst e;exact absurd a (Nat.not_le.2 hb))).trans i,j⟩
theorem Fq {c:Program} {d:Array Oper} {f:List Oper} {b:Oper} {a:Act} {Q:Exit->Act->wR->Prop} {w e:wR} (k:Region.wanted b (yielded d a.tmps)=wP) (g:(execOp a.eval b).run c w= .ok .skip e) (i:wpList c d Q f (a.put b.dst undef) e):wpList c d Q (b::f) a w:=by
 refine wpList_step λK j=>?_;simp only[k,if_true];unfold Oper.wp;rw[g];exact j _ _ i
def DJ (a b:xv Nat):Prop:=a=U\/b=U\/a≠b
theorem DJ.kept {a b:xv Nat} (h:DJ a b):b=U\/b≠a:=by
 rcases h with h|h|h
 ·subst h;cases b with
  |none=>exact .inl rfl
  |some x=>exact .inr oS
 ·exact .inl h
 ·exact .inr λe=>h e.symm
theorem DJ.symm {a b:xv Nat} (h:DJ a b):DJ b a:=by
 rcases h with h|h|h
 ·exact .inr (.inl h)
 ·exact .inl h
 ·exact .inr (.inr λe=>h e.symm)
theorem DJ.grow {a c b:xv Nat} {N:Nat} (h:DJ a b) (d:c=a\/c=gk N) (hb:∀q,b=gk q->q<N):DJ c b:=by
 rcases d with rfl|rfl
 ·exact h
 ·cases b with
  |none=>exact .inr (.inl rfl)
  |some x=>exact .inr (.inr λe=>by injection e with e;have:=hb x rfl;omega)
theorem GV (o S a c first:Nat) (g:List Nat) (n:Nat) (A:xv Addr) (d1 eb:Nat) (w:wR) (h:eD o S a c first) (hn:n=g.length) (hl:ak S g) (E:c<n) (K:n<=S-1) (ez:RD w A (zl g)) (j0:lS w eb n):
 wS w1 124 #[bZ o S a c first,.slice A n d1,.slice (gk ⟨eb,0,U⟩) n n,I J 0] w (gf S a c first g w):=by
 obtain⟨eA,b7,fz,fG,f0⟩:=info_parts cT;have s:=aa h;obtain⟨s3,vq⟩:=h.s3;have f1:=h.p1;have wl:=h.f2;have rs:1<=n:=oO;have wm:n<=4095:=oO;have rt:c<=4094:=oO;obtain⟨bs,cp⟩:∃bs,bs=((w.alloc (iB o S a c first)).alloc (.cells #[aS,aS] 98)).alloc (eX o S a):=⟨_,rfl⟩;obtain⟨i,cq⟩:∃i,i=w.heap.size:=⟨_,rfl⟩;have d8:w2 (w.heap.size<=i):=Nat.le_of_eq cq.symm;have f2:w2 (af w bs):=by rw[cp];exact ah (ah (ax _ _) _) _
 have O:w2 (ag bs (i+1) #[aS,aS] 98):=by rw[cp,cq];exact(ag.new _ _ _ _ oS).below (ax _ _)
 have dl:w2 (∀W,af bs W->(W.cell? ⟨i,0,U⟩=gk (I J o)/\W.cell? ⟨i,1,U⟩=gk (I J S)/\W.cell? ⟨i,2,U⟩=gk (I J a)/\W.cell? ⟨i,3,U⟩=gk (I J c)/\W.cell? ⟨i,4,U⟩=gk (I J first))/\(W.cell? ⟨i+1+1,0,U⟩=gk (I J o)/\W.cell? ⟨i+1+1,1,U⟩=gk (I J S)/\W.cell? ⟨i+1+1,2,U⟩=gk (I J a))):=by
  show∀W,_;intro W d;constructor
  ·rw[cq];exact(kE w o S a c first).out W (by rw[cp]at d;exact ae (ah (ax _ _) _) d)
  ·have hc:an bs (i+1+1) (lO o S a):=by rw[cp];exact an.new _ _ _ _ (by rw[cq];simp)
   exact fs (hc.below d)
 have g0:w2 (∀W,af w W->wS w1 168 #[bZ o S a c first,.slice A n d1] W λe C=>∃v,e= .returned v/\az C v (zl (bO S a c first g))/\af W C):=λW d=>Cb o S a c first g n A d1 W h hn hl oO (ez.below d)
 have nc:w2 (∀W,wS w1 169 #[aU o S a,I J n] W λe C=>∃v,e= .returned v/\az C v (zl (I0 S a n))/\af W C):=λW=>Gq o S a n W h.vf rs oO;obtain⟨z,dn⟩:∃z,z=bO S a c first g:=⟨_,rfl⟩
 rw[<-dn]at g0;have cr:w2 (z.length=c):=by show _=_;rw[dn];unfold bO;simp
 have d9:w2 (ak S z):=by show ak _ _;rw[dn];exact sj h.vf hl
 have f3:=aa dn;have p0:=aa ez;have be:=aa j0;have b9:=aa hl;have ab:=aa hn;have ea:w2 (g.length<=S-1):=by show _<=_;rw[<-hn];exact K
 have g1:w2 ((I0 S a n).length=n):=nN _ _ _ _;obtain⟨⟨ad,al,am,ap,av⟩,bt,bv,bx⟩:=dl.out _ (w3 _ _);clear h ez hl hn K dn j0;go_enter func124,ntmps124
 go_wp2_with(first
  |(go_at_call 168;rw[<-cp,<-cq];clear cp cq;refine(g0.out _ f2.out).mono ?_;rintro e vr ⟨vs,rfl,kb,ds⟩;obtain⟨ca,d2,rfl,-,-,kc⟩:=az.nat kb;rw[cr.out];have kd:=aa kc;have f4:=aa ds;clear kb ds kc ad al am ap av bt bv bx;obtain⟨⟨ad,al,am,ap,av⟩,bt,bv,bx⟩:=dl.out _ f4.out)
  |(go_at_call 169;refine(nc.out _).mono ?_;rintro e a6 ⟨vv,rfl,ks,f5⟩;obtain⟨i1,vG,rfl,-,-,kv⟩:=az.nat ks;rw[g1.out];have kw:=aa kv;have kz:=aa (ae f4.out f5);have nl:=aa (kd.out.below f5);clear ks f5 kv ad al am ap av bt bv bx kd))
 have e0:w2 (RD (a6.alloc (.cells #[I J 1] 3)) (gk ⟨a6.heap.size,0,U⟩) (zl [1])):=RD.lit a6 [1] 3 _ rfl;have no:w2 (RD (a6.alloc (.cells #[I J 1] 3)) i1 (zl (I0 S a n))):=kw.out.alloc _;have g2:w2 (RD (a6.alloc (.cells #[I J 1] 3)) ca (zl z)):=nl.out.alloc _;have cs:w2 (af bs (a6.alloc (.cells #[I J 1] 3))):=ah kz.out _;clear kw nl f4 kz g0 nc;obtain⟨c8,k1⟩:∃c8,c8=a6.heap.size:=⟨_,rfl⟩;rw[<-k1]at e0⊢;clear k1;generalize a6.alloc (.cells #[I J 1] 3)=cb at*;have g3:w2 (lS cb eb n):=(be.out.below f2.out).below cs.out;go_loopw [13,14] (λp3 bz wr=>∃b:Nat,b<=n/\bz=I J b/\p3= .slice (gk ⟨c8,0,U⟩) 1 1/\w2 (af cb wr)) (λ_ bz _=>n-(intOf bz).toNat)
 case atStart=>exact⟨0,x1 _,rfl,rfl,w3 _ _⟩
 case round=>
  obtain⟨b,wn,rfl,rfl,hB⟩:=hrel;by_cases rx:b<n
  ·have f6:=(g3.out.below hB.out).2 b rx;go_wp2;exact⟨⟨b+1,by omega,by go_num,rfl,hB⟩,by simp[intOf];omega⟩
  ·obtain rfl:n=b:=oO;have np:w2 (∀W,af cb W->∀ce c9,RD W ce (zl z)->wS w1 171 #[aU o S a,.slice ce c c9] W λe C=>∃v L,e= .returned (.tuple #[v,I J ((L:Nat):Int)])/\PE s.out.vf z c W C v L):=λW d ce c9 p4=>DV o S a z ce c c9 W s.out.vf d9.out cr.out.symm rt p4;have nz:w2 (∀W,af cb W->wS w1 170 #[aU o S a,.slice ca c d2,.slice (gk ⟨c8,0,U⟩) 1 1,I J c] W λe C=>∃v,e= .returned v/\az C v (zl z)/\af W C):=by
    show∀W,_;intro W d;have:=qS o S a c z [1] ca (gk ⟨c8,0,U⟩) c 1 d2 1 W s.out.vf d9.out (qf s.out.vf) cr.out.symm rfl f1 oO oO oO f1 oO (g2.out.below d) (e0.out.below d);rw[show min c (c+1-1)=c from by omega,KY s.out.vf d9.out cr.out]at this;exact this.mono λe C ⟨v,E,K,_⟩=>⟨v,E,K⟩
   have f7:w2 (∀W,af cb W->(W.cell? ⟨i+1+1,0,U⟩=gk (I J o)/\W.cell? ⟨i+1+1,1,U⟩=gk (I J S)/\W.cell? ⟨i+1+1,2,U⟩=gk (I J a))):=λW d=>(dl.out W (ae cs.out d)).2;go_wp2;refine yO (af cb) [1,2,3,4,5,6,8,0,7,9,10,0,11,12,13,14,15] (ai hB.out) ?_
   repeat refine zO f7.out ?_
   refine zZ ?_;refine(nz.out _ (ai hB.out)).mono ?_;rintro e v0 ⟨v1,rfl,k2,la⟩;obtain⟨ce,c9,rfl,-,-,lc⟩:=az.nat k2;rw[cr.out];have dv:=aa (ae (ai hB.out) la);have li:=aa lc;clear k2 la lc;refine⟨_,rfl,dv.out,jO ?_⟩;refine' zQ rfl (Hi rfl rfl rfl) dv.out ?_;refine zZ ?_;refine(np.out _ dv.out ce c9 li.out).mono ?_;rintro e D ⟨v4,L,rfl,q,ll,hq,i2,r0,r1,lm,ls⟩;obtain⟨e9,i3,rfl,-,-,lv⟩:=az.nat ll;have b2:=aa (ae dv.out ls);have lw:=aa lv;have d3:=aa hq;have fb:=aa i2;have lx:=aa lm;obtain⟨P,f8⟩:∃P,q.length=P+1:=⟨q.length-1,by omega⟩;have f9:=aa f8;rw[f8]at r1⊢;clear ll ls lv hq i2 lm f8 r0 np nz;refine⟨_,rfl,b2.out,jO ?_⟩
   repeat refine zO f7.out ?_
   refine aj ?_;go_wp2;have n0:w2 (∀W,af D W->∀b,b<n->∃a7,i1=gk a7/\(a7.add b).block<W.heap.size/\W.cell? (a7.add b)=gk (I J ((dk S a (n-1-b):Nat):Int))):=by
    show∀W,_;intro W d b b7;obtain⟨a7,e,r2,r3⟩:=(no.out.below (ae b2.out d)) (by rw[ao,g1.out];omega);refine⟨a7,e,by rw[aD];exact r2,?_⟩;rw[r3 b (by rw[ao,g1.out];exact b7),bT,O3 _ _ _ _ b7]
   have r8:w2 (∀W,af D W->RD W e9 (zl q)):=λW d=>lw.out.below d;have t0:w2 (∀W,af D W->RD W ca (zl z)):=λW d=>g2.out.below (ae b2.out d);have gb:w2 (∀W,af D W->lS W eb n):=λW d=>g3.out.below (ae b2.out d);have ec:w2 (∀W,af D W->(W.cell? ⟨i,0,U⟩=gk (I J o)/\W.cell? ⟨i,1,U⟩=gk (I J S)/\W.cell? ⟨i,2,U⟩=gk (I J a)/\W.cell? ⟨i,3,U⟩=gk (I J c)/\W.cell? ⟨i,4,U⟩=gk (I J first))/\(W.cell? ⟨i+1+1,0,U⟩=gk (I J o)/\W.cell? ⟨i+1+1,1,U⟩=gk (I J S)/\W.cell? ⟨i+1+1,2,U⟩=gk (I J a))):=λW d=>dl.out W (ae (ae cs.out b2.out) d);have ly:w2 (∀W,af D W->ag W (i+1) #[aS,aS] 98):=λW d=>O.out.below (ae (ae cs.out b2.out) d);have g4:w2 (∀W,af D W->af w W):=λW d=>ae (ae (ae f2.out cs.out) b2.out) d;have l0:w2 (∀W,af D W->RD W A (zl g)):=λW d=>p0.out.below (g4.out W d);clear f7 cs no g2 e0 g3 hB dv li lw dl O be;go_loopw [17,18,19,20] (λp5 p6 ev bz wr=>∃(b f:Nat) (a0 a1:xv Addr) (a8 ci:Nat),b<=n/\f<=b/\bz=I J b/\ev=I J f/\p5= .slice a0 f a8/\p6= .slice a1 f ci/\w2 (f=(il S a n q b).length)/\w2 (af D wr)/\w2 (wr.ownsRow D.heap.size 3 1 (.slice a0 f a8) f ((zl (iG S a n (il S a n q b))).map (zz .i64)))/\w2 (wr.ownsRow D.heap.size 3 1 (.slice a1 f ci) f ((zl (il S a n q b)).map (zz .i64)))/\w2 (DJ (HM a0 f a8).ownBlock (HM a1 f ci).ownBlock)) (λ_ _ _ bz _=>n-(intOf bz).toNat)
   case atStart=>exact⟨0,0,U,U,0,0,x1 _,w5 _,rfl,rfl,rfl,rfl,rfl,w3 _ _,C1 _ _ _ _,C1 _ _ _ _,.inl rfl⟩
   case round=>
    obtain⟨b,f,a0,a1,a8,ci,wo,wp,rfl,rfl,rfl,rfl,hF,hB,cv,cx,gc⟩:=hrel;by_cases g5:b<n
    ·obtain⟨a7,rfl,l1,ge⟩:=n0.out wr hB.out b g5;have f6:=(gb.out wr hB.out).2 b g5;have l2:=(gb.out wr hB.out).1;obtain⟨x,da⟩:∃x,x=dk S a (n-1-b):=⟨_,rfl⟩;rw[<-da]at ge;have qi:w2 (x<S):=by show _<_;rw[da];exact fj s.out.vf _
     have dx:w2 (bW S a x=gZ S a n b):=by show _=_;rw[da];exact Qv s.out.vf (by rw[ab.out];exact ea.out) g5
     have gg:w2 (zl (iG S a n (il S a n q b))++zl [x]=zl (iG S a n (il S a n q b++[b]))):=by show _=_;rw[da];exact ON _ _ _ _ _
     have dy:w2 (zl (il S a n q b)++zl [b]=zl (il S a n q b++[b])):=Ix _ _;have sb:w2 (bW S a x<S):=gM s.out.vf;have gi:w2 (cP S a (bW S a x) q=0->il S a n q (b+1)=il S a n q b++[b]):=by show _->_;intro e;exact DN (by rw[<-dx.out];exact e)
     have bd:w2 (cP S a (bW S a x) q≠0->il S a n q (b+1)=il S a n q b):=by show _->_;intro e;exact Ij (by rw[<-dx.out];exact e)
     have b1:w2 (∀W,af wr W->(W.cell? ⟨i+1+1,0,U⟩=gk (I J o)/\W.cell? ⟨i+1+1,1,U⟩=gk (I J S)/\W.cell? ⟨i+1+1,2,U⟩=gk (I J a))/\W.cell? (a7.add b)=gk (I J (x:Int))/\W.cell? ⟨eb,b,U⟩=gk (.bool R)):=λW d=>⟨(ec.out W (ae hB.out d)).2,(d.cell l1).trans ge,(d.cell l2).trans f6⟩;have n5:w2 (∀W,wS w1 173 #[aU o S a,I J x] W (au (I J ((bW S a x:Nat):Int)) W)):=λW=>qF o S a x W s.out.vf qi.out;clear da ge l1 dx f6 l2;generalize bW S a x=d4 at*;have pf:w2 (∀W,af wr W->wS w1 172 #[aU o S a,.slice e9 (P+1) i3,I J d4] W (au (I J ((cP S a d4 q:Nat):Int)) W)):=λW d=>Bz o S a d4 q (P+1) f9.out.symm e9 i3 W s.out.vf sb.out d3.out oO (r8.out W (ae hB.out d));generalize cP S a d4 q=i4 at*;go_wp2;refine yO (af wr) [1,2,3,4,5,6,7,8,9,10,11,12,13,0,14,15,0,16,17,18] (ai (w3 _ _)) ?_
     repeat refine zO b1.out ?_
     repeat refine zX b1.out ?_
     refine zZ ?_;refine(n5.out _).mono ?_;rintro e qr ⟨rfl,mb⟩;have gm:w2 (af wr qr):=ae (ai (w3 _ _)) mb;clear mb;refine⟨_,rfl,gm.out,jO ?_⟩;refine zZ ?_;refine(pf.out _ gm.out).mono ?_;rintro e ch ⟨rfl,md⟩;have cy:=aa (ae gm.out md);clear md;refine⟨_,rfl,cy.out,jO ?_⟩
     repeat refine zX b1.out ?_
     repeat refine zO b1.out ?_
     refine aj ?_;have g6:=aa (aq cv.out cy.out);have g7:=aa (aq cx.out cy.out);have g8:=aa (ae hB.out cy.out);have me:w2 (D.heap.size<=ch.heap.size):=g8.out.size;have wq:ch.cell? (a7.add b)=gk (I J (x:Int)):=(b1.out _ cy.out).2.1;have ws:ch.cell? ⟨eb,b,U⟩=gk (.bool R):=(b1.out _ cy.out).2.2;clear n5 pf b1 cv cx hB;by_cases mk:i4=0
     ·subst mk;have c2:=aa (gi.out rfl);have wt:f<=4095:=oO;generalize sf:zl (iG S a n (il S a n q b))=qs at*;generalize sm:zl (il S a n q b)=q0 at*;rw[<-c2.out]at gg dy;clear gi bd sf sm
      go_wp2_with(first
       |(at_builtin;refine eG rfl _ _ _ rfl D.heap.size 3 eA _ z1 b7 fz fG f0 rfl (.slice a0 f a8) f qs rfl (aq g6.out (ax _ _)) (gk ⟨ch.heap.size,0,U⟩) 1 1 (zl [x]) rfl rfl (RD.lit ch [x] 3 _ rfl) oO (x3 me.out oS) ?_;intro v2 dd B hg a3;obtain⟨fc,fd,rfl⟩:=cA B;rw[gg.out]at B;have n6:=aa B;have n7:=aa ((aq g7.out (ax ch (.cells #[I J (x:Int)] 3))).kept hg gc.out.kept);have n8:w2 (DJ (HM fc (f+1) fd).ownBlock (HM a1 f ci).ownBlock):=gc.out.grow a3 (λac a4=>x6 (g7.out.lt ac a4).2 oS);have ml:w2 (af D dd):=(ah g8.out _).grown hg (x3 me.out oS) (λac a4=>(g6.out.lt ac a4).1);have mm:w2 (D.heap.size<=dd.heap.size):=ml.out.size;clear B hg a3)
       |(at_builtin;refine eG rfl _ _ _ rfl D.heap.size 3 eA _ z1 b7 fz fG f0 rfl (.slice a1 f ci) f q0 rfl (aq n7.out (ax _ _)) (gk ⟨dd.heap.size,0,U⟩) 1 1 (zl [b]) rfl rfl (RD.lit dd [b] 3 _ rfl) oO (x3 mm.out oS) ?_;intro v3 H B hg a3;obtain⟨F,G,rfl⟩:=cA B;rw[dy.out]at B;have t1:=aa B;have t2:=aa ((aq n6.out (ax dd (.cells #[I J (b:Int)] 3))).kept hg n8.out.symm.kept);have t3:w2 (DJ (HM F (f+1) G).ownBlock (HM fc (f+1) fd).ownBlock):=n8.out.symm.grow a3 (λac a4=>x6 (n6.out.lt ac a4).2 oS);have di:w2 (af D H):=(ah ml.out _).grown hg (x3 mm.out oS) (λac a4=>(n7.out.lt ac a4).1);clear B hg a3))
      exact⟨⟨b+1,f+1,fc,F,fd,G,by omega,by omega,by go_num,by go_num,rfl,rfl,by show _=_;rw[c2.out,List.length_append,<-hF.out];rfl,di.out,t2.out,t1.out,t3.out.symm⟩,by simp[intOf];omega⟩
     ·have v5:((i4:Int)==0)=R:=by rw[w4];omega
      have c2:=aa (bd.out mk);clear gi bd gg dy;go_wp2;exact⟨⟨b+1,f,a0,a1,a8,ci,by omega,by omega,by go_num,rfl,rfl,rfl,by show _=_;rw[c2.out];exact hF.out,g8.out,by rw[c2.out];exact g6.out,by rw[c2.out];exact g7.out,gc.out⟩,by simp[intOf];omega⟩
    ·obtain rfl:n=b:=oO;have mo:w2 (il S a n q n=eB S a g.length q):=by show _=_;rw[ab.out];rfl
     rw[mo.out]at hF cv cx;have X:=hF;have O:=aa (ly.out wr hB.out);have c0:=eu O.out;have c1:=ia O.out;have ck:=bN 0 O.out;have b6:=bN 1 O.out;have fx:=aa (g4.out wr hB.out);have ed:w2 (jZ s.out.vf (co s.out.vf (bO S a c first g)) c (co s.out.vf q) L):=by show jZ _ _ _ _ _;rw[<-f3.out];exact lx.out
     have et:w2 (¬(f=L/\f=P/\2* f<=c)->ei S a c first g U):=by
      show _->_;intro hc;refine KI s.out.vf b9.out ea.out d3.out fb.out ed.out (λa2=>hc ?_) (by rw[f9.out];omega);rw[<-X.out,f9.out]at a2;exact⟨a2.1,by omega,a2.2.2⟩
     have ww:P<=4094:=oO;have i5:((P+1:Nat):Int)-1=(P:Int):=oO;obtain⟨⟨ad,al,am,ap,av⟩,bt,bv,bx⟩:=ec.out wr hB.out;clear gb n0 lx;by_cases mp:f=L
     ·subst mp;by_cases mq:f=P
      ·subst mq;by_cases ms:2* f<=c
       ·have q1:decide ((c:Int)<2* (f:Int))=R:=by simp;omega
        obtain⟨r,rfl⟩:∃r:wR,r=wr:=⟨_,rfl⟩;obtain⟨j,bf⟩:∃j,j=eB S a g.length q:=⟨_,rfl⟩;rw[<-bf]at hF cv cx X mo;have wL:=aa bf;have sn:w2 ((iG S a n j).length=f):=by show _=_;rw[te,<-X.out]
        have sp:w2 (ak S (iG S a n j)):=MQ s.out.vf _ _;have dy:w2 (∀k,k<f->j.getD k 0<n):=by
         show∀k,_;intro k i6;have i7:=ND (P:=j) (i:=k) (by rw[<-X.out];exact i6);rw[bf]at i7;have:=xM i7;rw[<-bf,<-ab.out]at this;exact this
        have t4:w2 (RD r a0 (zl (iG S a n j))):=RD.bL cv.out;have t5:w2 (RD r a1 (zl j)):=RD.bL cx.out;have n9:w2 (∀W,af r W->wS w1 174 #[aU o S a,.slice ca c d2,.slice a0 f a8,I J first] W λe C=>∃v,e= .returned v/\(az C v (zl (iN S a first c z (iG S a n j) f))/\af W C)/\pS W v):=λW d=>JY o S a c first f z (iG S a n j) ca a0 d2 a8 W s.out.vf d9.out sp.out cr.out.symm sn.out.symm f1 oO oO oO (t0.out W (ae hB.out d)) (t4.out.below d)
        have ef:w2 ((iN S a first c z (iG S a n j) f).length=f):=GX _ _ _ _ _ _ _;have st:w2 (ak S (iN S a first c z (iG S a n j) f)):=Eu s.out.vf;have sv:w2 (kJ S a g j (iN S a first c z (iG S a n j) f) f=lI S a c first g q):=by
         show _=_;unfold lI;rw[<-bf,<-f3.out,<-ab.out,<-X.out]
        have t6:w2 (lM j (iN S a first c z (iG S a n j) f) f=cf g (lI S a c first g q)):=by
         have h:=EC s.out.vf (par:=c) (first:=first) (q:=q) b9.out;rw[<-bf,<-f3.out,<-ab.out,<-X.out]at h;exact h
        have up:w2 ((∀p,p<c->iK S a first (lI S a c first g q) p=0)->ei S a c first g (gk (lI S a c first g q))):=λh=>MT s.out.vf b9.out ea.out d3.out fb.out ed.out (by rw[<-bf,<-X.out];exact ms) h;have t7:w2 (∀p,p<c->iK S a first (lI S a c first g q) p≠0->ei S a c first g U):=λp d5 h=>NF s.out.vf b9.out ea.out d3.out fb.out ed.out d5 h;generalize iN S a first c z (iG S a n j) f=V at*
        obtain⟨l,eh⟩:∃l,l=r.heap.size:=⟨_,rfl⟩;obtain⟨a9,ek⟩:∃a9,a9=r.alloc (.cells #[aS,aS] 98):=⟨_,rfl⟩;have el:w2 (ag a9 l #[aS,aS] 98):=by rw[ek,eh];exact ag.new _ _ _ _ rfl
        have be:w2 (af r a9):=by rw[ek];exact ax _ _
        have fw:w2 (r.heap.size<=l):=Nat.le_of_eq eh.symm;clear bf et c0 c1 ck b6 cv cx ed
        go_wp2_with(first
         |(at_builtin;rw[<-ek,<-eh];clear ek eh ad al am ap av bt bv bx;refine eG rfl _ _ _ rfl a9.heap.size 3 eA _ z1 b7 fz fG f0 rfl aS 0 [] rfl (C1 _ _ _ _) A n d1 (zl g) rfl (by rw[ao];exact ab.out) (l0.out _ (ae hB.out be.out)) oO (w5 _) ?_;intro v10 a5 B hg a3;rw[Nat.zero_add,List.nil_append]at B;obtain⟨wb,cw,rfl,c3,mt⟩:=B.form oO;have pi:w2 (bK a5 wb g):=bK.bL B oO;have ob:w2 (n<=cw/\cw<=maxLen):=(by obtain⟨v6,v7,i5,i8,q2,-⟩:=az.bL B;injection i5 with v8 q3 q4;rw[q4];rw[<-q3]at i8;exact⟨i8,q2⟩);have ew:w2 (ag a5 l #[aS,aS] 98):=el.out.grown hg (by simp[Value.ownBlock]);have oi:w2 (af r a5):=be.out.grown hg be.out.size (λq hq=>by cases hq);have dz:w2 (a9.heap.size<=wb/\wb<a5.heap.size):=⟨c3,mt⟩;have c0:=eu ew.out;have ck:=bN 0 ew.out;clear B hg a3 c3 mt)
         |((with_reducible show wpList _ _ _ (⟨_,Op.store 64 _ _,_,_,_,_⟩::_) _ _);refine Fq rfl (o8 rfl ⟨l,0,U⟩ (gk ⟨wb,0,U⟩) n cw rfl rfl c0 ck) ?_;clear c0 ck;have g9:w2 (af r (a5.setCell ⟨l,0,U⟩ (.slice (gk ⟨wb,0,U⟩) n cw))):=oi.out.setCell fw.out _;have iv:w2 (ag (a5.setCell ⟨l,0,U⟩ (.slice (gk ⟨wb,0,U⟩) n cw)) l #[.slice (gk ⟨wb,0,U⟩) n cw,aS] 98):=ew.out.eN (i:=0) (.slice (gk ⟨wb,0,U⟩) n cw);have oj:w2 (l<a9.heap.size):=ay el.out;have pl:w2 (bK (a5.setCell ⟨l,0,U⟩ (.slice (gk ⟨wb,0,U⟩) n cw)) wb g):=pi.out.other ⟨l,0,U⟩ _ (by have:=dz.out.1;have:=oj.out;show wb≠l;omega);have pm:w2 (wb<(a5.setCell ⟨l,0,U⟩ (.slice (gk ⟨wb,0,U⟩) n cw)).heap.size):=(by show _<_;simp;exact dz.out.2);generalize a5.setCell ⟨l,0,U⟩ (.slice (gk ⟨wb,0,U⟩) n cw)=m0 at*;obtain⟨⟨ad,al,am,ap,av⟩,bt,bv,bx⟩:=ec.out m0 (ae hB.out g9.out))
         |(go_at_call 174;refine(n9.out _ g9.out).mono ?_;rintro e T ⟨wx,rfl,⟨ol,eq⟩,om⟩;obtain⟨de,q5,rfl,-,-,m1⟩:=az.nat ol;rw[ef.out];have go:=aa m1;have ix:=aa (iv.out.below eq);have i0:=aa (pl.out.below eq);have ib:w2 (∀t,de=gk t->m0.heap.size<=t.block):=(λt e=>om t V.length q5 (by rw[e]));have ih:=aa (ae g9.out eq);clear ol eq m1 om ad al am ap av bt bv bx))
        have jv:w2 (wb≠l):=by have E:=dz.out.1;have K:l<a9.heap.size:=ay el.out;show wb≠l;omega
        have en:w2 (l<T.heap.size/\wb<T.heap.size):=⟨ay ix.out,i0.out.1⟩;have sy:w2 (∀t,de=gk t->t.block≠wb):=λt e h=>by have E:=ib.out t e;have K:=pm.out;rw[h]at E;omega
        have rl:w2 (∀t,de=gk t->t.block≠l):=λt e h=>by have E:=ib.out t e;have K:=ay iv.out;rw[h]at E;omega
        have t8:w2 (r.heap.size<=wb):=by have E:=dz.out.1;have K:=be.out.size;show _<=_;omega
        clear el be oi pi ew iv pl dz pm ib n9 oj;have rg:w2 (0<f->∀t,de=gk t->t.block<T.heap.size):=by
         show _->_;intro fn t e;obtain⟨wy,d6,Q,-⟩:=go.out (by rw[ao,ef.out];exact fn);rw[e]at d6;injection d6 with d6;rw[d6];exact Q
        have rc:w2 (r.heap.size<=T.heap.size):=ih.out.size;have gp:w2 (kJ S a g j V 0=g/\lM j V 0=[]):=⟨rfl,rfl⟩;have m2:w2 (∀W,af r W->(W.cell? ⟨i,0,U⟩=gk (I J o)/\W.cell? ⟨i,1,U⟩=gk (I J S)/\W.cell? ⟨i,2,U⟩=gk (I J a)/\W.cell? ⟨i,3,U⟩=gk (I J c)/\W.cell? ⟨i,4,U⟩=gk (I J first))/\(W.cell? ⟨i+1+1,0,U⟩=gk (I J o)/\W.cell? ⟨i+1+1,1,U⟩=gk (I J S)/\W.cell? ⟨i+1+1,2,U⟩=gk (I J a))):=λW d=>ec.out W (ae hB.out d);have sO:w2 (∀W,af r W->ag W (i+1) #[aS,aS] 98):=λW d=>ly.out W (ae hB.out d);have t9:w2 (∀W,af r W->af w W):=λW d=>g4.out W (ae hB.out d);have s0:w2 (∀W,af r W->RD W A (zl g)):=λW d=>l0.out W (ae hB.out d);have m3:w2 (∀W,af r W->RD W a1 (zl j)):=λW d=>t5.out.below d;go_loopw [24] (λfo wr=>∃(k m:Nat) (Z:xv Addr) (cc:Nat),k<=f/\m<=k/\fo=I J k/\w2 (m=(lM j V k).length)/\w2 (af r wr)/\w2 (ag wr l #[.slice (gk ⟨wb,0,U⟩) n cw,.slice Z m cc] 98)/\w2 (bK wr wb (kJ S a g j V k))/\w2 (RD wr de (zl V))/\w2 (wr.ownsRow T.heap.size 3 1 (.slice Z m cc) m ((zl (lM j V k)).map (zz .i64)))/\w2 (T.heap.size<=wr.heap.size)) (λfo _=>f-(intOf fo).toNat)
        case atStart=>exact⟨0,0,U,0,x1 _,w5 _,rfl,by show _=_;rw[gp.out.2];rfl,ih.out,ix.out,by rw[gp.out.1];exact i0.out,go.out,by rw[gp.out.2];exact C1 _ _ _ _,w5 _⟩
        case round=>
         clear ih ix i0 go;obtain⟨k,m,Z,cc,i6,wz,rfl,ey,bi,c4,bo,gq,dE,m4⟩:=hrel;by_cases er:k<f
         ·obtain⟨b,c5⟩:∃b,b=j.getD k 0:=⟨_,rfl⟩;have oo:b<n:=by rw[c5];exact dy.out k er
          obtain⟨id,rfl,op,os⟩:=(m3.out wr bi.out) (by rw[ao,<-X.out];omega);have gs:=os k (by rw[ao,<-X.out];exact er);rw[bT,<-c5]at gs;have jr:w2 (∀W,af r W->W.cell? (id.add k)=gk (I J (b:Int))):=by
           show∀W,_;intro W d;obtain⟨wA,e,_,hc⟩:=m3.out W d (by rw[ao,<-X.out];omega);injection e with e;subst e;rw[hc k (by rw[ao,<-X.out];exact er),bT,<-c5]
          obtain⟨ex,m5,m6,m7⟩:=gq.out (by rw[ao,ef.out];omega);have gt:=m7 k (by rw[ao,ef.out];exact er);rw[bT]at gt;have s1:w2 (V.getD k 0<S):=st.out k;have gv:w2 (V.getD k 0≠0->kJ S a g j V (k+1)=(kJ S a g j V k).set b (bD S a (g.getD b 0) (V.getD k 0))):=by
           show _->_;intro Q;show(if V.getD k 0=0 then _ else _)=_;rw[if_neg Q,c5]
          have gw:w2 (V.getD k 0≠0->lM j V (k+1)=lM j V k++[b]):=by
           show _->_;intro Q;show(if V.getD k 0=0 then _ else _)=_;rw[if_neg Q,c5]
          have gx:w2 (V.getD k 0=0->kJ S a g j V (k+1)=kJ S a g j V k/\lM j V (k+1)=lM j V k):=by
           show _->_;intro Q;exact⟨by show(if V.getD k 0=0 then _ else _)=_;rw[if_pos Q],by show(if V.getD k 0=0 then _ else _)=_;rw[if_pos Q]⟩
          have ub:w2 ((kJ S a g j V k).length=n):=by show _=_;rw[nC,ab.out]
          obtain⟨s2,rfl,ot,ov⟩:=(s0.out wr bi.out) (by rw[ao,<-ab.out];omega);have gy:=ov b (by rw[ao,<-ab.out];exact oo);rw[bT]at gy;have s4:w2 (g.getD b 0<S):=b9.out b;have gz:=bo.out.2 b (by rw[ub.out];exact oo);have c3:=bo.out.1;have rf:w2 (zl (lM j V k)++zl [b]=zl (lM j V k++[b])):=Ix _ _;generalize V.getD k 0=x at*;generalize g.getD b 0=y at*;generalize(kJ S a g j V k).getD b 0=u at*;have wM:=aa m5;clear os m7 ov c5;subst m5;by_cases gC:x=0
          ·subst gC;obtain⟨e1,e2⟩:=gx.out rfl;have fr:=aa e1;have c7:=aa e2;clear e1 e2 gx gv gw;go_wp2;exact⟨⟨k+1,m,Z,cc,by omega,by omega,by go_num,by rw[c7.out];exact ey,bi,c4,by rw[fr.out];exact bo,gq,by rw[c7.out];exact dE,m4⟩,by simp[intOf];omega⟩
          ·have bb:((x:Int)==0)=R:=by rw[w4];omega
           have d7:((x:Int)!=0)=wP:=by rw[bne,bb];rfl
           have fr:=aa (gv.out gC);have c7:=aa (gw.out gC);have gD:w2 (∀W,af wr W->(W.cell? ⟨i+1+1,0,U⟩=gk (I J o)/\W.cell? ⟨i+1+1,1,U⟩=gk (I J S)/\W.cell? ⟨i+1+1,2,U⟩=gk (I J a))/\W.cell? ⟨l,0,U⟩=gk (.slice (gk ⟨wb,0,U⟩) n cw)/\W.cell? (id.add k)=gk (I J (b:Int))/\W.cell? (ex.add k)=gk (I J (x:Int))/\W.cell? (s2.add b)=gk (I J (y:Int))/\W.cell? ⟨wb,b,U⟩=gk (I J (u:Int))/\W.frozen? ⟨wb,b,U⟩=R):=by
            show∀W,_;intro W d;exact⟨(m2.out W (ae bi.out d)).2,(c4.out.below d).cell 0 _ rfl,(d.cell (by rw[aD];exact op)).trans gs,(d.cell (by rw[aD];exact m6)).trans gt,(d.cell (by rw[aD];exact ot)).trans gy,(d.cell c3).trans gz.1,(d.frozen c3).trans gz.2⟩
           clear gx gv gw gs gy gz op m6 ot c3;go_wp2;clear bb d7 gt;refine bV (S:=af wr) 20 oK oK (ai (w3 _ _)) ?_;simp only[List.take_succ_cons,List.take_zero,List.drop_succ_cons,List.drop_zero]
           repeat refine kO gD.out ?_
           refine kX (λW d=>vH o S a y x W s.out.vf s4.out s1.out) ?_
           repeat refine kO gD.out ?_
           refine cX ?_;intro em ds;have b5:=aa ds;clear ds;obtain⟨-,-,-,-,-,ta,tb⟩:=gD.out em b5.out;have it:=aa ((c4.out.below b5.out).Am wb b (I J ((bD S a y x:Nat):Int)) (λe=>jv.out e.symm));have pd:=aa ((bo.out.below b5.out).set b (bD S a y x));rw[<-fr.out]at pd;have un:=aa ((gq.out.below b5.out).Am wb b (I J ((bD S a y x:Nat):Int)) sy.out);have d0:=aa (sA (aq dE.out b5.out) wb b (I J ((bD S a y x:Nat):Int)) en.out.2);have b4:w2 (af r (em.setCell ⟨wb,b,U⟩ (I J ((bD S a y x:Nat):Int)))):=(ae bi.out b5.out).setCell (by have E:=t8.out;exact E) _;have pb:w2 (T.heap.size<=(em.setCell ⟨wb,b,U⟩ (I J ((bD S a y x:Nat):Int))).heap.size):=by show _<=_;have E:=m4.out;have K:=b5.out.size;simp;omega
           go_wp2;clear ta tb;generalize em.setCell ⟨wb,b,U⟩ (I J ((bD S a y x:Nat):Int))=N at*;have pu:=ia it.out;have pv:(N.alloc (.cells #[I J (b:Int)] 3)).cell? ⟨l,1,U⟩=gk (.slice Z m cc):=(it.out.below (ax _ _)).cell 1 _ rfl;have wG:m<=8000:=oO;refine rY (S:=λW=>af r W) (.br [(R,0),(R,2),(R,3),(R,4),(R,5)] [1,6] (λk=>if k=1 then .last [(wP,6),(wP,7),(R,8),(wP,9)]else .last [(wP,1),(wP,7),(R,8),(wP,9)])) oK oK b4.out.drew ?_;simp only[aT,aH,w7,w8]
           repeat refine zO jr.out ?_
           refine aj ?_;intro v9 m8;simp only[List.mem_cons,List.not_mem_nil,or_false]at m8;rcases m8 with rfl|rfl
           ·simp only[reduceIte,Nat.reduceEqDiff,aT,aH,w7,w8];refine' zQ (v:= .slice Z m cc) (w':=N.drew) rfl (by go_simp) b4.out.drew ?_;refine aj ?_
            (try simp only[reduceIte,Nat.reduceEqDiff,aT,aH,w7,w8])
            refine' zQ (v:= .slice (gk ⟨N.drew.heap.size,0,U⟩) 1 1) (w':=N.drew.alloc (.cells #[I J (b:Int)] 3)) rfl (by go_simp) (ah b4.out.drew _) ?_;exact TF
           ·simp only[reduceIte,Nat.reduceEqDiff,aT,aH,w7,w8];refine' zQ (v:= .slice (gk ⟨N.drew.heap.size,0,U⟩) 1 1) (w':=N.drew.alloc (.cells #[I J (b:Int)] 3)) rfl (by go_simp) (ah b4.out.drew _) ?_;refine aj ?_
            (try simp only[reduceIte,Nat.reduceEqDiff,aT,aH,w7,w8])
            refine' zQ (v:= .slice Z m cc) (w':=N.drew.alloc (.cells #[I J (b:Int)] 3)) rfl (by go_simp) (ah b4.out.drew _) ?_;exact TF
         ·obtain rfl:f=k:=oO;rw[sv.out]at bo;rw[t6.out]at ey dE;have o0:w2 ((lI S a c first g q).length=n):=by show _=_;rw[zR,ab.out]
          have ue:w2 (ak S (lI S a c first g q)):=Ld s.out.vf b9.out;generalize lI S a c first g q=M at*
          have us:w2 (wS w1 168 #[bZ o S a c first,.slice (gk ⟨wb,0,U⟩) n cw] wr λe C=>∃v,e= .returned v/\az C v (zl (bO S a c first M))/\af wr C):=Cb o S a c first M n (gk ⟨wb,0,U⟩) cw wr s.out o0.out.symm ue.out oO bo.out.rd
          obtain⟨⟨ad,al,am,ap,av⟩,-⟩:=m2.out wr bi.out;have k0:=eu c4.out;have ii:w2 ((bO S a c first M).length=c):=by show _=_;unfold bO;simp
          have td:w2 (∀p,p<c->(bO S a c first M).getD p 0=iK S a first M p):=λp d5=>by unfold bO;exact bC _ _ _ d5
          go_wp2_with(go_at_call 168;refine us.out.mono ?_;rintro e tg ⟨v20,rfl,o1,o2⟩;obtain⟨wa,ct,rfl,-,-,m9⟩:=az.nat o1;rw[ii.out];have dx:=aa m9;have es:=aa o2;clear o1 o2 m9 ad al am ap av k0)
          have o3:=aa (ae bi.out es.out);have ut:=aa (c4.out.below es.out);have vc:=aa (bo.out.below es.out);have vd:=aa (aq dE.out es.out);clear c4 bo dE bi;go_loopw [26] (λfv wr=>∃p:Nat,p<=c/\fv=I J p/\w2 (af tg wr)/\w2 (∀Y,Y<p->iK S a first M Y=0)) (λfv _=>c-(intOf fv).toNat)
          case atStart=>exact⟨0,x1 _,rfl,w3 _ _,λY i9=>by omega⟩
          case round=>
           obtain⟨p,d5,rfl,b3,jp⟩:=hrel;have O:=aa (sO.out wr (ae o3.out b3.out));have fx:=aa (t9.out wr (ae o3.out b3.out));have c0:=eu O.out;have c1:=ia O.out;have ck:=bN 0 O.out;have b6:=bN 1 O.out;by_cases io:p<c
           ·obtain⟨wd,rfl,-,na⟩:=(dx.out.below b3.out) (by rw[ao,ii.out];omega);have i9:=na p (by rw[ao,ii.out];exact io);rw[bT,td.out p io]at i9;have ip:=aa (t7.out p io);have gN:w2 (iK S a first M p=0->∀Y,Y<p+1->iK S a first M Y=0):=by
             show _->_;intro fn Y wI;rcases Nat.lt_or_ge Y p with Q|Q
             ·exact jp.out Y Q
             ·obtain rfl:Y=p:=oO;exact fn
            generalize iK S a first M p=y at*
            clear na;by_cases nb:y=0
            ·subst nb;have tp:=aa (gN.out rfl);clear gN ip;go_wp2;exact⟨⟨p+1,by omega,by go_num,b3,tp⟩,by simp[intOf];omega⟩
            ·have bd:=aa (ip.out nb);have bb:((y:Int)==0)=R:=by rw[w4];omega
             have d7:((y:Int)!=0)=wP:=by rw[bne,bb];rfl
             clear gN ip;exact Jj
           ·obtain rfl:c=p:=oO;have ul:=aa (up.out jp.out);have pp:=aa (ut.out.below b3.out);have k0:=eu pp.out;have wf:=ia pp.out;have tq:w2 (az wr (.slice (gk ⟨wb,0,U⟩) n cw) (zl M)):=(vc.out.below b3.out).ints o0.out.symm ob.out.1 ob.out.2;have tr:w2 (az wr (.slice Z m cc) (zl (cf g M))):=az.bL (aq vd.out b3.out);have e1:(wr.setCell ⟨i+1,0,U⟩ (.slice (gk ⟨wb,0,U⟩) n cw)).cell? ⟨i+1,1,U⟩=gk aS:=by rw[World.cell?_setCell_other _ _ _ _ oS];exact c1
            go_wp2;refine bodyPost_ret (v:= .tuple #[.agg #[.slice (gk ⟨wb,0,U⟩) n cw,.slice Z m cc],I J 0]) (by simp[results,results124,go_sem,c0,c1,ck,b6]) rfl ⟨(fx.out.setCell (by have:=d8.out;simp;omega) _).setCell (by have:=d8.out;simp;omega) _,.inl ⟨M,_,_,ul.out,rfl,((tq.out.iJ _ c0 _).iJ _ e1 _),((tr.out.iJ _ c0 _).iJ _ e1 _)⟩⟩
       ·have bd:=aa (et.out (λa2=>ms a2.2.2));have q1:decide ((c:Int)<2* (f:Int))=wP:=by simp;omega
        exact Jj
      ·have bd:=aa (et.out (λa2=>mq a2.2.1));have bb:((f:Int)==(P:Int))=R:=by rw[w4];omega
       have d7:((f:Int)!=(P:Int))=wP:=by rw[bne,bb];rfl
       exact Jj
     ·have bd:=aa (et.out (λa2=>mp a2.1));have bb:((f:Int)==(L:Int))=R:=by rw[w4];omega
      have d7:((f:Int)!=(L:Int))=wP:=by rw[bne,bb];rfl
      exact Jj
end
end Go.Proofs.YtmnlkganmgcpbaaGreatDoor
