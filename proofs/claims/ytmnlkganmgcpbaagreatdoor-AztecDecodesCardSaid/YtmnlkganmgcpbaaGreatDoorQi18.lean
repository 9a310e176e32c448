import Derived.Test.YtmnlkganmgcpbaaGreatDoorQi17
set_option maxRecDepth 100000
set_option maxHeartbeats 4000000
set_option linter.unusedVariables false
set_option linter.unusedSectionVars false
set_option linter.unusedSimpArgs false
set_option linter.defProp false
open Go.Value renaming int->I
open Go.IntKind renaming i64->J
open Bool renaming false->R,true->wP
open Option renaming none->U,some->gk
open Go renaming World->wR,Calls->wS,Value->xf
open Go.Proofs.Tryz renaming prog->w1
open Go.RowKit renaming Hid->w2
open Go.RowKit.Below renaming refl->w3
open _root_ renaming if_neg->w6,if_pos->xl,Option->xv,of_decide_eq_true->Ap,of_decide_eq_false->WD
open Nat renaming zero_le->x1,le_trans->x3,lt_of_lt_of_le->x6,add_sub_cancel->HI
open List renaming getD->x4,getElem?_eq_getElem->yv,take_zero->A0,take_succ_cons->A3,drop_succ_cons->A4,drop_zero->CQ,filter_append->UQ,take_add_one->Vj
open Go.Proofs.Tryz
namespace Go.Proofs.YtmnlkganmgcpbaaGreatDoor
section
open Go.RowKit
def eQ (w b:wR):Prop:=∀x a,az w x a->az b x a
theorem eQ.trans {a b c:wR} (h:eQ a b) (e:eQ b c):eQ a c:=λx d f=>e x d (h x d f)
theorem eQ.below {a b:wR} (h:af a b):eQ a b:=λx e d=>d.below h
theorem eQ.store {k:DK} {wr:wR} {b d e f:xf} {g:List Nat} (h:DS k wr b d e f g) {a:Nat} {A:xv Addr} {n c:Nat} (i:wr.cell? ⟨k.db,a,U⟩=gk (.slice A n c)) (u:xf):eQ wr (wr.setCell ⟨k.db,a,U⟩ u):=λx l j=>Jn h i u j
section
variable {c s p : Nat} (h : VF c s p)
include h
theorem qf:ak s [1]:=λa=>by
 have b:=h.aO
 match a with
 |0=>show 1<s;omega
 |a+1=>show([1]:List Nat).getD (a+1) 0<s;simp[x4];omega
theorem Bd:co h [1]=ju 1:=by
 funext a;unfold co ju
 match a with
 |0=>exact lf h
 |a+1=>rw[w6 oO];exact bS h
theorem KY {a:List Nat} (hs:ak s a) {n:Nat} (hn:a.length=n):dt s p a [1] n a.length 0=a:=by
 refine dC (by rw[gB,hn]) λb d=>?_;rw[gB]at d;refine ik h (mw h _ _ _ _ _ b) (hs b) ?_;have:=vP h hs (qf h) d;rw[jb,Bd,oh,eY]at this;exact this
theorem Rz {q:List Nat} (hq:ak s q) {n:Nat} (hn:q.length=n):dt s p [1] q n 1 0=q:=by
 refine dC (by rw[gB,hn]) λa b=>?_;rw[gB]at b;refine ik h (mw h _ _ _ _ _ a) (hq a) ?_;have:=vP h (qf h) hq b;rw[Bd,oh,eY]at this;exact this
end
theorem Le (k:DK) (j l m n:xf) (o:List Nat) (w:wR) (h:DS k w j l m n o) (u:EW l):
 wS w1 161 #[.pointer (gk ⟨k.db,0,U⟩)] w λe d=>e= .returned (.bool wP)/\∃v,DS k d j v m n o/\az d v (zl [1])/\eQ w d:=by
 obtain⟨D,n2,E,rfl⟩:=u;have b:=aa (h.below (ax w (.cells #[I J 1] 3)));have x:w2 (az (w.alloc (.cells #[I J 1] 3)) (.slice (gk ⟨w.heap.size,0,U⟩) 1 1) (zl [1])):=az.lit _ [1] 3 _ 1 rfl rfl oO;have y:w2 (eQ w (w.alloc (.cells #[I J 1] 3))):=eQ.below (ax _ _);have g:=aa (b.out.store 13 (.slice (gk ⟨w.heap.size,0,U⟩) 1 1) rfl);have q:=aa (eQ.store b.out b.out.cells.2.2.2.1.2.1 (.slice (gk ⟨w.heap.size,0,U⟩) 1 1));have z:=b.out.cells.2.2.2.1.2.1;have r:=b.out.cells.2.2.2.2 13;obtain⟨-,-,⟨-,A,-⟩,-⟩:=g.out.cells;have i:=h.ok;have K:k.n<=4096:=by have:=i.n2;have:=i.vf.le;omega
 clear h i;go_enter func161,ntmps161;go_wp2;clear z r;generalize t:(w.alloc (.cells #[I J 1] 3)).setCell ⟨k.db,13,U⟩ (.slice (gk ⟨w.heap.size,0,U⟩) 1 1)=F at*;clear t A;have L:0<=k.n:=x1 _;go_loop [14] (λf=>∃a:Nat,a<=k.n/\f=I J a) (λf=>k.n-(intOf f).toNat)
 case atStart=>exact⟨0,x1 _,rfl⟩
 case round=>
  obtain⟨a,G,rfl⟩:=hrel;by_cases B:a<k.n
  ·have H:=g.out.E.2 a B;go_wp2;exact⟨⟨a+1,by omega,by go_num⟩,by simp[intOf];omega⟩
  ·have C:a=k.n:=oO;subst C;go_wp2;go_ret;exact⟨rfl,_,g.out,q.out _ _ x.out,y.out.trans q.out⟩
def zj (k:DK) (a:VF k.C k.S k.P) (f g i:xf) (e:List Nat) (w d:wR) (b:Bool):Prop:=
 ∃(q:List Nat) (L:Nat),b=decide (2* (q.length-1)<=k.par)/\ak k.S q/\dm q/\1<=q.length/\q.length<=k.par+1/\jZ a (co a (bO k.S k.P k.par k.first e)) k.par (co a q) L/\∃v,DS k d f g v i e/\az d v (zl q)/\eQ w d
theorem JK (k:DK) (l n X i:xf) (f:List Nat) (w:wR) (h:DS k w l n X i f) (z:az w l (zl (bO k.S k.P k.par k.first f))) (F:az w n (zl [1])) (b1:EW X):
 wS w1 162 #[.pointer (gk ⟨k.db,0,U⟩)] w λe d=>∃b,e= .returned (.bool b)/\zj k h.ok.vf l n i f w d b:=by
 have a:=h.ok.vf;have bb:=a.le;have ap:=h.ok.p1;have b2:=h.ok.p2;obtain⟨g,C⟩:∃g,g=bO k.S k.P k.par k.first f:=⟨_,rfl⟩;have D:g.length=k.par:=by rw[C];unfold bO;simp
 have K:ak k.S g:=by rw[C];exact sj a h.lt
 have b3:w2 (∀d b,(∃(q:List Nat) (L:Nat),b=decide (2* (q.length-1)<=k.par)/\ak k.S q/\dm q/\1<=q.length/\q.length<=k.par+1/\jZ a (co a g) k.par (co a q) L/\∃v,DS k d l n v i f/\az d v (zl q)/\eQ w d)->zj k a l n i f w d b):=by
  rw[C];exactλd b h=>h
 have ca:h.ok.vf=a:=rfl;rw[<-C]at z;show wS _ _ _ _ λe d=>∃b,e= .returned (.bool b)/\zj k a l n i f w d b;clear ca;generalize b4:zj k a l n i f w=cb at*;clear b4;obtain⟨o,c1,rfl,bd,be,Y⟩:=az.nat z;obtain⟨r,t,rfl,bf,bi,Z⟩:=az.nat F;obtain⟨ce,n3,ch,rfl⟩:=b1;rw[D]at h;have M:=aa h
 have A:w2 (∀W,(∃v,DS k W (.slice o k.par c1) (.slice r 1 t) v i f)->(W.cell? ⟨k.db,0,U⟩=gk (I J k.C)/\W.cell? ⟨k.db,1,U⟩=gk (I J k.S)/\W.cell? ⟨k.db,2,U⟩=gk (.slice (gk ⟨k.be,0,U⟩) (k.S-1) (k.S-1))/\W.cell? ⟨k.db,3,U⟩=gk (.slice (gk ⟨k.bl,0,U⟩) k.S k.S))/\
  (W.cell? ⟨k.db,7,U⟩=gk (I J k.par)/\W.cell? ⟨k.db,11,U⟩=gk (I J 0)/\W.cell? ⟨k.db,12,U⟩=gk (.slice o k.par c1)/\W.cell? ⟨k.db,13,U⟩=gk (.slice r 1 t))):=by
  show∀W,_;rintro W ⟨v,bo⟩;obtain⟨z,⟨-,-,-,F,-⟩,⟨-,-,bq⟩,⟨bs,bt,-,-⟩,-⟩:=bo.cells;exact⟨z,F,bq,bs,bt⟩
 have av:w2 (wS w1 200 #[gG k.C k.S k.be k.bl,.slice o k.par c1,.slice r 1 t,I J k.par] w.drew λe d=>∃v,e= .returned v/\az d v (zl g)/\Below w.drew.heap.size w.drew d):=by
  show wS _ _ _ _ _;have:=vF k.C k.S k.P k.be k.bl k.par g [1] o r k.par 1 c1 t w.drew a K (qf a) D.symm rfl oO oO ap oO h.drew.T (Y.below (ai (w3 _ _))) (Z.below (ai (w3 _ _)));rw[KY a K D]at this;exact this
 have c2:k.par<=4094:=oO;have b5:=aa K;have E:=aa D;clear z F bd be Y bf bi Z bb b2 K D C;go_enter func162,ntmps162;go_wp2;refine yO (λW=>∃v,DS k W (.slice o k.par c1) (.slice r 1 t) v i f) [1,2,3,4,5,6,7,8,9,10,11,12,13,14,15,16,17,0,18,0,19] ⟨_,M.out.drew⟩ ?_
 repeat refine zO A.out ?_
 refine zZ ?_;refine av.out.mono ?_;rintro e G ⟨v1,rfl,a0,P⟩;obtain⟨ci,ab,rfl,cx,rz,a1⟩:=az.nat a0;rw[E.out];have y:=aa (M.out.drew.below P);have a2:w2 (eQ w G):=eQ.below ((ai (w3 _ _)).trans P);obtain⟨N,rfl,a8,a3⟩:=a1 (by rw[ao,E.out];exact ap);have c3:k.par<=ab:=by rw[<-E.out];assumption
 have a9:RD G (gk N) (zl g):=λ_=>⟨N,rfl,a8,a3⟩;have a4:=aa a9;clear a0 P a1 av a8 a3 a9;refine⟨_,rfl,⟨_,y.out⟩,jO ?_⟩
 repeat refine zO A.out ?_
 refine aj ?_;go_wp2;refine yO (λW=>∃v,DS k W (.slice o k.par c1) (.slice r 1 t) v i f) [1,2,3,4,5,6,7,8,9,10,0,11,12,0,13,14,0,15] ⟨_,y.out.drew⟩ ?_
 repeat refine zO A.out ?_
 refine' zQ (w':=G.drew) rfl (by go_simp;rfl) ⟨_,y.out.drew⟩ ?_;refine zZ ?_;refine(Fm k.C k.S k.P k.be k.bl g (gk N) k.par ab G.drew a b5.out E.out.symm oO y.out.drew.T (a4.out.below (ai (w3 _ _)))).mono ?_;rintro e ac ⟨ck,rfl,q,L,Q,ad,al,bv,bx,am,S⟩;obtain⟨u,x,rfl,cp,cq,bz⟩:=az.nat Q;have j:=aa (y.out.drew.below S);have a5:w2 (eQ w ac):=a2.out.trans (eQ.below ((ai (w3 _ _)).trans S));have a6:=aa Q;have O:w2 (ak k.S q/\dm q/\jZ a (co a g) k.par (co a q) L):=⟨ad,al,am⟩;clear Q bz S a4 a2 y M ad al am;refine⟨_,rfl,⟨_,j.out⟩,jO ?_⟩
 repeat refine zO A.out ?_
 have T:=aa (j.out.store 14 (.slice u q.length x) rfl);have b6:=aa (a5.out.trans (eQ.store j.out j.out.cells.2.2.2.1.2.2.1 (.slice u q.length x)));have b7:=aa (Jn j.out j.out.cells.2.2.2.1.2.2.1 (.slice u q.length x) a6.out);refine' iW rfl (o8 rfl ⟨k.db,14,U⟩ u q.length x rfl rfl j.out.cells.2.2.2.1.2.2.1 (j.out.cells.2.2.2.2 14)) ⟨_,T.out⟩ ?_;simp only[Act.put];refine aj ?_;generalize ac.setCell ⟨k.db,14,U⟩ (.slice u q.length x)=cr at*;obtain⟨-,⟨-,-,-,cs,-⟩,⟨-,-,cy⟩,⟨-,-,b9,-⟩,-⟩:=T.out.cells;obtain⟨m,H⟩:∃m,q.length=m+1:=⟨q.length-1,by omega⟩;have B:=aa H;rw[H]at b9 bx;rw[H];have e1:J.wrap (((m+1:Nat):Int)-1)=(m:Int):=by rw[aG _ oO oO];omega
 have e2:J.wrap (2* (m:Int))=((2* m:Nat):Int):=by rw[aG _ oO oO];omega
 have e4:wrap64 ((2* m:Nat):Int)=((2* m:Nat):Int):=by unfold wrap64;omega
 have V:w2 (2* m=2* m):=rfl;clear j a6 a5 A H bv
 revert V
 generalize a7:2* m=cv at*;intro _;have V:=aa a7;clear a7;go_wp2;go_quiet (fail)
 go_wp2;go_ret;refine⟨_,rfl,b3.out _ _ ⟨q,L,?_,O.out.1,O.out.2.1,by rw[B.out];omega,by rw[B.out];omega,O.out.2.2,.slice u (m+1) x,?_,?_,?_⟩⟩
 ·rw[B.out,HI,V.out]
 ·have:=T.out;rw[B.out]at this;rw[E.out];exact this.below (cS (w3 _ _) _)
 ·have:=b7.out;rw[B.out]at this;exact this.below (cS (w3 _ _) _)
 ·exact b6.out.trans (eQ.below (cS (w3 _ _) _))
theorem RD.grown {w W:wR} {A:xv Addr} {c:List Int} {row:xv Nat} (h:RD w A c) (hg:w.grownBy W row) (d:∀a,A=gk a->gk a.block≠row):RD W A c:=λhn=>by
 obtain⟨a,e,hl,hc⟩:=h hn;refine⟨a,e,x6 hl hg.size,λb f=>?_⟩;rw[hg.cell_far (a.add b) (by rw[aD];exact hl) (by rw[aD];exact d a e)];exact hc b f
theorem eQ.grown {w wr W:wR} {row:xv Nat} (d:eQ w wr) (hg:wr.grownBy W row) (m:∀q,row=gk q->w.heap.size<=q):eQ w W:=λx f a=>by
 obtain⟨A,c,e,g,i,j⟩:=d x f a;obtain⟨n,o,b,-,-,l⟩:=a;rw[e]at b;injection b with e1 e2 e3;subst e1;refine⟨A,c,e,g,i,λhn=>?_⟩;obtain⟨r,k,s,-⟩:=l hn
 exact j.grown hg (λp e4 e5=>by
  rw[k]at e4;injection e4 with e4;subst e4;have:=m _ e5.symm
  omega) hn
theorem DS.grown {k:DK} {wr W:wR} {a b c d:xf} {e:List Nat} {row:xv Nat} (h:DS k wr a b c d e) (hg:wr.grownBy W row) (f:∀q,row=gk q->k.M<=q):DS k W a b c d e:=
 h.KS ((w3 _ _).grown hg h.sz f) hg.size
theorem yA (c S b d bl x:Nat) (a:List Nat) (n:Nat) (k:n=a.length) (A:xv Addr) (e:Nat) (w:wR) (f:VF c S b) (g:x<S) (hl:ak S a) (hn:n<=4097) (i:dH w S b d bl) (j:RD w A (zl a)):
 wS w1 202 #[gG c S d bl,.slice A n e,I J x] w (au (I J ((cP S b x a:Nat):Int)) w):=by
 subst k;exact JT c S b d bl x a A e w f g hl hn i j
noncomputable def il (s a n:Nat) (q:List Nat) (b:Nat):List Nat:=(List.range b).filter λc=>cP s a (gZ s a n c) q==0
theorem DN {s a n:Nat} {q:List Nat} {b:Nat} (h:cP s a (gZ s a n b) q=0):il s a n q (b+1)=il s a n q b++[b]:=by
 unfold il;rw[List.range_succ,UQ];simp[h]
theorem Ij {s a n:Nat} {q:List Nat} {b:Nat} (h:cP s a (gZ s a n b) q≠0):il s a n q (b+1)=il s a n q b:=by
 unfold il;rw[List.range_succ,UQ];simp[h]
def zs (k:DK) (e f g:xf) (i q:List Nat) (w a:wR) (b:Bool):Prop:=
 b=decide ((eB k.S k.P k.n q).length=q.length-1)/\∃v,DS k a e f g v i/\az a v (zl (eB k.S k.P k.n q))/\(∀A n c d,v= .slice A n c->A=gk d->d.block≠k.wb)/\eQ w a
theorem J2 (k:DK) (j l O:xf) (o q:List Nat) (w:wR) (h:DS k w j l O (.slice U 0 0) o) (P:az w O (zl q)) (hq:ak k.S q) (d0:1<=q.length) (a6:q.length<=4097):
 wS w1 163 #[.pointer (gk ⟨k.db,0,U⟩)] w λe y=>∃b,e= .returned (.bool b)/\zs k j l O o q w y b:=by
 obtain⟨bt,bv,ci,ck,co⟩:=info_parts cT;have C:=h.ok.vf;have c9:=C.le;have d1:=C.aO;have cp:=h.ok.n2;obtain⟨r,s,rfl,bx,bz,b1⟩:=az.nat P;have b2:=aa hq;have d2:w2 (∀y b,zs k j l (.slice r q.length s) o q w y b->zs k j l (.slice r q.length s) o q w y b):=λy b h=>h;obtain⟨m,Q⟩:∃m,q.length=m+1:=⟨q.length-1,by omega⟩;have S:=aa Q;rw[Q]at h a6;have b3:=aa h;have cq:=aa P;have a7:w2 (k.M<=w.heap.size):=h.sz;obtain⟨-,-,⟨-,a8,-⟩,-⟩:=h.cells;obtain⟨i,a2⟩:∃i,i=k.S-1:=⟨_,rfl⟩;have d3:J.wrap ((k.S:Int)-1)=(i:Int):=by rw[aG _ oO oO];omega
 have cr:k.n<=i:=oO;have d4:i<=4095:=oO;have b4:=aa a2;obtain⟨n,hn⟩:∃n,n=k.n:=⟨_,rfl⟩;rw[<-hn]at a8 cr;have z:=aa hn;generalize a9:zs k j l (.slice r q.length s) o q w=da at*;have cs:=aa a9;clear h P hq bx bz b1 Q cp a2 hn a9;go_enter func163,ntmps163;go_wp2;clear a8;go_loopw [3,12] (λb5 T wr=>∃a f:Nat,a<=n/\f<=a/\T=I J a/\b5=I J f/\w2 (f=(il k.S k.P n q a).length)/\w2 (∃V,DS k wr j l (.slice r (m+1) s) V o/\wr.ownsRow w.heap.size 3 1 V f ((il k.S k.P n q a).map vN))/\w2 (eQ w wr)/\w2 (w.heap.size<=wr.heap.size)) (λ_ T _=>n-(intOf T).toNat)
 case atStart=>exact⟨0,0,x1 _,Nat.le_refl _,rfl,rfl,rfl,⟨_,b3.out,World.ownsRow_nil _ _ _ _⟩,λx dd X=>X,Nat.le_refl _⟩
 case round=>
  obtain⟨a,f,d5,d6,rfl,rfl,Y,⟨V,a3,Z⟩,H,ad⟩:=hrel;have d:=aa a3;have L:=aa Z;obtain⟨b6,b7,rfl⟩:=cA Z;clear a3 Z;by_cases bb:a<n
  ·have X:=d.out.E.2 a (by rw[<-z.out];exact bb);obtain⟨B,al⟩:∃B,B=n-1-a:=⟨_,rfl⟩;obtain⟨x,bd⟩:∃x,x=i-B:=⟨_,rfl⟩;have d7:J.wrap ((i:Int)-(B:Int))=(x:Int):=by rw[aG _ oO oO];omega
   obtain⟨t,D⟩:∃t,t=gZ k.S k.P n a:=⟨_,rfl⟩;have cv:w2 (dk k.S k.P x=t):=by show _=_;rw[D,bd,al,b4.out];rfl
   have cx:w2 (t<k.S):=by show _<_;rw[D];exact fj C _
   have cy:w2 (k.n-1-a=B):=by show _=_;rw[al,z.out]
   have c2:x<=100000000:=oO;obtain⟨p,M⟩:∃p,p=cP k.S k.P t q:=⟨_,rfl⟩;have ab:w2 (p=0->il k.S k.P n q (a+1)=il k.S k.P n q a++[a]):=by show _->_;intro e;exact DN (by rw[<-D,<-M];exact e)
   have am:w2 (p≠0->il k.S k.P n q (a+1)=il k.S k.P n q a):=by show _->_;intro e;exact Ij (by rw[<-D,<-M];exact e)
   have c3:=aa M;have g:w2 (∀W,af wr W->(W.cell? ⟨k.db,0,U⟩=gk (I J k.C)/\W.cell? ⟨k.db,1,U⟩=gk (I J k.S)/\W.cell? ⟨k.db,2,U⟩=gk (.slice (gk ⟨k.be,0,U⟩) (k.S-1) (k.S-1))/\W.cell? ⟨k.db,3,U⟩=gk (.slice (gk ⟨k.bl,0,U⟩) k.S k.S))/\W.cell? ⟨k.db,14,U⟩=gk (.slice r (m+1) s)):=by
    show∀W,_;intro W b9;obtain⟨a4,-,-,⟨-,-,ca,-⟩,-⟩:=(d.out.below b9).cells;exact⟨a4,ca⟩
   clear al bd D M;go_wp2;clear X;refine yO (af wr) [1,2,3,4,5,6,7,8,9,10,11,12,0,13,0,14,0,15,0,16] (ai (w3 _ _)) ?_
   repeat refine zO g.out ?_
   refine zZ ?_;refine(BG k j l _ _ o a _ d.out.drew (by rw[<-z.out];exact bb)).mono ?_;rintro e de ⟨rfl,rfl⟩;rw[cy.out];refine⟨_,rfl,(ai (w3 _ _)),jO ?_⟩
   repeat refine zO g.out ?_
   refine zZ ?_;refine(nS k.C k.S k.P k.be k.bl x _ C c2 d.out.drew.T).mono ?_;rintro e cb ⟨rfl,be⟩;rw[cv.out];have u:w2 (af wr cb):=(ai (w3 _ _)).trans be;clear be;refine⟨_,rfl,u.out,jO ?_⟩
   repeat refine zO g.out ?_
   refine aj ?_;go_wp2;refine yO (af wr) [1,2,3,4,5,6,7,8,9,10,11,12,0,13,0,14,15] (ai u.out) ?_
   repeat refine zO g.out ?_
   repeat refine zX g.out ?_
   refine zZ ?_;have bf:=H.out _ _ cq.out;refine(yA k.C k.S k.P k.be k.bl t q (m+1) S.out.symm r s _ C cx.out b2.out a6 (d.out.below (ai u.out)).T ?_).mono ?_
   ·obtain⟨di,dl,e,-,-,ac⟩:=bf.below (ai u.out);injection e with e1 e2 e3;rw[e1];exact ac
   rintro e K ⟨rfl,bi⟩;rw[<-c3.out];have E:w2 (af wr K):=(ai u.out).trans (bi.mono (ai u.out).size);clear bi bf;refine⟨_,rfl,E.out,jO ?_⟩
   repeat refine zX g.out ?_
   repeat refine zO g.out ?_
   refine aj ?_;have ap:=aa (d.out.below E.out);have N:=aa (aq L.out E.out);have bo:w2 (eQ w K):=H.out.trans (eQ.below E.out);have bq:=E.out.size;have av:=aa bq;have d8:=ap.out.cells.2.2.2.1.2.2.2;clear bq H d L g;by_cases bs:p=0
   ·have ce:((p:Int)==0)=wP:=by rw[beq_iff_eq];omega
    have F:=aa (ab.out bs);have d9:f<=4096:=oO;clear ab am;go_wp2_with(at_builtin;refine aY (f:=vN) (d:=0) uf rfl _ _ _ rfl w.heap.size 3 bt _ 8 underlying64 bv ci ck co rfl _ f (il k.S k.P n q a) rfl (N.out.alloc _) (gk ⟨K.heap.size,0,U⟩) 1 1 [a] rfl rfl (RG.one _ _ _ _ rfl) oM oO (by have:=ad.out;have:=av.out;simp;omega) ?_;intro dn a5 a1 hg;obtain⟨ds,dv,rfl⟩:=cA a1;have G:=aa ((ap.out.below (ax _ _)).grown hg (λv a0=>x3 a7.out (N.out.lt v a0).1));have c4:w2 (eQ w a5):=(bo.out.trans (eQ.below (ax _ _))).grown hg (λv a0=>(N.out.lt v a0).1);have c5:=aa a1;have c6:=G.out.cells.2.2.2.1.2.2.2;have dx:=G.out.cells.2.2.2.2 15;have c7:w2 (K.heap.size<=a5.heap.size):=x3 oS hg.size;clear a1 hg)
    refine⟨⟨a+1,f+1,by omega,by omega,by go_num,by go_num,?_,⟨_,G.out.store 15 _ rfl,?_⟩,c4.out.trans (eQ.store G.out c6 _),by have:=c7.out;have:=ad.out;have:=av.out;show _<=_;simp;omega⟩,by simp[intOf];omega⟩
    ·show _=_;rw[F.out,List.length_append,<-Y.out];rfl
    ·rw[F.out];exact jj c5.out ⟨k.db,15,U⟩ G.out.cK.tag oD _
   ·have ce:((p:Int)==0)=R:=by rw[beq_eq_false_iff_ne];omega
    have F:=aa (am.out bs);clear ab am;go_wp2;exact⟨⟨a+1,f,by omega,by omega,by go_num,rfl,by rw[F.out];exact Y.out,⟨_,ap.out,by rw[F.out];exact N.out⟩,bo.out,x3 ad.out av.out⟩,by simp[intOf];omega⟩
  ·obtain rfl:a=n:=oO;have ea:=d.out.cells.2.2.2.1.2.2.1;have ch:w2 (f=(eB k.S k.P k.n q).length):=by show _=_;rw[Y.out,<-z.out];rfl
   have e1:(((m+1:Nat):Int)-1)=(m:Int):=oO;have c8:w2 (az wr (.slice b6 f b7) (zl (eB k.S k.P k.n q))):=by
    show az _ _ _;have:=SG.bL (f:=vN) (d:=0) L.out;have ac:=az.yG this;rw[<-z.out];exact ac
   go_wp2;go_ret;refine⟨_,rfl,?_⟩;rw[<-cs.out];refine⟨?_,_,by rw[S.out];exact d.out,c8.out,?_,H.out⟩
   ·rw[S.out,HI,<-ch.out]
    first
     |rfl
     |(rw[Bool.eq_iff_iff];simp;exact Int.ofNat_inj)
   ·intro A dy c dz e1 e2;injection e1 with e3 e4 e5;subst e3;subst e2;rcases L.out.2 with⟨e6,-⟩|⟨v,cap,ec,e6,ed,-⟩
    ·injection e6 with e7;cases e7
    ·injection e6 with e7;injection e7 with e7;have a4:=d.out.ok.m.2.2.1;have dE:=a7.out;rw[e7];show v≠k.wb;omega
theorem QW (k:DK) (b c d f:xf) (g:List Nat) (a:Nat) (w:wR) (h:DS k w b c d f g) (i:a<k.n):
 wS w1 199 #[.pointer (gk ⟨k.db,0,U⟩),I J a] w (au (I J ((k.n-1-a:Nat):Int)) w):=
 (BG k b c d f g a w h i).mono λe m ⟨j,l⟩=>⟨j,by rw[l];exact w3 _ _⟩
theorem Dy {s c d first:Nat} {w:List Nat}:(bO s c d first w).all (·==0)=wP↔∀a,a<d->iK s c first w a=0:=by
 unfold bO;rw[List.all_map,List.all_eq_true];constructor
 ·intro h a b;simpa using h a (List.mem_range.2 b)
 ·intro h a b;simpa using h a (List.mem_range.1 b)
theorem MN (k:DK) (G H K L:xf) (f:List Nat) (w:wR) (h:DS k w G H K L f):
 wS w1 165 #[.pointer (gk ⟨k.db,0,U⟩)] w (au (.bool ((bO k.S k.P k.par k.first f).all (·==0))) w):=by
 have M:=aa h;have N:=h.ok.vf.le;have z:=h.ok.p1;have ab:=h.ok.p2;have ac:=h.ok.f2;have ad:=h.ok.n2
 have s:w2 (∀W,af w W->(W.cell? ⟨k.db,0,U⟩=gk (I J k.C)/\W.cell? ⟨k.db,1,U⟩=gk (I J k.S)/\W.cell? ⟨k.db,2,U⟩=gk (.slice (gk ⟨k.be,0,U⟩) (k.S-1) (k.S-1))/\W.cell? ⟨k.db,3,U⟩=gk (.slice (gk ⟨k.bl,0,U⟩) k.S k.S))/\
  (W.cell? ⟨k.db,4,U⟩=gk (I J k.C)/\W.cell? ⟨k.db,5,U⟩=gk (I J k.S)/\W.cell? ⟨k.db,6,U⟩=gk (I J k.P)/\W.cell? ⟨k.db,7,U⟩=gk (I J k.par)/\W.cell? ⟨k.db,8,U⟩=gk (I J k.first))/\
  (W.cell? ⟨k.db,9,U⟩=gk (.slice (gk ⟨k.wb,0,U⟩) k.n k.cw))):=by
  show∀W,_;intro W O;obtain⟨i,P,⟨Q,am,ap⟩,av⟩:=(M.out.below O).cells;exact⟨i,P,Q⟩
 have m:w2 (wS w1 197 #[gG k.C k.S k.be k.bl,bZ k.C k.S k.P k.par k.first,.slice (gk ⟨k.wb,0,U⟩) k.n k.cw] w.drew λe t=>∃v,e= .returned v/\az t v (zl (bO k.S k.P k.par k.first f))/\Below w.drew.heap.size w.drew t):=
  Cc k.C k.S k.P k.be k.bl k.par k.first f _ k.n k.cw w.drew h.ok.vf h.lt h.hw oO z oO oO h.drew.T h.drew.PF
 have a3:k.par<=4094:=oO;obtain⟨d,n⟩:∃d,d=bO k.S k.P k.par k.first f:=⟨_,rfl⟩;have g:w2 (d.length=k.par):=by show _=_;rw[n];unfold bO;simp
 rw[<-n]at m⊢;clear h z ab ac ad N n;go_enter func165,ntmps165;go_wp2;refine yO (af w) [1,2,3,4,5,6,7,8,9,10,11,12,15,0,13,0,14] (ai (w3 _ _)) ?_
 repeat refine zO s.out ?_
 refine zZ ?_;refine m.out.mono ?_;rintro e S ⟨v1,rfl,B,C⟩;obtain⟨A,c,rfl,-,-,u⟩:=az.nat B;rw[g.out];have o:w2 (af w S):=(ai (w3 _ _)).trans C;have T:=aa u;clear B C u m;refine⟨_,rfl,o.out,jO ?_⟩
 repeat refine zO s.out ?_
 refine aj ?_;go_wp2;go_loop [19] (λj=>∃a:Nat,a<=k.par/\j=I J a/\w2 (∀b,b<a->d.getD b 0=0)) (λj=>k.par-(intOf j).toNat)
 case atStart=>exact⟨0,x1 _,rfl,λb l=>by omega⟩
 case round=>
  obtain⟨a,a0,rfl,y⟩:=hrel;by_cases D:a<k.par
  ·obtain⟨a1,rfl,a4,E⟩:=T.out (by rw[ao,g.out];omega);have V:=E a (by rw[ao,g.out];exact D);rw[bT]at V;have r:w2 (d.getD a 0≠0->d.all (·==0)=R):=by
    show _->_;intro e;exact all_false (d:=0) (by rw[g.out];exact D) (by simpa using e)
   have p:w2 (d.getD a 0=0->∀b,b<a+1->d.getD b 0=0):=by
    show _->_;intro e b l;rcases Nat.lt_or_ge b a with i|i
    ·exact y.out b i
    ·obtain rfl:b=a:=oO;exact e
   clear E;generalize d.getD a 0=x at*;by_cases q:x=0
   ·subst q;have al:=aa (p.out rfl);clear r p;go_wp2;exact⟨⟨a+1,by omega,by go_num,al.out⟩,by simp[intOf];omega⟩
   ·have X:=aa (r.out q);have Y:((x:Int)==0)=R:=by rw[beq_eq_false_iff_ne];omega
    have a2:((x:Int)!=0)=wP:=by rw[bne,Y];rfl
    clear r p q;go_wp2;go_ret;exact⟨by rw[X.out];rfl,o.out⟩
  ·have F:a=k.par:=oO;have Z:w2 (d.all (·==0)=wP):=all_true (d:=0) λb l=>by
    have:=y.out b (by rw[F,<-g.out];exact l);simpa using this
   subst F;go_wp2;go_ret;exact⟨by rw[Z.out];rfl,o.out⟩
section
variable {c s p : Nat} (h : VF c s p)
include h
theorem QD (n:Nat):jt n (1:KF h)=aR h (n%c):=by
 obtain⟨hc,f⟩:=h.Be
 induction n with
 |zero=>rw[Nat.zero_mod,bS];rfl
 |succ n a=>
  show jt n (1:KF h)+1=_;rw[a,<-lf h,<-qd h (x6 (Nat.mod_lt _ oO) f) oO];congr 1;rcases h with⟨rfl,rfl,g,_,_⟩|⟨d,i,_,hb,rfl,rfl,_⟩
  ·unfold bU;rw[xl rfl,Nat.mod_add_mod]
  ·have b:p≠0:=by
    intro e;subst e;have:bl 0=0:=by decide
    omega
   unfold bU;rw[w6 b];rcases Nat.mod_two_eq_zero_or_one n with e|e
   ·rw[e];show 0^^^1=_;rw[show(n+1)%2=1 from by omega];rfl
   ·rw[e];show 1^^^1=_;rw[show(n+1)%2=0 from by omega];rfl
theorem RJ {a:List Nat} (e:ak s a) (b:Nat):co h (nf s p c a (a.length-1)) b=lJ (co h a) b:=by
 obtain⟨hc,f⟩:=h.Be;unfold nf;rw[yN];show _=jt (b+1) (co h a (b+1));by_cases d:b<a.length-1
 ·rw[xl d,gd h (x6 (Nat.mod_lt _ oO) f) (e _),<-QD h,<-IS,eY];rfl
 ·rw[w6 d,fO h a (b+1) oO,yb]
theorem L1 (a:List Nat) (k:Nat):ak s (nf s p c a k):=iY h λb _=>bk h _ _
theorem Nw {b:Nat} {a q:List Nat} (hs:ak s a) (f:a.length=b) (hq:ak s q):Rm h b a q (dt s p a q b a.length 0) (nf s p c q (q.length-1)):=
 ⟨mw h _ _ _ _ _,gB _ _ _ _ _ _ _,λd e=>by rw[vP h hs hq e,jb],L1 h _ _,tH _ _ _ _ _,λd=>RJ h hq d⟩
end
theorem Mj {s p:Nat} {w a:List Nat} {f:Nat->Nat} {b:Nat} (q:a.Nodup) (l:b<a.length) (o:a.getD b 0<w.length):
 (ka s p w (a.take b) f).set (a.getD b 0) (bU s p ((ka s p w (a.take b) f).getD (a.getD b 0) 0) (f (a.getD b 0)))=ka s p w (a.take (b+1)) f:=by
 have m:a.getD b 0=a[b]:=by simp[x4,l]
 have r:a.getD b 0∉a.take b:=by
  rw[m];intro g;have n:=q;rw[<-List.take_append_drop b a,List.nodup_append]at n;exact n.2.2 _ g a[b] (by rw[List.drop_eq_getElem_cons l];exact List.mem_cons_self) rfl
 rw[mX o,w6 r];refine dC (by rw[List.length_set,gu,gu]) λd i=>?_;rw[List.length_set,gu]at i;rw[mX i];have e1:∀x,x∈a.take (b+1)↔x∈a.take b\/x=a.getD b 0:=λx=>by
  rw[Vj,List.mem_append];have:a[b]?=gk (a.getD b 0):=by rw[m];exact yv l
  rw[this];simp
 have t:∀(k:List Nat) (x v d:Nat),d<k.length->(k.set x v).getD d 0=if d=x then v else k.getD d 0:=λk x v d i=>by
  by_cases e:d=x
  ·subst e;rw[xl rfl];simp[x4,i]
  ·rw[w6 e];simp[x4,List.getElem?_set_ne (Ne.symm e)]
 rw[t _ _ _ _ (by rw[gu];exact i),mX i];by_cases j:d=a.getD b 0
 ·rw[xl j,xl ((e1 _).2 (.inr j)),<-j]
 ·rw[w6 j];by_cases g:d∈a.take b
  ·rw[xl g,xl ((e1 _).2 (.inl g))]
  ·rw[w6 g,w6 (λh=>(e1 _).1 h|>.elim g j)]
theorem MS (s p:Nat) (w:List Nat) (f:Nat->Nat):ka s p w [] f=w:=by
 refine dC (gu _ _ _ _ _) λb a=>?_;rw[gu]at a;rw[mX a,w6 oS]
theorem xt {a:Act} {b:Oper} {W:wR} {x q:Operand} (d:b.op= .store 3 q x) (p:Addr) (v:Int) (hq:a.eval q= .pointer (gk p)) (e:a.eval x=I J v) {u:xf} (hc:W.cell? p=gk u) (f:W.frozen? p=R):
 (execOp a.eval b).run w1 W= .ok .skip (W.setCell p (I J v)):=by
 unfold execOp;simp only[d,hq,e,Instr.storeAt,Instr.sureAddr,Sem.run_bind,Sem.run_pure,Result.andThen_ok];go_simp
def ML (k:DK) (f g i j:xf) (l a ev sl:List Nat) (m:wR) (b:Bool):Prop:=
 b=decide (∀d,d∈a->lu k.S k.P k.first k.n sl d≠0)/\∃e,DS k m f g i j e/\(b=wP->e=ka k.S k.P l a (js k.S k.P k.first k.n ev sl))
theorem RD.word {k:DK} {wr:wR} {A:xv Addr} {b:List Int} (h:RD wr A b) (g:∀a,A=gk a->a.block≠k.wb) (d:Nat) (u:xf):RD (wr.setCell ⟨k.wb,d,U⟩ u) A b:=λhn=>by
 obtain⟨a,e,hl,hc⟩:=h hn;refine⟨a,e,by simpa using hl,λf i=>?_⟩
 rw[World.cell?_setCell_other wr _ _ _ (λe2=>g a e (by
  have:=congrArg Addr.block e2;rw[aD]at this
  exact this.symm))]
 exact hc f i
theorem GW (k:DK) (a4 a5 a6 am:xf) (t q f:List Nat) (w:wR) (h:DS k w a4 a5 a6 am t) (O:az w a4 (zl (bO k.S k.P k.par k.first t))) (X:az w a5 (zl [1])) (P:az w a6 (zl q)) (a7:az w am (zl f))
 (fn:∀A n c r,am= .slice A n c->A=gk r->r.block≠k.wb) (hq:ak k.S q) (ks:1<=q.length) (kv:q.length<=4096) (co:f.Nodup) (ce:∀a,a∈f->a<k.n):
 wS w1 164 #[.pointer (gk ⟨k.db,0,U⟩)] w λe C=>∃b,e= .returned (.bool b)/\ML k a4 a5 a6 am t f (dt k.S k.P (bO k.S k.P k.par k.first t) q k.par k.par 0) (nf k.S k.P k.C q (q.length-1)) C b:=by
 have g:=h.ok.vf;have i7:=g.le;have kw:=g.aO;have gp:=h.ok.p1;have kz:=h.ok.p2;have cp:=h.ok.f2;have k1:=h.ok.n2;obtain⟨Y,bs⟩:∃Y,Y=bO k.S k.P k.par k.first t:=⟨_,rfl⟩;have a0:Y.length=k.par:=by rw[bs];unfold bO;simp
 have d2:ak k.S Y:=by rw[bs];exact sj g h.lt
 rw[<-bs]at O⊢;obtain⟨ev,bt⟩:∃ev,ev=dt k.S k.P Y q k.par k.par 0:=⟨_,rfl⟩;obtain⟨sl,cb⟩:∃sl,sl=nf k.S k.P k.C q (q.length-1):=⟨_,rfl⟩;rw[<-bt,<-cb];have fo:=aa a0;have bv:w2 (ak k.S ev/\ev.length=k.par):=by rw[bt];exact⟨mw g _ _ _ _ _,gB _ _ _ _ _ _ _⟩
 have bx:w2 (ak k.S sl/\sl.length=q.length-1):=by rw[cb];exact⟨L1 g _ _,tH _ _ _ _ _⟩
 generalize d3:ML k a4 a5 a6 am t f ev sl=i8;have d4:=aa d3;obtain⟨a8,c1,rfl,fG,f0,dd⟩:=az.nat O;obtain⟨a9,bb,rfl,f1,f2,de⟩:=az.nat X;obtain⟨bd,be,rfl,f3,f4,di⟩:=az.nat P;obtain⟨bf,dl,rfl,f5,f6,dn⟩:=az.nat a7;obtain⟨m,F⟩:∃m,q.length=m+1:=⟨q.length-1,by omega⟩;obtain⟨G,cq⟩:∃G,G=f.length:=⟨_,rfl⟩;have gq:[1].length=1:=rfl;rw[a0,F,<-cq]at h;have ap:=aa h;have M:=aa cq;have av:=aa F;have k2:m<=4095:=oO;have l0:G<=4096:=by
  have:=length_le_of_subset (m:=List.range k.n) co (λa Q=>List.mem_range.2 (ce a Q));rw[List.length_range]at this;omega
 have Z:w2 (∀W,af w W->(W.cell? ⟨k.db,0,U⟩=gk (I J k.C)/\W.cell? ⟨k.db,1,U⟩=gk (I J k.S)/\W.cell? ⟨k.db,2,U⟩=gk (.slice (gk ⟨k.be,0,U⟩) (k.S-1) (k.S-1))/\W.cell? ⟨k.db,3,U⟩=gk (.slice (gk ⟨k.bl,0,U⟩) k.S k.S))/\
  (W.cell? ⟨k.db,7,U⟩=gk (I J k.par))/\(W.cell? ⟨k.db,12,U⟩=gk (.slice a8 k.par c1)/\W.cell? ⟨k.db,13,U⟩=gk (.slice a9 1 bb)/\W.cell? ⟨k.db,14,U⟩=gk (.slice bd (m+1) be))):=by
  show∀W,_;intro W d;obtain⟨O,⟨-,-,-,X,-⟩,-,⟨P,a7,f7,-⟩,-⟩:=(ap.out.below d).cells;exact⟨O,X,P,a7,f7⟩
 have d5:w2 (wS w1 200 #[gG k.C k.S k.be k.bl,.slice a9 1 bb,.slice bd (m+1) be,I J ((m:Int)+1)] w.drew λe C=>∃v,e= .returned v/\az C v (zl q)/\Below w.drew.heap.size w.drew C):=by
  show wS _ _ _ _ _;have:=vF k.C k.S k.P k.be k.bl (m+1) [1] q a9 bd 1 (m+1) bb be w.drew g (qf g) hq rfl F.symm oO oO oO oO h.drew.T (de.below (ai (w3 _ _))) (di.below (ai (w3 _ _)));rw[show dt k.S k.P [1] q (m+1) [1].length 0=q from Rz g hq F]at this;exact this
 have d6:w2 (∀W B D,af w W->RD W B (zl q)->wS w1 200 #[gG k.C k.S k.be k.bl,.slice a8 k.par c1,.slice B (m+1) D,I J k.par] W λe C=>∃v,e= .returned v/\(az C v (zl ev)/\af W C)/\pS W v):=by
  show∀W B D,_;intro W B D d hB;have:=vO k.C k.S k.P k.be k.bl k.par Y q a8 B k.par (m+1) c1 D W g d2 hq a0.symm F.symm oO oO gp oO (h.below d).T (dd.below d) hB;rw[a0,<-bt]at this;exact this
 have d7:w2 (∀W B D,af w W->RD W B (zl q)->wS w1 203 #[gG k.C k.S k.be k.bl,.slice B (m+1) D] W λe C=>∃v,e= .returned v/\(az C v (zl sl)/\af W C)/\pS W v):=by
  show∀W B D,_;intro W B D d hB;have:=Kd k.C k.S k.P k.be k.bl q B (m+1) D W g hq F.symm oO oO (h.below d).T hB;rw[HI]at this;rw[cb,F,HI];exact this
 have gs:J.wrap ((1:Int)+((m:Int)+1))=(m:Int)+2:=by rw[aG _ oO oO];omega
 have gt:J.wrap ((m:Int)+2-1)=(m:Int)+1:=by rw[aG _ oO oO];omega
 have d8:=aa dn;have d9:w2 (k.wb<w.heap.size):=x6 h.ok.m.2.2.1 h.sz;have g9:w2 (∀r,bf=gk r->r.block≠k.wb):=λr e=>fn bf f.length dl r rfl e;have gv:w2 (∀a,a∈f->a<k.n):=ce;have gw:=aa co;have gx:w2 (∀a,a∈f->lu k.S k.P k.first k.n sl a=0->decide (∀a,a∈f->lu k.S k.P k.first k.n sl a≠0)=R):=λa Q f8=>decide_eq_false (λib=>ib a Q f8);have i9:=aa hq;clear h O X P a7 fG f0 dd f1 f2 de f3 f4 di f5 f6 dn fn ce co F cq d3 bt cb d2 a0 bs hq gq;go_enter func164,ntmps164;go_wp2;refine yO (af w) [1,2,3,4,5,6,7,8,9,10,11,12,13,14,15,16,17,18,19,20,21,22,23,24,0,25,0,26] (ai (w3 _ _)) ?_
 repeat refine zO Z.out ?_
 refine zZ ?_;refine d5.out.mono ?_;rintro e ds ⟨v1,rfl,ea,l⟩;obtain⟨dv,dx,rfl,-,-,ec⟩:=az.nat ea;rw[av.out];have ad:w2 (af w ds):=(ai (w3 _ _)).trans l;have cr:=aa ec;clear ea l ec d5 gs gt;refine⟨_,rfl,ad.out,jO ?_⟩
 repeat refine zO Z.out ?_
 refine aj ?_;go_wp2;refine yO (af w) [1,2,3,4,5,6,7,8,9,10,11,12,13,14,0,15,0,16] (ai ad.out) ?_
 repeat refine zO Z.out ?_
 refine zZ ?_;refine(d6.out _ dv dx (ai ad.out) (cr.out.below (ai (w3 _ _)))).mono ?_;rintro e ch ⟨jp,rfl,⟨ed,ef⟩,cp⟩;obtain⟨bi,dy,rfl,-,-,eh⟩:=az.nat ed;rw[bv.out.2];have c7:w2 (af ds ch):=(ai (w3 _ _)).trans ef;have a1:=aa (ae ad.out c7.out);have ek:=aa eh;have gy:w2 (∀r,bi=gk r->r.block≠k.wb):=cp.ne (x6 d9.out (ai ad.out).size);clear cp;have fr:=aa (cr.out.below c7.out);clear ed ef eh d6 cr ad;refine⟨_,rfl,a1.out,jO ?_⟩
 repeat refine zO Z.out ?_
 refine aj ?_;obtain⟨f9,gb,gc,ge⟩:=(Z.out ch a1.out).1;go_wp2_with(go_at_call 203;refine(d7.out ch dv dx a1.out fr.out).mono ?_;rintro e jr ⟨jv,rfl,⟨el,cs⟩,em⟩;obtain⟨bo,dz,rfl,-,-,en⟩:=az.nat el;rw[bx.out.2,av.out,HI];have cv:=aa (ae a1.out cs);have eq:=aa en;have gz:w2 (∀r,bo=gk r->r.block≠k.wb):=em.ne (x6 d9.out a1.out.size);clear em;have fv:=aa (ek.out.below cs);have gC:=(ap.out.below cv.out).cells.2.2.2.1.2.2.2;clear el cs en)
 have er:=aa (ap.out.below cv.out);have fw:=aa (d8.out.below cv.out);obtain⟨n,hn⟩:∃n,n=k.n:=⟨_,rfl⟩;have S:=aa hn;obtain⟨N,dE⟩:∃N,N=k.S-1:=⟨_,rfl⟩;have gg:=aa dE;have la:J.wrap ((k.S:Int)-1)=(N:Int):=by rw[aG _ oO oO];omega
 have lc:n<=N:=oO;have li:N<=4095:=oO;obtain⟨bq,gD⟩:∃bq,bq=k.first+k.S:=⟨_,rfl⟩;obtain⟨T,es⟩:∃T,T=k.first+k.S-2:=⟨_,rfl⟩;have gN:=aa es;have ll:J.wrap ((k.first:Int)+(k.S:Int))=(bq:Int):=by rw[aG _ oO oO];omega
 have lm:J.wrap ((bq:Int)-2)=(T:Int):=by rw[aG _ oO oO];omega
 have ih:T<=8190:=oO;have et:w2 (t.length=n):=by show _=_;rw[<-ap.out.hw,hn]
 clear hn dE gD es ek fr d8 f9 gb gc ge gC c7 d7 Z ap;go_loopw [62] (λci wr=>∃i:Nat,i<=G/\ci=I J i/\w2 (DS k wr (.slice a8 k.par c1) (.slice a9 1 bb) (.slice bd (m+1) be) (.slice bf G dl) (ka k.S k.P t (f.take i) (js k.S k.P k.first n ev sl)))/\w2 (∀a,a∈f.take i->lu k.S k.P k.first n sl a≠0)/\w2 (RD wr bf (zl f))/\w2 (RD wr bi (zl ev))/\w2 (RD wr bo (zl sl))) (λci _=>G-(intOf ci).toNat)
 case atStart=>exact⟨0,x1 _,rfl,by rw[A0,MS];exact er.out,λa Q=>by simp at Q,fw.out,fv.out,eq.out⟩
 case round=>
  clear er fw fv eq;obtain⟨i,j0,rfl,j,cx,cy,c2,c3⟩:=hrel;by_cases bz:i<G
  ·obtain⟨a,al⟩:∃a,a=f.getD i 0:=⟨_,rfl⟩;have c8:a∈f:=by
    rw[al];have hl:i<f.length:=by rw[<-M.out];exact bz
    rw[show f.getD i 0=f[i]from by simp[x4,hl]];exact List.getElem_mem hl
   have c4:a<n:=by rw[S.out];exact gv.out a c8
   have ii:=aa c8;obtain⟨cl,b1⟩:∃cl,cl=ka k.S k.P t (f.take i) (js k.S k.P k.first n ev sl):=⟨_,rfl⟩;have fz:w2 (cl.set a (bU k.S k.P (cl.getD a 0) (js k.S k.P k.first n ev sl a))=ka k.S k.P t (f.take (i+1)) (js k.S k.P k.first n ev sl)):=by
    show _=_;rw[b1,al];exact Mj gw.out (by rw[<-M.out];exact bz) (by rw[et.out,<-al];exact c4)
   have io:w2 (cl.length=n):=by show _=_;rw[b1,gu,et.out]
   rw[<-b1]at j;obtain⟨u,ck⟩:∃u,u=cl.getD a 0:=⟨_,rfl⟩;have d0:w2 (u<k.S):=by show _<_;rw[ck];exact j.out.lt a
   have b2:=j.out.W.2 a (by rw[io.out];exact c4);rw[<-ck]at b2 fz;obtain⟨E,b3⟩:∃E,E=n-1-a:=⟨_,rfl⟩;obtain⟨x,ew⟩:∃x,x=N-E:=⟨_,rfl⟩;have ls:J.wrap ((N:Int)-(E:Int))=(x:Int):=by rw[aG _ oO oO];omega
   have gY:x<=100000000:=oO;have ip:E<=4095:=oO;have c9:w2 (∀W,af wr W->wS w1 199 #[.pointer (gk ⟨k.db,0,U⟩),I J a] W (au (I J (E:Int)) W)):=by
    show∀W,_;intro W d;have:=QW k _ _ _ _ _ a W (j.out.below d) (by rw[<-S.out];exact c4);rw[<-S.out,<-b3]at this;exact this
   obtain⟨y,a2⟩:∃y,y=gZ k.S k.P n a:=⟨_,rfl⟩;have ex:dk k.S k.P x=y:=by rw[a2,ew,b3,gg.out];rfl
   have ey:w2 (y<k.S):=by show _<_;rw[a2];exact fj g _
   have ez:w2 (∀W,af wr W->wS w1 152 #[gG k.C k.S k.be k.bl,I J (x:Int)] W (au (I J (y:Int)) W)):=by
    show∀W,_;intro W d;have:=nS k.C k.S k.P k.be k.bl x W g gY (j.out.below d).T;rw[ex]at this;exact this
   obtain⟨H,b4⟩:∃H,H=E* T:=⟨_,rfl⟩;have it:H<=100000000:=by
    rw[b4];have:=Nat.mul_le_mul ip ih;omega
   have lv:J.wrap ((E:Int)* (T:Int))=(H:Int):=by
    have e:(E:Int)* (T:Int)=(H:Int):=by rw[b4];simp
    rw[e];exact aG _ oO oO
   obtain⟨ab,b5⟩:∃ab,ab=dk k.S k.P H:=⟨_,rfl⟩;have g0:w2 (ab<k.S):=by show _<_;rw[b5];exact fj g _
   have eA:w2 (∀W,af wr W->wS w1 152 #[gG k.C k.S k.be k.bl,I J (H:Int)] W (au (I J (ab:Int)) W)):=by
    show∀W,_;intro W d;have:=nS k.C k.S k.P k.be k.bl H W g it (j.out.below d).T;rw[<-b5]at this;exact this
   obtain⟨ac,b6⟩:∃ac,ac=cP k.S k.P y sl:=⟨_,rfl⟩;have iv:w2 (ac<k.S):=by show _<_;rw[b6];exact jl g _ sl (fh bx.out.1)
   have e0:w2 (∀W,af wr W->wS w1 202 #[gG k.C k.S k.be k.bl,.slice bo m dz,I J (y:Int)] W (au (I J (ac:Int)) W)):=by
    show∀W,_;intro W d;rw[b6];exact yA k.C k.S k.P k.be k.bl y sl m (by rw[bx.out.2,av.out,HI]) bo dz W g ey.out bx.out.1 oO (j.out.below d).T (c3.out.below d)
   obtain⟨K,b7⟩:∃K,K=cP k.S k.P y ev:=⟨_,rfl⟩;have g1:w2 (K<k.S):=by show _<_;rw[b7];exact jl g _ ev (fh bv.out.1)
   have e9:w2 (∀W,af wr W->wS w1 202 #[gG k.C k.S k.be k.bl,.slice bi k.par dy,I J (y:Int)] W (au (I J (K:Int)) W)):=by
    show∀W,_;intro W d;rw[b7];exact yA k.C k.S k.P k.be k.bl y ev k.par bv.out.2.symm bi dy W g ey.out bv.out.1 oO (j.out.below d).T (c2.out.below d)
   obtain⟨z,b9⟩:∃z,z=aA k.S k.P ab ac:=⟨_,rfl⟩;have c5:w2 (lu k.S k.P k.first n sl a=z):=by
    show _=_;rw[b9,b5,b4,b3,gN.out,b6,a2];rfl
   have ix:=aa b9;have g2:w2 (z<k.S):=by show _<_;rw[b9];exact bk g _ _
   have g3:w2 (js k.S k.P k.first n ev sl a=aA k.S k.P K (bW k.S k.P z)):=by
    show _=_;unfold js;rw[c5.out,b7,a2]
   have o:w2 (∀W,af wr W->(W.cell? ⟨k.db,0,U⟩=gk (I J k.C)/\W.cell? ⟨k.db,1,U⟩=gk (I J k.S)/\W.cell? ⟨k.db,2,U⟩=gk (.slice (gk ⟨k.be,0,U⟩) (k.S-1) (k.S-1))/\W.cell? ⟨k.db,3,U⟩=gk (.slice (gk ⟨k.bl,0,U⟩) k.S k.S))/\
    W.cell? ⟨k.db,8,U⟩=gk (I J k.first)/\W.cell? ⟨k.db,9,U⟩=gk (.slice (gk ⟨k.wb,0,U⟩) n k.cw)/\W.cell? ⟨k.wb,a,U⟩=gk (I J (u:Int))/\W.frozen? ⟨k.wb,a,U⟩=R):=by
    show∀W,_;intro W d;obtain⟨O,⟨-,-,-,-,X⟩,⟨P,-,-⟩,-,-⟩:=(j.out.below d).cells;rw[<-S.out]at P;exact⟨O,X,P,(d.cell j.out.W.1).trans b2.1,(d.frozen j.out.W.1).trans b2.2⟩
   obtain⟨lw,rfl,i6,fx⟩:=cy.out (by rw[ao,<-M.out];omega);have d1:=fx i (by rw[ao,<-M.out];exact bz);rw[bT,<-al]at d1;have g4:=aa al;clear fx i6 al b1 ck b2 b3 ew a2 ex b4 b5 b6 b7 b9 c8;go_wp2;clear d1;refine bV (S:=af wr) 15 oK oK (ai (w3 _ _)) ?_;simp only[A3,A0,A4,CQ]
   repeat refine kO o.out ?_
   refine kX (λW d=>c9.out W d) ?_
   repeat refine kO o.out ?_
   refine kX (λW d=>ez.out W d) ?_
   repeat refine kO o.out ?_
   refine cX ?_;intro kb l;have g5:=aa l;clear l;go_wp2;refine bV (S:=af wr) 21 oK oK (ai g5.out) ?_;simp only[A3,A0,A4,CQ]
   repeat refine kO o.out ?_
   refine kX (λW d=>c9.out W d) ?_
   repeat refine kO o.out ?_
   refine kX (λW d=>eA.out W d) ?_
   repeat refine kO o.out ?_
   refine cX ?_;intro kc l;have g6:=aa l;clear l;go_wp2;refine bV (S:=af wr) 13 oK oK (ai g6.out) ?_;simp only[A3,A0,A4,CQ]
   repeat refine kO o.out ?_
   refine kX (λW d=>e0.out W d) ?_
   repeat refine kO o.out ?_
   refine kX (λW d=>mG k.C k.S k.P k.be k.bl ab ac W g g0.out iv.out (j.out.below d).T) ?_
   repeat refine kO o.out ?_
   refine cX ?_;intro kd l;have fb:=aa l;clear l;rw[<-ix.out];clear c9 ez eA e0;by_cases c6:z=0
   ·have gi:((z:Int)==0)=wP:=by rw[beq_iff_eq];omega
    have g7:=aa (gx.out a ii.out (by rw[<-S.out,c5.out];exact c6));clear e9;go_wp2;go_ret;refine⟨_,rfl,?_⟩;rw[<-d4.out];refine⟨g7.out.symm,cl,?_,λh=>by cases h⟩;rw[fo.out,av.out,<-M.out];exact j.out.below fb.out
   ·have gi:((z:Int)==0)=R:=by rw[beq_eq_false_iff_ne];omega
    obtain⟨L,ca⟩:∃L,L=aA k.S k.P K (bW k.S k.P z):=⟨_,rfl⟩;have i0:=aa ca;have i1:w2 (L<k.S):=by show _<_;rw[ca];exact bk g _ _
    have i2:w2 (cl.set a (bU k.S k.P u L)=ka k.S k.P t (f.take (i+1)) (js k.S k.P k.first n ev sl)):=by
     show _=_;rw[<-fz.out,g3.out,ca]
    clear ca;go_wp2;refine bV (S:=af wr) 31 oK oK (ai fb.out) ?_;simp only[A3,A0,A4,CQ]
    repeat refine kO o.out ?_
    refine kX (λW d=>e9.out W d) ?_
    repeat refine kO o.out ?_
    refine kX (λW d=>xY k.C k.S k.P k.be k.bl K z W g g1.out g2.out c6 (j.out.below d).T) ?_
    repeat refine kO o.out ?_
    refine kX (λW d=>qT k.C k.S k.P k.be k.bl u (aA k.S k.P K (bW k.S k.P z)) W g d0.out (bk g _ _)) ?_
    repeat refine kO o.out ?_
    refine cX ?_;intro gm l;have a3:=aa l;clear l;rw[<-i0.out];obtain⟨-,-,-,lx,ly⟩:=o.out gm a3.out;have fc:=aa ((j.out.below a3.out).word a (bU k.S k.P u L) (lR g _ _ d0.out i1.out));have i3:=aa ((cy.out.below a3.out).word g9.out a (I J (bU k.S k.P u L:Nat)));have i4:=aa ((c2.out.below a3.out).word gy.out a (I J (bU k.S k.P u L:Nat)));have i5:=aa ((c3.out.below a3.out).word gz.out a (I J (bU k.S k.P u L:Nat)));rw[i2.out]at fc;go_wp2;refine⟨⟨i+1,by omega,by go_num,fc.out,λda V=>?_,i3.out,i4.out,i5.out⟩,by simp[intOf];omega⟩;rw[Vj,List.mem_append]at V;rcases V with V|V
    ·exact cx.out da V
    ·have hl:i<f.length:=by rw[<-M.out];exact bz
     have go:f[i]?=gk a:=by rw[g4.out,yv hl];simp[x4,hl]
     rw[go]at V;obtain rfl:da=a:=by simpa using V
     rw[c5.out];exact c6
  ·have fd:i=G:=oO;have g8:w2 (f.take i=f):=by show _=_;rw[fd,M.out,List.take_length]
   rw[g8.out]at j cx;subst fd;clear cy c2 c3;go_wp2;go_ret;refine⟨_,rfl,?_⟩;rw[<-d4.out];refine⟨(decide_eq_true (λa Q=>by rw[<-S.out];exact cx.out a Q)).symm,_,?_,λ_=>by rw[<-S.out]⟩;rw[fo.out,av.out,<-M.out];exact j.out
def ei (s a c first:Nat) (w:List Nat) (b:xv (List Nat)):Prop:=(∀v,Fix s a c first w v->b=gk v)/\∀v,b=gk v->Fix s a c first w v
theorem ei.eq {s c e first:Nat} {w:List Nat} {a b:xv (List Nat)} (h:ei s c e first w a) (d:ei s c e first w b):a=b:=by
 cases a with
 |some v=>exact(d.1 v (h.2 v rfl)).symm
 |none=>
  cases b with
  |none=>rfl
  |some v=>exact h.1 v (d.2 v rfl)
theorem Il {c s b:Nat} (h:VF c s b) {a first:Nat} {w q:List Nat} {L:Nat} (d:ak s w) (hn:w.length<=s-1) (hq:ak s q) (i:dm q) (j:jZ h (co h (bO s b a first w)) a (co h q) L):
 ei s b a first w (uN s b a first w q (dt s b (bO s b a first w) q a a 0) (nf s b c q (q.length-1))):=by
 have g:(bO s b a first w).length=a:=by unfold bO;simp
 have f:=Nw h (sj h (par:=a) (first:=first) d) g hq;rw[g]at f;exact⟨λv e=>Oa h d hn e hq i j f,λv e=>Jy h d e⟩
def py (k:DK) (d:List Nat) (e:wR) (b:Bool):Prop:=∃a:xv (List Nat),ei k.S k.P k.par k.first d a/\b=a.isSome/\∃f g i j c,DS k e f g i j c/\∀v,a=gk v->c=v
abbrev aS:xf:= .slice U 0 0
def JD (k:DK) (d:VF k.C k.S k.P) (a:List Nat) (wr:wR):Nat->Prop
 |0=>DS k wr aS aS aS aS a
 |1=>∃v1,DS k wr v1 aS aS aS a/\az wr v1 (zl (bO k.S k.P k.par k.first a))
 |2=>∃v1 b,DS k wr v1 b aS aS a/\az wr v1 (zl (bO k.S k.P k.par k.first a))/\az wr b (zl [1])
 |3=>∃v1 b e q L,DS k wr v1 b e aS a/\az wr v1 (zl (bO k.S k.P k.par k.first a))/\az wr b (zl [1])/\az wr e (zl q)/\ak k.S q/\dm q/\1<=q.length/\q.length<=k.par+1/\jZ d (co d (bO k.S k.P k.par k.first a)) k.par (co d q) L/\2* (q.length-1)<=k.par
 |4=>∃v1 b e v4 q L,DS k wr v1 b e v4 a/\az wr v1 (zl (bO k.S k.P k.par k.first a))/\az wr b (zl [1])/\az wr e (zl q)/\az wr v4 (zl (eB k.S k.P k.n q))/\(∀A n c g,v4= .slice A n c->A=gk g->g.block≠k.wb)/\ak k.S q/\dm q/\1<=q.length/\q.length<=k.par+1/\jZ d (co d (bO k.S k.P k.par k.first a)) k.par (co d q) L/\2* (q.length-1)<=k.par/\(eB k.S k.P k.n q).length=q.length-1
 |5=>∃v1 b e v4 q L,DS k wr v1 b e v4 (ka k.S k.P a (eB k.S k.P k.n q) (js k.S k.P k.first k.n (dt k.S k.P (bO k.S k.P k.par k.first a) q k.par k.par 0) (nf k.S k.P k.C q (q.length-1))))/\ak k.S q/\dm q/\jZ d (co d (bO k.S k.P k.par k.first a)) k.par (co d q) L/\2* (q.length-1)<=k.par/\(eB k.S k.P k.n q).length=q.length-1/\∀f,f∈eB k.S k.P k.n q->lu k.S k.P k.first k.n (nf k.S k.P k.C q (q.length-1)) f≠0
 |_=>py k a wr wP
abbrev wY (db f:Nat):xf:= .func (Fn.func f) #[.pointer (gk ⟨db,0,U⟩)] #[]
abbrev zE (db:Nat):List xf:=[wY db 160,wY db 161,wY db 162,wY db 163,wY db 164,wY db 165]
def DK.steps (k:DK) (a:Nat):DK:={k with M:=a+1,X:=λW=>k.X W/\ag W a (zE k.db).toArray 25}
theorem DS.steps {k:DK} {w:wR} {f g i j:xf} {l:List Nat} (h:DS k w f g i j l):DS (k.steps w.heap.size) (w.alloc (.cells (zE k.db).toArray 25)) f g i j l:=by
 have b:=h.below (ax w (.cells (zE k.db).toArray 25));have a:=h.ok;obtain⟨o,p,q,r,s,t⟩:=a.m;have hs:=h.sz;refine⟨⟨a.vf,a.p1,a.p2,a.f2,a.n1,a.n2,a.TH,a.Ty,a.lo,a.e1,a.e2,a.e3,a.e4,a.e5,a.e6,a.e7,?_,?_,?_⟩,b.B,?_,b.cK,b.W,b.hw,b.lt,b.T,b.E,⟨b.X,?_⟩⟩
 ·rintro wr W ⟨d,e⟩ hb n;exact⟨a.xb _ _ d (hb.mono (Nat.le_succ_of_le hs)) n,(hb.block _ (Nat.lt_succ_self _)).trans e⟩
 ·rintro wr c m u hg ⟨d,e⟩;refine⟨a.xs _ _ _ _ hg d,(heap_setCell_other wr ⟨c,m,U⟩ w.heap.size _ ?_).trans e⟩;show w.heap.size≠c;have v:c<k.M:=by rcases hg with hg|hg<;>rw[hg]<;>assumption
  omega
 ·show k.N<=w.heap.size+1/\k.db<w.heap.size+1/\k.wb<w.heap.size+1/\k.eb<w.heap.size+1/\k.be<w.heap.size+1/\k.bl<w.heap.size+1;omega
 ·show w.heap.size+1<=(w.alloc _).heap.size;exact Nat.le_of_eq oS
 ·exact ag.new _ _ _ _ rfl
theorem DS.PK {k:DK} {a:Nat} {w:wR} {b c d e:xf} {f:List Nat} (h:DS (k.steps a) w b c d e f) (g:k.Ok) (i:k.M<=a+1):DS k w b c d e f:=
 ⟨g,h.B,x3 i h.sz,h.cK,h.W,h.hw,h.lt,h.T,h.E,h.X.1⟩
theorem JH (s a n:Nat) (q:List Nat):(eB s a n q).Nodup:=List.nodup_range.filter _
theorem xM {s b n:Nat} {q:List Nat} {a:Nat} (h:a∈eB s b n q):a<n:=List.mem_range.mp (List.mem_filter.mp h).1
theorem PT (k:DK) (c d e f:xf) (a:List Nat) (w:wR) (b:Bool) (h:DS k w c d e f a) (hb:(bO k.S k.P k.par k.first a).all (·==0)=b):
 wS w1 165 #[.pointer (gk ⟨k.db,0,U⟩)] w (au (.bool b) w):=by
 subst hb;exact MN k c d e f a w h
noncomputable abbrev K2 (k:DK) (a q:List Nat):xv (List Nat):=uN k.S k.P k.par k.first a q (dt k.S k.P (bO k.S k.P k.par k.first a) q k.par k.par 0) (nf k.S k.P k.C q (q.length-1))
theorem tU {k:DK} (a:VF k.C k.S k.P) {b q:List Nat} {L:Nat} {c:wR} {d f g i:xf} {o:List Nat} (j:DS k c d f g i o) (l:ak k.S b) (hn:b.length<=k.S-1) (hq:ak k.S q) (m:dm q) (n:jZ a (co a (bO k.S k.P k.par k.first b)) k.par (co a q) L) (e:K2 k b q=U):py k b c R:=
 ⟨U,by rw[<-e];exact Il a l hn hq m n,rfl,_,_,_,_,_,j,λv a=>by cases a⟩
theorem N4 {k:DK} (a:VF k.C k.S k.P) {b q:List Nat} {L:Nat} {d:wR} {f g i j:xf} {c:List Nat} (l:DS k d f g i j c) (m:ak k.S b) (hn:b.length<=k.S-1) (hq:ak k.S q) (n:dm q) (o:jZ a (co a (bO k.S k.P k.par k.first b)) k.par (co a q) L) (e:K2 k b q=gk c):py k b d wP:=
 ⟨gk c,by rw[<-e];exact Il a m hn hq n o,rfl,_,_,_,_,_,l,λv a=>by injection a⟩
theorem QA (k:DK) (c:List Nat) (w:wR) (h:DS k w aS aS aS aS c):
 wS w1 120 #[.pointer (gk ⟨k.db,0,U⟩)] w λe G=>∃b,e= .returned (.bool b)/\py k c G b:=by
 have o:=h.ok.vf;have N:k.n=c.length:=h.hw;have O:w2 (ak k.S c):=h.lt;have P:w2 (c.length<=k.S-1):=by show _<=_;rw[<-N];exact h.ok.n2
 have am:=aa h.ok;have a4:w2 (k.M<=w.heap.size+1):=Nat.le_succ_of_le h.sz;have a5:w2 (JD (k.steps w.heap.size) o c (w.alloc (.cells (zE k.db).toArray 25)) 0):=h.steps;have HC:w2 (∀X Y Z ab c wr,DS (k.steps w.heap.size) wr X Y Z ab c->ag wr w.heap.size (zE k.db).toArray 25):=λ_ _ _ _ _ _ h=>h.X.2;have E:w2 (∀G b,py (k.steps w.heap.size) c G b->py k c G b):=by
  show∀_ _,_;rintro G b ⟨a3,Q,B,X,Y,Z,ab,ap,S,a6⟩;exact⟨a3,Q,B,X,Y,Z,ab,ap,S.PK am.out a4.out,a6⟩
 generalize be:py k c=bt at E⊢;clear be;clear h;go_enter func120,ntmps120;go_wp2;go_loopw [21] (λac wr=>∃A:Nat,ac=I J A/\A<=6/\w2 (JD (k.steps w.heap.size) o c wr A)) (λac _=>6-(intOf ac).toNat)
 case atStart=>exact⟨0,rfl,by omega,a5⟩
 case round=>
  obtain⟨A,rfl,ad,H⟩:=hrel
  match A,ad,H with
  |0,_,H=>
   have d:w2 (DS (k.steps w.heap.size) wr aS aS aS aS c):=H;have hc:=eu (HC.out _ _ _ _ _ _ d.out);go_wp2_with(go_at_call 160;refine(Hf (k.steps w.heap.size) aS aS aS aS c _ d.out ⟨_,_,_,rfl⟩).mono ?_;rintro e C ⟨rfl,f⟩)
   exact⟨⟨1,rfl,by omega,f⟩,by simp[intOf]⟩
  |1,_,⟨v1,a,l⟩=>
   have d:=aa a;have t:=aa l;clear a l;have hc:=ia (HC.out _ _ _ _ _ _ d.out);go_wp2_with(go_at_call 161;refine(Le (k.steps w.heap.size) v1 aS aS aS c _ d.out ⟨_,_,_,rfl⟩).mono ?_;rintro e C ⟨rfl,g,Q,B,S⟩;have f:JD (k.steps w.heap.size) o c C 2:=⟨v1,g,Q,S _ _ t.out,B⟩;clear Q B S)
   exact⟨⟨2,rfl,by omega,f⟩,by simp[intOf]⟩
  |2,_,⟨v1,g,a,l,p⟩=>
   have d:=aa a;have t:=aa l;have F:=aa p;clear a l p;have hc:=kt (HC.out _ _ _ _ _ _ d.out);go_wp2_with(go_at_call 162;refine(JK (k.steps w.heap.size) v1 g aS aS c _ d.out t.out F.out ⟨_,_,_,rfl⟩).mono ?_;rintro e C ⟨b,rfl,r⟩;have f:=aa r;clear r;cases b)
   ·obtain⟨q,L,hb,hq,i,v,x,j,m,a,-,-⟩:=f.out;go_ret;refine⟨R,rfl,E.out _ _ (tU (k:=k.steps w.heap.size) o a O.out P.out hq i j (w6 λy=>?_))⟩;exact absurd y.1 (WD hb.symm)
   ·obtain⟨q,L,hb,hq,i,v,x,j,m,a,z,D⟩:=f.out;exact⟨⟨3,rfl,by omega,⟨v1,g,m,q,L,a,D _ _ t.out,D _ _ F.out,z,hq,i,v,x,j,Ap hb.symm⟩⟩,by simp[intOf]⟩
  |3,_,⟨v1,g,m,q,L,a,l,p,z,hq,i,v,x,j,K⟩=>
   have d:=aa a;have t:=aa l;have F:=aa p;have W:=aa z;have n:=aa hq;have u:=aa i;have s:=aa j;have a7:q.length<=k.par+1:=x;have bf:=am.out.p2;have a8:=o.le;clear a l p z hq i j;have hc:=mP (HC.out _ _ _ _ _ _ d.out);go_wp2_with(go_at_call 163;refine(J2 (k.steps w.heap.size) v1 g m c q _ d.out W.out n.out v oO).mono ?_;rintro e C ⟨b,rfl,r⟩;have f:=aa r;clear r;cases b)
   ·obtain⟨hb,v4,a,-⟩:=f.out;go_ret;refine⟨R,rfl,E.out _ _ (tU (k:=k.steps w.heap.size) o a O.out P.out n.out u.out s.out (w6 λy=>?_))⟩;have:=y.2.1;rw[<-N]at this;exact absurd this (WD hb.symm)
   ·obtain⟨hb,v4,a,T,V,D⟩:=f.out;exact⟨⟨4,rfl,by omega,⟨v1,g,m,v4,q,L,a,D _ _ t.out,D _ _ F.out,D _ _ W.out,T,V,n.out,u.out,v,x,s.out,K,Ap hb.symm⟩⟩,by simp[intOf]⟩
  |4,_,⟨v1,g,m,v4,q,L,a,l,p,z,T,V,hq,i,v,x,j,K,M⟩=>
   have d:=aa a;have t:=aa l;have F:=aa p;have W:=aa z;have bi:=aa T;have n:=aa hq;have u:=aa i;have s:=aa j;have a9:=aa V;have av:=aa M;have a7:q.length<=k.par+1:=x;have bf:=am.out.p2;have a8:=o.le;clear a l p z T V hq i j M;have hc:=nV (HC.out _ _ _ _ _ _ d.out);go_wp2_with(go_at_call 164;refine(GW (k.steps w.heap.size) v1 g m v4 c q (eB k.S k.P k.n q) _ d.out t.out F.out W.out bi.out a9.out n.out v oO (JH _ _ _ _) (λbs bb=>xM bb)).mono ?_;rintro e C ⟨b,rfl,r⟩;have f:=aa r;clear r;cases b)
   ·obtain⟨hb,ap,a,-⟩:=f.out;go_ret;refine⟨R,rfl,E.out _ _ (tU (k:=k.steps w.heap.size) o a O.out P.out n.out u.out s.out (w6 λy=>?_))⟩;have:=y.2.2.1;rw[<-N]at this;exact absurd this (WD hb.symm)
   ·obtain⟨hb,ap,a,bd⟩:=f.out;rw[bd rfl]at a;exact⟨⟨5,rfl,by omega,⟨v1,g,m,v4,q,L,a,n.out,u.out,s.out,K,av.out,Ap hb.symm⟩⟩,by simp[intOf]⟩
  |5,_,⟨v1,g,m,v4,q,L,a,hq,i,j,K,M,a0⟩=>
   have d:=aa a;have n:=aa hq;have u:=aa i;have s:=aa j;have av:=aa M;have bo:=aa a0;clear a hq i j M a0;generalize hb:(bO k.S k.P k.par k.first (ka k.S k.P c (eB k.S k.P k.n q) (js k.S k.P k.first k.n (dt k.S k.P (bO k.S k.P k.par k.first c) q k.par k.par 0) (nf k.S k.P k.C q (q.length-1))))).all (·==0)=b;have al:=aa hb;clear hb;have hc:=Iz (HC.out _ _ _ _ _ _ d.out);go_wp2_with(go_at_call 165;refine(PT (k.steps w.heap.size) v1 g m v4 _ _ b d.out al.out).mono ?_;rintro e C ⟨rfl,a1⟩;have a2:=aa (d.out.below a1);clear a1;cases b)
   ·go_ret;refine⟨R,rfl,E.out _ _ (tU (k:=k.steps w.heap.size) o a2.out O.out P.out n.out u.out s.out (w6 λy=>?_))⟩;have:=Dy.mpr y.2.2.2;rw[<-N]at this;have B:=al.out.symm.trans this;cases B
   ·refine⟨⟨6,rfl,by omega,?_⟩,by simp[intOf]⟩;refine N4 (k:=k.steps w.heap.size) o a2.out O.out P.out n.out u.out s.out ?_;show uN _ _ _ _ _ _ _ _=_;unfold uN;rw[<-N];exact xl ⟨K,av.out,bo.out,Dy.mp al.out⟩
  |6,_,H=>
   have bq:w2 (py (k.steps w.heap.size) c wr wP):=H;go_wp2;go_ret;exact⟨wP,rfl,E.out _ _ bq.out⟩
  |A+7,ad,_=>exact absurd ad oO
end
end Go.Proofs.YtmnlkganmgcpbaaGreatDoor
