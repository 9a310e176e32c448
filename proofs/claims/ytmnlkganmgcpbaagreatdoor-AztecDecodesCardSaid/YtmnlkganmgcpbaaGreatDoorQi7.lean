import Derived.Test.YtmnlkganmgcpbaaGreatDoorQi6
set_option maxRecDepth 100000
set_option maxHeartbeats 4000000
set_option linter.unusedVariables false
set_option linter.unusedSectionVars false
set_option linter.unusedSimpArgs false
set_option linter.defProp false
open Go.Value renaming int->I
open Go.IntKind renaming i64->J
open Bool renaming false->R,true->wP
open Option renaming none->U,some->gk
open Go renaming World->wR,Calls->wS,Value->xf,wpList->y7,execOp->Bq,Operand->HK,undef->UR
open Go.Proofs.Tryz renaming prog->w1,underlying26->HE,underlying179->S1
open Go.RowKit renaming Hid->w2
open Go.RowKit.Below renaming refl->w3,heap_setCell->HP
open Nat renaming le_refl->w5,zero_le->x1,le_trans->x3
open _root_ renaming if_neg->w6,if_pos->xl,Option->xv,ByteArray->x2,Array->z8,absurd->A8
open List renaming getElem?_cons_zero->w7,getElem?_cons_succ->w8,length_append->w9,append_assoc->y6,not_mem_nil->Ay,mem_cons->AQ,mem_singleton->A2,append_nil->A5,mem_append->Dq
open Go.Result renaming andThen_ok->y2
open Option.some renaming injEq->Up
open Go.Proofs.Tryz
namespace Go.Proofs.YtmnlkganmgcpbaaGreatDoor
section
open Go.RowKit Go.WideMaps Go.Maps
theorem SQ.made {X:wR} {d:x2} {c hb n:Nat} {cK:z8 xf} (l:wv X c n) (f:dN X hb 0 (λ_ _=>U)) (hn:n=d.size) (o:d.size<=4096)
 (p:cK[0]?=gk (.string d)) (q:∀b v,fk[b]?=gk v->cK[1+b]?=gk v) (r:cK[481]?=gk (.slice (gk ⟨c,0,U⟩) (n+1) (n+1))) (s:cK[482]?=gk (.map (gk hb))):
 SQ (X.alloc (.cells cK 175)) X.heap.size c (n+1) hb d (λ_ _=>0)/\dN (X.alloc (.cells cK 175)) hb 0 (λ_ _=>U):=by
 have w:dN (X.alloc (.cells cK 175)) hb 0 (λ_ _=>U):=f.below (ax _ _);obtain⟨x,k,g,t⟩:=l;have y:c<X.heap.size:=ay g;have j:(X.alloc (.cells cK 175)).heap[c]?=gk (.cells x k (0,0)):=(Below.heap_alloc X _ _ y).trans g;have hs:∀b,(X.alloc (.cells cK 175)).cell? ⟨X.heap.size,b,U⟩=cK[b]?:=λb=>World.cell?_alloc_at _ _ _ _ rfl;have z:hb≠c:=by
  intro e;obtain⟨D,_,⟨A,clock,i,_⟩,_⟩:=f;rw[e,g]at i;cases i
 refine⟨⟨⟨by simp,by rw[hs];exact p,λb v u=>by rw[hs];exact q b v u,by rw[hs,<-hn];exact r,by rw[hs];exact s,by simp;omega,λa m B C=>?_,by omega,o,λ_ _=>x1 _⟩,⟨by simp;omega,λb E=>frozen_of_row _ _ _ _ _ j⟩,by omega,by have:=f.lt;omega,z⟩,w⟩;rw[cell_of_row _ _ _ _ _ _ j];exact t _ oO
theorem nL {e:z8 Oper} {S:wR->Prop} {K:Act->wR->Prop} {f:List (Bool×Nat×Oper)} {k:Nat} {d:Oper} {a:Act} {W:wR} {g c:HK} (o:Region.wanted d (yielded e a.tmps)=wP) (m:d.op= .makeSlice 172 g c) (n:Nat) (hn:n<=4096) (hl:a.eval g=I J ((n+1:Nat):Int)) (hc:a.eval c=I J ((n+1:Nat):Int))
 (i:∀b,wv b W.heap.size n->af W b->S b/\bI w1 e S K f (a.put d.dst (.slice (gk ⟨W.heap.size,0,U⟩) (n+1) (n+1))) b):bI w1 e S K ((wP,k,d)::f) a W:=by
 obtain⟨b,p,j,l⟩:=I8 (a:=a) m n hn hl hc;exact fl o p (i b j l).1 (i b j l).2
theorem nF {d:z8 Oper} {S:wR->Prop} {K:Act->wR->Prop} {e:List (Bool×Nat×Oper)} {k:Nat} {b:Oper} {a:Act} {W:wR} (j:Region.wanted b (yielded d a.tmps)=wP) (i:b.op= .makeMap 173 U)
 (f:∀c,dN c W.heap.size 0 (λ_ _=>U)->af W c->S c/\bI w1 d S K e (a.put b.dst (.map (gk W.heap.size))) c):bI w1 d S K ((wP,k,b)::e) a W:=by
 obtain⟨l,g⟩:=JC (a:=a) (W:=W) i;exact fl j l (f _ g (ax _ _)).1 (f _ g (ax _ _)).2
theorem J7 {b:x2} {d:List UInt8} (f:b=⟨d.toArray⟩) {a:Act} {e:Oper} {W:wR} {x:HK} (g:e.op= .convert 22 9 x) {A:xv Addr} {n c:Nat} (i:a.eval x= .slice A n c) (h:SR vU 0 W A n c d):
 (Bq a.eval e).run w1 W= .ok (.value (.string b)) W:=by
 subst f;exact tC g i h
def RO (w:wR) (e:x2) (A:xv Addr) (n c:Nat) (a f:Act) (W:wR):Prop:=∃(b d hb:Nat) (cK:z8 xf),
 f=⟨#[.slice A n c,UR,.pointer U,I J (n:Int),.pointer (gk ⟨b,0,U⟩),UR,.slice A n c,I J (n:Int),.slice A n c,.string e,.agg fk,I J (n:Int),I J ((n+1:Nat):Int),.slice (gk ⟨d,0,U⟩) (n+1) (n+1),.map (gk hb),.agg cK,.pointer (gk ⟨b,0,U⟩),UR,UR,UR,UR,UR,UR,UR,UR,UR,UR],[]⟩/\
 SQ W b d (n+1) hb e (λ_ _=>0)/\dN W hb 0 (λ_ _=>U)/\af w W/\w.heap.size<=b/\w.heap.size<=d/\w.heap.size<=hb
theorem Dc (A:xv Addr) (n c:Nat) (v:List UInt8) (w:wR) (hb:SR vU 0 w A n c v) (hn:n<=4096):
 wS w1 80 #[.slice A n c] w λe Z=>∃t y cap hb d s,e= .returned (.pointer (gk ⟨t,0,U⟩))/\SQ Z t y cap hb ⟨v.toArray⟩ d/\dN Z hb (5* n) s/\
  (∀a,a<n->nn d ⟨v.toArray⟩ a/\∀m,s a m=eg d ⟨v.toArray⟩ a m)/\(∀a m,n<=a->d a m=0)/\af w Z:=by
 obtain⟨b,N⟩:∃b:x2,b=⟨v.toArray⟩:=⟨_,rfl⟩;have a9:n=b.size:=by rw[hb.hn,N];show v.length=v.toArray.size;simp
 have a1:b.size<=4096:=oO;rw[<-N];have dd:=aa N;have cx:=aa hb;have ex:J.wrap ((n:Int)+1)=((n+1:Nat):Int):=by rw[aG _ oO oO];omega
 have l:=aa a9;have o:=aa a1;clear hb N a9 a1;go_enter func80,ntmps80;go_wp2;have u:w2 (af w w.drew):=ai (w3 _ _);refine j8 (S:=af w) (.br [(R,0),(R,1),(R,3),(R,4)] [2,5,6] (λk=>if k=2 then .br [] [5,6] (λk=>if k=5 then .last [(wP,6),(R,7),(wP,8),(R,9)]else .last [(wP,5),(R,7),(wP,8),(R,9)])else if k=5 then .br [] [2,6] (λk=>if k=2 then .last [(wP,6),(R,7),(wP,8),(R,9)]else .last [(wP,2),(R,7),(wP,8),(R,9)])else .br [] [2,5] (λk=>if k=2 then .last [(wP,5),(R,7),(wP,8),(R,9)]else .last [(wP,2),(R,7),(wP,8),(R,9)]))) (RO w b A n c) oK oK u.out ?_ ?_
 ·simp only[aT,aH,w7,w8];refine zU ?_;refine' zV rfl (λW q=>J7 dd.out rfl rfl (cx.out.below q)) ?_;refine zU ?_;refine zU ?_;refine aj ?_;intro k p;simp only[AQ,Ay,or_false]at p;rcases p with rfl|rfl|rfl
  ·simp only[reduceIte,Nat.reduceEqDiff,aT,aH,w7,w8];refine zZ ?_;refine(nj _).mono ?_;rintro e a2 ⟨rfl,de⟩;have G:=aa (ae u.out de);refine⟨_,rfl,G.out,jO ?_⟩;refine aj ?_
   (try simp only[reduceIte,Nat.reduceEqDiff,aT,aH,w7,w8])
   refine aj ?_;intro k p;simp only[AQ,Ay,or_false]at p;rcases p with rfl|rfl
   ·simp only[reduceIte,aT,aH,w7,w8];refine' nL rfl rfl n hn rfl rfl ?_;intro cy di dl;have ad:=aa (ae G.out dl);have dn:=aa di;refine⟨ad.out,?_⟩;simp only[yQ,yU,yX,yY];refine aj ?_
    (try simp only[reduceIte,Nat.reduceEqDiff,aT,aH,w7,w8])
    refine' nF rfl rfl ?_;intro c2 ds bb;have O:=aa (ae ad.out bb);have bd:=aa (dn.out.below bb);have be:=aa ds;refine⟨O.out,?_⟩;simp only[yQ,yU,yX,yY];obtain⟨cK,r,H,f,g,i,j⟩:=kk b (.slice (gk ⟨_,0,U⟩) (n+1) (n+1)) (.map (gk _)) rfl rfl;refine' zV rfl (λW q=>kR rfl rfl rfl rfl rfl cK r) ?_;refine' zQ rfl (mN rfl rfl) (ah O.out _) ?_;refine zU ?_;refine aj ?_;exact⟨c2.heap.size,a2.heap.size,cy.heap.size,cK,rfl,(SQ.made bd.out be.out l.out o.out f g i j).1,(SQ.made bd.out be.out l.out o.out f g i j).2,ah O.out _,O.out.size,G.out.size,ad.out.size⟩
   ·simp only[reduceIte,Nat.reduceEqDiff,aT,aH,w7,w8];refine' nF rfl rfl ?_;intro c3 dv dx;have al:=aa (ae G.out dx);have dy:=aa dv;refine⟨al.out,?_⟩;simp only[yQ,yU,yX,yY];refine aj ?_
    (try simp only[reduceIte,Nat.reduceEqDiff,aT,aH,w7,w8])
    refine' nL rfl rfl n hn rfl rfl ?_;intro c4 dz bf;have P:=aa (ae al.out bf);have bi:=aa (dy.out.below bf);have bo:=aa dz;refine⟨P.out,?_⟩;simp only[yQ,yU,yX,yY];obtain⟨cK,r,H,f,g,i,j⟩:=kk b (.slice (gk ⟨_,0,U⟩) (n+1) (n+1)) (.map (gk _)) rfl rfl;refine' zV rfl (λW q=>kR rfl rfl rfl rfl rfl cK r) ?_;refine' zQ rfl (mN rfl rfl) (ah P.out _) ?_;refine zU ?_;refine aj ?_;exact⟨c4.heap.size,c3.heap.size,a2.heap.size,cK,rfl,(SQ.made bo.out bi.out l.out o.out f g i j).1,(SQ.made bo.out bi.out l.out o.out f g i j).2,ah P.out _,P.out.size,al.out.size,G.out.size⟩
  ·simp only[reduceIte,Nat.reduceEqDiff,aT,aH,w7,w8];refine' nL rfl rfl n hn rfl rfl ?_;intro c5 dE Q;have D:=aa (ae u.out Q);have bq:=aa dE;refine⟨D.out,?_⟩;simp only[yQ,yU,yX,yY];refine aj ?_
   (try simp only[reduceIte,Nat.reduceEqDiff,aT,aH,w7,w8])
   refine aj ?_;intro k p;simp only[AQ,Ay,or_false]at p;rcases p with rfl|rfl
   ·simp only[reduceIte,aT,aH,w7,w8];refine zZ ?_;refine(nj _).mono ?_;rintro e c6 ⟨rfl,bs⟩;have am:=aa (ae D.out bs);have d0:=aa (bq.out.below bs);refine⟨_,rfl,am.out,jO ?_⟩;refine aj ?_
    (try simp only[reduceIte,Nat.reduceEqDiff,aT,aH,w7,w8])
    refine' nF rfl rfl ?_;intro c7 d1 bt;have S:=aa (ae am.out bt);have bv:=aa (d0.out.below bt);have bx:=aa d1;refine⟨S.out,?_⟩;simp only[yQ,yU,yX,yY];obtain⟨cK,r,H,f,g,i,j⟩:=kk b (.slice (gk ⟨_,0,U⟩) (n+1) (n+1)) (.map (gk _)) rfl rfl;refine' zV rfl (λW q=>kR rfl rfl rfl rfl rfl cK r) ?_;refine' zQ rfl (mN rfl rfl) (ah S.out _) ?_;refine zU ?_;refine aj ?_;exact⟨c7.heap.size,w.drew.heap.size,c6.heap.size,cK,rfl,(SQ.made bv.out bx.out l.out o.out f g i j).1,(SQ.made bv.out bx.out l.out o.out f g i j).2,ah S.out _,S.out.size,u.out.size,am.out.size⟩
   ·simp only[reduceIte,Nat.reduceEqDiff,aT,aH,w7,w8];refine' nF rfl rfl ?_;intro et d2 bz;have b1:=aa (ae D.out bz);have d3:=aa (bq.out.below bz);have d4:=aa d2;refine⟨b1.out,?_⟩;simp only[yQ,yU,yX,yY];refine aj ?_
    (try simp only[reduceIte,Nat.reduceEqDiff,aT,aH,w7,w8])
    refine zZ ?_;refine(nj _).mono ?_;rintro e d5 ⟨rfl,ap⟩;have T:=aa (ae b1.out ap);have b9:=aa (d3.out.below ap);have ca:=aa (d4.out.below ap);refine⟨_,rfl,T.out,jO ?_⟩;obtain⟨cK,r,H,f,g,i,j⟩:=kk b (.slice (gk ⟨_,0,U⟩) (n+1) (n+1)) (.map (gk _)) rfl rfl;refine' zV rfl (λW q=>kR rfl rfl rfl rfl rfl cK r) ?_;refine' zQ rfl (mN rfl rfl) (ah T.out _) ?_;refine zU ?_;refine aj ?_;exact⟨d5.heap.size,w.drew.heap.size,c5.heap.size,cK,rfl,(SQ.made b9.out ca.out l.out o.out f g i j).1,(SQ.made b9.out ca.out l.out o.out f g i j).2,ah T.out _,T.out.size,u.out.size,D.out.size⟩
  ·simp only[reduceIte,Nat.reduceEqDiff,aT,aH,w7,w8];refine' nF rfl rfl ?_;intro d6 ek el;have V:=aa (ae u.out el);have cb:=aa ek;refine⟨V.out,?_⟩;simp only[yQ,yU,yX,yY];refine aj ?_
   (try simp only[reduceIte,Nat.reduceEqDiff,aT,aH,w7,w8])
   refine aj ?_;intro k p;simp only[AQ,Ay,or_false]at p;rcases p with rfl|rfl
   ·simp only[reduceIte,aT,aH,w7,w8];refine zZ ?_;refine(nj _).mono ?_;rintro e d7 ⟨rfl,ce⟩;have av:=aa (ae V.out ce);have em:=aa (cb.out.below ce);refine⟨_,rfl,av.out,jO ?_⟩;refine aj ?_
    (try simp only[reduceIte,Nat.reduceEqDiff,aT,aH,w7,w8])
    refine' nL rfl rfl n hn rfl rfl ?_;intro d8 en ch;have X:=aa (ae av.out ch);have ci:=aa (em.out.below ch);have ck:=aa en;refine⟨X.out,?_⟩;simp only[yQ,yU,yX,yY];obtain⟨cK,r,H,f,g,i,j⟩:=kk b (.slice (gk ⟨_,0,U⟩) (n+1) (n+1)) (.map (gk _)) rfl rfl;refine' zV rfl (λW q=>kR rfl rfl rfl rfl rfl cK r) ?_;refine' zQ rfl (mN rfl rfl) (ah X.out _) ?_;refine zU ?_;refine aj ?_;exact⟨d8.heap.size,d7.heap.size,w.drew.heap.size,cK,rfl,(SQ.made ck.out ci.out l.out o.out f g i j).1,(SQ.made ck.out ci.out l.out o.out f g i j).2,ah X.out _,X.out.size,av.out.size,u.out.size⟩
   ·simp only[reduceIte,Nat.reduceEqDiff,aT,aH,w7,w8];refine' nL rfl rfl n hn rfl rfl ?_;intro ey eq co;have cp:=aa (ae V.out co);have er:=aa (cb.out.below co);have es:=aa eq;refine⟨cp.out,?_⟩;simp only[yQ,yU,yX,yY];refine aj ?_
    (try simp only[reduceIte,Nat.reduceEqDiff,aT,aH,w7,w8])
    refine zZ ?_;refine(nj _).mono ?_;rintro e d9 ⟨rfl,a0⟩;have Y:=aa (ae cp.out a0);have cq:=aa (es.out.below a0);have cr:=aa (er.out.below a0);refine⟨_,rfl,Y.out,jO ?_⟩;obtain⟨cK,r,H,f,g,i,j⟩:=kk b (.slice (gk ⟨_,0,U⟩) (n+1) (n+1)) (.map (gk _)) rfl rfl;refine' zV rfl (λW q=>kR rfl rfl rfl rfl rfl cK r) ?_;refine' zQ rfl (mN rfl rfl) (ah Y.out _) ?_;refine zU ?_;refine aj ?_;exact⟨d9.heap.size,d6.heap.size,w.drew.heap.size,cK,rfl,(SQ.made cq.out cr.out l.out o.out f g i j).1,(SQ.made cq.out cr.out l.out o.out f g i j).2,ah Y.out _,Y.out.size,V.out.size,u.out.size⟩
 ·rintro z W ⟨t,y,hb,cK,rfl,B,C,b2,K,F,a3⟩;have a4:=aa B;have a5:=aa C;have cs:=aa b2;have ea:w2 (w.heap.size<=t/\w.heap.size<=y/\w.heap.size<=hb):=⟨K,F,a3⟩;clear B C b2 K F a3;generalize((n+1:Nat):Int)=ez;go_wp2
  go_loopw [5] (λab wr=>∃(k:Nat) (E:Int) (d:Nat->Nat->Nat) (s:Nat->Nat->xv aF),k<=n/\ab=I J E/\w2 (E=(n:Int)-1-k)/\w2 (SQ wr t y (n+1) hb b d)/\w2 (dN wr hb (5* k) s)/\w2 (af w wr)/\
   w2 (∀a,n<=a+k->a<n->nn d b a/\∀m,s a m=eg d b a m)/\w2 (∀a m,n<=a->d a m=0)) (λab _=>(intOf ab+1).toNat)
  case atStart=>exact⟨0,_,_,_,x1 _,rfl,by show _=_;omega,a4.out,a5.out,cs.out,λa K F=>by omega,λ_ _ _=>rfl⟩
  case round=>
   clear a4 a5 cs;obtain⟨k,E,d,s,p,rfl,a6,B,C,q,hF,ac⟩:=hrel;by_cases eA:k<n
   ·obtain⟨x,b3⟩:∃x,x=n-1-k:=⟨_,rfl⟩;obtain rfl:E=(x:Int):=by have:=a6.out;omega
    have L:=aa b3;have e0:x<=4096:=oO;have ec:x<b.size:=by have:=l.out;omega
    clear b3;go_wp2_with(go_at_call 130;refine(Kr x wr w.heap.size t y (n+1) hb (5* k) b d s B.out C.out ec ea.out oO).mono ?_;rintro e ew ⟨rfl,a7,b4,b5,b6,Q⟩;have ed:=aa b4;have b7:=aa b5;have ef:=aa b6;have D:=aa Q;clear b4 b5 b6 Q)
    have cv:=b7.out.1;refine⟨⟨k+1,_,a7,_,by omega,rfl,by have:=L.out;show _=_;omega,ed.out,ef.out,q.out.trans D.out,?_,?_⟩,by simp[intOf]⟩
    ·show∀a,_;intro a K F;by_cases e:a=x
     ·subst e;exact⟨b7.out.fix,λm=>xl rfl⟩
     ·obtain⟨c8,c9⟩:=hF.out a (by have:=L.out;omega) F;have hc:∀z m,a<=z->a7 z m=d z m:=λz m M=>cv z m (by have:=L.out;omega);exact⟨c8.congr hc,λm=>by rw[w6 e,c9 m,eg.congr hc]⟩
    ·show∀a m,_;intro a m M;rw[cv a m (by have:=L.out;omega)];exact ac.out a m M
   ·have eh:k=n:=oO;have e9:decide ((0:Int)<=E)=R:=by have:=a6.out;simp;omega
    have da:w2 (SQ wr t y (n+1) hb b d/\dN wr hb (5* n) s/\(∀a,a<n->nn d b a/\∀m,s a m=eg d b a m)/\(∀a m,n<=a->d a m=0)/\af w wr):=by
     have a8:=C.out;rw[eh]at a8;exact⟨B.out,a8,λa M=>hF.out a oO M,ac.out,q.out⟩
    clear B C q hF ac;go_wp2;go_ret;exact⟨t,y,n+1,hb,d,s,rfl,da.out⟩
def gK:Obj->Bool
 |.cells _ a _=>!(a==4)&&!(a==26)
 |_=>wP
def jo (w b:wR):Prop:=∀(k:Nat) (a:Obj),w.heap[k]?=gk a->gK a=wP->b.heap[k]?=gk a
theorem jo.refl (w:wR):jo w w:=λ_ _ h _=>h
theorem jo.trans {a b c:wR} (h:jo a b) (f:jo b c):jo a c:=λk d g e=>f k d (h k d g e) e
theorem jo.below {w W:wR} (h:af w W):jo w W:=λk b a _=>(h.block k (ay a)).trans a
theorem ag.fP {w d:wR} {a:Nat} {c:z8 xf} {b:TypeId} (h:ag w a c b) (e:jo w d) (f:gK (.cells c b (0,0))=wP):ag d a c b:=e a _ h f
theorem ag.eN {w:wR} {a i:Nat} {c:z8 xf} {b:TypeId} (h:ag w a c b) (u:xf):ag (w.setCell ⟨a,i,U⟩ u) a (c.setIfInBounds i u) b:=heap_setCell_same w a i c b u h
structure BO (n:Nat) (w wr:wR) (b:Nat) (a:List Bool):Prop where
 B:Below n w wr
 X:∃A c,ag wr b #[.slice A a.length c] 26/\wr.ownsRow n 4 1 (.slice A a.length c) a.length (a.map vB)
 n1:n<=b
 n2:n<=wr.heap.size
theorem BO.below {n:Nat} {w wr W:wR} {b:Nat} {d:List Bool} (h:BO n w wr b d) (a:af wr W):BO n w W b d:=by
 obtain⟨A,c,e,f⟩:=h.X;exact⟨h.B.trans (a.mono h.n2),⟨A,c,e.below a,aq f a⟩,h.n1,x3 h.n2 a.size⟩
theorem KX {n:Nat} {w:wR} {a q:Nat} {u:xf} {v:xf} {k:Nat} {c:List xf} (b:ag w a #[u] 26) (d:w.ownsRow n 4 1 v k c) (hq:v.ownBlock=gk q):q≠a:=by
 rcases d.2 with⟨rfl,_⟩|⟨f,cap,g,rfl,_,hg,_⟩
 ·cases hq
 ·simp only[Value.ownBlock,Up]at hq;subst hq;intro e;subst e;unfold ag at b;rw[b]at hg;injection hg with hg;injection hg with _ e _;exact A8 e oD
theorem jo.grown {n:Nat} {w W:wR} {v:xf} {k:Nat} {b:List xf} (h:w.ownsRow n 4 1 v k b) (hg:w.grownBy W v.ownBlock):jo w W:=by
 intro q d a hn;refine(hg.block q (ay a) ?_).trans a;intro e;rcases h.2 with⟨rfl,_⟩|⟨f,cap,g,rfl,_,c,_⟩
 ·cases e
 ·simp only[Value.ownBlock,Up]at e;subst e;rw[c]at a;injection a with a;subst a;exact A8 hn (by simp[gK])
theorem jo.eN {w:wR} {b i:Nat} {c:z8 xf} (h:ag w b c 26) (u:xf):jo w (w.setCell ⟨b,i,U⟩ u):=by
 intro q d a hn;refine(HP _ _ _ _ ?_).trans a;intro e;subst e;unfold ag at h;rw[h]at a;injection a with a;subst a;exact A8 hn (by simp[gK])
theorem IZ (n:Nat) (w0 w:wR) (b:Nat) (a:List Bool) (v k:Nat) (h:BO n w0 w b a) (L:v<=1000000000000) (M:k<=62) (hl:a.length<=4000000000):
 wS w1 131 #[I J (v:Int),I J (k:Int),.pointer (gk ⟨b,0,U⟩)] w λe y=>e= .returned (.tuple #[])/\BO n w0 y b (a++bH v k)/\jo w y:=by
 obtain⟨N,O,Z,ab,ac⟩:=info_parts fF;obtain⟨A,c,z,B⟩:=h.X;have P:=aa z;have Q:=aa B;have S:=aa h.B;have d:w2 (n<=b/\n<=w.heap.size):=⟨h.n1,h.n2⟩;have D:=aa (cn v k);clear h z B;go_enter func131,ntmps131
 go_wp2_with(first
  |(go_at_call 59;refine(GQ v k _ L M).mono ?_;rintro e T ⟨v4,rfl,E,m⟩;obtain⟨V,n4,W,rfl,F⟩:=E.parts;have f:=aa m;have g:=aa F;have o:=aa (P.out.below m);have p:=aa (aq Q.out m);have ap:=eu o.out;clear E m F)
  |(at_builtin;refine aY (f:=vB) (d:=R) tu rfl _ _ _ rfl n 4 N _ 1 HE O Z ab ac rfl _ a.length a rfl p.out V n4 W (bH v k) rfl g.out.hn g.out.rd (by have:=g.out.hn;have:=D.out;unfold maxLen;omega) (by have:=g.out.hn;have:=D.out;omega) (x3 d.out.2 f.out.size) ?_;intro av j x hg;obtain⟨r,s,rfl⟩:=cA x;have u:=aa hg;have G:=aa x;have i:w2 (ag j b #[.slice A a.length c] 26):=(hg.block b (ay o.out) (λe=>KX o.out p.out e.symm rfl)).trans o.out;have a0:=eu i.out;have a1:=bN 0 i.out;clear x hg))
 refine bodyPost_end (results_none rfl _ _ _) rfl ?_;have H:=g.out.hn;refine⟨rfl,⟨?_,⟨r,s,?_,?_⟩,d.out.1,?_⟩,?_⟩
 ·have ad:Below n w0 T:=S.out.trans (f.out.mono d.out.2);have al:Below n w0 j:=ad.grown u.out (x3 d.out.2 f.out.size) (λq hq=>(p.out.lt q hq).1);exact al.setCell (by exact d.out.1) _
 ·have l:=i.out.eN (i:=0) (.slice r (a.length+n4) s);rw[w9,<-H];exact l
 ·have l:=G.out;rw[w9,<-H];refine⟨l.1,?_⟩;rcases l.2 with t|⟨K,cap,am,C,t,X,Y⟩
  ·exact .inl t
  ·refine .inr ⟨K,cap,am,C,t,(HP _ _ _ _ ?_).trans X,Y⟩;exact KX i.out G.out (by rw[C];rfl)
 ·have e1:(j.setCell ⟨b,0,U⟩ (.slice r (a.length+n4) s)).heap.size=j.heap.size:=by simp
  rw[e1];exact x3 (x3 d.out.2 f.out.size) u.out.size
 ·exact(jo.below f.out).trans ((jo.grown p.out u.out).trans (jo.eN i.out _))
def qJ (b:x2) (a:Nat):Nat->List Bool
 |0=>[]
 |k+1=>qJ b a k++bH (b.data.toList.getD (a+k) 0).toNat 8
def Bp (c:x2) (a:Nat) (b:aF):List Bool:=if 0<b.run then(if b.long=wP then bH 0 5++bH (b.run-31) 11 else bH b.run 5)++qJ c a b.run else[]
def dJ (c:x2) (a m:Nat) (b:aF):List Bool:=bH b.num (ar m)++(if 0<=b.sec then bH b.sec.toNat 5 else[])++Bp c a b
def jz (b:x2) (d:Nat->Nat->xv aF):Nat->Nat->Nat->List Bool
 |0,_,_=>[]
 |f+1,a,m=>if a<b.size then(match d a m with|some c=>dJ b a m c++jz b d f c.at_ c.mode|none=>[])else[]
structure S7 (c:x2) (C:Nat->Nat->Nat) (a m:Nat) (b:aF):Prop where
 le:b.at_<=c.size
 md:b.mode<5
 eq:C a m=b.cu C
 ps:0<b.size
 nm:b.num<32
 s1:-1<=b.sec
 s2:b.sec<32
 rn:a+b.run<=c.size
 lg:0<b.run->b.long=wP->31<=b.run
 sr:0<=b.sec->b.run=0
 ln:(dJ c a m b).length<=b.size
theorem sF (n:Nat) (w0 w:wR) (a:Nat) (b:List Bool) (v k:Nat) (V K:Int) (d:V=(v:Int)) (f:K=(k:Int)) (h:BO n w0 w a b) (g:v<=1000000000000) (i:k<=62) (hl:b.length<=4000000000):
 wS w1 131 #[I J V,I J K,.pointer (gk ⟨a,0,U⟩)] w λe c=>e= .returned (.tuple #[])/\BO n w0 c a (b++bH v k)/\jo w c:=by
 subst d f;exact IZ n w0 w a b v k h g i hl
theorem Gf {a:Act} {d:Oper} {W:wR} {x f:HK} (i:d.op= .index 9 x f) {b:x2} (j:a.eval x= .string b) {kl:Int} (l:a.eval f=I J kl) (k:Nat) (m:kl=(k:Int)) (g:k<b.size):
 (Bq a.eval d).run w1 W= .ok (.value (.int .u8 ((b.data.toList.getD k 0).toNat:Int))) W:=by
 subst m;have c:=run_index_string (P:=w1) W 9 b .i64 (k:Int) underlying9;rw[dif_pos oO]at c
 have e:b[(k:Int).toNat]'(by simpa using g)=b.data.toList.getD k 0:=by
  have hl:k<b.data.toList.length:=by simpa using g
  rw[List.getD,List.getElem?_eq_getElem hl];rfl
 rw[e]at c;unfold Bq;simp only[i,j,l,c,Sem.run_bind,Sem.run_pure,y2]
theorem Bg (b:x2) (a:Nat):∀k,(qJ b a k).length=8* k
 |0=>rfl
 |k+1=>by unfold qJ;rw[w9,Bg b a k,cn];omega
theorem En {a:Act} {c:Oper} {W:wR} {hb l:Nat} {d:Nat->Nat->xv aF} (h:dN W hb l d) {m x:HK} (e:c.op= .lookup 173 m x R) (f:a.eval m= .map (gk hb)) (at_ b:Nat) (g:a.eval x= .agg #[I J (at_:Int),I J (b:Int)])
 (i:at_<=4096) (j:b<5) (y:aF) (k:d at_ b=gk y):(Bq a.eval c).run w1 W= .ok (.value y.val) W:=by
 have n:=h.lookup at_ b y i j k;unfold Bq;simp only[e,f,g,n,Sem.run_bind,Sem.run_pure,y2]
theorem j4 {e:z8 Oper} {S:wR->Prop} {K:Act->wR->Prop} {f:List (Bool×Nat×Oper)} {k:Nat} {d:Oper} {a:Act} {W:wR} (b:TypeId) (n:Region.wanted d (yielded e a.tmps)=wP) (j:d.op= .alloc b) (c:z8 xf) (g:(prog.info? b).map (·.zero)=gk (gk (.agg c)))
 (l:S (W.alloc (.cells c b))) (m:bI w1 e S K f (a.put d.dst (.pointer (gk ⟨W.heap.size,0,U⟩))) (W.alloc (.cells c b))):bI w1 e S K ((wP,k,d)::f) a W:=by
 cases hq:prog.info? b with
 |none=>simp[hq]at g
 |some i=>
  have o:i.zero=gk (.agg c):=by simpa[hq]using g
  have p:(Instr.alloc b wP (.tuple #[])).run w1 W= .ok (.pointer (gk ⟨W.heap.size,0,U⟩)) (W.alloc (.cells c b)):=by
   simp[Instr.alloc,zeroValue,typeInfo,hq,o,newVar,newRow,Value.cells]
  refine fl n ?_ l m;unfold Bq;simp only[j,Sem.run_bind,Sem.run_pure,y2,p]
theorem xH {i:z8 Oper} {S:wR->Prop} {K:Act->wR->Prop} {j:List (Bool×Nat×Oper)} {k:Nat} {f:Oper} {a:Act} {W:wR} (g:TypeId) (u:Region.wanted f (yielded i a.tmps)=wP) (l x:HK) (n:f.op= .store g l x) (c:TypeId) (d:z8 xf) (b:List xf)
 (o:a.eval l= .pointer (gk ⟨W.heap.size,0,U⟩)) (p:a.eval x= .agg b.toArray) (q:(prog.info? g).map (·.size)=gk b.length) (w:b.length=d.size) (r:∀v∈b,v.oneCell'=wP)
 (s:S (W.alloc (.cells b.toArray c))) (t:bI w1 i S K j (a.put f.dst UR) (W.alloc (.cells b.toArray c))):bI w1 i S K ((wP,k,f)::j) a (W.alloc (.cells d c)):=by
 have m:=ma (P:=w1) (W.alloc (.cells d c)) c g W.heap.size 0 d b (heap_alloc_new _ _) q oO r;have e:(splice d.toList 0 b).toArray=b.toArray:=by
  unfold splice;rw[List.take_zero,List.nil_append,List.drop_eq_nil_of_le (by simp[w]),A5]
 rw[e,World.setRow_alloc_new]at m;refine .inl ⟨u,?_⟩;unfold Bq;simp only[n,o,p,Instr.storeAt,Instr.sureAddr,Sem.run_bind,Sem.run_pure,y2,m];exact⟨s,t⟩
theorem BO.setRow {n:Nat} {w wr:wR} {f b:Nat} {g:List Bool} {p:z8 xf} (h:BO n w wr f g) (hn:n<=b) (a:ag wr b p 179) (k:z8 xf):BO n w (wr.setRow b k) f g:=by
 obtain⟨A,c,d,i⟩:=h.X;refine⟨below_setRow h.B hn _,⟨A,c,d.other _ ?_,i.1,?_⟩,h.n1,by rw[size_setRow];exact h.n2⟩
 ·intro e;subst e;unfold ag at d a;rw[d]at a;injection a with a;injection a with _ e _;exact A8 e oD
 ·rcases i.2 with l|⟨j,cap,q,m,o,k3,k4⟩
  ·exact .inl l
  ·refine .inr ⟨j,cap,q,m,o,(setRow_other _ _ _ _ ?_).trans k3,k4⟩;intro e;subst e;unfold ag at a;rw[k3]at a;injection a with a;injection a with _ e _;exact A8 e oD
theorem vC {W:wR} {b:Nat} {e:aF} (h:an W b e.aN):∀d v,[Value.int .i64 (e.at_:Int),I J (e.mode:Int)][d]?=gk v->W.cell? ((⟨b,5,U⟩:Addr).add d)=gk v:=by
 intro d v a;have c:=uM h;rw[add_plain]
 match d,a with
 |0,a=>simp only[w7,Up]at a;rw[<-a];exact c.2.2.2.2.2.1
 |1,a=>simp only[w8,w7,Up]at a;rw[<-a];exact c.2.2.2.2.2.2
 |d+2,a=>simp at a
def Is (W:wR) (c:Nat) (v:xf):Nat:=match v with
 |.pointer (gk b)=>(match W.cell? ⟨b.block,0,U⟩,W.cell? ⟨b.block,1,U⟩with|some (.int _ a),gk (.int _ m)=>nx W c a.toNat m.toNat|_,_=>0)
 |_=>0
theorem LS {W:wR} {g d cap hb e a m:Nat} {b:x2} {c:Nat->Nat->Nat} (h:SW W g d cap hb b c) (f:ag W e #[I J (a:Int),I J (m:Int)] 179) (i:a<=b.size) (j:m<5):Is W d (.pointer (gk ⟨e,0,U⟩))=c a m:=by
 have k:=eu f;have l:=ia f;unfold Is;simp only[k,l,Int.toNat_natCast];unfold nx;rw[h.cz a m i j];simp
theorem OS (w:wR) (M Z cap hb b4:Nat) (c:x2) (t:Nat->Nat->Nat) (u:Nat->Nat->xv aF) (N:SQ w M Z cap hb c t) (ch:dN w hb b4 u)
 (cv:∀a m,a<c.size->m<5->∃b,u a m=gk b/\S7 c t a m b):
 wS w1 81 #[.pointer (gk ⟨M,0,U⟩)] w λe ci=>∃v,e= .returned v/\SG vB R ci v (jz c u (t 0 0) 0 0)/\af w ci:=by
 obtain⟨dv,dx,d5,d6,d7⟩:=info_parts fF;have et:=N.S.hp;have Y:w2 (∀W,af w W->SQ W M Z cap hb c t/\dN W hb b4 u):=λW l=>⟨N.below l,ch.below l⟩;have d8:=aa cv;have dy:=N.S.cc;have bs:=N.S.cz 0 0 oO oO;have bd:w2 (t 0 0<=1073741824):=N.S.b 0 0;have fx:=N.S.hc;simp only[Nat.zero_mul,Nat.zero_add]at bs;obtain⟨c0,b5⟩:∃c0,c0=t 0 0:=⟨_,rfl⟩;rw[<-b5]at bs bd⊢;have cx:=aa b5;clear N ch cv b5;go_enter func81,ntmps81
 go_wp2_with(first
  |(at_make;refine wpList_make_own _ rfl _ _ _ rfl w.heap.size 4 dv _ 1 HE dx d5 d6 .i64 .i64 _ c0 rfl rfl rfl (by have:=bd.out;rw[d7];omega) (by have:=bd.out;unfold maxLen;omega) (w5 _) ?_;intro B dd hg;have H:=aa dd;have ab:w2 (af w B):=(w3 _ _).grown hg (w5 _) (λq hq=>by cases hq);clear dd hg)
  |((with_reducible show y7 _ _ _ (⟨_,Op.alloc 179,_,_,_,_⟩::_) _ _);refine bj rfl 179 rfl _ mZ ?_)
  |((with_reducible show y7 _ _ _ (⟨_,Op.store 179 _ _,_,_,_,_⟩::_) _ _);refine bG rfl 179 _ _ rfl 179 _ [_,_] rfl rfl fu rfl (jN _ _) ?_))
 simp only[yQ,yU,yX,yY];have de:w2 (BO w.heap.size w ((B.alloc (.cells #[.slice (gk ⟨w.heap.size,0,U⟩) 0 c0] 26)).alloc (.cells #[I J 0,I J 0] 179)) B.heap.size []):=by
  refine BO.below (wr:=B.alloc (.cells #[.slice (gk ⟨w.heap.size,0,U⟩) 0 c0] 26)) ⟨ab.out.alloc ab.out.size _,⟨_,c0,ag.new _ _ _ _ rfl,H.out.alloc _⟩,ab.out.size,?_⟩ (ax _ _);have:=ab.out.size;simp;omega
 have di:w2 (ag ((B.alloc (.cells #[.slice (gk ⟨w.heap.size,0,U⟩) 0 c0] 26)).alloc (.cells #[I J 0,I J 0] 179)) (B.alloc (.cells #[.slice (gk ⟨w.heap.size,0,U⟩) 0 c0] 26)).heap.size #[I J 0,I J 0] 179):=ag.new _ _ _ _ rfl;have dl:w2 (w.heap.size<=(B.alloc (.cells #[.slice (gk ⟨w.heap.size,0,U⟩) 0 c0] 26)).heap.size):=by have:=ab.out.size;show _<=_;simp;omega
 clear H ab dy bs;generalize(B.alloc (.cells #[.slice (gk ⟨w.heap.size,0,U⟩) 0 c0] 26)).alloc (.cells #[I J 0,I J 0] 179)=ew at*;generalize(B.alloc (.cells #[.slice (gk ⟨w.heap.size,0,U⟩) 0 c0] 26)).heap.size=d9 at*;generalize B.heap.size=j at*
 trace_state
 go_loopw [5] (λbt wr=>∃(d a m f:Nat) (g:List Bool),bt= .pointer (gk ⟨d,0,U⟩)/\a<=c.size/\m<5/\w.heap.size<=d/\w2 (ag wr d #[I J (a:Int),I J (m:Int)] 179)/\w2 (BO w.heap.size w wr j g)/\w2 (g++jz c u f a m=jz c u c0 0 0)/\w2 (t a m<=f)/\w2 (g.length+t a m<=c0)) (λbt wr=>Is wr Z bt)
 case atStart=>exact⟨d9,0,0,c0,[],rfl,x1 _,by omega,dl.out,di.out,de.out,rfl,by show _<=_;rw[cx.out];exact w5 _,by show _<=_;rw[cx.out];simp⟩
 case round=>
  clear de di dl;obtain⟨d,a,m,f,g,rfl,dz,bv,b3,hF,p,a6,bx,a7⟩:=hrel;have am:w2 (∀W,af wr W->W.cell? ⟨M,0,U⟩=gk (.string c)/\W.cell? ⟨M,482,U⟩=gk (.map (gk hb))/\W.cell? ⟨d,0,U⟩=gk (I J (a:Int))/\W.cell? ⟨d,1,U⟩=gk (I J (m:Int))):=by
   show∀W,_;intro W l;have s:=(Y.out W (p.out.B.trans (l.mono p.out.n2))).1.S;have ck:=hF.out.below l;exact⟨s.c0,s.cm,ck.cell 0 _ rfl,ck.cell 1 _ rfl⟩
  by_cases b6:a<c.size
  ·obtain⟨b,bz,y⟩:=d8.out a m b6 bv;have be:=aa y;have ea:=aa bz;have cy:w2 (Is wr Z (.pointer (gk ⟨d,0,U⟩))=t a m):=LS (Y.out wr p.out.B).1.S hF.out dz bv
   have cb:w2 (∀(S:Nat) (W:wR),w.heap.size<=S->ag W S #[I J (b.at_:Int),I J (b.mode:Int)] 179->BO w.heap.size w W j (g++dJ c a m b)->
    (∃(d a m f:Nat) (g:List Bool),Value.pointer (gk ⟨S,0,U⟩)= .pointer (gk ⟨d,0,U⟩)/\a<=c.size/\m<5/\w.heap.size<=d/\w2 (ag W d #[I J (a:Int),I J (m:Int)] 179)/\w2 (BO w.heap.size w W j g)/\w2 (g++jz c u f a m=jz c u c0 0 0)/\w2 (t a m<=f)/\w2 (g.length+t a m<=c0))/\Is W Z (.pointer (gk ⟨S,0,U⟩))<Is wr Z (.pointer (gk ⟨d,0,U⟩))):=by
    show∀(S:Nat) (W:wR),_;intro S W dE co cp;have ex:t a m=b.size+t b.at_ b.mode:=y.eq;have e0:=y.ps;have e9:=y.ln;have fb:=bx.out;have fc:=a7.out;obtain⟨ap,rfl⟩:∃ap,f=ap+1:=⟨f-1,by omega⟩;refine⟨⟨S,b.at_,b.mode,ap,g++dJ c a m b,rfl,y.le,y.md,dE,co,cp,?_,?_,?_⟩,?_⟩
    ·have s:=a6.out;have e1:jz c u (ap+1) a m=dJ c a m b++jz c u ap b.at_ b.mode:=by
      show(if a<c.size then _ else _)=_;rw[xl b6,bz]
     rw[e1,<-y6]at s;exact s
    ·show _<=_;omega
    ·show _<=_;rw[w9];omega
    ·rw[cy.out,LS (Y.out W cp.B).1.S co y.le y.md];omega
   have T:w2 (g.length<=1073741824):=by show _<=_;have:=a7.out;have:=bd.out;omega
   have fd:=gU m;have fn:=y.nm;have ec:=y.s1;have ed:=y.s2;have c2:b.run<=4096:=by have:=y.rn;omega
   have ef:=Y.out wr p.out.B;clear a6 bx a7 cy bz y ef;go_wp2;refine yO (af wr) [1,2,3,4,5,6,7,8] (ai (w3 _ _)) ?_
   repeat refine zO am.out ?_
   refine aj ?_;have bf:w2 (ag wr.drew d #[I J (a:Int),I J (m:Int)] 179):=hF.out.below (ai (w3 _ _));have H:w2 (BO w.heap.size w wr.drew j g):=p.out.below (ai (w3 _ _));have ac:w2 (∀W,af wr.drew W->W.cell? ⟨M,482,U⟩=gk (.map (gk hb))):=λW l=>(am.out W (ae (ai (w3 _ _)) l)).2.1;clear hF p am;go_wp2;generalize eh:wr.drew=E at bf H ac⊢;clear eh;have c3:w2 (∀W,af E W->dN W hb b4 u):=λW l=>(Y.out W (H.out.B.trans (l.mono H.out.n2))).2;refine yO (af E) [1,2,3,4,5,6,0,7,8] (ai (w3 _ _)) ?_;refine zO ac.out ?_;refine zO ac.out ?_;refine zO ac.out ?_;refine zO ac.out ?_;refine' zV rfl (λW l=>lE 179 _ S1 rfl rfl d [_,_] fu rfl (bf.out.below l).cells) ?_;refine' zV rfl (λW l=>En (c3.out W l) rfl rfl a m rfl oO bv b ea.out) ?_;refine' j4 181 rfl rfl _ oJ (ah (ai (w3 _ _)) _) ?_;simp only[yQ,yU,yX,yY];refine' xH 181 rfl _ _ rfl 181 _ b.aN rfl rfl iE rfl b.one (ah (ai (w3 _ _)) _) ?_;simp only[Act.put];refine aj ?_;have a4:w2 (ag (E.drew.alloc (.cells b.aN.toArray 181)) d #[I J (a:Int),I J (m:Int)] 179/\ag (E.drew.alloc (.cells b.aN.toArray 181)) E.drew.heap.size b.aN.toArray 181):=⟨bf.out.below (ah (ai (w3 _ _)) _),ag.new _ _ _ _ rfl⟩;have c4:w2 (BO w.heap.size w (E.drew.alloc (.cells b.aN.toArray 181)) j g):=H.out.below (ah (ai (w3 _ _)) _);clear bf H ac c3;generalize E.drew.alloc (.cells b.aN.toArray 181)=a8 at*;generalize E.drew.heap.size=k at*;go_wp2;have ad:w2 (∀W,(ag W d #[I J (a:Int),I J (m:Int)] 179/\ag W k b.aN.toArray 181)->W.cell? ⟨k,0,U⟩=gk (I J (b.num:Int))/\W.cell? ⟨d,1,U⟩=gk (I J (m:Int))):=λW l=>⟨l.2.cell 0 _ rfl,l.1.cell 1 _ rfl⟩;refine yO (λW=>ag W d #[I J (a:Int),I J (m:Int)] 179/\ag W k b.aN.toArray 181) [1,2,3,4,5,0,6,7] a4.out ?_;refine zO ad.out ?_;refine zO ad.out ?_;refine zO ad.out ?_;refine zO ad.out ?_;refine zO ad.out ?_;refine zZ ?_;refine(fY m _).mono ?_;rintro e ey ⟨rfl,c5⟩;rw[c5];clear c5;refine⟨_,rfl,a4.out,jO ?_⟩;refine zZ ?_;have dn:w2 (BO w.heap.size w a8.drew j g):=c4.out.below (ai (w3 _ _));refine(IZ w.heap.size w a8.drew j g b.num (ar m) dn.out oO oO (by have:=T.out;omega)).mono ?_;rintro e z ⟨rfl,o,i⟩;have V:=aa o;have r:w2 (ag z d #[I J (a:Int),I J (m:Int)] 179/\ag z k b.aN.toArray 181):=⟨ag.fP (w:=a8.drew) a4.out.1 i (by simp[gK]),ag.fP (w:=a8.drew) a4.out.2 i (by simp[gK])⟩;clear o i c4 dn a4 ad;refine⟨_,rfl,r.out,jO ?_⟩;refine aj ?_;have al:=aa (cn b.num (ar m));have b1:=ia r.out.2;have O:=kt r.out.2;have a9:=mP r.out.2;by_cases C:0<=b.sec
   ·obtain⟨bb,b7⟩:=Int.eq_ofNat_of_zero_le C;have K:=be.out.sr C;have G:w2 (dJ c a m b=bH b.num (ar m)++bH bb 5):=by
     show _=_;unfold dJ Bp;rw[xl C,K,w6 oO,A5,b7];rfl
    rw[b7]at b1 ed;rw[K]at O;have fz:bb<32:=oO;clear C ec b7 O
    go_wp2_with(first
     |(go_at_call 131;(with_reducible show wS _ _ _ z _);refine(sF w.heap.size w z j (g++bH b.num (ar m)) bb 5 _ _ rfl rfl V.out oO oO (by have:=T.out;have:=al.out;simp only[w9,cn];omega)).mono ?_;rintro e x ⟨rfl,o,i⟩;have a5:=aa o;have D:w2 (ag x d #[I J (a:Int),I J (m:Int)] 179/\ag x k b.aN.toArray 181):=⟨r.out.1.fP i (by simp[gK]),r.out.2.fP i (by simp[gK])⟩;have ds:x.cell? ⟨k,2,U⟩=gk (I J 0):=(by have s:=kt D.out.2;rw[K]at s;exact s);have F:w2 (ag x d #[I J (a:Int),I J (m:Int)] 179):=D.out.1;have av:w2 (an x k b.aN):=D.out.2.cells;clear o i)
     |((with_reducible show y7 _ _ _ (⟨_,Op.load 179 _,_,_,_,_⟩::_) _ _);first|refine aP rfl 179 _ rfl _ S1 rfl ⟨k,5,U⟩ [I J (b.at_:Int),I J (b.mode:Int)] fu rfl (vC av.out) ?_|refine aP rfl 179 _ rfl _ S1 rfl ⟨d,0,U⟩ [I J (b.at_:Int),I J (b.mode:Int)] fu rfl (gE ((F.out.set _).cells)) ?_)
     |((with_reducible show y7 _ _ _ (⟨_,Op.alloc 179,_,_,_,_⟩::_) _ _);refine bj rfl 179 rfl _ mZ ?_)
     |((with_reducible show y7 _ _ _ (⟨_,Op.store 179 _ _,_,_,_,_⟩::_) _ _);first|(refine aZ rfl 179 _ _ rfl 179 d 0 #[I J (a:Int),I J (m:Int)] [I J (b.at_:Int),I J (b.mode:Int)] rfl rfl F.out fu (by show 2<=2;omega) (jN _ _) ?_;rw[jR [I J (a:Int),I J (m:Int)] [I J (b.at_:Int),I J (b.mode:Int)] rfl])|refine bG rfl 179 _ _ rfl 179 _ [_,_] rfl rfl fu rfl (jN _ _) ?_))
    have a2:w2 (BO w.heap.size w ((x.setRow d #[I J (b.at_:Int),I J (b.mode:Int)]).alloc (.cells #[I J (b.at_:Int),I J (b.mode:Int)] 179)) j (g++dJ c a m b)):=by
     have s:=(a5.out.setRow b3 D.out.1 #[I J (b.at_:Int),I J (b.mode:Int)]).below (ax _ (.cells #[I J (b.at_:Int),I J (b.mode:Int)] 179));rw[show g++dJ c a m b=(g++bH b.num (ar m))++bH bb 5 from(by rw[G.out,y6])];exact s
    have a3:w.heap.size<=x.heap.size:=a5.out.n2;exact cb.out _ _ (by simpa using a3) (ag.new _ _ _ _ oS) a2.out
   have fo:decide ((0:Int)<=b.sec)=R:=by simp;omega
   by_cases K:b.run=0
   ·have G:w2 (dJ c a m b=bH b.num (ar m)):=by
     show _=_;unfold dJ Bp;rw[w6 C,K,w6 oO,A5,A5]
    rw[K]at O;clear C;have F:w2 (ag z d #[I J (a:Int),I J (m:Int)] 179):=r.out.1;have av:w2 (an z k b.aN):=r.out.2.cells
    go_wp2_with(first
     |((with_reducible show y7 _ _ _ (⟨_,Op.load 179 _,_,_,_,_⟩::_) _ _);first|refine aP rfl 179 _ rfl _ S1 rfl ⟨k,5,U⟩ [I J (b.at_:Int),I J (b.mode:Int)] fu rfl (vC av.out) ?_|refine aP rfl 179 _ rfl _ S1 rfl ⟨d,0,U⟩ [I J (b.at_:Int),I J (b.mode:Int)] fu rfl (gE ((F.out.set _).cells)) ?_)
     |((with_reducible show y7 _ _ _ (⟨_,Op.alloc 179,_,_,_,_⟩::_) _ _);refine bj rfl 179 rfl _ mZ ?_)
     |((with_reducible show y7 _ _ _ (⟨_,Op.store 179 _ _,_,_,_,_⟩::_) _ _);first|(refine aZ rfl 179 _ _ rfl 179 d 0 #[I J (a:Int),I J (m:Int)] [I J (b.at_:Int),I J (b.mode:Int)] rfl rfl F.out fu (by show 2<=2;omega) (jN _ _) ?_;rw[jR [I J (a:Int),I J (m:Int)] [I J (b.at_:Int),I J (b.mode:Int)] rfl])|refine bG rfl 179 _ _ rfl 179 _ [_,_] rfl rfl fu rfl (jN _ _) ?_))
    have a2:w2 (BO w.heap.size w ((z.setRow d #[I J (b.at_:Int),I J (b.mode:Int)]).alloc (.cells #[I J (b.at_:Int),I J (b.mode:Int)] 179)) j (g++dJ c a m b)):=by
     have s:=(V.out.setRow b3 r.out.1 #[I J (b.at_:Int),I J (b.mode:Int)]).below (ax _ (.cells #[I J (b.at_:Int),I J (b.mode:Int)] 179));rw[show g++dJ c a m b=g++bH b.num (ar m)from(by rw[G.out])];exact s
    have a3:w.heap.size<=z.heap.size:=V.out.n2;exact cb.out _ _ (by simpa using a3) (ag.new _ _ _ _ oS) a2.out
   cases a0:b.long with
   |true=>
    rw[a0]at a9;have eq:=be.out.lg oO a0;have G:w2 (g++dJ c a m b=(((g++bH b.num (ar m))++bH 0 5)++bH (b.run-31) 11)++qJ c a b.run):=by
     show _=_;unfold dJ Bp;rw[w6 C,xl oO,xl a0,A5];simp only[y6]
    have ca:a+b.run<=c.size:=be.out.rn;obtain⟨rn,X⟩:∃rn,rn=b.run:=⟨_,rfl⟩;have bi:=aa X;rw[<-X]at K c2 eq ca G O;clear X;have fG:J.wrap ((rn:Int)-31)=((rn-31:Nat):Int):=by rw[aG _ oO oO];omega
    have ek:0<rn:=oO;clear C;go_wp2_with(go_at_call 131;(with_reducible show wS _ _ _ z _);refine(sF w.heap.size w z j (g++bH b.num (ar m)) 0 5 _ _ rfl rfl V.out oO oO (by have:=T.out;have:=al.out;simp only[w9,cn];omega)).mono ?_;rintro e x ⟨rfl,o,i⟩;have a5:=aa o;have D:w2 (ag x d #[I J (a:Int),I J (m:Int)] 179/\ag x k b.aN.toArray 181):=⟨r.out.1.fP i (by simp[gK]),r.out.2.fP i (by simp[gK])⟩;have ds:x.cell? ⟨k,2,U⟩=gk (I J (rn:Int)):=(by rw[bi.out];exact D.out.2.cell 2 _ rfl);clear o i)
    clear V r b1 O a9;go_wp2_with(go_at_call 131;(with_reducible show wS _ _ _ x _);refine(sF w.heap.size w x j ((g++bH b.num (ar m))++bH 0 5) (rn-31) 11 _ _ rfl rfl a5.out oO oO (by have:=T.out;have:=al.out;simp only[w9,cn];omega)).mono ?_;rintro e P ⟨rfl,o,i⟩;have b9:=aa o;have a1:w2 (ag P d #[I J (a:Int),I J (m:Int)] 179/\ag P k b.aN.toArray 181):=⟨D.out.1.fP i (by simp[gK]),D.out.2.fP i (by simp[gK])⟩;have es:P.cell? ⟨k,2,U⟩=gk (I J (rn:Int)):=(by rw[bi.out];exact a1.out.2.cell 2 _ rfl);clear o i)
    clear a5 D ds;have cs:w2 ((((g++bH b.num (ar m))++bH 0 5)++bH (rn-31) 11).length<=1073742000):=by show _<=_;have:=T.out;have:=al.out;simp only[w9,cn];omega
    generalize((g++bH b.num (ar m))++bH 0 5)++bH (rn-31) 11=L at*;exact TA
   |false=>
    rw[a0]at a9;have G:w2 (g++dJ c a m b=((g++bH b.num (ar m))++bH b.run 5)++qJ c a b.run):=by
     show _=_;unfold dJ Bp;rw[w6 C,xl oO,w6 (by rw[a0];simp),A5];simp only[y6]
    have ca:a+b.run<=c.size:=be.out.rn;obtain⟨rn,X⟩:∃rn,rn=b.run:=⟨_,rfl⟩;have bi:=aa X;rw[<-X]at K c2 ca G O;clear X;have ek:0<rn:=oO;clear C;go_wp2_with(go_at_call 131;(with_reducible show wS _ _ _ z _);refine(sF w.heap.size w z j (g++bH b.num (ar m)) rn 5 _ _ rfl rfl V.out oO oO (by have:=T.out;have:=al.out;simp only[w9,cn];omega)).mono ?_;rintro e P ⟨rfl,o,i⟩;have b9:=aa o;have a1:w2 (ag P d #[I J (a:Int),I J (m:Int)] 179/\ag P k b.aN.toArray 181):=⟨r.out.1.fP i (by simp[gK]),r.out.2.fP i (by simp[gK])⟩;have es:P.cell? ⟨k,2,U⟩=gk (I J (rn:Int)):=(by rw[bi.out];exact a1.out.2.cell 2 _ rfl);clear o i)
    clear V r b1 O a9;have cs:w2 (((g++bH b.num (ar m))++bH rn 5).length<=1073742000):=by show _<=_;have:=T.out;have:=al.out;simp only[w9,cn];omega
    generalize(g++bH b.num (ar m))++bH rn 5=L at*;exact TA
  ·have d0:w2 (g=jz c u c0 0 0):=by
    show _=_;rw[<-a6.out];have e1:jz c u f a m=[]:=by
     cases f with
     |zero=>rfl
     |succ f=>show(if a<c.size then _ else _)=_;rw[w6 b6]
    rw[e1,A5]
   obtain⟨d1,d2,c6,c7⟩:=p.out.X;have el:=aa c6;have em:=aa c7;have en:=aa p.out.B;clear hF p a6 bx a7 c6 c7;go_wp2;refine yO (af wr) [1,2,3,4,5,6,7,8] (ai (w3 _ _)) ?_
   repeat refine zO am.out ?_
   refine aj ?_;have er:w2 (ag wr.drew j #[.slice d1 g.length d2] 26):=el.out.below (ai (w3 _ _));have ez:=eu er.out;clear am;go_wp2;go_ret;refine⟨_,rfl,?_,ai en.out⟩;rw[<-d0.out];exact SG.bL (f:=vB) (d:=R) (aq em.out (ai (w3 _ _)))
structure dK (b:x2) (C:Nat->Nat->Nat):Prop where
 fix:∀a,a<b.size->nn C b a
 zero:∀a m,b.size<=a->C a m=0
 top:∀a m,C a m<=1073741824
theorem nP (m:Nat):4<=ar m:=by unfold ar;split<;>omega
theorem Ca {b:Nat->Nat->Nat} {num at_ m:Nat} {a:aF} {n sz:Nat} {lg:Bool} (hb:a.mode=m):(dO b num at_ m a n sz lg).mode=m:=by unfold dO;split<;>first|rfl|exact hb
theorem tY {a:Nat->Nat->Nat} {num at_ m:Nat}:∀k,(gj a num at_ m k).mode=m
 |0=>rfl
 |k+1=>Ca (tY k)
theorem xK {a:Nat->Nat->Nat} {num at_ m K:Nat}:∀k,(eF a num at_ m K k).mode=m
 |0=>tY K
 |k+1=>Ca (xK k)
theorem xh {c d:Nat->Nat->Nat} {num at_ m:Nat} {b:aF} {n sz:Nat} {lg:Bool} (h:∀a,at_<a->c a m=d a m) (hn:0<n) (e:b.mode=m) (hb:b.run=0\/at_<b.at_):dO c num at_ m b n sz lg=dO d num at_ m b n sz lg:=by
 have e1:aF.cu c ⟨num,-1,n,lg,sz+8* n,at_+n,m⟩=aF.cu d ⟨num,-1,n,lg,sz+8* n,at_+n,m⟩:=by
  unfold aF.cu;rw[h _ (by show at_<at_+n;omega)]
 unfold dO;rcases hb with hb|hb
 ·rw[xl (.inl hb),xl (.inl hb)]
 ·have e2:b.cu c=b.cu d:=by unfold aF.cu;rw[e,h _ hb]
  rw[e1,e2]
theorem uV {b c:Nat->Nat->Nat} {num at_ m:Nat} (h:∀a,at_<a->b a m=c a m):∀k,gj b num at_ m k=gj c num at_ m k
 |0=>rfl
 |k+1=>by
  show dO b _ _ _ _ _ _ _=dO c _ _ _ _ _ _ _;rw[xh h oO (tY k) (pE k),uV h k]
theorem uw {b c:Nat->Nat->Nat} {num at_ m K:Nat} (h:∀a,at_<a->b a m=c a m):∀k,eF b num at_ m K k=eF c num at_ m K k
 |0=>uV h K
 |k+1=>by
  show dO b _ _ _ _ _ _ _=dO c _ _ _ _ _ _ _;rw[xh h oO (xK k) (pV k),uw h k]
theorem rE {C C':Nat->Nat->Nat} {b:x2} {at_ m:Nat} (h:∀a,at_<a->C a m=C' a m):∀k,cd C b at_ m k=cd C' b at_ m k
 |0=>rfl
 |k+1=>by
  unfold cd;rw[rE h k];congr 1;unfold fa ga;rw[uw h]
theorem uY {d:Nat->Nat->Nat} {e:x2} {at_ m:Nat} {c:aF}:∀k,c∈cd d e at_ m k->0<c.size:=by
 have j:=nP m;have f:∀num k,0<(gj d num at_ m k).size:=by
  intro num k
  induction k with
  |zero=>show 0<1073741824;omega
  |succ k b=>
   show 0<(dO _ _ _ _ _ _ _ _).size;unfold dO;split
   ·show 0<ar m+16+8* (31+k);omega
   ·exact b
 have g:∀num K k,0<(eF d num at_ m K k).size:=by
  intro num K k
  induction k with
  |zero=>exact f num K
  |succ k b=>
   show 0<(dO _ _ _ _ _ _ _ _).size;unfold dO;split
   ·show 0<ar m+5+8* (1+k);omega
   ·exact b
 have i:∀n,c∈fa d e at_ m n->0<c.size:=by
  intro n a;unfold fa at a;split at a
  ·split at a
   ·rw[A2]at a;subst a;show 0<ar m;omega
   ·cases a
  split at a
  ·rw[A2]at a;subst a;show 0<ar m;omega
  split at a
  ·have key:∀k,c∈ee e at_ m n (cD m n) k->0<c.size:=by
    intro k
    induction k with
    |zero=>intro h;cases h
    |succ k b=>
     intro h;unfold ee at h;rw[Dq]at h;rcases h with h|h
     ·exact b h
     ·unfold og at h;split at h
      ·rw[A2]at h;subst h;show 0<ar m+ar (cD m n);omega
      ·cases h
   exact key 32 a
  split at a
  ·rw[A2]at a;subst a;exact g _ _ _
  ·cases a
 intro k
 induction k with
 |zero=>intro h;cases h
 |succ k b=>
  intro h;unfold cd at h;rw[Dq]at h;rcases h with h|h
  ·exact b h
  ·exact i _ h
theorem dK.zd {b:x2} {g c:Nat->Nat->Nat} (p:b.size<=4096) (h:dK b g) (q:dK b c) (a:Nat) (l:a<b.size) (n:∀d m,a<d->m<5->g d m=c d m):∀x m,m<5->c a m=x->g a m<=c a m:=by
 intro x
 induction x using Nat.strongRecOn with
 |ind x u=>
  intro m i y;rcases(q.fix a l).2 m i with r|⟨k,f,e⟩
  ·rw[r];exact h.top a m
  ·have s:cd c b a m 32=cd g b a m 32:=rE (λd v=>(n d m v i).symm) 32;have o:=sI l p i 32 f;have z:=uY 32 f;have w:=Bm 32 f;rw[s]at f;have t:=(h.fix a l).1 m i k f;refine x3 t ?_;rw[<-e];unfold aF.cu at e⊢;refine Nat.add_le_add_left ?_ _;rcases Nat.eq_or_lt_of_le w with j|j
   ·rw[<-j];rw[<-j]at e;exact u (c a k.mode) oO k.mode o.2.1 rfl
   ·rw[n _ _ j o.2.1];exact w5 _
theorem dK.uniq {c:x2} {e f:Nat->Nat->Nat} (l:c.size<=4096) (h:dK c e) (g:dK c f) (a m:Nat) (i:m<5):e a m=f a m:=by
 have key:∀k a,c.size<=a+k->∀m,m<5->e a m=f a m:=by
  intro k
  induction k with
  |zero=>intro a d m _;rw[h.zero a m d,g.zero a m d]
  |succ k p=>
   intro a q m i;by_cases d:a<c.size
   ·have o:∀b m,a<b->m<5->e b m=f b m:=λb m n j=>p b oO m j;exact Nat.le_antisymm (h.zd l g a d o _ m i rfl) (g.zd l h a d (λb m n j=>(o b m n j).symm) _ m i rfl)
   ·rw[h.zero a m oO,g.zero a m oO]
 exact key c.size a oO m i
theorem AW {a:Nat->Nat->Nat} {num at_ m:Nat} {b:aF} {n sz:Nat} {lg:Bool} (hb:b.run≠0):(dO a num at_ m b n sz lg).cu a<=b.cu a:=by
 unfold dO;split
 ·rename_i h
  rcases h with h|h
  ·exact A8 h hb
  ·exact Nat.le_of_lt h
 ·exact w5 _
theorem Ff {a:Nat->Nat->Nat} {num at_ m:Nat} {b:aF} {n sz:Nat} {lg:Bool}:(dO a num at_ m b n sz lg).cu a<=aF.cu a ⟨num,-1,n,lg,sz+8* n,at_+n,m⟩:=by
 unfold dO;split
 ·exact w5 _
 ·rename_i h;omega
theorem px {a:Nat->Nat->Nat} {num at_ m:Nat} {b:aF} {n sz:Nat} {lg:Bool} (hn:0<n):(dO a num at_ m b n sz lg).run≠0:=by
 unfold dO;split
 ·show n≠0;omega
 ·rename_i h;exactλe=>h (.inl e)
theorem uF {C:Nat->Nat->Nat} {num at_ m K:Nat}:∀k a,1<=a->a<=k->(eF C num at_ m K k).cu C<=aF.cu C ⟨num,-1,a,R,ar m+5+8* a,at_+a,m⟩
 |0,a,b,c=>by omega
 |k+1,a,b,c=>by
  show(dO _ _ _ _ _ _ _ _).cu C<=_;by_cases e:a=1+k
  ·subst e;exact Ff
  ·have d:=uF (C:=C) (num:=num) (at_:=at_) (m:=m) (K:=K) k a b oO;refine x3 (AW ?_) d;cases k with
   |zero=>omega
   |succ k=>exact px oO
theorem D9 {C:Nat->Nat->Nat} {num at_ m:Nat}:∀k a,31<=a->a<31+k->(gj C num at_ m k).cu C<=aF.cu C ⟨num,-1,a,wP,ar m+16+8* a,at_+a,m⟩
 |0,a,b,c=>by omega
 |k+1,a,b,c=>by
  show(dO _ _ _ _ _ _ _ _).cu C<=_;by_cases e:a=31+k
  ·subst e;exact Ff
  ·have d:=D9 (C:=C) (num:=num) (at_:=at_) (m:=m) k a b oO;refine x3 (AW ?_) d;cases k with
   |zero=>omega
   |succ k=>exact px oO
theorem sY {a:Nat->Nat->Nat} {num at_ m K:Nat} (b:0<K):∀k,(eF a num at_ m K k).cu a<=(gj a num at_ m K).cu a/\(eF a num at_ m K k).run≠0
 |0=>⟨w5 _,by
  obtain⟨c,rfl⟩:∃c,K=c+1:=⟨K-1,by omega⟩
  exact px oO⟩
 |k+1=>⟨x3 (AW (sY b k).2) (sY b k).1,px oO⟩
theorem sW {a:Nat->Nat->Nat} {b:x2} {at_ m n:Nat} {c:aF} (d:c∈fa a b at_ m n):∀k,n<k->c∈cd a b at_ m k
 |0,h=>by omega
 |k+1,h=>by
  unfold cd;rw[Dq];by_cases e:n=k
  ·subst e;exact .inr d
  ·exact .inl (sW d k oO)
theorem dK.bin {c:x2} {b:Nat->Nat->Nat} (h:dK c b) (a m:Nat) (d:a<c.size) (o:m<3):b a m<=18+b (a+1) m:=by
 have e:cF m 31=4:=by
  have k0:cF 0 31=4:=oK;have f:cF 1 31=4:=oK;have g:cF 2 31=4:=oK;have i:m=0\/m=1\/m=2:=oO;rcases i with rfl|rfl|rfl
  ·exact k0
  ·exact f
  ·exact g
 have j:ar m=5:=by unfold ar;rw[w6 oO]
 have k:ga b 31 a m (c.size-a)∈fa b c a m 31:=by
  unfold fa;rw[e,w6 oO,w6 oO,w6 oO,xl rfl];exact List.mem_singleton.2 rfl
 have l:=(h.fix a d).1 m oO _ (sW k 32 oO);refine x3 l ?_;have n:=uF (C:=b) (num:=31) (at_:=a) (m:=m) (K:=min (c.size-a) 2078-30) (min (c.size-a) 31) 1 oO oO;refine x3 n ?_;show ar m+5+8* 1+b (a+1) m<=_;rw[j];omega
theorem dK.lV {p:x2} {b:Nat->Nat->Nat} (h:dK p b) (a m n:Nat) (c:a<p.size) (d:m<5) (hn:n<32) (e:cF m n=2):b a m<=ar m+b a (cD m n):=by
 have f:(⟨n,-1,0,R,ar m,a,cD m n⟩:aF)∈fa b p a m n:=by
  unfold fa;rw[e,w6 oO,xl rfl];exact List.mem_singleton.2 rfl
 exact(h.fix a c).1 m d _ (sW f 32 hn)
theorem dK.up {b:x2} {c:Nat->Nat->Nat} (h:dK b c) (a:Nat):c a 0<=18* (b.size-a):=by
 have key:∀k a,b.size<=a+k->c a 0<=18* (b.size-a):=by
  intro k
  induction k with
  |zero=>intro a d;rw[h.zero a 0 d];exact x1 _
  |succ k e=>
   intro a d;by_cases f:a<b.size
   ·have g:=h.bin a 0 f oO;have i:=e (a+1) oO;omega
   ·rw[h.zero a 0 oO];exact x1 _
 exact key b.size a oO
theorem dK.TO {e:x2} {d:Nat->Nat->Nat} (h:dK e d) (a m:Nat) (n:m<5):d a m<=9+d a 0:=by
 by_cases c:a<e.size
 ·have f:=h.lV a 4 14 c oO oO oK;have e1:cD 4 14=0:=oK;have e2:cD 1 30=4:=oK;have e3:cD 2 29=0:=oK;have e4:cD 3 31=0:=oK;have g:ar 4=4:=rfl;have i:ar 1=5:=rfl;have j:ar 2=5:=rfl;have k:ar 3=5:=rfl;rw[e1,g]at f;have l:m=0\/m=1\/m=2\/m=3\/m=4:=oO;rcases l with rfl|rfl|rfl|rfl|rfl
  ·omega
  ·have b:=h.lV a 1 30 c oO oO oK;rw[e2,i]at b;omega
  ·have b:=h.lV a 2 29 c oO oO oK;rw[e3,j]at b;omega
  ·have b:=h.lV a 3 31 c oO oO oK;rw[e4,k]at b;omega
  ·omega
 ·rw[h.zero a m oO];omega
theorem dK.fin {b:x2} {c:Nat->Nat->Nat} (e:b.size<=4096) (h:dK b c) (a m:Nat) (d:m<5):c a m<1073741824:=by
 have f:=h.TO a m d;have g:=h.up a;omega
end
end Go.Proofs.YtmnlkganmgcpbaaGreatDoor
