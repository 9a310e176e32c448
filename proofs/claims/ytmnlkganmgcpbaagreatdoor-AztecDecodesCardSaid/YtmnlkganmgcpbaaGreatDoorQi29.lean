import Derived.Test.YtmnlkganmgcpbaaGreatDoorQi28
import Derived.Test.YtmnlkganmgcpbaaGreatDoorQi10
set_option maxRecDepth 100000
set_option maxHeartbeats 4000000
set_option linter.unusedVariables false
set_option linter.unusedSectionVars false
set_option linter.unusedSimpArgs false
set_option linter.defProp false
open Go.Value renaming int->I
open Go.IntKind renaming i64->J
open Bool renaming false->R,true->wP
open Option renaming none->U,some->gk,map_some->UM
open Go renaming World->wR,Calls->wS
open Go.Proofs.Tryz renaming prog->w1,ntmps73->VD,ntmps37->VE,func73->V7,func37->V8,ntmps26->Xb
open Go.RowKit renaming Hid->w2
open Go.RowKit.Below renaming refl->w3
open _root_ renaming beq_eq_false_iff_ne->w4,if_neg->w6,Option->xv,decide_eq_true->y1,absurd->A8,decide_eq_false->CF,beq_iff_eq->HX
open Nat renaming zero_le->x1,lt_of_lt_of_le->x6,lt_or_ge->z6,pow_le_pow_right->C3
open List renaming replicate->y0,length_take->Ai,not_mem_nil->Ay,length_map->HO
open Go.Proofs.Tryz
namespace Go.Proofs.YtmnlkganmgcpbaaGreatDoor
section
open Go.RowKit
abbrev cZ (W H:Int) (A:xv Addr) (N a:Nat):Value:= .agg #[I J W,I J H,.slice A N a]
abbrev gh (W H:Int) (A:xv Addr) (N a:Nat):Array Value:=#[I J W,I J H,.slice A N a]
def nM (n:Nat) (d:List Bool) (ps:List Pt) (a:Nat):List Bool:=(fq n d (ps.take a))++y0 (ps.length-a) R
theorem Np (n:Nat) (d:List Bool) (ps:List Pt):nM n d ps 0=y0 ps.length R:=by unfold nM fq;simp
theorem QY (n:Nat) (d:List Bool) (ps:List Pt):nM n d ps ps.length=fq n d ps:=by unfold nM;simp
theorem JL {n:Nat} {d:List Bool} {ps:List Pt} {a:Nat} (h:a<=ps.length):(nM n d ps a).length=ps.length:=by unfold nM fq;simp;omega
theorem Eh {n:Nat} {d:List Bool} {ps:List Pt} {a:Nat} (h:a<ps.length):fq n d (ps.take (a+1))=fq n d (ps.take a)++[d.getD (eU n (ps.getD a (0,0))) R]:=by
 unfold fq;rw[List.take_succ_eq_append_getElem h,List.map_append];simp[List.getD,h]
theorem M7 {n:Nat} {d:List Bool} {ps:List Pt} {a:Nat} (h:a<ps.length):(nM n d ps a).set a (d.getD (eU n (ps.getD a (0,0))) R)=nM n d ps (a+1):=by
 have e:y0 (ps.length-a) R=R::y0 (ps.length-(a+1)) R:=by rw[show ps.length-a=(ps.length-(a+1))+1 from by omega,List.replicate_succ]
 unfold nM;rw[Eh h,e,List.set_append,w6 (by unfold fq;simp;omega)];have e2:a-(fq n d (ps.take a)).length=0:=by unfold fq;simp;omega
 rw[e2,List.set_cons_zero];simp
theorem tJ (n:Nat) (H:Int) (A:xv Addr) (N u:Nat) (d:List Bool) (ps:List Pt) (v:Value) (w:wR) (hn:n<=4096) (cq:N<=4194304) (P:SR vB R w A N u d) (bs:SP w v ps) (b1:ps.length<=100000) (z:∀f∈ps,f.1<=4096/\f.2<=4096/\eU n f<N):
 wS w1 42 #[cZ n H A N u,v] w λe al=>∃db k,e= .returned (.slice (gk ⟨db,0,U⟩) k k)/\k=ps.length/\bF al db (fq n d ps)/\af w al:=by
 obtain⟨cr,c,rfl,ap,b2,am⟩:=bs;obtain⟨g,r⟩:∃g,g=ps.length:=⟨_,rfl⟩;rw[<-r]at ap b1⊢;have W:=aa r;have bt:=aa am;have bv:=aa P;have av:w2 (N=d.length):=P.hn;have b3:=aa z;have cp:w2 (∀a,a<g->(nM n d ps a).set a (d.getD (eU n (ps.getD a (0,0))) R)=nM n d ps (a+1)):=λa x=>M7 (by rw[<-r];exact x);have ck:w2 (∀a,a<=g->(nM n d ps a).length=g):=λa x=>by rw[r]at x⊢;exact JL x
 have b4:w2 (nM n d ps 0=y0 g R):=by show _=_;rw[Np,<-r]
 have b5:w2 (nM n d ps g=fq n d ps):=by show _=_;rw[r];exact QY _ _ _
 clear am P z r ap b2;obtain⟨o,F⟩:∃o,o=w.heap.size:=⟨_,rfl⟩;obtain⟨db,G⟩:∃db,db=w.heap.size+1:=⟨_,rfl⟩;obtain⟨p,D⟩:∃p,p=w.alloc (.cells (gh n H A N u) 28):=⟨_,rfl⟩;obtain⟨i,B⟩:∃i,i=p.alloc (.cells ((y0 g R).map vB).toArray 4):=⟨_,rfl⟩;have K:p.heap.size=db:=by rw[D,G];simp
 have a0:=tW g oO p;rw[<-B,K,D]at a0;have b6:w2 (af w p):=by show Below _ _ _;rw[D];exact ax _ _
 have L:w2 (af w i):=by show Below _ _ _;rw[B];exact ah b6.out _
 have b7:w2 (ag i o (gh n H A N u) 28):=by
  show ag _ _ _ _;rw[B];have Q:ag p o (gh n H A N u) 28:=by rw[D];exact ag.new _ _ _ _ F
  exact Q.below (ax _ _)
 have a1:w2 (bF i db (nM n d ps 0)/\aI db i i):=by
  show _/\_;rw[b4.out,B,<-K];exact⟨bF.new _ _,aI.refl _ _⟩
 have s:w2 (o<db/\w.heap.size<=db/\db<i.heap.size/\w.heap.size=o):=by show _/\_;rw[B,G,F];simp[K,G]
 clear B D K G;go_enter func42,ntmps42;go_wp2;simp only[<-F];clear a0 F;go_loopw [13] (λS wr=>∃a:Nat,a<=g/\S=I J a/\w2 (bF wr db (nM n d ps a)/\aI db i wr)) (λS _=>g-(intOf S).toNat)
 case atStart=>exact⟨0,x1 _,rfl,a1.out⟩
 case round=>
  clear a1;obtain⟨a,x,rfl,y⟩:=hrel;by_cases M:a<g
  ·obtain⟨m,t,rfl,X,a2⟩:=bt.out (by rw[<-W.out];omega);have T:=a2 a (by rw[<-W.out];exact M);have a3:ps.getD a (0,0)∈ps:=by
    have:a<ps.length:=by rw[<-W.out];exact M
    simp only[List.getD,List.getElem?_eq_getElem this,Option.getD_some];exact List.getElem_mem this
   obtain⟨cx,cy,bd⟩:=b3.out _ a3;have a4:=aa (cp.out a M);have a5:w2 ((nM n d ps a).length=g):=ck.out a x;generalize ps.getD a (0,0)=f at*;generalize nM n d ps a=V at*;have b9:m<o:=by have:=s.out.2.2.2;omega
   have ac:m≠db:=by have:=s.out.1;omega
   have Y:m<i.heap.size:=by have:=s.out;omega
   have e1:wr.cell? ⟨m,t+a* 2,U⟩=gk (I J (f.1:Int)):=(y.out.2.cell (a:=⟨m,t+a* 2,U⟩) Y ac).trans ((L.out.cell (p:=⟨m,t+a* 2,U⟩) X).trans T.1);have e2:wr.cell? ⟨m,t+a* 2+1,U⟩=gk (I J (f.2:Int)):=(y.out.2.cell (a:=⟨m,t+a* 2+1,U⟩) Y ac).trans ((L.out.cell (p:=⟨m,t+a* 2+1,U⟩) X).trans T.2);obtain⟨j,O⟩:∃j,j=wr.alloc (.cells #[I J (f.1:Int),I J (f.2:Int)] 47):=⟨_,rfl⟩;obtain⟨E,z⟩:∃E,E=wr.heap.size:=⟨_,rfl⟩;have a6:w2 (af wr j):=by show Below _ _ _;rw[O];exact ax _ _
   have a7:w2 (ag j E #[I J (f.1:Int),I J (f.2:Int)] 47):=by show ag _ _ _ _;rw[O,z];exact ag.new _ _ _ _ oS
   have Z:w2 (bF j db V):=y.out.1.below a6.out;have ab:w2 (aI db i j):=y.out.2.trans (aI.below a6.out);have a8:=eu a7.out;have be:j.cell? ⟨E,1,U⟩=gk (I J (f.2:Int)):=a7.out.cell 1 _ rfl;have a9:w2 (ag j o (gh n H A N u) 28):=ab.out.row b7.out (by have:=s.out.1;omega);have k0:=eu a9.out;have bx:=kt a9.out;obtain⟨q,hq⟩:∃q,q=f.2* n:=⟨_,rfl⟩;obtain⟨l,ad⟩:∃l,l=eU n f:=⟨_,rfl⟩;have ca:l=q+f.1:=by rw[ad,hq];rfl
   rw[<-ad]at bd a4;have c2:q<=4194304:=oO;have c3:(f.2:Int)* (n:Int)=(q:Int):=by rw[hq];simp
   have cs:J.wrap (q:Int)=(q:Int):=aG _ oO oO;have cv:(q:Int)+(f.1:Int)=(l:Int):=oO;have c5:(l:Int)<(N:Int):=oO;obtain⟨C,rfl,bf,bb⟩:=bv.out.rd (by rw[<-av.out];omega);have bi:C.block≠db:=by have:=s.out;omega
   have bo:C.block<i.heap.size:=by have:=s.out;omega
   have cb:j.cell? (C.add l)=gk (.bool (d.getD l R)):=(ab.out.cell (a:=C.add l) (by rw[aD];exact bo) (by rw[aD];exact bi)).trans ((L.out.cell (p:=C.add l) (by rw[aD];exact bf)).trans (bb l (by rw[<-av.out];exact bd)));generalize d.getD l R=b at*;have co:w2 (a<V.length):=by show _<_;rw[a5.out];exact M
   have c4:(a:Int)<(g:Int):=oO;have ce:j.cell? ⟨db,a,U⟩=gk (.bool (V.getD a R)):=Z.out.cell co.out;have ch:=bN (a) Z.out;have bq:w2 (bF (j.setCell ⟨db,a,U⟩ (.bool b)) db (nM n d ps (a+1))/\aI db i (j.setCell ⟨db,a,U⟩ (.bool b))):=by
    show _/\_;rw[<-a4.out];exact⟨Z.out.set _ _,ab.out.trans (aI.eN _)⟩
   rw[O]at k0 bx cb ce ch bq a8 be;rw[z]at a8 be;clear hq ad ca a3 a5 a2 T bb bf bo bi b9 ac Y X O z;go_wp2;exact⟨⟨a+1,by omega,by go_num,bq.out⟩,by simp[intOf];omega⟩
  ·obtain rfl:a=g:=oO;have bz:w2 (bF wr db (fq n d ps)):=by show bF _ _ _;rw[<-b5.out];exact y.out.1
   have ci:w2 (af w wr):=by show Below _ _ _;have Q:=s.out;exact L.out.trans (y.out.2.to Q.2.1 oO)
   go_wp2;go_ret;exact⟨db,a,rfl,rfl,bz.out,ci.out⟩
theorem BB (w:wR) (W H:Int) (A:xv Addr) (N a:Nat):w2 (∀V,af (w.alloc (.cells (gh W H A N a) 28)) V->V.cell? ⟨w.heap.size,0,U⟩=gk (I J W)/\V.cell? ⟨w.heap.size,1,U⟩=gk (I J H)/\V.cell? ⟨w.heap.size,2,U⟩=gk (.slice A N a)):=by
 show∀V,_;intro V c;have h:ag (w.alloc (.cells (gh W H A N a) 28)) w.heap.size (gh W H A N a) 28:=ag.new _ _ _ _ rfl;have b:=h.below c;exact⟨b.cell 0 _ rfl,b.cell 1 _ rfl,b.cell 2 _ rfl⟩
theorem nJ (W H:Int) (A:xv Addr) (N m:Nat) (w:wR) (p:N<=9223372036854775807):wS w1 37 #[cZ W H A N m] w (au (.bool (cU W H N)) w):=by
 have d:w2 (cU W H N=(decide (1<=W)&&decide (W<=4096)&&decide (1<=H)&&decide (H<=4096)&&decide (W* H<=4194304)&&decide ((N:Int)=W* H))):=rfl;have e:w2 (af w (w.alloc (.cells (gh W H A N m) 28))):=ax _ _;obtain⟨q,r,s⟩:=(BB w W H A N m).out _ (w3 _ _);by_cases f:1<=W;rotate_left
 ·have a:w2 (cU W H N=R):=by show _=_;rw[d.out,CF f];simp
  have b:W<1:=oO;go_enter V8,VE;go_wp2;go_ret;exact⟨by rw[a.out];rfl,e.out⟩
 by_cases g:W<=4096;rotate_left
 ·have a:w2 (cU W H N=R):=by show _=_;rw[d.out,y1 f,CF g];simp
  have b:4096<W:=oO;go_enter V8,VE;go_wp2;go_ret;exact⟨by rw[a.out];rfl,e.out⟩
 by_cases i:1<=H;rotate_left
 ·have a:w2 (cU W H N=R):=by show _=_;rw[d.out,y1 f,y1 g,CF i];simp
  have b:H<1:=oO;go_enter V8,VE;go_wp2;go_ret;exact⟨by rw[a.out];rfl,e.out⟩
 by_cases k:H<=4096;rotate_left
 ·have a:w2 (cU W H N=R):=by show _=_;rw[d.out,y1 f,y1 g,y1 i,CF k];simp
  have b:4096<H:=oO;go_enter V8,VE;go_wp2;go_ret;exact⟨by rw[a.out];rfl,e.out⟩
 obtain⟨c,l⟩:∃c:Int,c=W* H:=⟨_,rfl⟩;have u:0<=c:=by rw[l];exact Int.mul_nonneg oO oO
 have v:c<=16777216:=by rw[l];exact Int.le_trans (Int.mul_le_mul_of_nonneg_right g oO) oO
 have o:W* H=c:=l.symm;have t:J.wrap c=c:=aG _ oO oO;rw[o]at d;clear l;by_cases n:c<=4194304;rotate_left
 ·have a:w2 (cU W H N=R):=by show _=_;rw[d.out,y1 f,y1 g,y1 i,y1 k,CF n];simp
  have b:4194304<c:=oO;go_enter V8,VE;go_wp2;go_ret;exact⟨by rw[a.out];rfl,e.out⟩
 by_cases j:(N:Int)=c;rotate_left
 ·have a:w2 (cU W H N=R):=by show _=_;rw[d.out,y1 f,y1 g,y1 i,y1 k,y1 n,CF j];simp
  have b:((N:Int)==c)=R:=by rw[w4];exact j
  go_enter V8,VE;go_wp2;go_ret;exact⟨by rw[a.out];rfl,e.out⟩
 have a:w2 (cU W H N=wP):=by show _=_;rw[d.out,y1 f,y1 g,y1 i,y1 k,y1 n,y1 j];simp
 have b:((N:Int)==c)=wP:=by rw[HX];exact j
 clear j;go_enter V8,VE;go_wp2;go_ret;exact⟨by rw[a.out];rfl,e.out⟩
theorem nw (W H:Int) (A:xv Addr) (N m:Nat) (w:wR) (p:N<=9223372036854775807):wS w1 73 #[cZ W H A N m] w (au (.bool (cU W H N)) w):=by
 have d:w2 (cU W H N=(decide (1<=W)&&decide (W<=4096)&&decide (1<=H)&&decide (H<=4096)&&decide (W* H<=4194304)&&decide ((N:Int)=W* H))):=rfl;have e:w2 (af w (w.alloc (.cells (gh W H A N m) 28))):=ax _ _;obtain⟨q,r,s⟩:=(BB w W H A N m).out _ (w3 _ _);by_cases f:1<=W;rotate_left
 ·have a:w2 (cU W H N=R):=by show _=_;rw[d.out,CF f];simp
  have b:W<1:=oO;go_enter V7,VD;go_wp2;go_ret;exact⟨by rw[a.out];rfl,e.out⟩
 by_cases g:W<=4096;rotate_left
 ·have a:w2 (cU W H N=R):=by show _=_;rw[d.out,y1 f,CF g];simp
  have b:4096<W:=oO;go_enter V7,VD;go_wp2;go_ret;exact⟨by rw[a.out];rfl,e.out⟩
 by_cases i:1<=H;rotate_left
 ·have a:w2 (cU W H N=R):=by show _=_;rw[d.out,y1 f,y1 g,CF i];simp
  have b:H<1:=oO;go_enter V7,VD;go_wp2;go_ret;exact⟨by rw[a.out];rfl,e.out⟩
 by_cases k:H<=4096;rotate_left
 ·have a:w2 (cU W H N=R):=by show _=_;rw[d.out,y1 f,y1 g,y1 i,CF k];simp
  have b:4096<H:=oO;go_enter V7,VD;go_wp2;go_ret;exact⟨by rw[a.out];rfl,e.out⟩
 obtain⟨c,l⟩:∃c:Int,c=W* H:=⟨_,rfl⟩;have u:0<=c:=by rw[l];exact Int.mul_nonneg oO oO
 have v:c<=16777216:=by rw[l];exact Int.le_trans (Int.mul_le_mul_of_nonneg_right g oO) oO
 have o:W* H=c:=l.symm;have t:J.wrap c=c:=aG _ oO oO;rw[o]at d;clear l;by_cases n:c<=4194304;rotate_left
 ·have a:w2 (cU W H N=R):=by show _=_;rw[d.out,y1 f,y1 g,y1 i,y1 k,CF n];simp
  have b:4194304<c:=oO;go_enter V7,VD;go_wp2;go_ret;exact⟨by rw[a.out];rfl,e.out⟩
 by_cases j:(N:Int)=c;rotate_left
 ·have a:w2 (cU W H N=R):=by show _=_;rw[d.out,y1 f,y1 g,y1 i,y1 k,y1 n,CF j];simp
  have b:((N:Int)==c)=R:=by rw[w4];exact j
  go_enter V7,VD;go_wp2;go_ret;exact⟨by rw[a.out];rfl,e.out⟩
 have a:w2 (cU W H N=wP):=by show _=_;rw[d.out,y1 f,y1 g,y1 i,y1 k,y1 n,y1 j];simp
 have b:((N:Int)==c)=wP:=by rw[HX];exact j
 clear j;go_enter V7,VD;go_wp2;go_ret;exact⟨by rw[a.out];rfl,e.out⟩
def iS (n:Nat) (c:Bool) (a:Nat):Bool:=eH ((a+1:Nat):Int) c&&(aB (a+1) c==n)
theorem Cs (n:Nat) (c:Bool):dh n c=(List.range 32).any (iS n c):=rfl
theorem ES {n:Nat} {c:Bool} {j:Nat} (a:j<32) (h:iS n c j=wP):dh n c=wP:=by
 rw[Cs,List.any_eq_true];exact⟨j,List.mem_range.2 a,h⟩
theorem Ch {n:Nat} {c:Bool} (h:∀a,a<32->iS n c a=R):dh n c=R:=by
 rw[Cs,List.any_eq_false];intro a b;rw[h a (List.mem_range.1 b)];decide
theorem iy (n:Nat) (c:Bool) (w:wR) (hn:n<=4096):wS w1 38 #[I J n,.bool c] w (au (.bool (dh n c)) w):=by
 go_enter func38,ntmps38;go_wp2;go_loopw [7] (λs wr=>∃a:Nat,a<=32/\s=I J a/\w2 (∀b,b<a->iS n c b=R)/\w2 (af w wr)) (λs _=>32-(intOf s).toNat)
 case atStart=>exact⟨0,by omega,rfl,λb y=>A8 y oO,w3 _ _⟩
 case round=>
  obtain⟨a,H,rfl,z,hB⟩:=hrel;by_cases E:a<32
  ·obtain⟨k,t⟩:∃k,k=a+1:=⟨_,rfl⟩;have K:(a:Int)+1=(k:Int):=oO;have u:=fI wr k c;have l:w2 (∀W,wS w1 29 #[bX k c] W (au (.bool (eH (k:Int) c)) W)):=λW=>iR k c W;have B:w2 (∀W,wS w1 36 #[bX k c] W (au (I J ((aB k c:Nat):Int)) W)):=λW=>oR k c W oO;have q:w2 (iS n c a=(eH (k:Int) c&&(aB k c==n))):=by show _=_;rw[t];rfl
   have M:=(eI (L:=k) (c:=c) oO).2;have C:w2 (iS n c a=R->∀b,b<a+1->iS n c b=R):=by
    show _->_;intro h b y;rcases z6 b a with A|A
    ·exact z.out b A
    ·obtain rfl:b=a:=oO;exact h
   have N:(a:Int)<32:=oO;have L:=aa t;obtain⟨f,g⟩:=u.out _ (w3 _ _);generalize aB k c=S at*;clear t;cases j:eH (k:Int) c with
   |false=>
    have r:w2 (iS n c a=R):=by show _=_;rw[q.out,j,Bool.false_and]
    rw[j]at l;clear j q;go_wp2_with(go_at_call 29;refine(l.out _).mono ?_;rintro e p ⟨rfl,d⟩;have i:=aa (ae hB.out (dT d));clear d f g)
    exact⟨⟨a+1,by omega,by go_num,C.out r.out,i.out⟩,by simp[intOf];omega⟩
   |true=>
    have r:w2 (iS n c a=(S==n)):=by show _=_;rw[q.out,j,Bool.true_and]
    rw[j]at l;clear j q;by_cases m:S=n
    ·have v:w2 (dh n c=wP):=by show _=_;exact ES (j:=a) E (by rw[r.out,m];simp)
     have F:((S:Int)==(n:Int))=wP:=by rw[m];simp
     clear m
     go_wp2_with(first
      |(go_at_call 29;refine(l.out _).mono ?_;rintro e p ⟨rfl,d⟩;have i:w2 (af (wr.alloc (cN k c)) p):=d;clear d f g;obtain⟨f,g⟩:=u.out _ i.out)
      |(go_at_call 36;refine(B.out _).mono ?_;rintro e D ⟨rfl,o⟩;have x:=aa (ae hB.out (dT (ae i.out o)));clear o f g))
     go_ret;exact⟨by rw[v.out];rfl,x.out⟩
    ·have F:((S:Int)==(n:Int))=R:=by rw[w4];omega
     have G:w2 (iS n c a=R):=by show _=_;rw[r.out,w4];exact m
     clear m
     go_wp2_with(first
      |(go_at_call 29;refine(l.out _).mono ?_;rintro e p ⟨rfl,d⟩;have i:w2 (af (wr.alloc (cN k c)) p):=d;clear d f g;obtain⟨f,g⟩:=u.out _ i.out)
      |(go_at_call 36;refine(B.out _).mono ?_;rintro e D ⟨rfl,o⟩;have x:=aa (ae hB.out (dT (ae i.out o)));clear o f g))
     exact⟨⟨a+1,by omega,by go_num,C.out G.out,x.out⟩,by simp[intOf];omega⟩
  ·obtain rfl:a=32:=oO;have v:w2 (dh n c=R):=Ch z.out;go_wp2;go_ret;exact⟨by rw[v.out];rfl,hB.out⟩
def uq (n b:Nat) (c:Bool) (d:List Bool) (a:Nat):Bool:=!(decide (lQ b (a%n,a/n)<bu c))||(d.getD a R==(lQ b (a%n,a/n)%2==0))
theorem Fb (n a:Nat) (c:Bool) (d:List Bool):gn n a c d=(List.range (n* n)).all (uq n a c d):=rfl
theorem DA {n a:Nat} {c:Bool} {d:List Bool} {j:Nat} (b:j<n* n) (h:uq n a c d j=R):gn n a c d=R:=by
 rw[Fb,List.all_eq_false];exact⟨j,List.mem_range.2 b,by rw[h];decide⟩
theorem II {n b:Nat} {c:Bool} {d:List Bool} (h:∀a,a<n* n->uq n b c d a=wP):gn n b c d=wP:=by
 rw[Fb,List.all_eq_true];intro a e;exact h a (List.mem_range.1 e)
theorem wu (n f m:Nat) (c:Bool) (H:Int) (A:xv Addr) (N q:Nat) (d:List Bool) (w:wR) (L:m=bu c) (b6:1<=n) (hn:n<=4096) (b3:f<=4096) (M:N=n* n) (O:SR vB R w A N q d):
 wS w1 40 #[dR n c f m,cZ n H A N q] w (au (.bool (gn n f c d)) w):=by
 have bb:=aa O;have a1:w2 (N=d.length):=O.hn;have bd:=aa L;have S:=aa M;have b7:N<=16777216:=by rw[M];exact Nat.mul_le_mul hn hn
 have b9:m<=7:=by rw[L];cases c<;>decide
 clear O L M;obtain⟨l,T⟩:∃l,l=w.heap.size:=⟨_,rfl⟩;obtain⟨r,E⟩:∃r,r=w.heap.size+1:=⟨_,rfl⟩;obtain⟨j,o⟩:∃j,j=(w.alloc (.cells (dq n c f m) 71)).alloc (.cells (gh n H A N q) 28):=⟨_,rfl⟩;have p:w2 (af w j):=by show Below _ _ _;rw[o];exact ah (ax _ _) _
 have bs:w2 (ag j l (dq n c f m) 71):=by
  show ag _ _ _ _;rw[o];have k:ag (w.alloc (.cells (dq n c f m) 71)) l (dq n c f m) 71:=ag.new _ _ _ _ T;exact k.below (ax _ _)
 have bt:w2 (ag j r (gh n H A N q) 28):=by show ag _ _ _ _;rw[o];exact ag.new _ _ _ _ (by simp[E])
 have z:w2 (∀W,af j W->(W.cell? ⟨l,0,U⟩=gk (I J (n:Int))/\W.cell? ⟨l,1,U⟩=gk (.bool c)/\W.cell? ⟨l,2,U⟩=gk (I J (f:Int))/\W.cell? ⟨l,3,U⟩=gk (I J (m:Int)))/\W.cell? ⟨r,0,U⟩=gk (I J (n:Int))/\W.cell? ⟨r,2,U⟩=gk (.slice A N q)):=by
  show∀W,_;intro W Z;have k:=bs.out.below Z;have ab:=bt.out.below Z;exact⟨⟨k.cell 0 _ rfl,k.cell 1 _ rfl,k.cell 2 _ rfl,k.cell 3 _ rfl⟩,ab.cell 0 _ rfl,ab.cell 2 _ rfl⟩
 obtain⟨⟨ac,ad,al,am⟩,k0,P⟩:=z.out j (w3 _ _);rw[o,E]at P;go_enter func40,ntmps40;go_wp2;simp only[<-E,<-o];simp only[<-T];clear o T E ac ad al am k0 P;go_loopw [11] (λQ wr=>∃a:Nat,a<=N/\Q=I J a/\w2 (∀i,i<a->uq n f c d i=wP)/\w2 (af j wr)) (λQ _=>N-(intOf Q).toNat)
 case atStart=>exact⟨0,x1 _,rfl,λi ap=>A8 ap oO,w3 _ _⟩
 case round=>
  obtain⟨a,b4,rfl,av,hB⟩:=hrel;by_cases V:a<N
  ·obtain⟨a0,rfl,a9,a2⟩:=bb.out.rd (by rw[<-a1.out];omega);have a3:=a2 a (by rw[<-a1.out];exact V);have bv:wr.cell? (a0.add a)=gk (.bool (d.getD a R)):=((p.out.trans (hB.out.mono p.out.size)).cell (p:=a0.add a) (by rw[aD];exact a9)).trans a3;clear a2 a3 a9;obtain⟨x,B⟩:∃x,x=a%n:=⟨_,rfl⟩;obtain⟨y,C⟩:∃y,y=a/n:=⟨_,rfl⟩;have ca:x<n:=by rw[B];exact Nat.mod_lt _ oO
   have cb:y<n:=by rw[C];exact(Nat.div_lt_iff_lt_mul oO).2 (by rw[<-S.out];exact V)
   have ce:¬n=0:=oO;have be:(a:Int)%(n:Int)=(x:Int):=by rw[B];simp
   have bf:(a:Int)/(n:Int)=(y:Int):=by rw[C];simp
   have ch:(a:Int).tmod (n:Int)=(x:Int):=by rw[Int.tmod_eq_emod_of_nonneg oO];exact be
   have ci:(a:Int).tdiv (n:Int)=(y:Int):=by rw[Int.tdiv_eq_ediv_of_nonneg oO];exact bf
   have b5:J.wrap (y:Int)=(y:Int):=aG _ oO oO;obtain⟨g,F⟩:∃g,g=lQ f (x,y):=⟨_,rfl⟩;have ck:g<=10000:=by rw[F];unfold lQ pT;simp only;omega
   have bx:w2 (∀W,wS w1 86 #[dR n c f m,I J x,I J y] W (au (I J (g:Int)) W)):=λW=>by rw[F];exact uO n f m x y c W oO oO oO
   have a4:w2 (∀W,wS w1 87 #[I J g] W λe bi=>e= .returned (.bool (g%2==0))/\bi=W):=λW=>xL g W oO;have G:w2 (uq n f c d a=(!(decide (g<m))||(d.getD a R==(g%2==0)))):=by show _=_;unfold uq;rw[<-B,<-C,<-F,<-bd.out]
   have a5:w2 (uq n f c d a=wP->∀i,i<a+1->uq n f c d i=wP):=by
    show _->_;intro h i ap;rcases z6 i a with k|k
    ·exact av.out i k
    ·obtain rfl:i=a:=oO;exact h
   have bz:w2 (uq n f c d a=R->gn n f c d=R):=λh=>DA (by rw[<-S.out];exact V) h;clear B C F;generalize uq n f c d a=D at*;generalize d.getD a R=b at*;generalize b2:(g%2==0)=K at*;clear b2;have co:(a:Int)<(N:Int):=oO;have a6:w2 (af j wr.drew):=ai hB.out;go_wp2;clear bv;refine yO (af j) [1,2,3,4,5,6,7,8,9,0,10,0,11] a6.out ?_
   repeat refine zO z.out ?_
   refine zZ ?_;refine(bx.out _).mono ?_;rintro e bo ⟨rfl,a7⟩;have s:=aa (ae a6.out a7);clear a7;refine⟨_,rfl,s.out,jO ?_⟩
   repeat refine zO z.out ?_
   refine aj ?_;obtain⟨⟨ac,ad,al,am⟩,k0,P⟩:=z.out bo s.out;by_cases X:g<m
   ·have b1:(g:Int)<(m:Int):=oO;have a8:w2 (D=(b==K)):=by show _=_;rw[G.out,y1 X];simp
    clear G;by_cases t:b=K
    ·have u:w2 (D=wP):=by show _=_;rw[a8.out,t];simp
     subst t;go_wp2_with(go_at_call 87;refine(a4.out _).mono ?_;rintro e bq ⟨rfl,v⟩;rw[v];clear v)
     exact⟨⟨a+1,by omega,by go_num,a5.out u.out,s.out⟩,by simp[intOf];omega⟩
    ·have u:w2 (D=R):=by show _=_;rw[a8.out,w4];exact t
     have cp:(b !=K)=wP:=by rw[bne_iff_ne];exact t
     have cr:(b==K)=R:=beq_eq_false_iff_ne.2 t;have Y:=aa (bz.out u.out);go_wp2_with(go_at_call 87;refine(a4.out _).mono ?_;rintro e bq ⟨rfl,v⟩;rw[v];clear v)
     go_ret;exact⟨by rw[Y.out];rfl,p.out.trans (s.out.mono p.out.size)⟩
   ·have b1:¬(g:Int)<(m:Int):=oO;have cs:m<=g:=oO;have cq:decide (g<m)=R:=by simp;omega
    have u:w2 (D=wP):=by show _=_;rw[G.out,CF X];rfl
    clear G X;go_wp2;exact⟨⟨a+1,by omega,by go_num,a5.out u.out,s.out⟩,by simp[intOf];omega⟩
  ·obtain rfl:N=a:=oO;have Y:w2 (gn n f c d=wP):=II (by rw[<-S.out];exact av.out);go_wp2;go_ret;exact⟨by rw[Y.out];rfl,p.out.trans (hB.out.mono p.out.size)⟩
theorem Hy {b x:List Bool} (hl:b.length=6) (e:x.length=6) (h:∀a,a<6->b.getD a R=x.getD a R):b=x:=by
 refine List.ext_getElem oO λa c d=>?_;have:=h a oO;simpa[List.getD,c,d]using this
theorem PU {b:List Bool} (hl:b.length=6) (h:∀a,a<6->b.getD a R=wP):(b==j6)=wP:=by
 rw[HX];refine Hy hl rfl λa c=>?_;rw[h a c];rcases a with _|_|_|_|_|_|a<;>first|rfl|omega
theorem Qp {b:List Bool} (hl:b.length=6) (h:∀a,a<6->b.getD a R=R):(b==nU)=wP:=by
 rw[HX];refine Hy hl rfl λa c=>?_;rw[h a c];rcases a with _|_|_|_|_|_|a<;>first|rfl|omega
theorem Sd {b:List Bool} {a:Nat} (c:a<6) (h:b.getD a R=R):(b==j6)=R:=by
 rw[w4];rintro rfl;rcases a with _|_|_|_|_|_|a<;>first|(exact A8 h oD)|omega
theorem RX {b:List Bool} {a:Nat} (c:a<6) (h:b.getD a R=wP):(b==nU)=R:=by
 rw[w4];rintro rfl;rcases a with _|_|_|_|_|_|a<;>first|(exact A8 h oD)|omega
theorem Q8 {n c m:Nat} (f:m<=c) (hn:c+m<n) (g:1<=m) (i:n<=4096):(∀a∈b8 c m,a.1<=4096/\a.2<=4096/\eU n a<n* n)/\∀a∈bQ c m,a.1<=4096/\a.2<=4096/\eU n a<n* n:=by
 have hb:∀a:Pt,a.1<n->a.2<n->a.1<=4096/\a.2<=4096/\eU n a<n* n:=λa d e=>⟨by omega,by omega,mz d e⟩;constructor
 ·intro a b;unfold b8 at b;simp only[List.mem_cons,Ay,or_false]at b;rcases b with rfl|rfl|rfl|rfl|rfl|rfl<;>exact hb _ (by simp only;omega) (by simp only;omega)
 ·intro a b;unfold bQ at b;simp only[List.mem_cons,Ay,or_false]at b;rcases b with rfl|rfl|rfl|rfl|rfl|rfl<;>exact hb _ (by simp only;omega) (by simp only;omega)
theorem E3 (n b m:Nat) (c:Bool) (H:Int) (A:xv Addr) (N r:Nat) (d:List Bool) (w:wR) (Y:m=bu c) (a5:m<=b) (hn:b+m<n) (av:n<=4096) (Z:N=n* n) (bf:N<=4194304) (ab:SR vB R w A N r d):
 wS w1 41 #[dR n c b m,cZ n H A N r] w (au (.bool (lF n b c d)) w):=by
 have ch:5<=m:=by rw[Y];cases c<;>decide
 obtain⟨bi,bo⟩:=Q8 (n:=n) a5 hn oO av;obtain⟨l,Q⟩:∃l,l=fq n d (b8 b m):=⟨_,rfl⟩;obtain⟨o,S⟩:∃o,o=fq n d (bQ b m):=⟨_,rfl⟩;have a0:w2 (lF n b c d=((l==j6)&&(o==nU))):=by show _=_;unfold lF;rw[Q,S,Y]
 have bq:w2 (l.length=6):=by show _=_;rw[Q];unfold fq;rw[HO];rfl
 have bs:w2 (o.length=6):=by show _=_;rw[S];unfold fq;rw[HO];rfl
 have ci:w2 (∀W,wS w1 88 #[dR n c b m] W λe i=>∃v u,e= .returned (.tuple #[v,u])/\w2 (SP i v (b8 b m))/\w2 (SP i u (bQ b m))/\af W i):=λW=>
  (ra n b m c W a5 oO ch).mono λe i ⟨v,u,g,s,y,M⟩=>⟨v,u,g,s.1,y.1,M⟩
 have ck:w2 (∀W v,af w W->SP W v (b8 b m)->wS w1 42 #[cZ n H A N r,v] W λe i=>∃db,e= .returned (.slice (gk ⟨db,0,U⟩) 6 6)/\w2 (bF i db l)/\af W i):=λW v B ac=>
  (tJ n H A N r d _ v W av bf (ab.below B) ac (by show 6<=100000;decide) (λX ad=>by rw[Z];exact bi X ad)).mono λe i ⟨db,k,g,s,y,M⟩=>by
   obtain rfl:k=6:=s;rw[<-Q]at y;exact⟨db,g,y,M⟩
 have co:w2 (∀W v,af w W->SP W v (bQ b m)->wS w1 42 #[cZ n H A N r,v] W λe i=>∃db,e= .returned (.slice (gk ⟨db,0,U⟩) 6 6)/\w2 (bF i db o)/\af W i):=λW v B ac=>
  (tJ n H A N r d _ v W av bf (ab.below B) ac (by show 6<=100000;decide) (λX ad=>by rw[Z];exact bo X ad)).mono λe i ⟨db,k,g,s,y,M⟩=>by
   obtain rfl:k=6:=s;rw[<-S]at y;exact⟨db,g,y,M⟩
 clear ab Y Z bi bo Q S;obtain⟨t,a1⟩:∃t,t=w.heap.size:=⟨_,rfl⟩;obtain⟨C,T⟩:∃C,C=w.heap.size+1:=⟨_,rfl⟩;obtain⟨j,O⟩:∃j,j=(w.alloc (.cells (dq n c b m) 71)).alloc (.cells (gh n H A N r) 28):=⟨_,rfl⟩;have q:w2 (af w j):=by show Below _ _ _;rw[O];exact ah (ax _ _) _
 have cp:w2 (ag j t (dq n c b m) 71):=by
  show ag _ _ _ _;rw[O];have g:ag (w.alloc (.cells (dq n c b m) 71)) t (dq n c b m) 71:=ag.new _ _ _ _ a1;exact g.below (ax _ _)
 have cq:w2 (ag j C (gh n H A N r) 28):=by show ag _ _ _ _;rw[O];exact ag.new _ _ _ _ (by simp[T])
 have al:w2 (∀W,af j W->(W.cell? ⟨t,0,U⟩=gk (I J (n:Int))/\W.cell? ⟨t,1,U⟩=gk (.bool c)/\W.cell? ⟨t,2,U⟩=gk (I J (b:Int))/\W.cell? ⟨t,3,U⟩=gk (I J (m:Int)))/\W.cell? ⟨C,0,U⟩=gk (I J (n:Int))/\W.cell? ⟨C,1,U⟩=gk (I J H)/\W.cell? ⟨C,2,U⟩=gk (.slice A N r)):=by
  show∀W,_;intro W B;have g:=cp.out.below B;have s:=cq.out.below B;exact⟨⟨g.cell 0 _ rfl,g.cell 1 _ rfl,g.cell 2 _ rfl,g.cell 3 _ rfl⟩,s.cell 0 _ rfl,s.cell 1 _ rfl,s.cell 2 _ rfl⟩
 obtain⟨⟨a6,a7,a8,a9⟩,k0,b9,ca⟩:=al.out j (w3 _ _);rw[O,a1]at a6 a7 a8 a9;go_enter func41,ntmps41
 go_wp2_with(first
  |(go_at_call 88;simp only[<-T,<-O];simp only[<-a1];refine(ci.out _).mono ?_;rintro e bb ⟨v1,u1,rfl,bt,bv,bx⟩;have a2:w2 (af j bb):=bx;obtain⟨-,D,E,F⟩:=al.out bb a2.out;rw[T]at D E F;clear bx)
  |(go_at_call 42;refine(ck.out _ _ (q.out.trans (a2.out.mono q.out.size)) bt.out).mono ?_;rintro e am ⟨db,rfl,bz,a3⟩;have cr:=aa (ae a2.out a3);have b1:=aa (bv.out.below a3);clear a3))
 clear a6 a7 a8 a9 k0 b9 ca D E F;have b2:w2 (af j am/\bF am db l/\SP am u1 (bQ b m)):=⟨cr.out,bz.out,b1.out⟩;clear bz b1 bt bv;go_loopw [20] (λz wr=>∃f:Nat,f<=6/\z=I J f/\w2 (∀a,a<f->l.getD a R=wP)/\w2 (af j wr/\bF wr db l/\SP wr u1 (bQ b m))) (λz _=>6-(intOf z).toNat)
 case atStart=>exact⟨0,x1 _,rfl,λa G=>A8 G oO,b2.out⟩
 case round=>
  clear b2;obtain⟨f,cb,rfl,K,hB⟩:=hrel;by_cases L:f<6
  ·have V:(f:Int)<6:=oO;have ap:=hB.out.2.1.cell (i:=f) (by rw[bq.out];exact L);obtain⟨x,p⟩:∃x,x=l.getD f R:=⟨_,rfl⟩;rw[<-p]at ap;cases x with
   |true=>
    have a4:w2 (∀a,a<f+1->l.getD a R=wP):=by
     show∀a,_->_;intro a G;rcases z6 a f with g|g
     ·exact K.out a g
     ·obtain rfl:a=f:=oO;exact p.symm
    clear p;go_wp2;exact⟨⟨f+1,by omega,by go_num,a4.out,hB.out⟩,by simp[intOf];omega⟩
   |false=>
    have P:w2 (lF n b c d=R):=by show _=_;rw[a0.out,Sd L p.symm];rfl
    clear p;go_wp2;go_ret;exact⟨by rw[P.out];rfl,q.out.trans (hB.out.1.mono q.out.size)⟩
  ·obtain⟨bd,cs⟩:∃bd:Nat,bd=6:=⟨_,rfl⟩;have cv:w2 ((l==j6)=wP):=PU bq.out λa G=>K.out a oO;have V:¬(f:Int)<6:=oO;have b3:decide (f<6)=R:=by simp;omega
   obtain⟨-,D,E,F⟩:=al.out wr hB.out.1;rw[T]at D E F;obtain⟨cy,b4⟩:∃x,x=wr:=⟨_,rfl⟩;rw[<-b4]at D E F hB⊢;clear b4 cs;go_wp2_with(go_at_call 42;refine(co.out _ _ (q.out.trans (hB.out.1.mono q.out.size)) hB.out.2.2).mono ?_;rintro e be ⟨lb,rfl,b5,b6⟩;have b7:w2 (af j be/\bF be lb o):=⟨ae hB.out.1 b6,b5.out⟩;clear b6 b5)
   clear D E F hB K cb L V b3;go_loopw [31] (λz wr=>∃f:Nat,f<=6/\z=I J f/\w2 (∀a,a<f->o.getD a R=R)/\w2 (af j wr/\bF wr lb o)) (λz _=>6-(intOf z).toNat)
   case atStart=>exact⟨0,x1 _,rfl,λa G=>A8 G oO,b7.out⟩
   case round=>
    clear b7;obtain⟨a,G,rfl,K,hB⟩:=hrel;by_cases L:a<6
    ·have V:(a:Int)<6:=oO;have ap:=hB.out.2.cell (i:=a) (by rw[bs.out];exact L);obtain⟨x,p⟩:∃x,x=o.getD a R:=⟨_,rfl⟩;rw[<-p]at ap;cases x with
     |false=>
      have a4:w2 (∀k,k<a+1->o.getD k R=R):=by
       show∀k,_->_;intro k ce;rcases z6 k a with g|g
       ·exact K.out k g
       ·obtain rfl:k=a:=oO;exact p.symm
      clear p;go_wp2;exact⟨⟨a+1,by omega,by go_num,a4.out,hB.out⟩,by simp[intOf];omega⟩
     |true=>
      have P:w2 (lF n b c d=R):=by show _=_;rw[a0.out,RX L p.symm,Bool.and_false]
      clear p;go_wp2;go_ret;exact⟨by rw[P.out];rfl,q.out.trans (hB.out.1.mono q.out.size)⟩
    ·have cx:w2 ((o==nU)=wP):=Qp bs.out λk ce=>K.out k oO;have P:w2 (lF n b c d=wP):=by show _=_;rw[a0.out,cv.out,cx.out];rfl
     have V:¬(a:Int)<6:=oO;have b3:decide (a<6)=R:=by simp;omega
     go_wp2;go_ret;exact⟨by rw[P.out];rfl,q.out.trans (hB.out.1.mono q.out.size)⟩
def dU (w:wR) (a:List UInt8×Int×Int) (e:Ending) (b:wR):Prop:=∃A N c,e= .returned (.tuple #[.slice A N c,I J a.2.1,I J a.2.2])/\SR vU 0 b A N c a.1/\af w b
theorem dU.err {w b:wR} {a:List UInt8×Int×Int} {x:Int} (h:a=([],0,x)) (hb:af w b):dU w a (.returned (.tuple #[.slice U 0 0,I J 0,I J x])) b:=by
 subst h;exact⟨U,0,0,rfl,⟨rfl,Nat.le_refl _,x1 _,RG.dw _ _⟩,hb⟩
theorem SR.zN {w:wR} {A:xv Addr} {n c:Nat} {a:List Nat} (h:SR vN 0 w A n c a):SR vI 0 w A n c (zN a):=by
 refine⟨by rw[zo];exact h.hn,h.hc,h.hm,λd=>?_⟩;rw[zo]at d;obtain⟨g,e,hl,hc⟩:=h.rd d;refine⟨g,e,hl,λb f=>?_⟩;rw[zo]at f;rw[hc b f,show(Go.Proofs.YtmnlkganmgcpbaaGreatDoor.zN a).getD b 0=((a.getD b 0:Nat):Int)from bT a b]
theorem SR.front {a:Type} {f:a->Value} {d:a} {w:wR} {A:xv Addr} {n c k:Nat} {b:List a} (h:SR f d w A n c b) (m:k<=n):SR f d w A k c (b.take k):=by
 have hn:=h.hn;have o:=h.hc;refine⟨by rw[Ai];omega,by omega,h.hm,λi=>?_⟩;rw[Ai]at i;obtain⟨j,e,hl,hc⟩:=h.rd oO;refine⟨j,e,hl,λg l=>?_⟩;rw[Ai]at l;rw[hc g oO];simp[List.getD,List.getElem?_take,show g<k by omega]
theorem EX {v a:List Nat} {k z:Nat} (h:¬(aC (zN (v.take k)) z).2=0):pZ v a k z=([],0,(aC (zN (v.take k)) z).2):=by
 unfold pZ;rw[if_pos h]
theorem EZ {v a:List Nat} {k z:Nat} (h:(aC (zN (v.take k)) z).2=0) (b:¬(cV (aC (zN (v.take k)) z).1).2=0):pZ v a k z=([],0,(cV (aC (zN (v.take k)) z).1).2):=by
 unfold pZ;rw[w6 (by rw[h];decide),if_pos b]
theorem EI {v a:List Nat} {k z:Nat} (h:(aC (zN (v.take k)) z).2=0) (b:(cV (aC (zN (v.take k)) z).1).2=0):pZ v a k z=((cV (aC (zN (v.take k)) z).1).1,((cf a v).length:Int),0):=by
 unfold pZ;rw[w6 (by rw[h];decide),w6 (by rw[b];decide)]
theorem xA {a:Act} {d:Oper} {W:wR} {x e:Operand} (g:d.op= .slice 64 x U (gk e) U) {A:xv Addr} {n c:Nat} (i:a.eval x= .slice A n c) (k:Nat) (j:a.eval e=I J (k:Int)) (o:k<=c):
 (execOp a.eval d).run w1 W= .ok (.value (.slice A k c)) W:=by
 have b:=run_slice_h (P:=w1) W 64 A n c wD .i64 (k:Int) oO oO
 have l:A.map (λf=>f.add 0)=A:=by cases A with
  |none=>rfl
  |some f=>simp only[UM,Addr.add_zero']
 rw[Cv]at b;simp only[Result.andThen_ok,Int.toNat_natCast,sliced,Nat.zero_mul,Nat.sub_zero,l,ite_self]at b;have m:=run_sliceAt_slice (P:=w1) W 64 (.slice A n c) U (gk (I J (k:Int))) U wD;unfold execOp;simp only[g,i,j,UM,Option.map_none,Sem.run_bind,Sem.run_pure,Result.andThen_ok,m,b]
theorem Gj (L:Nat) (c:Bool) (k n:Nat) (H:Int) (A:xv Addr) (N m:Nat) (d:List Bool) (w:wR) (f:1<=L) (l:L<=32) (hc:c=wP->L<=4) (hn:n=aB L c) (f6:1<=k) (fr:k<aJ L c) (Z:N=n* n) (E:SR vB R w A N m d):
 wS w1 45 #[bX L c,cZ n H A N m,I J k] w (dU w (lp n L c k d)):=by
 have d8:=uC (c:=c) f l hc;have f7:=gF L;have bs:=oH L c f l;have gq:=oU (c:=c) l;have d9:=tB L c;have ea:=rD L c;have ec:=room_le (c:=c) l;have bt:n<=161:=by rw[hn];exact bs.2
 have bv:N<=4194304:=by rw[Z];exact Nat.le_trans (Nat.mul_le_mul bt bt) oD
 have da:eD 2 (2^aw L) (kK (aw L)) (aJ L c-k) 1:=D2 (mE L) oO oO;have ed:w2 (∀W,wS w1 33 #[bX L c] W (au (I J ((aw L:Nat):Int)) W)):=λW=>mK L c W l;have ef:w2 (∀W,wS w1 44 #[bX L c] W (au (I J ((aJ L c:Nat):Int)) W)):=λW=>pk L c W l;have eh:w2 (∀W,wS w1 46 #[bX L c] W λe o=>∃v,e= .returned v/\w2 (SP o v (cO L c))/\af W o):=λW=>(xW L c W l).mono λe o ⟨v,f,g,F⟩=>⟨v,f,g.1,F⟩
 have bx:w2 (∀W v,af w W->SP W v (cO L c)->wS w1 42 #[cZ n H A N m,v] W λe o=>∃db k,e= .returned (.slice (gk ⟨db,0,U⟩) k k)/\k=(cO L c).length/\w2 (SR vB R o (gk ⟨db,0,U⟩) k k (fq n d (cO L c)))/\af W o):=λW v s p=>
  (tJ n H A N m d _ v W oO bv (E.below s) p oO (λfn ds=>by
   have:=wX l ds;rw[<-hn]at this
   exact⟨by omega,by omega,by rw[Z];exact mz this.1 this.2⟩)).mono λe o ⟨db,k,f,g,F,dv⟩=>⟨db,k,f,g,F.sr (by rw[g];unfold fq;rw[HO]) oM,dv⟩
 have bz:w2 (∀W A a b,SR vB R W A a b ((fq n d (cO L c)).drop ((cO L c).length-aJ L c* aw L))->wS w1 60 #[.slice A a b,I J ((aw L:Nat):Int),.bool R] W (RT vN 0 W (rk n L c d,0))):=by
  show∀W A a b,_->_;intro W A a b hs;have ab:=hs.hn;have bf:(fq n d (cO L c)).length=(cO L c).length:=by unfold fq;rw[HO]
  rw[List.length_drop,bf]at ab;exact tT A a b (aw L) (aJ L c) _ W oO oO oO oO hs
 have b1:w2 (∀W,wS w1 61 #[I J ((aw L:Nat):Int),I J ((aJ L c-k:Nat):Int)] W (au (.tuple #[bZ 2 (2^aw L) (kK (aw L)) (aJ L c-k) 1,I J 0]) W)):=λW=>EG (aw L) (aJ L c-k) W (mE L) oO oO;have b2:w2 (∀W A a b,SR vN 0 W A a b (rk n L c d)->RD W A (zl (rk n L c d))->wS w1 66 #[bZ 2 (2^aw L) (kK (aw L)) (aJ L c-k) 1,.slice A a b,.slice U 0 0] W (gf (2^aw L) (kK (aw L)) (aJ L c-k) 1 (rk n L c d) W)):=by
  show∀W A a b,_->_->_;intro W A a b hs dx;have ab:=hs.hn;have bf:(rk n L c d).length=aJ L c:=ej _ _ _;exact xx 2 _ _ _ 1 _ a A b W da ab (mQ _ _ _) oO oO dx
 have ek:w2 (∀W A a b v,SR vN 0 W A a b v->wS w1 90 #[.slice A a b,I J ((aw L:Nat):Int)] W (RT vB R W (aC (zN v) (aw L)))):=by
  show∀W A a b v,_->_;intro W A a b v hs;exact Gp A a b (aw L) (zN v) W hs.zN oO oO
 have av:w2 (∀v,ei (2^aw L) (kK (aw L)) (aJ L c-k) 1 (rk n L c d) (gk v)->v.length=aJ L c):=by
  show∀v,_->_;intro v p;rw[(p.2 v rfl).ln];exact ej _ _ _
 have Y:w2 (∀v,ei (2^aw L) (kK (aw L)) (aJ L c-k) 1 (rk n L c d) (gk v)->lp n L c k d=pZ v (rk n L c d) k (aw L)):=by
  show∀v,_->_;intro v p;unfold lp;rw[kT p]
 have b3:w2 (ei (2^aw L) (kK (aw L)) (aJ L c-k) 1 (rk n L c d) U->lp n L c k d=([],0,17)):=by
  show _->_;intro p;unfold lp;rw[kT p]
 obtain⟨q,hq⟩:∃q,q=(cO L c).length-aJ L c* aw L:=⟨_,rfl⟩;obtain⟨t,b4⟩:∃t,t=aJ L c* aw L:=⟨_,rfl⟩;obtain⟨u,b5⟩:∃u,u=(cO L c).length:=⟨_,rfl⟩;obtain⟨P,dd⟩:∃P,P=aJ L c-k:=⟨_,rfl⟩;have f8:q+t=u:=oO;have gv:P+k=aJ L c:=oO;have gs:u<=20000:=oO;have f9:((aJ L c:Nat):Int)* ((aw L:Nat):Int)=(t:Int):=by rw[b4];simp
 rw[<-hq]at bz;rw[<-dd]at b1 b2 av Y b3;rw[<-b5]at bx;clear hq b4 b5 dd d9 ea ec da d8 bs f l hc hn Z E bv;generalize lp n L c k d=ac at*;generalize rk n L c d=fv at*;generalize fq n d (cO L c)=bi at*;generalize cO L c=gb at*;generalize el:2^aw L=S at*;generalize em:kK (aw L)=fo at*;clear el em;generalize aw L=z at*;generalize aJ L c=bo at*;have gc:(u:Int)-(t:Int)=(q:Int):=oO;have ge:(bo:Int)-(k:Int)=(P:Int):=oO;have gg:z<=12:=oO;have gi:k<=bo:=oO;have gt:t<=20000:=oO;have b6:q<=u:=oO;obtain⟨x,a0⟩:∃x,x=w.heap.size:=⟨_,rfl⟩;obtain⟨y,a1⟩:∃y,y=w.heap.size+1:=⟨_,rfl⟩;obtain⟨i,C⟩:∃i,i=(w.alloc (cN L c)).alloc (.cells (gh n H A N m) 28):=⟨_,rfl⟩;have j:w2 (af w i):=by show Below _ _ _;rw[C];exact ah (ax _ _) _
 have en:w2 (ag i x #[I J L,.bool c] 60):=by
  show ag _ _ _ _;rw[C];have f:ag (w.alloc (cN L c)) x #[I J L,.bool c] 60:=ag.new _ _ _ _ a0;exact f.below (ax _ _)
 have eq:w2 (ag i y (gh n H A N m) 28):=by show ag _ _ _ _;rw[C];exact ag.new _ _ _ _ (by simp[a1])
 have G:w2 (∀W,af i W->(W.cell? ⟨x,0,U⟩=gk (I J (L:Int))/\W.cell? ⟨x,1,U⟩=gk (.bool c))/\W.cell? ⟨y,0,U⟩=gk (I J (n:Int))/\W.cell? ⟨y,1,U⟩=gk (I J H)/\W.cell? ⟨y,2,U⟩=gk (.slice A N m)):=by
  show∀W,_;intro W s;have f:=en.out.below s;have g:=eq.out.below s;exact⟨⟨f.cell 0 _ rfl,f.cell 1 _ rfl⟩,g.cell 0 _ rfl,g.cell 1 _ rfl,g.cell 2 _ rfl⟩
 go_enter func45,ntmps45;go_wp2;simp only[<-a1,<-C];simp only[<-a0];clear C a1 a0;have a2:w2 (af i i.drew):=ai (w3 _ _);refine yO (af i) [1,3,0,2,4,0,5,6] a2.out ?_
 repeat refine zO G.out ?_
 refine zZ ?_;refine(ef.out _).mono ?_;rintro e fw ⟨rfl,b7⟩;have a3:=aa (ae a2.out b7);clear b7;refine⟨_,rfl,a3.out,jO ?_⟩;refine zZ ?_;refine(ed.out _).mono ?_;rintro e dy ⟨rfl,b9⟩;have a4:=aa (ae a3.out b9);clear b9;refine⟨_,rfl,a4.out,jO ?_⟩
 repeat refine zO G.out ?_
 refine aj ?_;go_wp2;have a5:w2 (af i dy.drew):=ai a4.out;refine yO (af i) [1,2,0,3,4,0,5] a5.out ?_
 repeat refine zO G.out ?_
 refine zZ ?_;refine(eh.out _).mono ?_;rintro e fx ⟨fz,rfl,ca,cb⟩;have Q:=aa (ae a5.out cb);clear cb;refine⟨_,rfl,Q.out,jO ?_⟩;refine zZ ?_;refine(bx.out _ _ (j.out.trans (Q.out.mono j.out.size)) ca.out).mono ?_;rintro e dz ⟨db,n4,rfl,er,ce,ch⟩;subst er;have ci:=aa (ae Q.out ch);clear ch ca;refine⟨_,rfl,ci.out,jO ?_⟩
 repeat refine zO G.out ?_
 refine aj ?_;obtain⟨ad,a6⟩:∃ad,ad=if n4=q then gk (⟨db,0,U⟩:Addr)else(gk (⟨db,0,U⟩:Addr)).map (λdE=>dE.add q):=⟨_,rfl⟩
 obtain⟨K,a7⟩:∃K,K=n4-q:=⟨_,rfl⟩;have es:w2 (SR vB R dz ad K K (bi.drop q)):=by show SR _ _ _ _ _ _ _;rw[a6,a7];exact ce.out.from q b6
 clear ce a2 a3 a4 Q a5
 go_wp2_with(first
  |((with_reducible show wpList _ _ _ (⟨gk 34,Op.slice 26 _ _ _ _,_,_,_,_⟩::_) _ _);refine k6 rfl (rX (l:=bi) rfl rfl rfl q rfl b6) ?_;rw[<-a6,<-a7];clear a6 a7)
  |(go_at_call 60;refine(bz.out _ _ _ _ es.out).mono ?_;rintro e fG ⟨f0,rfl,ck,co⟩;obtain⟨f1,f2,f3,rfl,-,cp,cq⟩:=ck.rd;have et:=aa cp;have ew:=aa cq;have ex:=aa (ae ci.out co);clear ck co cq cp)
  |(go_at_call 61;refine(b1.out _).mono ?_;rintro e f4 ⟨rfl,T⟩;have ey:=aa (ae ex.out T);have ez:=aa (et.out.below T);have eA:=aa (ew.out.below T);clear T)
  |(go_at_call 66;refine(b2.out _ _ _ _ (ez.out.below (ax _ _)) (eA.out.below (ax _ _))).mono ?_;rintro e M cr;obtain⟨cs,E⟩:=gf.nice cr;clear cr;have cv:=aa (ae (ah ey.out _) cs);clear cs;rcases E with⟨v,al,am,ap,O,B,cc,r,rfl,V,e0⟩|⟨r,rfl⟩)
  |((with_reducible show wpList _ _ _ (⟨gk 65,Op.slice 64 _ _ _ _,_,_,_,_⟩::_) _ _);refine k6 rfl (xA rfl rfl k rfl (by have f:=av.out v r.out;have g:=V.out.hn;have F:=V.out.hc;omega)) ?_)
  |(go_at_call 90;have e9:w2 (an (M.alloc (.cells #[.slice al am ap,.slice O B cc] 98)) M.heap.size [.slice al am ap,.slice O B cc]):=an.new M #[.slice al am ap,.slice O B cc] 98 _ rfl;refine(ek.out _ _ _ _ (v.take k) ((V.out.front (by have f:=av.out v r.out;have g:=V.out.hn;omega)).below (ax _ _))).mono ?_;rintro e d0 ⟨f5,rfl,cx,a8⟩;obtain⟨d1,d2,d3,rfl,cy⟩:=cx.parts;have c2:=aa cy;have c3:=aa (ae (ah cv.out _) a8);have fb:=aa (e9.out.below a8);clear cx a8 cy;have c4:w2 (¬(aC (zN (v.take k)) z).2=0->ac=([],0,(aC (zN (v.take k)) z).2)):=λh=>(Y.out v r.out).trans (EX h);have c5:w2 ((aC (zN (v.take k)) z).2=0->¬(cV (aC (zN (v.take k)) z).1).2=0->ac=([],0,(cV (aC (zN (v.take k)) z).1).2)):=λh g=>(Y.out v r.out).trans (EZ h g);have c6:w2 ((aC (zN (v.take k)) z).2=0->(cV (aC (zN (v.take k)) z).1).2=0->ac=((cV (aC (zN (v.take k)) z).1).1,(B:Int),0)):=(λh g=>by rw[e0.out];exact(Y.out v r.out).trans (EI h g));generalize aC (zN (v.take k)) z=d4 at*;obtain⟨bq,d5⟩:=d4;simp only at c4 c5 c6 c2⊢;by_cases D:d5=0)
  |(go_at_call 91;refine(I6 d1 d2 d3 bq d0 c2.out).mono ?_;rintro e X ⟨v10,rfl,de,a9⟩;obtain⟨gm,go,gp,rfl,di⟩:=de.parts;have dn:=aa di;have bb:=aa (ae c3.out a9);have fd:=aa (fb.out.below a9);clear de a9 di;have c7:=aa (c5.out D);have c8:=aa (c6.out D);generalize cV bq=d6 at*;obtain⟨dl,d7⟩:=d6;simp only at c7 c8 dn⊢;by_cases c9:d7=0))
 ·subst D c9;have bd:=aa (c8.out rfl);have fc:w2 (∀W,af X W->W.cell? ⟨M.heap.size,1,U⟩=gk (.slice O B cc)):=λW s=>(fd.out.below s).2 1 oS;have be:w2 (af X X.drew):=ai (w3 _ _);refine yO (af X) [1,2,3,4,5,6,7] be.out ?_
  repeat refine zO fc.out ?_
  refine aj ?_;go_wp2;go_ret3
  rw[bd.out];exact⟨_,_,_,rfl,dn.out.below be.out,j.out.trans (((bb.out).trans (be.out.mono bb.out.size)).mono j.out.size)⟩
 ·subst D;go_ret3
  exact dU.err (c7.out c9) (j.out.trans (bb.out.mono j.out.size))
 ·go_ret3
  exact dU.err (c4.out D) (j.out.trans (c3.out.mono j.out.size))
 ·have bd:=aa (b3.out r.out);go_ret3
  exact dU.err bd.out (j.out.trans ((ah cv.out _).mono j.out.size))
theorem JR (c:Bool) (b:List Bool) (A:xv Addr) (n z:Nat) (w:wR) (hb:SR vB R w A n z b):wS w1 26 #[.slice A n z,.bool c] w (Fh w (dg c b).1 (dg c b).2.1 (dg c b).2.2):=by
 have B:w2 (n=b.length):=hb.hn;have bz:=aa hb;have c6:n<=9223372036854775807:=by have:=hb.hm;have:=hb.hc;unfold maxLen at*;omega
 cases c with
 |true=>
  by_cases r:n=28
  ·subst r;clear hb;have F:aW b 4 (b.length/4)=aW b 4 7:=by rw[<-B.out]
   have u:=ej b 4 7;have X:=mQ b 4 7;have x:dg wP b=match(yp 16 19 5 1 (aW b 4 7)).map (λv=>(ba (bE v 4) 0 2+1,ba (bE v 4) 2 6+1))with|none=>(0,0,17)|some q=>((q.1:Int),(q.2:Int),0):=by
    unfold dg;rw[w6 (by rw[<-B.out];decide)];unfold nv;rw[F];rfl
   have G:eD 2 16 19 5 1:=Dm wP;have a1:w2 (∀W,wS w1 69 #[I J 4,I J 5] W (au (bZ 2 16 19 5 1) W)):=λW=>s9 5 W;have a2:w2 (∀W,af w W->wS w1 70 #[.slice A 28 z,I J 4] W (λe l=>∃v,e= .returned v/\SG vN 0 l v (aW b 4 7)/\af W l)):=λW ab=>rA A 28 z 4 7 b W oO oO oO oO (bz.out.below ab);have a3:w2 (∀W A i d,SR vN 0 W A i d (aW b 4 7)->RD W A (zl (aW b 4 7))->wS w1 68 #[bZ 2 16 19 5 1,.slice A i d,.slice U 0 0] W (gf 16 19 5 1 (aW b 4 7) W)):=by
    show∀W A i d,_->_->_;intro W A i d hs ac;have j:=hs.hn;have t:=j;rw[u]at t;exact r5 2 16 19 5 1 _ i A d W G j X oO oO ac
   have bs:w2 (∀v,ei 16 19 5 1 (aW b 4 7) (gk v)->ak 16 v/\v.length=7):=by
    show∀v,_->_;intro v o;have C:=o.2 v rfl;exact⟨C.lt,by rw[C.ln,u]⟩
   have bt:w2 (∀v,ei 16 19 5 1 (aW b 4 7) (gk v)->dg wP b=(((ba (bE v 4) 0 2+1:Nat):Int),((ba (bE v 4) 2 6+1:Nat):Int),0)):=by
    show∀v,_->_;intro v o;rw[x,kT o];rfl
   have a4:w2 (ei 16 19 5 1 (aW b 4 7) U->dg wP b=(0,0,17)):=by
    show _->_;intro o;rw[x,kT o];rfl
   have a5:w2 (∀W A i d v,ak 16 v->v.length=7->SR vN 0 W A i d v->wS w1 71 #[.slice A i d,I J 4] W (λe l=>∃D,e= .returned D/\SG vB R l D (bE v 4)/\af W l)):=by
    show∀W A i d v,_->_->_->_;intro W A i d v a6 m hs;have j:=hs.hn;exact zu A i d 4 v W oO oO oO a6 hs
   have a7:w2 (∀W f g d (v:List Nat),v.length=7->SR vB R W (gk f) g d (bE v 4)->28<=d/\∀k,wS w1 72 #[.slice (gk f) 2 d] (W.drewN k) (λe l=>e= .returned (I J ((ba (bE v 4) 0 2:Nat):Int))/\l=W.drewN k)):=by
    show∀W f g d v,_->_->_;intro W f g d v m hs;have j:=hs.hn;have t:=hs.hc;rw[dQ,m]at j;refine⟨by omega,λk=>?_⟩;rw[<-kB,List.drop_zero];exact mu (gk f) 2 d _ (W.drewN k) oO ((hs.below (cS (w3 _ _) _)).front (k:=2) oO)
   have a8:w2 (∀W f g d (v:List Nat),v.length=7->SR vB R W (gk f) g d (bE v 4)->∀k,wS w1 72 #[.slice (gk (f.add 2)) (8-2) (d-2)] (W.drewN k) (λe l=>e= .returned (I J ((ba (bE v 4) 2 6:Nat):Int))/\l=W.drewN k)):=by
    show∀W f g d v,_->_->_;intro W f g d v m hs k;have j:=hs.hn;have t:=hs.hc;rw[dQ,m]at j;rw[<-kB];exact mu (gk (f.add 2)) 6 (d-2) _ (W.drewN k) oO ((hs.below (cS (w3 _ _) _)).piece 2 6 (d-2) oO oO oO)
   have H:w2 (∀(v:List Nat) (a k:Nat),k<=11->ba (bE v 4) a k<2048):=by
    show∀(v:List Nat) (a k:Nat),_->_;intro v a k ad;exact x6 (eS _ _ _) (C3 (n:=2) oO ad)
   have a9:w2 (∀W A g d (v:List Nat),v.length=7->SR vB R W A g d (bE v 4)->∃f,A=gk f/\g=28):=by
    show∀W A g d v,_->_->_;intro W A g d v m hs;have j:=hs.hn;rw[dQ,m]at j;obtain⟨f,h,-,-⟩:=hs.rd (by rw[dQ,m];decide);exact⟨f,h,j⟩
   clear x u X G F;generalize dg wP b=al at*;generalize aW b 4 7=b3 at*;go_enter func26,Xb
   go_wp2_with(first
    |(go_at_call 69;refine(a1.out _).mono ?_;rintro e am ⟨rfl,K⟩;have L:w2 (af w am):=K;clear K)
    |(go_at_call 70;refine(a2.out _ L.out).mono ?_;rintro e b4 ⟨b5,rfl,M,N⟩;obtain⟨b6,n2,b7,rfl,-,bb,O⟩:=M.rd;have bd:=aa bb;have be:=aa O;have bf:=aa (ae L.out N);clear M N O)
    |(go_at_call 68;refine(a3.out _ _ _ _ bd.out be.out).mono ?_;rintro e b9 P;obtain⟨Q,ap⟩:=gf.nice P;clear P;have S:=aa (ae bf.out Q);clear Q;rcases ap with⟨v,ca,cb,ce,ch,ci,cc,s,rfl,bi,cq⟩|⟨s,rfl⟩)
     |(go_at_call 71;have p:=aa (bs.out v s.out);have bx:=aa (bt.out v s.out);refine(a5.out _ _ _ _ v p.out.1 p.out.2 (bi.out.below (ax _ _))).mono ?_;rintro e E ⟨v6,rfl,T,V⟩;obtain⟨ck,co,cp,rfl,bo⟩:=T.parts;have y:=aa bo;have b2:=aa (ae (ah S.out _) V);clear T V;have cr:=H.out v 0 2 oO;have cs:=H.out v 2 6 oO;obtain⟨f,rfl,rfl⟩:=a9.out _ _ _ _ v p.out.2 y.out;have a0:=aa (a7.out E _ _ _ v p.out.2 y.out);have b1:=aa (a8.out E _ _ _ v p.out.2 y.out);generalize ba (bE v 4) 0 2=Y at*;generalize ba (bE v 4) 2 6=Z at*))
   ·exact Rx
   ·have bq:=aa (a4.out s.out);go_ret3
    rw[bq.out];exact⟨rfl,ah S.out _⟩
  ·have r:¬n=gI wP+jw wP+fS wP* 4:=r;have av:w2 (dg wP b=(0,0,7)):=by show _=_;unfold dg;rw[if_pos (by rw[<-B.out];exact r)]
   generalize dg wP b=al at*;have cv:((n:Int)!=28)=wP:=by simp;exactλh=>r (by show n=28;omega)
   clear hb;go_enter func26,Xb;go_wp2;go_ret3
   rw[av.out];exact⟨rfl,w3 _ _⟩
 |false=>
  by_cases r:n=40
  ·subst r;clear hb;have F:aW b 4 (b.length/4)=aW b 4 10:=by rw[<-B.out]
   have u:=ej b 4 10;have X:=mQ b 4 10;have x:dg R b=match(yp 16 19 6 1 (aW b 4 10)).map (λv=>(ba (bE v 4) 0 5+1,ba (bE v 4) 5 11+1))with|none=>(0,0,17)|some q=>((q.1:Int),(q.2:Int),0):=by
    unfold dg;rw[w6 (by rw[<-B.out];decide)];unfold nv;rw[F];rfl
   have G:eD 2 16 19 6 1:=Dm R;have a1:w2 (∀W,wS w1 69 #[I J 4,I J 6] W (au (bZ 2 16 19 6 1) W)):=λW=>s9 6 W;have a2:w2 (∀W,af w W->wS w1 70 #[.slice A 40 z,I J 4] W (λe l=>∃v,e= .returned v/\SG vN 0 l v (aW b 4 10)/\af W l)):=λW ab=>rA A 40 z 4 10 b W oO oO oO oO (bz.out.below ab);have a3:w2 (∀W A i d,SR vN 0 W A i d (aW b 4 10)->RD W A (zl (aW b 4 10))->wS w1 68 #[bZ 2 16 19 6 1,.slice A i d,.slice U 0 0] W (gf 16 19 6 1 (aW b 4 10) W)):=by
    show∀W A i d,_->_->_;intro W A i d hs ac;have j:=hs.hn;have t:=j;rw[u]at t;exact r5 2 16 19 6 1 _ i A d W G j X oO oO ac
   have bs:w2 (∀v,ei 16 19 6 1 (aW b 4 10) (gk v)->ak 16 v/\v.length=10):=by
    show∀v,_->_;intro v o;have C:=o.2 v rfl;exact⟨C.lt,by rw[C.ln,u]⟩
   have bt:w2 (∀v,ei 16 19 6 1 (aW b 4 10) (gk v)->dg R b=(((ba (bE v 4) 0 5+1:Nat):Int),((ba (bE v 4) 5 11+1:Nat):Int),0)):=by
    show∀v,_->_;intro v o;rw[x,kT o];rfl
   have a4:w2 (ei 16 19 6 1 (aW b 4 10) U->dg R b=(0,0,17)):=by
    show _->_;intro o;rw[x,kT o];rfl
   have a5:w2 (∀W A i d v,ak 16 v->v.length=10->SR vN 0 W A i d v->wS w1 71 #[.slice A i d,I J 4] W (λe l=>∃D,e= .returned D/\SG vB R l D (bE v 4)/\af W l)):=by
    show∀W A i d v,_->_->_->_;intro W A i d v a6 m hs;have j:=hs.hn;exact zu A i d 4 v W oO oO oO a6 hs
   have a7:w2 (∀W f g d (v:List Nat),v.length=10->SR vB R W (gk f) g d (bE v 4)->40<=d/\∀k,wS w1 72 #[.slice (gk f) 5 d] (W.drewN k) (λe l=>e= .returned (I J ((ba (bE v 4) 0 5:Nat):Int))/\l=W.drewN k)):=by
    show∀W f g d v,_->_->_;intro W f g d v m hs;have j:=hs.hn;have t:=hs.hc;rw[dQ,m]at j;refine⟨by omega,λk=>?_⟩;rw[<-kB,List.drop_zero];exact mu (gk f) 5 d _ (W.drewN k) oO ((hs.below (cS (w3 _ _) _)).front (k:=5) oO)
   have a8:w2 (∀W f g d (v:List Nat),v.length=10->SR vB R W (gk f) g d (bE v 4)->∀k,wS w1 72 #[.slice (gk (f.add 5)) (16-5) (d-5)] (W.drewN k) (λe l=>e= .returned (I J ((ba (bE v 4) 5 11:Nat):Int))/\l=W.drewN k)):=by
    show∀W f g d v,_->_->_;intro W f g d v m hs k;have j:=hs.hn;have t:=hs.hc;rw[dQ,m]at j;rw[<-kB];exact mu (gk (f.add 5)) 11 (d-5) _ (W.drewN k) oO ((hs.below (cS (w3 _ _) _)).piece 5 11 (d-5) oO oO oO)
   have H:w2 (∀(v:List Nat) (a k:Nat),k<=11->ba (bE v 4) a k<2048):=by
    show∀(v:List Nat) (a k:Nat),_->_;intro v a k ad;exact x6 (eS _ _ _) (C3 (n:=2) oO ad)
   have a9:w2 (∀W A g d (v:List Nat),v.length=10->SR vB R W A g d (bE v 4)->∃f,A=gk f/\g=40):=by
    show∀W A g d v,_->_->_;intro W A g d v m hs;have j:=hs.hn;rw[dQ,m]at j;obtain⟨f,h,-,-⟩:=hs.rd (by rw[dQ,m];decide);exact⟨f,h,j⟩
   clear x u X G F;generalize dg R b=al at*;generalize aW b 4 10=b3 at*;go_enter func26,Xb
   go_wp2_with(first
    |(go_at_call 69;refine(a1.out _).mono ?_;rintro e am ⟨rfl,K⟩;have L:w2 (af w am):=K;clear K)
    |(go_at_call 70;refine(a2.out _ L.out).mono ?_;rintro e b4 ⟨b5,rfl,M,N⟩;obtain⟨b6,n2,b7,rfl,-,bb,O⟩:=M.rd;have bd:=aa bb;have be:=aa O;have bf:=aa (ae L.out N);clear M N O)
    |(go_at_call 68;refine(a3.out _ _ _ _ bd.out be.out).mono ?_;rintro e b9 P;obtain⟨Q,ap⟩:=gf.nice P;clear P;have S:=aa (ae bf.out Q);clear Q;rcases ap with⟨v,ca,cb,ce,ch,ci,cc,s,rfl,bi,cq⟩|⟨s,rfl⟩)
     |(go_at_call 71;have p:=aa (bs.out v s.out);have bx:=aa (bt.out v s.out);refine(a5.out _ _ _ _ v p.out.1 p.out.2 (bi.out.below (ax _ _))).mono ?_;rintro e E ⟨v6,rfl,T,V⟩;obtain⟨ck,co,cp,rfl,bo⟩:=T.parts;have y:=aa bo;have b2:=aa (ae (ah S.out _) V);clear T V;have cr:=H.out v 0 5 oO;have cs:=H.out v 5 11 oO;obtain⟨f,rfl,rfl⟩:=a9.out _ _ _ _ v p.out.2 y.out;have a0:=aa (a7.out E _ _ _ v p.out.2 y.out);have b1:=aa (a8.out E _ _ _ v p.out.2 y.out);generalize ba (bE v 4) 0 5=Y at*;generalize ba (bE v 4) 5 11=Z at*))
   ·exact Rx
   ·have bq:=aa (a4.out s.out);go_ret3
    rw[bq.out];exact⟨rfl,ah S.out _⟩
  ·have r:¬n=gI R+jw R+fS R* 4:=r;have av:w2 (dg R b=(0,0,7)):=by show _=_;unfold dg;rw[if_pos (by rw[<-B.out];exact r)]
   generalize dg R b=al at*;have cv:((n:Int)!=40)=wP:=by simp;exactλh=>r (by show n=40;omega)
   clear hb;rcases Bool.eq_false_or_eq_true ((n:Int)!=28)with cx|cx
   all_goals go_enter func26,Xb
   all_goals go_wp2
   all_goals go_ret3
   all_goals rw[av.out]
   all_goals exact⟨rfl,w3 _ _⟩
end
end Go.Proofs.YtmnlkganmgcpbaaGreatDoor
