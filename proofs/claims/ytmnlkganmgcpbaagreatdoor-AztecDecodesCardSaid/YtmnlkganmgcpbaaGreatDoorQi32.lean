import Derived.Test.YtmnlkganmgcpbaaGreatDoorQi28
set_option maxRecDepth 100000
set_option maxHeartbeats 4000000
set_option linter.unusedVariables false
set_option linter.unusedSectionVars false
set_option linter.unusedSimpArgs false
set_option linter.defProp false
open Go.Value renaming int->I
open Go.IntKind renaming i64->J
open Bool renaming false->R,true->wP
open Option renaming none->U,some->gk,getD_some->HL
open Go renaming World->wR,Calls->wS,bodyPost_ret->y4
open Go.Proofs.Tryz renaming prog->w1,results12->Vm,ntmps12->VG,func12->V9
open Go.RowKit renaming Hid->w2,Below->y5
open _root_ renaming beq_eq_false_iff_ne->w4,if_neg->w6,if_pos->xl,Option->xv,UInt8->HH
open List renaming getElem?_eq_getElem->yv,getElem_mem->C4,take_length->S3
open Go.Proofs.Tryz
namespace Go.Proofs.YtmnlkganmgcpbaaGreatDoor
section
open Go.RowKit
def Jv (w:wR) (v:Value) (b:List Bool) (d:xv (Nat×Bool)):Prop:=match d with
 |none=>v= .agg cg
 |some a=>∃A N c,N=aB a.1 a.2* aB a.1 a.2/\v= .agg #[I J (a.1:Int),.bool a.2,I J ((bm b (aw a.1)).length:Int),I J ((aB a.1 a.2:Nat):Int),I J ((aB a.1 a.2:Nat):Int),.slice A N c]/\SR vB R w A N c (ny a.1 a.2 (bm b (aw a.1)))
def pK (w:wR) (c:List HH) (a:xv (Nat×Bool)×Int) (e:Ending) (b:wR):Prop:=∃v,e= .returned (.tuple #[v,I J a.2])/\Jv b v (dS c) a.1/\af w b
def I4 (a:Nat×Bool):Prop:=1<=a.1/\a.1<=32/\(a.2=wP->a.1<=4)
theorem QB (c:Bool):∀e∈tA c,I4 e:=by
 intro e a;unfold tA at a;rw[List.mem_append]at a;rcases a with a|a
 ·obtain⟨b,d,rfl⟩:=List.mem_map.1 a;rw[List.mem_range]at d;exact⟨by show 1<=b+1;omega,by show b+1<=32;omega,λ_=>by show b+1<=4;omega⟩
 ·cases c with
  |true=>rw[xl rfl]at a;cases a
  |false=>
   rw[w6 oD]at a;obtain⟨b,d,rfl⟩:=List.mem_map.1 a;rw[List.mem_range]at d;exact⟨by show 1<=b+4;omega,by show b+4<=32;omega,λh=>by cases h⟩
theorem Og (c:Bool):(tA c).length<=33:=by cases c<;>decide
theorem xQ {a:List Bool} (h:a.length<=1048576) (L:Nat):jk a ((aw L:Nat):Int)=(bm a (aw L),0):=by
 have b:=gF L;unfold jk;rw[w6 oO,w6 oO];rfl
theorem Cr {g:Type} (f:g->Bool) (a:List g) (d:g) (b:Nat) (i:b<a.length) (h:(a.take b).find? f=U):(f (a.getD b d)=wP->a.find? f=gk (a.getD b d))/\(f (a.getD b d)=R->(a.take (b+1)).find? f=U):=by
 have e:a=a.take b++a.drop b:=(List.take_append_drop b a).symm;have e2:a.drop b=a.getD b d::a.drop (b+1):=by
  rw[List.drop_eq_getElem_cons i];simp[List.getD,i]
 constructor
 ·intro c;rw[e,List.find?_append,h,e2];have e3:(a.take b++a.getD b d::a.drop (b+1)).getD b d=a.getD b d:=by rw[<-e2,<-e]
  rw[e3,List.find?_cons,c];rfl
 ·intro c;rw[List.take_add_one,List.find?_append,h];simp only[List.getD]at c;rw[yv i]at c⊢;simp only[HL]at c;simp[c]
theorem LC (A:xv Addr) (n j:Nat) (i:List HH) (b:Int) (c:Bool) (d:Int) (w:wR) (m:4096<n) (v:n<=9223372036854775807):
 wS w1 12 #[.slice A n j,.agg #[I J b,.bool c,I J d]] w (pK w i (U,4)):=by
 obtain⟨a,e⟩:∃a,a=(w.alloc (.cells #[I J b,.bool c,I J d] 24)).alloc (.cells cg 30):=⟨_,rfl⟩;have p:=aa e;have q:w2 (af w a):=by show y5 _ _ _;rw[e];exact ah (ax _ _) _
 have g:w2 (ag a w.heap.size #[I J b,.bool c,I J d] 24):=by
  show ag _ _ _ _;rw[e];have k:ag (w.alloc (.cells #[I J b,.bool c,I J d] 24)) w.heap.size #[I J b,.bool c,I J d] 24:=ag.new _ _ _ _ rfl;exact k.below (ax _ _)
 have l:w2 (ag a (w.heap.size+1) cg 30):=by show ag _ _ _ _;rw[e];exact ag.new _ _ _ _ oS
 have r:w2 (w.heap.size<=w.heap.size+1/\w.heap.size+1<a.heap.size/\w.heap.size<=a.heap.size/\a.heap.size=w.heap.size+2):=by show _/\_;rw[e];simp;omega
 have s:w2 (∀W,af a W->W.cell? ⟨w.heap.size,0,U⟩=gk (I J b)/\W.cell? ⟨w.heap.size,1,U⟩=gk (.bool c)/\W.cell? ⟨w.heap.size,2,U⟩=gk (I J d)):=λW f=>⟨(g.out.below f).cell 0 _ rfl,(g.out.below f).cell 1 _ rfl,(g.out.below f).cell 2 _ rfl⟩;have t:w2 (∀W,af a W->ag W (w.heap.size+1) cg 30):=λW f=>l.out.below f;have u:w2 (∀W,y5 ((((w.alloc (.cells #[I J b,.bool c,I J d] 24)).alloc (.cells cg 30)).alloc (cN b c))).heap.size ((((w.alloc (.cells #[I J b,.bool c,I J d] 24)).alloc (.cells cg 30)).alloc (cN b c))) W->af a W):=by show∀W,_->_;rw[<-e];exactλW h=>dT h
 clear e;have o:(4096:Int)<(n:Int):=oO;go_enter V9,VG;go_wp2;refine y4 (v:= .tuple #[.agg cg,I J 4]) (by simp[results,Vm,go_sem]) rfl ⟨.agg cg,rfl,rfl,?_⟩;exact ah (ax _ _) _
theorem MW (A:xv Addr) (b:Nat) (a:List HH) (c:Int) (d:Bool) (e:Int) (w:wR):
 wS w1 12 #[.slice A 0 b,.agg #[I J c,.bool d,I J e]] w (pK w a (U,5)):=by
 go_enter V9,VG;go_wp2;refine y4 (v:= .tuple #[.agg cg,I J 5]) (by simp[results,Vm,go_sem]) rfl ⟨.agg cg,rfl,rfl,?_⟩;exact ah (ax _ _) _
theorem Kt (A:xv Addr) (n v:Nat) (u:List HH) (a:Int) (d:Bool) (i:Int) (w:wR) (Q:n<=4096) (S:1<=n) (T:¬a=0) (r:eH a d=R) (Z:n<=9223372036854775807):
 wS w1 12 #[.slice A n v,.agg #[I J a,.bool d,I J i]] w (pK w u (U,14)):=by
 obtain⟨f,j⟩:∃f,f=(w.alloc (.cells #[I J a,.bool d,I J i] 24)).alloc (.cells cg 30):=⟨_,rfl⟩;have L:=aa j;have M:w2 (af w f):=by show y5 _ _ _;rw[j];exact ah (ax _ _) _
 have q:w2 (ag f w.heap.size #[I J a,.bool d,I J i] 24):=by
  show ag _ _ _ _;rw[j];have x:ag (w.alloc (.cells #[I J a,.bool d,I J i] 24)) w.heap.size #[I J a,.bool d,I J i] 24:=ag.new _ _ _ _ rfl;exact x.below (ax _ _)
 have N:w2 (ag f (w.heap.size+1) cg 30):=by show ag _ _ _ _;rw[j];exact ag.new _ _ _ _ oS
 have k:w2 (w.heap.size<=w.heap.size+1/\w.heap.size+1<f.heap.size/\w.heap.size<=f.heap.size/\f.heap.size=w.heap.size+2):=by show _/\_;rw[j];simp;omega
 have s:w2 (∀W,af f W->W.cell? ⟨w.heap.size,0,U⟩=gk (I J a)/\W.cell? ⟨w.heap.size,1,U⟩=gk (.bool d)/\W.cell? ⟨w.heap.size,2,U⟩=gk (I J i)):=λW l=>⟨(q.out.below l).cell 0 _ rfl,(q.out.below l).cell 1 _ rfl,(q.out.below l).cell 2 _ rfl⟩;have g:w2 (∀W,af f W->ag W (w.heap.size+1) cg 30):=λW l=>N.out.below l;have O:w2 (∀W,y5 ((((w.alloc (.cells #[I J a,.bool d,I J i] 24)).alloc (.cells cg 30)).alloc (cN a d))).heap.size ((((w.alloc (.cells #[I J a,.bool d,I J i] 24)).alloc (.cells cg 30)).alloc (cN a d))) W->af f W):=by show∀W,_->_;rw[<-j];exactλW h=>dT h
 clear j;obtain⟨m,o,p⟩:=s.out f (Below.refl _ _);rw[L.out]at m o p;have V:¬(4096:Int)<(n:Int):=oO;have X:((n:Int)==0)=R:=by rw[w4];omega
 have Y:¬n=0:=oO;have P:w2 (∀W,wS w1 29 #[bX a d] W (au (.bool R) W)):=λW=>by rw[<-r];exact iR a d W
 clear r;go_enter V9,VG;go_wp2_with(go_at_call 29;refine(P.out _).mono ?_;rintro e b ⟨rfl,t⟩;have c:w2 (af f b):=O.out _ t;clear t m o p;obtain⟨m,o,p⟩:=s.out b c.out;have c0:=eu (g.out b c.out);have c1:=ia (g.out b c.out);have y:=kt (g.out b c.out);have z:=mP (g.out b c.out);have B:=nV (g.out b c.out);have C:=Iz (g.out b c.out);have D:=bN 0 ((g.out b c.out));have E:=bN 1 ((g.out b c.out));have F:=bN 2 ((g.out b c.out));have G:=bN 3 ((g.out b c.out));have H:=bN 4 ((g.out b c.out));have K:=bN 5 (((g.out b c.out))))
 refine y4 (v:= .tuple #[.agg cg,I J 14]) (by simp[results,Vm,go_sem,c0,c1,y,z,B,C,D,E,F,G,H,K]) rfl ⟨.agg cg,rfl,rfl,?_⟩;exact((((((M.out.trans (c.out.mono k.out.2.2.1)).setCell k.out.1 _).setCell k.out.1 _).setCell k.out.1 _).setCell k.out.1 _).setCell k.out.1 _).setCell k.out.1 _
theorem Ji (A:xv Addr) (n s:Nat) (m:List HH) (a:Int) (b:Bool) (f:Int) (w:wR) (M:n<=4096) (N:1<=n) (O:¬a=0) (r:eH a b=wP) (P:f<5) (Y:n<=9223372036854775807):
 wS w1 12 #[.slice A n s,.agg #[I J a,.bool b,I J f]] w (pK w m (U,3)):=by
 obtain⟨c,j⟩:∃c,c=(w.alloc (.cells #[I J a,.bool b,I J f] 24)).alloc (.cells cg 30):=⟨_,rfl⟩;exact Tz
theorem Kb (A:xv Addr) (n s:Nat) (m:List HH) (a:Int) (b:Bool) (f:Int) (w:wR) (M:n<=4096) (N:1<=n) (O:¬a=0) (r:eH a b=wP) (P:¬f<5) (ad:90<f) (Y:n<=9223372036854775807):
 wS w1 12 #[.slice A n s,.agg #[I J a,.bool b,I J f]] w (pK w m (U,3)):=by
 obtain⟨c,j⟩:∃c,c=(w.alloc (.cells #[I J a,.bool b,I J f] 24)).alloc (.cells cg 30):=⟨_,rfl⟩;exact Tz
theorem Kc (A:xv Addr) (n g:Nat) (f:List HH) (c:Bool) (b:Int) (w:wR) (p:n<=4096) (q:1<=n) (r:b<5) (v:n<=9223372036854775807):
 wS w1 12 #[.slice A n g,.agg #[I J 0,.bool c,I J b]] w (pK w f (U,3)):=by
 obtain⟨a,d⟩:∃a,a=(w.alloc (.cells #[I J 0,.bool c,I J b] 24)).alloc (.cells cg 30):=⟨_,rfl⟩;exact SH
theorem JO (A:xv Addr) (n g:Nat) (f:List HH) (c:Bool) (b:Int) (w:wR) (p:n<=4096) (q:1<=n) (r:¬b<5) (B:90<b) (v:n<=9223372036854775807):
 wS w1 12 #[.slice A n g,.agg #[I J 0,.bool c,I J b]] w (pK w f (U,3)):=by
 obtain⟨a,d⟩:∃a,a=(w.alloc (.cells #[I J 0,.bool c,I J b] 24)).alloc (.cells cg 30):=⟨_,rfl⟩;exact SH
theorem Pf {a:List HH} {b:Nat->Nat->Nat} (hl:a.length<=2078) (f:1<=a.length) (h:dK (bA a) b):1<=(dS a).length:=by
 have hs:(bA a).size<=4096:=by rw[iD];omega
 rw[ss oO h,yo hs h];obtain⟨e,-,c,d,-⟩:=h.Py hs 0 0 (by rw[iD];omega) oO;have:=c.size_pos;rw[<-d];unfold aF.cu;omega
theorem Bv {a:List Bool} {b L:Nat} {c:Bool} (h:l6 a b (L,c)=wP) (d:1<=L) (e:L<=32) (f:1<=(bm a (aw L)).length):(bm a (aw L)).length<=kA c/\(bm a (aw L)).length<aJ L c:=by
 unfold l6 yg at h;simp only[Bool.and_eq_true,decide_eq_true_eq]at h;refine⟨h.1,?_⟩;have g:1<=aw L:=by rcases gF L with h|h|h|h<;>omega
 apply Classical.byContradiction;intro hn;have:aw L* aJ L c<=aw L* (bm a (aw L)).length:=Nat.mul_le_mul_left _ oO;omega
theorem Gc (A:xv Addr) (n ac:Nat) (g:List HH) (d:Bool) (b:Nat) (w:wR) (hs:SR vU 0 w A n ac g) (n1:1<=n) (n2:n<=60) (p1:5<=b) (p2:b<=90):
 wS w1 12 #[.slice A n ac,.agg #[I J 0,.bool d,I J (b:Int)]] w λe u=>(∃F,dK (bA g) F)/\∀cK,(∀r,iX (dS g) b 0 d=gk r->cK=(gk r,0))->(iX (dS g) b 0 d=U->cK=(U,16))->pK w g cK e u:=by
 obtain⟨l,E⟩:∃l,l=(((w.alloc (.cells #[I J 0,.bool d,I J (b:Int)] 24)).alloc (.cells cg 30)).alloc (cN 0 d)):=⟨_,rfl⟩;have b6:w2 (af w l):=by show y5 _ _ _;rw[E];exact ah (ah (ax _ _) _) _
 have d9:w2 (ag l w.heap.size #[I J 0,.bool d,I J (b:Int)] 24):=by
  show ag _ _ _ _;rw[E];have o:ag (w.alloc (.cells #[I J 0,.bool d,I J (b:Int)] 24)) w.heap.size #[I J 0,.bool d,I J (b:Int)] 24:=ag.new _ _ _ _ rfl;exact(o.below (ax _ _)).below (ax _ _)
 have ea:w2 (ag l (w.heap.size+1) cg 30):=by
  show ag _ _ _ _;rw[E];have o:ag ((w.alloc (.cells #[I J 0,.bool d,I J (b:Int)] 24)).alloc (.cells cg 30)) (w.heap.size+1) cg 30:=ag.new _ _ _ _ oS;exact o.below (ax _ _)
 have ec:w2 (ag l (w.heap.size+1+1) #[I J 0,.bool d] 60):=by show ag _ _ _ _;rw[E];exact ag.new _ _ _ _ oS
 have G:w2 (w.heap.size<=w.heap.size+1/\w.heap.size+1<l.heap.size/\w.heap.size<=l.heap.size):=by show _/\_;rw[E];simp;omega
 have X:w2 (∀W,af l W->(W.cell? ⟨w.heap.size,0,U⟩=gk (I J 0)/\W.cell? ⟨w.heap.size,1,U⟩=gk (.bool d)/\W.cell? ⟨w.heap.size,2,U⟩=gk (I J (b:Int)))/\W.cell? ⟨w.heap.size+1+1,0,U⟩=gk (I J 0)/\W.cell? ⟨w.heap.size+1+1,1,U⟩=gk (.bool d)):=by
  show∀W,_;intro W M;have o:=d9.out.below M;have T:=ec.out.below M;exact⟨⟨o.cell 0 _ rfl,o.cell 1 _ rfl,o.cell 2 _ rfl⟩,T.cell 0 _ rfl,T.cell 1 _ rfl⟩
 have p:w2 (∀W,af l W->ag W (w.heap.size+1) cg 30):=λW M=>ea.out.below M;have ed:w2 (∀W,y5 (((w.alloc (.cells #[I J 0,.bool d,I J (b:Int)] 24)).alloc (.cells cg 30)).alloc (cN 0 d)).heap.size (((w.alloc (.cells #[I J 0,.bool d,I J (b:Int)] 24)).alloc (.cells cg 30)).alloc (cN 0 d)) W->af l W):=by show∀W,_->_;rw[<-E];exactλW h=>h
 have c4:=aa E;have f8:w2 (n=g.length):=hs.hn;have ef:w2 (∀W,af w W->wS w1 30 #[.slice A n ac] W λe u=>(∃F,dK (bA g) F)/\RT vB R W (dS g,0) e u):=by
  show∀W,_->_;intro W M;refine(zS A n ac g W (hs.below M) oO).mono ?_;rintro e u ⟨F,D,dE⟩;refine⟨⟨F,D⟩,?_⟩;rw[ss (by rw[<-hs.hn];omega) D];exact dE
 have eh:w2 ((∃F,dK (bA g) F)->(dS g).length<=501/\1<=(dS g).length/\∀L,ak (2^aw L) (bm (dS g) (aw L))/\(bm (dS g) (aw L)).length<=501/\1<=(bm (dS g) (aw L)).length):=by
  exact Sv
 have f9:¬(4096:Int)<(n:Int):=oO;have gb:((n:Int)==0)=R:=by rw[w4];omega
 have gc:¬n=0:=oO;have ge:¬(b:Int)<5:=oO;have gg:¬(90:Int)<(b:Int):=oO;have gi:decide (b<5)=R:=by simp;omega
 have gm:decide (90<b)=R:=by simp;omega
 have g7:n<=4096:=oO;obtain⟨i,Z⟩:∃i,i=tA d:=⟨_,rfl⟩;have b7:w2 (∀a,iX a b 0 d=i.find? (l6 a b)):=by show∀a,_;intro a;unfold iX I5;rw[Z];rfl
 have ek:w2 (∀r∈i,I4 r):=by
  show∀r∈_,_;rw[Z];exact QB d
 have fG:w2 (i.length<=33):=by show _<=_;rw[Z];exact Og d
 have b9:=aa Z;obtain⟨⟨x,y,B⟩,C,s⟩:=X.out l (Below.refl _ _);rw[c4.out]at x y B C s;have go:=aa hs;clear hs Z n1 E;have gY:w2 (af w (((w.alloc (.cells #[I J 0,.bool d,I J (b:Int)] 24)).alloc (.cells cg 30)).alloc (cN 0 d))):=by show y5 _ _ _;rw[<-c4.out];exact b6.out
 have g0:w2 (∀W,wS w1 31 #[.bool d] W λe u=>∃cr ab fb,e= .returned (.slice cr ab fb)/\w2 (i.length=ab)/\w2 (B6 u cr i)/\af W u):=λW=>by
  refine(GH d W).mono ?_;rintro e u ⟨v,rfl,⟨fc,q,rfl,-,-,h⟩,hb⟩;rw[<-b9.out]at h;exact⟨fc,i.length,q,by rw[b9.out],rfl,h,hb⟩
 go_enter V9,VG
 go_wp2_with(first
  |(go_at_call 30;refine(ef.out _ gY.out).mono ?_;rintro e a2 ⟨D,gp,rfl,ca,Y⟩;obtain⟨gq,ad,gs,rfl,el⟩:=ca.parts;have HC:=aa (eh.out D);have d7:=aa D;have em:=aa el;have a8:w2 (af l a2):=ed.out _ Y;clear D ca Y x y B C s;obtain⟨⟨x,y,B⟩,C,s⟩:=X.out _ a8.out;obtain⟨⟨k0,d0,d1⟩,-,-⟩:=X.out _ (ah a8.out (.cells #[I J 0,.bool d] 60)))
  |(go_at_call 31;refine(g0.out _).mono ?_;rintro e d2 ⟨cr,ab,fb,rfl,bt,en,bi⟩;have c2:=aa (ae (ah a8.out _) bi);have a5:=aa (em.out.below (ae (ax _ _) bi));clear bi x y B C s k0 d0 d1))
 have io:ab<=33:=by have:=fG.out;rw[bt.out]at this;exact this
 have cb:w2 (∀a,(i.take 0).find? (l6 a b)=U):=λa=>rfl;obtain⟨cq,eq,ce⟩:=HC.out;have ch:=aa ce;have am:w2 (ad=(dS g).length):=a5.out.hn;have gt:ad<=501:=by rw[am.out];exact cq
 clear ce eq cq;obtain⟨a,bq⟩:∃a,w2 (dS g=a):=⟨_,rfl⟩;rw[bq.out]at a5 am ch;go_loopw [64] (λa3 wr=>∃f:Nat,f<=ab/\a3=I J f/\w2 ((i.take f).find? (l6 a b)=U)/\w2 (af d2 wr)) (λa3 _=>ab-(intOf a3).toNat)
 case atStart=>exact⟨0,Nat.zero_le _,rfl,cb.out a,Below.refl _ _⟩
 case round=>
  clear cb;obtain⟨f,e9,rfl,ci,hB⟩:=hrel;by_cases c3:f<ab
  ·have ap:f<i.length:=by rw[bt.out];exact c3
   obtain⟨O,P,rfl,ck,co⟩:=en.out oO;have a9:=co f ap;have cp:i.getD f (0,R)∈i:=by
    simp only[List.getD,yv ap,HL];exact C4 ap
   have er:=ek.out _ cp;have cy:=aa (Cr (l6 a b) i (0,R) f ap ci.out);have e1:wr.cell? ⟨O,P+f* 2,U⟩=gk (I J ((i.getD f (0,R)).1:Int)):=(hB.out.cell (p:=⟨O,P+f* 2,U⟩) ck).trans a9.1;have e2:wr.cell? ⟨O,P+f* 2+1,U⟩=gk (.bool (i.getD f (0,R)).2):=(hB.out.cell (p:=⟨O,P+f* 2+1,U⟩) ck).trans a9.2;generalize i.getD f (0,R)=r at*;obtain⟨L,c⟩:=r;obtain⟨V,K,bz⟩:=er;have V:1<=L:=V;have K:L<=32:=K;have e1:wr.cell? ⟨O,P+f* 2,U⟩=gk (I J (L:Int)):=e1;have e2:wr.cell? ⟨O,P+f* 2+1,U⟩=gk (.bool c):=e2;have es:w2 (c=wP->L<=4):=bz;clear bz a9 co cp;have cv:=fI wr L c;have t:=aa (ae c2.out hB.out);have d5:w2 (∀W,wS w1 33 #[bX L c] W (au (I J ((aw L:Nat):Int)) W)):=λW=>mK L c W K;have ex:w2 (∀W A m q,SR vB R W A m q a->wS w1 32 #[.slice A m q,I J ((aw L:Nat):Int)] W (RT vN 0 W (bm a (aw L),0))):=by
    show∀W A m q,_->_;intro W A m q al;have h:=Cd A m q ((aw L:Nat):Int) a W al;rw[xQ (by rw[<-am.out];omega)]at h;exact h
   obtain⟨cs,fn,bd⟩:=ch.out L;have b1:w2 (∀W,wS w1 34 #[bX L c,I J ((bm a (aw L)).length:Int),I J (ad:Int),I J (b:Int)] W (au (.bool (l6 a b (L,c))) W)):=λW=>by
    have h:=Du L c (bm a (aw L)).length ad b W K oO oO oO;rw[am.out]at h⊢;exact h
   have bs:w2 (l6 a b (L,c)=wP->(bm a (aw L)).length<=kA c/\(bm a (aw L)).length<aJ L c):=by
    show _->_;intro h;exact Bv h V K bd
   have c5:w2 (l6 a b (L,c)=wP->∀W A m q,SR vN 0 W A m q (bm a (aw L))->wS w1 35 #[bX L c,.slice A m q] W λe u=>∃db N,N=aB L c* aB L c/\e= .returned (.tuple #[sU L c m (aB L c) db N,I J 0])/\bF u db (ny L c (bm a (aw L)))/\W.heap.size<=db/\af W u):=λh W A m q al=>
    yM L c _ A m q W V K es.out cs bd (bs.out h).1 (bs.out h).2 al
   have fo:(aB L c)* (aB L c)<=161* 161:=by have:=(oH L c V K).2;exact Nat.mul_le_mul this this
   have ez:w2 ((ny L c (bm a (aw L))).length=aB L c* aB L c):=xF _ _ _ _;have c6:w2 (∀(cK:xv (Nat×Bool)×Int) (W:wR) (db N k:Nat),(∀r,iX a b 0 d=gk r->cK=(gk r,0))->l6 a b (L,c)=wP->N=aB L c* aB L c->k=(bm a (aw L)).length->bF W db (ny L c (bm a (aw L)))->cK=(gk (L,c),0)/\Jv W (sU L c k (aB L c) db N) a (gk (L,c))):=by
    show∀(cK:xv (Nat×Bool)×Int) (W:wR) (db N k:Nat),_->_->_->_->_->_;intro cK W db N k o T a4 d3 a1;refine⟨o _ (by rw[b7.out];exact cy.out.1 T),⟨gk ⟨db,0,U⟩,N,N,a4,by rw[d3],?_⟩⟩;exact a1.sr (by rw[a4,ez.out]) (by rw[a4];unfold maxLen;omega)
   exact TC
  ·have d4:w2 (f=ab):=by show _=_;omega
   have g1:decide (f<ab)=R:=by simp;omega
   have fz:w2 (iX a b 0 d=U):=by show _=_;rw[b7.out];have:=ci.out;rw[d4.out,<-bt.out,S3]at this;exact this
   have g2:¬f<ab:=oO;exact Sc
theorem EM (A:xv Addr) (n ac:Nat) (g:List HH) (d:Bool) (j:Nat) (f0:1<=j) (f1:j<=32) (et:d=wP->j<=4) (b:Nat) (w:wR) (hs:SR vU 0 w A n ac g) (n1:1<=n) (n2:n<=60) (p1:5<=b) (p2:b<=90):
 wS w1 12 #[.slice A n ac,.agg #[I J (j:Int),.bool d,I J (b:Int)]] w λe u=>(∃F,dK (bA g) F)/\∀cK,(∀r,iX (dS g) b j d=gk r->cK=(gk r,0))->(iX (dS g) b j d=U->cK=(U,16))->pK w g cK e u:=by
 obtain⟨l,E⟩:∃l,l=(((w.alloc (.cells #[I J (j:Int),.bool d,I J (b:Int)] 24)).alloc (.cells cg 30)).alloc (cN j d)):=⟨_,rfl⟩;have b6:w2 (af w l):=by show y5 _ _ _;rw[E];exact ah (ah (ax _ _) _) _
 have d9:w2 (ag l w.heap.size #[I J (j:Int),.bool d,I J (b:Int)] 24):=by
  show ag _ _ _ _;rw[E];have o:ag (w.alloc (.cells #[I J (j:Int),.bool d,I J (b:Int)] 24)) w.heap.size #[I J (j:Int),.bool d,I J (b:Int)] 24:=ag.new _ _ _ _ rfl;exact(o.below (ax _ _)).below (ax _ _)
 have ea:w2 (ag l (w.heap.size+1) cg 30):=by
  show ag _ _ _ _;rw[E];have o:ag ((w.alloc (.cells #[I J (j:Int),.bool d,I J (b:Int)] 24)).alloc (.cells cg 30)) (w.heap.size+1) cg 30:=ag.new _ _ _ _ oS;exact o.below (ax _ _)
 have ec:w2 (ag l (w.heap.size+1+1) #[I J (j:Int),.bool d] 60):=by show ag _ _ _ _;rw[E];exact ag.new _ _ _ _ oS
 have G:w2 (w.heap.size<=w.heap.size+1/\w.heap.size+1<l.heap.size/\w.heap.size<=l.heap.size):=by show _/\_;rw[E];simp;omega
 have X:w2 (∀W,af l W->(W.cell? ⟨w.heap.size,0,U⟩=gk (I J (j:Int))/\W.cell? ⟨w.heap.size,1,U⟩=gk (.bool d)/\W.cell? ⟨w.heap.size,2,U⟩=gk (I J (b:Int)))/\W.cell? ⟨w.heap.size+1+1,0,U⟩=gk (I J (j:Int))/\W.cell? ⟨w.heap.size+1+1,1,U⟩=gk (.bool d)):=by
  show∀W,_;intro W M;have o:=d9.out.below M;have T:=ec.out.below M;exact⟨⟨o.cell 0 _ rfl,o.cell 1 _ rfl,o.cell 2 _ rfl⟩,T.cell 0 _ rfl,T.cell 1 _ rfl⟩
 have p:w2 (∀W,af l W->ag W (w.heap.size+1) cg 30):=λW M=>ea.out.below M;have ed:w2 (∀W,y5 (((w.alloc (.cells #[I J (j:Int),.bool d,I J (b:Int)] 24)).alloc (.cells cg 30)).alloc (cN j d)).heap.size (((w.alloc (.cells #[I J (j:Int),.bool d,I J (b:Int)] 24)).alloc (.cells cg 30)).alloc (cN j d)) W->af l W):=by show∀W,_->_;rw[<-E];exactλW h=>h
 have c4:=aa E;have f8:w2 (n=g.length):=hs.hn;have ef:w2 (∀W,af w W->wS w1 30 #[.slice A n ac] W λe u=>(∃F,dK (bA g) F)/\RT vB R W (dS g,0) e u):=by
  show∀W,_->_;intro W M;refine(zS A n ac g W (hs.below M) oO).mono ?_;rintro e u ⟨F,D,dE⟩;refine⟨⟨F,D⟩,?_⟩;rw[ss (by rw[<-hs.hn];omega) D];exact dE
 have eh:w2 ((∃F,dK (bA g) F)->(dS g).length<=501/\1<=(dS g).length/\∀L,ak (2^aw L) (bm (dS g) (aw L))/\(bm (dS g) (aw L)).length<=501/\1<=(bm (dS g) (aw L)).length):=by
  exact Sv
 have f9:¬(4096:Int)<(n:Int):=oO;have gb:((n:Int)==0)=R:=by rw[w4];omega
 have gc:¬n=0:=oO;have ge:¬(b:Int)<5:=oO;have gg:¬(90:Int)<(b:Int):=oO;have gi:decide (b<5)=R:=by simp;omega
 have gm:decide (90<b)=R:=by simp;omega
 have g7:n<=4096:=oO;obtain⟨i,Z⟩:∃i,i=[(j,d)]:=⟨_,rfl⟩;have b7:w2 (∀a,iX a b j d=i.find? (l6 a b)):=by show∀a,_;intro a;unfold iX I5;rw[Z];rw[w6 oO]
 have ek:w2 (∀r∈i,I4 r):=by
  show∀r∈_,_;rw[Z];intro r fd;rw[List.mem_singleton]at fd;rw[fd];exact⟨f0,f1,et⟩
 have fG:w2 (i.length<=33):=by show _<=_;rw[Z];show 1<=33;omega
 have b9:=aa Z;obtain⟨⟨x,y,B⟩,C,s⟩:=X.out l (Below.refl _ _);rw[c4.out]at x y B C s;have go:=aa hs;clear hs Z n1 E;have ii:((j:Int)==0)=R:=by rw[w4];omega
 have ip:¬j=0:=oO;have g3:w2 (∀W,wS w1 29 #[bX j d] W (au (.bool wP) W)):=λW=>by rw[<-LD f0 f1 et];exact iR j d W
 have g4:w2 (∀W:wR,B6 (W.alloc (.cells #[I J (j:Int),.bool d] 60)) (gk ⟨W.heap.size,0,U⟩) i):=by
  show∀W:wR,_;intro W;obtain⟨fc,q,e,-,-,h⟩:=SY.lit W [(j,d)] 60 W.heap.size 1 rfl rfl oM;injection e with e1 _ _;rw[b9.out,e1];exact h
 clear et;go_enter V9,VG
 go_wp2_with(first
  |(go_at_call 29;refine(g3.out _).mono ?_;rintro e gv ⟨rfl,a0⟩;have ew:w2 (af l gv):=ed.out _ a0;clear a0 x y B C s;obtain⟨⟨x,y,B⟩,C,s⟩:=X.out _ ew.out)
  |(go_at_call 30;refine(ef.out _ (ae b6.out ew.out)).mono ?_;rintro e a2 ⟨D,gp,rfl,ca,Y⟩;obtain⟨gq,ad,gs,rfl,el⟩:=ca.parts;have HC:=aa (eh.out D);have d7:=aa D;have em:=aa el;have a8:=aa (ae ew.out Y);clear D ca Y x y B C s;obtain⟨⟨x,y,B⟩,C,s⟩:=X.out _ a8.out;obtain⟨⟨k0,d0,d1⟩,-,-⟩:=X.out _ (ah a8.out (.cells #[I J (j:Int),.bool d] 60))))
 have en:=aa (g4.out a2);have c2:w2 (af l (a2.alloc (.cells #[I J (j:Int),.bool d] 60))):=ah a8.out _;have a5:=aa (em.out.below (ax a2 (.cells #[I J (j:Int),.bool d] 60)));have bt:w2 (i.length=1):=by show _=_;rw[b9.out];rfl
 generalize g5:a2.alloc (.cells #[I J (j:Int),.bool d] 60)=d2 at*;clear g5 x y B C s k0 d0 d1;generalize al:(gk ⟨a2.heap.size,0,U⟩:xv Addr)=cr at*;clear al;have cb:w2 (∀a,(i.take 0).find? (l6 a b)=U):=λa=>rfl;obtain⟨cq,eq,ce⟩:=HC.out;have ch:=aa ce;have am:w2 (ad=(dS g).length):=a5.out.hn;have gt:ad<=501:=by rw[am.out];exact cq
 clear ce eq cq;obtain⟨a,bq⟩:∃a,w2 (dS g=a):=⟨_,rfl⟩;rw[bq.out]at a5 am ch;go_loopw [64] (λa3 wr=>∃f:Nat,f<=1/\a3=I J f/\w2 ((i.take f).find? (l6 a b)=U)/\w2 (af d2 wr)) (λa3 _=>1-(intOf a3).toNat)
 case atStart=>exact⟨0,Nat.zero_le _,rfl,cb.out a,Below.refl _ _⟩
 case round=>
  clear cb;obtain⟨f,e9,rfl,ci,hB⟩:=hrel;by_cases c3:f<1
  ·have ap:f<i.length:=by rw[bt.out];exact c3
   obtain⟨O,P,rfl,ck,co⟩:=en.out oO;have a9:=co f ap;have cp:i.getD f (0,R)∈i:=by
    simp only[List.getD,yv ap,HL];exact C4 ap
   have er:=ek.out _ cp;have cy:=aa (Cr (l6 a b) i (0,R) f ap ci.out);have e1:wr.cell? ⟨O,P+f* 2,U⟩=gk (I J ((i.getD f (0,R)).1:Int)):=(hB.out.cell (p:=⟨O,P+f* 2,U⟩) ck).trans a9.1;have e2:wr.cell? ⟨O,P+f* 2+1,U⟩=gk (.bool (i.getD f (0,R)).2):=(hB.out.cell (p:=⟨O,P+f* 2+1,U⟩) ck).trans a9.2;generalize i.getD f (0,R)=r at*;obtain⟨L,c⟩:=r;obtain⟨V,K,bz⟩:=er;have V:1<=L:=V;have K:L<=32:=K;have e1:wr.cell? ⟨O,P+f* 2,U⟩=gk (I J (L:Int)):=e1;have e2:wr.cell? ⟨O,P+f* 2+1,U⟩=gk (.bool c):=e2;have es:w2 (c=wP->L<=4):=bz;clear bz a9 co cp;have cv:=fI wr L c;have t:=aa (ae c2.out hB.out);have d5:w2 (∀W,wS w1 33 #[bX L c] W (au (I J ((aw L:Nat):Int)) W)):=λW=>mK L c W K;have ex:w2 (∀W A m q,SR vB R W A m q a->wS w1 32 #[.slice A m q,I J ((aw L:Nat):Int)] W (RT vN 0 W (bm a (aw L),0))):=by
    show∀W A m q,_->_;intro W A m q al;have h:=Cd A m q ((aw L:Nat):Int) a W al;rw[xQ (by rw[<-am.out];omega)]at h;exact h
   obtain⟨cs,fn,bd⟩:=ch.out L;have b1:w2 (∀W,wS w1 34 #[bX L c,I J ((bm a (aw L)).length:Int),I J (ad:Int),I J (b:Int)] W (au (.bool (l6 a b (L,c))) W)):=λW=>by
    have h:=Du L c (bm a (aw L)).length ad b W K oO oO oO;rw[am.out]at h⊢;exact h
   have bs:w2 (l6 a b (L,c)=wP->(bm a (aw L)).length<=kA c/\(bm a (aw L)).length<aJ L c):=by
    show _->_;intro h;exact Bv h V K bd
   have c5:w2 (l6 a b (L,c)=wP->∀W A m q,SR vN 0 W A m q (bm a (aw L))->wS w1 35 #[bX L c,.slice A m q] W λe u=>∃db N,N=aB L c* aB L c/\e= .returned (.tuple #[sU L c m (aB L c) db N,I J 0])/\bF u db (ny L c (bm a (aw L)))/\W.heap.size<=db/\af W u):=λh W A m q al=>
    yM L c _ A m q W V K es.out cs bd (bs.out h).1 (bs.out h).2 al
   have fo:(aB L c)* (aB L c)<=161* 161:=by have:=(oH L c V K).2;exact Nat.mul_le_mul this this
   have ez:w2 ((ny L c (bm a (aw L))).length=aB L c* aB L c):=xF _ _ _ _;have c6:w2 (∀(cK:xv (Nat×Bool)×Int) (W:wR) (db N k:Nat),(∀r,iX a b j d=gk r->cK=(gk r,0))->l6 a b (L,c)=wP->N=aB L c* aB L c->k=(bm a (aw L)).length->bF W db (ny L c (bm a (aw L)))->cK=(gk (L,c),0)/\Jv W (sU L c k (aB L c) db N) a (gk (L,c))):=by
    show∀(cK:xv (Nat×Bool)×Int) (W:wR) (db N k:Nat),_->_->_->_->_->_;intro cK W db N k o T a4 d3 a1;refine⟨o _ (by rw[b7.out];exact cy.out.1 T),⟨gk ⟨db,0,U⟩,N,N,a4,by rw[d3],?_⟩⟩;exact a1.sr (by rw[a4,ez.out]) (by rw[a4];unfold maxLen;omega)
   exact TC
  ·have d4:w2 (f=1):=by show _=_;omega
   have g1:decide (f<1)=R:=by simp;omega
   have fz:w2 (iX a b j d=U):=by show _=_;rw[b7.out];have:=ci.out;rw[d4.out,<-bt.out,S3]at this;exact this
   have g2:¬f<1:=oO;exact Sc
theorem G5 (A:xv Addr) (n f:Nat) (a:List HH) (d:Int) (b:Bool) (c:Int) (w:wR) (hs:SR vU 0 w A n f a) (hl:a.length<=60\/4096<a.length):
 wS w1 12 #[.slice A n f,.agg #[I J d,.bool b,I J c]] w λe l=>(qz a.length d b c=0->∃B,dK (bA a) B)/\pK w a (uZ a d b c) e l:=by
 have r:n<=9223372036854775807:=by have:=hs.hm;have:=hs.hc;unfold maxLen at*;omega
 have hn:n=a.length:=hs.hn;have s:qz a.length d b c=if 4096<a.length then 4 else if a.length=0 then 5 else if d≠0/\eH d b=R then 14 else if c<5\/90<c then 3 else 0:=rfl
 have z:∀k:Int,qz a.length d b c=k->k≠0->wS w1 12 #[.slice A n f,.agg #[I J d,.bool b,I J c]] w (pK w a (U,k))->wS w1 12 #[.slice A n f,.agg #[I J d,.bool b,I J c]] w λe l=>(qz a.length d b c=0->∃B,dK (bA a) B)/\pK w a (uZ a d b c) e l:=by
  intro k m o D;refine D.mono λe l h=>⟨λg=>absurd (m.symm.trans g) o,?_⟩;unfold uZ;rw[m,xl o];exact h
 by_cases t:4096<a.length
 ·exact z 4 (by rw[s,xl t]) oD (LC A n f a d b c w oO r)
 by_cases x:a.length=0
 ·have:n=0:=oO;subst this;exact z 5 (by rw[s,w6 t,xl x]) oD (MW A f a d b c w)
 by_cases p:d≠0/\eH d b=R
 ·exact z 14 (by rw[s,w6 t,w6 x,xl p]) oD (Kt A n f a d b c w oO oO p.1 p.2 r)
 have u:d≠0->eH d b=wP:=λh=>by
  cases u:eH d b with
  |true=>rfl
  |false=>exact absurd ⟨h,u⟩ p
 by_cases C:c<5\/90<c
 ·refine z 3 (by rw[s,w6 t,w6 x,w6 p,xl C]) oD ?_;by_cases g:d=0
  ·subst g;by_cases v:c<5
   ·exact Kc A n f a b c w oO oO v r
   ·exact JO A n f a b c w oO oO v oO r
  ·by_cases v:c<5
   ·exact Ji A n f a d b c w oO oO g (u g) v r
   ·exact Kb A n f a d b c w oO oO g (u g) v oO r
 have y:qz a.length d b c=0:=by rw[s,w6 t,w6 x,w6 p,w6 C]
 obtain⟨q,rfl⟩:∃q:Nat,c=q:=⟨c.toNat,by omega⟩;by_cases g:d=0
 ·subst g;refine(Gc A n f a b q w hs oO oO oO oO).mono ?_;rintro e l ⟨m,o⟩;refine⟨λ_=>m,o _ (λi j=>?_) (λj=>?_)⟩
  ·unfold uZ;rw[y,w6 oD];show(match iX (dS a) q 0 b with|some i=>(gk i,(0:Int))|none=>(U,16))=_;rw[j]
  ·unfold uZ;rw[y,w6 oD];show(match iX (dS a) q 0 b with|some i=>(gk i,(0:Int))|none=>(U,16))=_;rw[j]
 ·obtain⟨k,rfl,E,F,k3⟩:=kh (u g);refine(EM A n f a b k E F k3 q w hs oO oO oO oO).mono ?_;rintro e l ⟨m,o⟩;refine⟨λ_=>m,o _ (λi j=>?_) (λj=>?_)⟩
  ·unfold uZ;rw[y,w6 oD];show(match iX (dS a) q k b with|some i=>(gk i,(0:Int))|none=>(U,16))=_;rw[j]
  ·unfold uZ;rw[y,w6 oD];show(match iX (dS a) q k b with|some i=>(gk i,(0:Int))|none=>(U,16))=_;rw[j]
theorem Tv (h:∃b,dK (bA [65]) b):uZ [65] 0 R 33=(gk (1,wP),0)/\(bm (dS [65]) (aw 1)).length=1:=by
 obtain⟨b,a⟩:=h;have c:(dS [65]).length=5:=by
  rw[ss oD a,yo oD a];exact Th a
 obtain⟨e,e1,e2,e3,e4,e5,e6,e7⟩:=uj (dS [65]) 6 oO oO oO;have d:(bm (dS [65]) 6).length=1:=by rw[c]at e4 e5;omega
 refine⟨?_,d⟩;have g:iX (dS [65]) 33 0 R=gk (1,wP):=by
  have i:l6 (dS [65]) 33 (1,wP)=wP:=by
   unfold l6;show yg 1 wP (bm (dS [65]) 6).length _ 33=wP;rw[d,c]
   decide
  show((1,wP)::_:List (Nat×Bool)).find? _=_;rw[List.find?_cons,i]
 show(match iX (dS [65]) 33 0 R with|some f=>(gk f,(0:Int))|none=>(U,16))=_;rw[g]
theorem Sb:(uh 1 wP).length=104/\(tS 1 wP).length=28/\(uh 1 wP).getD 3 (0,0)=(1,1)/\(tS 1 wP).getD 0 (0,0)=(4,2)/\wZ 1 wP=0:=⟨by kernel_rfl,by kernel_rfl,by kernel_rfl,by kernel_rfl,by kernel_rfl⟩
theorem uW (w:wR):wS w1 11 #[] w (au (.bool wP) w):=by
 have Q:w2 (∀W,wS w1 13 #[I J 1,.bool wP] W (au (.tuple #[I J 15,I J 0]) W)):=λW=>xU 1 wP W;have S:w2 (∀W,wS w1 13 #[I J 5,.bool R] W (au (.tuple #[I J 37,I J 0]) W)):=λW=>xU 5 R W;have T:w2 (∀W,wS w1 13 #[I J 32,.bool R] W (au (.tuple #[I J 151,I J 0]) W)):=λW=>xU 32 R W;have V:w2 (∀W,wS w1 16 #[I J 1,.bool wP] W (au (.tuple #[I J 6,I J 17,I J 0]) W)):=λW=>uL 1 wP W;have X:w2 (∀W,wS w1 16 #[I J 32,.bool R] W (au (.tuple #[I J 12,I J 1664,I J 0]) W)):=λW=>uL 32 R W;have E:w2 (∀W,wS w1 15 #[I J 1,.bool wP] W λe a=>∃b f c d g l,e= .returned (.tuple #[.slice (gk ⟨b,f,U⟩) 104 c,.slice (gk ⟨d,g,U⟩) 28 l,I J 0])/\af W a/\w2 (b<a.heap.size/\d<a.heap.size/\a.cell? ⟨b,f+6,U⟩=gk (I J 1)/\a.cell? ⟨b,f+7,U⟩=gk (I J 1)/\a.cell? ⟨d,g,U⟩=gk (I J 4)/\a.cell? ⟨d,g+1,U⟩=gk (I J 2))):=by
  show∀W,_;intro W;refine(O5 1 wP W).mono ?_;rintro e a ⟨v,u,rfl,⟨A,c,rfl,-,-,p⟩,⟨a1,l,rfl,-,-,F⟩,hb⟩;obtain⟨p1,p2,G,H,K⟩:=Sb;obtain⟨b,f,rfl,hg,hc⟩:=p (by rw[p1];omega);obtain⟨d,g,rfl,Y,Z⟩:=F (by rw[p2];omega);have m:=hc 3 (by rw[p1];omega);have o:=Z 0 (by rw[p2];omega);rw[G]at m;rw[H]at o;refine⟨b,f,c,d,g,l,by rw[p1,p2,K],hb,hg,Y,m.1,m.2,?_,?_⟩
  ·have:=o.1;rw[Nat.zero_mul,Nat.add_zero]at this;exact this
  ·have:=o.2;rw[Nat.zero_mul,Nat.add_zero]at this;exact this
 have ab:w2 (∀W:wR,wS w1 12 #[.slice (gk ⟨W.heap.size,0,U⟩) 1 1,.agg #[I J 0,.bool R,I J 33]] (W.alloc (.cells #[.int .u8 65] 5 (1,2))) λe a=>∃A N j,e= .returned (.tuple #[.agg #[I J 1,.bool wP,I J 1,I J 15,I J 15,.slice A N j],I J 0])/\af W a):=by
  show∀W:wR,_;intro W;have hs:SR vU 0 (W.alloc (.cells #[.int .u8 65] 5 (1,2))) (gk ⟨W.heap.size,0,U⟩) 1 1 [65]:=SR.TU (f:=vU) (d:=0) W [65] 5 (1,2) 1 rfl oM;refine(G5 (gk ⟨W.heap.size,0,U⟩) 1 1 [65] 0 R 33 _ hs (.inl oD)).mono ?_;rintro e a ⟨p,v,rfl,q,hb⟩;obtain⟨L,M⟩:=Tv (p oD);rw[L]at q⊢;obtain⟨A,N,j,-,rfl,-⟩:=q;rw[M];exact⟨A,N,j,rfl,dT hb⟩
 have a2:=λ(w:wR) (D:Array Value) (n c:Nat)=>Lib.run_convert_bytes_const (P:=w1) w 22 5 D n c underlying22 underlying5;go_enter func11,ntmps11
 go_wp2_with(first
  |(go_at_call 13;(with_reducible show wS _ _ #[I J 1,_] _ _);refine(Q.out _).mono ?_;rintro e O ⟨rfl,s⟩;have ac:w2 (af w O):=s;clear s)
  |(go_at_call 13;(with_reducible show wS _ _ #[I J 5,_] _ _);refine(S.out _).mono ?_;rintro e a3 ⟨rfl,t⟩;have ad:=aa (ae ac.out t);clear t)
  |(go_at_call 13;(with_reducible show wS _ _ #[I J 32,_] _ _);refine(T.out _).mono ?_;rintro e a4 ⟨rfl,x⟩;have al:=aa (ae ad.out x);clear x)
  |(go_at_call 16;(with_reducible show wS _ _ #[I J 1,_] _ _);refine(V.out _).mono ?_;rintro e a5 ⟨rfl,y⟩;have am:=aa (ae al.out y);clear y)
  |(go_at_call 16;(with_reducible show wS _ _ #[I J 32,_] _ _);refine(X.out _).mono ?_;rintro e a6 ⟨rfl,z⟩;have ap:=aa (ae am.out z);clear z)
  |(go_at_call 15;refine(E.out _).mono ?_;rintro e r ⟨b,f,c,d,g,l,rfl,B,i⟩;have av:=aa (ae ap.out B);clear B)
  |(go_at_call 12;refine(ab.out r).mono ?_;rintro e P ⟨A,N,j,rfl,C⟩;have a0:=aa C;have k:w2 (af r (P.alloc (.cells #[I J 1,.bool wP,I J 1,I J 15,I J 15,.slice A N j] 30))):=ah a0.out _;have m:=(k.out.cell (p:=⟨b,f+6,U⟩) i.out.1).trans i.out.2.2.1;have o:=(k.out.cell (p:=⟨b,f+7,U⟩) i.out.1).trans i.out.2.2.2.1;have a7:=(k.out.cell (p:=⟨d,g,U⟩) i.out.2.1).trans i.out.2.2.2.2.1;have a8:=(k.out.cell (p:=⟨d,g+1,U⟩) i.out.2.1).trans i.out.2.2.2.2.2;clear C))
 go_ret;exact⟨rfl,ae av.out k.out⟩
end
end Go.Proofs.YtmnlkganmgcpbaaGreatDoor
