import Derived.Test.YtmnlkganmgcpbaaGreatDoorQi23
set_option maxRecDepth 100000
set_option maxHeartbeats 4000000
set_option linter.unusedVariables false
set_option linter.unusedSectionVars false
set_option linter.unusedSimpArgs false
set_option linter.defProp false
open Go.Value renaming int->I
open Go.IntKind renaming i64->J
open Bool renaming false->R,true->wP
open Option renaming none->U,some->gk
open Go renaming World->wR,Calls->wS,Value->xf
open Go.Proofs.Tryz renaming prog->w1
open Go.RowKit renaming Hid->w2,Below->y5
open Go.RowKit.Below renaming refl->w3,heap_setCell->HP
open List renaming getElem?_cons_zero->w7,getElem?_cons_succ->w8,length_append->w9,not_mem_nil->Ay,mem_cons->AQ
open Nat renaming le_trans->x3
open Go.Fn renaming func->U4
open Go.Proofs.Tryz
namespace Go.Proofs.YtmnlkganmgcpbaaGreatDoor
section
open Go.RowKit
theorem ku (a:Nat) (w:wR):wS w1 137 #[I J a] w λe b=>e= .returned (I J (a:Int))/\b=w:=by
 go_enter func137,ntmps137;go_wp2;go_ret;exact⟨rfl,rfl⟩
def HC (L:Nat) (W:wR) (hb a:Nat):Prop:=ag W hb #[I J ((aE L R/2:Nat):Int)] 3/\ag W a #[I J ((cI L R:Nat):Int)] 3
theorem kn (L b hb n:Nat) (w:wR) (h:L<=32) (o:b<aE L R) (hc:HC L w hb n):wS w1 138 #[I J b,.pointer (gk ⟨hb,0,U⟩),.pointer (gk ⟨n,0,U⟩)] w λe s=>e= .returned (I J ((bJ L R b:Nat):Int))/\s=w:=by
 have l:=aa (jc (c:=R) h);have p:=aa (eI (c:=R) h);have y:=eu hc.1;have z:=eu hc.2;have r:w2 (((cI L R:Nat):Int)=((aB L R:Int)-1)/2):=by
  have:=eI (c:=R) h;show _=_;unfold cI;omega
 clear hc;by_cases g:b<aE L R/2
 ·have c:=aa (IV h g);rw[<-r.out]at c;have f:(aE L R:Int)/2=((aE L R/2:Nat):Int):=oO;rw[f]at c;clear f;have hB:aE L R/2<=100:=by have:=l.out;omega
  have t:cI L R<=100:=by have:=p.out;unfold cI;omega
  generalize bJ L R b=i at*;generalize aE L R/2=d at*;generalize cI L R=j at*;have x:(b:Int)<(d:Int):=oO;obtain⟨a,k⟩:∃a,a=d-1-b:=⟨_,rfl⟩;have e2:(d:Int)-1-(b:Int)=(a:Int):=oO;obtain⟨q,hq⟩:∃q,q=a/15:=⟨_,rfl⟩;have e3:(a:Int)/15=(q:Int):=oO;have m:w2 ((j:Int)-1-(a:Int)-(q:Int)=(i:Int)):=by show _=_;rw[c.out,e2,e3]
  have u:a<=200:=oO;have v:q<=200:=oO;clear k hq g o;go_enter func138,ntmps138;go_wp2;go_ret;exact⟨bM m.out,rfl⟩
 ·have c:=aa (IU h g);rw[<-r.out]at c;have f:(aE L R:Int)/2=((aE L R/2:Nat):Int):=oO;rw[f]at c;clear f;have hB:aE L R/2<=100:=by have:=l.out;omega
  have t:cI L R<=100:=by have:=p.out;unfold cI;omega
  have A:b<=200:=by have:=l.out;omega
  generalize bJ L R b=i at*;generalize aE L R/2=d at*;generalize cI L R=j at*;have x:¬((b:Int)<(d:Int)):=oO;obtain⟨a,k⟩:∃a,a=b-d:=⟨_,rfl⟩;have e2:(b:Int)-(d:Int)=(a:Int):=oO;obtain⟨q,hq⟩:∃q,q=a/15:=⟨_,rfl⟩;have e3:(a:Int)/15=(q:Int):=oO;have m:w2 ((j:Int)+1+(a:Int)+(q:Int)=(i:Int)):=by show _=_;rw[c.out,e2,e3]
  have u:a<=200:=oO;have v:q<=200:=oO;clear k hq g o;go_enter func138,ntmps138;go_wp2;go_ret;exact⟨bM m.out,rfl⟩
def Lg (c:Bool) (hb a:Nat):xf:=if c=wP then .func (U4 137) #[] #[]else .func (U4 138) #[] #[.pointer (gk ⟨hb,0,U⟩),.pointer (gk ⟨a,0,U⟩)]
structure pH (L:Nat) (c:Bool) (b lb hb a:Nat) (W:wR):Prop where
 P:ag W b #[Lg c hb a] 77
 Q:ag W lb #[I J ((aE L c-1:Nat):Int)] 3
 H:c=R->HC L W hb a
def zx:Obj->Bool
 |.cells _ a _=>!(a==47)&&!(a==40)
 |_=>wP
def bg (w b:wR):Prop:=∀(k:Nat) (a:Obj),w.heap[k]?=gk a->zx a=wP->b.heap[k]?=gk a
theorem bg.refl (w:wR):bg w w:=λ_ _ h _=>h
theorem bg.trans {a b c:wR} (h:bg a b) (f:bg b c):bg a c:=λk d g e=>f k d (h k d g e) e
theorem bg.below {w W:wR} (h:af w W):bg w W:=λk b a _=>(h.block k (ay a)).trans a
theorem ag.j7 {w d:wR} {a:Nat} {c:Array xf} {b:TypeId} (h:ag w a c b) (e:bg w d) (f:zx (.cells c b (0,0))=wP):ag d a c b:=e a _ h f
theorem pH.fP {L:Nat} {c:Bool} {b lb hb d:Nat} {w W:wR} (h:pH L c b lb hb d w) (a:bg w W):pH L c b lb hb d W:=
 ⟨h.P.j7 a rfl,h.Q.j7 a rfl,λe=>⟨(h.H e).1.j7 a rfl,(h.H e).2.j7 a rfl⟩⟩
theorem I1 (L:Nat) (c:Bool) (s lb t hb p a m k:Nat) (w:wR) (j:L<=32) (O:a<L) (P:m<rN L c a) (Q:k<2) (M:pH L c s lb hb p w) (N:ag w t #[I J a] 3):
 wS w1 94 #[I J m,I J k,.pointer (gk ⟨s,0,U⟩),.pointer (gk ⟨t,0,U⟩)] w (au (.agg #[I J (((cM L c a 0 m k).1:Nat):Int),I J (((cM L c a 0 m k).2:Nat):Int)]) w):=by
 obtain⟨u,a6⟩:=zL (s:=0) j O P Q;have a7:=(jc (c:=c) j).2;obtain⟨b,T⟩:∃b,b=2* a+k:=⟨_,rfl⟩;obtain⟨d,V⟩:∃d,d=2* a+m:=⟨_,rfl⟩;obtain⟨n,K⟩:∃n,n=aE L c-1:=⟨_,rfl⟩;obtain⟨g,X⟩:∃g,g=n-b:=⟨_,rfl⟩;obtain⟨i,Y⟩:∃i,i=n-d:=⟨_,rfl⟩;obtain⟨o,a4⟩:∃o,o=2* a:=⟨_,rfl⟩;obtain⟨q,a5⟩:∃q,q=n-o:=⟨_,rfl⟩;have ap:J.wrap (2* (a:Int))=(o:Int):=by rw[aG _ oO oO];omega
 have av:J.wrap ((o:Int)+(k:Int))=(b:Int):=by rw[aG _ oO oO];omega
 have a0:J.wrap ((o:Int)+(m:Int))=(d:Int):=by rw[aG _ oO oO];omega
 have a1:J.wrap ((n:Int)-(o:Int))=(q:Int):=by rw[aG _ oO oO];omega
 have a2:J.wrap ((q:Int)-(k:Int))=(g:Int):=by rw[aG _ oO oO];omega
 have a3:J.wrap ((q:Int)-(m:Int))=(i:Int):=by rw[aG _ oO oO];omega
 have S:w2 (cM L c a 0 m k=(bJ L c b,bJ L c d)):=by
  show _=_;clear ap av a0 a1 a2 a3;subst X Y K T V;rfl
 have D:b<aE L c:=oO;have E:d<aE L c:=oO;have F:g<aE L c:=oO;have G:i<aE L c:=oO;have bx:a<=32:=oO;have bz:m<=142:=oO;have b1:n<=142:=oO;have a9:b<=142/\d<=142/\g<=142/\i<=142:=oO;obtain⟨bq,bs,bt,bv⟩:=a9;have H:=aa M;have bo:=aa N;obtain⟨l,B⟩:∃l,l=w.alloc (.cells #[I J 0,I J 0] 47):=⟨_,rfl⟩;have z:w2 (af w l):=by show y5 _ _ _;rw[B];exact ax _ _
 have ab:w2 (∀W,af l W->ag W w.heap.size #[I J 0,I J 0] 47):=λW f=>by
  have:ag l w.heap.size #[I J 0,I J 0] 47:=by rw[B];exact ag.new _ _ _ _ oS
  exact this.below f
 cases c with
 |true=>
  have bd:w2 (∀W,af l W->wS w1 137 #[I J b] W (au (I J ((bJ L wP b:Nat):Int)) W)):=λW f=>by rw[show bJ L wP b=b from rfl];exact(ku b W).mono (by rintro e r ⟨rfl,rfl⟩;exact⟨rfl,w3 _ _⟩)
  have be:w2 (∀W,af l W->wS w1 137 #[I J d] W (au (I J ((bJ L wP d:Nat):Int)) W)):=λW f=>by rw[show bJ L wP d=d from rfl];exact(ku d W).mono (by rintro e r ⟨rfl,rfl⟩;exact⟨rfl,w3 _ _⟩)
  have A:w2 (∀W,af l W->W.cell? ⟨s,0,U⟩=gk (.func (U4 137) #[] #[])/\W.cell? ⟨lb,0,U⟩=gk (I J n)/\W.cell? ⟨t,0,U⟩=gk (I J a)):=by
   exact vE
  rw[S.out];have bb:w2 (bJ L wP b<=200/\bJ L wP d<=200):=by
   have:=fL j D;have:=fL j E;have:=eI (c:=wP) j
   show _/\_;omega
  generalize bJ L wP b=x at*;generalize bJ L wP d=y at*;exact R9
 |false=>
  have bd:w2 (∀W,af l W->wS w1 138 #[I J b,.pointer (gk ⟨hb,0,U⟩),.pointer (gk ⟨p,0,U⟩)] W (au (I J ((bJ L R b:Nat):Int)) W)):=λW f=>(kn L b hb p W j D ((H.out.fP (bg.below (ae z.out f))).H rfl)).mono (by rintro e r ⟨rfl,rfl⟩;exact⟨rfl,w3 _ _⟩);have be:w2 (∀W,af l W->wS w1 138 #[I J d,.pointer (gk ⟨hb,0,U⟩),.pointer (gk ⟨p,0,U⟩)] W (au (I J ((bJ L R d:Nat):Int)) W)):=λW f=>(kn L d hb p W j E ((H.out.fP (bg.below (ae z.out f))).H rfl)).mono (by rintro e r ⟨rfl,rfl⟩;exact⟨rfl,w3 _ _⟩);have A:w2 (∀W,af l W->W.cell? ⟨s,0,U⟩=gk (.func (U4 138) #[] #[.pointer (gk ⟨hb,0,U⟩),.pointer (gk ⟨p,0,U⟩)])/\W.cell? ⟨lb,0,U⟩=gk (I J n)/\W.cell? ⟨t,0,U⟩=gk (I J a)):=by
   exact vE
  rw[S.out];have bb:w2 (bJ L R b<=200/\bJ L R d<=200):=by
   have:=fL j D;have:=fL j E;have:=eI (c:=R) j
   show _/\_;omega
  generalize bJ L R b=x at*;generalize bJ L R d=y at*;exact R9
theorem Ho (L:Nat) (c:Bool) (s lb t hb p a m k:Nat) (w:wR) (j:L<=32) (O:a<L) (P:m<rN L c a) (Q:k<2) (M:pH L c s lb hb p w) (N:ag w t #[I J a] 3):
 wS w1 95 #[I J m,I J k,.pointer (gk ⟨s,0,U⟩),.pointer (gk ⟨t,0,U⟩),.pointer (gk ⟨lb,0,U⟩)] w (au (.agg #[I J (((cM L c a 1 m k).1:Nat):Int),I J (((cM L c a 1 m k).2:Nat):Int)]) w):=by
 obtain⟨u,a6⟩:=zL (s:=0) j O P Q;have a7:=(jc (c:=c) j).2;obtain⟨b,T⟩:∃b,b=2* a+k:=⟨_,rfl⟩;obtain⟨d,V⟩:∃d,d=2* a+m:=⟨_,rfl⟩;obtain⟨n,K⟩:∃n,n=aE L c-1:=⟨_,rfl⟩;obtain⟨g,X⟩:∃g,g=n-b:=⟨_,rfl⟩;obtain⟨i,Y⟩:∃i,i=n-d:=⟨_,rfl⟩;obtain⟨o,a4⟩:∃o,o=2* a:=⟨_,rfl⟩;obtain⟨q,a5⟩:∃q,q=n-o:=⟨_,rfl⟩;have ap:J.wrap (2* (a:Int))=(o:Int):=by rw[aG _ oO oO];omega
 have av:J.wrap ((o:Int)+(k:Int))=(b:Int):=by rw[aG _ oO oO];omega
 have a0:J.wrap ((o:Int)+(m:Int))=(d:Int):=by rw[aG _ oO oO];omega
 have a1:J.wrap ((n:Int)-(o:Int))=(q:Int):=by rw[aG _ oO oO];omega
 have a2:J.wrap ((q:Int)-(k:Int))=(g:Int):=by rw[aG _ oO oO];omega
 have a3:J.wrap ((q:Int)-(m:Int))=(i:Int):=by rw[aG _ oO oO];omega
 have S:w2 (cM L c a 1 m k=(bJ L c d,bJ L c g)):=by
  show _=_;clear ap av a0 a1 a2 a3;subst X Y K T V;rfl
 have D:b<aE L c:=oO;have E:d<aE L c:=oO;have F:g<aE L c:=oO;have G:i<aE L c:=oO;have bx:a<=32:=oO;have bz:m<=142:=oO;have b1:n<=142:=oO;have a9:b<=142/\d<=142/\g<=142/\i<=142:=oO;obtain⟨bq,bs,bt,bv⟩:=a9;have H:=aa M;have bo:=aa N;obtain⟨l,B⟩:∃l,l=w.alloc (.cells #[I J 0,I J 0] 47):=⟨_,rfl⟩;have z:w2 (af w l):=by show y5 _ _ _;rw[B];exact ax _ _
 have ab:w2 (∀W,af l W->ag W w.heap.size #[I J 0,I J 0] 47):=λW f=>by
  have:ag l w.heap.size #[I J 0,I J 0] 47:=by rw[B];exact ag.new _ _ _ _ oS
  exact this.below f
 cases c with
 |true=>
  have be:w2 (∀W,af l W->wS w1 137 #[I J d] W (au (I J ((bJ L wP d:Nat):Int)) W)):=λW f=>by rw[show bJ L wP d=d from rfl];exact(ku d W).mono (by rintro e r ⟨rfl,rfl⟩;exact⟨rfl,w3 _ _⟩)
  have bf:w2 (∀W,af l W->wS w1 137 #[I J g] W (au (I J ((bJ L wP g:Nat):Int)) W)):=λW f=>by rw[show bJ L wP g=g from rfl];exact(ku g W).mono (by rintro e r ⟨rfl,rfl⟩;exact⟨rfl,w3 _ _⟩)
  have A:w2 (∀W,af l W->W.cell? ⟨s,0,U⟩=gk (.func (U4 137) #[] #[])/\W.cell? ⟨lb,0,U⟩=gk (I J n)/\W.cell? ⟨t,0,U⟩=gk (I J a)):=by
   exact vE
  rw[S.out];have bb:w2 (bJ L wP d<=200/\bJ L wP g<=200):=by
   have:=fL j E;have:=fL j F;have:=eI (c:=wP) j
   show _/\_;omega
  generalize bJ L wP d=x at*;generalize bJ L wP g=y at*;exact SX
 |false=>
  have be:w2 (∀W,af l W->wS w1 138 #[I J d,.pointer (gk ⟨hb,0,U⟩),.pointer (gk ⟨p,0,U⟩)] W (au (I J ((bJ L R d:Nat):Int)) W)):=λW f=>(kn L d hb p W j E ((H.out.fP (bg.below (ae z.out f))).H rfl)).mono (by rintro e r ⟨rfl,rfl⟩;exact⟨rfl,w3 _ _⟩);have bf:w2 (∀W,af l W->wS w1 138 #[I J g,.pointer (gk ⟨hb,0,U⟩),.pointer (gk ⟨p,0,U⟩)] W (au (I J ((bJ L R g:Nat):Int)) W)):=λW f=>(kn L g hb p W j F ((H.out.fP (bg.below (ae z.out f))).H rfl)).mono (by rintro e r ⟨rfl,rfl⟩;exact⟨rfl,w3 _ _⟩);have A:w2 (∀W,af l W->W.cell? ⟨s,0,U⟩=gk (.func (U4 138) #[] #[.pointer (gk ⟨hb,0,U⟩),.pointer (gk ⟨p,0,U⟩)])/\W.cell? ⟨lb,0,U⟩=gk (I J n)/\W.cell? ⟨t,0,U⟩=gk (I J a)):=by
   exact vE
  rw[S.out];have bb:w2 (bJ L R d<=200/\bJ L R g<=200):=by
   have:=fL j E;have:=fL j F;have:=eI (c:=R) j
   show _/\_;omega
  generalize bJ L R d=x at*;generalize bJ L R g=y at*;exact SX
theorem Ic (L:Nat) (c:Bool) (s lb t hb p a m k:Nat) (w:wR) (j:L<=32) (O:a<L) (P:m<rN L c a) (Q:k<2) (M:pH L c s lb hb p w) (N:ag w t #[I J a] 3):
 wS w1 96 #[I J m,I J k,.pointer (gk ⟨s,0,U⟩),.pointer (gk ⟨lb,0,U⟩),.pointer (gk ⟨t,0,U⟩)] w (au (.agg #[I J (((cM L c a 2 m k).1:Nat):Int),I J (((cM L c a 2 m k).2:Nat):Int)]) w):=by
 obtain⟨u,a6⟩:=zL (s:=0) j O P Q;have a7:=(jc (c:=c) j).2;obtain⟨b,T⟩:∃b,b=2* a+k:=⟨_,rfl⟩;obtain⟨d,V⟩:∃d,d=2* a+m:=⟨_,rfl⟩;obtain⟨n,K⟩:∃n,n=aE L c-1:=⟨_,rfl⟩;obtain⟨g,X⟩:∃g,g=n-b:=⟨_,rfl⟩;obtain⟨i,Y⟩:∃i,i=n-d:=⟨_,rfl⟩;obtain⟨o,a4⟩:∃o,o=2* a:=⟨_,rfl⟩;obtain⟨q,a5⟩:∃q,q=n-o:=⟨_,rfl⟩;have ap:J.wrap (2* (a:Int))=(o:Int):=by rw[aG _ oO oO];omega
 have av:J.wrap ((o:Int)+(k:Int))=(b:Int):=by rw[aG _ oO oO];omega
 have a0:J.wrap ((o:Int)+(m:Int))=(d:Int):=by rw[aG _ oO oO];omega
 have a1:J.wrap ((n:Int)-(o:Int))=(q:Int):=by rw[aG _ oO oO];omega
 have a2:J.wrap ((q:Int)-(k:Int))=(g:Int):=by rw[aG _ oO oO];omega
 have a3:J.wrap ((q:Int)-(m:Int))=(i:Int):=by rw[aG _ oO oO];omega
 have S:w2 (cM L c a 2 m k=(bJ L c g,bJ L c i)):=by
  show _=_;clear ap av a0 a1 a2 a3;subst X Y K T V;rfl
 have D:b<aE L c:=oO;have E:d<aE L c:=oO;have F:g<aE L c:=oO;have G:i<aE L c:=oO;have bx:a<=32:=oO;have bz:m<=142:=oO;have b1:n<=142:=oO;have a9:b<=142/\d<=142/\g<=142/\i<=142:=oO;obtain⟨bq,bs,bt,bv⟩:=a9;have H:=aa M;have bo:=aa N;obtain⟨l,B⟩:∃l,l=w.alloc (.cells #[I J 0,I J 0] 47):=⟨_,rfl⟩;have z:w2 (af w l):=by show y5 _ _ _;rw[B];exact ax _ _
 have ab:w2 (∀W,af l W->ag W w.heap.size #[I J 0,I J 0] 47):=λW f=>by
  have:ag l w.heap.size #[I J 0,I J 0] 47:=by rw[B];exact ag.new _ _ _ _ oS
  exact this.below f
 cases c with
 |true=>
  have bf:w2 (∀W,af l W->wS w1 137 #[I J g] W (au (I J ((bJ L wP g:Nat):Int)) W)):=λW f=>by rw[show bJ L wP g=g from rfl];exact(ku g W).mono (by rintro e r ⟨rfl,rfl⟩;exact⟨rfl,w3 _ _⟩)
  have bi:w2 (∀W,af l W->wS w1 137 #[I J i] W (au (I J ((bJ L wP i:Nat):Int)) W)):=λW f=>by rw[show bJ L wP i=i from rfl];exact(ku i W).mono (by rintro e r ⟨rfl,rfl⟩;exact⟨rfl,w3 _ _⟩)
  have A:w2 (∀W,af l W->W.cell? ⟨s,0,U⟩=gk (.func (U4 137) #[] #[])/\W.cell? ⟨lb,0,U⟩=gk (I J n)/\W.cell? ⟨t,0,U⟩=gk (I J a)):=by
   exact vE
  rw[S.out];have bb:w2 (bJ L wP g<=200/\bJ L wP i<=200):=by
   have:=fL j F;have:=fL j G;have:=eI (c:=wP) j
   show _/\_;omega
  generalize bJ L wP g=x at*;generalize bJ L wP i=y at*;exact R6
 |false=>
  have bf:w2 (∀W,af l W->wS w1 138 #[I J g,.pointer (gk ⟨hb,0,U⟩),.pointer (gk ⟨p,0,U⟩)] W (au (I J ((bJ L R g:Nat):Int)) W)):=λW f=>(kn L g hb p W j F ((H.out.fP (bg.below (ae z.out f))).H rfl)).mono (by rintro e r ⟨rfl,rfl⟩;exact⟨rfl,w3 _ _⟩);have bi:w2 (∀W,af l W->wS w1 138 #[I J i,.pointer (gk ⟨hb,0,U⟩),.pointer (gk ⟨p,0,U⟩)] W (au (I J ((bJ L R i:Nat):Int)) W)):=λW f=>(kn L i hb p W j G ((H.out.fP (bg.below (ae z.out f))).H rfl)).mono (by rintro e r ⟨rfl,rfl⟩;exact⟨rfl,w3 _ _⟩);have A:w2 (∀W,af l W->W.cell? ⟨s,0,U⟩=gk (.func (U4 138) #[] #[.pointer (gk ⟨hb,0,U⟩),.pointer (gk ⟨p,0,U⟩)])/\W.cell? ⟨lb,0,U⟩=gk (I J n)/\W.cell? ⟨t,0,U⟩=gk (I J a)):=by
   exact vE
  rw[S.out];have bb:w2 (bJ L R g<=200/\bJ L R i<=200):=by
   have:=fL j F;have:=fL j G;have:=eI (c:=R) j
   show _/\_;omega
  generalize bJ L R g=x at*;generalize bJ L R i=y at*;exact R6
theorem Hv (L:Nat) (c:Bool) (s lb t hb p a m k:Nat) (w:wR) (j:L<=32) (O:a<L) (P:m<rN L c a) (Q:k<2) (M:pH L c s lb hb p w) (N:ag w t #[I J a] 3):
 wS w1 97 #[I J m,I J k,.pointer (gk ⟨s,0,U⟩),.pointer (gk ⟨lb,0,U⟩),.pointer (gk ⟨t,0,U⟩)] w (au (.agg #[I J (((cM L c a 3 m k).1:Nat):Int),I J (((cM L c a 3 m k).2:Nat):Int)]) w):=by
 obtain⟨u,a6⟩:=zL (s:=0) j O P Q;have a7:=(jc (c:=c) j).2;obtain⟨b,T⟩:∃b,b=2* a+k:=⟨_,rfl⟩;obtain⟨d,V⟩:∃d,d=2* a+m:=⟨_,rfl⟩;obtain⟨n,K⟩:∃n,n=aE L c-1:=⟨_,rfl⟩;obtain⟨g,X⟩:∃g,g=n-b:=⟨_,rfl⟩;obtain⟨i,Y⟩:∃i,i=n-d:=⟨_,rfl⟩;obtain⟨o,a4⟩:∃o,o=2* a:=⟨_,rfl⟩;obtain⟨q,a5⟩:∃q,q=n-o:=⟨_,rfl⟩;have ap:J.wrap (2* (a:Int))=(o:Int):=by rw[aG _ oO oO];omega
 have av:J.wrap ((o:Int)+(k:Int))=(b:Int):=by rw[aG _ oO oO];omega
 have a0:J.wrap ((o:Int)+(m:Int))=(d:Int):=by rw[aG _ oO oO];omega
 have a1:J.wrap ((n:Int)-(o:Int))=(q:Int):=by rw[aG _ oO oO];omega
 have a2:J.wrap ((q:Int)-(k:Int))=(g:Int):=by rw[aG _ oO oO];omega
 have a3:J.wrap ((q:Int)-(m:Int))=(i:Int):=by rw[aG _ oO oO];omega
 have S:w2 (cM L c a 3 m k=(bJ L c i,bJ L c b)):=by
  show _=_;clear ap av a0 a1 a2 a3;subst X Y K T V;rfl
 have D:b<aE L c:=oO;have E:d<aE L c:=oO;have F:g<aE L c:=oO;have G:i<aE L c:=oO;have bx:a<=32:=oO;have bz:m<=142:=oO;have b1:n<=142:=oO;have a9:b<=142/\d<=142/\g<=142/\i<=142:=oO;obtain⟨bq,bs,bt,bv⟩:=a9;have H:=aa M;have bo:=aa N;obtain⟨l,B⟩:∃l,l=w.alloc (.cells #[I J 0,I J 0] 47):=⟨_,rfl⟩;have z:w2 (af w l):=by show y5 _ _ _;rw[B];exact ax _ _
 have ab:w2 (∀W,af l W->ag W w.heap.size #[I J 0,I J 0] 47):=λW f=>by
  have:ag l w.heap.size #[I J 0,I J 0] 47:=by rw[B];exact ag.new _ _ _ _ oS
  exact this.below f
 cases c with
 |true=>
  have bi:w2 (∀W,af l W->wS w1 137 #[I J i] W (au (I J ((bJ L wP i:Nat):Int)) W)):=λW f=>by rw[show bJ L wP i=i from rfl];exact(ku i W).mono (by rintro e r ⟨rfl,rfl⟩;exact⟨rfl,w3 _ _⟩)
  have bd:w2 (∀W,af l W->wS w1 137 #[I J b] W (au (I J ((bJ L wP b:Nat):Int)) W)):=λW f=>by rw[show bJ L wP b=b from rfl];exact(ku b W).mono (by rintro e r ⟨rfl,rfl⟩;exact⟨rfl,w3 _ _⟩)
  have A:w2 (∀W,af l W->W.cell? ⟨s,0,U⟩=gk (.func (U4 137) #[] #[])/\W.cell? ⟨lb,0,U⟩=gk (I J n)/\W.cell? ⟨t,0,U⟩=gk (I J a)):=by
   exact vE
  rw[S.out];have bb:w2 (bJ L wP i<=200/\bJ L wP b<=200):=by
   have:=fL j G;have:=fL j D;have:=eI (c:=wP) j
   show _/\_;omega
  generalize bJ L wP i=x at*;generalize bJ L wP b=y at*;exact RN
 |false=>
  have bi:w2 (∀W,af l W->wS w1 138 #[I J i,.pointer (gk ⟨hb,0,U⟩),.pointer (gk ⟨p,0,U⟩)] W (au (I J ((bJ L R i:Nat):Int)) W)):=λW f=>(kn L i hb p W j G ((H.out.fP (bg.below (ae z.out f))).H rfl)).mono (by rintro e r ⟨rfl,rfl⟩;exact⟨rfl,w3 _ _⟩);have bd:w2 (∀W,af l W->wS w1 138 #[I J b,.pointer (gk ⟨hb,0,U⟩),.pointer (gk ⟨p,0,U⟩)] W (au (I J ((bJ L R b:Nat):Int)) W)):=λW f=>(kn L b hb p W j D ((H.out.fP (bg.below (ae z.out f))).H rfl)).mono (by rintro e r ⟨rfl,rfl⟩;exact⟨rfl,w3 _ _⟩);have A:w2 (∀W,af l W->W.cell? ⟨s,0,U⟩=gk (.func (U4 138) #[] #[.pointer (gk ⟨hb,0,U⟩),.pointer (gk ⟨p,0,U⟩)])/\W.cell? ⟨lb,0,U⟩=gk (I J n)/\W.cell? ⟨t,0,U⟩=gk (I J a)):=by
   exact vE
  rw[S.out];have bb:w2 (bJ L R i<=200/\bJ L R b<=200):=by
   have:=fL j G;have:=fL j D;have:=eI (c:=R) j
   show _/\_;omega
  generalize bJ L R i=x at*;generalize bJ L R b=y at*;exact RN
structure BP (n:Nat) (w wr:wR) (a:Nat) (ps:List Pt):Prop where
 B:y5 n w wr
 X:∃A c,ag wr a #[.slice A ps.length c] 40/\wr.ownsRow n 47 2 (.slice A ps.length c) ps.length (ps.flatMap fZ)
 n1:n<=a
 n2:n<=wr.heap.size
theorem BP.below {n:Nat} {w wr W:wR} {b:Nat} {ps:List Pt} (h:BP n w wr b ps) (a:af wr W):BP n w W b ps:=by
 obtain⟨A,c,d,e⟩:=h.X;exact⟨h.B.trans (a.mono h.n2),⟨A,c,d.below a,aq e a⟩,h.n1,x3 h.n2 a.size⟩
theorem se {n:Nat} {w:wR} {a q:Nat} {u:xf} {v:xf} {k:Nat} {c:List xf} (b:ag w a #[u] 40) (d:w.ownsRow n 47 2 v k c) (hq:v.ownBlock=gk q):q≠a:=by
 rcases d.2 with⟨rfl,_⟩|⟨f,cap,g,rfl,_,hg,_⟩
 ·cases hq
 ·simp only[Value.ownBlock,Option.some.injEq]at hq;subst hq;intro e;subst e;unfold ag at b;rw[b]at hg;injection hg with hg;injection hg with _ e _;exact absurd e oD
theorem bg.grown {n:Nat} {w W:wR} {v:xf} {k:Nat} {b:List xf} (h:w.ownsRow n 47 2 v k b) (hg:w.grownBy W v.ownBlock):bg w W:=by
 intro q d a hn;refine(hg.block q (ay a) ?_).trans a;intro e;rcases h.2 with⟨rfl,_⟩|⟨f,cap,g,rfl,_,c,_⟩
 ·cases e
 ·simp only[Value.ownBlock,Option.some.injEq]at e;subst e;rw[c]at a;injection a with a;subst a;exact absurd hn (by simp[zx])
theorem bg.eN {w:wR} {b i:Nat} {c:Array xf} (h:ag w b c 40) (u:xf):bg w (w.setCell ⟨b,i,U⟩ u):=by
 intro q d a hn;refine(HP _ _ _ _ ?_).trans a;intro e;subst e;unfold ag at h;rw[h]at a;injection a with a;subst a;exact absurd hn (by simp[zx])
theorem NT {n:Nat} {w:wR} {b:Nat} {u:xf} {v:xf} {k:Nat} {c:List xf} (e:ag w b #[u] 40) (a:w.ownsRow n 47 2 v k c) (y:xf):(w.setCell ⟨b,0,U⟩ y).ownsRow n 47 2 v k c:=by
 refine⟨a.1,?_⟩;rcases a.2 with f|⟨d,cap,g,e1,e2,e3,e4⟩
 ·exact .inl f
 ·refine .inr ⟨d,cap,g,e1,e2,(HP _ _ _ _ ?_).trans e3,e4⟩;exact se e a (by rw[e1];rfl)
theorem GA {a:Act} {d:Oper} {W:wR} {x q:Operand} (e:d.op= .store 40 q x) (b:Addr) (A:Option Addr) (n c:Nat) (hq:a.eval q= .pointer (gk b)) (f:a.eval x= .slice A n c) {u:xf} (hc:W.cell? b=gk u) (g:W.frozen? b=R):
 (execOp a.eval d).run w1 W= .ok .skip (W.setCell b (.slice A n c)):=by
 unfold execOp;simp only[e,hq,f,Instr.storeAt,Instr.sureAddr,Sem.run_bind,Sem.run_pure,Result.andThen_ok];go_simp
theorem ke {i:Array Oper} {S:wR->Prop} {K:Act->wR->Prop} {j:List (Bool×Nat×Oper)} {k:Nat} {d:Oper} {a:Act} {W:wR} {base:Nat} {A:Option Addr} {g:Addr} {n c m o:Nat} {p ys:List Pt} (t:W.ownsRow base 47 2 (.slice A n c) n (p.flatMap fZ)) (hb:base<=W.heap.size)
 (C:Region.wanted d (yielded i a.tmps)=wP) (s y:Operand) (v:d.op= .call {callee:= .builtin .append,args:=#[s,y],argTypes:=#[40,40]}) (hs:a.eval s= .slice A n c) (w:a.eval y= .slice (gk g) m o) (x:m=ys.length)
 (z:∀l u,(ys.flatMap fZ)[l]?=gk u->W.cell? (g.add l)=gk u) (hl:n+m<=1000000)
 (B:∀e f b,b.ownsRow base 47 2 (.slice e (n+m) f) (n+m) ((p++ys).flatMap fZ)->W.grownBy b (Value.slice A n c).ownBlock->S b/\bI w1 i S K j (a.put d.dst (.slice e (n+m) f)) b):
 bI w1 i S K ((wP,k,d)::j) a W:=by
 obtain⟨E,b,D,r,hg,-⟩:=Ad d.type t hb g m o ys x z hl;obtain⟨e,f,rfl⟩:=cA r;have q:=B e f b r hg;refine fl C ?_ q.1 q.2;unfold execOp;simp only[v,resolve,invoke,builtin,Sem.run_bind,Sem.run_pure,Result.andThen_ok,List.map_toArray,List.map_cons,List.map_nil,hs,w,D]
theorem kr (n:Nat) (w0 w:wR) (i:Nat) (ps:List Pt) (F:Nat) (N:Array xf) (L f s z:Nat) (c:Bool) (h:BP n w0 w i ps) (hl:ps.length<=60000) (c3:z<=140) (c6:∀(args:Array xf) (W:wR),(callFunc F args).run w1 W= .ok (.enter F args) W)
 (bz:∀W,bg w W->∀a,a<z->wS w1 F (#[I J a,I J 0]++N) W (au (.agg #[I J (((cM L c f s a 0).1:Nat):Int),I J (((cM L c f s a 0).2:Nat):Int)]) W))
 (b1:∀W,bg w W->∀a,a<z->wS w1 F (#[I J a,I J 1]++N) W (au (.agg #[I J (((cM L c f s a 1).1:Nat):Int),I J (((cM L c f s a 1).2:Nat):Int)]) W)):
 wS w1 93 #[I J z,.func (U4 F) #[] N,.pointer (gk ⟨i,0,U⟩)] w λe bf=>e= .returned (.tuple #[])/\BP n w0 bf i (ps++jL L c f s z)/\bg w bf:=by
 have bi:w2 (BP n w0 w i (ps++jL L c f s 0)/\bg w w):=by
  show _/\_;rw[show jL L c f s 0=[]from rfl,List.append_nil];exact⟨h,bg.refl _⟩
 have b7:=aa bz;have b9:=aa b1;clear h bz b1;go_enter func93,ntmps93;go_wp2;go_loopw [7] (λal wr=>∃a:Nat,a<=z/\al=I J a/\w2 (BP n w0 wr i (ps++jL L c f s a)/\bg w wr)) (λal _=>z-(intOf al).toNat)
 case atStart=>exact⟨0,Nat.zero_le _,rfl,bi⟩
 case round=>
  clear bi;obtain⟨a,c4,rfl,B⟩:=hrel;by_cases bt:a<z
  ·obtain⟨A,y,bo,bq⟩:=B.out.1.X;have l:=aa bo;have m:=aa bq;have j:w2 (n<=i/\n<=wr.heap.size):=⟨B.out.1.n1,B.out.1.n2⟩;have P:=aa B.out.1.B;have am:=aa B.out.2;have ca:w2 (ps++jL L c f s (a+1)=(ps++jL L c f s a)++[cM L c f s a 0,cM L c f s a 1]):=by
    show _=_;rw[AL,List.append_assoc];rfl
   have X:w2 ((ps++jL L c f s a).length<=70000):=by
    show _<=_;rw[w9,qY];omega
   have bv:w2 (∀W,bg wr W->wS w1 F (#[I J a,I J 0]++N) W (au (.agg #[I J (((cM L c f s a 0).1:Nat):Int),I J (((cM L c f s a 0).2:Nat):Int)]) W)):=λW K=>b7.out W (am.out.trans K) a bt;have a0:w2 (∀W,bg wr W->wS w1 F (#[I J a,I J 1]++N) W (au (.agg #[I J (((cM L c f s a 1).1:Nat):Int),I J (((cM L c f s a 1).2:Nat):Int)]) W)):=λW K=>b9.out W (am.out.trans K) a bt;have c5:w2 (∀W,af wr W->W.cell? ⟨i,0,U⟩=gk (.slice A (ps++jL L c f s a).length y)):=λW K=>(l.out.below K).cell 0 _ rfl;generalize cM L c f s a 0=g at*;generalize cM L c f s a 1=p1 at*;generalize cb:ps++jL L c f s a=ap at*;generalize bx:ap.length=nl at*;have ce:=aa bx;clear cb bx bo bq B;go_wp2;have M:w2 (af wr wr.drew):=ai (w3 _ _);have cq:w2 (∀p r d,y5 n w0 d->d.ownsRow n 47 2 (.slice p (nl+2) r) (nl+2) ((ap++[g,p1]).flatMap fZ)->ag d i #[.slice A nl y] 40->bg wr d->n<=d.heap.size->w2 (BP n w0 (d.setCell ⟨i,0,U⟩ (.slice p (nl+2) r)) i (ps++jL L c f s (a+1))/\bg w (d.setCell ⟨i,0,U⟩ (.slice p (nl+2) r)))):=by
    show∀_ _ _,_;intro p r d ch ci a1 ck co;have bs:(ap++[g,p1]).length=nl+2:=by rw[w9,ce.out];rfl
    show BP _ _ _ _ _/\_;rw[ca.out];refine⟨⟨ch.setCell (by exact j.out.1) _,⟨p,r,?_,?_⟩,j.out.1,by simpa using co⟩,(am.out.trans ck).trans (bg.eN a1 _)⟩
    ·rw[bs];exact a1.eN _
    ·rw[bs];exact NT a1 ci _
   refine rY (S:=λ_=>True) (.br [(R,1),(R,2),(R,4),(R,5)] [0,3] (λk=>if k=0 then .last [(wP,3),(wP,6),(wP,7),(wP,8),(wP,9)]else .br [] [0,6] (λk=>if k=0 then .last [(wP,6),(wP,7),(wP,8),(wP,9)]else .br [] [0,7] (λk=>if k=0 then .last [(wP,7),(wP,8),(wP,9)]else .last [(wP,0),(wP,8),(wP,9)])))) oK oK trivial ?_;simp only[reduceIte,Nat.reduceEqDiff,aT,aH,w7,w8];refine zU ?_;refine zU ?_;refine zU ?_;refine zU ?_;refine aj ?_;intro k C;simp only[AQ,Ay,or_false]at C;rcases C with rfl|rfl
   ·simp only[reduceIte,Nat.reduceEqDiff,aT,aH,w7,w8];refine' zQ (v:= .slice A nl y) (w':=wr.drew) rfl (by have av:=(l.out.below M.out).cell 0 _ rfl;go_simp) trivial ?_;refine aj ?_
    (try simp only[reduceIte,Nat.reduceEqDiff,aT,aH,w7,w8])
    refine zZ ?_;refine(bv.out _ (bg.below M.out)).mono ?_;rintro e c7 ⟨rfl,hb⟩;have b2:=aa (ae M.out hb);clear hb;refine⟨_,rfl,trivial,jO ?_⟩;refine zZ ?_;refine(a0.out _ (bg.below b2.out)).mono ?_;rintro e a2 ⟨rfl,hb⟩;have cr:=aa (ae b2.out hb);clear hb;refine⟨_,rfl,trivial,jO ?_⟩;obtain⟨a3,Z⟩:∃E,E=a2.alloc (.cells #[I J (g.1:Int),I J (g.2:Int),I J (p1.1:Int),I J (p1.2:Int)] 47):=⟨_,rfl⟩;have t:w2 (af wr a3):=by show y5 _ _ _;rw[Z];exact ah cr.out _
    obtain⟨b3,a8⟩:∃b,b=a2.heap.size:=⟨_,rfl⟩;have cs:w2 (∀a u,(([g,p1]:List Pt).flatMap fZ)[a]?=gk u->a3.cell? ((⟨b3,0,U⟩:Addr).add a)=gk u):=by show∀_ _,_;rw[Z,a8];exact gL a2 [g,p1] _
    refine' zQ (v:= .slice (gk ⟨b3,0,U⟩) 2 2) (w':=a3) rfl (by rw[Z,a8];go_simp) trivial ?_;clear Z a8;refine' ke (ys:=[g,p1]) (aq m.out t.out) (x3 j.out.2 t.out.size) rfl _ _ rfl rfl rfl rfl cs.out (by have:=X.out;omega) ?_;intro p r d D hg;have S:=aa D;have H:w2 (ag d i #[.slice A nl y] 40):=(hg.block i (ay (l.out.below t.out)) (λe=>se (l.out.below t.out) (aq m.out t.out) e.symm rfl)).trans (l.out.below t.out);have T:w2 (bg wr d):=(bg.below t.out).trans (bg.grown (aq m.out t.out) hg);have Q:w2 (y5 n w0 d):=(P.out.trans (t.out.mono j.out.2)).grown hg (x3 j.out.2 t.out.size) (λq hq=>((aq m.out t.out).lt q hq).1);have V:w2 (n<=d.heap.size):=x3 j.out.2 (x3 t.out.size hg.size);exact Jx
   ·simp only[reduceIte,Nat.reduceEqDiff,aT,aH,w7,w8];refine zZ ?_;refine(bv.out _ (bg.below M.out)).mono ?_;rintro e cp ⟨rfl,hb⟩;have O:=aa (ae M.out hb);clear hb;refine⟨_,rfl,trivial,jO ?_⟩;refine aj ?_
    (try simp only[reduceIte,Nat.reduceEqDiff,aT,aH,w7,w8])
    refine aj ?_;intro k C;simp only[AQ,Ay,or_false]at C;rcases C with rfl|rfl
    ·simp only[reduceIte,Nat.reduceEqDiff,aT,aH,w7,w8];refine' zQ (v:= .slice A nl y) (w':=cp) rfl (by have av:=(l.out.below O.out).cell 0 _ rfl;go_simp) trivial ?_;refine aj ?_
     (try simp only[reduceIte,Nat.reduceEqDiff,aT,aH,w7,w8])
     refine zZ ?_;refine(a0.out _ (bg.below O.out)).mono ?_;rintro e a4 ⟨rfl,hb⟩;have cv:=aa (ae O.out hb);clear hb;refine⟨_,rfl,trivial,jO ?_⟩;obtain⟨a5,ab⟩:∃E,E=a4.alloc (.cells #[I J (g.1:Int),I J (g.2:Int),I J (p1.1:Int),I J (p1.2:Int)] 47):=⟨_,rfl⟩;have v:w2 (af wr a5):=by show y5 _ _ _;rw[ab];exact ah cv.out _
     obtain⟨b4,a9⟩:∃b,b=a4.heap.size:=⟨_,rfl⟩;have cx:w2 (∀a u,(([g,p1]:List Pt).flatMap fZ)[a]?=gk u->a5.cell? ((⟨b4,0,U⟩:Addr).add a)=gk u):=by show∀_ _,_;rw[ab,a9];exact gL a4 [g,p1] _
     refine' zQ (v:= .slice (gk ⟨b4,0,U⟩) 2 2) (w':=a5) rfl (by rw[ab,a9];go_simp) trivial ?_;clear ab a9;refine' ke (ys:=[g,p1]) (aq m.out v.out) (x3 j.out.2 v.out.size) rfl _ _ rfl rfl rfl rfl cx.out (by have:=X.out;omega) ?_;intro p r d D hg;have S:=aa D;have H:w2 (ag d i #[.slice A nl y] 40):=(hg.block i (ay (l.out.below v.out)) (λe=>se (l.out.below v.out) (aq m.out v.out) e.symm rfl)).trans (l.out.below v.out);have T:w2 (bg wr d):=(bg.below v.out).trans (bg.grown (aq m.out v.out) hg);have Q:w2 (y5 n w0 d):=(P.out.trans (v.out.mono j.out.2)).grown hg (x3 j.out.2 v.out.size) (λq hq=>((aq m.out v.out).lt q hq).1);have V:w2 (n<=d.heap.size):=x3 j.out.2 (x3 v.out.size hg.size);exact Jx
    ·simp only[reduceIte,Nat.reduceEqDiff,aT,aH,w7,w8];refine zZ ?_;refine(a0.out _ (bg.below O.out)).mono ?_;rintro e G ⟨rfl,hb⟩;have a7:=aa (ae O.out hb);clear hb;refine⟨_,rfl,trivial,jO ?_⟩;refine aj ?_
     (try simp only[reduceIte,Nat.reduceEqDiff,aT,aH,w7,w8])
     refine aj ?_;intro k C;simp only[AQ,Ay,or_false]at C;rcases C with rfl|rfl
     ·simp only[reduceIte,Nat.reduceEqDiff,aT,aH,w7,w8];refine' zQ (v:= .slice A nl y) (w':=G) rfl (by have av:=(l.out.below a7.out).cell 0 _ rfl;go_simp) trivial ?_;refine aj ?_
      (try simp only[reduceIte,Nat.reduceEqDiff,aT,aH,w7,w8])
      obtain⟨a6,ac⟩:∃E,E=G.alloc (.cells #[I J (g.1:Int),I J (g.2:Int),I J (p1.1:Int),I J (p1.2:Int)] 47):=⟨_,rfl⟩;have x:w2 (af wr a6):=by show y5 _ _ _;rw[ac];exact ah a7.out _
      obtain⟨b5,bb⟩:∃b,b=G.heap.size:=⟨_,rfl⟩;have cy:w2 (∀a u,(([g,p1]:List Pt).flatMap fZ)[a]?=gk u->a6.cell? ((⟨b5,0,U⟩:Addr).add a)=gk u):=by show∀_ _,_;rw[ac,bb];exact gL G [g,p1] _
      refine' zQ (v:= .slice (gk ⟨b5,0,U⟩) 2 2) (w':=a6) rfl (by rw[ac,bb];go_simp) trivial ?_;clear ac bb;refine' ke (ys:=[g,p1]) (aq m.out x.out) (x3 j.out.2 x.out.size) rfl _ _ rfl rfl rfl rfl cy.out (by have:=X.out;omega) ?_;intro p r d D hg;have S:=aa D;have H:w2 (ag d i #[.slice A nl y] 40):=(hg.block i (ay (l.out.below x.out)) (λe=>se (l.out.below x.out) (aq m.out x.out) e.symm rfl)).trans (l.out.below x.out);have T:w2 (bg wr d):=(bg.below x.out).trans (bg.grown (aq m.out x.out) hg);have Q:w2 (y5 n w0 d):=(P.out.trans (x.out.mono j.out.2)).grown hg (x3 j.out.2 x.out.size) (λq hq=>((aq m.out x.out).lt q hq).1);have V:w2 (n<=d.heap.size):=x3 j.out.2 (x3 x.out.size hg.size);exact Jx
     ·simp only[reduceIte,Nat.reduceEqDiff,aT,aH,w7,w8];obtain⟨Y,ad⟩:∃E,E=G.alloc (.cells #[I J (g.1:Int),I J (g.2:Int),I J (p1.1:Int),I J (p1.2:Int)] 47):=⟨_,rfl⟩;have o:w2 (af wr Y):=by show y5 _ _ _;rw[ad];exact ah a7.out _
      obtain⟨b6,bd⟩:∃b,b=G.heap.size:=⟨_,rfl⟩;have c2:w2 (∀a u,(([g,p1]:List Pt).flatMap fZ)[a]?=gk u->Y.cell? ((⟨b6,0,U⟩:Addr).add a)=gk u):=by show∀_ _,_;rw[ad,bd];exact gL G [g,p1] _
      refine' zQ (v:= .slice (gk ⟨b6,0,U⟩) 2 2) (w':=Y) rfl (by rw[ad,bd];go_simp) trivial ?_;clear ad bd;refine aj ?_
      (try simp only[reduceIte,Nat.reduceEqDiff,aT,aH,w7,w8])
      refine' zQ (v:= .slice A nl y) (w':=Y) rfl (by have av:=(l.out.below o.out).cell 0 _ rfl;go_simp) trivial ?_;refine' ke (ys:=[g,p1]) (aq m.out o.out) (x3 j.out.2 o.out.size) rfl _ _ rfl rfl rfl rfl c2.out (by have:=X.out;omega) ?_;intro p r d D hg;have S:=aa D;have H:w2 (ag d i #[.slice A nl y] 40):=(hg.block i (ay (l.out.below o.out)) (λe=>se (l.out.below o.out) (aq m.out o.out) e.symm rfl)).trans (l.out.below o.out);have T:w2 (bg wr d):=(bg.below o.out).trans (bg.grown (aq m.out o.out) hg);have Q:w2 (y5 n w0 d):=(P.out.trans (o.out.mono j.out.2)).grown hg (x3 j.out.2 o.out.size) (λq hq=>((aq m.out o.out).lt q hq).1);have V:w2 (n<=d.heap.size):=x3 j.out.2 (x3 o.out.size hg.size);exact Jx
  ·obtain rfl:a=z:=oO;go_wp2;refine bodyPost_end (results_none rfl _ _ _) rfl ?_;exact⟨rfl,B.out.1,B.out.2⟩
theorem ag.Pu {w:wR} {a:Nat} {u:xf} {b:TypeId} (h:ag w a #[u] b) (v:xf):ag (w.setCell ⟨a,0,U⟩ v) a #[v] b:=heap_setCell_same w a 0 #[u] b v h
theorem ag.jK {w:wR} {a:Nat} {d:Array xf} {b:TypeId} (h:ag w a d b) (c:Addr) (v:xf) (e:a≠c.block):ag (w.setCell c v) a d b:=(HP _ _ _ _ e).trans h
theorem Bi (L:Nat) (w:wR) (x:L<=32):wS w1 92 #[bX L R] w λe E=>∃hb F,e= .returned (.func (U4 138) #[] #[.pointer (gk ⟨hb,0,U⟩),.pointer (gk ⟨F,0,U⟩)])/\HC L E hb F/\af w E:=by
 have z:=fI w L R;have O:w2 (∀W,wS w1 36 #[bX L R] W (au (I J ((aB L R:Nat):Int)) W)):=λW=>oR L R W x;have P:w2 (∀W,wS w1 85 #[bX L R] W (au (I J ((aE L R:Nat):Int)) W)):=λW=>tf L R W x;have V:=aa (jc (c:=R) x);have X:=aa (eI (c:=R) x);unfold HC cI;generalize aE L R=B at*;generalize aB L R=S at*;obtain⟨ab,ac⟩:=V.out;obtain⟨ad,al⟩:=X.out;obtain⟨n,Q⟩:∃n,n=B/2:=⟨_,rfl⟩;obtain⟨m,G⟩:∃m,m=(S-1)/2:=⟨_,rfl⟩;rw[<-Q,<-G];have e1:(B:Int)/2=(n:Int):=oO;obtain⟨y,Y⟩:∃y,y=S-1:=⟨_,rfl⟩;have am:J.wrap ((S:Int)-1)=(y:Int):=by rw[aG _ oO oO];omega
 have e4:(y:Int)/2=(m:Int):=oO;have ap:J.wrap (m:Int)=(m:Int):=aG _ oO oO;have av:J.wrap (n:Int)=(n:Int):=aG _ oO oO;have a0:n<=200:=oO;have a1:m<=200:=oO;clear Q G Y;obtain⟨g,t⟩:∃g,g=w.alloc (cN L R):=⟨_,rfl⟩;have Z:w2 (af w g):=by show y5 _ _ _;rw[t];exact ax _ _
 rw[<-t]at z;have C:w2 (af g g.drew):=ai (w3 _ _);obtain⟨H,K⟩:=z.out _ (w3 _ _);rw[t]at H K;go_enter func92,ntmps92;go_wp2;rw[<-t];clear H K t;refine rY (S:=af g) (.br [(R,0),(R,4)] [1,7,8] (λk=>if k=1 then .br [(R,2),(R,3)] [5,7,8] (λk=>if k=5 then .br [(R,6)] [7,8] (λk=>if k=7 then .last [(wP,8),(wP,9),(wP,10)]else .last [(wP,7),(wP,9),(wP,10)])else if k=7 then .br [] [5,8] (λk=>if k=5 then .last [(R,6),(wP,8),(wP,9),(wP,10)]else .last [(wP,5),(R,6),(wP,9),(wP,10)])else .br [] [5,7] (λk=>if k=5 then .last [(R,6),(wP,7),(wP,9),(wP,10)]else .last [(wP,5),(R,6),(wP,9),(wP,10)]))else if k=7 then .br [] [1,8] (λk=>if k=1 then .br [(R,2),(R,3)] [5,8] (λk=>if k=5 then .last [(R,6),(wP,8),(wP,9),(wP,10)]else .last [(wP,5),(R,6),(wP,9),(wP,10)])else .last [(wP,1),(R,2),(R,3),(wP,5),(R,6),(wP,9),(wP,10)])else .br [] [1,7] (λk=>if k=1 then .br [(R,2),(R,3)] [5,7] (λk=>if k=5 then .last [(R,6),(wP,7),(wP,9),(wP,10)]else .last [(wP,5),(R,6),(wP,9),(wP,10)])else .last [(wP,1),(R,2),(R,3),(wP,5),(R,6),(wP,9),(wP,10)]))) oK oK C.out ?_;simp only[reduceIte,Nat.reduceEqDiff,aT,aH,w7,w8];obtain⟨wc,D⟩:∃W,W=g.drew:=⟨_,rfl⟩;have d:w2 (af g wc):=by show y5 _ _ _;rw[D];exact C.out
 rw[<-D];clear D C
 repeat' (first
  |(refine' lP rfl (λW T=>?_) ?_;rotate_left;(have a2:=z.out W T;go_simp;rfl);simp only[yQ,yU,yX,yY])
  |(refine' nG rfl (λW=>?_) ?_;rotate_left 2;(focus (go_simp;exact⟨rfl,rfl⟩));(first|refine(O.out _).mono ?_|refine(P.out _).mono ?_);rintro e f ⟨rfl,a⟩;(have i:=aa (ae d.out a));(try(have j:=aa (j.out.below a)));(try(have l:=aa (l.out.below a)));(have d:=i);clear i a;(obtain⟨wc,o⟩:∃W,W=f:=⟨_,rfl⟩);(subst o);refine⟨_,rfl,d.out,?_⟩;simp only[yQ,yU,yX,yY])
  |((with_reducible show bI _ _ _ _ ((_,7,_)::_) _ _);refine' fl (v:= .pointer (gk ⟨wc.heap.size,0,U⟩)) (w':=wc.alloc (.cells #[I J 0] 3)) rfl ?_ (ah d.out _) ?_;(focus (go_simp;done));simp only[yQ,yU,yX,yY];(obtain⟨q,u⟩:∃b,b=wc.heap.size:=⟨_,rfl⟩);(obtain⟨f,a⟩:∃p,p=wc.alloc (.cells #[I J 0] 3):=⟨_,rfl⟩);rw[<-a,<-u];(have i:w2 (af g f):=by show y5 _ _ _;rw[a];exact ah d.out _);(have j:w2 (ag f q #[I J 0] 3):=by show ag _ _ _ _;rw[a,u];exact ag.new _ _ _ _ oS);(have M:w2 (g.heap.size<=q):=by show _<=_;rw[u];exact d.out.size);(try(have c:=Nat.ne_of_lt (ay l.out);rw[<-u]at c;have A:=aa c.symm;clear c));(try(have c:=l.out.below (ax wc (.cells #[I J 0] 3));rw[<-a]at c;have l:=aa c;clear c));clear u;(have d:=i);clear i a;(obtain⟨wc,o⟩:∃W,W=f:=⟨_,rfl⟩);(subst o))
  |((with_reducible show bI _ _ _ _ ((_,8,_)::_) _ _);refine' fl (v:= .pointer (gk ⟨wc.heap.size,0,U⟩)) (w':=wc.alloc (.cells #[I J 0] 3)) rfl ?_ (ah d.out _) ?_;(focus (go_simp;done));simp only[yQ,yU,yX,yY];(obtain⟨r,v⟩:∃b,b=wc.heap.size:=⟨_,rfl⟩);(obtain⟨f,a⟩:∃p,p=wc.alloc (.cells #[I J 0] 3):=⟨_,rfl⟩);rw[<-a,<-v];(have i:w2 (af g f):=by show y5 _ _ _;rw[a];exact ah d.out _);(have l:w2 (ag f r #[I J 0] 3):=by show ag _ _ _ _;rw[a,v];exact ag.new _ _ _ _ oS);(have N:w2 (g.heap.size<=r):=by show _<=_;rw[v];exact d.out.size);(try(have c:=Nat.ne_of_lt (ay j.out);rw[<-v]at c;have A:=aa c;clear c));(try(have c:=j.out.below (ax wc (.cells #[I J 0] 3));rw[<-a]at c;have j:=aa c;clear c));clear v;(have d:=i);clear i a;(obtain⟨wc,o⟩:∃W,W=f:=⟨_,rfl⟩);(subst o))
  |((with_reducible show bI _ _ _ _ ((_,9,_)::_) _ _);refine' iW (w':=wc.setCell ⟨q,0,U⟩ (I J (m:Int))) rfl (xt rfl ⟨q,0,U⟩ m rfl rfl (j.out.cell 0 _ rfl) (frozen_of_row _ _ _ _ _ j.out)) (d.out.setCell M.out _) ?_;simp only[yQ,yU,yX,yY];(obtain⟨f,a⟩:∃p,p=wc.setCell ⟨q,0,U⟩ (I J (m:Int)):=⟨_,rfl⟩);rw[<-a];(have i:w2 (af g f):=by show y5 _ _ _;rw[a];exact d.out.setCell M.out _);(have j:w2 (ag f q #[I J (m:Int)] 3):=by show ag _ _ _ _;rw[a];exact j.out.Pu _);(try(have c:=l.out.jK ⟨q,0,U⟩ (I J (m:Int)) A.out.symm;rw[<-a]at c;have l:=aa c;clear c));(have d:=i);clear i a;(obtain⟨wc,o⟩:∃W,W=f:=⟨_,rfl⟩);(subst o))
  |((with_reducible show bI _ _ _ _ ((_,10,_)::_) _ _);refine' iW (w':=wc.setCell ⟨r,0,U⟩ (I J (n:Int))) rfl (xt rfl ⟨r,0,U⟩ n rfl rfl (l.out.cell 0 _ rfl) (frozen_of_row _ _ _ _ _ l.out)) (d.out.setCell N.out _) ?_;simp only[yQ,yU,yX,yY];(obtain⟨f,a⟩:∃p,p=wc.setCell ⟨r,0,U⟩ (I J (n:Int)):=⟨_,rfl⟩);rw[<-a];(have i:w2 (af g f):=by show y5 _ _ _;rw[a];exact d.out.setCell N.out _);(have l:w2 (ag f r #[I J (n:Int)] 3):=by show ag _ _ _ _;rw[a];exact l.out.Pu _);(try(have c:=j.out.jK ⟨r,0,U⟩ (I J (n:Int)) A.out;rw[<-a]at c;have j:=aa c;clear c));(have d:=i);clear i a;(obtain⟨wc,o⟩:∃W,W=f:=⟨_,rfl⟩);(subst o))
  |(refine aj ?_;intro k s;simp only[AQ,Ay,or_false]at s;(repeat' (first|subst s|rcases s with s|s));all_goals simp only[reduceIte,Nat.reduceEqDiff,aT,aH,w7,w8])
  |(refine aj ?_;(try simp only[reduceIte,Nat.reduceEqDiff,aT,aH,w7,w8])))
 all_goals(clear P O;go_wp2;go_ret;exact⟨_,_,rfl,⟨l.out,j.out⟩,ae Z.out d.out⟩)
theorem AI (L:Nat) (w:wR):wS w1 92 #[bX L wP] w (au (.func (U4 137) #[] #[]) w):=by
 have a:=fI w L wP;obtain⟨b,c⟩:=a.out _ (w3 _ _);go_enter func92,ntmps92;go_wp2;go_ret;exact⟨rfl,ax _ _⟩
theorem uv (L:Nat) (c:Bool) (w:wR) (d:L<=32):wS w1 92 #[bX L c] w λe a=>∃hb b,e= .returned (Lg c hb b)/\(c=R->HC L a hb b)/\af w a:=by
 cases c with
 |true=>
  refine(AI L w).mono ?_;rintro e a ⟨rfl,hb⟩;exact⟨0,0,rfl,(λh=>by cases h),hb⟩
 |false=>
  refine(Bi L w d).mono ?_;rintro e a ⟨hb,b,rfl,hc,f⟩;exact⟨hb,b,rfl,λ_=>hc,f⟩
end
end Go.Proofs.YtmnlkganmgcpbaaGreatDoor
