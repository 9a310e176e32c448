import Derived.Test.YtmnlkganmgcpbaaGreatDoorQi25
set_option maxRecDepth 100000
set_option maxHeartbeats 4000000
set_option linter.unusedVariables false
set_option linter.unusedSectionVars false
set_option linter.unusedSimpArgs false
set_option linter.defProp false
open Go.Value renaming int->I
open Go.IntKind renaming i64->J
open Bool renaming false->R,true->wP,false_eq_true->Ax
open Option renaming none->U,some->gk
open Go renaming World->wR,Calls->wS
open Go.Proofs.Tryz renaming prog->w1
open Go.RowKit renaming Hid->w2
open List renaming length_append->w9,append_assoc->y6,length_take->Ai,not_mem_nil->Ay,append_nil->A5,take_of_length_le->CK,length_nil->HB,take_length->S3
open Nat renaming zero_le->x1,lt_of_lt_of_le->x6,zero_add->B3
open _root_ renaming congrArg->z7,if_true->Qk,if_false->Rk
open Go.WideShapes renaming add_plain->HU
open Go.Proofs.Tryz
namespace Go.Proofs.YtmnlkganmgcpbaaGreatDoor
section
open Go.RowKit
theorem Ge (L:Nat) (c:Bool) (w:wR) (h:L<=32):wS w1 51 #[I J L,.bool c] w λe a5=>∃v,e= .returned v/\fR w.heap.size a5 v (cO L c)/\af w a5:=by
 have b7:w2 (∀W,wS w1 98 #[I J L,.bool c] W λe a5=>e= .returned (I J ((aE L c:Nat):Int))/\a5=W):=λW=>vY L c W h;have Q:w2 (∀W x y,x<aE L c->y<aE L c->wS w1 99 #[I J ((x:Nat):Int),I J ((y:Nat):Int),I J L,.bool c] W (au (.agg #[I J (((pC L c (x,y)).1:Nat):Int),I J (((pC L c (x,y)).2:Nat):Int)]) W)):=λW x y cs cv=>GL L x y c W h cs cv;have b9:w2 (∀a,rN L c a=if c=wP then 4* (L-a)+9 else 4* (L-a)+12):=λa=>rfl;have ca:w2 (∀a,rN L c a<=140):=λa=>Dn h;have cb:w2 (∀a b k,a<L->b<rN L c a->k<2->2* a+k<aE L c/\2* a+b<aE L c):=λa b k=>zL (s:=0) h;have S:w2 (∀a s b k,cM L c a s b k=pC L c (if s=0 then(2* a+k,2* a+b)else if s=1 then(2* a+b,aE L c-1-(2* a+k))else if s=2 then(aE L c-1-(2* a+k),aE L c-1-(2* a+b))else(aE L c-1-(2* a+b),2* a+k))):=λa s b k=>rfl;have c7:=aa (jc (c:=c) h);have bz:=aa (Qc L c);have b1:=aa (AL L c);have b2:=aa (wB L c);have b3:=aa (sq L c);have ce:=aa (Ct L c);have ch:=aa (qY L c);have ci:=aa (mL L c);have ck:w2 (∀a,(iL L c a).length<=a* 1120):=Dk h;have b4:w2 (cO L c=iL L c L):=rfl;generalize aE L c=B at*;obtain⟨dz,dE⟩:=c7.out;obtain⟨r,co⟩:∃r,r=B-1:=⟨_,rfl⟩;have cq:(B:Int)-1=(r:Int):=oO;have z:=aa co;have d0:r<=141:=oO;clear co;cases c with
 |true=>
  go_enter func51,ntmps51;go_wp2_with(go_at_call 98;refine(b7.out _).mono ?_;rintro e cx ⟨rfl,a0⟩;rw[a0];clear a0)
  clear cq;go_loopw [5,7] (λf T wr=>∃a:Nat,a<=L/\T=I J a/\w2 (aX w wr f (iL L wP a))) (λ_ T _=>L-(intOf T).toNat)
  case atStart=>exact⟨0,x1 _,rfl,aX.start _⟩
  case round=>
   obtain⟨a,cy,rfl,u⟩:=hrel;by_cases a9:a<L
   ·obtain⟨d,ap⟩:∃d,d=L-a:=⟨_,rfl⟩;have bb:(L:Int)-(a:Int)=(d:Int):=oO;obtain⟨o,D⟩:∃o,o=rN L wP a:=⟨_,rfl⟩;have c8:o<=140:=by rw[D];exact ca.out a
    have ad:=aa D;have bd:4* (d:Int)+9=(o:Int):=by have V:=b9.out a;simp at V;rw[D,V,ap];omega
    have c9:d<=32:=oO;have E:∀f,w2 (aX w wr f (iL L wP a))->w2 (aX w wr f (iL L wP a++sL L wP a 0)):=λf h=>by show aX _ _ _ _;rw[show sL L wP a 0=[]from rfl,A5];exact h.out
    have E:=E _ u;clear ap D u;go_wp2;clear bd bb;obtain⟨p,rfl⟩:∃p:wR,p=wr:=⟨_,rfl⟩;go_loopw [5,9] (λf X wr=>∃s:Nat,s<=4/\X=I J s/\w2 (aX w wr f (iL L wP a++sL L wP a s))) (λ_ X _=>4-(intOf X).toNat)
    case atStart=>exact⟨0,x1 _,rfl,E⟩
    case round=>
     clear E;obtain⟨s,hs,rfl,al⟩:=hrel;by_cases bo:s<4
     ·have F:∀f,w2 (aX w wr f (iL L wP a++sL L wP a s))->w2 (aX w wr f (iL L wP a++sL L wP a s++jL L wP a s 0)):=λf h=>by show aX _ _ _ _;rw[show jL L wP a s 0=[]from rfl,A5];exact h.out
      have F:=F _ al;clear al;have da:decide ((s:Int)<4)=wP:=by simp;omega
      go_wp2;obtain⟨p,rfl⟩:∃p:wR,p=wr:=⟨_,rfl⟩;go_loopw [5,10] (λf Y wr=>∃b:Nat,b<=o/\Y=I J b/\w2 (aX w wr f (iL L wP a++sL L wP a s++jL L wP a s b))) (λ_ Y _=>o-(intOf Y).toNat)
      case atStart=>exact⟨0,x1 _,rfl,F⟩
      case round=>
       clear F;obtain⟨b,c2,rfl,am⟩:=hrel;by_cases bq:b<o
       ·have G:∀f,w2 (aX w wr f (iL L wP a++sL L wP a s++jL L wP a s b))->w2 (aX w wr f (iL L wP a++sL L wP a s++jL L wP a s b++kL L wP a s b 0)):=λf h=>by show aX _ _ _ _;rw[show kL L wP a s b 0=[]from rfl,A5];exact h.out
        have G:=G _ am;clear am;go_wp2;obtain⟨p,rfl⟩:∃p:wR,p=wr:=⟨_,rfl⟩;go_loopw [5,11] (λf Z wr=>∃k:Nat,k<=2/\Z=I J k/\w2 (aX w wr f (iL L wP a++sL L wP a s++jL L wP a s b++kL L wP a s b k))) (λ_ Z _=>2-(intOf Z).toNat)
        case atStart=>exact⟨0,x1 _,rfl,G⟩
        case round=>
         clear G;obtain⟨k,c3,rfl,a6⟩:=hrel;by_cases bs:k<2
         ·obtain⟨be,bf⟩:=cb.out a b k a9 (by rw[<-ad.out];exact bq) bs;obtain⟨g,a1⟩:∃g,g=2* a+k:=⟨_,rfl⟩;obtain⟨i,a2⟩:∃i,i=2* a+b:=⟨_,rfl⟩;have dd:2* (a:Int)+(k:Int)=(g:Int):=oO;have de:2* (a:Int)+(b:Int)=(i:Int):=oO;have H:=aa a1;have K:=aa a2;have bt:r=B-1:=z.out;obtain⟨l,a3⟩:∃l,l=r-g:=⟨_,rfl⟩;obtain⟨n,a4⟩:∃n,n=r-i:=⟨_,rfl⟩;have di:(r:Int)-(g:Int)=(l:Int):=oO;have dl:(r:Int)-(i:Int)=(n:Int):=oO;have M:=aa a3;have N:=aa a4;have dn:g<B:=oO;have ds:i<B:=oO;have dv:l<B:=oO;have dx:n<B:=oO;have t:w2 (iL L wP a++sL L wP a s++jL L wP a s b++kL L wP a s b (k+1)=iL L wP a++sL L wP a s++jL L wP a s b++kL L wP a s b k++[cM L wP a s b k]):=by show _=_;rw[bz.out];simp only[y6]
          have b6:w2 ((iL L wP a++sL L wP a s++jL L wP a s b++kL L wP a s b k).length<=60000):=by
           show _<=_;have V:=ck.out a;have c4:s* (2* rN L wP a)<=4* (2* 140):=Nat.mul_le_mul oO (by rw[<-ad.out];omega);rw[w9,w9,w9,ce.out,ch.out,ci.out];omega
          clear a1 a2 a3 a4 bt be bf;have bi:s=0\/s=1\/s=2\/s=3:=oO;clear bo hs;rcases bi with j|j|j|j
          ·have ab:((s:Int)==0)=wP:=by simp;omega
           have q:w2 (s=0):=j;clear j;have O:w2 (∀W,wS w1 99 #[I J ((g:Nat):Int),I J ((i:Nat):Int),I J L,.bool wP] W (au (.agg #[I J (((cM L wP a s b k).1:Nat):Int),I J (((cM L wP a s b k).2:Nat):Int)]) W)):=λW=>by
            have h:=Q.out W g i oO oO;have e:cM L wP a s b k=pC L wP (g,i):=by rw[S.out,<-z.out,<-H.out,<-K.out,<-M.out,<-N.out,q.out];rfl
            rw[e];exact h
           generalize cM L wP a s b k=C at*;generalize P:iL L wP a++sL L wP a s++jL L wP a s b++kL L wP a s b k=ac at*;exact Cg
          ·have ab:((s:Int)==0)=R:=by simp;omega
           have av:((s:Int)==1)=wP:=by simp;omega
           have q:w2 (s=1):=j;clear j;have O:w2 (∀W,wS w1 99 #[I J ((i:Nat):Int),I J ((l:Nat):Int),I J L,.bool wP] W (au (.agg #[I J (((cM L wP a s b k).1:Nat):Int),I J (((cM L wP a s b k).2:Nat):Int)]) W)):=λW=>by
            have h:=Q.out W i l oO oO;have e:cM L wP a s b k=pC L wP (i,l):=by rw[S.out,<-z.out,<-H.out,<-K.out,<-M.out,<-N.out,q.out];rfl
            rw[e];exact h
           generalize cM L wP a s b k=C at*;generalize P:iL L wP a++sL L wP a s++jL L wP a s b++kL L wP a s b k=ac at*;exact Cg
          ·have ab:((s:Int)==0)=R:=by simp;omega
           have av:((s:Int)==1)=R:=by simp;omega
           have a7:((s:Int)==2)=wP:=by simp;omega
           have q:w2 (s=2):=j;clear j;have O:w2 (∀W,wS w1 99 #[I J ((l:Nat):Int),I J ((n:Nat):Int),I J L,.bool wP] W (au (.agg #[I J (((cM L wP a s b k).1:Nat):Int),I J (((cM L wP a s b k).2:Nat):Int)]) W)):=λW=>by
            have h:=Q.out W l n oO oO;have e:cM L wP a s b k=pC L wP (l,n):=by rw[S.out,<-z.out,<-H.out,<-K.out,<-M.out,<-N.out,q.out];rfl
            rw[e];exact h
           generalize cM L wP a s b k=C at*;generalize P:iL L wP a++sL L wP a s++jL L wP a s b++kL L wP a s b k=ac at*;exact Cg
          ·have ab:((s:Int)==0)=R:=by simp;omega
           have av:((s:Int)==1)=R:=by simp;omega
           have a7:((s:Int)==2)=R:=by simp;omega
           have q:w2 (s=3):=j;clear j;have O:w2 (∀W,wS w1 99 #[I J ((n:Nat):Int),I J ((g:Nat):Int),I J L,.bool wP] W (au (.agg #[I J (((cM L wP a s b k).1:Nat):Int),I J (((cM L wP a s b k).2:Nat):Int)]) W)):=λW=>by
            have h:=Q.out W n g oO oO;have e:cM L wP a s b k=pC L wP (n,g):=by rw[S.out,<-z.out,<-H.out,<-K.out,<-M.out,<-N.out,q.out];rfl
            rw[e];exact h
           generalize cM L wP a s b k=C at*;generalize P:iL L wP a++sL L wP a s++jL L wP a s b++kL L wP a s b k=ac at*;exact Cg
         ·obtain rfl:k=2:=oO;have t:w2 (iL L wP a++sL L wP a s++jL L wP a s (b+1)=iL L wP a++sL L wP a s++jL L wP a s b++kL L wP a s b 2):=by show _=_;rw[b1.out];simp only[y6]
          go_wp2;exact⟨⟨b+1,by omega,by go_num,by show aX _ _ _ _;rw[t.out];exact a6.out⟩,by simp[intOf];omega⟩
       ·obtain rfl:b=o:=oO;have t:w2 (iL L wP a++sL L wP a (s+1)=iL L wP a++sL L wP a s++jL L wP a s b):=by show _=_;rw[b2.out,<-ad.out];simp only[y6]
        go_wp2;exact⟨⟨s+1,by omega,by go_num,by show aX _ _ _ _;rw[t.out];exact am.out⟩,by simp[intOf];omega⟩
     ·obtain rfl:s=4:=oO;have t:w2 (iL L wP (a+1)=iL L wP a++sL L wP a 4):=b3.out a;go_wp2;exact⟨⟨a+1,by omega,by go_num,by show aX _ _ _ _;rw[t.out];exact al.out⟩,by simp[intOf];omega⟩
   ·obtain rfl:a=L:=oO;go_wp2;go_ret;exact⟨_,rfl,by rw[b4.out];exact⟨u.out.sp,λA m k c5 e1 e2=>(World.ownsRow.lt u.out.O _ ((z7 Value.ownBlock e1).trans (by rw[e2];rfl))).1⟩,u.out.B⟩
 |false=>
  go_enter func51,ntmps51;go_wp2_with(go_at_call 98;refine(b7.out _).mono ?_;rintro e cx ⟨rfl,a0⟩;rw[a0];clear a0)
  clear cq;go_loopw [5,7] (λf T wr=>∃a:Nat,a<=L/\T=I J a/\w2 (aX w wr f (iL L R a))) (λ_ T _=>L-(intOf T).toNat)
  case atStart=>exact⟨0,x1 _,rfl,aX.start _⟩
  case round=>
   obtain⟨a,cy,rfl,u⟩:=hrel;by_cases a9:a<L
   ·obtain⟨d,ap⟩:∃d,d=L-a:=⟨_,rfl⟩;have bb:(L:Int)-(a:Int)=(d:Int):=oO;obtain⟨o,D⟩:∃o,o=rN L R a:=⟨_,rfl⟩;have c8:o<=140:=by rw[D];exact ca.out a
    have ad:=aa D;have bd:4* (d:Int)+12=(o:Int):=by have V:=b9.out a;simp at V;rw[D,V,ap];omega
    have c9:d<=32:=oO;have E:∀f,w2 (aX w wr f (iL L R a))->w2 (aX w wr f (iL L R a++sL L R a 0)):=λf h=>by show aX _ _ _ _;rw[show sL L R a 0=[]from rfl,A5];exact h.out
    have E:=E _ u;clear ap D u;go_wp2;clear bd bb;obtain⟨p,rfl⟩:∃p:wR,p=wr:=⟨_,rfl⟩;go_loopw [5,9] (λf X wr=>∃s:Nat,s<=4/\X=I J s/\w2 (aX w wr f (iL L R a++sL L R a s))) (λ_ X _=>4-(intOf X).toNat)
    case atStart=>exact⟨0,x1 _,rfl,E⟩
    case round=>
     clear E;obtain⟨s,hs,rfl,al⟩:=hrel;by_cases bo:s<4
     ·have F:∀f,w2 (aX w wr f (iL L R a++sL L R a s))->w2 (aX w wr f (iL L R a++sL L R a s++jL L R a s 0)):=λf h=>by show aX _ _ _ _;rw[show jL L R a s 0=[]from rfl,A5];exact h.out
      have F:=F _ al;clear al;have da:decide ((s:Int)<4)=wP:=by simp;omega
      go_wp2;obtain⟨p,rfl⟩:∃p:wR,p=wr:=⟨_,rfl⟩;go_loopw [5,10] (λf Y wr=>∃b:Nat,b<=o/\Y=I J b/\w2 (aX w wr f (iL L R a++sL L R a s++jL L R a s b))) (λ_ Y _=>o-(intOf Y).toNat)
      case atStart=>exact⟨0,x1 _,rfl,F⟩
      case round=>
       clear F;obtain⟨b,c2,rfl,am⟩:=hrel;by_cases bq:b<o
       ·have G:∀f,w2 (aX w wr f (iL L R a++sL L R a s++jL L R a s b))->w2 (aX w wr f (iL L R a++sL L R a s++jL L R a s b++kL L R a s b 0)):=λf h=>by show aX _ _ _ _;rw[show kL L R a s b 0=[]from rfl,A5];exact h.out
        have G:=G _ am;clear am;go_wp2;obtain⟨p,rfl⟩:∃p:wR,p=wr:=⟨_,rfl⟩;go_loopw [5,11] (λf Z wr=>∃k:Nat,k<=2/\Z=I J k/\w2 (aX w wr f (iL L R a++sL L R a s++jL L R a s b++kL L R a s b k))) (λ_ Z _=>2-(intOf Z).toNat)
        case atStart=>exact⟨0,x1 _,rfl,G⟩
        case round=>
         clear G;obtain⟨k,c3,rfl,a6⟩:=hrel;by_cases bs:k<2
         ·obtain⟨be,bf⟩:=cb.out a b k a9 (by rw[<-ad.out];exact bq) bs;obtain⟨g,a1⟩:∃g,g=2* a+k:=⟨_,rfl⟩;obtain⟨i,a2⟩:∃i,i=2* a+b:=⟨_,rfl⟩;have dd:2* (a:Int)+(k:Int)=(g:Int):=oO;have de:2* (a:Int)+(b:Int)=(i:Int):=oO;have H:=aa a1;have K:=aa a2;have bt:r=B-1:=z.out;obtain⟨l,a3⟩:∃l,l=r-g:=⟨_,rfl⟩;obtain⟨n,a4⟩:∃n,n=r-i:=⟨_,rfl⟩;have di:(r:Int)-(g:Int)=(l:Int):=oO;have dl:(r:Int)-(i:Int)=(n:Int):=oO;have M:=aa a3;have N:=aa a4;have dn:g<B:=oO;have ds:i<B:=oO;have dv:l<B:=oO;have dx:n<B:=oO;have t:w2 (iL L R a++sL L R a s++jL L R a s b++kL L R a s b (k+1)=iL L R a++sL L R a s++jL L R a s b++kL L R a s b k++[cM L R a s b k]):=by show _=_;rw[bz.out];simp only[y6]
          have b6:w2 ((iL L R a++sL L R a s++jL L R a s b++kL L R a s b k).length<=60000):=by
           show _<=_;have V:=ck.out a;have c4:s* (2* rN L R a)<=4* (2* 140):=Nat.mul_le_mul oO (by rw[<-ad.out];omega);rw[w9,w9,w9,ce.out,ch.out,ci.out];omega
          clear a1 a2 a3 a4 bt be bf;have bi:s=0\/s=1\/s=2\/s=3:=oO;clear bo hs;rcases bi with j|j|j|j
          ·have ab:((s:Int)==0)=wP:=by simp;omega
           have q:w2 (s=0):=j;clear j;have O:w2 (∀W,wS w1 99 #[I J ((g:Nat):Int),I J ((i:Nat):Int),I J L,.bool R] W (au (.agg #[I J (((cM L R a s b k).1:Nat):Int),I J (((cM L R a s b k).2:Nat):Int)]) W)):=λW=>by
            have h:=Q.out W g i oO oO;have e:cM L R a s b k=pC L R (g,i):=by rw[S.out,<-z.out,<-H.out,<-K.out,<-M.out,<-N.out,q.out];rfl
            rw[e];exact h
           generalize cM L R a s b k=C at*;generalize P:iL L R a++sL L R a s++jL L R a s b++kL L R a s b k=ac at*;exact Cg
          ·have ab:((s:Int)==0)=R:=by simp;omega
           have av:((s:Int)==1)=wP:=by simp;omega
           have q:w2 (s=1):=j;clear j;have O:w2 (∀W,wS w1 99 #[I J ((i:Nat):Int),I J ((l:Nat):Int),I J L,.bool R] W (au (.agg #[I J (((cM L R a s b k).1:Nat):Int),I J (((cM L R a s b k).2:Nat):Int)]) W)):=λW=>by
            have h:=Q.out W i l oO oO;have e:cM L R a s b k=pC L R (i,l):=by rw[S.out,<-z.out,<-H.out,<-K.out,<-M.out,<-N.out,q.out];rfl
            rw[e];exact h
           generalize cM L R a s b k=C at*;generalize P:iL L R a++sL L R a s++jL L R a s b++kL L R a s b k=ac at*;exact Cg
          ·have ab:((s:Int)==0)=R:=by simp;omega
           have av:((s:Int)==1)=R:=by simp;omega
           have a7:((s:Int)==2)=wP:=by simp;omega
           have q:w2 (s=2):=j;clear j;have O:w2 (∀W,wS w1 99 #[I J ((l:Nat):Int),I J ((n:Nat):Int),I J L,.bool R] W (au (.agg #[I J (((cM L R a s b k).1:Nat):Int),I J (((cM L R a s b k).2:Nat):Int)]) W)):=λW=>by
            have h:=Q.out W l n oO oO;have e:cM L R a s b k=pC L R (l,n):=by rw[S.out,<-z.out,<-H.out,<-K.out,<-M.out,<-N.out,q.out];rfl
            rw[e];exact h
           generalize cM L R a s b k=C at*;generalize P:iL L R a++sL L R a s++jL L R a s b++kL L R a s b k=ac at*;exact Cg
          ·have ab:((s:Int)==0)=R:=by simp;omega
           have av:((s:Int)==1)=R:=by simp;omega
           have a7:((s:Int)==2)=R:=by simp;omega
           have q:w2 (s=3):=j;clear j;have O:w2 (∀W,wS w1 99 #[I J ((n:Nat):Int),I J ((g:Nat):Int),I J L,.bool R] W (au (.agg #[I J (((cM L R a s b k).1:Nat):Int),I J (((cM L R a s b k).2:Nat):Int)]) W)):=λW=>by
            have h:=Q.out W n g oO oO;have e:cM L R a s b k=pC L R (n,g):=by rw[S.out,<-z.out,<-H.out,<-K.out,<-M.out,<-N.out,q.out];rfl
            rw[e];exact h
           generalize cM L R a s b k=C at*;generalize P:iL L R a++sL L R a s++jL L R a s b++kL L R a s b k=ac at*;exact Cg
         ·obtain rfl:k=2:=oO;have t:w2 (iL L R a++sL L R a s++jL L R a s (b+1)=iL L R a++sL L R a s++jL L R a s b++kL L R a s b 2):=by show _=_;rw[b1.out];simp only[y6]
          go_wp2;exact⟨⟨b+1,by omega,by go_num,by show aX _ _ _ _;rw[t.out];exact a6.out⟩,by simp[intOf];omega⟩
       ·obtain rfl:b=o:=oO;have t:w2 (iL L R a++sL L R a (s+1)=iL L R a++sL L R a s++jL L R a s b):=by show _=_;rw[b2.out,<-ad.out];simp only[y6]
        go_wp2;exact⟨⟨s+1,by omega,by go_num,by show aX _ _ _ _;rw[t.out];exact am.out⟩,by simp[intOf];omega⟩
     ·obtain rfl:s=4:=oO;have t:w2 (iL L R (a+1)=iL L R a++sL L R a 4):=b3.out a;go_wp2;exact⟨⟨a+1,by omega,by go_num,by show aX _ _ _ _;rw[t.out];exact al.out⟩,by simp[intOf];omega⟩
   ·obtain rfl:a=L:=oO;go_wp2;go_ret;exact⟨_,rfl,by rw[b4.out];exact⟨u.out.sp,λA m k c5 e1 e2=>(World.ownsRow.lt u.out.O _ ((z7 Value.ownBlock e1).trans (by rw[e2];rfl))).1⟩,u.out.B⟩
theorem AR (L:Nat) (w:wR) (m:1<=L) (E:L<=32):wS w1 52 #[I J L,.bool wP] w λe O=>∃v,e= .returned v/\fR w.heap.size O v (dZ (cI L wP) wP)/\af w O:=by
 obtain⟨bt,bv,b1,b2,b3⟩:=info_parts qq;have P:5<=cI L wP:=by have:=(su (c:=wP) m E).1;simp only[bu,Ax,Rk,Qk]at this;omega
 have b4:cI L wP<=100:=by have:=eI (c:=wP) E;unfold cI;omega
 have a5:w2 (∀W,wS w1 48 #[I J L,.bool wP] W λe O=>e= .returned (I J ((aB L wP:Nat):Int))/\O=W):=λW=>pz L wP W E;have b5:=(eI (c:=wP) E).1;have b6:=(eI (c:=wP) E).2;have be:cI L wP=(aB L wP-1)/2:=rfl;generalize aB L wP=S at*;generalize cI L wP=a at*;have e1:((S:Int)-1)/2=(a:Int):=oO;clear be m E;go_enter func52,ntmps52;go_wp2_with(go_at_call 48;refine(a5.out _).mono ?_;rintro e bx ⟨rfl,a6⟩;rw[a6];clear a6)
 simp only[e1];clear e1 a5;have a7:w2 (af w ((w.alloc (.cells #[I J (-5),I J (-4),I J (-3),I J (-2),I J (-1),I J (1),I J (2),I J (3),I J (4),I J (5)] 3)).alloc (.cells #[I J (-3),I J (-2),I J (-1),I J (0),I J (1),I J (2),I J (3)] 3))):=ah (ax _ _) _;have al:w2 (SR vI 0 ((w.alloc (.cells #[I J (-5),I J (-4),I J (-3),I J (-2),I J (-1),I J (1),I J (2),I J (3),I J (4),I J (5)] 3)).alloc (.cells #[I J (-3),I J (-2),I J (-1),I J (0),I J (1),I J (2),I J (3)] 3)) (gk ⟨w.heap.size+1,0,U⟩) 7 7 (aL wP)):=SR.lit (f:=vI) (d:=0) (w.alloc (.cells #[I J (-5),I J (-4),I J (-3),I J (-2),I J (-1),I J (1),I J (2),I J (3),I J (4),I J (5)] 3)) [-3,-2,-1,0,1,2,3] 3 _ 7 oS rfl oM;generalize bf:(w.alloc (.cells #[I J (-5),I J (-4),I J (-3),I J (-2),I J (-1),I J (1),I J (2),I J (3),I J (4),I J (5)] 3)).alloc (.cells #[I J (-3),I J (-2),I J (-1),I J (0),I J (1),I J (2),I J (3)] 3)=i at*;clear bf;obtain⟨B,am⟩:∃B,B=w.heap.size+1:=⟨_,rfl⟩;rw[<-am]at al⊢;clear am;obtain⟨bz,bi,bb,a8⟩:=al.out.rd oD;cases bi;have Q:w2 (∀W,af i W->∀b:Nat,b<7->W.cell? ((⟨B,0,U⟩:Addr).add b)=gk (I J ((aL wP).getD b 0))):=λW t b G=>(t.cell (by rw[aD];exact bb)).trans (a8 b (by show b<(aL wP).length;exact G));have a9:w2 (aX i i (.slice U 0 0) ([]++(bn a wP).take 0)):=aX.start _;clear bb a8 al;go_loopw [8,10] (λd j wr=>∃b:Nat,b<=7/\j=I J (b:Int)/\w2 (aX i wr d ([]++(bn a wP).take b))) (λ_ j _=>7-(intOf j).toNat)
 case atStart=>exact⟨0,by omega,rfl,a9.out⟩
 case round=>
  clear a9;obtain⟨b,G,rfl,g⟩:=hrel;by_cases l:b<7
  ·obtain⟨x,y,r,u,m,f,z,ap,av⟩:=iP a wP P 0 b oO l;have F:w2 ([]++(bn a wP).take (b+1)=([]++(bn a wP).take b)++[(x,y)]):=by show _=_;rw[eV _ (0,0) (by rw[(bR a wP).1];exact l),<-y6];exact z7 (λA=>_++[A]) r
   have N:w2 (([]++(bn a wP).take b).length<=100):=by
    show _<=_;have:=bR a wP;have hn:(aL wP).length=7:=rfl;simp only[w9,Ai,HB,this.1,this.2.1,this.2.2.1,this.2.2.2,hn];omega
   have k:=u rfl;have n:=k.1;have o:=k.2;have s:(aL wP).getD b 0=(aL wP).getD (b) 0:=by rfl
   rw[<-s]at n;have p:=fN (c:=wP) (j:=b) l;have D:w2 (∀W,af i W->W.cell? ((⟨B,0,U⟩:Addr).add b)=gk (I J ((aL wP).getD b 0))):=λW t=>Q.out W t _ l;simp only[bu,Ax,Rk,Qk]at n o p;generalize(aL wP).getD b 0=q at*;have a0:-5<=q:=oO;have a1:q<=5:=oO;have a2:(a:Int)-5=(y:Int):=oO;clear o;clear u m f z k r s p;have C:=D.out _ g.out.B;rw[HU,B3]at C;generalize[]++(bn a wP).take b=ad at*;exact Si
  ·obtain rfl:b=7:=oO;have T:∀d W,w2 (aX i W d ([]++(bn a wP).take 7))->w2 (aX i W d (bn a wP++(bY a wP).take 0)):=λd W h=>by show aX _ _ _ _;have f:=h.out;rw[CK (by simp[bn];decide)]at f;simpa using f
   have T:=T _ _ g;clear g;go_wp2;go_loopw [8,11] (λd j wr=>∃b:Nat,b<=7/\j=I J (b:Int)/\w2 (aX i wr d (bn a wP++(bY a wP).take b))) (λ_ j _=>7-(intOf j).toNat)
   case atStart=>exact⟨0,by omega,rfl,T.out⟩
   case round=>
    clear T;obtain⟨b,G,rfl,g⟩:=hrel;by_cases l:b<7
    ·obtain⟨x,y,r,u,m,f,z,ap,av⟩:=iP a wP P 1 b oO l;have F:w2 (bn a wP++(bY a wP).take (b+1)=(bn a wP++(bY a wP).take b)++[(x,y)]):=by show _=_;rw[eV _ (0,0) (by rw[(bR a wP).2.1];exact l),<-y6];exact z7 (λA=>_++[A]) r
     have N:w2 ((bn a wP++(bY a wP).take b).length<=100):=by
      show _<=_;have:=bR a wP;have hn:(aL wP).length=7:=rfl;simp only[w9,Ai,HB,this.1,this.2.1,this.2.2.1,this.2.2.2,hn];omega
     have k:=m rfl;have n:=k.1;have o:=k.2;have s:(aL wP).getD b 0=(aL wP).getD (b) 0:=by rfl
     rw[<-s]at o;have p:=fN (c:=wP) (j:=b) l;have D:w2 (∀W,af i W->W.cell? ((⟨B,0,U⟩:Addr).add b)=gk (I J ((aL wP).getD b 0))):=λW t=>Q.out W t _ l;simp only[bu,Ax,Rk,Qk]at n o p;generalize(aL wP).getD b 0=q at*;have a0:-5<=q:=oO;have a1:q<=5:=oO;have a2:(a:Int)+5=(x:Int):=oO;clear n;clear u m f z k r s p;have C:=D.out _ g.out.B;rw[HU,B3]at C;generalize bn a wP++(bY a wP).take b=ad at*;exact Si
    ·obtain rfl:b=7:=oO;have V:∀d W,w2 (aX i W d (bn a wP++(bY a wP).take 7))->w2 (aX i W d (bn a wP++bY a wP++(dB a wP).take 0)):=λd W h=>by show aX _ _ _ _;have f:=h.out;rw[CK (by simp[bY];decide)]at f;simpa using f
     have V:=V _ _ g;clear g;go_wp2;go_loopw [8,12] (λd j wr=>∃b:Nat,b<=7/\j=I J (6-(b:Int))/\w2 (aX i wr d (bn a wP++bY a wP++(dB a wP).take b))) (λ_ j _=>(intOf j+1).toNat)
     case atStart=>exact⟨0,by omega,rfl,V.out⟩
     case round=>
      clear V;obtain⟨b,G,rfl,g⟩:=hrel;by_cases l:b<7
      ·obtain⟨x,y,r,u,m,f,z,ap,av⟩:=iP a wP P 2 b oO l;have F:w2 (bn a wP++bY a wP++(dB a wP).take (b+1)=(bn a wP++bY a wP++(dB a wP).take b)++[(x,y)]):=by show _=_;rw[eV _ (0,0) (by rw[(bR a wP).2.2.1];exact l),<-y6];exact z7 (λA=>_++[A]) r
       have N:w2 ((bn a wP++bY a wP++(dB a wP).take b).length<=100):=by
        show _<=_;have:=bR a wP;have hn:(aL wP).length=7:=rfl;simp only[w9,Ai,HB,this.1,this.2.1,this.2.2.1,this.2.2.2,hn];omega
       have k:=f rfl;have n:=k.1;have o:=k.2;obtain⟨c,H⟩:∃c,c=7-1-b:=⟨_,rfl⟩;have bd:(6:Int)-(b:Int)=(c:Int):=oO;have K:c<7:=oO;have bq:(c:Int)<7:=oO;have M:(6:Int)-((b+1:Nat):Int)=(c:Int)-1:=oO;have a4:=aa M;clear M;have s:(aL wP).getD c 0=(aL wP).getD ((aL wP).length-1-b) 0:=by rw[H];rfl
       rw[<-s]at n;have p:=fN (c:=wP) (j:=c) K;have D:w2 (∀W,af i W->W.cell? ((⟨B,0,U⟩:Addr).add c)=gk (I J ((aL wP).getD c 0))):=λW t=>Q.out W t _ K;simp only[bu,Ax,Rk,Qk]at n o p;generalize(aL wP).getD c 0=q at*;have a0:-5<=q:=oO;have a1:q<=5:=oO;have a2:(a:Int)+5=(y:Int):=oO;clear o;clear u m f z k r s p H;have C:=D.out _ g.out.B;rw[HU,B3]at C;generalize bn a wP++bY a wP++(dB a wP).take b=ad at*;exact Po
      ·obtain rfl:b=7:=oO;have bo:¬((0:Int)<=6-((7:Nat):Int)):=oO;have X:∀d W,w2 (aX i W d (bn a wP++bY a wP++(dB a wP).take 7))->w2 (aX i W d (bn a wP++bY a wP++dB a wP++(im a wP).take 0)):=λd W h=>by show aX _ _ _ _;have f:=h.out;rw[CK (by simp[dB];decide)]at f;simpa using f
       have X:=X _ _ g;clear g;go_wp2;go_loopw [8,13] (λd j wr=>∃b:Nat,b<=7/\j=I J (6-(b:Int))/\w2 (aX i wr d (bn a wP++bY a wP++dB a wP++(im a wP).take b))) (λ_ j _=>(intOf j+1).toNat)
       case atStart=>exact⟨0,by omega,rfl,X.out⟩
       case round=>
        clear X;obtain⟨b,G,rfl,g⟩:=hrel;by_cases l:b<7
        ·obtain⟨x,y,r,u,m,f,z,ap,av⟩:=iP a wP P 3 b oO l;have F:w2 (bn a wP++bY a wP++dB a wP++(im a wP).take (b+1)=(bn a wP++bY a wP++dB a wP++(im a wP).take b)++[(x,y)]):=by show _=_;rw[eV _ (0,0) (by rw[(bR a wP).2.2.2];exact l),<-y6];exact z7 (λA=>_++[A]) r
         have N:w2 ((bn a wP++bY a wP++dB a wP++(im a wP).take b).length<=100):=by
          show _<=_;have:=bR a wP;have hn:(aL wP).length=7:=rfl;simp only[w9,Ai,HB,this.1,this.2.1,this.2.2.1,this.2.2.2,hn];omega
         have k:=z rfl;have n:=k.1;have o:=k.2;obtain⟨c,H⟩:∃c,c=7-1-b:=⟨_,rfl⟩;have bd:(6:Int)-(b:Int)=(c:Int):=oO;have K:c<7:=oO;have bq:(c:Int)<7:=oO;have M:(6:Int)-((b+1:Nat):Int)=(c:Int)-1:=oO;have a4:=aa M;clear M;have s:(aL wP).getD c 0=(aL wP).getD ((aL wP).length-1-b) 0:=by rw[H];rfl
         rw[<-s]at o;have p:=fN (c:=wP) (j:=c) K;have D:w2 (∀W,af i W->W.cell? ((⟨B,0,U⟩:Addr).add c)=gk (I J ((aL wP).getD c 0))):=λW t=>Q.out W t _ K;simp only[bu,Ax,Rk,Qk]at n o p;generalize(aL wP).getD c 0=q at*;have a0:-5<=q:=oO;have a1:q<=5:=oO;have a2:(a:Int)-5=(x:Int):=oO;clear n;clear u m f z k r s p H;have C:=D.out _ g.out.B;rw[HU,B3]at C;generalize bn a wP++bY a wP++dB a wP++(im a wP).take b=ad at*;exact Po
        ·obtain rfl:b=7:=oO;have bo:¬((0:Int)<=6-((7:Nat):Int)):=oO;have Y:∀d W,w2 (aX i W d (bn a wP++bY a wP++dB a wP++(im a wP).take 7))->w2 (aX i W d (dZ a wP)):=λd W h=>by show aX _ _ _ _;have f:=h.out;rw[CK (by simp[im];decide)]at f;rw[oX];exact f
         have Y:=Y _ _ g;clear g;go_wp2;go_ret;exact⟨_,rfl,(fR.bL Y.out.O).mono a7.out.size,ae a7.out Y.out.B⟩
theorem Aa (L:Nat) (w:wR) (m:1<=L) (E:L<=32):wS w1 52 #[I J L,.bool R] w λe O=>∃v,e= .returned v/\fR w.heap.size O v (dZ (cI L R) R)/\af w O:=by
 obtain⟨bt,bv,b1,b2,b3⟩:=info_parts qq;have P:7<=cI L R:=by have:=(su (c:=R) m E).1;simp only[bu,Ax,Rk,Qk]at this;omega
 have b4:cI L R<=100:=by have:=eI (c:=R) E;unfold cI;omega
 have a5:w2 (∀W,wS w1 48 #[I J L,.bool R] W λe O=>e= .returned (I J ((aB L R:Nat):Int))/\O=W):=λW=>pz L R W E;have b5:=(eI (c:=R) E).1;have b6:=(eI (c:=R) E).2;have be:cI L R=(aB L R-1)/2:=rfl;generalize aB L R=S at*;generalize cI L R=a at*;have e1:((S:Int)-1)/2=(a:Int):=oO;clear be m E;go_enter func52,ntmps52;go_wp2_with(go_at_call 48;refine(a5.out _).mono ?_;rintro e bx ⟨rfl,a6⟩;rw[a6];clear a6)
 simp only[e1];clear e1 a5;have a7:w2 (af w (w.alloc (.cells #[I J (-5),I J (-4),I J (-3),I J (-2),I J (-1),I J (1),I J (2),I J (3),I J (4),I J (5)] 3))):=ax _ _;have al:w2 (SR vI 0 (w.alloc (.cells #[I J (-5),I J (-4),I J (-3),I J (-2),I J (-1),I J (1),I J (2),I J (3),I J (4),I J (5)] 3)) (gk ⟨w.heap.size,0,U⟩) 10 10 (aL R)):=SR.lit (f:=vI) (d:=0) w [-5,-4,-3,-2,-1,1,2,3,4,5] 3 _ 10 rfl rfl oM;generalize bf:w.alloc (.cells #[I J (-5),I J (-4),I J (-3),I J (-2),I J (-1),I J (1),I J (2),I J (3),I J (4),I J (5)] 3)=i at*;clear bf;obtain⟨B,am⟩:∃B,B=w.heap.size:=⟨_,rfl⟩;rw[<-am]at al;simp only[<-am];have b7:=aa am;clear am;obtain⟨bz,bi,bb,a8⟩:=al.out.rd oD;cases bi;have Q:w2 (∀W,af i W->∀b:Nat,b<10->W.cell? ((⟨B,0,U⟩:Addr).add b)=gk (I J ((aL R).getD b 0))):=λW t b G=>(t.cell (by rw[aD];exact bb)).trans (a8 b (by show b<(aL R).length;exact G));have a9:w2 (aX i i (.slice U 0 0) ([]++(bn a R).take 0)):=aX.start _;clear bb a8 al;go_loopw [8,10] (λd j wr=>∃b:Nat,b<=10/\j=I J (b:Int)/\w2 (aX i wr d ([]++(bn a R).take b))) (λ_ j _=>10-(intOf j).toNat)
 case atStart=>exact⟨0,by omega,rfl,a9.out⟩
 case round=>
  clear a9;obtain⟨b,G,rfl,g⟩:=hrel;by_cases l:b<10
  ·obtain⟨x,y,r,u,m,f,z,ap,av⟩:=iP a R P 0 b oO l;have F:w2 ([]++(bn a R).take (b+1)=([]++(bn a R).take b)++[(x,y)]):=by show _=_;rw[eV _ (0,0) (by rw[(bR a R).1];exact l),<-y6];exact z7 (λA=>_++[A]) r
   have N:w2 (([]++(bn a R).take b).length<=100):=by
    show _<=_;have:=bR a R;have hn:(aL R).length=10:=rfl;simp only[w9,Ai,HB,this.1,this.2.1,this.2.2.1,this.2.2.2,hn];omega
   have k:=u rfl;have n:=k.1;have o:=k.2;have s:(aL R).getD b 0=(aL R).getD (b) 0:=by rfl
   rw[<-s]at n;have p:=fN (c:=R) (j:=b) l;have D:w2 (∀W,af i W->W.cell? ((⟨B,0,U⟩:Addr).add b)=gk (I J ((aL R).getD b 0))):=λW t=>Q.out W t _ l;simp only[bu,Ax,Rk,Qk]at n o p;generalize(aL R).getD b 0=q at*;have a0:-7<=q:=oO;have a1:q<=7:=oO;have a2:(a:Int)-7=(y:Int):=oO;clear o;clear u m f z k r s p;have C:=D.out _ g.out.B;rw[HU,B3]at C;generalize[]++(bn a R).take b=ad at*;exact SL
  ·obtain rfl:b=10:=oO;have T:∀d W,w2 (aX i W d ([]++(bn a R).take 10))->w2 (aX i W d (bn a R++(bY a R).take 0)):=λd W h=>by show aX _ _ _ _;have f:=h.out;rw[CK (by simp[bn];decide)]at f;simpa using f
   have T:=T _ _ g;clear g;go_wp2;go_loopw [8,11] (λd j wr=>∃b:Nat,b<=10/\j=I J (b:Int)/\w2 (aX i wr d (bn a R++(bY a R).take b))) (λ_ j _=>10-(intOf j).toNat)
   case atStart=>exact⟨0,by omega,rfl,T.out⟩
   case round=>
    clear T;obtain⟨b,G,rfl,g⟩:=hrel;by_cases l:b<10
    ·obtain⟨x,y,r,u,m,f,z,ap,av⟩:=iP a R P 1 b oO l;have F:w2 (bn a R++(bY a R).take (b+1)=(bn a R++(bY a R).take b)++[(x,y)]):=by show _=_;rw[eV _ (0,0) (by rw[(bR a R).2.1];exact l),<-y6];exact z7 (λA=>_++[A]) r
     have N:w2 ((bn a R++(bY a R).take b).length<=100):=by
      show _<=_;have:=bR a R;have hn:(aL R).length=10:=rfl;simp only[w9,Ai,HB,this.1,this.2.1,this.2.2.1,this.2.2.2,hn];omega
     have k:=m rfl;have n:=k.1;have o:=k.2;have s:(aL R).getD b 0=(aL R).getD (b) 0:=by rfl
     rw[<-s]at o;have p:=fN (c:=R) (j:=b) l;have D:w2 (∀W,af i W->W.cell? ((⟨B,0,U⟩:Addr).add b)=gk (I J ((aL R).getD b 0))):=λW t=>Q.out W t _ l;simp only[bu,Ax,Rk,Qk]at n o p;generalize(aL R).getD b 0=q at*;have a0:-7<=q:=oO;have a1:q<=7:=oO;have a2:(a:Int)+7=(x:Int):=oO;clear n;clear u m f z k r s p;have C:=D.out _ g.out.B;rw[HU,B3]at C;generalize bn a R++(bY a R).take b=ad at*;exact SL
    ·obtain rfl:b=10:=oO;have V:∀d W,w2 (aX i W d (bn a R++(bY a R).take 10))->w2 (aX i W d (bn a R++bY a R++(dB a R).take 0)):=λd W h=>by show aX _ _ _ _;have f:=h.out;rw[CK (by simp[bY];decide)]at f;simpa using f
     have V:=V _ _ g;clear g;go_wp2;go_loopw [8,12] (λd j wr=>∃b:Nat,b<=10/\j=I J (9-(b:Int))/\w2 (aX i wr d (bn a R++bY a R++(dB a R).take b))) (λ_ j _=>(intOf j+1).toNat)
     case atStart=>exact⟨0,by omega,rfl,V.out⟩
     case round=>
      clear V;obtain⟨b,G,rfl,g⟩:=hrel;by_cases l:b<10
      ·obtain⟨x,y,r,u,m,f,z,ap,av⟩:=iP a R P 2 b oO l;have F:w2 (bn a R++bY a R++(dB a R).take (b+1)=(bn a R++bY a R++(dB a R).take b)++[(x,y)]):=by show _=_;rw[eV _ (0,0) (by rw[(bR a R).2.2.1];exact l),<-y6];exact z7 (λA=>_++[A]) r
       have N:w2 ((bn a R++bY a R++(dB a R).take b).length<=100):=by
        show _<=_;have:=bR a R;have hn:(aL R).length=10:=rfl;simp only[w9,Ai,HB,this.1,this.2.1,this.2.2.1,this.2.2.2,hn];omega
       have k:=f rfl;have n:=k.1;have o:=k.2;obtain⟨c,H⟩:∃c,c=10-1-b:=⟨_,rfl⟩;have bd:(9:Int)-(b:Int)=(c:Int):=oO;have K:c<10:=oO;have bq:(c:Int)<10:=oO;have M:(9:Int)-((b+1:Nat):Int)=(c:Int)-1:=oO;have a4:=aa M;clear M;have s:(aL R).getD c 0=(aL R).getD ((aL R).length-1-b) 0:=by rw[H];rfl
       rw[<-s]at n;have p:=fN (c:=R) (j:=c) K;have D:w2 (∀W,af i W->W.cell? ((⟨B,0,U⟩:Addr).add c)=gk (I J ((aL R).getD c 0))):=λW t=>Q.out W t _ K;simp only[bu,Ax,Rk,Qk]at n o p;generalize(aL R).getD c 0=q at*;have a0:-7<=q:=oO;have a1:q<=7:=oO;have a2:(a:Int)+7=(y:Int):=oO;clear o;clear u m f z k r s p H;have C:=D.out _ g.out.B;rw[HU,B3]at C;generalize bn a R++bY a R++(dB a R).take b=ad at*;exact Po
      ·obtain rfl:b=10:=oO;have bo:¬((0:Int)<=9-((10:Nat):Int)):=oO;have X:∀d W,w2 (aX i W d (bn a R++bY a R++(dB a R).take 10))->w2 (aX i W d (bn a R++bY a R++dB a R++(im a R).take 0)):=λd W h=>by show aX _ _ _ _;have f:=h.out;rw[CK (by simp[dB];decide)]at f;simpa using f
       have X:=X _ _ g;clear g;go_wp2;go_loopw [8,13] (λd j wr=>∃b:Nat,b<=10/\j=I J (9-(b:Int))/\w2 (aX i wr d (bn a R++bY a R++dB a R++(im a R).take b))) (λ_ j _=>(intOf j+1).toNat)
       case atStart=>exact⟨0,by omega,rfl,X.out⟩
       case round=>
        clear X;obtain⟨b,G,rfl,g⟩:=hrel;by_cases l:b<10
        ·obtain⟨x,y,r,u,m,f,z,ap,av⟩:=iP a R P 3 b oO l;have F:w2 (bn a R++bY a R++dB a R++(im a R).take (b+1)=(bn a R++bY a R++dB a R++(im a R).take b)++[(x,y)]):=by show _=_;rw[eV _ (0,0) (by rw[(bR a R).2.2.2];exact l),<-y6];exact z7 (λA=>_++[A]) r
         have N:w2 ((bn a R++bY a R++dB a R++(im a R).take b).length<=100):=by
          show _<=_;have:=bR a R;have hn:(aL R).length=10:=rfl;simp only[w9,Ai,HB,this.1,this.2.1,this.2.2.1,this.2.2.2,hn];omega
         have k:=z rfl;have n:=k.1;have o:=k.2;obtain⟨c,H⟩:∃c,c=10-1-b:=⟨_,rfl⟩;have bd:(9:Int)-(b:Int)=(c:Int):=oO;have K:c<10:=oO;have bq:(c:Int)<10:=oO;have M:(9:Int)-((b+1:Nat):Int)=(c:Int)-1:=oO;have a4:=aa M;clear M;have s:(aL R).getD c 0=(aL R).getD ((aL R).length-1-b) 0:=by rw[H];rfl
         rw[<-s]at o;have p:=fN (c:=R) (j:=c) K;have D:w2 (∀W,af i W->W.cell? ((⟨B,0,U⟩:Addr).add c)=gk (I J ((aL R).getD c 0))):=λW t=>Q.out W t _ K;simp only[bu,Ax,Rk,Qk]at n o p;generalize(aL R).getD c 0=q at*;have a0:-7<=q:=oO;have a1:q<=7:=oO;have a2:(a:Int)-7=(x:Int):=oO;clear n;clear u m f z k r s p H;have C:=D.out _ g.out.B;rw[HU,B3]at C;generalize bn a R++bY a R++dB a R++(im a R).take b=ad at*;exact Po
        ·obtain rfl:b=10:=oO;have bo:¬((0:Int)<=9-((10:Nat):Int)):=oO;have Y:∀d W,w2 (aX i W d (bn a R++bY a R++dB a R++(im a R).take 10))->w2 (aX i W d (dZ a R)):=λd W h=>by show aX _ _ _ _;have f:=h.out;rw[CK (by simp[im];decide)]at f;rw[oX];exact f
         have Y:=Y _ _ g;clear g;go_wp2;go_ret;exact⟨_,rfl,(fR.bL Y.out.O).mono a7.out.size,ae a7.out Y.out.B⟩
theorem C7 (L:Nat) (c:Bool) (w:wR) (a:1<=L) (b:L<=32):wS w1 52 #[I J L,.bool c] w λe d=>∃v,e= .returned v/\fR w.heap.size d v (dZ (cI L c) c)/\af w d:=by
 cases c with
 |true=>exact AR L w a b
 |false=>exact Aa L w a b
theorem qu (s a:Nat) (c:Bool) (w:wR) (b:bu c<=a) (f:a<=100000000):wS w1 43 #[dR s c a (bu c)] w λe d=>∃v,e= .returned v/\fR w.heap.size d v (dZ a c)/\af w d:=by
 cases c with
 |true=>exact CY s a w b f
 |false=>exact Bt s a w b f
def wZ (L:Int) (c:Bool):Int:=if eH L c=wP then 0 else 14
def uh (L:Int) (c:Bool):List Pt:=if eH L c=wP then cO L.toNat c else[]
def tS (L:Int) (c:Bool):List Pt:=if eH L c=wP then dZ (cI L.toNat c) c else[]
def Tk (w:wR) (L:Int) (c:Bool) (e:Ending) (a:wR):Prop:=∃v u,e= .returned (.tuple #[v,u,I J (wZ L c)])/\SP a v (uh L c)/\SP a u (tS L c)/\af w a
theorem O5 (L:Int) (c:Bool) (w:wR):wS w1 15 #[I J L,.bool c] w (Tk w L c):=by
 have i:=fI w L c;have l:w2 (∀W,wS w1 29 #[bX L c] W (au (.bool (eH L c)) W)):=λW=>iR L c W;cases a:eH L c with
 |false=>
  have b:w2 (wZ L c=14/\uh L c=[]/\tS L c=[]):=by show _/\_/\_;unfold wZ uh tS;rw[a];exact⟨rfl,rfl,rfl⟩
  rw[a]at l;clear a;go_enter func15,ntmps15;go_wp2_with(go_at_call 29;refine(l.out _).mono ?_;rintro e A ⟨rfl,g⟩;have d:=aa g;clear g;obtain⟨r,s⟩:=i.out _ d.out)
  go_ret3
  exact⟨_,_,by rw[b.out.1];rfl,by rw[b.out.2.1];exact SP.dw _,by rw[b.out.2.2];exact SP.dw _,dT d.out⟩
 |true=>
  obtain⟨k,rfl,B,j,C⟩:=kh a;have b:w2 (wZ k c=0/\uh k c=cO k c/\tS k c=dZ (cI k c) c):=by show _/\_/\_;unfold wZ uh tS;rw[a];exact⟨rfl,rfl,rfl⟩
  have N:=su (c:=c) B j;have O:=eI (c:=c) j;have D:w2 (∀W,wS w1 46 #[bX k c] W λe f=>∃v,e= .returned v/\fR W.heap.size f v (cO k c)/\af W f):=λW=>xW k c W j;have P:w2 (∀W,wS w1 36 #[bX k c] W (au (I J ((aB k c:Nat):Int)) W)):=λW=>oR k c W j;have E:w2 (∀W,wS w1 39 #[I J ((aB k c:Nat):Int),.bool c] W (au (dR (aB k c) c (cI k c) (bu c)) W)):=λW=>kS (aB k c) c W oO oO;have F:w2 (∀W,wS w1 43 #[dR (aB k c) c (cI k c) (bu c)] W λe f=>∃v,e= .returned v/\fR W.heap.size f v (dZ (cI k c) c)/\af W f):=λW=>qu (aB k c) (cI k c) c W oO oO;rw[a]at l;generalize cO k c=dl at*;generalize dZ (cI k c) c=ab at*;generalize aB k c=S at*;generalize cI k c=Z at*;generalize bu c=ac at*;clear a C N O;go_enter func15,ntmps15;go_wp2_with(go_at_call 29;refine(l.out _).mono ?_;rintro e A ⟨rfl,g⟩;have d:=aa g;clear g;obtain⟨r,s⟩:=i.out _ d.out)
  clear r s;refine yO (af (w.alloc (cN k c))) [1,3,5,0,2,4,6,7,0,8,9,10] (ai d.out) ?_
  repeat refine zO i.out ?_
  refine zZ ?_;refine(D.out _).mono ?_;rintro e G ⟨ad,rfl,m,t⟩;obtain⟨⟨al,am,rfl,-⟩,-⟩:=id m;have Q:=aa m.1;have u:w2 (af (w.alloc (cN k c)) G):=ae (ai d.out) t;clear m t;refine⟨_,rfl,u.out,jO ?_⟩;refine zZ ?_;refine(P.out _).mono ?_;rintro e H ⟨rfl,n⟩;have T:=aa (Q.out.below n);have x:w2 (af (w.alloc (cN k c)) H):=ae u.out n;clear n;refine⟨_,rfl,x.out,jO ?_⟩;refine zZ ?_;refine(E.out _).mono ?_;rintro e K ⟨rfl,o⟩;have V:=aa (T.out.below o);have y:w2 (af (w.alloc (cN k c)) K):=ae x.out o;clear o;refine⟨_,rfl,y.out,jO ?_⟩;refine zZ ?_;refine(F.out _).mono ?_;rintro e M ⟨ap,rfl,p,q⟩;obtain⟨⟨av,a0,rfl,-⟩,-⟩:=id p;have X:=aa p.1;have Y:=aa (V.out.below q);have z:w2 (af (w.alloc (cN k c)) M):=ae y.out q;clear p q;refine⟨_,rfl,z.out,jO ?_⟩
  repeat refine zO i.out ?_
  refine aj ?_;go_wp2;go_ret3
  exact⟨_,_,by rw[b.out.1];rfl,by rw[b.out.2.1];exact Y.out,by rw[b.out.2.2];exact X.out,dT z.out⟩
def AN (a:Nat) (b:Pt):Bool:=(pT b.1 a%16==0&&pT b.2 a%2==0)||(pT b.2 a%16==0&&pT b.1 a%2==0)
def xw (a:Nat) (c:Bool) (b:Pt):Bool:=if lQ a b<bu c then lQ a b%2==0 else !c&&AN a b
def eC (n b:Nat) (c:Bool):List Bool:=(List.range (n* n)).map λa=>xw b c (a%n,a/n)
def j6:List Bool:=[wP,wP,wP,wP,wP,wP]
def nU:List Bool:=[R,R,R,R,R,R]
def rP (n a:Nat) (c:Bool):List Bool:=dL n (dL n (eC n a c) (b8 a (bu c)) j6) (bQ a (bu c)) nU
def RU (L:Nat) (c:Bool) (d content msg:List Bool):List Bool:=
 dL (aB L c) (dL (aB L c) d ((cO L c).drop ((cO L c).length-content.length)) content) (dZ (cI L c) c) msg
def NW (L:Nat) (c:Bool) (content msg:List Bool):List Bool:=RU L c (rP (aB L c) (cI L c) c) content msg
theorem pL (n a:Nat) (c:Bool):(eC n a c).length=n* n:=by unfold eC;simp
theorem rS (n a:Nat) (c:Bool):(rP n a c).length=n* n:=by unfold rP;rw[ir,ir,pL]
theorem xF (L:Nat) (c:Bool) (content msg:List Bool):(NW L c content msg).length=aB L c* aB L c:=by unfold NW RU;rw[ir,ir,rS]
theorem DY {C s:Nat} {a:Pt} (hs:5<=s) (d:s<=C) (h:a∈b8 C s):lQ C a=s/\a.1<2* C+1/\a.2<2* C+1/\∀b:Nat,C-s+2<=b->b+2<=C+s->a≠(b,C-s)/\a≠(C+s,b)/\a≠(b,C+s)/\a≠(C-s,b):=by
 simp only[b8,List.mem_cons,Ay,or_false]at h;unfold lQ pT;rcases h with rfl|rfl|rfl|rfl|rfl|rfl
 all_goals simp only[Prod.mk.injEq,ne_eq]
 all_goals refine⟨by omega,by omega,by omega,λb h1 e=>⟨?_,?_,?_,?_⟩⟩<;>omega
theorem B5 {C s:Nat} {a:Pt} (hs:5<=s) (d:s<=C) (h:a∈bQ C s):lQ C a=s/\a.1<2* C+1/\a.2<2* C+1/\∀b:Nat,C-s+2<=b->b+2<=C+s->a≠(b,C-s)/\a≠(C+s,b)/\a≠(b,C+s)/\a≠(C-s,b):=by
 simp only[bQ,List.mem_cons,Ay,or_false]at h;unfold lQ pT;rcases h with rfl|rfl|rfl|rfl|rfl|rfl
 all_goals simp only[Prod.mk.injEq,ne_eq]
 all_goals refine⟨by omega,by omega,by omega,λb h1 e=>⟨?_,?_,?_,?_⟩⟩<;>omega
section
variable {L : Nat} {c : Bool} (h1 : 1 ≤ L) (hL : L ≤ 32) {content msg : List Bool} (hc : content.length ≤ (cO L c).length)
include h1 hL
end
def LK (a b:Int):Int:=if b>a then b else a
def LH (a b c d:Int):Int:=LK (LK (LK a b) c) d
theorem FL (f:Array TypeId) (e:TypeId) (a b c d:Int) (w:wR):(Builtin.max_ f e #[I J a,I J b,I J c,I J d]).run w1 w= .ok (I J (LH a b c d)) w:=by
 simp[Builtin.max_,Builtin.max2,LH,LK]
theorem KC (x y a:Nat):LH ((x:Int)-a) ((a:Int)-x) ((y:Int)-a) ((a:Int)-y)=((lQ a (x,y):Nat):Int):=by
 unfold lQ pT LH LK;simp only
 (repeat' split)<;>omega
theorem uO (s a m x y:Nat) (c:Bool) (w:wR) (e:a<=1000000) (f:x<=1000000) (g:y<=1000000):wS w1 86 #[dR s c a m,I J x,I J y] w (au (I J ((lQ a (x,y):Nat):Int)) w):=by
 have b:=aa (KC x y a);have d:w2 (af w (w.alloc (.cells #[I J (s:Int),.bool c,I J (a:Int),I J (m:Int)] 71))):=ax _ _;have i:=FL;go_enter func86,ntmps86;go_wp2;go_ret;exact⟨bM b.out,d.out⟩
theorem xL (d:Nat) (w:wR) (c:d<=1000000):wS w1 87 #[I J d] w λe a=>e= .returned (.bool (d%2==0))/\a=w:=by
 have b:w2 (((d:Int)%2==0)=(d%2==0)):=by
  show _=_;rw[Bool.eq_iff_iff];simp;omega
 go_enter func87,ntmps87;go_wp2;exact bodyPost_ret (v:= .bool ((d:Int)%2==0)) (by simp[results,results87,go_sem]) rfl ⟨by rw[b.out],rfl⟩
def PC (a b:Int):Bool:=(a.tmod 16==0&&b.tmod 2==0)||(b.tmod 16==0&&a.tmod 2==0)
theorem tmod_zero (x a:Nat) (k:Nat) (b:k≠0):(((x:Int)-(a:Int)).tmod (k:Int)==0)=(pT x a%k==0):=by
 rw[Bool.eq_iff_iff,beq_iff_eq,beq_iff_eq,<-Int.dvd_iff_tmod_eq_zero];have h:((k:Int)∣((x:Int)-(a:Int)))↔((k:Int)∣((pT x a:Nat):Int)):=by
  unfold pT;rcases Nat.le_total x a with h|h
  ·have e:(((x-a)+(a-x):Nat):Int)=-((x:Int)-(a:Int)):=oO;rw[e,Int.dvd_neg]
  ·have e:(((x-a)+(a-x):Nat):Int)=((x:Int)-(a:Int)):=oO;rw[e]
 rw[h,Int.natCast_dvd_natCast];exact⟨λh=>Nat.mod_eq_zero_of_dvd h,λh=>Nat.dvd_of_mod_eq_zero h⟩
theorem QE (x y a:Nat):PC ((x:Int)-a) ((y:Int)-a)=AN a (x,y):=by
 unfold PC AN;have b:=tmod_zero x a 16 oO;have c:=tmod_zero y a 2 oO;have d:=tmod_zero y a 16 oO;have e:=tmod_zero x a 2 oO;rw[show((16:Nat):Int)=16 from rfl]at b d;rw[show((2:Nat):Int)=2 from rfl]at c e;rw[b,c,d,e]
theorem xd (s i m:Nat) (c:Bool) (d e:Int) (w:wR):wS w1 133 #[dR s c i m,I J d,I J e] w (au (.bool (PC d e)) w):=by
 have o:w2 (af w (w.alloc (.cells #[I J (s:Int),.bool c,I J (i:Int),I J (m:Int)] 71))):=ax _ _;have j:w2 (PC d e=((d.tmod 16==0&&e.tmod 2==0)||(e.tmod 16==0&&d.tmod 2==0))):=rfl;have f (a:Int):J.wrap (a.tmod 16)=a.tmod 16:=by
  have k:=Int.tmod_lt_of_pos a (show(0:Int)<16 by omega);have l:-16<a.tmod 16:=by have:=Int.lt_tmod_of_pos a (show(0:Int)<16 by omega);exact this
  exact aG _ oO oO
 have g (a:Int):J.wrap (a.tmod 2)=a.tmod 2:=by
  have k:=Int.tmod_lt_of_pos a (show(0:Int)<2 by omega);have l:-2<a.tmod 2:=by have:=Int.lt_tmod_of_pos a (show(0:Int)<2 by omega);exact this
  exact aG _ oO oO
 have k:=f d;have l:=f e;have u:=g d;have v:=g e;clear f g;generalize x:d.tmod 16=a at*;generalize hb:e.tmod 16=b at*;generalize hc:d.tmod 2=n at*;generalize y:e.tmod 2=q at*;cases p:(a==0)<;>cases eb:(b==0)<;>cases r:(n==0)<;>cases t:(q==0)
 all_goals
  rw[p,eb,r,t]at j;go_enter func133,ntmps133;go_wp2;go_ret;exact⟨bh (by rw[j.out];rfl),o.out⟩
def bF (w:wR) (db:Nat) (a:List Bool):Prop:=ag w db (a.map vB).toArray 4
structure aI (db:Nat) (w a:wR):Prop where
 sz:w.heap.size<=a.heap.size
 bl:∀k,k<w.heap.size->k≠db->a.heap[k]?=w.heap[k]?
 os:a.os=w.os
 tape:a.tape=w.tape
 output:a.output=w.output
theorem aI.refl (db:Nat) (w:wR):aI db w w:=⟨Nat.le_refl _,λ_ _ _=>rfl,rfl,rfl,rfl⟩
theorem aI.trans {db:Nat} {a b c:wR} (h:aI db a b) (d:aI db b c):aI db a c:=⟨Nat.le_trans h.sz d.sz,λk e hn=>(d.bl k (x6 e h.sz) hn).trans (h.bl k e hn),d.os.trans h.os,d.tape.trans h.tape,d.output.trans h.output⟩
theorem aI.below {db:Nat} {w W:wR} (h:af w W):aI db w W:=⟨h.size,λk a _=>h.block k a,h.os,h.tape,h.output⟩
theorem aI.eN {db i:Nat} {w:wR} (u:Value):aI db w (w.setCell ⟨db,i,U⟩ u):=⟨by simp,λk a hn=>Below.heap_setCell _ _ _ _ hn,rfl,rfl,rfl⟩
theorem aI.cell {db:Nat} {w W:wR} (h:aI db w W) {a:Addr} (b:a.block<w.heap.size) (hn:a.block≠db):W.cell? a=w.cell? a:=by
 have e:W.heap[a.block]?=w.heap[a.block]?:=h.bl _ b hn;exact World.cell?_of_block e
theorem aI.row {db a:Nat} {w W:wR} {d:Array Value} {b:TypeId} (h:aI db w W) (c:ag w a d b) (hn:a≠db):ag W a d b:=(h.bl _ (ay c) hn).trans c
theorem aI.to {db B:Nat} {w W:wR} (h:aI db w W) (hb:B<=db) (a:B<=w.heap.size):Below B w W:=⟨h.os,h.tape,h.output,h.sz,λk b=>h.bl k (x6 b a) oO⟩
theorem bF.cell {w:wR} {db:Nat} {b:List Bool} (h:bF w db b) {i:Nat} (c:i<b.length):w.cell? ⟨db,i,U⟩=gk (.bool (b.getD i R)):=by
 refine ag.cell h i _ ?_;simp[List.getD,c,vB]
theorem bF.set {w:wR} {db:Nat} {c:List Bool} (h:bF w db c) (a:Nat) (b:Bool):bF (w.setCell ⟨db,a,U⟩ (.bool b)) db (c.set a b):=by
 have:=heap_setCell_same w db a _ _ (.bool b) h;unfold bF ag;rw[this];simp[List.map_set,vB]
theorem bF.below {w W:wR} {db:Nat} {a:List Bool} (h:bF w db a) (hb:af w W):bF W db a:=ag.below h hb
theorem rJ {a:Act} {c:Oper} {W:wR} {x q:Operand} (d:c.op= .store 4 q x) (b:Addr) (v:Bool) (hq:a.eval q= .pointer (gk b)) (e:a.eval x= .bool v) {u:Value} (hc:W.cell? b=gk u) (f:W.frozen? b=R):
 (execOp a.eval c).run w1 W= .ok .skip (W.setCell b (.bool v)):=by
 unfold execOp;simp only[d,hq,e,Instr.storeAt,Instr.sureAddr,Sem.run_bind,Sem.run_pure,Result.andThen_ok];go_simp
abbrev Ko (n H db N:Nat):Value:= .agg #[I J (n:Int),I J (H:Int),.slice (gk ⟨db,0,U⟩) N N]
abbrev TM (n H db N:Nat):Obj:= .cells #[I J (n:Int),I J (H:Int),.slice (gk ⟨db,0,U⟩) N N] 28
theorem Cu (n H db N m k:Nat) (d:List Bool) (ps:List Pt) (g:List Bool) (v:Value) (B:Option Addr) (w:wR) (hn:n<=1000) (cx:H<=1000) (a2:N=d.length) (c4:N<=100000000) (P:bF w db d) (b1:SP w v ps) (a7:∀A m k l,v= .slice A m k->A=gk l->l.block≠db)
 (hb:SR vB R w B m k g) (a8:∀l,B=gk l->l.block≠db) (bv:ps.length=g.length) (a9:∀f∈ps,eU n f<d.length):
 wS w1 84 #[Ko n H db N,v,.slice B m k] w λe a3=>e= .returned (.tuple #[])/\bF a3 db (dL n d ps g)/\aI db w a3:=by
 obtain⟨A,c,rfl,bb,b6,a4⟩:=b1;obtain⟨Q,Y⟩:∃Q,Q=ps.length:=⟨_,rfl⟩;rw[<-Y]at bb⊢;have b7:=hb.hn;have b9:m=Q:=oO;subst b9;have r:=aa Y;have O:=aa bv;have b2:=aa P;have b3:=aa a4;have ca:=aa hb.rd;have cb:w2 (∀l,A=gk l->l.block≠db):=λl e=>a7 A _ _ l rfl e;have ce:=aa a8;have ch:=aa a9;have a5:=aa a2;have c8:m<=9223372036854775807:=by unfold maxLen at*;omega
 have bd:db<w.heap.size:=ay P;clear P a4 hb a7 a8 a9 bv Y b7 bb b6 a2;obtain⟨j,E⟩:∃j,j=w.alloc (TM n H db N):=⟨_,rfl⟩;have Z:w2 (af w j):=by show Below _ _ _;rw[E];exact ax _ _
 have ab:w2 (ag j w.heap.size #[I J (n:Int),I J (H:Int),.slice (gk ⟨db,0,U⟩) N N] 28):=by show ag _ _ _ _;rw[E];exact ag.new _ _ _ _ oS
 have be:w2 (bF j db (dL n d (ps.take 0) (g.take 0))/\aI db j j):=by
  show _/\_;rw[List.take_zero,r9];exact⟨b2.out.below Z.out,aI.refl _ _⟩
 have ci:=aa bd;go_enter func84,ntmps84;go_wp2;rw[<-E];clear E bd;go_loopw [10] (λS wr=>∃a:Nat,a<=m/\S=I J a/\w2 (bF wr db (dL n d (ps.take a) (g.take a))/\aI db j wr)) (λS _=>m-(intOf S).toNat)
 case atStart=>exact⟨0,x1 _,rfl,be.out⟩
 case round=>
  clear be;obtain⟨a,cy,rfl,s⟩:=hrel;by_cases y:a<m
  ·obtain⟨t,C,rfl,F,bf⟩:=b3.out (by rw[<-r.out];omega);obtain⟨u,rfl,ac,bi⟩:=ca.out (by rw[<-O.out,<-r.out];omega);have T:=bf a (by rw[<-r.out];exact y);have a6:=bi a (by rw[<-O.out,<-r.out];exact y);have bo:t≠db:=cb.out _ rfl;have bx:u.block≠db:=ce.out _ rfl;have bq:ps.getD a (0,0)∈ps:=by
    have:a<ps.length:=by rw[<-r.out];exact y
    simp only[List.getD,List.getElem?_eq_getElem this,Option.getD_some];exact List.getElem_mem this
   have av:=ch.out _ bq;have bz:w2 (dL n d (ps.take (a+1)) (g.take (a+1))=(dL n d (ps.take a) (g.take a)).set (eU n (ps.getD a (0,0))) (g.getD a R)):=yt n d ps g (by rw[<-r.out];exact y) (by rw[<-O.out,<-r.out];exact y);have bs:w2 ((dL n d (ps.take a) (g.take a)).length=d.length):=ir _ _ _ _;generalize ps.getD a (0,0)=f at*;generalize g.getD a R=b at*;generalize dL n d (ps.take a) (g.take a)=V at*;have x:aI db w wr:=(aI.below Z.out).trans s.out.2;have e1:wr.cell? ⟨t,C+a* 2,U⟩=gk (I J (f.1:Int)):=(x.cell (a:=⟨t,C+a* 2,U⟩) F bo).trans T.1;have e2:wr.cell? ⟨t,C+a* 2+1,U⟩=gk (I J (f.2:Int)):=(x.cell (a:=⟨t,C+a* 2+1,U⟩) F bo).trans T.2;have e3:wr.cell? (u.add a)=gk (.bool b):=(x.cell (a:=u.add a) (by rw[aD];exact ac) (by rw[aD];exact bx)).trans a6;have ck:t<wr.heap.size:=x6 F x.sz;have ad:u.block<wr.heap.size:=x6 ac x.sz;obtain⟨i,G⟩:∃i,i=wr.alloc (.cells #[I J (f.1:Int),I J (f.2:Int)] 47):=⟨_,rfl⟩;obtain⟨p,K⟩:∃p,p=wr.heap.size:=⟨_,rfl⟩;have z:w2 (af wr i):=by show Below _ _ _;rw[G];exact ax _ _
   have L:w2 (ag i p #[I J (f.1:Int),I J (f.2:Int)] 47):=by show ag _ _ _ _;rw[G,K];exact ag.new _ _ _ _ oS
   have co:w2 (bF i db V):=s.out.1.below z.out;have M:w.heap.size<j.heap.size:=ay ab.out;have bt:w.heap.size≠db:=by have:=ci.out;omega
   have cp:w.heap.size<i.heap.size:=x6 (x6 M s.out.2.sz) z.out.size;have al:aI db j i:=s.out.2.trans (aI.below z.out);have a0:p≠db:=by rw[K];have X:=ay s.out.1;omega
   have b4:w2 (∀W,aI db i W->(W.cell? ⟨w.heap.size,0,U⟩=gk (I J (n:Int))/\W.cell? ⟨w.heap.size,2,U⟩=gk (.slice (gk ⟨db,0,U⟩) N N))/\(W.cell? ⟨p,0,U⟩=gk (I J (f.1:Int))/\W.cell? ⟨p,1,U⟩=gk (I J (f.2:Int)))/\W.cell? (u.add a)=gk (.bool b)):=by
    show∀W,_;intro W D;have X:=al.trans D;refine⟨⟨(X.cell (a:=⟨w.heap.size,0,U⟩) M bt).trans (ab.out.cell 0 _ rfl),(X.cell (a:=⟨w.heap.size,2,U⟩) M bt).trans (ab.out.cell 2 _ rfl)⟩,⟨(D.cell (a:=⟨p,0,U⟩) (ay L.out) a0).trans (L.out.cell 0 _ rfl),(D.cell (a:=⟨p,1,U⟩) (ay L.out) a0).trans (L.out.cell 1 _ rfl)⟩,?_⟩;exact(D.cell (a:=u.add a) (by rw[aD];exact x6 ad z.out.size) (by rw[aD];exact bx)).trans ((z.out.cell (by rw[aD];exact ad)).trans e3)
   obtain⟨q,hq⟩:∃q,q=f.2* n:=⟨_,rfl⟩;obtain⟨o,a1⟩:∃o,o=eU n f:=⟨_,rfl⟩;have cq:o=q+f.1:=by rw[a1,hq];rfl
   rw[<-a1]at av bz;rw[<-a5.out]at av;have c5:q<=100000000:=oO;have c6:(f.2:Int)* (n:Int)=(q:Int):=by rw[hq];simp
   have c2:J.wrap (q:Int)=(q:Int):=aG _ oO oO;have c3:J.wrap ((q:Int)+(f.1:Int))=(o:Int):=by rw[aG _ oO oO];omega
   have c9:(o:Int)<(N:Int):=oO;have cs:w2 (o<V.length):=by show _<_;rw[bs.out,<-a5.out];exact av
   have c7:(a:Int)<(m:Int):=oO;clear hq a1 cq bf bi T a6 bq bs;have cr:=aa al;clear al x cp a0;go_wp2;rw[<-G,<-K];clear G K e1 e2 e3 M ck ad F ac;have am:w2 (aI db i i.drew):=aI.below (ai (Below.refl _ _));refine yO (λW=>aI db i W) [1,2,3,4,5,6,7,8,9,10,11,12,13,14,15,0,16] am.out ?_
   repeat refine zO b4.out ?_
   have ap:w2 (bF i.drew db V):=co.out.below (ai (Below.refl _ _));refine' iW (w':=i.drew.setCell ⟨db,o,U⟩ (.bool b)) rfl (rJ rfl ⟨db,o,U⟩ b rfl rfl (ap.out.cell cs.out) (frozen_of_row _ _ _ _ _ ap.out)) (am.out.trans (aI.eN _)) ?_;simp only[yQ,yU,yX,yY];refine aj ?_;have cv:w2 (bF (i.drew.setCell ⟨db,o,U⟩ (.bool b)) db (dL n d (ps.take (a+1)) (g.take (a+1)))/\aI db j (i.drew.setCell ⟨db,o,U⟩ (.bool b))):=by
    show _/\_;rw[bz.out];exact⟨ap.out.set _ _,(cr.out.trans am.out).trans (aI.eN _)⟩
   go_wp2;exact⟨⟨a+1,by omega,by go_num,cv.out⟩,by simp[intOf];omega⟩
  ·obtain rfl:a=m:=oO;have b5:w2 (dL n d (ps.take a) (g.take a)=dL n d ps g):=by show _=_;rw[r.out,S3,O.out,S3]
   go_wp2;refine bodyPost_end (results_none rfl _ _ _) rfl ?_;exact⟨rfl,by rw[<-b5.out];exact s.out.1,(aI.below Z.out).trans s.out.2⟩
end
end Go.Proofs.YtmnlkganmgcpbaaGreatDoor
