import Derived.Test.YtmnlkganmgcpbaaGreatDoorQi29
set_option maxRecDepth 100000
set_option maxHeartbeats 4000000
set_option linter.unusedVariables false
set_option linter.unusedSectionVars false
set_option linter.unusedSimpArgs false
set_option linter.defProp false
open Go.Value renaming int->I,int->zz
open Go.IntKind renaming i64->J
open Bool renaming false->R,true->wP,and_eq_true->Az
open Option renaming none->U,some->gk,getD_some->HL
open Go renaming World->wR,Calls->wS
open Go.Proofs.Tryz renaming prog->w1,ntmps14->Xc
open Go.RowKit renaming Hid->w2
open _root_ renaming Option->xv,absurd->A8
open List renaming range->y3,not_mem_nil->Ay,cons_append->VL,find?_eq_none->V4
open Nat renaming lt_or_ge->z6,mul_le_mul->Cq,add_comm->Vi
open Go.Proofs.Tryz
namespace Go.Proofs.YtmnlkganmgcpbaaGreatDoor
section
open Go.RowKit
def l4 (s:Int):List Int:=[-s,-s,-s+1,-s,-s,-s+1,s,-s,s,-s+1,s,s-1,s-1,-s,s,s,s-1,s,-s,s,-s+1,s,-s,s-1]
theorem My (c:Bool) (w:wR):wS w1 126 #[.bool c] w λe d=>∃b,e= .returned (.slice (gk ⟨b,0,U⟩) 12 12)/\w.heap.size<=b/\ag d b ((l4 ((bu c:Nat):Int)).map (zz .i64)).toArray 47/\af w d:=by
 have f:∀a,w2 (af w (w.alloc a)):=λa=>ax w a;cases c<;>(go_enter func126,ntmps126;go_wp2;go_ret;exact⟨_,rfl,Nat.le_refl _,ag.new _ _ _ _ rfl,ax _ _⟩)
theorem Jc {b s:Nat} (h:s<=b) (c:1<=s) {a:Nat} (d:a<12):(b:Int)+(l4 (s:Int)).getD (a* 2) 0=((((b8 b s++bQ b s).getD a (0,0)).1:Nat):Int)/\(b:Int)+(l4 (s:Int)).getD (a* 2+1) 0=((((b8 b s++bQ b s).getD a (0,0)).2:Nat):Int)
 /\-(s:Int)<=(l4 (s:Int)).getD (a* 2) 0/\(l4 (s:Int)).getD (a* 2) 0<=s/\-(s:Int)<=(l4 (s:Int)).getD (a* 2+1) 0/\(l4 (s:Int)).getD (a* 2+1) 0<=s:=by
 obtain rfl|rfl|rfl|rfl|rfl|rfl|rfl|rfl|rfl|rfl|rfl|rfl:a=0\/a=1\/a=2\/a=3\/a=4\/a=5\/a=6\/a=7\/a=8\/a=9\/a=10\/a=11:=oO
 all_goals simp only[l4,b8,bQ,List.getD,VL,List.nil_append,Nat.reduceMul,Nat.reduceAdd,List.getElem?_cons_succ,List.getElem?_cons_zero,HL]
 all_goals omega
def jP (n:Nat) (c:Bool):Nat:=match(y3 32).find? (iS n c)with
 |some a=>a+1
 |none=>0
theorem QL {c:Nat->Bool} {b:Nat}:∀{N:Nat},b<N->(∀d,d<b->c d=R)->c b=wP->(y3 N).find? c=gk b:=by
 intro N i e f;rw[List.find?_eq_some_iff_append];refine⟨f,y3 b,(List.range' (b+1) (N-b-1)),?_,λa g=>by rw[e a (List.mem_range.1 g)];rfl⟩;rw[List.range_eq_range',List.range_eq_range',show N=b+(1+(N-b-1))from by omega,<-List.range'_append,show b+(1+(N-b-1))-b-1=N-b-1 from by omega];simp[List.range'_succ,Vi 1]
theorem Qy {n:Nat} {c:Bool} {a:Nat} (d:a<32) (e:∀b,b<a->iS n c b=R) (f:iS n c a=wP):jP n c=a+1:=by
 unfold jP;rw[QL d e f]
theorem Oo {n:Nat} {c:Bool} (h:∀a,a<32->iS n c a=R):jP n c=0:=by
 have:(y3 32).find? (iS n c)=U:=by
  rw[V4];intro a b;rw[h a (List.mem_range.1 b)];decide
 unfold jP;rw[this]
theorem mI (n:Nat) (c:Bool):(jP n c=0/\dh n c=R)\/(1<=jP n c/\jP n c<=32/\eH (jP n c:Int) c=wP/\aB (jP n c) c=n/\dh n c=wP):=by
 cases h:(y3 32).find? (iS n c)with
 |none=>
  have d:jP n c=0:=by unfold jP;rw[h]
  refine .inl ⟨d,Ch λb f=>?_⟩;rw[V4]at h;have:=h b (List.mem_range.2 f);simpa using this
 |some b=>
  have d:jP n c=b+1:=by unfold jP;rw[h]
  have e:=List.find?_some h;have g:=List.mem_range.1 (List.mem_of_find?_eq_some h);have a:=e;unfold iS at a;rw[Az,beq_iff_eq]at a;rw[d];exact .inr ⟨by omega,by omega,a.1,a.2,ES g e⟩
theorem SC {k a:Nat} {c:Bool} (h:eH (k:Int) c=R) (b:1<=k) (d:k<=a):eH (a:Int) c=R:=by
 unfold eH at h⊢;cases c<;>simp at h⊢<;>omega
theorem ki (n:Nat) (c:Bool) (w:wR) (hn:n<=4096):wS w1 74 #[I J n,.bool c] w (au (I J ((jP n c:Nat):Int)) w):=by
 go_enter func74,ntmps74;go_wp2;go_loopw [5] (λm wr=>∃k:Nat,1<=k/\k<=33/\m=I J k/\w2 (∀a,a+1<k->iS n c a=R)/\w2 (af w wr)) (λm _=>34-(intOf m).toNat)
 case atStart=>exact⟨1,by omega,by omega,rfl,λa l=>A8 l oO,Below.refl _ _⟩
 case round=>
  obtain⟨k,v,D,rfl,o,hB⟩:=hrel;have g:w2 (∀W,wS w1 47 #[I J k,.bool c] W λe p=>e= .returned (.bool (eH (k:Int) c))/\p=W):=λW=>vL k c W;cases d:eH (k:Int) c with
  |false=>
   have E:w2 (jP n c=0):=Oo λa l=>by
    rcases z6 (a+1) k with h|h
    ·exact o.out a h
    ·unfold iS;rw[SC d v h];rfl
   rw[d]at g;clear d;go_wp2_with(go_at_call 47;refine(g.out _).mono ?_;rintro e t ⟨rfl,f⟩;rw[f];clear f)
   go_ret;exact⟨by rw[E.out];rfl,hB.out⟩
  |true=>
   have q:k<=32:=by
    rcases z6 32 k with h|h
    ·have:eH (k:Int) c=R:=by unfold eH;simp;omega
     rw[this]at d;cases d
    ·exact h
   have r:w2 (∀W,wS w1 48 #[I J k,.bool c] W λe p=>e= .returned (I J ((aB k c:Nat):Int))/\p=W):=λW=>pz k c W q;obtain⟨b,rfl⟩:∃b,k=b+1:=⟨k-1,by omega⟩;have s:w2 (iS n c b=(aB (b+1) c==n)):=by show _=_;unfold iS;rw[d,Bool.true_and]
   rw[d]at g;have F:=(eI (L:=b+1) (c:=c) q).2;have x:w2 (iS n c b=R->∀a,a+1<b+1+1->iS n c a=R):=by
    show _->_;intro h a l;rcases z6 a b with z|z
    ·exact o.out a oO
    ·obtain rfl:a=b:=oO;exact h
   have y:w2 (iS n c b=wP->jP n c=b+1):=λh=>Qy oO (λa l=>o.out a oO) h;obtain⟨k,u⟩:∃k,k=b+1:=⟨_,rfl⟩;rw[<-u]at g r s F x y v D q⊢;generalize aB k c=S at*;clear d u;by_cases i:S=n
   ·have A:=aa (y.out (by rw[s.out,i];simp));have G:((S:Int)==(n:Int))=wP:=by rw[i];simp
    clear i
    go_wp2_with(first
     |(go_at_call 47;refine(g.out _).mono ?_;rintro e t ⟨rfl,f⟩;rw[f];clear f)
     |(go_at_call 48;refine(r.out _).mono ?_;rintro e B ⟨rfl,j⟩;rw[j];clear j))
    go_ret;exact⟨by rw[A.out];rfl,hB.out⟩
   ·have G:((S:Int)==(n:Int))=R:=by rw[beq_eq_false_iff_ne];omega
    have C:=aa (x.out (by rw[s.out,beq_eq_false_iff_ne];exact i));clear i
    go_wp2_with(first
     |(go_at_call 47;refine(g.out _).mono ?_;rintro e t ⟨rfl,f⟩;rw[f];clear f)
     |(go_at_call 48;refine(r.out _).mono ?_;rintro e B ⟨rfl,j⟩;rw[j];clear j))
    exact⟨⟨k+1,by omega,by omega,by go_num,C.out,hB.out⟩,by simp[intOf];omega⟩
def qK (n a:Nat) (d:List Bool) (X Y:Nat):Bool:=d.getD (eU n (X,Y)) R==(lQ a (X,Y)%2==0)
theorem Me {n a m X Y:Nat} {c:Bool} {d:List Bool} (g:m+1=bu c) (i:m<a) (hn:n=2* a+1) (j:a-m<=X/\X<=a+m) (k:a-m<=Y/\Y<=a+m) (h:qK n a d X Y=R):gn n a c d=R:=by
 have b:X<n:=oO;have e:Y<n:=oO;refine DA (j:=eU n (X,Y)) (mz b e) ?_;have e1:eU n (X,Y)%n=X:=by unfold eU;rw[Vi,Nat.add_mul_mod_self_right,Nat.mod_eq_of_lt b]
 have e2:eU n (X,Y)/n=Y:=by unfold eU;rw[Vi,Nat.add_mul_div_right _ _ oO,Nat.div_eq_of_lt b,Nat.zero_add]
 have f:lQ a (X,Y)<bu c:=by unfold lQ pT;simp only;omega
 unfold qK at h;unfold uq;rw[e1,e2,decide_eq_true f,h];rfl
theorem NJ {n f m:Nat} {c:Bool} {d:List Bool} (k:m+1=bu c) (l:m<f) (hn:n=2* f+1) (h:∀a,a<=2* m->∀b,b<=2* m->qK n f d (f-m+b) (f-m+a)=wP):gn n f c d=wP:=by
 refine II λg o=>?_;unfold uq;by_cases j:lQ f (g%n,g/n)<bu c
 ·have p:f-m<=g%n/\g%n<=f+m/\f-m<=g/n/\g/n<=f+m:=by unfold lQ pT at j;simp only at j;omega
  have i:=h (g/n-(f-m)) oO (g%n-(f-m)) oO;rw[show f-m+(g%n-(f-m))=g%n from by omega,show f-m+(g/n-(f-m))=g/n from by omega]at i;unfold qK at i;have e:eU n (g%n,g/n)=g:=by unfold eU;simp only;rw[Nat.mul_comm];exact Nat.div_add_mod g n
  rw[e]at i;rw[i,Bool.or_true]
 ·rw[decide_eq_false j];rfl
theorem tz (n e m:Nat) (c:Bool) (H:Int) (A:xv Addr) (N p:Nat) (d:List Bool) (w:wR) (F:m+1=bu c) (W:m<e) (hn:n=2* e+1) (P:n<=200) (z:N=n* n) (G:SR vB R w A N p d):
 wS w1 75 #[cZ n H A N p,I J m] w (au (.bool (gn n e c d)) w):=by
 have Z:=aa G;have am:w2 (N=d.length):=G.hn;have ce:=aa z;have ch:m<=6:=by have:=JE c;omega
 have ci:N<=40000:=by rw[z];exact Cq P P
 have a7:w2 (∀X Y,e-m<=X->X<=e+m->e-m<=Y->Y<=e+m->qK n e d X Y=R->gn n e c d=R):=λX Y a0 a1 a2 a3 h=>Me F W hn ⟨a0,a1⟩ ⟨a2,a3⟩ h;have a8:w2 ((∀a,a<=2* m->∀b,b<=2* m->qK n e d (e-m+b) (e-m+a)=wP)->gn n e c d=wP):=λh=>NJ F W hn h;have a9:w2 (∀X Y,X<=e+m->Y<=e+m->eU n (X,Y)<N):=λX Y r bx=>by rw[z];exact mz (by show X<n;omega) (by show Y<n;omega)
 obtain⟨n1,bb⟩:∃n1,n1=n-1:=⟨_,rfl⟩;have ck:(n:Int)-1=(n1:Int):=oO;have co:(n1:Int)/2=(e:Int):=oO;have cp:e<=100:=oO;have cq:e+m<n:=oO;clear G F z hn bb;generalize gn n e c d=bd at*;obtain⟨K,Q⟩:∃K,K=w.heap.size:=⟨_,rfl⟩;obtain⟨s,t⟩:∃s,s=w.alloc (.cells (gh n H A N p) 28):=⟨_,rfl⟩;have S:w2 (af w s):=by show Below _ _ _;rw[t];exact ax _ _
 have ap:w2 (ag s K (gh n H A N p) 28):=by show ag _ _ _ _;rw[t];exact ag.new _ _ _ _ Q
 have be:w2 (SR vB R s A N p d):=Z.out.below S.out;have k0:=eu ap.out;have ab:=kt ap.out;rw[t]at k0 ab;have bz:J.wrap (-(m:Int))=-(m:Int):=aG _ oO oO;go_enter func75,ntmps75;go_wp2;simp only[<-Q,<-t]at k0 ab⊢;clear t Q Z;go_loop [6] (λL=>∃(a:Nat) (y:Int),a<=2* m+1/\L=I J y/\w2 (y=(a:Int)-m)/\w2 (∀f,f<a->∀b,b<=2* m->qK n e d (e-m+b) (e-m+f)=wP)) (λL=>(m+1-intOf L).toNat)
 case atStart=>exact⟨0,_,by omega,rfl,by show _=_;omega,λf h=>A8 h oO⟩
 case round=>
  obtain⟨a,y,b1,rfl,j,ac⟩:=hrel;by_cases cr:a<2* m+1
  ·obtain⟨Y,ad⟩:∃Y,Y=e-m+a:=⟨_,rfl⟩;have cs:y<=(m:Int):=by have:=j.out;omega
   have b2:(e:Int)+y=(Y:Int):=by have:=j.out;omega
   have cv:J.wrap (-y)=-y:=by have:=j.out;exact aG _ oO oO
   have cx:J.wrap (y+1)=y+1:=by have:=j.out;exact aG _ oO oO
   obtain⟨q,hq⟩:∃q,q=Y* n:=⟨_,rfl⟩;have bf:Y<=200:=oO;have cy:q<=40000:=by rw[hq];exact Cq bf P
   have b3:(Y:Int)* (n:Int)=(q:Int):=by rw[hq];simp
   have B:=aa ad;have a4:=aa hq;have bi:w2 (∀f,f<a+1->f=a\/f<a):=λf h=>by omega
   clear ad hq;go_wp2;go_loop [7] (λM=>∃(b:Nat) (x:Int),b<=2* m+1/\M=I J x/\w2 (x=(b:Int)-m)/\w2 (∀g,g<b->qK n e d (e-m+g) Y=wP)) (λM=>(m+1-intOf M).toNat)
   case atStart=>exact⟨0,_,by omega,rfl,by show _=_;omega,λg h=>A8 h oO⟩
   case round=>
    obtain⟨b,x,hb,rfl,k,hF⟩:=hrel;by_cases c2:b<2* m+1
    ·obtain⟨X,al⟩:∃X,X=e-m+b:=⟨_,rfl⟩;have c3:x<=(m:Int):=by have:=k.out;omega
     obtain⟨i,C⟩:∃i,i=eU n (X,Y):=⟨_,rfl⟩;have bv:i<N:=by rw[C];exact a9.out X Y oO (by have:=B.out;omega)
     have e5:i=q+X:=by rw[C,a4.out];rfl
     obtain⟨o,bo⟩:∃o,o=q+e:=⟨_,rfl⟩;have b4:(q:Int)+(e:Int)=(o:Int):=oO;have b5:(o:Int)+x=(i:Int):=by have:=k.out;omega
     have c4:J.wrap (-x)=-x:=by have:=k.out;exact aG _ oO oO
     have c5:J.wrap (x+1)=x+1:=by have:=k.out;exact aG _ oO oO
     have c6:J.wrap (i:Int)=(i:Int):=aG _ oO oO;have c7:J.wrap (o:Int)=(o:Int):=aG _ oO oO;obtain⟨l,T⟩:∃l,l=lQ e (X,Y):=⟨_,rfl⟩;have c8:LH x (-x) y (-y)=(l:Int):=by
      have a5:=KC X Y e;have b6:=k.out;have b7:=j.out;have b9:=B.out;rw[T,<-a5];congr 1<;>omega
     have c9:=FL;obtain⟨ca,rfl,-,av⟩:=be.out.rd (by rw[<-am.out];omega);have da:=av i (by rw[<-am.out];exact bv);have dl:(i:Int)<(N:Int):=oO;have D:w2 (qK n e d X Y=(d.getD i R==(l%2==0))):=by show _=_;unfold qK;rw[<-T,<-C]
     have bq:w2 (qK n e d X Y=R->bd=R):=by
      show _->_;have:=B.out;exact a7.out X Y oO oO oO oO
     have bs:w2 (qK n e d X Y=wP->∀g,g<b+1->qK n e d (e-m+g) Y=wP):=by
      show _->_;intro h g E;rcases z6 g b with r|r
      ·exact hF.out g r
      ·obtain rfl:g=b:=oO;rw[<-al];exact h
     have dn:((l:Int)%2==0)=(l%2==0):=by rw[Bool.eq_iff_iff];simp;omega
     clear av T C e5 bo al;generalize qK n e d X Y=cb at*;generalize d.getD i R=v at*;generalize(l%2==0)=V at*;by_cases u:v=V
     ·have a6:=aa (bs.out (by rw[D.out,u];simp));clear D;subst u;go_wp2;exact⟨⟨b+1,_,by omega,rfl,by show _=_;rw[k.out];omega,a6.out⟩,by have:=k.out;simp[intOf];omega⟩
     ·have O:=aa (bq.out (by rw[D.out,beq_eq_false_iff_ne];exact u));have dd:(v !=V)=wP:=by rw[bne_iff_ne];exact u
      have ds:(v==V)=R:=beq_eq_false_iff_ne.2 u;clear D;go_wp2;go_ret;exact⟨by rw[O.out];rfl,S.out⟩
    ·have de:¬x<=(m:Int):=by have:=k.out;omega
     have bt:w2 (∀f,f<a+1->∀b,b<=2* m->qK n e d (e-m+b) (e-m+f)=wP):=by
      show∀f,_;intro f h g E;rcases bi.out f h with rfl|r
      ·rw[<-B.out];exact hF.out g oO
      ·exact ac.out f r g E
     go_wp2;exact⟨⟨a+1,_,by omega,rfl,by show _=_;rw[j.out];omega,bt.out⟩,by have:=j.out;simp[intOf];omega⟩
  ·have di:¬y<=(m:Int):=by have:=j.out;omega
   have O:=aa (a8.out (λf h g E=>ac.out f oO g E));go_wp2;go_ret;exact⟨by rw[O.out];rfl,S.out⟩
def vM (n a s:Nat) (d:List Bool) (b:Nat):Bool:=d.getD (eU n ((b8 a s++bQ a s).getD b (0,0))) R==decide (b<6)
theorem DQ (n a:Nat) (c:Bool) (d:List Bool):lF n a c d=(y3 12).all (vM n a (bu c) d):=by
 generalize hs:bu c=s;unfold lF vM fq;rw[hs];simp only[b8,bQ,j6,nU,List.map_cons,List.map_nil,VL,List.nil_append];simp[y3,List.range.loop,Bool.and_assoc]
theorem Qx {n a:Nat} {c:Bool} {d:List Bool} (h:∀b,b<12->vM n a (bu c) d b=wP):lF n a c d=wP:=by
 rw[DQ,List.all_eq_true];intro e f;exact h e (List.mem_range.1 f)
theorem OA {n b a:Nat} {c:Bool} {d:List Bool} (e:a<12) (h:vM n b (bu c) d a=R):lF n b c d=R:=by
 rw[DQ,List.all_eq_false];exact⟨a,List.mem_range.2 e,by rw[h];decide⟩
theorem Q4 {a s b:Nat} (hs:5<=s) (h:s<=a) (d:b<12):((b8 a s++bQ a s).getD b (0,0)).1<2* a+1/\((b8 a s++bQ a s).getD b (0,0)).2<2* a+1:=by
 have e:(b8 a s++bQ a s).getD b (0,0)∈b8 a s++bQ a s:=by
  have:b<(b8 a s++bQ a s).length:=d;simp only[List.getD,List.getElem?_eq_getElem this,HL];exact List.getElem_mem this
 rcases List.mem_append.1 e with c|c
 ·have:=DY hs h c;exact⟨this.2.1,this.2.2.1⟩
 ·have:=B5 hs h c;exact⟨this.2.1,this.2.2.1⟩
theorem CJ (n f:Nat) (c:Bool) (H:Int) (A:xv Addr) (N l:Nat) (d:List Bool) (w:wR) (M:bu c<=f) (hn:n=2* f+1) (T:n<=200) (O:N=n* n) (P:SR vB R w A N l d):
 wS w1 76 #[cZ n H A N l,.bool c] w (au (.bool (lF n f c d)) w):=by
 have al:=aa P;have a2:w2 (N=d.length):=P.hn;have b9:=JE c;have a3:w2 (∀W,wS w1 126 #[.bool c] W λe am=>∃b,e= .returned (.slice (gk ⟨b,0,U⟩) 12 12)/\W.heap.size<=b/\ag am b ((l4 ((bu c:Nat):Int)).map (zz .i64)).toArray 47/\af W am):=λW=>My c W;have bs:w2 (∀a,a<12->vM n f (bu c) d a=R->lF n f c d=R):=λa E p=>OA E p;have bt:w2 ((∀a,a<12->vM n f (bu c) d a=wP)->lF n f c d=wP):=λh=>Qx h;have bv:w2 (∀a,a<12->∃g:Pt,vM n f (bu c) d a=(d.getD (eU n g) R==decide (a<6))/\(f:Int)+(l4 ((bu c:Nat):Int)).getD (a* 2) 0=(g.1:Int)/\(f:Int)+(l4 ((bu c:Nat):Int)).getD (a* 2+1) 0=(g.2:Int)/\g.1<n/\g.2<n/\eU n g<N/\-7<=(l4 ((bu c:Nat):Int)).getD (a* 2) 0/\(l4 ((bu c:Nat):Int)).getD (a* 2) 0<=7/\-7<=(l4 ((bu c:Nat):Int)).getD (a* 2+1) 0/\(l4 ((bu c:Nat):Int)).getD (a* 2+1) 0<=7):=by
  show∀a,_->_;intro a y;have p:=Jc M oO y;have cb:=Q4 oO M y;exact⟨_,rfl,p.1,p.2.1,by omega,by omega,by rw[O];exact mz oO oO,by omega,by omega,by omega,by omega⟩
 have cq:N<=40000:=by rw[O];exact Cq T T
 obtain⟨n1,bx⟩:∃n1,n1=n-1:=⟨_,rfl⟩;have cr:(n:Int)-1=(n1:Int):=oO;have cs:(n1:Int)/2=(f:Int):=oO;have cv:f<=100:=oO;clear P O hn bx M b9;generalize lF n f c d=cx at*;generalize bu c=m at*;obtain⟨r,G⟩:∃r,r=w.heap.size:=⟨_,rfl⟩;obtain⟨s,C⟩:∃s,s=w.alloc (.cells (gh n H A N l) 28):=⟨_,rfl⟩;have V:w2 (af w s):=by show Below _ _ _;rw[C];exact ax _ _
 have Z:w2 (ag s r (gh n H A N l) 28):=by show ag _ _ _ _;rw[C];exact ag.new _ _ _ _ G
 have a4:w2 (SR vB R s A N l d):=al.out.below V.out;have k0:=eu Z.out;rw[C,G]at k0;go_enter func76,ntmps76;go_wp2_with(go_at_call 126;refine(a3.out _).mono ?_;rintro e j ⟨t,rfl,bz,bf,ab⟩;rw[<-C]at ab;have a5:w2 (ag j t ((l4 (m:Int)).map (zz .i64)).toArray 47):=bf;have K:w2 (af s j):=ab;clear bf bz ab)
 simp only[<-G];clear C G al k0;have b1:w2 (ag j r (gh n H A N l) 28):=Z.out.below K.out;have b2:w2 (SR vB R j A N l d):=a4.out.below K.out;have ap:w2 (∀W,af j W->∀a,a<24->W.cell? ⟨t,a,U⟩=gk (I J ((l4 (m:Int)).getD a 0))):=by
  show∀W,_;intro W o a y;refine(a5.out.below o).cell a _ ?_;have b3:a<(l4 (m:Int)).length:=y;simp[List.getD,b3]
 have x:=aa (ae V.out K.out);clear V Z a4 K a5 a3;go_loopw [7] (λQ wr=>∃a:Nat,a<=12/\Q=I J a/\w2 (∀i,i<a->vM n f m d i=wP)/\w2 (af j wr)) (λQ _=>12-(intOf Q).toNat)
 case atStart=>exact⟨0,Nat.zero_le _,rfl,λi h=>A8 h oO,Below.refl _ _⟩
 case round=>
  obtain⟨a,y,rfl,av,hB⟩:=hrel;by_cases a6:a<12
  ·obtain⟨g,a0,bo,a1,cy,c2,a7,c3,c4,c5,c6⟩:=bv.out a a6;have a8:w2 (∀W,af j W->W.cell? ⟨t,a* 2,U⟩=gk (I J ((l4 (m:Int)).getD (a* 2) 0))/\W.cell? ⟨t,a* 2+1,U⟩=gk (I J ((l4 (m:Int)).getD (a* 2+1) 0))):=λW o=>⟨ap.out W o _ oO,ap.out W o _ oO⟩;have a9:w2 (vM n f m d a=wP->∀i,i<a+1->vM n f m d i=wP):=by
    show _->_;intro h i ce;rcases z6 i a with E|E
    ·exact av.out i E
    ·obtain rfl:i=a:=oO;exact h
   have bb:=aa (bs.out a a6);have u:=aa a0;clear a0;generalize vM n f m d a=ch at*;generalize(l4 (m:Int)).getD (a* 2) 0=X at*;generalize(l4 (m:Int)).getD (a* 2+1) 0=Y at*;obtain⟨q,hq⟩:∃q,q=g.2* n:=⟨_,rfl⟩;obtain⟨k,ad⟩:∃k,k=eU n g:=⟨_,rfl⟩;have b4:k=q+g.1:=by rw[ad,hq];rfl
   rw[<-ad]at a7 u;have ca:g.2<=200:=oO;have c7:q<=40000:=by rw[hq];exact Cq ca T
   obtain⟨F,b5⟩:∃F,F=q+f:=⟨_,rfl⟩;have ci:J.wrap ((f:Int)+Y)=(g.2:Int):=by rw[aG _ oO oO];exact a1
   have c8:(g.2:Int)* (n:Int)=(q:Int):=by rw[hq];simp
   have ck:J.wrap (q:Int)=(q:Int):=aG _ oO oO;have co:J.wrap ((q:Int)+(f:Int))=(F:Int):=by rw[aG _ oO oO];omega
   have cp:J.wrap ((F:Int)+X)=(k:Int):=by rw[aG _ oO oO];omega
   obtain⟨S,rfl,bi,bd⟩:=b2.out.rd (by rw[<-a2.out];omega);have be:=bd k (by rw[<-a2.out];exact a7);have bq:w2 (∀W,af j W->(W.cell? ⟨r,0,U⟩=gk (I J (n:Int))/\W.cell? ⟨r,2,U⟩=gk (.slice (gk S) N l))/\(W.cell? ⟨t,a* 2,U⟩=gk (I J X)/\W.cell? ⟨t,a* 2+1,U⟩=gk (I J Y))/\W.cell? (S.add k)=gk (.bool (d.getD k R))):=by
    show∀W,_;intro W o;have p:=b1.out.below o;exact⟨⟨p.cell 0 _ rfl,p.cell 2 _ rfl⟩,a8.out W o,(o.cell (p:=S.add k) (by rw[aD];exact bi)).trans be⟩
   have c9:(k:Int)<(N:Int):=oO;have da:(a:Int)<12:=oO;have D:w2 (af j wr.drew):=ai hB.out;clear bo a1 hq ad b4 b5 bd be bi a8;generalize d.getD k R=v at*;obtain⟨z,L⟩:∃z,z=decide (a<6):=⟨_,rfl⟩;have b6:decide ((a:Int)<6)=z:=by rw[L,decide_eq_decide];omega
   have b7:decide (a<6)=z:=L.symm;rw[<-L]at u;clear L;go_wp2;refine yO (af j) [1,2,3,4,5,6,7,8,9,10,11,12,13,14,15,16,17,18,19,20,21,22,23,24,25] D.out ?_
   repeat refine zO bq.out ?_
   refine aj ?_;clear b6 b7;cases z with
   |true=>
    cases v with
    |true=>
     have ac:=aa (a9.out (by rw[u.out];rfl));go_wp2;exact⟨⟨a+1,by omega,by go_num,ac.out,D.out⟩,by simp[intOf];omega⟩
    |false=>
     have B:=aa (bb.out (by rw[u.out];rfl));go_wp2;go_ret;exact⟨by rw[B.out];rfl,x.out.trans (D.out.mono x.out.size)⟩
   |false=>
    cases v with
    |true=>
     have B:=aa (bb.out (by rw[u.out];rfl));go_wp2;go_ret;exact⟨by rw[B.out];rfl,x.out.trans (D.out.mono x.out.size)⟩
    |false=>
     have ac:=aa (a9.out (by rw[u.out];rfl));go_wp2;exact⟨⟨a+1,by omega,by go_num,ac.out,D.out⟩,by simp[intOf];omega⟩
  ·obtain rfl:a=12:=oO;have B:=aa (bt.out av.out);go_wp2;go_ret;exact⟨by rw[B.out];rfl,x.out.trans (hB.out.mono x.out.size)⟩
abbrev qN (W H:Int) (A:xv Addr) (N a:Nat):Obj:= .cells (gh W H A N a) 28
theorem iT (w:wR) (W H:Int) (A:xv Addr) (N a:Nat):w2 (∀V,af (w.alloc (qN W H A N a)) V->V.cell? ⟨w.heap.size,0,U⟩=gk (I J W)/\V.cell? ⟨w.heap.size,1,U⟩=gk (I J H)/\V.cell? ⟨w.heap.size,2,U⟩=gk (.slice A N a)):=by
 show∀V,_;intro V c;have h:ag (w.alloc (qN W H A N a)) w.heap.size (gh W H A N a) 28:=ag.new _ _ _ _ rfl;have b:=h.below c;exact⟨b.cell 0 _ rfl,b.cell 1 _ rfl,b.cell 2 _ rfl⟩
theorem xi {W H:Int} {N:Nat} (h:cU W H N=wP):∃n m:Nat,W=n/\H=m/\1<=n/\n<=4096/\1<=m/\m<=4096/\N=n* m/\N<=4194304:=by
 unfold cU at h;simp only[Az,decide_eq_true_eq]at h;obtain⟨⟨⟨⟨⟨b,c⟩,d⟩,e⟩,f⟩,a⟩:=h;refine⟨W.toNat,H.toNat,by omega,by omega,by omega,by omega,by omega,by omega,?_,by omega⟩;have e1:W=(W.toNat:Int):=oO;have e2:H=(H.toNat:Int):=oO;rw[e1,e2,<-Int.natCast_mul]at a
 exact_mod_cast a
theorem OR {n:Nat} {c:Bool} (h:dh n c=wP):∃L,1<=L/\L<=32/\(c=wP->L<=4)/\n=aB L c:=by
 unfold dh at h;rw[List.any_eq_true]at h;obtain⟨b,d,a⟩:=h;rw[Az,beq_iff_eq]at a;obtain⟨k,e,f,g,k3⟩:=kh a.1;have:k=b+1:=oO;exact⟨b+1,by omega,by omega,λhc=>by have:=k3 hc;omega,a.2.symm⟩
theorem lG {n:Nat} {c:Bool} (h:dh n c=wP):bu c+2<=(n-1)/2/\(n-1)/2+bu c+2<n/\n=2* ((n-1)/2)+1/\n<=161/\15<=n:=by
 obtain⟨L,a,b,e,rfl⟩:=OR h;have d:=su (c:=c) a b;have f:=oH L c a b;unfold cI at d;omega
theorem KJ (W H:Int) (A:xv Addr) (N a:Nat) (d:List Bool) (w:wR) (g:N<=9223372036854775807) (b:cU W H N=R) (c:d.length=N):wS w1 14 #[cZ W H A N a] w (dU w (dF W H d)):=by
 have i:w2 (dF W H d=([],0,1)):=by show _=_;unfold dF;rw[c,if_pos b]
 have j:w2 (∀V,wS w1 37 #[cZ W H A N a] V (au (.bool R) V)):=λV=>by rw[<-b];exact nJ W H A N a V g
 clear b c;go_enter func14,Xc;go_wp2_with(go_at_call 37;refine(j.out _).mono ?_;rintro e l ⟨rfl,f⟩;have k:=aa (dT f);clear f)
 go_ret3
 exact dU.err i.out k.out
theorem GU (n m:Nat) (A:xv Addr) (N a:Nat) (d:List Bool) (w:wR) (hn:n<=4096) (H:N<=4194304) (b:cU n m N=wP) (i:d.length=N) (Q:n≠m) (u v:Bool) (c:dh n wP=u) (f:dh n R=v):wS w1 14 #[cZ n m A N a] w (dU w (dF n m d)):=by
 have t:w2 (dF n m d=([],0,23)):=by
  show _=_;unfold dF;rw[i,b,if_neg oD,if_pos (.inl oO)]
 have y:w2 (∀V,wS w1 37 #[cZ n m A N a] V (au (.bool wP) V)):=λV=>by rw[<-b];exact nJ _ _ A N a V oO
 have C:w2 (∀V,wS w1 38 #[I J n,.bool wP] V (au (.bool u) V)):=λV=>by have h:=iy n wP V oO;rw[c]at h;exact h
 have E:w2 (∀V,wS w1 38 #[I J n,.bool R] V (au (.bool v) V)):=λV=>by have h:=iy n R V oO;rw[f]at h;exact h
 have S:¬(n:Int)=(m:Int):=oO;clear b i c f;have g:=iT w n m A N a;obtain⟨w0,j⟩:∃w0,w0=w.alloc (qN n m A N a):=⟨_,rfl⟩;exact R8
theorem Gz (n m:Nat) (A:xv Addr) (N a:Nat) (d:List Bool) (w:wR) (hn:n<=4096) (H:N<=4194304) (b:cU n m N=wP) (i:d.length=N) (K:n=m) (c:dh n wP=R) (f:dh n R=R):wS w1 14 #[cZ n m A N a] w (dU w (dF n m d)):=by
 have t:w2 (dF n m d=([],0,23)):=by
  show _=_;unfold dF;rw[i,b,if_neg oD,if_pos (.inr (by rw[Int.toNat_natCast];exact⟨c,f⟩))]
 have y:w2 (∀V,wS w1 37 #[cZ n m A N a] V (au (.bool wP) V)):=λV=>by rw[<-b];exact nJ _ _ A N a V oO
 have C:w2 (∀V,wS w1 38 #[I J n,.bool wP] V (au (.bool R) V)):=λV=>by have h:=iy n wP V oO;rw[c]at h;exact h
 have E:w2 (∀V,wS w1 38 #[I J n,.bool R] V (au (.bool R) V)):=λV=>by have h:=iy n R V oO;rw[f]at h;exact h
 subst K;clear b i c f;have g:=iT w n n A N a;obtain⟨w0,j⟩:∃w0,w0=w.alloc (qN n n A N a):=⟨_,rfl⟩;exact R8
theorem xB (n f m a b d:Nat) (c e:Bool):(splice (dq n c f m).toList 0 (dq a e b d).toList).toArray=dq a e b d:=rfl
theorem mD {W:wR} {b n a m:Nat} {c:Bool} (h:ag W b (dq n c a m) 71):W.cell? ⟨b,0,U⟩=gk (I J (n:Int))/\W.cell? ⟨b,1,U⟩=gk (.bool c)/\W.cell? ⟨b,2,U⟩=gk (I J (a:Int))/\W.cell? ⟨b,3,U⟩=gk (I J (m:Int)):=⟨h.cell 0 _ rfl,h.cell 1 _ rfl,h.cell 2 _ rfl,h.cell 3 _ rfl⟩
theorem fJ {n:Nat} {d:List Bool} (b:cU n n d.length=wP) (h:dh n wP=wP\/dh n R=wP) {k:xv Bool} (e:jJ n d=k):dF n n d=k.elim ([],0,18) (λc=>pc n d c):=by
 subst e;unfold dF;rw[b,if_neg oD,if_neg,Int.toNat_natCast]
 ·cases jJ n d<;>rfl
 ·rw[Int.toNat_natCast];rintro(a|a)
  ·exact a rfl
  ·rcases h with h|h
   ·rw[h]at a;exact A8 a.1 oD
   ·rw[h]at a;exact A8 a.2 oD
theorem uX (n:Nat) (A:xv Addr) (N g:Nat) (d:List Bool) (w:wR) (B:N=n* n) (bt:N<=4194304) (p:cU n n N=wP) (C:SR vB R w A N g d) (q r e6 e4 c:Bool) (Q:dh n wP=q) (S:dh n R=r) (T:gn n ((n-1)/2) R d=e6) (W:gn n ((n-1)/2) wP d=e4) (ap:dh n c=wP) (X:dF n n d=([],0,18)) (hc:(q=R/\r=wP/\e6=R)\/(q=wP/\r=wP/\e6=R/\e4=R)\/(q=wP/\r=R/\e4=R)):wS w1 14 #[cZ n n A N g] w (dU w (dF n n d)):=by
 have hg:15<=n/\n<=161:=by have h:=lG ap;omega
 have a5:w2 (∀V,wS w1 37 #[cZ n n A N g] V (au (.bool wP) V)):=λV=>by rw[<-p];exact nJ _ _ A N g V oO
 have a6:w2 (∀V,wS w1 38 #[I J n,.bool wP] V (au (.bool q) V)):=λV=>by have h:=iy n wP V oO;rw[Q]at h;exact h
 have a7:w2 (∀V,wS w1 38 #[I J n,.bool R] V (au (.bool r) V)):=λV=>by have h:=iy n R V oO;rw[S]at h;exact h
 obtain⟨a,k⟩:∃a,a=(n-1)/2:=⟨_,rfl⟩;obtain⟨l,E⟩:∃x,x=bu R:=⟨_,rfl⟩;obtain⟨m,F⟩:∃x,x=bu wP:=⟨_,rfl⟩;have bf:w2 (∀V,wS w1 39 #[I J n,.bool R] V (au (dR n R a l) V)):=λV=>by rw[k,E];exact kS n R V oO oO
 have bi:w2 (∀V,wS w1 39 #[I J n,.bool wP] V (au (dR n wP a m) V)):=λV=>by rw[k,F];exact kS n wP V oO oO
 have a8:w2 (∀V,af w V->wS w1 40 #[dR n R a l,cZ n n A N g] V (au (.bool e6) V)):=λV D=>by have h:=wu n a l R n A N g d V E oO oO oO B (C.below D);rw[k,T,<-k]at h;exact h
 have a9:w2 (∀V,af w V->wS w1 40 #[dR n wP a m,cZ n n A N g] V (au (.bool e4) V)):=λV D=>by have h:=wu n a m wP n A N g d V F oO oO oO B (C.below D);rw[k,W,<-k]at h;exact h
 have a3:=aa X;clear X p C Q S T W B k E F ap;have i:=iT w n n A N g;obtain⟨w0,y⟩:∃w0,w0=w.alloc (qN n n A N g):=⟨_,rfl⟩;have o:w2 (af w w0):=by show Below _ _ _;rw[y];exact ax _ _
 obtain⟨Y,G⟩:∃Y,Y=w.heap.size:=⟨_,rfl⟩;rw[<-y,<-G]at i;go_enter func14,Xc;go_wp2_with(go_at_call 37;(rw[<-y]);refine(a5.out _).mono ?_;rintro e Z ⟨rfl,av⟩;have a0:w2 (af w0 Z):=av;clear av)
 simp only[<-G];clear y G;have H:w2 (af w0 Z.drew):=ai a0.out;refine yO (af w0) [1,2,4,5,0,3,6,0,7,8] H.out ?_
 repeat refine zO i.out ?_
 refine zZ ?_;refine(a6.out _).mono ?_;rintro e bo ⟨rfl,a1⟩;have K:=aa (ae H.out a1);clear a1;refine⟨_,rfl,K.out,jO ?_⟩;refine zZ ?_;refine(a7.out _).mono ?_;rintro e a4 ⟨rfl,a2⟩;have z:=aa (ae K.out a2);clear a2;refine⟨_,rfl,z.out,jO ?_⟩
 repeat refine zO i.out ?_
 refine aj ?_;obtain⟨s,t,u⟩:=i.out a4 z.out;clear a0 K H;rcases hc with⟨rfl,rfl,rfl⟩|⟨rfl,rfl,rfl,rfl⟩|⟨rfl,rfl,rfl⟩
 all_goals
  go_wp2_with(first
   |(go_at_call 39;(with_reducible show wS _ _ #[_,.bool R] _ _);refine(bf.out _).mono ?_;rintro e j ⟨rfl,L⟩;have b:w2 (af w0 (j.alloc (.cells (dq n R a l) 71))):=ah (ae z.out L) _;have f:w2 (ag (j.alloc (.cells (dq n R a l) 71)) j.heap.size (dq n R a l) 71):=ag.new _ _ _ _ rfl;have bb:w2 (w0.heap.size<=j.heap.size):=Nat.le_trans z.out.size L.size;obtain⟨s,t,u⟩:=i.out _ b.out;clear L)
   |(go_at_call 40;(with_reducible show wS _ _ #[.agg #[_,.bool R,_,_],_] _ _);refine(a8.out _ (o.out.trans (b.out.mono o.out.size))).mono ?_;rintro e bq ⟨rfl,M⟩;have b:=aa (ae b.out M);have f:=aa (f.out.below M);obtain⟨s,t,u⟩:=i.out _ b.out;obtain⟨ab,ac,ad,al⟩:=mD f.out;clear M)
   |(go_at_call 39;refine(bi.out _).mono ?_;rintro e am ⟨rfl,O⟩;have b:=aa (ae b.out O);have f:=aa (f.out.below O);clear O)
   |((with_reducible show wpList _ _ _ (⟨U,Op.store 71 _ (.tmp 47),_,_,_,_⟩::_) _ _);refine aZ rfl 71 _ _ rfl 71 j.heap.size 0 (dq n R a l) (dq n wP a m).toList rfl rfl f.out JP (by show 4<=4;omega) (by intro v p;simp only[List.mem_cons,Ay,or_false]at p;rcases p with rfl|rfl|rfl|rfl<;>rfl) ?_;rw[xB];have bd:w2 (af w0 (am.setRow j.heap.size (dq n wP a m))):=below_setRow b.out bb.out _;have b:=bd;have be:w2 (ag (am.setRow j.heap.size (dq n wP a m)) j.heap.size (dq n wP a m) 71):=f.out.set _;have f:=be;obtain⟨s,t,u⟩:=i.out _ b.out;obtain⟨ab,ac,ad,al⟩:=mD f.out)
   |(go_at_call 40;refine(a9.out _ (o.out.trans (b.out.mono o.out.size))).mono ?_;rintro e bs ⟨rfl,P⟩;have b:=aa (ae b.out P);have f:=aa (f.out.below P);obtain⟨s,t,u⟩:=i.out _ b.out;obtain⟨ab,ac,ad,al⟩:=mD f.out;clear P))
  go_ret3
  exact dU.err a3.out (o.out.trans (b.out.mono o.out.size))
def sa:xv (Nat×Nat)->Int×Int×Int
 |none=>(0,0,17)
 |some q=>((q.1:Int),(q.2:Int),0)
theorem Ce {c:Bool} {a:List Bool} (h:a.length=gI c+jw c+fS c* 4):dg c a=sa (nv c a):=by
 unfold dg;rw[if_neg (λb=>b h)];cases nv c a<;>rfl
theorem ze {c:Bool} {b:List Bool} {q:Nat×Nat} (h:nv c b=gk q):1<=q.1/\q.1<=4096/\1<=q.2/\q.2<=4096:=by
 unfold nv at h;rw[Option.map_eq_some_iff]at h;obtain⟨v,-,rfl⟩:=h;have a:=eS (bE v 4) 0 (gI c);have d:=eS (bE v 4) (gI c) (jw c);have e:2^gI c<=2048/\2^jw c<=2048:=by cases c<;>decide
 simp only;omega
theorem oW (n:Nat) (A:xv Addr) (N j:Nat) (d:List Bool) (w:wR) (a0:N=n* n) (dl:N<=4194304) (Z:cU n n N=wP) (a1:SR vB R w A N j d) (a2 K e6 e4 c:Bool) (c7:dh n wP=a2) (c8:dh n R=K) (c9:gn n ((n-1)/2) R d=e6) (da:gn n ((n-1)/2) wP d=e4) (ck:dh n c=wP) (b3:dF n n d=pc n d c) (hc:(c=R/\K=wP/\e6=wP)\/(c=wP/\a2=wP/\K=wP/\e6=R/\e4=wP)\/(c=wP/\a2=wP/\K=R/\e4=wP)):wS w1 14 #[cZ n n A N j] w (dU w (dF n n d)):=by
 have hg:15<=n/\n<=161:=by have h:=lG ck;omega
 have es:w2 (∀V,wS w1 37 #[cZ n n A N j] V (au (.bool wP) V)):=λV=>by rw[<-Z];exact nJ _ _ A N j V oO
 have et:w2 (∀V,wS w1 38 #[I J n,.bool wP] V (au (.bool a2) V)):=λV=>by have h:=iy n wP V oO;rw[c7]at h;exact h
 have ew:w2 (∀V,wS w1 38 #[I J n,.bool R] V (au (.bool K) V)):=λV=>by have h:=iy n R V oO;rw[c8]at h;exact h
 obtain⟨i,s⟩:∃i,i=(n-1)/2:=⟨_,rfl⟩;obtain⟨M,b4⟩:∃x,x=bu R:=⟨_,rfl⟩;obtain⟨E,bi⟩:∃x,x=bu wP:=⟨_,rfl⟩;have gb:w2 (∀V,wS w1 39 #[I J n,.bool R] V (au (dR n R i M) V)):=λV=>by rw[s,b4];exact kS n R V oO oO
 have gc:w2 (∀V,wS w1 39 #[I J n,.bool wP] V (au (dR n wP i E) V)):=λV=>by rw[s,bi];exact kS n wP V oO oO
 have ex:w2 (∀V,af w V->wS w1 40 #[dR n R i M,cZ n n A N j] V (au (.bool e6) V)):=λV t=>by have h:=wu n i M R n A N j d V b4 oO oO oO a0 (a1.below t);rw[s,c9,<-s]at h;exact h
 have ey:w2 (∀V,af w V->wS w1 40 #[dR n wP i E,cZ n n A N j] V (au (.bool e4) V)):=λV t=>by have h:=wu n i E wP n A N j d V bi oO oO oO a0 (a1.below t);rw[s,da,<-s]at h;exact h
 obtain⟨a3,T⟩:∃x,x=bu c:=⟨_,rfl⟩;obtain⟨dn,ds,dv,gt,gv⟩:=lG ck;rw[<-s]at dn ds dv;have gD:bu c<=7:=by cases c<;>decide
 obtain⟨O,bo⟩:∃O,O=lF n i c d:=⟨_,rfl⟩;obtain⟨ab,bq⟩:∃ab,ab=fq n d (dZ i c):=⟨_,rfl⟩;obtain⟨u,bs⟩:∃u,u=nv c ab:=⟨_,rfl⟩;have ez:w2 (O=R->dF n n d=([],0,18)):=by
  show _->_;intro h;rw[b3];unfold pc;rw[<-s,<-bo,h,if_pos rfl]
 have eA:w2 (O=wP->u=U->dF n n d=([],0,21)):=by
  show _->_->_;intro h m;rw[b3];unfold pc;rw[<-s,<-bo,h,if_neg oD,<-bq,<-bs,m]
 have dx:w2 (O=wP->∀q,u=gk q->dF n n d=if(eH (q.1:Int) c&&(aB q.1 c==n)&&decide (q.2<aJ q.1 c))=wP then lp n q.1 c q.2 d else([],0,21)):=by
  show _->∀q,_->_;intro h q m;rw[b3];unfold pc;rw[<-s,<-bo,h,if_neg oD,<-bq,<-bs,m]
 have e0:w2 (dg c ab=sa u):=by
  show _=_;rw[bs];exact Ce (by rw[bq];unfold fq;rw[List.length_map,lh];cases c<;>rfl)
 have e9:w2 (∀q,u=gk q->1<=q.1/\q.1<=4096/\1<=q.2/\q.2<=4096):=by
  show∀q,_->_;intro q h;rw[bs]at h;exact ze h
 have fb:w2 (∀V,af w V->wS w1 41 #[dR n c i a3,cZ n n A N j] V (au (.bool O) V)):=λV t=>by rw[bo];exact E3 n i a3 c n A N j d V T (by rw[T];omega) (by rw[T];omega) oO a0 dl (a1.below t)
 have fc:w2 (∀V,wS w1 43 #[dR n c i a3] V λe ac=>∃v,e= .returned v/\w2 (SP ac v (dZ i c))/\af V ac):=λV=>by
  rw[T];exact(qu n i c V oO oO).mono λe ac ⟨v,a8,m,ch⟩=>⟨v,a8,m.1,ch⟩
 have fd:w2 (∀V v,af w V->SP V v (dZ i c)->wS w1 42 #[cZ n n A N j,v] V λe ac=>∃db k,e= .returned (.slice (gk ⟨db,0,U⟩) k k)/\w2 (SR vB R ac (gk ⟨db,0,U⟩) k k ab)/\af V ac):=λV v t Z=>
  (tJ n n A N j d _ v V oO dl (a1.below t) Z (by rw[lh];cases c<;>decide) (λgi el=>by
   have:=AG oO el
   exact⟨by omega,by omega,by rw[a0];exact mz oO oO⟩)).mono λe ac ⟨db,k,a8,m,ch,em⟩=>⟨db,k,a8,by rw[bq];exact ch.sr (by rw[m];unfold fq;rw[List.length_map]) (by rw[m,lh];cases c<;>decide),em⟩
 have fn:w2 (∀V B k a9,SR vB R V B k a9 ab->wS w1 25 #[.slice B k a9,.bool c] V (Fh V (sa u).1 (sa u).2.1 (sa u).2.2)):=λV B k a9 h=>by rw[<-e0.out];exact CG c ab B k a9 V h
 obtain⟨a4,a6⟩:∃f:Nat->Bool,∀q,f q=eH (q:Int) c:=⟨_,λ_=>rfl⟩;obtain⟨P,b5⟩:∃f:Nat->Nat,∀q,f q=aB q c:=⟨_,λ_=>rfl⟩;obtain⟨wf,b6⟩:∃f:Nat->Nat,∀q,f q=aJ q c:=⟨_,λ_=>rfl⟩;obtain⟨ci,co⟩:∃f:Nat->Nat->List UInt8×Int×Int,∀q k,f q k=lp n q c k d:=⟨_,λ_ _=>rfl⟩;have fo:w2 (O=wP->∀q,u=gk q->dF n n d=if(a4 q.1&&(P q.1==n)&&decide (q.2<wf q.1))=wP then ci q.1 q.2 else([],0,21)):=by
  show _->∀q,_->_;intro h q m;rw[a6,b5,b6,co];exact dx.out h q m
 have b7:w2 (∀V (L:Nat),wS w1 29 #[bX (L:Int) c] V (au (.bool (a4 L)) V)):=λV L=>by rw[a6];exact iR (L:Int) c V
 have cp:w2 (∀V (L:Nat),a4 L=wP->wS w1 36 #[bX L c] V (au (I J ((P L:Nat):Int)) V)):=λV L h=>by rw[a6]at h;rw[b5];exact oR L c V (by obtain⟨k,e,_,m,_⟩:=kh h;omega)
 have dy:w2 (∀V (L:Nat),a4 L=wP->wS w1 44 #[bX L c] V (au (I J ((wf L:Nat):Int)) V)):=λV L h=>by rw[a6]at h;rw[b6];exact pk L c V (by obtain⟨k,e,_,m,_⟩:=kh h;omega)
 have fr:w2 (∀V (L k:Nat),af w V->a4 L=wP->P L=n->1<=k->k<wf L->wS w1 45 #[bX L c,cZ n n A N j,I J k] V (dU V (ci L k))):=λV L k t l hs a8 m=>by
  rw[a6]at l;rw[b5]at hs;rw[b6]at m;rw[co];obtain⟨a9,e,gm,go,en⟩:=kh l;exact Gj L c k n n A N j d V oO oO (λh=>by have:=en h;omega) hs.symm a8 m a0 (a1.below t)
 obtain⟨eq,fv⟩:∃f:Nat->Obj,∀q:Nat,f q=cN (q:Int) c:=⟨_,λ_=>rfl⟩;obtain⟨dd,dz⟩:∃v:Value,v= .bool c:=⟨_,rfl⟩;have fw:(c=R/\M=a3/\K=wP/\e6=wP)\/(c=wP/\E=a3/\a2=wP/\K=wP/\e6=R/\e4=wP)\/(c=wP/\E=a3/\a2=wP/\K=R/\e4=wP):=by
  rcases hc with⟨rfl,h⟩|⟨rfl,h⟩|⟨rfl,h⟩
  ·exact .inl ⟨rfl,b4.trans T.symm,h⟩
  ·exact .inr (.inl ⟨rfl,bi.trans T.symm,h⟩)
  ·exact .inr (.inr ⟨rfl,bi.trans T.symm,h⟩)
 clear b3 Z a1 c7 c8 c9 da a0 s ck bo bq bs dn ds dv a6 b5 b6 co dx hc b4 bi T;have z:=iT w n n A N j;obtain⟨w0,b9⟩:∃w0,w0=w.alloc (qN n n A N j):=⟨_,rfl⟩;have r:w2 (af w w0):=by show Below _ _ _;rw[b9];exact ax _ _
 obtain⟨Q,cq⟩:∃Q,Q=w.heap.size:=⟨_,rfl⟩;rw[<-b9,<-cq]at z;go_enter func14,Xc;go_wp2_with(go_at_call 37;(rw[<-b9]);refine(es.out _).mono ?_;rintro e de ⟨rfl,dE⟩;have d0:w2 (af w0 de):=dE;clear dE)
 simp only[<-cq];clear b9 cq;have cr:w2 (af w0 de.drew):=ai d0.out;refine yO (af w0) [1,2,4,5,0,3,6,0,7,8] cr.out ?_
 repeat refine zO z.out ?_
 refine zZ ?_;refine(et.out _).mono ?_;rintro e gp ⟨rfl,d1⟩;have cs:=aa (ae cr.out d1);clear d1;refine⟨_,rfl,cs.out,jO ?_⟩;refine zZ ?_;refine(ew.out _).mono ?_;rintro e er ⟨rfl,d2⟩;have ca:=aa (ae cs.out d2);clear d2;refine⟨_,rfl,ca.out,jO ?_⟩
 repeat refine zO z.out ?_
 refine aj ?_;obtain⟨ad,al,am⟩:=z.out er ca.out;clear d0 cs cr;rcases fw with⟨rfl,rfl,rfl,rfl⟩|⟨rfl,rfl,rfl,rfl,rfl,rfl⟩|⟨rfl,rfl,rfl,rfl,rfl⟩
 all_goals
  go_wp2_with(first
   |(go_at_call 39;(with_reducible show wS _ _ #[_,.bool R] _ _);refine(gb.out _).mono ?_;rintro e S ⟨rfl,cv⟩;have g:w2 (af w0 (S.alloc (.cells (dq n R i M) 71))):=ah (ae ca.out cv) _;have o:w2 (ag (S.alloc (.cells (dq n R i M) 71)) S.heap.size (dq n R i M) 71):=ag.new _ _ _ _ rfl;have fx:w2 (w0.heap.size<=S.heap.size):=Nat.le_trans ca.out.size cv.size;obtain⟨ad,al,am⟩:=z.out _ g.out;clear cv)
   |(go_at_call 40;(with_reducible show wS _ _ #[.agg #[_,.bool R,_,_],_] _ _);refine(ex.out _ (r.out.trans (g.out.mono r.out.size))).mono ?_;rintro e gq ⟨rfl,cx⟩;have g:=aa (ae g.out cx);have o:=aa (o.out.below cx);obtain⟨ad,al,am⟩:=z.out _ g.out;obtain⟨bb,bd,b1,b2⟩:=mD o.out;clear cx)
   |(go_at_call 39;refine(gc.out _).mono ?_;rintro e di ⟨rfl,cy⟩;have g:=aa (ae g.out cy);have o:=aa (o.out.below cy);clear cy)
   |((with_reducible show wpList _ _ _ (⟨U,Op.store 71 _ (.tmp 47),_,_,_,_⟩::_) _ _);refine aZ rfl 71 _ _ rfl 71 S.heap.size 0 (dq n R i M) (dq n wP i E).toList rfl rfl o.out JP (by show 4<=4;omega) (by intro v Z;simp only[List.mem_cons,Ay,or_false]at Z;rcases Z with rfl|rfl|rfl|rfl<;>rfl) ?_;rw[xB];have fz:w2 (af w0 (di.setRow S.heap.size (dq n wP i E))):=below_setRow g.out fx.out _;have g:=fz;have fG:w2 (ag (di.setRow S.heap.size (dq n wP i E)) S.heap.size (dq n wP i E) 71):=o.out.set _;have o:=fG;obtain⟨ad,al,am⟩:=z.out _ g.out;obtain⟨bb,bd,b1,b2⟩:=mD o.out)
   |(go_at_call 40;refine(ey.out _ (r.out.trans (g.out.mono r.out.size))).mono ?_;rintro e gs ⟨rfl,c2⟩;have g:=aa (ae g.out c2);have o:=aa (o.out.below c2);obtain⟨ad,al,am⟩:=z.out _ g.out;obtain⟨bb,bd,b1,b2⟩:=mD o.out;clear c2)
   |(go_at_call 41;refine(fb.out _ (r.out.trans (g.out.mono r.out.size))).mono ?_;rintro e be ⟨rfl,c3⟩;have g:=aa (ae g.out c3);have o:=aa (o.out.below c3);obtain⟨ad,al,am⟩:=z.out _ g.out;clear c3;rcases O with _|_))
 all_goals(try(go_ret3;exact dU.err (ez.out oS) (r.out.trans (g.out.mono r.out.size))))
 all_goals
  clear ad al am;have d3:w2 (af be be.drew):=ai (Below.refl _ _);have cb:w2 (∀W,af be W->(W.cell? ⟨Q,0,U⟩=gk (I J (n:Int))/\W.cell? ⟨Q,1,U⟩=gk (I J (n:Int))/\W.cell? ⟨Q,2,U⟩=gk (.slice A N j))/\_):=λW a5=>⟨z.out W (g.out.trans (a5.mono g.out.size)),mD (o.out.below a5)⟩;refine yO (af be) [1,2,5,6,0,3,4,7,0,8,9,10,11,12,13,14] d3.out ?_
  repeat refine zO cb.out ?_
  refine zZ ?_;refine(fc.out _).mono ?_;rintro e gw ⟨v10,rfl,d8,d9⟩;have c5:=aa (ae d3.out d9);clear d9;refine⟨_,rfl,c5.out,jO ?_⟩;refine zZ ?_;refine(fd.out _ _ (r.out.trans ((g.out.trans (c5.out.mono g.out.size)).mono r.out.size)) d8.out).mono ?_;rintro e gx ⟨db,Ss,rfl,ea,ec⟩;have ed:=aa (ae c5.out ec);clear ec;refine⟨_,rfl,ed.out,jO ?_⟩;refine zZ ?_;refine(fn.out _ _ _ _ ea.out).mono ?_;rintro e bt ⟨rfl,ef⟩;have ce:=aa (ae ed.out ef);have d4:w2 (af w bt):=r.out.trans ((g.out.trans (ce.out.mono g.out.size)).mono r.out.size);clear ef ea d8;refine⟨_,rfl,ce.out,jO ?_⟩
  repeat refine zO cb.out ?_
  refine aj ?_;rcases u with _|⟨a,F⟩
  ·have G:=aa (eA.out oS oS);simp only[sa];go_wp2;go_ret3
   exact dU.err G.out d4.out
  ·obtain⟨f0,f1,f2,f3⟩:=e9.out (a,F) rfl;have bf:=aa (fo.out oS (a,F) rfl);simp only[sa]at bf f0 f1 f2 f3⊢;obtain⟨bb,bd,b1,b2⟩:=(cb.out _ ce.out).2;go_wp2;clear bb bd b1 b2;obtain⟨C,a7⟩:∃x,x=bt.alloc (eq a):=⟨_,rfl⟩;rw[fv]at a7;have D:w2 (af w C):=by show Below _ _ _;rw[a7];exact ah d4.out _
   have d5:w2 (ag C bt.heap.size #[I J (a:Int),dd] 60):=by show ag _ _ _ _;rw[a7,dz];exact ag.new _ _ _ _ rfl
   have d6:w2 (af be C):=by show af _ _;rw[a7];exact ah ce.out _
   rw[<-a7];clear a7;have X:w2 (af C C.drew):=ai (Below.refl _ _);have b:w2 (∀W,af C W->(W.cell? ⟨Q,0,U⟩=gk (I J (n:Int))/\W.cell? ⟨Q,1,U⟩=gk (I J (n:Int))/\W.cell? ⟨Q,2,U⟩=gk (.slice A N j))/\W.cell? ⟨bt.heap.size,0,U⟩=gk (I J (a:Int))/\W.cell? ⟨bt.heap.size,1,U⟩=gk dd):=λW a5=>⟨(cb.out W (d6.out.trans (a5.mono d6.out.size))).1,(d5.out.below a5).cell 0 _ rfl,(d5.out.below a5).cell 1 _ rfl⟩;rw[dz]at b;by_cases l:a4 a=wP;rotate_left
   ·rw[Bool.not_eq_true]at l;have ap:w2 (∀V,wS w1 29 #[bX (a:Int) _] V (au (.bool R) V)):=λV=>by have h:=b7.out V a;rw[l]at h;exact h
    have G:w2 (dF n n d=([],0,21)):=by show _=_;rw[bf.out,if_neg (by rw[l];simp)]
    refine yO (af C) [1,0,2,0,3,4,5,7,8,0,6,0,9,10,11,12,13,0,14,0,15,16] X.out ?_
    repeat refine zO b.out ?_
    refine zZ ?_;refine(ap.out _).mono ?_;rintro e c4 ⟨rfl,y⟩;have p:=aa (ae X.out y);clear y;refine⟨_,rfl,p.out,jO ?_⟩
    repeat refine zO b.out ?_
    repeat
     first
     |refine jn rfl ?_
     |refine iz rfl p.out ?_
     simp only[yQ,yU,yX,yY]
    repeat refine zO b.out ?_
    repeat
     first
     |refine jn rfl ?_
     |refine iz rfl p.out ?_
     simp only[yQ,yU,yX,yY]
    repeat refine zO b.out ?_
    refine aj ?_;go_wp2;go_ret3
    exact dU.err G.out (D.out.trans (p.out.mono D.out.size))
   by_cases bv:P a=n;rotate_left
   ·skip
    have ap:w2 (∀V,wS w1 29 #[bX (a:Int) _] V (au (.bool wP) V)):=λV=>by have h:=b7.out V a;rw[l]at h;exact h
    have bx:w2 (∀V,wS w1 36 #[bX (a:Int) _] V (au (I J ((P a:Nat):Int)) V)):=λV=>by have h:=cp.out V a l;exact h
    have gy:(((P a:Nat):Int)!=(n:Int))=wP:=by rw[bne_iff_ne];omega
    have G:w2 (dF n n d=([],0,21)):=by show _=_;rw[bf.out,if_neg (by rw[show(P a==n)=R from beq_eq_false_iff_ne.2 bv];simp)]
    refine yO (af C) [1,0,2,0,3,4,5,7,8,0,6,0,9,10,11,12,13,0,14,0,15,16] X.out ?_
    repeat refine zO b.out ?_
    refine zZ ?_;refine(ap.out _).mono ?_;rintro e c4 ⟨rfl,y⟩;have p:=aa (ae X.out y);clear y;refine⟨_,rfl,p.out,jO ?_⟩
    repeat refine zO b.out ?_
    repeat refine zX b.out ?_
    refine zZ ?_;refine(bx.out _).mono ?_;rintro e d7 ⟨rfl,Y⟩;have H:=aa (ae p.out Y);clear Y;refine⟨_,rfl,H.out,jO ?_⟩
    repeat refine zX b.out ?_
    repeat refine zO b.out ?_
    repeat
     first
     |refine jn rfl ?_
     |refine iz rfl H.out ?_
     simp only[yQ,yU,yX,yY]
    repeat refine zO b.out ?_
    refine aj ?_;go_wp2;go_ret3
    exact dU.err G.out (D.out.trans (H.out.mono D.out.size))
   by_cases gz:F<wf a;rotate_left
   ·skip
    have ap:w2 (∀V,wS w1 29 #[bX (a:Int) _] V (au (.bool wP) V)):=λV=>by have h:=b7.out V a;rw[l]at h;exact h
    have bx:w2 (∀V,wS w1 36 #[bX (a:Int) _] V (au (I J ((n:Nat):Int)) V)):=λV=>by have h:=cp.out V a l;rw[bv]at h;exact h
    have c6:=aa (λV=>dy.out V a l);have f4:((wf a:Nat):Int)<=(F:Int):=oO;have G:w2 (dF n n d=([],0,21)):=by show _=_;rw[bf.out,if_neg (by rw[show decide (F<wf a)=R from decide_eq_false oO];simp)]
    refine yO (af C) [1,0,2,0,3,4,5,7,8,0,6,0,9,10,11,12,13,0,14,0,15,16] X.out ?_
    repeat refine zO b.out ?_
    refine zZ ?_;refine(ap.out _).mono ?_;rintro e c4 ⟨rfl,y⟩;have p:=aa (ae X.out y);clear y;refine⟨_,rfl,p.out,jO ?_⟩
    repeat refine zO b.out ?_
    repeat refine zX b.out ?_
    refine zZ ?_;refine(bx.out _).mono ?_;rintro e d7 ⟨rfl,Y⟩;have H:=aa (ae p.out Y);clear Y;refine⟨_,rfl,H.out,jO ?_⟩
    repeat refine zX b.out ?_
    repeat refine zO b.out ?_
    repeat refine zX b.out ?_
    refine zZ ?_;refine(c6.out _).mono ?_;rintro e f5 ⟨rfl,bz⟩;have av:=aa (ae H.out bz);clear bz;refine⟨_,rfl,av.out,jO ?_⟩
    repeat refine zX b.out ?_
    repeat refine zO b.out ?_
    refine aj ?_;go_wp2;go_ret3
    exact dU.err G.out (D.out.trans (av.out.mono D.out.size))
   ·skip
    have ap:w2 (∀V,wS w1 29 #[bX (a:Int) _] V (au (.bool wP) V)):=λV=>by have h:=b7.out V a;rw[l]at h;exact h
    have bx:w2 (∀V,wS w1 36 #[bX (a:Int) _] V (au (I J ((n:Nat):Int)) V)):=λV=>by have h:=cp.out V a l;rw[bv]at h;exact h
    have c6:=aa (λV=>dy.out V a l);have f4:¬((wf a:Nat):Int)<=(F:Int):=oO;have G:w2 (dF n n d=ci a F):=by show _=_;rw[bf.out,if_pos (by rw[l,show(P a==n)=wP from beq_iff_eq.2 bv,show decide (F<wf a)=wP from decide_eq_true oO];rfl)]
    have f6:=aa (λV t=>fr.out V a F t l bv oO oO);refine yO (af C) [1,0,2,0,3,4,5,7,8,0,6,0,9,10,11,12,13,0,14,0,15,16] X.out ?_
    repeat refine zO b.out ?_
    refine zZ ?_;refine(ap.out _).mono ?_;rintro e c4 ⟨rfl,y⟩;have p:=aa (ae X.out y);clear y;refine⟨_,rfl,p.out,jO ?_⟩
    repeat refine zO b.out ?_
    repeat refine zX b.out ?_
    refine zZ ?_;refine(bx.out _).mono ?_;rintro e d7 ⟨rfl,Y⟩;have H:=aa (ae p.out Y);clear Y;refine⟨_,rfl,H.out,jO ?_⟩
    repeat refine zX b.out ?_
    repeat refine zO b.out ?_
    repeat refine zX b.out ?_
    refine zZ ?_;refine(c6.out _).mono ?_;rintro e f5 ⟨rfl,bz⟩;have av:=aa (ae H.out bz);clear bz;refine⟨_,rfl,av.out,jO ?_⟩
    repeat refine zX b.out ?_
    repeat refine zO b.out ?_
    refine aj ?_;obtain⟨⟨ad,al,am⟩,bb,bd⟩:=b.out _ av.out;go_wp2_with(go_at_call 45;refine(f6.out _ (D.out.trans (av.out.mono D.out.size))).mono ?_;rintro e gC ⟨f7,f8,f9,rfl,eh,ek⟩;have ge:=aa eh;have gg:=aa (ae av.out ek);clear ek eh)
    go_ret3
    rw[G.out];exact⟨f7,f8,f9,rfl,ge.out,D.out.trans (gg.out.mono D.out.size)⟩
theorem Gb (W H:Int) (A:xv Addr) (N c:Nat) (d:List Bool) (w:wR) (i:SR vB R w A N c d):wS w1 14 #[cZ W H A N c] w (dU w (dF W H d)):=by
 have hn:=i.hn;have p:N<=9223372036854775807:=by have:=i.hm;have:=i.hc;unfold maxLen at*;omega
 cases f:cU W H N with
 |false=>exact KJ W H A N c d w p f hn.symm
 |true=>
  obtain⟨n,m,rfl,rfl,n1,n2,q,r,e,k⟩:=xi f;by_cases o:n=m
  ·subst o;have l:cU n n d.length=wP:=by rw[<-hn];exact f
   cases a:dh n wP with
   |false=>
    cases b:dh n R with
    |false=>exact Gz n n A N c d w n2 k f hn.symm rfl a b
    |true=>
     cases g:gn n ((n-1)/2) R d with
     |true=>exact oW n A N c d w e k f i _ _ _ _ R a b g rfl b (fJ (k:=gk R) l (.inr b) (by unfold jJ;rw[b,g];rfl)) (.inl ⟨rfl,rfl,rfl⟩)
     |false=>exact uX n A N c d w e k f i _ _ _ _ R a b g rfl b (fJ (k:=U) l (.inr b) (by unfold jJ;rw[a,b,g];rfl)) (.inl ⟨rfl,rfl,rfl⟩)
   |true=>
    cases b:dh n R with
    |false=>
     cases j:gn n ((n-1)/2) wP d with
     |true=>exact oW n A N c d w e k f i _ _ _ _ wP a b rfl j a (fJ (k:=gk wP) l (.inl a) (by unfold jJ;rw[a,b,j];rfl)) (.inr (.inr ⟨rfl,rfl,rfl,rfl⟩))
     |false=>exact uX n A N c d w e k f i _ _ _ _ wP a b rfl j a (fJ (k:=U) l (.inl a) (by unfold jJ;rw[a,b,j];rfl)) (.inr (.inr ⟨rfl,rfl,rfl⟩))
    |true=>
     cases g:gn n ((n-1)/2) R d with
     |true=>exact oW n A N c d w e k f i _ _ _ _ R a b g rfl b (fJ (k:=gk R) l (.inl a) (by unfold jJ;rw[b,g];rfl)) (.inl ⟨rfl,rfl,rfl⟩)
     |false=>
      cases j:gn n ((n-1)/2) wP d with
      |true=>exact oW n A N c d w e k f i _ _ _ _ wP a b g j a (fJ (k:=gk wP) l (.inl a) (by unfold jJ;rw[a,b,g,j];rfl)) (.inr (.inl ⟨rfl,rfl,rfl,rfl,rfl⟩))
      |false=>exact uX n A N c d w e k f i _ _ _ _ wP a b g j a (fJ (k:=U) l (.inl a) (by unfold jJ;rw[a,b,g,j];rfl)) (.inr (.inl ⟨rfl,rfl,rfl,rfl⟩))
  ·exact GU n m A N c d w n2 k f hn.symm o _ _ rfl rfl
end
end Go.Proofs.YtmnlkganmgcpbaaGreatDoor
