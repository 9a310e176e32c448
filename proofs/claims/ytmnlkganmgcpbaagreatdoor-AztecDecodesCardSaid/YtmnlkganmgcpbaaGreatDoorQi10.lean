import Derived.Test.YtmnlkganmgcpbaaGreatDoorQi9
import Derived.Laws.ResultCell
set_option maxRecDepth 100000
set_option maxHeartbeats 4000000
set_option linter.unusedVariables false
set_option linter.unusedSectionVars false
set_option linter.unusedSimpArgs false
set_option linter.defProp false
open Go.Value renaming int->I,slice->HM
open Go.IntKind renaming i64->J
open Bool renaming false->R,true->wP
open Option renaming none->U,some->gk
open Go renaming World->wR,Calls->wS,Value->xf,frozen_of_row->CH
open Go.Proofs.Tryz renaming prog->w1,underlying163->B0,ntmps141->HR,func141->HW,ntmps143->S4,func143->Uo,ntmps144->UF,func144->UT
open Go.RowKit renaming Hid->w2
open Go.RowKit.Below renaming refl->w3,heap_setCell->HP
open _root_ renaming beq_eq_false_iff_ne->w4,if_neg->w6,if_pos->xl,Option->xv,decide_eq_true->y1,of_decide_eq_true->Ap,UInt8->HH
open Nat renaming zero_le->x1,le_trans->x3,pow_le_pow_right->C3,add_sub_cancel->HI
open ByteArray renaming empty->x7
open List renaming length_drop->B1,drop_drop->UW
open Int renaming natCast_add->Vu
open Go.Proofs.Tryz
namespace Go.Proofs.YtmnlkganmgcpbaaGreatDoor
section
open Go.RowKit Go.WideMaps Go.Maps
theorem FQ (A:xv Addr) (n c s:Nat) (a:List Int) (w:wR) (hb:SR vI 0 w A n c a) (j:2<=s) (a4:s<=12):
 wS w1 78 #[.slice A n c,I J s] w (RT vB R w (aC a s)):=by
 obtain⟨b3,b4,ck,co,cp⟩:=info_parts fF;have a3:=aa hb;have g:w2 (n=a.length):=hb.hn;have d3:n<=9223372036854775807:=by have:=hb.hm;have:=hb.hc;unfold maxLen at*;omega
 have cq:=xV (j:=s) a4;have cr:=oc a4;have cs:4<=2^s:=by
  have:=C3 (n:=2) oO j;simpa using this
 have av:w2 (∀k,k<n->(decide (0<=a.getD k 0)&&decide (a.getD k 0<=((2^s-1:Nat):Int)))=R->aC a s=([],3)):=by
  show∀k,_;intro k m h;unfold aC;have e:sH ((s:Nat):Int).toNat a=R:=all_false (d:=0) (by rw[<-g.out];exact m) h;rw[w6 oO,xl e]
 have ab:w2 ((∀b,b<n->0<=a.getD b 0/\a.getD b 0<=((2^s-1:Nat):Int))->sH s a=wP):=by
  show _->_;intro h;refine all_true (d:=0) λb i=>?_;have:=h b (by rw[g.out];exact i);rw[y1 this.1,y1 this.2];rfl
 have bq:w2 (sH s a=wP->1048576/(s:Int)<(n:Int)->aC a s=([],4)):=by
  show _->_;intro h t;unfold aC;rw[w6 oO,w6 (by rw[show((s:Nat):Int).toNat=s from rfl,h];simp),xl (by rw[<-g.out];exact t)]
 have ac:w2 (sH s a=wP->¬1048576/(s:Int)<(n:Int)->∀k,k<n->(!(a.getD k 0==0)&&!(a.getD k 0==((2^s-1:Nat):Int)))=R->aC a s=([],22)):=by
  show _->_;intro h t k m B;unfold aC;have e:okW ((s:Nat):Int).toNat a=R:=all_false (d:=0) (by rw[<-g.out];exact m) B;rw[w6 oO,w6 (by rw[show((s:Nat):Int).toNat=s from rfl,h];simp),w6 (by rw[<-g.out];exact t),xl e]
 have ad:w2 (sH s a=wP->¬1048576/(s:Int)<(n:Int)->(∀b,b<n->a.getD b 0≠0/\a.getD b 0≠((2^s-1:Nat):Int))->aC a s=(gr s a n,0)):=by
  exact Ru
 obtain⟨M,W⟩:∃M,M=2^s-1:=⟨_,rfl⟩;have b7:=aa W;rw[<-W]at cq av ab ac ad;have dn:3<=M:=oO;have ds:M<=4095:=oO;have dv:decide ((s:Int)<2)=R:=by simp;omega
 have d4:decide ((12:Int)<(s:Int))=R:=by simp;omega
 clear hb W cr cs;go_enter func78,ntmps78;go_wp2;go_loop [7] (λf=>∃k:Nat,k<=n/\f=I J k/\w2 (∀b,b<k->0<=a.getD b 0/\a.getD b 0<=(M:Int))) (λf=>n-(intOf f).toNat)
 case atStart=>exact⟨0,x1 _,rfl,λb i=>by omega⟩
 case round=>
  obtain⟨k,m,rfl,al⟩:=hrel;by_cases v:k<n
  ·exact Su
  ·obtain rfl:k=n:=oO;have P:=aa (ab.out al.out);clear av ab;by_cases hq:1048576/(s:Int)<(k:Int)
   ·have z:=aa (bq.out P.out hq);go_wp2;go_ret2
    exact RT.mk z.out (SG.dw _) (w3 _ _)
   have bs:w2 (∀b,b<k->(!(a.getD b 0==0)&&!(a.getD b 0==(M:Int)))=R->aC a s=([],22)):=ac.out P.out (by simpa using hq);have bt:w2 ((∀b,b<k->a.getD b 0≠0/\a.getD b 0≠(M:Int))->aC a s=(gr s a k,0)):=ad.out P.out (by simpa using hq);have dx:k<=1048576:=by
    have O:1048576/(s:Int)<=1048576:=Int.ediv_le_self _ oO;omega
   have b2:w2 (s* k<=1048576):=by
    have O:(k:Int)<=1048576/(s:Int):=oO;have V:(k:Int)* (s:Int)<=1048576:=(Int.le_ediv_iff_mul_le oO).1 O;show _<=_;rw[Nat.mul_comm];have b9:((k* s:Nat):Int)<=((1048576:Nat):Int):=by rw[Int.natCast_mul];exact V
    exact Int.ofNat_le.1 b9
   clear bq ac ad;go_wp2;clear m;generalize k=l at*;obtain⟨d,a6⟩:∃d,d=s-1:=⟨_,rfl⟩;have dE:((s:Int)-1)=(d:Int):=oO;have c9:=aa a6;have ea:d<=11:=oO;clear a6;go_loopw [8,9] (λT f wr=>∃k:Nat,k<=l/\f=I J k/\w2 (∀b,b<k->a.getD b 0≠0/\a.getD b 0≠(M:Int))/\w2 (SG vB R wr T (gr s a k))/\w2 (af w wr)) (λ_ f _=>l-(intOf f).toNat)
   case atStart=>exact⟨0,x1 _,rfl,λb i=>by omega,SG.dw _,w3 _ _⟩
   case round=>
    obtain⟨k,m,rfl,a5,bx,Z⟩:=hrel;by_cases v:k<l
    ·obtain⟨b6,rfl,cv,C⟩:=(a3.out.below Z.out).rd (by rw[<-g.out];omega);have bb:=C k (by rw[<-g.out];exact v);clear C;have r:=bs.out k v;have E:w2 (a.getD k 0≠0/\a.getD k 0≠(M:Int)->∀b,b<k+1->a.getD b 0≠0/\a.getD b 0≠(M:Int)):=by
      show _->_;intro h b i;rcases Nat.lt_or_ge b k with j|j
      ·exact a5.out b j
      ·obtain rfl:b=k:=oO;exact h
     obtain⟨t,B⟩:=al.out k v;obtain⟨N,X⟩:=Int.eq_ofNat_of_zero_le t;have H:w2 (gr s a (k+1)=gr s a k++lq s N):=by
      show gr s a k++lq s (a.getD k 0).toNat=_;rw[X];rfl
     rw[X]at bb B r E;clear t X;have dy:N<=M:=oO;clear B;by_cases u:N=0
     ·subst u;have z:=aa (r rfl);clear r E;go_wp2;go_ret2
      exact RT.mk z.out (SG.dw _) Z.out
     have ca:((N:Int)==0)=R:=by rw[w4];omega
     by_cases c4:N=M
     ·have z:=aa (r (by rw[ca,c4];simp));have cb:((N:Int)==(M:Int))=wP:=by rw[beq_iff_eq];omega
      clear r E;go_wp2;go_ret2
      exact RT.mk z.out (SG.dw _) Z.out
     have cb:((N:Int)==(M:Int))=R:=by rw[w4];omega
     have Y:=aa (E.out ⟨by omega,by omega⟩);have d0:w2 ((gr s a k).length+s<=1048576):=by
      have O:=AS s a k;have V:s* (k+1)<=s* l:=Nat.mul_le_mul_left _ v;rw[Nat.mul_succ]at V;have:=b2.out;show _<=_;omega
     obtain⟨bz,a7,b1,rfl,am⟩:=bx.out.parts;have be:=aa am;have ec:a7+s<=1048576:=by rw[am.hn];exact d0.out
     clear r E u c4 bx am;obtain⟨F,hF⟩:∃F,F=N/2:=⟨_,rfl⟩;obtain⟨G,bd⟩:∃G,G=M/2:=⟨_,rfl⟩;have e1:(N:Int)/2=(F:Int):=oO;have e2:(M:Int)/2=(G:Int):=oO;have ap:w2 (lq s N=if F=0\/F=G then bH F d else bH N s):=by
      show _=_;unfold lq;rw[hF,bd,b7.out,c9.out]
     have dz:F<=4095:=oO;clear hF bd;by_cases ch:F=0
     ·subst ch;have K:w2 (gr s a (k+1)=gr s a k++bH 0 d):=by show _=_;rw[H.out,ap.out,xl (.inl rfl)]
      clear H ap;go_wp2_with(go_at_call 103;refine(r4 bz a7 b1 _ 0 d _ be.out oO oO oO).mono ?_;rintro e cy ⟨v6,rfl,Q,S⟩;have bf:=aa Q;have bi:=aa (ae Z.out S);clear Q S)
      exact⟨⟨k+1,by omega,by go_num,Y.out,by show SG _ _ _ _ _;rw[K.out];exact bf.out,bi.out⟩,by simp[intOf];omega⟩
     have d6:((F:Int)==0)=R:=by rw[w4];omega
     by_cases c2:F=G
     ·subst c2;have K:w2 (gr s a (k+1)=gr s a k++bH F d):=by show _=_;rw[H.out,ap.out,xl (.inr rfl)]
      clear H ap ch;go_wp2_with(go_at_call 103;refine(r4 bz a7 b1 _ F d _ be.out oO oO oO).mono ?_;rintro e cy ⟨v6,rfl,Q,S⟩;have bf:=aa Q;have bi:=aa (ae Z.out S);clear Q S)
      exact⟨⟨k+1,by omega,by go_num,Y.out,by show SG _ _ _ _ _;rw[K.out];exact bf.out,bi.out⟩,by simp[intOf];omega⟩
     ·have d7:((F:Int)==(G:Int))=R:=by rw[w4];omega
      have K:w2 (gr s a (k+1)=gr s a k++bH N s):=by show _=_;rw[H.out,ap.out,w6 oO]
      clear H ap ch c2;go_wp2_with(go_at_call 103;refine(r4 bz a7 b1 _ N s _ be.out oO oO oO).mono ?_;rintro e cy ⟨v6,rfl,Q,S⟩;have bf:=aa Q;have bi:=aa (ae Z.out S);clear Q S)
      exact⟨⟨k+1,by omega,by go_num,Y.out,by show SG _ _ _ _ _;rw[K.out];exact bf.out,bi.out⟩,by simp[intOf];omega⟩
    ·obtain rfl:k=l:=oO;have ce:=aa (bt.out a5.out);obtain⟨bz,a7,b1,rfl,am⟩:=bx.out.parts;have be:=aa am;clear bs bt bx am;go_wp2;go_ret2
     exact RT.mk ce.out be.out.sg Z.out
theorem E7 (A:xv Addr) (n c:Nat) (size:Int) (a:List Int) (w:wR) (hb:SR vI 0 w A n c a):
 wS w1 78 #[.slice A n c,I J size] w (RT vB R w (aC a size)):=by
 by_cases d:size<2
 ·have b:w2 (aC a size=([],3)):=by show _=_;unfold aC;rw[xl (.inl d)]
  clear hb;go_enter func78,ntmps78;go_wp2;go_ret2
  exact RT.mk b.out (SG.dw _) (w3 _ _)
 by_cases e:12<size
 ·have b:w2 (aC a size=([],3)):=by show _=_;unfold aC;rw[xl (.inr e)]
  clear hb;go_enter func78,ntmps78;go_wp2;go_ret2
  exact RT.mk b.out (SG.dw _) (w3 _ _)
 obtain⟨s,rfl⟩:=Int.eq_ofNat_of_zero_le (show 0<=size by omega);exact FQ A n c s a w hb oO oO
def iI (m v:Nat):Int:=if cF m v=2 then((cD m v:Nat):Int)else-1
def j2 (m v:Nat):Int:=if cF m v=3 then((cD m v:Nat):Int)else-1
def eM (m v:Nat):ByteArray:=if cF m v=1 then dj m v else x7
theorem zn (m:Nat) (w:wR):wS w1 140 #[I J (m:Int)] w λe a=>e= .returned (I J ((ar m:Nat):Int))/\a=w:=by
 by_cases h:m=4
 ·subst h;go_enter func140,ntmps140;go_wp2;go_ret;exact⟨rfl,rfl⟩
 ·have z:((m:Int)==4)=R:=by rw[w4];omega
  have b:w2 (ar m=5):=by show _=_;unfold ar;rw[w6 h]
  clear h;go_enter func140,ntmps140;go_wp2;go_ret;rw[b.out];exact⟨rfl,rfl⟩
theorem Ev:∀v,v<32->v≠28->v≠29->v≠30->iI 0 v=-1:=Ap oK
theorem C8:iI 0 28=1:=oK
theorem CE:iI 0 29=2:=oK
theorem CD:iI 0 30=4:=oK
theorem Nu (v:Nat) (d:v<32) (w:wR):wS w1 143 #[I J 0,I J (v:Int)] w λe f=>e= .returned (I J (iI 0 v))/\f=w:=by
 by_cases a:v=28
 ·subst a;go_enter Uo,S4;go_wp2;go_ret;rw[C8];exact⟨rfl,rfl⟩
 by_cases b:v=29
 ·subst b;go_enter Uo,S4;go_wp2;go_ret;rw[CE];exact⟨rfl,rfl⟩
 by_cases c:v=30
 ·subst c;go_enter Uo,S4;go_wp2;go_ret;rw[CD];exact⟨rfl,rfl⟩
 have g:=aa (Ev v d a b c);have i:((v:Int)==28)=R:=by rw[w4];omega
 have j:((v:Int)==29)=R:=by rw[w4];omega
 have k:((v:Int)==30)=R:=by rw[w4];omega
 clear a b c;go_enter Uo,S4;go_wp2;go_ret;rw[g.out];exact⟨rfl,rfl⟩
theorem DU:∀v,v<32->v≠29->v≠30->iI 1 v=-1:=Ap oK
theorem CL:iI 1 29=2:=oK
theorem CC:iI 1 30=4:=oK
theorem M9 (v:Nat) (c:v<32) (w:wR):wS w1 143 #[I J 1,I J (v:Int)] w λe d=>e= .returned (I J (iI 1 v))/\d=w:=by
 by_cases a:v=29
 ·subst a;go_enter Uo,S4;go_wp2;go_ret;rw[CL];exact⟨rfl,rfl⟩
 by_cases b:v=30
 ·subst b;go_enter Uo,S4;go_wp2;go_ret;rw[CC];exact⟨rfl,rfl⟩
 have f:=aa (DU v c a b);have g:((v:Int)==29)=R:=by rw[w4];omega
 have i:((v:Int)==30)=R:=by rw[w4];omega
 clear a b;go_enter Uo,S4;go_wp2;go_ret;rw[f.out];exact⟨rfl,rfl⟩
theorem F1:∀v,v<32->v≠28->v≠29->v≠30->iI 2 v=-1:=Ap oK
theorem CI:iI 2 28=1:=oK
theorem CM:iI 2 29=0:=oK
theorem Dd:iI 2 30=3:=oK
theorem Nr (v:Nat) (d:v<32) (w:wR):wS w1 143 #[I J 2,I J (v:Int)] w λe f=>e= .returned (I J (iI 2 v))/\f=w:=by
 by_cases a:v=28
 ·subst a;go_enter Uo,S4;go_wp2;go_ret;rw[CI];exact⟨rfl,rfl⟩
 by_cases b:v=29
 ·subst b;go_enter Uo,S4;go_wp2;go_ret;rw[CM];exact⟨rfl,rfl⟩
 by_cases c:v=30
 ·subst c;go_enter Uo,S4;go_wp2;go_ret;rw[Dd];exact⟨rfl,rfl⟩
 have g:=aa (F1 v d a b c);have i:((v:Int)==28)=R:=by rw[w4];omega
 have j:((v:Int)==29)=R:=by rw[w4];omega
 have k:((v:Int)==30)=R:=by rw[w4];omega
 clear a b c;go_enter Uo,S4;go_wp2;go_ret;rw[g.out];exact⟨rfl,rfl⟩
theorem D7:∀v,v<32->v≠31->iI 3 v=-1:=Ap oK
theorem De:iI 3 31=0:=oK
theorem OW (v:Nat) (b:v<32) (w:wR):wS w1 143 #[I J 3,I J (v:Int)] w λe c=>e= .returned (I J (iI 3 v))/\c=w:=by
 by_cases a:v=31
 ·subst a;go_enter Uo,S4;go_wp2;go_ret;rw[De];exact⟨rfl,rfl⟩
 have d:=aa (D7 v b a);have f:((v:Int)==31)=R:=by rw[w4];omega
 clear a;go_enter Uo,S4;go_wp2;go_ret;rw[d.out];exact⟨rfl,rfl⟩
theorem Fj:∀v,v<32->v≠14->iI 4 v=-1:=Ap oK
theorem CZ:iI 4 14=0:=oK
theorem Nn (v:Nat) (b:v<32) (w:wR):wS w1 143 #[I J 4,I J (v:Int)] w λe c=>e= .returned (I J (iI 4 v))/\c=w:=by
 by_cases a:v=14
 ·subst a;go_enter Uo,S4;go_wp2;go_ret;rw[CZ];exact⟨rfl,rfl⟩
 have d:=aa (Fj v b a);have f:((v:Int)==14)=R:=by rw[w4];omega
 clear a;go_enter Uo,S4;go_wp2;go_ret;rw[d.out];exact⟨rfl,rfl⟩
theorem lZ (m v:Nat) (d:m<5) (a:v<32) (w:wR):wS w1 143 #[I J (m:Int),I J (v:Int)] w λe b=>e= .returned (I J (iI m v))/\b=w:=by
 have c:m=0\/m=1\/m=2\/m=3\/m=4:=oO;rcases c with rfl|rfl|rfl|rfl|rfl
 ·exact Nu v a w
 ·exact M9 v a w
 ·exact Nr v a w
 ·exact OW v a w
 ·exact Nn v a w
theorem D1:∀v,v<32->v≠0->j2 0 v=-1:=Ap oK
theorem F2:j2 0 0=3:=oK
theorem OU (v:Nat) (b:v<32) (w:wR):wS w1 144 #[I J 0,I J (v:Int)] w λe c=>e= .returned (I J (j2 0 v))/\c=w:=by
 by_cases a:v=0
 ·subst a;go_enter UT,UF;go_wp2;go_ret;rw[F2];exact⟨rfl,rfl⟩
 have d:=aa (D1 v b a);have f:((v:Int)==0)=R:=by rw[w4];omega
 clear a;go_enter UT,UF;go_wp2;go_ret;rw[d.out];exact⟨rfl,rfl⟩
theorem EF:∀v,v<32->v≠0->v≠28->j2 1 v=-1:=Ap oK
theorem F0:j2 1 0=3:=oK
theorem C0:j2 1 28=0:=oK
theorem Oh (v:Nat) (c:v<32) (w:wR):wS w1 144 #[I J 1,I J (v:Int)] w λe d=>e= .returned (I J (j2 1 v))/\d=w:=by
 by_cases a:v=0
 ·subst a;go_enter UT,UF;go_wp2;go_ret;rw[F0];exact⟨rfl,rfl⟩
 by_cases b:v=28
 ·subst b;go_enter UT,UF;go_wp2;go_ret;rw[C0];exact⟨rfl,rfl⟩
 have f:=aa (EF v c a b);have g:((v:Int)==0)=R:=by rw[w4];omega
 have i:((v:Int)==28)=R:=by rw[w4];omega
 clear a b;go_enter UT,UF;go_wp2;go_ret;rw[f.out];exact⟨rfl,rfl⟩
theorem D8:∀v,v<32->v≠0->j2 2 v=-1:=Ap oK
theorem Dr:j2 2 0=3:=oK
theorem O2 (v:Nat) (b:v<32) (w:wR):wS w1 144 #[I J 2,I J (v:Int)] w λe c=>e= .returned (I J (j2 2 v))/\c=w:=by
 by_cases a:v=0
 ·subst a;go_enter UT,UF;go_wp2;go_ret;rw[Dr];exact⟨rfl,rfl⟩
 have d:=aa (D8 v b a);have f:((v:Int)==0)=R:=by rw[w4];omega
 clear a;go_enter UT,UF;go_wp2;go_ret;rw[d.out];exact⟨rfl,rfl⟩
theorem Ek:∀v,v<32->j2 3 v=-1:=Ap oK
theorem NU (v:Nat) (a:v<32) (w:wR):wS w1 144 #[I J 3,I J (v:Int)] w λe b=>e= .returned (I J (j2 3 v))/\b=w:=by
 have c:=aa (Ek v a);go_enter UT,UF;go_wp2;go_ret;rw[c.out];exact⟨rfl,rfl⟩
theorem FK:∀v,v<32->v≠0->v≠15->j2 4 v=-1:=Ap oK
theorem FM:j2 4 0=3:=oK
theorem C9:j2 4 15=0:=oK
theorem NZ (v:Nat) (c:v<32) (w:wR):wS w1 144 #[I J 4,I J (v:Int)] w λe d=>e= .returned (I J (j2 4 v))/\d=w:=by
 by_cases a:v=0
 ·subst a;go_enter UT,UF;go_wp2;go_ret;rw[FM];exact⟨rfl,rfl⟩
 by_cases b:v=15
 ·subst b;go_enter UT,UF;go_wp2;go_ret;rw[C9];exact⟨rfl,rfl⟩
 have f:=aa (FK v c a b);have g:((v:Int)==0)=R:=by rw[w4];omega
 have i:((v:Int)==15)=R:=by rw[w4];omega
 clear a b;go_enter UT,UF;go_wp2;go_ret;rw[f.out];exact⟨rfl,rfl⟩
theorem nO (m v:Nat) (d:m<5) (a:v<32) (w:wR):wS w1 144 #[I J (m:Int),I J (v:Int)] w λe b=>e= .returned (I J (j2 m v))/\b=w:=by
 have c:m=0\/m=1\/m=2\/m=3\/m=4:=oO;rcases c with rfl|rfl|rfl|rfl|rfl
 ·exact OU v a w
 ·exact Oh v a w
 ·exact O2 v a w
 ·exact NU v a w
 ·exact NZ v a w
theorem Gg:∀v,v<32->2<=v->v<=27->Hu.extract (v-2) (v-1)=eM 0 v:=Ap oK
theorem G3:∀v,v<32->27<v->eM 0 v=x7:=Ap oK
theorem EJ:eM 0 0=x7:=oK
theorem Gs:eM 0 1=⟨#[32]⟩:=oK
theorem Nv (v:Nat) (c:v<32) (w:wR):wS w1 141 #[I J 0,I J (v:Int)] w (au (.string (eM 0 v)) w):=by
 by_cases a:v=0
 ·subst a;go_enter HW,HR;go_wp2;go_ret;rw[EJ];exact⟨rfl,w3 _ _⟩
 by_cases b:v=1
 ·subst b;go_enter HW,HR;go_wp2;go_ret;rw[Gs];exact⟨rfl,w3 _ _⟩
 have g:((v:Int)==0)=R:=by rw[w4];omega
 have i:((v:Int)==1)=R:=by rw[w4];omega
 by_cases hl:27<v
 ·have d:=aa (G3 v c hl);have e:decide ((27:Int)<(v:Int))=wP:=by simp;omega
  clear a b;go_enter HW,HR;go_wp2;go_ret;rw[d.out];exact⟨rfl,w3 _ _⟩
 have e:decide ((27:Int)<(v:Int))=R:=by simp;omega
 have f:=Gg v c oO oO;exact Nc
theorem Gt:∀v,v<32->2<=v->v<=27->IQ.extract (v-2) (v-1)=eM 1 v:=Ap oK
theorem Gn:∀v,v<32->27<v->eM 1 v=x7:=Ap oK
theorem DC:eM 1 0=x7:=oK
theorem Gw:eM 1 1=⟨#[32]⟩:=oK
theorem Ox (v:Nat) (c:v<32) (w:wR):wS w1 141 #[I J 1,I J (v:Int)] w (au (.string (eM 1 v)) w):=by
 by_cases a:v=0
 ·subst a;go_enter HW,HR;go_wp2;go_ret;rw[DC];exact⟨rfl,w3 _ _⟩
 by_cases b:v=1
 ·subst b;go_enter HW,HR;go_wp2;go_ret;rw[Gw];exact⟨rfl,w3 _ _⟩
 have g:((v:Int)==0)=R:=by rw[w4];omega
 have i:((v:Int)==1)=R:=by rw[w4];omega
 by_cases hl:27<v
 ·have d:=aa (Gn v c hl);have e:decide ((27:Int)<(v:Int))=wP:=by simp;omega
  clear a b;go_enter HW,HR;go_wp2;go_ret;rw[d.out];exact⟨rfl,w3 _ _⟩
 have e:decide ((27:Int)<(v:Int))=R:=by simp;omega
 have f:=Gt v c oO oO;exact Nc
theorem Gu:∀v,v<32->2<=v->v<=27->It.extract (v-2) (v-1)=eM 2 v:=Ap oK
theorem Hb:∀v,v<32->27<v->eM 2 v=x7:=Ap oK
theorem EK:eM 2 0=x7:=oK
theorem G6:eM 2 1=⟨#[32]⟩:=oK
theorem Ph (v:Nat) (c:v<32) (w:wR):wS w1 141 #[I J 2,I J (v:Int)] w (au (.string (eM 2 v)) w):=by
 by_cases a:v=0
 ·subst a;go_enter HW,HR;go_wp2;go_ret;rw[EK];exact⟨rfl,w3 _ _⟩
 by_cases b:v=1
 ·subst b;go_enter HW,HR;go_wp2;go_ret;rw[G6];exact⟨rfl,w3 _ _⟩
 have g:((v:Int)==0)=R:=by rw[w4];omega
 have i:((v:Int)==1)=R:=by rw[w4];omega
 by_cases hl:27<v
 ·have d:=aa (Hb v c hl);have e:decide ((27:Int)<(v:Int))=wP:=by simp;omega
  clear a b;go_enter HW,HR;go_wp2;go_ret;rw[d.out];exact⟨rfl,w3 _ _⟩
 have e:decide ((27:Int)<(v:Int))=R:=by simp;omega
 have f:=Gu v c oO oO;exact Nc
theorem GR:∀v,v<32->6<=v->v<=30->IM.extract (v-6) (v-5)=eM 3 v:=Ap oK
theorem Gl:∀v,v<32->30<v->eM 3 v=x7:=Ap oK
theorem FN:eM 3 0=x7:=oK
theorem Gh:eM 3 1=⟨#[13]⟩:=oK
theorem G0:eM 3 2=⟨#[13,10]⟩:=oK
theorem Gv:eM 3 3=⟨#[46,32]⟩:=oK
theorem He:eM 3 4=⟨#[44,32]⟩:=oK
theorem Hj:eM 3 5=⟨#[58,32]⟩:=oK
theorem N3 (v:Nat) (e:v<32) (w:wR):wS w1 141 #[I J 3,I J (v:Int)] w (au (.string (eM 3 v)) w):=by
 by_cases a:v=0
 ·subst a;go_enter HW,HR;go_wp2;go_ret;rw[FN];exact⟨rfl,w3 _ _⟩
 by_cases b:v=1
 ·subst b;go_enter HW,HR;go_wp2;go_ret;rw[Gh];exact⟨rfl,w3 _ _⟩
 have m:((v:Int)==0)=R:=by rw[w4];omega
 have n:((v:Int)==1)=R:=by rw[w4];omega
 by_cases hl:30<v
 ·have c:=aa (Gl v e hl);have f:decide ((30:Int)<(v:Int))=wP:=by simp;omega
  clear a b;go_enter HW,HR;go_wp2;go_ret;rw[c.out];exact⟨rfl,w3 _ _⟩
 have f:decide ((30:Int)<(v:Int))=R:=by simp;omega
 by_cases g:v=2
 ·subst g;go_enter HW,HR;go_wp2;go_ret;rw[G0];exact⟨rfl,ax _ _⟩
 by_cases i:v=3
 ·subst i;go_enter HW,HR;go_wp2;go_ret;rw[Gv];exact⟨rfl,ax _ _⟩
 by_cases j:v=4
 ·subst j;go_enter HW,HR;go_wp2;go_ret;rw[He];exact⟨rfl,ax _ _⟩
 by_cases l:v=5
 ·subst l;go_enter HW,HR;go_wp2;go_ret;rw[Hj];exact⟨rfl,ax _ _⟩
 have o:decide ((v:Int)<6)=R:=by simp;omega
 have d:=GR v e oO oO;obtain⟨k,rfl⟩:∃k,v=k+6:=⟨v-6,by omega⟩;rw[HI]at d;have c:=aa d;have p:((k:Int)+6==0)=R:=by rw[w4];omega
 have q:((k:Int)+6==1)=R:=by rw[w4];omega
 have r:decide ((30:Int)<(k:Int)+6)=R:=by simp;omega
 have s:k<25:=oO;clear m n f a b d hl o g i j l;have t:decide ((k:Int)+6<6)=R:=by simp;omega
 go_enter HW,HR;go_wp2;go_ret;rw[<-c.out];exact⟨rfl,w3 _ _⟩
theorem Gk:∀v,v<32->2<=v->v<=13->E5.extract (v-2) (v-1)=eM 4 v:=Ap oK
theorem GF:∀v,v<32->13<v->eM 4 v=x7:=Ap oK
theorem EO:eM 4 0=x7:=oK
theorem GP:eM 4 1=⟨#[32]⟩:=oK
theorem Ni (v:Nat) (e:v<32) (w:wR):wS w1 141 #[I J 4,I J (v:Int)] w (au (.string (eM 4 v)) w):=by
 by_cases a:v=0
 ·subst a;go_enter HW,HR;go_wp2;go_ret;rw[EO];exact⟨rfl,w3 _ _⟩
 by_cases b:v=1
 ·subst b;go_enter HW,HR;go_wp2;go_ret;rw[GP];exact⟨rfl,w3 _ _⟩
 have g:((v:Int)==0)=R:=by rw[w4];omega
 have i:((v:Int)==1)=R:=by rw[w4];omega
 by_cases hl:13<v
 ·have c:=aa (GF v e hl);have f:decide ((13:Int)<(v:Int))=wP:=by simp;omega
  clear a b;go_enter HW,HR;go_wp2;go_ret;rw[c.out];exact⟨rfl,w3 _ _⟩
 have f:decide ((13:Int)<(v:Int))=R:=by simp;omega
 have d:=Gk v e oO oO;obtain⟨k,rfl⟩:∃k,v=k+2:=⟨v-2,by omega⟩;rw[HI]at d;have c:=aa d;have j:((k:Int)+2==0)=R:=by rw[w4];omega
 have l:((k:Int)+2==1)=R:=by rw[w4];omega
 have m:decide ((13:Int)<(k:Int)+2)=R:=by simp;omega
 have n:k<12:=oO;clear g i f a b d hl;go_enter HW,HR;go_wp2;go_ret;rw[<-c.out];exact⟨rfl,w3 _ _⟩
theorem ua (m v:Nat) (c:m<5) (a:v<32) (w:wR):wS w1 141 #[I J (m:Int),I J (v:Int)] w (au (.string (eM m v)) w):=by
 have b:m=0\/m=1\/m=2\/m=3\/m=4:=oO;rcases b with rfl|rfl|rfl|rfl|rfl
 ·exact Nv v a w
 ·exact Ox v a w
 ·exact Ph v a w
 ·exact N3 v a w
 ·exact Ni v a w
theorem Hg {b:List Bool} {at_ m:Nat} (h:at_+m<=b.length):aK (b.drop at_) 0 m=(((ba b at_ m:Nat):Int),0):=by
 unfold aK;rw[w6 (by rw[B1];omega),BD,Nat.add_zero]
theorem Ja {b:List Bool} {at_ m:Nat} (h:b.length<at_+m) (a:at_<=b.length):aK (b.drop at_) 0 m=(0,10):=by
 unfold aK;rw[xl (by rw[B1];omega)]
theorem Mn (A:xv Addr) (n c:Nat) (b:List Bool) (at_ m:Nat) (w:wR) (hb:SR vB R w A n c b) (E:at_<=n) (F:m<=40) (hn:n<=1048576):
 wS w1 176 #[.slice A n c,I J (at_:Int),I J (m:Int)] w λe z=>e= .returned (.tuple #[I J (aK (b.drop at_) 0 m).1,I J (aK (b.drop at_) 0 m).2])/\z=w:=by
 have B:=aa hb;have d:w2 (n=b.length):=hb.hn;have G:decide ((62:Int)<(m:Int))=R:=by simp;omega
 have H:decide (n<at_)=R:=by simp;omega
 obtain⟨q,hq⟩:∃q,q=n-at_:=⟨_,rfl⟩;have e1:(n:Int)-(at_:Int)=(q:Int):=oO;have p:n=at_+q:=oO;have g:=aa p;clear hb hq p;by_cases r:q<m
 ·have i:w2 (aK (b.drop at_) 0 m=(0,10)):=Ja (by rw[<-d.out];have:=g.out;omega) (by rw[<-d.out];omega);have C:decide (q<m)=wP:=by simp;omega
  go_enter func176,ntmps176;go_wp2;go_ret2
  rw[i.out];exact⟨rfl,rfl⟩
 ·have i:w2 (aK (b.drop at_) 0 m=(((ba b at_ m:Nat):Int),0)):=Hg (by rw[<-d.out];have:=g.out;omega);have C:decide (q<m)=R:=by simp;omega
  have N:at_+m<=n:=by have:=g.out;omega
  clear r e1;have e1:(n:Int)-(at_:Int)=(q:Int):=by have:=g.out;omega
  go_enter func176,ntmps176;go_wp2;go_loop [8,9] (λD j=>∃a x:Nat,a<=m/\j=I J ((at_:Int)+(a:Int))/\D=I J x/\x<=1099511627776/\w2 (x=ba b at_ a)) (λ_ j=>at_+m-(intOf j).toNat)
  case atStart=>exact⟨0,0,x1 _,by simp,rfl,by omega,rfl⟩
  case round=>
   obtain⟨a,x,K,rfl,rfl,L,l⟩:=hrel;by_cases r:a<m
   ·obtain⟨M,rfl,_,s⟩:=B.out.rd (by rw[<-d.out];omega);have O:=s (at_+a) (by rw[<-d.out];omega);have o:w2 (∀y,b.getD (at_+a) R=y->ba b at_ (a+1)=2* x+(if y then 1 else 0)):=by
     show∀y,_;rintro y rfl;rw[l.out];rfl
    have t:=eS b at_ (a+1);have u:2^(a+1)<=2^40:=C3 oO oO;have v:(2:Nat)^40=1099511627776:=by decide
    clear s;generalize b.getD (at_+a) R=y at*;cases y with
    |true=>
     have f:=aa (o.out wP rfl);have k:2* x+1<=1099511627776:=by
      have h:=f.out;simp only[if_true]at h;omega
     clear t u v;go_wp2;exact⟨⟨a+1,2* x+1,by omega,by go_num,by go_num,k,f.out.symm⟩,by simp[intOf];omega⟩
    |false=>
     have f:=aa (o.out R rfl);have k:2* x<=1099511627776:=by
      have h:=f.out;simp only[Bool.false_eq_true,if_false]at h;omega
     clear t u v;go_wp2;exact⟨⟨a+1,2* x,by omega,by go_num,by go_num,k,f.out.symm⟩,by simp[intOf];omega⟩
   ·obtain rfl:a=m:=oO;go_wp2;go_ret2
    rw[i.out,<-l.out];exact⟨rfl,rfl⟩
theorem vk (A:xv Addr) (n c:Nat) (b:List Bool) (at_:Nat) (w:wR) (hb:SR vB R w A n c b) (G:at_<=n) (hn:n<=1048576):
 wS w1 127 #[.slice A n c,I J (at_:Int)] w λe x=>e= .returned (.bool (jm (b.drop at_)))/\x=w:=by
 have z:=aa hb;have f:w2 (n=b.length):=hb.hn;obtain⟨q,hq⟩:∃q,q=n-at_:=⟨_,rfl⟩;have e1:(n:Int)-(at_:Int)=(q:Int):=oO;have s:n=at_+q:=oO;have t:=aa s;have g:w2 ((b.drop at_).length=q):=by show _=_;rw[B1,<-f.out];omega
 have o:w2 (∀a,(b.drop at_).getD a R=b.getD (at_+a) R):=by
  show∀a,_;intro a;simp only[List.getD,List.getElem?_drop]
 have B:w2 (∀a,at_+a<n↔a<q):=λa=>by have:=t.out;omega
 clear hb hq s;go_enter func127,ntmps127;go_wp2;go_loop [5] (λi=>∃a:Nat,at_+a<=n/\i=I J ((at_:Int)+(a:Int))/\w2 (∀d,d<a->(b.drop at_).getD d R=wP)) (λi=>n-(intOf i).toNat)
 case atStart=>exact⟨0,by omega,by simp,λd j=>by omega⟩
 case round=>
  obtain⟨a,H,rfl,k⟩:=hrel;by_cases D:at_+a<n
  ·obtain⟨K,rfl,_,u⟩:=z.out.rd (by rw[<-f.out];omega);have L:=u (at_+a) (by rw[<-f.out];omega);have l:w2 (b.getD (at_+a) R=R->jm (b.drop at_)=R):=λh=>zb (k:=a) (by rw[g.out];exact(B.out a).1 D) (by rw[o.out];exact h);have m:w2 (b.getD (at_+a) R=wP->∀d,d<a+1->(b.drop at_).getD d R=wP):=by
    show _->_;intro h d j;rcases Nat.lt_or_ge d a with p|p
    ·exact k.out d p
    ·obtain rfl:d=a:=oO;rw[o.out];exact h
   clear u;generalize b.getD (at_+a) R=y at*;cases y with
   |true=>
    have E:=aa (m.out rfl);clear l m;go_wp2;exact⟨⟨a+1,by omega,by go_num,E.out⟩,by simp[intOf];omega⟩
   |false=>
    have F:=aa (l.out rfl);clear l m;go_wp2;go_ret;exact⟨by rw[F.out];rfl,rfl⟩
  ·have M:a=q:=by have:=t.out;omega
   have r:w2 (jm (b.drop at_)=decide (q<12)):=by
    show _=_;unfold jm;rw[g.out,all_true (d:=R) (λd j=>k.out d (by rw[g.out]at j;omega)),Bool.and_true]
   clear k;by_cases v:q<12
   ·have C:decide ((q:Int)<12)=wP:=by simp;omega
    go_wp2;go_ret;rw[r.out,y1 v];exact⟨rfl,rfl⟩
   ·have C:decide ((q:Int)<12)=R:=by simp;omega
    go_wp2;go_ret;rw[r.out,decide_eq_false v];exact⟨rfl,rfl⟩
abbrev dp (at_ mode:Nat) (A:xv Addr) (k c:Nat):List xf:=[I J (at_:Int),I J (mode:Int),.slice A k c]
theorem cR:(prog.info? 163).map (·.size)=gk 3:=oK
theorem kg (at_ mode:Nat) (A:xv Addr) (k c:Nat):∀v∈dp at_ mode A k c,v.oneCell'=wP:=by
 intro v a;simp only[dp,List.mem_cons,List.not_mem_nil,or_false]at a;rcases a with rfl|rfl|rfl<;>rfl
def Kl:Obj->Bool
 |.cells _ a _=>!(a==5)
 |_=>wP
def Kp (w b:wR):Prop:=w.heap.size<=b.heap.size/\∀(k:Nat) (a:Obj),w.heap[k]?=gk a->Kl a=wP->b.heap[k]?=gk a
theorem Kp.refl (w:wR):Kp w w:=⟨Nat.le_refl _,λ_ _ h _=>h⟩
theorem Kp.trans {a b c:wR} (h:Kp a b) (e:Kp b c):Kp a c:=⟨x3 h.1 e.1,λk d g f=>e.2 k d (h.2 k d g f) f⟩
theorem Kp.below {w W:wR} (h:af w W):Kp w W:=⟨h.size,λk b a _=>(h.block k (ay a)).trans a⟩
theorem Kp.eN {wa wr:wR} (h:Kp wa wr) (a:Addr) (e:wa.heap.size<=a.block) (u:xf):Kp wa (wr.setCell a u):=
 ⟨by simpa using h.1,λk c b d=>by
  have:=ay b
  exact(HP _ _ _ _ oO).trans (h.2 k c b d)⟩
theorem Kp.setRow {wa wr:wR} (h:Kp wa wr) (a:Nat) (hg:wa.heap.size<=a) (c:Array xf):Kp wa (wr.setRow a c):=
 ⟨by rw[size_setRow];exact h.1,λk d b e=>by
  have:=ay b
  exact(setRow_other wr a k c oO).trans (h.2 k d b e)⟩
theorem Kp.grown {wa wr W:wR} (h:Kp wa wr) {n:Nat} {v:xf} {k:Nat} {f:List xf} (g:wr.ownsRow n 5 1 v k f) (hg:wr.grownBy W v.ownBlock):Kp wa W:=
 ⟨x3 h.1 hg.size,λq d i c=>by
  have b:=h.2 q d i c;refine(hg.block q (ay b) (λe=>?_)).trans b;obtain⟨j,a⟩:=ou g e.symm;rw[b]at a;injection a with a;subst a
  exact absurd c (by simp[Kl])⟩
theorem ag.kp {w d:wR} {a:Nat} {c:Array xf} {b:TypeId} (h:ag w a c b) (e:Kp w d) (f:Kl (.cells c b (0,0))=wP):ag d a c b:=e.2 a _ h f
structure fU (n:Nat) (w wa wr:wR) (X Y:Nat) (at_ mode:Nat) (out:List HH) (Ao:xv Addr) (co:Nat):Prop where
 B:Below n w wr
 xr:ag wr X (dp at_ mode Ao out.length co).toArray 163
 yr:ag wr Y (dp 0 0 U 0 0).toArray 163
 O:wr.ownsRow n 5 1 (.slice Ao out.length co) out.length (out.map vU)
 K:Kp wa wr
 n1:wa.heap.size<=X/\wa.heap.size<=Y
 n2:n=w.heap.size
 n3:n<=wa.heap.size
 ne:X≠Y
section
variable {n : Nat} {w wa wr W : wR} {X Y at_ mode : Nat} {out : List HH} {Ao : xv Addr} {co : Nat}
theorem fU.ge (h:fU n w wa wr X Y at_ mode out Ao co):n<=wr.heap.size:=by rw[h.n2];exact h.B.size
theorem fU.nX (h:fU n w wa wr X Y at_ mode out Ao co):n<=X:=x3 h.n3 h.n1.1
theorem fU.nY (h:fU n w wa wr X Y at_ mode out Ao co):n<=Y:=x3 h.n3 h.n1.2
theorem fU.below (h:fU n w wa wr X Y at_ mode out Ao co) (a:af wr W):fU n w wa W X Y at_ mode out Ao co:=
 ⟨h.B.trans (a.mono h.ge),h.xr.below a,h.yr.below a,aq h.O a,h.K.trans (Kp.below a),h.n1,h.n2,h.n3,h.ne⟩
theorem fU.facts (h:fU n w wa wr X Y at_ mode out Ao co):wr.cell? ⟨X,0,U⟩=gk (I J (at_:Int))/\wr.cell? ⟨X,1,U⟩=gk (I J (mode:Int))/\wr.cell? ⟨X,2,U⟩=gk (.slice Ao out.length co)/\wr.frozen? ⟨X,0,U⟩=R/\wr.frozen? ⟨X,1,U⟩=R/\wr.frozen? ⟨X,2,U⟩=R:=
 ⟨h.xr.cell 0 _ rfl,h.xr.cell 1 _ rfl,h.xr.cell 2 _ rfl,CH _ _ _ _ _ h.xr,CH _ _ _ _ _ h.xr,CH _ _ _ _ _ h.xr⟩
theorem fU.load (h:fU n w wa wr X Y at_ mode out Ao co):∀a v,(dp at_ mode Ao out.length co)[a]?=gk v->wr.cell? ((⟨X,0,U⟩:Addr).add a)=gk v:=gE h.xr.cells
theorem fU.setAt (h:fU n w wa wr X Y at_ mode out Ao co) (a:Nat):fU n w wa (wr.setCell ⟨X,0,U⟩ (I J (a:Int))) X Y a mode out Ao co:=
 ⟨h.B.setCell h.nX _,h.xr.eN (i:=0) _,(HP _ _ _ _ (Ne.symm h.ne)).trans h.yr,jj h.O _ h.xr.tag oD _,h.K.eN _ h.n1.1 _,h.n1,h.n2,h.n3,h.ne⟩
theorem fU.P9 (h:fU n w wa wr X Y at_ mode out Ao co) (a:Nat):fU n w wa (wr.setCell ⟨X,1,U⟩ (I J (a:Int))) X Y at_ a out Ao co:=
 ⟨h.B.setCell h.nX _,h.xr.eN (i:=1) _,(HP _ _ _ _ (Ne.symm h.ne)).trans h.yr,jj h.O _ h.xr.tag oD _,h.K.eN _ h.n1.1 _,h.n1,h.n2,h.n3,h.ne⟩
theorem fU.grow (h:fU n w wa wr X Y at_ mode out Ao co) (hg:wr.grownBy W (HM Ao out.length co).ownBlock) {c:xv Addr} {d:Nat} {a:List HH}
 (i:W.ownsRow n 5 1 (.slice c a.length d) a.length (a.map vU)):W.cell? ⟨X,2,U⟩=gk (.slice Ao out.length co)/\W.frozen? ⟨X,2,U⟩=R/\fU n w wa (W.setCell ⟨X,2,U⟩ (.slice c a.length d)) X Y at_ mode a c d:=by
 have f:∀q,(HM Ao out.length co).ownBlock=gk q->Tag wr q 5:=λq hq=>ou h.O hq;have nX:gk X≠(HM Ao out.length co).ownBlock:=λe=>(f X e.symm).ne h.xr.tag oD rfl;have nY:gk Y≠(HM Ao out.length co).ownBlock:=λe=>(f Y e.symm).ne h.yr.tag oD rfl;have b:ag W X (dp at_ mode Ao out.length co).toArray 163:=(hg.block _ (ay h.xr) nX).trans h.xr;have g:ag W Y (dp 0 0 U 0 0).toArray 163:=(hg.block _ (ay h.yr) nY).trans h.yr;refine⟨b.cell 2 _ rfl,CH _ _ _ _ _ b,(h.B.grown hg h.ge (λq hq=>(h.O.lt q hq).1)).setCell h.nX _,b.eN (i:=2) _,(HP _ _ _ _ (Ne.symm h.ne)).trans g,jj i _ b.tag oD _,(h.K.grown h.O hg).eN _ h.n1.1 _,h.n1,h.n2,h.n3,h.ne⟩
theorem fU.fin (h:fU n w wa wr X Y at_ mode out Ao co):ag (wr.setRow Y (splice (dp 0 0 U 0 0).toArray.toList 0 (dp at_ mode Ao out.length co)).toArray) Y (dp at_ mode Ao out.length co).toArray 163/\(Below n w (wr.setRow Y (splice (dp 0 0 U 0 0).toArray.toList 0 (dp at_ mode Ao out.length co)).toArray)/\Kp wa (wr.setRow Y (splice (dp 0 0 U 0 0).toArray.toList 0 (dp at_ mode Ao out.length co)).toArray))/\
 (wr.setRow Y (splice (dp 0 0 U 0 0).toArray.toList 0 (dp at_ mode Ao out.length co)).toArray).ownsRow n 5 1 (.slice Ao out.length co) out.length (out.map vU):=by
 rw[jR _ (dp at_ mode Ao out.length co) (by rfl)];refine⟨h.yr.set _,⟨below_setRow h.B h.nY _,h.K.setRow _ h.n1.2 _⟩,h.O.1,?_⟩;rcases h.O.2 with b|⟨a,cap,d,f,b,c,g⟩
 ·exact .inl b
 ·refine .inr ⟨a,cap,d,f,b,?_,g⟩;have i:a≠Y:=λe=>Tag.ne (⟨d,c⟩:Tag wr a 5) h.yr.tag oD e;exact(setRow_other wr Y a _ i).trans c
end
theorem eO {fn:Func} {e u:Tmp} {a:TypeId} (h:fn.results=#[.cell e a,.tmp u]) (tmps:Array xf) (w:wR) (c:Nat) (b:List xf) (d:TypeDesc) (v:xf)
 (f:tmps.getD e undef= .pointer (gk ⟨c,0,U⟩)) (g:tmps.getD u undef=v) (hg:an w c b)
 (i:prog.underlying a=gk d) (j:rO d=wP) (k:(prog.info? a).map (·.size)=gk b.length):
 (results fn tmps).run w1 w= .ok (.tuple #[.agg b.toArray,v]) w:=by
 have hl:=gQ (P:=w1) w a d ⟨c,0,U⟩ b i j k (gE hg);rw[results_cell_tmp h,f,g];simp[asAddr,hl]
def wV (n:Nat) (w wa:wR) (b:List Bool) (a:Int×List Bool×List HH×Nat) (e:Ending) (d:wR):Prop:=∃(c f n2:Nat) (g:xv Addr) (i:Nat),
 (e= .returned (.tuple #[.agg #[I J (c:Int),I J (f:Int),.slice g n2 i],I J a.1])/\c<=b.length)/\(Below n w d/\Kp wa d)/\(a.1=0->c<=b.length/\b.drop c=a.2.1/\f=a.2.2.2/\n2=a.2.2.1.length/\d.ownsRow n 5 1 (.slice g n2 i) n2 (a.2.2.1.map vU))
theorem fU.sr {n:Nat} {w wa wr:wR} {X Y at_ mode:Nat} {out:List HH} {Ao:xv Addr} {co:Nat} (h:fU n w wa wr X Y at_ mode out Ao co) {A:xv Addr} {a c:Nat} {b:List Bool} (d:SR vB R w A a c b):SR vB R wr A a c b:=d.below (by have:=h.B;rw[h.n2]at this;exact this)
theorem jM (A:xv Addr) (n c:Nat) (b:List Bool) (at_ m:Nat) (a M:Int) (w:wR) (d:a=(at_:Int)) (f:M=(m:Int)) (hb:SR vB R w A n c b) (g:at_<=n) (i:m<=40) (hn:n<=1048576):
 wS w1 176 #[.slice A n c,I J a,I J M] w λe j=>e= .returned (.tuple #[I J (aK (b.drop at_) 0 m).1,I J (aK (b.drop at_) 0 m).2])/\j=w:=by
 subst d f;exact Mn A n c b at_ m w hb g i hn
theorem fU.start {n:Nat} {w wa:wR} {at_ mode:Nat} {out:List HH} {Ao:xv Addr} {co:Nat} (hB:Below n w wa) (b:wa.ownsRow n 5 1 (.slice Ao out.length co) out.length (out.map vU)) (hn:n=w.heap.size):
 fU n w wa ((wa.alloc (.cells #[I J (at_:Int),I J (mode:Int),.slice Ao out.length co] 163)).alloc (.cells #[I J 0,I J 0,.slice U 0 0] 163)) wa.heap.size (wa.heap.size+1) at_ mode out Ao co:=by
 have a:n<=wa.heap.size:=by rw[hn];exact hB.size
 have e2:(wa.alloc (.cells #[I J (at_:Int),I J (mode:Int),.slice Ao out.length co] 163)).heap.size=wa.heap.size+1:=by simp
 refine⟨(hB.alloc a _).alloc (by rw[e2];omega) _,(ag.new wa _ _ _ rfl).below (ax _ _),ag.new _ _ _ _ e2.symm,eR (eR b _) _,(Kp.below (ax _ _)).trans (Kp.below (ax _ _)),⟨Nat.le_refl _,by omega⟩,hn,a,by omega⟩
theorem Gr (n:Nat) (w wa:wR) (A:xv Addr) (j D:Nat) (b:List Bool) (at_ mode:Nat) (out:List HH) (Ao:xv Addr) (co:Nat) (Q:SR vB R w A j D b) (hB:Below n w wa) (ad:wa.ownsRow n 5 1 (.slice Ao out.length co) out.length (out.map vU)) (hn:n=w.heap.size) (bf:at_<=j) (O:j<=1048576) (a8:out.length<=80000000):
 wS w1 177 #[.slice A j D,.agg #[I J (at_:Int),I J (mode:Int),.slice Ao out.length co]] wa (wV n w wa b ((cB (b.drop at_) out).1,(cB (b.drop at_) out).2.1,(cB (b.drop at_) out).2.2,mode)):=by
 have H:=aa Q;have t:w2 (j=b.length):=Q.hn;have bo:=aa a8;have u:w2 (fU n w wa ((wa.alloc (.cells #[I J (at_:Int),I J (mode:Int),.slice Ao out.length co] 163)).alloc (.cells #[I J 0,I J 0,.slice U 0 0] 163)) wa.heap.size (wa.heap.size+1) at_ mode out Ao co):=fU.start hB ad hn;clear Q hB ad a8 hn;go_enter func177,ntmps177;go_wp2_with fail
 obtain⟨X,S⟩:∃X,X=wa.heap.size:=⟨_,rfl⟩;obtain⟨Y,T⟩:∃Y,Y=wa.heap.size+1:=⟨_,rfl⟩;rw[<-T,<-S]at u;rw[<-T,<-S];generalize((wa.alloc (.cells #[I J (at_:Int),I J (mode:Int),.slice Ao out.length co] 163)).alloc (.cells #[I J 0,I J 0,.slice U 0 0] 163))=al at*;clear S T;obtain⟨am,ap,av,a0,a1,a2⟩:=u.out.facts;refine(jM A j D b at_ 5 _ 5 _ rfl rfl (u.out.sr H.out) bf oO O).mono ?_;rintro e b1 ⟨rfl,a9⟩;rw[a9];clear a9;by_cases C:(b.drop at_).length<5
 ·have V:w2 (aK (b.drop at_) 0 5=(0,10)):=by show _=_;unfold aK;rw[xl oO]
  have o:w2 (cB (b.drop at_) out=(10,b.drop at_,out)):=by show _=_;unfold cB;rw[xl C]
  clear C;rw[V.out]
  go_wp2_with(first
   |((with_reducible show wpList _ _ _ (⟨_,Op.load 163 _,_,_,_,_⟩::_) _ _);refine aP rfl 163 _ rfl _ B0 rfl ⟨X,0,U⟩ (dp at_ mode Ao out.length co) cR rfl u.out.load ?_)
   |((with_reducible show wpList _ _ _ (⟨_,Op.store 163 _ _,_,_,_,_⟩::_) _ _);refine aZ rfl 163 _ _ rfl 163 Y 0 _ (dp at_ mode Ao out.length co) rfl rfl u.out.yr cR (by show 3<=3;omega) (kg _ _ _ _ _) ?_))
  (try simp only[Exit.inBlock,Exit.then])
  refine bodyPost_ret (eO rfl _ _ Y (dp at_ mode Ao out.length co) _ (I J 10) rfl rfl u.out.fin.1.cells B0 rfl cR) rfl ?_;exact⟨at_,mode,out.length,Ao,co,⟨by rw[o.out],by rw[<-t.out];omega⟩,u.out.fin.2.1,λh=>by rw[o.out]at h;exact absurd h oS⟩
 ·obtain⟨k,K⟩:∃k,k=ba (b.drop at_) 0 5:=⟨_,rfl⟩;have cb:k<32:=by rw[K];exact eS (b.drop at_) 0 5
  have V:w2 (aK (b.drop at_) 0 5=(((k:Nat):Int),0)):=by show _=_;unfold aK;rw[w6 oO,K]
  have o:w2 (cB (b.drop at_) out=if k=0 then(if(b.drop (at_+5)).length<11 then(10,b.drop (at_+5),out)else dA (ba (b.drop (at_+5)) 0 11+31) (b.drop (at_+5+11)) out)else dA k (b.drop (at_+5)) out):=by
   show _=_;unfold cB;rw[w6 C,K,UW,UW]
  have bs:at_+5<=j:=by rw[B1,<-t.out]at C;omega
  have v:w2 (fU n w wa (al.setCell ⟨X,0,U⟩ (I J ((at_:Int)+5))) X Y (at_+5) mode out Ao co):=by
   have h:=u.out.setAt (at_+5);rw[Vu]at h;exact h
  clear C K;rw[V.out];by_cases k0:k=0
  ·subst k0;go_wp2_with fail
   refine(jM A j D b (at_+5) 11 _ 11 _ (by rw[Vu];rfl) rfl (v.out.sr H.out) bs oO O).mono ?_;rintro e ac ⟨rfl,s⟩;rw[s];clear s;obtain⟨b2,p1,p2,b3,b4,b5⟩:=v.out.facts;by_cases G:(b.drop (at_+5)).length<11
   ·have ab:w2 (aK (b.drop (at_+5)) 0 11=(0,10)):=by show _=_;unfold aK;rw[xl oO]
    have F:w2 (cB (b.drop at_) out=(10,b.drop (at_+5),out)):=by show _=_;rw[o.out,xl (by trivial),xl G]
    clear G o;rw[ab.out]
    go_wp2_with(first
     |((with_reducible show wpList _ _ _ (⟨_,Op.load 163 _,_,_,_,_⟩::_) _ _);refine aP rfl 163 _ rfl _ B0 rfl ⟨X,0,U⟩ (dp (at_+5) mode Ao out.length co) cR rfl v.out.load ?_)
     |((with_reducible show wpList _ _ _ (⟨_,Op.store 163 _ _,_,_,_,_⟩::_) _ _);refine aZ rfl 163 _ _ rfl 163 Y 0 _ (dp (at_+5) mode Ao out.length co) rfl rfl v.out.yr cR (by show 3<=3;omega) (kg _ _ _ _ _) ?_))
    (try simp only[Exit.inBlock,Exit.then])
    refine bodyPost_ret (eO rfl _ _ Y (dp (at_+5) mode Ao out.length co) _ (I J 10) rfl rfl v.out.fin.1.cells B0 rfl cR) rfl ?_;exact⟨(at_+5),mode,out.length,Ao,co,⟨by rw[F.out],by rw[<-t.out];omega⟩,v.out.fin.2.1,λh=>by rw[F.out]at h;exact absurd h oS⟩
   ·obtain⟨g,L⟩:∃g,g=ba (b.drop (at_+5)) 0 11:=⟨_,rfl⟩;have b9:g<2048:=by rw[L];exact eS (b.drop (at_+5)) 0 11
    have ab:w2 (aK (b.drop (at_+5)) 0 11=(((g:Nat):Int),0)):=by show _=_;unfold aK;rw[w6 oO,L]
    have F:w2 (cB (b.drop at_) out=dA (g+31) (b.drop (at_+5+11)) out):=by show _=_;rw[o.out,xl (by trivial),w6 G,L]
    have ce:at_+5+11<=j:=by rw[B1,<-t.out]at G;omega
    have bt:w2 (fU n w wa ((al.setCell ⟨X,0,U⟩ (I J ((at_:Int)+5))).setCell ⟨X,0,U⟩ (I J ((at_:Int)+5+11))) X Y (at_+5+11) mode out Ao co):=by
     have h:=v.out.setAt (at_+5+11);rw[Vu,Vu]at h;exact h
    clear G L o;rw[ab.out];go_wp2;go_loopw [8] (λB wr=>∃(f a:Nat) (d:List HH) (l:xv Addr) (m:Nat),f<=(g+31)/\B=I J f/\a<=j/\w2 (fU n w wa wr X Y a mode d l m)/\w2 (d.length=out.length+f)/\w2 (dA ((g+31)-f) (b.drop a) d=cB (b.drop at_) out)) (λB _=>(g+31)-(intOf B).toNat)
    case atStart=>exact⟨0,(at_+5+11),out,Ao,co,x1 _,rfl,by omega,bt.out,rfl,by show _=_;rw[Nat.sub_zero];exact F.out.symm⟩
    case round=>
     obtain⟨f,a,d,l,m,bi,rfl,N,i,P,y⟩:=hrel;obtain⟨am,ap,av,a0,a1,a2⟩:=i.out.facts;by_cases C:f<(g+31)
     ·have E:w2 (dA ((g+31)-f) (b.drop a) d=if(b.drop a).length<8 then(10,b.drop a,d)else dA ((g+31)-(f+1)) ((b.drop a).drop 8) (d++[UInt8.ofNat (ba (b.drop a) 0 8)])):=by
       show _=_;obtain⟨q,hq⟩:∃q,q=(g+31)-(f+1):=⟨_,rfl⟩;rw[show(g+31)-f=q+1 from by omega,<-hq];rfl
      by_cases z:(b.drop a).length<8
      ·exact RP
      ·obtain⟨c,hc⟩:∃c,c=ba (b.drop a) 0 8:=⟨_,rfl⟩;have bb:c<256:=by rw[hc];exact eS (b.drop a) 0 8
       have M:w2 (aK (b.drop a) 0 8=(((c:Nat):Int),0)):=by show _=_;unfold aK;rw[w6 oO,hc]
       have r:w2 (dA ((g+31)-(f+1)) (b.drop (a+8)) (d++[UInt8.ofNat c])=cB (b.drop at_) out):=by show _=_;rw[<-y.out,E.out,w6 z,hc,UW]
       exact RF
     ·obtain rfl:f=(g+31):=oO;exact SV
  ·have F:w2 (cB (b.drop at_) out=dA k (b.drop (at_+5)) out):=by show _=_;rw[o.out,w6 k0]
   have b6:((k:Int)==0)=R:=by rw[w4];omega
   clear o k0;go_wp2;go_loopw [8] (λB wr=>∃(f a:Nat) (d:List HH) (l:xv Addr) (m:Nat),f<=k/\B=I J f/\a<=j/\w2 (fU n w wa wr X Y a mode d l m)/\w2 (d.length=out.length+f)/\w2 (dA (k-f) (b.drop a) d=cB (b.drop at_) out)) (λB _=>k-(intOf B).toNat)
   case atStart=>exact⟨0,(at_+5),out,Ao,co,x1 _,rfl,by omega,v.out,rfl,by show _=_;rw[Nat.sub_zero];exact F.out.symm⟩
   case round=>
    obtain⟨f,a,d,l,m,bi,rfl,N,i,P,y⟩:=hrel;obtain⟨am,ap,av,a0,a1,a2⟩:=i.out.facts;by_cases C:f<k
    ·have E:w2 (dA (k-f) (b.drop a) d=if(b.drop a).length<8 then(10,b.drop a,d)else dA (k-(f+1)) ((b.drop a).drop 8) (d++[UInt8.ofNat (ba (b.drop a) 0 8)])):=by
      show _=_;obtain⟨q,hq⟩:∃q,q=k-(f+1):=⟨_,rfl⟩;rw[show k-f=q+1 from by omega,<-hq];rfl
     by_cases z:(b.drop a).length<8
     ·exact RP
     ·obtain⟨c,hc⟩:∃c,c=ba (b.drop a) 0 8:=⟨_,rfl⟩;have bb:c<256:=by rw[hc];exact eS (b.drop a) 0 8
      have M:w2 (aK (b.drop a) 0 8=(((c:Nat):Int),0)):=by show _=_;unfold aK;rw[w6 oO,hc]
      have r:w2 (dA (k-(f+1)) (b.drop (a+8)) (d++[UInt8.ofNat c])=cB (b.drop at_) out):=by show _=_;rw[<-y.out,E.out,w6 z,hc,UW]
      exact RF
    ·obtain rfl:f=k:=oO;exact SV
end
end Go.Proofs.YtmnlkganmgcpbaaGreatDoor
