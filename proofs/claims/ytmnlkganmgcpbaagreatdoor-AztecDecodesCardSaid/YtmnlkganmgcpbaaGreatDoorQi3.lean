import Derived.Test.YtmnlkganmgcpbaaGreatDoorQi2
import Derived.Laws.CopyOwn
import Derived.Laws.CopyRow
import Derived.Deep.WholeRow
set_option maxRecDepth 100000
set_option maxHeartbeats 4000000
set_option linter.unusedVariables false
set_option linter.unusedSectionVars false
set_option linter.unusedSimpArgs false
set_option linter.defProp false
open Go.Value renaming int->I
open Go.IntKind renaming i64->J,wrap_i64->VM
open Bool renaming false->R,true->wP
open Option renaming none->U,some->gk
open Go renaming World->wR,Calls->wS,Value->xf,wpList->y7,TypeId->Ar,info_parts->CB,maxLen->HG,wpList_plain->UG,run_underlying->Va,typeInfo->VP,TypeDesc->Wo
open Go.Proofs.Tryz renaming prog->w1,underlying64->z1,underlying26->HE,ntmps32->Xa
open Go.RowKit renaming Hid->w2,wrap64->UN
open Go.RowKit.Below renaming refl->w3
open _root_ renaming beq_eq_false_iff_ne->w4,if_neg->w6,if_pos->xl,Option->xv,Array->z8
open Nat renaming le_refl->w5,zero_le->x1,pow_le_pow_right->C3,pow_succ->H0,mod_two_eq_zero_or_one->PL,strongRecOn->R4,xor_assoc->Vx,eq_of_testBit_eq->Wp,testBit_xor->Wt,xor_lt_two_pow->WI,lt_of_le_of_lt->WJ,testBit_zero->W3,testBit_succ->W4
open List renaming length_append->w9,getD->x4,append_assoc->y6,length_take->Ai,append_nil->A5,length_drop->B1,getElem?_take_of_lt->W0
open Go.Result renaming andThen_ok->y2,andThen->Wf
open Go.Sem renaming run_bind->Aq,run_pure->AT
open Int renaming eq_ofNat_of_zero_le->Av
open BitVec renaming ofInt->VO
open Go.Proofs.Tryz
namespace Go.Proofs.YtmnlkganmgcpbaaGreatDoor
section
open Go.RowKit
def ar (a:Nat):Nat:=if a=4 then 4 else 5
theorem fY (m:Nat) (w:wR):
 wS w1 132 #[I J m] w λe a=>e= .returned (I J ((ar m:Nat):Int))/\a=w:=by
 by_cases h:m=4
 ·subst h;go_enter func132,ntmps132;go_wp2;go_ret;exact⟨rfl,rfl⟩
 ·have c:((m:Int)==4)=R:=by rw[w4];omega
  have b:w2 (ar m=5):=by show _=_;unfold ar;rw[w6 h]
  clear h;go_enter func132,ntmps132;go_wp2;go_ret;exact⟨by rw[b.out];rfl,rfl⟩
def jy (b:List Bool) (at_:Nat):Nat:=if at_<b.length/\b.getD at_ R=R then 0 else 1
theorem Cl (A:xv Addr) (n c:Nat) (b:List Bool) (k:Nat) (w:wR) (hb:SR vB R w A n c b) (m:k<=100000000):
 wS w1 82 #[.slice A n c,I J k] w λe g=>e= .returned (I J ((jy b k:Nat):Int))/\g=w:=by
 have a:w2 (n=b.length):=hb.hn;have i:=aa hb.rd;clear hb;by_cases l:k<n
 ·obtain⟨o,rfl,q,f⟩:=i.out (by rw[<-a.out];omega);have p:=f k (by rw[<-a.out];omega);have d:w2 (jy b k=if b.getD k R=R then 0 else 1):=by
   show _=_;unfold jy;have j:k<b.length:=by rw[<-a.out];exact l
   simp only[j,true_and]
  clear f;generalize b.getD k R=y at*;cases y with
  |false=>
   go_enter func82,ntmps82;go_wp2;go_ret;exact⟨by rw[d.out];rfl,rfl⟩
  |true=>
   go_enter func82,ntmps82;go_wp2;go_ret;exact⟨by rw[d.out];rfl,rfl⟩
 ·have d:w2 (jy b k=1):=by
   show _=_;unfold jy;rw[w6];have:=a.out;omega
  go_enter func82,ntmps82;go_wp2;go_ret;exact⟨by rw[d.out];rfl,rfl⟩
abbrev vN:Nat->xf:=λn=>Value.int .i64 (n:Int)
theorem uf (x:Nat):(vN x).oneCell'=wP:=rfl
theorem sx (b:List Bool) (k:Nat):jy b k<=1:=by unfold jy;split<;>omega
def q7 (b:List Bool) (k:Nat):Nat->Nat
 |0=>0
 |a+1=>2* q7 b k a+jy b (k+a)
theorem Ms (b:List Bool) (k a:Nat):q7 b k a<2^a:=by
 induction a with
 |zero=>simp[q7]
 |succ a c=>
  have:=sx b (k+a);show 2* q7 b k a+jy b (k+a)<2^(a+1);rw[H0];omega
def kx (b:List Bool) (s k:Nat):Nat×Nat:=
 if q7 b k (s-1)=0 then(1,k+(s-1))else if q7 b k (s-1)=2^(s-1)-1 then(2* q7 b k (s-1),k+(s-1))else(2* q7 b k (s-1)+jy b (k+(s-1)),k+s)
def eE (b:List Bool) (s:Nat):Nat->Nat->List Nat
 |0,_=>[]
 |f+1,k=>if k<b.length then(kx b s k).1::eE b s f (kx b s k).2 else[]
def bm (b:List Bool) (s:Nat):List Nat:=eE b s b.length 0
theorem BU (b:List Bool) (s f k:Nat) (h:b.length<=k):eE b s f k=[]:=by
 cases f with
 |zero=>rfl
 |succ f=>unfold eE;rw[w6 oO]
theorem Jq (b:List Bool) (s f k:Nat) (hs:2<=s) (h:k<b.length) (c:b.length<=f+k):∃a,eE b s f k=(kx b s k).1::eE b s a (kx b s k).2/\b.length<=a+(kx b s k).2:=by
 cases f with
 |zero=>omega
 |succ f=>
  refine⟨f,?_,?_⟩
  ·show(if k<b.length then _ else _)=_;rw[xl h]
  ·have:k+1<=(kx b s k).2:=by
    unfold kx;split
    ·show k+1<=k+(s-1);omega
    ·split
     ·show k+1<=k+(s-1);omega
     ·show k+1<=k+s;omega
   omega
theorem oc {s:Nat} (h:s<=12):2^s<=4096:=by
 have:=C3 (n:=2) oO h;simpa using this
theorem xV {j:Nat} (h:j<=12):UN (UN ((2:Int)^j)-1)=((2^j-1:Nat):Int):=by
 have a:(2:Int)^j=((2^j:Nat):Int):=by simp
 have b:=oc h;have c:1<=2^j:=Nat.one_le_two_pow;rw[a];have e1:UN ((2^j:Nat):Int)=((2^j:Nat):Int):=by unfold UN;omega
 have e2:UN (((2^j:Nat):Int)-1)=((2^j:Nat):Int)-1:=by unfold UN;omega
 rw[e1,e2];omega
theorem Kx (A:xv Addr) (n c s:Nat) (b:List Bool) (w:wR) (hb:SR vB R w A n c b) (ap:2<=s) (av:s<=12) (hn:n<=1048576):
 wS w1 32 #[.slice A n c,I J s] w λe l=>∃v,e= .returned (.tuple #[v,I J 0])/\SG vN 0 l v (bm b s)/\af w l:=by
 obtain⟨G,H,N,O,P⟩:=CB cT;have W:=aa hb;have p:w2 (n=b.length):=hb.hn;obtain⟨j,Y⟩:∃j,j=s-1:=⟨_,rfl⟩;have bf:((s:Int)-1)=(j:Int):=oO;have bi:j<=11:=oO;have bo:1<=j:=oO;have t:=aa Y;have bq:decide ((s:Int)<2)=R:=by simp;omega
 have bt:decide ((12:Int)<(s:Int))=R:=by simp;omega
 clear hb Y ap av;go_enter func32,Xa;go_wp2;go_loopw [6,7] (λa0 q wr=>∃(k f:Nat) (g:List Nat),q=I J k/\k<=n+12/\w2 (OG vN 3 w wr a0 g)/\w2 (g.length<=k)/\w2 (g++eE b s f k=bm b s)/\w2 (n<=f+k)) (λ_ q _=>n+12-(intOf q).toNat)
 case atStart=>exact⟨0,b.length,[],rfl,by omega,OG.start _ _,w5 _,rfl,by show _<=_;rw[p.out];omega⟩
 case round=>
  obtain⟨k,f,g,rfl,bb,L,D,E,hF⟩:=hrel;by_cases a8:k<n
  ·go_wp2;obtain⟨M,rfl⟩:∃M:wR,M=wr:=⟨_,rfl⟩;go_loopw [7,8,24] (λa1 a2 q wr=>∃a K x:Nat,a<=j/\K<=n+12/\x<=4096/\a1=I J K/\a2=I J x/\q=I J a/\w2 (af M wr)/\w2 (K=k+a)/\w2 (x=q7 b k a)) (λ_ _ q _=>j-(intOf q).toNat)
   case atStart=>exact⟨0,k,0,x1 _,by omega,by omega,rfl,rfl,rfl,w3 _ _,rfl,rfl⟩
   case round=>
    obtain⟨a,K,x,a3,bd,a4,rfl,rfl,rfl,Z,d,ab⟩:=hrel;have i:=aa (L.out.below Z.out);by_cases a9:a<j
    ·have a5:=sx b K;have ac:w2 (2* x+jy b K=q7 b k (a+1)):=by
      show _=_;rw[ab.out,d.out];rfl
     have bs:2* x+jy b K<=4096:=by
      rw[ac.out];have:=Ms b k (a+1);have:=oc (s:=a+1) oO;omega
     have Q:w2 (wS w1 82 #[.slice A n c,I J K] wr λe l=>e= .returned (I J ((jy b K:Nat):Int))/\l=wr):=Cl A n c b K wr (W.out.below i.out.B) oO;generalize jy b K=y at*;go_wp2_with(go_at_call 82;refine Q.out.mono ?_;rintro e l ⟨rfl,rfl⟩)
     exact⟨⟨a+1,K+1,2* x+y,by omega,by have:=d.out;omega,by omega,by go_num,by go_num,by go_num,Z.out,by rw[d.out];rfl,ac.out⟩,by simp[intOf];omega⟩
    ·obtain rfl:a=j:=oO;have S:w2 (x=q7 b k (s-1)):=by show _=_;rw[ab.out,t.out]
     have T:w2 (∃m,eE b s f k=(kx b s k).1::eE b s m (kx b s k).2/\b.length<=m+(kx b s k).2):=Jq b s f k (by have:=t.out;omega) (by rw[<-p.out];exact a8) (by rw[<-p.out];exact hF.out);have u:w2 (g.length<=1048577):=by have:=D.out;show _<=_;omega
     by_cases V:x=0
     ·subst V;have r:w2 (kx b s k=(1,K)):=by
       show _=_;unfold kx;rw[<-S.out,xl rfl,d.out,t.out]
      clear a4 a3 a9;go_wp2_with(at_builtin;refine aY (f:=vN) (d:=0) uf rfl _ _ _ rfl w.heap.size 3 G _ 8 z1 H N O P rfl _ g.length g rfl ((aq i.out.O (w3 _ _)).alloc _) (gk ⟨wr.heap.size,0,U⟩) 1 1 [1] rfl rfl (RG.one _ _ _ _ rfl) (by unfold HG;have:=u.out;omega) (by have:=u.out;omega) (by have:=i.out.B.size;simp;omega) ?_;intro ad al o hg;have z:=aa (i.out.grow (ax _ _) o hg);clear o hg)
      obtain⟨m,e1,e2⟩:=T.out;rw[r.out]at e1 e2;refine⟨⟨K,m,g++[1],rfl,by omega,z.out,by rw[w9];have:=D.out;have:=d.out;show _+1<=K;omega,by rw[y6];have h:=E.out;rw[e1]at h;exact h,by show n<=_;rw[p.out];exact e2⟩,?_⟩;have:=d.out;simp[intOf];omega
     ·have be:((x:Int)==0)=R:=by rw[w4];omega
      have F:=xV (j:=a) oO;by_cases C:x=2^a-1
      ·have a6:((x:Int)==UN (UN (2^a)-1))=wP:=by rw[F,C];simp
       have r:w2 (kx b s k=(2* x,K)):=by
        show _=_;unfold kx;rw[<-S.out,w6 V,<-t.out,xl C,d.out]
       obtain⟨X,B⟩:∃X,X=2* x:=⟨_,rfl⟩;have e2:2* (x:Int)=(X:Int):=oO;rw[<-B]at r;clear F C B;go_wp2_with(at_builtin;refine aY (f:=vN) (d:=0) uf rfl _ _ _ rfl w.heap.size 3 G _ 8 z1 H N O P rfl _ g.length g rfl ((aq i.out.O (w3 _ _)).alloc _) (gk ⟨wr.heap.size,0,U⟩) 1 1 [X] rfl rfl (RG.one _ _ _ _ rfl) (by unfold HG;have:=u.out;omega) (by have:=u.out;omega) (by have:=i.out.B.size;simp;omega) ?_;intro ad al o hg;have z:=aa (i.out.grow (ax _ _) o hg);clear o hg)
       obtain⟨m,e1,e3⟩:=T.out;rw[r.out]at e1 e3;refine⟨⟨K,m,g++[X],rfl,by have:=d.out;omega,z.out,by rw[w9];have:=D.out;have:=d.out;show _+1<=_;omega,by rw[y6];have h:=E.out;rw[e1]at h;exact h,by show n<=_;rw[p.out];exact e3⟩,?_⟩;have:=d.out;simp[intOf];omega
      ·have a6:((x:Int)==UN (UN (2^a)-1))=R:=by rw[F,w4];omega
       have r:w2 (kx b s k=(2* x+jy b K,K+1)):=by
        show _=_;unfold kx;rw[<-S.out,w6 V,<-t.out,w6 C,<-d.out];have:=t.out;have:=d.out;congr 1;omega
       have a5:=sx b K;have Q:w2 (wS w1 82 #[.slice A n c,I J K] wr λe l=>e= .returned (I J ((jy b K:Nat):Int))/\l=wr):=Cl A n c b K wr (W.out.below i.out.B) oO;clear F C;generalize jy b K=y at*;obtain⟨X,B⟩:∃X,X=2* x+y:=⟨_,rfl⟩;have e2:2* (x:Int)+(y:Int)=(X:Int):=oO;rw[<-B]at r;clear B
       go_wp2_with(first
        |(go_at_call 82;refine Q.out.mono ?_;rintro e l ⟨rfl,am⟩;rw[am];clear am)
        |(at_builtin;refine aY (f:=vN) (d:=0) uf rfl _ _ _ rfl w.heap.size 3 G _ 8 z1 H N O P rfl _ g.length g rfl ((aq i.out.O (w3 _ _)).alloc _) (gk ⟨wr.heap.size,0,U⟩) 1 1 [X] rfl rfl (RG.one _ _ _ _ rfl) (by unfold HG;have:=u.out;omega) (by have:=u.out;omega) (by have:=i.out.B.size;simp;omega) ?_;intro ad al o hg;have z:=aa (i.out.grow (ax _ _) o hg);clear o hg))
       obtain⟨m,e1,e3⟩:=T.out;rw[r.out]at e1 e3;refine⟨⟨K+1,m,g++[X],by go_num,by have:=d.out;omega,z.out,by rw[w9];have:=D.out;have:=d.out;show _+1<=_;omega,by rw[y6];have h:=E.out;rw[e1]at h;exact h,by show n<=_;rw[p.out];exact e3⟩,?_⟩;have:=d.out;simp[intOf];omega
  ·have a7:w2 (g=bm b s):=by
    have h:=E.out;rw[BU b s f k (by rw[<-p.out];omega),A5]at h;exact h
   go_wp2;go_ret2
   exact⟨_,rfl,by rw[<-a7.out];exact L.out.sg,L.out.B⟩
def RT {a:Type} (f:a->xf) (d:a) (w:wR) (L:List a×Int) (e:Ending) (b:wR):Prop:=∃v,e= .returned (.tuple #[v,I J L.2])/\SG f d b v L.1/\af w b
theorem RT.mk {a:Type} {f:a->xf} {d:a} {w b:wR} {cK:List a×Int} {v:xf} {L:List a} {err:Int} (h:cK=(L,err)) (c:SG f d b v L) (hb:af w b):RT f d w cK (.returned (.tuple #[v,I J err])) b:=by
 subst h;exact⟨v,rfl,c,hb⟩
def jk (b:List Bool) (size:Int):List Nat×Int:=
 if size<2\/12<size then([],3)else if 1048576<b.length then([],4)else(bm b size.toNat,0)
theorem Cd (A:xv Addr) (n c:Nat) (size:Int) (b:List Bool) (w:wR) (hb:SR vB R w A n c b):
 wS w1 32 #[.slice A n c,I J size] w (RT vN 0 w (jk b size)):=by
 have hn:n=b.length:=hb.hn;have i:n<=9223372036854775807:=by have:=hb.hm;have:=hb.hc;unfold HG at*;omega
 by_cases d:size<2
 ·have a:w2 (jk b size=([],3)):=by show _=_;unfold jk;rw[xl (.inl d)]
  clear hb hn;go_enter func32,Xa;go_wp2;go_ret2
  exact RT.mk a.out (SG.dw _) (w3 _ _)
 by_cases e:12<size
 ·have a:w2 (jk b size=([],3)):=by show _=_;unfold jk;rw[xl (.inr e)]
  clear hb hn;go_enter func32,Xa;go_wp2;go_ret2
  exact RT.mk a.out (SG.dw _) (w3 _ _)
 by_cases f:n<=1048576
 ·obtain⟨s,rfl⟩:=Av (show 0<=size by omega);have a:jk b s=(bm b s,0):=by unfold jk;rw[w6 oO,w6 oO];rfl
  rw[a];exact Kx A n c s b w hb oO oO f
 ·have a:w2 (jk b size=([],4)):=by show _=_;unfold jk;rw[w6 oO,xl oO]
  have g:decide ((1048576:Int)<(n:Int))=wP:=by simp;omega
  clear hb hn;go_enter func32,Xa;go_wp2;go_ret2
  exact RT.mk a.out (SG.dw _) (w3 _ _)
end
theorem yf (a b:Nat):(a^^^b)%2=(a%2+b%2)%2:=by
 have h:=Wt a b 0;simp only[W3]at h;have c:=PL a;have hb:=PL b;have hc:=PL (a^^^b);rcases c with c|c<;>rcases hb with hb|hb<;>rcases hc with hc|hc<;>simp[c,hb,hc]at h⊢
theorem ym (a b:Nat):(a^^^b)/2=a/2^^^b/2:=by
 apply Wp;intro c;simp[Wt,Nat.testBit_div_two]
theorem rU (a b:Nat):2* (a^^^b)=2* a^^^2* b:=by
 apply Wp;intro c;cases c with
 |zero=>simp[W3,yf]
 |succ c=>simp[W4,ym]
def qa:Nat->Nat->Nat->Nat
 |0,_,_=>0
 |n+1,a,b=>(if b%2=1 then a else 0)^^^2* qa n a (b/2)
theorem kD (n a:Nat):qa n a 0=0:=by
 induction n with
 |zero=>rfl
 |succ n b=>simp[qa,b]
theorem Jf (n m a b:Nat) (hn:b<=n) (d:b<=m):qa n a b=qa m a b:=by
 induction n generalizing m b with
 |zero=>
  obtain rfl:b=0:=oO;rw[kD,kD]
 |succ n c=>
  cases m with
  |zero=>
   obtain rfl:b=0:=oO;rw[kD,kD]
  |succ m=>simp only[qa];rw[c m (b/2) oO oO]
def cj (a b:Nat):Nat:=qa b a b
theorem gS (a:Nat):cj a 0=0:=rfl
theorem fM (a b:Nat):cj a b=(if b%2=1 then a else 0)^^^2* cj a (b/2):=by
 by_cases hb:b=0
 ·subst hb;simp[cj,qa]
 ·obtain⟨c,rfl⟩:∃c,b=c+1:=⟨b-1,by omega⟩;unfold cj;rw[qa];rw[Jf c ((c+1)/2) a ((c+1)/2) oO oO]
theorem vt (a b:Nat):cj a (2* b)=2* cj a b:=by
 rw[fM];simp
theorem tI (a:Nat):cj a 1=a:=by
 rw[fM];simp[gS]
theorem Ck (b:Nat):cj 0 b=0:=by
 induction b using R4 with
 |_ b a=>
  by_cases hb:b=0
  ·subst hb;rfl
  ·rw[fM,a (b/2) oO];simp
theorem th (a b c:Nat):cj (a^^^b) c=cj a c^^^cj b c:=by
 induction c using R4 with
 |_ c d=>
  by_cases hc:c=0
  ·subst hc;simp[gS]
  ·rw[fM (a^^^b),fM a c,fM b c,d (c/2) oO,rU];split
   ·ac_rfl
   ·simp
theorem qj (a b:Nat):cj (2* a) b=2* cj a b:=by
 induction b using R4 with
 |_ b c=>
  by_cases hb:b=0
  ·subst hb;simp[gS]
  ·rw[fM (2* a),fM a b,c (b/2) oO,rU];split<;>simp
theorem Eo (a:Nat):(a%2)^^^2* (a/2)=a:=by
 apply Wp;intro b;cases b with
 |zero=>simp[W3,yf]
 |succ b=>
  rw[W4,W4,ym];simp
theorem Fa (a b c:Nat):cj a (b^^^c)=cj a b^^^cj a c:=by
 induction b using R4 generalizing c with
 |_ b f=>
  by_cases hb:b=0
  ·subst hb;simp[gS]
  ·rw[fM a (b^^^c),fM a b,fM a c,ym,f (b/2) oO,rU,yf];rcases PL b with d|d<;>rcases PL c with e|e
   ·simp[d,e]
   ·simp[d,e];ac_rfl
   ·simp[d,e];ac_rfl
   ·simp only[d,e];simp;rw[show a^^^2* cj a (b/2)^^^(a^^^2* cj a (c/2))=(a^^^a)^^^(2* cj a (b/2)^^^2* cj a (c/2))from by ac_rfl];simp
theorem x5 (b:Nat):cj 1 b=b:=by
 induction b using R4 with
 |_ b c=>
  by_cases hb:b=0
  ·subst hb;rfl
  ·rw[fM,c (b/2) oO];have:=Eo b;rcases PL b with a|a<;>simp[a]at this⊢<;>exact this
theorem pr (a b:Nat):cj a b=cj b a:=by
 induction a using R4 generalizing b with
 |_ a d=>
  by_cases e:a=0
  ·subst e;rw[Ck,gS]
  ·conv=>lhs;rw[<-Eo a,th,qj,d (a/2) oO]
   rw[fM b a];rcases PL a with c|c<;>simp[c,Ck,x5]
theorem tK (a b c:Nat):cj (cj a b) c=cj a (cj b c):=by
 induction c using R4 with
 |_ c d=>
  by_cases hc:c=0
  ·subst hc;simp[gS]
  ·rw[fM (cj a b) c,fM b c,Fa,vt,d (c/2) oO];split<;>simp[gS]
instance:Std.Associative cj:=⟨tK⟩
instance:Std.Commutative cj:=⟨pr⟩
def bl:Nat->Nat:=λn=>if n=0 then 0 else n.log2+1
theorem bc (a n:Nat):bl a<=n↔a<2^n:=by
 unfold bl;split
 ·subst a;simp;exact Nat.two_pow_pos n
 ·rename_i h;rw[<-Nat.log2_lt h];omega
theorem ja (a n:Nat):n<bl a↔2^n<=a:=by
 have:=bc a n;omega
theorem BL (a:Nat):a<2^bl a:=(bc a _).1 (w5 _)
theorem Lz (a:Nat) (h:a≠0):2^(bl a-1)<=a:=by
 apply(ja a _).1;have:0<bl a:=(ja a 0).2 oT;omega
theorem eJ:bl 0=0:=rfl
theorem ic (a:Nat) (h:a≠0):0<bl a:=(ja a 0).2 oT
theorem wN (a n:Nat) (b:2^n<=a) (c:a<2^(n+1)):bl a=n+1:=by
 have:=(ja a n).2 b;have:=(bc a (n+1)).2 c;omega
theorem sJ (a b:Nat) (h:a<=b):bl a<=bl b:=(bc _ _).2 (WJ h (BL b))
theorem rH (a b:Nat) (h:bl a<bl b):a<b:=by
 have:=sJ b a;omega
theorem tD (a:Nat) (h:a≠0):bl (2* a)=bl a+1:=by
 obtain⟨n,hn⟩:∃n,bl a=n+1:=⟨bl a-1,by have:=ic a h;omega⟩;rw[hn];have b:=(ja a n).1 oO;have c:=(bc a (n+1)).1 oO;exact wN _ _ (by rw[H0];omega) (by rw[H0];omega)
theorem nQ (a n:Nat) (h:bl a=n+1):a.testBit n=wP:=by
 have c:=(ja a n).1 oO;have b:=(bc a (n+1)).1 oO;rw[Nat.testBit_eq_decide_div_mod_eq];have:a/2^n=1:=by
  apply Nat.div_eq_of_lt_le
  ·omega
  ·rw[H0]at b;omega
 simp[this]
theorem Df (a n:Nat) (h:a.testBit n=wP) (b:a<2^(n+1)):bl a=n+1:=by
 refine wN _ _ (Nat.ge_two_pow_of_testBit h) b
theorem mO (a b n:Nat) (c:bl a<=n) (hb:bl b<=n):bl (a^^^b)<=n:=by
 rw[bc]at*;exact WI c hb
theorem BM (a b n:Nat) (c:bl a=n+1) (hb:bl b=n+1):bl (a^^^b)<=n:=by
 have h:bl (a^^^b)<=n+1:=mO _ _ _ oO oO;by_cases e:bl (a^^^b)=n+1
 ·have:=nQ _ _ e;rw[Wt,nQ _ _ c,nQ _ _ hb]at this;simp at this
 ·omega
theorem LM (a b:Nat) (h:bl a<bl b):bl (a^^^b)=bl b:=by
 obtain⟨n,hn⟩:∃n,bl b=n+1:=⟨bl b-1,by omega⟩;have c:a<2^n:=(bc a n).1 oO;rw[hn];refine Df _ _ ?_ ?_
 ·rw[Wt,nQ _ _ hn,Nat.testBit_lt_two_pow c];rfl
 ·exact(bc _ _).1 (mO _ _ _ oO oO)
theorem H9 (a b:Nat) (d:a≠0) (hb:b≠0):bl (cj a b)+1=bl a+bl b:=by
 induction b using R4 with
 |_ b e=>
  have m:=ic a d;by_cases f:b=1
  ·subst f;rw[tI];have:bl 1=1:=by decide
   omega
  ·have c:b/2≠0:=oO;have g:=e (b/2) oO c;have o:bl b=bl (b/2)+1:=by
    obtain⟨n,hn⟩:∃n,bl (b/2)=n+1:=⟨bl (b/2)-1,by have:=ic _ c;omega⟩;have k:=(ja (b/2) n).1 oO;have l:=(bc (b/2) (n+1)).1 oO;rw[hn];exact wN _ _ (by rw[H0];omega) (by rw[H0];omega)
   have p:=ic _ c;have j:cj a (b/2)≠0:=by
    intro i;rw[i,eJ]at g;omega
   rw[fM];have e2:=tD _ j;split
   ·rw[LM _ _ oO];omega
   ·simp;omega
theorem DT (a n:Nat):cj a (2^n)=a* 2^n:=by
 induction n with
 |zero=>simp[tI]
 |succ n b=>rw[show 2^(n+1)=2* 2^n from by rw[H0];omega,vt,b,Nat.mul_left_comm]
theorem tZ (a n:Nat) (b:a≠0):bl (a* 2^n)=bl a+n:=by
 induction n with
 |zero=>simp
 |succ n c=>
  rw[H0,show a* (2^n* 2)=2* (a* 2^n)from by ac_rfl,tD _ (by have:=Nat.two_pow_pos n;exact Nat.mul_ne_zero b oO),c];omega
def iM (b a:Nat):Prop:=∃k,a=cj b k
theorem ri (a:Nat):iM a 0:=⟨0,(gS a).symm⟩
theorem Mi (a:Nat):iM a a:=⟨1,(tI a).symm⟩
theorem oQ {c a b:Nat} (e:iM c a) (f:iM c b):iM c (a^^^b):=by
 obtain⟨k,rfl⟩:=e;obtain⟨d,rfl⟩:=f;exact⟨k^^^d,(Fa _ _ _).symm⟩
theorem E8 {c a:Nat} (b:Nat) (d:iM c a):iM c (cj a b):=by
 obtain⟨k,rfl⟩:=d;exact⟨cj k b,tK _ _ _⟩
theorem sT {b a:Nat} (h:iM b a) (e:bl a<bl b):a=0:=by
 obtain⟨k,rfl⟩:=h;by_cases c:k=0
 ·subst c;exact gS _
 ·by_cases d:b=0
  ·subst d;rw[eJ]at e;omega
  ·have:=H9 b k d c;have:=ic k c;omega
def lA (a q:Nat):Nat:=a^^^q* 2^(bl a-bl q)
theorem yk (a q:Nat) (hq:q≠0) (h:bl q<=bl a):bl (lA a q)<bl a:=by
 have b:=ic q hq;obtain⟨n,hn⟩:∃n,bl a=n+1:=⟨bl a-1,by omega⟩;have:=tZ q (bl a-bl q) hq;have:=BM a (q* 2^(bl a-bl q)) n hn oO;unfold lA;omega
def oV:Nat->Nat->Nat->Nat
 |0,a,_=>a
 |n+1,a,q=>if bl q<=bl a then oV n (lA a q) q else a
def cmod (a q:Nat):Nat:=oV (bl a) a q
theorem Ny (n a q:Nat) (hq:q≠0) (h:bl a<bl q+n):bl (oV n a q)<bl q:=by
 induction n generalizing a with
 |zero=>simp[oV];omega
 |succ n b=>
  simp only[oV];split
  ·rename_i c;have:=yk a q hq c
   exact b _ oO
  ·omega
theorem MX (n a q:Nat):iM q (a^^^oV n a q):=by
 induction n generalizing a with
 |zero=>simp[oV];exact ri _
 |succ n b=>
  simp only[oV];split
  ·have:=oQ (b (lA a q)) (⟨2^(bl a-bl q),(DT q _).symm⟩:iM q (q* 2^(bl a-bl q)));rw[show lA a q^^^oV n (lA a q) q^^^q* 2^(bl a-bl q)=(lA a q^^^q* 2^(bl a-bl q))^^^oV n (lA a q) q from by ac_rfl]at this;rw[show lA a q^^^q* 2^(bl a-bl q)=a from by unfold lA;rw[Vx];simp]at this;exact this
  ·simp;exact ri _
theorem mV (a q:Nat) (hq:q≠0):bl (cmod a q)<bl q:=
 Ny _ _ _ hq (by have:=ic q hq;omega)
theorem lL (a q:Nat):iM q (a^^^cmod a q):=MX _ _ _
theorem ld (a q b:Nat) (d:iM q (a^^^b)) (e:bl b<bl q):b=cmod a q:=by
 have hq:q≠0:=by intro h;subst h;rw[eJ]at e;omega
 have c:=oQ d (lL a q);rw[show a^^^b^^^(a^^^cmod a q)=(a^^^a)^^^(b^^^cmod a q)from by ac_rfl]at c;simp at c;have f:=sT c (WJ (mO b (cmod a q) (bl q-1) oO (by have:=mV a q hq;omega)) oO);have g:=congrArg (λx=>x^^^cmod a q) f;simpa[Vx]using g
theorem qx (a q:Nat) (hq:q≠0):cmod a q=0↔iM q a:=by
 constructor
 ·intro h;have:=lL a q;rw[h]at this;simpa using this
 ·intro h;exact(ld a q 0 (by simpa using h) (by rw[eJ];exact ic q hq)).symm
theorem kI (a q:Nat) (h:bl a<bl q):cmod a q=a:=
 (ld a q a (by simp;exact ri _) h).symm
def TB (a:Nat):Prop:=2<=bl a/\∀q,2<=q->2* (bl q-1)<=bl a-1->¬iM q a
theorem By (q:Nat) (a:q≠0) (b:q≠1):2<=q:=oO
theorem Sz (d a b:Nat) (i:TB d) (h:iM d (cj a b)):iM d a\/iM d b:=by
 by_cases m:iM d a
 ·exact .inl m
 right;have u:d≠0:=by intro h;subst h;have:=i.1;rw[eJ]at this;omega
 have v:a≠0:=by intro h;subst h;exact m (ri _)
 have key:∀n,∀c,c<n->c≠0->iM d (cj c b)->iM d b:=by
  intro n
  induction n with
  |zero=>intro c hc;omega
  |succ n s=>
   intro c hc g o;have red:∀x,iM d (cj x b)->iM d b\/iM c x:=by
    intro x t;by_cases p:cmod x c=0
    ·exact .inr ((qx _ _ g).1 p)
    ·left;refine s (cmod x c) ?_ p ?_
     ·have:=rH _ _ (mV x c g);omega
     ·obtain⟨k,f⟩:=lL x c;have e:cmod x c=x^^^cj c k:=by rw[<-f,<-Vx];simp
      rw[e,th];refine oQ t ?_;rw[show cj (cj c k) b=cj (cj c b) k from by ac_rfl];exact E8 _ o
   rcases red d ⟨b,rfl⟩with j|j
   ·exact j
   rcases red a h with l|l
   ·exact l
   obtain⟨k,f⟩:=j;have r:k≠0:=by intro h;subst h;rw[gS]at f;exact u f
   have w:=H9 c k g r;rw[<-f]at w;by_cases c1:c=1
   ·subst c1;rw[x5]at o;exact o
   by_cases q:k=1
   ·subst q;rw[tI]at f;subst f;exact absurd l m
   exfalso;by_cases y:bl c<=bl k
   ·exact i.2 c (By c g c1) oO ⟨k,f⟩
   ·exact i.2 k (By k r q) oO ⟨c,by rw[pr];exact f⟩
 exact key (a+1) a oO v h
theorem mS (a:Nat) (b:a<2^62):(VO 64 (a:Int)).toNat=a:=by
 rw[BitVec.ofInt_natCast,BitVec.toNat_ofNat];exact Nat.mod_eq_of_lt oO
theorem iw (a b:Nat) (c:a<2^62) (hb:b<2^62):bits .xor .i64 (a:Int) (b:Int)=((a^^^b:Nat):Int):=by
 have d:a^^^b<2^62:=WI c hb;show J.wrap ((VO 64 (a:Int)^^^VO 64 (b:Int)).toNat:Int)=_;rw[BitVec.toNat_xor,mS a c,mS b hb,VM];omega
theorem F9 (a b:Nat) (c:a<2^62) (hb:b<2^62):bits .and .i64 (a:Int) (b:Int)=((a&&&b:Nat):Int):=by
 have d:a&&&b<2^62:=Nat.and_lt_two_pow _ hb;show J.wrap ((VO 64 (a:Int)&&&VO 64 (b:Int)).toNat:Int)=_;rw[BitVec.toNat_and,mS a c,mS b hb,VM];omega
theorem IE (a b:Int) (c:0<=a) (e:a<4611686018427387904) (d:0<=b) (f:b<4611686018427387904):bits .xor .i64 a b=((a.toNat^^^b.toNat:Nat):Int):=by
 obtain⟨A,rfl⟩:=Av c;obtain⟨B,rfl⟩:=Av d;simpa using iw A B oO oO
theorem o6 (a:Nat) (b:a<2^62):bits .and .i64 (a:Int) 1=((a%2:Nat):Int):=by
 have:=F9 a 1 b oD;rw[Nat.and_one_is_mod]at this;exact this
section
open Go.RowKit
def gV (v a:Nat):Bool:=v/2^a%2==1
def dV (v n:Nat):Nat->List Bool
 |0=>[]
 |k+1=>dV v n k++[gV v (n-1-k)]
def bH (v n:Nat):List Bool:=dV v n n
theorem mv (v n k:Nat):(dV v n k).length=k:=by
 induction k with
 |zero=>rfl
 |succ k a=>unfold dV;rw[w9,a];rfl
theorem sZ (v a:Nat) (c:v<=1000000000000):(bits BinOp.and J ((v:Int)/2^a) 1==1)=gV v a:=by
 have e:((v:Int)/2^a)=((v/2^a:Nat):Int):=by simp
 have b:v/2^a<2^62:=WJ (Nat.div_le_self _ _) oO;rw[e,o6 _ b];unfold gV;generalize v/2^a%2=x;by_cases h:x=1
 ·subst h;rfl
 ·rw[beq_eq_false_iff_ne.2 h,w4];omega
theorem pF (base:Nat) (a:List Bool) (u:xf) (v n:Nat) (w:wR) (x:v<=1000000000000) (hn:n<=62) (hl:a.length<=100000000) (hb:base<=w.heap.size) (j:w.ownsRow base 4 1 u a.length (a.map vB)):
 wS w1 108 #[u,I J v,I J n] w λe l=>∃m,e= .returned m/\l.ownsRow base 4 1 m (a++bH v n).length ((a++bH v n).map vB)/\Below base w l:=by
 obtain⟨z,A,E,F,G⟩:=CB fF;have B:=aa j;clear j;go_enter func108,ntmps108;go_wp2;go_loopw [0,7] (λC d wr=>∃(k:Nat) (c:Int),k<=n/\d=I J c/\w2 (c=(n:Int)-1-k)/\w2 (Below base w wr)/\w2 (wr.ownsRow base 4 1 C (a++dV v n k).length ((a++dV v n k).map vB))) (λ_ d _=>(intOf d+1).toNat)
 case atStart=>exact⟨0,_,x1 _,rfl,by show _=_;omega,w3 _ _,by show World.ownsRow _ _ _ _ _ _ _;rw[show dV v n 0=[]from rfl,A5];exact B.out⟩
 case round=>
  obtain⟨k,c,M,rfl,o,f,g⟩:=hrel;by_cases O:k<n
  ·obtain⟨b,r⟩:∃b,b=n-1-k:=⟨_,rfl⟩;obtain rfl:c=(b:Int):=by have:=o.out;omega
   have p:=aa r;have P:b<=61:=oO;clear r;have S:=sZ v b x;have H:w2 (dV v n (k+1)=dV v n k++[gV v b]):=by show _=_;rw[p.out];rfl
   have s:w2 ((a++dV v n k).length<=100000062):=by show _<=_;rw[w9,mv];omega
   generalize gV v b=y at*;have i:w2 (base<=wr.heap.size):=Nat.le_trans hb f.out.size;go_wp2_with(at_builtin;refine aY (f:=vB) (d:=R) tu rfl _ _ _ rfl base 4 z _ 1 HE A E F G rfl _ _ (a++dV v n k) rfl (eR g.out _) (gk ⟨wr.heap.size,0,U⟩) 1 1 [y] rfl rfl (RG.one _ _ _ _ rfl) (by unfold HG;have:=s.out;omega) (by have:=s.out;omega) (by have:=i.out;simp;omega) ?_;intro N D t hg;have K:w2 (Below base w D):=((f.out.alloc i.out _).grown hg (by have:=i.out;simp;omega) (λq hq=>(g.out.lt q hq).1));have L:=aa t;clear t hg)
   exact⟨⟨k+1,_,by omega,rfl,by have:=p.out;show _=_;omega,K.out,by
    show World.ownsRow _ _ _ _ _ _ _;rw[H.out,<-y6];have e1:(a++dV v n k++[y]).length=(a++dV v n k).length+1:=w9
    rw[e1];exact L.out⟩,by simp[intOf]⟩
  ·obtain rfl:k=n:=oO;have Q:decide ((0:Int)<=c)=R:=by have:=o.out;simp;omega
   go_wp2;go_ret;exact⟨_,rfl,g.out,f.out⟩
theorem KD:(prog.info? 4).map (·.size)=gk 1:=oK
theorem cn (v n:Nat):(bH v n).length=n:=mv v n n
theorem GQ (v n:Nat) (w:wR) (g:v<=1000000000000) (hn:n<=62):
 wS w1 59 #[.slice U 0 0,I J v,I J n] w (RT vB R w (bH v n,0)):=by
 obtain⟨i,j,k,l,m⟩:=CB fF;have t:∀a:wR,(Builtin.copy_ #[26,26] 3 #[.slice (gk ⟨w.heap.size,0,U⟩) 0 n,.slice U 0 0]).run w1 a= .ok (goInt 0) a:=λa=>run_copy_none a _ _ _ 4 _ _ _ _ _ _ HE KD oS;go_enter func59,ntmps59
 go_wp2_with(first
  |(at_make;refine wpList_make_own _ rfl _ _ _ rfl w.heap.size 4 i _ 1 HE j k l .i64 .i64 _ n rfl rfl (by first|rfl|omega) (by rw[m];omega) oM (w5 _) ?_;intro a f hg;have o:=aa f;have b:w2 (af w a):=(w3 _ _).grown hg (w5 _) (λq hq=>by cases hq);clear f hg)
  |(go_at_call 108;refine(pF w.heap.size [] _ v n _ g hn oS b.out.size o.out).mono ?_;rintro e s ⟨u2,rfl,c,d⟩;have p:=aa c;have r:=aa d;clear c d))
 go_ret2
 exact RT.mk rfl (by have h:=p.out;rw[List.nil_append]at h;exact SG.bL h) (b.out.trans r.out)
def ba (b:List Bool) (at_:Nat):Nat->Nat
 |0=>0
 |k+1=>2* ba b at_ k+(if b.getD (at_+k) R then 1 else 0)
theorem eS (b:List Bool) (k a:Nat):ba b k a<2^a:=by
 induction a with
 |zero=>simp[ba]
 |succ a c=>
  have:(if b.getD (k+a) R then 1 else 0)<=1:=by split<;>omega
  show 2* ba b k a+(if b.getD (k+a) R then 1 else 0)<2^(a+1);rw[H0];omega
theorem Ry (x:Nat) (a:x<=2199023255552):bits BinOp.or J ((x:Int)* 2) 1=((2* x+1:Nat):Int):=by
 have e:((x:Int)* 2)=((2* x:Nat):Int):=oO;have e2:2* x|||1=2* x+1:=by
  have:=Nat.two_pow_add_eq_or_of_lt (i:=1) (b:=1) oD x;simpa using this.symm
 rw[e];show J.wrap ((VO 64 ((2* x:Nat):Int)|||BitVec.ofInt 64 ((1:Nat):Int)).toNat:Int)=_;rw[BitVec.toNat_or,mS _ oO,mS 1 oD,e2,VM];omega
theorem ud (A:xv Addr) (n c:Nat) (b:List Bool) (w:wR) (hn:n<=40) (hb:SR vB R w A n c b):
 wS w1 109 #[.slice A n c] w λe o=>e= .returned (I J ((ba b 0 n:Nat):Int))/\o=w:=by
 have p:=aa hb;have i:w2 (n=b.length):=hb.hn;clear hb;go_enter func109,ntmps109;go_wp2;go_loop [3,8] (λq f=>∃k x:Nat,k<=n/\f=I J k/\q=I J x/\x<=2199023255552/\w2 (x=ba b 0 k)) (λ_ f=>n-(intOf f).toNat)
 case atStart=>exact⟨0,0,x1 _,rfl,rfl,by omega,rfl⟩
 case round=>
  obtain⟨k,x,v,rfl,rfl,r,j⟩:=hrel;by_cases u:k<n
  ·obtain⟨z,rfl,D,m⟩:=p.out.rd (by rw[<-i.out];omega);have C:=m k (by rw[<-i.out];exact u);clear m;have l:w2 (∀y,b.getD k R=y->ba b 0 (k+1)=2* x+(if y then 1 else 0)):=by
    show∀y,_;rintro y rfl;rw[j.out];show 2* _+(if b.getD (0+k) R then 1 else 0)=_;rw[Nat.zero_add]
   generalize b.getD k R=y at*;cases y with
   |true=>
    have B:=Ry x r;have a:=aa (l.out wP rfl);have g:2* x+1<=2199023255552:=by
     have d:=eS b 0 (k+1);rw[a.out]at d;have s:2^(k+1)<=2^40:=C3 oO oO;have t:(2:Nat)^40=1099511627776:=by decide
     simp only[if_true]at d;omega
    go_wp2;exact⟨⟨k+1,2* x+1,by omega,by go_num,rfl,g,a.out.symm⟩,by simp[intOf];omega⟩
   |false=>
    have a:=aa (l.out R rfl);have g:2* x<=2199023255552:=by
     have d:=eS b 0 (k+1);rw[a.out]at d;have s:2^(k+1)<=2^40:=C3 oO oO;have t:(2:Nat)^40=1099511627776:=by decide
     omega
    go_wp2;exact⟨⟨k+1,2* x,by omega,by go_num,by go_num,g,a.out.symm⟩,by simp[intOf];omega⟩
  ·obtain rfl:k=n:=oO;go_wp2;go_ret;exact⟨by rw[<-j.out];rfl,rfl⟩
theorem RG.drop {a:Type} {f:a->xf} {d:a} {w:wR} {c:Addr} {b:List a} (h:RG f d w (gk c) b) (k:Nat):RG f d w (gk (c.add k)) (b.drop k):=λhn=>by
 rw[B1]at hn;obtain⟨m,e,i,j⟩:=h oO;injection e with e;subst e;refine⟨_,rfl,by rw[aD];exact i,λg l=>?_⟩;rw[B1]at l;rw[Jg,j (k+g) oO];simp[x4]
theorem RG.take {a:Type} {f:a->xf} {d:a} {w:wR} {A:xv Addr} {b:List a} (h:RG f d w A b) (k:Nat):RG f d w A (b.take k):=λhn=>by
 rw[Ai]at hn;obtain⟨g,e,i,j⟩:=h oO;refine⟨g,e,i,λc l=>?_⟩;rw[Ai]at l;rw[j c oO];simp only[x4];rw[W0 oO]
theorem BD (b:List Bool) (k n:Nat):∀a,ba (b.drop k) n a=ba b (k+n) a:=by
 intro a
 induction a with
 |zero=>rfl
 |succ a c=>
  show 2* ba (b.drop k) n a+(if(b.drop k).getD (n+a) R then 1 else 0)=2* ba b (k+n) a+(if b.getD (k+n+a) R then 1 else 0);rw[c];congr 2;simp[x4,Nat.add_assoc]
theorem Bw (b:List Bool) (k m:Nat):∀a,k+a<=m->ba (b.take m) k a=ba b k a:=by
 intro a
 induction a with
 |zero=>intro _;rfl
 |succ a c=>
  intro h;show 2* ba (b.take m) k a+(if(b.take m).getD (k+a) R then 1 else 0)=2* ba b k a+(if b.getD (k+a) R then 1 else 0);rw[c oO];congr 2;simp only[x4];rw[W0 oO]
def aK (b:List Bool) (at_ n:Nat):Int×Int:=if b.length<at_+n then(0,10)else(((ba b at_ n:Nat):Int),0)
theorem B9 (A:xv Addr) (n c m:Nat) (b:List Bool) (w:wR) (j:m<=40) (hn:n<=1048576) (hb:SR vB R w A n c b):
 wS w1 67 #[.slice A n c,I J 0,I J m] w (λe a=>e= .returned (.tuple #[I J (aK b 0 m).1,I J (aK b 0 m).2])/\a=w):=by
 have g:=aa hb;have d:w2 (n=b.length):=hb.hn;by_cases l:n<m
 ·have f:w2 (aK b 0 m=(0,10)):=by show _=_;unfold aK;rw[xl (by rw[<-d.out];omega)]
  clear hb;go_enter func67,ntmps67;go_wp2;go_ret2
  rw[f.out];exact⟨rfl,rfl⟩
 ·have f:w2 (aK b 0 m=(((ba b 0 m:Nat):Int),0)):=by show _=_;unfold aK;rw[w6 (by rw[<-d.out];omega)]
  have o:=hb.hc;clear hb;go_enter func67,ntmps67;have k:w2 (wS w1 109 #[.slice A m c] w λe a=>e= .returned (I J ((ba b 0 m:Nat):Int))/\a=w):=by
   show wS _ _ _ _ _;rw[<-Bw b 0 m m oO];exact ud A m c (b.take m) w j ⟨by rw[Ai,<-d.out];omega,by omega,g.out.hm,g.out.rd.take m⟩
  go_wp2_with(go_at_call 109;refine k.out.mono ?_;rintro e a ⟨rfl,i⟩;rw[i];clear i)
  go_ret2
  rw[f.out];exact⟨rfl,rfl⟩
theorem SR.drop {a:Type} {f:a->xf} {d:a} {w:wR} {A i:xv Addr} {n c m j:Nat} {g:List a} (h:SR f d w A n c g) (o:m<=n) (k:n=m\/∃b,A=gk b/\i=gk (b.add m)) (hc:j=c-m):SR f d w i (n-m) j (g.drop m):=by
 have hn:=h.hn;have p:=h.hc;have q:=h.hm;refine⟨by rw[B1,<-hn],by omega,by omega,?_⟩;rcases k with e|⟨b,rfl,rfl⟩
 ·intro l;rw[B1]at l;omega
 ·exact h.rd.drop m
def Ig (A:xv Addr) (n c:Nat):List xf:=[.slice A n c,.bool wP]
theorem vw {W:wR} {b n c:Nat} {A:xv Addr} (h:an W b (Ig A n c)):W.cell? ⟨b,0,U⟩=gk (.slice A n c)/\W.cell? ⟨b,1,U⟩=gk (.bool wP):=⟨h.2 0 (by simp[Ig]),h.2 1 (by simp[Ig])⟩
theorem NG (a:Nat) (A:xv Addr) (n c:Nat) (w:wR) (h:an w a (Ig A n c)):
 wS w1 181 #[.pointer (gk ⟨a,0,U⟩)] w λe b=>e= .returned (I J n)/\b=w:=by
 obtain⟨d,f⟩:=vw h;clear h;go_enter func181,ntmps181;go_wp2;go_ret;exact⟨rfl,rfl⟩
def lq (s w:Nat):List Bool:=if w/2=0\/w/2=(2^s-1)/2 then bH (w/2) (s-1)else bH w s
def gr (s:Nat) (a:List Int):Nat->List Bool
 |0=>[]
 |k+1=>gr s a k++lq s (a.getD k 0).toNat
theorem Qh (s w:Nat):(lq s w).length<=s:=by
 unfold lq;split
 ·rw[cn];omega
 ·rw[cn];exact w5 _
theorem AS (s:Nat) (a:List Int) (k:Nat):(gr s a k).length<=s* k:=by
 induction k with
 |zero=>exact w5 _
 |succ k b=>
  show(gr s a k++lq s _).length<=_;rw[w9,Nat.mul_succ];have:=Qh s (a.getD k 0).toNat;omega
def sH (s:Nat) (a:List Int):Bool:=a.all λw=>decide (0<=w)&&decide (w<=((2^s-1:Nat):Int))
def okW (s:Nat) (a:List Int):Bool:=a.all λw=>!(w==0)&&!(w==((2^s-1:Nat):Int))
def aC (a:List Int) (size:Int):List Bool×Int:=
 if size<2\/12<size then([],3)
 else if sH size.toNat a=R then([],3)
 else if 1048576/size<a.length then([],4)
 else if okW size.toNat a=R then([],22)
 else(gr size.toNat a a.length,0)
theorem all_false {b:Type} {c:b->Bool} {d:b} {a:List b} {k:Nat} (f:k<a.length) (h:c (a.getD k d)=R):a.all c=R:=by
 rw[List.all_eq_false];refine⟨a[k],List.getElem_mem f,?_⟩;have e:a.getD k d=a[k]:=by simp[x4,f]
 rw[e]at h;rw[h];simp
theorem all_true {b:Type} {e:b->Bool} {d:b} {c:List b} (h:∀a,a<c.length->e (c.getD a d)=wP):c.all e=wP:=by
 rw[List.all_eq_true];intro x g;obtain⟨a,f,rfl⟩:=List.getElem_of_mem g;have:=h a f;simpa[x4,f]using this
theorem Gp (A:xv Addr) (n c s:Nat) (a:List Int) (w:wR) (hb:SR vI 0 w A n c a) (j:2<=s) (a4:s<=12):
 wS w1 90 #[.slice A n c,I J s] w (RT vB R w (aC a s)):=by
 obtain⟨b3,b4,ck,co,cp⟩:=CB fF;have a3:=aa hb;have g:w2 (n=a.length):=hb.hn;have d3:n<=9223372036854775807:=by have:=hb.hm;have:=hb.hc;unfold HG at*;omega
 have cq:=xV (j:=s) a4;have cr:=oc a4;have cs:4<=2^s:=by
  have:=C3 (n:=2) oO j;simpa using this
 have av:w2 (∀k,k<n->(decide (0<=a.getD k 0)&&decide (a.getD k 0<=((2^s-1:Nat):Int)))=R->aC a s=([],3)):=by
  show∀k,_;intro k m h;unfold aC;have e:sH ((s:Nat):Int).toNat a=R:=all_false (d:=0) (by rw[<-g.out];exact m) h;rw[w6 oO,xl e]
 have ab:w2 ((∀b,b<n->0<=a.getD b 0/\a.getD b 0<=((2^s-1:Nat):Int))->sH s a=wP):=by
  show _->_;intro h;refine all_true (d:=0) λb i=>?_;have:=h b (by rw[g.out];exact i);rw[decide_eq_true this.1,decide_eq_true this.2];rfl
 have bq:w2 (sH s a=wP->1048576/(s:Int)<(n:Int)->aC a s=([],4)):=by
  show _->_;intro h t;unfold aC;rw[w6 oO,w6 (by rw[show((s:Nat):Int).toNat=s from rfl,h];simp),xl (by rw[<-g.out];exact t)]
 have ac:w2 (sH s a=wP->¬1048576/(s:Int)<(n:Int)->∀k,k<n->(!(a.getD k 0==0)&&!(a.getD k 0==((2^s-1:Nat):Int)))=R->aC a s=([],22)):=by
  show _->_;intro h t k m B;unfold aC;have e:okW ((s:Nat):Int).toNat a=R:=all_false (d:=0) (by rw[<-g.out];exact m) B;rw[w6 oO,w6 (by rw[show((s:Nat):Int).toNat=s from rfl,h];simp),w6 (by rw[<-g.out];exact t),xl e]
 have ad:w2 (sH s a=wP->¬1048576/(s:Int)<(n:Int)->(∀b,b<n->a.getD b 0≠0/\a.getD b 0≠((2^s-1:Nat):Int))->aC a s=(gr s a n,0)):=by
  exact Ru
 obtain⟨M,W⟩:∃M,M=2^s-1:=⟨_,rfl⟩;have b7:=aa W;rw[<-W]at cq av ab ac ad;have dn:3<=M:=oO;have ds:M<=4095:=oO;have dv:decide ((s:Int)<2)=R:=by simp;omega
 have d4:decide ((12:Int)<(s:Int))=R:=by simp;omega
 clear hb W cr cs;go_enter func90,ntmps90;go_wp2;go_loop [28] (λf=>∃k:Nat,k<=n/\f=I J k/\w2 (∀b,b<k->0<=a.getD b 0/\a.getD b 0<=(M:Int))) (λf=>n-(intOf f).toNat)
 case atStart=>exact⟨0,x1 _,rfl,λb i=>by omega⟩
 case round=>
  obtain⟨k,m,rfl,al⟩:=hrel;by_cases v:k<n
  ·exact Su
  ·obtain rfl:k=n:=oO;have P:=aa (ab.out al.out);clear av ab;by_cases hq:1048576/(s:Int)<(k:Int)
   ·have z:=aa (bq.out P.out hq);go_wp2;go_ret2
    exact RT.mk z.out (SG.dw _) (w3 _ _)
   have bs:w2 (∀b,b<k->(!(a.getD b 0==0)&&!(a.getD b 0==(M:Int)))=R->aC a s=([],22)):=ac.out P.out (by simpa using hq);have bt:w2 ((∀b,b<k->a.getD b 0≠0/\a.getD b 0≠(M:Int))->aC a s=(gr s a k,0)):=ad.out P.out (by simpa using hq);have dx:k<=1048576:=by
    have O:1048576/(s:Int)<=1048576:=Int.ediv_le_self _ oO;omega
   have b2:w2 (s* k<=1048576):=by
    have O:(k:Int)<=1048576/(s:Int):=oO;have V:(k:Int)* (s:Int)<=1048576:=(Int.le_ediv_iff_mul_le oO).1 O;show _<=_;rw[Nat.mul_comm];have b9:((k* s:Nat):Int)<=((1048576:Nat):Int):=by rw[Int.natCast_mul];exact V
    exact Int.ofNat_le.1 b9
   clear bq ac ad;go_wp2;clear m;generalize k=l at*;go_loop [47] (λf=>∃k:Nat,k<=l/\f=I J k/\w2 (∀b,b<k->a.getD b 0≠0/\a.getD b 0≠(M:Int))) (λf=>l-(intOf f).toNat)
   case atStart=>exact⟨0,x1 _,rfl,λb i=>by omega⟩
   case round=>
    obtain⟨k,m,rfl,a5⟩:=hrel;by_cases v:k<l
    ·obtain⟨b6,rfl,cv,C⟩:=a3.out.rd (by rw[<-g.out];omega);have bb:=C k (by rw[<-g.out];exact v);clear C;have r:=bs.out k v;have E:w2 (a.getD k 0≠0/\a.getD k 0≠(M:Int)->∀b,b<k+1->a.getD b 0≠0/\a.getD b 0≠(M:Int)):=by
      show _->_;intro h b i;rcases Nat.lt_or_ge b k with j|j
      ·exact a5.out b j
      ·obtain rfl:b=k:=oO;exact h
     generalize a.getD k 0=x at*;by_cases o:x≠0/\x≠(M:Int)
     ·have Y:=aa (E.out o);have ca:(x==0)=R:=beq_eq_false_iff_ne.2 o.1;have cb:(x==(M:Int))=R:=beq_eq_false_iff_ne.2 o.2;clear o r;go_wp2;exact⟨⟨k+1,by omega,by go_num,Y.out⟩,by simp[intOf];omega⟩
     ·have z:=aa (r (by
       by_cases u:x=0
       ·rw[beq_iff_eq.2 u];rfl
       ·have:x=(M:Int):=by
         by_cases j:x=(M:Int)
         ·exact j
         ·exact absurd ⟨u,j⟩ o
        rw[beq_iff_eq.2 this,Bool.not_true,Bool.and_false]))
      by_cases u:x=0
      ·subst u;clear o r;go_wp2;go_ret2
       exact RT.mk z.out (SG.dw _) (w3 _ _)
      ·have ca:(x==0)=R:=beq_eq_false_iff_ne.2 u;have cb:(x==(M:Int))=wP:=by
        rw[beq_iff_eq];by_cases j:x=(M:Int)
        ·exact j
        ·exact absurd ⟨u,j⟩ o
       clear o r u;go_wp2;go_ret2
       exact RT.mk z.out (SG.dw _) (w3 _ _)
    ·obtain rfl:k=l:=oO;have ce:=aa (bt.out a5.out);clear bs bt;have d5:w2 (∀b,b<k->0<=a.getD b 0/\a.getD b 0<=(M:Int)):=al.out;clear P;go_wp2;clear m;generalize k=l at*;go_loopw [11,61] (λT f wr=>∃k:Nat,k<=l/\f=I J k/\w2 (OG vB 4 w wr T (gr s a k))) (λ_ f _=>l-(intOf f).toNat)
     case atStart=>exact⟨0,x1 _,rfl,OG.start _ _⟩
     case round=>
      obtain⟨k,m,rfl,a1⟩:=hrel;by_cases v:k<l
      ·obtain⟨b6,rfl,cv,C⟩:=(a3.out.below a1.out.B).rd (by rw[<-g.out];omega);have bb:=C k (by rw[<-g.out];exact v);clear C;obtain⟨t,B⟩:=d5.out k v;obtain⟨N,X⟩:=Av t;have H:w2 (gr s a (k+1)=gr s a k++lq s N):=by
        show gr s a k++lq s (a.getD k 0).toNat=_;rw[X];rfl
       rw[X]at bb B;clear t X;have dy:N<=M:=oO;clear B;obtain⟨F,hF⟩:∃F,F=N/2:=⟨_,rfl⟩;obtain⟨G,bd⟩:∃G,G=M/2:=⟨_,rfl⟩;obtain⟨d,a6⟩:∃d,d=s-1:=⟨_,rfl⟩;have e1:(N:Int)/2=(F:Int):=oO;have e2:(M:Int)/2=(G:Int):=oO;have e3:((s:Int)-1)=(d:Int):=oO;have dz:F<=4095:=oO;have dE:1<=d:=oO;have d9:d<=11:=oO;have c3:w2 (lq s N=if F=0\/F=G then bH F d else bH N s):=by
        show _=_;unfold lq;rw[<-b7.out,<-hF,<-bd,<-a6]
       clear hF bd a6;by_cases bv:F=0\/F=G
       ·have K:w2 (gr s a (k+1)=gr s a k++dV F d d):=by show _=_;rw[H.out,c3.out,xl bv];rfl
        by_cases da:F=0
        ·have cx:((F:Int)==0)=wP:=by rw[beq_iff_eq];omega
         exact TE
        ·have cx:((F:Int)==0)=R:=by rw[w4];omega
         have c8:((F:Int)==(G:Int))=wP:=by rw[beq_iff_eq];omega
         exact TE
       ·have K:w2 (gr s a (k+1)=gr s a k++dV N s s):=by show _=_;rw[H.out,c3.out,w6 bv];rfl
        have cx:((F:Int)==0)=R:=by rw[w4];omega
        have c8:((F:Int)==(G:Int))=R:=by rw[w4];omega
        clear bv;go_wp2;obtain⟨a0,rfl⟩:∃a0:wR,a0=wr:=⟨_,rfl⟩;go_loopw [11,16] (λT f wr=>∃(q:Nat) (b:Int),q<=s/\f=I J b/\w2 (b=(s:Int)-1-q)/\w2 (OG vB 4 w wr T (gr s a k++dV N s q))) (λ_ f _=>(intOf f+1).toNat)
        case atStart=>exact⟨0,_,x1 _,rfl,by show _=_;omega,by show OG _ _ _ _ _ _;rw[show dV N s 0=[]from rfl,A5];exact a1.out⟩
        case round=>
         obtain⟨q,b,dd,rfl,i,D⟩:=hrel;by_cases d1:q<s
         ·obtain⟨p,a8⟩:∃p,p=s-1-q:=⟨_,rfl⟩;obtain rfl:b=(p:Int):=by have:=i.out;omega
          have a2:=aa a8;have de:p<=61:=oO;clear a8;have d2:=sZ N p oO;have ci:w2 (gr s a k++dV N s (q+1)=(gr s a k++dV N s q)++[gV N p]):=by show _=_;rw[a2.out,y6];rfl
          have a9:w2 ((gr s a k++dV N s q).length<=100000000):=by
           show _<=_;rw[w9,mv];have O:=AS s a k;have V:s* k<=s* l:=Nat.mul_le_mul_left s m;have c5:=b2.out;omega
          generalize gV N p=y at*;go_wp2_with(at_builtin;refine aY (f:=vB) (d:=R) tu rfl _ _ _ rfl w.heap.size 4 b3 _ 1 HE b4 ck co cp rfl _ _ (gr s a k++dV N s q) rfl (eR D.out.O _) (gk ⟨wr.heap.size,0,U⟩) 1 1 [y] rfl rfl (RG.one _ _ _ _ rfl) (by unfold HG;have:=a9.out;omega) (by have:=a9.out;omega) (by have:=D.out.B.size;simp;omega) ?_;intro c6 c7 bo hg;have b5:=aa (D.out.grow (ax _ _) bo hg);clear bo hg)
          exact⟨⟨q+1,_,by omega,rfl,by have:=a2.out;show _=_;omega,by rw[ci.out];exact b5.out⟩,by simp[intOf]⟩
         ·obtain rfl:q=s:=oO;have di:decide ((0:Int)<=b)=R:=by have:=i.out;simp;omega
          go_wp2;exact⟨⟨k+1,by omega,by go_num,by rw[K.out];exact D.out⟩,by simp[intOf];omega⟩
      ·obtain rfl:k=l:=oO;go_wp2;go_ret2
       exact RT.mk ce.out a1.out.sg a1.out.B
section
variable {P : Program}
def rO (d:Wo):Bool:=match d with|.struct _|.array _ _=>wP|_=>R
theorem zK (w:wR) (a:Ar) (d:Wo) (b:P.underlying a=gk d) (c:rO d=wP):(isAgg a).run P w= .ok wP w:=by
 unfold isAgg;rw[Aq,Va b];cases d<;>simp_all[rO,Wf]
theorem gQ (w:wR) (b:Ar) (d:Wo) (a:Addr) (c:List xf) (i:P.underlying b=gk d) (j:rO d=wP) (e:(P.info? b).map (·.size)=gk c.length)
 (h:∀f v,c[f]?=gk v->w.cell? (a.add f)=gk v):(loadVar b a).run P w= .ok (.agg c.toArray) w:=by
 have hl:=run_loadCells_list (P:=P) w a c h;cases hq:P.info? b with
 |none=>simp[hq]at e
 |some g=>
  have hs:g.size=c.length:=by simp[hq]at e;exact e
  unfold loadVar;rw[Aq,zK w b d i j];simp[Wf,sizeOf,VP,hq,hs,hl]
theorem ma (w:wR) (g e:Ar) (b c:Nat) (d:z8 xf) (a:List xf) (hg:w.heap[b]?=gk (.cells d g (0,0))) (f:(P.info? e).map (·.size)=gk a.length)
 (l:c+a.length<=d.size) (k:∀v∈a,v.oneCell'=wP):
 (storeVar e ⟨b,c,U⟩ (.agg a.toArray)).run P w= .ok () (w.setRow b (splice d.toList c a).toArray):=by
 have i:=run_storeCells_at (P:=P) b c g a 0 d w hg (by simpa using l) k;cases hq:P.info? e with
 |none=>simp[hq]at f
 |some j=>
  have hs:j.size=a.length:=by simp[hq]at f;exact f
  unfold splice;simp only[Nat.add_zero,y6]at i;simp[storeVar,sizeOf,VP,hq,Value.cells,hs,i]
theorem aP {w:wR} {j:z8 Oper} {k:List Oper} {b:Oper} {a:Act} {Q:Exit->Act->wR->Prop} (s:b.guard=U) (c:Ar) (g:Operand) (l:b.op= .load c g)
 (d:Wo) (m:P.underlying c=gk d) (n:rO d=wP) (f:Addr) (e:List xf) (o:(P.info? c).map (·.size)=gk e.length) (p:a.eval g= .pointer (gk f))
 (h:∀i v,e[i]?=gk v->w.cell? (f.add i)=gk v) (q:y7 P j Q k (a.put b.dst (.agg e.toArray)) w):y7 P j Q (b::k) a w:=by
 refine UG s λK r=>?_;have t:=gQ (P:=P) w c d f e m n o h;unfold Oper.wp execOp;simp only[l,p,Instr.loadAt,Instr.sureAddr,Aq,AT,y2,t];exact r _ _ q
theorem aZ {w:wR} {k:z8 Oper} {l:List Oper} {c:Oper} {a:Act} {Q:Exit->Act->wR->Prop} (t:c.guard=U) (g:Ar) (i x:Operand) (m:c.op= .store g i x)
 (j:Ar) (d f:Nat) (e:z8 xf) (b:List xf) (n:a.eval i= .pointer (gk ⟨d,f,U⟩)) (o:a.eval x= .agg b.toArray) (hg:w.heap[d]?=gk (.cells e j (0,0))) (p:(P.info? g).map (·.size)=gk b.length)
 (u:f+b.length<=e.size) (q:∀v∈b,v.oneCell'=wP)
 (r:y7 P k Q l (a.put c.dst undef) (w.setRow d (splice e.toList f b).toArray)):y7 P k Q (c::l) a w:=by
 refine UG t λK s=>?_;have y:=ma (P:=P) w j g d f e b hg p u q;unfold Oper.wp execOp;simp only[m,n,o,Instr.storeAt,Instr.sureAddr,Aq,AT,y2,y];exact s _ _ r
theorem FP (w:wR) (a:Ar) (d:Wo) (e:z8 xf) (b n:Nat) (g:P.underlying a=gk d) (i:rO d=wP) (c:(P.info? a).map (·.size)=gk n):
 (part a e b).run P w= .ok (.agg (e.extract b (b+n))) w:=by
 cases hq:P.info? a with
 |none=>simp[hq]at c
 |some f=>
  have hs:f.size=n:=by simp[hq]at c;exact c
  unfold part;rw[Aq,zK w a d g i];simp[Wf,sizeOf,VP,hq,hs]
theorem eZ {w:wR} {m:z8 Oper} {o:List Oper} {c:Oper} {a:Act} {Q:Exit->Act->wR->Prop} (A:c.guard=U) (i:Ar) (x j:Operand) (p:c.op= .index i x j)
 (len:Nat) (e:Ar) (r:P.underlying i=gk (.array len e)) (d:Wo) (B:P.underlying e=gk d) (s:rO d=wP) (n:Nat) (f:(P.info? e).map (·.size)=gk n)
 (g:z8 xf) (k:IntKind) (kl:Int) (b:Nat) (t:a.eval x= .agg g) (u:a.eval j= .int k kl) (v:kl=(b:Int)) (F:b<len) (l:z8 xf) (C:g.extract (b* n) (b* n+n)=l)
 (y:y7 P m Q o (a.put c.dst (.agg l)) w):y7 P m Q (c::o) a w:=by
 refine UG A λK z=>?_;subst v C;have E:=FP (P:=P) w e d g (b* n) n B s f;have D:(sizeOf e).run P w= .ok n w:=by
  cases hq:P.info? e with
  |none=>simp[hq]at f
  |some q=>simp[hq]at f;simp[sizeOf,VP,hq,f]
 have hc:(0:Int)<=(b:Int)/\(b:Int)<(len:Int):=oO;unfold Oper.wp execOp;simp only[p,t,u,Instr.index,asIntOf,Aq,AT,y2,Va r,xl hc,D,Int.toNat_natCast,E];exact z _ _ y
theorem bj {w:wR} {f:z8 Oper} {g:List Oper} {c:Oper} {a:Act} {Q:Exit->Act->wR->Prop} (m:c.guard=U) (b:Ar) (j:c.op= .alloc b)
 (d:z8 xf) (e:(P.info? b).map (·.zero)=gk (gk (.agg d)))
 (k:y7 P f Q g (a.put c.dst (.pointer (gk ⟨w.heap.size,0,U⟩))) (w.alloc (.cells d b))):y7 P f Q (c::g) a w:=by
 refine UG m λK l=>?_;cases hq:P.info? b with
 |none=>simp[hq]at e
 |some i=>
  have n:i.zero=gk (.agg d):=by simpa[hq]using e
  unfold Oper.wp execOp;simp only[j];have o:(Instr.alloc b wP (.tuple #[])).run P w= .ok (.pointer (gk ⟨w.heap.size,0,U⟩)) (w.alloc (.cells d b)):=by
   simp[Instr.alloc,zeroValue,VP,hq,n,newVar,newRow,Value.cells]
  simp only[Aq,AT,y2,o];exact l _ _ k
theorem jH {w:wR} {l:z8 Oper} {m:List Oper} {c:Oper} {a:Act} {Q:Exit->Act->wR->Prop} (z:c.guard=U) (i:Ar) (x j:Operand) (n:c.op= .index i x j)
 (len:Nat) (e:Ar) (o:P.underlying i=gk (.array len e)) (d:Wo) (A:P.underlying e=gk d) (E:rO d=R) (f:(P.info? e).map (·.size)=gk 1)
 (g:z8 xf) (k:IntKind) (kl:Int) (b:Nat) (p:a.eval x= .agg g) (r:a.eval j= .int k kl) (s:kl=(b:Int)) (F:b<len) (v:xf) (t:g[b]?=gk v)
 (u:y7 P l Q m (a.put c.dst v) w):y7 P l Q (c::m) a w:=by
 refine UG z λK y=>?_;subst s;have B:(isAgg e).run P w= .ok R w:=by
  unfold isAgg;rw[Aq,Va A];cases d<;>simp_all[rO,Wf]
 have C:(sizeOf e).run P w= .ok 1 w:=by
  cases hq:P.info? e with
  |none=>simp[hq]at f
  |some q=>simp[hq]at f;simp[sizeOf,VP,hq,f]
 have D:(part e g (b* 1)).run P w= .ok v w:=by
  unfold part;rw[Aq,B];simp[Wf,t]
 have hc:(0:Int)<=(b:Int)/\(b:Int)<(len:Int):=oO;unfold Oper.wp execOp;simp only[n,p,r,Instr.index,asIntOf,Aq,AT,y2,Va o,xl hc,C,Int.toNat_natCast,D];exact y _ _ u
end
def ag (w:wR) (a:Nat) (c:z8 xf) (b:Ar):Prop:=w.heap[a]?=gk (.cells c b (0,0))
theorem ag.below {W c:wR} {a:Nat} {d:z8 xf} {b:Ar} (h:ag W a d b) (hb:af W c):ag c a d b:=(hb.block _ (ay h)).trans h
theorem ag.cell {w:wR} {d:Nat} {c:z8 xf} {e:Ar} (h:ag w d c e) (b:Nat) (v:xf) (f:c[b]?=gk v):w.cell? ⟨d,b,U⟩=gk v:=by
 rw[cell_of_row _ _ b c e (0,0) h];exact f
theorem ag.set {w:wR} {a:Nat} {d:z8 xf} {b:Ar} (h:ag w a d b) (c:z8 xf):ag (w.setRow a c) a c b:=setRow_heap w a d c b (0,0) h
theorem ag.other {w:wR} {a b:Nat} {e:z8 xf} {c:Ar} (h:ag w a e c) (d:z8 xf) (f:a≠b):ag (w.setRow b d) a e c:=(setRow_other w b a d f).trans h
theorem bN (b:Nat) {w:wR} {a:Nat} {d:z8 xf} {c:Ar} (h:ag w a d c):w.frozen? ⟨a,b,U⟩=R:=frozen_of_row _ _ _ _ _ h
theorem eu {w:wR} {b:Nat} {c:Ar} {a:xf} {d:List xf} (h:ag w b (a::d).toArray c):w.cell? ⟨b,0,U⟩=gk a:=h.cell 0 _ rfl
theorem ia {w:wR} {c:Nat} {d:Ar} {a b:xf} {e:List xf} (h:ag w c (a::b::e).toArray d):w.cell? ⟨c,1,U⟩=gk b:=h.cell 1 _ rfl
theorem kt {w:wR} {d:Nat} {e:Ar} {a b c:xf} {f:List xf} (h:ag w d (a::b::c::f).toArray e):w.cell? ⟨d,2,U⟩=gk c:=h.cell 2 _ rfl
theorem mP {w:wR} {e:Nat} {f:Ar} {a b c d:xf} {g:List xf} (h:ag w e (a::b::c::d::g).toArray f):w.cell? ⟨e,3,U⟩=gk d:=h.cell 3 _ rfl
theorem nV {w:wR} {f:Nat} {g:Ar} {a b c d e:xf} {i:List xf} (h:ag w f (a::b::c::d::e::i).toArray g):w.cell? ⟨f,4,U⟩=gk e:=h.cell 4 _ rfl
theorem Iz {w:wR} {g:Nat} {i:Ar} {a b c d e f:xf} {j:List xf} (h:ag w g (a::b::c::d::e::f::j).toArray i):w.cell? ⟨g,5,U⟩=gk f:=h.cell 5 _ rfl
end
end Go.Proofs.YtmnlkganmgcpbaaGreatDoor
