import Derived.Test.YtmnlkganmgcpbaaGreatDoorQi8
import Derived.Lib.SlBytesConst
set_option maxRecDepth 100000
set_option maxHeartbeats 4000000
set_option linter.unusedVariables false
set_option linter.unusedSectionVars false
set_option linter.unusedSimpArgs false
set_option linter.defProp false
open Go.Value renaming int->I,slice->HM
open Go.IntKind renaming i64->J
open Bool renaming false->R,true->wP,and_eq_true->Az
open Option renaming none->U,some->gk
open Go renaming World->wR,Calls->wS,Value->xf,wpList->y7,execOp->Bq
open Go.Proofs.Tryz renaming prog->w1,underlying26->HE,ntmps184->WW,func184->Xd
open Go.RowKit renaming Hid->w2
open Go.RowKit.Below renaming refl->w3
open Nat renaming le_refl->w5,zero_le->x1,add_assoc->Us,sub_self->Vr
open _root_ renaming if_neg->w6,if_pos->xl,Option->xv,ByteArray->x2,Array->z8,of_decide_eq_true->Ap,absurd->A8,UInt8->HH
open List renaming length_append->w9,getD->x4,getElem?_eq_getElem->yv,length_drop->B1,getD_eq_getElem?_getD->B2,getElem?_eq_none->B4,length_cons->Co,getElem_mem->C4,all_eq_true->E2,drop_drop->UW
open Array renaming getElem?_setIfInBounds_ne->Ac
open UInt8 renaming ofNat->UB
open Go.Proofs.Tryz
namespace Go.Proofs.YtmnlkganmgcpbaaGreatDoor
section
open Go.RowKit Go.WideMaps Go.Maps
def dA:Nat->List Bool->List HH->Int×List Bool×List HH
 |0,b,out=>(0,b,out)
 |k+1,b,out=>if b.length<8 then(10,b,out)else dA k (b.drop 8) (out++[UB (ba b 0 8)])
def cB (b:List Bool) (out:List HH):Int×List Bool×List HH:=
 if b.length<5 then(10,b,out)
 else if ba b 0 5=0 then(if(b.drop 5).length<11 then(10,b.drop 5,out)else dA (ba (b.drop 5) 0 11+31) ((b.drop 5).drop 11) out)
 else dA (ba b 0 5) (b.drop 5) out
theorem so {k:z8 Oper} {l:List Oper} {b:Oper} {a:Act} {Q:Exit->Act->wR->Prop} {W:wR} {base:Nat} {A:xv Addr} {c:Nat} {out:List HH} (m:W.ownsRow base 5 1 (.slice A out.length c) out.length (out.map vU)) (hb:base<=W.heap.size)
 (w:b.guard=U) (s y:Operand) (n:b.op= .call {callee:= .builtin .append,args:=#[s,y],argTypes:=#[22,22]}) (hs:a.eval s= .slice A out.length c) (g:Nat) (x:HH) (o:a.eval y= .slice (gk ⟨g,0,U⟩) 1 1) (p:RG vU 0 W (gk ⟨g,0,U⟩) [x]) (hl:out.length<=100000000)
 (q:∀d f i,w2 (i.ownsRow base 5 1 (.slice d (out++[x]).length f) (out++[x]).length ((out++[x]).map vU))->w2 (W.grownBy i (HM A out.length c).ownBlock)->y7 w1 k Q l (a.put b.dst (.slice d (out++[x]).length f)) i):
 y7 w1 k Q (b::l) a W:=by
 obtain⟨r,t,z,B,C⟩:=info_parts uJ;refine aY (f:=vU) (d:=0) TN w s y _ n base 5 r _ 1 underlying22 t z B C rfl _ out.length out hs m (gk ⟨g,0,U⟩) 1 1 [x] o rfl p oM oO hb ?_;intro D u j v;have e:out.length+1=(out++[x]).length:=by simp
 rw[e]at j;obtain⟨d,f,rfl⟩:=cA j;exact q d f u j v
theorem IF {c:Nat} (h:c<256):IntKind.u8.wrap (c:Int)=(((UB c).toNat:Nat):Int):=by
 have e:(UB c).toNat=c:=by rw[UInt8.toNat_ofNat'];omega
 rw[e];show((c:Int)%256)=_;omega
theorem JN (n:Nat) (w D:wR) (db j:Nat) (b0 b:List Bool) (l:Nat) (out:List HH) (h:DE n w D db j b0 b l out) (am:out.length<=80000000):
 wS w1 184 #[.pointer (gk ⟨db,0,U⟩)] D λe a0=>e= .returned (I J (cB b out).1)/\DE n w a0 db j b0 (cB b out).2.1 l (cB b out).2.2:=by
 have E:=aa h;have bs:=h.facts.1;have a4:=aa am;clear h am;by_cases t:b.length<5
 ·have F:w2 (aK b 0 5=(0,10)):=by show _=_;unfold aK;rw[xl oO]
  have v:w2 (cB b out=(10,b,out)):=by show _=_;unfold cB;rw[xl t]
  have H:=aa t;clear t;go_enter Xd,WW;go_wp2_with(go_at_call 182;refine(E.out.reads 5 oO).mono ?_;rintro e r ⟨rfl,i⟩;have a7:w2 (r=D):=(i.elim (λh=>h.2) (λh=>A8 H.out oO));rw[F.out,a7.out];clear i)
  go_ret;rw[v.out];exact⟨rfl,E.out⟩
 ·have H:=aa t;obtain⟨k,M⟩:∃k,k=ba b 0 5:=⟨_,rfl⟩;have bz:k<32:=by rw[M];exact eS b 0 5
  have F:w2 (aK b 0 5=(((k:Nat):Int),0)):=by show _=_;unfold aK;rw[w6 oO,M]
  have v:w2 (cB b out=if k=0 then(if(b.drop 5).length<11 then(10,b.drop 5,out)else dA (ba (b.drop 5) 0 11+31) ((b.drop 5).drop 11) out)else dA k (b.drop 5) out):=by
   show _=_;unfold cB;rw[w6 t,M]
  clear t M;by_cases k0:k=0
  ·subst k0;by_cases A:(b.drop 5).length<11
   ·have V:w2 (aK (b.drop 5) 0 11=(0,10)):=by show _=_;unfold aK;rw[xl oO]
    have K:w2 (cB b out=(10,b.drop 5,out)):=by show _=_;rw[v.out,xl rfl,xl A]
    have W:=aa A;clear A;go_enter Xd,WW
    go_wp2_with(first
     |(go_at_call 182;(with_reducible show wS _ _ _ D _);refine(E.out.reads 5 oO).mono ?_;rintro e r ⟨rfl,i⟩;have u:w2 (DE n w r db j b0 (b.drop 5) l out):=(i.elim (λh=>A8 h.1 H.out) (λh=>h.2));have a1:=u.out.facts.1;rw[F.out];clear i)
     |(go_at_call 182;refine(u.out.reads 11 oO).mono ?_;rintro e S ⟨rfl,G⟩;have a8:w2 (S=r):=(G.elim (λh=>h.2) (λh=>A8 W.out oO));rw[V.out,a8.out];clear G))
    go_ret;rw[K.out];exact⟨rfl,u.out⟩
   ·obtain⟨g,N⟩:∃g,g=ba (b.drop 5) 0 11:=⟨_,rfl⟩;have bx:g<2048:=by rw[N];exact eS (b.drop 5) 0 11
    have V:w2 (aK (b.drop 5) 0 11=(((g:Nat):Int),0)):=by show _=_;unfold aK;rw[w6 oO,N]
    have K:w2 (cB b out=dA (g+31) ((b.drop 5).drop 11) out):=by show _=_;rw[v.out,xl rfl,w6 A,N]
    have W:=aa A;clear A N v;go_enter Xd,WW
    go_wp2_with(first
     |(go_at_call 182;(with_reducible show wS _ _ _ D _);refine(E.out.reads 5 oO).mono ?_;rintro e r ⟨rfl,i⟩;have u:w2 (DE n w r db j b0 (b.drop 5) l out):=(i.elim (λh=>A8 h.1 H.out) (λh=>h.2));have a1:=u.out.facts.1;rw[F.out];clear i)
     |(go_at_call 182;refine(u.out.reads 11 oO).mono ?_;rintro e S ⟨rfl,G⟩;have a9:w2 (DE n w S db j b0 ((b.drop 5).drop 11) l out):=(G.elim (λh=>A8 h.1 W.out) (λh=>h.2));rw[V.out];clear G))
    go_loopw [34] (λy wr=>∃(d:Nat) (a:List Bool) (f:List HH),d<=(g+31)/\y=I J d/\w2 (DE n w wr db j b0 a l f)/\w2 (f.length=out.length+d)/\w2 (dA ((g+31)-d) a f=cB b out)) (λy _=>(g+31)-(intOf y).toNat)
    case atStart=>exact⟨0,_,out,x1 _,rfl,a9.out,rfl,by show _=_;rw[Nat.sub_zero];exact K.out.symm⟩
    case round=>
     obtain⟨d,a,f,a2,rfl,p,Q,o⟩:=hrel;have a3:=p.out.facts.1;by_cases t:d<(g+31)
     ·have z:w2 (dA ((g+31)-d) a f=if a.length<8 then(10,a,f)else dA ((g+31)-(d+1)) (a.drop 8) (f++[UB (ba a 0 8)])):=by
       show _=_;obtain⟨q,hq⟩:∃q,q=(g+31)-(d+1):=⟨_,rfl⟩;rw[show(g+31)-d=q+1 from by omega,<-hq];rfl
      by_cases m:a.length<8
      ·exact SB
      ·obtain⟨c,hc⟩:∃c,c=ba a 0 8:=⟨_,rfl⟩;have ap:c<256:=by rw[hc];exact eS a 0 8
       have O:w2 (aK a 0 8=(((c:Nat):Int),0)):=by show _=_;unfold aK;rw[w6 oO,hc]
       have s:w2 (dA ((g+31)-(d+1)) (a.drop 8) (f++[UB c])=cB b out):=by show _=_;rw[<-o.out,z.out,w6 m,hc]
       exact Sq
     ·obtain rfl:d=(g+31):=oO;have s:w2 (cB b out=(0,a,f)):=by show _=_;rw[<-o.out,Vr];rfl
      go_wp2;go_ret;rw[s.out];exact⟨rfl,p.out⟩
  ·have K:w2 (cB b out=dA k (b.drop 5) out):=by show _=_;rw[v.out,w6 k0]
   have bt:((k:Int)==0)=R:=by rw[beq_eq_false_iff_ne];omega
   clear v k0;go_enter Xd,WW;go_wp2_with(go_at_call 182;refine(E.out.reads 5 oO).mono ?_;rintro e r ⟨rfl,i⟩;have u:w2 (DE n w r db j b0 (b.drop 5) l out):=(i.elim (λh=>A8 h.1 H.out) (λh=>h.2));rw[F.out];clear i)
   go_loopw [34] (λy wr=>∃(d:Nat) (a:List Bool) (f:List HH),d<=k/\y=I J d/\w2 (DE n w wr db j b0 a l f)/\w2 (f.length=out.length+d)/\w2 (dA (k-d) a f=cB b out)) (λy _=>k-(intOf y).toNat)
   case atStart=>exact⟨0,_,out,x1 _,rfl,u.out,rfl,by show _=_;rw[Nat.sub_zero];exact K.out.symm⟩
   case round=>
    obtain⟨d,a,f,a2,rfl,p,Q,o⟩:=hrel;have a3:=p.out.facts.1;by_cases t:d<k
    ·have z:w2 (dA (k-d) a f=if a.length<8 then(10,a,f)else dA (k-(d+1)) (a.drop 8) (f++[UB (ba a 0 8)])):=by
      show _=_;obtain⟨q,hq⟩:∃q,q=k-(d+1):=⟨_,rfl⟩;rw[show k-d=q+1 from by omega,<-hq];rfl
     by_cases m:a.length<8
     ·exact SB
     ·obtain⟨c,hc⟩:∃c,c=ba a 0 8:=⟨_,rfl⟩;have ap:c<256:=by rw[hc];exact eS a 0 8
      have O:w2 (aK a 0 8=(((c:Nat):Int),0)):=by show _=_;unfold aK;rw[w6 oO,hc]
      have s:w2 (dA (k-(d+1)) (a.drop 8) (f++[UB c])=cB b out):=by show _=_;rw[<-o.out,z.out,w6 m,hc]
      exact Sq
    ·obtain rfl:d=k:=oO;have s:w2 (cB b out=(0,a,f)):=by show _=_;rw[<-o.out,Vr];rfl
     go_wp2;go_ret;rw[s.out];exact⟨rfl,p.out⟩
def xC (a k:Nat) (b:List Bool) (out:List HH):Int×List Bool×List HH×Nat:=
 if cF a k=1 then(0,b,out++(dj a k).data.toList,a)
 else if cF a k=2 then(0,b,out,cD a k)
 else if cF a k=3 then((fy (cD a k) b out).1,(fy (cD a k) b out).2.1,(fy (cD a k) b out).2.2,a)
 else if cF a k=4 then((cB b out).1,(cB b out).2.1,(cB b out).2.2,a)
 else(22,b,out,a)
def aQ (a:Nat) (b:List Bool) (out:List HH):Int×List Bool×List HH×Nat:=
 if b.length<ar a then(10,b,out,a)else xC a (ba b 0 (ar a)) (b.drop (ar a)) out
theorem J1 {a:Act} {d:Oper} {W:wR} {q:Operand} (f:d.op= .load 168 q) (c:Addr) (b:List xf) (hl:b.length=3) (g:a.eval q= .pointer (gk c)) (h:∀e v,b[e]?=gk v->W.cell? (c.add e)=gk v):
 (Bq a.eval d).run w1 W= .ok (.value (.agg b.toArray)) W:=by
 have i:=gQ (P:=w1) W 168 _ c b underlying168 rfl (by rw[hl];exact dW) h;unfold Bq;simp only[f,g,Instr.loadAt,Instr.sureAddr,Sem.run_bind,Sem.run_pure,Result.andThen_ok,i]
theorem FB:∀m,m<5->∀n,n<32->cF m n<5:=Ap oK
theorem OE (n:Nat) (w wr:wR) (db j:Nat) (b0 b:List Bool) (a:Nat) (out:List HH) (h:DE n w wr db j b0 b a out) (a6:out.length<=80000000):
 wS w1 136 #[.pointer (gk ⟨db,0,U⟩)] wr λe G=>e= .returned (I J (aQ a b out).1)/\DE n w G db j b0 (aQ a b out).2.1 (aQ a b out).2.2.2 (aQ a b out).2.2.1:=by
 have al:=h.md;have m:w2 (DE n w wr.drew db j b0 b a out):=h.below (ai (w3 _ _));have cb:=gU a;have d:w2 (∀W:wR,(W.cell? ⟨db,1,U⟩=gk (.pointer (gk ⟨j,0,U⟩))/\W.cell? ⟨db,482,U⟩=gk (I J (a:Int)))->W.cell? ⟨db,1,U⟩=gk (.pointer (gk ⟨j,0,U⟩))/\W.cell? ⟨db,482,U⟩=gk (I J (a:Int))):=λW h=>h;have ce:(a:Int)<5:=oO;have am:=aa a6;clear h a6;by_cases E:b.length<ar a
 ·have P:w2 (aK b 0 (ar a)=(0,10)):=by show _=_;unfold aK;rw[xl oO]
  have Q:w2 (aQ a b out=(10,b,out,a)):=by show _=_;unfold aQ;rw[xl E]
  have V:=aa E;clear E;go_enter func136,ntmps136;go_wp2;refine yO (λW=>W.cell? ⟨db,1,U⟩=gk (.pointer (gk ⟨j,0,U⟩))/\W.cell? ⟨db,482,U⟩=gk (I J (a:Int))) [1,2,3,4,5,6,7,8,0,9,10,0,11,12,13,14,15] ⟨m.out.facts.1,m.out.facts.2.1⟩ ?_;refine zO d.out ?_;refine zO d.out ?_;refine zO d.out ?_;refine zO d.out ?_;refine zO d.out ?_;refine zO d.out ?_;refine zO d.out ?_;refine zO d.out ?_;refine zZ ?_;refine(fY a _).mono ?_;rintro e bi ⟨rfl,K⟩;rw[K];clear K;refine⟨_,rfl,⟨m.out.facts.1,m.out.facts.2.1⟩,jO ?_⟩;refine zZ ?_;refine(m.out.reads (ar a) oO).mono ?_;rintro e C ⟨rfl,o⟩;have a7:C=wr.drew:=by
   rcases o with o|o
   ·exact o.2
   ·have:=V.out;omega
  rw[P.out,a7];clear o a7;refine⟨_,rfl,⟨m.out.facts.1,m.out.facts.2.1⟩,jO ?_⟩;refine zO d.out ?_;refine zO d.out ?_;refine zO d.out ?_;refine zO d.out ?_;refine zO d.out ?_;refine aj ?_;go_wp2;go_ret;rw[Q.out];exact⟨rfl,m.out⟩
 ·obtain⟨k,S⟩:∃k,k=ba b 0 (ar a):=⟨_,rfl⟩;have a2:k<32:=by rw[S];exact qQ b a
  have P:w2 (aK b 0 (ar a)=(((k:Nat):Int),0)):=by show _=_;unfold aK;rw[w6 oO,S]
  have Q:w2 (aQ a b out=xC a k (b.drop (ar a)) out):=by show _=_;unfold aQ;rw[w6 E,S]
  have V:=aa E;have b1:=je a al k a2;clear E S;go_enter func136,ntmps136;go_wp2;refine yO (λW=>W.cell? ⟨db,1,U⟩=gk (.pointer (gk ⟨j,0,U⟩))/\W.cell? ⟨db,482,U⟩=gk (I J (a:Int))) [1,2,3,4,5,6,7,8,0,9,10,0,11,12,13,14,15] ⟨m.out.facts.1,m.out.facts.2.1⟩ ?_;refine zO d.out ?_;refine zO d.out ?_;refine zO d.out ?_;refine zO d.out ?_;refine zO d.out ?_;refine zO d.out ?_;refine zO d.out ?_;refine zO d.out ?_;refine zZ ?_;refine(fY a _).mono ?_;rintro e bi ⟨rfl,K⟩;rw[K];clear K;refine⟨_,rfl,⟨m.out.facts.1,m.out.facts.2.1⟩,jO ?_⟩;refine zZ ?_;refine(m.out.reads (ar a) oO).mono ?_;rintro e C ⟨rfl,o⟩;have X:w2 (DE n w C db j b0 (b.drop (ar a)) a out):=by
   rcases o with o|o
   ·exact A8 o.1 V.out
   ·exact o.2
  rw[P.out];clear o;refine⟨_,rfl,⟨X.out.facts.1,X.out.facts.2.1⟩,jO ?_⟩;refine zO d.out ?_;refine zO d.out ?_;refine zO d.out ?_;refine zO d.out ?_;refine zO d.out ?_;refine aj ?_;go_wp2;obtain⟨f,Y⟩:∃f,f=cF a k:=⟨_,rfl⟩;obtain⟨c,Z⟩:∃c,c=cD a k:=⟨_,rfl⟩;obtain⟨g,ab⟩:∃g,g=dj a k:=⟨_,rfl⟩;have bd:c<5:=by rw[Z];exact oP _ _
  have ck:f<5:=by rw[Y];exact FB a al k a2
  have L:w2 (DE n w C.drew db j b0 (b.drop (ar a)) a out):=X.out.below (ai (w3 _ _));have ap:w2 (∀l v,(mc (f:Int) (c:Int) g)[l]?=gk v->C.drew.cell? ((⟨db,2+a* 96+k* 3,U⟩:Addr).add l)=gk v):=by
   show∀l v,_;rw[Y,Z,ab];exact L.out.qm a k al a2
  have u:w2 (aQ a b out=if f=1 then(0,b.drop (ar a),out++g.data.toList,a)else if f=2 then(0,b.drop (ar a),out,c)
   else if f=3 then((fy c (b.drop (ar a)) out).1,(fy c (b.drop (ar a)) out).2.1,(fy c (b.drop (ar a)) out).2.2,a)
   else if f=4 then((cB (b.drop (ar a)) out).1,(cB (b.drop (ar a)) out).2.1,(cB (b.drop (ar a)) out).2.2,a)else(22,b.drop (ar a),out,a)):=by
   show _=_;rw[Q.out];unfold xC;rw[<-Y,<-Z,<-ab]
  rw[<-ab]at b1;have q:w2 (∀W:wR,(W.cell? ⟨db,482,U⟩=gk (I J (a:Int))/\∀l v,(mc (f:Int) (c:Int) g)[l]?=gk v->W.cell? ((⟨db,2+a* 96+k* 3,U⟩:Addr).add l)=gk v)->W.cell? ⟨db,482,U⟩=gk (I J (a:Int))):=λW h=>h.1;have ch:(k:Int)<32:=oO;clear Y Z ab Q m X d P V;generalize b.drop (ar a)=i at*;refine yO (λW=>W.cell? ⟨db,482,U⟩=gk (I J (a:Int))/\∀l v,(mc (f:Int) (c:Int) g)[l]?=gk v->W.cell? ((⟨db,2+a* 96+k* 3,U⟩:Addr).add l)=gk v) [1,2,3,4,5,6,7,8,9,10,11,0,12,13] ⟨L.out.facts.2.1,ap.out⟩ ?_;generalize C.drew=s at*;have av:w2 (∀T:z8 xf,(s.alloc (.cells T 168)).cell? ⟨db,482,U⟩=gk (I J (a:Int))/\∀l v,(mc (f:Int) (c:Int) g)[l]?=gk v->(s.alloc (.cells T 168)).cell? ((⟨db,2+a* 96+k* 3,U⟩:Addr).add l)=gk v):=by
   show∀T,_;intro T;refine⟨(L.out.below (ax _ _)).facts.2.1,λl v bo=>?_⟩;have a3:=ap.out l v bo;exact((ax s _).cell (World.block_lt_of_cell? _ _ a3)).trans a3
  refine zO q.out ?_;refine zO q.out ?_;refine zO q.out ?_;refine zO q.out ?_;refine zO q.out ?_;refine zO q.out ?_;refine zO q.out ?_;refine zO q.out ?_;refine zO q.out ?_;refine zO q.out ?_;refine' zV rfl (λW bq=>J1 rfl ⟨db,2+a* 96+k* 3,U⟩ (mc (f:Int) (c:Int) g) rfl rfl bq.2) ?_;refine' j4 168 rfl rfl _ iH (av.out _) ?_;simp only[yQ,yU,yX,yY];refine xH 168 rfl _ _ rfl 168 _ (mc (f:Int) (c:Int) g) rfl rfl dW rfl (fV _ _ _) (av.out _) ?_;simp only[Act.put];refine aj ?_;have B:w2 (an (s.alloc (.cells (mc (f:Int) (c:Int) g).toArray 168)) s.heap.size (mc (f:Int) (c:Int) g)):=an.new _ (mc (f:Int) (c:Int) g).toArray _ _ rfl;have N:w2 (ag (s.alloc (.cells (mc (f:Int) (c:Int) g).toArray 168)) s.heap.size (mc (f:Int) (c:Int) g).toArray 168):=ag.new _ _ _ _ rfl;have r:w2 (DE n w (s.alloc (.cells (mc (f:Int) (c:Int) g).toArray 168)) db j b0 i a out):=L.out.below (ax _ _);clear ap L av q;generalize s.alloc (.cells (mc (f:Int) (c:Int) g).toArray 168)=p at*;generalize s.heap.size=t at*;have c0:p.cell? ⟨t,0,U⟩=gk (I J (f:Int)):=B.out.2 0 oS;have c1:p.cell? ⟨t,1,U⟩=gk (I J (c:Int)):=B.out.2 1 oS;by_cases D:f=1
  ·subst D;have x:w2 (aQ a b out=(0,i,out++g.data.toList,a)):=by show _=_;rw[u.out,xl rfl]
   clear u;go_wp2;obtain⟨ad,co,bs,a4,a5⟩:=r.out.outs;have a8:w2 (p.drew.cell? ⟨db,483,U⟩=gk (.slice ad out.length co)):=a5 _ (ai (w3 _ _));have ac:w2 (p.drew.ownsRow n 5 1 (.slice ad out.length co) out.length (out.map vU)):=aq a4 (ai (w3 _ _));have F:w2 (DE n w p.drew db j b0 i a out):=r.out.below (ai (w3 _ _));have be:w2 (ag p.drew t (mc ((1:Nat):Int) (c:Int) g).toArray 168):=N.out.below (ai (w3 _ _));have O:w2 (p.drew.cell? ⟨t,2,U⟩=gk (.string g)):=B.out.drew.2 2 oS;have z:w2 (∀W:wR,(W.cell? ⟨t,2,U⟩=gk (.string g))->W.cell? ⟨t,2,U⟩=gk (.string g)):=λW h=>h;clear bs a4 a5 r c0 c1;refine yO (λW=>W.cell? ⟨t,2,U⟩=gk (.string g)) [1,2,3,4,6,7,0,5,8,0,9,10,0,11] O.out ?_;refine zO z.out ?_;refine zO z.out ?_;refine zO z.out ?_;refine zO z.out ?_;refine zO z.out ?_;refine zO z.out ?_;have bt:=a8.out;refine' zQ (v:= .slice ad out.length co) (w':=p.drew) rfl (by go_simp) O.out ?_;clear bt;refine' uP ac.out F.out.ge rfl _ _ rfl rfl g rfl (by have:=am.out;omega) oO ?_;intro b3 b4 bv a9 a0;obtain⟨⟨u8,b5⟩,b6,bb⟩:=F.out.Kh ac.out a0 a9;have M:=aa bb;have bf:w2 (bv.cell? ⟨t,2,U⟩=gk (.string g)):=by
    refine(a0.cell_far ⟨t,2,U⟩ (World.block_lt_of_cell? _ _ O.out) ?_).trans O.out;intro e;obtain⟨b7,hq⟩:=ou ac.out e.symm;have A:=be.out;unfold ag at A;rw[hq]at A;injection A with A;injection A with _ A _;exact A8 A oD
   have b2:w2 (t≠db):=by
    obtain⟨ci,_,_,_,_,bx,_⟩:=F.out.D;exact be.out.tag.ne bx.tag oD
   refine⟨bf.out,?_⟩;clear a9 a0 bb a8 ac F O;simp only[yQ,yU,yX,yY];refine zO z.out ?_;refine zO z.out ?_;refine .inl ⟨rfl,?_⟩;go_simp;refine⟨(World.cell?_setCell_other _ _ _ _ (λe=>b2.out (by injection e with e;exact e.symm))).trans bf.out,?_⟩;refine aj ?_;go_wp2;go_ret;rw[x.out];have y:=M.out;rw[show(out++g.data.toList).length=out.length+g.size from by simp]at y;exact⟨rfl,y⟩
  ·by_cases H:f=2
   ·subst H;have x:w2 (aQ a b out=(0,i,out,c)):=by show _=_;rw[u.out,w6 oO,xl rfl]
    obtain⟨_,b9,ca,_⟩:=r.out.facts;have F:=aa (r.out.Tm c bd);clear u r B N D;go_wp2;go_ret;rw[x.out];exact⟨rfl,F.out⟩
   ·by_cases k3:f=3
    ·subst k3;have x:w2 (aQ a b out=((fy c i out).1,(fy c i out).2.1,(fy c i out).2.2,a)):=by show _=_;rw[u.out,w6 oO,w6 oO,xl rfl]
     have a1:w2 (wS w1 183 #[.pointer (gk ⟨db,0,U⟩),I J (c:Int)] p λe G=>e= .returned (I J (fy c i out).1)/\DE n w G db j b0 (fy c i out).2.1 a (fy c i out).2.2):=G4 n w p db j b0 i a out c r.out bd (by have:=am.out;omega);clear u r B N D H;go_wp2_with(go_at_call 183;refine a1.out.mono ?_;rintro e bz ⟨rfl,y⟩;have M:=aa y;clear y)
     go_ret;rw[x.out];exact⟨rfl,M.out⟩
    ·by_cases k4:f=4
     ·subst k4;have x:w2 (aQ a b out=((cB i out).1,(cB i out).2.1,(cB i out).2.2,a)):=by show _=_;rw[u.out,w6 oO,w6 oO,w6 oO,xl rfl]
      have a1:w2 (wS w1 184 #[.pointer (gk ⟨db,0,U⟩)] p λe G=>e= .returned (I J (cB i out).1)/\DE n w G db j b0 (cB i out).2.1 a (cB i out).2.2):=JN n w p db j b0 i a out r.out am.out;clear u r B N D H k3;go_wp2_with(go_at_call 184;refine a1.out.mono ?_;rintro e bz ⟨rfl,y⟩;have M:=aa y;clear y)
      go_ret;rw[x.out];exact⟨rfl,M.out⟩
     ·have x:w2 (aQ a b out=(22,i,out,a)):=by show _=_;rw[u.out,w6 D,w6 H,w6 k3,w6 k4]
      have k0:f=0:=oO;subst k0;clear u B N D H k3 k4;go_wp2;go_ret;rw[x.out];exact⟨rfl,r.out⟩
theorem Bc (A:xv Addr) (n c:Nat) (b:List Bool) (w:wR) (hn:n<=1048576) (hb:SR vB R w A n c b):
 wS w1 134 #[.slice A n c] w λe a=>∃g i k,e= .returned (.pointer (gk ⟨g,0,U⟩))/\ag a g #[.slice i b.length k,.bool wP] 225/\SR vB R a i b.length k b/\w.heap.size<=g/\(∀j,i=gk j->Tag a j.block 4)/\af w a:=by
 obtain⟨s,t,v,x,y⟩:=info_parts fF;have u:=aa hb;have l:w2 (n=b.length):=hb.hn;clear hb;go_enter func134,ntmps134;go_wp2_with(at_builtin;refine aY (f:=vB) (d:=R) tu rfl _ _ _ rfl w.heap.size 4 s _ 1 HE t v x y rfl (.slice U 0 0) 0 [] rfl (World.ownsRow_nil _ _ _ _) A n c b rfl l.out u.out.rd oM oO (w5 _) ?_;intro v1 m r hg;have o:w2 (af w m):=(w3 _ _).grown hg (w5 _) (λq hq=>by cases hq);have f:m.ownsRow w.heap.size 4 1 v1 b.length (b.map vB):=(by rw[<-l.out];simpa using r);obtain⟨C,n1,c1,rfl,d⟩:=(SG.bL (f:=vB) (d:=R) f).parts;have p:n1=b.length:=d.hn;rw[p]at d f⊢;have z:=aa f;have B:=aa d;clear r f hg d p)
 go_ret;refine⟨_,_,_,rfl,ag.new _ _ _ _ rfl,B.out.below (ax _ _),o.out.size,?_,ah o.out _⟩;intro j e;subst e;exact(ou z.out rfl).below (ax _ _)
def EH:z8 xf:=(HM U 0 0::Value.pointer U::cW.toList++[Value.int .i64 0,HM U 0 0]).toArray
theorem Mh:(prog.info? 187).map (·.zero)=gk (gk (.agg EH)):=oK
theorem LY:EH.size=484:=oK
theorem Oj:EH[482]?=gk (I J 0):=oK
theorem Ol:EH[483]?=gk (.slice U 0 0):=oK
theorem KK:(prog.underlying 187).map (λd=>match d with|.struct b=>b.toList.mapM (λf=>(prog.info? f.type).map λa=>(f.offset,a.size))|_=>U)=gk (gk [(0,1),(1,1),(2,480),(482,1),(483,1)]):=oK
theorem CN (s m:xf) (hs:s.cells=#[s]) (r:m.cells=#[m]):∃cK:z8 xf,prog.built 187 [(0,s),(1,m),(2,.agg fk)]=gk cK/\cK.size=484/\cK[0]?=gk s/\cK[1]?=gk m/\(∀a v,fk[a]?=gk v->cK[2+a]?=gk v)/\cK[482]?=gk (I J 0)/\cK[483]?=gk (.slice U 0 0):=by
 have g:=Mh;have i:=KK;have f:=LY;have n:=oY;have t:=Oj;have u:=Ol;generalize EH=Z at*;generalize fk=b at*;cases j:prog.info? 187 with
 |none=>rw[j]at g;cases g
 |some w=>
  cases l:prog.underlying 187 with
  |none=>rw[l]at i;cases i
  |some d=>
   rw[j]at g;rw[l]at i;have A:w.zero=gk (.agg Z):=Option.some.inj g;have o:=Option.some.inj i;cases d<;>(try(simp at o;done))
   rename_i B
   simp only at o;unfold Program.built;rw[j,l];simp only[A,o];have e1:(Value.agg b).cells=b:=rfl;have e2:(Value.agg Z).cells=Z:=rfl;have y:(Z.setIfInBounds 0 s).size=484:=by simp[f]
   have q:((Z.setIfInBounds 0 s).setIfInBounds 1 m).size=484:=by simp[f]
   have key:∀(Y:z8 xf),Y.size=484->(b.zipIdx.foldl (λc (x:xf×Nat)=>c.setIfInBounds (2+x.2) x.1) Y).size=484/\∀a,(b.zipIdx.foldl (λc (x:xf×Nat)=>c.setIfInBounds (2+x.2) x.1) Y)[a]?=if 2<=a/\a<482 then b[a-2]? else Y[a]?:=by
    intro Y k;have hl:b.toList.length=480:=by rw[Array.length_toList];exact n
    have z:b.zipIdx.foldl (λc (x:xf×Nat)=>c.setIfInBounds (2+x.2) x.1) Y=(b.toList.zipIdx 0).foldl (λc (x:xf×Nat)=>c.setIfInBounds (2+x.2) x.1) Y:=by
     rw[<-Array.foldl_toList,Array.toList_zipIdx]
    rw[z];refine⟨by rw[qn];exact k,λa=>?_⟩;rw[r6 2 b.toList 0 Y a (by rw[hl,k];omega),hl];simp only[Nat.add_zero,Array.getElem?_toList]
   have e:=key _ q;simp only[Instr.fill,List.getElem?_toArray,List.getElem?_cons_zero,List.getElem?_cons_succ,e1,e2,hs,r,List.size_toArray,Co,List.length_nil,n,f,ne_eq,not_true_eq_false,decide_false,Bool.false_or];rw[qH,qH];obtain⟨Y,k⟩:∃Y,Y=Array.foldl (λc (x:xf×Nat)=>c.setIfInBounds (2+x.2) x.1) ((Z.setIfInBounds 0 s).setIfInBounds 1 m) b.zipIdx:=⟨_,rfl⟩;rw[<-k]at e⊢;rw[w6 oS,w6 (by rw[y];simp),w6 (by rw[q];simp)];refine⟨_,rfl,e.1,?_,?_,λa v p=>?_,?_,?_⟩
   ·rw[e.2,w6 oO,Ac oO];simp[f]
   ·rw[e.2,w6 oO];simp[f]
   ·have j:a<480:=by rw[<-n];exact(Array.getElem?_eq_some_iff.1 p).1
    rw[e.2,xl oO,Nat.add_sub_cancel_left];exact p
   ·rw[e.2,w6 oO,Ac oO,Ac oO];exact t
   ·rw[e.2,w6 oO,Ac oO,Ac oO];exact u
def lD:Nat->Nat->List Bool->List HH->List HH×Int
 |0,_,_,out=>(out,0)
 |f+1,a,b,out=>if jm b=wP then(out,0)else if(aQ a b out).1=0 then lD f (aQ a b out).2.2.2 (aQ a b out).2.1 (aQ a b out).2.2.1 else([],(aQ a b out).1)
def cV (b:List Bool):List HH×Int:=if 1048576<b.length then([],4)else lD (b.length+1) 0 b []
theorem Er (b0:List Bool):∀(k:Nat) (b:List Bool) (out:List HH),b0.drop (b0.length-b.length)=b->b.length<=b0.length->b0.drop (b0.length-(dA k b out).2.1.length)=(dA k b out).2.1/\(dA k b out).2.1.length<=b.length/\(dA k b out).2.2.length+(dA k b out).2.1.length<=out.length+b.length
 |0,b,out,h,hl=>⟨h,w5 _,w5 _⟩
 |k+1,b,out,h,hl=>by
  unfold dA;split
  ·exact⟨h,w5 _,w5 _⟩
  ·rename_i e
   have c:(b.drop 8).length=b.length-8:=B1;have a:=Er b0 k (b.drop 8) (out++[UB (ba b 0 8)]) (by rw[c,show b0.length-(b.length-8)=(b0.length-b.length)+8 from by omega,<-UW,h]) oO;rw[c,w9]at a;exact⟨a.1,by have:=a.2.1;omega,by have d:=a.2.2;simp only[Co,List.length_nil]at d;omega⟩
theorem wh {b0 b:List Bool} (h:b0.drop (b0.length-b.length)=b) (hl:b.length<=b0.length) (m:Nat) (c:m<=b.length):b0.drop (b0.length-(b.drop m).length)=b.drop m/\(b.drop m).length=b.length-m:=by
 have a:(b.drop m).length=b.length-m:=B1;refine⟨?_,a⟩;rw[a,show b0.length-(b.length-m)=(b0.length-b.length)+m from by omega,<-UW,h]
theorem FR (m k:Nat) (a:m<5) (b:k<32):(dj m k).data.toList.length<=2:=by
 have:=je m a k b;simpa using this
theorem DM {b0 b:List Bool} {a:Nat} {out:List HH} (g:a<5) (h:b0.drop (b0.length-b.length)=b) (hl:b.length<=b0.length):(aQ a b out).1=0->b0.drop (b0.length-(aQ a b out).2.1.length)=(aQ a b out).2.1/\(aQ a b out).2.1.length<b.length/\(aQ a b out).2.2.1.length+(aQ a b out).2.1.length<=out.length+b.length/\(aQ a b out).2.2.2<5:=by
 have r:=nP a;unfold aQ;split
 ·intro h;simp at h
 ·rename_i v
  have l:=qQ b a;generalize ba b 0 (ar a)=k at*;obtain⟨e,s⟩:=wh h hl (ar a) oO;unfold xC;have hc:=FR a k g l;have j:=oP a k;split
  ·intro _;refine⟨e,by show(b.drop _).length<_;omega,?_,g⟩;show(out++_).length+(b.drop _).length<=_;rw[w9];omega
  split
  ·intro _;exact⟨e,by show(b.drop _).length<_;omega,by show out.length+(b.drop _).length<=_;omega,j⟩
  split
  ·have w:=nP (cD a k);show(fy _ _ _).1=0->_;unfold fy;split
   ·intro h;simp at h
   ·have p:=qQ (b.drop (ar a)) (cD a k);generalize ba (b.drop (ar a)) 0 (ar (cD a k))=m at*;have x:=FR (cD a k) m j p;obtain⟨f,i⟩:=wh e oO (ar (cD a k)) oO;split
    ·intro _;refine⟨f,by show((b.drop _).drop _).length<_;omega,?_,g⟩;show(out++_).length+((b.drop _).drop _).length<=_;rw[w9];omega
    ·intro h;simp at h
  split
  ·show(cB _ _).1=0->_;have l5:∀d c,d<=c.length->b0.drop (b0.length-c.length)=c->c.length<=b.length-ar a->∀q,b0.drop (b0.length-(dA q (c.drop d) out).2.1.length)=(dA q (c.drop d) out).2.1/\(dA q (c.drop d) out).2.1.length<b.length/\(dA q (c.drop d) out).2.2.length+(dA q (c.drop d) out).2.1.length<=out.length+b.length/\a<5:=by
    intro d c n hb y q;obtain⟨f,i⟩:=wh hb oO d n;obtain⟨o,t,u⟩:=Er b0 q (c.drop d) out f oO;exact⟨o,by omega,by omega,g⟩
   unfold cB;split
   ·intro h;simp at h
   split
   ·split
    ·intro h;simp at h
    ·intro _;obtain⟨f,i⟩:=wh e oO 5 oO;exact l5 11 _ oO f oO _
   ·intro _;exact l5 5 _ oO e oO _
  ·intro h;simp at h
theorem vW {c:Program} {e:z8 Oper} {f:List Oper} {b:Oper} {a:Act} {Q:Exit->Act->wR->Prop} {w d:wR} {v:xf} (k:b.guard=U) (g:(Bq a.eval b).run c w= .ok (.value v) d) (i:y7 c e Q f (a.put b.dst v) d):y7 c e Q (b::f) a w:=by
 refine wpList_plain k λK j=>?_;unfold Oper.wp;rw[g];exact j _ _ i
theorem Gd {a:Act} {b:Oper} {W:wR} {x0 c d:Operand} (e:b.op= .build 187 #[(0,x0),(1,c),(2,d)]) {s m:xf} {Tb:z8 xf}
 (f:a.eval x0=s) (g:a.eval c=m) (i:a.eval d= .agg Tb) (cK:z8 xf) (j:prog.built 187 [(0,s),(1,m),(2,.agg Tb)]=gk cK):
 (Bq a.eval b).run w1 W= .ok (.value (.agg cK)) W:=by
 have k:=run_build (P:=w1) W 187 #[(0,s),(1,m),(2,.agg Tb)] cK j;unfold Bq;simp only[e,List.map_toArray,List.map_cons,List.map_nil,f,g,i,k,Sem.run_bind,Sem.run_pure,Result.andThen_ok]
theorem MM {a:Act} {b:Oper} {W:wR} {x:Operand} (c:b.op= .box 187 x) {cK:z8 xf} (d:a.eval x= .agg cK):
 (Bq a.eval b).run w1 W= .ok (.value (.pointer (gk ⟨W.heap.size,0,U⟩))) (W.alloc (.cells cK 187)):=by
 unfold Bq;simp only[c,d,Instr.box,newVar,newRow,Value.cells,Sem.run_bind,Sem.run_pure];rfl
def tQ (W:wR) (a:Nat):Nat:=match W.cell? ⟨a,0,U⟩with|some (.slice _ k _)=>k|_=>0
theorem DE.tQ {n:Nat} {w wr:wR} {db a:Nat} {b0 b:List Bool} {e:Nat} {out:List HH} (h:DE n w wr db a b0 b e out):tQ wr a=b.length:=by
 obtain⟨A,c,d,_⟩:=h.cK;unfold Go.Proofs.YtmnlkganmgcpbaaGreatDoor.tQ;rw[d.cell 0 _ rfl];rfl
theorem I6 (A:xv Addr) (n c:Nat) (b:List Bool) (w:wR) (hb:SR vB R w A n c b):
 wS w1 91 #[.slice A n c] w (RT vU 0 w (cV b)):=by
 have hn:n=b.length:=hb.hn;have cs:n<=9223372036854775807:=by have:=hb.hm;have:=hb.hc;unfold maxLen at*;omega
 by_cases hl:n<=1048576
 ·have bd:w2 (cV b=lD (n+1) 0 b []):=by show _=_;unfold cV;rw[w6 oO,hn]
  have be:decide ((1048576:Int)<(n:Int))=R:=by simp;omega
  have K:=aa hb;have p:=aa hn;have L:=aa hl;have T:=Bc A n c b w hl hb;have a9:=aa T;clear hb hn T;go_enter func91,ntmps91
  go_wp2_with(first
   |(go_at_call 134;refine a9.out.mono ?_;rintro e bf ⟨g,bi,c1,rfl,V,W,X,Y,Z⟩;have ab:=aa V;have ac:=aa W;have ad:=aa X;have al:=aa Y;have D:=aa Z;obtain⟨cK,M,am,ap,av,a0,a1,a2⟩:=CN (.slice A n c) (.pointer (gk ⟨g,0,U⟩)) rfl rfl;have a3:=aa M;have a4:w2 (cK.size=484/\cK[0]?=gk (.slice A n c)/\cK[1]?=gk (.pointer (gk ⟨g,0,U⟩))/\(∀H v,fk[H]?=gk v->cK[2+H]?=gk v)/\cK[482]?=gk (I J 0)/\cK[483]?=gk (.slice U 0 0)):=⟨am,ap,av,a0,a1,a2⟩;clear V W X Y Z M am ap av a0 a1 a2)
   |(go_at_call 129;refine(nj _).mono ?_;rintro e q ⟨rfl,a5⟩;have x:=aa a5;clear a5;have b9:w2 (fk=fk):=rfl;generalize a6:fk=bo at*;have bb:=aa a6;clear a6 b9)
   |((with_reducible show y7 _ _ _ (⟨_,Op.build 187 _,_,_,_,_⟩::_) _ _);refine vW rfl (Gd (Tb:=bo) (s:= .slice A n c) (m:= .pointer (gk ⟨g,0,U⟩)) rfl rfl rfl rfl cK a3.out) ?_)
   |((with_reducible show y7 _ _ _ (⟨_,Op.box 187 _,_,_,_,_⟩::_) _ _);refine vW rfl (MM rfl rfl) ?_))
  have ca:w2 (DE w.heap.size w (q.alloc (.cells cK 187)) q.heap.size g b b 0 []):=by
   obtain⟨bq,bs,bt,N,bv,bx⟩:=a4.out;rw[<-bb.out]at N;have G:af bf (q.alloc (.cells cK 187)):=ah x.out _;refine⟨ah (ae D.out x.out) _,⟨cK,A,c,U,0,ag.new _ _ _ _ rfl,bq,by rw[<-p.out];exact bs,bt,N,bv,bx,by rw[<-p.out];exact K.out,World.ownsRow_nil _ _ _ _⟩,⟨bi,c1,ab.out.below G,ac.out.below G,λbz e=>(al.out bz e).below G⟩,⟨(ae D.out x.out).size,ad.out⟩,rfl,by omega,w5 _,by rw[<-p.out];exact L.out⟩
  generalize q.alloc (.cells cK 187)=ci at*;generalize q.heap.size=db at*;clear a4 a3 D x ab ac ad al bb a9 K;go_loopw [5] (λev wr=>∃(a:List Bool) (d f:Nat) (out:List HH),w2 (DE w.heap.size w wr db g b a d out)/\w2 (b.drop (b.length-a.length)=a)/\w2 (lD f d a out=cV b)/\w2 (a.length<f)/\w2 (out.length+a.length<=b.length)) (λ_ wr=>tQ wr g)
  case atStart=>exact⟨b,0,n+1,[],ca.out,by show _=_;rw[Vr];rfl,bd.out.symm,by show _<_;rw[p.out];omega,by show _<=_;simp⟩
  case round=>
   obtain⟨a,d,f,out,k,O,hF,P,C⟩:=hrel;obtain⟨r,rfl⟩:∃r,f=r+1:=⟨f-1,by have:=P.out;omega⟩;have s:w2 (wS w1 135 #[.pointer (gk ⟨db,0,U⟩)] wr (au (.bool (jm a)) wr)):=Md _ w wr db g b a d out k.out O.out;cases l:jm a with
   |true=>
    have m:w2 (cV b=(out,0)):=by
     show _=_;rw[<-hF.out];unfold lD;rw[xl l]
    rw[l]at s;clear hF l;go_wp2_with(go_at_call 135;refine s.out.mono ?_;rintro e Q ⟨rfl,j⟩;have o:=aa (k.out.below j);obtain⟨ck,co,cp,S,b1⟩:=o.out.outs;have cb:=aa S;clear j S b1)
    go_ret2
    exact RT.mk m.out (SG.bL cb.out) o.out.B
   |false=>
    obtain⟨i,y⟩:∃i,i=(aQ d a out).1:=⟨_,rfl⟩;have a7:out.length<=80000000:=by have:=C.out;have:=L.out;have:=p.out;omega
    have a8:w2 (∀t,DE w.heap.size w t db g b a d out->wS w1 136 #[.pointer (gk ⟨db,0,U⟩)] t λe b2=>e= .returned (I J i)/\DE w.heap.size w b2 db g b (aQ d a out).2.1 (aQ d a out).2.2.2 (aQ d a out).2.2.1):=by
     show∀t,_;intro t hq;rw[y];exact OE _ w t db g b a d out hq a7
    have m:w2 (cV b=if i=0 then lD r (aQ d a out).2.2.2 (aQ d a out).2.1 (aQ d a out).2.2.1 else([],i)):=by
     show _=_;rw[<-hF.out,y];show(if jm a=wP then _ else _)=_;rw[l];rfl
    have E:w2 (i=0->b.drop (b.length-(aQ d a out).2.1.length)=(aQ d a out).2.1/\(aQ d a out).2.1.length<a.length/\(aQ d a out).2.2.1.length+(aQ d a out).2.1.length<=out.length+a.length/\(aQ d a out).2.2.2<5):=by
     show _->_;rw[y];exact DM k.out.md O.out (by have:=C.out;omega)
    have ce:w2 (tQ wr g=a.length):=k.out.tQ;rw[l]at s;clear hF l y a7;by_cases z:i=0
    ·subst z;have F:w2 (lD r (aQ d a out).2.2.2 (aQ d a out).2.1 (aQ d a out).2.2.1=cV b):=by
      show _=_;rw[m.out,xl rfl]
     have ch:=aa (E.out rfl);clear E m;generalize aQ d a out=sr at*
     go_wp2_with(first
      |(go_at_call 135;refine s.out.mono ?_;rintro e Q ⟨rfl,j⟩;have o:=aa (k.out.below j);clear j)
      |(go_at_call 136;refine(a8.out _ o.out).mono ?_;rintro e b3 ⟨rfl,u⟩;have B:=aa u;clear u))
     obtain⟨b4,b5,s3,cq⟩:=ch.out;refine⟨⟨sr.2.1,sr.2.2.2,r,sr.2.2.1,B.out,b4,F.out,by have:=P.out;show _<_;omega,by have:=C.out;show _<=_;omega⟩,?_⟩;rw[B.out.tQ,ce.out];exact b5
    ·have F:w2 (cV b=([],i)):=by show _=_;rw[m.out,w6 z]
     have b6:(i==0)=R:=by rw[beq_eq_false_iff_ne];exact z
     have cr:(i !=0)=wP:=by rw[bne,b6];rfl
     clear E m z;generalize aQ d a out=sr at*
     go_wp2_with(first
      |(go_at_call 135;refine s.out.mono ?_;rintro e Q ⟨rfl,j⟩;have o:=aa (k.out.below j);clear j)
      |(go_at_call 136;refine(a8.out _ o.out).mono ?_;rintro e b3 ⟨rfl,u⟩;have B:=aa u;clear u))
     go_ret2
     exact RT.mk F.out (SG.dw _) B.out.B
 ·have b7:w2 (cV b=([],4)):=by show _=_;unfold cV;rw[xl oO]
  have be:decide ((1048576:Int)<(n:Int))=wP:=by simp;omega
  clear hb hn;go_enter func91,ntmps91;go_wp2;go_ret2
  exact RT.mk b7.out (SG.dw _) (w3 _ _)
def O1 (d:x2) (b:Nat->Nat->Nat) (a:Nat):Bool:=(List.range 5).all λm=>(cd b d a m 32).all (λc=>decide (b a m<=c.cu b))&&(cd b d a m 32).any (λc=>c.cu b==b a m)
theorem nn.Sw {f:x2} {g:Nat->Nat->Nat} {a:Nat} (h:O1 f g a=wP):nn g f a:=by
 unfold O1 at h;rw[E2]at h;refine⟨λm d c e=>?_,λm d=> .inr ?_⟩
 ·have b:=h m (List.mem_range.2 d);rw[Az,E2]at b;exact Ap (b.1 c e)
 ·have b:=h m (List.mem_range.2 d);rw[Az,List.any_eq_true]at b;obtain⟨c,e,i⟩:=b.2;exact⟨c,e,by simpa using i⟩
def DW (b:List (List Nat)) (a m:Nat):Nat:=(b.getD a []).getD m 0
theorem QP {a:List Nat} {B:Nat} (h:a.all (λx=>decide (x<=B))=wP) (m:Nat):a.getD m 0<=B:=by
 rw[E2]at h;by_cases b:m<a.length
 ·have:=h a[m] (C4 b);simp only[x4,yv b,Option.getD_some];exact Ap this
 ·simp only[x4,B4 (show a.length<=m by omega),Option.getD_none];omega
theorem F3 {d:x2} {b:List (List Nat)} (hl:b.length=d.size) (hb:b.all (λf=>f.all (λx=>decide (x<=1073741824)))=wP) (hc:(List.range b.length).all (O1 d (DW b))=wP):dK d (DW b):=by
 refine⟨λa c=>?_,λa m c=>?_,λa m=>?_⟩
 ·rw[E2]at hc;exact nn.Sw (hc a (List.mem_range.2 oO))
 ·have e:b.getD a []=[]:=by rw[B2,B4 oO];rfl
  unfold DW;rw[e];simp
 ·unfold DW;rw[E2]at hb;by_cases c:a<b.length
  ·have e:b.getD a []=b[a]:=by rw[B2,yv c];rfl
   rw[e];exact QP (hb b[a] (C4 c)) m
  ·have e:b.getD a []=[]:=by rw[B2,B4 oO];rfl
   rw[e];simp
theorem Fy {b:x2} {c d:Nat->Nat->Nat} (f:b.size<=4096) (h:∀a m,m<5->c a m=d a m) (a m:Nat) (g:a<b.size) (e:m<5):eg c b a m=eg d b a m:=by
 unfold eg;rw[rE (C:=c) (C':=d) (λi _=>h i m e) 32];refine find_congr λk j=>?_;unfold aF.cu;rw[h _ _ (sI g f e 32 j).2.1,h a m e]
theorem I7 {b:x2} {c:Nat->Nat->Nat} (f:b.size<=4096) {a m:Nat} (g:a<b.size) (i:m<5) {d:aF} (h:eg c b a m=gk d):d.mode<5/\d∈cd c b a m 32/\d.cu c=c a m:=by
 unfold eg at h;have e:=List.mem_of_find?_eq_some h;have j:=List.find?_some h;exact⟨(sI g f i 32 e).2.1,e,by simpa using j⟩
theorem Jo {c:x2} {d e:Nat->Nat->xv aF} (h:∀a m,a<c.size->m<5->d a m=e a m) (j:∀a m b,a<c.size->m<5->d a m=gk b->b.mode<5):∀f a m,m<5->jz c d f a m=jz c e f a m:=by
 intro f
 induction f with
 |zero=>intro a m _;rfl
 |succ f k=>
  intro a m i;show(if a<c.size then(match d a m with|some b=>dJ c a m b++jz c d f b.at_ b.mode|none=>[])else[])=(if a<c.size then(match e a m with|some b=>dJ c a m b++jz c e f b.at_ b.mode|none=>[])else[]);split
  ·rename_i g
   rw[<-h a m g i];cases hs:d a m with
   |none=>rfl
   |some b=>
    show _++_=_++_;rw[k _ _ (j a m b g i hs)]
  ·rfl
theorem GO {b:x2} {e g:Nat->Nat->Nat} (i:b.size<=4096) (h:∀a m,m<5->e a m=g a m) (f a m:Nat) (c:m<5):jz b (eg e b) f a m=jz b (eg g b) f a m:=
 Jo (λa m d c=>Fy i h a m d c) (λa m k d c j=>(I7 i d c j).1) f a m c
theorem Af {b:x2} {c d:Nat->Nat->Nat} (f:b.size<=4096) (h:dK b c) (g:dK b d):yD b c=yD b d/\c 0 0=d 0 0:=by
 have e:∀a m,m<5->c a m=d a m:=λa m i=>h.uniq f g a m i;unfold yD;rw[e 0 0 oO,GO f e _ _ _ oO];exact⟨rfl,rfl⟩
abbrev pA:x2:=⟨#[65]⟩
theorem Ro:dK pA (DW [[5,10,10,10,9]]):=F3 rfl rfl oK
theorem Th {a:Nat->Nat->Nat} (h:dK pA a):a 0 0=5:=(Af oD h Ro).2
def bA (a:List HH):x2:=⟨a.toArray⟩
theorem iD (a:List HH):(bA a).size=a.length:=by show a.toArray.size=_;simp
theorem Bb (b:List HH) (a:Nat) (c:x2):preB (bA b) a c=Lib.hasPrefix (b.drop a) c.data.toList:=by
 unfold preB;congr 1;rw[ByteArray.data_extract,Array.toList_extract,List.extract_eq_take_drop,iD];show(b.drop a).take (b.length-a)=_;rw[List.take_of_length_le (by rw[B1];omega)]
theorem BI {b d:List HH} {a:Nat} {c:x2} (e:a<=b.length) (h:preB (bA b) a c=wP):preB (bA (b++d)) a c=wP:=by
 rw[Bb]at h⊢;unfold Lib.hasPrefix at h⊢;rw[List.isPrefixOf_iff_prefix]at h⊢;rw[List.drop_append_of_le_length e];exact h.trans (List.prefix_append _ _)
theorem p8 {l a:List HH} {b:Nat} {c:x2}:preB (bA (l++a)) (l.length+b) c=preB (bA a) b c:=by
 rw[Bb,Bb];congr 1;rw[<-UW,List.drop_left]
theorem Atom.mono {c i:List HH} {a m:Nat} {j:aF} (o:a<c.length) (h:Atom (bA c) a m j):Atom (bA (c++i)) a m j:=by
 have hs:(bA c).size<=(bA (c++i)).size:=by rw[iD,iD,w9];omega
 cases h with
 |chars n hn b e=>exact .chars n hn b (BI oO e)
 |lV n hn b=>exact .lV n hn b
 |shift n s hn b hs l e=>exact .shift n s hn b hs l (BI oO e)
 |short n d hn b f g k=>exact .short n d hn b f g oO
 |long n d hn b f g k=>exact .long n d hn b f g oO
theorem Atom.shiftDown {b c:List HH} {a m:Nat} {i:aF} (h:Atom (bA (b++c)) (b.length+a) m i):Atom (bA c) a m {i with at_:=i.at_-b.length}/\b.length<=i.at_:=by
 have hs:(bA (b++c)).size=b.length+(bA c).size:=by rw[iD,iD,w9]
 cases h with
 |chars n hn d g=>
  refine⟨?_,by simp only;omega⟩;rw[p8]at g;have e:=Atom.chars (p:=bA c) (a:=a) (m:=m) n hn d g;rw[show a+(dj m n).size=b.length+a+(dj m n).size-b.length from by omega]at e;exact e
 |lV n hn d=>
  refine⟨?_,by simp only;omega⟩;have e:=Atom.lV (p:=bA c) (a:=a) (m:=m) n hn d;have e2:b.length+a-b.length=a:=oO;show Atom (bA c) a m ⟨n,-1,0,R,ar m,b.length+a-b.length,cD m n⟩;rw[e2];exact e
 |shift n s hn d hs o g=>
  refine⟨?_,by simp only;omega⟩;rw[p8]at g;have e:=Atom.shift (p:=bA c) (a:=a) (m:=m) n s hn d hs o g;rw[show a+(dj (cD m n) s).size=b.length+a+(dj (cD m n) s).size-b.length from by omega]at e;exact e
 |short n f hn d j k l=>
  refine⟨?_,by simp only;omega⟩;have e:=Atom.short (p:=bA c) (a:=a) (m:=m) n f hn d j k oO;rw[show a+f=b.length+a+f-b.length from by omega]at e;exact e
 |long n f hn d j k l=>
  refine⟨?_,by simp only;omega⟩;have e:=Atom.long (p:=bA c) (a:=a) (m:=m) n f hn d j k oO;rw[show a+f=b.length+a+f-b.length from by omega]at e;exact e
theorem Atom.shiftUp {l b:List HH} {a m:Nat} {f:aF} (h:Atom (bA b) a m f):Atom (bA (l++b)) (l.length+a) m {f with at_:=l.length+f.at_}:=by
 have hs:(bA (l++b)).size=l.length+(bA b).size:=by rw[iD,iD,w9]
 cases h with
 |chars n hn c d=>
  rw[<-p8 (l:=l)]at d;have e:=Atom.chars (p:=bA (l++b)) (a:=l.length+a) (m:=m) n hn c d;rw[Us]at e;exact e
 |lV n hn c=>exact Atom.lV (p:=bA (l++b)) (a:=l.length+a) (m:=m) n hn c
 |shift n s hn c hs o d=>
  rw[<-p8 (l:=l)]at d;have e:=Atom.shift (p:=bA (l++b)) (a:=l.length+a) (m:=m) n s hn c hs o d;rw[Us (l.length) a]at e;exact e
 |short n g hn c i j k=>
  have e:=Atom.short (p:=bA (l++b)) (a:=l.length+a) (m:=m) n g hn c i j oO;rw[Us (l.length) a]at e;exact e
 |long n g hn c i j k=>
  have e:=Atom.long (p:=bA (l++b)) (a:=l.length+a) (m:=m) n g hn c i j oO;rw[Us (l.length) a]at e;exact e
theorem nB.shift {b e:List HH} {f:Nat->Nat->Nat} (h:nB (bA (b++e)) f):nB (bA e) (λd m=>f (b.length+d) m):=by
 have hs:(bA (b++e)).size=b.length+(bA e).size:=by rw[iD,iD,w9]
 refine⟨λd m i g c j=>?_,λd m i g=>?_,λd m i=>h.zero _ _ oO⟩
 ·exact h.le (b.length+d) m oO g _ (j.shiftUp (l:=b))
 ·obtain⟨c,k,l⟩:=h.ex (b.length+d) m oO g;obtain⟨n,o⟩:=k.shiftDown;refine⟨_,n,?_⟩;rw[<-l];show c.size+f (b.length+(c.at_-b.length)) c.mode=c.size+f c.at_ c.mode;rw[show b.length+(c.at_-b.length)=c.at_ from by omega]
theorem Lv {c:x2} {d:Nat->Nat->xv aF} {f a m:Nat} {b:aF} (e:a<c.size) (h:d a m=gk b):jz c d (f+1) a m=dJ c a m b++jz c d f b.at_ b.mode:=by
 show(if a<c.size then(match d a m with|some b=>dJ c a m b++jz c d f b.at_ b.mode|none=>[])else[])=_;rw[xl e,h]
theorem NK {b:x2} {c:Nat->Nat->xv aF} {f a m:Nat} (d:b.size<=a):jz b c f a m=[]:=by
 cases f with
 |zero=>rfl
 |succ f=>
  show(if a<b.size then _ else[])=[];rw[w6 oO]
theorem dK.Py {c:x2} {d:Nat->Nat->Nat} (i:c.size<=4096) (h:dK c d) (a m:Nat) (e:a<c.size) (f:m<5):∃b,eg d c a m=gk b/\Atom c a m b/\b.cu d=d a m/\(dJ c a m b).length=b.size:=by
 obtain⟨b,j,g,k⟩:=h.step i a m e f;exact⟨b,j,Bx e g,k.eq.symm,(IX e f 32 (w5 _) g).ln⟩
theorem Nj {b:x2} {c:Nat->Nat->Nat} (j:b.size<=4096) (h:dK b c):∀f a m,m<5->c a m<=f->(jz b (eg c b) f a m).length=c a m:=by
 intro f
 induction f with
 |zero=>
  intro a m d k;have:c a m=0:=oO;rw[this];rfl
 |succ f l=>
  intro a m d k;by_cases e:a<b.size
  ·obtain⟨p,n,g,i,o⟩:=h.Py j a m e d;have q:=g.size_pos;rw[Lv e n,w9,o,l _ _ (g.AZ d) (by unfold aF.cu at i;omega)];exact i
  ·rw[NK oO,h.zero a m oO];rfl
theorem yo {a:x2} {b:Nat->Nat->Nat} (c:a.size<=4096) (h:dK a b):(yD a b).length=b 0 0:=Nj c h _ 0 0 oO (w5 _)
theorem JB {a:List HH} {b:Nat->Nat->Nat} (d:a.length<=2078) (h:nB (bA a) b):b 0 0<=8* a.length+21:=by
 have hs:=iD a;have Px:cF 0 31=4:=oK;have w0:ar 0=5:=rfl;by_cases e:0<a.length
 ·by_cases f:a.length<=31
  ·have c:=h.le 0 0 oO oO _ (Atom.short 31 a.length oO Px e f oO);have g:b (0+a.length) 0=0:=h.zero _ _ oO;have i:b 0 0<=ar 0+5+8* a.length+b (0+a.length) 0:=c;omega
  ·have c:=h.le 0 0 oO oO _ (Atom.long 31 a.length oO Px oO d oO);have g:b (0+a.length) 0=0:=h.zero _ _ oO;have i:b 0 0<=ar 0+16+8* a.length+b (0+a.length) 0:=c;omega
 ·rw[h.zero 0 0 oO];omega
theorem SR.TU {a:Type} {f:a->xf} {d:a} (W:wR) (b:List a) (c:TypeId) (e:Nat×Nat) (n:Nat) (hn:n=b.length) (g:n<=maxLen):SR f d (W.alloc (.cells (b.map f).toArray c e)) (gk ⟨W.heap.size,0,U⟩) n n b:=by
 refine⟨hn,w5 _,g,λ_=>⟨_,rfl,by simp,λj i=>?_⟩⟩;rw[add_plain,Nat.zero_add,World.cell?_alloc_mark];simp[x4,i]
theorem SG.int {w:wR} {v:xf} {b:List Nat} (h:SG vN 0 w v b):SG vI 0 w v (b.map λx:Nat=>(x:Int)):=by
 obtain⟨A,c,rfl,f,g,i⟩:=h;refine⟨A,c,by simp,by simpa using f,g,λhn=>?_⟩;obtain⟨j,e,k,l⟩:=i (by simpa using hn);refine⟨j,e,k,λd a=>?_⟩;rw[l d (by simpa using a)];simp only[List.length_map]at a;simp[x4,a]
theorem vj {c:Program} {d:z8 Oper} {e:List Oper} {b:Oper} {a:Act} {Q:Exit->Act->wR->Prop} {w:wR} {v:xf} (j:Region.wanted b (yielded d a.tmps)=wP) (f:(Bq a.eval b).run c w= .ok (.value v) w) (g:y7 c d Q e (a.put b.dst v) w):y7 c d Q (b::e) a w:=by
 refine wpList_step λK i=>?_;simp only[j,if_true];unfold Oper.wp;rw[f];exact i _ _ g
theorem r4 (A:xv Addr) (L c:Nat) (b:List Bool) (v n:Nat) (w:wR) (hb:SR vB R w A L c b) (C:v<=1000000000000) (hn:n<=62) (hl:L+n<=1048576):
 wS w1 103 #[.slice A L c,I J (v:Int),I J (n:Int)] w (RT vB R w (b++bH v n,0)):=by
 obtain⟨m,o,t,u,x⟩:=info_parts fF;have f:=aa hb;have O:decide ((n:Int)<0)=R:=by simp
 have P:decide ((62:Int)<(n:Int))=R:=by simp;omega
 have Q:decide (1048576-(n:Int)<(L:Int))=R:=by simp;omega
 clear hb;go_enter func103,ntmps103;go_wp2_with(at_builtin;refine aY (f:=vB) (d:=R) tu rfl _ _ _ rfl w.heap.size 4 m _ 1 HE o t u x rfl _ 0 [] rfl (World.ownsRow_nil _ _ _ _) A L c b rfl f.out.hn f.out.rd oM oO (w5 _) ?_;intro D p e hg;have G:w2 (af w p):=(w3 _ _).grown hg (w5 _) (λq hq=>by cases hq);have H:w2 (p.ownsRow w.heap.size 4 1 D b.length (b.map vB)):=(by have h:=e;rw[Nat.zero_add,f.out.hn]at h;exact h);clear e hg)
 go_loopw [8,9] (λE g wr=>∃(k:Nat) (d:Int),k<=n/\g=I J d/\w2 (d=(n:Int)-1-k)/\w2 (af w wr)/\w2 (wr.ownsRow w.heap.size 4 1 E (b++dV v n k).length ((b++dV v n k).map vB))) (λ_ g _=>(intOf g+1).toNat)
 case atStart=>exact⟨0,_,x1 _,rfl,by show _=_;omega,G.out,by show World.ownsRow _ _ _ _ _ _ _;rw[show dV v n 0=[]from rfl,List.append_nil];exact H.out⟩
 case round=>
  obtain⟨k,d,S,rfl,r,i,j⟩:=hrel;by_cases T:k<n
  ·obtain⟨a,z⟩:∃a,a=n-1-k:=⟨_,rfl⟩;obtain rfl:d=(a:Int):=by have:=r.out;omega
   have s:=aa z;have V:a<=61:=oO;clear z;have X:=sZ v a C;have K:w2 (dV v n (k+1)=dV v n k++[gV v a]):=by show _=_;rw[s.out];rfl
   have B:w2 ((b++dV v n k).length<=100000062):=by show _<=_;rw[w9,mv,<-f.out.hn];omega
   generalize gV v a=y at*;have l:w2 (w.heap.size<=wr.heap.size):=i.out.size;go_wp2_with(at_builtin;refine aY (f:=vB) (d:=R) tu rfl _ _ _ rfl w.heap.size 4 m _ 1 HE o t u x rfl _ _ (b++dV v n k) rfl (eR j.out _) (gk ⟨wr.heap.size,0,U⟩) 1 1 [y] rfl rfl (RG.one _ _ _ _ rfl) (by unfold maxLen;have:=B.out;omega) (by have:=B.out;omega) (by have:=l.out;simp;omega) ?_;intro v6 F e hg;have M:w2 (af w F):=((i.out.alloc l.out _).grown hg (by have:=l.out;simp;omega) (λq hq=>(j.out.lt q hq).1));have N:=aa e;clear e hg)
   exact⟨⟨k+1,_,by omega,rfl,by have:=s.out;show _=_;omega,M.out,by
    show World.ownsRow _ _ _ _ _ _ _;rw[K.out,<-List.append_assoc];have e1:(b++dV v n k++[y]).length=(b++dV v n k).length+1:=w9
    rw[e1];exact N.out⟩,by simp[intOf]⟩
  ·obtain rfl:k=n:=oO;have W:decide ((0:Int)<=d)=R:=by have:=r.out;simp;omega
   go_wp2;go_ret2
   exact RT.mk rfl (SG.bL j.out) i.out
end
end Go.Proofs.YtmnlkganmgcpbaaGreatDoor
