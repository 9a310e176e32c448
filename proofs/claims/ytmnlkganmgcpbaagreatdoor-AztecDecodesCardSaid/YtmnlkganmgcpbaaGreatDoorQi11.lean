import Derived.Test.YtmnlkganmgcpbaaGreatDoorQi10
import Derived.Laws.Closers25
import Derived.Test.YtmnlkganmgcpbaaGreatDoorTie
import Derived.OpenShut
import Derived.Carry
import Derived.Lay
import Derived.LaidMore
import Derived.SevenTiedAt
import Derived.Deep.Grids
import Derived.Lib.SmallJoins
import Derived.JoinedOf
set_option maxRecDepth 100000
set_option maxHeartbeats 4000000
set_option linter.unusedVariables false
set_option linter.unusedSectionVars false
set_option linter.unusedSimpArgs false
set_option linter.defProp false
open Go.Value renaming int->I
open Go.IntKind renaming i64->J
open Bool renaming false->R,true->wP
open Option renaming none->U,some->gk
open Go renaming World->wR,Calls->wS,Value->xf,bodyPost_ret->y4,wpList->y7,TypeId->Ar,decide_eq_emptyBytes->Wn
open Go.Proofs.Tryz renaming prog->w1,underlying163->B0,underlying3->Uu
open Go.RowKit renaming Hid->w2
open _root_ renaming if_neg->w6,if_pos->xl,Option->xv,of_decide_eq_true->Ap,UInt8->HH
open List renaming length_drop->B1,length_range->WT
open Go.Op renaming store->HZ,load->UE
open Go.Exit renaming inBlock->Uv
open Go.Proofs.Tryz
namespace Go.Proofs.YtmnlkganmgcpbaaGreatDoor
section
open Go.RowKit Go.WideMaps Go.Maps
theorem L3 (m:Nat) (w:wR):wS w1 140 #[I J (m:Int)] w (au (I J ((ar m:Nat):Int)) w):=
 (zn m w).mono (λe a h=>⟨h.1,by rw[h.2];exact Below.refl _ _⟩)
theorem sw {k:Array Oper} {l:List Oper} {d:Oper} {a:Act} {Q:Exit->Act->wR->Prop} {W:wR} {base:Nat} {A:xv Addr} {c:Nat} {out:List HH} (m:W.ownsRow base 5 1 (.slice A out.length c) out.length (out.map vU)) (hb:base<=W.heap.size)
 (v:d.guard=U) (s y:Operand) (n:d.op= .call {callee:= .builtin .append,args:=#[s,y],argTypes:=#[22,9]}) (hs:a.eval s= .slice A out.length c) (b:ByteArray) (o:a.eval y= .string b) (hl:out.length<=100000000) (C:b.size<=1000)
 (p:∀(e:List HH) g i f,w2 (e=out++b.data.toList)->w2 (f.ownsRow base 5 1 (.slice g e.length i) e.length (e.map vU))->w2 (W.grownBy f (Value.slice A out.length c).ownBlock)->y7 w1 k Q l (a.put d.dst (.slice g e.length i)) f):
 y7 w1 k Q (d::l) a W:=by
 obtain⟨q,r,w,x,z⟩:=info_parts uJ;obtain⟨D,f,B,j,t,_⟩:=Lib.run_append_own_string (P:=w1) W base 22 9 d.type 5 q underlying22 underlying9 r w x z _ _ _ m b oM oO hb;have e1:out.length+b.size=(out++b.data.toList).length:=by simp
 have e2:out.map vU++Lib.strCells b=(out++b.data.toList).map vU:=by rw[List.map_append];rfl
 rw[e1,e2]at j;obtain⟨g,i,rfl⟩:=cA j;refine wpList_plain v λK u=>?_;unfold Oper.wp execOp;simp only[n,resolve,invoke,builtin,Sem.run_bind,Sem.run_pure,Result.andThen_ok,List.map_toArray,List.map_cons,List.map_nil,hs,o,B];exact u _ _ (p _ g i f rfl j t)
theorem JA:∀m,m<5->∀n,n<32->cF m n=4->m≠3:=Ap oK
theorem JX:∀m,m<5->∀n,n<32->cF m n=0->n<2^ar m->m=3:=Ap oK
theorem Cj:∀m,m<5->∀n,n<32->cF m n=1->dj m n≠ByteArray.empty:=Ap oK
theorem Li (n:Nat) (w r:wR) (A:xv Addr) (u H:Nat) (b:List Bool) (at_ a:Nat) (out:List HH) (f:xv Addr) (co:Nat) (bi:SR vB R w A u H b) (hB:Below n w r) (cb:r.ownsRow n 5 1 (.slice f out.length co) out.length (out.map vU)) (hn:n=w.heap.size) (dx:at_<=u) (am:u<=1048576) (c6:out.length<=70000000) (l:a<5):
 wS w1 128 #[.slice A u H,.agg #[I J (at_:Int),I J (a:Int),.slice f out.length co]] r (wV n w r b (aQ a (b.drop at_) out)):=by
 have V:=aa bi;have y:w2 (u=b.length):=bi.hn;have bz:=aa c6;have b1:w2 (fU n w r ((r.alloc (.cells #[I J (at_:Int),I J (a:Int),.slice f out.length co] 163)).alloc (.cells #[I J 0,I J 0,.slice U 0 0] 163)) r.heap.size (r.heap.size+1) at_ a out f co):=fU.start hB cb hn;have d9:=gU a;clear bi hB cb c6 hn;go_enter func128,ntmps128;go_wp2_with fail
 obtain⟨X,bo⟩:∃X,X=r.heap.size:=⟨_,rfl⟩;obtain⟨Y,bq⟩:∃Y,Y=r.heap.size+1:=⟨_,rfl⟩;rw[<-bq,<-bo]at b1;rw[<-bq,<-bo];generalize((r.alloc (.cells #[I J (at_:Int),I J (a:Int),.slice f out.length co] 163)).alloc (.cells #[I J 0,I J 0,.slice U 0 0] 163))=ce at*;clear bo bq;have t:w2 (fU n w r ce.drew X Y at_ a out f co):=b1.out.below (ai (Below.refl _ _));obtain⟨ch,ci,_,_,_,_⟩:=t.out.facts;have q:w2 (∀W:wR,(W.cell? ⟨X,0,U⟩=gk (I J (at_:Int))/\W.cell? ⟨X,1,U⟩=gk (I J (a:Int)))->W.cell? ⟨X,0,U⟩=gk (I J (at_:Int))/\W.cell? ⟨X,1,U⟩=gk (I J (a:Int))):=λW h=>h;refine yO (λW=>W.cell? ⟨X,0,U⟩=gk (I J (at_:Int))/\W.cell? ⟨X,1,U⟩=gk (I J (a:Int))) [1,2,3,4,5,0,6,7,0,8,9,10,11,12] ⟨ch,ci⟩ ?_;clear ch ci;refine zO q.out ?_;refine zO q.out ?_;refine zO q.out ?_;refine zO q.out ?_;refine zO q.out ?_;refine zZ ?_;refine(zn a _).mono ?_;rintro e et ⟨rfl,c7⟩;rw[c7];clear c7;refine⟨_,rfl,⟨t.out.facts.1,t.out.facts.2.1⟩,jO ?_⟩;refine zZ ?_;refine(jM A u H b at_ (ar a) _ _ _ rfl rfl (t.out.sr V.out) dx oO am).mono ?_;rintro e ew ⟨rfl,c8⟩;rw[c8];clear c8;refine⟨_,rfl,⟨t.out.facts.1,t.out.facts.2.1⟩,jO ?_⟩;generalize ce.drew=ck at*;clear b1;obtain⟨v,a9⟩:∃v,v=ar a:=⟨_,rfl⟩;rw[<-a9]at d9⊢;have ap:=aa a9;have ea:=nP a;rw[<-a9]at ea;clear a9;by_cases av:(b.drop at_).length<v
 ·have bs:w2 (aK (b.drop at_) 0 v=(0,10)):=by show _=_;unfold aK;rw[xl oO]
  have s:w2 (aQ a (b.drop at_) out=(10,b.drop at_,out,a)):=by show _=_;unfold aQ;rw[<-ap.out,xl av]
  clear av;rw[bs.out];refine zO q.out ?_;refine zO q.out ?_;refine zO q.out ?_;refine zO q.out ?_;refine zO q.out ?_;refine aj ?_
  go_wp2_with(first
   |((with_reducible show y7 _ _ _ (⟨_,UE 163 _,_,_,_,_⟩::_) _ _);refine aP rfl 163 _ rfl _ B0 rfl ⟨X,0,U⟩ (dp at_ a f out.length co) cR rfl t.out.load ?_)
   |((with_reducible show y7 _ _ _ (⟨_,HZ 163 _ _,_,_,_,_⟩::_) _ _);refine aZ rfl 163 _ _ rfl 163 Y 0 _ (dp at_ a f out.length co) rfl rfl t.out.yr cR (by show 3<=3;omega) (kg _ _ _ _ _) ?_))
  (try simp only[Uv,Exit.then])
  refine y4 (eO rfl _ _ Y (dp at_ a f out.length co) _ (I J 10) rfl rfl t.out.fin.1.cells B0 rfl cR) rfl ?_;exact⟨at_,a,out.length,f,co,⟨by rw[s.out],by rw[<-y.out];omega⟩,t.out.fin.2.1,λh=>by rw[s.out]at h;exact absurd h oS⟩
 ·obtain⟨k,Z⟩:∃k,k=ba (b.drop at_) 0 v:=⟨_,rfl⟩;have o:k<32:=by rw[Z,ap.out];exact qQ (b.drop at_) a
  have c9:k<2^v:=by rw[Z];exact eS (b.drop at_) 0 v
  have bs:w2 (aK (b.drop at_) 0 v=(((k:Nat):Int),0)):=by show _=_;unfold aK;rw[w6 oO,Z]
  have s:w2 (aQ a (b.drop at_) out=xC a k (b.drop (at_+v)) out):=by show _=_;unfold aQ;rw[<-ap.out,w6 av,<-Z,List.drop_drop]
  have a0:at_+v<=u:=by rw[B1,<-y.out]at av;omega
  have ec:=aa c9;clear av Z c9;rw[bs.out];refine zO q.out ?_;refine zO q.out ?_;refine zO q.out ?_;refine zO q.out ?_;refine zO q.out ?_;refine aj ?_;go_wp2;have b2:w2 (∀W,af ck W->W.cell? ⟨X,0,U⟩=gk (I J (at_:Int))/\W.cell? ⟨X,1,U⟩=gk (I J (a:Int))):=λW bt=>⟨(t.out.below bt).facts.1,(t.out.below bt).facts.2.1⟩;obtain⟨c,b9⟩:∃c,c=at_+v:=⟨_,rfl⟩;have fb:J.wrap ((at_:Int)+(v:Int))=(c:Int):=by rw[aG _ oO oO];omega
  rw[<-b9]at s a0;have ey:=aa b9;clear b9;have da:w2 (∀W,wS w1 140 #[I J (a:Int)] W (au (I J (v:Int)) W)):=λW=>by rw[ap.out];exact L3 a W
  refine bV (S:=af ck) 7 oK oK (ai (Below.refl _ _)) ?_;simp only[List.take_succ_cons,List.take_zero,List.drop_succ_cons,List.drop_zero]
  repeat refine kO b2.out ?_
  refine kX (λW bt=>da.out W) ?_
  repeat refine kO b2.out ?_
  refine cX ?_;intro cp dd;have ed:=aa dd;clear dd;have b3:=aa (t.out.below ed.out);have de:w2 (fU n w r (cp.setCell ⟨X,0,U⟩ (I J (c:Int))) X Y c a out f co):=b3.out.setAt c;obtain⟨cq,cr,cs,cv,cx,cy⟩:=b3.out.facts;clear b2 q t da b3;go_wp2_with fail
  clear cq cr cs cv cx cy;generalize cp.setCell ⟨X,0,U⟩ (I J (c:Int))=ex at*;refine(ua a k l o _).mono ?_;rintro e a8 ⟨rfl,di⟩;have i:=aa (de.out.below di);clear de di;obtain⟨cq,cr,cs,cv,cx,cy⟩:=i.out.facts;obtain⟨N,m⟩:∃N,N=cF a k:=⟨_,rfl⟩;obtain⟨d,z⟩:∃d,d=cD a k:=⟨_,rfl⟩;have be:d<5:=by rw[z];exact oP _ _
  have fc:N<5:=by rw[m];exact FB a l k o
  have ez:=aa m;have eA:=aa z;by_cases x:N=1
  ·have K:w2 (eM a k=dj a k):=by show _=_;unfold eM;rw[<-m,xl x]
   have ef:(dj a k).toList.isEmpty=R:=by rw[<-Wn];exact decide_eq_false (Cj a l k o oO)
   have eh:=je a l k o;have j:w2 (aQ a (b.drop at_) out=(0,b.drop c,out++(dj a k).data.toList,a)):=by show _=_;rw[s.out];unfold xC;rw[<-m,xl x]
   rw[K.out];clear m z s x K;generalize dj a k=bv at*
   go_wp2_with(first
    |(at_builtin;refine sw i.out.O i.out.ge rfl _ _ rfl rfl bv rfl (by have:=bz.out;omega) oO ?_;intro E F G dy b4 a1 a2;obtain⟨dz,dE,a3⟩:=i.out.grow a2.out a1.out;have B:=aa a3;clear a1 a2 a3)
    |((with_reducible show y7 _ _ _ (⟨_,UE 163 _,_,_,_,_⟩::_) _ _);refine aP rfl 163 _ rfl _ B0 rfl ⟨X,0,U⟩ (dp c a F E.length G) cR rfl B.out.load ?_)
    |((with_reducible show y7 _ _ _ (⟨_,HZ 163 _ _,_,_,_,_⟩::_) _ _);refine aZ rfl 163 _ _ rfl 163 Y 0 _ (dp c a F E.length G) rfl rfl B.out.yr cR (by show 3<=3;omega) (kg _ _ _ _ _) ?_))
   (try simp only[Uv,Exit.then])
   refine y4 (eO rfl _ _ Y (dp c a F E.length G) _ (I J 0) rfl rfl B.out.fin.1.cells B0 rfl cR) rfl ?_;exact⟨c,a,E.length,F,G,⟨by rw[j.out],by rw[<-y.out];omega⟩,B.out.fin.2.1,λ_=>by rw[j.out,<-b4.out];exact⟨by rw[<-y.out];omega,rfl,rfl,rfl,B.out.fin.2.2⟩⟩
  have K:w2 (eM a k=ByteArray.empty):=by show _=_;unfold eM;rw[<-m,w6 x]
  have e0:ByteArray.empty.toList.isEmpty=wP:=by rw[<-Wn];exact decide_eq_true rfl
  rw[K.out];by_cases C:N=2
  ·have O:w2 (iI a k=(d:Int)):=by show _=_;unfold iI;rw[<-m,xl C,<-z]
   have j:w2 (aQ a (b.drop at_) out=(0,b.drop c,out,d)):=by show _=_;rw[s.out];unfold xC;rw[<-m,w6 x,xl C,<-z]
   have a4:w2 (fU n w r (a8.setCell ⟨X,1,U⟩ (I J (d:Int))) X Y c d out f co):=i.out.P9 d;clear m z s x C K
   go_wp2_with(first
    |(go_at_call 143;refine(lZ a k l o _).mono ?_;rintro e D ⟨rfl,g⟩;rw[g,O.out];clear g)
    |((with_reducible show y7 _ _ _ (⟨_,UE 163 _,_,_,_,_⟩::_) _ _);refine aP rfl 163 _ rfl _ B0 rfl ⟨X,0,U⟩ (dp c d f out.length co) cR rfl a4.out.load ?_)
    |((with_reducible show y7 _ _ _ (⟨_,HZ 163 _ _,_,_,_,_⟩::_) _ _);refine aZ rfl 163 _ _ rfl 163 Y 0 _ (dp c d f out.length co) rfl rfl a4.out.yr cR (by show 3<=3;omega) (kg _ _ _ _ _) ?_))
   (try simp only[Uv,Exit.then])
   refine y4 (eO rfl _ _ Y (dp c d f out.length co) _ (I J 0) rfl rfl a4.out.fin.1.cells B0 rfl cR) rfl ?_;exact⟨c,d,out.length,f,co,⟨by rw[j.out],by rw[<-y.out];omega⟩,a4.out.fin.2.1,λ_=>by rw[j.out];exact⟨by rw[<-y.out];omega,rfl,rfl,rfl,a4.out.fin.2.2⟩⟩
  have O:w2 (iI a k=-1):=by show _=_;unfold iI;rw[<-m,w6 C]
  by_cases k3:N=3
  ·have S:w2 (j2 a k=(d:Int)):=by show _=_;unfold j2;rw[<-m,xl k3,<-z]
   have c2:ar d=5:=by rw[z];exact zf a l k o oO
   have T:w2 (aQ a (b.drop at_) out=((fy d (b.drop c) out).1,(fy d (b.drop c) out).2.1,(fy d (b.drop c) out).2.2,a)):=by show _=_;rw[s.out];unfold xC;rw[<-m,w6 x,w6 C,xl k3,<-z]
   have P:w2 (fy d (b.drop c) out=if(b.drop c).length<5 then(10,b.drop c,out)else if cF d (ba (b.drop c) 0 5)=1 then(0,b.drop (c+5),out++(dj d (ba (b.drop c) 0 5)).data.toList)else(22,b.drop (c+5),out)):=by
    show _=_;unfold fy;rw[c2,List.drop_drop]
   clear m z s x C k3 K c2;by_cases a5:(b.drop c).length<5
   ·have bb:w2 (aK (b.drop c) 0 5=(0,10)):=by show _=_;unfold aK;rw[xl oO]
    have j:w2 (aQ a (b.drop at_) out=(10,b.drop c,out,a)):=by show _=_;rw[T.out,P.out,xl a5]
    clear a5 T P
    go_wp2_with(first
     |(go_at_call 143;refine(lZ a k l o _).mono ?_;rintro e D ⟨rfl,g⟩;rw[g,O.out];clear g)
     |(go_at_call 144;refine(nO a k l o _).mono ?_;rintro e D ⟨rfl,g⟩;rw[g,S.out];clear g)
     |(go_at_call 176;refine(jM A u H b c 5 _ 5 _ rfl rfl (i.out.sr V.out) a0 oO am).mono ?_;rintro e c3 ⟨rfl,L⟩;rw[L,bb.out];clear L)
     |((with_reducible show y7 _ _ _ (⟨_,UE 163 _,_,_,_,_⟩::_) _ _);refine aP rfl 163 _ rfl _ B0 rfl ⟨X,0,U⟩ (dp c a f out.length co) cR rfl i.out.load ?_)
     |((with_reducible show y7 _ _ _ (⟨_,HZ 163 _ _,_,_,_,_⟩::_) _ _);refine aZ rfl 163 _ _ rfl 163 Y 0 _ (dp c a f out.length co) rfl rfl i.out.yr cR (by show 3<=3;omega) (kg _ _ _ _ _) ?_))
    (try simp only[Uv,Exit.then])
    refine y4 (eO rfl _ _ Y (dp c a f out.length co) _ (I J 10) rfl rfl i.out.fin.1.cells B0 rfl cR) rfl ?_;exact⟨c,a,out.length,f,co,⟨by rw[j.out],by rw[<-y.out];omega⟩,i.out.fin.2.1,λh=>by rw[j.out]at h;exact absurd h oS⟩
   ·obtain⟨p,bd⟩:∃p,p=ba (b.drop c) 0 5:=⟨_,rfl⟩;have bf:p<32:=by rw[bd];exact eS (b.drop c) 0 5
    have bb:w2 (aK (b.drop c) 0 5=(((p:Nat):Int),0)):=by show _=_;unfold aK;rw[w6 oO,bd]
    have e9:c+5<=u:=by rw[B1,<-y.out]at a5;omega
    rw[w6 a5,<-bd]at P;clear a5 bd;by_cases c1:cF d p=1
    ·have b5:w2 (eM d p=dj d p):=by show _=_;unfold eM;rw[xl c1]
     have ef:(dj d p).toList.isEmpty=R:=by rw[<-Wn];exact decide_eq_false (Cj d be p bf c1)
     have eh:=je d be p bf;have j:w2 (aQ a (b.drop at_) out=(0,b.drop (c+5),out++(dj d p).data.toList,a)):=by show _=_;rw[T.out,P.out,xl c1]
     clear T P c1;have er:w2 (eM d p=dj d p):=b5.out;generalize dj d p=bv at*
     go_wp2_with(first
      |(go_at_call 143;refine(lZ a k l o _).mono ?_;rintro e D ⟨rfl,g⟩;rw[g,O.out];clear g)
      |(go_at_call 144;refine(nO a k l o _).mono ?_;rintro e D ⟨rfl,g⟩;rw[g,S.out];clear g)
      |(go_at_call 176;refine(jM A u H b c 5 _ 5 _ rfl rfl (i.out.sr V.out) a0 oO am).mono ?_;rintro e c3 ⟨rfl,L⟩;rw[L,bb.out];clear L)
      |(go_at_call 141;refine(ua d p be bf _).mono ?_;rintro e Q ⟨rfl,a6⟩;have M:=aa (i.out.below a6);obtain⟨d0,d1,d2,x0,d3,d4⟩:=M.out.facts;have ca:w2 (fU n w r (Q.setCell ⟨X,0,U⟩ (I J ((c:Int)+5))) X Y (c+5) a out f co):=(by have h:=M.out.setAt (c+5);rw[Int.natCast_add]at h;exact h);rw[er.out];clear a6)
      |(at_builtin;refine sw ca.out.O ca.out.ge rfl _ _ rfl rfl bv rfl (by have:=bz.out;omega) oO ?_;intro E F G dy b4 a1 a2;obtain⟨dz,dE,a3⟩:=ca.out.grow a2.out a1.out;have B:=aa a3;clear a1 a2 a3)
      |((with_reducible show y7 _ _ _ (⟨_,UE 163 _,_,_,_,_⟩::_) _ _);refine aP rfl 163 _ rfl _ B0 rfl ⟨X,0,U⟩ (dp (c+5) a F E.length G) cR rfl B.out.load ?_)
      |((with_reducible show y7 _ _ _ (⟨_,HZ 163 _ _,_,_,_,_⟩::_) _ _);refine aZ rfl 163 _ _ rfl 163 Y 0 _ (dp (c+5) a F E.length G) rfl rfl B.out.yr cR (by show 3<=3;omega) (kg _ _ _ _ _) ?_))
     (try simp only[Uv,Exit.then])
     refine y4 (eO rfl _ _ Y (dp (c+5) a F E.length G) _ (I J 0) rfl rfl B.out.fin.1.cells B0 rfl cR) rfl ?_;exact⟨(c+5),a,E.length,F,G,⟨by rw[j.out],by rw[<-y.out];omega⟩,B.out.fin.2.1,λ_=>by rw[j.out,<-b4.out];exact⟨by rw[<-y.out];omega,rfl,rfl,rfl,B.out.fin.2.2⟩⟩
    ·have b5:w2 (eM d p=ByteArray.empty):=by show _=_;unfold eM;rw[w6 c1]
     have j:w2 (aQ a (b.drop at_) out=(22,b.drop (c+5),out,a)):=by show _=_;rw[T.out,P.out,w6 c1]
     clear T P c1
     go_wp2_with(first
      |(go_at_call 143;refine(lZ a k l o _).mono ?_;rintro e D ⟨rfl,g⟩;rw[g,O.out];clear g)
      |(go_at_call 144;refine(nO a k l o _).mono ?_;rintro e D ⟨rfl,g⟩;rw[g,S.out];clear g)
      |(go_at_call 176;refine(jM A u H b c 5 _ 5 _ rfl rfl (i.out.sr V.out) a0 oO am).mono ?_;rintro e c3 ⟨rfl,L⟩;rw[L,bb.out];clear L)
      |(go_at_call 141;refine(ua d p be bf _).mono ?_;rintro e Q ⟨rfl,a6⟩;have M:=aa (i.out.below a6);obtain⟨d0,d1,d2,x0,d3,d4⟩:=M.out.facts;rw[b5.out];clear a6)
      |((with_reducible show y7 _ _ _ (⟨_,UE 163 _,_,_,_,_⟩::_) _ _);refine aP rfl 163 _ rfl _ B0 rfl ⟨X,0,U⟩ (dp c a f out.length co) cR rfl M.out.load ?_)
      |((with_reducible show y7 _ _ _ (⟨_,HZ 163 _ _,_,_,_,_⟩::_) _ _);refine aZ rfl 163 _ _ rfl 163 Y 0 _ (dp c a f out.length co) rfl rfl M.out.yr cR (by show 3<=3;omega) (kg _ _ _ _ _) ?_))
     (try simp only[Uv,Exit.then])
     refine y4 (eO rfl _ _ Y (dp c a f out.length co) _ (I J 22) rfl rfl M.out.fin.1.cells B0 rfl cR) rfl ?_;exact⟨c,a,out.length,f,co,⟨by rw[j.out],by rw[<-y.out];omega⟩,M.out.fin.2.1,λh=>by rw[j.out]at h;exact absurd h oS⟩
  have S:w2 (j2 a k=-1):=by show _=_;unfold j2;rw[<-m,w6 k3]
  by_cases k4:N=4
  ·have dl:((a:Int)==3)=R:=by rw[beq_eq_false_iff_ne];have:=JA a l k o oO;omega
   have j:w2 (aQ a (b.drop at_) out=((cB (b.drop c) out).1,(cB (b.drop c) out).2.1,(cB (b.drop c) out).2.2,a)):=by show _=_;rw[s.out];unfold xC;rw[<-m,w6 x,w6 C,w6 k3,xl k4]
   clear m z s x C k3 k4 K;have ek:w2 (wS w1 177 #[.slice A u H,.agg #[I J (c:Int),I J (a:Int),.slice f out.length co]] a8 (wV n w a8 b (aQ a (b.drop at_) out))):=by
    show wS _ _ _ _ _;rw[j.out];exact Gr n w a8 A u H b c a out f co V.out i.out.B i.out.O i.out.n2 a0 am (by have:=bz.out;omega)
   go_wp2_with(first
    |(go_at_call 143;refine(lZ a k l o _).mono ?_;rintro e D ⟨rfl,g⟩;rw[g,O.out];clear g)
    |(go_at_call 144;refine(nO a k l o _).mono ?_;rintro e D ⟨rfl,g⟩;rw[g,S.out];clear g)
    |((with_reducible show y7 _ _ _ (⟨_,UE 163 _,_,_,_,_⟩::_) _ _);refine aP rfl 163 _ rfl _ B0 rfl ⟨X,0,U⟩ (dp c a f out.length co) cR rfl i.out.load ?_)
    |(go_at_call 177;refine ek.out.mono ?_;rintro e Q ⟨ab,ac,n2,ad,al,⟨rfl,es⟩,⟨dn,b6⟩,ds⟩;have b7:w2 (ag Q Y (dp 0 0 U 0 0).toArray 163):=i.out.yr.kp b6 rfl;have el:=aa dn;have em:=aa b6;have en:=aa ds;clear dn b6 ds)
    |((with_reducible show y7 _ _ _ (⟨_,HZ 163 _ _,_,_,_,_⟩::_) _ _);refine aZ rfl 163 _ _ rfl 163 Y 0 _ (dp ab ac ad n2 al) rfl rfl b7.out cR (by show 3<=3;omega) (kg _ _ _ _ _) ?_))
   (try simp only[Uv,Exit.then])
   rw[jR _ (dp ab ac ad n2 al) (by rfl)];refine y4 (eO rfl _ _ Y (dp ab ac ad n2 al) _ (I J (aQ a (b.drop at_) out).1) rfl rfl (b7.out.set (dp ab ac ad n2 al).toArray).cells B0 rfl cR) rfl ?_;refine⟨ab,ac,n2,ad,al,⟨rfl,es⟩,⟨below_setRow el.out i.out.nY _,(i.out.K.trans em.out).setRow _ i.out.n1.2 _⟩,λh=>?_⟩;obtain⟨p1,p2,d5,d6,c4⟩:=en.out h;refine⟨p1,p2,d5,d6,c4.1,?_⟩;rcases c4.2 with bx|⟨a7,cap,dv,d7,bx,c5,d8⟩
   ·exact .inl bx
   ·refine .inr ⟨a7,cap,dv,d7,bx,?_,d8⟩;have eq:a7≠Y:=λe=>Tag.ne (⟨dv,c5⟩:Tag Q a7 5) b7.out.tag oD e;exact(setRow_other Q Y a7 _ eq).trans c5
  ·have dl:a=3:=JX a l k o oO (by have:=ec.out;rw[ap.out]at this;exact this);have j:w2 (aQ a (b.drop at_) out=(22,b.drop c,out,a)):=by show _=_;rw[s.out];unfold xC;rw[<-m,w6 x,w6 C,w6 k3,w6 k4]
   have fd:((a:Int)==3)=wP:=by rw[beq_iff_eq];omega
   clear m z s x C k3 k4 K dl
   go_wp2_with(first
    |(go_at_call 143;refine(lZ a k l o _).mono ?_;rintro e D ⟨rfl,g⟩;rw[g,O.out];clear g)
    |(go_at_call 144;refine(nO a k l o _).mono ?_;rintro e D ⟨rfl,g⟩;rw[g,S.out];clear g)
    |((with_reducible show y7 _ _ _ (⟨_,UE 163 _,_,_,_,_⟩::_) _ _);refine aP rfl 163 _ rfl _ B0 rfl ⟨X,0,U⟩ (dp c a f out.length co) cR rfl i.out.load ?_)
    |((with_reducible show y7 _ _ _ (⟨_,HZ 163 _ _,_,_,_,_⟩::_) _ _);refine aZ rfl 163 _ _ rfl 163 Y 0 _ (dp c a f out.length co) rfl rfl i.out.yr cR (by show 3<=3;omega) (kg _ _ _ _ _) ?_))
   (try simp only[Uv,Exit.then])
   refine y4 (eO rfl _ _ Y (dp c a f out.length co) _ (I J 22) rfl rfl i.out.fin.1.cells B0 rfl cR) rfl ?_;exact⟨c,a,out.length,f,co,⟨by rw[j.out],by rw[<-y.out];omega⟩,i.out.fin.2.1,λh=>by rw[j.out]at h;exact absurd h oS⟩
theorem MG {F m:Nat} {b:List Bool} {out:List HH} (h:jm b=wP):lD (F+1) m b out=(out,0):=by
 unfold lD;rw[xl h]
theorem K0 {F m:Nat} {b:List Bool} {out:List HH} (h:jm b=R) (a:(aQ m b out).1≠0):lD (F+1) m b out=([],(aQ m b out).1):=by
 show(if jm b=wP then(out,(0:Int))else if(aQ m b out).1=0 then lD F (aQ m b out).2.2.2 (aQ m b out).2.1 (aQ m b out).2.2.1 else([],(aQ m b out).1))=_;rw[h,w6 oS,w6 a]
theorem J0 {F m:Nat} {b:List Bool} {out:List HH} (h:jm b=R) (a:(aQ m b out).1=0):lD (F+1) m b out=lD F (aQ m b out).2.2.2 (aQ m b out).2.1 (aQ m b out).2.2.1:=by
 show(if jm b=wP then(out,(0:Int))else if(aQ m b out).1=0 then lD F (aQ m b out).2.2.2 (aQ m b out).2.1 (aQ m b out).2.2.1 else([],(aQ m b out).1))=_;rw[h,w6 oS,xl a]
structure PJ (w wr:wR) (X:Nat) (at_ mode:Nat) (out:List HH) (a:xv Addr) (co:Nat):Prop where
 B:af w wr
 xr:ag wr X (dp at_ mode a out.length co).toArray 163
 O:wr.ownsRow w.heap.size 5 1 (.slice a out.length co) out.length (out.map vU)
 nX:w.heap.size<=X
def Ju (W:wR) (X:Nat):Nat:=match W.cell? ⟨X,0,U⟩with|some (.int _ k)=>k.toNat|_=>0
def SO:xf->Nat|.int _ 0=>1|_=>0
theorem RB {a:Int} (h:a≠0):SO (I J a)=0:=by unfold SO;split<;>simp_all
theorem Ef {W:wR} {X at_ a k c:Nat} {A:xv Addr} (h:ag W X (dp at_ a A k c).toArray 163):Ju W X=at_:=by
 unfold Ju;rw[h.cell 0 _ rfl];rfl
theorem GZ (A:xv Addr) (n c:Nat) (b:List Bool) (w:wR) (hb:SR vB R w A n c b):
 wS w1 79 #[.slice A n c] w (RT vU 0 w (cV b)):=by
 have hn:n=b.length:=hb.hn;by_cases hl:n<=1048576
 ·have a6:w2 (cV b=lD (n+1) 0 b []):=by show _=_;unfold cV;rw[w6 oO,hn]
  have a7:decide ((1048576:Int)<(n:Int))=R:=by simp;omega
  have K:=aa hb;have t:=aa hn;have u:=aa hl;clear hb hn;go_enter func79,ntmps79;go_wp2
  have Z:w2 (PJ w (w.alloc (.cells #[I J 0,I J 0,.slice U 0 0] 163)) w.heap.size 0 0 [] U 0):=
   ⟨ax _ _,ag.new _ _ _ _ rfl,eR (World.ownsRow_nil _ _ _ _) _,Nat.le_refl _⟩
  obtain⟨X,D⟩:∃X,X=w.heap.size:=⟨_,rfl⟩;obtain⟨E,O⟩:∃E,E=w.alloc (.cells #[I J 0,I J 0,.slice U 0 0] 163):=⟨_,rfl⟩;have b6:w2 (X=w.heap.size):=D;rw[<-O,show PJ w E w.heap.size=PJ w E X from by rw[D]]at Z;change Code.wp _ _ _ _ (w.alloc (.cells #[I J 0,I J 0,.slice U 0 0] 163));rw[<-O,show(Value.pointer (gk {block:=w.heap.size,off:=0}))=(Value.pointer (gk {block:=X,off:=0}))from by rw[D]];clear O D;go_loopw [5] (λev wr=>(ev=I J 0/\∃(at_ a f:Nat) (out:List HH) (i:xv Addr) (co:Nat),at_<=n/\a<5/\w2 (PJ w wr X at_ a out i co)/\w2 (lD f a (b.drop at_) out=cV b)/\n-at_<f/\w2 (out.length+(b.drop at_).length<=b.length))\/(∃(q:Int) (at_ a k:Nat) (i:xv Addr) (co:Nat),q≠0/\ev=I J q/\at_<=n/\w2 (af w wr)/\w2 (ag wr X (dp at_ a i k co).toArray 163)/\w2 (cV b=([],q)))) (λev wr=>SO ev* (n+1-Ju wr X))
  case atStart=>exact .inl ⟨rfl,0,0,n+1,[],U,0,by omega,by omega,Z.out,a6.out.symm,by omega,by show _<=_;simp⟩
  case round=>
   rcases hrel with⟨rfl,at_,a,f,out,i,co,y,ab,g,hF,b2,T⟩|⟨q,at_,a,k,i,co,ac,rfl,y,hB,bq,hF⟩
   ·have a8:=g.out.xr.cell 0 _ rfl;have b3:=g.out.xr.cell 2 _ rfl;obtain⟨F,rfl⟩:∃F,f=F+1:=⟨f-1,by omega⟩;have G:w2 (SR vB R wr A n c b):=K.out.below g.out.B;cases m:jm (b.drop at_)with
    |true=>
     have B:w2 (cV b=(out,0)):=by show _=_;rw[<-hF.out];exact MG m
     have r:w2 (wS w1 127 #[.slice A n c,I J (at_:Int)] wr λe v=>e= .returned (.bool wP)/\v=wr):=by rw[<-m];exact vk A n c b at_ wr G.out y u.out
     clear hF m;go_wp2_with(go_at_call 127;refine r.out.mono ?_;rintro e L ⟨rfl,d⟩;rw[d];clear d)
     go_ret2
     exact RT.mk B.out (SG.bL g.out.O) g.out.B
    |false=>
     have r:w2 (wS w1 127 #[.slice A n c,I J (at_:Int)] wr λe v=>e= .returned (.bool R)/\v=wr):=by rw[<-m];exact vk A n c b at_ wr G.out y u.out
     have ad:out.length<=70000000:=by have:=T.out;have:=u.out;have:=t.out;omega
     have al:w2 (wS w1 128 #[.slice A n c,.agg #[I J (at_:Int),I J (a:Int),.slice i out.length co]] wr (wV w.heap.size w wr b (aQ a (b.drop at_) out))):=
      Li w.heap.size w wr A n c b at_ a out i co K.out g.out.B g.out.O rfl y u.out ad ab
     have B:w2 (cV b=if(aQ a (b.drop at_) out).1=0 then lD F (aQ a (b.drop at_) out).2.2.2 (aQ a (b.drop at_) out).2.1 (aQ a (b.drop at_) out).2.2.1 else([],(aQ a (b.drop at_) out).1)):=by
      show _=_;rw[<-hF.out];by_cases H:(aQ a (b.drop at_) out).1=0
      ·rw[xl H];exact J0 m H
      ·rw[w6 H];exact K0 m H
     have am:w2 ((aQ a (b.drop at_) out).1=0->b.drop (b.length-(aQ a (b.drop at_) out).2.1.length)=(aQ a (b.drop at_) out).2.1/\(aQ a (b.drop at_) out).2.1.length<(b.drop at_).length/\(aQ a (b.drop at_) out).2.2.1.length+(aQ a (b.drop at_) out).2.1.length<=out.length+(b.drop at_).length/\(aQ a (b.drop at_) out).2.2.2<5):=by
      show _->_;refine DM ab ?_ (by rw[B1];omega);rw[B1,show b.length-(b.length-at_)=at_ from by have:=t.out;omega]
     have bs:w2 (Ju wr X=at_):=Ef g.out.xr;clear hF m ad;obtain⟨sr,ap⟩:∃sr,sr=aQ a (b.drop at_) out:=⟨_,rfl⟩;rw[<-ap]at B am al;clear ap
     go_wp2_with(first
      |(go_at_call 127;refine r.out.mono ?_;rintro e L ⟨rfl,d⟩;rw[d];clear d)
      |((with_reducible show y7 _ _ _ (⟨_,UE 163 _,_,_,_,_⟩::_) _ _);refine aP rfl 163 _ rfl _ B0 rfl ⟨X,0,U⟩ (dp at_ a i out.length co) cR rfl (gE g.out.xr.cells) ?_)
      |(go_at_call 128;refine al.out.mono ?_;rintro e x ⟨j,s,n2,o,p,⟨rfl,P⟩,⟨av,a0⟩,a1⟩;have Q:w2 (ag x X (dp at_ a i out.length co).toArray 163):=g.out.xr.kp a0 rfl;have bt:=aa av;have bv:=aa a1;clear av a0 a1)
      |((with_reducible show y7 _ _ _ (⟨_,HZ 163 _ _,_,_,_,_⟩::_) _ _);refine aZ rfl 163 _ _ rfl 163 X 0 _ (dp j s o n2 p) rfl rfl Q.out cR (by show 3<=3;omega) (kg _ _ _ _ _) ?_))
     rw[jR _ (dp j s o n2 p) (by rfl)];have a2:w.heap.size<=X:=g.out.nX;have S:ag (x.setRow X (dp j s o n2 p).toArray) X (dp j s o n2 p).toArray 163:=Q.out.set _;have a5:af w (x.setRow X (dp j s o n2 p).toArray):=below_setRow bt.out a2 _;rw[<-t.out]at P;rw[Ef S,bs.out];by_cases l:sr.1=0
     ·obtain⟨b4,M,a9,bb,V⟩:=bv.out l;obtain⟨b5,bd,s3,be⟩:=am.out l;subst a9 bb;have bz:(b.drop j).length=n-j:=by rw[B1,t.out]
      have b1:(b.drop at_).length=n-at_:=by rw[B1,t.out]
      rw[<-M,bz,b1]at bd;refine⟨.inl ⟨by rw[l],j,sr.2.2.2,F,sr.2.2.1,o,p,P,be,⟨a5,S,?_,a2⟩,?_,by omega,?_⟩,?_⟩
      ·refine⟨V.1,?_⟩;rcases V.2 with N|⟨C,cap,a3,bf,N,W,d⟩
       ·exact .inl N
       ·refine .inr ⟨C,cap,a3,bf,N,?_,d⟩;have bx:C≠X:=λe=>Tag.ne (⟨a3,W⟩:Tag x C 5) Q.out.tag oD e;exact(setRow_other x X C _ bx).trans W
      ·show _=_;rw[B.out,xl l,M]
      ·show _<=_;rw[M];have:=T.out;omega
      ·rw[l];show 1* _<1* _;omega
     ·refine⟨.inr ⟨sr.1,j,s,n2,o,p,l,rfl,P,a5,S,by show _=_;rw[B.out,w6 l]⟩,?_⟩;rw[RB l];show 0* _<1* _;omega
   ·have a8:=bq.out.cell 0 _ rfl;have G:w2 (SR vB R wr A n c b):=K.out.below hB.out;have r:w2 (∃z,wS w1 127 #[.slice A n c,I J (at_:Int)] wr λe v=>e= .returned (.bool z)/\v=wr):=⟨_,vk A n c b at_ wr G.out y u.out⟩;have bi:(q==0)=R:=by rw[beq_eq_false_iff_ne];exact ac
    have b7:(q !=0)=wP:=by rw[bne,bi];rfl
    obtain⟨z,a4⟩:=r.out;have Y:=aa a4;clear r a4 ac;cases z with
    |true=>
     go_wp2_with(go_at_call 127;refine Y.out.mono ?_;rintro e L ⟨rfl,d⟩;rw[d];clear d)
     go_ret2
     exact RT.mk hF.out (SG.dw _) hB.out
    |false=>
     go_wp2_with(go_at_call 127;refine Y.out.mono ?_;rintro e L ⟨rfl,d⟩;rw[d];clear d)
     go_ret2
     exact RT.mk hF.out (SG.dw _) hB.out
 ·have bo:w2 (cV b=([],4)):=by show _=_;unfold cV;rw[xl oO]
  have a7:decide ((1048576:Int)<(n:Int))=wP:=by simp;omega
  clear hb hn;go_enter func79,ntmps79;go_wp2;go_ret2
  exact RT.mk bo.out (SG.dw _) (Below.refl _ _)
end
section
open Go.ChangeShapes Go.WideShapes Go.ChangeAt Go.RowKit
theorem Lp {H:Type} {m:Ar×xf->H} {f:Program} (hl:laidOutB f=wP) {W j:wR} (hb:af W j):
 ∀(e:List Ar) (c:List xf) (a:List (DataW H)) (ps:List MemPlace),(∀g∈e,f.readableRec g=wP/\g<f.types.size)->
  DataW.TrodAll m f W 0 (λ_=>wP) wP e c a ps->(∀x∈ps,x.block<W.heap.size)->
  DataW.TrodAll m f j 0 (λb=>decide (b<W.heap.size)) wP e c a ps:=by
 intro e
 induction e with
 |nil=>
  intro c a ps _ h _;cases c<;>cases a<;>first|exact h|exact h.elim
 |cons g e p=>
  intro c a ps k h n;cases c with
  |nil=>cases a<;>exact h.elim
  |cons v c=>
   cases a with
   |nil=>exact h.elim
   |cons d a=>
    obtain⟨o,q,r,s,rfl⟩:=h;have l:=k g oS;exact⟨o,q,Below.trod hl l.1 l.2 r hb (λx i=>n x (by simp[i])),p c a q (λt u=>k t (by simp[u])) s (λx i=>n x (by simp[i])),rfl⟩
theorem Pb {H:Type} {k:Ar×xf->H} {a:Program} (hl:laidOutB a=wP) {f:Func} {s:ChangeSpec} {W i:wR} {args:Array xf} {b c:List (DataW H)} {t:List MemPlace} {B:Ar}
 (hB:a.underlying B=gk .bool) (p:f.resultTypes=#[B]) (r:s.vars=[]) (n:∀e∈f.params.toList,a.readableRec e=wP/\e<a.types.size)
 (d:DataW.Whole k a f.params.toList s.vars R W args.toList b c t)
 (hs:s.fn H (b++c)={results:=[.lit (.bool wP)],args:=b}) (hb:af W i):
 s.post k a f R wP R R W args (.bool wP) i:=by
 have o:=d.lt;obtain⟨g,q,l,j,rfl,u,v⟩:=id d;refine⟨b,c,g++q,[],g,q,d,?_,?_,?_,hb.frame _,λh=>by cases h⟩
 ·rw[hs,p];exact trodAll_cons_mk (shut_bool hB _) trodAll_mk0
 ·rw[hs];exact Lp hl hb _ _ _ _ n l (λx m=>o x (by simp[m]))
 ·rw[hs];rw[r]at j⊢;obtain⟨rfl,rfl⟩:=trodVars_none j;rfl
theorem Qw {w:wR} {a:Addr} {v:xf} (h:w.cell? a=gk v):a.block<w.heap.size:=by
 rcases Nat.lt_or_ge a.block w.heap.size with b|b
 ·exact b
 ·unfold World.cell? at h;rw[Array.getElem?_eq_none b]at h;cases h
theorem SR.TI {a:Type} {f:a->xf} {d:a} (W:wR):SR f d W U 0 0 []:=⟨rfl,Nat.le_refl _,Nat.zero_le _,RG.dw _ _⟩
theorem TP:ownKnob prog.godebug=U:=oK
theorem Ts:laidOutB w1=wP:=oK
theorem N6 {H:Type} {l:Ar×xf->H} {W:wR} {v:xf} {n:Nat} {x:DataW H×List MemPlace}
 (i:DataW.trod l w1 W 0 (λ_=>wP) wP n 26 [v]=gk x):∃A n c g,v= .slice A n c/\SR vB R W A n c g:=by
 rcases Deep.open_bools underlying26 underlying4 oK i with⟨b,_⟩|⟨a,len,cap,B,b,_,hl,j,m,f⟩
 ·injection b with b _;exact⟨U,0,0,[],b,SR.TI _⟩
 ·injection b with b _;refine⟨gk a,len,cap,(List.range len).map B,b,⟨by simp,hl,j,λhn=>?_⟩⟩;simp only[List.length_map,WT]at hn;have k:=f 0 oO;refine⟨a,rfl,by have:=Qw k;rw[aD]at this;exact this,λd e=>?_⟩;simp only[List.length_map,WT]at e;rw[f d oO];have e2:((List.range len).map B).getD d R=B d:=by
   rw[List.getD_eq_getElem?_getD,List.getElem?_map,List.getElem?_range e];rfl
  rw[e2]
theorem M8 {H:Type} {l:Ar×xf->H} {W:wR} {b0:Nat} {e:Reach} {v:xf} {d:DataW H} {f:List MemPlace}
 (g:Value.okWide w1 W e b0 28 v) (h:DataW.Trod l w1 W 0 (λ_=>wP) wP 28 v d f):∃(x y:Int) (A:xv Addr) (n c:Nat) (a:List Bool),v= .agg #[I J x,I J y,.slice A n c]/\SR vB R W A n c a:=by
 obtain⟨v0,v1,o,p,q,r,n,rfl,-,-,i,j,k⟩:=Joins.open_agg3 underlying28 oK oK g h;obtain⟨x,b,-,-⟩:=DataW.trod_int Uu i;obtain⟨y,e1,-,-⟩:=DataW.trod_int Uu j;obtain⟨A,m,c,a,e2,hs⟩:=N6 k;injection b with b;injection e1 with e1;subst b e1 e2;exact⟨x,y,A,m,c,a,rfl,hs⟩
end
theorem dD {a b:Bool} (h:a=wP) (c:b=wP):(a&&b)=wP:=by rw[h,c];rfl
theorem Qj:laidOutB w1=wP:=oK
theorem Em:mapsRowed w1=wP:=oK
theorem O8:(prog.stops==[])=wP:=oK
theorem EB:(prog.stopKnobs==[])=wP:=oK
theorem CA:prog.stopsHeard=wP:=oK
theorem F6:prog.mayEnter=wP:=oK
end Go.Proofs.YtmnlkganmgcpbaaGreatDoor
