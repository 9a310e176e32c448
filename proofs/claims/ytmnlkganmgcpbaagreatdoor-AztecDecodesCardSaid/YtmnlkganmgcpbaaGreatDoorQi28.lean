import Derived.Test.YtmnlkganmgcpbaaGreatDoorQi27
set_option maxRecDepth 100000
set_option maxHeartbeats 4000000
set_option linter.unusedVariables false
set_option linter.unusedSectionVars false
set_option linter.unusedSimpArgs false
set_option linter.defProp false
open Go.Value renaming int->I
open Go.IntKind renaming i64->J
open Bool renaming false->R,true->wP
open Option renaming none->U,some->gk,getD_some->HL,map_some->UM
open Go renaming World->wR,Calls->wS,Value->xf,below_setRow->Lq
open Go.Proofs.Tryz renaming prog->w1
open Go.RowKit renaming Hid->w2
open Go.RowKit.Below renaming refl->w3
open List renaming getElem?_cons_zero->w7,getElem?_cons_succ->w8,length_append->w9,getD->x4,not_mem_nil->Ay,mem_cons->AQ,length_drop->B1,flatMap_cons->Vk
open Nat renaming lt_of_lt_of_le->x6,zero_add->B3,mul_le_mul->Cq
open Go.Proofs.Tryz
namespace Go.Proofs.YtmnlkganmgcpbaaGreatDoor
section
open Go.RowKit
abbrev Sy:=Nat×Bool
def lr (a:Sy):List xf:=[I J (a.1:Int),.bool a.2]
theorem Q1 (b:Sy):∀v∈lr b,v.oneCell'=wP:=by
 intro v a;simp only[lr,AQ,Ay,or_false]at a;rcases a with rfl|rfl<;>rfl
theorem OY (a:List Sy):∀v∈a.flatMap lr,v.oneCell'=wP:=by
 intro v c;obtain⟨b,-,d⟩:=List.mem_flatMap.1 c;exact Q1 b v d
theorem xk (a:List Sy):(a.flatMap lr).length=a.length* 2:=by
 induction a with
 |nil=>rfl
 |cons c a b=>simp only[Vk,w9,b,List.length_cons];show 2+_=_;omega
theorem FX (b:List Sy) (a:Nat) (c:a<b.length):(b.flatMap lr)[2* a]?=gk (I J ((b.getD a (0,R)).1:Int))/\(b.flatMap lr)[2* a+1]?=gk (.bool (b.getD a (0,R)).2):=by
 induction b generalizing a with
 |nil=>simp at c
 |cons e b d=>
  cases a with
  |zero=>exact⟨rfl,rfl⟩
  |succ a=>
   have h:=d a (by simpa using c);simp only[Vk,lr];rw[show 2* (a+1)=2* a+2 from by omega];simp only[List.cons_append,List.nil_append,w8,List.getD_cons_succ];exact h
theorem Lr:(prog.info? 60).map (λa=>(a.zero,a.size,a.bytes))=gk (gk (.agg #[I J 0,.bool R]),2,16):=oK
def B6 (w:wR) (A:Option Addr) (c:List Sy):Prop:=0<c.length->∃b d,A=gk ⟨b,d,U⟩/\b<w.heap.size/\∀a,a<c.length->w.cell? ⟨b,d+a* 2,U⟩=gk (I J ((c.getD a (0,R)).1:Int))/\w.cell? ⟨b,d+a* 2+1,U⟩=gk (.bool (c.getD a (0,R)).2)
theorem B6.below {W b:wR} {A:Option Addr} {c:List Sy} (h:B6 W A c) (hb:af W b):B6 b A c:=λhn=>by
 obtain⟨f,g,e,hl,hc⟩:=h hn;exact⟨f,g,e,x6 hl hb.size,λa d=>⟨(hb.cell hl).trans (hc a d).1,(hb.cell hl).trans (hc a d).2⟩⟩
def SY (w:wR) (v:xf) (a:List Sy):Prop:=∃A c,v= .slice A a.length c/\a.length<=c/\c<=maxLen/\B6 w A a
theorem SY.below {W a:wR} {v:xf} {b:List Sy} (h:SY W v b) (hb:af W a):SY a v b:=by
 obtain⟨A,c,rfl,d,e,f⟩:=h;exact⟨A,c,rfl,d,e,f.below hb⟩
theorem SY.dw (w:wR):SY w (.slice U 0 0) []:=⟨U,0,rfl,by simp,by simp,λh=>absurd h oS⟩
theorem SY.bL {W:wR} {base:Nat} {e:TypeId} {n:Nat} {v:xf} {b:List Sy} (h:W.ownsRow base e 2 v n (b.flatMap lr)):SY W v b:=by
 have hl:b.length=n:=by have:=h.1;rw[xk]at this;omega
 rcases h.2 with⟨rfl,rfl⟩|⟨c,cap,k,rfl,hb,hg,l,rz,_⟩
 ·have:b=[]:=List.eq_nil_of_length_eq_zero hl;subst this;exact SY.dw _
 ·refine⟨_,cap,by rw[hl],by omega,rz,λhn=>⟨c,0,rfl,ay hg,λa j=>?_⟩⟩;have g:=FX b a j;have e:0+a* 2=2* a:=oO;have c1:=h.cells (g:=c) rfl (2* a) _ g.1;have i:=h.cells (g:=c) rfl (2* a+1) _ g.2;rw[add_plain,B3]at c1 i;rw[e];exact⟨c1,i⟩
theorem B6.bL {W:wR} {base:Nat} {e:TypeId} {n:Nat} {A:Option Addr} {c:Nat} {a:List Sy} (h:W.ownsRow base e 2 (.slice A n c) n (a.flatMap lr)):B6 W A a:=by
 obtain⟨i,j,b,-,-,g⟩:=SY.bL h;injection b with e1 e2 e3;rw[e1];exact g
structure mW (w wr:wR) (v:xf) (a:List Sy):Prop where
 B:af w wr
 O:wr.ownsRow w.heap.size 60 2 v a.length (a.flatMap lr)
theorem mW.start (w:wR):mW w w (.slice U 0 0) []:=⟨w3 _ _,World.ownsRow_nil _ _ _ _⟩
theorem mW.below {w wr W:wR} {v:xf} {a:List Sy} (h:mW w wr v a) (b:af wr W):mW w W v a:=⟨ae h.B b,aq h.O b⟩
theorem mW.sp {w wr:wR} {v:xf} {a:List Sy} (h:mW w wr v a):SY wr v a:=SY.bL h.O
theorem Kk {W:wR} {base:Nat} {v:xf} {n:Nat} {f:List Sy} (i:TypeId) (k:W.ownsRow base 60 2 v n (f.flatMap lr)) (y:base<=W.heap.size) (e:Addr) (m c:Nat) (b:List Sy) (l:m=b.length)
 (hc:∀g u,(b.flatMap lr)[g]?=gk u->W.cell? (e.add g)=gk u) (hl:n+m<=1000000):
 ∃a d,(Builtin.append_ #[62,62] i #[v,.slice (gk e) m c]).run w1 W= .ok a d/\d.ownsRow base 60 2 a (n+m) ((f++b).flatMap lr)/\W.grownBy d v.ownBlock/\(a.ownBlock=v.ownBlock\/a.ownBlock=gk W.heap.size):=by
 obtain⟨o,p,s,t,w⟩:=info_parts Lr;obtain⟨a,d,x,j,q,_,r⟩:=run_append_own_at (P:=w1) W base 62 i 60 o _ 2 16 underlying62 p s t w rfl oO v n _ k e m c (b.flatMap lr) (by rw[xk,l]) hc (OY b) oM oO y;rw[<-List.flatMap_append]at j;exact⟨a,d,x,j,q,r⟩
theorem pP {j:Array Oper} {k:List Oper} {d:Oper} {a:Act} {Q:Exit->Act->wR->Prop} {W:wR} {base:Nat} {v:xf} {n:Nat} {l:List Sy} (o:W.ownsRow base 60 2 v n (l.flatMap lr)) (D:base<=W.heap.size) (B:d.guard=U) (s y:Operand)
 (p:d.op= .call {callee:= .builtin .append,args:=#[s,y],argTypes:=#[62,62]}) (hs:a.eval s=v) (g:Addr) (m c:Nat) (f:List Sy) (q:a.eval y= .slice (gk g) m c) (r:m=f.length)
 (hc:∀i u,(f.flatMap lr)[i]?=gk u->W.cell? (g.add i)=gk u) (hl:n+m<=1000000)
 (t:∀b e,e.ownsRow base 60 2 b (n+m) ((l++f).flatMap lr)->W.grownBy e v.ownBlock->(b.ownBlock=v.ownBlock\/b.ownBlock=gk W.heap.size)->wpList w1 j Q k (a.put d.dst b) e):wpList w1 j Q (d::k) a W:=by
 refine wpList_plain B λK w=>?_;obtain⟨b,e,C,x,z,A⟩:=Kk d.type o D g m c f r hc hl;unfold Oper.wp execOp;simp only[p,resolve,invoke,builtin,Sem.run_bind,Sem.run_pure,Result.andThen_ok,List.map_toArray,List.map_cons,List.map_nil,hs,q,C];exact w _ _ (t b e x z A)
theorem mW.grow {w wr W b:wR} {v v1:xf} {a c:List Sy} (h:mW w wr v a) (d:af wr W) (f:b.ownsRow w.heap.size 60 2 v1 (a.length+c.length) ((a++c).flatMap lr)) (hg:W.grownBy b v.ownBlock):mW w b v1 (a++c):=by
 refine⟨(ae h.B d).grown hg (by have:=(ae h.B d).size;exact this) (λk e=>(h.O.lt k e).1),?_⟩;rw[w9];exact f
theorem wj (W:wR) (b:List Sy) (d:TypeId):∀a u,(b.flatMap lr)[a]?=gk u->(W.alloc (.cells (b.flatMap lr).toArray d)).cell? ((⟨W.heap.size,0,U⟩:Addr).add a)=gk u:=by
 intro a u c;have e:a<(b.flatMap lr).length:=by
  rcases Nat.lt_or_ge a (b.flatMap lr).length with h|h
  ·exact h
  ·rw[List.getElem?_eq_none h]at c;cases c
 rw[add_plain,B3];have:=(an.new W (b.flatMap lr).toArray d W.heap.size rfl).2 a (by simpa using e);rw[this];simp only[List.toList_toArray,x4,c,HL]
theorem SY.lit (W:wR) (a:List Sy) (c:TypeId) (b n:Nat) (hb:b=W.heap.size) (hn:n=a.length) (j:n<=maxLen):SY (W.alloc (.cells (a.flatMap lr).toArray c)) (.slice (gk ⟨b,0,U⟩) n n) a:=by
 subst hb hn;refine⟨_,_,rfl,Nat.le_refl _,j,λ_=>⟨_,0,rfl,by simp,λi k=>?_⟩⟩;have h:=FX a i k;have e:=wj W a c _ _ h.1;have g:=wj W a c _ _ h.2;rw[add_plain,B3]at e g;rw[B3,Nat.mul_comm];exact⟨e,g⟩
def pQ (a:Nat):List Sy:=(List.range a).map λb=>(b+1,wP)
def vy (a:Nat):List Sy:=(List.range a).map λb=>(b+4,R)
theorem Nt (a:Nat):pQ (a+1)=pQ a++[(a+1,wP)]:=by unfold pQ;rw[List.range_succ,List.map_append];rfl
theorem NA (a:Nat):vy (a+1)=vy a++[(a+4,R)]:=by unfold vy;rw[List.range_succ,List.map_append];rfl
theorem D3 (c:Bool):tA c=pQ 4++(if c=wP then[]else vy 29):=rfl
theorem GH (c:Bool) (w:wR):wS w1 31 #[.bool c] w λe s=>∃v,e= .returned v/\SY s v (tA c)/\af w s:=by
 obtain⟨A,B,C,D,E⟩:=info_parts Lr;go_enter func31,ntmps31;go_wp2;go_loopw [3,6] (λl f wr=>∃a:Nat,a<=4/\f=I J a/\w2 (mW w wr l (pQ a))) (λ_ f _=>4-(intOf f).toNat)
 case atStart=>exact⟨0,by omega,rfl,mW.start _⟩
 case round=>
  obtain⟨a,m,rfl,b⟩:=hrel;by_cases p:a<4
  ·have q:w2 ((pQ a).length<=100):=by show _<=_;unfold pQ;simp;omega
   have r:=aa (Nt a);generalize pQ a=g at*;have F:(a:Int)<4:=oO;go_wp2_with((with_reducible show wpList _ _ _ (⟨_,Op.call ⟨Callee.builtin Builtin.append,_,_⟩,_,_,_,_⟩::_) _ _);(refine pP (base:=w.heap.size) (l:=g) (aq b.out.O (ax _ _)) (by have:=b.out.B.size;simp;omega) rfl _ _ rfl rfl ⟨wr.heap.size,0,U⟩ 1 1 [(a+1,wP)] rfl rfl (wj wr [(a+1,wP)] _) (by have:=q.out;omega) ?_;intro v1 n j hg _;have o:w2 (mW w n v1 (g++[(a+1,wP)])):=b.out.grow (ax _ _) j hg;clear j hg))
   exact⟨⟨a+1,by omega,by go_num,by show mW _ _ _ _;rw[r.out];exact o.out⟩,by simp[intOf];omega⟩
  ·have x:w2 (a=4):=by show _=_;omega
   have G:decide (a<4)=R:=by simp;omega
   have H:4<=a:=oO;have k:w2 (mW w wr u3 (pQ 4)):=by show mW _ _ _ _;rw[<-x.out];exact b.out
   clear b p m;cases c with
   |true=>
    go_wp2;go_ret;exact⟨_,rfl,by rw[D3,if_pos rfl,List.append_nil];exact k.out.sp,k.out.B⟩
   |false=>
    have t:w2 (mW w wr u3 (pQ 4++vy 0)):=k.out;clear k;go_wp2;go_loopw [3,5] (λl f wr=>∃a:Nat,a<=29/\f=I J ((a+4:Nat):Int)/\w2 (mW w wr l (pQ 4++vy a))) (λ_ f _=>33-(intOf f).toNat)
    case atStart=>exact⟨0,by omega,rfl,t.out⟩
    case round=>
     clear t;obtain⟨a,m,rfl,b⟩:=hrel;obtain⟨d,i⟩:∃d,d=a+4:=⟨_,rfl⟩;rw[<-i];by_cases p:a<29
     ·have q:w2 ((pQ 4++vy a).length<=100):=by show _<=_;unfold pQ vy;simp;omega
      have r:w2 (pQ 4++vy (a+1)=(pQ 4++vy a)++[(d,R)]):=by show _=_;rw[NA,i,List.append_assoc]
      generalize pQ 4++vy a=g at*;have K:(d:Int)<=32:=oO;have u:=aa i;clear i;go_wp2_with((with_reducible show wpList _ _ _ (⟨_,Op.call ⟨Callee.builtin Builtin.append,_,_⟩,_,_,_,_⟩::_) _ _);(refine pP (base:=w.heap.size) (l:=g) (aq b.out.O (ax _ _)) (by have:=b.out.B.size;simp;omega) rfl _ _ rfl rfl ⟨wr.heap.size,0,U⟩ 1 1 [(d,R)] rfl rfl (wj wr [(d,R)] _) (by have:=q.out;omega) ?_;intro v1 n j hg _;have o:w2 (mW w n v1 (g++[(d,R)])):=b.out.grow (ax _ _) j hg;clear j hg))
      exact⟨⟨a+1,by omega,by show Value.int _ _=_;congr 1;have:=u.out;omega,by show mW _ _ _ _;rw[r.out];exact o.out⟩,by have:=u.out;simp[intOf];omega⟩
     ·have y:d=33:=oO;have z:a=29:=oO;subst y z;clear p m i;go_wp2;go_ret;exact⟨_,rfl,by rw[D3,if_neg oD];exact b.out.sp,b.out.B⟩
theorem Du (L:Nat) (c:Bool) (k size g:Nat) (w:wR) (t:L<=32) (P:k<=100000) (hs:size<=100000) (Q:g<=100):wS w1 34 #[bX L c,I J k,I J size,I J g] w (au (.bool (yg L c k size g)) w):=by
 have a:=fI w L c;have B:w2 (∀W,wS w1 57 #[.bool c] W λe S=>e= .returned (I J ((kA c:Nat):Int))/\S=W):=λW=>vn c W;have C:w2 (∀W,wS w1 33 #[bX L c] W (au (I J ((aw L:Nat):Int)) W)):=λW=>mK L c W t;have Z:w2 (∀W,wS w1 44 #[bX L c] W (au (I J ((aJ L c:Nat):Int)) W)):=λW=>pk L c W t;have v:w2 (yg L c k size g=(decide (k<=kA c)&&decide (aw L* k+size* g/100+11<=aw L* aJ L c))):=rfl;have ab:kA c<=2048:=by cases c<;>decide
 have x:aw L<=12:=by rcases gF L with h|h|h|h<;>omega
 have D:=oU (c:=c) t;have j:w2 (af (w.alloc (cN L c)) (w.alloc (cN L c)).drew):=ai (w3 _ _);have K:w2 (∀W,af (w.alloc (cN L c)) W->af w W):=λW u=>dT u;generalize kA c=l at*;generalize aw L=z at*;generalize aJ L c=A at*;obtain⟨p1,p⟩:∃p1,p1=z* k:=⟨_,rfl⟩;obtain⟨p2,q⟩:∃p2,p2=size* g:=⟨_,rfl⟩;obtain⟨f,y⟩:∃f,f=p2/100:=⟨_,rfl⟩;obtain⟨d,r⟩:∃d,d=z* A:=⟨_,rfl⟩;have al:p1<=1200000:=by rw[p];exact Cq x P
 have am:p2<=10000000:=by rw[q];exact Cq hs Q
 have ap:d<=48000:=by rw[r];exact Cq x D
 have av:f<=100000:=oO;have a0:(z:Int)* (k:Int)=(p1:Int):=by rw[p];simp
 have a1:(size:Int)* (g:Int)=(p2:Int):=by rw[q];simp
 have a2:(p2:Int)/100=(f:Int):=by rw[y];simp
 have a3:(z:Int)* (A:Int)=(d:Int):=by rw[r];simp
 have a4:J.wrap (p1:Int)=(p1:Int):=aG _ oO oO;have a5:J.wrap (p2:Int)=(p2:Int):=aG _ oO oO;have a6:J.wrap (f:Int)=(f:Int):=aG _ oO oO;have a7:J.wrap (d:Int)=(d:Int):=aG _ oO oO;obtain⟨o,ac⟩:∃o,o=p1+f:=⟨_,rfl⟩;obtain⟨i,E⟩:∃i,i=p1+f+11:=⟨_,rfl⟩;have a8:J.wrap ((p1:Int)+(f:Int))=(o:Int):=by rw[aG _ oO oO];omega
 have a9:J.wrap ((o:Int)+11)=(i:Int):=by rw[aG _ oO oO];omega
 rw[<-p,<-q,<-y,<-r,<-E]at v;clear p q y r ac E ab x D;by_cases m:k<=l
 ·have ad:(k:Int)<=(l:Int):=oO;have s:w2 (yg L c k size g=decide (i<=d)):=by show _=_;rw[v.out,decide_eq_true m,Bool.true_and]
  obtain⟨b,hb⟩:∃b,b=decide (i<=d):=⟨_,rfl⟩;have bb:decide ((i:Int)<=(d:Int))=b:=by rw[hb,decide_eq_decide];omega
  rw[<-hb]at s;have bd:decide (i<=d)=b:=hb.symm;clear hb m;go_enter func34,ntmps34;go_wp2;refine yO (af (w.alloc (cN L c))) [1,2,3,0,4,0,5,6,7,9,11,12,13,14,17,19,0,8,0,10,15,16,0,18,20,0,21,22,23,24] j.out ?_
  repeat first|refine zO a.out ?_|refine zX a.out ?_
  refine zZ ?_;refine(B.out _).mono ?_;rintro e T ⟨rfl,n⟩;rw[n];clear n;refine⟨_,rfl,j.out,jO ?_⟩
  repeat first|refine zO a.out ?_|refine zX a.out ?_
  refine zZ ?_;refine(C.out _).mono ?_;rintro e V ⟨rfl,M⟩;have F:w2 (af (w.alloc (cN L c)) V):=ae j.out M;clear M;refine⟨_,rfl,F.out,jO ?_⟩
  repeat first|refine zO a.out ?_|refine zX a.out ?_
  refine zZ ?_;refine(C.out _).mono ?_;rintro e X ⟨rfl,N⟩;have G:w2 (af (w.alloc (cN L c)) X):=ae F.out N;clear N;refine⟨_,rfl,G.out,jO ?_⟩
  repeat first|refine zO a.out ?_|refine zX a.out ?_
  refine zZ ?_;refine(Z.out _).mono ?_;rintro e Y ⟨rfl,O⟩;have H:w2 (af (w.alloc (cN L c)) Y):=ae G.out O;clear O;refine⟨_,rfl,H.out,jO ?_⟩
  repeat first|refine zO a.out ?_|refine zX a.out ?_
  refine aj ?_;go_wp2;go_ret;exact⟨by rw[s.out];rfl,K.out _ H.out⟩
 ·have ad:¬(k:Int)<=(l:Int):=oO;have be:decide (k<=l)=R:=decide_eq_false m;have s:w2 (yg L c k size g=R):=by show _=_;rw[v.out,decide_eq_false m,Bool.false_and]
  have bf:l<k:=oO;clear m;go_enter func34,ntmps34;go_wp2;refine yO (af (w.alloc (cN L c))) [1,2,3,0,4,0,5,6,7,9,11,12,13,14,17,19,0,8,0,10,15,16,0,18,20,0,21,22,23,24] j.out ?_
  repeat first|refine zO a.out ?_|refine zX a.out ?_
  refine zZ ?_;refine(B.out _).mono ?_;rintro e T ⟨rfl,n⟩;rw[n];clear n;refine⟨_,rfl,j.out,jO ?_⟩
  repeat
   first
   |(refine' jn rfl ?_;simp only[yQ,yU,yX,yY])
   |(refine' iz rfl j.out ?_;simp only[yQ,yU,yX,yY])
   |(refine' lP rfl (λW u=>?_) ?_;rotate_left;(· have bi:=a.out W u;go_simp;rfl);simp only[yQ,yU,yX,yY])
  refine aj ?_;go_wp2;go_ret;exact⟨by rw[s.out];rfl,K.out _ j.out⟩
theorem SG.rd {w:wR} {v:xf} {a:List Nat} (h:SG vN 0 w v a):∃A n c,v= .slice A n c/\n=a.length/\SR vN 0 w A n c a/\RD w A (zl a):=by
 obtain⟨A,n,c,rfl,hs⟩:=h.parts;obtain⟨d,f,e,-,-,b⟩:=az.yG h;injection e with e1 e2 e3;exact⟨A,n,c,rfl,hs.hn,hs,by rw[e1];exact b⟩
theorem az.Pw {w:wR} {v:xf} {a:List Nat} (h:az w v (zl a)):∃A n c,v= .slice A n c/\n=a.length/\SR vN 0 w A n c a/\RD w A (zl a):=SG.rd (az.Ti h)
theorem LZ (a b:Nat) (c:Bool):(bH a (gI c)++bH b (jw c)).length=nZ c* 4:=by
 rw[w9,cn,cn];cases c<;>rfl
theorem Om (L k:Nat) (c:Bool) (w:wR) (P:1<=L) (Q:L<=32) (hc:c=wP->L<=4) (b3:1<=k) (S:k<=kA c):wS w1 23 #[I J L,I J k,.bool c] w (RT vB R w (oF L c k,0)):=by
 have b4:=fI w L c;have Z:w2 (∀W,wS w1 29 #[bX L c] W (au (.bool wP) W)):=λW=>by rw[<-LD P Q hc];exact iR L c W
 have ab:w2 (∀W,wS w1 57 #[.bool c] W λe j=>e= .returned (I J ((kA c:Nat):Int))/\j=W):=λW=>vn c W;have ac:w2 (∀W,wS w1 58 #[.bool c] W λe j=>e= .returned (.tuple #[I J ((gI c:Nat):Int),I J ((jw c:Nat):Int),I J ((fS c:Nat):Int)])/\j=W):=λW=>ur c W;obtain⟨B,hB⟩:∃B,B=bH (L-1) (gI c)++bH (k-1) (jw c):=⟨_,rfl⟩;have p:B.length=nZ c* 4:=by rw[hB];exact LZ _ _ _
 have ad:nZ c<=4:=by cases c<;>decide
 have bx:1<=nZ c:=by cases c<;>decide
 have l:=ej B 4 (nZ c);have o:=mQ B 4 (nZ c);have N:oF L c k=bE (jY 16 19 (fS c) 1 (aW B 4 (nZ c))) 4:=by rw[Pa,hB]
 have n:=Dm c;have al:fS c<=6:=by cases c<;>decide
 have bz:nZ c+fS c<=15:=by cases c<;>decide
 have g:=I2 (Pr Rq) (par:=fS c) (first:=1) o;change wk 16 19 (fS c) 1 _ (jY 16 19 (fS c) 1 (aW B 4 (nZ c)))at g;have q:=g.ln;have O:=g.lt;rw[l]at q;have da:k<=2048:=by
  have:kA c<=2048:=by cases c<;>decide
  omega
 have dd:gI c<=11/\jw c<=11:=by cases c<;>decide
 obtain⟨b,r⟩:∃b,b=L-1:=⟨_,rfl⟩;obtain⟨f,s⟩:∃f,f=k-1:=⟨_,rfl⟩;have de:(L:Int)-1=(b:Int):=oO;have di:(k:Int)-1=(f:Int):=oO;rw[<-r,<-s]at hB;have am:w2 (∀W,wS w1 61 #[I J 4,I J ((fS c:Nat):Int)] W (au (.tuple #[bZ 2 16 19 (fS c) 1,I J 0]) W)):=λW=>vx (fS c) W n;have b1:w2 (∀W,wS w1 59 #[.slice U 0 0,I J b,I J ((gI c:Nat):Int)] W (RT vB R W (bH b (gI c),0))):=λW=>xD U 0 0 [] b (gI c) W oO oO oO ⟨rfl,Nat.le_refl _,Nat.zero_le _,RG.dw _ _⟩;have b2:w2 (∀W A m a,SR vB R W A m a (bH b (gI c))->wS w1 59 #[.slice A m a,I J f,I J ((jw c:Nat):Int)] W (RT vB R W (B,0))):=by
  show∀W A m a,_->_;intro W A m a hs;have:=hs.hn;rw[cn]at this;rw[hB];exact xD A m a _ f (jw c) W oO oO oO hs
 have ap:w2 (∀W A m a,SR vB R W A m a B->wS w1 60 #[.slice A m a,I J 4,.bool R] W (RT vN 0 W (aW B 4 (nZ c),0))):=by
  show∀W A m a,_->_;intro W A m a hs;have d:=hs.hn;rw[p]at d;exact tT A m a 4 (nZ c) B W oO oO d oO hs
 have av:w2 (∀W A m a,SR vN 0 W A m a (aW B 4 (nZ c))->RD W A (zl (aW B 4 (nZ c)))->wS w1 62 #[bZ 2 16 19 (fS c) 1,.slice A m a] W (mB W (zl (jY 16 19 (fS c) 1 (aW B 4 (nZ c))),0))):=by
  show∀W A m a,_->_->_;intro W A m a hs T;have d:=hs.hn;have V:=d;rw[l]at V;exact xn 2 16 19 (fS c) 1 _ m A a W n d o oO oO T
 have a0:w2 (∀W A m a,SR vN 0 W A m a (jY 16 19 (fS c) 1 (aW B 4 (nZ c)))->wS w1 63 #[.slice A m a,I J 4] W (RT vB R W (oF L c k,0))):=by
  show∀W A m a,_->_;intro W A m a hs;have d:=hs.hn;rw[N];exact pI A m a 4 _ W oO oO oO O hs
 have dl:k<=kA c:=S;clear hB p l o N n al bz g q O r s hc ad bx;generalize gI c=lb at*;generalize jw c=db at*;generalize fS c=mp at*;generalize aW B 4 (nZ c)=X at*;generalize jY 16 19 mp 1 X=b5 at*;generalize oF L c k=b6 at*;generalize bH b lb=b7 at*;have dn:¬(k:Int)<1:=oO;generalize kA c=Y at*;have ds:¬(Y:Int)<(k:Int):=oO;go_enter func23,ntmps23
 go_wp2_with(first
  |(go_at_call 29;refine(Z.out _).mono ?_;rintro e b9 ⟨rfl,t⟩;have a1:=aa (dT t);clear t)
  |(go_at_call 57;refine(ab.out _).mono ?_;rintro e ca ⟨rfl,u⟩;rw[u];clear u)
  |(go_at_call 58;refine(ac.out _).mono ?_;rintro e cb ⟨rfl,v⟩;rw[v];clear v)
  |(go_at_call 59;(with_reducible show wS _ _ #[.slice U 0 0,_,_] _ _);refine(b1.out _).mono ?_;rintro e ce ⟨v4,rfl,x,y⟩;obtain⟨ch,n4,ci,rfl,a2⟩:=x.parts;have a3:=aa a2;have a4:=aa (ae a1.out y);clear x y)
  |(go_at_call 59;refine(b2.out _ _ _ _ a3.out).mono ?_;rintro e ck ⟨co,rfl,z,C⟩;obtain⟨cp,cq,cr,rfl,a5⟩:=z.parts;have a6:=aa a5;have a7:=aa (ae a4.out C);clear z C)
  |(go_at_call 60;refine(ap.out _ _ _ _ a6.out).mono ?_;rintro e cs ⟨v6,rfl,D,E⟩;obtain⟨cv,cx,cy,rfl,-,a8,F⟩:=D.rd;have a9:=aa a8;have bb:=aa F;have bd:=aa (ae a7.out E);clear D E F)
  |(go_at_call 61;refine(am.out _).mono ?_;rintro e c2 ⟨rfl,i⟩;have be:=aa (ae bd.out i);have bf:=aa (a9.out.below i);have bi:=aa (bb.out.below i);clear i)
  |(go_at_call 62;refine(av.out _ _ _ _ (bf.out.below (ax _ _)) (bi.out.below (ax _ _))).mono ?_;rintro e c3 ⟨c4,rfl,G,H⟩;obtain⟨c5,c6,c7,rfl,-,bo,-⟩:=az.Pw G;have bq:=aa bo;have bs:=aa (ae (ah be.out _) H);clear G H)
  |(go_at_call 63;refine(a0.out _ _ _ _ bq.out).mono ?_;rintro e c8 ⟨c9,rfl,K,M⟩;have bt:=aa K;have bv:=aa (ae bs.out M);clear K M))
 go_ret2
 exact RT.mk rfl bt.out bv.out
theorem Hd {l:List UInt8} {b:Nat->Nat->Nat} (hl:l.length<=60) (f:dK (bA l) b) (L:Nat) {ws:List Nat} (g:ws=bm (dS l) (aw L)):ak (2^aw L) ws/\ws.length<=(dS l).length/\(dS l).length<=ws.length* aw L/\(dS l).length<=501:=by
 have i:=DO oO f;have j:=gF L;obtain⟨e,e1,e2,e3,e4,e5,e6,e7⟩:=uj (dS l) (aw L) oO oO oO;rw[<-g]at e4 e6 e7;refine⟨λa=>?_,e7,e4,by omega⟩;rcases Nat.lt_or_ge a ws.length with hi|hi
 ·have:ws.getD a 0∈ws:=by simp only[x4,List.getElem?_eq_getElem hi,HL];exact List.getElem_mem hi
  have:=(e6 _ this).2;omega
 ·rw[kP hi];exact Nat.two_pow_pos _
theorem Ik {L:Nat} {c:Bool} {ws:List Nat} (hw:ak (2^aw L) ws):wk (2^aw L) (kK (aw L)) (aJ L c-ws.length) 1 ws (Bk L c ws):=I2 (Pr (mE L)) hw
theorem xJ {L:Nat} {c:Bool} {ws:List Nat} (hw:ak (2^aw L) ws) (hk:ws.length<=aJ L c):(Bk L c ws).length=aJ L c:=by rw[(Ik hw).ln];omega
theorem F7 {L:Nat} {c:Bool} {ws:List Nat} (hw:ak (2^aw L) ws) (hk:ws.length<=aJ L c):(pN L c ws).length=aJ L c* aw L:=by unfold pN;rw[dQ,xJ hw hk]
theorem tB (L:Nat) (c:Bool):aJ L c* aw L<=gX L c:=Nat.div_mul_le_self _ _
theorem xI (L:Nat) (c:Bool) (k:Nat):(oF L c k).length=if c=wP then 28 else 40:=by
 unfold oF;rw[dQ,rR,ej];cases c<;>rfl
section
variable {L : Nat} {c : Bool} (h1 : 1 ≤ L) (hL : L ≤ 32) (hc : c = wP → L ≤ 4) {ws : List Nat} (hw : ak (2 ^ aw L) ws) (hk : ws.length ≤ aJ L c)
include h1 hL hw hk
end
theorem getD_set_ne (d:List Bool) {e a:Nat} (b:Bool) (h:e≠a):(d.set e b).getD a R=d.getD a R:=by
 simp only[x4];rw[List.getElem?_set_ne h]
section
variable {n : Nat} {d : List Bool} {ps : List Pt} (hi : ∀ p ∈ ps, eU n p < d.length) (hn : ps.Pairwise fun p q => eU n p ≠ eU n q)
include hi hn
end
section
variable {L : Nat} {c : Bool} (h1 : 1 ≤ L) (hL : L ≤ 32) (hc : c = wP → L ≤ 4) {ws : List Nat} (hw : ak (2 ^ aw L) ws) (hk : ws.length ≤ aJ L c)
include h1 hL hw hk
end
theorem P8:(prog.info? 91).map (·.zero)=gk (gk (.agg #[I J 0,I J 0,I J 0,I J 0,I J 0])):=oK
theorem Tr:(prog.info? 91).map (·.size)=gk 5:=oK
theorem P4:(prog.info? 71).map (·.zero)=gk (gk (.agg #[I J 0,.bool R,I J 0,I J 0])):=oK
theorem JP:(prog.info? 71).map (·.size)=gk 4:=oK
theorem LI:prog.underlying 40=gk (.slice (prog.elem 40)):=oK
theorem N5 (w:wR):(sizeOf (prog.elem 40)).run w1 w= .ok 2 w:=oK
theorem Ha {a:Act} {d:Oper} {W:wR} {x e:Operand} (f:d.op= .slice 40 x (gk e) U U) {A:Option Addr} {n c:Nat} (g:a.eval x= .slice A n c) (k:Nat) (i:a.eval e=I J (k:Int)) (m:k<=n) {v:xf} (j:sliced A k n c 2=v):
 (execOp a.eval d).run w1 W= .ok (.value v) W:=by
 subst j;have b:=run_slice_l (P:=w1) W 40 A n c LI .i64 (k:Int) oO oO;rw[N5]at b;simp only[Result.andThen_ok,Int.toNat_natCast]at b;have l:=run_sliceAt_slice (P:=w1) W 40 (.slice A n c) (gk (I J (k:Int))) U U LI;unfold execOp;simp only[f,g,i,UM,Option.map_none,Sem.run_bind,Sem.run_pure,Result.andThen_ok,l,b]
theorem fR.from {B:Nat} {w:wR} {A:Option Addr} {n c:Nat} {a:List Pt} (h:fR B w (.slice A n c) a) (k:Nat) (v:k<=n):fR B w (sliced A k n c 2) (a.drop k):=by
 obtain⟨⟨g,x,e,y,z,q⟩,i⟩:=h;injection e with e1 e2 e3;subst e1 e2 e3;by_cases o:c=k
 ·have r:a.drop k=[]:=List.drop_eq_nil_of_le oO;rw[r];unfold sliced;rw[if_pos o];have s:a.length-k=0:=oO;rw[s];exact⟨⟨A,c-k,rfl,Nat.zero_le _,by omega,λh=>absurd h oS⟩,λg m t j e1 e2=>by injection e1 with e1 _ _;exact i A a.length c j rfl (e1.trans e2)⟩
 ·unfold sliced;rw[if_neg o];refine⟨⟨_,c-k,by rw[B1],by rw[B1];omega,by omega,λhn=>?_⟩,λg m t j e1 e2=>?_⟩
  ·rw[B1]at hn;obtain⟨p,d,e,hg,hc⟩:=q oO;refine⟨p,d+k* 2,by rw[e,UM,add_plain],hg,λb u=>?_⟩;rw[B1]at u;have f:=hc (k+b) oO;have e6:(a.drop k).getD b (0,0)=a.getD (k+b) (0,0):=by simp[x4]
   rw[e6,show d+k* 2+b* 2=d+(k+b)* 2 from by omega];exact f
  ·injection e1 with e1 _ _;rw[e2]at e1;cases A with
   |none=>cases e1
   |some l=>
    have f:=i (gk l) a.length c l rfl rfl;simp only[UM]at e1;injection e1 with e1;rw[<-e1,aD];exact f
theorem SR.Ta {b:Type} {f:b->xf} {d:b} {w W:wR} {db:Nat} {A:Option Addr} {n c:Nat} {g:List b} (h:SR f d w A n c g) (i:aI db w W) (k:∀a,A=gk a->a.block≠db):SR f d W A n c g:=by
 refine⟨h.hn,h.hc,h.hm,λl=>?_⟩;obtain⟨a,e,hl,hc⟩:=h.rd l;exact⟨a,e,x6 hl i.sz,λj m=>(i.cell (by rw[aD];exact hl) (by rw[aD];exact k a e)).trans (hc j m)⟩
abbrev sU (L:Nat) (c:Bool) (k n db N:Nat):xf:= .agg #[I J (L:Int),.bool c,I J (k:Int),I J (n:Int),I J (n:Int),.slice (gk ⟨db,0,U⟩) N N]
abbrev cg:Array xf:=#[I J 0,.bool R,I J 0,I J 0,I J 0,.slice U 0 0]
def Tg (f:wR) (L:Nat) (c:Bool) (z g S d b:Nat) (A:Option Addr) (m i:Nat) (a j:Act) (W:wR):Prop:=∃e,j=(((((((((((((a.put (gk 15) (bX L c)).put (gk 17) (bX L c)).put (gk 19) (.slice A m i)).put (gk 20) (I J m)).put (gk 16) (I J z)).put (gk 18) (I J g)).put (gk 21) (I J b)).put (gk 22) (.tuple #[bZ 2 S d b 1,I J 0])).put (gk 14) (.tuple #[bZ 2 S d b 1,I J 0])).put (gk 23) (bZ 2 S d b 1)).put (gk 24) (I J 0)).put (gk 6) (.pointer (gk ⟨e,0,U⟩))).put (gk 7) (I J 0))/\ag W e (mF 2 S d b 1).toArray 91/\af f W/\f.heap.size<=e
def Tn (e:wR) (g L:Nat) (c:Bool) (n d f:Nat) (a i:Act) (W:wR):Prop:=∃b,i=((((((a.put (gk 64) (bX L c)).put (gk 66) (.pointer (gk ⟨g,1,U⟩))).put (gk 67) (.bool c)).put (gk 65) (I J n)).put (gk 68) (dR n c d f)).put (gk 11) (.pointer (gk ⟨b,0,U⟩)))/\ag W b (dq n c d f).toList.toArray 71/\af e W/\e.heap.size<=b
theorem yM (L:Nat) (c:Bool) (a:List Nat) (A:Option Addr) (m a8:Nat) (w:wR) (r:1<=L) (t:L<=32) (hc:c=wP->L<=4) (a9:ak (2^aw L) a) (d2:1<=a.length) (d3:a.length<=kA c) (u:a.length<aJ L c) (hs:SR vN 0 w A m a8 a):
 wS w1 35 #[bX L c,.slice A m a8] w λe E=>∃db N,N=aB L c* aB L c/\e= .returned (.tuple #[sU L c m (aB L c) db N,I J 0])/\bF E db (ny L c a)/\w.heap.size<=db/\af w E:=by
 have bz:m=a.length:=hs.hn;have fx:RD w A (zl a):=by
  obtain⟨de,di,Q,e,-,-,b5⟩:=SG.rd hs.sg;injection e with e1 e2 e3;rw[e1];exact b5
 have g1:=uC (c:=c) r t hc;have g2:=gF L;have g3:=su (c:=c) r t;have be:=oH L c r t;have li:=JE c;have om:=oU (c:=c) t;have dn:=Ik (c:=c) a9;have g4:=xJ (c:=c) a9 oO;have fz:=F7 (c:=c) a9 oO;have g5:=tB L c;have g6:=rD L c;have g7:=room_le (c:=c) t;have fG:eD 2 (2^aw L) (kK (aw L)) (aJ L c-a.length) 1:=D2 (mE L) oO oO;have ll:a.length+(aJ L c-a.length)=aJ L c:=oO;have d4:w2 (∀W,wS w1 33 #[bX L c] W (au (I J ((aw L:Nat):Int)) W)):=λW=>mK L c W t;have g8:w2 (∀W,wS w1 44 #[bX L c] W (au (I J ((aJ L c:Nat):Int)) W)):=λW=>pk L c W t;have g9:w2 (∀W,wS w1 36 #[bX L c] W (au (I J ((aB L c:Nat):Int)) W)):=λW=>oR L c W t;have ib:w2 (∀W,wS w1 39 #[I J ((aB L c:Nat):Int),.bool c] W (au (dR (aB L c) c (cI L c) (bu c)) W)):=λW=>kS (aB L c) c W oO oO;have ih:w2 (∀W,wS w1 83 #[dR (aB L c) c (cI L c) (bu c)] W λe E=>∃db N,N=aB L c* aB L c/\e= .returned (Ko (aB L c) (aB L c) db N)/\W.heap.size<=db/\bF E db (rP (aB L c) (cI L c) c)/\af W E):=λW=>Mf (aB L c) (cI L c) (bu c) c W rfl oO oO oO;have ii:w2 (∀W,wS w1 46 #[bX L c] W λe E=>∃v,e= .returned v/\fR W.heap.size E v (cO L c)/\af W E):=λW=>xW L c W t;have io:w2 (∀W,wS w1 43 #[dR (aB L c) c (cI L c) (bu c)] W λe E=>∃v,e= .returned v/\fR W.heap.size E v (dZ (cI L c) c)/\af W E):=λW=>qu (aB L c) (cI L c) c W oO oO;have ip:w2 (∀W,wS w1 23 #[I J L,I J m,.bool c] W (RT vB R W (oF L c a.length,0))):=λW=>by rw[bz];exact Om L a.length c W r t hc d2 d3
 have d5:w2 (∀W,wS w1 61 #[I J ((aw L:Nat):Int),I J ((aJ L c-a.length:Nat):Int)] W (au (.tuple #[bZ 2 (2^aw L) (kK (aw L)) (aJ L c-a.length) 1,I J 0]) W)):=λW=>EG (aw L) (aJ L c-a.length) W (mE L) oO oO;have d6:w2 (∀W,RD W A (zl a)->wS w1 62 #[bZ 2 (2^aw L) (kK (aw L)) (aJ L c-a.length) 1,.slice A m a8] W (mB W (zl (Bk L c a),0))):=λW b5=>xn 2 (2^aw L) (kK (aw L)) (aJ L c-a.length) 1 a m A a8 W fG bz a9 oO oO b5;have it:w2 (∀W A m Q,SR vN 0 W A m Q (Bk L c a)->wS w1 63 #[.slice A m Q,I J ((aw L:Nat):Int)] W (RT vB R W (pN L c a,0))):=by
  show∀W A m Q,_->_;intro W A m Q d7;have m0:=d7.hn;exact pI A m Q (aw L) _ W oO oO oO dn.lt d7
 have f0:∀p∈cO L c,eU (aB L c) p<aB L c* aB L c:=λp T=>mz (wX t T).1 (wX t T).2;have f1:∀p∈dZ (cI L c) c,eU (aB L c) p<aB L c* aB L c:=λp T=>by have:=AG (c:=c) (C:=cI L c) oO T;exact mz oO oO
 have f2:w2 (∀p∈(cO L c).drop ((cO L c).length-(pN L c a).length),eU (aB L c) p<(rP (aB L c) (cI L c) c).length):=by show∀p∈_,_;intro p T;rw[rS];exact f0 p (List.mem_of_mem_drop T)
 have lm:w2 (∀bq:List Bool,bq.length=aB L c* aB L c->∀p∈dZ (cI L c) c,eU (aB L c) p<bq.length):=by show∀bq:List Bool,_;intro bq hl p T;rw[hl];exact f1 p T
 have d8:w2 (dL (aB L c) (dL (aB L c) (rP (aB L c) (cI L c) c) ((cO L c).drop ((cO L c).length-(pN L c a).length)) (pN L c a)) (dZ (cI L c) c) (oF L c a.length)=ny L c a):=rfl;have d9:=aa (rS (aB L c) (cI L c) c);have ea:=aa (λd ps gm=>ir (aB L c) d ps gm);have ec:w2 (((cO L c).drop ((cO L c).length-(pN L c a).length)).length=(pN L c a).length):=by show _=_;rw[B1];omega
 have iv:w2 ((dZ (cI L c) c).length=(oF L c a.length).length):=by show _=_;rw[xI,lh]
 have ls:w2 (1<=(oF L c a.length).length):=by show _<=_;rw[xI];split<;>omega
 have f3:1<=(pN L c a).length:=by rw[fz];exact Nat.mul_pos oO oO
 have lv:=aa f3;have ed:(pN L c a).length<=(cO L c).length:=oO;have lw:(cO L c).length<=20000:=oO;have ef:aB L c<=161:=be.2;obtain⟨G,f4⟩:∃G,G=aJ L c-a.length:=⟨_,rfl⟩;have mp:G+a.length=aJ L c:=oO;rw[<-f4]at d5 d6;clear dn g4 fz g5 g6 g7 fG ll g1 g3 li a9 d2 d3 f0 f1 f4 f3 u be r t hc;generalize ny L c a=dl at*;generalize Bk L c a=m1 at*;generalize pN L c a=O at*;generalize oF L c a.length=eh at*;generalize cO L c=ac at*;generalize ix:rP (aB L c) (cI L c) c=am at*;clear ix;generalize dZ (cI L c) c=cy at*;generalize i0:2^aw L=S at*;generalize i1:kK (aw L)=bs at*;clear i0 i1;generalize aw L=z at*;generalize aJ L c=ds at*;generalize aB L c=n at*;generalize cI L c=ad at*;generalize bu c=ap at*;have oo:z<=12:=oO;have op:(ds:Int)-(m:Int)=(G:Int):=oO;have os:G<=4000:=oO;have ot:J.wrap (G:Int)=(G:Int):=aG _ oO oO;have n7:m<=4000:=oO;clear g2 mp;obtain⟨s,bf⟩:∃s,s=w.heap.size:=⟨_,rfl⟩;obtain⟨F,b1⟩:∃F,F=w.heap.size+1:=⟨_,rfl⟩;obtain⟨l,a2⟩:∃l,l=(w.alloc (cN L c)).alloc (.cells cg 30):=⟨_,rfl⟩;have ek:w2 (af w l):=by show Below _ _ _;rw[a2];exact ah (ax _ _) _
 have b9:w2 (ag l s #[I J L,.bool c] 60):=by
  show ag _ _ _ _;rw[a2];have r:ag (w.alloc (cN L c)) s #[I J L,.bool c] 60:=ag.new _ _ _ _ bf;exact r.below (ax _ _)
 have i2:w2 (ag l F cg 30):=by show ag _ _ _ _;rw[a2];exact ag.new _ _ _ _ (by simp[b1])
 have ca:w2 (w.heap.size<=F/\s<F/\F<l.heap.size/\w.heap.size<=l.heap.size):=by show _/\_;rw[a2,b1,bf];simp;omega
 have a3:w2 (∀W,af l W->W.cell? ⟨s,0,U⟩=gk (I J (L:Int))/\W.cell? ⟨s,1,U⟩=gk (.bool c)):=λW B=>⟨(b9.out.below B).cell 0 _ rfl,(b9.out.below B).cell 1 _ rfl⟩;have i3:=aa fx;clear fx hs;have n8:=aa bz;clear bz;go_enter func35,ntmps35;go_wp2;simp only[<-b1,<-a2];simp only[<-bf];clear a2 b1;have n9:=aa bf;clear bf;have cb:w2 (af l l.drew):=ai (w3 _ _);refine j8 (S:=af l) (.br [(R,0),(R,2),(R,4),(R,5)] [1,11] (λk=>if k=1 then .br [] [3,11] (λk=>if k=3 then .br [(R,6)] [7,11] (λk=>if k=7 then .last [(R,8),(R,9),(R,10),(wP,11),(wP,12),(R,13)]else .last [(wP,7),(R,8),(R,9),(R,10),(wP,12),(R,13)])else .last [(wP,3),(R,6),(wP,7),(R,8),(R,9),(R,10),(wP,12),(R,13)])else .last [(wP,1),(wP,3),(R,6),(wP,7),(R,8),(R,9),(R,10),(wP,12),(R,13)])) (Tg l L c z ds S bs G A m a8) oK oK cb.out ?_ ?_
 ·simp only[aT,aH,w7,w8];obtain⟨wc,a0⟩:∃W,W=l.drew:=⟨_,rfl⟩;have g:w2 (af l wc):=by show Below _ _ _;rw[a0];exact cb.out
  rw[<-a0];clear a0 cb
  repeat' (first
   |(refine' lP rfl (λW B=>?_) ?_;rotate_left;(have i4:=a3.out W B;go_simp;rfl);simp only[yQ,yU,yX,yY])
   |(refine' nG rfl (λW=>?_) ?_;rotate_left 2;(focus (go_simp;exact⟨rfl,rfl⟩));(first|refine(d4.out _).mono ?_|refine(g8.out _).mono ?_|refine(d5.out _).mono ?_);rintro e j ⟨rfl,f⟩;(have o:=aa (ae g.out f));(try(have cK:=aa (cK.out.below f)));(have g:=o);clear o f;(obtain⟨wc,H⟩:∃W,W=j:=⟨_,rfl⟩);(subst H);refine⟨_,rfl,g.out,?_⟩;simp only[yQ,yU,yX,yY])
   |(refine' j4 91 rfl rfl _ P8 (ah g.out _) ?_;simp only[yQ,yU,yX,yY];(obtain⟨x,P⟩:∃b,b=wc.heap.size:=⟨_,rfl⟩);(obtain⟨j,f⟩:∃al,al=wc.alloc (.cells #[I J 0,I J 0,I J 0,I J 0,I J 0] 91):=⟨_,rfl⟩);rw[<-f,<-P];(have o:w2 (af l j):=by show Below _ _ _;rw[f];exact ah g.out _);(have cK:w2 (ag j x #[I J 0,I J 0,I J 0,I J 0,I J 0] 91):=by show ag _ _ _ _;rw[f,P];exact ag.new _ _ _ _ rfl);(have Z:w2 (l.heap.size<=x):=by show _<=_;rw[P];exact g.out.size);clear P;(have g:=o);clear o f;(obtain⟨wc,H⟩:∃W,W=j:=⟨_,rfl⟩);(subst H))
   |(refine mg 91 rfl _ _ rfl 91 x #[I J 0,I J 0,I J 0,I J 0,I J 0] (mF 2 S bs G 1) cK.out rfl rfl Tr rfl (by intro v bb;simp only[AQ,Ay,or_false]at bb;rcases bb with rfl|rfl|rfl|rfl|rfl<;>rfl) (Lq g.out Z.out _) ?_;simp only[yQ,yU,yX,yY];(obtain⟨j,f⟩:∃al,al=wc.setRow x (mF 2 S bs G 1).toArray:=⟨_,rfl⟩);rw[<-f];(have o:w2 (af l j):=by show Below _ _ _;rw[f];exact Lq g.out Z.out _);(have cK:w2 (ag j x (mF 2 S bs G 1).toArray 91):=by show ag _ _ _ _;rw[f];exact ag.set cK.out _);(have g:=o);clear o f;(obtain⟨wc,H⟩:∃W,W=j:=⟨_,rfl⟩);(subst H))
   |(refine aj ?_;intro k u;simp only[AQ,Ay,or_false]at u;(repeat' (first|subst u|rcases u with u|u));all_goals simp only[reduceIte,Nat.reduceEqDiff,aT,aH,w7,w8])
   |(refine aj ?_;refine⟨x,?_,cK.out,g.out,Z.out⟩;simp only[yQ,yU,yX,yY])
   |(refine aj ?_;(try simp only[reduceIte,Nat.reduceEqDiff,aT,aH,w7,w8])))
 rintro go m2 ⟨m3,rfl,el,em,i5⟩;have bi:=aa el;have en:=aa em;clear el em i5;simp only[yQ,yU,yX,yY];have gp:=eu bi.out;have gq:=ia bi.out;have gs:=kt bi.out;have gt:=mP bi.out;have gv:=nV bi.out
 go_wp2_with(first
  |(go_at_call 62;refine(d6.out _ (i3.out.below (ae ek.out en.out))).mono ?_;rintro e m4 ⟨m5,rfl,eq,er⟩;obtain⟨m6,n2,dv,rfl,-,i6,-⟩:=az.Pw eq;have i7:=aa i6;have es:=aa (ae en.out er);clear eq er gp gq gs gt gv;obtain⟨V,X⟩:=a3.out _ es.out)
  |(go_at_call 33;refine(d4.out _).mono ?_;rintro e m7 ⟨rfl,ce⟩;have et:=aa (ae es.out ce);have i8:=aa (i7.out.below ce);clear ce V X;obtain⟨V,X⟩:=a3.out _ et.out)
  |(go_at_call 63;refine(it.out _ _ _ _ i8.out).mono ?_;rintro e m8 ⟨v4,rfl,ew,ex⟩;obtain⟨b6,n4,bt,rfl,i9⟩:=ew.parts;have jp:=aa i9;have ey:=aa (ae et.out ex);clear ew ex V X;obtain⟨V,X⟩:=a3.out _ ey.out)
  |(go_at_call 23;refine(ip.out _).mono ?_;rintro e K ⟨m9,rfl,ez,ch⟩;obtain⟨b7,dx,bv,rfl,jr⟩:=ez.parts;have eA:=aa jr;have ci:=aa (jp.out.below ch);have c2:=aa (ae ey.out ch);clear ez ch V X))
 have ck:w2 (af K K.drew):=ai (w3 _ _);have jv:w2 (∀W,af K W->W.cell? ⟨s,0,U⟩=gk (I J (L:Int))/\W.cell? ⟨s,1,U⟩=gk (.bool c)):=λW B=>a3.out W (ae c2.out B);refine j8 (S:=af K) (.br [(R,0),(R,2),(R,3)] [1,5] (λk=>if k=1 then .br [] [4,5] (λk=>if k=4 then .last [(wP,5),(wP,6)]else .last [(wP,4),(wP,6)])else .last [(wP,1),(wP,4),(wP,6)])) (Tn K s L c n ad ap) oK oK ck.out ?_ ?_
 ·simp only[aT,aH,w7,w8];obtain⟨wc,a0⟩:∃W,W=K.drew:=⟨_,rfl⟩;have g:w2 (af K wc):=by show Below _ _ _;rw[a0];exact ck.out
  rw[<-a0];clear a0 ck
  repeat' (first
   |(refine' lP rfl (λW B=>?_) ?_;rotate_left;(have i4:=jv.out W B;go_simp;rfl);simp only[yQ,yU,yX,yY])
   |(refine' nG rfl (λW=>?_) ?_;rotate_left 2;(focus (go_simp;exact⟨rfl,rfl⟩));(first|refine(g9.out _).mono ?_|refine(ib.out _).mono ?_);rintro e j ⟨rfl,f⟩;(have o:=aa (ae g.out f));(try(have cK:=aa (cK.out.below f)));(have g:=o);clear o f;(obtain⟨wc,H⟩:∃W,W=j:=⟨_,rfl⟩);(subst H);refine⟨_,rfl,g.out,?_⟩;simp only[yQ,yU,yX,yY])
   |(refine' j4 71 rfl rfl _ P4 (ah g.out _) ?_;simp only[yQ,yU,yX,yY];(obtain⟨x,P⟩:∃b,b=wc.heap.size:=⟨_,rfl⟩);(obtain⟨j,f⟩:∃al,al=wc.alloc (.cells #[I J 0,.bool R,I J 0,I J 0] 71):=⟨_,rfl⟩);rw[<-f,<-P];(have o:w2 (af K j):=by show Below _ _ _;rw[f];exact ah g.out _);(have cK:w2 (ag j x #[I J 0,.bool R,I J 0,I J 0] 71):=by show ag _ _ _ _;rw[f,P];exact ag.new _ _ _ _ rfl);(have Z:w2 (K.heap.size<=x):=by show _<=_;rw[P];exact g.out.size);clear P;(have g:=o);clear o f;(obtain⟨wc,H⟩:∃W,W=j:=⟨_,rfl⟩);(subst H))
   |(refine mg 71 rfl _ _ rfl 71 x #[I J 0,.bool R,I J 0,I J 0] ((dq n c ad ap).toList) cK.out rfl rfl JP rfl (by intro v bb;simp only[AQ,Ay,or_false]at bb;rcases bb with rfl|rfl|rfl|rfl<;>rfl) (Lq g.out Z.out _) ?_;simp only[yQ,yU,yX,yY];(obtain⟨j,f⟩:∃al,al=wc.setRow x ((dq n c ad ap).toList).toArray:=⟨_,rfl⟩);rw[<-f];(have o:w2 (af K j):=by show Below _ _ _;rw[f];exact Lq g.out Z.out _);(have cK:w2 (ag j x ((dq n c ad ap).toList).toArray 71):=by show ag _ _ _ _;rw[f];exact ag.set cK.out _);(have g:=o);clear o f;(obtain⟨wc,H⟩:∃W,W=j:=⟨_,rfl⟩);(subst H))
   |(refine aj ?_;intro k u;simp only[AQ,Ay,or_false]at u;(repeat' (first|subst u|rcases u with u|u));all_goals simp only[reduceIte,Nat.reduceEqDiff,aT,aH,w7,w8])
   |(refine aj ?_;refine⟨x,?_,cK.out,g.out,Z.out⟩;simp only[yQ,yU,yX,yY])
   |(refine aj ?_;(try simp only[reduceIte,Nat.reduceEqDiff,aT,aH,w7,w8])))
 rintro go j0 ⟨Y,rfl,e0,c3,kb⟩;have a4:w2 (ag j0 Y (dq n c ad ap) 71):=e0;have c4:=aa c3;have lx:=aa (ae c2.out c3);clear e0 c3 kb;simp only[yQ,yU,yX,yY];obtain⟨av,co⟩:∃av,av=ac.length:=⟨_,rfl⟩;rw[<-co]at ed lw;have cp:=aa co;clear co;have mq:n4=O.length:=ci.out.hn;obtain⟨q,hq⟩:∃q,q=av-O.length:=⟨_,rfl⟩;have na:J.wrap ((av:Int)-(n4:Int))=(q:Int):=by rw[aG _ oO oO];omega
 have ob:(av:Int)-(n4:Int)=(q:Int):=oO;have e9:q<=av:=oO;have oi:J.wrap (q:Int)=(q:Int):=aG _ oO oO;have gw:w2 (ac.length-O.length=q):=by show _=_;rw[<-cp.out,hq]
 clear hq mq ed;have dy:=eu a4.out;have dz:=ia a4.out;have dE:=kt a4.out;have d0:=mP a4.out
 go_wp2_with(first
  |(go_at_call 83;refine(ih.out _).mono ?_;rintro e a5 ⟨db,N,d1,rfl,fb,f5,c5⟩;have cq:=aa d1;have kc:=aa fb;have f6:=aa f5;have b2:=aa c5;have ly:=aa (ae lx.out c5);clear d1 fb f5 c5 dy dz dE d0;have fc:w2 (af l (a5.alloc (.cells (rK n n db N).toArray 28))):=ah ly.out _;obtain⟨V,X⟩:=a3.out _ fc.out)
  |(go_at_call 46;refine(ii.out _).mono ?_;rintro e i ⟨oj,rfl,b3,f7⟩;obtain⟨⟨kd,ks,rfl,l0,-,-⟩,-⟩:=id b3;rw[<-cp.out]at b3 l0;have l1:=aa b3;have a1:=aa f7;clear b3 f7 V X))
 rw[<-cp.out];have c6:=aa (ae fc.out a1.out);obtain⟨ab,cr⟩:∃ab,ab=a5.heap.size:=⟨_,rfl⟩;simp only[<-cr];have kv:w2 (ag i ab (rK n n db N).toArray 28):=by show ag _ _ _ _;exact(ag.new a5 _ _ _ cr).below a1.out
 have C:w2 (s≠db/\F≠db/\Y≠db/\ab≠db/\s<i.heap.size/\F<i.heap.size/\Y<i.heap.size/\ab<i.heap.size/\db<i.heap.size/\w.heap.size<=db/\K.heap.size<=db/\db<a5.heap.size+1/\w.heap.size<=i.heap.size):=by
  show _/\_;have nb:=ca.out;have nc:=ay a4.out;have nl:=kc.out;have no:=c4.out.size;have np:=c2.out.size;have nz:=b2.out.size;have gx:=a1.out.size;have n0:=ay f6.out;simp at gx;omega
 have l2:w2 (bF i db am):=(f6.out.below (ax _ _)).below a1.out;have mb:w2 (ag i Y (dq n c ad ap) 71):=((a4.out.below b2.out).below (ax _ _)).below a1.out;have ms:w2 (SR vB R i b6 n4 bt O):=(((ci.out.below c4.out).below b2.out).below (ax _ _)).below a1.out;have mt:w2 (SR vB R i b7 dx bv eh):=(((eA.out.below c4.out).below b2.out).below (ax _ _)).below a1.out;have kw:w2 (∀y,b6=gk y->y.block≠db):=by
  show∀y,_;intro y e;obtain⟨kz,M,bx,-⟩:=ci.out.rd lv.out;rw[e]at M;injection M with M;rw[M];have:=C.out.2.2.2.2.2.2.2.2.2.2.1;omega
 have fd:w2 (∀y,b7=gk y->y.block≠db):=by
  show∀y,_;intro y e;obtain⟨kz,M,bx,-⟩:=eA.out.rd ls.out;rw[e]at M;injection M with M;rw[M];have:=C.out.2.2.2.2.2.2.2.2.2.2.1;omega
 have md:w2 (db<(a5.alloc (.cells (rK n n db N).toArray 28)).heap.size):=by show _<_;have:=C.out.2.2.2.2.2.2.2.2.2.2.2.1;simp;omega
 clear cr;have cs:w2 (∀W,aI db i W->(W.cell? ⟨s,0,U⟩=gk (I J (L:Int))/\W.cell? ⟨s,1,U⟩=gk (.bool c))/\(W.cell? ⟨Y,0,U⟩=gk (I J (n:Int))/\W.cell? ⟨Y,1,U⟩=gk (.bool c)/\W.cell? ⟨Y,2,U⟩=gk (I J (ad:Int))/\W.cell? ⟨Y,3,U⟩=gk (I J (ap:Int)))/\W.cell? ⟨ab,0,U⟩=gk (I J (n:Int))/\W.cell? ⟨ab,1,U⟩=gk (I J (n:Int))/\W.cell? ⟨ab,2,U⟩=gk (.slice (gk ⟨db,0,U⟩) N N)):=by
  show∀W,_;intro W B;have bx:=B.row (b9.out.below c6.out) C.out.1;have r:=B.row mb.out C.out.2.2.1;have bd:=B.row kv.out C.out.2.2.2.1;exact⟨⟨bx.cell 0 _ rfl,bx.cell 1 _ rfl⟩,⟨r.cell 0 _ rfl,r.cell 1 _ rfl,r.cell 2 _ rfl,r.cell 3 _ rfl⟩,bd.cell 0 _ rfl,bd.cell 1 _ rfl,bd.cell 2 _ rfl⟩
 obtain⟨fn,fo,fr,be⟩:∃de di Q,sliced kd q av ks 2= .slice de di Q:=⟨_,_,_,rfl⟩;have f8:w2 (fR (a5.alloc (.cells (rK n n db N).toArray 28)).heap.size i (.slice fn fo fr) (ac.drop q)):=by
  show fR _ _ _ _;rw[<-be];exact fR.from l1.out q e9
 rw[gw.out]at f2 d8 ec;have c7:w2 (aI db i i.drew):=aI.below (ai (w3 _ _));have fv:N<=100000000:=by have:=cq.out;have:n* n<=161* 161:=Cq ef ef;omega
 have fw:w2 (N=am.length):=by show _=_;rw[d9.out];exact cq.out
 refine yO (λW=>aI db i W) [1,2,3,4,5,6,7,9,0,8,10] c7.out ?_
 repeat refine zO cs.out ?_
 refine' zQ rfl (Ha rfl rfl q rfl e9 be) c7.out ?_;refine zZ ?_;refine(Cu n n db N n4 bt am (ac.drop q) O (.slice fn fo fr) b6 i.drew oO oO fw.out fv (l2.out.below (ai (w3 _ _))) (f8.out.1.below (ai (w3 _ _))) (λA m k y e1 e2=>by have r:=f8.out.2 A m k y e1 e2;have bd:=md.out;omega) (ms.out.below (ai (w3 _ _))) kw.out ec.out f2.out).mono ?_;rintro e cv ⟨rfl,f9,gb⟩;have me:=aa f9;have gc:w2 (aI db i cv):=c7.out.trans gb;clear f9 gb;refine⟨_,rfl,gc.out,jO ?_⟩;refine aj ?_;go_wp2;have c8:w2 (aI db i cv.drew):=gc.out.trans (aI.below (ai (w3 _ _)));have mk:w2 (N=(dL n am (ac.drop q) O).length):=by show _=_;rw[ea.out];exact fw.out
 have k1:w2 (∀p∈cy,eU n p<(dL n am (ac.drop q) O).length):=lm.out _ (by rw[ea.out,d9.out]);refine yO (λW=>aI db i W) [1,2,4,0,3,5] c8.out ?_
 repeat refine zO cs.out ?_
 refine zZ ?_;refine(io.out _).mono ?_;rintro e cx ⟨ol,rfl,c9,da⟩;obtain⟨⟨k2,la,rfl,-,-⟩,-⟩:=id c9;have ge:=aa c9;have dd:w2 (aI db i cx):=c8.out.trans (aI.below da);have ml:w2 (bF cx db (dL n am (ac.drop q) O)):=(me.out.below (ai (w3 _ _))).below da;have mm:w2 (db<cv.drew.heap.size):=x6 C.out.2.2.2.2.2.2.2.2.1 c8.out.sz;clear c9 da;refine⟨_,rfl,dd.out,jO ?_⟩;refine zZ ?_;refine(Cu n n db N dx bv (dL n am (ac.drop q) O) cy eh (.slice k2 cy.length la) b7 cx oO oO mk.out fv ml.out ge.out.1 (λA m k y e1 e2=>by have r:=ge.out.2 A m k y e1 e2;have bd:=mm.out;omega) (mt.out.Ta dd.out fd.out) fd.out iv.out k1.out).mono ?_;rintro e bo ⟨rfl,gg,gi⟩;have mo:w2 (bF bo db dl):=by show bF _ _ _;rw[<-d8.out];exact gg
 have b4:w2 (aI db i bo):=dd.out.trans gi;clear gg gi;refine⟨_,rfl,b4.out,jO ?_⟩;refine aj ?_;obtain⟨⟨V,X⟩,⟨dy,dz,dE,d0⟩,k0,n5,n6⟩:=cs.out bo b4.out;have D:w2 (ag bo F cg 30):=b4.out.row (i2.out.below c6.out) C.out.2.1;have c0:=eu D.out;have c1:=ia D.out;have dv:=kt D.out;have gy:=mP D.out;have bt:=nV D.out;have bv:=Iz D.out;have gz:=bN 0 D.out;have gC:=bN 1 D.out;have gD:=bN 2 D.out;have gN:=bN 3 D.out;have gY:=bN 4 D.out;have g0:=bN 5 D.out;have lc:w2 (af w bo):=(ek.out.trans (c6.out.mono ca.out.2.2.2)).trans (b4.out.to C.out.2.2.2.2.2.2.2.2.2.1 C.out.2.2.2.2.2.2.2.2.2.2.2.2);have a7:w.heap.size<=F:=ca.out.1;go_wp2;refine bodyPost_ret (v:= .tuple #[sU L c m n db N,I J 0]) (by simp[results,results35,go_sem,c0,c1,dv,gy,bt,bv,gz,gC,gD,gN,gY,g0]) rfl ⟨db,N,cq.out,rfl,?_,C.out.2.2.2.2.2.2.2.2.2.1,?_⟩
 ·have a6:db≠F:=(C.out.2.1).symm;exact ag.jK (ag.jK (ag.jK (ag.jK (ag.jK (ag.jK mo.out _ _ a6) _ _ a6) _ _ a6) _ _ a6) _ _ a6) _ _ a6
 ·exact(((((lc.out.setCell a7 _).setCell a7 _).setCell a7 _).setCell a7 _).setCell a7 _).setCell a7 _
noncomputable def dg (c:Bool) (b:List Bool):Int×Int×Int:=if b.length≠(gI c+jw c+fS c* 4)then(0,0,7)else match nv c b with
 |none=>(0,0,17)
 |some q=>((q.1:Int),(q.2:Int),0)
theorem gf.nice {s d k first:Nat} {a:List Nat} {w f:wR} {e:Ending} (h:gf s d k first a w e f):af w f/\
 ((∃v A n c g b i,w2 (ei s d k first a (gk v))/\e= .returned (.tuple #[.agg #[.slice A n c,.slice g b i],I J 0])/\w2 (SR vN 0 f A n c v)/\w2 (b=(cf a v).length))\/(w2 (ei s d k first a U)/\e= .returned (.tuple #[.agg #[aS,aS],I J 17]))):=by
 refine⟨h.1,?_⟩;rcases h.2 with⟨v,V,o,j,rfl,l,m⟩|⟨j,rfl⟩
 ·obtain⟨A,n,c,rfl,-,hs,-⟩:=az.Pw l;obtain⟨g,b,i,rfl,hn,-,-⟩:=az.Pw m;exact .inl ⟨v,A,n,c,g,b,i,j,rfl,hs,hn⟩
 ·exact .inr ⟨j,rfl⟩
theorem CG (c:Bool) (b:List Bool) (A:Option Addr) (n u:Nat) (w:wR) (hb:SR vB R w A n u b):wS w1 25 #[.slice A n u,.bool c] w (Fh w (dg c b).1 (dg c b).2.1 (dg c b).2.2):=by
 have D:w2 (n=b.length):=hb.hn;have dy:n<=9223372036854775807:=by have:=hb.hm;have:=hb.hc;unfold maxLen at*;omega
 have O:w2 (∀W,wS w1 58 #[.bool c] W λe p=>e= .returned (.tuple #[I J ((gI c:Nat):Int),I J ((jw c:Nat):Int),I J ((fS c:Nat):Int)])/\p=W):=λW=>ur c W;have a8:1<=gI c/\gI c<=11/\1<=jw c/\jw c<=11/\fS c<=6:=by cases c<;>decide
 by_cases t:n=gI c+jw c+fS c* 4
 ·obtain⟨m,E⟩:∃m,m=nZ c+fS c:=⟨_,rfl⟩;have F:n=m* 4:=by rw[t,E];cases c<;>rfl
  have P:b.length/4=m:=by rw[<-D.out,F];omega
  have dz:m<=15/\fS c<m/\gI c+jw c<=m* 4:=by rw[E];cases c<;>decide
  have G:=ej b 4 m;have am:=mQ b 4 m;have H:dg c b=match(yp 16 19 (fS c) 1 (aW b 4 m)).map (λv=>(ba (bE v 4) 0 (gI c)+1,ba (bE v 4) (gI c) (jw c)+1))with|none=>(0,0,17)|some q=>((q.1:Int),(q.2:Int),0):=by
   unfold dg;rw[if_neg (by rw[<-D.out];exactλh=>h t)];unfold nv;rw[P]
  have K:=Dm c;have a9:w2 (∀W,af w W->wS w1 60 #[.slice A n u,I J 4,.bool R] W (RT vN 0 W (aW b 4 m,0))):=λW ap=>tT A n u 4 m b W oO oO F oO (hb.below ap);have bb:w2 (∀W,wS w1 61 #[I J 4,I J ((fS c:Nat):Int)] W (au (.tuple #[bZ 2 16 19 (fS c) 1,I J 0]) W)):=λW=>vx (fS c) W K;have bd:w2 (∀W A f d,SR vN 0 W A f d (aW b 4 m)->RD W A (zl (aW b 4 m))->wS w1 66 #[bZ 2 16 19 (fS c) 1,.slice A f d,.slice U 0 0] W (gf 16 19 (fS c) 1 (aW b 4 m) W)):=by
   show∀W A f d,_->_->_;intro W A f d hs av;have l:=hs.hn;have a0:=l;rw[G]at a0;exact xx 2 16 19 (fS c) 1 _ f A d W K l am oO oO av
  have ch:w2 (∀v,ei 16 19 (fS c) 1 (aW b 4 m) (gk v)->ak 16 v/\v.length=m):=by
   show∀v,_->_;intro v r;have M:=r.2 v rfl;exact⟨M.lt,by rw[M.ln,G]⟩
  have ci:w2 (∀v,ei 16 19 (fS c) 1 (aW b 4 m) (gk v)->dg c b=(((ba (bE v 4) 0 (gI c)+1:Nat):Int),((ba (bE v 4) (gI c) (jw c)+1:Nat):Int),0)):=by
   show∀v,_->_;intro v r;rw[H,kT r];rfl
  have be:w2 (ei 16 19 (fS c) 1 (aW b 4 m) U->dg c b=(0,0,17)):=by
   show _->_;intro r;rw[H,kT r];rfl
  have bf:w2 (∀W A f d v,ak 16 v->v.length=m->SR vN 0 W A f d v->wS w1 63 #[.slice A f d,I J 4] W (RT vB R W (bE v 4,0))):=by
   show∀W A f d v,_->_->_->_;intro W A f d v bi y hs;have l:=hs.hn;exact pI A f d 4 v W oO oO oO bi hs
  have bo:w2 (∀W A g d (v:List Nat),v.length=m->SR vB R W A g d (bE v 4)->wS w1 67 #[.slice A g d,I J 0,I J ((gI c:Nat):Int)] W (λe p=>e= .returned (.tuple #[I J ((ba (bE v 4) 0 (gI c):Nat):Int),I J 0])/\p=W)):=by
   show∀W A g d v,_->_->_;intro W A g d v y hs;have l:=hs.hn;rw[dQ,y]at l;exact BQ A g d 0 (gI c) _ W oO oO oO oO hs
  have ck:w2 (∀W A g d (v:List Nat),v.length=m->SR vB R W A g d (bE v 4)->wS w1 67 #[.slice A g d,I J ((gI c:Nat):Int),I J ((jw c:Nat):Int)] W (λe p=>e= .returned (.tuple #[I J ((ba (bE v 4) (gI c) (jw c):Nat):Int),I J 0])/\p=W)):=by
   show∀W A g d v,_->_->_;intro W A g d v y hs;have l:=hs.hn;rw[dQ,y]at l;exact BQ A g d (gI c) (jw c) _ W oO oO oO oO hs
  have Q:w2 (∀(v:List Nat) (a k:Nat),k<=11->ba (bE v 4) a k<2048):=by
   show∀(v:List Nat) (a k:Nat),_->_;intro v a k a1;exact x6 (eS _ _ _) (Nat.pow_le_pow_right (n:=2) oO a1)
  have co:((gI c:Nat):Int)+((jw c:Nat):Int)+((fS c:Nat):Int)* 4=(n:Int):=oO;have cp:∀z:Int,z=(n:Int)->((n:Int)==z)=wP:=λz h=>by rw[h];simp
  clear H P E F G am K hb;generalize dg c b=a2 at*;generalize gI c=lb at*;generalize jw c=db at*;generalize fS c=mp at*;generalize aW b 4 m=cq at*;obtain⟨i,L⟩:∃i,i=lb+db:=⟨_,rfl⟩;obtain⟨j,o⟩:∃j,j=mp* 4:=⟨_,rfl⟩;have bq:(lb:Int)+(db:Int)=(i:Int):=oO;have bs:(mp:Int)* 4=(j:Int):=oO;have bt:(i:Int)+(j:Int)=(n:Int):=oO;have hq:=a8;clear L o co cp t;go_enter func25,ntmps25
  go_wp2_with(first
   |(go_at_call 58;refine(O.out _).mono ?_;rintro e a3 ⟨rfl,s⟩;rw[s];clear s)
   |(go_at_call 60;refine(a9.out _ (w3 _ _)).mono ?_;rintro e a4 ⟨cr,rfl,o,S⟩;obtain⟨cs,n2,cv,rfl,-,bv,T⟩:=o.rd;have bx:=aa bv;have bz:=aa T;have b1:w2 (af w a4):=S;clear o S T)
   |(go_at_call 61;refine(bb.out _).mono ?_;rintro e cx ⟨rfl,B⟩;have b2:=aa (ae b1.out B);have b3:=aa (bx.out.below B);have b4:=aa (bz.out.below B);clear B)
   |(go_at_call 66;refine(bd.out _ _ _ _ (b3.out.below (ax _ _)) (b4.out.below (ax _ _))).mono ?_;rintro e cy V;obtain⟨X,a5⟩:=gf.nice V;clear V;have Y:=aa (ae (ah b2.out _) X);clear X;rcases a5 with⟨v,c2,c3,c4,c5,c6,cc,x,rfl,b5,dl⟩|⟨x,rfl⟩)
    |(go_at_call 63;have C:=aa (ch.out v x.out);have a6:=aa (ci.out v x.out);refine(bf.out _ _ _ _ v C.out.1 C.out.2 (b5.out.below (ax _ _))).mono ?_;rintro e N ⟨v6,rfl,Z,ab⟩;obtain⟨c7,c8,c9,rfl,b6⟩:=Z.parts;have ac:=aa b6;have b7:=aa (ae (ah Y.out _) ab);clear Z ab;have dn:=Q.out v 0 lb oO;have ds:=Q.out v lb db oO;have b9:=aa (bo.out N _ _ _ v C.out.2 ac.out);have ca:=aa (ck.out N _ _ _ v C.out.2 ac.out);generalize ba (bE v 4) 0 lb=da at*;generalize ba (bE v 4) lb db=dd at*)
    |(go_at_call 67;(with_reducible show wS _ _ #[_,I J 0,_] _ _);refine b9.out.mono ?_;rintro e de ⟨rfl,ad⟩;rw[ad];clear ad)
    |(go_at_call 67;refine ca.out.mono ?_;rintro e di ⟨rfl,al⟩;rw[al];clear al))
  ·go_ret3
   rw[a6.out];exact⟨rfl,b7.out⟩
  ·have cb:=aa (be.out x.out);go_ret3
   rw[cb.out];exact⟨rfl,ah Y.out _⟩
 ·have a7:w2 (dg c b=(0,0,7)):=by show _=_;unfold dg;rw[if_pos (by rw[<-D.out];exact t)]
  generalize dg c b=a2 at*;generalize gI c=lb at*;generalize jw c=db at*;generalize fS c=mp at*;obtain⟨i,L⟩:∃i,i=lb+db:=⟨_,rfl⟩;obtain⟨j,o⟩:∃j,j=mp* 4:=⟨_,rfl⟩;obtain⟨s3,ce⟩:∃s3,s3=i+j:=⟨_,rfl⟩;have bq:(lb:Int)+(db:Int)=(i:Int):=oO;have bs:(mp:Int)* 4=(j:Int):=oO;have bt:(i:Int)+(j:Int)=(s3:Int):=oO;have dv:i<=22/\j<=24:=oO;have dx:((n:Int)==(s3:Int))=R:=by rw[beq_eq_false_iff_ne];omega
  clear L o ce t hb;go_enter func25,ntmps25;go_wp2_with(go_at_call 58;refine(O.out _).mono ?_;rintro e a3 ⟨rfl,s⟩;rw[s];clear s)
  go_ret3
  rw[a7.out];exact⟨rfl,w3 _ _⟩
end
end Go.Proofs.YtmnlkganmgcpbaaGreatDoor
