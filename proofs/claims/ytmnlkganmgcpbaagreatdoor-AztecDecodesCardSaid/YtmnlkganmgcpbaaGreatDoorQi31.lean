import Derived.Test.YtmnlkganmgcpbaaGreatDoorQi30
import Derived.Test.YtmnlkganmgcpbaaGreatDoorQi11
set_option maxRecDepth 100000
set_option maxHeartbeats 4000000
set_option linter.unusedVariables false
set_option linter.unusedSectionVars false
set_option linter.unusedSimpArgs false
set_option linter.defProp false
open Go.Value renaming int->I
open Go.IntKind renaming i64->J
open Bool renaming false->R,true->wP
open Option renaming none->U,some->gk
open Go renaming World->wR,Calls->wS
open Go.Proofs.Tryz renaming prog->w1,ntmps28->Ve,func28->Vp
open Go.RowKit renaming Hid->w2
open Go.RowKit.Below renaming refl->w3
open _root_ renaming Option->xv,congrArg->z7
open Go.Proofs.Tryz
namespace Go.Proofs.YtmnlkganmgcpbaaGreatDoor
section
open Go.RowKit
theorem E0 {e:Array Oper} {S:wR->Prop} {K:Act->wR->Prop} {f:List (Bool×Nat×Oper)} {k:Nat} {c:Oper} {a:Act} {W:wR} {base:Nat} {v:Value} {n:Nat} {xs ys:List Bool} {B:xv Addr} {m g:Nat} (j:W.ownsRow base 4 1 v n (xs.map vB)) (hb:base<=W.heap.size)
 (w:Region.wanted c (yielded e a.tmps)=wP) (s y:Operand) (l:c.op= .call {callee:= .builtin .append,args:=#[s,y],argTypes:=#[26,26]}) (hs:a.eval s=v) (o:a.eval y= .slice B m g) (p:m=ys.length) (q:RG vB R W B ys) (hl:n+m<=100000000)
 (r:∀d b,b.ownsRow base 4 1 d (n+m) ((xs++ys).map vB)->W.grownBy b v.ownBlock->S b/\bI w1 e S K f (a.put c.dst d) b):
 bI w1 e S K ((wP,k,c)::f) a W:=by
 obtain⟨t,u,x,z,A⟩:=info_parts fF;obtain⟨d,b,C,D,hg⟩:=FC (P:=w1) (f:=vB) (d:=R) tu W base 26 c.type 4 t _ 1 underlying26 u x z A rfl v n xs j B m g ys p q oM oO hb;have i:=r d b D hg;refine fl w ?_ i.1 i.2;unfold execOp;simp only[l,resolve,invoke,builtin,Sem.run_bind,Sem.run_pure,Result.andThen_ok,List.map_toArray,List.map_cons,List.map_nil,hs,o,C]
theorem BE (n:Nat) (H:Int) (A:xv Addr) (N m:Nat) (d:List Bool) (ps:List Pt) (v:Value) (w:wR) (hn:n<=4096) (bq:N<=4194304) (u:SR vB R w A N m d) (a1:SP w v ps) (a9:ps.length<=100000) (T:∀g∈ps,g.1<=4096/\g.2<=4096/\eU n g<N):
 wS w1 77 #[cZ n H A N m,v] w λe L=>∃v,e= .returned v/\SG vB R L v (fq n d ps)/\af w L:=by
 obtain⟨bs,bt,b2,b3,b4⟩:=info_parts fF;obtain⟨bv,c,rfl,V,bb,M⟩:=a1;obtain⟨j,C⟩:∃j,j=ps.length:=⟨_,rfl⟩;rw[<-C]at V a9⊢;have p:=aa C;have a2:=aa M;have a3:=aa u;have X:w2 (N=d.length):=u.hn;have bd:=aa T;clear M u T C V bb;obtain⟨o,D⟩:∃o,o=w.heap.size:=⟨_,rfl⟩;obtain⟨f,t⟩:∃f,f=w.alloc (.cells (gh n H A N m) 28):=⟨_,rfl⟩;have l:w2 (af w f):=by show Below _ _ _;rw[t];exact ax _ _
 have be:w2 (ag f o (gh n H A N m) 28):=by show ag _ _ _ _;rw[t];exact ag.new _ _ _ _ D
 have Y:w2 (OG vB 4 f f (.slice U 0 0) (fq n d (ps.take 0))):=OG.start _ _;go_enter func77,ntmps77;go_wp2;simp only[<-D,<-t];clear D t;go_loopw [5,6] (λa4 x wr=>∃a:Nat,a<=j/\x=I J a/\w2 (OG vB 4 f wr a4 (fq n d (ps.take a)))) (λ_ x _=>j-(intOf x).toNat)
 case atStart=>exact⟨0,Nat.zero_le _,rfl,Y.out⟩
 case round=>
  clear Y;obtain⟨a,bx,rfl,k⟩:=hrel;by_cases E:a<j
  ·obtain⟨r,s,rfl,F,Z⟩:=a2.out (by rw[<-p.out];omega);have y:=Z a (by rw[<-p.out];exact E);have ab:ps.getD a (0,0)∈ps:=by
    have:a<ps.length:=by rw[<-p.out];exact E
    simp only[List.getD,List.getElem?_eq_getElem this,Option.getD_some];exact List.getElem_mem this
   obtain⟨b5,b6,ap⟩:=bd.out _ ab;have ac:w2 (fq n d (ps.take (a+1))=fq n d (ps.take a)++[d.getD (eU n (ps.getD a (0,0))) R]):=Eh (by rw[<-p.out];exact E);have bf:w2 ((fq n d (ps.take a)).length<=100000):=by show _<=_;unfold fq;simp;omega
   generalize ps.getD a (0,0)=g at*;generalize fq n d (ps.take a)=O at*;obtain⟨q,hq⟩:∃q,q=g.2* n:=⟨_,rfl⟩;obtain⟨i,K⟩:∃i,i=eU n g:=⟨_,rfl⟩;have bi:i=q+g.1:=by rw[K,hq];rfl
   rw[<-K]at ap ac;have b7:q<=4194304:=oO;have b9:(g.2:Int)* (n:Int)=(q:Int):=by rw[hq];simp
   have bz:J.wrap (q:Int)=(q:Int):=aG _ oO oO;have b1:J.wrap ((q:Int)+(g.1:Int))=(i:Int):=by rw[aG _ oO oO];omega
   have ce:(i:Int)<(N:Int):=oO;have ca:(a:Int)<(j:Int):=oO;obtain⟨z,rfl,av,ad⟩:=a3.out.rd (by rw[<-X.out];omega);have al:=ad i (by rw[<-X.out];exact ap);have cb:w2 (af w wr):=l.out.trans (k.out.B.mono l.out.size);have a5:w2 (∀W,af f W->(W.cell? ⟨r,s+a* 2,U⟩=gk (I J (g.1:Int))/\W.cell? ⟨r,s+a* 2+1,U⟩=gk (I J (g.2:Int)))/\(W.cell? ⟨o,0,U⟩=gk (I J (n:Int))/\W.cell? ⟨o,2,U⟩=gk (.slice (gk z) N m))/\W.cell? (z.add i)=gk (.bool (d.getD i R))):=by
    show∀W,_;intro W P;have B:=l.out.trans (P.mono l.out.size);have Q:=be.out.below P;exact⟨⟨(B.cell (p:=⟨r,s+a* 2,U⟩) F).trans y.1,(B.cell (p:=⟨r,s+a* 2+1,U⟩) F).trans y.2⟩,⟨Q.cell 0 _ rfl,Q.cell 2 _ rfl⟩,(B.cell (p:=z.add i) (by rw[aD];exact av)).trans al⟩
   generalize d.getD i R=b at*;have bo:w2 (f.heap.size<=wr.heap.size):=k.out.B.size;clear hq K bi ab Z y ad al F av;have am:w2 (af f wr.drew):=ai k.out.B;go_wp2;refine yO (af f) [1,2,3,4,5,6,7,8,9,10,11,12,13,14,15,16,17,18,19,0,20,21,0,22] am.out ?_
   repeat refine zO a5.out ?_
   refine' zQ (v:= .slice (gk ⟨wr.drew.heap.size,0,U⟩) 1 1) (w':=wr.drew.alloc (.cells #[.bool b] 4)) rfl (by go_simp) (ah am.out _) ?_;have G:w2 (af wr (wr.drew.alloc (.cells #[.bool b] 4))):=ah (ai (w3 _ _)) _;refine' E0 (xs:=O) (ys:=[b]) (aq k.out.O G.out) (Nat.le_trans bo.out G.out.size) rfl _ _ rfl rfl rfl rfl (RG.one _ _ _ _ rfl) (by have:=bf.out;omega) ?_;intro a6 a7 a0 hg;have S:w2 (OG vB 4 f a7 a6 (O++[b])):=k.out.grow G.out a0 hg;clear a0 hg;refine⟨S.out.B,?_⟩;simp only[yQ,yU,yX,yY];refine zU ?_;refine aj ?_;go_wp2;exact⟨⟨a+1,by omega,by go_num,by show OG _ _ _ _ _ _;rw[ac.out];exact S.out⟩,by simp[intOf];omega⟩
  ·obtain rfl:a=j:=oO;have a8:w2 (fq n d (ps.take a)=fq n d ps):=by show _=_;rw[p.out,List.take_length]
   go_wp2;go_ret;exact⟨_,rfl,by have h:=k.out.sg (d:=R);rw[a8.out]at h;exact h,l.out.trans (k.out.B.mono l.out.size)⟩
theorem Jr (W H:Int) (A:xv Addr) (N a:Nat) (d:List Bool) (w:wR) (g:N<=9223372036854775807) (b:cU W H N=R) (c:d.length=N):wS w1 28 #[cZ W H A N a] w (dU w (dF W H d)):=by
 have i:w2 (dF W H d=([],0,1)):=by show _=_;unfold dF;rw[c,if_pos b]
 have j:w2 (∀V,wS w1 73 #[cZ W H A N a] V (au (.bool R) V)):=λV=>by rw[<-b];exact nw W H A N a V g
 clear b c;go_enter Vp,Ve;go_wp2_with(go_at_call 73;refine(j.out _).mono ?_;rintro e l ⟨rfl,f⟩;have k:=aa (dT f);clear f)
 go_ret3
 exact dU.err i.out k.out
theorem Fv (n m:Nat) (A:xv Addr) (N a:Nat) (d:List Bool) (w:wR) (hn:n<=4096) (l:N<=4194304) (b:cU n m N=wP) (f:d.length=N) (s:n≠m):wS w1 28 #[cZ n m A N a] w (dU w (dF n m d)):=by
 have g:w2 (dF n m d=([],0,23)):=by
  show _=_;unfold dF;rw[f,b,if_neg oD,if_pos (.inl oO)]
 have j:w2 (∀V,wS w1 73 #[cZ n m A N a] V (au (.bool wP) V)):=λV=>by rw[<-b];exact nw _ _ A N a V oO
 have t:((n:Int)!=(m:Int))=wP:=by rw[bne_iff_ne];omega
 clear b f;have i:=iT w n m A N a;go_enter Vp,Ve;go_wp2_with(go_at_call 73;refine(j.out _).mono ?_;rintro e o ⟨rfl,c⟩;have k:=aa (dT c);obtain⟨p,q,r⟩:=i.out _ c;clear c)
 go_ret3
 exact dU.err g.out k.out
theorem Ej (n:Nat) (A:xv Addr) (N a:Nat) (d:List Bool) (w:wR) (hn:n<=4096) (u:N<=4194304) (g:cU n n N=wP) (i:d.length=N) (j:jP n wP=0) (k:jP n R=0):wS w1 28 #[cZ n n A N a] w (dU w (dF n n d)):=by
 have o:w2 (dF n n d=([],0,23)):=by
  show _=_;have e5:dh n wP=R:=by rcases mI n wP with h|h;exact h.2;omega
  have e6:dh n R=R:=by rcases mI n R with h|h;exact h.2;omega
  unfold dF;rw[i,g,if_neg oD,if_pos (.inr (by rw[Int.toNat_natCast];exact⟨e5,e6⟩))]
 have t:w2 (∀V,wS w1 73 #[cZ n n A N a] V (au (.bool wP) V)):=λV=>by rw[<-g];exact nw _ _ A N a V oO
 have p:w2 (∀V c,wS w1 74 #[I J n,.bool c] V (au (I J 0) V)):=λV c=>by
  have h:=ki n c V hn;have:jP n c=0:=by cases c;exact k;exact j
  rw[this]at h;exact h
 clear g i j k;have l:=iT w n n A N a;go_enter Vp,Ve
 go_wp2_with(first
  |(go_at_call 73;refine(t.out _).mono ?_;rintro e m ⟨rfl,b⟩;have f:w2 (Below (w.alloc (qN n n A N a)).heap.size (w.alloc (qN n n A N a)) m):=b;obtain⟨q,r,s⟩:=l.out _ b;clear b)
  |(go_at_call 74;refine(p.out _ _).mono ?_;rintro e m ⟨rfl,b⟩;have f:=aa (ae f.out b);obtain⟨q,r,s⟩:=l.out _ f.out;clear b))
 go_ret3
 exact dU.err o.out (dT f.out)
theorem tj (n:Nat) (A:xv Addr) (N m:Nat) (d:List Bool) (w:wR) (Z:n<=161) (v:N=n* n) (ab:N<=4194304) (M:cU n n N=wP) (x:SR vB R w A N m d) (o p:Int) (e6 e4:Bool)
 (y:(jP n wP:Int)=o) (z:(jP n R:Int)=p) (O:gn n ((n-1)/2) R d=e6) (P:gn n ((n-1)/2) wP d=e4) (Q:dF n n d=([],0,18))
 (hc:(¬p=0/\e6=R/\o=0)\/(¬p=0/\e6=R/\¬o=0/\e4=R)\/(p=0/\¬o=0/\e4=R)):wS w1 28 #[cZ n n A N m] w (dU w (dF n n d)):=by
 have B:=aa Q;have F:w2 (∀V,wS w1 73 #[cZ n n A N m] V (au (.bool wP) V)):=λV=>by rw[<-M];exact nw _ _ A N m V oO
 have G:w2 (∀V,wS w1 74 #[I J n,.bool wP] V (au (I J o) V)):=λV=>by rw[<-y];exact ki n wP V oO
 have H:w2 (∀V,wS w1 74 #[I J n,.bool R] V (au (I J p) V)):=λV=>by rw[<-z];exact ki n R V oO
 have C:w2 (∀c,¬(jP n c:Int)=0->bu c+2<=(n-1)/2/\n=2* ((n-1)/2)+1):=λc h=>by
  have s:dh n c=wP:=by rcases mI n c with D|D;exact absurd D.1 oO;exact D.2.2.2.2
  have:=lG s;omega
 have T:w2 (¬p=0->∀V,af w V->wS w1 75 #[cZ n n A N m,I J 6] V (au (.bool e6) V)):=λh V E=>by
  have s:=C.out R (by rw[z];exact h);have X:bu R=7:=rfl;rw[<-O];exact tz n ((n-1)/2) 6 R n A N m d V rfl oO s.2 oO v (x.below E)
 have W:w2 (¬o=0->∀V,af w V->wS w1 75 #[cZ n n A N m,I J 4] V (au (.bool e4) V)):=λh V E=>by
  have s:=C.out wP (by rw[y];exact h);have X:bu wP=5:=rfl;rw[<-P];exact tz n ((n-1)/2) 4 wP n A N m d V rfl oO s.2 oO v (x.below E)
 clear M x y z O P v Q C;have g:=iT w n n A N m;obtain⟨w0,q⟩:∃w0,w0=w.alloc (qN n n A N m):=⟨_,rfl⟩;have i:w2 (af w w0):=by show Below _ _ _;rw[q];exact ax _ _
 obtain⟨S,r⟩:∃S,S=w.heap.size:=⟨_,rfl⟩;rw[<-q,<-r]at g;rcases hc with⟨t,rfl,rfl⟩|⟨t,rfl,u,rfl⟩|⟨rfl,u,rfl⟩
 ·have Y:(p==0)=R:=beq_eq_false_iff_ne.2 t;have K:=aa (T.out t);go_enter Vp,Ve
  go_wp2_with(first
   |(go_at_call 73;(rw[<-q]);(simp only[<-r]);refine(F.out _).mono ?_;rintro e f ⟨rfl,a⟩;have b:w2 (af w0 f):=a;obtain⟨j,k,l⟩:=g.out _ a;clear a q r)
   |(go_at_call 74;(with_reducible show wS _ _ #[_,.bool wP] _ _);refine(G.out _).mono ?_;rintro e f ⟨rfl,a⟩;have b:=aa (ae b.out a);obtain⟨j,k,l⟩:=g.out _ b.out;clear a)
   |(go_at_call 74;(with_reducible show wS _ _ #[_,.bool R] _ _);refine(H.out _).mono ?_;rintro e f ⟨rfl,a⟩;have b:=aa (ae b.out a);obtain⟨j,k,l⟩:=g.out _ b.out;clear a)
   |(go_at_call 75;(with_reducible show wS _ _ #[_,I J 6] _ _);refine(K.out _ (i.out.trans (b.out.mono i.out.size))).mono ?_;rintro e f ⟨rfl,a⟩;have b:=aa (ae b.out a);obtain⟨j,k,l⟩:=g.out _ b.out;clear a))
  go_ret3
  exact dU.err B.out (i.out.trans (b.out.mono i.out.size))
 ·have Y:(p==0)=R:=beq_eq_false_iff_ne.2 t;have c1:(o==0)=R:=beq_eq_false_iff_ne.2 u;have K:=aa (T.out t);have L:=aa (W.out u);go_enter Vp,Ve
  go_wp2_with(first
   |(go_at_call 73;(rw[<-q]);(simp only[<-r]);refine(F.out _).mono ?_;rintro e f ⟨rfl,a⟩;have b:w2 (af w0 f):=a;obtain⟨j,k,l⟩:=g.out _ a;clear a q r)
   |(go_at_call 74;(with_reducible show wS _ _ #[_,.bool wP] _ _);refine(G.out _).mono ?_;rintro e f ⟨rfl,a⟩;have b:=aa (ae b.out a);obtain⟨j,k,l⟩:=g.out _ b.out;clear a)
   |(go_at_call 74;(with_reducible show wS _ _ #[_,.bool R] _ _);refine(H.out _).mono ?_;rintro e f ⟨rfl,a⟩;have b:=aa (ae b.out a);obtain⟨j,k,l⟩:=g.out _ b.out;clear a)
   |(go_at_call 75;(with_reducible show wS _ _ #[_,I J 6] _ _);refine(K.out _ (i.out.trans (b.out.mono i.out.size))).mono ?_;rintro e f ⟨rfl,a⟩;have b:=aa (ae b.out a);obtain⟨j,k,l⟩:=g.out _ b.out;clear a)
   |(go_at_call 75;(with_reducible show wS _ _ #[_,I J 4] _ _);refine(L.out _ (i.out.trans (b.out.mono i.out.size))).mono ?_;rintro e f ⟨rfl,a⟩;have b:=aa (ae b.out a);obtain⟨j,k,l⟩:=g.out _ b.out;clear a))
  go_ret3
  exact dU.err B.out (i.out.trans (b.out.mono i.out.size))
 ·have c1:(o==0)=R:=beq_eq_false_iff_ne.2 u;have L:=aa (W.out u);go_enter Vp,Ve
  go_wp2_with(first
   |(go_at_call 73;(rw[<-q]);(simp only[<-r]);refine(F.out _).mono ?_;rintro e f ⟨rfl,a⟩;have b:w2 (af w0 f):=a;obtain⟨j,k,l⟩:=g.out _ a;clear a q r)
   |(go_at_call 74;(with_reducible show wS _ _ #[_,.bool wP] _ _);refine(G.out _).mono ?_;rintro e f ⟨rfl,a⟩;have b:=aa (ae b.out a);obtain⟨j,k,l⟩:=g.out _ b.out;clear a)
   |(go_at_call 74;(with_reducible show wS _ _ #[_,.bool R] _ _);refine(H.out _).mono ?_;rintro e f ⟨rfl,a⟩;have b:=aa (ae b.out a);obtain⟨j,k,l⟩:=g.out _ b.out;clear a)
   |(go_at_call 75;(with_reducible show wS _ _ #[_,I J 4] _ _);refine(L.out _ (i.out.trans (b.out.mono i.out.size))).mono ?_;rintro e f ⟨rfl,a⟩;have b:=aa (ae b.out a);obtain⟨j,k,l⟩:=g.out _ b.out;clear a))
  go_ret3
  exact dU.err B.out (i.out.trans (b.out.mono i.out.size))
def Pq (n:Nat) (A:xv Addr) (N u:Nat) (w:wR) (L:Nat) (c:Bool) (j k:Nat) (o:List UInt8×Int×Int):Prop:=
 ∃(t:List Pt) (l:List Bool) (a:List Nat) (S i g q r m:Nat),g+k=j/\q+r=m/\m<=20000/\j<=20000/\((j:Nat):Int)* ((aw L:Nat):Int)=(r:Int)/\aw L<=12/\l.length=m/\
  w2 (∀W,wS w1 51 #[I J (L:Int),.bool c] W λe b=>∃v,e= .returned v/\w2 (SP b v t)/\af W b)/\
  w2 (∀W v,af w W->SP W v t->wS w1 77 #[cZ n n A N u,v] W λe b=>∃B p s,e= .returned (.slice B p s)/\w2 (SR vB R b B p s l)/\af W b)/\
  w2 (∀W A d f,SR vB R W A d f (l.drop q)->wS w1 70 #[.slice A d f,I J ((aw L:Nat):Int)] W λe b=>∃v,e= .returned v/\SG vN 0 b v a/\af W b)/\
  w2 (∀W,wS w1 69 #[I J ((aw L:Nat):Int),I J (g:Int)] W (au (bZ 2 S i g 1) W))/\
  w2 (∀W A d f,SR vN 0 W A d f a->RD W A (zl a)->wS w1 68 #[bZ 2 S i g 1,.slice A d f,.slice U 0 0] W (gf S i g 1 a W))/\
  w2 (∀W A d f v,SR vN 0 W A d f v->wS w1 78 #[.slice A d f,I J ((aw L:Nat):Int)] W (RT vB R W (aC (zN v) (aw L))))/\
  w2 (∀v,ei S i g 1 a (gk v)->v.length=j)/\w2 (∀v,ei S i g 1 a (gk v)->o=pZ v a k (aw L))/\w2 (ei S i g 1 a U->o=([],0,17))
theorem Tp (L:Nat) (c:Bool) (k n:Nat) (A:xv Addr) (N j:Nat) (d:List Bool) (w:wR) (g:1<=L) (i:L<=32) (hc:c=wP->L<=4) (hn:n=aB L c) (M:1<=k) (K:k<aJ L c) (q:N=n* n) (t:SR vB R w A N j d):
 Pq n A N j w L c (aJ L c) k (lp n L c k d):=by
 have O:=uC (c:=c) g i hc;have P:=gF L;have E:=oH L c g i;have V:=oU (c:=c) i;have Q:=tB L c;have S:=rD L c;have T:=room_le (c:=c) i;have r:n<=161:=by rw[hn];exact E.2
 have F:N<=4194304:=by rw[q];exact Nat.le_trans (Nat.mul_le_mul r r) oD
 have G:eD 2 (2^aw L) (kK (aw L)) (aJ L c-k) 1:=D2 (mE L) oO oO;have l:(fq n d (cO L c)).length=(cO L c).length:=by unfold fq;rw[List.length_map]
 refine⟨cO L c,fq n d (cO L c),rk n L c d,2^aw L,kK (aw L),aJ L c-k,(cO L c).length-aJ L c* aw L,aJ L c* aw L,(cO L c).length,by omega,by omega,by omega,by omega,by simp,by omega,l,?_,?_,?_,?_,?_,?_,?_,?_,?_⟩
 ·exactλW=>(Ge L c W i).mono λe u ⟨v,g,m,o⟩=>⟨v,g,m.1,o⟩
 ·exactλW v x f=>(BE n n A N j d _ v W oO F (t.below x) f oO (λH y=>by
   have:=wX i y;rw[<-hn]at this
   exact⟨by omega,by omega,by rw[q];exact mz this.1 this.2⟩)).mono λe u ⟨v,g,m,o⟩=>by
    obtain⟨B,s,z,rfl,C⟩:=m.parts;exact⟨B,s,z,g,C,o⟩
 ·show∀W A a b,_->_;intro W A a b hs;have p:=hs.hn;rw[List.length_drop,l]at p;exact rA A a b (aw L) (aJ L c) _ W oO oO oO oO hs
 ·exactλW=>K3 (aw L) (aJ L c-k) W (mE L)
 ·show∀W A a b,_->_->_;intro W A a b hs D;have p:=hs.hn;have l:(rk n L c d).length=aJ L c:=ej _ _ _;exact r5 2 _ _ _ 1 _ a A b W G p (mQ _ _ _) oO oO D
 ·show∀W A a b v,_->_;intro W A a b v hs;exact E7 A a b (aw L) (zN v) W hs.zN
 ·show∀v,_->_;intro v f;rw[(f.2 v rfl).ln];exact ej _ _ _
 ·show∀v,_->_;intro v f;unfold lp;rw[kT f]
 ·show _->_;intro f;unfold lp;rw[kT f]
open Go.RowKit
def uQ (S b e:Nat) (a:List Nat) (W:wR) (A:xv Addr) (n c f:Nat) (d:Int):Prop:=(d=0/\∃v,ei S b e 1 a (gk v)/\SR vN 0 W A n c v/\f=(cf a v).length)\/(d=17/\ei S b e 1 a U)
theorem uQ.below {S a g:Nat} {b:List Nat} {W d:wR} {A:xv Addr} {n c e:Nat} {f:Int} (h:uQ S a g b W A n c e f) (hb:af W d):uQ S a g b d A n c e f:=by
 rcases h with⟨i,v,j,k,l⟩|h
 ·exact .inl ⟨i,v,j,k.below hb,l⟩
 ·exact .inr h
theorem SR.PM {w:wR} {A:xv Addr} {n c:Nat} {f:List Nat} (h:SR vN 0 w A n c f) {b:Nat} {g:TypeId} (l:ag w b #[.slice U 0 0,.slice U 0 0] g) (m:Array Value):SR vN 0 (w.setRow b m) A n c f:=by
 refine⟨h.hn,h.hc,h.hm,λi=>?_⟩;obtain⟨d,e,hl,hc⟩:=h.rd i;have q:d.block≠b:=by
  intro o;have a:=hc 0 i;unfold World.cell? at a;rw[aD,o,show w.heap[b]?=gk (.cells #[.slice U 0 0,.slice U 0 0] g (0,0))from l]at a;simp only at a;split at a
  ·cases a
  ·generalize(d.add 0).off=k at a;rcases k with _|_|k
   ·cases a
   ·cases a
   ·simp at a
 refine⟨d,e,by simpa using hl,λj p=>?_⟩;rw[<-hc j p];unfold World.cell?;rw[aD,setRow_other _ _ _ _ q]
theorem uQ.setRow {S a i:Nat} {d:List Nat} {W:wR} {A:xv Addr} {n c e:Nat} {f:Int} (h:uQ S a i d W A n c e f) {b:Nat} {j:TypeId} (k:ag W b #[.slice U 0 0,.slice U 0 0] j) (g:Array Value):uQ S a i d (W.setRow b g) A n c e f:=by
 rcases h with⟨l,v,m,o,p⟩|h
 ·exact .inl ⟨l,v,m,o.PM k g,p⟩
 ·exact .inr h
theorem Qb {S i l:Nat} {j:List Nat} {w b:wR} {e:Ending} (h:gf S i l 1 j w e b):af w b/\∃A n c d a f k,e= .returned (.tuple #[.agg #[.slice A n c,.slice d a f],I J k])/\w2 (uQ S i l j b A n c a k):=by
 obtain⟨hb,h⟩:=gf.nice h;rcases h with⟨v,A,n,c,d,a,f,g,rfl,m,o⟩|⟨g,rfl⟩
 ·exact⟨hb,A,n,c,d,a,f,0,rfl,.inl ⟨rfl,v,g,m,o⟩⟩
 ·exact⟨hb,U,0,0,U,0,0,17,rfl,.inr ⟨rfl,g⟩⟩
theorem Qs:(prog.info? 98).map (·.zero)=gk (gk (.agg #[.slice U 0 0,.slice U 0 0])):=oK
theorem Tl:(prog.info? 98).map (·.size)=gk 2:=oK
theorem Jt {c:Program} {b:List Oper} {S:wR->Prop} {K:Act->wR->Prop} {d:OT} {a:Act} {w:wR} (h:∀e,e=b->aT c e S K d a w):aT c b S K d a w:=h b rfl
def Q9 (n:wR) (z o s l S m:Nat) (p:xv Addr) (j r t q:Nat) (u:xv Addr) (v w:Nat) (x:List Nat) (a y:Act) (W:wR):Prop:=∃k A B C b c d g e i f,y=(((((((((((((((((((((a.put (gk 112) (I J z)).put (gk 113) (I J o)).put (gk 114) (I J s)).put (gk 115) (I J l)).put (gk 117) (.slice p j r)).put (gk 118) (.slice p j r)).put (gk 119) (I J j)).put (gk 120) (I J o)).put (gk 121) (I J z)).put (gk 122) (I J t)).put (gk 123) (I J q)).put (gk 125) (I J z)).put (gk 116) (bZ 2 S m l 1)).put (gk 124) (.slice u v w)).put (gk 126) (.slice A B C)).put (gk 127) (.tuple #[.agg #[.slice b c d,.slice g e i],I J f])).put (gk 111) (.tuple #[.agg #[.slice b c d,.slice g e i],I J f])).put (gk 128) (.agg #[.slice b c d,.slice g e i])).put (gk 129) (I J f)).put (gk 13) (.pointer (gk ⟨k,0,U⟩))).put (gk 14) (I J f))/\ag W k #[.slice b c d,.slice g e i] 98/\af n W/\n.heap.size<=k/\uQ S m l x W b c d e f
theorem nr (n:Nat) (A:xv Addr) (N D:Nat) (d:List Bool) (w:wR) (bx:N=n* n) (mk:N<=4194304) (a9:cU n n N=wP) (bz:SR vB R w A N D d) (ab ac:Int) (c e6 e4:Bool)
 (ew:(jP n wP:Int)=ab) (ex:(jP n R:Int)=ac) (f7:gn n ((n-1)/2) R d=e6) (f8:gn n ((n-1)/2) wP d=e4) (dx:dF n n d=pc n d c) (eA:dh n c=wP)
 (hc:(c=R/\¬ac=0/\e6=wP/\ab=0)\/(c=R/\¬ac=0/\e6=wP/\¬ab=0)\/(c=wP/\ac=0/\¬ab=0/\e4=wP)\/(c=wP/\¬ac=0/\e6=R/\¬ab=0/\e4=wP)):wS w1 28 #[cZ n n A N D] w (dU w (dF n n d)):=by
 obtain⟨a2,b1⟩:∃a2,a2=(n-1)/2:=⟨_,rfl⟩;obtain⟨gv,gw,e0,ml,mm⟩:=lG eA;rw[<-b1]at gv gw e0;obtain⟨a3,e9⟩:∃x,x=jP n c:=⟨_,rfl⟩
 obtain⟨gx,gy,mo,gz⟩:1<=a3/\a3<=32/\eH (a3:Int) c=wP/\aB a3 c=n:=by
  rcases mI n c with h|h
  ·rw[eA]at h;cases h.2
  ·rw[<-e9]at h;exact⟨h.1,h.2.1,h.2.2.1,h.2.2.2.1⟩
 have q0:bu c<=7:=by cases c<;>decide
 have b9:w2 (∀V,wS w1 73 #[cZ n n A N D] V (au (.bool wP) V)):=λV=>by rw[<-a9];exact nw _ _ A N D V oO
 have ca:w2 (∀V,wS w1 74 #[I J n,.bool wP] V (au (I J ab) V)):=λV=>by rw[<-ew];exact ki n wP V oO
 have cb:w2 (∀V,wS w1 74 #[I J n,.bool R] V (au (I J ac) V)):=λV=>by rw[<-ex];exact ki n R V oO
 have gC:w2 (∀V,wS w1 74 #[I J n,.bool c] V (au (I J (a3:Int)) V)):=λV=>by rw[e9];exact ki n c V oO
 have ey:w2 (∀c,¬(jP n c:Int)=0->bu c+2<=(n-1)/2/\n=2* ((n-1)/2)+1):=λc h=>by
  have ad:dh n c=wP:=by rcases mI n c with C|C;exact absurd C.1 oO;exact C.2.2.2.2
  have:=lG ad;omega
 have dy:w2 (¬ac=0->∀V,af w V->wS w1 75 #[cZ n n A N D,I J 6] V (au (.bool e6) V)):=λh V bb=>by
  have ad:=ey.out R (by rw[ex];exact h);have bd:bu R=7:=rfl;rw[<-f7];exact tz n ((n-1)/2) 6 R n A N D d V rfl oO ad.2 oO bx (bz.below bb)
 have fb:w2 (¬ab=0->∀V,af w V->wS w1 75 #[cZ n n A N D,I J 4] V (au (.bool e4) V)):=λh V bb=>by
  have ad:=ey.out wP (by rw[ew];exact h);have bd:bu wP=5:=rfl;rw[<-f8];exact tz n ((n-1)/2) 4 wP n A N D d V rfl oO ad.2 oO bx (bz.below bb)
 obtain⟨G,cr⟩:∃G,G=lF n a2 c d:=⟨_,rfl⟩;obtain⟨be,cs⟩:∃be,be=fq n d (dZ a2 c):=⟨_,rfl⟩;obtain⟨P,cv⟩:∃P,P=nv c be:=⟨_,rfl⟩;have gD:w2 (G=R->dF n n d=([],0,18)):=by
  show _->_;intro h;rw[dx];unfold pc;rw[<-b1,<-cr,h,if_pos rfl]
 have gN:w2 (G=wP->P=U->dF n n d=([],0,21)):=by
  show _->_->_;intro h u;rw[dx];unfold pc;rw[<-b1,<-cr,h,if_neg oD,<-cs,<-cv,u]
 have gY:w2 (G=wP->∀q,P=gk q->dF n n d=if(eH (q.1:Int) c&&(aB q.1 c==n)&&decide (q.2<aJ q.1 c))=wP then lp n q.1 c q.2 d else([],0,21)):=by
  show _->∀q,_->_;intro h q u;rw[dx];unfold pc;rw[<-b1,<-cr,h,if_neg oD,<-cs,<-cv,u]
 obtain⟨b2,ci⟩:∃f:Nat->Bool,∀q,f q=eH (q:Int) c:=⟨_,λ_=>rfl⟩;obtain⟨bf,dz⟩:∃f:Nat->Nat,∀q,f q=aB q c:=⟨_,λ_=>rfl⟩;obtain⟨wf,cx⟩:∃f:Nat->Nat,∀q,f q=aJ q c:=⟨_,λ_=>rfl⟩;obtain⟨b3,fc⟩:∃f:Nat->Nat->List UInt8×Int×Int,∀q k,f q k=lp n q c k d:=⟨_,λ_ _=>rfl⟩;have g0:w2 (G=wP->∀q,P=gk q->dF n n d=if(b2 q.1&&(bf q.1==n)&&decide (q.2<wf q.1))=wP then b3 q.1 q.2 else([],0,21)):=by
  show _->∀q,_->_;intro h q u;rw[ci,dz,cx,fc];exact gY.out h q u
 have g1:w2 (dg c be=sa P):=by
  show _=_;rw[cv];exact Ce (by rw[cs];unfold fq;rw[List.length_map,lh];cases c<;>rfl)
 have dE:w2 (∀q,P=gk q->1<=q.1/\q.1<=4096/\1<=q.2/\q.2<=4096):=by
  show∀q,_->_;intro q h;rw[cv]at h;exact ze h
 have ch:w2 (∀V,af w V->wS w1 76 #[cZ n n A N D,.bool c] V (au (.bool G) V)):=λV bb=>by rw[cr];exact CJ n a2 c n A N D d V oO e0 oO bx (bz.below bb)
 have g2:w2 (∀V,wS w1 52 #[I J (a3:Int),.bool c] V λe am=>∃v,e= .returned v/\w2 (SP am v (dZ a2 c))/\af V am):=λV=>by
  have mp:cI a3 c=a2:=by unfold cI;rw[gz,b1]
  rw[<-mp];exact(C7 a3 c V gx gy).mono λe am ⟨v,C,u,b4⟩=>⟨v,C,u.1,b4⟩
 have mq:w2 (∀V v,af w V->SP V v (dZ a2 c)->wS w1 77 #[cZ n n A N D,v] V λe am=>∃B k Q,e= .returned (.slice B k Q)/\w2 (SR vB R am B k Q be)/\af V am):=λV v bb a9=>
  (BE n n A N D d _ v V oO mk (bz.below bb) a9 (by rw[lh];cases c<;>decide) (λom ad=>by
   have:=AG oO ad
   exact⟨by omega,by omega,by rw[bx];exact mz oO oO⟩)).mono λe am ⟨v,C,u,b4⟩=>by
    obtain⟨B,k,Q,rfl,c8⟩:=u.parts;exact⟨B,k,Q,C,by rw[cs];exact c8,b4⟩
 have g3:w2 (∀V B k Q,SR vB R V B k Q be->wS w1 26 #[.slice B k Q,.bool c] V (Fh V (sa P).1 (sa P).2.1 (sa P).2.2)):=λV B k Q h=>by rw[<-g1.out];exact JR c be B k Q V h
 have g4:w2 (∀V (L:Nat),wS w1 47 #[I J (L:Int),.bool c] V (au (.bool (b2 L)) V)):=λV L=>by
  rw[ci];exact(vL L c V).mono λe am ⟨C,u⟩=>⟨C,by rw[u];exact w3 _ _⟩
 have g5:w2 (∀V (L:Nat),b2 L=wP->wS w1 48 #[I J (L:Int),.bool c] V (au (I J ((bf L:Nat):Int)) V)):=λV L h=>by rw[ci]at h;rw[dz];exact(pz L c V (by obtain⟨k,e,_,u,_⟩:=kh h;omega)).mono λe am ⟨C,u⟩=>⟨C,by rw[u];exact w3 _ _⟩
 have ms:w2 (∀V (L:Nat),b2 L=wP->wS w1 18 #[I J (L:Int),.bool c] V (Fh V ((aw L:Nat):Int) ((wf L:Nat):Int) 0)):=λV L h=>by
  rw[ci]at h;rw[cx];have C:=CO (L:Int) c V;unfold qt at C;rw[if_pos h,Int.toNat_natCast]at C;exact C
 have f9:w2 (∀L k:Nat,b2 L=wP->bf L=n->1<=k->k<wf L->Pq n A N D w L c (wf L) k (b3 L k)):=by
  show∀L k,_->_->_->_->_;intro L k C u b4 c8;rw[ci]at C;rw[dz]at u;rw[cx]at c8;rw[cx,fc];obtain⟨Q,e,ck,co,b5⟩:=kh C;obtain rfl:L=Q:=oO;exact Tp L c k n A N D d w oO oO b5 u.symm b4 c8 bx bz
 clear dx eA a9 bz ew ex f7 f8 bx b1 cr cs cv gv gw e0 ml mm e9 gx gy mo gz ey ci dz cx fc gY;have l:=iT w n n A N D;obtain⟨w0,K⟩:∃w0,w0=w.alloc (qN n n A N D):=⟨_,rfl⟩;have o:w2 (af w w0):=by show Below _ _ _;rw[K];exact ax _ _
 obtain⟨T,Y⟩:∃T,T=w.heap.size:=⟨_,rfl⟩;rw[<-K,<-Y]at l;rcases hc with⟨rfl,a4,rfl,rfl⟩|⟨rfl,a4,rfl,bi⟩|⟨rfl,rfl,bi,rfl⟩|⟨rfl,a4,rfl,bi,rfl⟩
 case' inl=>
  have gb:(ac==0)=R:=beq_eq_false_iff_ne.2 a4;have ce:=aa (dy.out a4);go_enter Vp,Ve
  go_wp2_with(first
   |(go_at_call 73;(rw[<-K]);(simp only[<-Y]);refine(b9.out _).mono ?_;rintro e i ⟨rfl,g⟩;have a:w2 (af w0 i):=g;obtain⟨p,r,s⟩:=l.out _ g;clear g K Y)
   |(go_at_call 74;(with_reducible show wS _ _ #[_,.bool wP] _ _);refine(ca.out _).mono ?_;rintro e i ⟨rfl,g⟩;have a:=aa (ae a.out g);obtain⟨p,r,s⟩:=l.out _ a.out;clear g)
   |(go_at_call 74;(with_reducible show wS _ _ #[_,.bool R] _ _);refine(cb.out _).mono ?_;rintro e i ⟨rfl,g⟩;have a:=aa (ae a.out g);obtain⟨p,r,s⟩:=l.out _ a.out;clear g)
   |(go_at_call 75;(with_reducible show wS _ _ #[_,I J 6] _ _);refine(ce.out _ (o.out.trans (a.out.mono o.out.size))).mono ?_;rintro e i ⟨rfl,g⟩;have a:=aa (ae a.out g);obtain⟨p,r,s⟩:=l.out _ a.out;clear g)
   |(go_at_call 76;refine(ch.out _ (o.out.trans (a.out.mono o.out.size))).mono ?_;rintro e i ⟨rfl,g⟩;have a:=aa (ae a.out g);obtain⟨p,r,s⟩:=l.out _ a.out;clear g;rcases G with _|_))
 case' inr.inl=>
  have gb:(ac==0)=R:=beq_eq_false_iff_ne.2 a4;have ce:=aa (dy.out a4);have c1:(ab==0)=R:=beq_eq_false_iff_ne.2 bi;go_enter Vp,Ve
  go_wp2_with(first
   |(go_at_call 73;(rw[<-K]);(simp only[<-Y]);refine(b9.out _).mono ?_;rintro e i ⟨rfl,g⟩;have a:w2 (af w0 i):=g;obtain⟨p,r,s⟩:=l.out _ g;clear g K Y)
   |(go_at_call 74;(with_reducible show wS _ _ #[_,.bool wP] _ _);refine(ca.out _).mono ?_;rintro e i ⟨rfl,g⟩;have a:=aa (ae a.out g);obtain⟨p,r,s⟩:=l.out _ a.out;clear g)
   |(go_at_call 74;(with_reducible show wS _ _ #[_,.bool R] _ _);refine(cb.out _).mono ?_;rintro e i ⟨rfl,g⟩;have a:=aa (ae a.out g);obtain⟨p,r,s⟩:=l.out _ a.out;clear g)
   |(go_at_call 75;(with_reducible show wS _ _ #[_,I J 6] _ _);refine(ce.out _ (o.out.trans (a.out.mono o.out.size))).mono ?_;rintro e i ⟨rfl,g⟩;have a:=aa (ae a.out g);obtain⟨p,r,s⟩:=l.out _ a.out;clear g)
   |(go_at_call 76;refine(ch.out _ (o.out.trans (a.out.mono o.out.size))).mono ?_;rintro e i ⟨rfl,g⟩;have a:=aa (ae a.out g);obtain⟨p,r,s⟩:=l.out _ a.out;clear g;rcases G with _|_))
 case' inr.inr.inl=>
  have c1:(ab==0)=R:=beq_eq_false_iff_ne.2 bi;have fd:=aa (fb.out bi);go_enter Vp,Ve
  go_wp2_with(first
   |(go_at_call 73;(rw[<-K]);(simp only[<-Y]);refine(b9.out _).mono ?_;rintro e i ⟨rfl,g⟩;have a:w2 (af w0 i):=g;obtain⟨p,r,s⟩:=l.out _ g;clear g K Y)
   |(go_at_call 74;(with_reducible show wS _ _ #[_,.bool wP] _ _);refine(ca.out _).mono ?_;rintro e i ⟨rfl,g⟩;have a:=aa (ae a.out g);obtain⟨p,r,s⟩:=l.out _ a.out;clear g)
   |(go_at_call 74;(with_reducible show wS _ _ #[_,.bool R] _ _);refine(cb.out _).mono ?_;rintro e i ⟨rfl,g⟩;have a:=aa (ae a.out g);obtain⟨p,r,s⟩:=l.out _ a.out;clear g)
   |(go_at_call 75;(with_reducible show wS _ _ #[_,I J 4] _ _);refine(fd.out _ (o.out.trans (a.out.mono o.out.size))).mono ?_;rintro e i ⟨rfl,g⟩;have a:=aa (ae a.out g);obtain⟨p,r,s⟩:=l.out _ a.out;clear g)
   |(go_at_call 76;refine(ch.out _ (o.out.trans (a.out.mono o.out.size))).mono ?_;rintro e i ⟨rfl,g⟩;have a:=aa (ae a.out g);obtain⟨p,r,s⟩:=l.out _ a.out;clear g;rcases G with _|_))
 case' inr.inr.inr=>
  have gb:(ac==0)=R:=beq_eq_false_iff_ne.2 a4;have ce:=aa (dy.out a4);have c1:(ab==0)=R:=beq_eq_false_iff_ne.2 bi;have fd:=aa (fb.out bi);go_enter Vp,Ve
  go_wp2_with(first
   |(go_at_call 73;(rw[<-K]);(simp only[<-Y]);refine(b9.out _).mono ?_;rintro e i ⟨rfl,g⟩;have a:w2 (af w0 i):=g;obtain⟨p,r,s⟩:=l.out _ g;clear g K Y)
   |(go_at_call 74;(with_reducible show wS _ _ #[_,.bool wP] _ _);refine(ca.out _).mono ?_;rintro e i ⟨rfl,g⟩;have a:=aa (ae a.out g);obtain⟨p,r,s⟩:=l.out _ a.out;clear g)
   |(go_at_call 74;(with_reducible show wS _ _ #[_,.bool R] _ _);refine(cb.out _).mono ?_;rintro e i ⟨rfl,g⟩;have a:=aa (ae a.out g);obtain⟨p,r,s⟩:=l.out _ a.out;clear g)
   |(go_at_call 75;(with_reducible show wS _ _ #[_,I J 6] _ _);refine(ce.out _ (o.out.trans (a.out.mono o.out.size))).mono ?_;rintro e i ⟨rfl,g⟩;have a:=aa (ae a.out g);obtain⟨p,r,s⟩:=l.out _ a.out;clear g)
   |(go_at_call 75;(with_reducible show wS _ _ #[_,I J 4] _ _);refine(fd.out _ (o.out.trans (a.out.mono o.out.size))).mono ?_;rintro e i ⟨rfl,g⟩;have a:=aa (ae a.out g);obtain⟨p,r,s⟩:=l.out _ a.out;clear g)
   |(go_at_call 76;refine(ch.out _ (o.out.trans (a.out.mono o.out.size))).mono ?_;rintro e i ⟨rfl,g⟩;have a:=aa (ae a.out g);obtain⟨p,r,s⟩:=l.out _ a.out;clear g;rcases G with _|_))
 all_goals(try(go_ret3;exact dU.err (gD.out oS) (o.out.trans (a.out.mono o.out.size))))
 all_goals
  clear p r s;have g6:w2 (af i i.drew):=ai (w3 _ _);have d0:w2 (af w i):=(o.out.trans (a.out.mono o.out.size));have fn:w2 (∀W,af i W->W.cell? ⟨T,0,U⟩=gk (I J (n:Int))/\W.cell? ⟨T,1,U⟩=gk (I J (n:Int))/\W.cell? ⟨T,2,U⟩=gk (.slice A N D)):=λW a5=>l.out W (a.out.trans (a5.mono a.out.size));clear a b9 ca cb dy fb ch gD l o;refine yO (af i) [1,2,3,4,6,9,0,5,7,8,10,0,11,12,13,14,15,16,17] g6.out ?_
  repeat refine zO fn.out ?_
  refine zZ ?_;refine(gC.out _).mono ?_;rintro e oo ⟨rfl,hb⟩;have g7:=aa (ae g6.out hb);clear hb;refine⟨_,rfl,g7.out,jO ?_⟩;refine zZ ?_;refine(g2.out _).mono ?_;rintro e pb ⟨v10,rfl,jr,hb⟩;have f2:=aa (ae g7.out hb);clear hb;refine⟨_,rfl,f2.out,jO ?_⟩;refine zZ ?_;refine(mq.out _ _ (d0.out.trans (f2.out.mono d0.out.size)) jr.out).mono ?_;rintro e pd ⟨pf,Ss,pi,rfl,jv,hb⟩;have j0:=aa (ae f2.out hb);clear hb;refine⟨_,rfl,j0.out,jO ?_⟩;refine zZ ?_;refine(g3.out _ _ _ _ jv.out).mono ?_;rintro e a0 ⟨rfl,hb⟩;have es:=aa (ae j0.out hb);clear hb;refine⟨_,rfl,es.out,jO ?_⟩;have al:w2 (af w a0):=d0.out.trans (es.out.mono d0.out.size);have M:w2 (af a0 a0.drew):=ai (w3 _ _);have j:w2 (∀W,af a0 W->W.cell? ⟨T,0,U⟩=gk (I J (n:Int))/\W.cell? ⟨T,1,U⟩=gk (I J (n:Int))/\W.cell? ⟨T,2,U⟩=gk (.slice A N D)):=λW a5=>fn.out W (es.out.trans (a5.mono es.out.size));clear jv jr
  repeat refine zO fn.out ?_
  refine aj ?_;rcases P with _|⟨m,t⟩
  ·have H:=aa (gN.out oS oS);simp only[sa];go_wp2;refine yO (af a0) [1,2,3,4,5,0,6,0,7,8,9,10,11,13,14,0,12,0,15,16] M.out ?_
   repeat refine zO j.out ?_
   repeat
    first
    |refine jn rfl ?_
    |refine iz rfl M.out ?_
    simp only[yQ,yU,yX,yY]
   repeat refine zO j.out ?_
   repeat
    first
    |refine jn rfl ?_
    |refine iz rfl M.out ?_
    simp only[yQ,yU,yX,yY]
   repeat refine zO j.out ?_
   repeat
    first
    |refine jn rfl ?_
    |refine iz rfl M.out ?_
    simp only[yQ,yU,yX,yY]
   repeat refine zO j.out ?_
   refine aj ?_;go_wp2;go_ret3
   exact dU.err H.out (al.out.trans ((ai (w3 _ _)).mono al.out.size))
  ·obtain⟨mt,m0,g8,m1⟩:=dE.out (m,t) rfl;have b6:=aa (g0.out oS (m,t) rfl);simp only[sa]at b6 mt m0 g8 m1⊢;go_wp2;clear gN g0 dE g1 g3 g2 gC;by_cases ap:b2 m=wP;rotate_left
   ·rw[Bool.not_eq_true]at ap;have cy:w2 (∀V,wS w1 47 #[I J (m:Int),.bool _] V (au (.bool R) V)):=λV=>by have h:=g4.out V m;rw[ap]at h;exact h
    have H:w2 (dF n n d=([],0,21)):=by show _=_;rw[b6.out,if_neg (by rw[ap];simp)]
    refine yO (af a0) [1,2,3,4,5,0,6,0,7,8,9,10,11,13,14,0,12,0,15,16] M.out ?_
    repeat first|refine zO j.out ?_|refine zX j.out ?_
    refine zZ ?_;refine(cy.out _).mono ?_;rintro e fo ⟨rfl,hb⟩;have F:=aa (ae M.out hb);clear hb;refine⟨_,rfl,F.out,jO ?_⟩
    repeat first|refine zO j.out ?_|refine zX j.out ?_
    repeat
     first
     |refine jn rfl ?_
     |refine iz rfl F.out ?_
     simp only[yQ,yU,yX,yY]
    repeat first|refine zO j.out ?_|refine zX j.out ?_
    repeat
     first
     |refine jn rfl ?_
     |refine iz rfl F.out ?_
     simp only[yQ,yU,yX,yY]
    repeat first|refine zO j.out ?_|refine zX j.out ?_
    refine aj ?_;go_wp2;go_ret3
    exact dU.err H.out (al.out.trans (F.out.mono al.out.size))
   have cy:w2 (∀V,wS w1 47 #[I J (m:Int),.bool _] V (au (.bool wP) V)):=λV=>by have h:=g4.out V m;rw[ap]at h;exact h
   by_cases d1:bf m=n;rotate_left
   ·have d2:=aa (λV=>g5.out V m ap);have pl:(((bf m:Nat):Int)!=(n:Int))=wP:=by rw[bne_iff_ne];omega
    have H:w2 (dF n n d=([],0,21)):=by show _=_;rw[b6.out,if_neg (by rw[show(bf m==n)=R from beq_eq_false_iff_ne.2 d1];simp)]
    refine yO (af a0) [1,2,3,4,5,0,6,0,7,8,9,10,11,13,14,0,12,0,15,16] M.out ?_
    repeat first|refine zO j.out ?_|refine zX j.out ?_
    refine zZ ?_;refine(cy.out _).mono ?_;rintro e fo ⟨rfl,hb⟩;have F:=aa (ae M.out hb);clear hb;refine⟨_,rfl,F.out,jO ?_⟩
    repeat first|refine zO j.out ?_|refine zX j.out ?_
    refine zZ ?_;refine(d2.out _).mono ?_;rintro e g9 ⟨rfl,hb⟩;have a8:=aa (ae F.out hb);clear hb;refine⟨_,rfl,a8.out,jO ?_⟩
    repeat first|refine zO j.out ?_|refine zX j.out ?_
    refine aj ?_;go_wp2;go_ret3
    exact dU.err H.out (al.out.trans (a8.out.mono al.out.size))
   have d2:w2 (∀V,wS w1 48 #[I J (m:Int),.bool _] V (au (I J (n:Int)) V)):=λV=>by have h:=g5.out V m ap;rw[d1]at h;exact h
   have ib:=aa (λV=>ms.out V m ap);by_cases ih:t<wf m;rotate_left
   ·have m2:((wf m:Nat):Int)<=(t:Int):=oO;have H:w2 (dF n n d=([],0,21)):=by show _=_;rw[b6.out,if_neg (by rw[show decide (t<wf m)=R from decide_eq_false oO];simp)]
    refine yO (af a0) [1,2,3,4,5,0,6,0,7,8,9,10,11,13,14,0,12,0,15,16] M.out ?_
    repeat first|refine zO j.out ?_|refine zX j.out ?_
    refine zZ ?_;refine(cy.out _).mono ?_;rintro e fo ⟨rfl,hb⟩;have F:=aa (ae M.out hb);clear hb;refine⟨_,rfl,F.out,jO ?_⟩
    repeat first|refine zO j.out ?_|refine zX j.out ?_
    refine zZ ?_;refine(d2.out _).mono ?_;rintro e g9 ⟨rfl,hb⟩;have a8:=aa (ae F.out hb);clear hb;refine⟨_,rfl,a8.out,jO ?_⟩
    repeat first|refine zO j.out ?_|refine zX j.out ?_
    refine aj ?_;go_wp2_with(go_at_call 18;refine(ib.out _).mono ?_;rintro e bv ⟨rfl,hb⟩;have c6:=aa (ae a8.out hb);clear hb)
    go_ret3
    exact dU.err H.out (al.out.trans (c6.out.mono al.out.size))
   ·have m2:¬((wf m:Nat):Int)<=(t:Int):=oO;have H:w2 (dF n n d=b3 m t):=by show _=_;rw[b6.out,if_pos (by rw[ap,show(bf m==n)=wP from beq_iff_eq.2 d1,show decide (t<wf m)=wP from decide_eq_true ih];rfl)]
    have m3:=aa (f9.out m t ap d1 g8 ih);clear f9 b6;refine yO (af a0) [1,2,3,4,5,0,6,0,7,8,9,10,11,13,14,0,12,0,15,16] M.out ?_
    repeat first|refine zO j.out ?_|refine zX j.out ?_
    refine zZ ?_;refine(cy.out _).mono ?_;rintro e fo ⟨rfl,hb⟩;have F:=aa (ae M.out hb);clear hb;refine⟨_,rfl,F.out,jO ?_⟩
    repeat first|refine zO j.out ?_|refine zX j.out ?_
    refine zZ ?_;refine(d2.out _).mono ?_;rintro e g9 ⟨rfl,hb⟩;have a8:=aa (ae F.out hb);clear hb;refine⟨_,rfl,a8.out,jO ?_⟩
    repeat first|refine zO j.out ?_|refine zX j.out ?_
    refine aj ?_;go_wp2_with(go_at_call 18;refine(ib.out _).mono ?_;rintro e bv ⟨rfl,hb⟩;have c6:=aa (ae a8.out hb);clear hb)
    obtain⟨pm,gc,li,S,c7,d3,q,c9,b7,op,os,ot,pp,ov,o0,o1,m4,m5,m6,m7,m8,m9,ii,f3,na⟩:=m3.out;have kb:w2 (af bv bv.drew):=ai (w3 _ _);have d4:w2 (af w bv):=al.out.trans (c6.out.mono al.out.size);have et:w2 (∀W,af bv W->W.cell? ⟨T,0,U⟩=gk (I J (n:Int))/\W.cell? ⟨T,1,U⟩=gk (I J (n:Int))/\W.cell? ⟨T,2,U⟩=gk (.slice A N D)):=λW a5=>j.out W (c6.out.trans (a5.mono c6.out.size));refine yO (af bv) [1,2,3,0,4,5,0,6] kb.out ?_
    repeat first|refine zO et.out ?_|refine zX et.out ?_
    refine zZ ?_;refine(m4.out _).mono ?_;rintro e pu ⟨pv,rfl,n7,hb⟩;have f4:=aa (ae kb.out hb);clear hb;refine⟨_,rfl,f4.out,jO ?_⟩;refine zZ ?_;refine(m5.out _ _ (d4.out.trans (f4.out.mono d4.out.size)) n7.out).mono ?_;rintro e O ⟨fr,S8,fv,rfl,kc,hb⟩;have kd:=aa (ae f4.out hb);clear hb;refine⟨_,rfl,kd.out,jO ?_⟩
    repeat first|refine zO et.out ?_|refine zX et.out ?_
    refine aj ?_;go_wp2;obtain rfl:b7=S8:=by have h:=kc.out.hn;omega
    have ks:w2 (af bv O):=kd;generalize wf m=ge at*;generalize aw m=z at*;have p0:(b7:Int)-(c9:Int)=(q:Int):=oO;have p3:(ge:Int)-(t:Int)=(d3:Int):=oO;have io:q<=b7:=oO;obtain⟨gg,fw⟩:∃x,x=(if fv=q then fr else fr.map (λll=>ll.add q)):=⟨_,rfl⟩;obtain⟨gi,fx⟩:∃x,x=fv-q:=⟨_,rfl⟩;have ip:w2 (SR vB R O gg (b7-q) gi (gc.drop q)):=by show SR _ _ _ _ _ _ _;rw[fw,fx];exact kc.out.from q io
    have it:w2 (af O O.drew):=ai (w3 _ _);have p4:J.wrap (d3:Int)=(d3:Int):=aG _ oO oO;have p5:J.wrap (c9:Int)=(c9:Int):=aG _ oO oO;have p6:J.wrap (q:Int)=(q:Int):=aG _ oO oO;obtain⟨lm,fz⟩:∃x,x=b7-q:=⟨_,rfl⟩;rw[<-fz]at ip;have nb:=aa fw;have nc:=aa fx;have dE:=aa fz;clear fw fx fz;obtain⟨wc,Z⟩:∃W,W=O.drew:=⟨_,rfl⟩;have E:w2 (af O wc):=by show Below _ _ _;rw[Z];exact it.out
    refine j8 (S:=af O) (.br [(R,0),(R,1),(R,2),(R,3),(R,5),(R,6),(R,7),(R,8),(R,9),(R,10),(R,11),(R,13)] [4,12,19] (λk=>if k=4 then .br [] [12,19] (λk=>if k=12 then .br [] [14,19] (λk=>if k=14 then .br [] [15,19] (λk=>if k=15 then .last [(R,16),(R,17),(R,18),(wP,19),(wP,20),(R,21)]else .last [(wP,15),(R,16),(R,17),(R,18),(wP,20),(R,21)])else .last [(wP,14),(wP,15),(R,16),(R,17),(R,18),(wP,20),(R,21)])else .last [(wP,12),(wP,14),(wP,15),(R,16),(R,17),(R,18),(wP,20),(R,21)])else if k=12 then .br [] [4,19] (λk=>if k=4 then .br [] [14,19] (λk=>if k=14 then .br [] [15,19] (λk=>if k=15 then .last [(R,16),(R,17),(R,18),(wP,19),(wP,20),(R,21)]else .last [(wP,15),(R,16),(R,17),(R,18),(wP,20),(R,21)])else .last [(wP,14),(wP,15),(R,16),(R,17),(R,18),(wP,20),(R,21)])else .last [(wP,4),(wP,14),(wP,15),(R,16),(R,17),(R,18),(wP,20),(R,21)])else .br [] [4,12] (λk=>if k=4 then .last [(wP,12),(wP,14),(wP,15),(R,16),(R,17),(R,18),(wP,20),(R,21)]else .last [(wP,4),(wP,14),(wP,15),(R,16),(R,17),(R,18),(wP,20),(R,21)]))) (Q9 O z ge t d3 S c7 fr b7 fv c9 q gg lm gi li) oK oK it.out ?_ ?_
    ·refine Jt λol y=>?_;have da:=z7 (λx:List Oper=>x[0]?) y;have ck:=z7 (λx:List Oper=>x[1]?) y;have co:=z7 (λx:List Oper=>x[2]?) y;have b5:=z7 (λx:List Oper=>x[3]?) y;have dd:=z7 (λx:List Oper=>x[4]?) y;have de:=z7 (λx:List Oper=>x[5]?) y;have di:=z7 (λx:List Oper=>x[6]?) y;have dn:=z7 (λx:List Oper=>x[7]?) y;have ds:=z7 (λx:List Oper=>x[8]?) y;have dv:=z7 (λx:List Oper=>x[9]?) y;have d5:=z7 (λx:List Oper=>x[10]?) y;have d6:=z7 (λx:List Oper=>x[11]?) y;have d7:=z7 (λx:List Oper=>x[12]?) y;have d8:=z7 (λx:List Oper=>x[13]?) y;have d9:=z7 (λx:List Oper=>x[14]?) y;have ea:=z7 (λx:List Oper=>x[15]?) y;have ec:=z7 (λx:List Oper=>x[16]?) y;have ed:=z7 (λx:List Oper=>x[17]?) y;have ef:=z7 (λx:List Oper=>x[18]?) y;have eh:=z7 (λx:List Oper=>x[19]?) y;have ek:=z7 (λx:List Oper=>x[20]?) y;have el:=z7 (λx:List Oper=>x[21]?) y;simp only[List.getElem?_cons_zero,List.getElem?_cons_succ]at da ck co b5 dd de di dn ds dv d5 d6 d7 d8 d9 ea ec ed ef eh ek el;clear y;simp only[reduceIte,Nat.reduceEqDiff,aT,aH,da,ck,co,b5,dd,de,di,dn,ds,dv,d5,d6,d7,d8,d9,ea,ec,ed,ef,eh,ek,el];rw[<-Z];clear Z
     repeat' (first
      |(refine' lP rfl (λW a5=>?_) ?_;rotate_left;(go_simp;rfl);simp only[yQ,yU,yX,yY])
      |(refine' j4 98 rfl rfl _ Qs (ah E.out _) ?_;simp only[yQ,yU,yX,yY];(obtain⟨bo,em⟩:∃b,b=wc.heap.size:=⟨_,rfl⟩);(obtain⟨ez,Z⟩:∃lc,lc=wc.alloc (.cells #[.slice U 0 0,.slice U 0 0] 98):=⟨_,rfl⟩);rw[<-Z,<-em];(have en:w2 (af O ez):=by show Below _ _ _;rw[Z];exact ah E.out _);(have a1:w2 (ag ez bo #[.slice U 0 0,.slice U 0 0] 98):=by show ag _ _ _ _;rw[Z,em];exact ag.new _ _ _ _ rfl);(have fG:w2 (O.heap.size<=bo):=by show _<=_;rw[em];exact E.out.size);(try(have X:=c2.out.below (ax _ (.cells #[.slice U 0 0,.slice U 0 0] 98));rw[<-Z]at X;have c2:=aa X;clear X));(try(have X:=c3.out.below (ax _ (.cells #[.slice U 0 0,.slice U 0 0] 98));rw[<-Z]at X;have c3:=aa X;clear X));(try(have X:=c4.out.below (ax _ (.cells #[.slice U 0 0,.slice U 0 0] 98));rw[<-Z]at X;have c4:=aa X;clear X));(have E:=en);clear Z em en;(obtain⟨wc,nl⟩:∃W,W=ez:=⟨_,rfl⟩);(subst nl))
      |(refine mg 98 rfl _ _ rfl 98 bo #[.slice U 0 0,.slice U 0 0] [.slice bq bs bt,.slice a6 av a7] a1.out rfl rfl Tl rfl (by intro v a9;simp only[List.mem_cons,List.not_mem_nil,or_false]at a9;rcases a9 with rfl|rfl<;>rfl) (below_setRow E.out fG.out _) ?_;simp only[yQ,yU,yX,yY];(have no:=aa (c4.out.setRow a1.out #[.slice bq bs bt,.slice a6 av a7]));(have np:w2 (ag (wc.setRow bo #[.slice bq bs bt,.slice a6 av a7]) bo #[.slice bq bs bt,.slice a6 av a7] 98):=ag.set a1.out _);(have en:w2 (af O (wc.setRow bo #[.slice bq bs bt,.slice a6 av a7])):=below_setRow E.out fG.out _))
      |(refine' fl rfl (rX (l:=gc) rfl rfl rfl q rfl io) E.out ?_;simp only[yQ,yU,yX,yY];rw[<-nb.out,<-nc.out,<-dE.out])
      |(refine' nG rfl (λW=>?_) ?_;rotate_left 2;(focus (go_simp;exact⟨rfl,rfl⟩));(first
       |(go_at_call 69;refine(m7.out _).mono ?_;rintro e wc ⟨rfl,hb⟩;(try have a1:=aa (a1.out.below hb));(try have c2:=aa (c2.out.below hb));(try have c3:=aa (c3.out.below hb));(try have c4:=aa (c4.out.below hb)))
       |(go_at_call 70;refine(m6.out _ _ _ _ (ip.out.below E.out)).mono ?_;rintro e wc ⟨v6,rfl,hs,hb⟩;obtain⟨gm,go,gp,rfl,-,ad,gq⟩:=hs.rd;(try have a1:=aa (a1.out.below hb));have c2:=aa ad;have c3:=aa gq;clear hs ad gq)
       |(go_at_call 68;refine(m8.out _ _ _ _ c2.out c3.out).mono ?_;rintro e wc iv;obtain⟨hb,bq,bs,bt,a6,av,a7,gs,rfl,c4⟩:=Qb iv;(try have a1:=aa (a1.out.below hb));clear iv));(have E:=ae E.out hb;have E:w2 (af O _):=E;clear hb;refine⟨_,rfl,E.out,?_⟩;simp only[yQ,yU,yX,yY]))
      |(refine aj ?_;intro k bd;simp only[List.mem_cons,List.not_mem_nil,or_false]at bd;(repeat' (first|subst bd|rcases bd with bd|bd));all_goals simp only[reduceIte,Nat.reduceEqDiff,aT,aH,da,ck,co,b5,dd,de,di,dn,ds,dv,d5,d6,d7,d8,d9,ea,ec,ed,ef,eh,ek,el])
      |(refine aj ?_;refine⟨bo,gm,go,gp,bq,bs,bt,a6,av,a7,gs,?_,np.out,en.out,fG.out,no.out⟩;simp only[yQ,yU,yX,yY])
      |(refine aj ?_;(try simp only[reduceIte,Nat.reduceEqDiff,aT,aH,da,ck,co,b5,dd,de,di,dn,ds,dv,d5,d6,d7,d8,d9,ea,ec,ed,ef,eh,ek,el])))
    rintro o2 nz ⟨ls,gm,go,gp,bq,bs,bt,a6,av,a7,gs,rfl,ix,hb,n0,lv⟩;have f0:=aa ix;have q1:=aa hb;have kv:w2 (af w nz):=d4.out.trans (((ks.out.trans (hb.mono ks.out.size))).mono d4.out.size);clear ix hb n0;simp only[yQ,yU,yX,yY];rcases lv with⟨rfl,v,cp,i0,i1⟩|⟨rfl,cp⟩;rotate_left
    ·have n8:=aa (na.out cp);clear cp;go_wp2;go_ret3
     exact dU.err (H.out.trans n8.out) kv.out
    have cq:=aa cp;have eq:=aa i0;have n5:=aa i1;clear cp i0 i1;have lw:=eu f0.out;have lx:=ia f0.out
    go_wp2_with(first
     |((with_reducible show wpList _ _ _ (⟨gk 136,Op.slice 64 _ _ _ _,_,_,_,_⟩::_) _ _);refine k6 rfl (xA rfl rfl t rfl (by have C:=ii.out v cq.out;have u:=eq.out.hn;have b4:=eq.out.hc;omega)) ?_)
     |(go_at_call 78;refine(m9.out _ _ _ _ (v.take t) (eq.out.front (by have C:=ii.out v cq.out;have u:=eq.out.hn;omega))).mono ?_;rintro e n6 ⟨o3,rfl,i2,f1⟩;obtain⟨ly,l0,l1,rfl,i3⟩:=i2.parts;have i4:=aa i3;have n9:=aa (f0.out.below f1);have kw:=aa (ae kv.out f1);clear i2 f1 i3 lw lx;have i5:w2 (¬(aC (zN (v.take t)) z).2=0->b3 m t=([],0,(aC (zN (v.take t)) z).2)):=λh=>(f3.out v cq.out).trans (EX h);have i6:w2 ((aC (zN (v.take t)) z).2=0->¬(cV (aC (zN (v.take t)) z).1).2=0->b3 m t=([],0,(cV (aC (zN (v.take t)) z).1).2)):=λh u=>(f3.out v cq.out).trans (EZ h u);have i7:w2 ((aC (zN (v.take t)) z).2=0->(cV (aC (zN (v.take t)) z).1).2=0->b3 m t=((cV (aC (zN (v.take t)) z).1).1,(av:Int),0)):=(λh u=>by rw[n5.out];exact(f3.out v cq.out).trans (EI h u));generalize aC (zN (v.take t)) z=l2 at*;obtain⟨gt,mb⟩:=l2;simp only at i5 i6 i7 i4⊢;by_cases c5:mb=0)
     |(go_at_call 79;refine(GZ ly l0 l1 gt n6 i4.out).mono ?_;rintro e er ⟨v10,rfl,kz,f5⟩;obtain⟨qi,qr,qs,rfl,k1⟩:=kz.parts;have k2:=aa k1;have oj:=aa (n9.out.below f5);have la:=aa (ae kw.out f5);clear kz f5 k1;have i8:=aa (i6.out c5);have i9:=aa (i7.out c5);generalize cV gt=md at*;obtain⟨dl,me⟩:=md;simp only at i8 i9 k2⊢;by_cases jp:me=0))
    ·subst c5 jp;have ob:=aa (i9.out rfl);have oi:w2 (∀W,af er W->W.cell? ⟨ls,1,U⟩=gk (.slice a6 av a7)):=λW a5=>(oj.out.below a5).cell 1 _ rfl;have f6:w2 (af er er.drew):=ai (w3 _ _);refine yO (af er) [1,2,3,4,5,6,7] f6.out ?_
     repeat refine zO oi.out ?_
     refine aj ?_;go_wp2;go_ret3
     rw[H.out,ob.out];exact⟨_,_,_,rfl,k2.out.below f6.out,ae la.out f6.out⟩
    ·subst c5;go_ret3
     exact dU.err (H.out.trans (i8.out jp)) la.out
    ·go_ret3
     exact dU.err (H.out.trans (i5.out c5)) kw.out
theorem Fc (W H:Int) (A:xv Addr) (N f:Nat) (d:List Bool) (w:wR) (j:SR vB R w A N f d):wS w1 28 #[cZ W H A N f] w (dU w (dF W H d)):=by
 have hn:=j.hn;have t:N<=9223372036854775807:=by have:=j.hm;have:=j.hc;unfold maxLen at*;omega
 cases g:cU W H N with
 |false=>exact Jr W H A N f d w t g hn.symm
 |true=>
  obtain⟨n,m,rfl,rfl,n1,n2,u,v,e,l⟩:=xi g;by_cases s:n=m;rotate_left
  ·exact Fv n m A N f d w n2 l g hn.symm s
  subst s;have p:cU n n d.length=wP:=by rw[<-hn];exact g
  have no:∀c,dh n c=R->jP n c=0:=λc h=>by
   rcases mI n c with o|o
   ·exact o.1
   ·rw[h]at o;exact absurd o.2.2.2.2 oD
  have yes:∀c,dh n c=wP->¬(jP n c:Int)=0:=λc h=>by
   rcases mI n c with o|o
   ·rw[h]at o;exact absurd o.2 oD
   ·omega
  have q:∀c,dh n c=R->(jP n c:Int)=0:=λc h=>by rw[no c h];rfl
  cases a:dh n wP with
  |false=>
   cases b:dh n R with
   |false=>exact Ej n A N f d w n2 l g hn.symm (no _ a) (no _ b)
   |true=>
    have r:n<=161:=by have:=lG b;omega
    cases i:gn n ((n-1)/2) R d with
    |true=>exact nr n A N f d w e l g j _ _ R wP _ rfl rfl i rfl (fJ (k:=gk R) p (.inr b) (by unfold jJ;rw[b,i];rfl)) b (.inl ⟨rfl,yes _ b,rfl,q _ a⟩)
    |false=>exact tj n A N f d w r e l g j _ _ R _ rfl rfl i rfl (fJ (k:=U) p (.inr b) (by unfold jJ;rw[a,b,i];rfl)) (.inl ⟨yes _ b,rfl,q _ a⟩)
  |true=>
   have r:n<=161:=by have:=lG a;omega
   cases b:dh n R with
   |false=>
    cases k:gn n ((n-1)/2) wP d with
    |true=>exact nr n A N f d w e l g j _ _ wP _ wP rfl rfl rfl k (fJ (k:=gk wP) p (.inl a) (by unfold jJ;rw[a,b,k];rfl)) a (.inr (.inr (.inl ⟨rfl,q _ b,yes _ a,rfl⟩)))
    |false=>exact tj n A N f d w r e l g j _ _ _ R rfl rfl rfl k (fJ (k:=U) p (.inl a) (by unfold jJ;rw[a,b,k];rfl)) (.inr (.inr ⟨q _ b,yes _ a,rfl⟩))
   |true=>
    cases i:gn n ((n-1)/2) R d with
    |true=>exact nr n A N f d w e l g j _ _ R wP _ rfl rfl i rfl (fJ (k:=gk R) p (.inl a) (by unfold jJ;rw[b,i];rfl)) b (.inr (.inl ⟨rfl,yes _ b,rfl,yes _ a⟩))
    |false=>
     cases k:gn n ((n-1)/2) wP d with
     |true=>exact nr n A N f d w e l g j _ _ wP R wP rfl rfl i k (fJ (k:=gk wP) p (.inl a) (by unfold jJ;rw[a,b,i,k];rfl)) a (.inr (.inr (.inr ⟨rfl,yes _ b,rfl,yes _ a,rfl⟩)))
     |false=>exact tj n A N f d w r e l g j _ _ R R rfl rfl i k (fJ (k:=U) p (.inl a) (by unfold jJ;rw[a,b,i,k];rfl)) (.inr (.inl ⟨yes _ b,rfl,yes _ a,rfl⟩))
end
end Go.Proofs.YtmnlkganmgcpbaaGreatDoor
