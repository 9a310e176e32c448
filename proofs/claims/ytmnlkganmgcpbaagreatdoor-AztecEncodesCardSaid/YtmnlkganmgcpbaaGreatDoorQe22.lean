import Derived.Test.YtmnlkganmgcpbaaGreatDoorQe21
set_option maxRecDepth 100000
set_option maxHeartbeats 4000000
set_option linter.unusedVariables false
set_option linter.unusedSectionVars false
set_option linter.unusedSimpArgs false
namespace Go.Proofs.YtmnlkganmgcpbaaGreatDoor
section
open Go.RowKit
theorem SG.Lp {w:World} {v:Value} {l:List Nat} (h:SG vN 0 w v l):∃A n c,v= .slice A n c/\n=l.length/\Hid (SR vN 0 w A n c l)/\Hid (RD w A (zl l)):=by
 obtain⟨A,n,c,e,a,b,d⟩:=h.rd;exact⟨A,n,c,e,a,b,d⟩
theorem B8 {v:Value} {a b:Bool} (h:b=a):Ending.returned (.tuple #[v,.bool a])=Ending.returned (.tuple #[v,.bool b]):=by rw[h]
theorem FU (b:List Bool) (s:Nat) (hs:2<=s) (a:s<=12) (hb:b.length<=80000):(az b s).length<=b.length:=by
 obtain⟨e,-,-,-,-,-,-,h⟩:=ma b s hs a hb;exact h
theorem od (L:Nat) (c:Bool) (g:Nat) (A:Option Addr) (n u:Nat) (b:List Bool) (w:World) (Z:1<=L) (O:L<=32) (hc:c=true->L<=4) (ac:g<=100) (a3:n<=50000) (hb:SR vB false w A n u b):
 Calls Tryz.prog 54 #[.slice A n u,.int .i64 L,.bool c,.int .i64 g] w λe w'=>∃v,e= .returned (.tuple #[v,.bool (nG L c (az b (aq L)).length b.length g)])/\SG vN 0 w' v (az b (aq L))/\Below w.heap.size w w':=by
 have G:=hb.hn;have a6:=Lib.hid hb;have T:Hid (∀W,Calls Tryz.prog 18 #[.int .i64 L,.bool c] W λe w'=>e= .returned (.tuple #[.int .i64 ((aq L:Nat):Int),.int .i64 ((aQ L c:Nat):Int),.int .i64 0])/\Below W.heap.size W w'):=λW=>by
  have h:=qB L c W;unfold mj at h;rw[exB_of Z O hc]at h;exact h
 have U:Hid (∀W,af w W->Calls Tryz.prog 104 #[.slice A n u,.int .i64 ((aq L:Nat):Int)] W (RT vN 0 W (az b (aq L),0))):=λW ad=>by
  have h:=DG A n u ((aq L:Nat):Int) b W (hb.below ad);rw[oF oO]at h;exact h
 have V:Hid (∀W,Calls Tryz.prog 64 #[.bool c] W λe w'=>e= .returned (.int .i64 ((eM c:Nat):Int))/\w'=W):=λW=>ET c W;have m:2<=aq L/\aq L<=12:=by rcases eK L with h|h|h|h<;>omega
 have X:=FU b (aq L) m.1 m.2 oO;have l:Hid (nG L c (az b (aq L)).length b.length g=(decide ((az b (aq L)).length<=eM c)&&decide (aq L* (az b (aq L)).length+n* g/100+11<=aq L* aQ L c))):=by show _=_;rw[G];rfl
 have a4:eM c<=2048:=by cases c<;>decide
 have Y:=lD (c:=c) O;rw[<-G]at X l⊢;clear hb G;generalize eM c=al at*;generalize bt:aq L=z at*;generalize aQ L c=P at*;generalize bv:az b z=am at*;obtain⟨k,D⟩:∃k,k=am.length:=⟨_,rfl⟩;rw[<-D]at l X;have x:=Lib.hid D;obtain⟨p1,H⟩:∃p1,p1=z* k:=⟨_,rfl⟩;obtain⟨p2,B⟩:∃p2,p2=n* g:=⟨_,rfl⟩;obtain⟨a,J⟩:∃a,a=p2/100:=⟨_,rfl⟩;obtain⟨d,C⟩:∃d,d=z* P:=⟨_,rfl⟩;have ap:p1<=700000:=by have:z* k<=12* 50001:=Nat.mul_le_mul m.2 oO;omega
 have av:p2<=5000000:=by rw[B];exact Nat.mul_le_mul a3 ac
 have a0:d<=48000:=by rw[C];exact Nat.mul_le_mul m.2 Y
 have a1:a<=50000:=oO;have a7:(z:Int)* (k:Int)=(p1:Int):=by rw[H];simp
 have a8:(n:Int)* (g:Int)=(p2:Int):=by rw[B];simp
 have a9:(p2:Int)/100=(a:Int):=by rw[J];simp
 have bb:(z:Int)* (P:Int)=(d:Int):=by rw[C];simp
 have w1:IntKind.i64.wrap (p1:Int)=(p1:Int):=aJ _ oO oO;have w2:IntKind.i64.wrap (p2:Int)=(p2:Int):=aJ _ oO oO;have Q:IntKind.i64.wrap (a:Int)=(a:Int):=aJ _ oO oO;have bd:IntKind.i64.wrap (d:Int)=(d:Int):=aJ _ oO oO;obtain⟨i,a5⟩:∃i,i=p1+a:=⟨_,rfl⟩;obtain⟨f,j⟩:∃f,f=p1+a+11:=⟨_,rfl⟩;have be:IntKind.i64.wrap ((p1:Int)+(a:Int))=(i:Int):=by rw[aJ _ oO oO];omega
 have bf:IntKind.i64.wrap ((i:Int)+11)=(f:Int):=by rw[aJ _ oO oO];omega
 have bi:(p1:Int)+(a:Int)=(i:Int):=oO;have bo:(i:Int)+11=(f:Int):=oO;have bq:IntKind.i64.wrap (i:Int)=(i:Int):=aJ _ oO oO;have bs:IntKind.i64.wrap (f:Int)=(f:Int):=aJ _ oO oO;rw[<-H,<-B,<-J,<-C,<-j]at l;clear H B J C a5 j a4 m Y D ap av a1 a0;obtain⟨r,y⟩:∃r,r=decide (f<=d):=⟨_,rfl⟩;have bx:decide ((f:Int)<=(d:Int))=r:=by rw[y,decide_eq_decide];omega
 have b1:decide (f<=d)=r:=y.symm;rw[<-y]at l;clear y;have b2:k<=50001:=oO;by_cases S:k<=al
 ·have K:Hid (nG L c k n g=r):=by show _=_;rw[l.out,decide_eq_true S,Bool.true_and]
  go_enter Tryz.func54,Tryz.ntmps54
  go_wp2_with(first
   |(go_at_call 18;refine(T.out _).mono ?_;rintro e w1 ⟨rfl,o⟩;have p:Hid (Below w.heap.size w w1):=o;clear o)
   |(go_at_call 104;refine(U.out _ p.out).mono ?_;rintro e w2 ⟨a2,rfl,j,q⟩;obtain⟨E,n2,F,rfl,s,M,-⟩:=j.Lp;obtain rfl:n2=k:=s.trans x.out.symm;have N:Hid (Below w.heap.size w w2):=ab p.out q;clear j q s)
   |(go_at_call 64;refine(V.out _).mono ?_;rintro e Q ⟨rfl,t⟩;rw[t];clear t))
  go_ret2
  exact⟨.slice E n2 F,B8 (by rw[<-x.out,K.out]),M.out.sg,N.out⟩
 ·have K:Hid (nG L c k n g=false):=by show _=_;rw[l.out,decide_eq_false S,Bool.false_and]
  go_enter Tryz.func54,Tryz.ntmps54
  go_wp2_with(first
   |(go_at_call 18;refine(T.out _).mono ?_;rintro e w1 ⟨rfl,o⟩;have p:Hid (Below w.heap.size w w1):=o;clear o)
   |(go_at_call 104;refine(U.out _ p.out).mono ?_;rintro e w2 ⟨a2,rfl,j,q⟩;obtain⟨E,n2,F,rfl,s,M,-⟩:=j.Lp;obtain rfl:n2=k:=s.trans x.out.symm;have N:Hid (Below w.heap.size w w2):=ab p.out q;clear j q s)
   |(go_at_call 64;refine(V.out _).mono ?_;rintro e Q ⟨rfl,t⟩;rw[t];clear t))
  go_ret2
  exact⟨.slice E n2 F,B8 (by rw[<-x.out,K.out]),M.out.sg,N.out⟩
def vW (n:Nat) (w:World) (v:Value) (l:List Bool):Prop:=SG vB false w v l/\∀A m k a,v= .slice A m k->A=some a->n<=a.block
theorem vW.mono {n m:Nat} {W:World} {v:Value} {l:List Bool} (h:vW n W v l) (b:m<=n):vW m W v l:=⟨h.1,λA a k c e1 e2=>Nat.le_trans b (h.2 A a k c e1 e2)⟩
theorem IP (A:Option Addr) (n c s:Nat) (l:List Nat) (w:World) (W:1<=s) (hs:s<=12) (hn:n<=8000) (hl:aA (2^s) l) (hb:SR vN 0 w A n c l):
 Calls Tryz.prog 71 #[.slice A n c,.int .i64 s] w λe w'=>∃v,e= .returned v/\vW w.heap.size w' v (cT l s)/\Below w.heap.size w w':=by
 obtain⟨z,B,L,M,N⟩:=info_parts fe;have C:=Lib.hid hb;have b:Hid (n=l.length):=hb.hn;have D:=Lib.hid hl;have Y:n<=9223372036854775807:=oO;clear hb hl;go_enter Tryz.func71,Tryz.ntmps71;go_wp2;go_loopw [5,6] (λE g wr=>∃i:Nat,i<=n/\g= .int .i64 i/\Hid (OG vB 4 w wr E (cT (l.take i) s))) (λ_ g _=>n-(intOf g).toNat)
 case atStart=>exact⟨0,Nat.zero_le _,rfl,OG.start _ _⟩
 case round=>
  obtain⟨i,X,rfl,a⟩:=hrel;by_cases p:i<n
  ·obtain⟨F,rfl,T,q⟩:=(C.out.below a.out.B).rd (by rw[<-b.out];omega);have U:=q i (by rw[<-b.out];exact p);have G:Hid (l.getD i 0<2^s):=D.out i;have j:Hid (cT (l.take (i+1)) s=cT (l.take i) s++aH (l.getD i 0) s):=pz l s (by rw[<-b.out];exact p);have r:Hid ((cT (l.take i) s).length<=100000000):=by
    show _<=_;rw[iX,List.length_take];have:min i l.length* s<=8000* 12:=Nat.mul_le_mul oO hs;omega
   generalize l.getD i 0=x at*;have O:x<=1000000000000:=by have H:=G.out;have J:=kZ hs;omega
   have P:=Lib.hid (ku x s wr O oO);clear q T
   go_wp2_with(first
    |(go_at_call 118;refine P.out.mono ?_;rintro e V ⟨db,rfl,Q,t,u⟩;have S:=Lib.hid t;have o:=Lib.hid u;clear t u Q)
    |(at_builtin;refine aD (f:=vB) (d:=false) jS rfl _ _ _ rfl w.heap.size 4 z _ 1 Tryz.underlying26 B L M N rfl _ (cT (l.take i) s).length (cT (l.take i) s) rfl (ah a.out.O o.out) (some ⟨db,0,none⟩) s s (aH x s) rfl (bm _ _).symm (S.out.sr (bm _ _).symm oM).rd (by have:=r.out;unfold maxLen;omega) (by have:=r.out;omega) (by have H:=a.out.B.size;have J:=o.out.size;omega) ?_;intro v1 w1 y hg;have K:Hid (OG vB 4 w w1 v1 (cT (l.take i) s++aH x s)):=a.out.grow o.out (by rw[bm];exact y) hg;clear y hg))
   exact⟨⟨i+1,by omega,by go_num,by show OG _ _ _ _ _ _;rw[j.out];exact K.out⟩,by simp[intOf];omega⟩
  ·obtain rfl:n=i:=oO;have j:Hid (l.take n=l):=by show _=_;rw[b.out,List.take_length]
   go_wp2;go_ret;exact⟨_,rfl,⟨by have h:=a.out.sg (d:=false);rw[j.out]at h;exact h,λA m k F e1 e2=>(World.ownsRow.lt a.out.O _ ((congrArg Value.ownBlock e1).trans (by rw[e2];rfl))).1⟩,a.out.B⟩
theorem J1 (L k:Nat) (c:Bool) (w:World) (dn:1<=L) (ds:L<=32) (dx:1<=k) (dy:k<=eM c):Calls Tryz.prog 65 #[.int .i64 L,.int .i64 k,.bool c] w (λe w'=>∃v,e= .returned v/\vW w.heap.size w' v (gK L c k)/\Below w.heap.size w w'):=by
 obtain⟨bd,be,bq,bs,bt⟩:=info_parts fe;obtain⟨B,hB⟩:∃B,B=aH (L-1) (iE c)++aH (k-1) (iY c):=⟨_,rfl⟩;have bv:B.length=fV c* 4:=by rw[hB];exact vT _ _ _
 have c9:fV c<=4:=by cases c<;>decide
 have dl:1<=fV c:=by cases c<;>decide
 have ad:=gn B 4 (fV c);have bb:=vX B 4 (fV c);have cb:gK L c k=cT (eF 16 19 (fF c) 1 (bN B 4 (fV c))) 4:=by rw[z8,hB]
 have bx:=I7 c;have dm:fV c+fF c<=15:=by cases c<;>decide
 have O:=rP (FI IN) (par:=fF c) (first:=1) bb;change mC 16 19 (fF c) 1 _ (eF 16 19 (fF c) 1 (bN B 4 (fV c)))at O;have b1:=O.ln;have ce:=O.lt;rw[ad]at b1;have d1:k<=2048:=by
  have:eM c<=2048:=by cases c<;>decide
  omega
 have d2:iE c<=11/\iY c<=11:=by cases c<;>decide
 have P:iE c=if c=true then 2 else 5:=rfl
 have Q:iY c=if c=true then 6 else 11:=rfl
 have S:fF c=if c=true then 5 else 6:=rfl
 obtain⟨a,b2⟩:∃a,a=L-1:=⟨_,rfl⟩;obtain⟨b,b3⟩:∃b,b=k-1:=⟨_,rfl⟩;have d3:(L:Int)-1=(a:Int):=oO;have d4:(k:Int)-1=(b:Int):=oO;rw[<-b2,<-b3]at hB;have cg:=bm a (iE c);have ch:=bm b (iY c);have b4:Hid (∀W,Calls Tryz.prog 69 #[.int .i64 4,.int .i64 ((fF c:Nat):Int)] W λe w'=>e= .returned (cQ 2 16 19 (fF c) 1)/\Below W.heap.size W w'):=λW=>tT (fF c) W;have b5:Hid (∀W,Calls Tryz.prog 118 #[.int .i64 a,.int .i64 ((iE c:Nat):Int)] W λe w'=>∃db,e= .returned (.slice (some ⟨db,0,none⟩) (iE c) (iE c))/\db=W.heap.size/\bc w' db (aH a (iE c))/\Below W.heap.size W w'):=λW=>ku a (iE c) W oO oO;have b6:Hid (∀W,Calls Tryz.prog 118 #[.int .i64 b,.int .i64 ((iY c:Nat):Int)] W λe w'=>∃db,e= .returned (.slice (some ⟨db,0,none⟩) (iY c) (iY c))/\db=W.heap.size/\bc w' db (aH b (iY c))/\Below W.heap.size W w'):=λW=>ku b (iY c) W oO oO;have b7:Hid (∀W A m c',SR vB false W A m c' B->Calls Tryz.prog 70 #[.slice A m c',.int .i64 4] W (λe w'=>∃v,e= .returned v/\SG vN 0 w' v (bN B 4 (fV c))/\Below W.heap.size W w')):=by
  show∀W A m c',_->_;intro W A m c' hs;have o:=hs.hn;rw[bv]at o;exact AS A m c' 4 (fV c) B W oO oO o oO hs
 have b8:Hid (∀W A m c',SR vN 0 W A m c' (bN B 4 (fV c))->RD W A (zl (bN B 4 (fV c)))->Calls Tryz.prog 105 #[cQ 2 16 19 (fF c) 1,.slice A m c'] W (iB W (zl (eF 16 19 (fF c) 1 (bN B 4 (fV c))),0))):=by
  show∀W A m c',_->_->_;intro W A m c' hs ci;have o:=hs.hn;have ck:=o;rw[ad]at ck;exact sE 2 16 19 (fF c) 1 _ m A c' W bx o bb oO oO ci
 have b9:Hid (∀W A m c',SR vN 0 W A m c' (eF 16 19 (fF c) 1 (bN B 4 (fV c)))->Calls Tryz.prog 71 #[.slice A m c',.int .i64 4] W (λe w'=>∃v,e= .returned v/\vW W.heap.size w' v (gK L c k)/\Below W.heap.size W w')):=by
  show∀W A m c',_->_;intro W A m c' hs;have o:=hs.hn;rw[cb];exact IP A m c' 4 _ W oO oO oO ce hs
 have g:Hid ((aH a (iE c)).length=iE c/\(aH b (iY c)).length=iY c):=⟨cg,ch⟩;have ca:Hid (aH a (iE c)++aH b (iY c)=B):=hB.symm;clear hB bv ad bb cb bx dm O b1 ce b2 b3 c9 dl cg ch;generalize iE c=lb at*;generalize iY c=db at*;generalize fF c=mp at*;generalize bN B 4 (fV c)=co at*;generalize eF 16 19 mp 1 co=d0 at*;generalize gK L c k=bf at*;generalize aH a lb=bi at*;generalize aH b db=bo at*;cases c with
 |true=>
  simp only[if_true]at P Q S;subst P Q S;go_enter Tryz.func65,Tryz.ntmps65
  go_wp2_with(first
   |(go_at_call 118;(with_reducible show Calls _ _ #[.int .i64 (a:Int),_] _ _);refine(b5.out _).mono ?_;rintro e T ⟨U,rfl,q,r,s⟩;have t:=Lib.hid q;have u:=Lib.hid r;have x:Hid (Below w.heap.size w T):=s;clear q r s)
   |(go_at_call 118;refine(b6.out _).mono ?_;rintro e cp ⟨V,rfl,al,y,z⟩;have am:=Lib.hid y;have i:=Lib.hid z;clear al y z)
   |(at_builtin;refine aD (f:=vB) (d:=false) jS rfl _ _ _ rfl w.heap.size 4 bd _ 1 Tryz.underlying26 be bq bs bt rfl (.slice (some ⟨U,0,none⟩) 2 2) 2 bi rfl (ah (u.out.own (n:=2) g.out.1.symm oD (Nat.le_of_eq t.out.symm)) i.out) (some ⟨V,0,none⟩) 6 6 bo rfl g.out.2.symm (am.out.sr g.out.2.symm oD).rd oD oD (ab x.out i.out).size ?_;intro v6 cq N hg;have j:=vd u.out g.out.1 g.out.2 (Nat.le_of_eq t.out.symm) x.out i.out oD ca.out N hg;have ap:=Lib.hid j.1;obtain⟨cr,cs,cv,rfl,C⟩:=j.2;have av:=Lib.hid C;clear N hg j C)
   |(go_at_call 69;refine(b4.out _).mono ?_;rintro e X ⟨rfl,l⟩;have a0:Hid (Below w.heap.size w X):=ab ap.out l;have a1:=Lib.hid (av.out.below l);clear l)
   |(go_at_call 70;refine(b7.out _ _ _ _ a1.out).mono ?_;rintro e Y ⟨cx,rfl,D,E⟩;obtain⟨c2,c3,c4,rfl,-,a2,F⟩:=D.rd;have a3:=Lib.hid a2;have a4:=Lib.hid F;have a5:Hid (Below w.heap.size w Y):=ab a0.out E;clear D E F)
   |(go_at_call 105;refine(b8.out _ _ _ _ a3.out a4.out).mono ?_;rintro e Z ⟨c5,rfl,G,H⟩;obtain⟨c6,c7,c8,rfl,-,a6,-⟩:=bh.Eo G;have a7:=Lib.hid a6;have J:Hid (Below w.heap.size w Z):=ab a5.out H;clear G H)
   |(go_at_call 71;refine(b9.out _ _ _ _ a7.out).mono ?_;rintro e p ⟨ac,rfl,K,M⟩;have a8:Hid (vW w.heap.size p ac bf):=K.mono J.out.size;have a9:Hid (Below w.heap.size w p):=ab J.out M;clear K M))
  go_ret;exact⟨_,rfl,a8.out,a9.out⟩
 |false=>
  simp only[Bool.false_eq_true,if_false]at P Q S;subst P Q S;go_enter Tryz.func65,Tryz.ntmps65
  go_wp2_with(first
   |(go_at_call 118;(with_reducible show Calls _ _ #[.int .i64 (a:Int),_] _ _);refine(b5.out _).mono ?_;rintro e T ⟨U,rfl,q,r,s⟩;have t:=Lib.hid q;have u:=Lib.hid r;have x:Hid (Below w.heap.size w T):=s;clear q r s)
   |(go_at_call 118;refine(b6.out _).mono ?_;rintro e cp ⟨V,rfl,al,y,z⟩;have am:=Lib.hid y;have i:=Lib.hid z;clear al y z)
   |(at_builtin;refine aD (f:=vB) (d:=false) jS rfl _ _ _ rfl w.heap.size 4 bd _ 1 Tryz.underlying26 be bq bs bt rfl (.slice (some ⟨U,0,none⟩) 5 5) 5 bi rfl (ah (u.out.own (n:=5) g.out.1.symm oD (Nat.le_of_eq t.out.symm)) i.out) (some ⟨V,0,none⟩) 11 11 bo rfl g.out.2.symm (am.out.sr g.out.2.symm oD).rd oD oD (ab x.out i.out).size ?_;intro v6 cq N hg;have j:=vd u.out g.out.1 g.out.2 (Nat.le_of_eq t.out.symm) x.out i.out oD ca.out N hg;have ap:=Lib.hid j.1;obtain⟨cr,cs,cv,rfl,C⟩:=j.2;have av:=Lib.hid C;clear N hg j C)
   |(go_at_call 69;refine(b4.out _).mono ?_;rintro e X ⟨rfl,l⟩;have a0:Hid (Below w.heap.size w X):=ab ap.out l;have a1:=Lib.hid (av.out.below l);clear l)
   |(go_at_call 70;refine(b7.out _ _ _ _ a1.out).mono ?_;rintro e Y ⟨cx,rfl,D,E⟩;obtain⟨c2,c3,c4,rfl,-,a2,F⟩:=D.rd;have a3:=Lib.hid a2;have a4:=Lib.hid F;have a5:Hid (Below w.heap.size w Y):=ab a0.out E;clear D E F)
   |(go_at_call 105;refine(b8.out _ _ _ _ a3.out a4.out).mono ?_;rintro e Z ⟨c5,rfl,G,H⟩;obtain⟨c6,c7,c8,rfl,-,a6,-⟩:=bh.Eo G;have a7:=Lib.hid a6;have J:Hid (Below w.heap.size w Z):=ab a5.out H;clear G H)
   |(go_at_call 71;refine(b9.out _ _ _ _ a7.out).mono ?_;rintro e p ⟨ac,rfl,K,M⟩;have a8:Hid (vW w.heap.size p ac bf):=K.mono J.out.size;have a9:Hid (Below w.heap.size w p):=ab J.out M;clear K M))
  go_ret;exact⟨_,rfl,a8.out,a9.out⟩
theorem BU (L:Nat) (c:Bool) (w:World) (h:L<=32):Calls Tryz.prog 51 #[.int .i64 L,.bool c] w λe w'=>∃v,e= .returned v/\ee w.heap.size w' v (bR L c)/\Below w.heap.size w w':=by
 have b9:Hid (∀W,Calls Tryz.prog 98 #[.int .i64 L,.bool c] W λe w'=>e= .returned (.int .i64 ((ax L c:Nat):Int))/\w'=W):=λW=>q5 L c W h;have Z:Hid (∀W x y,x<ax L c->y<ax L c->Calls Tryz.prog 99 #[.int .i64 ((x:Nat):Int),.int .i64 ((y:Nat):Int),.int .i64 L,.bool c] W λe w'=>e= .returned (.agg #[.int .i64 (((l8 L c (x,y)).1:Nat):Int),.int .i64 (((l8 L c (x,y)).2:Nat):Int)])/\Below W.heap.size W w'):=λW x y cq cr=>AR L x y c W h cq cr;have ca:Hid (∀i,rN L c i=if c=true then 4* (L-i)+9 else 4* (L-i)+12):=λi=>rfl;have cb:Hid (∀i,rN L c i<=140):=λi=>xS h;have ce:Hid (∀i j k,i<L->j<rN L c i->k<2->2* i+k<ax L c/\2* i+j<ax L c):=λi j k=>uQ (s:=0) h;have ac:Hid (∀i s j k,bZ L c i s j k=l8 L c (if s=0 then(2* i+k,2* i+j)else if s=1 then(2* i+j,ax L c-1-(2* i+k))else if s=2 then(ax L c-1-(2* i+k),ax L c-1-(2* i+j))else(ax L c-1-(2* i+j),2* i+k))):=λi s j k=>rfl;have c4:=Lib.hid (fX (c:=c) h);have b4:=Lib.hid (JU L c);have b5:=Lib.hid (vC L c);have b6:=Lib.hid (r4 L c);have b7:=Lib.hid (pj L c);have cg:=Lib.hid (wz L c);have ch:=Lib.hid (nO L c);have ci:=Lib.hid (j1 L c);have ck:Hid (∀i,(iL L c i).length<=i* 1120):=xM h;have b8:Hid (bR L c=iL L c L):=rfl;generalize ax L c=B at*;obtain⟨d0,d1⟩:=c4.out;obtain⟨J,co⟩:∃J,J=B-1:=⟨_,rfl⟩;have cp:(B:Int)-1=(J:Int):=oO;have N:=Lib.hid co;have d2:J<=141:=oO;clear co;cases c with
 |true=>
  go_enter Tryz.func51,Tryz.ntmps51;go_wp2_with(go_at_call 98;refine(b9.out _).mono ?_;rintro e w1 ⟨rfl,a8⟩;rw[a8];clear a8)
  clear cp;go_loopw [5,7] (λa ad wr=>∃i:Nat,i<=L/\ad= .int .i64 i/\Hid (aL w wr a (iL L true i))) (λ_ ad _=>L-(intOf ad).toNat)
  case atStart=>exact⟨0,Nat.zero_le _,rfl,aL.start _⟩
  case round=>
   obtain⟨i,cs,rfl,K⟩:=hrel;by_cases bi:i<L
   ·obtain⟨d,a6⟩:∃d,d=L-i:=⟨_,rfl⟩;have bo:(L:Int)-(i:Int)=(d:Int):=oO;obtain⟨r,O⟩:∃r,r=rN L true i:=⟨_,rfl⟩;have c5:r<=140:=by rw[O];exact cb.out i
    have a3:=Lib.hid O;have bq:4* (d:Int)+9=(r:Int):=by have al:=ca.out i;simp at al;rw[O,al,a6];omega
    have c6:d<=32:=oO;have P:∀a,Hid (aL w wr a (iL L true i))->Hid (aL w wr a (iL L true i++sL L true i 0)):=λa h=>by show aL _ _ _ _;rw[show sL L true i 0=[]from rfl,List.append_nil];exact h.out
    have P:=P _ K;clear a6 O K;go_wp2;clear bq bo;obtain⟨C,rfl⟩:∃C:World,C=wr:=⟨_,rfl⟩;go_loopw [5,9] (λa am wr=>∃s:Nat,s<=4/\am= .int .i64 s/\Hid (aL w wr a (iL L true i++sL L true i s))) (λ_ am _=>4-(intOf am).toNat)
    case atStart=>exact⟨0,Nat.zero_le _,rfl,P⟩
    case round=>
     clear P;obtain⟨s,hs,rfl,a4⟩:=hrel;by_cases bx:s<4
     ·have Q:∀a,Hid (aL w wr a (iL L true i++sL L true i s))->Hid (aL w wr a (iL L true i++sL L true i s++jL L true i s 0)):=λa h=>by show aL _ _ _ _;rw[show jL L true i s 0=[]from rfl,List.append_nil];exact h.out
      have Q:=Q _ a4;clear a4;have c7:decide ((s:Int)<4)=true:=by simp;omega
      go_wp2;obtain⟨C,rfl⟩:∃C:World,C=wr:=⟨_,rfl⟩;go_loopw [5,10] (λa ap wr=>∃j:Nat,j<=r/\ap= .int .i64 j/\Hid (aL w wr a (iL L true i++sL L true i s++jL L true i s j))) (λ_ ap _=>r-(intOf ap).toNat)
      case atStart=>exact⟨0,Nat.zero_le _,rfl,Q⟩
      case round=>
       clear Q;obtain⟨j,cv,rfl,a5⟩:=hrel;by_cases b1:j<r
       ·have S:∀a,Hid (aL w wr a (iL L true i++sL L true i s++jL L true i s j))->Hid (aL w wr a (iL L true i++sL L true i s++jL L true i s j++kL L true i s j 0)):=λa h=>by show aL _ _ _ _;rw[show kL L true i s j 0=[]from rfl,List.append_nil];exact h.out
        have S:=S _ a5;clear a5;go_wp2;obtain⟨C,rfl⟩:∃C:World,C=wr:=⟨_,rfl⟩;go_loopw [5,11] (λa av wr=>∃k:Nat,k<=2/\av= .int .i64 k/\Hid (aL w wr a (iL L true i++sL L true i s++jL L true i s j++kL L true i s j k))) (λ_ av _=>2-(intOf av).toNat)
        case atStart=>exact⟨0,Nat.zero_le _,rfl,S⟩
        case round=>
         clear S;obtain⟨k,cx,rfl,M⟩:=hrel;by_cases b2:k<2
         ·obtain⟨bs,bt⟩:=ce.out i j k bi (by rw[<-a3.out];exact b1) b2;obtain⟨f,a9⟩:∃f,f=2* i+k:=⟨_,rfl⟩;obtain⟨g,bb⟩:∃g,g=2* i+j:=⟨_,rfl⟩;have c8:2* (i:Int)+(k:Int)=(f:Int):=oO;have c9:2* (i:Int)+(j:Int)=(g:Int):=oO;have T:=Lib.hid a9;have U:=Lib.hid bb;have b3:J=B-1:=N.out;obtain⟨t,bd⟩:∃t,t=J-f:=⟨_,rfl⟩;obtain⟨u,be⟩:∃u,u=J-g:=⟨_,rfl⟩;have dl:(J:Int)-(f:Int)=(t:Int):=oO;have dm:(J:Int)-(g:Int)=(u:Int):=oO;have V:=Lib.hid bd;have X:=Lib.hid be;have dn:f<B:=oO;have ds:g<B:=oO;have dx:t<B:=oO;have dy:u<B:=oO;have z:Hid (iL L true i++sL L true i s++jL L true i s j++kL L true i s j (k+1)=iL L true i++sL L true i s++jL L true i s j++kL L true i s j k++[bZ L true i s j k]):=by show _=_;rw[b4.out];simp only[List.append_assoc]
          have Y:Hid ((iL L true i++sL L true i s++jL L true i s j++kL L true i s j k).length<=60000):=by
           show _<=_;have al:=ck.out i;have c2:s* (2* rN L true i)<=4* (2* 140):=Nat.mul_le_mul oO (by rw[<-a3.out];omega);rw[List.length_append,List.length_append,List.length_append,cg.out,ch.out,ci.out];omega
          clear a9 bb bd be b3 bs bt;have bv:s=0\/s=1\/s=2\/s=3:=oO;clear bx hs;rcases bv with n|n|n|n
          ·have a0:((s:Int)==0)=true:=by simp;omega
           have F:Hid (s=0):=n;clear n;have D:Hid (∀W,Calls Tryz.prog 99 #[.int .i64 ((f:Nat):Int),.int .i64 ((g:Nat):Int),.int .i64 L,.bool true] W λe w'=>e= .returned (.agg #[.int .i64 (((bZ L true i s j k).1:Nat):Int),.int .i64 (((bZ L true i s j k).2:Nat):Int)])/\Below W.heap.size W w'):=λW=>by
            have h:=Z.out W f g oO oO;have e:bZ L true i s j k=l8 L true (f,g):=by rw[ac.out,<-N.out,<-T.out,<-U.out,<-V.out,<-X.out,F.out];rfl
            rw[e];exact h
           generalize bZ L true i s j k=p at*;generalize G:iL L true i++sL L true i s++jL L true i s j++kL L true i s j k=a1 at*;clear G
           go_wp2_with(first
            |(go_at_call 99;refine(D.out _).mono ?_;rintro e l ⟨rfl,o⟩;have b:=Lib.hid (M.out.below o);clear o)
            |(at_builtin;refine aY (ah b.out.O (ar _ _)) (Nat.le_trans b.out.B.size oS) rfl _ _ rfl rfl ⟨l.heap.size,0,none⟩ 1 1 [p] rfl rfl (cn l [p] _) (by have:=Y.out;omega) ?_;intro v6 a2 q hg H;have E:=Lib.hid (b.out.grow (ar _ _) q hg);clear q hg H))
           exact⟨⟨k+1,by omega,by go_num,by show aL _ _ _ _;rw[z.out];exact E.out⟩,by simp[intOf];omega⟩
          ·have a0:((s:Int)==0)=false:=by simp;omega
           have a7:((s:Int)==1)=true:=by simp;omega
           have F:Hid (s=1):=n;clear n;have D:Hid (∀W,Calls Tryz.prog 99 #[.int .i64 ((g:Nat):Int),.int .i64 ((t:Nat):Int),.int .i64 L,.bool true] W λe w'=>e= .returned (.agg #[.int .i64 (((bZ L true i s j k).1:Nat):Int),.int .i64 (((bZ L true i s j k).2:Nat):Int)])/\Below W.heap.size W w'):=λW=>by
            have h:=Z.out W g t oO oO;have e:bZ L true i s j k=l8 L true (g,t):=by rw[ac.out,<-N.out,<-T.out,<-U.out,<-V.out,<-X.out,F.out];rfl
            rw[e];exact h
           generalize bZ L true i s j k=p at*;generalize G:iL L true i++sL L true i s++jL L true i s j++kL L true i s j k=a1 at*;clear G
           go_wp2_with(first
            |(go_at_call 99;refine(D.out _).mono ?_;rintro e l ⟨rfl,o⟩;have b:=Lib.hid (M.out.below o);clear o)
            |(at_builtin;refine aY (ah b.out.O (ar _ _)) (Nat.le_trans b.out.B.size oS) rfl _ _ rfl rfl ⟨l.heap.size,0,none⟩ 1 1 [p] rfl rfl (cn l [p] _) (by have:=Y.out;omega) ?_;intro v6 a2 q hg H;have E:=Lib.hid (b.out.grow (ar _ _) q hg);clear q hg H))
           exact⟨⟨k+1,by omega,by go_num,by show aL _ _ _ _;rw[z.out];exact E.out⟩,by simp[intOf];omega⟩
          ·have a0:((s:Int)==0)=false:=by simp;omega
           have a7:((s:Int)==1)=false:=by simp;omega
           have bf:((s:Int)==2)=true:=by simp;omega
           have F:Hid (s=2):=n;clear n;have D:Hid (∀W,Calls Tryz.prog 99 #[.int .i64 ((t:Nat):Int),.int .i64 ((u:Nat):Int),.int .i64 L,.bool true] W λe w'=>e= .returned (.agg #[.int .i64 (((bZ L true i s j k).1:Nat):Int),.int .i64 (((bZ L true i s j k).2:Nat):Int)])/\Below W.heap.size W w'):=λW=>by
            have h:=Z.out W t u oO oO;have e:bZ L true i s j k=l8 L true (t,u):=by rw[ac.out,<-N.out,<-T.out,<-U.out,<-V.out,<-X.out,F.out];rfl
            rw[e];exact h
           generalize bZ L true i s j k=p at*;generalize G:iL L true i++sL L true i s++jL L true i s j++kL L true i s j k=a1 at*;clear G
           go_wp2_with(first
            |(go_at_call 99;refine(D.out _).mono ?_;rintro e l ⟨rfl,o⟩;have b:=Lib.hid (M.out.below o);clear o)
            |(at_builtin;refine aY (ah b.out.O (ar _ _)) (Nat.le_trans b.out.B.size oS) rfl _ _ rfl rfl ⟨l.heap.size,0,none⟩ 1 1 [p] rfl rfl (cn l [p] _) (by have:=Y.out;omega) ?_;intro v6 a2 q hg H;have E:=Lib.hid (b.out.grow (ar _ _) q hg);clear q hg H))
           exact⟨⟨k+1,by omega,by go_num,by show aL _ _ _ _;rw[z.out];exact E.out⟩,by simp[intOf];omega⟩
          ·have a0:((s:Int)==0)=false:=by simp;omega
           have a7:((s:Int)==1)=false:=by simp;omega
           have bf:((s:Int)==2)=false:=by simp;omega
           have F:Hid (s=3):=n;clear n;have D:Hid (∀W,Calls Tryz.prog 99 #[.int .i64 ((u:Nat):Int),.int .i64 ((f:Nat):Int),.int .i64 L,.bool true] W λe w'=>e= .returned (.agg #[.int .i64 (((bZ L true i s j k).1:Nat):Int),.int .i64 (((bZ L true i s j k).2:Nat):Int)])/\Below W.heap.size W w'):=λW=>by
            have h:=Z.out W u f oO oO;have e:bZ L true i s j k=l8 L true (u,f):=by rw[ac.out,<-N.out,<-T.out,<-U.out,<-V.out,<-X.out,F.out];rfl
            rw[e];exact h
           generalize bZ L true i s j k=p at*;generalize G:iL L true i++sL L true i s++jL L true i s j++kL L true i s j k=a1 at*;clear G
           go_wp2_with(first
            |(go_at_call 99;refine(D.out _).mono ?_;rintro e l ⟨rfl,o⟩;have b:=Lib.hid (M.out.below o);clear o)
            |(at_builtin;refine aY (ah b.out.O (ar _ _)) (Nat.le_trans b.out.B.size oS) rfl _ _ rfl rfl ⟨l.heap.size,0,none⟩ 1 1 [p] rfl rfl (cn l [p] _) (by have:=Y.out;omega) ?_;intro v6 a2 q hg H;have E:=Lib.hid (b.out.grow (ar _ _) q hg);clear q hg H))
           exact⟨⟨k+1,by omega,by go_num,by show aL _ _ _ _;rw[z.out];exact E.out⟩,by simp[intOf];omega⟩
         ·obtain rfl:k=2:=oO;have z:Hid (iL L true i++sL L true i s++jL L true i s (j+1)=iL L true i++sL L true i s++jL L true i s j++kL L true i s j 2):=by show _=_;rw[b5.out];simp only[List.append_assoc]
          go_wp2;exact⟨⟨j+1,by omega,by go_num,by show aL _ _ _ _;rw[z.out];exact M.out⟩,by simp[intOf];omega⟩
       ·obtain rfl:j=r:=oO;have z:Hid (iL L true i++sL L true i (s+1)=iL L true i++sL L true i s++jL L true i s j):=by show _=_;rw[b6.out,<-a3.out];simp only[List.append_assoc]
        go_wp2;exact⟨⟨s+1,by omega,by go_num,by show aL _ _ _ _;rw[z.out];exact a5.out⟩,by simp[intOf];omega⟩
     ·obtain rfl:s=4:=oO;have z:Hid (iL L true (i+1)=iL L true i++sL L true i 4):=b7.out i;go_wp2;exact⟨⟨i+1,by omega,by go_num,by show aL _ _ _ _;rw[z.out];exact a4.out⟩,by simp[intOf];omega⟩
   ·obtain rfl:i=L:=oO;go_wp2;go_ret;exact⟨_,rfl,by rw[b8.out];exact⟨K.out.sp,λA m k c3 e1 e2=>(World.ownsRow.lt K.out.O _ ((congrArg Value.ownBlock e1).trans (by rw[e2];rfl))).1⟩,K.out.B⟩
 |false=>
  go_enter Tryz.func51,Tryz.ntmps51;go_wp2_with(go_at_call 98;refine(b9.out _).mono ?_;rintro e w1 ⟨rfl,a8⟩;rw[a8];clear a8)
  clear cp;go_loopw [5,7] (λa ad wr=>∃i:Nat,i<=L/\ad= .int .i64 i/\Hid (aL w wr a (iL L false i))) (λ_ ad _=>L-(intOf ad).toNat)
  case atStart=>exact⟨0,Nat.zero_le _,rfl,aL.start _⟩
  case round=>
   obtain⟨i,cs,rfl,K⟩:=hrel;by_cases bi:i<L
   ·obtain⟨d,a6⟩:∃d,d=L-i:=⟨_,rfl⟩;have bo:(L:Int)-(i:Int)=(d:Int):=oO;obtain⟨r,O⟩:∃r,r=rN L false i:=⟨_,rfl⟩;have c5:r<=140:=by rw[O];exact cb.out i
    have a3:=Lib.hid O;have bq:4* (d:Int)+12=(r:Int):=by have al:=ca.out i;simp at al;rw[O,al,a6];omega
    have c6:d<=32:=oO;have P:∀a,Hid (aL w wr a (iL L false i))->Hid (aL w wr a (iL L false i++sL L false i 0)):=λa h=>by show aL _ _ _ _;rw[show sL L false i 0=[]from rfl,List.append_nil];exact h.out
    have P:=P _ K;clear a6 O K;go_wp2;clear bq bo;obtain⟨C,rfl⟩:∃C:World,C=wr:=⟨_,rfl⟩;go_loopw [5,9] (λa am wr=>∃s:Nat,s<=4/\am= .int .i64 s/\Hid (aL w wr a (iL L false i++sL L false i s))) (λ_ am _=>4-(intOf am).toNat)
    case atStart=>exact⟨0,Nat.zero_le _,rfl,P⟩
    case round=>
     clear P;obtain⟨s,hs,rfl,a4⟩:=hrel;by_cases bx:s<4
     ·have Q:∀a,Hid (aL w wr a (iL L false i++sL L false i s))->Hid (aL w wr a (iL L false i++sL L false i s++jL L false i s 0)):=λa h=>by show aL _ _ _ _;rw[show jL L false i s 0=[]from rfl,List.append_nil];exact h.out
      have Q:=Q _ a4;clear a4;have c7:decide ((s:Int)<4)=true:=by simp;omega
      go_wp2;obtain⟨C,rfl⟩:∃C:World,C=wr:=⟨_,rfl⟩;go_loopw [5,10] (λa ap wr=>∃j:Nat,j<=r/\ap= .int .i64 j/\Hid (aL w wr a (iL L false i++sL L false i s++jL L false i s j))) (λ_ ap _=>r-(intOf ap).toNat)
      case atStart=>exact⟨0,Nat.zero_le _,rfl,Q⟩
      case round=>
       clear Q;obtain⟨j,cv,rfl,a5⟩:=hrel;by_cases b1:j<r
       ·have S:∀a,Hid (aL w wr a (iL L false i++sL L false i s++jL L false i s j))->Hid (aL w wr a (iL L false i++sL L false i s++jL L false i s j++kL L false i s j 0)):=λa h=>by show aL _ _ _ _;rw[show kL L false i s j 0=[]from rfl,List.append_nil];exact h.out
        have S:=S _ a5;clear a5;go_wp2;obtain⟨C,rfl⟩:∃C:World,C=wr:=⟨_,rfl⟩;go_loopw [5,11] (λa av wr=>∃k:Nat,k<=2/\av= .int .i64 k/\Hid (aL w wr a (iL L false i++sL L false i s++jL L false i s j++kL L false i s j k))) (λ_ av _=>2-(intOf av).toNat)
        case atStart=>exact⟨0,Nat.zero_le _,rfl,S⟩
        case round=>
         clear S;obtain⟨k,cx,rfl,M⟩:=hrel;by_cases b2:k<2
         ·obtain⟨bs,bt⟩:=ce.out i j k bi (by rw[<-a3.out];exact b1) b2;obtain⟨f,a9⟩:∃f,f=2* i+k:=⟨_,rfl⟩;obtain⟨g,bb⟩:∃g,g=2* i+j:=⟨_,rfl⟩;have c8:2* (i:Int)+(k:Int)=(f:Int):=oO;have c9:2* (i:Int)+(j:Int)=(g:Int):=oO;have T:=Lib.hid a9;have U:=Lib.hid bb;have b3:J=B-1:=N.out;obtain⟨t,bd⟩:∃t,t=J-f:=⟨_,rfl⟩;obtain⟨u,be⟩:∃u,u=J-g:=⟨_,rfl⟩;have dl:(J:Int)-(f:Int)=(t:Int):=oO;have dm:(J:Int)-(g:Int)=(u:Int):=oO;have V:=Lib.hid bd;have X:=Lib.hid be;have dn:f<B:=oO;have ds:g<B:=oO;have dx:t<B:=oO;have dy:u<B:=oO;have z:Hid (iL L false i++sL L false i s++jL L false i s j++kL L false i s j (k+1)=iL L false i++sL L false i s++jL L false i s j++kL L false i s j k++[bZ L false i s j k]):=by show _=_;rw[b4.out];simp only[List.append_assoc]
          have Y:Hid ((iL L false i++sL L false i s++jL L false i s j++kL L false i s j k).length<=60000):=by
           show _<=_;have al:=ck.out i;have c2:s* (2* rN L false i)<=4* (2* 140):=Nat.mul_le_mul oO (by rw[<-a3.out];omega);rw[List.length_append,List.length_append,List.length_append,cg.out,ch.out,ci.out];omega
          clear a9 bb bd be b3 bs bt;have bv:s=0\/s=1\/s=2\/s=3:=oO;clear bx hs;rcases bv with n|n|n|n
          ·have a0:((s:Int)==0)=true:=by simp;omega
           have F:Hid (s=0):=n;clear n;have D:Hid (∀W,Calls Tryz.prog 99 #[.int .i64 ((f:Nat):Int),.int .i64 ((g:Nat):Int),.int .i64 L,.bool false] W λe w'=>e= .returned (.agg #[.int .i64 (((bZ L false i s j k).1:Nat):Int),.int .i64 (((bZ L false i s j k).2:Nat):Int)])/\Below W.heap.size W w'):=λW=>by
            have h:=Z.out W f g oO oO;have e:bZ L false i s j k=l8 L false (f,g):=by rw[ac.out,<-N.out,<-T.out,<-U.out,<-V.out,<-X.out,F.out];rfl
            rw[e];exact h
           generalize bZ L false i s j k=p at*;generalize G:iL L false i++sL L false i s++jL L false i s j++kL L false i s j k=a1 at*;clear G
           go_wp2_with(first
            |(go_at_call 99;refine(D.out _).mono ?_;rintro e l ⟨rfl,o⟩;have b:=Lib.hid (M.out.below o);clear o)
            |(at_builtin;refine aY (ah b.out.O (ar _ _)) (Nat.le_trans b.out.B.size oS) rfl _ _ rfl rfl ⟨l.heap.size,0,none⟩ 1 1 [p] rfl rfl (cn l [p] _) (by have:=Y.out;omega) ?_;intro v6 a2 q hg H;have E:=Lib.hid (b.out.grow (ar _ _) q hg);clear q hg H))
           exact⟨⟨k+1,by omega,by go_num,by show aL _ _ _ _;rw[z.out];exact E.out⟩,by simp[intOf];omega⟩
          ·have a0:((s:Int)==0)=false:=by simp;omega
           have a7:((s:Int)==1)=true:=by simp;omega
           have F:Hid (s=1):=n;clear n;have D:Hid (∀W,Calls Tryz.prog 99 #[.int .i64 ((g:Nat):Int),.int .i64 ((t:Nat):Int),.int .i64 L,.bool false] W λe w'=>e= .returned (.agg #[.int .i64 (((bZ L false i s j k).1:Nat):Int),.int .i64 (((bZ L false i s j k).2:Nat):Int)])/\Below W.heap.size W w'):=λW=>by
            have h:=Z.out W g t oO oO;have e:bZ L false i s j k=l8 L false (g,t):=by rw[ac.out,<-N.out,<-T.out,<-U.out,<-V.out,<-X.out,F.out];rfl
            rw[e];exact h
           generalize bZ L false i s j k=p at*;generalize G:iL L false i++sL L false i s++jL L false i s j++kL L false i s j k=a1 at*;clear G
           go_wp2_with(first
            |(go_at_call 99;refine(D.out _).mono ?_;rintro e l ⟨rfl,o⟩;have b:=Lib.hid (M.out.below o);clear o)
            |(at_builtin;refine aY (ah b.out.O (ar _ _)) (Nat.le_trans b.out.B.size oS) rfl _ _ rfl rfl ⟨l.heap.size,0,none⟩ 1 1 [p] rfl rfl (cn l [p] _) (by have:=Y.out;omega) ?_;intro v6 a2 q hg H;have E:=Lib.hid (b.out.grow (ar _ _) q hg);clear q hg H))
           exact⟨⟨k+1,by omega,by go_num,by show aL _ _ _ _;rw[z.out];exact E.out⟩,by simp[intOf];omega⟩
          ·have a0:((s:Int)==0)=false:=by simp;omega
           have a7:((s:Int)==1)=false:=by simp;omega
           have bf:((s:Int)==2)=true:=by simp;omega
           have F:Hid (s=2):=n;clear n;have D:Hid (∀W,Calls Tryz.prog 99 #[.int .i64 ((t:Nat):Int),.int .i64 ((u:Nat):Int),.int .i64 L,.bool false] W λe w'=>e= .returned (.agg #[.int .i64 (((bZ L false i s j k).1:Nat):Int),.int .i64 (((bZ L false i s j k).2:Nat):Int)])/\Below W.heap.size W w'):=λW=>by
            have h:=Z.out W t u oO oO;have e:bZ L false i s j k=l8 L false (t,u):=by rw[ac.out,<-N.out,<-T.out,<-U.out,<-V.out,<-X.out,F.out];rfl
            rw[e];exact h
           generalize bZ L false i s j k=p at*;generalize G:iL L false i++sL L false i s++jL L false i s j++kL L false i s j k=a1 at*;clear G
           go_wp2_with(first
            |(go_at_call 99;refine(D.out _).mono ?_;rintro e l ⟨rfl,o⟩;have b:=Lib.hid (M.out.below o);clear o)
            |(at_builtin;refine aY (ah b.out.O (ar _ _)) (Nat.le_trans b.out.B.size oS) rfl _ _ rfl rfl ⟨l.heap.size,0,none⟩ 1 1 [p] rfl rfl (cn l [p] _) (by have:=Y.out;omega) ?_;intro v6 a2 q hg H;have E:=Lib.hid (b.out.grow (ar _ _) q hg);clear q hg H))
           exact⟨⟨k+1,by omega,by go_num,by show aL _ _ _ _;rw[z.out];exact E.out⟩,by simp[intOf];omega⟩
          ·have a0:((s:Int)==0)=false:=by simp;omega
           have a7:((s:Int)==1)=false:=by simp;omega
           have bf:((s:Int)==2)=false:=by simp;omega
           have F:Hid (s=3):=n;clear n;have D:Hid (∀W,Calls Tryz.prog 99 #[.int .i64 ((u:Nat):Int),.int .i64 ((f:Nat):Int),.int .i64 L,.bool false] W λe w'=>e= .returned (.agg #[.int .i64 (((bZ L false i s j k).1:Nat):Int),.int .i64 (((bZ L false i s j k).2:Nat):Int)])/\Below W.heap.size W w'):=λW=>by
            have h:=Z.out W u f oO oO;have e:bZ L false i s j k=l8 L false (u,f):=by rw[ac.out,<-N.out,<-T.out,<-U.out,<-V.out,<-X.out,F.out];rfl
            rw[e];exact h
           generalize bZ L false i s j k=p at*;generalize G:iL L false i++sL L false i s++jL L false i s j++kL L false i s j k=a1 at*;clear G
           go_wp2_with(first
            |(go_at_call 99;refine(D.out _).mono ?_;rintro e l ⟨rfl,o⟩;have b:=Lib.hid (M.out.below o);clear o)
            |(at_builtin;refine aY (ah b.out.O (ar _ _)) (Nat.le_trans b.out.B.size oS) rfl _ _ rfl rfl ⟨l.heap.size,0,none⟩ 1 1 [p] rfl rfl (cn l [p] _) (by have:=Y.out;omega) ?_;intro v6 a2 q hg H;have E:=Lib.hid (b.out.grow (ar _ _) q hg);clear q hg H))
           exact⟨⟨k+1,by omega,by go_num,by show aL _ _ _ _;rw[z.out];exact E.out⟩,by simp[intOf];omega⟩
         ·obtain rfl:k=2:=oO;have z:Hid (iL L false i++sL L false i s++jL L false i s (j+1)=iL L false i++sL L false i s++jL L false i s j++kL L false i s j 2):=by show _=_;rw[b5.out];simp only[List.append_assoc]
          go_wp2;exact⟨⟨j+1,by omega,by go_num,by show aL _ _ _ _;rw[z.out];exact M.out⟩,by simp[intOf];omega⟩
       ·obtain rfl:j=r:=oO;have z:Hid (iL L false i++sL L false i (s+1)=iL L false i++sL L false i s++jL L false i s j):=by show _=_;rw[b6.out,<-a3.out];simp only[List.append_assoc]
        go_wp2;exact⟨⟨s+1,by omega,by go_num,by show aL _ _ _ _;rw[z.out];exact a5.out⟩,by simp[intOf];omega⟩
     ·obtain rfl:s=4:=oO;have z:Hid (iL L false (i+1)=iL L false i++sL L false i 4):=b7.out i;go_wp2;exact⟨⟨i+1,by omega,by go_num,by show aL _ _ _ _;rw[z.out];exact a4.out⟩,by simp[intOf];omega⟩
   ·obtain rfl:i=L:=oO;go_wp2;go_ret;exact⟨_,rfl,by rw[b8.out];exact⟨K.out.sp,λA m k c3 e1 e2=>(World.ownsRow.lt K.out.O _ ((congrArg Value.ownBlock e1).trans (by rw[e2];rfl))).1⟩,K.out.B⟩
theorem H6 {a b i d:World} {e f:List Bool} {g n m:Nat} {v:Value} (j:bc b g e) (hn:e.length=n) (l:f.length=m) (o:a.heap.size<=g) (p:Below a.heap.size a b) (q:Below b.heap.size b i) (hl:n<=maxLen)
 (r:d.ownsRow a.heap.size 4 1 v (n+m) ((e++f).map vB)) (hg:i.grownBy d (Value.slice (some ⟨g,0,none⟩) n n).ownBlock):Below a.heap.size a d/\∃A k c,v= .slice A k c/\SR vB false d A k c (e++f):=vd j hn l o p q hl rfl r hg
theorem yI {l:World} {g cap n N k t u:Nat} {q r:Option Addr} {A:Nat} {d:List Pt} {f l0:List Bool} (B:wY l q d) (C:∀c,q=some c->c.block≠g) (hs:SR vB false l r u A f) (hg:∀c,r=some c->0<f.length->c.block≠g)
 (D:aa l k (mI n n (some ⟨g,0,none⟩) N cap) 28) (E:k≠g) (Q:t=d.length) (S:d.length=f.length) (H:∀p∈d,p.1<n/\p.2<n) (F:N=n* n) (hn:n<=161):
 ∀j,j<t->∃(p:Pt) (b:Bool) (e i:Nat) (c:Addr),q=some ⟨e,i,none⟩/\r=some c/\Hid (wrL n l0 (d.take (j+1)) (f.take (j+1))=(wrL n l0 (d.take j) (f.take j)).set (df n p) b)/\df n p<N/\p.1<=161/\p.2<=161/\(j:Int)<(u:Int)/\
  Hid (∀W,au g l W->(W.cell? ⟨k,0,none⟩=some (.int .i64 (n:Int))/\W.cell? ⟨k,1,none⟩=some (.int .i64 (n:Int))/\W.cell? ⟨k,2,none⟩=some (.slice (some ⟨g,0,none⟩) N cap))/\(W.cell? ⟨e,i+j* 2,none⟩=some (.int .i64 (p.1:Int))/\W.cell? ⟨e,i+j* 2+1,none⟩=some (.int .i64 (p.2:Int)))/\W.cell? (c.add j)=some (.bool b)):=by
 intro j P;have o:j<d.length:=oO;have x:j<f.length:=oO;obtain⟨e,i,rfl,y,J⟩:=B oO;obtain⟨c,rfl,K,L⟩:=hs.rd oO;have M:d.getD j (0,0)∈d:=by simp only[List.getD,List.getElem?_eq_getElem o,Option.getD_some];exact List.getElem_mem o
 have v:=H _ M;have w:=J j o;have G:=L j x;have z:e≠g:=C ⟨e,i,none⟩ rfl;have O:=hg c rfl oO;have T:=hs.hn;refine⟨d.getD j (0,0),f.getD j false,e,i,c,rfl,rfl,mV n l0 d f o x,by rw[F];exact mA v.1 v.2,by omega,by omega,by omega,λW m=>?_⟩;have s:=m.row D E;exact⟨⟨s.cell 0 _ rfl,s.cell 1 _ rfl,s.cell 2 _ rfl⟩,⟨(m.cell (a:=⟨e,i+j* 2,none⟩) y z).trans w.1,(m.cell (a:=⟨e,i+j* 2+1,none⟩) y z).trans w.2⟩,(m.cell (a:=c.add j) (by rw[aV];exact K) (by rw[aV];exact O)).trans G⟩
theorem bc.rep (W:World) (k:Nat):bc (W.alloc (.cells (Array.replicate k (vB false)) 4)) W.heap.size (List.replicate k false):=by
 have h:=bc.new W (List.replicate k false);have e:((List.replicate k false).map vB).toArray=Array.replicate k (vB false):=by simp
 rw[e]at h;exact h
theorem nX (L:Nat) (c:Bool) (a:List Nat) (A:Option Addr) (m a7:Nat) (w:World) (u:1<=L) (s:L<=32) (hc:c=true->L<=4) (al:aA (2^aq L) a) (c3:1<=a.length) (c4:a.length<=eM c) (f0:a.length<aQ L c) (hs:SR vN 0 w A m a7 a):
 Calls Tryz.prog 55 #[.slice A m a7,.int .i64 L,.bool c] w λe w'=>∃g cap N,N=ao L c* ao L c/\e= .returned (.agg #[.int .i64 (L:Int),.bool c,.int .i64 (m:Int),.int .i64 ((ao L c:Nat):Int),.int .i64 ((ao L c:Nat):Int),.slice (some ⟨g,0,none⟩) N cap])/\SR vB false w' (some ⟨g,0,none⟩) N cap (fw L c a)/\w.heap.size<=g/\Below w.heap.size w w':=by
 obtain⟨f1,f2,gY,g0,g1⟩:=info_parts fe;have bb:m=a.length:=hs.hn;have ey:RD w A (zl a):=by
  obtain⟨A',m0,c',e,-,-,O⟩:=SG.rd hs.sg;injection e with e1 e2 e3;rw[e1];exact O
 have g2:=wj (c:=c) u s hc;have no:=eK L;have c5:=lX (c:=c) u s;have b4:=nz L c u s;have os:=lD (c:=c) s;have cv:=vo (c:=c) al;have g3:=oH (c:=c) al oO;have ll:=sj (c:=c) al oO;have g4:=uL L c;have g5:=sA L c;have g6:=room_le (c:=c) s;have ez:eo 2 (2^aq L) (kt (aq L)) (aQ L c-a.length) 1:=D9 (mW L) oO oO;have g7:Hid (∀W,Calls Tryz.prog 18 #[.int .i64 L,.bool c] W λe w'=>e= .returned (.tuple #[.int .i64 ((aq L:Nat):Int),.int .i64 ((aQ L c:Nat):Int),.int .i64 0])/\Below W.heap.size W w'):=λW=>by
  have h:=qB L c W;unfold mj at h;rw[exB_of u s hc]at h;exact h
 have c6:Hid (∀W,Calls Tryz.prog 50 #[.int .i64 L,.bool c] W λe w'=>e= .returned (.int .i64 ((dY L c:Nat):Int))/\w'=W):=λW=>uG L c W s;have g8:Hid (∀W,Calls Tryz.prog 106 #[.int .i64 L,.bool c] W λe w'=>∃g cap N,N=ao L c* ao L c/\e= .returned (tf (ao L c:Nat) (ao L c:Nat) (some ⟨g,0,none⟩) N cap)/\W.heap.size<=g/\RO w' g cap (fY (ao L c) (aP L c) c)/\Below W.heap.size W w'):=λW=>(EY L c W u s).mono (by rintro e w' ⟨g,cap,n,N,rfl,f3,rfl,f4,f5,f6⟩;exact⟨g,cap,N,f3,rfl,f4,f5,f6⟩);have c7:Hid (∀o,(bR L c).length=o->∀W,Calls Tryz.prog 51 #[.int .i64 L,.bool c] W λe w'=>∃A cc,e= .returned (.slice A o cc)/\wY w' A (bR L c)/\(∀l,A=some l->W.heap.size<=l.block)/\Below W.heap.size W w'):=by
  show∀o,_->∀W,_;rintro o rfl W;refine(BU L c W s).mono ?_;rintro e w' ⟨v,rfl,⟨⟨A,cc,rfl,-,-,h⟩,am⟩,hb⟩;exact⟨A,cc,rfl,h,λl e=>am A _ _ l rfl e,hb⟩
 have c8:Hid (∀o,(dc (aP L c) c).length=o->∀W,Calls Tryz.prog 52 #[.int .i64 L,.bool c] W λe w'=>∃A cc,e= .returned (.slice A o cc)/\wY w' A (dc (aP L c) c)/\(∀l,A=some l->W.heap.size<=l.block)/\Below W.heap.size W w'):=by
  show∀o,_->∀W,_;rintro o rfl W;refine(xC L c W u s).mono ?_;rintro e w' ⟨v,rfl,⟨⟨A,cc,rfl,-,-,h⟩,am⟩,hb⟩;exact⟨A,cc,rfl,h,λl e=>am A _ _ l rfl e,hb⟩
 have g9:Hid (∀W,Calls Tryz.prog 65 #[.int .i64 L,.int .i64 m,.bool c] W λe w'=>∃A k cc,e= .returned (.slice A k cc)/\SR vB false w' A k cc (gK L c a.length)/\(∀l,A=some l->W.heap.size<=l.block)/\Below W.heap.size W w'):=λW=>by
  rw[bb];refine(J1 L a.length c W u s c3 c4).mono ?_;rintro e w' ⟨v,rfl,⟨h,am⟩,hb⟩;obtain⟨A,k,cc,rfl,cx⟩:=h.parts;exact⟨A,k,cc,rfl,cx,λl e=>am A _ _ l rfl e,hb⟩
 have c9:Hid (∀W,Calls Tryz.prog 69 #[.int .i64 ((aq L:Nat):Int),.int .i64 ((aQ L c-a.length:Nat):Int)] W λe w'=>e= .returned (cQ 2 (2^aq L) (kt (aq L)) (aQ L c-a.length) 1)/\Below W.heap.size W w'):=λW=>EN (aq L) (aQ L c-a.length) W (mW L);have dm:Hid (∀W,RD W A (zl a)->Calls Tryz.prog 105 #[cQ 2 (2^aq L) (kt (aq L)) (aQ L c-a.length) 1,.slice A m a7] W (iB W (zl (ql L c a),0))):=λW O=>sE 2 (2^aq L) (kt (aq L)) (aQ L c-a.length) 1 a m A a7 W ez bb al oO oO O;have ib:Hid (∀W A m c',SR vN 0 W A m c' (ql L c a)->Calls Tryz.prog 71 #[.slice A m c',.int .i64 ((aq L:Nat):Int)] W (λe w'=>∃v,e= .returned v/\SG vB false w' v (ja L c a)/\Below W.heap.size W w')):=by
  show∀W A m c',_->_;intro W A m c' dn;have m1:=dn.hn;exact DL A m c' (aq L) _ W oO oO oO cv.lt dn
 obtain⟨i,ih⟩:∃i,i=dY L c-aQ L c* aq L:=⟨_,rfl⟩;have ds:Hid (wrL (ao L c) (wrL (ao L c) (fY (ao L c) (aP L c) c) (bR L c) (List.replicate i false++ja L c a)) (dc (aP L c) c) (gK L c a.length)=fw L c a):=by
  show _=_;rw[oc oO c5.2.2];exact Fm u s i oO
 have lm:Hid (∀p∈bR L c,p.1<ao L c/\p.2<ao L c):=λp bv=>pe s bv;have ls:Hid (∀p∈dc (aP L c) c,p.1<ao L c/\p.2<ao L c):=λp bv=>by have:=CY (c:=c) (C:=aP L c) oO bv;exact⟨by omega,by omega⟩
 have dx:Hid ((bR L c).length=i+(ja L c a).length):=by show _=_;omega
 have dy:Hid ((dc (aP L c) c).length=(gK L c a.length).length):=by show _=_;rw[oB,oA]
 have lu:Hid ((dc (aP L c) c).length<=40):=by show _<=_;rw[oA];split<;>omega
 have ii:=Lib.hid (jM (ao L c) (aP L c) c);have lv:(bR L c).length<=20000:=oO;have io:Hid ((ja L c a).length<=20000):=by show _<=_;omega
 have d0:ao L c<=161:=b4.2;have np:15<=ao L c:=b4.1;obtain⟨par,e0⟩:∃par,par=aQ L c-a.length:=⟨_,rfl⟩;obtain⟨q,hq⟩:∃q,q=aQ L c* aq L:=⟨_,rfl⟩;have d1:dY L c=i+q:=oO;have nx:((aQ L c:Nat):Int)* ((aq L:Nat):Int)=(q:Int):=by rw[hq];simp
 have n0:q<=20000:=oO;have n5:i<=20000:=oO;rw[<-e0]at c9 dm;have ov:((aQ L c:Nat):Int)-(m:Int)=(par:Int):=oO;clear cv g3 ll g4 g5 g6 ez g2 c5 al c3 c4 e0 f0 b4 u s hc ih hq;have m2:=Lib.hid hs;have av:=Lib.hid ey;have n6:=Lib.hid bb;clear hs ey;rw[d1]at c6;have n7:m<=4000:=oO;clear d1 bb;generalize fw L c a=dl at*;generalize ql L c a=m3 at*;generalize ja L c a=B at*;generalize gK L c a.length=bd at*;generalize bR L c=M at*;generalize dc (aP L c) c=ad at*;generalize ip:2^aq L=S at*;generalize it:kt (aq L)=P at*;clear ip it;generalize aq L=z at*;generalize aQ L c=m4 at*;generalize iv:fY (ao L c) (aP L c) c=F at*;generalize ix:ao L c=n at*;generalize aP L c=C at*;clear iv ix;obtain⟨o,be⟩:∃o,o=M.length:=⟨_,rfl⟩;obtain⟨nm,bf⟩:∃nm,nm=ad.length:=⟨_,rfl⟩;have b5:=Lib.hid be;have b6:=Lib.hid bf;have lw:=Lib.hid (c7.out o be.symm);have lx:=Lib.hid (c8.out nm bf.symm);rw[<-be]at lv;have o0:nm<=40:=by rw[bf];exact lu.out
 clear be bf c7 c8;have n8:=λW=>pM i oO W;have d2:Hid ((List.replicate i false).length=i):=List.length_replicate;have n9:((i+q:Nat):Int)-(q:Int)=(i:Int):=oO;have i0:Hid (Below w.heap.size w (w.alloc (.cells aI 30))):=ar _ _;have i1:Hid (∀k,B.length+i<=40000->k=B.length->i+k<=maxLen/\(i+k)* 1<=140737488355328):=λk h e=>by unfold maxLen;omega
 have d3:Hid (i<=maxLen):=by show _<=_;unfold maxLen;omega
 have i2:Hid (B.length+i<=40000):=by show _<=_;have:=io.out;omega
 go_enter Tryz.func55,Tryz.ntmps55
 go_wp2_with(first
  |((with_reducible show wpList _ _ _ (⟨_,Op.alloc 30,_,_,_,_⟩::_) _ _);refine aU rfl 30 rfl _ Ig ?_)
  |(go_at_call 18;refine(g7.out _).mono ?_;rintro e w1 ⟨rfl,bi⟩;have i3:Hid (Below w.heap.size w w1):=ab i0.out bi;have i4:Hid (w.heap.size+1<=w1.heap.size):=Nat.le_trans oS bi.size;have i5:Hid (aa w1 w.heap.size aI 30):=(aa.new w aI 30 _ rfl).below bi;clear bi)
  |(go_at_call 69;refine(c9.out _).mono ?_;rintro e w2 ⟨rfl,bo⟩;have d4:Hid (Below w.heap.size w w2):=ab i3.out bo;have ly:=Lib.hid bo.size;have i6:=Lib.hid (i5.out.below bo);clear bo)
  |(go_at_call 105;refine(dm.out _ (av.out.below d4.out)).mono ?_;rintro e ap ⟨m5,rfl,d5,bq⟩;obtain⟨m6,n3,c2,rfl,-,i7,-⟩:=bh.Eo d5;have i8:=Lib.hid i7;have bs:Hid (Below w.heap.size w ap):=ab d4.out bq;have l1:=Lib.hid bq.size;have b7:=Lib.hid (i6.out.below bq);have l2:Hid (w.heap.size<ap.heap.size):=aw b7.out;clear d5 bq)
  |(go_at_call 50;refine(c6.out _).mono ?_;rintro e m7 ⟨rfl,d6⟩;rw[d6];clear d6)
  |(go_at_call 71;refine(ib.out _ _ _ _ (i8.out.below (ar _ _))).mono ?_;rintro e m8 ⟨m9,rfl,d7,d8⟩;obtain⟨f7,bx,b1,rfl,b8⟩:=d7.parts;have i9:=Lib.hid b8;have Y:=Lib.hid d8;have b9:Hid (B.length=bx):=b8.hn.symm;clear d7 d8 b8)
  |(at_builtin;have b2:=i1.out bx i2.out b9.out.symm;refine aD (f:=vB) (d:=false) jS rfl _ _ _ rfl w.heap.size 4 f1 _ 1 Tryz.underlying26 f2 gY g0 g1 rfl (.slice (some ⟨ap.heap.size,0,none⟩) i i) i (List.replicate i false) rfl (ah ((bc.rep ap i).own d2.out.symm d3.out bs.out.size) Y.out) f7 bx b1 B rfl b9.out.symm i9.out.rd b2.1 b2.2 (ab (ae bs.out _) Y.out).size ?_;intro v6 H e9 hg;have ca:=H6 (bc.rep ap i) d2.out b9.out bs.out.size (ae bs.out _) Y.out d3.out e9 hg;have jp:=Lib.hid ca.1;have jr:Hid (w.heap.size+1<=H.heap.size):=Nat.le_trans (Nat.le_trans (Nat.le_trans (Nat.le_trans i4.out ly.out) l1.out) (Nat.le_trans oS Y.out.size)) hg.size;have jv:Hid (aa H w.heap.size aI 30):=(hg.block _ (aw ((b7.out.below (ar _ _)).below Y.out)) (λe=>Nat.ne_of_lt l2.out (Option.some.inj e))).trans ((b7.out.below (ar _ _)).below Y.out);obtain⟨f8,f9,ga,rfl,d9⟩:=ca.2;have ea:=Lib.hid d9;clear e9 hg ca d9 b2)
  |(go_at_call 106;refine(g8.out _).mono ?_;rintro e Q ⟨g,cap,N,ec,rfl,ed,cq,a0⟩;have bt:=Lib.hid ec;have j0:=Lib.hid ed;have mb:=Lib.hid cq;have kb:Hid (Below w.heap.size w Q):=ab jp.out a0;have kc:=Lib.hid (ea.out.below a0);have kd:=Lib.hid (jv.out.below a0);have ef:=Lib.hid (And.intro a0.size cq.lt);clear ec ed cq a0)
  |(go_at_call 51;refine(lw.out _).mono ?_;rintro e r ⟨na,oa,rfl,eh,ej,ek⟩;have kf:=Lib.hid eh;have km:=Lib.hid ej;have Z:=Lib.hid ek;clear eh ej ek))
 obtain⟨T,cb⟩:∃T,T=Q.heap.size:=⟨_,rfl⟩;have el:Hid (aa r T (mI n n (some ⟨g,0,none⟩) N cap) 28):=by show aa _ _ _ _;rw[cb];exact(aa.new Q (mI n n (some ⟨g,0,none⟩) N cap) 28 _ rfl).below Z.out
 have fb:Hid (Below w.heap.size w r):=ab (ae kb.out _) Z.out;have md:Hid (RO r g cap F):=(mb.out.below (ar _ _)).below Z.out;have kp:Hid (SR vB false r f8 f9 ga (List.replicate i false++B)):=(kc.out.below (ar _ _)).below Z.out;have E:Hid (T≠g/\H.heap.size<=g/\w.heap.size<g/\T<r.heap.size):=by
  show _/\_;have b3:=ef.out.2;have cx:=j0.out;have nb:w.heap.size+1<=H.heap.size:=jr.out;have gb:=Z.out.size;have gc:(Q.alloc (.cells (mI n n (some ⟨g,0,none⟩) N cap) 28)).heap.size=Q.heap.size+1:=by simp
  rw[gc]at gb;omega
 have mt:=Lib.hid (yI (l0:=F) kf.out (λl e=>by
  have u:=km.out l e;have a8:=ef.out.2;have b3:(Q.alloc (.cells (mI n n (some ⟨g,0,none⟩) N cap) 28)).heap.size=Q.heap.size+1:=by simp
  rw[b3]at u;omega) kp.out (λl e J=>by obtain⟨ob,e2,a8,-⟩:=ea.out.rd J;rw[e]at e2;injection e2 with e3;rw[<-e3]at a8;have:=E.out.2.1;omega) el.out E.out.1 b5.out (by rw[dx.out,List.length_append,List.length_replicate]) lm.out bt.out d0)
 have fr:Hid (F.length=N):=by show _=_;rw[ii.out,bt.out]
 have fd:Hid (RO r g cap (wrL n F (M.take 0) ((List.replicate i false++B).take 0))/\au g r r):=by show _/\_;rw[List.take_zero,iP];exact⟨md.out,au.refl _ _⟩
 have ks:Hid (aa r w.heap.size aI 30):=(kd.out.below (ar _ _)).below Z.out;have kv:Hid ((wrL n F M (List.replicate i false++B)).length=N):=by show _=_;rw[dk];exact fr.out
 simp only[<-cb];clear cb;go_loopw [15] (λU wr=>∃j:Nat,j<=o/\U= .int .i64 j/\Hid (RO wr g cap (wrL n F (M.take j) ((List.replicate i false++B).take j))/\au g r wr)) (λU _=>o-(intOf U).toNat)
 case atStart=>exact⟨0,Nat.zero_le _,rfl,fd.out⟩
 case round=>
  clear fd;obtain⟨j,gd,rfl,D⟩:=hrel;by_cases ce:j<o
  ·obtain⟨p,b,ge,gg,l,rfl,rfl,cg,cr,kw,k0,k1,ch⟩:=mt.out j ce;have a1:Hid ((wrL n F (M.take j) ((List.replicate i false++B).take j)).length=N):=by show _=_;rw[dk];exact fr.out
   generalize wrL n F (M.take j) ((List.replicate i false++B).take j)=G at*;have cs:Hid (∀W,au g r W->RO W g cap G->Calls Tryz.prog 107 #[tf n n (some ⟨g,0,none⟩) N cap,.int .i64 (p.1:Int),.int .i64 (p.2:Int),.bool b] W λe w'=>e= .returned (.tuple #[])/\RO w' g cap (G.set (df n p) b)/\au g W w'):=by
    show∀W,_;intro W gi O;refine tv n g cap N (df n p) n p.1 p.2 b G W oO a1.out.symm ⟨by omega,by omega⟩ ⟨by omega,by omega⟩ (by unfold df;simp) ?_ O;rw[a1.out];exact cr
   have k2:(j:Int)<(o:Int):=oO;have X:Hid (au g r wr.drew):=D.out.2.trans (au.below (ak (Below.refl _ _)));have av:Hid (RO wr.drew g cap G):=D.out.1.below (ak (Below.refl _ _));go_wp2;refine yO (λW=>au g r W) [1,2,3,4,5,6,7,8,9,10,11,12,13,14,15,0,16] X.out ?_
   repeat refine zO ch.out ?_
   refine zZ ?_;refine(cs.out _ X.out av.out).mono ?_;rintro e H ⟨rfl,a2,a3⟩;have ci:=Lib.hid a2;have a4:Hid (au g r H):=X.out.trans a3;clear a2 a3;refine⟨_,rfl,a4.out,jO ?_⟩;refine ag ?_;go_wp2;exact⟨⟨j+1,by omega,by go_num,by show RO _ _ _ _/\_;rw[cg.out];exact⟨ci.out,a4.out⟩⟩,by simp[intOf];omega⟩
  ·obtain rfl:j=o:=oO;have em:Hid (RO wr g cap (wrL n F M (List.replicate i false++B))):=by
    show RO _ _ _ _;have h:=D.out.1;rw[List.take_of_length_le (by rw[<-b5.out];exact Nat.le_refl _),List.take_of_length_le (by rw[List.length_append,List.length_replicate,<-dx.out,<-b5.out];exact Nat.le_refl _)]at h;exact h
   have ck:Hid (au g r wr):=D.out.2;clear D;obtain⟨co,rfl⟩:∃x,x=wr:=⟨_,rfl⟩;have me:Hid (aa co T (mI n n (some ⟨g,0,none⟩) N cap) 28):=ck.out.row el.out E.out.1;have mk:Hid (aa co w.heap.size aI 30):=ck.out.row ks.out (Nat.ne_of_lt E.out.2.2.1);have ms:Hid (Below w.heap.size w co):=fb.out.trans (ck.out.to (Nat.le_of_lt E.out.2.2.1) fb.out.size);have en:=Lib.hid em.out.lt;generalize wrL n F M (List.replicate i false++B)=K at*;have k3:Hid (K.length=N):=kv.out
   go_wp2_with(first
    |(go_at_call 52;refine(lx.out _).mono ?_;rintro e oi ⟨go,oj,rfl,eq,er,es⟩;have k4:=Lib.hid eq;have k5:=Lib.hid er;have a5:=Lib.hid es;clear eq er es)
    |(go_at_call 65;refine(g9.out _).mono ?_;rintro e t ⟨nc,nl,cm,rfl,et,eu,ex⟩;have k7:=Lib.hid et;have k9:=Lib.hid eu;have a6:=Lib.hid ex;clear et eu ex))
   have fn:Hid (aa t T (mI n n (some ⟨g,0,none⟩) N cap) 28):=(me.out.below a5.out).below a6.out;have ml:Hid (aa t w.heap.size aI 30):=(mk.out.below a5.out).below a6.out;have mm:Hid (RO t g cap K):=(em.out.below a5.out).below a6.out;have fv:Hid (Below w.heap.size w t):=ab (ab ms.out a5.out) a6.out;have mp:Hid (wY t go ad):=k4.out.below a6.out;have mv:=Lib.hid (yI (l0:=K) mp.out (λl e=>by have u:=k5.out l e;have a8:=en.out;omega) k7.out (λl e _=>by have u:=k9.out l e;have a8:=en.out;have b3:=a5.out.size;omega) fn.out E.out.1 b6.out dy.out ls.out bt.out d0);have fx:Hid (K.length=N):=k3.out;have fo:Hid (RO t g cap (wrL n K (ad.take 0) (bd.take 0))/\au g t t):=by show _/\_;rw[List.take_zero,iP];exact⟨mm.out,au.refl _ _⟩
   go_loopw [16] (λU wr=>∃j:Nat,j<=nm/\U= .int .i64 j/\Hid (RO wr g cap (wrL n K (ad.take j) (bd.take j))/\au g t wr)) (λU _=>nm-(intOf U).toNat)
   case atStart=>exact⟨0,Nat.zero_le _,rfl,fo.out⟩
   case round=>
    clear fo;obtain⟨j,gd,rfl,D⟩:=hrel;by_cases ce:j<nm
    ·obtain⟨p,b,ge,gg,l,rfl,rfl,cg,cr,kw,k0,k1,ch⟩:=mv.out j ce;have a1:Hid ((wrL n K (ad.take j) (bd.take j)).length=N):=by show _=_;rw[dk];exact fx.out
     generalize wrL n K (ad.take j) (bd.take j)=G at*;have cs:Hid (∀W,au g t W->RO W g cap G->Calls Tryz.prog 107 #[tf n n (some ⟨g,0,none⟩) N cap,.int .i64 (p.1:Int),.int .i64 (p.2:Int),.bool b] W λe w'=>e= .returned (.tuple #[])/\RO w' g cap (G.set (df n p) b)/\au g W w'):=by
      show∀W,_;intro W gi O;refine tv n g cap N (df n p) n p.1 p.2 b G W oO a1.out.symm ⟨by omega,by omega⟩ ⟨by omega,by omega⟩ (by unfold df;simp) ?_ O;rw[a1.out];exact cr
     have k2:(j:Int)<(nm:Int):=oO;have X:Hid (au g t wr.drew):=D.out.2.trans (au.below (ak (Below.refl _ _)));have av:Hid (RO wr.drew g cap G):=D.out.1.below (ak (Below.refl _ _));go_wp2;refine yO (λW=>au g t W) [1,2,3,4,5,6,7,8,9,10,11,12,13,14,15,0,16] X.out ?_
     repeat refine zO ch.out ?_
     refine zZ ?_;refine(cs.out _ X.out av.out).mono ?_;rintro e H ⟨rfl,a2,a3⟩;have ci:=Lib.hid a2;have a4:Hid (au g t H):=X.out.trans a3;clear a2 a3;refine⟨_,rfl,a4.out,jO ?_⟩;refine ag ?_;go_wp2;exact⟨⟨j+1,by omega,by go_num,by show RO _ _ _ _/\_;rw[cg.out];exact⟨ci.out,a4.out⟩⟩,by simp[intOf];omega⟩
    ·obtain rfl:j=nm:=oO;have la:Hid (RO wr g cap dl):=by
      show RO _ _ _ _;have h:=D.out.1;rw[List.take_of_length_le (by rw[<-b6.out];exact Nat.le_refl _),List.take_of_length_le (by rw[<-dy.out,<-b6.out];exact Nat.le_refl _),ds.out]at h;exact h
     have cp:Hid (au g t wr):=D.out.2;clear D;obtain⟨V,rfl⟩:∃x,x=wr:=⟨_,rfl⟩;have a9:=cp.out.row fn.out E.out.1;have ol:=a9.cell 0 _ rfl;have oo:=a9.cell 1 _ rfl;have op:=a9.cell 2 _ rfl;have y:=cp.out.row ml.out (Nat.ne_of_lt E.out.2.2.1);have c0:=y.cell 0 _ rfl;have c1:=y.cell 1 _ rfl;have gq:=y.cell 2 _ rfl;have c2:=y.cell 3 _ rfl;have gs:=y.cell 4 _ rfl;have b1:=y.cell 5 _ rfl;have gt:V.frozen? ⟨w.heap.size,0,none⟩=false:=frozen_of_row _ _ _ _ _ y;have gx:V.frozen? ⟨w.heap.size,1,none⟩=false:=frozen_of_row _ _ _ _ _ y;have gy:V.frozen? ⟨w.heap.size,2,none⟩=false:=frozen_of_row _ _ _ _ _ y;have gL:V.frozen? ⟨w.heap.size,3,none⟩=false:=frozen_of_row _ _ _ _ _ y;have gN:V.frozen? ⟨w.heap.size,4,none⟩=false:=frozen_of_row _ _ _ _ _ y;have gX:V.frozen? ⟨w.heap.size,5,none⟩=false:=frozen_of_row _ _ _ _ _ y;have lc:Hid (Below w.heap.size w V):=fv.out.trans (cp.out.to (Nat.le_of_lt E.out.2.2.1) fv.out.size);have li:Hid (dl.length=N):=by show _=_;rw[<-ds.out,dk];exact fx.out
     clear a9 y;go_wp2;refine bodyPost_ret (v:= .agg #[.int .i64 (L:Int),.bool c,.int .i64 (m:Int),.int .i64 (n:Int),.int .i64 (n:Int),.slice (some ⟨g,0,none⟩) N cap]) (by simp[results,Tryz.results55,go_sem,c0,c1,gq,c2,gs,b1,gt,gx,gy,gL,gN,gX]) rfl ⟨g,cap,N,bt.out,rfl,?_,Nat.le_of_lt E.out.2.2.1,?_⟩
     ·have ac:g≠w.heap.size:=Nat.ne_of_gt E.out.2.2.1;exact((((((la.out.bw ⟨w.heap.size,0,none⟩ _ ac).bw ⟨w.heap.size,1,none⟩ _ ac).bw ⟨w.heap.size,2,none⟩ _ ac).bw ⟨w.heap.size,3,none⟩ _ ac).bw ⟨w.heap.size,4,none⟩ _ ac).bw ⟨w.heap.size,5,none⟩ _ ac).sr li.out.symm
     ·have J:w.heap.size<=w.heap.size:=Nat.le_refl _;exact(((((lc.out.setCell J _).setCell J _).setCell J _).setCell J _).setCell J _).setCell J _
end
end Go.Proofs.YtmnlkganmgcpbaaGreatDoor
