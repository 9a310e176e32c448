import Derived.Test.YtmnlkganmgcpbaaGreatDoorQk19
set_option maxRecDepth 100000
set_option maxHeartbeats 4000000
set_option linter.unusedVariables false
set_option linter.unusedSectionVars false
set_option linter.unusedSimpArgs false
namespace Go.Proofs.YtmnlkganmgcpbaaGreatDoor
section
open Go.RowKit
theorem SG.rd {w:World} {v:Value} {l:List Nat} (h:SG vN 0 w v l):∃A n c,v= .slice A n c/\n=l.length/\SR vN 0 w A n c l/\RD w A (zl l):=by
 obtain⟨A,n,c,rfl,hs⟩:=h.parts;obtain⟨b,d,e,-,-,a⟩:=aA.AK h;injection e with e1 e2 e3;exact⟨A,n,c,rfl,hs.hn,hs,by rw[e1];exact a⟩
theorem aA.K0 {w:World} {v:Value} {l:List Nat} (h:aA w v (zl l)):∃A n c,v= .slice A n c/\n=l.length/\SR vN 0 w A n c l/\RD w A (zl l):=SG.rd (aA.Ny h)
theorem Ib (a b:Nat) (c:Bool):(aH a (eV c)++aH b (gG c)).length=gA c* 4:=by
 rw[List.length_append,aL,aL];cases c<;>rfl
theorem Kx (L k:Nat) (c:Bool) (w:World) (N:1<=L) (O:L<=32) (hc:c=true->L<=4) (b7:1<=k) (P:k<=gK c):Calls Tryz.prog 23 #[.int .i64 L,.int .i64 k,.bool c] w (RT vB false w (jW L c k,0)):=by
 have b8:=eK w L c;have al:Hid (∀W,Calls Tryz.prog 29 #[bD L c] W λe w'=>e= .returned (.bool true)/\Below W.heap.size W w'):=λW=>by rw[<-qD N O hc];exact fQ L c W
 have am:Hid (∀W,Calls Tryz.prog 57 #[.bool c] W λe w'=>e= .returned (.int .i64 ((gK c:Nat):Int))/\w'=W):=λW=>tS c W;have ap:Hid (∀W,Calls Tryz.prog 58 #[.bool c] W λe w'=>e= .returned (.tuple #[.int .i64 ((eV c:Nat):Int),.int .i64 ((gG c:Nat):Int),.int .i64 ((eu c:Nat):Int)])/\w'=W):=λW=>sq c W;obtain⟨B,hB⟩:∃B,B=aH (L-1) (eV c)++aH (k-1) (gG c):=⟨_,rfl⟩;have o:B.length=gA c* 4:=by rw[hB];exact Ib _ _ _
 have av:gA c<=4:=by cases c<;>decide
 have b3:1<=gA c:=by cases c<;>decide
 have j:=cV B 4 (gA c);have n:=nH B 4 (gA c);have K:jW L c k=bF (gJ 16 19 (eu c) 1 (bg B 4 (gA c))) 4:=by rw[Br,hB]
 have l:=KV c;have a0:eu c<=6:=by cases c<;>decide
 have b4:gA c+eu c<=15:=by cases c<;>decide
 have g:=uf (zh Fp) (par:=eu c) (first:=1) n;change AE 16 19 (eu c) 1 _ (gJ 16 19 (eu c) 1 (bg B 4 (gA c)))at g;have p:=g.ln;have M:=g.lt;rw[j]at p;have c7:k<=2048:=by
  have:gK c<=2048:=by cases c<;>decide
  omega
 have c8:eV c<=11/\gG c<=11:=by cases c<;>decide
 obtain⟨b,q⟩:∃b,b=L-1:=⟨_,rfl⟩;obtain⟨f,r⟩:∃f,f=k-1:=⟨_,rfl⟩;have c9:(L:Int)-1=(b:Int):=oO;have da:(k:Int)-1=(f:Int):=oO;rw[<-q,<-r]at hB;have a1:Hid (∀W,Calls Tryz.prog 61 #[.int .i64 4,.int .i64 ((eu c:Nat):Int)] W λe w'=>e= .returned (.tuple #[dw 2 16 19 (eu c) 1,.int .i64 0])/\Below W.heap.size W w'):=λW=>tN (eu c) W l;have b5:Hid (∀W,Calls Tryz.prog 59 #[.slice none 0 0,.int .i64 b,.int .i64 ((eV c:Nat):Int)] W (RT vB false W (aH b (eV c),0))):=λW=>uL none 0 0 [] b (eV c) W oO oO oO ⟨rfl,Nat.le_refl _,Nat.zero_le _,RG.dI _ _⟩;have b6:Hid (∀W A m a,SR vB false W A m a (aH b (eV c))->Calls Tryz.prog 59 #[.slice A m a,.int .i64 f,.int .i64 ((gG c:Nat):Int)] W (RT vB false W (B,0))):=by
  show∀W A m a,_->_;intro W A m a hs;have:=hs.hn;rw[aL]at this;rw[hB];exact uL A m a _ f (gG c) W oO oO oO hs
 have a2:Hid (∀W A m a,SR vB false W A m a B->Calls Tryz.prog 60 #[.slice A m a,.int .i64 4,.bool false] W (RT vN 0 W (bg B 4 (gA c),0))):=by
  show∀W A m a,_->_;intro W A m a hs;have d:=hs.hn;rw[o]at d;exact qY A m a 4 (gA c) B W oO oO d oO hs
 have a3:Hid (∀W A m a,SR vN 0 W A m a (bg B 4 (gA c))->RD W A (zl (bg B 4 (gA c)))->Calls Tryz.prog 62 #[dw 2 16 19 (eu c) 1,.slice A m a] W (kY W (zl (gJ 16 19 (eu c) 1 (bg B 4 (gA c))),0))):=by
  show∀W A m a,_->_->_;intro W A m a hs Q;have d:=hs.hn;have S:=d;rw[j]at S;exact uM 2 16 19 (eu c) 1 _ m A a W l d n oO oO Q
 have a4:Hid (∀W A m a,SR vN 0 W A m a (gJ 16 19 (eu c) 1 (bg B 4 (gA c)))->Calls Tryz.prog 63 #[.slice A m a,.int .i64 4] W (RT vB false W (jW L c k,0))):=by
  show∀W A m a,_->_;intro W A m a hs;have d:=hs.hn;rw[K];exact nQ A m a 4 _ W oO oO oO M hs
 have dd:k<=gK c:=P;clear hB o j n K l a0 b4 g p M q r hc av b3;generalize eV c=lb at*;generalize gG c=db at*;generalize eu c=mp at*;generalize bg B 4 (gA c)=T at*;generalize gJ 16 19 mp 1 T=b9 at*;generalize jW L c k=ca at*;generalize aH b lb=cb at*;have de:¬(k:Int)<1:=oO;generalize gK c=U at*;have dk:¬(U:Int)<(k:Int):=oO;go_enter Tryz.func23,Tryz.ntmps23
 go_wp2_with(first
  |(go_at_call 29;refine(al.out _).mono ?_;rintro e V ⟨rfl,s⟩;have a5:Hid (Below w.heap.size w V):=cH s;clear s)
  |(go_at_call 57;refine(am.out _).mono ?_;rintro e ce ⟨rfl,t⟩;rw[t];clear t)
  |(go_at_call 58;refine(ap.out _).mono ?_;rintro e ch ⟨rfl,u⟩;rw[u];clear u)
  |(go_at_call 59;(with_reducible show Calls _ _ #[.slice none 0 0,_,_] _ _);refine(b5.out _).mono ?_;rintro e X ⟨v4,rfl,v,x⟩;obtain⟨ci,n4,ck,rfl,a6⟩:=v.parts;have a7:=Lib.hid a6;have a8:Hid (Below w.heap.size w X):=ae a5.out x;clear v x)
  |(go_at_call 59;refine(b6.out _ _ _ _ a7.out).mono ?_;rintro e Y ⟨co,rfl,y,z⟩;obtain⟨cp,cq,cs,rfl,a9⟩:=y.parts;have bb:=Lib.hid a9;have bd:Hid (Below w.heap.size w Y):=ae a8.out z;clear y z)
  |(go_at_call 60;refine(a2.out _ _ _ _ bb.out).mono ?_;rintro e Z ⟨v6,rfl,C,D⟩;obtain⟨cv,cx,cN,rfl,-,be,E⟩:=C.rd;have bf:=Lib.hid be;have bi:=Lib.hid E;have bo:Hid (Below w.heap.size w Z):=ae bd.out D;clear C D E)
  |(go_at_call 61;refine(a1.out _).mono ?_;rintro e ab ⟨rfl,i⟩;have bq:Hid (Below w.heap.size w ab):=ae bo.out i;have bs:=Lib.hid (bf.out.below i);have bt:=Lib.hid (bi.out.below i);clear i)
  |(go_at_call 62;refine(a3.out _ _ _ _ (bs.out.below (ax _ _)) (bt.out.below (ax _ _))).mono ?_;rintro e ac ⟨c2,rfl,F,G⟩;obtain⟨c3,c4,c5,rfl,-,bv,-⟩:=aA.K0 F;have bx:=Lib.hid bv;have bz:Hid (Below w.heap.size w ac):=ae (ah bq.out _) G;clear F G)
  |(go_at_call 63;refine(a4.out _ _ _ _ bx.out).mono ?_;rintro e ad ⟨c6,rfl,H,J⟩;have b1:=Lib.hid H;have b2:Hid (Below w.heap.size w ad):=ae bz.out J;clear H J))
 go_ret2
 exact RT.mk rfl b1.out b2.out
theorem mY {l:List UInt8} {C:Nat->Nat->Nat} (hl:l.length<=60) (a:cj (bA l) C) (L:Nat) {ws:List Nat} (b:ws=aI (bE l) (aq L)):ao (2^aq L) ws/\ws.length<=(bE l).length/\(bE l).length<=ws.length* aq L/\(bE l).length<=501:=by
 have f:=qT oO a;have g:=eQ L;obtain⟨e,e1,e2,e3,e4,e5,e6,e7⟩:=kM (bE l) (aq L) oO oO oO;rw[<-b]at e4 e6 e7;refine⟨λi=>?_,e7,e4,by omega⟩;rcases Nat.lt_or_ge i ws.length with hi|hi
 ·have:ws.getD i 0∈ws:=by simp only[List.getD,List.getElem?_eq_getElem hi,Option.getD_some];exact List.getElem_mem hi
  have:=(e6 _ this).2;omega
 ·rw[lN hi];exact Nat.two_pow_pos _
theorem tZ {L:Nat} {c:Bool} {ws:List Nat} (hw:ao (2^aq L) ws):AE (2^aq L) (jS (aq L)) (aD L c-ws.length) 1 ws (mD L c ws):=uf (zh (kS L)) hw
theorem mV {L:Nat} {c:Bool} {ws:List Nat} (hw:ao (2^aq L) ws) (hk:ws.length<=aD L c):(mD L c ws).length=aD L c:=by rw[(tZ hw).ln];omega
theorem ve {L:Nat} {c:Bool} {ws:List Nat} (hw:ao (2^aq L) ws) (hk:ws.length<=aD L c):(lR L c ws).length=aD L c* aq L:=by unfold lR;rw[jb,mV hw hk]
theorem oc (L:Nat) (c:Bool):aD L c* aq L<=ie L c:=Nat.div_mul_le_self _ _
theorem pW (L:Nat) (c:Bool) (k:Nat):(jW L c k).length=if c=true then 28 else 40:=by
 unfold jW;rw[jb,qg,cV];cases c<;>rfl
section
variable {L : Nat} {c : Bool} (h1 : 1 ≤ L) (hL : L ≤ 32) (hc : c = true → L ≤ 4) {ws : List Nat} (hw : ao (2 ^ aq L) ws) (hk : ws.length ≤ aD L c)
include h1 hL hw hk
theorem Fa:uy L c ws.length (eB L c ws):=by
 refine⟨kD _ _ _ _,λp a b h=>LV h1 hL a b h,JR h1 hL,It h1 hL,?_⟩;unfold eB qk;refine JP h1 hL (kF _ _ _) ?_;rw[pW,ky]
theorem GV:(cA (aj L c) (eB L c ws) (aZ L c)).drop ((aZ L c).length-aD L c* aq L)=lR L c ws:=by
 have a:=ve hw hk;have h:=JH h1 hL (content:=lR L c ws) (msg:=jW L c ws.length) (by rw[a,nf];exact oc L c) (d:=jX (aj L c) (aQ L c) c) (kF _ _ _);rw[a]at h;unfold cA;rw[<-List.map_drop];exact h
theorem FD:lF (aj L c) L c (eB L c ws)=mD L c ws:=by
 unfold lF;rw[GV h1 hL hw hk];have:=xA (tZ (c:=c) hw).lt;rw[mV hw hk]at this;exact this
end
def pt (a b:List Bool):List Bool:=List.zipWith xor a b
theorem uS {a b:List Bool} (h:a.length=b.length):(pt a b).length=a.length:=by unfold pt;rw[List.length_zipWith];omega
theorem pN {a b:List Bool} (h:a.length=b.length) (i:Nat):(pt a b).getD i false=xor (a.getD i false) (b.getD i false):=by
 unfold pt;simp only[List.getD,List.getElem?_zipWith];rcases Nat.lt_or_ge i a.length with hi|hi
 ·rw[List.getElem?_eq_getElem hi,List.getElem?_eq_getElem (by omega:i<b.length)];rfl
 ·rw[List.getElem?_eq_none hi,List.getElem?_eq_none (by omega:b.length<=i)];rfl
theorem MZ {a b:List Bool} (hl:a.length=b.length) (h:∀i,i<a.length->a.getD i false=b.getD i false):a=b:=by
 apply List.ext_getElem hl;intro i h1 e;have:=h i h1;simpa[List.getD,h1,e]using this
theorem nP {d:List Bool} {i:Nat} (b:Bool) (hi:i<d.length):(d.set i b).getD i false=b:=by simp[List.getD,hi]
theorem getD_set_ne (d:List Bool) {i j:Nat} (b:Bool) (h:i≠j):(d.set i b).getD j false=d.getD j false:=by
 simp only[List.getD];rw[List.getElem?_set_ne h]
def dM (n:Nat) (d:List Bool) (ps:List Pt) (a:List Bool):List Bool:=wrL n d ps (pt (cA n d ps) a)
theorem gU (n:Nat) (d:List Bool) (ps:List Pt) (a:List Bool):(dM n d ps a).length=d.length:=dS _ _ _ _
theorem mj (n:Nat) (d:List Bool) (ps:List Pt):(cA n d ps).length=ps.length:=by unfold cA;simp
theorem Bi {n:Nat} {d:List Bool} {ps:List Pt} {i:Nat} (hi:i<ps.length):(cA n d ps).getD i false=d.getD (bu n (ps.getD i (0,0))) false:=by
 unfold cA;simp[List.getD,hi]
section
variable {n : Nat} {d : List Bool} {ps : List Pt} (hi : ∀ p ∈ ps, bu n p < d.length) (hn : ps.Pairwise fun p q => bu n p ≠ bu n q)
include hi hn
theorem yS {a:List Bool} (b:a.length=ps.length):cA n (dM n d ps a) ps=pt (cA n d ps) a:=by
 have e:=mj n d ps;exact ud n d ps _ (by rw[uS oO,e]) hi hn
theorem yP {a:List Bool} (f:a.length=ps.length) {j:Nat} (b:j<ps.length):(dM n d ps a).getD (bu n (ps.getD j (0,0))) false=xor (d.getD (bu n (ps.getD j (0,0))) false) (a.getD j false):=by
 have e:(cA n (dM n d ps a) ps).getD j false=(pt (cA n d ps) a).getD j false:=by rw[yS hi hn f]
 rw[Bi b,pN (by rw[mj];omega),Bi b]at e;exact e
omit hi hn in
theorem sa (t:List Bool) {i:Nat} (h:∀p∈ps,bu n p≠i):(dM n d ps t).getD i false=d.getD i false:=kb n d ps _ i h
omit hn in
theorem GN:dM n d ps (List.replicate ps.length false)=d:=by
 have e:pt (cA n d ps) (List.replicate ps.length false)=cA n d ps:=by
  refine MZ (by rw[uS (by rw[mj];simp)]) λi _=>?_;rw[pN (by rw[mj];simp)];have:(List.replicate ps.length false).getD i false=false:=by simp only[List.getD,List.getElem?_replicate];split<;>rfl
  rw[this,Bool.xor_false]
 unfold dM;rw[e];exact wE n d ps _ hi rfl
theorem GY {b:List Bool} (f:b.length=ps.length) {k:Nat} (hk:k<ps.length):(dM n d ps b).set (bu n (ps.getD k (0,0))) (!(dM n d ps b).getD (bu n (ps.getD k (0,0))) false)=dM n d ps (b.set k (!b.getD k false)):=by
 have s:∀j,j<ps.length->ps.getD j (0,0)∈ps:=λj a=>by simp only[List.getD,List.getElem?_eq_getElem a,Option.getD_some];exact List.getElem_mem a
 have v:=hi _ (s k hk);have z:∀i j,i<ps.length->j<ps.length->i≠j->bu n (ps.getD i (0,0))≠bu n (ps.getD j (0,0)):=λi j h1 g t=>by
  have o:=List.pairwise_iff_getElem.1 hn;have e1:ps.getD i (0,0)=ps[i]:=by simp[List.getD,h1]
  have e2:ps.getD j (0,0)=ps[j]:=by simp[List.getD,g]
  rw[e1,e2];rcases Nat.lt_or_gt_of_ne t with h|h
  ·exact o i j h1 g h
  ·exact(o j i g h1 h).symm
 have w:(b.set k (!b.getD k false)).length=ps.length:=by rw[List.length_set];exact f
 refine MZ (by rw[List.length_set,gU,gU]) λi x=>?_;rw[List.length_set,gU]at x;by_cases a:∃j,j<ps.length/\bu n (ps.getD j (0,0))=i
 ·obtain⟨j,a,rfl⟩:=a;rw[yP hi hn w a];by_cases m:j=k
  ·subst m;rw[nP _ (by rw[gU];exact v),yP hi hn f a,nP _ oO];cases d.getD (bu n (ps.getD j (0,0))) false<;>cases b.getD j false<;>rfl
  ·rw[getD_set_ne _ _ (z k j hk a (Ne.symm m)),yP hi hn f a,getD_set_ne _ _ (Ne.symm m)]
 ·have l:∀p∈ps,bu n p≠i:=λp u e=>by
   obtain⟨j,r,rfl⟩:=List.getElem_of_mem u;exact a ⟨j,r,by rw[<-e];simp[List.getD,r]⟩
  have y:bu n (ps.getD k (0,0))≠i:=l _ (s k hk);rw[getD_set_ne _ _ y,sa _ l,sa _ l]
end
theorem uO (a b:List Bool) (x y:Nat):∀s,numF a x s=numF b y s↔∀j,j<s->a.getD (x+j) false=b.getD (y+j) false
 |0=>⟨λ_ j h=>absurd h oO,λ_=>rfl⟩
 |s+1=>by
  have e:=uO a b x y s;show 2* numF a x s+_=2* numF b y s+_↔_;constructor
  ·intro h;have h1:numF a x s=numF b y s:=by revert h;split<;>split<;>intro h<;>omega
   rw[h1]at h;intro j f;rcases Nat.lt_or_ge j s with g|g
   ·exact e.1 h1 j g
   ·obtain rfl:j=s:=oO
    revert h
    cases a.getD (x+j) false<;>cases b.getD (y+j) false<;>simp<;>omega
  ·intro h;rw[e.2 λj f=>h j oO,h s oO]
def yj (a:List Bool) (off s i:Nat):Bool:=(List.range s).any λj=>a.getD (off+i* s+j) false
def jy (a:List Bool) (off s m:Nat):List Nat:=(List.range m).filter (yj a off s)
theorem J6 (a:List Bool) (off s m:Nat):(jy a off s (m+1)).length=(jy a off s m).length+(if yj a off s m=true then 1 else 0):=by
 unfold jy;rw[List.range_succ,List.filter_append,List.length_append];congr 1;rw[List.filter_cons];cases yj a off s m<;>rfl
theorem I6 {a b:List Bool} (h:a.length=b.length) (off s m:Nat):dT (bg ((pt a b).drop off) s m) (bg (a.drop off) s m)=jy b off s m:=by
 unfold dT jy;rw[cV];apply List.filter_congr;intro i hi;rw[List.mem_range]at hi;have e1:(bg ((pt a b).drop off) s m).getD i 0=numF (pt a b) (off+i* s) s:=by
  unfold bg;rw[bp _ _ _ hi,nL]
 have e2:(bg (a.drop off) s m).getD i 0=numF a (off+i* s) s:=by
  unfold bg;rw[bp _ _ _ hi,nL]
 rw[e1,e2,Bool.eq_iff_iff,decide_eq_true_eq,Ne,uO];unfold yj;rw[List.any_eq_true];constructor
 ·intro g;by_cases e:∃x,x∈List.range s/\b.getD (off+i* s+x) false=true
  ·exact e
  ·exfalso;apply g;intro j f;rw[pN h];have:b.getD (off+i* s+j) false=false:=by
    cases hb:b.getD (off+i* s+j) false with
    |false=>rfl
    |true=>exact absurd ⟨j,List.mem_range.2 f,hb⟩ e
   rw[this,Bool.xor_false]
 ·rintro⟨x,e,hb⟩ k;have:=k x (List.mem_range.1 e);rw[pN h,hb]at this
  revert this
  cases a.getD (off+i* s+x) false<;>decide
section
variable {L : Nat} {c : Bool} (h1 : 1 ≤ L) (hL : L ≤ 32) (hc : c = true → L ≤ 4) {ws : List Nat} (hw : ao (2 ^ aq L) ws) (hk : ws.length ≤ aD L c)
include h1 hL hw hk
theorem Mb {d:List Bool} (b:d.length=aj L c* aj L c):(∀p∈aZ L c,bu (aj L c) p<d.length)/\(aZ L c).Pairwise λp q=>bu (aj L c) p≠bu (aj L c) q:=by
 refine⟨λp a=>?_,mM (rT hL) λp a=>(fL hL a).1⟩;rw[b];exact iD (fL hL a).1 (fL hL a).2
theorem FB (b:List Bool):uy L c ws.length (dM (aj L c) (eB L c ws) (aZ L c) b):=by
 have h:=Fa (c:=c) h1 hL hw hk;have hs:=jg (c:=c) h1 hL
 have g:∀q:Pt,q.1<aj L c->q∉aZ L c->(dM (aj L c) (eB L c ws) (aZ L c) b).getD (bu (aj L c) q) false=(eB L c ws).getD (bu (aj L c) q) false:=λq k l=>
  sa _ λp a e=>l (pn (fL hL a).1 k e▸a)
 have i:∀ps:List Pt,(∀p∈ps,p∈bG (aQ L c) (aN c)\/p∈ba (aQ L c) (aN c))->cA (aj L c) (dM (aj L c) (eB L c ws) (aZ L c) b) ps=cA (aj L c) (eB L c ws) ps:=λps m=>
  List.map_congr_left λp a=>by
   have:=Cv h1 hL (m p a);exact g p this.1 this.2.2.1
 refine⟨by rw[gU];exact h.ln,λp j o a=>?_,?_,?_,?_⟩
 ·rw[g p j (λf=>by have:=pg hL f;omega)];exact h.NK p j o a
 ·rw[i _ λp a=> .inl a];exact h.Ks
 ·rw[i _ λp a=> .inr a];exact h.KO
 ·rw[<-h.msg];refine List.map_congr_left λp a=>?_;have r:=mI (c:=c) (C:=aQ L c) oO a
  exact g p oO λf=>by
   have s:=yn (c:=c) (C:=aQ L c) oO a;have t:=pg hL f;omega
theorem Fi {a:List Bool} (b:a.length=(aZ L c).length):dT (lF (aj L c) L c (dM (aj L c) (eB L c ws) (aZ L c) a)) (mD L c ws)=jy a ((aZ L c).length-aD L c* aq L) (aq L) (aD L c):=by
 obtain⟨e,f⟩:=Mb h1 hL hw hk (d:=eB L c ws) (kD _ _ _ _);rw[<-FD h1 hL hw hk];unfold lF;rw[yS e f b];exact I6 (by rw[mj];exact b.symm) _ _ _
end
theorem Kd {l:List UInt8} {C:Nat->Nat->Nat} (hl:l.length<=60) (u:1<=(bE l).length) (f:cj (bA l) C) {L:Nat} {c:Bool} (h1:1<=L) (hL:L<=32) (hc:c=true->L<=4) {ws:List Nat} (i:ws=aI (bE l) (aq L)) (k:ws.length<=gK c) (hk:ws.length<aD L c) {a:List Bool} (m:a.length=(aZ L c).length)
 (hb:2* (jy a ((aZ L c).length-aD L c* aq L) (aq L) (aD L c)).length<=aD L c-ws.length):
 fM (aj L c) (aj L c) (dM (aj L c) (eB L c ws) (aZ L c) a)=(l,((jy a ((aZ L c).length-aD L c* aq L) (aq L) (aD L c)).length:Int),0):=by
 obtain⟨b,s,o,t⟩:=mY hl f L i;have r:1<=ws.length:=by
  rcases Nat.eq_zero_or_pos ws.length with h|h
  ·rw[h]at o;omega
  ·exact h
 have e:ws.length<=aD L c:=oO;have j:=Fi h1 hL b e m;have g:=tZ (c:=c) b;rw[(FB h1 hL b e a).dec h1 hL hc r k hk,I8 hl f h1 hL hc i hk ⟨g.lt,?_,g.cw,?_⟩,j]
 ·rw[mV b e];exact(cV _ _ _).symm
 ·rw[j];exact hb
theorem uo:(Tryz.prog.info? 91).map (·.zero)=some (some (.agg #[.int .i64 0,.int .i64 0,.int .i64 0,.int .i64 0,.int .i64 0])):=oK
theorem AI:(Tryz.prog.info? 91).map (·.size)=some 5:=oK
theorem yk:(Tryz.prog.info? 71).map (·.zero)=some (some (.agg #[.int .i64 0,.bool false,.int .i64 0,.int .i64 0])):=oK
theorem wK:(Tryz.prog.info? 71).map (·.size)=some 4:=oK
theorem Ig:Tryz.prog.underlying 40=some (.slice (Tryz.prog.elem 40)):=oK
theorem KA (w:World):(sizeOf (Tryz.prog.elem 40)).run Tryz.prog w= .ok 2 w:=oK
theorem C9 {a:Act} {d:Oper} {W:World} {x i:Operand} (e:d.op= .slice 40 x (some i) none none) {A:Option Addr} {n c:Nat} (f:a.eval x= .slice A n c) (k:Nat) (g:a.eval i= .int .i64 (k:Int)) (m:k<=n) {v:Value} (j:sliced A k n c 2=v):
 (execOp a.eval d).run Tryz.prog W= .ok (.value v) W:=by
 subst j;have b:=run_slice_l (P:=Tryz.prog) W 40 A n c Ig .i64 (k:Int) oO oO;rw[KA]at b;simp only[Result.andThen_ok,Int.toNat_natCast]at b;have l:=run_sliceAt_slice (P:=Tryz.prog) W 40 (.slice A n c) (some (.int .i64 (k:Int))) none none Ig;unfold execOp;simp only[e,f,g,Option.map_some,Option.map_none,Sem.run_bind,Sem.run_pure,Result.andThen_ok,l,b]
theorem fN.from {B:Nat} {w:World} {A:Option Addr} {n c:Nat} {xs:List Pt} (h:fN B w (.slice A n c) xs) (k:Nat) (u:k<=n):fN B w (sliced A k n c 2) (xs.drop k):=by
 obtain⟨⟨d,v,e,x,y,p⟩,f⟩:=h;injection e with e1 e2 e3;subst e1 e2 e3;by_cases o:c=k
 ·have q:xs.drop k=[]:=List.drop_eq_nil_of_le oO;rw[q];unfold sliced;rw[if_pos o];have r:xs.length-k=0:=oO;rw[r];exact⟨⟨A,c-k,rfl,Nat.zero_le _,by omega,λh=>absurd h oS⟩,λd m s i e1 e2=>by injection e1 with e1 _ _;exact f A xs.length c i rfl (e1.trans e2)⟩
 ·unfold sliced;rw[if_neg o];refine⟨⟨_,c-k,by rw[List.length_drop],by rw[List.length_drop];omega,by omega,λhn=>?_⟩,λd m s i e1 e2=>?_⟩
  ·rw[List.length_drop]at hn;obtain⟨g,a,e,hg,hc⟩:=p oO;refine⟨g,a+k* 2,by rw[e,Option.map_some,add_plain],hg,λj t=>?_⟩;rw[List.length_drop]at t;have b:=hc (k+j) oO;have e6:(xs.drop k).getD j (0,0)=xs.getD (k+j) (0,0):=by simp[List.getD]
   rw[e6,show a+k* 2+j* 2=a+(k+j)* 2 from by omega];exact b
  ·injection e1 with e1 _ _;rw[e2]at e1;cases A with
   |none=>cases e1
   |some l=>
    have b:=f (some l) xs.length c l rfl rfl;simp only[Option.map_some]at e1;injection e1 with e1;rw[<-e1,aJ];exact b
theorem SR.Nu {α:Type} {f:α->Value} {d:α} {w W:World} {db:Nat} {A:Option Addr} {n c:Nat} {l:List α} (h:SR f d w A n c l) (b:aB db w W) (g:∀a,A=some a->a.block≠db):SR f d W A n c l:=by
 refine⟨h.hn,h.hc,h.hm,λi=>?_⟩;obtain⟨a,e,hl,hc⟩:=h.rd i;exact⟨a,e,Nat.lt_of_lt_of_le hl b.sz,λj k=>(b.cell (by rw[aJ];exact hl) (by rw[aJ];exact g a e)).trans (hc j k)⟩
abbrev pM (L:Nat) (c:Bool) (k n db N:Nat):Value:= .agg #[.int .i64 (L:Int),.bool c,.int .i64 (k:Int),.int .i64 (n:Int),.int .i64 (n:Int),.slice (some ⟨db,0,none⟩) N N]
abbrev aY:Array Value:=#[.int .i64 0,.bool false,.int .i64 0,.int .i64 0,.int .i64 0,.slice none 0 0]
def Nt (d:World) (L:Nat) (c:Bool) (z e S P par:Nat) (A:Option Addr) (m f:Nat) (a a':Act) (W:World):Prop:=∃b,a'=(((((((((((((a.put (some 15) (bD L c)).put (some 17) (bD L c)).put (some 19) (.slice A m f)).put (some 20) (.int .i64 m)).put (some 16) (.int .i64 z)).put (some 18) (.int .i64 e)).put (some 21) (.int .i64 par)).put (some 22) (.tuple #[dw 2 S P par 1,.int .i64 0])).put (some 14) (.tuple #[dw 2 S P par 1,.int .i64 0])).put (some 23) (dw 2 S P par 1)).put (some 24) (.int .i64 0)).put (some 6) (.pointer (some ⟨b,0,none⟩))).put (some 7) (.int .i64 0))/\aa W b (gM 2 S P par 1).toArray 91/\af d W/\d.heap.size<=b
def Ns (d:World) (f L:Nat) (c:Bool) (n C e:Nat) (a a':Act) (W:World):Prop:=∃b,a'=((((((a.put (some 64) (bD L c)).put (some 66) (.pointer (some ⟨f,1,none⟩))).put (some 67) (.bool c)).put (some 65) (.int .i64 n)).put (some 68) (cY n c C e)).put (some 11) (.pointer (some ⟨b,0,none⟩)))/\aa W b (bZ n c C e).toList.toArray 71/\af d W/\d.heap.size<=b
theorem xj (L:Nat) (c:Bool) (f:List Nat) (A:Option Addr) (m bf:Nat) (w:World) (x:1<=L) (D:L<=32) (hc:c=true->L<=4) (bi:ao (2^aq L) f) (f6:1<=f.length) (f7:f.length<=gK c) (u:f.length<aD L c) (hs:SR vN 0 w A m bf f):
 Calls Tryz.prog 35 #[bD L c,.slice A m bf] w λe w'=>∃db N,N=aj L c* aj L c/\e= .returned (.tuple #[pM L c m (aj L c) db N,.int .i64 0])/\bh w' db (eB L c f)/\w.heap.size<=db/\Below w.heap.size w w':=by
 have ck:m=f.length:=hs.hn;have jv:RD w A (zl f):=by
  obtain⟨ez,eA,M,e,-,-,dp⟩:=SG.rd hs.sg;injection e with e1 e2 e3;rw[e1];exact dp
 have nz:=tK (c:=c) x D hc;have n0:=eQ L;have n5:=jg (c:=c) x D;have bt:=j6 L c x D;have r2:=ER c;have us:=pc (c:=c) D;have e0:=tZ (c:=c) bi;have n6:=mV (c:=c) bi oO;have j0:=ve (c:=c) bi oO;have n7:=oc L c;have n8:=nf L c;have n9:=room_le (c:=c) D;have j2:fI 2 (2^aq L) (jS (aq L)) (aD L c-f.length) 1:=FW (kS L) oO oO;have r3:f.length+(aD L c-f.length)=aD L c:=oO;have d0:Hid (∀W,Calls Tryz.prog 33 #[bD L c] W λe w'=>e= .returned (.int .i64 ((aq L:Nat):Int))/\Below W.heap.size W w'):=λW=>kR L c W D;have d1:Hid (∀W,Calls Tryz.prog 44 #[bD L c] W λe w'=>e= .returned (.int .i64 ((aD L c:Nat):Int))/\Below W.heap.size W w'):=λW=>nB L c W D;have f8:Hid (∀W,Calls Tryz.prog 36 #[bD L c] W λe w'=>e= .returned (.int .i64 ((aj L c:Nat):Int))/\Below W.heap.size W w'):=λW=>mJ L c W D;have d2:Hid (∀W,Calls Tryz.prog 39 #[.int .i64 ((aj L c:Nat):Int),.bool c] W λe w'=>e= .returned (cY (aj L c) c (aQ L c) (aN c))/\Below W.heap.size W w'):=λW=>jN (aj L c) c W oO oO;have ob:Hid (∀W,Calls Tryz.prog 83 #[cY (aj L c) c (aQ L c) (aN c)] W λe w'=>∃db N,N=aj L c* aj L c/\e= .returned (FH (aj L c) (aj L c) db N)/\W.heap.size<=db/\bh w' db (jX (aj L c) (aQ L c) c)/\Below W.heap.size W w'):=λW=>ID (aj L c) (aQ L c) (aN c) c W rfl oO oO oO;have oi:Hid (∀W,Calls Tryz.prog 46 #[bD L c] W λe w'=>∃v,e= .returned v/\fN W.heap.size w' v (aZ L c)/\Below W.heap.size W w'):=λW=>we L c W D;have oj:Hid (∀W,Calls Tryz.prog 43 #[cY (aj L c) c (aQ L c) (aN c)] W λe w'=>∃v,e= .returned v/\fN W.heap.size w' v (cC (aQ L c) c)/\Below W.heap.size W w'):=λW=>oR (aj L c) (aQ L c) c W oO oO;have ol:Hid (∀W,Calls Tryz.prog 23 #[.int .i64 L,.int .i64 m,.bool c] W (RT vB false W (jW L c f.length,0))):=λW=>by rw[ck];exact Kx L f.length c W x D hc f6 f7
 have bv:Hid (∀W,Calls Tryz.prog 61 #[.int .i64 ((aq L:Nat):Int),.int .i64 ((aD L c-f.length:Nat):Int)] W λe w'=>e= .returned (.tuple #[dw 2 (2^aq L) (jS (aq L)) (aD L c-f.length) 1,.int .i64 0])/\Below W.heap.size W w'):=λW=>Ct (aq L) (aD L c-f.length) W (kS L) oO oO;have f9:Hid (∀W,RD W A (zl f)->Calls Tryz.prog 62 #[dw 2 (2^aq L) (jS (aq L)) (aD L c-f.length) 1,.slice A m bf] W (kY W (zl (mD L c f),0))):=λW dp=>uM 2 (2^aq L) (jS (aq L)) (aD L c-f.length) 1 f m A bf W j2 ck bi oO oO dp;have oo:Hid (∀W A m M,SR vN 0 W A m M (mD L c f)->Calls Tryz.prog 63 #[.slice A m M,.int .i64 ((aq L:Nat):Int)] W (RT vB false W (lR L c f,0))):=by
  show∀W A m M,_->_;intro W A m M gb;have tp:=gb.hn;exact nQ A m M (aq L) _ W oO oO oO e0.lt gb
 have kc:∀p∈aZ L c,bu (aj L c) p<aj L c* aj L c:=λp O=>iD (fL D O).1 (fL D O).2;have kd:∀p∈cC (aQ L c) c,bu (aj L c) p<aj L c* aj L c:=λp O=>by have:=mI (c:=c) (C:=aQ L c) oO O;exact iD oO oO
 have ks:Hid (∀p∈(aZ L c).drop ((aZ L c).length-(lR L c f).length),bu (aj L c) p<(jX (aj L c) (aQ L c) c).length):=by show∀p∈_,_;intro p O;rw[kF];exact kc p (List.mem_of_mem_drop O)
 have r4:Hid (∀l:List Bool,l.length=aj L c* aj L c->∀p∈cC (aQ L c) c,bu (aj L c) p<l.length):=by show∀l:List Bool,_;intro l hl p O;rw[hl];exact kd p O
 have gc:Hid (wrL (aj L c) (wrL (aj L c) (jX (aj L c) (aQ L c) c) ((aZ L c).drop ((aZ L c).length-(lR L c f).length)) (lR L c f)) (cC (aQ L c) c) (jW L c f.length)=eB L c f):=rfl;have ge:=Lib.hid (kF (aj L c) (aQ L c) c);have gg:=Lib.hid (λd ps ml=>dS (aj L c) d ps ml);have gi:Hid (((aZ L c).drop ((aZ L c).length-(lR L c f).length)).length=(lR L c f).length):=by show _=_;rw[List.length_drop];omega
 have op:Hid ((cC (aQ L c) c).length=(jW L c f.length).length):=by show _=_;rw[pW,ky]
 have r5:Hid (1<=(jW L c f.length).length):=by show _<=_;rw[pW];split<;>omega
 have kw:1<=(lR L c f).length:=by rw[j0];exact Nat.mul_pos oO oO
 have sb:=Lib.hid kw;have go:(lR L c f).length<=(aZ L c).length:=oO;have sd:(aZ L c).length<=20000:=oO;have gp:aj L c<=161:=bt.2;obtain⟨par,kz⟩:∃par,par=aD L c-f.length:=⟨_,rfl⟩;have tb:par+f.length=aD L c:=oO;rw[<-kz]at bv f9;clear e0 n6 j0 n7 n8 n9 j2 r3 nz n5 r2 bi f6 f7 kc kd kz kw u bt x D hc;generalize eB L c f=dl at*;generalize mD L c f=tq at*;generalize lR L c f=K at*;generalize jW L c f.length=msg at*;generalize aZ L c=X at*;generalize os:jX (aj L c) (aQ L c) c=ab at*;clear os;generalize cC (aQ L c) c=em at*;generalize ot:2^aq L=S at*;generalize ov:jS (aq L)=P at*;clear ot ov;generalize aq L=z at*;generalize aD L c=e9 at*;generalize aj L c=n at*;generalize aQ L c=C at*;generalize aN c=y at*;have ut:z<=12:=oO;have vc:(e9:Int)-(m:Int)=(par:Int):=oO;have vq:par<=4000:=oO;have vr:IntKind.i64.wrap (par:Int)=(par:Int):=aF _ oO oO;have t8:m<=4000:=oO;clear n0 tb;obtain⟨B,bx⟩:∃B,B=w.heap.size:=⟨_,rfl⟩;obtain⟨j,co⟩:∃j,j=w.heap.size+1:=⟨_,rfl⟩;obtain⟨a,a3⟩:∃a,a=(w.alloc (bC L c)).alloc (.cells aY 30):=⟨_,rfl⟩;have gq:Hid (Below w.heap.size w a):=by show Below _ _ _;rw[a3];exact ah (ax _ _) _
 have d3:Hid (aa a B #[.int .i64 L,.bool c] 60):=by
  show aa _ _ _ _;rw[a3];have x:aa (w.alloc (bC L c)) B #[.int .i64 L,.bool c] 60:=aa.new _ _ _ _ bx;exact x.below (ax _ _)
 have o0:Hid (aa a j aY 30):=by show aa _ _ _ _;rw[a3];exact aa.new _ _ _ _ (by simp[co])
 have d4:Hid (w.heap.size<=j/\B<j/\j<a.heap.size/\w.heap.size<=a.heap.size):=by show _/\_;rw[a3,co,bx];simp;omega
 have s:Hid (∀W,af a W->W.cell? ⟨B,0,none⟩=some (.int .i64 (L:Int))/\W.cell? ⟨B,1,none⟩=some (.bool c)):=λW Q=>⟨(d3.out.below Q).cell 0 _ rfl,(d3.out.below Q).cell 1 _ rfl⟩;have o1:=Lib.hid jv;clear jv hs;have t9:=Lib.hid ck;clear ck;go_enter Tryz.func35,Tryz.ntmps35;go_wp2;simp only[<-co,<-a3];simp only[<-bx];clear a3 co;have ub:=Lib.hid bx;clear bx;have bz:Hid (Below a.heap.size a a.drew):=ai (Below.refl _ _);refine ja (S:=af a) (.br [(false,0),(false,2),(false,4),(false,5)] [1,11] (λk=>if k=1 then .br [] [3,11] (λk=>if k=3 then .br [(false,6)] [7,11] (λk=>if k=7 then .last [(false,8),(false,9),(false,10),(true,11),(true,12),(false,13)]else .last [(true,7),(false,8),(false,9),(false,10),(true,12),(false,13)])else .last [(true,3),(false,6),(true,7),(false,8),(false,9),(false,10),(true,12),(false,13)])else .last [(true,1),(true,3),(false,6),(true,7),(false,8),(false,9),(false,10),(true,12),(false,13)])) (Nt a L c z e9 S P par A m bf) oK oK bz.out ?_ ?_
 ·simp only[wpTree,attachW,List.getElem?_cons_zero,List.getElem?_cons_succ]
  repeat refine zO s.out ?_
  refine ag ?_;intro k u;simp only[List.mem_cons,List.not_mem_nil,or_false]at u;rcases u with rfl|rfl
  ·simp only[reduceIte,Nat.reduceEqDiff,wpTree,attachW,List.getElem?_cons_zero,List.getElem?_cons_succ];refine zZ ?_;refine(d0.out _).mono ?_;rintro e ds ⟨rfl,hb⟩;have Y:Hid (af a ds):=ae bz.out hb;clear hb;refine⟨_,rfl,Y.out,jO ?_⟩;refine ag ?_
   (try simp only[reduceIte,Nat.reduceEqDiff,wpTree,attachW,List.getElem?_cons_zero,List.getElem?_cons_succ])
   refine ag ?_;intro k u;simp only[List.mem_cons,List.not_mem_nil,or_false]at u;rcases u with rfl|rfl
   ·simp only[reduceIte,Nat.reduceEqDiff,wpTree,attachW,List.getElem?_cons_zero,List.getElem?_cons_succ];refine zZ ?_;refine(d1.out _).mono ?_;rintro e dv ⟨rfl,hb⟩;have Z:Hid (af a dv):=ae Y.out hb;clear hb;refine⟨_,rfl,Z.out,jO ?_⟩;refine ag ?_
    (try simp only[reduceIte,Nat.reduceEqDiff,wpTree,attachW,List.getElem?_cons_zero,List.getElem?_cons_succ])
    repeat refine zO s.out ?_
    refine ag ?_;intro k u;simp only[List.mem_cons,List.not_mem_nil,or_false]at u;rcases u with rfl|rfl
    ·simp only[reduceIte,Nat.reduceEqDiff,wpTree,attachW,List.getElem?_cons_zero,List.getElem?_cons_succ];refine zZ ?_;refine(bv.out _).mono ?_;rintro e dx ⟨rfl,hb⟩;have ad:Hid (af a dx):=ae Z.out hb;clear hb;refine⟨_,rfl,ad.out,jO ?_⟩;refine ag ?_
     (try simp only[reduceIte,Nat.reduceEqDiff,wpTree,attachW,List.getElem?_cons_zero,List.getElem?_cons_succ])
     repeat refine zO s.out ?_
     obtain⟨dy,cp⟩:∃g,g=dx.alloc (.cells #[.int .i64 0,.int .i64 0,.int .i64 0,.int .i64 0,.int .i64 0] 91):=⟨_,rfl⟩;obtain⟨a0,al⟩:∃b,b=dx.heap.size:=⟨_,rfl⟩;have cq:Hid (af a dy):=by show Below _ _ _;rw[cp];exact ah ad.out _
     have fb:Hid (aa dy a0 #[.int .i64 0,.int .i64 0,.int .i64 0,.int .i64 0,.int .i64 0] 91):=by show aa _ _ _ _;rw[cp,al];exact aa.new _ _ _ _ rfl
     have fc:Hid (a.heap.size<=a0):=by show _<=_;rw[al];exact ad.out.size
     refine' ep 91 rfl rfl _ uo (ah ad.out _) ?_;simp only[yQ,yU,yX,yY];rw[<-cp,<-al];clear cp al;obtain⟨fd,b1⟩:∃g,g=dy.setRow a0 (gM 2 S P par 1).toArray:=⟨_,rfl⟩;have gs:Hid (af a fd):=by show Below _ _ _;rw[b1];exact below_setRow cq.out fc.out _
     have mm:Hid (aa fd a0 (gM 2 S P par 1).toArray 91):=by show aa _ _ _ _;rw[b1];exact aa.set fb.out _
     refine fi 91 rfl _ _ rfl 91 a0 #[.int .i64 0,.int .i64 0,.int .i64 0,.int .i64 0,.int .i64 0] (gM 2 S P par 1) fb.out rfl rfl AI rfl (by intro v r;simp only[List.mem_cons,List.not_mem_nil,or_false]at r;rcases r with rfl|rfl|rfl|rfl|rfl<;>rfl) (by rw[<-b1];exact gs.out) ?_;rw[<-b1];simp only[yQ,yU,yX,yY];clear b1
     repeat refine zO s.out ?_
     refine ag ?_;refine⟨a0,?_,mm.out,gs.out,fc.out⟩;simp only[yQ,yU,yX,yY]
    ·simp only[reduceIte,Nat.reduceEqDiff,wpTree,attachW,List.getElem?_cons_zero,List.getElem?_cons_succ];obtain⟨fe,cs⟩:∃g,g=dv.alloc (.cells #[.int .i64 0,.int .i64 0,.int .i64 0,.int .i64 0,.int .i64 0] 91):=⟨_,rfl⟩;obtain⟨a1,cv⟩:∃b,b=dv.heap.size:=⟨_,rfl⟩;have o2:Hid (af a fe):=by show Below _ _ _;rw[cs];exact ah Z.out _
     have mo:Hid (aa fe a1 #[.int .i64 0,.int .i64 0,.int .i64 0,.int .i64 0,.int .i64 0] 91):=by show aa _ _ _ _;rw[cs,cv];exact aa.new _ _ _ _ rfl
     have fl:Hid (a.heap.size<=a1):=by show _<=_;rw[cv];exact Z.out.size
     refine' ep 91 rfl rfl _ uo (ah Z.out _) ?_;simp only[yQ,yU,yX,yY];rw[<-cs,<-cv];clear cs cv;refine ag ?_
     (try simp only[reduceIte,Nat.reduceEqDiff,wpTree,attachW,List.getElem?_cons_zero,List.getElem?_cons_succ])
     refine zZ ?_;refine(bv.out _).mono ?_;rintro e fn ⟨rfl,hb⟩;have gt:Hid (af a fn):=ae o2.out hb;have fo:=Lib.hid (mo.out.below hb);clear hb;refine⟨_,rfl,gt.out,jO ?_⟩
     repeat refine zO s.out ?_
     obtain⟨fr,b2⟩:∃g,g=fn.setRow a1 (gM 2 S P par 1).toArray:=⟨_,rfl⟩;have gv:Hid (af a fr):=by show Below _ _ _;rw[b2];exact below_setRow gt.out fl.out _
     have mp:Hid (aa fr a1 (gM 2 S P par 1).toArray 91):=by show aa _ _ _ _;rw[b2];exact aa.set fo.out _
     refine fi 91 rfl _ _ rfl 91 a1 #[.int .i64 0,.int .i64 0,.int .i64 0,.int .i64 0,.int .i64 0] (gM 2 S P par 1) fo.out rfl rfl AI rfl (by intro v r;simp only[List.mem_cons,List.not_mem_nil,or_false]at r;rcases r with rfl|rfl|rfl|rfl|rfl<;>rfl) (by rw[<-b2];exact gv.out) ?_;rw[<-b2];simp only[yQ,yU,yX,yY];clear b2
     repeat refine zO s.out ?_
     refine ag ?_;refine⟨a1,?_,mp.out,gv.out,fl.out⟩;simp only[yQ,yU,yX,yY]
   ·simp only[reduceIte,Nat.reduceEqDiff,wpTree,attachW,List.getElem?_cons_zero,List.getElem?_cons_succ];obtain⟨fv,cx⟩:∃g,g=ds.alloc (.cells #[.int .i64 0,.int .i64 0,.int .i64 0,.int .i64 0,.int .i64 0] 91):=⟨_,rfl⟩;obtain⟨a2,cN⟩:∃b,b=ds.heap.size:=⟨_,rfl⟩;have o3:Hid (af a fv):=by show Below _ _ _;rw[cx];exact ah Y.out _
    have ms:Hid (aa fv a2 #[.int .i64 0,.int .i64 0,.int .i64 0,.int .i64 0,.int .i64 0] 91):=by show aa _ _ _ _;rw[cx,cN];exact aa.new _ _ _ _ rfl
    have fx:Hid (a.heap.size<=a2):=by show _<=_;rw[cN];exact Y.out.size
    refine' ep 91 rfl rfl _ uo (ah Y.out _) ?_;simp only[yQ,yU,yX,yY];rw[<-cx,<-cN];clear cx cN;refine ag ?_
    (try simp only[reduceIte,Nat.reduceEqDiff,wpTree,attachW,List.getElem?_cons_zero,List.getElem?_cons_succ])
    refine zZ ?_;refine(d1.out _).mono ?_;rintro e pb ⟨rfl,hb⟩;have bd:Hid (af a pb):=ae o3.out hb;have pf:=Lib.hid (ms.out.below hb);clear hb;refine⟨_,rfl,bd.out,jO ?_⟩
    repeat refine zO s.out ?_
    refine zZ ?_;refine(bv.out _).mono ?_;rintro e gw ⟨rfl,hb⟩;have c2:Hid (af a gw):=ae bd.out hb;have gx:=Lib.hid (pf.out.below hb);clear hb;refine⟨_,rfl,c2.out,jO ?_⟩
    repeat refine zO s.out ?_
    obtain⟨gy,b5⟩:∃g,g=gw.setRow a2 (gM 2 S P par 1).toArray:=⟨_,rfl⟩;have c3:Hid (af a gy):=by show Below _ _ _;rw[b5];exact below_setRow c2.out fx.out _
    have pi:Hid (aa gy a2 (gM 2 S P par 1).toArray 91):=by show aa _ _ _ _;rw[b5];exact aa.set gx.out _
    refine fi 91 rfl _ _ rfl 91 a2 #[.int .i64 0,.int .i64 0,.int .i64 0,.int .i64 0,.int .i64 0] (gM 2 S P par 1) gx.out rfl rfl AI rfl (by intro v r;simp only[List.mem_cons,List.not_mem_nil,or_false]at r;rcases r with rfl|rfl|rfl|rfl|rfl<;>rfl) (by rw[<-b5];exact c3.out) ?_;rw[<-b5];simp only[yQ,yU,yX,yY];clear b5
    repeat refine zO s.out ?_
    refine ag ?_;refine⟨a2,?_,pi.out,c3.out,fx.out⟩;simp only[yQ,yU,yX,yY]
  ·simp only[reduceIte,Nat.reduceEqDiff,wpTree,attachW,List.getElem?_cons_zero,List.getElem?_cons_succ];obtain⟨gz,c4⟩:∃g,g=a.drew.alloc (.cells #[.int .i64 0,.int .i64 0,.int .i64 0,.int .i64 0,.int .i64 0] 91):=⟨_,rfl⟩;obtain⟨a4,ap⟩:∃b,b=a.drew.heap.size:=⟨_,rfl⟩;have b6:Hid (af a gz):=by show Below _ _ _;rw[c4];exact ah bz.out _
   have pk:Hid (aa gz a4 #[.int .i64 0,.int .i64 0,.int .i64 0,.int .i64 0,.int .i64 0] 91):=by show aa _ _ _ _;rw[c4,ap];exact aa.new _ _ _ _ rfl
   have gC:Hid (a.heap.size<=a4):=by show _<=_;rw[ap];exact bz.out.size
   refine' ep 91 rfl rfl _ uo (ah bz.out _) ?_;simp only[yQ,yU,yX,yY];rw[<-c4,<-ap];clear c4 ap;refine ag ?_
   (try simp only[reduceIte,Nat.reduceEqDiff,wpTree,attachW,List.getElem?_cons_zero,List.getElem?_cons_succ])
   refine zZ ?_;refine(d0.out _).mono ?_;rintro e pl ⟨rfl,hb⟩;have k1:Hid (af a pl):=ae b6.out hb;have pm:=Lib.hid (pk.out.below hb);clear hb;refine⟨_,rfl,k1.out,jO ?_⟩;refine zZ ?_;refine(d1.out _).mono ?_;rintro e pp ⟨rfl,hb⟩;have k2:Hid (af a pp):=ae k1.out hb;have pu:=Lib.hid (pm.out.below hb);clear hb;refine⟨_,rfl,k2.out,jO ?_⟩
   repeat refine zO s.out ?_
   refine zZ ?_;refine(bv.out _).mono ?_;rintro e gD ⟨rfl,hb⟩;have la:Hid (af a gD):=ae k2.out hb;have gN:=Lib.hid (pu.out.below hb);clear hb;refine⟨_,rfl,la.out,jO ?_⟩
   repeat refine zO s.out ?_
   obtain⟨g0,b7⟩:∃g,g=gD.setRow a4 (gM 2 S P par 1).toArray:=⟨_,rfl⟩;have lc:Hid (af a g0):=by show Below _ _ _;rw[b7];exact below_setRow la.out gC.out _
   have pv:Hid (aa g0 a4 (gM 2 S P par 1).toArray 91):=by show aa _ _ _ _;rw[b7];exact aa.set gN.out _
   refine fi 91 rfl _ _ rfl 91 a4 #[.int .i64 0,.int .i64 0,.int .i64 0,.int .i64 0,.int .i64 0] (gM 2 S P par 1) gN.out rfl rfl AI rfl (by intro v r;simp only[List.mem_cons,List.not_mem_nil,or_false]at r;rcases r with rfl|rfl|rfl|rfl|rfl<;>rfl) (by rw[<-b7];exact lc.out) ?_;rw[<-b7];simp only[yQ,yU,yX,yY];clear b7
   repeat refine zO s.out ?_
   refine ag ?_;refine⟨a4,?_,pv.out,lc.out,gC.out⟩;simp only[yQ,yU,yX,yY]
 rintro a' bo ⟨bq,rfl,g1,g2,p0⟩;have b3:=Lib.hid g1;have Y:=Lib.hid g2;clear g1 g2 p0;simp only[yQ,yU,yX,yY];have mt:bo.cell? ⟨bq,0,none⟩=some (.int .i64 2):=b3.out.cell 0 _ rfl;have m0:bo.cell? ⟨bq,1,none⟩=some (.int .i64 S):=b3.out.cell 1 _ rfl;have m1:bo.cell? ⟨bq,2,none⟩=some (.int .i64 P):=b3.out.cell 2 _ rfl;have m2:bo.cell? ⟨bq,3,none⟩=some (.int .i64 par):=b3.out.cell 3 _ rfl;have m3:bo.cell? ⟨bq,4,none⟩=some (.int .i64 1):=b3.out.cell 4 _ rfl
 go_wp2_with(first
  |(go_at_call 62;refine(f9.out _ (o1.out.below (ae gq.out Y.out))).mono ?_;rintro e m4 ⟨tr,rfl,g3,g4⟩;obtain⟨ts,n2,fz,rfl,-,p3,-⟩:=aA.K0 g3;have p4:=Lib.hid p3;have Z:Hid (Below a.heap.size a m4):=ae Y.out g4;clear g3 g4 mt m0 m1 m2 m3;obtain⟨T,U⟩:=s.out _ Z.out)
  |(go_at_call 33;refine(d0.out _).mono ?_;rintro e m5 ⟨rfl,d5⟩;have ad:Hid (Below a.heap.size a m5):=ae Z.out d5;have p5:=Lib.hid (p4.out.below d5);clear d5 T U;obtain⟨T,U⟩:=s.out _ ad.out)
  |(go_at_call 63;refine(oo.out _ _ _ _ p5.out).mono ?_;rintro e m6 ⟨v4,rfl,g5,al⟩;obtain⟨dz,n4,ce,rfl,p6⟩:=g5.parts;have qi:=Lib.hid p6;have cq:Hid (Below a.heap.size a m6):=ae ad.out al;clear g5 al T U;obtain⟨T,U⟩:=s.out _ cq.out)
  |(go_at_call 23;refine(ol.out _).mono ?_;rintro e i ⟨tv,rfl,g6,d6⟩;obtain⟨dE,f0,ch,rfl,qr⟩:=g6.parts;have g7:=Lib.hid qr;have d7:=Lib.hid (qi.out.below d6);have bd:Hid (Below a.heap.size a i):=ae cq.out d6;clear g6 d6 T U))
 have b4:Hid (Below i.heap.size i i.drew):=ai (Below.refl _ _);have qs:Hid (∀W,af i W->W.cell? ⟨B,0,none⟩=some (.int .i64 (L:Int))/\W.cell? ⟨B,1,none⟩=some (.bool c)):=λW Q=>s.out W (ae bd.out Q);refine ja (S:=af i) (.br [(false,0),(false,2),(false,3)] [1,5] (λk=>if k=1 then .br [] [4,5] (λk=>if k=4 then .last [(true,5),(true,6)]else .last [(true,4),(true,6)])else .last [(true,1),(true,4),(true,6)])) (Ns i B L c n C y) oK oK b4.out ?_ ?_
 ·simp only[wpTree,attachW,List.getElem?_cons_zero,List.getElem?_cons_succ]
  repeat refine zO qs.out ?_
  refine ag ?_;intro k u;simp only[List.mem_cons,List.not_mem_nil,or_false]at u;rcases u with rfl|rfl
  ·simp only[reduceIte,Nat.reduceEqDiff,wpTree,attachW,List.getElem?_cons_zero,List.getElem?_cons_succ];refine zZ ?_;refine(f8.out _).mono ?_;rintro e d8 ⟨rfl,hb⟩;have b8:Hid (af i d8):=ae b4.out hb;clear hb;refine⟨_,rfl,b8.out,jO ?_⟩;refine ag ?_
   (try simp only[reduceIte,Nat.reduceEqDiff,wpTree,attachW,List.getElem?_cons_zero,List.getElem?_cons_succ])
   refine ag ?_;intro k u;simp only[List.mem_cons,List.not_mem_nil,or_false]at u;rcases u with rfl|rfl
   ·simp only[reduceIte,Nat.reduceEqDiff,wpTree,attachW,List.getElem?_cons_zero,List.getElem?_cons_succ];refine zZ ?_;refine(d2.out _).mono ?_;rintro e d9 ⟨rfl,hb⟩;have c5:Hid (af i d9):=ae b8.out hb;clear hb;refine⟨_,rfl,c5.out,jO ?_⟩;refine ag ?_
    (try simp only[reduceIte,Nat.reduceEqDiff,wpTree,attachW,List.getElem?_cons_zero,List.getElem?_cons_succ])
    obtain⟨ea,c6⟩:∃g,g=d9.alloc (.cells #[.int .i64 0,.bool false,.int .i64 0,.int .i64 0] 71):=⟨_,rfl⟩;obtain⟨a5,c7⟩:∃b,b=d9.heap.size:=⟨_,rfl⟩;have sf:Hid (af i ea):=by show Below _ _ _;rw[c6];exact ah c5.out _
    have g8:Hid (aa ea a5 #[.int .i64 0,.bool false,.int .i64 0,.int .i64 0] 71):=by show aa _ _ _ _;rw[c6,c7];exact aa.new _ _ _ _ rfl
    have g9:Hid (i.heap.size<=a5):=by show _<=_;rw[c7];exact c5.out.size
    refine' ep 71 rfl rfl _ yk (ah c5.out _) ?_;simp only[yQ,yU,yX,yY];rw[<-c6,<-c7];clear c6 c7;obtain⟨ib,b9⟩:∃g,g=ea.setRow a5 ((bZ n c C y).toList).toArray:=⟨_,rfl⟩;have li:Hid (af i ib):=by show Below _ _ _;rw[b9];exact below_setRow sf.out g9.out _
    have q0:Hid (aa ib a5 ((bZ n c C y).toList).toArray 71):=by show aa _ _ _ _;rw[b9];exact aa.set g8.out _
    refine fi 71 rfl _ _ rfl 71 a5 #[.int .i64 0,.bool false,.int .i64 0,.int .i64 0] ((bZ n c C y).toList) g8.out rfl rfl wK rfl (by intro v r;simp only[List.mem_cons,List.not_mem_nil,or_false]at r;rcases r with rfl|rfl|rfl|rfl<;>rfl) (by rw[<-b9];exact li.out) ?_;rw[<-b9];simp only[yQ,yU,yX,yY];clear b9;refine ag ?_;refine⟨a5,?_,q0.out,li.out,g9.out⟩;simp only[yQ,yU,yX,yY]
   ·simp only[reduceIte,Nat.reduceEqDiff,wpTree,attachW,List.getElem?_cons_zero,List.getElem?_cons_succ];obtain⟨ih,c8⟩:∃g,g=d8.alloc (.cells #[.int .i64 0,.bool false,.int .i64 0,.int .i64 0] 71):=⟨_,rfl⟩;obtain⟨a6,c9⟩:∃b,b=d8.heap.size:=⟨_,rfl⟩;have sm:Hid (af i ih):=by show Below _ _ _;rw[c8];exact ah b8.out _
    have q1:Hid (aa ih a6 #[.int .i64 0,.bool false,.int .i64 0,.int .i64 0] 71):=by show aa _ _ _ _;rw[c8,c9];exact aa.new _ _ _ _ rfl
    have ii:Hid (i.heap.size<=a6):=by show _<=_;rw[c9];exact b8.out.size
    refine' ep 71 rfl rfl _ yk (ah b8.out _) ?_;simp only[yQ,yU,yX,yY];rw[<-c8,<-c9];clear c8 c9;refine ag ?_
    (try simp only[reduceIte,Nat.reduceEqDiff,wpTree,attachW,List.getElem?_cons_zero,List.getElem?_cons_succ])
    refine zZ ?_;refine(d2.out _).mono ?_;rintro e io ⟨rfl,hb⟩;have ll:Hid (af i io):=ae sm.out hb;have ip:=Lib.hid (q1.out.below hb);clear hb;refine⟨_,rfl,ll.out,jO ?_⟩;obtain⟨it,ca⟩:∃g,g=io.setRow a6 ((bZ n c C y).toList).toArray:=⟨_,rfl⟩;have lm:Hid (af i it):=by show Below _ _ _;rw[ca];exact below_setRow ll.out ii.out _
    have q2:Hid (aa it a6 ((bZ n c C y).toList).toArray 71):=by show aa _ _ _ _;rw[ca];exact aa.set ip.out _
    refine fi 71 rfl _ _ rfl 71 a6 #[.int .i64 0,.bool false,.int .i64 0,.int .i64 0] ((bZ n c C y).toList) ip.out rfl rfl wK rfl (by intro v r;simp only[List.mem_cons,List.not_mem_nil,or_false]at r;rcases r with rfl|rfl|rfl|rfl<;>rfl) (by rw[<-ca];exact lm.out) ?_;rw[<-ca];simp only[yQ,yU,yX,yY];clear ca;refine ag ?_;refine⟨a6,?_,q2.out,lm.out,ii.out⟩;simp only[yQ,yU,yX,yY]
  ·simp only[reduceIte,Nat.reduceEqDiff,wpTree,attachW,List.getElem?_cons_zero,List.getElem?_cons_succ];obtain⟨iv,da⟩:∃g,g=i.drew.alloc (.cells #[.int .i64 0,.bool false,.int .i64 0,.int .i64 0] 71):=⟨_,rfl⟩;obtain⟨a7,dd⟩:∃b,b=i.drew.heap.size:=⟨_,rfl⟩;have sn:Hid (af i iv):=by show Below _ _ _;rw[da];exact ah b4.out _
   have q3:Hid (aa iv a7 #[.int .i64 0,.bool false,.int .i64 0,.int .i64 0] 71):=by show aa _ _ _ _;rw[da,dd];exact aa.new _ _ _ _ rfl
   have ix:Hid (i.heap.size<=a7):=by show _<=_;rw[dd];exact b4.out.size
   refine' ep 71 rfl rfl _ yk (ah b4.out _) ?_;simp only[yQ,yU,yX,yY];rw[<-da,<-dd];clear da dd;refine ag ?_
   (try simp only[reduceIte,Nat.reduceEqDiff,wpTree,attachW,List.getElem?_cons_zero,List.getElem?_cons_succ])
   refine zZ ?_;refine(f8.out _).mono ?_;rintro e q4 ⟨rfl,hb⟩;have ls:Hid (af i q4):=ae sn.out hb;have q5:=Lib.hid (q3.out.below hb);clear hb;refine⟨_,rfl,ls.out,jO ?_⟩;refine zZ ?_;refine(d2.out _).mono ?_;rintro e iz ⟨rfl,hb⟩;have lv:Hid (af i iz):=ae ls.out hb;have i0:=Lib.hid (q5.out.below hb);clear hb;refine⟨_,rfl,lv.out,jO ?_⟩;obtain⟨i1,cb⟩:∃g,g=iz.setRow a7 ((bZ n c C y).toList).toArray:=⟨_,rfl⟩;have lw:Hid (af i i1):=by show Below _ _ _;rw[cb];exact below_setRow lv.out ix.out _
   have rb:Hid (aa i1 a7 ((bZ n c C y).toList).toArray 71):=by show aa _ _ _ _;rw[cb];exact aa.set i0.out _
   refine fi 71 rfl _ _ rfl 71 a7 #[.int .i64 0,.bool false,.int .i64 0,.int .i64 0] ((bZ n c C y).toList) i0.out rfl rfl wK rfl (by intro v r;simp only[List.mem_cons,List.not_mem_nil,or_false]at r;rcases r with rfl|rfl|rfl|rfl<;>rfl) (by rw[<-cb];exact lw.out) ?_;rw[<-cb];simp only[yQ,yU,yX,yY];clear cb;refine ag ?_;refine⟨a7,?_,rb.out,lw.out,ix.out⟩;simp only[yQ,yU,yX,yY]
 rintro a' a8 ⟨F,rfl,i2,en,rc⟩;have a9:Hid (aa a8 F (bZ n c C y) 71):=i2;have eq:=Lib.hid en;have c2:Hid (Below a.heap.size a a8):=ae bd.out en;clear i2 en rc;simp only[yQ,yU,yX,yY];obtain⟨ac,ec⟩:∃ac,ac=X.length:=⟨_,rfl⟩;rw[<-ec]at go sd;have ed:=Lib.hid ec;clear ec;have tg:n4=K.length:=d7.out.hn;obtain⟨q,hq⟩:∃q,q=ac-K.length:=⟨_,rfl⟩;have tx:IntKind.i64.wrap ((ac:Int)-(n4:Int))=(q:Int):=by rw[aF _ oO oO];omega
 have ue:(ac:Int)-(n4:Int)=(q:Int):=oO;have i3:q<=ac:=oO;have ul:IntKind.i64.wrap (q:Int)=(q:Int):=aF _ oO oO;have m7:Hid (X.length-K.length=q):=by show _=_;rw[<-ed.out,hq]
 clear hq tg go;have f1:a8.cell? ⟨F,0,none⟩=some (.int .i64 n):=a9.out.cell 0 _ rfl;have f2:a8.cell? ⟨F,1,none⟩=some (.bool c):=a9.out.cell 1 _ rfl;have f3:a8.cell? ⟨F,2,none⟩=some (.int .i64 C):=a9.out.cell 2 _ rfl;have f4:a8.cell? ⟨F,3,none⟩=some (.int .i64 y):=a9.out.cell 3 _ rfl
 go_wp2_with(first
  |(go_at_call 83;refine(ob.out _).mono ?_;rintro e am ⟨db,N,f5,rfl,i4,lx,er⟩;have ef:=Lib.hid f5;have rd:=Lib.hid i4;have ly:=Lib.hid lx;have de:=Lib.hid er;have c3:Hid (Below a.heap.size a am):=ae c2.out er;clear f5 i4 lx er f1 f2 f3 f4;have i5:Hid (Below a.heap.size a (am.alloc (.cells (p9 n n db N).toArray 28))):=ah c3.out _;obtain⟨T,U⟩:=s.out _ i5.out)
  |(go_at_call 46;refine(oi.out _).mono ?_;rintro e o ⟨un,rfl,dk,ap⟩;obtain⟨⟨rf,rg,rfl,sp,-,-⟩,-⟩:=id dk;rw[<-ed.out]at dk sp;have st:=Lib.hid dk;have av:=Lib.hid ap;clear dk ap T U))
 rw[<-ed.out];have b6:Hid (Below a.heap.size a o):=ae i5.out av.out;obtain⟨V,eh⟩:∃V,V=am.heap.size:=⟨_,rfl⟩;simp only[<-eh];have rl:Hid (aa o V (p9 n n db N).toArray 28):=by show aa _ _ _ _;exact(aa.new am _ _ _ eh).below av.out
 have G:Hid (B≠db/\j≠db/\F≠db/\V≠db/\B<o.heap.size/\j<o.heap.size/\F<o.heap.size/\V<o.heap.size/\db<o.heap.size/\w.heap.size<=db/\i.heap.size<=db/\db<am.heap.size+1/\w.heap.size<=o.heap.size):=by
  show _/\_;have ty:=d4.out;have t0:=ar a9.out;have t1:=rd.out;have t2:=eq.out.size;have t3:=bd.out.size;have t4:=de.out.size;have m8:=av.out.size;have t5:=ar ly.out;simp at m8;omega
 have sv:Hid (bh o db ab):=(ly.out.below (ax _ _)).below av.out;have sy:Hid (aa o F (bZ n c C y) 71):=((a9.out.below de.out).below (ax _ _)).below av.out;have tk:Hid (SR vB false o dz n4 ce K):=(((d7.out.below eq.out).below de.out).below (ax _ _)).below av.out;have tl:Hid (SR vB false o dE f0 ch msg):=(((g7.out.below eq.out).below de.out).below (ax _ _)).below av.out;have ro:Hid (∀E,dz=some E->E.block≠db):=by
  show∀E,_;intro E e;obtain⟨rs,J,ci,-⟩:=d7.out.rd sb.out;rw[e]at J;injection J with J;rw[J];have:=G.out.2.2.2.2.2.2.2.2.2.2.1;omega
 have i6:Hid (∀E,dE=some E->E.block≠db):=by
  show∀E,_;intro E e;obtain⟨rs,J,ci,-⟩:=g7.out.rd r5.out;rw[e]at J;injection J with J;rw[J];have:=G.out.2.2.2.2.2.2.2.2.2.2.1;omega
 have sO:Hid (db<(am.alloc (.cells (p9 n n db N).toArray 28)).heap.size):=by show _<_;have:=G.out.2.2.2.2.2.2.2.2.2.2.2.1;simp;omega
 clear eh;have ei:Hid (∀W,aB db o W->(W.cell? ⟨B,0,none⟩=some (.int .i64 (L:Int))/\W.cell? ⟨B,1,none⟩=some (.bool c))/\(W.cell? ⟨F,0,none⟩=some (.int .i64 (n:Int))/\W.cell? ⟨F,1,none⟩=some (.bool c)/\W.cell? ⟨F,2,none⟩=some (.int .i64 (C:Int))/\W.cell? ⟨F,3,none⟩=some (.int .i64 (y:Int)))/\W.cell? ⟨V,0,none⟩=some (.int .i64 (n:Int))/\W.cell? ⟨V,1,none⟩=some (.int .i64 (n:Int))/\W.cell? ⟨V,2,none⟩=some (.slice (some ⟨db,0,none⟩) N N)):=by
  show∀W,_;intro W Q;have ci:=Q.row (d3.out.below b6.out) G.out.1;have x:=Q.row sy.out G.out.2.2.1;have bs:=Q.row rl.out G.out.2.2.2.1;exact⟨⟨ci.cell 0 _ rfl,ci.cell 1 _ rfl⟩,⟨x.cell 0 _ rfl,x.cell 1 _ rfl,x.cell 2 _ rfl,x.cell 3 _ rfl⟩,bs.cell 0 _ rfl,bs.cell 1 _ rfl,bs.cell 2 _ rfl⟩
 obtain⟨i7,i8,i9,bt⟩:∃ez eA M,sliced rf q ac rg 2= .slice ez eA M:=⟨_,_,_,rfl⟩;have l0:Hid (fN (am.alloc (.cells (p9 n n db N).toArray 28)).heap.size o (.slice i7 i8 i9) (X.drop q)):=by
  show fN _ _ _ _;rw[<-bt];exact fN.from st.out q i3
 rw[m7.out]at ks gc gi;have es:Hid (aB db o o.drew):=aB.below (ai (Below.refl _ _));have jp:N<=100000000:=by have:=ef.out;have:n* n<=161* 161:=Nat.mul_le_mul gp gp;omega
 have jr:Hid (N=ab.length):=by show _=_;rw[ge.out];exact ef.out
 refine yO (λW=>aB db o W) [1,2,3,4,5,6,7,9,0,8,10] es.out ?_
 repeat refine zO ei.out ?_
 refine' zQ rfl (C9 rfl rfl q rfl i3 bt) es.out ?_;refine zZ ?_;refine(zj n n db N n4 ce ab (X.drop q) K (.slice i7 i8 i9) dz o.drew oO oO jr.out jp (sv.out.below (ai (Below.refl _ _))) (l0.out.1.below (ai (Below.refl _ _))) (λA m k E e1 e2=>by have x:=l0.out.2 A m k E e1 e2;have bs:=sO.out;omega) (tk.out.below (ai (Below.refl _ _))) ro.out gi.out ks.out).mono ?_;rintro e ek ⟨rfl,l1,l2⟩;have s0:=Lib.hid l1;have mb:Hid (aB db o ek):=es.out.trans l2;clear l1 l2;refine⟨_,rfl,mb.out,jO ?_⟩;refine ag ?_;go_wp2;have et:Hid (aB db o ek.drew):=mb.out.trans (aB.below (ai (Below.refl _ _)));have s1:Hid (N=(wrL n ab (X.drop q) K).length):=by show _=_;rw[gg.out];exact jr.out
 have rt:Hid (∀p∈em,bu n p<(wrL n ab (X.drop q) K).length):=r4.out _ (by rw[gg.out,ge.out]);refine yO (λW=>aB db o W) [1,2,4,0,3,5] et.out ?_
 repeat refine zO ei.out ?_
 refine zZ ?_;refine(oj.out _).mono ?_;rintro e el ⟨up,rfl,ew,ex⟩;obtain⟨⟨rx,r0,rfl,-,-⟩,-⟩:=id ew;have md:=Lib.hid ew;have ey:Hid (aB db o el):=et.out.trans (aB.below ex);have s2:Hid (bh el db (wrL n ab (X.drop q) K)):=(s0.out.below (ai (Below.refl _ _))).below ex;have s4:Hid (db<ek.drew.heap.size):=Nat.lt_of_lt_of_le G.out.2.2.2.2.2.2.2.2.1 et.out.sz;clear ew ex;refine⟨_,rfl,ey.out,jO ?_⟩;refine zZ ?_;refine(zj n n db N f0 ch (wrL n ab (X.drop q) K) em msg (.slice rx em.length r0) dE el oO oO s1.out jp s2.out md.out.1 (λA m k E e1 e2=>by have x:=md.out.2 A m k E e1 e2;have bs:=s4.out;omega) (tl.out.Nu ey.out i6.out) i6.out op.out rt.out).mono ?_;rintro e t ⟨rfl,me,mk⟩;have ta:Hid (bh t db dl):=by show bh _ _ _;rw[<-gc.out];exact me
 have dn:Hid (aB db o t):=ey.out.trans mk;clear me mk;refine⟨_,rfl,dn.out,jO ?_⟩;refine ag ?_;obtain⟨⟨T,U⟩,⟨f1,f2,f3,f4⟩,k0,t6,t7⟩:=ei.out t dn.out;have H:Hid (aa t j aY 30):=dn.out.row (o0.out.below b6.out) G.out.2.1;have c0:t.cell? ⟨j,0,none⟩=some (.int .i64 0):=H.out.cell 0 _ rfl;have c1:t.cell? ⟨j,1,none⟩=some (.bool false):=H.out.cell 1 _ rfl;have fz:t.cell? ⟨j,2,none⟩=some (.int .i64 0):=H.out.cell 2 _ rfl;have m9:t.cell? ⟨j,3,none⟩=some (.int .i64 0):=H.out.cell 3 _ rfl;have ce:t.cell? ⟨j,4,none⟩=some (.int .i64 0):=H.out.cell 4 _ rfl;have ch:t.cell? ⟨j,5,none⟩=some (.slice none 0 0):=H.out.cell 5 _ rfl;have na:t.frozen? ⟨j,0,none⟩=false:=frozen_of_row _ _ _ _ _ H.out;have nb:t.frozen? ⟨j,1,none⟩=false:=frozen_of_row _ _ _ _ _ H.out;have nc:t.frozen? ⟨j,2,none⟩=false:=frozen_of_row _ _ _ _ _ H.out;have nl:t.frozen? ⟨j,3,none⟩=false:=frozen_of_row _ _ _ _ _ H.out;have no:t.frozen? ⟨j,4,none⟩=false:=frozen_of_row _ _ _ _ _ H.out;have np:t.frozen? ⟨j,5,none⟩=false:=frozen_of_row _ _ _ _ _ H.out;have r1:Hid (Below w.heap.size w t):=(gq.out.trans (b6.out.mono d4.out.2.2.2)).trans (dn.out.to G.out.2.2.2.2.2.2.2.2.2.1 G.out.2.2.2.2.2.2.2.2.2.2.2.2);have be:w.heap.size<=j:=d4.out.1;go_wp2;refine bodyPost_ret (v:= .tuple #[pM L c m n db N,.int .i64 0]) (by simp[results,Tryz.results35,go_sem,c0,c1,fz,m9,ce,ch,na,nb,nc,nl,no,np]) rfl ⟨db,N,ef.out,rfl,?_,G.out.2.2.2.2.2.2.2.2.2.1,?_⟩
 ·have bb:db≠j:=(G.out.2.1).symm;exact aa.bP (aa.bP (aa.bP (aa.bP (aa.bP (aa.bP ta.out _ _ bb) _ _ bb) _ _ bb) _ _ bb) _ _ bb) _ _ bb
 ·exact(((((r1.out.setCell be _).setCell be _).setCell be _).setCell be _).setCell be _).setCell be _
noncomputable def iJ (c:Bool) (b:List Bool):Int×Int×Int:=if b.length≠(eV c+gG c+eu c* 4)then(0,0,7)else match l7 c b with
 |none=>(0,0,17)
 |some q=>((q.1:Int),(q.2:Int),0)
theorem oP.nice {s p par first:Nat} {l:List Nat} {w w':World} {e:Ending} (h:oP s p par first l w e w'):Below w.heap.size w w'/\
 ((∃v A n c b a d,Hid (jT s p par first l (some v))/\e= .returned (.tuple #[.agg #[.slice A n c,.slice b a d],.int .i64 0])/\Hid (SR vN 0 w' A n c v)/\Hid (a=(dT l v).length))\/(Hid (jT s p par first l none)/\e= .returned (.tuple #[.agg #[bk,bk],.int .i64 17]))):=by
 refine⟨h.1,?_⟩;rcases h.2 with⟨v,V,j,f,rfl,g,i⟩|⟨f,rfl⟩
 ·obtain⟨A,n,c,rfl,-,hs,-⟩:=aA.K0 g;obtain⟨b,a,d,rfl,hn,-,-⟩:=aA.K0 i;exact .inl ⟨v,A,n,c,b,a,d,f,rfl,hs,hn⟩
 ·exact .inr ⟨f,rfl⟩
theorem Ai (c:Bool) (b:List Bool) (A:Option Addr) (n t:Nat) (w:World) (hb:SR vB false w A n t b):Calls Tryz.prog 25 #[.slice A n t,.bool c] w (M5 w (iJ c b).1 (iJ c b).2.1 (iJ c b).2.2):=by
 have C:Hid (n=b.length):=hb.hn;have dp:n<=9223372036854775807:=by have:=hb.hm;have:=hb.hc;unfold maxLen at*;omega
 have M:Hid (∀W,Calls Tryz.prog 58 #[.bool c] W λe w'=>e= .returned (.tuple #[.int .i64 ((eV c:Nat):Int),.int .i64 ((gG c:Nat):Int),.int .i64 ((eu c:Nat):Int)])/\w'=W):=λW=>sq c W;have a7:1<=eV c/\eV c<=11/\1<=gG c/\gG c<=11/\eu c<=6:=by cases c<;>decide
 by_cases s:n=eV c+gG c+eu c* 4
 ·obtain⟨m,D⟩:∃m,m=gA c+eu c:=⟨_,rfl⟩;have F:n=m* 4:=by rw[s,D];cases c<;>rfl
  have N:b.length/4=m:=by rw[<-C.out,F];omega
  have ds:m<=15/\eu c<m/\eV c+gG c<=m* 4:=by rw[D];cases c<;>decide
  have G:=cV b 4 m;have ac:=nH b 4 m;have H:iJ c b=match(r6 16 19 (eu c) 1 (bg b 4 m)).map (λv=>(numF (bF v 4) 0 (eV c)+1,numF (bF v 4) (eV c) (gG c)+1))with|none=>(0,0,17)|some q=>((q.1:Int),(q.2:Int),0):=by
   unfold iJ;rw[if_neg (by rw[<-C.out];exactλh=>h s)];unfold l7;rw[N]
  have J:=KV c;have a8:Hid (∀W,af w W->Calls Tryz.prog 60 #[.slice A n t,.int .i64 4,.bool false] W (RT vN 0 W (bg b 4 m,0))):=λW ad=>qY A n t 4 m b W oO oO F oO (hb.below ad);have a9:Hid (∀W,Calls Tryz.prog 61 #[.int .i64 4,.int .i64 ((eu c:Nat):Int)] W λe w'=>e= .returned (.tuple #[dw 2 16 19 (eu c) 1,.int .i64 0])/\Below W.heap.size W w'):=λW=>tN (eu c) W J;have bb:Hid (∀W A f d,SR vN 0 W A f d (bg b 4 m)->RD W A (zl (bg b 4 m))->Calls Tryz.prog 66 #[dw 2 16 19 (eu c) 1,.slice A f d,.slice none 0 0] W (oP 16 19 (eu c) 1 (bg b 4 m) W)):=by
   show∀W A f d,_->_->_;intro W A f d hs al;have l:=hs.hn;have am:=l;rw[G]at am;exact uZ 2 16 19 (eu c) 1 _ f A d W J l ac oO oO al
  have cb:Hid (∀v,jT 16 19 (eu c) 1 (bg b 4 m) (some v)->ao 16 v/\v.length=m):=by
   show∀v,_->_;intro v p;have L:=p.2 v rfl;exact⟨L.lt,by rw[L.ln,G]⟩
  have ce:Hid (∀v,jT 16 19 (eu c) 1 (bg b 4 m) (some v)->iJ c b=(((numF (bF v 4) 0 (eV c)+1:Nat):Int),((numF (bF v 4) (eV c) (gG c)+1:Nat):Int),0)):=by
   show∀v,_->_;intro v p;rw[H,qN p];rfl
  have bd:Hid (jT 16 19 (eu c) 1 (bg b 4 m) none->iJ c b=(0,0,17)):=by
   show _->_;intro p;rw[H,qN p];rfl
  have be:Hid (∀W A f d v,ao 16 v->v.length=m->SR vN 0 W A f d v->Calls Tryz.prog 63 #[.slice A f d,.int .i64 4] W (RT vB false W (bF v 4,0))):=by
   show∀W A f d v,_->_->_->_;intro W A f d v bf x hs;have l:=hs.hn;exact nQ A f d 4 v W oO oO oO bf hs
  have bi:Hid (∀W A g d (v:List Nat),v.length=m->SR vB false W A g d (bF v 4)->Calls Tryz.prog 67 #[.slice A g d,.int .i64 0,.int .i64 ((eV c:Nat):Int)] W (λe w'=>e= .returned (.tuple #[.int .i64 ((numF (bF v 4) 0 (eV c):Nat):Int),.int .i64 0])/\w'=W)):=by
   show∀W A g d v,_->_->_;intro W A g d v x hs;have l:=hs.hn;rw[jb,x]at l;exact zi A g d 0 (eV c) _ W oO oO oO oO hs
  have ch:Hid (∀W A g d (v:List Nat),v.length=m->SR vB false W A g d (bF v 4)->Calls Tryz.prog 67 #[.slice A g d,.int .i64 ((eV c:Nat):Int),.int .i64 ((gG c:Nat):Int)] W (λe w'=>e= .returned (.tuple #[.int .i64 ((numF (bF v 4) (eV c) (gG c):Nat):Int),.int .i64 0])/\w'=W)):=by
   show∀W A g d v,_->_->_;intro W A g d v x hs;have l:=hs.hn;rw[jb,x]at l;exact zi A g d (eV c) (gG c) _ W oO oO oO oO hs
  have O:Hid (∀(v:List Nat) (a k:Nat),k<=11->numF (bF v 4) a k<2048):=by
   show∀(v:List Nat) (a k:Nat),_->_;intro v a k ap;exact Nat.lt_of_lt_of_le (ji _ _ _) (Nat.pow_le_pow_right (n:=2) oO ap)
  have ci:((eV c:Nat):Int)+((gG c:Nat):Int)+((eu c:Nat):Int)* 4=(n:Int):=oO;have ck:∀z:Int,z=(n:Int)->((n:Int)==z)=true:=λz h=>by rw[h];simp
  clear H N D F G ac J hb;generalize iJ c b=av at*;generalize eV c=lb at*;generalize gG c=db at*;generalize eu c=mp at*;generalize bg b 4 m=co at*;obtain⟨i,K⟩:∃i,i=lb+db:=⟨_,rfl⟩;obtain⟨j,o⟩:∃j,j=mp* 4:=⟨_,rfl⟩;have bo:(lb:Int)+(db:Int)=(i:Int):=oO;have bq:(mp:Int)* 4=(j:Int):=oO;have bs:(i:Int)+(j:Int)=(n:Int):=oO;have hq:=a7;clear K o ci ck s;go_enter Tryz.func25,Tryz.ntmps25
  go_wp2_with(first
   |(go_at_call 58;refine(M.out _).mono ?_;rintro e a0 ⟨rfl,r⟩;rw[r];clear r)
   |(go_at_call 60;refine(a8.out _ (Below.refl _ _)).mono ?_;rintro e a1 ⟨cp,rfl,o,P⟩;obtain⟨cq,n2,cs,rfl,-,bt,Q⟩:=o.rd;have bv:=Lib.hid bt;have bx:=Lib.hid Q;have bz:Hid (Below w.heap.size w a1):=P;clear o P Q)
   |(go_at_call 61;refine(a9.out _).mono ?_;rintro e a2 ⟨rfl,y⟩;have b1:Hid (Below w.heap.size w a2):=ae bz.out y;have b2:=Lib.hid (bv.out.below y);have b3:=Lib.hid (bx.out.below y);clear y)
   |(go_at_call 66;refine(bb.out _ _ _ _ (b2.out.below (ax _ _)) (b3.out.below (ax _ _))).mono ?_;rintro e a3 S;obtain⟨T,a4⟩:=oP.nice S;clear S;have U:Hid (Below w.heap.size w a3):=ae (ah b1.out _) T;clear T;rcases a4 with⟨v,cv,cx,cN,c2,c3,cc,u,rfl,b4,dd⟩|⟨u,rfl⟩)
    |(go_at_call 63;have B:=Lib.hid (cb.out v u.out);have a5:=Lib.hid (ce.out v u.out);refine(be.out _ _ _ _ v B.out.1 B.out.2 (b4.out.below (ax _ _))).mono ?_;rintro e E ⟨v6,rfl,V,X⟩;obtain⟨c4,c5,c6,rfl,b5⟩:=V.parts;have Y:=Lib.hid b5;have b6:Hid (Below w.heap.size w E):=ae (ah U.out _) X;clear V X;have de:=O.out v 0 lb oO;have dk:=O.out v lb db oO;have b7:=Lib.hid (bi.out E _ _ _ v B.out.2 Y.out);have b8:=Lib.hid (ch.out E _ _ _ v B.out.2 Y.out);generalize numF (bF v 4) 0 lb=c7 at*;generalize numF (bF v 4) lb db=c8 at*)
    |(go_at_call 67;(with_reducible show Calls _ _ #[_,.int .i64 0,_] _ _);refine b7.out.mono ?_;rintro e c9 ⟨rfl,Z⟩;rw[Z];clear Z)
    |(go_at_call 67;refine b8.out.mono ?_;rintro e da ⟨rfl,ab⟩;rw[ab];clear ab))
  ·go_ret3
   rw[a5.out];exact⟨rfl,b6.out⟩
  ·have b9:=Lib.hid (bd.out u.out);go_ret3
   rw[b9.out];exact⟨rfl,ah U.out _⟩
 ·have a6:Hid (iJ c b=(0,0,7)):=by show _=_;unfold iJ;rw[if_pos (by rw[<-C.out];exact s)]
  generalize iJ c b=av at*;generalize eV c=lb at*;generalize gG c=db at*;generalize eu c=mp at*;obtain⟨i,K⟩:∃i,i=lb+db:=⟨_,rfl⟩;obtain⟨j,o⟩:∃j,j=mp* 4:=⟨_,rfl⟩;obtain⟨s3,ca⟩:∃s3,s3=i+j:=⟨_,rfl⟩;have bo:(lb:Int)+(db:Int)=(i:Int):=oO;have bq:(mp:Int)* 4=(j:Int):=oO;have bs:(i:Int)+(j:Int)=(s3:Int):=oO;have dl:i<=22/\j<=24:=oO;have dn:((n:Int)==(s3:Int))=false:=by rw[beq_eq_false_iff_ne];omega
  clear K o ca s hb;go_enter Tryz.func25,Tryz.ntmps25;go_wp2_with(go_at_call 58;refine(M.out _).mono ?_;rintro e a0 ⟨rfl,r⟩;rw[r];clear r)
  go_ret3
  rw[a6.out];exact⟨rfl,Below.refl _ _⟩
abbrev fq (W H:Int) (A:Option Addr) (N a:Nat):Value:= .agg #[.int .i64 W,.int .i64 H,.slice A N a]
abbrev fk (W H:Int) (A:Option Addr) (N a:Nat):Array Value:=#[.int .i64 W,.int .i64 H,.slice A N a]
def mr (n:Nat) (d:List Bool) (ps:List Pt) (j:Nat):List Bool:=(cA n d (ps.take j))++List.replicate (ps.length-j) false
theorem Js (n:Nat) (d:List Bool) (ps:List Pt):mr n d ps 0=List.replicate ps.length false:=by unfold mr cA;simp
theorem Ma (n:Nat) (d:List Bool) (ps:List Pt):mr n d ps ps.length=cA n d ps:=by unfold mr;simp
theorem FU {n:Nat} {d:List Bool} {ps:List Pt} {j:Nat} (h:j<=ps.length):(mr n d ps j).length=ps.length:=by unfold mr cA;simp;omega
theorem J1 {n:Nat} {d:List Bool} {ps:List Pt} {j:Nat} (h:j<ps.length):cA n d (ps.take (j+1))=cA n d (ps.take j)++[d.getD (bu n (ps.getD j (0,0))) false]:=by
 unfold cA;rw[List.take_succ_eq_append_getElem h,List.map_append];simp[List.getD,h]
theorem Ju {n:Nat} {d:List Bool} {ps:List Pt} {j:Nat} (h:j<ps.length):(mr n d ps j).set j (d.getD (bu n (ps.getD j (0,0))) false)=mr n d ps (j+1):=by
 have e:List.replicate (ps.length-j) false=false::List.replicate (ps.length-(j+1)) false:=by rw[show ps.length-j=(ps.length-(j+1))+1 from by omega,List.replicate_succ]
 unfold mr;rw[J1 h,e,List.set_append,if_neg (by unfold cA;simp;omega)];have e2:j-(cA n d (ps.take j)).length=0:=by unfold cA;simp;omega
 rw[e2,List.set_cons_zero];simp
theorem rW (n:Nat) (H:Int) (A:Option Addr) (N r:Nat) (d:List Bool) (ps:List Pt) (v:Value) (w:World) (hn:n<=4096) (ck:N<=4194304) (P:SR vB false w A N r d) (bo:SP w v ps) (bx:ps.length<=100000) (B:∀p∈ps,p.1<=4096/\p.2<=4096/\bu n p<N):
 Calls Tryz.prog 42 #[fq n H A N r,v] w λe w'=>∃db k,e= .returned (.slice (some ⟨db,0,none⟩) k k)/\k=ps.length/\bh w' db (cA n d ps)/\Below w.heap.size w w':=by
 obtain⟨co,c,rfl,al,bz,ad⟩:=bo;obtain⟨i,t⟩:∃i,i=ps.length:=⟨_,rfl⟩;rw[<-t]at al bx⊢;have V:=Lib.hid t;have bq:=Lib.hid ad;have bs:=Lib.hid P;have am:Hid (N=d.length):=P.hn;have b1:=Lib.hid B;have ci:Hid (∀j,j<i->(mr n d ps j).set j (d.getD (bu n (ps.getD j (0,0))) false)=mr n d ps (j+1)):=λj y=>Ju (by rw[<-t];exact y);have ce:Hid (∀j,j<=i->(mr n d ps j).length=i):=λj y=>by rw[t]at y⊢;exact FU y
 have b2:Hid (mr n d ps 0=List.replicate i false):=by show _=_;rw[Js,<-t]
 have b3:Hid (mr n d ps i=cA n d ps):=by show _=_;rw[t];exact Ma _ _ _
 clear ad P B t al bz;obtain⟨o,G⟩:∃o,o=w.heap.size:=⟨_,rfl⟩;obtain⟨db,J⟩:∃db,db=w.heap.size+1:=⟨_,rfl⟩;obtain⟨s,F⟩:∃s,s=w.alloc (.cells (fk n H A N r) 28):=⟨_,rfl⟩;obtain⟨l,C⟩:∃l,l=s.alloc (.cells ((List.replicate i false).map vB).toArray 4):=⟨_,rfl⟩;have K:s.heap.size=db:=by rw[F,J];simp
 have ap:=re i oO s;rw[<-C,K,F]at ap;have b4:Hid (Below w.heap.size w s):=by show Below _ _ _;rw[F];exact ax _ _
 have L:Hid (Below w.heap.size w l):=by show Below _ _ _;rw[C];exact ah b4.out _
 have b5:Hid (aa l o (fk n H A N r) 28):=by
  show aa _ _ _ _;rw[C];have Q:aa s o (fk n H A N r) 28:=by rw[F];exact aa.new _ _ _ _ G
  exact Q.below (ax _ _)
 have av:Hid (bh l db (mr n d ps 0)/\aB db l l):=by
  show _/\_;rw[b2.out,C,<-K];exact⟨bh.new _ _,aB.refl _ _⟩
 have u:Hid (o<db/\w.heap.size<=db/\db<l.heap.size/\w.heap.size=o):=by show _/\_;rw[C,J,G];simp[K,J]
 clear C F K J;go_enter Tryz.func42,Tryz.ntmps42;go_wp2;simp only[<-G];clear ap G;go_loopw [13] (λS wr=>∃j:Nat,j<=i/\S= .int .i64 j/\Hid (bh wr db (mr n d ps j)/\aB db l wr)) (λS _=>i-(intOf S).toNat)
 case atStart=>exact⟨0,Nat.zero_le _,rfl,av.out⟩
 case round=>
  clear av;obtain⟨j,y,rfl,z⟩:=hrel;by_cases M:j<i
  ·obtain⟨g,x,rfl,W,a0⟩:=bq.out (by rw[<-V.out];omega);have T:=a0 j (by rw[<-V.out];exact M);have a1:ps.getD j (0,0)∈ps:=by
    have:j<ps.length:=by rw[<-V.out];exact M
    simp only[List.getD,List.getElem?_eq_getElem this,Option.getD_some];exact List.getElem_mem this
   obtain⟨cs,cv,a9⟩:=b1.out _ a1;have a2:=Lib.hid (ci.out j M);have a3:Hid ((mr n d ps j).length=i):=ce.out j y;generalize ps.getD j (0,0)=p at*;generalize mr n d ps j=U at*;have b6:g<o:=by have:=u.out.2.2.2;omega
   have ab:g≠db:=by have:=u.out.1;omega
   have X:g<l.heap.size:=by have:=u.out;omega
   have e1:wr.cell? ⟨g,x+j* 2,none⟩=some (.int .i64 (p.1:Int)):=(z.out.2.cell (a:=⟨g,x+j* 2,none⟩) X ab).trans ((L.out.cell (p:=⟨g,x+j* 2,none⟩) W).trans T.1);have e2:wr.cell? ⟨g,x+j* 2+1,none⟩=some (.int .i64 (p.2:Int)):=(z.out.2.cell (a:=⟨g,x+j* 2+1,none⟩) X ab).trans ((L.out.cell (p:=⟨g,x+j* 2+1,none⟩) W).trans T.2);obtain⟨f,O⟩:∃f,f=wr.alloc (.cells #[.int .i64 (p.1:Int),.int .i64 (p.2:Int)] 47):=⟨_,rfl⟩;obtain⟨D,B⟩:∃D,D=wr.heap.size:=⟨_,rfl⟩;have a4:Hid (Below wr.heap.size wr f):=by show Below _ _ _;rw[O];exact ax _ _
   have a5:Hid (aa f D #[.int .i64 (p.1:Int),.int .i64 (p.2:Int)] 47):=by show aa _ _ _ _;rw[O,B];exact aa.new _ _ _ _ oS
   have Y:Hid (bh f db U):=z.out.1.below a4.out;have Z:Hid (aB db l f):=z.out.2.trans (aB.below a4.out);have a6:f.cell? ⟨D,0,none⟩=some (.int .i64 (p.1:Int)):=a5.out.cell 0 _ rfl;have bb:f.cell? ⟨D,1,none⟩=some (.int .i64 (p.2:Int)):=a5.out.cell 1 _ rfl;have a7:Hid (aa f o (fk n H A N r) 28):=Z.out.row b5.out (by have:=u.out.1;omega);have k0:f.cell? ⟨o,0,none⟩=some (.int .i64 (n:Int)):=a7.out.cell 0 _ rfl;have bt:f.cell? ⟨o,2,none⟩=some (.slice A N r):=a7.out.cell 2 _ rfl;obtain⟨q,hq⟩:∃q,q=p.2* n:=⟨_,rfl⟩;obtain⟨m,ac⟩:∃m,m=bu n p:=⟨_,rfl⟩;have b7:m=q+p.1:=by rw[ac,hq];rfl
   rw[<-ac]at a9 a2;have cx:q<=4194304:=oO;have cN:(p.2:Int)* (n:Int)=(q:Int):=by rw[hq];simp
   have cp:IntKind.i64.wrap (q:Int)=(q:Int):=aF _ oO oO;have cq:(q:Int)+(p.1:Int)=(m:Int):=oO;have c3:(m:Int)<(N:Int):=oO;obtain⟨E,rfl,bd,a8⟩:=bs.out.rd (by rw[<-am.out];omega);have be:E.block≠db:=by have:=u.out;omega
   have bf:E.block<l.heap.size:=by have:=u.out;omega
   have b8:f.cell? (E.add m)=some (.bool (d.getD m false)):=(Z.out.cell (a:=E.add m) (by rw[aJ];exact bf) (by rw[aJ];exact be)).trans ((L.out.cell (p:=E.add m) (by rw[aJ];exact bd)).trans (a8 m (by rw[<-am.out];exact a9)));generalize d.getD m false=b at*;have ch:Hid (j<U.length):=by show _<_;rw[a3.out];exact M
   have c2:(j:Int)<(i:Int):=oO;have b9:f.cell? ⟨db,j,none⟩=some (.bool (U.getD j false)):=Y.out.cell ch.out;have ca:f.frozen? ⟨db,j,none⟩=false:=frozen_of_row _ _ _ _ _ Y.out;have bi:Hid (bh (f.setCell ⟨db,j,none⟩ (.bool b)) db (mr n d ps (j+1))/\aB db l (f.setCell ⟨db,j,none⟩ (.bool b))):=by
    show _/\_;rw[<-a2.out];exact⟨Y.out.set _ _,Z.out.trans (aB.eT _)⟩
   rw[O]at k0 bt b8 b9 ca bi a6 bb;rw[B]at a6 bb;clear hq ac b7 a1 a3 a0 T a8 bd bf be b6 ab X W O B;go_wp2;exact⟨⟨j+1,by omega,by go_num,bi.out⟩,by simp[intOf];omega⟩
  ·obtain rfl:j=i:=oO;have bv:Hid (bh wr db (cA n d ps)):=by show bh _ _ _;rw[<-b3.out];exact z.out.1
   have cb:Hid (Below w.heap.size w wr):=by show Below _ _ _;have Q:=u.out;exact L.out.trans (z.out.2.to Q.2.1 oO)
   go_wp2;go_ret;exact⟨db,j,rfl,rfl,bv.out,cb.out⟩
end
end Go.Proofs.YtmnlkganmgcpbaaGreatDoor
