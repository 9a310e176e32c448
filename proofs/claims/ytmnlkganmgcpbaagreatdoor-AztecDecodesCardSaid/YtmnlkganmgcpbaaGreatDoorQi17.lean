import Derived.Test.YtmnlkganmgcpbaaGreatDoorQi16
import Derived.Test.YtmnlkganmgcpbaaGreatDoorQi8
set_option maxRecDepth 100000
set_option maxHeartbeats 4000000
set_option linter.unusedVariables false
set_option linter.unusedSectionVars false
set_option linter.unusedSimpArgs false
set_option linter.defProp false
open Go.Value renaming int->I,int->zz
open Go.IntKind renaming i64->J
open Bool renaming false->R,true->wP
open Option renaming none->U,some->gk
open Go renaming World->wR,Calls->wS,Value->xf,madeCells->C2,run_make_row'->S0
open Go.Proofs.Tryz renaming prog->w1,underlying64->z1
open Go.RowKit renaming Hid->w2
open Go.RowKit.Below renaming refl->w3
open Nat renaming le_refl->w5,zero_le->x1,le_trans->x3,lt_of_lt_of_le->x6,add_sub_cancel->HI,eq_zero_or_pos->HS
open _root_ renaming if_neg->w6,if_pos->xl,Option->xv
open List renaming getD->x4,replicate->y0,range->y3,take_zero->A0,take_succ_cons->A3,drop_succ_cons->A4,map_congr_left->A9,getElem?_eq_none->B4,drop_zero->CQ,length_replicate->S2
open Go.World renaming cell?_setCell_other->At
open Go.Proofs.Tryz
namespace Go.Proofs.YtmnlkganmgcpbaaGreatDoor
section
open Go.RowKit
theorem nS (b S a d bl k:Nat) (w:wR) (e:VF b S a) (q:k<=100000000) (f:dH w S a d bl):
 wS w1 152 #[gG b S d bl,I J k] w (au (I J ((dk S a k:Nat):Int)) w):=by
 have n:w2 (af w (w.alloc (fe b S d bl))):=(w3 _ _).alloc (w5 _) _;have r:=e.le;have t:=e.aO;have g:=f.alloc (fe b S d bl);have j:k%(S-1)<S-1:=Nat.mod_lt _ oO;have l:=g.2.2.1 _ j;have i:w2 (dk S a k=aM S a (aV S a) (k%(S-1))):=rfl;have e1:(k:Int).tmod ((S:Int)-1)=((k%(S-1):Nat):Int):=by
  rw[show(S:Int)-1=((S-1:Nat):Int)from by omega];exact(Int.ofNat_tmod _ _).symm
 rw[<-i.out]at l;generalize k%(S-1)=m at*;generalize dk S a k=o at*;clear g f e i;go_enter func152,ntmps152;go_wp2;go_quiet (fail)
 go_wp2;go_ret;exact⟨rfl,cS n.out _⟩
def dt (s p:Nat) (a b:List Nat) (n d e:Nat):List Nat:=(y3 n).map (Br s p a b d e)
theorem gB (s p:Nat) (a b:List Nat) (n d e:Nat):(dt s p a b n d e).length=n:=by unfold dt;simp
section
variable {c s p : Nat} (h : VF c s p)
include h
theorem B7 (a b:List Nat) (n:Nat):dt s p a b n 0 0=y0 n 0:=by
 unfold dt;apply List.ext_getElem
 ·simp
 ·intro k d e;simp[vA h,lK]
theorem Ei (a b:List Nat) {n d f:Nat} (i:d+f<n):
 (dt s p a b n d f).set (d+f) (bU s p ((dt s p a b n d f).getD (d+f) 0) (aA s p (a.getD d 0) (b.getD f 0)))=dt s p a b n d (f+1):=by
 unfold dt;rw[bC _ _ _ i,fm _ _ _ _ i];apply A9;intro k j;unfold Br;by_cases e:k=d+f
 ·subst e;rw[xl rfl,w6 oO,xl oO,show d+f-d=f from by omega]
 ·rw[w6 e];by_cases g:d<=k/\k-d<f
  ·rw[xl g,xl oO]
  ·rw[w6 g,w6 oO]
theorem ER (a b:List Nat) (g:ak s a) {n d e:Nat} (l:e=b.length\/n<=d+e):dt s p a b n d e=dt s p a b n (d+1) 0:=by
 unfold dt;apply A9;intro k i;rw[List.mem_range]at i;rw[vA h];unfold Br;show _=bU s p (lK s p (fQ s p a b k) d) (fQ s p a b k d);have hc:=sk h (fQ s p a b k) (oe h a b k) d;unfold fQ;by_cases f:d<=k
 ·by_cases j:k-d<e
  ·rw[xl ⟨f,j⟩,xl f]
  ·rw[w6 oO,xl f];have:b.getD (k-d) 0=0:=by rw[x4,B4 oO];rfl
   rw[this,pD h (g d)];exact(BF h hc).symm
 ·rw[w6 oO,w6 f];exact(BF h hc).symm
theorem mw (a b:List Nat) (n d e:Nat):ak s (dt s p a b n d e):=iY h λk _=>by
 unfold Br;have hc:=sk h (fQ s p a b k) (oe h a b k) d;split
 ·exact lR h _ _ hc (bk h _ _)
 ·exact hc
theorem vP {a b:List Nat} (e:ak s a) (hb:ak s b) {n m:Nat} (f:m<n):co h (dt s p a b n a.length 0) m=conv (co h a) (co h b) m:=by
 unfold dt;rw[yN,xl f,vA h,IY h _ (oe h a b m),qv];have e1:∀k,dX (λk=>aR h (fQ s p a b m k)) k=dX (λk=>if k<=m then co h a k* co h b (m-k)else 0) k:=λk=>jI λk _=>Dp h e hb m k;rw[e1];have e2:dX (λk=>co h a k* co h b (m-k)) (m+1)=dX (λk=>if k<=m then co h a k* co h b (m-k)else 0) (m+1):=jI λk i=>by rw[xl oO]
 rw[e2];rcases Nat.le_total a.length (m+1)with hl|hl
 ·refine(tc (λk d g=>?_) hl).symm;rw[fO h a k d,cG];simp
 ·refine tc (λk d g=>?_) hl;rw[w6 oO]
end
theorem gW.Sh (w:wR) (a S b bl n:Nat) (d:TypeId):gW w ((w.alloc (fe a S b bl)).alloc (.cells (C2 #[zz .i64 0] n) d)) (ji a S b bl) (y0 n 0):=
 ⟨((w3 _ _).alloc (w5 _) _).alloc oS _,(an.new _ _ _ _ rfl).alloc _,bK.made _ _ _ _ oS⟩
def pS (w:wR) (v:xf):Prop:=∀a n c,v= .slice (gk a) n c->w.heap.size<=a.block
theorem pS.mk {w:wR} {a b n c:Nat} (h:w.heap.size<=a):pS w (.slice (gk ⟨a,b,U⟩) n c):=λd f g e=>by
 injection e with e1;injection e1 with e1;rw[<-e1];exact h
theorem pS.ne {w:wR} {A:xv Addr} {n c b:Nat} (h:pS w (.slice A n c)) (hb:b<w.heap.size):∀a,A=gk a->a.block≠b:=λa e=>by
 subst e;have:=h a n c rfl;omega
theorem pS.mono {w a:wR} {v:xf} (h:pS a v) (hs:w.heap.size<=a.heap.size):pS w v:=λb n c e=>x3 hs (h b n c e)
theorem vO (l S i o bl d:Nat) (a b:List Nat) (A B:xv Addr) (n m ap av:Nat) (w:wR) (t:VF l S i) (K:ak S a) (X:ak S b) (hn:n=a.length) (E:m=b.length) (b3:n<=4097) (b4:m<=4097) (b5:1<=d) (b6:d<=8193)
 (M:dH w S i o bl) (N:RD w A (zl a)) (hb:RD w B (zl b)):
 wS w1 200 #[gG l S o bl,.slice A n ap,.slice B m av,I J d] w λe O=>∃v,e= .returned v/\(az O v (zl (dt S i a b d a.length 0))/\af w O)/\pS w v:=by
 have b7:=S0 (P:=w1) 64 3 (I J 0) 8 z1 cT rfl .i64 .i64 d oO oO;have F:=aa t;have bb:=aa K;have bd:=aa X;have a0:=aa N;have a1:=aa hb;have a2:=aa M;have a3:=aa (B7 t a b d);have ac:w2 (∀f g,(dt S i a b d f g).length=d):=λf g=>gB _ _ _ _ _ _ _;have bz:w2 (∀f g:Nat,f+g<d->(dt S i a b d f g).set (f+g) (bU S i ((dt S i a b d f g).getD (f+g) 0) (aA S i (a.getD f 0) (b.getD g 0)))=dt S i a b d f (g+1)):=λf g be=>Ei t a b be;have am:w2 (∀f g,(g=m\/d<=f+g)->dt S i a b d f g=dt S i a b d (f+1) 0):=λf g a4=>ER t a b K (by rw[<-E];exact a4);have bf:w2 (∀f g,ak S (dt S i a b d f g)):=λf g=>mw t a b d f g;have G:=aa hn;have P:=aa E;clear t K X N hb M hn E;go_enter func200,ntmps200;go_wp2;go_loopw [17] (λf wr=>∃k:Nat,k<=n/\f=I J k/\w2 (gW w wr (ji l S o bl) (dt S i a b d k 0))) (λf _=>n-(intOf f).toNat)
 case atStart=>exact⟨0,x1 _,rfl,by rw[a3.out];exact gW.Sh w l S o bl d _⟩
 case round=>
  obtain⟨k,b1,rfl,C⟩:=hrel;by_cases bi:k<n
  ·obtain⟨b2,rfl,-,z⟩:=(a0.out.below C.out.B) (by rw[ao,<-G.out];omega);have Q:=z k (by rw[ao,<-G.out];exact bi);rw[bT]at Q;have a5:w2 (a.getD k 0<S):=bb.out k;generalize Y:a.getD k 0=x at*;have bo:=aa Y;clear Y z;go_wp2;clear Q;obtain⟨T,rfl⟩:∃T:wR,T=wr:=⟨_,rfl⟩;go_loopw [12] (λg wr=>∃q:Nat,q<=m/\g=I J q/\w2 (gW w wr (ji l S o bl) (dt S i a b d k q))) (λg _=>m-(intOf g).toNat)
   case atStart=>exact⟨0,x1 _,rfl,C⟩
   case round=>
    obtain⟨q,hq,rfl,j⟩:=hrel;by_cases bv:q<m
    ·by_cases bx:k+q<d
     ·obtain⟨a6,rfl,ad,z⟩:=(a1.out.below j.out.B) (by rw[ao,<-P.out];omega);have H:=z q (by rw[ao,<-P.out];exact bv);rw[bT]at H;have a7:w2 (b.getD q 0<S):=bd.out q;have al:w2 (_=_):=bz.out k q bx;rw[bo.out]at al;have a8:w2 ((dt S i a b d k q).getD (k+q) 0<S):=bf.out k q _;have L:=j.out.O.2 (k+q) (by rw[ac.out];omega);generalize bq:b.getD q 0=y at*;generalize bs:(dt S i a b d k q).getD (k+q) 0=u at*;have D:w2 (∀W,af wr W->(W.cell? ⟨w.heap.size,0,U⟩=gk (I J l)/\W.cell? ⟨w.heap.size,1,U⟩=gk (I J S)/\W.cell? ⟨w.heap.size,2,U⟩=gk (.slice (gk ⟨o,0,U⟩) (S-1) (S-1))/\W.cell? ⟨w.heap.size,3,U⟩=gk (.slice (gk ⟨bl,0,U⟩) S S))/\W.cell? ⟨w.heap.size+1,k+q,U⟩=gk (I J (u:Int))/\W.frozen? ⟨w.heap.size+1,k+q,U⟩=R/\W.cell? (a6.add q)=gk (I J (y:Int))):=by
       show∀W,_;intro W r;exact⟨ft (j.out.X.below r),(r.cell j.out.O.1).trans L.1,(r.frozen j.out.O.1).trans L.2,(r.cell (by rw[aD];exact ad)).trans H⟩
      clear bq bs z L H ad;have b9:(0:Int)<=(k:Int)+q:=oO;have ca:(k:Int)+q<(d:Int):=oO;have cb:((k:Int)+q).toNat=k+q:=oO;have bt:J.wrap ((k:Int)+q)=(k:Int)+q:=aG _ oO oO;go_wp2;refine bV (S:=af wr) 20 oK oK (ai (w3 _ _)) ?_;simp only[A3,A0,A4,CQ]
      repeat refine kO D.out ?_
      refine kX (λW r=>mG l S i o bl x y W F.out a5.out a7.out ((a2.out.below j.out.B).below r)) ?_
      repeat refine kO D.out ?_
      refine kX (λW r=>qT l S i o bl u (aA S i x y) W F.out a8.out (bk F.out _ _)) ?_
      repeat refine kO D.out ?_
      refine cX ?_;intro a9 Z;have ab:=aa Z;clear Z;obtain⟨-,ce,ch,-⟩:=D.out a9 ab.out;go_wp2;clear bt;exact⟨⟨q+1,by omega,by go_num,by rw[<-al.out];exact(j.out.below ab.out).set _ _⟩,by simp[intOf];omega⟩
     ·go_wp2;exact⟨⟨k+1,by omega,by go_num,by rw[<-am.out k q (.inr oO)];exact j⟩,by simp[intOf];omega⟩
    ·obtain rfl:q=m:=oO;go_wp2;exact⟨⟨k+1,by omega,by go_num,by rw[<-am.out k q (.inl rfl)];exact j⟩,by simp[intOf];omega⟩
  ·obtain rfl:k=n:=oO;go_wp2;go_ret;refine⟨_,rfl,⟨?_,C.out.B⟩,pS.mk oO⟩;have V:=C.out.O.ints (c:=d) (ac.out _ _).symm (w5 _) oM;rw[G.out]at V;exact V
theorem vF (g S f i bl d:Nat) (a b:List Nat) (A B:xv Addr) (n m k l:Nat) (w:wR) (q:VF g S f) (y:ak S a) (z:ak S b) (hn:n=a.length) (r:m=b.length) (C:n<=4097) (D:m<=4097) (E:1<=d) (F:d<=8193)
 (t:dH w S f i bl) (u:RD w A (zl a)) (hb:RD w B (zl b)):
 wS w1 200 #[gG g S i bl,.slice A n k,.slice B m l,I J d] w λe j=>∃v,e= .returned v/\az j v (zl (dt S f a b d a.length 0))/\af w j:=
 (vO g S f i bl d a b A B n m k l w q y z hn r C D E F t u hb).mono λe j ⟨v,x,o,_⟩=>⟨v,x,o.1,o.2⟩
theorem RD.Tt {w:wR} {A:xv Addr} {a:List Nat} (h:RG vN 0 w A a):RD w A (zl a):=λhn=>by
 rw[ao]at hn;obtain⟨d,e,hl,hc⟩:=h hn;exact⟨d,e,hl,λc b=>by rw[ao]at b;rw[hc c b,bT]⟩
theorem RD.To {w:wR} {A:xv Addr} {a:List Nat} (h:RD w A (zl a)):RG vN 0 w A a:=λhn=>by
 obtain⟨c,e,hl,hc⟩:=h (by rw[ao];exact hn);exact⟨c,e,hl,λb d=>by rw[hc b (by rw[ao];exact d),bT]⟩
theorem az.yG {w:wR} {v:xf} {a:List Nat} (h:SG vN 0 w v a):az w v (zl a):=by
 obtain⟨A,c,rfl,b,d,e⟩:=h;exact⟨A,c,by rw[ao],by rw[ao];exact b,d,RD.Tt e⟩
theorem az.Ti {w:wR} {v:xf} {a:List Nat} (h:az w v (zl a)):SG vN 0 w v a:=by
 obtain⟨A,c,rfl,b,d,e⟩:=h;rw[ao]at b;exact⟨A,c,by rw[ao],b,d,RD.To e⟩
def nf (s b c:Nat) (d:List Nat) (k:Nat):List Nat:=(y3 k).map λa=>aA s b ((a+1)%c) (d.getD (a+1) 0)
theorem tH (s a c:Nat) (b:List Nat) (k:Nat):(nf s a c b k).length=k:=by unfold nf;simp
theorem VF.Be {c s a:Nat} (h:VF c s a):2<=c/\c<=s:=by
 have e:=h.aO;rcases h with⟨-,b,-⟩|⟨d,b,-,-,f,g,-⟩<;>omega
theorem Kd (a S d f bl:Nat) (b:List Nat) (A:xv Addr) (n T:Nat) (w:wR) (l:VF a S d) (hl:ak S b) (hn:n=b.length) (a7:n<=8193) (a8:1<=n) (y:dH w S d f bl) (z:RD w A (zl b)):
 wS w1 203 #[gG a S f bl,.slice A n T] w λe B=>∃v,e= .returned v/\(az B v (zl (nf S d a b (n-1)))/\af w B)/\pS w v:=by
 obtain⟨V,X,ap,av,a0⟩:=info_parts cT;obtain⟨a9,bb⟩:=l.Be;have hs:=l.le;have Y:=aa l;have Z:=aa hl;have C:=aa hn;have s:w2 (af w (w.alloc (fe a S f bl))):=ax _ _;have D:=aa (z.alloc (fe a S f bl));have E:=aa (y.alloc (fe a S f bl));have p:w2 (an (w.alloc (fe a S f bl)) w.heap.size (ji a S f bl)):=an.new _ _ _ _ rfl;obtain⟨m,rfl⟩:∃m,n=m+1:=⟨n-1,by omega⟩;rw[HI];clear l hl hn z y;go_enter func203,ntmps203;go_wp2;obtain⟨j,H⟩:∃j,j=w.alloc (fe a S f bl):=⟨_,rfl⟩;rw[<-H]at D E p s⊢;obtain⟨i,K⟩:∃i,i=w.heap.size:=⟨_,rfl⟩;rw[<-K]at p⊢;have L:w2 (w.heap.size<=j.heap.size):=s.out.size;clear H K;go_loopw [5,6] (λab q wr=>∃k:Nat,1<=k/\k<=m+1/\q=I J (k:Int)/\w2 (OG vN 3 j wr ab (nf S d a b (k-1)))) (λ_ q _=>m+1-(intOf q).toNat)
 case atStart=>exact⟨1,w5 _,by omega,rfl,OG.start _ _⟩
 case round=>
  obtain⟨k,bd,a4,rfl,g⟩:=hrel;by_cases be:k<m+1
  ·obtain⟨F,rfl,P,M⟩:=(D.out.below g.out.B) (by rw[ao,<-C.out];omega);have r:=M k (by rw[ao,<-C.out];omega);rw[bT]at r;have ac:w2 (b.getD k 0<S):=Z.out _;have a1:w2 (nf S d a b k=nf S d a b (k-1)++[aA S d (k%a) (b.getD k 0)]):=by
    show _=_;unfold nf;rw[show y3 k=y3 (k-1+1)from by rw[show k-1+1=k from by omega],List.range_succ,List.map_append];simp only[List.map_cons,List.map_nil];rw[show k-1+1=k from by omega]
   have N:w2 ((nf S d a b (k-1)).length=k-1):=tH _ _ _ _ _;have bq:(k:Int).tmod (a:Int)=((k%a:Nat):Int):=(Int.ofNat_tmod _ _).symm;have ad:w2 (k%a<S):=by
    have:=Nat.mod_lt k (show 0<a by omega);show _<_;omega
   generalize b.getD k 0=x at*;generalize k%a=u at*;have G:w2 (∀W,af wr W->(W.cell? ⟨i,0,U⟩=gk (I J a)/\W.cell? ⟨i,1,U⟩=gk (I J S)/\W.cell? ⟨i,2,U⟩=gk (.slice (gk ⟨f,0,U⟩) (S-1) (S-1))/\W.cell? ⟨i,3,U⟩=gk (.slice (gk ⟨bl,0,U⟩) S S))/\W.cell? (F.add k)=gk (I J (x:Int))):=by
    show∀W,_;intro W o;exact⟨ft (p.out.below (ae g.out.B o)),(o.cell (by rw[aD];exact P)).trans r⟩
   clear r M P;have bf:¬(a=0):=oO;have bi:(k:Int)<(m:Int)+1:=oO;go_wp2;refine' Fg (S:=af wr) 11 oK oK rfl (λ_ _ _ h=>h) (λW=>?_) (ai (w3 _ _)) ?_;rotate_left
   ·go_simp;rfl
   simp only[A3,A0,A4,CQ,Nat.reduceSub,Act.put,List.setIfInBounds_toArray,List.set_cons_zero,List.set_cons_succ]
   repeat refine kO G.out ?_
   refine kX (λW o=>mG a S d f bl u x W Y.out ad.out ac.out ((E.out.below g.out.B).below o)) ?_
   repeat refine kO G.out ?_
   refine cX ?_;intro al O;have t:=aa O;clear O;go_wp2_with(at_builtin;refine aY (f:=vN) (d:=0) uf rfl _ _ _ rfl j.heap.size 3 V _ 8 z1 X ap av a0 rfl _ _ (nf S d a b (k-1)) rfl ((aq g.out.O t.out).alloc _) (gk ⟨al.heap.size,0,U⟩) 1 1 [aA S d u x] rfl rfl (RG.one _ _ _ _ rfl) (by unfold maxLen;have:=N.out;omega) (by have:=N.out;omega) (by have:=g.out.B.size;have:=t.out.size;simp;omega) ?_;intro a5 a6 Q hg;have am:=aa (g.out.grow (ah t.out _) Q hg);clear Q hg)
   exact⟨⟨k+1,by omega,by omega,by go_num,by rw[HI,a1.out];exact am.out⟩,by simp[intOf];omega⟩
  ·obtain rfl:k=m+1:=oO;go_wp2;go_ret;rw[HI]at g;refine⟨_,rfl,⟨az.yG g.out.sg,s.out.trans (g.out.B.mono L.out)⟩,λF n c e=>?_⟩;rcases g.out.O.2 with⟨e6,-⟩|⟨a3,cap,bo,e6,a2,-⟩
   ·rw[e6]at e;injection e with e7;cases e7
   ·rw[e6]at e;injection e with e7;injection e7 with e7;rw[<-e7];exact x3 L.out a2
def dc (s p:Nat) (a b:List Nat) (n d k:Nat):List Nat:=(y3 (max a.length (b.length+n))).map λe=>if n<=e/\e-n<k then bD s p (a.getD e 0) (aA s p d (b.getD (e-n) 0))else a.getD e 0
theorem o7 (s p:Nat) (a b:List Nat) (n d k:Nat):(dc s p a b n d k).length=max a.length (b.length+n):=by unfold dc;simp
theorem JJ (s p:Nat) (a b:List Nat) (n d:Nat):dc s p a b n d 0=a++y0 (max a.length (b.length+n)-a.length) 0:=by
 refine dC ?_ λf e=>?_
 ·rw[o7,List.length_append,S2];omega
 ·rw[o7]at e;unfold dc;rw[bC _ _ _ e,w6 oO];simp only[x4,List.getElem?_append];split
  ·rfl
  ·rename_i g
   rw[B4 oO,List.getElem?_replicate];split<;>rfl
theorem KH (s p:Nat) (a b:List Nat) (n d:Nat) {k:Nat} (i:k<b.length):
 (dc s p a b n d k).set (k+n) (bD s p ((dc s p a b n d k).getD (k+n) 0) (aA s p d (b.getD k 0)))=dc s p a b n d (k+1):=by
 unfold dc;rw[bC _ _ _ oO,fm _ _ _ _ oO];apply A9;intro f j;by_cases e:f=k+n
 ·subst e;rw[xl rfl,w6 oO,xl oO,show k+n-n=k from by omega]
 ·rw[w6 e];by_cases g:n<=f/\f-n<k
  ·rw[xl g,xl oO]
  ·rw[w6 g,w6 oO]
section
variable {c s p : Nat} (h : VF c s p)
include h
theorem AU {a b:List Nat} (f:ak s a) (hb:ak s b) (n d k:Nat):ak s (dc s p a b n d k):=iY h λe _=>by
 split
 ·exact jd h (f e) (bk h _ _)
 ·exact f e
theorem PW {a b:List Nat} (i:ak s a) (hb:ak s b) {n d:Nat} (j:d<s) (e:Nat):co h (dc s p a b n d b.length) e=sQ (co h a) (co h b) n (aR h d) e:=by
 unfold dc sQ;rw[yN,yS];by_cases g:e<max a.length (b.length+n)
 ·rw[xl g];by_cases f:n<=e
  ·rw[xl f];by_cases k:e-n<b.length
   ·rw[xl ⟨f,k⟩,kQ h (i e) (bk h _ _),gd h j (hb _)];rfl
   ·rw[w6 oO,fO h b (e-n) oO,bw,fX];rfl
  ·rw[w6 oO,w6 f,bw,fX];rfl
 ·rw[w6 g,fO h a e oO];split
  ·rw[fO h b (e-n) oO,bw,fX]
  ·rw[bw,fX]
end
theorem KV:(prog.info? 3).map (·.size)=gk 1:=oK
theorem KR (a:List Nat):∀v∈(zl a).map (zz .i64),v.oneCell'=wP:=by
 intro u b;obtain⟨y,_,rfl⟩:=List.mem_map.1 b;rfl
theorem bK.of_heap {W:wR} {b:Nat} {d:List Nat} {e:TypeId} (a:W.heap[b]?=gk (.cells (ep d) e (0,0))):bK W b d:=by
 refine⟨ay a,λg f=>⟨?_,frozen_of_row _ _ _ _ _ a⟩⟩;rw[cell_of_row _ _ _ _ _ _ a,iU];simp[x4,f]
theorem xN (j S i l bl f d:Nat) (a b:List Nat) (A B:xv Addr) (n m T a7:Nat) (w:wR) (G:VF j S i) (N:ak S a) (O:ak S b) (a8:d<S) (hn:n=a.length) (z:m=b.length) (ce:1<=n) (ch:n<=4097) (ci:m+f<=4097)
 (V:dH w S i l bl) (H:RD w A (zl a)) (hb:RD w B (zl b)):
 wS w1 198 #[gG j S l bl,.slice A n T,.slice B m a7,I J f,I J d] w λe X=>∃v,e= .returned v/\az X v (zl (dc S i a b f d b.length))/\af w X:=by
 obtain⟨g,Y⟩:∃g,g=max n (m+f):=⟨_,rfl⟩;have ck:max (n:Int) ((m:Int)+(f:Int))=(g:Int):=oO;have co:1<=g:=oO;have cp:g<=4097:=oO;have bq:n<=g:=oO;have cq:m+f<=g:=oO;have cr:=S0 (P:=w1) 64 3 (I J 0) 8 z1 cT rfl .i64 .i64 g oO oO;have K:=aa G;have cs:=aa N;have bs:=aa O;have b9:=aa H;have a9:=aa hb;have bb:=aa V;have am:w2 (max a.length (b.length+f)=g):=by show _=_;rw[Y,hn,z]
 have a4:w2 (∀k,(dc S i a b f d k).length=g):=λk=>by rw[o7];exact am.out
 have b7:w2 (∀k,k<m->(dc S i a b f d k).set (k+f) (bD S i ((dc S i a b f d k).getD (k+f) 0) (aA S i d (b.getD k 0)))=dc S i a b f d (k+1)):=λk Z=>KH S i a b f d (by rw[<-z];exact Z);have bt:w2 (∀k,ak S (dc S i a b f d k)):=λk=>AU G N O f d k;have ca:=aa hn;have L:=aa z;have q:n=((zl a).map (zz .i64)).length:=by rw[List.length_map,ao];exact hn
 have cv:=aa q;have b3:w2 ((C2 #[zz .i64 0] g)=(y0 g (zz .i64 0)).toArray):=by
  show _=_;apply Array.ext';rw[toList_madeCells_one]
 have b4:w2 ((splice (y0 g (zz .i64 0)) 0 ((zl a).map (zz .i64))).toArray=ep (dc S i a b f d 0)):=by
  show _=_;rw[JJ,am.out];unfold ep splice;apply congrArg;rw[A0,List.nil_append,List.map_append,<-q,<-hn,Nat.zero_add,List.drop_replicate,List.map_replicate];congr 1;unfold zl;rw[List.map_map];rfl
 obtain⟨bd,rfl,a5,ap⟩:=H (by rw[ao,<-hn];omega);have P:af w ((w.alloc (fe j S l bl)).alloc (.cells (C2 #[zz .i64 0] g) 3)):=ah (ax _ _) _;have M:((w.alloc (fe j S l bl)).alloc (.cells (C2 #[zz .i64 0] g) 3)).heap[w.heap.size+1]?=gk (.cells (y0 g (zz .i64 0)).toArray 3 (0,0)):=by
  rw[<-b3.out];have:=heap_alloc_new (w.alloc (fe j S l bl)) (.cells (C2 #[zz .i64 0] g) 3);simpa using this
 have E:=run_copy_row (P:=w1) ((w.alloc (fe j S l bl)).alloc (.cells (C2 #[zz .i64 0] g) 3)) 64 64 3 3 (w.heap.size+1) 0 g g bd n T _ _ ((zl a).map (zz .i64)) z1 KV M (by rw[<-q];exact(Nat.min_eq_left bq).symm) (λa6 v ab=>by
  rw[List.getElem?_map]at ab;obtain⟨x,ac,rfl⟩:=Option.map_eq_some_iff.1 ab;have bv:=(List.getElem?_eq_some_iff.1 ac).1;rw[P.cell (by rw[aD];exact a5),ap a6 bv]
  simp[x4,ac]) (by rw[<-q];simp;omega) (KR a)
 rw[<-q]at E;have av:(List.take 0 (y0 g (zz .i64 0)).toArray.toList++(zl a).map (zz .i64)++List.drop (0+n) (y0 g (zz .i64 0)).toArray.toList).toArray=ep (dc S i a b f d 0):=by
  rw[<-b4.out];unfold splice;rw[<-q,List.append_assoc]
 rw[av]at E;obtain⟨C,F⟩:∃C,C=((w.alloc (fe j S l bl)).alloc (.cells (C2 #[zz .i64 0] g) 3)).setRow (w.heap.size+1) (ep (dc S i a b f d 0)):=⟨_,rfl⟩;rw[<-F]at E;have bx:w2 (gW w C (ji j S l bl) (dc S i a b f d 0)):=by
  have hb:Below (w.heap.size+1) ((w.alloc (fe j S l bl)).alloc (.cells (C2 #[zz .i64 0] g) 3)) C:=by rw[F];exact below_setRow (w3 _ _) (w5 _) _
  refine⟨P.trans (hb.mono (Nat.le_succ _)),⟨?_,λt be=>?_⟩,?_⟩
  ·have:=hb.size;simp at this;omega
  ·rw[hb.cell (by show w.heap.size<_;omega)];exact((an.new w _ 152 _ rfl).alloc _).2 t be
  ·exact bK.of_heap (by rw[F];exact setRow_heap _ _ _ _ _ _ M)
 clear G N O H hb V hn z Y q a5 ap P M av F;go_enter func198,ntmps198;go_wp2;clear E;go_loopw [27] (λt wr=>∃k:Nat,k<=m/\t=I J k/\w2 (gW w wr (ji j S l bl) (dc S i a b f d k))) (λt _=>m-(intOf t).toNat)
 case atStart=>exact⟨0,x1 _,rfl,bx.out⟩
 case round=>
  obtain⟨k,Z,rfl,o⟩:=hrel;by_cases a0:k<m
  ·obtain⟨cb,rfl,b5,a1⟩:=(a9.out.below o.out.B) (by rw[ao,<-L.out];omega);have ad:=a1 k (by rw[ao,<-L.out];exact a0);rw[bT]at ad;have bf:w2 (b.getD k 0<S):=bs.out k;have b6:w2 (_=_):=b7.out k a0;have bi:w2 ((dc S i a b f d k).getD (k+f) 0<S):=bt.out k _;have Q:=o.out.O.2 (k+f) (by rw[a4.out];omega);generalize bz:b.getD k 0=y at*;generalize b1:(dc S i a b f d k).getD (k+f) 0=u at*;have D:w2 (∀W,af wr W->(W.cell? ⟨w.heap.size,0,U⟩=gk (I J j)/\W.cell? ⟨w.heap.size,1,U⟩=gk (I J S)/\W.cell? ⟨w.heap.size,2,U⟩=gk (.slice (gk ⟨l,0,U⟩) (S-1) (S-1))/\W.cell? ⟨w.heap.size,3,U⟩=gk (.slice (gk ⟨bl,0,U⟩) S S))/\W.cell? ⟨w.heap.size+1,k+f,U⟩=gk (I J (u:Int))/\W.frozen? ⟨w.heap.size+1,k+f,U⟩=R):=by
    show∀W,_;intro W r;exact⟨ft (o.out.X.below r),(r.cell o.out.O.1).trans Q.1,(r.frozen o.out.O.1).trans Q.2⟩
   clear bz b1 a1 Q b5;have cx:(0:Int)<=(k:Int)+f:=oO;have cy:(k:Int)+f<(g:Int):=oO;have c2:((k:Int)+f).toNat=k+f:=oO;have b2:J.wrap ((k:Int)+f)=(k:Int)+f:=aG _ oO oO;go_wp2;clear ad;refine bV (S:=af wr) 17 oK oK (ai (w3 _ _)) ?_;simp only[A3,A0,A4,CQ]
   repeat refine kO D.out ?_
   refine kX (λW r=>mG j S i l bl d y W K.out a8 bf.out ((bb.out.below o.out.B).below r)) ?_
   repeat refine kO D.out ?_
   refine kX (λW r=>Nq j S i l bl u (aA S i d y) W K.out bi.out (bk K.out _ _)) ?_
   repeat refine kO D.out ?_
   refine cX ?_;intro bo a2;have a3:=aa a2;clear a2;obtain⟨-,c3,c4⟩:=D.out bo a3.out;go_wp2;clear b2;exact⟨⟨k+1,by omega,by go_num,by rw[<-b6.out];exact(o.out.below a3.out).set _ _⟩,by simp[intOf];omega⟩
  ·obtain rfl:k=m:=oO;go_wp2;go_ret;refine⟨_,rfl,?_,o.out.B⟩;have al:=o.out.O.ints (c:=g) (a4.out _).symm (w5 _) oM;rw[L.out]at al;exact al
abbrev bZ (a S b c first:Nat):xf:= .agg #[I J a,I J S,I J b,I J c,I J first]
abbrev mF (a S b c first:Nat):List xf:=[I J a,I J S,I J b,I J c,I J first]
abbrev iB (a S b c first:Nat):Obj:= .cells #[I J a,I J S,I J b,I J c,I J first] 91
theorem ns {W:wR} {b a S c d first:Nat} (h:an W b (mF a S c d first)):W.cell? ⟨b,0,U⟩=gk (I J a)/\W.cell? ⟨b,1,U⟩=gk (I J S)/\W.cell? ⟨b,2,U⟩=gk (I J c)/\W.cell? ⟨b,3,U⟩=gk (I J d)/\W.cell? ⟨b,4,U⟩=gk (I J first):=
 ⟨h.2 0 oS,h.2 1 oS,h.2 2 oS,h.2 3 oS,h.2 4 oS⟩
structure tP (w wr:wR) (b c:List xf) (a:List Nat):Prop where
 B:af w wr
 X:an wr w.heap.size b
 Z:an wr (w.heap.size+1) c
 O:bK wr (w.heap.size+2) a
theorem tP.below {w wr W:wR} {b c:List xf} {a:List Nat} (h:tP w wr b c a) (hb:af wr W):tP w W b c a:=⟨ae h.B hb,h.X.below hb,h.Z.below hb,h.O.below hb⟩
theorem tP.set {w wr:wR} {c d:List xf} {b:List Nat} (h:tP w wr c d b) (a v:Nat):tP w (wr.setCell ⟨w.heap.size+2,a,U⟩ (I J (v:Int))) c d (b.set a v):=
 ⟨h.B.setCell oS _,h.X.other _ _ oS,h.Z.other _ _ oS,h.O.set a v⟩
noncomputable def jU (s a d first:Nat) (w:List Nat) (b k:Nat):List Nat:=(y3 d).map λc=>if c<b then iK s a first w c else if c=b then lj s a (dk s a (first+b)) w k else 0
theorem tF (s b a first:Nat) (w:List Nat) (c k:Nat):(jU s b a first w c k).length=a:=by unfold jU;simp
theorem K4 (s c b first:Nat) (w:List Nat):jU s c b first w 0 0=y0 b 0:=by
 refine dC (by rw[tF,S2]) λd a=>?_;rw[tF]at a;unfold jU;rw[bC _ _ _ a,w6 oO];have:(y0 b 0).getD d 0=0:=by simp[x4,a]
 rw[this];split<;>rfl
theorem O0 (s b c first:Nat) (w:List Nat) {a:Nat} (d:a<c) (k:Nat):
 (jU s b c first w a k).set a (bU s b (aA s b ((jU s b c first w a k).getD a 0) (dk s b (first+a))) (w.getD k 0))=jU s b c first w a (k+1):=by
 unfold jU;rw[bC _ _ _ d,fm _ _ _ _ d];apply A9;intro f g;by_cases e:f=a
 ·subst e;rw[xl rfl,w6 oO,xl rfl,w6 oO,xl rfl];rfl
 ·rw[w6 e,w6 e,w6 e]
theorem OB (s b f first:Nat) (w:List Nat) (a:Nat):jU s b f first w a w.length=jU s b f first w (a+1) 0:=by
 unfold jU;apply A9;intro c g;by_cases e:c=a
 ·subst e;rw[w6 oO,xl rfl,xl oO];rfl
 ·by_cases d:c<a
  ·rw[xl d,xl oO]
  ·rw[w6 d,w6 e,w6 oO];split<;>rfl
theorem Rb (s b a first:Nat) (w:List Nat):jU s b a first w a 0=bO s b a first w:=by
 unfold jU bO;apply A9;intro d c;rw[List.mem_range]at c;rw[xl c]
theorem Rp {c s a:Nat} (h:VF c s a) {f first:Nat} {w:List Nat} (b:ak s w) (d k:Nat):ak s (jU s a f first w d k):=iY h λe _=>by
 split
 ·exact AO h b e
 split
 ·exact uG h b k
 ·have:=h.aO;omega
theorem Cc (f S a g bl b first:Nat) (d:List Nat) (A:xv Addr) (n N:Nat) (w:wR) (p:VF f S a) (hl:ak S d) (hn:n=d.length) (b1:n<=4097) (b2:1<=b) (bs:b<=4097) (bt:first<=4097) (s:dH w S a g bl) (t:RD w A (zl d)):
 wS w1 197 #[gG f S g bl,bZ f S a b first,.slice A n N] w λe x=>∃v,e= .returned v/\az x v (zl (bO S a b first d))/\af w x:=by
 have b3:=S0 (P:=w1) 64 3 (I J 0) 8 z1 cT rfl .i64 .i64 b oO oO;have m:=aa p;have O:=aa hl;have P:=aa t;have z:=aa s;have B:=aa hn;have M:w2 (∀c k,(jU S a b first d c k).length=b):=λc k=>tF _ _ _ _ _ _ _;have bo:w2 (∀c k,c<b->(jU S a b first d c k).set c (bU S a (aA S a ((jU S a b first d c k).getD c 0) (dk S a (first+c))) (d.getD k 0))=jU S a b first d c (k+1)):=λc k Q=>O0 S a b first d Q k
 have bq:w2 (∀c,jU S a b first d c n=jU S a b first d (c+1) 0):=λc=>by rw[hn];exact OB S a b first d c
 have a3:w2 (∀c k,ak S (jU S a b first d c k)):=λc k=>Rp p hl c k;have a4:w2 (tP w (((w.alloc (fe f S g bl)).alloc (iB f S a b first)).alloc (.cells (C2 #[zz .i64 0] b) 3)) (ji f S g bl) (mF f S a b first) (jU S a b first d 0 0)):=by
  rw[K4];exact⟨ah (ah (ax _ _) _) _,((an.new _ _ _ _ rfl).alloc _).alloc _,(an.new _ _ _ _ oS).alloc _,bK.made _ _ _ _ oS⟩
 have a5:w2 (an ((w.alloc (fe f S g bl)).alloc (iB f S a b first)) (w.heap.size+1) (mF f S a b first)):=an.new _ _ _ _ oS;obtain⟨T,V,X,Y,Z⟩:=ns a5.out;clear p hl t s hn;go_enter func197,ntmps197;go_wp2;clear T V X Y Z;go_loopw [17] (λc wr=>∃k:Nat,k<=b/\c=I J k/\w2 (tP w wr (ji f S g bl) (mF f S a b first) (jU S a b first d k 0))) (λc _=>b-(intOf c).toNat)
 case atStart=>exact⟨0,x1 _,rfl,a4.out⟩
 case round=>
  obtain⟨k,bv,rfl,l⟩:=hrel;by_cases F:k<b
  ·obtain⟨ab,ac,ad,al⟩:=ft l.out.X;obtain⟨c0,c1,am,ap,av⟩:=ns l.out.Z;have a6:w2 (dk S a (first+k)<S):=fj m.out _;have a7:w2 (∀W,af w W->wS w1 152 #[gG f S g bl,I J ((first:Int)+(k:Int))] W (au (I J ((dk S a (first+k):Nat):Int)) W)):=by
    show∀W,_;intro W i;have:=nS f S a g bl (first+k) W m.out oO (z.out.below i);simpa using this
   have be:w2 (∀q,(jU S a b first d k q).set k (bU S a (aA S a ((jU S a b first d k q).getD k 0) (dk S a (first+k))) (d.getD q 0))=jU S a b first d k (q+1)):=λq=>bo.out k q F;generalize dk S a (first+k)=C at*;go_wp2_with(go_at_call 152;refine(a7.out _ l.out.B).mono ?_;rintro e bx ⟨rfl,G⟩;have a8:=aa (l.out.below G);clear G)
   clear ab ac ad al c0 c1 am ap av;go_loopw [28] (λc wr=>∃q:Nat,q<=n/\c=I J q/\w2 (tP w wr (ji f S g bl) (mF f S a b first) (jU S a b first d k q))) (λc _=>n-(intOf c).toNat)
   case atStart=>exact⟨0,x1 _,rfl,a8.out⟩
   case round=>
    clear l;obtain⟨q,hq,rfl,j⟩:=hrel;by_cases bf:q<n
    ·obtain⟨bz,rfl,bi,H⟩:=(P.out.below j.out.B) (by rw[ao,<-B.out];omega);have D:=H q (by rw[ao,<-B.out];exact bf);rw[bT]at D;have a0:w2 (d.getD q 0<S):=O.out q;have a9:w2 (_=_):=be.out q;have a1:w2 ((jU S a b first d k q).getD k 0<S):=a3.out k q _;have r:=j.out.O.2 k (by rw[M.out];exact F);generalize bb:d.getD q 0=y at*;generalize bd:(jU S a b first d k q).getD k 0=u at*;have o:w2 (∀W,af wr W->(W.cell? ⟨w.heap.size,0,U⟩=gk (I J f)/\W.cell? ⟨w.heap.size,1,U⟩=gk (I J S)/\W.cell? ⟨w.heap.size,2,U⟩=gk (.slice (gk ⟨g,0,U⟩) (S-1) (S-1))/\W.cell? ⟨w.heap.size,3,U⟩=gk (.slice (gk ⟨bl,0,U⟩) S S))/\W.cell? ⟨w.heap.size+2,k,U⟩=gk (I J (u:Int))/\W.frozen? ⟨w.heap.size+2,k,U⟩=R):=by
      show∀W,_;intro W i;exact⟨ft (j.out.X.below i),(i.cell j.out.O.1).trans r.1,(i.frozen j.out.O.1).trans r.2⟩
     clear bb bd H r bi;go_wp2;clear D;refine bV (S:=af wr) 13 oK oK (ai (w3 _ _)) ?_;simp only[A3,A0,A4,CQ]
     repeat refine kO o.out ?_
     refine kX (λW i=>mG f S a g bl u C W m.out a1.out a6.out ((z.out.below j.out.B).below i)) ?_
     repeat refine kO o.out ?_
     refine kX (λW i=>qT f S a g bl (aA S a u C) y W m.out (bk m.out _ _) a0.out) ?_
     repeat refine kO o.out ?_
     refine cX ?_;intro a2 K;have L:=aa K;clear K;obtain⟨-,b4,b5⟩:=o.out a2 L.out;go_wp2;exact⟨⟨q+1,by omega,by go_num,by rw[<-a9.out];exact(j.out.below L.out).set _ _⟩,by simp[intOf];omega⟩
    ·obtain rfl:q=n:=oO;go_wp2;exact⟨⟨k+1,by omega,by go_num,by rw[<-bq.out];exact j⟩,by simp[intOf];omega⟩
  ·obtain rfl:k=b:=oO;go_wp2;go_ret;refine⟨_,rfl,?_,l.out.B⟩;have E:=l.out.O.ints (c:=k) (M.out _ _).symm (w5 _) oM;rw[Rb]at E;exact E
theorem az.nat {w:wR} {v:xf} {a:List Nat} (h:az w v (zl a)):∃A c,v= .slice A a.length c/\a.length<=c/\c<=maxLen/\RD w A (zl a):=by
 obtain⟨A,c,rfl,b,d,e⟩:=h;rw[ao]at b⊢;exact⟨A,c,rfl,b,d,e⟩
section
variable {c s p : Nat} (h : VF c s p)
include h
theorem ED {a b:List Nat} (f:ak s a) (hs:ak s b) {n k L:Nat} (g:k<=n+1) (i:dI (L+1) (co h a)) (e:L<k\/a.length<=k):aR h (lK s p (fQ s p a b n) k)=conv (co h a) (co h b) n:=by
 rw[IY h _ (oe h a b n),qv];have e1:dX (λk=>aR h (fQ s p a b n k)) k=dX (λk=>co h a k* co h b (n-k)) k:=jI λd j=>by rw[Dp h f hs,xl oO]
 rw[e1];refine(tc (λd l m=>?_) g).symm;have:co h a d=0:=by
  rcases e with e|e
  ·exact i d oO
  ·exact fO h a d oO
 rw[this,cG]
structure fp (a:List Nat) (N n:Nat) (C B:List Nat) (L m b:Nat):Prop where
 kl:qW h (co h a) N n (co h C) (co h B) L m (aR h b)
 hC:ak s C
 hB:ak s B
 hb:b<s
 lC:C.length<=n+1
 lB:B.length+m<=n+2
theorem fp.start (b:List Nat) (N:Nat):fp h b N 0 [1] [1] 0 1 1:=by
 have d:=h.aO;have hl:ak s [1]:=λa=>by
  match a with
  |0=>show 1<s;omega
  |a+1=>show([1]:List Nat).getD (a+1) 0<s;simp[x4];omega
 have e:co h [1]=ju 1:=by
  funext a;unfold co ju
  match a with
  |0=>exact lf h
  |a+1=>rw[w6 oO];exact bS h
 refine⟨?_,hl,hl,by omega,by simp,by simp⟩;rw[e,lf];exact qW.start h _ N
theorem fp.c1 {g:List Nat} {N n:Nat} {a B:List Nat} {L m b:Nat} (hb:fp h g N n a B L m b):1<=a.length/\a.getD 0 0≠0:=by
 have d:co h a 0=1:=hb.kl.kl.c0;have f:a.getD 0 0≠0:=λe=>by
  unfold co at d;rw[e,bS]at d;exact lU d.symm
 refine⟨?_,f⟩;rcases HS a.length with e|e
 ·rw[List.eq_nil_of_length_eq_zero e]at f;exact absurd rfl f
 ·exact e
theorem fp.b0 {d:List Nat} {N n:Nat} {a B:List Nat} {L m b:Nat} (hb:fp h d N n a B L m b):b≠0:=λe=>by
 have:=hb.kl.kl.b0;rw[e,bS]at this;exact this rfl
theorem fp.skip {d:List Nat} {N n:Nat} {a B:List Nat} {L m b:Nat} (hb:fp h d N n a B L m b) (e:conv (co h a) (co h d) n=0):fp h d N (n+1) a B L (m+1) b:=
 ⟨hb.kl.skip h e,hb.hC,hb.hB,hb.hb,by have:=hb.lC;omega,by have:=hb.lB;omega⟩
theorem Cx {e:List Nat} {N n:Nat} {a B:List Nat} {L m b d:Nat} (hb:fp h e N n a B L m b):(dc s p a B m d B.length).length<=n+1+1:=by
 have:=hb.lC;have:=hb.lB;rw[o7];omega
theorem Lx {a B:List Nat} (e:ak s a) (hB:ak s B) {m b:Nat} (f:b<s):co h (dc s p a B m b B.length)=sQ (co h a) (co h B) m (aR h b):=funext λd=>PW h e hB f d
theorem ratio {d b:Nat} (a:d<s) (hb:b<s) (e:b≠0):aR h (aA s p d (bW s p b))* aR h b=aR h d:=by
 rw[gd h a (gM h),cJ,cC (aR h (bW s p b)),wJ h hb e,fT]
theorem fp.grow {e:List Nat} {N n:Nat} {a B:List Nat} {L m b d:Nat} (hb:fp h e N n a B L m b) (hn:n<N) (f:d<s) (k:d≠0) (g:aR h d=conv (co h a) (co h e) n) (i:2* L<=n):
 fp h e N (n+1) (dc s p a B m (aA s p d (bW s p b)) B.length) a (n+1-L) 1 d:=by
 have j:aA s p d (bW s p b)<s:=bk h _ _;refine⟨?_,AU h hb.hC hb.hB _ _ _,hb.hC,f,Cx h hb,by have:=hb.lC;omega⟩;rw[Lx h hb.hC hb.hB j,g];exact hb.kl.grow h hn (by rw[<-g];exact K6 h f k) (by rw[ratio h f hb.hb (fp.b0 h hb)];exact g) i
theorem fp.stay {e:List Nat} {N n:Nat} {a B:List Nat} {L m b d:Nat} (hb:fp h e N n a B L m b) (f:d<s) (j:aR h d=conv (co h a) (co h e) n) (g:n<2* L):
 fp h e N (n+1) (dc s p a B m (aA s p d (bW s p b)) B.length) B L (m+1) b:=by
 have i:aA s p d (bW s p b)<s:=bk h _ _;refine⟨?_,AU h hb.hC hb.hB _ _ _,hb.hB,hb.hb,Cx h hb,by have:=hb.lB;omega⟩;rw[Lx h hb.hC hb.hB i];exact hb.kl.stay h (by rw[ratio h f hb.hb (fp.b0 h hb)];exact j) g
end
theorem D0 {a:List Nat} (b:a.getD 0 0≠0):∀n,1<=n->1<=tl a n
 |n+1,_=>by
  unfold tl;split
  ·rename_i d
   match n with
   |0=>exact absurd d b
   |n+1=>exact D0 b (n+1) oO
  ·omega
def TR {d S e:Nat} (a:VF d S e) (f:List Nat) (n:Nat) (w b:wR) (v:xf):Prop:=∃(q:List Nat) (L:Nat),az b v (zl q)/\ak S q/\dm q/\1<=q.length/\q.length<=n+1/\jZ a (co a f) n (co a q) L/\af w b
theorem Fm (r S f t bl:Nat) (l:List Nat) (A:xv Addr) (n d0:Nat) (w:wR) (i:VF r S f) (hl:ak S l) (hn:n=l.length) (fr:n<=4094) (ce:dH w S f t bl) (ch:RD w A (zl l)):
 wS w1 201 #[gG r S t bl,.slice A n d0] w λe d1=>∃v,e= .returned v/\TR i l n w d1 v:=by
 have H:=aa i;have ca:=aa hl;have ci:=aa hn;have ck:=aa (ch.alloc (fe r S t bl));have ab:=aa (ce.alloc (fe r S t bl));have eA:w2 (fp i l n 0 [1] [1] 0 1 1):=fp.start i l n;obtain⟨E,Z⟩:∃E,E=w.alloc (fe r S t bl):=⟨_,rfl⟩;have bt:w2 (an E w.heap.size (ji r S t bl)):=by rw[Z];exact an.new _ _ _ _ rfl
 have c5:w2 (af w E):=by rw[Z];exact ax _ _
 have a1:w2 (az ((E.alloc (.cells #[I J 1] 3)).alloc (.cells #[I J 1] 3)) (.slice (gk ⟨w.heap.size+1,0,U⟩) 1 1) (zl [1])):=(az.lit _ [1] 3 _ 1 (by rw[Z];simp) rfl oO).below (ax _ _);have a2:w2 (az ((E.alloc (.cells #[I J 1] 3)).alloc (.cells #[I J 1] 3)) (.slice (gk ⟨w.heap.size+1+1,0,U⟩) 1 1) (zl [1])):=az.lit _ [1] 3 _ 1 (by rw[Z];simp) rfl oO;have b5:w2 (af E ((E.alloc (.cells #[I J 1] 3)).alloc (.cells #[I J 1] 3))):=ah (ax _ _) _;rw[<-Z]at ck ab;clear hl hn ch ce;go_enter func201,ntmps201;go_wp2;rw[<-Z];obtain⟨K,c6⟩:∃K,K=w.heap.size:=⟨_,rfl⟩;have eh:w2 (w.heap.size<=E.heap.size):=c5.out.size;rw[<-c6]at bt a1 a2⊢;clear Z c6;generalize(E.alloc (.cells #[I J 1] 3)).alloc (.cells #[I J 1] 3)=fb at*;go_loopw [5,6,7,8,9,19] (λd2 d3 d4 d5 d6 V wr=>∃(k:Nat) (a g:List Nat) (L m b:Nat) (O P:xv Addr) (c1 T:Nat),k<=n/\L<=8000/\m<=8000/\V=I J k/\d4=I J L/\d5=I J m/\d6=I J b/\d2= .slice O a.length c1/\d3= .slice P g.length T/\w2 (fp i l n k a g L m b)/\w2 (az wr (.slice O a.length c1) (zl a))/\w2 (az wr (.slice P g.length T) (zl g))/\w2 (af E wr)) (λ_ _ _ _ _ V _=>n-(intOf V).toNat)
 case atStart=>exact⟨0,[1],[1],0,1,1,_,_,1,1,x1 _,by omega,by omega,rfl,rfl,rfl,rfl,rfl,rfl,eA.out,a1.out,a2.out,b5.out⟩
 case round=>
  obtain⟨k,a,g,L,m,b,O,P,c1,T,fc,ek,el,rfl,rfl,rfl,rfl,rfl,rfl,j,be,b3,hB⟩:=hrel;obtain⟨u,a7⟩:∃u,u=a.length:=⟨_,rfl⟩;obtain⟨av,bo⟩:∃av,av=g.length:=⟨_,rfl⟩;have f2:u<=k+1:=by rw[a7];exact j.out.lC
  have f3:av+m<=k+2:=by rw[bo];exact j.out.lB
  have bq:1<=u:=by rw[a7];exact(fp.c1 i j.out).1
  have fv:L<=k:=j.out.kl.kl.ln;have B:=aa a7;have ad:=aa bo;rw[<-a7]at be⊢;rw[<-bo]at b3⊢;have bf:w2 (RD wr O (zl a)):=by
   obtain⟨cp,cq,e,-,-,bz⟩:=be.out;injection e with e1 e2 e3;rw[e1];exact bz
  have ec:w2 (RD wr P (zl g)):=by
   obtain⟨cp,cq,e,-,-,bz⟩:=b3.out;injection e with e1 e2 e3;rw[e1];exact bz
  have di:u<=c1/\c1<=maxLen:=by
   obtain⟨cp,cq,e,cr,d7,-⟩:=be.out;injection e with e1 e2 e3;rw[e3];rw[<-e2]at cr;exact⟨cr,d7⟩
  have em:=aa di;clear a7 bo di ek el;by_cases ef:k<n
  ·go_wp2;obtain⟨b1,rfl⟩:∃b1:wR,b1=wr:=⟨_,rfl⟩;go_loopw [11,12] (λd8 V wr=>∃q d:Nat,q<=k+1/\q<=L+1/\q<=u/\V=I J q/\d8=I J d/\w2 (d=lK S f (fQ S f a l k) q)/\w2 (af b1 wr)) (λ_ V _=>u-(intOf V).toNat)
   case atStart=>exact⟨0,0,by omega,by omega,by omega,rfl,rfl,rfl,w3 _ _⟩
   case round=>
    obtain⟨q,d,hq,fw,fx,rfl,rfl,a9,F⟩:=hrel;have am:w2 (d<S):=by show _<_;rw[a9.out];exact sk H.out _ (oe H.out a l k) q
    by_cases b2:q<=L/\q<u
    ·obtain⟨f4,e0⟩:=b2;obtain⟨x,X⟩:∃x,x=a.getD q 0:=⟨_,rfl⟩;obtain⟨y,bb⟩:∃y,y=l.getD (k-q) 0:=⟨_,rfl⟩;have d9:w2 (x<S):=by show _<_;rw[X];exact j.out.hC q
     have ea:w2 (y<S):=by show _<_;rw[bb];exact ca.out _
     have en:w2 (bU S f d (aA S f x y)=lK S f (fQ S f a l k) (q+1)):=by
      show _=bU S f (lK S f (fQ S f a l k) q) (fQ S f a l k q);rw[<-a9.out];unfold fQ;rw[xl oO,X,bb]
     obtain⟨eq,rfl,dv,dl⟩:=(bf.out.below F.out) (by rw[ao,<-B.out];omega);obtain⟨er,rfl,dx,dn⟩:=((ck.out.below hB.out).below F.out) (by rw[ao,<-ci.out];omega);have N:w2 (∀W,af wr W->(W.cell? ⟨K,0,U⟩=gk (I J r)/\W.cell? ⟨K,1,U⟩=gk (I J S)/\W.cell? ⟨K,2,U⟩=gk (.slice (gk ⟨t,0,U⟩) (S-1) (S-1))/\W.cell? ⟨K,3,U⟩=gk (.slice (gk ⟨bl,0,U⟩) S S))/\W.cell? (eq.add q)=gk (I J (x:Int))/\W.cell? (er.add (k-q))=gk (I J (y:Int))):=by
      show∀W,_;intro W Q;refine⟨ft (((bt.out.below hB.out).below F.out).below Q),?_,?_⟩
      ·rw[Q.cell (by rw[aD];exact dv),dl q (by rw[ao,<-B.out];exact e0),bT,X]
      ·rw[Q.cell (by rw[aD];exact dx),dn (k-q) (by rw[ao,<-ci.out];omega),bT,bb]
     obtain⟨z,cs⟩:∃z,z=k-q:=⟨_,rfl⟩;rw[<-cs]at N;have fz:J.wrap ((k:Int)-q)=(z:Int):=by rw[aG _ oO oO];omega
     have es:z<n:=oO;clear X bb cs dv dx dl dn;go_wp2;refine bV (S:=af wr) 15 oK oK (ai (w3 _ _)) ?_;simp only[A3,A0,A4,CQ]
     repeat refine kO N.out ?_
     refine kX (λW Q=>mG r S f t bl x y W H.out d9.out ea.out (((ab.out.below hB.out).below F.out).below Q)) ?_
     repeat refine kO N.out ?_
     refine kX (λW Q=>qT r S f t bl d (aA S f x y) W H.out am.out (bk H.out _ _)) ?_
     repeat refine kO N.out ?_
     refine cX ?_;intro fd c7;have b5:=aa c7;clear c7;go_wp2;exact⟨⟨q+1,_,by omega,by omega,by omega,by go_num,rfl,en.out,ae F.out b5.out⟩,by simp[intOf];omega⟩
    ·by_cases et:q<=L
     ·have fG:¬q<u:=λh=>b2 ⟨et,h⟩;exact Tx
     ·exact Tx
  ·obtain rfl:k=n:=oO;obtain⟨f5,ds⟩:=em.out;have ew:w2 (a.getD 0 0≠0):=(fp.c1 i j.out).2;have b9:w2 (1<=tl a a.length):=D0 ew.out _ (by rw[<-B.out];exact bq);go_wp2;go_loop [14] (λev=>∃e:Nat,1<=e/\e<=u/\ev=I J e/\w2 (tl a e=tl a a.length)) (λev=>(intOf ev).toNat)
   case atStart=>exact⟨u,bq,w5 _,rfl,by show _=_;rw[B.out]⟩
   case round=>
    obtain⟨e,f0,fn,rfl,bd⟩:=hrel;obtain⟨z,rfl⟩:∃z,e=z+1:=⟨e-1,by omega⟩;obtain⟨cv,rfl,f6,c8⟩:=bf.out (by rw[ao,<-B.out];omega);have X:=c8 z (by rw[ao,<-B.out];omega);rw[bT]at X;obtain⟨x,b6⟩:∃x,x=a.getD z 0:=⟨_,rfl⟩;rw[<-b6]at X;have c9:=aa b6;have f1:((z+1:Nat):Int)-1=(z:Int):=oO;have es:z<u:=oO;clear c8 b6;by_cases b7:x=0
    ·subst b7;have da:w2 (tl a z=tl a a.length):=by
      have h:=bd.out;have e1:tl a (z+1)=if a.getD z 0=0 then tl a z else z+1:=rfl
      rw[e1,xl c9.out.symm]at h;exact h
     have ex:1<=z:=by
      rcases HS z with h|h
      ·subst h;have:=da.out;rw[<-this]at b9;exact absurd b9.out (by show¬1<=0;omega)
      ·exact h
     clear bd;go_wp2;exact⟨⟨z,ex,by omega,by go_num,da.out⟩,by simp[intOf]⟩
    ·have dz:((x:Int)==0)=R:=by rw[beq_eq_false_iff_ne];omega
     have cx:w2 (tl a a.length=z+1):=by
      show _=_;have e1:tl a (z+1)=if a.getD z 0=0 then tl a z else z+1:=rfl
      rw[<-bd.out,e1,w6 (by rw[<-c9.out];exact b7)]
     have ey:w2 (eK a=a.take (z+1)):=by show _=_;unfold eK;rw[cx.out]
     have e9:w2 (az wr (.slice (gk cv) (z+1) c1) (zl (eK a))):=by
      show az _ _ _;rw[ey.out];have hl:(zl (a.take (z+1))).length=z+1:=by rw[ao,List.length_take,<-B.out];omega
      refine⟨gk cv,c1,by rw[hl],by rw[hl];omega,ds,?_⟩;have:=bf.out.take (z+1);rwa[show(zl a).take (z+1)=zl (a.take (z+1))from by unfold zl;rw[List.map_take]]at this
     clear bd b7 ds;go_wp2;go_ret;refine⟨_,rfl,eK a,L,e9.out,ky j.out.hC,my _,?_,?_,?_,c5.out.trans (hB.out.mono eh.out)⟩
     ·rw[kf];exact b9.out
     ·rw[kf,cx.out];omega
     ·have ez:co i (eK a)=co i a:=funext λdy=>si i a dy;rw[ez];exact j.out.kl.Rn i
abbrev vV (a S c bl b i first wb n cw eb:Nat) (d e f g:xf):List xf:=
 [I J a,I J S,.slice (gk ⟨c,0,U⟩) (S-1) (S-1),.slice (gk ⟨bl,0,U⟩) S S,I J a,I J S,I J b,I J i,I J first,.slice (gk ⟨wb,0,U⟩) n cw,.slice (gk ⟨eb,0,U⟩) n n,I J 0,d,e,f,g]
structure DK where
 N:Nat
 M:Nat
 w0:wR
 db:Nat
 wb:Nat
 eb:Nat
 be:Nat
 bl:Nat
 C:Nat
 S:Nat
 P:Nat
 par:Nat
 first:Nat
 n:Nat
 cw:Nat
 X:wR->Prop
structure DK.Ok (k:DK):Prop where
 vf:VF k.C k.S k.P
 p1:1<=k.par
 p2:k.par<=k.S-2
 f2:k.first<=k.S-2
 n1:1<=k.n
 n2:k.n<=k.S-1
 TH:k.n<=k.cw
 Ty:k.cw<=maxLen
 lo:k.N<=k.db/\k.N<=k.wb
 e1:k.db≠k.wb
 e2:k.be≠k.db
 e3:k.be≠k.wb
 e4:k.bl≠k.db
 e5:k.bl≠k.wb
 e6:k.eb≠k.db
 e7:k.eb≠k.wb
 xb:∀wr W,k.X wr->Below k.M wr W->wr.heap.size<=W.heap.size->k.X W
 xs:∀wr a b u,(a=k.db\/a=k.wb)->k.X wr->k.X (wr.setCell ⟨a,b,U⟩ u)
 m:k.N<=k.M/\k.db<k.M/\k.wb<k.M/\k.eb<k.M/\k.be<k.M/\k.bl<k.M
def EW (v:xf):Prop:=∃A n c,v= .slice A n c
structure DS (k:DK) (wr:wR) (c d e f:xf) (a:List Nat):Prop where
 ok:k.Ok
 B:Below k.N k.w0 wr
 sz:k.M<=wr.heap.size
 cK:ag wr k.db (vV k.C k.S k.be k.bl k.P k.par k.first k.wb k.n k.cw k.eb c d e f).toArray 155
 W:bK wr k.wb a
 hw:k.n=a.length
 lt:ak k.S a
 T:dH wr k.S k.P k.be k.bl
 E:k.eb<wr.heap.size/\∀b,b<k.n->wr.cell? ⟨k.eb,b,U⟩=gk (.bool R)
 X:k.X wr
theorem DS.KS {k:DK} {wr W:wR} {c d e f:xf} {g:List Nat} (h:DS k wr c d e f g) (hb:Below k.M wr W) (hs:wr.heap.size<=W.heap.size):DS k W c d e f g:=by
 obtain⟨j,l,i,m,n,o⟩:=h.ok.m
 exact⟨h.ok,h.B.trans (hb.mono j),x3 h.sz hs,(hb.block _ l).trans h.cK,⟨x6 h.W.1 hs,λa b=>⟨(hb.cell i).trans (h.W.2 a b).1,(hb.frozen i).trans (h.W.2 a b).2⟩⟩,h.hw,h.lt,
  ⟨x6 h.T.1 hs,x6 h.T.2.1 hs,λa b=>(hb.cell n).trans (h.T.2.2.1 a b),λx p q=>(hb.cell o).trans (h.T.2.2.2 x p q)⟩,⟨x6 h.E.1 hs,λa b=>(hb.cell m).trans (h.E.2 a b)⟩,h.ok.xb _ _ h.X hb hs⟩
theorem DS.below {k:DK} {wr W:wR} {a b c d:xf} {e:List Nat} (h:DS k wr a b c d e) (hb:af wr W):DS k W a b c d e:=h.KS (hb.mono h.sz) hb.size
theorem DS.cells {k:DK} {wr:wR} {b c d e:xf} {f:List Nat} (h:DS k wr b c d e f):
 (wr.cell? ⟨k.db,0,U⟩=gk (I J k.C)/\wr.cell? ⟨k.db,1,U⟩=gk (I J k.S)/\wr.cell? ⟨k.db,2,U⟩=gk (.slice (gk ⟨k.be,0,U⟩) (k.S-1) (k.S-1))/\wr.cell? ⟨k.db,3,U⟩=gk (.slice (gk ⟨k.bl,0,U⟩) k.S k.S))/\
 (wr.cell? ⟨k.db,4,U⟩=gk (I J k.C)/\wr.cell? ⟨k.db,5,U⟩=gk (I J k.S)/\wr.cell? ⟨k.db,6,U⟩=gk (I J k.P)/\wr.cell? ⟨k.db,7,U⟩=gk (I J k.par)/\wr.cell? ⟨k.db,8,U⟩=gk (I J k.first))/\
 (wr.cell? ⟨k.db,9,U⟩=gk (.slice (gk ⟨k.wb,0,U⟩) k.n k.cw)/\wr.cell? ⟨k.db,10,U⟩=gk (.slice (gk ⟨k.eb,0,U⟩) k.n k.n)/\wr.cell? ⟨k.db,11,U⟩=gk (I J 0))/\
 (wr.cell? ⟨k.db,12,U⟩=gk b/\wr.cell? ⟨k.db,13,U⟩=gk c/\wr.cell? ⟨k.db,14,U⟩=gk d/\wr.cell? ⟨k.db,15,U⟩=gk e)/\∀a,wr.frozen? ⟨k.db,a,U⟩=R:=
 ⟨⟨h.cK.cell 0 _ rfl,h.cK.cell 1 _ rfl,h.cK.cell 2 _ rfl,h.cK.cell 3 _ rfl⟩,⟨h.cK.cell 4 _ rfl,h.cK.cell 5 _ rfl,h.cK.cell 6 _ rfl,h.cK.cell 7 _ rfl,h.cK.cell 8 _ rfl⟩,⟨h.cK.cell 9 _ rfl,h.cK.cell 10 _ rfl,h.cK.cell 11 _ rfl⟩,⟨h.cK.cell 12 _ rfl,h.cK.cell 13 _ rfl,h.cK.cell 14 _ rfl,h.cK.cell 15 _ rfl⟩,λa=>frozen_of_row _ _ _ _ _ h.cK⟩
theorem DS.store {k:DK} {wr:wR} {c d f g:xf} {i:List Nat} (h:DS k wr c d f g i) (b:Nat) (u:xf) {j l m n:xf}
 (p:(vV k.C k.S k.be k.bl k.P k.par k.first k.wb k.n k.cw k.eb c d f g).toArray.setIfInBounds b u=(vV k.C k.S k.be k.bl k.P k.par k.first k.wb k.n k.cw k.eb j l m n).toArray):DS k (wr.setCell ⟨k.db,b,U⟩ u) j l m n i:=by
 have a:=h.ok;refine⟨a,h.B.setCell a.lo.1 _,by simpa using h.sz,by rw[<-p];exact h.cK.eN u,h.W.other _ _ (Ne.symm a.e1),h.hw,h.lt,h.T.setCell _ _ a.e2 a.e4,⟨by simpa using h.E.1,λo q=>?_⟩,a.xs _ _ _ _ (.inl rfl) h.X⟩;rw[At wr _ _ u (λe=>a.e6 (by injection e with e1;exact e1.symm))];exact h.E.2 o q
theorem DS.word {k:DK} {wr:wR} {c d f g:xf} {i:List Nat} (h:DS k wr c d f g i) (b v:Nat) (l:v<k.S):DS k (wr.setCell ⟨k.wb,b,U⟩ (I J (v:Int))) c d f g (i.set b v):=by
 have a:=h.ok;refine⟨a,h.B.setCell a.lo.2 _,by simpa using h.sz,?_,h.W.set b v,by rw[List.length_set];exact h.hw,pw h.lt b v l,h.T.setCell _ _ a.e3 a.e5,⟨by simpa using h.E.1,λj m=>?_⟩,a.xs _ _ _ _ (.inr rfl) h.X⟩
 ·exact(heap_setCell_other wr ⟨k.wb,b,U⟩ k.db _ a.e1).trans h.cK
 ·rw[At wr _ _ _ (λe=>a.e7 (by injection e with e1;exact e1.symm))];exact h.E.2 j m
theorem DS.PF {k:DK} {wr:wR} {b c d e:xf} {a:List Nat} (h:DS k wr b c d e a):RD wr (gk ⟨k.wb,0,U⟩) (zl a):=h.W.rd
theorem BG (k:DK) (f g i j:xf) (l:List Nat) (a:Nat) (w:wR) (h:DS k w f g i j l) (m:a<k.n):
 wS w1 199 #[.pointer (gk ⟨k.db,0,U⟩),I J a] w λe o=>e= .returned (I J ((k.n-1-a:Nat):Int))/\o=w:=by
 obtain⟨-,-,⟨p,-,-⟩,-⟩:=h.cells;have hn:=h.ok.n2;have q:=h.ok.vf.le;obtain⟨n,d⟩:∃n,n=k.n:=⟨_,rfl⟩;obtain⟨b,c⟩:∃b,b=k.n-1-a:=⟨_,rfl⟩;rw[<-c];rw[<-d]at p hn m c;have e1:(n:Int)-1-(a:Int)=(b:Int):=oO;have r:n<=4096:=oO;clear h c d hn q;go_enter func199,ntmps199;go_wp2;go_ret;exact⟨rfl,rfl⟩
theorem DS.drew {k:DK} {wr:wR} {a b c d:xf} {e:List Nat} (h:DS k wr a b c d e):DS k wr.drew a b c d e:=h.below (ai (w3 _ _))
theorem iW {c:Program} {d:Array Oper} {S:wR->Prop} {K:Act->wR->Prop} {a:Act} {w:wR} {e:List (Bool×Nat×Oper)} {k:Nat} {b:Oper} (hg:Region.wanted b (yielded d a.tmps)=wP) {w':wR} (f:(execOp a.eval b).run c w= .ok .skip w') (g:S w') (h:bI c d S K e (a.put b.dst undef) w'):bI c d S K ((wP,k,b)::e) a w:=
 .inl ⟨hg,by rw[f];exact⟨g,h⟩⟩
theorem o8 {a:Act} {d:Oper} {W:wR} {x q:Operand} (e:d.op= .store 64 q x) (b:Addr) (A:xv Addr) (n c:Nat) (hq:a.eval q= .pointer (gk b)) (f:a.eval x= .slice A n c) {u:xf} (hc:W.cell? b=gk u) (g:W.frozen? b=R):
 (execOp a.eval d).run w1 W= .ok .skip (W.setCell b (.slice A n c)):=by
 unfold execOp;simp only[e,hq,f,Instr.storeAt,Instr.sureAddr,Sem.run_bind,Sem.run_pure,Result.andThen_ok];go_simp
theorem Jn {k:DK} {wr:wR} {i j l m:xf} {o:List Nat} (h:DS k wr i j l m o) {a:Nat} {A:xv Addr} {n c:Nat} (p:wr.cell? ⟨k.db,a,U⟩=gk (.slice A n c)) (u:xf) {x:xf} {f:List Int} (q:az wr x f):az (wr.setCell ⟨k.db,a,U⟩ u) x f:=by
 obtain⟨B,d,rfl,r,s,t⟩:=q;refine⟨B,d,rfl,r,s,λhn=>?_⟩;obtain⟨v,e,hl,hc⟩:=t hn;refine⟨v,e,by simpa using hl,λb g=>?_⟩;rw[At wr _ _ u (λe2=>?_)]
 ·exact hc b g
 ·have:=hc b g;rw[<-e2,p]at this;injection this with this;cases this
theorem Hf (k:DK) (j b d f:xf) (a:List Nat) (w:wR) (h:DS k w j b d f a) (G:EW j):
 wS w1 160 #[.pointer (gk ⟨k.db,0,U⟩)] w λe p=>e= .returned (.bool wP)/\∃v,DS k p v b d f a/\az p v (zl (bO k.S k.P k.par k.first a)):=by
 have q:=aa h;have B:=h.ok.vf.le;have y:=h.ok.p1;have H:=h.ok.p2;have K:=h.ok.f2;have L:=h.ok.n2
 have s:w2 (∀W,(∃v,DS k W v b d f a)->(W.cell? ⟨k.db,0,U⟩=gk (I J k.C)/\W.cell? ⟨k.db,1,U⟩=gk (I J k.S)/\W.cell? ⟨k.db,2,U⟩=gk (.slice (gk ⟨k.be,0,U⟩) (k.S-1) (k.S-1))/\W.cell? ⟨k.db,3,U⟩=gk (.slice (gk ⟨k.bl,0,U⟩) k.S k.S))/\
  (W.cell? ⟨k.db,4,U⟩=gk (I J k.C)/\W.cell? ⟨k.db,5,U⟩=gk (I J k.S)/\W.cell? ⟨k.db,6,U⟩=gk (I J k.P)/\W.cell? ⟨k.db,7,U⟩=gk (I J k.par)/\W.cell? ⟨k.db,8,U⟩=gk (I J k.first))/\
  (W.cell? ⟨k.db,9,U⟩=gk (.slice (gk ⟨k.wb,0,U⟩) k.n k.cw)/\W.cell? ⟨k.db,11,U⟩=gk (I J 0))):=by
  show∀W,_;rintro W ⟨v,g⟩;obtain⟨C,D,⟨E,N,F⟩,O⟩:=g.cells;exact⟨C,D,E,F⟩
 have z:w2 (∀W,(∃v,DS k W v b d f a)->wS w1 197 #[gG k.C k.S k.be k.bl,bZ k.C k.S k.P k.par k.first,.slice (gk ⟨k.wb,0,U⟩) k.n k.cw] W λe p=>∃v,e= .returned v/\az p v (zl (bO k.S k.P k.par k.first a))/\af W p):=by
  show∀W,_;rintro W ⟨v,g⟩;exact Cc k.C k.S k.P k.be k.bl k.par k.first a _ k.n k.cw W g.ok.vf g.lt g.hw oO y oO oO g.T g.PF
 clear h y H K L B;go_enter func160,ntmps160;go_wp2;refine yO (λW=>∃v,DS k W v b d f a) [1,2,3,4,5,6,7,8,9,10,11,12,13,0,14,0,15,16,0,17] ⟨j,q.out.drew⟩ ?_
 repeat refine zO s.out ?_
 refine zZ ?_;refine(z.out _ ⟨j,q.out.drew⟩).mono ?_;rintro e r ⟨v,rfl,x,hb⟩;have i:w2 (DS k r j b d f a):=q.out.drew.below hb;have t:=aa x;clear x hb q;refine⟨_,rfl,⟨j,i.out⟩,jO ?_⟩
 repeat refine zO s.out ?_
 obtain⟨l,m,o,rfl⟩:∃A n c,v= .slice A n c:=by obtain⟨A,c,e,-⟩:=t.out;exact⟨_,_,_,e⟩
 have u:w2 (DS k (r.setCell ⟨k.db,12,U⟩ (.slice l m o)) (.slice l m o) b d f a):=i.out.store 12 _ rfl;have M:w2 (az (r.setCell ⟨k.db,12,U⟩ (.slice l m o)) (.slice l m o) (zl (bO k.S k.P k.par k.first a))):=by
  obtain⟨P,Q,cz,rfl⟩:=G;exact Jn i.out i.out.cells.2.2.2.1.1 _ t.out
 refine' iW rfl (o8 rfl ⟨k.db,12,U⟩ l m o rfl rfl i.out.cells.2.2.2.1.1 (i.out.cells.2.2.2.2 12)) ⟨_,u.out⟩ ?_;simp only[Act.put];refine aj ?_;generalize r.setCell ⟨k.db,12,U⟩ (.slice l m o)=S at*;clear i t z s;obtain⟨-,⟨-,-,-,T,-⟩,⟨-,-,V⟩,-⟩:=u.out.cells;go_wp2;go_quiet (fail)
 go_wp2;go_ret;exact⟨rfl,_,u.out.below (cS (w3 _ _) _),M.out.below (cS (w3 _ _) _)⟩
end
end Go.Proofs.YtmnlkganmgcpbaaGreatDoor
