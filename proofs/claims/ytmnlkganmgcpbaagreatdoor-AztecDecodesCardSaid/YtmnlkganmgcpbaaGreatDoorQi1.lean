import Derived.WalkKit
import Derived.ProofKit
import Derived.RegionTactic
import Derived.Lib.Hide
import Derived.KernelRfl
import Derived.Deep.QuietTactic
import Derived.Deep.RegionHeld3
set_option maxRecDepth 100000
set_option maxHeartbeats 4000000
set_option linter.unusedVariables false
set_option linter.unusedSectionVars false
set_option linter.unusedSimpArgs false
set_option linter.defProp false
namespace Go.Proofs.YtmnlkganmgcpbaaGreatDoor
section
open Go.RowKit
theorem oO {a:Prop} (h:a:=by omega):a:=h
theorem oK {a:Prop} (h:a:=by kernel_rfl):a:=h
theorem oS {a:Prop} (h:a:=by simp):a:=h
theorem oT {a:Prop} (h:a:=by simp;omega):a:=h
theorem oD {a:Prop} (h:a:=by decide):a:=h
theorem oM {a:Prop} (h:a:=by unfold maxLen;omega):a:=h
theorem yQ (a:List Value) (s:List _) (d:Nat) (v:Value):Act.put {tmps:=a.toArray,defers:=s} (some d) v={tmps:=(a.set d v).toArray,defers:=s}:=by simp[Act.put]
theorem yY (a:List Value) (s:List _) (v:Value):Act.put {tmps:=a.toArray,defers:=s} none v={tmps:=a.toArray,defers:=s}:=by simp[Act.put]
theorem yU {c:Type} (a b:c) (d:List c):(a::d).set 0 b=b::d:=rfl
theorem yX {c:Type} (a b:c) (d:List c) (n:Nat):(a::d).set (n+1) b=a::d.set n b:=rfl
theorem Tx {f:Prop} (h:f:=by
 clear b2;have ac:Hid (aR i d=conv (co i a) (co i l) k):=by
  show _=_;rw[a9.out];refine ED i j.out.hC ca.out hq j.out.kl.kl.cs ?_;rw[<-B.out];omega
 have M:Hid (af E wr):=hB.out.trans (F.out.mono hB.out.size);have a1:=aa (be.out.below F.out);have a2:=aa (b3.out.below F.out);have dd:=aa (bf.out.below F.out);have de:=aa (ec.out.below F.out);clear a9 F;by_cases cy:d=0
 ·subst cy;have a3:Hid (fp i l n (k+1) a g L (m+1) b):=fp.skip i j.out (by rw[<-ac.out,bS]);clear ac;go_wp2;exact⟨⟨k+1,a,g,L,m+1,b,O,P,c1,T,by omega,by omega,by omega,by go_num,rfl,by go_num,rfl,by rw[B.out],by rw[ad.out],a3.out,by rw[<-B.out];exact a1.out,by rw[<-ad.out];exact a2.out,M.out⟩,by simp[intOf];omega⟩
 ·have dz:((d:Int)==0)=false:=by rw[beq_eq_false_iff_ne];omega
  obtain⟨o,bs⟩:∃o,o=aA S f d (bW S f b):=⟨_,rfl⟩;have cb:Hid (o<S):=by show _<_;rw[bs];exact bk H.out _ _
  have bi:=aa bs;have c2:b≠0:=fp.b0 i j.out;have c3:Hid (b<S):=j.out.hb;have N:Hid (∀W,af wr W->(W.cell? ⟨K,0,none⟩=some (.int .i64 r)/\W.cell? ⟨K,1,none⟩=some (.int .i64 S)/\W.cell? ⟨K,2,none⟩=some (.slice (some ⟨t,0,none⟩) (S-1) (S-1))/\W.cell? ⟨K,3,none⟩=some (.slice (some ⟨bl,0,none⟩) S S))):=by
   show∀W,_;intro W Q;exact ft ((bt.out.below M.out).below Q)
  clear bs;by_cases ed:2* L<=k
  ·obtain⟨al,c4⟩:∃al,al=k+1-L:=⟨_,rfl⟩;have fo:(k:Int)+1-(L:Int)=(al:Int):=oO;have a3:Hid (fp i l n (k+1) (dc S f a g m o g.length) a al 1 d):=by
    show fp _ _ _ _ _ _ _ _ _;rw[c4,bi.out];exact fp.grow i j.out ef am.out cy ac.out ed
   have dE:decide (2* (L:Int)<=(k:Int))=true:=by simp;omega
   clear ac c4;go_wp2;refine yO (af wr) [1,2,3,4,5,6,7,0,8,9,0,10] (ai (Below.refl _ _)) ?_
   repeat refine zO N.out ?_
   refine zZ ?_;refine(xY r S f t bl d b _ H.out am.out c3.out c2 (((ab.out.below M.out)).below (ai (Below.refl _ _)))).mono ?_;rintro e ap ⟨rfl,a4⟩;rw[<-bi.out];have G:Hid (af wr ap):=(ai (Below.refl _ _)).trans a4;clear a4;refine⟨_,rfl,G.out,jO ?_⟩;refine zZ ?_;refine(xN r S f t bl m o a g O P u av c1 T ap H.out j.out.hC j.out.hB cb.out B.out ad.out bq oO oO ((ab.out.below M.out).below G.out) (dd.out.below G.out) (de.out.below G.out)).mono ?_;rintro e bv ⟨v4,rfl,a5,a6⟩
   obtain⟨C,D,rfl,a8⟩:∃C D,v4= .slice C (dc S f a g m o g.length).length D/\az bv (.slice C (dc S f a g m o g.length).length D) (zl (dc S f a g m o g.length)):=by
    have a0:=a5;obtain⟨C,D,e,-⟩:=az.nat a0;exact⟨C,D,e,by rw[<-e];exact a0⟩
   have Y:=aa (ae G.out a6);have b4:=aa a8;clear a6 a5 a8;generalize dc S f a g m o g.length=bx at*;refine⟨_,rfl,Y.out,jO ?_⟩
   repeat refine zO N.out ?_
   refine aj ?_;go_wp2;exact⟨⟨k+1,bx,a,al,1,d,C,O,D,c1,by omega,by omega,by omega,by go_num,by go_num,rfl,rfl,rfl,by rw[B.out],a3.out,b4.out,by rw[<-B.out];exact a1.out.below Y.out,M.out.trans (Y.out.mono M.out.size)⟩,by simp[intOf];omega⟩
  ·have a3:Hid (fp i l n (k+1) (dc S f a g m o g.length) g L (m+1) b):=by
    show fp _ _ _ _ _ _ _ _ _;rw[bi.out];exact fp.stay i j.out am.out ac.out oO
   have dE:decide (2* (L:Int)<=(k:Int))=false:=by simp;omega
   clear ac;go_wp2;refine yO (af wr) [1,2,3,4,5,6,7,0,8,9,0,10] (ai (Below.refl _ _)) ?_
   repeat refine zO N.out ?_
   refine zZ ?_;refine(xY r S f t bl d b _ H.out am.out c3.out c2 (((ab.out.below M.out)).below (ai (Below.refl _ _)))).mono ?_;rintro e ap ⟨rfl,a4⟩;rw[<-bi.out];have G:Hid (af wr ap):=(ai (Below.refl _ _)).trans a4;clear a4;refine⟨_,rfl,G.out,jO ?_⟩;refine zZ ?_;refine(xN r S f t bl m o a g O P u av c1 T ap H.out j.out.hC j.out.hB cb.out B.out ad.out bq oO oO ((ab.out.below M.out).below G.out) (dd.out.below G.out) (de.out.below G.out)).mono ?_;rintro e bv ⟨v4,rfl,a5,a6⟩
   obtain⟨C,D,rfl,a8⟩:∃C D,v4= .slice C (dc S f a g m o g.length).length D/\az bv (.slice C (dc S f a g m o g.length).length D) (zl (dc S f a g m o g.length)):=by
    have a0:=a5;obtain⟨C,D,e,-⟩:=az.nat a0;exact⟨C,D,e,by rw[<-e];exact a0⟩
   have Y:=aa (ae G.out a6);have b4:=aa a8;clear a6 a5 a8;generalize dc S f a g m o g.length=bx at*;refine⟨_,rfl,Y.out,jO ?_⟩
   repeat refine zO N.out ?_
   refine aj ?_;go_wp2
   exact⟨⟨k+1,bx,g,L,m+1,b,C,P,D,T,by omega,by omega,by omega,by go_num,rfl,by go_num,rfl,rfl,by rw[ad.out],a3.out,b4.out,by rw[<-ad.out];exact a2.out.below Y.out,M.out.trans (Y.out.mono M.out.size)⟩,by simp[intOf];omega⟩):f:=h
theorem TA {ce:Prop} (h:ce:=by
 go_loopw [64] (λbo wr=>∃n:Nat,n<=rn/\bo= .int .i64 n/\Hid (BO w.heap.size w wr j (L++qJ c a n))/\Hid (ag wr d #[.int .i64 (a:Int),.int .i64 (m:Int)] 179/\ag wr k b.aN.toArray 181)) (λbo _=>rn-(intOf bo).toNat)
 case atStart=>exact⟨0,Nat.zero_le _,rfl,by show BO _ _ _ _ _;rw[show qJ c a 0=[]from rfl,List.append_nil];exact b9.out,a1.out⟩
 case round=>
  clear b9 a1;obtain⟨n,eA,rfl,p,hF⟩:=hrel;by_cases fr:n<rn
  ·obtain⟨Q,cq⟩:∃Q,Q=(c.data.toList.getD (a+n) 0).toNat:=⟨_,rfl⟩;have b2:=aa cq;have A:Hid (∀W,(af w W/\ag W d #[.int .i64 (a:Int),.int .i64 (m:Int)] 179)->W.cell? ⟨M,0,none⟩=some (.string c)/\W.cell? ⟨d,0,none⟩=some (.int .i64 (a:Int))):=λW l=>⟨(Y.out W l.1).1.S.c0,l.2.cell 0 _ rfl⟩;have d3:a+n<c.size:=oO;have fv:IntKind.i64.wrap ((a:Int)+(n:Int))=((a+n:Nat):Int):=by rw[aG _ oO oO];omega
   clear cq;go_wp2;refine yO (λW=>af w W/\ag W d #[.int .i64 (a:Int),.int .i64 (m:Int)] 179) [1,2,3,4,5,6,7,8,9,10,11,0,12] ⟨ai p.out.B,hF.out.1⟩ ?_;refine zO A.out ?_;refine zO A.out ?_;refine zO A.out ?_;refine zO A.out ?_;refine zO A.out ?_;refine zO A.out ?_;refine zO A.out ?_;refine zO A.out ?_;refine zO A.out ?_;refine' zV rfl (λW l=>Gf rfl rfl rfl (a+n) rfl d3) ?_;rw[<-b2.out];have fw:Q<256:=by rw[b2.out];exact UInt8.toNat_lt _
   refine zO A.out ?_;refine zZ ?_;have cr:Hid (BO w.heap.size w wr.drew j (L++qJ c a n)):=p.out.below (ai (Below.refl _ _));rw[show IntKind.i64.wrap (Q:Int)=(Q:Int)from aG _ oO oO];refine(sF w.heap.size w wr.drew j (L++qJ c a n) Q 8 _ _ rfl rfl cr.out oO oO (by have:=cs.out;rw[List.length_append,Bg];omega)).mono ?_;rintro e bq ⟨rfl,o,i⟩;have c8:Hid (BO w.heap.size w bq j (L++qJ c a (n+1))):=by
    show BO _ _ _ _ _;rw[show qJ c a (n+1)=qJ c a n++bH Q 8 from by rw[b2.out];rfl,<-List.append_assoc];exact o
   have c9:Hid (ag bq d #[.int .i64 (a:Int),.int .i64 (m:Int)] 179/\ag bq k b.aN.toArray 181):=⟨ag.fP (w:=wr.drew) hF.out.1 i (by simp[gK]),ag.fP (w:=wr.drew) hF.out.2 i (by simp[gK])⟩;clear o i p hF cr A;refine⟨_,rfl,⟨c8.out.B,c9.out.1⟩,jO ?_⟩;refine aj ?_;go_wp2;exact⟨⟨n+1,by omega,by go_num,c8.out,c9.out⟩,by simp[intOf];omega⟩
  ·have d4:n=rn:=oO;have da:Hid (BO w.heap.size w wr j (L++qJ c a rn)):=by rw[<-d4];exact p.out
   clear p;have F:Hid (ag wr d #[.int .i64 (a:Int),.int .i64 (m:Int)] 179):=hF.out.1;have av:Hid (an wr k b.aN):=hF.out.2.cells
   go_wp2_with(first
    |((with_reducible show wpList _ _ _ (⟨_,Op.load 179 _,_,_,_,_⟩::_) _ _);first|refine aP rfl 179 _ rfl _ Tryz.underlying179 rfl ⟨k,5,none⟩ [.int .i64 (b.at_:Int),.int .i64 (b.mode:Int)] fu rfl (vC av.out) ?_|refine aP rfl 179 _ rfl _ Tryz.underlying179 rfl ⟨d,0,none⟩ [.int .i64 (b.at_:Int),.int .i64 (b.mode:Int)] fu rfl (gE ((F.out.set _).cells)) ?_)
    |((with_reducible show wpList _ _ _ (⟨_,Op.alloc 179,_,_,_,_⟩::_) _ _);refine bj rfl 179 rfl _ mZ ?_)
    |((with_reducible show wpList _ _ _ (⟨_,Op.store 179 _ _,_,_,_,_⟩::_) _ _);first|(refine aZ rfl 179 _ _ rfl 179 d 0 #[.int .i64 (a:Int),.int .i64 (m:Int)] [.int .i64 (b.at_:Int),.int .i64 (b.mode:Int)] rfl rfl F.out fu (by show 2<=2;omega) (jN _ _) ?_;rw[jR [.int .i64 (a:Int),.int .i64 (m:Int)] [.int .i64 (b.at_:Int),.int .i64 (b.mode:Int)] rfl])|refine bG rfl 179 _ _ rfl 179 _ [_,_] rfl rfl fu rfl (jN _ _) ?_))
   have a2:Hid (BO w.heap.size w ((wr.setRow d #[.int .i64 (b.at_:Int),.int .i64 (b.mode:Int)]).alloc (.cells #[.int .i64 (b.at_:Int),.int .i64 (b.mode:Int)] 179)) j (g++dJ c a m b)):=by
    have s:=(da.out.setRow b3 hF.out.1 #[.int .i64 (b.at_:Int),.int .i64 (b.mode:Int)]).below (ax _ (.cells #[.int .i64 (b.at_:Int),.int .i64 (b.mode:Int)] 179));rw[show g++dJ c a m b=L++qJ c a rn from G.out];exact s
   have a3:w.heap.size<=wr.heap.size:=da.out.n2
   exact cb.out _ _ (by simpa using a3) (ag.new _ _ _ _ oS) a2.out):ce:=h
theorem TC {av:Prop} (h:av:=by
 clear cs fn bd;generalize aB L c=S at*;generalize ny L c (bm a (aw L))=dl at*;generalize gw:bm a (aw L)=eA at*;generalize aw L=z at*;clear gw fo;have gx:Hid (∀(W:World) (db:Nat),af (wr.alloc (cN L c)) W->W.heap.size<=db->w.heap.size+1<db):=by
  show∀(W:World) (db:Nat),_->_->_;intro W db o T;have f3:=o.size;have g8:=t.out.size;have g9:=G.out.2.1;simp at f3;omega
 obtain⟨⟨x,y,B⟩,C,s⟩:=X.out wr t.out;cases hb:l6 a b (L,c)with
 |true=>
  rw[hb]at b1;have g6:=aa (c5.out hb);have f2:=aa (λcK W db N k o=>c6.out cK W db N k o hb);clear c5 c6 hb
  go_wp2_with(first
   |(go_at_call 33;refine(d5.out _).mono ?_;rintro e c7 ⟨rfl,a0⟩;have b2:Hid (af (wr.alloc (cN L c)) c7):=a0;have d6:=aa ((a5.out.below hB.out).below (dT b2.out));clear a0 x y B C s e1 e2)
   |(go_at_call 32;refine(ex.out _ _ _ _ d6.out).mono ?_;rintro e c8 ⟨f4,rfl,b3,Y⟩;obtain⟨f5,bb,f6,rfl,be⟩:=b3.parts;have gy:=aa be;have a6:Hid (af (wr.alloc (cN L c)) c8):=ae b2.out Y;have a7:Hid (bb=eA.length):=be.hn;have ey:=aa (ae t.out (dT a6.out));clear b3 Y be;obtain⟨bv,bx⟩:=cv.out _ a6.out;obtain⟨⟨x,y,B⟩,C,s⟩:=X.out _ ey.out)
   |(go_at_call 34;rw[a7.out];refine(b1.out _).mono ?_;rw[<-a7.out];rintro e c9 ⟨rfl,bf⟩;have b4:Hid (af (wr.alloc (cN L c)) c9):=ae a6.out bf;have gz:=aa (gy.out.below bf);clear bf bv bx x y B C s;obtain⟨bv,bx⟩:=cv.out _ b4.out)
   |(go_at_call 35;refine(g6.out _ _ _ _ gz.out).mono ?_;rintro e H ⟨db,N,e0,rfl,fr,fv,bi⟩;have gC:Hid (af (wr.alloc (cN L c)) H):=ae b4.out bi;have fw:=aa fr;have fx:=aa e0;have gD:=aa (gx.out _ _ b4.out fv);clear fr fv bi e0 bv bx;have Q:=aa (ae t.out (dT gC.out));have c0:=eu (p.out H Q.out);have c1:=ia (p.out H Q.out);have da:=kt (p.out H Q.out);have dd:=mP (p.out H Q.out);have de:=nV (p.out H Q.out);have di:=Iz (p.out H Q.out);have dn:=bN 0 ((p.out H Q.out));have ds:=bN 1 ((p.out H Q.out));have dv:=bN 2 ((p.out H Q.out));have dx:=bN 3 ((p.out H Q.out));have dy:=bN 4 ((p.out H Q.out));have dz:=bN 5 (((p.out H Q.out)))))
  refine bodyPost_ret (v:= .tuple #[sU L c bb S db N,.int .i64 0]) (by simp[results,Tryz.results12,go_sem,c0,c1,da,dd,de,di,dn,ds,dv,dx,dy,dz]) rfl ⟨d7.out,λcK b5 cx=>?_⟩;have bo:db≠w.heap.size+1:=by have:=gD.out;omega
  rw[bq.out]at b5 cx;obtain rfl:=(f2.out cK H db N bb b5 fx.out a7.out fw.out).1;refine⟨_,rfl,?_,?_⟩
  ·rw[bq.out];refine(f2.out _ _ db N bb b5 fx.out a7.out ?_).2;exact ag.jK (ag.jK (ag.jK (ag.jK (ag.jK (ag.jK fw.out _ _ bo) _ _ bo) _ _ bo) _ _ bo) _ _ bo) _ _ bo
  ·have d8:Hid (af w H):=b6.out.trans (Q.out.mono G.out.2.2);exact((((((d8.out).setCell G.out.1 _).setCell G.out.1 _).setCell G.out.1 _).setCell G.out.1 _).setCell G.out.1 _).setCell G.out.1 _
 |false=>
  rw[hb]at b1;have gN:=aa (cy.out.2 hb);clear c5 c6 hb bs
  go_wp2_with(first
   |(go_at_call 33;refine(d5.out _).mono ?_;rintro e c7 ⟨rfl,a0⟩;have b2:Hid (af (wr.alloc (cN L c)) c7):=a0;have d6:=aa ((a5.out.below hB.out).below (dT b2.out));clear a0 x y B C s e1 e2)
   |(go_at_call 32;refine(ex.out _ _ _ _ d6.out).mono ?_;rintro e c8 ⟨f4,rfl,b3,Y⟩;obtain⟨f5,bb,f6,rfl,be⟩:=b3.parts;have a6:Hid (af (wr.alloc (cN L c)) c8):=ae b2.out Y;have a7:Hid (bb=eA.length):=be.hn;have ey:=aa (ae t.out (dT a6.out));clear b3 Y be;obtain⟨bv,bx⟩:=cv.out _ a6.out;obtain⟨⟨x,y,B⟩,C,s⟩:=X.out _ ey.out)
   |(go_at_call 34;rw[a7.out];refine(b1.out _).mono ?_;rw[<-a7.out];rintro e c9 ⟨rfl,bf⟩;have b4:Hid (af (wr.alloc (cN L c)) c9):=ae a6.out bf;clear bf bv bx x y B C s))
  exact⟨⟨f+1,by omega,by go_num,gN.out,ae hB.out (dT b4.out)⟩,by simp[intOf];omega⟩):av:=h
theorem Ip {b:Prop} (h:b:=by
 obtain⟨⟨u1,a4⟩,a5,⟨u2,s3⟩,a6⟩:=l r;have av:aM S b (aV S b) n<S:=lY j.out n;have a0:=aa (fD.store j.out i.out hid.out r);have al:Hid (mulR d S b (aM S b (aV S b) n:Nat) (aV S b:Nat)=(((aM S b (aV S b) (n+1):Nat):Int),0)):=by
  show _=_;unfold mulR;rw[sE j.out av hg];simp;rfl
 generalize aM S b (aV S b) n=X at*;generalize Q:aM S b (aV S b) (n+1)=Y at*;have am:=aa Q;clear Q;clear l;go_wp2;go_region
 all_goals go_wp2_with(go_at_call 159;refine(IB d S b X (aV S b) _ oO O).mono ?_;rintro e a7 ⟨rfl,a1⟩;rw[al.out])
 all_goals go_roundw
 all_goals try(case measure=>simp[intOf];omega)
 all_goals refine⟨n+1,by omega,by go_num,by rw[am.out],?_⟩
 all_goals exact fD.below (fD.drew a0.out) a1):b:=h
theorem Hn {b:Prop} (h:b:=by
 obtain⟨⟨u1,a4⟩,a5,⟨u2,s3⟩,a6⟩:=l r;have av:aM S b (aV S b) n<S:=lY j.out n;have a0:=aa (fC.store j.out i.out hid.out r);have al:Hid (mulR d S b (aM S b (aV S b) n:Nat) (aV S b:Nat)=(((aM S b (aV S b) (n+1):Nat):Int),0)):=by
  show _=_;unfold mulR;rw[sE j.out av hg];simp;rfl
 generalize aM S b (aV S b) n=X at*;generalize Q:aM S b (aV S b) (n+1)=Y at*;have am:=aa Q;clear Q;clear l;go_wp2;go_region
 all_goals go_wp2_with(go_at_call 159;refine(IB d S b X (aV S b) _ oO O).mono ?_;rintro e a7 ⟨rfl,a1⟩;rw[al.out])
 all_goals go_roundw
 all_goals try(case measure=>simp[intOf];omega)
 all_goals refine⟨n+1,by omega,by go_num,by rw[am.out],?_⟩
 all_goals exact fC.below (fC.drew a0.out) a1):b:=h
theorem Cg {bv:Prop} (h:bv:=by
 clear P
 go_wp2_with(first
  |(go_at_call 99;refine(O.out _).mono ?_;rintro e bx ⟨rfl,b5⟩;have a8:=aa (a6.out.below b5);clear b5)
  |(at_builtin;refine eT (aq a8.out.O (ax _ _)) (Nat.le_trans a8.out.B.size oS) rfl _ _ rfl rfl ⟨bx.heap.size,0,none⟩ 1 1 [C] rfl rfl (gL bx [C] _) (by have:=b6.out;omega) ?_;intro v6 dy cp hg c6;have cr:=aa (a8.out.grow (ax _ _) cp hg);clear cp hg c6))
 exact⟨⟨k+1,by omega,by go_num,by show aX _ _ _ _;rw[t.out];exact cr.out⟩,by simp[intOf];omega⟩):bv:=h
theorem TF {a:Prop} (h:a:=by
 clear pu pv;have bq:Hid (af N (N.drew.alloc (.cells #[.int .i64 (b:Int)] 3))):=ah (ai (Below.refl _ _)) _;have rb:Hid (RD (N.drew.alloc (.cells #[.int .i64 (b:Int)] 3)) (some ⟨N.drew.heap.size,0,none⟩) (zl [b])):=RD.lit N.drew [b] 3 _ rfl;refine' qy (ys:=zl [b]) (aq d0.out bq.out) (Nat.le_trans pb.out bq.out.size) rfl _ _ rfl rfl rfl rfl (Nat.le_refl _) rb.out oO ?_;intro F G H B hg a3;have di:Hid (af r H):=(ae b4.out bq.out).grown hg (Nat.le_trans b4.out.size bq.out.size) (λac a4=>Nat.le_trans rc.out (d0.out.lt ac a4).1);have rd:Hid (H.ownsRow T.heap.size 3 1 (.slice F (m+1) G) (m+1) ((zl (lM j V (k+1))).map (Value.int .i64))):=by
  show World.ownsRow _ _ _ _ _ _ _;rw[c7.out,<-rf.out];exact B
 have gY:Hid (ag H l #[.slice (some ⟨wb,0,none⟩) n cw,.slice Z m cc] 98):=(it.out.below bq.out).grown hg (λe=>by have E:=(d0.out.lt l e.symm).1;have K:=en.out.1;omega);have ts:Hid (bK H wb (kJ S a g j V (k+1))):=(pd.out.below bq.out).grown hg (λe=>by have E:=(d0.out.lt wb e.symm).1;have K:=en.out.2;omega);have tx:Hid (RD H (some ex) (zl V)):=(un.out.below bq.out).grown hg (λt e e2=>by have E:=(d0.out.lt t.block e2.symm).1;have K:=rg.out oO t e;omega);have ty:Hid (T.heap.size<=H.heap.size):=Nat.le_trans (Nat.le_trans pb.out bq.out.size) hg.size;have c1:=ia gY.out;have b6:=bN 1 gY.out;clear B hg a3;refine⟨di.out,?_⟩;simp only[yQ,yU,yX,yY]
 repeat refine zO jr.out ?_
 refine' iW rfl (o8 rfl ⟨l,1,none⟩ F (m+1) G rfl rfl c1 b6) (di.out.setCell fw.out _) ?_;simp only[yQ,yU,yX,yY];refine aj ?_
 have c6:Hid (af r (H.setCell ⟨l,1,none⟩ (.slice F (m+1) G))/\ag (H.setCell ⟨l,1,none⟩ (.slice F (m+1) G)) l #[.slice (some ⟨wb,0,none⟩) n cw,.slice F (m+1) G] 98/\bK (H.setCell ⟨l,1,none⟩ (.slice F (m+1) G)) wb (kJ S a g j V (k+1))/\RD (H.setCell ⟨l,1,none⟩ (.slice F (m+1) G)) (some ex) (zl V)/\(H.setCell ⟨l,1,none⟩ (.slice F (m+1) G)).ownsRow T.heap.size 3 1 (.slice F (m+1) G) (m+1) ((zl (lM j V (k+1))).map (Value.int .i64))/\T.heap.size<=(H.setCell ⟨l,1,none⟩ (.slice F (m+1) G)).heap.size):=
  ⟨di.out.setCell fw.out _,gY.out.eN (i:=1) _,ts.out.other ⟨l,1,none⟩ _ (λe=>jv.out e),tx.out.Am l 1 _ rl.out,sA rd.out l 1 _ en.out.1,by have E:=ty.out;simp;exact E⟩
 generalize H.setCell ⟨l,1,none⟩ (.slice F (m+1) G)=vp at*;have ro:Hid (m+1=(lM j V (k+1)).length):=by show _=_;rw[c7.out,List.length_append,<-ey.out];rfl
 clear c1 b6;go_wp2
 exact⟨⟨k+1,m+1,F,G,by omega,by omega,by go_num,ro,c6.out.1,c6.out.2.1,c6.out.2.2.1,c6.out.2.2.2.1,c6.out.2.2.2.2.1,c6.out.2.2.2.2.2⟩,by simp[intOf];omega⟩):a:=h
theorem Tz {u:Prop} (h:u:=by
 have Q:=aa j;have S:Hid (af w c):=by show Below _ _ _;rw[j];exact ah (ax _ _) _
 have t:Hid (ag c w.heap.size #[.int .i64 a,.bool b,.int .i64 f] 24):=by
  show ag _ _ _ _;rw[j];have y:ag (w.alloc (.cells #[.int .i64 a,.bool b,.int .i64 f] 24)) w.heap.size #[.int .i64 a,.bool b,.int .i64 f] 24:=ag.new _ _ _ _ rfl;exact y.below (ax _ _)
 have T:Hid (ag c (w.heap.size+1) cg 30):=by show ag _ _ _ _;rw[j];exact ag.new _ _ _ _ oS
 have k:Hid (w.heap.size<=w.heap.size+1/\w.heap.size+1<c.heap.size/\w.heap.size<=c.heap.size/\c.heap.size=w.heap.size+2):=by show _/\_;rw[j];simp;omega
 have v:Hid (∀W,af c W->W.cell? ⟨w.heap.size,0,none⟩=some (.int .i64 a)/\W.cell? ⟨w.heap.size,1,none⟩=some (.bool b)/\W.cell? ⟨w.heap.size,2,none⟩=some (.int .i64 f)):=λW l=>⟨(t.out.below l).cell 0 _ rfl,(t.out.below l).cell 1 _ rfl,(t.out.below l).cell 2 _ rfl⟩;have i:Hid (∀W,af c W->ag W (w.heap.size+1) cg 30):=λW l=>T.out.below l;have V:Hid (∀W,Below ((((w.alloc (.cells #[.int .i64 a,.bool b,.int .i64 f] 24)).alloc (.cells cg 30)).alloc (cN a b))).heap.size ((((w.alloc (.cells #[.int .i64 a,.bool b,.int .i64 f] 24)).alloc (.cells cg 30)).alloc (cN a b))) W->af c W):=by show∀W,_->_;rw[<-j];exactλW h=>dT h
 clear j;obtain⟨o,p,q⟩:=v.out c (Below.refl _ _);rw[Q.out]at o p q;have Z:¬(4096:Int)<(n:Int):=oO;have ab:((n:Int)==0)=false:=by rw[beq_eq_false_iff_ne];omega
 have ac:¬n=0:=oO;have X:Hid (∀W,Calls Tryz.prog 29 #[bX a b] W (au (.bool true) W)):=λW=>by rw[<-r];exact iR a b W
 clear r;go_enter Tryz.func12,Tryz.ntmps12;go_wp2_with(go_at_call 29;refine(X.out _).mono ?_;rintro e d ⟨rfl,x⟩;have g:Hid (af c d):=V.out _ x;clear x o p q;obtain⟨o,p,q⟩:=v.out d g.out;have c0:=eu (i.out d g.out);have c1:=ia (i.out d g.out);have z:=kt (i.out d g.out);have B:=mP (i.out d g.out);have C:=nV (i.out d g.out);have D:=Iz (i.out d g.out);have E:=bN 0 ((i.out d g.out));have F:=bN 1 ((i.out d g.out));have G:=bN 2 ((i.out d g.out));have H:=bN 3 ((i.out d g.out));have K:=bN 4 ((i.out d g.out));have L:=bN 5 (((i.out d g.out))))
 refine bodyPost_ret (v:= .tuple #[.agg cg,.int .i64 3]) (by simp[results,Tryz.results12,go_sem,c0,c1,z,B,C,D,E,F,G,H,K,L]) rfl ⟨.agg cg,rfl,rfl,?_⟩
 exact((((((S.out.trans (g.out.mono k.out.2.2.1)).setCell k.out.1 _).setCell k.out.1 _).setCell k.out.1 _).setCell k.out.1 _).setCell k.out.1 _).setCell k.out.1 _):u:=h
theorem Po {Z:Prop} (h:Z:=by
 rw[bd];go_wp2_with(at_builtin;refine eT (aq g.out.O (ax _ _)) (Nat.le_trans g.out.B.size oS) rfl _ _ rfl rfl ⟨wr.heap.size,0,none⟩ 1 1 [(x,y)] rfl rfl (gL wr [(x,y)] _) (by have:=N.out;omega) ?_;intro v6 bs ac hg a3;have ab:=aa (g.out.grow (ax _ _) ac hg);clear ac hg a3)
 first|exact⟨⟨b+1,by omega,by rw[a4.out],by show aX _ _ _ _;rw[F.out];exact ab.out⟩,by first|(simp[intOf];done)|(simp[intOf];omega)⟩|exact⟨⟨_,_,_,_,_,_,_,_,_,_,_,_,_,_,_,_,_,_,_,⟨b+1,by omega,by rw[a4.out],by show aX _ _ _ _;rw[F.out];exact ab.out⟩,rfl⟩,by show(intOf (.int .i64 ((c:Int)-1))+1).toNat<(intOf (.int .i64 (c:Int))+1).toNat;first|(simp[intOf];done)|(simp[intOf];omega)⟩):Z:=h
theorem TE {L:Prop} (h:L:=by
 clear bv da;go_wp2;obtain⟨a0,rfl⟩:∃a0:World,a0=wr:=⟨_,rfl⟩;go_loopw [11,16] (λT f wr=>∃(q:Nat) (b:Int),q<=d/\f= .int .i64 b/\Hid (b=(d:Int)-1-q)/\Hid (OG vB 4 w wr T (gr s a k++dV F d q))) (λ_ f _=>(intOf f+1).toNat)
 case atStart=>exact⟨0,_,Nat.zero_le _,rfl,by show _=_;omega,by show OG _ _ _ _ _ _;rw[show dV F d 0=[]from rfl,List.append_nil];exact a1.out⟩
 case round=>
  obtain⟨q,b,dd,rfl,i,D⟩:=hrel;by_cases d1:q<d
  ·obtain⟨p,a8⟩:∃p,p=d-1-q:=⟨_,rfl⟩;obtain rfl:b=(p:Int):=by have:=i.out;omega
   have a2:=aa a8;have de:p<=61:=oO;clear a8;have d2:=sZ F p oO;have ci:Hid (gr s a k++dV F d (q+1)=(gr s a k++dV F d q)++[gV F p]):=by show _=_;rw[a2.out,List.append_assoc];rfl
   have a9:Hid ((gr s a k++dV F d q).length<=100000000):=by
    show _<=_;rw[List.length_append,mv];have O:=AS s a k;have V:s* k<=s* l:=Nat.mul_le_mul_left s m;have c5:=b2.out;omega
   generalize gV F p=y at*;go_wp2_with(at_builtin;refine aY (f:=vB) (d:=false) tu rfl _ _ _ rfl w.heap.size 4 b3 _ 1 Tryz.underlying26 b4 ck co cp rfl _ _ (gr s a k++dV F d q) rfl (eR D.out.O _) (some ⟨wr.heap.size,0,none⟩) 1 1 [y] rfl rfl (RG.one _ _ _ _ rfl) (by unfold maxLen;have:=a9.out;omega) (by have:=a9.out;omega) (by have:=D.out.B.size;simp;omega) ?_;intro c6 c7 bo hg;have b5:=aa (D.out.grow (ax _ _) bo hg);clear bo hg)
   exact⟨⟨q+1,_,by omega,rfl,by have:=a2.out;show _=_;omega,by rw[ci.out];exact b5.out⟩,by simp[intOf]⟩
  ·obtain rfl:q=d:=oO;have di:decide ((0:Int)<=b)=false:=by have:=i.out;simp;omega
   go_wp2
   exact⟨⟨k+1,by omega,by go_num,by rw[K.out];exact D.out⟩,by simp[intOf];omega⟩):L:=h
theorem SH {j:Prop} (h:j:=by
 have s:=aa d;have C:Hid (af w a):=by show Below _ _ _;rw[d];exact ah (ax _ _) _
 have i:Hid (ag a w.heap.size #[.int .i64 0,.bool c,.int .i64 b] 24):=by
  show ag _ _ _ _;rw[d];have k:ag (w.alloc (.cells #[.int .i64 0,.bool c,.int .i64 b] 24)) w.heap.size #[.int .i64 0,.bool c,.int .i64 b] 24:=ag.new _ _ _ _ rfl;exact k.below (ax _ _)
 have t:Hid (ag a (w.heap.size+1) cg 30):=by show ag _ _ _ _;rw[d];exact ag.new _ _ _ _ oS
 have D:Hid (w.heap.size<=w.heap.size+1/\w.heap.size+1<a.heap.size/\w.heap.size<=a.heap.size/\a.heap.size=w.heap.size+2):=by show _/\_;rw[d];simp;omega
 have u:Hid (∀W,af a W->W.cell? ⟨w.heap.size,0,none⟩=some (.int .i64 0)/\W.cell? ⟨w.heap.size,1,none⟩=some (.bool c)/\W.cell? ⟨w.heap.size,2,none⟩=some (.int .i64 b)):=λW e=>⟨(i.out.below e).cell 0 _ rfl,(i.out.below e).cell 1 _ rfl,(i.out.below e).cell 2 _ rfl⟩;have E:Hid (∀W,af a W->ag W (w.heap.size+1) cg 30):=λW e=>t.out.below e;have F:Hid (∀W,Below ((((w.alloc (.cells #[.int .i64 0,.bool c,.int .i64 b] 24)).alloc (.cells cg 30)).alloc (cN 0 c))).heap.size ((((w.alloc (.cells #[.int .i64 0,.bool c,.int .i64 b] 24)).alloc (.cells cg 30)).alloc (cN 0 c))) W->af a W):=by show∀W,_->_;rw[<-d];exactλW h=>dT h
 clear d;obtain⟨l,m,o⟩:=u.out a (Below.refl _ _);rw[s.out]at l m o;have x:¬(4096:Int)<(n:Int):=oO;have y:((n:Int)==0)=false:=by rw[beq_eq_false_iff_ne];omega
 have z:¬n=0:=oO;go_enter Tryz.func12,Tryz.ntmps12;go_wp2;refine bodyPost_ret (v:= .tuple #[.agg cg,.int .i64 3]) (by simp[results,Tryz.results12,go_sem]) rfl ⟨.agg cg,rfl,rfl,?_⟩
 exact ah (ah (ax _ _) _) _):j:=h
theorem RE {bz:Prop} (h:bz:=by
 have c6:Hid (af d wr.drew):=ai c.out.B;go_wp2;refine yO (λW=>af d W) [1,2,3,4,5,6,7,8,9,10,11,12,13,14,15,0,16,17,0,18] c6.out ?_
 repeat refine zO a9.out ?_
 obtain⟨P,am⟩:∃P,P=wr.drew.alloc (.cells #[.int .i64 (x:Int),.int .i64 (y:Int)] 47):=⟨_,rfl⟩;have ap:Hid (af wr P):=by show Below _ _ _;rw[am];exact ah (ai (Below.refl _ _)) _
 obtain⟨lb,bb⟩:∃lb,lb=wr.heap.size:=⟨_,rfl⟩;have c7:Hid (∀b u,(([(x,y)]:List Pt).flatMap fZ)[b]?=some u->P.cell? ((⟨lb,0,none⟩:Addr).add b)=some u):=by show∀_ _,_;rw[am,bb];exact gL wr.drew [(x,y)] _
 refine' zQ (v:= .slice (some ⟨lb,0,none⟩) 1 1) (w':=P) rfl (by rw[am,bb];go_simp) (ae c.out.B ap.out) ?_;clear am bb;refine' ke (ys:=[(x,y)]) (aq c.out.O ap.out) (Nat.le_trans c.out.B.size ap.out.size) rfl _ _ rfl rfl rfl rfl c7.out (by have:=K.out;omega) ?_;intro ce ch ci r hg;have t:Hid (aX d ci (.slice ce (Z.length+1) ch) (Z++[(x,y)])):=c.out.grow ap.out r hg;clear r hg;refine⟨t.out.B,?_⟩;simp only[yQ,yU,yX,yY]
 repeat refine zO a9.out ?_
 refine aj ?_;go_wp2
 first|exact⟨⟨b+1,by omega,by go_num,by show aX _ _ _ _;rw[L.out];exact t.out⟩,by simp[intOf];omega⟩|exact⟨⟨_,_,_,_,_,_,_,_,_,_,_,_,_,_,_,_,_,_,_,_,_,_,_,⟨b+1,by omega,by go_num,by show aX _ _ _ _;rw[L.out];exact t.out⟩,rfl⟩,by show 10-(intOf (.int .i64 ((b:Int)+1))).toNat<10-(intOf (.int .i64 (b:Int))).toNat;simp[intOf];omega⟩):bz:=h
theorem Sg {bz:Prop} (h:bz:=by
 have da:Hid (af d wr.drew):=ai c.out.B;go_wp2;refine yO (λW=>af d W) [1,2,3,4,5,6,7,8,9,10,11,12,13,14,15,0,16,17,0,18] da.out ?_
 repeat refine zO a9.out ?_
 obtain⟨Q,am⟩:∃Q,Q=wr.drew.alloc (.cells #[.int .i64 (x:Int),.int .i64 (y:Int)] 47):=⟨_,rfl⟩;have ap:Hid (af wr Q):=by show Below _ _ _;rw[am];exact ah (ai (Below.refl _ _)) _
 obtain⟨lb,bb⟩:∃lb,lb=wr.heap.size:=⟨_,rfl⟩;have dd:Hid (∀b u,(([(x,y)]:List Pt).flatMap fZ)[b]?=some u->Q.cell? ((⟨lb,0,none⟩:Addr).add b)=some u):=by show∀_ _,_;rw[am,bb];exact gL wr.drew [(x,y)] _
 refine' zQ (v:= .slice (some ⟨lb,0,none⟩) 1 1) (w':=Q) rfl (by rw[am,bb];go_simp) (ae c.out.B ap.out) ?_;clear am bb;refine' ke (ys:=[(x,y)]) (aq c.out.O ap.out) (Nat.le_trans c.out.B.size ap.out.size) rfl _ _ rfl rfl rfl rfl dd.out (by have:=E.out;omega) ?_;intro co cp cq o hg;have t:Hid (aX d cq (.slice co (Z.length+1) cp) (Z++[(x,y)])):=c.out.grow ap.out o hg;clear o hg;refine⟨t.out.B,?_⟩;simp only[yQ,yU,yX,yY]
 repeat refine zO a9.out ?_
 refine aj ?_;go_wp2
 first|exact⟨⟨b+1,by omega,by go_num,by show aX _ _ _ _;rw[L.out];exact t.out⟩,by simp[intOf];omega⟩|exact⟨⟨_,_,_,_,_,_,_,_,_,_,_,_,_,_,_,_,_,_,_,_,_,_,_,⟨b+1,by omega,by go_num,by show aX _ _ _ _;rw[L.out];exact t.out⟩,rfl⟩,by show 7-(intOf (.int .i64 ((b:Int)+1))).toNat<7-(intOf (.int .i64 (b:Int))).toNat;simp[intOf];omega⟩):bz:=h
theorem SK {p:Prop} (h:p:=by
 go_wp2;go_loop [6,9] (λ_ i=>∃k:Nat,k<=n/\i= .int .i64 k/\Hid (∀b,b<k->0<=a.getD b 0/\a.getD b 0<s)) (λ_ i=>n-(intOf i).toNat)
 case atStart=>exact⟨0,Nat.zero_le _,rfl,λb u=>by omega⟩
 case round=>
  obtain⟨k,z,rfl,hid⟩:=hrel;have o:Hid (af w (w.alloc (.cells #[.int .i64 c,.int .i64 s,.int .i64 d] 89))):=(Below.refl _ _).alloc (Nat.le_refl _) _;by_cases m:k<n
  ·obtain⟨B,rfl,-,t⟩:=q.out (by rw[e.out];omega);have E:=t k (by rw[e.out];exact m);clear t;generalize r:a.getD k 0=x at*;have j:=aa r;clear r;by_cases C:x<0
   ·have f:=aa (Ey (s:=s) (k:=k) (by rw[e.out];exact m) (by rw[j.out];omega));go_wp2;go_ret;exact⟨bh f.out.symm,o.out⟩
   ·by_cases D:s<=x
    ·have f:=aa (Ey (s:=s) (k:=k) (by rw[e.out];exact m) (by rw[j.out];omega));go_wp2;go_ret;exact⟨bh f.out.symm,o.out⟩
    ·go_wp2;refine⟨⟨k+1,by omega,by go_num,?_⟩,by simp[intOf];omega⟩;intro b u;by_cases y:b=k
     ·subst y;rw[j.out];omega
     ·exact hid.out b oO
  ·obtain rfl:k=n:=oO;have f:=aa (Ib (s:=s) (xs:=a) (by rw[e.out];exact hid.out));go_wp2;go_ret
   exact⟨bh f.out.symm,o.out⟩):p:=h
theorem vE {C:Prop} (h:C:=by
 show∀W,_;intro W f;have h:=H.out.fP (bg.below (ae z.out f));have b2:=bo.out.below (ae z.out f);refine⟨h.P.cell 0 _ rfl,?_,b2.cell 0 _ rfl⟩;rw[K]
 exact h.Q.cell 0 _ rfl):C:=h
theorem Jx {be:Prop} (h:be:=by
 clear D hg;refine⟨trivial,?_⟩;simp only[yQ,yU,yX,yY];refine' iW (w':=d.setCell ⟨i,0,none⟩ (.slice p (nl+2) r)) rfl (GA rfl ⟨i,0,none⟩ p (nl+2) r rfl rfl (H.out.cell 0 _ rfl) (frozen_of_row _ _ _ _ _ H.out)) trivial ?_;simp only[yQ,yU,yX,yY];refine aj ?_;go_wp2
 exact⟨⟨a+1,by omega,by go_num,cq.out p r d Q.out S.out H.out T.out V.out⟩,by simp[intOf];omega⟩):be:=h
theorem RP {p:Prop} (h:p:=by
 have M:Hid (aK (b.drop a) 0 8=(0,10)):=by show _=_;unfold aK;rw[if_pos oO]
 have r:Hid (cB (b.drop at_) out=(10,b.drop a,d)):=by show _=_;rw[<-y.out,E.out,if_pos z]
 clear z E y;go_wp2_with fail
 refine(jM A j D b a 8 _ 8 _ rfl rfl (i.out.sr H.out) N oO O).mono ?_;rintro e ac ⟨rfl,s⟩;rw[M.out,s];clear s
 go_wp2_with(first
  |((with_reducible show wpList _ _ _ (⟨_,Op.load 163 _,_,_,_,_⟩::_) _ _);refine aP rfl 163 _ rfl _ Tryz.underlying163 rfl ⟨X,0,none⟩ (dp a mode l d.length m) cR rfl i.out.load ?_)
  |((with_reducible show wpList _ _ _ (⟨_,Op.store 163 _ _,_,_,_,_⟩::_) _ _);refine aZ rfl 163 _ _ rfl 163 Y 0 _ (dp a mode l d.length m) rfl rfl i.out.yr cR (by show 3<=3;omega) (kg _ _ _ _ _) ?_))
 (try simp only[Exit.inBlock,Exit.then])
 refine bodyPost_ret (eO rfl _ _ Y (dp a mode l d.length m) _ (.int .i64 10) rfl rfl i.out.fin.1.cells Tryz.underlying163 rfl cR) rfl ?_
 exact⟨a,mode,d.length,l,m,⟨by rw[r.out],by rw[<-t.out];omega⟩,i.out.fin.2.1,λh=>by rw[r.out]at h;exact absurd h oS⟩):p:=h
theorem RR {c7:Prop} (h:c7:=by
 go_enter Tryz.func28,Tryz.ntmps28
 go_wp2_with(first
  |(go_at_call 73;(rw[<-K]);(simp only[<-Y]);refine(b9.out _).mono ?_;rintro e i ⟨rfl,g⟩;have a:Hid (af w0 i):=g;obtain⟨p,r,s⟩:=l.out _ g;clear g K Y)
  |(go_at_call 74;(with_reducible show Calls _ _ #[_,.bool true] _ _);refine(ca.out _).mono ?_;rintro e i ⟨rfl,g⟩;have a:=aa (ae a.out g);obtain⟨p,r,s⟩:=l.out _ a.out;clear g)
  |(go_at_call 74;(with_reducible show Calls _ _ #[_,.bool false] _ _);refine(cb.out _).mono ?_;rintro e i ⟨rfl,g⟩;have a:=aa (ae a.out g);obtain⟨p,r,s⟩:=l.out _ a.out;clear g)
  |(go_at_call 75;(with_reducible show Calls _ _ #[_,.int .i64 6] _ _);refine(ce.out _ (o.out.trans (a.out.mono o.out.size))).mono ?_;rintro e i ⟨rfl,g⟩;have a:=aa (ae a.out g);obtain⟨p,r,s⟩:=l.out _ a.out;clear g)
  |(go_at_call 76;refine(ch.out _ (o.out.trans (a.out.mono o.out.size))).mono ?_;rintro e i ⟨rfl,g⟩;have a:=aa (ae a.out g);obtain⟨p,r,s⟩:=l.out _ a.out;clear g;rcases G with _|_))):c7:=h
theorem RF {p:Prop} (h:p:=by
 have ca:a+8<=j:=by rw[List.length_drop,<-t.out]at z;omega
 have b7:=IF bb;have Z:Hid (fU n w wa (wr.setCell ⟨X,0,none⟩ (.int .i64 ((a:Int)+8))) X Y (a+8) mode d l m):=by
  have h:=i.out.setAt (a+8);rw[Int.natCast_add]at h;exact h
 clear z E y hc;generalize UInt8.ofNat c=x at*;go_wp2_with fail
 refine(jM A j D b a 8 _ 8 _ rfl rfl (i.out.sr H.out) N oO O).mono ?_;rintro e ac ⟨rfl,s⟩;rw[M.out,s];clear s;go_wp2_with(at_builtin;refine so (eR Z.out.O _) (by have:=Z.out.ge;simp at this⊢;omega) rfl _ _ rfl rfl wr.heap.size x rfl (RG.one _ _ _ _ oS) (by have:=P.out;have:=bo.out;omega) ?_;intro bd be bv a3 a4;obtain⟨bx,bz,a5⟩:=(Z.out.below (ax _ _)).grow a4.out a3.out;have bq:=aa a5;clear a3 a4 a5)
 have a6:(d++[x]).length=d.length+1:=by simp
 have a7:=bq.out;rw[a6]at a7
 exact⟨⟨f+1,a+8,d++[x],bd,be,by omega,by go_num,by omega,a7,by show _=_;rw[a6,P.out];omega,r.out⟩,by simp[intOf];omega⟩):p:=h
theorem SN {p:Prop} (h:p:=by
 have o:(d:Int)* d<=n:=by
  have:((d* d:Nat):Int)<=n:=oO;simpa using this
 have A:d<=64:=by
  rcases Nat.lt_or_ge d 65 with h|h
  ·omega
  ·have:=Nat.mul_le_mul h h;omega
 clear l;by_cases j:n%d=0
 ·have u:(((n:Int)%(d:Int))==0)=true:=by
   have:((n%d:Nat):Int)=0:=oO;simpa using this
  have b:jf n=false:=by
   rw[Bool.eq_false_iff];intro h;have r:d* d<=n:=by
    have:((d* d:Nat):Int)<=n:=by simpa using o
    omega
   exact((qb n).1 h).2 d q r j
  have g:=Lib.hid b;clear b;clear j;go_wp2;go_ret;exact⟨bh g.out.symm,rfl⟩
 ·have u:(((n:Int)%(d:Int))==0)=false:=by
   have:((n%d:Nat):Int)≠0:=oO;simpa using this
  have s:=Lib.hid j;clear j;go_wp2;refine⟨⟨d+1,by omega,by omega,by go_num,?_⟩,by simp[intOf];omega⟩;intro a f k;by_cases t:a=d
  ·subst t;exact s.out
  ·exact hid.out a f oO):p:=h
theorem Su {L:Prop} (h:L:=by
 obtain⟨b6,rfl,cv,C⟩:=a3.out.rd (by rw[<-g.out];omega);have bb:=C k (by rw[<-g.out];exact v);clear C;have r:=av.out k v;have E:Hid (0<=a.getD k 0/\a.getD k 0<=(M:Int)->∀b,b<k+1->0<=a.getD b 0/\a.getD b 0<=(M:Int)):=by
  show _->_;intro h b i;rcases Nat.lt_or_ge b k with j|j
  ·exact al.out b j
  ·obtain rfl:b=k:=oO;exact h
 generalize a.getD k 0=x at*;by_cases o:0<=x/\x<=(M:Int)
 ·have Y:=aa (E.out o);have ed:=o.1;have ef:=o.2;clear o r;go_wp2;exact⟨⟨k+1,by omega,by go_num,Y.out⟩,by simp[intOf];omega⟩
 ·have z:=aa (r (by
   by_cases u:0<=x
   ·rw[decide_eq_true u,decide_eq_false (λh=>o ⟨u,h⟩)];rfl
   ·rw[decide_eq_false u];rfl))
  have dl:x<0\/(0<=x/\(M:Int)<x):=oO;clear o r;rcases dl with o|⟨o,d8⟩
  ·go_wp2;go_ret2
   exact RT.mk z.out (SG.dw _) (Below.refl _ _)
  ·go_wp2;go_ret2
   exact RT.mk z.out (SG.dw _) (Below.refl _ _)):L:=h
theorem Sq {B:Prop} (h:B:=by
 have P:=aa m;have bv:=IF ap;clear m z o hc;generalize UInt8.ofNat c=x at*
 go_wp2_with(first
  |(go_at_call 182;refine(p.out.reads 8 oO).mono ?_;rintro e L ⟨rfl,C⟩;have T:Hid (DE n w L db j b0 (a.drop 8) l f):=(C.elim (λh=>absurd h.1 P.out) (λh=>h.2));obtain⟨bb,co,bd,X,av⟩:=T.out.outs;have Y:=aa X;rw[O.out];clear C X av)
  |(at_builtin;refine so (eR Y.out _) (by have:=T.out.ge;simp;omega) rfl _ _ rfl rfl L.heap.size x rfl (RG.one _ _ _ _ rfl) (by have:=Q.out;have:=a4.out;omega) ?_;intro be bf bi Z ab;obtain⟨⟨u8,bo⟩,bq,ac⟩:=(T.out.below (ax _ _)).Kh (eR Y.out _) ab.out Z.out;have a5:=aa ac;clear Z ab ac))
 have ad:(f++[x]).length=f.length+1:=by simp
 have al:=a5.out;rw[ad]at al
 exact⟨⟨d+1,a.drop 8,f++[x],by omega,by go_num,al,by show _=_;rw[ad,Q.out];omega,s.out⟩,by simp[intOf];omega⟩):B:=h
theorem Sf {d:Prop} (h:d:=by
 have j:∀(k:Nat) (v:Value),k≠e->(wr.setCell ⟨e,n,none⟩ v).heap[k]?=wr.heap[k]?:=λk v m=>heap_setCell_other wr ⟨e,n,none⟩ k v m;have l:∀(W:World) (x k:Nat) (v:Value),k≠bl->(W.setCell ⟨bl,x,none⟩ v).heap[k]?=W.heap[k]?:=λW x k v m=>heap_setCell_other W ⟨bl,x,none⟩ k v m;have e1:=heap_setCell_same wr e n _ 3 (.int .i64 ((aM S d (aV S d) n:Nat):Int)) h.E;rw[s7,LU o (n:=n) oO]at e1;have e2:=heap_setCell_same (wr.setCell ⟨e,n,none⟩ (.int .i64 ((aM S d (aV S d) n:Nat):Int))) bl (aM S d (aV S d) n) _ 3 (.int .i64 (n:Int)) ((j bl _ (Ne.symm h.n1)).trans h.L);rw[s7,Nd o oO]at e2;have a:=h.he;have b:=h.hl;have c:=h.hs
 exact⟨p.setCell oT _,h.he,h.hl,h.hs,h.n1,h.n2,h.n3,
  ((l _ _ _ _ oO).trans (j _ _ oO)).trans h.F,((l _ _ _ _ oO).trans (j _ _ oO)).trans h.cK,
  (l _ _ _ _ h.n1).trans e1,e2,((l _ _ _ _ (Ne.symm h.n3)).trans (j _ _ (Ne.symm h.n2))).trans h.A⟩):d:=h
theorem Sc {av:Prop} (h:av:=by
 have t:=aa (ae c2.out hB.out);clear c3 e9;have c0:=eu (p.out wr t.out);have c1:=ia (p.out wr t.out);have da:=kt (p.out wr t.out);have dd:=mP (p.out wr t.out);have de:=nV (p.out wr t.out);have di:=Iz (p.out wr t.out);have dn:=bN 0 ((p.out wr t.out));have ds:=bN 1 ((p.out wr t.out));have dv:=bN 2 ((p.out wr t.out));have dx:=bN 3 ((p.out wr t.out));have dy:=bN 4 ((p.out wr t.out));have dz:=bN 5 ((p.out wr t.out));go_wp2;refine bodyPost_ret (v:= .tuple #[.agg cg,.int .i64 16]) (by simp[results,Tryz.results12,go_sem,c0,c1,da,dd,de,di,dn,ds,dv,dx,dy,dz]) rfl ⟨d7.out,λcK b5 cx=>?_⟩;rw[bq.out]at b5 cx;obtain rfl:=cx fz.out;refine⟨_,rfl,rfl,?_⟩;have d8:Hid (af w wr):=b6.out.trans (t.out.mono G.out.2.2)
 exact((((((d8.out).setCell G.out.1 _).setCell G.out.1 _).setCell G.out.1 _).setCell G.out.1 _).setCell G.out.1 _).setCell G.out.1 _):av:=h
theorem SV {p:Prop} (h:p:=by
 have r:Hid (cB (b.drop at_) out=(0,b.drop a,d)):=by show _=_;rw[<-y.out,Nat.sub_self];rfl
 go_wp2_with(first
  |((with_reducible show wpList _ _ _ (⟨_,Op.load 163 _,_,_,_,_⟩::_) _ _);refine aP rfl 163 _ rfl _ Tryz.underlying163 rfl ⟨X,0,none⟩ (dp a mode l d.length m) cR rfl i.out.load ?_)
  |((with_reducible show wpList _ _ _ (⟨_,Op.store 163 _ _,_,_,_,_⟩::_) _ _);refine aZ rfl 163 _ _ rfl 163 Y 0 _ (dp a mode l d.length m) rfl rfl i.out.yr cR (by show 3<=3;omega) (kg _ _ _ _ _) ?_))
 (try simp only[Exit.inBlock,Exit.then])
 refine bodyPost_ret (eO rfl _ _ Y (dp a mode l d.length m) _ (.int .i64 0) rfl rfl i.out.fin.1.cells Tryz.underlying163 rfl cR) rfl ?_
 exact⟨a,mode,d.length,l,m,⟨by rw[r.out],by rw[<-t.out];omega⟩,i.out.fin.2.1,λ_=>by rw[r.out];exact⟨by rw[<-t.out];exact N,rfl,rfl,rfl,i.out.fin.2.2⟩⟩):p:=h
theorem R8 {q:Prop} (h:q:=by
 have x:Hid (af w w0):=by show Below _ _ _;rw[j];exact ax _ _
 obtain⟨r,k⟩:∃r,r=w.heap.size:=⟨_,rfl⟩;rw[<-j,<-k]at g;go_enter Tryz.func14,Tryz.ntmps14;go_wp2_with(go_at_call 37;(rw[<-j]);refine(y.out _).mono ?_;rintro e s ⟨rfl,z⟩;have B:Hid (af w0 s):=z;clear z)
 simp only[<-k];clear j k;have l:Hid (af w0 s.drew):=ai B.out;refine yO (af w0) [1,2,4,5,0,3,6,0,7,8] l.out ?_
 repeat refine zO g.out ?_
 refine zZ ?_;refine(C.out _).mono ?_;rintro e L ⟨rfl,D⟩;have o:=aa (ae l.out D);clear D;refine⟨_,rfl,o.out,jO ?_⟩;refine zZ ?_;refine(E.out _).mono ?_;rintro e G ⟨rfl,F⟩;have p:=aa (ae o.out F);clear F;refine⟨_,rfl,p.out,jO ?_⟩
 repeat refine zO g.out ?_
 refine aj ?_;obtain⟨M,O,P⟩:=g.out G p.out;clear B o l;go_wp2;go_ret3
 exact dU.err t.out (x.out.trans (p.out.mono x.out.size))):q:=h
theorem Nc {j:Prop} (h:j:=by
 obtain⟨k,rfl⟩:∃k,v=k+2:=⟨v-2,by omega⟩;rw[Nat.add_sub_cancel]at f;have d:=aa f;have l:((k:Int)+2==0)=false:=by rw[beq_eq_false_iff_ne];omega
 have m:((k:Int)+2==1)=false:=by rw[beq_eq_false_iff_ne];omega
 have n:decide ((27:Int)<(k:Int)+2)=false:=by simp;omega
 have o:k<26:=oO;clear g i e a b f hl;go_enter Tryz.func141,Tryz.ntmps141;go_wp2;go_ret;rw[<-d.out]
 exact⟨rfl,Below.refl _ _⟩):j:=h
theorem R9 {C:Prop} (h:C:=by
 clear M N O P Q K T V X Y a4 a5 D E F G u a6 a7 j;subst B;go_enter Tryz.func94,Tryz.ntmps94;go_wp2;refine bV (S:=(λW=>af (w.alloc (.cells #[.int .i64 0,.int .i64 0] 47)) W)) 12 oK oK (ai (Below.refl _ _)) ?_;simp only[List.take_succ_cons,List.take_zero,List.drop_succ_cons,List.drop_zero]
 repeat refine kO A.out ?_
 refine kX (λW f=>bd.out W f) ?_
 repeat refine kO A.out ?_
 refine kX (λW f=>be.out W f) ?_;refine cX ?_;intro r u;have Z:=aa u;clear u;have v:=aa (ab.out _ Z.out);have ac:=eu v.out;have ad:=ia v.out;have al:=bN 0 v.out;have am:=bN 1 v.out;have a8:=aa (ae z.out Z.out);go_wp2
 exact bodyPost_ret (v:= .agg #[.int .i64 (x:Int),.int .i64 (y:Int)]) (by simp[results,Tryz.results94,go_sem,ac,ad,al,am]) rfl ⟨rfl,(a8.out.setCell oS _).setCell oS _⟩):C:=h
theorem SX {C:Prop} (h:C:=by
 clear M N O P Q K T V X Y a4 a5 D E F G u a6 a7 j;subst B;go_enter Tryz.func95,Tryz.ntmps95;go_wp2;refine bV (S:=(λW=>af (w.alloc (.cells #[.int .i64 0,.int .i64 0] 47)) W)) 14 oK oK (ai (Below.refl _ _)) ?_;simp only[List.take_succ_cons,List.take_zero,List.drop_succ_cons,List.drop_zero]
 repeat refine kO A.out ?_
 refine kX (λW f=>be.out W f) ?_
 repeat refine kO A.out ?_
 refine kX (λW f=>bf.out W f) ?_;refine cX ?_;intro r u;have Z:=aa u;clear u;have v:=aa (ab.out _ Z.out);have ac:=eu v.out;have ad:=ia v.out;have al:=bN 0 v.out;have am:=bN 1 v.out;have a8:=aa (ae z.out Z.out);go_wp2
 exact bodyPost_ret (v:= .agg #[.int .i64 (x:Int),.int .i64 (y:Int)]) (by simp[results,Tryz.results95,go_sem,ac,ad,al,am]) rfl ⟨rfl,(a8.out.setCell oS _).setCell oS _⟩):C:=h
theorem R6 {C:Prop} (h:C:=by
 clear M N O P Q K T V X Y a4 a5 D E F G u a6 a7 j;subst B;go_enter Tryz.func96,Tryz.ntmps96;go_wp2;refine bV (S:=(λW=>af (w.alloc (.cells #[.int .i64 0,.int .i64 0] 47)) W)) 16 oK oK (ai (Below.refl _ _)) ?_;simp only[List.take_succ_cons,List.take_zero,List.drop_succ_cons,List.drop_zero]
 repeat refine kO A.out ?_
 refine kX (λW f=>bf.out W f) ?_
 repeat refine kO A.out ?_
 refine kX (λW f=>bi.out W f) ?_;refine cX ?_;intro r u;have Z:=aa u;clear u;have v:=aa (ab.out _ Z.out);have ac:=eu v.out;have ad:=ia v.out;have al:=bN 0 v.out;have am:=bN 1 v.out;have a8:=aa (ae z.out Z.out);go_wp2
 exact bodyPost_ret (v:= .agg #[.int .i64 (x:Int),.int .i64 (y:Int)]) (by simp[results,Tryz.results96,go_sem,ac,ad,al,am]) rfl ⟨rfl,(a8.out.setCell oS _).setCell oS _⟩):C:=h
theorem RN {C:Prop} (h:C:=by
 clear M N O P Q K T V X Y a4 a5 D E F G u a6 a7 j;subst B;go_enter Tryz.func97,Tryz.ntmps97;go_wp2;refine bV (S:=(λW=>af (w.alloc (.cells #[.int .i64 0,.int .i64 0] 47)) W)) 14 oK oK (ai (Below.refl _ _)) ?_;simp only[List.take_succ_cons,List.take_zero,List.drop_succ_cons,List.drop_zero]
 repeat refine kO A.out ?_
 refine kX (λW f=>bi.out W f) ?_
 repeat refine kO A.out ?_
 refine kX (λW f=>bd.out W f) ?_;refine cX ?_;intro r u;have Z:=aa u;clear u;have v:=aa (ab.out _ Z.out);have ac:=eu v.out;have ad:=ia v.out;have al:=bN 0 v.out;have am:=bN 1 v.out;have a8:=aa (ae z.out Z.out);go_wp2
 exact bodyPost_ret (v:= .agg #[.int .i64 (x:Int),.int .i64 (y:Int)]) (by simp[results,Tryz.results97,go_sem,ac,ad,al,am]) rfl ⟨rfl,(a8.out.setCell oS _).setCell oS _⟩):C:=h
theorem SL {Z:Prop} (h:Z:=by
 go_wp2_with(at_builtin;refine eT (aq g.out.O (ax _ _)) (Nat.le_trans g.out.B.size oS) rfl _ _ rfl rfl ⟨wr.heap.size,0,none⟩ 1 1 [(x,y)] rfl rfl (gL wr [(x,y)] _) (by have:=N.out;omega) ?_;intro v6 bs ac hg a3;have ab:=aa (g.out.grow (ax _ _) ac hg);clear ac hg a3)
 first|exact⟨⟨b+1,by omega,by go_num,by show aX _ _ _ _;rw[F.out];exact ab.out⟩,by first|(simp[intOf];done)|(simp[intOf];omega)⟩|exact⟨⟨_,_,_,_,_,_,_,_,_,_,_,_,_,_,_,_,_,_,_,_,⟨b+1,by omega,by go_num,by show aX _ _ _ _;rw[F.out];exact ab.out⟩,rfl⟩,by show 10-(intOf (.int .i64 ((b:Int)+1))).toNat<10-(intOf (.int .i64 (b:Int))).toNat;first|(simp[intOf];done)|(simp[intOf];omega)⟩):Z:=h
theorem Si {Z:Prop} (h:Z:=by
 go_wp2_with(at_builtin;refine eT (aq g.out.O (ax _ _)) (Nat.le_trans g.out.B.size oS) rfl _ _ rfl rfl ⟨wr.heap.size,0,none⟩ 1 1 [(x,y)] rfl rfl (gL wr [(x,y)] _) (by have:=N.out;omega) ?_;intro v6 bs ac hg a3;have ab:=aa (g.out.grow (ax _ _) ac hg);clear ac hg a3)
 first|exact⟨⟨b+1,by omega,by go_num,by show aX _ _ _ _;rw[F.out];exact ab.out⟩,by first|(simp[intOf];done)|(simp[intOf];omega)⟩|exact⟨⟨_,_,_,_,_,_,_,_,_,_,_,_,_,_,_,_,_,_,_,_,⟨b+1,by omega,by go_num,by show aX _ _ _ _;rw[F.out];exact ab.out⟩,rfl⟩,by show 7-(intOf (.int .i64 ((b:Int)+1))).toNat<7-(intOf (.int .i64 (b:Int))).toNat;first|(simp[intOf];done)|(simp[intOf];omega)⟩):Z:=h
theorem NI {k:Prop} (h:k:=by
 have m:=Lib.hid g;clear g;go_enter Tryz.func149,Tryz.ntmps149;go_wp2_with(go_at_call 188;refine(jT _ _ oO oO).mono ?_;rintro e b ⟨rfl,rfl⟩)
 go_quiet ((first|(go_at_call 188;exact LF (jT _ _ oO oO))|(go_at_call 189;exact LF (QQ _ _ oO d))))
 go_wp2;go_ret
 exact⟨bh m.out.symm,cS ((Below.refl _ _).alloc (Nat.le_refl _) _) _⟩):k:=h
theorem Jj {a:Prop} (h:a:=by
 go_wp2
 refine bodyPost_ret (v:= .tuple #[.agg #[aS,aS],.int .i64 17]) (by simp[results,Tryz.results124,go_sem,c0,c1]) rfl ⟨(fx.out.setCell (by have:=d8.out;simp;omega) _).setCell (by have:=d8.out;simp;omega) _,.inr ⟨bd.out,rfl⟩⟩):a:=h
theorem I9 {f:Prop} (h:f:=by
 have j:=Lib.hid c;clear c;go_enter Tryz.func166,Tryz.ntmps166;go_wp2_with(go_at_call 207;refine(iZ _ _ oO).mono ?_;rintro e b ⟨rfl,rfl⟩)
 go_ret
 exact⟨bh j.out.symm,(Below.refl _ _).alloc (Nat.le_refl _) _⟩):f:=h
theorem Rs {b:Prop} (h:b:=by
 refine⟨0,Nat.zero_le _,rfl,rfl,?_⟩;refine⟨ai (ah (ah (ah m.out.2.2.2 _) _) _),by omega,by omega,by omega,by omega,by omega,by omega,?_,?_,?_,?_,?_⟩
 ·exact(Below.heap_alloc _ _ _ oT).trans ((Below.heap_alloc _ _ _ oT).trans ((Below.heap_alloc _ _ _ oO).trans m.out.2.1))
 ·exact(Below.heap_alloc _ _ _ oT).trans ((Below.heap_alloc _ _ _ oT).trans ((Below.heap_alloc _ _ _ oO).trans m.out.2.2.1))
 ·rw[K.out];exact(jq a _ _ _).1
 ·rw[L.out];exact(jq a _ _ _).2.1
 ·exact(jq a _ _ _).2.2):b:=h
theorem RZ {b:Prop} (h:b:=by
 refine⟨0,Nat.zero_le _,rfl,rfl,?_⟩;refine⟨ai (ah (ah (ah m.out.2.2.2 _) _) _),by omega,by omega,by omega,by omega,by omega,by omega,?_,?_,?_,?_,?_⟩
 ·exact(Below.heap_alloc _ _ _ oT).trans ((Below.heap_alloc _ _ _ oT).trans ((Below.heap_alloc _ _ _ oO).trans m.out.2.1))
 ·exact(Below.heap_alloc _ _ _ oT).trans ((Below.heap_alloc _ _ _ oT).trans ((Below.heap_alloc _ _ _ oO).trans m.out.2.2.1))
 ·rw[K.out];exact(jq a _ _ _).1
 ·rw[L.out];exact(jq a _ _ _).2.2
 ·exact(jq a _ _ _).2.1):b:=h
theorem Ri {b:Prop} (h:b:=by
 refine⟨0,Nat.zero_le _,rfl,rfl,?_⟩;refine⟨ai (ah (ah (ah m.out.2.2.2 _) _) _),by omega,by omega,by omega,by omega,by omega,by omega,?_,?_,?_,?_,?_⟩
 ·exact(Below.heap_alloc _ _ _ oT).trans ((Below.heap_alloc _ _ _ oT).trans ((Below.heap_alloc _ _ _ oO).trans m.out.2.1))
 ·exact(Below.heap_alloc _ _ _ oT).trans ((Below.heap_alloc _ _ _ oT).trans ((Below.heap_alloc _ _ _ oO).trans m.out.2.2.1))
 ·rw[K.out];exact(jq a _ _ _).2.1
 ·rw[L.out];exact(jq a _ _ _).1
 ·exact(jq a _ _ _).2.2):b:=h
theorem Sr {b:Prop} (h:b:=by
 refine⟨0,Nat.zero_le _,rfl,rfl,?_⟩;refine⟨ai (ah (ah (ah m.out.2.2.2 _) _) _),by omega,by omega,by omega,by omega,by omega,by omega,?_,?_,?_,?_,?_⟩
 ·exact(Below.heap_alloc _ _ _ oT).trans ((Below.heap_alloc _ _ _ oT).trans ((Below.heap_alloc _ _ _ oO).trans m.out.2.1))
 ·exact(Below.heap_alloc _ _ _ oT).trans ((Below.heap_alloc _ _ _ oT).trans ((Below.heap_alloc _ _ _ oO).trans m.out.2.2.1))
 ·rw[K.out];exact(jq a _ _ _).2.1
 ·rw[L.out];exact(jq a _ _ _).2.2
 ·exact(jq a _ _ _).1):b:=h
theorem RY {b:Prop} (h:b:=by
 refine⟨0,Nat.zero_le _,rfl,rfl,?_⟩;refine⟨ai (ah (ah (ah m.out.2.2.2 _) _) _),by omega,by omega,by omega,by omega,by omega,by omega,?_,?_,?_,?_,?_⟩
 ·exact(Below.heap_alloc _ _ _ oT).trans ((Below.heap_alloc _ _ _ oT).trans ((Below.heap_alloc _ _ _ oO).trans m.out.2.1))
 ·exact(Below.heap_alloc _ _ _ oT).trans ((Below.heap_alloc _ _ _ oT).trans ((Below.heap_alloc _ _ _ oO).trans m.out.2.2.1))
 ·rw[K.out];exact(jq a _ _ _).2.2
 ·rw[L.out];exact(jq a _ _ _).1
 ·exact(jq a _ _ _).2.1):b:=h
theorem Sp {b:Prop} (h:b:=by
 refine⟨0,Nat.zero_le _,rfl,rfl,?_⟩;refine⟨ai (ah (ah (ah m.out.2.2.2 _) _) _),by omega,by omega,by omega,by omega,by omega,by omega,?_,?_,?_,?_,?_⟩
 ·exact(Below.heap_alloc _ _ _ oT).trans ((Below.heap_alloc _ _ _ oT).trans ((Below.heap_alloc _ _ _ oO).trans m.out.2.1))
 ·exact(Below.heap_alloc _ _ _ oT).trans ((Below.heap_alloc _ _ _ oT).trans ((Below.heap_alloc _ _ _ oO).trans m.out.2.2.1))
 ·rw[K.out];exact(jq a _ _ _).2.2
 ·rw[L.out];exact(jq a _ _ _).2.1
 ·exact(jq a _ _ _).1):b:=h
theorem Rx {bv:Prop} (h:bv:=by
 have c3:=a0.out.1;have c4:IntKind.i64.wrap ((Y:Int)+1)=((Y+1:Nat):Int):=by rw[aG _ oO oO];omega
 have c5:IntKind.i64.wrap ((Z:Int)+1)=((Z+1:Nat):Int):=by rw[aG _ oO oO];omega
 generalize Y+1=cy at*;generalize Z+1=c2 at*
 go_quiet (first
 |(go_at_call 72;(with_reducible show Calls _ _ #[.slice (some f) _ _] _ _);refine Calls.quiet_of_same (a0.out.2 _))
 |(go_at_call 72;refine Calls.quiet_of_same (b1.out _)))
 go_wp2;go_ret3
 rw[bx.out]
 exact⟨rfl,cS b2.out _⟩):bv:=h
theorem RC {B:Prop} (h:B:=by
 go_wp2_with(first|(refine aP rfl 181 _ rfl _ Tryz.underlying181 rfl ⟨w.heap.size,0,none⟩ no.aN iE rfl (sX K.out) ?_)|(refine aZ rfl 181 _ _ rfl 181 f 0 a.aN.toArray no.aN rfl rfl r.out iE (by show 7<=7;omega) no.one ?_;rw[jR a.aN no.aN (by rfl)]))
 refine bodyPost_end (results_none rfl _ _ _) rfl ?_;rw[p.out]
 exact⟨rfl,r.out.set _,below_setRow (x.out.mono oO) (Nat.le_refl _) _⟩):B:=h
theorem SB {B:Prop} (h:B:=by
 have O:Hid (aK a 0 8=(0,10)):=by show _=_;unfold aK;rw[if_pos oO]
 have s:Hid (cB b out=(10,a,f)):=by show _=_;rw[<-o.out,z.out,if_pos m]
 have P:=aa m;clear m z o;go_wp2_with(go_at_call 182;refine(p.out.reads 8 oO).mono ?_;rintro e L ⟨rfl,C⟩;have a6:Hid (L=wr):=(C.elim (λh=>h.2) (λh=>absurd P.out oO));rw[O.out,a6.out];clear C)
 go_ret;rw[s.out]
 exact⟨rfl,p.out⟩):B:=h
theorem RH {a:Prop} (h:a:=by
 clear d b;go_enter Tryz.func117,Tryz.ntmps117;go_wp2_with fail
 refine(yw c S a A B _ _ j oS (by go_simp) (by go_simp)).mono ?_;rintro e r ⟨rfl,m⟩;rw[k.out];have i:=dP.step (dP.alloc (dP.start w c S a 89) (.cells #[.int .i64 A,.int .i64 B] 3)) m;obtain⟨-,s,t,u,v⟩:=id i;have q:=Lib.hid i;clear i m;go_wp2_with fail
 go_ret2
 exact⟨P0 l.out rfl,q.out.below⟩):a:=h
theorem Sv {av:Prop} (h:av:=by
 show _->_;rintro⟨F,D⟩;have o:=DO (l:=g) (by rw[<-hs.hn];omega) D;rw[<-hs.hn]at o;have T:=Pf (by rw[<-hs.hn];omega) (by rw[<-hs.hn];exact n1) D;refine⟨by omega,T,λL=>?_⟩;obtain⟨s,ib,f7,ih⟩:=Hd (l:=g) (by rw[<-hs.hn];omega) D L rfl;refine⟨s,by omega,?_⟩;rcases Nat.eq_zero_or_pos (bm (dS g) (aw L)).length with a1|a1
 ·rw[a1]at f7;omega
 ·exact a1):av:=h
theorem Ru {L:Prop} (h:L:=by
 show _->_;intro h t B;unfold aC;have e:okW s a=true:=all_true (d:=0) λb i=>by
  have:=B b (by rw[g.out];exact i);rw[beq_eq_false_iff_ne.2 this.1,beq_eq_false_iff_ne.2 this.2];rfl
 rw[if_neg oO,if_neg (by rw[show((s:Nat):Int).toNat=s from rfl,h];simp),if_neg (by rw[<-g.out];exact t),if_neg (by rw[show((s:Nat):Int).toNat=s from rfl,e];simp),<-g.out]
 rfl):L:=h
theorem Sn {m:Prop} (h:m:=by
 have F:a<=200:=oO;have G:q<=200:=oO;have H:f<=200:=oO;clear r n hq o l p;go_enter Tryz.func139,Tryz.ntmps139
 go_wp2_with(first
  |(go_at_call 48;refine(C.out _).mono ?_;rintro e v ⟨rfl,j⟩;rw[j];clear j)
  |(go_at_call 98;refine(D.out _).mono ?_;rintro e v ⟨rfl,j⟩;rw[j];clear j))
 go_ret;exact⟨bM s.out,rfl⟩):m:=h
theorem R7 {bx:Prop} (h:bx:=by
 show pH _ _ _ _ _ _ _;refine⟨?_,?_,λe=>?_⟩
 ·rw[bt];exact((c2.below y.out).below av).below a6.out
 ·rw[bv,<-d7.out];exact(c3.below G.out).below a6.out
 ·have d5:af S C:=ae (ae (dT y.out) av) a6.out;have d6:HC L S hb D:=by first|exact c8.out e|exact c8.out trivial|cases e
  exact⟨d6.1.below d5,d6.2.below d5⟩):bx:=h
theorem SD {bx:Prop} (h:bx:=by
 show BP _ _ _ _ _;refine⟨a6.out,⟨some ⟨i.heap.size,0,none⟩,cK,?_,?_⟩,?_,?_⟩
 ·show ag _ _ #[.slice (some ⟨i.heap.size,0,none⟩) 0 cK] _;rw[a0,be];exact ag.new _ _ _ _ oS
 ·show World.ownsRow _ _ _ _ (.slice (some ⟨i.heap.size,0,none⟩) 0 cK) 0 [];rw[a0];exact aq d8.out (ax _ _)
 ·rw[be];exact a7.out.size
 ·exact a6.out.size):bx:=h
theorem Rj {i:Prop} (h:i:=by
 go_wp2_with fail
 refine(yw c s d a b _ _ j oS (by go_simp) (by go_simp)).mono ?_;rintro e n ⟨rfl,l⟩;rw[k.out];have g:=dP.step (dP.alloc (dP.start w c s d 89) (.cells #[.int .i64 a,.int .i64 b] 3)) l;obtain⟨-,o,p,q,r⟩:=id g;have m:=Lib.hid g;clear g l;go_wp2_with fail
 go_ret2
 exact⟨rfl,m.out.below⟩):i:=h
theorem SM {a:Prop} (h:a:=by
 subst g;refine⟨ay h.E,ay h.L,λl i=>?_,λx j k=>?_⟩
 ·rw[cell_of_row _ _ _ _ _ _ h.E,iU];have:=Od e i;rw[<-Ke e]at this;rw[<-this];unfold lz;simp[List.getD,i]
 ·rw[cell_of_row _ _ _ _ _ _ h.L,iU];have:=NS e j k;rw[<-this];unfold nt
  simp[List.getD,j]):a:=h
end
end Go.Proofs.YtmnlkganmgcpbaaGreatDoor
