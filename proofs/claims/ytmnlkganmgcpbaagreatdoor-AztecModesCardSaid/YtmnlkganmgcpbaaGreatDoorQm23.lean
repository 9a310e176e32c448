import Derived.Test.YtmnlkganmgcpbaaGreatDoorQm22
set_option maxRecDepth 100000
set_option maxHeartbeats 4000000
set_option linter.unusedVariables false
set_option linter.unusedSectionVars false
set_option linter.unusedSimpArgs false
namespace Go.Proofs.YtmnlkganmgcpbaaGreatDoor
section
open Go.RowKit
theorem zs {l:List UInt8} {C:Nat->Nat->Nat} (hl:l.length<=2078) (d:1<=l.length) (h:cT (bA l) C):1<=(cZ l).length:=by
 have hs:(bA l).size<=4096:=by rw[pT];omega
 rw[p8 oO h,uq hs h];obtain⟨c,-,a,b,-⟩:=h.JV hs 0 0 (by rw[pT];omega) oO;have:=a.size_pos;rw[<-b];unfold ay.bQ;omega
theorem yb {t:List Bool} {a L:Nat} {c:Bool} (h:j4 t a (L,c)=true) (b:1<=L) (d:L<=32) (e:1<=(aU t (aB L)).length):(aU t (aB L)).length<=eH c/\(aU t (aB L)).length<bH L c:=by
 unfold j4 uu at h;simp only[Bool.and_eq_true,decide_eq_true_eq]at h;refine⟨h.1,?_⟩;have f:1<=aB L:=by rcases iE L with h|h|h|h<;>omega
 apply Classical.byContradiction;intro hn;have:aB L* bH L c<=aB L* (aU t (aB L)).length:=Nat.mul_le_mul_left _ oO;omega
theorem CG (A:Option Addr) (n a6:Nat) (l:List UInt8) (d:Bool) (a:Nat) (w:World) (hs:SR vU 0 w A n a6 l) (n1:1<=n) (n2:n<=60) (p1:5<=a) (p2:a<=90):
 Calls Tryz.prog 12 #[.slice A n a6,.agg #[.int .i64 0,.bool d,.int .i64 (a:Int)]] w λe w'=>(∃C,cT (bA l) C)/\∀R,(∀p,gJ (cZ l) a 0 d=some p->R=(some p,0))->(gJ (cZ l) a 0 d=none->R=(none,16))->nf w l R e w':=by
 obtain⟨f,H⟩:∃f,f=(((w.alloc (.cells #[.int .i64 0,.bool d,.int .i64 (a:Int)] 24)).alloc (.cells bk 30)).alloc (bL 0 d)):=⟨_,rfl⟩;have b9:Hid (Below w.heap.size w f):=by show Below _ _ _;rw[H];exact ah (ah (ax _ _) _) _
 have e0:Hid (ae f w.heap.size #[.int .i64 0,.bool d,.int .i64 (a:Int)] 24):=by
  show ae _ _ _ _;rw[H];have q:ae (w.alloc (.cells #[.int .i64 0,.bool d,.int .i64 (a:Int)] 24)) w.heap.size #[.int .i64 0,.bool d,.int .i64 (a:Int)] 24:=ae.new _ _ _ _ rfl;exact(q.below (ax _ _)).below (ax _ _)
 have e9:Hid (ae f (w.heap.size+1) bk 30):=by
  show ae _ _ _ _;rw[H];have q:ae ((w.alloc (.cells #[.int .i64 0,.bool d,.int .i64 (a:Int)] 24)).alloc (.cells bk 30)) (w.heap.size+1) bk 30:=ae.new _ _ _ _ oS;exact q.below (ax _ _)
 have fb:Hid (ae f (w.heap.size+1+1) #[.int .i64 0,.bool d] 60):=by show ae _ _ _ _;rw[H];exact ae.new _ _ _ _ oS
 have r:Hid (w.heap.size<=w.heap.size+1/\w.heap.size+1<f.heap.size/\w.heap.size<=f.heap.size):=by show _/\_;rw[H];simp;omega
 have X:Hid (∀W,af f W->(W.cell? ⟨w.heap.size,0,none⟩=some (.int .i64 0)/\W.cell? ⟨w.heap.size,1,none⟩=some (.bool d)/\W.cell? ⟨w.heap.size,2,none⟩=some (.int .i64 (a:Int)))/\W.cell? ⟨w.heap.size+1+1,0,none⟩=some (.int .i64 0)/\W.cell? ⟨w.heap.size+1+1,1,none⟩=some (.bool d)):=by
  show∀W,_;intro W Q;have q:=e0.out.below Q;have K:=fb.out.below Q;exact⟨⟨q.cell 0 _ rfl,q.cell 1 _ rfl,q.cell 2 _ rfl⟩,K.cell 0 _ rfl,K.cell 1 _ rfl⟩
 have g:Hid (∀W,af f W->ae W (w.heap.size+1) bk 30):=λW Q=>e9.out.below Q;have fc:Hid (∀W,Below (((w.alloc (.cells #[.int .i64 0,.bool d,.int .i64 (a:Int)] 24)).alloc (.cells bk 30)).alloc (bL 0 d)).heap.size (((w.alloc (.cells #[.int .i64 0,.bool d,.int .i64 (a:Int)] 24)).alloc (.cells bk 30)).alloc (bL 0 d)) W->Below f.heap.size f W):=by show∀W,_->_;rw[<-H];exactλW h=>h
 have c3:=Lib.hid H;have gi:Hid (n=l.length):=hs.hn;have fd:Hid (∀W,af w W->Calls Tryz.prog 30 #[.slice A n a6] W λe w'=>(∃C,cT (bA l) C)/\RT vB false W (cZ l,0) e w'):=by
  show∀W,_->_;intro W Q;refine(wj A n a6 l W (hs.below Q) oO).mono ?_;rintro e w' ⟨C,F,ed⟩;refine⟨⟨C,F⟩,?_⟩;rw[p8 (by rw[<-hs.hn];omega) F];exact ed
 have fn:Hid ((∃C,cT (bA l) C)->(cZ l).length<=501/\1<=(cZ l).length/\∀L,aj (2^aB L) (aU (cZ l) (aB L))/\(aU (cZ l) (aB L)).length<=501/\1<=(aU (cZ l) (aB L)).length):=by
  show _->_;rintro⟨C,F⟩;have q:=uD (l:=l) (by rw[<-hs.hn];omega) F;rw[<-hs.hn]at q;have K:=zs (by rw[<-hs.hn];omega) (by rw[<-hs.hn];exact n1) F;refine⟨by omega,K,λL=>?_⟩;obtain⟨s,go,ef,gq⟩:=tB (l:=l) (by rw[<-hs.hn];omega) F L rfl;refine⟨s,by omega,?_⟩;rcases Nat.eq_zero_or_pos (aU (cZ l) (aB L)).length with ad|ad
  ·rw[ad]at ef;omega
  ·exact ad
 have gs:¬(4096:Int)<(n:Int):=oO;have gt:((n:Int)==0)=false:=by rw[beq_eq_false_iff_ne];omega
 have gv:¬n=0:=oO;have gx:¬(a:Int)<5:=oO;have gy:¬(90:Int)<(a:Int):=oO;have gz:decide (a<5)=false:=by simp;omega
 have gC:decide (90<a)=false:=by simp;omega
 have g8:n<=4096:=oO;obtain⟨o,a5⟩:∃o,o=qn d:=⟨_,rfl⟩;have c4:Hid (∀t,gJ t a 0 d=o.find? (j4 t a)):=by show∀t,_;intro t;unfold gJ EK;rw[a5];rfl
 have fo:Hid (∀p∈o,D3 p):=by
  show∀p∈_,_;rw[a5];exact K6 d
 have fr:Hid (o.length<=33):=by show _<=_;rw[a5];exact Ju d
 have c5:=Lib.hid a5;obtain⟨⟨y,B,D⟩,E,s⟩:=X.out f (Below.refl _ _);rw[c3.out]at y B D E s;have gD:=Lib.hid hs;clear hs a5 n1 H;have fv:Hid (af w (((w.alloc (.cells #[.int .i64 0,.bool d,.int .i64 (a:Int)] 24)).alloc (.cells bk 30)).alloc (bL 0 d))):=by show Below _ _ _;rw[<-c3.out];exact b9.out
 have fw:Hid (∀W,Calls Tryz.prog 31 #[.bool d] W λe w'=>∃bi G cs,e= .returned (.slice bi G cs)/\Hid (o.length=G)/\Hid (LO w' bi o)/\Below W.heap.size W w'):=λW=>by
  refine(B6 d W).mono ?_;rintro e w' ⟨v,rfl,⟨eh,x,rfl,-,-,h⟩,hb⟩;rw[<-c5.out]at h;exact⟨eh,o.length,x,by rw[c5.out],rfl,h,hb⟩
 go_enter Tryz.func12,Tryz.ntmps12
 go_wp2_with(first
  |(go_at_call 30;refine(fd.out _ fv.out).mono ?_;rintro e el ⟨F,gN,rfl,c6,J⟩;obtain⟨g0,a7,g1,rfl,fx⟩:=c6.parts;have HC:=Lib.hid (fn.out F);have c7:=Lib.hid F;have fz:=Lib.hid fx;have ca:Hid (Below f.heap.size f el):=fc.out _ J;clear F c6 J y B D E s;obtain⟨⟨y,B,D⟩,E,s⟩:=X.out _ ca.out;obtain⟨⟨em,en,eq⟩,-,-⟩:=X.out _ (ah ca.out (.cells #[.int .i64 0,.bool d] 60)))
  |(go_at_call 31;refine(fw.out _).mono ?_;rintro e cv ⟨bi,G,cs,rfl,cb,f0,Y⟩;have c8:Hid (Below f.heap.size f cv):=aa (ah ca.out _) Y;have a8:=Lib.hid (fz.out.below (aa (ax _ _) Y));clear Y y B D E s em en eq))
 have g7:G<=33:=by have:=fr.out;rw[cb.out]at this;exact this
 have c9:Hid (∀t,(o.take 0).find? (j4 t a)=none):=λt=>rfl;obtain⟨d9,f1,di⟩:=HC.out;have ds:=Lib.hid di;have a9:Hid (a7=(cZ l).length):=a8.out.hn;have g2:a7<=501:=by rw[a9.out];exact d9
 clear di f1 d9;obtain⟨t,bb⟩:∃t,Hid (cZ l=t):=⟨_,rfl⟩;rw[bb.out]at a8 a9 ds;go_loopw [64] (λbo wr=>∃j:Nat,j<=G/\bo= .int .i64 j/\Hid ((o.take j).find? (j4 t a)=none)/\Hid (af cv wr)) (λbo _=>G-(intOf bo).toNat)
 case atStart=>exact⟨0,Nat.zero_le _,rfl,c9.out t,Below.refl _ _⟩
 case round=>
  clear c9;obtain⟨j,er,rfl,dv,hB⟩:=hrel;by_cases dx:j<G
  ·have bf:j<o.length:=by rw[cb.out];exact dx
   obtain⟨T,U,rfl,dy,d0⟩:=f0.out oO;have ce:=d0 j bf;have d1:o.getD j (0,false)∈o:=by
    simp only[List.getD,List.getElem?_eq_getElem bf,Option.getD_some];exact List.getElem_mem bf
   have f2:=fo.out _ d1;have d2:=Lib.hid (yr (j4 t a) o (0,false) j bf dv.out);have e1:wr.cell? ⟨T,U+j* 2,none⟩=some (.int .i64 ((o.getD j (0,false)).1:Int)):=(hB.out.cell (p:=⟨T,U+j* 2,none⟩) dy).trans ce.1;have e2:wr.cell? ⟨T,U+j* 2+1,none⟩=some (.bool (o.getD j (0,false)).2):=(hB.out.cell (p:=⟨T,U+j* 2+1,none⟩) dy).trans ce.2;generalize o.getD j (0,false)=p at*;obtain⟨L,c⟩:=p;obtain⟨al,M,cx⟩:=f2;have al:1<=L:=al;have M:L<=32:=M;have e1:wr.cell? ⟨T,U+j* 2,none⟩=some (.int .i64 (L:Int)):=e1;have e2:wr.cell? ⟨T,U+j* 2+1,none⟩=some (.bool c):=e2;have f3:Hid (c=true->L<=4):=cx;clear cx ce d0 d1;have cg:=eV wr L c;have i:Hid (Below f.heap.size f wr):=aa c8.out hB.out;have d3:Hid (∀W,Calls Tryz.prog 33 #[cn L c] W λe w'=>e= .returned (.int .i64 ((aB L:Nat):Int))/\Below W.heap.size W w'):=λW=>l8 L c W M;have ea:Hid (∀W A m x,SR vB false W A m x t->Calls Tryz.prog 32 #[.slice A m x,.int .i64 ((aB L:Nat):Int)] W (RT vN 0 W (aU t (aB L),0))):=by
    show∀W A m x,_->_;intro W A m x bq;have h:=x9 A m x ((aB L:Nat):Int) t W bq;rw[tD (by rw[<-a9.out];omega)]at h;exact h
   obtain⟨d4,f4,ch⟩:=ds.out L;have bd:Hid (∀W,Calls Tryz.prog 34 #[cn L c,.int .i64 ((aU t (aB L)).length:Int),.int .i64 (a7:Int),.int .i64 (a:Int)] W λe w'=>e= .returned (.bool (j4 t a (L,c)))/\Below W.heap.size W w'):=λW=>by
    have h:=BI L c (aU t (aB L)).length a7 a W M oO oO oO;rw[a9.out]at h⊢;exact h
   have ci:Hid (j4 t a (L,c)=true->(aU t (aB L)).length<=eH c/\(aU t (aB L)).length<bH L c):=by
    show _->_;intro h;exact yb h al M ch
   have cp:Hid (j4 t a (L,c)=true->∀W A m x,SR vN 0 W A m x (aU t (aB L))->Calls Tryz.prog 35 #[cn L c,.slice A m x] W λe w'=>∃db N,N=aD L c* aD L c/\e= .returned (.tuple #[oV L c m (aD L c) db N,.int .i64 0])/\bu w' db (kB L c (aU t (aB L)))/\W.heap.size<=db/\Below W.heap.size W w'):=λh W A m x bq=>
    vP L c _ A m x W al M f3.out d4 ch (ci.out h).1 (ci.out h).2 bq
   have f5:(aD L c)* (aD L c)<=161* 161:=by have:=(uA L c al M).2;exact Nat.mul_le_mul this this
   have ge:Hid ((kB L c (aU t (aB L))).length=aD L c* aD L c):=tM _ _ _ _;have cq:Hid (∀(R:Option (Nat×Bool)×Int) (W:World) (db N k:Nat),(∀p,gJ t a 0 d=some p->R=(some p,0))->j4 t a (L,c)=true->N=aD L c* aD L c->k=(aU t (aB L)).length->bu W db (kB L c (aU t (aB L)))->R=(some (L,c),0)/\EA W (oV L c k (aD L c) db N) t (some (L,c))):=by
    show∀(R:Option (Nat×Bool)×Int) (W:World) (db N k:Nat),_->_->_->_->_->_;intro R W db N k q K bs es ad;refine⟨q _ (by rw[c4.out];exact d2.out.1 K),⟨some ⟨db,0,none⟩,N,N,bs,by rw[es],?_⟩⟩;exact ad.sr (by rw[bs,ge.out]) (by rw[bs];unfold maxLen;omega)
   clear d4 f4 ch;generalize aD L c=S at*;generalize kB L c (aU t (aB L))=dl at*;generalize f6:aU t (aB L)=cy at*;generalize aB L=z at*;clear f6 f5;have f7:Hid (∀(W:World) (db:Nat),af (wr.alloc (bL L c)) W->W.heap.size<=db->w.heap.size+1<db):=by
    show∀(W:World) (db:Nat),_->_->_;intro W db q K;have et:=q.size;have g3:=i.out.size;have g4:=r.out.2.1;simp at et;omega
   obtain⟨⟨y,B,D⟩,E,s⟩:=X.out wr i.out;cases hb:j4 t a (L,c)with
   |true=>
    rw[hb]at bd;have gg:=Lib.hid (cp.out hb);have ec:=Lib.hid (λR W db N k q=>cq.out R W db N k q hb);clear cp cq hb
    go_wp2_with(first
     |(go_at_call 33;refine(d3.out _).mono ?_;rintro e bt ⟨rfl,a0⟩;have a1:Hid (af (wr.alloc (bL L c)) bt):=a0;have ck:=Lib.hid ((a8.out.below hB.out).below (cQ a1.out));clear a0 y B D E s e1 e2)
     |(go_at_call 32;refine(ea.out _ _ _ _ ck.out).mono ?_;rintro e am ⟨ew,rfl,a2,J⟩;obtain⟨ex,V,ey,rfl,Z⟩:=a2.parts;have f8:=Lib.hid Z;have O:Hid (af (wr.alloc (bL L c)) am):=aa a1.out J;have P:Hid (V=cy.length):=Z.hn;have cr:Hid (Below f.heap.size f am):=aa i.out (cQ O.out);clear a2 J Z;obtain⟨ap,av⟩:=cg.out _ O.out;obtain⟨⟨y,B,D⟩,E,s⟩:=X.out _ cr.out)
     |(go_at_call 34;rw[P.out];refine(bd.out _).mono ?_;rw[<-P.out];rintro e bv ⟨rfl,ab⟩;have a3:Hid (af (wr.alloc (bL L c)) bv):=aa O.out ab;have f9:=Lib.hid (f8.out.below ab);clear ab ap av y B D E s;obtain⟨ap,av⟩:=cg.out _ a3.out)
     |(go_at_call 35;refine(gg.out _ _ _ _ f9.out).mono ?_;rintro e b ⟨db,N,c2,rfl,d5,d6,Y⟩;have ga:Hid (af (wr.alloc (bL L c)) b):=aa a3.out Y;have d7:=Lib.hid d5;have d8:=Lib.hid c2;have gb:=Lib.hid (f7.out _ _ a3.out d6);clear d5 d6 Y c2 ap av;have u:Hid (Below f.heap.size f b):=aa i.out (cQ ga.out);have c0:(b).cell? ⟨w.heap.size+1,0,none⟩=some (.int .i64 0):=(g.out b u.out).cell 0 _ rfl;have c1:(b).cell? ⟨w.heap.size+1,1,none⟩=some (.bool false):=(g.out b u.out).cell 1 _ rfl;have bx:(b).cell? ⟨w.heap.size+1,2,none⟩=some (.int .i64 0):=(g.out b u.out).cell 2 _ rfl;have bz:(b).cell? ⟨w.heap.size+1,3,none⟩=some (.int .i64 0):=(g.out b u.out).cell 3 _ rfl;have b1:(b).cell? ⟨w.heap.size+1,4,none⟩=some (.int .i64 0):=(g.out b u.out).cell 4 _ rfl;have b2:(b).cell? ⟨w.heap.size+1,5,none⟩=some (.slice none 0 0):=(g.out b u.out).cell 5 _ rfl;have b3:(b).frozen? ⟨w.heap.size+1,0,none⟩=false:=frozen_of_row _ _ _ _ _ ((g.out b u.out));have b4:(b).frozen? ⟨w.heap.size+1,1,none⟩=false:=frozen_of_row _ _ _ _ _ ((g.out b u.out));have b5:(b).frozen? ⟨w.heap.size+1,2,none⟩=false:=frozen_of_row _ _ _ _ _ ((g.out b u.out));have b6:(b).frozen? ⟨w.heap.size+1,3,none⟩=false:=frozen_of_row _ _ _ _ _ ((g.out b u.out));have b7:(b).frozen? ⟨w.heap.size+1,4,none⟩=false:=frozen_of_row _ _ _ _ _ ((g.out b u.out));have b8:(b).frozen? ⟨w.heap.size+1,5,none⟩=false:=frozen_of_row _ _ _ _ _ ((g.out b u.out))))
    refine bodyPost_ret (v:= .tuple #[oV L c V S db N,.int .i64 0]) (by simp[results,Tryz.results12,go_sem,c0,c1,bx,bz,b1,b2,b3,b4,b5,b6,b7,b8]) rfl ⟨c7.out,λR a4 be=>?_⟩;have ac:db≠w.heap.size+1:=by have:=gb.out;omega
    rw[bb.out]at a4 be;obtain rfl:=(ec.out R b db N V a4 d8.out P.out d7.out).1;refine⟨_,rfl,?_,?_⟩
    ·rw[bb.out];refine(ec.out _ _ db N V a4 d8.out P.out ?_).2;exact ae.cj (ae.cj (ae.cj (ae.cj (ae.cj (ae.cj d7.out _ _ ac) _ _ ac) _ _ ac) _ _ ac) _ _ ac) _ _ ac
    ·have co:Hid (Below w.heap.size w b):=b9.out.trans (u.out.mono r.out.2.2);exact((((((co.out).setCell r.out.1 _).setCell r.out.1 _).setCell r.out.1 _).setCell r.out.1 _).setCell r.out.1 _).setCell r.out.1 _
   |false=>
    rw[hb]at bd;have gc:=Lib.hid (d2.out.2 hb);clear cp cq hb ci
    go_wp2_with(first
     |(go_at_call 33;refine(d3.out _).mono ?_;rintro e bt ⟨rfl,a0⟩;have a1:Hid (af (wr.alloc (bL L c)) bt):=a0;have ck:=Lib.hid ((a8.out.below hB.out).below (cQ a1.out));clear a0 y B D E s e1 e2)
     |(go_at_call 32;refine(ea.out _ _ _ _ ck.out).mono ?_;rintro e am ⟨ew,rfl,a2,J⟩;obtain⟨ex,V,ey,rfl,Z⟩:=a2.parts;have O:Hid (af (wr.alloc (bL L c)) am):=aa a1.out J;have P:Hid (V=cy.length):=Z.hn;have cr:Hid (Below f.heap.size f am):=aa i.out (cQ O.out);clear a2 J Z;obtain⟨ap,av⟩:=cg.out _ O.out;obtain⟨⟨y,B,D⟩,E,s⟩:=X.out _ cr.out)
     |(go_at_call 34;rw[P.out];refine(bd.out _).mono ?_;rw[<-P.out];rintro e bv ⟨rfl,ab⟩;have a3:Hid (af (wr.alloc (bL L c)) bv):=aa O.out ab;clear ab ap av y B D E s))
    exact⟨⟨j+1,by omega,by go_num,gc.out,aa hB.out (cQ a3.out)⟩,by simp[intOf];omega⟩
  ·have ez:Hid (j=G):=by show _=_;omega
   have g5:decide (j<G)=false:=by simp;omega
   have gd:Hid (gJ t a 0 d=none):=by show _=_;rw[c4.out];have:=dv.out;rw[ez.out,<-cb.out,List.take_length]at this;exact this
   have g6:¬j<G:=oO;have i:Hid (Below f.heap.size f wr):=aa c8.out hB.out;clear dx er;have c0:(wr).cell? ⟨w.heap.size+1,0,none⟩=some (.int .i64 0):=(g.out wr i.out).cell 0 _ rfl;have c1:(wr).cell? ⟨w.heap.size+1,1,none⟩=some (.bool false):=(g.out wr i.out).cell 1 _ rfl;have bx:(wr).cell? ⟨w.heap.size+1,2,none⟩=some (.int .i64 0):=(g.out wr i.out).cell 2 _ rfl;have bz:(wr).cell? ⟨w.heap.size+1,3,none⟩=some (.int .i64 0):=(g.out wr i.out).cell 3 _ rfl;have b1:(wr).cell? ⟨w.heap.size+1,4,none⟩=some (.int .i64 0):=(g.out wr i.out).cell 4 _ rfl;have b2:(wr).cell? ⟨w.heap.size+1,5,none⟩=some (.slice none 0 0):=(g.out wr i.out).cell 5 _ rfl;have b3:(wr).frozen? ⟨w.heap.size+1,0,none⟩=false:=frozen_of_row _ _ _ _ _ ((g.out wr i.out));have b4:(wr).frozen? ⟨w.heap.size+1,1,none⟩=false:=frozen_of_row _ _ _ _ _ ((g.out wr i.out));have b5:(wr).frozen? ⟨w.heap.size+1,2,none⟩=false:=frozen_of_row _ _ _ _ _ ((g.out wr i.out));have b6:(wr).frozen? ⟨w.heap.size+1,3,none⟩=false:=frozen_of_row _ _ _ _ _ ((g.out wr i.out));have b7:(wr).frozen? ⟨w.heap.size+1,4,none⟩=false:=frozen_of_row _ _ _ _ _ ((g.out wr i.out));have b8:(wr).frozen? ⟨w.heap.size+1,5,none⟩=false:=frozen_of_row _ _ _ _ _ ((g.out wr i.out));go_wp2;refine bodyPost_ret (v:= .tuple #[.agg bk,.int .i64 16]) (by simp[results,Tryz.results12,go_sem,c0,c1,bx,bz,b1,b2,b3,b4,b5,b6,b7,b8]) rfl ⟨c7.out,λR a4 be=>?_⟩;rw[bb.out]at a4 be;obtain rfl:=be gd.out;refine⟨_,rfl,rfl,?_⟩;have co:Hid (Below w.heap.size w wr):=b9.out.trans (i.out.mono r.out.2.2);exact((((((co.out).setCell r.out.1 _).setCell r.out.1 _).setCell r.out.1 _).setCell r.out.1 _).setCell r.out.1 _).setCell r.out.1 _
theorem zw (A:Option Addr) (n a7:Nat) (l:List UInt8) (d:Bool) (a:Nat) (c2:1<=a) (c3:a<=32) (b8:d=true->a<=4) (b:Nat) (w:World) (hs:SR vU 0 w A n a7 l) (n1:1<=n) (n2:n<=60) (p1:5<=b) (p2:b<=90):
 Calls Tryz.prog 12 #[.slice A n a7,.agg #[.int .i64 (a:Int),.bool d,.int .i64 (b:Int)]] w λe w'=>(∃C,cT (bA l) C)/\∀R,(∀p,gJ (cZ l) b a d=some p->R=(some p,0))->(gJ (cZ l) b a d=none->R=(none,16))->nf w l R e w':=by
 obtain⟨f,H⟩:∃f,f=(((w.alloc (.cells #[.int .i64 (a:Int),.bool d,.int .i64 (b:Int)] 24)).alloc (.cells bk 30)).alloc (bL a d)):=⟨_,rfl⟩;have b9:Hid (Below w.heap.size w f):=by show Below _ _ _;rw[H];exact ah (ah (ax _ _) _) _
 have fb:Hid (ae f w.heap.size #[.int .i64 (a:Int),.bool d,.int .i64 (b:Int)] 24):=by
  show ae _ _ _ _;rw[H];have r:ae (w.alloc (.cells #[.int .i64 (a:Int),.bool d,.int .i64 (b:Int)] 24)) w.heap.size #[.int .i64 (a:Int),.bool d,.int .i64 (b:Int)] 24:=ae.new _ _ _ _ rfl;exact(r.below (ax _ _)).below (ax _ _)
 have fc:Hid (ae f (w.heap.size+1) bk 30):=by
  show ae _ _ _ _;rw[H];have r:ae ((w.alloc (.cells #[.int .i64 (a:Int),.bool d,.int .i64 (b:Int)] 24)).alloc (.cells bk 30)) (w.heap.size+1) bk 30:=ae.new _ _ _ _ oS;exact r.below (ax _ _)
 have fd:Hid (ae f (w.heap.size+1+1) #[.int .i64 (a:Int),.bool d] 60):=by show ae _ _ _ _;rw[H];exact ae.new _ _ _ _ oS
 have u:Hid (w.heap.size<=w.heap.size+1/\w.heap.size+1<f.heap.size/\w.heap.size<=f.heap.size):=by show _/\_;rw[H];simp;omega
 have P:Hid (∀W,af f W->(W.cell? ⟨w.heap.size,0,none⟩=some (.int .i64 (a:Int))/\W.cell? ⟨w.heap.size,1,none⟩=some (.bool d)/\W.cell? ⟨w.heap.size,2,none⟩=some (.int .i64 (b:Int)))/\W.cell? ⟨w.heap.size+1+1,0,none⟩=some (.int .i64 (a:Int))/\W.cell? ⟨w.heap.size+1+1,1,none⟩=some (.bool d)):=by
  show∀W,_;intro W U;have r:=fb.out.below U;have M:=fd.out.below U;exact⟨⟨r.cell 0 _ rfl,r.cell 1 _ rfl,r.cell 2 _ rfl⟩,M.cell 0 _ rfl,M.cell 1 _ rfl⟩
 have i:Hid (∀W,af f W->ae W (w.heap.size+1) bk 30):=λW U=>fc.out.below U;have fn:Hid (∀W,Below (((w.alloc (.cells #[.int .i64 (a:Int),.bool d,.int .i64 (b:Int)] 24)).alloc (.cells bk 30)).alloc (bL a d)).heap.size (((w.alloc (.cells #[.int .i64 (a:Int),.bool d,.int .i64 (b:Int)] 24)).alloc (.cells bk 30)).alloc (bL a d)) W->Below f.heap.size f W):=by show∀W,_->_;rw[<-H];exactλW h=>h
 have fo:=Lib.hid H;have gs:Hid (n=l.length):=hs.hn;have fr:Hid (∀W,af w W->Calls Tryz.prog 30 #[.slice A n a7] W λe w'=>(∃C,cT (bA l) C)/\RT vB false W (cZ l,0) e w'):=by
  show∀W,_->_;intro W U;refine(wj A n a7 l W (hs.below U) oO).mono ?_;rintro e w' ⟨C,G,eh⟩;refine⟨⟨C,G⟩,?_⟩;rw[p8 (by rw[<-hs.hn];omega) G];exact eh
 have fv:Hid ((∃C,cT (bA l) C)->(cZ l).length<=501/\1<=(cZ l).length/\∀L,aj (2^aB L) (aU (cZ l) (aB L))/\(aU (cZ l) (aB L)).length<=501/\1<=(aU (cZ l) (aB L)).length):=by
  show _->_;rintro⟨C,G⟩;have r:=uD (l:=l) (by rw[<-hs.hn];omega) G;rw[<-hs.hn]at r;have M:=zs (by rw[<-hs.hn];omega) (by rw[<-hs.hn];exact n1) G;refine⟨by omega,M,λL=>?_⟩;obtain⟨s,gt,el,gv⟩:=tB (l:=l) (by rw[<-hs.hn];omega) G L rfl;refine⟨s,by omega,?_⟩;rcases Nat.eq_zero_or_pos (aU (cZ l) (aB L)).length with al|al
  ·rw[al]at el;omega
  ·exact al
 have gx:¬(4096:Int)<(n:Int):=oO;have gy:((n:Int)==0)=false:=by rw[beq_eq_false_iff_ne];omega
 have gz:¬n=0:=oO;have gC:¬(b:Int)<5:=oO;have gD:¬(90:Int)<(b:Int):=oO;have gN:decide (b<5)=false:=by simp;omega
 have g0:decide (90<b)=false:=by simp;omega
 have it:n<=4096:=oO;obtain⟨q,a6⟩:∃q,q=[(a,d)]:=⟨_,rfl⟩;have c4:Hid (∀t,gJ t b a d=q.find? (j4 t b)):=by show∀t,_;intro t;unfold gJ EK;rw[a6];rw[if_neg oO]
 have fw:Hid (∀p∈q,D3 p):=by
  show∀p∈_,_;rw[a6];intro p cs;rw[List.mem_singleton]at cs;rw[cs];exact⟨c2,c3,b8⟩
 have ib:Hid (q.length<=33):=by show _<=_;rw[a6];show 1<=33;omega
 have c5:=Lib.hid a6;obtain⟨⟨x,y,B⟩,D,s⟩:=P.out f (Below.refl _ _);rw[fo.out]at x y B D s;have g1:=Lib.hid hs;clear hs a6 n1 H;have ih:((a:Int)==0)=false:=by rw[beq_eq_false_iff_ne];omega
 have ip:¬a=0:=oO;have fx:Hid (∀W,Calls Tryz.prog 29 #[cn a d] W λe w'=>e= .returned (.bool true)/\Below W.heap.size W w'):=λW=>by rw[<-exB_of c2 c3 b8];exact fO a d W
 have fz:Hid (∀W:World,LO (W.alloc (.cells #[.int .i64 (a:Int),.bool d] 60)) (some ⟨W.heap.size,0,none⟩) q):=by
  show∀W:World,_;intro W;obtain⟨g2,F,e,-,-,h⟩:=SY.lit W [(a,d)] 60 W.heap.size 1 rfl rfl oM;injection e with e1 _ _;rw[c5.out,e1];exact h
 clear b8;go_enter Tryz.func12,Tryz.ntmps12
 go_wp2_with(first
  |(go_at_call 29;refine(fx.out _).mono ?_;rintro e em ⟨rfl,J⟩;have ca:Hid (Below f.heap.size f em):=fn.out _ J;clear J x y B D s;obtain⟨⟨x,y,B⟩,D,s⟩:=P.out _ ca.out)
  |(go_at_call 30;refine(fr.out _ (aa b9.out ca.out)).mono ?_;rintro e V ⟨G,g3,rfl,c6,K⟩;obtain⟨g4,a8,g5,rfl,f0⟩:=c6.parts;have HC:=Lib.hid (fv.out G);have c7:=Lib.hid G;have f1:=Lib.hid f0;have cb:Hid (Below f.heap.size f V):=aa ca.out K;clear G c6 K x y B D s;obtain⟨⟨x,y,B⟩,D,s⟩:=P.out _ cb.out;obtain⟨⟨en,eq,er⟩,-,-⟩:=P.out _ (ah cb.out (.cells #[.int .i64 (a:Int),.bool d] 60))))
 have f2:=Lib.hid (fz.out V);have c8:Hid (Below f.heap.size f (V.alloc (.cells #[.int .i64 (a:Int),.bool d] 60))):=ah cb.out _;have a9:=Lib.hid (f1.out.below (ax V (.cells #[.int .i64 (a:Int),.bool d] 60)));have c9:Hid (q.length=1):=by show _=_;rw[c5.out];rfl
 generalize f3:V.alloc (.cells #[.int .i64 (a:Int),.bool d] 60)=es at*;clear f3 x y B D s en eq er;generalize am:(some ⟨V.heap.size,0,none⟩:Option Addr)=g6 at*;clear am;have di:Hid (∀t,(q.take 0).find? (j4 t b)=none):=λt=>rfl;obtain⟨ec,f4,ds⟩:=HC.out;have dv:=Lib.hid ds;have bb:Hid (a8=(cZ l).length):=a9.out.hn;have g7:a8<=501:=by rw[bb.out];exact ec
 clear ds f4 ec;obtain⟨t,bd⟩:∃t,Hid (cZ l=t):=⟨_,rfl⟩;rw[bd.out]at a9 bb dv;go_loopw [64] (λbo wr=>∃j:Nat,j<=1/\bo= .int .i64 j/\Hid ((q.take j).find? (j4 t b)=none)/\Hid (af es wr)) (λbo _=>1-(intOf bo).toNat)
 case atStart=>exact⟨0,Nat.zero_le _,rfl,di.out t,Below.refl _ _⟩
 case round=>
  clear di;obtain⟨j,et,rfl,dx,hB⟩:=hrel;by_cases dy:j<1
  ·have bi:j<q.length:=by rw[c9.out];exact dy
   obtain⟨X,Y,rfl,d0,d1⟩:=f2.out oO;have ce:=d1 j bi;have d2:q.getD j (0,false)∈q:=by
    simp only[List.getD,List.getElem?_eq_getElem bi,Option.getD_some];exact List.getElem_mem bi
   have f5:=fw.out _ d2;have d3:=Lib.hid (yr (j4 t b) q (0,false) j bi dx.out);have e1:wr.cell? ⟨X,Y+j* 2,none⟩=some (.int .i64 ((q.getD j (0,false)).1:Int)):=(hB.out.cell (p:=⟨X,Y+j* 2,none⟩) d0).trans ce.1;have e2:wr.cell? ⟨X,Y+j* 2+1,none⟩=some (.bool (q.getD j (0,false)).2):=(hB.out.cell (p:=⟨X,Y+j* 2+1,none⟩) d0).trans ce.2;generalize q.getD j (0,false)=p at*;obtain⟨L,c⟩:=p;obtain⟨ap,O,cv⟩:=f5;have ap:1<=L:=ap;have O:L<=32:=O;have e1:wr.cell? ⟨X,Y+j* 2,none⟩=some (.int .i64 (L:Int)):=e1;have e2:wr.cell? ⟨X,Y+j* 2+1,none⟩=some (.bool c):=e2;have f6:Hid (c=true->L<=4):=cv;clear cv ce d1 d2;have cg:=eV wr L c;have o:Hid (Below f.heap.size f wr):=aa c8.out hB.out;have d4:Hid (∀W,Calls Tryz.prog 33 #[cn L c] W λe w'=>e= .returned (.int .i64 ((aB L:Nat):Int))/\Below W.heap.size W w'):=λW=>l8 L c W O;have ed:Hid (∀W A m F,SR vB false W A m F t->Calls Tryz.prog 32 #[.slice A m F,.int .i64 ((aB L:Nat):Int)] W (RT vN 0 W (aU t (aB L),0))):=by
    show∀W A m F,_->_;intro W A m F am;have h:=x9 A m F ((aB L:Nat):Int) t W am;rw[tD (by rw[<-bb.out];omega)]at h;exact h
   obtain⟨d5,f7,ch⟩:=dv.out L;have be:Hid (∀W,Calls Tryz.prog 34 #[cn L c,.int .i64 ((aU t (aB L)).length:Int),.int .i64 (a8:Int),.int .i64 (b:Int)] W λe w'=>e= .returned (.bool (j4 t b (L,c)))/\Below W.heap.size W w'):=λW=>by
    have h:=BI L c (aU t (aB L)).length a8 b W O oO oO oO;rw[bb.out]at h⊢;exact h
   have ci:Hid (j4 t b (L,c)=true->(aU t (aB L)).length<=eH c/\(aU t (aB L)).length<bH L c):=by
    show _->_;intro h;exact yb h ap O ch
   have cp:Hid (j4 t b (L,c)=true->∀W A m F,SR vN 0 W A m F (aU t (aB L))->Calls Tryz.prog 35 #[cn L c,.slice A m F] W λe w'=>∃db N,N=aD L c* aD L c/\e= .returned (.tuple #[oV L c m (aD L c) db N,.int .i64 0])/\bu w' db (kB L c (aU t (aB L)))/\W.heap.size<=db/\Below W.heap.size W w'):=λh W A m F am=>
    vP L c _ A m F W ap O f6.out d5 ch (ci.out h).1 (ci.out h).2 am
   have f8:(aD L c)* (aD L c)<=161* 161:=by have:=(uA L c ap O).2;exact Nat.mul_le_mul this this
   have go:Hid ((kB L c (aU t (aB L))).length=aD L c* aD L c):=tM _ _ _ _;have cq:Hid (∀(R:Option (Nat×Bool)×Int) (W:World) (db N k:Nat),(∀p,gJ t b a d=some p->R=(some p,0))->j4 t b (L,c)=true->N=aD L c* aD L c->k=(aU t (aB L)).length->bu W db (kB L c (aU t (aB L)))->R=(some (L,c),0)/\EA W (oV L c k (aD L c) db N) t (some (L,c))):=by
    show∀(R:Option (Nat×Bool)×Int) (W:World) (db N k:Nat),_->_->_->_->_->_;intro R W db N k r M bq ew al;refine⟨r _ (by rw[c4.out];exact d3.out.1 M),⟨some ⟨db,0,none⟩,N,N,bq,by rw[ew],?_⟩⟩;exact al.sr (by rw[bq,go.out]) (by rw[bq];unfold maxLen;omega)
   clear d5 f7 ch;generalize aD L c=S at*;generalize kB L c (aU t (aB L))=dl at*;generalize f9:aU t (aB L)=cx at*;generalize aB L=z at*;clear f9 f8;have ga:Hid (∀(W:World) (db:Nat),af (wr.alloc (bL L c)) W->W.heap.size<=db->w.heap.size+1<db):=by
    show∀(W:World) (db:Nat),_->_->_;intro W db r M;have ex:=r.size;have g8:=o.out.size;have g9:=u.out.2.1;simp at ex;omega
   obtain⟨⟨x,y,B⟩,D,s⟩:=P.out wr o.out;cases hb:j4 t b (L,c)with
   |true=>
    rw[hb]at be;have gq:=Lib.hid (cp.out hb);have ef:=Lib.hid (λR W db N k r=>cq.out R W db N k r hb);clear cp cq hb
    go_wp2_with(first
     |(go_at_call 33;refine(d4.out _).mono ?_;rintro e bs ⟨rfl,J⟩;have a2:Hid (af (wr.alloc (bL L c)) bs):=J;have ck:=Lib.hid ((a9.out.below hB.out).below (cQ a2.out));clear J x y B D s e1 e2)
     |(go_at_call 32;refine(ed.out _ _ _ _ ck.out).mono ?_;rintro e av ⟨ey,rfl,a3,K⟩;obtain⟨ez,Z,e0,rfl,ab⟩:=a3.parts;have gb:=Lib.hid ab;have Q:Hid (af (wr.alloc (bL L c)) av):=aa a2.out K;have T:Hid (Z=cx.length):=ab.hn;have cr:Hid (Below f.heap.size f av):=aa o.out (cQ Q.out);clear a3 K ab;obtain⟨a0,a1⟩:=cg.out _ Q.out;obtain⟨⟨x,y,B⟩,D,s⟩:=P.out _ cr.out)
     |(go_at_call 34;rw[T.out];refine(be.out _).mono ?_;rw[<-T.out];rintro e bt ⟨rfl,ac⟩;have a4:Hid (af (wr.alloc (bL L c)) bt):=aa Q.out ac;have gc:=Lib.hid (gb.out.below ac);clear ac a0 a1 x y B D s;obtain⟨a0,a1⟩:=cg.out _ a4.out)
     |(go_at_call 35;refine(gq.out _ _ _ _ gc.out).mono ?_;rintro e g ⟨db,N,cy,rfl,d6,d7,d8⟩;have gd:Hid (af (wr.alloc (bL L c)) g):=aa a4.out d8;have d9:=Lib.hid d6;have ea:=Lib.hid cy;have ge:=Lib.hid (ga.out _ _ a4.out d7);clear d6 d7 d8 cy a0 a1;have E:Hid (Below f.heap.size f g):=aa o.out (cQ gd.out);have c0:(g).cell? ⟨w.heap.size+1,0,none⟩=some (.int .i64 0):=(i.out g E.out).cell 0 _ rfl;have c1:(g).cell? ⟨w.heap.size+1,1,none⟩=some (.bool false):=(i.out g E.out).cell 1 _ rfl;have bv:(g).cell? ⟨w.heap.size+1,2,none⟩=some (.int .i64 0):=(i.out g E.out).cell 2 _ rfl;have bx:(g).cell? ⟨w.heap.size+1,3,none⟩=some (.int .i64 0):=(i.out g E.out).cell 3 _ rfl;have bz:(g).cell? ⟨w.heap.size+1,4,none⟩=some (.int .i64 0):=(i.out g E.out).cell 4 _ rfl;have b1:(g).cell? ⟨w.heap.size+1,5,none⟩=some (.slice none 0 0):=(i.out g E.out).cell 5 _ rfl;have b2:(g).frozen? ⟨w.heap.size+1,0,none⟩=false:=frozen_of_row _ _ _ _ _ ((i.out g E.out));have b3:(g).frozen? ⟨w.heap.size+1,1,none⟩=false:=frozen_of_row _ _ _ _ _ ((i.out g E.out));have b4:(g).frozen? ⟨w.heap.size+1,2,none⟩=false:=frozen_of_row _ _ _ _ _ ((i.out g E.out));have b5:(g).frozen? ⟨w.heap.size+1,3,none⟩=false:=frozen_of_row _ _ _ _ _ ((i.out g E.out));have b6:(g).frozen? ⟨w.heap.size+1,4,none⟩=false:=frozen_of_row _ _ _ _ _ ((i.out g E.out));have b7:(g).frozen? ⟨w.heap.size+1,5,none⟩=false:=frozen_of_row _ _ _ _ _ ((i.out g E.out))))
    refine bodyPost_ret (v:= .tuple #[oV L c Z S db N,.int .i64 0]) (by simp[results,Tryz.results12,go_sem,c0,c1,bv,bx,bz,b1,b2,b3,b4,b5,b6,b7]) rfl ⟨c7.out,λR a5 bf=>?_⟩;have ad:db≠w.heap.size+1:=by have:=ge.out;omega
    rw[bd.out]at a5 bf;obtain rfl:=(ef.out R g db N Z a5 ea.out T.out d9.out).1;refine⟨_,rfl,?_,?_⟩
    ·rw[bd.out];refine(ef.out _ _ db N Z a5 ea.out T.out ?_).2;exact ae.cj (ae.cj (ae.cj (ae.cj (ae.cj (ae.cj d9.out _ _ ad) _ _ ad) _ _ ad) _ _ ad) _ _ ad) _ _ ad
    ·have co:Hid (Below w.heap.size w g):=b9.out.trans (E.out.mono u.out.2.2);exact((((((co.out).setCell u.out.1 _).setCell u.out.1 _).setCell u.out.1 _).setCell u.out.1 _).setCell u.out.1 _).setCell u.out.1 _
   |false=>
    rw[hb]at be;have gg:=Lib.hid (d3.out.2 hb);clear cp cq hb ci
    go_wp2_with(first
     |(go_at_call 33;refine(d4.out _).mono ?_;rintro e bs ⟨rfl,J⟩;have a2:Hid (af (wr.alloc (bL L c)) bs):=J;have ck:=Lib.hid ((a9.out.below hB.out).below (cQ a2.out));clear J x y B D s e1 e2)
     |(go_at_call 32;refine(ed.out _ _ _ _ ck.out).mono ?_;rintro e av ⟨ey,rfl,a3,K⟩;obtain⟨ez,Z,e0,rfl,ab⟩:=a3.parts;have Q:Hid (af (wr.alloc (bL L c)) av):=aa a2.out K;have T:Hid (Z=cx.length):=ab.hn;have cr:Hid (Below f.heap.size f av):=aa o.out (cQ Q.out);clear a3 K ab;obtain⟨a0,a1⟩:=cg.out _ Q.out;obtain⟨⟨x,y,B⟩,D,s⟩:=P.out _ cr.out)
     |(go_at_call 34;rw[T.out];refine(be.out _).mono ?_;rw[<-T.out];rintro e bt ⟨rfl,ac⟩;have a4:Hid (af (wr.alloc (bL L c)) bt):=aa Q.out ac;clear ac a0 a1 x y B D s))
    exact⟨⟨j+1,by omega,by go_num,gg.out,aa hB.out (cQ a4.out)⟩,by simp[intOf];omega⟩
  ·have e9:Hid (j=1):=by show _=_;omega
   have ii:decide (j<1)=false:=by simp;omega
   have gi:Hid (gJ t b a d=none):=by show _=_;rw[c4.out];have:=dx.out;rw[e9.out,<-c9.out,List.take_length]at this;exact this
   have io:¬j<1:=oO;have o:Hid (Below f.heap.size f wr):=aa c8.out hB.out;clear dy et;have c0:(wr).cell? ⟨w.heap.size+1,0,none⟩=some (.int .i64 0):=(i.out wr o.out).cell 0 _ rfl;have c1:(wr).cell? ⟨w.heap.size+1,1,none⟩=some (.bool false):=(i.out wr o.out).cell 1 _ rfl;have bv:(wr).cell? ⟨w.heap.size+1,2,none⟩=some (.int .i64 0):=(i.out wr o.out).cell 2 _ rfl;have bx:(wr).cell? ⟨w.heap.size+1,3,none⟩=some (.int .i64 0):=(i.out wr o.out).cell 3 _ rfl;have bz:(wr).cell? ⟨w.heap.size+1,4,none⟩=some (.int .i64 0):=(i.out wr o.out).cell 4 _ rfl;have b1:(wr).cell? ⟨w.heap.size+1,5,none⟩=some (.slice none 0 0):=(i.out wr o.out).cell 5 _ rfl;have b2:(wr).frozen? ⟨w.heap.size+1,0,none⟩=false:=frozen_of_row _ _ _ _ _ ((i.out wr o.out));have b3:(wr).frozen? ⟨w.heap.size+1,1,none⟩=false:=frozen_of_row _ _ _ _ _ ((i.out wr o.out));have b4:(wr).frozen? ⟨w.heap.size+1,2,none⟩=false:=frozen_of_row _ _ _ _ _ ((i.out wr o.out));have b5:(wr).frozen? ⟨w.heap.size+1,3,none⟩=false:=frozen_of_row _ _ _ _ _ ((i.out wr o.out));have b6:(wr).frozen? ⟨w.heap.size+1,4,none⟩=false:=frozen_of_row _ _ _ _ _ ((i.out wr o.out));have b7:(wr).frozen? ⟨w.heap.size+1,5,none⟩=false:=frozen_of_row _ _ _ _ _ ((i.out wr o.out));go_wp2;refine bodyPost_ret (v:= .tuple #[.agg bk,.int .i64 16]) (by simp[results,Tryz.results12,go_sem,c0,c1,bv,bx,bz,b1,b2,b3,b4,b5,b6,b7]) rfl ⟨c7.out,λR a5 bf=>?_⟩;rw[bd.out]at a5 bf;obtain rfl:=bf gi.out;refine⟨_,rfl,rfl,?_⟩;have co:Hid (Below w.heap.size w wr):=b9.out.trans (o.out.mono u.out.2.2);exact((((((co.out).setCell u.out.1 _).setCell u.out.1 _).setCell u.out.1 _).setCell u.out.1 _).setCell u.out.1 _).setCell u.out.1 _
theorem Ca (A:Option Addr) (n d:Nat) (l:List UInt8) (c:Int) (a:Bool) (b:Int) (w:World) (hs:SR vU 0 w A n d l) (hl:l.length<=60\/4096<l.length):
 Calls Tryz.prog 12 #[.slice A n d,.agg #[.int .i64 c,.bool a,.int .i64 b]] w λe w'=>(ox l.length c a b=0->∃C,cT (bA l) C)/\nf w l (sw l c a b) e w':=by
 have o:n<=9223372036854775807:=by have:=hs.hm;have:=hs.hc;unfold maxLen at*;omega
 have hn:n=l.length:=hs.hn;have r:ox l.length c a b=if 4096<l.length then 4 else if l.length=0 then 5 else if c≠0/\fM c a=false then 14 else if b<5\/90<b then 3 else 0:=rfl
 have y:∀k:Int,ox l.length c a b=k->k≠0->Calls Tryz.prog 12 #[.slice A n d,.agg #[.int .i64 c,.bool a,.int .i64 b]] w (nf w l (none,k))->Calls Tryz.prog 12 #[.slice A n d,.agg #[.int .i64 c,.bool a,.int .i64 b]] w λe w'=>(ox l.length c a b=0->∃C,cT (bA l) C)/\nf w l (sw l c a b) e w':=by
  intro k i j B;refine B.mono λe w' h=>⟨λf=>absurd (i.symm.trans f) j,?_⟩;unfold sw;rw[i,if_pos j];exact h
 by_cases s:4096<l.length
 ·exact y 4 (by rw[r,if_pos s]) oD (GL A n d l c a b w oO o)
 by_cases v:l.length=0
 ·have:n=0:=oO;subst this;exact y 5 (by rw[r,if_neg s,if_pos v]) oD (GO A d l c a b w)
 by_cases m:c≠0/\fM c a=false
 ·exact y 14 (by rw[r,if_neg s,if_neg v,if_pos m]) oD (Ez A n d l c a b w oO oO m.1 m.2 o)
 have t:c≠0->fM c a=true:=λh=>by
  cases t:fM c a with
  |true=>rfl
  |false=>exact absurd ⟨h,t⟩ m
 by_cases z:b<5\/90<b
 ·refine y 3 (by rw[r,if_neg s,if_neg v,if_neg m,if_pos z]) oD ?_;by_cases f:c=0
  ·subst f;by_cases u:b<5
   ·exact Ea A n d l a b w oO oO u o
   ·exact EW A n d l a b w oO oO u oO o
  ·by_cases u:b<5
   ·exact DV A n d l c a b w oO oO f (t f) u o
   ·exact EO A n d l c a b w oO oO f (t f) u oO o
 have x:ox l.length c a b=0:=by rw[r,if_neg s,if_neg v,if_neg m,if_neg z]
 obtain⟨q,rfl⟩:∃q:Nat,b=q:=⟨b.toNat,by omega⟩;by_cases f:c=0
 ·subst f;refine(CG A n d l a q w hs oO oO oO oO).mono ?_;rintro e w' ⟨i,j⟩;refine⟨λ_=>i,j _ (λp g=>?_) (λg=>?_)⟩
  ·unfold sw;rw[x,if_neg oD];show(match gJ (cZ l) q 0 a with|some p=>(some p,(0:Int))|none=>(none,16))=_;rw[g]
  ·unfold sw;rw[x,if_neg oD];show(match gJ (cZ l) q 0 a with|some p=>(some p,(0:Int))|none=>(none,16))=_;rw[g]
 ·obtain⟨k,rfl,D,E,F⟩:=nH (t f);refine(zw A n d l a k D E F q w hs oO oO oO oO).mono ?_;rintro e w' ⟨i,j⟩;refine⟨λ_=>i,j _ (λp g=>?_) (λg=>?_)⟩
  ·unfold sw;rw[x,if_neg oD];show(match gJ (cZ l) q k a with|some p=>(some p,(0:Int))|none=>(none,16))=_;rw[g]
  ·unfold sw;rw[x,if_neg oD];show(match gJ (cZ l) q k a with|some p=>(some p,(0:Int))|none=>(none,16))=_;rw[g]
theorem Mn (h:∃C,cT (bA [65]) C):sw [65] 0 false 33=(some (1,true),0)/\(aU (cZ [65]) (aB 1)).length=1:=by
 obtain⟨C,a⟩:=h;have b:(cZ [65]).length=5:=by
  rw[p8 oD a,uq oD a];exact Ml a
 obtain⟨e,e1,e2,e3,e4,e5,e6,e7⟩:=ra (cZ [65]) 6 oO oO oO;have c:(aU (cZ [65]) 6).length=1:=by rw[b]at e4 e5;omega
 refine⟨?_,c⟩;have d:gJ (cZ [65]) 33 0 false=some (1,true):=by
  have f:j4 (cZ [65]) 33 (1,true)=true:=by
   unfold j4;show uu 1 true (aU (cZ [65]) 6).length _ 33=true;rw[c,b]
   decide
  show((1,true)::_:List (Nat×Bool)).find? _=_;rw[List.find?_cons,f]
 show(match gJ (cZ [65]) 33 0 false with|some p=>(some p,(0:Int))|none=>(none,16))=_;rw[d]
theorem Lk:(qA 1 true).length=104/\(qk 1 true).length=28/\(qA 1 true).getD 3 (0,0)=(1,1)/\(qk 1 true).getD 0 (0,0)=(4,2)/\tc 1 true=0:=⟨by kernel_rfl,by kernel_rfl,by kernel_rfl,by kernel_rfl,by kernel_rfl⟩
theorem AT (w:World):Calls Tryz.prog 11 #[] w λe w'=>e= .returned (.bool true)/\Below w.heap.size w w':=by
 have Y:Hid (∀W,Calls Tryz.prog 13 #[.int .i64 1,.bool true] W λe w'=>e= .returned (.tuple #[.int .i64 15,.int .i64 0])/\Below W.heap.size W w'):=λW=>uF 1 true W;have Z:Hid (∀W,Calls Tryz.prog 13 #[.int .i64 5,.bool false] W λe w'=>e= .returned (.tuple #[.int .i64 37,.int .i64 0])/\Below W.heap.size W w'):=λW=>uF 5 false W;have ab:Hid (∀W,Calls Tryz.prog 13 #[.int .i64 32,.bool false] W λe w'=>e= .returned (.tuple #[.int .i64 151,.int .i64 0])/\Below W.heap.size W w'):=λW=>uF 32 false W;have ac:Hid (∀W,Calls Tryz.prog 16 #[.int .i64 1,.bool true] W λe w'=>e= .returned (.tuple #[.int .i64 6,.int .i64 17,.int .i64 0])/\Below W.heap.size W w'):=λW=>sG 1 true W;have ad:Hid (∀W,Calls Tryz.prog 16 #[.int .i64 32,.bool false] W λe w'=>e= .returned (.tuple #[.int .i64 12,.int .i64 1664,.int .i64 0])/\Below W.heap.size W w'):=λW=>sG 32 false W;have G:Hid (∀W,Calls Tryz.prog 15 #[.int .i64 1,.bool true] W λe w'=>∃g b c a i m,e= .returned (.tuple #[.slice (some ⟨g,b,none⟩) 104 c,.slice (some ⟨a,i,none⟩) 28 m,.int .i64 0])/\Below W.heap.size W w'/\Hid (g<w'.heap.size/\a<w'.heap.size/\w'.cell? ⟨g,b+6,none⟩=some (.int .i64 1)/\w'.cell? ⟨g,b+7,none⟩=some (.int .i64 1)/\w'.cell? ⟨a,i,none⟩=some (.int .i64 4)/\w'.cell? ⟨a,i+1,none⟩=some (.int .i64 2))):=by
  show∀W,_;intro W;refine(IF 1 true W).mono ?_;rintro e w' ⟨v,u,rfl,⟨A,c,rfl,-,-,s⟩,⟨a6,m,rfl,-,-,H⟩,hb⟩;obtain⟨p1,p2,J,K,L⟩:=Lk;obtain⟨g,b,rfl,hg,hc⟩:=s (by rw[p1];omega);obtain⟨a,i,rfl,al,am⟩:=H (by rw[p2];omega);have o:=hc 3 (by rw[p1];omega);have q:=am 0 (by rw[p2];omega);rw[J]at o;rw[K]at q;refine⟨g,b,c,a,i,m,by rw[p1,p2,L],hb,hg,al,o.1,o.2,?_,?_⟩
  ·have:=q.1;rw[Nat.zero_mul,Nat.add_zero]at this;exact this
  ·have:=q.2;rw[Nat.zero_mul,Nat.add_zero]at this;exact this
 have ap:Hid (∀W:World,Calls Tryz.prog 12 #[.slice (some ⟨W.heap.size,0,none⟩) 1 1,.agg #[.int .i64 0,.bool false,.int .i64 33]] (W.alloc (.cells #[.int .u8 65] 5 (1,2))) λe w'=>∃A N k,e= .returned (.tuple #[.agg #[.int .i64 1,.bool true,.int .i64 1,.int .i64 15,.int .i64 15,.slice A N k],.int .i64 0])/\Below W.heap.size W w'):=by
  show∀W:World,_;intro W;have hs:SR vU 0 (W.alloc (.cells #[.int .u8 65] 5 (1,2))) (some ⟨W.heap.size,0,none⟩) 1 1 [65]:=SR.ME (f:=vU) (d:=0) W [65] 5 (1,2) 1 rfl oM;refine(Ca (some ⟨W.heap.size,0,none⟩) 1 1 [65] 0 false 33 _ hs (.inl oD)).mono ?_;rintro e w' ⟨s,v,rfl,t,hb⟩;obtain⟨M,O⟩:=Mn (s oD);rw[M]at t⊢;obtain⟨A,N,k,-,rfl,-⟩:=t;rw[O];exact⟨A,N,k,rfl,cQ hb⟩
 have a7:=λ(w:World) (C:Array Value) (n c:Nat)=>Lib.run_convert_bytes_const (P:=Tryz.prog) w 22 5 C n c Tryz.underlying22 Tryz.underlying5;go_enter Tryz.func11,Tryz.ntmps11
 go_wp2_with(first
  |(go_at_call 13;(with_reducible show Calls _ _ #[.int .i64 1,_] _ _);refine(Y.out _).mono ?_;rintro e Q ⟨rfl,x⟩;have av:Hid (Below w.heap.size w Q):=x;clear x)
  |(go_at_call 13;(with_reducible show Calls _ _ #[.int .i64 5,_] _ _);refine(Z.out _).mono ?_;rintro e S ⟨rfl,y⟩;have a0:Hid (Below w.heap.size w S):=aa av.out y;clear y)
  |(go_at_call 13;(with_reducible show Calls _ _ #[.int .i64 32,_] _ _);refine(ab.out _).mono ?_;rintro e T ⟨rfl,z⟩;have a1:Hid (Below w.heap.size w T):=aa a0.out z;clear z)
  |(go_at_call 16;(with_reducible show Calls _ _ #[.int .i64 1,_] _ _);refine(ac.out _).mono ?_;rintro e U ⟨rfl,B⟩;have a2:Hid (Below w.heap.size w U):=aa a1.out B;clear B)
  |(go_at_call 16;(with_reducible show Calls _ _ #[.int .i64 32,_] _ _);refine(ad.out _).mono ?_;rintro e V ⟨rfl,D⟩;have a3:Hid (Below w.heap.size w V):=aa a2.out D;clear D)
  |(go_at_call 15;refine(G.out _).mono ?_;rintro e r ⟨g,b,c,a,i,m,rfl,E,j⟩;have a4:Hid (Below w.heap.size w r):=aa a3.out E;clear E)
  |(go_at_call 12;refine(ap.out r).mono ?_;rintro e X ⟨A,N,k,rfl,F⟩;have a5:=Lib.hid F;have l:Hid (Below r.heap.size r (X.alloc (.cells #[.int .i64 1,.bool true,.int .i64 1,.int .i64 15,.int .i64 15,.slice A N k] 30))):=ah a5.out _;have o:=(l.out.cell (p:=⟨g,b+6,none⟩) j.out.1).trans j.out.2.2.1;have q:=(l.out.cell (p:=⟨g,b+7,none⟩) j.out.1).trans j.out.2.2.2.1;have a8:=(l.out.cell (p:=⟨a,i,none⟩) j.out.2.1).trans j.out.2.2.2.2.1;have a9:=(l.out.cell (p:=⟨a,i+1,none⟩) j.out.2.1).trans j.out.2.2.2.2.2;clear F))
 go_ret;exact⟨rfl,aa a4.out l.out⟩
theorem Kl (v u:Value) (a b:List Pt) (w:World) (Y:SP w v a) (hb:SP w u b):
 Calls Tryz.prog 20 #[v,u] w λe w'=>e= .returned (.bool (decide (a=b)))/\Below w.heap.size w w':=by
 obtain⟨A,c,rfl,N,ap,G⟩:=Y;obtain⟨B,k,rfl,O,av,hB⟩:=hb;obtain⟨n,hn⟩:∃n,n=a.length:=⟨_,rfl⟩;obtain⟨m,r⟩:∃m,m=b.length:=⟨_,rfl⟩;rw[<-hn]at N⊢;rw[<-r]at O⊢;have o:=Lib.hid hn;have p:=Lib.hid r;have Z:=Lib.hid G;have ab:=Lib.hid hB;have a5:n<=9223372036854775807:=by unfold maxLen at*;omega
 clear G hB N ap O av hn r;by_cases P:n=m
 ·subst P;go_enter Tryz.func20,Tryz.ntmps20;go_wp2;go_loopw [5] (λs wr=>∃j:Nat,j<=n/\s= .int .i64 j/\Hid (af w wr)/\Hid (∀i,i<j->a.getD i (0,0)=b.getD i (0,0))) (λs _=>n-(intOf s).toNat)
  case atStart=>exact⟨0,Nat.zero_le _,rfl,Below.refl _ _,λi ac=>by omega⟩
  case round=>
   obtain⟨j,a3,rfl,f,H⟩:=hrel;by_cases Q:j<n
   ·obtain⟨J,K,rfl,V,S⟩:=Z.out (by rw[<-o.out];omega);obtain⟨L,M,rfl,X,T⟩:=ab.out (by rw[<-p.out];omega);have t:=S j (by rw[<-o.out];exact Q);have z:=T j (by rw[<-p.out];exact Q);have d:Hid (∀W,af wr W->(W.cell? ⟨J,K+j* 2,none⟩=some (.int .i64 ((a.getD j (0,0)).1:Int))/\W.cell? ⟨J,K+j* 2+1,none⟩=some (.int .i64 ((a.getD j (0,0)).2:Int)))/\(W.cell? ⟨L,M+j* 2,none⟩=some (.int .i64 ((b.getD j (0,0)).1:Int))/\W.cell? ⟨L,M+j* 2+1,none⟩=some (.int .i64 ((b.getD j (0,0)).2:Int)))):=by
     show∀W,_;intro W a0;have q:=aa f.out a0;exact⟨⟨(q.cell V).trans t.1,(q.cell V).trans t.2⟩,⟨(q.cell X).trans z.1,(q.cell X).trans z.2⟩⟩
    clear S T t z;have C:Hid (a.getD j (0,0)≠b.getD j (0,0)->decide (a=b)=false):=by
     show _->_;intro h;rw[decide_eq_false_iff_not];intro e;rw[e]at h;exact h rfl
    have D:Hid (a.getD j (0,0)=b.getD j (0,0)->∀i,i<j+1->a.getD i (0,0)=b.getD i (0,0)):=by
     show _->_;intro h i ac;rcases Nat.lt_or_ge i j with g|g
     ·exact H.out i g
     ·obtain rfl:i=j:=oO;exact h
    generalize a.getD j (0,0)=x at*;generalize b.getD j (0,0)=y at*;have F:Hid (af wr wr.drew):=ai (Below.refl _ _);go_wp2;refine yO (af wr) [1,2,3,4,5,6,7,8,9] F.out ?_;refine zO d.out ?_;refine zO d.out ?_;refine zO d.out ?_;refine zO d.out ?_;refine zO d.out ?_;refine zO d.out ?_;refine zO d.out ?_;refine zO d.out ?_;by_cases l:x=y
    ·refine' lW (v:= .bool false) rfl (λW f=>?_) ?_
     ·have U:=d.out W f;simp only[l]at U;go_simp
     simp only[yQ,yU,yX,yY];refine ag ?_;have a1:=Lib.hid (D.out l);clear l C D;go_wp2;exact⟨⟨j+1,by omega,by go_num,aa f.out F.out,a1.out⟩,by simp[intOf];omega⟩
    ·refine' lW (v:= .bool true) rfl (λW f=>?_) ?_
     ·have U:=d.out W f;go_simp;have ad:¬((x.1:Int)=(y.1:Int)/\(x.2:Int)=(y.2:Int)):=λh=>l (Prod.ext oO oO);exactλg E=>ad ⟨g,E⟩
     simp only[yQ,yU,yX,yY];refine ag ?_;have a2:=Lib.hid (C.out l);clear l C D;go_wp2;go_ret;exact⟨by rw[a2.out];rfl,aa f.out F.out⟩
   ·obtain rfl:j=n:=oO;have al:Hid (decide (a=b)=true):=by
     show _=_;rw[decide_eq_true_eq];apply List.ext_getElem (by rw[<-o.out,<-p.out]);intro i g E;have:=H.out i (by rw[o.out];exact g);simpa[List.getD,g,E]using this
    go_wp2;go_ret;exact⟨by rw[al.out];rfl,f.out⟩
 ·have am:Hid (decide (a=b)=false):=by
   show _=_;rw[decide_eq_false_iff_not];intro e;apply P;rw[o.out,p.out,e]
  have a4:((n:Int)==m)=false:=by rw[beq_eq_false_iff_ne];omega
  go_enter Tryz.func20,Tryz.ntmps20;go_wp2;go_ret;exact⟨by rw[am.out];rfl,Below.refl _ _⟩
theorem Aj (A:Option Addr) (n c:Nat) (a:List Bool) (B:Option Addr) (m k:Nat) (b:List Bool) (w:World) (d:SR vB false w A n c a) (hb:SR vB false w B m k b):
 Calls Tryz.prog 27 #[.slice A n c,.slice B m k] w λe w'=>e= .returned (.bool (decide (a=b)))/\Below w.heap.size w w':=by
 have f:Hid (n=a.length):=d.hn;have l:Hid (m=b.length):=hb.hn;have Y:n<=9223372036854775807:=by have:=d.hm;have:=d.hc;unfold maxLen at*;omega
 have F:=Lib.hid d.rd;have G:=Lib.hid hb.rd;clear d hb;by_cases z:n=m
 ·subst z;go_enter Tryz.func27,Tryz.ntmps27;go_wp2;go_loopw [5] (λr wr=>∃j:Nat,j<=n/\r= .int .i64 j/\Hid (af w wr)/\Hid (∀i,i<j->a.getD i false=b.getD i false)) (λr _=>n-(intOf r).toNat)
  case atStart=>exact⟨0,Nat.zero_le _,rfl,Below.refl _ _,λi H=>by omega⟩
  case round=>
   obtain⟨j,V,rfl,o,t⟩:=hrel;by_cases C:j<n
   ·obtain⟨J,rfl,T,D⟩:=F.out (by rw[<-f.out];omega);obtain⟨K,rfl,U,E⟩:=G.out (by rw[<-l.out];omega);have u:Hid (∀W,af wr W->W.cell? (J.add j)=some (.bool (a.getD j false))/\W.cell? (K.add j)=some (.bool (b.getD j false))):=by
     show∀W,_;intro W Q;have v:=aa o.out Q;exact⟨(v.cell (by rw[aI];exact T)).trans (D j (by rw[<-f.out];exact C)),(v.cell (by rw[aI];exact U)).trans (E j (by rw[<-l.out];exact C))⟩
    clear D E;have L:Hid (a.getD j false≠b.getD j false->decide (a=b)=false):=by
     show _->_;intro h;rw[decide_eq_false_iff_not];intro e;rw[e]at h;exact h rfl
    have M:Hid (a.getD j false=b.getD j false->∀i,i<j+1->a.getD i false=b.getD i false):=by
     show _->_;intro h i H;rcases Nat.lt_or_ge i j with g|g
     ·exact t.out i g
     ·obtain rfl:i=j:=oO;exact h
    generalize a.getD j false=x at*;generalize b.getD j false=y at*;have p:Hid (af wr wr.drew):=ai (Below.refl _ _);cases q:(x==y)with
    |true=>
     have s:Hid (x=y):=beq_iff_eq.1 q;have S:(x !=y)=false:=by rw[bne,q];rfl
     go_wp2;refine yO (af wr) [1,2,3,4,5,6,7,8,9] p.out ?_
     repeat refine zO u.out ?_
     refine ag ?_;go_wp2;exact⟨⟨j+1,by omega,by go_num,aa o.out p.out,M.out s.out⟩,by simp[intOf];omega⟩
    |false=>
     have s:Hid (x≠y):=beq_eq_false_iff_ne.1 q;have S:(x !=y)=true:=by rw[bne,q];rfl
     go_wp2;refine yO (af wr) [1,2,3,4,5,6,7,8,9] p.out ?_
     repeat refine zO u.out ?_
     refine ag ?_;go_wp2;go_ret;exact⟨by rw[L.out s.out];rfl,aa o.out p.out⟩
   ·obtain rfl:j=n:=oO;have N:Hid (decide (a=b)=true):=by
     show _=_;rw[decide_eq_true_eq];apply List.ext_getElem (by rw[<-f.out,<-l.out]);intro i g O;have:=t.out i (by rw[f.out];exact g);simpa[List.getD,g,O]using this
    go_wp2;go_ret;exact⟨by rw[N.out];rfl,o.out⟩
 ·have P:Hid (decide (a=b)=false):=by
   show _=_;rw[decide_eq_false_iff_not];intro e;apply z;rw[f.out,l.out,e]
  have X:((n:Int)==m)=false:=by rw[beq_eq_false_iff_ne];omega
  go_enter Tryz.func27,Tryz.ntmps27;go_wp2;go_ret;exact⟨by rw[P.out];rfl,Below.refl _ _⟩
noncomputable def cF (c:Bool) (b:List Bool):Int×Int×Int:=if b.length≠(dY c+fe c+du c* 4)then(0,0,7)else match zb c b with
 |none=>(0,0,17)
 |some q=>((q.1:Int),(q.2:Int),0)
theorem jz.nice {s p par first:Nat} {l:List Nat} {w w':World} {e:Ending} (h:jz s p par first l w e w'):Below w.heap.size w w'/\
 ((∃v A n c b a d,Hid (fE s p par first l (some v))/\e= .returned (.tuple #[.agg #[.slice A n c,.slice b a d],.int .i64 0])/\Hid (SR vN 0 w' A n c v)/\Hid (a=(bP l v).length))\/(Hid (fE s p par first l none)/\e= .returned (.tuple #[.agg #[aH,aH],.int .i64 17]))):=by
 refine⟨h.1,?_⟩;rcases h.2 with⟨v,V,j,f,rfl,g,i⟩|⟨f,rfl⟩
 ·obtain⟨A,n,c,rfl,-,hs,-⟩:=aq.CP g;obtain⟨b,a,d,rfl,hn,-,-⟩:=aq.CP i;exact .inl ⟨v,A,n,c,b,a,d,f,rfl,hs,hn⟩
 ·exact .inr ⟨f,rfl⟩
theorem yI (c:Bool) (b:List Bool) (A:Option Addr) (n t:Nat) (w:World) (hb:SR vB false w A n t b):Calls Tryz.prog 25 #[.slice A n t,.bool c] w (Lt w (cF c b).1 (cF c b).2.1 (cF c b).2.2):=by
 have C:Hid (n=b.length):=hb.hn;have dx:n<=9223372036854775807:=by have:=hb.hm;have:=hb.hc;unfold maxLen at*;omega
 have M:Hid (∀W,Calls Tryz.prog 58 #[.bool c] W λe w'=>e= .returned (.tuple #[.int .i64 ((dY c:Nat):Int),.int .i64 ((fe c:Nat):Int),.int .i64 ((du c:Nat):Int)])/\w'=W):=λW=>rp c W;have a7:1<=dY c/\dY c<=11/\1<=fe c/\fe c<=11/\du c<=6:=by cases c<;>decide
 by_cases s:n=dY c+fe c+du c* 4
 ·obtain⟨m,D⟩:∃m,m=gA c+du c:=⟨_,rfl⟩;have F:n=m* 4:=by rw[s,D];cases c<;>rfl
  have N:b.length/4=m:=by rw[<-C.out,F];omega
  have dy:m<=15/\du c<m/\dY c+fe c<=m* 4:=by rw[D];cases c<;>decide
  have G:=eO b 4 m;have ac:=mJ b 4 m;have H:cF c b=match(xI 16 19 (du c) 1 (aL b 4 m)).map (λv=>(numF (bc v 4) 0 (dY c)+1,numF (bc v 4) (dY c) (fe c)+1))with|none=>(0,0,17)|some q=>((q.1:Int),(q.2:Int),0):=by
   unfold cF;rw[if_neg (by rw[<-C.out];exactλh=>h s)];unfold zb;rw[N]
  have J:=wv c;have a8:Hid (∀W,af w W->Calls Tryz.prog 60 #[.slice A n t,.int .i64 4,.bool false] W (RT vN 0 W (aL b 4 m,0))):=λW ad=>vT A n t 4 m b W oO oO F oO (hb.below ad);have a9:Hid (∀W,Calls Tryz.prog 61 #[.int .i64 4,.int .i64 ((du c:Nat):Int)] W λe w'=>e= .returned (.tuple #[cf 2 16 19 (du c) 1,.int .i64 0])/\Below W.heap.size W w'):=λW=>rQ (du c) W J;have bb:Hid (∀W A f d,SR vN 0 W A f d (aL b 4 m)->RD W A (zl (aL b 4 m))->Calls Tryz.prog 66 #[cf 2 16 19 (du c) 1,.slice A f d,.slice none 0 0] W (jz 16 19 (du c) 1 (aL b 4 m) W)):=by
   show∀W A f d,_->_->_;intro W A f d hs al;have l:=hs.hn;have am:=l;rw[G]at am;exact CE 2 16 19 (du c) 1 _ f A d W J l ac oO oO al
  have cb:Hid (∀v,fE 16 19 (du c) 1 (aL b 4 m) (some v)->aj 16 v/\v.length=m):=by
   show∀v,_->_;intro v p;have L:=p.2 v rfl;exact⟨L.lt,by rw[L.ln,G]⟩
  have ce:Hid (∀v,fE 16 19 (du c) 1 (aL b 4 m) (some v)->cF c b=(((numF (bc v 4) 0 (dY c)+1:Nat):Int),((numF (bc v 4) (dY c) (fe c)+1:Nat):Int),0)):=by
   show∀v,_->_;intro v p;rw[H,nL p];rfl
  have bd:Hid (fE 16 19 (du c) 1 (aL b 4 m) none->cF c b=(0,0,17)):=by
   show _->_;intro p;rw[H,nL p];rfl
  have be:Hid (∀W A f d v,aj 16 v->v.length=m->SR vN 0 W A f d v->Calls Tryz.prog 63 #[.slice A f d,.int .i64 4] W (RT vB false W (bc v 4,0))):=by
   show∀W A f d v,_->_->_->_;intro W A f d v bf x hs;have l:=hs.hn;exact nh A f d 4 v W oO oO oO bf hs
  have bi:Hid (∀W A g d (v:List Nat),v.length=m->SR vB false W A g d (bc v 4)->Calls Tryz.prog 67 #[.slice A g d,.int .i64 0,.int .i64 ((dY c:Nat):Int)] W (λe w'=>e= .returned (.tuple #[.int .i64 ((numF (bc v 4) 0 (dY c):Nat):Int),.int .i64 0])/\w'=W)):=by
   show∀W A g d v,_->_->_;intro W A g d v x hs;have l:=hs.hn;rw[dc,x]at l;exact yf A g d 0 (dY c) _ W oO oO oO oO hs
  have cg:Hid (∀W A g d (v:List Nat),v.length=m->SR vB false W A g d (bc v 4)->Calls Tryz.prog 67 #[.slice A g d,.int .i64 ((dY c:Nat):Int),.int .i64 ((fe c:Nat):Int)] W (λe w'=>e= .returned (.tuple #[.int .i64 ((numF (bc v 4) (dY c) (fe c):Nat):Int),.int .i64 0])/\w'=W)):=by
   show∀W A g d v,_->_->_;intro W A g d v x hs;have l:=hs.hn;rw[dc,x]at l;exact yf A g d (dY c) (fe c) _ W oO oO oO oO hs
  have O:Hid (∀(v:List Nat) (a k:Nat),k<=11->numF (bc v 4) a k<2048):=by
   show∀(v:List Nat) (a k:Nat),_->_;intro v a k ap;exact Nat.lt_of_lt_of_le (mo _ _ _) (Nat.pow_le_pow_right (n:=2) oO ap)
  have ch:((dY c:Nat):Int)+((fe c:Nat):Int)+((du c:Nat):Int)* 4=(n:Int):=oO;have ci:∀z:Int,z=(n:Int)->((n:Int)==z)=true:=λz h=>by rw[h];simp
  clear H N D F G ac J hb;generalize cF c b=av at*;generalize dY c=lb at*;generalize fe c=db at*;generalize du c=mp at*;generalize aL b 4 m=ck at*;obtain⟨i,K⟩:∃i,i=lb+db:=⟨_,rfl⟩;obtain⟨j,o⟩:∃j,j=mp* 4:=⟨_,rfl⟩;have bo:(lb:Int)+(db:Int)=(i:Int):=oO;have bq:(mp:Int)* 4=(j:Int):=oO;have bs:(i:Int)+(j:Int)=(n:Int):=oO;have hq:=a7;clear K o ch ci s;go_enter Tryz.func25,Tryz.ntmps25
  go_wp2_with(first
   |(go_at_call 58;refine(M.out _).mono ?_;rintro e a0 ⟨rfl,r⟩;rw[r];clear r)
   |(go_at_call 60;refine(a8.out _ (Below.refl _ _)).mono ?_;rintro e a1 ⟨co,rfl,o,P⟩;obtain⟨cp,n2,cq,rfl,-,bt,Q⟩:=o.rd;have bv:=Lib.hid bt;have bx:=Lib.hid Q;have bz:Hid (Below w.heap.size w a1):=P;clear o P Q)
   |(go_at_call 61;refine(a9.out _).mono ?_;rintro e a2 ⟨rfl,y⟩;have b1:Hid (Below w.heap.size w a2):=aa bz.out y;have b2:=Lib.hid (bv.out.below y);have b3:=Lib.hid (bx.out.below y);clear y)
   |(go_at_call 66;refine(bb.out _ _ _ _ (b2.out.below (ax _ _)) (b3.out.below (ax _ _))).mono ?_;rintro e a3 S;obtain⟨T,a4⟩:=jz.nice S;clear S;have U:Hid (Below w.heap.size w a3):=aa (ah b1.out _) T;clear T;rcases a4 with⟨v,cr,cs,cv,cx,cy,cc,u,rfl,b4,c9⟩|⟨u,rfl⟩)
    |(go_at_call 63;have B:=Lib.hid (cb.out v u.out);have a5:=Lib.hid (ce.out v u.out);refine(be.out _ _ _ _ v B.out.1 B.out.2 (b4.out.below (ax _ _))).mono ?_;rintro e E ⟨v6,rfl,V,X⟩;obtain⟨c2,c3,c4,rfl,b5⟩:=V.parts;have Y:=Lib.hid b5;have b6:Hid (Below w.heap.size w E):=aa (ah U.out _) X;clear V X;have di:=O.out v 0 lb oO;have dl:=O.out v lb db oO;have b7:=Lib.hid (bi.out E _ _ _ v B.out.2 Y.out);have b8:=Lib.hid (cg.out E _ _ _ v B.out.2 Y.out);generalize numF (bc v 4) 0 lb=c5 at*;generalize numF (bc v 4) lb db=c6 at*)
    |(go_at_call 67;(with_reducible show Calls _ _ #[_,.int .i64 0,_] _ _);refine b7.out.mono ?_;rintro e c7 ⟨rfl,Z⟩;rw[Z];clear Z)
    |(go_at_call 67;refine b8.out.mono ?_;rintro e c8 ⟨rfl,ab⟩;rw[ab];clear ab))
  ·go_ret3
   rw[a5.out];exact⟨rfl,b6.out⟩
  ·have b9:=Lib.hid (bd.out u.out);go_ret3
   rw[b9.out];exact⟨rfl,ah U.out _⟩
 ·have a6:Hid (cF c b=(0,0,7)):=by show _=_;unfold cF;rw[if_pos (by rw[<-C.out];exact s)]
  generalize cF c b=av at*;generalize dY c=lb at*;generalize fe c=db at*;generalize du c=mp at*;obtain⟨i,K⟩:∃i,i=lb+db:=⟨_,rfl⟩;obtain⟨j,o⟩:∃j,j=mp* 4:=⟨_,rfl⟩;obtain⟨s3,ca⟩:∃s3,s3=i+j:=⟨_,rfl⟩;have bo:(lb:Int)+(db:Int)=(i:Int):=oO;have bq:(mp:Int)* 4=(j:Int):=oO;have bs:(i:Int)+(j:Int)=(s3:Int):=oO;have ds:i<=22/\j<=24:=oO;have dv:((n:Int)==(s3:Int))=false:=by rw[beq_eq_false_iff_ne];omega
  clear K o ca s hb;go_enter Tryz.func25,Tryz.ntmps25;go_wp2_with(go_at_call 58;refine(M.out _).mono ?_;rintro e a0 ⟨rfl,r⟩;rw[r];clear r)
  go_ret3
  rw[a6.out];exact⟨rfl,Below.refl _ _⟩
theorem SR.front {α:Type} {f:α->Value} {d:α} {w:World} {A:Option Addr} {n c k:Nat} {l:List α} (h:SR f d w A n c l) (i:k<=n):SR f d w A k c (l.take k):=by
 have hn:=h.hn;have m:=h.hc;refine⟨by rw[List.length_take];omega,by omega,h.hm,λa=>?_⟩;rw[List.length_take]at a;obtain⟨b,e,hl,hc⟩:=h.rd oO;refine⟨b,e,hl,λj g=>?_⟩;rw[List.length_take]at g;rw[hc j oO];simp[List.getD,List.getElem?_take,show j<k by omega]
theorem bu.own {w:World} {db n base:Nat} {l:List Bool} (h:bu w db l) (hn:n=l.length) (a:n<=maxLen) (hb:base<=db):w.ownsRow base 4 1 (.slice (some ⟨db,0,none⟩) n n) n (l.map vB):=
 ⟨by simp[hn],.inr ⟨db,n,(l.map vB).toArray,rfl,hb,h,Nat.le_refl _,a,by simp[hn],by show List.take (n* 1) (l.map vB)=_;exact List.take_of_length_le (by simp[hn])⟩⟩
theorem C5 {a d i e:World} {b g B:List Bool} {f n m:Nat} {v:Value} (l:bu d f b) (hn:b.length=n) (o:g.length=m) (p:a.heap.size<=f) (r:Below a.heap.size a d) (s:Below d.heap.size d i) (hl:n<=maxLen) (t:b++g=B)
 (j:e.ownsRow a.heap.size 4 1 v (n+m) ((b++g).map vB)) (hg:i.grownBy e (Value.slice (some ⟨f,0,none⟩) n n).ownBlock):Below a.heap.size a e/\∃A k c,v= .slice A k c/\SR vB false e A k c B:=by
 subst t hn o;have q:=l.own rfl hl p;have u:OG vB 4 a d (.slice (some ⟨f,0,none⟩) b.length b.length) b:=⟨r,q⟩;exact⟨(u.grow s j hg).B,(SG.bK j).parts⟩
theorem Gl (L k:Nat) (c:Bool) (w:World) (c9:1<=L) (di:L<=32) (dl:1<=k) (ds:k<=eH c):Calls Tryz.prog 65 #[.int .i64 L,.int .i64 k,.bool c] w (λe w'=>∃v,e= .returned v/\SG vB false w' v (ig L c k)/\Below w.heap.size w w'):=by
 obtain⟨bb,bd,bi,bo,bq⟩:=info_parts gU;obtain⟨B,hB⟩:∃B,B=bh (L-1) (dY c)++bh (k-1) (fe c):=⟨_,rfl⟩;have bs:B.length=gA c* 4:=by rw[hB];exact yo _ _ _
 have c6:gA c<=4:=by cases c<;>decide
 have c7:1<=gA c:=by cases c<;>decide
 have ab:=eO B 4 (gA c);have a9:=mJ B 4 (gA c);have b8:ig L c k=bc (fa 16 19 (du c) 1 (aL B 4 (gA c))) 4:=by rw[BD,hB]
 have bt:=wv c;have c8:gA c+du c<=15:=by cases c<;>decide
 have N:=sV (Gk Ih) (par:=du c) (first:=1) a9;change nD 16 19 (du c) 1 _ (fa 16 19 (du c) 1 (aL B 4 (gA c)))at N;have bv:=N.ln;have b9:=N.lt;rw[ab]at bv;have dy:k<=2048:=by
  have:eH c<=2048:=by cases c<;>decide
  omega
 have d0:dY c<=11/\fe c<=11:=by cases c<;>decide
 have O:dY c=if c=true then 2 else 5:=rfl
 have P:fe c=if c=true then 6 else 11:=rfl
 have Q:du c=if c=true then 5 else 6:=rfl
 obtain⟨b,bx⟩:∃b,b=L-1:=⟨_,rfl⟩;obtain⟨g,bz⟩:∃g,g=k-1:=⟨_,rfl⟩;have d1:(L:Int)-1=(b:Int):=oO;have d2:(k:Int)-1=(g:Int):=oO;rw[<-bx,<-bz]at hB;have ca:=bM b (dY c);have cb:=bM g (fe c);have b1:Hid (∀W,Calls Tryz.prog 69 #[.int .i64 4,.int .i64 ((du c:Nat):Int)] W λe w'=>e= .returned (cf 2 16 19 (du c) 1)/\Below W.heap.size W w'):=λW=>qC (du c) W;have b2:Hid (∀W,Calls Tryz.prog 118 #[.int .i64 b,.int .i64 ((dY c:Nat):Int)] W λe w'=>∃db,e= .returned (.slice (some ⟨db,0,none⟩) (dY c) (dY c))/\db=W.heap.size/\bu w' db (bh b (dY c))/\Below W.heap.size W w'):=λW=>nU b (dY c) W oO oO;have b3:Hid (∀W,Calls Tryz.prog 118 #[.int .i64 g,.int .i64 ((fe c:Nat):Int)] W λe w'=>∃db,e= .returned (.slice (some ⟨db,0,none⟩) (fe c) (fe c))/\db=W.heap.size/\bu w' db (bh g (fe c))/\Below W.heap.size W w'):=λW=>nU g (fe c) W oO oO;have b4:Hid (∀W A m a,SR vB false W A m a B->Calls Tryz.prog 70 #[.slice A m a,.int .i64 4] W (λe w'=>∃v,e= .returned v/\SG vN 0 w' v (aL B 4 (gA c))/\Below W.heap.size W w')):=by
  show∀W A m a,_->_;intro W A m a hs;have p:=hs.hn;rw[bs]at p;exact pa A m a 4 (gA c) B W oO oO p oO hs
 have b5:Hid (∀W A m a,SR vN 0 W A m a (aL B 4 (gA c))->RD W A (zl (aL B 4 (gA c)))->Calls Tryz.prog 105 #[cf 2 16 19 (du c) 1,.slice A m a] W (jK W (zl (fa 16 19 (du c) 1 (aL B 4 (gA c))),0))):=by
  show∀W A m a,_->_->_;intro W A m a hs ce;have p:=hs.hn;have cg:=p;rw[ab]at cg;exact Cs 2 16 19 (du c) 1 _ m A a W bt p a9 oO oO ce
 have b6:Hid (∀W A m a,SR vN 0 W A m a (fa 16 19 (du c) 1 (aL B 4 (gA c)))->Calls Tryz.prog 71 #[.slice A m a,.int .i64 4] W (λe w'=>∃v,e= .returned v/\SG vB false w' v (ig L c k)/\Below W.heap.size W w')):=by
  show∀W A m a,_->_;intro W A m a hs;have p:=hs.hn;rw[b8];exact qW A m a 4 _ W oO oO oO b9 hs
 have i:Hid ((bh b (dY c)).length=dY c/\(bh g (fe c)).length=fe c):=⟨ca,cb⟩;have b7:Hid (bh b (dY c)++bh g (fe c)=B):=hB.symm;clear hB bs ab a9 b8 bt c8 N bv b9 bx bz c6 c7 ca cb;generalize dY c=lb at*;generalize fe c=db at*;generalize du c=mp at*;generalize aL B 4 (gA c)=ch at*;generalize fa 16 19 mp 1 ch=dv at*;generalize ig L c k=dx at*;generalize bh b lb=be at*;generalize bh g db=bf at*;cases c with
 |true=>
  simp only[if_true]at O P Q;subst O P Q;go_enter Tryz.func65,Tryz.ntmps65
  go_wp2_with(first
   |(go_at_call 118;(with_reducible show Calls _ _ #[.int .i64 (b:Int),_] _ _);refine(b2.out _).mono ?_;rintro e S ⟨T,rfl,q,r,s⟩;have t:=Lib.hid q;have u:=Lib.hid r;have x:Hid (Below w.heap.size w S):=s;clear q r s)
   |(go_at_call 118;refine(b3.out _).mono ?_;rintro e ci ⟨U,rfl,ac,y,z⟩;have ad:=Lib.hid y;have j:=Lib.hid z;clear ac y z)
   |(at_builtin;refine bg (f:=vB) (d:=false) AF rfl _ _ _ rfl w.heap.size 4 bb _ 1 Tryz.underlying26 bd bi bo bq rfl (.slice (some ⟨T,0,none⟩) 2 2) 2 be rfl (ao (u.out.own (n:=2) i.out.1.symm oD (Nat.le_of_eq t.out.symm)) j.out) (some ⟨U,0,none⟩) 6 6 bf rfl i.out.2.symm (ad.out.sr i.out.2.symm oD).rd oD oD (aa x.out j.out).size ?_;intro v6 ck M hg;have l:=C5 u.out i.out.1 i.out.2 (Nat.le_of_eq t.out.symm) x.out j.out oD b7.out M hg;have al:=Lib.hid l.1;obtain⟨co,cp,cq,rfl,C⟩:=l.2;have am:=Lib.hid C;clear M hg l C)
   |(go_at_call 69;refine(b1.out _).mono ?_;rintro e V ⟨rfl,o⟩;have ap:Hid (Below w.heap.size w V):=aa al.out o;have av:=Lib.hid (am.out.below o);clear o)
   |(go_at_call 70;refine(b4.out _ _ _ _ av.out).mono ?_;rintro e X ⟨cr,rfl,D,E⟩;obtain⟨cs,cv,cx,rfl,-,a0,F⟩:=D.rd;have a1:=Lib.hid a0;have a2:=Lib.hid F;have a3:Hid (Below w.heap.size w X):=aa ap.out E;clear D E F)
   |(go_at_call 105;refine(b5.out _ _ _ _ a1.out a2.out).mono ?_;rintro e Y ⟨cy,rfl,G,H⟩;obtain⟨c2,c3,c4,rfl,-,a4,-⟩:=aq.CP G;have a5:=Lib.hid a4;have a6:Hid (Below w.heap.size w Y):=aa a3.out H;clear G H)
   |(go_at_call 71;refine(b6.out _ _ _ _ a5.out).mono ?_;rintro e Z ⟨c5,rfl,J,K⟩;have a7:=Lib.hid J;have a8:Hid (Below w.heap.size w Z):=aa a6.out K;clear J K))
  go_ret;exact⟨_,rfl,a7.out,a8.out⟩
 |false=>
  simp only[Bool.false_eq_true,if_false]at O P Q;subst O P Q;go_enter Tryz.func65,Tryz.ntmps65
  go_wp2_with(first
   |(go_at_call 118;(with_reducible show Calls _ _ #[.int .i64 (b:Int),_] _ _);refine(b2.out _).mono ?_;rintro e S ⟨T,rfl,q,r,s⟩;have t:=Lib.hid q;have u:=Lib.hid r;have x:Hid (Below w.heap.size w S):=s;clear q r s)
   |(go_at_call 118;refine(b3.out _).mono ?_;rintro e ci ⟨U,rfl,ac,y,z⟩;have ad:=Lib.hid y;have j:=Lib.hid z;clear ac y z)
   |(at_builtin;refine bg (f:=vB) (d:=false) AF rfl _ _ _ rfl w.heap.size 4 bb _ 1 Tryz.underlying26 bd bi bo bq rfl (.slice (some ⟨T,0,none⟩) 5 5) 5 be rfl (ao (u.out.own (n:=5) i.out.1.symm oD (Nat.le_of_eq t.out.symm)) j.out) (some ⟨U,0,none⟩) 11 11 bf rfl i.out.2.symm (ad.out.sr i.out.2.symm oD).rd oD oD (aa x.out j.out).size ?_;intro v6 ck M hg;have l:=C5 u.out i.out.1 i.out.2 (Nat.le_of_eq t.out.symm) x.out j.out oD b7.out M hg;have al:=Lib.hid l.1;obtain⟨co,cp,cq,rfl,C⟩:=l.2;have am:=Lib.hid C;clear M hg l C)
   |(go_at_call 69;refine(b1.out _).mono ?_;rintro e V ⟨rfl,o⟩;have ap:Hid (Below w.heap.size w V):=aa al.out o;have av:=Lib.hid (am.out.below o);clear o)
   |(go_at_call 70;refine(b4.out _ _ _ _ av.out).mono ?_;rintro e X ⟨cr,rfl,D,E⟩;obtain⟨cs,cv,cx,rfl,-,a0,F⟩:=D.rd;have a1:=Lib.hid a0;have a2:=Lib.hid F;have a3:Hid (Below w.heap.size w X):=aa ap.out E;clear D E F)
   |(go_at_call 105;refine(b5.out _ _ _ _ a1.out a2.out).mono ?_;rintro e Y ⟨cy,rfl,G,H⟩;obtain⟨c2,c3,c4,rfl,-,a4,-⟩:=aq.CP G;have a5:=Lib.hid a4;have a6:Hid (Below w.heap.size w Y):=aa a3.out H;clear G H)
   |(go_at_call 71;refine(b6.out _ _ _ _ a5.out).mono ?_;rintro e Z ⟨c5,rfl,J,K⟩;have a7:=Lib.hid J;have a8:Hid (Below w.heap.size w Z):=aa a6.out K;clear J K))
  go_ret;exact⟨_,rfl,a7.out,a8.out⟩
theorem GD (L k:Int) (c:Bool) (w:World):Calls Tryz.prog 24 #[.int .i64 L,.int .i64 k,.bool c] w (RT vB false w (iP L k c)):=by
 have m:Hid (∀W,Calls Tryz.prog 64 #[.bool c] W λe w'=>e= .returned (.int .i64 ((eH c:Nat):Int))/\w'=W):=λW=>G8 c W;have f:Hid (∀W,Calls Tryz.prog 47 #[.int .i64 L,.bool c] W λe w'=>e= .returned (.bool (fM L c))/\w'=W):=λW=>Hq L c W;cases b:fM L c with
 |false=>
  have d:Hid (iP L k c=([],14)):=by show _=_;unfold iP;rw[if_pos b]
  rw[b]at f;clear b;go_enter Tryz.func24,Tryz.ntmps24;go_wp2_with(go_at_call 47;refine(f.out _).mono ?_;rintro e j ⟨rfl,a⟩;rw[a];clear a)
  go_ret2
  exact RT.mk d.out (SG.dR _) (Below.refl _ _)
 |true=>
  rw[b]at f;obtain⟨L,rfl,p,r,A⟩:=nH b;by_cases g:k<1\/((eH c:Nat):Int)<k
  ·have d:Hid (iP L k c=([],3)):=by show _=_;unfold iP;rw[if_neg (by rw[b];decide),if_pos g]
   generalize eH c=l at*;by_cases t:k<1
   ·clear b g;go_enter Tryz.func24,Tryz.ntmps24;go_wp2_with(go_at_call 47;refine(f.out _).mono ?_;rintro e j ⟨rfl,a⟩;rw[a];clear a)
    go_ret2
    exact RT.mk d.out (SG.dR _) (Below.refl _ _)
   ·have u:(l:Int)<k:=oO;clear b g;go_enter Tryz.func24,Tryz.ntmps24
    go_wp2_with(first
     |(go_at_call 47;refine(f.out _).mono ?_;rintro e j ⟨rfl,a⟩;rw[a];clear a)
     |(go_at_call 64;refine(m.out _).mono ?_;rintro e s ⟨rfl,i⟩;rw[i];clear i))
    go_ret2
    exact RT.mk d.out (SG.dR _) (Below.refl _ _)
  ·obtain⟨q,rfl⟩:∃q:Nat,k=q:=⟨k.toNat,by omega⟩;have d:Hid (iP L q c=(ig L c q,0)):=by show _=_;unfold iP;rw[if_neg (by rw[b];decide),if_neg g];rfl
   have x:Hid (∀W,Calls Tryz.prog 65 #[.int .i64 L,.int .i64 q,.bool c] W (λe w'=>∃v,e= .returned v/\SG vB false w' v (ig L c q)/\Below W.heap.size W w')):=λW=>Gl L q c W p r oO oO;generalize ig L c q=B at*;generalize eH c=l at*;have t:¬(q:Int)<1:=oO;have u:¬(l:Int)<(q:Int):=oO;clear b g;go_enter Tryz.func24,Tryz.ntmps24
   go_wp2_with(first
    |(go_at_call 47;refine(f.out _).mono ?_;rintro e j ⟨rfl,a⟩;rw[a];clear a)
    |(go_at_call 64;refine(m.out _).mono ?_;rintro e s ⟨rfl,i⟩;rw[i];clear i)
    |(go_at_call 65;refine(x.out _).mono ?_;rintro e C ⟨D,rfl,n,o⟩;have y:=Lib.hid n;have z:=Lib.hid o;clear n o))
   go_ret2
   exact RT.mk d.out y.out z.out
theorem EB (c:Bool) (b:List Bool) (A:Option Addr) (n C:Nat) (w:World) (hb:SR vB false w A n C b):Calls Tryz.prog 26 #[.slice A n C,.bool c] w (Lt w (cF c b).1 (cF c b).2.1 (cF c b).2.2):=by
 have D:Hid (n=b.length):=hb.hn;have bz:=Lib.hid hb;have cx:n<=9223372036854775807:=by have:=hb.hm;have:=hb.hc;unfold maxLen at*;omega
 cases c with
 |true=>
  by_cases p:n=28
  ·subst p;clear hb;have G:aL b 4 (b.length/4)=aL b 4 7:=by rw[<-D.out]
   have y:=eO b 4 7;have X:=mJ b 4 7;have z:cF true b=match(xI 16 19 5 1 (aL b 4 7)).map (λv=>(numF (bc v 4) 0 2+1,numF (bc v 4) 2 6+1))with|none=>(0,0,17)|some q=>((q.1:Int),(q.2:Int),0):=by
    unfold cF;rw[if_neg (by rw[<-D.out];decide)];unfold zb;rw[G];rfl
   have H:dF 2 16 19 5 1:=wv true;have a1:Hid (∀W,Calls Tryz.prog 69 #[.int .i64 4,.int .i64 5] W λe w'=>e= .returned (cf 2 16 19 5 1)/\Below W.heap.size W w'):=λW=>qC 5 W;have a2:Hid (∀W,af w W->Calls Tryz.prog 70 #[.slice A 28 C,.int .i64 4] W (λe w'=>∃v,e= .returned v/\SG vN 0 w' v (aL b 4 7)/\Below W.heap.size W w')):=λW Y=>pa A 28 C 4 7 b W oO oO oO oO (bz.out.below Y);have a3:Hid (∀W A i d,SR vN 0 W A i d (aL b 4 7)->RD W A (zl (aL b 4 7))->Calls Tryz.prog 68 #[cf 2 16 19 5 1,.slice A i d,.slice none 0 0] W (jz 16 19 5 1 (aL b 4 7) W)):=by
    show∀W A i d,_->_->_;intro W A i d hs Z;have j:=hs.hn;have s:=j;rw[y]at s;exact ti 2 16 19 5 1 _ i A d W H j X oO oO Z
   have bv:Hid (∀v,fE 16 19 5 1 (aL b 4 7) (some v)->aj 16 v/\v.length=7):=by
    show∀v,_->_;intro v m;have E:=m.2 v rfl;exact⟨E.lt,by rw[E.ln,y]⟩
   have bx:Hid (∀v,fE 16 19 5 1 (aL b 4 7) (some v)->cF true b=(((numF (bc v 4) 0 2+1:Nat):Int),((numF (bc v 4) 2 6+1:Nat):Int),0)):=by
    show∀v,_->_;intro v m;rw[z,nL m];rfl
   have a4:Hid (fE 16 19 5 1 (aL b 4 7) none->cF true b=(0,0,17)):=by
    show _->_;intro m;rw[z,nL m];rfl
   have a5:Hid (∀W A i d v,aj 16 v->v.length=7->SR vN 0 W A i d v->Calls Tryz.prog 71 #[.slice A i d,.int .i64 4] W (λe w'=>∃F,e= .returned F/\SG vB false w' F (bc v 4)/\Below W.heap.size W w')):=by
    show∀W A i d v,_->_->_->_;intro W A i d v a6 l hs;have j:=hs.hn;exact qW A i d 4 v W oO oO oO a6 hs
   have a7:Hid (∀W f g d (v:List Nat),v.length=7->SR vB false W (some f) g d (bc v 4)->28<=d/\∀k,Calls Tryz.prog 72 #[.slice (some f) 2 d] (W.drewN k) (λe w'=>e= .returned (.int .i64 ((numF (bc v 4) 0 2:Nat):Int))/\w'=W.drewN k)):=by
    show∀W f g d v,_->_->_;intro W f g d v l hs;have j:=hs.hn;have s:=hs.hc;rw[dc,l]at j;refine⟨by omega,λk=>?_⟩;rw[<-jk,List.drop_zero];exact kq (some f) 2 d _ (W.drewN k) oO ((hs.below (bX (Below.refl _ _) _)).front (k:=2) oO)
   have a8:Hid (∀W f g d (v:List Nat),v.length=7->SR vB false W (some f) g d (bc v 4)->∀k,Calls Tryz.prog 72 #[.slice (some (f.add 2)) (8-2) (d-2)] (W.drewN k) (λe w'=>e= .returned (.int .i64 ((numF (bc v 4) 2 6:Nat):Int))/\w'=W.drewN k)):=by
    show∀W f g d v,_->_->_;intro W f g d v l hs k;have j:=hs.hn;have s:=hs.hc;rw[dc,l]at j;rw[<-jk];exact kq (some (f.add 2)) 6 (d-2) _ (W.drewN k) oO ((hs.below (bX (Below.refl _ _) _)).piece 2 6 (d-2) oO oO oO)
   have J:Hid (∀(v:List Nat) (a k:Nat),k<=11->numF (bc v 4) a k<2048):=by
    show∀(v:List Nat) (a k:Nat),_->_;intro v a k ab;exact Nat.lt_of_lt_of_le (mo _ _ _) (Nat.pow_le_pow_right (n:=2) oO ab)
   have a9:Hid (∀W A g d (v:List Nat),v.length=7->SR vB false W A g d (bc v 4)->∃f,A=some f/\g=28):=by
    show∀W A g d v,_->_->_;intro W A g d v l hs;have j:=hs.hn;rw[dc,l]at j;obtain⟨f,h,-,-⟩:=hs.rd (by rw[dc,l];decide);exact⟨f,h,j⟩
   clear z y X H G;generalize cF true b=ac at*;generalize aL b 4 7=b1 at*;go_enter Tryz.func26,Tryz.ntmps26
   go_wp2_with(first
    |(go_at_call 69;refine(a1.out _).mono ?_;rintro e ad ⟨rfl,K⟩;have L:Hid (Below w.heap.size w ad):=K;clear K)
    |(go_at_call 70;refine(a2.out _ L.out).mono ?_;rintro e al ⟨b2,rfl,M,N⟩;obtain⟨b3,n2,b4,rfl,-,bb,O⟩:=M.rd;have bd:=Lib.hid bb;have be:=Lib.hid O;have bf:Hid (Below w.heap.size w al):=aa L.out N;clear M N O)
    |(go_at_call 68;refine(a3.out _ _ _ _ bd.out be.out).mono ?_;rintro e am P;obtain⟨Q,ap⟩:=jz.nice P;clear P;have S:Hid (Below w.heap.size w am):=aa bf.out Q;clear Q;rcases ap with⟨v,b5,b6,b7,b8,b9,cc,r,rfl,bi,ci⟩|⟨r,rfl⟩)
     |(go_at_call 71;have o:=Lib.hid (bv.out v r.out);have av:=Lib.hid (bx.out v r.out);refine(a5.out _ _ _ _ v o.out.1 o.out.2 (bi.out.below (ax _ _))).mono ?_;rintro e t ⟨v6,rfl,T,U⟩;obtain⟨ca,cb,ce,rfl,bo⟩:=T.parts;have B:=Lib.hid bo;have bq:Hid (Below w.heap.size w t):=aa (ah S.out _) U;clear T U;have ck:=J.out v 0 2 oO;have co:=J.out v 2 6 oO;obtain⟨f,rfl,rfl⟩:=a9.out _ _ _ _ v o.out.2 B.out;have V:=Lib.hid (a7.out t _ _ _ v o.out.2 B.out);have bs:=Lib.hid (a8.out t _ _ _ v o.out.2 B.out);generalize numF (bc v 4) 0 2=u at*;generalize numF (bc v 4) 2 6=x at*))
   ·have cp:=V.out.1;have cq:IntKind.i64.wrap ((u:Int)+1)=((u+1:Nat):Int):=by rw[aE _ oO oO];omega
    have cr:IntKind.i64.wrap ((x:Int)+1)=((x+1:Nat):Int):=by rw[aE _ oO oO];omega
    generalize u+1=cg at*;generalize x+1=ch at*
    go_quiet (first
    |(go_at_call 72;(with_reducible show Calls _ _ #[.slice (some f) _ _] _ _);refine Calls.quiet_of_same (V.out.2 _))
    |(go_at_call 72;refine Calls.quiet_of_same (bs.out _)))
    go_wp2;go_ret3
    rw[av.out];exact⟨rfl,bX bq.out _⟩
   ·have bt:=Lib.hid (a4.out r.out);go_ret3
    rw[bt.out];exact⟨rfl,ah S.out _⟩
  ·have p:¬n=dY true+fe true+du true* 4:=p;have a0:Hid (cF true b=(0,0,7)):=by show _=_;unfold cF;rw[if_pos (by rw[<-D.out];exact p)]
   generalize cF true b=ac at*;have cs:((n:Int)!=28)=true:=by simp;exactλh=>p (by show n=28;omega)
   clear hb;go_enter Tryz.func26,Tryz.ntmps26;go_wp2;go_ret3
   rw[a0.out];exact⟨rfl,Below.refl _ _⟩
 |false=>
  by_cases p:n=40
  ·subst p;clear hb;have G:aL b 4 (b.length/4)=aL b 4 10:=by rw[<-D.out]
   have y:=eO b 4 10;have X:=mJ b 4 10;have z:cF false b=match(xI 16 19 6 1 (aL b 4 10)).map (λv=>(numF (bc v 4) 0 5+1,numF (bc v 4) 5 11+1))with|none=>(0,0,17)|some q=>((q.1:Int),(q.2:Int),0):=by
    unfold cF;rw[if_neg (by rw[<-D.out];decide)];unfold zb;rw[G];rfl
   have H:dF 2 16 19 6 1:=wv false;have a1:Hid (∀W,Calls Tryz.prog 69 #[.int .i64 4,.int .i64 6] W λe w'=>e= .returned (cf 2 16 19 6 1)/\Below W.heap.size W w'):=λW=>qC 6 W;have a2:Hid (∀W,af w W->Calls Tryz.prog 70 #[.slice A 40 C,.int .i64 4] W (λe w'=>∃v,e= .returned v/\SG vN 0 w' v (aL b 4 10)/\Below W.heap.size W w')):=λW Y=>pa A 40 C 4 10 b W oO oO oO oO (bz.out.below Y);have a3:Hid (∀W A i d,SR vN 0 W A i d (aL b 4 10)->RD W A (zl (aL b 4 10))->Calls Tryz.prog 68 #[cf 2 16 19 6 1,.slice A i d,.slice none 0 0] W (jz 16 19 6 1 (aL b 4 10) W)):=by
    show∀W A i d,_->_->_;intro W A i d hs Z;have j:=hs.hn;have s:=j;rw[y]at s;exact ti 2 16 19 6 1 _ i A d W H j X oO oO Z
   have bv:Hid (∀v,fE 16 19 6 1 (aL b 4 10) (some v)->aj 16 v/\v.length=10):=by
    show∀v,_->_;intro v m;have E:=m.2 v rfl;exact⟨E.lt,by rw[E.ln,y]⟩
   have bx:Hid (∀v,fE 16 19 6 1 (aL b 4 10) (some v)->cF false b=(((numF (bc v 4) 0 5+1:Nat):Int),((numF (bc v 4) 5 11+1:Nat):Int),0)):=by
    show∀v,_->_;intro v m;rw[z,nL m];rfl
   have a4:Hid (fE 16 19 6 1 (aL b 4 10) none->cF false b=(0,0,17)):=by
    show _->_;intro m;rw[z,nL m];rfl
   have a5:Hid (∀W A i d v,aj 16 v->v.length=10->SR vN 0 W A i d v->Calls Tryz.prog 71 #[.slice A i d,.int .i64 4] W (λe w'=>∃F,e= .returned F/\SG vB false w' F (bc v 4)/\Below W.heap.size W w')):=by
    show∀W A i d v,_->_->_->_;intro W A i d v a6 l hs;have j:=hs.hn;exact qW A i d 4 v W oO oO oO a6 hs
   have a7:Hid (∀W f g d (v:List Nat),v.length=10->SR vB false W (some f) g d (bc v 4)->40<=d/\∀k,Calls Tryz.prog 72 #[.slice (some f) 5 d] (W.drewN k) (λe w'=>e= .returned (.int .i64 ((numF (bc v 4) 0 5:Nat):Int))/\w'=W.drewN k)):=by
    show∀W f g d v,_->_->_;intro W f g d v l hs;have j:=hs.hn;have s:=hs.hc;rw[dc,l]at j;refine⟨by omega,λk=>?_⟩;rw[<-jk,List.drop_zero];exact kq (some f) 5 d _ (W.drewN k) oO ((hs.below (bX (Below.refl _ _) _)).front (k:=5) oO)
   have a8:Hid (∀W f g d (v:List Nat),v.length=10->SR vB false W (some f) g d (bc v 4)->∀k,Calls Tryz.prog 72 #[.slice (some (f.add 5)) (16-5) (d-5)] (W.drewN k) (λe w'=>e= .returned (.int .i64 ((numF (bc v 4) 5 11:Nat):Int))/\w'=W.drewN k)):=by
    show∀W f g d v,_->_->_;intro W f g d v l hs k;have j:=hs.hn;have s:=hs.hc;rw[dc,l]at j;rw[<-jk];exact kq (some (f.add 5)) 11 (d-5) _ (W.drewN k) oO ((hs.below (bX (Below.refl _ _) _)).piece 5 11 (d-5) oO oO oO)
   have J:Hid (∀(v:List Nat) (a k:Nat),k<=11->numF (bc v 4) a k<2048):=by
    show∀(v:List Nat) (a k:Nat),_->_;intro v a k ab;exact Nat.lt_of_lt_of_le (mo _ _ _) (Nat.pow_le_pow_right (n:=2) oO ab)
   have a9:Hid (∀W A g d (v:List Nat),v.length=10->SR vB false W A g d (bc v 4)->∃f,A=some f/\g=40):=by
    show∀W A g d v,_->_->_;intro W A g d v l hs;have j:=hs.hn;rw[dc,l]at j;obtain⟨f,h,-,-⟩:=hs.rd (by rw[dc,l];decide);exact⟨f,h,j⟩
   clear z y X H G;generalize cF false b=ac at*;generalize aL b 4 10=b1 at*;go_enter Tryz.func26,Tryz.ntmps26
   go_wp2_with(first
    |(go_at_call 69;refine(a1.out _).mono ?_;rintro e ad ⟨rfl,K⟩;have L:Hid (Below w.heap.size w ad):=K;clear K)
    |(go_at_call 70;refine(a2.out _ L.out).mono ?_;rintro e al ⟨b2,rfl,M,N⟩;obtain⟨b3,n2,b4,rfl,-,bb,O⟩:=M.rd;have bd:=Lib.hid bb;have be:=Lib.hid O;have bf:Hid (Below w.heap.size w al):=aa L.out N;clear M N O)
    |(go_at_call 68;refine(a3.out _ _ _ _ bd.out be.out).mono ?_;rintro e am P;obtain⟨Q,ap⟩:=jz.nice P;clear P;have S:Hid (Below w.heap.size w am):=aa bf.out Q;clear Q;rcases ap with⟨v,b5,b6,b7,b8,b9,cc,r,rfl,bi,ci⟩|⟨r,rfl⟩)
     |(go_at_call 71;have o:=Lib.hid (bv.out v r.out);have av:=Lib.hid (bx.out v r.out);refine(a5.out _ _ _ _ v o.out.1 o.out.2 (bi.out.below (ax _ _))).mono ?_;rintro e t ⟨v6,rfl,T,U⟩;obtain⟨ca,cb,ce,rfl,bo⟩:=T.parts;have B:=Lib.hid bo;have bq:Hid (Below w.heap.size w t):=aa (ah S.out _) U;clear T U;have ck:=J.out v 0 5 oO;have co:=J.out v 5 11 oO;obtain⟨f,rfl,rfl⟩:=a9.out _ _ _ _ v o.out.2 B.out;have V:=Lib.hid (a7.out t _ _ _ v o.out.2 B.out);have bs:=Lib.hid (a8.out t _ _ _ v o.out.2 B.out);generalize numF (bc v 4) 0 5=u at*;generalize numF (bc v 4) 5 11=x at*))
   ·have cp:=V.out.1;have cq:IntKind.i64.wrap ((u:Int)+1)=((u+1:Nat):Int):=by rw[aE _ oO oO];omega
    have cr:IntKind.i64.wrap ((x:Int)+1)=((x+1:Nat):Int):=by rw[aE _ oO oO];omega
    generalize u+1=cg at*;generalize x+1=ch at*
    go_quiet (first
    |(go_at_call 72;(with_reducible show Calls _ _ #[.slice (some f) _ _] _ _);refine Calls.quiet_of_same (V.out.2 _))
    |(go_at_call 72;refine Calls.quiet_of_same (bs.out _)))
    go_wp2;go_ret3
    rw[av.out];exact⟨rfl,bX bq.out _⟩
   ·have bt:=Lib.hid (a4.out r.out);go_ret3
    rw[bt.out];exact⟨rfl,ah S.out _⟩
  ·have p:¬n=dY false+fe false+du false* 4:=p;have a0:Hid (cF false b=(0,0,7)):=by show _=_;unfold cF;rw[if_pos (by rw[<-D.out];exact p)]
   generalize cF false b=ac at*;have cs:((n:Int)!=40)=true:=by simp;exactλh=>p (by show n=40;omega)
   clear hb;rcases Bool.eq_false_or_eq_true ((n:Int)!=28)with cv|cv
   all_goals go_enter Tryz.func26,Tryz.ntmps26
   all_goals go_wp2
   all_goals go_ret3
   all_goals rw[a0.out]
   all_goals exact⟨rfl,Below.refl _ _⟩
end
end Go.Proofs.YtmnlkganmgcpbaaGreatDoor
