import Derived.Test.YtmnlkganmgcpbaaGreatDoorQi19
set_option maxRecDepth 100000
set_option maxHeartbeats 4000000
set_option linter.unusedVariables false
set_option linter.unusedSectionVars false
set_option linter.unusedSimpArgs false
set_option linter.defProp false
open Go.Value renaming int->I,int->zz,slice->HM
open Go.IntKind renaming i64->J
open Bool renaming false->R,true->wP
open Option renaming none->U,some->gk
open Go renaming World->wR,Calls->wS,execOp->Bq,madeCells->C2,Operand->HK,run_make_row'->S0
open Go.Proofs.Tryz renaming prog->w1,underlying64->z1,underlying26->HE
open Go.RowKit renaming Hid->w2
open Go.RowKit.Below renaming refl->w3
open Nat renaming le_refl->w5,zero_le->x1,lt_of_lt_of_le->x6
open _root_ renaming if_neg->w6,if_pos->xl,Option->xv
open List renaming getD->x4,range->y3,length_take->Ai,take_zero->A0,map_append->A1,take_succ_cons->A3,drop_succ_cons->A4,map_congr_left->A9,drop_zero->CQ,map_cons->HA,map_toArray->H3,map_nil->H8,length_replicate->S2,take_length->S3,take_add_one->Vj,eraseIdx_append_of_length_le->Wa,map_take->Wm,eraseIdx_of_length_le->WK
open Go.Result renaming andThen_ok->y2
open Go.Sem renaming run_bind->Aq,run_pure->AT
open Go.Proofs.Tryz
namespace Go.Proofs.YtmnlkganmgcpbaaGreatDoor
section
open Go.RowKit
section
open Fl
variable {c s p : Nat} (h : VF c s p)
include h
theorem K9 {a b:Nat} (e:a<s) (hb:b<s):ak s [a,b]:=λd=>by
 match d with
 |0=>exact e
 |1=>exact hb
 |d+2=>have:=h.aO;simp[x4];omega
end
theorem qy {j:Array Oper} {S:wR->Prop} {K:Act->wR->Prop} {l:List (Bool×Nat×Oper)} {k:Nat} {g:Oper} {a:Act} {W:wR} {base:Nat} {A B:xv Addr} {n c m o:Nat} {i ys:List Int} (t:W.ownsRow base 3 1 (.slice A n c) n (i.map (zz .i64))) (hb:base<=W.heap.size)
 (D:Region.wanted g (yielded j a.tmps)=wP) (s y:HK) (u:g.op= .call {callee:= .builtin .append,args:=#[s,y],argTypes:=#[64,64]}) (hs:a.eval s= .slice A n c) (v:a.eval y= .slice B m o) (w:m=ys.length) (O:1<=m) (p:RD W B ys) (hl:n+m<=100000000)
 (x:∀b d f,f.ownsRow base 3 1 (.slice b (n+m) d) (n+m) ((i++ys).map (zz .i64))->W.grownBy f (HM A n c).ownBlock->((HM b (n+m) d).ownBlock=(HM A n c).ownBlock\/(HM b (n+m) d).ownBlock=gk W.heap.size)->S f/\bI w1 j S K l (a.put g.dst (.slice b (n+m) d)) f):
 bI w1 j S K ((wP,k,g)::l) a W:=by
 obtain⟨z,C,E,F,G⟩:=info_parts cT
 obtain⟨M,f,L,r,hg,H⟩:=rC (P:=w1) W base 64 g.type 3 z _ z1 C E F G rfl _ n i t B m o ys w p (λhB=>by
  obtain⟨N,e,-⟩:=p oO
  rw[hB]at e;cases e) oO hb
 obtain⟨b,d,rfl⟩:=cA r;have q:=x b d f r hg H;refine fl D ?_ q.1 q.2;unfold Bq;simp only[u,resolve,invoke,builtin,Aq,AT,y2,H3,HA,H8,hs,v,L]
theorem Bz (b S a x:Nat) (c:List Nat) (n:Nat) (z:n=c.length) (A:xv Addr) (C:Nat) (w:wR) (l:VF b S a) (o:x<S) (hl:ak S c) (hn:n<=4097) (p:RD w A (zl c)):
 wS w1 172 #[aU b S a,.slice A n C,I J x] w (au (I J ((cP S a x c:Nat):Int)) w):=by
 have g:=aa l;have q:=aa hl;have D:=aa o;have r:=aa (p.alloc (eX b S a));have E:w2 (an (w.alloc (eX b S a)) w.heap.size (lO b S a)):=an.new _ _ _ _ rfl;have f:w2 (c.length=n):=z.symm;clear z l hl o p;go_enter func172,ntmps172;go_wp2;go_loopw [7,8] (λv j wr=>∃(k:Nat) (d:Int),k<=n/\j=I J d/\w2 (d=(k:Int)-1)/\v=I J ((cP S a x (c.drop k):Nat):Int)/\w2 (Below (w.alloc (eX b S a)).heap.size (w.alloc (eX b S a)) wr)) (λ_ j _=>(intOf j+1).toNat)
 case atStart=>exact⟨n,_,w5 _,rfl,rfl,by rw[<-f.out,List.drop_length];rfl,w3 _ _⟩
 case round=>
  obtain⟨k,d,Q,rfl,s,rfl,hb⟩:=hrel;by_cases L:k=0
  ·subst L;have V:d<0:=by have:=s.out;omega
   go_wp2;go_ret;exact⟨rfl,dT hb.out⟩
  ·obtain⟨m,rfl⟩:∃m,k=m+1:=⟨k-1,by omega⟩;obtain rfl:d=(m:Int):=by have:=s.out;omega
   obtain⟨F,rfl,-,M⟩:=r.out (by rw[ao,f.out];omega);have t:w2 (∀W,Below (w.alloc (eX b S a)).heap.size (w.alloc (eX b S a)) W->(W.cell? ⟨w.heap.size,0,U⟩=gk (I J b)/\W.cell? ⟨w.heap.size,1,U⟩=gk (I J S)/\W.cell? ⟨w.heap.size,2,U⟩=gk (I J a))/\W.cell? (F.add m)=gk (I J ((c.getD m 0:Nat):Int))):=by
    show∀W,_;intro W i;refine⟨fs (E.out.below i),?_⟩;obtain⟨X,e,_,hc⟩:=r.out.below i (by rw[ao,f.out];omega);injection e with e;subst e;rw[hc m (by rw[ao,f.out];omega),bT]
   have N:=aa (zP S a x c m (by rw[f.out];omega));have O:w2 (cP S a x (c.drop (m+1))<S):=jl g.out x _ (λy G=>fh q.out y (List.mem_of_mem_drop G));have P:w2 (c.getD m 0<S):=q.out m;generalize H:cP S a x (c.drop (m+1))=u at*;have Y:m<n:=oO;clear H M;go_wp2;refine bV (S:=af (w.alloc (eX b S a))) 10 oK oK (ai hb.out) ?_;simp only[A3,A0,A4,CQ]
   repeat refine kO t.out ?_
   refine kX (λW i=>kN b S a u x W g.out O.out D.out) ?_
   repeat refine kO t.out ?_
   refine kX (λW i=>Dh b S a (aA S a u x) (c.getD m 0) W g.out (bk g.out _ _) P.out) ?_;refine cX ?_;intro T B;have K:=aa B;clear B;go_wp2;exact⟨⟨m,_,by omega,rfl,rfl,by rw[N.out],K⟩,by simp[intOf]⟩
theorem Kf (c S a x:Nat) (b:List Nat) (n:Nat) (r:n=b.length) (A:xv Addr) (t:Nat) (w:wR) (j:VF c S a) (l:x<S) (hl:ak S b) (hn:n<=4097) (m:RD w A (zl b)):
 wS w1 209 #[aU c S a,.slice A n t,I J x] w (au (I J ((lj S a x b n:Nat):Int)) w):=by
 have d:=aa j;have o:=aa hl;have y:=aa l;have p:=aa (m.alloc (eX c S a));have z:w2 (an (w.alloc (eX c S a)) w.heap.size (lO c S a)):=an.new _ _ _ _ rfl;have i:w2 (b.length=n):=r.symm;clear r j hl l m;go_enter func209,ntmps209;go_wp2;go_loopw [7,8] (λv g wr=>∃k:Nat,k<=n/\g=I J k/\v=I J ((lj S a x b k:Nat):Int)/\w2 (Below (w.alloc (eX c S a)).heap.size (w.alloc (eX c S a)) wr)) (λ_ g _=>n-(intOf g).toNat)
 case atStart=>exact⟨0,x1 _,rfl,rfl,w3 _ _⟩
 case round=>
  obtain⟨k,H,rfl,rfl,hb⟩:=hrel;by_cases L:k<n
  ·obtain⟨B,rfl,-,D⟩:=p.out (by rw[ao,i.out];omega);have q:w2 (∀W,Below (w.alloc (eX c S a)).heap.size (w.alloc (eX c S a)) W->(W.cell? ⟨w.heap.size,0,U⟩=gk (I J c)/\W.cell? ⟨w.heap.size,1,U⟩=gk (I J S)/\W.cell? ⟨w.heap.size,2,U⟩=gk (I J a))/\W.cell? (B.add k)=gk (I J ((b.getD k 0:Nat):Int))):=by
    show∀W,_;intro W f;refine⟨fs (z.out.below f),?_⟩;obtain⟨M,e,_,hc⟩:=p.out.below f (by rw[ao,i.out];omega);injection e with e;subst e;rw[hc k (by rw[ao,i.out];omega),bT]
   have E:w2 (lj S a x b (k+1)=bU S a (aA S a (lj S a x b k) x) (b.getD k 0)):=rfl;have F:w2 (lj S a x b k<S):=uG d.out o.out k;have G:w2 (b.getD k 0<S):=o.out k;generalize lj S a x b k=u at*;clear D;go_wp2;refine bV (S:=af (w.alloc (eX c S a))) 10 oK oK (ai hb.out) ?_;simp only[A3,A0,A4,CQ]
   repeat refine kO q.out ?_
   refine kX (λW f=>kN c S a u x W d.out F.out y.out) ?_
   repeat refine kO q.out ?_
   refine kX (λW f=>Dh c S a (aA S a u x) (b.getD k 0) W d.out (bk d.out _ _) G.out) ?_;refine cX ?_;intro K s;have C:=aa s;clear s;go_wp2;exact⟨⟨k+1,by omega,by go_num,by rw[E.out],C⟩,by simp[intOf];omega⟩
  ·obtain rfl:k=n:=oO;go_wp2;go_ret;exact⟨rfl,dT hb.out⟩
theorem AJ (a:List Nat) (n k:Nat) (hn:n=a.length) (A:xv Addr) (c:Nat) (w:wR) (b:RD w A (zl a)):
 wS w1 211 #[.slice A n c,I J k] w λe d=>e= .returned (I J ((a.getD k 0:Nat):Int))/\d=w:=by
 by_cases h:k<n
 ·obtain⟨g,rfl,-,hc⟩:=b (by rw[ao];omega);have f:=hc k (by rw[ao,<-hn];exact h);rw[bT]at f;generalize a.getD k 0=x at*;clear hc b hn;go_enter func211,ntmps211;go_wp2;go_ret;exact⟨rfl,rfl⟩
 ·have e:a.getD k 0=0:=kP oO;rw[e];clear b hn;go_enter func211,ntmps211;go_wp2;go_ret;exact⟨rfl,rfl⟩
theorem Lk (s a first b:Nat) (w:List Nat):zl (bO s a b first w)++zl [iK s a first w b]=zl (bO s a (b+1) first w):=by
 unfold bO;rw[List.range_succ,A1];unfold zl;rw[<-A1];rfl
theorem Cb (f S a d first:Nat) (c:List Nat) (n:Nat) (A:xv Addr) (k:Nat) (w:wR) (h:eD f S a d first) (hn:n=c.length) (hl:ak S c) (a6:n<=4097) (u:RD w A (zl c)):
 wS w1 168 #[bZ f S a d first,.slice A n k] w λe z=>∃v,e= .returned v/\az z v (zl (bO S a d first c))/\af w z:=by
 have m:=aa h;obtain⟨s3,bi⟩:=h.s3;have bo:=h.p1;have Z:=h.p2;have B:=kE w f S a d first
 have bf:w2 (af w (w.alloc (iB f S a d first))):=(w3 _ _).alloc (w5 _) _;have ab:w2 (∀W x,af w W->x<S->wS w1 209 #[aU f S a,.slice A n k,I J ((x:Nat):Int)] W (au (I J ((lj S a x c n:Nat):Int)) W)):=λW x j ac=>Kf f S a x c n hn A k W m.out.vf ac hl a6 (u.below j);have a7:w2 (n=c.length):=hn;have b1:d<=4094:=oO;obtain⟨ad,al,am,ap,av⟩:=B.out _ (w3 _ _);clear h Z hn u;go_enter func168,ntmps168;go_wp2_with(go_at_call 185;refine(Jb f S a d first _ m.out).mono ?_;rintro e g ⟨bq,rfl,F,G⟩;obtain⟨bs,bt,rfl,-,-,H⟩:=az.nat F;rw[jX];have K:=aa H;have L:=aa G;clear H F G ad al am ap av)
 have M:=aa (ae bf.out L.out);go_loopw [6,7] (λa0 o wr=>∃(b:Nat) (p:xv Addr) (r:Nat),b<=d/\o=I J b/\a0= .slice p b r/\w2 (af g wr)/\w2 (wr.ownsRow g.heap.size 3 1 (.slice p b r) b ((zl (bO S a b first c)).map (zz .i64)))) (λ_ o _=>d-(intOf o).toNat)
 case atStart=>exact⟨0,U,0,x1 _,rfl,rfl,w3 _ _,World.ownsRow_nil _ _ _ _⟩
 case round=>
  obtain⟨b,p,r,bx,rfl,rfl,hB,s⟩:=hrel;by_cases N:b<d
  ·have a1:w2 (dk S a (first+b)<S):=fj m.out.vf _;have e1:(kC S a first d).getD b 0=dk S a (first+b):=by unfold kC;exact bC _ _ _ N
   obtain⟨a2,rfl,-,-⟩:=K.out (by rw[ao,jX];omega);have O:w2 (∀W,af g W->(W.cell? ⟨w.heap.size,0,U⟩=gk (I J f)/\W.cell? ⟨w.heap.size,1,U⟩=gk (I J S)/\W.cell? ⟨w.heap.size,2,U⟩=gk (I J a))/\W.cell? (a2.add b)=gk (I J ((dk S a (first+b):Nat):Int))):=by
    show∀W,_;intro W j;obtain⟨a3,a4,a5,-⟩:=B.out _ (ae L.out j);refine⟨⟨a3,a4,a5⟩,?_⟩;obtain⟨bz,e,_,hc⟩:=K.out.below j (by rw[ao,jX];omega);injection e with e;subst e;rw[hc b (by rw[ao,jX];exact N),bT,e1]
   have P:w2 (iK S a first c b=lj S a (dk S a (first+b)) c n):=by show _=_;rw[a7.out];rfl
   have Q:w2 (zl (bO S a b first c)++zl [iK S a first c b]=zl (bO S a (b+1) first c)):=Lk S a first b c
   rw[P.out]at Q;clear P e1;have a8:w2 (∀W,af w W->wS w1 209 #[aU f S a,.slice A n k,I J ((dk S a (first+b):Nat):Int)] W (au (I J ((lj S a (dk S a (first+b)) c n:Nat):Int)) W)):=λW j=>ab.out W _ j a1.out;generalize a9:zl (bO S a b first c)=bv at*;generalize lj S a (dk S a (first+b)) c n=y at*;generalize dk S a (first+b)=x at*;clear a9;have T:w2 (g.heap.size<=wr.heap.size):=hB.out.size;go_wp2;refine yO (λW=>af g W) [1,2,3,4,5,6,7,8,0,9,10,11,0,12] (hB.out.drew) ?_
   repeat refine zO O.out ?_
   refine zZ ?_;refine(a8.out _ (ae M.out hB.out.drew)).mono ?_;rintro e i ⟨rfl,V⟩;have t:w2 (af wr i):=ae (ai (w3 _ _)) V;clear V;refine⟨_,rfl,ae hB.out t.out,jO ?_⟩;refine' zQ (v:= .slice (gk ⟨i.heap.size,0,U⟩) 1 1) (w':=i.alloc (.cells #[I J y] 3)) rfl (by go_simp) (ah (ae hB.out t.out) _) ?_;have l:w2 (af wr (i.alloc (.cells #[I J (y:Int)] 3))):=ah t.out _;have bb:w2 (RD (i.alloc (.cells #[I J (y:Int)] 3)) (gk ⟨i.heap.size,0,U⟩) (zl [y])):=RD.lit i [y] 3 _ rfl;refine' qy (ys:=zl [y]) (aq s.out l.out) (Nat.le_trans T.out l.out.size) rfl _ _ rfl rfl rfl rfl (w5 _) bb.out oO ?_;intro C D E Y hg bd;have be:w2 (E.ownsRow g.heap.size 3 1 (.slice C (b+1) D) (b+1) ((zl (bO S a (b+1) first c)).map (zz .i64))):=by
    show World.ownsRow _ _ _ _ _ _ _;rw[<-Q.out];exact Y
   have X:w2 (af g E):=(ae hB.out l.out).grown hg (Nat.le_trans T.out l.out.size) (λq hq=>(s.out.lt q hq).1);clear Y hg bd;refine⟨X.out,?_⟩;simp only[yQ,yU,yX,yY]
   repeat refine zO O.out ?_
   refine aj ?_;go_wp2;exact⟨⟨b+1,C,D,by omega,by go_num,rfl,X,be⟩,by simp[intOf];omega⟩
  ·obtain rfl:b=d:=oO;go_wp2;go_ret;exact⟨_,rfl,az.bL s.out,ae M.out hB.out⟩
def Jz (s e:Nat) (a b:List Nat) (n d c:Nat):Nat:=bD s e (a.getD c 0) (if n<=c then aA s e d (b.getD (c-n) 0)else 0)
def pM (s e f:Nat) (a b:List Nat) (n d g:Nat):List Nat:=(y3 f).map λc=>if c<g then Jz s e a b n d c else 0
theorem o4 (s e c:Nat) (a b:List Nat) (n d f:Nat):(pM s e c a b n d f).length=c:=by unfold pM;simp
theorem Lc (s f e:Nat) (a b:List Nat) (n d:Nat):pM s f e a b n d 0=List.replicate e 0:=by
 refine dC (by rw[o4,S2]) λg c=>?_;rw[o4]at c;unfold pM;rw[bC _ _ _ c,w6 oO];simp[x4,c]
theorem MC (s g i:Nat) (a b:List Nat) (n d c:Nat) (k:c<i):(pM s g i a b n d c).set c (Jz s g a b n d c)=pM s g i a b n d (c+1):=by
 unfold pM;rw[fm _ _ _ _ k];apply A9;intro f l;by_cases e:f=c
 ·subst e;rw[xl rfl,xl (show f<f+1 by omega)]
 ·rw[w6 e];by_cases j:f<c
  ·rw[xl j,xl (show f<c+1 by omega)]
  ·rw[w6 j,w6 (show¬f<c+1 by omega)]
theorem rm {c s b:Nat} (h:VF c s b) {x:Nat} (a:x<s):bD s b x 0=x:=
 ik h (jd h a (by have:=h.aO;omega)) a (by rw[kQ h a (by have:=h.aO;omega),bS,fX])
theorem Ng {c s f:Nat} (h:VF c s f) {a b:List Nat} (j:ak s a) {n d:Nat} (k:d<s):pM s f (max a.length (b.length+n)) a b n d (max a.length (b.length+n))=dc s f a b n d b.length:=by
 unfold pM dc;apply A9;intro e g;have g:=List.mem_range.1 g;rw[xl g];unfold Jz;by_cases i:n<=e
 ·rw[xl i];by_cases l:e-n<b.length
  ·rw[xl ⟨i,l⟩]
  ·rw[w6 oO,kP (l:=b) oO,pD h k,rm h (j e)]
 ·rw[w6 i,w6 oO,rm h (j e)]
theorem Cw (o S j:Nat) (a b:List Nat) (A B:xv Addr) (n m D E d f:Nat) (w:wR) (t:VF o S j) (L:ak S a) (X:ak S b) (hn:n=a.length) (F:m=b.length) (bf:1<=n) (bi:n<=4097) (av:m+f<=4097) (G:d<S) (N:RD w A (zl a)) (hb:RD w B (zl b)):
 wS w1 212 #[aU o S j,.slice A n D,.slice B m E,I J d,I J f] w λe z=>∃v,e= .returned v/\az z v (zl (dc S j a b f d b.length))/\af w z:=by
 obtain⟨g,O⟩:∃g,g=max n (m+f):=⟨_,rfl⟩;have a0:max (n:Int) ((m:Int)+(f:Int))=(g:Int):=oO;have bo:1<=g:=oO;have bq:g<=4097:=oO;have a1:=S0 (P:=w1) 64 3 (I J 0) 8 z1 cT rfl .i64 .i64 g oO oO;have C:=aa t;have a2:=aa L;have a3:=aa X;have ac:=aa N;have ad:=aa hb;have al:=aa G;have a4:w2 (2<=S):=t.aO;have a9:w2 (pM S j g a b f d g=dc S j a b f d m):=by
  have:=Ng t L (b:=b) (n:=f) G;rw[<-hn,<-F,<-O]at this;exact this
 have am:=aa hn;have P:=aa F;have hg:f<=4097:=oO;clear t L X N hb hn F O G av;go_enter func212,ntmps212;go_wp2;clear a1 a0;go_loopw [12] (λH wr=>∃c:Nat,c<=g/\H=I J c/\w2 (gW w wr (lO o S j) (pM S j g a b f d c))) (λH _=>g-(intOf H).toNat)
 case atStart=>exact⟨0,x1 _,rfl,by rw[Lc];exact gW.Kv w o S j g _⟩
 case round=>
  obtain⟨c,bd,rfl,l⟩:=hrel;by_cases Y:c<g
  ·have r:w2 (_=_):=MC S j g a b f d c Y;obtain⟨c1,Q⟩:=l.out.O.2 c (by rw[o4];exact Y);have M:=l.out.O.1;have T:w2 (a.getD c 0<S):=a2.out c;have Z:w2 (∀W,af wr W->wS w1 211 #[.slice A n D,I J c] W (au (I J ((a.getD c 0:Nat):Int)) W)):=λW i=>(AJ a n c am.out A D W ((ac.out.below l.out.B).below i)).mono λe z h=>⟨h.1,by rw[h.2];exact w3 _ _⟩;obtain⟨q,hq⟩:∃q,q=c-f:=⟨_,rfl⟩;have a5:w2 (∀W,af wr W->wS w1 211 #[.slice B m E,I J q] W (au (I J ((b.getD q 0:Nat):Int)) W)):=λW i=>(AJ b m q P.out B E W ((ad.out.below l.out.B).below i)).mono λe z h=>⟨h.1,by rw[h.2];exact w3 _ _⟩;have ap:w2 (b.getD q 0<S):=a3.out q;unfold Jz at r;rw[<-hq]at r;generalize a.getD c 0=x at*;generalize b.getD q 0=y at*;generalize(pM S j g a b f d c).getD c 0=u at*;have k:w2 (∀W,af wr W->(W.cell? ⟨w.heap.size,0,U⟩=gk (I J o)/\W.cell? ⟨w.heap.size,1,U⟩=gk (I J S)/\W.cell? ⟨w.heap.size,2,U⟩=gk (I J j))/\W.cell? ⟨w.heap.size+1,c,U⟩=gk (I J (u:Int))/\W.frozen? ⟨w.heap.size+1,c,U⟩=R):=by
    show∀W,_;intro W i;exact⟨fs (l.out.X.below i),(i.cell M).trans c1,(i.frozen M).trans Q⟩
   clear c1 Q M;by_cases ab:f<=c
   ·have bs:J.wrap ((c:Int)-(f:Int))=(q:Int):=by rw[aG _ oO oO];omega
    have bb:(f:Int)<=(c:Int):=oO;rw[xl ab]at r;clear hq;go_wp2;refine bV (S:=af wr) 8 oK oK (ai (w3 _ _)) ?_;simp only[A3,A0,A4,CQ]
    repeat refine kO k.out ?_
    refine kX (λW i=>a5.out W i) ?_
    repeat refine kO k.out ?_
    refine kX (λW i=>kN o S j d y W C.out al.out ap.out) ?_
    repeat refine kO k.out ?_
    refine cX ?_;intro be p;have a6:=aa p;clear p;go_wp2;refine bV (S:=af wr) 9 oK oK (ai a6.out) ?_;simp only[A3,A0,A4,CQ]
    repeat refine kO k.out ?_
    refine kX (λW i=>Z.out W i) ?_
    repeat refine kO k.out ?_
    refine kX (λW i=>vH o S j x (aA S j d y) W C.out T.out (bk C.out _ _)) ?_
    repeat refine kO k.out ?_
    refine cX ?_;intro K p;have s:=aa p;clear p;obtain⟨-,a7,a8⟩:=k.out K s.out;go_wp2;exact⟨⟨c+1,by omega,by go_num,by rw[<-r.out];exact(l.out.below s.out).set _ _⟩,by simp[intOf];omega⟩
   ·have bb:¬(f:Int)<=(c:Int):=oO;rw[w6 ab]at r;clear hq;go_wp2;refine bV (S:=af wr) 9 oK oK (ai (w3 _ _)) ?_;simp only[A3,A0,A4,CQ]
    repeat refine kO k.out ?_
    refine kX (λW i=>Z.out W i) ?_
    repeat refine kO k.out ?_
    refine kX (λW i=>vH o S j x 0 W C.out T.out (by have:=a4.out;omega)) ?_
    repeat refine kO k.out ?_
    refine cX ?_;intro K p;have s:=aa p;clear p;obtain⟨-,a7,a8⟩:=k.out K s.out;go_wp2;exact⟨⟨c+1,by omega,by go_num,by rw[<-r.out];exact(l.out.below s.out).set _ _⟩,by simp[intOf];omega⟩
  ·obtain rfl:c=g:=oO;go_wp2;go_ret;refine⟨_,rfl,?_,l.out.B⟩;have V:=l.out.O.ints (c:=c) (o4 _ _ _ _ _ _ _ _).symm (w5 _) oM;rw[a9.out,P.out]at V;exact V
noncomputable def vb (s b n k:Nat):List Nat:=(y3 n).map λa=>if k<=a then dk s b (n-1-a)else 0
noncomputable def I0 (s a n:Nat):List Nat:=vb s a n 0
theorem nN (s a n k:Nat):(vb s a n k).length=n:=by unfold vb;simp
theorem MO (s b n:Nat):vb s b n n=List.replicate n 0:=by
 refine dC (by rw[nN,S2]) λc a=>?_;rw[nN]at a;unfold vb;rw[bC _ _ _ a,w6 oO];simp[x4,a]
theorem Ot (s b n k:Nat) (d:k<n):(vb s b n (k+1)).set k (dk s b (n-(k+1)))=vb s b n k:=by
 unfold vb;rw[fm _ _ _ _ d];apply A9;intro a f;by_cases e:a=k
 ·subst e;rw[xl rfl,xl (w5 _),show n-1-a=n-(a+1)from by omega]
 ·rw[w6 e];by_cases c:k+1<=a
  ·rw[xl c,xl (show k<=a by omega)]
  ·rw[w6 c,w6 (show¬k<=a by omega)]
theorem O3 (s b n a:Nat) (c:a<n):(I0 s b n).getD a 0=dk s b (n-1-a):=by
 unfold I0 vb;rw[bC _ _ _ c,xl (x1 _)]
theorem Gq (c S a n:Nat) (w:wR) (d:VF c S a) (Z:1<=n) (hn:n<=4097):
 wS w1 169 #[aU c S a,I J n] w λe l=>∃v,e= .returned v/\az l v (zl (I0 S a n))/\af w l:=by
 have hg:=kM d;have O:=aa d;have F:=S0 (P:=w1) 64 3 (I J 0) 8 z1 cT rfl .i64 .i64 n oO oO;have B:w2 (an (w.alloc (eX c S a)) w.heap.size (lO c S a)):=an.new _ _ _ _ rfl;have H:w2 (∀W,wS w1 210 #[aU c S a] W (au (I J ((aV S a:Nat):Int)) W)):=λW=>uo c S a W d;have K:w2 (∀W b,wS w1 148 #[aU c S a,I J ((dk S a b:Nat):Int),I J ((aV S a:Nat):Int)] W (au (I J ((dk S a (b+1):Nat):Int)) W)):=by
  show∀W b,_;intro W b;have:=kN c S a (dk S a b) (aV S a) W d (fj d _) hg;rw[Fw d]at this;exact this
 have C:w2 (dk S a 0=1):=by show _=_;rw[wW d];rfl
 clear d hg;generalize aV S a=G at*;go_enter func169,ntmps169;go_wp2_with(go_at_call 210;refine(H.out _).mono ?_;rintro e f ⟨rfl,s⟩;have j:=aa s;clear s)
 clear F;have L:w2 (af f (f.alloc (.cells (C2 #[I J 0] n) 3))/\bK (f.alloc (.cells (C2 #[I J 0] n) 3)) f.heap.size (vb S a n n)):=by
  show _/\_;rw[MO];exact⟨ax _ _,bK.made _ _ _ _ rfl⟩
 go_loopw [7,8] (λD i wr=>∃(k:Nat) (b:Int),k<=n/\i=I J b/\w2 (b=(k:Int)-1)/\D=I J ((dk S a (n-k):Nat):Int)/\w2 (af f wr/\bK wr f.heap.size (vb S a n k))) (λ_ i _=>(intOf i+1).toNat)
 case atStart=>exact⟨n,_,w5 _,rfl,rfl,by rw[Nat.sub_self,C.out];rfl,L⟩
 case round=>
  obtain⟨k,b,P,rfl,o,rfl,g⟩:=hrel;by_cases M:k=0
  ·subst M;have ab:b<0:=by have:=o.out;omega
   go_wp2;go_ret;exact⟨_,rfl,g.out.2.ints (nN _ _ _ _).symm (w5 _) oM,ae (ae (ax _ _) j.out) g.out.1⟩
  ·obtain⟨m,rfl⟩:∃m,k=m+1:=⟨k-1,by omega⟩;obtain rfl:b=(m:Int):=by have:=o.out;omega
   have t:m<n:=oO;have N:w2 (_=_):=Ot S a n m t;obtain⟨c1,Q⟩:=g.out.2.2 m (by rw[nN];exact t);obtain⟨T,V,X⟩:=fs (B.out.below (ae j.out g.out.1));have p:=aa (λW=>K.out W (n-(m+1)));have u:n-(m+1)+1=n-m:=oO;rw[u]at p;have ac:w.heap.size≠f.heap.size:=by have:=j.out.size;simp at this;omega
   generalize dk S a (n-(m+1))=x at*;generalize q:dk S a (n-m)=y at*;have E:=aa q;clear q u;go_wp2_with(go_at_call 148;refine(p.out _).mono ?_;rintro e Y ⟨rfl,z⟩;have A:=aa z;clear z)
   refine⟨⟨m,_,by omega,rfl,rfl,by rw[E.out],?_⟩,by simp[intOf]⟩;have r:=g.out.2.set m x;rw[N.out]at r;exact⟨ae (g.out.1.setCell (w5 _) _) A.out,r.below A.out⟩
theorem Kn {a:Act} {f:Oper} {W:wR} {s x:HK} (l:f.op= .call {callee:= .builtin .append,args:=#[s,x],argTypes:=#[64,64]}) (A:xv Addr) (n c:Nat) (d:List Nat) (hs:a.eval s= .slice U 0 0) (m:a.eval x= .slice A n c)
 (hn:n=d.length) (v:1<=n) (K:n<=100000) (i:RD W A (zl d)):
 ∃wb cw b,(Bq a.eval f).run w1 W= .ok (.value (.slice (gk ⟨wb,0,U⟩) n cw)) b/\bK b wb d/\W.heap.size<=wb/\n<=cw/\cw<=maxLen/\af W b:=by
 obtain⟨o,p,w,y,z⟩:=info_parts cT
 obtain⟨C,b,B,g,hg,L⟩:=rC (P:=w1) W W.heap.size 64 f.type 3 o _ z1 p w y z rfl (.slice U 0 0) 0 [] (World.ownsRow_nil _ _ _ _) A n c (zl d) (by rw[ao];exact hn) i (λr=>by
  obtain⟨D,e,-⟩:=i (by rw[ao];omega)
  rw[r]at e;cases e) oO (w5 _)
 rw[Nat.zero_add,List.nil_append]at g;rcases g.2 with⟨E,j⟩|⟨k,cap,M,rfl,j,F,t,u,G,H⟩
 ·omega
 ·refine⟨k,cap,b,?_,bK.bL g v,j,t,u,(w3 _ _).grown hg (w5 _) (λq hq=>by cases hq)⟩;unfold Bq;simp only[l,resolve,invoke,builtin,Aq,AT,y2,H3,HA,H8,hs,m,B]
theorem JU {a:Act} {e:Oper} {W:wR} {f c:HK} (g:e.op= .makeSlice 26 f c) (n:Nat) (hn:n<=100000) (hl:a.eval f=I J (n:Int)) (hc:a.eval c=I J (n:Int)):
 ∃b,(Bq a.eval e).run w1 W= .ok (.value (.slice (gk ⟨W.heap.size,0,U⟩) n n)) b/\(W.heap.size<b.heap.size/\∀d,d<n->b.cell? ⟨W.heap.size,d,U⟩=gk (.bool R))/\af W b:=by
 have j:=S0 (P:=w1) 26 4 (.bool R) 1 HE fF rfl .i64 .i64 n oO oO W;refine⟨W.alloc (.cells (C2 #[.bool R] n) 4),?_,⟨?_,λd i=>?_⟩,ax _ _⟩
 ·unfold Bq;simp only[g,hl,hc,j,Aq,AT,y2]
 ·simp
 ·rw[World.cell?_alloc_at _ _ _ _ rfl];unfold C2;rw[Array.getElem?_map,Array.getElem?_range,xl (by simpa using i)];simp[Nat.mod_one]
theorem Ls (a S b d first c bl wb eb n cw:Nat):prog.built 155 [(0,gG a S c bl),(1,bZ a S b d first),(2,.slice (gk ⟨wb,0,U⟩) n cw),(3,.slice (gk ⟨eb,0,U⟩) n n)]=gk (vV a S c bl b d first wb n cw eb aS aS aS aS).toArray:=by
 kernel_rfl
theorem rM {a:Act} {f:Oper} {W:wR} {x0 g i j:HK} (k:f.op= .build 155 #[(0,x0),(1,g),(2,i),(3,j)]) {b S c e first d bl wb eb n cw:Nat}
 (l:a.eval x0=gG b S d bl) (m:a.eval g=bZ b S c e first) (o:a.eval i= .slice (gk ⟨wb,0,U⟩) n cw) (p:a.eval j= .slice (gk ⟨eb,0,U⟩) n n):
 (Bq a.eval f).run w1 W= .ok (.value (.agg (vV b S d bl c e first wb n cw eb aS aS aS aS).toArray)) W:=by
 have q:=run_build (P:=w1) W 155 #[(0,gG b S d bl),(1,bZ b S c e first),(2,.slice (gk ⟨wb,0,U⟩) n cw),(3,.slice (gk ⟨eb,0,U⟩) n n)] _ (Ls b S c e first d bl wb eb n cw);unfold Bq;simp only[k,H3,HA,H8,l,m,o,p,q,Aq,AT,y2]
theorem vz {a:Act} {b:Oper} {W:wR} {x:HK} (c:b.op= .box 155 x) {cK:Array Value} (d:a.eval x= .agg cK):
 (Bq a.eval b).run w1 W= .ok (.value (.pointer (gk ⟨W.heap.size,0,U⟩))) (W.alloc (.cells cK 155)):=by
 unfold Bq;simp only[c,d,Instr.box,newVar,newRow,Value.cells,Aq,AT];rfl
theorem DS.made {w a:wR} {M e S c i first n cw b bl wb eb:Nat} {f:List Nat} (h:eD e S c i first) (hl:ak S f) (hn:n=f.length) (n1:1<=n) (n2:n<=S-1) (q:n<=cw) (rz:cw<=maxLen)
 (hB:af w a) (j:dH a S c b bl) (k:bK a wb f) (l:eb<a.heap.size/\∀g,g<n->a.cell? ⟨eb,g,U⟩=gk (.bool R)) (r:w.heap.size<=wb) (e1:b≠wb) (e2:bl≠wb) (e3:eb≠wb) (o:M=a.heap.size+1):
 DS ⟨w.heap.size,M,w,a.heap.size,wb,eb,b,bl,e,S,c,i,first,n,cw,λ_=>True⟩ (a.alloc (.cells (vV e S b bl c i first wb n cw eb aS aS aS aS).toArray 155)) aS aS aS aS f:=by
 have s:=j.1;have t:=j.2.1;have u:=k.1;have m:=l.1;have b0:=hB.size;have d:af a (a.alloc (.cells (vV e S b bl c i first wb n cw eb aS aS aS aS).toArray 155)):=ax _ _;refine⟨⟨h.vf,h.p1,h.p2,h.f2,n1,n2,q,rz,⟨b0,r⟩,by show a.heap.size≠wb;omega,by show b≠a.heap.size;omega,e1,by show bl≠a.heap.size;omega,e2,by show eb≠a.heap.size;omega,e3,λ_ _ _ _ _=>trivial,λ_ _ _ _ _ _=>trivial,?_⟩,ae hB d,by show M<=_;rw[o];simp,ag.new _ _ _ _ rfl,k.below d,hn,hl,j.below d,⟨x6 m d.size,λg p=>(d.cell m).trans (l.2 g p)⟩,trivial⟩;show w.heap.size<=M/\a.heap.size<M/\wb<M/\eb<M/\b<M/\bl<M;omega
def lS (W:wR) (eb n:Nat):Prop:=eb<W.heap.size/\∀a,a<n->W.cell? ⟨eb,a,U⟩=gk (.bool R)
theorem lS.below {W a:wR} {eb n:Nat} (h:lS W eb n) (hb:af W a):lS a eb n:=⟨x6 h.1 hb.size,λb c=>(hb.cell h.1).trans (h.2 b c)⟩
theorem uc {f:Array Oper} {S:wR->Prop} {K:Act->wR->Prop} {g:List (Bool×Nat×Oper)} {k:Nat} {d:Oper} {a:Act} {W:wR} {s x:HK} (u:Region.wanted d (yielded f a.tmps)=wP) (q:d.op= .call {callee:= .builtin .append,args:=#[s,x],argTypes:=#[64,64]})
 (A:xv Addr) (n c:Nat) (e:List Nat) (hs:a.eval s= .slice U 0 0) (r:a.eval x= .slice A n c) (hn:n=e.length) (v:1<=n) (w:n<=100000) (t:RD W A (zl e))
 (i:∀wb cw b,bK b wb e->W.heap.size<=wb->n<=cw->cw<=maxLen->af W b->S b/\bI w1 f S K g (a.put d.dst (.slice (gk ⟨wb,0,U⟩) n cw)) b):bI w1 f S K ((wP,k,d)::g) a W:=by
 obtain⟨wb,cw,b,y,j,l,m,o,p⟩:=Kn (a:=a) q A n c e hs r hn v w t;exact fl u y (i wb cw b j l m o p).1 (i wb cw b j l m o p).2
theorem tw {e:Array Oper} {S:wR->Prop} {K:Act->wR->Prop} {f:List (Bool×Nat×Oper)} {k:Nat} {d:Oper} {a:Act} {W:wR} {g c:HK} (o:Region.wanted d (yielded e a.tmps)=wP) (m:d.op= .makeSlice 26 g c) (n:Nat) (hn:n<=100000) (hl:a.eval g=I J (n:Int)) (hc:a.eval c=I J (n:Int))
 (i:∀b,lS b W.heap.size n->af W b->S b/\bI w1 e S K f (a.put d.dst (.slice (gk ⟨W.heap.size,0,U⟩) n n)) b):bI w1 e S K ((wP,k,d)::f) a W:=by
 obtain⟨b,p,j,l⟩:=JU (a:=a) (W:=W) m n hn hl hc;exact fl o p (i b j l).1 (i b j l).2
def Td (w:wR) (b S c e first n:Nat) (g:List Nat) (A:xv Addr) (f i:Nat) (a j:Act) (W:wR):Prop:=∃db wb eb d bl cw:Nat,
 j=(((((((((((a.put (gk 42) (.pointer (gk ⟨i,0,U⟩))).put (gk 43) (aU b S c)).put (gk 45) (bZ b S c e first)).put (gk 46) (.slice A n f)).put (gk 48) (.slice A n f)).put (gk 49) (I J n)).put (gk 44) (gG b S d bl)).put (gk 47) (.slice (gk ⟨wb,0,U⟩) n cw)).put (gk 50) (.slice (gk ⟨eb,0,U⟩) n n)).put (gk 51) (.agg (vV b S d bl c e first wb n cw eb aS aS aS aS).toArray)).put (gk 52) (.pointer (gk ⟨db,0,U⟩))).put (gk 10) (.pointer (gk ⟨db,0,U⟩))/\
 DS ⟨w.heap.size,W.heap.size,w,db,wb,eb,d,bl,b,S,c,e,first,n,cw,λ_=>True⟩ W aS aS aS aS g
theorem Jk (n:Nat) (w:wR) (hn:n<=100000):
 wS w1 123 #[I J n,.slice U 0 0] w λe a=>∃eb,e= .returned (.tuple #[.slice (gk ⟨eb,0,U⟩) n n,I J 0])/\lS a eb n/\af w a:=by
 have c:=S0 (P:=w1) 26 4 (.bool R) 1 HE fF rfl .i64 .i64 n oO oO;go_enter func123,ntmps123;go_wp2;clear c;refine wp_loop_rounds 1 ?_;rw[rounds_succ];go_wp2;go_ret2
 refine⟨_,rfl,⟨by simp,λd b=>?_⟩,ax _ _⟩;rw[World.cell?_alloc_at _ _ _ _ rfl];unfold C2;rw[Array.getElem?_map,Array.getElem?_range,xl (by simpa using b)];simp[Nat.mod_one]
def PE {c S d:Nat} (a:VF c S d) (e:List Nat) (n:Nat) (w b:wR) (v:Value) (L:Nat):Prop:=∃q:List Nat,az b v (zl q)/\ak S q/\dm q/\1<=q.length/\q.length<=n+1/\jZ a (co a e) n (co a q) L/\af w b
theorem DV (l S c:Nat) (j:List Nat) (A:xv Addr) (n dn:Nat) (w:wR) (g:VF l S c) (hl:ak S j) (hn:n=j.length) (ez:n<=4094) (b9:RD w A (zl j)):
 wS w1 171 #[aU l S c,.slice A n dn] w λe ca=>∃v L,e= .returned (.tuple #[v,I J ((L:Nat):Int)])/\PE g j n w ca v L:=by
 have p:=aa g;have cb:=aa hl;have ce:=aa hn;have ch:=aa (b9.alloc (eX l S c));have er:w2 (fp g j n 0 [1] [1] 0 1 1):=fp.start g j n;obtain⟨t,O⟩:∃t,t=w.alloc (eX l S c):=⟨_,rfl⟩;have bf:w2 (an t w.heap.size (lO l S c)):=by rw[O];exact an.new _ _ _ _ rfl
 have cx:w2 (af w t):=by rw[O];exact ax _ _
 have ad:w2 (az ((t.alloc (.cells #[I J 1] 3)).alloc (.cells #[I J 1] 3)) (.slice (gk ⟨w.heap.size+1,0,U⟩) 1 1) (zl [1])):=(az.lit _ [1] 3 _ 1 (by rw[O];simp) rfl oO).below (ax _ _);have al:w2 (az ((t.alloc (.cells #[I J 1] 3)).alloc (.cells #[I J 1] 3)) (.slice (gk ⟨w.heap.size+1+1,0,U⟩) 1 1) (zl [1])):=az.lit _ [1] 3 _ 1 (by rw[O];simp) rfl oO;have b1:w2 (af t ((t.alloc (.cells #[I J 1] 3)).alloc (.cells #[I J 1] 3))):=ah (ax _ _) _;rw[<-O]at ch;clear hl hn b9;go_enter func171,ntmps171;go_wp2;rw[<-O];obtain⟨H,cy⟩:∃H,H=w.heap.size:=⟨_,rfl⟩;have d4:w2 (w.heap.size<=t.heap.size):=cx.out.size;rw[<-cy]at bf ad al⊢;clear O cy;generalize(t.alloc (.cells #[I J 1] 3)).alloc (.cells #[I J 1] 3)=et at*;go_loopw [6,7,8,9,10,11] (λX ds dv dx dy M wr=>∃(k:Nat) (a f:List Nat) (L m b:Nat) (C K:xv Addr) (c1 N:Nat),k<=n/\L<=8000/\m<=8000/\M=I J k/\dv=I J L/\dx=I J m/\dy=I J b/\X= .slice C a.length c1/\ds= .slice K f.length N/\w2 (fp g j n k a f L m b)/\w2 (az wr (.slice C a.length c1) (zl a))/\w2 (az wr (.slice K f.length N) (zl f))/\w2 (af t wr)) (λ_ _ _ _ _ M _=>n-(intOf M).toNat)
 case atStart=>exact⟨0,[1],[1],0,1,1,_,_,1,1,x1 _,by omega,by omega,rfl,rfl,rfl,rfl,rfl,rfl,er.out,ad.out,al.out,b1.out⟩
 case round=>
  obtain⟨k,a,f,L,m,b,C,K,c1,N,ew,d5,d6,rfl,rfl,rfl,rfl,rfl,rfl,i,a8,b2,hB⟩:=hrel;obtain⟨u,am⟩:∃u,u=a.length:=⟨_,rfl⟩;obtain⟨Y,a9⟩:∃Y,Y=f.length:=⟨_,rfl⟩;have fr:u<=k+1:=by rw[am];exact i.out.lC
  have fv:Y+m<=k+2:=by rw[a9];exact i.out.lB
  have be:1<=u:=by rw[am];exact(fp.c1 g i.out).1
  have eA:L<=k:=i.out.kl.kl.ln;have B:=aa am;have Q:=aa a9;rw[<-am]at a8⊢;rw[<-a9]at b2⊢;have bb:w2 (RD wr C (zl a)):=by
   obtain⟨ci,ck,e,-,-,bi⟩:=a8.out;injection e with e1 e2 e3;rw[e1];exact bi
  have d7:w2 (RD wr K (zl f)):=by
   obtain⟨ci,ck,e,-,-,bi⟩:=b2.out;injection e with e1 e2 e3;rw[e1];exact bi
  have c8:u<=c1/\c1<=maxLen:=by
   obtain⟨ci,ck,e,cp,dz,-⟩:=a8.out;injection e with e1 e2 e3;rw[e3];rw[<-e2]at cp;exact⟨cp,dz⟩
  have d8:=aa c8;clear am a9 c8 d5 d6;by_cases d9:k<n
  ·go_wp2;obtain⟨bo,rfl⟩:∃bo:wR,bo=wr:=⟨_,rfl⟩;go_loopw [12,13] (λdE M wr=>∃q d:Nat,q<=L+1/\M=I J q/\dE=I J d/\w2 (d=lK S c (fQ S c a j k) q)/\w2 (af bo wr)) (λ_ M _=>L+1-(intOf M).toNat)
   case atStart=>exact⟨0,0,by omega,rfl,rfl,rfl,w3 _ _⟩
   case round=>
    obtain⟨q,d,e0,rfl,rfl,a5,D⟩:=hrel;have Z:w2 (d<S):=by show _<_;rw[a5.out];exact sk p.out _ (oe p.out a j k) q
    by_cases fw:q<=L
    ·obtain⟨y,a6⟩:∃y,y=j.getD (k-q) 0:=⟨_,rfl⟩;have d0:w2 (a.getD q 0<S):=i.out.hC q;have d1:w2 (y<S):=by show _<_;rw[a6];exact cb.out _
     have ea:w2 (bU S c d (aA S c (a.getD q 0) y)=lK S c (fQ S c a j k) (q+1)):=by
      show _=bU S c (lK S c (fQ S c a j k) q) (fQ S c a j k q);rw[<-a5.out];unfold fQ;rw[xl oO,a6]
     have ec:w2 (∀W,af wr W->wS w1 211 #[.slice C u c1,I J q] W (au (I J ((a.getD q 0:Nat):Int)) W)):=λW E=>(AJ a u q B.out C c1 W ((bb.out.below D.out).below E)).mono λe ca h=>⟨h.1,by rw[h.2];exact w3 _ _⟩;obtain⟨ed,rfl,di,c9⟩:=((ch.out.below hB.out).below D.out) (by rw[ao,<-ce.out];omega);have F:w2 (∀W,af wr W->(W.cell? ⟨H,0,U⟩=gk (I J l)/\W.cell? ⟨H,1,U⟩=gk (I J S)/\W.cell? ⟨H,2,U⟩=gk (I J c))/\W.cell? (ed.add (k-q))=gk (I J (y:Int))):=by
      show∀W,_;intro W E;refine⟨fs (((bf.out.below hB.out).below D.out).below E),?_⟩;rw[E.cell (by rw[aD];exact di),c9 (k-q) (by rw[ao,<-ce.out];omega),bT,a6]
     obtain⟨z,cq⟩:∃z,z=k-q:=⟨_,rfl⟩;rw[<-cq]at F;have e9:J.wrap ((k:Int)-q)=(z:Int):=by rw[aG _ oO oO];omega
     have ef:z<n:=oO;generalize a.getD q 0=x at*;clear a6 cq di c9;go_wp2;refine bV (S:=af wr) 14 oK oK (ai (w3 _ _)) ?_;simp only[A3,A0,A4,CQ]
     repeat refine kO F.out ?_
     refine kX (λW E=>ec.out W E) ?_
     repeat refine kO F.out ?_
     refine kX (λW E=>kN l S c x y W p.out d0.out d1.out) ?_
     repeat refine kO F.out ?_
     refine kX (λW E=>Dh l S c d (aA S c x y) W p.out Z.out (bk p.out _ _)) ?_
     repeat refine kO F.out ?_
     refine cX ?_;intro ex c2;have b1:=aa c2;clear c2;go_wp2;exact⟨⟨q+1,_,by omega,by go_num,rfl,ea.out,ae D.out b1.out⟩,by simp[intOf];omega⟩
    ·have T:w2 (aR g d=conv (co g a) (co g j) k):=by
      show _=_;rw[a5.out];exact ED g i.out.hC cb.out oO i.out.kl.kl.cs (.inl oO)
     have V:w2 (af t wr):=hB.out.trans (D.out.mono hB.out.size);have ad:=aa (a8.out.below D.out);have al:=aa (b2.out.below D.out);have da:=aa (bb.out.below D.out);have dd:=aa (d7.out.below D.out);clear a5 D;by_cases c3:d=0
     ·subst c3;have ap:w2 (fp g j n (k+1) a f L (m+1) b):=fp.skip g i.out (by rw[<-T.out,bS]);clear T;go_wp2;exact⟨⟨k+1,a,f,L,m+1,b,C,K,c1,N,by omega,by omega,by omega,by go_num,rfl,by go_num,rfl,by rw[B.out],by rw[Q.out],ap.out,by rw[<-B.out];exact ad.out,by rw[<-Q.out];exact al.out,V.out⟩,by simp[intOf];omega⟩
     ·have d2:((d:Int)==0)=R:=by rw[beq_eq_false_iff_ne];omega
      obtain⟨o,bq⟩:∃o,o=aA S c d (bW S c b):=⟨_,rfl⟩;have cr:w2 (o<S):=by show _<_;rw[bq];exact bk p.out _ _
      have bd:=aa bq;have fb:b≠0:=fp.b0 g i.out;have c4:w2 (b<S):=i.out.hb;have F:w2 (∀W,af wr W->(W.cell? ⟨H,0,U⟩=gk (I J l)/\W.cell? ⟨H,1,U⟩=gk (I J S)/\W.cell? ⟨H,2,U⟩=gk (I J c))):=by
       show∀W,_;intro W E;exact fs ((bf.out.below V.out).below E)
      clear bq;by_cases eh:2* L<=k
      ·obtain⟨ab,c5⟩:∃ab,ab=k+1-L:=⟨_,rfl⟩;have fc:(k:Int)+1-(L:Int)=(ab:Int):=oO;have ap:w2 (fp g j n (k+1) (dc S c a f m o f.length) a ab 1 d):=by
        show fp _ _ _ _ _ _ _ _ _;rw[c5,bd.out];exact fp.grow g i.out d9 Z.out c3 T.out eh
       have d3:decide (2* (L:Int)<=(k:Int))=wP:=by simp;omega
       clear T c5;go_wp2;refine yO (af wr) [1,2,3,4,5,6,7,10,0,8,9,11,0,12] (ai (w3 _ _)) ?_
       repeat refine zO F.out ?_
       refine zZ ?_;refine(qF l S c b _ p.out c4.out).mono ?_;rintro e bs ⟨rfl,av⟩;have a0:w2 (af wr bs):=(ai (w3 _ _)).trans av;clear av;have b3:w2 (bW S c b<S):=gM p.out;refine⟨_,rfl,a0.out,jO ?_⟩;refine zZ ?_;refine(kN l S c d (bW S c b) _ p.out Z.out b3.out).mono ?_;rintro e bt ⟨rfl,a1⟩;rw[<-bd.out];have G:=aa (ae a0.out a1);clear a1;refine⟨_,rfl,G.out,jO ?_⟩;refine zZ ?_;refine(Cw l S c a f C K u Y c1 N o m bt p.out i.out.hC i.out.hB B.out Q.out be oO oO cr.out (da.out.below G.out) (dd.out.below G.out)).mono ?_;rintro e bv ⟨v4,rfl,a2,a3⟩
       obtain⟨r,s,rfl,a4⟩:∃r s,v4= .slice r (dc S c a f m o f.length).length s/\az bv (.slice r (dc S c a f m o f.length).length s) (zl (dc S c a f m o f.length)):=by
        have ac:=a2;obtain⟨r,s,e,-⟩:=az.nat ac;exact⟨r,s,e,by rw[<-e];exact ac⟩
       have P:=aa (ae G.out a3);have b4:=aa a4;clear a3 a2 a4;generalize dc S c a f m o f.length=bx at*;refine⟨_,rfl,P.out,jO ?_⟩
       repeat refine zO F.out ?_
       refine aj ?_;go_wp2;exact⟨⟨k+1,bx,a,ab,1,d,r,C,s,c1,by omega,by omega,by omega,by go_num,by go_num,rfl,rfl,rfl,by rw[B.out],ap.out,b4.out,by rw[<-B.out];exact ad.out.below P.out,V.out.trans (P.out.mono V.out.size)⟩,by simp[intOf];omega⟩
      ·have ap:w2 (fp g j n (k+1) (dc S c a f m o f.length) f L (m+1) b):=by
        show fp _ _ _ _ _ _ _ _ _;rw[bd.out];exact fp.stay g i.out Z.out T.out oO
       have d3:decide (2* (L:Int)<=(k:Int))=R:=by simp;omega
       clear T;go_wp2;refine yO (af wr) [1,2,3,4,5,6,7,10,0,8,9,11,0,12] (ai (w3 _ _)) ?_
       repeat refine zO F.out ?_
       refine zZ ?_;refine(qF l S c b _ p.out c4.out).mono ?_;rintro e bs ⟨rfl,av⟩;have a0:w2 (af wr bs):=(ai (w3 _ _)).trans av;clear av;have b3:w2 (bW S c b<S):=gM p.out;refine⟨_,rfl,a0.out,jO ?_⟩;refine zZ ?_;refine(kN l S c d (bW S c b) _ p.out Z.out b3.out).mono ?_;rintro e bt ⟨rfl,a1⟩;rw[<-bd.out];have G:=aa (ae a0.out a1);clear a1;refine⟨_,rfl,G.out,jO ?_⟩;refine zZ ?_;refine(Cw l S c a f C K u Y c1 N o m bt p.out i.out.hC i.out.hB B.out Q.out be oO oO cr.out (da.out.below G.out) (dd.out.below G.out)).mono ?_;rintro e bv ⟨v4,rfl,a2,a3⟩
       obtain⟨r,s,rfl,a4⟩:∃r s,v4= .slice r (dc S c a f m o f.length).length s/\az bv (.slice r (dc S c a f m o f.length).length s) (zl (dc S c a f m o f.length)):=by
        have ac:=a2;obtain⟨r,s,e,-⟩:=az.nat ac;exact⟨r,s,e,by rw[<-e];exact ac⟩
       have P:=aa (ae G.out a3);have b4:=aa a4;clear a3 a2 a4;generalize dc S c a f m o f.length=bx at*;refine⟨_,rfl,P.out,jO ?_⟩
       repeat refine zO F.out ?_
       refine aj ?_;go_wp2;exact⟨⟨k+1,bx,f,L,m+1,b,r,K,s,N,by omega,by omega,by omega,by go_num,rfl,by go_num,rfl,rfl,by rw[Q.out],ap.out,b4.out,by rw[<-Q.out];exact al.out.below P.out,V.out.trans (P.out.mono V.out.size)⟩,by simp[intOf];omega⟩
  ·obtain rfl:k=n:=oO;obtain⟨fx,de⟩:=d8.out;have ek:w2 (a.getD 0 0≠0):=(fp.c1 g i.out).2;have b7:w2 (1<=tl a a.length):=D0 ek.out _ (by rw[<-B.out];exact be);go_wp2;obtain⟨bz,rfl,fz,el⟩:=bb.out (by rw[ao,<-B.out];omega);go_loop [6] (λX=>∃e:Nat,1<=e/\e<=u/\X= .slice (gk bz) e c1/\w2 (tl a e=tl a a.length)) (λX=>match X with|.slice _ n _=>n|_=>0)
   case atStart=>exact⟨u,be,w5 _,rfl,by show _=_;rw[B.out]⟩
   case round=>
    obtain⟨e,fd,ey,rfl,a7⟩:=hrel;obtain⟨z,rfl⟩:∃z,e=z+1:=⟨e-1,by omega⟩;have cs:=el z (by rw[ao,<-B.out];omega);rw[bT]at cs;obtain⟨x,b5⟩:∃x,x=a.getD z 0:=⟨_,rfl⟩;rw[<-b5]at cs;have c6:=aa b5;have fn:((z+1:Nat):Int)-1=(z:Int):=oO;have ef:z<u:=oO;have fo:z<=c1:=oO;clear b5;by_cases b6:x=0
    ·subst b6;have c7:w2 (tl a z=tl a a.length):=by
      have h:=a7.out;have e1:tl a (z+1)=if a.getD z 0=0 then tl a z else z+1:=rfl
      rw[e1,xl c6.out.symm]at h;exact h
     have em:1<=z:=by
      rcases Nat.eq_zero_or_pos z with h|h
      ·subst h;have:=c7.out;rw[<-this]at b7;exact absurd b7.out (by show¬1<=0;omega)
      ·exact h
     clear a7;go_wp2;exact⟨⟨z,em,by omega,rfl,c7.out⟩,by simp⟩
    ·have d2:((x:Int)==0)=R:=by rw[beq_eq_false_iff_ne];omega
     have cv:w2 (tl a a.length=z+1):=by
      show _=_;have e1:tl a (z+1)=if a.getD z 0=0 then tl a z else z+1:=rfl
      rw[<-a7.out,e1,w6 (by rw[<-c6.out];exact b6)]
     have en:w2 (eK a=a.take (z+1)):=by show _=_;unfold eK;rw[cv.out]
     have es:w2 (az wr (.slice (gk bz) (z+1) c1) (zl (eK a))):=by
      show az _ _ _;rw[en.out];have hl:(zl (a.take (z+1))).length=z+1:=by rw[ao,Ai,<-B.out];omega
      refine⟨gk bz,c1,by rw[hl],by rw[hl];omega,de,?_⟩;have:=bb.out.take (z+1);rwa[show(zl a).take (z+1)=zl (a.take (z+1))from by unfold zl;rw[Wm]]at this
     clear a7 b6 de;go_wp2;go_ret2
     refine⟨_,L,rfl,eK a,es.out,ky i.out.hC,my _,?_,?_,?_,cx.out.trans (hB.out.mono d4.out)⟩
     ·rw[kf];exact b7.out
     ·rw[kf,cv.out];omega
     ·have eq:co g (eK a)=co g a:=funext λdl=>si g a dl;rw[eq];exact i.out.kl.Rn g
def gl (s p:Nat) (a:List Nat):Nat->List Nat
 |0=>[1]
 |k+1=>dt s p (gl s p a k) [1,bD s p 0 (a.getD k 0)] (k+2) (k+1) 0
theorem rB (s p:Nat) (a:List Nat):∀k,(gl s p a k).length=k+1
 |0=>rfl
 |k+1=>gB _ _ _ _ _ _ _
section
open Fl
variable {c s p : Nat} (h : VF c s p)
include h
theorem AP (a:List Nat):∀k,ak s (gl s p a k)
 |0=>qf h
 |k+1=>mw h _ _ _ _ _
theorem Rv {x:Nat} (b:x<s):co h [1,bD s p 0 x]=km (aR h x):=by
 funext a
 match a with
 |0=>exact lf h
 |1=>
  show aR h (bD s p 0 x)=-aR h x;rw[kQ h (by have:=h.aO;omega) b,bS,ME]
 |a+2=>
  rw[fO h _ (a+2) oS];unfold km;rw[w6 oO,w6 oO]
theorem IC {a:List Nat} (b:ak s a):∀k,k<=a.length->∀m,co h (gl s p a k) m=qk ((a.take k).map (aR h)) m
 |0,_,m=>by
  show co h [1] m=ju 1 m;rw[Bd]
 |k+1,i,m=>by
  have f:=IC b k oO;have e1:a.take (k+1)=a.take k++[a.getD k 0]:=by
   rw[Vj];have:a[k]?=gk (a.getD k 0):=by simp[x4,show k<a.length from by omega]
   rw[this];rfl
  rw[e1,A1];show _=qk ((a.take k).map (aR h)++aR h (a.getD k 0)::[]) m;rw[wE,List.append_nil];by_cases g:m<k+2
  ·have d:=vP h (AP h a k) (K9 h (a:=1) (by have:=h.aO;omega) (jd h (x:=0) (y:=a.getD k 0) (by have:=h.aO;omega) (b k))) g;rw[rB]at d;show co h (dt s p (gl s p a k) [1,bD s p 0 (a.getD k 0)] (k+2) (k+1) 0) m=_;rw[d,Rv h (b k),jb];exact e8 (λ_ _=>rfl) (λe _=>f e)
  ·rw[fO h _ m (by rw[rB];omega)];refine((oG (aR h (a.getD k 0))).conv (sc ((a.take k).map (aR h))) m ?_).symm;rw[List.length_map,Ai];omega
end
def mM (s p first:Nat) (b:List Nat) (a:Nat):Nat->Nat
 |0=>aM s p (b.getD a 0) first
 |k+1=>if k=a then mM s p first b a k else aA s p (mM s p first b a k) (bD s p 1 (aA s p (b.getD k 0) (bW s p (b.getD a 0))))
def yI (s p first:Nat) (d a:List Nat) (b:Nat):Nat:=aA s p (cP s p (bW s p (a.getD b 0)) d) (bW s p (mM s p first a b a.length))
def iN (s p first b:Nat) (d a:List Nat) (k:Nat):List Nat:=(y3 k).map (yI s p first (dt s p d (gl s p a a.length) b b 0) a)
theorem GX (s p first d:Nat) (a b:List Nat) (k:Nat):(iN s p first d a b k).length=k:=by unfold iN;simp
theorem KQ (s p first b:Nat) (d a:List Nat) (k:Nat):iN s p first b d a (k+1)=iN s p first b d a k++[yI s p first (dt s p d (gl s p a a.length) b b 0) a k]:=by
 unfold iN;rw[List.range_succ,A1];rfl
theorem oy (a:List Nat) {k:Nat} (b:k<a.length):a.take (k+1)=a.take k++[a.getD k 0]:=by
 rw[Vj];have:a[k]?=gk (a.getD k 0):=by simp[x4,b]
 rw[this];rfl
section
open Fl
variable {c s p : Nat} (h : VF c s p)
include h
theorem zI {x:Nat} (a:x<s) (b:x≠0):aR h (bW s p x)=eP (aR h x):=by
 have f:=wJ h a b;have d:aR h x≠0:=λe=>b ((pe h a).1 e);apply gP d;rw[Eb d,cC,f]
omit h in
theorem Bs {K:Type} [Fl K] (y:K):∀l m:List K,l7 y (l++m)=l7 y l* l7 y m
 |[],m=>(eY _).symm
 |X::l,m=>by
  show(1-X* y)* l7 y (l++m)=(1-X* y)* l7 y l* l7 y m;rw[Bs y l m,cJ]
theorem Jd {first:Nat} {a:List Nat} (e:ak s a) (b k:Nat):mM s p first a b k<s:=by
 induction k with
 |zero=>exact mC h _ _
 |succ k d=>unfold mM;split;exact d;exact bk h _ _
theorem Mz {first:Nat} {b:List Nat} (d:ak s b) {a:Nat} (l:a<b.length) (f:b.getD a 0≠0):∀k,k<=b.length->
 aR h (mM s p first b a k)=aR h (b.getD a 0)^first* l7 (eP (aR h (b.getD a 0))) (((b.take k).eraseIdx a).map (aR h))
 |0,_=>by
  show aR h (aM s p (b.getD a 0) first)=_;rw[wi h (d a)];simp only[A0,List.eraseIdx_nil,H8];show _=_* (1:KF h);rw[fT]
 |k+1,m=>by
  have g:=Mz (first:=first) d l f k oO;rw[oy b oO];unfold mM;have i:(1:Nat)<s:=by have:=h.aO;omega
  by_cases e:k=a
  ·subst e;rw[xl rfl,g];congr 2;rw[WK (by rw[Ai];omega),Wa (by rw[Ai];omega),Ai,show k-min k b.length=0 from by omega];simp
  ·rw[w6 e,gd h (Jd h d _ _) (jd h i (bk h _ _)),kQ h i (bk h _ _),gd h (d k) (gM h),lf,zI h (d a) f,g];rcases Nat.lt_or_ge k a with j|j
   ·rw[WK (by rw[Ai];omega),Wa (by rw[Ai];omega),Ai,show a-min k b.length=(a-k-1)+1 from by omega];simp only[List.eraseIdx_cons_succ,List.eraseIdx_nil,A1,HA,H8];rw[Bs];show _=_* (_* ((1-_* _)* 1));rw[fT,cJ]
   ·rw[List.eraseIdx_append_of_lt_length (by rw[Ai];omega),A1,Bs];show _=_* (_* ((1-_* _)* 1));rw[fT,cJ]
noncomputable def iG (s p n:Nat) (a:List Nat):List Nat:=a.map λb=>dk s p (n-1-b)
omit h in
theorem te (s p n:Nat) (P:List Nat):(iG s p n P).length=P.length:=by unfold iG;simp
omit h in
theorem FU (s p n:Nat) (P:List Nat) {j:Nat} (hj:j<P.length):(iG s p n P).getD j 0=dk s p (n-1-P.getD j 0):=by
 unfold iG;simp[x4,hj]
theorem MQ (n:Nat) (a:List Nat):ak s (iG s p n a):=λd=>by
 rcases Nat.lt_or_ge d a.length with b|b
 ·rw[FU _ _ _ _ b];exact fj h _
 ·rw[kP (by rw[te];omega)];have:=h.aO;omega
theorem LN (a:Nat):dk s p a≠0:=λe=>by
 have:=kZ h a;rw[e,bS]at this;exact jB (yn h) a this.symm
theorem Nz {g first:Nat} {w v:List Nat} (i:ak s w) (hn:w.length<=s-1) (j:Fix s p g first w v) {b:Nat} (n:b<(cf w v).length):
 bD s p (w.getD ((cf w v).getD b 0) 0) (yI s p first (dt s p (bO s p g first w) (gl s p (iG s p w.length (cf w v)) (iG s p w.length (cf w v)).length) g g 0) (iG s p w.length (cf w v)) b)=v.getD ((cf w v).getD b 0) 0:=by
 obtain⟨d,l⟩:∃d,d=iG s p w.length (cf w v):=⟨_,rfl⟩;obtain⟨f,r⟩:∃f,f=(cf w v).getD b 0:=⟨_,rfl⟩;rw[<-l,<-r];have t:d.length=(cf w v).length:=by rw[l,te]
 have o:ak s d:=by rw[l];exact MQ h _ _
 have F:d.getD b 0=dk s p (w.length-1-f):=by rw[l,r];exact FU _ _ _ _ n
 have G:d.getD b 0≠0:=by rw[F];exact LN h _
 have x:aR h (d.getD b 0)=loc h w.length f:=by rw[F,kZ];rfl
 have y:=pn h hn (first:=first) (err h w v);have H:(iC h w.length first (err h w v) w.length).map (·.2)=d.map (aR h):=by
  rw[l];unfold iC iG;rw[lN h i j.lt,List.map_map,List.map_map];apply A9;intro a _;show loc h w.length a=aR h (dk s p (w.length-1-a));rw[kZ];rfl
 have M:(iC h w.length first (err h w v) w.length).length=d.length:=by rw[mr,lN h i j.lt,t]
 have al:b<(iC h w.length first (err h w v) w.length).length:=by rw[M,t];exact n
 have K:(iC h w.length first (err h w v) w.length)[b]=(err h w v f* loc h w.length f^first,loc h w.length f):=by
  have e1:(cf w v)[b]'n=f:=by rw[r];simp[x4,n]
  simp only[iC,lN h i j.lt,List.getElem_map,e1]
 generalize S:iC h w.length first (err h w v) w.length=E at*
 have q:E=E.take b++E[b]::E.drop (b+1):=by rw[List.getElem_cons_drop,List.take_append_drop]
 have T:∀m,co h (gl s p d d.length) m=lam E m:=λm=>by
  rw[IC h o d.length (w5 _) m,S3,<-H];rfl
 have V:(bO s p g first w).length=g:=by unfold bO;simp
 have W:=sj h (par:=g) (first:=first) i;have X:∀m,m<g->co h (dt s p (bO s p g first w) (gl s p d d.length) g g 0) m=conv (lam E) (fB E) m:=λm N=>by
  have z:=vP h W (AP h d d.length) N;rw[V]at z;rw[z,jb];refine e8 (λk _=>T k) λk ad=>?_;rw[xa h oO,tR h i j oO,S]
 have am:=j.df;have Y:aR h (cP s p (bW s p (d.getD b 0)) (dt s p (bO s p g first w) (gl s p d d.length) g g 0))=err h w v f* loc h w.length f^first* l7 (eP (loc h w.length f)) ((E.take b++E.drop (b+1)).map (·.2)):=by
  rw[sR h (gM h) _ (fh (mw h _ _ _ _ _)),zI h (o b) G,x,gB,iA X];have A:=zg (s:=E.take b) (t:=E.drop (b+1)) (e:=E[b]) (by rw[<-q];exact y) (N:=g) (by rw[<-q,M,t];omega);rw[<-q,K]at A;exact A
 have u:aR h (mM s p first d b d.length)=loc h w.length f^first* l7 (eP (loc h w.length f)) ((E.take b++E.drop (b+1)).map (·.2)):=by
  rw[Mz h o oO G d.length (w5 _),x,S3];congr 2;rw[List.eraseIdx_eq_take_drop_succ,A1,A1,Wm,List.map_drop,Wm,List.map_drop,H]
 have B:l7 (eP (loc h w.length f)) ((E.take b++E.drop (b+1)).map (·.2))≠0:=by
  have O:l8 (E.take b++E[b]::E.drop (b+1)):=by rw[<-q];exact y
  have C:=O.Fs;rw[K]at C;exact C
 have Z:=Jd h (first:=first) o b d.length;have ab:mM s p first d b d.length≠0:=λe=>by
  rw[e,bS]at u;exact k8 (jB (mi h _ _) _) B u.symm
 have ac:aR h (yI s p first (dt s p (bO s p g first w) (gl s p d d.length) g g 0) d b)=err h w v f:=by
  unfold yI;rw[gd h (jl h _ _ (fh (mw h _ _ _ _ _))) (gM h),Y,zI h Z ab,cJ,u,cJ];generalize l7 (eP (loc h w.length f)) ((E.take b++E.drop (b+1)).map (·.2))=Q at*;have P:=k8 (jB (mi h w.length f) first) B;have D:=ie P;rw[cJ]at D;rw[D,fT]
 have L:yI s p first (dt s p (bO s p g first w) (gl s p d d.length) g g 0) d b<s:=bk h _ _
 refine ik h (jd h (i f) L) (j.lt f) ?_;rw[kQ h (i f) L,ac];show co h w f-(co h w f-co h v f)=co h v f;rw[gJ,gJ,mH,oa,<-iu,oz,cH]
end
end
end Go.Proofs.YtmnlkganmgcpbaaGreatDoor
