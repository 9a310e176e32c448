import Derived.Test.YtmnlkganmgcpbaaGreatDoorQi18
set_option maxRecDepth 100000
set_option maxHeartbeats 4000000
set_option linter.unusedVariables false
set_option linter.unusedSectionVars false
set_option linter.unusedSimpArgs false
set_option linter.defProp false
open Go.Value renaming int->I,int->zz
open Go.IntKind renaming i64->J
open Bool renaming false->R,true->wP
open Option renaming none->U,some->gk
open Go renaming World->wR,Calls->wS,madeCells->C2,run_make_row'->S0
open Go.Proofs.Tryz renaming prog->w1,underlying64->z1
open Go.RowKit renaming Hid->w2
open Go.RowKit.Below renaming refl->w3
open Nat renaming le_refl->w5,zero_le->x1,add_sub_cancel->HI
open _root_ renaming if_neg->w6,if_pos->xl
open List renaming getD->x4,replicate->y0,range->y3,map_congr_left->A9,length_replicate->S2
open Go.Proofs.Tryz
namespace Go.Proofs.YtmnlkganmgcpbaaGreatDoor
section
open Go.RowKit
theorem Cy (c s d:Int) (a:List Int) (A:Option Addr) (l:Nat) (w:wR) (v:a.length<=9223372036854775807) (g:RD w A a):
 wS w1 151 #[aU c s d,.slice A a.length l] w (au (.bool (iQ s a)) w):=by
 have q:=aa (g.alloc (.cells #[I J c,I J s,I J d] 89));clear g;generalize hn:a.length=n at*;have e:=aa hn;clear hn;go_enter func151,ntmps151;exact SK
structure eD (C S P par first:Nat):Prop where
 vf:VF C S P
 p1:1<=par
 p2:par<=S-2
 f2:first<=S-2
theorem eD.s3 {a S b c first:Nat} (h:eD a S b c first):3<=S/\S<=4096:=by
 have:=h.p1;have:=h.p2;have:=h.vf.le;omega
theorem BC (b S c d first:Nat) (w:wR) (h:eD b S c d first):
 wS w1 150 #[aU b S c,I J d,I J first] w (au (.bool wP) w):=by
 obtain⟨s3,g⟩:=h.s3;have i:=h.p1;have j:=h.p2;have k:=h.f2;have f:w2 (af w (w.alloc (.cells #[I J b,I J S,I J c] 89))):=(w3 _ _).alloc (w5 _) _;obtain⟨a,e⟩:∃a,S=a+2:=⟨S-2,by omega⟩;subst e;have e1:((a+2:Nat):Int)-2=(a:Int):=oO;clear h;go_enter func150,ntmps150;go_wp2;go_ret;exact⟨bh oT,f.out⟩
theorem kE (w:wR) (a S b c first:Nat):w2 (∀W,af (w.alloc (iB a S b c first)) W->W.cell? ⟨w.heap.size,0,U⟩=gk (I J a)/\W.cell? ⟨w.heap.size,1,U⟩=gk (I J S)/\W.cell? ⟨w.heap.size,2,U⟩=gk (I J b)/\W.cell? ⟨w.heap.size,3,U⟩=gk (I J c)/\W.cell? ⟨w.heap.size,4,U⟩=gk (I J first)):=by
 show∀W,_;intro W d;have h:an (w.alloc (iB a S b c first)) w.heap.size (mF a S b c first):=an.new _ _ _ _ rfl;exact ns (h.below d)
theorem tV (a S b c first:Nat) (d:List Nat) (n:Nat) (A:Option Addr) (l:Nat) (w:wR) (h:eD a S b c first) (hn:n=d.length) (hl:ak S d) (B:n<=9223372036854775807) (q:RD w A (zl d)):
 wS w1 112 #[bZ a S b c first,.slice A n l] w (au (.bool wP) w):=by
 have m:=aa h;have o:=kE w a S b c first
 have z:w2 (af w (w.alloc (iB a S b c first))):=(w3 _ _).alloc (w5 _) _;have v:w2 (∀W,af (w.alloc (iB a S b c first)) W->wS w1 151 #[aU a S b,.slice A n l] W (au (.bool wP) W)):=by
  show∀W,_;intro W x;have:=Cy a S b (zl d) A l W (by rw[ao];omega) (q.below (z.out.mono (w5 _)|>.trans (x.mono oS)));rw[ao,<-hn,EE hl]at this;exact this
 obtain⟨f,g,i,j,k⟩:=o.out _ (w3 _ _);clear q hl hn h;go_enter func112,ntmps112
 go_wp2_with(first
  |(go_at_call 149;refine(kq a S b _ m.out.vf.ui).mono ?_;rintro e C ⟨rfl,r⟩;rw[lH m.out.vf];have s:=aa r;clear r f g i j k;obtain⟨f,g,i,j,k⟩:=o.out _ s.out)
  |(go_at_call 150;refine(BC a S b c first _ m.out).mono ?_;rintro e D ⟨rfl,t⟩;have p:=aa (ae s.out t);clear t f g i j k;obtain⟨f,g,i,j,k⟩:=o.out _ p.out)
  |(go_at_call 151;refine(v.out _ p.out).mono ?_;rintro e E ⟨rfl,u⟩;have y:=aa (ae p.out u);clear u))
 go_ret;exact⟨rfl,dT y.out⟩
theorem BY (b S c a first n:Nat) (w:wR) (e:a<n) (f:n<S):
 wS w1 113 #[bZ b S c a first,I J n] w (au (.bool wP) w):=by
 have d:w2 (af w (w.alloc (iB b S c a first))):=(w3 _ _).alloc (w5 _) _;go_enter func113,ntmps113;go_wp2;go_ret;exact⟨rfl,d.out⟩
theorem qM (a S b g first:Nat) (w:wR) (h:eD a S b g first):
 wS w1 111 #[aU a S b,I J g,I J first] w (au (.tuple #[bZ a S b g first,I J 0]) w):=by
 have i:=aa h;have k:ag (w.alloc (eX a S b)) w.heap.size (lO a S b).toArray 89:=ag.new _ _ _ _ rfl;have l:ag ((w.alloc (eX a S b)).alloc (iB 0 0 0 0 0)) (w.heap.size+1) (mF 0 0 0 0 0).toArray 91:=ag.new _ _ _ _ oS;have m:w2 (∀W,af ((w.alloc (eX a S b)).alloc (iB 0 0 0 0 0)) W->ag W w.heap.size (lO a S b).toArray 89/\ag W (w.heap.size+1) (mF 0 0 0 0 0).toArray 91):=by
  show∀W,_;intro W n;exact⟨(k.below (ax _ _)).below n,l.below n⟩
 have B:w2 (af w ((w.alloc (eX a S b)).alloc (iB 0 0 0 0 0))):=(ax _ _).alloc oS _;clear h k l;go_enter func111,ntmps111;go_wp2_with fail
 refine(kq a S b _ i.out.vf.ui).mono ?_;rintro e C ⟨rfl,p⟩;rw[lH i.out.vf];have q:=aa p;obtain⟨c,-⟩:=m.out _ q.out;have c0:=eu c;have c1:=ia c;have o:=kt c;clear p c;go_wp2_with fail
 refine(BC a S b g first _ i.out).mono ?_;rintro e t ⟨rfl,r⟩;have s:=aa (ae q.out r);obtain⟨c,d⟩:=m.out _ s.out;clear r c0 c1 o;have c0:=eu c;have c1:=ia c;have o:=kt c;have u:=eu d;have v:=ia d;have x:=kt d;have y:=mP d;have z:=nV d;have f:∀j,t.frozen? ⟨w.heap.size+1,j,U⟩=R:=λj=>frozen_of_row _ _ _ _ _ d;have D:=f 0;have E:=f 1;have F:=f 2;have G:=f 3;have H:=f 4;have A:=aa (ae B.out s.out);clear f c d;go_wp2;exact bodyPost_ret (v:= .tuple #[bZ a S b g first,I J 0]) (by simp[results,results111,go_sem,u,v,x,y,z]) rfl ⟨rfl,((((A.out.setCell oS _).setCell oS _).setCell oS _).setCell oS _).setCell oS _⟩
structure GS (w:wR) (b c a:Nat) (e f:List Value) (S P be bl:Nat) (d:List Nat) (wr:wR):Prop where
 B:af w wr
 X:an wr b e
 Q:an wr c f
 T:dH wr S P be bl
 O:bK wr a d
 lo:w.heap.size<=a
 n1:b≠a
 n2:c≠a
 n3:be≠a
 n4:bl≠a
theorem GS.below {w:wR} {c d e:Nat} {f g:List Value} {S a i bl:Nat} {b:List Nat} {wr W:wR} (h:GS w c d e f g S a i bl b wr) (hb:af wr W):GS w c d e f g S a i bl b W:=
 ⟨ae h.B hb,h.X.below hb,h.Q.below hb,h.T.below hb,h.O.below hb,h.lo,h.n1,h.n2,h.n3,h.n4⟩
theorem GS.set {w:wR} {e f b:Nat} {g i:List Value} {S c j bl:Nat} {d:List Nat} {wr:wR} (h:GS w e f b g i S c j bl d wr) (a v:Nat):GS w e f b g i S c j bl (d.set a v) (wr.setCell ⟨b,a,U⟩ (I J (v:Int))):=
 ⟨h.B.setCell h.lo _,h.X.other _ _ h.n1,h.Q.other _ _ h.n2,h.T.setCell _ _ h.n3 h.n4,h.O.set a v,h.lo,h.n1,h.n2,h.n3,h.n4⟩
noncomputable def pG (s b first d c:Nat):List Nat:=(y3 d).map λa=>if a<c then dk s b (first+a)else 0
theorem rW (s b first a c:Nat):(pG s b first a c).length=a:=by unfold pG;simp
theorem MH (s c first b:Nat):pG s c first b 0=y0 b 0:=by
 refine dC (by rw[rW,S2]) λd a=>?_;rw[rW]at a;unfold pG;rw[bC _ _ _ a,w6 oO];simp[x4,a]
theorem MD (s b first c a:Nat) (g:a<c):(pG s b first c a).set a (dk s b (first+a))=pG s b first c (a+1):=by
 unfold pG;rw[fm _ _ _ _ g];apply A9;intro d i;by_cases e:d=a
 ·subst e;rw[xl rfl,xl oO]
 ·rw[w6 e];by_cases f:d<a
  ·rw[xl f,xl oO]
  ·rw[w6 f,w6 oO]
noncomputable def kC (s a first c:Nat):List Nat:=(y3 c).map λb=>dk s a (first+b)
theorem On (s b first a:Nat):pG s b first a a=kC s b first a:=by
 unfold pG kC;apply A9;intro d c;rw[List.mem_range]at c;rw[xl c]
theorem jX (s b first a:Nat):(kC s b first a).length=a:=by unfold kC;simp
theorem AV {c s a:Nat} (h:VF c s a) (first b:Nat):ak s (kC s a first b):=iY h λd _=>fj h _
noncomputable def j1 (s a first b:Nat):List Nat:=gH s a (kC s a first b) b
theorem Bj (c S a b first:Nat) (w:wR) (h:eD c S a b first):
 wS w1 114 #[bZ c S a b first] w (mB w (zl (j1 S a first b),0)):=by
 obtain⟨am,ap,be,bf,bi⟩:=info_parts cT;have j:=aa h;obtain⟨s3,av⟩:=h.s3;have a0:=h.p1;have F:=h.p2;have G:=h.f2;have u:=kE w c S a b first
 have y:an (w.alloc (iB c S a b first)) w.heap.size (mF c S a b first):=an.new _ _ _ _ rfl;have H:=aa y;have al:w2 (af w (w.alloc (iB c S a b first))):=(w3 _ _).alloc (w5 _) _;have bq:b<=4094:=oO;have bo:first<=4094:=oO
 obtain⟨l,m,n,o,p⟩:=u.out _ (w3 _ _);have Q:=S0 (P:=w1) 64 3 (I J 0) 8 z1 cT rfl .i64 .i64 b oO oO;have K:w2 (∀W,wS w1 112 #[bZ c S a b first,.slice U 0 0] W (au (.bool wP) W)):=by
  show∀W,_;intro W;exact tV c S a b first [] 0 U 0 W h rfl (λr=>by simp[x4];omega) oO (RD.dw _ _)
 clear h y F G;go_enter func114,ntmps114
 go_wp2_with(first
  |(go_at_call 112;refine(K.out _).mono ?_;rintro e a1 ⟨rfl,B⟩;have x:=aa B;clear B l m n o p;obtain⟨l,m,n,o,p⟩:=u.out _ x.out)
  |(go_at_call 119;refine(vD c S a _ j.out.vf).mono ?_;rintro e f ⟨d,bl,rfl,i,C,-,-⟩;have z:=aa i;have q:=aa (ae x.out C);clear C i l m n o p;obtain⟨l,m,n,o,p⟩:=u.out (f.alloc (fe c S d bl)) (ah q.out _)))
 have T:w2 (w.heap.size<f.heap.size):=by show _<_;have:=q.out.size;simp at this;omega
 have V:w2 (GS w w.heap.size f.heap.size (f.heap.size+1) (mF c S a b first) (ji c S d bl) S a d bl (pG S a first b 0) ((f.alloc (fe c S d bl)).alloc (.cells (C2 #[I J 0] b) 3))):=by
  have a2:=T.out;have i:=z.out;refine⟨ah (ah (ae al.out q.out) _) _,((H.out.below q.out).alloc _).alloc _,(an.new _ _ _ _ rfl).alloc _,(i.alloc _).alloc _,?_,by omega,by omega,by omega,by have:=i.1;omega,by have:=i.2.1;omega⟩;rw[MH];exact bK.made _ _ _ _ oS
 generalize L:(f.alloc (fe c S d bl)).alloc (.cells (C2 #[I J 0] b) 3)=a3 at*;clear L l m n o p x z q;generalize X:f.heap.size=s at*;clear X;clear Q;go_loopw [18] (λr wr=>∃k:Nat,k<=b/\r=I J k/\w2 (GS w w.heap.size s (s+1) (mF c S a b first) (ji c S d bl) S a d bl (pG S a first b k) wr)) (λr _=>b-(intOf r).toNat)
 case atStart=>exact⟨0,x1 _,rfl,V⟩
 case round=>
  obtain⟨k,a4,rfl,g⟩:=hrel;by_cases D:k<b
  ·obtain⟨a5,a6,a7,a8⟩:=ft g.out.Q;obtain⟨c0,c1,M,N,O⟩:=ns g.out.X;have Y:w2 (wS w1 152 #[gG c S d bl,I J ((first:Int)+(k:Int))] wr (au (I J ((dk S a (first+k):Nat):Int)) wr)):=by
    have:=nS c S a d bl (first+k) wr j.out.vf oO g.out.T;show wS _ _ _ _ _;simpa using this
   have Z:w2 (_=_):=MD S a first b k D
   have ab:w2 (k<(pG S a first b k).length):=by show _<_;rw[rW];exact D
   generalize dk S a (first+k)=a9 at*;go_wp2_with(go_at_call 152;refine Y.out.mono ?_;rintro e P ⟨rfl,t⟩;have E:=aa (g.out.below t);clear t;obtain⟨bb,bd⟩:=E.out.O.2 k ab.out)
   exact⟨⟨k+1,by omega,by go_num,by rw[<-Z.out];exact E.out.set _ _⟩,by simp[intOf];omega⟩
  ·obtain rfl:k=b:=oO;obtain⟨c0,c1,M,N,O⟩:=ns g.out.X;have ac:w2 (wS w1 153 #[aU c S a,.slice (gk ⟨s+1,0,U⟩) k k] wr (mB wr (zl (j1 S a first k),0))):=by
    have A:=g.out.O.rd;rw[On]at A;have:=AB c S a ⟨gk ⟨s+1,0,U⟩,k,k,zl (kC S a first k)⟩ wr j.out.vf.ui ⟨by rw[ao,jX],by show k<=_;omega,A,w5 _,by show k<=maxLen;unfold maxLen;omega⟩;have e:jC c S a (zl (kC S a first k))=(zl (j1 S a first k),0):=by
     unfold jC j1;rw[lH j.out.vf,EE (AV j.out.vf _ _),xl oS,w6 (by rw[ao,jX];omega),ao,jX,tG];simp
    show wS _ _ _ _ _;rw[<-e];exact this
   go_wp2_with(go_at_call 153;refine ac.out.mono ?_;rintro e P ⟨v,rfl,ad,t⟩)
   go_ret2
   exact mB.mk rfl ad (ae g.out.B t)
end
section
open Fl
section
variable {K : Type} [Fl K]
def mx (a:K) (f:Nat->K):Nat->K:=λn=>sh f n-a* f n
theorem Sk {b:K} {f:Nat->K} {d:Nat} (h:dI d f):dI (d+1) (mx b f):=by
 intro a e;obtain⟨a,rfl⟩:∃k,a=k+1:=⟨a-1,by omega⟩;show f a-b* f (a+1)=0;rw[h a oO,h (a+1) oO,bw,du]
theorem Sa (x:K) (f:Nat->K) (n:Nat):cE x (sh f) (n+1)=x* cE x f n:=by
 rw[dG];show 0+x* cE x (cY (sh f)) n=_;rw[cH];rfl
theorem Sm {x a:K} {f:Nat->K} {d:Nat} (h:dI d f):cE x (mx a f) (d+1)=(x-a)* cE x f d:=by
 rw[show cE x (mx a f) (d+1)=cE x (λk=>sh f k-a* f k) (d+1)from rfl,AE x (sh f) (λk=>a* f k),Sa,tt,ig h (Nat.le_succ d),Ob]
theorem Iu (a:K):dI 1 (ju a):=λb d=>by unfold ju;rw[w6 oO]
theorem PY (x a:K):cE x (ju a) 1=a:=by
 rw[dG];show a+x* 0=a;rw[bw,bB]
def rv (n:Nat) (b:Nat->K):Nat->K:=λa=>if a<n then b (n-1-a)else 0
theorem Sj (n:Nat) (a:Nat->K):dI n (rv n a):=λb d=>by unfold rv;rw[w6 oO]
theorem G9 (a b:K):a+b-b=a:=by rw[gJ,iu,<-gJ,du,bB]
end
def rj (b:List Nat) (c a:Nat):Nat:=if a=0 then c else b.getD (a-1) 0
theorem rI {b:List Nat} {a v:Nat} (d:a<b.length):(b.set a v).getD a 0=v:=by simp[x4,d]
theorem qV {b:List Nat} {d a v:Nat} (h:d≠a):(b.set d v).getD a 0=b.getD a 0:=by simp[x4,List.getElem?_set_ne h]
theorem Qu (s p:Nat) (b:List Nat) (d c k:Nat) (l:k<=b.length) (a:Nat):
 (eL s p b d c k).getD a 0=if a<k then bD s p (rj b c a) (aA s p (b.getD a 0) d)else if a=k then rj b c a else 0:=by
 induction k generalizing a with
 |zero=>
  show((y0 (b.length+1) 0).set 0 c).getD a 0=_;rw[w6 oO];by_cases h:a=0
  ·subst h;rw[xl rfl,rI oS];rfl
  ·rw[w6 h,qV oO];by_cases e:a<b.length+1
   ·simp[x4,e]
   ·simp[x4,e]
 |succ k f=>
  have f:=f oO;have j:=ru s p b d c k;show(((eL s p b d c k).set k (bD s p ((eL s p b d c k).getD k 0) (aA s p (b.getD k 0) d))).set (k+1) (b.getD k 0)).getD a 0=_;by_cases g:a=k+1
  ·subst g;rw[rI (by rw[List.length_set,j];omega),w6 oO,xl rfl];rfl
  ·rw[qV (Ne.symm g)];by_cases e:a=k
   ·subst e;rw[rI (by rw[j];omega),xl oO,f a,w6 oO,xl rfl]
   ·rw[qV (Ne.symm e),f a];by_cases i:a<k
    ·rw[xl i,xl oO]
    ·rw[w6 i,w6 e,w6 oO,w6 g]
theorem RL (s p:Nat) (a:List Nat) (b c k:Nat) (d:k<a.length):(eL s p a b c (k+1)).getD (k+1) 0=a.getD k 0:=by
 show(((eL s p a b c k).set k _).set (k+1) (a.getD k 0)).getD (k+1) 0=_;rw[x4,List.getElem?_set_self (by rw[List.length_set,ru];omega)];rfl
theorem KZ (s p:Nat) (a:List Nat):∀k,(gH s p a k).getD k 0=1:=by
 intro k
 induction k with
 |zero=>rfl
 |succ k b=>
  show(oA s p (gH s p a k) (a.getD k 0) 0).getD (k+1) 0=1;unfold oA;have hl:=qp s p a k;rw[hl,RL _ _ _ _ _ _ oO,b]
structure wk (s p par first:Nat) (data w:List Nat):Prop where
 lt:ak s w
 ln:w.length=data.length+par
 pre:∀a,a<data.length->w.getD a 0=data.getD a 0
 cw:∀b,b<par->iK s p first w b=0
noncomputable def eo (a:Nat) (data:List Nat):List Nat:=(y3 (data.length+a)).map λb=>if b<a then 0 else data.getD (data.length+a-1-b) 0
noncomputable def gR (s p a first:Nat) (data:List Nat):List Nat:=fK s p (eK (eo a data)) (j1 s p first a)
noncomputable def jY (s p b first:Nat) (data:List Nat):List Nat:=(y3 (data.length+b)).map λa=>if a<data.length then data.getD a 0 else bD s p 0 ((gR s p b first data).getD (data.length+b-1-a) 0)
theorem nH (a:Nat) (data:List Nat):(eo a data).length=data.length+a:=by unfold eo;simp
theorem rR (s p a first:Nat) (data:List Nat):(jY s p a first data).length=data.length+a:=by unfold jY;simp
section
variable {c s p : Nat} (h : VF c s p)
def vl (x:KF h) (a:List Nat):KF h:=cE x (co h a) a.length
include h
theorem Tj (x:KF h) {a:List Nat} {n:Nat} (hn:a.length<=n):cE x (co h a) n=vl h x a:=ig (fO h a) hn
theorem OZ {x:KF h} {a:List Nat} {f:Nat->KF h} (e:∀b,co h a b=f b) {n:Nat} (d:dI n f):vl h x a=cE x f n:=by
 have e1:cE x (co h a) (max n a.length)=cE x f (max n a.length):=iA λb _=>e b;rw[<-Tj h x (Nat.le_max_right n a.length),e1,ig d (Nat.le_max_left _ _)]
theorem Hs {x:Nat} (b:x<s) {a:List Nat} (hl:ak s a):aR h (cP s p x a)=vl h (aR h x) a:=sR h b a (fh hl)
theorem P2 {b:List Nat} (c a:Nat):aR h (rj b c a)=sh (co h b) a+ju (aR h c) a:=by
 unfold rj;cases a with
 |zero=>rw[xl rfl];show _=0+aR h c;rw[cH]
 |succ a=>rw[w6 oO];show aR h (b.getD a 0)=co h b a+0;rw[bB];rfl
theorem QM {b:List Nat} (hl:ak s b) {d c:Nat} (g:d<s) (hc:c<s) (a:Nat):co h (oA s p b d c) a=mx (aR h d) (co h b) a+ju (aR h c) a:=by
 have j:∀a,rj b c a<s:=λa=>by
  unfold rj;split
  ·exact hc
  ·exact hl _
 have i:mx (aR h d) (co h b) a+ju (aR h c) a=aR h (rj b c a)-aR h d* co h b a:=by
  rw[P2];show sh (co h b) a-_+_=_;simp only[gJ]
  ac_rfl
 rw[i];show aR h ((oA s p b d c).getD a 0)=_;unfold oA;rw[Qu _ _ _ _ _ _ (w5 _)];by_cases e:a<b.length
 ·rw[xl e,kQ h (j a) (bk h _ _),gd h (hl a) g,cC];rfl
 ·rw[w6 e,fO h b a oO,bw,fX];by_cases f:a=b.length
  ·rw[xl f]
  ·rw[w6 f,bS];unfold rj;rw[w6 oO,kP oO,bS]
theorem PZ {a:List Nat} (hl:ak s a) {b c:Nat} (e:b<s) (hc:c<s) (x:KF h):vl h x (oA s p a b c)=(x-aR h b)* vl h x a+aR h c:=by
 rw[OZ h (QM h hl e hc) (n:=a.length+1) (λd f=>by
  show mx (aR h b) (co h a) d+ju (aR h c) d=0
  rw[Sk (fO h a) d f,Iu (aR h c) d oO,bB])]
 rw[qe,Sm (fO h a),ig (Iu (aR h c)) oO,PY];rfl
theorem CV {a:List Nat} (b:ak s a) (k:Nat) (x:KF h):vl h x (gH s p a (k+1))=(x-aR h (a.getD k 0))* vl h x (gH s p a k):=by
 show vl h x (oA s p (gH s p a k) (a.getD k 0) 0)=_;rw[PZ h (ql h b k) (b k) (by have:=h.aO;omega),bS,bB]
theorem Db (a:List Nat) (x:KF h):vl h x (gH s p a 0)=1:=by
 show cE x (co h [1]) 1=1;rw[dG];show aR h 1+x* 0=1;rw[lf,bw,bB]
theorem Mb {b:List Nat} (d:ak s b) {x:Nat} (g:x<s):∀k,cP s p x (gH s p b k)=0↔∃a,a<k/\b.getD a 0=x:=by
 have e:∀k,cP s p x (gH s p b k)=0↔vl h (aR h x) (gH s p b k)=0:=λk=>by
  rw[<-Hs h g (ql h d k)];constructor
  ·intro e;rw[e,bS]
  ·intro e;rw[<-bS h]at e;exact ik h (jl h x _ (fh (ql h d k))) (by have:=h.aO;omega) e
 intro k;rw[e]
 induction k with
 |zero=>
  rw[Db];constructor
  ·intro e1;exact absurd e1 (λe2=>by
    rw[<-lf h,<-bS h]at e2;have:=ik h (by have:=h.aO;omega) (by have:=h.aO;omega) e2
    omega)
  ·rintro⟨a,i,_⟩;omega
 |succ k j=>
  rw[CV h d];constructor
  ·intro e1;rcases Bu e1 with e2|e2
   ·rw[jg]at e2;exact⟨k,by omega,(ik h g (d k) e2).symm⟩
   ·obtain⟨a,i,f⟩:=j.1 e2;exact⟨a,by omega,f⟩
  ·rintro⟨a,i,f⟩;by_cases l:a=k
   ·subst l;rw[f,du,cG]
   ·rw[j.2 ⟨a,by omega,f⟩,bw]
theorem we {x:Nat} (d:x<s) {w:List Nat} (b:ak s w):∀k,aR h (lj s p x w k)=cE (aR h x) (rv k (co h w)) k
 |0=>bS h
 |k+1=>by
  show aR h (bU s p (aA s p (lj s p x w k) x) (w.getD k 0))=rv (k+1) (co h w) 0+aR h x* cE (aR h x) (cY (rv (k+1) (co h w))) k;have e1:rv (k+1) (co h w) 0=co h w k:=by unfold rv;rw[xl oO];rfl
  have e2:cE (aR h x) (cY (rv (k+1) (co h w))) k=cE (aR h x) (rv k (co h w)) k:=iA λa e=>by
   show rv (k+1) (co h w) (a+1)=_;unfold rv;rw[xl oO,xl e,show k+1-1-(a+1)=k-1-a from by omega]
  rw[qd h (bk h _ _) (b k),gd h (uG h b k) d,we d b k,e1,e2,gT,cC];rfl
theorem wQ (first a:Nat):ak s (j1 s p first a):=ql h (AV h first a) a
omit h in
theorem iq (first par:Nat):(j1 s p first par).length=par+1:=qp _ _ _ _
omit h in
theorem Bf (first par:Nat):(j1 s p first par).getD par 0=1:=KZ _ _ _ _
theorem M6 (first a:Nat) {b:Nat} (e:b<a):cE (aR h (dk s p (first+b))) (co h (j1 s p first a)) (a+1)=0:=by
 have f:cP s p (dk s p (first+b)) (j1 s p first a)=0:=(Mb h (AV h first a) (fj h _) a).2 ⟨b,e,by unfold kC;exact bC _ _ _ e⟩;have d:=Hs h (fj h (first+b)) (wQ h first a);rw[f,bS]at d;unfold vl at d;rw[iq]at d;exact d.symm
theorem pa {b:Nat} {data:List Nat} (a:ak s data):ak s (eo b data):=iY h λd _=>by
 split
 ·have:=h.aO;omega
 ·exact a _
theorem tM {b first:Nat} {data:List Nat} (a:ak s data):ak s (gR s p b first data):=zG h (ky (pa h a))
theorem lT {par first:Nat} {data:List Nat} (a:ak s data):(gR s p par first data).length<=par:=by
 have:=Bl h (a:=eK (eo par data)) (b:=j1 s p first par) (ky (pa h a)) (wQ h first par) (by rw[iq];omega) (by rw[iq,HI,Bf];omega);rw[iq]at this;unfold gR;omega
theorem AH {b first:Nat} {data:List Nat} (a:ak s data):ak s (jY s p b first data):=iY h λd _=>by
 split
 ·exact a _
 ·exact jd h (by have:=h.aO;omega) (tM h a _)
theorem I2 {par first:Nat} {data:List Nat} (b:ak s data):wk s p par first data (jY s p par first data):=by
 refine⟨AH h b,rR _ _ _ _ _,λd f=>?_,λi l=>?_⟩
 ·unfold jY;rw[bC _ _ _ oO,xl f]
 ·have m:=fj h (first+i);rw[<-pe h (AO h (AH h b) i)];unfold iK;rw[we h m (AH h b),rR];have o:(j1 s p first par).getD ((j1 s p first par).length-1) 0≠0:=by rw[iq,HI,Bf];omega
  have e:∀a,rv (data.length+par) (co h (jY s p par first data)) a=conv (co h (nu s p (eK (eo par data)) (j1 s p first par))) (co h (j1 s p first par)) a:=by
   intro a;have k:=div_eq h (a:=eK (eo par data)) (b:=j1 s p first par) (ky (pa h b)) (wQ h first par) (by rw[iq];omega) a;rw[si]at k;have e1:rv (data.length+par) (co h (jY s p par first data)) a=co h (eo par data) a-co h (gR s p par first data) a:=by
    unfold rv;by_cases g:a<data.length+par
    ·rw[xl g];show aR h ((jY s p par first data).getD (data.length+par-1-a) 0)=aR h ((eo par data).getD a 0)-_;unfold jY eo;rw[bC _ _ _ oO,bC _ _ _ g];by_cases j:a<par
     ·rw[w6 oO,xl j,kQ h (by have:=h.aO;omega) (tM h b _),show data.length+par-1-(data.length+par-1-a)=a from by omega];rfl
     ·rw[xl oO,w6 j,fO h _ a (by have:=lT h (par:=par) (first:=first) b;omega),fX]
    ·rw[w6 g,fO h _ a (by rw[nH];omega),fO h _ a (by have:=lT h (par:=par) (first:=first) b;omega),du]
   rw[e1,k];exact G9 _ _
  have n:dI (data.length+par) (conv (co h (nu s p (eK (eo par data)) (j1 s p first par))) (co h (j1 s p first par))):=λd f=>by rw[<-e d];exact Sj _ _ d f
  rw[iA λd _=>e d,<-ig n (m:=(data.length+par+(nu s p (eK (eo par data)) (j1 s p first par)).length)+(par+1)) oO,
   DG ((fO h _).mono oO) ((fO h _).mono (by rw[iq];exact w5 _)),M6 h first par l,bw]
theorem wk.uniq {d first:Nat} {data w k:List Nat} (hn:d<=s-1) (j:wk s p d first data w) (l:wk s p d first data k):w=k:=by
 refine dC (by rw[j.ln,l.ln]) λi z=>?_;rw[j.ln]at z;by_cases q:i<data.length
 ·rw[j.pre i q,l.pre i q]
 ·let f:Nat->KF h:=λg=>rv (data.length+d) (co h w) g-rv (data.length+d) (co h k) g
  have r:dI d f:=λg n=>by
   show rv (data.length+d) (co h w) g-rv (data.length+d) (co h k) g=0;unfold rv;by_cases m:g<data.length+d
   ·rw[xl m,xl m];have e1:=j.pre (data.length+d-1-g) oO;have e2:=l.pre (data.length+d-1-g) oO;unfold co;rw[e1,e2,du]
   ·rw[w6 m,w6 m,du]
  have A:=xu r ((y3 d).map λg=>alpha h^(first+g))
   (ni (λa B b hb e=>(pj h).inj (by have:=List.mem_range.1 B;omega) (by have:=List.mem_range.1 hb;omega) (kG (jB (yn h) first) (by rw[<-iO,<-iO];exact e))) List.nodup_range) oS (λx C=>by
    obtain⟨g,n,rfl⟩:=List.mem_map.1 C;have n:=List.mem_range.1 n;rw[<-ig r (Nat.le_add_left d data.length)];show cE _ (λg=>rv (data.length+d) (co h w) g-rv (data.length+d) (co h k) g) _=0;have t:=j.cw g n;have u:=l.cw g n;unfold iK at t u;have v:=we h (fj h (first+g)) j.lt w.length;have y:=we h (fj h (first+g)) l.lt k.length;rw[t,bS,kZ,j.ln]at v;rw[u,bS,kZ,l.ln]at y
    rw[AE,<-v,<-y,du])
  have m:=A (data.length+d-1-i);have o:rv (data.length+d) (co h w) (data.length+d-1-i)-rv (data.length+d) (co h k) (data.length+d-1-i)=0:=m;rw[jg]at o;unfold rv at o;rw[xl oO,xl oO,show data.length+d-1-(data.length+d-1-i)=i from by omega]at o;exact ik h (j.lt i) (l.lt i) o
end
end
section
open Go.RowKit
theorem K1 (W:wR) (b n i:Nat) (d:Addr) (a:List Nat) (hn:n=a.length) (o:n<=b) (s:d.block<W.heap.size) (p:∀c,c<(zl a).length->W.cell? (d.add c)=gk (I J ((zl a).getD c 0))):
 ∃e,(Builtin.copy_ #[64,64] 3 #[.slice (gk ⟨W.heap.size,0,U⟩) b b,.slice (gk d) n i]).run w1 (W.alloc (.cells (C2 #[I J 0] b) 3))= .ok (goInt n) e/\bK e W.heap.size (a++y0 (b-n) 0)/\af W e:=by
 have f:n=((zl a).map (zz .i64)).length:=by rw[List.length_map,ao];exact hn
 have t:(C2 #[zz .i64 0] b)=(y0 b (zz .i64 0)).toArray:=by
  apply Array.ext';rw[toList_madeCells_one]
 have m:af W (W.alloc (.cells (C2 #[I J 0] b) 3)):=ax _ _;have j:(W.alloc (.cells (C2 #[I J 0] b) 3)).heap[W.heap.size]?=gk (.cells (y0 b (zz .i64 0)).toArray 3 (0,0)):=by
  rw[<-t];exact heap_alloc_new W (.cells (C2 #[zz .i64 0] b) 3)
 have g:=run_copy_row (P:=w1) (W.alloc (.cells (C2 #[I J 0] b) 3)) 64 64 3 3 W.heap.size 0 b b d n i _ _ ((zl a).map (zz .i64)) z1 KV j (by rw[<-f];exact(Nat.min_eq_left o).symm) (λc v k=>by
  rw[List.getElem?_map]at k;obtain⟨x,l,rfl⟩:=Option.map_eq_some_iff.1 k;have q:=(List.getElem?_eq_some_iff.1 l).1;rw[m.cell (by rw[aD];exact s),p c q]
  simp[x4,l]) (by rw[<-f];simp;omega) (KR a)
 rw[<-f]at g;have r:(List.take 0 (y0 b (zz .i64 0)).toArray.toList++(zl a).map (zz .i64)++List.drop (0+n) (y0 b (zz .i64 0)).toArray.toList).toArray=ep (a++y0 (b-n) 0):=by
  unfold ep;apply congrArg;rw[List.take_zero,List.nil_append,List.map_append,Nat.zero_add,List.drop_replicate,List.map_replicate];congr 1;unfold zl;rw[List.map_map];rfl
 rw[r]at g;exact⟨_,g,bK.of_heap (setRow_heap _ _ _ _ _ _ j),m.trans (below_setRow (w3 _ _) (w5 _) _)⟩
def um (N:Nat) (data:List Nat) (b:Nat):List Nat:=(y3 N).map λa=>if N-1-a<b then data.getD (N-1-a) 0 else 0
theorem ug (N:Nat) (data:List Nat) (a:Nat):(um N data a).length=N:=by unfold um;simp
theorem NX (N:Nat) (data:List Nat):um N data 0=y0 N 0:=by
 refine dC (by rw[ug,S2]) λb a=>?_;rw[ug]at a;unfold um;rw[bC _ _ _ a,w6 oO];simp[x4,a]
theorem OK (N:Nat) (data:List Nat) (a:Nat) (f:a<N):(um N data a).set (N-1-a) (data.getD a 0)=um N data (a+1):=by
 unfold um;rw[fm _ _ _ _ oO];apply A9;intro b c;have c:=List.mem_range.1 c;by_cases e:b=N-1-a
 ·rw[xl e,xl oO,show N-1-b=a from by omega]
 ·rw[w6 e];by_cases d:N-1-b<a
  ·rw[xl d,xl oO]
  ·rw[w6 d,w6 oO]
theorem Rf (a:Nat) (data:List Nat):um (data.length+a) data data.length=eo a data:=by
 unfold um eo;apply A9;intro d b;have b:=List.mem_range.1 b;by_cases c:d<a
 ·rw[xl c,w6 oO]
 ·rw[w6 c,xl oO]
noncomputable def qh (s b N:Nat) (data d:List Nat) (c:Nat):List Nat:=(y3 N).map λa=>if N-1-a<c then bD s b 0 (d.getD (N-1-a) 0)else if a<data.length then data.getD a 0 else 0
theorem tE (s a N:Nat) (data c:List Nat) (b:Nat):(qh s a N data c b).length=N:=by unfold qh;simp
theorem Pj (s c N:Nat) (data e:List Nat) (f:data.length<=N):data++y0 (N-data.length) 0=qh s c N data e 0:=by
 refine dC (by rw[tE,List.length_append,S2];omega) λa d=>?_;rw[List.length_append,S2]at d;unfold qh;rw[bC _ _ _ oO,w6 oO];by_cases b:a<data.length
 ·rw[xl b];simp[x4,List.getElem?_append_left b]
 ·rw[w6 b];simp[x4,List.getElem?_append_right (show data.length<=a from by omega),show a-data.length<N-data.length from by omega]
theorem Pk (s c N:Nat) (data d:List Nat) (a:Nat) (i:a<N):(qh s c N data d a).set (N-1-a) (bD s c 0 (d.getD a 0))=qh s c N data d (a+1):=by
 unfold qh;rw[fm _ _ _ _ oO];apply A9;intro b f;have f:=List.mem_range.1 f;by_cases e:b=N-1-a
 ·rw[xl e,xl oO,show N-1-b=a from by omega]
 ·rw[w6 e];by_cases g:N-1-b<a
  ·rw[xl g,xl oO]
  ·rw[w6 g,w6 (show¬N-1-b<a+1 by omega)]
theorem Qf {c s a:Nat} (h:VF c s a) {par first:Nat} {data:List Nat} (g:ak s data):qh s a (data.length+par) data (gR s a par first data) (gR s a par first data).length=jY s a par first data:=by
 have hl:=lT h (par:=par) (first:=first) g;unfold qh jY;apply A9;intro d e;have e:=List.mem_range.1 e;by_cases b:d<data.length
 ·rw[xl b,w6 oO,xl b]
 ·rw[w6 b,w6 b];by_cases f:data.length+par-1-d<(gR s a par first data).length
  ·rw[xl f]
  ·rw[w6 f,kP oO];exact(ik h (jd h (by have:=h.aO;omega) (by have:=h.aO;omega)) (by have:=h.aO;omega) (by rw[kQ h (by have:=h.aO;omega) (by have:=h.aO;omega),du,bS])).symm
theorem F8 (d S c:Nat) (a b:List Nat) (v u:Value) (w:wR) (h:VF d S c) (k:ak S a) (l:dm a) (m:a.length<=4097) (hb:ak S b) (n:dm b) (o:b.length<=4097) (t:b≠[]) (p:az w v (zl a)) (r:az w u (zl b)):
 wS w1 115 #[aU d S c,v,u] w λe f=>∃x y,e= .returned (.tuple #[x,y,I J 0])/\az f y (zl (fK S c a b))/\af w f:=by
 obtain⟨q,rfl,hq,z⟩:=p.sl;obtain⟨j,rfl,s,A⟩:=r.sl;have:=Hh d S c q j w h.ui hq s;rw[z,A]at this;refine this.mono ?_;rintro e f ⟨x,y,g,C,i,B⟩;have e1:mh d S c (zl a) (zl b)=(zl (nu S c a b),zl (fK S c a b),0):=by
  unfold mh;rw[show qw d S c (zl a)=wP from by unfold qw;rw[lH h,ID k m l];rfl,show qw d S c (zl b)=wP from by unfold qw;rw[lH h,ID hb o n];rfl,tG,tG,w6 (λe=>t (L9 e))];rfl
 rw[e1]at g i;exact⟨x,y,g,i,B⟩
theorem L7 (b S a x:Nat) (w:wR) (h:VF b S a) (d:x<S):
 wS w1 117 #[aU b S a,I J 0,I J x] w (au (.tuple #[I J ((bD S a 0 x:Nat):Int),I J 0]) w):=by
 have:=PR b S a 0 x w (by have:=h.le;omega) h.ui;refine this.mono λe f c=>⟨?_,c.2⟩;rw[c.1];have e1:Ea b S a 0 x=(((bD S a 0 x:Nat):Int),0):=by
  unfold Ea;have:=sE h (A:=0) (B:=x) (by have:=h.aO;omega) d;rw[xl (by simpa using this)];simp
 rw[e1]
theorem xn (f S b a first:Nat) (data:List Nat) (m:Nat) (A:Option Addr) (O:Nat) (w:wR) (h:eD f S b a first) (Y:m=data.length) (hl:ak S data) (Z:1<=m) (P:m+a<=S-1) (Q:RD w A (zl data)):
 wS w1 62 #[bZ f S b a first,.slice A m O] w (mB w (zl (jY S b a first data),0)):=by
 obtain⟨di,ca,d3,d4,d5⟩:=info_parts cT;have n:=aa h;obtain⟨s3,dl⟩:=h.s3;have d6:=h.p1;have E:=kE w f S b a first
 have b5:w2 (af w (w.alloc (iB f S b a first))):=(w3 _ _).alloc (w5 _) _;obtain⟨N,a1⟩:∃N,m+a=N:=⟨_,rfl⟩;have d7:(m:Int)+(a:Int)=(N:Int):=oO;have d8:N<=4095:=oO;have co:m<=N:=oO;obtain⟨T,rfl,G,j⟩:=Q (by rw[ao];omega);have a2:=aa Q;have da:=aa G;have V:=aa hl;have g:=aa Y;have H:=aa a1;have b9:w2 (∀W,wS w1 113 #[bZ f S b a first,I J N] W (au (.bool wP) W)):=λW=>BY f S b a first N W oO oO
 have b6:w2 (∀W,af w W->wS w1 112 #[bZ f S b a first,.slice (gk T) m O] W (au (.bool wP) W)):=λW r=>tV f S b a first data m (gk T) O W h Y hl oO (Q.below r)
 have cp:=S0 (P:=w1) 64 3 (I J 0) 8 z1 cT rfl .i64 .i64 N oO oO;have cb:((m:Int)==0)=R:=by rw[beq_eq_false_iff_ne];omega
 obtain⟨s,t,v,z,B⟩:=E.out _ (w3 _ _);clear h hl Q G j Y a1 P;go_enter func62,ntmps62
 go_wp2_with(first
  |(go_at_call 112;refine(b6.out _ b5.out).mono ?_;rintro e dn ⟨rfl,a9⟩;have ac:=aa a9;clear a9 s t v z B;obtain⟨s,t,v,z,B⟩:=E.out _ ac.out)
  |(go_at_call 113;refine(b9.out _).mono ?_;rintro e ds ⟨rfl,bb⟩;have ad:=aa (ae ac.out bb);clear bb s t v z B;obtain⟨s,t,v,z,B⟩:=E.out _ ad.out)
  |(go_at_call 114;refine(Bj f S b a first _ n.out).mono ?_;rintro e o ⟨a3,rfl,bd,be⟩;have bf:=aa bd;have F:=aa (ae ad.out be);clear be bd s t v z B;obtain⟨s,t,v,z,B⟩:=E.out _ F.out))
 clear s t v z B ac ad cb;have bi:w2 (af o (o.alloc (.cells (C2 #[I J 0] N) 3))/\bK (o.alloc (.cells (C2 #[I J 0] N) 3)) o.heap.size (um N data 0)):=by
  rw[NX];exact⟨ax _ _,bK.made _ _ _ _ rfl⟩
 have bo:w2 (∀W,af o W->af w W):=λW r=>ae (ae b5.out F.out) r;go_loopw [51] (λC wr=>∃d:Nat,d<=m/\C=I J d/\w2 (af o wr/\bK wr o.heap.size (um N data d))) (λC _=>m-(intOf C).toNat)
 case atStart=>exact⟨0,x1 _,rfl,bi⟩
 case round=>
  obtain⟨d,ca,rfl,l⟩:=hrel;by_cases cq:d<m
  ·obtain⟨cr,e,G,j⟩:=(a2.out.below (bo.out _ l.out.1)) (by rw[ao,<-g.out];omega);cases e;have ab:=j d (by rw[ao,<-g.out];exact cq);rw[bT]at ab;have L:w2 (_=_):=OK N data d oO;obtain⟨c,K⟩:∃c,c=N-1-d:=⟨_,rfl⟩;have cs:(N:Int)-1-(d:Int)=(c:Int):=oO;have al:c<N:=oO;rw[<-K]at L;obtain⟨c1,ce⟩:=l.out.2.2 c (by rw[ug];exact al);generalize data.getD d 0=y at*;generalize am:(um N data d).getD c 0=u at*;clear j K am G;go_wp2;exact⟨⟨d+1,by omega,by go_num,by rw[<-L.out];exact⟨l.out.1.setCell (w5 _) _,l.out.2.set _ _⟩⟩,by simp[intOf];omega⟩
  ·have cv:d=m:=oO;subst cv;have cx:w2 (bK wr o.heap.size (eo a data)):=by
    have:=l.out.2;rw[<-H.out,g.out,Rf]at this;exact this
   have ap:=aa (bo.out _ l.out.1);have cy:w2 (az wr a3 (zl (j1 S b first a))):=bf.out.below l.out.1;have bq:N=(eo a data).length:=by rw[nH,<-g.out];exact H.out.symm
   have c2:=aa bq;have HC:w2 (∀W,af wr W->W.cell? ⟨w.heap.size,0,U⟩=gk (I J f)/\W.cell? ⟨w.heap.size,1,U⟩=gk (I J S)/\W.cell? ⟨w.heap.size,2,U⟩=gk (I J b)):=by
    show∀W,_;intro W r;obtain⟨a4,Z,P,-⟩:=E.out _ ((F.out.trans (l.out.1.mono F.out.size)).trans (r.mono (Nat.le_trans F.out.size l.out.1.size)));exact⟨a4,Z,P⟩
   clear bq bi bf F b9 b6 E;go_wp2;refine yO (af wr) [1,2,3,5,0,4,6,0,7,8,9,10,11,12,13] (ai (w3 _ _)) ?_
   repeat refine zO HC.out ?_
   refine zZ ?_;refine(DB (eo a data) N c2.out _ N _ oO (w5 _) (cx.out.below (ai (w3 _ _))).rd).mono ?_;rintro e a5 ⟨ch,rfl,bs,bt⟩;have c3:=aa bs;have av:w2 (af wr a5):=ae (ai (w3 _ _)) bt;clear bs bt;refine⟨_,rfl,av.out,jO ?_⟩
   repeat refine zO HC.out ?_
   refine zZ ?_;refine(F8 f S b (eK (eo a data)) (j1 S b first a) ch a3 a5 n.out.vf (ky (pa n.out.vf V.out)) (my _) (by rw[kf];have:=nH a data;have:=PG (eo a data) (eo a data).length;have:=H.out;have:=g.out;omega) (wQ n.out.vf first a) (.inr (by rw[iq,HI,Bf];omega)) (by rw[iq];omega) (λe=>by have:=iq (s:=S) (p:=b) first a;rw[e]at this;simp at this) c3.out (cy.out.below av.out)).mono ?_;rintro e i ⟨dv,ci,rfl,bv,bx⟩;have bz:w2 (az i ci (zl (gR S b a first data))):=bv;have M:=aa (ae av.out bx);clear bv bx;refine⟨_,rfl,M.out,jO ?_⟩
   repeat refine zO HC.out ?_
   refine aj ?_;obtain⟨dx,dy,rfl,-,-,b1⟩:=az.nat bz.out;have c4:=aa b1;have b2:w2 ((gR S b a first data).length<=N):=by show _<=_;have:=lT n.out.vf (par:=a) (first:=first) V.out;have:=H.out;omega
   have c5:w2 (ak S (gR S b a first data)):=tM n.out.vf V.out;have b7:w2 (qh S b N data (gR S b a first data) (gR S b a first data).length=jY S b a first data):=by
    have:=Qf n.out.vf (par:=a) (first:=first) V.out;rw[<-g.out,H.out]at this;exact this
   clear b1
   obtain⟨a6,c6,a0,b3⟩:=K1 i N d O T data g.out co (by
    have a4:T.block<w.heap.size:=da.out;have Z:=ap.out.size;have P:=M.out.size
    omega) (by
    obtain⟨cr,e,-,j⟩:=(a2.out.below (ae ap.out M.out)) (by rw[ao,<-g.out];omega);cases e
    exact j)
   rw[g.out,Pj S b N data (gR S b a first data) (by have:=g.out;omega)]at a0;have c7:w2 (af i a6/\bK a6 i.heap.size (qh S b N data (gR S b a first data) 0)):=⟨b3,a0⟩;clear a0 b3;generalize c8:gR S b a first data=p at*
   obtain⟨q,hq⟩:∃q,q=p.length:=⟨_,rfl⟩;have a7:=aa hq;rw[<-hq]at b2 b7;have d9:q<=N:=b2.out;rw[<-hq];clear c8 hq bz;go_wp2;clear c6 cp;go_loopw [84] (λC wr=>∃k:Nat,k<=q/\C=I J k/\w2 (af i wr/\bK wr i.heap.size (qh S b N data p k))) (λC _=>q-(intOf C).toNat)
   case atStart=>exact⟨0,x1 _,rfl,c7⟩
   case round=>
    obtain⟨k,dz,rfl,D⟩:=hrel;by_cases dd:k<q
    ·obtain⟨dE,rfl,G,j⟩:=(c4.out.below D.out.1) (by rw[ao,<-a7.out];omega);have ab:=j k (by rw[ao,<-a7.out];exact dd);rw[bT]at ab;have L:w2 (_=_):=Pk S b N data p k oO;obtain⟨c,K⟩:∃c,c=N-1-k:=⟨_,rfl⟩;have cs:(N:Int)-1-(k:Int)=(c:Int):=oO;have al:c<N:=oO;rw[<-K]at L;have ck:w2 (p.getD k 0<S):=c5.out k;obtain⟨d0,d1,d2⟩:=HC.out _ (ae M.out D.out.1);have de:w2 (∀W,af wr W->W.cell? ⟨i.heap.size,c,U⟩=gk (I J (((qh S b N data p k).getD c 0:Nat):Int))/\W.frozen? ⟨i.heap.size,c,U⟩=R):=by
      show∀W,_;intro W r;exact(D.out.2.below r).2 c (by rw[tE];exact al)
     generalize p.getD k 0=x at*;generalize am:(qh S b N data p k).getD c 0=u at*;clear j K am G;go_wp2_with(go_at_call 117;refine(L7 f S b x _ n.out.vf ck.out).mono ?_;rintro e a8 ⟨rfl,X⟩;have b4:w2 (af i a8/\bK a8 i.heap.size (qh S b N data p k)):=⟨ae D.out.1 X,D.out.2.below X⟩;obtain⟨c1,ce⟩:=de.out _ X;clear X)
     exact⟨⟨k+1,by omega,by go_num,by rw[<-L.out];exact⟨b4.out.1.setCell (w5 _) _,b4.out.2.set _ _⟩⟩,by simp[intOf];omega⟩
    ·have c9:k=q:=oO;subst c9;go_wp2;go_ret2
     refine mB.mk rfl ?_ (ae (ae ap.out M.out) D.out.1);rw[<-b7.out];exact D.out.2.ints (tE _ _ _ _ _ _).symm (w5 _) oM
section
variable (C S P a b : Nat) (w : wR) (hv : VF C S P) (ha : a < S) (hb : b < S)
include hv ha hb
theorem Dh:wS w1 146 #[aU C S P,I J a,I J b] w (au (I J ((bU S P a b:Nat):Int)) w):=by
 have:=Mc C S P a b w hv oO oO oO oO;simpa using this
theorem vH:wS w1 147 #[aU C S P,I J a,I J b] w (au (I J ((bD S P a b:Nat):Int)) w):=by
 have:=JQ C S P a b w hv oO oO oO oO;simpa using this
theorem kN:wS w1 148 #[aU C S P,I J a,I J b] w (au (I J ((aA S P a b:Nat):Int)) w):=by
 have:=pt C S P a b w hv oO oO oO oO;simpa using this
omit hb in
theorem qF:wS w1 173 #[aU C S P,I J a] w (au (I J ((bW S P a:Nat):Int)) w):=by
 have:=Dx C S P a w hv oO oO;simpa using this
end
theorem Qt (C S P b:Nat) (w:wR) (hv:VF C S P) (hb:b<S):wS w1 147 #[aU C S P,I J 0,I J b] w (au (I J ((bD S P 0 b:Nat):Int)) w):=vH C S P 0 b w hv (by have:=hv.aO;omega) hb
theorem JI (C S P d first:Nat) (w:wR) (h:eD C S P d first):
 wS w1 121 #[bZ C S P d first] w (au (.bool wP) w):=by
 have f:=aa h;obtain⟨s3,q⟩:=h.s3;have r:=h.p1;have s:=h.p2;have t:=h.f2;have g:=kE w C S P d first
 have v:w2 (af w (w.alloc (iB C S P d first))):=(w3 _ _).alloc (w5 _) _;obtain⟨c,p⟩:∃c,S=c+2:=⟨S-2,by omega⟩;subst p;have e1:((c+2:Nat):Int)-2=(c:Int):=oO;obtain⟨i,j,k,l,m⟩:=g.out _ (w3 _ _);clear h;go_enter func121,ntmps121;go_wp2_with(go_at_call 166;refine(J3 C (c+2:Nat) P _ oO f.out.vf.ui).mono ?_;rintro e u ⟨rfl,n⟩;rw[lH f.out.vf];have o:=aa n;clear n i j k l m;obtain⟨i,j,k,l,m⟩:=g.out _ o.out)
 go_ret;exact⟨bh oT,dT o.out⟩
theorem KU (C S P:Nat) (d:List Nat) (n:Nat) (A:Option Addr) (q:Nat) (w:wR) (hn:n=d.length) (hl:ak S d) (B:n<=100000000) (hs:S<=4096) (ha:RD w A (zl d)):
 wS w1 122 #[aU C S P,.slice A n q] w (au (.bool wP) w):=by
 have r:=aa ha;have i:=aa hn;have s:=aa hl;have t:w2 (an (w.alloc (eX C S P)) w.heap.size (lO C S P)):=an.new _ _ _ _ rfl;clear ha hn hl;go_enter func122,ntmps122;go_wp2;go_loopw [5] (λf wr=>∃c:Nat,c<=n/\f=I J c/\w2 (af (w.alloc (eX C S P)) wr)) (λf _=>n-(intOf f).toNat)
 case atStart=>exact⟨0,x1 _,rfl,w3 _ _⟩
 case round=>
  obtain⟨c,D,rfl,hB⟩:=hrel;by_cases z:c<n
  ·obtain⟨u,rfl,p,l⟩:=(r.out.below (ae (ax _ _) hB.out)) (by rw[ao,<-i.out];omega);have g:=l c (by rw[ao,<-i.out];exact z);rw[bT]at g;have v:w2 (d.getD c 0<S):=s.out c;generalize d.getD c 0=x at*;have j:w2 (∀W,af wr W->(W.cell? ⟨w.heap.size,0,U⟩=gk (I J C)/\W.cell? ⟨w.heap.size,1,U⟩=gk (I J S)/\W.cell? ⟨w.heap.size,2,U⟩=gk (I J P))/\W.cell? (u.add c)=gk (I J (x:Int))):=by
    show∀W,_;intro W k;exact⟨fs (t.out.below (ae hB.out k)),(k.cell (by rw[aD];exact p)).trans g⟩
   clear l p;go_wp2;clear g;refine yO (af wr) [1,2,3,4,5,0,6,0,7] (ai (w3 _ _)) ?_
   repeat refine zO j.out ?_
   refine zZ ?_;refine(So C S P x _).mono ?_;rintro e y ⟨rfl,m⟩;rw[Ez v.out];have o:w2 (af wr y):=ae (ai (w3 _ _)) m;clear m;refine⟨_,rfl,o.out,jO ?_⟩
   repeat refine zO j.out ?_
   refine aj ?_;go_wp2;exact⟨⟨c+1,by omega,by go_num,ae hB.out o.out⟩,by simp[intOf];omega⟩
  ·go_wp2;go_ret;exact⟨rfl,dT hB.out⟩
theorem wW {c s a:Nat} (h:VF c s a) (b:Nat):dk s a b=aM s a (aV s a) b:=
 ik h (fj h _) (mC h _ _) (by rw[kZ,wi h (jV h).2.1];rfl)
theorem Fw {c s a:Nat} (h:VF c s a) (b:Nat):aA s a (dk s a b) (aV s a)=dk s a (b+1):=by
 rw[wW h,wW h];rfl
theorem Mq (s a first b:Nat):kC s a first (b+1)=kC s a first b++[dk s a (first+b)]:=by
 unfold kC;rw[List.range_succ,List.map_append];rfl
theorem Jb (c S a d first:Nat) (w:wR) (h:eD c S a d first):
 wS w1 185 #[bZ c S a d first] w λe r=>∃v,e= .returned v/\az r v (zl (kC S a first d))/\af w r:=by
 obtain⟨B,C,L,M,N⟩:=info_parts cT;have f:=aa h;obtain⟨s3,al⟩:=h.s3;have am:=h.p1;have D:=h.p2;have E:=h.f2;have hg:=kM h.vf;have m:=kE w c S a d first
 have a9:w2 (af w (w.alloc (iB c S a d first))):=(w3 _ _).alloc (w5 _) _;have O:w2 (∀W,wS w1 213 #[aU c S a,I J ((aV S a:Nat):Int),I J first] W (au (I J ((dk S a (first+0):Nat):Int)) W)):=by
  show∀W,_;intro W;have:=s5 c S a (aV S a) first W f.out.vf hg oO
  rw[Nat.add_zero,wW f.out.vf];exact this
 have P:w2 (∀W,wS w1 210 #[aU c S a] W (au (I J ((aV S a:Nat):Int)) W)):=λW=>uo c S a W f.out.vf;have Q:w2 (∀W b,wS w1 148 #[aU c S a,I J ((dk S a (first+b):Nat):Int),I J ((aV S a:Nat):Int)] W (au (I J ((dk S a (first+(b+1)):Nat):Int)) W)):=by
  show∀W b,_;intro W b;have:=kN c S a (dk S a (first+b)) (aV S a) W f.out.vf (fj f.out.vf _) hg;rw[Fw f.out.vf]at this;exact this
 have bb:d<=4094:=oO;obtain⟨g,i,j,k,l⟩:=m.out _ (w3 _ _);clear h hg D E;generalize aV S a=G at*;go_enter func185,ntmps185
 go_wp2_with(first
  |(go_at_call 210;refine(P.out _).mono ?_;rintro e ap ⟨rfl,s⟩;have t:=aa s;clear s g i j k l;obtain⟨g,i,j,k,l⟩:=m.out _ t.out)
  |(go_at_call 213;refine(O.out _).mono ?_;rintro e av ⟨rfl,u⟩;have T:=aa (ae t.out u);clear u g i j k l))
 go_loopw [4,5,6] (λF rv o wr=>∃b:Nat,b<=d/\o=I J b/\rv=I J ((dk S a (first+b):Nat):Int)/\w2 (af (w.alloc (iB c S a d first)) wr)/\w2 (wr.ownsRow (w.heap.size+1) 3 1 F b ((kC S a first b).map vN))) (λ_ _ o _=>d-(intOf o).toNat)
 case atStart=>exact⟨0,x1 _,rfl,rfl,T.out,World.ownsRow_nil _ _ _ _⟩
 case round=>
  obtain⟨b,a6,rfl,rfl,hB,n⟩:=hrel;obtain⟨a0,cc,rfl⟩:=cA n.out;obtain⟨g,i,j,k,l⟩:=m.out _ hB.out;by_cases a7:b<d
  ·have H:=aa (λW=>Q.out W b);have V:w2 (kC S a first (b+1)=kC S a first b++[dk S a (first+b)]):=Mq S a first b
   generalize dk S a (first+b)=z at*;generalize x:dk S a (first+(b+1))=a1 at*;have X:=aa x;clear x;have a8:b<=4094:=oO;have Y:w2 (w.heap.size+1<=wr.heap.size):=by show _<=_;have:=hB.out.size;simp at this;omega
   go_wp2_with(first
    |(at_builtin;refine aY (f:=vN) (d:=0) uf rfl _ _ _ rfl (w.heap.size+1) 3 B _ 8 z1 C L M N rfl _ b (kC S a first b) rfl (n.out.alloc _) (gk ⟨wr.heap.size,0,U⟩) 1 1 [z] rfl rfl (RG.one _ _ _ _ rfl) oM oO (by have:=Y.out;simp;omega) ?_;intro a2 K q hg;obtain⟨a3,a4,rfl⟩:=cA q;have Z:=aa q;have y:w2 (af (w.alloc (iB c S a d first)) K):=(ah hB.out _).grown hg (by have:=hB.out.size;simp;simp at this;omega) (λA ab=>by have:=(n.out.lt A ab).1;simp;omega);clear q hg g i j k l;obtain⟨g,i,j,k,l⟩:=m.out _ y.out)
    |(go_at_call 148;refine(H.out _).mono ?_;rintro e a5 ⟨rfl,p⟩;have ac:=aa (ae y.out p);have ad:=aa (aq Z.out p);clear p))
   exact⟨⟨b+1,by omega,by go_num,by rw[X.out],ac.out,by rw[V.out];exact ad.out⟩,by simp[intOf];omega⟩
  ·obtain rfl:b=d:=oO;go_wp2;go_ret;exact⟨_,rfl,az.yG (SG.bL (f:=vN) (d:=0) n.out),dT hB.out⟩
theorem gW.Kv (w:wR) (a S b n:Nat) (c:TypeId):gW w ((w.alloc (eX a S b)).alloc (.cells (C2 #[zz .i64 0] n) c)) (lO a S b) (y0 n 0):=
 ⟨((w3 _ _).alloc (w5 _) _).alloc oS _,(an.new _ _ _ _ rfl).alloc _,bK.made _ _ _ _ oS⟩
theorem qS (j S g N:Nat) (a b:List Nat) (A B:Option Addr) (n m am ap:Nat) (w:wR) (o:VF j S g) (E:ak S a) (T:ak S b) (hn:n=a.length) (r:m=b.length) (b4:1<=n) (b5:1<=m) (b6:n<=4097) (b7:m<=4097) (b9:1<=N) (ca:N<=8193)
 (G:RD w A (zl a)) (hb:RD w B (zl b)):
 wS w1 170 #[aU j S g,.slice A n am,.slice B m ap,I J N] w λe H=>∃v,e= .returned v/\(az H v (zl (dt S g a b (min N (n+m-1)) a.length 0))/\af w H)/\pS w v:=by
 obtain⟨L,K⟩:∃L,L=n+m-1:=⟨_,rfl⟩;rw[<-K];obtain⟨c,M⟩:∃c,c=min N L:=⟨_,rfl⟩;rw[<-M];have a9:max (0:Int) ((n:Int)+(m:Int)-1)=(L:Int):=oO;have bb:min (N:Int) (L:Int)=(c:Int):=oO;have cb:1<=c:=oO;have ce:c<=8193:=oO;have bd:=S0 (P:=w1) 64 3 (I J 0) 8 z1 cT rfl .i64 .i64 c oO oO;have s:=aa o;have be:=aa E;have bf:=aa T;have av:=aa G;have a0:=aa hb;have a1:=aa (B7 o a b c);have ab:w2 (∀d f,(dt S g a b c d f).length=c):=λd f=>gB _ _ _ _ _ _ _;have b2:w2 (∀d f:Nat,d+f<c->(dt S g a b c d f).set (d+f) (bU S g ((dt S g a b c d f).getD (d+f) 0) (aA S g (a.getD d 0) (b.getD f 0)))=dt S g a b c d (f+1)):=λd f bi=>Ei o a b bi;have al:w2 (∀d f,(f=m\/c<=d+f)->dt S g a b c d f=dt S g a b c (d+1) 0):=λd f a2=>ER o a b E (by rw[<-r];exact a2);have bo:w2 (∀d f,ak S (dt S g a b c d f)):=λd f=>mw o a b c d f;have t:=aa hn;have O:=aa r;clear o E T G hb hn r K M;go_enter func170,ntmps170;go_wp2;clear bd a9 bb;go_loopw [10] (λd wr=>∃k:Nat,k<=n/\d=I J k/\w2 (gW w wr (lO j S g) (dt S g a b c k 0))) (λd _=>n-(intOf d).toNat)
 case atStart=>exact⟨0,x1 _,rfl,by rw[a1.out];exact gW.Kv w j S g c _⟩
 case round=>
  obtain⟨k,b3,rfl,z⟩:=hrel;by_cases bq:k<n
  ·go_wp2;obtain⟨P,rfl⟩:∃P:wR,P=wr:=⟨_,rfl⟩;go_loopw [11] (λf wr=>∃q:Nat,q<=m/\f=I J q/\w2 (gW w wr (lO j S g) (dt S g a b c k q))) (λf _=>m-(intOf f).toNat)
   case atStart=>exact⟨0,x1 _,rfl,z⟩
   case round=>
    obtain⟨q,hq,rfl,i⟩:=hrel;by_cases bx:q<m
    ·by_cases bz:k+q<c
     ·obtain⟨a3,rfl,ac,V⟩:=(av.out.below i.out.B) (by rw[ao,<-t.out];omega);have C:=V k (by rw[ao,<-t.out];exact bq);rw[bT]at C;obtain⟨a4,rfl,ad,X⟩:=(a0.out.below i.out.B) (by rw[ao,<-O.out];omega);have D:=X q (by rw[ao,<-O.out];exact bx);rw[bT]at D;have a5:w2 (a.getD k 0<S):=be.out k;have a6:w2 (b.getD q 0<S):=bf.out q;have b1:w2 (_=_):=b2.out k q bz;have a7:w2 ((dt S g a b c k q).getD (k+q) 0<S):=bo.out k q _;have F:=i.out.O.2 (k+q) (by rw[ab.out];omega);generalize a.getD k 0=x at*;generalize bs:b.getD q 0=y at*;generalize bt:(dt S g a b c k q).getD (k+q) 0=u at*;have p:w2 (∀W,af wr W->(W.cell? ⟨w.heap.size,0,U⟩=gk (I J j)/\W.cell? ⟨w.heap.size,1,U⟩=gk (I J S)/\W.cell? ⟨w.heap.size,2,U⟩=gk (I J g))/\W.cell? ⟨w.heap.size+1,k+q,U⟩=gk (I J (u:Int))/\W.frozen? ⟨w.heap.size+1,k+q,U⟩=R/\W.cell? (a3.add k)=gk (I J (x:Int))/\W.cell? (a4.add q)=gk (I J (y:Int))):=by
       show∀W,_;intro W l;exact⟨fs (i.out.X.below l),(l.cell i.out.O.1).trans F.1,(l.frozen i.out.O.1).trans F.2,(l.cell (by rw[aD];exact ac)).trans C,(l.cell (by rw[aD];exact ad)).trans D⟩
      clear bs bt X F C D V ac ad;have ch:(0:Int)<=(k:Int)+q:=oO;have ci:(k:Int)+q<(c:Int):=oO;have ck:((k:Int)+q).toNat=k+q:=oO;have bv:J.wrap ((k:Int)+q)=(k:Int)+q:=aG _ oO oO;go_wp2;refine bV (S:=af wr) 23 oK oK (ai (w3 _ _)) ?_;simp only[List.take_succ_cons,List.take_zero,List.drop_succ_cons,List.drop_zero]
      repeat refine kO p.out ?_
      refine kX (λW l=>kN j S g x y W s.out a5.out a6.out) ?_
      repeat refine kO p.out ?_
      refine kX (λW l=>Dh j S g u (aA S g x y) W s.out a7.out (bk s.out _ _)) ?_
      repeat refine kO p.out ?_
      refine cX ?_;intro a8 Y;have Z:=aa Y;clear Y;obtain⟨-,co,cp,-⟩:=p.out a8 Z.out;go_wp2;clear bv;exact⟨⟨q+1,by omega,by go_num,by rw[<-b1.out];exact(i.out.below Z.out).set _ _⟩,by simp[intOf];omega⟩
     ·go_wp2;exact⟨⟨k+1,by omega,by go_num,by rw[<-al.out k q (.inr oO)];exact i⟩,by simp[intOf];omega⟩
    ·obtain rfl:q=m:=oO;go_wp2;exact⟨⟨k+1,by omega,by go_num,by rw[<-al.out k q (.inl rfl)];exact i⟩,by simp[intOf];omega⟩
  ·obtain rfl:k=n:=oO;go_wp2;go_ret;refine⟨_,rfl,⟨?_,z.out.B⟩,pS.mk oO⟩;have Q:=z.out.O.ints (c:=c) (ab.out _ _).symm (w5 _) oM;rw[t.out]at Q;exact Q
end
end Go.Proofs.YtmnlkganmgcpbaaGreatDoor
