import Derived.Test.YtmnlkganmgcpbaaGreatDoorQm13
set_option maxRecDepth 100000
set_option maxHeartbeats 4000000
set_option linter.unusedVariables false
set_option linter.unusedSectionVars false
set_option linter.unusedSimpArgs false
namespace Go.Proofs.YtmnlkganmgcpbaaGreatDoor
section
open Go.RowKit
theorem yL (c s p:Int) (xs:List Int) (A:Option Addr) (q:Nat) (w:World) (v:xs.length<=9223372036854775807) (l:RD w A xs):
 Calls Tryz.prog 151 #[aN c s p,.slice A xs.length q] w λe w'=>e= .returned (.bool (gB s xs))/\Below w.heap.size w w':=by
 have r:=Lib.hid (l.alloc (.cells #[.int .i64 c,.int .i64 s,.int .i64 p] 89));clear l;generalize hn:xs.length=n at*;have a:=Lib.hid hn;clear hn;go_enter Tryz.func151,Tryz.ntmps151;go_wp2;go_loop [6,9] (λ_ i=>∃k:Nat,k<=n/\i= .int .i64 k/\Hid (∀j,j<k->0<=xs.getD j 0/\xs.getD j 0<s)) (λ_ i=>n-(intOf i).toNat)
 case atStart=>exact⟨0,Nat.zero_le _,rfl,λj t=>by omega⟩
 case round=>
  obtain⟨k,y,rfl,hid⟩:=hrel;have g:Hid (Below w.heap.size w (w.alloc (.cells #[.int .i64 c,.int .i64 s,.int .i64 p] 89))):=(Below.refl _ _).alloc (Nat.le_refl _) _;by_cases f:k<n
  ·obtain⟨z,rfl,-,o⟩:=r.out (by rw[a.out];omega);have D:=o k (by rw[a.out];exact f);clear o;generalize m:xs.getD k 0=x at*;have d:=Lib.hid m;clear m;by_cases B:x<0
   ·have b:=Lib.hid (ql (s:=s) (k:=k) (by rw[a.out];exact f) (by rw[d.out];omega));go_wp2;go_ret;exact⟨aK b.out.symm,g.out⟩
   ·by_cases C:s<=x
    ·have b:=Lib.hid (ql (s:=s) (k:=k) (by rw[a.out];exact f) (by rw[d.out];omega));go_wp2;go_ret;exact⟨aK b.out.symm,g.out⟩
    ·go_wp2;refine⟨⟨k+1,by omega,by go_num,?_⟩,by simp[intOf];omega⟩;intro j t;by_cases u:j=k
     ·subst u;rw[d.out];omega
     ·exact hid.out j oO
  ·obtain rfl:k=n:=oO;have b:=Lib.hid (xE (s:=s) (xs:=xs) (by rw[a.out];exact hid.out));go_wp2;go_ret;exact⟨aK b.out.symm,g.out⟩
structure dF (C S P par first:Nat):Prop where
 vf:VF C S P
 p1:1<=par
 p2:par<=S-2
 f2:first<=S-2
theorem dF.s3 {C S P par first:Nat} (h:dF C S P par first):3<=S/\S<=4096:=by
 have:=h.p1;have:=h.p2;have:=h.vf.le;omega
theorem yc (C S P par first:Nat) (w:World) (h:dF C S P par first):
 Calls Tryz.prog 150 #[aN C S P,.int .i64 par,.int .i64 first] w λe w'=>e= .returned (.bool true)/\Below w.heap.size w w':=by
 obtain⟨s3,d⟩:=h.s3;have f:=h.p1;have g:=h.p2;have i:=h.f2;have c:Hid (Below w.heap.size w (w.alloc (.cells #[.int .i64 C,.int .i64 S,.int .i64 P] 89))):=(Below.refl _ _).alloc (Nat.le_refl _) _;obtain⟨a,b⟩:∃a,S=a+2:=⟨S-2,by omega⟩;subst b;have e1:((a+2:Nat):Int)-2=(a:Int):=oO;clear h;go_enter Tryz.func150,Tryz.ntmps150;go_wp2;go_ret;exact⟨aK oT,c.out⟩
theorem gT (w:World) (C S P par first:Nat):Hid (∀W,af (w.alloc (eT C S P par first)) W->W.cell? ⟨w.heap.size,0,none⟩=some (.int .i64 C)/\W.cell? ⟨w.heap.size,1,none⟩=some (.int .i64 S)/\W.cell? ⟨w.heap.size,2,none⟩=some (.int .i64 P)/\W.cell? ⟨w.heap.size,3,none⟩=some (.int .i64 par)/\W.cell? ⟨w.heap.size,4,none⟩=some (.int .i64 first)):=by
 show∀W,_;intro W a;have h:an (w.alloc (eT C S P par first)) w.heap.size (gG C S P par first):=an.new _ _ _ _ rfl;exact lL (h.below a)
theorem qG (C S P par first:Nat) (l:List Nat) (n:Nat) (A:Option Addr) (g:Nat) (w:World) (h:dF C S P par first) (hn:n=l.length) (hl:aj S l) (x:n<=9223372036854775807) (m:RD w A (zl l)):
 Calls Tryz.prog 112 #[cf C S P par first,.slice A n g] w λe w'=>e= .returned (.bool true)/\Below w.heap.size w w':=by
 have i:=Lib.hid h;have j:=gT w C S P par first
 have v:Hid (Below w.heap.size w (w.alloc (eT C S P par first))):=(Below.refl _ _).alloc (Nat.le_refl _) _;have s:Hid (∀W,af (w.alloc (eT C S P par first)) W->Calls Tryz.prog 151 #[aN C S P,.slice A n g] W λe w'=>e= .returned (.bool true)/\Below W.heap.size W w'):=by
  show∀W,_;intro W t;have:=yL C S P (zl l) A g W (by rw[ak];omega) (m.below (v.out.mono (Nat.le_refl _)|>.trans (t.mono oS)));rw[ak,<-hn,zI hl]at this;exact this
 obtain⟨a,b,c,d,f⟩:=j.out _ (Below.refl _ _);clear m hl hn h;go_enter Tryz.func112,Tryz.ntmps112
 go_wp2_with(first
  |(go_at_call 149;refine(jd C S P _ i.out.vf.rl).mono ?_;rintro e y ⟨rfl,o⟩;rw[j5 i.out.vf];have p:=Lib.hid o;clear o a b c d f;obtain⟨a,b,c,d,f⟩:=j.out _ p.out)
  |(go_at_call 150;refine(yc C S P par first _ i.out).mono ?_;rintro e z ⟨rfl,q⟩;have k:=Lib.hid (aa p.out q);clear q a b c d f;obtain⟨a,b,c,d,f⟩:=j.out _ k.out)
  |(go_at_call 151;refine(s.out _ k.out).mono ?_;rintro e B ⟨rfl,r⟩;have u:=Lib.hid (aa k.out r);clear r))
 go_ret;exact⟨rfl,cQ u.out⟩
theorem yk (C S P par first n:Nat) (w:World) (b:par<n) (c:n<S):
 Calls Tryz.prog 113 #[cf C S P par first,.int .i64 n] w λe w'=>e= .returned (.bool true)/\Below w.heap.size w w':=by
 have a:Hid (Below w.heap.size w (w.alloc (eT C S P par first))):=(Below.refl _ _).alloc (Nat.le_refl _) _;go_enter Tryz.func113,Tryz.ntmps113;go_wp2;go_ret;exact⟨rfl,a.out⟩
theorem nP (C S P par first:Nat) (w:World) (h:dF C S P par first):
 Calls Tryz.prog 111 #[aN C S P,.int .i64 par,.int .i64 first] w λe w'=>e= .returned (.tuple #[cf C S P par first,.int .i64 0])/\Below w.heap.size w w':=by
 have d:=Lib.hid h;have j:ae (w.alloc (dS C S P)) w.heap.size (jS C S P).toArray 89:=ae.new _ _ _ _ rfl;have k:ae ((w.alloc (dS C S P)).alloc (eT 0 0 0 0 0)) (w.heap.size+1) (gG 0 0 0 0 0).toArray 91:=ae.new _ _ _ _ oS;have l:Hid (∀W,af ((w.alloc (dS C S P)).alloc (eT 0 0 0 0 0)) W->ae W w.heap.size (jS C S P).toArray 89/\ae W (w.heap.size+1) (gG 0 0 0 0 0).toArray 91):=by
  show∀W,_;intro W m;exact⟨(j.below (ax _ _)).below m,k.below m⟩
 have A:Hid (Below w.heap.size w ((w.alloc (dS C S P)).alloc (eT 0 0 0 0 0))):=(ax _ _).alloc oS _;clear h j k;go_enter Tryz.func111,Tryz.ntmps111;go_wp2_with fail
 refine(jd C S P _ d.out.vf.rl).mono ?_;rintro e g ⟨rfl,o⟩;rw[j5 d.out.vf];have p:=Lib.hid o;obtain⟨b,-⟩:=l.out _ p.out;have c0:g.cell? ⟨w.heap.size,0,none⟩=some (.int .i64 C):=b.cell 0 _ rfl;have c1:g.cell? ⟨w.heap.size,1,none⟩=some (.int .i64 S):=b.cell 1 _ rfl;have n:g.cell? ⟨w.heap.size,2,none⟩=some (.int .i64 P):=b.cell 2 _ rfl;clear o b;go_wp2_with fail
 refine(yc C S P par first _ d.out).mono ?_;rintro e a ⟨rfl,q⟩;have r:=Lib.hid (aa p.out q);obtain⟨b,c⟩:=l.out _ r.out;clear q c0 c1 n;have c0:a.cell? ⟨w.heap.size,0,none⟩=some (.int .i64 C):=b.cell 0 _ rfl;have c1:a.cell? ⟨w.heap.size,1,none⟩=some (.int .i64 S):=b.cell 1 _ rfl;have n:a.cell? ⟨w.heap.size,2,none⟩=some (.int .i64 P):=b.cell 2 _ rfl;have s:a.cell? ⟨w.heap.size+1,0,none⟩=some (.int .i64 0):=c.cell 0 _ rfl;have t:a.cell? ⟨w.heap.size+1,1,none⟩=some (.int .i64 0):=c.cell 1 _ rfl;have u:a.cell? ⟨w.heap.size+1,2,none⟩=some (.int .i64 0):=c.cell 2 _ rfl;have x:a.cell? ⟨w.heap.size+1,3,none⟩=some (.int .i64 0):=c.cell 3 _ rfl;have y:a.cell? ⟨w.heap.size+1,4,none⟩=some (.int .i64 0):=c.cell 4 _ rfl;have f:∀i,a.frozen? ⟨w.heap.size+1,i,none⟩=false:=λi=>frozen_of_row _ _ _ _ _ c;have B:=f 0;have D:=f 1;have E:=f 2;have F:=f 3;have G:=f 4;have z:Hid (Below w.heap.size w a):=aa A.out r.out;clear f b c;go_wp2;exact bodyPost_ret (v:= .tuple #[cf C S P par first,.int .i64 0]) (by simp[results,Tryz.results111,go_sem,s,t,u,x,y]) rfl ⟨rfl,((((z.out.setCell oS _).setCell oS _).setCell oS _).setCell oS _).setCell oS _⟩
structure GS (w:World) (b c a:Nat) (d e:List Value) (S P be bl:Nat) (l:List Nat) (wr:World):Prop where
 B:Below w.heap.size w wr
 X:an wr b d
 Q:an wr c e
 T:dg wr S P be bl
 O:ba wr a l
 lo:w.heap.size<=a
 n1:b≠a
 n2:c≠a
 n3:be≠a
 n4:bl≠a
theorem GS.below {w:World} {a b c:Nat} {d e:List Value} {S P f bl:Nat} {l:List Nat} {wr W:World} (h:GS w a b c d e S P f bl l wr) (hb:Below wr.heap.size wr W):GS w a b c d e S P f bl l W:=
 ⟨aa h.B hb,h.X.below hb,h.Q.below hb,h.T.below hb,h.O.below hb,h.lo,h.n1,h.n2,h.n3,h.n4⟩
theorem GS.set {w:World} {b c a:Nat} {d e:List Value} {S P f bl:Nat} {l:List Nat} {wr:World} (h:GS w b c a d e S P f bl l wr) (i v:Nat):GS w b c a d e S P f bl (l.set i v) (wr.setCell ⟨a,i,none⟩ (.int .i64 (v:Int))):=
 ⟨h.B.setCell h.lo _,h.X.other _ _ h.n1,h.Q.other _ _ h.n2,h.T.setCell _ _ h.n3 h.n4,h.O.set i v,h.lo,h.n1,h.n2,h.n3,h.n4⟩
noncomputable def nn (s p first par i:Nat):List Nat:=(List.range par).map λj=>if j<i then bV s p (first+j)else 0
theorem pC (s p first par i:Nat):(nn s p first par i).length=par:=by unfold nn;simp
theorem G6 (s p first par:Nat):nn s p first par 0=List.replicate par 0:=by
 refine cD (by rw[pC,List.length_replicate]) λj a=>?_;rw[pC]at a;unfold nn;rw[aQ _ _ _ a,if_neg oO];simp[List.getD,a]
theorem Gu (s p first par i:Nat) (b:i<par):(nn s p first par i).set i (bV s p (first+i))=nn s p first par (i+1):=by
 unfold nn;rw[dN _ _ _ _ b];apply List.map_congr_left;intro j c;by_cases e:j=i
 ·subst e;rw[if_pos rfl,if_pos oO]
 ·rw[if_neg e];by_cases a:j<i
  ·rw[if_pos a,if_pos oO]
  ·rw[if_neg a,if_neg oO]
noncomputable def eZ (s p first par:Nat):List Nat:=(List.range par).map λj=>bV s p (first+j)
theorem Jk (s p first par:Nat):nn s p first par par=eZ s p first par:=by
 unfold nn eZ;apply List.map_congr_left;intro j a;rw[List.mem_range]at a;rw[if_pos a]
theorem fh (s p first par:Nat):(eZ s p first par).length=par:=by unfold eZ;simp
theorem s8 {c s p:Nat} (h:VF c s p) (first par:Nat):aj s (eZ s p first par):=fW h λi _=>dD h _
noncomputable def cU (s p first par:Nat):List Nat:=fromL s p (eZ s p first par) par
theorem wV (C S P par first:Nat) (w:World) (h:dF C S P par first):
 Calls Tryz.prog 114 #[cf C S P par first] w (jK w (zl (cU S P first par),0)):=by
 obtain⟨ac,ad,a9,bb,bd⟩:=info_parts bZ;have f:=Lib.hid h;obtain⟨s3,al⟩:=h.s3;have am:=h.p1;have D:=h.p2;have E:=h.f2;have r:=gT w C S P par first
 have t:an (w.alloc (eT C S P par first)) w.heap.size (gG C S P par first):=an.new _ _ _ _ rfl;have F:=Lib.hid t;have ab:Hid (Below w.heap.size w (w.alloc (eT C S P par first))):=(Below.refl _ _).alloc (Nat.le_refl _) _;have bf:par<=4094:=oO;have be:first<=4094:=oO
 obtain⟨g,j,l,m,n⟩:=r.out _ (Below.refl _ _);have N:=run_make_row' (P:=Tryz.prog) 64 3 (.int .i64 0) 8 Tryz.underlying64 bZ rfl .i64 .i64 par oO oO;have G:Hid (∀W,Calls Tryz.prog 112 #[cf C S P par first,.slice none 0 0] W λe w'=>e= .returned (.bool true)/\Below W.heap.size W w'):=by
  show∀W,_;intro W;exact qG C S P par first [] 0 none 0 W h rfl (λi=>by simp[List.getD];omega) oO (RD.dR _ _)
 clear h t D E;go_enter Tryz.func114,Tryz.ntmps114
 go_wp2_with(first
  |(go_at_call 112;refine(G.out _).mono ?_;rintro e ap ⟨rfl,y⟩;have s:=Lib.hid y;clear y g j l m n;obtain⟨g,j,l,m,n⟩:=r.out _ s.out)
  |(go_at_call 119;refine(rG C S P _ f.out.vf).mono ?_;rintro e b ⟨a,bl,rfl,d,z,-,-⟩;have u:=Lib.hid d;have o:=Lib.hid (aa s.out z);clear z d g j l m n;obtain⟨g,j,l,m,n⟩:=r.out (b.alloc (dW C S a bl)) (ah o.out _)))
 have O:Hid (w.heap.size<b.heap.size):=by show _<_;have:=o.out.size;simp at this;omega
 have Q:Hid (GS w w.heap.size b.heap.size (b.heap.size+1) (gG C S P par first) (gR C S a bl) S P a bl (nn S P first par 0) ((b.alloc (dW C S a bl)).alloc (.cells (madeCells #[.int .i64 0] par) 3))):=by
  have av:=O.out;have d:=u.out;refine⟨ah (ah (aa ab.out o.out) _) _,((F.out.below o.out).alloc _).alloc _,(an.new _ _ _ _ rfl).alloc _,(d.alloc _).alloc _,?_,by omega,by omega,by omega,by have:=d.1;omega,by have:=d.2.1;omega⟩;rw[G6];exact ba.made _ _ _ _ oS
 generalize H:(b.alloc (dW C S a bl)).alloc (.cells (madeCells #[.int .i64 0] par) 3)=a0 at*;clear H g j l m n s u o;generalize T:b.heap.size=p at*;clear T;clear N;go_loopw [18] (λi wr=>∃k:Nat,k<=par/\i= .int .i64 k/\Hid (GS w w.heap.size p (p+1) (gG C S P par first) (gR C S a bl) S P a bl (nn S P first par k) wr)) (λi _=>par-(intOf i).toNat)
 case atStart=>exact⟨0,Nat.zero_le _,rfl,Q⟩
 case round=>
  obtain⟨k,a1,rfl,c⟩:=hrel;by_cases A:k<par
  ·obtain⟨a2,a3,a4,a5⟩:=dT c.out.Q;obtain⟨c0,c1,J,K,L⟩:=lL c.out.X;have U:Hid (Calls Tryz.prog 152 #[fm C S a bl,.int .i64 ((first:Int)+(k:Int))] wr λe w'=>e= .returned (.int .i64 ((bV S P (first+k):Nat):Int))/\Below wr.heap.size wr w'):=by
    have:=lF C S P a bl (first+k) wr f.out.vf oO c.out.T;show Calls _ _ _ _ _;simpa using this
   have V:Hid (_=_):=Gu S P first par k A
   have X:Hid (k<(nn S P first par k).length):=by show _<_;rw[pC];exact A
   generalize bV S P (first+k)=a6 at*;go_wp2_with(go_at_call 152;refine U.out.mono ?_;rintro e M ⟨rfl,q⟩;have B:=Lib.hid (c.out.below q);clear q;obtain⟨a7,a8⟩:=B.out.O.2 k X.out)
   exact⟨⟨k+1,by omega,by go_num,by rw[<-V.out];exact B.out.set _ _⟩,by simp[intOf];omega⟩
  ·obtain rfl:k=par:=oO;obtain⟨c0,c1,J,K,L⟩:=lL c.out.X;have Y:Hid (Calls Tryz.prog 153 #[aN C S P,.slice (some ⟨p+1,0,none⟩) k k] wr (jK wr (zl (cU S P first k),0))):=by
    have x:=c.out.O.rd;rw[Jk]at x;have:=xe C S P ⟨some ⟨p+1,0,none⟩,k,k,zl (eZ S P first k)⟩ wr f.out.vf.rl ⟨by rw[ak,fh],by show k<=_;omega,x,Nat.le_refl _,by show k<=maxLen;unfold maxLen;omega⟩;have e:im C S P (zl (eZ S P first k))=(zl (cU S P first k),0):=by
     unfold im cU;rw[j5 f.out.vf,zI (s8 f.out.vf _ _),if_pos oS,if_neg (by rw[ak,fh];omega),ak,fh,qp];simp
    show Calls _ _ _ _ _;rw[<-e];exact this
   go_wp2_with(go_at_call 153;refine Y.out.mono ?_;rintro e M ⟨v,rfl,Z,q⟩)
   go_ret2
   exact jK.mk rfl Z (aa c.out.B q)
end
section
open Fl
section
variable {K : Type} [Fl K]
def mx (r:K) (f:Nat->K):Nat->K:=λn=>sh f n-r* f n
theorem Lm {r:K} {f:Nat->K} {d:Nat} (h:cS d f):cS (d+1) (mx r f):=by
 intro i a;obtain⟨i,rfl⟩:∃k,i=k+1:=⟨i-1,by omega⟩;show f i-r* f (i+1)=0;rw[h i oO,h (i+1) oO,aV,cA]
theorem Fp (x:K) (f:Nat->K) (n:Nat):bN x (sh f) (n+1)=x* bN x f n:=by
 rw[cN];show 0+x* bN x (cu (sh f)) n=_;rw[bO];rfl
theorem LL {x r:K} {f:Nat->K} {d:Nat} (h:cS d f):bN x (mx r f) (d+1)=(x-r)* bN x f d:=by
 rw[show bN x (mx r f) (d+1)=bN x (λk=>sh f k-r* f k) (d+1)from rfl,s0 x (sh f) (λk=>r* f k),Fp,oB,fJ h (Nat.le_succ d),AU]
theorem Di (r:K):cS 1 (ff r):=λi a=>by unfold ff;rw[if_neg oO]
theorem KN (x r:K):bN x (ff r) 1=r:=by
 rw[cN];show r+x* 0=r;rw[aV,aR]
def rv (n:Nat) (g:Nat->K):Nat->K:=λj=>if j<n then g (n-1-j)else 0
theorem L6 (n:Nat) (g:Nat->K):cS n (rv n g):=λi a=>by unfold rv;rw[if_neg oO]
theorem o8 (a b:K):a+b-b=a:=by rw[de,fP,<-de,cA,aR]
end
def nv (l:List Nat) (c j:Nat):Nat:=if j=0 then c else l.getD (j-1) 0
theorem pB {l:List Nat} {i v:Nat} (a:i<l.length):(l.set i v).getD i 0=v:=by simp[List.getD,a]
theorem nY {l:List Nat} {i j v:Nat} (h:i≠j):(l.set i v).getD j 0=l.getD j 0:=by simp[List.getD,List.getElem?_set_ne h]
theorem Dt (s p:Nat) (l:List Nat) (r c k:Nat) (g:k<=l.length) (j:Nat):
 (eL s p l r c k).getD j 0=if j<k then aM s p (nv l c j) (au s p (l.getD j 0) r)else if j=k then nv l c j else 0:=by
 induction k generalizing j with
 |zero=>
  show((List.replicate (l.length+1) 0).set 0 c).getD j 0=_;rw[if_neg oO];by_cases h:j=0
  ·subst h;rw[if_pos rfl,pB oS];rfl
  ·rw[if_neg h,nY oO];by_cases a:j<l.length+1
   ·simp[List.getD,a]
   ·simp[List.getD,a]
 |succ k b=>
  have b:=b oO;have f:=mI s p l r c k;show(((eL s p l r c k).set k (aM s p ((eL s p l r c k).getD k 0) (au s p (l.getD k 0) r))).set (k+1) (l.getD k 0)).getD j 0=_;by_cases d:j=k+1
  ·subst d;rw[pB (by rw[List.length_set,f];omega),if_neg oO,if_pos rfl];rfl
  ·rw[nY (Ne.symm d)];by_cases a:j=k
   ·subst a;rw[pB (by rw[f];omega),if_pos oO,b j,if_neg oO,if_pos rfl]
   ·rw[nY (Ne.symm a),b j];by_cases e:j<k
    ·rw[if_pos e,if_pos oO]
    ·rw[if_neg e,if_neg a,if_neg oO,if_neg d]
theorem Ls (s p:Nat) (l:List Nat) (r c k:Nat) (a:k<l.length):(eL s p l r c (k+1)).getD (k+1) 0=l.getD k 0:=by
 show(((eL s p l r c k).set k _).set (k+1) (l.getD k 0)).getD (k+1) 0=_;rw[List.getD,List.getElem?_set_self (by rw[List.length_set,mI];omega)];rfl
theorem F9 (s p:Nat) (roots:List Nat):∀k,(fromL s p roots k).getD k 0=1:=by
 intro k
 induction k with
 |zero=>rfl
 |succ k a=>
  show(kl s p (fromL s p roots k) (roots.getD k 0) 0).getD (k+1) 0=1;unfold kl;have hl:=lM s p roots k;rw[hl,Ls _ _ _ _ _ _ oO,a]
structure nD (s p par first:Nat) (data w:List Nat):Prop where
 lt:aj s w
 ln:w.length=data.length+par
 pre:∀i,i<data.length->w.getD i 0=data.getD i 0
 cw:∀j,j<par->fL s p first w j=0
noncomputable def dw (par:Nat) (data:List Nat):List Nat:=(List.range (data.length+par)).map λj=>if j<par then 0 else data.getD (data.length+par-1-j) 0
noncomputable def ft (s p par first:Nat) (data:List Nat):List Nat:=eK s p (dJ (dw par data)) (cU s p first par)
noncomputable def fa (s p par first:Nat) (data:List Nat):List Nat:=(List.range (data.length+par)).map λj=>if j<data.length then data.getD j 0 else aM s p 0 ((ft s p par first data).getD (data.length+par-1-j) 0)
theorem lk (par:Nat) (data:List Nat):(dw par data).length=data.length+par:=by unfold dw;simp
theorem pg (s p par first:Nat) (data:List Nat):(fa s p par first data).length=data.length+par:=by unfold fa;simp
section
variable {c s p : Nat} (h : VF c s p)
def vl (x:KF h) (l:List Nat):KF h:=bN x (co h l) l.length
include h
theorem Me (x:KF h) {l:List Nat} {n:Nat} (hn:l.length<=n):bN x (co h l) n=vl h x l:=fJ (dL h l) hn
theorem H3 {x:KF h} {l:List Nat} {f:Nat->KF h} (e:∀i,co h l i=f i) {n:Nat} (a:cS n f):vl h x l=bN x f n:=by
 have e1:bN x (co h l) (max n l.length)=bN x f (max n l.length):=fA λi _=>e i;rw[<-Me h x (Nat.le_max_right n l.length),e1,fJ a (Nat.le_max_left _ _)]
theorem C6 {x:Nat} (a:x<s) {l:List Nat} (hl:aj s l):aA h (hornN s p x l)=vl h (aA h x) l:=p9 h a l (ek hl)
theorem Kb {l:List Nat} (c j:Nat):aA h (nv l c j)=sh (co h l) j+ff (aA h c) j:=by
 unfold nv;cases j with
 |zero=>rw[if_pos rfl];show _=0+aA h c;rw[bO]
 |succ j=>rw[if_neg oO];show aA h (l.getD j 0)=co h l j+0;rw[aR];rfl
theorem Da {l:List Nat} (hl:aj s l) {r c:Nat} (d:r<s) (hc:c<s) (j:Nat):co h (kl s p l r c) j=mx (aA h r) (co h l) j+ff (aA h c) j:=by
 have f:∀j,nv l c j<s:=λj=>by
  unfold nv;split
  ·exact hc
  ·exact hl _
 have e:mx (aA h r) (co h l) j+ff (aA h c) j=aA h (nv l c j)-aA h r* co h l j:=by
  rw[Kb];show sh (co h l) j-_+_=_;simp only[de]
  ac_rfl
 rw[e];show aA h ((kl s p l r c).getD j 0)=_;unfold kl;rw[Dt _ _ _ _ _ _ (Nat.le_refl _)];by_cases a:j<l.length
 ·rw[if_pos a,gO h (f j) (aO h _ _),dP h (hl j) d,bS];rfl
 ·rw[if_neg a,dL h l j oO,aV,eF];by_cases b:j=l.length
  ·rw[if_pos b]
  ·rw[if_neg b,aZ];unfold nv;rw[if_neg oO,iW oO,aZ]
theorem K9 {l:List Nat} (hl:aj s l) {r c:Nat} (a:r<s) (hc:c<s) (x:KF h):vl h x (kl s p l r c)=(x-aA h r)* vl h x l+aA h c:=by
 rw[H3 h (Da h hl a hc) (n:=l.length+1) (λi b=>by
  show mx (aA h r) (co h l) i+ff (aA h c) i=0
  rw[Lm (dL h l) i b,Di (aA h c) i oO,aR])]
 rw[nI,LL (dL h l),fJ (Di (aA h c)) oO,KN];rfl
theorem yH {roots:List Nat} (a:aj s roots) (k:Nat) (x:KF h):vl h x (fromL s p roots (k+1))=(x-aA h (roots.getD k 0))* vl h x (fromL s p roots k):=by
 show vl h x (kl s p (fromL s p roots k) (roots.getD k 0) 0)=_;rw[K9 h (kJ h a k) (a k) (by have:=h.aG;omega),aZ,aR]
theorem yW (roots:List Nat) (x:KF h):vl h x (fromL s p roots 0)=1:=by
 show bN x (co h [1]) 1=1;rw[cN];show aA h 1+x* 0=1;rw[ik,aV,aR]
theorem Gm {roots:List Nat} (a:aj s roots) {x:Nat} (d:x<s):∀k,hornN s p x (fromL s p roots k)=0↔∃i,i<k/\roots.getD i 0=x:=by
 have e:∀k,hornN s p x (fromL s p roots k)=0↔vl h (aA h x) (fromL s p roots k)=0:=λk=>by
  rw[<-C6 h d (kJ h a k)];constructor
  ·intro e;rw[e,aZ]
  ·intro e;rw[<-aZ h]at e;exact fy h (gW h x _ (ek (kJ h a k))) (by have:=h.aG;omega) e
 intro k;rw[e]
 induction k with
 |zero=>
  rw[yW];constructor
  ·intro e1;exact absurd e1 (λe2=>by
    rw[<-ik h,<-aZ h]at e2;have:=fy h (by have:=h.aG;omega) (by have:=h.aG;omega) e2
    omega)
  ·rintro⟨i,f,_⟩;omega
 |succ k g=>
  rw[yH h a];constructor
  ·intro e1;rcases xc e1 with e2|e2
   ·rw[gS]at e2;exact⟨k,by omega,(fy h d (a k) e2).symm⟩
   ·obtain⟨i,f,b⟩:=g.1 e2;exact⟨i,by omega,b⟩
  ·rintro⟨i,f,b⟩;by_cases j:i=k
   ·subst j;rw[b,cA,bU]
   ·rw[g.2 ⟨i,by omega,b⟩,aV]
theorem lV {x:Nat} (b:x<s) {w:List Nat} (a:aj s w):∀k,aA h (eE s p x w k)=bN (aA h x) (rv k (co h w)) k
 |0=>aZ h
 |k+1=>by
  show aA h (aT s p (au s p (eE s p x w k) x) (w.getD k 0))=rv (k+1) (co h w) 0+aA h x* bN (aA h x) (cu (rv (k+1) (co h w))) k;have e1:rv (k+1) (co h w) 0=co h w k:=by unfold rv;rw[if_pos oO];rfl
  have e2:bN (aA h x) (cu (rv (k+1) (co h w))) k=bN (aA h x) (rv k (co h w)) k:=fA λi d=>by
   show rv (k+1) (co h w) (i+1)=_;unfold rv;rw[if_pos oO,if_pos d,show k+1-1-(i+1)=k-1-i from by omega]
  rw[jI h (aO h _ _) (a k),dP h (mV h a k) b,lV b a k,e1,e2,eG,bS];rfl
theorem nJ (first par:Nat):aj s (cU s p first par):=kJ h (s8 h first par) par
omit h in
theorem fl (first par:Nat):(cU s p first par).length=par+1:=lM _ _ _ _
omit h in
theorem sX (first par:Nat):(cU s p first par).getD par 0=1:=F9 _ _ _ _
theorem BE (first par:Nat) {j:Nat} (b:j<par):bN (aA h (bV s p (first+j))) (co h (cU s p first par)) (par+1)=0:=by
 have d:hornN s p (bV s p (first+j)) (cU s p first par)=0:=(Gm h (s8 h first par) (dD h _) par).2 ⟨j,b,by unfold eZ;exact aQ _ _ _ b⟩;have a:=C6 h (dD h (first+j)) (nJ h first par);rw[d,aZ]at a;unfold vl at a;rw[fl]at a;exact a.symm
theorem mA {par:Nat} {data:List Nat} (a:aj s data):aj s (dw par data):=fW h λi _=>by
 split
 ·have:=h.aG;omega
 ·exact a _
theorem q8 {par first:Nat} {data:List Nat} (a:aj s data):aj s (ft s p par first data):=vz h (jl (mA h a))
theorem kg {par first:Nat} {data:List Nat} (d:aj s data):(ft s p par first data).length<=par:=by
 have:=xz h (a:=dJ (dw par data)) (b:=cU s p first par) (jl (mA h d)) (nJ h first par) (by rw[fl];omega) (by rw[fl,Nat.add_sub_cancel,sX];omega);rw[fl]at this;unfold ft;omega
theorem xG {par first:Nat} {data:List Nat} (a:aj s data):aj s (fa s p par first data):=fW h λi _=>by
 split
 ·exact a _
 ·exact eI h (by have:=h.aG;omega) (q8 h a _)
theorem sV {par first:Nat} {data:List Nat} (d:aj s data):nD s p par first data (fa s p par first data):=by
 refine⟨xG h d,pg _ _ _ _ _,λi f=>?_,λj n=>?_⟩
 ·unfold fa;rw[aQ _ _ _ oO,if_pos f]
 ·have o:=dD h (first+j);rw[<-kt h (sK h (xG h d) j)];unfold fL;rw[lV h o (xG h d),pg];have r:(cU s p first par).getD ((cU s p first par).length-1) 0≠0:=by rw[fl,Nat.add_sub_cancel,sX];omega
  have e:∀t,rv (data.length+par) (co h (fa s p par first data)) t=conv (co h (lI s p (dJ (dw par data)) (cU s p first par))) (co h (cU s p first par)) t:=by
   intro t;have l:=div_eq h (a:=dJ (dw par data)) (b:=cU s p first par) (jl (mA h d)) (nJ h first par) (by rw[fl];omega) t;rw[pQ]at l;have e1:rv (data.length+par) (co h (fa s p par first data)) t=co h (dw par data) t-co h (ft s p par first data) t:=by
    unfold rv;by_cases g:t<data.length+par
    ·rw[if_pos g];show aA h ((fa s p par first data).getD (data.length+par-1-t) 0)=aA h ((dw par data).getD t 0)-_;unfold fa dw;rw[aQ _ _ _ oO,aQ _ _ _ g];by_cases k:t<par
     ·rw[if_neg oO,if_pos k,gO h (by have:=h.aG;omega) (q8 h d _),show data.length+par-1-(data.length+par-1-t)=t from by omega];rfl
     ·rw[if_pos oO,if_neg k,dL h _ t (by have:=kg h (par:=par) (first:=first) d;omega),eF]
    ·rw[if_neg g,dL h _ t (by rw[lk];omega),dL h _ t (by have:=kg h (par:=par) (first:=first) d;omega),cA]
   rw[e1,l];exact o8 _ _
  have q:cS (data.length+par) (conv (co h (lI s p (dJ (dw par data)) (cU s p first par))) (co h (cU s p first par))):=λi f=>by rw[<-e i];exact L6 _ _ i f
  rw[fA λi _=>e i,<-fJ q (m:=(data.length+par+(lI s p (dJ (dw par data)) (cU s p first par)).length)+(par+1)) oO,
   zt ((dL h _).mono oO) ((dL h _).mono (by rw[fl];exact Nat.le_refl _)),BE h first par n,aV]
theorem nD.uniq {par first:Nat} {data w w':List Nat} (hn:par<=s-1) (d:nD s p par first data w) (g:nD s p par first data w'):w=w':=by
 refine cD (by rw[d.ln,g.ln]) λi v=>?_;rw[d.ln]at v;by_cases n:i<data.length
 ·rw[d.pre i n,g.pre i n]
 ·let f:Nat->KF h:=λj=>rv (data.length+par) (co h w) j-rv (data.length+par) (co h w') j
  have o:cS par f:=λj l=>by
   show rv (data.length+par) (co h w) j-rv (data.length+par) (co h w') j=0;unfold rv;by_cases k:j<data.length+par
   ·rw[if_pos k,if_pos k];have e1:=d.pre (data.length+par-1-j) oO;have e2:=g.pre (data.length+par-1-j) oO;unfold co;rw[e1,e2,cA]
   ·rw[if_neg k,if_neg k,cA]
  have y:=tT o ((List.range par).map λj=>alpha h^(first+j))
   (kT (λa z b hb e=>(mR h).inj (by have:=List.mem_range.1 z;omega) (by have:=List.mem_range.1 hb;omega) (ju (iu (uo h) first) (by rw[<-gr,<-gr];exact e))) List.nodup_range) oS (λx A=>by
    obtain⟨j,l,rfl⟩:=List.mem_map.1 A;have l:=List.mem_range.1 l;rw[<-fJ o (Nat.le_add_left par data.length)];show bN _ (λj=>rv (data.length+par) (co h w) j-rv (data.length+par) (co h w') j) _=0;have q:=d.cw j l;have r:=g.cw j l;unfold fL at q r;have t:=lV h (dD h (first+j)) d.lt w.length;have u:=lV h (dD h (first+j)) g.lt w'.length;rw[q,aZ,jG,d.ln]at t;rw[r,aZ,jG,g.ln]at u
    rw[s0,<-t,<-u,cA])
  have k:=y (data.length+par-1-i);have m:rv (data.length+par) (co h w) (data.length+par-1-i)-rv (data.length+par) (co h w') (data.length+par-1-i)=0:=k;rw[gS]at m;unfold rv at m;rw[if_pos oO,if_pos oO,show data.length+par-1-(data.length+par-1-i)=i from by omega]at m;exact fy h (d.lt i) (g.lt i) m
end
end
section
open Go.RowKit
theorem GU (W:World) (b n g:Nat) (c:Addr) (a:List Nat) (hn:n=a.length) (o:n<=b) (s:c.block<W.heap.size) (p:∀j,j<(zl a).length->W.cell? (c.add j)=some (.int .i64 ((zl a).getD j 0))):
 ∃d,(Builtin.copy_ #[64,64] 3 #[.slice (some ⟨W.heap.size,0,none⟩) b b,.slice (some c) n g]).run Tryz.prog (W.alloc (.cells (madeCells #[.int .i64 0] b) 3))= .ok (goInt n) d/\ba d W.heap.size (a++List.replicate (b-n) 0)/\Below W.heap.size W d:=by
 have e:n=((zl a).map (Value.int .i64)).length:=by rw[List.length_map,ak];exact hn
 have t:(madeCells #[Value.int .i64 0] b)=(List.replicate b (Value.int .i64 0)).toArray:=by
  apply Array.ext';rw[toList_madeCells_one]
 have m:Below W.heap.size W (W.alloc (.cells (madeCells #[.int .i64 0] b) 3)):=ax _ _;have i:(W.alloc (.cells (madeCells #[.int .i64 0] b) 3)).heap[W.heap.size]?=some (.cells (List.replicate b (Value.int .i64 0)).toArray 3 (0,0)):=by
  rw[<-t];exact heap_alloc_new W (.cells (madeCells #[Value.int .i64 0] b) 3)
 have f:=run_copy_row (P:=Tryz.prog) (W.alloc (.cells (madeCells #[.int .i64 0] b) 3)) 64 64 3 3 W.heap.size 0 b b c n g _ _ ((zl a).map (Value.int .i64)) Tryz.underlying64 Gy i (by rw[<-e];exact(Nat.min_eq_left o).symm) (λj v k=>by
  rw[List.getElem?_map]at k;obtain⟨x,l,rfl⟩:=Option.map_eq_some_iff.1 k;have q:=(List.getElem?_eq_some_iff.1 l).1;rw[m.cell (by rw[aI];exact s),p j q]
  simp[List.getD,l]) (by rw[<-e];simp;omega) (Fu a)
 rw[<-e]at f;have r:(List.take 0 (List.replicate b (Value.int .i64 0)).toArray.toList++(zl a).map (Value.int .i64)++List.drop (0+n) (List.replicate b (Value.int .i64 0)).toArray.toList).toArray=dr (a++List.replicate (b-n) 0):=by
  unfold dr;apply congrArg;rw[List.take_zero,List.nil_append,List.map_append,Nat.zero_add,List.drop_replicate,List.map_replicate];congr 1;unfold zl;rw[List.map_map];rfl
 rw[r]at f;exact⟨_,f,ba.of_heap (setRow_heap _ _ _ _ _ _ i),m.trans (below_setRow (Below.refl _ _) (Nat.le_refl _) _)⟩
def rr (N:Nat) (data:List Nat) (i:Nat):List Nat:=(List.range N).map λj=>if N-1-j<i then data.getD (N-1-j) 0 else 0
theorem q9 (N:Nat) (data:List Nat) (i:Nat):(rr N data i).length=N:=by unfold rr;simp
theorem I0 (N:Nat) (data:List Nat):rr N data 0=List.replicate N 0:=by
 refine cD (by rw[q9,List.length_replicate]) λj a=>?_;rw[q9]at a;unfold rr;rw[aQ _ _ _ a,if_neg oO];simp[List.getD,a]
theorem Iw (N:Nat) (data:List Nat) (i:Nat) (c:i<N):(rr N data i).set (N-1-i) (data.getD i 0)=rr N data (i+1):=by
 unfold rr;rw[dN _ _ _ _ oO];apply List.map_congr_left;intro j a;have a:=List.mem_range.1 a;by_cases e:j=N-1-i
 ·rw[if_pos e,if_pos oO,show N-1-j=i from by omega]
 ·rw[if_neg e];by_cases b:N-1-j<i
  ·rw[if_pos b,if_pos oO]
  ·rw[if_neg b,if_neg oO]
theorem K2 (par:Nat) (data:List Nat):rr (data.length+par) data data.length=dw par data:=by
 unfold rr dw;apply List.map_congr_left;intro j a;have a:=List.mem_range.1 a;by_cases b:j<par
 ·rw[if_pos b,if_neg oO]
 ·rw[if_neg b,if_pos oO]
noncomputable def od (s p N:Nat) (data a:List Nat) (i:Nat):List Nat:=(List.range N).map λj=>if N-1-j<i then aM s p 0 (a.getD (N-1-j) 0)else if j<data.length then data.getD j 0 else 0
theorem qf (s p N:Nat) (data a:List Nat) (i:Nat):(od s p N data a i).length=N:=by unfold od;simp
theorem IB (s p N:Nat) (data c:List Nat) (d:data.length<=N):data++List.replicate (N-data.length) 0=od s p N data c 0:=by
 refine cD (by rw[qf,List.length_append,List.length_replicate];omega) λj b=>?_;rw[List.length_append,List.length_replicate]at b;unfold od;rw[aQ _ _ _ oO,if_neg oO];by_cases a:j<data.length
 ·rw[if_pos a];simp[List.getD,List.getElem?_append_left a]
 ·rw[if_neg a];simp[List.getD,List.getElem?_append_right (show data.length<=j from by omega),show j-data.length<N-data.length from by omega]
theorem Ib (s p N:Nat) (data a:List Nat) (i:Nat) (d:i<N):(od s p N data a i).set (N-1-i) (aM s p 0 (a.getD i 0))=od s p N data a (i+1):=by
 unfold od;rw[dN _ _ _ _ oO];apply List.map_congr_left;intro j b;have b:=List.mem_range.1 b;by_cases e:j=N-1-i
 ·rw[if_pos e,if_pos oO,show N-1-j=i from by omega]
 ·rw[if_neg e];by_cases c:N-1-j<i
  ·rw[if_pos c,if_pos oO]
  ·rw[if_neg c,if_neg (show¬N-1-j<i+1 by omega)]
theorem KQ {c s p:Nat} (h:VF c s p) {par first:Nat} {data:List Nat} (e:aj s data):od s p (data.length+par) data (ft s p par first data) (ft s p par first data).length=fa s p par first data:=by
 have hl:=kg h (par:=par) (first:=first) e;unfold od fa;apply List.map_congr_left;intro j b;have b:=List.mem_range.1 b;by_cases a:j<data.length
 ·rw[if_pos a,if_neg oO,if_pos a]
 ·rw[if_neg a,if_neg a];by_cases d:data.length+par-1-j<(ft s p par first data).length
  ·rw[if_pos d]
  ·rw[if_neg d,iW oO];exact(fy h (eI h (by have:=h.aG;omega) (by have:=h.aG;omega)) (by have:=h.aG;omega) (by rw[gO h (by have:=h.aG;omega) (by have:=h.aG;omega),cA,aZ])).symm
theorem Cn (C S P:Nat) (a b:List Nat) (v u:Value) (w:World) (h:VF C S P) (f:aj S a) (g:cG a) (i:a.length<=4097) (hb:aj S b) (j:cG b) (k:b.length<=4097) (o:b≠[]) (l:aq w v (zl a)) (m:aq w u (zl b)):
 Calls Tryz.prog 115 #[aN C S P,v,u] w λe w'=>∃x y,e= .returned (.tuple #[x,y,.int .i64 0])/\aq w' y (zl (eK S P a b))/\Below w.heap.size w w':=by
 obtain⟨q,rfl,hq,p⟩:=l.sl;obtain⟨r,rfl,n,s⟩:=m.sl;have:=Ce C S P q r w h.rl hq n;rw[p,s]at this;refine this.mono ?_;rintro e w' ⟨x,y,c,z,d,t⟩;have e1:kr C S P (zl a) (zl b)=(zl (lI S P a b),zl (eK S P a b),0):=by
  unfold kr;rw[show nZ C S P (zl a)=true from by unfold nZ;rw[j5 h,C8 f i g];rfl,show nZ C S P (zl b)=true from by unfold nZ;rw[j5 h,C8 hb k j];rfl,qp,qp,if_neg (λe=>o (FU e))];rfl
 rw[e1]at c d;exact⟨x,y,c,d,t⟩
theorem F2 (C S P x:Nat) (w:World) (h:VF C S P) (b:x<S):
 Calls Tryz.prog 117 #[aN C S P,.int .i64 0,.int .i64 x] w λe w'=>e= .returned (.tuple #[.int .i64 ((aM S P 0 x:Nat):Int),.int .i64 0])/\Below w.heap.size w w':=by
 have:=KH C S P 0 x w (by have:=h.le;omega) h.rl;refine this.mono λe w' a=>⟨?_,a.2⟩;rw[a.1];have e1:AH C S P 0 x=(((aM S P 0 x:Nat):Int),0):=by
  unfold AH;have:=gF h (A:=0) (B:=x) (by have:=h.aG;omega) b;rw[if_pos (by simpa using this)];simp
 rw[e1]
theorem tz (C S P par first:Nat) (data:List Nat) (m:Nat) (A:Option Addr) (M:Nat) (w:World) (h:dF C S P par first) (X:m=data.length) (hl:aj S data) (Y:1<=m) (O:m+par<=S-1) (Q:RD w A (zl data)):
 Calls Tryz.prog 62 #[cf C S P par first,.slice A m M] w (jK w (zl (fa S P par first data),0)):=by
 obtain⟨di,b8,d6,d7,d8⟩:=info_parts bZ;have g:=Lib.hid h;obtain⟨s3,dl⟩:=h.s3;have d9:=h.p1;have E:=gT w C S P par first
 have b4:Hid (Below w.heap.size w (w.alloc (eT C S P par first))):=(Below.refl _ _).alloc (Nat.le_refl _) _;obtain⟨N,a0⟩:∃N,m+par=N:=⟨_,rfl⟩;have ea:(m:Int)+(par:Int)=(N:Int):=oO;have ec:N<=4095:=oO;have ch:m<=N:=oO;obtain⟨T,rfl,G,d⟩:=Q (by rw[ak];omega);have a1:=Lib.hid Q;have c7:=Lib.hid G;have U:=Lib.hid hl;have b:=Lib.hid X;have H:=Lib.hid a0;have b7:Hid (∀W,Calls Tryz.prog 113 #[cf C S P par first,.int .i64 N] W λe w'=>e= .returned (.bool true)/\Below W.heap.size W w'):=λW=>yk C S P par first N W oO oO
 have b5:Hid (∀W,af w W->Calls Tryz.prog 112 #[cf C S P par first,.slice (some T) m M] W λe w'=>e= .returned (.bool true)/\Below W.heap.size W w'):=λW l=>qG C S P par first data m (some T) M W h X hl oO (Q.below l)
 have ci:=run_make_row' (P:=Tryz.prog) 64 3 (.int .i64 0) 8 Tryz.underlying64 bZ rfl .i64 .i64 N oO oO;have b9:((m:Int)==0)=false:=by rw[beq_eq_false_iff_ne];omega
 obtain⟨n,o,t,v,z⟩:=E.out _ (Below.refl _ _);clear h hl Q G d X a0 O;go_enter Tryz.func62,Tryz.ntmps62
 go_wp2_with(first
  |(go_at_call 112;refine(b5.out _ b4.out).mono ?_;rintro e ds ⟨rfl,a8⟩;have ab:=Lib.hid a8;clear a8 n o t v z;obtain⟨n,o,t,v,z⟩:=E.out _ ab.out)
  |(go_at_call 113;refine(b7.out _).mono ?_;rintro e dv ⟨rfl,a9⟩;have ac:=Lib.hid (aa ab.out a9);clear a9 n o t v z;obtain⟨n,o,t,v,z⟩:=E.out _ ac.out)
  |(go_at_call 114;refine(wV C S P par first _ g.out).mono ?_;rintro e c ⟨a2,rfl,bb,bd⟩;have be:=Lib.hid bb;have F:=Lib.hid (aa ac.out bd);clear bd bb n o t v z;obtain⟨n,o,t,v,z⟩:=E.out _ F.out))
 clear n o t v z ab ac b9;have bf:Hid (Below c.heap.size c (c.alloc (.cells (madeCells #[.int .i64 0] N) 3))/\ba (c.alloc (.cells (madeCells #[.int .i64 0] N) 3)) c.heap.size (rr N data 0)):=by
  rw[I0];exact⟨ax _ _,ba.made _ _ _ _ rfl⟩
 have bi:Hid (∀W,af c W->af w W):=λW l=>aa (aa b4.out F.out) l;go_loopw [51] (λB wr=>∃i:Nat,i<=m/\B= .int .i64 i/\Hid (Below c.heap.size c wr/\ba wr c.heap.size (rr N data i))) (λB _=>m-(intOf B).toNat)
 case atStart=>exact⟨0,Nat.zero_le _,rfl,bf⟩
 case round=>
  obtain⟨i,b8,rfl,f⟩:=hrel;by_cases ck:i<m
  ·obtain⟨co,e,G,d⟩:=(a1.out.below (bi.out _ f.out.1)) (by rw[ak,<-b.out];omega);cases e;have Z:=d i (by rw[ak,<-b.out];exact ck);rw[bw]at Z;have K:Hid (_=_):=Iw N data i oO;obtain⟨r,J⟩:∃r,r=N-1-i:=⟨_,rfl⟩;have cp:(N:Int)-1-(i:Int)=(r:Int):=oO;have ad:r<N:=oO;rw[<-J]at K;obtain⟨c1,ca⟩:=f.out.2.2 r (by rw[q9];exact ad);generalize data.getD i 0=y at*;generalize al:(rr N data i).getD r 0=u at*;clear d J al G;go_wp2;exact⟨⟨i+1,by omega,by go_num,by rw[<-K.out];exact⟨f.out.1.setCell (Nat.le_refl _) _,f.out.2.set _ _⟩⟩,by simp[intOf];omega⟩
  ·have cq:i=m:=oO;subst cq;have cr:Hid (ba wr c.heap.size (dw par data)):=by
    have:=f.out.2;rw[<-H.out,b.out,K2]at this;exact this
   have am:=Lib.hid (bi.out _ f.out.1);have cs:Hid (aq wr a2 (zl (cU S P first par))):=be.out.below f.out.1;have bo:N=(dw par data).length:=by rw[lk,<-b.out];exact H.out.symm
   have cv:=Lib.hid bo;have HC:Hid (∀W,af wr W->W.cell? ⟨w.heap.size,0,none⟩=some (.int .i64 C)/\W.cell? ⟨w.heap.size,1,none⟩=some (.int .i64 S)/\W.cell? ⟨w.heap.size,2,none⟩=some (.int .i64 P)):=by
    show∀W,_;intro W l;obtain⟨a3,Y,O,-⟩:=E.out _ ((F.out.trans (f.out.1.mono F.out.size)).trans (l.mono (Nat.le_trans F.out.size f.out.1.size)));exact⟨a3,Y,O⟩
   clear bo bf be F b7 b5 E;go_wp2;refine yO (af wr) [1,2,3,5,0,4,6,0,7,8,9,10,11,12,13] (ai (Below.refl _ _)) ?_
   repeat refine zO HC.out ?_
   refine zZ ?_;refine(BB (dw par data) N cv.out _ N _ oO (Nat.le_refl _) (cr.out.below (ai (Below.refl _ _))).rd).mono ?_;rintro e a4 ⟨cb,rfl,bq,bs⟩;have cx:=Lib.hid bq;have ap:Hid (af wr a4):=aa (ai (Below.refl _ _)) bs;clear bq bs;refine⟨_,rfl,ap.out,jO ?_⟩
   repeat refine zO HC.out ?_
   refine zZ ?_;refine(Cn C S P (dJ (dw par data)) (cU S P first par) cb a2 a4 g.out.vf (jl (mA g.out.vf U.out)) (kz _) (by rw[iZ];have:=lk par data;have:=JZ (dw par data) (dw par data).length;have:=H.out;have:=b.out;omega) (nJ g.out.vf first par) (.inr (by rw[fl,Nat.add_sub_cancel,sX];omega)) (by rw[fl];omega) (λe=>by have:=fl (s:=S) (p:=P) first par;rw[e]at this;simp at this) cx.out (cs.out.below ap.out)).mono ?_;rintro e a ⟨dx,ce,rfl,bt,bv⟩;have bx:Hid (aq a ce (zl (ft S P par first data))):=bt;have L:Hid (af wr a):=aa ap.out bv;clear bt bv;refine⟨_,rfl,L.out,jO ?_⟩
   repeat refine zO HC.out ?_
   refine ag ?_;obtain⟨dy,d0,rfl,-,-,bz⟩:=aq.nat bx.out;have cy:=Lib.hid bz;have b1:Hid ((ft S P par first data).length<=N):=by show _<=_;have:=kg g.out.vf (par:=par) (first:=first) U.out;have:=H.out;omega
   have c2:Hid (aj S (ft S P par first data)):=q8 g.out.vf U.out;have b6:Hid (od S P N data (ft S P par first data) (ft S P par first data).length=fa S P par first data):=by
    have:=KQ g.out.vf (par:=par) (first:=first) U.out;rw[<-b.out,H.out]at this;exact this
   clear bz
   obtain⟨a5,c3,av,b2⟩:=GU a N i M T data b.out ch (by
    have a3:T.block<w.heap.size:=c7.out;have Y:=am.out.size;have O:=L.out.size
    omega) (by
    obtain⟨co,e,-,d⟩:=(a1.out.below (aa am.out L.out)) (by rw[ak,<-b.out];omega);cases e
    exact d)
   rw[b.out,IB S P N data (ft S P par first data) (by have:=b.out;omega)]at av;have c4:Hid (Below a.heap.size a a5/\ba a5 a.heap.size (od S P N data (ft S P par first data) 0)):=⟨b2,av⟩;clear av b2;generalize c5:ft S P par first data=j at*
   obtain⟨q,hq⟩:∃q,q=j.length:=⟨_,rfl⟩;have a6:=Lib.hid hq;rw[<-hq]at b1 b6;have ed:q<=N:=b1.out;rw[<-hq];clear c5 hq bx;go_wp2;clear c3 ci;go_loopw [84] (λB wr=>∃k:Nat,k<=q/\B= .int .i64 k/\Hid (Below a.heap.size a wr/\ba wr a.heap.size (od S P N data j k))) (λB _=>q-(intOf B).toNat)
   case atStart=>exact⟨0,Nat.zero_le _,rfl,c4⟩
   case round=>
    obtain⟨k,d1,rfl,D⟩:=hrel;by_cases c8:k<q
    ·obtain⟨d2,rfl,G,d⟩:=(cy.out.below D.out.1) (by rw[ak,<-a6.out];omega);have Z:=d k (by rw[ak,<-a6.out];exact c8);rw[bw]at Z;have K:Hid (_=_):=Ib S P N data j k oO;obtain⟨r,J⟩:∃r,r=N-1-k:=⟨_,rfl⟩;have cp:(N:Int)-1-(k:Int)=(r:Int):=oO;have ad:r<N:=oO;rw[<-J]at K;have cg:Hid (j.getD k 0<S):=c2.out k;obtain⟨d3,d4,d5⟩:=HC.out _ (aa L.out D.out.1);have c9:Hid (∀W,af wr W->W.cell? ⟨a.heap.size,r,none⟩=some (.int .i64 (((od S P N data j k).getD r 0:Nat):Int))/\W.frozen? ⟨a.heap.size,r,none⟩=false):=by
      show∀W,_;intro W l;exact(D.out.2.below l).2 r (by rw[qf];exact ad)
     generalize j.getD k 0=x at*;generalize al:(od S P N data j k).getD r 0=u at*;clear d J al G;go_wp2_with(go_at_call 117;refine(F2 C S P x _ g.out.vf cg.out).mono ?_;rintro e a7 ⟨rfl,V⟩;have b3:Hid (Below a.heap.size a a7/\ba a7 a.heap.size (od S P N data j k)):=⟨aa D.out.1 V,D.out.2.below V⟩;obtain⟨c1,ca⟩:=c9.out _ V;clear V)
     exact⟨⟨k+1,by omega,by go_num,by rw[<-K.out];exact⟨b3.out.1.setCell (Nat.le_refl _) _,b3.out.2.set _ _⟩⟩,by simp[intOf];omega⟩
    ·have c6:k=q:=oO;subst c6;go_wp2;go_ret2
     refine jK.mk rfl ?_ (aa (aa am.out L.out) D.out.1);rw[<-b6.out];exact D.out.2.ints (qf _ _ _ _ _ _).symm (Nat.le_refl _) oM
section
variable (C S P a b : Nat) (w : World) (hv : VF C S P) (ha : a < S) (hb : b < S)
include hv ha hb
theorem wa:Calls Tryz.prog 146 #[aN C S P,.int .i64 a,.int .i64 b] w λe w'=>e= .returned (.int .i64 ((aT S P a b:Nat):Int))/\Below w.heap.size w w':=by
 have:=Fj C S P a b w hv oO oO oO oO;simpa using this
theorem oH:Calls Tryz.prog 147 #[aN C S P,.int .i64 a,.int .i64 b] w λe w'=>e= .returned (.int .i64 ((aM S P a b:Nat):Int))/\Below w.heap.size w w':=by
 have:=EM C S P a b w hv oO oO oO oO;simpa using this
theorem iy:Calls Tryz.prog 148 #[aN C S P,.int .i64 a,.int .i64 b] w λe w'=>e= .returned (.int .i64 ((au S P a b:Nat):Int))/\Below w.heap.size w w':=by
 have:=mL C S P a b w hv oO oO oO oO;simpa using this
omit hb in
theorem oF:Calls Tryz.prog 173 #[aN C S P,.int .i64 a] w λe w'=>e= .returned (.int .i64 ((bE S P a:Nat):Int))/\Below w.heap.size w w':=by
 have:=Br C S P a w hv oO oO;simpa using this
end
theorem xD (C S P b:Nat) (w:World) (hv:VF C S P) (hb:b<S):Calls Tryz.prog 147 #[aN C S P,.int .i64 0,.int .i64 b] w λe w'=>e= .returned (.int .i64 ((aM S P 0 b:Nat):Int))/\Below w.heap.size w w':=oH C S P 0 b w hv (by have:=hv.aG;omega) hb
theorem vt (C S P par first:Nat) (w:World) (h:dF C S P par first):
 Calls Tryz.prog 121 #[cf C S P par first] w λe w'=>e= .returned (.bool true)/\Below w.heap.size w w':=by
 have d:=Lib.hid h;obtain⟨s3,p⟩:=h.s3;have q:=h.p1;have r:=h.p2;have s:=h.f2;have f:=gT w C S P par first
 have u:Hid (Below w.heap.size w (w.alloc (eT C S P par first))):=(Below.refl _ _).alloc (Nat.le_refl _) _;obtain⟨c,o⟩:∃c,S=c+2:=⟨S-2,by omega⟩;subst o;have e1:((c+2:Nat):Int)-2=(c:Int):=oO;obtain⟨g,i,j,k,l⟩:=f.out _ (Below.refl _ _);clear h;go_enter Tryz.func121,Tryz.ntmps121;go_wp2_with(go_at_call 166;refine(Ec C (c+2:Nat) P _ oO d.out.vf.rl).mono ?_;rintro e t ⟨rfl,m⟩;rw[j5 d.out.vf];have n:=Lib.hid m;clear m g i j k l;obtain⟨g,i,j,k,l⟩:=f.out _ n.out)
 go_ret;exact⟨aK oT,cQ n.out⟩
theorem yh (C S P:Nat) (l:List Nat) (n:Nat) (A:Option Addr) (q:Nat) (w:World) (hn:n=l.length) (hl:aj S l) (B:n<=100000000) (hs:S<=4096) (ha:RD w A (zl l)):
 Calls Tryz.prog 122 #[aN C S P,.slice A n q] w λe w'=>e= .returned (.bool true)/\Below w.heap.size w w':=by
 have r:=Lib.hid ha;have f:=Lib.hid hn;have s:=Lib.hid hl;have t:Hid (an (w.alloc (dS C S P)) w.heap.size (jS C S P)):=an.new _ _ _ _ rfl;clear ha hn hl;go_enter Tryz.func122,Tryz.ntmps122;go_wp2;go_loopw [5] (λc wr=>∃i:Nat,i<=n/\c= .int .i64 i/\Hid (af (w.alloc (dS C S P)) wr)) (λc _=>n-(intOf c).toNat)
 case atStart=>exact⟨0,Nat.zero_le _,rfl,Below.refl _ _⟩
 case round=>
  obtain⟨i,D,rfl,hB⟩:=hrel;by_cases z:i<n
  ·obtain⟨u,rfl,p,k⟩:=(r.out.below (aa (ax _ _) hB.out)) (by rw[ak,<-f.out];omega);have d:=k i (by rw[ak,<-f.out];exact z);rw[bw]at d;have v:Hid (l.getD i 0<S):=s.out i;generalize l.getD i 0=x at*;have g:Hid (∀W,af wr W->(W.cell? ⟨w.heap.size,0,none⟩=some (.int .i64 C)/\W.cell? ⟨w.heap.size,1,none⟩=some (.int .i64 S)/\W.cell? ⟨w.heap.size,2,none⟩=some (.int .i64 P))/\W.cell? (u.add i)=some (.int .i64 (x:Int))):=by
    show∀W,_;intro W j;exact⟨eA (t.out.below (aa hB.out j)),(j.cell (by rw[aI];exact p)).trans d⟩
   clear k p;go_wp2;clear d;refine yO (af wr) [1,2,3,4,5,0,6,0,7] (ai (Below.refl _ _)) ?_
   repeat refine zO g.out ?_
   refine zZ ?_;refine(LJ C S P x _).mono ?_;rintro e y ⟨rfl,m⟩;rw[Bm v.out];have o:Hid (af wr y):=aa (ai (Below.refl _ _)) m;clear m;refine⟨_,rfl,o.out,jO ?_⟩
   repeat refine zO g.out ?_
   refine ag ?_;go_wp2;exact⟨⟨i+1,by omega,by go_num,aa hB.out o.out⟩,by simp[intOf];omega⟩
  ·go_wp2;go_ret;exact⟨rfl,cQ hB.out⟩
theorem sR {c s p:Nat} (h:VF c s p) (j:Nat):bV s p j=fpowN s p (aw s p) j:=
 fy h (dD h _) (lZ h _ _) (by rw[jG,s6 h (iz h).2.1];rfl)
theorem zx {c s p:Nat} (h:VF c s p) (j:Nat):au s p (bV s p j) (aw s p)=bV s p (j+1):=by
 rw[sR h,sR h];rfl
theorem FJ (s p first i:Nat):eZ s p first (i+1)=eZ s p first i++[bV s p (first+i)]:=by
 unfold eZ;rw[List.range_succ,List.map_append];rfl
theorem vi (C S P par first:Nat) (w:World) (h:dF C S P par first):
 Calls Tryz.prog 185 #[cf C S P par first] w λe w'=>∃v,e= .returned v/\aq w' v (zl (eZ S P first par))/\Below w.heap.size w w':=by
 obtain⟨z,A,J,K,L⟩:=info_parts bZ;have a:=Lib.hid h;obtain⟨s3,ac⟩:=h.s3;have ad:=h.p1;have B:=h.p2;have D:=h.f2;have hg:=jy h.vf;have m:=gT w C S P par first
 have a7:Hid (Below w.heap.size w (w.alloc (eT C S P par first))):=(Below.refl _ _).alloc (Nat.le_refl _) _;have M:Hid (∀W,Calls Tryz.prog 213 #[aN C S P,.int .i64 ((aw S P:Nat):Int),.int .i64 first] W λe w'=>e= .returned (.int .i64 ((bV S P (first+0):Nat):Int))/\Below W.heap.size W w'):=by
  show∀W,_;intro W;have:=qB C S P (aw S P) first W a.out.vf hg oO
  rw[Nat.add_zero,sR a.out.vf];exact this
 have N:Hid (∀W,Calls Tryz.prog 210 #[aN C S P] W λe w'=>e= .returned (.int .i64 ((aw S P:Nat):Int))/\Below W.heap.size W w'):=λW=>rq C S P W a.out.vf;have O:Hid (∀W i,Calls Tryz.prog 148 #[aN C S P,.int .i64 ((bV S P (first+i):Nat):Int),.int .i64 ((aw S P:Nat):Int)] W λe w'=>e= .returned (.int .i64 ((bV S P (first+(i+1)):Nat):Int))/\Below W.heap.size W w'):=by
  show∀W i,_;intro W i;have:=iy C S P (bV S P (first+i)) (aw S P) W a.out.vf (dD a.out.vf _) hg;rw[zx a.out.vf]at this;exact this
 have a8:par<=4094:=oO;obtain⟨b,c,j,k,l⟩:=m.out _ (Below.refl _ _);clear h hg B D;generalize aw S P=G at*;go_enter Tryz.func185,Tryz.ntmps185
 go_wp2_with(first
  |(go_at_call 210;refine(N.out _).mono ?_;rintro e al ⟨rfl,s⟩;have t:=Lib.hid s;clear s b c j k l;obtain⟨b,c,j,k,l⟩:=m.out _ t.out)
  |(go_at_call 213;refine(M.out _).mono ?_;rintro e am ⟨rfl,u⟩;have Q:=Lib.hid (aa t.out u);clear u b c j k l))
 go_loopw [4,5,6] (λE rv o wr=>∃i:Nat,i<=par/\o= .int .i64 i/\rv= .int .i64 ((bV S P (first+i):Nat):Int)/\Hid (af (w.alloc (eT C S P par first)) wr)/\Hid (wr.ownsRow (w.heap.size+1) 3 1 E i ((eZ S P first i).map vN))) (λ_ _ o _=>par-(intOf o).toNat)
 case atStart=>exact⟨0,Nat.zero_le _,rfl,rfl,Q.out,World.ownsRow_nil _ _ _ _⟩
 case round=>
  obtain⟨i,a4,rfl,rfl,hB,n⟩:=hrel;obtain⟨ap,cc,rfl⟩:=cd n.out;obtain⟨b,c,j,k,l⟩:=m.out _ hB.out;by_cases a5:i<par
  ·have F:=Lib.hid (λW=>O.out W i);have T:Hid (eZ S P first (i+1)=eZ S P first i++[bV S P (first+i)]):=FJ S P first i
   generalize bV S P (first+i)=r at*;generalize x:bV S P (first+(i+1))=av at*;have U:=Lib.hid x;clear x;have a6:i<=4094:=oO;have V:Hid (w.heap.size+1<=wr.heap.size):=by show _<=_;have:=hB.out.size;simp at this;omega
   go_wp2_with(first
    |(at_builtin;refine bg (f:=vN) (d:=0) qy rfl _ _ _ rfl (w.heap.size+1) 3 z _ 8 Tryz.underlying64 A J K L rfl _ i (eZ S P first i) rfl (n.out.alloc _) (some ⟨wr.heap.size,0,none⟩) 1 1 [r] rfl rfl (RG.one _ _ _ _ rfl) oM oO (by have:=V.out;simp;omega) ?_;intro a0 H q hg;obtain⟨a1,a2,rfl⟩:=cd q;have X:=Lib.hid q;have y:Hid (af (w.alloc (eT C S P par first)) H):=(ah hB.out _).grown hg (by have:=hB.out.size;simp;simp at this;omega) (λg Y=>by have:=(n.out.lt g Y).1;simp;omega);clear q hg b c j k l;obtain⟨b,c,j,k,l⟩:=m.out _ y.out)
    |(go_at_call 148;refine(F.out _).mono ?_;rintro e a3 ⟨rfl,p⟩;have Z:=Lib.hid (aa y.out p);have ab:=Lib.hid (ao X.out p);clear p))
   exact⟨⟨i+1,by omega,by go_num,by rw[U.out],Z.out,by rw[T.out];exact ab.out⟩,by simp[intOf];omega⟩
  ·obtain rfl:i=par:=oO;go_wp2;go_ret;exact⟨_,rfl,aq.vc (SG.bK (f:=vN) (d:=0) n.out),cQ hB.out⟩
theorem fC.FV (w:World) (C S P n:Nat) (t:TypeId):fC w ((w.alloc (dS C S P)).alloc (.cells (madeCells #[Value.int .i64 0] n) t)) (jS C S P) (List.replicate n 0):=
 ⟨((Below.refl _ _).alloc (Nat.le_refl _) _).alloc oS _,(an.new _ _ _ _ rfl).alloc _,ba.made _ _ _ _ oS⟩
theorem lz (C S P N:Nat) (a b:List Nat) (A B:Option Addr) (n m ad al:Nat) (w:World) (l:VF C S P) (E:aj S a) (Q:aj S b) (hn:n=a.length) (p:m=b.length) (b2:1<=n) (b3:1<=m) (b4:n<=4097) (b5:m<=4097) (b6:1<=N) (b7:N<=8193)
 (G:RD w A (zl a)) (hb:RD w B (zl b)):
 Calls Tryz.prog 170 #[aN C S P,.slice A n ad,.slice B m al,.int .i64 N] w λe w'=>∃v,e= .returned v/\(aq w' v (zl (cE S P a b (min N (n+m-1)) a.length 0))/\Below w.heap.size w w')/\pX w v:=by
 obtain⟨L,H⟩:∃L,L=n+m-1:=⟨_,rfl⟩;rw[<-H];obtain⟨d,J⟩:∃d,d=min N L:=⟨_,rfl⟩;rw[<-J];have a7:max (0:Int) ((n:Int)+(m:Int)-1)=(L:Int):=oO;have a8:min (N:Int) (L:Int)=(d:Int):=oO;have b8:1<=d:=oO;have b9:d<=8193:=oO;have a9:=run_make_row' (P:=Tryz.prog) 64 3 (.int .i64 0) 8 Tryz.underlying64 bZ rfl .i64 .i64 d oO oO;have r:=Lib.hid l;have bb:=Lib.hid E;have bd:=Lib.hid Q;have am:=Lib.hid G;have ap:=Lib.hid hb;have av:=Lib.hid (xT l a b d);have Y:Hid (∀i j,(cE S P a b d i j).length=d):=λi j=>eo _ _ _ _ _ _ _;have bz:Hid (∀i j:Nat,i+j<d->(cE S P a b d i j).set (i+j) (aT S P ((cE S P a b d i j).getD (i+j) 0) (au S P (a.getD i 0) (b.getD j 0)))=cE S P a b d i (j+1)):=λi j be=>zh l a b be;have ac:Hid (∀i j,(j=m\/d<=i+j)->cE S P a b d i j=cE S P a b d (i+1) 0):=λi j a0=>zD l a b E (by rw[<-p];exact a0);have bf:Hid (∀i j,aj S (cE S P a b d i j)):=λi j=>j7 l a b d i j;have s:=Lib.hid hn;have K:=Lib.hid p;clear l E Q G hb hn p H J;go_enter Tryz.func170,Tryz.ntmps170;go_wp2;clear a9 a7 a8;go_loopw [10] (λi wr=>∃k:Nat,k<=n/\i= .int .i64 k/\Hid (fC w wr (jS C S P) (cE S P a b d k 0))) (λi _=>n-(intOf i).toNat)
 case atStart=>exact⟨0,Nat.zero_le _,rfl,by rw[av.out];exact fC.FV w C S P d _⟩
 case round=>
  obtain⟨k,b1,rfl,t⟩:=hrel;by_cases bi:k<n
  ·go_wp2;obtain⟨M,rfl⟩:∃M:World,M=wr:=⟨_,rfl⟩;go_loopw [11] (λj wr=>∃q:Nat,q<=m/\j= .int .i64 q/\Hid (fC w wr (jS C S P) (cE S P a b d k q))) (λj _=>m-(intOf j).toNat)
   case atStart=>exact⟨0,Nat.zero_le _,rfl,t⟩
   case round=>
    obtain⟨q,hq,rfl,f⟩:=hrel;by_cases bt:q<m
    ·by_cases bv:k+q<d
     ·obtain⟨a1,rfl,Z,T⟩:=(am.out.below f.out.B) (by rw[ak,<-s.out];omega);have z:=T k (by rw[ak,<-s.out];exact bi);rw[bw]at z;obtain⟨a2,rfl,ab,U⟩:=(ap.out.below f.out.B) (by rw[ak,<-K.out];omega);have D:=U q (by rw[ak,<-K.out];exact bt);rw[bw]at D;have a3:Hid (a.getD k 0<S):=bb.out k;have a4:Hid (b.getD q 0<S):=bd.out q;have bx:Hid (_=_):=bz.out k q bv;have a5:Hid ((cE S P a b d k q).getD (k+q) 0<S):=bf.out k q _;have F:=f.out.O.2 (k+q) (by rw[Y.out];omega);generalize a.getD k 0=x at*;generalize bo:b.getD q 0=y at*;generalize bq:(cE S P a b d k q).getD (k+q) 0=u at*;have o:Hid (∀W,af wr W->(W.cell? ⟨w.heap.size,0,none⟩=some (.int .i64 C)/\W.cell? ⟨w.heap.size,1,none⟩=some (.int .i64 S)/\W.cell? ⟨w.heap.size,2,none⟩=some (.int .i64 P))/\W.cell? ⟨w.heap.size+1,k+q,none⟩=some (.int .i64 (u:Int))/\W.frozen? ⟨w.heap.size+1,k+q,none⟩=false/\W.cell? (a1.add k)=some (.int .i64 (x:Int))/\W.cell? (a2.add q)=some (.int .i64 (y:Int))):=by
       show∀W,_;intro W g;exact⟨eA (f.out.X.below g),(g.cell f.out.O.1).trans F.1,(g.frozen f.out.O.1).trans F.2,(g.cell (by rw[aI];exact Z)).trans z,(g.cell (by rw[aI];exact ab)).trans D⟩
      clear bo bq U F z D T Z ab;have ca:(0:Int)<=(k:Int)+q:=oO;have cb:(k:Int)+q<(d:Int):=oO;have ce:((k:Int)+q).toNat=k+q:=oO;have bs:IntKind.i64.wrap ((k:Int)+q)=(k:Int)+q:=aE _ oO oO;go_wp2;refine bj (S:=af wr) 23 oK oK (ai (Below.refl _ _)) ?_;simp only[List.take_succ_cons,List.take_zero,List.drop_succ_cons,List.drop_zero]
      repeat refine kO o.out ?_
      refine kX (λW g=>iy C S P x y W r.out a3.out a4.out) ?_
      repeat refine kO o.out ?_
      refine kX (λW g=>wa C S P u (au S P x y) W r.out a5.out (aO r.out _ _)) ?_
      repeat refine kO o.out ?_
      refine bR ?_;intro a6 V;have X:=Lib.hid V;clear V;obtain⟨-,cg,ch,-⟩:=o.out a6 X.out;go_wp2;clear bs;exact⟨⟨q+1,by omega,by go_num,by rw[<-bx.out];exact(f.out.below X.out).set _ _⟩,by simp[intOf];omega⟩
     ·go_wp2;exact⟨⟨k+1,by omega,by go_num,by rw[<-ac.out k q (.inr oO)];exact f⟩,by simp[intOf];omega⟩
    ·obtain rfl:q=m:=oO;go_wp2;exact⟨⟨k+1,by omega,by go_num,by rw[<-ac.out k q (.inl rfl)];exact f⟩,by simp[intOf];omega⟩
  ·obtain rfl:k=n:=oO;go_wp2;go_ret;refine⟨_,rfl,⟨?_,t.out.B⟩,pX.mk oO⟩;have O:=t.out.O.ints (c:=d) (Y.out _ _).symm (Nat.le_refl _) oM;rw[s.out]at O;exact O
section
open Fl
variable {c s p : Nat} (h : VF c s p)
include h
theorem uR {a b:Nat} (d:a<s) (hb:b<s):aj s [a,b]:=λi=>by
 match i with
 |0=>exact d
 |1=>exact hb
 |i+2=>have:=h.aG;simp[List.getD];omega
theorem L8 {a b:Nat} (g:a<s) (hb:b<s) (f:Nat->KF h) (m:Nat):conv f (co h [a,b]) m=aA h a* f m+aA h b* sh f m:=by
 rw[gf];cases m with
 |zero=>show aA h a* f 0=aA h a* f 0+aA h b* 0;rw[aV,aR]
 |succ m=>
  rw[bW];show aA h a* f (m+1)+conv (cu (co h [a,b])) f m=aA h a* f (m+1)+aA h b* f m
  have e:conv (cu (co h [a,b])) f m=conv (ff (aA h b)) f m:=dK (λk _=>by
   show co h [a,b] (k+1)=ff (aA h b) k;unfold ff;by_cases d:k=0
   ·subst d;rfl
   ·rw[if_neg d];exact dL h [a,b] (k+1) oT) (λ_ _=>rfl)
  rw[e,kE]
theorem LU {out:List Nat} (a:aj s out) {r:Nat} (b:r<s) (j:1<=out.length):cE s p out [aM s p 0 r,1] (out.length+1) out.length 0=kl s p out r 0:=by
 have g:=h.aG;have e:aM s p 0 r<s:=eI h oO b
 refine Em h (j7 h _ _ _ _ _) (by
  intro i;have:=kJ h (roots:=[r]) (λi=>by match i with|0=>exact b|i+1=>simp[List.getD];omega) 0;unfold kl;rw[Dt _ _ _ _ _ _ (Nat.le_refl _)];unfold nv;split
  ·exact eI h (by split<;>first|omega|exact a _) (aO h _ _)
  ·split
   ·split<;>first|omega|exact a _
   ·omega) (by rw[eo];unfold kl;rw[mI]) λm=>?_
 rw[Da h a b oO,aZ];by_cases f:m<out.length+1
 ·rw[p6 h a (uR h e oO) f,L8 h e oO,ik,dB];show _=sh (co h out) m-aA h r* co h out m+ff 0 m;have d:ff (0:KF h) m=0:=by unfold ff;split<;>rfl
  rw[d,aR,gO h oO b,aZ,de,de,bO,kI,eG]
 ·rw[dL h _ m (by rw[eo];omega)];show _=sh (co h out) m-aA h r* co h out m+ff 0 m;have d:ff (0:KF h) m=0:=by unfold ff;split<;>rfl
  obtain⟨k,rfl⟩:∃k,m=k+1:=⟨m-1,by omega⟩;show 0=co h out k-aA h r* co h out (k+1)+ff 0 (k+1);rw[d,dL h _ k oO,dL h _ (k+1) oO,aV,cA,aR]
end
theorem xt (C S P par first:Nat) (w:World) (h:dF C S P par first):
 Calls Tryz.prog 145 #[cf C S P par first] w λe w'=>∃v,e= .returned v/\aq w' v (zl (cU S P first par))/\Below w.heap.size w w':=by
 have b:=Lib.hid h;obtain⟨s3,bb⟩:=h.s3;have o:=h.p1;have f:=h.p2;have p:=gT w C S P par first
 have bo:Hid (Below w.heap.size w (w.alloc (eT C S P par first))):=(Below.refl _ _).alloc (Nat.le_refl _) _;have am:Hid (aq ((w.alloc (eT C S P par first)).alloc (.cells #[.int .i64 1] 3)) (.slice (some ⟨w.heap.size+1,0,none⟩) 1 1) (zl [1])):=aq.lit _ [1] 3 _ 1 oS rfl oO;have s:Hid (aj S (eZ S P first par)):=s8 h.vf first par
 have bq:par<=4094:=oO;have t:Hid (af (w.alloc (eT C S P par first)) ((w.alloc (eT C S P par first)).alloc (.cells #[.int .i64 1] 3))):=ax _ _;obtain⟨Q,T,U,V,X⟩:=p.out _ t.out;clear h f;go_enter Tryz.func145,Tryz.ntmps145;go_wp2_with(go_at_call 185;refine(vi C S P par first _ b.out).mono ?_;rintro e Y ⟨bd,rfl,u,m⟩;obtain⟨be,bf,rfl,-,-,z⟩:=aq.nat u;rw[fh];have ap:=Lib.hid z;have A:=Lib.hid (aa t.out m);have av:=Lib.hid (am.out.below m);clear z u m Q T U V X)
 go_loopw [3,5] (λZ g wr=>∃i:Nat,i<=par/\g= .int .i64 i/\Hid (aq wr Z (zl (fromL S P (eZ S P first par) i)))/\Hid (af Y wr)) (λ_ g _=>par-(intOf g).toNat)
 case atStart=>exact⟨0,Nat.zero_le _,rfl,av,Below.refl _ _⟩
 case round=>
  obtain⟨i,bi,rfl,j,hB⟩:=hrel;by_cases a0:i<par
  ·obtain⟨q,B,rfl,-,-,D⟩:=aq.nat j.out;have a1:=Lib.hid D;clear D;have c:Hid ((fromL S P (eZ S P first par) i).length=i+1):=lM _ _ _ _;have E:Hid (aj S (fromL S P (eZ S P first par) i)):=kJ b.out.vf s.out i;have k:Hid ((eZ S P first par).getD i 0<S):=s.out i;have a2:Hid (cE S P (fromL S P (eZ S P first par) i) [aM S P 0 ((eZ S P first par).getD i 0),1] (i+1+1) (i+1) 0=fromL S P (eZ S P first par) (i+1)):=by
    have:=LU b.out.vf E.out k.out (by rw[c.out];omega);rw[c.out]at this;exact this
   obtain⟨r,rfl,O,F⟩:=(ap.out.below hB.out) (by rw[ak,fh];omega);have l:=F i (by rw[ak,fh];exact a0);rw[bw]at l;rw[c.out]at j⊢;generalize fromL S P (eZ S P first par) i=out at*;generalize(eZ S P first par).getD i 0=x at*;have G:(r.add i).block<wr.heap.size:=by rw[aI];exact O
   have H:Hid (∀W,af wr W->(W.cell? ⟨w.heap.size,0,none⟩=some (.int .i64 C)/\W.cell? ⟨w.heap.size,1,none⟩=some (.int .i64 S)/\W.cell? ⟨w.heap.size,2,none⟩=some (.int .i64 P))/\W.cell? (r.add i)=some (.int .i64 (x:Int))):=by
    show∀W,_;intro W d;obtain⟨ab,ac,ad,-⟩:=p.out _ (aa (aa A.out hB.out) d);exact⟨⟨ab,ac,ad⟩,(d.cell G).trans l⟩
   have a3:IntKind.i64.wrap (((i+1:Nat):Int)+1)=((i+2:Nat):Int):=by rw[aE _ oO oO];omega
   have a9:IntKind.i64.wrap ((i:Int)+1+1)=((i+2:Nat):Int):=by rw[aE _ oO oO];omega
   clear F O l G;go_wp2;refine yO (af wr) [1,2,3,4,5,6,7,8,9,12,13,14,0,10,11,15,0,16] (ai (Below.refl _ _)) ?_
   repeat refine zO H.out ?_
   refine zZ ?_;refine(xD C S P x _ b.out.vf k.out).mono ?_;rintro e a ⟨rfl,J⟩;have n:Hid (af wr a):=aa (ai (Below.refl _ _)) J;have a4:Hid (aM S P 0 x<S):=eI b.out.vf oO k.out;clear J;generalize aM S P 0 x=y at*;refine⟨_,rfl,n.out,jO ?_⟩;refine' zQ (v:= .slice (some ⟨a.heap.size,0,none⟩) 2 2) (w':=a.alloc (.cells #[.int .i64 y,.int .i64 1] 3)) rfl (by go_simp) (ah n.out _) ?_;have K:Hid (af wr (a.alloc (.cells #[.int .i64 (y:Int),.int .i64 1] 3))):=ah n.out _;have a5:Hid (RD (a.alloc (.cells #[.int .i64 (y:Int),.int .i64 1] 3)) (some ⟨a.heap.size,0,none⟩) (zl [y,1])):=RD.lit a [y,1] 3 _ rfl;have a6:Hid (∀W,af wr W->RD W (some ⟨a.heap.size,0,none⟩) (zl [y,1])->Calls Tryz.prog 170 #[aN C S P,.slice q (i+1) B,.slice (some ⟨a.heap.size,0,none⟩) 2 2,.int .i64 ((i:Int)+2)] W λe w'=>∃v,e= .returned v/\aq w' v (zl (fromL S P (eZ S P first par) (i+1)))/\Below W.heap.size W w'):=by
    show∀W,_;intro W d a7;have:=lz C S P (i+2) out [y,1] q (some ⟨a.heap.size,0,none⟩) (i+1) 2 B 2 W b.out.vf E.out (uR b.out.vf a4.out oO) c.out.symm rfl oO oO oO oO oO oO (a1.out.below d) a7;rw[show((i+2:Nat):Int)=(i:Int)+2 from by omega,show min (i+2) (i+1+2-1)=i+1+1 from by omega,c.out,a2.out]at this;exact this.mono λe w' ⟨v,o,f,_⟩=>⟨v,o,f⟩
   clear a3 a9;refine zZ ?_;refine(a6.out _ K.out a5.out).mono ?_;rintro e al ⟨v4,rfl,L,M⟩;have a8:=Lib.hid L;have N:Hid (af wr al):=aa K.out M;clear L M;refine⟨_,rfl,N.out,jO ?_⟩
   repeat refine zO H.out ?_
   refine ag ?_;go_wp2;exact⟨⟨i+1,by omega,by go_num,a8,aa hB.out N.out⟩,by simp[intOf];omega⟩
  ·obtain rfl:i=par:=oO;go_wp2;go_ret;exact⟨_,rfl,j.out,cQ (aa A.out hB.out)⟩
def kk (s p par:Nat) (g R:List Nat) (q k:Nat):List Nat:=(List.range par).map λj=>if j<k then aM s p (if j+1<par then R.getD (j+1) 0 else 0) (au s p q (g.getD (par-1-j) 0))else R.getD j 0
theorem lA (s p par:Nat) (g R:List Nat) (q k:Nat):(kk s p par g R q k).length=par:=by unfold kk;simp
theorem I4 (s p par:Nat) (g R:List Nat) (q:Nat) (b:R.length=par):kk s p par g R q 0=R:=by
 refine cD (by rw[lA,b]) λj a=>?_;rw[lA]at a;unfold kk;rw[aQ _ _ _ a,if_neg oO]
theorem Kv (s p par:Nat) (g R:List Nat) (q k j:Nat) (a:j<par) (b:k<=j):(kk s p par g R q k).getD j 0=R.getD j 0:=by
 unfold kk;rw[aQ _ _ _ a,if_neg oO]
theorem Jj (s p par:Nat) (g R:List Nat) (q k:Nat) (b:k<par):
 (kk s p par g R q k).set k (aM s p (if k+1<par then R.getD (k+1) 0 else 0) (au s p q (g.getD (par-1-k) 0)))=kk s p par g R q (k+1):=by
 unfold kk;rw[dN _ _ _ _ b];apply List.map_congr_left;intro j d;by_cases e:j=k
 ·subst e;rw[if_pos rfl,if_pos (show j<j+1 by omega)]
 ·rw[if_neg e];by_cases a:j<k
  ·rw[if_pos a,if_pos (show j<k+1 by omega)]
  ·rw[if_neg a,if_neg (show¬j<k+1 by omega)]
def jN (s p par:Nat) (g data:List Nat):Nat->List Nat
 |0=>List.replicate par 0
 |i+1=>kk s p par g (jN s p par g data i) (aT s p (data.getD i 0) ((jN s p par g data i).getD 0 0)) par
theorem qg (s p par:Nat) (g data:List Nat) (i:Nat):(jN s p par g data i).length=par:=by
 cases i with
 |zero=>show(List.replicate par 0).length=par;simp
 |succ i=>exact lA _ _ _ _ _ _ _
noncomputable def j9 (s p par first:Nat) (data:List Nat):List Nat:=data++(List.range par).map λk=>aM s p 0 ((jN s p par (cU s p first par) data data.length).getD k 0)
section
open Fl
variable {c s p : Nat} (h : VF c s p)
include h
theorem Gg {par:Nat} {g R:List Nat} (a:aj s R) (q k:Nat):aj s (kk s p par g R q k):=fW h λj _=>by
 have:=h.aG;split
 ·exact eI h (by split<;>first|exact a _|omega) (aO h _ _)
 ·exact a _
theorem pM {par:Nat} (g data:List Nat) (i:Nat):aj s (jN s p par g data i):=by
 induction i with
 |zero=>
  intro j;have:=h.aG;show(List.replicate par 0).getD j 0<s;simp[List.getD,List.getElem?_replicate];split<;>simp<;>omega
 |succ i a=>exact Gg h a _ _
theorem Lp {par first:Nat} {R:List Nat} (e:aj s R) (x:R.length=par) (u:1<=par) {d:Nat} (l:d<s) {j:Nat} (n:j<par):
 aA h (eE s p (bV s p (first+j)) (kk s p par (cU s p first par) R (aT s p d (R.getD 0 0)) par) par)=aA h (bV s p (first+j))* aA h (eE s p (bV s p (first+j)) R par)+aA h d* aA h (bV s p (first+j))^par:=by
 have m:=dD h (first+j);have hg:=nJ h first par
 have i:=BE h first par n
 have hq:aT s p d (R.getD 0 0)<s:=ja h _ _ l (e 0);have q:=Gg h (par:=par) (g:=cU s p first par) e (aT s p d (R.getD 0 0)) par;rw[lV h m q,lV h m e];generalize w:aA h (bV s p (first+j))=r at*;have e1:∀t,t<par->rv par (co h (kk s p par (cU s p first par) R (aT s p d (R.getD 0 0)) par)) t=sh (rv par (co h R)) t-aA h (aT s p d (R.getD 0 0))* co h (cU s p first par) t:=by
  intro t o;unfold rv;rw[if_pos o];show aA h ((kk s p par (cU s p first par) R (aT s p d (R.getD 0 0)) par).getD (par-1-t) 0)=_;unfold kk;rw[aQ _ _ _ oO,if_pos oO,gO h (by split<;>first|exact e _|(have:=h.aG;omega)) (aO h _ _),dP h hq (hg _),show par-1-(par-1-t)=t from by omega];congr 1;cases t with
  |zero=>rw[if_neg oO,aZ];rfl
  |succ t=>
   rw[if_pos oO];show aA h (R.getD (par-1-(t+1)+1) 0)=if t<par then co h R (par-1-t)else 0
   rw[if_pos oO,show par-1-(t+1)+1=par-1-t from by omega];rfl
 rw[fA e1,s0 r (sh (rv par (co h R))) (λt=>aA h (aT s p d (R.getD 0 0))* co h (cU s p first par) t),oB];have e2:bN r (sh (rv par (co h R))) par=r* bN r (rv par (co h R)) par-aA h (R.getD 0 0)* r^par:=by
  have f:=Fp r (rv par (co h R)) par;rw[xn]at f;have e3:sh (rv par (co h R)) par=aA h (R.getD 0 0):=by
   obtain⟨k,rfl⟩:∃k,par=k+1:=⟨par-1,by omega⟩;show rv (k+1) (co h R) k=_;unfold rv;rw[if_pos oO,show k+1-1-k=0 from by omega];rfl
  rw[e3]at f;rw[<-f,o8]
 have e4:bN r (co h (cU s p first par)) par=0-r^par:=by
  rw[xn]at i;have e5:co h (cU s p first par) par=1:=by show aA h ((cU s p first par).getD par 0)=1;rw[sX,ik]
  rw[e5,dB]at i;rw[<-i,o8]
 rw[e2,e4,jI h l (e 0)];generalize aA h (R.getD 0 0)=a;generalize aA h d=b;generalize r^par=z;generalize r* bN r (rv par (co h R)) par=v;have e6:(b+a)* (0-z)=-(b* z)+-(a* z):=by rw[gu,de,bO,lR,lR]
 rw[e6,de,de,gV,jZ,jZ];have e7:v+-(a* z)+(b* z+a* z)=v+b* z+(a* z+-(a* z)):=by ac_rfl
 rw[e7,kF,aR]
theorem Fo {par first:Nat} {data:List Nat} (a:aj s data) (d:1<=par) {j:Nat} (e:j<par):∀i,
 aA h (eE s p (bV s p (first+j)) (jN s p par (cU s p first par) data i) par)=aA h (eE s p (bV s p (first+j)) data i)* aA h (bV s p (first+j))^par
 |0=>by
  have b:=dD h (first+j);rw[lV h b (pM h _ _ _)];show bN _ _ par=aA h 0* _;rw[aZ,bU];refine qI (λi=>?_) par;unfold rv;split
  ·show aA h ((List.replicate par 0).getD (par-1-i) 0)=0;have:(List.replicate par 0).getD (par-1-i) 0=0:=by simp[List.getD,List.getElem?_replicate];split<;>rfl
   rw[this,aZ]
  ·rfl
 |i+1=>by
  have b:=dD h (first+j);show aA h (eE s p _ (kk s p par (cU s p first par) (jN s p par (cU s p first par) data i) _ par) par)=aA h (aT s p (au s p (eE s p (bV s p (first+j)) data i) (bV s p (first+j))) (data.getD i 0))* _;rw[Lp h (pM h _ _ _) (qg _ _ _ _ _ _) d (a i) e,Fo a d e i,jI h (aO h _ _) (a i),dP h (mV h a i) b,gu];congr 1
  ac_rfl
omit h in
theorem ye {x:Nat} {w v:List Nat}:∀k,(∀i,i<k->w.getD i 0=v.getD i 0)->eE s p x w k=eE s p x v k
 |0,_=>rfl
 |k+1,e=>by
  show aT s p (au s p (eE s p x w k) x) (w.getD k 0)=aT s p (au s p (eE s p x v k) x) (v.getD k 0);rw[ye k λi hi=>e i oO,e k oO]
omit h in
theorem oz (par first:Nat) (data:List Nat):(j9 s p par first data).length=data.length+par:=by unfold j9;simp
omit h in
theorem rA (par first:Nat) (data:List Nat) {i:Nat} (hi:i<data.length):(j9 s p par first data).getD i 0=data.getD i 0:=by
 unfold j9;simp[List.getD,List.getElem?_append_left hi]
omit h in
theorem vW (par first:Nat) (data:List Nat) {t:Nat} (ht:t<par):(j9 s p par first data).getD (data.length+t) 0=aM s p 0 ((jN s p par (cU s p first par) data data.length).getD t 0):=by
 unfold j9;simp[List.getD,List.getElem?_append_right,ht]
theorem BF {par first:Nat} {data:List Nat} (b:aj s data):aj s (j9 s p par first data):=λi=>by
 have e:=h.aG;rcases Nat.lt_or_ge i data.length with a|a
 ·rw[rA _ _ _ a];exact b i
 ·rcases Nat.lt_or_ge i (data.length+par)with d|d
  ·rw[show i=data.length+(i-data.length)from by omega,vW _ _ _ oO];exact eI h oO (pM h _ _ _ _)
  ·rw[iW (by rw[oz];omega)];omega
theorem I8 {par first:Nat} {data:List Nat} (a:aj s data) (k:1<=par):nD s p par first data (j9 s p par first data):=by
 refine⟨BF h a,oz _ _ _,λi b=>rA _ _ _ b,λj l=>?_⟩;have g:=dD h (first+j);have d:=BF h (par:=par) (first:=first) a;rw[<-kt h (sK h d j)];unfold fL;rw[oz];have e:=pM h (par:=par) (cU s p first par) data data.length;have key:∀t,t<=par->aA h (eE s p (bV s p (first+j)) (j9 s p par first data) (data.length+t))=aA h (eE s p (bV s p (first+j)) data data.length)* aA h (bV s p (first+j))^t-aA h (eE s p (bV s p (first+j)) (jN s p par (cU s p first par) data data.length) t):=by
  intro t
  induction t with
  |zero=>
   intro _;rw[Nat.add_zero,ye (v:=data) data.length (λi b=>rA _ _ _ b),iG,eD];show _=_-aA h 0;rw[aZ,eF]
  |succ t f=>
   intro m;have f:=f oO;show aA h (aT s p (au s p (eE s p _ (j9 s p par first data) (data.length+t)) _) ((j9 s p par first data).getD (data.length+t) 0))=_-aA h (aT s p (au s p (eE s p _ (jN s p par (cU s p first par) data data.length) t) _) ((jN s p par (cU s p first par) data data.length).getD t 0));rw[jI h (aO h _ _) (d _),dP h (mV h d _) g,f,vW _ _ _ oO,gO h (by have:=h.aG;omega) (e t),jI h (aO h _ _) (e t),dP h (mV h e t) g,aZ,yB,dE,AU,de,de,gV]
   ac_rfl
 rw[key par (Nat.le_refl _),Fo h a k l,cA]
theorem JF {par first:Nat} {data:List Nat} (a:aj s data) (b:1<=par) (hn:par<=s-1):j9 s p par first data=fa s p par first data:=nD.uniq h hn (I8 h a b) (sV h a)
end
end
end Go.Proofs.YtmnlkganmgcpbaaGreatDoor
