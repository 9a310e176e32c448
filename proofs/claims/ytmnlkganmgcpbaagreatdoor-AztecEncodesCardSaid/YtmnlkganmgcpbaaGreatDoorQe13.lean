import Derived.Test.YtmnlkganmgcpbaaGreatDoorQe12
import Derived.Test.YtmnlkganmgcpbaaGreatDoorQe6
set_option maxRecDepth 100000
set_option maxHeartbeats 4000000
set_option linter.unusedVariables false
set_option linter.unusedSectionVars false
set_option linter.unusedSimpArgs false
namespace Go.Proofs.YtmnlkganmgcpbaaGreatDoor
section
open Fl
def KF {c s p:Nat} (h:VF c s p):Type:=El s
instance{c s p:Nat} (h:VF c s p):Fl (KF h):=dG h
theorem j4 {l:List Nat} {i:Nat} (a:l.length<=i):l.getD i 0=0:=by
 rw[List.getD,List.getElem?_eq_none a];rfl
theorem kH {s:Nat} {l:List Nat} (hl:aA s l):aA s (fg l):=λi=>by rw[qe];exact hl i
theorem JX {s p:Nat} (a b:List Nat) (M d k:Nat) (j:Nat) (g:j<M-k):(qL s p a b M d k).getD j 0=0:=by
 induction k with
 |zero=>
  by_cases e:j<d
  ·simp[qL,List.getD,e]
  ·simp[qL,List.getD,e]
 |succ k f=>
  show((qL s p a b M d k).set (M-1-k) _).getD j 0=0;have:=f oO;rw[List.getD,List.getElem?_set_ne oO];exact this
section
variable {c s p : Nat} (h : VF c s p)
def aS (n:Nat):KF h:=(⟨n%s,Nat.mod_lt _ (by have:=h.aT;omega)⟩:El s)
def mono (i:Nat) (u:KF h):Nat->KF h:=λk=>if k=i then u else 0
def nw (i:Nat) (f:Nat->KF h):Nat->KF h:=λn=>if i<=n then f (n-i)else 0
def co (l:List Nat):Nat->KF h:=λi=>aS h (l.getD i 0)
include h
theorem gz {n:Nat} (hn:n<s):aS h n=(⟨n,hn⟩:El s):=El.ext (Nat.mod_eq_of_lt hn)
theorem jt {a b:Nat} (d:a<s) (hb:b<s) (e:aS h a=aS h b):a=b:=by
 rw[gz h d,gz h hb]at e;exact congrArg El.val e
theorem bX:aS h 0=0:=gz h (by have:=h.aT;omega)
theorem mP:aS h 1=1:=gz h (by have:=h.aT;omega)
theorem lr {a b:Nat} (d:a<s) (hb:b<s):aS h (bW s p a b)=aS h a+aS h b:=by
 rw[gz h (jY h _ _ d hb),gz h d,gz h hb];rfl
theorem gr {a b:Nat} (d:a<s) (hb:b<s):aS h (aM s p a b)=aS h a* aS h b:=by
 rw[gz h (cd h _ _),gz h d,gz h hb];rfl
theorem kY {a b:Nat} (d:a<s) (hb:b<s):aS h (bE s p a b)=aS h a-aS h b:=by
 rw[gz h (iM h d hb),gz h d,gz h hb];exact El.ext (we h ⟨a,d⟩ ⟨b,hb⟩)
theorem Kv {a:Nat} (b:a<s) (d:a≠0):aS h a≠0:=by
 intro e;rw[<-bX h]at e;exact d (jt h b (by have:=h.aT;omega) e)
theorem Ji {a:Nat} (b:a<s) (d:a≠0):aS h a* aS h (iV s p a)=1:=by
 rw[<-gr h b (rI h),yP h b d,mP]
theorem fq (l:List Nat):gP l.length (co h l):=λi a=>by
 unfold co;rw[j4 a,bX]
theorem Kn {a b:List Nat} (d:aA s a) (hb:aA s b) (e:∀i,co h a i=co h b i) (i:Nat):a.getD i 0=b.getD i 0:=jt h (d i) (hb i) (e i)
theorem D5 {a b:List Nat} (d:aA s a) (hb:aA s b) (hl:a.length=b.length) (e:∀i,co h a i=co h b i):a=b:=by
 apply List.ext_getElem hl;intro i f g;have:=Kn h d hb e i;simpa[List.getD,f,g]using this
theorem vK (l:List Nat) (i:Nat):co h (fg l) i=co h l i:=by unfold co;rw[qe]
theorem Kg (n:Nat) (f:Nat->Nat) (i:Nat):co h ((List.range n).map f) i=if i<n then aS h (f i)else 0:=by
 unfold co;split
 ·rename_i a;rw[bY _ _ _ a]
 ·rename_i a;rw[j4 oT,bX]
theorem lW {n:Nat} {f:Nat->Nat} (b:∀i,i<n->f i<s):aA s ((List.range n).map f):=λi=>by
 by_cases a:i<n
 ·rw[bY _ _ _ a];exact b i a
 ·rw[j4 oT];have:=h.aT;show 0<s;omega
theorem EU (l:List Nat) (i v j:Nat) (a:i<l.length):co h (l.set i v) j=if j=i then aS h v else co h l j:=by
 unfold co;by_cases e:j=i
 ·subst e;rw[if_pos rfl];congr 1;simp[List.getD,a]
 ·rw[if_neg e];congr 1;simp[List.getD,List.getElem?_set_ne (Ne.symm e)]
theorem AK {l:List Nat} (hl:aA s l) (a:gZ l) (hn:1<=l.length):co h l (l.length-1)≠0:=by
 rcases a with rfl|a
 ·simp at hn
 ·exact Kv h (hl _) a
theorem tB {l:List Nat} (hl:aA s l) (b:gZ l) {d:Nat} (e:gP d (co h l)):l.length<=d:=by
 rcases Nat.lt_or_ge d l.length with a|a
 ·exact absurd (e (l.length-1) oO) (AK h hl b oO)
 ·exact a
theorem JQ (f:Nat->Nat) (a:∀k,f k<s) (n:Nat):aS h (oI s p f n)=iu (λk=>aS h (f k)) n:=by
 induction n with
 |zero=>exact bX h
 |succ n b=>
  show aS h (bW s p (oI s p f n) (f n))=iu _ n+aS h (f n);rw[lr h (vE h f a n) (a n),b]
theorem GP {a b:List Nat} (d:aA s a) (hb:aA s b) (n k:Nat):aS h (ju s p a b n k)=if k<=n then co h a k* co h b (n-k)else 0:=by
 unfold ju;split
 ·exact gr h (d _) (hb _)
 ·exact bX h
theorem JI {x:Nat} (e:x<s) (l:List Nat) (hl:∀y∈l,y<s):aS h (hornN s p x l)=cF (aS h x) (co h l) l.length:=by
 induction l with
 |nil=>exact bX h
 |cons a b f=>
  show aS h (bW s p (aM s p (hornN s p x b) x) a)=_;rw[lr h (cd h _ _) (hl a oS),gr h (zK h x b λy d=>hl y (by simp[d])) e,f λy d=>hl y (by simp[d])];rw[List.length_cons,da];show _=aS h a+aS h x* cF (aS h x) (co h b) b.length;rw[fm,cO]
theorem Gj (i:Nat) (u:KF h) (b:Nat->KF h) (n:Nat):conv (mono h i u) b n=u* nw h i b n:=by
 induction i generalizing n with
 |zero=>
  rw[show mono h 0 u=j6 u from rfl,zt];unfold nw;rw[if_pos (Nat.zero_le _)];rfl
 |succ i a=>
  cases n with
  |zero=>
   rw[fS];unfold mono nw;rw[if_neg oO,if_neg oO,fU,cu]
  |succ n=>
   rw[dH];have e1:mono h (i+1) u 0=0:=by unfold mono;rw[if_neg oO]
   have e2:dA (mono h (i+1) u)=mono h i u:=by
    funext k;unfold dA mono;by_cases e:k=i
    ·rw[if_pos e,if_pos oO]
    ·rw[if_neg e,if_neg oO]
   rw[e1,e2,fU,dh,a];unfold nw;by_cases e:i<=n
   ·rw[if_pos e,if_pos oO,show n+1-(i+1)=n-i from by omega]
   ·rw[if_neg e,if_neg oO]
theorem E7 {d:Nat} (f:d<s) {b r:List Nat} (hb:aA s b) (g:aA s r) (i j:Nat) (k:i+j<=r.length) (n:Nat):
 co h (subRow s p d b r i j) n=co h r n-(if i<=n/\n<i+j then aS h d* co h b (n-i)else 0):=by
 induction j with
 |zero=>rw[if_neg oO,ke];rfl
 |succ j a=>
  have a:=a oO;show co h ((subRow s p d b r i j).set (i+j) _) n=_;rw[EU h _ _ _ _ (by rw[mf];omega)];by_cases e:n=i+j
  ·subst e;rw[if_pos rfl,if_pos oO,kY h (rA h g i j _) (cd h _ _),gr h f (hb _)];rw[if_neg oO,ke]at a;rw[show aS h ((subRow s p d b r i j).getD (i+j) 0)=co h (subRow s p d b r i j) (i+j)from rfl,a,show i+j-i=j from by omega];rfl
  ·rw[if_neg e,a];by_cases e2:i<=n/\n<i+j
   ·rw[if_pos e2,if_pos oO]
   ·rw[if_neg e2,if_neg oO]
theorem uR {d:Nat} (e:d<s) {b r:List Nat} (hb:aA s b) (f:aA s r) (i:Nat) (j:i+b.length<=r.length) (n:Nat):
 co h (subRow s p d b r i b.length) n=co h r n-aS h d* nw h i (co h b) n:=by
 rw[E7 h e hb f i _ j];congr 1;unfold nw;by_cases a:i<=n
 ·by_cases g:n<i+b.length
  ·rw[if_pos ⟨a,g⟩,if_pos a]
  ·rw[if_neg oO,if_pos a,fq h b (n-i) oO,cu]
 ·rw[if_neg oO,if_neg a,cu]
theorem Kb {a b:List Nat} (j:aA s a) (hb:aA s b) (q:1<=b.length) (d:Nat) (r:cG a b<=d) (k:Nat) (m:k<=cG a b) (n:Nat):
 co h a n=conv (co h (qL s p a b (cG a b) d k)) (co h b) n+co h (rL s p a b (cG a b) k) n:=by
 induction k with
 |zero=>
  show _=conv (co h (List.replicate d 0)) _ n+co h a n
  rw[js,dh];intro i;unfold co;by_cases g:i<d
  ·rw[show(List.replicate d 0).getD i 0=0 from by simp[List.getD,g],bX]
  ·rw[show(List.replicate d 0).getD i 0=0 from by simp[List.getD,g],bX]
 |succ k f=>
  have f:=f oO;have o:cG a b=a.length-(b.length-1):=rfl;have hc:cL s p a b (cG a b) k<s:=cd h _ _;have hq:∀i,co h (qL s p a b (cG a b) d (k+1)) i=co h (qL s p a b (cG a b) d k) i+mono h (cG a b-1-k) (aS h (cL s p a b (cG a b) k)) i:=by
   intro i;show co h ((qL s p a b (cG a b) d k).set (cG a b-1-k) (cL s p a b (cG a b) k)) i=_;rw[EU h _ _ _ _ (by rw[wD];omega)];unfold mono;by_cases e:i=cG a b-1-k
   ·rw[if_pos e,if_pos e];have:co h (qL s p a b (cG a b) d k) i=0:=by
     unfold co;rw[JX a b _ _ _ _ oO,bX]
    rw[this,dh]
   ·rw[if_neg e,if_neg e,bJ]
  have l:co h (rL s p a b (cG a b) (k+1)) n=co h (rL s p a b (cG a b) k) n-aS h (cL s p a b (cG a b) k)* nw h (cG a b-1-k) (co h b) n:=
   uR h hc hb (uD h j _ _) _ (by rw[q9];omega) n
  rw[tQ (a:=co h (qL s p a b (cG a b) d (k+1))) (b:=co h b) (b':=co h b) (λi _=>hq i) (λ_ _=>rfl),xA,Gj,l,f];generalize aS h (cL s p a b (cG a b) k)* nw h (cG a b-1-k) (co h b) n=u;generalize co h (rL s p a b (cG a b) k) n=v;generalize conv (co h (qL s p a b (cG a b) d k)) (co h b) n=x
  rw[dQ,show x+u+(v+-u)=(x+v)+(u+-u)from by ac_rfl,pV,bJ]
theorem Kf {a b:List Nat} (f:aA s a) (hb:aA s b) (l:1<=b.length) (i:b.getD (b.length-1) 0≠0) (k:Nat) (j:k<=cG a b):
 gP (b.length-1+cG a b-k) (co h (rL s p a b (cG a b) k)):=by
 induction k with
 |zero=>
  have g:cG a b=a.length-(b.length-1):=rfl;exact(fq h a).mono oO
 |succ k d=>
  have d:=d oO;intro n hn;have hc:cL s p a b (cG a b) k<s:=cd h _ _;have g:cG a b=a.length-(b.length-1):=rfl
  rw[show co h (rL s p a b (cG a b) (k+1)) n=co h (rL s p a b (cG a b) k) n-aS h (cL s p a b (cG a b) k)* nw h (cG a b-1-k) (co h b) n from
   uR h hc hb (uD h f _ _) _ (by rw[q9];omega) n]
  by_cases e:n=cG a b-1-k+(b.length-1)
  ·unfold nw;rw[if_pos oO,show n-(cG a b-1-k)=b.length-1 from by omega];have e2:aS h (cL s p a b (cG a b) k)=co h (rL s p a b (cG a b) k) n* aS h (iV s p (b.getD (b.length-1) 0)):=by
    show aS h (aM s p _ _)=_;rw[gr h (uD h f _ _ _) (rI h),e];rfl
   rw[e2,mz,cO (aS h (iV s p _)),show co h b (b.length-1)=aS h (b.getD (b.length-1) 0)from rfl,Ji h (hb _) i,jU,ew]
  ·rw[d n oO];unfold nw;rw[if_pos oO,fq h b (n-(cG a b-1-k)) oO,cu,ke]
theorem tJ {a b:List Nat} (d:aA s a):aA s (dT s p a b):=kH (uD h d _ _)
theorem tY (a b:List Nat):gZ (dT s p a b):=qy _
theorem BV {a b:List Nat} (d:aA s a) (hb:aA s b) (e:1<=b.length) (f:b.getD (b.length-1) 0≠0):gP (b.length-1) (co h (dT s p a b)):=by
 intro i g;unfold dT;rw[vK];exact Kf h d hb e f _ (Nat.le_refl _) i oO
theorem uZ {a b:List Nat} (d:aA s a) (hb:aA s b) (e:1<=b.length) (f:b.getD (b.length-1) 0≠0):(dT s p a b).length<b.length:=by
 have:=tB h (tJ h d) (tY h a b) (BV h d hb e f);omega
theorem div_eq {a b:List Nat} (d:aA s a) (hb:aA s b) (e:1<=b.length) (n:Nat):co h a n=conv (co h (kx s p a b)) (co h b) n+co h (dT s p a b) n:=by
 have:=Kb h d hb e (cG a b) (Nat.le_refl _) (cG a b) (Nat.le_refl _) n;rw[this];unfold kx dT;rw[vK]
end
end
section
open Go.RowKit
theorem Ae {b:List Nat} (a:gZ b) (h:b≠[]):b.getD (b.length-1) 0≠0:=by
 rcases a with e|e
 ·exact absurd e h
 ·exact e
theorem Ey (C S P c bl:Nat) (a b:List Nat) (n m:Nat) (hn:n=a.length) (r:m=b.length) (A B:Option Addr) (d f:Nat) (w:World) (g:VF C S P) (u:aA S a) (v:aA S b) (o:a.length<=8193) (p:b.length<=4097) (s:gZ b) (q:b≠[])
 (t:eY w S P c bl) (i:RD w A (zl a)) (hb:RD w B (zl b)):
 Calls Tryz.prog 156 #[qC C S c bl,.slice A n d,.slice B m f] w λe w'=>∃j k,e= .returned (.tuple #[j,k])/\bh w' j (zl (kx S P a b))/\bh w' k (zl (dT S P a b))/\Below w.heap.size w w':=by
 subst hn r;have hl:1<=b.length:=List.length_pos_iff.2 q;rcases Nat.lt_or_ge a.length b.length with l|l
 ·exact Ap C S P c bl a b A B d f w g o p hl oO i
 ·exact yN C S P c bl a b A B d f w g u v o p hl l (Ae s q) t i hb
theorem bh.n {w:World} {v:Value} {l:List Nat} (h:bh w v (zl l)):∃A n c,v= .slice A n c/\n=l.length/\n<=c/\c<=maxLen/\RD w A (zl l):=by
 obtain⟨A,c,rfl,a,b,d⟩:=h;exact⟨A,_,c,rfl,aB l,a,b,d⟩
theorem Fc (C S P a bl r c:Nat) (l:List Nat) (n:Nat) (j:n=l.length) (A:Option Addr) (b:Nat) (w:World) (d:VF C S P) (hl:aA S l) (f:r<S) (hc:c<S) (hn:l.length<=8193)
 (g:eY w S P a bl) (i:RD w A (zl l)):
 Calls Tryz.prog 191 #[qC C S a bl,.slice A n b,.int .i64 r,.int .i64 c] w λe w'=>∃v,e= .returned v/\bh w' v (zl (jC S P l r c))/\Below w.heap.size w w':=by
 subst j;exact AP C S P a bl r c l A b w d hl f hc hn g i
theorem RD.lit (W:World) (xs:List Int) (a:TypeId) (b:Nat) (hb:b=W.heap.size):RD (W.alloc (.cells (xs.map (Value.int .i64)).toArray a)) (some ⟨b,0,none⟩) xs:=λ_=>by
 refine⟨_,rfl,by simp;omega,λj c=>?_⟩;have:=(ai.new W (xs.map (Value.int .i64)).toArray a b hb).2 j (by simpa using c);rw[add_plain,Nat.zero_add,this];simp[List.getD,c]
theorem Sl.lit (W:World) (xs:List Int) (a:TypeId) (b n:Nat) (hb:b=W.heap.size) (hn:n=xs.length) (h:n<=1000):(⟨some ⟨b,0,none⟩,n,n,xs⟩:Sl).R (W.alloc (.cells (xs.map (Value.int .i64)).toArray a)):=
 ⟨hn,by simp only;omega,RD.lit W xs a b hb,Nat.le_refl _,by simp only[maxLen];omega⟩
theorem bh.lit (W:World) (xs:List Int) (a:TypeId) (b n:Nat) (hb:b=W.heap.size) (hn:n=xs.length) (h:n<=1000):bh (W.alloc (.cells (xs.map (Value.int .i64)).toArray a)) (.slice (some ⟨b,0,none⟩) n n) xs:=
 (Sl.lit W xs a b n hb hn h).ints
def sW (w:World) (L:List Int×List Int×Int) (e:Ending) (w':World):Prop:=∃v u,e= .returned (.tuple #[v,u,.int .i64 L.2.2])/\bh w' v L.1/\bh w' u L.2.1/\Below w.heap.size w w'
theorem sW.mk {w w':World} {R:List Int×List Int×Int} {v u:Value} {L M:List Int} {err:Int} (h:R=(L,M,err)) (a:bh w' v L) (b:bh w' u M) (hb:Below w.heap.size w w'):sW w R (.returned (.tuple #[v,u,.int .i64 err])) w':=by
 subst h;exact⟨v,u,rfl,a,b,hb⟩
def jJ (c s p:Int) (xs ys:List Int):List Int×List Int×Int:=
 if(ns c s p xs&&ns c s p ys)=true then(if ys=[]then([],[],12)else(zl (kx s.toNat p.toNat (nl xs) (nl ys)),zl (dT s.toNat p.toNat (nl xs) (nl ys)),0))else([],[],1)
theorem E2 {l:List Nat} (h:zl l=[]):l=[]:=by have:=congrArg nl h;rw[px]at this;exact this
theorem Bu (c s p:Int) (q r:Sl) (w:World) (D:p<=9223372036854775807) (hq:q.R w) (j:r.R w):
 Calls Tryz.prog 115 #[ba c s p,q.v,r.v] w (sW w (jJ c s p q.xs r.xs)):=by
 obtain⟨A,n,k,xs⟩:=q;obtain⟨B,m,l,ys⟩:=r;have t:Below w.heap.size w (w.alloc (iT c s p)):=(Below.refl _ _).alloc (Nat.le_refl _) _;have x:=Lib.hid (hq.below t);have y:=Lib.hid (j.below t);show Calls Tryz.prog 115 #[ba c s p,.slice A n k,.slice B m l] w (sW w (jJ c s p xs ys));have X:Hid (ai (w.alloc (iT c s p)) w.heap.size (oP c s p)):=ai.new _ _ _ _ rfl;cases d:(ns c s p xs&&ns c s p ys)with
 |false=>
  have z:=Lib.hid d;have o:Hid (jJ c s p xs ys=([],[],1)):=by show _=_;unfold jJ;rw[d];rfl
  clear d hq j t;go_enter Tryz.func115,Tryz.ntmps115;go_wp2_with(go_at_call 154;refine(vp c s p A B n k m l xs ys _ _ 64 D oS x.out y.out).mono ?_;rintro e w1 ⟨rfl,f⟩;rw[z.out];have g:=Lib.hid f;clear f)
  go_ret3
  exact sW.mk o.out (bh.dD _) (bh.dD _) (cN g.out)
 |true=>
  have u:=d;rw[Bool.and_eq_true]at u;obtain⟨C,S,P,a,rfl,rfl,rfl,rfl,E,F,T,G⟩:=Ci u.1;obtain⟨C',Y,a7,b,e1,e2,e3,rfl,-,H,J,K⟩:=Ci u.2;obtain rfl:S=Y:=oO;have L:n=a.length:=hq.hn.trans (aB a);have v:m=b.length:=j.hn.trans (aB b);have z:=Lib.hid d;have U:=Lib.hid E;have am:=Lib.hid F;have ap:=Lib.hid H;have av:=Lib.hid J;have a0:=Lib.hid L;have a1:=Lib.hid v;have a2:=Lib.hid G;have a3:=Lib.hid K;by_cases i:b=[]
  ·have o:Hid (jJ C S P (zl a) (zl b)=([],[],12)):=by show _=_;unfold jJ;rw[if_pos d,i];rfl
   have a4:m=0:=by rw[v,i];rfl
   subst a4;clear d u e1 e2 e3 E F H T J G K L v i hq j t;go_enter Tryz.func115,Tryz.ntmps115;go_wp2_with(go_at_call 154;refine(vp C S P A B n k 0 l _ _ _ _ 64 D oS x.out y.out).mono ?_;rintro e w1 ⟨rfl,f⟩;rw[z.out];have g:=Lib.hid f;clear f)
   go_ret3
   exact sW.mk o.out (bh.dD _) (bh.dD _) (cN g.out)
  ·have o:Hid (jJ C S P (zl a) (zl b)=(zl (kx S P a b),zl (dT S P a b),0)):=by
    show _=_;unfold jJ;rw[if_pos d,if_neg (λe=>i (E2 e)),px,px];rfl
   have bo:0<m:=by rw[v];exact List.length_pos_iff.2 i
   have a8:((m:Int)==0)=false:=by rw[beq_eq_false_iff_ne];omega
   have a5:=Lib.hid i;clear d u e1 e2 e3 E F H T J G K L v i hq j t;go_enter Tryz.func115,Tryz.ntmps115
   go_wp2_with(first
    |(go_at_call 154;refine(vp C S P A B n k m l _ _ _ _ 64 D oS x.out y.out).mono ?_;rintro e w1 ⟨rfl,f⟩;rw[z.out];have g:=Lib.hid f;clear f;obtain⟨a9,bb,bd⟩:=kQ (X.out.below g.out))
    |(go_at_call 155;refine(yl C S P _ U.out).mono ?_;rintro e w2 ⟨Z,bl,rfl,N,V⟩;have ac:=Lib.hid N;have M:=Lib.hid V;clear N V)
    |(go_at_call 156;refine(Ey C S P Z bl a b n m a0.out a1.out A B k l _ U.out am.out ap.out (by have:=a2.out;omega) a3.out av.out a5.out ac.out ((x.out.below g.out).below M.out).rd ((y.out.below g.out).below M.out).rd).mono ?_;rintro e be ⟨bf,bi,rfl,O,Q,W⟩;have ad:=Lib.hid O;have al:=Lib.hid Q;have a6:=Lib.hid W;clear O Q W))
   go_ret3
   exact sW.mk o.out ad.out al.out (cN (ab (ab g.out M.out) a6.out))
def fromL (s p:Nat) (roots:List Nat):Nat->List Nat
 |0=>[1]
 |k+1=>jC s p (fromL s p roots k) (roots.getD k 0) 0
theorem ko (s p:Nat) (roots:List Nat) (k:Nat):(fromL s p roots k).length=k+1:=by
 induction k with
 |zero=>rfl
 |succ k a=>unfold fromL jC;rw[l6,a]
theorem jT {c s p:Nat} (h:VF c s p) {roots:List Nat} (a:aA s roots) (k:Nat):aA s (fromL s p roots k):=by
 have d:=h.aT
 induction k with
 |zero=>
  intro i
  match i with
  |0=>show 1<s;omega
  |i+1=>show([1]:List Nat).getD (i+1) 0<s;simp[List.getD];omega
 |succ k b=>exact I5 h b (a _) oO _
def gp (c s p:Int) (xs:List Int):List Int×Int:=
 if(aW c s p&&fK s xs)=true then(if 4096<xs.length then([],4)else(zl (fromL s.toNat p.toNat (nl xs) xs.length),0))else([],1)
theorem ve (c s p:Int) (q:Sl) (w:World) (y:p<=9223372036854775807) (hq:q.R w):
 Calls Tryz.prog 153 #[ba c s p,q.v] w (iB w (gp c s p q.xs)):=by
 obtain⟨A,n,G,xs⟩:=q;have v:Below w.heap.size w (w.alloc (iT c s p)):=(Below.refl _ _).alloc (Nat.le_refl _) _;have H:=Lib.hid (hq.below v);have N:Hid (ai (w.alloc (iT c s p)) w.heap.size (oP c s p)):=ai.new _ _ _ _ rfl;have HC:Hid (∀w1,Below (w.alloc (iT c s p)).heap.size (w.alloc (iT c s p)) w1->w1.cell? ⟨w.heap.size,0,none⟩=some (.int .i64 c)/\w1.cell? ⟨w.heap.size,1,none⟩=some (.int .i64 s)/\w1.cell? ⟨w.heap.size,2,none⟩=some (.int .i64 p)):=λw1 hb=>kQ (N.out.below hb);have z:Hid (∀w1,af (w.alloc (iT c s p)) w1->Calls Tryz.prog 190 #[ba c s p,.slice A n G] w1 λe w'=>e= .returned (.bool (fK s xs))/\Below w1.heap.size w1 w'):=λw1 hb=>my c s p xs n hq.hn A G w1 hq.hm (H.out.below hb).rd;show Calls Tryz.prog 153 #[ba c s p,.slice A n G] w (iB w (gp c s p xs));cases d:aW c s p with
 |false=>
  have r:=Lib.hid d;have o:Hid (gp c s p xs=([],1)):=by show _=_;unfold gp;rw[d];rfl
  clear d hq v;go_enter Tryz.func153,Tryz.ntmps153;go_wp2_with(go_at_call 154;refine(rW c s p _ y).mono ?_;rintro e w1 ⟨rfl,f⟩;rw[r.out];have b:=Lib.hid f;clear f)
  go_ret2
  exact iB.mk o.out (bh.dD _) (cN b.out)
 |true=>
  have r:=Lib.hid d;cases g:fK s xs with
  |false=>
   have t:=Lib.hid g;have o:Hid (gp c s p xs=([],1)):=by show _=_;unfold gp;rw[d,g];rfl
   clear g d hq v;go_enter Tryz.func153,Tryz.ntmps153
   go_wp2_with(first
    |(go_at_call 154;refine(rW c s p _ y).mono ?_;rintro e w1 ⟨rfl,f⟩;rw[r.out];have b:=Lib.hid f;clear f;obtain⟨B,D,E⟩:=HC.out _ b.out)
    |(go_at_call 190;refine(z.out _ b.out).mono ?_;rintro e w2 ⟨rfl,l⟩;rw[t.out];have m:=Lib.hid l;clear l))
   go_ret2
   exact iB.mk o.out (bh.dD _) (cN (ab b.out m.out))
  |true=>
   have t:=Lib.hid g;have x:n=xs.length:=hq.hn;by_cases M:4096<n
   ·have o:Hid (gp c s p xs=([],4)):=by show _=_;unfold gp;rw[d,g,<-x];rw[if_pos M];rfl
    have cg:n<=9223372036854775807:=hq.hm;clear g d hq v x;go_enter Tryz.func153,Tryz.ntmps153
    go_wp2_with(first
     |(go_at_call 154;refine(rW c s p _ y).mono ?_;rintro e w1 ⟨rfl,f⟩;rw[r.out];have b:=Lib.hid f;clear f;obtain⟨B,D,E⟩:=HC.out _ b.out)
     |(go_at_call 190;refine(z.out _ b.out).mono ?_;rintro e w2 ⟨rfl,l⟩;rw[t.out];have m:=Lib.hid l;clear l B D E))
    go_ret2
    exact iB.mk o.out (bh.dD _) (cN (ab b.out m.out))
   ·obtain⟨C,S,P,rfl,rfl,rfl,K⟩:=pk d;obtain⟨a,rfl,U⟩:=Cj (by have:=K.aT;omega) g;have V:n=a.length:=x.trans (aB a);have o:Hid (gp C S P (zl a)=(zl (fromL S P a n),0)):=by show _=_;unfold gp;rw[d,g,<-x];rw[if_neg M,px];rfl
    have ce:n<=4096:=oO;have ap:decide ((4096:Int)<(n:Int))=false:=by simp;omega
    have F:=Lib.hid K;have W:=Lib.hid U;have X:=Lib.hid V;clear g d hq v x K U V M;go_enter Tryz.func153,Tryz.ntmps153
    go_wp2_with(first
     |(go_at_call 154;refine(rW C S P _ y).mono ?_;rintro e w1 ⟨rfl,f⟩;rw[r.out];have b:=Lib.hid f;clear f;obtain⟨B,D,E⟩:=HC.out _ b.out)
     |(go_at_call 190;refine(z.out _ b.out).mono ?_;rintro e w2 ⟨rfl,l⟩;rw[t.out];have m:=Lib.hid (ab b.out l);clear l B D E;obtain⟨av,a0,a1⟩:=HC.out _ m.out)
     |(go_at_call 155;refine(yl C S P _ F.out).mono ?_;rintro e i ⟨j,bl,rfl,O,Y⟩;have Q:=Lib.hid O;have L:=Lib.hid Y;clear O Y av a0 a1))
    clear ap;have a8:Hid (ai ((i.alloc (j3 C S j bl)).alloc (.cells #[.int .i64 1] 3)) i.heap.size (mi C S j bl)):=(ai.new _ _ _ _ rfl).alloc _;have a9:Hid (eY ((i.alloc (j3 C S j bl)).alloc (.cells #[.int .i64 1] 3)) S P j bl):=(Q.out.alloc _).alloc _;have bb:Hid (RD ((i.alloc (j3 C S j bl)).alloc (.cells #[.int .i64 1] 3)) A (zl a)):=(((H.out.below m.out).below L.out).rd.alloc _).alloc _;have bd:Hid (bh ((i.alloc (j3 C S j bl)).alloc (.cells #[.int .i64 1] 3)) (.slice (some ⟨i.heap.size+1,0,none⟩) 1 1) (zl (fromL S P a 0))):=bh.lit _ [1] 3 _ 1 oS rfl oO;have be:Hid (Below w.heap.size w ((i.alloc (j3 C S j bl)).alloc (.cells #[.int .i64 1] 3))):=ae (ae (cN (ab m.out L.out)) _) _;clear b m L Q H N HC z r t;generalize(i.alloc (j3 C S j bl)).alloc (.cells #[.int .i64 1] 3)=a2 at*;generalize i.heap.size=b4 at*;go_loopw [7,27] (λa3 J wr=>∃k:Nat,k<=n/\J= .int .i64 k/\Hid (af a2 wr)/\Hid (bh wr a3 (zl (fromL S P a k)))) (λ_ J _=>n-(intOf J).toNat)
    case atStart=>exact⟨0,Nat.zero_le _,rfl,Below.refl _ _,bd⟩
    case round=>
     obtain⟨k,b5,rfl,u,T⟩:=hrel;by_cases bf:k<n
     ·obtain⟨a4,n2,a5,rfl,Z,-,-,am⟩:=T.out.n;obtain⟨a6,rfl,b2,ac⟩:=bb.out (by rw[aB,<-X.out];omega);have g:wr.cell? (a6.add k)=some (.int .i64 ((a.getD k 0:Nat):Int)):=by
       rw[u.out.cell (by rw[aV];exact b2),ac k (by rw[aB,<-X.out];exact bf),dV]
      have bi:Hid (a.getD k 0<S):=W.out k;have bo:Hid (fromL S P a (k+1)=jC S P (fromL S P a k) (a.getD k 0) 0):=rfl;generalize a.getD k 0=a7 at*;obtain⟨b6,b7,b8,b9⟩:=kJ (a8.out.below u.out);have bq:=Lib.hid Z;have b3:=Lib.hid am;have bs:Hid ((fromL S P a k).length<=8193):=by show _<=_;rw[ko];omega
      have bt:Hid (aA S (fromL S P a k)):=jT F.out W.out k;have bv:Hid (0<S):=by have:=F.out.aT;show _<_;omega
      clear Z am ac;go_wp2_with(go_at_call 191;refine(Fc C S P j bl a7 0 (fromL S P a k) n2 bq.out a4 a5 _ F.out bt.out bi.out bv.out bs.out (a9.out.below u.out) b3.out).mono ?_;rintro e ca ⟨cb,rfl,ad,al⟩;have bx:=Lib.hid ad;have b1:=Lib.hid al;clear ad al)
      exact⟨⟨k+1,by omega,by go_num,ab u.out b1.out,by rw[bo.out];exact bx.out⟩,by simp[intOf];omega⟩
     ·obtain rfl:k=n:=oO;go_wp2;go_ret2
      exact iB.mk o.out T.out (ab be.out u.out)
abbrev yk (C S a bl:Nat):Obj:= .cells #[.int .i64 C,.int .i64 S,.slice (some ⟨a,0,none⟩) (S-1) (S-1),.slice (some ⟨bl,0,none⟩) S S] 152
abbrev ug:Obj:= .cells #[.int .i64 0,.int .i64 0,.slice none 0 0,.slice none 0 0] 152
abbrev LF (C S a b bl:Nat):Obj:= .cells #[.int .i64 C,.int .i64 S,.slice (some ⟨b,0,none⟩) a a,.slice (some ⟨bl,0,none⟩) S S] 152
structure de (w wr:World) (C S P T n be bl a:Nat):Prop where
 B:Below w.heap.size w wr
 he:w.heap.size+1<be
 hl:w.heap.size+1<bl
 hs:w.heap.size+1<a
 n1:be≠bl
 n2:be≠a
 n3:bl≠a
 F:wr.heap[w.heap.size]?=some (oC C S P)
 R:wr.heap[w.heap.size+1]?=some ug
 E:wr.heap[be]?=some (.cells (dI (iy S P n)) 3)
 L:wr.heap[bl]?=some (.cells (dI (jR S P n)) 3)
 A:wr.heap[a]?=some (LF C S T be bl)
theorem de.below {w wr w2:World} {C S P a n b bl c:Nat} (h:de w wr C S P a n b bl c) (hb:Below wr.heap.size wr w2):de w w2 C S P a n b bl c:=
 ⟨ab h.B hb,h.he,h.hl,h.hs,h.n1,h.n2,h.n3,(hb.block _ (aw h.F)).trans h.F,(hb.block _ (aw h.R)).trans h.R,(hb.block _ (aw h.E)).trans h.E,(hb.block _ (aw h.L)).trans h.L,(hb.block _ (aw h.A)).trans h.A⟩
theorem de.store {w wr:World} {C S P e n d bl j:Nat} (l:VF C S P) (o:e=S-1) (h:de w wr C S P e n d bl j) (hn:n<e):
 de w ((wr.setCell ⟨d,n,none⟩ (.int .i64 ((fpowN S P (ay S P) n:Nat):Int))).setCell ⟨bl,fpowN S P (ay S P) n,none⟩ (.int .i64 (n:Int))) C S P e (n+1) d bl j:=by
 have m:Below w.heap.size w (wr.setCell ⟨d,n,none⟩ (.int .i64 ((fpowN S P (ay S P) n:Nat):Int))):=h.B.setCell (by have:=h.he;simp;omega) _;have f:∀(k:Nat) (v:Value),k≠d->(wr.setCell ⟨d,n,none⟩ v).heap[k]?=wr.heap[k]?:=λk v i=>heap_setCell_other wr ⟨d,n,none⟩ k v i;have g:∀(W:World) (x k:Nat) (v:Value),k≠bl->(W.setCell ⟨bl,x,none⟩ v).heap[k]?=W.heap[k]?:=λW x k v i=>heap_setCell_other W ⟨bl,x,none⟩ k v i;have e1:=heap_setCell_same wr d n _ 3 (.int .i64 ((fpowN S P (ay S P) n:Nat):Int)) h.E;rw[kS,wv l (n:=n) oO]at e1;have e2:=heap_setCell_same (wr.setCell ⟨d,n,none⟩ (.int .i64 ((fpowN S P (ay S P) n:Nat):Int))) bl (fpowN S P (ay S P) n) _ 3 (.int .i64 (n:Int)) ((f bl _ (Ne.symm h.n1)).trans h.L);rw[kS,z7 l oO]at e2;have a:=h.he;have b:=h.hl;have c:=h.hs
 exact⟨m.setCell oT _,h.he,h.hl,h.hs,h.n1,h.n2,h.n3,
  ((g _ _ _ _ oO).trans (f _ _ oO)).trans h.F,((g _ _ _ _ oO).trans (f _ _ oO)).trans h.R,
  (g _ _ _ _ h.n1).trans e1,e2,((g _ _ _ _ (Ne.symm h.n3)).trans (f _ _ (Ne.symm h.n2))).trans h.A⟩
theorem de.oZ {w wr:World} {C S P a c bl f:Nat} (b:VF C S P) (g:a=S-1) (h:de w wr C S P a a c bl f):eY wr S P c bl:=by
 subst g;refine⟨aw h.E,aw h.L,λi d=>?_,λx e j=>?_⟩
 ·rw[cell_of_row _ _ _ _ _ _ h.E,eS];have:=yi b d;rw[<-uB b]at this;rw[<-this];unfold iy;simp[List.getD,d]
 ·rw[cell_of_row _ _ _ _ _ _ h.L,eS];have:=xU b e j;rw[<-this];unfold jR;simp[List.getD,e]
theorem de.cells {w wr:World} {C S P a n c bl b:Nat} (d:VF C S P) (e:a=S-1) (h:de w wr C S P a n c bl b):
 (wr.cell? ⟨w.heap.size,0,none⟩=some (.int .i64 C)/\wr.cell? ⟨w.heap.size,1,none⟩=some (.int .i64 S)/\wr.cell? ⟨w.heap.size,2,none⟩=some (.int .i64 P))/\
 (wr.cell? ⟨b,0,none⟩=some (.int .i64 C)/\wr.cell? ⟨b,1,none⟩=some (.int .i64 S)/\wr.cell? ⟨b,2,none⟩=some (.slice (some ⟨c,0,none⟩) a a)/\wr.cell? ⟨b,3,none⟩=some (.slice (some ⟨bl,0,none⟩) S S))/\
 (n<a->(∃u,wr.cell? ⟨c,n,none⟩=some u)/\wr.frozen? ⟨c,n,none⟩=false/\(∃u,wr.cell? ⟨bl,fpowN S P (ay S P) n,none⟩=some u)/\wr.frozen? ⟨bl,fpowN S P (ay S P) n,none⟩=false):=by
 refine⟨⟨?_,?_,?_⟩,⟨?_,?_,?_,?_⟩,λhn=>⟨?_,?_,?_,?_⟩⟩
 ·rw[cell_of_row _ _ _ _ _ _ h.F];rfl
 ·rw[cell_of_row _ _ _ _ _ _ h.F];rfl
 ·rw[cell_of_row _ _ _ _ _ _ h.F];rfl
 ·rw[cell_of_row _ _ _ _ _ _ h.A];rfl
 ·rw[cell_of_row _ _ _ _ _ _ h.A];rfl
 ·rw[cell_of_row _ _ _ _ _ _ h.A];rfl
 ·rw[cell_of_row _ _ _ _ _ _ h.A];rfl
 ·rw[cell_of_row _ _ _ _ _ _ h.E,eS];refine⟨_,Option.map_eq_some_iff.2 ⟨_,List.getElem?_eq_getElem (by unfold iy;simp;omega),rfl⟩⟩
 ·exact frozen_of_row _ _ _ _ _ h.E
 ·rw[cell_of_row _ _ _ _ _ _ h.L,eS];refine⟨_,Option.map_eq_some_iff.2 ⟨_,List.getElem?_eq_getElem (by unfold jR;simp;exact dM d n),rfl⟩⟩
 ·exact frozen_of_row _ _ _ _ _ h.L
theorem de.drew {w wr:World} {C S P a n b bl c:Nat} (h:de w wr C S P a n b bl c):de w wr.drew C S P a n b bl c:=
 ⟨ak h.B,h.he,h.hl,h.hs,h.n1,h.n2,h.n3,h.F,h.R,h.E,h.L,h.A⟩
theorem de.res {w wr:World} {C S P a n b bl c:Nat} (h:de w wr C S P a n b bl c):
 wr.cell? ⟨w.heap.size+1,0,none⟩=some (.int .i64 0)/\wr.cell? ⟨w.heap.size+1,1,none⟩=some (.int .i64 0)/\wr.cell? ⟨w.heap.size+1,2,none⟩=some (.slice none 0 0)/\wr.cell? ⟨w.heap.size+1,3,none⟩=some (.slice none 0 0)/\∀k,wr.frozen? ⟨w.heap.size+1,k,none⟩=false:=by
 refine⟨?_,?_,?_,?_,λk=>frozen_of_row _ _ _ _ _ h.R⟩<;>(rw[cell_of_row _ _ _ _ _ _ h.R];rfl)
theorem FL (C S P:Nat) (w:World) (u:VF C S P):
 Calls Tryz.prog 119 #[ba C S P] w λe w'=>∃Z bl,e= .returned (qC C S Z bl)/\eY w' S P Z bl/\Below w.heap.size w w'/\w.heap.size<=Z/\w.heap.size<=bl:=by
 have a5:=u.le;have a6:=u.aT;have y:(P:Int)<=9223372036854775807:=u.qz;have hg:=jk u;have RG:Hid (s9 C S P=(((ay S P:Nat):Int),0)):=by
  show _=_;unfold s9;rw[jg u,if_pos rfl];simp
 obtain⟨a,ac⟩:∃a,a=S-1:=⟨S-1,rfl⟩;have a7:1<=a:=oO;have a8:=run_make_row' (P:=Tryz.prog) 64 3 (.int .i64 0) 8 Tryz.underlying64 dd rfl .i64 .i64 a oO oO;have a9:=run_make_row' (P:=Tryz.prog) 64 3 (.int .i64 0) 8 Tryz.underlying64 dd rfl .i64 .i64 S oO oO;have bb:IntKind.i64.wrap ((S:Int)-1)=(a:Int):=by rw[aJ _ oO oO];omega
 have be:((S:Int)-1)=(a:Int):=oO;have b:=Lib.hid u;have c:=Lib.hid ac;have A:Hid (dI (iy S P 0)=madeCells #[Value.int .i64 0] a):=by show _=_;rw[iQ,uf u,ac]
 have B:Hid (dI (jR S P 0)=madeCells #[Value.int .i64 0] S):=by show _=_;rw[iQ,vZ u]
 clear ac u;have a2:Hid (∀w1:World,Below ((w.alloc (oC C S P)).alloc ug).heap.size ((w.alloc (oC C S P)).alloc ug) w1->w.heap.size+1<w1.heap.size/\w1.heap[w.heap.size]?=some (oC C S P)/\w1.heap[w.heap.size+1]?=some ug/\Below w.heap.size w w1):=by
  intro w1 z;have hs:=z.size;simp at hs;refine⟨by omega,(z.block _ oT).trans ?_,(z.block _ oS).trans ?_,((Below.refl _ _).alloc (Nat.le_refl _) _|>.alloc oS _).trans (z.mono oT)⟩
  ·exact(Below.heap_alloc _ _ _ oS).trans (heap_alloc_new w _)
  ·have:=heap_alloc_new (w.alloc (oC C S P)) ug;simpa using this
 go_enter Tryz.func119,Tryz.ntmps119
 go_wp2_with(
  go_at_call 158;refine(qx C S P _ oO y).mono ?_;rintro e w1 ⟨rfl,z⟩;rw[RG.out]
  have g:=Lib.hid (a2.out w1 z);have bd:w.heap.size+1<w1.heap.size:=g.out.1;have am:w.heap.size<w1.heap.size:=oO;have ad:w1.cell? ⟨w.heap.size,0,none⟩=some (.int .i64 C):=(cell_of_row _ _ _ _ _ _ g.out.2.1).trans rfl;have al:w1.cell? ⟨w.heap.size,1,none⟩=some (.int .i64 S):=(cell_of_row _ _ _ _ _ _ g.out.2.1).trans rfl;have ap:∀f,(w1.alloc f).cell? ⟨w.heap.size,0,none⟩=some (.int .i64 C):=λf=>(World.cell?_alloc_lt _ _ _ (by exact am)).trans ad;have av:∀f l,((w1.alloc f).alloc l).cell? ⟨w.heap.size,0,none⟩=some (.int .i64 C):=λf l=>(World.cell?_alloc_lt _ _ _ oT).trans (ap f);have a3:∀f l W,(((w1.alloc f).alloc l).alloc W).cell? ⟨w.heap.size,0,none⟩=some (.int .i64 C):=λf l W=>(World.cell?_alloc_lt _ _ _ oT).trans (av f l);have a0:∀f,(w1.alloc f).cell? ⟨w.heap.size,1,none⟩=some (.int .i64 S):=λf=>(World.cell?_alloc_lt _ _ _ (by exact am)).trans al;have a1:∀f l,((w1.alloc f).alloc l).cell? ⟨w.heap.size,1,none⟩=some (.int .i64 S):=λf l=>(World.cell?_alloc_lt _ _ _ oT).trans (a0 f);have a4:∀f l W,(((w1.alloc f).alloc l).alloc W).cell? ⟨w.heap.size,1,none⟩=some (.int .i64 S):=λf l W=>(World.cell?_alloc_lt _ _ _ oT).trans (a1 f l)
  clear z)
 go_region
 all_goals clear ad al ap av a3 a0 a1 a4
 all_goals go_wp2
 ·go_loopw [6,28] (λx i wr=>∃n:Nat,n<=a/\i= .int .i64 (n:Nat)/\x= .int .i64 ((fpowN S P (ay S P) n:Nat):Int)/\Hid (de w wr C S P a n (w1.heap.size) (w1.heap.size+1) (w1.heap.size+1+1))) (λ_ i _=>a-(intOf i).toNat)
  case atStart=>
   refine⟨0,Nat.zero_le _,rfl,rfl,?_⟩;refine⟨ak (ae (ae (ae g.out.2.2.2 _) _) _),by omega,by omega,by omega,by omega,by omega,by omega,?_,?_,?_,?_,?_⟩
   ·exact(Below.heap_alloc _ _ _ oT).trans ((Below.heap_alloc _ _ _ oT).trans ((Below.heap_alloc _ _ _ oO).trans g.out.2.1))
   ·exact(Below.heap_alloc _ _ _ oT).trans ((Below.heap_alloc _ _ _ oT).trans ((Below.heap_alloc _ _ _ oO).trans g.out.2.2.1))
   ·rw[A.out];exact(cV w1 _ _ _).1
   ·rw[B.out];exact(cV w1 _ _ _).2.1
   ·exact(cV w1 _ _ _).2.2
  case round=>
   obtain⟨n,hn,rfl,rfl,hid⟩:=hrel;obtain⟨⟨D,E,F⟩,⟨G,H,J,K⟩,d⟩:=de.cells b.out c.out hid.out;by_cases j:n<a
   ·obtain⟨⟨u1,L⟩,M,⟨u2,s3⟩,N⟩:=d j;have p:fpowN S P (ay S P) n<S:=dM b.out n;have q:=Lib.hid (de.store b.out c.out hid.out j);have m:Hid (mulR C S P (fpowN S P (ay S P) n:Nat) (ay S P:Nat)=(((fpowN S P (ay S P) (n+1):Nat):Int),0)):=by
     show _=_;unfold mulR;rw[fJ b.out p hg];simp;rfl
    generalize fpowN S P (ay S P) n=X at*;generalize k:fpowN S P (ay S P) (n+1)=Y at*;have o:=Lib.hid k;clear k;clear d;go_wp2;go_region
    all_goals go_wp2_with(go_at_call 159;refine(gu C S P X (ay S P) _ oO y).mono ?_;rintro e w2 ⟨rfl,r⟩;rw[m.out])
    all_goals go_roundw
    all_goals try(case measure=>simp[intOf];omega)
    all_goals refine⟨n+1,by omega,by go_num,by rw[o.out],?_⟩
    all_goals exact de.below (de.drew q.out) r
   ·obtain rfl:n=a:=oO;obtain⟨O,Q,T,U,V⟩:=de.res hid.out;have s:=Lib.hid (de.oZ b.out c.out hid.out);clear d;go_wp2;refine bodyPost_ret (v:= .agg #[.int .i64 C,.int .i64 S,.slice (some ⟨(w1.heap.size),0,none⟩) n n,.slice (some ⟨(w1.heap.size+1),0,none⟩) S S]) ?_ rfl ⟨(w1.heap.size),(w1.heap.size+1),?_,?_,?_⟩
    ·have t:Tryz.f119.results=#[.cell 2 152]:=oK;simp only[results,t];go_simp
    ·rw[c.out]
    ·exact(((s.out.setCell _ _ oT oT).setCell _ _ oT oT).setCell _ _ oT oT).setCell _ _ oT oT
    ·exact⟨(((hid.out.B.setCell oS _).setCell oS _).setCell oS _).setCell oS _,by omega,by omega⟩
 ·go_loopw [6,28] (λx i wr=>∃n:Nat,n<=a/\i= .int .i64 (n:Nat)/\x= .int .i64 ((fpowN S P (ay S P) n:Nat):Int)/\Hid (de w wr C S P a n (w1.heap.size) (w1.heap.size+1+1) (w1.heap.size+1))) (λ_ i _=>a-(intOf i).toNat)
  case atStart=>
   refine⟨0,Nat.zero_le _,rfl,rfl,?_⟩;refine⟨ak (ae (ae (ae g.out.2.2.2 _) _) _),by omega,by omega,by omega,by omega,by omega,by omega,?_,?_,?_,?_,?_⟩
   ·exact(Below.heap_alloc _ _ _ oT).trans ((Below.heap_alloc _ _ _ oT).trans ((Below.heap_alloc _ _ _ oO).trans g.out.2.1))
   ·exact(Below.heap_alloc _ _ _ oT).trans ((Below.heap_alloc _ _ _ oT).trans ((Below.heap_alloc _ _ _ oO).trans g.out.2.2.1))
   ·rw[A.out];exact(cV w1 _ _ _).1
   ·rw[B.out];exact(cV w1 _ _ _).2.2
   ·exact(cV w1 _ _ _).2.1
  case round=>
   obtain⟨n,hn,rfl,rfl,hid⟩:=hrel;obtain⟨⟨D,E,F⟩,⟨G,H,J,K⟩,d⟩:=de.cells b.out c.out hid.out;by_cases j:n<a
   ·obtain⟨⟨u1,L⟩,M,⟨u2,s3⟩,N⟩:=d j;have p:fpowN S P (ay S P) n<S:=dM b.out n;have q:=Lib.hid (de.store b.out c.out hid.out j);have m:Hid (mulR C S P (fpowN S P (ay S P) n:Nat) (ay S P:Nat)=(((fpowN S P (ay S P) (n+1):Nat):Int),0)):=by
     show _=_;unfold mulR;rw[fJ b.out p hg];simp;rfl
    generalize fpowN S P (ay S P) n=X at*;generalize k:fpowN S P (ay S P) (n+1)=Y at*;have o:=Lib.hid k;clear k;clear d;go_wp2;go_region
    all_goals go_wp2_with(go_at_call 159;refine(gu C S P X (ay S P) _ oO y).mono ?_;rintro e w2 ⟨rfl,r⟩;rw[m.out])
    all_goals go_roundw
    all_goals try(case measure=>simp[intOf];omega)
    all_goals refine⟨n+1,by omega,by go_num,by rw[o.out],?_⟩
    all_goals exact de.below (de.drew q.out) r
   ·obtain rfl:n=a:=oO;obtain⟨O,Q,T,U,V⟩:=de.res hid.out;have s:=Lib.hid (de.oZ b.out c.out hid.out);clear d;go_wp2;refine bodyPost_ret (v:= .agg #[.int .i64 C,.int .i64 S,.slice (some ⟨(w1.heap.size),0,none⟩) n n,.slice (some ⟨(w1.heap.size+1+1),0,none⟩) S S]) ?_ rfl ⟨(w1.heap.size),(w1.heap.size+1+1),?_,?_,?_⟩
    ·have t:Tryz.f119.results=#[.cell 2 152]:=oK;simp only[results,t];go_simp
    ·rw[c.out]
    ·exact(((s.out.setCell _ _ oT oT).setCell _ _ oT oT).setCell _ _ oT oT).setCell _ _ oT oT
    ·exact⟨(((hid.out.B.setCell oS _).setCell oS _).setCell oS _).setCell oS _,by omega,by omega⟩
 ·go_loopw [6,28] (λx i wr=>∃n:Nat,n<=a/\i= .int .i64 (n:Nat)/\x= .int .i64 ((fpowN S P (ay S P) n:Nat):Int)/\Hid (de w wr C S P a n (w1.heap.size+1) (w1.heap.size) (w1.heap.size+1+1))) (λ_ i _=>a-(intOf i).toNat)
  case atStart=>
   refine⟨0,Nat.zero_le _,rfl,rfl,?_⟩;refine⟨ak (ae (ae (ae g.out.2.2.2 _) _) _),by omega,by omega,by omega,by omega,by omega,by omega,?_,?_,?_,?_,?_⟩
   ·exact(Below.heap_alloc _ _ _ oT).trans ((Below.heap_alloc _ _ _ oT).trans ((Below.heap_alloc _ _ _ oO).trans g.out.2.1))
   ·exact(Below.heap_alloc _ _ _ oT).trans ((Below.heap_alloc _ _ _ oT).trans ((Below.heap_alloc _ _ _ oO).trans g.out.2.2.1))
   ·rw[A.out];exact(cV w1 _ _ _).2.1
   ·rw[B.out];exact(cV w1 _ _ _).1
   ·exact(cV w1 _ _ _).2.2
  case round=>
   obtain⟨n,hn,rfl,rfl,hid⟩:=hrel;obtain⟨⟨D,E,F⟩,⟨G,H,J,K⟩,d⟩:=de.cells b.out c.out hid.out;by_cases j:n<a
   ·obtain⟨⟨u1,L⟩,M,⟨u2,s3⟩,N⟩:=d j;have p:fpowN S P (ay S P) n<S:=dM b.out n;have q:=Lib.hid (de.store b.out c.out hid.out j);have m:Hid (mulR C S P (fpowN S P (ay S P) n:Nat) (ay S P:Nat)=(((fpowN S P (ay S P) (n+1):Nat):Int),0)):=by
     show _=_;unfold mulR;rw[fJ b.out p hg];simp;rfl
    generalize fpowN S P (ay S P) n=X at*;generalize k:fpowN S P (ay S P) (n+1)=Y at*;have o:=Lib.hid k;clear k;clear d;go_wp2;go_region
    all_goals go_wp2_with(go_at_call 159;refine(gu C S P X (ay S P) _ oO y).mono ?_;rintro e w2 ⟨rfl,r⟩;rw[m.out])
    all_goals go_roundw
    all_goals try(case measure=>simp[intOf];omega)
    all_goals refine⟨n+1,by omega,by go_num,by rw[o.out],?_⟩
    all_goals exact de.below (de.drew q.out) r
   ·obtain rfl:n=a:=oO;obtain⟨O,Q,T,U,V⟩:=de.res hid.out;have s:=Lib.hid (de.oZ b.out c.out hid.out);clear d;go_wp2;refine bodyPost_ret (v:= .agg #[.int .i64 C,.int .i64 S,.slice (some ⟨(w1.heap.size+1),0,none⟩) n n,.slice (some ⟨(w1.heap.size),0,none⟩) S S]) ?_ rfl ⟨(w1.heap.size+1),(w1.heap.size),?_,?_,?_⟩
    ·have t:Tryz.f119.results=#[.cell 2 152]:=oK;simp only[results,t];go_simp
    ·rw[c.out]
    ·exact(((s.out.setCell _ _ oT oT).setCell _ _ oT oT).setCell _ _ oT oT).setCell _ _ oT oT
    ·exact⟨(((hid.out.B.setCell oS _).setCell oS _).setCell oS _).setCell oS _,by omega,by omega⟩
 ·go_loopw [6,28] (λx i wr=>∃n:Nat,n<=a/\i= .int .i64 (n:Nat)/\x= .int .i64 ((fpowN S P (ay S P) n:Nat):Int)/\Hid (de w wr C S P a n (w1.heap.size+1+1) (w1.heap.size) (w1.heap.size+1))) (λ_ i _=>a-(intOf i).toNat)
  case atStart=>
   refine⟨0,Nat.zero_le _,rfl,rfl,?_⟩;refine⟨ak (ae (ae (ae g.out.2.2.2 _) _) _),by omega,by omega,by omega,by omega,by omega,by omega,?_,?_,?_,?_,?_⟩
   ·exact(Below.heap_alloc _ _ _ oT).trans ((Below.heap_alloc _ _ _ oT).trans ((Below.heap_alloc _ _ _ oO).trans g.out.2.1))
   ·exact(Below.heap_alloc _ _ _ oT).trans ((Below.heap_alloc _ _ _ oT).trans ((Below.heap_alloc _ _ _ oO).trans g.out.2.2.1))
   ·rw[A.out];exact(cV w1 _ _ _).2.2
   ·rw[B.out];exact(cV w1 _ _ _).1
   ·exact(cV w1 _ _ _).2.1
  case round=>
   obtain⟨n,hn,rfl,rfl,hid⟩:=hrel;obtain⟨⟨D,E,F⟩,⟨G,H,J,K⟩,d⟩:=de.cells b.out c.out hid.out;by_cases j:n<a
   ·obtain⟨⟨u1,L⟩,M,⟨u2,s3⟩,N⟩:=d j;have p:fpowN S P (ay S P) n<S:=dM b.out n;have q:=Lib.hid (de.store b.out c.out hid.out j);have m:Hid (mulR C S P (fpowN S P (ay S P) n:Nat) (ay S P:Nat)=(((fpowN S P (ay S P) (n+1):Nat):Int),0)):=by
     show _=_;unfold mulR;rw[fJ b.out p hg];simp;rfl
    generalize fpowN S P (ay S P) n=X at*;generalize k:fpowN S P (ay S P) (n+1)=Y at*;have o:=Lib.hid k;clear k;clear d;go_wp2;go_region
    all_goals go_wp2_with(go_at_call 159;refine(gu C S P X (ay S P) _ oO y).mono ?_;rintro e w2 ⟨rfl,r⟩;rw[m.out])
    all_goals go_roundw
    all_goals try(case measure=>simp[intOf];omega)
    all_goals refine⟨n+1,by omega,by go_num,by rw[o.out],?_⟩
    all_goals exact de.below (de.drew q.out) r
   ·obtain rfl:n=a:=oO;obtain⟨O,Q,T,U,V⟩:=de.res hid.out;have s:=Lib.hid (de.oZ b.out c.out hid.out);clear d;go_wp2;refine bodyPost_ret (v:= .agg #[.int .i64 C,.int .i64 S,.slice (some ⟨(w1.heap.size+1+1),0,none⟩) n n,.slice (some ⟨(w1.heap.size),0,none⟩) S S]) ?_ rfl ⟨(w1.heap.size+1+1),(w1.heap.size),?_,?_,?_⟩
    ·have t:Tryz.f119.results=#[.cell 2 152]:=oK;simp only[results,t];go_simp
    ·rw[c.out]
    ·exact(((s.out.setCell _ _ oT oT).setCell _ _ oT oT).setCell _ _ oT oT).setCell _ _ oT oT
    ·exact⟨(((hid.out.B.setCell oS _).setCell oS _).setCell oS _).setCell oS _,by omega,by omega⟩
 ·go_loopw [6,28] (λx i wr=>∃n:Nat,n<=a/\i= .int .i64 (n:Nat)/\x= .int .i64 ((fpowN S P (ay S P) n:Nat):Int)/\Hid (de w wr C S P a n (w1.heap.size+1) (w1.heap.size+1+1) (w1.heap.size))) (λ_ i _=>a-(intOf i).toNat)
  case atStart=>
   refine⟨0,Nat.zero_le _,rfl,rfl,?_⟩;refine⟨ak (ae (ae (ae g.out.2.2.2 _) _) _),by omega,by omega,by omega,by omega,by omega,by omega,?_,?_,?_,?_,?_⟩
   ·exact(Below.heap_alloc _ _ _ oT).trans ((Below.heap_alloc _ _ _ oT).trans ((Below.heap_alloc _ _ _ oO).trans g.out.2.1))
   ·exact(Below.heap_alloc _ _ _ oT).trans ((Below.heap_alloc _ _ _ oT).trans ((Below.heap_alloc _ _ _ oO).trans g.out.2.2.1))
   ·rw[A.out];exact(cV w1 _ _ _).2.1
   ·rw[B.out];exact(cV w1 _ _ _).2.2
   ·exact(cV w1 _ _ _).1
  case round=>
   obtain⟨n,hn,rfl,rfl,hid⟩:=hrel;obtain⟨⟨D,E,F⟩,⟨G,H,J,K⟩,d⟩:=de.cells b.out c.out hid.out;by_cases j:n<a
   ·obtain⟨⟨u1,L⟩,M,⟨u2,s3⟩,N⟩:=d j;have p:fpowN S P (ay S P) n<S:=dM b.out n;have q:=Lib.hid (de.store b.out c.out hid.out j);have m:Hid (mulR C S P (fpowN S P (ay S P) n:Nat) (ay S P:Nat)=(((fpowN S P (ay S P) (n+1):Nat):Int),0)):=by
     show _=_;unfold mulR;rw[fJ b.out p hg];simp;rfl
    generalize fpowN S P (ay S P) n=X at*;generalize k:fpowN S P (ay S P) (n+1)=Y at*;have o:=Lib.hid k;clear k;clear d;go_wp2;go_region
    all_goals go_wp2_with(go_at_call 159;refine(gu C S P X (ay S P) _ oO y).mono ?_;rintro e w2 ⟨rfl,r⟩;rw[m.out])
    all_goals go_roundw
    all_goals try(case measure=>simp[intOf];omega)
    all_goals refine⟨n+1,by omega,by go_num,by rw[o.out],?_⟩
    all_goals exact de.below (de.drew q.out) r
   ·obtain rfl:n=a:=oO;obtain⟨O,Q,T,U,V⟩:=de.res hid.out;have s:=Lib.hid (de.oZ b.out c.out hid.out);clear d;go_wp2;refine bodyPost_ret (v:= .agg #[.int .i64 C,.int .i64 S,.slice (some ⟨(w1.heap.size+1),0,none⟩) n n,.slice (some ⟨(w1.heap.size+1+1),0,none⟩) S S]) ?_ rfl ⟨(w1.heap.size+1),(w1.heap.size+1+1),?_,?_,?_⟩
    ·have t:Tryz.f119.results=#[.cell 2 152]:=oK;simp only[results,t];go_simp
    ·rw[c.out]
    ·exact(((s.out.setCell _ _ oT oT).setCell _ _ oT oT).setCell _ _ oT oT).setCell _ _ oT oT
    ·exact⟨(((hid.out.B.setCell oS _).setCell oS _).setCell oS _).setCell oS _,by omega,by omega⟩
 ·go_loopw [6,28] (λx i wr=>∃n:Nat,n<=a/\i= .int .i64 (n:Nat)/\x= .int .i64 ((fpowN S P (ay S P) n:Nat):Int)/\Hid (de w wr C S P a n (w1.heap.size+1+1) (w1.heap.size+1) (w1.heap.size))) (λ_ i _=>a-(intOf i).toNat)
  case atStart=>
   refine⟨0,Nat.zero_le _,rfl,rfl,?_⟩;refine⟨ak (ae (ae (ae g.out.2.2.2 _) _) _),by omega,by omega,by omega,by omega,by omega,by omega,?_,?_,?_,?_,?_⟩
   ·exact(Below.heap_alloc _ _ _ oT).trans ((Below.heap_alloc _ _ _ oT).trans ((Below.heap_alloc _ _ _ oO).trans g.out.2.1))
   ·exact(Below.heap_alloc _ _ _ oT).trans ((Below.heap_alloc _ _ _ oT).trans ((Below.heap_alloc _ _ _ oO).trans g.out.2.2.1))
   ·rw[A.out];exact(cV w1 _ _ _).2.2
   ·rw[B.out];exact(cV w1 _ _ _).2.1
   ·exact(cV w1 _ _ _).1
  case round=>
   obtain⟨n,hn,rfl,rfl,hid⟩:=hrel;obtain⟨⟨D,E,F⟩,⟨G,H,J,K⟩,d⟩:=de.cells b.out c.out hid.out;by_cases j:n<a
   ·obtain⟨⟨u1,L⟩,M,⟨u2,s3⟩,N⟩:=d j;have p:fpowN S P (ay S P) n<S:=dM b.out n;have q:=Lib.hid (de.store b.out c.out hid.out j);have m:Hid (mulR C S P (fpowN S P (ay S P) n:Nat) (ay S P:Nat)=(((fpowN S P (ay S P) (n+1):Nat):Int),0)):=by
     show _=_;unfold mulR;rw[fJ b.out p hg];simp;rfl
    generalize fpowN S P (ay S P) n=X at*;generalize k:fpowN S P (ay S P) (n+1)=Y at*;have o:=Lib.hid k;clear k;clear d;go_wp2;go_region
    all_goals go_wp2_with(go_at_call 159;refine(gu C S P X (ay S P) _ oO y).mono ?_;rintro e w2 ⟨rfl,r⟩;rw[m.out])
    all_goals go_roundw
    all_goals try(case measure=>simp[intOf];omega)
    all_goals refine⟨n+1,by omega,by go_num,by rw[o.out],?_⟩
    all_goals exact de.below (de.drew q.out) r
   ·obtain rfl:n=a:=oO;obtain⟨O,Q,T,U,V⟩:=de.res hid.out;have s:=Lib.hid (de.oZ b.out c.out hid.out);clear d;go_wp2;refine bodyPost_ret (v:= .agg #[.int .i64 C,.int .i64 S,.slice (some ⟨(w1.heap.size+1+1),0,none⟩) n n,.slice (some ⟨(w1.heap.size+1),0,none⟩) S S]) ?_ rfl ⟨(w1.heap.size+1+1),(w1.heap.size+1),?_,?_,?_⟩
    ·have t:Tryz.f119.results=#[.cell 2 152]:=oK;simp only[results,t];go_simp
    ·rw[c.out]
    ·exact(((s.out.setCell _ _ oT oT).setCell _ _ oT oT).setCell _ _ oT oT).setCell _ _ oT oT
    ·exact⟨(((hid.out.B.setCell oS _).setCell oS _).setCell oS _).setCell oS _,by omega,by omega⟩
end
section
open Fl
noncomputable def eH (s p j:Nat):Nat:=fpowN s p (ay s p) (j%(s-1))
def gU (s p x:Nat) (w:List Nat):Nat->Nat
 |0=>0
 |k+1=>bW s p (aM s p (gU s p x w k) x) (w.getD k 0)
noncomputable def ze (s p first:Nat) (w:List Nat) (j:Nat):Nat:=gU s p (eH s p (first+j)) w w.length
section
variable {c s p : Nat} (h : VF c s p)
include h
theorem iF (j:Nat):eH s p j<s:=dM h _
theorem qT {x:Nat} {w:List Nat} (a:aA s w) (k:Nat):gU s p x w k<s:=by
 cases k with
 |zero=>have:=h.aT;show 0<s;omega
 |succ k=>exact jY h _ _ (cd h _ _) (a k)
theorem CZ {first:Nat} {w:List Nat} (a:aA s w) (j:Nat):ze s p first w j<s:=qT h a _
theorem sw {a:Nat} (b:a<s):aS h a=0↔a=0:=by
 constructor
 ·intro e;rw[<-bX h]at e;exact jt h b (by have:=h.aT;omega) e
 ·rintro rfl;exact bX h
noncomputable def alpha:KF h:=aS h (ay s p)
theorem vk {a:Nat} (b:a<s):∀n,aS h (fpowN s p a n)=aS h a^n
 |0=>mP h
 |n+1=>by
  show aS h (aM s p (fpowN s p a n) a)=aS h a^n* aS h a;rw[gr h (mS h a n) b,vk b n]
theorem qE:dj (alpha h) (s-1):=by
 have hg:=gv h;have a:=(nH h (⟨ay s p,hg.2.1⟩:El s) (s-1)).1 hg.2.2.1;unfold alpha;rw[gz h hg.2.1];exact a
theorem GZ:alpha h≠0:=(qE h).ne
theorem vg (j:Nat):aS h (eH s p j)=alpha h^j:=by
 unfold eH alpha;rw[vk h (gv h).2.1];exact(tD (qE h).2.1 j).symm
noncomputable def err (w v:List Nat) (i:Nat):KF h:=co h w i-co h v i
end
theorem iH {a b:List Nat} (hl:a.length=b.length) (e:∀i,i<a.length->a.getD i 0=b.getD i 0):a=b:=by
 apply List.ext_getElem hl;intro i d f;have:=e i d;simpa[List.getD,d,f]using this
section
variable {c s p : Nat} (h : VF c s p)
include h
end
end
section
open Go.RowKit
theorem Dy (C S P a bl k:Nat) (w:World) (b:VF C S P) (n:k<=100000000) (d:eY w S P a bl):
 Calls Tryz.prog 152 #[qC C S a bl,.int .i64 k] w λe w'=>e= .returned (.int .i64 ((eH S P k:Nat):Int))/\Below w.heap.size w w':=by
 have l:Hid (Below w.heap.size w (w.alloc (yk C S a bl))):=(Below.refl _ _).alloc (Nat.le_refl _) _;have o:=b.le;have q:=b.aT;have f:=d.alloc (yk C S a bl);have i:k%(S-1)<S-1:=Nat.mod_lt _ oO;have j:=f.2.2.1 _ i;have g:Hid (eH S P k=fpowN S P (ay S P) (k%(S-1))):=rfl;have e1:(k:Int).tmod ((S:Int)-1)=((k%(S-1):Nat):Int):=by
  rw[show(S:Int)-1=((S-1:Nat):Int)from by omega];exact(Int.ofNat_tmod _ _).symm
 rw[<-g.out]at j;generalize k%(S-1)=m at*;generalize eH S P k=r at*;clear f d b g;go_enter Tryz.func152,Tryz.ntmps152;go_wp2;go_quiet (fail)
 go_wp2;go_ret;exact⟨rfl,iN l.out _⟩
def gO (s p:Nat) (a b:List Nat) (n i j:Nat):List Nat:=(List.range n).map (vF s p a b i j)
theorem pP (s p:Nat) (a b:List Nat) (n i j:Nat):(gO s p a b n i j).length=n:=by unfold gO;simp
section
variable {c s p : Nat} (h : VF c s p)
include h
theorem Et (a b:List Nat) (n:Nat):gO s p a b n 0 0=List.replicate n 0:=by
 unfold gO;apply List.ext_getElem
 ·simp
 ·intro k d e;simp[ra h,oI]
theorem Io (a b:List Nat) {n i j:Nat} (f:i+j<n):
 (gO s p a b n i j).set (i+j) (bW s p ((gO s p a b n i j).getD (i+j) 0) (aM s p (a.getD i 0) (b.getD j 0)))=gO s p a b n i (j+1):=by
 unfold gO;rw[bY _ _ _ f,fC _ _ _ _ f];apply List.map_congr_left;intro k g;unfold vF;by_cases e:k=i+j
 ·subst e;rw[if_pos rfl,if_neg oO,if_pos oO,show i+j-i=j from by omega]
 ·rw[if_neg e];by_cases d:i<=k/\k-i<j
  ·rw[if_pos d,if_pos oO]
  ·rw[if_neg d,if_neg oO]
theorem Iq (a b:List Nat) (e:aA s a) {n i j:Nat} (l:j=b.length\/n<=i+j):gO s p a b n i j=gO s p a b n (i+1) 0:=by
 unfold gO;apply List.map_congr_left;intro k f;rw[List.mem_range]at f;rw[ra h];unfold vF;show _=bW s p (oI s p (ju s p a b k) i) (ju s p a b k i);have hc:=vE h (ju s p a b k) (tc h a b k) i;unfold ju;by_cases d:i<=k
 ·by_cases g:k-i<j
  ·rw[if_pos ⟨d,g⟩,if_pos d]
  ·rw[if_neg oO,if_pos d];have:b.getD (k-i) 0=0:=by rw[List.getD,List.getElem?_eq_none oO];rfl
   rw[this,qY h (e i)];exact(qH h hc).symm
 ·rw[if_neg oO,if_neg d];exact(qH h hc).symm
theorem Gg (a b:List Nat) (n i j:Nat):aA s (gO s p a b n i j):=lW h λk _=>by
 unfold vF;have hc:=vE h (ju s p a b k) (tc h a b k) i;split
 ·exact jY h _ _ hc (cd h _ _)
 ·exact hc
theorem Kt {a b:List Nat} (e:aA s a) (hb:aA s b) {n m:Nat} (f:m<n):co h (gO s p a b n a.length 0) m=conv (co h a) (co h b) m:=by
 unfold gO;rw[Kg,if_pos f,ra h,JQ h _ (tc h a b m),Hh];have e1:∀k,iu (λk=>aS h (ju s p a b m k)) k=iu (λk=>if k<=m then co h a k* co h b (m-k)else 0) k:=λk=>pZ λk _=>GP h e hb m k;rw[e1];have e2:iu (λk=>co h a k* co h b (m-k)) (m+1)=iu (λk=>if k<=m then co h a k* co h b (m-k)else 0) (m+1):=pZ λk i=>by rw[if_pos oO]
 rw[e2];rcases Nat.le_total a.length (m+1)with hl|hl
 ·refine(zj (λk d g=>?_) hl).symm;rw[fq h a k d,fU];simp
 ·refine zj (λk d g=>?_) hl;rw[if_neg oO]
end
def Jc (w:World) (v:Value):Prop:=∀a n c,v= .slice (some a) n c->w.heap.size<=a.block
theorem Jc.mk {w:World} {g a n c:Nat} (h:w.heap.size<=g):Jc w (.slice (some ⟨g,a,none⟩) n c):=λb d c' e=>by
 injection e with e1;injection e1 with e1;rw[<-e1];exact h
theorem RD.Lg {w:World} {A:Option Addr} {l:List Nat} (h:RG vN 0 w A l):RD w A (zl l):=λhn=>by
 rw[aB]at hn;obtain⟨b,e,hl,hc⟩:=h hn;exact⟨b,e,hl,λj a=>by rw[aB]at a;rw[hc j a,dV]⟩
theorem RD.Li {w:World} {A:Option Addr} {l:List Nat} (h:RD w A (zl l)):RG vN 0 w A l:=λhn=>by
 obtain⟨a,e,hl,hc⟩:=h (by rw[aB];exact hn);exact⟨a,e,hl,λj b=>by rw[hc j (by rw[aB];exact b),dV]⟩
theorem bh.I1 {w:World} {v:Value} {l:List Nat} (h:SG vN 0 w v l):bh w v (zl l):=by
 obtain⟨A,c,rfl,a,b,d⟩:=h;exact⟨A,c,by rw[aB],by rw[aB];exact a,b,RD.Lg d⟩
theorem bh.K2 {w:World} {v:Value} {l:List Nat} (h:bh w v (zl l)):SG vN 0 w v l:=by
 obtain⟨A,c,rfl,a,b,d⟩:=h;rw[aB]at a;exact⟨A,c,by rw[aB],a,b,RD.Li d⟩
section
variable {c s p : Nat} (h : VF c s p)
include h
end
theorem Ky:(Tryz.prog.info? 3).map (·.size)=some 1:=oK
theorem Kx (l:List Nat):∀v∈(zl l).map (Value.int .i64),v.oneCell'=true:=by
 intro u a;obtain⟨y,_,rfl⟩:=List.mem_map.1 a;rfl
theorem bV.of_heap {W:World} {b:Nat} {l:List Nat} {d:TypeId} (a:W.heap[b]?=some (.cells (dI l) d (0,0))):bV W b l:=by
 refine⟨aw a,λi e=>⟨?_,frozen_of_row _ _ _ _ _ a⟩⟩;rw[cell_of_row _ _ _ _ _ _ a,eS];simp[List.getD,e]
abbrev cQ (C S P par first:Nat):Value:= .agg #[.int .i64 C,.int .i64 S,.int .i64 P,.int .i64 par,.int .i64 first]
abbrev gT (C S P par first:Nat):List Value:=[.int .i64 C,.int .i64 S,.int .i64 P,.int .i64 par,.int .i64 first]
abbrev gW (C S P par first:Nat):Obj:= .cells #[.int .i64 C,.int .i64 S,.int .i64 P,.int .i64 par,.int .i64 first] 91
theorem p9 {W:World} {b C S P par first:Nat} (h:ai W b (gT C S P par first)):W.cell? ⟨b,0,none⟩=some (.int .i64 C)/\W.cell? ⟨b,1,none⟩=some (.int .i64 S)/\W.cell? ⟨b,2,none⟩=some (.int .i64 P)/\W.cell? ⟨b,3,none⟩=some (.int .i64 par)/\W.cell? ⟨b,4,none⟩=some (.int .i64 first):=
 ⟨h.2 0 oS,h.2 1 oS,h.2 2 oS,h.2 3 oS,h.2 4 oS⟩
theorem bh.nat {w:World} {v:Value} {l:List Nat} (h:bh w v (zl l)):∃A c,v= .slice A l.length c/\l.length<=c/\c<=maxLen/\RD w A (zl l):=by
 obtain⟨A,c,rfl,a,b,d⟩:=h;rw[aB]at a⊢;exact⟨A,c,rfl,a,b,d⟩
section
variable {c s p : Nat} (h : VF c s p)
include h
end
theorem bj {P:Program} {c:Array Oper} {S:World->Prop} {K:Act->World->Prop} {a:Act} {w:World} {r:List (Bool×Nat×Oper)} {k:Nat} {b:Oper} (hg:Region.wanted b (yielded c a.tmps)=true) {w':World} (d:(execOp a.eval b).run P w= .ok .skip w') (e:S w') (h:bG P c S K r (a.put b.dst undef) w'):bG P c S K ((true,k,b)::r) a w:=
 .inl ⟨hg,by rw[d];exact⟨e,h⟩⟩
section
variable {c s p : Nat} (h : VF c s p)
include h
end
theorem bI {a:Act} {b:Oper} {W:World} {x q:Operand} (d:b.op= .store 3 q x) (p:Addr) (v:Int) (hq:a.eval q= .pointer (some p)) (e:a.eval x= .int .i64 v) {u:Value} (hc:W.cell? p=some u) (f:W.frozen? p=false):
 (execOp a.eval b).run Tryz.prog W= .ok .skip (W.setCell p (.int .i64 v)):=by
 unfold execOp;simp only[d,hq,e,Instr.storeAt,Instr.sureAddr,Sem.run_bind,Sem.run_pure,Result.andThen_ok];go_simp
theorem xG (c s p:Int) (xs:List Int) (A:Option Addr) (q:Nat) (w:World) (v:xs.length<=9223372036854775807) (l:RD w A xs):
 Calls Tryz.prog 151 #[ba c s p,.slice A xs.length q] w λe w'=>e= .returned (.bool (fK s xs))/\Below w.heap.size w w':=by
 have r:=Lib.hid (l.alloc (.cells #[.int .i64 c,.int .i64 s,.int .i64 p] 89));clear l;generalize hn:xs.length=n at*;have a:=Lib.hid hn;clear hn;go_enter Tryz.func151,Tryz.ntmps151;go_wp2;go_loop [6,9] (λ_ i=>∃k:Nat,k<=n/\i= .int .i64 k/\Hid (∀j,j<k->0<=xs.getD j 0/\xs.getD j 0<s)) (λ_ i=>n-(intOf i).toNat)
 case atStart=>exact⟨0,Nat.zero_le _,rfl,λj t=>by omega⟩
 case round=>
  obtain⟨k,y,rfl,hid⟩:=hrel;have g:Hid (Below w.heap.size w (w.alloc (.cells #[.int .i64 c,.int .i64 s,.int .i64 p] 89))):=(Below.refl _ _).alloc (Nat.le_refl _) _;by_cases f:k<n
  ·obtain⟨z,rfl,-,o⟩:=r.out (by rw[a.out];omega);have D:=o k (by rw[a.out];exact f);clear o;generalize m:xs.getD k 0=x at*;have d:=Lib.hid m;clear m;by_cases B:x<0
   ·have b:=Lib.hid (pO (s:=s) (k:=k) (by rw[a.out];exact f) (by rw[d.out];omega));go_wp2;go_ret;exact⟨aN b.out.symm,g.out⟩
   ·by_cases C:s<=x
    ·have b:=Lib.hid (pO (s:=s) (k:=k) (by rw[a.out];exact f) (by rw[d.out];omega));go_wp2;go_ret;exact⟨aN b.out.symm,g.out⟩
    ·go_wp2;refine⟨⟨k+1,by omega,by go_num,?_⟩,by simp[intOf];omega⟩;intro j t;by_cases u:j=k
     ·subst u;rw[d.out];omega
     ·exact hid.out j oO
  ·obtain rfl:k=n:=oO;have b:=Lib.hid (vO (s:=s) (xs:=xs) (by rw[a.out];exact hid.out));go_wp2;go_ret;exact⟨aN b.out.symm,g.out⟩
structure eo (C S P par first:Nat):Prop where
 vf:VF C S P
 p1:1<=par
 p2:par<=S-2
 f2:first<=S-2
theorem eo.s3 {C S P par first:Nat} (h:eo C S P par first):3<=S/\S<=4096:=by
 have:=h.p1;have:=h.p2;have:=h.vf.le;omega
theorem wO (C S P par first:Nat) (w:World) (h:eo C S P par first):
 Calls Tryz.prog 150 #[ba C S P,.int .i64 par,.int .i64 first] w λe w'=>e= .returned (.bool true)/\Below w.heap.size w w':=by
 obtain⟨s3,d⟩:=h.s3;have f:=h.p1;have g:=h.p2;have i:=h.f2;have c:Hid (Below w.heap.size w (w.alloc (.cells #[.int .i64 C,.int .i64 S,.int .i64 P] 89))):=(Below.refl _ _).alloc (Nat.le_refl _) _;obtain⟨a,b⟩:∃a,S=a+2:=⟨S-2,by omega⟩;subst b;have e1:((a+2:Nat):Int)-2=(a:Int):=oO;clear h;go_enter Tryz.func150,Tryz.ntmps150;go_wp2;go_ret;exact⟨aN oT,c.out⟩
theorem jW (w:World) (C S P par first:Nat):Hid (∀W,af (w.alloc (gW C S P par first)) W->W.cell? ⟨w.heap.size,0,none⟩=some (.int .i64 C)/\W.cell? ⟨w.heap.size,1,none⟩=some (.int .i64 S)/\W.cell? ⟨w.heap.size,2,none⟩=some (.int .i64 P)/\W.cell? ⟨w.heap.size,3,none⟩=some (.int .i64 par)/\W.cell? ⟨w.heap.size,4,none⟩=some (.int .i64 first)):=by
 show∀W,_;intro W a;have h:ai (w.alloc (gW C S P par first)) w.heap.size (gT C S P par first):=ai.new _ _ _ _ rfl;exact p9 (h.below a)
theorem uV (C S P par first:Nat) (l:List Nat) (n:Nat) (A:Option Addr) (g:Nat) (w:World) (h:eo C S P par first) (hn:n=l.length) (hl:aA S l) (x:n<=9223372036854775807) (m:RD w A (zl l)):
 Calls Tryz.prog 112 #[cQ C S P par first,.slice A n g] w λe w'=>e= .returned (.bool true)/\Below w.heap.size w w':=by
 have i:=Lib.hid h;have j:=jW w C S P par first
 have v:Hid (Below w.heap.size w (w.alloc (gW C S P par first))):=(Below.refl _ _).alloc (Nat.le_refl _) _;have s:Hid (∀W,af (w.alloc (gW C S P par first)) W->Calls Tryz.prog 151 #[ba C S P,.slice A n g] W λe w'=>e= .returned (.bool true)/\Below W.heap.size W w'):=by
  show∀W,_;intro W t;have:=xG C S P (zl l) A g W (by rw[aB];omega) (m.below (v.out.mono (Nat.le_refl _)|>.trans (t.mono oS)));rw[aB,<-hn,zI hl]at this;exact this
 obtain⟨a,b,c,d,f⟩:=j.out _ (Below.refl _ _);clear m hl hn h;go_enter Tryz.func112,Tryz.ntmps112
 go_wp2_with(first
  |(go_at_call 149;refine(ij C S P _ i.out.vf.qz).mono ?_;rintro e w1 ⟨rfl,o⟩;rw[jg i.out.vf];have p:=Lib.hid o;clear o a b c d f;obtain⟨a,b,c,d,f⟩:=j.out _ p.out)
  |(go_at_call 150;refine(wO C S P par first _ i.out).mono ?_;rintro e w2 ⟨rfl,q⟩;have k:=Lib.hid (ab p.out q);clear q a b c d f;obtain⟨a,b,c,d,f⟩:=j.out _ k.out)
  |(go_at_call 151;refine(s.out _ k.out).mono ?_;rintro e y ⟨rfl,r⟩;have u:=Lib.hid (ab k.out r);clear r))
 go_ret;exact⟨rfl,cN u.out⟩
theorem FJ (C S P par first n:Nat) (w:World) (b:par<n) (c:n<S):
 Calls Tryz.prog 113 #[cQ C S P par first,.int .i64 n] w λe w'=>e= .returned (.bool true)/\Below w.heap.size w w':=by
 have a:Hid (Below w.heap.size w (w.alloc (gW C S P par first))):=(Below.refl _ _).alloc (Nat.le_refl _) _;go_enter Tryz.func113,Tryz.ntmps113;go_wp2;go_ret;exact⟨rfl,a.out⟩
theorem nA (C S P par first:Nat) (w:World) (h:eo C S P par first):
 Calls Tryz.prog 111 #[ba C S P,.int .i64 par,.int .i64 first] w λe w'=>e= .returned (.tuple #[cQ C S P par first,.int .i64 0])/\Below w.heap.size w w':=by
 have c:=Lib.hid h;have d:aa (w.alloc (iT C S P)) w.heap.size (oP C S P).toArray 89:=aa.new _ _ _ _ rfl;have g:aa ((w.alloc (iT C S P)).alloc (gW 0 0 0 0 0)) (w.heap.size+1) (gT 0 0 0 0 0).toArray 91:=aa.new _ _ _ _ oS;have j:Hid (∀W,af ((w.alloc (iT C S P)).alloc (gW 0 0 0 0 0)) W->aa W w.heap.size (oP C S P).toArray 89/\aa W (w.heap.size+1) (gT 0 0 0 0 0).toArray 91):=by
  show∀W,_;intro W k;exact⟨(d.below (ar _ _)).below k,g.below k⟩
 have y:Hid (Below w.heap.size w ((w.alloc (iT C S P)).alloc (gW 0 0 0 0 0))):=(ar _ _).alloc oS _;clear h d g;go_enter Tryz.func111,Tryz.ntmps111;go_wp2_with fail
 refine(ij C S P _ c.out.vf.qz).mono ?_;rintro e w1 ⟨rfl,m⟩;rw[jg c.out.vf];have n:=Lib.hid m;obtain⟨a,-⟩:=j.out _ n.out;have c0:w1.cell? ⟨w.heap.size,0,none⟩=some (.int .i64 C):=a.cell 0 _ rfl;have c1:w1.cell? ⟨w.heap.size,1,none⟩=some (.int .i64 S):=a.cell 1 _ rfl;have l:w1.cell? ⟨w.heap.size,2,none⟩=some (.int .i64 P):=a.cell 2 _ rfl;clear m a;go_wp2_with fail
 refine(wO C S P par first _ c.out).mono ?_;rintro e w2 ⟨rfl,o⟩;have p:=Lib.hid (ab n.out o);obtain⟨a,b⟩:=j.out _ p.out;clear o c0 c1 l;have c0:w2.cell? ⟨w.heap.size,0,none⟩=some (.int .i64 C):=a.cell 0 _ rfl;have c1:w2.cell? ⟨w.heap.size,1,none⟩=some (.int .i64 S):=a.cell 1 _ rfl;have l:w2.cell? ⟨w.heap.size,2,none⟩=some (.int .i64 P):=a.cell 2 _ rfl;have q:w2.cell? ⟨w.heap.size+1,0,none⟩=some (.int .i64 0):=b.cell 0 _ rfl;have r:w2.cell? ⟨w.heap.size+1,1,none⟩=some (.int .i64 0):=b.cell 1 _ rfl;have s:w2.cell? ⟨w.heap.size+1,2,none⟩=some (.int .i64 0):=b.cell 2 _ rfl;have t:w2.cell? ⟨w.heap.size+1,3,none⟩=some (.int .i64 0):=b.cell 3 _ rfl;have u:w2.cell? ⟨w.heap.size+1,4,none⟩=some (.int .i64 0):=b.cell 4 _ rfl;have f:∀i,w2.frozen? ⟨w.heap.size+1,i,none⟩=false:=λi=>frozen_of_row _ _ _ _ _ b;have z:=f 0;have A:=f 1;have B:=f 2;have D:=f 3;have E:=f 4;have x:Hid (Below w.heap.size w w2):=ab y.out p.out;clear f a b;go_wp2;exact bodyPost_ret (v:= .tuple #[cQ C S P par first,.int .i64 0]) (by simp[results,Tryz.results111,go_sem,q,r,s,t,u]) rfl ⟨rfl,((((x.out.setCell oS _).setCell oS _).setCell oS _).setCell oS _).setCell oS _⟩
structure GS (w:World) (b c a:Nat) (d e:List Value) (S P be bl:Nat) (l:List Nat) (wr:World):Prop where
 B:Below w.heap.size w wr
 X:ai wr b d
 Q:ai wr c e
 T:eY wr S P be bl
 O:bV wr a l
 lo:w.heap.size<=a
 n1:b≠a
 n2:c≠a
 n3:be≠a
 n4:bl≠a
theorem GS.below {w:World} {a b c:Nat} {d e:List Value} {S P f bl:Nat} {l:List Nat} {wr W:World} (h:GS w a b c d e S P f bl l wr) (hb:Below wr.heap.size wr W):GS w a b c d e S P f bl l W:=
 ⟨ab h.B hb,h.X.below hb,h.Q.below hb,h.T.below hb,h.O.below hb,h.lo,h.n1,h.n2,h.n3,h.n4⟩
theorem GS.set {w:World} {b c a:Nat} {d e:List Value} {S P f bl:Nat} {l:List Nat} {wr:World} (h:GS w b c a d e S P f bl l wr) (i v:Nat):GS w b c a d e S P f bl (l.set i v) (wr.setCell ⟨a,i,none⟩ (.int .i64 (v:Int))):=
 ⟨h.B.setCell h.lo _,h.X.other _ _ h.n1,h.Q.other _ _ h.n2,h.T.setCell _ _ h.n3 h.n4,h.O.set i v,h.lo,h.n1,h.n2,h.n3,h.n4⟩
noncomputable def l9 (s p first par i:Nat):List Nat:=(List.range par).map λj=>if j<i then eH s p (first+j)else 0
theorem ot (s p first par i:Nat):(l9 s p first par i).length=par:=by unfold l9;simp
theorem E5 (s p first par:Nat):l9 s p first par 0=List.replicate par 0:=by
 refine iH (by rw[ot,List.length_replicate]) λj a=>?_;rw[ot]at a;unfold l9;rw[bY _ _ _ a,if_neg oO];simp[List.getD,a]
theorem EK (s p first par i:Nat) (b:i<par):(l9 s p first par i).set i (eH s p (first+i))=l9 s p first par (i+1):=by
 unfold l9;rw[fC _ _ _ _ b];apply List.map_congr_left;intro j c;by_cases e:j=i
 ·subst e;rw[if_pos rfl,if_pos oO]
 ·rw[if_neg e];by_cases a:j<i
  ·rw[if_pos a,if_pos oO]
  ·rw[if_neg a,if_neg oO]
noncomputable def eX (s p first par:Nat):List Nat:=(List.range par).map λj=>eH s p (first+j)
theorem GF (s p first par:Nat):l9 s p first par par=eX s p first par:=by
 unfold l9 eX;apply List.map_congr_left;intro j a;rw[List.mem_range]at a;rw[if_pos a]
theorem iR (s p first par:Nat):(eX s p first par).length=par:=by unfold eX;simp
theorem rH {c s p:Nat} (h:VF c s p) (first par:Nat):aA s (eX s p first par):=lW h λi _=>iF h _
noncomputable def cP (s p first par:Nat):List Nat:=fromL s p (eX s p first par) par
theorem vS (C S P par first:Nat) (w:World) (h:eo C S P par first):
 Calls Tryz.prog 114 #[cQ C S P par first] w (iB w (zl (cP S P first par),0)):=by
 obtain⟨ac,ad,a8,a9,bb⟩:=info_parts dd;have d:=Lib.hid h;obtain⟨s3,al⟩:=h.s3;have am:=h.p1;have B:=h.p2;have D:=h.f2;have q:=jW w C S P par first
 have s:ai (w.alloc (gW C S P par first)) w.heap.size (gT C S P par first):=ai.new _ _ _ _ rfl;have E:=Lib.hid s;have Z:Hid (Below w.heap.size w (w.alloc (gW C S P par first))):=(Below.refl _ _).alloc (Nat.le_refl _) _;have be:par<=4094:=oO;have bd:first<=4094:=oO
 obtain⟨f,g,j,l,m⟩:=q.out _ (Below.refl _ _);have M:=run_make_row' (P:=Tryz.prog) 64 3 (.int .i64 0) 8 Tryz.underlying64 dd rfl .i64 .i64 par oO oO;have F:Hid (∀W,Calls Tryz.prog 112 #[cQ C S P par first,.slice none 0 0] W λe w'=>e= .returned (.bool true)/\Below W.heap.size W w'):=by
  show∀W,_;intro W;exact uV C S P par first [] 0 none 0 W h rfl (λi=>by simp[List.getD];omega) oO (RD.dD _ _)
 clear h s B D;go_enter Tryz.func114,Tryz.ntmps114
 go_wp2_with(first
  |(go_at_call 112;refine(F.out _).mono ?_;rintro e w1 ⟨rfl,x⟩;have r:=Lib.hid x;clear x f g j l m;obtain⟨f,g,j,l,m⟩:=q.out _ r.out)
  |(go_at_call 119;refine(FL C S P _ d.out.vf).mono ?_;rintro e w2 ⟨a,bl,rfl,c,y,-,-⟩;have t:=Lib.hid c;have n:=Lib.hid (ab r.out y);clear y c f g j l m;obtain⟨f,g,j,l,m⟩:=q.out (w2.alloc (yk C S a bl)) (ae n.out _)))
 have N:Hid (w.heap.size<w2.heap.size):=by show _<_;have:=n.out.size;simp at this;omega
 have O:Hid (GS w w.heap.size w2.heap.size (w2.heap.size+1) (gT C S P par first) (mi C S a bl) S P a bl (l9 S P first par 0) ((w2.alloc (yk C S a bl)).alloc (.cells (madeCells #[.int .i64 0] par) 3))):=by
  have ap:=N.out;have c:=t.out;refine⟨ae (ae (ab Z.out n.out) _) _,((E.out.below n.out).alloc _).alloc _,(ai.new _ _ _ _ rfl).alloc _,(c.alloc _).alloc _,?_,by omega,by omega,by omega,by have:=c.1;omega,by have:=c.2.1;omega⟩;rw[E5];exact bV.made _ _ _ _ oS
 generalize G:(w2.alloc (yk C S a bl)).alloc (.cells (madeCells #[.int .i64 0] par) 3)=av at*;clear G f g j l m r t n;generalize Q:w2.heap.size=o at*;clear Q;clear M;go_loopw [18] (λi wr=>∃k:Nat,k<=par/\i= .int .i64 k/\Hid (GS w w.heap.size o (o+1) (gT C S P par first) (mi C S a bl) S P a bl (l9 S P first par k) wr)) (λi _=>par-(intOf i).toNat)
 case atStart=>exact⟨0,Nat.zero_le _,rfl,O⟩
 case round=>
  obtain⟨k,a0,rfl,b⟩:=hrel;by_cases z:k<par
  ·obtain⟨a1,a2,a3,a4⟩:=kJ b.out.Q;obtain⟨c0,c1,H,J,K⟩:=p9 b.out.X;have T:Hid (Calls Tryz.prog 152 #[qC C S a bl,.int .i64 ((first:Int)+(k:Int))] wr λe w'=>e= .returned (.int .i64 ((eH S P (first+k):Nat):Int))/\Below wr.heap.size wr w'):=by
    have:=Dy C S P a bl (first+k) wr d.out.vf oO b.out.T;show Calls _ _ _ _ _;simpa using this
   have U:Hid (_=_):=EK S P first par k z
   have V:Hid (k<(l9 S P first par k).length):=by show _<_;rw[ot];exact z
   generalize eH S P (first+k)=a5 at*;go_wp2_with(go_at_call 152;refine T.out.mono ?_;rintro e L ⟨rfl,p⟩;have A:=Lib.hid (b.out.below p);clear p;obtain⟨a6,a7⟩:=A.out.O.2 k V.out)
   exact⟨⟨k+1,by omega,by go_num,by rw[<-U.out];exact A.out.set _ _⟩,by simp[intOf];omega⟩
  ·obtain rfl:k=par:=oO;obtain⟨c0,c1,H,J,K⟩:=p9 b.out.X;have X:Hid (Calls Tryz.prog 153 #[ba C S P,.slice (some ⟨o+1,0,none⟩) k k] wr (iB wr (zl (cP S P first k),0))):=by
    have u:=b.out.O.rd;rw[GF]at u;have:=ve C S P ⟨some ⟨o+1,0,none⟩,k,k,zl (eX S P first k)⟩ wr d.out.vf.qz ⟨by rw[aB,iR],by show k<=_;omega,u,Nat.le_refl _,by show k<=maxLen;unfold maxLen;omega⟩;have e:gp C S P (zl (eX S P first k))=(zl (cP S P first k),0):=by
     unfold gp cP;rw[jg d.out.vf,zI (rH d.out.vf _ _),if_pos oS,if_neg (by rw[aB,iR];omega),aB,iR,px];simp
    show Calls _ _ _ _ _;rw[<-e];exact this
   go_wp2_with(go_at_call 153;refine X.out.mono ?_;rintro e L ⟨v,rfl,Y,p⟩)
   go_ret2
   exact iB.mk rfl Y (ab b.out.B p)
end
end Go.Proofs.YtmnlkganmgcpbaaGreatDoor
