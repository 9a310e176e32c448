import Derived.Test.YtmnlkganmgcpbaaGreatDoorQm10
set_option maxRecDepth 100000
set_option maxHeartbeats 4000000
set_option linter.unusedVariables false
set_option linter.unusedSectionVars false
set_option linter.unusedSimpArgs false
namespace Go.Proofs.YtmnlkganmgcpbaaGreatDoor
section
open Fl
def KF {c s p:Nat} (h:VF c s p):Type:=El s
instance{c s p:Nat} (h:VF c s p):Fl (KF h):=ee h
theorem iW {l:List Nat} {i:Nat} (a:l.length<=i):l.getD i 0=0:=by
 rw[List.getD,List.getElem?_eq_none a];rfl
theorem jl {s:Nat} {l:List Nat} (hl:aj s l):aj s (dJ l):=λi=>by rw[qQ];exact hl i
theorem K4 {s p:Nat} (a b:List Nat) (M d k:Nat) (j:Nat) (g:j<M-k):(qL s p a b M d k).getD j 0=0:=by
 induction k with
 |zero=>
  by_cases e:j<d
  ·simp[qL,List.getD,e]
  ·simp[qL,List.getD,e]
 |succ k f=>
  show((qL s p a b M d k).set (M-1-k) _).getD j 0=0;have:=f oO;rw[List.getD,List.getElem?_set_ne oO];exact this
section
variable {c s p : Nat} (h : VF c s p)
def aA (n:Nat):KF h:=(⟨n%s,Nat.mod_lt _ (by have:=h.aG;omega)⟩:El s)
def mono (i:Nat) (u:KF h):Nat->KF h:=λk=>if k=i then u else 0
def nO (i:Nat) (f:Nat->KF h):Nat->KF h:=λn=>if i<=n then f (n-i)else 0
def co (l:List Nat):Nat->KF h:=λi=>aA h (l.getD i 0)
include h
theorem iF {n:Nat} (hn:n<s):aA h n=(⟨n,hn⟩:El s):=El.ext (Nat.mod_eq_of_lt hn)
theorem fy {a b:Nat} (d:a<s) (hb:b<s) (e:aA h a=aA h b):a=b:=by
 rw[iF h d,iF h hb]at e;exact congrArg El.val e
theorem aZ:aA h 0=0:=iF h (by have:=h.aG;omega)
theorem ik:aA h 1=1:=iF h (by have:=h.aG;omega)
theorem jI {a b:Nat} (d:a<s) (hb:b<s):aA h (aT s p a b)=aA h a+aA h b:=by
 rw[iF h (ja h _ _ d hb),iF h d,iF h hb];rfl
theorem dP {a b:Nat} (d:a<s) (hb:b<s):aA h (au s p a b)=aA h a* aA h b:=by
 rw[iF h (aO h _ _),iF h d,iF h hb];rfl
theorem gO {a b:Nat} (d:a<s) (hb:b<s):aA h (aM s p a b)=aA h a-aA h b:=by
 rw[iF h (eI h d hb),iF h d,iF h hb];exact El.ext (ya h ⟨a,d⟩ ⟨b,hb⟩)
theorem Fk {a:Nat} (b:a<s) (d:a≠0):aA h a≠0:=by
 intro e;rw[<-aZ h]at e;exact d (fy h b (by have:=h.aG;omega) e)
theorem sN {a:Nat} (b:a<s) (d:a≠0):aA h a* aA h (bE s p a)=1:=by
 rw[<-dP h b (fq h),zH h b d,ik]
theorem dL (l:List Nat):cS l.length (co h l):=λi a=>by
 unfold co;rw[iW a,aZ]
theorem Lj {a b:List Nat} (d:aj s a) (hb:aj s b) (e:∀i,co h a i=co h b i) (i:Nat):a.getD i 0=b.getD i 0:=fy h (d i) (hb i) (e i)
theorem Em {a b:List Nat} (d:aj s a) (hb:aj s b) (hl:a.length=b.length) (e:∀i,co h a i=co h b i):a=b:=by
 apply List.ext_getElem hl;intro i f g;have:=Lj h d hb e i;simpa[List.getD,f,g]using this
theorem pQ (l:List Nat) (i:Nat):co h (dJ l) i=co h l i:=by unfold co;rw[qQ]
theorem uU (n:Nat) (f:Nat->Nat) (i:Nat):co h ((List.range n).map f) i=if i<n then aA h (f i)else 0:=by
 unfold co;split
 ·rename_i a;rw[aQ _ _ _ a]
 ·rename_i a;rw[iW oT,aZ]
theorem fW {n:Nat} {f:Nat->Nat} (b:∀i,i<n->f i<s):aj s ((List.range n).map f):=λi=>by
 by_cases a:i<n
 ·rw[aQ _ _ _ a];exact b i a
 ·rw[iW oT];have:=h.aG;show 0<s;omega
theorem FE (l:List Nat) (i v j:Nat) (a:i<l.length):co h (l.set i v) j=if j=i then aA h v else co h l j:=by
 unfold co;by_cases e:j=i
 ·subst e;rw[if_pos rfl];congr 1;simp[List.getD,a]
 ·rw[if_neg e];congr 1;simp[List.getD,List.getElem?_set_ne (Ne.symm e)]
theorem BZ {l:List Nat} (hl:aj s l) (a:cG l) (hn:1<=l.length):co h l (l.length-1)≠0:=by
 rcases a with rfl|a
 ·simp at hn
 ·exact Fk h (hl _) a
theorem ou {l:List Nat} (hl:aj s l) (b:cG l) {d:Nat} (e:cS d (co h l)):l.length<=d:=by
 rcases Nat.lt_or_ge d l.length with a|a
 ·exact absurd (e (l.length-1) oO) (BZ h hl b oO)
 ·exact a
theorem ru {l:List Nat} (hl:aj s l) (b:cG l) {d:Nat} (e:cS (d+1) (co h l)) (f:co h l d≠0):l.length=d+1:=by
 have g:=ou h hl b e;rcases Nat.lt_or_ge d l.length with a|a
 ·omega
 ·exact absurd (dL h l d a) f
theorem DE (f:Nat->Nat) (a:∀k,f k<s) (n:Nat):aA h (jU s p f n)=dm (λk=>aA h (f k)) n:=by
 induction n with
 |zero=>exact aZ h
 |succ n b=>
  show aA h (aT s p (jU s p f n) (f n))=dm _ n+aA h (f n);rw[jI h (p7 h f a n) (a n),b]
theorem Bv {a b:List Nat} (d:aj s a) (hb:aj s b) (n k:Nat):aA h (eQ s p a b n k)=if k<=n then co h a k* co h b (n-k)else 0:=by
 unfold eQ;split
 ·exact dP h (d _) (hb _)
 ·exact aZ h
theorem p9 {x:Nat} (d:x<s) (l:List Nat) (hl:∀y∈l,y<s):aA h (hornN s p x l)=bN (aA h x) (co h l) l.length:=by
 induction l with
 |nil=>exact aZ h
 |cons a t e=>
  show aA h (aT s p (au s p (hornN s p x t) x) a)=_;rw[jI h (aO h _ _) (hl a oS),dP h (gW h x t λy b=>hl y (by simp[b])) d,e λy b=>hl y (by simp[b])];rw[List.length_cons,cN];show _=aA h a+aA h x* bN (aA h x) (co h t) t.length;rw[eG,bS]
theorem Gv (i:Nat) (u:KF h) (b:Nat->KF h) (n:Nat):conv (mono h i u) b n=u* nO h i b n:=by
 induction i generalizing n with
 |zero=>
  rw[show mono h 0 u=ff u from rfl,kE];unfold nO;rw[if_pos (Nat.zero_le _)];rfl
 |succ i a=>
  cases n with
  |zero=>
   rw[dn];unfold mono nO;rw[if_neg oO,if_neg oO,bU,aV]
  |succ n=>
   rw[bW];have e1:mono h (i+1) u 0=0:=by unfold mono;rw[if_neg oO]
   have e2:cu (mono h (i+1) u)=mono h i u:=by
    funext k;unfold cu mono;by_cases e:k=i
    ·rw[if_pos e,if_pos oO]
    ·rw[if_neg e,if_neg oO]
   rw[e1,e2,bU,bO,a];unfold nO;by_cases e:i<=n
   ·rw[if_pos e,if_pos oO,show n+1-(i+1)=n-i from by omega]
   ·rw[if_neg e,if_neg oO]
theorem Fw {d:Nat} (f:d<s) {b r:List Nat} (hb:aj s b) (g:aj s r) (i j:Nat) (k:i+j<=r.length) (n:Nat):
 co h (subRow s p d b r i j) n=co h r n-(if i<=n/\n<i+j then aA h d* co h b (n-i)else 0):=by
 induction j with
 |zero=>rw[if_neg oO,eF];rfl
 |succ j a=>
  have a:=a oO;show co h ((subRow s p d b r i j).set (i+j) _) n=_;rw[FE h _ _ _ _ (by rw[mZ];omega)];by_cases e:n=i+j
  ·subst e;rw[if_pos rfl,if_pos oO,gO h (sD h g i j _) (aO h _ _),dP h f (hb _)];rw[if_neg oO,eF]at a;rw[show aA h ((subRow s p d b r i j).getD (i+j) 0)=co h (subRow s p d b r i j) (i+j)from rfl,a,show i+j-i=j from by omega];rfl
  ·rw[if_neg e,a];by_cases e2:i<=n/\n<i+j
   ·rw[if_pos e2,if_pos oO]
   ·rw[if_neg e2,if_neg oO]
theorem wF {d:Nat} (e:d<s) {b r:List Nat} (hb:aj s b) (f:aj s r) (i:Nat) (j:i+b.length<=r.length) (n:Nat):
 co h (subRow s p d b r i b.length) n=co h r n-aA h d* nO h i (co h b) n:=by
 rw[Fw h e hb f i _ j];congr 1;unfold nO;by_cases a:i<=n
 ·by_cases g:n<i+b.length
  ·rw[if_pos ⟨a,g⟩,if_pos a]
  ·rw[if_neg oO,if_pos a,dL h b (n-i) oO,aV]
 ·rw[if_neg oO,if_neg a,aV]
theorem Kd {a b:List Nat} (j:aj s a) (hb:aj s b) (q:1<=b.length) (d:Nat) (r:cI a b<=d) (k:Nat) (m:k<=cI a b) (n:Nat):
 co h a n=conv (co h (qL s p a b (cI a b) d k)) (co h b) n+co h (rL s p a b (cI a b) k) n:=by
 induction k with
 |zero=>
  show _=conv (co h (List.replicate d 0)) _ n+co h a n
  rw[fH,bO];intro i;unfold co;by_cases g:i<d
  ·rw[show(List.replicate d 0).getD i 0=0 from by simp[List.getD,g],aZ]
  ·rw[show(List.replicate d 0).getD i 0=0 from by simp[List.getD,g],aZ]
 |succ k f=>
  have f:=f oO;have o:cI a b=a.length-(b.length-1):=rfl;have hc:cL s p a b (cI a b) k<s:=aO h _ _;have hq:∀i,co h (qL s p a b (cI a b) d (k+1)) i=co h (qL s p a b (cI a b) d k) i+mono h (cI a b-1-k) (aA h (cL s p a b (cI a b) k)) i:=by
   intro i;show co h ((qL s p a b (cI a b) d k).set (cI a b-1-k) (cL s p a b (cI a b) k)) i=_;rw[FE h _ _ _ _ (by rw[xR];omega)];unfold mono;by_cases e:i=cI a b-1-k
   ·rw[if_pos e,if_pos e];have:co h (qL s p a b (cI a b) d k) i=0:=by
     unfold co;rw[K4 a b _ _ _ _ oO,aZ]
    rw[this,bO]
   ·rw[if_neg e,if_neg e,aR]
  have l:co h (rL s p a b (cI a b) (k+1)) n=co h (rL s p a b (cI a b) k) n-aA h (cL s p a b (cI a b) k)* nO h (cI a b-1-k) (co h b) n:=
   wF h hc hb (vZ h j _ _) _ (by rw[sj];omega) n
  rw[dK (a:=co h (qL s p a b (cI a b) d (k+1))) (b:=co h b) (b':=co h b) (λi _=>hq i) (λ_ _=>rfl),iq,Gv,l,f];generalize aA h (cL s p a b (cI a b) k)* nO h (cI a b-1-k) (co h b) n=u;generalize co h (rL s p a b (cI a b) k) n=v;generalize conv (co h (qL s p a b (cI a b) d k)) (co h b) n=x
  rw[de,show x+u+(v+-u)=(x+v)+(u+-u)from by ac_rfl,kF,aR]
theorem LW {a b:List Nat} (f:aj s a) (hb:aj s b) (l:1<=b.length) (i:b.getD (b.length-1) 0≠0) (k:Nat) (j:k<=cI a b):
 cS (b.length-1+cI a b-k) (co h (rL s p a b (cI a b) k)):=by
 induction k with
 |zero=>
  have g:cI a b=a.length-(b.length-1):=rfl;exact(dL h a).mono oO
 |succ k d=>
  have d:=d oO;intro n hn;have hc:cL s p a b (cI a b) k<s:=aO h _ _;have g:cI a b=a.length-(b.length-1):=rfl
  rw[show co h (rL s p a b (cI a b) (k+1)) n=co h (rL s p a b (cI a b) k) n-aA h (cL s p a b (cI a b) k)* nO h (cI a b-1-k) (co h b) n from
   wF h hc hb (vZ h f _ _) _ (by rw[sj];omega) n]
  by_cases e:n=cI a b-1-k+(b.length-1)
  ·unfold nO;rw[if_pos oO,show n-(cI a b-1-k)=b.length-1 from by omega];have e2:aA h (cL s p a b (cI a b) k)=co h (rL s p a b (cI a b) k) n* aA h (bE s p (b.getD (b.length-1) 0)):=by
    show aA h (au s p _ _)=_;rw[dP h (vZ h f _ _ _) (fq h),e];rfl
   rw[e2,bY,bS (aA h (bE s p _)),show co h b (b.length-1)=aA h (b.getD (b.length-1) 0)from rfl,sN h (hb _) i,eD,cA]
  ·rw[d n oO];unfold nO;rw[if_pos oO,dL h b (n-(cI a b-1-k)) oO,aV,eF]
theorem vz {a b:List Nat} (d:aj s a):aj s (eK s p a b):=jl (vZ h d _ _)
theorem wC (a b:List Nat):cG (eK s p a b):=kz _
theorem Ci {a b:List Nat} (d:aj s a) (hb:aj s b) (e:1<=b.length) (f:b.getD (b.length-1) 0≠0):cS (b.length-1) (co h (eK s p a b)):=by
 intro i g;unfold eK;rw[pQ];exact LW h d hb e f _ (Nat.le_refl _) i oO
theorem xz {a b:List Nat} (d:aj s a) (hb:aj s b) (e:1<=b.length) (f:b.getD (b.length-1) 0≠0):(eK s p a b).length<b.length:=by
 have:=ou h (vz h d) (wC h a b) (Ci h d hb e f);omega
theorem div_eq {a b:List Nat} (d:aj s a) (hb:aj s b) (e:1<=b.length) (n:Nat):co h a n=conv (co h (lI s p a b)) (co h b) n+co h (eK s p a b) n:=by
 have:=Kd h d hb e (cI a b) (Nat.le_refl _) (cI a b) (Nat.le_refl _) n;rw[this];unfold lI eK;rw[pQ]
end
end
section
open Go.RowKit
theorem AO {b:List Nat} (a:cG b) (h:b≠[]):b.getD (b.length-1) 0≠0:=by
 rcases a with e|e
 ·exact absurd e h
 ·exact e
theorem FI (C S P c bl:Nat) (a b:List Nat) (n m:Nat) (hn:n=a.length) (r:m=b.length) (A B:Option Addr) (d f:Nat) (w:World) (g:VF C S P) (u:aj S a) (v:aj S b) (o:a.length<=8193) (p:b.length<=4097) (s:cG b) (q:b≠[])
 (t:dg w S P c bl) (i:RD w A (zl a)) (hb:RD w B (zl b)):
 Calls Tryz.prog 156 #[fm C S c bl,.slice A n d,.slice B m f] w λe w'=>∃j k,e= .returned (.tuple #[j,k])/\aq w' j (zl (lI S P a b))/\aq w' k (zl (eK S P a b))/\Below w.heap.size w w':=by
 subst hn r;have hl:1<=b.length:=List.length_pos_iff.2 q;rcases Nat.lt_or_ge a.length b.length with l|l
 ·exact zA C S P c bl a b A B d f w g o p hl oO i
 ·exact zF C S P c bl a b A B d f w g u v o p hl l (AO s q) t i hb
theorem aq.n {w:World} {v:Value} {l:List Nat} (h:aq w v (zl l)):∃A n c,v= .slice A n c/\n=l.length/\n<=c/\c<=maxLen/\RD w A (zl l):=by
 obtain⟨A,c,rfl,a,b,d⟩:=h;exact⟨A,_,c,rfl,ak l,a,b,d⟩
theorem E6 (C S P a bl r c:Nat) (l:List Nat) (n:Nat) (j:n=l.length) (A:Option Addr) (b:Nat) (w:World) (d:VF C S P) (hl:aj S l) (f:r<S) (hc:c<S) (hn:l.length<=8193)
 (g:dg w S P a bl) (i:RD w A (zl l)):
 Calls Tryz.prog 191 #[fm C S a bl,.slice A n b,.int .i64 r,.int .i64 c] w λe w'=>∃v,e= .returned v/\aq w' v (zl (kl S P l r c))/\Below w.heap.size w w':=by
 subst j;exact CC C S P a bl r c l A b w d hl f hc hn g i
theorem RD.lit (W:World) (xs:List Int) (t:TypeId) (b:Nat) (hb:b=W.heap.size):RD (W.alloc (.cells (xs.map (Value.int .i64)).toArray t)) (some ⟨b,0,none⟩) xs:=λ_=>by
 refine⟨_,rfl,by simp;omega,λj a=>?_⟩;have:=(an.new W (xs.map (Value.int .i64)).toArray t b hb).2 j (by simpa using a);rw[add_plain,Nat.zero_add,this];simp[List.getD,a]
theorem Sl.lit (W:World) (xs:List Int) (t:TypeId) (b n:Nat) (hb:b=W.heap.size) (hn:n=xs.length) (h:n<=1000):(⟨some ⟨b,0,none⟩,n,n,xs⟩:Sl).R (W.alloc (.cells (xs.map (Value.int .i64)).toArray t)):=
 ⟨hn,by simp only;omega,RD.lit W xs t b hb,Nat.le_refl _,by simp only[maxLen];omega⟩
theorem aq.lit (W:World) (xs:List Int) (t:TypeId) (b n:Nat) (hb:b=W.heap.size) (hn:n=xs.length) (h:n<=1000):aq (W.alloc (.cells (xs.map (Value.int .i64)).toArray t)) (.slice (some ⟨b,0,none⟩) n n) xs:=
 (Sl.lit W xs t b n hb hn h).ints
def ud (w:World) (L:List Int×List Int×Int) (e:Ending) (w':World):Prop:=∃v u,e= .returned (.tuple #[v,u,.int .i64 L.2.2])/\aq w' v L.1/\aq w' u L.2.1/\Below w.heap.size w w'
theorem ud.mk {w w':World} {R:List Int×List Int×Int} {v u:Value} {L M:List Int} {err:Int} (h:R=(L,M,err)) (a:aq w' v L) (b:aq w' u M) (hb:Below w.heap.size w w'):ud w R (.returned (.tuple #[v,u,.int .i64 err])) w':=by
 subst h;exact⟨v,u,rfl,a,b,hb⟩
def kr (c s p:Int) (xs ys:List Int):List Int×List Int×Int:=
 if(nZ c s p xs&&nZ c s p ys)=true then(if ys=[]then([],[],12)else(zl (lI s.toNat p.toNat (nl xs) (nl ys)),zl (eK s.toNat p.toNat (nl xs) (nl ys)),0))else([],[],1)
theorem FU {l:List Nat} (h:zl l=[]):l=[]:=by have:=congrArg nl h;rw[qp]at this;exact this
theorem Ce (c s p:Int) (q r:Sl) (w:World) (D:p<=9223372036854775807) (hq:q.R w) (j:r.R w):
 Calls Tryz.prog 115 #[aN c s p,q.v,r.v] w (ud w (kr c s p q.xs r.xs)):=by
 obtain⟨A,n,k,xs⟩:=q;obtain⟨B,m,l,ys⟩:=r;have t:Below w.heap.size w (w.alloc (dS c s p)):=(Below.refl _ _).alloc (Nat.le_refl _) _;have x:=Lib.hid (hq.below t);have y:=Lib.hid (j.below t);show Calls Tryz.prog 115 #[aN c s p,.slice A n k,.slice B m l] w (ud w (kr c s p xs ys));have Y:Hid (an (w.alloc (dS c s p)) w.heap.size (jS c s p)):=an.new _ _ _ _ rfl;cases d:(nZ c s p xs&&nZ c s p ys)with
 |false=>
  have z:=Lib.hid d;have o:Hid (kr c s p xs ys=([],[],1)):=by show _=_;unfold kr;rw[d];rfl
  clear d hq j t;go_enter Tryz.func115,Tryz.ntmps115;go_wp2_with(go_at_call 154;refine(xH c s p A B n k m l xs ys _ _ 64 D oS x.out y.out).mono ?_;rintro e N ⟨rfl,f⟩;rw[z.out];have g:=Lib.hid f;clear f)
  go_ret3
  exact ud.mk o.out (aq.dR _) (aq.dR _) (cQ g.out)
 |true=>
  have u:=d;rw[Bool.and_eq_true]at u;obtain⟨C,S,P,a,rfl,rfl,rfl,rfl,E,F,U,G⟩:=Dk u.1;obtain⟨C',Z,a7,b,e1,e2,e3,rfl,-,H,J,K⟩:=Dk u.2;obtain rfl:S=Z:=oO;have L:n=a.length:=hq.hn.trans (ak a);have v:m=b.length:=j.hn.trans (ak b);have z:=Lib.hid d;have V:=Lib.hid E;have am:=Lib.hid F;have ap:=Lib.hid H;have av:=Lib.hid J;have a0:=Lib.hid L;have a1:=Lib.hid v;have a2:=Lib.hid G;have a3:=Lib.hid K;by_cases i:b=[]
  ·have o:Hid (kr C S P (zl a) (zl b)=([],[],12)):=by show _=_;unfold kr;rw[if_pos d,i];rfl
   have a4:m=0:=by rw[v,i];rfl
   subst a4;clear d u e1 e2 e3 E F H U J G K L v i hq j t;go_enter Tryz.func115,Tryz.ntmps115;go_wp2_with(go_at_call 154;refine(xH C S P A B n k 0 l _ _ _ _ 64 D oS x.out y.out).mono ?_;rintro e N ⟨rfl,f⟩;rw[z.out];have g:=Lib.hid f;clear f)
   go_ret3
   exact ud.mk o.out (aq.dR _) (aq.dR _) (cQ g.out)
  ·have o:Hid (kr C S P (zl a) (zl b)=(zl (lI S P a b),zl (eK S P a b),0)):=by
    show _=_;unfold kr;rw[if_pos d,if_neg (λe=>i (FU e)),qp,qp];rfl
   have bq:0<m:=by rw[v];exact List.length_pos_iff.2 i
   have a8:((m:Int)==0)=false:=by rw[beq_eq_false_iff_ne];omega
   have a5:=Lib.hid i;clear d u e1 e2 e3 E F H U J G K L v i hq j t;go_enter Tryz.func115,Tryz.ntmps115
   go_wp2_with(first
    |(go_at_call 154;refine(xH C S P A B n k m l _ _ _ _ 64 D oS x.out y.out).mono ?_;rintro e N ⟨rfl,f⟩;rw[z.out];have g:=Lib.hid f;clear f;obtain⟨a9,bb,bd⟩:=eA (Y.out.below g.out))
    |(go_at_call 155;refine(AI C S P _ V.out).mono ?_;rintro e be ⟨ab,bl,rfl,O,W⟩;have ac:=Lib.hid O;have M:=Lib.hid W;clear O W)
    |(go_at_call 156;refine(FI C S P ab bl a b n m a0.out a1.out A B k l _ V.out am.out ap.out (by have:=a2.out;omega) a3.out av.out a5.out ac.out ((x.out.below g.out).below M.out).rd ((y.out.below g.out).below M.out).rd).mono ?_;rintro e bf ⟨bi,bo,rfl,Q,T,X⟩;have ad:=Lib.hid Q;have al:=Lib.hid T;have a6:=Lib.hid X;clear Q T X))
   go_ret3
   exact ud.mk o.out ad.out al.out (cQ (aa (aa g.out M.out) a6.out))
def fromL (s p:Nat) (roots:List Nat):Nat->List Nat
 |0=>[1]
 |k+1=>kl s p (fromL s p roots k) (roots.getD k 0) 0
theorem lM (s p:Nat) (roots:List Nat) (k:Nat):(fromL s p roots k).length=k+1:=by
 induction k with
 |zero=>rfl
 |succ k a=>unfold fromL kl;rw[mI,a]
theorem kJ {c s p:Nat} (h:VF c s p) {roots:List Nat} (a:aj s roots) (k:Nat):aj s (fromL s p roots k):=by
 have d:=h.aG
 induction k with
 |zero=>
  intro i
  match i with
  |0=>show 1<s;omega
  |i+1=>show([1]:List Nat).getD (i+1) 0<s;simp[List.getD];omega
 |succ k b=>exact JY h b (a _) oO _
def im (c s p:Int) (xs:List Int):List Int×Int:=
 if(aW c s p&&gB s xs)=true then(if 4096<xs.length then([],4)else(zl (fromL s.toNat p.toNat (nl xs) xs.length),0))else([],1)
theorem xe (c s p:Int) (q:Sl) (w:World) (z:p<=9223372036854775807) (hq:q.R w):
 Calls Tryz.prog 153 #[aN c s p,q.v] w (jK w (im c s p q.xs)):=by
 obtain⟨A,n,H,xs⟩:=q;have x:Below w.heap.size w (w.alloc (dS c s p)):=(Below.refl _ _).alloc (Nat.le_refl _) _;have J:=Lib.hid (hq.below x);have O:Hid (an (w.alloc (dS c s p)) w.heap.size (jS c s p)):=an.new _ _ _ _ rfl;have HC:Hid (∀b,Below (w.alloc (dS c s p)).heap.size (w.alloc (dS c s p)) b->b.cell? ⟨w.heap.size,0,none⟩=some (.int .i64 c)/\b.cell? ⟨w.heap.size,1,none⟩=some (.int .i64 s)/\b.cell? ⟨w.heap.size,2,none⟩=some (.int .i64 p)):=λb hb=>eA (O.out.below hb);have B:Hid (∀b,af (w.alloc (dS c s p)) b->Calls Tryz.prog 190 #[aN c s p,.slice A n H] b λe w'=>e= .returned (.bool (gB s xs))/\Below b.heap.size b w'):=λb hb=>ny c s p xs n hq.hn A H b hq.hm (J.out.below hb).rd;show Calls Tryz.prog 153 #[aN c s p,.slice A n H] w (jK w (im c s p xs));cases f:aW c s p with
 |false=>
  have t:=Lib.hid f;have r:Hid (im c s p xs=([],1)):=by show _=_;unfold im;rw[f];rfl
  clear f hq x;go_enter Tryz.func153,Tryz.ntmps153;go_wp2_with(go_at_call 154;refine(sY c s p _ z).mono ?_;rintro e b ⟨rfl,g⟩;rw[t.out];have d:=Lib.hid g;clear g)
  go_ret2
  exact jK.mk r.out (aq.dR _) (cQ d.out)
 |true=>
  have t:=Lib.hid f;cases i:gB s xs with
  |false=>
   have u:=Lib.hid i;have r:Hid (im c s p xs=([],1)):=by show _=_;unfold im;rw[f,i];rfl
   clear i f hq x;go_enter Tryz.func153,Tryz.ntmps153
   go_wp2_with(first
    |(go_at_call 154;refine(sY c s p _ z).mono ?_;rintro e b ⟨rfl,g⟩;rw[t.out];have d:=Lib.hid g;clear g;obtain⟨D,E,F⟩:=HC.out _ d.out)
    |(go_at_call 190;refine(B.out _ d.out).mono ?_;rintro e Q ⟨rfl,m⟩;rw[u.out];have o:=Lib.hid m;clear m))
   go_ret2
   exact jK.mk r.out (aq.dR _) (cQ (aa d.out o.out))
  |true=>
   have u:=Lib.hid i;have y:n=xs.length:=hq.hn;by_cases N:4096<n
   ·have r:Hid (im c s p xs=([],4)):=by show _=_;unfold im;rw[f,i,<-y];rw[if_pos N];rfl
    have cg:n<=9223372036854775807:=hq.hm;clear i f hq x y;go_enter Tryz.func153,Tryz.ntmps153
    go_wp2_with(first
     |(go_at_call 154;refine(sY c s p _ z).mono ?_;rintro e b ⟨rfl,g⟩;rw[t.out];have d:=Lib.hid g;clear g;obtain⟨D,E,F⟩:=HC.out _ d.out)
     |(go_at_call 190;refine(B.out _ d.out).mono ?_;rintro e Q ⟨rfl,m⟩;rw[u.out];have o:=Lib.hid m;clear m D E F))
    go_ret2
    exact jK.mk r.out (aq.dR _) (cQ (aa d.out o.out))
   ·obtain⟨C,S,P,rfl,rfl,rfl,L⟩:=pF f;obtain⟨a,rfl,W⟩:=CX (by have:=L.aG;omega) i;have X:n=a.length:=y.trans (ak a);have r:Hid (im C S P (zl a)=(zl (fromL S P a n),0)):=by show _=_;unfold im;rw[f,i,<-y];rw[if_neg N,qp];rfl
    have ce:n<=4096:=oO;have av:decide ((4096:Int)<(n:Int))=false:=by simp;omega
    have G:=Lib.hid L;have Y:=Lib.hid W;have Z:=Lib.hid X;clear i f hq x y L W X N;go_enter Tryz.func153,Tryz.ntmps153
    go_wp2_with(first
     |(go_at_call 154;refine(sY C S P _ z).mono ?_;rintro e b ⟨rfl,g⟩;rw[t.out];have d:=Lib.hid g;clear g;obtain⟨D,E,F⟩:=HC.out _ d.out)
     |(go_at_call 190;refine(B.out _ d.out).mono ?_;rintro e Q ⟨rfl,m⟩;rw[u.out];have o:=Lib.hid (aa d.out m);clear m D E F;obtain⟨a0,a1,a2⟩:=HC.out _ o.out)
     |(go_at_call 155;refine(AI C S P _ G.out).mono ?_;rintro e j ⟨l,bl,rfl,T,ab⟩;have U:=Lib.hid T;have M:=Lib.hid ab;clear T ab a0 a1 a2))
    clear av;have a9:Hid (an ((j.alloc (kM C S l bl)).alloc (.cells #[.int .i64 1] 3)) j.heap.size (gR C S l bl)):=(an.new _ _ _ _ rfl).alloc _;have bb:Hid (dg ((j.alloc (kM C S l bl)).alloc (.cells #[.int .i64 1] 3)) S P l bl):=(U.out.alloc _).alloc _;have bd:Hid (RD ((j.alloc (kM C S l bl)).alloc (.cells #[.int .i64 1] 3)) A (zl a)):=(((J.out.below o.out).below M.out).rd.alloc _).alloc _;have be:Hid (aq ((j.alloc (kM C S l bl)).alloc (.cells #[.int .i64 1] 3)) (.slice (some ⟨j.heap.size+1,0,none⟩) 1 1) (zl (fromL S P a 0))):=aq.lit _ [1] 3 _ 1 oS rfl oO;have bf:Hid (Below w.heap.size w ((j.alloc (kM C S l bl)).alloc (.cells #[.int .i64 1] 3))):=ah (ah (cQ (aa o.out M.out)) _) _;clear d o M U J O HC B t u;generalize(j.alloc (kM C S l bl)).alloc (.cells #[.int .i64 1] 3)=a3 at*;generalize j.heap.size=b4 at*;go_loopw [7,27] (λa4 K wr=>∃k:Nat,k<=n/\K= .int .i64 k/\Hid (af a3 wr)/\Hid (aq wr a4 (zl (fromL S P a k)))) (λ_ K _=>n-(intOf K).toNat)
    case atStart=>exact⟨0,Nat.zero_le _,rfl,Below.refl _ _,be⟩
    case round=>
     obtain⟨k,b5,rfl,v,V⟩:=hrel;by_cases bi:k<n
     ·obtain⟨a5,n2,a6,rfl,ac,-,-,ap⟩:=V.out.n;obtain⟨a7,rfl,b2,ad⟩:=bd.out (by rw[ak,<-Z.out];omega);have i:wr.cell? (a7.add k)=some (.int .i64 ((a.getD k 0:Nat):Int)):=by
       rw[v.out.cell (by rw[aI];exact b2),ad k (by rw[ak,<-Z.out];exact bi),bw]
      have bo:Hid (a.getD k 0<S):=Y.out k;have bq:Hid (fromL S P a (k+1)=kl S P (fromL S P a k) (a.getD k 0) 0):=rfl;generalize a.getD k 0=a8 at*;obtain⟨b6,b7,b8,b9⟩:=dT (a9.out.below v.out);have bs:=Lib.hid ac;have b3:=Lib.hid ap;have bt:Hid ((fromL S P a k).length<=8193):=by show _<=_;rw[lM];omega
      have bv:Hid (aj S (fromL S P a k)):=kJ G.out Y.out k;have bx:Hid (0<S):=by have:=G.out.aG;show _<_;omega
      clear ac ap ad;go_wp2_with(go_at_call 191;refine(E6 C S P l bl a8 0 (fromL S P a k) n2 bs.out a5 a6 _ G.out bv.out bo.out bx.out bt.out (bb.out.below v.out) b3.out).mono ?_;rintro e ca ⟨cb,rfl,al,am⟩;have bz:=Lib.hid al;have b1:=Lib.hid am;clear al am)
      exact⟨⟨k+1,by omega,by go_num,aa v.out b1.out,by rw[bq.out];exact bz.out⟩,by simp[intOf];omega⟩
     ·obtain rfl:k=n:=oO;go_wp2;go_ret2
      exact jK.mk r.out V.out (aa bf.out v.out)
abbrev dW (C S a bl:Nat):Obj:= .cells #[.int .i64 C,.int .i64 S,.slice (some ⟨a,0,none⟩) (S-1) (S-1),.slice (some ⟨bl,0,none⟩) S S] 152
theorem kH (C S P g bl x y:Nat) (w:World) (a:VF C S P) (i:x<S) (j:y<S) (k:dg w S P g bl):
 Calls Tryz.prog 204 #[fm C S g bl,.int .i64 x,.int .i64 y] w λe w'=>e= .returned (.int .i64 ((au S P x y:Nat):Int))/\Below w.heap.size w w':=by
 have o:Hid (Below w.heap.size w (w.alloc (dW C S g bl))):=(Below.refl _ _).alloc (Nat.le_refl _) _;by_cases d:x=0
 ·subst d;have n:=Lib.hid (oR a j);clear a k;go_enter Tryz.func204,Tryz.ntmps204;go_wp2;go_ret;exact⟨bG (by rw[n.out];rfl),o.out⟩
 by_cases f:y=0
 ·subst f;have n:=Lib.hid (mM a i);clear a k;go_enter Tryz.func204,Tryz.ntmps204;go_wp2;go_ret;exact⟨bG (by rw[n.out];rfl),o.out⟩
 have s:=a.le;have B:=a.aG;have t:=(ei a i d).1;have u:=(ei a j f).1;have l:=k.alloc (dW C S g bl);have c1:=l.2.2.2 x i d;have v:=l.2.2.2 y j f;have p:(ej S P x+ej S P y)%(S-1)<S-1:=Nat.mod_lt _ oO;have q:=l.2.2.1 _ p;rw[CV a i j d f]at q;generalize au S P x y=r at*;generalize ej S P x=b at*;generalize ej S P y=c at*;have e1:((b:Int)+c).tmod ((S:Int)-1)=(((b+c)%(S-1):Nat):Int):=by
  rw[show(b:Int)+c=((b+c:Nat):Int)from by omega,show(S:Int)-1=((S-1:Nat):Int)from by omega];exact(Int.ofNat_tmod _ _).symm
 generalize(b+c)%(S-1)=m at*;have e2:IntKind.i64.wrap ((b:Int)+c)=(b:Int)+c:=aE _ oO oO;have z:((x:Int)==0)=false:=by rw[beq_eq_false_iff_ne];omega
 have A:((y:Int)==0)=false:=by rw[beq_eq_false_iff_ne];omega
 clear l k a d f;go_enter Tryz.func204,Tryz.ntmps204;go_wp2;go_quiet (fail)
 go_wp2;go_ret;exact⟨rfl,bX o.out _⟩
theorem oq (C S P g bl x y:Nat) (w:World) (c:VF C S P) (i:x<S) (j:y<S) (d:y≠0) (l:dg w S P g bl):
 Calls Tryz.prog 206 #[fm C S g bl,.int .i64 x,.int .i64 y] w λe w'=>e= .returned (.int .i64 ((au S P x (bE S P y):Nat):Int))/\Below w.heap.size w w':=by
 have n:Hid (Below w.heap.size w (w.alloc (dW C S g bl))):=(Below.refl _ _).alloc (Nat.le_refl _) _;by_cases f:x=0
 ·subst f;have o:=Lib.hid (oR c (fq c (x:=y)));clear c l j i d;go_enter Tryz.func206,Tryz.ntmps206;go_wp2;go_ret;exact⟨bG (by rw[o.out];rfl),n.out⟩
 have s:=c.le;have A:=c.aG;have t:=(ei c i f).1;have u:=(ei c j d).1;have k:=l.alloc (dW C S g bl);have c1:=k.2.2.2 x i f;have v:=k.2.2.2 y j d;have p:(ej S P x+(S-1)-ej S P y)%(S-1)<S-1:=Nat.mod_lt _ oO;have q:=k.2.2.1 _ p;rw[Dm c i j f d]at q;generalize au S P x (bE S P y)=r at*;generalize ej S P x=a at*;generalize ej S P y=b at*;have e1:((a:Int)-b+S-1).tmod ((S:Int)-1)=(((a+(S-1)-b)%(S-1):Nat):Int):=by
  rw[show(a:Int)-b+S-1=((a+(S-1)-b:Nat):Int)from by omega,show(S:Int)-1=((S-1:Nat):Int)from by omega];exact(Int.ofNat_tmod _ _).symm
 generalize(a+(S-1)-b)%(S-1)=m at*;have e2:IntKind.i64.wrap ((a:Int)-b)=(a:Int)-b:=aE _ oO oO;have e3:IntKind.i64.wrap ((a:Int)-b+S)=(a:Int)-b+S:=aE _ oO oO;have e4:IntKind.i64.wrap ((a:Int)-b+S-1)=(a:Int)-b+S-1:=aE _ oO oO;have z:((x:Int)==0)=false:=by rw[beq_eq_false_iff_ne];omega
 clear k l c f d;go_enter Tryz.func206,Tryz.ntmps206;go_wp2;go_quiet (fail)
 go_wp2;go_ret;exact⟨rfl,bX n.out _⟩
theorem oC (C S P c bl x y:Nat) (w:World) (a:VF C S P) (i:x<S) (j:y<S):
 Calls Tryz.prog 205 #[fm C S c bl,.int .i64 x,.int .i64 y] w λe w'=>e= .returned (.int .i64 ((aT S P x y:Nat):Int))/\Below w.heap.size w w':=by
 have f:Hid (Below w.heap.size w (w.alloc (dW C S c bl))):=(Below.refl _ _).alloc (Nat.le_refl _) _;have k:=a.le;rcases a.EI with⟨rfl,d⟩|⟨g,rfl⟩
 ·have b:Hid (bits BinOp.xor IntKind.i64 (x:Int) (y:Int)=((aT S P x y:Nat):Int)):=by
   show _=_;rw[fU _ _ oO oO];unfold aT;rw[if_neg d]
  clear a d;go_enter Tryz.func205,Tryz.ntmps205;go_wp2;go_ret;exact⟨bG b.out,f.out⟩
 ·have m:=a.aG;have b:Hid (((x:Int)+y).tmod S=((aT S 0 x y:Nat):Int)):=by
   show _=_;unfold aT;rw[if_pos rfl,show(x:Int)+y=((x+y:Nat):Int)from by omega];exact(Int.ofNat_tmod _ _).symm
  have l:((C:Int)==2)=false:=by rw[beq_eq_false_iff_ne];omega
  clear a g;go_enter Tryz.func205,Tryz.ntmps205;go_wp2;go_ret;exact⟨bG b.out,f.out⟩
theorem Hz (C S P c bl x y:Nat) (w:World) (a:VF C S P) (i:x<S) (j:y<S):
 Calls Tryz.prog 222 #[fm C S c bl,.int .i64 x,.int .i64 y] w λe w'=>e= .returned (.int .i64 ((aM S P x y:Nat):Int))/\Below w.heap.size w w':=by
 have f:Hid (Below w.heap.size w (w.alloc (dW C S c bl))):=(Below.refl _ _).alloc (Nat.le_refl _) _;have k:=a.le;rcases a.EI with⟨rfl,d⟩|⟨g,rfl⟩
 ·have b:Hid (bits BinOp.xor IntKind.i64 (x:Int) (y:Int)=((aM S P x y:Nat):Int)):=by
   show _=_;rw[fU _ _ oO oO];unfold aM;rw[if_neg d]
  clear a d;go_enter Tryz.func222,Tryz.ntmps222;go_wp2;go_ret;exact⟨bG b.out,f.out⟩
 ·have m:=a.aG;have b:Hid (((x:Int)-y+S)%S=((aM S 0 x y:Nat):Int)):=by
   show _=_;unfold aM;rw[if_pos rfl,show(x:Int)-y+S=((x+S-y:Nat):Int)from by omega];exact(Int.natCast_emod _ _).symm
  have l:((C:Int)==2)=false:=by rw[beq_eq_false_iff_ne];omega
  clear a g;go_enter Tryz.func222,Tryz.ntmps222;go_wp2;go_ret;exact⟨bG b.out,f.out⟩
theorem Ep (C S P a bl x:Nat) (l:List Nat) (A:Option Addr) (E:Nat) (w:World) (g:VF C S P) (o:x<S) (hl:aj S l) (hn:l.length<=4097) (p:dg w S P a bl) (q:RD w A (zl l)):
 Calls Tryz.prog 202 #[fm C S a bl,.slice A l.length E,.int .i64 x] w λe w'=>e= .returned (.int .i64 ((hornN S P x l:Nat):Int))/\Below w.heap.size w w':=by
 have d:=Lib.hid g;have r:=Lib.hid hl;have F:=Lib.hid o;have s:=Lib.hid (q.alloc (dW C S a bl));have G:=Lib.hid (p.alloc (dW C S a bl));have H:Hid (an (w.alloc (dW C S a bl)) w.heap.size (gR C S a bl)):=an.new _ _ _ _ rfl;have f:Hid (l.length=l.length):=rfl
 revert f
 generalize B:l.length=n at*;intro f;have c:=Lib.hid B;clear B g hl o q p f;go_enter Tryz.func202,Tryz.ntmps202;go_wp2;go_loopw [7,8] (λv i wr=>∃(k:Nat) (j:Int),k<=n/\i= .int .i64 j/\Hid (j=(k:Int)-1)/\v= .int .i64 ((hornN S P x (l.drop k):Nat):Int)/\Hid (Below (w.alloc (dW C S a bl)).heap.size (w.alloc (dW C S a bl)) wr)) (λ_ i _=>(intOf i+1).toNat)
 case atStart=>exact⟨n,_,Nat.le_refl _,rfl,rfl,by rw[<-c.out,List.drop_length];rfl,Below.refl _ _⟩
 case round=>
  obtain⟨k,j,V,rfl,t,rfl,hb⟩:=hrel;by_cases N:k=0
  ·subst N;have Y:j<0:=by have:=t.out;omega
   go_wp2;go_ret;exact⟨rfl,cQ hb.out⟩
  ·obtain⟨m,rfl⟩:∃m,k=m+1:=⟨k-1,by omega⟩;obtain rfl:j=(m:Int):=by have:=t.out;omega
   obtain⟨J,rfl,-,O⟩:=s.out (by rw[ak,c.out];omega);have z:Hid (∀W,Below (w.alloc (dW C S a bl)).heap.size (w.alloc (dW C S a bl)) W->(W.cell? ⟨w.heap.size,0,none⟩=some (.int .i64 C)/\W.cell? ⟨w.heap.size,1,none⟩=some (.int .i64 S)/\W.cell? ⟨w.heap.size,2,none⟩=some (.slice (some ⟨a,0,none⟩) (S-1) (S-1))/\W.cell? ⟨w.heap.size,3,none⟩=some (.slice (some ⟨bl,0,none⟩) S S))/\W.cell? (J.add m)=some (.int .i64 ((l.getD m 0:Nat):Int))):=by
    show∀W,_;intro W b;refine⟨dT (H.out.below b),?_⟩;obtain⟨Z,e,_,hc⟩:=s.out.below b (by rw[ak,c.out];omega);injection e with e;subst e;rw[hc m (by rw[ak,c.out];omega),bw]
   have Q:=Lib.hid (uQ S P x l m (by rw[c.out];omega));have T:Hid (hornN S P x (l.drop (m+1))<S):=gW d.out x _ (λy K=>ek r.out y (List.mem_of_mem_drop K));have U:Hid (l.getD m 0<S):=r.out m;generalize L:hornN S P x (l.drop (m+1))=u at*;have ab:m<n:=oO;clear L O;go_wp2;refine bj (S:=af (w.alloc (dW C S a bl))) 10 oK oK (ai hb.out) ?_;simp only[List.take_succ_cons,List.take_zero,List.drop_succ_cons,List.drop_zero]
   repeat refine kO z.out ?_
   refine kX (λW b=>kH C S P a bl u x W d.out T.out F.out (G.out.below b)) ?_
   repeat refine kO z.out ?_
   refine kX (λW b=>oC C S P a bl (au S P u x) (l.getD m 0) W d.out (aO d.out _ _) U.out) ?_;refine bR ?_;intro X D;have M:=Lib.hid D;clear D;go_wp2;exact⟨⟨m,_,by omega,rfl,rfl,by rw[Q.out],M⟩,by simp[intOf]⟩
abbrev vO:Obj:= .cells #[.int .i64 0,.int .i64 0,.slice none 0 0,.slice none 0 0] 152
abbrev MK (C S a b bl:Nat):Obj:= .cells #[.int .i64 C,.int .i64 S,.slice (some ⟨b,0,none⟩) a a,.slice (some ⟨bl,0,none⟩) S S] 152
structure dk (w wr:World) (C S P T n be bl a:Nat):Prop where
 B:Below w.heap.size w wr
 he:w.heap.size+1<be
 hl:w.heap.size+1<bl
 hs:w.heap.size+1<a
 n1:be≠bl
 n2:be≠a
 n3:bl≠a
 F:wr.heap[w.heap.size]?=some (pw C S P)
 R:wr.heap[w.heap.size+1]?=some vO
 E:wr.heap[be]?=some (.cells (dr (jm S P n)) 3)
 L:wr.heap[bl]?=some (.cells (dr (kD S P n)) 3)
 A:wr.heap[a]?=some (MK C S T be bl)
theorem dk.below {w wr b:World} {C S P a n c bl d:Nat} (h:dk w wr C S P a n c bl d) (hb:Below wr.heap.size wr b):dk w b C S P a n c bl d:=
 ⟨aa h.B hb,h.he,h.hl,h.hs,h.n1,h.n2,h.n3,(hb.block _ (ar h.F)).trans h.F,(hb.block _ (ar h.R)).trans h.R,(hb.block _ (ar h.E)).trans h.E,(hb.block _ (ar h.L)).trans h.L,(hb.block _ (ar h.A)).trans h.A⟩
theorem dk.store {w wr:World} {C S P e n d bl j:Nat} (l:VF C S P) (o:e=S-1) (h:dk w wr C S P e n d bl j) (hn:n<e):
 dk w ((wr.setCell ⟨d,n,none⟩ (.int .i64 ((fpowN S P (aw S P) n:Nat):Int))).setCell ⟨bl,fpowN S P (aw S P) n,none⟩ (.int .i64 (n:Int))) C S P e (n+1) d bl j:=by
 have m:Below w.heap.size w (wr.setCell ⟨d,n,none⟩ (.int .i64 ((fpowN S P (aw S P) n:Nat):Int))):=h.B.setCell (by have:=h.he;simp;omega) _;have f:∀(k:Nat) (v:Value),k≠d->(wr.setCell ⟨d,n,none⟩ v).heap[k]?=wr.heap[k]?:=λk v i=>heap_setCell_other wr ⟨d,n,none⟩ k v i;have g:∀(W:World) (x k:Nat) (v:Value),k≠bl->(W.setCell ⟨bl,x,none⟩ v).heap[k]?=W.heap[k]?:=λW x k v i=>heap_setCell_other W ⟨bl,x,none⟩ k v i;have e1:=heap_setCell_same wr d n _ 3 (.int .i64 ((fpowN S P (aw S P) n:Nat):Int)) h.E;rw[lu,yA l (n:=n) oO]at e1;have e2:=heap_setCell_same (wr.setCell ⟨d,n,none⟩ (.int .i64 ((fpowN S P (aw S P) n:Nat):Int))) bl (fpowN S P (aw S P) n) _ 3 (.int .i64 (n:Int)) ((f bl _ (Ne.symm h.n1)).trans h.L);rw[lu,Ad l oO]at e2;have a:=h.he;have b:=h.hl;have c:=h.hs
 exact⟨m.setCell oT _,h.he,h.hl,h.hs,h.n1,h.n2,h.n3,
  ((g _ _ _ _ oO).trans (f _ _ oO)).trans h.F,((g _ _ _ _ oO).trans (f _ _ oO)).trans h.R,
  (g _ _ _ _ h.n1).trans e1,e2,((g _ _ _ _ (Ne.symm h.n3)).trans (f _ _ (Ne.symm h.n2))).trans h.A⟩
theorem dk.pG {w wr:World} {C S P a c bl f:Nat} (b:VF C S P) (g:a=S-1) (h:dk w wr C S P a a c bl f):dg wr S P c bl:=by
 subst g;refine⟨ar h.E,ar h.L,λi d=>?_,λx e j=>?_⟩
 ·rw[cell_of_row _ _ _ _ _ _ h.E,fj];have:=zv b d;rw[<-vm b]at this;rw[<-this];unfold jm;simp[List.getD,d]
 ·rw[cell_of_row _ _ _ _ _ _ h.L,fj];have:=Au b e j;rw[<-this];unfold kD;simp[List.getD,e]
theorem dk.cells {w wr:World} {C S P a n c bl b:Nat} (d:VF C S P) (e:a=S-1) (h:dk w wr C S P a n c bl b):
 (wr.cell? ⟨w.heap.size,0,none⟩=some (.int .i64 C)/\wr.cell? ⟨w.heap.size,1,none⟩=some (.int .i64 S)/\wr.cell? ⟨w.heap.size,2,none⟩=some (.int .i64 P))/\
 (wr.cell? ⟨b,0,none⟩=some (.int .i64 C)/\wr.cell? ⟨b,1,none⟩=some (.int .i64 S)/\wr.cell? ⟨b,2,none⟩=some (.slice (some ⟨c,0,none⟩) a a)/\wr.cell? ⟨b,3,none⟩=some (.slice (some ⟨bl,0,none⟩) S S))/\
 (n<a->(∃u,wr.cell? ⟨c,n,none⟩=some u)/\wr.frozen? ⟨c,n,none⟩=false/\(∃u,wr.cell? ⟨bl,fpowN S P (aw S P) n,none⟩=some u)/\wr.frozen? ⟨bl,fpowN S P (aw S P) n,none⟩=false):=by
 refine⟨⟨?_,?_,?_⟩,⟨?_,?_,?_,?_⟩,λhn=>⟨?_,?_,?_,?_⟩⟩
 ·rw[cell_of_row _ _ _ _ _ _ h.F];rfl
 ·rw[cell_of_row _ _ _ _ _ _ h.F];rfl
 ·rw[cell_of_row _ _ _ _ _ _ h.F];rfl
 ·rw[cell_of_row _ _ _ _ _ _ h.A];rfl
 ·rw[cell_of_row _ _ _ _ _ _ h.A];rfl
 ·rw[cell_of_row _ _ _ _ _ _ h.A];rfl
 ·rw[cell_of_row _ _ _ _ _ _ h.A];rfl
 ·rw[cell_of_row _ _ _ _ _ _ h.E,fj];refine⟨_,Option.map_eq_some_iff.2 ⟨_,List.getElem?_eq_getElem (by unfold jm;simp;omega),rfl⟩⟩
 ·exact frozen_of_row _ _ _ _ _ h.E
 ·rw[cell_of_row _ _ _ _ _ _ h.L,fj];refine⟨_,Option.map_eq_some_iff.2 ⟨_,List.getElem?_eq_getElem (by unfold kD;simp;exact ep d n),rfl⟩⟩
 ·exact frozen_of_row _ _ _ _ _ h.L
theorem dk.drew {w wr:World} {C S P a n b bl c:Nat} (h:dk w wr C S P a n b bl c):dk w wr.drew C S P a n b bl c:=
 ⟨ai h.B,h.he,h.hl,h.hs,h.n1,h.n2,h.n3,h.F,h.R,h.E,h.L,h.A⟩
theorem dk.res {w wr:World} {C S P a n b bl c:Nat} (h:dk w wr C S P a n b bl c):
 wr.cell? ⟨w.heap.size+1,0,none⟩=some (.int .i64 0)/\wr.cell? ⟨w.heap.size+1,1,none⟩=some (.int .i64 0)/\wr.cell? ⟨w.heap.size+1,2,none⟩=some (.slice none 0 0)/\wr.cell? ⟨w.heap.size+1,3,none⟩=some (.slice none 0 0)/\∀k,wr.frozen? ⟨w.heap.size+1,k,none⟩=false:=by
 refine⟨?_,?_,?_,?_,λk=>frozen_of_row _ _ _ _ _ h.R⟩<;>(rw[cell_of_row _ _ _ _ _ _ h.R];rfl)
theorem rG (C S P:Nat) (w:World) (y:VF C S P):
 Calls Tryz.prog 119 #[aN C S P] w λe w'=>∃ac bl,e= .returned (fm C S ac bl)/\dg w' S P ac bl/\Below w.heap.size w w'/\w.heap.size<=ac/\w.heap.size<=bl:=by
 have a6:=y.le;have a7:=y.aG;have z:(P:Int)<=9223372036854775807:=y.rl;have hg:=jy y;have RG:Hid (ue C S P=(((aw S P:Nat):Int),0)):=by
  show _=_;unfold ue;rw[j5 y,if_pos rfl];simp
 obtain⟨b,ad⟩:∃b,b=S-1:=⟨S-1,rfl⟩;have a8:1<=b:=oO;have a9:=run_make_row' (P:=Tryz.prog) 64 3 (.int .i64 0) 8 Tryz.underlying64 bZ rfl .i64 .i64 b oO oO;have bb:=run_make_row' (P:=Tryz.prog) 64 3 (.int .i64 0) 8 Tryz.underlying64 bZ rfl .i64 .i64 S oO oO;have bd:IntKind.i64.wrap ((S:Int)-1)=(b:Int):=by rw[aE _ oO oO];omega
 have bf:((S:Int)-1)=(b:Int):=oO;have c:=Lib.hid y;have d:=Lib.hid ad;have B:Hid (dr (jm S P 0)=madeCells #[Value.int .i64 0] b):=by show _=_;rw[jF,wJ y,ad]
 have D:Hid (dr (kD S P 0)=madeCells #[Value.int .i64 0] S):=by show _=_;rw[jF,xO y]
 clear ad y;have a3:Hid (∀a:World,Below ((w.alloc (pw C S P)).alloc vO).heap.size ((w.alloc (pw C S P)).alloc vO) a->w.heap.size+1<a.heap.size/\a.heap[w.heap.size]?=some (pw C S P)/\a.heap[w.heap.size+1]?=some vO/\Below w.heap.size w a):=by
  intro a A;have hs:=A.size;simp at hs;refine⟨by omega,(A.block _ oT).trans ?_,(A.block _ oS).trans ?_,((Below.refl _ _).alloc (Nat.le_refl _) _|>.alloc oS _).trans (A.mono oT)⟩
  ·exact(Below.heap_alloc _ _ _ oS).trans (heap_alloc_new w _)
  ·have:=heap_alloc_new (w.alloc (pw C S P)) vO;simpa using this
 go_enter Tryz.func119,Tryz.ntmps119
 go_wp2_with(
  go_at_call 158;refine(re C S P _ oO z).mono ?_;rintro e a ⟨rfl,A⟩;rw[RG.out]
  have j:=Lib.hid (a3.out a A);have be:w.heap.size+1<a.heap.size:=j.out.1;have ap:w.heap.size<a.heap.size:=oO;have al:a.cell? ⟨w.heap.size,0,none⟩=some (.int .i64 C):=(cell_of_row _ _ _ _ _ _ j.out.2.1).trans rfl;have am:a.cell? ⟨w.heap.size,1,none⟩=some (.int .i64 S):=(cell_of_row _ _ _ _ _ _ j.out.2.1).trans rfl;have av:∀g,(a.alloc g).cell? ⟨w.heap.size,0,none⟩=some (.int .i64 C):=λg=>(World.cell?_alloc_lt _ _ _ (by exact ap)).trans al;have a0:∀g m,((a.alloc g).alloc m).cell? ⟨w.heap.size,0,none⟩=some (.int .i64 C):=λg m=>(World.cell?_alloc_lt _ _ _ oT).trans (av g);have a4:∀g m ab,(((a.alloc g).alloc m).alloc ab).cell? ⟨w.heap.size,0,none⟩=some (.int .i64 C):=λg m ab=>(World.cell?_alloc_lt _ _ _ oT).trans (a0 g m);have a1:∀g,(a.alloc g).cell? ⟨w.heap.size,1,none⟩=some (.int .i64 S):=λg=>(World.cell?_alloc_lt _ _ _ (by exact ap)).trans am;have a2:∀g m,((a.alloc g).alloc m).cell? ⟨w.heap.size,1,none⟩=some (.int .i64 S):=λg m=>(World.cell?_alloc_lt _ _ _ oT).trans (a1 g);have a5:∀g m ab,(((a.alloc g).alloc m).alloc ab).cell? ⟨w.heap.size,1,none⟩=some (.int .i64 S):=λg m ab=>(World.cell?_alloc_lt _ _ _ oT).trans (a2 g m)
  clear A)
 go_region
 all_goals clear al am av a0 a4 a1 a2 a5
 all_goals go_wp2
 ·go_loopw [6,28] (λx i wr=>∃n:Nat,n<=b/\i= .int .i64 (n:Nat)/\x= .int .i64 ((fpowN S P (aw S P) n:Nat):Int)/\Hid (dk w wr C S P b n (a.heap.size) (a.heap.size+1) (a.heap.size+1+1))) (λ_ i _=>b-(intOf i).toNat)
  case atStart=>
   refine⟨0,Nat.zero_le _,rfl,rfl,?_⟩;refine⟨ai (ah (ah (ah j.out.2.2.2 _) _) _),by omega,by omega,by omega,by omega,by omega,by omega,?_,?_,?_,?_,?_⟩
   ·exact(Below.heap_alloc _ _ _ oT).trans ((Below.heap_alloc _ _ _ oT).trans ((Below.heap_alloc _ _ _ oO).trans j.out.2.1))
   ·exact(Below.heap_alloc _ _ _ oT).trans ((Below.heap_alloc _ _ _ oT).trans ((Below.heap_alloc _ _ _ oO).trans j.out.2.2.1))
   ·rw[B.out];exact(cX a _ _ _).1
   ·rw[D.out];exact(cX a _ _ _).2.1
   ·exact(cX a _ _ _).2.2
  case round=>
   obtain⟨n,hn,rfl,rfl,hid⟩:=hrel;obtain⟨⟨E,F,G⟩,⟨H,J,K,L⟩,f⟩:=dk.cells c.out d.out hid.out;by_cases k:n<b
   ·obtain⟨⟨u1,M⟩,N,⟨u2,s3⟩,O⟩:=f k;have q:fpowN S P (aw S P) n<S:=ep c.out n;have r:=Lib.hid (dk.store c.out d.out hid.out k);have o:Hid (mulR C S P (fpowN S P (aw S P) n:Nat) (aw S P:Nat)=(((fpowN S P (aw S P) (n+1):Nat):Int),0)):=by
     show _=_;unfold mulR;rw[gF c.out q hg];simp;rfl
    generalize fpowN S P (aw S P) n=X at*;generalize l:fpowN S P (aw S P) (n+1)=Y at*;have p:=Lib.hid l;clear l;clear f;go_wp2;go_region
    all_goals go_wp2_with(go_at_call 159;refine(ir C S P X (aw S P) _ oO z).mono ?_;rintro e Q ⟨rfl,s⟩;rw[o.out])
    all_goals go_roundw
    all_goals try(case measure=>simp[intOf];omega)
    all_goals refine⟨n+1,by omega,by go_num,by rw[p.out],?_⟩
    all_goals exact dk.below (dk.drew r.out) s
   ·obtain rfl:n=b:=oO;obtain⟨T,U,V,W,Z⟩:=dk.res hid.out;have t:=Lib.hid (dk.pG c.out d.out hid.out);clear f;go_wp2;refine bodyPost_ret (v:= .agg #[.int .i64 C,.int .i64 S,.slice (some ⟨(a.heap.size),0,none⟩) n n,.slice (some ⟨(a.heap.size+1),0,none⟩) S S]) ?_ rfl ⟨(a.heap.size),(a.heap.size+1),?_,?_,?_⟩
    ·have u:Tryz.f119.results=#[.cell 2 152]:=oK;simp only[results,u];go_simp
    ·rw[d.out]
    ·exact(((t.out.setCell _ _ oT oT).setCell _ _ oT oT).setCell _ _ oT oT).setCell _ _ oT oT
    ·exact⟨(((hid.out.B.setCell oS _).setCell oS _).setCell oS _).setCell oS _,by omega,by omega⟩
 ·go_loopw [6,28] (λx i wr=>∃n:Nat,n<=b/\i= .int .i64 (n:Nat)/\x= .int .i64 ((fpowN S P (aw S P) n:Nat):Int)/\Hid (dk w wr C S P b n (a.heap.size) (a.heap.size+1+1) (a.heap.size+1))) (λ_ i _=>b-(intOf i).toNat)
  case atStart=>
   refine⟨0,Nat.zero_le _,rfl,rfl,?_⟩;refine⟨ai (ah (ah (ah j.out.2.2.2 _) _) _),by omega,by omega,by omega,by omega,by omega,by omega,?_,?_,?_,?_,?_⟩
   ·exact(Below.heap_alloc _ _ _ oT).trans ((Below.heap_alloc _ _ _ oT).trans ((Below.heap_alloc _ _ _ oO).trans j.out.2.1))
   ·exact(Below.heap_alloc _ _ _ oT).trans ((Below.heap_alloc _ _ _ oT).trans ((Below.heap_alloc _ _ _ oO).trans j.out.2.2.1))
   ·rw[B.out];exact(cX a _ _ _).1
   ·rw[D.out];exact(cX a _ _ _).2.2
   ·exact(cX a _ _ _).2.1
  case round=>
   obtain⟨n,hn,rfl,rfl,hid⟩:=hrel;obtain⟨⟨E,F,G⟩,⟨H,J,K,L⟩,f⟩:=dk.cells c.out d.out hid.out;by_cases k:n<b
   ·obtain⟨⟨u1,M⟩,N,⟨u2,s3⟩,O⟩:=f k;have q:fpowN S P (aw S P) n<S:=ep c.out n;have r:=Lib.hid (dk.store c.out d.out hid.out k);have o:Hid (mulR C S P (fpowN S P (aw S P) n:Nat) (aw S P:Nat)=(((fpowN S P (aw S P) (n+1):Nat):Int),0)):=by
     show _=_;unfold mulR;rw[gF c.out q hg];simp;rfl
    generalize fpowN S P (aw S P) n=X at*;generalize l:fpowN S P (aw S P) (n+1)=Y at*;have p:=Lib.hid l;clear l;clear f;go_wp2;go_region
    all_goals go_wp2_with(go_at_call 159;refine(ir C S P X (aw S P) _ oO z).mono ?_;rintro e Q ⟨rfl,s⟩;rw[o.out])
    all_goals go_roundw
    all_goals try(case measure=>simp[intOf];omega)
    all_goals refine⟨n+1,by omega,by go_num,by rw[p.out],?_⟩
    all_goals exact dk.below (dk.drew r.out) s
   ·obtain rfl:n=b:=oO;obtain⟨T,U,V,W,Z⟩:=dk.res hid.out;have t:=Lib.hid (dk.pG c.out d.out hid.out);clear f;go_wp2;refine bodyPost_ret (v:= .agg #[.int .i64 C,.int .i64 S,.slice (some ⟨(a.heap.size),0,none⟩) n n,.slice (some ⟨(a.heap.size+1+1),0,none⟩) S S]) ?_ rfl ⟨(a.heap.size),(a.heap.size+1+1),?_,?_,?_⟩
    ·have u:Tryz.f119.results=#[.cell 2 152]:=oK;simp only[results,u];go_simp
    ·rw[d.out]
    ·exact(((t.out.setCell _ _ oT oT).setCell _ _ oT oT).setCell _ _ oT oT).setCell _ _ oT oT
    ·exact⟨(((hid.out.B.setCell oS _).setCell oS _).setCell oS _).setCell oS _,by omega,by omega⟩
 ·go_loopw [6,28] (λx i wr=>∃n:Nat,n<=b/\i= .int .i64 (n:Nat)/\x= .int .i64 ((fpowN S P (aw S P) n:Nat):Int)/\Hid (dk w wr C S P b n (a.heap.size+1) (a.heap.size) (a.heap.size+1+1))) (λ_ i _=>b-(intOf i).toNat)
  case atStart=>
   refine⟨0,Nat.zero_le _,rfl,rfl,?_⟩;refine⟨ai (ah (ah (ah j.out.2.2.2 _) _) _),by omega,by omega,by omega,by omega,by omega,by omega,?_,?_,?_,?_,?_⟩
   ·exact(Below.heap_alloc _ _ _ oT).trans ((Below.heap_alloc _ _ _ oT).trans ((Below.heap_alloc _ _ _ oO).trans j.out.2.1))
   ·exact(Below.heap_alloc _ _ _ oT).trans ((Below.heap_alloc _ _ _ oT).trans ((Below.heap_alloc _ _ _ oO).trans j.out.2.2.1))
   ·rw[B.out];exact(cX a _ _ _).2.1
   ·rw[D.out];exact(cX a _ _ _).1
   ·exact(cX a _ _ _).2.2
  case round=>
   obtain⟨n,hn,rfl,rfl,hid⟩:=hrel;obtain⟨⟨E,F,G⟩,⟨H,J,K,L⟩,f⟩:=dk.cells c.out d.out hid.out;by_cases k:n<b
   ·obtain⟨⟨u1,M⟩,N,⟨u2,s3⟩,O⟩:=f k;have q:fpowN S P (aw S P) n<S:=ep c.out n;have r:=Lib.hid (dk.store c.out d.out hid.out k);have o:Hid (mulR C S P (fpowN S P (aw S P) n:Nat) (aw S P:Nat)=(((fpowN S P (aw S P) (n+1):Nat):Int),0)):=by
     show _=_;unfold mulR;rw[gF c.out q hg];simp;rfl
    generalize fpowN S P (aw S P) n=X at*;generalize l:fpowN S P (aw S P) (n+1)=Y at*;have p:=Lib.hid l;clear l;clear f;go_wp2;go_region
    all_goals go_wp2_with(go_at_call 159;refine(ir C S P X (aw S P) _ oO z).mono ?_;rintro e Q ⟨rfl,s⟩;rw[o.out])
    all_goals go_roundw
    all_goals try(case measure=>simp[intOf];omega)
    all_goals refine⟨n+1,by omega,by go_num,by rw[p.out],?_⟩
    all_goals exact dk.below (dk.drew r.out) s
   ·obtain rfl:n=b:=oO;obtain⟨T,U,V,W,Z⟩:=dk.res hid.out;have t:=Lib.hid (dk.pG c.out d.out hid.out);clear f;go_wp2;refine bodyPost_ret (v:= .agg #[.int .i64 C,.int .i64 S,.slice (some ⟨(a.heap.size+1),0,none⟩) n n,.slice (some ⟨(a.heap.size),0,none⟩) S S]) ?_ rfl ⟨(a.heap.size+1),(a.heap.size),?_,?_,?_⟩
    ·have u:Tryz.f119.results=#[.cell 2 152]:=oK;simp only[results,u];go_simp
    ·rw[d.out]
    ·exact(((t.out.setCell _ _ oT oT).setCell _ _ oT oT).setCell _ _ oT oT).setCell _ _ oT oT
    ·exact⟨(((hid.out.B.setCell oS _).setCell oS _).setCell oS _).setCell oS _,by omega,by omega⟩
 ·go_loopw [6,28] (λx i wr=>∃n:Nat,n<=b/\i= .int .i64 (n:Nat)/\x= .int .i64 ((fpowN S P (aw S P) n:Nat):Int)/\Hid (dk w wr C S P b n (a.heap.size+1+1) (a.heap.size) (a.heap.size+1))) (λ_ i _=>b-(intOf i).toNat)
  case atStart=>
   refine⟨0,Nat.zero_le _,rfl,rfl,?_⟩;refine⟨ai (ah (ah (ah j.out.2.2.2 _) _) _),by omega,by omega,by omega,by omega,by omega,by omega,?_,?_,?_,?_,?_⟩
   ·exact(Below.heap_alloc _ _ _ oT).trans ((Below.heap_alloc _ _ _ oT).trans ((Below.heap_alloc _ _ _ oO).trans j.out.2.1))
   ·exact(Below.heap_alloc _ _ _ oT).trans ((Below.heap_alloc _ _ _ oT).trans ((Below.heap_alloc _ _ _ oO).trans j.out.2.2.1))
   ·rw[B.out];exact(cX a _ _ _).2.2
   ·rw[D.out];exact(cX a _ _ _).1
   ·exact(cX a _ _ _).2.1
  case round=>
   obtain⟨n,hn,rfl,rfl,hid⟩:=hrel;obtain⟨⟨E,F,G⟩,⟨H,J,K,L⟩,f⟩:=dk.cells c.out d.out hid.out;by_cases k:n<b
   ·obtain⟨⟨u1,M⟩,N,⟨u2,s3⟩,O⟩:=f k;have q:fpowN S P (aw S P) n<S:=ep c.out n;have r:=Lib.hid (dk.store c.out d.out hid.out k);have o:Hid (mulR C S P (fpowN S P (aw S P) n:Nat) (aw S P:Nat)=(((fpowN S P (aw S P) (n+1):Nat):Int),0)):=by
     show _=_;unfold mulR;rw[gF c.out q hg];simp;rfl
    generalize fpowN S P (aw S P) n=X at*;generalize l:fpowN S P (aw S P) (n+1)=Y at*;have p:=Lib.hid l;clear l;clear f;go_wp2;go_region
    all_goals go_wp2_with(go_at_call 159;refine(ir C S P X (aw S P) _ oO z).mono ?_;rintro e Q ⟨rfl,s⟩;rw[o.out])
    all_goals go_roundw
    all_goals try(case measure=>simp[intOf];omega)
    all_goals refine⟨n+1,by omega,by go_num,by rw[p.out],?_⟩
    all_goals exact dk.below (dk.drew r.out) s
   ·obtain rfl:n=b:=oO;obtain⟨T,U,V,W,Z⟩:=dk.res hid.out;have t:=Lib.hid (dk.pG c.out d.out hid.out);clear f;go_wp2;refine bodyPost_ret (v:= .agg #[.int .i64 C,.int .i64 S,.slice (some ⟨(a.heap.size+1+1),0,none⟩) n n,.slice (some ⟨(a.heap.size),0,none⟩) S S]) ?_ rfl ⟨(a.heap.size+1+1),(a.heap.size),?_,?_,?_⟩
    ·have u:Tryz.f119.results=#[.cell 2 152]:=oK;simp only[results,u];go_simp
    ·rw[d.out]
    ·exact(((t.out.setCell _ _ oT oT).setCell _ _ oT oT).setCell _ _ oT oT).setCell _ _ oT oT
    ·exact⟨(((hid.out.B.setCell oS _).setCell oS _).setCell oS _).setCell oS _,by omega,by omega⟩
 ·go_loopw [6,28] (λx i wr=>∃n:Nat,n<=b/\i= .int .i64 (n:Nat)/\x= .int .i64 ((fpowN S P (aw S P) n:Nat):Int)/\Hid (dk w wr C S P b n (a.heap.size+1) (a.heap.size+1+1) (a.heap.size))) (λ_ i _=>b-(intOf i).toNat)
  case atStart=>
   refine⟨0,Nat.zero_le _,rfl,rfl,?_⟩;refine⟨ai (ah (ah (ah j.out.2.2.2 _) _) _),by omega,by omega,by omega,by omega,by omega,by omega,?_,?_,?_,?_,?_⟩
   ·exact(Below.heap_alloc _ _ _ oT).trans ((Below.heap_alloc _ _ _ oT).trans ((Below.heap_alloc _ _ _ oO).trans j.out.2.1))
   ·exact(Below.heap_alloc _ _ _ oT).trans ((Below.heap_alloc _ _ _ oT).trans ((Below.heap_alloc _ _ _ oO).trans j.out.2.2.1))
   ·rw[B.out];exact(cX a _ _ _).2.1
   ·rw[D.out];exact(cX a _ _ _).2.2
   ·exact(cX a _ _ _).1
  case round=>
   obtain⟨n,hn,rfl,rfl,hid⟩:=hrel;obtain⟨⟨E,F,G⟩,⟨H,J,K,L⟩,f⟩:=dk.cells c.out d.out hid.out;by_cases k:n<b
   ·obtain⟨⟨u1,M⟩,N,⟨u2,s3⟩,O⟩:=f k;have q:fpowN S P (aw S P) n<S:=ep c.out n;have r:=Lib.hid (dk.store c.out d.out hid.out k);have o:Hid (mulR C S P (fpowN S P (aw S P) n:Nat) (aw S P:Nat)=(((fpowN S P (aw S P) (n+1):Nat):Int),0)):=by
     show _=_;unfold mulR;rw[gF c.out q hg];simp;rfl
    generalize fpowN S P (aw S P) n=X at*;generalize l:fpowN S P (aw S P) (n+1)=Y at*;have p:=Lib.hid l;clear l;clear f;go_wp2;go_region
    all_goals go_wp2_with(go_at_call 159;refine(ir C S P X (aw S P) _ oO z).mono ?_;rintro e Q ⟨rfl,s⟩;rw[o.out])
    all_goals go_roundw
    all_goals try(case measure=>simp[intOf];omega)
    all_goals refine⟨n+1,by omega,by go_num,by rw[p.out],?_⟩
    all_goals exact dk.below (dk.drew r.out) s
   ·obtain rfl:n=b:=oO;obtain⟨T,U,V,W,Z⟩:=dk.res hid.out;have t:=Lib.hid (dk.pG c.out d.out hid.out);clear f;go_wp2;refine bodyPost_ret (v:= .agg #[.int .i64 C,.int .i64 S,.slice (some ⟨(a.heap.size+1),0,none⟩) n n,.slice (some ⟨(a.heap.size+1+1),0,none⟩) S S]) ?_ rfl ⟨(a.heap.size+1),(a.heap.size+1+1),?_,?_,?_⟩
    ·have u:Tryz.f119.results=#[.cell 2 152]:=oK;simp only[results,u];go_simp
    ·rw[d.out]
    ·exact(((t.out.setCell _ _ oT oT).setCell _ _ oT oT).setCell _ _ oT oT).setCell _ _ oT oT
    ·exact⟨(((hid.out.B.setCell oS _).setCell oS _).setCell oS _).setCell oS _,by omega,by omega⟩
 ·go_loopw [6,28] (λx i wr=>∃n:Nat,n<=b/\i= .int .i64 (n:Nat)/\x= .int .i64 ((fpowN S P (aw S P) n:Nat):Int)/\Hid (dk w wr C S P b n (a.heap.size+1+1) (a.heap.size+1) (a.heap.size))) (λ_ i _=>b-(intOf i).toNat)
  case atStart=>
   refine⟨0,Nat.zero_le _,rfl,rfl,?_⟩;refine⟨ai (ah (ah (ah j.out.2.2.2 _) _) _),by omega,by omega,by omega,by omega,by omega,by omega,?_,?_,?_,?_,?_⟩
   ·exact(Below.heap_alloc _ _ _ oT).trans ((Below.heap_alloc _ _ _ oT).trans ((Below.heap_alloc _ _ _ oO).trans j.out.2.1))
   ·exact(Below.heap_alloc _ _ _ oT).trans ((Below.heap_alloc _ _ _ oT).trans ((Below.heap_alloc _ _ _ oO).trans j.out.2.2.1))
   ·rw[B.out];exact(cX a _ _ _).2.2
   ·rw[D.out];exact(cX a _ _ _).2.1
   ·exact(cX a _ _ _).1
  case round=>
   obtain⟨n,hn,rfl,rfl,hid⟩:=hrel;obtain⟨⟨E,F,G⟩,⟨H,J,K,L⟩,f⟩:=dk.cells c.out d.out hid.out;by_cases k:n<b
   ·obtain⟨⟨u1,M⟩,N,⟨u2,s3⟩,O⟩:=f k;have q:fpowN S P (aw S P) n<S:=ep c.out n;have r:=Lib.hid (dk.store c.out d.out hid.out k);have o:Hid (mulR C S P (fpowN S P (aw S P) n:Nat) (aw S P:Nat)=(((fpowN S P (aw S P) (n+1):Nat):Int),0)):=by
     show _=_;unfold mulR;rw[gF c.out q hg];simp;rfl
    generalize fpowN S P (aw S P) n=X at*;generalize l:fpowN S P (aw S P) (n+1)=Y at*;have p:=Lib.hid l;clear l;clear f;go_wp2;go_region
    all_goals go_wp2_with(go_at_call 159;refine(ir C S P X (aw S P) _ oO z).mono ?_;rintro e Q ⟨rfl,s⟩;rw[o.out])
    all_goals go_roundw
    all_goals try(case measure=>simp[intOf];omega)
    all_goals refine⟨n+1,by omega,by go_num,by rw[p.out],?_⟩
    all_goals exact dk.below (dk.drew r.out) s
   ·obtain rfl:n=b:=oO;obtain⟨T,U,V,W,Z⟩:=dk.res hid.out;have t:=Lib.hid (dk.pG c.out d.out hid.out);clear f;go_wp2;refine bodyPost_ret (v:= .agg #[.int .i64 C,.int .i64 S,.slice (some ⟨(a.heap.size+1+1),0,none⟩) n n,.slice (some ⟨(a.heap.size+1),0,none⟩) S S]) ?_ rfl ⟨(a.heap.size+1+1),(a.heap.size+1),?_,?_,?_⟩
    ·have u:Tryz.f119.results=#[.cell 2 152]:=oK;simp only[results,u];go_simp
    ·rw[d.out]
    ·exact(((t.out.setCell _ _ oT oT).setCell _ _ oT oT).setCell _ _ oT oT).setCell _ _ oT oT
    ·exact⟨(((hid.out.B.setCell oS _).setCell oS _).setCell oS _).setCell oS _,by omega,by omega⟩
end
section
open Fl
section
variable {K : Type} [Fl K]
theorem ym (r:K) (f:Nat->K) (n:Nat):dm (λk=>r* f k) n=r* dm f n:=by
 induction n with
 |zero=>exact(aV r).symm
 |succ n a=>show dm _ n+r* f n=r* (dm f n+f n);rw[a,gQ]
theorem Ic (f g:Nat->K) (n:Nat):dm (λk=>f k+g k) n=dm f n+dm g n:=by
 induction n with
 |zero=>exact(bO _).symm
 |succ n a=>show dm _ n+(f n+g n)=(dm f n+f n)+(dm g n+g n);rw[a];ac_rfl
theorem xX {f:Nat->K} {n:Nat} (h:∀k,k<n->f k=0):dm f n=0:=by
 induction n with
 |zero=>rfl
 |succ n a=>show dm f n+f n=0;rw[a λk b=>h k oO,h n oO,aR]
theorem Ko (x:K) (f:Nat->K) (n:Nat):bN x f n=dm (λk=>f k* x^k) n:=by
 induction n with
 |zero=>rfl
 |succ n a=>rw[xn,a];rfl
theorem rZ {a b:Nat->K} {n:Nat} (h:∀k,k<=n->a k* b (n-k)=0):conv a b n=0:=by
 rw[nN];exact xX λk c=>h k oO
theorem Hg {a b:Nat->K} {n:Nat} (h:∀k,1<=k->k<=n->a k* b (n-k)=0):conv a b n=a 0* b n:=by
 rw[nN,vS,xX (f:=cu λk=>a k* b (n-k)) λk c=>h (k+1) oO oO,aR];rfl
theorem rI (a b c:Nat->K) (n:Nat):conv a (conv b c) n=conv b (conv a c) n:=by
 rw[<-lj,<-lj];exact dK (λk _=>gf a b k) (λ_ _=>rfl)
theorem Bk {X:K} (a:X≠0) {j k:Nat} (h:k<=j):X^j* dM X^k=X^(j-k):=by
 rw[show j=(j-k)+k from by omega,gr,Nat.add_sub_cancel,bY,<-l0,fK a,iN,eD]
theorem Ip {X Y:K} (c:X≠0) (a:Y≠0) (h:dM X=dM Y):X=Y:=by
 have b:=fK c;rw[h]at b;have d:=fK a;exact fs (sS a) (b.trans d.symm)
def iU (X:K):Nat->K:=λn=>if n=0 then 1 else if n=1 then-X else 0
theorem mj (X:K):cS 2 (iU X):=λi a=>by unfold iU;rw[if_neg oO,if_neg oO]
theorem LH (X:K) (n:Nat):cu (iU X) n=ff (-X) n:=by
 unfold cu iU ff;cases n with
 |zero=>rfl
 |succ n=>rfl
theorem IT (X:K) (f:Nat->K) (n:Nat):conv (iU X) f (n+1)=f (n+1)-X* f n:=by
 rw[bW,dK (a:=cu (iU X)) (a':=ff (-X)) (b:=f) (b':=f) (λk _=>LH X k) (λ_ _=>rfl),kE,kI];show 1* _+_=_;rw[dB];rfl
theorem xC (y X:K):bN y (iU X) 2=1-X* y:=by
 show(1:K)+y* (-X+y* 0)=_;rw[aV,aR,lR,bS];rfl
def nS:List K->Nat->K
 |[]=>ff 1
 |X::l=>conv (iU X) (nS l)
theorem uG (r:K):cS 1 (ff r):=λi a=>by unfold ff;rw[if_neg oO]
theorem JJ {a b:Nat->K} {d e:Nat} (c:cS (d+1) a) (hb:cS (e+1) b):cS (d+e+1) (conv a b):=λn hn=>cS.conv c hb n oO
theorem pH:∀l:List K,cS (l.length+1) (nS l)
 |[]=>uG 1
 |X::l=>λn hn=>(mj X).conv (pH l) n (by simp only[List.length_cons]at hn;omega)
theorem Bj:∀l:List K,nS l 0=1
 |[]=>rfl
 |X::l=>by show(1:K)* nS l 0=1;rw[Bj l,dB]
theorem C0:∀l:List K,(∀X∈l,X≠0)->nS l l.length≠0
 |[],_=>ke
 |X::l,h=>by
  have a:=II (mj X) (pH l);rw[show(X::l).length=1+l.length from by rw[List.length_cons,Nat.add_comm]];show conv (iU X) (nS l) (1+l.length)≠0
  rw[a];refine jA (λe=>h X oS ?_) (C0 l λY b=>h Y (by simp[b]));have e2:-X=0:=e;rw[<-jZ X,e2,r9]
theorem mH {x:K} {a b:Nat->K} {d e n:Nat} (c:cS (d+1) a) (hb:cS (e+1) b) (hn:d+e+1<=n):bN x (conv a b) n=bN x a (d+1)* bN x b (e+1):=by
 rw[fJ (JJ c hb) hn,<-zt c hb];exact(fJ (JJ c hb) oO).symm
def ki (y:K):List K->K
 |[]=>1
 |X::l=>(1-X* y)* ki y l
theorem Dl (y:K):∀l:List K,bN y (nS l) (l.length+1)=ki y l
 |[]=>by show(1:K)+y* 0=1;rw[aV,aR]
 |X::l=>by
  show bN y (conv (iU X) (nS l)) (l.length+1+1)=_;rw[mH (mj X) (pH l) oO,xC,Dl y l];rfl
theorem uy {y:K}:∀{l:List K} {X:K},X∈l->X* y=1->ki y l=0
 |Z::l,X,h,e=>by
  rcases List.mem_cons.1 h with rfl|h
  ·show(1-X* y)* _=0;rw[e,cA,bU]
  ·show _* ki y l=0;rw[uy h e,aV]
theorem zE {y:K}:∀{l:List K},(∀X∈l,X* y≠1)->ki y l≠0
 |[],_=>ke
 |Z::l,h=>jA (λe=>h Z oS (gS.1 e).symm) (zE λX a=>h X (by simp[a]))
theorem sO (X:K):∀(s t:List K) (n:Nat),nS (s++X::t) n=conv (iU X) (nS (s++t)) n
 |[],t,n=>rfl
 |Z::s,t,n=>by
  show conv (iU Z) (nS (s++X::t)) n=conv (iU X) (conv (iU Z) (nS (s++t))) n
  rw[rI];exact dK (λ_ _=>rfl) (λk _=>sO X s t k)
def eu:List (K×K)->Nat->K
 |[],_=>0
 |e::l,j=>e.1* e.2^j+eu l j
def qw (C:Nat->K) (L j:Nat):List (K×K)->K
 |[]=>0
 |e::l=>e.1* e.2^j* bN (dM e.2) C (L+1)+qw C L j l
theorem JE {C:Nat->K} {L j:Nat} (a:cS (L+1) C) (d:L<=j) (w:K) {X:K} (b:X≠0):conv C (λk=>w* X^k) j=w* X^j* bN (dM X) C (L+1):=by
 rw[nN,qz (n:=L+1) (λk c e=>by rw[a k c,bU]) oO,Ko,<-ym];apply iB;intro k f;rw[<-Bk b (show k<=j by omega)]
 ac_rfl
theorem sf {C:Nat->K} {L j:Nat} (a:cS (L+1) C) (b:L<=j):∀E:List (K×K),(∀e∈E,e.2≠0)->conv C (eu E) j=qw C L j E
 |[],_=>by rw[gf];exact fH λk=>rfl
 |e::l,h=>by
  show conv C (λk=>e.1* e.2^k+eu l k) j=_
  rw[qd,JE a b e.1 (h e oS),sf a b l λx c=>h x (by simp[c])];rfl
theorem so {C:Nat->K} {L j:Nat}:∀{E:List (K×K)},(∀e∈E,bN (dM e.2) C (L+1)=0)->qw C L j E=0
 |[],_=>rfl
 |e::l,h=>by
  show _* bN (dM e.2) C (L+1)+qw C L j l=0;rw[h e oS,so λx a=>h x (by simp[a]),aV,aR]
theorem Bz (e:K×K):∀(s t:List (K×K)) (j:Nat),eu (s++e::t) j=e.1* e.2^j+eu (s++t) j
 |[],t,j=>rfl
 |z::s,t,j=>by
  show z.1* z.2^j+eu (s++e::t) j=e.1* e.2^j+(z.1* z.2^j+eu (s++t) j);rw[Bz e s t j];ac_rfl
theorem AA (C:Nat->K) (L j:Nat) (e:K×K):∀(s t:List (K×K)),qw C L j (s++e::t)=e.1* e.2^j* bN (dM e.2) C (L+1)+qw C L j (s++t)
 |[],t=>rfl
 |z::s,t=>by
  show _+qw C L j (s++e::t)=_+(_+qw C L j (s++t));rw[AA C L j e s t];ac_rfl
def lam (E:List (K×K)):Nat->K:=nS (E.map (·.2))
theorem jC (E:List (K×K)):cS (E.length+1) (lam E):=by have:=pH (E.map (·.2));rwa[List.length_map]at this
theorem zp (E:List (K×K)):lam E 0=1:=Bj _
theorem xj {E:List (K×K)} (h:∀e∈E,e.2≠0):lam E E.length≠0:=by
 have:=C0 (E.map (·.2)) (λX a=>by obtain⟨e,b,rfl⟩:=List.mem_map.1 a;exact h e b);rwa[List.length_map]at this
theorem qe (y:K) (E:List (K×K)):bN y (lam E) (E.length+1)=ki y (E.map (·.2)):=by
 have:=Dl y (E.map (·.2));rwa[List.length_map]at this
theorem uh {E:List (K×K)} {e:K×K} (a:e∈E) (b:e.2≠0):bN (dM e.2) (lam E) (E.length+1)=0:=by
 rw[qe];exact uy (List.mem_map_of_mem a) (fK b)
theorem C7 {E:List (K×K)} (h:∀e∈E,e.2≠0) {j:Nat} (b:E.length<=j):conv (lam E) (eu E) j=0:=by
 rw[sf (jC E) b E h];exact so λe a=>uh a (h e a)
theorem L1 {C D S:Nat->K} {L v n:Nat} (a:cS (L+1) C) (b:cS (v+1) D) (c:D 0=1) (d:∀j,L<=j->j<n->conv C S j=0) (e:∀j,v<=j->conv D S j=0)
 (f:conv C S n≠0):n+1<=L+v:=by
 apply Classical.byContradiction;intro l;apply f;have e1:conv D (conv C S) n=D 0* conv C S n:=Hg λk g hn=>by
  by_cases i:k<=v
  ·rw[d (n-k) oO oO,aV]
  ·rw[b k oO,bU]
 have e2:conv C (conv D S) n=0:=rZ λk g=>by
  by_cases hl:k<=L
  ·rw[e (n-k) oO,aV]
  ·rw[a k oO,bU]
 rw[rI,e2,c,dB]at e1;exact e1.symm
def vR:Nat->(Nat->K)->Nat->K
 |0,f=>f
 |m+1,f=>sh (vR m f)
theorem uZ (m:Nat) (f:Nat->K) (j:Nat):vR m f j=if m<=j then f (j-m)else 0:=by
 induction m generalizing j with
 |zero=>rw[if_pos (Nat.zero_le _)];rfl
 |succ m a=>
  cases j with
  |zero=>rw[if_neg oO];rfl
  |succ j=>
   show vR m f j=_;rw[a];by_cases h:m<=j
   ·rw[if_pos h,if_pos oO,show j+1-(m+1)=j-m from by omega]
   ·rw[if_neg h,if_neg oO]
theorem IA (m:Nat) (f S:Nat->K) (j:Nat):conv (vR m f) S j=vR m (conv f S) j:=by
 induction m generalizing j with
 |zero=>rfl
 |succ m a=>
  show conv (sh (vR m f)) S j=sh (vR m (conv f S)) j
  rw[Dw];cases j with
  |zero=>rfl
  |succ j=>exact a j
theorem KM {m d:Nat} {f:Nat->K} (h:cS d f):cS (d+m) (vR m f):=λi a=>by
 rw[uZ,if_pos oO,h _ oO]
structure mF (S:Nat->K) (n:Nat) (C B:Nat->K) (L m:Nat) (b:K):Prop where
 c0:C 0=1
 cs:cS (L+1) C
 ln:L<=n
 gen:∀j,L<=j->j<n->conv C S j=0
 b0:b≠0
 m1:1<=m
 q:∃q,L+q+m=n+1/\cS (q+1) B/\(m<=n->(∀j,q<=j->j+m<n->conv B S j=0)/\conv B S (n-m)=b)
theorem mF.start (S:Nat->K):mF S 0 (ff 1) (ff 1) 0 1 1:=
 ⟨rfl,uG 1,Nat.le_refl _,λj a b=>by omega,ke,Nat.le_refl _,0,rfl,uG 1,λh=>by omega⟩
theorem mF.skip {S C B:Nat->K} {n L m:Nat} {b:K} (h:mF S n C B L m b) (d:conv C S n=0):mF S (n+1) C B L (m+1) b:=by
 obtain⟨q,k,e,f⟩:=h.q;refine⟨h.c0,h.cs,by have:=h.ln;omega,λj a c=>?_,h.b0,by omega,q,by omega,e,λl=>?_⟩
 ·rcases Nat.lt_or_ge j n with g|g
  ·exact h.gen j a g
  ·obtain rfl:j=n:=oO;exact d
 ·obtain⟨a,c⟩:=f oO;exact⟨λj i o=>a j i oO,by rw[show n+1-(m+1)=n-m from by omega];exact c⟩
def pS (C B:Nat->K) (m:Nat) (r:K):Nat->K:=λj=>C j-r* vR m B j
theorem mF.zK {S C B:Nat->K} {n L m:Nat} {b r:K} (h:mF S n C B L m b) (a:r* b=conv C S n) (j:Nat) (c:L<=j) (f:n+1<=j+L) (i:j<n+1):conv (pS C B m r) S j=0:=by
 obtain⟨q,e1,e2,e3⟩:=h.q;unfold pS;rw[yE,pP,IA,uZ,if_pos oO];obtain⟨d,e⟩:=e3 oO;rcases Nat.lt_or_ge j n with g|g
 ·rw[h.gen j c g,d (j-m) oO oO,aV,eF]
 ·obtain rfl:j=n:=oO;rw[e,a,cA]
theorem zP {S C B:Nat->K} {n L m:Nat} {b r:K} (h:mF S n C B L m b):pS C B m r 0=1:=by
 have:=h.m1;unfold pS;rw[uZ,if_neg oO,aV,eF,h.c0]
theorem CO {S C B:Nat->K} {n L m a:Nat} {b r:K} (h:mF S n C B L m b) (c:L<=a) (d:n+1<=a+L):cS (a+1) (pS C B m r):=λi e=>by
 obtain⟨q,e1,e2,e3⟩:=h.q;unfold pS;rw[h.cs i oO,KM e2 i oO,aV,eF]
theorem mF.grow {S C B:Nat->K} {n L m:Nat} {b r:K} (h:mF S n C B L m b) (a:conv C S n≠0) (c:r* b=conv C S n) (f:2* L<=n):mF S (n+1) (pS C B m r) C (n+1-L) 1 (conv C S n):=by
 have hl:=h.ln;refine⟨zP h,CO h oO oO,by omega,λj g d=>h.zK c j oO oO d,a,Nat.le_refl _,L,by omega,h.cs,λ_=>⟨λj e i=>h.gen j e oO,rfl⟩⟩
theorem mF.stay {S C B:Nat->K} {n L m:Nat} {b r:K} (h:mF S n C B L m b) (d:r* b=conv C S n) (f:n<2* L):mF S (n+1) (pS C B m r) B L (m+1) b:=by
 have hl:=h.ln;obtain⟨q,e1,e2,e3⟩:=h.q;refine⟨zP h,CO h (Nat.le_refl _) oO,by omega,λj a c=>h.zK d j a oO c,h.b0,by omega,q,by omega,e2,λg=>?_⟩;obtain⟨a,c⟩:=e3 oO;exact⟨λj e i=>a j e oO,by rw[show n+1-(m+1)=n-m from by omega];exact c⟩
structure km (E:List (K×K)):Prop where
 w0:∀e∈E,e.1≠0
 x0:∀e∈E,e.2≠0
 nd:(E.map (·.2)).Nodup
theorem km.out {s t:List (K×K)} {e:K×K} (h:km (s++e::t)):∀X∈(s++t).map (·.2),X≠e.2:=by
 have b:=h.nd;intro X a e2;subst e2;rw[List.map_append,List.map_cons,List.nodup_append]at b;obtain⟨f,c,d⟩:=b;rw[List.nodup_cons]at c;rw[List.map_append,List.mem_append]at a;rcases a with a|a
 ·exact d _ a _ oS rfl
 ·exact c.1 a
theorem km.rest {s t:List (K×K)} {e:K×K} (h:km (s++e::t)):km (s++t):=by
 refine⟨λx a=>h.w0 x ?_,λx a=>h.x0 x ?_,?_⟩
 ·rw[List.mem_append]at a;rw[List.mem_append,List.mem_cons];rcases a with a|a
  ·exact .inl a
  ·exact .inr (.inr a)
 ·rw[List.mem_append]at a;rw[List.mem_append,List.mem_cons];rcases a with a|a
  ·exact .inl a
  ·exact .inr (.inr a)
 ·have:=h.nd;refine this.sublist ?_;exact((List.Sublist.refl s).append (List.sublist_cons_self e t)).map _
theorem km.Bu {s t:List (K×K)} {e:K×K} (h:km (s++e::t)):ki (dM e.2) ((s++t).map (·.2))≠0:=zE λX b e1=>by
 have a:e.2≠0:=h.x0 e oS;have c:=h.out X b;exact c (fs (sS a) (e1.trans (fK a).symm))
theorem Lb {E:List (K×K)} (a:km E) {C:Nat->K} {L N:Nat} (f:cS (L+1) C) (m:∀j,L<=j->j<N->conv C (eu E) j=0) (n:L<=E.length) (o:2* E.length<=N):
 ∀e∈E,bN (dM e.2) C (L+1)=0:=by
 intro e p;obtain⟨s,t,rfl⟩:=List.append_of_mem p;have w:(s++e::t).length=(s++t).length+1:=by simp;omega
 rw[w]at n o;obtain⟨v,g⟩:∃v,v=(s++t).length:=⟨_,rfl⟩;have b:cS (v+1) (lam (s++t)):=by rw[g];exact jC _
 have c:conv (lam (s++t)) (conv C (eu (s++e::t))) (L+v)=0:=rZ λk y=>by
  by_cases z:k<=v
  ·rw[m (L+v-k) oO oO,aV]
  ·rw[b k oO,bU]
 rw[<-lj]at c;have q:=JJ b f;rw[sf (L:=v+L) q oO _ a.x0,AA]at c;have d:e.2≠0:=a.x0 e oS;have r:qw (conv (lam (s++t)) C) (v+L) (L+v) (s++t)=0:=so λx d=>by
  rw[mH b f (Nat.le_refl _),g,uh d (a.rest.x0 x d),bU]
 rw[r,aR,mH b f (Nat.le_refl _),g,qe]at c;have u:=a.w0 e oS;rcases xc c with i|i
 ·exact absurd i (jA u (iu d _))
 ·rcases xc i with l|l
  ·exact absurd l a.Bu
  ·exact l
theorem L0 {E:List (K×K)} (c:km E) {C:Nat->K} {L N:Nat} (g:cS (L+1) C) (v:C 0=1) (m:∀j,L<=j->j<N->conv C (eu E) j=0) (n:L<=E.length) (o:2* E.length<=N):
 L=E.length/\∀i,C i=lam E i:=by
 have p:=Lb c g m n o;have w:cS (E.length+1) (λi=>C i-lam E i):=λi q=>by
  show C i-lam E i=0;rw[g i oO,jC E i q,cA]
 have l:∀i,C i=lam E i:=λi=>by
  have:=tT w (0::E.map λe=>dM e.2) (by
   rw[List.nodup_cons];refine⟨λh=>?_,?_⟩
   ·obtain⟨e,f,r⟩:=List.mem_map.1 h;exact sS (c.x0 e f) r
   ·have s:E.map (λe=>dM e.2)=(E.map (·.2)).map dM:=by rw[List.map_map];rfl
    rw[s];refine kT (λa t b hb h=>?_) c.nd;obtain⟨e,f,rfl⟩:=List.mem_map.1 t;obtain⟨d,u,rfl⟩:=List.mem_map.1 hb
    exact Ip (c.x0 e f) (c.x0 d u) h) oS (λx k=>by
   rw[s0];rcases List.mem_cons.1 k with rfl|k
   ·rw[cN,cN,bU,bU,v,zp,cA]
   ·obtain⟨e,f,rfl⟩:=List.mem_map.1 k
    rw[fJ g oO,p e f,uh f (c.x0 e f),cA]) i
  exact gS.1 this
 refine⟨?_,l⟩;rcases Nat.lt_or_ge L E.length with h|h
 ·exact absurd ((l E.length).symm.trans (g _ oO)) (xj c.x0)
 ·omega
theorem AN (w X:K) (n:Nat):conv (iU X) (λj=>w* X^j) n=ff w n:=by
 cases n with
 |zero=>show(1:K)* (w* 1)=w;rw[dB,eD]
 |succ n=>
  rw[IT];show w* (X^n* X)-X* (w* X^n)=0;rw[show w* (X^n* X)=X* (w* X^n)from by ac_rfl,cA]
theorem wQ {s t:List (K×K)} {e:K×K} (h:km (s++e::t)) {N:Nat} (o:(s++e::t).length<=N):
 bN (dM e.2) (conv (lam (s++e::t)) (eu (s++e::t))) N=e.1* ki (dM e.2) ((s++t).map (·.2)):=by
 have d:e.2≠0:=h.x0 e oS;have q:(s++e::t).length=(s++t).length+1:=by simp;omega
 have f:∀n,lam (s++e::t) n=conv (iU e.2) (lam (s++t)) n:=λn=>by
  unfold lam;rw[List.map_append,List.map_cons,sO,List.map_append]
 have key:∀n,conv (lam (s++e::t)) (eu (s++e::t)) n=e.1* lam (s++t) n+conv (iU e.2) (conv (lam (s++t)) (eu (s++t))) n:=λn=>by
  rw[dK (a:=lam (s++e::t)) (a':=conv (iU e.2) (lam (s++t))) (b:=eu (s++e::t)) (b':=λj=>e.1* e.2^j+eu (s++t) j) (λk _=>f k) (λk _=>Bz e s t k),qd];congr 1
  ·rw[lj,rI];rw[dK (a:=lam (s++t)) (a':=lam (s++t)) (b:=conv (iU e.2) λk=>e.1* e.2^k) (b':=ff e.1) (λ_ _=>rfl) (λk _=>AN e.1 e.2 k),gf,kE]
  ·rw[lj]
 rw[fA λi _=>key i,nI,oB];have c:cS (s++t).length (conv (lam (s++t)) (eu (s++t))):=λj g=>C7 h.rest.x0 g;have l:bN (dM e.2) (conv (iU e.2) (conv (lam (s++t)) (eu (s++t)))) N=0:=by
  rw[(fJ (n:=N) (m:=1+(s++t).length+1+N) (λi p=>(mj e.2).conv c i oO) oO).symm,
   mH (mj e.2) (c.mono (Nat.le_succ _)) oO,xC,fK d,cA,bU]
 rw[l,aR,fJ (jC (s++t)) oO,qe]
theorem Ke (X:K) (n:Nat):j6 (iU X) n=ff (-X) n:=by
 unfold j6 iU ff;cases n with
 |zero=>exact bO _
 |succ n=>rw[if_neg oO,if_neg oO,if_neg oO];exact tZ _
theorem DN {f:Nat->K} {d:Nat} (h:cS (d+1) f):cS d (j6 f):=λi a=>by
 show gZ (i+1) (f (i+1))=0;rw[h (i+1) oO,tZ]
theorem AL {s t:List (K×K)} {e:K×K} (h:km (s++e::t)) {N:Nat} (l:(s++e::t).length<=N):
 bN (dM e.2) (j6 (lam (s++e::t))) N=-(e.2* ki (dM e.2) ((s++t).map (·.2))):=by
 have c:e.2≠0:=h.x0 e oS;have g:(s++e::t).length=(s++t).length+1:=by simp;omega
 have d:lam (s++e::t)=conv (iU e.2) (lam (s++t)):=by
  funext n;unfold lam;rw[List.map_append,List.map_cons,sO,List.map_append]
 have j:cS ((s++t).length+1) (j6 (lam (s++e::t))):=DN (by have:=jC (s++e::t);rw[g]at this;exact this);have f:cS ((s++t).length+1) (j6 (lam (s++t))):=(DN (jC (s++t))).mono (Nat.le_succ _);rw[<-fJ (m:=N+((s++t).length+3)) (j.mono oO) oO,d];rw[fA λi _=>Iv (iU e.2) (lam (s++t)) i,nI];rw[mH (mj e.2) f oO,xC,fK c,cA,bU,aR];rw[fA λi _=>dK (a:=j6 (iU e.2)) (a':=ff (-e.2)) (b:=lam (s++t)) (b':=lam (s++t)) (λk _=>Ke e.2 k) (λ_ _=>rfl)];rw[fA λi _=>kE (-e.2) (lam (s++t)) i,oB,fJ (jC (s++t)) oO,qe,kI]
end
end
end Go.Proofs.YtmnlkganmgcpbaaGreatDoor
