import Derived.Test.YtmnlkganmgcpbaaGreatDoorQm11
set_option maxRecDepth 100000
set_option maxHeartbeats 4000000
set_option linter.unusedVariables false
set_option linter.unusedSectionVars false
set_option linter.unusedSimpArgs false
namespace Go.Proofs.YtmnlkganmgcpbaaGreatDoor
section
open Fl
noncomputable def bV (s p j:Nat):Nat:=fpowN s p (aw s p) (j%(s-1))
def eE (s p x:Nat) (w:List Nat):Nat->Nat
 |0=>0
 |k+1=>aT s p (au s p (eE s p x w k) x) (w.getD k 0)
noncomputable def fL (s p first:Nat) (w:List Nat) (j:Nat):Nat:=eE s p (bV s p (first+j)) w w.length
def bP (w v:List Nat):List Nat:=(List.range w.length).filter λi=>decide (w.getD i 0≠v.getD i 0)
structure Fix (s p par first:Nat) (w v:List Nat):Prop where
 lt:aj s v
 ln:v.length=w.length
 cw:∀j,j<par->fL s p first v j=0
 df:2* (bP w v).length<=par
section
variable {c s p : Nat} (h : VF c s p)
include h
theorem dD (j:Nat):bV s p j<s:=ep h _
theorem mV {x:Nat} {w:List Nat} (a:aj s w) (k:Nat):eE s p x w k<s:=by
 cases k with
 |zero=>have:=h.aG;show 0<s;omega
 |succ k=>exact ja h _ _ (aO h _ _) (a k)
theorem sK {first:Nat} {w:List Nat} (a:aj s w) (j:Nat):fL s p first w j<s:=mV h a _
theorem kt {a:Nat} (b:a<s):aA h a=0↔a=0:=by
 constructor
 ·intro e;rw[<-aZ h]at e;exact fy h b (by have:=h.aG;omega) e
 ·rintro rfl;exact aZ h
theorem Kw:ia (KF h)=s:=j8 h
noncomputable def alpha:KF h:=aA h (aw s p)
theorem s6 {a:Nat} (b:a<s):∀n,aA h (fpowN s p a n)=aA h a^n
 |0=>ik h
 |n+1=>by
  show aA h (au s p (fpowN s p a n) a)=aA h a^n* aA h a;rw[dP h (lZ h a n) b,s6 b n]
theorem mR:dp (alpha h) (s-1):=by
 have hg:=iz h;have a:=(oA h (⟨aw s p,hg.2.1⟩:El s) (s-1)).1 hg.2.2.1;unfold alpha;rw[iF h hg.2.1];exact a
theorem uo:alpha h≠0:=(mR h).ne
theorem jG (j:Nat):aA h (bV s p j)=alpha h^j:=by
 unfold bV alpha;rw[s6 h (iz h).2.1];exact(uz (mR h).2.1 j).symm
theorem Ds {x:Nat} (b:x<s) {w:List Nat} (a:aj s w):∀k,aA h (eE s p x w k)=dm (λi=>co h w i* aA h x^(k-1-i)) k
 |0=>aZ h
 |k+1=>by
  show aA h (aT s p (au s p (eE s p x w k) x) (w.getD k 0))=dm (λi=>co h w i* aA h x^(k+1-1-i)) k+co h w k* aA h x^(k+1-1-k);rw[jI h (aO h _ _) (a k),dP h (mV h a k) b,Ds b a k,show k+1-1-k=0 from by omega,iG,eD];congr 1;rw[bS,<-ym];apply iB;intro i d;rw[show k+1-1-i=(k-1-i)+1 from by omega,dE]
  ac_rfl
noncomputable def loc (n i:Nat):KF h:=alpha h^(n-1-i)
theorem kp (n i:Nat):loc h n i≠0:=iu (uo h) _
theorem Df {n i j:Nat} (hn:n<=s-1) (a:i<n) (b:j<n) (e:loc h n i=loc h n j):i=j:=by
 have:=(mR h).inj oO oO e;omega
theorem Bl {first:Nat} {w:List Nat} (a:aj s w) (j:Nat):aA h (fL s p first w j)=dm (λi=>co h w i* loc h w.length i^first* loc h w.length i^j) w.length:=by
 unfold fL;rw[Ds h (dD h _) a];apply iB;intro i b;rw[jG,<-fk];unfold loc;rw[<-fk,<-fk,bY,<-gr,<-Nat.mul_add,Nat.mul_comm]
theorem Cl (a b:List (KF h×KF h)) (j:Nat):eu (a++b) j=eu a j+eu b j:=by
 induction a with
 |nil=>exact(bO _).symm
 |cons e l d=>show _+eu (l++b) j=_+eu l j+eu b j;rw[d,fP]
noncomputable def fV (n first:Nat) (f:Nat->KF h) (m:Nat):List (KF h×KF h):=((List.range m).filter λi=>decide (f i≠0)).map λi=>(f i* loc h n i^first,loc h n i)
theorem yq (n first:Nat) (f:Nat->KF h) (j:Nat):∀m,eu (fV h n first f m) j=dm (λi=>f i* loc h n i^first* loc h n i^j) m
 |0=>rfl
 |m+1=>by
  unfold fV;rw[List.range_succ,List.filter_append,List.map_append,Cl];show eu (fV h n first f m) j+_=dm _ m+_;rw[yq n first f j m];congr 1;show _=f m* loc h n m^first* loc h n m^j
  by_cases a:f m=0
  ·have:List.filter (λi=>decide (f i≠0)) [m]=[]:=by simp[a]
   rw[this,a,bU,bU];rfl
  ·have:List.filter (λi=>decide (f i≠0)) [m]=[m]:=by simp[a]
   rw[this];show f m* loc h n m^first* loc h n m^j+0=_
   rw[aR]
theorem mU {n first:Nat} (hn:n<=s-1) (f:Nat->KF h):km (fV h n first f n):=by
 refine⟨λe d=>?_,λe d=>?_,?_⟩
 ·obtain⟨i,g,rfl⟩:=List.mem_map.1 d;rw[List.mem_filter]at g;exact jA (by simpa using g.2) (iu (kp h n i) _)
 ·obtain⟨i,g,rfl⟩:=List.mem_map.1 d;exact kp h n i
 ·unfold fV;rw[List.map_map];refine kT (λa j b hb e=>?_) (List.nodup_range.filter _);rw[List.mem_filter,List.mem_range]at j hb;exact Df h hn j.1 hb.1 e
theorem ky (n first:Nat) (f:Nat->KF h) (m:Nat):(fV h n first f m).length=((List.range m).filter λi=>decide (f i≠0)).length:=by unfold fV;rw[List.length_map]
noncomputable def err (w v:List Nat) (i:Nat):KF h:=co h w i-co h v i
theorem Bn {w v:List Nat} (a:aj s w) (b:aj s v) (i:Nat):err h w v i≠0↔w.getD i 0≠v.getD i 0:=by
 constructor
 ·intro e e2;apply e;unfold err co;rw[e2,cA]
 ·intro e e2;apply e;exact fy h (a i) (b i) (gS.1 e2)
theorem j2 {w v:List Nat} (a:aj s w) (b:aj s v):((List.range w.length).filter λi=>decide (err h w v i≠0))=bP w v:=by
 unfold bP;apply List.filter_congr;intro i _;exact decide_eq_decide.2 (Bn h a b i)
theorem qu {par first:Nat} {w v:List Nat} (d:aj s w) (a:Fix s p par first w v) {j:Nat} (e:j<par):
 aA h (fL s p first w j)=eu (fV h w.length first (err h w v) w.length) j:=by
 rw[yq,Bl h d];have b:aA h (fL s p first v j)=0:=by rw[a.cw j e,aZ]
 rw[Bl h a.lt,a.ln]at b;have f:dm (λi=>err h w v i* loc h w.length i^first* loc h w.length i^j) w.length+dm (λi=>co h v i* loc h w.length i^first* loc h w.length i^j) w.length=dm (λi=>co h w i* loc h w.length i^first* loc h w.length i^j) w.length:=by
  rw[<-Ic];apply iB;intro i g;unfold err;rw[bY,bY,bY,<-gu,oN]
 rw[<-f,b,aR]
theorem uM {n i:Nat} (hn:n<=s-1) (a:i<n):aA h (bV s p (s-1-(n-1-i)))=dM (loc h n i):=by
 rw[jG];apply fs (kp h n i);rw[AG (kp h n i)];unfold loc;rw[<-gr,show s-1-(n-1-i)+(n-1-i)=s-1 from by omega];exact(mR h).2.1
structure iK (S:Nat->KF h) (N:Nat) (q:Nat->KF h) (L:Nat):Prop where
 c0:q 0=1
 cs:cS (L+1) q
 gen:∀j,L<=j->j<N->conv q S j=0
 mn:∀E:List (KF h×KF h),km E->(∀j,j<N->S j=eu E j)->L<=E.length
theorem iK.end {S:Nat->KF h} {N:Nat} {q:Nat->KF h} {L:Nat} (hl:iK h S N q L) {E:List (KF h×KF h)} (a:km E) (b:∀j,j<N->S j=eu E j) (d:2* E.length<=N):L=E.length/\∀i,q i=lam E i:=
 L0 a hl.cs hl.c0 (λj e f=>by rw[<-hl.gen j e f];exact dK (λ_ _=>rfl) λk g=>(b k oO).symm) (hl.mn E a b) d
structure oc (S:Nat->KF h) (N n:Nat) (C B:Nat->KF h) (L m:Nat) (b:KF h):Prop where
 I:mF S n C B L m b
 mn:∀E:List (KF h×KF h),km E->(∀j,j<N->S j=eu E j)->L<=E.length
theorem oc.start (S:Nat->KF h) (N:Nat):oc h S N 0 (ff 1) (ff 1) 0 1 1:=⟨mF.start S,λ_ _ _=>Nat.zero_le _⟩
theorem oc.skip {S C B:Nat->KF h} {N n L m:Nat} {b:KF h} (hb:oc h S N n C B L m b) (a:conv C S n=0):oc h S N (n+1) C B L (m+1) b:=⟨hb.I.skip a,hb.mn⟩
theorem oc.grow {S C B:Nat->KF h} {N n L m:Nat} {b r:KF h} (hb:oc h S N n C B L m b) (hn:n<N) (d:conv C S n≠0) (f:r* b=conv C S n) (a:2* L<=n):oc h S N (n+1) (pS C B m r) C (n+1-L) 1 (conv C S n):=by
 refine⟨hb.I.grow d f a,λE g l=>?_⟩;have e:∀k,k<=n->conv C S k=conv C (eu E) k:=λk t=>dK (λ_ _=>rfl) λi u=>l i oO
 have:=L1 (S:=eu E) hb.I.cs (jC E) (zp E) (λj o a=>(e j (Nat.le_of_lt a)).symm.trans (hb.I.gen j o a)) (λj q=>C7 g.x0 q) (by rw[<-e n (Nat.le_refl _)];exact d);omega
theorem oc.stay {S C B:Nat->KF h} {N n L m:Nat} {b r:KF h} (hb:oc h S N n C B L m b) (a:r* b=conv C S n) (d:n<2* L):oc h S N (n+1) (pS C B m r) B L (m+1) b:=⟨hb.I.stay a d,hb.mn⟩
theorem oc.LB {S C B:Nat->KF h} {N L m:Nat} {b:KF h} (hb:oc h S N N C B L m b):iK h S N C L:=⟨hb.I.c0,hb.I.cs,hb.I.gen,hb.mn⟩
noncomputable def fF (s p n i:Nat):Nat:=bV s p (s-1-(n-1-i))
noncomputable def dC (s p n:Nat) (q:List Nat):List Nat:=(List.range n).filter λi=>hornN s p (fF s p n i) q==0
theorem Ab {par first:Nat} {w v:List Nat} (g:aj s w) (hn:w.length<=s-1) (j:Fix s p par first w v) {q:List Nat} (hq:aj s q) (r:q.length=(bP w v).length+1)
 (t:∀i,co h q i=lam (fV h w.length first (err h w v) w.length) i):dC s p w.length q=bP w v:=by
 have x:=mU h hn (first:=first) (err h w v);have u:(fV h w.length first (err h w v) w.length).length=(bP w v).length:=by rw[ky,j2 h g j.lt]
 unfold dC bP;apply List.filter_congr;intro i a;rw[List.mem_range]at a;have e1:aA h (hornN s p (fF s p w.length i) q)=ki (dM (loc h w.length i)) ((fV h w.length first (err h w v) w.length).map (·.2)):=by
  rw[p9 h (show fF s p w.length i<s from dD h _) q (ek hq),show aA h (fF s p w.length i)=_ from uM h hn a,fA λi _=>t i,r,<-u,qe]
 have hb:hornN s p (fF s p w.length i) q<s:=gW h _ q (ek hq);rw[Bool.eq_iff_iff,beq_iff_eq,decide_eq_true_eq,<-kt h hb,e1,<-Bn h g j.lt];constructor
 ·intro b l;refine zE (λX m e=>?_) b;obtain⟨d,n,rfl⟩:=List.mem_map.1 m;obtain⟨k,f,rfl⟩:=List.mem_map.1 n;rw[List.mem_filter,List.mem_range]at f;have e2:loc h w.length k=loc h w.length i:=fs (sS (kp h _ i)) (e.trans (fK (kp h _ i)).symm);have:=Df h hn f.1 a e2;subst this;have o:err h w v k≠0:=by simpa using f.2
  exact o l
 ·intro b;refine uy (X:=loc h w.length i) ?_ (fK (kp h _ i));refine List.mem_map.2 ⟨(err h w v i* loc h w.length i^first,loc h w.length i),?_,rfl⟩;exact List.mem_map.2 ⟨i,by rw[List.mem_filter,List.mem_range];exact⟨a,by simpa using b⟩,rfl⟩
end
noncomputable def bp (s p par first:Nat) (w:List Nat):List Nat:=(List.range par).map (fL s p first w)
noncomputable def jR (s p first n:Nat) (sl:List Nat) (i:Nat):Nat:=au s p (bV s p ((n-1-i)* (first+s-2))) (hornN s p (fF s p n i) sl)
noncomputable def gY (s p first n:Nat) (ev sl:List Nat) (i:Nat):Nat:=au s p (hornN s p (fF s p n i) ev) (bE s p (jR s p first n sl i))
def jb (s p:Nat) (w P:List Nat) (f:Nat->Nat):List Nat:=(List.range w.length).map λi=>if i∈P then aT s p (w.getD i 0) (f i)else w.getD i 0
structure Ln {c s p:Nat} (h:VF c s p) (par:Nat) (a q ev sl:List Nat):Prop where
 e1:aj s ev
 e2:ev.length=par
 e3:∀j,j<par->co h ev j=conv (co h q) (co h a) j
 s1:aj s sl
 s2:sl.length=q.length-1
 s3:∀j,co h sl j=j6 (co h q) j
noncomputable def sI (s p par first:Nat) (w q ev sl:List Nat):Option (List Nat):=@ite _ (2* (q.length-1)<=par/\(dC s p w.length q).length=q.length-1/\(∀i,i∈dC s p w.length q->jR s p first w.length sl i≠0)/\∀j,j<par->fL s p first (jb s p w (dC s p w.length q) (gY s p first w.length ev sl)) j=0) (Classical.propDecidable _)
 (some (jb s p w (dC s p w.length q) (gY s p first w.length ev sl))) none
theorem fg (s p:Nat) (w P:List Nat) (f:Nat->Nat):(jb s p w P f).length=w.length:=by unfold jb;simp
theorem kR {s p:Nat} {w P:List Nat} {f:Nat->Nat} {i:Nat} (a:i<w.length):(jb s p w P f).getD i 0=if i∈P then aT s p (w.getD i 0) (f i)else w.getD i 0:=by
 unfold jb;exact aQ _ _ _ a
theorem nX {w v:List Nat} {i:Nat}:i∈bP w v↔i<w.length/\w.getD i 0≠v.getD i 0:=by
 unfold bP;rw[List.mem_filter,List.mem_range,decide_eq_true_eq]
theorem cD {a b:List Nat} (hl:a.length=b.length) (e:∀i,i<a.length->a.getD i 0=b.getD i 0):a=b:=by
 apply List.ext_getElem hl;intro i d f;have:=e i d;simpa[List.getD,d,f]using this
section
variable {c s p : Nat} (h : VF c s p)
include h
theorem pU {par first:Nat} {w:List Nat} (a:aj s w):aj s (bp s p par first w):=fW h λi _=>sK h a i
theorem te {par first:Nat} {w:List Nat} {j:Nat} (a:j<par):co h (bp s p par first w) j=aA h (fL s p first w j):=by
 unfold bp;rw[uU,if_pos a]
theorem KI {w P:List Nat} {f:Nat->Nat} (a:aj s w) (b:∀i,f i<s):aj s (jb s p w P f):=fW h λi _=>by
 split
 ·exact ja h _ _ (a i) (b i)
 ·exact a i
theorem xw {first n:Nat} {ev sl:List Nat} (i:Nat):gY s p first n ev sl i<s:=aO h _ _
theorem Ly (x:KF h):x^(s-2)=dM x:=by unfold dM;rw[Kw h]
theorem GX {par first:Nat} {w v q ev sl:List Nat} (g:aj s w) (hn:w.length<=s-1) (l:Fix s p par first w v) (d:Ln h par (bp s p par first w) q ev sl)
 (E:q.length=(bP w v).length+1) (x:∀i,co h q i=lam (fV h w.length first (err h w v) w.length) i) {i:Nat} (B:i∈bP w v):
 jR s p first w.length sl i≠0/\aT s p (w.getD i 0) (gY s p first w.length ev sl i)=v.getD i 0:=by
 have P:=h.aG;have f:=mU h hn (first:=first) (err h w v);have m:(fV h w.length first (err h w v) w.length).length=(bP w v).length:=by rw[ky,j2 h g l.lt]
 obtain⟨y,F⟩:=nX.1 B;have u:=kp h w.length i;have K:(err h w v i* loc h w.length i^first,loc h w.length i)∈fV h w.length first (err h w v) w.length:=by
  refine List.mem_map.2 ⟨i,?_,rfl⟩;rw[List.mem_filter,List.mem_range];exact⟨y,by simpa using(Bn h g l.lt i).2 F⟩
 obtain⟨a,b,r⟩:=List.append_of_mem K;obtain⟨Q,n⟩:∃Q,Q=ki (dM (loc h w.length i)) ((a++b).map (·.2)):=⟨_,rfl⟩;have G:Q≠0:=by rw[n];rw[r]at f;exact f.Bu
 have A:aA h (fF s p w.length i)=dM (loc h w.length i):=uM h hn y;have L:aA h (hornN s p (fF s p w.length i) ev)=err h w v i* loc h w.length i^first* Q:=by
  rw[p9 h (show fF s p w.length i<s from dD h _) ev (ek d.e1),A,d.e2];have e1:∀j,j<par->co h ev j=conv (lam (fV h w.length first (err h w v) w.length)) (eu (fV h w.length first (err h w v) w.length)) j:=λj C=>by
   rw[d.e3 j C];exact dK (λk _=>x k) λk S=>by rw[te h oO,qu h g l oO]
  rw[fA e1];rw[r]at f m⊢;rw[wQ f (by rw[m];have:=l.df;omega),n]
 have O:aA h (hornN s p (fF s p w.length i) sl)=-(loc h w.length i* Q):=by
  rw[p9 h (show fF s p w.length i<s from dD h _) sl (ek d.s1),A];have e1:∀j,co h sl j=j6 (lam (fV h w.length first (err h w v) w.length)) j:=λj=>by
   rw[d.s3 j];show gZ _ _=gZ _ _;rw[x]
  rw[fA λj _=>e1 j];rw[r]at f m⊢;rw[AL f (by rw[d.s2,E,m];omega),n]
 have M:aA h (bV s p ((w.length-1-i)* (first+s-2)))=loc h w.length i^first* dM (loc h w.length i):=by
  rw[jG,fk,show first+s-2=first+(s-2)from by omega,gr,Ly];rfl
 have H:hornN s p (fF s p w.length i) sl<s:=gW h _ sl (ek d.s1);have t:aA h (jR s p first w.length sl i)=-(loc h w.length i^first* Q):=by
  unfold jR;rw[dP h (dD h _) H,M,O,lR];congr 1;rw[show loc h w.length i^first* dM (loc h w.length i)* (loc h w.length i* Q)=(loc h w.length i* dM (loc h w.length i))* (loc h w.length i^first* Q)from by ac_rfl,fK u,dB]
 have J:jR s p first w.length sl i<s:=aO h _ _
 have z:jR s p first w.length sl i≠0:=λe=>by
  rw[e,aZ]at t;have:loc h w.length i^first* Q=0:=by rw[<-jZ (loc h w.length i^first* Q),<-t,r9]
  exact jA (iu u _) G this
 refine⟨z,?_⟩;have N:aA h (gY s p first w.length ev sl i)=-err h w v i:=by
  unfold gY;rw[dP h (gW h _ ev (ek d.e1)) (fq h),L];have o:=sN h J z;rw[t]at o;rw[bY,bY,<-bY (loc h w.length i^first)];rw[kI]at o;have D:loc h w.length i^first* Q* aA h (bE s p (jR s p first w.length sl i))=-1:=by rw[<-o,jZ]
  rw[D,lR,eD]
 refine fy h (ja h _ _ (g i) (xw h i)) (l.lt i) ?_;rw[jI h (g i) (xw h i),N];show co h w i+-(co h w i-co h v i)=co h v i;rw[de,gV,jZ,<-fP,kF,bO]
theorem Is {par first:Nat} {w v q ev sl:List Nat} {L:Nat} (d:aj s w) (hn:w.length<=s-1) (a:Fix s p par first w v) (hq:aj s q) (t:cG q)
 (u:iK h (co h (bp s p par first w)) par (co h q) L) (o:Ln h par (bp s p par first w) q ev sl):sI s p par first w q ev sl=some v:=by
 have m:=mU h hn (first:=first) (err h w v);have r:(fV h w.length first (err h w v) w.length).length=(bP w v).length:=by rw[ky,j2 h d a.lt]
 have x:=a.df;obtain⟨z,f⟩:=u.end h m (λj n=>by rw[te h n,qu h d a n]) (by rw[r];exact x);have k:q.length=(bP w v).length+1:=by
  rw[<-r];refine ru h hq t (λi b=>by rw[f];exact jC _ i b) ?_;rw[f];exact xj m.x0
 have l:=Ab h d hn a hq k f;have y:jb s p w (dC s p w.length q) (gY s p first w.length ev sl)=v:=by
  refine cD (by rw[fg,a.ln]) λi b=>?_;rw[fg]at b;rw[kR b,l];by_cases g:i∈bP w v
  ·rw[if_pos g];exact(GX h d hn a o k f g).2
  ·rw[if_neg g];apply Classical.byContradiction;intro e;exact g (nX.2 ⟨b,e⟩)
 unfold sI;rw[y,if_pos];refine⟨by omega,by rw[l];omega,λi b=>?_,a.cw⟩;rw[l]at b;exact(GX h d hn a o k f b).1
theorem Eu {par first:Nat} {w v q ev sl:List Nat} (d:aj s w) (a:sI s p par first w q ev sl=some v):Fix s p par first w v:=by
 unfold sI at a;split at a
 ·rename_i hc
  obtain⟨k,l,m,e⟩:=hc;injection a with a;subst a;refine⟨KI h d (xw h),fg _ _ _ _ _,e,?_⟩;have:(bP w (jb s p w (dC s p w.length q) (gY s p first w.length ev sl))).length<=(dC s p w.length q).length:=by
   refine length_le_of_subset (List.nodup_range.filter _) λi f=>?_;obtain⟨g,b⟩:=nX.1 f;apply Classical.byContradiction;intro j;rw[kR g,if_neg j]at b;exact b rfl
  omega
 ·cases a
noncomputable def xI (s p par first:Nat) (w:List Nat):Option (List Nat):=@dite _ (∃v,Fix s p par first w v) (Classical.propDecidable _) (λh=>some (Classical.choose h)) (λ_=>none)
end
end
section
open Go.RowKit
theorem lF (C S P a bl k:Nat) (w:World) (b:VF C S P) (n:k<=100000000) (d:dg w S P a bl):
 Calls Tryz.prog 152 #[fm C S a bl,.int .i64 k] w λe w'=>e= .returned (.int .i64 ((bV S P k:Nat):Int))/\Below w.heap.size w w':=by
 have l:Hid (Below w.heap.size w (w.alloc (dW C S a bl))):=(Below.refl _ _).alloc (Nat.le_refl _) _;have o:=b.le;have q:=b.aG;have f:=d.alloc (dW C S a bl);have i:k%(S-1)<S-1:=Nat.mod_lt _ oO;have j:=f.2.2.1 _ i;have g:Hid (bV S P k=fpowN S P (aw S P) (k%(S-1))):=rfl;have e1:(k:Int).tmod ((S:Int)-1)=((k%(S-1):Nat):Int):=by
  rw[show(S:Int)-1=((S-1:Nat):Int)from by omega];exact(Int.ofNat_tmod _ _).symm
 rw[<-g.out]at j;generalize k%(S-1)=m at*;generalize bV S P k=r at*;clear f d b g;go_enter Tryz.func152,Tryz.ntmps152;go_wp2;go_quiet (fail)
 go_wp2;go_ret;exact⟨rfl,bX l.out _⟩
def cE (s p:Nat) (a b:List Nat) (n i j:Nat):List Nat:=(List.range n).map (wZ s p a b i j)
theorem eo (s p:Nat) (a b:List Nat) (n i j:Nat):(cE s p a b n i j).length=n:=by unfold cE;simp
section
variable {c s p : Nat} (h : VF c s p)
include h
theorem xT (a b:List Nat) (n:Nat):cE s p a b n 0 0=List.replicate n 0:=by
 unfold cE;apply List.ext_getElem
 ·simp
 ·intro k d e;simp[rF h,jU]
theorem zh (a b:List Nat) {n i j:Nat} (f:i+j<n):
 (cE s p a b n i j).set (i+j) (aT s p ((cE s p a b n i j).getD (i+j) 0) (au s p (a.getD i 0) (b.getD j 0)))=cE s p a b n i (j+1):=by
 unfold cE;rw[aQ _ _ _ f,dN _ _ _ _ f];apply List.map_congr_left;intro k g;unfold wZ;by_cases e:k=i+j
 ·subst e;rw[if_pos rfl,if_neg oO,if_pos oO,show i+j-i=j from by omega]
 ·rw[if_neg e];by_cases d:i<=k/\k-i<j
  ·rw[if_pos d,if_pos oO]
  ·rw[if_neg d,if_neg oO]
theorem zD (a b:List Nat) (e:aj s a) {n i j:Nat} (l:j=b.length\/n<=i+j):cE s p a b n i j=cE s p a b n (i+1) 0:=by
 unfold cE;apply List.map_congr_left;intro k f;rw[List.mem_range]at f;rw[rF h];unfold wZ;show _=aT s p (jU s p (eQ s p a b k) i) (eQ s p a b k i);have hc:=p7 h (eQ s p a b k) (l7 h a b k) i;unfold eQ;by_cases d:i<=k
 ·by_cases g:k-i<j
  ·rw[if_pos ⟨d,g⟩,if_pos d]
  ·rw[if_neg oO,if_pos d];have:b.getD (k-i) 0=0:=by rw[List.getD,List.getElem?_eq_none oO];rfl
   rw[this,mM h (e i)];exact(sE h hc).symm
 ·rw[if_neg oO,if_neg d];exact(sE h hc).symm
theorem j7 (a b:List Nat) (n i j:Nat):aj s (cE s p a b n i j):=fW h λk _=>by
 unfold wZ;have hc:=p7 h (eQ s p a b k) (l7 h a b k) i;split
 ·exact ja h _ _ hc (aO h _ _)
 ·exact hc
theorem p6 {a b:List Nat} (e:aj s a) (hb:aj s b) {n m:Nat} (f:m<n):co h (cE s p a b n a.length 0) m=conv (co h a) (co h b) m:=by
 unfold cE;rw[uU,if_pos f,rF h,DE h _ (l7 h a b m),nN];have e1:∀k,dm (λk=>aA h (eQ s p a b m k)) k=dm (λk=>if k<=m then co h a k* co h b (m-k)else 0) k:=λk=>iB λk _=>Bv h e hb m k;rw[e1];have e2:dm (λk=>co h a k* co h b (m-k)) (m+1)=dm (λk=>if k<=m then co h a k* co h b (m-k)else 0) (m+1):=iB λk i=>by rw[if_pos oO]
 rw[e2];rcases Nat.le_total a.length (m+1)with hl|hl
 ·refine(qz (λk d g=>?_) hl).symm;rw[dL h a k d,bU];simp
 ·refine qz (λk d g=>?_) hl;rw[if_neg oO]
end
theorem fC.LP (w:World) (C S a bl n:Nat) (t:TypeId):fC w ((w.alloc (dW C S a bl)).alloc (.cells (madeCells #[Value.int .i64 0] n) t)) (gR C S a bl) (List.replicate n 0):=
 ⟨((Below.refl _ _).alloc (Nat.le_refl _) _).alloc oS _,(an.new _ _ _ _ rfl).alloc _,ba.made _ _ _ _ oS⟩
def pX (w:World) (v:Value):Prop:=∀a n c,v= .slice (some a) n c->w.heap.size<=a.block
theorem pX.mk {w:World} {g a n c:Nat} (h:w.heap.size<=g):pX w (.slice (some ⟨g,a,none⟩) n c):=λb d f e=>by
 injection e with e1;injection e1 with e1;rw[<-e1];exact h
theorem pX.ne {w:World} {A:Option Addr} {n c b:Nat} (h:pX w (.slice A n c)) (hb:b<w.heap.size):∀a,A=some a->a.block≠b:=λa e=>by
 subst e;have:=h a n c rfl;omega
theorem sa (C S P g bl d:Nat) (a b:List Nat) (A B:Option Addr) (n m ad al:Nat) (w:World) (o:VF C S P) (H:aj S a) (T:aj S b) (hn:n=a.length) (D:m=b.length) (bz:n<=4097) (b1:m<=4097) (b2:1<=d) (b3:d<=8193)
 (K:dg w S P g bl) (L:RD w A (zl a)) (hb:RD w B (zl b)):
 Calls Tryz.prog 200 #[fm C S g bl,.slice A n ad,.slice B m al,.int .i64 d] w λe w'=>∃v,e= .returned v/\(aq w' v (zl (cE S P a b d a.length 0))/\Below w.heap.size w w')/\pX w v:=by
 have b4:=run_make_row' (P:=Tryz.prog) 64 3 (.int .i64 0) 8 Tryz.underlying64 bZ rfl .i64 .i64 d oO oO;have E:=Lib.hid o;have a7:=Lib.hid H;have a8:=Lib.hid T;have am:=Lib.hid L;have ap:=Lib.hid hb;have av:=Lib.hid K;have a0:=Lib.hid (xT o a b d);have Y:Hid (∀i j,(cE S P a b d i j).length=d):=λi j=>eo _ _ _ _ _ _ _;have bt:Hid (∀i j:Nat,i+j<d->(cE S P a b d i j).set (i+j) (aT S P ((cE S P a b d i j).getD (i+j) 0) (au S P (a.getD i 0) (b.getD j 0)))=cE S P a b d i (j+1)):=λi j a9=>zh o a b a9;have ac:Hid (∀i j,(j=m\/d<=i+j)->cE S P a b d i j=cE S P a b d (i+1) 0):=λi j a1=>zD o a b H (by rw[<-D];exact a1);have bb:Hid (∀i j,aj S (cE S P a b d i j)):=λi j=>j7 o a b d i j;have F:=Lib.hid hn;have M:=Lib.hid D;clear o H T L hb K hn D;go_enter Tryz.func200,Tryz.ntmps200;go_wp2;go_loopw [17] (λi wr=>∃k:Nat,k<=n/\i= .int .i64 k/\Hid (fC w wr (gR C S g bl) (cE S P a b d k 0))) (λi _=>n-(intOf i).toNat)
 case atStart=>exact⟨0,Nat.zero_le _,rfl,by rw[a0.out];exact fC.LP w C S g bl d _⟩
 case round=>
  obtain⟨k,bv,rfl,t⟩:=hrel;by_cases bd:k<n
  ·obtain⟨bx,rfl,-,r⟩:=(am.out.below t.out.B) (by rw[ak,<-F.out];omega);have N:=r k (by rw[ak,<-F.out];exact bd);rw[bw]at N;have a2:Hid (a.getD k 0<S):=a7.out k;generalize U:a.getD k 0=x at*;have be:=Lib.hid U;clear U r;go_wp2;clear N;obtain⟨O,rfl⟩:∃O:World,O=wr:=⟨_,rfl⟩;go_loopw [12] (λj wr=>∃q:Nat,q<=m/\j= .int .i64 q/\Hid (fC w wr (gR C S g bl) (cE S P a b d k q))) (λj _=>m-(intOf j).toNat)
   case atStart=>exact⟨0,Nat.zero_le _,rfl,t⟩
   case round=>
    obtain⟨q,hq,rfl,f⟩:=hrel;by_cases bq:q<m
    ·by_cases bs:k+q<d
     ·obtain⟨a3,rfl,Z,r⟩:=(ap.out.below f.out.B) (by rw[ak,<-M.out];omega);have G:=r q (by rw[ak,<-M.out];exact bq);rw[bw]at G;have a4:Hid (b.getD q 0<S):=a8.out q;have ab:Hid (_=_):=bt.out k q bs;rw[be.out]at ab;have a5:Hid ((cE S P a b d k q).getD (k+q) 0<S):=bb.out k q _;have J:=f.out.O.2 (k+q) (by rw[Y.out];omega);generalize bf:b.getD q 0=y at*;generalize bi:(cE S P a b d k q).getD (k+q) 0=u at*;have z:Hid (∀W,af wr W->(W.cell? ⟨w.heap.size,0,none⟩=some (.int .i64 C)/\W.cell? ⟨w.heap.size,1,none⟩=some (.int .i64 S)/\W.cell? ⟨w.heap.size,2,none⟩=some (.slice (some ⟨g,0,none⟩) (S-1) (S-1))/\W.cell? ⟨w.heap.size,3,none⟩=some (.slice (some ⟨bl,0,none⟩) S S))/\W.cell? ⟨w.heap.size+1,k+q,none⟩=some (.int .i64 (u:Int))/\W.frozen? ⟨w.heap.size+1,k+q,none⟩=false/\W.cell? (a3.add q)=some (.int .i64 (y:Int))):=by
       show∀W,_;intro W l;exact⟨dT (f.out.X.below l),(l.cell f.out.O.1).trans J.1,(l.frozen f.out.O.1).trans J.2,(l.cell (by rw[aI];exact Z)).trans G⟩
      clear bf bi r J G Z;have b5:(0:Int)<=(k:Int)+q:=oO;have b6:(k:Int)+q<(d:Int):=oO;have b7:((k:Int)+q).toNat=k+q:=oO;have bo:IntKind.i64.wrap ((k:Int)+q)=(k:Int)+q:=aE _ oO oO;go_wp2;refine bj (S:=af wr) 20 oK oK (ai (Below.refl _ _)) ?_;simp only[List.take_succ_cons,List.take_zero,List.drop_succ_cons,List.drop_zero]
      repeat refine kO z.out ?_
      refine kX (λW l=>kH C S P g bl x y W E.out a2.out a4.out ((av.out.below f.out.B).below l)) ?_
      repeat refine kO z.out ?_
      refine kX (λW l=>oC C S P g bl u (au S P x y) W E.out a5.out (aO E.out _ _)) ?_
      repeat refine kO z.out ?_
      refine bR ?_;intro a6 V;have X:=Lib.hid V;clear V;obtain⟨-,b8,b9,-⟩:=z.out a6 X.out;go_wp2;clear bo;exact⟨⟨q+1,by omega,by go_num,by rw[<-ab.out];exact(f.out.below X.out).set _ _⟩,by simp[intOf];omega⟩
     ·go_wp2;exact⟨⟨k+1,by omega,by go_num,by rw[<-ac.out k q (.inr oO)];exact f⟩,by simp[intOf];omega⟩
    ·obtain rfl:q=m:=oO;go_wp2;exact⟨⟨k+1,by omega,by go_num,by rw[<-ac.out k q (.inl rfl)];exact f⟩,by simp[intOf];omega⟩
  ·obtain rfl:k=n:=oO;go_wp2;go_ret;refine⟨_,rfl,⟨?_,t.out.B⟩,pX.mk oO⟩;have Q:=t.out.O.ints (c:=d) (Y.out _ _).symm (Nat.le_refl _) oM;rw[F.out]at Q;exact Q
theorem rD (C S P f bl d:Nat) (a b:List Nat) (A B:Option Addr) (n m g i:Nat) (w:World) (k:VF C S P) (t:aj S a) (u:aj S b) (hn:n=a.length) (l:m=b.length) (x:n<=4097) (y:m<=4097) (z:1<=d) (D:d<=8193)
 (o:dg w S P f bl) (q:RD w A (zl a)) (hb:RD w B (zl b)):
 Calls Tryz.prog 200 #[fm C S f bl,.slice A n g,.slice B m i,.int .i64 d] w λe w'=>∃v,e= .returned v/\aq w' v (zl (cE S P a b d a.length 0))/\Below w.heap.size w w':=
 (sa C S P f bl d a b A B n m g i w k t u hn l x y z D o q hb).mono λe w' ⟨v,r,j,_⟩=>⟨v,r,j.1,j.2⟩
theorem RD.Mq {w:World} {A:Option Addr} {l:List Nat} (h:RG vN 0 w A l):RD w A (zl l):=λhn=>by
 rw[ak]at hn;obtain⟨b,e,hl,hc⟩:=h hn;exact⟨b,e,hl,λj a=>by rw[ak]at a;rw[hc j a,bw]⟩
theorem RD.Mm {w:World} {A:Option Addr} {l:List Nat} (h:RD w A (zl l)):RG vN 0 w A l:=λhn=>by
 obtain⟨a,e,hl,hc⟩:=h (by rw[ak];exact hn);exact⟨a,e,hl,λj b=>by rw[hc j (by rw[ak];exact b),bw]⟩
theorem aq.vc {w:World} {v:Value} {l:List Nat} (h:SG vN 0 w v l):aq w v (zl l):=by
 obtain⟨A,c,rfl,a,b,d⟩:=h;exact⟨A,c,by rw[ak],by rw[ak];exact a,b,RD.Mq d⟩
theorem aq.Mp {w:World} {v:Value} {l:List Nat} (h:aq w v (zl l)):SG vN 0 w v l:=by
 obtain⟨A,c,rfl,a,b,d⟩:=h;rw[ak]at a;exact⟨A,c,by rw[ak],a,b,RD.Mm d⟩
def kS (s p c:Nat) (l:List Nat) (k:Nat):List Nat:=(List.range k).map λi=>au s p ((i+1)%c) (l.getD (i+1) 0)
theorem qU (s p c:Nat) (l:List Nat) (k:Nat):(kS s p c l k).length=k:=by unfold kS;simp
theorem VF.xr {c s p:Nat} (h:VF c s p):2<=c/\c<=s:=by
 have b:=h.aG;rcases h with⟨-,a,-⟩|⟨d,a,-,-,e,f,-⟩<;>omega
theorem Ey (C S P a bl:Nat) (l:List Nat) (A:Option Addr) (n U:Nat) (w:World) (o:VF C S P) (hl:aj S l) (hn:n=l.length) (a6:n<=8193) (a7:1<=n) (z:dg w S P a bl) (B:RD w A (zl l)):
 Calls Tryz.prog 203 #[fm C S a bl,.slice A n U] w λe w'=>∃v,e= .returned v/\(aq w' v (zl (kS S P C l (n-1)))/\Below w.heap.size w w')/\pX w v:=by
 obtain⟨V,X,ap,av,a0⟩:=info_parts bZ;obtain⟨a8,a9⟩:=o.xr;have hs:=o.le;have Y:=Lib.hid o;have Z:=Lib.hid hl;have D:=Lib.hid hn;have u:Hid (Below w.heap.size w (w.alloc (dW C S a bl))):=ax _ _;have E:=Lib.hid (B.alloc (dW C S a bl));have F:=Lib.hid (z.alloc (dW C S a bl));have q:Hid (an (w.alloc (dW C S a bl)) w.heap.size (gR C S a bl)):=an.new _ _ _ _ rfl;obtain⟨m,rfl⟩:∃m,n=m+1:=⟨n-1,by omega⟩;rw[Nat.add_sub_cancel];clear o hl hn B z;go_enter Tryz.func203,Tryz.ntmps203;go_wp2;obtain⟨j,J⟩:∃j,j=w.alloc (dW C S a bl):=⟨_,rfl⟩;rw[<-J]at E F q u⊢;obtain⟨i,K⟩:∃i,i=w.heap.size:=⟨_,rfl⟩;rw[<-K]at q⊢;have L:Hid (w.heap.size<=j.heap.size):=u.out.size;clear J K;go_loopw [5,6] (λab s wr=>∃k:Nat,1<=k/\k<=m+1/\s= .int .i64 (k:Int)/\Hid (OG vN 3 j wr ab (kS S P C l (k-1)))) (λ_ s _=>m+1-(intOf s).toNat)
 case atStart=>exact⟨1,Nat.le_refl _,by omega,rfl,OG.start _ _⟩
 case round=>
  obtain⟨k,bb,a3,rfl,b⟩:=hrel;by_cases bd:k<m+1
  ·obtain⟨G,rfl,Q,M⟩:=(E.out.below b.out.B) (by rw[ak,<-D.out];omega);have t:=M k (by rw[ak,<-D.out];omega);rw[bw]at t;have ac:Hid (l.getD k 0<S):=Z.out _;have a1:Hid (kS S P C l k=kS S P C l (k-1)++[au S P (k%C) (l.getD k 0)]):=by
    show _=_;unfold kS;rw[show List.range k=List.range (k-1+1)from by rw[show k-1+1=k from by omega],List.range_succ,List.map_append];simp only[List.map_cons,List.map_nil];rw[show k-1+1=k from by omega]
   have N:Hid ((kS S P C l (k-1)).length=k-1):=qU _ _ _ _ _;have bo:(k:Int).tmod (C:Int)=((k%C:Nat):Int):=(Int.ofNat_tmod _ _).symm;have ad:Hid (k%C<S):=by
    have:=Nat.mod_lt k (show 0<C by omega);show _<_;omega
   generalize l.getD k 0=x at*;generalize k%C=r at*;have H:Hid (∀W,af wr W->(W.cell? ⟨i,0,none⟩=some (.int .i64 C)/\W.cell? ⟨i,1,none⟩=some (.int .i64 S)/\W.cell? ⟨i,2,none⟩=some (.slice (some ⟨a,0,none⟩) (S-1) (S-1))/\W.cell? ⟨i,3,none⟩=some (.slice (some ⟨bl,0,none⟩) S S))/\W.cell? (G.add k)=some (.int .i64 (x:Int))):=by
    show∀W,_;intro W p;exact⟨dT (q.out.below (aa b.out.B p)),(p.cell (by rw[aI];exact Q)).trans t⟩
   clear t M Q;have be:¬(C=0):=oO;have bf:(k:Int)<(m:Int)+1:=oO;go_wp2;refine' zT (S:=af wr) 11 oK oK rfl (λ_ _ _ h=>h) (λW=>?_) (ai (Below.refl _ _)) ?_;rotate_left
   ·go_simp;rfl
   simp only[List.take_succ_cons,List.take_zero,List.drop_succ_cons,List.drop_zero,Nat.reduceSub,Act.put,List.setIfInBounds_toArray,List.set_cons_zero,List.set_cons_succ]
   repeat refine kO H.out ?_
   refine kX (λW p=>kH C S P a bl r x W Y.out ad.out ac.out ((F.out.below b.out.B).below p)) ?_
   repeat refine kO H.out ?_
   refine bR ?_;intro al O;have y:=Lib.hid O;clear O;go_wp2_with(at_builtin;refine bg (f:=vN) (d:=0) qy rfl _ _ _ rfl j.heap.size 3 V _ 8 Tryz.underlying64 X ap av a0 rfl _ _ (kS S P C l (k-1)) rfl ((ao b.out.O y.out).alloc _) (some ⟨al.heap.size,0,none⟩) 1 1 [au S P r x] rfl rfl (RG.one _ _ _ _ rfl) (by unfold maxLen;have:=N.out;omega) (by have:=N.out;omega) (by have:=b.out.B.size;have:=y.out.size;simp;omega) ?_;intro a4 a5 T hg;have am:=Lib.hid (b.out.grow (ah y.out _) T hg);clear T hg)
   exact⟨⟨k+1,by omega,by omega,by go_num,by rw[Nat.add_sub_cancel,a1.out];exact am.out⟩,by simp[intOf];omega⟩
  ·obtain rfl:k=m+1:=oO;go_wp2;go_ret;rw[Nat.add_sub_cancel]at b;refine⟨_,rfl,⟨aq.vc b.out.sg,u.out.trans (b.out.B.mono L.out)⟩,λG n c e=>?_⟩;rcases b.out.O.2 with⟨e6,-⟩|⟨g,cap,bi,e6,a2,-⟩
   ·rw[e6]at e;injection e with e7;cases e7
   ·rw[e6]at e;injection e with e7;injection e7 with e7;rw[<-e7];exact Nat.le_trans L.out a2
def bT (s p:Nat) (a b:List Nat) (n d k:Nat):List Nat:=(List.range (max a.length (b.length+n))).map λj=>if n<=j/\j-n<k then aM s p (a.getD j 0) (au s p d (b.getD (j-n) 0))else a.getD j 0
theorem mB (s p:Nat) (a b:List Nat) (n d k:Nat):(bT s p a b n d k).length=max a.length (b.length+n):=by unfold bT;simp
theorem Ex (s p:Nat) (a b:List Nat) (n d:Nat):bT s p a b n d 0=a++List.replicate (max a.length (b.length+n)-a.length) 0:=by
 refine cD ?_ λj e=>?_
 ·rw[mB,List.length_append,List.length_replicate];omega
 ·rw[mB]at e;unfold bT;rw[aQ _ _ _ e,if_neg oO];simp only[List.getD,List.getElem?_append];split
  ·rfl
  ·rename_i f
   rw[List.getElem?_eq_none oO,List.getElem?_replicate];split<;>rfl
theorem GA (s p:Nat) (a b:List Nat) (n d:Nat) {k:Nat} (g:k<b.length):
 (bT s p a b n d k).set (k+n) (aM s p ((bT s p a b n d k).getD (k+n) 0) (au s p d (b.getD k 0)))=bT s p a b n d (k+1):=by
 unfold bT;rw[aQ _ _ _ oO,dN _ _ _ _ oO];apply List.map_congr_left;intro j i;by_cases e:j=k+n
 ·subst e;rw[if_pos rfl,if_neg oO,if_pos oO,show k+n-n=k from by omega]
 ·rw[if_neg e];by_cases f:n<=j/\j-n<k
  ·rw[if_pos f,if_pos oO]
  ·rw[if_neg f,if_neg oO]
section
variable {c s p : Nat} (h : VF c s p)
include h
theorem xg {a b:List Nat} (e:aj s a) (hb:aj s b) (n d k:Nat):aj s (bT s p a b n d k):=fW h λj _=>by
 split
 ·exact eI h (e j) (aO h _ _)
 ·exact e j
theorem K5 {a b:List Nat} (g:aj s a) (hb:aj s b) {n d:Nat} (i:d<s) (j:Nat):co h (bT s p a b n d b.length) j=pS (co h a) (co h b) n (aA h d) j:=by
 unfold bT pS;rw[uU,uZ];by_cases f:j<max a.length (b.length+n)
 ·rw[if_pos f];by_cases e:n<=j
  ·rw[if_pos e];by_cases k:j-n<b.length
   ·rw[if_pos ⟨e,k⟩,gO h (g j) (aO h _ _),dP h i (hb _)];rfl
   ·rw[if_neg oO,dL h b (j-n) oO,aV,eF];rfl
  ·rw[if_neg oO,if_neg e,aV,eF];rfl
 ·rw[if_neg f,dL h a j oO];split
  ·rw[dL h b (j-n) oO,aV,eF]
  ·rw[aV,eF]
end
theorem Gy:(Tryz.prog.info? 3).map (·.size)=some 1:=oK
theorem Fu (l:List Nat):∀v∈(zl l).map (Value.int .i64),v.oneCell'=true:=by
 intro u a;obtain⟨y,_,rfl⟩:=List.mem_map.1 a;rfl
theorem ba.of_heap {W:World} {b:Nat} {l:List Nat} {t:TypeId} (a:W.heap[b]?=some (.cells (dr l) t (0,0))):ba W b l:=by
 refine⟨ar a,λi d=>⟨?_,frozen_of_row _ _ _ _ _ a⟩⟩;rw[cell_of_row _ _ _ _ _ _ a,fj];simp[List.getD,d]
theorem mv (C S P l bl g d:Nat) (a b:List Nat) (A B:Option Addr) (n m T a4:Nat) (w:World) (G:VF C S P) (M:aj S a) (N:aj S b) (a5:d<S) (hn:n=a.length) (t:m=b.length) (b8:1<=n) (b9:n<=4097) (ca:m+g<=4097)
 (U:dg w S P l bl) (H:RD w A (zl a)) (hb:RD w B (zl b)):
 Calls Tryz.prog 198 #[fm C S l bl,.slice A n T,.slice B m a4,.int .i64 g,.int .i64 d] w λe w'=>∃v,e= .returned v/\aq w' v (zl (bT S P a b g d b.length))/\Below w.heap.size w w':=by
 obtain⟨f,V⟩:∃f,f=max n (m+g):=⟨_,rfl⟩;have cb:max (n:Int) ((m:Int)+(g:Int))=(f:Int):=oO;have ce:1<=f:=oO;have cg:f<=4097:=oO;have bf:n<=f:=oO;have ch:m+g<=f:=oO;have ci:=run_make_row' (P:=Tryz.prog) 64 3 (.int .i64 0) 8 Tryz.underlying64 bZ rfl .i64 .i64 f oO oO;have J:=Lib.hid G;have ck:=Lib.hid M;have bi:=Lib.hid N;have b5:=Lib.hid H;have a6:=Lib.hid hb;have a7:=Lib.hid U;have ad:Hid (max a.length (b.length+g)=f):=by show _=_;rw[V,hn,t]
 have a2:Hid (∀k,(bT S P a b g d k).length=f):=λk=>by rw[mB];exact ad.out
 have b4:Hid (∀k,k<m->(bT S P a b g d k).set (k+g) (aM S P ((bT S P a b g d k).getD (k+g) 0) (au S P d (b.getD k 0)))=bT S P a b g d (k+1)):=λk X=>GA S P a b g d (by rw[<-t];exact X);have bo:Hid (∀k,aj S (bT S P a b g d k)):=λk=>xg G M N g d k;have b6:=Lib.hid hn;have K:=Lib.hid t;have q:n=((zl a).map (Value.int .i64)).length:=by rw[List.length_map,ak];exact hn
 have co:=Lib.hid q;have bz:Hid ((madeCells #[Value.int .i64 0] f)=(List.replicate f (Value.int .i64 0)).toArray):=by
  show _=_;apply Array.ext';rw[toList_madeCells_one]
 have b1:Hid ((splice (List.replicate f (Value.int .i64 0)) 0 ((zl a).map (Value.int .i64))).toArray=dr (bT S P a b g d 0)):=by
  show _=_;rw[Ex,ad.out];unfold dr splice;apply congrArg;rw[List.take_zero,List.nil_append,List.map_append,<-q,<-hn,Nat.zero_add,List.drop_replicate,List.map_replicate];congr 1;unfold zl;rw[List.map_map];rfl
 obtain⟨a8,rfl,a3,al⟩:=H (by rw[ak,<-hn];omega);have O:Below w.heap.size w ((w.alloc (dW C S l bl)).alloc (.cells (madeCells #[Value.int .i64 0] f) 3)):=ah (ax _ _) _;have L:((w.alloc (dW C S l bl)).alloc (.cells (madeCells #[Value.int .i64 0] f) 3)).heap[w.heap.size+1]?=some (.cells (List.replicate f (Value.int .i64 0)).toArray 3 (0,0)):=by
  rw[<-bz.out];have:=heap_alloc_new (w.alloc (dW C S l bl)) (.cells (madeCells #[Value.int .i64 0] f) 3);simpa using this
 have E:=run_copy_row (P:=Tryz.prog) ((w.alloc (dW C S l bl)).alloc (.cells (madeCells #[Value.int .i64 0] f) 3)) 64 64 3 3 (w.heap.size+1) 0 f f a8 n T _ _ ((zl a).map (Value.int .i64)) Tryz.underlying64 Gy L (by rw[<-q];exact(Nat.min_eq_left bf).symm) (λj v Y=>by
  rw[List.getElem?_map]at Y;obtain⟨x,Z,rfl⟩:=Option.map_eq_some_iff.1 Y;have bq:=(List.getElem?_eq_some_iff.1 Z).1;rw[O.cell (by rw[aI];exact a3),al j bq]
  simp[List.getD,Z]) (by rw[<-q];simp;omega) (Fu a)
 rw[<-q]at E;have am:(List.take 0 (List.replicate f (Value.int .i64 0)).toArray.toList++(zl a).map (Value.int .i64)++List.drop (0+n) (List.replicate f (Value.int .i64 0)).toArray.toList).toArray=dr (bT S P a b g d 0):=by
  rw[<-b1.out];unfold splice;rw[<-q,List.append_assoc]
 rw[am]at E;obtain⟨z,F⟩:∃z,z=((w.alloc (dW C S l bl)).alloc (.cells (madeCells #[Value.int .i64 0] f) 3)).setRow (w.heap.size+1) (dr (bT S P a b g d 0)):=⟨_,rfl⟩;rw[<-F]at E;have bs:Hid (fC w z (gR C S l bl) (bT S P a b g d 0)):=by
  have hb:Below (w.heap.size+1) ((w.alloc (dW C S l bl)).alloc (.cells (madeCells #[Value.int .i64 0] f) 3)) z:=by rw[F];exact below_setRow (Below.refl _ _) (Nat.le_refl _) _
  refine⟨O.trans (hb.mono (Nat.le_succ _)),⟨?_,λi a9=>?_⟩,?_⟩
  ·have:=hb.size;simp at this;omega
  ·rw[hb.cell (by show w.heap.size<_;omega)];exact((an.new w _ 152 _ rfl).alloc _).2 i a9
  ·exact ba.of_heap (by rw[F];exact setRow_heap _ _ _ _ _ _ L)
 clear G M N H hb U hn t V q a3 al O L am F;go_enter Tryz.func198,Tryz.ntmps198;go_wp2;clear E;go_loopw [27] (λi wr=>∃k:Nat,k<=m/\i= .int .i64 k/\Hid (fC w wr (gR C S l bl) (bT S P a b g d k))) (λi _=>m-(intOf i).toNat)
 case atStart=>exact⟨0,Nat.zero_le _,rfl,bs.out⟩
 case round=>
  obtain⟨k,X,rfl,o⟩:=hrel;by_cases ap:k<m
  ·obtain⟨b7,rfl,b2,av⟩:=(a6.out.below o.out.B) (by rw[ak,<-K.out];omega);have ab:=av k (by rw[ak,<-K.out];exact ap);rw[bw]at ab;have bb:Hid (b.getD k 0<S):=bi.out k;have b3:Hid (_=_):=b4.out k ap;have bd:Hid ((bT S P a b g d k).getD (k+g) 0<S):=bo.out k _;have Q:=o.out.O.2 (k+g) (by rw[a2.out];omega);generalize bt:b.getD k 0=y at*;generalize bv:(bT S P a b g d k).getD (k+g) 0=u at*;have D:Hid (∀W,af wr W->(W.cell? ⟨w.heap.size,0,none⟩=some (.int .i64 C)/\W.cell? ⟨w.heap.size,1,none⟩=some (.int .i64 S)/\W.cell? ⟨w.heap.size,2,none⟩=some (.slice (some ⟨l,0,none⟩) (S-1) (S-1))/\W.cell? ⟨w.heap.size,3,none⟩=some (.slice (some ⟨bl,0,none⟩) S S))/\W.cell? ⟨w.heap.size+1,k+g,none⟩=some (.int .i64 (u:Int))/\W.frozen? ⟨w.heap.size+1,k+g,none⟩=false):=by
    show∀W,_;intro W r;exact⟨dT (o.out.X.below r),(r.cell o.out.O.1).trans Q.1,(r.frozen o.out.O.1).trans Q.2⟩
   clear bt bv av Q b2;have cp:(0:Int)<=(k:Int)+g:=oO;have cq:(k:Int)+g<(f:Int):=oO;have cr:((k:Int)+g).toNat=k+g:=oO;have bx:IntKind.i64.wrap ((k:Int)+g)=(k:Int)+g:=aE _ oO oO;go_wp2;clear ab;refine bj (S:=af wr) 17 oK oK (ai (Below.refl _ _)) ?_;simp only[List.take_succ_cons,List.take_zero,List.drop_succ_cons,List.drop_zero]
   repeat refine kO D.out ?_
   refine kX (λW r=>kH C S P l bl d y W J.out a5 bb.out ((a7.out.below o.out.B).below r)) ?_
   repeat refine kO D.out ?_
   refine kX (λW r=>Hz C S P l bl u (au S P d y) W J.out bd.out (aO J.out _ _)) ?_
   repeat refine kO D.out ?_
   refine bR ?_;intro be a0;have a1:=Lib.hid a0;clear a0;obtain⟨-,cs,cv⟩:=D.out be a1.out;go_wp2;clear bx;exact⟨⟨k+1,by omega,by go_num,by rw[<-b3.out];exact(o.out.below a1.out).set _ _⟩,by simp[intOf];omega⟩
  ·obtain rfl:k=m:=oO;go_wp2;go_ret;refine⟨_,rfl,?_,o.out.B⟩;have ac:=o.out.O.ints (c:=f) (a2.out _).symm (Nat.le_refl _) oM;rw[K.out]at ac;exact ac
abbrev cf (C S P par first:Nat):Value:= .agg #[.int .i64 C,.int .i64 S,.int .i64 P,.int .i64 par,.int .i64 first]
abbrev gG (C S P par first:Nat):List Value:=[.int .i64 C,.int .i64 S,.int .i64 P,.int .i64 par,.int .i64 first]
abbrev eT (C S P par first:Nat):Obj:= .cells #[.int .i64 C,.int .i64 S,.int .i64 P,.int .i64 par,.int .i64 first] 91
theorem lL {W:World} {b C S P par first:Nat} (h:an W b (gG C S P par first)):W.cell? ⟨b,0,none⟩=some (.int .i64 C)/\W.cell? ⟨b,1,none⟩=some (.int .i64 S)/\W.cell? ⟨b,2,none⟩=some (.int .i64 P)/\W.cell? ⟨b,3,none⟩=some (.int .i64 par)/\W.cell? ⟨b,4,none⟩=some (.int .i64 first):=
 ⟨h.2 0 oS,h.2 1 oS,h.2 2 oS,h.2 3 oS,h.2 4 oS⟩
structure qS (w wr:World) (a b:List Value) (l:List Nat):Prop where
 B:Below w.heap.size w wr
 X:an wr w.heap.size a
 Z:an wr (w.heap.size+1) b
 O:ba wr (w.heap.size+2) l
theorem qS.below {w wr W:World} {a b:List Value} {l:List Nat} (h:qS w wr a b l) (hb:Below wr.heap.size wr W):qS w W a b l:=⟨aa h.B hb,h.X.below hb,h.Z.below hb,h.O.below hb⟩
theorem qS.set {w wr:World} {a b:List Value} {l:List Nat} (h:qS w wr a b l) (i v:Nat):qS w (wr.setCell ⟨w.heap.size+2,i,none⟩ (.int .i64 (v:Int))) a b (l.set i v):=
 ⟨h.B.setCell oS _,h.X.other _ _ oS,h.Z.other _ _ oS,h.O.set i v⟩
noncomputable def iJ (s p par first:Nat) (w:List Nat) (i k:Nat):List Nat:=(List.range par).map λj=>if j<i then fL s p first w j else if j=i then eE s p (bV s p (first+i)) w k else 0
theorem qq (s p par first:Nat) (w:List Nat) (i k:Nat):(iJ s p par first w i k).length=par:=by unfold iJ;simp
theorem F0 (s p par first:Nat) (w:List Nat):iJ s p par first w 0 0=List.replicate par 0:=by
 refine cD (by rw[qq,List.length_replicate]) λj a=>?_;rw[qq]at a;unfold iJ;rw[aQ _ _ _ a,if_neg oO];have:(List.replicate par 0).getD j 0=0:=by simp[List.getD,a]
 rw[this];split<;>rfl
theorem JB (s p par first:Nat) (w:List Nat) {i:Nat} (a:i<par) (k:Nat):
 (iJ s p par first w i k).set i (aT s p (au s p ((iJ s p par first w i k).getD i 0) (bV s p (first+i))) (w.getD k 0))=iJ s p par first w i (k+1):=by
 unfold iJ;rw[aQ _ _ _ a,dN _ _ _ _ a];apply List.map_congr_left;intro j b;by_cases e:j=i
 ·subst e;rw[if_pos rfl,if_neg oO,if_pos rfl,if_neg oO,if_pos rfl];rfl
 ·rw[if_neg e,if_neg e,if_neg e]
theorem Ij (s p par first:Nat) (w:List Nat) (i:Nat):iJ s p par first w i w.length=iJ s p par first w (i+1) 0:=by
 unfold iJ;apply List.map_congr_left;intro j b;by_cases e:j=i
 ·subst e;rw[if_neg oO,if_pos rfl,if_pos oO];rfl
 ·by_cases a:j<i
  ·rw[if_pos a,if_pos oO]
  ·rw[if_neg a,if_neg e,if_neg oO];split<;>rfl
theorem Ld (s p par first:Nat) (w:List Nat):iJ s p par first w par 0=bp s p par first w:=by
 unfold iJ bp;apply List.map_congr_left;intro j a;rw[List.mem_range]at a;rw[if_pos a]
theorem L5 {c s p:Nat} (h:VF c s p) {par first:Nat} {w:List Nat} (a:aj s w) (i k:Nat):aj s (iJ s p par first w i k):=fW h λj _=>by
 split
 ·exact sK h a j
 split
 ·exact mV h a k
 ·have:=h.aG;omega
theorem yj (C S P a bl par first:Nat) (l:List Nat) (A:Option Addr) (n K:Nat) (w:World) (m:VF C S P) (hl:aj S l) (hn:n=l.length) (bv:n<=4097) (bx:1<=par) (bi:par<=4097) (bo:first<=4097) (p:dg w S P a bl) (r:RD w A (zl l)):
 Calls Tryz.prog 197 #[fm C S a bl,cf C S P par first,.slice A n K] w λe w'=>∃v,e= .returned v/\aq w' v (zl (bp S P par first l))/\Below w.heap.size w w':=by
 have bz:=run_make_row' (P:=Tryz.prog) 64 3 (.int .i64 0) 8 Tryz.underlying64 bZ rfl .i64 .i64 par oO oO;have g:=Lib.hid m;have L:=Lib.hid hl;have M:=Lib.hid r;have s:=Lib.hid p;have t:=Lib.hid hn;have J:Hid (∀i k,(iJ S P par first l i k).length=par):=λi k=>qq _ _ _ _ _ _ _;have be:Hid (∀i k,i<par->(iJ S P par first l i k).set i (aT S P (au S P ((iJ S P par first l i k).getD i 0) (bV S P (first+i))) (l.getD k 0))=iJ S P par first l i (k+1)):=λi k N=>JB S P par first l N k
 have bf:Hid (∀i,iJ S P par first l i n=iJ S P par first l (i+1) 0):=λi=>by rw[hn];exact Ij S P par first l i
 have a0:Hid (∀i k,aj S (iJ S P par first l i k)):=λi k=>L5 m hl i k;have a1:Hid (qS w (((w.alloc (dW C S a bl)).alloc (eT C S P par first)).alloc (.cells (madeCells #[Value.int .i64 0] par) 3)) (gR C S a bl) (gG C S P par first) (iJ S P par first l 0 0)):=by
  rw[F0];exact⟨ah (ah (ax _ _) _) _,((an.new _ _ _ _ rfl).alloc _).alloc _,(an.new _ _ _ _ oS).alloc _,ba.made _ _ _ _ oS⟩
 have a2:Hid (an ((w.alloc (dW C S a bl)).alloc (eT C S P par first)) (w.heap.size+1) (gG C S P par first)):=an.new _ _ _ _ oS;obtain⟨O,Q,T,U,V⟩:=lL a2.out;clear m hl r p hn;go_enter Tryz.func197,Tryz.ntmps197;go_wp2;clear O Q T U V;go_loopw [17] (λi wr=>∃k:Nat,k<=par/\i= .int .i64 k/\Hid (qS w wr (gR C S a bl) (gG C S P par first) (iJ S P par first l k 0))) (λi _=>par-(intOf i).toNat)
 case atStart=>exact⟨0,Nat.zero_le _,rfl,a1.out⟩
 case round=>
  obtain⟨k,bq,rfl,f⟩:=hrel;by_cases D:k<par
  ·obtain⟨X,Y,Z,ab⟩:=dT f.out.X;obtain⟨c0,c1,ac,ad,al⟩:=lL f.out.Z;have a3:Hid (bV S P (first+k)<S):=dD g.out _;have a4:Hid (∀W,af w W->Calls Tryz.prog 152 #[fm C S a bl,.int .i64 ((first:Int)+(k:Int))] W λe w'=>e= .returned (.int .i64 ((bV S P (first+k):Nat):Int))/\Below W.heap.size W w'):=by
    show∀W,_;intro W b;have:=lF C S P a bl (first+k) W g.out oO (s.out.below b);simpa using this
   have a9:Hid (∀q,(iJ S P par first l k q).set k (aT S P (au S P ((iJ S P par first l k q).getD k 0) (bV S P (first+k))) (l.getD q 0))=iJ S P par first l k (q+1)):=λq=>be.out k q D;generalize bV S P (first+k)=x at*;go_wp2_with(go_at_call 152;refine(a4.out _ f.out.B).mono ?_;rintro e bs ⟨rfl,E⟩;have a5:=Lib.hid (f.out.below E);clear E)
   clear X Y Z ab c0 c1 ac ad al;go_loopw [28] (λi wr=>∃q:Nat,q<=n/\i= .int .i64 q/\Hid (qS w wr (gR C S a bl) (gG C S P par first) (iJ S P par first l k q))) (λi _=>n-(intOf i).toNat)
   case atStart=>exact⟨0,Nat.zero_le _,rfl,a5.out⟩
   case round=>
    clear f;obtain⟨q,hq,rfl,d⟩:=hrel;by_cases bb:q<n
    ·obtain⟨bt,rfl,bd,F⟩:=(M.out.below d.out.B) (by rw[ak,<-t.out];omega);have z:=F q (by rw[ak,<-t.out];exact bb);rw[bw]at z;have am:Hid (l.getD q 0<S):=L.out q;have a6:Hid (_=_):=a9.out q;have ap:Hid ((iJ S P par first l k q).getD k 0<S):=a0.out k q _;have o:=d.out.O.2 k (by rw[J.out];exact D);generalize a7:l.getD q 0=y at*;generalize a8:(iJ S P par first l k q).getD k 0=u at*;have j:Hid (∀W,af wr W->(W.cell? ⟨w.heap.size,0,none⟩=some (.int .i64 C)/\W.cell? ⟨w.heap.size,1,none⟩=some (.int .i64 S)/\W.cell? ⟨w.heap.size,2,none⟩=some (.slice (some ⟨a,0,none⟩) (S-1) (S-1))/\W.cell? ⟨w.heap.size,3,none⟩=some (.slice (some ⟨bl,0,none⟩) S S))/\W.cell? ⟨w.heap.size+2,k,none⟩=some (.int .i64 (u:Int))/\W.frozen? ⟨w.heap.size+2,k,none⟩=false):=by
      show∀W,_;intro W b;exact⟨dT (d.out.X.below b),(b.cell d.out.O.1).trans o.1,(b.frozen d.out.O.1).trans o.2⟩
     clear a7 a8 F o bd;go_wp2;clear z;refine bj (S:=af wr) 13 oK oK (ai (Below.refl _ _)) ?_;simp only[List.take_succ_cons,List.take_zero,List.drop_succ_cons,List.drop_zero]
     repeat refine kO j.out ?_
     refine kX (λW b=>kH C S P a bl u x W g.out ap.out a3.out ((s.out.below d.out.B).below b)) ?_
     repeat refine kO j.out ?_
     refine kX (λW b=>oC C S P a bl (au S P u x) y W g.out (aO g.out _ _) am.out) ?_
     repeat refine kO j.out ?_
     refine bR ?_;intro av G;have H:=Lib.hid G;clear G;obtain⟨-,b1,b2⟩:=j.out av H.out;go_wp2;exact⟨⟨q+1,by omega,by go_num,by rw[<-a6.out];exact(d.out.below H.out).set _ _⟩,by simp[intOf];omega⟩
    ·obtain rfl:q=n:=oO;go_wp2;exact⟨⟨k+1,by omega,by go_num,by rw[<-bf.out];exact d⟩,by simp[intOf];omega⟩
  ·obtain rfl:k=par:=oO;go_wp2;go_ret;refine⟨_,rfl,?_,f.out.B⟩;have B:=f.out.O.ints (c:=k) (J.out _ _).symm (Nat.le_refl _) oM;rw[Ld]at B;exact B
theorem aq.nat {w:World} {v:Value} {l:List Nat} (h:aq w v (zl l)):∃A c,v= .slice A l.length c/\l.length<=c/\c<=maxLen/\RD w A (zl l):=by
 obtain⟨A,c,rfl,a,b,d⟩:=h;rw[ak]at a⊢;exact⟨A,c,rfl,a,b,d⟩
section
variable {c s p : Nat} (h : VF c s p)
include h
theorem uH {C a:List Nat} (d:aj s C) (hs:aj s a) {n k L:Nat} (e:k<=n+1) (f:cS (L+1) (co h C)) (b:L<k\/C.length<=k):aA h (jU s p (eQ s p C a n) k)=conv (co h C) (co h a) n:=by
 rw[DE h _ (l7 h C a n),nN];have e1:dm (λk=>aA h (eQ s p C a n k)) k=dm (λk=>co h C k* co h a (n-k)) k:=iB λj g=>by rw[Bv h d hs,if_pos oO]
 rw[e1];refine(qz (λj i l=>?_) e).symm;have:co h C j=0:=by
  rcases b with b|b
  ·exact f j oO
  ·exact dL h C j oO
 rw[this,bU]
structure dt (a:List Nat) (N n:Nat) (C B:List Nat) (L m b:Nat):Prop where
 I:oc h (co h a) N n (co h C) (co h B) L m (aA h b)
 hC:aj s C
 hB:aj s B
 hb:b<s
 lC:C.length<=n+1
 lB:B.length+m<=n+2
theorem dt.start (a:List Nat) (N:Nat):dt h a N 0 [1] [1] 0 1 1:=by
 have b:=h.aG;have hl:aj s [1]:=λi=>by
  match i with
  |0=>show 1<s;omega
  |i+1=>show([1]:List Nat).getD (i+1) 0<s;simp[List.getD];omega
 have e:co h [1]=ff 1:=by
  funext i;unfold co ff
  match i with
  |0=>exact ik h
  |i+1=>rw[if_neg oO];exact aZ h
 refine⟨?_,hl,hl,by omega,by simp,by simp⟩;rw[e,ik];exact oc.start h _ N
theorem dt.c1 {f:List Nat} {N n:Nat} {C B:List Nat} {L m b:Nat} (hb:dt h f N n C B L m b):1<=C.length/\C.getD 0 0≠0:=by
 have a:co h C 0=1:=hb.I.I.c0;have d:C.getD 0 0≠0:=λe=>by
  unfold co at a;rw[e,aZ]at a;exact ke a.symm
 refine⟨?_,d⟩;rcases Nat.eq_zero_or_pos C.length with e|e
 ·rw[List.eq_nil_of_length_eq_zero e]at d;exact absurd rfl d
 ·exact e
theorem dt.b0 {a:List Nat} {N n:Nat} {C B:List Nat} {L m b:Nat} (hb:dt h a N n C B L m b):b≠0:=λe=>by
 have:=hb.I.I.b0;rw[e,aZ]at this;exact this rfl
theorem dt.skip {a:List Nat} {N n:Nat} {C B:List Nat} {L m b:Nat} (hb:dt h a N n C B L m b) (d:conv (co h C) (co h a) n=0):dt h a N (n+1) C B L (m+1) b:=
 ⟨hb.I.skip h d,hb.hC,hb.hB,hb.hb,by have:=hb.lC;omega,by have:=hb.lB;omega⟩
theorem xZ {a:List Nat} {N n:Nat} {C B:List Nat} {L m b r:Nat} (hb:dt h a N n C B L m b):(bT s p C B m r B.length).length<=n+1+1:=by
 have:=hb.lC;have:=hb.lB;rw[mB];omega
theorem GB {C B:List Nat} (a:aj s C) (hB:aj s B) {m r:Nat} (b:r<s):co h (bT s p C B m r B.length)=pS (co h C) (co h B) m (aA h r):=funext λj=>K5 h a hB b j
theorem ratio {d b:Nat} (a:d<s) (hb:b<s) (e:b≠0):aA h (au s p d (bE s p b))* aA h b=aA h d:=by
 rw[dP h a (fq h),bY,bS (aA h (bE s p b)),sN h hb e,eD]
theorem dt.grow {a:List Nat} {N n:Nat} {C B:List Nat} {L m b d:Nat} (hb:dt h a N n C B L m b) (hn:n<N) (e:d<s) (j:d≠0) (f:aA h d=conv (co h C) (co h a) n) (g:2* L<=n):
 dt h a N (n+1) (bT s p C B m (au s p d (bE s p b)) B.length) C (n+1-L) 1 d:=by
 have i:au s p d (bE s p b)<s:=aO h _ _;refine⟨?_,xg h hb.hC hb.hB _ _ _,hb.hC,e,xZ h hb,by have:=hb.lC;omega⟩;rw[GB h hb.hC hb.hB i,f];exact hb.I.grow h hn (by rw[<-f];exact Fk h e j) (by rw[ratio h e hb.hb (dt.b0 h hb)];exact f) g
theorem dt.stay {a:List Nat} {N n:Nat} {C B:List Nat} {L m b d:Nat} (hb:dt h a N n C B L m b) (e:d<s) (i:aA h d=conv (co h C) (co h a) n) (f:n<2* L):
 dt h a N (n+1) (bT s p C B m (au s p d (bE s p b)) B.length) B L (m+1) b:=by
 have g:au s p d (bE s p b)<s:=aO h _ _;refine⟨?_,xg h hb.hC hb.hB _ _ _,hb.hB,hb.hb,xZ h hb,by have:=hb.lB;omega⟩;rw[GB h hb.hC hb.hB g];exact hb.I.stay h (by rw[ratio h e hb.hb (dt.b0 h hb)];exact i) f
end
theorem Bg {l:List Nat} (a:l.getD 0 0≠0):∀n,1<=n->1<=tl l n
 |n+1,_=>by
  unfold tl;split
  ·rename_i b
   match n with
   |0=>exact absurd b a
   |n+1=>exact Bg a (n+1) oO
  ·omega
def MH {C S P:Nat} (a:VF C S P) (b:List Nat) (n:Nat) (w w':World) (v:Value):Prop:=∃(q:List Nat) (L:Nat),aq w' v (zl q)/\aj S q/\cG q/\1<=q.length/\q.length<=n+1/\iK a (co a b) n (co a q) L/\Below w.heap.size w w'
theorem Ba (C S P E bl:Nat) (u:List Nat) (A:Option Addr) (n d5:Nat) (w:World) (g:VF C S P) (hl:aj S u) (hn:n=u.length) (fx:n<=4094) (cq:dg w S P E bl) (cr:RD w A (zl u)):
 Calls Tryz.prog 201 #[fm C S E bl,.slice A n d5] w λe w'=>∃v,e= .returned v/\MH g u n w w' v:=by
 have J:=Lib.hid g;have ca:=Lib.hid hl;have cs:=Lib.hid hn;have cv:=Lib.hid (cr.alloc (dW C S E bl));have av:=Lib.hid (cq.alloc (dW C S E bl));have fc:Hid (dt g u n 0 [1] [1] 0 1 1):=dt.start g u n;obtain⟨F,bb⟩:∃F,F=w.alloc (dW C S E bl):=⟨_,rfl⟩;have b3:Hid (an F w.heap.size (gR C S E bl)):=by rw[bb];exact an.new _ _ _ _ rfl
 have c7:Hid (Below w.heap.size w F):=by rw[bb];exact ax _ _
 have a3:Hid (aq ((F.alloc (.cells #[.int .i64 1] 3)).alloc (.cells #[.int .i64 1] 3)) (.slice (some ⟨w.heap.size+1,0,none⟩) 1 1) (zl [1])):=(aq.lit _ [1] 3 _ 1 (by rw[bb];simp) rfl oO).below (ax _ _);have a4:Hid (aq ((F.alloc (.cells #[.int .i64 1] 3)).alloc (.cells #[.int .i64 1] 3)) (.slice (some ⟨w.heap.size+1+1,0,none⟩) 1 1) (zl [1])):=aq.lit _ [1] 3 _ 1 (by rw[bb];simp) rfl oO;have cg:Hid (Below F.heap.size F ((F.alloc (.cells #[.int .i64 1] 3)).alloc (.cells #[.int .i64 1] 3))):=ah (ax _ _) _;rw[<-bb]at cv av;clear hl hn cr cq;go_enter Tryz.func201,Tryz.ntmps201;go_wp2;rw[<-bb];obtain⟨M,c8⟩:∃M,M=w.heap.size:=⟨_,rfl⟩;have el:Hid (w.heap.size<=F.heap.size):=c7.out.size;rw[<-c8]at b3 a3 a4⊢;clear bb c8;generalize(F.alloc (.cells #[.int .i64 1] 3)).alloc (.cells #[.int .i64 1] 3)=fo at*;go_loopw [5,6,7,8,9,19] (λd6 d7 d8 d9 ea a5 wr=>∃(k:Nat) (a f:List Nat) (L m b:Nat) (Q T:Option Addr) (c1 V:Nat),k<=n/\L<=8000/\m<=8000/\a5= .int .i64 k/\d8= .int .i64 L/\d9= .int .i64 m/\ea= .int .i64 b/\d6= .slice Q a.length c1/\d7= .slice T f.length V/\Hid (dt g u n k a f L m b)/\Hid (aq wr (.slice Q a.length c1) (zl a))/\Hid (aq wr (.slice T f.length V) (zl f))/\Hid (Below F.heap.size F wr)) (λ_ _ _ _ _ a5 _=>n-(intOf a5).toNat)
 case atStart=>exact⟨0,[1],[1],0,1,1,_,_,1,1,Nat.zero_le _,by omega,by omega,rfl,rfl,rfl,rfl,rfl,rfl,fc.out,a3.out,a4.out,cg.out⟩
 case round=>
  obtain⟨k,a,f,L,m,b,Q,T,c1,V,fr,em,en,rfl,rfl,rfl,rfl,rfl,rfl,j,bo,b7,hB⟩:=hrel;obtain⟨H,bq⟩:∃H,H=a.length:=⟨_,rfl⟩;obtain⟨a6,b8⟩:∃a6,a6=f.length:=⟨_,rfl⟩;have f6:H<=k+1:=by rw[bq];exact j.out.lC
  have f7:a6+m<=k+2:=by rw[b8];exact j.out.lB
  have bf:1<=H:=by rw[bq];exact(dt.c1 g j.out).1
  have fz:L<=k:=j.out.I.I.ln;have B:=Lib.hid bq;have U:=Lib.hid b8;rw[<-bq]at bo⊢;rw[<-b8]at b7⊢;have bs:Hid (RD wr Q (zl a)):=by
   obtain⟨cx,cy,e,-,-,cb⟩:=bo.out;injection e with e1 e2 e3;rw[e1];exact cb
  have c9:Hid (RD wr T (zl f)):=by
   obtain⟨cx,cy,e,-,-,cb⟩:=b7.out;injection e with e1 e2 e3;rw[e1];exact cb
  have dy:H<=c1/\c1<=maxLen:=by
   obtain⟨cx,cy,e,c2,ec,-⟩:=bo.out;injection e with e1 e2 e3;rw[e3];rw[<-e2]at c2;exact⟨c2,ec⟩
  have eq:=Lib.hid dy;clear bq b8 dy em en;by_cases di:k<n
  ·go_wp2;obtain⟨b4,rfl⟩:∃b4:World,b4=wr:=⟨_,rfl⟩;go_loopw [11,12] (λed a5 wr=>∃q d:Nat,q<=k+1/\q<=L+1/\q<=H/\a5= .int .i64 q/\ed= .int .i64 d/\Hid (d=jU S P (eQ S P a u k) q)/\Hid (Below b4.heap.size b4 wr)) (λ_ a5 _=>H-(intOf a5).toNat)
   case atStart=>exact⟨0,0,by omega,by omega,by omega,rfl,rfl,rfl,Below.refl _ _⟩
   case round=>
    obtain⟨q,d,hq,f0,f1,rfl,rfl,be,G⟩:=hrel;have a1:Hid (d<S):=by show _<_;rw[be.out];exact p7 J.out _ (l7 J.out a u k) q
    by_cases b9:q<=L/\q<H
    ·obtain⟨f8,fd⟩:=b9;obtain⟨x,a7⟩:∃x,x=a.getD q 0:=⟨_,rfl⟩;obtain⟨y,b5⟩:∃y,y=u.getD (k-q) 0:=⟨_,rfl⟩;have ef:Hid (x<S):=by show _<_;rw[a7];exact j.out.hC q
     have eh:Hid (y<S):=by show _<_;rw[b5];exact ca.out _
     have er:Hid (aT S P d (au S P x y)=jU S P (eQ S P a u k) (q+1)):=by
      show _=aT S P (jU S P (eQ S P a u k) q) (eQ S P a u k q);rw[<-be.out];unfold eQ;rw[if_pos oO,a7,b5]
     obtain⟨es,rfl,d3,d0⟩:=(bs.out.below G.out) (by rw[ak,<-B.out];omega);obtain⟨et,rfl,d4,d1⟩:=((cv.out.below hB.out).below G.out) (by rw[ak,<-cs.out];omega);have N:Hid (∀W,af wr W->(W.cell? ⟨M,0,none⟩=some (.int .i64 C)/\W.cell? ⟨M,1,none⟩=some (.int .i64 S)/\W.cell? ⟨M,2,none⟩=some (.slice (some ⟨E,0,none⟩) (S-1) (S-1))/\W.cell? ⟨M,3,none⟩=some (.slice (some ⟨bl,0,none⟩) S S))/\W.cell? (es.add q)=some (.int .i64 (x:Int))/\W.cell? (et.add (k-q))=some (.int .i64 (y:Int))):=by
      show∀W,_;intro W a0;refine⟨dT (((b3.out.below hB.out).below G.out).below a0),?_,?_⟩
      ·rw[a0.cell (by rw[aI];exact d3),d0 q (by rw[ak,<-B.out];exact fd),bw,a7]
      ·rw[a0.cell (by rw[aI];exact d4),d1 (k-q) (by rw[ak,<-cs.out];omega),bw,b5]
     obtain⟨z,c3⟩:∃z,z=k-q:=⟨_,rfl⟩;rw[<-c3]at N;have f2:IntKind.i64.wrap ((k:Int)-q)=(z:Int):=by rw[aE _ oO oO];omega
     have ew:z<n:=oO;clear a7 b5 c3 d3 d4 d0 d1;go_wp2;refine bj (S:=af wr) 15 oK oK (ai (Below.refl _ _)) ?_;simp only[List.take_succ_cons,List.take_zero,List.drop_succ_cons,List.drop_zero]
     repeat refine kO N.out ?_
     refine kX (λW a0=>kH C S P E bl x y W J.out ef.out eh.out (((av.out.below hB.out).below G.out).below a0)) ?_
     repeat refine kO N.out ?_
     refine kX (λW a0=>oC C S P E bl d (au S P x y) W J.out a1.out (aO J.out _ _)) ?_
     repeat refine kO N.out ?_
     refine bR ?_;intro fv dl;have cg:=Lib.hid dl;clear dl;go_wp2;exact⟨⟨q+1,_,by omega,by omega,by omega,by go_num,rfl,er.out,aa G.out cg.out⟩,by simp[intOf];omega⟩
    ·by_cases ex:q<=L
     ·have f3:¬q<H:=λh=>b9 ⟨ex,h⟩;clear b9;have O:Hid (aA g d=conv (co g a) (co g u) k):=by
       show _=_;rw[be.out];refine uH g j.out.hC ca.out hq j.out.I.I.cs ?_;rw[<-B.out];omega
      have D:Hid (Below F.heap.size F wr):=hB.out.trans (G.out.mono hB.out.size);have a3:=Lib.hid (bo.out.below G.out);have a4:=Lib.hid (b7.out.below G.out);have b1:=Lib.hid (bs.out.below G.out);have b2:=Lib.hid (c9.out.below G.out);clear be G;by_cases bt:d=0
      ·subst bt;have ac:Hid (dt g u n (k+1) a f L (m+1) b):=dt.skip g j.out (by rw[<-O.out,aZ]);clear O;go_wp2;exact⟨⟨k+1,a,f,L,m+1,b,Q,T,c1,V,by omega,by omega,by omega,by go_num,rfl,by go_num,rfl,by rw[B.out],by rw[U.out],ac.out,by rw[<-B.out];exact a3.out,by rw[<-U.out];exact a4.out,D.out⟩,by simp[intOf];omega⟩
      ·have c4:((d:Int)==0)=false:=by rw[beq_eq_false_iff_ne];omega
       obtain⟨r,a8⟩:∃r,r=au S P d (bE S P b):=⟨_,rfl⟩;have bi:Hid (r<S):=by show _<_;rw[a8];exact aO J.out _ _
       have a2:=Lib.hid a8;have bv:b≠0:=dt.b0 g j.out;have bx:Hid (b<S):=j.out.hb;have N:Hid (∀W,af wr W->(W.cell? ⟨M,0,none⟩=some (.int .i64 C)/\W.cell? ⟨M,1,none⟩=some (.int .i64 S)/\W.cell? ⟨M,2,none⟩=some (.slice (some ⟨E,0,none⟩) (S-1) (S-1))/\W.cell? ⟨M,3,none⟩=some (.slice (some ⟨bl,0,none⟩) S S))):=by
        show∀W,_;intro W a0;exact dT ((b3.out.below D.out).below a0)
       clear a8;by_cases ch:2* L<=k
       ·obtain⟨X,bz⟩:∃X,X=k+1-L:=⟨_,rfl⟩;have ey:(k:Int)+1-(L:Int)=(X:Int):=oO;have ac:Hid (dt g u n (k+1) (bT S P a f m r f.length) a X 1 d):=by
         show dt _ _ _ _ _ _ _ _ _;rw[bz,a2.out];exact dt.grow g j.out di a1.out bt O.out ch
        have ce:decide (2* (L:Int)<=(k:Int))=true:=by simp;omega
        clear O bz;go_wp2;refine yO (af wr) [1,2,3,4,5,6,7,0,8,9,0,10] (ai (Below.refl _ _)) ?_
        repeat refine zO N.out ?_
        refine zZ ?_;refine(oq C S P E bl d b _ J.out a1.out bx.out bv (((av.out.below D.out)).below (ai (Below.refl _ _)))).mono ?_;rintro e Y ⟨rfl,ad⟩;rw[<-a2.out];have t:Hid (af wr Y):=(ai (Below.refl _ _)).trans ad;clear ad;refine⟨_,rfl,t.out,jO ?_⟩;refine zZ ?_;refine(mv C S P E bl m r a f Q T H a6 c1 V Y J.out j.out.hC j.out.hB bi.out B.out U.out bf oO oO ((av.out.below D.out).below t.out) (b1.out.below t.out) (b2.out.below t.out)).mono ?_;rintro e Z ⟨v4,rfl,al,am⟩
        obtain⟨l,o,rfl,ap⟩:∃l o,v4= .slice l (bT S P a f m r f.length).length o/\aq Z (.slice l (bT S P a f m r f.length).length o) (zl (bT S P a f m r f.length)):=by
         have ab:=al;obtain⟨l,o,e,-⟩:=aq.nat ab;exact⟨l,o,e,by rw[<-e];exact ab⟩
        have K:Hid (af wr Z):=aa t.out am;have bd:=Lib.hid ap;clear am al ap;generalize bT S P a f m r f.length=a9 at*;refine⟨_,rfl,K.out,jO ?_⟩
        repeat refine zO N.out ?_
        refine ag ?_;go_wp2;exact⟨⟨k+1,a9,a,X,1,d,l,Q,o,c1,by omega,by omega,by omega,by go_num,by go_num,rfl,rfl,rfl,by rw[B.out],ac.out,bd.out,by rw[<-B.out];exact a3.out.below K.out,D.out.trans (K.out.mono D.out.size)⟩,by simp[intOf];omega⟩
       ·have ac:Hid (dt g u n (k+1) (bT S P a f m r f.length) f L (m+1) b):=by
         show dt _ _ _ _ _ _ _ _ _;rw[a2.out];exact dt.stay g j.out a1.out O.out oO
        have ce:decide (2* (L:Int)<=(k:Int))=false:=by simp;omega
        clear O;go_wp2;refine yO (af wr) [1,2,3,4,5,6,7,0,8,9,0,10] (ai (Below.refl _ _)) ?_
        repeat refine zO N.out ?_
        refine zZ ?_;refine(oq C S P E bl d b _ J.out a1.out bx.out bv (((av.out.below D.out)).below (ai (Below.refl _ _)))).mono ?_;rintro e Y ⟨rfl,ad⟩;rw[<-a2.out];have t:Hid (af wr Y):=(ai (Below.refl _ _)).trans ad;clear ad;refine⟨_,rfl,t.out,jO ?_⟩;refine zZ ?_;refine(mv C S P E bl m r a f Q T H a6 c1 V Y J.out j.out.hC j.out.hB bi.out B.out U.out bf oO oO ((av.out.below D.out).below t.out) (b1.out.below t.out) (b2.out.below t.out)).mono ?_;rintro e Z ⟨v4,rfl,al,am⟩
        obtain⟨l,o,rfl,ap⟩:∃l o,v4= .slice l (bT S P a f m r f.length).length o/\aq Z (.slice l (bT S P a f m r f.length).length o) (zl (bT S P a f m r f.length)):=by
         have ab:=al;obtain⟨l,o,e,-⟩:=aq.nat ab;exact⟨l,o,e,by rw[<-e];exact ab⟩
        have K:Hid (af wr Z):=aa t.out am;have bd:=Lib.hid ap;clear am al ap;generalize bT S P a f m r f.length=a9 at*;refine⟨_,rfl,K.out,jO ?_⟩
        repeat refine zO N.out ?_
        refine ag ?_;go_wp2;exact⟨⟨k+1,a9,f,L,m+1,b,l,T,o,V,by omega,by omega,by omega,by go_num,rfl,by go_num,rfl,rfl,by rw[U.out],ac.out,bd.out,by rw[<-U.out];exact a4.out.below K.out,D.out.trans (K.out.mono D.out.size)⟩,by simp[intOf];omega⟩
     ·clear b9;have O:Hid (aA g d=conv (co g a) (co g u) k):=by
       show _=_;rw[be.out];refine uH g j.out.hC ca.out hq j.out.I.I.cs ?_;rw[<-B.out];omega
      have D:Hid (Below F.heap.size F wr):=hB.out.trans (G.out.mono hB.out.size);have a3:=Lib.hid (bo.out.below G.out);have a4:=Lib.hid (b7.out.below G.out);have b1:=Lib.hid (bs.out.below G.out);have b2:=Lib.hid (c9.out.below G.out);clear be G;by_cases bt:d=0
      ·subst bt;have ac:Hid (dt g u n (k+1) a f L (m+1) b):=dt.skip g j.out (by rw[<-O.out,aZ]);clear O;go_wp2;exact⟨⟨k+1,a,f,L,m+1,b,Q,T,c1,V,by omega,by omega,by omega,by go_num,rfl,by go_num,rfl,by rw[B.out],by rw[U.out],ac.out,by rw[<-B.out];exact a3.out,by rw[<-U.out];exact a4.out,D.out⟩,by simp[intOf];omega⟩
      ·have c4:((d:Int)==0)=false:=by rw[beq_eq_false_iff_ne];omega
       obtain⟨r,a8⟩:∃r,r=au S P d (bE S P b):=⟨_,rfl⟩;have bi:Hid (r<S):=by show _<_;rw[a8];exact aO J.out _ _
       have a2:=Lib.hid a8;have bv:b≠0:=dt.b0 g j.out;have bx:Hid (b<S):=j.out.hb;have N:Hid (∀W,af wr W->(W.cell? ⟨M,0,none⟩=some (.int .i64 C)/\W.cell? ⟨M,1,none⟩=some (.int .i64 S)/\W.cell? ⟨M,2,none⟩=some (.slice (some ⟨E,0,none⟩) (S-1) (S-1))/\W.cell? ⟨M,3,none⟩=some (.slice (some ⟨bl,0,none⟩) S S))):=by
        show∀W,_;intro W a0;exact dT ((b3.out.below D.out).below a0)
       clear a8;by_cases ch:2* L<=k
       ·obtain⟨X,bz⟩:∃X,X=k+1-L:=⟨_,rfl⟩;have ey:(k:Int)+1-(L:Int)=(X:Int):=oO;have ac:Hid (dt g u n (k+1) (bT S P a f m r f.length) a X 1 d):=by
         show dt _ _ _ _ _ _ _ _ _;rw[bz,a2.out];exact dt.grow g j.out di a1.out bt O.out ch
        have ce:decide (2* (L:Int)<=(k:Int))=true:=by simp;omega
        clear O bz;go_wp2;refine yO (af wr) [1,2,3,4,5,6,7,0,8,9,0,10] (ai (Below.refl _ _)) ?_
        repeat refine zO N.out ?_
        refine zZ ?_;refine(oq C S P E bl d b _ J.out a1.out bx.out bv (((av.out.below D.out)).below (ai (Below.refl _ _)))).mono ?_;rintro e Y ⟨rfl,ad⟩;rw[<-a2.out];have t:Hid (af wr Y):=(ai (Below.refl _ _)).trans ad;clear ad;refine⟨_,rfl,t.out,jO ?_⟩;refine zZ ?_;refine(mv C S P E bl m r a f Q T H a6 c1 V Y J.out j.out.hC j.out.hB bi.out B.out U.out bf oO oO ((av.out.below D.out).below t.out) (b1.out.below t.out) (b2.out.below t.out)).mono ?_;rintro e Z ⟨v4,rfl,al,am⟩
        obtain⟨l,o,rfl,ap⟩:∃l o,v4= .slice l (bT S P a f m r f.length).length o/\aq Z (.slice l (bT S P a f m r f.length).length o) (zl (bT S P a f m r f.length)):=by
         have ab:=al;obtain⟨l,o,e,-⟩:=aq.nat ab;exact⟨l,o,e,by rw[<-e];exact ab⟩
        have K:Hid (af wr Z):=aa t.out am;have bd:=Lib.hid ap;clear am al ap;generalize bT S P a f m r f.length=a9 at*;refine⟨_,rfl,K.out,jO ?_⟩
        repeat refine zO N.out ?_
        refine ag ?_;go_wp2;exact⟨⟨k+1,a9,a,X,1,d,l,Q,o,c1,by omega,by omega,by omega,by go_num,by go_num,rfl,rfl,rfl,by rw[B.out],ac.out,bd.out,by rw[<-B.out];exact a3.out.below K.out,D.out.trans (K.out.mono D.out.size)⟩,by simp[intOf];omega⟩
       ·have ac:Hid (dt g u n (k+1) (bT S P a f m r f.length) f L (m+1) b):=by
         show dt _ _ _ _ _ _ _ _ _;rw[a2.out];exact dt.stay g j.out a1.out O.out oO
        have ce:decide (2* (L:Int)<=(k:Int))=false:=by simp;omega
        clear O;go_wp2;refine yO (af wr) [1,2,3,4,5,6,7,0,8,9,0,10] (ai (Below.refl _ _)) ?_
        repeat refine zO N.out ?_
        refine zZ ?_;refine(oq C S P E bl d b _ J.out a1.out bx.out bv (((av.out.below D.out)).below (ai (Below.refl _ _)))).mono ?_;rintro e Y ⟨rfl,ad⟩;rw[<-a2.out];have t:Hid (af wr Y):=(ai (Below.refl _ _)).trans ad;clear ad;refine⟨_,rfl,t.out,jO ?_⟩;refine zZ ?_;refine(mv C S P E bl m r a f Q T H a6 c1 V Y J.out j.out.hC j.out.hB bi.out B.out U.out bf oO oO ((av.out.below D.out).below t.out) (b1.out.below t.out) (b2.out.below t.out)).mono ?_;rintro e Z ⟨v4,rfl,al,am⟩
        obtain⟨l,o,rfl,ap⟩:∃l o,v4= .slice l (bT S P a f m r f.length).length o/\aq Z (.slice l (bT S P a f m r f.length).length o) (zl (bT S P a f m r f.length)):=by
         have ab:=al;obtain⟨l,o,e,-⟩:=aq.nat ab;exact⟨l,o,e,by rw[<-e];exact ab⟩
        have K:Hid (af wr Z):=aa t.out am;have bd:=Lib.hid ap;clear am al ap;generalize bT S P a f m r f.length=a9 at*;refine⟨_,rfl,K.out,jO ?_⟩
        repeat refine zO N.out ?_
        refine ag ?_;go_wp2;exact⟨⟨k+1,a9,f,L,m+1,b,l,T,o,V,by omega,by omega,by omega,by go_num,rfl,by go_num,rfl,rfl,by rw[U.out],ac.out,bd.out,by rw[<-U.out];exact a4.out.below K.out,D.out.trans (K.out.mono D.out.size)⟩,by simp[intOf];omega⟩
  ·obtain rfl:k=n:=oO;obtain⟨f9,d2⟩:=eq.out;have ez:Hid (a.getD 0 0≠0):=(dt.c1 g j.out).2;have cp:Hid (1<=tl a a.length):=Bg ez.out _ (by rw[<-B.out];exact bf);go_wp2;go_loop [14] (λev=>∃e:Nat,1<=e/\e<=H/\ev= .int .i64 e/\Hid (tl a e=tl a a.length)) (λev=>(intOf ev).toNat)
   case atStart=>exact⟨H,bf,Nat.le_refl _,rfl,by show _=_;rw[B.out]⟩
   case round=>
    obtain⟨e,f4,fw,rfl,b6⟩:=hrel;obtain⟨z,rfl⟩:∃z,e=z+1:=⟨e-1,by omega⟩;obtain⟨c5,rfl,ga,ds⟩:=bs.out (by rw[ak,<-B.out];omega);have a7:=ds z (by rw[ak,<-B.out];omega);rw[bw]at a7;obtain⟨x,ci⟩:∃x,x=a.getD z 0:=⟨_,rfl⟩;rw[<-ci]at a7;have dv:=Lib.hid ci;have f5:((z+1:Nat):Int)-1=(z:Int):=oO;have ew:z<H:=oO;clear ds ci;by_cases ck:x=0
    ·subst ck;have dx:Hid (tl a z=tl a a.length):=by
      have h:=b6.out;have e1:tl a (z+1)=if a.getD z 0=0 then tl a z else z+1:=rfl
      rw[e1,if_pos dv.out.symm]at h;exact h
     have e0:1<=z:=by
      rcases Nat.eq_zero_or_pos z with h|h
      ·subst h;have:=dx.out;rw[<-this]at cp;exact absurd cp.out (by show¬1<=0;omega)
      ·exact h
     clear b6;go_wp2;exact⟨⟨z,e0,by omega,by go_num,dx.out⟩,by simp[intOf]⟩
    ·have c4:((x:Int)==0)=false:=by rw[beq_eq_false_iff_ne];omega
     have c6:Hid (tl a a.length=z+1):=by
      show _=_;have e1:tl a (z+1)=if a.getD z 0=0 then tl a z else z+1:=rfl
      rw[<-b6.out,e1,if_neg (by rw[<-dv.out];exact ck)]
     have e9:Hid (dJ a=a.take (z+1)):=by show _=_;unfold dJ;rw[c6.out]
     have fn:Hid (aq wr (.slice (some c5) (z+1) c1) (zl (dJ a))):=by
      show aq _ _ _;rw[e9.out];have hl:(zl (a.take (z+1))).length=z+1:=by rw[ak,List.length_take,<-B.out];omega
      refine⟨some c5,c1,by rw[hl],by rw[hl];omega,d2,?_⟩;have:=bs.out.take (z+1);rwa[show(zl a).take (z+1)=zl (a.take (z+1))from by unfold zl;rw[List.map_take]]at this
     clear b6 ck d2;go_wp2;go_ret;refine⟨_,rfl,dJ a,L,fn.out,jl j.out.hC,kz _,?_,?_,?_,c7.out.trans (hB.out.mono el.out)⟩
     ·rw[iZ];exact cp.out
     ·rw[iZ,c6.out];omega
     ·have fb:co g (dJ a)=co g a:=funext λi=>pQ g a i;rw[fb];exact j.out.I.LB g
end
end Go.Proofs.YtmnlkganmgcpbaaGreatDoor
