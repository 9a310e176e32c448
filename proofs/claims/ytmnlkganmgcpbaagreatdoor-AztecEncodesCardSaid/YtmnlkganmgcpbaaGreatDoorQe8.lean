import Derived.Test.YtmnlkganmgcpbaaGreatDoorQe7
set_option maxRecDepth 100000
set_option maxHeartbeats 4000000
set_option linter.unusedVariables false
set_option linter.unusedSectionVars false
set_option linter.unusedSimpArgs false
namespace Go.Proofs.YtmnlkganmgcpbaaGreatDoor
section
open Go.RowKit Go.WideMaps Go.Maps
abbrev oe (num a m j:Nat):an:=⟨num,-1,j,true,aj m+16+8* j,a+j,m⟩
abbrev mT (num a m j:Nat):an:=⟨num,-1,j,false,aj m+5+8* j,a+j,m⟩
section
variable {C : Nat → Nat → Nat} {num a m K : Nat}
theorem Cu {best:an} {n sz:Nat} {lg:Bool}:(cH C num a m best n sz lg=⟨num,-1,n,lg,sz+8* n,a+n,m⟩/\(best.run=0\/an.aG C ⟨num,-1,n,lg,sz+8* n,a+n,m⟩<best.aG C))\/(cH C num a m best n sz lg=best/\best.run≠0/\best.aG C<=an.aG C ⟨num,-1,n,lg,sz+8* n,a+n,m⟩):=by
 unfold cH;split
 ·exact .inl ⟨rfl,by assumption⟩
 ·rename_i h
  exact .inr ⟨rfl,λe=>h (.inl e),by
   rcases Nat.lt_or_ge (an.aG C ⟨num,-1,n,lg,sz+8* n,a+n,m⟩) (best.aG C)with b|b
   ·exact absurd (.inr b) h
   ·exact b⟩
theorem jH:∀k,1<=k->(cJ C num a m k).long=true/\(cJ C num a m k).run<31+k/\0<(cJ C num a m k).run/\∀j,j<k->(oe num a m (31+j)).aG C=(cJ C num a m k).aG C->(cJ C num a m k).run<=31+j
 |0,h=>by omega
 |k+1,_=>by
  rcases Cu (C:=C) (num:=num) (a:=a) (m:=m) (best:=cJ C num a m k) (n:=31+k) (sz:=aj m+16) (lg:=true)with⟨e,h⟩|⟨e,f,t⟩
  ·have b:cJ C num a m (k+1)=oe num a m (31+k):=e;rw[b];refine⟨rfl,by show 31+k<31+(k+1);omega,by show 0<31+k;omega,λj g c=>?_⟩;by_cases d:j=k
   ·subst d;exact Nat.le_refl _
   ·exfalso;have i:=pt (C:=C) (num:=num) (at_:=a) (m:=m) k (31+j) oO oO;have l:(cJ C num a m k).run≠0:=by have:=(jH k oO).2.2.1;omega
    rcases h with h|h
    ·exact l h
    ·have u:(oe num a m (31+k)).aG C<(cJ C num a m k).aG C:=h;have v:(cJ C num a m k).aG C<=(oe num a m (31+j)).aG C:=i;omega
  ·have b:cJ C num a m (k+1)=cJ C num a m k:=e;rw[b];have p:1<=k:=by
    cases k with
    |zero=>exact absurd rfl f
    |succ k=>omega
   obtain⟨q,w,r,s⟩:=jH k p;refine⟨q,by omega,r,λj g c=>?_⟩;by_cases d:j=k
   ·omega
   ·exact s j oO c
theorem sy:∀k,1<=k\/1<=K->(bO C num a m K k).run≠0
 |0,h=>by
  have:=(jH (C:=C) (num:=num) (a:=a) (m:=m) K oO).2.2.1;show(cJ C num a m K).run≠0;omega
 |k+1,_=>jZ oO
theorem jb:∀k,(∀j,j<K->(oe num a m (31+j)).aG C=(bO C num a m K k).aG C->(bO C num a m K k).long=true/\(bO C num a m K k).run<=31+j)/\
 (∀j,1<=j->j<=k->(mT num a m j).aG C=(bO C num a m K k).aG C->(bO C num a m K k).long=true\/(bO C num a m K k).run<=j)/\((bO C num a m K k).long=true\/(bO C num a m K k).run<=k)
 |0=>by
  refine⟨λj i c=>?_,λj f l=>by omega,?_⟩
  ·have h:=jH (C:=C) (num:=num) (a:=a) (m:=m) K oO;exact⟨h.1,h.2.2.2 j i c⟩
  ·by_cases p:1<=K
   ·exact .inl (jH K p).1
   ·have:K=0:=oO;subst this;exact .inr (Nat.le_refl _)
 |k+1=>by
  obtain⟨q,r,b⟩:=jb k;rcases Cu (C:=C) (num:=num) (a:=a) (m:=m) (best:=bO C num a m K k) (n:=1+k) (sz:=aj m+5) (lg:=false)with⟨e,h⟩|⟨e,f,l⟩
  ·have g:bO C num a m K (k+1)=mT num a m (1+k):=e;rw[g];refine⟨λj i c=>?_,λj f l c=>?_,.inr (by show 1+k<=k+1;omega)⟩
   ·exfalso;have d:=sy (C:=C) (num:=num) (a:=a) (m:=m) (K:=K) k oO;rcases h with h|h
    ·exact d h
    ·have s:(mT num a m (1+k)).aG C<(bO C num a m K k).aG C:=h;have t:=(mD (C:=C) (num:=num) (at_:=a) (m:=m) (K:=K) oO k).1;have w:(cJ C num a m K).aG C<=(oe num a m (31+j)).aG C:=pt K (31+j) oO oO;omega
   ·by_cases v:j=k+1
    ·exact .inr (by show 1+k<=j;omega)
    ·exfalso;have d:=sy (C:=C) (num:=num) (a:=a) (m:=m) (K:=K) k oO;rcases h with h|h
     ·exact d h
     ·have s:(mT num a m (1+k)).aG C<(bO C num a m K k).aG C:=h;have t:(bO C num a m K k).aG C<=(mT num a m j).aG C:=nQ k j f oO;omega
  ·have g:bO C num a m K (k+1)=bO C num a m K k:=e;rw[g];refine⟨q,λj u d c=>?_,?_⟩
   ·by_cases v:j=k+1
    ·rcases b with b|b
     ·exact .inl b
     ·exact .inr oO
    ·exact r j u oO c
   ·rcases b with b|b
    ·exact .inl b
    ·exact .inr oO
end
def jI (x y:List Bool):Prop:=∃i,i<x.length/\i<y.length/\(∀j,j<i->x.getD j false=y.getD j false)/\x.getD i false=false/\y.getD i false=true
theorem j2 {x r:List Bool} {i:Nat} (h:i<x.length):(x++r).getD i false=x.getD i false:=by simp only[List.getD,List.getElem?_append_left h]
theorem mB {x r:List Bool} {i:Nat}:(x++r).getD (x.length+i) false=r.getD i false:=by
 simp only[List.getD];rw[List.getElem?_append_right oO,Nat.add_sub_cancel_left]
theorem jI.app {x y:List Bool} (h:jI x y) (r b:List Bool):jI (x++r) (y++b):=by
 obtain⟨i,c,d,e,f,g⟩:=h;refine⟨i,by rw[List.length_append];omega,by rw[List.length_append];omega,λj l=>?_,?_,?_⟩
 ·rw[j2 oO,j2 oO];exact e j l
 ·rw[j2 c];exact f
 ·rw[j2 d];exact g
theorem jI.pre {x y:List Bool} (h:jI x y) (z:List Bool):jI (z++x) (z++y):=by
 obtain⟨i,f,g,c,d,e⟩:=h;refine⟨z.length+i,by rw[List.length_append];omega,by rw[List.length_append];omega,λj l=>?_,?_,?_⟩
 ·by_cases b:j<z.length
  ·rw[j2 b,j2 b]
  ·obtain⟨q,rfl⟩:∃q,j=z.length+q:=⟨j-z.length,by omega⟩;rw[mB,mB];exact c q oO
 ·rw[mB];exact d
 ·rw[mB];exact e
theorem lz:∀(j u v:Nat),u<v->v<2^j->jI (aH u j) (aH v j)
 |0,u,v,h,b=>by
  have:v<1:=by simpa using b
  omega
 |j+1,u,v,h,b=>by
  have e:u=2* (u/2)+u%2:=oO;have ev:v=2* (v/2)+v%2:=oO;have c:=nL (u/2) (u%2) j oO;have d:=nL (v/2) (v%2) j oO;rw[<-e]at c;rw[<-ev]at d;rw[c,d];rw[Nat.pow_succ]at b;by_cases hq:u/2<v/2
  ·exact(lz j _ _ hq oO).app _ _
  ·have e1:u/2=v/2:=oO;have e2:u%2=0:=oO;have e3:v%2=1:=oO;rw[e1,e2,e3];refine jI.pre ?_ _;exact⟨0,by simp,by simp,λj f=>by omega,rfl,rfl⟩
theorem qW {C:Nat->Nat->Nat} {p:ByteArray} {a m:Nat} {q:an->Bool} {c:an}:∀k,(bF C p a m k).find? q=some c->∃n,n<k/\(bC C p a m n).find? q=some c/\∀d,d<n->∀f∈bC C p a m d,q f=false
 |0,h=>by cases h
 |k+1,h=>by
  unfold bF at h;rw[List.find?_append]at h;cases b:(bF C p a m k).find? q with
  |some x=>
   rw[b]at h;have e:x=c:=by simpa using h
   subst e;obtain⟨n,r,g,i⟩:=qW k b;exact⟨n,by omega,g,i⟩
  |none=>
   rw[b]at h;refine⟨k,by omega,by simpa using h,λd j f l=>?_⟩;rw[List.find?_eq_none]at b;simpa using b f (jV l k j)
theorem p7 {p:ByteArray} {a m n md:Nat} {q:an->Bool} {c:an}:∀k,(optSK p a m n md k).find? q=some c->∃s,s<k/\(eW p a m n md s).find? q=some c/\∀f,f<s->∀d∈eW p a m n md f,q d=false
 |0,h=>by cases h
 |k+1,h=>by
  unfold optSK at h;rw[List.find?_append]at h;cases b:(optSK p a m n md k).find? q with
  |some x=>
   rw[b]at h;have e:x=c:=by simpa using h
   subst e;obtain⟨s,r,g,i⟩:=p7 k b;exact⟨s,by omega,g,i⟩
  |none=>
   rw[b]at h;refine⟨k,by omega,by simpa using h,λt j d l=>?_⟩;rw[List.find?_eq_none]at b;simpa using b d (nN l k j)
theorem zr {C:Nat->Nat->Nat} {p:ByteArray} {a m n:Nat} (d:a<p.size) {o:an} (b:o∈bC C p a m n):o.num=n:=by
 unfold bC at b;split at b
 ·split at b
  ·rw[List.mem_singleton]at b;subst b;rfl
  ·cases b
 split at b
 ·rw[List.mem_singleton]at b;subst b;rfl
 split at b
 ·obtain⟨s,hs,h⟩:=nR 32 b;unfold eW at h;split at h
  ·rw[List.mem_singleton]at h;subst h;rfl
  ·cases h
 split at b
 ·rw[List.mem_singleton]at b;subst b;obtain⟨c,f⟩:=fR (C:=C) (num:=n) (m:=m) d;rcases c with c|⟨e,_⟩
  ·exact absurd c f
  ·rw[e]
 ·cases b
theorem Atom.kind {p:ByteArray} {a m:Nat} {o:an} (h:Atom p a m o):cf m o.num≠0:=by
 cases h<;>simp only<;>omega
theorem eI (p:ByteArray) (a m:Nat) (o:an):bB p a m o=aH o.num (aj m)++((if 0<=o.sec then aH o.sec.toNat 5 else[])++gj p a o):=by
 unfold bB;rw[List.append_assoc]
theorem zR (p:ByteArray) (a:Nat) (o:an) (h:0<o.run) (hl:o.long=true):gj p a o=(aH 0 5++aH (o.run-31) 11)++byF p a o.run:=by
 unfold gj;rw[if_pos h,if_pos hl]
theorem zm (p:ByteArray) (a:Nat) (o:an) (h:0<o.run) (hl:o.long=false):gj p a o=aH o.run 5++byF p a o.run:=by
 unfold gj;rw[if_pos h,if_neg (by rw[hl];simp)]
theorem K3 {p:ByteArray} {C:Nat->Nat->Nat} (am:p.size<=4096) (h:cj p C) {a m:Nat} (t:a<p.size) (O:m<5) {b o:an} (G:cB C p a m=some b) (u:Atom p a m o) (H:o.aG C=C a m):
 b=o\/jI (bB p a m b) (bB p a m o):=by
 unfold cB at G;have T:=List.find?_some G;obtain⟨n,hn,d,X⟩:=qW 32 G;have c:=List.mem_of_find?_eq_some d;have a1:=zr t c;obtain⟨z,P,ap,av⟩:=u.opt (C:=C) t;have Y:(z.aG C==C a m)=true:=by
  have q:=(h.fix a t).1 m O z (jV P 32 u.ph);rw[beq_iff_eq];omega
 have Z:n<=o.num:=by
  rcases Nat.lt_or_ge o.num n with q|q
  ·have v:(z.aG C==C a m)=false:=X o.num q z P;rw[Y]at v;cases v
  ·exact q
 rcases Nat.eq_or_lt_of_le Z with U|a2
 ·have a3:b.num=o.num:=oO;rw[U]at d c;have a4:=rl t u.ph c;cases u with
  |chars n1 E i M=>
   replace c:b∈bC C p a m n1:=c;replace d:(bC C p a m n1).find? (λo=>o.aG C==C a m)=some b:=d;left;unfold bC at c;rw[if_pos i,if_pos M]at c;exact List.mem_singleton.1 c
  |fQ n1 E i=>
   replace c:b∈bC C p a m n1:=c;replace d:(bC C p a m n1).find? (λo=>o.aG C==C a m)=some b:=d;left;unfold bC at c;rw[if_neg oO,if_pos i]at c;exact List.mem_singleton.1 c
  |shift n1 s E i hs ac M=>
   replace c:b∈bC C p a m n1:=c;replace d:(bC C p a m n1).find? (λo=>o.aG C==C a m)=some b:=d;unfold bC at d;rw[if_neg oO,if_neg oO,if_pos i]at d;obtain⟨r,q,v,J⟩:=p7 32 d;have A:=List.mem_of_find?_eq_some v;have ad:(⟨n1,(s:Int),0,false,aj m+aj (modeF m n1),a+(cW (modeF m n1) s).size,m⟩:an)∈eW p a m n1 (modeF m n1) s:=by
    unfold eW;rw[if_pos ⟨ac,M⟩];exact List.mem_singleton.2 rfl
   have al:r<=s:=by
    rcases Nat.lt_or_ge s r with f|f
    ·have Q:=J s f _ ad;rw[beq_eq_false_iff_ne]at Q;exact absurd H Q
    ·exact f
   have g:b=⟨n1,(r:Int),0,false,aj m+aj (modeF m n1),a+(cW (modeF m n1) r).size,m⟩:=by
    unfold eW at A;split at A
    ·exact List.mem_singleton.1 A
    ·cases A
   rcases Nat.eq_or_lt_of_le al with f|f
   ·left;rw[g,f]
   ·right;rw[g,eI,eI];refine jI.pre ?_ _;show jI ((if(0:Int)<=(r:Int)then aH (r:Int).toNat 5 else[])++_) ((if(0:Int)<=(s:Int)then aH (s:Int).toNat 5 else[])++_);rw[if_pos oO,if_pos oO,Int.toNat_natCast,Int.toNat_natCast];exact(lz 5 r s f oO).app _ _
  |short n1 j E i q v J=>
   replace c:b∈bC C p a m n1:=c;replace d:(bC C p a m n1).find? (λo=>o.aG C==C a m)=some b:=d;have g:b=cR C n1 a m (p.size-a):=by
    unfold bC at c;rw[if_neg oO,if_neg oO,if_neg oO,if_pos i]at c;exact List.mem_singleton.1 c
   obtain⟨l,y⟩:=fR (C:=C) (num:=n1) (m:=m) t;rw[<-g]at l y;have N:b.aG C=(mT n1 a m j).aG C:=by
    have:b.aG C=C a m:=by simpa using T
    rw[this];exact H.symm
   have D:=(jb (C:=C) (num:=n1) (a:=a) (m:=m) (K:=min (p.size-a) 2078-30) (min (p.size-a) 31)).2.1 j q oO (by show _=(cR C n1 a m (p.size-a)).aG C;rw[<-g];exact N.symm);have F:b.long=true\/b.run<=j:=by rw[g];exact D
   rcases l with l|⟨e,B,V,S⟩
   ·exact absurd l y
   cases w:b.long with
   |true=>
    right;rw[w]at e;rw[e,eI,eI];refine jI.pre ?_ _;show jI ((if(0:Int)<=-1 then _ else[])++gj p a ⟨n1,-1,b.run,true,_,_,m⟩) ((if(0:Int)<=-1 then _ else[])++gj p a ⟨n1,-1,j,false,_,_,m⟩);rw[if_neg oO,List.nil_append,List.nil_append];rw[zR _ _ _ (by exact B) rfl,zm _ _ _ (show 0<j by omega) rfl];show jI ((aH 0 5++aH (b.run-31) 11)++_) (aH j 5++_);rw[List.append_assoc];exact(lz 5 0 j oO oO).app _ _
   |false=>
    have W:b.run<=j:=by
     rcases F with h|h
     ·rw[w]at h;cases h
     ·exact h
    rw[w]at e;rcases Nat.eq_or_lt_of_le W with f|f
    ·left;rw[e,f];rfl
    ·right;rw[e,eI,eI];refine jI.pre ?_ _;show jI ((if(0:Int)<=-1 then _ else[])++gj p a ⟨n1,-1,b.run,false,_,_,m⟩) ((if(0:Int)<=-1 then _ else[])++gj p a ⟨n1,-1,j,false,_,_,m⟩);rw[if_neg oO,List.nil_append,List.nil_append];rw[zm _ _ _ (by exact B) rfl,zm _ _ _ (show 0<j by omega) rfl];show jI (aH b.run 5++_) (aH j 5++_);exact(lz 5 _ j f oO).app _ _
  |long n1 j E i q v J=>
   replace c:b∈bC C p a m n1:=c;replace d:(bC C p a m n1).find? (λo=>o.aG C==C a m)=some b:=d;have g:b=cR C n1 a m (p.size-a):=by
    unfold bC at c;rw[if_neg oO,if_neg oO,if_neg oO,if_pos i]at c;exact List.mem_singleton.1 c
   obtain⟨l,y⟩:=fR (C:=C) (num:=n1) (m:=m) t;rw[<-g]at l y;have N:b.aG C=(oe n1 a m j).aG C:=by
    have:b.aG C=C a m:=by simpa using T
    rw[this];exact H.symm
   have D:=(jb (C:=C) (num:=n1) (a:=a) (m:=m) (K:=min (p.size-a) 2078-30) (min (p.size-a) 31)).1 (j-31) oO (by show _=(cR C n1 a m (p.size-a)).aG C;rw[<-g,show 31+(j-31)=j from by omega];exact N.symm);have F:b.long=true/\b.run<=j:=by
    rw[g];exact⟨D.1,by have:=D.2;unfold cR;omega⟩
   rcases l with l|⟨e,B,V,S⟩
   ·exact absurd l y
   have w:=F.1;have a0:=S w;rw[w]at e;rcases Nat.eq_or_lt_of_le F.2 with f|f
   ·left;rw[e,f];rfl
   ·right;rw[e,eI,eI];refine jI.pre ?_ _;show jI ((if(0:Int)<=-1 then _ else[])++gj p a ⟨n1,-1,b.run,true,_,_,m⟩) ((if(0:Int)<=-1 then _ else[])++gj p a ⟨n1,-1,j,true,_,_,m⟩);rw[if_neg oO,List.nil_append,List.nil_append];rw[zR _ _ _ (by exact B) rfl,zR _ _ _ (show 0<j by omega) rfl];show jI ((aH 0 5++aH (b.run-31) 11)++_) ((aH 0 5++aH (j-31) 11)++_);rw[List.append_assoc,List.append_assoc];refine jI.pre ?_ _;exact(lz 11 _ _ oO oO).app _ _
 ·right;rw[eI,eI];exact(lz (aj m) b.num o.num oO (Ch m O o.num u.ph u.kind)).app _ _
open Go.RowKit Go.WideMaps Go.Maps
theorem qc:∀m,m<5->∀n,n<32->cf m n=4->n=31/\m<=2:=of_decide_eq_true oK
theorem qK:∀m,m<3->cf m 31=4/\aj m=5:=of_decide_eq_true oK
theorem qJ (m:Nat):2^aj m<=32:=by unfold aj;split<;>decide
theorem Cy {p:ByteArray} {a m n:Nat} {o:an} (h:o∈l3 p a m n):∀k,n<k->o∈ei p a m k
 |0,b=>by omega
 |k+1,b=>by
  unfold ei;rw[List.mem_append];by_cases e:n=k
  ·subst e;exact .inr h
  ·exact .inl (Cy h k oO)
theorem Cv {p:ByteArray} {a m:Nat} {o:an}:∀k,o∈ei p a m k->∃n,n<k/\o∈l3 p a m n
 |0,h=>by cases h
 |k+1,h=>by
  unfold ei at h;rw[List.mem_append]at h;rcases h with h|h
  ·obtain⟨s,c,b⟩:=Cv k h;exact⟨s,by omega,b⟩
  ·exact⟨k,by omega,h⟩
theorem CL {a m j:Nat} (h:1<=j):∀k,j<=k->oz a m j∈nF a m k
 |0,b=>by omega
 |k+1,b=>by
  unfold nF;rw[List.mem_append];by_cases e:j=k+1
  ·subst e;exact .inr (List.mem_singleton.2 rfl)
  ·exact .inl (CL h k oO)
theorem CC {a m:Nat} {o:an}:∀k,o∈nF a m k->∃j,1<=j/\j<=k/\o=oz a m j
 |0,h=>by cases h
 |k+1,h=>by
  unfold nF at h;rw[List.mem_append]at h;rcases h with h|h
  ·obtain⟨j,b,d,c⟩:=CC k h;exact⟨j,b,by omega,c⟩
  ·exact⟨k+1,by omega,Nat.le_refl _,List.mem_singleton.1 h⟩
theorem Hl {p:ByteArray} {a m n:Nat} (hn:n<32) {o:an} (b:o∈l3 p a m n):Atom p a m o:=by
 unfold l3 at b;split at b
 ·split at b
  ·rw[List.mem_singleton]at b;subst b;exact .chars n hn (by assumption) (by assumption)
  ·cases b
 split at b
 ·rw[List.mem_singleton]at b;subst b;exact .fQ n hn (by assumption)
 split at b
 ·rename_i d
  obtain⟨s,hs,h⟩:=nR 32 b;unfold eW at h;split at h
  ·rename_i c
   rw[List.mem_singleton]at h;subst h;exact .shift n s hn d hs c.1 c.2
  ·cases h
 ·cases b
theorem iI {p:ByteArray} {a m:Nat} {o:an} (f:a<p.size) (b:o∈dp p a m):Atom p a m o:=by
 unfold dp at b;rw[List.mem_append]at b;rcases b with b|b
 ·obtain⟨n,hn,h⟩:=Cv _ b;exact Hl (Nat.lt_of_lt_of_le hn (qJ m)) h
 ·obtain⟨j,g,c,rfl⟩:=CC _ b;unfold uH at c;split at c
  ·obtain⟨d,e⟩:=qK m oO;unfold oz;split
   ·have:=Atom.long (p:=p) (a:=a) (m:=m) 31 j oO d oO oO oO;rw[e]at this;exact this
   ·have:=Atom.short (p:=p) (a:=a) (m:=m) 31 j oO d oO oO oO;rw[e]at this;exact this
  ·omega
theorem Atom.mem {p:ByteArray} {a m:Nat} {o:an} (f:m<5) (u:a<p.size) (h:Atom p a m o):o∈dp p a m\/∃g∈dp p a m,g.size<o.size/\g.at_=o.at_/\g.mode=o.mode:=by
 have key:∀n,n<32->cf m n≠0->∀o,o∈l3 p a m n->o∈dp p a m:=λn hn b o r=>by
  unfold dp;exact List.mem_append.2 (.inl (Cy r _ (Ch m f n hn b)))
 have run:∀j,m<=2->1<=j->j<=2078->a+j<=p.size->oz a m j∈dp p a m:=λj c d e v=>by
  unfold dp;refine List.mem_append.2 (.inr (CL d _ ?_));unfold uH;rw[if_pos c];omega
 cases h with
 |chars n hn b i=>
  refine .inl (key n hn oO _ ?_);unfold l3;rw[if_pos b,if_pos i];exact List.mem_singleton.2 rfl
 |fQ n hn b=>
  refine .inl (key n hn oO _ ?_);unfold l3;rw[b,if_neg oO,if_pos rfl];exact List.mem_singleton.2 rfl
 |shift n s hn b hs t i=>
  refine .inl (key n hn oO _ ?_);unfold l3;rw[b,if_neg oO,if_neg oO,if_pos rfl];refine nN (s:=s) ?_ 32 hs;unfold eW;rw[if_pos ⟨t,i⟩];exact List.mem_singleton.2 rfl
 |short n j hn b d c e=>
  obtain⟨rfl,l⟩:=qc m f n hn b;have h:=run j l d oO e;unfold oz at h;rw[if_neg oO]at h;rw[(qK m oO).2];exact .inl h
 |long n j hn b d c e=>
  obtain⟨rfl,l⟩:=qc m f n hn b;have h:=run j l oO c e;unfold oz at h;rw[(qK m oO).2];by_cases q:31<j
  ·rw[if_pos q]at h;exact .inl h
  ·rw[if_neg q]at h;exact .inr ⟨_,h,by show 10+8* j<5+16+8* j;omega,rfl,rfl⟩
theorem Atom.size_le {p:ByteArray} {a m:Nat} {o:an} (h:Atom p a m o):o.size<=20000:=by
 have w1:=fp m;cases h with
 |chars n hn b c=>show aj m<=_;omega
 |fQ n hn b=>show aj m<=_;omega
 |shift n s hn b hs g c=>have w2:=fp (modeF m n);show aj m+aj (modeF m n)<=_;omega
 |short n j hn b d e f=>show aj m+5+8* j<=_;omega
 |long n j hn b d e f=>show aj m+16+8* j<=_;omega
def kR (C:Nat->Nat->Nat) (p:ByteArray) (a:Nat):Prop:=(∀m,m<5->∀o∈dp p a m,C a m<=o.aG C)/\(∀m,m<5->C a m=1099511627776\/∃o∈dp p a m,o.aG C=C a m)
theorem kR.congr {C C':Nat->Nat->Nat} {p:ByteArray} {a:Nat} (g:a<p.size) (h:∀a' m,a<=a'->C' a' m=C a' m) (e:kR C p a):kR C' p a:=by
 have f:∀m,∀o∈dp p a m,o.aG C'=o.aG C:=λm o b=>by unfold an.aG;rw[h _ _ (iI g b).Je]
 refine⟨λm d o b=>?_,λm d=>?_⟩
 ·rw[f m o b,h _ _ (Nat.le_refl _)];exact e.1 m d o b
 ·rw[h _ _ (Nat.le_refl _)];rcases e.2 m d with c|⟨o,c,i⟩
  ·exact .inl c
  ·exact .inr ⟨o,c,by rw[f m o c];exact i⟩
theorem kR.ac {C:Nat->Nat->Nat} {p:ByteArray} (E:p.size<=4096) (i:∀a,a<p.size->kR C p a) (j:∀a m,p.size<=a->C a m=0):jP p C:=by
 have q:∀a m,a<p.size->m<5->∀o,Atom p a m o->C a m<=o.aG C:=by
  intro a m b c o r;rcases r.mem c b with h|⟨s,h,f,d,l⟩
  ·exact(i a b).1 m c o h
  ·refine Nat.le_trans ((i a b).1 m c s h) ?_;unfold an.aG;rw[d,l];omega
 have B:∀k a,p.size<=a+k->C a 0<=18* (p.size-a):=by
  intro k
  induction k with
  |zero=>intro a b;rw[j a 0 b];exact Nat.zero_le _
  |succ k t=>
   intro a b;by_cases f:a<p.size
   ·have d:=q a 0 f oO _ (Atom.short 31 1 oO (qK 0 oO).1 oO oO oO);have l:=t (a+1) oO;have u:C a 0<=5+5+8* 1+C (a+1) 0:=d;omega
   ·rw[j a 0 oO];exact Nat.zero_le _
 have g:∀a m n,a<p.size->m<5->n<32->cf m n=2->C a m<=aj m+C a (modeF m n):=λa m n b c hn v=>q a m b c _ (Atom.fQ n hn v);have D:∀a m,a<p.size->m<5->C a m<=9+C a 0:=by
  intro a m b c;have w:=g a 4 14 b oO oO oK;have e1:modeF 4 14=0:=oK;have e2:modeF 1 30=4:=oK;have e3:modeF 2 29=0:=oK;have e4:modeF 3 31=0:=oK;have y:aj 4=4:=rfl;have w1:aj 1=5:=rfl;have w2:aj 2=5:=rfl;have z:aj 3=5:=rfl;rw[e1,y]at w;have A:m=0\/m=1\/m=2\/m=3\/m=4:=oO;rcases A with rfl|rfl|rfl|rfl|rfl
  ·omega
  ·have e:=g a 1 30 b oO oO oK;rw[e2,w1]at e;omega
  ·have e:=g a 2 29 b oO oO oK;rw[e3,w2]at e;omega
  ·have e:=g a 3 31 b oO oO oK;rw[e4,z]at e;omega
  ·omega
 refine⟨q,λa m b c=>?_,j⟩;rcases(i a b).2 m c with h|⟨o,f,d⟩
 ·have l:=D a m b c;have u:=B p.size a oO;omega
 ·exact⟨o,iI b f,d⟩
def pU (C:Nat->Nat->Nat) (L:Nat->List an) (a:Nat):Prop:=∀m,m<5->C a m=1099511627776\/∃o∈L m,o.aG C<=C a m
theorem pU.Ki {C:Nat->Nat->Nat} {L:Nat->List an} {a m:Nat} (h:pU C L a) {o:an} (g:o∈L m) (j:o.aG C<C a m):pU (jh C a m (o.aG C)) L a:=by
 intro c l;have f:=Cs (C:=C) (a:=a) (m:=m) (x:=o.aG C) (Nat.le_of_lt j);by_cases e:c=m
 ·subst e;right;exact⟨o,g,by rw[il];exact pN f o⟩
 ·rw[fZ _ _ _ _ _ _ (λh=>e h.2)];rcases h c l with b|⟨d,b,i⟩
  ·exact .inl b
  ·exact .inr ⟨d,b,Nat.le_trans (pN f d) i⟩
theorem kR.LL {C:Nat->Nat->Nat} {p:ByteArray} {a:Nat} (e:pU C (dp p a) a) (b:∀m,m<5->∀o∈dp p a m,C a m<=o.aG C):kR C p a:=by
 refine⟨b,λm c=>?_⟩;rcases e m c with h|⟨o,d,f⟩
 ·exact .inl h
 ·exact .inr ⟨o,d,Nat.le_antisymm f (b m c o d)⟩
structure CS (w wr:World) (d n:Nat) (C:Nat->Nat->Nat):Prop where
 B:af w wr
 lo:w.heap.size<=d
 R:∃c,aa wr d c 133/\c.size=5* (n+1)/\∀a m,a<=n->m<5->c[a* 5+m]?=some (.int .i64 ((C a m:Nat):Int))
 b:∀a m,C a m<=1099511627776
theorem CS.below {w wr W:World} {b n:Nat} {C:Nat->Nat->Nat} (h:CS w wr b n C) (c:Below wr.heap.size wr W):CS w W b n C:=by
 obtain⟨f,d,e⟩:=h.R;exact⟨ab h.B c,h.lo,⟨f,d.below c,e⟩,h.b⟩
theorem CS.lt {w wr:World} {b n:Nat} {C:Nat->Nat->Nat} (h:CS w wr b n C):b<wr.heap.size:=by
 obtain⟨e,c,d⟩:=h.R;exact aw c
theorem CS.cell {w wr:World} {b n:Nat} {C:Nat->Nat->Nat} (h:CS w wr b n C) (a m:Nat) (c:a<=n) (d:m<5):wr.cell? ⟨b,a* 5+m,none⟩=some (.int .i64 ((C a m:Nat):Int)):=by
 obtain⟨i,e,g,f⟩:=h.R;exact e.cell _ _ (f a m c d)
theorem CS.fz {w wr:World} {b n:Nat} {C:Nat->Nat->Nat} (h:CS w wr b n C) (i:Nat):wr.frozen? ⟨b,i,none⟩=false:=by
 obtain⟨e,c,d⟩:=h.R;exact frozen_of_row _ _ _ _ _ c
theorem CS.set {w wr:World} {c n:Nat} {C:Nat->Nat->Nat} (h:CS w wr c n C) (a m x:Nat) (p:a<=n) (q:m<5) (d:x<=1099511627776):CS w (wr.setCell ⟨c,a* 5+m,none⟩ (.int .i64 (x:Int))) c n (jh C a m x):=by
 obtain⟨r,f,g,i⟩:=h.R;refine⟨h.B.setCell h.lo _,h.lo,⟨_,f.cY _,by simp[g],λa' b j l=>?_⟩,λa' b=>?_⟩
 ·by_cases e:a'=a/\b=m
  ·obtain⟨rfl,rfl⟩:=e;rw[il,Array.getElem?_setIfInBounds_self_of_lt oO]
  ·rw[Array.getElem?_setIfInBounds_ne oO,i a' b j l,fZ _ _ _ _ _ _ e]
 ·by_cases e:a'=a/\b=m
  ·obtain⟨rfl,rfl⟩:=e;rw[il];exact d
  ·rw[fZ _ _ _ _ _ _ e];exact h.b a' b
def oy (C:Nat->Nat->Nat) (a:Nat):Nat->Nat->Nat:=λa' m=>if a'=a then 1099511627776 else C a' m
abbrev tq:List Value:=[.int .i64 1099511627776,.int .i64 1099511627776,.int .i64 1099511627776,.int .i64 1099511627776,.int .i64 1099511627776]
theorem Dd {α:Type} (L:List α) (off:Nat) (b:List α) (i:Nat) (h:off+b.length<=L.length):(splice L off b)[i]?=if off<=i/\i<off+b.length then b[i-off]? else L[i]?:=by
 unfold splice;by_cases c:i<off
 ·rw[if_neg oO,List.getElem?_append_left (by rw[List.length_take];omega),List.getElem?_take,if_pos c]
 ·rw[List.getElem?_append_right (by rw[List.length_take];omega),List.length_take,Nat.min_eq_left oO];by_cases d:i<off+b.length
  ·rw[if_pos oO,List.getElem?_append_left oO]
  ·rw[if_neg oO,List.getElem?_append_right oO,List.getElem?_drop];congr 1;omega
theorem CS.CG {w wr:World} {c n:Nat} {C:Nat->Nat->Nat} (h:CS w wr c n C) (a:Nat) (u:a<=n) {g:Array Value} (i:aa wr c g 133):CS w (wr.setRow c (splice g.toList (a* 5) tq).toArray) c n (oy C a):=by
 obtain⟨f,r,j,p⟩:=h.R;have e:f=g:=by
  have q:wr.heap[c]?=some (.cells f 133 (0,0)):=r;have d:wr.heap[c]?=some (.cells g 133 (0,0)):=i;rw[q]at d;injection d with d;injection d
 subst e;have l:f.toList.length=f.size:=Array.length_toList;have hl:a* 5+tq.length<=f.toList.length:=by rw[l,j];show a* 5+5<=_;omega
 refine⟨below_setRow h.B h.lo _,h.lo,⟨_,i.set _,by rw[List.size_toArray,length_splice _ _ _ hl,l,j],λa' b s t=>?_⟩,λa' b=>?_⟩
 ·rw[List.getElem?_toArray,Dd _ _ _ _ hl];unfold oy;by_cases e:a'=a
  ·subst e;rw[if_pos (by show a'* 5<=a'* 5+b/\a'* 5+b<a'* 5+5;omega),if_pos rfl,Nat.add_sub_cancel_left];have d:b=0\/b=1\/b=2\/b=3\/b=4:=oO;rcases d with rfl|rfl|rfl|rfl|rfl<;>rfl
  ·rw[if_neg (by show¬(a* 5<=a'* 5+b/\a'* 5+b<a* 5+5);omega),if_neg e,Array.getElem?_toList];exact p a' b s t
 ·unfold oy;split
  ·exact Nat.le_refl _
  ·exact h.b a' b
theorem CS.sum {w wr:World} {b n:Nat} {C:Nat->Nat->Nat} (h:CS w wr b n C) (a:Nat) (c:a<=n):kn wr b a=jc C a:=by
 have k:∀m,m<5->jj wr b a m=C a m:=λm d=>by unfold jj;rw[h.cell a m c d];simp
 unfold kn jc;rw[k 0 oO,k 1 oO,k 2 oO,k 3 oO,k 4 oO]
def mu (wr:World) (g m:Nat) (l:List an):Prop:=g<wr.heap.size/\∀j o,l[j]?=some o->∀q v,(di m o)[q]?=some v->wr.cell? ⟨g,j* 11+q,none⟩=some v
theorem mu.below {wr W:World} {g m:Nat} {l:List an} (h:mu wr g m l) (b:Below wr.heap.size wr W):mu W g m l:=⟨Nat.lt_of_lt_of_le h.1 b.size,λj o c q v hq=>(b.cell (p:=⟨g,j* 11+q,none⟩) h.1).trans (h.2 j o c q v hq)⟩
theorem mu.cY {wr:World} {g m:Nat} {l:List an} (h:mu wr g m l) (a:Addr) (b:a.block≠g) (u:Value):mu (wr.setCell a u) g m l:=⟨by simpa using h.1,λj o c q v hq=>(World.cell?_setCell_other wr _ _ _ (λe=>b (by rw[e]))).trans (h.2 j o c q v hq)⟩
theorem sP (m:Nat):∀(l:List an) (j k:Nat) (o:an),l[j]?=some o->k<11->(l.flatMap (di m))[j* 11+k]?=(di m o)[k]?
 |[],j,k,o,h,b=>by simp at h
 |x::l,0,k,o,h,b=>by
  simp only[List.getElem?_cons_zero,Option.some.injEq]at h;subst h;rw[List.flatMap_cons,List.getElem?_append_left (by show 0* 11+k<11;omega)];simp
 |x::l,j+1,k,o,h,b=>by
  rw[List.flatMap_cons,List.getElem?_append_right (by show 11<=_;omega)];rw[<-sP m l j k o (by simpa using h) b];congr 1;show(j+1)* 11+k-11=_;omega
theorem e8.row {m:Nat} {w wr:World} {v:Value} {l:List an} (h:e8 m w wr v l):∃A c,v= .slice A l.length c/\(0<l.length->∃g,A=some ⟨g,0,none⟩/\w.heap.size<=g/\mu wr g m l):=by
 obtain⟨A,c,rfl⟩:=bT h.O;refine⟨A,c,rfl,λp=>?_⟩;obtain⟨g,cap,d,r,i⟩:=h.O.form oO;have e:A=some ⟨g,0,none⟩:=by injection d
 subst e;refine⟨g,rfl,(h.O.lt g rfl).1,i,λj o f q u hq=>?_⟩;have n:q<11:=by
  rcases Nat.lt_or_ge q 11 with b|b
  ·exact b
  ·rw[List.getElem?_eq_none (by show 11<=q;exact b)]at hq;cases hq
 have hc:=h.O.cells (g:=g) rfl _ _ ((sP m l j q o f n).trans hq);rw[add_plain,Nat.zero_add]at hc;exact hc
theorem mu.facts {wr:World} {g m:Nat} {l:List an} (h:mu wr g m l) {j:Nat} {o:an} (b:l[j]?=some o):wr.cell? ⟨g,j* 11+8,none⟩=some (.int .i64 (o.size:Int))/\wr.cell? ⟨g,j* 11+9,none⟩=some (.int .i64 (o.at_:Int))/\wr.cell? ⟨g,j* 11+10,none⟩=some (.int .i64 (o.mode:Int)):=
 ⟨h.2 j o b 8 _ rfl,h.2 j o b 9 _ rfl,h.2 j o b 10 _ rfl⟩
open Go.RowKit Go.WideMaps Go.Maps
theorem EJ:(Tryz.prog.info? 133).map (λi=>(i.zero,i.size,i.bytes))=some (some (.agg #[.int .i64 0,.int .i64 0,.int .i64 0,.int .i64 0,.int .i64 0]),5,40):=oK
theorem KE:(Tryz.prog.info? 131).map (·.size)=some 5:=oK
theorem H5:∀v∈tq,v.oneCell'=true:=by
 intro v b;simp only[tq,List.mem_cons,List.not_mem_nil,or_false]at b;rcases b with rfl|rfl|rfl|rfl|rfl<;>rfl
theorem C9 {a:Act} {o:Oper} {W:World} {l c:Operand} (e:o.op= .makeSlice 124 l c) (n:Nat) (hn:n<=4096) (hl:a.eval l= .int .i64 ((n:Int)+1)) (hc:a.eval c= .int .i64 ((n:Int)+1)):
 ∃d,(execOp a.eval o).run Tryz.prog W= .ok (.value (.slice (some ⟨W.heap.size,0,none⟩) (n+1) (n+1))) d/\CS W d W.heap.size n (λ_ _=>0):=by
 obtain⟨f,g,j,p,q⟩:=info_parts EJ;have b:=run_make (P:=Tryz.prog) W 124 133 f _ Tryz.underlying124 g j .i64 .i64 ((n+1:Nat):Int) ((n+1:Nat):Int) oO (Int.le_refl _) (by rw[q];omega) oO;simp only[Int.toNat_natCast]at b;rw[p]at b;have r:(execOp a.eval o).run Tryz.prog W= .ok (.value (.slice (some ⟨W.heap.size,0,none⟩) (n+1) (n+1))) (W.alloc (.cells (madeCells #[Value.int .i64 0,.int .i64 0,.int .i64 0,.int .i64 0,.int .i64 0] ((n+1)* 5)) 133)):=by
  unfold execOp;rw[Int.natCast_add]at b;simp only[e,hl,hc,Sem.run_bind,Sem.run_pure];rw[show((n:Int)+1)=((n:Int)+((1:Nat):Int))from rfl,b];rfl
 refine⟨_,r,ar _ _,Nat.le_refl _,⟨_,heap_alloc_new W _,by unfold madeCells;simp;omega,λa m s t=>?_⟩,λ_ _=>Nat.zero_le _⟩;unfold madeCells;rw[Array.getElem?_map,Array.getElem?_range,if_pos oO];have i:(a* 5+m)%5=0\/(a* 5+m)%5=1\/(a* 5+m)%5=2\/(a* 5+m)%5=3\/(a* 5+m)%5=4:=oO;show some (#[Value.int .i64 0,.int .i64 0,.int .i64 0,.int .i64 0,.int .i64 0][(a* 5+m)%5]!)=_;rcases i with h|h|h|h|h<;>rw[h]<;>rfl
theorem xD {P:Program} {b:Array Oper} {c:List Oper} {o:Oper} {a:Act} {Q:Exit->Act->World->Prop} {w w':World} {v:Value} (g:o.guard=none) (d:(execOp a.eval o).run P w= .ok (.value v) w') (e:wpList P b Q c (a.put o.dst v) w'):wpList P b Q (o::c) a w:=by
 refine wpList_plain g λK f=>?_;unfold Oper.wp;rw[d];exact f _ _ e
theorem zc {d:Array Oper} {e:List Oper} {o:Oper} {a:Act} {Q:Exit->Act->World->Prop} {W:World} {l c:Operand} (n:Nat) (hn:n<=4096) (j:o.guard=none) (f:o.op= .makeSlice 124 l c) (hl:a.eval l= .int .i64 ((n:Int)+1)) (hc:a.eval c= .int .i64 ((n:Int)+1))
 (g:∀b,Hid (CS W b W.heap.size n (λ_ _=>0))->wpList Tryz.prog d Q e (a.put o.dst (.slice (some ⟨W.heap.size,0,none⟩) (n+1) (n+1))) b):wpList Tryz.prog d Q (o::e) a W:=by
 obtain⟨b,p,i⟩:=C9 (a:=a) (W:=W) f n hn hl hc;exact xD j p (g b i)
theorem Dv (A:Option Addr) (n c:Nat) (l:List UInt8) (w:World) (a6:SR vU 0 w A n c l) (hn:n<=4096):
 Calls Tryz.prog 100 #[.slice A n c] w λe w'=>∃b C,e= .returned (.slice (some ⟨b,0,none⟩) (n+1) (n+1))/\CS w w' b n C/\jP (bA l) C:=by
 have ca:n=l.length:=a6.hn;have d1:=Lib.hid a6;obtain⟨p,ap⟩:∃p,p=bA l:=⟨_,rfl⟩;have ck:p.size=n:=by rw[ap,iS,ca]
 have N:=Lib.hid ck;have eh:=Lib.hid ap;rw[<-ap];clear a6 ca ap ck;go_enter Tryz.func100,Tryz.ntmps100;go_wp2_with((with_reducible show wpList _ _ _ (⟨_,Op.makeSlice 124 _ _,_,_,_,_⟩::_) _ _);refine zc n hn rfl rfl rfl rfl ?_;intro fb bq)
 obtain⟨b,bs⟩:∃b,b=w.heap.size:=⟨_,rfl⟩;rw[<-bs]at bq;rw[<-bs];clear bs;go_loopw [4] (λa7 wr=>∃(k:Nat) (j:Int) (C:Nat->Nat->Nat),k<=n/\a7= .int .i64 j/\Hid (j=(n:Int)-1-k)/\Hid (CS w wr b n C)/\Hid (∀a,n<=a+k->a<n->kR C p a)/\Hid (∀a m,n<=a->C a m=0)) (λa7 _=>(intOf a7+1).toNat)
 case atStart=>exact⟨0,(n:Int)-1,λ_ _=>0,Nat.zero_le _,rfl,by show _=_;simp,bq.out,λa z t=>by omega,λ_ _ _=>rfl⟩
 case round=>
  clear bq;obtain⟨k,j,C,fn,rfl,ad,r,J,av⟩:=hrel;by_cases f0:k<n
  ·obtain⟨i,d2⟩:∃i:Nat,j=(i:Int):=⟨n-1-k,by have:=ad.out;omega⟩;subst d2;have f1:i+k+1=n:=by have:=ad.out;omega
   have ej:i<n:=oO;have co:i<p.size:=by rw[N.out];exact ej
   have f2:(i:Int)<(n:Int)+1:=oO;obtain⟨U,a4⟩:=r.out.R;have c8:Hid (aa wr b U 133):=a4.1;have cp:Hid (i* 5+5<=U.size):=by show _<=_;rw[a4.2.1];omega
   have cq:Hid (CS w (wr.setRow b (splice U.toList (i* 5) tq).toArray) b n (oy C i)):=r.out.CG i oO a4.1;have cr:Hid (∀a,i<a->a<n->kR (oy C i) p a):=by
    show∀a,_;intro a z t;refine(J.out a oO t).congr (by rw[N.out];exact t) (λa' m F=>?_);unfold oy;rw[if_neg oO]
   have cs:Hid (∀a m,n<=a->oy C i a m=0):=by
    show∀a,_;intro a m h;unfold oy;rw[if_neg oO];exact av.out a m h
   have c9:Hid (∀m,oy C i i m=1099511627776):=λm=>if_pos rfl;clear J av a4 r ad;generalize oy C i=Q at*;obtain⟨L,a8⟩:∃L:Nat->List an,L=dp p i:=⟨_,rfl⟩;have a9:=Lib.hid a8;have ek:Hid (∀m,m<5->∀o∈L m,o.at_<=n/\o.mode<5/\o.size<=20000):=by
    show∀m,_;intro m al o D;rw[a8]at D;have bb:=iI co D;exact⟨by have:=bb.Eb co;rw[N.out]at this;exact this,bb.mO al,bb.size_le⟩
   clear a8;have dl:Hid (pU Q L i):=λm al=> .inl (c9.out m);clear c9;go_wp2_with((with_reducible show wpList _ _ _ (⟨_,Op.store 131 _ _,_,_,_,_⟩::_) _ _);refine bQ rfl 131 _ _ rfl 133 b (i* 5) U tq rfl rfl c8.out KE cp.out H5 ?_)
   generalize(wr.setRow b (splice U.toList (i* 5) tq).toArray)=w2 at*;clear c8 cp;go_loopw [5] (λM wr=>∃(d:Bool) (s:Nat->Nat->Nat),M= .bool d/\Hid (CS w wr b n s)/\Hid (∀a m,a≠i->s a m=Q a m)/\Hid (pU s L i)/\Hid (d=false->∀m,m<5->∀o∈L m,s i m<=o.aG s)) (λM wr=>2* kn wr b i+lO M)
   case atStart=>exact⟨true,Q,rfl,cq.out,λ_ _ _=>rfl,dl.out,λh=>by cases h⟩
   case round=>
    clear cq dl;obtain⟨d,s,rfl,r,y,B,J⟩:=hrel;cases d with
    |true=>
     clear J;have dm:Hid (kn wr b i=jc s i):=r.out.sum i oO;obtain⟨O,bt⟩:∃O,O=jc s i:=⟨_,rfl⟩;rw[<-bt]at dm;have cv:=Lib.hid bt;clear bt;go_wp2_with fail
     obtain⟨bd,rfl⟩:∃bd:World,bd=wr:=⟨_,rfl⟩;go_loopw [5,6] (λM be wr=>∃(m:Nat) (d:Bool) (u:Nat->Nat->Nat),m<=5/\be= .int .i64 m/\M= .bool d/\Hid (CS w wr b n u)/\Hid (∀a m,a≠i->u a m=Q a m)/\Hid (pU u L i)/\Hid (d=false->u=s/\∀q,q<m->∀o∈L q,u i q<=o.aG u)/\Hid (d=true->jc u i<O)) (λ_ be _=>5-(intOf be).toNat)
     case atStart=>exact⟨0,false,s,by omega,rfl,rfl,r.out,y.out,B.out,λ_=>⟨rfl,λm al=>by omega⟩,λh=>by cases h⟩
     case round=>
      clear r y B;obtain⟨m,d,u,al,rfl,rfl,r,y,B,hF,G⟩:=hrel;by_cases V:m<5
      ·have dn:Hid (Calls Tryz.prog 101 #[.slice A n c,.int .i64 (i:Int),.int .i64 (m:Int)] wr λe w'=>∃v,e= .returned v/\e8 (aj m) wr w' v (L m)):=by
        show Calls _ _ _ _ _;rw[a9.out,eh.out];exact uA A n c l i m wr (d1.out.below r.out.B) hn oO V
       go_wp2_with fail
       refine dn.out.mono ?_;rintro e cb ⟨v,rfl,bf⟩;obtain⟨ce,fo,rfl,b8⟩:=bf.row;have el:=r.out.lt;obtain⟨len,Y⟩:∃len,len=(L m).length:=⟨_,rfl⟩;have ds:=Lib.hid Y;have f7:len<=3200:=by
        rw[Y,a9.out];unfold dp;rw[List.length_append,r5];have z:=oX p i m (2^aj m);have t:=qJ m;have F:uH p i m<=2078:=by unfold uH;split<;>omega
        generalize 2^aj m=E at*;omega
       rw[<-Y]at b8;rw[<-Y];have dx:Hid (0<len->∃g,ce=some ⟨g,0,none⟩/\g≠b/\mu cb g (aj m) (L m)):=by
        show _->_;intro d3;obtain⟨g,z,t,F⟩:=b8 d3;exact⟨g,z,by omega,F⟩
       have cx:Hid (CS w cb b n u):=r.out.below bf.B;clear dn bf b8 el Y r;go_wp2_with fail
       go_loopw [5,8] (λM bi wr=>∃(j:Nat) (d:Bool) (f:Nat->Nat->Nat),j<=len/\bi= .int .i64 j/\M= .bool d/\Hid (CS w wr b n f)/\Hid (0<len->∃g,ce=some ⟨g,0,none⟩/\g≠b/\mu wr g (aj m) (L m))/\Hid (∀a m,a≠i->f a m=Q a m)/\Hid (pU f L i)/\Hid (d=false->f=s/\(∀q,q<m->∀o∈L q,f i q<=o.aG f)/\∀S,S<j->∀o,(L m)[S]?=some o->f i m<=o.aG f)/\Hid (d=true->jc f i<O)) (λ_ bi _=>len-(intOf bi).toNat)
       case atStart=>exact⟨0,d,u,Nat.zero_le _,rfl,rfl,cx.out,dx.out,y.out,B.out,λh=>⟨(hF.out h).1,(hF.out h).2,λS fr=>by omega⟩,G.out⟩
       case round=>
        clear cx dx y B hF G;obtain⟨j,d,f,cg,rfl,rfl,r,dy,y,B,hF,G⟩:=hrel;by_cases ez:j<len
        ·obtain⟨g,rfl,c2,bv⟩:=dy.out oO;obtain⟨o,D⟩:∃o,(L m)[j]?=some o:=⟨_,List.getElem?_eq_getElem (by rw[<-ds.out];exact ez)⟩;have d4:=Lib.hid D;have b9:o∈L m:=List.mem_of_getElem? D;have d5:=Lib.hid b9;have bx:Hid (o.at_<=n/\o.mode<5/\o.size<=20000):=ek.out m V o b9;obtain⟨b1,a5⟩:∃x,x=o.size:=⟨_,rfl⟩;obtain⟨a0,Z⟩:∃x,x=o.at_:=⟨_,rfl⟩;obtain⟨a1,ac⟩:∃x,x=o.mode:=⟨_,rfl⟩;obtain⟨d6,d7,d8⟩:=bx.out;rw[<-a5]at d8;rw[<-Z]at d6;rw[<-ac]at d7;obtain⟨am,a2⟩:∃x,x=f a0 a1:=⟨_,rfl⟩;have f6:am<=1099511627776:=by rw[a2];exact r.out.b _ _
         obtain⟨H,b2⟩:∃H,H=b1+am:=⟨_,rfl⟩;have b3:Hid (H=o.aG f):=by show _=_;rw[b2,a2,a5,Z,ac];rfl
         obtain⟨T,b4⟩:∃T,T=f i m:=⟨_,rfl⟩;have a3:=Lib.hid b4;have d9:Hid (∀W,af wr W->W.cell? ⟨g,j* 11+8,none⟩=some (.int .i64 (b1:Int))/\W.cell? ⟨g,j* 11+9,none⟩=some (.int .i64 (a0:Int))/\W.cell? ⟨g,j* 11+10,none⟩=some (.int .i64 (a1:Int))/\W.cell? ⟨b,a0* 5+a1,none⟩=some (.int .i64 (am:Int))):=by
          show∀W,_;intro W ch;obtain⟨z,t,F⟩:=(bv.below ch).facts D;rw[a5,Z,ac];refine⟨z,t,F,?_⟩;rw[a2,Z,ac];exact(r.out.below ch).cell _ _ bx.out.1 bx.out.2.1
         have X:Hid (CS w wr.drew b n f):=r.out.below (ak (Below.refl _ _));have c3:Hid (mu wr.drew g (aj m) (L m)):=bv.below (ak (Below.refl _ _));have ea:=X.out.cell i m oO V;have fv:=X.out.fz (i* 5+m);rw[<-b4]at ea;obtain⟨P,b5⟩:∃P:Int,P=IntKind.i64.wrap ((b1:Int)+(am:Int)):=⟨_,rfl⟩;have b6:Hid ((H:Int)=P):=by show _=_;rw[b2,b5,IntKind.wrap_i64];omega
         have em:=Lib.hid b5;clear b5;have f3:(a0:Int)<(n:Int)+1:=oO;have f4:(a1:Int)<5:=oO;have f5:(m:Int)<5:=oO;have e0:Hid (jc f i<=O):=by
          show _<=_;cases d with
          |true=>exact Nat.le_of_lt (G.out rfl)
          |false=>rw[(hF.out rfl).1,<-cv.out];exact Nat.le_refl _
         have b7:=Lib.hid c2;clear dy bv D b9 a5 Z ac a2 b2 b4 r c2;go_wp2_with fail
         refine yO (af wr) [1,2,3,4,5,6,7,8,9,10,11,12,13,14,15,16,17,18,19,20,21,22] (ak (Below.refl _ _)) ?_
         repeat refine zO d9.out ?_
         refine ag ?_;generalize wr.drew=ec at*;rw[<-em.out];by_cases bo:H<T
         ·have ed:decide (P<(T:Int))=true:=by rw[<-b6.out];simp;omega
          have en:Hid (CS w (ec.setCell ⟨b,i* 5+m,none⟩ (.int .i64 P)) b n (jh f i m H)):=by
           have h:=X.out.set i m H oO V (by have:=a3.out;have:=X.out.b i m;omega);rw[b6.out]at h;exact h
          go_wp2_with fail
          exact⟨⟨j+1,true,jh f i m H,by omega,by go_num,rfl,en.out,λ_=>⟨g,rfl,b7.out,c3.out.cY _ (Ne.symm b7.out) _⟩,
           (λa q c4=>by rw[fZ _ _ _ _ _ _ (λh=>c4 h.1)];exact y.out a q c4),(by show pU _ _ _;rw[b3.out];exact B.out.Ki d5.out (by rw[<-b3.out,<-a3.out];exact bo)),(λh=>by cases h),
           λ_=>Nat.lt_of_lt_of_le (za V (by rw[<-a3.out];exact bo)) e0.out⟩,by simp[intOf];omega⟩
         ·have ed:decide (P<(T:Int))=false:=by rw[<-b6.out];simp;omega
          have c5:f i m<=o.aG f:=by rw[<-b3.out,<-a3.out];omega
          have eq:=Lib.hid c5;clear bo c5;go_wp2_with fail
          exact⟨⟨j+1,d,f,by omega,by go_num,rfl,X.out,λ_=>⟨g,rfl,b7.out,c3.out⟩,y.out,B.out,λh=>⟨(hF.out h).1,(hF.out h).2.1,wg (hF.out h).2.2 d4.out eq.out⟩,G.out⟩,by simp[intOf];omega⟩
        ·have c6:j=len:=oO;have er:Hid (d=false->f=s/\∀q,q<m+1->∀o∈L q,f i q<=o.aG f):=by
          show _->_;intro h;obtain⟨z,t,F⟩:=hF.out h;refine⟨z,λq es o D=>?_⟩;rcases Nat.lt_or_ge q m with ci|ci
          ·exact t q ci o D
          ·obtain rfl:q=m:=oO;obtain⟨S,c7,e⟩:=List.getElem_of_mem D;exact F S (by rw[c6,ds.out];exact c7) o (by rw[List.getElem?_eq_getElem c7,e])
         clear hF;subst c6;go_wp2_with fail
         exact⟨⟨m+1,d,f,by omega,by go_num,rfl,r.out,y.out,B.out,er.out,G.out⟩,by simp[intOf];omega⟩
      ·have fx:m=5:=oO;have et:Hid (d=false->∀q,q<5->∀o∈L q,u i q<=o.aG u):=λh q es=>(hF.out h).2 q oO;have eu:Hid (2* kn wr b i+lO (.bool d)<2* O+1):=by
        show _<_;rw[r.out.sum i oO];cases d with
        |true=>have:=G.out rfl;show 2* _+1<_;omega
        |false=>rw[(hF.out rfl).1,<-cv.out];show 2* _+0<_;omega
       clear hF G;go_wp2_with fail
       refine⟨⟨d,u,rfl,r.out,y.out,B.out,et.out⟩,?_⟩;show 2* kn wr b i+lO (.bool d)<2* kn bd b i+lO (.bool true);rw[dm.out];exact eu.out
    |false=>
     have d0:Hid (kR s p i):=by
      show kR _ _ _;have z:=J.out rfl;have t:=B.out;rw[a9.out]at z t;exact kR.LL t z
     have e9:Hid (∀a,n<=a+(k+1)->a<n->kR s p a):=by
      show∀a,_;intro a z t;by_cases e:a=i
      ·rw[e];exact d0.out
      ·exact(cr.out a oO t).congr (by rw[N.out];exact t) (λa' m F=>y.out a' m oO)
     have ex:Hid (∀a m,n<=a->s a m=0):=λa m h=>by rw[y.out a m oO];exact cs.out a m h
     clear J B y cr cs d0;go_wp2_with fail
     exact⟨⟨k+1,(i:Int)-1,s,by omega,by go_num,by show _=_;omega,r.out,e9.out,ex.out⟩,by simp[intOf]<;>omega⟩
  ·have cg:j=-1:=by have:=ad.out;omega
   subst cg;have ey:Hid (jP p C):=by
    show jP _ _;exact kR.ac (by rw[N.out];exact hn) (λa ef=>J.out a oO (by rw[<-N.out];exact ef)) (λa m h=>av.out a m (by rw[<-N.out];exact h))
   clear J av;go_wp2_with fail
   go_ret;exact⟨b,C,rfl,r.out,ey.out⟩
open Go.RowKit Go.WideMaps Go.Maps
def jd (o:an):List Nat:=[o.num,o.v1,o.v2,0]
def eD (o b:an):Bool:=if o.num≠b.num then decide (o.num<b.num)else if o.v1≠b.v1 then decide (o.v1<b.v1)else if o.v2≠b.v2 then decide (o.v2<b.v2)else false
theorem GW {o b:an} {k:Nat} (i:k<4) (h:∀j,j<k->(jd o).getD j 0=(jd b).getD j 0) (c:(jd o).getD k 0≠(jd b).getD k 0):eD o b=decide ((jd o).getD k 0<(jd b).getD k 0):=by
 have f:k=0\/k=1\/k=2\/k=3:=oO;unfold eD;rcases f with rfl|rfl|rfl|rfl
 ·replace c:o.num≠b.num:=c;rw[if_pos c];rfl
 ·have d:o.num=b.num:=h 0 oO;replace c:o.v1≠b.v1:=c;rw[if_neg (λe=>e d),if_pos c];rfl
 ·have d:o.num=b.num:=h 0 oO;have g:o.v1=b.v1:=h 1 oO;replace c:o.v2≠b.v2:=c;rw[if_neg (λe=>e d),if_neg (λe=>e g),if_pos c];rfl
 ·exact absurd rfl c
theorem IG {o b:an} (h:∀j,j<4->(jd o).getD j 0=(jd b).getD j 0):eD o b=false:=by
 have c:o.num=b.num:=h 0 oO;have d:o.v1=b.v1:=h 1 oO;have f:o.v2=b.v2:=h 2 oO;unfold eD;rw[if_neg (λe=>e c),if_neg (λe=>e d),if_neg (λe=>e f)]
theorem tk {W:World} {b m:Nat} {o:an} (h:ai W b (di m o)) {k:Nat} (d:k<4):W.cell? ⟨b,k,none⟩=some (.int .i64 (((jd o).getD k 0:Nat):Int)):=by
 have c:k=0\/k=1\/k=2\/k=3:=oO;rcases c with rfl|rfl|rfl|rfl
 ·exact h.2 0 (by show 0<11;omega)
 ·exact h.2 1 (by show 1<11;omega)
 ·exact h.2 2 (by show 2<11;omega)
 ·exact h.2 3 (by show 3<11;omega)
theorem wN (m c:Nat) (o b:an) (w:World):Calls Tryz.prog 102 #[.agg (di m o).toArray,.agg (di c b).toArray] w λe w'=>e= .returned (.bool (eD o b))/\Below w.heap.size w w':=by
 have D:Hid (ai ((w.alloc (.cells (di m o).toArray 130)).alloc (.cells (di c b).toArray 130)) w.heap.size (di m o)):=(ai.new w (di m o).toArray _ _ rfl).below (ar _ _);have E:Hid (ai ((w.alloc (.cells (di m o).toArray 130)).alloc (.cells (di c b).toArray 130)) (w.heap.size+1) (di c b)):=ai.new _ (di c b).toArray _ _ oS;have i:Hid (af w ((w.alloc (.cells (di m o).toArray 130)).alloc (.cells (di c b).toArray 130))):=ae (ar _ _) _
 have H:Hid (∀W,af ((w.alloc (.cells (di m o).toArray 130)).alloc (.cells (di c b).toArray 130)) W->∀k,k<4->W.cell? ⟨w.heap.size,k,none⟩=some (.int .i64 (((jd o).getD k 0:Nat):Int))/\W.cell? ⟨w.heap.size+1,k,none⟩=some (.int .i64 (((jd b).getD k 0:Nat):Int))):=
  λW d k f=>⟨tk (D.out.below d) f,tk (E.out.below d) f⟩
 have J:Hid (∀k,k<4->(∀j,j<k->(jd o).getD j 0=(jd b).getD j 0)->(jd o).getD k 0≠(jd b).getD k 0->eD o b=decide ((jd o).getD k 0<(jd b).getD k 0)):=λk f Q S=>GW f Q S;have M:Hid ((∀j,j<4->(jd o).getD j 0=(jd b).getD j 0)->eD o b=false):=IG;clear D E;obtain⟨xs,n⟩:∃xs:Nat->Nat,xs=λk=>(jd o).getD k 0:=⟨_,rfl⟩;obtain⟨ys,p⟩:∃ys:Nat->Nat,ys=λk=>(jd b).getD k 0:=⟨_,rfl⟩;have ac:Hid (∀W,af ((w.alloc (.cells (di m o).toArray 130)).alloc (.cells (di c b).toArray 130)) W->∀k,k<4->W.cell? ⟨w.heap.size,k,none⟩=some (.int .i64 ((xs k:Nat):Int))/\W.cell? ⟨w.heap.size+1,k,none⟩=some (.int .i64 ((ys k:Nat):Int))):=by rw[n,p];exact H
 have ad:Hid (∀k,k<4->(∀j,j<k->xs j=ys j)->xs k≠ys k->eD o b=decide (xs k<ys k)):=by rw[n,p];exact J
 have al:Hid ((∀j,j<4->xs j=ys j)->eD o b=false):=by rw[n,p];exact M
 clear H J M n p;generalize eD o b=F at*;generalize di m o=T at*;generalize di c b=vb at*;go_enter Tryz.func102,Tryz.ntmps102;go_wp2;generalize((w.alloc (.cells T.toArray 130)).alloc (.cells vb.toArray 130))=G at*;generalize w.heap.size=X at*;go_loopw [5] (λq wr=>∃k:Nat,k<=4/\q= .int .i64 k/\Hid (af G wr)/\Hid (∀j,j<k->xs j=ys j)) (λq _=>4-(intOf q).toNat)
 case atStart=>exact⟨0,by omega,rfl,Below.refl _ _,λj U=>by omega⟩
 case round=>
  obtain⟨k,f,rfl,d,l⟩:=hrel;by_cases N:k<4
  ·obtain⟨x,r⟩:∃x,x=xs k:=⟨_,rfl⟩;obtain⟨y,s⟩:∃y,y=ys k:=⟨_,rfl⟩;have v:(k:Int)<4:=oO;have t:Hid (∀W,af wr W->W.cell? ⟨X,k,none⟩=some (.int .i64 (x:Int))/\W.cell? ⟨X+1,k,none⟩=some (.int .i64 (y:Int))):=by
    show∀W,_;intro W z;rw[r,s];exact ac.out W (ab d.out z) k N
   have O:Hid (af G wr.drew):=ak d.out;have A:=Lib.hid r;have B:=Lib.hid s;clear r s;go_wp2_with fail
   refine yO (af wr) [1,2,3,4,5,6,7,8,9] (ak (Below.refl _ _)) ?_
   repeat refine zO t.out ?_
   refine ag ?_;have P:Hid (∀W,af wr.drew W->W.cell? ⟨X,k,none⟩=some (.int .i64 (x:Int))/\W.cell? ⟨X+1,k,none⟩=some (.int .i64 (y:Int))):=λW z=>t.out W (ab (ak (Below.refl _ _)) z);clear t;generalize wr.drew=V at*;by_cases g:x=y
   ·have Y:((x:Int)!=(y:Int))=false:=by rw[g];simp
    have Z:Hid (∀j,j<k+1->xs j=ys j):=by
     show∀j,_;intro j U;by_cases e:j=k
     ·rw[e,<-A.out,<-B.out];exact g
     ·exact l.out j oO
    clear g P;go_wp2_with fail
    exact⟨⟨k+1,by omega,by go_num,O.out,Z.out⟩,by simp[intOf];omega⟩
   ·have Y:((x:Int)!=(y:Int))=true:=by simp;omega
    have u:Hid (F=decide (x<y)):=by
     show _=_;rw[ad.out k N l.out (by rw[<-A.out,<-B.out];exact g),<-A.out,<-B.out]
    clear g;go_wp2_with fail
    refine yO (af V) [1,2,3,4,5,6,7,8,9,10] (ak (Below.refl _ _)) ?_
    repeat refine zO P.out ?_
    refine ag ?_;go_wp2_with fail
    go_ret;exact⟨by rw[u.out];rfl,i.out.trans ((ak O.out).mono i.out.size)⟩
  ·have v:k=4:=oO;have u:Hid (F=false):=al.out (by rw[<-v];exact l.out);clear l;subst v;go_wp2_with fail
   go_ret;exact⟨by rw[u.out];rfl,i.out.trans (d.out.mono i.out.size)⟩
open Go.RowKit Go.WideMaps Go.Maps
theorem l4 (a b:an):eD a b=true↔(a.num<b.num\/(a.num=b.num/\(a.v1<b.v1\/(a.v1=b.v1/\a.v2<b.v2)))):=by
 unfold eD;split
 ·rw[decide_eq_true_eq];omega
 ·split
  ·rw[decide_eq_true_eq];omega
  ·split
   ·rw[decide_eq_true_eq];omega
   ·constructor
    ·intro h;cases h
    ·intro h;omega
theorem FV {a b:an} (h:a.num<b.num):eD a b=true:=(l4 a b).2 (.inl h)
theorem tn {a b:an} (e:a.num=b.num) (h:a.v1<b.v1):eD a b=true:=(l4 a b).2 (.inr ⟨e,.inl h⟩)
theorem Ho {a b:an} (e:a.num=b.num) (e1:a.v1=b.v1) (h:a.v2<b.v2):eD a b=true:=(l4 a b).2 (.inr ⟨e,.inr ⟨e1,h⟩⟩)
theorem Bo {a b c:an} (d:eD a b=true) (e:eD b c=true):eD a c=true:=by
 rw[l4]at d e⊢;omega
theorem tZ (a:an):eD a a=false:=by
 rw[<-Bool.not_eq_true,l4];omega
theorem lM {o:an} (h:o.run≠0):o.v1=if o.long=true then 0 else o.run:=by unfold an.v1;rw[if_neg h]
theorem ua {o:an} (h:o.run≠0):o.v2=if o.long=true then o.run-31 else 0:=by unfold an.v2;rw[if_neg h]
theorem D6 {p:ByteArray} {C:Nat->Nat->Nat} (am:p.size<=4096) (h:cj p C) {a m:Nat} (r:a<p.size) (S:m<5) {b o:an} (F:cB C p a m=some b) (y:Atom p a m o) (G:o.aG C=C a m):
 b=o\/eD b o=true:=by
 unfold cB at F;have Q:=List.find?_some F;obtain⟨n,hn,d,X⟩:=qW 32 F;have c:=List.mem_of_find?_eq_some d;have a1:=zr r c;obtain⟨z,N,ap,av⟩:=y.opt (C:=C) r;have Y:(z.aG C==C a m)=true:=by
  have q:=(h.fix a r).1 m S z (jV N 32 y.ph);rw[beq_iff_eq];omega
 have Z:n<=o.num:=by
  rcases Nat.lt_or_ge o.num n with q|q
  ·have t:(z.aG C==C a m)=false:=X o.num q z N;rw[Y]at t;cases t
  ·exact q
 rcases Nat.eq_or_lt_of_le Z with T|a2
 ·have a3:b.num=o.num:=oO;rw[T]at d c;have a4:=rl r y.ph c;cases y with
  |chars n1 D i J=>
   replace c:b∈bC C p a m n1:=c;replace d:(bC C p a m n1).find? (λo=>o.aG C==C a m)=some b:=d;left;unfold bC at c;rw[if_pos i,if_pos J]at c;exact List.mem_singleton.1 c
  |fQ n1 D i=>
   replace c:b∈bC C p a m n1:=c;replace d:(bC C p a m n1).find? (λo=>o.aG C==C a m)=some b:=d;left;unfold bC at c;rw[if_neg oO,if_pos i]at c;exact List.mem_singleton.1 c
  |shift n1 s D i hs ac J=>
   replace c:b∈bC C p a m n1:=c;replace d:(bC C p a m n1).find? (λo=>o.aG C==C a m)=some b:=d;unfold bC at d;rw[if_neg oO,if_neg oO,if_pos i]at d;obtain⟨v,q,t,H⟩:=p7 32 d;have A:=List.mem_of_find?_eq_some t;have ad:(⟨n1,(s:Int),0,false,aj m+aj (modeF m n1),a+(cW (modeF m n1) s).size,m⟩:an)∈eW p a m n1 (modeF m n1) s:=by
    unfold eW;rw[if_pos ⟨ac,J⟩];exact List.mem_singleton.2 rfl
   have al:v<=s:=by
    rcases Nat.lt_or_ge s v with f|f
    ·have O:=H s f _ ad;rw[beq_eq_false_iff_ne]at O;exact absurd G O
    ·exact f
   have g:b=⟨n1,(v:Int),0,false,aj m+aj (modeF m n1),a+(cW (modeF m n1) v).size,m⟩:=by
    unfold eW at A;split at A
    ·exact List.mem_singleton.1 A
    ·cases A
   rcases Nat.eq_or_lt_of_le al with f|f
   ·left;rw[g,f]
   ·right;rw[g];exact tn rfl (by show(if(0:Nat)=0 then(v:Int).toNat else _)<(if(0:Nat)=0 then(s:Int).toNat else _);rw[if_pos rfl,if_pos rfl,Int.toNat_natCast,Int.toNat_natCast];exact f)
  |short n1 j D i q t H=>
   replace c:b∈bC C p a m n1:=c;replace d:(bC C p a m n1).find? (λo=>o.aG C==C a m)=some b:=d;have g:b=cR C n1 a m (p.size-a):=by
    unfold bC at c;rw[if_neg oO,if_neg oO,if_neg oO,if_pos i]at c;exact List.mem_singleton.1 c
   obtain⟨l,w⟩:=fR (C:=C) (num:=n1) (m:=m) r;rw[<-g]at l w;have M:b.aG C=(mT n1 a m j).aG C:=by
    have:b.aG C=C a m:=by simpa using Q
    rw[this];exact G.symm
   have B:=(jb (C:=C) (num:=n1) (a:=a) (m:=m) (K:=min (p.size-a) 2078-30) (min (p.size-a) 31)).2.1 j q oO (by show _=(cR C n1 a m (p.size-a)).aG C;rw[<-g];exact M.symm);have E:b.long=true\/b.run<=j:=by rw[g];exact B
   rcases l with l|⟨e,U,V,P⟩
   ·exact absurd l w
   cases u:b.long with
   |true=>
    right;rw[u]at e;rw[e];exact tn rfl (by rw[lM (by show b.run≠0;omega),lM (by show j≠0;omega)];show 0<j;omega)
   |false=>
    have W:b.run<=j:=by
     rcases E with h|h
     ·rw[u]at h;cases h
     ·exact h
    rw[u]at e;rcases Nat.eq_or_lt_of_le W with f|f
    ·left;rw[e,f];rfl
    ·right;rw[e];exact tn rfl (by rw[lM (by show b.run≠0;omega),lM (by show j≠0;omega)];exact f)
  |long n1 j D i q t H=>
   replace c:b∈bC C p a m n1:=c;replace d:(bC C p a m n1).find? (λo=>o.aG C==C a m)=some b:=d;have g:b=cR C n1 a m (p.size-a):=by
    unfold bC at c;rw[if_neg oO,if_neg oO,if_neg oO,if_pos i]at c;exact List.mem_singleton.1 c
   obtain⟨l,w⟩:=fR (C:=C) (num:=n1) (m:=m) r;rw[<-g]at l w;have M:b.aG C=(oe n1 a m j).aG C:=by
    have:b.aG C=C a m:=by simpa using Q
    rw[this];exact G.symm
   have B:=(jb (C:=C) (num:=n1) (a:=a) (m:=m) (K:=min (p.size-a) 2078-30) (min (p.size-a) 31)).1 (j-31) oO (by show _=(cR C n1 a m (p.size-a)).aG C;rw[<-g,show 31+(j-31)=j from by omega];exact M.symm);have E:b.long=true/\b.run<=j:=by
    rw[g];exact⟨B.1,by have:=B.2;unfold cR;omega⟩
   rcases l with l|⟨e,U,V,P⟩
   ·exact absurd l w
   have u:=E.1;have a0:=P u;rw[u]at e;rcases Nat.eq_or_lt_of_le E.2 with f|f
   ·left;rw[e,f];rfl
   ·right;rw[e];exact Ho rfl (by rw[lM (by show b.run≠0;omega),lM (by show j≠0;omega)];rfl) (by rw[ua (by show b.run≠0;omega),ua (by show j≠0;omega)];show b.run-31<j-31;omega)
 ·right;exact FV oO
def eQ (C:Nat->Nat->Nat) (L:List an) (x k:Nat) (fd:Bool) (ob:an):Prop:=
 (fd=false->∀j,j<k->∀o,L[j]?=some o->o.aG C≠x)/\(fd=true->ob∈L/\ob.aG C=x/\∀j,j<k->∀o,L[j]?=some o->o.aG C=x->eD o ob=false)
section
variable {C : Nat → Nat → Nat} {L : List an} {x k : Nat} {fd : Bool} {ob o : an}
theorem eQ.start (ob:an):eQ C L x 0 false ob:=⟨λ_ j h=>by omega,λh=>by cases h⟩
theorem eQ.skip (h:eQ C L x k fd ob) (g:L[k]?=some o) (i:o.aG C≠x):eQ C L x (k+1) fd ob:=by
 refine⟨λe j n d b=>?_,λe=>?_⟩
 ·rcases Nat.lt_or_ge j k with c|c
  ·exact h.1 e j c d b
  ·obtain rfl:j=k:=oO;rw[g]at b;rw[<-Option.some.inj b];exact i
 ·obtain⟨c,p,q⟩:=h.2 e;refine⟨c,p,λj n d b f=>?_⟩;rcases Nat.lt_or_ge j k with l|l
  ·exact q j l d b f
  ·obtain rfl:j=k:=oO;rw[g]at b;rw[<-Option.some.inj b]at f;exact absurd f i
theorem eQ.first (h:eQ C L x k false ob) (c:L[k]?=some o) (f:o.aG C=x):eQ C L x (k+1) true o:=by
 refine⟨λe=>(by cases e),λ_=>⟨List.mem_of_getElem? c,f,λj l g b i=>?_⟩⟩;rcases Nat.lt_or_ge j k with d|d
 ·exact absurd i (h.1 rfl j d g b)
 ·obtain rfl:j=k:=oO;rw[c]at b;rw[<-Option.some.inj b];exact tZ _
theorem eQ.cZ (h:eQ C L x k true ob) (d:L[k]?=some o) (hl:eD o ob=false):eQ C L x (k+1) true ob:=by
 obtain⟨f,g,i⟩:=h.2 rfl;refine⟨λe=>(by cases e),λ_=>⟨f,g,λj p l b n=>?_⟩⟩;rcases Nat.lt_or_ge j k with c|c
 ·exact i j c l b n
 ·obtain rfl:j=k:=oO;rw[d]at b;rw[<-Option.some.inj b];exact hl
theorem eQ.take (h:eQ C L x k true ob) (c:L[k]?=some o) (g:o.aG C=x) (hl:eD o ob=true):eQ C L x (k+1) true o:=by
 obtain⟨p,q,i⟩:=h.2 rfl;refine⟨λe=>(by cases e),λ_=>⟨List.mem_of_getElem? c,g,λj r l b n=>?_⟩⟩;rcases Nat.lt_or_ge j k with d|d
 ·have f:=i j d l b n;rw[<-Bool.not_eq_true]at f⊢;exactλe=>f (Bo e hl)
 ·obtain rfl:j=k:=oO;rw[c]at b;rw[<-Option.some.inj b];exact tZ _
end
theorem eQ.is {p:ByteArray} {C:Nat->Nat->Nat} (g:p.size<=4096) (h:cj p C) {a m:Nat} (b:a<p.size) (f:m<5) {i:an} (r:cB C p a m=some i) {fd:Bool} {ob:an} (hB:eQ C (dp p a m) (C a m) (dp p a m).length fd ob):fd=true/\ob=i:=by
 obtain⟨o,e,v,l,_⟩:=h.xL g a m b f;obtain rfl:o=i:=by rw[r]at e;exact(Option.some.inj e).symm
 have z:o∈dp p a m:=by
  rcases v.mem f b with d|⟨w,d,s,n,c⟩
  ·exact d
  ·have t:=(h.ac g).le a m b f w (iI b d);unfold an.aG at t l;rw[n,c]at t;omega
 obtain⟨j,q,y⟩:=List.getElem_of_mem z;have u:(dp p a m)[j]?=some o:=by rw[List.getElem?_eq_getElem q,y]
 cases fd with
 |false=>exact absurd l (hB.1 rfl j q o u)
 |true=>
  obtain⟨d,s,n⟩:=hB.2 rfl;refine⟨rfl,?_⟩;rcases D6 g h b f r (iI b d) s with c|c
  ·exact c.symm
  ·rw[n j q o u l]at c;cases c
theorem Atom.K7 {p:ByteArray} {a m:Nat} {o:an} (c:m<5) (h:Atom p a m o):(o.num=31/\m<=2)↔o.run≠0:=by
 have e:∀n,cf m n≠4->¬(n=31/\m<=2):=λn b h=>by
  obtain⟨e,d⟩:=h;subst e;exact b (qK m oO).1
 cases h with
 |chars n hn b f=>exact⟨λh=>absurd h (e n oO),λh=>absurd rfl h⟩
 |fQ n hn b=>exact⟨λh=>absurd h (e n oO),λh=>absurd rfl h⟩
 |shift n s hn b hs l f=>exact⟨λh=>absurd h (e n oO),λh=>absurd rfl h⟩
 |short n j hn b g d i=>exact⟨λ_=>by show j≠0;omega,λ_=>qc m c n hn b⟩
 |long n j hn b g d i=>exact⟨λ_=>by show j≠0;omega,λ_=>qc m c n hn b⟩
theorem Atom.KS {p:ByteArray} {a m:Nat} {o:an} (h:Atom p a m o) (c:o.run≠0):o.at_=a+o.run:=by
 cases h with
 |chars n hn b d=>exact absurd rfl c
 |fQ n hn b=>exact absurd rfl c
 |shift n s hn b hs i d=>exact absurd rfl c
 |short n j hn b e f g=>rfl
 |long n j hn b e f g=>rfl
theorem lU (v:Nat):aH v 0=[]:=rfl
theorem Atom.bits {p:ByteArray} {a m:Nat} {o:an} (h:Atom p a m o):bB p a m o=((aH o.num (aj m)++aH o.v1 o.w1)++aH o.v2 o.w2)++(if o.run≠0 then byF p a o.run else[]):=by
 cases h with
 |chars n hn b c=>simp[bB,gj,an.v1,an.v2,an.w1,an.w2,lU]
 |fQ n hn b=>simp[bB,gj,an.v1,an.v2,an.w1,an.w2,lU]
 |shift n s hn b hs g c=>simp[bB,gj,an.v1,an.v2,an.w1,an.w2,lU]
 |short n j hn b d e f=>simp[bB,gj,an.v1,an.v2,an.w1,an.w2,lU,show j≠0 by omega,show 0<j by omega]
 |long n j hn b d e f=>simp[bB,gj,an.v1,an.v2,an.w1,an.w2,show j≠0 by omega,show 0<j by omega]
theorem an.Lw (o:an):o.w1<=5/\o.w2<=11:=by
 unfold an.w1 an.w2;constructor
 ·split
  ·split<;>omega
  ·omega
 ·split
  ·omega
  ·split<;>omega
theorem Atom.vb {p:ByteArray} {a m:Nat} {o:an} (h:Atom p a m o):o.num<32/\o.v1<=32/\o.v2<=4096:=by
 cases h with
 |chars n hn b c=>exact⟨hn,Nat.zero_le _,Nat.zero_le _⟩
 |fQ n hn b=>exact⟨hn,Nat.zero_le _,Nat.zero_le _⟩
 |shift n s hn b hs g c=>exact⟨hn,by show s<=32;omega,Nat.zero_le _⟩
 |short n j hn b d e f=>
  refine⟨hn,?_,?_⟩
  ·rw[lM (by show j≠0;omega)];show j<=32;omega
  ·rw[ua (by show j≠0;omega)];exact Nat.zero_le _
 |long n j hn b d e f=>
  refine⟨hn,?_,?_⟩
  ·rw[lM (by show j≠0;omega)];exact Nat.zero_le _
  ·rw[ua (by show j≠0;omega)];show j-31<=4096;omega
end
end Go.Proofs.YtmnlkganmgcpbaaGreatDoor
