import Derived.Test.YtmnlkganmgcpbaaGreatDoorQd5
import Derived.Deep.RegionHeld3
set_option maxRecDepth 100000
set_option maxHeartbeats 4000000
set_option linter.unusedVariables false
set_option linter.unusedSectionVars false
set_option linter.unusedSimpArgs false
namespace Go.Proofs.YtmnlkganmgcpbaaGreatDoor
class Fl (K:Type) where
 add:K->K->K
 mul:K->K->K
 neg:K->K
 zero:K
 one:K
 add_assoc:∀a b c,add (add a b) c=add a (add b c)
 add_comm:∀a b,add a b=add b a
 zero_add:∀a,add zero a=a
 neg_add:∀a,add (neg a) a=zero
 mul_assoc:∀a b c,mul (mul a b) c=mul a (mul b c)
 mul_comm:∀a b,mul a b=mul b a
 one_mul:∀a,mul one a=a
 add_mul:∀a b c,mul (add a b) c=add (mul a c) (mul b c)
 H5:one≠zero
 M8:∀a b,mul a b=zero->a=zero\/b=zero
 dec:DecidableEq K
 Dk:List K
 nodup:Dk.Nodup
 mem:∀a,a∈Dk
namespace Fl
variable {K : Type} [Fl K]
instance:Add K:=⟨Fl.add⟩
instance:Mul K:=⟨Fl.mul⟩
instance:Neg K:=⟨Fl.neg⟩
instance:Sub K:=⟨λa b=>a+-b⟩
instance:Zero K:=⟨Fl.zero⟩
instance:One K:=⟨Fl.one⟩
instance:DecidableEq K:=Fl.dec
def npow (a:K):Nat->K
 |0=>1
 |n+1=>npow a n* a
instance:HPow K Nat K:=⟨npow⟩
instance:Std.Associative (α:=K) (·+·):=⟨Fl.add_assoc⟩
instance:Std.Commutative (α:=K) (·+·):=⟨Fl.add_comm⟩
instance:Std.Associative (α:=K) (·* ·):=⟨Fl.mul_assoc⟩
instance:Std.Commutative (α:=K) (·* ·):=⟨Fl.mul_comm⟩
end Fl
open Fl
variable {K : Type} [Fl K]
theorem iE (a b c:K):a+b+c=a+(b+c):=Fl.add_assoc a b c
theorem fe (a b:K):a+b=b+a:=Fl.add_comm a b
theorem cA (a:K):0+a=a:=Fl.zero_add a
theorem aX (a:K):a+0=a:=by rw[fe];exact cA a
theorem eK (a:K):-a+a=0:=Fl.neg_add a
theorem rZ (a:K):a+-a=0:=by rw[fe];exact eK a
theorem iQ (a b:K):a-b=a+-b:=rfl
theorem di (a b c:K):a* b* c=a* (b* c):=Fl.mul_assoc a b c
theorem cd (a b:K):a* b=b* a:=Fl.mul_comm a b
theorem eC (a:K):1* a=a:=Fl.one_mul a
theorem gl (a:K):a* 1=a:=by rw[cd];exact eC a
theorem iP (a b c:K):(a+b)* c=a* c+b* c:=Fl.add_mul a b c
theorem gX (a b c:K):a* (b+c)=a* b+a* c:=by rw[cd,iP,cd b,cd c]
theorem kr:(1:K)≠0:=Fl.H5
theorem yj {a b:K} (h:a* b=0):a=0\/b=0:=Fl.M8 a b h
theorem o9 {a b c:K} (h:a+b=a+c):b=c:=by
 have:=congrArg (λx=>-a+x) h;simpa[<-iE,eK,cA]using this
theorem fA {a b c:K} (h:b+a=c+a):b=c:=by
 rw[fe b,fe c]at h;exact o9 h
theorem bV (a:K):0* a=0:=by
 have h:0* a+0* a=0* a+0:=by rw[<-iP,aX,aX]
 exact o9 h
theorem aW (a:K):a* 0=0:=by rw[cd];exact bV a
theorem mK (a b:K):-a* b=-(a* b):=by
 apply fA (a:=a* b);rw[<-iP,eK,eK,bV]
theorem qZ (a b:K):a*-b=-(a* b):=by rw[cd,mK,cd]
theorem qO (a:K):- -a=a:=by
 apply fA (a:=-a);rw[eK,rZ]
theorem th:(-0:K)=0:=by
 apply fA (a:=(0:K));rw[eK,aX]
theorem vO (a b:K):-(a+b)=-a+-b:=by
 apply fA (a:=a+b);rw[eK,show-a+-b+(a+b)=(-a+a)+(-b+b)from by ac_rfl,eK,eK,aX]
theorem dL (a:K):a-a=0:=rZ a
theorem fG (a:K):a-0=a:=by rw[iQ,th,aX]
theorem ph (a b:K):a-b+b=a:=by rw[iQ,iE,eK,aX]
theorem jb {a b:K}:a-b=0↔a=b:=by
 constructor
 ·intro h;have:=ph a b;rw[h,cA]at this;exact this.symm
 ·intro h;subst h;exact dL a
theorem I8 (a b c:K):(a-b)* c=a* c-b* c:=by rw[iQ,iP,mK];rfl
theorem Jr (a b c:K):a* (b-c)=a* b-a* c:=by rw[iQ,gX,qZ];rfl
theorem kZ {a b c:K} (e:a≠0) (h:a* b=a* c):b=c:=by
 have f:a* (b-c)=0:=by rw[Jr,h,dL]
 rcases yj f with d|d
 ·exact absurd d e
 ·exact jb.1 d
theorem lN {a b:K} (c:a≠0) (hb:b≠0):a* b≠0:=by
 intro h;rcases yj h with h|h
 ·exact c h
 ·exact hb h
theorem gG {a b c:K} (d:a≠0) (h:b* a=c* a):b=c:=by
 rw[cd b,cd c]at h;exact kZ d h
theorem jm (a:K):a^0=1:=rfl
theorem eE (a:K) (n:Nat):a^(n+1)=a^n* a:=rfl
theorem kf (a:K) (m n:Nat):a^(m+n)=a^m* a^n:=by
 induction n with
 |zero=>rw[jm,gl];rfl
 |succ n b=>rw[<-Nat.add_assoc,eE,b,eE,di]
theorem iR (n:Nat):(1:K)^n=1:=by
 induction n with
 |zero=>rfl
 |succ n a=>rw[eE,a,eC]
theorem fq (a:K) (m n:Nat):a^(m* n)=(a^m)^n:=by
 induction n with
 |zero=>rfl
 |succ n b=>rw[Nat.mul_succ,kf,b,eE]
theorem rm (a b:K) (n:Nat):(a* b)^n=a^n* b^n:=by
 induction n with
 |zero=>rw[jm,jm,jm,eC]
 |succ n c=>rw[eE,eE,eE,c];ac_rfl
theorem Gj (n:Nat) (h:n≠0):(0:K)^n=0:=by
 obtain⟨m,rfl⟩:∃m,n=m+1:=⟨n-1,by omega⟩;rw[eE,aW]
theorem lA {a:K} (b:a≠0) (n:Nat):a^n≠0:=by
 induction n with
 |zero=>exact kr
 |succ n c=>rw[eE];exact lN c b
def im (K:Type) [Fl K]:Nat:=(Dk:List K).length
def kp (K:Type) [Fl K]:List K:=(Dk:List K).filter (λa=>a≠0)
theorem iD {a:K}:a∈kp K↔a≠0:=by
 unfold kp;simp[Fl.mem]
theorem qc:(kp K).Nodup:=Fl.nodup.filter _
theorem Jc:(Dk:List K).Perm (0::kp K):=by
 refine(List.perm_ext_iff_of_nodup Fl.nodup ?_).2 ?_
 ·rw[List.nodup_cons];exact⟨by rw[iD];simp,qc⟩
 ·intro a;simp only[Fl.mem,List.mem_cons,iD,true_iff];by_cases h:a=0
  ·exact .inl h
  ·exact .inr h
theorem l6:(kp K).length+1=im K:=by
 have:=(Jc (K:=K)).length_eq;simp only[List.length_cons]at this;exact this.symm
theorem ye:2<=im K:=by
 rw[<-l6];have h:(1:K)∈kp K:=iD.2 kr;have:=List.length_pos_of_mem h;omega
def prd:List K->K
 |[]=>1
 |a::l=>a* prd l
theorem ID {l m:List K} (h:l.Perm m):prd l=prd m:=by
 induction h with
 |nil=>rfl
 |cons x _ a=>simp only[prd,a]
 |swap x y l=>simp only[prd];ac_rfl
 |trans _ _ b c=>rw[b,c]
theorem CR (a:K) (l:List K):prd (l.map (a* ·))=a^l.length* prd l:=by
 induction l with
 |nil=>simp only[List.map_nil,prd,List.length_nil,jm,eC]
 |cons x l b=>simp only[List.map_cons,prd,b,List.length_cons,eE];ac_rfl
theorem L8 {l:List K} (h:∀a∈l,a≠0):prd l≠0:=by
 induction l with
 |nil=>exact kr
 |cons x l b=>exact lN (h x oS) (b λa c=>h a (by simp[c]))
theorem nA {α g:Type} {f:α->g} {l:List α} (c:∀a∈l,∀b∈l,f a=f b->a=b) (h:l.Nodup):(l.map f).Nodup:=by
 induction l with
 |nil=>simp
 |cons x l i=>
  rw[List.nodup_cons]at h;rw[List.map_cons,List.nodup_cons];refine⟨?_,i (λa j b hb=>c a (by simp[j]) b (by simp[hb])) h.2⟩;intro k;obtain⟨y,d,e⟩:=List.mem_map.1 k;have:=c y (by simp[d]) x oS e;subst this;exact h.1 d
theorem length_le_of_subset {α:Type} {l m:List α} (hl:l.Nodup) (h:∀a∈l,a∈m):l.length<=m.length:=by
 induction l generalizing m with
 |nil=>simp
 |cons x l d=>
  rw[List.nodup_cons]at hl;obtain⟨s,t,rfl⟩:=List.append_of_mem (h x oS)
  have:=d (m:=s++t) hl.2 (λa c=>by
   have b:=h a (by simp[c]);simp only[List.mem_append,List.mem_cons]at b⊢;rcases b with b|b|b
   ·exact .inl b
   ·subst b;exact absurd c hl.1
   ·exact .inr b)
  simp only[List.length_append,List.length_cons]at this⊢;omega
theorem qj {α:Type} {l m:List α} (hl:l.Nodup) (h:∀a∈l,a∈m) (d:m.length<=l.length):l.Perm m:=by
 induction l generalizing m with
 |nil=>
  have:m=[]:=List.length_eq_zero_iff.1 (by simpa using d);subst this;exact List.Perm.refl _
 |cons x l e=>
  rw[List.nodup_cons]at hl;obtain⟨s,t,rfl⟩:=List.append_of_mem (h x oS)
  have:=e (m:=s++t) hl.2 (λa c=>by
   have b:=h a (by simp[c]);simp only[List.mem_append,List.mem_cons]at b⊢;rcases b with b|b|b
   ·exact .inl b
   ·subst b;exact absurd c hl.1
   ·exact .inr b) (by simp only[List.length_append,List.length_cons]at d⊢;omega)
  exact(this.cons x).trans List.perm_middle.symm
theorem wH {a:K} (d:a≠0):a^(im K-1)=1:=by
 have g:((kp K).map (a* ·)).Perm (kp K):=by
  refine qj (nA (λx _ y _ e=>kZ d e) qc) ?_ oS;intro b hb;obtain⟨x,c,rfl⟩:=List.mem_map.1 hb;exact iD.2 (lN d (iD.1 c))
 have f:=ID g;rw[CR]at f;have i:prd (kp K)≠0:=L8 λx c=>iD.1 c;have j:(kp K).length=im K-1:=by have:=l6 (K:=K);omega
 rw[<-j];exact gG i (by rw[f,eC])
def eJ (a:K):K:=a^(im K-2)
theorem gr {a:K} (b:a≠0):a* eJ a=1:=by
 have h:=wH b;have:=ye (K:=K);rw[show im K-1=(im K-2)+1 from by omega,eE]at h;rw[cd];exact h
theorem Cl {a:K} (b:a≠0):eJ a* a=1:=by rw[cd,gr b]
theorem uf {a:K} (b:a≠0):eJ a≠0:=lA b _
theorem exists_least {P:Nat->Prop} (h:∃n,P n):∃n,P n/\∀m,m<n->¬P m:=by
 obtain⟨n,hn⟩:=h
 induction n using Nat.strongRecOn with
 |_ n d=>
  by_cases c:∃m,m<n/\P m
  ·obtain⟨m,a,b⟩:=c;exact d m a b
  ·exact⟨n,hn,λm a b=>c ⟨m,a,b⟩⟩
def dB (a:K) (k:Nat):Prop:=1<=k/\a^k=1/\∀m,1<=m->m<k->a^m≠1
theorem ti {a:K} (b:a≠0):∃k,dB a k:=by
 obtain⟨k,⟨c,d⟩,e⟩:=exists_least (P:=λk=>1<=k/\a^k=1) ⟨im K-1,by have:=ye (K:=K);omega,wH b⟩;exact⟨k,c,d,λm f i g=>e m i ⟨f,g⟩⟩
theorem dB.ne {a:K} {k:Nat} (h:dB a k):a≠0:=by
 intro e;subst e;have:=h.2.1;rw[Gj _ (by have:=h.1;omega)]at this;exact kr this.symm
theorem vw {a:K} {k:Nat} (h:a^k=1) (m:Nat):a^m=a^(m%k):=by
 conv=>lhs;rw[<-Nat.div_add_mod m k,kf,fq,h,iR,eC]
theorem dB.dvd {a:K} {k m:Nat} (h:dB a k):a^m=1↔k∣m:=by
 constructor
 ·intro e;rw[vw h.2.1]at e;by_cases b:m%k=0
  ·exact Nat.dvd_of_mod_eq_zero b
  ·exact absurd e (h.2.2 _ oO (Nat.mod_lt _ (by have:=h.1;omega)))
 ·rintro⟨c,rfl⟩;rw[fq,h.2.1,iR]
theorem dB.J1 {a:K} {k:Nat} (h:dB a k):k∣im K-1:=h.dvd.1 (wH h.ne)
theorem dB.le {a:K} {k:Nat} (h:dB a k):k<=im K-1:=
 Nat.le_of_dvd (by have:=ye (K:=K);omega) h.J1
theorem dB.inj {a:K} {k i j:Nat} (h:dB a k) (b:i<k) (c:j<k) (e:a^i=a^j):i=j:=by
 have d:∀i j,i<=j->i<k->j<k->a^i=a^j->i=j:=by
  intro i j g b c e;have e2:a^i* a^(j-i)=a^i* 1:=by rw[<-kf,gl,show i+(j-i)=j from by omega];exact e.symm
  have e3:=kZ (lA h.ne i) e2;by_cases f:j-i=0
  ·omega
  ·exact absurd e3 (h.2.2 _ oO oO)
 rcases Nat.le_total i j with hl|hl
 ·exact d i j hl b c e
 ·exact(d j i hl c b e.symm).symm
theorem dB.pow {a:K} {d e:Nat} (h:dB a (d* e)) (c:1<=d):dB (a^d) e:=by
 refine⟨?_,by rw[<-fq];exact h.2.1,?_⟩
 ·rcases Nat.eq_zero_or_pos e with b|b
  ·subst b;have:=h.1;omega
  ·exact b
 ·intro m g i f;rw[<-fq]at f;have:d* m<d* e:=Nat.mul_lt_mul_of_pos_left i c;exact h.2.2 _ (Nat.mul_pos c g) this f
theorem dB.mul {a b:K} {m k:Nat} (c:dB a m) (hb:dB b k) (hc:Nat.Coprime m k):dB (a* b) (m* k):=by
 have g:1<=m* k:=Nat.mul_pos c.1 hb.1;have e:(a* b)^(m* k)=1:=by
  rw[rm,fq,c.2.1,iR,Nat.mul_comm,fq,hb.2.1,iR,eC]
 refine⟨g,e,?_⟩;intro j f i d;have e1:k∣j:=by
  have:b^(m* j)=1:=by
   have:=congrArg (λx=>x^m) d;simp only[iR,<-fq]at this;rw[rm,Nat.mul_comm j m,fq a,c.2.1,iR,eC]at this;exact this
  exact hc.symm.dvd_of_dvd_mul_left (hb.dvd.1 this)
 have e2:m∣j:=by
  have:a^(k* j)=1:=by
   have:=congrArg (λx=>x^k) d;simp only[iR,<-fq]at this;rw[rm,Nat.mul_comm j k,fq b,hb.2.1,iR,gl]at this;exact this
  exact hc.dvd_of_dvd_mul_left (c.dvd.1 this)
 have:=Nat.le_of_dvd f (hc.mul_dvd_of_dvd_of_dvd e2 e1);omega
theorem strip (q:Nat) (hq:2<=q) (m:Nat) (b:1<=m):∃t r,m=q^t* r/\¬q∣r:=by
 induction m using Nat.strongRecOn with
 |_ m d=>
  by_cases h:q∣m
  ·obtain⟨c,rfl⟩:=h;have hc:1<=c:=by
    rcases Nat.eq_zero_or_pos c with a|a
    ·subst a;simp at b
    ·exact a
   obtain⟨t,r,e,f⟩:=d c (by have:=Nat.mul_le_mul_right c hq;omega) hc;exact⟨t+1,r,by rw[e,Nat.pow_succ];ac_rfl,f⟩
  ·exact⟨0,m,by simp,h⟩
theorem By (c:Nat) (hc:2<=c):∃q,2<=q/\q∣c/\∀d,d∣q->d=1\/d=q:=by
 obtain⟨q,⟨e,b⟩,f⟩:=exists_least (P:=λq=>2<=q/\q∣c) ⟨c,hc,Nat.dvd_refl c⟩;refine⟨q,e,b,λd a=>?_⟩;have j:d≠0:=by intro h;subst h;have:=Nat.eq_zero_of_zero_dvd a;omega
 have k:=Nat.le_of_dvd oO a;by_cases g:d=1
 ·exact .inl g
 by_cases i:d=q
 ·exact .inr i
 exact absurd ⟨by omega,Nat.dvd_trans a b⟩ (f d oO)
theorem oP {q r:Nat} (hq:∀d,d∣q->d=1\/d=q) (h:¬q∣r):Nat.Coprime q r:=by
 rcases hq (Nat.gcd q r) (Nat.gcd_dvd_left q r)with a|a
 ·exact a
 ·exact absurd (a▸Nat.gcd_dvd_right q r) h
theorem zy {a b:K} {m k:Nat} (j:dB a m) (hb:dB b k) (hn:¬k∣m):∃c l,dB (c:K) l/\m<l:=by
 have hg:Nat.gcd k m∣k:=Nat.gcd_dvd_left k m;obtain⟨c,hc⟩:=hg;have G:1<=Nat.gcd k m:=Nat.gcd_pos_of_pos_left _ hb.1;have z:2<=c:=by
  rcases Nat.lt_or_ge c 2 with h|h
  ·have:c=0\/c=1:=oO;rcases this with d|d
   ·subst d;have:=hb.1;rw[Nat.mul_zero]at hc;omega
   ·subst d;rw[Nat.mul_one]at hc;exact absurd (hc▸Nat.gcd_dvd_right k m) hn
  ·exact h
 obtain⟨q,o,A,B⟩:=By c z;obtain⟨s,f,g,p⟩:=strip q o k hb.1;obtain⟨t,n,i,C⟩:=strip q o m j.1;have D:t<s:=by
  rcases Nat.lt_or_ge t s with h|h
  ·exact h
  ·exfalso;have u:q^s∣m:=by rw[i];exact Nat.dvd_trans (Nat.pow_dvd_pow q h) (Nat.dvd_mul_right _ _)
   have v:q^s∣k:=by rw[g];exact Nat.dvd_mul_right _ _
   obtain⟨e,w⟩:=Nat.dvd_gcd v u;have x:q^s* f=q^s* (e* c):=by rw[<-g,<-Nat.mul_assoc,<-w,<-hc]
   have y:f=e* c:=Nat.eq_of_mul_eq_mul_left (Nat.pow_pos oO) x;exact p (y▸Nat.dvd_trans A (Nat.dvd_mul_left c e))
 have E:dB (b^f) (q^s):=dB.pow (by rw[Nat.mul_comm,<-g];exact hb) (by
  rcases Nat.eq_zero_or_pos f with d|d
  ·subst d;exact absurd (Nat.dvd_zero q) p
  ·exact d)
 have r:dB (a^(q^t)) n:=dB.pow (by rw[<-i];exact j) (Nat.pow_pos oO);refine⟨_,_,dB.mul E r (Nat.Coprime.pow_left s (oP B C)),?_⟩;have F:1<=n:=r.1;have:q^t<q^s:=Nat.pow_lt_pow_right oO D;rw[i];exact Nat.mul_lt_mul_of_pos_right this F
def ev (x:K):List K->K
 |[]=>0
 |c::t=>c+x* ev x t
def sd (r:K):List K->List K
 |[]=>[]
 |[_]=>[]
 |_::d::t=>ev r (d::t)::sd r (d::t)
theorem GW (r:K) (p:List K):(sd r p).length=p.length-1:=by
 induction p with
 |nil=>rfl
 |cons c t a=>cases t with
  |nil=>rfl
  |cons d t=>simp only[sd,List.length_cons]at a⊢;omega
theorem MX (r x:K) (p:List K):ev x p=(x-r)* ev x (sd r p)+ev r p:=by
 induction p with
 |nil=>simp only[ev,sd,aW,aX]
 |cons c t a=>cases t with
  |nil=>simp only[ev,sd,aW,aX,cA]
  |cons d t=>
   have e1:ev x (c::d::t)=c+x* ev x (d::t):=rfl;have e2:ev r (c::d::t)=c+r* ev r (d::t):=rfl;have e3:ev x (sd r (c::d::t))=ev r (d::t)+x* ev x (sd r (d::t)):=rfl;rw[e1,e2,e3,a];generalize ev r (d::t)=u;generalize ev x (sd r (d::t))=v;simp only[gX,iQ,iP];rw[show x* u+-r* u+(x* (x* v)+-r* (x* v))+(c+r* u)=(-r* u+r* u)+(c+(x* (x* v)+x* (-r* v)+x* u))from by ac_rfl];rw[show-r* u+r* u=0 from by rw[mK,eK],cA]
theorem LG (r:K) (p:List K) (h:2<=p.length):(sd r p).getLast?=p.getLast?:=by
 induction p with
 |nil=>simp at h
 |cons c t a=>cases t with
  |nil=>simp at h
  |cons d t=>
   cases t with
   |nil=>simp[sd,ev,aW,aX]
   |cons e t=>
    have:=a oS;have b:sd r (c::d::e::t)=ev r (d::e::t)::sd r (d::e::t):=rfl;rw[b];have f:sd r (d::e::t)=ev r (e::t)::sd r (e::t):=rfl;rw[f]at this⊢;simp only[List.getLast?_cons_cons]at this⊢;exact this
theorem BX (p:List K) (c:K) (hc:p.getLast?=some c) (i:c≠0) (l:List K) (hl:l.Nodup) (b:∀x∈l,ev x p=0):l.length<p.length:=by
 induction l generalizing p with
 |nil=>
  have:p≠[]:=by intro h;subst h;simp at hc
  exact List.length_pos_iff.2 this
 |cons r l g=>
  rw[List.nodup_cons]at hl;by_cases a:2<=p.length
  ·have:=g (sd r p) (by rw[LG r p a];exact hc) hl.2 (by
    intro x f;have e:=MX r x p;rw[b x (by simp[f]),b r oS,aX]at e;rcases yj e.symm with h|h
    ·rw[jb]at h;subst h;exact absurd f hl.1
    ·exact h)
   rw[GW]at this;simp only[List.length_cons];omega
  ·exfalso
   match p,hc,a with
   |[],hc,_=>simp at hc
   |[d],hc,_=>
    have:d=c:=by simpa using hc
    subst this;have:=b r oS;simp only[ev,aW,aX]at this;exact i this
   |_::_::_,_,a=>simp at a
theorem MY (x:K) (e:Nat):ev x (List.replicate e (0:K)++[1])=x^e:=by
 induction e with
 |zero=>simp only[List.replicate_zero,List.nil_append,ev,aW,aX,jm]
 |succ e a=>simp only[List.replicate_succ,List.cons_append,ev,a,cA,eE];exact cd _ _
theorem wZ {e:Nat} (f:1<=e) (h:∀a:K,a≠0->a^e=1):im K-1<=e:=by
 obtain⟨e,rfl⟩:∃d,e=d+1:=⟨e-1,by omega⟩
 have:=BX (K:=K) (-1::(List.replicate e (0:K)++[1])) 1 (by rw[List.getLast?_cons];simp) kr (kp K) qc (by
  intro x b;have c:=h x (iD.1 b);simp only[ev,MY]
  rw[cd,<-eE,c,eK])
 simp only[List.length_cons,List.length_append,List.length_replicate,List.length_nil]at this;have:=l6 (K:=K);omega
theorem Mh:∃g:K,dB g (im K-1):=by
 have key:∀d:Nat,∀a:K,∀m,dB a m->im K-1-m<=d->∃g:K,dB g (im K-1):=by
  intro d
  induction d with
  |zero=>
   intro a m h e;have:=h.le;obtain rfl:m=im K-1:=oO;exact⟨a,h⟩
  |succ d n=>
   intro a m h e;by_cases j:∀b:K,b≠0->b^m=1
   ·have:=wZ h.1 j;have:=h.le;obtain rfl:m=im K-1:=oO;exact⟨a,h⟩
   ·have:∃b:K,b≠0/\b^m≠1:=by
     apply Classical.byContradiction;intro p;exact j λb hb=>Classical.byContradiction λo=>p ⟨b,hb,o⟩
    obtain⟨b,hb,q⟩:=this;obtain⟨k,f⟩:=ti hb;obtain⟨c,l,i,r⟩:=zy h f (λe=>q (f.dvd.2 e));exact n c l i (by have:=i.le;omega)
 exact key (im K) 1 1 ⟨Nat.le_refl 1,iR 1,λm s r=>by omega⟩ oO
def oL (p:Nat):Bool:=(List.range (2^((bl p-1)/2+1))).all λq=>decide (q<2)||cmod p q !=0
theorem vC (p:Nat):oL p=true↔∀q,2<=q->2* (bl q-1)<=bl p-1->cmod p q≠0:=by
 unfold oL;rw[List.all_eq_true];constructor
 ·intro h q a b;have hb:=ie q oO;have:=h q (List.mem_range.2 ((bD _ _).1 oO));simp at this;omega
 ·intro h q hq;have c:=(bD q _).2 (List.mem_range.1 hq);by_cases a:q<2
  ·simp[a]
  ·have:=h q oO (by have:=ie q oO;omega);simp[this]
def kF (n:Nat):Bool:=decide (2<=n)&&(List.range (n+1)).all λd=>decide (d<2)||decide (n<d* d)||n%d !=0
theorem rJ (n:Nat):kF n=true↔2<=n/\∀d,2<=d->d* d<=n->n%d≠0:=by
 unfold kF;rw[Bool.and_eq_true,List.all_eq_true,decide_eq_true_iff];constructor
 ·rintro⟨a,h⟩;refine⟨a,λd b c=>?_⟩;have f:d<=n:=Nat.le_trans (Nat.le_mul_of_pos_left d oO) c;have:=h d (List.mem_range.2 oO);simp at this;omega
 ·rintro⟨a,h⟩;refine⟨a,λd _=>?_⟩;by_cases b:d<2
  ·simp[b]
  ·by_cases e:n<d* d
   ·simp[e]
   ·have:=h d oO oO;simp[this]
theorem Hv {n:Nat} (h:kF n=true):∀d,d∣n->d=1\/d=n:=by
 obtain⟨i,b⟩:=(rJ n).1 h;intro d f;obtain⟨e,a⟩:=f;have j:d≠0:=by intro h;subst h;omega
 have k:e≠0:=by intro h;subst h;omega
 by_cases c:d=1
 ·exact .inl c
 by_cases e1:e=1
 ·subst e1;right;omega
 exfalso;by_cases g:d<=e
 ·have:d* d<=n:=by rw[a];exact Nat.mul_le_mul_left d g
  exact b d oO this (by rw[a];exact Nat.mul_mod_right d e)
 ·have:e* e<=n:=by rw[a];exact Nat.mul_le_mul_right e oO
  exact b e oO this (Nat.mod_eq_zero_of_dvd ⟨d,by rw[a,Nat.mul_comm]⟩)
theorem Mk {p d:Nat} (c:bl p=d+1) (e:1<=d) (h:oL p=true):M5 p:=by
 refine⟨by omega,λq hq a b=>?_⟩;exact(vC p).1 h q hq a ((ox p q oO).2 b)
def VF (c s p:Nat):Prop:=
 (p=0/\c=s/\2<s/\s<=4096/\kF s=true)\/(∃d,1<=d/\d<=12/\bl p=d+1/\s=2^d/\c=2/\oL p=true)
def bQ (s p a b:Nat):Nat:=if p=0 then(a+b)%s else a^^^b
def ui (s p a:Nat):Nat:=if p=0 then(s-a)%s else a
structure El (s:Nat) where
 val:Nat
 lt:val<s
theorem El.ext {s:Nat} {a b:El s} (h:a.val=b.val):a=b:=by
 cases a;cases b;simp only at h;subst h;rfl
theorem VF.aR {c s p:Nat} (h:VF c s p):2<=s:=by
 rcases h with⟨-,-,h,-⟩|⟨d,a,-,-,h,-⟩
 ·omega
 ·rw[h];exact Nat.pow_le_pow_right (n:=2) oO a
theorem VF.le {c s p:Nat} (h:VF c s p):s<=4096:=by
 rcases h with⟨-,-,-,h,-⟩|⟨d,-,a,-,h,-⟩
 ·omega
 ·rw[h];exact Nat.pow_le_pow_right (n:=2) oO a
theorem kl {c s p:Nat} (h:VF c s p) (a b:Nat) (f:a<s) (hb:b<s):bQ s p a b<s:=by
 have g:=h.aR;unfold bQ;rcases h with⟨e,-⟩|⟨d,-,-,e,hs,-⟩
 ·rw[if_pos e];exact Nat.mod_lt _ oO
 ·rw[if_neg (by intro h;subst h;rw[fy]at e;omega)];subst hs;exact Nat.xor_lt_two_pow f hb
theorem KI {c s p:Nat} (h:VF c s p) (a:Nat) (b:a<s):ui s p a<s:=by
 unfold ui;split
 ·exact Nat.mod_lt _ (by have:=h.aR;omega)
 ·exact b
theorem bN {c s p:Nat} (h:VF c s p) (a b:Nat):aF s p a b<s:=by
 have g:=h.aR;unfold aF;rcases h with⟨e,-⟩|⟨d,-,-,e,hs,-⟩
 ·rw[if_pos e];exact Nat.mod_lt _ oO
 ·have f:p≠0:=by intro h;subst h;rw[fy]at e;omega
  rw[if_neg f];subst hs;exact(bD _ _).1 (by have:=lL (bX a b) p f;omega)
theorem o7 (a b n:Nat):(a%n)* b%n=a* b%n:=by rw[Nat.mul_mod,Nat.mod_mod,<-Nat.mul_mod]
theorem uo (a b n:Nat):a* (b%n)%n=a* b%n:=by rw[Nat.mul_mod,Nat.mod_mod,<-Nat.mul_mod]
theorem Da (a s:Nat) (b:a<s):((s-a)%s+a)%s=0:=by
 by_cases h:a=0
 ·subst h;simp
 ·rw[Nat.mod_eq_of_lt (by omega:s-a<s),show s-a+a=s from by omega,Nat.mod_self]
instance MG (s:Nat):DecidableEq (El s):=λa b=>
 if h:a.val=b.val then isTrue (El.ext h)else isFalse (λe=>h (by rw[e]))
theorem CO {c s p:Nat} (h:VF c s p) (a b:Nat) (j:a<s) (hb:b<s) (e:aF s p a b=0):a=0\/b=0:=by
 unfold aF at e;rcases h with⟨f,-,-,-,m⟩|⟨d,k,-,f,hs,-,n⟩
 ·rw[if_pos f]at e;have l:=Nat.dvd_of_mod_eq_zero e;by_cases g:s∣a
  ·left;by_cases o:a=0
   ·exact o
   ·exact absurd (Nat.le_of_dvd oO g) oO
  ·right;have hc:=oP (Hv m) g;have q:=hc.dvd_of_dvd_mul_left l;by_cases r:b=0
   ·exact r
   ·exact absurd (Nat.le_of_dvd oO q) oO
 ·have i:p≠0:=by intro h;subst h;rw[fy]at f;omega
  rw[if_neg i]at e;subst hs;have t:=(bD _ _).2 j;have u:=(bD _ _).2 hb;rcases Mx p a b (Mk f k n) ((ox _ _ i).1 e)with h|h
  ·exact .inl (qM h oO)
  ·exact .inr (qM h oO)
@[reducible] def eN {c s p:Nat} (h:VF c s p):Fl (El s) where
 add a b:=⟨bQ s p a.val b.val,kl h _ _ a.lt b.lt⟩
 mul a b:=⟨aF s p a.val b.val,bN h _ _⟩
 neg a:=⟨ui s p a.val,KI h _ a.lt⟩
 zero:=⟨0,by have:=h.aR;omega⟩
 one:=⟨1,by have:=h.aR;omega⟩
 add_assoc a b c:=El.ext (by
  simp only[bQ];split
  ·rw[Nat.mod_add_mod,Nat.add_mod_mod,Nat.add_assoc]
  ·exact Nat.xor_assoc _ _ _)
 add_comm a b:=El.ext (by
  simp only[bQ];split
  ·rw[Nat.add_comm]
  ·exact Nat.xor_comm _ _)
 zero_add a:=El.ext (by
  simp only[bQ];split
  ·rw[Nat.zero_add];exact Nat.mod_eq_of_lt a.lt
  ·exact Nat.zero_xor _)
 neg_add a:=El.ext (by
  simp only[bQ,ui];split
  ·exact Da _ _ a.lt
  ·exact Nat.xor_self _)
 mul_assoc a b c:=El.ext (by
  simp only[aF];split
  ·rw[o7,uo,Nat.mul_assoc]
  ·rename_i hp;rw[mw _ _ _ hp,wu _ _ _ hp,rr])
 mul_comm a b:=El.ext (by
  simp only[aF];split
  ·rw[Nat.mul_comm]
  ·rw[nj])
 one_mul a:=El.ext (by
  simp only[aF];rcases h with⟨hp,-⟩|⟨d,-,-,hp,hs,-⟩
  ·rw[if_pos hp,Nat.one_mul];exact Nat.mod_eq_of_lt a.lt
  ·have f:p≠0:=by intro h;subst h;rw[fy]at hp;omega
   rw[if_neg f,vz];have:=a.lt;subst hs
   exact kh _ _ (by have:=(bD _ _).2 this;omega))
 add_mul a b c:=El.ext (by
  simp only[aF,bQ];split
  ·rw[o7,Nat.add_mul,Nat.mod_add_mod,Nat.add_mod_mod]
  ·rename_i hp;rw[qH,Bm _ _ _ hp])
 H5:=by intro e;have:=congrArg El.val e;simp at this
 M8 a b e:=by
  rcases CO h a.val b.val a.lt b.lt (congrArg El.val e)with h|h
  ·exact .inl (El.ext h)
  ·exact .inr (El.ext h)
 dec:=MG s
 Dk:=(List.finRange s).map λi=>⟨i.val,i.isLt⟩
 nodup:=nA (λa _ b _ e=>Fin.ext (congrArg El.val e)) (List.nodup_finRange s)
 mem a:=List.mem_map.2 ⟨⟨a.val,a.lt⟩,List.mem_finRange _,rfl⟩
theorem ko {c s p:Nat} (h:VF c s p):@im (El s) (eN h)=s:=by
 show((List.finRange s).map _).length=s;simp
def fpowN (s p a:Nat):Nat->Nat
 |0=>1
 |n+1=>aF s p (fpowN s p a n) a
theorem fV {c s p:Nat} (h:VF c s p) (a:El s) (n:Nat):fpowN s p a.val n=(@HPow.hPow (El s) Nat (El s) (@Fl.instHPowNat (El s) (eN h)) a n).val:=by
 induction n with
 |zero=>rfl
 |succ n b=>simp only[fpowN];rw[b];rfl
section
variable {c s p : Nat} (h : VF c s p)
include h
theorem vP (a n:Nat):fpowN s p a n<s:=by
 cases n with
 |zero=>have:=h.aR;show 1<s;omega
 |succ n=>exact bN h _ _
theorem JE (a:Nat) (b:a<s):aF s p 1 a=a:=by
 letI:=eN h
 let x:El s:=⟨a,b⟩
 show((1:El s)* x).val=x.val;rw[eC]
theorem Bk (a:Nat) (b:a<s):aF s p a 1=a:=by
 letI:=eN h
 let x:El s:=⟨a,b⟩
 show(x* (1:El s)).val=x.val;rw[gl]
end
def mO (s p a k:Nat):Prop:=1<=k/\fpowN s p a k=1/\∀m,1<=m->m<k->fpowN s p a m≠1
theorem mO.unique {s p a k l:Nat} (h:mO s p a k) (g:mO s p a l):k=l:=by
 by_cases b:k<l
 ·exact absurd h.2.1 (g.2.2 k h.1 b)
 ·by_cases d:l<k
  ·exact absurd g.2.1 (h.2.2 l g.1 d)
  ·omega
section
variable {c s p : Nat} (h : VF c s p)
include h
theorem iu (x:El s) (n:Nat):fpowN s p x.val n=1↔(letI:=eN h;x^n=(1:El s)):=by
 rw[fV h];constructor
 ·intro e;exact El.ext e
 ·intro e;exact congrArg El.val e
theorem oY (x:El s) (k:Nat):mO s p x.val k↔(letI:=eN h;dB x k):=by
 letI:=eN h
 constructor
 ·rintro⟨a,b,d⟩;exact⟨a,(iu h x k).1 b,λm f g e=>d m f g ((iu h x m).2 e)⟩
 ·rintro⟨a,b,d⟩;exact⟨a,(iu h x k).2 b,λm f g e=>d m f g ((iu h x m).1 e)⟩
theorem ki (x:El s):(letI:=eN h;x≠(0:El s))↔x.val≠0:=by
 letI:=eN h
 constructor
 ·intro e e2;exact e (El.ext e2)
 ·intro e e2;exact e (congrArg El.val e2)
theorem CD (a:Nat) (d:a<s) (e:a≠0):∃k,mO s p a k/\k<=s-1:=by
 letI:=eN h
 let x:El s:=⟨a,d⟩
 obtain⟨k,b⟩:=ti ((ki h x).2 e);have:=b.le;rw[ko h]at this;exact⟨k,(oY h x k).2 b,this⟩
def I2 (s p g:Nat):Prop:=1<=g/\g<s/\mO s p g (s-1)/\∀x,1<=x->x<g->¬mO s p x (s-1)
theorem CU:∃g,I2 s p g:=by
 letI:=eN h
 obtain⟨x,a⟩:=Mh (K:=El s);rw[ko h]at a;have l:=(ki h x).1 a.ne;obtain⟨g,⟨b,d,e⟩,f⟩:=exists_least (P:=λg=>1<=g/\g<s/\mO s p g (s-1)) ⟨x.val,by omega,x.lt,(oY h x _).2 a⟩;exact⟨g,b,d,e,λy i k j=>f y k ⟨i,by omega,j⟩⟩
end
noncomputable def tf (s p a:Nat):Nat:=@dite Nat (∃k,mO s p a k) (Classical.propDecidable _) (λh=>Classical.choose h) (λ_=>0)
theorem Ds {s p a k:Nat} (h:mO s p a k):tf s p a=k:=by
 have b:∃k,mO s p a k:=⟨k,h⟩;unfold tf;rw[dif_pos b];exact(Classical.choose_spec b).unique h
theorem yx {c s p a:Nat} (h:VF c s p) (d:a<s) (e:a≠0):mO s p a (tf s p a)/\tf s p a<=s-1:=by
 obtain⟨k,b,f⟩:=CD h a d e;rw[Ds b];exact⟨b,f⟩
noncomputable def az (s p:Nat):Nat:=@dite Nat (∃k,I2 s p k) (Classical.propDecidable _) (λh=>Classical.choose h) (λ_=>0)
theorem j8 {c s p:Nat} (h:VF c s p):I2 s p (az s p):=by
 have a:=CU h;unfold az;rw[dif_pos a];exact Classical.choose_spec a
theorem KX {c s p:Nat} (h:VF c s p) {i j:Nat} (a:i<s-1) (b:j<s-1) (e:fpowN s p (az s p) i=fpowN s p (az s p) j):i=j:=by
 have hg:=j8 h
 letI:=eN h
 let x:El s:=⟨az s p,hg.2.1⟩
 have d:dB x (s-1):=(oY h x _).1 hg.2.2.1;refine d.inj a b ?_;have e2:(x^i).val=(x^j).val:=by rw[<-fV h,<-fV h];exact e
 exact El.ext e2
theorem IG {c s p:Nat} (h:VF c s p) {a:Nat} (g:a<s) (k:a≠0):∃j,j<s-1/\fpowN s p (az s p) j=a:=by
 have hg:=j8 h
 letI:=eN h
 let x:El s:=⟨az s p,hg.2.1⟩
 have f:dB x (s-1):=(oY h x _).1 hg.2.2.1
 let l:List (El s):=(List.range (s-1)).map λj=>x^j
 have hn:l.Nodup:=nA (λi m j b e=>f.inj (List.mem_range.1 m) (List.mem_range.1 b) e) List.nodup_range;have q:∀y∈l,y∈kp (El s):=by
  intro y d;obtain⟨j,_,rfl⟩:=List.mem_map.1 d;exact iD.2 (lA f.ne j)
 have r:(kp (El s)).length<=l.length:=by
  have n:=l6 (K:=El s);rw[ko h]at n;simp[l];omega
 have o:=qj hn q r
 let y:El s:=⟨a,g⟩
 have d:y∈l:=o.mem_iff.2 (iD.2 ((ki h y).2 k));obtain⟨j,b,e⟩:=List.mem_map.1 d;exact⟨j,List.mem_range.1 b,by rw[show az s p=x.val from rfl,fV h];exact congrArg El.val e⟩
noncomputable def eB (s p a:Nat):Nat:=@dite Nat (∃j,j<s-1/\fpowN s p (az s p) j=a) (Classical.propDecidable _) (λh=>Classical.choose h) (λ_=>0)
theorem ep {c s p a:Nat} (h:VF c s p) (d:a<s) (e:a≠0):eB s p a<s-1/\fpowN s p (az s p) (eB s p a)=a:=by
 have b:=IG h d e;unfold eB;rw[dif_pos b];exact Classical.choose_spec b
theorem KV {c s p a j:Nat} (h:VF c s p) (d:a<s) (f:a≠0) (g:j<s-1) (e:fpowN s p (az s p) j=a):eB s p a=j:=by
 have b:=ep h d f;exact KX h b.1 g (b.2.trans e.symm)
def cN (s p a b:Nat):Nat:=if p=0 then(a+s-b)%s else a^^^b
def dU (s p a:Nat):Nat:=fpowN s p a (s-2)
section
variable {c s p : Nat} (h : VF c s p)
include h
theorem zo (x y:El s):cN s p x.val y.val=(letI:=eN h;(x-y:El s).val):=by
 show cN s p x.val y.val=bQ s p x.val (ui s p y.val);unfold cN bQ ui;split
 ·rw[Nat.add_mod_mod];have:=y.lt;rw[show x.val+s-y.val=x.val+(s-y.val)from by omega]
 ·rfl
theorem Gl {x y:Nat} (a:x<s) (b:y<s):bQ s p x y=bQ s p y x:=by
 letI:=eN h
 exact congrArg El.val (fe (⟨x,a⟩:El s) ⟨y,b⟩)
theorem sC {x:Nat} (a:x<s):bQ s p x 0=x:=by
 letI:=eN h
 exact congrArg El.val (aX (⟨x,a⟩:El s))
theorem Fe {x y z:Nat} (a:x<s) (b:y<s) (d:z<s):aF s p (aF s p x y) z=aF s p x (aF s p y z):=by
 letI:=eN h
 exact congrArg El.val (di (⟨x,a⟩:El s) ⟨y,b⟩ ⟨z,d⟩)
theorem Gu {x y:Nat} (a:x<s) (b:y<s):aF s p x y=aF s p y x:=by
 letI:=eN h
 exact congrArg El.val (cd (⟨x,a⟩:El s) ⟨y,b⟩)
theorem pr {x:Nat} (a:x<s):aF s p x 0=0:=by
 letI:=eN h
 exact congrArg El.val (aW (⟨x,a⟩:El s))
theorem og {x y:Nat} (a:x<s) (b:y<s):cN s p x y<s:=by
 letI:=eN h
 have e:cN s p x y=_:=zo h ⟨x,a⟩ ⟨y,b⟩;rw[e];exact El.lt _
theorem mz {x:Nat}:dU s p x<s:=vP h _ _
theorem BV {x:Nat} (b:x<s) (d:x≠0):aF s p x (dU s p x)=1:=by
 letI:=eN h
 let a:El s:=⟨x,b⟩
 have hc:im (El s)=s:=ko h;have e:dU s p x=(eJ a).val:=by
  show fpowN s p a.val (s-2)=(a^(im (El s)-2)).val;rw[hc];exact fV h a _
 rw[e];exact congrArg El.val (gr ((ki h a).2 d))
theorem Am {x k:Nat} (b:x<s) (d:fpowN s p x k=1) (n:Nat):fpowN s p x n=fpowN s p x (n%k):=by
 letI:=eN h
 let a:El s:=⟨x,b⟩
 have e1:a^k=1:=(iu h a k).1 d;have e2:=vw e1 n;rw[show x=a.val from rfl,fV h a n,fV h a (n%k)];exact congrArg El.val e2
theorem uR {x:Nat} (b:x<s) (d:x≠0):fpowN s p x (s-1)=1:=by
 letI:=eN h
 let a:El s:=⟨x,b⟩
 have hc:im (El s)=s:=ko h;refine(iu h a _).2 ?_;have:=wH ((ki h a).2 d);rw[hc]at this;exact this
theorem vK {x:Nat} (b:x<s) (m n:Nat):fpowN s p x (m+n)=aF s p (fpowN s p x m) (fpowN s p x n):=by
 letI:=eN h
 let a:El s:=⟨x,b⟩
 have:=congrArg El.val (kf a m n);rw[<-fV]at this;rw[show x=a.val from rfl,this,fV h a m,fV h a n];rfl
theorem eG {x:Nat} (n:Nat):fpowN s p x n<s:=vP h _ _
end
noncomputable def JH (s p:Nat):List Nat:=(List.range (s-1)).map (fpowN s p (az s p))
noncomputable def kQ (s p n:Nat):List Nat:=(List.range s).map λx=>if x=0 then 0 else if eB s p x<n then eB s p x else 0
noncomputable def jD (s p n:Nat):List Nat:=(List.range (s-1)).map λi=>if i<n then fpowN s p (az s p) i else 0
theorem bw (f:Nat->Nat) (n i:Nat) (a:i<n):((List.range n).map f).getD i 0=f i:=by
 simp[List.getD,a]
theorem fE (f:Nat->Nat) (n i v:Nat) (a:i<n):((List.range n).map f).set i v=(List.range n).map (λk=>if k=i then v else f k):=by
 apply List.ext_getElem
 ·simp
 ·intro k b d;simp only[List.getElem_set,List.getElem_map,List.getElem_range];by_cases h:i=k
  ·subst h;simp
  ·rw[if_neg h,if_neg (λe=>h e.symm)]
section
variable {c s p : Nat} (h : VF c s p)
include h
theorem kE:az s p<s:=(j8 h).2.1
theorem BA:az s p≠0:=by have:=(j8 h).1;omega
theorem xC (n:Nat):fpowN s p (az s p) n≠0:=by
 letI:=eN h
 let a:El s:=⟨az s p,kE h⟩
 have:a^n≠0:=lA ((ki h a).2 (BA h)) n;intro e;apply this;apply El.ext;rw[<-fV h a n];exact e
theorem IS {n:Nat} (hn:n<s-1):eB s p (fpowN s p (az s p) n)=n:=
 KV h (eG h n) (xC h n) hn rfl
theorem yv {n:Nat} (hn:n<s-1):(jD s p n).set n (fpowN s p (az s p) n)=jD s p (n+1):=by
 unfold jD;rw[fE _ _ _ _ hn];apply List.map_congr_left;intro k b;by_cases e:k=n
 ·subst e;simp
 ·rw[if_neg e];by_cases a:k<n
  ·rw[if_pos a,if_pos oO]
  ·rw[if_neg a,if_neg oO]
theorem BR {n:Nat} (hn:n<s-1):(kQ s p n).set (fpowN s p (az s p) n) n=kQ s p (n+1):=by
 unfold kQ;rw[fE _ _ _ _ (eG h n)];apply List.map_congr_left;intro k d;have f:k<s:=List.mem_range.1 d;by_cases e:k=fpowN s p (az s p) n
 ·rw[if_pos e,e,if_neg (xC h n),IS h hn,if_pos oO]
 ·rw[if_neg e];by_cases a:k=0
  ·rw[if_pos a,if_pos a]
  ·rw[if_neg a,if_neg a];have hl:eB s p k≠n:=by
    intro e2;apply e;have:=(ep h f a).2;rw[e2]at this;exact this.symm
   by_cases b:eB s p k<n
   ·rw[if_pos b,if_pos oO]
   ·rw[if_neg b,if_neg oO]
theorem vW:jD s p 0=List.replicate (s-1) 0:=by
 unfold jD;apply List.ext_getElem<;>simp
theorem yB:kQ s p 0=List.replicate s 0:=by
 unfold kQ;apply List.ext_getElem<;>simp
theorem xA:jD s p (s-1)=JH s p:=by
 unfold jD JH;apply List.map_congr_left;intro k a;rw[if_pos (List.mem_range.1 a)]
theorem Bd {i:Nat} (a:i<s-1):(JH s p).getD i 0=fpowN s p (az s p) i:=bw _ _ _ a
theorem AX {x:Nat} (a:x<s) (b:x≠0):(kQ s p (s-1)).getD x 0=eB s p x:=by
 rw[show(kQ s p (s-1)).getD x 0=_ from bw _ _ _ a];rw[if_neg b,if_pos (ep h a b).1]
theorem Dn {x y:Nat} (a:x<s) (b:y<s) (d:x≠0) (e:y≠0):fpowN s p (az s p) ((eB s p x+eB s p y)%(s-1))=aF s p x y:=by
 rw[<-Am h (kE h) (uR h (kE h) (BA h)),vK h (kE h),(ep h a d).2,(ep h b e).2]
theorem Dx {x y:Nat} (e:x<s) (d:y<s) (i:x≠0) (g:y≠0):fpowN s p (az s p) ((eB s p x+(s-1)-eB s p y)%(s-1))=aF s p x (dU s p y):=by
 have f:=uR h (kE h) (BA h);have a:=ep h e i;have b:=ep h d g;rw[<-Am h (kE h) f];generalize j:eB s p x+(s-1)-eB s p y=k;have e1:aF s p (fpowN s p (az s p) k) y=x:=by
  have:fpowN s p (az s p) (k+eB s p y)=fpowN s p (az s p) (eB s p x+(s-1)):=by congr 1;omega
  rw[vK h (kE h),vK h (kE h),a.2,b.2,f,Bk h _ e]at this;exact this
 have e2:aF s p (aF s p (fpowN s p (az s p) k) y) (dU s p y)=aF s p x (dU s p y):=by rw[e1]
 rw[Fe h (eG h k) d (mz h),BV h d g,Bk h _ (eG h k)]at e2;exact e2
theorem M4 {x:Nat} (a:x<s):bQ s p 0 x=x:=by rw[Gl h (by have:=h.aR;omega) a,sC h a]
theorem pD {x:Nat} (a:x<s):aF s p 0 x=0:=by rw[Gu h (by have:=h.aR;omega) a,pr h a]
end
def tl (l:List Nat):Nat->Nat
 |0=>0
 |n+1=>if l.getD n 0=0 then tl l n else n+1
theorem Ko (l:List Nat) (n:Nat):tl l n<=n:=by
 induction n with
 |zero=>exact Nat.le_refl _
 |succ n a=>unfold tl;split<;>omega
theorem KJ (l:List Nat) (n i:Nat) (a:tl l n<=i) (f:i<n):l.getD i 0=0:=by
 induction n with
 |zero=>omega
 |succ n b=>
  unfold tl at a;split at a
  ·rename_i d
   by_cases e:i=n
   ·rw[e];exact d
   ·exact b a oO
  ·omega
theorem Lv (l:List Nat) (n:Nat) (h:tl l n≠0):l.getD (tl l n-1) 0≠0:=by
 induction n with
 |zero=>exact absurd rfl h
 |succ n b=>
  unfold tl at h⊢;split
  ·rename_i a
   rw[if_pos a]at h;exact b h
  ·rename_i a
   simpa using a
def ej (l:List Nat):List Nat:=l.take (tl l l.length)
def dF (l:List Nat):Prop:=l=[]\/l.getD (l.length-1) 0≠0
theorem lX (l:List Nat):(ej l).length=tl l l.length:=by
 unfold ej;rw[List.length_take];have:=Ko l l.length;omega
theorem getD_take (l:List Nat) (n i:Nat):(l.take n).getD i 0=if i<n then l.getD i 0 else 0:=by
 simp only[List.getD,List.getElem?_take];split<;>simp
theorem qN (l:List Nat) (i:Nat):(ej l).getD i 0=l.getD i 0:=by
 unfold ej;rw[getD_take];split
 ·rfl
 ·rename_i b
  by_cases a:i<l.length
  ·exact(KJ l _ i oO a).symm
  ·rw[List.getD,List.getElem?_eq_none oO];rfl
theorem kK (l:List Nat):dF (ej l):=by
 by_cases h:tl l l.length=0
 ·left;unfold ej;rw[h];rfl
 ·right;rw[qN,lX];exact Lv l _ h
def lW (s p:Nat) (f:Nat->Nat):Nat->Nat
 |0=>0
 |n+1=>bQ s p (lW s p f n) (f n)
def gd (s p:Nat) (a b:List Nat) (n k:Nat):Nat:=if k<=n then aF s p (a.getD k 0) (b.getD (n-k) 0)else 0
def xX (s p:Nat) (a b:List Nat) (i j n:Nat):Nat:=
 if i<=n/\n-i<j then bQ s p (lW s p (gd s p a b n) i) (aF s p (a.getD i 0) (b.getD (n-i) 0))else lW s p (gd s p a b n) i
def ao (s:Nat) (l:List Nat):Prop:=∀i,l.getD i 0<s
section
variable {c s p : Nat} (h : VF c s p)
include h
theorem tQ (f:Nat->Nat) (a:∀k,f k<s) (n:Nat):lW s p f n<s:=by
 induction n with
 |zero=>have:=h.aR;unfold lW;omega
 |succ n b=>exact kl h _ _ b (a n)
theorem pa (a b:List Nat) (n k:Nat):gd s p a b n k<s:=by
 unfold gd;split
 ·exact bN h _ _
 ·have:=h.aR;omega
theorem sJ (a b:List Nat) (i n:Nat):xX s p a b i 0 n=lW s p (gd s p a b n) i:=by
 unfold xX;rw[if_neg oO]
end
section
open Go.RowKit
theorem dg {k:IntKind} {a b:Int} (h:a=b):Ending.returned (.int k a)= .returned (.int k b):=by rw[h]
theorem bP {a b:Bool} (h:a=b):Ending.returned (.bool a)= .returned (.bool b):=by rw[h]
theorem IB (P:Nat) (h:bl P<=40):P<2^40:=(bD _ _).1 h
theorem Jm (P q:Nat) (a:bl P<=40) (f:0<q) (g:bl q<=bl P):
 bits BinOp.xor IntKind.i64 (↑P) (wrap64 (↑q* 2^(bl P-1-(bl q-1))))=((km P q:Nat):Int):=by
 have b:=ie q oO;rw[show bl P-1-(bl q-1)=bl P-bl q from by omega];have c:=Bs q (bl P-bl q) oO;have d:=IB (q* 2^(bl P-bl q)) oO;have e:=IB P a;rw[show((q:Int)* 2^(bl P-bl q))=((q* 2^(bl P-bl q):Nat):Int)from by simp];rw[IntWalk.wrap64_in _ oO,iT _ _ oO oO];rfl
theorem EG (P q:Nat) (c:0<q):cmod (km P q) q=cmod P q:=by
 refine(jQ _ _ _ ?_ (lL _ _ oO)).symm;have b:=ke P q;have a:=mN b (⟨2^(bl P-bl q),(Ce q _).symm⟩:gm q (q* 2^(bl P-bl q)));rw[show P^^^cmod P q^^^q* 2^(bl P-bl q)=(P^^^q* 2^(bl P-bl q))^^^cmod P q from by ac_rfl]at a;exact a
theorem KY (p q:Nat) (w:World) (d:p<2^40) (b:0<q) (hq:q<2^40):
 Calls Tryz.prog 220 #[.int .i64 p,.int .i64 q] w λe w'=>e= .returned (.int .i64 (cmod p q))/\w=w':=by
 have f:bl p<=40:=(bD _ _).2 d;have i:bl q<=40:=(bD _ _).2 hq;have j:0<bl q:=ie q oO;have k:(p:Int)<=9223372036854775807:=oO;have l:(q:Int)<=9223372036854775807:=oO;go_enter Tryz.func220,Tryz.ntmps220;go_wp2_with fail
 go_loop [0] (λt=>∃P:Nat,bl P<=40/\t= .int .i64 P/\Hid (cmod P q=cmod p q)) (λt=>bl (intOf t).toNat)
 case atStart=>exact⟨p,f,rfl,rfl⟩
 case round=>
  obtain⟨P,a,rfl,hid⟩:=hrel;have m:(P:Int)<=9223372036854775807:=by
   have:=IB P a;omega
  by_cases c:bl q<=bl P
  ·have g:=Cs P q oO c;go_wp2_with(go_at_call 188;refine(eU _ _ oO oO).mono ?_;rintro e w' ⟨rfl,rfl⟩)
   rw[Jm P q a b c];refine⟨⟨km P q,by omega,rfl,?_⟩,g⟩;show cmod _ _=_;rw[EG P q b];exact hid.out
  ·go_wp2_with(go_at_call 188;refine(eU _ _ oO oO).mono ?_;rintro e w' ⟨rfl,rfl⟩)
   go_ret;exact⟨dg (by rw[<-hid.out,kh P q oO]),rfl⟩
theorem D5 (p q:Int) (w:World) (a:0<=p) (c:p<1099511627776) (b:0<q) (hq:q<1099511627776):
 Calls Tryz.prog 220 #[.int .i64 p,.int .i64 q] w λe w'=>e= .returned (.int .i64 (cmod p.toNat q.toNat))/\w=w':=by
 obtain⟨P,rfl⟩:=Int.eq_ofNat_of_zero_le a;obtain⟨Q,rfl⟩:=Int.eq_ofNat_of_zero_le (Int.le_of_lt b);exact KY P Q w oO oO oO
theorem Fy (q:Nat):bl (q+1)<=bl q+1:=by
 have:=yt q;exact(bD _ _).2 (by rw[Nat.pow_succ];have:=Nat.two_pow_pos (bl q);omega)
theorem Lc (p:Nat) (w:World) (u:0<p) (i:bl p<=13):
 Calls Tryz.prog 189 #[.int .i64 p] w λe w'=>e= .returned (.bool (oL p))/\w=w':=by
 have o:p<2^13:=(bD _ _).1 i;have v:=ie p oO;have x:(p:Int)<=9223372036854775807:=oO;have s:(p:Int)<1099511627776:=oO;go_enter Tryz.func189,Tryz.ntmps189;go_wp2_with fail
 go_loop [3] (λt=>∃q:Nat,2<=q/\bl q<=8/\t= .int .i64 q/\Hid (∀r,2<=r->r<q->cmod p r≠0)) (λt=>300-(intOf t).toNat)
 case atStart=>exact⟨2,by omega,by decide,rfl,λr c f=>by omega⟩
 case round=>
  obtain⟨q,g,hq,rfl,hid⟩:=hrel;have k:q<2^8:=(bD _ _).1 hq;have A:(q:Int)<256:=oO;have y:2<=bl q:=by
   have:=tM 2 q g;have e:bl 2=2:=by decide
   omega
  by_cases l:2* ((bl q:Int)-1)<=(bl p:Int)-1
  ·by_cases a:cmod p q=0
   ·have m:(((cmod p q:Nat):Int)==0)=true:=by rw[a];rfl
    have n:=Lib.hid a;clear a;have b:oL p=false:=by
     rw[Bool.eq_false_iff];intro h;exact(vC p).1 h q g oO n.out
    have d:=Lib.hid b;clear b;go_wp2_with(first|(go_at_call 188;refine(eU _ _ oO oO).mono ?_;rintro e w' ⟨rfl,rfl⟩)|(go_at_call 220;refine(D5 _ _ _ oO oO oO oO).mono ?_;rintro e w' ⟨rfl,rfl⟩))
    go_ret;exact⟨bP d.out.symm,rfl⟩
   ·have m:(((cmod p q:Nat):Int)==0)=false:=by simpa using a
    have z:=Fy q;go_wp2_with(first|(go_at_call 188;refine(eU _ _ oO oO).mono ?_;rintro e w' ⟨rfl,rfl⟩)|(go_at_call 220;refine(D5 _ _ _ oO oO oO oO).mono ?_;rintro e w' ⟨rfl,rfl⟩))
    refine⟨⟨q+1,by omega,by omega,by go_num,?_⟩,by simp[intOf];omega⟩;intro r c f;by_cases j:r=q
    ·subst j;exact a
    ·exact hid.out r c oO
  ·have b:oL p=true:=by
    rw[vC];intro r c f;refine hid.out r c ?_;have:bl r<bl q:=oO;exact uV _ _ this
   have d:=Lib.hid b;clear b;have B:bl p+2<=2* bl q:=oO;clear l hid k o s;go_wp2_with(first|(go_at_call 188;refine(eU _ _ oO oO).mono ?_;rintro e w' ⟨rfl,rfl⟩))
   go_ret;exact⟨bP d.out.symm,rfl⟩
theorem xK (p:Int) (w:World) (b:0<p) (a:bl p.toNat<=13):
 Calls Tryz.prog 189 #[.int .i64 p] w λe w'=>e= .returned (.bool (oL p.toNat))/\w=w':=by
 obtain⟨P,rfl⟩:=Int.eq_ofNat_of_zero_le (Int.le_of_lt b);exact Lc P w oO a
theorem Gy (n:Nat) (w:World) (hn:2<=n) (s:n<=4096):
 Calls Tryz.prog 187 #[.int .i64 n] w λe w'=>e= .returned (.bool (kF n))/\w=w':=by
 go_enter Tryz.func187,Tryz.ntmps187;go_wp2_with fail
 go_loop [3] (λt=>∃d:Nat,2<=d/\d<=65/\t= .int .i64 d/\Hid (∀r,2<=r->r<d->n%r≠0)) (λt=>100-(intOf t).toNat)
 case atStart=>exact⟨2,by omega,by decide,rfl,λr b g=>by omega⟩
 case round=>
  obtain⟨d,p,i,rfl,hid⟩:=hrel;have u:d* d<=65* 65:=Nat.mul_le_mul i i;have x:(0:Int)<=(d:Int)* d:=by
   have:(0:Int)<=((d* d:Nat):Int):=oO;simpa using this
  have y:(d:Int)* d<=4225:=by
   have:((d* d:Nat):Int)<=4225:=oO;simpa using this
  by_cases j:d* d<=n
  ·have k:(d:Int)* d<=n:=by
    have:((d* d:Nat):Int)<=n:=oO;simpa using this
   have v:d<=64:=by
    rcases Nat.lt_or_ge d 65 with h|h
    ·omega
    ·have:=Nat.mul_le_mul h h;omega
   clear j;by_cases c:n%d=0
   ·have q:(((n:Int)%(d:Int))==0)=true:=by
     have:((n%d:Nat):Int)=0:=oO;simpa using this
    have a:kF n=false:=by
     rw[Bool.eq_false_iff];intro h;have l:d* d<=n:=by
      have:((d* d:Nat):Int)<=n:=by simpa using k
      omega
     exact((rJ n).1 h).2 d p l c
    have f:=Lib.hid a;clear a;clear c;go_wp2;go_ret;exact⟨bP f.out.symm,rfl⟩
   ·have q:(((n:Int)%(d:Int))==0)=false:=by
     have:((n%d:Nat):Int)≠0:=oO;simpa using this
    have m:=Lib.hid c;clear c;go_wp2;refine⟨⟨d+1,by omega,by omega,by go_num,?_⟩,by simp[intOf];omega⟩;intro r b g;by_cases o:r=d
    ·subst o;exact m.out
    ·exact hid.out r b oO
  ·have k:¬(d:Int)* d<=n:=by
    have:¬((d* d:Nat):Int)<=n:=oO;simpa using this
   have a:kF n=true:=by
    rw[rJ];refine⟨hn,λr b g=>hid.out r b ?_⟩;rcases Nat.lt_or_ge r d with h|h
    ·exact h
    ·have:=Nat.mul_le_mul h h;omega
   have f:=Lib.hid a;clear a;clear j;go_wp2;go_ret;exact⟨bP f.out.symm,rfl⟩
theorem H6 (n:Int) (w:World) (hn:2<=n) (a:n<=4096):
 Calls Tryz.prog 187 #[.int .i64 n] w λe w'=>e= .returned (.bool (kF n.toNat))/\w=w':=by
 obtain⟨P,rfl⟩:=Int.eq_ofNat_of_zero_le (by omega:0<=n);exact Gy P w oO oO
def tT (p d:Int):Bool:=decide (0<=p)&&decide ((bl p.toNat:Int)=d+1)&&oL p.toNat
theorem qA {P:Program} {f:FuncId} {args:Array Value} {w:World} {n:Nat} {v:Value}
 (h:Calls P f args (w.drewN n) λe w'=>e= .returned v/\w.drewN n=w'):
 Calls P f args (w.drewN n) λe b=>e= .returned v/\∃m,b=w.drewN m:=
 h.mono λ_ _ a=>⟨a.1,n,a.2.symm⟩
theorem dk {B:Nat} {a w:World} (h:Below B a w) (n:Nat):Below B a (w.drewN n):=⟨h.os,h.tape,h.output,h.size,h.block⟩
def bL (c s p:Int):Bool:=
 if p=0 then decide (2<s)&&decide (s<=4096)&&decide (c=s)&&kF s.toNat
 else decide (2<=p)&&decide (bl p.toNat<=13)&&decide (c=2)&&decide (s=((2^(bl p.toNat-1):Nat):Int))&&oL p.toNat
abbrev cD (c s p:Int):Value:= .agg #[.int .i64 c,.int .i64 s,.int .i64 p]
theorem IA (c s:Int) (w:World) (h:¬2<s):
 Calls Tryz.prog 149 #[cD c s 0] w λe w'=>e= .returned (.bool (bL c s 0))/\Below w.heap.size w w':=by
 have a:bL c s 0=false:=by unfold bL;simp;omega
 have b:=Lib.hid a;clear a;go_enter Tryz.func149,Tryz.ntmps149;go_wp2;go_ret;exact⟨bP b.out.symm,(Below.refl _ _).alloc (Nat.le_refl _) _⟩
theorem Kf (c s:Int) (w:World) (h:2<s) (f:s<=4096) (b:c=s):
 Calls Tryz.prog 149 #[cD c s 0] w λe w'=>e= .returned (.bool (bL c s 0))/\Below w.heap.size w w':=by
 have a:bL c s 0=kF s.toNat:=by unfold bL;simp;omega
 have d:=Lib.hid a;clear a;subst b;go_enter Tryz.func149,Tryz.ntmps149;go_wp2_with(go_at_call 187;refine(H6 _ _ oO oO).mono ?_;rintro e w' ⟨rfl,rfl⟩)
 go_ret;exact⟨bP d.out.symm,(Below.refl _ _).alloc (Nat.le_refl _) _⟩
theorem Ir (c s:Int) (w:World) (h:2<s) (d:4096<s):
 Calls Tryz.prog 149 #[cD c s 0] w λe w'=>e= .returned (.bool (bL c s 0))/\Below w.heap.size w w':=by
 have a:bL c s 0=false:=by unfold bL;simp;omega
 have b:=Lib.hid a;clear a;go_enter Tryz.func149,Tryz.ntmps149;go_wp2;go_ret;exact⟨bP b.out.symm,(Below.refl _ _).alloc (Nat.le_refl _) _⟩
theorem Jl (c s:Int) (w:World) (h:2<s) (f:s<=4096) (b:(c==s)=false):
 Calls Tryz.prog 149 #[cD c s 0] w λe w'=>e= .returned (.bool (bL c s 0))/\Below w.heap.size w w':=by
 have a:bL c s 0=false:=by unfold bL;have:=ne_of_beq_false b;simp[this]
 have d:=Lib.hid a;clear a;go_enter Tryz.func149,Tryz.ntmps149;go_wp2;go_ret;exact⟨bP d.out.symm,(Below.refl _ _).alloc (Nat.le_refl _) _⟩
theorem KA (c s:Int) (w:World):
 Calls Tryz.prog 149 #[cD c s 0] w λe w'=>e= .returned (.bool (bL c s 0))/\Below w.heap.size w w':=by
 by_cases h:2<s
 ·by_cases a:s<=4096
  ·by_cases b:c=s
   ·exact Kf c s w h a b
   ·exact Jl c s w h a (beq_false_of_ne b)
  ·exact Ir c s w h oO
 ·exact IA c s w h
theorem Jt (c s p:Int) (w:World) (d:(p==0)=false) (h:p<2):
 Calls Tryz.prog 149 #[cD c s p] w λe w'=>e= .returned (.bool (bL c s p))/\Below w.heap.size w w':=by
 have a:bL c s p=false:=by unfold bL;have:=ne_of_beq_false d;rw[if_neg this];simp;omega
 have b:=Lib.hid a;clear a;go_enter Tryz.func149,Tryz.ntmps149;go_wp2;go_ret;exact⟨bP b.out.symm,(Below.refl _ _).alloc (Nat.le_refl _) _⟩
theorem Jj (c s p:Int) (w:World) (d:(p==0)=false) (h:2<=p) (f:p<=9223372036854775807) (g:13<bl p.toNat):
 Calls Tryz.prog 149 #[cD c s p] w λe w'=>e= .returned (.bool (bL c s p))/\Below w.heap.size w w':=by
 have a:bL c s p=false:=by unfold bL;have:=ne_of_beq_false d;rw[if_neg this];simp;omega
 have b:=Lib.hid a;clear a;go_enter Tryz.func149,Tryz.ntmps149;go_wp2_with(go_at_call 188;refine(eU _ _ oO oO).mono ?_;rintro e w' ⟨rfl,rfl⟩)
 go_ret;exact⟨bP b.out.symm,(Below.refl _ _).alloc (Nat.le_refl _) _⟩
abbrev Kl (p:Int):Int:=IntKind.i64.wrap (2^(bl p.toNat-1))
theorem FN (p:Int) (a:bl p.toNat<=13):Kl p=((2^(bl p.toNat-1):Nat):Int):=by
 show IntKind.i64.wrap (2^(bl p.toNat-1))=_;have h:=Nat.pow_le_pow_right (n:=2) oO (show bl p.toNat-1<=12 by omega);rw[show((2:Int)^(bl p.toNat-1))=((2^(bl p.toNat-1):Nat):Int)from by simp];generalize 2^(bl p.toNat-1)=N at*;rw[IntKind.wrap_i64];omega
theorem JZ (c s p:Int) (w:World) (g:(p==0)=false) (h:2<=p) (i:p<=9223372036854775807) (b:bl p.toNat<=13) (hb:2<=bl p.toNat)
 (d:(c==2)=false):
 Calls Tryz.prog 149 #[cD c s p] w λe w'=>e= .returned (.bool (bL c s p))/\Below w.heap.size w w':=by
 have a:bL c s p=false:=by unfold bL;have:=ne_of_beq_false g;rw[if_neg this];have:=ne_of_beq_false d;simp[this]
 have f:=Lib.hid a;clear a;go_enter Tryz.func149,Tryz.ntmps149;go_wp2_with(go_at_call 188;refine(eU _ _ oO oO).mono ?_;rintro e w' ⟨rfl,rfl⟩)
 go_quiet ((first|(go_at_call 188;exact qA (eU _ _ oO oO))|(go_at_call 189;exact qA (xK _ _ oO b))))
 go_wp2;go_ret;exact⟨bP f.out.symm,dk ((Below.refl _ _).alloc (Nat.le_refl _) _) _⟩
theorem Ja (s z p:Int) (w:World) (i:(p==0)=false) (h:2<=p) (j:p<=9223372036854775807) (a:bl p.toNat<=13) (hb:2<=bl p.toNat)
 (c:IntKind.i64.wrap (2^(bl p.toNat-1))=z) (d:(s==z)=false):
 Calls Tryz.prog 149 #[cD 2 s p] w λe w'=>e= .returned (.bool (bL 2 s p))/\Below w.heap.size w w':=by
 have b:bL 2 s p=false:=by
  unfold bL;have:=ne_of_beq_false i;rw[if_neg this];rw[<-FN p a]
  have f:¬s=Kl p:=by rw[show Kl p=z from c];exact ne_of_beq_false d
  simp[f]
 have g:=Lib.hid b;clear b;go_enter Tryz.func149,Tryz.ntmps149;go_wp2_with(go_at_call 188;refine(eU _ _ oO oO).mono ?_;rintro e w' ⟨rfl,rfl⟩)
 go_quiet ((first|(go_at_call 188;exact qA (eU _ _ oO oO))|(go_at_call 189;exact qA (xK _ _ oO a))))
 go_wp2;go_ret;exact⟨bP g.out.symm,dk ((Below.refl _ _).alloc (Nat.le_refl _) _) _⟩
theorem IU (s p:Int) (w:World) (f:(p==0)=false) (h:2<=p) (g:p<=9223372036854775807) (a:bl p.toNat<=13) (hb:2<=bl p.toNat)
 (c:IntKind.i64.wrap (2^(bl p.toNat-1))=s):
 Calls Tryz.prog 149 #[cD 2 s p] w λe w'=>e= .returned (.bool (bL 2 s p))/\Below w.heap.size w w':=by
 have b:bL 2 s p=oL p.toNat:=by
  rw[<-show Kl p=s from c];unfold bL;have:=ne_of_beq_false f;rw[if_neg this];rw[<-FN p a]
  simp[h,a]
 have d:=Lib.hid b;clear b;go_enter Tryz.func149,Tryz.ntmps149;go_wp2_with(go_at_call 188;refine(eU _ _ oO oO).mono ?_;rintro e w' ⟨rfl,rfl⟩)
 go_quiet ((first|(go_at_call 188;exact qA (eU _ _ oO oO))|(go_at_call 189;exact qA (xK _ _ oO a))))
 go_wp2;go_ret;exact⟨bP d.out.symm,dk ((Below.refl _ _).alloc (Nat.le_refl _) _) _⟩
theorem po (p:Int) (h:2<=p):2<=bl p.toNat:=by
 have a:=tM 2 p.toNat oO;have e:bl 2=2:=by decide
 omega
theorem ju (c s p:Int) (w:World) (b:p<=9223372036854775807):
 Calls Tryz.prog 149 #[cD c s p] w λe w'=>e= .returned (.bool (bL c s p))/\Below w.heap.size w w':=by
 by_cases i:p=0
 ·subst i;exact KA c s w
 have a:=beq_false_of_ne i;by_cases h:2<=p
 ·have hb:=po p h;by_cases d:bl p.toNat<=13
  ·by_cases f:c=2
   ·subst f;by_cases g:s=IntKind.i64.wrap (2^(bl p.toNat-1))
    ·exact IU s p w a h b d hb g.symm
    ·exact Ja s _ p w a h b d hb rfl (beq_false_of_ne g)
   ·exact JZ c s p w a h b d hb (beq_false_of_ne f)
  ·exact Jj c s p w a h b oO
 ·exact Jt c s p w a oO
theorem xl (n:Nat):bl (2^n)=n+1:=wR _ _ (Nat.le_refl _) (by rw[Nat.pow_succ];have:=Nat.two_pow_pos n;omega)
theorem IF (s p:Int):bL 2 s p=(decide (2<=bl s.toNat)&&decide (bl s.toNat<=13)&&decide (s=((2^(bl s.toNat-1):Nat):Int))&&tT p ((bl s.toNat:Int)-1)):=by
 unfold bL tT;by_cases f:p=0
 ·subst f;rw[if_pos rfl];have g:bl (0:Int).toNat=0:=rfl;rw[g];by_cases d:2<=bl s.toNat
  ·have b:¬((0:Nat):Int)=(bl s.toNat:Int)-1+1:=oO;rw[decide_eq_false b];have e:¬(2<s/\(2:Int)=s):=oO;by_cases c:2<s
   ·have a:¬(2:Int)=s:=oO;simp[a]
   ·simp[c]
  ·have a:¬2<s:=by
    intro h;have:=po s oO;omega
   simp[d,a]
 ·rw[if_neg f,Bool.eq_iff_iff];simp only[Bool.and_eq_true,decide_eq_true_iff];constructor
  ·rintro⟨⟨⟨⟨d,b⟩,-⟩,c⟩,a⟩;have hb:=po p d;have hs:bl s.toNat=bl p.toNat:=by
    rw[c,Int.toNat_natCast,xl];omega
   rw[hs];exact⟨⟨⟨hb,b⟩,c⟩,⟨by omega,by omega⟩,a⟩
  ·rintro⟨⟨⟨d,b⟩,e⟩,⟨c,a⟩,i⟩;have hs:bl p.toNat=bl s.toNat:=oO;rw[hs];have j:2<=p:=by
    have:=FX p.toNat oO;rw[hs]at this;have k:2^1<=2^(bl s.toNat-1):=Nat.pow_le_pow_right oO oO;omega
   exact⟨⟨⟨⟨j,b⟩,trivial⟩,e⟩,i⟩
theorem Nl (n:Nat) (h:n<=13):wrap64 (2^n)=((2^n:Nat):Int):=by
 have h:=Nat.pow_le_pow_right (n:=2) oO h;rw[show((2:Int)^n)=((2^n:Nat):Int)from by simp];generalize 2^n=N at*;exact IntWalk.wrap64_in _ oO
theorem Kk {W c:World} (hb:Below W.heap.size W c):(∀b a,b<W.heap.size->c.cell? ⟨b,a,none⟩=W.cell? ⟨b,a,none⟩)/\(∀b a,b<W.heap.size->c.frozen? ⟨b,a,none⟩=W.frozen? ⟨b,a,none⟩):=
 ⟨λ_ _ h=>hb.cell h,λ_ _ h=>hb.frozen h⟩
def gA (s:Int) (xs:List Int):Bool:=xs.all λa=>decide (0<=a)&&decide (a<s)
theorem Hk (c s p:Int) (xs:Value) (w:World) (f:p<=9223372036854775807) (a:bL c s p=false):
 Calls Tryz.prog 157 #[cD c s p,xs] w λe w'=>e= .returned (.bool false)/\Below w.heap.size w w':=by
 have b:=Lib.hid a;clear a;go_enter Tryz.func157,Tryz.ntmps157;go_wp2_with(go_at_call 149;refine(ju _ _ _ _ oO).mono ?_;rintro e g ⟨rfl,d⟩;rw[b.out])
 go_ret;exact⟨rfl,((Below.refl _ _).alloc (Nat.le_refl _) _).trans (d.mono oS)⟩
theorem Jd (c s p:Int) (w:World) (f:p<=9223372036854775807) (a:bL c s p=true):
 Calls Tryz.prog 157 #[cD c s p,.slice none 0 0] w λe w'=>e= .returned (.bool true)/\Below w.heap.size w w':=by
 have b:=Lib.hid a;clear a;go_enter Tryz.func157,Tryz.ntmps157;go_wp2_with(go_at_call 149;refine(ju _ _ _ _ oO).mono ?_;rintro e g ⟨rfl,d⟩;rw[b.out])
 go_loop [6,12] (λ_ i=>i= .int .i64 0) (λ_ _=>0)
 case atStart=>rfl
 case round=>
  subst hrel;go_wp2;go_ret;exact⟨rfl,((Below.refl _ _).alloc (Nat.le_refl _) _).trans (d.mono oS)⟩
theorem Lz (c s p:Int) (xs:List Int) (b:Nat) (w:World) (K:p<=9223372036854775807) (y:bL c s p=true)
 (hn:xs.length<=1000) (H:b<w.heap.size) (B:∀i,i<xs.length->w.cell? ⟨b,i,none⟩=some (.int .i64 (xs.getD i 0))):
 Calls Tryz.prog 157 #[cD c s p,.slice (some ⟨b,0,none⟩) xs.length xs.length] w λe w'=>e= .returned (.bool (gA s xs))/\Below w.heap.size w w':=by
 have D:=Lib.hid y;clear y;have HC:=Lib.hid B;clear B;generalize z:xs.length=n at*;have m:=Lib.hid z;clear z;go_enter Tryz.func157,Tryz.ntmps157;go_wp2_with(go_at_call 149;refine(ju _ _ _ _ oO).mono ?_;rintro e o ⟨rfl,r⟩;rw[D.out])
 obtain⟨t,-⟩:=Kk r;have O:o.cell? ⟨w.heap.size,1,none⟩=some (.int .i64 s):=by
  rw[t _ _ oS];go_simp
 have C:∀i,i<n->o.cell? ⟨b,i,none⟩=some (.int .i64 (xs.getD i 0)):=by
  intro i E;rw[t _ _ oT,<-HC.out i E];exact World.cell?_of_block (Below.heap_alloc _ _ _ H)
 have F:=Lib.hid C;clear C HC t;have v:Hid (Below w.heap.size w o):=((Below.refl _ _).alloc (Nat.le_refl _) _).trans (r.mono oS);clear r;go_loop [6,12] (λ_ i=>∃k:Nat,k<=n/\i= .int .i64 k/\Hid (∀j,j<k->0<=xs.getD j 0/\xs.getD j 0<s)) (λ_ i=>n-(intOf i).toNat)
 case atStart=>exact⟨0,Nat.zero_le _,rfl,λj l=>by omega⟩
 case round=>
  obtain⟨k,L,rfl,hid⟩:=hrel;by_cases u:k<n
  ·have P:=F.out k u;generalize A:xs.getD k 0=x at*;have q:=Lib.hid A;clear A;by_cases M:x<0
   ·have d:gA s xs=false:=by
     unfold gA;rw[List.all_eq_false];have g:k<xs.length:=by rw[m.out];exact u
     refine⟨xs[k],List.getElem_mem g,?_⟩;have:xs[k]=x:=by rw[<-q.out];simp[List.getElem?_eq_getElem g]
     rw[this];simp;omega
    have f:=Lib.hid d;clear d;go_wp2;go_ret;exact⟨bP f.out.symm,v.out⟩
   ·by_cases N:s<=x
    ·have d:gA s xs=false:=by
      unfold gA;rw[List.all_eq_false];have g:k<xs.length:=by rw[m.out];exact u
      refine⟨xs[k],List.getElem_mem g,?_⟩;have:xs[k]=x:=by rw[<-q.out];simp[List.getElem?_eq_getElem g]
      rw[this];simp;omega
     have f:=Lib.hid d;clear d;go_wp2;go_ret;exact⟨bP f.out.symm,v.out⟩
    ·go_wp2;refine⟨⟨k+1,by omega,by go_num,?_⟩,by simp[intOf];omega⟩;intro j l;by_cases J:j=k
     ·subst J;rw[q.out];omega
     ·exact hid.out j oO
  ·have d:gA s xs=true:=by
    unfold gA;rw[List.all_eq_true];intro a G;obtain⟨j,l,rfl⟩:=List.getElem_of_mem G;have:=hid.out j (by rw[m.out]at l;omega);rw[List.getD_eq_getElem?_getD,List.getElem?_eq_getElem l]at this;simpa using this
   have f:=Lib.hid d;clear d;obtain rfl:k=n:=oO;go_wp2;go_ret;exact⟨bP f.out.symm,v.out⟩
theorem pg (d p A B S R:Nat) (i:bl p=d+1) (j:bl A<=d) (hB:bl B<=d) (c:bl S<=d) (hid:S^^^cmod (bX A B) p=R) (a:Bool) (e:decide (B%2=1)=a)
 (b:Nat) (f:b=cmod (2* A) p):bl b<=d/\bl (B/2)<=d/\bl (if a then S^^^A else S)<=d/\(if a then S^^^A else S)^^^cmod (bX b (B/2)) p=R:=by
 have g:p≠0:=by intro h;subst h;rw[fy]at i;omega
 refine⟨?_,?_,?_,?_⟩
 ·have:=lL (2* A) p g;rw[f];omega
 ·exact Nat.le_trans (tM _ _ (Nat.div_le_self B 2)) hB
 ·cases a
  ·exact c
  ·exact nw _ _ _ c j
 ·rw[<-hid,Hm A B p g,f];cases a
  ·have:¬B%2=1:=by simpa using e
   simp[this]
  ·have:B%2=1:=by simpa using e
   simp only[this,if_true];rw[kh A p oO,Nat.xor_assoc]
theorem Dw {B:Nat} (hB:B<2^62) (h:(bits BinOp.and IntKind.i64 (B:Int) 1==1)=true):decide (B%2=1)=true:=by
 rw[pN B hB]at h;rw[decide_eq_true_iff];exact Int.ofNat.inj (eq_of_beq h)
theorem GP {B:Nat} (hB:B<2^62) (h:(bits BinOp.and IntKind.i64 (B:Int) 1==1)=false):decide (B%2=1)=false:=by
 rw[pN B hB]at h;rw[decide_eq_false_iff_not];intro e;rw[e]at h;cases h
theorem FF {d p A:Nat} {s:Nat} (hs:2^d=s) (a:bl p=d+1) (b:bl A<=d) (h:(s:Int)<=(A:Int)* 2) (c:d<=12):
 bits BinOp.xor IntKind.i64 ((A:Int)* 2) (p:Int)=((cmod (2* A) p:Nat):Int):=by
 rw[uM A p d a b,if_pos (by rw[hs];omega)];have e:A<2^12:=(bD _ _).1 oO;have f:p<2^13:=(bD _ _).1 oO;rw[show((A:Int)* 2)=((2* A:Nat):Int)from by omega];exact iT _ _ oO oO
theorem G2 {d p A:Nat} {s:Nat} (hs:2^d=s) (a:bl p=d+1) (b:bl A<=d) (h:(A:Int)* 2<(s:Int)):
 (A:Int)* 2=((cmod (2* A) p:Nat):Int):=by
 rw[uM A p d a b,if_neg (by rw[hs];omega)];omega
theorem CC (d s p a b:Nat) (c:Int) (w:World) (t:d<=12) (hs:2^d=s) (u:bl p=d+1) (D:bl a<=d) (hb:bl b<=d) (H:((p:Int)==0)=false):
 Calls Tryz.prog 196 #[cD c s p,.int .i64 a,.int .i64 b] w λe w'=>e= .returned (.int .i64 (cmod (bX a b) p))/\Below w.heap.size w w':=by
 have J:s<=4096:=by rw[<-hs];exact Nat.pow_le_pow_right (n:=2) oO t
 have m:=Lib.hid hs;clear hs;have g:=Lib.hid u;clear u;have l:=Lib.hid t;clear t;go_enter Tryz.func196,Tryz.ntmps196;go_wp2_with fail
 go_loop [1,2,7] (λx y z=>∃A B S:Nat,x= .int .i64 A/\y= .int .i64 B/\z= .int .i64 S/\bl A<=d/\bl B<=d/\bl S<=d/\Hid (S^^^cmod (bX A B) p=cmod (bX a b) p)) (λ_ y _=>(intOf y).toNat)
 case atStart=>exact⟨a,b,0,rfl,rfl,rfl,D,hb,Nat.zero_le _,by show _=_;simp⟩
 case round=>
  obtain⟨A,B,S,rfl,rfl,rfl,i,hB,o,hid⟩:=hrel;have E:A<2^12:=(bD _ _).1 (by have:=l.out;omega);have F:B<2^12:=(bD _ _).1 (by have:=l.out;omega);have G:S<2^12:=(bD _ _).1 (by have:=l.out;omega);have K:A<=4096:=oO;have L:B<=4096:=oO;have v:bits BinOp.xor IntKind.i64 (S:Int) (A:Int)=((S^^^A:Nat):Int):=iT _ _ oO oO;have C:=Lib.hid v;clear v;have r:Hid (B<2^62):=by show B<2^62;omega
  clear E F G;go_wp2
  ·rename_i q j k
   have f:=pg d p A B S _ g.out i hB o hid.out true (Dw r.out j) _ rfl;rw[C.out,FF m.out g.out i k l.out];exact⟨⟨_,B/2,_,rfl,by go_num,rfl,f.1,f.2.1,f.2.2.1,f.2.2.2⟩,by simp[intOf];omega⟩
  ·rename_i q j k
   have f:=pg d p A B S _ g.out i hB o hid.out true (Dw r.out j) _ rfl;rw[C.out,G2 m.out g.out i k];exact⟨⟨_,B/2,_,rfl,by go_num,rfl,f.1,f.2.1,f.2.2.1,f.2.2.2⟩,by simp[intOf];omega⟩
  ·rename_i q j k
   have f:=pg d p A B S _ g.out i hB o hid.out false (GP r.out j) _ rfl;rw[FF m.out g.out i k l.out];exact⟨⟨_,B/2,_,rfl,by go_num,rfl,f.1,f.2.1,f.2.2.1,f.2.2.2⟩,by simp[intOf];omega⟩
  ·rename_i q j k
   have f:=pg d p A B S _ g.out i hB o hid.out false (GP r.out j) _ rfl;rw[G2 m.out g.out i k];exact⟨⟨_,B/2,_,rfl,by go_num,rfl,f.1,f.2.1,f.2.2.1,f.2.2.2⟩,by simp[intOf];omega⟩
  ·rename_i q j
   obtain rfl:B=0:=oO;go_ret;refine⟨dg ?_,(Below.refl _ _).alloc (Nat.le_refl _) _⟩;have:=hid.out;have M:=g.out;rw[fX,kh 0 p (by rw[fy];omega),Nat.xor_zero]at this;rw[<-this]
theorem zC (s a b:Nat) (c:Int) (w:World) (hs:2<s) (i:s<=4096) (d:a<s) (hb:b<s):
 Calls Tryz.prog 196 #[cD c s 0,.int .i64 a,.int .i64 b] w λe w'=>e= .returned (.int .i64 (a* b%s:Nat))/\Below w.heap.size w w':=by
 have j:a* b<=4096* 4096:=Nat.mul_le_mul oO oO;have f:(0:Int)<=(a:Int)* b:=by
  have:(0:Int)<=((a* b:Nat):Int):=oO;simpa using this
 have g:(a:Int)* b<=16777216:=by
  have:((a* b:Nat):Int)<=16777216:=oO;simpa using this
 go_enter Tryz.func196,Tryz.ntmps196;go_wp2;go_ret;exact⟨dg oS,(Below.refl _ _).alloc (Nat.le_refl _) _⟩
theorem Ky {S:Nat} (a d:Nat) (hs:S=2^d) (b:a<S):bl a<=d:=(bD _ _).2 (by rw[<-hs];exact b)
theorem uK (C S P:Nat) (a b:Int) (w:World) (i:VF C S P) (k:0<=a) (n:a<S) (l:0<=b) (hb:b<S):
 Calls Tryz.prog 196 #[cD C S P,.int .i64 a,.int .i64 b] w λe w'=>e= .returned (.int .i64 (aF S P a.toNat b.toNat:Nat))/\Below w.heap.size w w':=by
 obtain⟨A,rfl⟩:=Int.eq_ofNat_of_zero_le k;obtain⟨B,rfl⟩:=Int.eq_ofNat_of_zero_le l;rw[Int.toNat_natCast,Int.toNat_natCast];unfold aF;rcases i with⟨j,hc,f,c,-⟩|⟨d,o,f,g,c,-,-⟩
 ·subst j;rw[if_pos rfl];exact zC S A B C w f c oO oO
 ·have m:P≠0:=by intro h;subst h;rw[fy]at g;omega
  rw[if_neg m];exact CC d S P A B C w f c.symm g (Ky A d c oO) (Ky B d c oO) (beq_false_of_ne oO)
def eD (w:World) (c s p:Int) (wr:World):Prop:=
 Below w.heap.size w wr/\w.heap.size<wr.heap.size/\wr.cell? ⟨w.heap.size,0,none⟩=some (.int .i64 c)/\wr.cell? ⟨w.heap.size,1,none⟩=some (.int .i64 s)/\wr.cell? ⟨w.heap.size,2,none⟩=some (.int .i64 p)
theorem eD.start (w:World) (c s p:Int) (t:Nat):eD w c s p (w.alloc (.cells #[.int .i64 c,.int .i64 s,.int .i64 p] t)):=by
 refine⟨(Below.refl _ _).alloc (Nat.le_refl _) _,by simp,?_,?_,?_⟩<;>go_simp
theorem eD.step {w wr b:World} {c s p:Int} (h:eD w c s p wr) (hb:Below wr.heap.size wr b):eD w c s p b:=by
 obtain⟨d,a,e,f,g⟩:=h;exact⟨d.trans (hb.mono oO),Nat.lt_of_lt_of_le a hb.size,(hb.cell a).trans e,(hb.cell a).trans f,(hb.cell a).trans g⟩
theorem eD.drew {w wr:World} {c s p:Int} (h:eD w c s p wr):eD w c s p wr.drew:=⟨h.1.drew,h.2.1,h.2.2.1,h.2.2.2.1,h.2.2.2.2⟩
theorem eD.below {w wr:World} {c s p:Int} (h:eD w c s p wr):Below w.heap.size w wr:=h.1
theorem Hd (C S P a k:Nat) (w:World) (b:VF C S P) (l:a<S) (c:mO S P a k) (B:k<=4096):
 Calls Tryz.prog 221 #[cD C S P,.int .i64 a] w λe w'=>e= .returned (.int .i64 k)/\Below w.heap.size w w':=by
 have u:=b.le;have D:=b.aR;have d:=Lib.hid b;clear b;have E:=c.1;have m:=Lib.hid c;clear c;go_enter Tryz.func221,Tryz.ntmps221;go_wp2_with fail
 go_loopw [5,6] (λy x wr=>∃j X:Nat,y= .int .i64 j/\x= .int .i64 X/\1<=j/\j<=k/\X<S/\Hid (X=fpowN S P a j)/\eD w C S P wr) (λy _ _=>k-(intOf y).toNat)
 case atStart=>exact⟨1,a,rfl,rfl,by omega,by omega,l,(JE d.out a l).symm,eD.start w C S P _⟩
 case round=>
  obtain⟨j,X,rfl,rfl,q,v,z,hid,g⟩:=hrel;obtain⟨n,F,G,H,J⟩:=id g;have r:=Lib.hid g;clear g;have s:=Lib.hid n;clear n;by_cases f:X=1
  ·subst f;have i:j=k:=by
    by_cases h:j<k
    ·exact absurd hid.out.symm (m.out.2.2 j q h)
    ·omega
   have o:=Lib.hid i;clear i;go_wp2_with fail
   go_ret;exact⟨dg (by rw[o.out]),s.out⟩
  ·have i:j<k:=by
    rcases Nat.lt_or_ge j k with h|h
    ·exact h
    ·exfalso;apply f;have:j=k:=oO;subst this;rw[hid.out];exact m.out.2.1
   have K:(((X:Nat):Int)!=1)=true:=by rw[bne_iff_ne];omega
   have p:Hid (aF S P X a=fpowN S P a (j+1)):=by show _=aF S P (fpowN S P a j) a;rw[<-hid.out]
   clear f hid;go_wp2_with(go_at_call 196;refine(uK C S P _ _ _ d.out oO oO oO oO).mono ?_;rintro e A ⟨rfl,t⟩)
   exact⟨⟨j+1,aF S P X a,by go_num,rfl,by omega,by omega,bN d.out _ _,p.out,r.out.step t⟩,by simp[intOf];omega⟩
theorem yA (C S P:Nat) (a:Int) (w:World) (b:VF C S P) (d:0<a) (f:a<S):
 Calls Tryz.prog 221 #[cD C S P,.int .i64 a] w λe w'=>e= .returned (.int .i64 (tf S P a.toNat:Nat))/\Below w.heap.size w w':=by
 obtain⟨A,rfl⟩:=Int.eq_ofNat_of_zero_le (Int.le_of_lt d);have c:=yx b (a:=A) oO oO;have:=b.le;rw[Int.toNat_natCast];exact Hd C S P A _ w b oO c.1 (by have:=c.2;omega)
theorem um {w:World} {c s p:Int} {wr:World} (h:eD w c s p wr):(wr.cell? ⟨w.heap.size,0,none⟩=some (.int .i64 c)/\wr.cell? ⟨w.heap.size,1,none⟩=some (.int .i64 s)/\wr.cell? ⟨w.heap.size,2,none⟩=some (.int .i64 p))/\eD w c s p wr:=⟨h.2.2,h⟩
theorem zu (C S P:Nat) (w:World) (b:VF C S P):
 Calls Tryz.prog 195 #[cD C S P] w λe w'=>e= .returned (.int .i64 (az S P:Nat))/\Below w.heap.size w w':=by
 have v:=b.le;have z:=b.aR;have hg:=j8 b;have A:=hg.1;have m:=hg.2.1;have c:=Lib.hid b;clear b;have k:=Lib.hid hg;clear hg;go_enter Tryz.func195,Tryz.ntmps195;go_wp2_with fail
 go_loopw [3] (λx wr=>∃X:Nat,x= .int .i64 X/\1<=X/\X<=az S P/\eD w C S P wr) (λx _=>az S P-(intOf x).toNat)
 case atStart=>exact⟨1,rfl,by omega,by omega,eD.start w C S P _⟩
 case round=>
  obtain⟨X,rfl,r,y,d⟩:=hrel;obtain⟨n,B,D,E,F⟩:=id d;have o:=Lib.hid d;clear d;have G:=Lib.hid n;clear n;have H:X<S:=oO;have f:=Lib.hid m;clear m;by_cases s:X<az S P
  ·have t:(((tf S P X:Nat):Int)!=(S:Int)-1)=true:=by
    rw[bne_iff_ne];intro e;have l:=yx c.out (a:=X) (by have:=f.out;omega) oO;have e2:tf S P X=S-1:=oO;rw[e2]at l;exact k.out.2.2.2 X r s l.1
   have g:IntKind.i64.wrap ((S:Int)-1)=(S:Int)-1:=IntWalk.i64_in _ oO;go_wp2_with fail
   go_region_held3 (λw'=>(w'.cell? ⟨w.heap.size,0,none⟩=some (.int .i64 C)/\w'.cell? ⟨w.heap.size,1,none⟩=some (.int .i64 S)/\w'.cell? ⟨w.heap.size,2,none⟩=some (.int .i64 P))/\eD w C S P w') (first|exact um (eD.drew o.out)|exact um (by assumption)) (first|(go_at_call 221;refine(yA C S P _ _ c.out oO (by have:=f.out;omega)).mono ?_;rintro e p ⟨rfl,i⟩;have u:=eD.step (And.right (by assumption)) i))
   all_goals clear g
   all_goals go_wp2
   all_goals exact⟨⟨X+1,by go_num,by omega,by omega,And.right (by assumption)⟩,by simp[intOf];omega⟩
  ·have j:X=az S P:=oO;have t:(((tf S P X:Nat):Int)!=(S:Int)-1)=false:=by
    rw[j,Ds k.out.2.2.1,bne_eq_false_iff_eq];omega
   have q:=Lib.hid j;clear j;have g:IntKind.i64.wrap ((S:Int)-1)=(S:Int)-1:=IntWalk.i64_in _ oO;go_wp2_with fail
   go_region_held3 (λw'=>(w'.cell? ⟨w.heap.size,0,none⟩=some (.int .i64 C)/\w'.cell? ⟨w.heap.size,1,none⟩=some (.int .i64 S)/\w'.cell? ⟨w.heap.size,2,none⟩=some (.int .i64 P))/\eD w C S P w') (first|exact um (eD.drew o.out)|exact um (by assumption)) (first|(go_at_call 221;refine(yA C S P _ _ c.out oO (by have:=f.out;omega)).mono ?_;rintro e p ⟨rfl,i⟩;have u:=eD.step (And.right (by assumption)) i))
   all_goals clear g
   all_goals go_wp2
   all_goals go_ret
   all_goals exact⟨dg (by rw[q.out]),eD.below (And.right (by assumption))⟩
end
end Go.Proofs.YtmnlkganmgcpbaaGreatDoor
