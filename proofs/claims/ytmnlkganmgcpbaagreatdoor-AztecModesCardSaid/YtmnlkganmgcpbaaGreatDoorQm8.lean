import Derived.Test.YtmnlkganmgcpbaaGreatDoorQm4
set_option maxRecDepth 100000
set_option maxHeartbeats 4000000
set_option linter.unusedVariables false
set_option linter.unusedSectionVars false
set_option linter.unusedSimpArgs false
namespace Go.Proofs.YtmnlkganmgcpbaaGreatDoor
class Fl (K:Type) where
 add:K->K->K
 mul:K->K->K
 neg:K->K
 zero:K
 one:K
 add_assoc:∀a b c,add (add a b) c=add a (add b c)
 add_comm:∀a b,add a b=add b a
 zero_add:∀a,add zero a=a
 neg_add:∀a,add (neg a) a=zero
 mul_assoc:∀a b c,mul (mul a b) c=mul a (mul b c)
 mul_comm:∀a b,mul a b=mul b a
 one_mul:∀a,mul one a=a
 add_mul:∀a b c,mul (add a b) c=add (mul a c) (mul b c)
 E5:one≠zero
 MA:∀a b,mul a b=zero->a=zero\/b=zero
 dec:DecidableEq K
 CN:List K
 nodup:CN.Nodup
 mem:∀a,a∈CN
namespace Fl
variable {K : Type} [Fl K]
instance:Add K:=⟨Fl.add⟩
instance:Mul K:=⟨Fl.mul⟩
instance:Neg K:=⟨Fl.neg⟩
instance:Sub K:=⟨λa b=>a+-b⟩
instance:Zero K:=⟨Fl.zero⟩
instance:One K:=⟨Fl.one⟩
instance:DecidableEq K:=Fl.dec
def npow (a:K):Nat->K
 |0=>1
 |n+1=>npow a n* a
instance:HPow K Nat K:=⟨npow⟩
instance:Std.Associative (α:=K) (·+·):=⟨Fl.add_assoc⟩
instance:Std.Commutative (α:=K) (·+·):=⟨Fl.add_comm⟩
instance:Std.Associative (α:=K) (·* ·):=⟨Fl.mul_assoc⟩
instance:Std.Commutative (α:=K) (·* ·):=⟨Fl.mul_comm⟩
end Fl
open Fl
variable {K : Type} [Fl K]
theorem fP (a b c:K):a+b+c=a+(b+c):=Fl.add_assoc a b c
theorem eG (a b:K):a+b=b+a:=Fl.add_comm a b
theorem bO (a:K):0+a=a:=Fl.zero_add a
theorem aR (a:K):a+0=a:=by rw[eG];exact bO a
theorem eC (a:K):-a+a=0:=Fl.neg_add a
theorem kF (a:K):a+-a=0:=by rw[eG];exact eC a
theorem de (a b:K):a-b=a+-b:=rfl
theorem bY (a b c:K):a* b* c=a* (b* c):=Fl.mul_assoc a b c
theorem bS (a b:K):a* b=b* a:=Fl.mul_comm a b
theorem dB (a:K):1* a=a:=Fl.one_mul a
theorem eD (a:K):a* 1=a:=by rw[bS];exact dB a
theorem gu (a b c:K):(a+b)* c=a* c+b* c:=Fl.add_mul a b c
theorem gQ (a b c:K):a* (b+c)=a* b+a* c:=by rw[bS,gu,bS b,bS c]
theorem ke:(1:K)≠0:=Fl.E5
theorem xc {a b:K} (h:a* b=0):a=0\/b=0:=Fl.MA a b h
theorem nQ {a b c:K} (h:a+b=a+c):b=c:=by
 have:=congrArg (λx=>-a+x) h;simpa[<-fP,eC,bO]using this
theorem fu {a b c:K} (h:b+a=c+a):b=c:=by
 rw[eG b,eG c]at h;exact nQ h
theorem bU (a:K):0* a=0:=by
 have h:0* a+0* a=0* a+0:=by rw[<-gu,aR,aR]
 exact nQ h
theorem aV (a:K):a* 0=0:=by rw[bS];exact bU a
theorem kI (a b:K):-a* b=-(a* b):=by
 apply fu (a:=a* b);rw[<-gu,eC,eC,bU]
theorem lR (a b:K):a*-b=-(a* b):=by rw[bS,kI,bS]
theorem jZ (a:K):- -a=a:=by
 apply fu (a:=-a);rw[eC,kF]
theorem r9:(-0:K)=0:=by
 apply fu (a:=(0:K));rw[eC,aR]
theorem gV (a b:K):-(a+b)=-a+-b:=by
 apply fu (a:=a+b);rw[eC,show-a+-b+(a+b)=(-a+a)+(-b+b)from by ac_rfl,eC,eC,aR]
theorem cA (a:K):a-a=0:=kF a
theorem eF (a:K):a-0=a:=by rw[de,r9,aR]
theorem yB (a:K):0-a=-a:=bO _
theorem oN (a b:K):a-b+b=a:=by rw[de,fP,eC,aR]
theorem gS {a b:K}:a-b=0↔a=b:=by
 constructor
 ·intro h;have:=oN a b;rw[h,bO]at this;exact this.symm
 ·intro h;subst h;exact cA a
theorem AU (a b c:K):(a-b)* c=a* c-b* c:=by rw[de,gu,kI];rfl
theorem Ig (a b c:K):a* (b-c)=a* b-a* c:=by rw[de,gQ,lR];rfl
theorem ju {a b c:K} (e:a≠0) (h:a* b=a* c):b=c:=by
 have f:a* (b-c)=0:=by rw[Ig,h,cA]
 rcases xc f with d|d
 ·exact absurd d e
 ·exact gS.1 d
theorem jA {a b:K} (c:a≠0) (hb:b≠0):a* b≠0:=by
 intro h;rcases xc h with h|h
 ·exact c h
 ·exact hb h
theorem fs {a b c:K} (d:a≠0) (h:b* a=c* a):b=c:=by
 rw[bS b,bS c]at h;exact ju d h
theorem iG (a:K):a^0=1:=rfl
theorem dE (a:K) (n:Nat):a^(n+1)=a^n* a:=rfl
theorem gr (a:K) (m n:Nat):a^(m+n)=a^m* a^n:=by
 induction n with
 |zero=>rw[iG,eD];rfl
 |succ n b=>rw[<-Nat.add_assoc,dE,b,dE,bY]
theorem iN (n:Nat):(1:K)^n=1:=by
 induction n with
 |zero=>rfl
 |succ n a=>rw[dE,a,dB]
theorem fk (a:K) (m n:Nat):a^(m* n)=(a^m)^n:=by
 induction n with
 |zero=>rfl
 |succ n b=>rw[Nat.mul_succ,gr,b,dE]
theorem l0 (a b:K) (n:Nat):(a* b)^n=a^n* b^n:=by
 induction n with
 |zero=>rw[iG,iG,iG,dB]
 |succ n c=>rw[dE,dE,dE,c];ac_rfl
theorem Fy (n:Nat) (h:n≠0):(0:K)^n=0:=by
 obtain⟨m,rfl⟩:∃m,n=m+1:=⟨n-1,by omega⟩;rw[dE,aV]
theorem iu {a:K} (b:a≠0) (n:Nat):a^n≠0:=by
 induction n with
 |zero=>exact ke
 |succ n c=>rw[dE];exact jA c b
def ia (K:Type) [Fl K]:Nat:=(CN:List K).length
def ka (K:Type) [Fl K]:List K:=(CN:List K).filter (λa=>a≠0)
theorem iD {a:K}:a∈ka K↔a≠0:=by
 unfold ka;simp[Fl.mem]
theorem py:(ka K).Nodup:=Fl.nodup.filter _
theorem Hu:(CN:List K).Perm (0::ka K):=by
 refine(List.perm_ext_iff_of_nodup Fl.nodup ?_).2 ?_
 ·rw[List.nodup_cons];exact⟨by rw[iD];simp,py⟩
 ·intro a;simp only[Fl.mem,List.mem_cons,iD,true_iff];by_cases h:a=0
  ·exact .inl h
  ·exact .inr h
theorem lh:(ka K).length+1=ia K:=by
 have:=(Hu (K:=K)).length_eq;simp only[List.length_cons]at this;exact this.symm
theorem xA:2<=ia K:=by
 rw[<-lh];have h:(1:K)∈ka K:=iD.2 ke;have:=List.length_pos_of_mem h;omega
def prd:List K->K
 |[]=>1
 |a::l=>a* prd l
theorem JQ {l m:List K} (h:l.Perm m):prd l=prd m:=by
 induction h with
 |nil=>rfl
 |cons x _ a=>simp only[prd,a]
 |swap x y l=>simp only[prd];ac_rfl
 |trans _ _ b c=>rw[b,c]
theorem Cc (a:K) (l:List K):prd (l.map (a* ·))=a^l.length* prd l:=by
 induction l with
 |nil=>simp only[List.map_nil,prd,List.length_nil,iG,dB]
 |cons x l b=>simp only[List.map_cons,prd,b,List.length_cons,dE];ac_rfl
theorem LR {l:List K} (h:∀a∈l,a≠0):prd l≠0:=by
 induction l with
 |nil=>exact ke
 |cons x l b=>exact jA (h x oS) (b λa c=>h a (by simp[c]))
theorem kT {α g:Type} {f:α->g} {l:List α} (c:∀a∈l,∀b∈l,f a=f b->a=b) (h:l.Nodup):(l.map f).Nodup:=by
 induction l with
 |nil=>simp
 |cons x l i=>
  rw[List.nodup_cons]at h;rw[List.map_cons,List.nodup_cons];refine⟨?_,i (λa j b hb=>c a (by simp[j]) b (by simp[hb])) h.2⟩;intro k;obtain⟨y,d,e⟩:=List.mem_map.1 k;have:=c y (by simp[d]) x oS e;subst this;exact h.1 d
theorem length_le_of_subset {α:Type} {l m:List α} (hl:l.Nodup) (h:∀a∈l,a∈m):l.length<=m.length:=by
 induction l generalizing m with
 |nil=>simp
 |cons x l d=>
  rw[List.nodup_cons]at hl;obtain⟨s,t,rfl⟩:=List.append_of_mem (h x oS)
  have:=d (m:=s++t) hl.2 (λa c=>by
   have b:=h a (by simp[c]);simp only[List.mem_append,List.mem_cons]at b⊢;rcases b with b|b|b
   ·exact .inl b
   ·subst b;exact absurd c hl.1
   ·exact .inr b)
  simp only[List.length_append,List.length_cons]at this⊢;omega
theorem pJ {α:Type} {l m:List α} (hl:l.Nodup) (h:∀a∈l,a∈m) (d:m.length<=l.length):l.Perm m:=by
 induction l generalizing m with
 |nil=>
  have:m=[]:=List.length_eq_zero_iff.1 (by simpa using d);subst this;exact List.Perm.refl _
 |cons x l e=>
  rw[List.nodup_cons]at hl;obtain⟨s,t,rfl⟩:=List.append_of_mem (h x oS)
  have:=e (m:=s++t) hl.2 (λa c=>by
   have b:=h a (by simp[c]);simp only[List.mem_append,List.mem_cons]at b⊢;rcases b with b|b|b
   ·exact .inl b
   ·subst b;exact absurd c hl.1
   ·exact .inr b) (by simp only[List.length_append,List.length_cons]at d⊢;omega)
  exact(this.cons x).trans List.perm_middle.symm
theorem vF {a:K} (d:a≠0):a^(ia K-1)=1:=by
 have g:((ka K).map (a* ·)).Perm (ka K):=by
  refine pJ (kT (λx _ y _ e=>ju d e) py) ?_ oS;intro b hb;obtain⟨x,c,rfl⟩:=List.mem_map.1 hb;exact iD.2 (jA d (iD.1 c))
 have f:=JQ g;rw[Cc]at f;have i:prd (ka K)≠0:=LR λx c=>iD.1 c;have j:(ka K).length=ia K-1:=by have:=lh (K:=K);omega
 rw[<-j];exact fs i (by rw[f,dB])
def dM (a:K):K:=a^(ia K-2)
theorem fK {a:K} (b:a≠0):a* dM a=1:=by
 have h:=vF b;have:=xA (K:=K);rw[show ia K-1=(ia K-2)+1 from by omega,dE]at h;rw[bS];exact h
theorem AG {a:K} (b:a≠0):dM a* a=1:=by rw[bS,fK b]
theorem sS {a:K} (b:a≠0):dM a≠0:=iu b _
theorem exists_least {P:Nat->Prop} (h:∃n,P n):∃n,P n/\∀m,m<n->¬P m:=by
 obtain⟨n,hn⟩:=h
 induction n using Nat.strongRecOn with
 |_ n d=>
  by_cases c:∃m,m<n/\P m
  ·obtain⟨m,a,b⟩:=c;exact d m a b
  ·exact⟨n,hn,λm a b=>c ⟨m,a,b⟩⟩
def dp (a:K) (k:Nat):Prop:=1<=k/\a^k=1/\∀m,1<=m->m<k->a^m≠1
theorem rE {a:K} (b:a≠0):∃k,dp a k:=by
 obtain⟨k,⟨c,d⟩,e⟩:=exists_least (P:=λk=>1<=k/\a^k=1) ⟨ia K-1,by have:=xA (K:=K);omega,vF b⟩;exact⟨k,c,d,λm f i g=>e m i ⟨f,g⟩⟩
theorem dp.ne {a:K} {k:Nat} (h:dp a k):a≠0:=by
 intro e;subst e;have:=h.2.1;rw[Fy _ (by have:=h.1;omega)]at this;exact ke this.symm
theorem uz {a:K} {k:Nat} (h:a^k=1) (m:Nat):a^m=a^(m%k):=by
 conv=>lhs;rw[<-Nat.div_add_mod m k,gr,fk,h,iN,dB]
theorem dp.dvd {a:K} {k m:Nat} (h:dp a k):a^m=1↔k∣m:=by
 constructor
 ·intro e;rw[uz h.2.1]at e;by_cases b:m%k=0
  ·exact Nat.dvd_of_mod_eq_zero b
  ·exact absurd e (h.2.2 _ oO (Nat.mod_lt _ (by have:=h.1;omega)))
 ·rintro⟨c,rfl⟩;rw[fk,h.2.1,iN]
theorem dp.Js {a:K} {k:Nat} (h:dp a k):k∣ia K-1:=h.dvd.1 (vF h.ne)
theorem dp.le {a:K} {k:Nat} (h:dp a k):k<=ia K-1:=
 Nat.le_of_dvd (by have:=xA (K:=K);omega) h.Js
theorem dp.inj {a:K} {k i j:Nat} (h:dp a k) (b:i<k) (c:j<k) (e:a^i=a^j):i=j:=by
 have d:∀i j,i<=j->i<k->j<k->a^i=a^j->i=j:=by
  intro i j g b c e;have e2:a^i* a^(j-i)=a^i* 1:=by rw[<-gr,eD,show i+(j-i)=j from by omega];exact e.symm
  have e3:=ju (iu h.ne i) e2;by_cases f:j-i=0
  ·omega
  ·exact absurd e3 (h.2.2 _ oO oO)
 rcases Nat.le_total i j with hl|hl
 ·exact d i j hl b c e
 ·exact(d j i hl c b e.symm).symm
theorem dp.pow {a:K} {d e:Nat} (h:dp a (d* e)) (c:1<=d):dp (a^d) e:=by
 refine⟨?_,by rw[<-fk];exact h.2.1,?_⟩
 ·rcases Nat.eq_zero_or_pos e with b|b
  ·subst b;have:=h.1;omega
  ·exact b
 ·intro m g i f;rw[<-fk]at f;have:d* m<d* e:=Nat.mul_lt_mul_of_pos_left i c;exact h.2.2 _ (Nat.mul_pos c g) this f
theorem dp.mul {a b:K} {m k:Nat} (c:dp a m) (hb:dp b k) (hc:Nat.Coprime m k):dp (a* b) (m* k):=by
 have g:1<=m* k:=Nat.mul_pos c.1 hb.1;have e:(a* b)^(m* k)=1:=by
  rw[l0,fk,c.2.1,iN,Nat.mul_comm,fk,hb.2.1,iN,dB]
 refine⟨g,e,?_⟩;intro j f i d;have e1:k∣j:=by
  have:b^(m* j)=1:=by
   have:=congrArg (λx=>x^m) d;simp only[iN,<-fk]at this;rw[l0,Nat.mul_comm j m,fk a,c.2.1,iN,dB]at this;exact this
  exact hc.symm.dvd_of_dvd_mul_left (hb.dvd.1 this)
 have e2:m∣j:=by
  have:a^(k* j)=1:=by
   have:=congrArg (λx=>x^k) d;simp only[iN,<-fk]at this;rw[l0,Nat.mul_comm j k,fk b,hb.2.1,iN,eD]at this;exact this
  exact hc.dvd_of_dvd_mul_left (c.dvd.1 this)
 have:=Nat.le_of_dvd f (hc.mul_dvd_of_dvd_of_dvd e2 e1);omega
theorem strip (q:Nat) (hq:2<=q) (m:Nat) (b:1<=m):∃t r,m=q^t* r/\¬q∣r:=by
 induction m using Nat.strongRecOn with
 |_ m d=>
  by_cases h:q∣m
  ·obtain⟨c,rfl⟩:=h;have hc:1<=c:=by
    rcases Nat.eq_zero_or_pos c with a|a
    ·subst a;simp at b
    ·exact a
   obtain⟨t,r,e,f⟩:=d c (by have:=Nat.mul_le_mul_right c hq;omega) hc;exact⟨t+1,r,by rw[e,Nat.pow_succ];ac_rfl,f⟩
  ·exact⟨0,m,by simp,h⟩
theorem BK (c:Nat) (hc:2<=c):∃q,2<=q/\q∣c/\∀d,d∣q->d=1\/d=q:=by
 obtain⟨q,⟨e,b⟩,f⟩:=exists_least (P:=λq=>2<=q/\q∣c) ⟨c,hc,Nat.dvd_refl c⟩;refine⟨q,e,b,λd a=>?_⟩;have j:d≠0:=by intro h;subst h;have:=Nat.eq_zero_of_zero_dvd a;omega
 have k:=Nat.le_of_dvd oO a;by_cases g:d=1
 ·exact .inl g
 by_cases i:d=q
 ·exact .inr i
 exact absurd ⟨by omega,Nat.dvd_trans a b⟩ (f d oO)
theorem nV {q r:Nat} (hq:∀d,d∣q->d=1\/d=q) (h:¬q∣r):Nat.Coprime q r:=by
 rcases hq (Nat.gcd q r) (Nat.gcd_dvd_left q r)with a|a
 ·exact a
 ·exact absurd (a▸Nat.gcd_dvd_right q r) h
theorem yC {a b:K} {m k:Nat} (j:dp a m) (hb:dp b k) (hn:¬k∣m):∃c l,dp (c:K) l/\m<l:=by
 have hg:Nat.gcd k m∣k:=Nat.gcd_dvd_left k m;obtain⟨c,hc⟩:=hg;have G:1<=Nat.gcd k m:=Nat.gcd_pos_of_pos_left _ hb.1;have z:2<=c:=by
  rcases Nat.lt_or_ge c 2 with h|h
  ·have:c=0\/c=1:=oO;rcases this with d|d
   ·subst d;have:=hb.1;rw[Nat.mul_zero]at hc;omega
   ·subst d;rw[Nat.mul_one]at hc;exact absurd (hc▸Nat.gcd_dvd_right k m) hn
  ·exact h
 obtain⟨q,o,A,B⟩:=BK c z;obtain⟨s,f,g,p⟩:=strip q o k hb.1;obtain⟨t,n,i,C⟩:=strip q o m j.1;have D:t<s:=by
  rcases Nat.lt_or_ge t s with h|h
  ·exact h
  ·exfalso;have u:q^s∣m:=by rw[i];exact Nat.dvd_trans (Nat.pow_dvd_pow q h) (Nat.dvd_mul_right _ _)
   have v:q^s∣k:=by rw[g];exact Nat.dvd_mul_right _ _
   obtain⟨e,w⟩:=Nat.dvd_gcd v u;have x:q^s* f=q^s* (e* c):=by rw[<-g,<-Nat.mul_assoc,<-w,<-hc]
   have y:f=e* c:=Nat.eq_of_mul_eq_mul_left (Nat.pow_pos oO) x;exact p (y▸Nat.dvd_trans A (Nat.dvd_mul_left c e))
 have E:dp (b^f) (q^s):=dp.pow (by rw[Nat.mul_comm,<-g];exact hb) (by
  rcases Nat.eq_zero_or_pos f with d|d
  ·subst d;exact absurd (Nat.dvd_zero q) p
  ·exact d)
 have r:dp (a^(q^t)) n:=dp.pow (by rw[<-i];exact j) (Nat.pow_pos oO);refine⟨_,_,dp.mul E r (Nat.Coprime.pow_left s (nV B C)),?_⟩;have F:1<=n:=r.1;have:q^t<q^s:=Nat.pow_lt_pow_right oO D;rw[i];exact Nat.mul_lt_mul_of_pos_right this F
def ev (x:K):List K->K
 |[]=>0
 |c::t=>c+x* ev x t
def sd (r:K):List K->List K
 |[]=>[]
 |[_]=>[]
 |_::d::t=>ev r (d::t)::sd r (d::t)
theorem Gj (r:K) (p:List K):(sd r p).length=p.length-1:=by
 induction p with
 |nil=>rfl
 |cons c t a=>cases t with
  |nil=>rfl
  |cons d t=>simp only[sd,List.length_cons]at a⊢;omega
theorem Mh (r x:K) (p:List K):ev x p=(x-r)* ev x (sd r p)+ev r p:=by
 induction p with
 |nil=>simp only[ev,sd,aV,aR]
 |cons c t a=>cases t with
  |nil=>simp only[ev,sd,aV,aR,bO]
  |cons d t=>
   have e1:ev x (c::d::t)=c+x* ev x (d::t):=rfl;have e2:ev r (c::d::t)=c+r* ev r (d::t):=rfl;have e3:ev x (sd r (c::d::t))=ev r (d::t)+x* ev x (sd r (d::t)):=rfl;rw[e1,e2,e3,a];generalize ev r (d::t)=u;generalize ev x (sd r (d::t))=v;simp only[gQ,de,gu];rw[show x* u+-r* u+(x* (x* v)+-r* (x* v))+(c+r* u)=(-r* u+r* u)+(c+(x* (x* v)+x* (-r* v)+x* u))from by ac_rfl];rw[show-r* u+r* u=0 from by rw[kI,eC],bO]
theorem Kr (r:K) (p:List K) (h:2<=p.length):(sd r p).getLast?=p.getLast?:=by
 induction p with
 |nil=>simp at h
 |cons c t a=>cases t with
  |nil=>simp at h
  |cons d t=>
   cases t with
   |nil=>simp[sd,ev,aV,aR]
   |cons e t=>
    have:=a oS;have b:sd r (c::d::e::t)=ev r (d::e::t)::sd r (d::e::t):=rfl;rw[b];have f:sd r (d::e::t)=ev r (e::t)::sd r (e::t):=rfl;rw[f]at this⊢;simp only[List.getLast?_cons_cons]at this⊢;exact this
theorem BQ (p:List K) (c:K) (hc:p.getLast?=some c) (i:c≠0) (l:List K) (hl:l.Nodup) (b:∀x∈l,ev x p=0):l.length<p.length:=by
 induction l generalizing p with
 |nil=>
  have:p≠[]:=by intro h;subst h;simp at hc
  exact List.length_pos_iff.2 this
 |cons r l g=>
  rw[List.nodup_cons]at hl;by_cases a:2<=p.length
  ·have:=g (sd r p) (by rw[Kr r p a];exact hc) hl.2 (by
    intro x f;have e:=Mh r x p;rw[b x (by simp[f]),b r oS,aR]at e;rcases xc e.symm with h|h
    ·rw[gS]at h;subst h;exact absurd f hl.1
    ·exact h)
   rw[Gj]at this;simp only[List.length_cons];omega
  ·exfalso
   match p,hc,a with
   |[],hc,_=>simp at hc
   |[d],hc,_=>
    have:d=c:=by simpa using hc
    subst this;have:=b r oS;simp only[ev,aV,aR]at this;exact i this
   |_::_::_,_,a=>simp at a
theorem Mt (x:K) (e:Nat):ev x (List.replicate e (0:K)++[1])=x^e:=by
 induction e with
 |zero=>simp only[List.replicate_zero,List.nil_append,ev,aV,aR,iG]
 |succ e a=>simp only[List.replicate_succ,List.cons_append,ev,a,bO,dE];exact bS _ _
theorem uV {e:Nat} (f:1<=e) (h:∀a:K,a≠0->a^e=1):ia K-1<=e:=by
 obtain⟨e,rfl⟩:∃d,e=d+1:=⟨e-1,by omega⟩
 have:=BQ (K:=K) (-1::(List.replicate e (0:K)++[1])) 1 (by rw[List.getLast?_cons];simp) ke (ka K) py (by
  intro x b;have c:=h x (iD.1 b);simp only[ev,Mt]
  rw[bS,<-dE,c,eC])
 simp only[List.length_cons,List.length_append,List.length_replicate,List.length_nil]at this;have:=lh (K:=K);omega
theorem L7:∃g:K,dp g (ia K-1):=by
 have key:∀d:Nat,∀a:K,∀m,dp a m->ia K-1-m<=d->∃g:K,dp g (ia K-1):=by
  intro d
  induction d with
  |zero=>
   intro a m h e;have:=h.le;obtain rfl:m=ia K-1:=oO;exact⟨a,h⟩
  |succ d n=>
   intro a m h e;by_cases j:∀b:K,b≠0->b^m=1
   ·have:=uV h.1 j;have:=h.le;obtain rfl:m=ia K-1:=oO;exact⟨a,h⟩
   ·have:∃b:K,b≠0/\b^m≠1:=by
     apply Classical.byContradiction;intro p;exact j λb hb=>Classical.byContradiction λo=>p ⟨b,hb,o⟩
    obtain⟨b,hb,q⟩:=this;obtain⟨k,f⟩:=rE hb;obtain⟨c,l,i,r⟩:=yC h f (λe=>q (f.dvd.2 e));exact n c l i (by have:=i.le;omega)
 exact key (ia K) 1 1 ⟨Nat.le_refl 1,iN 1,λm s r=>by omega⟩ oO
def lE (p:Nat):Bool:=(List.range (2^((bl p-1)/2+1))).all λq=>decide (q<2)||cmod p q !=0
theorem nT (p:Nat):lE p=true↔∀q,2<=q->2* (bl q-1)<=bl p-1->cmod p q≠0:=by
 unfold lE;rw[List.all_eq_true];constructor
 ·intro h q a b;have hb:=fG q oO;have:=h q (List.mem_range.2 ((aS _ _).1 oO));simp at this;omega
 ·intro h q hq;have c:=(aS q _).2 (List.mem_range.1 hq);by_cases a:q<2
  ·simp[a]
  ·have:=h q oO (by have:=fG q oO;omega);simp[this]
def gE (n:Nat):Bool:=decide (2<=n)&&(List.range (n+1)).all λd=>decide (d<2)||decide (n<d* d)||n%d !=0
theorem lQ (n:Nat):gE n=true↔2<=n/\∀d,2<=d->d* d<=n->n%d≠0:=by
 unfold gE;rw[Bool.and_eq_true,List.all_eq_true,decide_eq_true_iff];constructor
 ·rintro⟨a,h⟩;refine⟨a,λd b c=>?_⟩;have f:d<=n:=Nat.le_trans (Nat.le_mul_of_pos_left d oO) c;have:=h d (List.mem_range.2 oO);simp at this;omega
 ·rintro⟨a,h⟩;refine⟨a,λd _=>?_⟩;by_cases b:d<2
  ·simp[b]
  ·by_cases e:n<d* d
   ·simp[e]
   ·have:=h d oO oO;simp[this]
theorem F8 {n:Nat} (h:gE n=true):∀d,d∣n->d=1\/d=n:=by
 obtain⟨i,b⟩:=(lQ n).1 h;intro d f;obtain⟨e,a⟩:=f;have j:d≠0:=by intro h;subst h;omega
 have k:e≠0:=by intro h;subst h;omega
 by_cases c:d=1
 ·exact .inl c
 by_cases e1:e=1
 ·subst e1;right;omega
 exfalso;by_cases g:d<=e
 ·have:d* d<=n:=by rw[a];exact Nat.mul_le_mul_left d g
  exact b d oO this (by rw[a];exact Nat.mul_mod_right d e)
 ·have:e* e<=n:=by rw[a];exact Nat.mul_le_mul_right e oO
  exact b e oO this (Nat.mod_eq_zero_of_dvd ⟨d,by rw[a,Nat.mul_comm]⟩)
theorem Mc {p d:Nat} (c:bl p=d+1) (e:1<=d) (h:lE p=true):Mu p:=by
 refine⟨by omega,λq hq a b=>?_⟩;exact(nT p).1 h q hq a ((oh p q oO).2 b)
def VF (c s p:Nat):Prop:=
 (p=0/\c=s/\2<s/\s<=4096/\gE s=true)\/(∃d,1<=d/\d<=12/\bl p=d+1/\s=2^d/\c=2/\lE p=true)
def aT (s p a b:Nat):Nat:=if p=0 then(a+b)%s else a^^^b
def sP (s p a:Nat):Nat:=if p=0 then(s-a)%s else a
structure El (s:Nat) where
 val:Nat
 lt:val<s
theorem El.ext {s:Nat} {a b:El s} (h:a.val=b.val):a=b:=by
 cases a;cases b;simp only at h;subst h;rfl
theorem VF.aG {c s p:Nat} (h:VF c s p):2<=s:=by
 rcases h with⟨-,-,h,-⟩|⟨d,a,-,-,h,-⟩
 ·omega
 ·rw[h];exact Nat.pow_le_pow_right (n:=2) oO a
theorem VF.le {c s p:Nat} (h:VF c s p):s<=4096:=by
 rcases h with⟨-,-,-,h,-⟩|⟨d,-,a,-,h,-⟩
 ·omega
 ·rw[h];exact Nat.pow_le_pow_right (n:=2) oO a
theorem ja {c s p:Nat} (h:VF c s p) (a b:Nat) (f:a<s) (hb:b<s):aT s p a b<s:=by
 have g:=h.aG;unfold aT;rcases h with⟨e,-⟩|⟨d,-,-,e,hs,-⟩
 ·rw[if_pos e];exact Nat.mod_lt _ oO
 ·rw[if_neg (by intro h;subst h;rw[dI]at e;omega)];subst hs;exact Nat.xor_lt_two_pow f hb
theorem Ks {c s p:Nat} (h:VF c s p) (a:Nat) (b:a<s):sP s p a<s:=by
 unfold sP;split
 ·exact Nat.mod_lt _ (by have:=h.aG;omega)
 ·exact b
theorem aO {c s p:Nat} (h:VF c s p) (a b:Nat):au s p a b<s:=by
 have g:=h.aG;unfold au;rcases h with⟨e,-⟩|⟨d,-,-,e,hs,-⟩
 ·rw[if_pos e];exact Nat.mod_lt _ oO
 ·have f:p≠0:=by intro h;subst h;rw[dI]at e;omega
  rw[if_neg f];subst hs;exact(aS _ _).1 (by have:=kK (bJ a b) p f;omega)
theorem nM (a b n:Nat):(a%n)* b%n=a* b%n:=by rw[Nat.mul_mod,Nat.mod_mod,<-Nat.mul_mod]
theorem tf (a b n:Nat):a* (b%n)%n=a* b%n:=by rw[Nat.mul_mod,Nat.mod_mod,<-Nat.mul_mod]
theorem Cx (a s:Nat) (b:a<s):((s-a)%s+a)%s=0:=by
 by_cases h:a=0
 ·subst h;simp
 ·rw[Nat.mod_eq_of_lt (by omega:s-a<s),show s-a+a=s from by omega,Nat.mod_self]
instance Mr (s:Nat):DecidableEq (El s):=λa b=>
 if h:a.val=b.val then isTrue (El.ext h)else isFalse (λe=>h (by rw[e]))
theorem Cu {c s p:Nat} (h:VF c s p) (a b:Nat) (j:a<s) (hb:b<s) (e:au s p a b=0):a=0\/b=0:=by
 unfold au at e;rcases h with⟨f,-,-,-,m⟩|⟨d,k,-,f,hs,-,n⟩
 ·rw[if_pos f]at e;have l:=Nat.dvd_of_mod_eq_zero e;by_cases g:s∣a
  ·left;by_cases o:a=0
   ·exact o
   ·exact absurd (Nat.le_of_dvd oO g) oO
  ·right;have hc:=nV (F8 m) g;have q:=hc.dvd_of_dvd_mul_left l;by_cases r:b=0
   ·exact r
   ·exact absurd (Nat.le_of_dvd oO q) oO
 ·have i:p≠0:=by intro h;subst h;rw[dI]at f;omega
  rw[if_neg i]at e;subst hs;have t:=(aS _ _).2 j;have u:=(aS _ _).2 hb;rcases Lu p a b (Mc f k n) ((oh _ _ i).1 e)with h|h
  ·exact .inl (qK h oO)
  ·exact .inr (qK h oO)
@[reducible] def ee {c s p:Nat} (h:VF c s p):Fl (El s) where
 add a b:=⟨aT s p a.val b.val,ja h _ _ a.lt b.lt⟩
 mul a b:=⟨au s p a.val b.val,aO h _ _⟩
 neg a:=⟨sP s p a.val,Ks h _ a.lt⟩
 zero:=⟨0,by have:=h.aG;omega⟩
 one:=⟨1,by have:=h.aG;omega⟩
 add_assoc a b c:=El.ext (by
  simp only[aT];split
  ·rw[Nat.mod_add_mod,Nat.add_mod_mod,Nat.add_assoc]
  ·exact Nat.xor_assoc _ _ _)
 add_comm a b:=El.ext (by
  simp only[aT];split
  ·rw[Nat.add_comm]
  ·exact Nat.xor_comm _ _)
 zero_add a:=El.ext (by
  simp only[aT];split
  ·rw[Nat.zero_add];exact Nat.mod_eq_of_lt a.lt
  ·exact Nat.zero_xor _)
 neg_add a:=El.ext (by
  simp only[aT,sP];split
  ·exact Cx _ _ a.lt
  ·exact Nat.xor_self _)
 mul_assoc a b c:=El.ext (by
  simp only[au];split
  ·rw[nM,tf,Nat.mul_assoc]
  ·rename_i hp;rw[mg _ _ _ hp,vX _ _ _ hp,qO])
 mul_comm a b:=El.ext (by
  simp only[au];split
  ·rw[Nat.mul_comm]
  ·rw[mO])
 one_mul a:=El.ext (by
  simp only[au];rcases h with⟨hp,-⟩|⟨d,-,-,hp,hs,-⟩
  ·rw[if_pos hp,Nat.one_mul];exact Nat.mod_eq_of_lt a.lt
  ·have f:p≠0:=by intro h;subst h;rw[dI]at hp;omega
   rw[if_neg f,uJ];have:=a.lt;subst hs
   exact jw _ _ (by have:=(aS _ _).2 this;omega))
 add_mul a b c:=El.ext (by
  simp only[au,aT];split
  ·rw[nM,Nat.add_mul,Nat.mod_add_mod,Nat.add_mod_mod]
  ·rename_i hp;rw[qY,zm _ _ _ hp])
 E5:=by intro e;have:=congrArg El.val e;simp at this
 MA a b e:=by
  rcases Cu h a.val b.val a.lt b.lt (congrArg El.val e)with h|h
  ·exact .inl (El.ext h)
  ·exact .inr (El.ext h)
 dec:=Mr s
 CN:=(List.finRange s).map λi=>⟨i.val,i.isLt⟩
 nodup:=kT (λa _ b _ e=>Fin.ext (congrArg El.val e)) (List.nodup_finRange s)
 mem a:=List.mem_map.2 ⟨⟨a.val,a.lt⟩,List.mem_finRange _,rfl⟩
theorem j8 {c s p:Nat} (h:VF c s p):@ia (El s) (ee h)=s:=by
 show((List.finRange s).map _).length=s;simp
def fpowN (s p a:Nat):Nat->Nat
 |0=>1
 |n+1=>au s p (fpowN s p a n) a
theorem eg {c s p:Nat} (h:VF c s p) (a:El s) (n:Nat):fpowN s p a.val n=(@HPow.hPow (El s) Nat (El s) (@Fl.instHPowNat (El s) (ee h)) a n).val:=by
 induction n with
 |zero=>rfl
 |succ n b=>simp only[fpowN];rw[b];rfl
section
variable {c s p : Nat} (h : VF c s p)
include h
theorem lZ (a n:Nat):fpowN s p a n<s:=by
 cases n with
 |zero=>have:=h.aG;show 1<s;omega
 |succ n=>exact aO h _ _
theorem pow_even (r a N:Nat) (d:r<s) (b:a<s) (e:N%2=0):
 au s p r (fpowN s p (au s p a a) (N/2))=au s p r (fpowN s p a N):=by
 letI:=ee h
 let x:El s:=⟨a,b⟩
 have e1:au s p a a=(x* x).val:=rfl;have e2:fpowN s p a N=(x^N).val:=eg h x N;rw[e1,e2,eg h (x* x) (N/2)];have e3:(x* x)^(N/2)=x^N:=by
  rw[l0,<-gr];exact congrArg (λn=>x^n) (show N/2+N/2=N by omega)
 rw[<-e3]
theorem pow_odd (r a N:Nat) (b:r<s) (d:a<s) (e:N%2=1):
 au s p (au s p r a) (fpowN s p (au s p a a) (N/2))=au s p r (fpowN s p a N):=by
 letI:=ee h
 let x:El s:=⟨a,d⟩
 let y:El s:=⟨r,b⟩
 have e1:au s p a a=(x* x).val:=rfl;have e2:fpowN s p a N=(x^N).val:=eg h x N;have e4:au s p r a=(y* x).val:=rfl;rw[e1,e2,e4,eg h (x* x) (N/2)];have e3:y* x* (x* x)^(N/2)=y* x^N:=by
  have e5:x^N=x^(N/2+N/2)* x:=by
   rw[<-dE];exact congrArg (λn=>x^n) (show N=N/2+N/2+1 by omega)
  rw[l0,<-gr,bY,bS x,e5]
 show(y* x* (x* x)^(N/2)).val=(y* x^N).val;rw[e3]
theorem uw (a:Nat) (b:a<s):au s p 1 a=a:=by
 letI:=ee h
 let x:El s:=⟨a,b⟩
 show((1:El s)* x).val=x.val;rw[dB]
theorem tW (a:Nat) (b:a<s):au s p a 1=a:=by
 letI:=ee h
 let x:El s:=⟨a,b⟩
 show(x* (1:El s)).val=x.val;rw[eD]
end
def lG (s p a k:Nat):Prop:=1<=k/\fpowN s p a k=1/\∀m,1<=m->m<k->fpowN s p a m≠1
theorem lG.unique {s p a k l:Nat} (h:lG s p a k) (g:lG s p a l):k=l:=by
 by_cases b:k<l
 ·exact absurd h.2.1 (g.2.2 k h.1 b)
 ·by_cases d:l<k
  ·exact absurd g.2.1 (h.2.2 l g.1 d)
  ·omega
section
variable {c s p : Nat} (h : VF c s p)
include h
theorem il (x:El s) (n:Nat):fpowN s p x.val n=1↔(letI:=ee h;x^n=(1:El s)):=by
 rw[eg h];constructor
 ·intro e;exact El.ext e
 ·intro e;exact congrArg El.val e
theorem oA (x:El s) (k:Nat):lG s p x.val k↔(letI:=ee h;dp x k):=by
 letI:=ee h
 constructor
 ·rintro⟨a,b,d⟩;exact⟨a,(il h x k).1 b,λm f g e=>d m f g ((il h x m).2 e)⟩
 ·rintro⟨a,b,d⟩;exact⟨a,(il h x k).2 b,λm f g e=>d m f g ((il h x m).1 e)⟩
theorem kb (x:El s):(letI:=ee h;x≠(0:El s))↔x.val≠0:=by
 letI:=ee h
 constructor
 ·intro e e2;exact e (El.ext e2)
 ·intro e e2;exact e (congrArg El.val e2)
theorem BY (a:Nat) (d:a<s) (e:a≠0):∃k,lG s p a k/\k<=s-1:=by
 letI:=ee h
 let x:El s:=⟨a,d⟩
 obtain⟨k,b⟩:=rE ((kb h x).2 e);have:=b.le;rw[j8 h]at this;exact⟨k,(oA h x k).2 b,this⟩
def Iq (s p g:Nat):Prop:=1<=g/\g<s/\lG s p g (s-1)/\∀x,1<=x->x<g->¬lG s p x (s-1)
theorem BX:∃g,Iq s p g:=by
 letI:=ee h
 obtain⟨x,a⟩:=L7 (K:=El s);rw[j8 h]at a;have l:=(kb h x).1 a.ne;obtain⟨g,⟨b,d,e⟩,f⟩:=exists_least (P:=λg=>1<=g/\g<s/\lG s p g (s-1)) ⟨x.val,by omega,x.lt,(oA h x _).2 a⟩;exact⟨g,b,d,e,λy i k j=>f y k ⟨i,by omega,j⟩⟩
end
noncomputable def nk (s p a:Nat):Nat:=@dite Nat (∃k,lG s p a k) (Classical.propDecidable _) (λh=>Classical.choose h) (λ_=>0)
theorem xp {s p a k:Nat} (h:lG s p a k):nk s p a=k:=by
 have b:∃k,lG s p a k:=⟨k,h⟩;unfold nk;rw[dif_pos b];exact(Classical.choose_spec b).unique h
theorem oU {c s p a:Nat} (h:VF c s p) (d:a<s) (e:a≠0):lG s p a (nk s p a)/\nk s p a<=s-1:=by
 obtain⟨k,b,f⟩:=BY h a d e;rw[xp b];exact⟨b,f⟩
noncomputable def aw (s p:Nat):Nat:=@dite Nat (∃k,Iq s p k) (Classical.propDecidable _) (λh=>Classical.choose h) (λ_=>0)
theorem iz {c s p:Nat} (h:VF c s p):Iq s p (aw s p):=by
 have a:=BX h;unfold aw;rw[dif_pos a];exact Classical.choose_spec a
theorem KJ {c s p:Nat} (h:VF c s p) {i j:Nat} (a:i<s-1) (b:j<s-1) (e:fpowN s p (aw s p) i=fpowN s p (aw s p) j):i=j:=by
 have hg:=iz h
 letI:=ee h
 let x:El s:=⟨aw s p,hg.2.1⟩
 have d:dp x (s-1):=(oA h x _).1 hg.2.2.1;refine d.inj a b ?_;have e2:(x^i).val=(x^j).val:=by rw[<-eg h,<-eg h];exact e
 exact El.ext e2
theorem Ie {c s p:Nat} (h:VF c s p) {a:Nat} (g:a<s) (k:a≠0):∃j,j<s-1/\fpowN s p (aw s p) j=a:=by
 have hg:=iz h
 letI:=ee h
 let x:El s:=⟨aw s p,hg.2.1⟩
 have f:dp x (s-1):=(oA h x _).1 hg.2.2.1
 let l:List (El s):=(List.range (s-1)).map λj=>x^j
 have hn:l.Nodup:=kT (λi m j b e=>f.inj (List.mem_range.1 m) (List.mem_range.1 b) e) List.nodup_range;have q:∀y∈l,y∈ka (El s):=by
  intro y d;obtain⟨j,_,rfl⟩:=List.mem_map.1 d;exact iD.2 (iu f.ne j)
 have r:(ka (El s)).length<=l.length:=by
  have n:=lh (K:=El s);rw[j8 h]at n;simp[l];omega
 have o:=pJ hn q r
 let y:El s:=⟨a,g⟩
 have d:y∈l:=o.mem_iff.2 (iD.2 ((kb h y).2 k));obtain⟨j,b,e⟩:=List.mem_map.1 d;exact⟨j,List.mem_range.1 b,by rw[show aw s p=x.val from rfl,eg h];exact congrArg El.val e⟩
noncomputable def ej (s p a:Nat):Nat:=@dite Nat (∃j,j<s-1/\fpowN s p (aw s p) j=a) (Classical.propDecidable _) (λh=>Classical.choose h) (λ_=>0)
theorem ei {c s p a:Nat} (h:VF c s p) (d:a<s) (e:a≠0):ej s p a<s-1/\fpowN s p (aw s p) (ej s p a)=a:=by
 have b:=Ie h d e;unfold ej;rw[dif_pos b];exact Classical.choose_spec b
theorem KP {c s p a j:Nat} (h:VF c s p) (d:a<s) (f:a≠0) (g:j<s-1) (e:fpowN s p (aw s p) j=a):ej s p a=j:=by
 have b:=ei h d f;exact KJ h b.1 g (b.2.trans e.symm)
def aM (s p a b:Nat):Nat:=if p=0 then(a+s-b)%s else a^^^b
def bE (s p a:Nat):Nat:=fpowN s p a (s-2)
section
variable {c s p : Nat} (h : VF c s p)
include h
theorem ya (x y:El s):aM s p x.val y.val=(letI:=ee h;(x-y:El s).val):=by
 show aM s p x.val y.val=aT s p x.val (sP s p y.val);unfold aM aT sP;split
 ·rw[Nat.add_mod_mod];have:=y.lt;rw[show x.val+s-y.val=x.val+(s-y.val)from by omega]
 ·rfl
theorem Gc {x y:Nat} (a:x<s) (b:y<s):aT s p x y=aT s p y x:=by
 letI:=ee h
 exact congrArg El.val (eG (⟨x,a⟩:El s) ⟨y,b⟩)
theorem sE {x:Nat} (a:x<s):aT s p x 0=x:=by
 letI:=ee h
 exact congrArg El.val (aR (⟨x,a⟩:El s))
theorem D0 {x y z:Nat} (a:x<s) (b:y<s) (d:z<s):au s p (au s p x y) z=au s p x (au s p y z):=by
 letI:=ee h
 exact congrArg El.val (bY (⟨x,a⟩:El s) ⟨y,b⟩ ⟨z,d⟩)
theorem G4 {x y:Nat} (a:x<s) (b:y<s):au s p x y=au s p y x:=by
 letI:=ee h
 exact congrArg El.val (bS (⟨x,a⟩:El s) ⟨y,b⟩)
theorem mM {x:Nat} (a:x<s):au s p x 0=0:=by
 letI:=ee h
 exact congrArg El.val (aV (⟨x,a⟩:El s))
theorem eI {x y:Nat} (a:x<s) (b:y<s):aM s p x y<s:=by
 letI:=ee h
 have e:aM s p x y=_:=ya h ⟨x,a⟩ ⟨y,b⟩;rw[e];exact El.lt _
theorem fq {x:Nat}:bE s p x<s:=lZ h _ _
theorem zH {x:Nat} (b:x<s) (d:x≠0):au s p x (bE s p x)=1:=by
 letI:=ee h
 let a:El s:=⟨x,b⟩
 have hc:ia (El s)=s:=j8 h;have e:bE s p x=(dM a).val:=by
  show fpowN s p a.val (s-2)=(a^(ia (El s)-2)).val;rw[hc];exact eg h a _
 rw[e];exact congrArg El.val (fK ((kb h a).2 d))
theorem Ak {x k:Nat} (b:x<s) (d:fpowN s p x k=1) (n:Nat):fpowN s p x n=fpowN s p x (n%k):=by
 letI:=ee h
 let a:El s:=⟨x,b⟩
 have e1:a^k=1:=(il h a k).1 d;have e2:=uz e1 n;rw[show x=a.val from rfl,eg h a n,eg h a (n%k)];exact congrArg El.val e2
theorem tR {x:Nat} (b:x<s) (d:x≠0):fpowN s p x (s-1)=1:=by
 letI:=ee h
 let a:El s:=⟨x,b⟩
 have hc:ia (El s)=s:=j8 h;refine(il h a _).2 ?_;have:=vF ((kb h a).2 d);rw[hc]at this;exact this
theorem uC {x:Nat} (b:x<s) (m n:Nat):fpowN s p x (m+n)=au s p (fpowN s p x m) (fpowN s p x n):=by
 letI:=ee h
 let a:El s:=⟨x,b⟩
 have:=congrArg El.val (gr a m n);rw[<-eg]at this;rw[show x=a.val from rfl,this,eg h a m,eg h a n];rfl
theorem ep {x:Nat} (n:Nat):fpowN s p x n<s:=lZ h _ _
end
noncomputable def IX (s p:Nat):List Nat:=(List.range (s-1)).map (fpowN s p (aw s p))
noncomputable def kD (s p n:Nat):List Nat:=(List.range s).map λx=>if x=0 then 0 else if ej s p x<n then ej s p x else 0
noncomputable def jm (s p n:Nat):List Nat:=(List.range (s-1)).map λi=>if i<n then fpowN s p (aw s p) i else 0
theorem aQ (f:Nat->Nat) (n i:Nat) (a:i<n):((List.range n).map f).getD i 0=f i:=by
 simp[List.getD,a]
theorem dN (f:Nat->Nat) (n i v:Nat) (a:i<n):((List.range n).map f).set i v=(List.range n).map (λk=>if k=i then v else f k):=by
 apply List.ext_getElem
 ·simp
 ·intro k b d;simp only[List.getElem_set,List.getElem_map,List.getElem_range];by_cases h:i=k
  ·subst h;simp
  ·rw[if_neg h,if_neg (λe=>h e.symm)]
section
variable {c s p : Nat} (h : VF c s p)
include h
theorem jy:aw s p<s:=(iz h).2.1
theorem Bd:aw s p≠0:=by have:=(iz h).1;omega
theorem wD (n:Nat):fpowN s p (aw s p) n≠0:=by
 letI:=ee h
 let a:El s:=⟨aw s p,jy h⟩
 have:a^n≠0:=iu ((kb h a).2 (Bd h)) n;intro e;apply this;apply El.ext;rw[<-eg h a n];exact e
theorem Hy {n:Nat} (hn:n<s-1):ej s p (fpowN s p (aw s p) n)=n:=
 KP h (ep h n) (wD h n) hn rfl
theorem yA {n:Nat} (hn:n<s-1):(jm s p n).set n (fpowN s p (aw s p) n)=jm s p (n+1):=by
 unfold jm;rw[dN _ _ _ _ hn];apply List.map_congr_left;intro k b;by_cases e:k=n
 ·subst e;simp
 ·rw[if_neg e];by_cases a:k<n
  ·rw[if_pos a,if_pos oO]
  ·rw[if_neg a,if_neg oO]
theorem Ad {n:Nat} (hn:n<s-1):(kD s p n).set (fpowN s p (aw s p) n) n=kD s p (n+1):=by
 unfold kD;rw[dN _ _ _ _ (ep h n)];apply List.map_congr_left;intro k d;have f:k<s:=List.mem_range.1 d;by_cases e:k=fpowN s p (aw s p) n
 ·rw[if_pos e,e,if_neg (wD h n),Hy h hn,if_pos oO]
 ·rw[if_neg e];by_cases a:k=0
  ·rw[if_pos a,if_pos a]
  ·rw[if_neg a,if_neg a];have hl:ej s p k≠n:=by
    intro e2;apply e;have:=(ei h f a).2;rw[e2]at this;exact this.symm
   by_cases b:ej s p k<n
   ·rw[if_pos b,if_pos oO]
   ·rw[if_neg b,if_neg oO]
theorem wJ:jm s p 0=List.replicate (s-1) 0:=by
 unfold jm;apply List.ext_getElem<;>simp
theorem xO:kD s p 0=List.replicate s 0:=by
 unfold kD;apply List.ext_getElem<;>simp
theorem vm:jm s p (s-1)=IX s p:=by
 unfold jm IX;apply List.map_congr_left;intro k a;rw[if_pos (List.mem_range.1 a)]
theorem zv {i:Nat} (a:i<s-1):(IX s p).getD i 0=fpowN s p (aw s p) i:=aQ _ _ _ a
theorem Au {x:Nat} (a:x<s) (b:x≠0):(kD s p (s-1)).getD x 0=ej s p x:=by
 rw[show(kD s p (s-1)).getD x 0=_ from aQ _ _ _ a];rw[if_neg b,if_pos (ei h a b).1]
theorem CV {x y:Nat} (a:x<s) (b:y<s) (d:x≠0) (e:y≠0):fpowN s p (aw s p) ((ej s p x+ej s p y)%(s-1))=au s p x y:=by
 rw[<-Ak h (jy h) (tR h (jy h) (Bd h)),uC h (jy h),(ei h a d).2,(ei h b e).2]
theorem Dm {x y:Nat} (e:x<s) (d:y<s) (i:x≠0) (g:y≠0):fpowN s p (aw s p) ((ej s p x+(s-1)-ej s p y)%(s-1))=au s p x (bE s p y):=by
 have f:=tR h (jy h) (Bd h);have a:=ei h e i;have b:=ei h d g;rw[<-Ak h (jy h) f];generalize j:ej s p x+(s-1)-ej s p y=k;have e1:au s p (fpowN s p (aw s p) k) y=x:=by
  have:fpowN s p (aw s p) (k+ej s p y)=fpowN s p (aw s p) (ej s p x+(s-1)):=by congr 1;omega
  rw[uC h (jy h),uC h (jy h),a.2,b.2,f,tW h _ e]at this;exact this
 have e2:au s p (au s p (fpowN s p (aw s p) k) y) (bE s p y)=au s p x (bE s p y):=by rw[e1]
 rw[D0 h (ep h k) d (fq h),zH h d g,tW h _ (ep h k)]at e2;exact e2
theorem Mw {x:Nat} (a:x<s):aT s p 0 x=x:=by rw[Gc h (by have:=h.aG;omega) a,sE h a]
theorem oR {x:Nat} (a:x<s):au s p 0 x=0:=by rw[G4 h (by have:=h.aG;omega) a,mM h a]
end
def tl (l:List Nat):Nat->Nat
 |0=>0
 |n+1=>if l.getD n 0=0 then tl l n else n+1
theorem JZ (l:List Nat) (n:Nat):tl l n<=n:=by
 induction n with
 |zero=>exact Nat.le_refl _
 |succ n a=>unfold tl;split<;>omega
theorem K7 (l:List Nat) (n i:Nat) (a:tl l n<=i) (f:i<n):l.getD i 0=0:=by
 induction n with
 |zero=>omega
 |succ n b=>
  unfold tl at a;split at a
  ·rename_i d
   by_cases e:i=n
   ·rw[e];exact d
   ·exact b a oO
  ·omega
theorem Kk (l:List Nat) (n:Nat) (h:tl l n≠0):l.getD (tl l n-1) 0≠0:=by
 induction n with
 |zero=>exact absurd rfl h
 |succ n b=>
  unfold tl at h⊢;split
  ·rename_i a
   rw[if_pos a]at h;exact b h
  ·rename_i a
   simpa using a
def dJ (l:List Nat):List Nat:=l.take (tl l l.length)
def cG (l:List Nat):Prop:=l=[]\/l.getD (l.length-1) 0≠0
theorem iZ (l:List Nat):(dJ l).length=tl l l.length:=by
 unfold dJ;rw[List.length_take];have:=JZ l l.length;omega
theorem getD_take (l:List Nat) (n i:Nat):(l.take n).getD i 0=if i<n then l.getD i 0 else 0:=by
 simp only[List.getD,List.getElem?_take];split<;>simp
theorem qQ (l:List Nat) (i:Nat):(dJ l).getD i 0=l.getD i 0:=by
 unfold dJ;rw[getD_take];split
 ·rfl
 ·rename_i b
  by_cases a:i<l.length
  ·exact(K7 l _ i oO a).symm
  ·rw[List.getD,List.getElem?_eq_none oO];rfl
theorem kz (l:List Nat):cG (dJ l):=by
 by_cases h:tl l l.length=0
 ·left;unfold dJ;rw[h];rfl
 ·right;rw[qQ,iZ];exact Kk l _ h
def jU (s p:Nat) (f:Nat->Nat):Nat->Nat
 |0=>0
 |n+1=>aT s p (jU s p f n) (f n)
def eQ (s p:Nat) (a b:List Nat) (n k:Nat):Nat:=if k<=n then au s p (a.getD k 0) (b.getD (n-k) 0)else 0
def wZ (s p:Nat) (a b:List Nat) (i j n:Nat):Nat:=
 if i<=n/\n-i<j then aT s p (jU s p (eQ s p a b n) i) (au s p (a.getD i 0) (b.getD (n-i) 0))else jU s p (eQ s p a b n) i
def aj (s:Nat) (l:List Nat):Prop:=∀i,l.getD i 0<s
section
variable {c s p : Nat} (h : VF c s p)
include h
theorem p7 (f:Nat->Nat) (a:∀k,f k<s) (n:Nat):jU s p f n<s:=by
 induction n with
 |zero=>have:=h.aG;unfold jU;omega
 |succ n b=>exact ja h _ _ b (a n)
theorem l7 (a b:List Nat) (n k:Nat):eQ s p a b n k<s:=by
 unfold eQ;split
 ·exact aO h _ _
 ·have:=h.aG;omega
theorem rF (a b:List Nat) (i n:Nat):wZ s p a b i 0 n=jU s p (eQ s p a b n) i:=by
 unfold wZ;rw[if_neg oO]
end
section
open Go.RowKit
theorem bG {k:IntKind} {a b:Int} (h:a=b):Ending.returned (.int k a)= .returned (.int k b):=by rw[h]
theorem aK {a b:Bool} (h:a=b):Ending.returned (.bool a)= .returned (.bool b):=by rw[h]
theorem rK (P:Nat) (h:bl P<=40):P<2^40:=(aS _ _).1 h
theorem AS (P q:Nat) (a:bl P<=40) (f:0<q) (g:bl q<=bl P):
 bits BinOp.xor IntKind.i64 (↑P) (wrap64 (↑q* 2^(bl P-1-(bl q-1))))=((jQ P q:Nat):Int):=by
 have b:=fG q oO;rw[show bl P-1-(bl q-1)=bl P-bl q from by omega];have c:=qX q (bl P-bl q) oO;have d:=rK (q* 2^(bl P-bl q)) oO;have e:=rK P a;rw[show((q:Int)* 2^(bl P-bl q))=((q* 2^(bl P-bl q):Nat):Int)from by simp];rw[IntWalk.wrap64_in _ oO,fU _ _ oO oO];rfl
theorem vy (P q:Nat) (c:0<q):cmod (jQ P q) q=cmod P q:=by
 refine(jD _ _ _ ?_ (kK _ _ oO)).symm;have b:=jV P q;have a:=mr b (⟨2^(bl P-bl q),(AV q _).symm⟩:gw q (q* 2^(bl P-bl q)));rw[show P^^^cmod P q^^^q* 2^(bl P-bl q)=(P^^^q* 2^(bl P-bl q))^^^cmod P q from by ac_rfl]at a;exact a
theorem KD (p q:Nat) (w:World) (d:p<2^40) (b:0<q) (hq:q<2^40):
 Calls Tryz.prog 220 #[.int .i64 p,.int .i64 q] w λe w'=>e= .returned (.int .i64 (cmod p q))/\w=w':=by
 have f:bl p<=40:=(aS _ _).2 d;have i:bl q<=40:=(aS _ _).2 hq;have j:0<bl q:=fG q oO;have k:(p:Int)<=9223372036854775807:=oO;have l:(q:Int)<=9223372036854775807:=oO;go_enter Tryz.func220,Tryz.ntmps220;go_wp2_with fail
 go_loop [0] (λt=>∃P:Nat,bl P<=40/\t= .int .i64 P/\Hid (cmod P q=cmod p q)) (λt=>bl (intOf t).toNat)
 case atStart=>exact⟨p,f,rfl,rfl⟩
 case round=>
  obtain⟨P,a,rfl,hid⟩:=hrel;have m:(P:Int)<=9223372036854775807:=by
   have:=rK P a;omega
  by_cases c:bl q<=bl P
  ·have g:=ua P q oO c;go_wp2_with(go_at_call 188;refine(eP _ _ oO oO).mono ?_;rintro e w' ⟨rfl,rfl⟩)
   rw[AS P q a b c];refine⟨⟨jQ P q,by omega,rfl,?_⟩,g⟩;show cmod _ _=_;rw[vy P q b];exact hid.out
  ·go_wp2_with(go_at_call 188;refine(eP _ _ oO oO).mono ?_;rintro e w' ⟨rfl,rfl⟩)
   go_ret;exact⟨bG (by rw[<-hid.out,jw P q oO]),rfl⟩
theorem DA (p q:Int) (w:World) (a:0<=p) (c:p<1099511627776) (b:0<q) (hq:q<1099511627776):
 Calls Tryz.prog 220 #[.int .i64 p,.int .i64 q] w λe w'=>e= .returned (.int .i64 (cmod p.toNat q.toNat))/\w=w':=by
 obtain⟨P,rfl⟩:=Int.eq_ofNat_of_zero_le a;obtain⟨Q,rfl⟩:=Int.eq_ofNat_of_zero_le (Int.le_of_lt b);exact KD P Q w oO oO oO
theorem vk (q:Nat):bl (q+1)<=bl q+1:=by
 have:=xY q;exact(aS _ _).2 (by rw[Nat.pow_succ];have:=Nat.two_pow_pos (bl q);omega)
theorem KO (p:Nat) (w:World) (u:0<p) (i:bl p<=13):
 Calls Tryz.prog 189 #[.int .i64 p] w λe w'=>e= .returned (.bool (lE p))/\w=w':=by
 have o:p<2^13:=(aS _ _).1 i;have v:=fG p oO;have x:(p:Int)<=9223372036854775807:=oO;have s:(p:Int)<1099511627776:=oO;go_enter Tryz.func189,Tryz.ntmps189;go_wp2_with fail
 go_loop [3] (λt=>∃q:Nat,2<=q/\bl q<=8/\t= .int .i64 q/\Hid (∀r,2<=r->r<q->cmod p r≠0)) (λt=>300-(intOf t).toNat)
 case atStart=>exact⟨2,by omega,by decide,rfl,λr c f=>by omega⟩
 case round=>
  obtain⟨q,g,hq,rfl,hid⟩:=hrel;have k:q<2^8:=(aS _ _).1 hq;have A:(q:Int)<256:=oO;have y:2<=bl q:=by
   have:=pL 2 q g;have e:bl 2=2:=by decide
   omega
  by_cases l:2* ((bl q:Int)-1)<=(bl p:Int)-1
  ·by_cases a:cmod p q=0
   ·have m:(((cmod p q:Nat):Int)==0)=true:=by rw[a];rfl
    have n:=Lib.hid a;clear a;have b:lE p=false:=by
     rw[Bool.eq_false_iff];intro h;exact(nT p).1 h q g oO n.out
    have d:=Lib.hid b;clear b;go_wp2_with(first|(go_at_call 188;refine(eP _ _ oO oO).mono ?_;rintro e w' ⟨rfl,rfl⟩)|(go_at_call 220;refine(DA _ _ _ oO oO oO oO).mono ?_;rintro e w' ⟨rfl,rfl⟩))
    go_ret;exact⟨aK d.out.symm,rfl⟩
   ·have m:(((cmod p q:Nat):Int)==0)=false:=by simpa using a
    have z:=vk q;go_wp2_with(first|(go_at_call 188;refine(eP _ _ oO oO).mono ?_;rintro e w' ⟨rfl,rfl⟩)|(go_at_call 220;refine(DA _ _ _ oO oO oO oO).mono ?_;rintro e w' ⟨rfl,rfl⟩))
    refine⟨⟨q+1,by omega,by omega,by go_num,?_⟩,by simp[intOf];omega⟩;intro r c f;by_cases j:r=q
    ·subst j;exact a
    ·exact hid.out r c oO
  ·have b:lE p=true:=by
    rw[nT];intro r c f;refine hid.out r c ?_;have:bl r<bl q:=oO;exact pt _ _ this
   have d:=Lib.hid b;clear b;have B:bl p+2<=2* bl q:=oO;clear l hid k o s;go_wp2_with(first|(go_at_call 188;refine(eP _ _ oO oO).mono ?_;rintro e w' ⟨rfl,rfl⟩))
   go_ret;exact⟨aK d.out.symm,rfl⟩
theorem xq (p:Int) (w:World) (b:0<p) (a:bl p.toNat<=13):
 Calls Tryz.prog 189 #[.int .i64 p] w λe w'=>e= .returned (.bool (lE p.toNat))/\w=w':=by
 obtain⟨P,rfl⟩:=Int.eq_ofNat_of_zero_le (Int.le_of_lt b);exact KO P w oO a
theorem Fb (n:Nat) (w:World) (hn:2<=n) (s:n<=4096):
 Calls Tryz.prog 187 #[.int .i64 n] w λe w'=>e= .returned (.bool (gE n))/\w=w':=by
 go_enter Tryz.func187,Tryz.ntmps187;go_wp2_with fail
 go_loop [3] (λt=>∃d:Nat,2<=d/\d<=65/\t= .int .i64 d/\Hid (∀r,2<=r->r<d->n%r≠0)) (λt=>100-(intOf t).toNat)
 case atStart=>exact⟨2,by omega,by decide,rfl,λr b g=>by omega⟩
 case round=>
  obtain⟨d,p,i,rfl,hid⟩:=hrel;have u:d* d<=65* 65:=Nat.mul_le_mul i i;have x:(0:Int)<=(d:Int)* d:=by
   have:(0:Int)<=((d* d:Nat):Int):=oO;simpa using this
  have y:(d:Int)* d<=4225:=by
   have:((d* d:Nat):Int)<=4225:=oO;simpa using this
  by_cases j:d* d<=n
  ·have k:(d:Int)* d<=n:=by
    have:((d* d:Nat):Int)<=n:=oO;simpa using this
   have v:d<=64:=by
    rcases Nat.lt_or_ge d 65 with h|h
    ·omega
    ·have:=Nat.mul_le_mul h h;omega
   clear j;by_cases c:n%d=0
   ·have q:(((n:Int)%(d:Int))==0)=true:=by
     have:((n%d:Nat):Int)=0:=oO;simpa using this
    have a:gE n=false:=by
     rw[Bool.eq_false_iff];intro h;have l:d* d<=n:=by
      have:((d* d:Nat):Int)<=n:=by simpa using k
      omega
     exact((lQ n).1 h).2 d p l c
    have f:=Lib.hid a;clear a;clear c;go_wp2;go_ret;exact⟨aK f.out.symm,rfl⟩
   ·have q:(((n:Int)%(d:Int))==0)=false:=by
     have:((n%d:Nat):Int)≠0:=oO;simpa using this
    have m:=Lib.hid c;clear c;go_wp2;refine⟨⟨d+1,by omega,by omega,by go_num,?_⟩,by simp[intOf];omega⟩;intro r b g;by_cases o:r=d
    ·subst o;exact m.out
    ·exact hid.out r b oO
  ·have k:¬(d:Int)* d<=n:=by
    have:¬((d* d:Nat):Int)<=n:=oO;simpa using this
   have a:gE n=true:=by
    rw[lQ];refine⟨hn,λr b g=>hid.out r b ?_⟩;rcases Nat.lt_or_ge r d with h|h
    ·exact h
    ·have:=Nat.mul_le_mul h h;omega
   have f:=Lib.hid a;clear a;clear j;go_wp2;go_ret;exact⟨aK f.out.symm,rfl⟩
theorem FN (n:Int) (w:World) (hn:2<=n) (a:n<=4096):
 Calls Tryz.prog 187 #[.int .i64 n] w λe w'=>e= .returned (.bool (gE n.toNat))/\w=w':=by
 obtain⟨P,rfl⟩:=Int.eq_ofNat_of_zero_le (by omega:0<=n);exact Fb P w oO oO
theorem eN (p:Int) (w:World) (a:p<=9223372036854775807):
 Calls Tryz.prog 207 #[.int .i64 p] w λe w'=>e= .returned (.int .i64 ((bl p.toNat:Int)-1))/\w=w':=by
 by_cases g:0<p
 ·have hb:=Dy p oO a;go_enter Tryz.func207,Tryz.ntmps207;go_wp2_with fail
  go_loop [0,3] (λt d=>∃P D:Nat,t= .int .i64 P/\D<=63/\d= .int .i64 ((D:Int)-1)/\P<=9223372036854775807/\Hid (bl P+D=bl p.toNat)) (λt _=>(intOf t).toNat)
  case atStart=>exact⟨p.toNat,0,by rw[Int.toNat_of_nonneg oO],by omega,rfl,by omega,rfl⟩
  case round=>
   obtain⟨P,D,rfl,i,rfl,j,hid⟩:=hrel;by_cases k:0<P
   ·have c:bl (P/2)+1=bl P:=by
     by_cases a:P=1
     ·subst a;rfl
     ·have f:P/2≠0:=oO;obtain⟨n,hn⟩:∃n,bl (P/2)=n+1:=⟨bl (P/2)-1,by have:=fG _ f;omega⟩;have l:=(gL (P/2) n).1 oO;have m:=(aS (P/2) (n+1)).1 oO;rw[hn];rw[s9 P (n+1) (by rw[Nat.pow_succ];omega) (by rw[Nat.pow_succ];omega)]
    have b:=Lib.hid c;clear c;have o:D+1<=63:=by have:=hid.out;have:=b.out;omega
    go_wp2;refine⟨⟨P/2,D+1,by go_num,by omega,by go_num,by omega,?_⟩,by simp[intOf];omega⟩;show bl (P/2)+(D+1)=_;have:=hid.out;have:=b.out;omega
   ·obtain rfl:P=0:=oO;go_wp2;go_ret;exact⟨bG (by have:=hid.out;rw[dI]at this;omega),rfl⟩
 ·go_enter Tryz.func207,Tryz.ntmps207;go_wp2_with fail
  go_loop [0,3] (λt d=>t= .int .i64 p/\d= .int .i64 (-1)) (λt _=>(intOf t).toNat)
  case atStart=>exact⟨rfl,rfl⟩
  case round=>
   obtain⟨rfl,rfl⟩:=hrel;go_wp2;go_ret;exact⟨bG (by rw[Int.toNat_of_nonpos oO];rfl),rfl⟩
theorem AD (P k:Nat) (h:bl P<=k+1) (hb:P.testBit k=false):bl P<=k:=by
 rcases Nat.lt_or_ge (bl P) (k+1)with a|a
 ·omega
 ·have:=lH P k oO;rw[this]at hb;cases hb
theorem FG (P k:Nat) (h:bl P<=k+1) (hb:P.testBit k=true):bl P=k+1:=by
 rcases Nat.lt_or_ge (bl P) (k+1)with a|a
 ·have:=(aS P k).1 oO;rw[Nat.testBit_lt_two_pow this]at hb;cases hb
 ·omega
theorem tQ (P k:Nat):P.testBit k=decide (P/2^k%2=1):=Nat.testBit_eq_decide_div_mod_eq
theorem sM (P j:Nat) (h:P<2^40):bits BinOp.and IntKind.i64 ((P:Int)/2^j) 1=((P/2^j%2:Nat):Int):=by
 rw[show((P:Int)/2^j)=((P/2^j:Nat):Int)from by simp];exact mC _ (by have:=Nat.div_le_self P (2^j);omega)
theorem KW {P j:Nat} (h:(((P/2^j%2:Nat):Int)==1)=true):P.testBit j=true:=by
 rw[tQ,decide_eq_true_iff];exact Int.ofNat.inj (eq_of_beq h)
theorem Lz {P j:Nat} (h:(((P/2^j%2:Nat):Int)==1)=false):P.testBit j=false:=by
 rw[tQ,decide_eq_false_iff_not];intro e;rw[e]at h;cases h
theorem GW (p q:Nat) (w:World) (d:bl p<=40) (f:0<q) (hq:bl q<=40):
 Calls Tryz.prog 186 #[.int .i64 p,.int .i64 q] w λe w'=>e= .returned (.int .i64 (cmod p q))/\w=w':=by
 have m:0<bl q:=fG q oO;have n:(p:Int)<=9223372036854775807:=by have:=rK p d;omega
 have o:(q:Int)<=9223372036854775807:=by have:=rK q hq;omega
 go_enter Tryz.func186,Tryz.ntmps186;go_wp2_with(go_at_call 207;refine(eN _ _ oO).mono ?_;rintro e w' ⟨rfl,rfl⟩)
 go_loop [0,6] (λt k=>∃P K:Nat,t= .int .i64 P/\bl P<=K/\K<=40/\k= .int .i64 ((K:Int)-1)/\Hid (cmod P q=cmod p q)) (λ_ k=>(intOf k+1).toNat)
 case atStart=>
  exact⟨p,bl p,rfl,Nat.le_refl _,d,rfl,rfl⟩
 case round=>
  obtain⟨P,K,rfl,i,j,rfl,hid⟩:=hrel;go_wp2
  ·rename_i b a
   rw[sM P _ (rK P oO)]at a;have c:P.testBit (K-1)=true:=KW a;have g:=FG P (K-1) oO c;obtain rfl:K=bl P:=oO;rw[AS P q oO f b];have l:=ua P q oO b;refine⟨⟨jQ P q,bl P-1,rfl,by omega,by omega,by go_num,?_⟩,by simp[intOf];omega⟩;show cmod _ _=_;rw[vy P q f];exact hid.out
  ·rename_i b a
   rw[sM P _ (rK P oO)]at a;have c:P.testBit (K-1)=false:=Lz a;have g:=AD P (K-1) oO c;exact⟨⟨P,K-1,rfl,by omega,by omega,by go_num,hid⟩,by simp[intOf];omega⟩
  ·rename_i b _
   go_ret;exact⟨bG (by rw[<-hid.out,jw P q oO]),rfl⟩
theorem sx (p q:Int) (w:World) (b:0<=p) (a:bl p.toNat<=40) (c:0<q) (hq:bl q.toNat<=40):
 Calls Tryz.prog 186 #[.int .i64 p,.int .i64 q] w λe w'=>e= .returned (.int .i64 (cmod p.toNat q.toNat))/\w=w':=by
 obtain⟨P,rfl⟩:=Int.eq_ofNat_of_zero_le b;obtain⟨Q,rfl⟩:=Int.eq_ofNat_of_zero_le (Int.le_of_lt c);exact GW P Q w a oO hq
theorem EJ (n:Nat) (w:World) (hn:2<=n) (s:n<=4096):
 Calls Tryz.prog 208 #[.int .i64 n] w λe w'=>e= .returned (.bool (gE n))/\w=w':=by
 go_enter Tryz.func208,Tryz.ntmps208;go_wp2_with fail
 go_loop [3] (λt=>∃d:Nat,2<=d/\d<=65/\t= .int .i64 d/\Hid (∀r,2<=r->r<d->n%r≠0)) (λt=>100-(intOf t).toNat)
 case atStart=>exact⟨2,by omega,by decide,rfl,λr b g=>by omega⟩
 case round=>
  obtain⟨d,p,i,rfl,hid⟩:=hrel;have u:d* d<=65* 65:=Nat.mul_le_mul i i;have x:(0:Int)<=(d:Int)* d:=by
   have:(0:Int)<=((d* d:Nat):Int):=oO;simpa using this
  have y:(d:Int)* d<=4225:=by
   have:((d* d:Nat):Int)<=4225:=oO;simpa using this
  by_cases j:d* d<=n
  ·have k:(d:Int)* d<=n:=by
    have:((d* d:Nat):Int)<=n:=oO;simpa using this
   have v:d<=64:=by
    rcases Nat.lt_or_ge d 65 with h|h
    ·omega
    ·have:=Nat.mul_le_mul h h;omega
   clear j;by_cases c:n%d=0
   ·have q:(((n:Int)%(d:Int))==0)=true:=by
     have:((n%d:Nat):Int)=0:=oO;simpa using this
    have a:gE n=false:=by
     rw[Bool.eq_false_iff];intro h;have l:d* d<=n:=by
      have:((d* d:Nat):Int)<=n:=by simpa using k
      omega
     exact((lQ n).1 h).2 d p l c
    have f:=Lib.hid a;clear a;clear c;go_wp2;go_ret;exact⟨aK f.out.symm,rfl⟩
   ·have q:(((n:Int)%(d:Int))==0)=false:=by
     have:((n%d:Nat):Int)≠0:=oO;simpa using this
    have m:=Lib.hid c;clear c;go_wp2;refine⟨⟨d+1,by omega,by omega,by go_num,?_⟩,by simp[intOf];omega⟩;intro r b g;by_cases o:r=d
    ·subst o;exact m.out
    ·exact hid.out r b oO
  ·have k:¬(d:Int)* d<=n:=by
    have:¬((d* d:Nat):Int)<=n:=oO;simpa using this
   have a:gE n=true:=by
    rw[lQ];refine⟨hn,λr b g=>hid.out r b ?_⟩;rcases Nat.lt_or_ge r d with h|h
    ·exact h
    ·have:=Nat.mul_le_mul h h;omega
   have f:=Lib.hid a;clear a;clear j;go_wp2;go_ret;exact⟨aK (by rw[f.out];simp;omega),rfl⟩
theorem EX (n:Int) (w:World) (hn:2<=n) (a:n<=4096):
 Calls Tryz.prog 208 #[.int .i64 n] w λe w'=>e= .returned (.bool (gE n.toNat))/\w=w':=by
 obtain⟨P,rfl⟩:=Int.eq_ofNat_of_zero_le (by omega:0<=n);exact EJ P w oO oO
def gj (p d:Int):Bool:=decide (0<=p)&&decide ((bl p.toNat:Int)=d+1)&&lE p.toNat
theorem Jf (p d:Int) (w:World) (h:p<0):
 Calls Tryz.prog 175 #[.int .i64 p,.int .i64 d] w λe w'=>e= .returned (.bool (gj p d))/\w=w':=by
 have a:gj p d=false:=by unfold gj;simp;omega
 have b:=Lib.hid a;clear a;go_enter Tryz.func175,Tryz.ntmps175;go_wp2;go_ret;exact⟨aK b.out.symm,rfl⟩
theorem Hv (p d:Int) (w:World) (h:0<=p) (f:p<=9223372036854775807) (a:(bl p.toNat:Int)-1≠d):
 Calls Tryz.prog 175 #[.int .i64 p,.int .i64 d] w λe w'=>e= .returned (.bool (gj p d))/\w=w':=by
 have b:gj p d=false:=by unfold gj;simp;omega
 have c:=Lib.hid b;clear b;have g:(((bl p.toNat:Int)-1)!=d)=true:=by rw[bne_iff_ne];exact a
 clear a;go_enter Tryz.func175,Tryz.ntmps175;go_wp2_with(go_at_call 207;refine(eN _ _ oO).mono ?_;rintro e w' ⟨rfl,rfl⟩)
 go_ret;exact⟨aK c.out.symm,rfl⟩
theorem Ia (p:Nat) (w:World) (n:0<p) (f:bl p<=13):
 Calls Tryz.prog 175 #[.int .i64 p,.int .i64 ((bl p:Int)-1)] w λe w'=>e= .returned (.bool (lE p))/\w=w':=by
 have o:=fG p oO;have s:(p:Int)<=9223372036854775807:=by have:=rK p oO;omega
 go_enter Tryz.func175,Tryz.ntmps175;go_wp2_with(go_at_call 207;refine(eN _ _ oO).mono ?_;rintro e w' ⟨rfl,rfl⟩)
 go_loop [5] (λt=>∃q:Nat,2<=q/\bl q<=8/\t= .int .i64 q/\Hid (∀r,2<=r->r<q->cmod p r≠0)) (λt=>300-(intOf t).toNat)
 case atStart=>exact⟨2,by omega,by decide,rfl,λr c g=>by omega⟩
 case round=>
  obtain⟨q,i,hq,rfl,hid⟩:=hrel;have x:(q:Int)<256:=by
   have:q<2^8:=(aS _ _).1 hq;omega
  have u:2<=bl q:=by
   have:=pL 2 q i;have e:bl 2=2:=by decide
   omega
  by_cases k:2* ((bl q:Int)-1)<=(bl p:Int)-1
  ·by_cases a:cmod p q=0
   ·have l:(((cmod p q:Nat):Int)==0)=true:=by rw[a];rfl
    have m:=Lib.hid a;clear a;have b:lE p=false:=by
     rw[Bool.eq_false_iff];intro h;exact(nT p).1 h q i oO m.out
    have d:=Lib.hid b;clear b;go_wp2_with(first|(go_at_call 207;refine(eN _ _ oO).mono ?_;rintro e w' ⟨rfl,rfl⟩)|(go_at_call 186;refine(sx _ _ _ oO (by first|exact Nat.le_trans f oO|omega) oO (by first|exact Nat.le_trans hq oO|omega)).mono ?_;rintro e w' ⟨rfl,rfl⟩))
    go_ret;exact⟨aK d.out.symm,rfl⟩
   ·have l:(((cmod p q:Nat):Int)==0)=false:=by simpa using a
    have v:=vk q;go_wp2_with(first|(go_at_call 207;refine(eN _ _ oO).mono ?_;rintro e w' ⟨rfl,rfl⟩)|(go_at_call 186;refine(sx _ _ _ oO (by first|exact Nat.le_trans f oO|omega) oO (by first|exact Nat.le_trans hq oO|omega)).mono ?_;rintro e w' ⟨rfl,rfl⟩))
    refine⟨⟨q+1,by omega,by omega,by go_num,?_⟩,by simp[intOf];omega⟩;intro r c g;by_cases j:r=q
    ·subst j;exact a
    ·exact hid.out r c oO
  ·have b:lE p=true:=by
    rw[nT];intro r c g;refine hid.out r c ?_;have:bl r<bl q:=oO;exact pt _ _ this
   have d:=Lib.hid b;clear b;have y:decide (2* ((bl q:Int)-1)<=(bl p:Int)-1)=false:=by simp;omega
   clear k hid;go_wp2_with(first|(go_at_call 207;refine(eN _ _ oO).mono ?_;rintro e w' ⟨rfl,rfl⟩))
   go_ret;exact⟨aK d.out.symm,rfl⟩
theorem BH (p d:Int) (w:World) (b:p<=9223372036854775807) (f:0<=d) (g:d<=12):
 Calls Tryz.prog 175 #[.int .i64 p,.int .i64 d] w λe w'=>e= .returned (.bool (gj p d))/\w=w':=by
 by_cases a:0<=p
 ·by_cases hb:(bl p.toNat:Int)-1=d
  ·obtain⟨P,rfl⟩:=Int.eq_ofNat_of_zero_le a;rw[Int.toNat_natCast]at hb;subst hb;have c:0<P:=by
    rcases Nat.eq_zero_or_pos P with h|h
    ·subst h;rw[dI]at f;omega
    ·exact h
   refine(Ia P w c oO).mono ?_;rintro e w' ⟨rfl,rfl⟩;refine⟨aK ?_,rfl⟩;unfold gj;simp;
  ·exact Hv p d w a b hb
 ·exact Jf p d w oO
theorem qb {P:Program} {f:FuncId} {args:Array Value} {w:World} {n:Nat} {v:Value}
 (h:Calls P f args (w.drewN n) λe w'=>e= .returned v/\w.drewN n=w'):
 Calls P f args (w.drewN n) λe b=>e= .returned v/\∃m,b=w.drewN m:=
 h.mono λ_ _ a=>⟨a.1,n,a.2.symm⟩
theorem bX {B:Nat} {a w:World} (h:Below B a w) (n:Nat):Below B a (w.drewN n):=⟨h.os,h.tape,h.output,h.size,h.block⟩
def aW (c s p:Int):Bool:=
 if p=0 then decide (2<s)&&decide (s<=4096)&&decide (c=s)&&gE s.toNat
 else decide (2<=p)&&decide (bl p.toNat<=13)&&decide (c=2)&&decide (s=((2^(bl p.toNat-1):Nat):Int))&&lE p.toNat
abbrev aN (c s p:Int):Value:= .agg #[.int .i64 c,.int .i64 s,.int .i64 p]
theorem Iy (c s:Int) (w:World) (h:¬2<s):
 Calls Tryz.prog 149 #[aN c s 0] w λe w'=>e= .returned (.bool (aW c s 0))/\Below w.heap.size w w':=by
 have a:aW c s 0=false:=by unfold aW;simp;omega
 have b:=Lib.hid a;clear a;go_enter Tryz.func149,Tryz.ntmps149;go_wp2;go_ret;exact⟨aK b.out.symm,(Below.refl _ _).alloc (Nat.le_refl _) _⟩
theorem JG (c s:Int) (w:World) (h:2<s) (f:s<=4096) (b:c=s):
 Calls Tryz.prog 149 #[aN c s 0] w λe w'=>e= .returned (.bool (aW c s 0))/\Below w.heap.size w w':=by
 have a:aW c s 0=gE s.toNat:=by unfold aW;simp;omega
 have d:=Lib.hid a;clear a;subst b;go_enter Tryz.func149,Tryz.ntmps149;go_wp2_with(go_at_call 187;refine(FN _ _ oO oO).mono ?_;rintro e w' ⟨rfl,rfl⟩)
 go_ret;exact⟨aK d.out.symm,(Below.refl _ _).alloc (Nat.le_refl _) _⟩
theorem H9 (c s:Int) (w:World) (h:2<s) (d:4096<s):
 Calls Tryz.prog 149 #[aN c s 0] w λe w'=>e= .returned (.bool (aW c s 0))/\Below w.heap.size w w':=by
 have a:aW c s 0=false:=by unfold aW;simp;omega
 have b:=Lib.hid a;clear a;go_enter Tryz.func149,Tryz.ntmps149;go_wp2;go_ret;exact⟨aK b.out.symm,(Below.refl _ _).alloc (Nat.le_refl _) _⟩
theorem JI (c s:Int) (w:World) (h:2<s) (f:s<=4096) (b:(c==s)=false):
 Calls Tryz.prog 149 #[aN c s 0] w λe w'=>e= .returned (.bool (aW c s 0))/\Below w.heap.size w w':=by
 have a:aW c s 0=false:=by unfold aW;have:=ne_of_beq_false b;simp[this]
 have d:=Lib.hid a;clear a;go_enter Tryz.func149,Tryz.ntmps149;go_wp2;go_ret;exact⟨aK d.out.symm,(Below.refl _ _).alloc (Nat.le_refl _) _⟩
theorem KV (c s:Int) (w:World):
 Calls Tryz.prog 149 #[aN c s 0] w λe w'=>e= .returned (.bool (aW c s 0))/\Below w.heap.size w w':=by
 by_cases h:2<s
 ·by_cases a:s<=4096
  ·by_cases b:c=s
   ·exact JG c s w h a b
   ·exact JI c s w h a (beq_false_of_ne b)
  ·exact H9 c s w h oO
 ·exact Iy c s w h
theorem I6 (c s p:Int) (w:World) (d:(p==0)=false) (h:p<2):
 Calls Tryz.prog 149 #[aN c s p] w λe w'=>e= .returned (.bool (aW c s p))/\Below w.heap.size w w':=by
 have a:aW c s p=false:=by unfold aW;have:=ne_of_beq_false d;rw[if_neg this];simp;omega
 have b:=Lib.hid a;clear a;go_enter Tryz.func149,Tryz.ntmps149;go_wp2;go_ret;exact⟨aK b.out.symm,(Below.refl _ _).alloc (Nat.le_refl _) _⟩
theorem JP (c s p:Int) (w:World) (d:(p==0)=false) (h:2<=p) (f:p<=9223372036854775807) (g:13<bl p.toNat):
 Calls Tryz.prog 149 #[aN c s p] w λe w'=>e= .returned (.bool (aW c s p))/\Below w.heap.size w w':=by
 have a:aW c s p=false:=by unfold aW;have:=ne_of_beq_false d;rw[if_neg this];simp;omega
 have b:=Lib.hid a;clear a;go_enter Tryz.func149,Tryz.ntmps149;go_wp2_with(go_at_call 188;refine(eP _ _ oO oO).mono ?_;rintro e w' ⟨rfl,rfl⟩)
 go_ret;exact⟨aK b.out.symm,(Below.refl _ _).alloc (Nat.le_refl _) _⟩
abbrev J0 (p:Int):Int:=IntKind.i64.wrap (2^(bl p.toNat-1))
theorem Bt (p:Int) (a:bl p.toNat<=13):J0 p=((2^(bl p.toNat-1):Nat):Int):=by
 show IntKind.i64.wrap (2^(bl p.toNat-1))=_;have h:=Nat.pow_le_pow_right (n:=2) oO (show bl p.toNat-1<=12 by omega);rw[show((2:Int)^(bl p.toNat-1))=((2^(bl p.toNat-1):Nat):Int)from by simp];generalize 2^(bl p.toNat-1)=N at*;rw[IntKind.wrap_i64];omega
theorem Im (c s p:Int) (w:World) (g:(p==0)=false) (h:2<=p) (i:p<=9223372036854775807) (b:bl p.toNat<=13) (hb:2<=bl p.toNat)
 (d:(c==2)=false):
 Calls Tryz.prog 149 #[aN c s p] w λe w'=>e= .returned (.bool (aW c s p))/\Below w.heap.size w w':=by
 have a:aW c s p=false:=by unfold aW;have:=ne_of_beq_false g;rw[if_neg this];have:=ne_of_beq_false d;simp[this]
 have f:=Lib.hid a;clear a;go_enter Tryz.func149,Tryz.ntmps149;go_wp2_with(go_at_call 188;refine(eP _ _ oO oO).mono ?_;rintro e w' ⟨rfl,rfl⟩)
 go_quiet ((first|(go_at_call 188;exact qb (eP _ _ oO oO))|(go_at_call 189;exact qb (xq _ _ oO b))))
 go_wp2;go_ret;exact⟨aK f.out.symm,bX ((Below.refl _ _).alloc (Nat.le_refl _) _) _⟩
theorem JA (s z p:Int) (w:World) (i:(p==0)=false) (h:2<=p) (j:p<=9223372036854775807) (a:bl p.toNat<=13) (hb:2<=bl p.toNat)
 (c:IntKind.i64.wrap (2^(bl p.toNat-1))=z) (d:(s==z)=false):
 Calls Tryz.prog 149 #[aN 2 s p] w λe w'=>e= .returned (.bool (aW 2 s p))/\Below w.heap.size w w':=by
 have b:aW 2 s p=false:=by
  unfold aW;have:=ne_of_beq_false i;rw[if_neg this];rw[<-Bt p a]
  have f:¬s=J0 p:=by rw[show J0 p=z from c];exact ne_of_beq_false d
  simp[f]
 have g:=Lib.hid b;clear b;go_enter Tryz.func149,Tryz.ntmps149;go_wp2_with(go_at_call 188;refine(eP _ _ oO oO).mono ?_;rintro e w' ⟨rfl,rfl⟩)
 go_quiet ((first|(go_at_call 188;exact qb (eP _ _ oO oO))|(go_at_call 189;exact qb (xq _ _ oO a))))
 go_wp2;go_ret;exact⟨aK g.out.symm,bX ((Below.refl _ _).alloc (Nat.le_refl _) _) _⟩
theorem H7 (s p:Int) (w:World) (f:(p==0)=false) (h:2<=p) (g:p<=9223372036854775807) (a:bl p.toNat<=13) (hb:2<=bl p.toNat)
 (c:IntKind.i64.wrap (2^(bl p.toNat-1))=s):
 Calls Tryz.prog 149 #[aN 2 s p] w λe w'=>e= .returned (.bool (aW 2 s p))/\Below w.heap.size w w':=by
 have b:aW 2 s p=lE p.toNat:=by
  rw[<-show J0 p=s from c];unfold aW;have:=ne_of_beq_false f;rw[if_neg this];rw[<-Bt p a]
  simp[h,a]
 have d:=Lib.hid b;clear b;go_enter Tryz.func149,Tryz.ntmps149;go_wp2_with(go_at_call 188;refine(eP _ _ oO oO).mono ?_;rintro e w' ⟨rfl,rfl⟩)
 go_quiet ((first|(go_at_call 188;exact qb (eP _ _ oO oO))|(go_at_call 189;exact qb (xq _ _ oO a))))
 go_wp2;go_ret;exact⟨aK d.out.symm,bX ((Below.refl _ _).alloc (Nat.le_refl _) _) _⟩
theorem oY (p:Int) (h:2<=p):2<=bl p.toNat:=by
 have a:=pL 2 p.toNat oO;have e:bl 2=2:=by decide
 omega
theorem jd (c s p:Int) (w:World) (b:p<=9223372036854775807):
 Calls Tryz.prog 149 #[aN c s p] w λe w'=>e= .returned (.bool (aW c s p))/\Below w.heap.size w w':=by
 by_cases i:p=0
 ·subst i;exact KV c s w
 have a:=beq_false_of_ne i;by_cases h:2<=p
 ·have hb:=oY p h;by_cases d:bl p.toNat<=13
  ·by_cases f:c=2
   ·subst f;by_cases g:s=IntKind.i64.wrap (2^(bl p.toNat-1))
    ·exact H7 s p w a h b d hb g.symm
    ·exact JA s _ p w a h b d hb rfl (beq_false_of_ne g)
   ·exact Im c s p w a h b d hb (beq_false_of_ne f)
  ·exact JP c s p w a h b oO
 ·exact I6 c s p w a oO
theorem vw (n:Nat):bl (2^n)=n+1:=s9 _ _ (Nat.le_refl _) (by rw[Nat.pow_succ];have:=Nat.two_pow_pos n;omega)
theorem lU (s p:Int):aW 2 s p=(decide (2<=bl s.toNat)&&decide (bl s.toNat<=13)&&decide (s=((2^(bl s.toNat-1):Nat):Int))&&gj p ((bl s.toNat:Int)-1)):=by
 unfold aW gj;by_cases f:p=0
 ·subst f;rw[if_pos rfl];have g:bl (0:Int).toNat=0:=rfl;rw[g];by_cases d:2<=bl s.toNat
  ·have b:¬((0:Nat):Int)=(bl s.toNat:Int)-1+1:=oO;rw[decide_eq_false b];have e:¬(2<s/\(2:Int)=s):=oO;by_cases c:2<s
   ·have a:¬(2:Int)=s:=oO;simp[a]
   ·simp[c]
  ·have a:¬2<s:=by
    intro h;have:=oY s oO;omega
   simp[d,a]
 ·rw[if_neg f,Bool.eq_iff_iff];simp only[Bool.and_eq_true,decide_eq_true_iff];constructor
  ·rintro⟨⟨⟨⟨d,b⟩,-⟩,c⟩,a⟩;have hb:=oY p d;have hs:bl s.toNat=bl p.toNat:=by
    rw[c,Int.toNat_natCast,vw];omega
   rw[hs];exact⟨⟨⟨hb,b⟩,c⟩,⟨by omega,by omega⟩,a⟩
  ·rintro⟨⟨⟨d,b⟩,e⟩,⟨c,a⟩,i⟩;have hs:bl p.toNat=bl s.toNat:=oO;rw[hs];have j:2<=p:=by
    have:=Gq p.toNat oO;rw[hs]at this;have k:2^1<=2^(bl s.toNat-1):=Nat.pow_le_pow_right oO oO;omega
   exact⟨⟨⟨⟨j,b⟩,trivial⟩,e⟩,i⟩
theorem Hl (s p:Int) (w:World) (hs:s<=9223372036854775807) (h:bl s.toNat<2):
 Calls Tryz.prog 166 #[aN 2 s p] w λe w'=>e= .returned (.bool (aW 2 s p))/\Below w.heap.size w w':=by
 have a:aW 2 s p=false:=by rw[lU];simp;omega
 have b:=Lib.hid a;clear a;go_enter Tryz.func166,Tryz.ntmps166;go_wp2_with(go_at_call 207;refine(eN _ _ oO).mono ?_;rintro e w' ⟨rfl,rfl⟩)
 go_ret;exact⟨aK b.out.symm,(Below.refl _ _).alloc (Nat.le_refl _) _⟩
theorem GQ (s p:Int) (w:World) (hs:s<=9223372036854775807) (h:13<bl s.toNat):
 Calls Tryz.prog 166 #[aN 2 s p] w λe w'=>e= .returned (.bool (aW 2 s p))/\Below w.heap.size w w':=by
 have a:aW 2 s p=false:=by rw[lU];simp;omega
 have b:=Lib.hid a;clear a;go_enter Tryz.func166,Tryz.ntmps166;go_wp2_with(go_at_call 207;refine(eN _ _ oO).mono ?_;rintro e w' ⟨rfl,rfl⟩)
 go_ret;exact⟨aK b.out.symm,(Below.refl _ _).alloc (Nat.le_refl _) _⟩
theorem DB (s:Int) (a:bl s.toNat<=13):IntKind.i64.wrap (2^(bl s.toNat-1))=((2^(bl s.toNat-1):Nat):Int):=Bt s a
theorem GJ (s z p:Int) (w:World) (hs:s<=9223372036854775807) (h:2<=bl s.toNat) (b:bl s.toNat<=13)
 (c:wrap64 (2^(bl s.toNat-1))=z) (d:(s==z)=false):
 Calls Tryz.prog 166 #[aN 2 s p] w λe w'=>e= .returned (.bool (aW 2 s p))/\Below w.heap.size w w':=by
 have a:aW 2 s p=false:=by
  rw[lU,<-DB s b,IntWalk.i64_left,c];have f:¬s=z:=ne_of_beq_false d;simp[f]
 have g:=Lib.hid a;clear a;go_enter Tryz.func166,Tryz.ntmps166;go_wp2_with(go_at_call 207;refine(eN _ _ oO).mono ?_;rintro e w' ⟨rfl,rfl⟩)
 go_ret;exact⟨aK g.out.symm,(Below.refl _ _).alloc (Nat.le_refl _) _⟩
theorem IE (n:Nat) (h:n<=13):wrap64 (2^n)=((2^n:Nat):Int):=by
 have h:=Nat.pow_le_pow_right (n:=2) oO h;rw[show((2:Int)^n)=((2^n:Nat):Int)from by simp];generalize 2^n=N at*;exact IntWalk.wrap64_in _ oO
theorem Gn (s z p:Int) (w:World) (hs:s<=9223372036854775807) (h:2<=bl s.toNat) (b:bl s.toNat<=13)
 (g:wrap64 (2^(bl s.toNat-1))=s) (f:wrap64 (2^(bl s.toNat))=z) (i:z<=p):
 Calls Tryz.prog 166 #[aN 2 s p] w λe w'=>e= .returned (.bool (aW 2 s p))/\Below w.heap.size w w':=by
 have a:aW 2 s p=false:=by
  rw[lU];rw[IE _ b]at f;have c:¬(bl p.toNat:Int)=(bl s.toNat:Int)-1+1:=by
   intro e;have:=(aS p.toNat (bl s.toNat)).1 oO;omega
  unfold gj;rw[decide_eq_false c];simp
 have d:=Lib.hid a;clear a;go_enter Tryz.func166,Tryz.ntmps166;go_wp2_with(go_at_call 207;refine(eN _ _ oO).mono ?_;rintro e w' ⟨rfl,rfl⟩)
 go_ret;exact⟨aK d.out.symm,(Below.refl _ _).alloc (Nat.le_refl _) _⟩
theorem Gr (s z p:Int) (w:World) (hs:s<=9223372036854775807) (g:p<=9223372036854775807) (h:2<=bl s.toNat) (a:bl s.toNat<=13)
 (b:wrap64 (2^(bl s.toNat-1))=s) (i:wrap64 (2^(bl s.toNat))=z) (f:p<z):
 Calls Tryz.prog 166 #[aN 2 s p] w λe w'=>e= .returned (.bool (aW 2 s p))/\Below w.heap.size w w':=by
 have c:aW 2 s p=gj p ((bl s.toNat:Int)-1):=by
  rw[lU];rw[IntWalk.i64_left ..|>.symm,DB s a]at b;simp[h,a,b]
 have d:=Lib.hid c;clear c;go_enter Tryz.func166,Tryz.ntmps166;go_wp2_with(first|(go_at_call 207;refine(eN _ _ oO).mono ?_;rintro e w' ⟨rfl,rfl⟩)|(go_at_call 175;refine(BH _ _ _ oO oO oO).mono ?_;rintro e w' ⟨rfl,rfl⟩))
 go_ret;exact⟨aK d.out.symm,(Below.refl _ _).alloc (Nat.le_refl _) _⟩
theorem Jy (s p:Int) (w:World) (hs:s<=9223372036854775807) (d:p<=9223372036854775807):
 Calls Tryz.prog 166 #[aN 2 s p] w λe w'=>e= .returned (.bool (aW 2 s p))/\Below w.heap.size w w':=by
 by_cases h:2<=bl s.toNat
 ·by_cases a:bl s.toNat<=13
  ·by_cases b:s=wrap64 (2^(bl s.toNat-1))
   ·by_cases c:p<wrap64 (2^(bl s.toNat))
    ·exact Gr s _ p w hs d h a b.symm rfl c
    ·exact Gn s _ p w hs h a b.symm rfl oO
   ·exact GJ s _ p w hs h a rfl (beq_false_of_ne b)
  ·exact GQ s p w hs oO
 ·exact Hl s p w hs oO
theorem oE (c s p:Int) (hc:c≠2):aW c s p=(decide (c=s)&&decide (p=0)&&decide (3<=s)&&decide (s<=4096)&&gE s.toNat):=by
 unfold aW;by_cases e:p=0
 ·subst e;rw[if_pos rfl,Bool.eq_iff_iff];simp only[Bool.and_eq_true,decide_eq_true_iff];constructor
  ·rintro⟨⟨⟨f,a⟩,b⟩,d⟩;exact⟨⟨⟨⟨b,trivial⟩,by omega⟩,a⟩,d⟩
  ·rintro⟨⟨⟨⟨b,-⟩,f⟩,a⟩,d⟩;exact⟨⟨⟨by omega,a⟩,b⟩,d⟩
 ·rw[if_neg e];simp[e,hc]
theorem FB (c s p:Int) (w:World) (hc:(c==2)=false) (h:(c==s)=false):
 Calls Tryz.prog 166 #[aN c s p] w λe w'=>e= .returned (.bool (aW c s p))/\Below w.heap.size w w':=by
 have a:aW c s p=false:=by rw[oE c s p (ne_of_beq_false hc)];have:=ne_of_beq_false h;simp[this]
 have b:=Lib.hid a;clear a;go_enter Tryz.func166,Tryz.ntmps166;go_wp2;go_ret;exact⟨aK b.out.symm,(Below.refl _ _).alloc (Nat.le_refl _) _⟩
theorem Gw (s p:Int) (w:World) (hc:(s==2)=false) (h:(p==0)=false):
 Calls Tryz.prog 166 #[aN s s p] w λe w'=>e= .returned (.bool (aW s s p))/\Below w.heap.size w w':=by
 have a:aW s s p=false:=by rw[oE s s p (ne_of_beq_false hc)];have:=ne_of_beq_false h;simp[this]
 have b:=Lib.hid a;clear a;go_enter Tryz.func166,Tryz.ntmps166;go_wp2;go_ret;exact⟨aK b.out.symm,(Below.refl _ _).alloc (Nat.le_refl _) _⟩
theorem Fz (s:Int) (w:World) (hc:(s==2)=false) (h:s<3):
 Calls Tryz.prog 166 #[aN s s 0] w λe w'=>e= .returned (.bool (aW s s 0))/\Below w.heap.size w w':=by
 have a:aW s s 0=false:=by rw[oE s s 0 (ne_of_beq_false hc)];simp;omega
 have b:=Lib.hid a;clear a;go_enter Tryz.func166,Tryz.ntmps166;go_wp2;go_ret;exact⟨aK b.out.symm,(Below.refl _ _).alloc (Nat.le_refl _) _⟩
theorem Fa (s:Int) (w:World) (hc:(s==2)=false) (h:4096<s):
 Calls Tryz.prog 166 #[aN s s 0] w λe w'=>e= .returned (.bool (aW s s 0))/\Below w.heap.size w w':=by
 have a:aW s s 0=false:=by rw[oE s s 0 (ne_of_beq_false hc)];simp;omega
 have b:=Lib.hid a;clear a;go_enter Tryz.func166,Tryz.ntmps166;go_wp2;go_ret;exact⟨aK b.out.symm,(Below.refl _ _).alloc (Nat.le_refl _) _⟩
theorem FO (s:Int) (w:World) (hc:(s==2)=false) (h:3<=s) (b:s<=4096):
 Calls Tryz.prog 166 #[aN s s 0] w λe w'=>e= .returned (.bool (aW s s 0))/\Below w.heap.size w w':=by
 have a:aW s s 0=gE s.toNat:=by rw[oE s s 0 (ne_of_beq_false hc)];simp[h,b]
 have c:=Lib.hid a;clear a;go_enter Tryz.func166,Tryz.ntmps166;go_wp2_with(first|(go_at_call 208;refine(EX _ _ oO oO).mono ?_;rintro e w' ⟨rfl,rfl⟩))
 go_ret;exact⟨aK c.out.symm,(Below.refl _ _).alloc (Nat.le_refl _) _⟩
theorem Ec (c s p:Int) (w:World) (hs:s<=9223372036854775807) (f:p<=9223372036854775807):
 Calls Tryz.prog 166 #[aN c s p] w λe w'=>e= .returned (.bool (aW c s p))/\Below w.heap.size w w':=by
 by_cases hc:c=2
 ·subst hc;exact Jy s p w hs f
 ·by_cases h:c=s
  ·subst h;by_cases a:p=0
   ·subst a;by_cases b:3<=c
    ·by_cases d:c<=4096
     ·exact FO c w (beq_false_of_ne hc) b d
     ·exact Fa c w (beq_false_of_ne hc) oO
    ·exact Fz c w (beq_false_of_ne hc) oO
   ·exact Gw c p w (beq_false_of_ne hc) (beq_false_of_ne a)
  ·exact FB c s p w (beq_false_of_ne hc) (beq_false_of_ne h)
end
end Go.Proofs.YtmnlkganmgcpbaaGreatDoor
