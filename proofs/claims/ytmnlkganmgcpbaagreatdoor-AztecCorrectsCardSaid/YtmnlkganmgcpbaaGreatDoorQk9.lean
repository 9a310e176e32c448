import Derived.Test.YtmnlkganmgcpbaaGreatDoorQk5
import Derived.Deep.RegionHeld3
set_option maxRecDepth 100000
set_option maxHeartbeats 4000000
set_option linter.unusedVariables false
set_option linter.unusedSectionVars false
set_option linter.unusedSimpArgs false
namespace Go.Proofs.YtmnlkganmgcpbaaGreatDoor
class Fl (K:Type) where
 add:K->K->K
 mul:K->K->K
 neg:K->K
 zero:K
 one:K
 add_assoc:∀a b c,add (add a b) c=add a (add b c)
 add_comm:∀a b,add a b=add b a
 zero_add:∀a,add zero a=a
 neg_add:∀a,add (neg a) a=zero
 mul_assoc:∀a b c,mul (mul a b) c=mul a (mul b c)
 mul_comm:∀a b,mul a b=mul b a
 one_mul:∀a,mul one a=a
 add_mul:∀a b c,mul (add a b) c=add (mul a c) (mul b c)
 IF:one≠zero
 NB:∀a b,mul a b=zero->a=zero\/b=zero
 dec:DecidableEq K
 EC:List K
 nodup:EC.Nodup
 mem:∀a,a∈EC
namespace Fl
variable {K : Type} [Fl K]
instance:Add K:=⟨Fl.add⟩
instance:Mul K:=⟨Fl.mul⟩
instance:Neg K:=⟨Fl.neg⟩
instance:Sub K:=⟨λa b=>a+-b⟩
instance:Zero K:=⟨Fl.zero⟩
instance:One K:=⟨Fl.one⟩
instance:DecidableEq K:=Fl.dec
def npow (a:K):Nat->K
 |0=>1
 |n+1=>npow a n* a
instance:HPow K Nat K:=⟨npow⟩
instance:Std.Associative (α:=K) (·+·):=⟨Fl.add_assoc⟩
instance:Std.Commutative (α:=K) (·+·):=⟨Fl.add_comm⟩
instance:Std.Associative (α:=K) (·* ·):=⟨Fl.mul_assoc⟩
instance:Std.Commutative (α:=K) (·* ·):=⟨Fl.mul_comm⟩
end Fl
open Fl
variable {K : Type} [Fl K]
theorem iE (a b c:K):a+b+c=a+(b+c):=Fl.add_assoc a b c
theorem eU (a b:K):a+b=b+a:=Fl.add_comm a b
theorem cn (a:K):0+a=a:=Fl.zero_add a
theorem aU (a:K):a+0=a:=by rw[eU];exact cn a
theorem eE (a:K):-a+a=0:=Fl.neg_add a
theorem q9 (a:K):a+-a=0:=by rw[eU];exact eE a
theorem iP (a b:K):a-b=a+-b:=rfl
theorem cX (a b c:K):a* b* c=a* (b* c):=Fl.mul_assoc a b c
theorem bX (a b:K):a* b=b* a:=Fl.mul_comm a b
theorem dZ (a:K):1* a=a:=Fl.one_mul a
theorem gm (a:K):a* 1=a:=by rw[bX];exact dZ a
theorem iU (a b c:K):(a+b)* c=a* c+b* c:=Fl.add_mul a b c
theorem gY (a b c:K):a* (b+c)=a* b+a* c:=by rw[bX,iU,bX b,bX c]
theorem kn:(1:K)≠0:=Fl.IF
theorem yI {a b:K} (h:a* b=0):a=0\/b=0:=Fl.NB a b h
theorem oN {a b c:K} (h:a+b=a+c):b=c:=by
 have:=congrArg (λx=>-a+x) h;simpa[<-iE,eE,cn]using this
theorem fu {a b c:K} (h:b+a=c+a):b=c:=by
 rw[eU b,eU c]at h;exact oN h
theorem bR (a:K):0* a=0:=by
 have h:0* a+0* a=0* a+0:=by rw[<-iU,aU,aU]
 exact oN h
theorem aT (a:K):a* 0=0:=by rw[bX];exact bR a
theorem mH (a b:K):-a* b=-(a* b):=by
 apply fu (a:=a* b);rw[<-iU,eE,eE,bR]
theorem rG (a b:K):a*-b=-(a* b):=by rw[bX,mH,bX]
theorem si (a:K):- -a=a:=by
 apply fu (a:=-a);rw[eE,q9]
theorem sG:(-0:K)=0:=by
 apply fu (a:=(0:K));rw[eE,aU]
theorem wg (a b:K):-(a+b)=-a+-b:=by
 apply fu (a:=a+b);rw[eE,show-a+-b+(a+b)=(-a+a)+(-b+b)from by ac_rfl,eE,eE,aU]
theorem dG (a:K):a-a=0:=q9 a
theorem fC (a:K):a-0=a:=by rw[iP,sG,aU]
theorem pK (a b:K):a-b+b=a:=by rw[iP,iE,eE,aU]
theorem iZ {a b:K}:a-b=0↔a=b:=by
 constructor
 ·intro h;have:=pK a b;rw[h,cn]at this;exact this.symm
 ·intro h;subst h;exact dG a
theorem Jy (a b c:K):(a-b)* c=a* c-b* c:=by rw[iP,iU,mH];rfl
theorem Jj (a b c:K):a* (b-c)=a* b-a* c:=by rw[iP,gY,rG];rfl
theorem kZ {a b c:K} (e:a≠0) (h:a* b=a* c):b=c:=by
 have f:a* (b-c)=0:=by rw[Jj,h,dG]
 rcases yI f with d|d
 ·exact absurd d e
 ·exact iZ.1 d
theorem lI {a b:K} (c:a≠0) (hb:b≠0):a* b≠0:=by
 intro h;rcases yI h with h|h
 ·exact c h
 ·exact hb h
theorem gE {a b c:K} (d:a≠0) (h:b* a=c* a):b=c:=by
 rw[bX b,bX c]at h;exact kZ d h
theorem jo (a:K):a^0=1:=rfl
theorem ee (a:K) (n:Nat):a^(n+1)=a^n* a:=rfl
theorem j5 (a:K) (m n:Nat):a^(m+n)=a^m* a^n:=by
 induction n with
 |zero=>rw[jo,gm];rfl
 |succ n b=>rw[<-Nat.add_assoc,ee,b,ee,cX]
theorem iS (n:Nat):(1:K)^n=1:=by
 induction n with
 |zero=>rfl
 |succ n a=>rw[ee,a,dZ]
theorem fm (a:K) (m n:Nat):a^(m* n)=(a^m)^n:=by
 induction n with
 |zero=>rfl
 |succ n b=>rw[Nat.mul_succ,j5,b,ee]
theorem rp (a b:K) (n:Nat):(a* b)^n=a^n* b^n:=by
 induction n with
 |zero=>rw[jo,jo,jo,dZ]
 |succ n c=>rw[ee,ee,ee,c];ac_rfl
theorem Gh (n:Nat) (h:n≠0):(0:K)^n=0:=by
 obtain⟨m,rfl⟩:∃m,n=m+1:=⟨n-1,by omega⟩;rw[ee,aT]
theorem lG {a:K} (b:a≠0) (n:Nat):a^n≠0:=by
 induction n with
 |zero=>exact kn
 |succ n c=>rw[ee];exact lI c b
def im (K:Type) [Fl K]:Nat:=(EC:List K).length
def ke (K:Type) [Fl K]:List K:=(EC:List K).filter (λa=>a≠0)
theorem iK {a:K}:a∈ke K↔a≠0:=by
 unfold ke;simp[Fl.mem]
theorem qq:(ke K).Nodup:=Fl.nodup.filter _
theorem Kp:(EC:List K).Perm (0::ke K):=by
 refine(List.perm_ext_iff_of_nodup Fl.nodup ?_).2 ?_
 ·rw[List.nodup_cons];exact⟨by rw[iK];simp,qq⟩
 ·intro a;simp only[Fl.mem,List.mem_cons,iK,true_iff];by_cases h:a=0
  ·exact .inl h
  ·exact .inr h
theorem mu:(ke K).length+1=im K:=by
 have:=(Kp (K:=K)).length_eq;simp only[List.length_cons]at this;exact this.symm
theorem yg:2<=im K:=by
 rw[<-mu];have h:(1:K)∈ke K:=iK.2 kn;have:=List.length_pos_of_mem h;omega
def prd:List K->K
 |[]=>1
 |a::l=>a* prd l
theorem JY {l m:List K} (h:l.Perm m):prd l=prd m:=by
 induction h with
 |nil=>rfl
 |cons x _ a=>simp only[prd,a]
 |swap x y l=>simp only[prd];ac_rfl
 |trans _ _ b c=>rw[b,c]
theorem Dv (a:K) (l:List K):prd (l.map (a* ·))=a^l.length* prd l:=by
 induction l with
 |nil=>simp only[List.map_nil,prd,List.length_nil,jo,dZ]
 |cons x l b=>simp only[List.map_cons,prd,b,List.length_cons,ee];ac_rfl
theorem Mw {l:List K} (h:∀a∈l,a≠0):prd l≠0:=by
 induction l with
 |nil=>exact kn
 |cons x l b=>exact lI (h x oS) (b λa c=>h a (by simp[c]))
theorem nv {α g:Type} {f:α->g} {l:List α} (c:∀a∈l,∀b∈l,f a=f b->a=b) (h:l.Nodup):(l.map f).Nodup:=by
 induction l with
 |nil=>simp
 |cons x l i=>
  rw[List.nodup_cons]at h;rw[List.map_cons,List.nodup_cons];refine⟨?_,i (λa j b hb=>c a (by simp[j]) b (by simp[hb])) h.2⟩;intro k;obtain⟨y,d,e⟩:=List.mem_map.1 k;have:=c y (by simp[d]) x oS e;subst this;exact h.1 d
theorem length_le_of_subset {α:Type} {l m:List α} (hl:l.Nodup) (h:∀a∈l,a∈m):l.length<=m.length:=by
 induction l generalizing m with
 |nil=>simp
 |cons x l e=>
  rw[List.nodup_cons]at hl;obtain⟨s,d,rfl⟩:=List.append_of_mem (h x oS)
  have:=e (m:=s++d) hl.2 (λa c=>by
   have b:=h a (by simp[c]);simp only[List.mem_append,List.mem_cons]at b⊢;rcases b with b|b|b
   ·exact .inl b
   ·subst b;exact absurd c hl.1
   ·exact .inr b)
  simp only[List.length_append,List.length_cons]at this⊢;omega
theorem qH {α:Type} {l m:List α} (hl:l.Nodup) (h:∀a∈l,a∈m) (d:m.length<=l.length):l.Perm m:=by
 induction l generalizing m with
 |nil=>
  have:m=[]:=List.length_eq_zero_iff.1 (by simpa using d);subst this;exact List.Perm.refl _
 |cons x l f=>
  rw[List.nodup_cons]at hl;obtain⟨s,e,rfl⟩:=List.append_of_mem (h x oS)
  have:=f (m:=s++e) hl.2 (λa c=>by
   have b:=h a (by simp[c]);simp only[List.mem_append,List.mem_cons]at b⊢;rcases b with b|b|b
   ·exact .inl b
   ·subst b;exact absurd c hl.1
   ·exact .inr b) (by simp only[List.length_append,List.length_cons]at d⊢;omega)
  exact(this.cons x).trans List.perm_middle.symm
theorem xa {a:K} (d:a≠0):a^(im K-1)=1:=by
 have g:((ke K).map (a* ·)).Perm (ke K):=by
  refine qH (nv (λx _ y _ e=>kZ d e) qq) ?_ oS;intro b hb;obtain⟨x,c,rfl⟩:=List.mem_map.1 hb;exact iK.2 (lI d (iK.1 c))
 have f:=JY g;rw[Dv]at f;have i:prd (ke K)≠0:=Mw λx c=>iK.1 c;have j:(ke K).length=im K-1:=by have:=mu (K:=K);omega
 rw[<-j];exact gE i (by rw[f,dZ])
def eG (a:K):K:=a^(im K-2)
theorem gu {a:K} (b:a≠0):a* eG a=1:=by
 have h:=xa b;have:=yg (K:=K);rw[show im K-1=(im K-2)+1 from by omega,ee]at h;rw[bX];exact h
theorem Cr {a:K} (b:a≠0):eG a* a=1:=by rw[bX,gu b]
theorem ui {a:K} (b:a≠0):eG a≠0:=lG b _
theorem exists_least {P:Nat->Prop} (h:∃n,P n):∃n,P n/\∀m,m<n->¬P m:=by
 obtain⟨n,hn⟩:=h
 induction n using Nat.strongRecOn with
 |_ n d=>
  by_cases c:∃m,m<n/\P m
  ·obtain⟨m,a,b⟩:=c;exact d m a b
  ·exact⟨n,hn,λm a b=>c ⟨m,a,b⟩⟩
def du (a:K) (k:Nat):Prop:=1<=k/\a^k=1/\∀m,1<=m->m<k->a^m≠1
theorem sR {a:K} (b:a≠0):∃k,du a k:=by
 obtain⟨k,⟨c,d⟩,e⟩:=exists_least (P:=λk=>1<=k/\a^k=1) ⟨im K-1,by have:=yg (K:=K);omega,xa b⟩;exact⟨k,c,d,λm f i g=>e m i ⟨f,g⟩⟩
theorem du.ne {a:K} {k:Nat} (h:du a k):a≠0:=by
 intro e;subst e;have:=h.2.1;rw[Gh _ (by have:=h.1;omega)]at this;exact kn this.symm
theorem vz {a:K} {k:Nat} (h:a^k=1) (m:Nat):a^m=a^(m%k):=by
 conv=>lhs;rw[<-Nat.div_add_mod m k,j5,fm,h,iS,dZ]
theorem du.dvd {a:K} {k m:Nat} (h:du a k):a^m=1↔k∣m:=by
 constructor
 ·intro e;rw[vz h.2.1]at e;by_cases b:m%k=0
  ·exact Nat.dvd_of_mod_eq_zero b
  ·exact absurd e (h.2.2 _ oO (Nat.mod_lt _ (by have:=h.1;omega)))
 ·rintro⟨c,rfl⟩;rw[fm,h.2.1,iS]
theorem du.IT {a:K} {k:Nat} (h:du a k):k∣im K-1:=h.dvd.1 (xa h.ne)
theorem du.le {a:K} {k:Nat} (h:du a k):k<=im K-1:=
 Nat.le_of_dvd (by have:=yg (K:=K);omega) h.IT
theorem du.inj {a:K} {k i j:Nat} (h:du a k) (b:i<k) (c:j<k) (e:a^i=a^j):i=j:=by
 have d:∀i j,i<=j->i<k->j<k->a^i=a^j->i=j:=by
  intro i j g b c e;have e2:a^i* a^(j-i)=a^i* 1:=by rw[<-j5,gm,show i+(j-i)=j from by omega];exact e.symm
  have e3:=kZ (lG h.ne i) e2;by_cases f:j-i=0
  ·omega
  ·exact absurd e3 (h.2.2 _ oO oO)
 rcases Nat.le_total i j with hl|hl
 ·exact d i j hl b c e
 ·exact(d j i hl c b e.symm).symm
theorem du.pow {a:K} {d e:Nat} (h:du a (d* e)) (c:1<=d):du (a^d) e:=by
 refine⟨?_,by rw[<-fm];exact h.2.1,?_⟩
 ·rcases Nat.eq_zero_or_pos e with b|b
  ·subst b;have:=h.1;omega
  ·exact b
 ·intro m g i f;rw[<-fm]at f;have:d* m<d* e:=Nat.mul_lt_mul_of_pos_left i c;exact h.2.2 _ (Nat.mul_pos c g) this f
theorem du.mul {a b:K} {m k:Nat} (c:du a m) (hb:du b k) (hc:Nat.Coprime m k):du (a* b) (m* k):=by
 have g:1<=m* k:=Nat.mul_pos c.1 hb.1;have e:(a* b)^(m* k)=1:=by
  rw[rp,fm,c.2.1,iS,Nat.mul_comm,fm,hb.2.1,iS,dZ]
 refine⟨g,e,?_⟩;intro j f i d;have e1:k∣j:=by
  have:b^(m* j)=1:=by
   have:=congrArg (λx=>x^m) d;simp only[iS,<-fm]at this;rw[rp,Nat.mul_comm j m,fm a,c.2.1,iS,dZ]at this;exact this
  exact hc.symm.dvd_of_dvd_mul_left (hb.dvd.1 this)
 have e2:m∣j:=by
  have:a^(k* j)=1:=by
   have:=congrArg (λx=>x^k) d;simp only[iS,<-fm]at this;rw[rp,Nat.mul_comm j k,fm b,hb.2.1,iS,gm]at this;exact this
  exact hc.dvd_of_dvd_mul_left (c.dvd.1 this)
 have:=Nat.le_of_dvd f (hc.mul_dvd_of_dvd_of_dvd e2 e1);omega
theorem strip (q:Nat) (hq:2<=q) (m:Nat) (d:1<=m):∃a r,m=q^a* r/\¬q∣r:=by
 induction m using Nat.strongRecOn with
 |_ m e=>
  by_cases h:q∣m
  ·obtain⟨c,rfl⟩:=h;have hc:1<=c:=by
    rcases Nat.eq_zero_or_pos c with b|b
    ·subst b;simp at d
    ·exact b
   obtain⟨a,r,f,g⟩:=e c (by have:=Nat.mul_le_mul_right c hq;omega) hc;exact⟨a+1,r,by rw[f,Nat.pow_succ];ac_rfl,g⟩
  ·exact⟨0,m,by simp,h⟩
theorem Cb (c:Nat) (hc:2<=c):∃q,2<=q/\q∣c/\∀d,d∣q->d=1\/d=q:=by
 obtain⟨q,⟨e,b⟩,f⟩:=exists_least (P:=λq=>2<=q/\q∣c) ⟨c,hc,Nat.dvd_refl c⟩;refine⟨q,e,b,λd a=>?_⟩;have j:d≠0:=by intro h;subst h;have:=Nat.eq_zero_of_zero_dvd a;omega
 have k:=Nat.le_of_dvd oO a;by_cases g:d=1
 ·exact .inl g
 by_cases i:d=q
 ·exact .inr i
 exact absurd ⟨by omega,Nat.dvd_trans a b⟩ (f d oO)
theorem oZ {q r:Nat} (hq:∀d,d∣q->d=1\/d=q) (h:¬q∣r):Nat.Coprime q r:=by
 rcases hq (Nat.gcd q r) (Nat.gcd_dvd_left q r)with a|a
 ·exact a
 ·exact absurd (a▸Nat.gcd_dvd_right q r) h
theorem Aq {a b:K} {m k:Nat} (n:du a m) (hb:du b k) (hn:¬k∣m):∃c l,du (c:K) l/\m<l:=by
 have hg:Nat.gcd k m∣k:=Nat.gcd_dvd_left k m;obtain⟨c,hc⟩:=hg;have G:1<=Nat.gcd k m:=Nat.gcd_pos_of_pos_left _ hb.1;have z:2<=c:=by
  rcases Nat.lt_or_ge c 2 with h|h
  ·have:c=0\/c=1:=oO;rcases this with d|d
   ·subst d;have:=hb.1;rw[Nat.mul_zero]at hc;omega
   ·subst d;rw[Nat.mul_one]at hc;exact absurd (hc▸Nat.gcd_dvd_right k m) hn
  ·exact h
 obtain⟨q,p,A,B⟩:=Cb c z;obtain⟨s,g,i,r⟩:=strip q p k hb.1;obtain⟨f,o,j,C⟩:=strip q p m n.1;have D:f<s:=by
  rcases Nat.lt_or_ge f s with h|h
  ·exact h
  ·exfalso;have u:q^s∣m:=by rw[j];exact Nat.dvd_trans (Nat.pow_dvd_pow q h) (Nat.dvd_mul_right _ _)
   have v:q^s∣k:=by rw[i];exact Nat.dvd_mul_right _ _
   obtain⟨e,w⟩:=Nat.dvd_gcd v u;have x:q^s* g=q^s* (e* c):=by rw[<-i,<-Nat.mul_assoc,<-w,<-hc]
   have y:g=e* c:=Nat.eq_of_mul_eq_mul_left (Nat.pow_pos oO) x;exact r (y▸Nat.dvd_trans A (Nat.dvd_mul_left c e))
 have E:du (b^g) (q^s):=du.pow (by rw[Nat.mul_comm,<-i];exact hb) (by
  rcases Nat.eq_zero_or_pos g with d|d
  ·subst d;exact absurd (Nat.dvd_zero q) r
  ·exact d)
 have t:du (a^(q^f)) o:=du.pow (by rw[<-j];exact n) (Nat.pow_pos oO);refine⟨_,_,du.mul E t (Nat.Coprime.pow_left s (oZ B C)),?_⟩;have F:1<=o:=t.1;have:q^f<q^s:=Nat.pow_lt_pow_right oO D;rw[j];exact Nat.mul_lt_mul_of_pos_right this F
def ev (x:K):List K->K
 |[]=>0
 |c::a=>c+x* ev x a
def sd (r:K):List K->List K
 |[]=>[]
 |[_]=>[]
 |_::d::a=>ev r (d::a)::sd r (d::a)
theorem G3 (r:K) (p:List K):(sd r p).length=p.length-1:=by
 induction p with
 |nil=>rfl
 |cons c a b=>cases a with
  |nil=>rfl
  |cons d a=>simp only[sd,List.length_cons]at b⊢;omega
theorem NA (r x:K) (p:List K):ev x p=(x-r)* ev x (sd r p)+ev r p:=by
 induction p with
 |nil=>simp only[ev,sd,aT,aU]
 |cons c a b=>cases a with
  |nil=>simp only[ev,sd,aT,aU,cn]
  |cons d a=>
   have e1:ev x (c::d::a)=c+x* ev x (d::a):=rfl;have e2:ev r (c::d::a)=c+r* ev r (d::a):=rfl;have e3:ev x (sd r (c::d::a))=ev r (d::a)+x* ev x (sd r (d::a)):=rfl;rw[e1,e2,e3,b];generalize ev r (d::a)=u;generalize ev x (sd r (d::a))=v;simp only[gY,iP,iU];rw[show x* u+-r* u+(x* (x* v)+-r* (x* v))+(c+r* u)=(-r* u+r* u)+(c+(x* (x* v)+x* (-r* v)+x* u))from by ac_rfl];rw[show-r* u+r* u=0 from by rw[mH,eE],cn]
theorem K8 (r:K) (p:List K) (h:2<=p.length):(sd r p).getLast?=p.getLast?:=by
 induction p with
 |nil=>simp at h
 |cons c a b=>cases a with
  |nil=>simp at h
  |cons d a=>
   cases a with
   |nil=>simp[sd,ev,aT,aU]
   |cons e a=>
    have:=b oS;have f:sd r (c::d::e::a)=ev r (d::e::a)::sd r (d::e::a):=rfl;rw[f];have g:sd r (d::e::a)=ev r (e::a)::sd r (e::a):=rfl;rw[g]at this⊢;simp only[List.getLast?_cons_cons]at this⊢;exact this
theorem BG (p:List K) (c:K) (hc:p.getLast?=some c) (i:c≠0) (l:List K) (hl:l.Nodup) (b:∀x∈l,ev x p=0):l.length<p.length:=by
 induction l generalizing p with
 |nil=>
  have:p≠[]:=by intro h;subst h;simp at hc
  exact List.length_pos_iff.2 this
 |cons r l g=>
  rw[List.nodup_cons]at hl;by_cases a:2<=p.length
  ·have:=g (sd r p) (by rw[K8 r p a];exact hc) hl.2 (by
    intro x f;have e:=NA r x p;rw[b x (by simp[f]),b r oS,aU]at e;rcases yI e.symm with h|h
    ·rw[iZ]at h;subst h;exact absurd f hl.1
    ·exact h)
   rw[G3]at this;simp only[List.length_cons];omega
  ·exfalso
   match p,hc,a with
   |[],hc,_=>simp at hc
   |[d],hc,_=>
    have:d=c:=by simpa using hc
    subst this;have:=b r oS;simp only[ev,aT,aU]at this;exact i this
   |_::_::_,_,a=>simp at a
theorem Nk (x:K) (e:Nat):ev x (List.replicate e (0:K)++[1])=x^e:=by
 induction e with
 |zero=>simp only[List.replicate_zero,List.nil_append,ev,aT,aU,jo]
 |succ e a=>simp only[List.replicate_succ,List.cons_append,ev,a,cn,ee];exact bX _ _
theorem xO {e:Nat} (f:1<=e) (h:∀a:K,a≠0->a^e=1):im K-1<=e:=by
 obtain⟨e,rfl⟩:∃d,e=d+1:=⟨e-1,by omega⟩
 have:=BG (K:=K) (-1::(List.replicate e (0:K)++[1])) 1 (by rw[List.getLast?_cons];simp) kn (ke K) qq (by
  intro x b;have c:=h x (iK.1 b);simp only[ev,Nk]
  rw[bX,<-ee,c,eE])
 simp only[List.length_cons,List.length_append,List.length_replicate,List.length_nil]at this;have:=mu (K:=K);omega
theorem MM:∃g:K,du g (im K-1):=by
 have key:∀d:Nat,∀a:K,∀m,du a m->im K-1-m<=d->∃g:K,du g (im K-1):=by
  intro d
  induction d with
  |zero=>
   intro a m h e;have:=h.le;obtain rfl:m=im K-1:=oO;exact⟨a,h⟩
  |succ d n=>
   intro a m h e;by_cases j:∀b:K,b≠0->b^m=1
   ·have:=xO h.1 j;have:=h.le;obtain rfl:m=im K-1:=oO;exact⟨a,h⟩
   ·have:∃b:K,b≠0/\b^m≠1:=by
     apply Classical.byContradiction;intro p;exact j λb hb=>Classical.byContradiction λo=>p ⟨b,hb,o⟩
    obtain⟨b,hb,q⟩:=this;obtain⟨k,f⟩:=sR hb;obtain⟨c,l,i,r⟩:=Aq h f (λe=>q (f.dvd.2 e));exact n c l i (by have:=i.le;omega)
 exact key (im K) 1 1 ⟨Nat.le_refl 1,iS 1,λm s r=>by omega⟩ oO
def oG (p:Nat):Bool:=(List.range (2^((bl p-1)/2+1))).all λq=>decide (q<2)||cmod p q !=0
theorem wk (p:Nat):oG p=true↔∀q,2<=q->2* (bl q-1)<=bl p-1->cmod p q≠0:=by
 unfold oG;rw[List.all_eq_true];constructor
 ·intro h q a b;have hb:=ia q oO;have:=h q (List.mem_range.2 ((bB _ _).1 oO));simp at this;omega
 ·intro h q hq;have c:=(bB q _).2 (List.mem_range.1 hq);by_cases a:q<2
  ·simp[a]
  ·have:=h q oO (by have:=ia q oO;omega);simp[this]
def kE (n:Nat):Bool:=decide (2<=n)&&(List.range (n+1)).all λd=>decide (d<2)||decide (n<d* d)||n%d !=0
theorem rA (n:Nat):kE n=true↔2<=n/\∀d,2<=d->d* d<=n->n%d≠0:=by
 unfold kE;rw[Bool.and_eq_true,List.all_eq_true,decide_eq_true_iff];constructor
 ·rintro⟨a,h⟩;refine⟨a,λd b c=>?_⟩;have f:d<=n:=Nat.le_trans (Nat.le_mul_of_pos_left d oO) c;have:=h d (List.mem_range.2 oO);simp at this;omega
 ·rintro⟨a,h⟩;refine⟨a,λd _=>?_⟩;by_cases b:d<2
  ·simp[b]
  ·by_cases e:n<d* d
   ·simp[e]
   ·have:=h d oO oO;simp[this]
theorem Gq {n:Nat} (h:kE n=true):∀d,d∣n->d=1\/d=n:=by
 obtain⟨i,b⟩:=(rA n).1 h;intro d f;obtain⟨e,a⟩:=f;have j:d≠0:=by intro h;subst h;omega
 have k:e≠0:=by intro h;subst h;omega
 by_cases c:d=1
 ·exact .inl c
 by_cases e1:e=1
 ·subst e1;right;omega
 exfalso;by_cases g:d<=e
 ·have:d* d<=n:=by rw[a];exact Nat.mul_le_mul_left d g
  exact b d oO this (by rw[a];exact Nat.mul_mod_right d e)
 ·have:e* e<=n:=by rw[a];exact Nat.mul_le_mul_right e oO
  exact b e oO this (Nat.mod_eq_zero_of_dvd ⟨d,by rw[a,Nat.mul_comm]⟩)
theorem MU {p d:Nat} (c:bl p=d+1) (e:1<=d) (h:oG p=true):ND p:=by
 refine⟨by omega,λq hq a b=>?_⟩;exact(wk p).1 h q hq a ((oA p q oO).2 b)
def VF (c s p:Nat):Prop:=
 (p=0/\c=s/\2<s/\s<=4096/\kE s=true)\/(∃d,1<=d/\d<=12/\bl p=d+1/\s=2^d/\c=2/\oG p=true)
def bN (s p a b:Nat):Nat:=if p=0 then(a+b)%s else a^^^b
def uh (s p a:Nat):Nat:=if p=0 then(s-a)%s else a
structure El (s:Nat) where
 val:Nat
 lt:val<s
theorem El.ext {s:Nat} {a b:El s} (h:a.val=b.val):a=b:=by
 cases a;cases b;simp only at h;subst h;rfl
theorem VF.aP {c s p:Nat} (h:VF c s p):2<=s:=by
 rcases h with⟨-,-,h,-⟩|⟨d,a,-,-,h,-⟩
 ·omega
 ·rw[h];exact Nat.pow_le_pow_right (n:=2) oO a
theorem VF.le {c s p:Nat} (h:VF c s p):s<=4096:=by
 rcases h with⟨-,-,-,h,-⟩|⟨d,-,a,-,h,-⟩
 ·omega
 ·rw[h];exact Nat.pow_le_pow_right (n:=2) oO a
theorem ki {c s p:Nat} (h:VF c s p) (a b:Nat) (f:a<s) (hb:b<s):bN s p a b<s:=by
 have g:=h.aP;unfold bN;rcases h with⟨e,-⟩|⟨d,-,-,e,hs,-⟩
 ·rw[if_pos e];exact Nat.mod_lt _ oO
 ·rw[if_neg (by intro h;subst h;rw[fy]at e;omega)];subst hs;exact Nat.xor_lt_two_pow f hb
theorem LY {c s p:Nat} (h:VF c s p) (a:Nat) (b:a<s):uh s p a<s:=by
 unfold uh;split
 ·exact Nat.mod_lt _ (by have:=h.aP;omega)
 ·exact b
theorem bL {c s p:Nat} (h:VF c s p) (a b:Nat):aG s p a b<s:=by
 have g:=h.aP;unfold aG;rcases h with⟨e,-⟩|⟨d,-,-,e,hs,-⟩
 ·rw[if_pos e];exact Nat.mod_lt _ oO
 ·have f:p≠0:=by intro h;subst h;rw[fy]at e;omega
  rw[if_neg f];subst hs;exact(bB _ _).1 (by have:=lj (bU a b) p f;omega)
theorem oF (a b n:Nat):(a%n)* b%n=a* b%n:=by rw[Nat.mul_mod,Nat.mod_mod,<-Nat.mul_mod]
theorem uF (a b n:Nat):a* (b%n)%n=a* b%n:=by rw[Nat.mul_mod,Nat.mod_mod,<-Nat.mul_mod]
theorem Dp (a s:Nat) (b:a<s):((s-a)%s+a)%s=0:=by
 by_cases h:a=0
 ·subst h;simp
 ·rw[Nat.mod_eq_of_lt (by omega:s-a<s),show s-a+a=s from by omega,Nat.mod_self]
instance Nr (s:Nat):DecidableEq (El s):=λa b=>
 if h:a.val=b.val then isTrue (El.ext h)else isFalse (λe=>h (by rw[e]))
theorem DR {c s p:Nat} (h:VF c s p) (a b:Nat) (j:a<s) (hb:b<s) (e:aG s p a b=0):a=0\/b=0:=by
 unfold aG at e;rcases h with⟨f,-,-,-,m⟩|⟨d,k,-,f,hs,-,n⟩
 ·rw[if_pos f]at e;have l:=Nat.dvd_of_mod_eq_zero e;by_cases g:s∣a
  ·left;by_cases o:a=0
   ·exact o
   ·exact absurd (Nat.le_of_dvd oO g) oO
  ·right;have hc:=oZ (Gq m) g;have q:=hc.dvd_of_dvd_mul_left l;by_cases r:b=0
   ·exact r
   ·exact absurd (Nat.le_of_dvd oO q) oO
 ·have i:p≠0:=by intro h;subst h;rw[fy]at f;omega
  rw[if_neg i]at e;subst hs;have t:=(bB _ _).2 j;have u:=(bB _ _).2 hb;rcases Nd p a b (MU f k n) ((oA _ _ i).1 e)with h|h
  ·exact .inl (sj h oO)
  ·exact .inr (sj h oO)
@[reducible] def eI {c s p:Nat} (h:VF c s p):Fl (El s) where
 add a b:=⟨bN s p a.val b.val,ki h _ _ a.lt b.lt⟩
 mul a b:=⟨aG s p a.val b.val,bL h _ _⟩
 neg a:=⟨uh s p a.val,LY h _ a.lt⟩
 zero:=⟨0,by have:=h.aP;omega⟩
 one:=⟨1,by have:=h.aP;omega⟩
 add_assoc a b c:=El.ext (by
  simp only[bN];split
  ·rw[Nat.mod_add_mod,Nat.add_mod_mod,Nat.add_assoc]
  ·exact Nat.xor_assoc _ _ _)
 add_comm a b:=El.ext (by
  simp only[bN];split
  ·rw[Nat.add_comm]
  ·exact Nat.xor_comm _ _)
 zero_add a:=El.ext (by
  simp only[bN];split
  ·rw[Nat.zero_add];exact Nat.mod_eq_of_lt a.lt
  ·exact Nat.zero_xor _)
 neg_add a:=El.ext (by
  simp only[bN,uh];split
  ·exact Dp _ _ a.lt
  ·exact Nat.xor_self _)
 mul_assoc a b c:=El.ext (by
  simp only[aG];split
  ·rw[oF,uF,Nat.mul_assoc]
  ·rename_i hp;rw[my _ _ _ hp,xS _ _ _ hp,qV])
 mul_comm a b:=El.ext (by
  simp only[aG];split
  ·rw[Nat.mul_comm]
  ·rw[nF])
 one_mul a:=El.ext (by
  simp only[aG];rcases h with⟨hp,-⟩|⟨d,-,-,hp,hs,-⟩
  ·rw[if_pos hp,Nat.one_mul];exact Nat.mod_eq_of_lt a.lt
  ·have f:p≠0:=by intro h;subst h;rw[fy]at hp;omega
   rw[if_neg f,vy];have:=a.lt;subst hs
   exact kl _ _ (by have:=(bB _ _).2 this;omega))
 add_mul a b c:=El.ext (by
  simp only[aG,bN];split
  ·rw[oF,Nat.add_mul,Nat.mod_add_mod,Nat.add_mod_mod]
  ·rename_i hp;rw[rj,CK _ _ _ hp])
 IF:=by intro e;have:=congrArg El.val e;simp at this
 NB a b e:=by
  rcases DR h a.val b.val a.lt b.lt (congrArg El.val e)with h|h
  ·exact .inl (El.ext h)
  ·exact .inr (El.ext h)
 dec:=Nr s
 EC:=(List.finRange s).map λi=>⟨i.val,i.isLt⟩
 nodup:=nv (λa _ b _ e=>Fin.ext (congrArg El.val e)) (List.nodup_finRange s)
 mem a:=List.mem_map.2 ⟨⟨a.val,a.lt⟩,List.mem_finRange _,rfl⟩
theorem kk {c s p:Nat} (h:VF c s p):@im (El s) (eI h)=s:=by
 show((List.finRange s).map _).length=s;simp
def fpowN (s p a:Nat):Nat->Nat
 |0=>1
 |n+1=>aG s p (fpowN s p a n) a
theorem fV {c s p:Nat} (h:VF c s p) (a:El s) (n:Nat):fpowN s p a.val n=(@HPow.hPow (El s) Nat (El s) (@Fl.instHPowNat (El s) (eI h)) a n).val:=by
 induction n with
 |zero=>rfl
 |succ n b=>simp only[fpowN];rw[b];rfl
section
variable {c s p : Nat} (h : VF c s p)
include h
theorem vV (a n:Nat):fpowN s p a n<s:=by
 cases n with
 |zero=>have:=h.aP;show 1<s;omega
 |succ n=>exact bL h _ _
theorem Kt (a:Nat) (b:a<s):aG s p 1 a=a:=by
 letI:=eI h
 let x:El s:=⟨a,b⟩
 show((1:El s)* x).val=x.val;rw[dZ]
theorem BH (a:Nat) (b:a<s):aG s p a 1=a:=by
 letI:=eI h
 let x:El s:=⟨a,b⟩
 show(x* (1:El s)).val=x.val;rw[gm]
end
def mG (s p a k:Nat):Prop:=1<=k/\fpowN s p a k=1/\∀m,1<=m->m<k->fpowN s p a m≠1
theorem mG.unique {s p a k l:Nat} (h:mG s p a k) (g:mG s p a l):k=l:=by
 by_cases b:k<l
 ·exact absurd h.2.1 (g.2.2 k h.1 b)
 ·by_cases d:l<k
  ·exact absurd g.2.1 (h.2.2 l g.1 d)
  ·omega
section
variable {c s p : Nat} (h : VF c s p)
include h
theorem iy (x:El s) (n:Nat):fpowN s p x.val n=1↔(letI:=eI h;x^n=(1:El s)):=by
 rw[fV h];constructor
 ·intro e;exact El.ext e
 ·intro e;exact congrArg El.val e
theorem oX (x:El s) (k:Nat):mG s p x.val k↔(letI:=eI h;du x k):=by
 letI:=eI h
 constructor
 ·rintro⟨a,b,d⟩;exact⟨a,(iy h x k).1 b,λm f g e=>d m f g ((iy h x m).2 e)⟩
 ·rintro⟨a,b,d⟩;exact⟨a,(iy h x k).2 b,λm f g e=>d m f g ((iy h x m).1 e)⟩
theorem ko (x:El s):(letI:=eI h;x≠(0:El s))↔x.val≠0:=by
 letI:=eI h
 constructor
 ·intro e e2;exact e (El.ext e2)
 ·intro e e2;exact e (congrArg El.val e2)
theorem C6 (a:Nat) (d:a<s) (e:a≠0):∃k,mG s p a k/\k<=s-1:=by
 letI:=eI h
 let x:El s:=⟨a,d⟩
 obtain⟨k,b⟩:=sR ((ko h x).2 e);have:=b.le;rw[kk h]at this;exact⟨k,(oX h x k).2 b,this⟩
def KE (s p g:Nat):Prop:=1<=g/\g<s/\mG s p g (s-1)/\∀x,1<=x->x<g->¬mG s p x (s-1)
theorem Di:∃g,KE s p g:=by
 letI:=eI h
 obtain⟨x,a⟩:=MM (K:=El s);rw[kk h]at a;have l:=(ko h x).1 a.ne;obtain⟨g,⟨b,d,e⟩,f⟩:=exists_least (P:=λg=>1<=g/\g<s/\mG s p g (s-1)) ⟨x.val,by omega,x.lt,(oX h x _).2 a⟩;exact⟨g,b,d,e,λy i k j=>f y k ⟨i,by omega,j⟩⟩
end
noncomputable def tJ (s p a:Nat):Nat:=@dite Nat (∃k,mG s p a k) (Classical.propDecidable _) (λh=>Classical.choose h) (λ_=>0)
theorem Ew {s p a k:Nat} (h:mG s p a k):tJ s p a=k:=by
 have b:∃k,mG s p a k:=⟨k,h⟩;unfold tJ;rw[dif_pos b];exact(Classical.choose_spec b).unique h
theorem zG {c s p a:Nat} (h:VF c s p) (d:a<s) (e:a≠0):mG s p a (tJ s p a)/\tJ s p a<=s-1:=by
 obtain⟨k,b,f⟩:=C6 h a d e;rw[Ew b];exact⟨b,f⟩
noncomputable def ay (s p:Nat):Nat:=@dite Nat (∃k,KE s p k) (Classical.propDecidable _) (λh=>Classical.choose h) (λ_=>0)
theorem j7 {c s p:Nat} (h:VF c s p):KE s p (ay s p):=by
 have a:=Di h;unfold ay;rw[dif_pos a];exact Classical.choose_spec a
theorem Ls {c s p:Nat} (h:VF c s p) {i j:Nat} (a:i<s-1) (b:j<s-1) (e:fpowN s p (ay s p) i=fpowN s p (ay s p) j):i=j:=by
 have hg:=j7 h
 letI:=eI h
 let x:El s:=⟨ay s p,hg.2.1⟩
 have d:du x (s-1):=(oX h x _).1 hg.2.2.1;refine d.inj a b ?_;have e2:(x^i).val=(x^j).val:=by rw[<-fV h,<-fV h];exact e
 exact El.ext e2
theorem JS {c s p:Nat} (h:VF c s p) {a:Nat} (g:a<s) (k:a≠0):∃j,j<s-1/\fpowN s p (ay s p) j=a:=by
 have hg:=j7 h
 letI:=eI h
 let x:El s:=⟨ay s p,hg.2.1⟩
 have f:du x (s-1):=(oX h x _).1 hg.2.2.1
 let l:List (El s):=(List.range (s-1)).map λj=>x^j
 have hn:l.Nodup:=nv (λi m j b e=>f.inj (List.mem_range.1 m) (List.mem_range.1 b) e) List.nodup_range;have q:∀y∈l,y∈ke (El s):=by
  intro y d;obtain⟨j,_,rfl⟩:=List.mem_map.1 d;exact iK.2 (lG f.ne j)
 have r:(ke (El s)).length<=l.length:=by
  have n:=mu (K:=El s);rw[kk h]at n;simp[l];omega
 have o:=qH hn q r
 let y:El s:=⟨a,g⟩
 have d:y∈l:=o.mem_iff.2 (iK.2 ((ko h y).2 k));obtain⟨j,b,e⟩:=List.mem_map.1 d;exact⟨j,List.mem_range.1 b,by rw[show ay s p=x.val from rfl,fV h];exact congrArg El.val e⟩
noncomputable def eo (s p a:Nat):Nat:=@dite Nat (∃j,j<s-1/\fpowN s p (ay s p) j=a) (Classical.propDecidable _) (λh=>Classical.choose h) (λ_=>0)
theorem dY {c s p a:Nat} (h:VF c s p) (d:a<s) (e:a≠0):eo s p a<s-1/\fpowN s p (ay s p) (eo s p a)=a:=by
 have b:=JS h d e;unfold eo;rw[dif_pos b];exact Classical.choose_spec b
theorem Mg {c s p a j:Nat} (h:VF c s p) (d:a<s) (f:a≠0) (g:j<s-1) (e:fpowN s p (ay s p) j=a):eo s p a=j:=by
 have b:=dY h d f;exact Ls h b.1 g (b.2.trans e.symm)
def cF (s p a b:Nat):Nat:=if p=0 then(a+s-b)%s else a^^^b
def dP (s p a:Nat):Nat:=fpowN s p a (s-2)
section
variable {c s p : Nat} (h : VF c s p)
include h
theorem zp (x y:El s):cF s p x.val y.val=(letI:=eI h;(x-y:El s).val):=by
 show cF s p x.val y.val=bN s p x.val (uh s p y.val);unfold cF bN uh;split
 ·rw[Nat.add_mod_mod];have:=y.lt;rw[show x.val+s-y.val=x.val+(s-y.val)from by omega]
 ·rfl
theorem Gn {x y:Nat} (a:x<s) (b:y<s):bN s p x y=bN s p y x:=by
 letI:=eI h
 exact congrArg El.val (eU (⟨x,a⟩:El s) ⟨y,b⟩)
theorem tI {x:Nat} (a:x<s):bN s p x 0=x:=by
 letI:=eI h
 exact congrArg El.val (aU (⟨x,a⟩:El s))
theorem E2 {x y z:Nat} (a:x<s) (b:y<s) (d:z<s):aG s p (aG s p x y) z=aG s p x (aG s p y z):=by
 letI:=eI h
 exact congrArg El.val (cX (⟨x,a⟩:El s) ⟨y,b⟩ ⟨z,d⟩)
theorem GP {x y:Nat} (a:x<s) (b:y<s):aG s p x y=aG s p y x:=by
 letI:=eI h
 exact congrArg El.val (bX (⟨x,a⟩:El s) ⟨y,b⟩)
theorem pP {x:Nat} (a:x<s):aG s p x 0=0:=by
 letI:=eI h
 exact congrArg El.val (aT (⟨x,a⟩:El s))
theorem om {x y:Nat} (a:x<s) (b:y<s):cF s p x y<s:=by
 letI:=eI h
 have e:cF s p x y=_:=zp h ⟨x,a⟩ ⟨y,b⟩;rw[e];exact El.lt _
theorem mN {x:Nat}:dP s p x<s:=vV h _ _
theorem Bg {x:Nat} (b:x<s) (d:x≠0):aG s p x (dP s p x)=1:=by
 letI:=eI h
 let a:El s:=⟨x,b⟩
 have hc:im (El s)=s:=kk h;have e:dP s p x=(eG a).val:=by
  show fpowN s p a.val (s-2)=(a^(im (El s)-2)).val;rw[hc];exact fV h a _
 rw[e];exact congrArg El.val (gu ((ko h a).2 d))
theorem Cu {x k:Nat} (b:x<s) (d:fpowN s p x k=1) (n:Nat):fpowN s p x n=fpowN s p x (n%k):=by
 letI:=eI h
 let a:El s:=⟨x,b⟩
 have e1:a^k=1:=(iy h a k).1 d;have e2:=vz e1 n;rw[show x=a.val from rfl,fV h a n,fV h a (n%k)];exact congrArg El.val e2
theorem uI {x:Nat} (b:x<s) (d:x≠0):fpowN s p x (s-1)=1:=by
 letI:=eI h
 let a:El s:=⟨x,b⟩
 have hc:im (El s)=s:=kk h;refine(iy h a _).2 ?_;have:=xa ((ko h a).2 d);rw[hc]at this;exact this
theorem vY {x:Nat} (b:x<s) (m n:Nat):fpowN s p x (m+n)=aG s p (fpowN s p x m) (fpowN s p x n):=by
 letI:=eI h
 let a:El s:=⟨x,b⟩
 have:=congrArg El.val (j5 a m n);rw[<-fV]at this;rw[show x=a.val from rfl,this,fV h a m,fV h a n];rfl
theorem eC {x:Nat} (n:Nat):fpowN s p x n<s:=vV h _ _
end
noncomputable def J5 (s p:Nat):List Nat:=(List.range (s-1)).map (fpowN s p (ay s p))
noncomputable def kP (s p n:Nat):List Nat:=(List.range s).map λx=>if x=0 then 0 else if eo s p x<n then eo s p x else 0
noncomputable def jC (s p n:Nat):List Nat:=(List.range (s-1)).map λi=>if i<n then fpowN s p (ay s p) i else 0
theorem bp (f:Nat->Nat) (n i:Nat) (a:i<n):((List.range n).map f).getD i 0=f i:=by
 simp[List.getD,a]
theorem fB (f:Nat->Nat) (n i v:Nat) (a:i<n):((List.range n).map f).set i v=(List.range n).map (λk=>if k=i then v else f k):=by
 apply List.ext_getElem
 ·simp
 ·intro k b d;simp only[List.getElem_set,List.getElem_map,List.getElem_range];by_cases h:i=k
  ·subst h;simp
  ·rw[if_neg h,if_neg (λe=>h e.symm)]
section
variable {c s p : Nat} (h : VF c s p)
include h
theorem kG:ay s p<s:=(j7 h).2.1
theorem CT:ay s p≠0:=by have:=(j7 h).1;omega
theorem xC (n:Nat):fpowN s p (ay s p) n≠0:=by
 letI:=eI h
 let a:El s:=⟨ay s p,kG h⟩
 have:a^n≠0:=lG ((ko h a).2 (CT h)) n;intro e;apply this;apply El.ext;rw[<-fV h a n];exact e
theorem IV {n:Nat} (hn:n<s-1):eo s p (fpowN s p (ay s p) n)=n:=
 Mg h (eC h n) (xC h n) hn rfl
theorem zD {n:Nat} (hn:n<s-1):(jC s p n).set n (fpowN s p (ay s p) n)=jC s p (n+1):=by
 unfold jC;rw[fB _ _ _ _ hn];apply List.map_congr_left;intro k b;by_cases e:k=n
 ·subst e;simp
 ·rw[if_neg e];by_cases a:k<n
  ·rw[if_pos a,if_pos oO]
  ·rw[if_neg a,if_neg oO]
theorem B6 {n:Nat} (hn:n<s-1):(kP s p n).set (fpowN s p (ay s p) n) n=kP s p (n+1):=by
 unfold kP;rw[fB _ _ _ _ (eC h n)];apply List.map_congr_left;intro k d;have f:k<s:=List.mem_range.1 d;by_cases e:k=fpowN s p (ay s p) n
 ·rw[if_pos e,e,if_neg (xC h n),IV h hn,if_pos oO]
 ·rw[if_neg e];by_cases a:k=0
  ·rw[if_pos a,if_pos a]
  ·rw[if_neg a,if_neg a];have hl:eo s p k≠n:=by
    intro e2;apply e;have:=(dY h f a).2;rw[e2]at this;exact this.symm
   by_cases b:eo s p k<n
   ·rw[if_pos b,if_pos oO]
   ·rw[if_neg b,if_neg oO]
theorem xB:jC s p 0=List.replicate (s-1) 0:=by
 unfold jC;apply List.ext_getElem<;>simp
theorem zH:kP s p 0=List.replicate s 0:=by
 unfold kP;apply List.ext_getElem<;>simp
theorem xT:jC s p (s-1)=J5 s p:=by
 unfold jC J5;apply List.map_congr_left;intro k a;rw[if_pos (List.mem_range.1 a)]
theorem BN {i:Nat} (a:i<s-1):(J5 s p).getD i 0=fpowN s p (ay s p) i:=bp _ _ _ a
theorem Bb {x:Nat} (a:x<s) (b:x≠0):(kP s p (s-1)).getD x 0=eo s p x:=by
 rw[show(kP s p (s-1)).getD x 0=_ from bp _ _ _ a];rw[if_neg b,if_pos (dY h a b).1]
theorem DX {x y:Nat} (a:x<s) (b:y<s) (d:x≠0) (e:y≠0):fpowN s p (ay s p) ((eo s p x+eo s p y)%(s-1))=aG s p x y:=by
 rw[<-Cu h (kG h) (uI h (kG h) (CT h)),vY h (kG h),(dY h a d).2,(dY h b e).2]
theorem D3 {x y:Nat} (e:x<s) (d:y<s) (i:x≠0) (g:y≠0):fpowN s p (ay s p) ((eo s p x+(s-1)-eo s p y)%(s-1))=aG s p x (dP s p y):=by
 have f:=uI h (kG h) (CT h);have a:=dY h e i;have b:=dY h d g;rw[<-Cu h (kG h) f];generalize j:eo s p x+(s-1)-eo s p y=k;have e1:aG s p (fpowN s p (ay s p) k) y=x:=by
  have:fpowN s p (ay s p) (k+eo s p y)=fpowN s p (ay s p) (eo s p x+(s-1)):=by congr 1;omega
  rw[vY h (kG h),vY h (kG h),a.2,b.2,f,BH h _ e]at this;exact this
 have e2:aG s p (aG s p (fpowN s p (ay s p) k) y) (dP s p y)=aG s p x (dP s p y):=by rw[e1]
 rw[E2 h (eC h k) d (mN h),Bg h d g,BH h _ (eC h k)]at e2;exact e2
theorem NH {x:Nat} (a:x<s):bN s p 0 x=x:=by rw[Gn h (by have:=h.aP;omega) a,tI h a]
theorem pS {x:Nat} (a:x<s):aG s p 0 x=0:=by rw[GP h (by have:=h.aP;omega) a,pP h a]
end
def tl (l:List Nat):Nat->Nat
 |0=>0
 |n+1=>if l.getD n 0=0 then tl l n else n+1
theorem KX (l:List Nat) (n:Nat):tl l n<=n:=by
 induction n with
 |zero=>exact Nat.le_refl _
 |succ n a=>unfold tl;split<;>omega
theorem LJ (l:List Nat) (n i:Nat) (a:tl l n<=i) (f:i<n):l.getD i 0=0:=by
 induction n with
 |zero=>omega
 |succ n b=>
  unfold tl at a;split at a
  ·rename_i d
   by_cases e:i=n
   ·rw[e];exact d
   ·exact b a oO
  ·omega
theorem LX (l:List Nat) (n:Nat) (h:tl l n≠0):l.getD (tl l n-1) 0≠0:=by
 induction n with
 |zero=>exact absurd rfl h
 |succ n b=>
  unfold tl at h⊢;split
  ·rename_i a
   rw[if_pos a]at h;exact b h
  ·rename_i a
   simpa using a
def dX (l:List Nat):List Nat:=l.take (tl l l.length)
def dA (l:List Nat):Prop:=l=[]\/l.getD (l.length-1) 0≠0
theorem mi (l:List Nat):(dX l).length=tl l l.length:=by
 unfold dX;rw[List.length_take];have:=KX l l.length;omega
theorem getD_take (l:List Nat) (n i:Nat):(l.take n).getD i 0=if i<n then l.getD i 0 else 0:=by
 simp only[List.getD,List.getElem?_take];split<;>simp
theorem rC (l:List Nat) (i:Nat):(dX l).getD i 0=l.getD i 0:=by
 unfold dX;rw[getD_take];split
 ·rfl
 ·rename_i b
  by_cases a:i<l.length
  ·exact(LJ l _ i oO a).symm
  ·rw[List.getD,List.getElem?_eq_none oO];rfl
theorem kH (l:List Nat):dA (dX l):=by
 by_cases h:tl l l.length=0
 ·left;unfold dX;rw[h];rfl
 ·right;rw[rC,mi];exact LX l _ h
def mh (s p:Nat) (f:Nat->Nat):Nat->Nat
 |0=>0
 |n+1=>bN s p (mh s p f n) (f n)
def gd (s p:Nat) (a b:List Nat) (n k:Nat):Nat:=if k<=n then aG s p (a.getD k 0) (b.getD (n-k) 0)else 0
def yx (s p:Nat) (a b:List Nat) (i j n:Nat):Nat:=
 if i<=n/\n-i<j then bN s p (mh s p (gd s p a b n) i) (aG s p (a.getD i 0) (b.getD (n-i) 0))else mh s p (gd s p a b n) i
def ao (s:Nat) (l:List Nat):Prop:=∀i,l.getD i 0<s
section
variable {c s p : Nat} (h : VF c s p)
include h
theorem tY (f:Nat->Nat) (a:∀k,f k<s) (n:Nat):mh s p f n<s:=by
 induction n with
 |zero=>have:=h.aP;unfold mh;omega
 |succ n b=>exact ki h _ _ b (a n)
theorem o5 (a b:List Nat) (n k:Nat):gd s p a b n k<s:=by
 unfold gd;split
 ·exact bL h _ _
 ·have:=h.aP;omega
theorem tt (a b:List Nat) (i n:Nat):yx s p a b i 0 n=mh s p (gd s p a b n) i:=by
 unfold yx;rw[if_neg oO]
end
section
open Go.RowKit
theorem cS {k:IntKind} {a b:Int} (h:a=b):Ending.returned (.int k a)= .returned (.int k b):=by rw[h]
theorem bM {a b:Bool} (h:a=b):Ending.returned (.bool a)= .returned (.bool b):=by rw[h]
theorem Kh (P:Nat) (h:bl P<=40):P<2^40:=(bB _ _).1 h
theorem JC (P q:Nat) (a:bl P<=40) (f:0<q) (g:bl q<=bl P):
 bits BinOp.xor IntKind.i64 (↑P) (wrap64 (↑q* 2^(bl P-1-(bl q-1))))=((kf P q:Nat):Int):=by
 have b:=ia q oO;rw[show bl P-1-(bl q-1)=bl P-bl q from by omega];have c:=Bj q (bl P-bl q) oO;have d:=Kh (q* 2^(bl P-bl q)) oO;have e:=Kh P a;rw[show((q:Int)* 2^(bl P-bl q))=((q* 2^(bl P-bl q):Nat):Int)from by simp];rw[IntWalk.wrap64_in _ oO,iQ _ _ oO oO];rfl
theorem FY (P q:Nat) (c:0<q):cmod (kf P q) q=cmod P q:=by
 refine(jJ _ _ _ ?_ (lj _ _ oO)).symm;have b:=j8 P q;have a:=mC b (⟨2^(bl P-bl q),(Bs q _).symm⟩:gn q (q* 2^(bl P-bl q)));rw[show P^^^cmod P q^^^q* 2^(bl P-bl q)=(P^^^q* 2^(bl P-bl q))^^^cmod P q from by ac_rfl]at a;exact a
theorem LF (p q:Nat) (w:World) (f:p<2^40) (c:0<q) (hq:q<2^40):
 Calls Tryz.prog 220 #[.int .i64 p,.int .i64 q] w λe w'=>e= .returned (.int .i64 (cmod p q))/\w=w':=by
 have g:bl p<=40:=(bB _ _).2 f;have j:bl q<=40:=(bB _ _).2 hq;have k:0<bl q:=ia q oO;have l:(p:Int)<=9223372036854775807:=oO;have m:(q:Int)<=9223372036854775807:=oO;go_enter Tryz.func220,Tryz.ntmps220;go_wp2_with fail
 go_loop [0] (λa=>∃P:Nat,bl P<=40/\a= .int .i64 P/\Hid (cmod P q=cmod p q)) (λa=>bl (intOf a).toNat)
 case atStart=>exact⟨p,g,rfl,rfl⟩
 case round=>
  obtain⟨P,b,rfl,hid⟩:=hrel;have n:(P:Int)<=9223372036854775807:=by
   have:=Kh P b;omega
  by_cases d:bl q<=bl P
  ·have i:=Cm P q oO d;go_wp2_with(go_at_call 188;refine(eP _ _ oO oO).mono ?_;rintro e w' ⟨rfl,rfl⟩)
   rw[JC P q b c d];refine⟨⟨kf P q,by omega,rfl,?_⟩,i⟩;show cmod _ _=_;rw[FY P q c];exact hid.out
  ·go_wp2_with(go_at_call 188;refine(eP _ _ oO oO).mono ?_;rintro e w' ⟨rfl,rfl⟩)
   go_ret;exact⟨cS (by rw[<-hid.out,kl P q oO]),rfl⟩
theorem D8 (p q:Int) (w:World) (a:0<=p) (c:p<1099511627776) (b:0<q) (hq:q<1099511627776):
 Calls Tryz.prog 220 #[.int .i64 p,.int .i64 q] w λe w'=>e= .returned (.int .i64 (cmod p.toNat q.toNat))/\w=w':=by
 obtain⟨P,rfl⟩:=Int.eq_ofNat_of_zero_le a;obtain⟨Q,rfl⟩:=Int.eq_ofNat_of_zero_le (Int.le_of_lt b);exact LF P Q w oO oO oO
theorem EN (q:Nat):bl (q+1)<=bl q+1:=by
 have:=ze q;exact(bB _ _).2 (by rw[Nat.pow_succ];have:=Nat.two_pow_pos (bl q);omega)
theorem LH (p:Nat) (w:World) (u:0<p) (j:bl p<=13):
 Calls Tryz.prog 189 #[.int .i64 p] w λe w'=>e= .returned (.bool (oG p))/\w=w':=by
 have s:p<2^13:=(bB _ _).1 j;have v:=ia p oO;have x:(p:Int)<=9223372036854775807:=oO;have t:(p:Int)<1099511627776:=oO;go_enter Tryz.func189,Tryz.ntmps189;go_wp2_with fail
 go_loop [3] (λd=>∃q:Nat,2<=q/\bl q<=8/\d= .int .i64 q/\Hid (∀r,2<=r->r<q->cmod p r≠0)) (λd=>300-(intOf d).toNat)
 case atStart=>exact⟨2,by omega,by decide,rfl,λr c g=>by omega⟩
 case round=>
  obtain⟨q,i,hq,rfl,hid⟩:=hrel;have l:q<2^8:=(bB _ _).1 hq;have A:(q:Int)<256:=oO;have y:2<=bl q:=by
   have:=uu 2 q i;have e:bl 2=2:=by decide
   omega
  by_cases m:2* ((bl q:Int)-1)<=(bl p:Int)-1
  ·by_cases a:cmod p q=0
   ·have n:(((cmod p q:Nat):Int)==0)=true:=by rw[a];rfl
    have o:=Lib.hid a;clear a;have b:oG p=false:=by
     rw[Bool.eq_false_iff];intro h;exact(wk p).1 h q i oO o.out
    have f:=Lib.hid b;clear b;go_wp2_with(first|(go_at_call 188;refine(eP _ _ oO oO).mono ?_;rintro e w' ⟨rfl,rfl⟩)|(go_at_call 220;refine(D8 _ _ _ oO oO oO oO).mono ?_;rintro e w' ⟨rfl,rfl⟩))
    go_ret;exact⟨bM f.out.symm,rfl⟩
   ·have n:(((cmod p q:Nat):Int)==0)=false:=by simpa using a
    have z:=EN q;go_wp2_with(first|(go_at_call 188;refine(eP _ _ oO oO).mono ?_;rintro e w' ⟨rfl,rfl⟩)|(go_at_call 220;refine(D8 _ _ _ oO oO oO oO).mono ?_;rintro e w' ⟨rfl,rfl⟩))
    refine⟨⟨q+1,by omega,by omega,by go_num,?_⟩,by simp[intOf];omega⟩;intro r c g;by_cases k:r=q
    ·subst k;exact a
    ·exact hid.out r c oO
  ·have b:oG p=true:=by
    rw[wk];intro r c g;refine hid.out r c ?_;have:bl r<bl q:=oO;exact vg _ _ this
   have f:=Lib.hid b;clear b;have B:bl p+2<=2* bl q:=oO;clear m hid l s t;go_wp2_with(first|(go_at_call 188;refine(eP _ _ oO oO).mono ?_;rintro e w' ⟨rfl,rfl⟩))
   go_ret;exact⟨bM f.out.symm,rfl⟩
theorem yb (p:Int) (w:World) (b:0<p) (a:bl p.toNat<=13):
 Calls Tryz.prog 189 #[.int .i64 p] w λe w'=>e= .returned (.bool (oG p.toNat))/\w=w':=by
 obtain⟨P,rfl⟩:=Int.eq_ofNat_of_zero_le (Int.le_of_lt b);exact LH P w oO a
theorem Hd (n:Nat) (w:World) (hn:2<=n) (t:n<=4096):
 Calls Tryz.prog 187 #[.int .i64 n] w λe w'=>e= .returned (.bool (kE n))/\w=w':=by
 go_enter Tryz.func187,Tryz.ntmps187;go_wp2_with fail
 go_loop [3] (λf=>∃d:Nat,2<=d/\d<=65/\f= .int .i64 d/\Hid (∀r,2<=r->r<d->n%r≠0)) (λf=>100-(intOf f).toNat)
 case atStart=>exact⟨2,by omega,by decide,rfl,λr b i=>by omega⟩
 case round=>
  obtain⟨d,q,j,rfl,hid⟩:=hrel;have u:d* d<=65* 65:=Nat.mul_le_mul j j;have x:(0:Int)<=(d:Int)* d:=by
   have:(0:Int)<=((d* d:Nat):Int):=oO;simpa using this
  have y:(d:Int)* d<=4225:=by
   have:((d* d:Nat):Int)<=4225:=oO;simpa using this
  by_cases k:d* d<=n
  ·have l:(d:Int)* d<=n:=by
    have:((d* d:Nat):Int)<=n:=oO;simpa using this
   have v:d<=64:=by
    rcases Nat.lt_or_ge d 65 with h|h
    ·omega
    ·have:=Nat.mul_le_mul h h;omega
   clear k;by_cases c:n%d=0
   ·have s:(((n:Int)%(d:Int))==0)=true:=by
     have:((n%d:Nat):Int)=0:=oO;simpa using this
    have a:kE n=false:=by
     rw[Bool.eq_false_iff];intro h;have m:d* d<=n:=by
      have:((d* d:Nat):Int)<=n:=by simpa using l
      omega
     exact((rA n).1 h).2 d q m c
    have g:=Lib.hid a;clear a;clear c;go_wp2;go_ret;exact⟨bM g.out.symm,rfl⟩
   ·have s:(((n:Int)%(d:Int))==0)=false:=by
     have:((n%d:Nat):Int)≠0:=oO;simpa using this
    have o:=Lib.hid c;clear c;go_wp2;refine⟨⟨d+1,by omega,by omega,by go_num,?_⟩,by simp[intOf];omega⟩;intro r b i;by_cases p:r=d
    ·subst p;exact o.out
    ·exact hid.out r b oO
  ·have l:¬(d:Int)* d<=n:=by
    have:¬((d* d:Nat):Int)<=n:=oO;simpa using this
   have a:kE n=true:=by
    rw[rA];refine⟨hn,λr b i=>hid.out r b ?_⟩;rcases Nat.lt_or_ge r d with h|h
    ·exact h
    ·have:=Nat.mul_le_mul h h;omega
   have g:=Lib.hid a;clear a;clear k;go_wp2;go_ret;exact⟨bM g.out.symm,rfl⟩
theorem Ht (n:Int) (w:World) (hn:2<=n) (a:n<=4096):
 Calls Tryz.prog 187 #[.int .i64 n] w λe w'=>e= .returned (.bool (kE n.toNat))/\w=w':=by
 obtain⟨P,rfl⟩:=Int.eq_ofNat_of_zero_le (by omega:0<=n);exact Hd P w oO oO
def uC (p d:Int):Bool:=decide (0<=p)&&decide ((bl p.toNat:Int)=d+1)&&oG p.toNat
theorem qv {P:Program} {f:FuncId} {args:Array Value} {w:World} {n:Nat} {v:Value}
 (h:Calls P f args (w.drewN n) λe w'=>e= .returned v/\w.drewN n=w'):
 Calls P f args (w.drewN n) λe b=>e= .returned v/\∃m,b=w.drewN m:=
 h.mono λ_ _ a=>⟨a.1,n,a.2.symm⟩
theorem cZ {B:Nat} {a w:World} (h:Below B a w) (n:Nat):Below B a (w.drewN n):=⟨h.os,h.tape,h.output,h.size,h.block⟩
def bK (c s p:Int):Bool:=
 if p=0 then decide (2<s)&&decide (s<=4096)&&decide (c=s)&&kE s.toNat
 else decide (2<=p)&&decide (bl p.toNat<=13)&&decide (c=2)&&decide (s=((2^(bl p.toNat-1):Nat):Int))&&oG p.toNat
abbrev cu (c s p:Int):Value:= .agg #[.int .i64 c,.int .i64 s,.int .i64 p]
theorem JB (c s:Int) (w:World) (h:¬2<s):
 Calls Tryz.prog 149 #[cu c s 0] w λe w'=>e= .returned (.bool (bK c s 0))/\Below w.heap.size w w':=by
 have a:bK c s 0=false:=by unfold bK;simp;omega
 have b:=Lib.hid a;clear a;go_enter Tryz.func149,Tryz.ntmps149;go_wp2;go_ret;exact⟨bM b.out.symm,(Below.refl _ _).alloc (Nat.le_refl _) _⟩
theorem J7 (c s:Int) (w:World) (h:2<s) (f:s<=4096) (b:c=s):
 Calls Tryz.prog 149 #[cu c s 0] w λe w'=>e= .returned (.bool (bK c s 0))/\Below w.heap.size w w':=by
 have a:bK c s 0=kE s.toNat:=by unfold bK;simp;omega
 have d:=Lib.hid a;clear a;subst b;go_enter Tryz.func149,Tryz.ntmps149;go_wp2_with(go_at_call 187;refine(Ht _ _ oO oO).mono ?_;rintro e w' ⟨rfl,rfl⟩)
 go_ret;exact⟨bM d.out.symm,(Below.refl _ _).alloc (Nat.le_refl _) _⟩
theorem Ja (c s:Int) (w:World) (h:2<s) (d:4096<s):
 Calls Tryz.prog 149 #[cu c s 0] w λe w'=>e= .returned (.bool (bK c s 0))/\Below w.heap.size w w':=by
 have a:bK c s 0=false:=by unfold bK;simp;omega
 have b:=Lib.hid a;clear a;go_enter Tryz.func149,Tryz.ntmps149;go_wp2;go_ret;exact⟨bM b.out.symm,(Below.refl _ _).alloc (Nat.le_refl _) _⟩
theorem J3 (c s:Int) (w:World) (h:2<s) (f:s<=4096) (b:(c==s)=false):
 Calls Tryz.prog 149 #[cu c s 0] w λe w'=>e= .returned (.bool (bK c s 0))/\Below w.heap.size w w':=by
 have a:bK c s 0=false:=by unfold bK;have:=ne_of_beq_false b;simp[this]
 have d:=Lib.hid a;clear a;go_enter Tryz.func149,Tryz.ntmps149;go_wp2;go_ret;exact⟨bM d.out.symm,(Below.refl _ _).alloc (Nat.le_refl _) _⟩
theorem Ld (c s:Int) (w:World):
 Calls Tryz.prog 149 #[cu c s 0] w λe w'=>e= .returned (.bool (bK c s 0))/\Below w.heap.size w w':=by
 by_cases h:2<s
 ·by_cases a:s<=4096
  ·by_cases b:c=s
   ·exact J7 c s w h a b
   ·exact J3 c s w h a (beq_false_of_ne b)
  ·exact Ja c s w h oO
 ·exact JB c s w h
theorem IK (c s p:Int) (w:World) (d:(p==0)=false) (h:p<2):
 Calls Tryz.prog 149 #[cu c s p] w λe w'=>e= .returned (.bool (bK c s p))/\Below w.heap.size w w':=by
 have a:bK c s p=false:=by unfold bK;have:=ne_of_beq_false d;rw[if_neg this];simp;omega
 have b:=Lib.hid a;clear a;go_enter Tryz.func149,Tryz.ntmps149;go_wp2;go_ret;exact⟨bM b.out.symm,(Below.refl _ _).alloc (Nat.le_refl _) _⟩
theorem Ky (c s p:Int) (w:World) (d:(p==0)=false) (h:2<=p) (f:p<=9223372036854775807) (g:13<bl p.toNat):
 Calls Tryz.prog 149 #[cu c s p] w λe w'=>e= .returned (.bool (bK c s p))/\Below w.heap.size w w':=by
 have a:bK c s p=false:=by unfold bK;have:=ne_of_beq_false d;rw[if_neg this];simp;omega
 have b:=Lib.hid a;clear a;go_enter Tryz.func149,Tryz.ntmps149;go_wp2_with(go_at_call 188;refine(eP _ _ oO oO).mono ?_;rintro e w' ⟨rfl,rfl⟩)
 go_ret;exact⟨bM b.out.symm,(Below.refl _ _).alloc (Nat.le_refl _) _⟩
abbrev K1 (p:Int):Int:=IntKind.i64.wrap (2^(bl p.toNat-1))
theorem Hk (p:Int) (a:bl p.toNat<=13):K1 p=((2^(bl p.toNat-1):Nat):Int):=by
 show IntKind.i64.wrap (2^(bl p.toNat-1))=_;have h:=Nat.pow_le_pow_right (n:=2) oO (show bl p.toNat-1<=12 by omega);rw[show((2:Int)^(bl p.toNat-1))=((2^(bl p.toNat-1):Nat):Int)from by simp];generalize 2^(bl p.toNat-1)=N at*;rw[IntKind.wrap_i64];omega
theorem Jg (c s p:Int) (w:World) (g:(p==0)=false) (h:2<=p) (i:p<=9223372036854775807) (b:bl p.toNat<=13) (hb:2<=bl p.toNat)
 (d:(c==2)=false):
 Calls Tryz.prog 149 #[cu c s p] w λe w'=>e= .returned (.bool (bK c s p))/\Below w.heap.size w w':=by
 have a:bK c s p=false:=by unfold bK;have:=ne_of_beq_false g;rw[if_neg this];have:=ne_of_beq_false d;simp[this]
 have f:=Lib.hid a;clear a;go_enter Tryz.func149,Tryz.ntmps149;go_wp2_with(go_at_call 188;refine(eP _ _ oO oO).mono ?_;rintro e w' ⟨rfl,rfl⟩)
 go_quiet ((first|(go_at_call 188;exact qv (eP _ _ oO oO))|(go_at_call 189;exact qv (yb _ _ oO b))))
 go_wp2;go_ret;exact⟨bM f.out.symm,cZ ((Below.refl _ _).alloc (Nat.le_refl _) _) _⟩
theorem KG (s z p:Int) (w:World) (i:(p==0)=false) (h:2<=p) (j:p<=9223372036854775807) (a:bl p.toNat<=13) (hb:2<=bl p.toNat)
 (c:IntKind.i64.wrap (2^(bl p.toNat-1))=z) (d:(s==z)=false):
 Calls Tryz.prog 149 #[cu 2 s p] w λe w'=>e= .returned (.bool (bK 2 s p))/\Below w.heap.size w w':=by
 have b:bK 2 s p=false:=by
  unfold bK;have:=ne_of_beq_false i;rw[if_neg this];rw[<-Hk p a]
  have f:¬s=K1 p:=by rw[show K1 p=z from c];exact ne_of_beq_false d
  simp[f]
 have g:=Lib.hid b;clear b;go_enter Tryz.func149,Tryz.ntmps149;go_wp2_with(go_at_call 188;refine(eP _ _ oO oO).mono ?_;rintro e w' ⟨rfl,rfl⟩)
 go_quiet ((first|(go_at_call 188;exact qv (eP _ _ oO oO))|(go_at_call 189;exact qv (yb _ _ oO a))))
 go_wp2;go_ret;exact⟨bM g.out.symm,cZ ((Below.refl _ _).alloc (Nat.le_refl _) _) _⟩
theorem IU (s p:Int) (w:World) (f:(p==0)=false) (h:2<=p) (g:p<=9223372036854775807) (a:bl p.toNat<=13) (hb:2<=bl p.toNat)
 (c:IntKind.i64.wrap (2^(bl p.toNat-1))=s):
 Calls Tryz.prog 149 #[cu 2 s p] w λe w'=>e= .returned (.bool (bK 2 s p))/\Below w.heap.size w w':=by
 have b:bK 2 s p=oG p.toNat:=by
  rw[<-show K1 p=s from c];unfold bK;have:=ne_of_beq_false f;rw[if_neg this];rw[<-Hk p a]
  simp[h,a]
 have d:=Lib.hid b;clear b;go_enter Tryz.func149,Tryz.ntmps149;go_wp2_with(go_at_call 188;refine(eP _ _ oO oO).mono ?_;rintro e w' ⟨rfl,rfl⟩)
 go_quiet ((first|(go_at_call 188;exact qv (eP _ _ oO oO))|(go_at_call 189;exact qv (yb _ _ oO a))))
 go_wp2;go_ret;exact⟨bM d.out.symm,cZ ((Below.refl _ _).alloc (Nat.le_refl _) _) _⟩
theorem px (p:Int) (h:2<=p):2<=bl p.toNat:=by
 have a:=uu 2 p.toNat oO;have e:bl 2=2:=by decide
 omega
theorem jn (c s p:Int) (w:World) (b:p<=9223372036854775807):
 Calls Tryz.prog 149 #[cu c s p] w λe w'=>e= .returned (.bool (bK c s p))/\Below w.heap.size w w':=by
 by_cases i:p=0
 ·subst i;exact Ld c s w
 have a:=beq_false_of_ne i;by_cases h:2<=p
 ·have hb:=px p h;by_cases d:bl p.toNat<=13
  ·by_cases f:c=2
   ·subst f;by_cases g:s=IntKind.i64.wrap (2^(bl p.toNat-1))
    ·exact IU s p w a h b d hb g.symm
    ·exact KG s _ p w a h b d hb rfl (beq_false_of_ne g)
   ·exact Jg c s p w a h b d hb (beq_false_of_ne f)
  ·exact Ky c s p w a h b oO
 ·exact IK c s p w a oO
theorem xD (n:Nat):bl (2^n)=n+1:=wY _ _ (Nat.le_refl _) (by rw[Nat.pow_succ];have:=Nat.two_pow_pos n;omega)
theorem J4 (s p:Int):bK 2 s p=(decide (2<=bl s.toNat)&&decide (bl s.toNat<=13)&&decide (s=((2^(bl s.toNat-1):Nat):Int))&&uC p ((bl s.toNat:Int)-1)):=by
 unfold bK uC;by_cases f:p=0
 ·subst f;rw[if_pos rfl];have g:bl (0:Int).toNat=0:=rfl;rw[g];by_cases d:2<=bl s.toNat
  ·have b:¬((0:Nat):Int)=(bl s.toNat:Int)-1+1:=oO;rw[decide_eq_false b];have e:¬(2<s/\(2:Int)=s):=oO;by_cases c:2<s
   ·have a:¬(2:Int)=s:=oO;simp[a]
   ·simp[c]
  ·have a:¬2<s:=by
    intro h;have:=px s oO;omega
   simp[d,a]
 ·rw[if_neg f,Bool.eq_iff_iff];simp only[Bool.and_eq_true,decide_eq_true_iff];constructor
  ·rintro⟨⟨⟨⟨d,b⟩,-⟩,c⟩,a⟩;have hb:=px p d;have hs:bl s.toNat=bl p.toNat:=by
    rw[c,Int.toNat_natCast,xD];omega
   rw[hs];exact⟨⟨⟨hb,b⟩,c⟩,⟨by omega,by omega⟩,a⟩
  ·rintro⟨⟨⟨d,b⟩,e⟩,⟨c,a⟩,i⟩;have hs:bl p.toNat=bl s.toNat:=oO;rw[hs];have j:2<=p:=by
    have:=Iu p.toNat oO;rw[hs]at this;have k:2^1<=2^(bl s.toNat-1):=Nat.pow_le_pow_right oO oO;omega
   exact⟨⟨⟨⟨j,b⟩,trivial⟩,e⟩,i⟩
theorem NM (n:Nat) (h:n<=13):wrap64 (2^n)=((2^n:Nat):Int):=by
 have h:=Nat.pow_le_pow_right (n:=2) oO h;rw[show((2:Int)^n)=((2^n:Nat):Int)from by simp];generalize 2^n=N at*;exact IntWalk.wrap64_in _ oO
theorem KK {W c:World} (hb:Below W.heap.size W c):(∀b a,b<W.heap.size->c.cell? ⟨b,a,none⟩=W.cell? ⟨b,a,none⟩)/\(∀b a,b<W.heap.size->c.frozen? ⟨b,a,none⟩=W.frozen? ⟨b,a,none⟩):=
 ⟨λ_ _ h=>hb.cell h,λ_ _ h=>hb.frozen h⟩
def gH (s:Int) (xs:List Int):Bool:=xs.all λa=>decide (0<=a)&&decide (a<s)
theorem Ic (c s p:Int) (xs:Value) (w:World) (f:p<=9223372036854775807) (a:bK c s p=false):
 Calls Tryz.prog 157 #[cu c s p,xs] w λe w'=>e= .returned (.bool false)/\Below w.heap.size w w':=by
 have b:=Lib.hid a;clear a;go_enter Tryz.func157,Tryz.ntmps157;go_wp2_with(go_at_call 149;refine(jn _ _ _ _ oO).mono ?_;rintro e g ⟨rfl,d⟩;rw[b.out])
 go_ret;exact⟨rfl,((Below.refl _ _).alloc (Nat.le_refl _) _).trans (d.mono oS)⟩
theorem JM (c s p:Int) (w:World) (f:p<=9223372036854775807) (a:bK c s p=true):
 Calls Tryz.prog 157 #[cu c s p,.slice none 0 0] w λe w'=>e= .returned (.bool true)/\Below w.heap.size w w':=by
 have b:=Lib.hid a;clear a;go_enter Tryz.func157,Tryz.ntmps157;go_wp2_with(go_at_call 149;refine(jn _ _ _ _ oO).mono ?_;rintro e g ⟨rfl,d⟩;rw[b.out])
 go_loop [6,12] (λ_ i=>i= .int .i64 0) (λ_ _=>0)
 case atStart=>rfl
 case round=>
  subst hrel;go_wp2;go_ret;exact⟨rfl,((Below.refl _ _).alloc (Nat.le_refl _) _).trans (d.mono oS)⟩
theorem L7 (c s p:Int) (xs:List Int) (b:Nat) (w:World) (K:p<=9223372036854775807) (y:bK c s p=true)
 (hn:xs.length<=1000) (H:b<w.heap.size) (B:∀i,i<xs.length->w.cell? ⟨b,i,none⟩=some (.int .i64 (xs.getD i 0))):
 Calls Tryz.prog 157 #[cu c s p,.slice (some ⟨b,0,none⟩) xs.length xs.length] w λe w'=>e= .returned (.bool (gH s xs))/\Below w.heap.size w w':=by
 have D:=Lib.hid y;clear y;have HC:=Lib.hid B;clear B;generalize z:xs.length=n at*;have m:=Lib.hid z;clear z;go_enter Tryz.func157,Tryz.ntmps157;go_wp2_with(go_at_call 149;refine(jn _ _ _ _ oO).mono ?_;rintro e o ⟨rfl,r⟩;rw[D.out])
 obtain⟨t,-⟩:=KK r;have O:o.cell? ⟨w.heap.size,1,none⟩=some (.int .i64 s):=by
  rw[t _ _ oS];go_simp
 have C:∀i,i<n->o.cell? ⟨b,i,none⟩=some (.int .i64 (xs.getD i 0)):=by
  intro i E;rw[t _ _ oT,<-HC.out i E];exact World.cell?_of_block (Below.heap_alloc _ _ _ H)
 have F:=Lib.hid C;clear C HC t;have v:Hid (Below w.heap.size w o):=((Below.refl _ _).alloc (Nat.le_refl _) _).trans (r.mono oS);clear r;go_loop [6,12] (λ_ i=>∃k:Nat,k<=n/\i= .int .i64 k/\Hid (∀j,j<k->0<=xs.getD j 0/\xs.getD j 0<s)) (λ_ i=>n-(intOf i).toNat)
 case atStart=>exact⟨0,Nat.zero_le _,rfl,λj l=>by omega⟩
 case round=>
  obtain⟨k,L,rfl,hid⟩:=hrel;by_cases u:k<n
  ·have P:=F.out k u;generalize A:xs.getD k 0=x at*;have q:=Lib.hid A;clear A;by_cases M:x<0
   ·have d:gH s xs=false:=by
     unfold gH;rw[List.all_eq_false];have g:k<xs.length:=by rw[m.out];exact u
     refine⟨xs[k],List.getElem_mem g,?_⟩;have:xs[k]=x:=by rw[<-q.out];simp[List.getElem?_eq_getElem g]
     rw[this];simp;omega
    have f:=Lib.hid d;clear d;go_wp2;go_ret;exact⟨bM f.out.symm,v.out⟩
   ·by_cases N:s<=x
    ·have d:gH s xs=false:=by
      unfold gH;rw[List.all_eq_false];have g:k<xs.length:=by rw[m.out];exact u
      refine⟨xs[k],List.getElem_mem g,?_⟩;have:xs[k]=x:=by rw[<-q.out];simp[List.getElem?_eq_getElem g]
      rw[this];simp;omega
     have f:=Lib.hid d;clear d;go_wp2;go_ret;exact⟨bM f.out.symm,v.out⟩
    ·go_wp2;refine⟨⟨k+1,by omega,by go_num,?_⟩,by simp[intOf];omega⟩;intro j l;by_cases J:j=k
     ·subst J;rw[q.out];omega
     ·exact hid.out j oO
  ·have d:gH s xs=true:=by
    unfold gH;rw[List.all_eq_true];intro a G;obtain⟨j,l,rfl⟩:=List.getElem_of_mem G;have:=hid.out j (by rw[m.out]at l;omega);rw[List.getD_eq_getElem?_getD,List.getElem?_eq_getElem l]at this;simpa using this
   have f:=Lib.hid d;clear d;obtain rfl:k=n:=oO;go_wp2;go_ret;exact⟨bM f.out.symm,v.out⟩
theorem pI (d p A B S R:Nat) (i:bl p=d+1) (j:bl A<=d) (hB:bl B<=d) (c:bl S<=d) (hid:S^^^cmod (bU A B) p=R) (a:Bool) (e:decide (B%2=1)=a)
 (b:Nat) (f:b=cmod (2* A) p):bl b<=d/\bl (B/2)<=d/\bl (if a then S^^^A else S)<=d/\(if a then S^^^A else S)^^^cmod (bU b (B/2)) p=R:=by
 have g:p≠0:=by intro h;subst h;rw[fy]at i;omega
 refine⟨?_,?_,?_,?_⟩
 ·have:=lj (2* A) p g;rw[f];omega
 ·exact Nat.le_trans (uu _ _ (Nat.div_le_self B 2)) hB
 ·cases a
  ·exact c
  ·exact nG _ _ _ c j
 ·rw[<-hid,GW A B p g,f];cases a
  ·have:¬B%2=1:=by simpa using e
   simp[this]
  ·have:B%2=1:=by simpa using e
   simp only[this,if_true];rw[kl A p oO,Nat.xor_assoc]
theorem Eu {B:Nat} (hB:B<2^62) (h:(bits BinOp.and IntKind.i64 (B:Int) 1==1)=true):decide (B%2=1)=true:=by
 rw[qc B hB]at h;rw[decide_eq_true_iff];exact Int.ofNat.inj (eq_of_beq h)
theorem Gx {B:Nat} (hB:B<2^62) (h:(bits BinOp.and IntKind.i64 (B:Int) 1==1)=false):decide (B%2=1)=false:=by
 rw[qc B hB]at h;rw[decide_eq_false_iff_not];intro e;rw[e]at h;cases h
theorem H6 {d p A:Nat} {s:Nat} (hs:2^d=s) (a:bl p=d+1) (b:bl A<=d) (h:(s:Int)<=(A:Int)* 2) (c:d<=12):
 bits BinOp.xor IntKind.i64 ((A:Int)* 2) (p:Int)=((cmod (2* A) p:Nat):Int):=by
 rw[vu A p d a b,if_pos (by rw[hs];omega)];have e:A<2^12:=(bB _ _).1 oO;have f:p<2^13:=(bB _ _).1 oO;rw[show((A:Int)* 2)=((2* A:Nat):Int)from by omega];exact iQ _ _ oO oO
theorem Hb {d p A:Nat} {s:Nat} (hs:2^d=s) (a:bl p=d+1) (b:bl A<=d) (h:(A:Int)* 2<(s:Int)):
 (A:Int)* 2=((cmod (2* A) p:Nat):Int):=by
 rw[vu A p d a b,if_neg (by rw[hs];omega)];omega
theorem Dh (d s p a b:Nat) (c:Int) (w:World) (t:d<=12) (hs:2^d=s) (u:bl p=d+1) (D:bl a<=d) (hb:bl b<=d) (H:((p:Int)==0)=false):
 Calls Tryz.prog 196 #[cu c s p,.int .i64 a,.int .i64 b] w λe w'=>e= .returned (.int .i64 (cmod (bU a b) p))/\Below w.heap.size w w':=by
 have J:s<=4096:=by rw[<-hs];exact Nat.pow_le_pow_right (n:=2) oO t
 have m:=Lib.hid hs;clear hs;have g:=Lib.hid u;clear u;have l:=Lib.hid t;clear t;go_enter Tryz.func196,Tryz.ntmps196;go_wp2_with fail
 go_loop [1,2,7] (λx y z=>∃A B S:Nat,x= .int .i64 A/\y= .int .i64 B/\z= .int .i64 S/\bl A<=d/\bl B<=d/\bl S<=d/\Hid (S^^^cmod (bU A B) p=cmod (bU a b) p)) (λ_ y _=>(intOf y).toNat)
 case atStart=>exact⟨a,b,0,rfl,rfl,rfl,D,hb,Nat.zero_le _,by show _=_;simp⟩
 case round=>
  obtain⟨A,B,S,rfl,rfl,rfl,i,hB,o,hid⟩:=hrel;have E:A<2^12:=(bB _ _).1 (by have:=l.out;omega);have F:B<2^12:=(bB _ _).1 (by have:=l.out;omega);have G:S<2^12:=(bB _ _).1 (by have:=l.out;omega);have K:A<=4096:=oO;have L:B<=4096:=oO;have v:bits BinOp.xor IntKind.i64 (S:Int) (A:Int)=((S^^^A:Nat):Int):=iQ _ _ oO oO;have C:=Lib.hid v;clear v;have r:Hid (B<2^62):=by show B<2^62;omega
  clear E F G;go_wp2
  ·rename_i q j k
   have f:=pI d p A B S _ g.out i hB o hid.out true (Eu r.out j) _ rfl;rw[C.out,H6 m.out g.out i k l.out];exact⟨⟨_,B/2,_,rfl,by go_num,rfl,f.1,f.2.1,f.2.2.1,f.2.2.2⟩,by simp[intOf];omega⟩
  ·rename_i q j k
   have f:=pI d p A B S _ g.out i hB o hid.out true (Eu r.out j) _ rfl;rw[C.out,Hb m.out g.out i k];exact⟨⟨_,B/2,_,rfl,by go_num,rfl,f.1,f.2.1,f.2.2.1,f.2.2.2⟩,by simp[intOf];omega⟩
  ·rename_i q j k
   have f:=pI d p A B S _ g.out i hB o hid.out false (Gx r.out j) _ rfl;rw[H6 m.out g.out i k l.out];exact⟨⟨_,B/2,_,rfl,by go_num,rfl,f.1,f.2.1,f.2.2.1,f.2.2.2⟩,by simp[intOf];omega⟩
  ·rename_i q j k
   have f:=pI d p A B S _ g.out i hB o hid.out false (Gx r.out j) _ rfl;rw[Hb m.out g.out i k];exact⟨⟨_,B/2,_,rfl,by go_num,rfl,f.1,f.2.1,f.2.2.1,f.2.2.2⟩,by simp[intOf];omega⟩
  ·rename_i q j
   obtain rfl:B=0:=oO;go_ret;refine⟨cS ?_,(Below.refl _ _).alloc (Nat.le_refl _) _⟩;have:=hid.out;have M:=g.out;rw[fX,kl 0 p (by rw[fy];omega),Nat.xor_zero]at this;rw[<-this]
theorem At (s a b:Nat) (c:Int) (w:World) (hs:2<s) (i:s<=4096) (d:a<s) (hb:b<s):
 Calls Tryz.prog 196 #[cu c s 0,.int .i64 a,.int .i64 b] w λe w'=>e= .returned (.int .i64 (a* b%s:Nat))/\Below w.heap.size w w':=by
 have j:a* b<=4096* 4096:=Nat.mul_le_mul oO oO;have f:(0:Int)<=(a:Int)* b:=by
  have:(0:Int)<=((a* b:Nat):Int):=oO;simpa using this
 have g:(a:Int)* b<=16777216:=by
  have:((a* b:Nat):Int)<=16777216:=oO;simpa using this
 go_enter Tryz.func196,Tryz.ntmps196;go_wp2;go_ret;exact⟨cS oS,(Below.refl _ _).alloc (Nat.le_refl _) _⟩
theorem KU {S:Nat} (a d:Nat) (hs:S=2^d) (b:a<S):bl a<=d:=(bB _ _).2 (by rw[<-hs];exact b)
theorem uU (C S P:Nat) (a b:Int) (w:World) (i:VF C S P) (k:0<=a) (n:a<S) (l:0<=b) (hb:b<S):
 Calls Tryz.prog 196 #[cu C S P,.int .i64 a,.int .i64 b] w λe w'=>e= .returned (.int .i64 (aG S P a.toNat b.toNat:Nat))/\Below w.heap.size w w':=by
 obtain⟨A,rfl⟩:=Int.eq_ofNat_of_zero_le k;obtain⟨B,rfl⟩:=Int.eq_ofNat_of_zero_le l;rw[Int.toNat_natCast,Int.toNat_natCast];unfold aG;rcases i with⟨j,hc,f,c,-⟩|⟨d,o,f,g,c,-,-⟩
 ·subst j;rw[if_pos rfl];exact At S A B C w f c oO oO
 ·have m:P≠0:=by intro h;subst h;rw[fy]at g;omega
  rw[if_neg m];exact Dh d S P A B C w f c.symm g (KU A d c oO) (KU B d c oO) (beq_false_of_ne oO)
def ej (w:World) (c s p:Int) (wr:World):Prop:=
 Below w.heap.size w wr/\w.heap.size<wr.heap.size/\wr.cell? ⟨w.heap.size,0,none⟩=some (.int .i64 c)/\wr.cell? ⟨w.heap.size,1,none⟩=some (.int .i64 s)/\wr.cell? ⟨w.heap.size,2,none⟩=some (.int .i64 p)
theorem ej.start (w:World) (c s p:Int) (a:Nat):ej w c s p (w.alloc (.cells #[.int .i64 c,.int .i64 s,.int .i64 p] a)):=by
 refine⟨(Below.refl _ _).alloc (Nat.le_refl _) _,by simp,?_,?_,?_⟩<;>go_simp
theorem ej.step {w wr b:World} {c s p:Int} (h:ej w c s p wr) (hb:Below wr.heap.size wr b):ej w c s p b:=by
 obtain⟨d,a,e,f,g⟩:=h;exact⟨d.trans (hb.mono oO),Nat.lt_of_lt_of_le a hb.size,(hb.cell a).trans e,(hb.cell a).trans f,(hb.cell a).trans g⟩
theorem ej.drew {w wr:World} {c s p:Int} (h:ej w c s p wr):ej w c s p wr.drew:=⟨h.1.drew,h.2.1,h.2.2.1,h.2.2.2.1,h.2.2.2.2⟩
theorem ej.below {w wr:World} {c s p:Int} (h:ej w c s p wr):Below w.heap.size w wr:=h.1
theorem G9 (C S P a k:Nat) (w:World) (b:VF C S P) (l:a<S) (c:mG S P a k) (B:k<=4096):
 Calls Tryz.prog 221 #[cu C S P,.int .i64 a] w λe w'=>e= .returned (.int .i64 k)/\Below w.heap.size w w':=by
 have u:=b.le;have D:=b.aP;have d:=Lib.hid b;clear b;have E:=c.1;have m:=Lib.hid c;clear c;go_enter Tryz.func221,Tryz.ntmps221;go_wp2_with fail
 go_loopw [5,6] (λy x wr=>∃j X:Nat,y= .int .i64 j/\x= .int .i64 X/\1<=j/\j<=k/\X<S/\Hid (X=fpowN S P a j)/\ej w C S P wr) (λy _ _=>k-(intOf y).toNat)
 case atStart=>exact⟨1,a,rfl,rfl,by omega,by omega,l,(Kt d.out a l).symm,ej.start w C S P _⟩
 case round=>
  obtain⟨j,X,rfl,rfl,q,v,z,hid,g⟩:=hrel;obtain⟨n,F,G,H,J⟩:=id g;have r:=Lib.hid g;clear g;have s:=Lib.hid n;clear n;by_cases f:X=1
  ·subst f;have i:j=k:=by
    by_cases h:j<k
    ·exact absurd hid.out.symm (m.out.2.2 j q h)
    ·omega
   have o:=Lib.hid i;clear i;go_wp2_with fail
   go_ret;exact⟨cS (by rw[o.out]),s.out⟩
  ·have i:j<k:=by
    rcases Nat.lt_or_ge j k with h|h
    ·exact h
    ·exfalso;apply f;have:j=k:=oO;subst this;rw[hid.out];exact m.out.2.1
   have K:(((X:Nat):Int)!=1)=true:=by rw[bne_iff_ne];omega
   have p:Hid (aG S P X a=fpowN S P a (j+1)):=by show _=aG S P (fpowN S P a j) a;rw[<-hid.out]
   clear f hid;go_wp2_with(go_at_call 196;refine(uU C S P _ _ _ d.out oO oO oO oO).mono ?_;rintro e A ⟨rfl,t⟩)
   exact⟨⟨j+1,aG S P X a,by go_num,rfl,by omega,by omega,bL d.out _ _,p.out,r.out.step t⟩,by simp[intOf];omega⟩
theorem zd (C S P:Nat) (a:Int) (w:World) (b:VF C S P) (d:0<a) (f:a<S):
 Calls Tryz.prog 221 #[cu C S P,.int .i64 a] w λe w'=>e= .returned (.int .i64 (tJ S P a.toNat:Nat))/\Below w.heap.size w w':=by
 obtain⟨A,rfl⟩:=Int.eq_ofNat_of_zero_le (Int.le_of_lt d);have c:=zG b (a:=A) oO oO;have:=b.le;rw[Int.toNat_natCast];exact G9 C S P A _ w b oO c.1 (by have:=c.2;omega)
theorem uB {w:World} {c s p:Int} {wr:World} (h:ej w c s p wr):(wr.cell? ⟨w.heap.size,0,none⟩=some (.int .i64 c)/\wr.cell? ⟨w.heap.size,1,none⟩=some (.int .i64 s)/\wr.cell? ⟨w.heap.size,2,none⟩=some (.int .i64 p))/\ej w c s p wr:=⟨h.2.2,h⟩
theorem Ah (C S P:Nat) (w:World) (b:VF C S P):
 Calls Tryz.prog 195 #[cu C S P] w λe w'=>e= .returned (.int .i64 (ay S P:Nat))/\Below w.heap.size w w':=by
 have v:=b.le;have z:=b.aP;have hg:=j7 b;have A:=hg.1;have m:=hg.2.1;have c:=Lib.hid b;clear b;have k:=Lib.hid hg;clear hg;go_enter Tryz.func195,Tryz.ntmps195;go_wp2_with fail
 go_loopw [3] (λx wr=>∃X:Nat,x= .int .i64 X/\1<=X/\X<=ay S P/\ej w C S P wr) (λx _=>ay S P-(intOf x).toNat)
 case atStart=>exact⟨1,rfl,by omega,by omega,ej.start w C S P _⟩
 case round=>
  obtain⟨X,rfl,r,y,d⟩:=hrel;obtain⟨n,B,D,E,F⟩:=id d;have o:=Lib.hid d;clear d;have G:=Lib.hid n;clear n;have H:X<S:=oO;have f:=Lib.hid m;clear m;by_cases s:X<ay S P
  ·have t:(((tJ S P X:Nat):Int)!=(S:Int)-1)=true:=by
    rw[bne_iff_ne];intro e;have l:=zG c.out (a:=X) (by have:=f.out;omega) oO;have e2:tJ S P X=S-1:=oO;rw[e2]at l;exact k.out.2.2.2 X r s l.1
   have g:IntKind.i64.wrap ((S:Int)-1)=(S:Int)-1:=IntWalk.i64_in _ oO;go_wp2_with fail
   go_region_held3 (λw'=>(w'.cell? ⟨w.heap.size,0,none⟩=some (.int .i64 C)/\w'.cell? ⟨w.heap.size,1,none⟩=some (.int .i64 S)/\w'.cell? ⟨w.heap.size,2,none⟩=some (.int .i64 P))/\ej w C S P w') (first|exact uB (ej.drew o.out)|exact uB (by assumption)) (first|(go_at_call 221;refine(zd C S P _ _ c.out oO (by have:=f.out;omega)).mono ?_;rintro e p ⟨rfl,i⟩;have u:=ej.step (And.right (by assumption)) i))
   all_goals clear g
   all_goals go_wp2
   all_goals exact⟨⟨X+1,by go_num,by omega,by omega,And.right (by assumption)⟩,by simp[intOf];omega⟩
  ·have j:X=ay S P:=oO;have t:(((tJ S P X:Nat):Int)!=(S:Int)-1)=false:=by
    rw[j,Ew k.out.2.2.1,bne_eq_false_iff_eq];omega
   have q:=Lib.hid j;clear j;have g:IntKind.i64.wrap ((S:Int)-1)=(S:Int)-1:=IntWalk.i64_in _ oO;go_wp2_with fail
   go_region_held3 (λw'=>(w'.cell? ⟨w.heap.size,0,none⟩=some (.int .i64 C)/\w'.cell? ⟨w.heap.size,1,none⟩=some (.int .i64 S)/\w'.cell? ⟨w.heap.size,2,none⟩=some (.int .i64 P))/\ej w C S P w') (first|exact uB (ej.drew o.out)|exact uB (by assumption)) (first|(go_at_call 221;refine(zd C S P _ _ c.out oO (by have:=f.out;omega)).mono ?_;rintro e p ⟨rfl,i⟩;have u:=ej.step (And.right (by assumption)) i))
   all_goals clear g
   all_goals go_wp2
   all_goals go_ret
   all_goals exact⟨cS (by rw[q.out]),ej.below (And.right (by assumption))⟩
end
end Go.Proofs.YtmnlkganmgcpbaaGreatDoor
