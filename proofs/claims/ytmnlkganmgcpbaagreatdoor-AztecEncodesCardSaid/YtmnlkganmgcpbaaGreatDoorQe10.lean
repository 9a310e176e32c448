import Derived.Test.YtmnlkganmgcpbaaGreatDoorQe4
set_option maxRecDepth 100000
set_option maxHeartbeats 4000000
set_option linter.unusedVariables false
set_option linter.unusedSectionVars false
set_option linter.unusedSimpArgs false
namespace Go.Proofs.YtmnlkganmgcpbaaGreatDoor
class Fl (K:Type) where
 add:K->K->K
 mul:K->K->K
 neg:K->K
 zero:K
 one:K
 add_assoc:∀a b c,add (add a b) c=add a (add b c)
 add_comm:∀a b,add a b=add b a
 zero_add:∀a,add zero a=a
 neg_add:∀a,add (neg a) a=zero
 mul_assoc:∀a b c,mul (mul a b) c=mul a (mul b c)
 mul_comm:∀a b,mul a b=mul b a
 one_mul:∀a,mul one a=a
 add_mul:∀a b c,mul (add a b) c=add (mul a c) (mul b c)
 Gh:one≠zero
 Lr:∀a b,mul a b=zero->a=zero\/b=zero
 dec:DecidableEq K
 Cb:List K
 nodup:Cb.Nodup
 mem:∀a,a∈Cb
namespace Fl
variable {K : Type} [Fl K]
instance:Add K:=⟨Fl.add⟩
instance:Mul K:=⟨Fl.mul⟩
instance:Neg K:=⟨Fl.neg⟩
instance:Sub K:=⟨λa b=>a+-b⟩
instance:Zero K:=⟨Fl.zero⟩
instance:One K:=⟨Fl.one⟩
instance:DecidableEq K:=Fl.dec
def npow (a:K):Nat->K
 |0=>1
 |n+1=>npow a n* a
instance:HPow K Nat K:=⟨npow⟩
instance:Std.Associative (α:=K) (·+·):=⟨Fl.add_assoc⟩
instance:Std.Commutative (α:=K) (·+·):=⟨Fl.add_comm⟩
instance:Std.Associative (α:=K) (·* ·):=⟨Fl.mul_assoc⟩
instance:Std.Commutative (α:=K) (·* ·):=⟨Fl.mul_comm⟩
end Fl
open Fl
variable {K : Type} [Fl K]
theorem kA (a b c:K):a+b+c=a+(b+c):=Fl.add_assoc a b c
theorem fm (a b:K):a+b=b+a:=Fl.add_comm a b
theorem dh (a:K):0+a=a:=Fl.zero_add a
theorem bJ (a:K):a+0=a:=by rw[fm];exact dh a
theorem eR (a:K):-a+a=0:=Fl.neg_add a
theorem pV (a:K):a+-a=0:=by rw[fm];exact eR a
theorem dQ (a b:K):a-b=a+-b:=rfl
theorem mz (a b c:K):a* b* c=a* (b* c):=Fl.mul_assoc a b c
theorem cO (a b:K):a* b=b* a:=Fl.mul_comm a b
theorem gf (a:K):1* a=a:=Fl.one_mul a
theorem jU (a:K):a* 1=a:=by rw[cO];exact gf a
theorem gH (a b c:K):(a+b)* c=a* c+b* c:=Fl.add_mul a b c
theorem jm (a b c:K):a* (b+c)=a* b+a* c:=by rw[cO,gH,cO b,cO c]
theorem po:(1:K)≠0:=Fl.Gh
theorem Dw {a b:K} (h:a* b=0):a=0\/b=0:=Fl.Lr a b h
theorem nn {a b c:K} (h:a+b=a+c):b=c:=by
 have:=congrArg (λx=>-a+x) h;simpa[<-kA,eR,dh]using this
theorem fG {a b c:K} (h:b+a=c+a):b=c:=by
 rw[fm b,fm c]at h;exact nn h
theorem fU (a:K):0* a=0:=by
 have h:0* a+0* a=0* a+0:=by rw[<-gH,bJ,bJ]
 exact nn h
theorem cu (a:K):a* 0=0:=by rw[cO];exact fU a
theorem pY (a b:K):-a* b=-(a* b):=by
 apply fG (a:=a* b);rw[<-gH,eR,eR,fU]
theorem tj (a b:K):a*-b=-(a* b):=by rw[cO,pY,cO]
theorem Ax (a:K):- -a=a:=by
 apply fG (a:=-a);rw[eR,pV]
theorem Ex:(-0:K)=0:=by
 apply fG (a:=(0:K));rw[eR,bJ]
theorem mX (a b:K):-(a+b)=-a+-b:=by
 apply fG (a:=a+b);rw[eR,show-a+-b+(a+b)=(-a+a)+(-b+b)from by ac_rfl,eR,eR,bJ]
theorem ew (a:K):a-a=0:=pV a
theorem ke (a:K):a-0=a:=by rw[dQ,Ex,bJ]
theorem FF (a:K):0-a=-a:=dh _
theorem uW (a b:K):a-b+b=a:=by rw[dQ,kA,eR,bJ]
theorem kl {a b:K}:a-b=0↔a=b:=by
 constructor
 ·intro h;have:=uW a b;rw[h,dh]at this;exact this.symm
 ·intro h;subst h;exact ew a
theorem zv (a b c:K):(a-b)* c=a* c-b* c:=by rw[dQ,gH,pY];rfl
theorem Hd (a b c:K):a* (b-c)=a* b-a* c:=by rw[dQ,jm,tj];rfl
theorem iC {a b c:K} (e:a≠0) (h:a* b=a* c):b=c:=by
 have f:a* (b-c)=0:=by rw[Hd,h,ew]
 rcases Dw f with d|d
 ·exact absurd d e
 ·exact kl.1 d
theorem vj {a b:K} (c:a≠0) (hb:b≠0):a* b≠0:=by
 intro h;rcases Dw h with h|h
 ·exact c h
 ·exact hb h
theorem r7 {a b c:K} (d:a≠0) (h:b* a=c* a):b=c:=by
 rw[cO b,cO c]at h;exact iC d h
theorem ig (a:K):a^0=1:=rfl
theorem dz (a:K) (n:Nat):a^(n+1)=a^n* a:=rfl
theorem iZ (a:K) (m n:Nat):a^(m+n)=a^m* a^n:=by
 induction n with
 |zero=>rw[ig,jU];rfl
 |succ n b=>rw[<-Nat.add_assoc,dz,b,dz,mz]
theorem iz (n:Nat):(1:K)^n=1:=by
 induction n with
 |zero=>rfl
 |succ n a=>rw[dz,a,gf]
theorem gG (a:K) (m n:Nat):a^(m* n)=(a^m)^n:=by
 induction n with
 |zero=>rfl
 |succ n b=>rw[Nat.mul_succ,iZ,b,dz]
theorem nt (a b:K) (n:Nat):(a* b)^n=a^n* b^n:=by
 induction n with
 |zero=>rw[ig,ig,ig,gf]
 |succ n c=>rw[dz,dz,dz,c];ac_rfl
theorem Fg (n:Nat) (h:n≠0):(0:K)^n=0:=by
 obtain⟨m,rfl⟩:∃m,n=m+1:=⟨n-1,by omega⟩;rw[dz,cu]
theorem rY {a:K} (b:a≠0) (n:Nat):a^n≠0:=by
 induction n with
 |zero=>exact po
 |succ n c=>rw[dz];exact vj c b
def gM (K:Type) [Fl K]:Nat:=(Cb:List K).length
def jw (K:Type) [Fl K]:List K:=(Cb:List K).filter (λa=>a≠0)
theorem gA {a:K}:a∈jw K↔a≠0:=by
 unfold jw;simp[Fl.mem]
theorem oU:(jw K).Nodup:=Fl.nodup.filter _
theorem G8:(Cb:List K).Perm (0::jw K):=by
 refine(List.perm_ext_iff_of_nodup Fl.nodup ?_).2 ?_
 ·rw[List.nodup_cons];exact⟨by rw[gA];simp,oU⟩
 ·intro a;simp only[Fl.mem,List.mem_cons,gA,true_iff];by_cases h:a=0
  ·exact .inl h
  ·exact .inr h
theorem kN:(jw K).length+1=gM K:=by
 have:=(G8 (K:=K)).length_eq;simp only[List.length_cons]at this;exact this.symm
theorem vJ:2<=gM K:=by
 rw[<-kN];have h:(1:K)∈jw K:=gA.2 po;have:=List.length_pos_of_mem h;omega
def prd:List K->K
 |[]=>1
 |a::l=>a* prd l
theorem Ip {l m:List K} (h:l.Perm m):prd l=prd m:=by
 induction h with
 |nil=>rfl
 |cons x _ a=>simp only[prd,a]
 |swap x y l=>simp only[prd];ac_rfl
 |trans _ _ b c=>rw[b,c]
theorem AH (a:K) (l:List K):prd (l.map (a* ·))=a^l.length* prd l:=by
 induction l with
 |nil=>simp only[List.map_nil,prd,List.length_nil,ig,gf]
 |cons x l b=>simp only[List.map_cons,prd,b,List.length_cons,dz];ac_rfl
theorem Kl {l:List K} (h:∀a∈l,a≠0):prd l≠0:=by
 induction l with
 |nil=>exact po
 |cons x l b=>exact vj (h x oS) (b λa c=>h a (by simp[c]))
theorem nK {α g:Type} {f:α->g} {l:List α} (c:∀a∈l,∀b∈l,f a=f b->a=b) (h:l.Nodup):(l.map f).Nodup:=by
 induction l with
 |nil=>simp
 |cons x l i=>
  rw[List.nodup_cons]at h;rw[List.map_cons,List.nodup_cons];refine⟨?_,i (λa j b hb=>c a (by simp[j]) b (by simp[hb])) h.2⟩;intro k;obtain⟨y,d,e⟩:=List.mem_map.1 k;have:=c y (by simp[d]) x oS e;subst this;exact h.1 d
theorem length_le_of_subset {α:Type} {l m:List α} (hl:l.Nodup) (h:∀a∈l,a∈m):l.length<=m.length:=by
 induction l generalizing m with
 |nil=>simp
 |cons x l e=>
  rw[List.nodup_cons]at hl;obtain⟨s,d,rfl⟩:=List.append_of_mem (h x oS)
  have:=e (m:=s++d) hl.2 (λa c=>by
   have b:=h a (by simp[c]);simp only[List.mem_append,List.mem_cons]at b⊢;rcases b with b|b|b
   ·exact .inl b
   ·subst b;exact absurd c hl.1
   ·exact .inr b)
  simp only[List.length_append,List.length_cons]at this⊢;omega
theorem oY {α:Type} {l m:List α} (hl:l.Nodup) (h:∀a∈l,a∈m) (d:m.length<=l.length):l.Perm m:=by
 induction l generalizing m with
 |nil=>
  have:m=[]:=List.length_eq_zero_iff.1 (by simpa using d);subst this;exact List.Perm.refl _
 |cons x l f=>
  rw[List.nodup_cons]at hl;obtain⟨s,e,rfl⟩:=List.append_of_mem (h x oS)
  have:=f (m:=s++e) hl.2 (λa c=>by
   have b:=h a (by simp[c]);simp only[List.mem_append,List.mem_cons]at b⊢;rcases b with b|b|b
   ·exact .inl b
   ·subst b;exact absurd c hl.1
   ·exact .inr b) (by simp only[List.length_append,List.length_cons]at d⊢;omega)
  exact(this.cons x).trans List.perm_middle.symm
theorem uy {a:K} (d:a≠0):a^(gM K-1)=1:=by
 have g:((jw K).map (a* ·)).Perm (jw K):=by
  refine oY (nK (λx _ y _ e=>iC d e) oU) ?_ oS;intro b hb;obtain⟨x,c,rfl⟩:=List.mem_map.1 hb;exact gA.2 (vj d (gA.1 c))
 have f:=Ip g;rw[AH]at f;have i:prd (jw K)≠0:=Kl λx c=>gA.1 c;have j:(jw K).length=gM K-1:=by have:=kN (K:=K);omega
 rw[<-j];exact r7 i (by rw[f,gf])
def Kc (a:K):K:=a^(gM K-2)
theorem Hs {a:K} (b:a≠0):a* Kc a=1:=by
 have h:=uy b;have:=vJ (K:=K);rw[show gM K-1=(gM K-2)+1 from by omega,dz]at h;rw[cO];exact h
theorem exists_least {P:Nat->Prop} (h:∃n,P n):∃n,P n/\∀m,m<n->¬P m:=by
 obtain⟨n,hn⟩:=h
 induction n using Nat.strongRecOn with
 |_ n d=>
  by_cases c:∃m,m<n/\P m
  ·obtain⟨m,a,b⟩:=c;exact d m a b
  ·exact⟨n,hn,λm a b=>c ⟨m,a,b⟩⟩
def dj (a:K) (k:Nat):Prop:=1<=k/\a^k=1/\∀m,1<=m->m<k->a^m≠1
theorem q8 {a:K} (b:a≠0):∃k,dj a k:=by
 obtain⟨k,⟨c,d⟩,e⟩:=exists_least (P:=λk=>1<=k/\a^k=1) ⟨gM K-1,by have:=vJ (K:=K);omega,uy b⟩;exact⟨k,c,d,λm f i g=>e m i ⟨f,g⟩⟩
theorem dj.ne {a:K} {k:Nat} (h:dj a k):a≠0:=by
 intro e;subst e;have:=h.2.1;rw[Fg _ (by have:=h.1;omega)]at this;exact po this.symm
theorem tD {a:K} {k:Nat} (h:a^k=1) (m:Nat):a^m=a^(m%k):=by
 conv=>lhs;rw[<-Nat.div_add_mod m k,iZ,gG,h,iz,gf]
theorem dj.dvd {a:K} {k m:Nat} (h:dj a k):a^m=1↔k∣m:=by
 constructor
 ·intro e;rw[tD h.2.1]at e;by_cases b:m%k=0
  ·exact Nat.dvd_of_mod_eq_zero b
  ·exact absurd e (h.2.2 _ oO (Nat.mod_lt _ (by have:=h.1;omega)))
 ·rintro⟨c,rfl⟩;rw[gG,h.2.1,iz]
theorem dj.Ik {a:K} {k:Nat} (h:dj a k):k∣gM K-1:=h.dvd.1 (uy h.ne)
theorem dj.le {a:K} {k:Nat} (h:dj a k):k<=gM K-1:=
 Nat.le_of_dvd (by have:=vJ (K:=K);omega) h.Ik
theorem dj.inj {a:K} {k i j:Nat} (h:dj a k) (b:i<k) (c:j<k) (e:a^i=a^j):i=j:=by
 have d:∀i j,i<=j->i<k->j<k->a^i=a^j->i=j:=by
  intro i j g b c e;have e2:a^i* a^(j-i)=a^i* 1:=by rw[<-iZ,jU,show i+(j-i)=j from by omega];exact e.symm
  have e3:=iC (rY h.ne i) e2;by_cases f:j-i=0
  ·omega
  ·exact absurd e3 (h.2.2 _ oO oO)
 rcases Nat.le_total i j with hl|hl
 ·exact d i j hl b c e
 ·exact(d j i hl c b e.symm).symm
theorem dj.pow {a:K} {d e:Nat} (h:dj a (d* e)) (c:1<=d):dj (a^d) e:=by
 refine⟨?_,by rw[<-gG];exact h.2.1,?_⟩
 ·rcases Nat.eq_zero_or_pos e with b|b
  ·subst b;have:=h.1;omega
  ·exact b
 ·intro m g i f;rw[<-gG]at f;have:d* m<d* e:=Nat.mul_lt_mul_of_pos_left i c;exact h.2.2 _ (Nat.mul_pos c g) this f
theorem dj.mul {a b:K} {m k:Nat} (c:dj a m) (hb:dj b k) (hc:Nat.Coprime m k):dj (a* b) (m* k):=by
 have g:1<=m* k:=Nat.mul_pos c.1 hb.1;have e:(a* b)^(m* k)=1:=by
  rw[nt,gG,c.2.1,iz,Nat.mul_comm,gG,hb.2.1,iz,gf]
 refine⟨g,e,?_⟩;intro j f i d;have e1:k∣j:=by
  have:b^(m* j)=1:=by
   have:=congrArg (λx=>x^m) d;simp only[iz,<-gG]at this;rw[nt,Nat.mul_comm j m,gG a,c.2.1,iz,gf]at this;exact this
  exact hc.symm.dvd_of_dvd_mul_left (hb.dvd.1 this)
 have e2:m∣j:=by
  have:a^(k* j)=1:=by
   have:=congrArg (λx=>x^k) d;simp only[iz,<-gG]at this;rw[nt,Nat.mul_comm j k,gG b,hb.2.1,iz,jU]at this;exact this
  exact hc.dvd_of_dvd_mul_left (c.dvd.1 this)
 have:=Nat.le_of_dvd f (hc.mul_dvd_of_dvd_of_dvd e2 e1);omega
theorem strip (q:Nat) (hq:2<=q) (m:Nat) (d:1<=m):∃a r,m=q^a* r/\¬q∣r:=by
 induction m using Nat.strongRecOn with
 |_ m e=>
  by_cases h:q∣m
  ·obtain⟨c,rfl⟩:=h;have hc:1<=c:=by
    rcases Nat.eq_zero_or_pos c with b|b
    ·subst b;simp at d
    ·exact b
   obtain⟨a,r,f,g⟩:=e c (by have:=Nat.mul_le_mul_right c hq;omega) hc;exact⟨a+1,r,by rw[f,Nat.pow_succ];ac_rfl,g⟩
  ·exact⟨0,m,by simp,h⟩
theorem zk (c:Nat) (hc:2<=c):∃q,2<=q/\q∣c/\∀d,d∣q->d=1\/d=q:=by
 obtain⟨q,⟨e,b⟩,f⟩:=exists_least (P:=λq=>2<=q/\q∣c) ⟨c,hc,Nat.dvd_refl c⟩;refine⟨q,e,b,λd a=>?_⟩;have j:d≠0:=by intro h;subst h;have:=Nat.eq_zero_of_zero_dvd a;omega
 have k:=Nat.le_of_dvd oO a;by_cases g:d=1
 ·exact .inl g
 by_cases i:d=q
 ·exact .inr i
 exact absurd ⟨by omega,Nat.dvd_trans a b⟩ (f d oO)
theorem nr {q r:Nat} (hq:∀d,d∣q->d=1\/d=q) (h:¬q∣r):Nat.Coprime q r:=by
 rcases hq (Nat.gcd q r) (Nat.gcd_dvd_left q r)with a|a
 ·exact a
 ·exact absurd (a▸Nat.gcd_dvd_right q r) h
theorem xF {a b:K} {m k:Nat} (n:dj a m) (hb:dj b k) (hn:¬k∣m):∃c l,dj (c:K) l/\m<l:=by
 have hg:Nat.gcd k m∣k:=Nat.gcd_dvd_left k m;obtain⟨c,hc⟩:=hg;have G:1<=Nat.gcd k m:=Nat.gcd_pos_of_pos_left _ hb.1;have z:2<=c:=by
  rcases Nat.lt_or_ge c 2 with h|h
  ·have:c=0\/c=1:=oO;rcases this with d|d
   ·subst d;have:=hb.1;rw[Nat.mul_zero]at hc;omega
   ·subst d;rw[Nat.mul_one]at hc;exact absurd (hc▸Nat.gcd_dvd_right k m) hn
  ·exact h
 obtain⟨q,p,A,B⟩:=zk c z;obtain⟨s,g,i,r⟩:=strip q p k hb.1;obtain⟨f,o,j,C⟩:=strip q p m n.1;have D:f<s:=by
  rcases Nat.lt_or_ge f s with h|h
  ·exact h
  ·exfalso;have u:q^s∣m:=by rw[j];exact Nat.dvd_trans (Nat.pow_dvd_pow q h) (Nat.dvd_mul_right _ _)
   have v:q^s∣k:=by rw[i];exact Nat.dvd_mul_right _ _
   obtain⟨e,w⟩:=Nat.dvd_gcd v u;have x:q^s* g=q^s* (e* c):=by rw[<-i,<-Nat.mul_assoc,<-w,<-hc]
   have y:g=e* c:=Nat.eq_of_mul_eq_mul_left (Nat.pow_pos oO) x;exact r (y▸Nat.dvd_trans A (Nat.dvd_mul_left c e))
 have E:dj (b^g) (q^s):=dj.pow (by rw[Nat.mul_comm,<-i];exact hb) (by
  rcases Nat.eq_zero_or_pos g with d|d
  ·subst d;exact absurd (Nat.dvd_zero q) r
  ·exact d)
 have t:dj (a^(q^f)) o:=dj.pow (by rw[<-j];exact n) (Nat.pow_pos oO);refine⟨_,_,dj.mul E t (Nat.Coprime.pow_left s (nr B C)),?_⟩;have F:1<=o:=t.1;have:q^f<q^s:=Nat.pow_lt_pow_right oO D;rw[j];exact Nat.mul_lt_mul_of_pos_right this F
def ev (x:K):List K->K
 |[]=>0
 |c::a=>c+x* ev x a
def sd (r:K):List K->List K
 |[]=>[]
 |[_]=>[]
 |_::d::a=>ev r (d::a)::sd r (d::a)
theorem F6 (r:K) (p:List K):(sd r p).length=p.length-1:=by
 induction p with
 |nil=>rfl
 |cons c a b=>cases a with
  |nil=>rfl
  |cons d a=>simp only[sd,List.length_cons]at b⊢;omega
theorem Lh (r x:K) (p:List K):ev x p=(x-r)* ev x (sd r p)+ev r p:=by
 induction p with
 |nil=>simp only[ev,sd,cu,bJ]
 |cons c a b=>cases a with
  |nil=>simp only[ev,sd,cu,bJ,dh]
  |cons d a=>
   have e1:ev x (c::d::a)=c+x* ev x (d::a):=rfl;have e2:ev r (c::d::a)=c+r* ev r (d::a):=rfl;have e3:ev x (sd r (c::d::a))=ev r (d::a)+x* ev x (sd r (d::a)):=rfl;rw[e1,e2,e3,b];generalize ev r (d::a)=u;generalize ev x (sd r (d::a))=v;simp only[jm,dQ,gH];rw[show x* u+-r* u+(x* (x* v)+-r* (x* v))+(c+r* u)=(-r* u+r* u)+(c+(x* (x* v)+x* (-r* v)+x* u))from by ac_rfl];rw[show-r* u+r* u=0 from by rw[pY,eR],dh]
theorem Jt (r:K) (p:List K) (h:2<=p.length):(sd r p).getLast?=p.getLast?:=by
 induction p with
 |nil=>simp at h
 |cons c a b=>cases a with
  |nil=>simp at h
  |cons d a=>
   cases a with
   |nil=>simp[sd,ev,cu,bJ]
   |cons e a=>
    have:=b oS;have f:sd r (c::d::e::a)=ev r (d::e::a)::sd r (d::e::a):=rfl;rw[f];have g:sd r (d::e::a)=ev r (e::a)::sd r (e::a):=rfl;rw[g]at this⊢;simp only[List.getLast?_cons_cons]at this⊢;exact this
theorem yp (p:List K) (c:K) (hc:p.getLast?=some c) (i:c≠0) (l:List K) (hl:l.Nodup) (b:∀x∈l,ev x p=0):l.length<p.length:=by
 induction l generalizing p with
 |nil=>
  have:p≠[]:=by intro h;subst h;simp at hc
  exact List.length_pos_iff.2 this
 |cons r l g=>
  rw[List.nodup_cons]at hl;by_cases a:2<=p.length
  ·have:=g (sd r p) (by rw[Jt r p a];exact hc) hl.2 (by
    intro x f;have e:=Lh r x p;rw[b x (by simp[f]),b r oS,bJ]at e;rcases Dw e.symm with h|h
    ·rw[kl]at h;subst h;exact absurd f hl.1
    ·exact h)
   rw[F6]at this;simp only[List.length_cons];omega
  ·exfalso
   match p,hc,a with
   |[],hc,_=>simp at hc
   |[d],hc,_=>
    have:d=c:=by simpa using hc
    subst this;have:=b r oS;simp only[ev,cu,bJ]at this;exact i this
   |_::_::_,_,a=>simp at a
theorem K1 (x:K) (e:Nat):ev x (List.replicate e (0:K)++[1])=x^e:=by
 induction e with
 |zero=>simp only[List.replicate_zero,List.nil_append,ev,cu,bJ,ig]
 |succ e a=>simp only[List.replicate_succ,List.cons_append,ev,a,dh,dz];exact cO _ _
theorem tV {e:Nat} (f:1<=e) (h:∀a:K,a≠0->a^e=1):gM K-1<=e:=by
 obtain⟨e,rfl⟩:∃d,e=d+1:=⟨e-1,by omega⟩
 have:=yp (K:=K) (-1::(List.replicate e (0:K)++[1])) 1 (by rw[List.getLast?_cons];simp) po (jw K) oU (by
  intro x b;have c:=h x (gA.1 b);simp only[ev,K1]
  rw[cO,<-dz,c,eR])
 simp only[List.length_cons,List.length_append,List.length_replicate,List.length_nil]at this;have:=kN (K:=K);omega
theorem KH:∃g:K,dj g (gM K-1):=by
 have key:∀d:Nat,∀a:K,∀m,dj a m->gM K-1-m<=d->∃g:K,dj g (gM K-1):=by
  intro d
  induction d with
  |zero=>
   intro a m h e;have:=h.le;obtain rfl:m=gM K-1:=oO;exact⟨a,h⟩
  |succ d n=>
   intro a m h e;by_cases j:∀b:K,b≠0->b^m=1
   ·have:=tV h.1 j;have:=h.le;obtain rfl:m=gM K-1:=oO;exact⟨a,h⟩
   ·have:∃b:K,b≠0/\b^m≠1:=by
     apply Classical.byContradiction;intro p;exact j λb hb=>Classical.byContradiction λo=>p ⟨b,hb,o⟩
    obtain⟨b,hb,q⟩:=this;obtain⟨k,f⟩:=q8 hb;obtain⟨c,l,i,r⟩:=xF h f (λe=>q (f.dvd.2 e));exact n c l i (by have:=i.le;omega)
 exact key (gM K) 1 1 ⟨Nat.le_refl 1,iz 1,λm s r=>by omega⟩ oO
def kD (p:Nat):Bool:=(List.range (2^((bl p-1)/2+1))).all λq=>decide (q<2)||cmod p q !=0
theorem nh (p:Nat):kD p=true↔∀q,2<=q->2* (bl q-1)<=bl p-1->cmod p q≠0:=by
 unfold kD;rw[List.all_eq_true];constructor
 ·intro h q a b;have hb:=eZ q oO;have:=h q (List.mem_range.2 ((aR _ _).1 oO));simp at this;omega
 ·intro h q hq;have c:=(aR q _).2 (List.mem_range.1 hq);by_cases a:q<2
  ·simp[a]
  ·have:=h q oO (by have:=eZ q oO;omega);simp[this]
def fE (n:Nat):Bool:=decide (2<=n)&&(List.range (n+1)).all λd=>decide (d<2)||decide (n<d* d)||n%d !=0
theorem kM (n:Nat):fE n=true↔2<=n/\∀d,2<=d->d* d<=n->n%d≠0:=by
 unfold fE;rw[Bool.and_eq_true,List.all_eq_true,decide_eq_true_iff];constructor
 ·rintro⟨a,h⟩;refine⟨a,λd b c=>?_⟩;have f:d<=n:=Nat.le_trans (Nat.le_mul_of_pos_left d oO) c;have:=h d (List.mem_range.2 oO);simp at this;omega
 ·rintro⟨a,h⟩;refine⟨a,λd _=>?_⟩;by_cases b:d<2
  ·simp[b]
  ·by_cases e:n<d* d
   ·simp[e]
   ·have:=h d oO oO;simp[this]
theorem FX {n:Nat} (h:fE n=true):∀d,d∣n->d=1\/d=n:=by
 obtain⟨i,b⟩:=(kM n).1 h;intro d f;obtain⟨e,a⟩:=f;have j:d≠0:=by intro h;subst h;omega
 have k:e≠0:=by intro h;subst h;omega
 by_cases c:d=1
 ·exact .inl c
 by_cases e1:e=1
 ·subst e1;right;omega
 exfalso;by_cases g:d<=e
 ·have:d* d<=n:=by rw[a];exact Nat.mul_le_mul_left d g
  exact b d oO this (by rw[a];exact Nat.mul_mod_right d e)
 ·have:e* e<=n:=by rw[a];exact Nat.mul_le_mul_right e oO
  exact b e oO this (Nat.mod_eq_zero_of_dvd ⟨d,by rw[a,Nat.mul_comm]⟩)
theorem Kr {p d:Nat} (c:bl p=d+1) (e:1<=d) (h:kD p=true):Lk p:=by
 refine⟨by omega,λq hq a b=>?_⟩;exact(nh p).1 h q hq a ((ni p q oO).2 b)
def VF (c s p:Nat):Prop:=
 (p=0/\c=s/\2<s/\s<=4096/\fE s=true)\/(∃d,1<=d/\d<=12/\bl p=d+1/\s=2^d/\c=2/\kD p=true)
def bW (s p a b:Nat):Nat:=if p=0 then(a+b)%s else a^^^b
def rO (s p a:Nat):Nat:=if p=0 then(s-a)%s else a
structure El (s:Nat) where
 val:Nat
 lt:val<s
theorem El.ext {s:Nat} {a b:El s} (h:a.val=b.val):a=b:=by
 cases a;cases b;simp only at h;subst h;rfl
theorem VF.aT {c s p:Nat} (h:VF c s p):2<=s:=by
 rcases h with⟨-,-,h,-⟩|⟨d,a,-,-,h,-⟩
 ·omega
 ·rw[h];exact Nat.pow_le_pow_right (n:=2) oO a
theorem VF.le {c s p:Nat} (h:VF c s p):s<=4096:=by
 rcases h with⟨-,-,-,h,-⟩|⟨d,-,a,-,h,-⟩
 ·omega
 ·rw[h];exact Nat.pow_le_pow_right (n:=2) oO a
theorem jY {c s p:Nat} (h:VF c s p) (a b:Nat) (f:a<s) (hb:b<s):bW s p a b<s:=by
 have g:=h.aT;unfold bW;rcases h with⟨e,-⟩|⟨d,-,-,e,hs,-⟩
 ·rw[if_pos e];exact Nat.mod_lt _ oO
 ·rw[if_neg (by intro h;subst h;rw[dv]at e;omega)];subst hs;exact Nat.xor_lt_two_pow f hb
theorem JF {c s p:Nat} (h:VF c s p) (a:Nat) (b:a<s):rO s p a<s:=by
 unfold rO;split
 ·exact Nat.mod_lt _ (by have:=h.aT;omega)
 ·exact b
theorem cd {c s p:Nat} (h:VF c s p) (a b:Nat):aM s p a b<s:=by
 have g:=h.aT;unfold aM;rcases h with⟨e,-⟩|⟨d,-,-,e,hs,-⟩
 ·rw[if_pos e];exact Nat.mod_lt _ oO
 ·have f:p≠0:=by intro h;subst h;rw[dv]at e;omega
  rw[if_neg f];subst hs;exact(aR _ _).1 (by have:=jX (bL a b) p f;omega)
theorem nj (a b n:Nat):(a%n)* b%n=a* b%n:=by rw[Nat.mul_mod,Nat.mod_mod,<-Nat.mul_mod]
theorem r6 (a b n:Nat):a* (b%n)%n=a* b%n:=by rw[Nat.mul_mod,Nat.mod_mod,<-Nat.mul_mod]
theorem Bq (a s:Nat) (b:a<s):((s-a)%s+a)%s=0:=by
 by_cases h:a=0
 ·subst h;simp
 ·rw[Nat.mod_eq_of_lt (by omega:s-a<s),show s-a+a=s from by omega,Nat.mod_self]
instance K5 (s:Nat):DecidableEq (El s):=λa b=>
 if h:a.val=b.val then isTrue (El.ext h)else isFalse (λe=>h (by rw[e]))
theorem Bf {c s p:Nat} (h:VF c s p) (a b:Nat) (j:a<s) (hb:b<s) (e:aM s p a b=0):a=0\/b=0:=by
 unfold aM at e;rcases h with⟨f,-,-,-,m⟩|⟨d,k,-,f,hs,-,n⟩
 ·rw[if_pos f]at e;have l:=Nat.dvd_of_mod_eq_zero e;by_cases g:s∣a
  ·left;by_cases o:a=0
   ·exact o
   ·exact absurd (Nat.le_of_dvd oO g) oO
  ·right;have hc:=nr (FX m) g;have q:=hc.dvd_of_dvd_mul_left l;by_cases r:b=0
   ·exact r
   ·exact absurd (Nat.le_of_dvd oO q) oO
 ·have i:p≠0:=by intro h;subst h;rw[dv]at f;omega
  rw[if_neg i]at e;subst hs;have t:=(aR _ _).2 j;have u:=(aR _ _).2 hb;rcases KD p a b (Kr f k n) ((ni _ _ i).1 e)with h|h
  ·exact .inl (py h oO)
  ·exact .inr (py h oO)
@[reducible] def dG {c s p:Nat} (h:VF c s p):Fl (El s) where
 add a b:=⟨bW s p a.val b.val,jY h _ _ a.lt b.lt⟩
 mul a b:=⟨aM s p a.val b.val,cd h _ _⟩
 neg a:=⟨rO s p a.val,JF h _ a.lt⟩
 zero:=⟨0,by have:=h.aT;omega⟩
 one:=⟨1,by have:=h.aT;omega⟩
 add_assoc a b c:=El.ext (by
  simp only[bW];split
  ·rw[Nat.mod_add_mod,Nat.add_mod_mod,Nat.add_assoc]
  ·exact Nat.xor_assoc _ _ _)
 add_comm a b:=El.ext (by
  simp only[bW];split
  ·rw[Nat.add_comm]
  ·exact Nat.xor_comm _ _)
 zero_add a:=El.ext (by
  simp only[bW];split
  ·rw[Nat.zero_add];exact Nat.mod_eq_of_lt a.lt
  ·exact Nat.zero_xor _)
 neg_add a:=El.ext (by
  simp only[bW,rO];split
  ·exact Bq _ _ a.lt
  ·exact Nat.xor_self _)
 mul_assoc a b c:=El.ext (by
  simp only[aM];split
  ·rw[nj,r6,Nat.mul_assoc]
  ·rename_i hp;rw[lC _ _ _ hp,ud _ _ _ hp,pG])
 mul_comm a b:=El.ext (by
  simp only[aM];split
  ·rw[Nat.mul_comm]
  ·rw[lV])
 one_mul a:=El.ext (by
  simp only[aM];rcases h with⟨hp,-⟩|⟨d,-,-,hp,hs,-⟩
  ·rw[if_pos hp,Nat.one_mul];exact Nat.mod_eq_of_lt a.lt
  ·have f:p≠0:=by intro h;subst h;rw[dv]at hp;omega
   rw[if_neg f,ti];have:=a.lt;subst hs
   exact ir _ _ (by have:=(aR _ _).2 this;omega))
 add_mul a b c:=El.ext (by
  simp only[aM,bW];split
  ·rw[nj,Nat.add_mul,Nat.mod_add_mod,Nat.add_mod_mod]
  ·rename_i hp;rw[pD,zq _ _ _ hp])
 Gh:=by intro e;have:=congrArg El.val e;simp at this
 Lr a b e:=by
  rcases Bf h a.val b.val a.lt b.lt (congrArg El.val e)with h|h
  ·exact .inl (El.ext h)
  ·exact .inr (El.ext h)
 dec:=K5 s
 Cb:=(List.finRange s).map λi=>⟨i.val,i.isLt⟩
 nodup:=nK (λa _ b _ e=>Fin.ext (congrArg El.val e)) (List.nodup_finRange s)
 mem a:=List.mem_map.2 ⟨⟨a.val,a.lt⟩,List.mem_finRange _,rfl⟩
theorem kk {c s p:Nat} (h:VF c s p):@gM (El s) (dG h)=s:=by
 show((List.finRange s).map _).length=s;simp
def fpowN (s p a:Nat):Nat->Nat
 |0=>1
 |n+1=>aM s p (fpowN s p a n) a
theorem dJ {c s p:Nat} (h:VF c s p) (a:El s) (n:Nat):fpowN s p a.val n=(@HPow.hPow (El s) Nat (El s) (@Fl.instHPowNat (El s) (dG h)) a n).val:=by
 induction n with
 |zero=>rfl
 |succ n b=>simp only[fpowN];rw[b];rfl
section
variable {c s p : Nat} (h : VF c s p)
include h
theorem mS (a n:Nat):fpowN s p a n<s:=by
 cases n with
 |zero=>have:=h.aT;show 1<s;omega
 |succ n=>exact cd h _ _
theorem pow_even (r a N:Nat) (d:r<s) (b:a<s) (e:N%2=0):
 aM s p r (fpowN s p (aM s p a a) (N/2))=aM s p r (fpowN s p a N):=by
 letI:=dG h
 let x:El s:=⟨a,b⟩
 have e1:aM s p a a=(x* x).val:=rfl;have e2:fpowN s p a N=(x^N).val:=dJ h x N;rw[e1,e2,dJ h (x* x) (N/2)];have e3:(x* x)^(N/2)=x^N:=by
  rw[nt,<-iZ];exact congrArg (λn=>x^n) (show N/2+N/2=N by omega)
 rw[<-e3]
theorem pow_odd (r a N:Nat) (b:r<s) (d:a<s) (e:N%2=1):
 aM s p (aM s p r a) (fpowN s p (aM s p a a) (N/2))=aM s p r (fpowN s p a N):=by
 letI:=dG h
 let x:El s:=⟨a,d⟩
 let y:El s:=⟨r,b⟩
 have e1:aM s p a a=(x* x).val:=rfl;have e2:fpowN s p a N=(x^N).val:=dJ h x N;have e4:aM s p r a=(y* x).val:=rfl;rw[e1,e2,e4,dJ h (x* x) (N/2)];have e3:y* x* (x* x)^(N/2)=y* x^N:=by
  have e5:x^N=x^(N/2+N/2)* x:=by
   rw[<-dz];exact congrArg (λn=>x^n) (show N=N/2+N/2+1 by omega)
  rw[nt,<-iZ,mz,cO x,e5]
 show(y* x* (x* x)^(N/2)).val=(y* x^N).val;rw[e3]
theorem sX (a:Nat) (b:a<s):aM s p 1 a=a:=by
 letI:=dG h
 let x:El s:=⟨a,b⟩
 show((1:El s)* x).val=x.val;rw[gf]
theorem s7 (a:Nat) (b:a<s):aM s p a 1=a:=by
 letI:=dG h
 let x:El s:=⟨a,b⟩
 show(x* (1:El s)).val=x.val;rw[jU]
end
def kP (s p a k:Nat):Prop:=1<=k/\fpowN s p a k=1/\∀m,1<=m->m<k->fpowN s p a m≠1
theorem kP.unique {s p a k l:Nat} (h:kP s p a k) (g:kP s p a l):k=l:=by
 by_cases b:k<l
 ·exact absurd h.2.1 (g.2.2 k h.1 b)
 ·by_cases d:l<k
  ·exact absurd g.2.1 (h.2.2 l g.1 d)
  ·omega
section
variable {c s p : Nat} (h : VF c s p)
include h
theorem gm (x:El s) (n:Nat):fpowN s p x.val n=1↔(letI:=dG h;x^n=(1:El s)):=by
 rw[dJ h];constructor
 ·intro e;exact El.ext e
 ·intro e;exact congrArg El.val e
theorem nH (x:El s) (k:Nat):kP s p x.val k↔(letI:=dG h;dj x k):=by
 letI:=dG h
 constructor
 ·rintro⟨a,b,d⟩;exact⟨a,(gm h x k).1 b,λm f g e=>d m f g ((gm h x m).2 e)⟩
 ·rintro⟨a,b,d⟩;exact⟨a,(gm h x k).2 b,λm f g e=>d m f g ((gm h x m).1 e)⟩
theorem jo (x:El s):(letI:=dG h;x≠(0:El s))↔x.val≠0:=by
 letI:=dG h
 constructor
 ·intro e e2;exact e (El.ext e2)
 ·intro e e2;exact e (congrArg El.val e2)
theorem BI (a:Nat) (d:a<s) (e:a≠0):∃k,kP s p a k/\k<=s-1:=by
 letI:=dG h
 let x:El s:=⟨a,d⟩
 obtain⟨k,b⟩:=q8 ((jo h x).2 e);have:=b.le;rw[kk h]at this;exact⟨k,(nH h x k).2 b,this⟩
def GJ (s p g:Nat):Prop:=1<=g/\g<s/\kP s p g (s-1)/\∀x,1<=x->x<g->¬kP s p x (s-1)
theorem Bk:∃g,GJ s p g:=by
 letI:=dG h
 obtain⟨x,a⟩:=KH (K:=El s);rw[kk h]at a;have l:=(jo h x).1 a.ne;obtain⟨g,⟨b,d,e⟩,f⟩:=exists_least (P:=λg=>1<=g/\g<s/\kP s p g (s-1)) ⟨x.val,by omega,x.lt,(nH h x _).2 a⟩;exact⟨g,b,d,e,λy i k j=>f y k ⟨i,by omega,j⟩⟩
end
noncomputable def mh (s p a:Nat):Nat:=@dite Nat (∃k,kP s p a k) (Classical.propDecidable _) (λh=>Classical.choose h) (λ_=>0)
theorem vD {s p a k:Nat} (h:kP s p a k):mh s p a=k:=by
 have b:∃k,kP s p a k:=⟨k,h⟩;unfold mh;rw[dif_pos b];exact(Classical.choose_spec b).unique h
theorem nZ {c s p a:Nat} (h:VF c s p) (d:a<s) (e:a≠0):kP s p a (mh s p a)/\mh s p a<=s-1:=by
 obtain⟨k,b,f⟩:=BI h a d e;rw[vD b];exact⟨b,f⟩
noncomputable def ay (s p:Nat):Nat:=@dite Nat (∃k,GJ s p k) (Classical.propDecidable _) (λh=>Classical.choose h) (λ_=>0)
theorem gv {c s p:Nat} (h:VF c s p):GJ s p (ay s p):=by
 have a:=Bk h;unfold ay;rw[dif_pos a];exact Classical.choose_spec a
theorem JH {c s p:Nat} (h:VF c s p) {i j:Nat} (a:i<s-1) (b:j<s-1) (e:fpowN s p (ay s p) i=fpowN s p (ay s p) j):i=j:=by
 have hg:=gv h
 letI:=dG h
 let x:El s:=⟨ay s p,hg.2.1⟩
 have d:dj x (s-1):=(nH h x _).1 hg.2.2.1;refine d.inj a b ?_;have e2:(x^i).val=(x^j).val:=by rw[<-dJ h,<-dJ h];exact e
 exact El.ext e2
theorem Gy {c s p:Nat} (h:VF c s p) {a:Nat} (g:a<s) (k:a≠0):∃j,j<s-1/\fpowN s p (ay s p) j=a:=by
 have hg:=gv h
 letI:=dG h
 let x:El s:=⟨ay s p,hg.2.1⟩
 have f:dj x (s-1):=(nH h x _).1 hg.2.2.1
 let l:List (El s):=(List.range (s-1)).map λj=>x^j
 have hn:l.Nodup:=nK (λi m j b e=>f.inj (List.mem_range.1 m) (List.mem_range.1 b) e) List.nodup_range;have q:∀y∈l,y∈jw (El s):=by
  intro y d;obtain⟨j,_,rfl⟩:=List.mem_map.1 d;exact gA.2 (rY f.ne j)
 have r:(jw (El s)).length<=l.length:=by
  have n:=kN (K:=El s);rw[kk h]at n;simp[l];omega
 have o:=oY hn q r
 let y:El s:=⟨a,g⟩
 have d:y∈l:=o.mem_iff.2 (gA.2 ((jo h y).2 k));obtain⟨j,b,e⟩:=List.mem_map.1 d;exact⟨j,List.mem_range.1 b,by rw[show ay s p=x.val from rfl,dJ h];exact congrArg El.val e⟩
noncomputable def fa (s p a:Nat):Nat:=@dite Nat (∃j,j<s-1/\fpowN s p (ay s p) j=a) (Classical.propDecidable _) (λh=>Classical.choose h) (λ_=>0)
theorem fs {c s p a:Nat} (h:VF c s p) (d:a<s) (e:a≠0):fa s p a<s-1/\fpowN s p (ay s p) (fa s p a)=a:=by
 have b:=Gy h d e;unfold fa;rw[dif_pos b];exact Classical.choose_spec b
theorem J5 {c s p a j:Nat} (h:VF c s p) (d:a<s) (f:a≠0) (g:j<s-1) (e:fpowN s p (ay s p) j=a):fa s p a=j:=by
 have b:=fs h d f;exact JH h b.1 g (b.2.trans e.symm)
def bE (s p a b:Nat):Nat:=if p=0 then(a+s-b)%s else a^^^b
def iV (s p a:Nat):Nat:=fpowN s p a (s-2)
section
variable {c s p : Nat} (h : VF c s p)
include h
theorem we (x y:El s):bE s p x.val y.val=(letI:=dG h;(x-y:El s).val):=by
 show bE s p x.val y.val=bW s p x.val (rO s p y.val);unfold bE bW rO;split
 ·rw[Nat.add_mod_mod];have:=y.lt;rw[show x.val+s-y.val=x.val+(s-y.val)from by omega]
 ·rfl
theorem FK {x y:Nat} (a:x<s) (b:y<s):bW s p x y=bW s p y x:=by
 letI:=dG h
 exact congrArg El.val (fm (⟨x,a⟩:El s) ⟨y,b⟩)
theorem qH {x:Nat} (a:x<s):bW s p x 0=x:=by
 letI:=dG h
 exact congrArg El.val (bJ (⟨x,a⟩:El s))
theorem DT {x y z:Nat} (a:x<s) (b:y<s) (d:z<s):aM s p (aM s p x y) z=aM s p x (aM s p y z):=by
 letI:=dG h
 exact congrArg El.val (mz (⟨x,a⟩:El s) ⟨y,b⟩ ⟨z,d⟩)
theorem Gq {x y:Nat} (a:x<s) (b:y<s):aM s p x y=aM s p y x:=by
 letI:=dG h
 exact congrArg El.val (cO (⟨x,a⟩:El s) ⟨y,b⟩)
theorem qY {x:Nat} (a:x<s):aM s p x 0=0:=by
 letI:=dG h
 exact congrArg El.val (cu (⟨x,a⟩:El s))
theorem iM {x y:Nat} (a:x<s) (b:y<s):bE s p x y<s:=by
 letI:=dG h
 have e:bE s p x y=_:=we h ⟨x,a⟩ ⟨y,b⟩;rw[e];exact El.lt _
theorem rI {x:Nat}:iV s p x<s:=mS h _ _
theorem yP {x:Nat} (b:x<s) (d:x≠0):aM s p x (iV s p x)=1:=by
 letI:=dG h
 let a:El s:=⟨x,b⟩
 have hc:gM (El s)=s:=kk h;have e:iV s p x=(Kc a).val:=by
  show fpowN s p a.val (s-2)=(a^(gM (El s)-2)).val;rw[hc];exact dJ h a _
 rw[e];exact congrArg El.val (Hs ((jo h a).2 d))
theorem yD {x k:Nat} (b:x<s) (d:fpowN s p x k=1) (n:Nat):fpowN s p x n=fpowN s p x (n%k):=by
 letI:=dG h
 let a:El s:=⟨x,b⟩
 have e1:a^k=1:=(gm h a k).1 d;have e2:=tD e1 n;rw[show x=a.val from rfl,dJ h a n,dJ h a (n%k)];exact congrArg El.val e2
theorem sq {x:Nat} (b:x<s) (d:x≠0):fpowN s p x (s-1)=1:=by
 letI:=dG h
 let a:El s:=⟨x,b⟩
 have hc:gM (El s)=s:=kk h;refine(gm h a _).2 ?_;have:=uy ((jo h a).2 d);rw[hc]at this;exact this
theorem td {x:Nat} (b:x<s) (m n:Nat):fpowN s p x (m+n)=aM s p (fpowN s p x m) (fpowN s p x n):=by
 letI:=dG h
 let a:El s:=⟨x,b⟩
 have:=congrArg El.val (iZ a m n);rw[<-dJ]at this;rw[show x=a.val from rfl,this,dJ h a m,dJ h a n];rfl
theorem dM {x:Nat} (n:Nat):fpowN s p x n<s:=mS h _ _
end
noncomputable def GL (s p:Nat):List Nat:=(List.range (s-1)).map (fpowN s p (ay s p))
noncomputable def jR (s p n:Nat):List Nat:=(List.range s).map λx=>if x=0 then 0 else if fa s p x<n then fa s p x else 0
noncomputable def iy (s p n:Nat):List Nat:=(List.range (s-1)).map λi=>if i<n then fpowN s p (ay s p) i else 0
theorem bY (f:Nat->Nat) (n i:Nat) (a:i<n):((List.range n).map f).getD i 0=f i:=by
 simp[List.getD,a]
theorem fC (f:Nat->Nat) (n i v:Nat) (a:i<n):((List.range n).map f).set i v=(List.range n).map (λk=>if k=i then v else f k):=by
 apply List.ext_getElem
 ·simp
 ·intro k b d;simp only[List.getElem_set,List.getElem_map,List.getElem_range];by_cases h:i=k
  ·subst h;simp
  ·rw[if_neg h,if_neg (λe=>h e.symm)]
section
variable {c s p : Nat} (h : VF c s p)
include h
theorem jk:ay s p<s:=(gv h).2.1
theorem AE:ay s p≠0:=by have:=(gv h).1;omega
theorem uh (n:Nat):fpowN s p (ay s p) n≠0:=by
 letI:=dG h
 let a:El s:=⟨ay s p,jk h⟩
 have:a^n≠0:=rY ((jo h a).2 (AE h)) n;intro e;apply this;apply El.ext;rw[<-dJ h a n];exact e
theorem Hf {n:Nat} (hn:n<s-1):fa s p (fpowN s p (ay s p) n)=n:=
 J5 h (dM h n) (uh h n) hn rfl
theorem wv {n:Nat} (hn:n<s-1):(iy s p n).set n (fpowN s p (ay s p) n)=iy s p (n+1):=by
 unfold iy;rw[fC _ _ _ _ hn];apply List.map_congr_left;intro k b;by_cases e:k=n
 ·subst e;simp
 ·rw[if_neg e];by_cases a:k<n
  ·rw[if_pos a,if_pos oO]
  ·rw[if_neg a,if_neg oO]
theorem z7 {n:Nat} (hn:n<s-1):(jR s p n).set (fpowN s p (ay s p) n) n=jR s p (n+1):=by
 unfold jR;rw[fC _ _ _ _ (dM h n)];apply List.map_congr_left;intro k d;have f:k<s:=List.mem_range.1 d;by_cases e:k=fpowN s p (ay s p) n
 ·rw[if_pos e,e,if_neg (uh h n),Hf h hn,if_pos oO]
 ·rw[if_neg e];by_cases a:k=0
  ·rw[if_pos a,if_pos a]
  ·rw[if_neg a,if_neg a];have hl:fa s p k≠n:=by
    intro e2;apply e;have:=(fs h f a).2;rw[e2]at this;exact this.symm
   by_cases b:fa s p k<n
   ·rw[if_pos b,if_pos oO]
   ·rw[if_neg b,if_neg oO]
theorem uf:iy s p 0=List.replicate (s-1) 0:=by
 unfold iy;apply List.ext_getElem<;>simp
theorem vZ:jR s p 0=List.replicate s 0:=by
 unfold jR;apply List.ext_getElem<;>simp
theorem uB:iy s p (s-1)=GL s p:=by
 unfold iy GL;apply List.map_congr_left;intro k a;rw[if_pos (List.mem_range.1 a)]
theorem yi {i:Nat} (a:i<s-1):(GL s p).getD i 0=fpowN s p (ay s p) i:=bY _ _ _ a
theorem xU {x:Nat} (a:x<s) (b:x≠0):(jR s p (s-1)).getD x 0=fa s p x:=by
 rw[show(jR s p (s-1)).getD x 0=_ from bY _ _ _ a];rw[if_neg b,if_pos (fs h a b).1]
theorem JW {x y:Nat} (a:x<s) (b:y<s) (d:x≠0) (e:y≠0):fpowN s p (ay s p) ((fa s p x+fa s p y)%(s-1))=aM s p x y:=by
 rw[<-yD h (jk h) (sq h (jk h) (AE h)),td h (jk h),(fs h a d).2,(fs h b e).2]
theorem Jr {x y:Nat} (e:x<s) (d:y<s) (i:x≠0) (g:y≠0):fpowN s p (ay s p) ((fa s p x+(s-1)-fa s p y)%(s-1))=aM s p x (iV s p y):=by
 have f:=sq h (jk h) (AE h);have a:=fs h e i;have b:=fs h d g;rw[<-yD h (jk h) f];generalize j:fa s p x+(s-1)-fa s p y=k;have e1:aM s p (fpowN s p (ay s p) k) y=x:=by
  have:fpowN s p (ay s p) (k+fa s p y)=fpowN s p (ay s p) (fa s p x+(s-1)):=by congr 1;omega
  rw[td h (jk h),td h (jk h),a.2,b.2,f,s7 h _ e]at this;exact this
 have e2:aM s p (aM s p (fpowN s p (ay s p) k) y) (iV s p y)=aM s p x (iV s p y):=by rw[e1]
 rw[DT h (dM h k) d (rI h),yP h d g,s7 h _ (dM h k)]at e2;exact e2
theorem Ls {x:Nat} (a:x<s):bW s p 0 x=x:=by rw[FK h (by have:=h.aT;omega) a,qH h a]
theorem wV {x:Nat} (a:x<s):aM s p 0 x=0:=by rw[Gq h (by have:=h.aT;omega) a,qY h a]
end
def tl (l:List Nat):Nat->Nat
 |0=>0
 |n+1=>if l.getD n 0=0 then tl l n else n+1
theorem Jb (l:List Nat) (n:Nat):tl l n<=n:=by
 induction n with
 |zero=>exact Nat.le_refl _
 |succ n a=>unfold tl;split<;>omega
theorem J7 (l:List Nat) (n i:Nat) (a:tl l n<=i) (f:i<n):l.getD i 0=0:=by
 induction n with
 |zero=>omega
 |succ n b=>
  unfold tl at a;split at a
  ·rename_i d
   by_cases e:i=n
   ·rw[e];exact d
   ·exact b a oO
  ·omega
theorem JM (l:List Nat) (n:Nat) (h:tl l n≠0):l.getD (tl l n-1) 0≠0:=by
 induction n with
 |zero=>exact absurd rfl h
 |succ n b=>
  unfold tl at h⊢;split
  ·rename_i a
   rw[if_pos a]at h;exact b h
  ·rename_i a
   simpa using a
def fg (l:List Nat):List Nat:=l.take (tl l l.length)
def gZ (l:List Nat):Prop:=l=[]\/l.getD (l.length-1) 0≠0
theorem rC (l:List Nat):(fg l).length=tl l l.length:=by
 unfold fg;rw[List.length_take];have:=Jb l l.length;omega
theorem getD_take (l:List Nat) (n i:Nat):(l.take n).getD i 0=if i<n then l.getD i 0 else 0:=by
 simp only[List.getD,List.getElem?_take];split<;>simp
theorem qe (l:List Nat) (i:Nat):(fg l).getD i 0=l.getD i 0:=by
 unfold fg;rw[getD_take];split
 ·rfl
 ·rename_i b
  by_cases a:i<l.length
  ·exact(J7 l _ i oO a).symm
  ·rw[List.getD,List.getElem?_eq_none oO];rfl
theorem qy (l:List Nat):gZ (fg l):=by
 by_cases h:tl l l.length=0
 ·left;unfold fg;rw[h];rfl
 ·right;rw[qe,rC];exact JM l _ h
def oI (s p:Nat) (f:Nat->Nat):Nat->Nat
 |0=>0
 |n+1=>bW s p (oI s p f n) (f n)
def ju (s p:Nat) (a b:List Nat) (n k:Nat):Nat:=if k<=n then aM s p (a.getD k 0) (b.getD (n-k) 0)else 0
def vF (s p:Nat) (a b:List Nat) (i j n:Nat):Nat:=
 if i<=n/\n-i<j then bW s p (oI s p (ju s p a b n) i) (aM s p (a.getD i 0) (b.getD (n-i) 0))else oI s p (ju s p a b n) i
def aA (s:Nat) (l:List Nat):Prop:=∀i,l.getD i 0<s
section
variable {c s p : Nat} (h : VF c s p)
include h
theorem vE (f:Nat->Nat) (a:∀k,f k<s) (n:Nat):oI s p f n<s:=by
 induction n with
 |zero=>have:=h.aT;unfold oI;omega
 |succ n b=>exact jY h _ _ b (a n)
theorem tc (a b:List Nat) (n k:Nat):ju s p a b n k<s:=by
 unfold ju;split
 ·exact cd h _ _
 ·have:=h.aT;omega
theorem ra (a b:List Nat) (i n:Nat):vF s p a b i 0 n=oI s p (ju s p a b n) i:=by
 unfold vF;rw[if_neg oO]
end
section
open Go.RowKit
theorem bK {k:IntKind} {a b:Int} (h:a=b):Ending.returned (.int k a)= .returned (.int k b):=by rw[h]
theorem aN {a b:Bool} (h:a=b):Ending.returned (.bool a)= .returned (.bool b):=by rw[h]
theorem rz (P:Nat) (h:bl P<=40):P<2^40:=(aR _ _).1 h
theorem Ab (P q:Nat) (a:bl P<=40) (f:0<q) (g:bl q<=bl P):
 bits BinOp.xor IntKind.i64 (↑P) (wrap64 (↑q* 2^(bl P-1-(bl q-1))))=((iW P q:Nat):Int):=by
 have b:=eZ q oO;rw[show bl P-1-(bl q-1)=bl P-bl q from by omega];have c:=pK q (bl P-bl q) oO;have d:=rz (q* 2^(bl P-bl q)) oO;have e:=rz P a;rw[show((q:Int)* 2^(bl P-bl q))=((q* 2^(bl P-bl q):Nat):Int)from by simp];rw[IntWalk.wrap64_in _ oO,gJ _ _ oO oO];rfl
theorem tR (P q:Nat) (c:0<q):cmod (iW P q) q=cmod P q:=by
 refine(iK _ _ _ ?_ (jX _ _ oO)).symm;have b:=je P q;have a:=k8 b (⟨2^(bl P-bl q),(zx q _).symm⟩:fy q (q* 2^(bl P-bl q)));rw[show P^^^cmod P q^^^q* 2^(bl P-bl q)=(P^^^q* 2^(bl P-bl q))^^^cmod P q from by ac_rfl]at a;exact a
theorem J9 (p q:Nat) (w:World) (f:p<2^40) (c:0<q) (hq:q<2^40):
 Calls Tryz.prog 220 #[.int .i64 p,.int .i64 q] w λe w'=>e= .returned (.int .i64 (cmod p q))/\w=w':=by
 have g:bl p<=40:=(aR _ _).2 f;have j:bl q<=40:=(aR _ _).2 hq;have k:0<bl q:=eZ q oO;have l:(p:Int)<=9223372036854775807:=oO;have m:(q:Int)<=9223372036854775807:=oO;go_enter Tryz.func220,Tryz.ntmps220;go_wp2_with fail
 go_loop [0] (λa=>∃P:Nat,bl P<=40/\a= .int .i64 P/\Hid (cmod P q=cmod p q)) (λa=>bl (intOf a).toNat)
 case atStart=>exact⟨p,g,rfl,rfl⟩
 case round=>
  obtain⟨P,b,rfl,hid⟩:=hrel;have n:(P:Int)<=9223372036854775807:=by
   have:=rz P b;omega
  by_cases d:bl q<=bl P
  ·have i:=sZ P q oO d;go_wp2_with(go_at_call 188;refine(dZ _ _ oO oO).mono ?_;rintro e w' ⟨rfl,rfl⟩)
   rw[Ab P q b c d];refine⟨⟨iW P q,by omega,rfl,?_⟩,i⟩;show cmod _ _=_;rw[tR P q c];exact hid.out
  ·go_wp2_with(go_at_call 188;refine(dZ _ _ oO oO).mono ?_;rintro e w' ⟨rfl,rfl⟩)
   go_ret;exact⟨bK (by rw[<-hid.out,ir P q oO]),rfl⟩
theorem Cz (p q:Int) (w:World) (a:0<=p) (c:p<1099511627776) (b:0<q) (hq:q<1099511627776):
 Calls Tryz.prog 220 #[.int .i64 p,.int .i64 q] w λe w'=>e= .returned (.int .i64 (cmod p.toNat q.toNat))/\w=w':=by
 obtain⟨P,rfl⟩:=Int.eq_ofNat_of_zero_le a;obtain⟨Q,rfl⟩:=Int.eq_ofNat_of_zero_le (Int.le_of_lt b);exact J9 P Q w oO oO oO
theorem ue (q:Nat):bl (q+1)<=bl q+1:=by
 have:=vV q;exact(aR _ _).2 (by rw[Nat.pow_succ];have:=Nat.two_pow_pos (bl q);omega)
theorem Jh (p:Nat) (w:World) (u:0<p) (j:bl p<=13):
 Calls Tryz.prog 189 #[.int .i64 p] w λe w'=>e= .returned (.bool (kD p))/\w=w':=by
 have s:p<2^13:=(aR _ _).1 j;have v:=eZ p oO;have x:(p:Int)<=9223372036854775807:=oO;have t:(p:Int)<1099511627776:=oO;go_enter Tryz.func189,Tryz.ntmps189;go_wp2_with fail
 go_loop [3] (λd=>∃q:Nat,2<=q/\bl q<=8/\d= .int .i64 q/\Hid (∀r,2<=r->r<q->cmod p r≠0)) (λd=>300-(intOf d).toNat)
 case atStart=>exact⟨2,by omega,by decide,rfl,λr c g=>by omega⟩
 case round=>
  obtain⟨q,i,hq,rfl,hid⟩:=hrel;have l:q<2^8:=(aR _ _).1 hq;have A:(q:Int)<256:=oO;have y:2<=bl q:=by
   have:=pd 2 q i;have e:bl 2=2:=by decide
   omega
  by_cases m:2* ((bl q:Int)-1)<=(bl p:Int)-1
  ·by_cases a:cmod p q=0
   ·have n:(((cmod p q:Nat):Int)==0)=true:=by rw[a];rfl
    have o:=Lib.hid a;clear a;have b:kD p=false:=by
     rw[Bool.eq_false_iff];intro h;exact(nh p).1 h q i oO o.out
    have f:=Lib.hid b;clear b;go_wp2_with(first|(go_at_call 188;refine(dZ _ _ oO oO).mono ?_;rintro e w' ⟨rfl,rfl⟩)|(go_at_call 220;refine(Cz _ _ _ oO oO oO oO).mono ?_;rintro e w' ⟨rfl,rfl⟩))
    go_ret;exact⟨aN f.out.symm,rfl⟩
   ·have n:(((cmod p q:Nat):Int)==0)=false:=by simpa using a
    have z:=ue q;go_wp2_with(first|(go_at_call 188;refine(dZ _ _ oO oO).mono ?_;rintro e w' ⟨rfl,rfl⟩)|(go_at_call 220;refine(Cz _ _ _ oO oO oO oO).mono ?_;rintro e w' ⟨rfl,rfl⟩))
    refine⟨⟨q+1,by omega,by omega,by go_num,?_⟩,by simp[intOf];omega⟩;intro r c g;by_cases k:r=q
    ·subst k;exact a
    ·exact hid.out r c oO
  ·have b:kD p=true:=by
    rw[nh];intro r c g;refine hid.out r c ?_;have:bl r<bl q:=oO;exact oQ _ _ this
   have f:=Lib.hid b;clear b;have B:bl p+2<=2* bl q:=oO;clear m hid l s t;go_wp2_with(first|(go_at_call 188;refine(dZ _ _ oO oO).mono ?_;rintro e w' ⟨rfl,rfl⟩))
   go_ret;exact⟨aN f.out.symm,rfl⟩
theorem vh (p:Int) (w:World) (b:0<p) (a:bl p.toNat<=13):
 Calls Tryz.prog 189 #[.int .i64 p] w λe w'=>e= .returned (.bool (kD p.toNat))/\w=w':=by
 obtain⟨P,rfl⟩:=Int.eq_ofNat_of_zero_le (Int.le_of_lt b);exact Jh P w oO a
theorem Fv (n:Nat) (w:World) (hn:2<=n) (t:n<=4096):
 Calls Tryz.prog 187 #[.int .i64 n] w λe w'=>e= .returned (.bool (fE n))/\w=w':=by
 go_enter Tryz.func187,Tryz.ntmps187;go_wp2_with fail
 go_loop [3] (λf=>∃d:Nat,2<=d/\d<=65/\f= .int .i64 d/\Hid (∀r,2<=r->r<d->n%r≠0)) (λf=>100-(intOf f).toNat)
 case atStart=>exact⟨2,by omega,by decide,rfl,λr b i=>by omega⟩
 case round=>
  obtain⟨d,q,j,rfl,hid⟩:=hrel;have u:d* d<=65* 65:=Nat.mul_le_mul j j;have x:(0:Int)<=(d:Int)* d:=by
   have:(0:Int)<=((d* d:Nat):Int):=oO;simpa using this
  have y:(d:Int)* d<=4225:=by
   have:((d* d:Nat):Int)<=4225:=oO;simpa using this
  by_cases k:d* d<=n
  ·have l:(d:Int)* d<=n:=by
    have:((d* d:Nat):Int)<=n:=oO;simpa using this
   have v:d<=64:=by
    rcases Nat.lt_or_ge d 65 with h|h
    ·omega
    ·have:=Nat.mul_le_mul h h;omega
   clear k;by_cases c:n%d=0
   ·have s:(((n:Int)%(d:Int))==0)=true:=by
     have:((n%d:Nat):Int)=0:=oO;simpa using this
    have a:fE n=false:=by
     rw[Bool.eq_false_iff];intro h;have m:d* d<=n:=by
      have:((d* d:Nat):Int)<=n:=by simpa using l
      omega
     exact((kM n).1 h).2 d q m c
    have g:=Lib.hid a;clear a;clear c;go_wp2;go_ret;exact⟨aN g.out.symm,rfl⟩
   ·have s:(((n:Int)%(d:Int))==0)=false:=by
     have:((n%d:Nat):Int)≠0:=oO;simpa using this
    have o:=Lib.hid c;clear c;go_wp2;refine⟨⟨d+1,by omega,by omega,by go_num,?_⟩,by simp[intOf];omega⟩;intro r b i;by_cases p:r=d
    ·subst p;exact o.out
    ·exact hid.out r b oO
  ·have l:¬(d:Int)* d<=n:=by
    have:¬((d* d:Nat):Int)<=n:=oO;simpa using this
   have a:fE n=true:=by
    rw[kM];refine⟨hn,λr b i=>hid.out r b ?_⟩;rcases Nat.lt_or_ge r d with h|h
    ·exact h
    ·have:=Nat.mul_le_mul h h;omega
   have g:=Lib.hid a;clear a;clear k;go_wp2;go_ret;exact⟨aN g.out.symm,rfl⟩
theorem EO (n:Int) (w:World) (hn:2<=n) (a:n<=4096):
 Calls Tryz.prog 187 #[.int .i64 n] w λe w'=>e= .returned (.bool (fE n.toNat))/\w=w':=by
 obtain⟨P,rfl⟩:=Int.eq_ofNat_of_zero_le (by omega:0<=n);exact Fv P w oO oO
theorem dW (p:Int) (w:World) (b:p<=9223372036854775807):
 Calls Tryz.prog 207 #[.int .i64 p] w λe w'=>e= .returned (.int .i64 ((bl p.toNat:Int)-1))/\w=w':=by
 by_cases i:0<p
 ·have hb:=Cw p oO b;go_enter Tryz.func207,Tryz.ntmps207;go_wp2_with fail
  go_loop [0,3] (λa d=>∃P D:Nat,a= .int .i64 P/\D<=63/\d= .int .i64 ((D:Int)-1)/\P<=9223372036854775807/\Hid (bl P+D=bl p.toNat)) (λa _=>(intOf a).toNat)
  case atStart=>exact⟨p.toNat,0,by rw[Int.toNat_of_nonneg oO],by omega,rfl,by omega,rfl⟩
  case round=>
   obtain⟨P,D,rfl,j,rfl,k,hid⟩:=hrel;by_cases l:0<P
   ·have f:bl (P/2)+1=bl P:=by
     by_cases b:P=1
     ·subst b;rfl
     ·have g:P/2≠0:=oO;obtain⟨n,hn⟩:∃n,bl (P/2)=n+1:=⟨bl (P/2)-1,by have:=eZ _ g;omega⟩;have m:=(fT (P/2) n).1 oO;have o:=(aR (P/2) (n+1)).1 oO;rw[hn];rw[rG P (n+1) (by rw[Nat.pow_succ];omega) (by rw[Nat.pow_succ];omega)]
    have c:=Lib.hid f;clear f;have q:D+1<=63:=by have:=hid.out;have:=c.out;omega
    go_wp2;refine⟨⟨P/2,D+1,by go_num,by omega,by go_num,by omega,?_⟩,by simp[intOf];omega⟩;show bl (P/2)+(D+1)=_;have:=hid.out;have:=c.out;omega
   ·obtain rfl:P=0:=oO;go_wp2;go_ret;exact⟨bK (by have:=hid.out;rw[dv]at this;omega),rfl⟩
 ·go_enter Tryz.func207,Tryz.ntmps207;go_wp2_with fail
  go_loop [0,3] (λa d=>a= .int .i64 p/\d= .int .i64 (-1)) (λa _=>(intOf a).toNat)
  case atStart=>exact⟨rfl,rfl⟩
  case round=>
   obtain⟨rfl,rfl⟩:=hrel;go_wp2;go_ret;exact⟨bK (by rw[Int.toNat_of_nonpos oO];rfl),rfl⟩
theorem yM (P k:Nat) (h:bl P<=k+1) (hb:P.testBit k=false):bl P<=k:=by
 rcases Nat.lt_or_ge (bl P) (k+1)with a|a
 ·omega
 ·have:=kT P k oO;rw[this]at hb;cases hb
theorem F5 (P k:Nat) (h:bl P<=k+1) (hb:P.testBit k=true):bl P=k+1:=by
 rcases Nat.lt_or_ge (bl P) (k+1)with a|a
 ·have:=(aR P k).1 oO;rw[Nat.testBit_lt_two_pow this]at hb;cases hb
 ·omega
theorem sf (P k:Nat):P.testBit k=decide (P/2^k%2=1):=Nat.testBit_eq_decide_div_mod_eq
theorem rK (P j:Nat) (h:P<2^40):bits BinOp.and IntKind.i64 ((P:Int)/2^j) 1=((P/2^j%2:Nat):Int):=by
 rw[show((P:Int)/2^j)=((P/2^j:Nat):Int)from by simp];exact lI _ (by have:=Nat.div_le_self P (2^j);omega)
theorem Ka {P j:Nat} (h:(((P/2^j%2:Nat):Int)==1)=true):P.testBit j=true:=by
 rw[sf,decide_eq_true_iff];exact Int.ofNat.inj (eq_of_beq h)
theorem KY {P j:Nat} (h:(((P/2^j%2:Nat):Int)==1)=false):P.testBit j=false:=by
 rw[sf,decide_eq_false_iff_not];intro e;rw[e]at h;cases h
theorem Fy (p q:Nat) (w:World) (d:bl p<=40) (f:0<q) (hq:bl q<=40):
 Calls Tryz.prog 186 #[.int .i64 p,.int .i64 q] w λe w'=>e= .returned (.int .i64 (cmod p q))/\w=w':=by
 have n:0<bl q:=eZ q oO;have o:(p:Int)<=9223372036854775807:=by have:=rz p d;omega
 have r:(q:Int)<=9223372036854775807:=by have:=rz q hq;omega
 go_enter Tryz.func186,Tryz.ntmps186;go_wp2_with(go_at_call 207;refine(dW _ _ oO).mono ?_;rintro e w' ⟨rfl,rfl⟩)
 go_loop [0,6] (λg k=>∃P K:Nat,g= .int .i64 P/\bl P<=K/\K<=40/\k= .int .i64 ((K:Int)-1)/\Hid (cmod P q=cmod p q)) (λ_ k=>(intOf k+1).toNat)
 case atStart=>
  exact⟨p,bl p,rfl,Nat.le_refl _,d,rfl,rfl⟩
 case round=>
  obtain⟨P,K,rfl,j,l,rfl,hid⟩:=hrel;go_wp2
  ·rename_i b a
   rw[rK P _ (rz P oO)]at a;have c:P.testBit (K-1)=true:=Ka a;have i:=F5 P (K-1) oO c;obtain rfl:K=bl P:=oO;rw[Ab P q oO f b];have m:=sZ P q oO b;refine⟨⟨iW P q,bl P-1,rfl,by omega,by omega,by go_num,?_⟩,by simp[intOf];omega⟩;show cmod _ _=_;rw[tR P q f];exact hid.out
  ·rename_i b a
   rw[rK P _ (rz P oO)]at a;have c:P.testBit (K-1)=false:=KY a;have i:=yM P (K-1) oO c;exact⟨⟨P,K-1,rfl,by omega,by omega,by go_num,hid⟩,by simp[intOf];omega⟩
  ·rename_i b _
   go_ret;exact⟨bK (by rw[<-hid.out,ir P q oO]),rfl⟩
theorem ry (p q:Int) (w:World) (b:0<=p) (a:bl p.toNat<=40) (c:0<q) (hq:bl q.toNat<=40):
 Calls Tryz.prog 186 #[.int .i64 p,.int .i64 q] w λe w'=>e= .returned (.int .i64 (cmod p.toNat q.toNat))/\w=w':=by
 obtain⟨P,rfl⟩:=Int.eq_ofNat_of_zero_le b;obtain⟨Q,rfl⟩:=Int.eq_ofNat_of_zero_le (Int.le_of_lt c);exact Fy P Q w a oO hq
theorem Db (n:Nat) (w:World) (hn:2<=n) (t:n<=4096):
 Calls Tryz.prog 208 #[.int .i64 n] w λe w'=>e= .returned (.bool (fE n))/\w=w':=by
 go_enter Tryz.func208,Tryz.ntmps208;go_wp2_with fail
 go_loop [3] (λf=>∃d:Nat,2<=d/\d<=65/\f= .int .i64 d/\Hid (∀r,2<=r->r<d->n%r≠0)) (λf=>100-(intOf f).toNat)
 case atStart=>exact⟨2,by omega,by decide,rfl,λr b i=>by omega⟩
 case round=>
  obtain⟨d,q,j,rfl,hid⟩:=hrel;have u:d* d<=65* 65:=Nat.mul_le_mul j j;have x:(0:Int)<=(d:Int)* d:=by
   have:(0:Int)<=((d* d:Nat):Int):=oO;simpa using this
  have y:(d:Int)* d<=4225:=by
   have:((d* d:Nat):Int)<=4225:=oO;simpa using this
  by_cases k:d* d<=n
  ·have l:(d:Int)* d<=n:=by
    have:((d* d:Nat):Int)<=n:=oO;simpa using this
   have v:d<=64:=by
    rcases Nat.lt_or_ge d 65 with h|h
    ·omega
    ·have:=Nat.mul_le_mul h h;omega
   clear k;by_cases c:n%d=0
   ·have s:(((n:Int)%(d:Int))==0)=true:=by
     have:((n%d:Nat):Int)=0:=oO;simpa using this
    have a:fE n=false:=by
     rw[Bool.eq_false_iff];intro h;have m:d* d<=n:=by
      have:((d* d:Nat):Int)<=n:=by simpa using l
      omega
     exact((kM n).1 h).2 d q m c
    have g:=Lib.hid a;clear a;clear c;go_wp2;go_ret;exact⟨aN g.out.symm,rfl⟩
   ·have s:(((n:Int)%(d:Int))==0)=false:=by
     have:((n%d:Nat):Int)≠0:=oO;simpa using this
    have o:=Lib.hid c;clear c;go_wp2;refine⟨⟨d+1,by omega,by omega,by go_num,?_⟩,by simp[intOf];omega⟩;intro r b i;by_cases p:r=d
    ·subst p;exact o.out
    ·exact hid.out r b oO
  ·have l:¬(d:Int)* d<=n:=by
    have:¬((d* d:Nat):Int)<=n:=oO;simpa using this
   have a:fE n=true:=by
    rw[kM];refine⟨hn,λr b i=>hid.out r b ?_⟩;rcases Nat.lt_or_ge r d with h|h
    ·exact h
    ·have:=Nat.mul_le_mul h h;omega
   have g:=Lib.hid a;clear a;clear k;go_wp2;go_ret;exact⟨aN (by rw[g.out];simp;omega),rfl⟩
theorem Dg (n:Int) (w:World) (hn:2<=n) (a:n<=4096):
 Calls Tryz.prog 208 #[.int .i64 n] w λe w'=>e= .returned (.bool (fE n.toNat))/\w=w':=by
 obtain⟨P,rfl⟩:=Int.eq_ofNat_of_zero_le (by omega:0<=n);exact Db P w oO oO
def fu (p d:Int):Bool:=decide (0<=p)&&decide ((bl p.toNat:Int)=d+1)&&kD p.toNat
theorem Hc (p d:Int) (w:World) (h:p<0):
 Calls Tryz.prog 175 #[.int .i64 p,.int .i64 d] w λe w'=>e= .returned (.bool (fu p d))/\w=w':=by
 have a:fu p d=false:=by unfold fu;simp;omega
 have b:=Lib.hid a;clear a;go_enter Tryz.func175,Tryz.ntmps175;go_wp2;go_ret;exact⟨aN b.out.symm,rfl⟩
theorem Hm (p d:Int) (w:World) (h:0<=p) (f:p<=9223372036854775807) (a:(bl p.toNat:Int)-1≠d):
 Calls Tryz.prog 175 #[.int .i64 p,.int .i64 d] w λe w'=>e= .returned (.bool (fu p d))/\w=w':=by
 have b:fu p d=false:=by unfold fu;simp;omega
 have c:=Lib.hid b;clear b;have g:(((bl p.toNat:Int)-1)!=d)=true:=by rw[bne_iff_ne];exact a
 clear a;go_enter Tryz.func175,Tryz.ntmps175;go_wp2_with(go_at_call 207;refine(dW _ _ oO).mono ?_;rintro e w' ⟨rfl,rfl⟩)
 go_ret;exact⟨aN c.out.symm,rfl⟩
theorem GY (p:Nat) (w:World) (o:0<p) (g:bl p<=13):
 Calls Tryz.prog 175 #[.int .i64 p,.int .i64 ((bl p:Int)-1)] w λe w'=>e= .returned (.bool (kD p))/\w=w':=by
 have s:=eZ p oO;have t:(p:Int)<=9223372036854775807:=by have:=rz p oO;omega
 go_enter Tryz.func175,Tryz.ntmps175;go_wp2_with(go_at_call 207;refine(dW _ _ oO).mono ?_;rintro e w' ⟨rfl,rfl⟩)
 go_loop [5] (λd=>∃q:Nat,2<=q/\bl q<=8/\d= .int .i64 q/\Hid (∀r,2<=r->r<q->cmod p r≠0)) (λd=>300-(intOf d).toNat)
 case atStart=>exact⟨2,by omega,by decide,rfl,λr c i=>by omega⟩
 case round=>
  obtain⟨q,j,hq,rfl,hid⟩:=hrel;have x:(q:Int)<256:=by
   have:q<2^8:=(aR _ _).1 hq;omega
  have u:2<=bl q:=by
   have:=pd 2 q j;have e:bl 2=2:=by decide
   omega
  by_cases l:2* ((bl q:Int)-1)<=(bl p:Int)-1
  ·by_cases a:cmod p q=0
   ·have m:(((cmod p q:Nat):Int)==0)=true:=by rw[a];rfl
    have n:=Lib.hid a;clear a;have b:kD p=false:=by
     rw[Bool.eq_false_iff];intro h;exact(nh p).1 h q j oO n.out
    have f:=Lib.hid b;clear b;go_wp2_with(first|(go_at_call 207;refine(dW _ _ oO).mono ?_;rintro e w' ⟨rfl,rfl⟩)|(go_at_call 186;refine(ry _ _ _ oO (by first|exact Nat.le_trans g oO|omega) oO (by first|exact Nat.le_trans hq oO|omega)).mono ?_;rintro e w' ⟨rfl,rfl⟩))
    go_ret;exact⟨aN f.out.symm,rfl⟩
   ·have m:(((cmod p q:Nat):Int)==0)=false:=by simpa using a
    have v:=ue q;go_wp2_with(first|(go_at_call 207;refine(dW _ _ oO).mono ?_;rintro e w' ⟨rfl,rfl⟩)|(go_at_call 186;refine(ry _ _ _ oO (by first|exact Nat.le_trans g oO|omega) oO (by first|exact Nat.le_trans hq oO|omega)).mono ?_;rintro e w' ⟨rfl,rfl⟩))
    refine⟨⟨q+1,by omega,by omega,by go_num,?_⟩,by simp[intOf];omega⟩;intro r c i;by_cases k:r=q
    ·subst k;exact a
    ·exact hid.out r c oO
  ·have b:kD p=true:=by
    rw[nh];intro r c i;refine hid.out r c ?_;have:bl r<bl q:=oO;exact oQ _ _ this
   have f:=Lib.hid b;clear b;have y:decide (2* ((bl q:Int)-1)<=(bl p:Int)-1)=false:=by simp;omega
   clear l hid;go_wp2_with(first|(go_at_call 207;refine(dW _ _ oO).mono ?_;rintro e w' ⟨rfl,rfl⟩))
   go_ret;exact⟨aN f.out.symm,rfl⟩
theorem yr (p d:Int) (w:World) (b:p<=9223372036854775807) (f:0<=d) (g:d<=12):
 Calls Tryz.prog 175 #[.int .i64 p,.int .i64 d] w λe w'=>e= .returned (.bool (fu p d))/\w=w':=by
 by_cases a:0<=p
 ·by_cases hb:(bl p.toNat:Int)-1=d
  ·obtain⟨P,rfl⟩:=Int.eq_ofNat_of_zero_le a;rw[Int.toNat_natCast]at hb;subst hb;have c:0<P:=by
    rcases Nat.eq_zero_or_pos P with h|h
    ·subst h;rw[dv]at f;omega
    ·exact h
   refine(GY P w c oO).mono ?_;rintro e w' ⟨rfl,rfl⟩;refine⟨aN ?_,rfl⟩;unfold fu;simp;
  ·exact Hm p d w a b hb
 ·exact Hc p d w oO
theorem pc {P:Program} {f:FuncId} {args:Array Value} {w:World} {n:Nat} {v:Value}
 (h:Calls P f args (w.drewN n) λe w'=>e= .returned v/\w.drewN n=w'):
 Calls P f args (w.drewN n) λe b=>e= .returned v/\∃m,b=w.drewN m:=
 h.mono λ_ _ a=>⟨a.1,n,a.2.symm⟩
theorem iN {B:Nat} {a w:World} (h:Below B a w) (n:Nat):Below B a (w.drewN n):=⟨h.os,h.tape,h.output,h.size,h.block⟩
def aW (c s p:Int):Bool:=
 if p=0 then decide (2<s)&&decide (s<=4096)&&decide (c=s)&&fE s.toNat
 else decide (2<=p)&&decide (bl p.toNat<=13)&&decide (c=2)&&decide (s=((2^(bl p.toNat-1):Nat):Int))&&kD p.toNat
abbrev ba (c s p:Int):Value:= .agg #[.int .i64 c,.int .i64 s,.int .i64 p]
theorem Hj (c s:Int) (w:World) (h:¬2<s):
 Calls Tryz.prog 149 #[ba c s 0] w λe w'=>e= .returned (.bool (aW c s 0))/\Below w.heap.size w w':=by
 have a:aW c s 0=false:=by unfold aW;simp;omega
 have b:=Lib.hid a;clear a;go_enter Tryz.func149,Tryz.ntmps149;go_wp2;go_ret;exact⟨aN b.out.symm,(Below.refl _ _).alloc (Nat.le_refl _) _⟩
theorem G6 (c s:Int) (w:World) (h:2<s) (f:s<=4096) (b:c=s):
 Calls Tryz.prog 149 #[ba c s 0] w λe w'=>e= .returned (.bool (aW c s 0))/\Below w.heap.size w w':=by
 have a:aW c s 0=fE s.toNat:=by unfold aW;simp;omega
 have d:=Lib.hid a;clear a;subst b;go_enter Tryz.func149,Tryz.ntmps149;go_wp2_with(go_at_call 187;refine(EO _ _ oO oO).mono ?_;rintro e w' ⟨rfl,rfl⟩)
 go_ret;exact⟨aN d.out.symm,(Below.refl _ _).alloc (Nat.le_refl _) _⟩
theorem Gw (c s:Int) (w:World) (h:2<s) (d:4096<s):
 Calls Tryz.prog 149 #[ba c s 0] w λe w'=>e= .returned (.bool (aW c s 0))/\Below w.heap.size w w':=by
 have a:aW c s 0=false:=by unfold aW;simp;omega
 have b:=Lib.hid a;clear a;go_enter Tryz.func149,Tryz.ntmps149;go_wp2;go_ret;exact⟨aN b.out.symm,(Below.refl _ _).alloc (Nat.le_refl _) _⟩
theorem IL (c s:Int) (w:World) (h:2<s) (f:s<=4096) (b:(c==s)=false):
 Calls Tryz.prog 149 #[ba c s 0] w λe w'=>e= .returned (.bool (aW c s 0))/\Below w.heap.size w w':=by
 have a:aW c s 0=false:=by unfold aW;have:=ne_of_beq_false b;simp[this]
 have d:=Lib.hid a;clear a;go_enter Tryz.func149,Tryz.ntmps149;go_wp2;go_ret;exact⟨aN d.out.symm,(Below.refl _ _).alloc (Nat.le_refl _) _⟩
theorem JC (c s:Int) (w:World):
 Calls Tryz.prog 149 #[ba c s 0] w λe w'=>e= .returned (.bool (aW c s 0))/\Below w.heap.size w w':=by
 by_cases h:2<s
 ·by_cases a:s<=4096
  ·by_cases b:c=s
   ·exact G6 c s w h a b
   ·exact IL c s w h a (beq_false_of_ne b)
  ·exact Gw c s w h oO
 ·exact Hj c s w h
theorem G9 (c s p:Int) (w:World) (d:(p==0)=false) (h:p<2):
 Calls Tryz.prog 149 #[ba c s p] w λe w'=>e= .returned (.bool (aW c s p))/\Below w.heap.size w w':=by
 have a:aW c s p=false:=by unfold aW;have:=ne_of_beq_false d;rw[if_neg this];simp;omega
 have b:=Lib.hid a;clear a;go_enter Tryz.func149,Tryz.ntmps149;go_wp2;go_ret;exact⟨aN b.out.symm,(Below.refl _ _).alloc (Nat.le_refl _) _⟩
theorem G0 (c s p:Int) (w:World) (d:(p==0)=false) (h:2<=p) (f:p<=9223372036854775807) (g:13<bl p.toNat):
 Calls Tryz.prog 149 #[ba c s p] w λe w'=>e= .returned (.bool (aW c s p))/\Below w.heap.size w w':=by
 have a:aW c s p=false:=by unfold aW;have:=ne_of_beq_false d;rw[if_neg this];simp;omega
 have b:=Lib.hid a;clear a;go_enter Tryz.func149,Tryz.ntmps149;go_wp2_with(go_at_call 188;refine(dZ _ _ oO oO).mono ?_;rintro e w' ⟨rfl,rfl⟩)
 go_ret;exact⟨aN b.out.symm,(Below.refl _ _).alloc (Nat.le_refl _) _⟩
abbrev I6 (p:Int):Int:=IntKind.i64.wrap (2^(bl p.toNat-1))
theorem zn (p:Int) (a:bl p.toNat<=13):I6 p=((2^(bl p.toNat-1):Nat):Int):=by
 show IntKind.i64.wrap (2^(bl p.toNat-1))=_;have h:=Nat.pow_le_pow_right (n:=2) oO (show bl p.toNat-1<=12 by omega);rw[show((2:Int)^(bl p.toNat-1))=((2^(bl p.toNat-1):Nat):Int)from by simp];generalize 2^(bl p.toNat-1)=N at*;rw[IntKind.wrap_i64];omega
theorem GG (c s p:Int) (w:World) (g:(p==0)=false) (h:2<=p) (i:p<=9223372036854775807) (b:bl p.toNat<=13) (hb:2<=bl p.toNat)
 (d:(c==2)=false):
 Calls Tryz.prog 149 #[ba c s p] w λe w'=>e= .returned (.bool (aW c s p))/\Below w.heap.size w w':=by
 have a:aW c s p=false:=by unfold aW;have:=ne_of_beq_false g;rw[if_neg this];have:=ne_of_beq_false d;simp[this]
 have f:=Lib.hid a;clear a;go_enter Tryz.func149,Tryz.ntmps149;go_wp2_with(go_at_call 188;refine(dZ _ _ oO oO).mono ?_;rintro e w' ⟨rfl,rfl⟩)
 go_quiet ((first|(go_at_call 188;exact pc (dZ _ _ oO oO))|(go_at_call 189;exact pc (vh _ _ oO b))))
 go_wp2;go_ret;exact⟨aN f.out.symm,iN ((Below.refl _ _).alloc (Nat.le_refl _) _) _⟩
theorem G5 (s z p:Int) (w:World) (i:(p==0)=false) (h:2<=p) (j:p<=9223372036854775807) (a:bl p.toNat<=13) (hb:2<=bl p.toNat)
 (c:IntKind.i64.wrap (2^(bl p.toNat-1))=z) (d:(s==z)=false):
 Calls Tryz.prog 149 #[ba 2 s p] w λe w'=>e= .returned (.bool (aW 2 s p))/\Below w.heap.size w w':=by
 have b:aW 2 s p=false:=by
  unfold aW;have:=ne_of_beq_false i;rw[if_neg this];rw[<-zn p a]
  have f:¬s=I6 p:=by rw[show I6 p=z from c];exact ne_of_beq_false d
  simp[f]
 have g:=Lib.hid b;clear b;go_enter Tryz.func149,Tryz.ntmps149;go_wp2_with(go_at_call 188;refine(dZ _ _ oO oO).mono ?_;rintro e w' ⟨rfl,rfl⟩)
 go_quiet ((first|(go_at_call 188;exact pc (dZ _ _ oO oO))|(go_at_call 189;exact pc (vh _ _ oO a))))
 go_wp2;go_ret;exact⟨aN g.out.symm,iN ((Below.refl _ _).alloc (Nat.le_refl _) _) _⟩
theorem H8 (s p:Int) (w:World) (f:(p==0)=false) (h:2<=p) (g:p<=9223372036854775807) (a:bl p.toNat<=13) (hb:2<=bl p.toNat)
 (c:IntKind.i64.wrap (2^(bl p.toNat-1))=s):
 Calls Tryz.prog 149 #[ba 2 s p] w λe w'=>e= .returned (.bool (aW 2 s p))/\Below w.heap.size w w':=by
 have b:aW 2 s p=kD p.toNat:=by
  rw[<-show I6 p=s from c];unfold aW;have:=ne_of_beq_false f;rw[if_neg this];rw[<-zn p a]
  simp[h,a]
 have d:=Lib.hid b;clear b;go_enter Tryz.func149,Tryz.ntmps149;go_wp2_with(go_at_call 188;refine(dZ _ _ oO oO).mono ?_;rintro e w' ⟨rfl,rfl⟩)
 go_quiet ((first|(go_at_call 188;exact pc (dZ _ _ oO oO))|(go_at_call 189;exact pc (vh _ _ oO a))))
 go_wp2;go_ret;exact⟨aN d.out.symm,iN ((Below.refl _ _).alloc (Nat.le_refl _) _) _⟩
theorem nT (p:Int) (h:2<=p):2<=bl p.toNat:=by
 have a:=pd 2 p.toNat oO;have e:bl 2=2:=by decide
 omega
theorem ij (c s p:Int) (w:World) (b:p<=9223372036854775807):
 Calls Tryz.prog 149 #[ba c s p] w λe w'=>e= .returned (.bool (aW c s p))/\Below w.heap.size w w':=by
 by_cases i:p=0
 ·subst i;exact JC c s w
 have a:=beq_false_of_ne i;by_cases h:2<=p
 ·have hb:=nT p h;by_cases d:bl p.toNat<=13
  ·by_cases f:c=2
   ·subst f;by_cases g:s=IntKind.i64.wrap (2^(bl p.toNat-1))
    ·exact H8 s p w a h b d hb g.symm
    ·exact G5 s _ p w a h b d hb rfl (beq_false_of_ne g)
   ·exact GG c s p w a h b d hb (beq_false_of_ne f)
  ·exact G0 c s p w a h b oO
 ·exact G9 c s p w a oO
theorem uI (n:Nat):bl (2^n)=n+1:=rG _ _ (Nat.le_refl _) (by rw[Nat.pow_succ];have:=Nat.two_pow_pos n;omega)
theorem lq (s p:Int):aW 2 s p=(decide (2<=bl s.toNat)&&decide (bl s.toNat<=13)&&decide (s=((2^(bl s.toNat-1):Nat):Int))&&fu p ((bl s.toNat:Int)-1)):=by
 unfold aW fu;by_cases f:p=0
 ·subst f;rw[if_pos rfl];have g:bl (0:Int).toNat=0:=rfl;rw[g];by_cases d:2<=bl s.toNat
  ·have b:¬((0:Nat):Int)=(bl s.toNat:Int)-1+1:=oO;rw[decide_eq_false b];have e:¬(2<s/\(2:Int)=s):=oO;by_cases c:2<s
   ·have a:¬(2:Int)=s:=oO;simp[a]
   ·simp[c]
  ·have a:¬2<s:=by
    intro h;have:=nT s oO;omega
   simp[d,a]
 ·rw[if_neg f,Bool.eq_iff_iff];simp only[Bool.and_eq_true,decide_eq_true_iff];constructor
  ·rintro⟨⟨⟨⟨d,b⟩,-⟩,c⟩,a⟩;have hb:=nT p d;have hs:bl s.toNat=bl p.toNat:=by
    rw[c,Int.toNat_natCast,uI];omega
   rw[hs];exact⟨⟨⟨hb,b⟩,c⟩,⟨by omega,by omega⟩,a⟩
  ·rintro⟨⟨⟨d,b⟩,e⟩,⟨c,a⟩,i⟩;have hs:bl p.toNat=bl s.toNat:=oO;rw[hs];have j:2<=p:=by
    have:=Ep p.toNat oO;rw[hs]at this;have k:2^1<=2^(bl s.toNat-1):=Nat.pow_le_pow_right oO oO;omega
   exact⟨⟨⟨⟨j,b⟩,trivial⟩,e⟩,i⟩
theorem EM (s p:Int) (w:World) (hs:s<=9223372036854775807) (h:bl s.toNat<2):
 Calls Tryz.prog 166 #[ba 2 s p] w λe w'=>e= .returned (.bool (aW 2 s p))/\Below w.heap.size w w':=by
 have a:aW 2 s p=false:=by rw[lq];simp;omega
 have b:=Lib.hid a;clear a;go_enter Tryz.func166,Tryz.ntmps166;go_wp2_with(go_at_call 207;refine(dW _ _ oO).mono ?_;rintro e w' ⟨rfl,rfl⟩)
 go_ret;exact⟨aN b.out.symm,(Below.refl _ _).alloc (Nat.le_refl _) _⟩
theorem Fx (s p:Int) (w:World) (hs:s<=9223372036854775807) (h:13<bl s.toNat):
 Calls Tryz.prog 166 #[ba 2 s p] w λe w'=>e= .returned (.bool (aW 2 s p))/\Below w.heap.size w w':=by
 have a:aW 2 s p=false:=by rw[lq];simp;omega
 have b:=Lib.hid a;clear a;go_enter Tryz.func166,Tryz.ntmps166;go_wp2_with(go_at_call 207;refine(dW _ _ oO).mono ?_;rintro e w' ⟨rfl,rfl⟩)
 go_ret;exact⟨aN b.out.symm,(Below.refl _ _).alloc (Nat.le_refl _) _⟩
theorem CT (s:Int) (a:bl s.toNat<=13):IntKind.i64.wrap (2^(bl s.toNat-1))=((2^(bl s.toNat-1):Nat):Int):=zn s a
theorem Fp (s z p:Int) (w:World) (hs:s<=9223372036854775807) (h:2<=bl s.toNat) (b:bl s.toNat<=13)
 (c:wrap64 (2^(bl s.toNat-1))=z) (d:(s==z)=false):
 Calls Tryz.prog 166 #[ba 2 s p] w λe w'=>e= .returned (.bool (aW 2 s p))/\Below w.heap.size w w':=by
 have a:aW 2 s p=false:=by
  rw[lq,<-CT s b,IntWalk.i64_left,c];have f:¬s=z:=ne_of_beq_false d;simp[f]
 have g:=Lib.hid a;clear a;go_enter Tryz.func166,Tryz.ntmps166;go_wp2_with(go_at_call 207;refine(dW _ _ oO).mono ?_;rintro e w' ⟨rfl,rfl⟩)
 go_ret;exact⟨aN g.out.symm,(Below.refl _ _).alloc (Nat.le_refl _) _⟩
theorem IE (n:Nat) (h:n<=13):wrap64 (2^n)=((2^n:Nat):Int):=by
 have h:=Nat.pow_le_pow_right (n:=2) oO h;rw[show((2:Int)^n)=((2^n:Nat):Int)from by simp];generalize 2^n=N at*;exact IntWalk.wrap64_in _ oO
theorem Ft (s z p:Int) (w:World) (hs:s<=9223372036854775807) (h:2<=bl s.toNat) (b:bl s.toNat<=13)
 (g:wrap64 (2^(bl s.toNat-1))=s) (f:wrap64 (2^(bl s.toNat))=z) (i:z<=p):
 Calls Tryz.prog 166 #[ba 2 s p] w λe w'=>e= .returned (.bool (aW 2 s p))/\Below w.heap.size w w':=by
 have a:aW 2 s p=false:=by
  rw[lq];rw[IE _ b]at f;have c:¬(bl p.toNat:Int)=(bl s.toNat:Int)-1+1:=by
   intro e;have:=(aR p.toNat (bl s.toNat)).1 oO;omega
  unfold fu;rw[decide_eq_false c];simp
 have d:=Lib.hid a;clear a;go_enter Tryz.func166,Tryz.ntmps166;go_wp2_with(go_at_call 207;refine(dW _ _ oO).mono ?_;rintro e w' ⟨rfl,rfl⟩)
 go_ret;exact⟨aN d.out.symm,(Below.refl _ _).alloc (Nat.le_refl _) _⟩
theorem FY (s z p:Int) (w:World) (hs:s<=9223372036854775807) (g:p<=9223372036854775807) (h:2<=bl s.toNat) (a:bl s.toNat<=13)
 (b:wrap64 (2^(bl s.toNat-1))=s) (i:wrap64 (2^(bl s.toNat))=z) (f:p<z):
 Calls Tryz.prog 166 #[ba 2 s p] w λe w'=>e= .returned (.bool (aW 2 s p))/\Below w.heap.size w w':=by
 have c:aW 2 s p=fu p ((bl s.toNat:Int)-1):=by
  rw[lq];rw[IntWalk.i64_left ..|>.symm,CT s a]at b;simp[h,a,b]
 have d:=Lib.hid c;clear c;go_enter Tryz.func166,Tryz.ntmps166;go_wp2_with(first|(go_at_call 207;refine(dW _ _ oO).mono ?_;rintro e w' ⟨rfl,rfl⟩)|(go_at_call 175;refine(yr _ _ _ oO oO oO).mono ?_;rintro e w' ⟨rfl,rfl⟩))
 go_ret;exact⟨aN d.out.symm,(Below.refl _ _).alloc (Nat.le_refl _) _⟩
theorem Ih (s p:Int) (w:World) (hs:s<=9223372036854775807) (d:p<=9223372036854775807):
 Calls Tryz.prog 166 #[ba 2 s p] w λe w'=>e= .returned (.bool (aW 2 s p))/\Below w.heap.size w w':=by
 by_cases h:2<=bl s.toNat
 ·by_cases a:bl s.toNat<=13
  ·by_cases b:s=wrap64 (2^(bl s.toNat-1))
   ·by_cases c:p<wrap64 (2^(bl s.toNat))
    ·exact FY s _ p w hs d h a b.symm rfl c
    ·exact Ft s _ p w hs h a b.symm rfl oO
   ·exact Fp s _ p w hs h a rfl (beq_false_of_ne b)
  ·exact Fx s p w hs oO
 ·exact EM s p w hs oO
theorem nB (c s p:Int) (hc:c≠2):aW c s p=(decide (c=s)&&decide (p=0)&&decide (3<=s)&&decide (s<=4096)&&fE s.toNat):=by
 unfold aW;by_cases e:p=0
 ·subst e;rw[if_pos rfl,Bool.eq_iff_iff];simp only[Bool.and_eq_true,decide_eq_true_iff];constructor
  ·rintro⟨⟨⟨f,a⟩,b⟩,d⟩;exact⟨⟨⟨⟨b,trivial⟩,by omega⟩,a⟩,d⟩
  ·rintro⟨⟨⟨⟨b,-⟩,f⟩,a⟩,d⟩;exact⟨⟨⟨by omega,a⟩,b⟩,d⟩
 ·rw[if_neg e];simp[e,hc]
theorem EA (c s p:Int) (w:World) (hc:(c==2)=false) (h:(c==s)=false):
 Calls Tryz.prog 166 #[ba c s p] w λe w'=>e= .returned (.bool (aW c s p))/\Below w.heap.size w w':=by
 have a:aW c s p=false:=by rw[nB c s p (ne_of_beq_false hc)];have:=ne_of_beq_false h;simp[this]
 have b:=Lib.hid a;clear a;go_enter Tryz.func166,Tryz.ntmps166;go_wp2;go_ret;exact⟨aN b.out.symm,(Below.refl _ _).alloc (Nat.le_refl _) _⟩
theorem FO (s p:Int) (w:World) (hc:(s==2)=false) (h:(p==0)=false):
 Calls Tryz.prog 166 #[ba s s p] w λe w'=>e= .returned (.bool (aW s s p))/\Below w.heap.size w w':=by
 have a:aW s s p=false:=by rw[nB s s p (ne_of_beq_false hc)];have:=ne_of_beq_false h;simp[this]
 have b:=Lib.hid a;clear a;go_enter Tryz.func166,Tryz.ntmps166;go_wp2;go_ret;exact⟨aN b.out.symm,(Below.refl _ _).alloc (Nat.le_refl _) _⟩
theorem FE (s:Int) (w:World) (hc:(s==2)=false) (h:s<3):
 Calls Tryz.prog 166 #[ba s s 0] w λe w'=>e= .returned (.bool (aW s s 0))/\Below w.heap.size w w':=by
 have a:aW s s 0=false:=by rw[nB s s 0 (ne_of_beq_false hc)];simp;omega
 have b:=Lib.hid a;clear a;go_enter Tryz.func166,Tryz.ntmps166;go_wp2;go_ret;exact⟨aN b.out.symm,(Below.refl _ _).alloc (Nat.le_refl _) _⟩
theorem Gr (s:Int) (w:World) (hc:(s==2)=false) (h:4096<s):
 Calls Tryz.prog 166 #[ba s s 0] w λe w'=>e= .returned (.bool (aW s s 0))/\Below w.heap.size w w':=by
 have a:aW s s 0=false:=by rw[nB s s 0 (ne_of_beq_false hc)];simp;omega
 have b:=Lib.hid a;clear a;go_enter Tryz.func166,Tryz.ntmps166;go_wp2;go_ret;exact⟨aN b.out.symm,(Below.refl _ _).alloc (Nat.le_refl _) _⟩
theorem Ga (s:Int) (w:World) (hc:(s==2)=false) (h:3<=s) (b:s<=4096):
 Calls Tryz.prog 166 #[ba s s 0] w λe w'=>e= .returned (.bool (aW s s 0))/\Below w.heap.size w w':=by
 have a:aW s s 0=fE s.toNat:=by rw[nB s s 0 (ne_of_beq_false hc)];simp[h,b]
 have c:=Lib.hid a;clear a;go_enter Tryz.func166,Tryz.ntmps166;go_wp2_with(first|(go_at_call 208;refine(Dg _ _ oO oO).mono ?_;rintro e w' ⟨rfl,rfl⟩))
 go_ret;exact⟨aN c.out.symm,(Below.refl _ _).alloc (Nat.le_refl _) _⟩
theorem D8 (c s p:Int) (w:World) (hs:s<=9223372036854775807) (f:p<=9223372036854775807):
 Calls Tryz.prog 166 #[ba c s p] w λe w'=>e= .returned (.bool (aW c s p))/\Below w.heap.size w w':=by
 by_cases hc:c=2
 ·subst hc;exact Ih s p w hs f
 ·by_cases h:c=s
  ·subst h;by_cases a:p=0
   ·subst a;by_cases b:3<=c
    ·by_cases d:c<=4096
     ·exact Ga c w (beq_false_of_ne hc) b d
     ·exact Gr c w (beq_false_of_ne hc) oO
    ·exact FE c w (beq_false_of_ne hc) oO
   ·exact FO c p w (beq_false_of_ne hc) (beq_false_of_ne a)
  ·exact EA c s p w (beq_false_of_ne hc) (beq_false_of_ne h)
end
end Go.Proofs.YtmnlkganmgcpbaaGreatDoor
