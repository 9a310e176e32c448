import Derived.Test.YtmnlkganmgcpbaaGreatDoorQi6
set_option maxRecDepth 100000
set_option maxHeartbeats 4000000
set_option linter.unusedVariables false
set_option linter.unusedSectionVars false
set_option linter.unusedSimpArgs false
set_option linter.defProp false
open Go.Value renaming int->I
open Go.IntKind renaming i64->J
open Bool renaming false->R,true->wP,eq_false_iff->WV
open Option renaming some->gk
open Go renaming World->wR,Calls->wS,exists_least->W7
open Go.Proofs.Tryz renaming prog->w1
open Go.RowKit renaming Hid->w2
open _root_ renaming if_neg->w6,if_pos->xl,congrArg->z7,absurd->A8
open Nat renaming le_trans->x3,lt_or_ge->z6,mul_le_mul->Cq,pow_le_pow_right->C3,eq_zero_or_pos->HS,pow_succ->H0,mul_comm->Uq,mod_lt->UH,mul_le_mul_right->UU,mod_eq_of_lt->Vo,dvd_of_mod_eq_zero->Wh,le_of_dvd->Wl
open List renaming replicate->y0,range->y3,mem_cons->AQ,map_congr_left->A9,length_cons->Co,all_eq_true->E2,ext_getElem->Um,nodup_cons->U0,append_of_mem->V5
open Int renaming eq_ofNat_of_zero_le->Av,le_of_lt->WB
open Go.Lib renaming hid->A7
open Classical renaming choose_spec->Uy,propDecidable->UD,choose->U9
open Go.Proofs.Tryz
namespace Go.Proofs.YtmnlkganmgcpbaaGreatDoor
class Fl (K:Type) where
 add:K->K->K
 mul:K->K->K
 neg:K->K
 zero:K
 one:K
 add_assoc:∀a b c,add (add a b) c=add a (add b c)
 add_comm:∀a b,add a b=add b a
 zero_add:∀a,add zero a=a
 neg_add:∀a,add (neg a) a=zero
 mul_assoc:∀a b c,mul (mul a b) c=mul a (mul b c)
 mul_comm:∀a b,mul a b=mul b a
 one_mul:∀a,mul one a=a
 add_mul:∀a b c,mul (add a b) c=add (mul a c) (mul b c)
 Ml:one≠zero
 TG:∀a b,mul a b=zero->a=zero\/b=zero
 dec:DecidableEq K
 Ii:List K
 nodup:Ii.Nodup
 mem:∀a,a∈Ii
namespace Fl
variable {K : Type} [Fl K]
instance:Add K:=⟨Fl.add⟩
instance:Mul K:=⟨Fl.mul⟩
instance:Neg K:=⟨Fl.neg⟩
instance:Sub K:=⟨λa b=>a+-b⟩
instance:Zero K:=⟨Fl.zero⟩
instance:One K:=⟨Fl.one⟩
instance:DecidableEq K:=Fl.dec
def npow (a:K):Nat->K
 |0=>1
 |n+1=>npow a n* a
instance:HPow K Nat K:=⟨npow⟩
instance:Std.Associative (α:=K) (·+·):=⟨Fl.add_assoc⟩
instance:Std.Commutative (α:=K) (·+·):=⟨Fl.add_comm⟩
instance:Std.Associative (α:=K) (·* ·):=⟨Fl.mul_assoc⟩
instance:Std.Commutative (α:=K) (·* ·):=⟨Fl.mul_comm⟩
end Fl
open Fl
variable {K : Type} [Fl K]
theorem iu (a b c:K):a+b+c=a+(b+c):=Fl.add_assoc a b c
theorem gT (a b:K):a+b=b+a:=Fl.add_comm a b
theorem cH (a:K):0+a=a:=Fl.zero_add a
theorem bB (a:K):a+0=a:=by rw[gT];exact cH a
theorem fH (a:K):-a+a=0:=Fl.neg_add a
theorem oz (a:K):a+-a=0:=by rw[gT];exact fH a
theorem gJ (a b:K):a-b=a+-b:=rfl
theorem cJ (a b c:K):a* b* c=a* (b* c):=Fl.mul_assoc a b c
theorem cC (a b:K):a* b=b* a:=Fl.mul_comm a b
theorem eY (a:K):1* a=a:=Fl.one_mul a
theorem fT (a:K):a* 1=a:=by rw[cC];exact eY a
theorem j5 (a b c:K):(a+b)* c=a* c+b* c:=Fl.add_mul a b c
theorem jh (a b c:K):a* (b+c)=a* b+a* c:=by rw[cC,j5,cC b,cC c]
theorem lU:(1:K)≠0:=Fl.Ml
theorem Bu {a b:K} (h:a* b=0):a=0\/b=0:=Fl.TG a b h
theorem qB {a b c:K} (h:a+b=a+c):b=c:=by
 have:=z7 (λx=>-a+x) h;simpa[<-iu,fH,cH]using this
theorem gO {a b c:K} (h:b+a=c+a):b=c:=by
 rw[gT b,gT c]at h;exact qB h
theorem cG (a:K):0* a=0:=by
 have h:0* a+0* a=0* a+0:=by rw[<-j5,bB,bB]
 exact qB h
theorem bw (a:K):a* 0=0:=by rw[cC];exact cG a
theorem oI (a b:K):-a* b=-(a* b):=by
 apply gO (a:=a* b);rw[<-j5,fH,fH,cG]
theorem sV (a b:K):a*-b=-(a* b):=by rw[cC,oI,cC]
theorem oa (a:K):- -a=a:=by
 apply gO (a:=-a);rw[fH,oz]
theorem uU:(-0:K)=0:=by
 apply gO (a:=(0:K));rw[fH,bB]
theorem mH (a b:K):-(a+b)=-a+-b:=by
 apply gO (a:=a+b);rw[fH,show-a+-b+(a+b)=(-a+a)+(-b+b)from by ac_rfl,fH,fH,bB]
theorem du (a:K):a-a=0:=oz a
theorem fX (a:K):a-0=a:=by rw[gJ,uU,bB]
theorem ME (a:K):0-a=-a:=cH _
theorem rq (a b:K):a-b+b=a:=by rw[gJ,iu,fH,bB]
theorem jg {a b:K}:a-b=0↔a=b:=by
 constructor
 ·intro h;have:=rq a b;rw[h,cH]at this;exact this.symm
 ·intro h;subst h;exact du a
theorem Ob (a b c:K):(a-b)* c=a* c-b* c:=by rw[gJ,j5,oI];rfl
theorem O9 (a b c:K):a* (b-c)=a* b-a* c:=by rw[gJ,jh,sV];rfl
theorem kG {a b c:K} (e:a≠0) (h:a* b=a* c):b=c:=by
 have f:a* (b-c)=0:=by rw[O9,h,du]
 rcases Bu f with d|d
 ·exact A8 d e
 ·exact jg.1 d
theorem k8 {a b:K} (c:a≠0) (hb:b≠0):a* b≠0:=by
 intro h;rcases Bu h with h|h
 ·exact c h
 ·exact hb h
theorem gP {a b c:K} (d:a≠0) (h:b* a=c* a):b=c:=by
 rw[cC b,cC c]at h;exact kG d h
theorem ko (a:K):a^0=1:=rfl
theorem eW (a:K) (n:Nat):a^(n+1)=a^n* a:=rfl
theorem iO (a:K) (m n:Nat):a^(m+n)=a^m* a^n:=by
 induction n with
 |zero=>rw[ko,fT];rfl
 |succ n b=>rw[<-Nat.add_assoc,eW,b,eW,cJ]
theorem j3 (n:Nat):(1:K)^n=1:=by
 induction n with
 |zero=>rfl
 |succ n a=>rw[eW,a,eY]
theorem gA (a:K) (m n:Nat):a^(m* n)=(a^m)^n:=by
 induction n with
 |zero=>rfl
 |succ n b=>rw[Nat.mul_succ,iO,b,eW]
theorem oL (a b:K) (n:Nat):(a* b)^n=a^n* b^n:=by
 induction n with
 |zero=>rw[ko,ko,ko,eY]
 |succ n c=>rw[eW,eW,eW,c];ac_rfl
theorem LQ (n:Nat) (h:n≠0):(0:K)^n=0:=by
 obtain⟨m,rfl⟩:∃m,n=m+1:=⟨n-1,by omega⟩;rw[eW,bw]
theorem jB {a:K} (b:a≠0) (n:Nat):a^n≠0:=by
 induction n with
 |zero=>exact lU
 |succ n c=>rw[eW];exact k8 c b
def jx (K:Type) [Fl K]:Nat:=(Ii:List K).length
def l3 (K:Type) [Fl K]:List K:=(Ii:List K).filter (λa=>a≠0)
theorem jG {a:K}:a∈l3 K↔a≠0:=by
 unfold l3;simp[Fl.mem]
theorem rZ:(l3 K).Nodup:=Fl.nodup.filter _
theorem N7:(Ii:List K).Perm (0::l3 K):=by
 refine(List.perm_ext_iff_of_nodup Fl.nodup ?_).2 ?_
 ·rw[U0];exact⟨by rw[jG];simp,rZ⟩
 ·intro a;simp only[Fl.mem,AQ,jG,true_iff];by_cases h:a=0
  ·exact .inl h
  ·exact .inr h
theorem nR:(l3 K).length+1=jx K:=by
 have:=(N7 (K:=K)).length_eq;simp only[Co]at this;exact this.symm
theorem AK:2<=jx K:=by
 rw[<-nR];have h:(1:K)∈l3 K:=jG.2 lU;have:=List.length_pos_of_mem h;omega
def uE:List K->K
 |[]=>1
 |a::b=>a* uE b
theorem OP {a m:List K} (h:a.Perm m):uE a=uE m:=by
 induction h with
 |nil=>rfl
 |cons x _ b=>simp only[uE,b]
 |swap x y a=>simp only[uE];ac_rfl
 |trans _ _ c d=>rw[c,d]
theorem Hk (a:K) (b:List K):uE (b.map (a* ·))=a^b.length* uE b:=by
 induction b with
 |nil=>simp only[List.map_nil,uE,List.length_nil,ko,eY]
 |cons x b c=>simp only[List.map_cons,uE,c,Co,eW];ac_rfl
theorem SJ {b:List K} (h:∀a∈b,a≠0):uE b≠0:=by
 induction b with
 |nil=>exact lU
 |cons x b c=>exact k8 (h x oS) (c λa d=>h a (by simp[d]))
theorem ni {d j:Type} {f:d->j} {c:List d} (g:∀a∈c,∀b∈c,f a=f b->a=b) (h:c.Nodup):(c.map f).Nodup:=by
 induction c with
 |nil=>simp
 |cons x c k=>
  rw[U0]at h;rw[List.map_cons,U0];refine⟨?_,k (λa l b hb=>g a (by simp[l]) b (by simp[hb])) h.2⟩;intro m;obtain⟨y,i,e⟩:=List.mem_map.1 m;have:=g y (by simp[i]) x oS e;subst this;exact h.1 i
theorem length_le_of_subset {e:Type} {c m:List e} (hl:c.Nodup) (h:∀a∈c,a∈m):c.length<=m.length:=by
 induction c generalizing m with
 |nil=>simp
 |cons x c g=>
  rw[U0]at hl;obtain⟨s,f,rfl⟩:=V5 (h x oS)
  have:=g (m:=s++f) hl.2 (λa d=>by
   have b:=h a (by simp[d]);simp only[List.mem_append,AQ]at b⊢;rcases b with b|b|b
   ·exact .inl b
   ·subst b;exact A8 d hl.1
   ·exact .inr b)
  simp only[List.length_append,Co]at this⊢;omega
theorem sG {f:Type} {c m:List f} (hl:c.Nodup) (h:∀a∈c,a∈m) (e:m.length<=c.length):c.Perm m:=by
 induction c generalizing m with
 |nil=>
  have:m=[]:=List.length_eq_zero_iff.1 (by simpa using e);subst this;exact List.Perm.refl _
 |cons x c i=>
  rw[U0]at hl;obtain⟨s,g,rfl⟩:=V5 (h x oS)
  have:=i (m:=s++g) hl.2 (λa d=>by
   have b:=h a (by simp[d]);simp only[List.mem_append,AQ]at b⊢;rcases b with b|b|b
   ·exact .inl b
   ·subst b;exact A8 d hl.1
   ·exact .inr b) (by simp only[List.length_append,Co]at e⊢;omega)
  exact(this.cons x).trans List.perm_middle.symm
theorem za {a:K} (d:a≠0):a^(jx K-1)=1:=by
 have g:((l3 K).map (a* ·)).Perm (l3 K):=by
  refine sG (ni (λx _ y _ e=>kG d e) rZ) ?_ oS;intro b hb;obtain⟨x,c,rfl⟩:=List.mem_map.1 hb;exact jG.2 (k8 d (jG.1 c))
 have f:=OP g;rw[Hk]at f;have i:uE (l3 K)≠0:=SJ λx c=>jG.1 c;have j:(l3 K).length=jx K-1:=by have:=nR (K:=K);omega
 rw[<-j];exact gP i (by rw[f,eY])
def eP (a:K):K:=a^(jx K-2)
theorem ie {a:K} (b:a≠0):a* eP a=1:=by
 have h:=za b;have:=AK (K:=K);rw[show jx K-1=(jx K-2)+1 from by omega,eW]at h;rw[cC];exact h
theorem Eb {a:K} (b:a≠0):eP a* a=1:=by rw[cC,ie b]
theorem xc {a:K} (b:a≠0):eP a≠0:=jB b _
theorem W7 {P:Nat->Prop} (h:∃n,P n):∃n,P n/\∀m,m<n->¬P m:=by
 obtain⟨n,hn⟩:=h
 induction n using Nat.strongRecOn with
 |_ n d=>
  by_cases c:∃m,m<n/\P m
  ·obtain⟨m,a,b⟩:=c;exact d m a b
  ·exact⟨n,hn,λm a b=>c ⟨m,a,b⟩⟩
def dM (a:K) (k:Nat):Prop:=1<=k/\a^k=1/\∀m,1<=m->m<k->a^m≠1
theorem va {a:K} (b:a≠0):∃k,dM a k:=by
 obtain⟨k,⟨c,d⟩,e⟩:=W7 (P:=λk=>1<=k/\a^k=1) ⟨jx K-1,by have:=AK (K:=K);omega,za b⟩;exact⟨k,c,d,λm f i g=>e m i ⟨f,g⟩⟩
theorem dM.unique {a:K} {k b:Nat} (h:dM a k) (c:dM a b):k=b:=by
 by_cases d:k<b
 ·exact A8 h.2.1 (c.2.2 k h.1 d)
 ·by_cases e:b<k
  ·exact A8 c.2.1 (h.2.2 b c.1 e)
  ·omega
theorem dM.ne {a:K} {k:Nat} (h:dM a k):a≠0:=by
 intro e;subst e;have:=h.2.1;rw[LQ _ (by have:=h.1;omega)]at this;exact lU this.symm
theorem yy {a:K} {k:Nat} (h:a^k=1) (m:Nat):a^m=a^(m%k):=by
 conv=>lhs;rw[<-Nat.div_add_mod m k,iO,gA,h,j3,eY]
theorem dM.dvd {a:K} {k m:Nat} (h:dM a k):a^m=1↔k∣m:=by
 constructor
 ·intro e;rw[yy h.2.1]at e;by_cases b:m%k=0
  ·exact Wh b
  ·exact A8 e (h.2.2 _ oO (UH _ (by have:=h.1;omega)))
 ·rintro⟨c,rfl⟩;rw[gA,h.2.1,j3]
theorem dM.Ou {a:K} {k:Nat} (h:dM a k):k∣jx K-1:=h.dvd.1 (za h.ne)
theorem dM.le {a:K} {k:Nat} (h:dM a k):k<=jx K-1:=
 Wl (by have:=AK (K:=K);omega) h.Ou
theorem dM.inj {a:K} {k b c:Nat} (h:dM a k) (d:b<k) (f:c<k) (e:a^b=a^c):b=c:=by
 have g:∀b c,b<=c->b<k->c<k->a^b=a^c->b=c:=by
  intro b c j d f e;have e2:a^b* a^(c-b)=a^b* 1:=by rw[<-iO,fT,show b+(c-b)=c from by omega];exact e.symm
  have e3:=kG (jB h.ne b) e2;by_cases i:c-b=0
  ·omega
  ·exact A8 e3 (h.2.2 _ oO oO)
 rcases Nat.le_total b c with hl|hl
 ·exact g b c hl d f e
 ·exact(g c b hl f d e.symm).symm
theorem dM.pow {a:K} {d e:Nat} (h:dM a (d* e)) (c:1<=d):dM (a^d) e:=by
 refine⟨?_,by rw[<-gA];exact h.2.1,?_⟩
 ·rcases HS e with b|b
  ·subst b;have:=h.1;omega
  ·exact b
 ·intro m g i f;rw[<-gA]at f;have:d* m<d* e:=Nat.mul_lt_mul_of_pos_left i c;exact h.2.2 _ (Nat.mul_pos c g) this f
theorem dM.mul {a b:K} {m k:Nat} (d:dM a m) (hb:dM b k) (hc:Nat.Coprime m k):dM (a* b) (m* k):=by
 have i:1<=m* k:=Nat.mul_pos d.1 hb.1;have f:(a* b)^(m* k)=1:=by
  rw[oL,gA,d.2.1,j3,Uq,gA,hb.2.1,j3,eY]
 refine⟨i,f,?_⟩;intro c g j e;have e1:k∣c:=by
  have:b^(m* c)=1:=by
   have:=z7 (λx=>x^m) e;simp only[j3,<-gA]at this;rw[oL,Uq c m,gA a,d.2.1,j3,eY]at this;exact this
  exact hc.symm.dvd_of_dvd_mul_left (hb.dvd.1 this)
 have e2:m∣c:=by
  have:a^(k* c)=1:=by
   have:=z7 (λx=>x^k) e;simp only[j3,<-gA]at this;rw[oL,Uq c k,gA b,hb.2.1,j3,fT]at this;exact this
  exact hc.dvd_of_dvd_mul_left (d.dvd.1 this)
 have:=Wl g (hc.mul_dvd_of_dvd_of_dvd e2 e1);omega
theorem strip (q:Nat) (hq:2<=q) (m:Nat) (e:1<=m):∃b a,m=q^b* a/\¬q∣a:=by
 induction m using Nat.strongRecOn with
 |_ m f=>
  by_cases h:q∣m
  ·obtain⟨c,rfl⟩:=h;have hc:1<=c:=by
    rcases HS c with d|d
    ·subst d;simp at e
    ·exact d
   obtain⟨b,a,g,i⟩:=f c (by have:=UU c hq;omega) hc;exact⟨b+1,a,by rw[g,H0];ac_rfl,i⟩
  ·exact⟨0,m,by simp,h⟩
theorem DI (c:Nat) (hc:2<=c):∃q,2<=q/\q∣c/\∀d,d∣q->d=1\/d=q:=by
 obtain⟨q,⟨e,b⟩,f⟩:=W7 (P:=λq=>2<=q/\q∣c) ⟨c,hc,Nat.dvd_refl c⟩;refine⟨q,e,b,λd a=>?_⟩;have j:d≠0:=by intro h;subst h;have:=Nat.eq_zero_of_zero_dvd a;omega
 have k:=Wl oO a;by_cases g:d=1
 ·exact .inl g
 by_cases i:d=q
 ·exact .inr i
 exact A8 ⟨by omega,Nat.dvd_trans a b⟩ (f d oO)
theorem qI {q a:Nat} (hq:∀d,d∣q->d=1\/d=q) (h:¬q∣a):Nat.Coprime q a:=by
 rcases hq (Nat.gcd q a) (Nat.gcd_dvd_left q a)with b|b
 ·exact b
 ·exact A8 (b▸Nat.gcd_dvd_right q a) h
theorem C5 {a b:K} {m k:Nat} (n:dM a m) (hb:dM b k) (hn:¬k∣m):∃c l,dM (c:K) l/\m<l:=by
 have hg:Nat.gcd k m∣k:=Nat.gcd_dvd_left k m;obtain⟨c,hc⟩:=hg;have G:1<=Nat.gcd k m:=Nat.gcd_pos_of_pos_left _ hb.1;have z:2<=c:=by
  rcases z6 c 2 with h|h
  ·have:c=0\/c=1:=oO;rcases this with d|d
   ·subst d;have:=hb.1;rw[Nat.mul_zero]at hc;omega
   ·subst d;rw[Nat.mul_one]at hc;exact A8 (hc▸Nat.gcd_dvd_right k m) hn
  ·exact h
 obtain⟨q,p,A,B⟩:=DI c z;obtain⟨s,g,i,r⟩:=strip q p k hb.1;obtain⟨f,o,j,C⟩:=strip q p m n.1;have D:f<s:=by
  rcases z6 f s with h|h
  ·exact h
  ·exfalso;have u:q^s∣m:=by rw[j];exact Nat.dvd_trans (Nat.pow_dvd_pow q h) (Nat.dvd_mul_right _ _)
   have v:q^s∣k:=by rw[i];exact Nat.dvd_mul_right _ _
   obtain⟨e,w⟩:=Nat.dvd_gcd v u;have x:q^s* g=q^s* (e* c):=by rw[<-i,<-Nat.mul_assoc,<-w,<-hc]
   have y:g=e* c:=Nat.eq_of_mul_eq_mul_left (Nat.pow_pos oO) x;exact r (y▸Nat.dvd_trans A (Nat.dvd_mul_left c e))
 have E:dM (b^g) (q^s):=dM.pow (by rw[Uq,<-i];exact hb) (by
  rcases HS g with d|d
  ·subst d;exact A8 (Nat.dvd_zero q) r
  ·exact d)
 have t:dM (a^(q^f)) o:=dM.pow (by rw[<-j];exact n) (Nat.pow_pos oO);refine⟨_,_,dM.mul E t (Nat.Coprime.pow_left s (qI B C)),?_⟩;have F:1<=o:=t.1;have:q^f<q^s:=Nat.pow_lt_pow_right oO D;rw[j];exact Nat.mul_lt_mul_of_pos_right this F
def ev (x:K):List K->K
 |[]=>0
 |c::a=>c+x* ev x a
def sd (a:K):List K->List K
 |[]=>[]
 |[_]=>[]
 |_::d::b=>ev a (d::b)::sd a (d::b)
theorem Ll (e:K) (a:List K):(sd e a).length=a.length-1:=by
 induction a with
 |nil=>rfl
 |cons c b f=>cases b with
  |nil=>rfl
  |cons d b=>simp only[sd,Co]at f⊢;omega
theorem Tq (a x:K) (e:List K):ev x e=(x-a)* ev x (sd a e)+ev a e:=by
 induction e with
 |nil=>simp only[ev,sd,bw,bB]
 |cons c b f=>cases b with
  |nil=>simp only[ev,sd,bw,bB,cH]
  |cons d b=>
   have e1:ev x (c::d::b)=c+x* ev x (d::b):=rfl;have e2:ev a (c::d::b)=c+a* ev a (d::b):=rfl;have e3:ev x (sd a (c::d::b))=ev a (d::b)+x* ev x (sd a (d::b)):=rfl;rw[e1,e2,e3,f];generalize ev a (d::b)=u;generalize ev x (sd a (d::b))=v;simp only[jh,gJ,j5];rw[show x* u+-a* u+(x* (x* v)+-a* (x* v))+(c+a* u)=(-a* u+a* u)+(c+(x* (x* v)+x* (-a* v)+x* u))from by ac_rfl];rw[show-a* u+a* u=0 from by rw[oI,fH],cH]
theorem QZ (b:K) (f:List K) (h:2<=f.length):(sd b f).getLast?=f.getLast?:=by
 induction f with
 |nil=>simp at h
 |cons c a g=>cases a with
  |nil=>simp at h
  |cons d a=>
   cases a with
   |nil=>simp[sd,ev,bw,bB]
   |cons e a=>
    have:=g oS;have i:sd b (c::d::e::a)=ev b (d::e::a)::sd b (d::e::a):=rfl;rw[i];have j:sd b (d::e::a)=ev b (e::a)::sd b (e::a):=rfl;rw[j]at this⊢;simp only[List.getLast?_cons_cons]at this⊢;exact this
theorem Fu (a:List K) (c:K) (hc:a.getLast?=gk c) (l:c≠0) (b:List K) (hl:b.Nodup) (i:∀x∈b,ev x a=0):b.length<a.length:=by
 induction b generalizing a with
 |nil=>
  have:a≠[]:=by intro h;subst h;simp at hc
  exact List.length_pos_iff.2 this
 |cons f b k=>
  rw[U0]at hl;by_cases g:2<=a.length
  ·have:=k (sd f a) (by rw[QZ f a g];exact hc) hl.2 (by
    intro x j;have e:=Tq f x a;rw[i x (by simp[j]),i f oS,bB]at e;rcases Bu e.symm with h|h
    ·rw[jg]at h;subst h;exact A8 j hl.1
    ·exact h)
   rw[Ll]at this;simp only[Co];omega
  ·exfalso
   match a,hc,g with
   |[],hc,_=>simp at hc
   |[d],hc,_=>
    have:d=c:=by simpa using hc
    subst this;have:=i f oS;simp only[ev,bw,bB]at this;exact l this
   |_::_::_,_,g=>simp at g
theorem Tw (x:K) (e:Nat):ev x (y0 e (0:K)++[1])=x^e:=by
 induction e with
 |zero=>simp only[List.replicate_zero,List.nil_append,ev,bw,bB,ko]
 |succ e a=>simp only[List.replicate_succ,List.cons_append,ev,a,cH,eW];exact cC _ _
theorem yF {e:Nat} (f:1<=e) (h:∀a:K,a≠0->a^e=1):jx K-1<=e:=by
 obtain⟨e,rfl⟩:∃d,e=d+1:=⟨e-1,by omega⟩
 have:=Fu (K:=K) (-1::(y0 e (0:K)++[1])) 1 (by rw[List.getLast?_cons];simp) lU (l3 K) rZ (by
  intro x b;have c:=h x (jG.1 b);simp only[ev,Tw]
  rw[cC,<-eW,c,fH])
 simp only[Co,List.length_append,List.length_replicate,List.length_nil]at this;have:=nR (K:=K);omega
theorem SE:∃e:K,dM e (jx K-1):=by
 have key:∀d:Nat,∀a:K,∀m,dM a m->jx K-1-m<=d->∃e:K,dM e (jx K-1):=by
  intro d
  induction d with
  |zero=>
   intro a m h f;have:=h.le;obtain rfl:m=jx K-1:=oO;exact⟨a,h⟩
  |succ d n=>
   intro a m h f;by_cases j:∀b:K,b≠0->b^m=1
   ·have:=yF h.1 j;have:=h.le;obtain rfl:m=jx K-1:=oO;exact⟨a,h⟩
   ·have:∃b:K,b≠0/\b^m≠1:=by
     apply Classical.byContradiction;intro p;exact j λb hb=>Classical.byContradiction λo=>p ⟨b,hb,o⟩
    obtain⟨b,hb,q⟩:=this;obtain⟨k,g⟩:=va hb;obtain⟨c,l,i,r⟩:=C5 h g (λf=>q (g.dvd.2 f));exact n c l i (by have:=i.le;omega)
 exact key (jx K) 1 1 ⟨Nat.le_refl 1,j3 1,λm s r=>by omega⟩ oO
def nA (a:Nat):Bool:=(y3 (2^((bl a-1)/2+1))).all λq=>decide (q<2)||cmod a q !=0
theorem qo (a:Nat):nA a=wP↔∀q,2<=q->2* (bl q-1)<=bl a-1->cmod a q≠0:=by
 unfold nA;rw[E2];constructor
 ·intro h q b c;have hb:=ic q oO;have:=h q (List.mem_range.2 ((bc _ _).1 oO));simp at this;omega
 ·intro h q hq;have d:=(bc q _).2 (List.mem_range.1 hq);by_cases b:q<2
  ·simp[b]
  ·have:=h q oO (by have:=ic q oO;omega);simp[this]
def jf (n:Nat):Bool:=decide (2<=n)&&(y3 (n+1)).all λd=>decide (d<2)||decide (n<d* d)||n%d !=0
theorem qb (n:Nat):jf n=wP↔2<=n/\∀d,2<=d->d* d<=n->n%d≠0:=by
 unfold jf;rw[Bool.and_eq_true,E2,decide_eq_true_iff];constructor
 ·rintro⟨a,h⟩;refine⟨a,λd b c=>?_⟩;have f:d<=n:=x3 (Nat.le_mul_of_pos_left d oO) c;have:=h d (List.mem_range.2 oO);simp at this;omega
 ·rintro⟨a,h⟩;refine⟨a,λd _=>?_⟩;by_cases b:d<2
  ·simp[b]
  ·by_cases e:n<d* d
   ·simp[e]
   ·have:=h d oO oO;simp[this]
theorem MI {n:Nat} (h:jf n=wP):∀d,d∣n->d=1\/d=n:=by
 obtain⟨i,b⟩:=(qb n).1 h;intro d f;obtain⟨e,a⟩:=f;have j:d≠0:=by intro h;subst h;omega
 have k:e≠0:=by intro h;subst h;omega
 by_cases c:d=1
 ·exact .inl c
 by_cases e1:e=1
 ·subst e1;right;omega
 exfalso;by_cases g:d<=e
 ·have:d* d<=n:=by rw[a];exact Nat.mul_le_mul_left d g
  exact b d oO this (by rw[a];exact Nat.mul_mod_right d e)
 ·have:e* e<=n:=by rw[a];exact UU e oO
  exact b e oO this (Nat.mod_eq_zero_of_dvd ⟨d,by rw[a,Uq]⟩)
theorem SU {a d:Nat} (e:bl a=d+1) (f:1<=d) (h:nA a=wP):TB a:=by
 refine⟨by omega,λq hq b c=>?_⟩;exact(qo a).1 h q hq b ((qx a q oO).2 c)
def VF (c s a:Nat):Prop:=
 (a=0/\c=s/\2<s/\s<=4096/\jf s=wP)\/(∃d,1<=d/\d<=12/\bl a=d+1/\s=2^d/\c=2/\nA a=wP)
def bU (s c a b:Nat):Nat:=if c=0 then(a+b)%s else a^^^b
def wg (s b a:Nat):Nat:=if b=0 then(s-a)%s else a
structure El (s:Nat) where
 val:Nat
 lt:val<s
theorem El.ext {s:Nat} {a b:El s} (h:a.val=b.val):a=b:=by
 cases a;cases b;simp only at h;subst h;rfl
theorem VF.aO {c s a:Nat} (h:VF c s a):2<=s:=by
 rcases h with⟨-,-,h,-⟩|⟨d,b,-,-,h,-⟩
 ·omega
 ·rw[h];exact C3 (n:=2) oO b
theorem VF.le {c s a:Nat} (h:VF c s a):s<=4096:=by
 rcases h with⟨-,-,-,h,-⟩|⟨d,-,b,-,h,-⟩
 ·omega
 ·rw[h];exact C3 (n:=2) oO b
theorem lR {c s f:Nat} (h:VF c s f) (a b:Nat) (g:a<s) (hb:b<s):bU s f a b<s:=by
 have i:=h.aO;unfold bU;rcases h with⟨e,-⟩|⟨d,-,-,e,hs,-⟩
 ·rw[xl e];exact UH _ oO
 ·rw[w6 (by intro h;subst h;rw[eJ]at e;omega)];subst hs;exact Nat.xor_lt_two_pow g hb
theorem P3 {c s b:Nat} (h:VF c s b) (a:Nat) (d:a<s):wg s b a<s:=by
 unfold wg;split
 ·exact UH _ (by have:=h.aO;omega)
 ·exact d
theorem bk {c s e:Nat} (h:VF c s e) (a b:Nat):aA s e a b<s:=by
 have i:=h.aO;unfold aA;rcases h with⟨f,-⟩|⟨d,-,-,f,hs,-⟩
 ·rw[xl f];exact UH _ oO
 ·have g:e≠0:=by intro h;subst h;rw[eJ]at f;omega
  rw[w6 g];subst hs;exact(bc _ _).1 (by have:=mV (cj a b) e g;omega)
theorem qP (a b n:Nat):(a%n)* b%n=a* b%n:=by rw[Nat.mul_mod,Nat.mod_mod,<-Nat.mul_mod]
theorem xe (a b n:Nat):a* (b%n)%n=a* b%n:=by rw[Nat.mul_mod,Nat.mod_mod,<-Nat.mul_mod]
theorem Ga (a s:Nat) (b:a<s):((s-a)%s+a)%s=0:=by
 by_cases h:a=0
 ·subst h;simp
 ·rw[Vo (by omega:s-a<s),show s-a+a=s from by omega,Nat.mod_self]
instance Tf (s:Nat):DecidableEq (El s):=λa b=>
 if h:a.val=b.val then isTrue (El.ext h)else isFalse (λe=>h (by rw[e]))
theorem F5 {c s f:Nat} (h:VF c s f) (a b:Nat) (k:a<s) (hb:b<s) (e:aA s f a b=0):a=0\/b=0:=by
 unfold aA at e;rcases h with⟨g,-,-,-,n⟩|⟨d,l,-,g,hs,-,o⟩
 ·rw[xl g]at e;have m:=Wh e;by_cases i:s∣a
  ·left;by_cases p:a=0
   ·exact p
   ·exact A8 (Wl oO i) oO
  ·right;have hc:=qI (MI n) i;have q:=hc.dvd_of_dvd_mul_left m;by_cases r:b=0
   ·exact r
   ·exact A8 (Wl oO q) oO
 ·have j:f≠0:=by intro h;subst h;rw[eJ]at g;omega
  rw[w6 j]at e;subst hs;have t:=(bc _ _).2 k;have u:=(bc _ _).2 hb;rcases Sz f a b (SU g l o) ((qx _ _ j).1 e)with h|h
  ·exact .inl (sT h oO)
  ·exact .inr (sT h oO)
@[reducible] def fA {c s f:Nat} (h:VF c s f):Fl (El s) where
 add a b:=⟨bU s f a.val b.val,lR h _ _ a.lt b.lt⟩
 mul a b:=⟨aA s f a.val b.val,bk h _ _⟩
 neg a:=⟨wg s f a.val,P3 h _ a.lt⟩
 zero:=⟨0,by have:=h.aO;omega⟩
 one:=⟨1,by have:=h.aO;omega⟩
 add_assoc a b c:=El.ext (by
  simp only[bU];split
  ·rw[Nat.mod_add_mod,Nat.add_mod_mod,Nat.add_assoc]
  ·exact Nat.xor_assoc _ _ _)
 add_comm a b:=El.ext (by
  simp only[bU];split
  ·rw[Nat.add_comm]
  ·exact Nat.xor_comm _ _)
 zero_add a:=El.ext (by
  simp only[bU];split
  ·rw[Nat.zero_add];exact Vo a.lt
  ·exact Nat.zero_xor _)
 neg_add a:=El.ext (by
  simp only[bU,wg];split
  ·exact Ga _ _ a.lt
  ·exact Nat.xor_self _)
 mul_assoc a b c:=El.ext (by
  simp only[aA];split
  ·rw[qP,xe,Nat.mul_assoc]
  ·rename_i hp;rw[oE _ _ _ hp,Au _ _ _ hp,tK])
 mul_comm a b:=El.ext (by
  simp only[aA];split
  ·rw[Uq]
  ·rw[pr])
 one_mul a:=El.ext (by
  simp only[aA];rcases h with⟨hp,-⟩|⟨d,-,-,hp,hs,-⟩
  ·rw[xl hp,Nat.one_mul];exact Vo a.lt
  ·have i:f≠0:=by intro h;subst h;rw[eJ]at hp;omega
   rw[w6 i,x5];have:=a.lt;subst hs
   exact kI _ _ (by have:=(bc _ _).2 this;omega))
 add_mul a b c:=El.ext (by
  simp only[aA,bU];split
  ·rw[qP,Nat.add_mul,Nat.mod_add_mod,Nat.add_mod_mod]
  ·rename_i hp;rw[th,D4 _ _ _ hp])
 Ml:=by intro e;have:=z7 El.val e;simp at this
 TG a b e:=by
  rcases F5 h a.val b.val a.lt b.lt (z7 El.val e)with h|h
  ·exact .inl (El.ext h)
  ·exact .inr (El.ext h)
 dec:=Tf s
 Ii:=(List.finRange s).map λg=>⟨g.val,g.isLt⟩
 nodup:=ni (λa _ b _ e=>Fin.ext (z7 El.val e)) (List.nodup_finRange s)
 mem a:=List.mem_map.2 ⟨⟨a.val,a.lt⟩,List.mem_finRange _,rfl⟩
theorem lW {c s a:Nat} (h:VF c s a):@jx (El s) (fA h)=s:=by
 show((List.finRange s).map _).length=s;simp
def aM (s b a:Nat):Nat->Nat
 |0=>1
 |n+1=>aA s b (aM s b a n) a
theorem fg {c s b:Nat} (h:VF c s b) (a:El s) (n:Nat):aM s b a.val n=(@HPow.hPow (El s) Nat (El s) (@Fl.instHPowNat (El s) (fA h)) a n).val:=by
 induction n with
 |zero=>rfl
 |succ n d=>simp only[aM];rw[d];rfl
section
variable {c s p : Nat} (h : VF c s p)
include h
theorem mC (a n:Nat):aM s p a n<s:=by
 cases n with
 |zero=>have:=h.aO;show 1<s;omega
 |succ n=>exact bk h _ _
theorem pow_even (b a N:Nat) (e:b<s) (d:a<s) (f:N%2=0):
 aA s p b (aM s p (aA s p a a) (N/2))=aA s p b (aM s p a N):=by
 letI:=fA h
 let x:El s:=⟨a,d⟩
 have e1:aA s p a a=(x* x).val:=rfl;have e2:aM s p a N=(x^N).val:=fg h x N;rw[e1,e2,fg h (x* x) (N/2)];have e3:(x* x)^(N/2)=x^N:=by
  rw[oL,<-iO];exact z7 (λn=>x^n) (show N/2+N/2=N by omega)
 rw[<-e3]
theorem pow_odd (b a N:Nat) (d:b<s) (e:a<s) (f:N%2=1):
 aA s p (aA s p b a) (aM s p (aA s p a a) (N/2))=aA s p b (aM s p a N):=by
 letI:=fA h
 let x:El s:=⟨a,e⟩
 let y:El s:=⟨b,d⟩
 have e1:aA s p a a=(x* x).val:=rfl;have e2:aM s p a N=(x^N).val:=fg h x N;have e4:aA s p b a=(y* x).val:=rfl;rw[e1,e2,e4,fg h (x* x) (N/2)];have e3:y* x* (x* x)^(N/2)=y* x^N:=by
  have e5:x^N=x^(N/2+N/2)* x:=by
   rw[<-eW];exact z7 (λn=>x^n) (show N=N/2+N/2+1 by omega)
  rw[oL,<-iO,cJ,cC x,e5]
 show(y* x* (x* x)^(N/2)).val=(y* x^N).val;rw[e3]
theorem x9 (a:Nat) (b:a<s):aA s p 1 a=a:=by
 letI:=fA h
 let x:El s:=⟨a,b⟩
 show((1:El s)* x).val=x.val;rw[eY]
theorem yc (a:Nat) (b:a<s):aA s p a 1=a:=by
 letI:=fA h
 let x:El s:=⟨a,b⟩
 show(x* (1:El s)).val=x.val;rw[fT]
end
def nK (s p a k:Nat):Prop:=1<=k/\aM s p a k=1/\∀m,1<=m->m<k->aM s p a m≠1
theorem nK.unique {s p a k b:Nat} (h:nK s p a k) (d:nK s p a b):k=b:=by
 by_cases e:k<b
 ·exact A8 h.2.1 (d.2.2 k h.1 e)
 ·by_cases f:b<k
  ·exact A8 d.2.1 (h.2.2 b d.1 f)
  ·omega
section
variable {c s p : Nat} (h : VF c s p)
include h
theorem jD (x:El s) (n:Nat):aM s p x.val n=1↔(letI:=fA h;x^n=(1:El s)):=by
 rw[fg h];constructor
 ·intro e;exact El.ext e
 ·intro e;exact z7 El.val e
theorem qC (x:El s) (k:Nat):nK s p x.val k↔(letI:=fA h;dM x k):=by
 letI:=fA h
 constructor
 ·rintro⟨a,b,d⟩;exact⟨a,(jD h x k).1 b,λm f g e=>d m f g ((jD h x m).2 e)⟩
 ·rintro⟨a,b,d⟩;exact⟨a,(jD h x k).2 b,λm f g e=>d m f g ((jD h x m).1 e)⟩
theorem lX (x:El s):(letI:=fA h;x≠(0:El s))↔x.val≠0:=by
 letI:=fA h
 constructor
 ·intro e e2;exact e (El.ext e2)
 ·intro e e2;exact e (z7 El.val e2)
theorem GG (a:Nat) (d:a<s) (e:a≠0):∃k,nK s p a k/\k<=s-1:=by
 letI:=fA h
 let x:El s:=⟨a,d⟩
 obtain⟨k,b⟩:=va ((lX h x).2 e);have:=b.le;rw[lW h]at this;exact⟨k,(qC h x k).2 b,this⟩
def O4 (s p a:Nat):Prop:=1<=a/\a<s/\nK s p a (s-1)/\∀x,1<=x->x<a->¬nK s p x (s-1)
theorem GI:∃a,O4 s p a:=by
 letI:=fA h
 obtain⟨x,b⟩:=SE (K:=El s);rw[lW h]at b;have l:=(lX h x).1 b.ne;obtain⟨a,⟨d,e,f⟩,g⟩:=W7 (P:=λa=>1<=a/\a<s/\nK s p a (s-1)) ⟨x.val,by omega,x.lt,(qC h x _).2 b⟩;exact⟨a,d,e,f,λy i k j=>g y k ⟨i,by omega,j⟩⟩
end
noncomputable def pO (s p a:Nat):Nat:=@dite Nat (∃k,nK s p a k) (UD _) (λh=>U9 h) (λ_=>0)
theorem Bn {s p a k:Nat} (h:nK s p a k):pO s p a=k:=by
 have b:∃k,nK s p a k:=⟨k,h⟩;unfold pO;rw[dif_pos b];exact(Uy b).unique h
theorem rr {c s p a:Nat} (h:VF c s p) (d:a<s) (e:a≠0):nK s p a (pO s p a)/\pO s p a<=s-1:=by
 obtain⟨k,b,f⟩:=GG h a d e;rw[Bn b];exact⟨b,f⟩
noncomputable def aV (s p:Nat):Nat:=@dite Nat (∃k,O4 s p k) (UD _) (λh=>U9 h) (λ_=>0)
theorem jV {c s p:Nat} (h:VF c s p):O4 s p (aV s p):=by
 have a:=GI h;unfold aV;rw[dif_pos a];exact Uy a
theorem IN {c s p:Nat} (h:VF c s p) {a b:Nat} (d:a<s-1) (f:b<s-1) (e:aM s p (aV s p) a=aM s p (aV s p) b):a=b:=by
 have hg:=jV h
 letI:=fA h
 let x:El s:=⟨aV s p,hg.2.1⟩
 have g:dM x (s-1):=(qC h x _).1 hg.2.2.1;refine g.inj d f ?_;have e2:(x^a).val=(x^b).val:=by rw[<-fg h,<-fg h];exact e
 exact El.ext e2
theorem Pg {c s p:Nat} (h:VF c s p) {a:Nat} (j:a<s) (k:a≠0):∃b,b<s-1/\aM s p (aV s p) b=a:=by
 have hg:=jV h
 letI:=fA h
 let x:El s:=⟨aV s p,hg.2.1⟩
 have i:dM x (s-1):=(qC h x _).1 hg.2.2.1
 let d:List (El s):=(y3 (s-1)).map λb=>x^b
 have hn:d.Nodup:=ni (λr l b f e=>i.inj (List.mem_range.1 l) (List.mem_range.1 f) e) List.nodup_range;have o:∀y∈d,y∈l3 (El s):=by
  intro y g;obtain⟨b,_,rfl⟩:=List.mem_map.1 g;exact jG.2 (jB i.ne b)
 have q:(l3 (El s)).length<=d.length:=by
  have m:=nR (K:=El s);rw[lW h]at m;simp[d];omega
 have n:=sG hn o q
 let y:El s:=⟨a,j⟩
 have g:y∈d:=n.mem_iff.2 (jG.2 ((lX h y).2 k));obtain⟨b,f,e⟩:=List.mem_map.1 g;exact⟨b,List.mem_range.1 f,by rw[show aV s p=x.val from rfl,fg h];exact z7 El.val e⟩
noncomputable def ff (s p a:Nat):Nat:=@dite Nat (∃b,b<s-1/\aM s p (aV s p) b=a) (UD _) (λh=>U9 h) (λ_=>0)
theorem fi {c s p a:Nat} (h:VF c s p) (d:a<s) (e:a≠0):ff s p a<s-1/\aM s p (aV s p) (ff s p a)=a:=by
 have b:=Pg h d e;unfold ff;rw[dif_pos b];exact Uy b
theorem Q2 {c s p a b:Nat} (h:VF c s p) (f:a<s) (g:a≠0) (i:b<s-1) (e:aM s p (aV s p) b=a):ff s p a=b:=by
 have d:=fi h f g;exact IN h d.1 i (d.2.trans e.symm)
def bD (s p a b:Nat):Nat:=if p=0 then(a+s-b)%s else a^^^b
def bW (s p a:Nat):Nat:=aM s p a (s-2)
section
variable {c s p : Nat} (h : VF c s p)
include h
theorem BJ (x y:El s):bD s p x.val y.val=(letI:=fA h;(x-y:El s).val):=by
 show bD s p x.val y.val=bU s p x.val (wg s p y.val);unfold bD bU wg;split
 ·rw[Nat.add_mod_mod];have:=y.lt;rw[show x.val+s-y.val=x.val+(s-y.val)from by omega]
 ·rfl
theorem BF {x:Nat} (a:x<s):bU s p x 0=x:=by
 letI:=fA h
 exact z7 El.val (bB (⟨x,a⟩:El s))
theorem Jw {x y z:Nat} (a:x<s) (b:y<s) (d:z<s):aA s p (aA s p x y) z=aA s p x (aA s p y z):=by
 letI:=fA h
 exact z7 El.val (cJ (⟨x,a⟩:El s) ⟨y,b⟩ ⟨z,d⟩)
theorem MA {x y:Nat} (a:x<s) (b:y<s):aA s p x y=aA s p y x:=by
 letI:=fA h
 exact z7 El.val (cC (⟨x,a⟩:El s) ⟨y,b⟩)
theorem pD {x:Nat} (a:x<s):aA s p x 0=0:=by
 letI:=fA h
 exact z7 El.val (bw (⟨x,a⟩:El s))
theorem jd {x y:Nat} (a:x<s) (b:y<s):bD s p x y<s:=by
 letI:=fA h
 have e:bD s p x y=_:=BJ h ⟨x,a⟩ ⟨y,b⟩;rw[e];exact El.lt _
theorem gM {x:Nat}:bW s p x<s:=mC h _ _
theorem DD {x:Nat} (b:x<s) (d:x≠0):aA s p x (bW s p x)=1:=by
 letI:=fA h
 let a:El s:=⟨x,b⟩
 have hc:jx (El s)=s:=lW h;have e:bW s p x=(eP a).val:=by
  show aM s p a.val (s-2)=(a^(jx (El s)-2)).val;rw[hc];exact fg h a _
 rw[e];exact z7 El.val (ie ((lX h a).2 d))
theorem FO {x k:Nat} (b:x<s) (d:aM s p x k=1) (n:Nat):aM s p x n=aM s p x (n%k):=by
 letI:=fA h
 let a:El s:=⟨x,b⟩
 have e1:a^k=1:=(jD h a k).1 d;have e2:=yy e1 n;rw[show x=a.val from rfl,fg h a n,fg h a (n%k)];exact z7 El.val e2
theorem xP {x:Nat} (b:x<s) (d:x≠0):aM s p x (s-1)=1:=by
 letI:=fA h
 let a:El s:=⟨x,b⟩
 have hc:jx (El s)=s:=lW h;refine(jD h a _).2 ?_;have:=za ((lX h a).2 d);rw[hc]at this;exact this
theorem yl {x:Nat} (b:x<s) (m n:Nat):aM s p x (m+n)=aA s p (aM s p x m) (aM s p x n):=by
 letI:=fA h
 let a:El s:=⟨x,b⟩
 have:=z7 El.val (iO a m n);rw[<-fg]at this;rw[show x=a.val from rfl,this,fg h a m,fg h a n];rfl
theorem lY {x:Nat} (n:Nat):aM s p x n<s:=mC h _ _
end
noncomputable def Oq (s p:Nat):List Nat:=(y3 (s-1)).map (aM s p (aV s p))
noncomputable def nt (s p n:Nat):List Nat:=(y3 s).map λx=>if x=0 then 0 else if ff s p x<n then ff s p x else 0
noncomputable def lz (s p n:Nat):List Nat:=(y3 (s-1)).map λa=>if a<n then aM s p (aV s p) a else 0
theorem bC (f:Nat->Nat) (n a:Nat) (b:a<n):((y3 n).map f).getD a 0=f a:=by
 simp[List.getD,b]
theorem fm (f:Nat->Nat) (n a v:Nat) (b:a<n):((y3 n).map f).set a v=(y3 n).map (λk=>if k=a then v else f k):=by
 apply Um
 ·simp
 ·intro k d g;simp only[List.getElem_set,List.getElem_map,List.getElem_range];by_cases h:a=k
  ·subst h;simp
  ·rw[w6 h,w6 (λe=>h e.symm)]
section
variable {c s p : Nat} (h : VF c s p)
include h
theorem kM:aV s p<s:=(jV h).2.1
theorem FY:aV s p≠0:=by have:=(jV h).1;omega
theorem zq (n:Nat):aM s p (aV s p) n≠0:=by
 letI:=fA h
 let a:El s:=⟨aV s p,kM h⟩
 have:a^n≠0:=jB ((lX h a).2 (FY h)) n;intro e;apply this;apply El.ext;rw[<-fg h a n];exact e
theorem Nf {n:Nat} (hn:n<s-1):ff s p (aM s p (aV s p) n)=n:=
 Q2 h (lY h n) (zq h n) hn rfl
theorem LU {n:Nat} (hn:n<s-1):(lz s p n).set n (aM s p (aV s p) n)=lz s p (n+1):=by
 unfold lz;rw[fm _ _ _ _ hn];apply A9;intro k b;by_cases e:k=n
 ·subst e;simp
 ·rw[w6 e];by_cases a:k<n
  ·rw[xl a,xl oO]
  ·rw[w6 a,w6 oO]
theorem Nd {n:Nat} (hn:n<s-1):(nt s p n).set (aM s p (aV s p) n) n=nt s p (n+1):=by
 unfold nt;rw[fm _ _ _ _ (lY h n)];apply A9;intro k d;have f:k<s:=List.mem_range.1 d;by_cases e:k=aM s p (aV s p) n
 ·rw[xl e,e,w6 (zq h n),Nf h hn,xl oO]
 ·rw[w6 e];by_cases a:k=0
  ·rw[xl a,xl a]
  ·rw[w6 a,w6 a];have hl:ff s p k≠n:=by
    intro e2;apply e;have:=(fi h f a).2;rw[e2]at this;exact this.symm
   by_cases b:ff s p k<n
   ·rw[xl b,xl oO]
   ·rw[w6 b,w6 oO]
theorem An:lz s p 0=y0 (s-1) 0:=by
 unfold lz;apply Um<;>simp
theorem BK:nt s p 0=y0 s 0:=by
 unfold nt;apply Um<;>simp
theorem Ke:lz s p (s-1)=Oq s p:=by
 unfold lz Oq;apply A9;intro k a;rw[xl (List.mem_range.1 a)]
theorem Od {a:Nat} (b:a<s-1):(Oq s p).getD a 0=aM s p (aV s p) a:=bC _ _ _ b
theorem NS {x:Nat} (a:x<s) (b:x≠0):(nt s p (s-1)).getD x 0=ff s p x:=by
 rw[show(nt s p (s-1)).getD x 0=_ from bC _ _ _ a];rw[w6 b,xl (fi h a b).1]
theorem Ie {x y:Nat} (a:x<s) (b:y<s) (d:x≠0) (e:y≠0):aM s p (aV s p) ((ff s p x+ff s p y)%(s-1))=aA s p x y:=by
 rw[<-FO h (kM h) (xP h (kM h) (FY h)),yl h (kM h),(fi h a d).2,(fi h b e).2]
theorem Iw {x y:Nat} (e:x<s) (d:y<s) (i:x≠0) (g:y≠0):aM s p (aV s p) ((ff s p x+(s-1)-ff s p y)%(s-1))=aA s p x (bW s p y):=by
 have f:=xP h (kM h) (FY h);have a:=fi h e i;have b:=fi h d g;rw[<-FO h (kM h) f];generalize j:ff s p x+(s-1)-ff s p y=k;have e1:aA s p (aM s p (aV s p) k) y=x:=by
  have:aM s p (aV s p) (k+ff s p y)=aM s p (aV s p) (ff s p x+(s-1)):=by congr 1;omega
  rw[yl h (kM h),yl h (kM h),a.2,b.2,f,yc h _ e]at this;exact this
 have e2:aA s p (aA s p (aM s p (aV s p) k) y) (bW s p y)=aA s p x (bW s p y):=by rw[e1]
 rw[Jw h (lY h k) d (gM h),DD h d g,yc h _ (lY h k)]at e2;exact e2
theorem q8 {x:Nat} (a:x<s):aA s p 0 x=0:=by rw[MA h (by have:=h.aO;omega) a,pD h a]
end
def tl (a:List Nat):Nat->Nat
 |0=>0
 |n+1=>if a.getD n 0=0 then tl a n else n+1
theorem PG (a:List Nat) (n:Nat):tl a n<=n:=by
 induction n with
 |zero=>exact Nat.le_refl _
 |succ n b=>unfold tl;split<;>omega
theorem Qm (d:List Nat) (n a:Nat) (b:tl d n<=a) (i:a<n):d.getD a 0=0:=by
 induction n with
 |zero=>omega
 |succ n f=>
  unfold tl at b;split at b
  ·rename_i g
   by_cases e:a=n
   ·rw[e];exact g
   ·exact f b oO
  ·omega
theorem QN (a:List Nat) (n:Nat) (h:tl a n≠0):a.getD (tl a n-1) 0≠0:=by
 induction n with
 |zero=>exact A8 rfl h
 |succ n d=>
  unfold tl at h⊢;split
  ·rename_i b
   rw[xl b]at h;exact d h
  ·rename_i b
   simpa using b
def eK (a:List Nat):List Nat:=a.take (tl a a.length)
def dm (a:List Nat):Prop:=a=[]\/a.getD (a.length-1) 0≠0
theorem kf (a:List Nat):(eK a).length=tl a a.length:=by
 unfold eK;rw[List.length_take];have:=PG a a.length;omega
theorem getD_take (b:List Nat) (n a:Nat):(b.take n).getD a 0=if a<n then b.getD a 0 else 0:=by
 simp only[List.getD,List.getElem?_take];split<;>simp
theorem s8 (a:List Nat) (b:Nat):(eK a).getD b 0=a.getD b 0:=by
 unfold eK;rw[getD_take];split
 ·rfl
 ·rename_i e
  by_cases d:b<a.length
  ·exact(Qm a _ b oO d).symm
  ·rw[List.getD,List.getElem?_eq_none oO];rfl
theorem my (a:List Nat):dm (eK a):=by
 by_cases h:tl a a.length=0
 ·left;unfold eK;rw[h];rfl
 ·right;rw[s8,kf];exact QN a _ h
def lK (s p:Nat) (f:Nat->Nat):Nat->Nat
 |0=>0
 |n+1=>bU s p (lK s p f n) (f n)
def fQ (s p:Nat) (a b:List Nat) (n k:Nat):Nat:=if k<=n then aA s p (a.getD k 0) (b.getD (n-k) 0)else 0
def Br (s p:Nat) (a b:List Nat) (d e n:Nat):Nat:=
 if d<=n/\n-d<e then bU s p (lK s p (fQ s p a b n) d) (aA s p (a.getD d 0) (b.getD (n-d) 0))else lK s p (fQ s p a b n) d
def ak (s:Nat) (a:List Nat):Prop:=∀b,a.getD b 0<s
section
variable {c s p : Nat} (h : VF c s p)
include h
theorem sk (f:Nat->Nat) (a:∀k,f k<s) (n:Nat):lK s p f n<s:=by
 induction n with
 |zero=>have:=h.aO;unfold lK;omega
 |succ n b=>exact lR h _ _ b (a n)
theorem oe (a b:List Nat) (n k:Nat):fQ s p a b n k<s:=by
 unfold fQ;split
 ·exact bk h _ _
 ·have:=h.aO;omega
theorem vA (a b:List Nat) (d n:Nat):Br s p a b d 0 n=lK s p (fQ s p a b n) d:=by
 unfold Br;rw[w6 oO]
end
section
open Go.RowKit
theorem bM {k:IntKind} {a b:Int} (h:a=b):Ending.returned (.int k a)= .returned (.int k b):=by rw[h]
theorem bh {a b:Bool} (h:a=b):Ending.returned (.bool a)= .returned (.bool b):=by rw[h]
theorem vT (a:Nat) (h:bl a<=40):a<2^40:=(bc _ _).1 h
theorem Eg (a q:Nat) (b:bl a<=40) (g:0<q) (i:bl q<=bl a):
 bits BinOp.xor J (↑a) (wrap64 (↑q* 2^(bl a-1-(bl q-1))))=((lA a q:Nat):Int):=by
 have c:=ic q oO;rw[show bl a-1-(bl q-1)=bl a-bl q from by omega];have d:=tZ q (bl a-bl q) oO;have e:=vT (q* 2^(bl a-bl q)) oO;have f:=vT a b;rw[show((q:Int)* 2^(bl a-bl q))=((q* 2^(bl a-bl q):Nat):Int)from by simp];rw[IntWalk.wrap64_in _ oO,iw _ _ oO oO];rfl
theorem yH (a q:Nat) (d:0<q):cmod (lA a q) q=cmod a q:=by
 refine(ld _ _ _ ?_ (mV _ _ oO)).symm;have c:=lL a q;have b:=oQ c (⟨2^(bl a-bl q),(DT q _).symm⟩:iM q (q* 2^(bl a-bl q)));rw[show a^^^cmod a q^^^q* 2^(bl a-bl q)=(a^^^q* 2^(bl a-bl q))^^^cmod a q from by ac_rfl]at b;exact b
theorem QC (b q:Nat) (w:wR) (j:b<2^40) (g:0<q) (hq:q<2^40):
 wS w1 220 #[I J b,I J q] w λe d=>e= .returned (I J (cmod b q))/\w=d:=by
 have k:bl b<=40:=(bc _ _).2 j;have m:bl q<=40:=(bc _ _).2 hq;have n:0<bl q:=ic q oO;have o:(b:Int)<=9223372036854775807:=oO;have p:(q:Int)<=9223372036854775807:=oO;go_enter func220,ntmps220;go_wp2_with fail
 go_loop [0] (λc=>∃a:Nat,bl a<=40/\c=I J a/\w2 (cmod a q=cmod b q)) (λc=>bl (intOf c).toNat)
 case atStart=>exact⟨b,k,rfl,rfl⟩
 case round=>
  obtain⟨a,f,rfl,hid⟩:=hrel;have r:(a:Int)<=9223372036854775807:=by
   have:=vT a f;omega
  by_cases i:bl q<=bl a
  ·have l:=yk a q oO i;go_wp2_with(go_at_call 188;refine(jT _ _ oO oO).mono ?_;rintro e d ⟨rfl,rfl⟩)
   rw[Eg a q f g i];refine⟨⟨lA a q,by omega,rfl,?_⟩,l⟩;show cmod _ _=_;rw[yH a q g];exact hid.out
  ·go_wp2_with(go_at_call 188;refine(jT _ _ oO oO).mono ?_;rintro e d ⟨rfl,rfl⟩)
   go_ret;exact⟨bM (by rw[<-hid.out,kI a q oO]),rfl⟩
theorem IK (a q:Int) (w:wR) (d:0<=a) (g:a<1099511627776) (f:0<q) (hq:q<1099511627776):
 wS w1 220 #[I J a,I J q] w λe c=>e= .returned (I J (cmod a.toNat q.toNat))/\w=c:=by
 obtain⟨b,rfl⟩:=Av d;obtain⟨Q,rfl⟩:=Av (WB f);exact QC b Q w oO oO oO
theorem zh (q:Nat):bl (q+1)<=bl q+1:=by
 have:=BL q;exact(bc _ _).2 (by rw[H0];have:=Nat.two_pow_pos (bl q);omega)
theorem PX (a:Nat) (w:wR) (v:0<a) (m:bl a<=13):
 wS w1 189 #[I J a] w λe c=>e= .returned (.bool (nA a))/\w=c:=by
 have t:a<2^13:=(bc _ _).1 m;have x:=ic a oO;have y:(a:Int)<=9223372036854775807:=oO;have u:(a:Int)<1099511627776:=oO;go_enter func189,ntmps189;go_wp2_with fail
 go_loop [3] (λi=>∃q:Nat,2<=q/\bl q<=8/\i=I J q/\w2 (∀b,2<=b->b<q->cmod a b≠0)) (λi=>300-(intOf i).toNat)
 case atStart=>exact⟨2,by omega,by decide,rfl,λb g k=>by omega⟩
 case round=>
  obtain⟨q,l,hq,rfl,hid⟩:=hrel;have o:q<2^8:=(bc _ _).1 hq;have B:(q:Int)<256:=oO;have z:2<=bl q:=by
   have:=sJ 2 q l;have e:bl 2=2:=by decide
   omega
  by_cases p:2* ((bl q:Int)-1)<=(bl a:Int)-1
  ·by_cases d:cmod a q=0
   ·have r:(((cmod a q:Nat):Int)==0)=wP:=by rw[d];rfl
    have s:=A7 d;clear d;have f:nA a=R:=by
     rw[WV];intro h;exact(qo a).1 h q l oO s.out
    have j:=A7 f;clear f;go_wp2_with(first|(go_at_call 188;refine(jT _ _ oO oO).mono ?_;rintro e c ⟨rfl,rfl⟩)|(go_at_call 220;refine(IK _ _ _ oO oO oO oO).mono ?_;rintro e c ⟨rfl,rfl⟩))
    go_ret;exact⟨bh j.out.symm,rfl⟩
   ·have r:(((cmod a q:Nat):Int)==0)=R:=by simpa using d
    have A:=zh q;go_wp2_with(first|(go_at_call 188;refine(jT _ _ oO oO).mono ?_;rintro e c ⟨rfl,rfl⟩)|(go_at_call 220;refine(IK _ _ _ oO oO oO oO).mono ?_;rintro e c ⟨rfl,rfl⟩))
    refine⟨⟨q+1,by omega,by omega,by go_num,?_⟩,by simp[intOf];omega⟩;intro b g k;by_cases n:b=q
    ·subst n;exact d
    ·exact hid.out b g oO
  ·have f:nA a=wP:=by
    rw[qo];intro b g k;refine hid.out b g ?_;have:bl b<bl q:=oO;exact rH _ _ this
   have j:=A7 f;clear f;have C:bl a+2<=2* bl q:=oO;clear p hid o t u;go_wp2_with(first|(go_at_call 188;refine(jT _ _ oO oO).mono ?_;rintro e c ⟨rfl,rfl⟩))
   go_ret;exact⟨bh j.out.symm,rfl⟩
theorem QQ (a:Int) (w:wR) (f:0<a) (c:bl a.toNat<=13):
 wS w1 189 #[I J a] w λe d=>e= .returned (.bool (nA a.toNat))/\w=d:=by
 obtain⟨b,rfl⟩:=Av (WB f);exact PX b w oO c
theorem Mw (n:Nat) (w:wR) (hn:2<=n) (v:n<=4096):
 wS w1 187 #[I J n] w λe m=>e= .returned (.bool (jf n))/\w=m:=by
 go_enter func187,ntmps187;go_wp2_with fail
 go_loop [3] (λc=>∃d:Nat,2<=d/\d<=65/\c=I J d/\w2 (∀a,2<=a->a<d->n%a≠0)) (λc=>100-(intOf c).toNat)
 case atStart=>exact⟨2,by omega,by decide,rfl,λa f k=>by omega⟩
 case round=>
  obtain⟨d,q,i,rfl,hid⟩:=hrel;have x:d* d<=65* 65:=Cq i i;have y:(0:Int)<=(d:Int)* d:=by
   have:(0:Int)<=((d* d:Nat):Int):=oO;simpa using this
  have z:(d:Int)* d<=4225:=by
   have:((d* d:Nat):Int)<=4225:=oO;simpa using this
  by_cases l:d* d<=n
  ·exact SN
  ·have o:¬(d:Int)* d<=n:=by
    have:¬((d* d:Nat):Int)<=n:=oO;simpa using this
   have b:jf n=wP:=by
    rw[qb];refine⟨hn,λa f k=>hid.out a f ?_⟩;rcases z6 a d with h|h
    ·exact h
    ·have:=Cq h h;omega
   have g:=A7 b;clear b;clear l;go_wp2;go_ret;exact⟨bh g.out.symm,rfl⟩
theorem MP (n:Int) (w:wR) (hn:2<=n) (c:n<=4096):
 wS w1 187 #[I J n] w λe b=>e= .returned (.bool (jf n.toNat))/\w=b:=by
 obtain⟨a,rfl⟩:=Av (by omega:0<=n);exact Mw a w oO oO
theorem iZ (b:Int) (w:wR) (f:b<=9223372036854775807):
 wS w1 207 #[I J b] w λe j=>e= .returned (I J ((bl b.toNat:Int)-1))/\w=j:=by
 by_cases l:0<b
 ·have hb:=Io b oO f;go_enter func207,ntmps207;go_wp2_with fail
  go_loop [0,3] (λc d=>∃a D:Nat,c=I J a/\D<=63/\d=I J ((D:Int)-1)/\a<=9223372036854775807/\w2 (bl a+D=bl b.toNat)) (λc _=>(intOf c).toNat)
  case atStart=>exact⟨b.toNat,0,by rw[Int.toNat_of_nonneg oO],by omega,rfl,by omega,rfl⟩
  case round=>
   obtain⟨a,D,rfl,m,rfl,o,hid⟩:=hrel;by_cases p:0<a
   ·have i:bl (a/2)+1=bl a:=by
     by_cases f:a=1
     ·subst f;rfl
     ·have k:a/2≠0:=oO;obtain⟨n,hn⟩:∃n,bl (a/2)=n+1:=⟨bl (a/2)-1,by have:=ic _ k;omega⟩;have q:=(ja (a/2) n).1 oO;have r:=(bc (a/2) (n+1)).1 oO;rw[hn];rw[wN a (n+1) (by rw[H0];omega) (by rw[H0];omega)]
    have g:=A7 i;clear i;have s:D+1<=63:=by have:=hid.out;have:=g.out;omega
    go_wp2;refine⟨⟨a/2,D+1,by go_num,by omega,by go_num,by omega,?_⟩,by simp[intOf];omega⟩;show bl (a/2)+(D+1)=_;have:=hid.out;have:=g.out;omega
   ·obtain rfl:a=0:=oO;go_wp2;go_ret;exact⟨bM (by have:=hid.out;rw[eJ]at this;omega),rfl⟩
 ·go_enter func207,ntmps207;go_wp2_with fail
  go_loop [0,3] (λc d=>c=I J b/\d=I J (-1)) (λc _=>(intOf c).toNat)
  case atStart=>exact⟨rfl,rfl⟩
  case round=>
   obtain⟨rfl,rfl⟩:=hrel;go_wp2;go_ret;exact⟨bM (by rw[Int.toNat_of_nonpos oO];rfl),rfl⟩
theorem Dz (a k:Nat) (h:bl a<=k+1) (hb:a.testBit k=R):bl a<=k:=by
 rcases z6 (bl a) (k+1)with b|b
 ·omega
 ·have:=nQ a k oO;rw[this]at hb;cases hb
theorem L4 (a k:Nat) (h:bl a<=k+1) (hb:a.testBit k=wP):bl a=k+1:=by
 rcases z6 (bl a) (k+1)with b|b
 ·have:=(bc a k).1 oO;rw[Nat.testBit_lt_two_pow this]at hb;cases hb
 ·omega
theorem xo (a k:Nat):a.testBit k=decide (a/2^k%2=1):=Nat.testBit_eq_decide_div_mod_eq
theorem wH (a b:Nat) (h:a<2^40):bits BinOp.and J ((a:Int)/2^b) 1=((a/2^b%2:Nat):Int):=by
 rw[show((a:Int)/2^b)=((a/2^b:Nat):Int)from by simp];exact o6 _ (by have:=Nat.div_le_self a (2^b);omega)
theorem QU {a b:Nat} (h:(((a/2^b%2:Nat):Int)==1)=wP):a.testBit b=wP:=by
 rw[xo,decide_eq_true_iff];exact Int.ofNat.inj (eq_of_beq h)
theorem RA {a b:Nat} (h:(((a/2^b%2:Nat):Int)==1)=R):a.testBit b=R:=by
 rw[xo,decide_eq_false_iff_not];intro e;rw[e]at h;cases h
theorem KP (b q:Nat) (w:wR) (g:bl b<=40) (j:0<q) (hq:bl q<=40):
 wS w1 186 #[I J b,I J q] w λe i=>e= .returned (I J (cmod b q))/\w=i:=by
 have r:0<bl q:=ic q oO;have s:(b:Int)<=9223372036854775807:=by have:=vT b g;omega
 have t:(q:Int)<=9223372036854775807:=by have:=vT q hq;omega
 go_enter func186,ntmps186;go_wp2_with(go_at_call 207;refine(iZ _ _ oO).mono ?_;rintro e i ⟨rfl,rfl⟩)
 go_loop [0,6] (λl k=>∃a K:Nat,l=I J a/\bl a<=K/\K<=40/\k=I J ((K:Int)-1)/\w2 (cmod a q=cmod b q)) (λ_ k=>(intOf k+1).toNat)
 case atStart=>
  exact⟨b,bl b,rfl,Nat.le_refl _,g,rfl,rfl⟩
 case round=>
  obtain⟨a,K,rfl,n,o,rfl,hid⟩:=hrel;go_wp2
  ·rename_i d c
   rw[wH a _ (vT a oO)]at c;have f:a.testBit (K-1)=wP:=QU c;have m:=L4 a (K-1) oO f;obtain rfl:K=bl a:=oO;rw[Eg a q oO j d];have p:=yk a q oO d;refine⟨⟨lA a q,bl a-1,rfl,by omega,by omega,by go_num,?_⟩,by simp[intOf];omega⟩;show cmod _ _=_;rw[yH a q j];exact hid.out
  ·rename_i d c
   rw[wH a _ (vT a oO)]at c;have f:a.testBit (K-1)=R:=RA c;have m:=Dz a (K-1) oO f;exact⟨⟨a,K-1,rfl,by omega,by omega,by go_num,hid⟩,by simp[intOf];omega⟩
  ·rename_i d _
   go_ret;exact⟨bM (by rw[<-hid.out,kI a q oO]),rfl⟩
theorem vX (a q:Int) (w:wR) (f:0<=a) (c:bl a.toNat<=40) (g:0<q) (hq:bl q.toNat<=40):
 wS w1 186 #[I J a,I J q] w λe d=>e= .returned (I J (cmod a.toNat q.toNat))/\w=d:=by
 obtain⟨b,rfl⟩:=Av f;obtain⟨Q,rfl⟩:=Av (WB g);exact KP b Q w c oO hq
theorem JV (n:Nat) (w:wR) (hn:2<=n) (v:n<=4096):
 wS w1 208 #[I J n] w λe m=>e= .returned (.bool (jf n))/\w=m:=by
 go_enter func208,ntmps208;go_wp2_with fail
 go_loop [3] (λc=>∃d:Nat,2<=d/\d<=65/\c=I J d/\w2 (∀a,2<=a->a<d->n%a≠0)) (λc=>100-(intOf c).toNat)
 case atStart=>exact⟨2,by omega,by decide,rfl,λa f k=>by omega⟩
 case round=>
  obtain⟨d,q,i,rfl,hid⟩:=hrel;have x:d* d<=65* 65:=Cq i i;have y:(0:Int)<=(d:Int)* d:=by
   have:(0:Int)<=((d* d:Nat):Int):=oO;simpa using this
  have z:(d:Int)* d<=4225:=by
   have:((d* d:Nat):Int)<=4225:=oO;simpa using this
  by_cases l:d* d<=n
  ·exact SN
  ·have o:¬(d:Int)* d<=n:=by
    have:¬((d* d:Nat):Int)<=n:=oO;simpa using this
   have b:jf n=wP:=by
    rw[qb];refine⟨hn,λa f k=>hid.out a f ?_⟩;rcases z6 a d with h|h
    ·exact h
    ·have:=Cq h h;omega
   have g:=A7 b;clear b;clear l;go_wp2;go_ret;exact⟨bh (by rw[g.out];simp;omega),rfl⟩
theorem J6 (n:Int) (w:wR) (hn:2<=n) (c:n<=4096):
 wS w1 208 #[I J n] w λe b=>e= .returned (.bool (jf n.toNat))/\w=b:=by
 obtain⟨a,rfl⟩:=Av (by omega:0<=n);exact JV a w oO oO
def iF (a d:Int):Bool:=decide (0<=a)&&decide ((bl a.toNat:Int)=d+1)&&nA a.toNat
theorem Oi (a d:Int) (w:wR) (h:a<0):
 wS w1 175 #[I J a,I J d] w λe c=>e= .returned (.bool (iF a d))/\w=c:=by
 have b:iF a d=R:=by unfold iF;simp;omega
 have f:=A7 b;clear b;go_enter func175,ntmps175;go_wp2;go_ret;exact⟨bh f.out.symm,rfl⟩
theorem Oz (a d:Int) (w:wR) (h:0<=a) (i:a<=9223372036854775807) (b:(bl a.toNat:Int)-1≠d):
 wS w1 175 #[I J a,I J d] w λe c=>e= .returned (.bool (iF a d))/\w=c:=by
 have f:iF a d=R:=by unfold iF;simp;omega
 have g:=A7 f;clear f;have j:(((bl a.toNat:Int)-1)!=d)=wP:=by rw[bne_iff_ne];exact b
 clear b;go_enter func175,ntmps175;go_wp2_with(go_at_call 207;refine(iZ _ _ oO).mono ?_;rintro e c ⟨rfl,rfl⟩)
 go_ret;exact⟨bh g.out.symm,rfl⟩
theorem OI (a:Nat) (w:wR) (s:0<a) (k:bl a<=13):
 wS w1 175 #[I J a,I J ((bl a:Int)-1)] w λe c=>e= .returned (.bool (nA a))/\w=c:=by
 have t:=ic a oO;have u:(a:Int)<=9223372036854775807:=by have:=vT a oO;omega
 go_enter func175,ntmps175;go_wp2_with(go_at_call 207;refine(iZ _ _ oO).mono ?_;rintro e c ⟨rfl,rfl⟩)
 go_loop [5] (λi=>∃q:Nat,2<=q/\bl q<=8/\i=I J q/\w2 (∀b,2<=b->b<q->cmod a b≠0)) (λi=>300-(intOf i).toNat)
 case atStart=>exact⟨2,by omega,by decide,rfl,λb g l=>by omega⟩
 case round=>
  obtain⟨q,m,hq,rfl,hid⟩:=hrel;have y:(q:Int)<256:=by
   have:q<2^8:=(bc _ _).1 hq;omega
  have v:2<=bl q:=by
   have:=sJ 2 q m;have e:bl 2=2:=by decide
   omega
  by_cases o:2* ((bl q:Int)-1)<=(bl a:Int)-1
  ·by_cases d:cmod a q=0
   ·have p:(((cmod a q:Nat):Int)==0)=wP:=by rw[d];rfl
    have r:=A7 d;clear d;have f:nA a=R:=by
     rw[WV];intro h;exact(qo a).1 h q m oO r.out
    have j:=A7 f;clear f;go_wp2_with(first|(go_at_call 207;refine(iZ _ _ oO).mono ?_;rintro e c ⟨rfl,rfl⟩)|(go_at_call 186;refine(vX _ _ _ oO (by first|exact x3 k oO|omega) oO (by first|exact x3 hq oO|omega)).mono ?_;rintro e c ⟨rfl,rfl⟩))
    go_ret;exact⟨bh j.out.symm,rfl⟩
   ·have p:(((cmod a q:Nat):Int)==0)=R:=by simpa using d
    have x:=zh q;go_wp2_with(first|(go_at_call 207;refine(iZ _ _ oO).mono ?_;rintro e c ⟨rfl,rfl⟩)|(go_at_call 186;refine(vX _ _ _ oO (by first|exact x3 k oO|omega) oO (by first|exact x3 hq oO|omega)).mono ?_;rintro e c ⟨rfl,rfl⟩))
    refine⟨⟨q+1,by omega,by omega,by go_num,?_⟩,by simp[intOf];omega⟩;intro b g l;by_cases n:b=q
    ·subst n;exact d
    ·exact hid.out b g oO
  ·have f:nA a=wP:=by
    rw[qo];intro b g l;refine hid.out b g ?_;have:bl b<bl q:=oO;exact rH _ _ this
   have j:=A7 f;clear f;have z:decide (2* ((bl q:Int)-1)<=(bl a:Int)-1)=R:=by simp;omega
   clear o hid;go_wp2_with(first|(go_at_call 207;refine(iZ _ _ oO).mono ?_;rintro e c ⟨rfl,rfl⟩))
   go_ret;exact⟨bh j.out.symm,rfl⟩
theorem FD (a d:Int) (w:wR) (g:a<=9223372036854775807) (j:0<=d) (k:d<=12):
 wS w1 175 #[I J a,I J d] w λe c=>e= .returned (.bool (iF a d))/\w=c:=by
 by_cases f:0<=a
 ·by_cases hb:(bl a.toNat:Int)-1=d
  ·obtain⟨b,rfl⟩:=Av f;rw[Int.toNat_natCast]at hb;subst hb;have i:0<b:=by
    rcases HS b with h|h
    ·subst h;rw[eJ]at j;omega
    ·exact h
   refine(OI b w i oO).mono ?_;rintro e c ⟨rfl,rfl⟩;refine⟨bh ?_,rfl⟩;unfold iF;simp;
  ·exact Oz a d w f g hb
 ·exact Oi a d w oO
end
end Go.Proofs.YtmnlkganmgcpbaaGreatDoor
