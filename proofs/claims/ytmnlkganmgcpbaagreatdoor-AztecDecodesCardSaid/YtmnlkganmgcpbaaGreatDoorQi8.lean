import Derived.Test.YtmnlkganmgcpbaaGreatDoorQi7
import Derived.Lib.AppendStr
set_option maxRecDepth 100000
set_option maxHeartbeats 4000000
set_option linter.unusedVariables false
set_option linter.unusedSectionVars false
set_option linter.unusedSimpArgs false
set_option linter.defProp false
open Go.Value renaming int->I,slice->HM
open Go.IntKind renaming i64->J
open Bool renaming false->R,true->wP
open Option renaming none->U,some->gk
open Go renaming World->wR,Calls->wS,Value->xf,wpList->y7,TypeId->Ar,frozen_of_row->CH
open Go.Proofs.Tryz renaming prog->w1,underlying168->N2
open Go.RowKit renaming Hid->w2
open Go.RowKit.Below renaming refl->w3,heap_setCell->HP
open Nat renaming le_refl->w5,zero_le->x1,le_trans->x3,pow_le_pow_right->C3,add_sub_cancel_left->UY,eq_or_lt_of_le->V1
open _root_ renaming if_neg->w6,if_pos->xl,Option->xv,ByteArray->x2,decide_eq_true->y1,absurd->A8,UInt8->HH
open List renaming getElem?_eq_getElem->yv,map_append->A1,mem_singleton->A2,getD_eq_getElem?_getD->B2,getElem?_eq_none->B4,length_cons->Co,mem_append->Dq,all_eq_true->E2,mem_of_find?_eq_some->Vc
open Array renaming getElem?_setIfInBounds_ne->Ac,getElem?_setIfInBounds_self_of_lt->US
open Go.Proofs.Tryz
namespace Go.Proofs.YtmnlkganmgcpbaaGreatDoor
section
open Go.RowKit Go.WideMaps Go.Maps
structure Lf (c:x2) (a m:Nat) (b:aF):Prop where
 nm:b.num<32
 s1:-1<=b.sec
 s2:b.sec<32
 rn:a+b.run<=c.size
 lg:0<b.run->b.long=wP->31<=b.run
 sr:0<=b.sec->b.run=0
 ln:(dJ c a m b).length=b.size
theorem zf:∀m,m<5->∀n,n<32->cF m n=3->ar (cD m n)=5:=of_decide_eq_true oK
def q9 (c:x2) (num a m:Nat) (b:aF):Prop:=b.run=0\/(b=⟨num,-1,b.run,b.long,(if b.long=wP then ar m+16 else ar m+5)+8* b.run,a+b.run,m⟩/\0<b.run/\a+b.run<=c.size/\(b.long=wP->31<=b.run))
theorem Cp {d:Nat->Nat->Nat} {a:x2} {num at_ m:Nat} {c:aF} {n:Nat} {lg:Bool} (hb:q9 a num at_ m c) (hn:0<n) (e:at_+n<=a.size) (hl:lg=wP->31<=n):q9 a num at_ m (dO d num at_ m c n (if lg=wP then ar m+16 else ar m+5) lg):=by
 obtain⟨sz,b⟩:∃sz,sz=(if lg=wP then ar m+16 else ar m+5):=⟨_,rfl⟩;rw[<-b];unfold dO;split
 ·exact .inr ⟨by show(⟨num,-1,n,lg,sz+8* n,at_+n,m⟩:aF)=⟨num,-1,n,lg,(if lg=wP then ar m+16 else ar m+5)+8* n,at_+n,m⟩;rw[<-b],hn,e,hl⟩
 ·exact hb
theorem Ag {b:Nat->Nat->Nat} {a:x2} {num at_ m:Nat}:∀k,(at_+30+k<=a.size\/k=0)->q9 a num at_ m (gj b num at_ m k)
 |0,_=> .inl rfl
 |k+1,h=>Cp (lg:=wP) (Ag k oO) oO oO (λ_=>by omega)
theorem xz {c:Nat->Nat->Nat} {a:x2} {num at_ m K:Nat} (b:at_+30+K<=a.size\/K=0):∀k,at_+k<=a.size->q9 a num at_ m (eF c num at_ m K k)
 |0,_=>Ag K b
 |k+1,h=>Cp (lg:=R) (xz b k oO) oO oO (λe=>by cases e)
theorem rQ {C:Nat->Nat->Nat} {b:x2} {num a m:Nat} (d:a<b.size):q9 b num a m (ga C num a m (b.size-a))/\(ga C num a m (b.size-a)).run≠0:=by
 refine⟨xz oO _ oO,?_⟩;unfold ga;obtain⟨k,c⟩:∃k,min (b.size-a) 31=k+1:=⟨min (b.size-a) 31-1,by omega⟩;rw[c];exact px oO
theorem q9.st {c:x2} {num a m:Nat} {b:aF} (h:q9 c num a m b) (d:b.run≠0) (hn:num<32):Lf c a m b:=by
 rcases h with h|⟨e,f,g,i⟩
 ·exact A8 h d
 ·have l:b.sec=-1:=by rw[e]
  have j:b.num=num:=by rw[e]
  have k:b.size=(if b.long=wP then ar m+16 else ar m+5)+8* b.run:=by rw[e]
  refine⟨by rw[j];exact hn,by omega,by omega,g,λ_=>i,λh=>by omega,?_⟩;rw[k];unfold dJ Bp;rw[w6 oO,xl f,List.append_nil];simp only[List.length_append,cn,Bg];split
  ·simp only[List.length_append,cn];omega
  ·simp only[cn];omega
theorem P6 {g:Nat->Nat->Nat} {c:x2} {a m n:Nat} (e:a<c.size) (i:m<5) (hn:n<32) {d:aF} (b:d∈fa g c a m n):Lf c a m d:=by
 have plain:∀(at_ f:Nat),Lf c a m ⟨n,-1,0,R,ar m,at_,f⟩:=λat_ f=>by
  refine⟨hn,by show(-1:Int)<=-1;omega,by show(-1:Int)<32;omega,by show a+0<=_;omega,λh=>(by cases h),λh=>rfl,?_⟩;show(bH n (ar m)++(if(0:Int)<=-1 then bH (-1:Int).toNat 5 else[])++[]).length=ar m;rw[w6 oO];simp[cn]
 unfold fa at b;split at b
 ·split at b
  ·rw[A2]at b;subst b;exact plain _ _
  ·cases b
 split at b
 ·rw[A2]at b;subst b;exact plain _ _
 split at b
 ·rename_i j
  have l:=zf m i n hn j;have key:∀k,k<=32->d∈ee c a m n (cD m n) k->Lf c a m d:=by
   intro k
   induction k with
   |zero=>intro _ h;cases h
   |succ k o=>
    intro p h;unfold ee at h;rw[Dq]at h;rcases h with h|h
    ·exact o oO h
    ·unfold og at h;split at h
     ·rw[A2]at h;subst h;refine⟨hn,by show(-1:Int)<=(k:Int);omega,by show(k:Int)<32;omega,by show a+0<=_;omega,λh=>(by cases h),λh=>rfl,?_⟩;show(bH n (ar m)++(if(0:Int)<=(k:Int)then bH (k:Int).toNat 5 else[])++[]).length=ar m+ar (cD m n);rw[xl oO,l];simp[cn]
     ·cases h
  exact key 32 (w5 _) b
 split at b
 ·rw[A2]at b;subst b;exact(rQ e).1.st (rQ e).2 hn
 ·cases b
theorem IX {d:Nat->Nat->Nat} {b:x2} {a m:Nat} (e:a<b.size) (f:m<5) {c:aF}:∀k,k<=32->c∈cd d b a m k->Lf b a m c:=by
 intro k
 induction k with
 |zero=>intro _ h;cases h
 |succ k g=>
  intro i h;unfold cd at h;rw[Dq]at h;rcases h with h|h
  ·exact g oO h
  ·exact P6 e f oO h
theorem dK.step {c:x2} {b:Nat->Nat->Nat} (k:c.size<=4096) (h:dK c b) (a m:Nat) (j:a<c.size) (g:m<5):∃d,eg b c a m=gk d/\d∈cd b c a m 32/\S7 c b a m d:=by
 obtain⟨o,p,q⟩:∃d∈cd b c a m 32,d.cu b=b a m:=by
  rcases(h.fix a j).2 m g with l|l
  ·have:=h.fin k a m g;omega
  ·exact l
 cases f:eg b c a m with
 |none=>
  unfold eg at f;rw[List.find?_eq_none]at f;exact A8 (by rw[q];simp) (f o p)
 |some d=>
  unfold eg at f;have i:=Vc f;have s:=List.find?_some f;have r:d.cu b=b a m:=by simpa using s
  have n:=sI j k g 32 i;have e:=IX j g 32 (w5 _) i;exact⟨d,rfl,i,⟨n.1,n.2.1,r.symm,uY 32 i,e.nm,e.s1,e.s2,e.rn,e.lg,e.sr,Nat.le_of_eq e.ln⟩⟩
def yD (a:x2) (b:Nat->Nat->Nat):List Bool:=jz a (eg b a) (b 0 0) 0 0
theorem zS (A:xv Addr) (n c:Nat) (d:List HH) (w:wR) (hb:SR vU 0 w A n c d) (hn:n<=4096):
 wS w1 30 #[.slice A n c] w λe B=>∃b,dK ⟨d.toArray⟩ b/\RT vB R w (yD ⟨d.toArray⟩ b,0) e B:=by
 obtain⟨g,o⟩:∃g:x2,g=⟨d.toArray⟩:=⟨_,rfl⟩;have t:n=g.size:=by rw[hb.hn,o];show d.length=d.toArray.size;simp
 have p:=aa t;have q:=Dc A n c d w hb hn;rw[<-o]at q⊢;have L:=aa q;clear hb t q o;go_enter func30,ntmps30
 go_wp2_with(first
  |(go_at_call 80;refine L.out.mono ?_;rintro e C ⟨D,E,cap,hb,b,T,rfl,hq,s,k,l,u⟩;have r:dK g b:=⟨λa f=>(k a (by rw[p.out];exact f)).1,λa m f=>l a m (by rw[p.out];exact f),hq.S.b⟩;have M:=aa r;have v:=aa u;have N:=aa (OS C D E cap hb _ g b (eg b g) hq (s.ya (w5 _) (λa m j _ x i=>(by
   by_cases f:a<n
   ·rw[(k a f).2 m];exact i
   ·exfalso;unfold eg at i;have S:=Vc i;have F:0<b a m:=(by have G:=List.find?_some i;have O:j.cu b=b a m:=(by simpa using G);have:=uY 32 S;unfold aF.cu at O;omega);rw[l a m oO]at F
    omega))) (λa m f x=>(by obtain⟨j,H,_,K⟩:=r.step (by rw[<-p.out];exact hn) a m f x;exact⟨j,H,K⟩)));clear hq s k l u r)
  |(go_at_call 81;refine N.out.mono ?_;rintro e V ⟨W,rfl,y,z⟩;have P:=aa y;have Q:=aa z;clear y z))
 go_ret2
 exact⟨b,M.out,RT.mk rfl P.out (v.out.trans (Q.out.mono v.out.size))⟩
def pW (A d:xv Addr):Prop:=∀c,d=gk c->∃a,A=gk a/\c.block=a.block
theorem pW.refl (A:xv Addr):pW A A:=λa h=>⟨a,h,rfl⟩
theorem pW.add (A:xv Addr) (m:Nat):pW A (A.map (λa=>a.add m)):=by
 intro c h;cases A with
 |none=>cases h
 |some a=>injection h with h;subst h;exact⟨a,rfl,aD _ _⟩
theorem Mo (rb:Nat) (A:xv Addr) (n c m:Nat) (b:List Bool) (w:wR) (h:an w rb (Ig A n c)) (r:w.frozen? ⟨rb,0,U⟩=R) (l:m<=40) (hn:n<=1048576) (hb:SR vB R w A n c b):
 wS w1 218 #[.pointer (gk ⟨rb,0,U⟩),I J m] w λe a=>e= .returned (.tuple #[I J (aK b 0 m).1,I J (aK b 0 m).2])/\
  ((b.length<m/\a=w)\/(m<=b.length/\∃j o,a=w.setCell ⟨rb,0,U⟩ (.slice j (n-m) o)/\SR vB R w j (n-m) o (b.drop m)/\pW A j)):=by
 obtain⟨s,t⟩:=vw h;have i:=aa hb;have d:w2 (n=b.length):=hb.hn;clear h;by_cases q:n<m
 ·have f:w2 (aK b 0 m=(0,10)):=by show _=_;unfold aK;rw[xl (by rw[<-d.out];omega)]
  have k:w2 (wS w1 67 #[.slice A n c,I J 0,I J m] w (λe a=>e= .returned (.tuple #[I J (aK b 0 m).1,I J (aK b 0 m).2])/\a=w)):=B9 A n c m b w l hn hb;clear hb;go_enter func218,ntmps218;go_wp2_with(go_at_call 67;refine k.out.mono ?_;rintro e a ⟨rfl,g⟩;rw[g,f.out];clear g)
  go_ret2
  rw[f.out];exact⟨rfl,.inl ⟨by rw[<-d.out];exact q,rfl⟩⟩
 ·have f:w2 (aK b 0 m=(((ba b 0 m:Nat):Int),0)):=by show _=_;unfold aK;rw[w6 (by rw[<-d.out];omega)]
  have k:w2 (wS w1 67 #[.slice A n c,I J 0,I J m] w (λe a=>e= .returned (.tuple #[I J (aK b 0 m).1,I J (aK b 0 m).2])/\a=w)):=B9 A n c m b w l hn hb;have hc:=hb.hc;clear hb;go_enter func218,ntmps218;go_wp2_with(go_at_call 67;refine k.out.mono ?_;rintro e a ⟨rfl,g⟩;rw[g,f.out];clear g)
  all_goals
   go_ret2
   rw[f.out];refine⟨rfl,.inr ⟨by rw[<-d.out];omega,_,_,rfl,?_,?_⟩⟩
  ·exact i.out.drop oO (.inl oO) oO
  ·exact pW.refl _
  ·rcases V1 (show m<=n by omega)with e|e
   ·exact i.out.drop oO (.inl e.symm) rfl
   ·obtain⟨p,rfl,_⟩:=i.out.rd (by rw[<-d.out];omega);exact i.out.drop oO (.inr ⟨p,rfl,rfl⟩) rfl
  ·exact pW.add _ _
theorem Ki (rb:Nat) (A:xv Addr) (n c m:Nat) (b:List Bool) (w:wR) (h:an w rb (Ig A n c)) (i:w.frozen? ⟨rb,0,U⟩=R) (j:m<=40) (hn:n<=1048576) (hb:SR vB R w A n c b):
 wS w1 182 #[.pointer (gk ⟨rb,0,U⟩),I J m] w λe a=>e= .returned (.tuple #[I J (aK b 0 m).1,I J (aK b 0 m).2])/\
  ((b.length<m/\a=w)\/(m<=b.length/\∃d f,a=w.setCell ⟨rb,0,U⟩ (.slice d (n-m) f)/\SR vB R w d (n-m) f (b.drop m)/\pW A d)):=by
 have l:w2 (wS w1 218 #[.pointer (gk ⟨rb,0,U⟩),I J m] w _):=Mo rb A n c m b w h i j hn hb;obtain⟨o,p⟩:=vw h;clear h hb;go_enter func182,ntmps182;go_wp2_with(go_at_call 218;refine l.out.mono ?_;rintro e a ⟨rfl,g⟩;have k:=aa g;clear g)
 go_ret2
 exact⟨rfl,k.out⟩
def Tag (w:wR) (b:Nat) (a:Ar):Prop:=∃c:Array xf,w.heap[b]?=gk (.cells c a (0,0))
theorem Tag.ne {w:wR} {a b:Nat} {f u:Ar} (d:Tag w a f) (c:Tag w b u) (i:f≠u):a≠b:=by
 intro e;subst e;obtain⟨c1,d⟩:=d;obtain⟨j,c⟩:=c;rw[d]at c;injection c with c;injection c with _ g _;exact i g
theorem Tag.below {w W:wR} {b:Nat} {a:Ar} (h:Tag w b a) (d:af w W):Tag W b a:=by
 obtain⟨c,h⟩:=h;exact⟨c,(d.block _ (ay h)).trans h⟩
theorem ag.tag {w:wR} {b:Nat} {c:Array xf} {a:Ar} (h:ag w b c a):Tag w b a:=⟨c,h⟩
theorem Tag.eN {w:wR} {b:Nat} {d:Ar} (h:Tag w b d) (a:Addr) (e:b≠a.block) (u:xf):Tag (w.setCell a u) b d:=by
 obtain⟨c,h⟩:=h;exact⟨c,(HP _ _ _ _ e).trans h⟩
theorem Tag.grown {w W:wR} {b:Nat} {a:Ar} {row:xv Nat} (h:Tag w b a) (hg:w.grownBy W row) (d:gk b≠row):Tag W b a:=by
 obtain⟨c,h⟩:=h;exact⟨c,(hg.block _ (ay h) d).trans h⟩
theorem ou {w:wR} {base:Nat} {e:Ar} {v:xf} {n q:Nat} {a:List xf} (h:w.ownsRow base e 1 v n a) (hq:v.ownBlock=gk q):Tag w q e:=by
 rcases h.2 with⟨rfl,_⟩|⟨d,cap,c,rfl,_,hg,_⟩
 ·cases hq
 ·simp only[Value.ownBlock,Option.some.injEq]at hq;subst hq;exact⟨c,hg⟩
theorem SR.eN {j:Type} {f:j->xf} {d:j} {w:wR} {A:xv Addr} {n c:Nat} {k:List j} (h:SR f d w A n c k) (a:Addr) (m:∀g,A=gk g->g.block≠a.block) (u:xf):SR f d (w.setCell a u) A n c k:=by
 refine⟨h.hn,h.hc,h.hm,λhn=>?_⟩;obtain⟨g,e,o,p⟩:=h.rd hn;have q:=m g e;refine⟨g,e,by simpa using o,λl r=>?_⟩;rw[World.cell?_setCell_other w _ _ _ (λe2=>q (by rw[e2,aD]))];exact p l r
theorem SR.grown {g:Type} {f:g->xf} {d:g} {w W:wR} {A:xv Addr} {n c:Nat} {i:List g} {row:xv Nat} (h:SR f d w A n c i) (hg:w.grownBy W row) (l:∀a,A=gk a->gk a.block≠row):SR f d W A n c i:=by
 refine⟨h.hn,h.hc,h.hm,λhn=>?_⟩;obtain⟨a,e,k,m⟩:=h.rd hn;refine⟨a,e,Nat.lt_of_lt_of_le k hg.size,λj o=>?_⟩;rw[hg.cell_far (a.add j) (by rw[aD];exact k) (by rw[aD];exact l a e)];exact m j o
structure DE (n:Nat) (w wr:wR) (db rb:Nat) (b0 b:List Bool) (mode:Nat) (out:List HH):Prop where
 B:Below n w wr
 D:∃a e c0 f co,ag wr db a 187/\a.size=484/\a[0]?=gk (.slice e b0.length c0)/\a[1]?=gk (.pointer (gk ⟨rb,0,U⟩))/\(∀d v,fk[d]?=gk v->a[2+d]?=gk v)/\a[482]?=gk (I J (mode:Int))/\a[483]?=gk (.slice f out.length co)/\
  SR vB R w e b0.length c0 b0/\wr.ownsRow n 5 1 (.slice f out.length co) out.length (out.map vU)
 cK:∃A c,ag wr rb #[.slice A b.length c,.bool wP] 225/\SR vB R wr A b.length c b/\∀g,A=gk g->Tag wr g.block 4
 n1:n<=db/\n<=rb
 n2:n=w.heap.size
 md:mode<5
 lb:b.length<=b0.length/\b0.length<=1048576
section
variable {n : Nat} {w wr W : wR} {db rb : Nat} {b0 b : List Bool} {mode : Nat} {out : List HH}
theorem DE.ge (h:DE n w wr db rb b0 b mode out):n<=wr.heap.size:=by rw[h.n2];exact h.B.size
theorem DE.below (h:DE n w wr db rb b0 b mode out) (a:af wr W):DE n w W db rb b0 b mode out:=by
 obtain⟨u,d,c0,f,co,g,i,j,k,l,m,o,p,q⟩:=h.D;obtain⟨A,c,r,s,k3⟩:=h.cK;exact⟨h.B.trans (a.mono h.ge),⟨u,d,c0,f,co,g.below a,i,j,k,l,m,o,p,aq q a⟩,⟨A,c,r.below a,s.below a,λt e=>(k3 t e).below a⟩,h.n1,h.n2,h.md,h.lb⟩
theorem DE.ne (h:DE n w wr db rb b0 b mode out):db≠rb:=by
 obtain⟨g,e,c0,f,co,a,_⟩:=h.D;obtain⟨A,c,d,_⟩:=h.cK;exact a.tag.ne d.tag oD
theorem jj {base:Nat} {e:Ar} {v:xf} {k:Nat} {f:List xf} (h:wr.ownsRow base e 1 v k f) (a:Addr) {d:Ar} (l:Tag wr a.block d) (p:d≠e) (u:xf):(wr.setCell a u).ownsRow base e 1 v k f:=by
 refine⟨h.1,?_⟩;rcases h.2 with c|⟨j,cap,i,m,c,g,o⟩
 ·exact .inl c
 ·refine .inr ⟨j,cap,i,m,c,(HP _ _ _ _ ?_).trans g,o⟩;exact(Tag.ne l ⟨i,g⟩ p).symm
theorem DE.take (h:DE n w wr db rb b0 b mode out) {m:Nat} {g:xv Addr} {j:Nat} (H:m<=b.length) (hs:SR vB R wr g (b.length-m) j (b.drop m)) {A:xv Addr} {c:Nat} (a:ag wr rb #[.slice A b.length c,.bool wP] 225) (E:pW A g):
 DE n w (wr.setCell ⟨rb,0,U⟩ (.slice g (b.length-m) j)) db rb b0 (b.drop m) mode out:=by
 obtain⟨F,o,c0,p,co,q,r,s,t,u,v,y,z,B⟩:=h.D;obtain⟨C,c1,d,K,k3⟩:=h.cK;have G:=h.ne;have D:C=A:=by
  unfold ag at d a;rw[d]at a;injection a with a;injection a with a _ _;have:=congrArg (λx:Array xf=>x[0]?) a;simp only[List.getElem?_toArray,List.getElem?_cons_zero,Option.some.injEq,Value.slice.injEq]at this;exact this.1
 have k:∀i,g=gk i->Tag wr i.block 4:=λi e=>by
  obtain⟨f,e1,e2⟩:=E i e;rw[e2];exact k3 f (by rw[D];exact e1)
 have l:(b.drop m).length=b.length-m:=List.length_drop;refine⟨h.B.setCell h.n1.2 _,⟨F,o,c0,p,co,(HP _ _ _ _ G).trans q,r,s,t,u,v,y,z,jj B _ d.tag oD _⟩,⟨g,j,?_,?_,λf e=>?_⟩,h.n1,h.n2,h.md,by rw[l];have:=h.lb;omega⟩
 ·rw[l];exact d.eN (i:=0) _
 ·rw[l];exact hs.eN _ (λf e=>(k f e).ne d.tag oD) _
 ·exact(k f e).eN _ ((k f e).ne d.tag oD) _
theorem DE.Tm (h:DE n w wr db rb b0 b mode out) (a:Nat) (j:a<5):DE n w (wr.setCell ⟨db,482,U⟩ (I J (a:Int))) db rb b0 b a out:=by
 obtain⟨y,k,c0,l,co,d,m,o,p,q,B,r,s,t⟩:=h.D;obtain⟨A,c,u,x,k3⟩:=h.cK;have z:=h.ne
 refine⟨h.B.setCell h.n1.1 _,⟨y.setIfInBounds 482 (I J (a:Int)),k,c0,l,co,d.eN _,by simp[m],by rw[Ac oO];exact o,by rw[Ac oO];exact p,λg v i=>?_,by rw[US oO],by rw[Ac oO];exact r,s,jj t _ d.tag oD _⟩,
  ⟨A,c,(HP _ _ _ _ (Ne.symm z)).trans u,x.eN _ (λf e=>(k3 f e).ne d.tag oD) _,λf e=>(k3 f e).eN _ ((k3 f e).ne d.tag oD) _⟩,h.n1,h.n2,j,h.lb⟩
 have C:g<480:=by rw[<-oY];exact(Array.getElem?_eq_some_iff.1 i).1
 rw[Ac oO];exact q g v i
theorem DE.grow (h:DE n w wr db rb b0 b mode out) {d:xv Addr} {co:Nat} (r:wr.ownsRow n 5 1 (.slice d out.length co) out.length (out.map vU)) {W:wR} (hg:wr.grownBy W (HM d out.length co).ownBlock) {i:xv Addr} {j:Nat} {f:List HH}
 (H:W.ownsRow n 5 1 (.slice i f.length j) f.length (f.map vU)):ag W db (Classical.choose h.D) 187/\DE n w (W.setCell ⟨db,483,U⟩ (.slice i f.length j)) db rb b0 b mode f:=by
 have N:=Classical.choose_spec h.D;generalize Classical.choose h.D=t at*;obtain⟨x,c0,S,T,k,y,z,B,C,D,O,E,P⟩:=N;obtain⟨A,c,l,F,k3⟩:=h.cK;have K:=h.ne;have m:∀q,(HM d out.length co).ownBlock=gk q->Tag wr q 5:=λq hq=>ou r hq;have L:gk db≠(HM d out.length co).ownBlock:=λe=>(m db e.symm).ne k.tag oD rfl;have M:gk rb≠(HM d out.length co).ownBlock:=λe=>(m rb e.symm).ne l.tag oD rfl;have u:∀a,A=gk a->gk a.block≠(HM d out.length co).ownBlock:=λa e e2=>(m a.block e2.symm).ne (k3 a e) oD rfl;have g:ag W db t 187:=(hg.block _ (ay k) L).trans k;have G:ag W rb #[.slice A b.length c,.bool wP] 225:=(hg.block _ (ay l) M).trans l;have o:∀a,A=gk a->Tag W a.block 4:=λa e=>(k3 a e).grown hg (u a e)
 refine⟨g,(h.B.grown hg h.ge (λq hq=>(r.lt q hq).1)).setCell h.n1.1 _,⟨t.setIfInBounds 483 (.slice i f.length j),x,c0,i,j,g.eN _,by simp[y],by rw[Ac oO];exact z,by rw[Ac oO];exact B,λp v s=>?_,by rw[Ac oO];exact D,by rw[US oO],E,jj H _ g.tag oD _⟩,
  ⟨A,c,(HP _ _ _ _ (Ne.symm K)).trans G,(F.grown hg u).eN _ (λa e=>(o a e).ne g.tag oD) _,λa e=>(o a e).eN _ ((o a e).ne g.tag oD) _⟩,h.n1,h.n2,h.md,h.lb⟩
 have Q:p<480:=by rw[<-oY];exact(Array.getElem?_eq_some_iff.1 s).1
 rw[Ac oO];exact C p v s
end
theorem tX:prog.underlying 26=gk (.slice (prog.elem 26)):=oK
theorem yL (w:wR):(sizeOf (prog.elem 26)).run w1 w= .ok 1 w:=oK
theorem rX {a:Act} {d:Oper} {W:wR} {x e:Operand} (f:d.op= .slice 26 x (gk e) U U) {A:xv Addr} {n c:Nat} {l:List Bool} (g:a.eval x= .slice A n c) {kl:Int} (i:a.eval e=I J kl) (k:Nat) (j:kl=(k:Int)) (p:k<=n):
 (execOp a.eval d).run w1 W= .ok (.value (.slice (if c=k then A else A.map (λm=>m.add k)) (n-k) (c-k))) W:=by
 subst j;have b:=run_slice_l (P:=w1) W 26 A n c tX .i64 (k:Int) oO oO;rw[yL]at b;simp only[Result.andThen_ok,sliced,Int.toNat_natCast,Nat.mul_one]at b;have o:=run_sliceAt_slice (P:=w1) W 26 (.slice A n c) (gk (I J (k:Int))) U U tX;unfold execOp;simp only[f,g,i,Option.map_some,Option.map_none,Sem.run_bind,Sem.run_pure,Result.andThen_ok,o,b]
theorem SR.from {w:wR} {A:xv Addr} {n c:Nat} {d:List Bool} (h:SR vB R w A n c d) (k:Nat) (a:k<=n):SR vB R w (if c=k then A else A.map (λb=>b.add k)) (n-k) (c-k) (d.drop k):=by
 have hc:=h.hc;rcases V1 a with e|e
 ·exact h.drop a (.inl e.symm) rfl
 ·obtain⟨b,e1,_⟩:=h.rd (by rw[<-h.hn];omega);rw[w6 oO];exact h.drop a (.inr ⟨b,e1,by rw[e1];rfl⟩) rfl
def jm (b:List Bool):Bool:=decide (b.length<12)&&b.all id
theorem zb {b:List Bool} {k:Nat} (a:k<b.length) (h:b.getD k R=R):jm b=R:=by
 unfold jm;rw[all_false (d:=R) a h,Bool.and_false]
theorem LV {b:List Bool} (hl:b.length<12) (h:∀a,a<b.length->b.getD a R=wP):jm b=wP:=by
 unfold jm;rw[y1 hl,all_true (d:=R) h];rfl
theorem Md (n:Nat) (w wr:wR) (db p:Nat) (b0 b:List Bool) (al:Nat) (out:List HH) (h:DE n w wr db p b0 b al out) (K:b0.drop (b0.length-b.length)=b):
 wS w1 135 #[.pointer (gk ⟨db,0,U⟩)] wr (au (.bool (jm b)) wr):=by
 obtain⟨a4,g,c0,av,co,i,Q,E,F,S,T,V,G,q⟩:=h.D;obtain⟨A,c,H,X,k3⟩:=h.cK;have L:=h.lb.1;have Z:=h.lb.2;have a0:wr.cell? ⟨db,1,U⟩=gk (.pointer (gk ⟨p,0,U⟩)):=i.cell 1 _ F;have D:w2 (wS w1 181 #[.pointer (gk ⟨p,0,U⟩)] wr λe u=>e= .returned (I J ((b.length:Nat):Int))/\u=wr):=NG p A b.length c wr H.cells;obtain⟨lb,t⟩:∃lb,lb=b.length:=⟨_,rfl⟩;obtain⟨a,l⟩:∃a,a=b0.length:=⟨_,rfl⟩;have j:=aa t;have a5:=aa l;have M:w2 (b0.drop (a-lb)=b):=by show _=_;rw[l,t];exact K
 have d:w2 (∀W,af wr W->W.cell? ⟨db,0,U⟩=gk (.slice g a c0)):=λW Y=>by rw[l];exact(i.below Y).cell 0 _ E
 have z:w2 (SR vB R wr g a c0 b0):=by
  show SR _ _ _ _ _ _ _;rw[l];have hB:=h.B;rw[h.n2]at hB;exact G.below hB
 rw[<-t]at D L;rw[<-l]at L Z;clear h i Q E F S T V G q H X k3 t l K;by_cases B:lb<12
 ·have a6:J.wrap ((a:Int)-(lb:Int))=((a-lb:Nat):Int):=by rw[aG _ oO oO];omega
  go_enter func135,ntmps135;go_wp2_with(go_at_call 181;refine D.out.mono ?_;rintro e u ⟨rfl,m⟩;rw[m];clear m)
  refine yO (af wr) [1,2,3,4,5,6,7,8,9,10,11,14,0,12,0,13] (ai (w3 _ _)) ?_;refine zO d.out ?_;refine zO d.out ?_;refine zO d.out ?_;refine zO d.out ?_;refine zO d.out ?_;refine zO d.out ?_;refine zO d.out ?_;refine zO d.out ?_;refine zO d.out ?_;refine zO d.out ?_;refine zO d.out ?_;refine zO d.out ?_;refine' zQ rfl (rX (l:=b0) rfl rfl rfl (a-lb) rfl oO) (ai (w3 _ _)) ?_;have ab:w2 (SR vB R wr.drew (if c0=a-lb then g else g.map (λr=>r.add (a-lb))) lb (c0-(a-lb)) b):=by
   have q:=(z.out.from (a-lb) oO).below (ai (w3 _ _));rw[M.out,show a-(a-lb)=lb from by omega]at q;exact q
  rw[show a-(a-lb)=lb from by omega];generalize(if c0=a-lb then g else g.map (λr=>r.add (a-lb)))=a1 at*;generalize c0-(a-lb)=c1 at*;have N:w2 (af wr wr.drew):=ai (w3 _ _);clear d z;generalize wr.drew=a2 at*;refine zU ?_;refine aj ?_;go_wp2;go_loop [26] (λv=>∃k:Nat,k<=lb/\v=I J k/\w2 (∀f,f<k->b.getD f R=wP)) (λv=>lb-(intOf v).toNat)
  case atStart=>exact⟨0,x1 _,rfl,λf x=>by omega⟩
  case round=>
   obtain⟨k,a3,rfl,s⟩:=hrel;by_cases O:k<lb
   ·obtain⟨r,rfl,_,P⟩:=ab.out.rd (by rw[<-j.out];omega);have a7:=P k (by rw[<-j.out];exact O);have o:w2 (b.getD k R=R->jm b=R):=zb (by rw[<-j.out];exact O);have C:w2 (b.getD k R=wP->∀f,f<k+1->b.getD f R=wP):=by
     show _->_;intro h f x;rcases Nat.lt_or_ge f k with i|i
     ·exact s.out f i
     ·obtain rfl:f=k:=oO;exact h
    clear P s;generalize b.getD k R=y at*;cases y with
    |true=>
     have am:=aa (C.out rfl);clear C o;go_wp2;exact⟨⟨k+1,by omega,by go_num,am.out⟩,by simp[intOf];omega⟩
    |false=>
     have ap:=aa (o.out rfl);clear C o;go_wp2;go_ret;exact⟨by rw[ap.out];rfl,N.out⟩
   ·have ac:k=lb:=oO;have ad:w2 (jm b=wP):=by
     refine LV (by rw[<-j.out];exact B) (λf x=>s.out f ?_);rw[ac,j.out];exact x
    clear s;go_wp2;go_ret;exact⟨by rw[ad.out];rfl,N.out⟩
 ·have o:w2 (jm b=R):=by
   show _=_;unfold jm;rw[decide_eq_false (by rw[<-j.out];exact B)];rfl
  have a8:12<=lb:=oO;clear B d z M;go_enter func135,ntmps135;go_wp2_with(go_at_call 181;refine D.out.mono ?_;rintro e u ⟨rfl,m⟩;rw[m];clear m)
  go_ret;exact⟨by rw[o.out];rfl,w3 _ _⟩
end
section
open Go.RowKit
theorem Ma (x y a:Nat) (b:y<=1):gV (2* x+y) (a+1)=gV x a:=by
 unfold gV;have e:(2* x+y)/2^(a+1)=x/2^a:=by
  rw[Nat.pow_succ,Nat.mul_comm (2^a) 2,<-Nat.div_div_eq_div_mul];congr 1;omega
 rw[e]
theorem KM (x y:Nat) (a:y<=1):gV (2* x+y) 0=(y==1):=by
 unfold gV;rw[Nat.pow_zero,Nat.div_one];have e:(2* x+y)%2=y:=oO;rw[e]
theorem BW (x y a:Nat) (b:y<=1):∀k,k<=a->dV (2* x+y) (a+1) k=dV x a k
 |0,_=>rfl
 |k+1,h=>by
  show dV _ _ k++[gV _ (a+1-1-k)]=dV _ _ k++[gV _ (a-1-k)];rw[BW x y a b k oO,show a+1-1-k=(a-1-k)+1 from by omega,Ma _ _ _ b]
theorem Cm (x y a:Nat) (b:y<=1):bH (2* x+y) (a+1)=bH x a++[y==1]:=by
 show dV _ _ a++[gV _ (a+1-1-a)]=_;rw[BW x y a b a (w5 _),show a+1-1-a=0 from by omega,KM _ _ b];rfl
def kF (b:List Bool) (k a:Nat):List Bool:=(List.range a).map λc=>b.getD (k+c) wP
theorem rh (b:List Bool) (k a:Nat):kF b k (a+1)=kF b k a++[b.getD (k+a) wP]:=by
 unfold kF;rw[List.range_succ,A1];rfl
theorem FV (b:List Bool) (k a:Nat):∀c,kF b k (a+c)=kF b k a++kF b (k+a) c
 |0=>by show kF b k a=_++[];rw[List.append_nil]
 |c+1=>by
  rw[<-Nat.add_assoc,rh,rh,FV b k a c,List.append_assoc,Nat.add_assoc]
theorem Ee (b:List Bool) (k:Nat):(jy b k==1)=b.getD k wP:=by
 unfold jy;by_cases h:k<b.length
 ·simp only[B2,yv h,Option.getD_some];cases b[k]<;>simp[h]
 ·have e:b.getD k wP=wP:=by rw[B2,B4 oO];rfl
  rw[w6 (λa=>h a.1),e];rfl
theorem DX (b:List Bool) (k:Nat):∀a,bH (q7 b k a) a=kF b k a
 |0=>rfl
 |a+1=>by
  show bH (2* q7 b k a+jy b (k+a)) (a+1)=_;rw[Cm _ _ _ (sx b _),DX b k a,rh,Ee]
theorem Qo (a:Nat):2^(a+1)=2* 2^a:=by rw[Nat.pow_succ,Nat.mul_comm]
theorem Ns (b:List Bool) (s k:Nat) (hs:2<=s):1<=(kx b s k).1/\(kx b s k).1<2^s-1/\k+(s-1)<=(kx b s k).2/\(kx b s k).2<=k+s/\lq s (kx b s k).1=kF b k ((kx b s k).2-k):=by
 obtain⟨a,rfl⟩:∃a,s=a+1:=⟨s-1,by omega⟩;have l:=Ms b k a;have f:=DX b k a;have i:2<=2^a:=by
  have:=C3 (n:=2) oO (show 1<=a by omega);simpa using this
 have e2:=Qo a;have g:(2^(a+1)-1)/2=2^a-1:=oO;unfold kx;rw[Nat.add_sub_cancel];generalize j:q7 b k a=v at*;by_cases c:v=0
 ·rw[xl c];refine⟨w5 _,by show 1<_;omega,w5 _,by show k+a<=_;omega,?_⟩;show lq (a+1) 1=kF b k (k+a-k);rw[UY,<-f,c];unfold lq;rw[xl (.inl rfl)];rfl
 ·rw[w6 c];by_cases d:v=2^a-1
  ·rw[xl d];refine⟨by show 1<=2* v;omega,by show 2* v<_;omega,w5 _,by show k+a<=_;omega,?_⟩;show lq (a+1) (2* v)=kF b k (k+a-k);rw[UY,<-f];unfold lq;have e:2* v/2=v:=oO;rw[e,xl (.inr (by rw[g];exact d))];rfl
  ·rw[w6 d];have hb:=sx b (k+a);refine⟨by show 1<=2* v+_;omega,by show 2* v+_<_;omega,by show k+a<=k+(a+1);omega,w5 _,?_⟩;show lq (a+1) (2* v+jy b (k+a))=kF b k (k+(a+1)-k);rw[UY];unfold lq;have e:(2* v+jy b (k+a))/2=v:=oO;rw[e,w6 (by rw[g];omega),Cm _ _ _ hb,f,rh,Ee]
theorem zp (b:List Bool) (s:Nat) (hs:2<=s):∀(f k:Nat),b.length<=f+k->k<b.length+s->
 (∀x∈eE b s f k,1<=x/\x<2^s-1)/\(eE b s f k).length<=b.length-k/\
 (k<b.length->(eE b s f k).length* (s-1)+k<=b.length+s-2)/\
 ∃e,b.length<=e/\e<b.length+s/\k<=e/\((eE b s f k).map (lq s)).flatten=kF b k (e-k)/\e-k<=(eE b s f k).length* s
 |0,k,i,c=>by
  refine⟨λx a=>(by cases a),x1 _,λh=>A8 h oO,k,by omega,c,w5 _,?_,by simp⟩;rw[Nat.sub_self];rfl
 |f+1,k,i,c=>by
  by_cases d:k<b.length
  ·have j:=Ns b s k hs;have e1:eE b s (f+1) k=(kx b s k).1::eE b s f (kx b s k).2:=by
    show(if k<b.length then _ else _)=_;rw[xl d]
   obtain⟨l,m,w,y,n⟩:=j;generalize kx b s k=q at*;obtain⟨o,z,p,e,r,t,A,u,i8⟩:=zp b s hs f q.2 oO oO;rw[e1];generalize eE b s f q.2=g at*;refine⟨λx a=>?_,?_,λ_=>?_,e,r,t,by omega,?_,?_⟩
   ·rcases List.mem_cons.1 a with rfl|a
    ·exact⟨l,m⟩
    ·exact o x a
   ·rw[Co];omega
   ·rw[Co,Nat.succ_mul];by_cases h:q.2<b.length
    ·have:=p h;omega
    ·have v:g.length=0:=oO;rw[v];omega
   ·rw[List.map_cons,List.flatten_cons,u,n,show e-k=(q.2-k)+(e-q.2)from by omega,FV,show k+(q.2-k)=q.2 from by omega]
   ·rw[Co,Nat.succ_mul];omega
  ·rw[BU b s (f+1) k oO];refine⟨λx a=>(by cases a),x1 _,λh=>A8 h d,k,by omega,c,w5 _,?_,by simp⟩;rw[Nat.sub_self];rfl
theorem FG (s:Nat) (a:List Int):∀k,k<=a.length->gr s a k=((a.take k).map λw=>lq s w.toNat).flatten
 |0,_=>rfl
 |k+1,h=>by
  show gr s a k++lq s (a.getD k 0).toNat=_;rw[FG s a k oO,List.take_add_one,yv oO,A1,List.flatten_append];congr 1;rw[B2,yv oO];simp
def zN (a:List Nat):List Int:=a.map λx:Nat=>(x:Int)
theorem zo (a:List Nat):(zN a).length=a.length:=by simp[zN]
theorem RQ (s:Nat) (a:List Nat):gr s (zN a) (zN a).length=(a.map (lq s)).flatten:=by
 rw[FG s (zN a) _ (w5 _),List.take_length];congr 1;unfold zN;rw[List.map_map];rfl
theorem uj (b:List Bool) (s:Nat) (hs:2<=s) (u:s<=12) (hb:b.length<=80000):∃e,b.length<=e/\e<b.length+s/\aC (zN (bm b s)) s=(kF b 0 e,0)/\
 b.length<=(bm b s).length* s/\(bm b s).length* (s-1)<=b.length+s-2/\(∀x∈bm b s,1<=x/\x<2^s-1)/\(bm b s).length<=b.length:=by
 obtain⟨a,c,i,e,j,k,t,l,m⟩:=zp b s hs b.length 0 oO oO;refine⟨e,j,k,?_,?_,?_,a,by have n:(bm b s).length<=b.length-0:=c;omega⟩
 ·have hl:(bm b s).length<=b.length:=c;have q:sH s (zN (bm b s))=wP:=by
   unfold sH;rw[E2];intro x d;obtain⟨y,f,rfl⟩:=List.mem_map.1 d;have:=a y f;rw[y1 oO,y1 oO];rfl
  have r:okW s (zN (bm b s))=wP:=by
   unfold okW;rw[E2];intro x d;obtain⟨y,f,rfl⟩:=List.mem_map.1 d;have:=a y f;rw[beq_eq_false_iff_ne.2 oO,beq_eq_false_iff_ne.2 oO];rfl
  have hq:¬1048576/(s:Int)<((zN (bm b s)).length:Int):=by
   rw[zo];have n:(87381:Int)<=1048576/(s:Int):=(Int.le_ediv_iff_mul_le oO).2 oO;omega
  unfold aC;rw[w6 oO,w6 (by rw[show((s:Nat):Int).toNat=s from rfl,q];simp),w6 hq,w6 (by rw[show((s:Nat):Int).toNat=s from rfl,r];simp)];rw[show((s:Nat):Int).toNat=s from rfl,RQ];have g:=l;rw[Nat.sub_zero]at g;rw[show((bm b s).map (lq s)).flatten=kF b 0 e from g]
 ·have v:e-0<=(bm b s).length* s:=m;omega
 ·by_cases o:0<b.length
  ·have:=i o;exact this
  ·have p:(bm b s).length=0:=by
    have:(bm b s).length<=b.length-0:=c;omega
   rw[p];omega
end
section
open Go.RowKit Go.WideMaps Go.Maps
inductive Atom (p:x2) (a m:Nat):aF->Prop
 |chars (n:Nat):n<32->cF m n=1->preB p a (dj m n)=wP->Atom p a m ⟨n,-1,0,R,ar m,a+(dj m n).size,m⟩
 |lV (n:Nat):n<32->cF m n=2->Atom p a m ⟨n,-1,0,R,ar m,a,cD m n⟩
 |shift (n s:Nat):n<32->cF m n=3->s<32->cF (cD m n) s=1->preB p a (dj (cD m n) s)=wP->Atom p a m ⟨n,(s:Int),0,R,ar m+ar (cD m n),a+(dj (cD m n) s).size,m⟩
 |short (n b:Nat):n<32->cF m n=4->1<=b->b<=31->a+b<=p.size->Atom p a m ⟨n,-1,b,R,ar m+5+8* b,a+b,m⟩
 |long (n b:Nat):n<32->cF m n=4->31<=b->b<=2078->a+b<=p.size->Atom p a m ⟨n,-1,b,wP,ar m+16+8* b,a+b,m⟩
theorem MZ {c:x2} {a m n:Nat} {b:aF} (hn:n<32) (d:cF m n=4) (h:q9 c n a m b) (i:b.run≠0) (hs:b.long=R->b.run<=31) (hl:b.run<=2078):Atom c a m b:=by
 rcases h with h|⟨e,j,f,k⟩
 ·exact A8 h i
 ·rw[e];cases g:b.long with
  |true=>
   have:=Atom.long (p:=c) (a:=a) (m:=m) n b.run hn d (k g) hl f;simpa using this
  |false=>
   have:=Atom.short (p:=c) (a:=a) (m:=m) n b.run hn d j (hs g) f;simpa using this
def yZ (a:aF):Prop:=(a.long=R->a.run<=31)/\a.run<=2078
theorem Ak {b:Nat->Nat->Nat} {num at_ m:Nat} {a:aF} {n sz:Nat} {lg:Bool} (hb:yZ a) (c:lg=R->n<=31) (d:n<=2078):yZ (dO b num at_ m a n sz lg):=by
 unfold dO;split
 ·exact⟨c,d⟩
 ·exact hb
theorem xE {a:Nat->Nat->Nat} {num at_ m:Nat}:∀k,k<=2048->yZ (gj a num at_ m k)
 |0,_=>⟨λ_=>x1 _,x1 _⟩
 |k+1,h=>Ak (xE k oO) (λe=>by cases e) oO
theorem vo {b:Nat->Nat->Nat} {num at_ m K:Nat} (a:K<=2048):∀k,k<=31->yZ (eF b num at_ m K k)
 |0,_=>xE K a
 |k+1,h=>Ak (vo a k oO) (λ_=>by omega) oO
theorem GY {c:Nat->Nat->Nat} {b:x2} {n a m:Nat} (e:a<b.size) (hn:n<32) (f:cF m n=4):Atom b a m (ga c n a m (b.size-a)):=by
 obtain⟨g,i⟩:=rQ (C:=c) (num:=n) (m:=m) e;have d:yZ (ga c n a m (b.size-a)):=vo oO _ oO;exact MZ hn f g i d.1 d.2
theorem Cf {b:x2} {a m n d:Nat} {c:aF}:∀k,c∈ee b a m n d k->∃s,s<k/\c∈og b a m n d s
 |0,h=>by cases h
 |k+1,h=>by
  unfold ee at h;rw[Dq]at h;rcases h with h|h
  ·obtain⟨s,f,e⟩:=Cf k h;exact⟨s,by omega,e⟩
  ·exact⟨k,by omega,h⟩
theorem Ci {b:x2} {a m n d s:Nat} {c:aF} (h:c∈og b a m n d s):∀k,s<k->c∈ee b a m n d k
 |0,f=>by omega
 |k+1,f=>by
  unfold ee;rw[Dq];by_cases e:s=k
  ·subst e;exact .inr h
  ·exact .inl (Ci h k oO)
theorem MJ {f:Nat->Nat->Nat} {c:x2} {a m n:Nat} (g:a<c.size) (hn:n<32) {d:aF} (b:d∈fa f c a m n):Atom c a m d:=by
 unfold fa at b;split at b
 ·split at b
  ·rw[A2]at b;subst b;exact .chars n hn (by assumption) (by assumption)
  ·cases b
 split at b
 ·rw[A2]at b;subst b;exact .lV n hn (by assumption)
 split at b
 ·rename_i i
  obtain⟨s,hs,h⟩:=Cf 32 b;unfold og at h;split at h
  ·rename_i e
   rw[A2]at h;subst h;exact .shift n s hn i hs e.1 e.2
  ·cases h
 split at b
 ·rw[A2]at b;subst b;exact GY g hn (by assumption)
 ·cases b
theorem Dv {b:Nat->Nat->Nat} {c:x2} {a m:Nat} {d:aF}:∀k,d∈cd b c a m k->∃n,n<k/\d∈fa b c a m n
 |0,h=>by cases h
 |k+1,h=>by
  unfold cd at h;rw[Dq]at h;rcases h with h|h
  ·obtain⟨s,f,e⟩:=Dv k h;exact⟨s,by omega,e⟩
  ·exact⟨k,by omega,h⟩
theorem Bx {d:Nat->Nat->Nat} {b:x2} {a m:Nat} (e:a<b.size) {c:aF} (f:c∈cd d b a m 32):Atom b a m c:=by
 obtain⟨n,hn,h⟩:=Dv 32 f;exact MJ e hn h
theorem Atom.opt {C:Nat->Nat->Nat} {b:x2} {a m:Nat} (p:a<b.size) {d:aF} (h:Atom b a m d):∃i∈fa C b a m d.num,i.cu C<=d.cu C/\(d.run=0->i=d):=by
 cases h with
 |chars n hn c f=>
  refine⟨_,?_,w5 _,λ_=>rfl⟩;show _∈fa C b a m n;unfold fa;rw[xl c,xl f];exact List.mem_singleton.2 rfl
 |lV n hn c=>
  refine⟨_,?_,w5 _,λ_=>rfl⟩;show _∈fa C b a m n;unfold fa;rw[c,w6 oO,xl rfl];exact List.mem_singleton.2 rfl
 |shift n s hn c hs o f=>
  refine⟨_,?_,w5 _,λ_=>rfl⟩;show _∈fa C b a m n;unfold fa;rw[c,w6 oO,w6 oO,xl rfl];refine Ci (s:=s) ?_ 32 hs;unfold og;rw[xl ⟨o,f⟩];exact List.mem_singleton.2 rfl
 |short n j hn c g k l=>
  refine⟨ga C n a m (b.size-a),?_,uF _ _ g oO,λe=>by simp only at e;omega⟩;show _∈fa C b a m n;unfold fa;rw[c,w6 oO,w6 oO,w6 oO,xl rfl];exact List.mem_singleton.2 rfl
 |long n j hn c g k l=>
  refine⟨ga C n a m (b.size-a),?_,?_,λe=>by simp only at e;omega⟩
  ·show _∈fa C b a m n;unfold fa;rw[c,w6 oO,w6 oO,w6 oO,xl rfl];exact List.mem_singleton.2 rfl
  ·exact x3 (sY oO _).1 (D9 _ _ g oO)
theorem Atom.R5 {c:x2} {a m:Nat} {b:aF} (h:Atom c a m b):b.num<32:=by cases h<;>assumption
theorem Atom.size_pos {c:x2} {a m:Nat} {b:aF} (h:Atom c a m b):4<=b.size:=by
 have:=nP m;cases h<;>simp only<;>omega
theorem Atom.Te {c:x2} {a m:Nat} {b:aF} (h:Atom c a m b):a<=b.at_:=by
 cases h<;>simp only<;>omega
theorem Atom.AZ {c:x2} {a m:Nat} (d:m<5) {b:aF} (h:Atom c a m b):b.mode<5:=by
 cases h<;>simp only<;>first|exact oP _ _|exact d
structure nB (b:x2) (C:Nat->Nat->Nat):Prop where
 le:∀a m,a<b.size->m<5->∀c,Atom b a m c->C a m<=c.cu C
 ex:∀a m,a<b.size->m<5->∃c,Atom b a m c/\c.cu C=C a m
 zero:∀a m,b.size<=a->C a m=0
theorem dK.ac {e:x2} {f:Nat->Nat->Nat} (k:e.size<=4096) (h:dK e f):nB e f:=by
 refine⟨λa m b c i j=>?_,λa m b c=>?_,h.zero⟩
 ·obtain⟨l,d,g,_⟩:=j.opt (C:=f) b;exact x3 ((h.fix a b).1 m c l (sW d 32 j.R5)) g
 ·rcases(h.fix a b).2 m c with d|⟨i,d,g⟩
  ·have:=h.fin k a m c;omega
  ·exact⟨i,Bx b d,g⟩
theorem nB.zd {g:x2} {i b:Nat->Nat->Nat} (h:nB g i) (n:nB g b) (a:Nat) (l:a<g.size) (o:∀k m,a<k->m<5->i k m=b k m):∀x m,m<5->b a m=x->i a m<=b a m:=by
 intro x
 induction x using Nat.strongRecOn with
 |ind x p=>
  intro m d q;obtain⟨j,c,e⟩:=n.ex a m l d;refine x3 (h.le a m l d j c) ?_;rw[<-e];unfold aF.cu at e⊢;refine Nat.add_le_add_left ?_ _;have r:=c.size_pos;rcases V1 c.Te with f|f
  ·rw[<-f];rw[<-f]at e;exact p (b a j.mode) oO j.mode (c.AZ d) rfl
  ·rw[o _ _ f (c.AZ d)];exact w5 _
theorem nB.uniq {c:x2} {e f:Nat->Nat->Nat} (h:nB c e) (g:nB c f) (a m:Nat) (i:m<5):e a m=f a m:=by
 have key:∀k a,c.size<=a+k->∀m,m<5->e a m=f a m:=by
  intro k
  induction k with
  |zero=>intro a d m _;rw[h.zero a m d,g.zero a m d]
  |succ k o=>
   intro a p m i;by_cases d:a<c.size
   ·have n:∀b m,a<b->m<5->e b m=f b m:=λb m l j=>o b oO m j;exact Nat.le_antisymm (h.zd g a d n _ m i rfl) (g.zd h a d (λb m l j=>(n b m l j).symm) _ m i rfl)
   ·rw[h.zero a m oO,g.zero a m oO]
 exact key c.size a oO m i
section
variable {n : Nat} {w wr : wR} {db rb : Nat} {b0 b : List Bool} {mode : Nat} {out : List HH}
theorem DE.reads (h:DE n w wr db rb b0 b mode out) (m:Nat) (g:m<=40):
 wS w1 182 #[.pointer (gk ⟨rb,0,U⟩),I J (m:Int)] wr λe d=>e= .returned (.tuple #[I J (aK b 0 m).1,I J (aK b 0 m).2])/\
  ((b.length<m/\d=wr)\/(m<=b.length/\DE n w d db rb b0 (b.drop m) mode out)):=by
 obtain⟨A,c,f,i,k3⟩:=h.cK;refine(Ki rb A b.length c m b wr f.cells (CH _ _ _ _ _ f) g (by have:=h.lb;omega) i).mono ?_;rintro e d ⟨j,a⟩;refine⟨j,?_⟩;rcases a with a|⟨a,o,p,rfl,k,l⟩
 ·exact .inl a
 ·exact .inr ⟨a,h.take a k f l⟩
theorem DE.facts (h:DE n w wr db rb b0 b mode out):wr.cell? ⟨db,1,U⟩=gk (.pointer (gk ⟨rb,0,U⟩))/\wr.cell? ⟨db,482,U⟩=gk (I J (mode:Int))/\wr.frozen? ⟨db,482,U⟩=R/\wr.frozen? ⟨db,483,U⟩=R:=by
 obtain⟨o,e,c0,f,co,a,g,i,c,j,d,k,l,m⟩:=h.D;exact⟨a.cell 1 _ c,a.cell 482 _ d,CH _ _ _ _ _ a,CH _ _ _ _ _ a⟩
theorem DE.qm (h:DE n w wr db rb b0 b mode out) (m k:Nat) (d:m<5) (f:k<32):∀a v,(qm m k)[a]?=gk v->wr.cell? ((⟨db,2+m* 96+k* 3,U⟩:Addr).add a)=gk v:=by
 intro a v c;obtain⟨y,l,c0,o,co,g,p,q,r,i,s,t,u,x⟩:=h.D;have j:a<3:=by
  rcases Nat.lt_or_ge a 3 with h|h
  ·exact h
  ·rw[B4 (by show 3<=a;exact h)]at c;cases c
 rw[add_plain];refine g.cell _ _ ?_;have e:2+m* 96+k* 3+a=2+(m* 96+(k* 3+a)):=oO;rw[e];refine i _ _ ?_;rw[zA m (k* 3+a) d oO,ET m k a f j];exact c
theorem uJ:(prog.info? 5).map (λa=>(a.zero,a.size,a.bytes))=gk (gk (.int .u8 0),1,1):=oK
theorem uP {l:Array Oper} {S:wR->Prop} {K:Act->wR->Prop} {m:List (Bool×Nat×Oper)} {k:Nat} {f:Oper} {a:Act} {W:wR} {base:Nat} {A:xv Addr} {c:Nat} (p:W.ownsRow base 5 1 (.slice A out.length c) out.length (out.map vU)) (hb:base<=W.heap.size)
 (z:Region.wanted f (yielded l a.tmps)=wP) (s y:Operand) (q:f.op= .call {callee:= .builtin .append,args:=#[s,y],argTypes:=#[22,9]}) (hs:a.eval s= .slice A out.length c) (d:x2) (r:a.eval y= .string d) (hl:out.length<=100000000) (F:d.size<=1000)
 (t:∀g i e,e.ownsRow base 5 1 (.slice g (out++d.data.toList).length i) (out++d.data.toList).length ((out++d.data.toList).map vU)->W.grownBy e (HM A out.length c).ownBlock->S e/\bI w1 l S K m (a.put f.dst (.slice g (out++d.data.toList).length i)) e):
 bI w1 l S K ((wP,k,f)::m) a W:=by
 obtain⟨u,v,B,C,D⟩:=info_parts uJ;obtain⟨G,e,E,j,x,_⟩:=Lib.run_append_own_string (P:=w1) W base 22 9 f.type 5 u underlying22 underlying9 v B C D _ _ _ p d oM oO hb;have e1:out.length+d.size=(out++d.data.toList).length:=by simp
 have e2:out.map vU++Lib.strCells d=(out++d.data.toList).map vU:=by rw[A1];rfl
 rw[e1,e2]at j;obtain⟨g,i,rfl⟩:=cA j;have o:=t g i e j x;refine fl z ?_ o.1 o.2;unfold execOp;simp only[q,resolve,invoke,builtin,Sem.run_bind,Sem.run_pure,Result.andThen_ok,List.map_toArray,List.map_cons,List.map_nil,hs,r,E]
end
theorem DE.Kh {n:Nat} {w wr:wR} {db c:Nat} {b0 b:List Bool} {i:Nat} {out:List HH} (h:DE n w wr db c b0 b i out) {d:xv Addr} {co:Nat} (j:wr.ownsRow n 5 1 (.slice d out.length co) out.length (out.map vU)) {W:wR} (hg:wr.grownBy W (HM d out.length co).ownBlock) {e:xv Addr} {f:Nat} {a:List HH}
 (m:W.ownsRow n 5 1 (.slice e a.length f) a.length (a.map vU)):(∃u,W.cell? ⟨db,483,U⟩=gk u)/\W.frozen? ⟨db,483,U⟩=R/\DE n w (W.setCell ⟨db,483,U⟩ (.slice e a.length f)) db c b0 b i a:=by
 obtain⟨g,k⟩:=h.grow j hg m;obtain⟨o,c0,p,q,_,_,_,_,_,_,l,_⟩:=Classical.choose_spec h.D;exact⟨⟨_,g.cell 483 _ l⟩,CH _ _ _ _ _ g,k⟩
theorem DE.outs {n:Nat} {w wr:wR} {db e:Nat} {b0 b:List Bool} {j:Nat} {out:List HH} (h:DE n w wr db e b0 b j out):∃A c,wr.cell? ⟨db,483,U⟩=gk (.slice A out.length c)/\wr.ownsRow n 5 1 (.slice A out.length c) out.length (out.map vU)/\∀W,af wr W->W.cell? ⟨db,483,U⟩=gk (.slice A out.length c):=by
 obtain⟨s,k,c0,f,co,a,l,m,o,p,q,d,r,g⟩:=h.D;exact⟨f,co,a.cell 483 _ d,g,λW i=>(a.below i).cell 483 _ d⟩
def fy (a:Nat) (b:List Bool) (out:List HH):Int×List Bool×List HH:=
 if b.length<ar a then(10,b,out)
 else if cF a (ba b 0 (ar a))=1 then(0,b.drop (ar a),out++(dj a (ba b 0 (ar a))).data.toList)
 else(22,b.drop (ar a),out)
theorem qQ (b:List Bool) (m:Nat):ba b 0 (ar m)<32:=by
 have a:=eS b 0 (ar m);have c:2^ar m<=2^5:=C3 oO (gU m);omega
theorem G4 (n:Nat) (w wr:wR) (db l:Nat) (b0 b:List Bool) (t:Nat) (out:List HH) (a:Nat) (h:DE n w wr db l b0 b t out) (Y:a<5) (b1:out.length<=90000000):
 wS w1 183 #[.pointer (gk ⟨db,0,U⟩),I J (a:Int)] wr λe a1=>e= .returned (I J (fy a b out).1)/\DE n w a1 db l b0 (fy a b out).2.1 t (fy a b out).2.2:=by
 have bt:=aa h;have m:w2 (DE n w wr.drew db l b0 b t out):=h.below (ai (w3 _ _));have b2:=gU a;have d:w2 (∀W:wR,(W.cell? ⟨db,1,U⟩=gk (.pointer (gk ⟨l,0,U⟩)))->W.cell? ⟨db,1,U⟩=gk (.pointer (gk ⟨l,0,U⟩))):=λW h=>h;have b3:(a:Int)<5:=oO;clear h;by_cases s:b.length<ar a
 ·have H:w2 (aK b 0 (ar a)=(0,10)):=by show _=_;unfold aK;rw[xl oO]
  have q:w2 (fy a b out=(10,b,out)):=by show _=_;unfold fy;rw[xl s]
  have N:=aa s;clear s;go_enter func183,ntmps183;go_wp2;refine yO (λW=>W.cell? ⟨db,1,U⟩=gk (.pointer (gk ⟨l,0,U⟩))) [1,2,3,4,5,0,6,7,0,8,9,10,11,12] m.out.facts.1 ?_;refine zO d.out ?_;refine zO d.out ?_;refine zO d.out ?_;refine zO d.out ?_;refine zO d.out ?_;refine zZ ?_;refine(fY a _).mono ?_;rintro e a2 ⟨rfl,x⟩;rw[x];clear x;refine⟨_,rfl,m.out.facts.1,jO ?_⟩;refine zZ ?_;refine(m.out.reads (ar a) oO).mono ?_;rintro e f ⟨rfl,g⟩;have Z:f=wr.drew:=by
   rcases g with g|g
   ·exact g.2
   ·have:=N.out;omega
  rw[H.out,Z];clear g Z;refine⟨_,rfl,m.out.facts.1,jO ?_⟩;refine zO d.out ?_;refine zO d.out ?_;refine zO d.out ?_;refine zO d.out ?_;refine zO d.out ?_;refine aj ?_;go_wp2;go_ret;rw[q.out];exact⟨rfl,m.out⟩
 ·obtain⟨k,C⟩:∃k,k=ba b 0 (ar a):=⟨_,rfl⟩;have av:k<32:=by rw[C];exact qQ b a
  have H:w2 (aK b 0 (ar a)=(((k:Nat):Int),0)):=by show _=_;unfold aK;rw[w6 oO,C]
  have q:w2 (fy a b out=if cF a k=1 then(0,b.drop (ar a),out++(dj a k).data.toList)else(22,b.drop (ar a),out)):=by show _=_;unfold fy;rw[w6 s,C]
  have N:=aa s;have bb:=je a Y k av;clear s C;go_enter func183,ntmps183;go_wp2;refine yO (λW=>W.cell? ⟨db,1,U⟩=gk (.pointer (gk ⟨l,0,U⟩))) [1,2,3,4,5,0,6,7,0,8,9,10,11,12] m.out.facts.1 ?_;refine zO d.out ?_;refine zO d.out ?_;refine zO d.out ?_;refine zO d.out ?_;refine zO d.out ?_;refine zZ ?_;refine(fY a _).mono ?_;rintro e a2 ⟨rfl,x⟩;rw[x];clear x;refine⟨_,rfl,m.out.facts.1,jO ?_⟩;refine zZ ?_;refine(m.out.reads (ar a) oO).mono ?_;rintro e f ⟨rfl,g⟩;have y:w2 (DE n w f db l b0 (b.drop (ar a)) t out):=by
   rcases g with g|g
   ·exact A8 g.1 N.out
   ·exact g.2
  rw[H.out];clear g;refine⟨_,rfl,y.out.facts.1,jO ?_⟩;refine zO d.out ?_;refine zO d.out ?_;refine zO d.out ?_;refine zO d.out ?_;refine zO d.out ?_;refine aj ?_;have z:w2 (∀Q v,(qm a k)[Q]?=gk v->f.cell? ((⟨db,2+a* 96+k* 3,U⟩:Addr).add Q)=gk v):=y.out.qm a k Y av;have ab:w2 (qm a k=[I J ((cF a k:Nat):Int),I J ((cD a k:Nat):Int),.string (dj a k)]):=rfl;obtain⟨u,O⟩:∃u,u=cF a k:=⟨_,rfl⟩;obtain⟨i,ac⟩:∃i,i=cD a k:=⟨_,rfl⟩;obtain⟨c,D⟩:∃c,c=dj a k:=⟨_,rfl⟩;rw[ab.out]at z;rw[<-O,<-D]at q;rw[<-O,<-ac,<-D]at z;rw[<-D]at bb;clear O ac D ab m;have b4:(k:Int)<32:=oO;by_cases S:u=1
  ·subst S;have a3:(((1:Nat):Int)!=1)=R:=rfl;have bd:w2 (fy a b out=(0,b.drop (ar a),out++c.data.toList)):=by show _=_;rw[q.out,xl rfl]
   clear q
   go_wp2_with(first
    |((with_reducible show y7 _ _ _ (⟨_,Op.load 168 _,_,_,_,_⟩::_) _ _);refine aP rfl 168 _ rfl _ N2 rfl ⟨db,2+a* 96+k* 3,U⟩ [_,_,_] dW rfl z.out ?_)
    |((with_reducible show y7 _ _ _ (⟨_,Op.alloc 168,_,_,_,_⟩::_) _ _);refine bj rfl 168 rfl _ iH ?_)
    |((with_reducible show y7 _ _ _ (⟨_,Op.store 168 _ _,_,_,_,_⟩::_) _ _);refine bG rfl 168 _ _ rfl 168 _ _ rfl rfl dW rfl (fV _ _ _) ?_))
   have be:w2 (an (f.alloc (.cells (mc ((1:Nat):Int) (i:Int) c).toArray 168)) f.heap.size (mc ((1:Nat):Int) (i:Int) c)):=an.new _ (mc ((1:Nat):Int) (i:Int) c).toArray _ _ rfl;have bq:w2 (ag (f.alloc (.cells (mc ((1:Nat):Int) (i:Int) c).toArray 168)) f.heap.size (mc ((1:Nat):Int) (i:Int) c).toArray 168):=ag.new _ _ _ _ rfl;have P:w2 (DE n w (f.alloc (.cells (mc ((1:Nat):Int) (i:Int) c).toArray 168)) db l b0 (b.drop (ar a)) t out):=y.out.below (ax _ _);clear z y;show Code.wp _ _ _ _ (f.alloc (.cells (mc ((1:Nat):Int) (i:Int) c).toArray 168));generalize f.alloc (.cells (mc ((1:Nat):Int) (i:Int) c).toArray 168)=r at*;generalize f.heap.size=j at*;obtain⟨K,co,a4,T,V⟩:=P.out.outs;have ad:w2 (r.drew.cell? ⟨db,483,U⟩=gk (.slice K out.length co)):=V _ (ai (w3 _ _));have A:w2 (r.drew.ownsRow n 5 1 (.slice K out.length co) out.length (out.map vU)):=aq T (ai (w3 _ _));have E:w2 (DE n w r.drew db l b0 (b.drop (ar a)) t out):=P.out.below (ai (w3 _ _));have G:w2 (ag r.drew j (mc ((1:Nat):Int) (i:Int) c).toArray 168):=bq.out.below (ai (w3 _ _));have B:w2 (r.drew.cell? ⟨j,2,U⟩=gk (.string c)):=be.out.drew.2 2 oS;have o:w2 (∀W:wR,(W.cell? ⟨j,2,U⟩=gk (.string c))->W.cell? ⟨j,2,U⟩=gk (.string c)):=λW h=>h;clear a4 T V P;refine yO (λW=>W.cell? ⟨j,2,U⟩=gk (.string c)) [1,2,3,4,6,7,0,5,8,0,9,10,0,11] B.out ?_;refine zO o.out ?_;refine zO o.out ?_;refine zO o.out ?_;refine zO o.out ?_;refine zO o.out ?_;refine zO o.out ?_;have a5:=ad.out;refine' zQ (v:= .slice K out.length co) (w':=r.drew) rfl (by go_simp) B.out ?_;clear a5;refine' uP A.out E.out.ge rfl _ _ rfl rfl c rfl oO oO ?_;intro a6 a7 L al F;obtain⟨⟨u8,bv⟩,bx,am⟩:=E.out.Kh A.out F al;have ap:=aa am;have a0:w2 (L.cell? ⟨j,2,U⟩=gk (.string c)):=by
    refine(F.cell_far ⟨j,2,U⟩ (World.block_lt_of_cell? _ _ B.out) ?_).trans B.out;intro e;obtain⟨bz,hq⟩:=ou A.out e.symm;have p:=G.out;unfold ag at p;rw[hq]at p;injection p with p;injection p with _ p _;exact A8 p oD
   have bf:w2 (j≠db):=by
    obtain⟨bi,_,_,_,_,M,_⟩:=E.out.D;exact G.out.tag.ne M.tag oD
   have bs:w2 (Tag L j 168):=G.out.tag.grown F (λe=>(ou A.out e.symm).ne G.out.tag oD rfl);refine⟨a0.out,?_⟩;clear al F am ad A E B;simp only[yQ,yU,yX,yY];refine zO o.out ?_;refine zO o.out ?_;refine .inl ⟨rfl,?_⟩;go_simp;have bo:j≠db:=by
    obtain⟨bi,_,_,_,_,M,_⟩:=ap.out.D;intro e;have a8:Tag (L.setCell ⟨db,483,U⟩ (.slice a6 (out++c.data.toList).length a7)) j 168:=by
     refine Tag.eN ?_ _ ?_ _
     ·exact bs.out
     ·exact bf.out
    exact(a8.ne M.tag oD) e
   refine⟨(World.cell?_setCell_other _ _ _ _ (λe=>bo (by injection e with e;exact e.symm))).trans a0.out,?_⟩;refine aj ?_;go_wp2;go_ret;rw[bd.out];have X:=ap.out;rw[show(out++c.data.toList).length=out.length+c.size from by simp]at X;exact⟨rfl,X⟩
  ·have a9:((u:Int)==1)=R:=by rw[beq_eq_false_iff_ne];omega
   have a3:((u:Int)!=1)=wP:=by rw[bne,a9];rfl
   go_wp2_with(first
    |((with_reducible show y7 _ _ _ (⟨_,Op.load 168 _,_,_,_,_⟩::_) _ _);refine aP rfl 168 _ rfl _ N2 rfl ⟨db,2+a* 96+k* 3,U⟩ [_,_,_] dW rfl z.out ?_)
    |((with_reducible show y7 _ _ _ (⟨_,Op.alloc 168,_,_,_,_⟩::_) _ _);refine bj rfl 168 rfl _ iH ?_)
    |((with_reducible show y7 _ _ _ (⟨_,Op.store 168 _ _,_,_,_,_⟩::_) _ _);refine bG rfl 168 _ _ rfl 168 _ _ rfl rfl dW rfl (fV _ _ _) ?_))
   go_ret;rw[q.out,w6 S];exact⟨rfl,y.out.below (ax _ _)⟩
end
end Go.Proofs.YtmnlkganmgcpbaaGreatDoor
