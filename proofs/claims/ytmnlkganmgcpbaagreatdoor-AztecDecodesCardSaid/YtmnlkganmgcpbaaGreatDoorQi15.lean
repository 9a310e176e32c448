import Derived.Test.YtmnlkganmgcpbaaGreatDoorQi14
set_option maxRecDepth 100000
set_option maxHeartbeats 4000000
set_option linter.unusedVariables false
set_option linter.unusedSectionVars false
set_option linter.unusedSimpArgs false
set_option linter.defProp false
open Go.Value renaming int->I,int->zz
open Go.IntKind renaming i64->J
open Bool renaming false->R,true->wP,and_eq_true->Az
open Option renaming none->U,some->gk
open Go renaming World->wR,Calls->wS,bodyPost_ret->y4,TypeId->Ar,frozen_of_row->CH,results->HD,cell_of_row->HF,heap_alloc_new->HT
open Go.Proofs.Tryz renaming prog->w1,underlying64->z1,ntmps153->WX,func153->Xe
open Go.RowKit renaming Hid->w2
open Go.RowKit.Below renaming refl->w3,heap_alloc->y8
open Nat renaming le_refl->w5,zero_le->x1,lt_or_ge->z6,eq_zero_or_pos->HS
open _root_ renaming if_neg->w6,if_pos->xl,Option->xv,congrArg->z7,default->Wu
open List renaming getD->x4,getElem?_eq_getElem->yv,replicate->y0,range->y3,map_congr_left->A9,getElem_mem->C4,eq_nil_of_length_eq_zero->E1,all_eq_true->E2,getElem?_set_ne->Ui,map_map->U3
open Go.World renaming cell?_alloc_lt->HY
open Go.Proofs.Tryz
namespace Go.Proofs.YtmnlkganmgcpbaaGreatDoor
section
open Go.RowKit
theorem pX (c s b:Int) (a:List Int) (n:Nat) (hn:n=a.length) (A:xv Addr) (d:Nat) (w:wR) (e:n<=9223372036854775807) (f:RD w A a):
 wS w1 190 #[aU c s b,.slice A n d] w (au (.bool (iQ s a)) w):=by
 subst hn;exact Et c s b a A d w e f
def jW (s:Int) (a:List Int):Bool:=decide (a.length<=4097)&&(decide (a.length=0)||!decide (a.getD (a.length-1) 0=0))&&iQ s a
structure Sl where
 A:xv Addr
 n:Nat
 c:Nat
 xs:List Int
abbrev Sl.v (q:Sl):Value:= .slice q.A q.n q.c
structure Sl.cK (q:Sl) (w:wR):Prop where
 hn:q.n=q.xs.length
 hm:q.n<=9223372036854775807
 rd:RD w q.A q.xs
 hc:q.n<=q.c
 rz:q.c<=maxLen
theorem Sl.cK.below {q:Sl} {W a:wR} (h:q.cK W) (hb:af W a):q.cK a:=⟨h.hn,h.hm,h.rd.below hb,h.hc,h.rz⟩
theorem Sl.cK.ints {q:Sl} {w:wR} (h:q.cK w):az w q.v q.xs:=⟨q.A,q.c,by rw[<-h.hn],by rw[<-h.hn];exact h.hc,h.rz,h.rd⟩
theorem az.sl {w:wR} {v:Value} {a:List Int} (h:az w v a):∃q:Sl,v=q.v/\q.cK w/\q.xs=a:=by
 obtain⟨A,c,rfl,d,b,e⟩:=h;exact⟨⟨A,a.length,c,a⟩,rfl,⟨rfl,by unfold maxLen at b;simp only;omega,e,d,b⟩,rfl⟩
instance:Inhabited Sl:=⟨⟨U,0,0,[]⟩⟩
structure qZ (w:wR) (V:xv Addr) (ps:List Sl):Prop where
 rd:0<ps.length->∃b,V=gk ⟨b,0,U⟩/\b<w.heap.size/\∀a,a<ps.length->w.cell? ⟨b,a,U⟩=gk (ps.getD a Wu).v
 el:∀q∈ps,q.cK w
theorem qZ.below {V:xv Addr} {ps:List Sl} {W a:wR} (h:qZ W V ps) (hb:af W a):qZ a V ps:=
 ⟨λhn=>by obtain⟨b,e,hl,hc⟩:=h.rd hn;exact⟨b,e,Nat.lt_of_lt_of_le hl hb.size,λc d=>(hb.cell hl).trans (hc c d)⟩,λq hq=>(h.el q hq).below hb⟩
theorem qZ.dw (w:wR) (V:xv Addr):qZ w V []:=⟨λh=>absurd h oS,λq hq=>by cases hq⟩
theorem qZ.one {w:wR} {q:Sl} (a:Ar) (b:Nat) (hb:b=w.heap.size) (h:q.cK w):qZ (w.alloc (.cells #[q.v] a)) (gk ⟨b,0,U⟩) [q]:=by
 refine⟨λ_=>⟨b,rfl,by simp;omega,λc d=>?_⟩,λe hq=>?_⟩
 ·have:=(an.new w #[q.v] a b hb).2 c (by simpa using d);rw[this];have:c=0:=by simp at d;omega
  subst this;rfl
 ·obtain rfl:e=q:=by simpa using hq
  exact h.below ((w3 _ _).alloc (w5 _) _)
theorem qZ.two {w:wR} {q r:Sl} (a:Ar) (b:Nat) (hb:b=w.heap.size) (h:q.cK w) (f:r.cK w):qZ (w.alloc (.cells #[q.v,r.v] a)) (gk ⟨b,0,U⟩) [q,r]:=by
 refine⟨λ_=>⟨b,rfl,by simp;omega,λc d=>?_⟩,λg hq=>?_⟩
 ·have:=(an.new w #[q.v,r.v] a b hb).2 c (by simpa using d);rw[this];have:c=0\/c=1:=by simp at d;omega
  rcases this with rfl|rfl<;>rfl
 ·have e:af w (w.alloc (.cells #[q.v,r.v] a)):=(w3 _ _).alloc (w5 _) _;rcases List.mem_cons.1 hq with rfl|hq
  ·exact h.below e
  ·obtain rfl:g=r:=by simpa using hq
   exact f.below e
theorem NH {ps:List Sl} {f:Sl->Bool} {k:Nat} (a:k<ps.length) (h:f (ps.getD k Wu)=R):ps.all f=R:=by
 rw[List.all_eq_false];refine⟨ps[k],C4 a,?_⟩;have e:ps.getD k Wu=ps[k]:=by simp[x4,a]
 rw[e]at h;simpa using h
theorem Qz {ps:List Sl} {f:Sl->Bool} (h:∀a,a<ps.length->f (ps.getD a Wu)=wP):ps.all f=wP:=by
 rw[E2];intro q hq;obtain⟨a,b,rfl⟩:=List.getElem_of_mem hq;have:=h a b;simpa[x4,b]using this
theorem qZ.at_ {w:wR} {V:xv Addr} {ps:List Sl} (h:qZ w V ps) {k:Nat} (a:k<ps.length):(ps.getD k Wu).cK w:=by
 have e:ps.getD k Wu=ps[k]:=by simp[x4,a]
 rw[e];exact h.el _ (C4 a)
theorem K8 {s:Int} {a:List Int} (h:4097<a.length):jW s a=R:=by
 unfold jW;rw[show decide (a.length<=4097)=R from by simp;omega];rfl
theorem Ky {s:Int} {a:List Int} (h:1<=a.length) (b:a.getD (a.length-1) 0=0):jW s a=R:=by
 unfold jW;rw[show decide (a.length=0)=R from by simp;intro e;rw[e]at h;simp at h,b];simp
theorem AY {s:Int} {xs:List Int} (h:xs.length<=4097) (a:xs.length=0\/xs.getD (xs.length-1) 0≠0):jW s xs=iQ s xs:=by
 unfold jW;rw[show decide (xs.length<=4097)=wP from by simp;omega];rcases a with a|a
 ·rw[show decide (xs.length=0)=wP from by simpa using a];simp
 ·rw[show decide (xs.getD (xs.length-1) 0=0)=R from by simpa using a];simp
abbrev lO (c s a:Int):List Value:=[I J c,I J s,I J a]
abbrev eX (c s a:Int):Obj:= .cells #[I J c,I J s,I J a] 89
theorem fs {W:wR} {b:Nat} {c s a:Int} (h:an W b (lO c s a)):W.cell? ⟨b,0,U⟩=gk (I J c)/\W.cell? ⟨b,1,U⟩=gk (I J s)/\W.cell? ⟨b,2,U⟩=gk (I J a):=
 ⟨h.2 0 oS,h.2 1 oS,h.2 2 oS⟩
theorem zv (c s a:Int) (V:xv Addr) (m am:Nat) (ps:List Sl) (w:wR) (O:m=ps.length) (a8:m<=1000) (P:a<=9223372036854775807) (hs:qZ w V ps):
 wS w1 154 #[aU c s a,.slice V m am] w (au (.bool (bp c s a&&ps.all λq=>jW s q.xs)) w):=by
 have ap:w2 (an (w.alloc (eX c s a)) w.heap.size (lO c s a)):=an.new _ _ _ _ rfl;have Q:=aa (hs.below ((w3 _ _).alloc (w5 _) (eX c s a)));have r:=aa O;clear O hs;by_cases o:bp c s a=wP
 ·have p:=aa o;clear o;go_enter func154,ntmps154;go_wp2_with(go_at_call 149;refine(kq c s a _ P).mono ?_;rintro e av ⟨rfl,u⟩;rw[p.out];have G:=aa u;clear u)
  go_loopw [13] (λD wr=>∃k:Nat,k<=m/\D=I J k/\w2 (∀i,i<k->jW s (ps.getD i Wu).xs=wP)/\w2 (Below (w.alloc (eX c s a)).heap.size (w.alloc (eX c s a)) wr)) (λD _=>m-(intOf D).toNat)
  case atStart=>exact⟨0,x1 _,rfl,λi a0=>by omega,G.out⟩
  case round=>
   obtain⟨k,a5,rfl,hid,j⟩:=hrel;by_cases H:k<m
   ·obtain⟨b,rfl,-,hc⟩:=(Q.out.below j.out).rd (by rw[<-r.out];omega);have a1:=hc k (by rw[<-r.out];exact H);have E:=aa ((Q.out.below j.out).at_ (k:=k) (by rw[<-r.out];exact H));have a2:w2 (jW s (ps.getD k Wu).xs=R->ps.all (λq=>jW s q.xs)=R):=λh=>NH (f:=λq=>jW s q.xs) (by rw[<-r.out];exact H) h;obtain⟨a9,bb,bd⟩:=fs (ap.out.below j.out);clear hc;generalize v:ps.getD k Wu=q at*;have a3:=aa v;clear v;obtain⟨A,n,F,d⟩:=q;have ac:=E.out.hm;have K:=E.out.hn;have B:w2 (RD wr A d):=aa E.out.rd;simp only[Sl.v]at a1 ac K;have f:=aa K;clear K;have N:w2 (jW s d=R->Value.bool R= .bool (bp c s a&&ps.all λq=>jW s q.xs)):=λh=>by rw[p.out,a2.out h];rfl
    have ad:w2 (jW s d=wP->∀i,i<k+1->jW s (ps.getD i Wu).xs=wP):=λh i a0=>by
     by_cases a4:i=k
     ·subst a4;rw[a3.out];exact h
     ·exact hid.out i oO
    by_cases al:4097<n
    ·have t:=aa (N.out (K8 (by rw[<-f.out];exact al)));go_wp2;go_ret;exact⟨z7 Ending.returned t.out,dT j.out⟩
    ·have Z:n<=4097:=oO;clear al ac;by_cases S:n=0
     ·subst S;have ab:d=[]:=E1 f.out.symm;have g:w2 (iQ s d=wP):=by show _=_;rw[ab];rfl
      have L:=aa (ad.out (by rw[AY (by rw[<-f.out];omega) (.inl f.out.symm)];exact g.out));clear ab;go_wp2_with(go_at_call 190;refine(pX c s a d 0 f.out A F _ oO B.out).mono ?_;rintro e T ⟨rfl,l⟩;rw[g.out];have y:=aa l;clear l)
      exact⟨⟨k+1,by omega,by go_num,L.out,ae j.out y.out⟩,by simp[intOf];omega⟩
     ·obtain⟨q,v⟩:∃q,q=n-1:=⟨_,rfl⟩;have be:(n:Int)-1=(q:Int):=oO;have bf:q<n:=oO;have bi:q<=4096:=oO;have bo:1<=n:=oO;have a6:decide ((4097:Int)<(n:Int))=R:=by simp;omega
      have bq:decide ((0:Int)<(n:Int))=wP:=by simp;omega
      obtain⟨W,rfl,-,hc⟩:=B.out (by rw[<-f.out];omega);have bs:=hc q (by rw[<-f.out];omega);have M:=aa Z;have X:w2 (d.getD (d.length-1) 0=d.getD q 0):=by show _=_;rw[<-f.out,v]
      clear Z S v;clear hc;generalize d.getD q 0=x at*;by_cases C:x=0
      ·subst C;have t:=aa (N.out (Ky (by rw[<-f.out];omega) X.out));go_wp2;go_ret;exact⟨z7 Ending.returned t.out,dT j.out⟩
      ·have Y:=aa (AY (s:=s) (xs:=d) (by rw[<-f.out];exact M.out) (.inr (by rw[X.out];exact C)));have a7:(x==0)=R:=by rw[beq_eq_false_iff_ne];exact C
       clear C;cases z:iQ s d with
       |true=>
        have g:=aa z;have L:=aa (ad.out (by rw[Y.out];exact g.out));clear z;go_wp2_with(go_at_call 190;refine(pX c s a d n f.out (gk W) F _ (by have:=M.out;omega) B.out).mono ?_;rintro e T ⟨rfl,l⟩;rw[g.out];have y:=aa l;clear l)
        exact⟨⟨k+1,by omega,by go_num,L.out,ae j.out y.out⟩,by simp[intOf];omega⟩
       |false=>
        have g:=aa z;have t:=aa (N.out (by rw[Y.out];exact g.out));clear z;go_wp2_with(go_at_call 190;refine(pX c s a d n f.out (gk W) F _ (by have:=M.out;omega) B.out).mono ?_;rintro e T ⟨rfl,l⟩;rw[g.out];have y:=aa l;clear l)
        go_ret;exact⟨z7 Ending.returned t.out,dT (ae j.out y.out)⟩
   ·obtain rfl:k=m:=oO;have g:=aa (Qz (ps:=ps) (f:=λq=>jW s q.xs) (by rw[<-r.out];exact hid.out));go_wp2;go_ret;exact⟨bh (by rw[p.out,g.out];rfl),dT j.out⟩
 ·have o:bp c s a=R:=by simpa using o
  have p:=aa o;clear o;go_enter func154,ntmps154;go_wp2_with(go_at_call 149;refine(kq c s a _ P).mono ?_;rintro e av ⟨rfl,u⟩;rw[p.out];have G:=aa u;clear u)
  go_ret;exact⟨bh (by rw[p.out];rfl),dT G.out⟩
theorem EE {S:Nat} {a:List Nat} (h:ak S a):iQ (S:Int) (zl a)=wP:=by
 refine Ib λb c=>?_;rw[bT];have:=h b;omega
theorem IP {S:Nat} {a:List Int} (e:0<S) (h:iQ (S:Int) a=wP):∃c,a=zl c/\ak S c:=by
 refine⟨a.map Int.toNat,?_,?_⟩
 ·unfold iQ at h;rw[E2]at h;unfold zl;rw[U3];refine(List.map_id a).symm.trans (A9 λx f=>?_);have:=h x f;simp at this;show x=((x.toNat:Nat):Int);omega
 ·intro d;by_cases b:d<a.length
  ·unfold iQ at h;rw[E2]at h;have:=h a[d] (C4 b);simp at this;simp[x4,b];omega
  ·simp[x4,b,e]
theorem ID {S:Nat} {a:List Nat} (h:ak S a) (hn:a.length<=4097) (b:dm a):jW (S:Int) (zl a)=wP:=by
 rw[AY (by rw[ao];exact hn),EE h];rcases b with rfl|b
 ·exact .inl rfl
 ·right;rw[ao,bT];omega
theorem NQ {S:Nat} {d:List Int} (f:0<S) (h:jW (S:Int) d=wP):∃a,d=zl a/\ak S a/\dm a/\a.length<=4097:=by
 have c:=h;unfold jW at c;simp only[Az,decide_eq_true_eq,Bool.or_eq_true,Bool.not_eq_true',decide_eq_false_iff_not]at c;obtain⟨⟨e,b⟩,g⟩:=c;obtain⟨a,rfl,hl⟩:=IP f g;refine⟨a,rfl,hl,?_,by rw[ao]at e;exact e⟩;rw[ao,bT]at b;rcases b with b|b
 ·exact .inl (E1 b)
 ·exact .inr oO
def qw (c s a:Int) (b:List Int):Bool:=bp c s a&&jW s b
theorem fD.cells {w wr:wR} {d S a b n e bl c:Nat} (f:VF d S a) (i:b=S-1) (h:fD w wr d S a b n e bl c):
 (wr.cell? ⟨w.heap.size,0,U⟩=gk (I J d)/\wr.cell? ⟨w.heap.size,1,U⟩=gk (I J S)/\wr.cell? ⟨w.heap.size,2,U⟩=gk (I J a))/\
 (wr.cell? ⟨c,0,U⟩=gk (I J d)/\wr.cell? ⟨c,1,U⟩=gk (I J S)/\wr.cell? ⟨c,2,U⟩=gk (.slice (gk ⟨e,0,U⟩) b b)/\wr.cell? ⟨c,3,U⟩=gk (.slice (gk ⟨bl,0,U⟩) S S))/\
 (n<b->(∃u,wr.cell? ⟨e,n,U⟩=gk u)/\wr.frozen? ⟨e,n,U⟩=R/\(∃u,wr.cell? ⟨bl,aM S a (aV S a) n,U⟩=gk u)/\wr.frozen? ⟨bl,aM S a (aV S a) n,U⟩=R):=by
 refine⟨⟨?_,?_,?_⟩,⟨?_,?_,?_,?_⟩,λhn=>⟨?_,?_,?_,?_⟩⟩
 ·rw[HF _ _ _ _ _ _ h.F];rfl
 ·rw[HF _ _ _ _ _ _ h.F];rfl
 ·rw[HF _ _ _ _ _ _ h.F];rfl
 ·rw[HF _ _ _ _ _ _ h.A];rfl
 ·rw[HF _ _ _ _ _ _ h.A];rfl
 ·rw[HF _ _ _ _ _ _ h.A];rfl
 ·rw[HF _ _ _ _ _ _ h.A];rfl
 ·rw[HF _ _ _ _ _ _ h.E,iU];refine⟨_,Option.map_eq_some_iff.2 ⟨_,yv (by unfold lz;simp;omega),rfl⟩⟩
 ·exact CH _ _ _ _ _ h.E
 ·rw[HF _ _ _ _ _ _ h.L,iU];refine⟨_,Option.map_eq_some_iff.2 ⟨_,yv (by unfold nt;simp;exact lY f n),rfl⟩⟩
 ·exact CH _ _ _ _ _ h.L
theorem dH.setCell {W:wR} {S c b bl:Nat} (h:dH W S c b bl) (a:Addr) (u:Value) (f:b≠a.block) (g:bl≠a.block):dH (W.setCell a u) S c b bl:=by
 refine⟨by simpa using h.1,by simpa using h.2.1,λd i=>?_,λx j k=>?_⟩
 ·rw[World.cell?_setCell_other W a _ u (λe=>f (by rw[e]))];exact h.2.2.1 d i
 ·rw[World.cell?_setCell_other W a _ u (λe=>g (by rw[e]))];exact h.2.2.2 x j k
theorem jq (W:wR) (a b c:Obj):(((W.alloc a).alloc b).alloc c).heap[W.heap.size]?=gk a/\(((W.alloc a).alloc b).alloc c).heap[W.heap.size+1]?=gk b/\(((W.alloc a).alloc b).alloc c).heap[W.heap.size+1+1]?=gk c:=by
 refine⟨?_,?_,?_⟩
 ·exact(y8 _ _ _ oT).trans ((y8 _ _ _ oS).trans (HT W a))
 ·have h:=HT (W.alloc a) b;refine(y8 _ _ _ oS).trans ?_;simpa using h
 ·have h:=HT ((W.alloc a).alloc b) c;simpa using h
theorem fD.drew {w wr:wR} {a S b c n d bl e:Nat} (h:fD w wr a S b c n d bl e):fD w wr.drew a S b c n d bl e:=
 ⟨ai h.B,h.he,h.hl,h.hs,h.n1,h.n2,h.n3,h.F,h.cK,h.E,h.L,h.A⟩
theorem fD.res {w wr:wR} {a S b c n d bl e:Nat} (h:fD w wr a S b c n d bl e):
 wr.cell? ⟨w.heap.size+1,0,U⟩=gk (I J 0)/\wr.cell? ⟨w.heap.size+1,1,U⟩=gk (I J 0)/\wr.cell? ⟨w.heap.size+1,2,U⟩=gk (.slice U 0 0)/\wr.cell? ⟨w.heap.size+1,3,U⟩=gk (.slice U 0 0)/\∀k,wr.frozen? ⟨w.heap.size+1,k,U⟩=R:=by
 refine⟨?_,?_,?_,?_,λk=>CH _ _ _ _ _ h.cK⟩<;>(rw[HF _ _ _ _ _ _ h.cK];rfl)
theorem Fo (d S b:Nat) (w:wR) (q:VF d S b):
 wS w1 155 #[aU d S b] w λe P=>∃N bl,e= .returned (gG d S N bl)/\dH P S b N bl/\af w P:=by
 have a8:=q.le;have a9:=q.aO;have O:(b:Int)<=9223372036854775807:=q.ui;have hg:=kM q;have RG:w2 (xX d S b=(((aV S b:Nat):Int),0)):=by
  show _=_;unfold xX;rw[lH q,xl rfl];simp
 obtain⟨c,M⟩:∃c,c=S-1:=⟨S-1,rfl⟩;have bb:1<=c:=oO;have bd:=run_make_row' (P:=w1) 64 3 (I J 0) 8 z1 cT rfl .i64 .i64 c oO oO;have be:=run_make_row' (P:=w1) 64 3 (I J 0) 8 z1 cT rfl .i64 .i64 S oO oO;have bf:J.wrap ((S:Int)-1)=(c:Int):=by rw[aG _ oO oO];omega
 have bo:((S:Int)-1)=(c:Int):=oO;have j:=aa q;have i:=aa M;have K:w2 (ep (lz S b 0)=madeCells #[zz .i64 0] c):=by show _=_;rw[kY,An q,M]
 have L:w2 (ep (nt S b 0)=madeCells #[zz .i64 0] S):=by show _=_;rw[kY,BK q]
 clear M q;have ap:w2 (∀a:wR,Below ((w.alloc (rV d S b)).alloc D5).heap.size ((w.alloc (rV d S b)).alloc D5) a->w.heap.size+1<a.heap.size/\a.heap[w.heap.size]?=gk (rV d S b)/\a.heap[w.heap.size+1]?=gk D5/\af w a):=by
  intro a s;have hs:=s.size;simp at hs;refine⟨by omega,(s.block _ oT).trans ?_,(s.block _ oS).trans ?_,((w3 _ _).alloc (w5 _) _|>.alloc oS _).trans (s.mono oT)⟩
  ·exact(y8 _ _ _ oS).trans (HT w _)
  ·have:=HT (w.alloc (rV d S b)) D5;simpa using this
 go_enter func155,ntmps155
 go_wp2_with(
  go_at_call 158;refine(uu d S b _ oO O).mono ?_;rintro e a ⟨rfl,s⟩;rw[RG.out]
  have m:=aa (ap.out a s);have bi:w.heap.size+1<a.heap.size:=m.out.1;have W:w.heap.size<a.heap.size:=oO;have T:a.cell? ⟨w.heap.size,0,U⟩=gk (I J d):=(HF _ _ _ _ _ _ m.out.2.1).trans rfl;have V:a.cell? ⟨w.heap.size,1,U⟩=gk (I J S):=(HF _ _ _ _ _ _ m.out.2.1).trans rfl;have Z:∀g,(a.alloc g).cell? ⟨w.heap.size,0,U⟩=gk (I J d):=λg=>(HY _ _ _ (by exact W)).trans T;have ab:∀g k,((a.alloc g).alloc k).cell? ⟨w.heap.size,0,U⟩=gk (I J d):=λg k=>(HY _ _ _ oT).trans (Z g);have a2:∀g k H,(((a.alloc g).alloc k).alloc H).cell? ⟨w.heap.size,0,U⟩=gk (I J d):=λg k H=>(HY _ _ _ oT).trans (ab g k);have ac:∀g,(a.alloc g).cell? ⟨w.heap.size,1,U⟩=gk (I J S):=λg=>(HY _ _ _ (by exact W)).trans V;have ad:∀g k,((a.alloc g).alloc k).cell? ⟨w.heap.size,1,U⟩=gk (I J S):=λg k=>(HY _ _ _ oT).trans (ac g);have a3:∀g k H,(((a.alloc g).alloc k).alloc H).cell? ⟨w.heap.size,1,U⟩=gk (I J S):=λg k H=>(HY _ _ _ oT).trans (ad g k)
  clear s)
 go_region
 all_goals clear T V Z ab a2 ac ad a3
 all_goals go_wp2
 ·go_loopw [6,28] (λx f wr=>∃n:Nat,n<=c/\f=I J (n:Nat)/\x=I J ((aM S b (aV S b) n:Nat):Int)/\w2 (fD w wr d S b c n (a.heap.size) (a.heap.size+1) (a.heap.size+1+1))) (λ_ f _=>c-(intOf f).toNat)
  case atStart=>
   exact Rs
  case round=>
   obtain⟨n,hn,rfl,rfl,hid⟩:=hrel;obtain⟨⟨t,u,v⟩,⟨y,z,A,B⟩,l⟩:=fD.cells j.out i.out hid.out;by_cases r:n<c
   ·exact Ip
   ·obtain rfl:n=c:=oO;obtain⟨C,D,E,F,G⟩:=fD.res hid.out;have o:=aa (fD.sM j.out i.out hid.out);clear l;go_wp2;refine y4 (v:= .agg #[I J d,I J S,.slice (gk ⟨(a.heap.size),0,U⟩) n n,.slice (gk ⟨(a.heap.size+1),0,U⟩) S S]) ?_ rfl ⟨(a.heap.size),(a.heap.size+1),?_,?_,?_⟩
    ·have p:Tryz.f155.results=#[.cell 2 200]:=oK;simp only[HD,p];go_simp
    ·rw[i.out]
    ·exact(((o.out.setCell _ _ oT oT).setCell _ _ oT oT).setCell _ _ oT oT).setCell _ _ oT oT
    ·exact(((hid.out.B.setCell oS _).setCell oS _).setCell oS _).setCell oS _
 ·go_loopw [6,28] (λx f wr=>∃n:Nat,n<=c/\f=I J (n:Nat)/\x=I J ((aM S b (aV S b) n:Nat):Int)/\w2 (fD w wr d S b c n (a.heap.size) (a.heap.size+1+1) (a.heap.size+1))) (λ_ f _=>c-(intOf f).toNat)
  case atStart=>
   exact RZ
  case round=>
   obtain⟨n,hn,rfl,rfl,hid⟩:=hrel;obtain⟨⟨t,u,v⟩,⟨y,z,A,B⟩,l⟩:=fD.cells j.out i.out hid.out;by_cases r:n<c
   ·exact Ip
   ·obtain rfl:n=c:=oO;obtain⟨C,D,E,F,G⟩:=fD.res hid.out;have o:=aa (fD.sM j.out i.out hid.out);clear l;go_wp2;refine y4 (v:= .agg #[I J d,I J S,.slice (gk ⟨(a.heap.size),0,U⟩) n n,.slice (gk ⟨(a.heap.size+1+1),0,U⟩) S S]) ?_ rfl ⟨(a.heap.size),(a.heap.size+1+1),?_,?_,?_⟩
    ·have p:Tryz.f155.results=#[.cell 2 200]:=oK;simp only[HD,p];go_simp
    ·rw[i.out]
    ·exact(((o.out.setCell _ _ oT oT).setCell _ _ oT oT).setCell _ _ oT oT).setCell _ _ oT oT
    ·exact(((hid.out.B.setCell oS _).setCell oS _).setCell oS _).setCell oS _
 ·go_loopw [6,28] (λx f wr=>∃n:Nat,n<=c/\f=I J (n:Nat)/\x=I J ((aM S b (aV S b) n:Nat):Int)/\w2 (fD w wr d S b c n (a.heap.size+1) (a.heap.size) (a.heap.size+1+1))) (λ_ f _=>c-(intOf f).toNat)
  case atStart=>
   exact Ri
  case round=>
   obtain⟨n,hn,rfl,rfl,hid⟩:=hrel;obtain⟨⟨t,u,v⟩,⟨y,z,A,B⟩,l⟩:=fD.cells j.out i.out hid.out;by_cases r:n<c
   ·exact Ip
   ·obtain rfl:n=c:=oO;obtain⟨C,D,E,F,G⟩:=fD.res hid.out;have o:=aa (fD.sM j.out i.out hid.out);clear l;go_wp2;refine y4 (v:= .agg #[I J d,I J S,.slice (gk ⟨(a.heap.size+1),0,U⟩) n n,.slice (gk ⟨(a.heap.size),0,U⟩) S S]) ?_ rfl ⟨(a.heap.size+1),(a.heap.size),?_,?_,?_⟩
    ·have p:Tryz.f155.results=#[.cell 2 200]:=oK;simp only[HD,p];go_simp
    ·rw[i.out]
    ·exact(((o.out.setCell _ _ oT oT).setCell _ _ oT oT).setCell _ _ oT oT).setCell _ _ oT oT
    ·exact(((hid.out.B.setCell oS _).setCell oS _).setCell oS _).setCell oS _
 ·go_loopw [6,28] (λx f wr=>∃n:Nat,n<=c/\f=I J (n:Nat)/\x=I J ((aM S b (aV S b) n:Nat):Int)/\w2 (fD w wr d S b c n (a.heap.size+1+1) (a.heap.size) (a.heap.size+1))) (λ_ f _=>c-(intOf f).toNat)
  case atStart=>
   exact RY
  case round=>
   obtain⟨n,hn,rfl,rfl,hid⟩:=hrel;obtain⟨⟨t,u,v⟩,⟨y,z,A,B⟩,l⟩:=fD.cells j.out i.out hid.out;by_cases r:n<c
   ·exact Ip
   ·obtain rfl:n=c:=oO;obtain⟨C,D,E,F,G⟩:=fD.res hid.out;have o:=aa (fD.sM j.out i.out hid.out);clear l;go_wp2;refine y4 (v:= .agg #[I J d,I J S,.slice (gk ⟨(a.heap.size+1+1),0,U⟩) n n,.slice (gk ⟨(a.heap.size),0,U⟩) S S]) ?_ rfl ⟨(a.heap.size+1+1),(a.heap.size),?_,?_,?_⟩
    ·have p:Tryz.f155.results=#[.cell 2 200]:=oK;simp only[HD,p];go_simp
    ·rw[i.out]
    ·exact(((o.out.setCell _ _ oT oT).setCell _ _ oT oT).setCell _ _ oT oT).setCell _ _ oT oT
    ·exact(((hid.out.B.setCell oS _).setCell oS _).setCell oS _).setCell oS _
 ·go_loopw [6,28] (λx f wr=>∃n:Nat,n<=c/\f=I J (n:Nat)/\x=I J ((aM S b (aV S b) n:Nat):Int)/\w2 (fD w wr d S b c n (a.heap.size+1) (a.heap.size+1+1) (a.heap.size))) (λ_ f _=>c-(intOf f).toNat)
  case atStart=>
   exact Sr
  case round=>
   obtain⟨n,hn,rfl,rfl,hid⟩:=hrel;obtain⟨⟨t,u,v⟩,⟨y,z,A,B⟩,l⟩:=fD.cells j.out i.out hid.out;by_cases r:n<c
   ·exact Ip
   ·obtain rfl:n=c:=oO;obtain⟨C,D,E,F,G⟩:=fD.res hid.out;have o:=aa (fD.sM j.out i.out hid.out);clear l;go_wp2;refine y4 (v:= .agg #[I J d,I J S,.slice (gk ⟨(a.heap.size+1),0,U⟩) n n,.slice (gk ⟨(a.heap.size+1+1),0,U⟩) S S]) ?_ rfl ⟨(a.heap.size+1),(a.heap.size+1+1),?_,?_,?_⟩
    ·have p:Tryz.f155.results=#[.cell 2 200]:=oK;simp only[HD,p];go_simp
    ·rw[i.out]
    ·exact(((o.out.setCell _ _ oT oT).setCell _ _ oT oT).setCell _ _ oT oT).setCell _ _ oT oT
    ·exact(((hid.out.B.setCell oS _).setCell oS _).setCell oS _).setCell oS _
 ·go_loopw [6,28] (λx f wr=>∃n:Nat,n<=c/\f=I J (n:Nat)/\x=I J ((aM S b (aV S b) n:Nat):Int)/\w2 (fD w wr d S b c n (a.heap.size+1+1) (a.heap.size+1) (a.heap.size))) (λ_ f _=>c-(intOf f).toNat)
  case atStart=>
   exact Sp
  case round=>
   obtain⟨n,hn,rfl,rfl,hid⟩:=hrel;obtain⟨⟨t,u,v⟩,⟨y,z,A,B⟩,l⟩:=fD.cells j.out i.out hid.out;by_cases r:n<c
   ·exact Ip
   ·obtain rfl:n=c:=oO;obtain⟨C,D,E,F,G⟩:=fD.res hid.out;have o:=aa (fD.sM j.out i.out hid.out);clear l;go_wp2;refine y4 (v:= .agg #[I J d,I J S,.slice (gk ⟨(a.heap.size+1+1),0,U⟩) n n,.slice (gk ⟨(a.heap.size+1),0,U⟩) S S]) ?_ rfl ⟨(a.heap.size+1+1),(a.heap.size+1),?_,?_,?_⟩
    ·have p:Tryz.f155.results=#[.cell 2 200]:=oK;simp only[HD,p];go_simp
    ·rw[i.out]
    ·exact(((o.out.setCell _ _ oT oT).setCell _ _ oT oT).setCell _ _ oT oT).setCell _ _ oT oT
    ·exact(((hid.out.B.setCell oS _).setCell oS _).setCell oS _).setCell oS _
def mB (w:wR) (L:List Int×Int) (e:Ending) (a:wR):Prop:=∃v,e= .returned (.tuple #[v,I J L.2])/\az a v L.1/\af w a
theorem mB.mk {w a:wR} {cK:List Int×Int} {v:Value} {L:List Int} {err:Int} (h:cK=(L,err)) (b:az a v L) (hb:af w a):mB w cK (.returned (.tuple #[v,I J err])) a:=by
 subst h;exact⟨v,rfl,b,hb⟩
abbrev nl (a:List Int):List Nat:=a.map Int.toNat
theorem tG (a:List Nat):nl (zl a)=a:=by
 unfold nl zl;rw[U3];exact(A9 λx _=>(rfl:(Int.toNat∘λn:Nat=>(n:Int)) x=x)).trans (List.map_id a)
theorem Ht {c s e:Int} {f:List Int} (h:qw c s e f=wP):∃(b S d:Nat) (a:List Nat),c=b/\s=S/\e=d/\f=zl a/\VF b S d/\ak S a/\dm a/\a.length<=4097:=by
 unfold qw at h;rw[Az]at h;obtain⟨b,S,d,rfl,rfl,rfl,g⟩:=wT h.1;obtain⟨a,rfl,i,j,k⟩:=NQ (by have:=g.aO;omega) h.2;exact⟨b,S,d,a,rfl,rfl,rfl,rfl,g,i,j,k⟩
theorem Qe (c s a:Int) (b d:List Int):(bp c s a&&[(⟨U,0,0,b⟩:Sl),⟨U,0,0,d⟩].all λq=>jW s q.xs)=(qw c s a b&&qw c s a d):=by
 unfold qw;simp only[List.all_cons,List.all_nil];cases bp c s a<;>simp
theorem Ba (c s a:Int) (A B:xv Addr) (n g m i:Nat) (d f:List Int) (b:Nat) (w:wR) (j:Ar) (k:a<=9223372036854775807) (hb:b=w.heap.size)
 (hq:(⟨A,n,g,d⟩:Sl).cK w) (l:(⟨B,m,i,f⟩:Sl).cK w):
 wS w1 154 #[aU c s a,.slice (gk ⟨b,0,U⟩) 2 2] (w.alloc (.cells #[.slice A n g,.slice B m i] j)) (au (.bool (qw c s a d&&qw c s a f)) w):=
 (zv c s a (gk ⟨b,0,U⟩) 2 2 [⟨A,n,g,d⟩,⟨B,m,i,f⟩] _ rfl oO k (qZ.two (q:=⟨A,n,g,d⟩) (r:=⟨B,m,i,f⟩) j b hb hq l)).mono λe q ⟨o,p⟩=>⟨o.trans (bh (Qe c s a d f)),ae ((w3 _ _).alloc (w5 _) _) p⟩
theorem wF (c s a:Int) (w:wR) (b:a<=9223372036854775807):
 wS w1 154 #[aU c s a,.slice U 0 0] w (au (.bool (bp c s a)) w):=
 (zv c s a U 0 0 [] w rfl oO b (qZ.dw _ _)).mono λe g ⟨d,f⟩=>⟨d.trans (bh oS),f⟩
end
section
open Fl
section
variable {K : Type} [Fl K]
def cY (a:Nat->K):Nat->K:=λn=>a (n+1)
def conv:(Nat->K)->(Nat->K)->Nat->K
 |a,b,0=>a 0* b 0
 |a,b,n+1=>a 0* b (n+1)+conv (cY a) b n
theorem dY (a b:Nat->K):conv a b 0=a 0* b 0:=rfl
theorem cQ (a b:Nat->K) (n:Nat):conv a b (n+1)=a 0* b (n+1)+conv (cY a) b n:=rfl
theorem e8 {a a' b b':Nat->K} {n:Nat} (c:∀k,k<=n->a k=a' k) (hb:∀k,k<=n->b k=b' k):conv a b n=conv a' b' n:=by
 induction n generalizing a a' with
 |zero=>rw[dY,dY,c 0 (w5 _),hb 0 (w5 _)]
 |succ n d=>
  rw[cQ,cQ,c 0 oO,hb (n+1) oO,d (a:=cY a) (a':=cY a') (λk e=>c (k+1) oO) (λk e=>hb k oO)]
theorem ij {a b:Nat->K} {n:Nat} (c:∀k,a k=0):conv a b n=0:=by
 induction n generalizing a with
 |zero=>rw[dY,c,cG]
 |succ n d=>rw[cQ,c,cG,d (a:=cY a) (λk=>c (k+1)),cH]
theorem PN (a b:Nat->K) (n:Nat):conv a b (n+1)=conv a (cY b) n+a (n+1)* b 0:=by
 induction n generalizing a with
 |zero=>rfl
 |succ n c=>
  rw[cQ,c,cQ a (cY b)];show a 0* b (n+1+1)+(conv (cY a) (cY b) n+a (n+1+1)* b 0)=a 0* b (n+1+1)+conv (cY a) (cY b) n+a (n+1+1)* b 0
  rw[iu]
theorem jb (a b:Nat->K) (n:Nat):conv a b n=conv b a n:=by
 induction n generalizing a with
 |zero=>rw[dY,dY,cC]
 |succ n c=>rw[cQ,PN,c (cY a),gT,cC]
theorem jF (a b c:Nat->K) (n:Nat):conv (λk=>a k+b k) c n=conv a c n+conv b c n:=by
 induction n generalizing a b with
 |zero=>rw[dY,dY,dY,j5]
 |succ n d=>
  rw[cQ,cQ,cQ];rw[show conv (cY λk=>a k+b k) c n=conv (cY a) c n+conv (cY b) c n from d (cY a) (cY b),j5]
  ac_rfl
theorem sD (b:K) (a c:Nat->K) (n:Nat):conv (λk=>b* a k) c n=b* conv a c n:=by
 induction n generalizing a with
 |zero=>rw[dY,dY,cJ]
 |succ n d=>
  rw[cQ,cQ,show conv (cY λk=>b* a k) c n=b* conv (cY a) c n from d (cY a),jh,cJ]
theorem sC (a b c:Nat->K) (n:Nat):conv a (λk=>b k+c k) n=conv a b n+conv a c n:=by
 rw[jb,jF,jb b,jb c]
theorem CR (a c:Nat->K) (n:Nat):conv (λk=>-a k) c n=-conv a c n:=by
 apply gO (a:=conv a c n);rw[<-jF,fH];exact ij λk=>fH _
theorem CT (a b c:Nat->K) (n:Nat):conv (λk=>a k-b k) c n=conv a c n-conv b c n:=by
 rw[show conv (λk=>a k-b k) c n=conv (λk=>a k+-b k) c n from rfl,jF a (λk=>-b k),CR];rfl
theorem nD (a b c:Nat->K) (n:Nat):conv (conv a b) c n=conv a (conv b c) n:=by
 induction n generalizing a with
 |zero=>rw[dY,dY,dY,dY,cJ]
 |succ n d=>
  have e:conv (cY (conv a b)) c n=a 0* conv (cY b) c n+conv (cY a) (conv b c) n:=by
   rw[<-d,<-sD (a 0) (cY b),<-jF];exact e8 (λk _=>by show conv a b (k+1)=_;rw[cQ];rfl) (λ_ _=>rfl)
  rw[cQ,e,cQ a (conv b c),dY,cQ b c,jh,cJ,iu]
def ju (a:K):Nat->K:=λn=>if n=0 then a else 0
theorem oh (a:K) (b:Nat->K) (n:Nat):conv (ju a) b n=a* b n:=by
 cases n with
 |zero=>rfl
 |succ n=>
  rw[cQ,ij (a:=cY (ju a)) (λk=>rfl),bB];rfl
def dI (d:Nat) (a:Nat->K):Prop:=∀b,d<=b->a b=0
theorem dI.mono {d e:Nat} {a:Nat->K} (h:dI d a) (f:d<=e):dI e a:=λb c=>h b oO
theorem dI.tl {d:Nat} {a:Nat->K} (h:dI (d+1) a):dI d (cY a):=λb c=>h (b+1) oO
theorem dI.all {a:Nat->K} (h:dI 0 a) (k:Nat):a k=0:=h k (x1 _)
theorem dI.conv {a b:Nat->K} {d e:Nat} (c:dI d a) (hb:dI e b) (n:Nat) (hn:d+e<=n+1):conv a b n=0:=by
 induction n generalizing a d with
 |zero=>
  rw[dY];rcases HS d with h|h
  ·subst h;rw[c.all,cG]
  ·rw[hb 0 oO,bw]
 |succ n f=>
  rcases HS d with h|h
  ·subst h;exact ij c.all
  ·obtain⟨d,rfl⟩:∃k,d=k+1:=⟨d-1,by omega⟩;rw[cQ,hb (n+1) oO,bw,f c.tl oO,bB]
theorem Nx {a b:Nat->K} {d e:Nat} (c:dI (d+1) a) (hb:dI (e+1) b):conv a b (d+e)=a d* b e:=by
 induction d generalizing a with
 |zero=>
  rw[Nat.zero_add];cases e with
  |zero=>rfl
  |succ e=>rw[cQ,ij c.tl.all,bB]
 |succ d f=>
  rw[show d+1+e=(d+e)+1 from by omega,cQ,hb _ oO,bw,cH,f c.tl];rfl
def cE (x:K):(Nat->K)->Nat->K
 |_,0=>0
 |f,n+1=>f 0+x* cE x (cY f) n
theorem dG (x:K) (f:Nat->K) (n:Nat):cE x f (n+1)=f 0+x* cE x (cY f) n:=rfl
theorem iA {x:K} {f g:Nat->K} {n:Nat} (h:∀a,a<n->f a=g a):cE x f n=cE x g n:=by
 induction n generalizing f g with
 |zero=>rfl
 |succ n b=>rw[dG,dG,h 0 oO,b (f:=cY f) (g:=cY g) (λa c=>h (a+1) oO)]
theorem x8 {x:K} {f:Nat->K} (h:∀a,f a=0) (n:Nat):cE x f n=0:=by
 induction n generalizing f with
 |zero=>rfl
 |succ n b=>rw[dG,h,b (f:=cY f) (λa=>h (a+1)),bw,bB]
theorem ig {x:K} {f:Nat->K} {n m:Nat} (h:dI n f) (b:n<=m):cE x f m=cE x f n:=by
 induction n generalizing f m with
 |zero=>exact x8 h.all m
 |succ n a=>
  obtain⟨m,rfl⟩:∃k,m=k+1:=⟨m-1,by omega⟩;rw[dG,dG,a h.tl oO]
theorem qe (x:K) (f a:Nat->K) (n:Nat):cE x (λk=>f k+a k) n=cE x f n+cE x a n:=by
 induction n generalizing f a with
 |zero=>exact(cH _).symm
 |succ n b=>
  rw[dG,dG,dG,show cE x (cY λk=>f k+a k) n=cE x (cY f) n+cE x (cY a) n from b (cY f) (cY a),jh]
  ac_rfl
theorem tt (x a:K) (f:Nat->K) (n:Nat):cE x (λk=>a* f k) n=a* cE x f n:=by
 induction n generalizing f with
 |zero=>exact(bw _).symm
 |succ n b=>
  rw[dG,dG,show cE x (cY λk=>a* f k) n=a* cE x (cY f) n from b (cY f),jh]
  ac_rfl
theorem Ra (x:K) (f:Nat->K) (n:Nat):cE x (λk=>-f k) n=-cE x f n:=by
 apply gO (a:=cE x f n);rw[<-qe,fH];exact x8 (λk=>fH _) n
theorem AE (x:K) (f a:Nat->K) (n:Nat):cE x (λk=>f k-a k) n=cE x f n-cE x a n:=by
 rw[show cE x (λk=>f k-a k) n=cE x (λk=>f k+-a k) n from rfl,qe x f (λk=>-a k),Ra];rfl
theorem DG {x:K} {a b:Nat->K} {d e:Nat} (c:dI d a) (hb:dI e b):cE x (conv a b) (d+e)=cE x a d* cE x b e:=by
 induction d generalizing a with
 |zero=>rw[show cE x a 0=0 from rfl,cG];exact x8 (λg=>ij c.all) _
 |succ d f=>
  rw[show d+1+e=(d+e)+1 from by omega,dG,dG];have e1:cE x (cY (conv a b)) (d+e)=a 0* cE x (cY b) (d+e)+cE x (conv (cY a) b) (d+e):=by
   rw[<-tt,<-qe];rfl
  have e2:cE x b e=b 0+x* cE x (cY b) (d+e):=by
   rw[<-dG];exact(ig hb oO).symm
  rw[e1,f c.tl,dY,j5,jh,e2,jh];simp only[jh]
  ac_rfl
theorem PS (x:K) (f:Nat->K) (n:Nat):cE x f (n+1)=cE x f n+f n* x^n:=by
 induction n generalizing f with
 |zero=>rw[dG];show f 0+x* 0=0+f 0* x^0;rw[bw,ko,fT,gT]
 |succ n a=>
  rw[dG,a (cY f),dG x f n,jh,eW];show f 0+(x* cE x (cY f) n+x* (f (n+1)* x^n))=f 0+x* cE x (cY f) n+f (n+1)* (x^n* x)
  ac_rfl
theorem No (x:K) (f:Nat->K) (n:Nat):ev x ((y3 n).map f)=cE x f n:=by
 induction n generalizing f with
 |zero=>rfl
 |succ n a=>
  rw[List.range_succ_eq_map,List.map_cons,U3,dG,<-a (cY f)];rfl
theorem Km {a:Nat->K} {n:Nat} (h:dI n a) (k:∃b,a b≠0):∃d,d<n/\a d≠0/\dI (d+1) a:=by
 induction n with
 |zero=>obtain⟨b,c⟩:=k;exact absurd (h.all b) c
 |succ n g=>
  by_cases f:a n=0
  ·obtain⟨d,l,i,j⟩:=g (λb c=>by
    by_cases e:b=n
    ·rw[e];exact f
    ·exact h b oO)
   exact⟨d,by omega,i,j⟩
  ·exact⟨n,by omega,f,h⟩
theorem xu {f:Nat->K} {n:Nat} (c:dI n f) (a:List K) (hl:a.Nodup) (hn:n<=a.length) (e:∀x∈a,cE x f n=0) (b:Nat):f b=0:=by
 apply Classical.byContradiction;intro g;obtain⟨d,k,i,hs⟩:=Km c ⟨b,g⟩
 have:=Fu ((y3 (d+1)).map f) (f d) (by rw[List.range_succ];simp) i a hl (λx j=>by
  rw[No];have:=e x j;rw[ig hs oO]at this
  exact this)
 simp at this;omega
def jt (n:Nat) (a:K):K:=match n with
 |0=>0
 |n+1=>jt n a+a
theorem P7 (n:Nat) (a b:K):jt n (a+b)=jt n a+jt n b:=by
 induction n with
 |zero=>exact(cH _).symm
 |succ n c=>show jt n (a+b)+(a+b)=(jt n a+a)+(jt n b+b);rw[c];ac_rfl
theorem IS (n:Nat) (a b:K):jt n (a* b)=jt n a* b:=by
 induction n with
 |zero=>exact(cG _).symm
 |succ n c=>show jt n (a* b)+a* b=(jt n a+a)* b;rw[c,j5]
theorem yb (n:Nat):jt n (0:K)=0:=by
 induction n with
 |zero=>rfl
 |succ n a=>show jt n (0:K)+0=0;rw[a,bB]
def lJ (a:Nat->K):Nat->K:=λn=>jt (n+1) (a (n+1))
def sh (a:Nat->K):Nat->K
 |0=>0
 |n+1=>a n
theorem LW (a:Nat->K) (n:Nat):lJ a n=cY a n+sh (lJ (cY a)) n:=by
 cases n with
 |zero=>show jt 0 (a 1)+a 1=a 1+0;rw[show jt 0 (a 1)=0 from rfl,cH,bB]
 |succ n=>show jt (n+1) (a (n+1+1))+a (n+1+1)=a (n+1+1)+jt (n+1) (a (n+1+1));rw[gT]
theorem H7 (a b:Nat->K) (n:Nat):conv (sh a) b n=sh (conv a b) n:=by
 cases n with
 |zero=>exact cG _
 |succ n=>rw[cQ];show(0:K)* _+conv (cY (sh a)) b n=conv a b n;rw[cG,cH];rfl
theorem M1 (a b:Nat->K) (n:Nat):lJ (conv a b) n=conv (lJ a) b n+conv a (lJ b) n:=by
 induction n generalizing a with
 |zero=>
  show jt 0 (conv a b 1)+conv a b 1=(jt 0 (a 1)+a 1)* b 0+a 0* (jt 0 (b 1)+b 1)
  have z:∀u:K,jt 0 u+u=u:=λu=>cH u;rw[z,z,z];show a 0* b 1+a 1* b 0=_;rw[gT]
 |succ n c=>
  have e1:lJ (conv a b) (n+1)=a 0* lJ b (n+1)+(conv (cY a) b (n+1)+lJ (conv (cY a) b) n):=by
   show jt (n+1+1) (conv a b (n+1+1))=_;rw[cQ,P7];congr 1
   ·rw[cC,IS,cC];rfl
   ·show jt (n+1) (conv (cY a) b (n+1))+conv (cY a) b (n+1)=_
    rw[gT];rfl
  have e2:conv (lJ a) b (n+1)=conv (cY a) b (n+1)+conv (lJ (cY a)) b n:=by
   rw[e8 (a:=lJ a) (a':=λk=>cY a k+sh (lJ (cY a)) k) (b:=b) (b':=b) (λk _=>LW a k) (λ_ _=>rfl),jF,H7];rfl
  rw[e1,e2,c,cQ a (lJ b)]
  ac_rfl
def dX (f:Nat->K):Nat->K
 |0=>0
 |n+1=>dX f n+f n
theorem Ah (f:Nat->K) (n:Nat):dX f (n+1)=f 0+dX (cY f) n:=by
 induction n with
 |zero=>show(0:K)+f 0=f 0+0;rw[gT]
 |succ n a=>show dX f (n+1)+f (n+1)=f 0+(dX (cY f) n+cY f n);rw[a,iu];rfl
theorem jI {f a:Nat->K} {n:Nat} (h:∀k,k<n->f k=a k):dX f n=dX a n:=by
 induction n with
 |zero=>rfl
 |succ n b=>show dX f n+f n=dX a n+a n;rw[b λk c=>h k oO,h n oO]
theorem tc {f:Nat->K} {n m:Nat} (h:∀k,n<=k->k<m->f k=0) (c:n<=m):dX f m=dX f n:=by
 induction m with
 |zero=>rw[show n=0 from by omega]
 |succ m a=>
  by_cases e:n=m+1
  ·rw[e]
  ·show dX f m+f m=_;rw[h m oO oO,bB,a (λk b d=>h k b oO) oO]
theorem qv (a b:Nat->K) (n:Nat):conv a b n=dX (λk=>a k* b (n-k)) (n+1):=by
 induction n generalizing a with
 |zero=>exact(cH _).symm
 |succ n c=>
  rw[Ah,cQ,c];congr 1;apply jI;intro k d;show a (k+1)* b (n-k)=a (k+1)* b (n+1-(k+1));rw[show n+1-(k+1)=n-k from by omega]
end
def KF {c s p:Nat} (h:VF c s p):Type:=El s
instance{c s p:Nat} (h:VF c s p):Fl (KF h):=fA h
theorem kP {l:List Nat} {a:Nat} (b:l.length<=a):l.getD a 0=0:=by
 rw[x4,List.getElem?_eq_none b];rfl
theorem ky {s:Nat} {a:List Nat} (hl:ak s a):ak s (eK a):=λb=>by rw[s8];exact hl b
theorem Q0 {s p:Nat} (a b:List Nat) (M e k:Nat) (d:Nat) (i:d<M-k):(qL s p a b M e k).getD d 0=0:=by
 induction k with
 |zero=>
  by_cases f:d<e
  ·simp[qL,x4,f]
  ·simp[qL,x4,f]
 |succ k g=>
  show((qL s p a b M e k).set (M-1-k) _).getD d 0=0;have:=g oO;rw[x4,Ui oO];exact this
section
variable {c s p : Nat} (h : VF c s p)
def aR (n:Nat):KF h:=(⟨n%s,Nat.mod_lt _ (by have:=h.aO;omega)⟩:El s)
def mono (a:Nat) (u:KF h):Nat->KF h:=λk=>if k=a then u else 0
def qR (a:Nat) (f:Nat->KF h):Nat->KF h:=λn=>if a<=n then f (n-a)else 0
def co (a:List Nat):Nat->KF h:=λb=>aR h (a.getD b 0)
include h
theorem jQ {n:Nat} (hn:n<s):aR h n=(⟨n,hn⟩:El s):=El.ext (Nat.mod_eq_of_lt hn)
theorem ik {a b:Nat} (d:a<s) (hb:b<s) (e:aR h a=aR h b):a=b:=by
 rw[jQ h d,jQ h hb]at e;exact z7 El.val e
theorem bS:aR h 0=0:=jQ h (by have:=h.aO;omega)
theorem lf:aR h 1=1:=jQ h (by have:=h.aO;omega)
theorem qd {a b:Nat} (d:a<s) (hb:b<s):aR h (bU s p a b)=aR h a+aR h b:=by
 rw[jQ h (lR h _ _ d hb),jQ h d,jQ h hb];rfl
theorem gd {a b:Nat} (d:a<s) (hb:b<s):aR h (aA s p a b)=aR h a* aR h b:=by
 rw[jQ h (bk h _ _),jQ h d,jQ h hb];rfl
theorem kQ {a b:Nat} (d:a<s) (hb:b<s):aR h (bD s p a b)=aR h a-aR h b:=by
 rw[jQ h (jd h d hb),jQ h d,jQ h hb];exact El.ext (BJ h ⟨a,d⟩ ⟨b,hb⟩)
theorem K6 {a:Nat} (b:a<s) (d:a≠0):aR h a≠0:=by
 intro e;rw[<-bS h]at e;exact d (ik h b (by have:=h.aO;omega) e)
theorem wJ {a:Nat} (b:a<s) (d:a≠0):aR h a* aR h (bW s p a)=1:=by
 rw[<-gd h b (gM h),DD h b d,lf]
theorem fO (a:List Nat):dI a.length (co h a):=λd b=>by
 unfold co;rw[kP b,bS]
theorem si (a:List Nat) (b:Nat):co h (eK a) b=co h a b:=by unfold co;rw[s8]
theorem yN (n:Nat) (f:Nat->Nat) (a:Nat):co h ((y3 n).map f) a=if a<n then aR h (f a)else 0:=by
 unfold co;split
 ·rename_i b;rw[bC _ _ _ b]
 ·rename_i b;rw[kP oT,bS]
theorem iY {n:Nat} {f:Nat->Nat} (d:∀a,a<n->f a<s):ak s ((y3 n).map f):=λa=>by
 by_cases b:a<n
 ·rw[bC _ _ _ b];exact d a b
 ·rw[kP oT];have:=h.aO;show 0<s;omega
theorem MK (d:List Nat) (a v b:Nat) (f:a<d.length):co h (d.set a v) b=if b=a then aR h v else co h d b:=by
 unfold co;by_cases e:b=a
 ·subst e;rw[xl rfl];congr 1;simp[x4,f]
 ·rw[w6 e];congr 1;simp[x4,Ui (Ne.symm e)]
theorem Hc {a:List Nat} (hl:ak s a) (b:dm a) (hn:1<=a.length):co h a (a.length-1)≠0:=by
 rcases b with rfl|b
 ·simp at hn
 ·exact K6 h (hl _) b
theorem qG {a:List Nat} (hl:ak s a) (e:dm a) {d:Nat} (f:dI d (co h a)):a.length<=d:=by
 rcases z6 d a.length with b|b
 ·exact absurd (f (a.length-1) oO) (Hc h hl e oO)
 ·exact b
theorem ux {a:List Nat} (hl:ak s a) (e:dm a) {d:Nat} (f:dI (d+1) (co h a)) (g:co h a d≠0):a.length=d+1:=by
 have i:=qG h hl e f;rcases z6 d a.length with b|b
 ·omega
 ·exact absurd (fO h a d b) g
theorem IY (f:Nat->Nat) (a:∀k,f k<s) (n:Nat):aR h (lK s p f n)=dX (λk=>aR h (f k)) n:=by
 induction n with
 |zero=>exact bS h
 |succ n b=>
  show aR h (bU s p (lK s p f n) (f n))=dX _ n+aR h (f n);rw[qd h (sk h f a n) (a n),b]
theorem Dp {a b:List Nat} (d:ak s a) (hb:ak s b) (n k:Nat):aR h (fQ s p a b n k)=if k<=n then co h a k* co h b (n-k)else 0:=by
 unfold fQ;split
 ·exact gd h (d _) (hb _)
 ·exact bS h
theorem sR {x:Nat} (f:x<s) (b:List Nat) (hl:∀y∈b,y<s):aR h (cP s p x b)=cE (aR h x) (co h b) b.length:=by
 induction b with
 |nil=>exact bS h
 |cons a d g=>
  show aR h (bU s p (aA s p (cP s p x d) x) a)=_;rw[qd h (bk h _ _) (hl a oS),gd h (jl h x d λy e=>hl y (by simp[e])) f,g λy e=>hl y (by simp[e])];rw[List.length_cons,dG];show _=aR h a+aR h x* cE (aR h x) (co h d) d.length;rw[gT,cC]
theorem LP (a:Nat) (u:KF h) (b:Nat->KF h) (n:Nat):conv (mono h a u) b n=u* qR h a b n:=by
 induction a generalizing n with
 |zero=>
  rw[show mono h 0 u=ju u from rfl,oh];unfold qR;rw[xl (x1 _)];rfl
 |succ a d=>
  cases n with
  |zero=>
   rw[dY];unfold mono qR;rw[w6 oO,w6 oO,cG,bw]
  |succ n=>
   rw[cQ];have e1:mono h (a+1) u 0=0:=by unfold mono;rw[w6 oO]
   have e2:cY (mono h (a+1) u)=mono h a u:=by
    funext k;unfold cY mono;by_cases e:k=a
    ·rw[xl e,xl oO]
    ·rw[w6 e,w6 oO]
   rw[e1,e2,cG,cH,d];unfold qR;by_cases e:a<=n
   ·rw[xl e,xl oO,show n+1-(a+1)=n-a from by omega]
   ·rw[w6 e,w6 oO]
theorem MB {d:Nat} (j:d<s) {b g:List Nat} (hb:ak s b) (k:ak s g) (a f:Nat) (l:a+f<=g.length) (n:Nat):
 co h (fW s p d b g a f) n=co h g n-(if a<=n/\n<a+f then aR h d* co h b (n-a)else 0):=by
 induction f with
 |zero=>rw[w6 oO,fX];rfl
 |succ f i=>
  have i:=i oO;show co h ((fW s p d b g a f).set (a+f) _) n=_;rw[MK h _ _ _ _ (by rw[pJ];omega)];by_cases e:n=a+f
  ·subst e;rw[xl rfl,xl oO,kQ h (vR h k a f _) (bk h _ _),gd h j (hb _)];rw[w6 oO,fX]at i;rw[show aR h ((fW s p d b g a f).getD (a+f) 0)=co h (fW s p d b g a f) (a+f)from rfl,i,show a+f-a=f from by omega];rfl
  ·rw[w6 e,i];by_cases e2:a<=n/\n<a+f
   ·rw[xl e2,xl oO]
   ·rw[w6 e2,w6 oO]
theorem zH {d:Nat} (g:d<s) {b e:List Nat} (hb:ak s b) (i:ak s e) (a:Nat) (k:a+b.length<=e.length) (n:Nat):
 co h (fW s p d b e a b.length) n=co h e n-aR h d* qR h a (co h b) n:=by
 rw[MB h g hb i a _ k];congr 1;unfold qR;by_cases f:a<=n
 ·by_cases j:n<a+b.length
  ·rw[xl ⟨f,j⟩,xl f]
  ·rw[w6 oO,xl f,fO h b (n-a) oO,bw]
 ·rw[w6 oO,w6 f,bw]
theorem PO {a b:List Nat} (j:ak s a) (hb:ak s b) (q:1<=b.length) (f:Nat) (r:dr a b<=f) (k:Nat) (m:k<=dr a b) (n:Nat):
 co h a n=conv (co h (qL s p a b (dr a b) f k)) (co h b) n+co h (rL s p a b (dr a b) k) n:=by
 induction k with
 |zero=>
  show _=conv (co h (y0 f 0)) _ n+co h a n
  rw[ij,cH];intro d;unfold co;by_cases i:d<f
  ·rw[show(y0 f 0).getD d 0=0 from by simp[x4,i],bS]
  ·rw[show(y0 f 0).getD d 0=0 from by simp[x4,i],bS]
 |succ k g=>
  have g:=g oO;have o:dr a b=a.length-(b.length-1):=rfl;have hc:cL s p a b (dr a b) k<s:=bk h _ _;have hq:∀d,co h (qL s p a b (dr a b) f (k+1)) d=co h (qL s p a b (dr a b) f k) d+mono h (dr a b-1-k) (aR h (cL s p a b (dr a b) k)) d:=by
   intro d;show co h ((qL s p a b (dr a b) f k).set (dr a b-1-k) (cL s p a b (dr a b) k)) d=_;rw[MK h _ _ _ _ (by rw[BR];omega)];unfold mono;by_cases e:d=dr a b-1-k
   ·rw[xl e,xl e];have:co h (qL s p a b (dr a b) f k) d=0:=by
     unfold co;rw[Q0 a b _ _ _ _ oO,bS]
    rw[this,cH]
   ·rw[w6 e,w6 e,bB]
  have l:co h (rL s p a b (dr a b) (k+1)) n=co h (rL s p a b (dr a b) k) n-aR h (cL s p a b (dr a b) k)* qR h (dr a b-1-k) (co h b) n:=
   zH h hc hb (zc h j _ _) _ (by rw[vi];omega) n
  rw[e8 (a:=co h (qL s p a b (dr a b) f (k+1))) (b:=co h b) (b':=co h b) (λd _=>hq d) (λ_ _=>rfl),jF,LP,l,g];generalize aR h (cL s p a b (dr a b) k)* qR h (dr a b-1-k) (co h b) n=u;generalize co h (rL s p a b (dr a b) k) n=v;generalize conv (co h (qL s p a b (dr a b) f k)) (co h b) n=x
  rw[gJ,show x+u+(v+-u)=(x+v)+(u+-u)from by ac_rfl,oz,bB]
theorem Rr {a b:List Nat} (f:ak s a) (hb:ak s b) (l:1<=b.length) (i:b.getD (b.length-1) 0≠0) (k:Nat) (j:k<=dr a b):
 dI (b.length-1+dr a b-k) (co h (rL s p a b (dr a b) k)):=by
 induction k with
 |zero=>
  have g:dr a b=a.length-(b.length-1):=rfl;exact(fO h a).mono oO
 |succ k d=>
  have d:=d oO;intro n hn;have hc:cL s p a b (dr a b) k<s:=bk h _ _;have g:dr a b=a.length-(b.length-1):=rfl
  rw[show co h (rL s p a b (dr a b) (k+1)) n=co h (rL s p a b (dr a b) k) n-aR h (cL s p a b (dr a b) k)* qR h (dr a b-1-k) (co h b) n from
   zH h hc hb (zc h f _ _) _ (by rw[vi];omega) n]
  by_cases e:n=dr a b-1-k+(b.length-1)
  ·unfold qR;rw[xl oO,show n-(dr a b-1-k)=b.length-1 from by omega];have e2:aR h (cL s p a b (dr a b) k)=co h (rL s p a b (dr a b) k) n* aR h (bW s p (b.getD (b.length-1) 0)):=by
    show aR h (aA s p _ _)=_;rw[gd h (zc h f _ _ _) (gM h),e];rfl
   rw[e2,cJ,cC (aR h (bW s p _)),show co h b (b.length-1)=aR h (b.getD (b.length-1) 0)from rfl,wJ h (hb _) i,fT,du]
  ·rw[d n oO];unfold qR;rw[xl oO,fO h b (n-(dr a b-1-k)) oO,bw,fX]
theorem zG {a b:List Nat} (d:ak s a):ak s (fK s p a b):=ky (zc h d _ _)
theorem Aj (a b:List Nat):dm (fK s p a b):=my _
theorem GM {a b:List Nat} (e:ak s a) (hb:ak s b) (f:1<=b.length) (g:b.getD (b.length-1) 0≠0):dI (b.length-1) (co h (fK s p a b)):=by
 intro d i;unfold fK;rw[si];exact Rr h e hb f g _ (w5 _) d oO
theorem Bl {a b:List Nat} (d:ak s a) (hb:ak s b) (e:1<=b.length) (f:b.getD (b.length-1) 0≠0):(fK s p a b).length<b.length:=by
 have:=qG h (zG h d) (Aj h a b) (GM h d hb e f);omega
theorem div_eq {a b:List Nat} (d:ak s a) (hb:ak s b) (e:1<=b.length) (n:Nat):co h a n=conv (co h (nu s p a b)) (co h b) n+co h (fK s p a b) n:=by
 have:=PO h d hb e (dr a b) (w5 _) (dr a b) (w5 _) n;rw[this];unfold nu fK;rw[si]
end
end
section
open Go.RowKit
theorem FI {b:List Nat} (a:dm b) (h:b≠[]):b.getD (b.length-1) 0≠0:=by
 rcases a with e|e
 ·exact absurd e h
 ·exact e
theorem Lt (d S c f bl:Nat) (a b:List Nat) (n m:Nat) (hn:n=a.length) (u:m=b.length) (A B:xv Addr) (g i:Nat) (w:wR) (k:VF d S c) (y:ak S a) (z:ak S b) (r:a.length<=8193) (s:b.length<=4097) (v:dm b) (t:b≠[])
 (x:dH w S c f bl) (l:RD w A (zl a)) (hb:RD w B (zl b)):
 wS w1 156 #[gG d S f bl,.slice A n g,.slice B m i] w λe j=>∃o p,e= .returned (.tuple #[o,p])/\az j o (zl (nu S c a b))/\az j p (zl (fK S c a b))/\af w j:=by
 subst hn u;have hl:1<=b.length:=List.length_pos_iff.2 t;rcases z6 a.length b.length with q|q
 ·exact Ft d S c f bl a b A B g i w k r s hl oO l
 ·exact Ed d S c f bl a b A B g i w k y z r s hl q (FI v t) x l hb
theorem az.n {w:wR} {v:Value} {a:List Nat} (h:az w v (zl a)):∃A n c,v= .slice A n c/\n=a.length/\n<=c/\c<=maxLen/\RD w A (zl a):=by
 obtain⟨A,c,rfl,b,d,e⟩:=h;exact⟨A,_,c,rfl,ao a,b,d,e⟩
theorem RD.one (W:wR) (x:Int) (a:Ar) (b:Nat) (hb:b=W.heap.size):RD (W.alloc (.cells #[I J x] a)) (gk ⟨b,0,U⟩) [x]:=λ_=>by
 refine⟨_,rfl,by simp;omega,λc d=>?_⟩;obtain rfl:c=0:=by simp at d;omega
 have:=(an.new W #[I J x] a b hb).2 0 oS;rw[add_plain];exact this
theorem MV (f S b g bl d c:Nat) (a:List Nat) (n:Nat) (p:n=a.length) (A:xv Addr) (i:Nat) (w:wR) (k:VF f S b) (hl:ak S a) (l:d<S) (hc:c<S) (hn:a.length<=8193)
 (m:dH w S b g bl) (o:RD w A (zl a)):
 wS w1 191 #[gG f S g bl,.slice A n i,I J d,I J c] w λe j=>∃v,e= .returned v/\az j v (zl (oA S b a d c))/\af w j:=by
 subst p;exact G7 f S b g bl d c a A i w k hl l hc hn m o
theorem RD.lit (W:wR) (a:List Int) (c:Ar) (b:Nat) (hb:b=W.heap.size):RD (W.alloc (.cells (a.map (zz .i64)).toArray c)) (gk ⟨b,0,U⟩) a:=λ_=>by
 refine⟨_,rfl,by simp;omega,λg e=>?_⟩;have:=(an.new W (a.map (zz .i64)).toArray c b hb).2 g (by simpa using e);rw[add_plain,Nat.zero_add,this];simp[x4,e]
theorem Sl.lit (W:wR) (a:List Int) (c:Ar) (b n:Nat) (hb:b=W.heap.size) (hn:n=a.length) (h:n<=1000):(⟨gk ⟨b,0,U⟩,n,n,a⟩:Sl).cK (W.alloc (.cells (a.map (zz .i64)).toArray c)):=
 ⟨hn,by simp only;omega,RD.lit W a c b hb,w5 _,by simp only[maxLen];omega⟩
theorem az.lit (W:wR) (a:List Int) (c:Ar) (b n:Nat) (hb:b=W.heap.size) (hn:n=a.length) (h:n<=1000):az (W.alloc (.cells (a.map (zz .i64)).toArray c)) (.slice (gk ⟨b,0,U⟩) n n) a:=
 (Sl.lit W a c b n hb hn h).ints
def yE (w:wR) (L:List Int×List Int×Int) (e:Ending) (a:wR):Prop:=∃v u,e= .returned (.tuple #[v,u,I J L.2.2])/\az a v L.1/\az a u L.2.1/\af w a
theorem yE.mk {w a:wR} {cK:List Int×List Int×Int} {v u:Value} {L M:List Int} {err:Int} (h:cK=(L,M,err)) (b:az a v L) (c:az a u M) (hb:af w a):yE w cK (.returned (.tuple #[v,u,I J err])) a:=by
 subst h;exact⟨v,u,rfl,b,c,hb⟩
def mh (c s a:Int) (d b:List Int):List Int×List Int×Int:=
 if(qw c s a d&&qw c s a b)=wP then(if b=[]then([],[],12)else(zl (nu s.toNat a.toNat (nl d) (nl b)),zl (fK s.toNat a.toNat (nl d) (nl b)),0))else([],[],1)
theorem L9 {a:List Nat} (h:zl a=[]):a=[]:=by have:=z7 nl h;rw[tG]at this;exact this
theorem Hh (c s d:Int) (q y:Sl) (w:wR) (G:d<=9223372036854775807) (hq:q.cK w) (o:y.cK w):
 wS w1 115 #[aU c s d,q.v,y.v] w (yE w (mh c s d q.xs y.xs)):=by
 obtain⟨A,n,p,z⟩:=q;obtain⟨B,m,r,C⟩:=y;have u:af w (w.alloc (eX c s d)):=(w3 _ _).alloc (w5 _) _;have D:=aa (hq.below u);have E:=aa (o.below u);show wS w1 115 #[aU c s d,.slice A n p,.slice B m r] w (yE w (mh c s d z C));have ad:w2 (an (w.alloc (eX c s d)) w.heap.size (lO c s d)):=an.new _ _ _ _ rfl;cases f:(qw c s d z&&qw c s d C)with
 |false=>
  have F:=aa f;have t:w2 (mh c s d z C=([],[],1)):=by show _=_;unfold mh;rw[f];rfl
  clear f hq o u;go_enter func115,ntmps115;go_wp2_with(go_at_call 154;refine(Ba c s d A B n p m r z C _ _ 64 G oS D.out E.out).mono ?_;rintro e T ⟨rfl,i⟩;rw[F.out];have j:=aa i;clear i)
  go_ret3
  exact yE.mk t.out (az.dw _) (az.dw _) (dT j.out)
 |true=>
  have v:=f;rw[Az]at v;obtain⟨l,S,g,a,rfl,rfl,rfl,rfl,H,K,Y,L⟩:=Ht v.1;obtain⟨bd,al,be,b,e1,e2,e3,rfl,-,M,N,O⟩:=Ht v.2;obtain rfl:S=al:=oO;have P:n=a.length:=hq.hn.trans (ao a);have x:m=b.length:=o.hn.trans (ao b);have F:=aa f;have Z:=aa H;have a1:=aa K;have a2:=aa M;have a3:=aa N;have a4:=aa P;have a5:=aa x;have a6:=aa L;have a7:=aa O;by_cases k:b=[]
  ·have t:w2 (mh l S g (zl a) (zl b)=([],[],12)):=by show _=_;unfold mh;rw[xl f,k];rfl
   have a8:m=0:=by rw[x,k];rfl
   subst a8;clear f v e1 e2 e3 H K M Y N L O P x k hq o u;go_enter func115,ntmps115;go_wp2_with(go_at_call 154;refine(Ba l S g A B n p 0 r _ _ _ _ 64 G oS D.out E.out).mono ?_;rintro e T ⟨rfl,i⟩;rw[F.out];have j:=aa i;clear i)
   go_ret3
   exact yE.mk t.out (az.dw _) (az.dw _) (dT j.out)
  ·have t:w2 (mh l S g (zl a) (zl b)=(zl (nu S g a b),zl (fK S g a b),0)):=by
    show _=_;unfold mh;rw[xl f,w6 (λe=>k (L9 e)),tG,tG];rfl
   have bz:0<m:=by rw[x];exact List.length_pos_iff.2 k
   have bf:((m:Int)==0)=R:=by rw[beq_eq_false_iff_ne];omega
   have a9:=aa k;clear f v e1 e2 e3 H K M Y N L O P x k hq o u;go_enter func115,ntmps115
   go_wp2_with(first
    |(go_at_call 154;refine(Ba l S g A B n p m r _ _ _ _ 64 G oS D.out E.out).mono ?_;rintro e T ⟨rfl,i⟩;rw[F.out];have j:=aa i;clear i;obtain⟨bi,bo,bq⟩:=fs (ad.out.below j.out))
    |(go_at_call 155;refine(Fo l S g _ Z.out).mono ?_;rintro e bs ⟨am,bl,rfl,V,ab⟩;have ap:=aa V;have Q:=aa ab;clear V ab)
    |(go_at_call 156;refine(Lt l S g am bl a b n m a4.out a5.out A B p r _ Z.out a1.out a2.out (by have:=a6.out;omega) a7.out a3.out a9.out ap.out ((D.out.below j.out).below Q.out).rd ((E.out.below j.out).below Q.out).rd).mono ?_;rintro e bt ⟨bv,bx,rfl,W,X,ac⟩;have av:=aa W;have a0:=aa X;have bb:=aa ac;clear W X ac))
   go_ret3
   exact yE.mk t.out av.out a0.out (dT (ae (ae j.out Q.out) bb.out))
def gH (s a:Nat) (b:List Nat):Nat->List Nat
 |0=>[1]
 |k+1=>oA s a (gH s a b k) (b.getD k 0) 0
theorem qp (s a:Nat) (c:List Nat) (k:Nat):(gH s a c k).length=k+1:=by
 induction k with
 |zero=>rfl
 |succ k b=>unfold gH oA;rw[ru,b]
theorem ql {c s b:Nat} (h:VF c s b) {d:List Nat} (e:ak s d) (k:Nat):ak s (gH s b d k):=by
 have g:=h.aO
 induction k with
 |zero=>
  intro a
  match a with
  |0=>show 1<s;omega
  |a+1=>show([1]:List Nat).getD (a+1) 0<s;simp[x4];omega
 |succ k f=>exact Ps h f (e _) oO _
def jC (c s b:Int) (a:List Int):List Int×Int:=
 if(bp c s b&&iQ s a)=wP then(if 4096<a.length then([],4)else(zl (gH s.toNat b.toNat (nl a) a.length),0))else([],1)
theorem AB (c s b:Int) (q:Sl) (w:wR) (D:b<=9223372036854775807) (hq:q.cK w):
 wS w1 153 #[aU c s b,q.v] w (mB w (jC c s b q.xs)):=by
 obtain⟨A,n,L,r⟩:=q;have B:af w (w.alloc (eX c s b)):=(w3 _ _).alloc (w5 _) _;have M:=aa (hq.below B);have T:w2 (an (w.alloc (eX c s b)) w.heap.size (lO c s b)):=an.new _ _ _ _ rfl;have HC:w2 (∀d,Below (w.alloc (eX c s b)).heap.size (w.alloc (eX c s b)) d->d.cell? ⟨w.heap.size,0,U⟩=gk (I J c)/\d.cell? ⟨w.heap.size,1,U⟩=gk (I J s)/\d.cell? ⟨w.heap.size,2,U⟩=gk (I J b)):=λd hb=>fs (T.out.below hb);have E:w2 (∀d,af (w.alloc (eX c s b)) d->wS w1 190 #[aU c s b,.slice A n L] d (au (.bool (iQ s r)) d)):=λd hb=>pX c s b r n hq.hn A L d hq.hm (M.out.below hb).rd;show wS w1 153 #[aU c s b,.slice A n L] w (mB w (jC c s b r));cases j:bp c s b with
 |false=>
  have x:=aa j;have v:w2 (jC c s b r=([],1)):=by show _=_;unfold jC;rw[j];rfl
  clear j hq B;go_enter Xe,WX;go_wp2_with(go_at_call 154;refine(wF c s b _ D).mono ?_;rintro e d ⟨rfl,l⟩;rw[x.out];have g:=aa l;clear l)
  go_ret2
  exact mB.mk v.out (az.dw _) (dT g.out)
 |true=>
  have x:=aa j;cases m:iQ s r with
  |false=>
   have y:=aa m;have v:w2 (jC c s b r=([],1)):=by show _=_;unfold jC;rw[j,m];rfl
   clear m j hq B;go_enter Xe,WX
   go_wp2_with(first
    |(go_at_call 154;refine(wF c s b _ D).mono ?_;rintro e d ⟨rfl,l⟩;rw[x.out];have g:=aa l;clear l;obtain⟨F,G,H⟩:=HC.out _ g.out)
    |(go_at_call 190;refine(E.out _ g.out).mono ?_;rintro e V ⟨rfl,t⟩;rw[y.out];have u:=aa t;clear t))
   go_ret2
   exact mB.mk v.out (az.dw _) (dT (ae g.out u.out))
  |true=>
   have y:=aa m;have C:n=r.length:=hq.hn;by_cases Q:4096<n
   ·have v:w2 (jC c s b r=([],4)):=by show _=_;unfold jC;rw[j,m,<-C];rw[xl Q];rfl
    have cp:n<=9223372036854775807:=hq.hm;clear m j hq B C;go_enter Xe,WX
    go_wp2_with(first
     |(go_at_call 154;refine(wF c s b _ D).mono ?_;rintro e d ⟨rfl,l⟩;rw[x.out];have g:=aa l;clear l;obtain⟨F,G,H⟩:=HC.out _ g.out)
     |(go_at_call 190;refine(E.out _ g.out).mono ?_;rintro e V ⟨rfl,t⟩;rw[y.out];have u:=aa t;clear t F G H))
    go_ret2
    exact mB.mk v.out (az.dw _) (dT (ae g.out u.out))
   ·obtain⟨i,S,f,rfl,rfl,rfl,O⟩:=wT j;obtain⟨a,rfl,Z⟩:=IP (by have:=O.aO;omega) m;have ab:n=a.length:=C.trans (ao a);have v:w2 (jC i S f (zl a)=(zl (gH S f a n),0)):=by show _=_;unfold jC;rw[j,m,<-C];rw[w6 Q,tG];rfl
    have co:n<=4096:=oO;have a2:decide ((4096:Int)<(n:Int))=R:=by simp;omega
    have K:=aa O;have ac:=aa Z;have ad:=aa ab;clear m j hq B C O Z ab Q;go_enter Xe,WX
    go_wp2_with(first
     |(go_at_call 154;refine(wF i S f _ D).mono ?_;rintro e d ⟨rfl,l⟩;rw[x.out];have g:=aa l;clear l;obtain⟨F,G,H⟩:=HC.out _ g.out)
     |(go_at_call 190;refine(E.out _ g.out).mono ?_;rintro e V ⟨rfl,t⟩;rw[y.out];have u:=aa (ae g.out t);clear t F G H;obtain⟨a3,a4,a5⟩:=HC.out _ u.out)
     |(go_at_call 155;refine(Fo i S f _ K.out).mono ?_;rintro e o ⟨p,bl,rfl,W,al⟩;have X:=aa W;have P:=aa al;clear W al a3 a4 a5))
    clear a2;have be:w2 (an ((o.alloc (mU i S p bl)).alloc (.cells #[I J 1] 3)) o.heap.size (ji i S p bl)):=(an.new _ _ _ _ rfl).alloc _;have bf:w2 (dH ((o.alloc (mU i S p bl)).alloc (.cells #[I J 1] 3)) S f p bl):=(X.out.alloc _).alloc _;have bi:w2 (RD ((o.alloc (mU i S p bl)).alloc (.cells #[I J 1] 3)) A (zl a)):=(((M.out.below u.out).below P.out).rd.alloc _).alloc _;have bo:w2 (az ((o.alloc (mU i S p bl)).alloc (.cells #[I J 1] 3)) (.slice (gk ⟨o.heap.size+1,0,U⟩) 1 1) (zl (gH S f a 0))):=az.lit _ [1] 3 _ 1 oS rfl oO;have bq:w2 (af w ((o.alloc (mU i S p bl)).alloc (.cells #[I J 1] 3))):=ah (ah (dT (ae u.out P.out)) _) _;clear g u P X M T HC E x y;generalize(o.alloc (mU i S p bl)).alloc (.cells #[I J 1] 3)=a6 at*;generalize o.heap.size=b7 at*;go_loopw [7,27] (λa7 N wr=>∃k:Nat,k<=n/\N=I J k/\w2 (af a6 wr)/\w2 (az wr a7 (zl (gH S f a k)))) (λ_ N _=>n-(intOf N).toNat)
    case atStart=>exact⟨0,x1 _,rfl,w3 _ _,bo⟩
    case round=>
     obtain⟨k,b9,rfl,z,Y⟩:=hrel;by_cases bs:k<n
     ·obtain⟨a8,n2,a9,rfl,am,-,-,a1⟩:=Y.out.n;obtain⟨bb,rfl,b5,ap⟩:=bi.out (by rw[ao,<-ad.out];omega);have m:wr.cell? (bb.add k)=gk (I J ((a.getD k 0:Nat):Int)):=by
       rw[z.out.cell (by rw[aD];exact b5),ap k (by rw[ao,<-ad.out];exact bs),bT]
      have bt:w2 (a.getD k 0<S):=ac.out k;have bv:w2 (gH S f a (k+1)=oA S f (gH S f a k) (a.getD k 0) 0):=rfl;generalize a.getD k 0=bd at*;obtain⟨ca,cb,ce,ch⟩:=ft (be.out.below z.out);have bx:=aa am;have b6:=aa a1;have bz:w2 ((gH S f a k).length<=8193):=by show _<=_;rw[qp];omega
      have b1:w2 (ak S (gH S f a k)):=ql K.out ac.out k;have b2:w2 (0<S):=by have:=K.out.aO;show _<_;omega
      clear am a1 ap;go_wp2_with(go_at_call 191;refine(MV i S f p bl bd 0 (gH S f a k) n2 bx.out a8 a9 _ K.out b1.out bt.out b2.out bz.out (bf.out.below z.out) b6.out).mono ?_;rintro e ci ⟨ck,rfl,av,a0⟩;have b3:=aa av;have b4:=aa a0;clear av a0)
      exact⟨⟨k+1,by omega,by go_num,ae z.out b4.out,by rw[bv.out];exact b3.out⟩,by simp[intOf];omega⟩
     ·obtain rfl:k=n:=oO;go_wp2;go_ret2
      exact mB.mk v.out Y.out (ae bq.out z.out)
end
end Go.Proofs.YtmnlkganmgcpbaaGreatDoor
