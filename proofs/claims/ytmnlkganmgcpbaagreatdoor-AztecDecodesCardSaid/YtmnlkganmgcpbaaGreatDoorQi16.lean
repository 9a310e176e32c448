import Derived.Test.YtmnlkganmgcpbaaGreatDoorQi15
set_option maxRecDepth 100000
set_option maxHeartbeats 4000000
set_option linter.unusedVariables false
set_option linter.unusedSectionVars false
set_option linter.unusedSimpArgs false
set_option linter.defProp false
open Go.Value renaming int->I
open Go.IntKind renaming i64->J
open Bool renaming false->R
open Option renaming none->U,some->gk
open Go renaming World->wR,Calls->wS,bodyPost_ret->y4,frozen_of_row->CH,results->HD,cell_of_row->HF
open Go.Proofs.Tryz renaming prog->w1,underlying64->z1
open Go.RowKit renaming Hid->w2
open _root_ renaming beq_eq_false_iff_ne->w4,if_neg->w6,if_pos->xl
open Nat renaming le_refl->w5,lt_or_ge->z6
open List renaming range->y3,mem_range->zy,map_append->A1,length_cons->Co,mem_append->Dq,map_cons->HA,length_map->HO,mem_filter->U1,append_of_mem->V5,filter_congr->WU
open Go.World renaming cell?_alloc_lt->HY
open Classical renaming byContradiction->Lo,propDecidable->UD
open Go.Proofs.Tryz
namespace Go.Proofs.YtmnlkganmgcpbaaGreatDoor
section
open Go.RowKit
abbrev fe (a S b bl:Nat):Obj:= .cells #[I J a,I J S,.slice (gk ⟨b,0,U⟩) (S-1) (S-1),.slice (gk ⟨bl,0,U⟩) S S] 152
theorem mG (g S b i bl x y:Nat) (w:wR) (a:VF g S b) (j:x<S) (k:y<S) (l:dH w S b i bl):
 wS w1 204 #[gG g S i bl,I J x,I J y] w (au (I J ((aA S b x y:Nat):Int)) w):=by
 have p:w2 (af w (w.alloc (fe g S i bl))):=(Below.refl _ _).alloc (w5 _) _;by_cases e:x=0
 ·subst e;have o:=aa (q8 a k);clear a l;go_enter func204,ntmps204;go_wp2;go_ret;exact⟨bM (by rw[o.out];rfl),p.out⟩
 by_cases f:y=0
 ·subst f;have o:=aa (pD a j);clear a l;go_enter func204,ntmps204;go_wp2;go_ret;exact⟨bM (by rw[o.out];rfl),p.out⟩
 have t:=a.le;have C:=a.aO;have u:=(fi a j e).1;have v:=(fi a k f).1;have n:=l.alloc (fe g S i bl);have c1:=n.2.2.2 x j e;have z:=n.2.2.2 y k f;have q:(ff S b x+ff S b y)%(S-1)<S-1:=Nat.mod_lt _ oO;have r:=n.2.2.1 _ q;rw[Ie a j k e f]at r;generalize aA S b x y=s at*;generalize ff S b x=c at*;generalize ff S b y=d at*;have e1:((c:Int)+d).tmod ((S:Int)-1)=(((c+d)%(S-1):Nat):Int):=by
  rw[show(c:Int)+d=((c+d:Nat):Int)from by omega,show(S:Int)-1=((S-1:Nat):Int)from by omega];exact(Int.ofNat_tmod _ _).symm
 generalize(c+d)%(S-1)=m at*;have e2:J.wrap ((c:Int)+d)=(c:Int)+d:=aG _ oO oO;have A:((x:Int)==0)=R:=by rw[w4];omega
 have B:((y:Int)==0)=R:=by rw[w4];omega
 clear n l a e f;go_enter func204,ntmps204;go_wp2;go_quiet (fail)
 go_wp2;go_ret;exact⟨rfl,cS p.out _⟩
theorem xY (g S c i bl x y:Nat) (w:wR) (d:VF g S c) (j:x<S) (k:y<S) (e:y≠0) (n:dH w S c i bl):
 wS w1 206 #[gG g S i bl,I J x,I J y] w (au (I J ((aA S c x (bW S c y):Nat):Int)) w):=by
 have o:w2 (af w (w.alloc (fe g S i bl))):=(Below.refl _ _).alloc (w5 _) _;by_cases f:x=0
 ·subst f;have p:=aa (q8 d (gM d (x:=y)));clear d n k j e;go_enter func206,ntmps206;go_wp2;go_ret;exact⟨bM (by rw[p.out];rfl),o.out⟩
 have t:=d.le;have B:=d.aO;have u:=(fi d j f).1;have v:=(fi d k e).1;have l:=n.alloc (fe g S i bl);have c1:=l.2.2.2 x j f;have z:=l.2.2.2 y k e;have q:(ff S c x+(S-1)-ff S c y)%(S-1)<S-1:=Nat.mod_lt _ oO;have r:=l.2.2.1 _ q;rw[Iw d j k f e]at r;generalize aA S c x (bW S c y)=s at*;generalize ff S c x=a at*;generalize ff S c y=b at*;have e1:((a:Int)-b+S-1).tmod ((S:Int)-1)=(((a+(S-1)-b)%(S-1):Nat):Int):=by
  rw[show(a:Int)-b+S-1=((a+(S-1)-b:Nat):Int)from by omega,show(S:Int)-1=((S-1:Nat):Int)from by omega];exact(Int.ofNat_tmod _ _).symm
 generalize(a+(S-1)-b)%(S-1)=m at*;have e2:J.wrap ((a:Int)-b)=(a:Int)-b:=aG _ oO oO;have e3:J.wrap ((a:Int)-b+S)=(a:Int)-b+S:=aG _ oO oO;have e4:J.wrap ((a:Int)-b+S-1)=(a:Int)-b+S-1:=aG _ oO oO;have A:((x:Int)==0)=R:=by rw[w4];omega
 clear l n d f e;go_enter func206,ntmps206;go_wp2;go_quiet (fail)
 go_wp2;go_ret;exact⟨rfl,cS o.out _⟩
theorem qT (b S c e bl x y:Nat) (w:wR) (a:VF b S c) (j:x<S) (k:y<S):
 wS w1 205 #[gG b S e bl,I J x,I J y] w (au (I J ((bU S c x y:Nat):Int)) w):=by
 have g:w2 (af w (w.alloc (fe b S e bl))):=(Below.refl _ _).alloc (w5 _) _;have l:=a.le;rcases a.Kg with⟨rfl,f⟩|⟨i,rfl⟩
 ·have d:w2 (bits BinOp.xor J (x:Int) (y:Int)=((bU S c x y:Nat):Int)):=by
   show _=_;rw[iw _ _ oO oO];unfold bU;rw[w6 f]
  clear a f;go_enter func205,ntmps205;go_wp2;go_ret;exact⟨bM d.out,g.out⟩
 ·have n:=a.aO;have d:w2 (((x:Int)+y).tmod S=((bU S 0 x y:Nat):Int)):=by
   show _=_;unfold bU;rw[xl rfl,show(x:Int)+y=((x+y:Nat):Int)from by omega];exact(Int.ofNat_tmod _ _).symm
  have m:((b:Int)==2)=R:=by rw[w4];omega
  clear a i;go_enter func205,ntmps205;go_wp2;go_ret;exact⟨bM d.out,g.out⟩
theorem Nq (b S c e bl x y:Nat) (w:wR) (a:VF b S c) (j:x<S) (k:y<S):
 wS w1 222 #[gG b S e bl,I J x,I J y] w (au (I J ((bD S c x y:Nat):Int)) w):=by
 have g:w2 (af w (w.alloc (fe b S e bl))):=(Below.refl _ _).alloc (w5 _) _;have l:=a.le;rcases a.Kg with⟨rfl,f⟩|⟨i,rfl⟩
 ·have d:w2 (bits BinOp.xor J (x:Int) (y:Int)=((bD S c x y:Nat):Int)):=by
   show _=_;rw[iw _ _ oO oO];unfold bD;rw[w6 f]
  clear a f;go_enter func222,ntmps222;go_wp2;go_ret;exact⟨bM d.out,g.out⟩
 ·have n:=a.aO;have d:w2 (((x:Int)-y+S)%S=((bD S 0 x y:Nat):Int)):=by
   show _=_;unfold bD;rw[xl rfl,show(x:Int)-y+S=((x+S-y:Nat):Int)from by omega];exact(Int.natCast_emod _ _).symm
  have m:((b:Int)==2)=R:=by rw[w4];omega
  clear a i;go_enter func222,ntmps222;go_wp2;go_ret;exact⟨bM d.out,g.out⟩
theorem JT (b S d c bl x:Nat) (a:List Nat) (A:Option Addr) (F:Nat) (w:wR) (p:VF b S d) (q:x<S) (hl:ak S a) (hn:a.length<=4097) (r:dH w S d c bl) (s:RD w A (zl a)):
 wS w1 202 #[gG b S c bl,.slice A a.length F,I J x] w (au (I J ((cP S d x a:Nat):Int)) w):=by
 have j:=aa p;have t:=aa hl;have G:=aa q;have z:=aa (s.alloc (fe b S c bl));have H:=aa (r.alloc (fe b S c bl));have K:w2 (an (w.alloc (fe b S c bl)) w.heap.size (ji b S c bl)):=an.new _ _ _ _ rfl;have o:w2 (a.length=a.length):=rfl
 revert o
 generalize D:a.length=n at*;intro o;have i:=aa D;clear D p hl q s r o;go_enter func202,ntmps202;go_wp2;go_loopw [7,8] (λv l wr=>∃(k:Nat) (f:Int),k<=n/\l=I J f/\w2 (f=(k:Int)-1)/\v=I J ((cP S d x (a.drop k):Nat):Int)/\w2 (Below (w.alloc (fe b S c bl)).heap.size (w.alloc (fe b S c bl)) wr)) (λ_ l _=>(intOf l+1).toNat)
 case atStart=>exact⟨n,_,w5 _,rfl,rfl,by rw[<-i.out,List.drop_length];rfl,Below.refl _ _⟩
 case round=>
  obtain⟨k,f,Y,rfl,B,rfl,hb⟩:=hrel;by_cases P:k=0
  ·subst P;have ab:f<0:=by have:=B.out;omega
   go_wp2;go_ret;exact⟨rfl,dT hb.out⟩
  ·obtain⟨m,rfl⟩:∃m,k=m+1:=⟨k-1,by omega⟩;obtain rfl:f=(m:Int):=by have:=B.out;omega
   obtain⟨L,rfl,-,Q⟩:=z.out (by rw[ao,i.out];omega);have C:w2 (∀W,Below (w.alloc (fe b S c bl)).heap.size (w.alloc (fe b S c bl)) W->(W.cell? ⟨w.heap.size,0,U⟩=gk (I J b)/\W.cell? ⟨w.heap.size,1,U⟩=gk (I J S)/\W.cell? ⟨w.heap.size,2,U⟩=gk (.slice (gk ⟨c,0,U⟩) (S-1) (S-1))/\W.cell? ⟨w.heap.size,3,U⟩=gk (.slice (gk ⟨bl,0,U⟩) S S))/\W.cell? (L.add m)=gk (I J ((a.getD m 0:Nat):Int))):=by
    show∀W,_;intro W g;refine⟨ft (K.out.below g),?_⟩;obtain⟨ac,e,_,hc⟩:=z.out.below g (by rw[ao,i.out];omega);injection e with e;subst e;rw[hc m (by rw[ao,i.out];omega),bT]
   have T:=aa (zP S d x a m (by rw[i.out];omega));have V:w2 (cP S d x (a.drop (m+1))<S):=jl j.out x _ (λy M=>fh t.out y (List.mem_of_mem_drop M));have X:w2 (a.getD m 0<S):=t.out m;generalize N:cP S d x (a.drop (m+1))=u at*;have ad:m<n:=oO;clear N Q;go_wp2;refine bV (S:=af (w.alloc (fe b S c bl))) 10 oK oK (ai hb.out) ?_;simp only[List.take_succ_cons,List.take_zero,List.drop_succ_cons,List.drop_zero]
   repeat refine kO C.out ?_
   refine kX (λW g=>mG b S d c bl u x W j.out V.out G.out (H.out.below g)) ?_
   repeat refine kO C.out ?_
   refine kX (λW g=>qT b S d c bl (aA S d u x) (a.getD m 0) W j.out (bk j.out _ _) X.out) ?_;refine cX ?_;intro Z E;have O:=aa E;clear E;go_wp2;exact⟨⟨m,_,by omega,rfl,rfl,by rw[T.out],O⟩,by simp[intOf]⟩
abbrev y9:Obj:= .cells #[I J 0,I J 0,.slice U 0 0,.slice U 0 0] 152
abbrev TJ (b S a c bl:Nat):Obj:= .cells #[I J b,I J S,.slice (gk ⟨c,0,U⟩) a a,.slice (gk ⟨bl,0,U⟩) S S] 152
structure fC (w wr:wR) (C S P T n be bl a:Nat):Prop where
 B:af w wr
 he:w.heap.size+1<be
 hl:w.heap.size+1<bl
 hs:w.heap.size+1<a
 n1:be≠bl
 n2:be≠a
 n3:bl≠a
 F:wr.heap[w.heap.size]?=gk (rV C S P)
 cK:wr.heap[w.heap.size+1]?=gk y9
 E:wr.heap[be]?=gk (.cells (ep (lz S P n)) 3)
 L:wr.heap[bl]?=gk (.cells (ep (nt S P n)) 3)
 A:wr.heap[a]?=gk (TJ C S T be bl)
theorem fC.drewN {w wr:wR} {a S b c n d bl e:Nat} (h:fC w wr a S b c n d bl e) (k:Nat):fC w (wr.drewN k) a S b c n d bl e:=
 ⟨cS h.B k,h.he,h.hl,h.hs,h.n1,h.n2,h.n3,h.F,h.cK,h.E,h.L,h.A⟩
theorem fC.below {w wr d:wR} {a S b c n e bl f:Nat} (h:fC w wr a S b c n e bl f) (hb:af wr d):fC w d a S b c n e bl f:=
 ⟨ae h.B hb,h.he,h.hl,h.hs,h.n1,h.n2,h.n3,(hb.block _ (ay h.F)).trans h.F,(hb.block _ (ay h.cK)).trans h.cK,(hb.block _ (ay h.E)).trans h.E,(hb.block _ (ay h.L)).trans h.L,(hb.block _ (ay h.A)).trans h.A⟩
theorem fC.store {w wr:wR} {g S d f n e bl i:Nat} (o:VF g S d) (q:f=S-1) (h:fC w wr g S d f n e bl i) (hn:n<f):
 fC w ((wr.setCell ⟨e,n,U⟩ (I J ((aM S d (aV S d) n:Nat):Int))).setCell ⟨bl,aM S d (aV S d) n,U⟩ (I J (n:Int))) g S d f (n+1) e bl i:=by
 have p:af w (wr.setCell ⟨e,n,U⟩ (I J ((aM S d (aV S d) n:Nat):Int))):=h.B.setCell (by have:=h.he;simp;omega) _;exact Sf
theorem fC.sM {w wr:wR} {c S a b d bl f:Nat} (e:VF c S a) (g:b=S-1) (h:fC w wr c S a b b d bl f):dH wr S a d bl:=by
 exact SM
theorem fC.cells {w wr:wR} {d S a b n e bl c:Nat} (f:VF d S a) (i:b=S-1) (h:fC w wr d S a b n e bl c):
 (wr.cell? ⟨w.heap.size,0,U⟩=gk (I J d)/\wr.cell? ⟨w.heap.size,1,U⟩=gk (I J S)/\wr.cell? ⟨w.heap.size,2,U⟩=gk (I J a))/\
 (wr.cell? ⟨c,0,U⟩=gk (I J d)/\wr.cell? ⟨c,1,U⟩=gk (I J S)/\wr.cell? ⟨c,2,U⟩=gk (.slice (gk ⟨e,0,U⟩) b b)/\wr.cell? ⟨c,3,U⟩=gk (.slice (gk ⟨bl,0,U⟩) S S))/\
 (n<b->(∃u,wr.cell? ⟨e,n,U⟩=gk u)/\wr.frozen? ⟨e,n,U⟩=R/\(∃u,wr.cell? ⟨bl,aM S a (aV S a) n,U⟩=gk u)/\wr.frozen? ⟨bl,aM S a (aV S a) n,U⟩=R):=by
 refine⟨⟨?_,?_,?_⟩,⟨?_,?_,?_,?_⟩,λhn=>⟨?_,?_,?_,?_⟩⟩
 ·rw[HF _ _ _ _ _ _ h.F];rfl
 ·rw[HF _ _ _ _ _ _ h.F];rfl
 ·rw[HF _ _ _ _ _ _ h.F];rfl
 ·rw[HF _ _ _ _ _ _ h.A];rfl
 ·rw[HF _ _ _ _ _ _ h.A];rfl
 ·rw[HF _ _ _ _ _ _ h.A];rfl
 ·rw[HF _ _ _ _ _ _ h.A];rfl
 ·rw[HF _ _ _ _ _ _ h.E,iU];refine⟨_,Option.map_eq_some_iff.2 ⟨_,List.getElem?_eq_getElem (by unfold lz;simp;omega),rfl⟩⟩
 ·exact CH _ _ _ _ _ h.E
 ·rw[HF _ _ _ _ _ _ h.L,iU];refine⟨_,Option.map_eq_some_iff.2 ⟨_,List.getElem?_eq_getElem (by unfold nt;simp;exact lY f n),rfl⟩⟩
 ·exact CH _ _ _ _ _ h.L
theorem fC.drew {w wr:wR} {a S b c n d bl e:Nat} (h:fC w wr a S b c n d bl e):fC w wr.drew a S b c n d bl e:=
 ⟨ai h.B,h.he,h.hl,h.hs,h.n1,h.n2,h.n3,h.F,h.cK,h.E,h.L,h.A⟩
theorem fC.res {w wr:wR} {a S b c n d bl e:Nat} (h:fC w wr a S b c n d bl e):
 wr.cell? ⟨w.heap.size+1,0,U⟩=gk (I J 0)/\wr.cell? ⟨w.heap.size+1,1,U⟩=gk (I J 0)/\wr.cell? ⟨w.heap.size+1,2,U⟩=gk (.slice U 0 0)/\wr.cell? ⟨w.heap.size+1,3,U⟩=gk (.slice U 0 0)/\∀k,wr.frozen? ⟨w.heap.size+1,k,U⟩=R:=by
 refine⟨?_,?_,?_,?_,λk=>CH _ _ _ _ _ h.cK⟩<;>(rw[HF _ _ _ _ _ _ h.cK];rfl)
theorem vD (d S b:Nat) (w:wR) (q:VF d S b):
 wS w1 119 #[aU d S b] w λe P=>∃N bl,e= .returned (gG d S N bl)/\dH P S b N bl/\af w P/\w.heap.size<=N/\w.heap.size<=bl:=by
 have a8:=q.le;have a9:=q.aO;have O:(b:Int)<=9223372036854775807:=q.ui;have hg:=kM q;have RG:w2 (xX d S b=(((aV S b:Nat):Int),0)):=by
  show _=_;unfold xX;rw[lH q,xl rfl];simp
 obtain⟨c,M⟩:∃c,c=S-1:=⟨S-1,rfl⟩;have bb:1<=c:=oO;have bd:=run_make_row' (P:=w1) 64 3 (I J 0) 8 z1 cT rfl .i64 .i64 c oO oO;have be:=run_make_row' (P:=w1) 64 3 (I J 0) 8 z1 cT rfl .i64 .i64 S oO oO;have bf:J.wrap ((S:Int)-1)=(c:Int):=by rw[aG _ oO oO];omega
 have bo:((S:Int)-1)=(c:Int):=oO;have j:=aa q;have i:=aa M;have K:w2 (ep (lz S b 0)=madeCells #[Value.int .i64 0] c):=by show _=_;rw[kY,An q,M]
 have L:w2 (ep (nt S b 0)=madeCells #[Value.int .i64 0] S):=by show _=_;rw[kY,BK q]
 clear M q;have ap:w2 (∀a:wR,Below ((w.alloc (rV d S b)).alloc y9).heap.size ((w.alloc (rV d S b)).alloc y9) a->w.heap.size+1<a.heap.size/\a.heap[w.heap.size]?=gk (rV d S b)/\a.heap[w.heap.size+1]?=gk y9/\af w a):=by
  intro a s;have hs:=s.size;simp at hs;refine⟨by omega,(s.block _ oT).trans ?_,(s.block _ oS).trans ?_,((Below.refl _ _).alloc (w5 _) _|>.alloc oS _).trans (s.mono oT)⟩
  ·exact(Below.heap_alloc _ _ _ oS).trans (heap_alloc_new w _)
  ·have:=heap_alloc_new (w.alloc (rV d S b)) y9;simpa using this
 go_enter func119,ntmps119
 go_wp2_with(
  go_at_call 158;refine(uu d S b _ oO O).mono ?_;rintro e a ⟨rfl,s⟩;rw[RG.out]
  have m:=aa (ap.out a s);have bi:w.heap.size+1<a.heap.size:=m.out.1;have W:w.heap.size<a.heap.size:=oO;have T:a.cell? ⟨w.heap.size,0,U⟩=gk (I J d):=(HF _ _ _ _ _ _ m.out.2.1).trans rfl;have V:a.cell? ⟨w.heap.size,1,U⟩=gk (I J S):=(HF _ _ _ _ _ _ m.out.2.1).trans rfl;have Z:∀g,(a.alloc g).cell? ⟨w.heap.size,0,U⟩=gk (I J d):=λg=>(HY _ _ _ (by exact W)).trans T;have ab:∀g k,((a.alloc g).alloc k).cell? ⟨w.heap.size,0,U⟩=gk (I J d):=λg k=>(HY _ _ _ oT).trans (Z g);have a2:∀g k H,(((a.alloc g).alloc k).alloc H).cell? ⟨w.heap.size,0,U⟩=gk (I J d):=λg k H=>(HY _ _ _ oT).trans (ab g k);have ac:∀g,(a.alloc g).cell? ⟨w.heap.size,1,U⟩=gk (I J S):=λg=>(HY _ _ _ (by exact W)).trans V;have ad:∀g k,((a.alloc g).alloc k).cell? ⟨w.heap.size,1,U⟩=gk (I J S):=λg k=>(HY _ _ _ oT).trans (ac g);have a3:∀g k H,(((a.alloc g).alloc k).alloc H).cell? ⟨w.heap.size,1,U⟩=gk (I J S):=λg k H=>(HY _ _ _ oT).trans (ad g k)
  clear s)
 go_region
 all_goals clear T V Z ab a2 ac ad a3
 all_goals go_wp2
 ·go_loopw [6,28] (λx f wr=>∃n:Nat,n<=c/\f=I J (n:Nat)/\x=I J ((aM S b (aV S b) n:Nat):Int)/\w2 (fC w wr d S b c n (a.heap.size) (a.heap.size+1) (a.heap.size+1+1))) (λ_ f _=>c-(intOf f).toNat)
  case atStart=>
   exact Rs
  case round=>
   obtain⟨n,hn,rfl,rfl,hid⟩:=hrel;obtain⟨⟨t,u,v⟩,⟨y,z,A,B⟩,l⟩:=fC.cells j.out i.out hid.out;by_cases r:n<c
   ·exact Hn
   ·obtain rfl:n=c:=oO;obtain⟨C,D,E,F,G⟩:=fC.res hid.out;have o:=aa (fC.sM j.out i.out hid.out);clear l;go_wp2;refine y4 (v:= .agg #[I J d,I J S,.slice (gk ⟨(a.heap.size),0,U⟩) n n,.slice (gk ⟨(a.heap.size+1),0,U⟩) S S]) ?_ rfl ⟨(a.heap.size),(a.heap.size+1),?_,?_,?_⟩
    ·have p:Tryz.f119.results=#[.cell 2 152]:=oK;simp only[HD,p];go_simp
    ·rw[i.out]
    ·exact(((o.out.setCell _ _ oT oT).setCell _ _ oT oT).setCell _ _ oT oT).setCell _ _ oT oT
    ·exact⟨(((hid.out.B.setCell oS _).setCell oS _).setCell oS _).setCell oS _,by omega,by omega⟩
 ·go_loopw [6,28] (λx f wr=>∃n:Nat,n<=c/\f=I J (n:Nat)/\x=I J ((aM S b (aV S b) n:Nat):Int)/\w2 (fC w wr d S b c n (a.heap.size) (a.heap.size+1+1) (a.heap.size+1))) (λ_ f _=>c-(intOf f).toNat)
  case atStart=>
   exact RZ
  case round=>
   obtain⟨n,hn,rfl,rfl,hid⟩:=hrel;obtain⟨⟨t,u,v⟩,⟨y,z,A,B⟩,l⟩:=fC.cells j.out i.out hid.out;by_cases r:n<c
   ·exact Hn
   ·obtain rfl:n=c:=oO;obtain⟨C,D,E,F,G⟩:=fC.res hid.out;have o:=aa (fC.sM j.out i.out hid.out);clear l;go_wp2;refine y4 (v:= .agg #[I J d,I J S,.slice (gk ⟨(a.heap.size),0,U⟩) n n,.slice (gk ⟨(a.heap.size+1+1),0,U⟩) S S]) ?_ rfl ⟨(a.heap.size),(a.heap.size+1+1),?_,?_,?_⟩
    ·have p:Tryz.f119.results=#[.cell 2 152]:=oK;simp only[HD,p];go_simp
    ·rw[i.out]
    ·exact(((o.out.setCell _ _ oT oT).setCell _ _ oT oT).setCell _ _ oT oT).setCell _ _ oT oT
    ·exact⟨(((hid.out.B.setCell oS _).setCell oS _).setCell oS _).setCell oS _,by omega,by omega⟩
 ·go_loopw [6,28] (λx f wr=>∃n:Nat,n<=c/\f=I J (n:Nat)/\x=I J ((aM S b (aV S b) n:Nat):Int)/\w2 (fC w wr d S b c n (a.heap.size+1) (a.heap.size) (a.heap.size+1+1))) (λ_ f _=>c-(intOf f).toNat)
  case atStart=>
   exact Ri
  case round=>
   obtain⟨n,hn,rfl,rfl,hid⟩:=hrel;obtain⟨⟨t,u,v⟩,⟨y,z,A,B⟩,l⟩:=fC.cells j.out i.out hid.out;by_cases r:n<c
   ·exact Hn
   ·obtain rfl:n=c:=oO;obtain⟨C,D,E,F,G⟩:=fC.res hid.out;have o:=aa (fC.sM j.out i.out hid.out);clear l;go_wp2;refine y4 (v:= .agg #[I J d,I J S,.slice (gk ⟨(a.heap.size+1),0,U⟩) n n,.slice (gk ⟨(a.heap.size),0,U⟩) S S]) ?_ rfl ⟨(a.heap.size+1),(a.heap.size),?_,?_,?_⟩
    ·have p:Tryz.f119.results=#[.cell 2 152]:=oK;simp only[HD,p];go_simp
    ·rw[i.out]
    ·exact(((o.out.setCell _ _ oT oT).setCell _ _ oT oT).setCell _ _ oT oT).setCell _ _ oT oT
    ·exact⟨(((hid.out.B.setCell oS _).setCell oS _).setCell oS _).setCell oS _,by omega,by omega⟩
 ·go_loopw [6,28] (λx f wr=>∃n:Nat,n<=c/\f=I J (n:Nat)/\x=I J ((aM S b (aV S b) n:Nat):Int)/\w2 (fC w wr d S b c n (a.heap.size+1+1) (a.heap.size) (a.heap.size+1))) (λ_ f _=>c-(intOf f).toNat)
  case atStart=>
   exact RY
  case round=>
   obtain⟨n,hn,rfl,rfl,hid⟩:=hrel;obtain⟨⟨t,u,v⟩,⟨y,z,A,B⟩,l⟩:=fC.cells j.out i.out hid.out;by_cases r:n<c
   ·exact Hn
   ·obtain rfl:n=c:=oO;obtain⟨C,D,E,F,G⟩:=fC.res hid.out;have o:=aa (fC.sM j.out i.out hid.out);clear l;go_wp2;refine y4 (v:= .agg #[I J d,I J S,.slice (gk ⟨(a.heap.size+1+1),0,U⟩) n n,.slice (gk ⟨(a.heap.size),0,U⟩) S S]) ?_ rfl ⟨(a.heap.size+1+1),(a.heap.size),?_,?_,?_⟩
    ·have p:Tryz.f119.results=#[.cell 2 152]:=oK;simp only[HD,p];go_simp
    ·rw[i.out]
    ·exact(((o.out.setCell _ _ oT oT).setCell _ _ oT oT).setCell _ _ oT oT).setCell _ _ oT oT
    ·exact⟨(((hid.out.B.setCell oS _).setCell oS _).setCell oS _).setCell oS _,by omega,by omega⟩
 ·go_loopw [6,28] (λx f wr=>∃n:Nat,n<=c/\f=I J (n:Nat)/\x=I J ((aM S b (aV S b) n:Nat):Int)/\w2 (fC w wr d S b c n (a.heap.size+1) (a.heap.size+1+1) (a.heap.size))) (λ_ f _=>c-(intOf f).toNat)
  case atStart=>
   exact Sr
  case round=>
   obtain⟨n,hn,rfl,rfl,hid⟩:=hrel;obtain⟨⟨t,u,v⟩,⟨y,z,A,B⟩,l⟩:=fC.cells j.out i.out hid.out;by_cases r:n<c
   ·exact Hn
   ·obtain rfl:n=c:=oO;obtain⟨C,D,E,F,G⟩:=fC.res hid.out;have o:=aa (fC.sM j.out i.out hid.out);clear l;go_wp2;refine y4 (v:= .agg #[I J d,I J S,.slice (gk ⟨(a.heap.size+1),0,U⟩) n n,.slice (gk ⟨(a.heap.size+1+1),0,U⟩) S S]) ?_ rfl ⟨(a.heap.size+1),(a.heap.size+1+1),?_,?_,?_⟩
    ·have p:Tryz.f119.results=#[.cell 2 152]:=oK;simp only[HD,p];go_simp
    ·rw[i.out]
    ·exact(((o.out.setCell _ _ oT oT).setCell _ _ oT oT).setCell _ _ oT oT).setCell _ _ oT oT
    ·exact⟨(((hid.out.B.setCell oS _).setCell oS _).setCell oS _).setCell oS _,by omega,by omega⟩
 ·go_loopw [6,28] (λx f wr=>∃n:Nat,n<=c/\f=I J (n:Nat)/\x=I J ((aM S b (aV S b) n:Nat):Int)/\w2 (fC w wr d S b c n (a.heap.size+1+1) (a.heap.size+1) (a.heap.size))) (λ_ f _=>c-(intOf f).toNat)
  case atStart=>
   exact Sp
  case round=>
   obtain⟨n,hn,rfl,rfl,hid⟩:=hrel;obtain⟨⟨t,u,v⟩,⟨y,z,A,B⟩,l⟩:=fC.cells j.out i.out hid.out;by_cases r:n<c
   ·exact Hn
   ·obtain rfl:n=c:=oO;obtain⟨C,D,E,F,G⟩:=fC.res hid.out;have o:=aa (fC.sM j.out i.out hid.out);clear l;go_wp2;refine y4 (v:= .agg #[I J d,I J S,.slice (gk ⟨(a.heap.size+1+1),0,U⟩) n n,.slice (gk ⟨(a.heap.size+1),0,U⟩) S S]) ?_ rfl ⟨(a.heap.size+1+1),(a.heap.size+1),?_,?_,?_⟩
    ·have p:Tryz.f119.results=#[.cell 2 152]:=oK;simp only[HD,p];go_simp
    ·rw[i.out]
    ·exact(((o.out.setCell _ _ oT oT).setCell _ _ oT oT).setCell _ _ oT oT).setCell _ _ oT oT
    ·exact⟨(((hid.out.B.setCell oS _).setCell oS _).setCell oS _).setCell oS _,by omega,by omega⟩
end
section
open Fl
section
variable {K : Type} [Fl K]
theorem BX (a:K) (f:Nat->K) (n:Nat):dX (λk=>a* f k) n=a* dX f n:=by
 induction n with
 |zero=>exact(bw a).symm
 |succ n b=>show dX _ n+a* f n=a* (dX f n+f n);rw[b,jh]
theorem Of (f a:Nat->K) (n:Nat):dX (λk=>f k+a k) n=dX f n+dX a n:=by
 induction n with
 |zero=>exact(cH _).symm
 |succ n b=>show dX _ n+(f n+a n)=(dX f n+f n)+(dX a n+a n);rw[b];ac_rfl
theorem BH {f:Nat->K} {n:Nat} (h:∀k,k<n->f k=0):dX f n=0:=by
 induction n with
 |zero=>rfl
 |succ n a=>show dX f n+f n=0;rw[a λk b=>h k oO,h n oO,bB]
theorem QF (x:K) (f:Nat->K) (n:Nat):cE x f n=dX (λk=>f k* x^k) n:=by
 induction n with
 |zero=>rfl
 |succ n a=>rw[PS,a];rfl
theorem vh {a b:Nat->K} {n:Nat} (h:∀k,k<=n->a k* b (n-k)=0):conv a b n=0:=by
 rw[qv];exact BH λk c=>h k oO
theorem KE {a b:Nat->K} {n:Nat} (h:∀k,1<=k->k<=n->a k* b (n-k)=0):conv a b n=a 0* b n:=by
 rw[qv,Ah,BH (f:=cY λk=>a k* b (n-k)) λk c=>h (k+1) oO oO,bB];rfl
theorem uB (a b c:Nat->K) (n:Nat):conv a (conv b c) n=conv b (conv a c) n:=by
 rw[<-nD,<-nD];exact e8 (λk _=>jb a b k) (λ_ _=>rfl)
theorem E6 {X:K} (b:X≠0) {a k:Nat} (h:k<=a):X^a* eP X^k=X^(a-k):=by
 rw[show a=(a-k)+k from by omega,iO,Nat.add_sub_cancel,cJ,<-oL,ie b,j3,fT]
theorem Oc {X Y:K} (c:X≠0) (a:Y≠0) (h:eP X=eP Y):X=Y:=by
 have b:=ie c;rw[h]at b;have d:=ie a;exact gP (xc a) (b.trans d.symm)
def km (X:K):Nat->K:=λn=>if n=0 then 1 else if n=1 then-X else 0
theorem oG (X:K):dI 2 (km X):=λa b=>by unfold km;rw[w6 oO,w6 oO]
theorem Rh (X:K) (n:Nat):cY (km X) n=ju (-X) n:=by
 unfold cY km ju;cases n with
 |zero=>rfl
 |succ n=>rfl
theorem OC (X:K) (f:Nat->K) (n:Nat):conv (km X) f (n+1)=f (n+1)-X* f n:=by
 rw[cQ,e8 (a:=cY (km X)) (a':=ju (-X)) (b:=f) (b':=f) (λk _=>Rh X k) (λ_ _=>rfl),oh,oI];show 1* _+_=_;rw[eY];rfl
theorem AX (y X:K):cE y (km X) 2=1-X* y:=by
 show(1:K)+y* (-X+y* 0)=_;rw[bw,bB,sV,cC];rfl
def qk:List K->Nat->K
 |[]=>ju 1
 |X::a=>conv (km X) (qk a)
theorem yq (a:K):dI 1 (ju a):=λb c=>by unfold ju;rw[w6 oO]
theorem N8 {a b:Nat->K} {d e:Nat} (c:dI (d+1) a) (hb:dI (e+1) b):dI (d+e+1) (conv a b):=λn hn=>dI.conv c hb n oO
theorem sc:∀a:List K,dI (a.length+1) (qk a)
 |[]=>yq 1
 |X::a=>λn hn=>(oG X).conv (sc a) n (by simp only[Co]at hn;omega)
theorem EL:∀a:List K,qk a 0=1
 |[]=>rfl
 |X::a=>by show(1:K)* qk a 0=1;rw[EL a,eY]
theorem Hz:∀a:List K,(∀X∈a,X≠0)->qk a a.length≠0
 |[],_=>lU
 |X::a,h=>by
  have b:=Nx (oG X) (sc a);rw[show(X::a).length=1+a.length from by rw[Co,Nat.add_comm]];show conv (km X) (qk a) (1+a.length)≠0
  rw[b];refine k8 (λe=>h X oS ?_) (Hz a λY c=>h Y (by simp[c]));have e2:-X=0:=e;rw[<-oa X,e2,uU]
theorem po {x:K} {a b:Nat->K} {d e n:Nat} (c:dI (d+1) a) (hb:dI (e+1) b) (hn:d+e+1<=n):cE x (conv a b) n=cE x a (d+1)* cE x b (e+1):=by
 rw[ig (N8 c hb) hn,<-DG c hb];exact(ig (N8 c hb) oO).symm
def l7 (y:K):List K->K
 |[]=>1
 |X::a=>(1-X* y)* l7 y a
theorem IL (y:K):∀a:List K,cE y (qk a) (a.length+1)=l7 y a
 |[]=>by show(1:K)+y* 0=1;rw[bw,bB]
 |X::a=>by
  show cE y (conv (km X) (qk a)) (a.length+1+1)=_;rw[po (oG X) (sc a) oO,AX,IL y a];rfl
theorem xS {y:K}:∀{a:List K} {X:K},X∈a->X* y=1->l7 y a=0
 |Z::a,X,h,e=>by
  rcases List.mem_cons.1 h with rfl|h
  ·show(1-X* y)* _=0;rw[e,du,cG]
  ·show _* l7 y a=0;rw[xS h e,bw]
theorem EP {y:K}:∀{a:List K},(∀X∈a,X* y≠1)->l7 y a≠0
 |[],_=>lU
 |Z::a,h=>k8 (λe=>h Z oS (jg.1 e).symm) (EP λX b=>h X (by simp[b]))
theorem wE (X:K):∀(s a:List K) (n:Nat),qk (s++X::a) n=conv (km X) (qk (s++a)) n
 |[],a,n=>rfl
 |Z::s,a,n=>by
  show conv (km Z) (qk (s++X::a)) n=conv (km X) (conv (km Z) (qk (s++a))) n
  rw[uB];exact e8 (λ_ _=>rfl) (λk _=>wE X s a k)
def fB:List (K×K)->Nat->K
 |[],_=>0
 |e::b,a=>e.1* e.2^a+fB b a
def tO (a:Nat->K) (L b:Nat):List (K×K)->K
 |[]=>0
 |e::c=>e.1* e.2^b* cE (eP e.2) a (L+1)+tO a L b c
theorem Pe {b:Nat->K} {L a:Nat} (c:dI (L+1) b) (f:L<=a) (w:K) {X:K} (d:X≠0):conv b (λk=>w* X^k) a=w* X^a* cE (eP X) b (L+1):=by
 rw[qv,tc (n:=L+1) (λk e g=>by rw[c k e,cG]) oO,QF,<-BX];apply jI;intro k i;rw[<-E6 d (show k<=a by omega)]
 ac_rfl
theorem uT {a:Nat->K} {L b:Nat} (d:dI (L+1) a) (f:L<=b):∀E:List (K×K),(∀e∈E,e.2≠0)->conv a (fB E) b=tO a L b E
 |[],_=>by rw[jb];exact ij λk=>rfl
 |e::c,h=>by
  show conv a (λk=>e.1* e.2^k+fB c k) b=_
  rw[sC,Pe d f e.1 (h e oS),uT d f c λx g=>h x (by simp[g])];rfl
theorem uK {a:Nat->K} {L b:Nat}:∀{E:List (K×K)},(∀e∈E,cE (eP e.2) a (L+1)=0)->tO a L b E=0
 |[],_=>rfl
 |e::c,h=>by
  show _* cE (eP e.2) a (L+1)+tO a L b c=0;rw[h e oS,uK λx d=>h x (by simp[d]),bw,bB]
theorem FW (e:K×K):∀(s b:List (K×K)) (a:Nat),fB (s++e::b) a=e.1* e.2^a+fB (s++b) a
 |[],b,a=>rfl
 |z::s,b,a=>by
  show z.1* z.2^a+fB (s++e::b) a=e.1* e.2^a+(z.1* z.2^a+fB (s++b) a);rw[FW e s b a];ac_rfl
theorem DF (b:Nat->K) (L c:Nat) (e:K×K):∀(s a:List (K×K)),tO b L c (s++e::a)=e.1* e.2^c* cE (eP e.2) b (L+1)+tO b L c (s++a)
 |[],a=>rfl
 |z::s,a=>by
  show _+tO b L c (s++e::a)=_+(_+tO b L c (s++a));rw[DF b L c e s a];ac_rfl
def lam (E:List (K×K)):Nat->K:=qk (E.map (·.2))
theorem kW (E:List (K×K)):dI (E.length+1) (lam E):=by have:=sc (E.map (·.2));rwa[HO]at this
theorem FT (E:List (K×K)):lam E 0=1:=EL _
theorem AM {E:List (K×K)} (h:∀e∈E,e.2≠0):lam E E.length≠0:=by
 have:=Hz (E.map (·.2)) (λX a=>by obtain⟨e,b,rfl⟩:=List.mem_map.1 a;exact h e b);rwa[HO]at this
theorem r7 (y:K) (E:List (K×K)):cE y (lam E) (E.length+1)=l7 y (E.map (·.2)):=by
 have:=IL y (E.map (·.2));rwa[HO]at this
theorem yd {E:List (K×K)} {e:K×K} (a:e∈E) (b:e.2≠0):cE (eP e.2) (lam E) (E.length+1)=0:=by
 rw[r7];exact xS (List.mem_map_of_mem a) (ie b)
theorem I3 {E:List (K×K)} (h:∀e∈E,e.2≠0) {a:Nat} (c:E.length<=a):conv (lam E) (fB E) a=0:=by
 rw[uT (kW E) c E h];exact uK λe b=>yd b (h e b)
theorem RW {a D S:Nat->K} {L v n:Nat} (c:dI (L+1) a) (d:dI (v+1) D) (e:D 0=1) (f:∀b,L<=b->b<n->conv a S b=0) (g:∀b,v<=b->conv D S b=0)
 (i:conv a S n≠0):n+1<=L+v:=by
 apply Lo;intro m;apply i;have e1:conv D (conv a S) n=D 0* conv a S n:=KE λk j hn=>by
  by_cases l:k<=v
  ·rw[f (n-k) oO oO,bw]
  ·rw[d k oO,cG]
 have e2:conv a (conv D S) n=0:=vh λk j=>by
  by_cases hl:k<=L
  ·rw[g (n-k) oO,bw]
  ·rw[c k oO,cG]
 rw[uB,e2,e,eY]at e1;exact e1.symm
def zF:Nat->(Nat->K)->Nat->K
 |0,f=>f
 |m+1,f=>sh (zF m f)
theorem yS (m:Nat) (f:Nat->K) (a:Nat):zF m f a=if m<=a then f (a-m)else 0:=by
 induction m generalizing a with
 |zero=>rw[xl (Nat.zero_le _)];rfl
 |succ m b=>
  cases a with
  |zero=>rw[w6 oO];rfl
  |succ a=>
   show zF m f a=_;rw[b];by_cases h:m<=a
   ·rw[xl h,xl oO,show a+1-(m+1)=a-m from by omega]
   ·rw[w6 h,w6 oO]
theorem OL (m:Nat) (f S:Nat->K) (a:Nat):conv (zF m f) S a=zF m (conv f S) a:=by
 induction m generalizing a with
 |zero=>rfl
 |succ m b=>
  show conv (sh (zF m f)) S a=sh (zF m (conv f S)) a
  rw[H7];cases a with
  |zero=>rfl
  |succ a=>exact b a
theorem Q5 {m d:Nat} {f:Nat->K} (h:dI d f):dI (d+m) (zF m f):=λa b=>by
 rw[yS,xl oO,h _ oO]
structure pB (S:Nat->K) (n:Nat) (C B:Nat->K) (L m:Nat) (b:K):Prop where
 c0:C 0=1
 cs:dI (L+1) C
 ln:L<=n
 gen:∀a,L<=a->a<n->conv C S a=0
 b0:b≠0
 m1:1<=m
 q:∃q,L+q+m=n+1/\dI (q+1) B/\(m<=n->(∀a,q<=a->a+m<n->conv B S a=0)/\conv B S (n-m)=b)
theorem pB.start (S:Nat->K):pB S 0 (ju 1) (ju 1) 0 1 1:=
 ⟨rfl,yq 1,w5 _,λa b c=>by omega,lU,w5 _,0,rfl,yq 1,λh=>by omega⟩
theorem pB.skip {S c B:Nat->K} {n L m:Nat} {b:K} (h:pB S n c B L m b) (g:conv c S n=0):pB S (n+1) c B L (m+1) b:=by
 obtain⟨q,l,i,j⟩:=h.q;refine⟨h.c0,h.cs,by have:=h.ln;omega,λa d f=>?_,h.b0,by omega,q,by omega,i,λo=>?_⟩
 ·rcases z6 a n with e|e
  ·exact h.gen a d e
  ·obtain rfl:a=n:=oO;exact g
 ·obtain⟨d,f⟩:=j oO;exact⟨λa k p=>d a k oO,by rw[show n+1-(m+1)=n-m from by omega];exact f⟩
def sQ (b B:Nat->K) (m:Nat) (c:K):Nat->K:=λa=>b a-c* zF m B a
theorem pB.D6 {S c B:Nat->K} {n L m:Nat} {b d:K} (h:pB S n c B L m b) (f:d* b=conv c S n) (a:Nat) (g:L<=a) (k:n+1<=a+L) (l:a<n+1):conv (sQ c B m d) S a=0:=by
 obtain⟨q,e1,e2,e3⟩:=h.q;unfold sQ;rw[CT,sD,OL,yS,xl oO];obtain⟨i,j⟩:=e3 oO;rcases z6 a n with e|e
 ·rw[h.gen a g e,i (a-m) oO oO,bw,fX]
 ·obtain rfl:a=n:=oO;rw[j,f,du]
theorem DL {S a B:Nat->K} {n L m:Nat} {b c:K} (h:pB S n a B L m b):sQ a B m c 0=1:=by
 have:=h.m1;unfold sQ;rw[yS,w6 oO,bw,fX,h.c0]
theorem IT {S c B:Nat->K} {n L m a:Nat} {b e:K} (h:pB S n c B L m b) (f:L<=a) (g:n+1<=a+L):dI (a+1) (sQ c B m e):=λd i=>by
 obtain⟨q,e1,e2,e3⟩:=h.q;unfold sQ;rw[h.cs d oO,Q5 e2 d oO,bw,fX]
theorem pB.grow {S a B:Nat->K} {n L m:Nat} {b d:K} (h:pB S n a B L m b) (e:conv a S n≠0) (f:d* b=conv a S n) (j:2* L<=n):pB S (n+1) (sQ a B m d) a (n+1-L) 1 (conv a S n):=by
 have hl:=h.ln;refine⟨DL h,IT h oO oO,by omega,λc k g=>h.D6 f c oO oO g,e,w5 _,L,by omega,h.cs,λ_=>⟨λc i l=>h.gen c i oO,rfl⟩⟩
theorem pB.stay {S a B:Nat->K} {n L m:Nat} {b f:K} (h:pB S n a B L m b) (g:f* b=conv a S n) (j:n<2* L):pB S (n+1) (sQ a B m f) B L (m+1) b:=by
 have hl:=h.ln;obtain⟨q,e1,e2,e3⟩:=h.q;refine⟨DL h,IT h (w5 _) oO,by omega,λc d e=>h.D6 g c d oO e,h.b0,by omega,q,by omega,e2,λk=>?_⟩;obtain⟨d,e⟩:=e3 oO;exact⟨λc i l=>d c i oO,by rw[show n+1-(m+1)=n-m from by omega];exact e⟩
structure l8 (E:List (K×K)):Prop where
 w0:∀e∈E,e.1≠0
 x0:∀e∈E,e.2≠0
 nd:(E.map (·.2)).Nodup
theorem l8.out {s b:List (K×K)} {e:K×K} (h:l8 (s++e::b)):∀X∈(s++b).map (·.2),X≠e.2:=by
 have c:=h.nd;intro X a e2;subst e2;rw[A1,HA,List.nodup_append]at c;obtain⟨g,d,f⟩:=c;rw[List.nodup_cons]at d;rw[A1,Dq]at a;rcases a with a|a
 ·exact f _ a _ oS rfl
 ·exact d.1 a
theorem l8.rest {s b:List (K×K)} {e:K×K} (h:l8 (s++e::b)):l8 (s++b):=by
 refine⟨λx a=>h.w0 x ?_,λx a=>h.x0 x ?_,?_⟩
 ·rw[Dq]at a;rw[Dq,List.mem_cons];rcases a with a|a
  ·exact .inl a
  ·exact .inr (.inr a)
 ·rw[Dq]at a;rw[Dq,List.mem_cons];rcases a with a|a
  ·exact .inl a
  ·exact .inr (.inr a)
 ·have:=h.nd;refine this.sublist ?_;exact((List.Sublist.refl s).append (List.sublist_cons_self e b)).map _
theorem l8.Fs {s a:List (K×K)} {e:K×K} (h:l8 (s++e::a)):l7 (eP e.2) ((s++a).map (·.2))≠0:=EP λX c e1=>by
 have b:e.2≠0:=h.x0 e oS;have d:=h.out X c;exact d (gP (xc b) (e1.trans (ie b).symm))
theorem P1 {E:List (K×K)} (c:l8 E) {b:Nat->K} {L N:Nat} (j:dI (L+1) b) (o:∀i,L<=i->i<N->conv b (fB E) i=0) (p:L<=E.length) (q:2* E.length<=N):
 ∀e∈E,cE (eP e.2) b (L+1)=0:=by
 intro e r;obtain⟨s,a,rfl⟩:=V5 r;have y:(s++e::a).length=(s++a).length+1:=by simp;omega
 rw[y]at p q;obtain⟨v,l⟩:∃v,v=(s++a).length:=⟨_,rfl⟩;have d:dI (v+1) (lam (s++a)):=by rw[l];exact kW _
 have f:conv (lam (s++a)) (conv b (fB (s++e::a))) (L+v)=0:=vh λk z=>by
  by_cases A:k<=v
  ·rw[o (L+v-k) oO oO,bw]
  ·rw[d k oO,cG]
 rw[<-nD]at f;have t:=N8 d j;rw[uT (L:=v+L) t oO _ c.x0,DF]at f;have g:e.2≠0:=c.x0 e oS;have u:tO (conv (lam (s++a)) b) (v+L) (L+v) (s++a)=0:=uK λx g=>by
  rw[po d j (w5 _),l,yd g (c.rest.x0 x g),cG]
 rw[u,bB,po d j (w5 _),l,r7]at f;have w:=c.w0 e oS;rcases Bu f with m|m
 ·exact absurd m (k8 w (jB g _))
 ·rcases Bu m with n|n
  ·exact absurd n c.Fs
  ·exact n
theorem SF {E:List (K×K)} (g:l8 E) {f:Nat->K} {L N:Nat} (j:dI (L+1) f) (w:f 0=1) (n:∀k,L<=k->k<N->conv f (fB E) k=0) (o:L<=E.length) (p:2* E.length<=N):
 L=E.length/\∀c,f c=lam E c:=by
 have q:=P1 g j n o p;have y:dI (E.length+1) (λc=>f c-lam E c):=λc r=>by
  show f c-lam E c=0;rw[j c oO,kW E c r,du]
 have m:∀c,f c=lam E c:=λc=>by
  have:=xu y (0::E.map λe=>eP e.2) (by
   rw[List.nodup_cons];refine⟨λh=>?_,?_⟩
   ·obtain⟨e,i,s⟩:=List.mem_map.1 h;exact xc (g.x0 e i) s
   ·have t:E.map (λe=>eP e.2)=(E.map (·.2)).map eP:=by rw[List.map_map];rfl
    rw[t];refine ni (λa u b hb h=>?_) g.nd;obtain⟨e,i,rfl⟩:=List.mem_map.1 u;obtain⟨d,v,rfl⟩:=List.mem_map.1 hb
    exact Oc (g.x0 e i) (g.x0 d v) h) oS (λx l=>by
   rw[AE];rcases List.mem_cons.1 l with rfl|l
   ·rw[dG,dG,cG,cG,w,FT,du]
   ·obtain⟨e,i,rfl⟩:=List.mem_map.1 l
    rw[ig j oO,q e i,yd i (g.x0 e i),du]) c
  exact jg.1 this
 refine⟨?_,m⟩;rcases z6 L E.length with h|h
 ·exact absurd ((m E.length).symm.trans (j _ oO)) (AM g.x0)
 ·omega
theorem DP (w X:K) (n:Nat):conv (km X) (λa=>w* X^a) n=ju w n:=by
 cases n with
 |zero=>show(1:K)* (w* 1)=w;rw[eY,fT]
 |succ n=>
  rw[OC];show w* (X^n* X)-X* (w* X^n)=0;rw[show w* (X^n* X)=X* (w* X^n)from by ac_rfl,du]
theorem zg {s t:List (K×K)} {e:K×K} (h:l8 (s++e::t)) {N:Nat} (j:(s++e::t).length<=N):
 cE (eP e.2) (conv (lam (s++e::t)) (fB (s++e::t))) N=e.1* l7 (eP e.2) ((s++t).map (·.2)):=by
 have d:e.2≠0:=h.x0 e oS;have m:(s++e::t).length=(s++t).length+1:=by simp;omega
 have f:∀n,lam (s++e::t) n=conv (km e.2) (lam (s++t)) n:=λn=>by
  unfold lam;rw[A1,HA,wE,A1]
 have key:∀n,conv (lam (s++e::t)) (fB (s++e::t)) n=e.1* lam (s++t) n+conv (km e.2) (conv (lam (s++t)) (fB (s++t))) n:=λn=>by
  rw[e8 (a:=lam (s++e::t)) (a':=conv (km e.2) (lam (s++t))) (b:=fB (s++e::t)) (b':=λa=>e.1* e.2^a+fB (s++t) a) (λk _=>f k) (λk _=>FW e s t k),sC];congr 1
  ·rw[nD,uB];rw[e8 (a:=lam (s++t)) (a':=lam (s++t)) (b:=conv (km e.2) λk=>e.1* e.2^k) (b':=ju e.1) (λ_ _=>rfl) (λk _=>DP e.1 e.2 k),jb,oh]
  ·rw[nD]
 rw[iA λb _=>key b,qe,tt];have c:dI (s++t).length (conv (lam (s++t)) (fB (s++t))):=λa g=>I3 h.rest.x0 g;have i:cE (eP e.2) (conv (km e.2) (conv (lam (s++t)) (fB (s++t)))) N=0:=by
  rw[(ig (n:=N) (m:=1+(s++t).length+1+N) (λb l=>(oG e.2).conv c b oO) oO).symm,
   po (oG e.2) (c.mono (Nat.le_succ _)) oO,AX,ie d,du,cG]
 rw[i,bB,ig (kW (s++t)) oO,r7]
theorem Q6 (X:K) (n:Nat):lJ (km X) n=ju (-X) n:=by
 unfold lJ km ju;cases n with
 |zero=>exact cH _
 |succ n=>rw[w6 oO,w6 oO,w6 oO];exact yb _
theorem Iy {f:Nat->K} {d:Nat} (h:dI (d+1) f):dI d (lJ f):=λa b=>by
 show jt (a+1) (f (a+1))=0;rw[h (a+1) oO,yb]
theorem EV {s a:List (K×K)} {e:K×K} (h:l8 (s++e::a)) {N:Nat} (j:(s++e::a).length<=N):
 cE (eP e.2) (lJ (lam (s++e::a))) N=-(e.2* l7 (eP e.2) ((s++a).map (·.2))):=by
 have c:e.2≠0:=h.x0 e oS;have g:(s++e::a).length=(s++a).length+1:=by simp;omega
 have d:lam (s++e::a)=conv (km e.2) (lam (s++a)):=by
  funext n;unfold lam;rw[A1,HA,wE,A1]
 have i:dI ((s++a).length+1) (lJ (lam (s++e::a))):=Iy (by have:=kW (s++e::a);rw[g]at this;exact this);have f:dI ((s++a).length+1) (lJ (lam (s++a))):=(Iy (kW (s++a))).mono (Nat.le_succ _);rw[<-ig (m:=N+((s++a).length+3)) (i.mono oO) oO,d];rw[iA λb _=>M1 (km e.2) (lam (s++a)) b,qe];rw[po (oG e.2) f oO,AX,ie c,du,cG,bB];rw[iA λb _=>e8 (a:=lJ (km e.2)) (a':=ju (-e.2)) (b:=lam (s++a)) (b':=lam (s++a)) (λk _=>Q6 e.2 k) (λ_ _=>rfl)];rw[iA λb _=>oh (-e.2) (lam (s++a)) b,tt,ig (kW (s++a)) oO,r7,oI]
end
noncomputable def dk (s p a:Nat):Nat:=aM s p (aV s p) (a%(s-1))
def lj (s p x:Nat) (w:List Nat):Nat->Nat
 |0=>0
 |k+1=>bU s p (aA s p (lj s p x w k) x) (w.getD k 0)
noncomputable def iK (s p first:Nat) (w:List Nat) (a:Nat):Nat:=lj s p (dk s p (first+a)) w w.length
def cf (w v:List Nat):List Nat:=(y3 w.length).filter λa=>decide (w.getD a 0≠v.getD a 0)
structure Fix (s p par first:Nat) (w v:List Nat):Prop where
 lt:ak s v
 ln:v.length=w.length
 cw:∀a,a<par->iK s p first v a=0
 df:2* (cf w v).length<=par
section
variable {c s p : Nat} (h : VF c s p)
include h
theorem fj (a:Nat):dk s p a<s:=lY h _
theorem uG {x:Nat} {w:List Nat} (a:ak s w) (k:Nat):lj s p x w k<s:=by
 cases k with
 |zero=>have:=h.aO;show 0<s;omega
 |succ k=>exact lR h _ _ (bk h _ _) (a k)
theorem AO {first:Nat} {w:List Nat} (b:ak s w) (a:Nat):iK s p first w a<s:=uG h b _
theorem pe {a:Nat} (b:a<s):aR h a=0↔a=0:=by
 constructor
 ·intro e;rw[<-bS h]at e;exact ik h b (by have:=h.aO;omega) e
 ·rintro rfl;exact bS h
theorem Q3:jx (KF h)=s:=lW h
noncomputable def alpha:KF h:=aR h (aV s p)
theorem wi {a:Nat} (b:a<s):∀n,aR h (aM s p a n)=aR h a^n
 |0=>lf h
 |n+1=>by
  show aR h (aA s p (aM s p a n) a)=aR h a^n* aR h a;rw[gd h (mC h a n) b,wi b n]
theorem pj:dM (alpha h) (s-1):=by
 have hg:=jV h;have a:=(qC h (⟨aV s p,hg.2.1⟩:El s) (s-1)).1 hg.2.2.1;unfold alpha;rw[jQ h hg.2.1];exact a
theorem yn:alpha h≠0:=(pj h).ne
theorem kZ (a:Nat):aR h (dk s p a)=alpha h^a:=by
 unfold dk alpha;rw[wi h (jV h).2.1];exact(yy (pj h).2.1 a).symm
theorem H6 {x:Nat} (d:x<s) {w:List Nat} (b:ak s w):∀k,aR h (lj s p x w k)=dX (λa=>co h w a* aR h x^(k-1-a)) k
 |0=>bS h
 |k+1=>by
  show aR h (bU s p (aA s p (lj s p x w k) x) (w.getD k 0))=dX (λa=>co h w a* aR h x^(k+1-1-a)) k+co h w k* aR h x^(k+1-1-k);rw[qd h (bk h _ _) (b k),gd h (uG h b k) d,H6 d b k,show k+1-1-k=0 from by omega,ko,fT];congr 1;rw[cC,<-BX];apply jI;intro a e;rw[show k+1-1-a=(k-1-a)+1 from by omega,eW]
  ac_rfl
noncomputable def loc (n a:Nat):KF h:=alpha h^(n-1-a)
theorem mi (n a:Nat):loc h n a≠0:=jB (yn h) _
theorem IJ {n a b:Nat} (hn:n<=s-1) (d:a<n) (f:b<n) (e:loc h n a=loc h n b):a=b:=by
 have:=(pj h).inj oO oO e;omega
theorem Ex {first:Nat} {w:List Nat} (d:ak s w) (b:Nat):aR h (iK s p first w b)=dX (λa=>co h w a* loc h w.length a^first* loc h w.length a^b) w.length:=by
 unfold iK;rw[H6 h (fj h _) d];apply jI;intro a e;rw[kZ,<-gA];unfold loc;rw[<-gA,<-gA,cJ,<-iO,<-Nat.mul_add,Nat.mul_comm]
theorem G2 (a b:List (KF h×KF h)) (d:Nat):fB (a++b) d=fB a d+fB b d:=by
 induction a with
 |nil=>exact(cH _).symm
 |cons e f g=>show _+fB (f++b) d=_+fB f d+fB b d;rw[g,iu]
noncomputable def iC (n first:Nat) (f:Nat->KF h) (m:Nat):List (KF h×KF h):=((y3 m).filter λa=>decide (f a≠0)).map λa=>(f a* loc h n a^first,loc h n a)
theorem BA (n first:Nat) (f:Nat->KF h) (b:Nat):∀m,fB (iC h n first f m) b=dX (λa=>f a* loc h n a^first* loc h n a^b) m
 |0=>rfl
 |m+1=>by
  unfold iC;rw[List.range_succ,List.filter_append,A1,G2];show fB (iC h n first f m) b+_=dX _ m+_;rw[BA n first f b m];congr 1;show _=f m* loc h n m^first* loc h n m^b
  by_cases d:f m=0
  ·have:List.filter (λa=>decide (f a≠0)) [m]=[]:=by simp[d]
   rw[this,d,cG,cG];rfl
  ·have:List.filter (λa=>decide (f a≠0)) [m]=[m]:=by simp[d]
   rw[this];show f m* loc h n m^first* loc h n m^b+0=_
   rw[bB]
theorem pn {n first:Nat} (hn:n<=s-1) (f:Nat->KF h):l8 (iC h n first f n):=by
 refine⟨λe g=>?_,λe g=>?_,?_⟩
 ·obtain⟨d,i,rfl⟩:=List.mem_map.1 g;rw[U1]at i;exact k8 (by simpa using i.2) (jB (mi h n d) _)
 ·obtain⟨d,i,rfl⟩:=List.mem_map.1 g;exact mi h n d
 ·unfold iC;rw[List.map_map];refine ni (λa j b hb e=>?_) (List.nodup_range.filter _);rw[U1,zy]at j hb;exact IJ h hn j.1 hb.1 e
theorem mr (n first:Nat) (f:Nat->KF h) (m:Nat):(iC h n first f m).length=((y3 m).filter λa=>decide (f a≠0)).length:=by unfold iC;rw[HO]
noncomputable def err (w v:List Nat) (a:Nat):KF h:=co h w a-co h v a
theorem EY {w v:List Nat} (b:ak s w) (d:ak s v) (a:Nat):err h w v a≠0↔w.getD a 0≠v.getD a 0:=by
 constructor
 ·intro e e2;apply e;unfold err co;rw[e2,du]
 ·intro e e2;apply e;exact ik h (b a) (d a) (jg.1 e2)
theorem lN {w v:List Nat} (b:ak s w) (d:ak s v):((y3 w.length).filter λa=>decide (err h w v a≠0))=cf w v:=by
 unfold cf;apply WU;intro a _;exact decide_eq_decide.2 (EY h b d a)
theorem tR {f first:Nat} {w v:List Nat} (g:ak s w) (d:Fix s p f first w v) {b:Nat} (i:b<f):
 aR h (iK s p first w b)=fB (iC h w.length first (err h w v) w.length) b:=by
 rw[BA,Ex h g];have e:aR h (iK s p first v b)=0:=by rw[d.cw b i,bS]
 rw[Ex h d.lt,d.ln]at e;have j:dX (λa=>err h w v a* loc h w.length a^first* loc h w.length a^b) w.length+dX (λa=>co h v a* loc h w.length a^first* loc h w.length a^b) w.length=dX (λa=>co h w a* loc h w.length a^first* loc h w.length a^b) w.length:=by
  rw[<-Of];apply jI;intro a k;unfold err;rw[cJ,cJ,cJ,<-j5,rq]
 rw[<-j,e,bB]
theorem xT {n a:Nat} (hn:n<=s-1) (b:a<n):aR h (dk s p (s-1-(n-1-a)))=eP (loc h n a):=by
 rw[kZ];apply gP (mi h n a);rw[Eb (mi h n a)];unfold loc;rw[<-iO,show s-1-(n-1-a)+(n-1-a)=s-1 from by omega];exact(pj h).2.1
structure jZ (S:Nat->KF h) (N:Nat) (q:Nat->KF h) (L:Nat):Prop where
 c0:q 0=1
 cs:dI (L+1) q
 gen:∀a,L<=a->a<N->conv q S a=0
 mn:∀E:List (KF h×KF h),l8 E->(∀a,a<N->S a=fB E a)->L<=E.length
theorem jZ.end {S:Nat->KF h} {N:Nat} {q:Nat->KF h} {L:Nat} (hl:jZ h S N q L) {E:List (KF h×KF h)} (d:l8 E) (e:∀a,a<N->S a=fB E a) (f:2* E.length<=N):L=E.length/\∀b,q b=lam E b:=
 SF d hl.cs hl.c0 (λa g i=>by rw[<-hl.gen a g i];exact e8 (λ_ _=>rfl) λk j=>(e k oO).symm) (hl.mn E d e) f
structure qW (S:Nat->KF h) (N n:Nat) (C B:Nat->KF h) (L m:Nat) (b:KF h):Prop where
 kl:pB S n C B L m b
 mn:∀E:List (KF h×KF h),l8 E->(∀a,a<N->S a=fB E a)->L<=E.length
theorem qW.start (S:Nat->KF h) (N:Nat):qW h S N 0 (ju 1) (ju 1) 0 1 1:=⟨pB.start S,λ_ _ _=>Nat.zero_le _⟩
theorem qW.skip {S a B:Nat->KF h} {N n L m:Nat} {b:KF h} (hb:qW h S N n a B L m b) (d:conv a S n=0):qW h S N (n+1) a B L (m+1) b:=⟨hb.kl.skip d,hb.mn⟩
theorem qW.grow {S a B:Nat->KF h} {N n L m:Nat} {b g:KF h} (hb:qW h S N n a B L m b) (hn:n<N) (i:conv a S n≠0) (l:g* b=conv a S n) (d:2* L<=n):qW h S N (n+1) (sQ a B m g) a (n+1-L) 1 (conv a S n):=by
 refine⟨hb.kl.grow i l d,λE o q=>?_⟩;have e:∀k,k<=n->conv a S k=conv a (fB E) k:=λk u=>e8 (λ_ _=>rfl) λj v=>q j oO
 have:=RW (S:=fB E) hb.kl.cs (kW E) (FT E) (λf r d=>(e f (Nat.le_of_lt d)).symm.trans (hb.kl.gen f r d)) (λf t=>I3 o.x0 t) (by rw[<-e n (w5 _)];exact i);omega
theorem qW.stay {S a B:Nat->KF h} {N n L m:Nat} {b d:KF h} (hb:qW h S N n a B L m b) (e:d* b=conv a S n) (f:n<2* L):qW h S N (n+1) (sQ a B m d) B L (m+1) b:=⟨hb.kl.stay e f,hb.mn⟩
theorem qW.Rn {S a B:Nat->KF h} {N L m:Nat} {b:KF h} (hb:qW h S N N a B L m b):jZ h S N a L:=⟨hb.kl.c0,hb.kl.cs,hb.kl.gen,hb.mn⟩
noncomputable def gZ (s p n a:Nat):Nat:=dk s p (s-1-(n-1-a))
noncomputable def eB (s p n:Nat) (q:List Nat):List Nat:=(y3 n).filter λa=>cP s p (gZ s p n a) q==0
theorem FJ {r first:Nat} {w v:List Nat} (i:ak s w) (hn:w.length<=s-1) (j:Fix s p r first w v) {q:List Nat} (hq:ak s q) (t:q.length=(cf w v).length+1)
 (u:∀a,co h q a=lam (iC h w.length first (err h w v) w.length) a):eB s p w.length q=cf w v:=by
 have y:=pn h hn (first:=first) (err h w v);have x:(iC h w.length first (err h w v) w.length).length=(cf w v).length:=by rw[mr,lN h i j.lt]
 unfold eB cf;apply WU;intro a b;rw[zy]at b;have e1:aR h (cP s p (gZ s p w.length a) q)=l7 (eP (loc h w.length a)) ((iC h w.length first (err h w v) w.length).map (·.2)):=by
  rw[sR h (show gZ s p w.length a<s from fj h _) q (fh hq),show aR h (gZ s p w.length a)=_ from xT h hn b,iA λa _=>u a,t,<-x,r7]
 have hb:cP s p (gZ s p w.length a) q<s:=jl h _ q (fh hq);rw[Bool.eq_iff_iff,beq_iff_eq,decide_eq_true_eq,<-pe h hb,e1,<-EY h i j.lt];constructor
 ·intro f l;refine EP (λX m e=>?_) f;obtain⟨d,n,rfl⟩:=List.mem_map.1 m;obtain⟨k,g,rfl⟩:=List.mem_map.1 n;rw[U1,zy]at g;have e2:loc h w.length k=loc h w.length a:=gP (xc (mi h _ a)) (e.trans (ie (mi h _ a)).symm);have:=IJ h hn g.1 b e2;subst this;have o:err h w v k≠0:=by simpa using g.2
  exact o l
 ·intro f;refine xS (X:=loc h w.length a) ?_ (ie (mi h _ a));refine List.mem_map.2 ⟨(err h w v a* loc h w.length a^first,loc h w.length a),?_,rfl⟩;exact List.mem_map.2 ⟨a,by rw[U1,zy];exact⟨b,by simpa using f⟩,rfl⟩
end
noncomputable def bO (s p a first:Nat) (w:List Nat):List Nat:=(y3 a).map (iK s p first w)
noncomputable def lu (s p first n:Nat) (sl:List Nat) (a:Nat):Nat:=aA s p (dk s p ((n-1-a)* (first+s-2))) (cP s p (gZ s p n a) sl)
noncomputable def js (s p first n:Nat) (ev sl:List Nat) (a:Nat):Nat:=aA s p (cP s p (gZ s p n a) ev) (bW s p (lu s p first n sl a))
def ka (s p:Nat) (w b:List Nat) (f:Nat->Nat):List Nat:=(y3 w.length).map λa=>if a∈b then bU s p (w.getD a 0) (f a)else w.getD a 0
structure Rm {c s p:Nat} (h:VF c s p) (par:Nat) (b q ev sl:List Nat):Prop where
 e1:ak s ev
 e2:ev.length=par
 e3:∀a,a<par->co h ev a=conv (co h q) (co h b) a
 s1:ak s sl
 s2:sl.length=q.length-1
 s3:∀a,co h sl a=lJ (co h q) a
noncomputable def uN (s p d first:Nat) (w q ev sl:List Nat):Option (List Nat):=@ite _ (2* (q.length-1)<=d/\(eB s p w.length q).length=q.length-1/\(∀a,a∈eB s p w.length q->lu s p first w.length sl a≠0)/\∀b,b<d->iK s p first (ka s p w (eB s p w.length q) (js s p first w.length ev sl)) b=0) (UD _)
 (gk (ka s p w (eB s p w.length q) (js s p first w.length ev sl))) U
theorem gu (s p:Nat) (w a:List Nat) (f:Nat->Nat):(ka s p w a f).length=w.length:=by unfold ka;simp
theorem mX {s p:Nat} {w b:List Nat} {f:Nat->Nat} {a:Nat} (d:a<w.length):(ka s p w b f).getD a 0=if a∈b then bU s p (w.getD a 0) (f a)else w.getD a 0:=by
 unfold ka;exact bC _ _ _ d
theorem tN {w v:List Nat} {a:Nat}:a∈cf w v↔a<w.length/\w.getD a 0≠v.getD a 0:=by
 unfold cf;rw[U1,zy,decide_eq_true_eq]
theorem dC {a b:List Nat} (hl:a.length=b.length) (e:∀d,d<a.length->a.getD d 0=b.getD d 0):a=b:=by
 apply List.ext_getElem hl;intro d f g;have:=e d f;simpa[List.getD,f,g]using this
section
variable {c s p : Nat} (h : VF c s p)
include h
theorem sj {par first:Nat} {w:List Nat} (b:ak s w):ak s (bO s p par first w):=iY h λa _=>AO h b a
theorem xa {b first:Nat} {w:List Nat} {a:Nat} (d:a<b):co h (bO s p b first w) a=aR h (iK s p first w a):=by
 unfold bO;rw[yN,xl d]
theorem Ql {w d:List Nat} {f:Nat->Nat} (b:ak s w) (e:∀a,f a<s):ak s (ka s p w d f):=iY h λa _=>by
 split
 ·exact lR h _ _ (b a) (e a)
 ·exact b a
theorem Bo {first n:Nat} {ev sl:List Nat} (a:Nat):js s p first n ev sl a<s:=bk h _ _
theorem Rt (x:KF h):x^(s-2)=eP x:=by unfold eP;rw[Q3 h]
theorem Lu {m first:Nat} {w v q ev sl:List Nat} (j:ak s w) (hn:w.length<=s-1) (l:Fix s p m first w v) (g:Rm h m (bO s p m first w) q ev sl)
 (F:q.length=(cf w v).length+1) (y:∀d,co h q d=lam (iC h w.length first (err h w v) w.length) d) {d:Nat} (C:d∈cf w v):
 lu s p first w.length sl d≠0/\bU s p (w.getD d 0) (js s p first w.length ev sl d)=v.getD d 0:=by
 have T:=h.aO;have i:=pn h hn (first:=first) (err h w v);have n:(iC h w.length first (err h w v) w.length).length=(cf w v).length:=by rw[mr,lN h j l.lt]
 obtain⟨z,G⟩:=tN.1 C;have x:=mi h w.length d;have M:(err h w v d* loc h w.length d^first,loc h w.length d)∈iC h w.length first (err h w v) w.length:=by
  refine List.mem_map.2 ⟨d,?_,rfl⟩;rw[U1,zy];exact⟨z,by simpa using(EY h j l.lt d).2 G⟩
 obtain⟨a,b,t⟩:=V5 M;obtain⟨Q,o⟩:∃Q,Q=l7 (eP (loc h w.length d)) ((a++b).map (·.2)):=⟨_,rfl⟩;have H:Q≠0:=by rw[o];rw[t]at i;exact i.Fs
 have B:aR h (gZ s p w.length d)=eP (loc h w.length d):=xT h hn z;have N:aR h (cP s p (gZ s p w.length d) ev)=err h w v d* loc h w.length d^first* Q:=by
  rw[sR h (show gZ s p w.length d<s from fj h _) ev (fh g.e1),B,g.e2];have e1:∀f,f<m->co h ev f=conv (lam (iC h w.length first (err h w v) w.length)) (fB (iC h w.length first (err h w v) w.length)) f:=λf D=>by
   rw[g.e3 f D];exact e8 (λk _=>y k) λk V=>by rw[xa h oO,tR h j l oO]
  rw[iA e1];rw[t]at i n⊢;rw[zg i (by rw[n];have:=l.df;omega),o]
 have S:aR h (cP s p (gZ s p w.length d) sl)=-(loc h w.length d* Q):=by
  rw[sR h (show gZ s p w.length d<s from fj h _) sl (fh g.s1),B];have e1:∀f,co h sl f=lJ (lam (iC h w.length first (err h w v) w.length)) f:=λf=>by
   rw[g.s3 f];show jt _ _=jt _ _;rw[y]
  rw[iA λf _=>e1 f];rw[t]at i n⊢;rw[EV i (by rw[g.s2,F,n];omega),o]
 have O:aR h (dk s p ((w.length-1-d)* (first+s-2)))=loc h w.length d^first* eP (loc h w.length d):=by
  rw[kZ,gA,show first+s-2=first+(s-2)from by omega,iO,Rt];rfl
 have K:cP s p (gZ s p w.length d) sl<s:=jl h _ sl (fh g.s1);have u:aR h (lu s p first w.length sl d)=-(loc h w.length d^first* Q):=by
  unfold lu;rw[gd h (fj h _) K,O,S,sV];congr 1;rw[show loc h w.length d^first* eP (loc h w.length d)* (loc h w.length d* Q)=(loc h w.length d* eP (loc h w.length d))* (loc h w.length d^first* Q)from by ac_rfl,ie x,eY]
 have L:lu s p first w.length sl d<s:=bk h _ _
 have A:lu s p first w.length sl d≠0:=λe=>by
  rw[e,bS]at u;have:loc h w.length d^first* Q=0:=by rw[<-oa (loc h w.length d^first* Q),<-u,uU]
  exact k8 (jB x _) H this
 refine⟨A,?_⟩;have P:aR h (js s p first w.length ev sl d)=-err h w v d:=by
  unfold js;rw[gd h (jl h _ ev (fh g.e1)) (gM h),N];have r:=wJ h L A;rw[u]at r;rw[cJ,cJ,<-cJ (loc h w.length d^first)];rw[oI]at r;have E:loc h w.length d^first* Q* aR h (bW s p (lu s p first w.length sl d))=-1:=by rw[<-r,oa]
  rw[E,sV,fT]
 refine ik h (lR h _ _ (j d) (Bo h d)) (l.lt d) ?_;rw[qd h (j d) (Bo h d),P];show co h w d+-(co h w d-co h v d)=co h v d;rw[gJ,mH,oa,<-iu,oz,cH]
theorem Oa {d first:Nat} {w v q ev sl:List Nat} {L:Nat} (f:ak s w) (hn:w.length<=s-1) (a:Fix s p d first w v) (hq:ak s q) (t:dm q)
 (u:jZ h (co h (bO s p d first w)) d (co h q) L) (o:Rm h d (bO s p d first w) q ev sl):uN s p d first w q ev sl=gk v:=by
 have m:=pn h hn (first:=first) (err h w v);have r:(iC h w.length first (err h w v) w.length).length=(cf w v).length:=by rw[mr,lN h f a.lt]
 have x:=a.df;obtain⟨A,g⟩:=u.end h m (λz n=>by rw[xa h n,tR h f a n]) (by rw[r];exact x);have k:q.length=(cf w v).length+1:=by
  rw[<-r];refine ux h hq t (λi b=>by rw[g];exact kW _ i b) ?_;rw[g];exact AM m.x0
 have l:=FJ h f hn a hq k g;have y:ka s p w (eB s p w.length q) (js s p first w.length ev sl)=v:=by
  refine dC (by rw[gu,a.ln]) λi b=>?_;rw[gu]at b;rw[mX b,l];by_cases j:i∈cf w v
  ·rw[xl j];exact(Lu h f hn a o k g j).2
  ·rw[w6 j];apply Lo;intro e;exact j (tN.2 ⟨b,e⟩)
 unfold uN;rw[y,xl];refine⟨by omega,by rw[l];omega,λi b=>?_,a.cw⟩;rw[l]at b;exact(Lu h f hn a o k g b).1
theorem Jy {d first:Nat} {w v q ev sl:List Nat} (e:ak s w) (a:uN s p d first w q ev sl=gk v):Fix s p d first w v:=by
 unfold uN at a;split at a
 ·rename_i hc
  obtain⟨l,m,n,f⟩:=hc;injection a with a;subst a;refine⟨Ql h e (Bo h),gu _ _ _ _ _,f,?_⟩;have:(cf w (ka s p w (eB s p w.length q) (js s p first w.length ev sl))).length<=(eB s p w.length q).length:=by
   refine length_le_of_subset (List.nodup_range.filter _) λk g=>?_;obtain⟨i,b⟩:=tN.1 g;apply Lo;intro j;rw[mX i,w6 j]at b;exact b rfl
  omega
 ·cases a
noncomputable def yp (s p a first:Nat) (w:List Nat):Option (List Nat):=@dite _ (∃v,Fix s p a first w v) (UD _) (λh=>gk (Classical.choose h)) (λ_=>U)
end
end
end Go.Proofs.YtmnlkganmgcpbaaGreatDoor
