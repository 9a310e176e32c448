import Derived.Test.YtmnlkganmgcpbaaGreatDoorQk12
import Derived.Test.YtmnlkganmgcpbaaGreatDoorQk6
set_option maxRecDepth 100000
set_option maxHeartbeats 4000000
set_option linter.unusedVariables false
set_option linter.unusedSectionVars false
set_option linter.unusedSimpArgs false
namespace Go.Proofs.YtmnlkganmgcpbaaGreatDoor
section
open Go.RowKit
theorem RD.Nn {w:World} {A:Option Addr} {l:List Nat} (h:RG vN 0 w A l):RD w A (zl l):=λhn=>by
 rw[aw]at hn;obtain⟨b,e,hl,hc⟩:=h hn;exact⟨b,e,hl,λj a=>by rw[aw]at a;rw[hc j a,cT]⟩
theorem RD.Nl {w:World} {A:Option Addr} {l:List Nat} (h:RD w A (zl l)):RG vN 0 w A l:=λhn=>by
 obtain⟨a,e,hl,hc⟩:=h (by rw[aw];exact hn);exact⟨a,e,hl,λj b=>by rw[hc j (by rw[aw];exact b),cT]⟩
theorem aA.AK {w:World} {v:Value} {l:List Nat} (h:SG vN 0 w v l):aA w v (zl l):=by
 obtain⟨A,c,rfl,a,b,d⟩:=h;exact⟨A,c,by rw[aw],by rw[aw];exact a,b,RD.Nn d⟩
theorem aA.Ny {w:World} {v:Value} {l:List Nat} (h:aA w v (zl l)):SG vN 0 w v l:=by
 obtain⟨A,c,rfl,a,b,d⟩:=h;rw[aw]at a;exact⟨A,c,by rw[aw],a,b,RD.Nl d⟩
def lL (s p c:Nat) (l:List Nat) (k:Nat):List Nat:=(List.range k).map λi=>aG s p ((i+1)%c) (l.getD (i+1) 0)
theorem q6 (s p c:Nat) (l:List Nat) (k:Nat):(lL s p c l k).length=k:=by unfold lL;simp
theorem VF.yu {c s p:Nat} (h:VF c s p):2<=c/\c<=s:=by
 have b:=h.aP;rcases h with⟨-,a,-⟩|⟨d,a,-,-,e,f,-⟩<;>omega
theorem F4 (C S P a bl:Nat) (l:List Nat) (A:Option Addr) (n U:Nat) (w:World) (o:VF C S P) (hl:ao S l) (hn:n=l.length) (a6:n<=8193) (a7:1<=n) (z:dh w S P a bl) (B:RD w A (zl l)):
 Calls Tryz.prog 203 #[fs C S a bl,.slice A n U] w λe w'=>∃v,e= .returned v/\(aA w' v (zl (lL S P C l (n-1)))/\Below w.heap.size w w')/\wT w v:=by
 obtain⟨V,X,ap,av,a0⟩:=info_parts dg;obtain⟨a8,a9⟩:=o.yu;have hs:=o.le;have Y:=Lib.hid o;have Z:=Lib.hid hl;have D:=Lib.hid hn;have u:Hid (Below w.heap.size w (w.alloc (dV C S a bl))):=ax _ _;have E:=Lib.hid (B.alloc (dV C S a bl));have F:=Lib.hid (z.alloc (dV C S a bl));have q:Hid (ak (w.alloc (dV C S a bl)) w.heap.size (gV C S a bl)):=ak.new _ _ _ _ rfl;obtain⟨m,rfl⟩:∃m,n=m+1:=⟨n-1,by omega⟩;rw[Nat.add_sub_cancel];clear o hl hn B z;go_enter Tryz.func203,Tryz.ntmps203;go_wp2;obtain⟨j,J⟩:∃j,j=w.alloc (dV C S a bl):=⟨_,rfl⟩;rw[<-J]at E F q u⊢;obtain⟨i,K⟩:∃i,i=w.heap.size:=⟨_,rfl⟩;rw[<-K]at q⊢;have L:Hid (w.heap.size<=j.heap.size):=u.out.size;clear J K;go_loopw [5,6] (λab s wr=>∃k:Nat,1<=k/\k<=m+1/\s= .int .i64 (k:Int)/\Hid (OG vN 3 j wr ab (lL S P C l (k-1)))) (λ_ s _=>m+1-(intOf s).toNat)
 case atStart=>exact⟨1,Nat.le_refl _,by omega,rfl,OG.start _ _⟩
 case round=>
  obtain⟨k,bb,a3,rfl,b⟩:=hrel;by_cases bd:k<m+1
  ·obtain⟨G,rfl,Q,M⟩:=(E.out.below b.out.B) (by rw[aw,<-D.out];omega);have t:=M k (by rw[aw,<-D.out];omega);rw[cT]at t;have ac:Hid (l.getD k 0<S):=Z.out _;have a1:Hid (lL S P C l k=lL S P C l (k-1)++[aG S P (k%C) (l.getD k 0)]):=by
    show _=_;unfold lL;rw[show List.range k=List.range (k-1+1)from by rw[show k-1+1=k from by omega],List.range_succ,List.map_append];simp only[List.map_cons,List.map_nil];rw[show k-1+1=k from by omega]
   have N:Hid ((lL S P C l (k-1)).length=k-1):=q6 _ _ _ _ _;have bo:(k:Int).tmod (C:Int)=((k%C:Nat):Int):=(Int.ofNat_tmod _ _).symm;have ad:Hid (k%C<S):=by
    have:=Nat.mod_lt k (show 0<C by omega);show _<_;omega
   generalize l.getD k 0=x at*;generalize k%C=r at*;have H:Hid (∀W,af wr W->(W.cell? ⟨i,0,none⟩=some (.int .i64 C)/\W.cell? ⟨i,1,none⟩=some (.int .i64 S)/\W.cell? ⟨i,2,none⟩=some (.slice (some ⟨a,0,none⟩) (S-1) (S-1))/\W.cell? ⟨i,3,none⟩=some (.slice (some ⟨bl,0,none⟩) S S))/\W.cell? (G.add k)=some (.int .i64 (x:Int))):=by
    show∀W,_;intro W p;exact⟨dQ (q.out.below (ae b.out.B p)),(p.cell (by rw[aJ];exact Q)).trans t⟩
   clear t M Q;have be:¬(C=0):=oO;have bf:(k:Int)<(m:Int)+1:=oO;go_wp2;refine' Bv (S:=af wr) 11 oK oK rfl (λ_ _ _ h=>h) (λW=>?_) (ai (Below.refl _ _)) ?_;rotate_left
   ·go_simp;rfl
   simp only[List.take_succ_cons,List.take_zero,List.drop_succ_cons,List.drop_zero,Nat.reduceSub,Act.put,List.setIfInBounds_toArray,List.set_cons_zero,List.set_cons_succ]
   repeat refine kO H.out ?_
   refine kX (λW p=>k6 C S P a bl r x W Y.out ad.out ac.out ((F.out.below b.out.B).below p)) ?_
   repeat refine kO H.out ?_
   refine dc ?_;intro al O;have y:=Lib.hid O;clear O;go_wp2_with(at_builtin;refine aV (f:=vN) (d:=0) wj rfl _ _ _ rfl j.heap.size 3 V _ 8 Tryz.underlying64 X ap av a0 rfl _ _ (lL S P C l (k-1)) rfl ((au b.out.O y.out).alloc _) (some ⟨al.heap.size,0,none⟩) 1 1 [aG S P r x] rfl rfl (RG.one _ _ _ _ rfl) (by unfold maxLen;have:=N.out;omega) (by have:=N.out;omega) (by have:=b.out.B.size;have:=y.out.size;simp;omega) ?_;intro a4 a5 T hg;have am:=Lib.hid (b.out.grow (ah y.out _) T hg);clear T hg)
   exact⟨⟨k+1,by omega,by omega,by go_num,by rw[Nat.add_sub_cancel,a1.out];exact am.out⟩,by simp[intOf];omega⟩
  ·obtain rfl:k=m+1:=oO;go_wp2;go_ret;rw[Nat.add_sub_cancel]at b;refine⟨_,rfl,⟨aA.AK b.out.sg,u.out.trans (b.out.B.mono L.out)⟩,λG n c e=>?_⟩;rcases b.out.O.2 with⟨e6,-⟩|⟨g,cap,bi,e6,a2,-⟩
   ·rw[e6]at e;injection e with e7;cases e7
   ·rw[e6]at e;injection e with e7;injection e7 with e7;rw[<-e7];exact Nat.le_trans L.out a2
def cB (s p:Nat) (a b:List Nat) (n d k:Nat):List Nat:=(List.range (max a.length (b.length+n))).map λj=>if n<=j/\j-n<k then cF s p (a.getD j 0) (aG s p d (b.getD (j-n) 0))else a.getD j 0
theorem mX (s p:Nat) (a b:List Nat) (n d k:Nat):(cB s p a b n d k).length=max a.length (b.length+n):=by unfold cB;simp
theorem Fk (s p:Nat) (a b:List Nat) (n d:Nat):cB s p a b n d 0=a++List.replicate (max a.length (b.length+n)-a.length) 0:=by
 refine cW ?_ λj e=>?_
 ·rw[mX,List.length_append,List.length_replicate];omega
 ·rw[mX]at e;unfold cB;rw[bp _ _ _ e,if_neg oO];simp only[List.getD,List.getElem?_append];split
  ·rfl
  ·rename_i f
   rw[List.getElem?_eq_none oO,List.getElem?_replicate];split<;>rfl
theorem H4 (s p:Nat) (a b:List Nat) (n d:Nat) {k:Nat} (g:k<b.length):
 (cB s p a b n d k).set (k+n) (cF s p ((cB s p a b n d k).getD (k+n) 0) (aG s p d (b.getD k 0)))=cB s p a b n d (k+1):=by
 unfold cB;rw[bp _ _ _ oO,fB _ _ _ _ oO];apply List.map_congr_left;intro j i;by_cases e:j=k+n
 ·subst e;rw[if_pos rfl,if_neg oO,if_pos oO,show k+n-n=k from by omega]
 ·rw[if_neg e];by_cases f:n<=j/\j-n<k
  ·rw[if_pos f,if_pos oO]
  ·rw[if_neg f,if_neg oO]
section
variable {c s p : Nat} (h : VF c s p)
include h
theorem yp {a b:List Nat} (e:ao s a) (hb:ao s b) (n d k:Nat):ao s (cB s p a b n d k):=gR h λj _=>by
 split
 ·exact om h (e j) (bL h _ _)
 ·exact e j
theorem Mh {a b:List Nat} (g:ao s a) (hb:ao s b) {n d:Nat} (i:d<s) (j:Nat):co h (cB s p a b n d b.length) j=qJ (co h a) (co h b) n (aS h d) j:=by
 unfold cB qJ;rw[tH,wV];by_cases f:j<max a.length (b.length+n)
 ·rw[if_pos f];by_cases e:n<=j
  ·rw[if_pos e];by_cases k:j-n<b.length
   ·rw[if_pos ⟨e,k⟩,qK h (g j) (bL h _ _),gf h i (hb _)];rfl
   ·rw[if_neg oO,ft h b (j-n) oO,aT,fC];rfl
  ·rw[if_neg oO,if_neg e,aT,fC];rfl
 ·rw[if_neg f,ft h a j oO];split
  ·rw[ft h b (j-n) oO,aT,fC]
  ·rw[aT,fC]
end
theorem IE:(Tryz.prog.info? 3).map (·.size)=some 1:=oK
theorem GD (l:List Nat):∀v∈(zl l).map (Value.int .i64),v.oneCell'=true:=by
 intro u a;obtain⟨y,_,rfl⟩:=List.mem_map.1 a;rfl
theorem bO.of_heap {W:World} {b:Nat} {l:List Nat} {d:TypeId} (a:W.heap[b]?=some (.cells (dC l) d (0,0))):bO W b l:=by
 refine⟨ar a,λi e=>⟨?_,frozen_of_row _ _ _ _ _ a⟩⟩;rw[cell_of_row _ _ _ _ _ _ a,fj];simp[List.getD,e]
theorem nn (C S P l bl g d:Nat) (a b:List Nat) (A B:Option Addr) (n m T a4:Nat) (w:World) (G:VF C S P) (M:ao S a) (N:ao S b) (a5:d<S) (hn:n=a.length) (t:m=b.length) (b8:1<=n) (b9:n<=4097) (ca:m+g<=4097)
 (U:dh w S P l bl) (H:RD w A (zl a)) (hb:RD w B (zl b)):
 Calls Tryz.prog 198 #[fs C S l bl,.slice A n T,.slice B m a4,.int .i64 g,.int .i64 d] w λe w'=>∃v,e= .returned v/\aA w' v (zl (cB S P a b g d b.length))/\Below w.heap.size w w':=by
 obtain⟨f,V⟩:∃f,f=max n (m+g):=⟨_,rfl⟩;have cb:max (n:Int) ((m:Int)+(g:Int))=(f:Int):=oO;have ce:1<=f:=oO;have ch:f<=4097:=oO;have bf:n<=f:=oO;have ci:m+g<=f:=oO;have ck:=run_make_row' (P:=Tryz.prog) 64 3 (.int .i64 0) 8 Tryz.underlying64 dg rfl .i64 .i64 f oO oO;have J:=Lib.hid G;have co:=Lib.hid M;have bi:=Lib.hid N;have b5:=Lib.hid H;have a6:=Lib.hid hb;have a7:=Lib.hid U;have ad:Hid (max a.length (b.length+g)=f):=by show _=_;rw[V,hn,t]
 have a2:Hid (∀k,(cB S P a b g d k).length=f):=λk=>by rw[mX];exact ad.out
 have b4:Hid (∀k,k<m->(cB S P a b g d k).set (k+g) (cF S P ((cB S P a b g d k).getD (k+g) 0) (aG S P d (b.getD k 0)))=cB S P a b g d (k+1)):=λk X=>H4 S P a b g d (by rw[<-t];exact X);have bo:Hid (∀k,ao S (cB S P a b g d k)):=λk=>yp G M N g d k;have b6:=Lib.hid hn;have K:=Lib.hid t;have q:n=((zl a).map (Value.int .i64)).length:=by rw[List.length_map,aw];exact hn
 have cp:=Lib.hid q;have bz:Hid ((madeCells #[Value.int .i64 0] f)=(List.replicate f (Value.int .i64 0)).toArray):=by
  show _=_;apply Array.ext';rw[toList_madeCells_one]
 have b1:Hid ((splice (List.replicate f (Value.int .i64 0)) 0 ((zl a).map (Value.int .i64))).toArray=dC (cB S P a b g d 0)):=by
  show _=_;rw[Fk,ad.out];unfold dC splice;apply congrArg;rw[List.take_zero,List.nil_append,List.map_append,<-q,<-hn,Nat.zero_add,List.drop_replicate,List.map_replicate];congr 1;unfold zl;rw[List.map_map];rfl
 obtain⟨a8,rfl,a3,al⟩:=H (by rw[aw,<-hn];omega);have O:Below w.heap.size w ((w.alloc (dV C S l bl)).alloc (.cells (madeCells #[Value.int .i64 0] f) 3)):=ah (ax _ _) _;have L:((w.alloc (dV C S l bl)).alloc (.cells (madeCells #[Value.int .i64 0] f) 3)).heap[w.heap.size+1]?=some (.cells (List.replicate f (Value.int .i64 0)).toArray 3 (0,0)):=by
  rw[<-bz.out];have:=heap_alloc_new (w.alloc (dV C S l bl)) (.cells (madeCells #[Value.int .i64 0] f) 3);simpa using this
 have E:=run_copy_row (P:=Tryz.prog) ((w.alloc (dV C S l bl)).alloc (.cells (madeCells #[Value.int .i64 0] f) 3)) 64 64 3 3 (w.heap.size+1) 0 f f a8 n T _ _ ((zl a).map (Value.int .i64)) Tryz.underlying64 IE L (by rw[<-q];exact(Nat.min_eq_left bf).symm) (λj v Y=>by
  rw[List.getElem?_map]at Y;obtain⟨x,Z,rfl⟩:=Option.map_eq_some_iff.1 Y;have bq:=(List.getElem?_eq_some_iff.1 Z).1;rw[O.cell (by rw[aJ];exact a3),al j bq]
  simp[List.getD,Z]) (by rw[<-q];simp;omega) (GD a)
 rw[<-q]at E;have am:(List.take 0 (List.replicate f (Value.int .i64 0)).toArray.toList++(zl a).map (Value.int .i64)++List.drop (0+n) (List.replicate f (Value.int .i64 0)).toArray.toList).toArray=dC (cB S P a b g d 0):=by
  rw[<-b1.out];unfold splice;rw[<-q,List.append_assoc]
 rw[am]at E;obtain⟨z,F⟩:∃z,z=((w.alloc (dV C S l bl)).alloc (.cells (madeCells #[Value.int .i64 0] f) 3)).setRow (w.heap.size+1) (dC (cB S P a b g d 0)):=⟨_,rfl⟩;rw[<-F]at E;have bs:Hid (iT w z (gV C S l bl) (cB S P a b g d 0)):=by
  have hb:Below (w.heap.size+1) ((w.alloc (dV C S l bl)).alloc (.cells (madeCells #[Value.int .i64 0] f) 3)) z:=by rw[F];exact below_setRow (Below.refl _ _) (Nat.le_refl _) _
  refine⟨O.trans (hb.mono (Nat.le_succ _)),⟨?_,λi a9=>?_⟩,?_⟩
  ·have:=hb.size;simp at this;omega
  ·rw[hb.cell (by show w.heap.size<_;omega)];exact((ak.new w _ 152 _ rfl).alloc _).2 i a9
  ·exact bO.of_heap (by rw[F];exact setRow_heap _ _ _ _ _ _ L)
 clear G M N H hb U hn t V q a3 al O L am F;go_enter Tryz.func198,Tryz.ntmps198;go_wp2;clear E;go_loopw [27] (λi wr=>∃k:Nat,k<=m/\i= .int .i64 k/\Hid (iT w wr (gV C S l bl) (cB S P a b g d k))) (λi _=>m-(intOf i).toNat)
 case atStart=>exact⟨0,Nat.zero_le _,rfl,bs.out⟩
 case round=>
  obtain⟨k,X,rfl,o⟩:=hrel;by_cases ap:k<m
  ·obtain⟨b7,rfl,b2,av⟩:=(a6.out.below o.out.B) (by rw[aw,<-K.out];omega);have ab:=av k (by rw[aw,<-K.out];exact ap);rw[cT]at ab;have bb:Hid (b.getD k 0<S):=bi.out k;have b3:Hid (_=_):=b4.out k ap;have bd:Hid ((cB S P a b g d k).getD (k+g) 0<S):=bo.out k _;have Q:=o.out.O.2 (k+g) (by rw[a2.out];omega);generalize bt:b.getD k 0=y at*;generalize bv:(cB S P a b g d k).getD (k+g) 0=u at*;have D:Hid (∀W,af wr W->(W.cell? ⟨w.heap.size,0,none⟩=some (.int .i64 C)/\W.cell? ⟨w.heap.size,1,none⟩=some (.int .i64 S)/\W.cell? ⟨w.heap.size,2,none⟩=some (.slice (some ⟨l,0,none⟩) (S-1) (S-1))/\W.cell? ⟨w.heap.size,3,none⟩=some (.slice (some ⟨bl,0,none⟩) S S))/\W.cell? ⟨w.heap.size+1,k+g,none⟩=some (.int .i64 (u:Int))/\W.frozen? ⟨w.heap.size+1,k+g,none⟩=false):=by
    show∀W,_;intro W r;exact⟨dQ (o.out.X.below r),(r.cell o.out.O.1).trans Q.1,(r.frozen o.out.O.1).trans Q.2⟩
   clear bt bv av Q b2;have cq:(0:Int)<=(k:Int)+g:=oO;have cs:(k:Int)+g<(f:Int):=oO;have cv:((k:Int)+g).toNat=k+g:=oO;have bx:IntKind.i64.wrap ((k:Int)+g)=(k:Int)+g:=aF _ oO oO;go_wp2;clear ab;refine bY (S:=af wr) 17 oK oK (ai (Below.refl _ _)) ?_;simp only[List.take_succ_cons,List.take_zero,List.drop_succ_cons,List.drop_zero]
   repeat refine kO D.out ?_
   refine kX (λW r=>k6 C S P l bl d y W J.out a5 bb.out ((a7.out.below o.out.B).below r)) ?_
   repeat refine kO D.out ?_
   refine kX (λW r=>IX C S P l bl u (aG S P d y) W J.out bd.out (bL J.out _ _)) ?_
   repeat refine kO D.out ?_
   refine dc ?_;intro be a0;have a1:=Lib.hid a0;clear a0;obtain⟨-,cx,cN⟩:=D.out be a1.out;go_wp2;clear bx;exact⟨⟨k+1,by omega,by go_num,by rw[<-b3.out];exact(o.out.below a1.out).set _ _⟩,by simp[intOf];omega⟩
  ·obtain rfl:k=m:=oO;go_wp2;go_ret;refine⟨_,rfl,?_,o.out.B⟩;have ac:=o.out.O.ints (c:=f) (a2.out _).symm (Nat.le_refl _) oM;rw[K.out]at ac;exact ac
abbrev dw (C S P par first:Nat):Value:= .agg #[.int .i64 C,.int .i64 S,.int .i64 P,.int .i64 par,.int .i64 first]
abbrev gM (C S P par first:Nat):List Value:=[.int .i64 C,.int .i64 S,.int .i64 P,.int .i64 par,.int .i64 first]
abbrev kp (C S P par first:Nat):Obj:= .cells #[.int .i64 C,.int .i64 S,.int .i64 P,.int .i64 par,.int .i64 first] 91
theorem mq {W:World} {b C S P par first:Nat} (h:ak W b (gM C S P par first)):W.cell? ⟨b,0,none⟩=some (.int .i64 C)/\W.cell? ⟨b,1,none⟩=some (.int .i64 S)/\W.cell? ⟨b,2,none⟩=some (.int .i64 P)/\W.cell? ⟨b,3,none⟩=some (.int .i64 par)/\W.cell? ⟨b,4,none⟩=some (.int .i64 first):=
 ⟨h.2 0 oS,h.2 1 oS,h.2 2 oS,h.2 3 oS,h.2 4 oS⟩
structure rZ (w wr:World) (a b:List Value) (l:List Nat):Prop where
 B:Below w.heap.size w wr
 X:ak wr w.heap.size a
 Z:ak wr (w.heap.size+1) b
 O:bO wr (w.heap.size+2) l
theorem rZ.below {w wr W:World} {a b:List Value} {l:List Nat} (h:rZ w wr a b l) (hb:Below wr.heap.size wr W):rZ w W a b l:=⟨ae h.B hb,h.X.below hb,h.Z.below hb,h.O.below hb⟩
theorem rZ.set {w wr:World} {a b:List Value} {l:List Nat} (h:rZ w wr a b l) (i v:Nat):rZ w (wr.setCell ⟨w.heap.size+2,i,none⟩ (.int .i64 (v:Int))) a b (l.set i v):=
 ⟨h.B.setCell oS _,h.X.other _ _ oS,h.Z.other _ _ oS,h.O.set i v⟩
noncomputable def iN (s p par first:Nat) (w:List Nat) (i k:Nat):List Nat:=(List.range par).map λj=>if j<i then l3 s p first w j else if j=i then tQ s p (iV s p (first+i)) w k else 0
theorem qR (s p par first:Nat) (w:List Nat) (i k:Nat):(iN s p par first w i k).length=par:=by unfold iN;simp
theorem Ho (s p par first:Nat) (w:List Nat):iN s p par first w 0 0=List.replicate par 0:=by
 refine cW (by rw[qR,List.length_replicate]) λj a=>?_;rw[qR]at a;unfold iN;rw[bp _ _ _ a,if_neg oO];have:(List.replicate par 0).getD j 0=0:=by simp[List.getD,a]
 rw[this];split<;>rfl
theorem IN (s p par first:Nat) (w:List Nat) {i:Nat} (a:i<par) (k:Nat):
 (iN s p par first w i k).set i (bN s p (aG s p ((iN s p par first w i k).getD i 0) (iV s p (first+i))) (w.getD k 0))=iN s p par first w i (k+1):=by
 unfold iN;rw[bp _ _ _ a,fB _ _ _ _ a];apply List.map_congr_left;intro j b;by_cases e:j=i
 ·subst e;rw[if_pos rfl,if_neg oO,if_pos rfl,if_neg oO,if_pos rfl];rfl
 ·rw[if_neg e,if_neg e,if_neg e]
theorem JE (s p par first:Nat) (w:List Nat) (i:Nat):iN s p par first w i w.length=iN s p par first w (i+1) 0:=by
 unfold iN;apply List.map_congr_left;intro j b;by_cases e:j=i
 ·subst e;rw[if_neg oO,if_pos rfl,if_pos oO];rfl
 ·by_cases a:j<i
  ·rw[if_pos a,if_pos oO]
  ·rw[if_neg a,if_neg e,if_neg oO];split<;>rfl
theorem Mc (s p par first:Nat) (w:List Nat):iN s p par first w par 0=cR s p par first w:=by
 unfold iN cR;apply List.map_congr_left;intro j a;rw[List.mem_range]at a;rw[if_pos a]
theorem Nf {c s p:Nat} (h:VF c s p) {par first:Nat} {w:List Nat} (a:ao s w) (i k:Nat):ao s (iN s p par first w i k):=gR h λj _=>by
 split
 ·exact yw h a j
 split
 ·exact xX h a k
 ·have:=h.aP;omega
theorem zL (C S P a bl par first:Nat) (l:List Nat) (A:Option Addr) (n K:Nat) (w:World) (m:VF C S P) (hl:ao S l) (hn:n=l.length) (bv:n<=4097) (bx:1<=par) (bi:par<=4097) (bo:first<=4097) (p:dh w S P a bl) (r:RD w A (zl l)):
 Calls Tryz.prog 197 #[fs C S a bl,dw C S P par first,.slice A n K] w λe w'=>∃v,e= .returned v/\aA w' v (zl (cR S P par first l))/\Below w.heap.size w w':=by
 have bz:=run_make_row' (P:=Tryz.prog) 64 3 (.int .i64 0) 8 Tryz.underlying64 dg rfl .i64 .i64 par oO oO;have g:=Lib.hid m;have L:=Lib.hid hl;have M:=Lib.hid r;have s:=Lib.hid p;have t:=Lib.hid hn;have J:Hid (∀i k,(iN S P par first l i k).length=par):=λi k=>qR _ _ _ _ _ _ _;have be:Hid (∀i k,i<par->(iN S P par first l i k).set i (bN S P (aG S P ((iN S P par first l i k).getD i 0) (iV S P (first+i))) (l.getD k 0))=iN S P par first l i (k+1)):=λi k N=>IN S P par first l N k
 have bf:Hid (∀i,iN S P par first l i n=iN S P par first l (i+1) 0):=λi=>by rw[hn];exact JE S P par first l i
 have a0:Hid (∀i k,ao S (iN S P par first l i k)):=λi k=>Nf m hl i k;have a1:Hid (rZ w (((w.alloc (dV C S a bl)).alloc (kp C S P par first)).alloc (.cells (madeCells #[Value.int .i64 0] par) 3)) (gV C S a bl) (gM C S P par first) (iN S P par first l 0 0)):=by
  rw[Ho];exact⟨ah (ah (ax _ _) _) _,((ak.new _ _ _ _ rfl).alloc _).alloc _,(ak.new _ _ _ _ oS).alloc _,bO.made _ _ _ _ oS⟩
 have a2:Hid (ak ((w.alloc (dV C S a bl)).alloc (kp C S P par first)) (w.heap.size+1) (gM C S P par first)):=ak.new _ _ _ _ oS;obtain⟨O,Q,T,U,V⟩:=mq a2.out;clear m hl r p hn;go_enter Tryz.func197,Tryz.ntmps197;go_wp2;clear O Q T U V;go_loopw [17] (λi wr=>∃k:Nat,k<=par/\i= .int .i64 k/\Hid (rZ w wr (gV C S a bl) (gM C S P par first) (iN S P par first l k 0))) (λi _=>par-(intOf i).toNat)
 case atStart=>exact⟨0,Nat.zero_le _,rfl,a1.out⟩
 case round=>
  obtain⟨k,bq,rfl,f⟩:=hrel;by_cases D:k<par
  ·obtain⟨X,Y,Z,ab⟩:=dQ f.out.X;obtain⟨c0,c1,ac,ad,al⟩:=mq f.out.Z;have a3:Hid (iV S P (first+k)<S):=jd g.out _;have a4:Hid (∀W,af w W->Calls Tryz.prog 152 #[fs C S a bl,.int .i64 ((first:Int)+(k:Int))] W λe w'=>e= .returned (.int .i64 ((iV S P (first+k):Nat):Int))/\Below W.heap.size W w'):=by
    show∀W,_;intro W b;have:=lP C S P a bl (first+k) W g.out oO (s.out.below b);simpa using this
   have a9:Hid (∀q,(iN S P par first l k q).set k (bN S P (aG S P ((iN S P par first l k q).getD k 0) (iV S P (first+k))) (l.getD q 0))=iN S P par first l k (q+1)):=λq=>be.out k q D;generalize iV S P (first+k)=x at*;go_wp2_with(go_at_call 152;refine(a4.out _ f.out.B).mono ?_;rintro e bs ⟨rfl,E⟩;have a5:=Lib.hid (f.out.below E);clear E)
   clear X Y Z ab c0 c1 ac ad al;go_loopw [28] (λi wr=>∃q:Nat,q<=n/\i= .int .i64 q/\Hid (rZ w wr (gV C S a bl) (gM C S P par first) (iN S P par first l k q))) (λi _=>n-(intOf i).toNat)
   case atStart=>exact⟨0,Nat.zero_le _,rfl,a5.out⟩
   case round=>
    clear f;obtain⟨q,hq,rfl,d⟩:=hrel;by_cases bb:q<n
    ·obtain⟨bt,rfl,bd,F⟩:=(M.out.below d.out.B) (by rw[aw,<-t.out];omega);have z:=F q (by rw[aw,<-t.out];exact bb);rw[cT]at z;have am:Hid (l.getD q 0<S):=L.out q;have a6:Hid (_=_):=a9.out q;have ap:Hid ((iN S P par first l k q).getD k 0<S):=a0.out k q _;have o:=d.out.O.2 k (by rw[J.out];exact D);generalize a7:l.getD q 0=y at*;generalize a8:(iN S P par first l k q).getD k 0=u at*;have j:Hid (∀W,af wr W->(W.cell? ⟨w.heap.size,0,none⟩=some (.int .i64 C)/\W.cell? ⟨w.heap.size,1,none⟩=some (.int .i64 S)/\W.cell? ⟨w.heap.size,2,none⟩=some (.slice (some ⟨a,0,none⟩) (S-1) (S-1))/\W.cell? ⟨w.heap.size,3,none⟩=some (.slice (some ⟨bl,0,none⟩) S S))/\W.cell? ⟨w.heap.size+2,k,none⟩=some (.int .i64 (u:Int))/\W.frozen? ⟨w.heap.size+2,k,none⟩=false):=by
      show∀W,_;intro W b;exact⟨dQ (d.out.X.below b),(b.cell d.out.O.1).trans o.1,(b.frozen d.out.O.1).trans o.2⟩
     clear a7 a8 F o bd;go_wp2;clear z;refine bY (S:=af wr) 13 oK oK (ai (Below.refl _ _)) ?_;simp only[List.take_succ_cons,List.take_zero,List.drop_succ_cons,List.drop_zero]
     repeat refine kO j.out ?_
     refine kX (λW b=>k6 C S P a bl u x W g.out ap.out a3.out ((s.out.below d.out.B).below b)) ?_
     repeat refine kO j.out ?_
     refine kX (λW b=>pa C S P a bl (aG S P u x) y W g.out (bL g.out _ _) am.out) ?_
     repeat refine kO j.out ?_
     refine dc ?_;intro av G;have H:=Lib.hid G;clear G;obtain⟨-,b1,b2⟩:=j.out av H.out;go_wp2;exact⟨⟨q+1,by omega,by go_num,by rw[<-a6.out];exact(d.out.below H.out).set _ _⟩,by simp[intOf];omega⟩
    ·obtain rfl:q=n:=oO;go_wp2;exact⟨⟨k+1,by omega,by go_num,by rw[<-bf.out];exact d⟩,by simp[intOf];omega⟩
  ·obtain rfl:k=par:=oO;go_wp2;go_ret;refine⟨_,rfl,?_,f.out.B⟩;have B:=f.out.O.ints (c:=k) (J.out _ _).symm (Nat.le_refl _) oM;rw[Mc]at B;exact B
theorem aA.nat {w:World} {v:Value} {l:List Nat} (h:aA w v (zl l)):∃A c,v= .slice A l.length c/\l.length<=c/\c<=maxLen/\RD w A (zl l):=by
 obtain⟨A,c,rfl,a,b,d⟩:=h;rw[aw]at a⊢;exact⟨A,c,rfl,a,b,d⟩
section
variable {c s p : Nat} (h : VF c s p)
include h
theorem CP {C a:List Nat} (d:ao s C) (hs:ao s a) {n k L:Nat} (e:k<=n+1) (f:cK (L+1) (co h C)) (b:L<k\/C.length<=k):aS h (mh s p (gd s p C a n) k)=conv (co h C) (co h a) n:=by
 rw[Ef h _ (o5 h C a n),ph];have e1:dr (λk=>aS h (gd s p C a n k)) k=dr (λk=>co h C k* co h a (n-k)) k:=iI λj g=>by rw[CQ h d hs,if_pos oO]
 rw[e1];refine(rK (λj i l=>?_) e).symm;have:co h C j=0:=by
  rcases b with b|b
  ·exact f j oO
  ·exact ft h C j oO
 rw[this,bR]
structure eY (a:List Nat) (N n:Nat) (C B:List Nat) (L m b:Nat):Prop where
 I:kx h (co h a) N n (co h C) (co h B) L m (aS h b)
 hC:ao s C
 hB:ao s B
 hb:b<s
 lC:C.length<=n+1
 lB:B.length+m<=n+2
theorem eY.start (a:List Nat) (N:Nat):eY h a N 0 [1] [1] 0 1 1:=by
 have b:=h.aP;have hl:ao s [1]:=λi=>by
  match i with
  |0=>show 1<s;omega
  |i+1=>show([1]:List Nat).getD (i+1) 0<s;simp[List.getD];omega
 have e:co h [1]=iM 1:=by
  funext i;unfold co iM
  match i with
  |0=>exact lK h
  |i+1=>rw[if_neg oO];exact bQ h
 refine⟨?_,hl,hl,by omega,by simp,by simp⟩;rw[e,lK];exact kx.start h _ N
theorem eY.c1 {f:List Nat} {N n:Nat} {C B:List Nat} {L m b:Nat} (hb:eY h f N n C B L m b):1<=C.length/\C.getD 0 0≠0:=by
 have a:co h C 0=1:=hb.I.I.c0;have d:C.getD 0 0≠0:=λe=>by
  unfold co at a;rw[e,bQ]at a;exact kn a.symm
 refine⟨?_,d⟩;rcases Nat.eq_zero_or_pos C.length with e|e
 ·rw[List.eq_nil_of_length_eq_zero e]at d;exact absurd rfl d
 ·exact e
theorem eY.b0 {a:List Nat} {N n:Nat} {C B:List Nat} {L m b:Nat} (hb:eY h a N n C B L m b):b≠0:=λe=>by
 have:=hb.I.I.b0;rw[e,bQ]at this;exact this rfl
theorem eY.skip {a:List Nat} {N n:Nat} {C B:List Nat} {L m b:Nat} (hb:eY h a N n C B L m b) (d:conv (co h C) (co h a) n=0):eY h a N (n+1) C B L (m+1) b:=
 ⟨hb.I.skip h d,hb.hC,hb.hB,hb.hb,by have:=hb.lC;omega,by have:=hb.lB;omega⟩
theorem zr {a:List Nat} {N n:Nat} {C B:List Nat} {L m b r:Nat} (hb:eY h a N n C B L m b):(cB s p C B m r B.length).length<=n+1+1:=by
 have:=hb.lC;have:=hb.lB;rw[mX];omega
theorem Gf {C B:List Nat} (a:ao s C) (hB:ao s B) {m r:Nat} (b:r<s):co h (cB s p C B m r B.length)=qJ (co h C) (co h B) m (aS h r):=funext λj=>Mh h a hB b j
theorem ratio {d b:Nat} (a:d<s) (hb:b<s) (e:b≠0):aS h (aG s p d (dP s p b))* aS h b=aS h d:=by
 rw[gf h a (mN h),cX,bX (aS h (dP s p b)),x8 h hb e,gm]
theorem eY.grow {a:List Nat} {N n:Nat} {C B:List Nat} {L m b d:Nat} (hb:eY h a N n C B L m b) (hn:n<N) (e:d<s) (j:d≠0) (f:aS h d=conv (co h C) (co h a) n) (g:2* L<=n):
 eY h a N (n+1) (cB s p C B m (aG s p d (dP s p b)) B.length) C (n+1-L) 1 d:=by
 have i:aG s p d (dP s p b)<s:=bL h _ _;refine⟨?_,yp h hb.hC hb.hB _ _ _,hb.hC,e,zr h hb,by have:=hb.lC;omega⟩;rw[Gf h hb.hC hb.hB i,f];exact hb.I.grow h hn (by rw[<-f];exact Gb h e j) (by rw[ratio h e hb.hb (eY.b0 h hb)];exact f) g
theorem eY.stay {a:List Nat} {N n:Nat} {C B:List Nat} {L m b d:Nat} (hb:eY h a N n C B L m b) (e:d<s) (i:aS h d=conv (co h C) (co h a) n) (f:n<2* L):
 eY h a N (n+1) (cB s p C B m (aG s p d (dP s p b)) B.length) B L (m+1) b:=by
 have g:aG s p d (dP s p b)<s:=bL h _ _;refine⟨?_,yp h hb.hC hb.hB _ _ _,hb.hB,hb.hb,zr h hb,by have:=hb.lB;omega⟩;rw[Gf h hb.hC hb.hB g];exact hb.I.stay h (by rw[ratio h e hb.hb (eY.b0 h hb)];exact i) f
end
theorem Gi {l:List Nat} (a:l.getD 0 0≠0):∀n,1<=n->1<=tl l n
 |n+1,_=>by
  unfold tl;split
  ·rename_i b
   match n with
   |0=>exact absurd b a
   |n+1=>exact Gi a (n+1) oO
  ·omega
def NW {C S P:Nat} (a:VF C S P) (b:List Nat) (n:Nat) (w w':World) (v:Value):Prop:=∃(q:List Nat) (L:Nat),aA w' v (zl q)/\ao S q/\dA q/\1<=q.length/\q.length<=n+1/\lV a (co a b) n (co a q) L/\Below w.heap.size w w'
theorem Cf (C S P E bl:Nat) (u:List Nat) (A:Option Addr) (n d0:Nat) (w:World) (g:VF C S P) (hl:ao S u) (hn:n=u.length) (fb:n<=4094) (cs:dh w S P E bl) (cv:RD w A (zl u)):
 Calls Tryz.prog 201 #[fs C S E bl,.slice A n d0] w λe w'=>∃v,e= .returned v/\NW g u n w w' v:=by
 have J:=Lib.hid g;have ca:=Lib.hid hl;have cx:=Lib.hid hn;have cN:=Lib.hid (cv.alloc (dV C S E bl));have av:=Lib.hid (cs.alloc (dV C S E bl));have ew:Hid (eY g u n 0 [1] [1] 0 1 1):=eY.start g u n;obtain⟨F,bb⟩:∃F,F=w.alloc (dV C S E bl):=⟨_,rfl⟩;have b3:Hid (ak F w.heap.size (gV C S E bl)):=by rw[bb];exact ak.new _ _ _ _ rfl
 have c9:Hid (Below w.heap.size w F):=by rw[bb];exact ax _ _
 have a3:Hid (aA ((F.alloc (.cells #[.int .i64 1] 3)).alloc (.cells #[.int .i64 1] 3)) (.slice (some ⟨w.heap.size+1,0,none⟩) 1 1) (zl [1])):=(aA.lit _ [1] 3 _ 1 (by rw[bb];simp) rfl oO).below (ax _ _);have a4:Hid (aA ((F.alloc (.cells #[.int .i64 1] 3)).alloc (.cells #[.int .i64 1] 3)) (.slice (some ⟨w.heap.size+1+1,0,none⟩) 1 1) (zl [1])):=aA.lit _ [1] 3 _ 1 (by rw[bb];simp) rfl oO;have ch:Hid (Below F.heap.size F ((F.alloc (.cells #[.int .i64 1] 3)).alloc (.cells #[.int .i64 1] 3))):=ah (ax _ _) _;rw[<-bb]at cN av;clear hl hn cv cs;go_enter Tryz.func201,Tryz.ntmps201;go_wp2;rw[<-bb];obtain⟨M,da⟩:∃M,M=w.heap.size:=⟨_,rfl⟩;have ea:Hid (w.heap.size<=F.heap.size):=c9.out.size;rw[<-da]at b3 a3 a4⊢;clear bb da;generalize(F.alloc (.cells #[.int .i64 1] 3)).alloc (.cells #[.int .i64 1] 3)=ez at*;go_loopw [5,6,7,8,9,19] (λd1 d2 d3 d4 d5 a5 wr=>∃(k:Nat) (a f:List Nat) (L m b:Nat) (Q T:Option Addr) (c1 V:Nat),k<=n/\L<=8000/\m<=8000/\a5= .int .i64 k/\d3= .int .i64 L/\d4= .int .i64 m/\d5= .int .i64 b/\d1= .slice Q a.length c1/\d2= .slice T f.length V/\Hid (eY g u n k a f L m b)/\Hid (aA wr (.slice Q a.length c1) (zl a))/\Hid (aA wr (.slice T f.length V) (zl f))/\Hid (Below F.heap.size F wr)) (λ_ _ _ _ _ a5 _=>n-(intOf a5).toNat)
 case atStart=>exact⟨0,[1],[1],0,1,1,_,_,1,1,Nat.zero_le _,by omega,by omega,rfl,rfl,rfl,rfl,rfl,rfl,ew.out,a3.out,a4.out,ch.out⟩
 case round=>
  obtain⟨k,a,f,L,m,b,Q,T,c1,V,eA,ec,ed,rfl,rfl,rfl,rfl,rfl,rfl,j,bo,b7,hB⟩:=hrel;obtain⟨H,bq⟩:∃H,H=a.length:=⟨_,rfl⟩;obtain⟨a6,b8⟩:∃a6,a6=f.length:=⟨_,rfl⟩;have fv:H<=k+1:=by rw[bq];exact j.out.lC
  have fx:a6+m<=k+2:=by rw[b8];exact j.out.lB
  have bf:1<=H:=by rw[bq];exact(eY.c1 g j.out).1
  have fc:L<=k:=j.out.I.I.ln;have B:=Lib.hid bq;have U:=Lib.hid b8;rw[<-bq]at bo⊢;rw[<-b8]at b7⊢;have bs:Hid (RD wr Q (zl a)):=by
   obtain⟨c2,c3,e,-,-,cb⟩:=bo.out;injection e with e1 e2 e3;rw[e1];exact cb
  have dd:Hid (RD wr T (zl f)):=by
   obtain⟨c2,c3,e,-,-,cb⟩:=b7.out;injection e with e1 e2 e3;rw[e1];exact cb
  have ds:H<=c1/\c1<=maxLen:=by
   obtain⟨c2,c3,e,c4,d6,-⟩:=bo.out;injection e with e1 e2 e3;rw[e3];rw[<-e2]at c4;exact⟨c4,d6⟩
  have ef:=Lib.hid ds;clear bq b8 ds ec ed;by_cases de:k<n
  ·go_wp2;obtain⟨b4,rfl⟩:∃b4:World,b4=wr:=⟨_,rfl⟩;go_loopw [11,12] (λd7 a5 wr=>∃q d:Nat,q<=k+1/\q<=L+1/\q<=H/\a5= .int .i64 q/\d7= .int .i64 d/\Hid (d=mh S P (gd S P a u k) q)/\Hid (Below b4.heap.size b4 wr)) (λ_ a5 _=>H-(intOf a5).toNat)
   case atStart=>exact⟨0,0,by omega,by omega,by omega,rfl,rfl,rfl,Below.refl _ _⟩
   case round=>
    obtain⟨q,d,hq,fd,fe,rfl,rfl,be,G⟩:=hrel;have a1:Hid (d<S):=by show _<_;rw[be.out];exact tY J.out _ (o5 J.out a u k) q
    by_cases b9:q<=L/\q<H
    ·obtain⟨fz,ex⟩:=b9;obtain⟨x,a7⟩:∃x,x=a.getD q 0:=⟨_,rfl⟩;obtain⟨y,b5⟩:∃y,y=u.getD (k-q) 0:=⟨_,rfl⟩;have d8:Hid (x<S):=by show _<_;rw[a7];exact j.out.hC q
     have d9:Hid (y<S):=by show _<_;rw[b5];exact ca.out _
     have eh:Hid (bN S P d (aG S P x y)=mh S P (gd S P a u k) (q+1)):=by
      show _=bN S P (mh S P (gd S P a u k) q) (gd S P a u k q);rw[<-be.out];unfold gd;rw[if_pos oO,a7,b5]
     obtain⟨ei,rfl,dz,dv⟩:=(bs.out.below G.out) (by rw[aw,<-B.out];omega);obtain⟨ek,rfl,dE,dx⟩:=((cN.out.below hB.out).below G.out) (by rw[aw,<-cx.out];omega);have N:Hid (∀W,af wr W->(W.cell? ⟨M,0,none⟩=some (.int .i64 C)/\W.cell? ⟨M,1,none⟩=some (.int .i64 S)/\W.cell? ⟨M,2,none⟩=some (.slice (some ⟨E,0,none⟩) (S-1) (S-1))/\W.cell? ⟨M,3,none⟩=some (.slice (some ⟨bl,0,none⟩) S S))/\W.cell? (ei.add q)=some (.int .i64 (x:Int))/\W.cell? (ek.add (k-q))=some (.int .i64 (y:Int))):=by
      show∀W,_;intro W a0;refine⟨dQ (((b3.out.below hB.out).below G.out).below a0),?_,?_⟩
      ·rw[a0.cell (by rw[aJ];exact dz),dv q (by rw[aw,<-B.out];exact ex),cT,a7]
      ·rw[a0.cell (by rw[aJ];exact dE),dx (k-q) (by rw[aw,<-cx.out];omega),cT,b5]
     obtain⟨z,c5⟩:∃z,z=k-q:=⟨_,rfl⟩;rw[<-c5]at N;have fl:IntKind.i64.wrap ((k:Int)-q)=(z:Int):=by rw[aF _ oO oO];omega
     have el:z<n:=oO;clear a7 b5 c5 dz dE dv dx;go_wp2;refine bY (S:=af wr) 15 oK oK (ai (Below.refl _ _)) ?_;simp only[List.take_succ_cons,List.take_zero,List.drop_succ_cons,List.drop_zero]
     repeat refine kO N.out ?_
     refine kX (λW a0=>k6 C S P E bl x y W J.out d8.out d9.out (((av.out.below hB.out).below G.out).below a0)) ?_
     repeat refine kO N.out ?_
     refine kX (λW a0=>pa C S P E bl d (aG S P x y) W J.out a1.out (bL J.out _ _)) ?_
     repeat refine kO N.out ?_
     refine dc ?_;intro e0 dk;have ch:=Lib.hid dk;clear dk;go_wp2;exact⟨⟨q+1,_,by omega,by omega,by omega,by go_num,rfl,eh.out,ae G.out ch.out⟩,by simp[intOf];omega⟩
    ·by_cases em:q<=L
     ·have fn:¬q<H:=λh=>b9 ⟨em,h⟩;clear b9;have O:Hid (aS g d=conv (co g a) (co g u) k):=by
       show _=_;rw[be.out];refine CP g j.out.hC ca.out hq j.out.I.I.cs ?_;rw[<-B.out];omega
      have D:Hid (Below F.heap.size F wr):=hB.out.trans (G.out.mono hB.out.size);have a3:=Lib.hid (bo.out.below G.out);have a4:=Lib.hid (b7.out.below G.out);have b1:=Lib.hid (bs.out.below G.out);have b2:=Lib.hid (dd.out.below G.out);clear be G;by_cases bt:d=0
      ·subst bt;have ac:Hid (eY g u n (k+1) a f L (m+1) b):=eY.skip g j.out (by rw[<-O.out,bQ]);clear O;go_wp2;exact⟨⟨k+1,a,f,L,m+1,b,Q,T,c1,V,by omega,by omega,by omega,by go_num,rfl,by go_num,rfl,by rw[B.out],by rw[U.out],ac.out,by rw[<-B.out];exact a3.out,by rw[<-U.out];exact a4.out,D.out⟩,by simp[intOf];omega⟩
      ·have c6:((d:Int)==0)=false:=by rw[beq_eq_false_iff_ne];omega
       obtain⟨r,a8⟩:∃r,r=aG S P d (dP S P b):=⟨_,rfl⟩;have bi:Hid (r<S):=by show _<_;rw[a8];exact bL J.out _ _
       have a2:=Lib.hid a8;have bv:b≠0:=eY.b0 g j.out;have bx:Hid (b<S):=j.out.hb;have N:Hid (∀W,af wr W->(W.cell? ⟨M,0,none⟩=some (.int .i64 C)/\W.cell? ⟨M,1,none⟩=some (.int .i64 S)/\W.cell? ⟨M,2,none⟩=some (.slice (some ⟨E,0,none⟩) (S-1) (S-1))/\W.cell? ⟨M,3,none⟩=some (.slice (some ⟨bl,0,none⟩) S S))):=by
        show∀W,_;intro W a0;exact dQ ((b3.out.below D.out).below a0)
       clear a8;by_cases ci:2* L<=k
       ·obtain⟨X,bz⟩:∃X,X=k+1-L:=⟨_,rfl⟩;have en:(k:Int)+1-(L:Int)=(X:Int):=oO;have ac:Hid (eY g u n (k+1) (cB S P a f m r f.length) a X 1 d):=by
         show eY _ _ _ _ _ _ _ _ _;rw[bz,a2.out];exact eY.grow g j.out de a1.out bt O.out ci
        have ce:decide (2* (L:Int)<=(k:Int))=true:=by simp;omega
        clear O bz;go_wp2;refine yO (af wr) [1,2,3,4,5,6,7,0,8,9,0,10] (ai (Below.refl _ _)) ?_
        repeat refine zO N.out ?_
        refine zZ ?_;refine(o9 C S P E bl d b _ J.out a1.out bx.out bv (((av.out.below D.out)).below (ai (Below.refl _ _)))).mono ?_;rintro e Y ⟨rfl,ad⟩;rw[<-a2.out];have t:Hid (af wr Y):=(ai (Below.refl _ _)).trans ad;clear ad;refine⟨_,rfl,t.out,jO ?_⟩;refine zZ ?_;refine(nn C S P E bl m r a f Q T H a6 c1 V Y J.out j.out.hC j.out.hB bi.out B.out U.out bf oO oO ((av.out.below D.out).below t.out) (b1.out.below t.out) (b2.out.below t.out)).mono ?_;rintro e Z ⟨v4,rfl,al,am⟩
        obtain⟨l,o,rfl,ap⟩:∃l o,v4= .slice l (cB S P a f m r f.length).length o/\aA Z (.slice l (cB S P a f m r f.length).length o) (zl (cB S P a f m r f.length)):=by
         have ab:=al;obtain⟨l,o,e,-⟩:=aA.nat ab;exact⟨l,o,e,by rw[<-e];exact ab⟩
        have K:Hid (af wr Z):=ae t.out am;have bd:=Lib.hid ap;clear am al ap;generalize cB S P a f m r f.length=a9 at*;refine⟨_,rfl,K.out,jO ?_⟩
        repeat refine zO N.out ?_
        refine ag ?_;go_wp2;exact⟨⟨k+1,a9,a,X,1,d,l,Q,o,c1,by omega,by omega,by omega,by go_num,by go_num,rfl,rfl,rfl,by rw[B.out],ac.out,bd.out,by rw[<-B.out];exact a3.out.below K.out,D.out.trans (K.out.mono D.out.size)⟩,by simp[intOf];omega⟩
       ·have ac:Hid (eY g u n (k+1) (cB S P a f m r f.length) f L (m+1) b):=by
         show eY _ _ _ _ _ _ _ _ _;rw[a2.out];exact eY.stay g j.out a1.out O.out oO
        have ce:decide (2* (L:Int)<=(k:Int))=false:=by simp;omega
        clear O;go_wp2;refine yO (af wr) [1,2,3,4,5,6,7,0,8,9,0,10] (ai (Below.refl _ _)) ?_
        repeat refine zO N.out ?_
        refine zZ ?_;refine(o9 C S P E bl d b _ J.out a1.out bx.out bv (((av.out.below D.out)).below (ai (Below.refl _ _)))).mono ?_;rintro e Y ⟨rfl,ad⟩;rw[<-a2.out];have t:Hid (af wr Y):=(ai (Below.refl _ _)).trans ad;clear ad;refine⟨_,rfl,t.out,jO ?_⟩;refine zZ ?_;refine(nn C S P E bl m r a f Q T H a6 c1 V Y J.out j.out.hC j.out.hB bi.out B.out U.out bf oO oO ((av.out.below D.out).below t.out) (b1.out.below t.out) (b2.out.below t.out)).mono ?_;rintro e Z ⟨v4,rfl,al,am⟩
        obtain⟨l,o,rfl,ap⟩:∃l o,v4= .slice l (cB S P a f m r f.length).length o/\aA Z (.slice l (cB S P a f m r f.length).length o) (zl (cB S P a f m r f.length)):=by
         have ab:=al;obtain⟨l,o,e,-⟩:=aA.nat ab;exact⟨l,o,e,by rw[<-e];exact ab⟩
        have K:Hid (af wr Z):=ae t.out am;have bd:=Lib.hid ap;clear am al ap;generalize cB S P a f m r f.length=a9 at*;refine⟨_,rfl,K.out,jO ?_⟩
        repeat refine zO N.out ?_
        refine ag ?_;go_wp2;exact⟨⟨k+1,a9,f,L,m+1,b,l,T,o,V,by omega,by omega,by omega,by go_num,rfl,by go_num,rfl,rfl,by rw[U.out],ac.out,bd.out,by rw[<-U.out];exact a4.out.below K.out,D.out.trans (K.out.mono D.out.size)⟩,by simp[intOf];omega⟩
     ·clear b9;have O:Hid (aS g d=conv (co g a) (co g u) k):=by
       show _=_;rw[be.out];refine CP g j.out.hC ca.out hq j.out.I.I.cs ?_;rw[<-B.out];omega
      have D:Hid (Below F.heap.size F wr):=hB.out.trans (G.out.mono hB.out.size);have a3:=Lib.hid (bo.out.below G.out);have a4:=Lib.hid (b7.out.below G.out);have b1:=Lib.hid (bs.out.below G.out);have b2:=Lib.hid (dd.out.below G.out);clear be G;by_cases bt:d=0
      ·subst bt;have ac:Hid (eY g u n (k+1) a f L (m+1) b):=eY.skip g j.out (by rw[<-O.out,bQ]);clear O;go_wp2;exact⟨⟨k+1,a,f,L,m+1,b,Q,T,c1,V,by omega,by omega,by omega,by go_num,rfl,by go_num,rfl,by rw[B.out],by rw[U.out],ac.out,by rw[<-B.out];exact a3.out,by rw[<-U.out];exact a4.out,D.out⟩,by simp[intOf];omega⟩
      ·have c6:((d:Int)==0)=false:=by rw[beq_eq_false_iff_ne];omega
       obtain⟨r,a8⟩:∃r,r=aG S P d (dP S P b):=⟨_,rfl⟩;have bi:Hid (r<S):=by show _<_;rw[a8];exact bL J.out _ _
       have a2:=Lib.hid a8;have bv:b≠0:=eY.b0 g j.out;have bx:Hid (b<S):=j.out.hb;have N:Hid (∀W,af wr W->(W.cell? ⟨M,0,none⟩=some (.int .i64 C)/\W.cell? ⟨M,1,none⟩=some (.int .i64 S)/\W.cell? ⟨M,2,none⟩=some (.slice (some ⟨E,0,none⟩) (S-1) (S-1))/\W.cell? ⟨M,3,none⟩=some (.slice (some ⟨bl,0,none⟩) S S))):=by
        show∀W,_;intro W a0;exact dQ ((b3.out.below D.out).below a0)
       clear a8;by_cases ci:2* L<=k
       ·obtain⟨X,bz⟩:∃X,X=k+1-L:=⟨_,rfl⟩;have en:(k:Int)+1-(L:Int)=(X:Int):=oO;have ac:Hid (eY g u n (k+1) (cB S P a f m r f.length) a X 1 d):=by
         show eY _ _ _ _ _ _ _ _ _;rw[bz,a2.out];exact eY.grow g j.out de a1.out bt O.out ci
        have ce:decide (2* (L:Int)<=(k:Int))=true:=by simp;omega
        clear O bz;go_wp2;refine yO (af wr) [1,2,3,4,5,6,7,0,8,9,0,10] (ai (Below.refl _ _)) ?_
        repeat refine zO N.out ?_
        refine zZ ?_;refine(o9 C S P E bl d b _ J.out a1.out bx.out bv (((av.out.below D.out)).below (ai (Below.refl _ _)))).mono ?_;rintro e Y ⟨rfl,ad⟩;rw[<-a2.out];have t:Hid (af wr Y):=(ai (Below.refl _ _)).trans ad;clear ad;refine⟨_,rfl,t.out,jO ?_⟩;refine zZ ?_;refine(nn C S P E bl m r a f Q T H a6 c1 V Y J.out j.out.hC j.out.hB bi.out B.out U.out bf oO oO ((av.out.below D.out).below t.out) (b1.out.below t.out) (b2.out.below t.out)).mono ?_;rintro e Z ⟨v4,rfl,al,am⟩
        obtain⟨l,o,rfl,ap⟩:∃l o,v4= .slice l (cB S P a f m r f.length).length o/\aA Z (.slice l (cB S P a f m r f.length).length o) (zl (cB S P a f m r f.length)):=by
         have ab:=al;obtain⟨l,o,e,-⟩:=aA.nat ab;exact⟨l,o,e,by rw[<-e];exact ab⟩
        have K:Hid (af wr Z):=ae t.out am;have bd:=Lib.hid ap;clear am al ap;generalize cB S P a f m r f.length=a9 at*;refine⟨_,rfl,K.out,jO ?_⟩
        repeat refine zO N.out ?_
        refine ag ?_;go_wp2;exact⟨⟨k+1,a9,a,X,1,d,l,Q,o,c1,by omega,by omega,by omega,by go_num,by go_num,rfl,rfl,rfl,by rw[B.out],ac.out,bd.out,by rw[<-B.out];exact a3.out.below K.out,D.out.trans (K.out.mono D.out.size)⟩,by simp[intOf];omega⟩
       ·have ac:Hid (eY g u n (k+1) (cB S P a f m r f.length) f L (m+1) b):=by
         show eY _ _ _ _ _ _ _ _ _;rw[a2.out];exact eY.stay g j.out a1.out O.out oO
        have ce:decide (2* (L:Int)<=(k:Int))=false:=by simp;omega
        clear O;go_wp2;refine yO (af wr) [1,2,3,4,5,6,7,0,8,9,0,10] (ai (Below.refl _ _)) ?_
        repeat refine zO N.out ?_
        refine zZ ?_;refine(o9 C S P E bl d b _ J.out a1.out bx.out bv (((av.out.below D.out)).below (ai (Below.refl _ _)))).mono ?_;rintro e Y ⟨rfl,ad⟩;rw[<-a2.out];have t:Hid (af wr Y):=(ai (Below.refl _ _)).trans ad;clear ad;refine⟨_,rfl,t.out,jO ?_⟩;refine zZ ?_;refine(nn C S P E bl m r a f Q T H a6 c1 V Y J.out j.out.hC j.out.hB bi.out B.out U.out bf oO oO ((av.out.below D.out).below t.out) (b1.out.below t.out) (b2.out.below t.out)).mono ?_;rintro e Z ⟨v4,rfl,al,am⟩
        obtain⟨l,o,rfl,ap⟩:∃l o,v4= .slice l (cB S P a f m r f.length).length o/\aA Z (.slice l (cB S P a f m r f.length).length o) (zl (cB S P a f m r f.length)):=by
         have ab:=al;obtain⟨l,o,e,-⟩:=aA.nat ab;exact⟨l,o,e,by rw[<-e];exact ab⟩
        have K:Hid (af wr Z):=ae t.out am;have bd:=Lib.hid ap;clear am al ap;generalize cB S P a f m r f.length=a9 at*;refine⟨_,rfl,K.out,jO ?_⟩
        repeat refine zO N.out ?_
        refine ag ?_;go_wp2;exact⟨⟨k+1,a9,f,L,m+1,b,l,T,o,V,by omega,by omega,by omega,by go_num,rfl,by go_num,rfl,rfl,by rw[U.out],ac.out,bd.out,by rw[<-U.out];exact a4.out.below K.out,D.out.trans (K.out.mono D.out.size)⟩,by simp[intOf];omega⟩
  ·obtain rfl:k=n:=oO;obtain⟨f0,dy⟩:=ef.out;have eq:Hid (a.getD 0 0≠0):=(eY.c1 g j.out).2;have cq:Hid (1<=tl a a.length):=Gi eq.out _ (by rw[<-B.out];exact bf);go_wp2;go_loop [14] (λev=>∃e:Nat,1<=e/\e<=H/\ev= .int .i64 e/\Hid (tl a e=tl a a.length)) (λev=>(intOf ev).toNat)
   case atStart=>exact⟨H,bf,Nat.le_refl _,rfl,by show _=_;rw[B.out]⟩
   case round=>
    obtain⟨e,fo,e9,rfl,b6⟩:=hrel;obtain⟨z,rfl⟩:∃z,e=z+1:=⟨e-1,by omega⟩;obtain⟨c7,rfl,f1,dl⟩:=bs.out (by rw[aw,<-B.out];omega);have a7:=dl z (by rw[aw,<-B.out];omega);rw[cT]at a7;obtain⟨x,ck⟩:∃x,x=a.getD z 0:=⟨_,rfl⟩;rw[<-ck]at a7;have dn:=Lib.hid ck;have fr:((z+1:Nat):Int)-1=(z:Int):=oO;have el:z<H:=oO;clear dl ck;by_cases cp:x=0
    ·subst cp;have dp:Hid (tl a z=tl a a.length):=by
      have h:=b6.out;have e1:tl a (z+1)=if a.getD z 0=0 then tl a z else z+1:=rfl
      rw[e1,if_pos dn.out.symm]at h;exact h
     have er:1<=z:=by
      rcases Nat.eq_zero_or_pos z with h|h
      ·subst h;have:=dp.out;rw[<-this]at cq;exact absurd cq.out (by show¬1<=0;omega)
      ·exact h
     clear b6;go_wp2;exact⟨⟨z,er,by omega,by go_num,dp.out⟩,by simp[intOf]⟩
    ·have c6:((x:Int)==0)=false:=by rw[beq_eq_false_iff_ne];omega
     have c8:Hid (tl a a.length=z+1):=by
      show _=_;have e1:tl a (z+1)=if a.getD z 0=0 then tl a z else z+1:=rfl
      rw[<-b6.out,e1,if_neg (by rw[<-dn.out];exact cp)]
     have es:Hid (dX a=a.take (z+1)):=by show _=_;unfold dX;rw[c8.out]
     have ey:Hid (aA wr (.slice (some c7) (z+1) c1) (zl (dX a))):=by
      show aA _ _ _;rw[es.out];have hl:(zl (a.take (z+1))).length=z+1:=by rw[aw,List.length_take,<-B.out];omega
      refine⟨some c7,c1,by rw[hl],by rw[hl];omega,dy,?_⟩;have:=bs.out.take (z+1);rwa[show(zl a).take (z+1)=zl (a.take (z+1))from by unfold zl;rw[List.map_take]]at this
     clear b6 cp dy;go_wp2;go_ret;refine⟨_,rfl,dX a,L,ey.out,jz j.out.hC,kH _,?_,?_,?_,c9.out.trans (hB.out.mono ea.out)⟩
     ·rw[mi];exact cq.out
     ·rw[mi,c8.out];omega
     ·have et:co g (dX a)=co g a:=funext λi=>qI g a i;rw[et];exact j.out.I.MH g
abbrev sS (C S a bl P par first wb n cw eb:Nat) (b c d e:Value):List Value:=
 [.int .i64 C,.int .i64 S,.slice (some ⟨a,0,none⟩) (S-1) (S-1),.slice (some ⟨bl,0,none⟩) S S,.int .i64 C,.int .i64 S,.int .i64 P,.int .i64 par,.int .i64 first,.slice (some ⟨wb,0,none⟩) n cw,.slice (some ⟨eb,0,none⟩) n n,.int .i64 0,b,c,d,e]
structure DK where
 N:Nat
 M:Nat
 w0:World
 db:Nat
 wb:Nat
 eb:Nat
 be:Nat
 bl:Nat
 C:Nat
 S:Nat
 P:Nat
 par:Nat
 first:Nat
 n:Nat
 cw:Nat
 X:World->Prop
structure DK.Ok (k:DK):Prop where
 vf:VF k.C k.S k.P
 p1:1<=k.par
 p2:k.par<=k.S-2
 f2:k.first<=k.S-2
 n1:1<=k.n
 n2:k.n<=k.S-1
 NG:k.n<=k.cw
 NJ:k.cw<=maxLen
 lo:k.N<=k.db/\k.N<=k.wb
 e1:k.db≠k.wb
 e2:k.be≠k.db
 e3:k.be≠k.wb
 e4:k.bl≠k.db
 e5:k.bl≠k.wb
 e6:k.eb≠k.db
 e7:k.eb≠k.wb
 xb:∀wr W,k.X wr->Below k.M wr W->wr.heap.size<=W.heap.size->k.X W
 xs:∀wr g i u,(g=k.db\/g=k.wb)->k.X wr->k.X (wr.setCell ⟨g,i,none⟩ u)
 m:k.N<=k.M/\k.db<k.M/\k.wb<k.M/\k.eb<k.M/\k.be<k.M/\k.bl<k.M
def CY (v:Value):Prop:=∃A n c,v= .slice A n c
structure DS (k:DK) (wr:World) (b c d e:Value) (a:List Nat):Prop where
 ok:k.Ok
 B:Below k.N k.w0 wr
 sz:k.M<=wr.heap.size
 R:aa wr k.db (sS k.C k.S k.be k.bl k.P k.par k.first k.wb k.n k.cw k.eb b c d e).toArray 155
 W:bO wr k.wb a
 hw:k.n=a.length
 lt:ao k.S a
 T:dh wr k.S k.P k.be k.bl
 E:k.eb<wr.heap.size/\∀i,i<k.n->wr.cell? ⟨k.eb,i,none⟩=some (.bool false)
 X:k.X wr
theorem DS.Gg {k:DK} {wr W:World} {b c d e:Value} {f:List Nat} (h:DS k wr b c d e f) (hb:Below k.M wr W) (hs:wr.heap.size<=W.heap.size):DS k W b c d e f:=by
 obtain⟨j,l,g,m,n,o⟩:=h.ok.m
 exact⟨h.ok,h.B.trans (hb.mono j),Nat.le_trans h.sz hs,(hb.block _ l).trans h.R,⟨Nat.lt_of_lt_of_le h.W.1 hs,λi a=>⟨(hb.cell g).trans (h.W.2 i a).1,(hb.frozen g).trans (h.W.2 i a).2⟩⟩,h.hw,h.lt,
  ⟨Nat.lt_of_lt_of_le h.T.1 hs,Nat.lt_of_lt_of_le h.T.2.1 hs,λi a=>(hb.cell n).trans (h.T.2.2.1 i a),λx p q=>(hb.cell o).trans (h.T.2.2.2 x p q)⟩,⟨Nat.lt_of_lt_of_le h.E.1 hs,λi a=>(hb.cell m).trans (h.E.2 i a)⟩,h.ok.xb _ _ h.X hb hs⟩
theorem DS.below {k:DK} {wr W:World} {a b c d:Value} {e:List Nat} (h:DS k wr a b c d e) (hb:Below wr.heap.size wr W):DS k W a b c d e:=h.Gg (hb.mono h.sz) hb.size
theorem DS.cells {k:DK} {wr:World} {a b c d:Value} {e:List Nat} (h:DS k wr a b c d e):
 (wr.cell? ⟨k.db,0,none⟩=some (.int .i64 k.C)/\wr.cell? ⟨k.db,1,none⟩=some (.int .i64 k.S)/\wr.cell? ⟨k.db,2,none⟩=some (.slice (some ⟨k.be,0,none⟩) (k.S-1) (k.S-1))/\wr.cell? ⟨k.db,3,none⟩=some (.slice (some ⟨k.bl,0,none⟩) k.S k.S))/\
 (wr.cell? ⟨k.db,4,none⟩=some (.int .i64 k.C)/\wr.cell? ⟨k.db,5,none⟩=some (.int .i64 k.S)/\wr.cell? ⟨k.db,6,none⟩=some (.int .i64 k.P)/\wr.cell? ⟨k.db,7,none⟩=some (.int .i64 k.par)/\wr.cell? ⟨k.db,8,none⟩=some (.int .i64 k.first))/\
 (wr.cell? ⟨k.db,9,none⟩=some (.slice (some ⟨k.wb,0,none⟩) k.n k.cw)/\wr.cell? ⟨k.db,10,none⟩=some (.slice (some ⟨k.eb,0,none⟩) k.n k.n)/\wr.cell? ⟨k.db,11,none⟩=some (.int .i64 0))/\
 (wr.cell? ⟨k.db,12,none⟩=some a/\wr.cell? ⟨k.db,13,none⟩=some b/\wr.cell? ⟨k.db,14,none⟩=some c/\wr.cell? ⟨k.db,15,none⟩=some d)/\∀i,wr.frozen? ⟨k.db,i,none⟩=false:=
 ⟨⟨h.R.cell 0 _ rfl,h.R.cell 1 _ rfl,h.R.cell 2 _ rfl,h.R.cell 3 _ rfl⟩,⟨h.R.cell 4 _ rfl,h.R.cell 5 _ rfl,h.R.cell 6 _ rfl,h.R.cell 7 _ rfl,h.R.cell 8 _ rfl⟩,⟨h.R.cell 9 _ rfl,h.R.cell 10 _ rfl,h.R.cell 11 _ rfl⟩,⟨h.R.cell 12 _ rfl,h.R.cell 13 _ rfl,h.R.cell 14 _ rfl,h.R.cell 15 _ rfl⟩,λi=>frozen_of_row _ _ _ _ _ h.R⟩
theorem DS.store {k:DK} {wr:World} {b c d f:Value} {g:List Nat} (h:DS k wr b c d f g) (i:Nat) (u:Value) {l m n o:Value}
 (p:(sS k.C k.S k.be k.bl k.P k.par k.first k.wb k.n k.cw k.eb b c d f).toArray.setIfInBounds i u=(sS k.C k.S k.be k.bl k.P k.par k.first k.wb k.n k.cw k.eb l m n o).toArray):DS k (wr.setCell ⟨k.db,i,none⟩ u) l m n o g:=by
 have a:=h.ok;refine⟨a,h.B.setCell a.lo.1 _,by simpa using h.sz,by rw[<-p];exact h.R.eT u,h.W.other _ _ (Ne.symm a.e1),h.hw,h.lt,h.T.setCell _ _ a.e2 a.e4,⟨by simpa using h.E.1,λj q=>?_⟩,a.xs _ _ _ _ (.inl rfl) h.X⟩;rw[World.cell?_setCell_other wr _ _ u (λe=>a.e6 (by injection e with e1;exact e1.symm))];exact h.E.2 j q
theorem DS.word {k:DK} {wr:World} {b c d f:Value} {g:List Nat} (h:DS k wr b c d f g) (i v:Nat) (l:v<k.S):DS k (wr.setCell ⟨k.wb,i,none⟩ (.int .i64 (v:Int))) b c d f (g.set i v):=by
 have a:=h.ok;refine⟨a,h.B.setCell a.lo.2 _,by simpa using h.sz,?_,h.W.set i v,by rw[List.length_set];exact h.hw,nw h.lt i v l,h.T.setCell _ _ a.e3 a.e5,⟨by simpa using h.E.1,λj m=>?_⟩,a.xs _ _ _ _ (.inr rfl) h.X⟩
 ·exact(heap_setCell_other wr ⟨k.wb,i,none⟩ k.db _ a.e1).trans h.R
 ·rw[World.cell?_setCell_other wr _ _ _ (λe=>a.e7 (by injection e with e1;exact e1.symm))];exact h.E.2 j m
theorem DS.KS {k:DK} {wr:World} {b c d e:Value} {a:List Nat} (h:DS k wr b c d e a):RD wr (some ⟨k.wb,0,none⟩) (zl a):=h.W.rd
theorem zM (k:DK) (c d f g:Value) (j:List Nat) (i:Nat) (w:World) (h:DS k w c d f g j) (l:i<k.n):
 Calls Tryz.prog 199 #[.pointer (some ⟨k.db,0,none⟩),.int .i64 i] w λe w'=>e= .returned (.int .i64 ((k.n-1-i:Nat):Int))/\w'=w:=by
 obtain⟨-,-,⟨m,-,-⟩,-⟩:=h.cells;have hn:=h.ok.n2;have o:=h.ok.vf.le;obtain⟨n,b⟩:∃n,n=k.n:=⟨_,rfl⟩;obtain⟨r,a⟩:∃r,r=k.n-1-i:=⟨_,rfl⟩;rw[<-a];rw[<-b]at m hn l a;have e1:(n:Int)-1-(i:Int)=(r:Int):=oO;have p:n<=4096:=oO;clear h a b hn o;go_enter Tryz.func199,Tryz.ntmps199;go_wp2;go_ret;exact⟨rfl,rfl⟩
theorem DS.drew {k:DK} {wr:World} {a b c d:Value} {e:List Nat} (h:DS k wr a b c d e):DS k wr.drew a b c d e:=h.below (ai (Below.refl _ _))
theorem aX {P:Program} {c:Array Oper} {S:World->Prop} {K:Act->World->Prop} {a:Act} {w:World} {r:List (Bool×Nat×Oper)} {k:Nat} {b:Oper} (hg:Region.wanted b (yielded c a.tmps)=true) {w':World} (d:(execOp a.eval b).run P w= .ok .skip w') (e:S w') (h:bn P c S K r (a.put b.dst undef) w'):bn P c S K ((true,k,b)::r) a w:=
 .inl ⟨hg,by rw[d];exact⟨e,h⟩⟩
theorem uK {a:Act} {b:Oper} {W:World} {x q:Operand} (d:b.op= .store 64 q x) (p:Addr) (A:Option Addr) (n c:Nat) (hq:a.eval q= .pointer (some p)) (e:a.eval x= .slice A n c) {u:Value} (hc:W.cell? p=some u) (f:W.frozen? p=false):
 (execOp a.eval b).run Tryz.prog W= .ok .skip (W.setCell p (.slice A n c)):=by
 unfold execOp;simp only[d,hq,e,Instr.storeAt,Instr.sureAddr,Sem.run_bind,Sem.run_pure,Result.andThen_ok];go_simp
theorem FQ {k:DK} {wr:World} {b f g l:Value} {m:List Nat} (h:DS k wr b f g l m) {i:Nat} {A:Option Addr} {n c:Nat} (o:wr.cell? ⟨k.db,i,none⟩=some (.slice A n c)) (u:Value) {x:Value} {xs:List Int} (p:aA wr x xs):aA (wr.setCell ⟨k.db,i,none⟩ u) x xs:=by
 obtain⟨B,d,rfl,q,r,s⟩:=p;refine⟨B,d,rfl,q,r,λhn=>?_⟩;obtain⟨t,e,hl,hc⟩:=s hn;refine⟨t,e,by simpa using hl,λj a=>?_⟩;rw[World.cell?_setCell_other wr _ _ u (λe2=>?_)]
 ·exact hc j a
 ·have:=hc j a;rw[<-e2,o]at this;injection this with this;cases this
theorem DD (k:DK) (j b d f:Value) (a:List Nat) (w:World) (h:DS k w j b d f a) (F:CY j):
 Calls Tryz.prog 160 #[.pointer (some ⟨k.db,0,none⟩)] w λe w'=>e= .returned (.bool true)/\∃v,DS k w' v b d f a/\aA w' v (zl (cR k.S k.P k.par k.first a)):=by
 have p:=Lib.hid h;have z:=h.ok.vf.le;have x:=h.ok.p1;have G:=h.ok.p2;have H:=h.ok.f2;have J:=h.ok.n2
 have r:Hid (∀W,(∃v,DS k W v b d f a)->(W.cell? ⟨k.db,0,none⟩=some (.int .i64 k.C)/\W.cell? ⟨k.db,1,none⟩=some (.int .i64 k.S)/\W.cell? ⟨k.db,2,none⟩=some (.slice (some ⟨k.be,0,none⟩) (k.S-1) (k.S-1))/\W.cell? ⟨k.db,3,none⟩=some (.slice (some ⟨k.bl,0,none⟩) k.S k.S))/\
  (W.cell? ⟨k.db,4,none⟩=some (.int .i64 k.C)/\W.cell? ⟨k.db,5,none⟩=some (.int .i64 k.S)/\W.cell? ⟨k.db,6,none⟩=some (.int .i64 k.P)/\W.cell? ⟨k.db,7,none⟩=some (.int .i64 k.par)/\W.cell? ⟨k.db,8,none⟩=some (.int .i64 k.first))/\
  (W.cell? ⟨k.db,9,none⟩=some (.slice (some ⟨k.wb,0,none⟩) k.n k.cw)/\W.cell? ⟨k.db,11,none⟩=some (.int .i64 0))):=by
  show∀W,_;rintro W ⟨v,g⟩;obtain⟨B,C,⟨D,L,E⟩,M⟩:=g.cells;exact⟨B,C,D,E⟩
 have y:Hid (∀W,(∃v,DS k W v b d f a)->Calls Tryz.prog 197 #[fs k.C k.S k.be k.bl,dw k.C k.S k.P k.par k.first,.slice (some ⟨k.wb,0,none⟩) k.n k.cw] W λe w'=>∃v,e= .returned v/\aA w' v (zl (cR k.S k.P k.par k.first a))/\Below W.heap.size W w'):=by
  show∀W,_;rintro W ⟨v,g⟩;exact zL k.C k.S k.P k.be k.bl k.par k.first a _ k.n k.cw W g.ok.vf g.lt g.hw oO x oO oO g.T g.KS
 clear h x G H J z;go_enter Tryz.func160,Tryz.ntmps160;go_wp2;refine yO (λW=>∃v,DS k W v b d f a) [1,2,3,4,5,6,7,8,9,10,11,12,13,0,14,0,15,16,0,17] ⟨j,p.out.drew⟩ ?_
 repeat refine zO r.out ?_
 refine zZ ?_;refine(y.out _ ⟨j,p.out.drew⟩).mono ?_;rintro e q ⟨v,rfl,u,hb⟩;have i:Hid (DS k q j b d f a):=p.out.drew.below hb;have s:=Lib.hid u;clear u hb p;refine⟨_,rfl,⟨j,i.out⟩,jO ?_⟩
 repeat refine zO r.out ?_
 obtain⟨l,m,o,rfl⟩:∃A n c,v= .slice A n c:=by obtain⟨A,c,e,-⟩:=s.out;exact⟨_,_,_,e⟩
 have t:Hid (DS k (q.setCell ⟨k.db,12,none⟩ (.slice l m o)) (.slice l m o) b d f a):=i.out.store 12 _ rfl;have K:Hid (aA (q.setCell ⟨k.db,12,none⟩ (.slice l m o)) (.slice l m o) (zl (cR k.S k.P k.par k.first a))):=by
  obtain⟨N,O,cz,rfl⟩:=F;exact FQ i.out i.out.cells.2.2.2.1.1 _ s.out
 refine' aX rfl (uK rfl ⟨k.db,12,none⟩ l m o rfl rfl i.out.cells.2.2.2.1.1 (i.out.cells.2.2.2.2 12)) ⟨_,t.out⟩ ?_;simp only[Act.put];refine ag ?_;generalize q.setCell ⟨k.db,12,none⟩ (.slice l m o)=P at*;clear i s y r;obtain⟨-,⟨-,-,-,Q,-⟩,⟨-,-,S⟩,-⟩:=t.out.cells;go_wp2;go_quiet (fail)
 go_wp2;go_ret;exact⟨rfl,_,t.out.below (cZ (Below.refl _ _) _),K.out.below (cZ (Below.refl _ _) _)⟩
def dN (w w':World):Prop:=∀x xs,aA w x xs->aA w' x xs
theorem dN.trans {a b c:World} (h:dN a b) (g:dN b c):dN a c:=λx xs d=>g x xs (h x xs d)
theorem dN.below {a b:World} (h:Below a.heap.size a b):dN a b:=λx xs d=>d.below h
theorem dN.store {k:DK} {wr:World} {a b d e:Value} {f:List Nat} (h:DS k wr a b d e f) {i:Nat} {A:Option Addr} {n c:Nat} (g:wr.cell? ⟨k.db,i,none⟩=some (.slice A n c)) (u:Value):dN wr (wr.setCell ⟨k.db,i,none⟩ u):=λx xs j=>FQ h g u j
section
variable {c s p : Nat} (h : VF c s p)
include h
theorem uq:ao s [1]:=λi=>by
 have a:=h.aP
 match i with
 |0=>show 1<s;omega
 |i+1=>show([1]:List Nat).getD (i+1) 0<s;simp[List.getD];omega
theorem D1:co h [1]=iM 1:=by
 funext i;unfold co iM
 match i with
 |0=>exact lK h
 |i+1=>rw[if_neg oO];exact bQ h
theorem MF {a:List Nat} (hs:ao s a) {n:Nat} (hn:a.length=n):fJ s p a [1] n a.length 0=a:=by
 refine cW (by rw[jD,hn]) λj b=>?_;rw[jD]at b;refine jK h (tB h _ _ _ _ _ j) (hs j) ?_;have:=BW h hs (uq h) b;rw[js,D1,mK,dZ]at this;exact this
theorem Mr {q:List Nat} (hq:ao s q) {n:Nat} (hn:q.length=n):fJ s p [1] q n 1 0=q:=by
 refine cW (by rw[jD,hn]) λj a=>?_;rw[jD]at a;refine jK h (tB h _ _ _ _ _ j) (hq j) ?_;have:=BW h (uq h) hq a;rw[D1,mK,dZ]at this;exact this
end
theorem Hg (k:DK) (g j l m:Value) (n:List Nat) (w:World) (h:DS k w g j l m n) (t:CY j):
 Calls Tryz.prog 161 #[.pointer (some ⟨k.db,0,none⟩)] w λe w'=>e= .returned (.bool true)/\∃v,DS k w' g v l m n/\aA w' v (zl [1])/\dN w w':=by
 obtain⟨C,n2,D,rfl⟩:=t;have a:=Lib.hid (h.below (ax w (.cells #[.int .i64 1] 3)));have u:Hid (aA (w.alloc (.cells #[.int .i64 1] 3)) (.slice (some ⟨w.heap.size,0,none⟩) 1 1) (zl [1])):=aA.lit _ [1] 3 _ 1 rfl rfl oO;have x:Hid (dN w (w.alloc (.cells #[.int .i64 1] 3))):=dN.below (ax _ _);have d:=Lib.hid (a.out.store 13 (.slice (some ⟨w.heap.size,0,none⟩) 1 1) rfl);have o:=Lib.hid (dN.store a.out a.out.cells.2.2.2.1.2.1 (.slice (some ⟨w.heap.size,0,none⟩) 1 1));have y:=a.out.cells.2.2.2.1.2.1;have q:=a.out.cells.2.2.2.2 13;obtain⟨-,-,⟨-,z,-⟩,-⟩:=d.out.cells;have f:=h.ok;have H:k.n<=4096:=by have:=f.n2;have:=f.vf.le;omega
 clear h f;go_enter Tryz.func161,Tryz.ntmps161;go_wp2;clear y q;generalize r:(w.alloc (.cells #[.int .i64 1] 3)).setCell ⟨k.db,13,none⟩ (.slice (some ⟨w.heap.size,0,none⟩) 1 1)=E at*;clear r z;have J:0<=k.n:=Nat.zero_le _;go_loop [14] (λb=>∃i:Nat,i<=k.n/\b= .int .i64 i) (λb=>k.n-(intOf b).toNat)
 case atStart=>exact⟨0,Nat.zero_le _,rfl⟩
 case round=>
  obtain⟨i,F,rfl⟩:=hrel;by_cases A:i<k.n
  ·have G:=d.out.E.2 i A;go_wp2;exact⟨⟨i+1,by omega,by go_num⟩,by simp[intOf];omega⟩
  ·have B:i=k.n:=oO;subst B;go_wp2;go_ret;exact⟨rfl,_,d.out,o.out _ _ u.out,x.out.trans o.out⟩
def xg (k:DK) (a:VF k.C k.S k.P) (e f g:Value) (d:List Nat) (w w':World) (b:Bool):Prop:=
 ∃(q:List Nat) (L:Nat),b=decide (2* (q.length-1)<=k.par)/\ao k.S q/\dA q/\1<=q.length/\q.length<=k.par+1/\lV a (co a (cR k.S k.P k.par k.first d)) k.par (co a q) L/\∃v,DS k w' e f v g d/\aA w' v (zl q)/\dN w w'
theorem ET (k:DK) (j l T g:Value) (d:List Nat) (w:World) (h:DS k w j l T g d) (y:aA w j (zl (cR k.S k.P k.par k.first d))) (E:aA w l (zl [1])) (bv:CY T):
 Calls Tryz.prog 162 #[.pointer (some ⟨k.db,0,none⟩)] w λe w'=>∃b,e= .returned (.bool b)/\xg k h.ok.vf j l g d w w' b:=by
 have a:=h.ok.vf;have a7:=a.le;have ad:=h.ok.p1;have bx:=h.ok.p2;obtain⟨f,B⟩:∃f,f=cR k.S k.P k.par k.first d:=⟨_,rfl⟩;have C:f.length=k.par:=by rw[B];unfold cR;simp
 have H:ao k.S f:=by rw[B];exact yH a h.lt
 have bz:Hid (∀w' b,(∃(q:List Nat) (L:Nat),b=decide (2* (q.length-1)<=k.par)/\ao k.S q/\dA q/\1<=q.length/\q.length<=k.par+1/\lV a (co a f) k.par (co a q) L/\∃v,DS k w' j l v g d/\aA w' v (zl q)/\dN w w')->xg k a j l g d w w' b):=by
  rw[B];exactλw' b h=>h
 have b6:h.ok.vf=a:=rfl;rw[<-B]at y;show Calls _ _ _ _ λe w'=>∃b,e= .returned (.bool b)/\xg k a j l g d w w' b;clear b6;generalize b1:xg k a j l g d w=b7 at*;clear b1;obtain⟨n,c1,rfl,a8,a9,U⟩:=aA.nat y;obtain⟨o,r,rfl,bb,bd,V⟩:=aA.nat E;obtain⟨b8,n3,b9,rfl⟩:=bv;rw[C]at h;have J:=Lib.hid h
 have z:Hid (∀W,(∃v,DS k W (.slice n k.par c1) (.slice o 1 r) v g d)->(W.cell? ⟨k.db,0,none⟩=some (.int .i64 k.C)/\W.cell? ⟨k.db,1,none⟩=some (.int .i64 k.S)/\W.cell? ⟨k.db,2,none⟩=some (.slice (some ⟨k.be,0,none⟩) (k.S-1) (k.S-1))/\W.cell? ⟨k.db,3,none⟩=some (.slice (some ⟨k.bl,0,none⟩) k.S k.S))/\
  (W.cell? ⟨k.db,7,none⟩=some (.int .i64 k.par)/\W.cell? ⟨k.db,11,none⟩=some (.int .i64 0)/\W.cell? ⟨k.db,12,none⟩=some (.slice n k.par c1)/\W.cell? ⟨k.db,13,none⟩=some (.slice o 1 r))):=by
  show∀W,_;rintro W ⟨v,be⟩;obtain⟨y,⟨-,-,-,E,-⟩,⟨-,-,bf⟩,⟨bi,bo,-,-⟩,-⟩:=be.cells;exact⟨y,E,bf,bi,bo⟩
 have al:Hid (Calls Tryz.prog 200 #[fs k.C k.S k.be k.bl,.slice n k.par c1,.slice o 1 r,.int .i64 k.par] w.drew λe w'=>∃v,e= .returned v/\aA w' v (zl f)/\Below w.drew.heap.size w.drew w'):=by
  show Calls _ _ _ _ _;have:=s5 k.C k.S k.P k.be k.bl k.par f [1] n o k.par 1 c1 r w.drew a H (uq a) C.symm rfl oO oO ad oO h.drew.T (U.below (ai (Below.refl _ _))) (V.below (ai (Below.refl _ _)));rw[MF a H C]at this;exact this
 have cv:k.par<=4094:=oO;have b2:=Lib.hid H;have D:=Lib.hid C;clear y E a8 a9 U bb bd V a7 bx H C B;go_enter Tryz.func162,Tryz.ntmps162;go_wp2;refine yO (λW=>∃v,DS k W (.slice n k.par c1) (.slice o 1 r) v g d) [1,2,3,4,5,6,7,8,9,10,11,12,13,14,15,16,17,0,18,0,19] ⟨_,J.out.drew⟩ ?_
 repeat refine zO z.out ?_
 refine zZ ?_;refine al.out.mono ?_;rintro e F ⟨v1,rfl,am,N⟩;obtain⟨ca,X,rfl,cq,lH,ap⟩:=aA.nat am;rw[D.out];have x:=Lib.hid (J.out.drew.below N);have av:Hid (dN w F):=dN.below ((ai (Below.refl _ _)).trans N);obtain⟨K,rfl,a5,a0⟩:=ap (by rw[aw,D.out];exact ad);have cx:k.par<=X:=by rw[<-D.out];assumption
 have a6:RD F (some K) (zl f):=λ_=>⟨K,rfl,a5,a0⟩;have a1:=Lib.hid a6;clear am N ap al a5 a0 a6;refine⟨_,rfl,⟨_,x.out⟩,jO ?_⟩
 repeat refine zO z.out ?_
 refine ag ?_;go_wp2;refine yO (λW=>∃v,DS k W (.slice n k.par c1) (.slice o 1 r) v g d) [1,2,3,4,5,6,7,8,9,10,0,11,12,0,13,14,0,15] ⟨_,x.out.drew⟩ ?_
 repeat refine zO z.out ?_
 refine' zQ (w':=F.drew) rfl (by go_simp;rfl) ⟨_,x.out.drew⟩ ?_;refine zZ ?_;refine(Cf k.C k.S k.P k.be k.bl f (some K) k.par X F.drew a b2.out D.out.symm oO x.out.drew.T (a1.out.below (ai (Below.refl _ _)))).mono ?_;rintro e Y ⟨cb,rfl,q,L,O,Z,ab,bq,bs,ac,P⟩;obtain⟨t,u,rfl,ce,ch,bt⟩:=aA.nat O;have i:=Lib.hid (x.out.drew.below P);have a2:Hid (dN w Y):=av.out.trans (dN.below ((ai (Below.refl _ _)).trans P));have a3:=Lib.hid O;have M:Hid (ao k.S q/\dA q/\lV a (co a f) k.par (co a q) L):=⟨Z,ab,ac⟩;clear O bt P a1 av x J Z ab ac;refine⟨_,rfl,⟨_,i.out⟩,jO ?_⟩
 repeat refine zO z.out ?_
 have Q:=Lib.hid (i.out.store 14 (.slice t q.length u) rfl);have b3:=Lib.hid (a2.out.trans (dN.store i.out i.out.cells.2.2.2.1.2.2.1 (.slice t q.length u)));have b4:=Lib.hid (FQ i.out i.out.cells.2.2.2.1.2.2.1 (.slice t q.length u) a3.out);refine' aX rfl (uK rfl ⟨k.db,14,none⟩ t q.length u rfl rfl i.out.cells.2.2.2.1.2.2.1 (i.out.cells.2.2.2.2 14)) ⟨_,Q.out⟩ ?_;simp only[Act.put];refine ag ?_;generalize Y.setCell ⟨k.db,14,none⟩ (.slice t q.length u)=ci at*;obtain⟨-,⟨-,-,-,ck,-⟩,⟨-,-,cs⟩,⟨-,-,b5,-⟩,-⟩:=Q.out.cells;obtain⟨m,G⟩:∃m,q.length=m+1:=⟨q.length-1,by omega⟩;have A:=Lib.hid G;rw[G]at b5 bs;rw[G];have e1:IntKind.i64.wrap (((m+1:Nat):Int)-1)=(m:Int):=by rw[aF _ oO oO];omega
 have e2:IntKind.i64.wrap (2* (m:Int))=((2* m:Nat):Int):=by rw[aF _ oO oO];omega
 have e4:wrap64 ((2* m:Nat):Int)=((2* m:Nat):Int):=by unfold wrap64;omega
 have S:Hid (2* m=2* m):=rfl;clear i a3 a2 z G bq
 revert S
 generalize a4:2* m=cp at*;intro _;have S:=Lib.hid a4;clear a4;go_wp2;go_quiet (fail)
 go_wp2;go_ret;refine⟨_,rfl,bz.out _ _ ⟨q,L,?_,M.out.1,M.out.2.1,by rw[A.out];omega,by rw[A.out];omega,M.out.2.2,.slice t (m+1) u,?_,?_,?_⟩⟩
 ·rw[A.out,Nat.add_sub_cancel,S.out]
 ·have:=Q.out;rw[A.out]at this;rw[D.out];exact this.below (cZ (Below.refl _ _) _)
 ·have:=b4.out;rw[A.out]at this;exact this.below (cZ (Below.refl _ _) _)
 ·exact b3.out.trans (dN.below (cZ (Below.refl _ _) _))
theorem RD.grown {w W:World} {A:Option Addr} {xs:List Int} {row:Option Nat} (h:RD w A xs) (hg:w.grownBy W row) (b:∀a,A=some a->some a.block≠row):RD W A xs:=λhn=>by
 obtain⟨a,e,hl,hc⟩:=h hn;refine⟨a,e,Nat.lt_of_lt_of_le hl hg.size,λj c=>?_⟩;rw[hg.cell_far (a.add j) (by rw[aJ];exact hl) (by rw[aJ];exact b a e)];exact hc j c
theorem dN.grown {w wr W:World} {row:Option Nat} (d:dN w wr) (hg:wr.grownBy W row) (l:∀q,row=some q->w.heap.size<=q):dN w W:=λx xs a=>by
 obtain⟨A,c,e,f,g,i⟩:=d x xs a;obtain⟨m,n,b,-,-,k⟩:=a;rw[e]at b;injection b with e1 e2 e3;subst e1;refine⟨A,c,e,f,g,λhn=>?_⟩;obtain⟨p,j,r,-⟩:=k hn
 exact i.grown hg (λo e4 e5=>by
  rw[j]at e4;injection e4 with e4;subst e4;have:=l _ e5.symm
  omega) hn
theorem DS.grown {k:DK} {wr W:World} {a b c d:Value} {e:List Nat} {row:Option Nat} (h:DS k wr a b c d e) (hg:wr.grownBy W row) (f:∀q,row=some q->k.M<=q):DS k W a b c d e:=
 h.Gg ((Below.refl _ _).grown hg h.sz f) hg.size
theorem wv (C S P a bl x:Nat) (l:List Nat) (n:Nat) (i:n=l.length) (A:Option Addr) (b:Nat) (w:World) (c:VF C S P) (d:x<S) (hl:ao S l) (hn:n<=4097) (f:dh w S P a bl) (g:RD w A (zl l)):
 Calls Tryz.prog 202 #[fs C S a bl,.slice A n b,.int .i64 x] w λe w'=>e= .returned (.int .i64 ((hornN S P x l:Nat):Int))/\Below w.heap.size w w':=by
 subst i;exact E0 C S P a bl x l A b w c d hl hn f g
noncomputable def mU (s p n:Nat) (q:List Nat) (i:Nat):List Nat:=(List.range i).filter λj=>hornN s p (ik s p n j) q==0
theorem IS {s p n:Nat} {q:List Nat} {i:Nat} (h:hornN s p (ik s p n i) q=0):mU s p n q (i+1)=mU s p n q i++[i]:=by
 unfold mU;rw[List.range_succ,List.filter_append];simp[h]
theorem La {s p n:Nat} {q:List Nat} {i:Nat} (h:hornN s p (ik s p n i) q≠0):mU s p n q (i+1)=mU s p n q i:=by
 unfold mU;rw[List.range_succ,List.filter_append];simp[h]
def xp (k:DK) (d e f:Value) (g q:List Nat) (w w':World) (b:Bool):Prop:=
 b=decide ((iq k.S k.P k.n q).length=q.length-1)/\∃v,DS k w' d e f v g/\aA w' v (zl (iq k.S k.P k.n q))/\(∀A n c a,v= .slice A n c->A=some a->a.block≠k.wb)/\dN w w'
theorem FR (k:DK) (o p N:Value) (r q:List Nat) (w:World) (h:DS k w o p N (.slice none 0 0) r) (O:aA w N (zl q)) (hq:ao k.S q) (dx:1<=q.length) (a4:q.length<=4097):
 Calls Tryz.prog 163 #[.pointer (some ⟨k.db,0,none⟩)] w λe w'=>∃b,e= .returned (.bool b)/\xp k o p N r q w w' b:=by
 obtain⟨bq,bs,cb,ce,ch⟩:=info_parts dg;have C:=h.ok.vf;have c7:=C.le;have dy:=C.aP;have ci:=h.ok.n2;obtain⟨t,u,rfl,bt,bv,bx⟩:=aA.nat O;have bz:=Lib.hid hq;have dz:Hid (∀w' b,xp k o p (.slice t q.length u) r q w w' b->xp k o p (.slice t q.length u) r q w w' b):=λw' b h=>h;obtain⟨m,P⟩:∃m,q.length=m+1:=⟨q.length-1,by omega⟩;have Q:=Lib.hid P;rw[P]at h a4;have b1:=Lib.hid h;have ck:=Lib.hid O;have a5:Hid (k.M<=w.heap.size):=h.sz;obtain⟨-,-,⟨-,a6,-⟩,-⟩:=h.cells;obtain⟨l,a0⟩:∃l,l=k.S-1:=⟨_,rfl⟩;have dE:IntKind.i64.wrap ((k.S:Int)-1)=(l:Int):=by rw[aF _ oO oO];omega
 have co:k.n<=l:=oO;have d0:l<=4095:=oO;have b2:=Lib.hid a0;obtain⟨n,hn⟩:∃n,n=k.n:=⟨_,rfl⟩;rw[<-hn]at a6 co;have z:=Lib.hid hn;generalize a7:xp k o p (.slice t q.length u) r q w=c8 at*;have cp:=Lib.hid a7;clear h O hq bt bv bx P ci a0 hn a7;go_enter Tryz.func163,Tryz.ntmps163;go_wp2;clear a6;go_loopw [3,12] (λb3 S wr=>∃i f:Nat,i<=n/\f<=i/\S= .int .i64 i/\b3= .int .i64 f/\Hid (f=(mU k.S k.P n q i).length)/\Hid (∃T,DS k wr o p (.slice t (m+1) u) T r/\wr.ownsRow w.heap.size 3 1 T f ((mU k.S k.P n q i).map vN))/\Hid (dN w wr)/\Hid (w.heap.size<=wr.heap.size)) (λ_ S _=>n-(intOf S).toNat)
 case atStart=>exact⟨0,0,Nat.zero_le _,Nat.le_refl _,rfl,rfl,rfl,⟨_,b1.out,World.ownsRow_nil _ _ _ _⟩,λx xs U=>U,Nat.le_refl _⟩
 case round=>
  obtain⟨i,f,d1,d2,rfl,rfl,V,⟨T,a1,X⟩,H,ab⟩:=hrel;have a:=Lib.hid a1;have K:=Lib.hid X;obtain⟨b4,b5,rfl⟩:=cU X;clear a1 X;by_cases a8:i<n
  ·have U:=a.out.E.2 i (by rw[<-z.out];exact a8);obtain⟨B,ac⟩:∃B,B=n-1-i:=⟨_,rfl⟩;obtain⟨x,a9⟩:∃x,x=l-B:=⟨_,rfl⟩;have d3:IntKind.i64.wrap ((l:Int)-(B:Int))=(x:Int):=by rw[aF _ oO oO];omega
   obtain⟨v,D⟩:∃v,v=ik k.S k.P n i:=⟨_,rfl⟩;have cq:Hid (iV k.S k.P x=v):=by show _=_;rw[D,a9,ac,b2.out];rfl
   have cs:Hid (v<k.S):=by show _<_;rw[D];exact jd C _
   have cv:Hid (k.n-1-i=B):=by show _=_;rw[ac,z.out]
   have cx:x<=100000000:=oO;obtain⟨s,L⟩:∃s,s=hornN k.S k.P v q:=⟨_,rfl⟩;have Y:Hid (s=0->mU k.S k.P n q (i+1)=mU k.S k.P n q i++[i]):=by show _->_;intro e;exact IS (by rw[<-D,<-L];exact e)
   have ad:Hid (s≠0->mU k.S k.P n q (i+1)=mU k.S k.P n q i):=by show _->_;intro e;exact La (by rw[<-D,<-L];exact e)
   have cN:=Lib.hid L;have j:Hid (∀W,af wr W->(W.cell? ⟨k.db,0,none⟩=some (.int .i64 k.C)/\W.cell? ⟨k.db,1,none⟩=some (.int .i64 k.S)/\W.cell? ⟨k.db,2,none⟩=some (.slice (some ⟨k.be,0,none⟩) (k.S-1) (k.S-1))/\W.cell? ⟨k.db,3,none⟩=some (.slice (some ⟨k.bl,0,none⟩) k.S k.S))/\W.cell? ⟨k.db,14,none⟩=some (.slice t (m+1) u)):=by
    show∀W,_;intro W b6;obtain⟨a2,-,-,⟨-,-,b7,-⟩,-⟩:=(a.out.below b6).cells;exact⟨a2,b7⟩
   clear ac a9 D L;go_wp2;clear U;refine yO (af wr) [1,2,3,4,5,6,7,8,9,10,11,12,0,13,0,14,0,15,0,16] (ai (Below.refl _ _)) ?_
   repeat refine zO j.out ?_
   refine zZ ?_;refine(zM k o p _ _ r i _ a.out.drew (by rw[<-z.out];exact a8)).mono ?_;rintro e c9 ⟨rfl,rfl⟩;rw[cv.out];refine⟨_,rfl,(ai (Below.refl _ _)),jO ?_⟩
   repeat refine zO j.out ?_
   refine zZ ?_;refine(lP k.C k.S k.P k.be k.bl x _ C cx a.out.drew.T).mono ?_;rintro e b8 ⟨rfl,bb⟩;rw[cq.out];have y:Hid (af wr b8):=(ai (Below.refl _ _)).trans bb;clear bb;refine⟨_,rfl,y.out,jO ?_⟩
   repeat refine zO j.out ?_
   refine ag ?_;go_wp2;refine yO (af wr) [1,2,3,4,5,6,7,8,9,10,11,12,0,13,0,14,15] (ai y.out) ?_
   repeat refine zO j.out ?_
   repeat refine zX j.out ?_
   refine zZ ?_;have bd:=H.out _ _ ck.out;refine(wv k.C k.S k.P k.be k.bl v q (m+1) Q.out.symm t u _ C cs.out bz.out a4 (a.out.below (ai y.out)).T ?_).mono ?_
   ·obtain⟨da,dd,e,-,-,Z⟩:=bd.below (ai y.out);injection e with e1 e2 e3;rw[e1];exact Z
   rintro e J ⟨rfl,be⟩;rw[<-cN.out];have E:Hid (af wr J):=(ai y.out).trans (be.mono (ai y.out).size);clear be bd;refine⟨_,rfl,E.out,jO ?_⟩
   repeat refine zX j.out ?_
   repeat refine zO j.out ?_
   refine ag ?_;have al:=Lib.hid (a.out.below E.out);have M:=Lib.hid (au K.out E.out);have bf:Hid (dN w J):=H.out.trans (dN.below E.out);have bi:=E.out.size;have am:=Lib.hid bi;have d4:=al.out.cells.2.2.2.1.2.2.2;clear bi H a K j;by_cases bo:s=0
   ·have b9:((s:Int)==0)=true:=by rw[beq_iff_eq];omega
    have F:=Lib.hid (Y.out bo);have d5:f<=4096:=oO;clear Y ad;go_wp2_with(at_builtin;refine aV (f:=vN) (d:=0) wj rfl _ _ _ rfl w.heap.size 3 bq _ 8 Tryz.underlying64 bs cb ce ch rfl _ f (mU k.S k.P n q i) rfl (M.out.alloc _) (some ⟨J.heap.size,0,none⟩) 1 1 [i] rfl rfl (RG.one _ _ _ _ rfl) oM oO (by have:=ab.out;have:=am.out;simp;omega) ?_;intro de a3 av hg;obtain⟨dk,dl,rfl⟩:=cU av;have G:=Lib.hid ((al.out.below (ax _ _)).grown hg (λg ap=>Nat.le_trans a5.out (M.out.lt g ap).1));have c2:Hid (dN w a3):=(bf.out.trans (dN.below (ax _ _))).grown hg (λg ap=>(M.out.lt g ap).1);have c3:=Lib.hid av;have c4:=G.out.cells.2.2.2.1.2.2.2;have dn:=G.out.cells.2.2.2.2 15;have c5:Hid (J.heap.size<=a3.heap.size):=Nat.le_trans oS hg.size;clear av hg)
    refine⟨⟨i+1,f+1,by omega,by omega,by go_num,by go_num,?_,⟨_,G.out.store 15 _ rfl,?_⟩,c2.out.trans (dN.store G.out c4 _),by have:=c5.out;have:=ab.out;have:=am.out;show _<=_;simp;omega⟩,by simp[intOf];omega⟩
    ·show _=_;rw[F.out,List.length_append,<-V.out];rfl
    ·rw[F.out];exact lZ c3.out ⟨k.db,15,none⟩ G.out.R.tag oD _
   ·have b9:((s:Int)==0)=false:=by rw[beq_eq_false_iff_ne];omega
    have F:=Lib.hid (ad.out bo);clear Y ad;go_wp2;exact⟨⟨i+1,f,by omega,by omega,by go_num,rfl,by rw[F.out];exact V.out,⟨_,al.out,by rw[F.out];exact M.out⟩,bf.out,Nat.le_trans ab.out am.out⟩,by simp[intOf];omega⟩
  ·obtain rfl:i=n:=oO;have d6:=a.out.cells.2.2.2.1.2.2.1;have ca:Hid (f=(iq k.S k.P k.n q).length):=by show _=_;rw[V.out,<-z.out];rfl
   have e1:(((m+1:Nat):Int)-1)=(m:Int):=oO;have c6:Hid (aA wr (.slice b4 f b5) (zl (iq k.S k.P k.n q))):=by
    show aA _ _ _;have:=SG.cd (f:=vN) (d:=0) K.out;have Z:=aA.AK this;rw[<-z.out];exact Z
   go_wp2;go_ret;refine⟨_,rfl,?_⟩;rw[<-cp.out];refine⟨?_,_,by rw[Q.out];exact a.out,c6.out,?_,H.out⟩
   ·rw[Q.out,Nat.add_sub_cancel,<-ca.out]
    first
     |rfl
     |(rw[Bool.eq_iff_iff];simp;exact Int.ofNat_inj)
   ·intro A dp c ds e1 e2;injection e1 with e3 e4 e5;subst e3;subst e2;rcases K.out.2 with⟨e6,-⟩|⟨g,cap,d7,e6,d8,-⟩
    ·injection e6 with e7;cases e7
    ·injection e6 with e7;injection e7 with e7;have a2:=a.out.ok.m.2.2.1;have dv:=a5.out;rw[e7];show g≠k.wb;omega
end
end Go.Proofs.YtmnlkganmgcpbaaGreatDoor
