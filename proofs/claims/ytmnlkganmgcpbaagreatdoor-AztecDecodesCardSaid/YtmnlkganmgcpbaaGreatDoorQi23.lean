import Derived.Test.YtmnlkganmgcpbaaGreatDoorQi22
set_option maxRecDepth 100000
set_option maxHeartbeats 4000000
set_option linter.unusedVariables false
set_option linter.unusedSectionVars false
set_option linter.unusedSimpArgs false
set_option linter.defProp false
open Go.Value renaming int->I
open Go.IntKind renaming i64->J
open Bool renaming false->R,true->wP,false_eq_true->Ax
open Option renaming none->U,some->gk
open Go renaming World->wR,Calls->wS,Value->xf,bodyPost_ret->y4,frozen_of_row->CH,results->HD
open Go.Proofs.Tryz renaming prog->w1,results69->Wd,results61->We,ntmps69->Wy,ntmps61->Wz,func69->WR,func61->WS
open Go.RowKit renaming Hid->w2,Below->y5
open List renaming length_append->w9,range->y3,not_mem_nil->Ay,mem_cons->AQ,range_succ->Hx,flatMap_append->Un,take_succ_eq_append_getElem->UI,flatMap_cons->Vk,flatMap_singleton->Vt
open _root_ renaming if_false->Rk
open Go.Proofs.Tryz
namespace Go.Proofs.YtmnlkganmgcpbaaGreatDoor
section
open Go.RowKit
theorem gf.below {S a f first:Nat} {b:List Nat} {w c d:wR} {e:Ending} (hb:af w c) (h:gf S a f first b c e d):gf S a f first b w e d:=⟨ae hb h.1,h.2⟩
theorem r5 (c S a b first:Nat) (d:List Nat) (n:Nat) (A:Option Addr) (m:Nat) (w:wR) (h:eD c S a b first) (hn:n=d.length) (hl:ak S d) (P:b<n) (D:n<=S-1) (t:RD w A (zl d)):
 wS w1 68 #[bZ c S a b first,.slice A n m,.slice U 0 0] w (gf S a b first d w):=by
 have Q:=aa h;obtain⟨s3,T⟩:=h.s3;have a9:=h.p1;have bb:1<=n:=oO;have bd:n<=4095:=oO;have E:=kE w c S a b first
 obtain⟨o,X⟩:∃o,S=o+1:=⟨S-1,by omega⟩;have e1:(S:Int)-1=(o:Int):=oO;have be:n<=o:=oO;have a0:w2 (∀W,af w W->wS w1 122 #[aU c S a,.slice A n m] W (au (.bool wP) W)):=λW f=>KU c S a d n A m W hn hl oO T (t.below f);have a4:w2 (∀W eb,af w W->lS W eb n->wS w1 124 #[bZ c S a b first,.slice A n m,.slice (gk ⟨eb,0,U⟩) n n,I J 0] W (gf S a b first d W)):=λW eb f hb=>GV c S a b first d n A m eb W h hn hl P D (t.below f) hb
 have q:w2 (af w ((w.alloc (iB c S a b first)).alloc (.cells #[aS,aS] 98))):=ah (ax _ _) _;have a1:w2 (∀W,af ((w.alloc (iB c S a b first)).alloc (.cells #[aS,aS] 98)) W->ag W (w.heap.size+1) #[aS,aS] 98):=by
  show∀W,_;intro W f;have Y:ag ((w.alloc (iB c S a b first)).alloc (.cells #[aS,aS] 98)) (w.heap.size+1) #[aS,aS] 98:=ag.new _ _ _ _ oS;exact Y.below f
 have r:w2 (∀W,af ((w.alloc (iB c S a b first)).alloc (.cells #[aS,aS] 98)) W->W.cell? ⟨w.heap.size,0,U⟩=gk (I J c)/\W.cell? ⟨w.heap.size,1,U⟩=gk (I J S)/\W.cell? ⟨w.heap.size,2,U⟩=gk (I J a)/\W.cell? ⟨w.heap.size,3,U⟩=gk (I J b)/\W.cell? ⟨w.heap.size,4,U⟩=gk (I J first)):=λW f=>E.out W (ae (ax _ _) f);obtain⟨g,i,j,k,l⟩:=r.out _ (Below.refl _ _);clear h hl t hn D X E;go_enter func68,ntmps68
 go_wp2_with(first
  |(go_at_call 121;refine(JI c S a b first _ Q.out).mono ?_;rintro e a5 ⟨rfl,H⟩;have x:=aa H;clear H g i j k l;obtain⟨g,i,j,k,l⟩:=r.out _ x.out)
  |(go_at_call 122;refine(a0.out _ (ae q.out x.out)).mono ?_;rintro e a6 ⟨rfl,K⟩;have L:=aa (ae x.out K);clear K g i j k l;obtain⟨g,i,j,k,l⟩:=r.out _ L.out))
 refine wp_loop_rounds 1 ?_;rw[rounds_succ]
 go_wp2_with(first
  |(go_at_call 123;refine(Jk n _ oO).mono ?_;rintro e a7 ⟨eb,rfl,M,N⟩;have a2:=aa M;have y:=aa (ae L.out N);clear M N g i j k l;obtain⟨g,i,j,k,l⟩:=r.out _ y.out)
  |(go_at_call 124;refine(a4.out _ eb (ae q.out y.out) a2.out).mono ?_;rintro e Z ⟨O,ab⟩;have z:=aa (ae y.out O);have s:=aa (a1.out _ z.out);have c0:=eu s.out;have c1:=ia s.out;have ac:=bN 0 s.out;have ad:=bN 1 s.out;rcases ab with⟨v,V,a8,p,rfl,u,B⟩|⟨p,rfl⟩;obtain⟨F,G,e5,-⟩:=az.nat u;obtain⟨al,am,e6,-⟩:=az.nat B;subst e5;subst e6;have ap:=aa u;have a3:=aa B;have av:=aa p;clear u B p O))
 ·have C:=aa (ae q.out z.out);have e1:(Z.setCell ⟨w.heap.size+1,0,U⟩ (.slice F v.length G)).cell? ⟨w.heap.size+1,1,U⟩=gk aS:=by rw[World.cell?_setCell_other _ _ _ _ oS];exact c1
  refine y4 (v:= .tuple #[.agg #[.slice F v.length G,.slice al (cf d v).length am],I J 0]) (by simp[HD,results68,go_sem,c0,c1,ac,ad]) rfl ⟨(C.out.setCell oS _).setCell oS _,.inl ⟨v,_,_,av.out,rfl,((ap.out.iJ _ c0 _).iJ _ e1 _),((a3.out.iJ _ c0 _).iJ _ e1 _)⟩⟩
 ·have C:=aa (ae q.out z.out);refine y4 (v:= .tuple #[.agg #[aS,aS],I J 17]) (by simp[HD,results68,go_sem,c0,c1]) rfl ⟨(C.out.setCell oS _).setCell oS _,.inr ⟨p,rfl⟩⟩
def kK (w:Nat):Nat:=if w=6 then 67 else if w=8 then 301 else if w=10 then 1033 else if w=12 then 4201 else 19
def nW (w:Nat):Prop:=w=4\/w=6\/w=8\/w=10\/w=12
theorem Pr {w:Nat} (h:nW w):VF 2 (2^w) (kK w):=by
 rcases h with rfl|rfl|rfl|rfl|rfl
 ·exact .inr ⟨4,by omega,by omega,by kernel_rfl,rfl,rfl,by kernel_rfl⟩
 ·exact .inr ⟨6,by omega,by omega,by kernel_rfl,rfl,rfl,by kernel_rfl⟩
 ·exact .inr ⟨8,by omega,by omega,by kernel_rfl,rfl,rfl,by kernel_rfl⟩
 ·exact .inr ⟨10,by omega,by omega,by kernel_rfl,rfl,rfl,by kernel_rfl⟩
 ·exact .inr ⟨12,by omega,by omega,by kernel_rfl,rfl,rfl,by kernel_rfl⟩
theorem D2 {w a:Nat} (h:nW w) (b:1<=a) (c:a<=2^w-2):eD 2 (2^w) (kK w) a 1:=⟨Pr h,b,c,by rcases h with rfl|rfl|rfl|rfl|rfl<;>decide⟩
theorem mE (L:Nat):nW (aw L):=by rcases gF L with h|h|h|h<;>rw[h]<;>simp[nW]
theorem rT {w:Nat} (h:nW w):jA (w:Int) (kK w:Int)=fE 2 ((2^w:Nat):Int) (kK w:Int) 0:=by
 have b:=lH (Pr h);have a:(1:Int)<=(w:Int)/\(w:Int)<=12:=by rcases h with rfl|rfl|rfl|rfl|rfl<;>omega
 unfold jA tk;have c:iF (kK w:Int) (w:Int)=wP:=by rw[<-Iq _ _ a.1 a.2,Int.toNat_natCast];exact b
 rw[Int.toNat_natCast,if_pos (by simpa using⟨a,c⟩)]
theorem uC {L:Nat} {c:Bool} (a:1<=L) (h:L<=32) (hc:c=wP->L<=4):aJ L c<=2^aw L-1/\17<=aJ L c:=by
 cases c with
 |true=>
  have b:=hc rfl;obtain rfl|rfl|rfl|rfl:L=1\/L=2\/L=3\/L=4:=oO
  all_goals decide
 |false=>
  have:∀k,k<33->1<=k->aJ k R<=2^aw k-1/\17<=aJ k R:=by decide
  exact this L oO a
theorem bP {n a:Nat} {w W:wR} {v:xf} (h:y5 n w W):y5 n w (W.setCell ⟨n,a,U⟩ v):=h.setCell (Nat.le_refl _) _
theorem Pc (w:wR):wS w1 110 #[I J 4,I J 19] w (au (.tuple #[.agg #[I J 2,I J 16,I J 19],I J 0]) w):=by
 have h:=nE 4 19 w oO;have e:jA 4 19=fE 2 16 19 0:=rT (w:=4) (by simp[nW]);rw[e]at h;exact h
theorem Lj (w:wR):wS w1 125 #[I J 4,I J 19] w (au (.tuple #[.agg #[I J 2,I J 16,I J 19],I J 0]) w):=by
 have h:=mj 4 19 w oO;have e:jA 4 19=fE 2 16 19 0:=rT (w:=4) (by simp[nW]);rw[e]at h;exact h
theorem vx (b:Nat) (w:wR) (h:eD 2 16 19 b 1):wS w1 61 #[I J 4,I J b] w (au (.tuple #[bZ 2 16 19 b 1,I J 0]) w):=by
 have j:w2 (∀W,wS w1 111 #[.agg #[I J 2,I J 16,I J 19],I J b,I J 1] W (au (.tuple #[.agg #[I J 2,I J 16,I J 19,I J b,I J 1],I J 0]) W)):=λW=>qM 2 16 19 b 1 W h;have k:w2 (∀W,wS w1 110 #[I J 4,I J 19] W (au (.tuple #[.agg #[I J 2,I J 16,I J 19],I J 0]) W)):=λW=>Pc W;obtain⟨c,d⟩:∃c,c=w.alloc (.cells #[I J 0,I J 0,I J 0,I J 0,I J 0] 91):=⟨_,rfl⟩;have u:w2 (af w c):=by show y5 _ _ _;rw[d];exact ax _ _
 have v:w2 (ag c w.heap.size #[I J 0,I J 0,I J 0,I J 0,I J 0] 91):=by show ag _ _ _ _;rw[d];exact ag.new _ _ _ _ oS
 clear h;go_enter WS,Wz
 go_wp2_with(first
  |(go_at_call 110;refine(k.out _).mono ?_;rintro e z ⟨rfl,f⟩;rw[<-d]at f;have x:=aa f;clear f)
  |(go_at_call 111;refine(j.out _).mono ?_;rintro e l ⟨rfl,g⟩;have i:=aa (ae (ah x.out _) g);clear g;have a:=aa (v.out.below i.out);have c0:=eu a.out;have c1:=ia a.out;have m:=kt a.out;have n:=mP a.out;have o:=nV a.out;have p:=bN 0 a.out;have q:=bN 1 a.out;have r:=bN 2 a.out;have s:=bN 3 a.out;have t:l.frozen? ⟨w.heap.size,4,U⟩=R:=CH _ _ _ _ _ a.out))
 have y:=aa (ae u.out i.out);refine y4 (v:= .tuple #[bZ 2 16 19 b 1,I J 0]) (by simp[HD,We,go_sem,c0,c1,m,n,o,p,q,r,s,t]) rfl ⟨rfl,?_⟩;exact bP (bP (bP (bP (bP y.out))))
theorem s9 (c:Nat) (w:wR):wS w1 69 #[I J 4,I J c] w (au (bZ 2 16 19 c 1) w):=by
 have i:w2 (∀W,wS w1 125 #[I J 4,I J 19] W (au (.tuple #[.agg #[I J 2,I J 16,I J 19],I J 0]) W)):=λW=>Lj W;obtain⟨b,d⟩:∃b,b=w.alloc (.cells #[I J 0,I J 0,I J 0,I J 0,I J 0] 91):=⟨_,rfl⟩;have s:w2 (af w b):=by show y5 _ _ _;rw[d];exact ax _ _
 have t:w2 (ag b w.heap.size #[I J 0,I J 0,I J 0,I J 0,I J 0] 91):=by show ag _ _ _ _;rw[d];exact ag.new _ _ _ _ oS
 go_enter WR,Wy;go_wp2_with(go_at_call 125;refine(i.out _).mono ?_;rintro e j ⟨rfl,f⟩;rw[<-d]at f;have g:=aa f;clear f;have a:=aa (t.out.below g.out);have c0:=eu a.out;have c1:=ia a.out;have k:=kt a.out;have l:=mP a.out;have m:=nV a.out;have n:=bN 0 a.out;have o:=bN 1 a.out;have p:=bN 2 a.out;have q:=bN 3 a.out;have r:=bN 4 a.out;have b0:w.heap.size<j.heap.size:=ay a.out)
 have u:=aa (ae s.out g.out);refine y4 (v:=bZ 2 16 19 c 1) (by simp[HD,Wd,go_sem,c0,c1,k,l,m,n,o,p,q,r,b0]) rfl ⟨rfl,?_⟩;exact ah (bP (bP (bP (bP (bP u.out))))) _
theorem NY (w:wR):wS w1 110 #[I J 6,I J 67] w (au (.tuple #[.agg #[I J 2,I J 64,I J 67],I J 0]) w):=by
 have h:=nE 6 67 w oO;have e:jA 6 67=fE 2 64 67 0:=rT (w:=6) (by simp[nW]);rw[e]at h;exact h
theorem L5 (w:wR):wS w1 125 #[I J 6,I J 67] w (au (.tuple #[.agg #[I J 2,I J 64,I J 67],I J 0]) w):=by
 have h:=mj 6 67 w oO;have e:jA 6 67=fE 2 64 67 0:=rT (w:=6) (by simp[nW]);rw[e]at h;exact h
theorem LB (b:Nat) (w:wR) (h:eD 2 64 67 b 1):wS w1 61 #[I J 6,I J b] w (au (.tuple #[bZ 2 64 67 b 1,I J 0]) w):=by
 have j:w2 (∀W,wS w1 111 #[.agg #[I J 2,I J 64,I J 67],I J b,I J 1] W (au (.tuple #[.agg #[I J 2,I J 64,I J 67,I J b,I J 1],I J 0]) W)):=λW=>qM 2 64 67 b 1 W h;have k:w2 (∀W,wS w1 110 #[I J 6,I J 67] W (au (.tuple #[.agg #[I J 2,I J 64,I J 67],I J 0]) W)):=λW=>NY W;obtain⟨c,d⟩:∃c,c=w.alloc (.cells #[I J 0,I J 0,I J 0,I J 0,I J 0] 91):=⟨_,rfl⟩;have u:w2 (af w c):=by show y5 _ _ _;rw[d];exact ax _ _
 have v:w2 (ag c w.heap.size #[I J 0,I J 0,I J 0,I J 0,I J 0] 91):=by show ag _ _ _ _;rw[d];exact ag.new _ _ _ _ oS
 clear h;go_enter WS,Wz
 go_wp2_with(first
  |(go_at_call 110;refine(k.out _).mono ?_;rintro e z ⟨rfl,f⟩;rw[<-d]at f;have x:=aa f;clear f)
  |(go_at_call 111;refine(j.out _).mono ?_;rintro e l ⟨rfl,g⟩;have i:=aa (ae (ah x.out _) g);clear g;have a:=aa (v.out.below i.out);have c0:=eu a.out;have c1:=ia a.out;have m:=kt a.out;have n:=mP a.out;have o:=nV a.out;have p:=bN 0 a.out;have q:=bN 1 a.out;have r:=bN 2 a.out;have s:=bN 3 a.out;have t:l.frozen? ⟨w.heap.size,4,U⟩=R:=CH _ _ _ _ _ a.out))
 have y:=aa (ae u.out i.out);refine y4 (v:= .tuple #[bZ 2 64 67 b 1,I J 0]) (by simp[HD,We,go_sem,c0,c1,m,n,o,p,q,r,s,t]) rfl ⟨rfl,?_⟩;exact bP (bP (bP (bP (bP y.out))))
theorem Kj (c:Nat) (w:wR):wS w1 69 #[I J 6,I J c] w (au (bZ 2 64 67 c 1) w):=by
 have i:w2 (∀W,wS w1 125 #[I J 6,I J 67] W (au (.tuple #[.agg #[I J 2,I J 64,I J 67],I J 0]) W)):=λW=>L5 W;obtain⟨b,d⟩:∃b,b=w.alloc (.cells #[I J 0,I J 0,I J 0,I J 0,I J 0] 91):=⟨_,rfl⟩;have s:w2 (af w b):=by show y5 _ _ _;rw[d];exact ax _ _
 have t:w2 (ag b w.heap.size #[I J 0,I J 0,I J 0,I J 0,I J 0] 91):=by show ag _ _ _ _;rw[d];exact ag.new _ _ _ _ oS
 go_enter WR,Wy;go_wp2_with(go_at_call 125;refine(i.out _).mono ?_;rintro e j ⟨rfl,f⟩;rw[<-d]at f;have g:=aa f;clear f;have a:=aa (t.out.below g.out);have c0:=eu a.out;have c1:=ia a.out;have k:=kt a.out;have l:=mP a.out;have m:=nV a.out;have n:=bN 0 a.out;have o:=bN 1 a.out;have p:=bN 2 a.out;have q:=bN 3 a.out;have r:=bN 4 a.out;have b0:w.heap.size<j.heap.size:=ay a.out)
 have u:=aa (ae s.out g.out);refine y4 (v:=bZ 2 64 67 c 1) (by simp[HD,Wd,go_sem,c0,c1,k,l,m,n,o,p,q,r,b0]) rfl ⟨rfl,?_⟩;exact ah (bP (bP (bP (bP (bP u.out))))) _
theorem Na (w:wR):wS w1 110 #[I J 8,I J 301] w (au (.tuple #[.agg #[I J 2,I J 256,I J 301],I J 0]) w):=by
 have h:=nE 8 301 w oO;have e:jA 8 301=fE 2 256 301 0:=rT (w:=8) (by simp[nW]);rw[e]at h;exact h
theorem LA (w:wR):wS w1 125 #[I J 8,I J 301] w (au (.tuple #[.agg #[I J 2,I J 256,I J 301],I J 0]) w):=by
 have h:=mj 8 301 w oO;have e:jA 8 301=fE 2 256 301 0:=rT (w:=8) (by simp[nW]);rw[e]at h;exact h
theorem MU (b:Nat) (w:wR) (h:eD 2 256 301 b 1):wS w1 61 #[I J 8,I J b] w (au (.tuple #[bZ 2 256 301 b 1,I J 0]) w):=by
 have j:w2 (∀W,wS w1 111 #[.agg #[I J 2,I J 256,I J 301],I J b,I J 1] W (au (.tuple #[.agg #[I J 2,I J 256,I J 301,I J b,I J 1],I J 0]) W)):=λW=>qM 2 256 301 b 1 W h;have k:w2 (∀W,wS w1 110 #[I J 8,I J 301] W (au (.tuple #[.agg #[I J 2,I J 256,I J 301],I J 0]) W)):=λW=>Na W;obtain⟨c,d⟩:∃c,c=w.alloc (.cells #[I J 0,I J 0,I J 0,I J 0,I J 0] 91):=⟨_,rfl⟩;have u:w2 (af w c):=by show y5 _ _ _;rw[d];exact ax _ _
 have v:w2 (ag c w.heap.size #[I J 0,I J 0,I J 0,I J 0,I J 0] 91):=by show ag _ _ _ _;rw[d];exact ag.new _ _ _ _ oS
 clear h;go_enter WS,Wz
 go_wp2_with(first
  |(go_at_call 110;refine(k.out _).mono ?_;rintro e z ⟨rfl,f⟩;rw[<-d]at f;have x:=aa f;clear f)
  |(go_at_call 111;refine(j.out _).mono ?_;rintro e l ⟨rfl,g⟩;have i:=aa (ae (ah x.out _) g);clear g;have a:=aa (v.out.below i.out);have c0:=eu a.out;have c1:=ia a.out;have m:=kt a.out;have n:=mP a.out;have o:=nV a.out;have p:=bN 0 a.out;have q:=bN 1 a.out;have r:=bN 2 a.out;have s:=bN 3 a.out;have t:l.frozen? ⟨w.heap.size,4,U⟩=R:=CH _ _ _ _ _ a.out))
 have y:=aa (ae u.out i.out);refine y4 (v:= .tuple #[bZ 2 256 301 b 1,I J 0]) (by simp[HD,We,go_sem,c0,c1,m,n,o,p,q,r,s,t]) rfl ⟨rfl,?_⟩;exact bP (bP (bP (bP (bP y.out))))
theorem J5 (c:Nat) (w:wR):wS w1 69 #[I J 8,I J c] w (au (bZ 2 256 301 c 1) w):=by
 have i:w2 (∀W,wS w1 125 #[I J 8,I J 301] W (au (.tuple #[.agg #[I J 2,I J 256,I J 301],I J 0]) W)):=λW=>LA W;obtain⟨b,d⟩:∃b,b=w.alloc (.cells #[I J 0,I J 0,I J 0,I J 0,I J 0] 91):=⟨_,rfl⟩;have s:w2 (af w b):=by show y5 _ _ _;rw[d];exact ax _ _
 have t:w2 (ag b w.heap.size #[I J 0,I J 0,I J 0,I J 0,I J 0] 91):=by show ag _ _ _ _;rw[d];exact ag.new _ _ _ _ oS
 go_enter WR,Wy;go_wp2_with(go_at_call 125;refine(i.out _).mono ?_;rintro e j ⟨rfl,f⟩;rw[<-d]at f;have g:=aa f;clear f;have a:=aa (t.out.below g.out);have c0:=eu a.out;have c1:=ia a.out;have k:=kt a.out;have l:=mP a.out;have m:=nV a.out;have n:=bN 0 a.out;have o:=bN 1 a.out;have p:=bN 2 a.out;have q:=bN 3 a.out;have r:=bN 4 a.out;have b0:w.heap.size<j.heap.size:=ay a.out)
 have u:=aa (ae s.out g.out);refine y4 (v:=bZ 2 256 301 c 1) (by simp[HD,Wd,go_sem,c0,c1,k,l,m,n,o,p,q,r,b0]) rfl ⟨rfl,?_⟩;exact ah (bP (bP (bP (bP (bP u.out))))) _
theorem KG (w:wR):wS w1 110 #[I J 10,I J 1033] w (au (.tuple #[.agg #[I J 2,I J 1024,I J 1033],I J 0]) w):=by
 have h:=nE 10 1033 w oO;have e:jA 10 1033=fE 2 1024 1033 0:=rT (w:=10) (by simp[nW]);rw[e]at h;exact h
theorem J4 (w:wR):wS w1 125 #[I J 10,I J 1033] w (au (.tuple #[.agg #[I J 2,I J 1024,I J 1033],I J 0]) w):=by
 have h:=mj 10 1033 w oO;have e:jA 10 1033=fE 2 1024 1033 0:=rT (w:=10) (by simp[nW]);rw[e]at h;exact h
theorem Ks (b:Nat) (w:wR) (h:eD 2 1024 1033 b 1):wS w1 61 #[I J 10,I J b] w (au (.tuple #[bZ 2 1024 1033 b 1,I J 0]) w):=by
 have j:w2 (∀W,wS w1 111 #[.agg #[I J 2,I J 1024,I J 1033],I J b,I J 1] W (au (.tuple #[.agg #[I J 2,I J 1024,I J 1033,I J b,I J 1],I J 0]) W)):=λW=>qM 2 1024 1033 b 1 W h;have k:w2 (∀W,wS w1 110 #[I J 10,I J 1033] W (au (.tuple #[.agg #[I J 2,I J 1024,I J 1033],I J 0]) W)):=λW=>KG W;obtain⟨c,d⟩:∃c,c=w.alloc (.cells #[I J 0,I J 0,I J 0,I J 0,I J 0] 91):=⟨_,rfl⟩;have u:w2 (af w c):=by show y5 _ _ _;rw[d];exact ax _ _
 have v:w2 (ag c w.heap.size #[I J 0,I J 0,I J 0,I J 0,I J 0] 91):=by show ag _ _ _ _;rw[d];exact ag.new _ _ _ _ oS
 clear h;go_enter WS,Wz
 go_wp2_with(first
  |(go_at_call 110;refine(k.out _).mono ?_;rintro e z ⟨rfl,f⟩;rw[<-d]at f;have x:=aa f;clear f)
  |(go_at_call 111;refine(j.out _).mono ?_;rintro e l ⟨rfl,g⟩;have i:=aa (ae (ah x.out _) g);clear g;have a:=aa (v.out.below i.out);have c0:=eu a.out;have c1:=ia a.out;have m:=kt a.out;have n:=mP a.out;have o:=nV a.out;have p:=bN 0 a.out;have q:=bN 1 a.out;have r:=bN 2 a.out;have s:=bN 3 a.out;have t:l.frozen? ⟨w.heap.size,4,U⟩=R:=CH _ _ _ _ _ a.out))
 have y:=aa (ae u.out i.out);refine y4 (v:= .tuple #[bZ 2 1024 1033 b 1,I J 0]) (by simp[HD,We,go_sem,c0,c1,m,n,o,p,q,r,s,t]) rfl ⟨rfl,?_⟩;exact bP (bP (bP (bP (bP y.out))))
theorem GD (c:Nat) (w:wR):wS w1 69 #[I J 10,I J c] w (au (bZ 2 1024 1033 c 1) w):=by
 have i:w2 (∀W,wS w1 125 #[I J 10,I J 1033] W (au (.tuple #[.agg #[I J 2,I J 1024,I J 1033],I J 0]) W)):=λW=>J4 W;obtain⟨b,d⟩:∃b,b=w.alloc (.cells #[I J 0,I J 0,I J 0,I J 0,I J 0] 91):=⟨_,rfl⟩;have s:w2 (af w b):=by show y5 _ _ _;rw[d];exact ax _ _
 have t:w2 (ag b w.heap.size #[I J 0,I J 0,I J 0,I J 0,I J 0] 91):=by show ag _ _ _ _;rw[d];exact ag.new _ _ _ _ oS
 go_enter WR,Wy;go_wp2_with(go_at_call 125;refine(i.out _).mono ?_;rintro e j ⟨rfl,f⟩;rw[<-d]at f;have g:=aa f;clear f;have a:=aa (t.out.below g.out);have c0:=eu a.out;have c1:=ia a.out;have k:=kt a.out;have l:=mP a.out;have m:=nV a.out;have n:=bN 0 a.out;have o:=bN 1 a.out;have p:=bN 2 a.out;have q:=bN 3 a.out;have r:=bN 4 a.out;have b0:w.heap.size<j.heap.size:=ay a.out)
 have u:=aa (ae s.out g.out);refine y4 (v:=bZ 2 1024 1033 c 1) (by simp[HD,Wd,go_sem,c0,c1,k,l,m,n,o,p,q,r,b0]) rfl ⟨rfl,?_⟩;exact ah (bP (bP (bP (bP (bP u.out))))) _
theorem LJ (w:wR):wS w1 110 #[I J 12,I J 4201] w (au (.tuple #[.agg #[I J 2,I J 4096,I J 4201],I J 0]) w):=by
 have h:=nE 12 4201 w oO;have e:jA 12 4201=fE 2 4096 4201 0:=rT (w:=12) (by simp[nW]);rw[e]at h;exact h
theorem Jh (w:wR):wS w1 125 #[I J 12,I J 4201] w (au (.tuple #[.agg #[I J 2,I J 4096,I J 4201],I J 0]) w):=by
 have h:=mj 12 4201 w oO;have e:jA 12 4201=fE 2 4096 4201 0:=rT (w:=12) (by simp[nW]);rw[e]at h;exact h
theorem Je (b:Nat) (w:wR) (h:eD 2 4096 4201 b 1):wS w1 61 #[I J 12,I J b] w (au (.tuple #[bZ 2 4096 4201 b 1,I J 0]) w):=by
 have j:w2 (∀W,wS w1 111 #[.agg #[I J 2,I J 4096,I J 4201],I J b,I J 1] W (au (.tuple #[.agg #[I J 2,I J 4096,I J 4201,I J b,I J 1],I J 0]) W)):=λW=>qM 2 4096 4201 b 1 W h;have k:w2 (∀W,wS w1 110 #[I J 12,I J 4201] W (au (.tuple #[.agg #[I J 2,I J 4096,I J 4201],I J 0]) W)):=λW=>LJ W;obtain⟨c,d⟩:∃c,c=w.alloc (.cells #[I J 0,I J 0,I J 0,I J 0,I J 0] 91):=⟨_,rfl⟩;have u:w2 (af w c):=by show y5 _ _ _;rw[d];exact ax _ _
 have v:w2 (ag c w.heap.size #[I J 0,I J 0,I J 0,I J 0,I J 0] 91):=by show ag _ _ _ _;rw[d];exact ag.new _ _ _ _ oS
 clear h;go_enter WS,Wz
 go_wp2_with(first
  |(go_at_call 110;refine(k.out _).mono ?_;rintro e z ⟨rfl,f⟩;rw[<-d]at f;have x:=aa f;clear f)
  |(go_at_call 111;refine(j.out _).mono ?_;rintro e l ⟨rfl,g⟩;have i:=aa (ae (ah x.out _) g);clear g;have a:=aa (v.out.below i.out);have c0:=eu a.out;have c1:=ia a.out;have m:=kt a.out;have n:=mP a.out;have o:=nV a.out;have p:=bN 0 a.out;have q:=bN 1 a.out;have r:=bN 2 a.out;have s:=bN 3 a.out;have t:l.frozen? ⟨w.heap.size,4,U⟩=R:=CH _ _ _ _ _ a.out))
 have y:=aa (ae u.out i.out);refine y4 (v:= .tuple #[bZ 2 4096 4201 b 1,I J 0]) (by simp[HD,We,go_sem,c0,c1,m,n,o,p,q,r,s,t]) rfl ⟨rfl,?_⟩;exact bP (bP (bP (bP (bP y.out))))
theorem Hm (c:Nat) (w:wR):wS w1 69 #[I J 12,I J c] w (au (bZ 2 4096 4201 c 1) w):=by
 have i:w2 (∀W,wS w1 125 #[I J 12,I J 4201] W (au (.tuple #[.agg #[I J 2,I J 4096,I J 4201],I J 0]) W)):=λW=>Jh W;obtain⟨b,d⟩:∃b,b=w.alloc (.cells #[I J 0,I J 0,I J 0,I J 0,I J 0] 91):=⟨_,rfl⟩;have s:w2 (af w b):=by show y5 _ _ _;rw[d];exact ax _ _
 have t:w2 (ag b w.heap.size #[I J 0,I J 0,I J 0,I J 0,I J 0] 91):=by show ag _ _ _ _;rw[d];exact ag.new _ _ _ _ oS
 go_enter WR,Wy;go_wp2_with(go_at_call 125;refine(i.out _).mono ?_;rintro e j ⟨rfl,f⟩;rw[<-d]at f;have g:=aa f;clear f;have a:=aa (t.out.below g.out);have c0:=eu a.out;have c1:=ia a.out;have k:=kt a.out;have l:=mP a.out;have m:=nV a.out;have n:=bN 0 a.out;have o:=bN 1 a.out;have p:=bN 2 a.out;have q:=bN 3 a.out;have r:=bN 4 a.out;have b0:w.heap.size<j.heap.size:=ay a.out)
 have u:=aa (ae s.out g.out);refine y4 (v:=bZ 2 4096 4201 c 1) (by simp[HD,Wd,go_sem,c0,c1,k,l,m,n,o,p,q,r,b0]) rfl ⟨rfl,?_⟩;exact ah (bP (bP (bP (bP (bP u.out))))) _
theorem EG (w a:Nat) (W:wR) (b:nW w) (c:1<=a) (d:a<=2^w-2):wS w1 61 #[I J w,I J a] W (au (.tuple #[bZ 2 (2^w) (kK w) a 1,I J 0]) W):=by
 have h:=D2 b c d;rcases b with rfl|rfl|rfl|rfl|rfl
 ·exact vx a W h
 ·exact LB a W h
 ·exact MU a W h
 ·exact Ks a W h
 ·exact Je a W h
theorem K3 (w a:Nat) (W:wR) (b:nW w):wS w1 69 #[I J w,I J a] W (au (bZ 2 (2^w) (kK w) a 1) W):=by
 rcases b with rfl|rfl|rfl|rfl|rfl
 ·exact s9 a W
 ·exact Kj a W
 ·exact J5 a W
 ·exact GD a W
 ·exact Hm a W
def kA (c:Bool):Nat:=if c=wP then 64 else 2048
def gI (c:Bool):Nat:=if c=wP then 2 else 5
def jw (c:Bool):Nat:=if c=wP then 6 else 11
def fS (c:Bool):Nat:=if c=wP then 5 else 6
theorem vn (c:Bool) (w:wR):wS w1 57 #[.bool c] w λe a=>e= .returned (I J ((kA c:Nat):Int))/\a=w:=by
 cases c
 all_goals
  go_enter func57,ntmps57;go_wp2;go_ret;exact⟨rfl,rfl⟩
theorem ur (c:Bool) (w:wR):wS w1 58 #[.bool c] w λe a=>e= .returned (.tuple #[I J ((gI c:Nat):Int),I J ((jw c:Nat):Int),I J ((fS c:Nat):Int)])/\a=w:=by
 cases c
 all_goals
  go_enter func58,ntmps58;go_wp2;go_ret3;exact⟨rfl,rfl⟩
abbrev Pt:=Nat×Nat
def fZ (a:Pt):List xf:=[I J (a.1:Int),I J (a.2:Int)]
theorem Qr (b:Pt):∀v∈fZ b,v.oneCell'=wP:=by
 intro v a;simp only[fZ,AQ,Ay,or_false]at a;rcases a with rfl|rfl<;>rfl
theorem OO (a:List Pt):∀v∈a.flatMap fZ,v.oneCell'=wP:=by
 intro v c;obtain⟨b,-,d⟩:=List.mem_flatMap.1 c;exact Qr b v d
theorem xg (a:List Pt):(a.flatMap fZ).length=a.length* 2:=by
 induction a with
 |nil=>rfl
 |cons c a b=>simp only[Vk,w9,b,List.length_cons];show 2+_=_;omega
theorem Ds (b:List Pt) (a:Nat) (c:a<b.length):(b.flatMap fZ)[2* a]?=gk (I J ((b.getD a (0,0)).1:Int))/\(b.flatMap fZ)[2* a+1]?=gk (I J ((b.getD a (0,0)).2:Int)):=by
 induction b generalizing a with
 |nil=>simp at c
 |cons e b d=>
  cases a with
  |zero=>exact⟨rfl,rfl⟩
  |succ a=>
   have h:=d a (by simpa using c);simp only[Vk,fZ];rw[show 2* (a+1)=2* a+2 from by omega];simp only[List.cons_append,List.nil_append,List.getElem?_cons_succ,List.getD_cons_succ];exact h
theorem qq:(prog.info? 47).map (λa=>(a.zero,a.size,a.bytes))=gk (gk (.agg #[I J 0,I J 0]),2,16):=oK
def H2 (w:wR) (A:Option Addr) (c:List Pt):Prop:=0<c.length->∃b d,A=gk ⟨b,d,U⟩/\b<w.heap.size/\∀a,a<c.length->w.cell? ⟨b,d+a* 2,U⟩=gk (I J ((c.getD a (0,0)).1:Int))/\w.cell? ⟨b,d+a* 2+1,U⟩=gk (I J ((c.getD a (0,0)).2:Int))
theorem H2.below {W b:wR} {A:Option Addr} {c:List Pt} (h:H2 W A c) (hb:af W b):H2 b A c:=λhn=>by
 obtain⟨f,g,e,hl,hc⟩:=h hn;exact⟨f,g,e,Nat.lt_of_lt_of_le hl hb.size,λa d=>⟨(hb.cell hl).trans (hc a d).1,(hb.cell hl).trans (hc a d).2⟩⟩
def SP (w:wR) (v:xf) (a:List Pt):Prop:=∃A c,v= .slice A a.length c/\a.length<=c/\c<=maxLen/\H2 w A a
theorem SP.below {W a:wR} {v:xf} {b:List Pt} (h:SP W v b) (hb:af W a):SP a v b:=by
 obtain⟨A,c,rfl,d,e,f⟩:=h;exact⟨A,c,rfl,d,e,f.below hb⟩
theorem SP.dw (w:wR):SP w (.slice U 0 0) []:=⟨U,0,rfl,by simp,by simp,λh=>absurd h oS⟩
theorem SP.bL {W:wR} {base:Nat} {e:TypeId} {n:Nat} {v:xf} {b:List Pt} (h:W.ownsRow base e 2 v n (b.flatMap fZ)):SP W v b:=by
 have hl:b.length=n:=by have:=h.1;rw[xg]at this;omega
 rcases h.2 with⟨rfl,rfl⟩|⟨c,cap,k,rfl,hb,hg,l,rz,_⟩
 ·have:b=[]:=List.eq_nil_of_length_eq_zero hl;subst this;exact SP.dw _
 ·refine⟨_,cap,by rw[hl],by omega,rz,λhn=>⟨c,0,rfl,ay hg,λa j=>?_⟩⟩;have g:=Ds b a j;have e:0+a* 2=2* a:=oO;have c1:=h.cells (g:=c) rfl (2* a) _ g.1;have i:=h.cells (g:=c) rfl (2* a+1) _ g.2;rw[add_plain,Nat.zero_add]at c1 i;rw[e];exact⟨c1,i⟩
theorem H2.bL {W:wR} {base:Nat} {e:TypeId} {n:Nat} {A:Option Addr} {c:Nat} {a:List Pt} (h:W.ownsRow base e 2 (.slice A n c) n (a.flatMap fZ)):H2 W A a:=by
 obtain⟨i,j,b,-,-,g⟩:=SP.bL h;injection b with e1 e2 e3;rw[e1];exact g
structure aX (w wr:wR) (v:xf) (a:List Pt):Prop where
 B:af w wr
 O:wr.ownsRow w.heap.size 47 2 v a.length (a.flatMap fZ)
theorem aX.start (w:wR):aX w w (.slice U 0 0) []:=⟨Below.refl _ _,World.ownsRow_nil _ _ _ _⟩
theorem aX.below {w wr W:wR} {v:xf} {a:List Pt} (h:aX w wr v a) (b:af wr W):aX w W v a:=⟨ae h.B b,aq h.O b⟩
theorem aX.sp {w wr:wR} {v:xf} {a:List Pt} (h:aX w wr v a):SP wr v a:=SP.bL h.O
theorem Ad {W:wR} {base:Nat} {v:xf} {n:Nat} {f:List Pt} (i:TypeId) (k:W.ownsRow base 47 2 v n (f.flatMap fZ)) (y:base<=W.heap.size) (e:Addr) (m c:Nat) (b:List Pt) (l:m=b.length)
 (hc:∀g u,(b.flatMap fZ)[g]?=gk u->W.cell? (e.add g)=gk u) (hl:n+m<=1000000):
 ∃a d,(Builtin.append_ #[40,40] i #[v,.slice (gk e) m c]).run w1 W= .ok a d/\d.ownsRow base 47 2 a (n+m) ((f++b).flatMap fZ)/\W.grownBy d v.ownBlock/\(a.ownBlock=v.ownBlock\/a.ownBlock=gk W.heap.size):=by
 obtain⟨o,p,s,t,w⟩:=info_parts qq;obtain⟨a,d,x,j,q,_,r⟩:=run_append_own_at (P:=w1) W base 40 i 47 o _ 2 16 underlying40 p s t w rfl oO v n _ k e m c (b.flatMap fZ) (by rw[xg,l]) hc (OO b) oM oO y;rw[<-Un]at j;exact⟨a,d,x,j,q,r⟩
theorem eT {k:Array Oper} {l:List Oper} {d:Oper} {a:Act} {Q:Exit->Act->wR->Prop} {W:wR} {base:Nat} {v:xf} {n:Nat} {i:List Pt} (o:W.ownsRow base 47 2 v n (i.flatMap fZ)) (D:base<=W.heap.size) (B:d.guard=U) (s y:Operand)
 (p:d.op= .call {callee:= .builtin .append,args:=#[s,y],argTypes:=#[40,40]}) (hs:a.eval s=v) (g:Addr) (m c:Nat) (f:List Pt) (q:a.eval y= .slice (gk g) m c) (r:m=f.length)
 (hc:∀j u,(f.flatMap fZ)[j]?=gk u->W.cell? (g.add j)=gk u) (hl:n+m<=1000000)
 (t:∀b e,e.ownsRow base 47 2 b (n+m) ((i++f).flatMap fZ)->W.grownBy e v.ownBlock->(b.ownBlock=v.ownBlock\/b.ownBlock=gk W.heap.size)->wpList w1 k Q l (a.put d.dst b) e):wpList w1 k Q (d::l) a W:=by
 refine wpList_plain B λK w=>?_;obtain⟨b,e,C,x,z,A⟩:=Ad d.type o D g m c f r hc hl;unfold Oper.wp execOp;simp only[p,resolve,invoke,builtin,Sem.run_bind,Sem.run_pure,Result.andThen_ok,List.map_toArray,List.map_cons,List.map_nil,hs,q,C];exact w _ _ (t b e x z A)
theorem aX.grow {w wr W b:wR} {v v1:xf} {a c:List Pt} (h:aX w wr v a) (d:af wr W) (f:b.ownsRow w.heap.size 47 2 v1 (a.length+c.length) ((a++c).flatMap fZ)) (hg:W.grownBy b v.ownBlock):aX w b v1 (a++c):=by
 refine⟨(ae h.B d).grown hg (by have:=(ae h.B d).size;exact this) (λk e=>(h.O.lt k e).1),?_⟩;rw[w9];exact f
theorem gL (W:wR) (b:List Pt) (d:TypeId):∀a u,(b.flatMap fZ)[a]?=gk u->(W.alloc (.cells (b.flatMap fZ).toArray d)).cell? ((⟨W.heap.size,0,U⟩:Addr).add a)=gk u:=by
 intro a u c;have e:a<(b.flatMap fZ).length:=by
  rcases Nat.lt_or_ge a (b.flatMap fZ).length with h|h
  ·exact h
  ·rw[List.getElem?_eq_none h]at c;cases c
 rw[add_plain,Nat.zero_add];have:=(an.new W (b.flatMap fZ).toArray d W.heap.size rfl).2 a (by simpa using e);rw[this];simp only[List.toList_toArray,List.getD,c,Option.getD_some]
def bJ (L:Nat) (c:Bool) (a:Nat):Nat:=
 if c=wP then a else if a<aE L c/2 then(aB L c-1)/2-1-(aE L c/2-1-a)-(aE L c/2-1-a)/15 else(aB L c-1)/2+1+(a-aE L c/2)+(a-aE L c/2)/15
theorem IV {L a:Nat} (d:L<=32) (b:a<aE L R/2):((bJ L R a:Nat):Int)=((aB L R:Int)-1)/2-1-((aE L R:Int)/2-1-a)-((aE L R:Int)/2-1-a)/15:=by
 have hb:aE L R=14+4* L:=rfl;have hs:aB L R=aE L R+1+2* ((aE L R/2-1)/15):=rfl;unfold bJ;simp only[Ax,Rk];rw[if_pos b];generalize aB L R=c at*;generalize aE L R=B at*;omega
theorem IU {L a:Nat} (d:L<=32) (b:¬a<aE L R/2):((bJ L R a:Nat):Int)=((aB L R:Int)-1)/2+1+((a:Int)-(aE L R:Int)/2)+((a:Int)-(aE L R:Int)/2)/15:=by
 have hb:aE L R=14+4* L:=rfl;have hs:aB L R=aE L R+1+2* ((aE L R/2-1)/15):=rfl;unfold bJ;simp only[Ax,Rk];rw[if_neg b];generalize aB L R=c at*;generalize aE L R=B at*;omega
def rN (L:Nat) (c:Bool) (a:Nat):Nat:=if c=wP then 4* (L-a)+9 else 4* (L-a)+12
def PH (L:Nat) (c:Bool) (a s b k:Nat):Pt:=
 if s=0 then(2* a+k,2* a+b)else if s=1 then(2* a+b,aE L c-1-(2* a+k))else if s=2 then(aE L c-1-(2* a+k),aE L c-1-(2* a+b))else(aE L c-1-(2* a+b),2* a+k)
def pC (L:Nat) (c:Bool) (a:Pt):Pt:=(bJ L c a.1,bJ L c a.2)
def cM (L:Nat) (c:Bool) (a s b k:Nat):Pt:=pC L c (PH L c a s b k)
def kL (L:Nat) (c:Bool) (a s b k:Nat):List Pt:=(y3 k).map (cM L c a s b)
def jL (L:Nat) (c:Bool) (b s a:Nat):List Pt:=(y3 a).flatMap λa=>kL L c b s a 2
def sL (L:Nat) (c:Bool) (a s:Nat):List Pt:=(y3 s).flatMap λs=>jL L c a s (rN L c a)
def iL (L:Nat) (c:Bool) (a:Nat):List Pt:=(y3 a).flatMap λa=>sL L c a 4
def cO (L:Nat) (c:Bool):List Pt:=iL L c L
theorem Qc (L:Nat) (c:Bool) (a s b k:Nat):kL L c a s b (k+1)=kL L c a s b k++[cM L c a s b k]:=by unfold kL;rw[Hx,List.map_append];rfl
theorem AL (L:Nat) (c:Bool) (a s b:Nat):jL L c a s (b+1)=jL L c a s b++kL L c a s b 2:=by unfold jL;rw[Hx,Un,Vt]
theorem wB (L:Nat) (c:Bool) (a s:Nat):sL L c a (s+1)=sL L c a s++jL L c a s (rN L c a):=by unfold sL;rw[Hx,Un,Vt]
theorem sq (L:Nat) (c:Bool) (a:Nat):iL L c (a+1)=iL L c a++sL L c a 4:=by unfold iL;rw[Hx,Un,Vt]
theorem Ct (L:Nat) (c:Bool) (a s b k:Nat):(kL L c a s b k).length=k:=by unfold kL;simp
theorem qY (L:Nat) (c:Bool) (b s:Nat):∀a,(jL L c b s a).length=2* a
 |0=>rfl
 |a+1=>by rw[AL,w9,qY L c b s a,Ct];omega
theorem mL (L:Nat) (c:Bool) (a:Nat):∀s,(sL L c a s).length=s* (2* rN L c a)
 |0=>by simp[sL]
 |s+1=>by rw[wB,w9,mL L c a s,qY,Nat.add_mul,Nat.one_mul]
theorem Dn {L i:Nat} {c:Bool} (h:L<=32):rN L c i<=140:=by unfold rN;split<;>omega
theorem Dk {L:Nat} {c:Bool} (h:L<=32):∀a,(iL L c a).length<=a* 1120
 |0=>by simp[iL]
 |a+1=>by
  have b:=Dk (c:=c) h a;have d:=Dn (i:=a) (c:=c) h;rw[sq,w9,mL];omega
def bu (c:Bool):Nat:=if c=wP then 5 else 7
def cI (L:Nat) (c:Bool):Nat:=(aB L c-1)/2
def pT (a b:Nat):Nat:=(a-b)+(b-a)
def lQ (a:Nat) (b:Pt):Nat:=max (pT b.1 a) (pT b.2 a)
def eU (W:Nat) (a:Pt):Nat:=a.2* W+a.1
theorem fL {L a:Nat} {c:Bool} (d:L<=32) (b:a<aE L c):bJ L c a<aB L c:=by
 cases c with
 |true=>unfold bJ aB;simpa using b
 |false=>
  have hb:aE L R=14+4* L:=rfl;have hs:aB L R=aE L R+1+2* ((aE L R/2-1)/15):=rfl;rw[hb]at b hs;unfold bJ;simp only[Ax,Rk];rw[hb,hs];split<;>omega
theorem Pd {L a s b k:Nat} {c:Bool} (e:a<L) (d:b<rN L c a) (f:k<2):(PH L c a s b k).1<aE L c/\(PH L c a s b k).2<aE L c:=by
 unfold rN at d;unfold PH aE;cases c<;>simp only[Ax,Rk,if_true]at d⊢<;>(repeat' split)<;>simp only<;>omega
theorem OM {L:Nat} {c:Bool} {d:Pt} (h:d∈cO L c):∃a s b k,a<L/\s<4/\b<rN L c a/\k<2/\d=cM L c a s b k:=by
 obtain⟨a,e,h⟩:=List.mem_flatMap.1 h;obtain⟨s,hs,h⟩:=List.mem_flatMap.1 h;obtain⟨b,f,h⟩:=List.mem_flatMap.1 h;obtain⟨k,g,h⟩:=List.mem_map.1 h;exact⟨a,s,b,k,List.mem_range.1 e,List.mem_range.1 hs,List.mem_range.1 f,List.mem_range.1 g,h.symm⟩
theorem wX {L:Nat} {c:Bool} (b:L<=32) {a:Pt} (h:a∈cO L c):a.1<aB L c/\a.2<aB L c:=by
 obtain⟨g,s,i,k,d,hs,e,f,rfl⟩:=OM h;have hb:=Pd (s:=s) d e f;exact⟨fL b hb.1,fL b hb.2⟩
theorem BV {L:Nat} {c:Bool}:∀a,a<=L->(iL L c a).length+16* (a* a)=32* (L* a)+(if c=wP then 88* a else 112* a)
 |0,_=>by simp[iL]
 |a+1,h=>by
  have b:=BV (L:=L) (c:=c) a oO;rw[sq,w9,mL];have e1:(a+1)* (a+1)=a* a+2* a+1:=by rw[Nat.add_mul,Nat.mul_add];omega
  have e2:L* (a+1)=L* a+L:=by rw[Nat.mul_add,Nat.mul_one]
  rw[e1,e2];unfold rN;cases c<;>simp only[Ax,Rk,if_true]at b⊢<;>omega
theorem rD (L:Nat) (c:Bool):(cO L c).length=gX L c:=by
 have h:=BV (c:=c) L (Nat.le_refl _);show(iL L c L).length=_;unfold gX;cases c<;>simp only[Ax,Rk,if_true]at h⊢<;>rw[Nat.add_mul,Nat.mul_assoc]<;>omega
def aL (c:Bool):List Int:=if c=wP then[-3,-2,-1,0,1,2,3]else[-5,-4,-3,-2,-1,1,2,3,4,5]
def qU (a:Nat) (b:Int):Nat:=((a:Int)+b).toNat
def dZ (a:Nat) (c:Bool):List Pt:=
 (aL c).map (λb=>(qU a b,a-bu c))++(aL c).map (λb=>(a+bu c,qU a b))++(aL c).reverse.map (λb=>(qU a b,a+bu c))++(aL c).reverse.map (λb=>(a-bu c,qU a b))
def b8 (a s:Nat):List Pt:=[(a-s,a-s),(a-s+1,a-s),(a-s,a-s+1),(a+s,a-s),(a+s,a-s+1),(a+s,a+s-1)]
def bQ (a s:Nat):List Pt:=[(a+s-1,a-s),(a+s,a+s),(a+s-1,a+s),(a-s,a+s),(a-s+1,a+s),(a-s,a+s-1)]
theorem su {L:Nat} {c:Bool} (a:1<=L) (b:L<=32):bu c+2<=cI L c/\cI L c+bu c+2<aB L c/\aB L c=2* cI L c+1:=by
 cases c with
 |true=>
  have hb:aE L wP=11+4* L:=rfl;have hs:aB L wP=aE L wP:=rfl;rw[hb]at hs;unfold cI bu;simp only[if_true];rw[hs];omega
 |false=>
  have hb:aE L R=14+4* L:=rfl;have hs:aB L R=aE L R+1+2* ((aE L R/2-1)/15):=rfl;rw[hb]at hs;unfold cI bu;simp only[Ax,Rk];rw[hs];omega
theorem H5 {c:Bool} {a:Int} (h:a∈aL c):-((bu c:Nat):Int)+2<=a/\a+2<=((bu c:Nat):Int):=by
 cases c with
 |true=>simp only[aL,if_true,AQ,Ay,or_false]at h;simp only[bu,if_true];omega
 |false=>simp only[aL,Ax,Rk,AQ,Ay,or_false]at h;simp only[bu,Ax,Rk];omega
theorem OV {d:Nat} {c:Bool} (i:bu c<=d) {g:Pt} (h:g∈dZ d c):(∃f:Nat,d-bu c+2<=f/\f+2<=d+bu c/\(g=(f,d-bu c)\/g=(d+bu c,f)\/g=(f,d+bu c)\/g=(d-bu c,f))):=by
 have e:∀a∈aL c,d-bu c+2<=qU d a/\qU d a+2<=d+bu c:=λa b=>by
  have:=H5 b;unfold qU;omega
 unfold dZ at h;simp only[List.mem_append,List.mem_map,List.mem_reverse]at h;rcases h with((⟨a,b,rfl⟩|⟨a,b,rfl⟩)|⟨a,b,rfl⟩)|⟨a,b,rfl⟩
 ·exact⟨_,(e a b).1,(e a b).2,.inl rfl⟩
 ·exact⟨_,(e a b).1,(e a b).2,.inr (.inl rfl)⟩
 ·exact⟨_,(e a b).1,(e a b).2,.inr (.inr (.inl rfl))⟩
 ·exact⟨_,(e a b).1,(e a b).2,.inr (.inr (.inr rfl))⟩
theorem JE (c:Bool):bu c=5\/bu c=7:=by unfold bu;cases c<;>simp
theorem AG {C:Nat} {c:Bool} (b:bu c<=C) {a:Pt} (h:a∈dZ C c):a.1<2* C+1/\a.2<2* C+1:=by
 obtain⟨e,f,g,d⟩:=OV b h;rcases d with rfl|rfl|rfl|rfl<;>simp only<;>omega
theorem lh (a:Nat) (c:Bool):(dZ a c).length=if c=wP then 28 else 40:=by cases c<;>rfl
def dL (W:Nat):List Bool->List Pt->List Bool->List Bool
 |d,a::ps,b::c=>dL W (d.set (eU W a) b) ps c
 |d,[],_=>d
 |d,_::_,[]=>d
def fq (W:Nat) (d:List Bool) (ps:List Pt):List Bool:=ps.map λa=>d.getD (eU W a) R
theorem r9 (W:Nat) (d:List Bool) (a:List Bool):dL W d [] a=d:=by unfold dL;rfl
theorem ir (W:Nat):∀(d:List Bool) (ps:List Pt) (a:List Bool),(dL W d ps a).length=d.length
 |d,[],a=>by rw[r9]
 |d,c::ps,[]=>rfl
 |d,c::ps,b::a=>by
  show(dL W (d.set (eU W c) b) ps a).length=_;rw[ir,List.length_set]
theorem zB (W:Nat):∀(d:List Bool) (ps a:List Pt) (e c:List Bool),ps.length=e.length->dL W d (ps++a) (e++c)=dL W (dL W d ps e) a c
 |d,[],a,[],c,_=>by rw[r9];rfl
 |d,f::ps,a,b::e,c,h=>by
  show dL W (d.set (eU W f) b) (ps++a) (e++c)=dL W (dL W (d.set (eU W f) b) ps e) a c;exact zB W _ ps a e c (by simpa using h)
 |d,[],a,b::e,c,h=>by simp at h
 |d,f::ps,a,[],c,h=>by simp at h
theorem yt (W:Nat) (d:List Bool) (ps:List Pt) (a:List Bool) {i:Nat} (b:i<ps.length) (c:i<a.length):dL W d (ps.take (i+1)) (a.take (i+1))=(dL W d (ps.take i) (a.take i)).set (eU W (ps.getD i (0,0))) (a.getD i R):=by
 rw[UI b,UI c,zB _ _ _ _ _ _ oT];simp[dL,List.getD,b,c]
theorem mz {W H:Nat} {a:Pt} (c:a.1<W) (b:a.2<H):eU W a<W* H:=by
 unfold eU;have:(a.2+1)* W<=H* W:=Nat.mul_le_mul_right W b;rw[Nat.add_mul,Nat.one_mul]at this;rw[Nat.mul_comm W H];omega
theorem uk (L b:Nat) (c:Bool) (w:wR) (h:L<=32) (p:b<aE L c):wS w1 139 #[I J b,I J L,.bool c] w λe g=>e= .returned (I J ((bJ L c b:Nat):Int))/\g=w:=by
 cases c with
 |true=>
  have i:w2 (bJ L wP b=b):=by show _=_;unfold bJ;simp
  clear p;go_enter func139,ntmps139;go_wp2;go_ret;exact⟨by rw[i.out];rfl,rfl⟩
 |false=>
  have D:w2 (∀W,wS w1 98 #[I J L,.bool R] W λe g=>e= .returned (I J ((aE L R:Nat):Int))/\g=W):=λW=>vY L R W h;have C:w2 (∀W,wS w1 48 #[I J L,.bool R] W λe g=>e= .returned (I J ((aB L R:Nat):Int))/\g=W):=λW=>pz L R W h;have t:=aa (jc (c:=R) h);have u:=aa (eI (c:=R) h);by_cases l:b<aE L R/2
  ·have i:=aa (IV h l);generalize bJ L R b=k at*;generalize aE L R=B at*;generalize aB L R=S at*;obtain⟨x,y⟩:=t.out;obtain⟨z,A⟩:=u.out;obtain⟨d,r⟩:∃d,d=B/2:=⟨_,rfl⟩;have e1:(B:Int)/2=(d:Int):=oO;have E:(b:Int)<(d:Int):=oO;obtain⟨a,n⟩:∃a,a=d-1-b:=⟨_,rfl⟩;have e2:(d:Int)-1-(b:Int)=(a:Int):=oO;obtain⟨q,hq⟩:∃q,q=a/15:=⟨_,rfl⟩;have e3:(a:Int)/15=(q:Int):=oO;obtain⟨f,o⟩:∃f,f=(S-1)/2:=⟨_,rfl⟩;have e4:((S:Int)-1)/2=(f:Int):=oO;have s:w2 ((f:Int)-1-(a:Int)-(q:Int)=(k:Int)):=by show _=_;rw[i.out,e1,e2,e3,e4]
   exact Sn
  ·have i:=aa (IU h l);generalize bJ L R b=k at*;generalize aE L R=B at*;generalize aB L R=S at*;obtain⟨x,y⟩:=t.out;obtain⟨z,A⟩:=u.out;obtain⟨d,r⟩:∃d,d=B/2:=⟨_,rfl⟩;have e1:(B:Int)/2=(d:Int):=oO;have E:¬((b:Int)<(d:Int)):=oO;obtain⟨a,n⟩:∃a,a=b-d:=⟨_,rfl⟩;have e2:(b:Int)-(d:Int)=(a:Int):=oO;obtain⟨q,hq⟩:∃q,q=a/15:=⟨_,rfl⟩;have e3:(a:Int)/15=(q:Int):=oO;obtain⟨f,o⟩:∃f,f=(S-1)/2:=⟨_,rfl⟩;have e4:((S:Int)-1)/2=(f:Int):=oO;have s:w2 ((f:Int)+1+(a:Int)+(q:Int)=(k:Int)):=by show _=_;rw[i.out,e1,e2,e3,e4]
   exact Sn
theorem GL (L x y:Nat) (c:Bool) (w:wR) (h:L<=32) (f:x<aE L c) (g:y<aE L c):wS w1 99 #[I J x,I J y,I J L,.bool c] w (au (.agg #[I J (((pC L c (x,y)).1:Nat):Int),I J (((pC L c (x,y)).2:Nat):Int)]) w):=by
 have i:w2 (∀W,wS w1 139 #[I J x,I J L,.bool c] W λe b=>e= .returned (I J (((pC L c (x,y)).1:Nat):Int))/\b=W):=λW=>uk L x c W h f;have j:w2 (∀W,wS w1 139 #[I J y,I J L,.bool c] W λe b=>e= .returned (I J (((pC L c (x,y)).2:Nat):Int))/\b=W):=λW=>uk L y c W h g;generalize pC L c (x,y)=d at*;clear f g;go_enter func99,ntmps99
 go_wp2_with(first
  |(go_at_call 139;(with_reducible refine(i.out _).mono ?_);rintro e k ⟨rfl,a⟩;rw[a];clear a)
  |(go_at_call 139;(with_reducible refine(j.out _).mono ?_);rintro e k ⟨rfl,a⟩;rw[a];clear a))
 exact y4 (v:= .agg #[I J (d.1:Int),I J (d.2:Int)]) (by simp[HD,results99,go_sem]) rfl ⟨rfl,ax _ _⟩
theorem zL {L a s b k:Nat} {c:Bool} (e:L<=32) (f:a<L) (d:b<rN L c a) (g:k<2):2* a+k<aE L c/\2* a+b<aE L c:=by
 unfold rN at d;unfold aE;cases c<;>simp at d⊢<;>omega
end
end Go.Proofs.YtmnlkganmgcpbaaGreatDoor
