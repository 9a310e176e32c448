import Derived.Test.YtmnlkganmgcpbaaGreatDoorQd11
set_option maxRecDepth 100000
set_option maxHeartbeats 4000000
set_option linter.unusedVariables false
set_option linter.unusedSectionVars false
set_option linter.unusedSimpArgs false
namespace Go.Proofs.YtmnlkganmgcpbaaGreatDoor
section
open Go.RowKit
abbrev xt:Obj:= .cells #[.int .i64 0,.int .i64 0,.slice none 0 0,.slice none 0 0] 152
abbrev Nn (C S a b bl:Nat):Obj:= .cells #[.int .i64 C,.int .i64 S,.slice (some ⟨b,0,none⟩) a a,.slice (some ⟨bl,0,none⟩) S S] 152
structure dt (w wr:World) (C S P T n be bl a:Nat):Prop where
 B:Below w.heap.size w wr
 he:w.heap.size+1<be
 hl:w.heap.size+1<bl
 hs:w.heap.size+1<a
 n1:be≠bl
 n2:be≠a
 n3:bl≠a
 F:wr.heap[w.heap.size]?=some (pS C S P)
 R:wr.heap[w.heap.size+1]?=some xt
 E:wr.heap[be]?=some (.cells (dJ (jD S P n)) 3)
 L:wr.heap[bl]?=some (.cells (dJ (kQ S P n)) 3)
 A:wr.heap[a]?=some (Nn C S T be bl)
theorem dt.below {w wr b:World} {C S P a n c bl d:Nat} (h:dt w wr C S P a n c bl d) (hb:Below wr.heap.size wr b):dt w b C S P a n c bl d:=
 ⟨ae h.B hb,h.he,h.hl,h.hs,h.n1,h.n2,h.n3,(hb.block _ (au h.F)).trans h.F,(hb.block _ (au h.R)).trans h.R,(hb.block _ (au h.E)).trans h.E,(hb.block _ (au h.L)).trans h.L,(hb.block _ (au h.A)).trans h.A⟩
theorem dt.store {w wr:World} {C S P e n d bl j:Nat} (l:VF C S P) (o:e=S-1) (h:dt w wr C S P e n d bl j) (hn:n<e):
 dt w ((wr.setCell ⟨d,n,none⟩ (.int .i64 ((fpowN S P (az S P) n:Nat):Int))).setCell ⟨bl,fpowN S P (az S P) n,none⟩ (.int .i64 (n:Int))) C S P e (n+1) d bl j:=by
 have m:Below w.heap.size w (wr.setCell ⟨d,n,none⟩ (.int .i64 ((fpowN S P (az S P) n:Nat):Int))):=h.B.setCell (by have:=h.he;simp;omega) _;have f:∀(k:Nat) (v:Value),k≠d->(wr.setCell ⟨d,n,none⟩ v).heap[k]?=wr.heap[k]?:=λk v i=>heap_setCell_other wr ⟨d,n,none⟩ k v i;have g:∀(W:World) (x k:Nat) (v:Value),k≠bl->(W.setCell ⟨bl,x,none⟩ v).heap[k]?=W.heap[k]?:=λW x k v i=>heap_setCell_other W ⟨bl,x,none⟩ k v i;have e1:=heap_setCell_same wr d n _ 3 (.int .i64 ((fpowN S P (az S P) n:Nat):Int)) h.E;rw[lZ,yv l (n:=n) oO]at e1;have e2:=heap_setCell_same (wr.setCell ⟨d,n,none⟩ (.int .i64 ((fpowN S P (az S P) n:Nat):Int))) bl (fpowN S P (az S P) n) _ 3 (.int .i64 (n:Int)) ((f bl _ (Ne.symm h.n1)).trans h.L);rw[lZ,BR l oO]at e2;have a:=h.he;have b:=h.hl;have c:=h.hs
 exact⟨m.setCell oT _,h.he,h.hl,h.hs,h.n1,h.n2,h.n3,
  ((g _ _ _ _ oO).trans (f _ _ oO)).trans h.F,((g _ _ _ _ oO).trans (f _ _ oO)).trans h.R,
  (g _ _ _ _ h.n1).trans e1,e2,((g _ _ _ _ (Ne.symm h.n3)).trans (f _ _ (Ne.symm h.n2))).trans h.A⟩
theorem dt.qo {w wr:World} {C S P a c bl f:Nat} (b:VF C S P) (g:a=S-1) (h:dt w wr C S P a a c bl f):dp wr S P c bl:=by
 subst g;refine⟨au h.E,au h.L,λi d=>?_,λx e j=>?_⟩
 ·rw[cell_of_row _ _ _ _ _ _ h.E,fs];have:=Bd b d;rw[<-xA b]at this;rw[<-this];unfold jD;simp[List.getD,d]
 ·rw[cell_of_row _ _ _ _ _ _ h.L,fs];have:=AX b e j;rw[<-this];unfold kQ;simp[List.getD,e]
theorem dt.cells {w wr:World} {C S P a n c bl b:Nat} (d:VF C S P) (e:a=S-1) (h:dt w wr C S P a n c bl b):
 (wr.cell? ⟨w.heap.size,0,none⟩=some (.int .i64 C)/\wr.cell? ⟨w.heap.size,1,none⟩=some (.int .i64 S)/\wr.cell? ⟨w.heap.size,2,none⟩=some (.int .i64 P))/\
 (wr.cell? ⟨b,0,none⟩=some (.int .i64 C)/\wr.cell? ⟨b,1,none⟩=some (.int .i64 S)/\wr.cell? ⟨b,2,none⟩=some (.slice (some ⟨c,0,none⟩) a a)/\wr.cell? ⟨b,3,none⟩=some (.slice (some ⟨bl,0,none⟩) S S))/\
 (n<a->(∃u,wr.cell? ⟨c,n,none⟩=some u)/\wr.frozen? ⟨c,n,none⟩=false/\(∃u,wr.cell? ⟨bl,fpowN S P (az S P) n,none⟩=some u)/\wr.frozen? ⟨bl,fpowN S P (az S P) n,none⟩=false):=by
 refine⟨⟨?_,?_,?_⟩,⟨?_,?_,?_,?_⟩,λhn=>⟨?_,?_,?_,?_⟩⟩
 ·rw[cell_of_row _ _ _ _ _ _ h.F];rfl
 ·rw[cell_of_row _ _ _ _ _ _ h.F];rfl
 ·rw[cell_of_row _ _ _ _ _ _ h.F];rfl
 ·rw[cell_of_row _ _ _ _ _ _ h.A];rfl
 ·rw[cell_of_row _ _ _ _ _ _ h.A];rfl
 ·rw[cell_of_row _ _ _ _ _ _ h.A];rfl
 ·rw[cell_of_row _ _ _ _ _ _ h.A];rfl
 ·rw[cell_of_row _ _ _ _ _ _ h.E,fs];refine⟨_,Option.map_eq_some_iff.2 ⟨_,List.getElem?_eq_getElem (by unfold jD;simp;omega),rfl⟩⟩
 ·exact frozen_of_row _ _ _ _ _ h.E
 ·rw[cell_of_row _ _ _ _ _ _ h.L,fs];refine⟨_,Option.map_eq_some_iff.2 ⟨_,List.getElem?_eq_getElem (by unfold kQ;simp;exact eG d n),rfl⟩⟩
 ·exact frozen_of_row _ _ _ _ _ h.L
theorem dt.drew {w wr:World} {C S P a n b bl c:Nat} (h:dt w wr C S P a n b bl c):dt w wr.drew C S P a n b bl c:=
 ⟨aj h.B,h.he,h.hl,h.hs,h.n1,h.n2,h.n3,h.F,h.R,h.E,h.L,h.A⟩
theorem dt.res {w wr:World} {C S P a n b bl c:Nat} (h:dt w wr C S P a n b bl c):
 wr.cell? ⟨w.heap.size+1,0,none⟩=some (.int .i64 0)/\wr.cell? ⟨w.heap.size+1,1,none⟩=some (.int .i64 0)/\wr.cell? ⟨w.heap.size+1,2,none⟩=some (.slice none 0 0)/\wr.cell? ⟨w.heap.size+1,3,none⟩=some (.slice none 0 0)/\∀k,wr.frozen? ⟨w.heap.size+1,k,none⟩=false:=by
 refine⟨?_,?_,?_,?_,λk=>frozen_of_row _ _ _ _ _ h.R⟩<;>(rw[cell_of_row _ _ _ _ _ _ h.R];rfl)
theorem tD (C S P:Nat) (w:World) (y:VF C S P):
 Calls Tryz.prog 119 #[cD C S P] w λe w'=>∃ac bl,e= .returned (fw C S ac bl)/\dp w' S P ac bl/\Below w.heap.size w w'/\w.heap.size<=ac/\w.heap.size<=bl:=by
 have a6:=y.le;have a7:=y.aR;have z:(P:Int)<=9223372036854775807:=y.s7;have hg:=kE y;have RG:Hid (vo C S P=(((az S P:Nat):Int),0)):=by
  show _=_;unfold vo;rw[kC y,if_pos rfl];simp
 obtain⟨b,ad⟩:∃b,b=S-1:=⟨S-1,rfl⟩;have a8:1<=b:=oO;have a9:=run_make_row' (P:=Tryz.prog) 64 3 (.int .i64 0) 8 Tryz.underlying64 dm rfl .i64 .i64 b oO oO;have bb:=run_make_row' (P:=Tryz.prog) 64 3 (.int .i64 0) 8 Tryz.underlying64 dm rfl .i64 .i64 S oO oO;have bd:IntKind.i64.wrap ((S:Int)-1)=(b:Int):=by rw[aG _ oO oO];omega
 have bf:((S:Int)-1)=(b:Int):=oO;have c:=Lib.hid y;have d:=Lib.hid ad;have B:Hid (dJ (jD S P 0)=madeCells #[Value.int .i64 0] b):=by show _=_;rw[jP,vW y,ad]
 have D:Hid (dJ (kQ S P 0)=madeCells #[Value.int .i64 0] S):=by show _=_;rw[jP,yB y]
 clear ad y;have a3:Hid (∀a:World,Below ((w.alloc (pS C S P)).alloc xt).heap.size ((w.alloc (pS C S P)).alloc xt) a->w.heap.size+1<a.heap.size/\a.heap[w.heap.size]?=some (pS C S P)/\a.heap[w.heap.size+1]?=some xt/\Below w.heap.size w a):=by
  intro a A;have hs:=A.size;simp at hs;refine⟨by omega,(A.block _ oT).trans ?_,(A.block _ oS).trans ?_,((Below.refl _ _).alloc (Nat.le_refl _) _|>.alloc oS _).trans (A.mono oT)⟩
  ·exact(Below.heap_alloc _ _ _ oS).trans (heap_alloc_new w _)
  ·have:=heap_alloc_new (w.alloc (pS C S P)) xt;simpa using this
 go_enter Tryz.func119,Tryz.ntmps119
 go_wp2_with(
  go_at_call 158;refine(sf C S P _ oO z).mono ?_;rintro e a ⟨rfl,A⟩;rw[RG.out]
  have j:=Lib.hid (a3.out a A);have be:w.heap.size+1<a.heap.size:=j.out.1;have ap:w.heap.size<a.heap.size:=oO;have al:a.cell? ⟨w.heap.size,0,none⟩=some (.int .i64 C):=(cell_of_row _ _ _ _ _ _ j.out.2.1).trans rfl;have am:a.cell? ⟨w.heap.size,1,none⟩=some (.int .i64 S):=(cell_of_row _ _ _ _ _ _ j.out.2.1).trans rfl;have av:∀g,(a.alloc g).cell? ⟨w.heap.size,0,none⟩=some (.int .i64 C):=λg=>(World.cell?_alloc_lt _ _ _ (by exact ap)).trans al;have a0:∀g m,((a.alloc g).alloc m).cell? ⟨w.heap.size,0,none⟩=some (.int .i64 C):=λg m=>(World.cell?_alloc_lt _ _ _ oT).trans (av g);have a4:∀g m ab,(((a.alloc g).alloc m).alloc ab).cell? ⟨w.heap.size,0,none⟩=some (.int .i64 C):=λg m ab=>(World.cell?_alloc_lt _ _ _ oT).trans (a0 g m);have a1:∀g,(a.alloc g).cell? ⟨w.heap.size,1,none⟩=some (.int .i64 S):=λg=>(World.cell?_alloc_lt _ _ _ (by exact ap)).trans am;have a2:∀g m,((a.alloc g).alloc m).cell? ⟨w.heap.size,1,none⟩=some (.int .i64 S):=λg m=>(World.cell?_alloc_lt _ _ _ oT).trans (a1 g);have a5:∀g m ab,(((a.alloc g).alloc m).alloc ab).cell? ⟨w.heap.size,1,none⟩=some (.int .i64 S):=λg m ab=>(World.cell?_alloc_lt _ _ _ oT).trans (a2 g m)
  clear A)
 go_region
 all_goals clear al am av a0 a4 a1 a2 a5
 all_goals go_wp2
 ·go_loopw [6,28] (λx i wr=>∃n:Nat,n<=b/\i= .int .i64 (n:Nat)/\x= .int .i64 ((fpowN S P (az S P) n:Nat):Int)/\Hid (dt w wr C S P b n (a.heap.size) (a.heap.size+1) (a.heap.size+1+1))) (λ_ i _=>b-(intOf i).toNat)
  case atStart=>
   refine⟨0,Nat.zero_le _,rfl,rfl,?_⟩;refine⟨aj (ah (ah (ah j.out.2.2.2 _) _) _),by omega,by omega,by omega,by omega,by omega,by omega,?_,?_,?_,?_,?_⟩
   ·exact(Below.heap_alloc _ _ _ oT).trans ((Below.heap_alloc _ _ _ oT).trans ((Below.heap_alloc _ _ _ oO).trans j.out.2.1))
   ·exact(Below.heap_alloc _ _ _ oT).trans ((Below.heap_alloc _ _ _ oT).trans ((Below.heap_alloc _ _ _ oO).trans j.out.2.2.1))
   ·rw[B.out];exact(cT a _ _ _).1
   ·rw[D.out];exact(cT a _ _ _).2.1
   ·exact(cT a _ _ _).2.2
  case round=>
   obtain⟨n,hn,rfl,rfl,hid⟩:=hrel;obtain⟨⟨E,F,G⟩,⟨H,J,K,L⟩,f⟩:=dt.cells c.out d.out hid.out;by_cases k:n<b
   ·obtain⟨⟨u1,M⟩,N,⟨u2,s3⟩,O⟩:=f k;have q:fpowN S P (az S P) n<S:=eG c.out n;have r:=Lib.hid (dt.store c.out d.out hid.out k);have o:Hid (mulR C S P (fpowN S P (az S P) n:Nat) (az S P:Nat)=(((fpowN S P (az S P) (n+1):Nat):Int),0)):=by
     show _=_;unfold mulR;rw[gE c.out q hg];simp;rfl
    generalize fpowN S P (az S P) n=X at*;generalize l:fpowN S P (az S P) (n+1)=Y at*;have p:=Lib.hid l;clear l;clear f;go_wp2;go_region
    all_goals go_wp2_with(go_at_call 159;refine(iz C S P X (az S P) _ oO z).mono ?_;rintro e Q ⟨rfl,s⟩;rw[o.out])
    all_goals go_roundw
    all_goals try(case measure=>simp[intOf];omega)
    all_goals refine⟨n+1,by omega,by go_num,by rw[p.out],?_⟩
    all_goals exact dt.below (dt.drew r.out) s
   ·obtain rfl:n=b:=oO;obtain⟨T,U,V,W,Z⟩:=dt.res hid.out;have t:=Lib.hid (dt.qo c.out d.out hid.out);clear f;go_wp2;refine bodyPost_ret (v:= .agg #[.int .i64 C,.int .i64 S,.slice (some ⟨(a.heap.size),0,none⟩) n n,.slice (some ⟨(a.heap.size+1),0,none⟩) S S]) ?_ rfl ⟨(a.heap.size),(a.heap.size+1),?_,?_,?_⟩
    ·have u:Tryz.f119.results=#[.cell 2 152]:=oK;simp only[results,u];go_simp
    ·rw[d.out]
    ·exact(((t.out.setCell _ _ oT oT).setCell _ _ oT oT).setCell _ _ oT oT).setCell _ _ oT oT
    ·exact⟨(((hid.out.B.setCell oS _).setCell oS _).setCell oS _).setCell oS _,by omega,by omega⟩
 ·go_loopw [6,28] (λx i wr=>∃n:Nat,n<=b/\i= .int .i64 (n:Nat)/\x= .int .i64 ((fpowN S P (az S P) n:Nat):Int)/\Hid (dt w wr C S P b n (a.heap.size) (a.heap.size+1+1) (a.heap.size+1))) (λ_ i _=>b-(intOf i).toNat)
  case atStart=>
   refine⟨0,Nat.zero_le _,rfl,rfl,?_⟩;refine⟨aj (ah (ah (ah j.out.2.2.2 _) _) _),by omega,by omega,by omega,by omega,by omega,by omega,?_,?_,?_,?_,?_⟩
   ·exact(Below.heap_alloc _ _ _ oT).trans ((Below.heap_alloc _ _ _ oT).trans ((Below.heap_alloc _ _ _ oO).trans j.out.2.1))
   ·exact(Below.heap_alloc _ _ _ oT).trans ((Below.heap_alloc _ _ _ oT).trans ((Below.heap_alloc _ _ _ oO).trans j.out.2.2.1))
   ·rw[B.out];exact(cT a _ _ _).1
   ·rw[D.out];exact(cT a _ _ _).2.2
   ·exact(cT a _ _ _).2.1
  case round=>
   obtain⟨n,hn,rfl,rfl,hid⟩:=hrel;obtain⟨⟨E,F,G⟩,⟨H,J,K,L⟩,f⟩:=dt.cells c.out d.out hid.out;by_cases k:n<b
   ·obtain⟨⟨u1,M⟩,N,⟨u2,s3⟩,O⟩:=f k;have q:fpowN S P (az S P) n<S:=eG c.out n;have r:=Lib.hid (dt.store c.out d.out hid.out k);have o:Hid (mulR C S P (fpowN S P (az S P) n:Nat) (az S P:Nat)=(((fpowN S P (az S P) (n+1):Nat):Int),0)):=by
     show _=_;unfold mulR;rw[gE c.out q hg];simp;rfl
    generalize fpowN S P (az S P) n=X at*;generalize l:fpowN S P (az S P) (n+1)=Y at*;have p:=Lib.hid l;clear l;clear f;go_wp2;go_region
    all_goals go_wp2_with(go_at_call 159;refine(iz C S P X (az S P) _ oO z).mono ?_;rintro e Q ⟨rfl,s⟩;rw[o.out])
    all_goals go_roundw
    all_goals try(case measure=>simp[intOf];omega)
    all_goals refine⟨n+1,by omega,by go_num,by rw[p.out],?_⟩
    all_goals exact dt.below (dt.drew r.out) s
   ·obtain rfl:n=b:=oO;obtain⟨T,U,V,W,Z⟩:=dt.res hid.out;have t:=Lib.hid (dt.qo c.out d.out hid.out);clear f;go_wp2;refine bodyPost_ret (v:= .agg #[.int .i64 C,.int .i64 S,.slice (some ⟨(a.heap.size),0,none⟩) n n,.slice (some ⟨(a.heap.size+1+1),0,none⟩) S S]) ?_ rfl ⟨(a.heap.size),(a.heap.size+1+1),?_,?_,?_⟩
    ·have u:Tryz.f119.results=#[.cell 2 152]:=oK;simp only[results,u];go_simp
    ·rw[d.out]
    ·exact(((t.out.setCell _ _ oT oT).setCell _ _ oT oT).setCell _ _ oT oT).setCell _ _ oT oT
    ·exact⟨(((hid.out.B.setCell oS _).setCell oS _).setCell oS _).setCell oS _,by omega,by omega⟩
 ·go_loopw [6,28] (λx i wr=>∃n:Nat,n<=b/\i= .int .i64 (n:Nat)/\x= .int .i64 ((fpowN S P (az S P) n:Nat):Int)/\Hid (dt w wr C S P b n (a.heap.size+1) (a.heap.size) (a.heap.size+1+1))) (λ_ i _=>b-(intOf i).toNat)
  case atStart=>
   refine⟨0,Nat.zero_le _,rfl,rfl,?_⟩;refine⟨aj (ah (ah (ah j.out.2.2.2 _) _) _),by omega,by omega,by omega,by omega,by omega,by omega,?_,?_,?_,?_,?_⟩
   ·exact(Below.heap_alloc _ _ _ oT).trans ((Below.heap_alloc _ _ _ oT).trans ((Below.heap_alloc _ _ _ oO).trans j.out.2.1))
   ·exact(Below.heap_alloc _ _ _ oT).trans ((Below.heap_alloc _ _ _ oT).trans ((Below.heap_alloc _ _ _ oO).trans j.out.2.2.1))
   ·rw[B.out];exact(cT a _ _ _).2.1
   ·rw[D.out];exact(cT a _ _ _).1
   ·exact(cT a _ _ _).2.2
  case round=>
   obtain⟨n,hn,rfl,rfl,hid⟩:=hrel;obtain⟨⟨E,F,G⟩,⟨H,J,K,L⟩,f⟩:=dt.cells c.out d.out hid.out;by_cases k:n<b
   ·obtain⟨⟨u1,M⟩,N,⟨u2,s3⟩,O⟩:=f k;have q:fpowN S P (az S P) n<S:=eG c.out n;have r:=Lib.hid (dt.store c.out d.out hid.out k);have o:Hid (mulR C S P (fpowN S P (az S P) n:Nat) (az S P:Nat)=(((fpowN S P (az S P) (n+1):Nat):Int),0)):=by
     show _=_;unfold mulR;rw[gE c.out q hg];simp;rfl
    generalize fpowN S P (az S P) n=X at*;generalize l:fpowN S P (az S P) (n+1)=Y at*;have p:=Lib.hid l;clear l;clear f;go_wp2;go_region
    all_goals go_wp2_with(go_at_call 159;refine(iz C S P X (az S P) _ oO z).mono ?_;rintro e Q ⟨rfl,s⟩;rw[o.out])
    all_goals go_roundw
    all_goals try(case measure=>simp[intOf];omega)
    all_goals refine⟨n+1,by omega,by go_num,by rw[p.out],?_⟩
    all_goals exact dt.below (dt.drew r.out) s
   ·obtain rfl:n=b:=oO;obtain⟨T,U,V,W,Z⟩:=dt.res hid.out;have t:=Lib.hid (dt.qo c.out d.out hid.out);clear f;go_wp2;refine bodyPost_ret (v:= .agg #[.int .i64 C,.int .i64 S,.slice (some ⟨(a.heap.size+1),0,none⟩) n n,.slice (some ⟨(a.heap.size),0,none⟩) S S]) ?_ rfl ⟨(a.heap.size+1),(a.heap.size),?_,?_,?_⟩
    ·have u:Tryz.f119.results=#[.cell 2 152]:=oK;simp only[results,u];go_simp
    ·rw[d.out]
    ·exact(((t.out.setCell _ _ oT oT).setCell _ _ oT oT).setCell _ _ oT oT).setCell _ _ oT oT
    ·exact⟨(((hid.out.B.setCell oS _).setCell oS _).setCell oS _).setCell oS _,by omega,by omega⟩
 ·go_loopw [6,28] (λx i wr=>∃n:Nat,n<=b/\i= .int .i64 (n:Nat)/\x= .int .i64 ((fpowN S P (az S P) n:Nat):Int)/\Hid (dt w wr C S P b n (a.heap.size+1+1) (a.heap.size) (a.heap.size+1))) (λ_ i _=>b-(intOf i).toNat)
  case atStart=>
   refine⟨0,Nat.zero_le _,rfl,rfl,?_⟩;refine⟨aj (ah (ah (ah j.out.2.2.2 _) _) _),by omega,by omega,by omega,by omega,by omega,by omega,?_,?_,?_,?_,?_⟩
   ·exact(Below.heap_alloc _ _ _ oT).trans ((Below.heap_alloc _ _ _ oT).trans ((Below.heap_alloc _ _ _ oO).trans j.out.2.1))
   ·exact(Below.heap_alloc _ _ _ oT).trans ((Below.heap_alloc _ _ _ oT).trans ((Below.heap_alloc _ _ _ oO).trans j.out.2.2.1))
   ·rw[B.out];exact(cT a _ _ _).2.2
   ·rw[D.out];exact(cT a _ _ _).1
   ·exact(cT a _ _ _).2.1
  case round=>
   obtain⟨n,hn,rfl,rfl,hid⟩:=hrel;obtain⟨⟨E,F,G⟩,⟨H,J,K,L⟩,f⟩:=dt.cells c.out d.out hid.out;by_cases k:n<b
   ·obtain⟨⟨u1,M⟩,N,⟨u2,s3⟩,O⟩:=f k;have q:fpowN S P (az S P) n<S:=eG c.out n;have r:=Lib.hid (dt.store c.out d.out hid.out k);have o:Hid (mulR C S P (fpowN S P (az S P) n:Nat) (az S P:Nat)=(((fpowN S P (az S P) (n+1):Nat):Int),0)):=by
     show _=_;unfold mulR;rw[gE c.out q hg];simp;rfl
    generalize fpowN S P (az S P) n=X at*;generalize l:fpowN S P (az S P) (n+1)=Y at*;have p:=Lib.hid l;clear l;clear f;go_wp2;go_region
    all_goals go_wp2_with(go_at_call 159;refine(iz C S P X (az S P) _ oO z).mono ?_;rintro e Q ⟨rfl,s⟩;rw[o.out])
    all_goals go_roundw
    all_goals try(case measure=>simp[intOf];omega)
    all_goals refine⟨n+1,by omega,by go_num,by rw[p.out],?_⟩
    all_goals exact dt.below (dt.drew r.out) s
   ·obtain rfl:n=b:=oO;obtain⟨T,U,V,W,Z⟩:=dt.res hid.out;have t:=Lib.hid (dt.qo c.out d.out hid.out);clear f;go_wp2;refine bodyPost_ret (v:= .agg #[.int .i64 C,.int .i64 S,.slice (some ⟨(a.heap.size+1+1),0,none⟩) n n,.slice (some ⟨(a.heap.size),0,none⟩) S S]) ?_ rfl ⟨(a.heap.size+1+1),(a.heap.size),?_,?_,?_⟩
    ·have u:Tryz.f119.results=#[.cell 2 152]:=oK;simp only[results,u];go_simp
    ·rw[d.out]
    ·exact(((t.out.setCell _ _ oT oT).setCell _ _ oT oT).setCell _ _ oT oT).setCell _ _ oT oT
    ·exact⟨(((hid.out.B.setCell oS _).setCell oS _).setCell oS _).setCell oS _,by omega,by omega⟩
 ·go_loopw [6,28] (λx i wr=>∃n:Nat,n<=b/\i= .int .i64 (n:Nat)/\x= .int .i64 ((fpowN S P (az S P) n:Nat):Int)/\Hid (dt w wr C S P b n (a.heap.size+1) (a.heap.size+1+1) (a.heap.size))) (λ_ i _=>b-(intOf i).toNat)
  case atStart=>
   refine⟨0,Nat.zero_le _,rfl,rfl,?_⟩;refine⟨aj (ah (ah (ah j.out.2.2.2 _) _) _),by omega,by omega,by omega,by omega,by omega,by omega,?_,?_,?_,?_,?_⟩
   ·exact(Below.heap_alloc _ _ _ oT).trans ((Below.heap_alloc _ _ _ oT).trans ((Below.heap_alloc _ _ _ oO).trans j.out.2.1))
   ·exact(Below.heap_alloc _ _ _ oT).trans ((Below.heap_alloc _ _ _ oT).trans ((Below.heap_alloc _ _ _ oO).trans j.out.2.2.1))
   ·rw[B.out];exact(cT a _ _ _).2.1
   ·rw[D.out];exact(cT a _ _ _).2.2
   ·exact(cT a _ _ _).1
  case round=>
   obtain⟨n,hn,rfl,rfl,hid⟩:=hrel;obtain⟨⟨E,F,G⟩,⟨H,J,K,L⟩,f⟩:=dt.cells c.out d.out hid.out;by_cases k:n<b
   ·obtain⟨⟨u1,M⟩,N,⟨u2,s3⟩,O⟩:=f k;have q:fpowN S P (az S P) n<S:=eG c.out n;have r:=Lib.hid (dt.store c.out d.out hid.out k);have o:Hid (mulR C S P (fpowN S P (az S P) n:Nat) (az S P:Nat)=(((fpowN S P (az S P) (n+1):Nat):Int),0)):=by
     show _=_;unfold mulR;rw[gE c.out q hg];simp;rfl
    generalize fpowN S P (az S P) n=X at*;generalize l:fpowN S P (az S P) (n+1)=Y at*;have p:=Lib.hid l;clear l;clear f;go_wp2;go_region
    all_goals go_wp2_with(go_at_call 159;refine(iz C S P X (az S P) _ oO z).mono ?_;rintro e Q ⟨rfl,s⟩;rw[o.out])
    all_goals go_roundw
    all_goals try(case measure=>simp[intOf];omega)
    all_goals refine⟨n+1,by omega,by go_num,by rw[p.out],?_⟩
    all_goals exact dt.below (dt.drew r.out) s
   ·obtain rfl:n=b:=oO;obtain⟨T,U,V,W,Z⟩:=dt.res hid.out;have t:=Lib.hid (dt.qo c.out d.out hid.out);clear f;go_wp2;refine bodyPost_ret (v:= .agg #[.int .i64 C,.int .i64 S,.slice (some ⟨(a.heap.size+1),0,none⟩) n n,.slice (some ⟨(a.heap.size+1+1),0,none⟩) S S]) ?_ rfl ⟨(a.heap.size+1),(a.heap.size+1+1),?_,?_,?_⟩
    ·have u:Tryz.f119.results=#[.cell 2 152]:=oK;simp only[results,u];go_simp
    ·rw[d.out]
    ·exact(((t.out.setCell _ _ oT oT).setCell _ _ oT oT).setCell _ _ oT oT).setCell _ _ oT oT
    ·exact⟨(((hid.out.B.setCell oS _).setCell oS _).setCell oS _).setCell oS _,by omega,by omega⟩
 ·go_loopw [6,28] (λx i wr=>∃n:Nat,n<=b/\i= .int .i64 (n:Nat)/\x= .int .i64 ((fpowN S P (az S P) n:Nat):Int)/\Hid (dt w wr C S P b n (a.heap.size+1+1) (a.heap.size+1) (a.heap.size))) (λ_ i _=>b-(intOf i).toNat)
  case atStart=>
   refine⟨0,Nat.zero_le _,rfl,rfl,?_⟩;refine⟨aj (ah (ah (ah j.out.2.2.2 _) _) _),by omega,by omega,by omega,by omega,by omega,by omega,?_,?_,?_,?_,?_⟩
   ·exact(Below.heap_alloc _ _ _ oT).trans ((Below.heap_alloc _ _ _ oT).trans ((Below.heap_alloc _ _ _ oO).trans j.out.2.1))
   ·exact(Below.heap_alloc _ _ _ oT).trans ((Below.heap_alloc _ _ _ oT).trans ((Below.heap_alloc _ _ _ oO).trans j.out.2.2.1))
   ·rw[B.out];exact(cT a _ _ _).2.2
   ·rw[D.out];exact(cT a _ _ _).2.1
   ·exact(cT a _ _ _).1
  case round=>
   obtain⟨n,hn,rfl,rfl,hid⟩:=hrel;obtain⟨⟨E,F,G⟩,⟨H,J,K,L⟩,f⟩:=dt.cells c.out d.out hid.out;by_cases k:n<b
   ·obtain⟨⟨u1,M⟩,N,⟨u2,s3⟩,O⟩:=f k;have q:fpowN S P (az S P) n<S:=eG c.out n;have r:=Lib.hid (dt.store c.out d.out hid.out k);have o:Hid (mulR C S P (fpowN S P (az S P) n:Nat) (az S P:Nat)=(((fpowN S P (az S P) (n+1):Nat):Int),0)):=by
     show _=_;unfold mulR;rw[gE c.out q hg];simp;rfl
    generalize fpowN S P (az S P) n=X at*;generalize l:fpowN S P (az S P) (n+1)=Y at*;have p:=Lib.hid l;clear l;clear f;go_wp2;go_region
    all_goals go_wp2_with(go_at_call 159;refine(iz C S P X (az S P) _ oO z).mono ?_;rintro e Q ⟨rfl,s⟩;rw[o.out])
    all_goals go_roundw
    all_goals try(case measure=>simp[intOf];omega)
    all_goals refine⟨n+1,by omega,by go_num,by rw[p.out],?_⟩
    all_goals exact dt.below (dt.drew r.out) s
   ·obtain rfl:n=b:=oO;obtain⟨T,U,V,W,Z⟩:=dt.res hid.out;have t:=Lib.hid (dt.qo c.out d.out hid.out);clear f;go_wp2;refine bodyPost_ret (v:= .agg #[.int .i64 C,.int .i64 S,.slice (some ⟨(a.heap.size+1+1),0,none⟩) n n,.slice (some ⟨(a.heap.size+1),0,none⟩) S S]) ?_ rfl ⟨(a.heap.size+1+1),(a.heap.size+1),?_,?_,?_⟩
    ·have u:Tryz.f119.results=#[.cell 2 152]:=oK;simp only[results,u];go_simp
    ·rw[d.out]
    ·exact(((t.out.setCell _ _ oT oT).setCell _ _ oT oT).setCell _ _ oT oT).setCell _ _ oT oT
    ·exact⟨(((hid.out.B.setCell oS _).setCell oS _).setCell oS _).setCell oS _,by omega,by omega⟩
end
section
open Fl
section
variable {K : Type} [Fl K]
theorem zc (r:K) (f:Nat->K) (n:Nat):dw (λk=>r* f k) n=r* dw f n:=by
 induction n with
 |zero=>exact(aW r).symm
 |succ n a=>show dw _ n+r* f n=r* (dw f n+f n);rw[a,gX]
theorem JB (f g:Nat->K) (n:Nat):dw (λk=>f k+g k) n=dw f n+dw g n:=by
 induction n with
 |zero=>exact(cA _).symm
 |succ n a=>show dw _ n+(f n+g n)=(dw f n+f n)+(dw g n+g n);rw[a];ac_rfl
theorem zq {f:Nat->K} {n:Nat} (h:∀k,k<n->f k=0):dw f n=0:=by
 induction n with
 |zero=>rfl
 |succ n a=>show dw f n+f n=0;rw[a λk b=>h k oO,h n oO,aX]
theorem Lx (x:K) (f:Nat->K) (n:Nat):bU x f n=dw (λk=>f k* x^k) n:=by
 induction n with
 |zero=>rfl
 |succ n a=>rw[K7,a];rfl
theorem sA {a b:Nat->K} {n:Nat} (h:∀k,k<=n->a k* b (n-k)=0):conv a b n=0:=by
 rw[o6];exact zq λk c=>h k oO
theorem FM {a b:Nat->K} {n:Nat} (h:∀k,1<=k->k<=n->a k* b (n-k)=0):conv a b n=a 0* b n:=by
 rw[o6,xB,zq (f:=cC λk=>a k* b (n-k)) λk c=>h (k+1) oO oO,aX];rfl
theorem tH (a b c:Nat->K) (n:Nat):conv a (conv b c) n=conv b (conv a c) n:=by
 rw[<-l7,<-l7];exact eX (λk _=>jt a b k) (λ_ _=>rfl)
theorem Av {X:K} (a:X≠0) {j k:Nat} (h:k<=j):X^j* eJ X^k=X^(j-k):=by
 rw[show j=(j-k)+k from by omega,kf,Nat.add_sub_cancel,di,<-rm,gr a,iR,gl]
theorem Je {X Y:K} (c:X≠0) (a:Y≠0) (h:eJ X=eJ Y):X=Y:=by
 have b:=gr c;rw[h]at b;have d:=gr a;exact gG (uf a) (b.trans d.symm)
def jH (X:K):Nat->K:=λn=>if n=0 then 1 else if n=1 then-X else 0
theorem od (X:K):cR 2 (jH X):=λi a=>by unfold jH;rw[if_neg oO,if_neg oO]
theorem L7 (X:K) (n:Nat):cC (jH X) n=iM (-X) n:=by
 unfold cC jH iM;cases n with
 |zero=>rfl
 |succ n=>rfl
theorem Jq (X:K) (f:Nat->K) (n:Nat):conv (jH X) f (n+1)=f (n+1)-X* f n:=by
 rw[bZ,eX (a:=cC (jH X)) (a':=iM (-X)) (b:=f) (b':=f) (λk _=>L7 X k) (λ_ _=>rfl),mJ,mK];show 1* _+_=_;rw[eC];rfl
theorem x9 (y X:K):bU y (jH X) 2=1-X* y:=by
 show(1:K)+y* (-X+y* 0)=_;rw[aW,aX,qZ,cd];rfl
def qp:List K->Nat->K
 |[]=>iM 1
 |X::l=>conv (jH X) (qp l)
theorem vM (r:K):cR 1 (iM r):=λi a=>by unfold iM;rw[if_neg oO]
theorem JI {a b:Nat->K} {d e:Nat} (c:cR (d+1) a) (hb:cR (e+1) b):cR (d+e+1) (conv a b):=λn hn=>cR.conv c hb n oO
theorem uj:∀l:List K,cR (l.length+1) (qp l)
 |[]=>vM 1
 |X::l=>λn hn=>(od X).conv (uj l) n (by simp only[List.length_cons]at hn;omega)
theorem AU:∀l:List K,qp l 0=1
 |[]=>rfl
 |X::l=>by show(1:K)* qp l 0=1;rw[AU l,eC]
theorem Ed:∀l:List K,(∀X∈l,X≠0)->qp l l.length≠0
 |[],_=>kr
 |X::l,h=>by
  have a:=JY (od X) (uj l);rw[show(X::l).length=1+l.length from by rw[List.length_cons,Nat.add_comm]];show conv (jH X) (qp l) (1+l.length)≠0
  rw[a];refine lN (λe=>h X oS ?_) (Ed l λY b=>h Y (by simp[b]));have e2:-X=0:=e;rw[<-qO X,e2,th]
theorem nu {x:K} {a b:Nat->K} {d e n:Nat} (c:cR (d+1) a) (hb:cR (e+1) b) (hn:d+e+1<=n):bU x (conv a b) n=bU x a (d+1)* bU x b (e+1):=by
 rw[fZ (JI c hb) hn,<-Bg c hb];exact(fZ (JI c hb) oO).symm
def sD (y:K):List K->K
 |[]=>1
 |X::l=>(1-X* y)* sD y l
theorem Dp (y:K):∀l:List K,bU y (qp l) (l.length+1)=sD y l
 |[]=>by show(1:K)+y* 0=1;rw[aW,aX]
 |X::l=>by
  show bU y (conv (jH X) (qp l)) (l.length+1+1)=_;rw[nu (od X) (uj l) oO,x9,Dp y l];rfl
theorem vc {y:K}:∀{l:List K} {X:K},X∈l->X* y=1->sD y l=0
 |Z::l,X,h,e=>by
  rcases List.mem_cons.1 h with rfl|h
  ·show(1-X* y)* _=0;rw[e,dL,bV]
  ·show _* sD y l=0;rw[vc h e,aW]
theorem BC {y:K}:∀{l:List K},(∀X∈l,X* y≠1)->sD y l≠0
 |[],_=>kr
 |Z::l,h=>lN (λe=>h Z oS (jb.1 e).symm) (BC λX a=>h X (by simp[a]))
theorem xZ (X:K):∀(s t:List K) (n:Nat),qp (s++X::t) n=conv (jH X) (qp (s++t)) n
 |[],t,n=>rfl
 |Z::s,t,n=>by
  show conv (jH Z) (qp (s++X::t)) n=conv (jH X) (conv (jH Z) (qp (s++t))) n
  rw[tH];exact eX (λ_ _=>rfl) (λk _=>xZ X s t k)
def eH:List (K×K)->Nat->K
 |[],_=>0
 |e::l,j=>e.1* e.2^j+eH l j
def rA (C:Nat->K) (L j:Nat):List (K×K)->K
 |[]=>0
 |e::l=>e.1* e.2^j* bU (eJ e.2) C (L+1)+rA C L j l
theorem IJ {C:Nat->K} {L j:Nat} (a:cR (L+1) C) (d:L<=j) (w:K) {X:K} (b:X≠0):conv C (λk=>w* X^k) j=w* X^j* bU (eJ X) C (L+1):=by
 rw[o6,rh (n:=L+1) (λk c e=>by rw[a k c,bV]) oO,Lx,<-zc];apply iK;intro k f;rw[<-Av b (show k<=j by omega)]
 ac_rfl
theorem sN {C:Nat->K} {L j:Nat} (a:cR (L+1) C) (b:L<=j):∀E:List (K×K),(∀e∈E,e.2≠0)->conv C (eH E) j=rA C L j E
 |[],_=>by rw[jt];exact fK λk=>rfl
 |e::l,h=>by
  show conv C (λk=>e.1* e.2^k+eH l k) j=_
  rw[qf,IJ a b e.1 (h e oS),sN a b l λx c=>h x (by simp[c])];rfl
theorem sB {C:Nat->K} {L j:Nat}:∀{E:List (K×K)},(∀e∈E,bU (eJ e.2) C (L+1)=0)->rA C L j E=0
 |[],_=>rfl
 |e::l,h=>by
  show _* bU (eJ e.2) C (L+1)+rA C L j l=0;rw[h e oS,sB λx a=>h x (by simp[a]),aW,aX]
theorem B7 (e:K×K):∀(s t:List (K×K)) (j:Nat),eH (s++e::t) j=e.1* e.2^j+eH (s++t) j
 |[],t,j=>rfl
 |z::s,t,j=>by
  show z.1* z.2^j+eH (s++e::t) j=e.1* e.2^j+(z.1* z.2^j+eH (s++t) j);rw[B7 e s t j];ac_rfl
theorem Ck (C:Nat->K) (L j:Nat) (e:K×K):∀(s t:List (K×K)),rA C L j (s++e::t)=e.1* e.2^j* bU (eJ e.2) C (L+1)+rA C L j (s++t)
 |[],t=>rfl
 |z::s,t=>by
  show _+rA C L j (s++e::t)=_+(_+rA C L j (s++t));rw[Ck C L j e s t];ac_rfl
def lam (E:List (K×K)):Nat->K:=qp (E.map (·.2))
theorem kg (E:List (K×K)):cR (E.length+1) (lam E):=by have:=uj (E.map (·.2));rwa[List.length_map]at this
theorem AW (E:List (K×K)):lam E 0=1:=AU _
theorem DF {E:List (K×K)} (h:∀e∈E,e.2≠0):lam E E.length≠0:=by
 have:=Ed (E.map (·.2)) (λX a=>by obtain⟨e,b,rfl⟩:=List.mem_map.1 a;exact h e b);rwa[List.length_map]at this
theorem qn (y:K) (E:List (K×K)):bU y (lam E) (E.length+1)=sD y (E.map (·.2)):=by
 have:=Dp y (E.map (·.2));rwa[List.length_map]at this
theorem vu {E:List (K×K)} {e:K×K} (a:e∈E) (b:e.2≠0):bU (eJ e.2) (lam E) (E.length+1)=0:=by
 rw[qn];exact vc (List.mem_map_of_mem a) (gr b)
theorem DU {E:List (K×K)} (h:∀e∈E,e.2≠0) {j:Nat} (b:E.length<=j):conv (lam E) (eH E) j=0:=by
 rw[sN (kg E) b E h];exact sB λe a=>vu a (h e a)
theorem Mb {C D S:Nat->K} {L v n:Nat} (a:cR (L+1) C) (b:cR (v+1) D) (c:D 0=1) (d:∀j,L<=j->j<n->conv C S j=0) (e:∀j,v<=j->conv D S j=0)
 (f:conv C S n≠0):n+1<=L+v:=by
 apply Classical.byContradiction;intro l;apply f;have e1:conv D (conv C S) n=D 0* conv C S n:=FM λk g hn=>by
  by_cases i:k<=v
  ·rw[d (n-k) oO oO,aW]
  ·rw[b k oO,bV]
 have e2:conv C (conv D S) n=0:=sA λk g=>by
  by_cases hl:k<=L
  ·rw[e (n-k) oO,aW]
  ·rw[a k oO,bV]
 rw[tH,e2,c,eC]at e1;exact e1.symm
def xy:Nat->(Nat->K)->Nat->K
 |0,f=>f
 |m+1,f=>sh (xy m f)
theorem wW (m:Nat) (f:Nat->K) (j:Nat):xy m f j=if m<=j then f (j-m)else 0:=by
 induction m generalizing j with
 |zero=>rw[if_pos (Nat.zero_le _)];rfl
 |succ m a=>
  cases j with
  |zero=>rw[if_neg oO];rfl
  |succ j=>
   show xy m f j=_;rw[a];by_cases h:m<=j
   ·rw[if_pos h,if_pos oO,show j+1-(m+1)=j-m from by omega]
   ·rw[if_neg h,if_neg oO]
theorem Iu (m:Nat) (f S:Nat->K) (j:Nat):conv (xy m f) S j=xy m (conv f S) j:=by
 induction m generalizing j with
 |zero=>rfl
 |succ m a=>
  show conv (sh (xy m f)) S j=sh (xy m (conv f S)) j
  rw[DI];cases j with
  |zero=>rfl
  |succ j=>exact a j
theorem K5 {m d:Nat} {f:Nat->K} (h:cR d f):cR (d+m) (xy m f):=λi a=>by
 rw[wW,if_pos oO,h _ oO]
structure nx (S:Nat->K) (n:Nat) (C B:Nat->K) (L m:Nat) (b:K):Prop where
 c0:C 0=1
 cs:cR (L+1) C
 ln:L<=n
 gen:∀j,L<=j->j<n->conv C S j=0
 b0:b≠0
 m1:1<=m
 q:∃q,L+q+m=n+1/\cR (q+1) B/\(m<=n->(∀j,q<=j->j+m<n->conv B S j=0)/\conv B S (n-m)=b)
theorem nx.start (S:Nat->K):nx S 0 (iM 1) (iM 1) 0 1 1:=
 ⟨rfl,vM 1,Nat.le_refl _,λj a b=>by omega,kr,Nat.le_refl _,0,rfl,vM 1,λh=>by omega⟩
theorem nx.skip {S C B:Nat->K} {n L m:Nat} {b:K} (h:nx S n C B L m b) (d:conv C S n=0):nx S (n+1) C B L (m+1) b:=by
 obtain⟨q,k,e,f⟩:=h.q;refine⟨h.c0,h.cs,by have:=h.ln;omega,λj a c=>?_,h.b0,by omega,q,by omega,e,λl=>?_⟩
 ·rcases Nat.lt_or_ge j n with g|g
  ·exact h.gen j a g
  ·obtain rfl:j=n:=oO;exact d
 ·obtain⟨a,c⟩:=f oO;exact⟨λj i o=>a j i oO,by rw[show n+1-(m+1)=n-m from by omega];exact c⟩
def qm (C B:Nat->K) (m:Nat) (r:K):Nat->K:=λj=>C j-r* xy m B j
theorem nx.AQ {S C B:Nat->K} {n L m:Nat} {b r:K} (h:nx S n C B L m b) (a:r* b=conv C S n) (j:Nat) (c:L<=j) (f:n+1<=j+L) (i:j<n+1):conv (qm C B m r) S j=0:=by
 obtain⟨q,e1,e2,e3⟩:=h.q;unfold qm;rw[zF,qu,Iu,wW,if_pos oO];obtain⟨d,e⟩:=e3 oO;rcases Nat.lt_or_ge j n with g|g
 ·rw[h.gen j c g,d (j-m) oO oO,aW,fG]
 ·obtain rfl:j=n:=oO;rw[e,a,dL]
theorem Ct {S C B:Nat->K} {n L m:Nat} {b r:K} (h:nx S n C B L m b):qm C B m r 0=1:=by
 have:=h.m1;unfold qm;rw[wW,if_neg oO,aW,fG,h.c0]
theorem DG {S C B:Nat->K} {n L m a:Nat} {b r:K} (h:nx S n C B L m b) (c:L<=a) (d:n+1<=a+L):cR (a+1) (qm C B m r):=λi e=>by
 obtain⟨q,e1,e2,e3⟩:=h.q;unfold qm;rw[h.cs i oO,K5 e2 i oO,aW,fG]
theorem nx.grow {S C B:Nat->K} {n L m:Nat} {b r:K} (h:nx S n C B L m b) (a:conv C S n≠0) (c:r* b=conv C S n) (f:2* L<=n):nx S (n+1) (qm C B m r) C (n+1-L) 1 (conv C S n):=by
 have hl:=h.ln;refine⟨Ct h,DG h oO oO,by omega,λj g d=>h.AQ c j oO oO d,a,Nat.le_refl _,L,by omega,h.cs,λ_=>⟨λj e i=>h.gen j e oO,rfl⟩⟩
theorem nx.stay {S C B:Nat->K} {n L m:Nat} {b r:K} (h:nx S n C B L m b) (d:r* b=conv C S n) (f:n<2* L):nx S (n+1) (qm C B m r) B L (m+1) b:=by
 have hl:=h.ln;obtain⟨q,e1,e2,e3⟩:=h.q;refine⟨Ct h,DG h (Nat.le_refl _) oO,by omega,λj a c=>h.AQ d j a oO c,h.b0,by omega,q,by omega,e2,λg=>?_⟩;obtain⟨a,c⟩:=e3 oO;exact⟨λj e i=>a j e oO,by rw[show n+1-(m+1)=n-m from by omega];exact c⟩
structure kR (E:List (K×K)):Prop where
 w0:∀e∈E,e.1≠0
 x0:∀e∈E,e.2≠0
 nd:(E.map (·.2)).Nodup
theorem kR.out {s t:List (K×K)} {e:K×K} (h:kR (s++e::t)):∀X∈(s++t).map (·.2),X≠e.2:=by
 have b:=h.nd;intro X a e2;subst e2;rw[List.map_append,List.map_cons,List.nodup_append]at b;obtain⟨f,c,d⟩:=b;rw[List.nodup_cons]at c;rw[List.map_append,List.mem_append]at a;rcases a with a|a
 ·exact d _ a _ oS rfl
 ·exact c.1 a
theorem kR.rest {s t:List (K×K)} {e:K×K} (h:kR (s++e::t)):kR (s++t):=by
 refine⟨λx a=>h.w0 x ?_,λx a=>h.x0 x ?_,?_⟩
 ·rw[List.mem_append]at a;rw[List.mem_append,List.mem_cons];rcases a with a|a
  ·exact .inl a
  ·exact .inr (.inr a)
 ·rw[List.mem_append]at a;rw[List.mem_append,List.mem_cons];rcases a with a|a
  ·exact .inl a
  ·exact .inr (.inr a)
 ·have:=h.nd;refine this.sublist ?_;exact((List.Sublist.refl s).append (List.sublist_cons_self e t)).map _
theorem kR.Hl {s t:List (K×K)} {e:K×K} (h:kR (s++e::t)):sD (eJ e.2) ((s++t).map (·.2))≠0:=BC λX b e1=>by
 have a:e.2≠0:=h.x0 e oS;have c:=h.out X b;exact c (gG (uf a) (e1.trans (gr a).symm))
theorem LM {E:List (K×K)} (a:kR E) {C:Nat->K} {L N:Nat} (f:cR (L+1) C) (m:∀j,L<=j->j<N->conv C (eH E) j=0) (n:L<=E.length) (o:2* E.length<=N):
 ∀e∈E,bU (eJ e.2) C (L+1)=0:=by
 intro e p;obtain⟨s,t,rfl⟩:=List.append_of_mem p;have w:(s++e::t).length=(s++t).length+1:=by simp;omega
 rw[w]at n o;obtain⟨v,g⟩:∃v,v=(s++t).length:=⟨_,rfl⟩;have b:cR (v+1) (lam (s++t)):=by rw[g];exact kg _
 have c:conv (lam (s++t)) (conv C (eH (s++e::t))) (L+v)=0:=sA λk y=>by
  by_cases z:k<=v
  ·rw[m (L+v-k) oO oO,aW]
  ·rw[b k oO,bV]
 rw[<-l7]at c;have q:=JI b f;rw[sN (L:=v+L) q oO _ a.x0,Ck]at c;have d:e.2≠0:=a.x0 e oS;have r:rA (conv (lam (s++t)) C) (v+L) (L+v) (s++t)=0:=sB λx d=>by
  rw[nu b f (Nat.le_refl _),g,vu d (a.rest.x0 x d),bV]
 rw[r,aX,nu b f (Nat.le_refl _),g,qn]at c;have u:=a.w0 e oS;rcases yj c with i|i
 ·exact absurd i (lN u (lA d _))
 ·rcases yj i with l|l
  ·exact absurd l a.Hl
  ·exact l
theorem LY {E:List (K×K)} (c:kR E) {C:Nat->K} {L N:Nat} (g:cR (L+1) C) (v:C 0=1) (m:∀j,L<=j->j<N->conv C (eH E) j=0) (n:L<=E.length) (o:2* E.length<=N):
 L=E.length/\∀i,C i=lam E i:=by
 have p:=LM c g m n o;have w:cR (E.length+1) (λi=>C i-lam E i):=λi q=>by
  show C i-lam E i=0;rw[g i oO,kg E i q,dL]
 have l:∀i,C i=lam E i:=λi=>by
  have:=CM w (0::E.map λe=>eJ e.2) (by
   rw[List.nodup_cons];refine⟨λh=>?_,?_⟩
   ·obtain⟨e,f,r⟩:=List.mem_map.1 h;exact uf (c.x0 e f) r
   ·have s:E.map (λe=>eJ e.2)=(E.map (·.2)).map eJ:=by rw[List.map_map];rfl
    rw[s];refine nA (λa t b hb h=>?_) c.nd;obtain⟨e,f,rfl⟩:=List.mem_map.1 t;obtain⟨d,u,rfl⟩:=List.mem_map.1 hb
    exact Je (c.x0 e f) (c.x0 d u) h) oS (λx k=>by
   rw[Ee];rcases List.mem_cons.1 k with rfl|k
   ·rw[cJ,cJ,bV,bV,v,AW,dL]
   ·obtain⟨e,f,rfl⟩:=List.mem_map.1 k
    rw[fZ g oO,p e f,vu f (c.x0 e f),dL]) i
  exact jb.1 this
 refine⟨?_,l⟩;rcases Nat.lt_or_ge L E.length with h|h
 ·exact absurd ((l E.length).symm.trans (g _ oO)) (DF c.x0)
 ·omega
theorem As (w X:K) (n:Nat):conv (jH X) (λj=>w* X^j) n=iM w n:=by
 cases n with
 |zero=>show(1:K)* (w* 1)=w;rw[eC,gl]
 |succ n=>
  rw[Jq];show w* (X^n* X)-X* (w* X^n)=0;rw[show w* (X^n* X)=X* (w* X^n)from by ac_rfl,dL]
theorem Ew {s t:List (K×K)} {e:K×K} (h:kR (s++e::t)) {N:Nat} (o:(s++e::t).length<=N):
 bU (eJ e.2) (conv (lam (s++e::t)) (eH (s++e::t))) N=e.1* sD (eJ e.2) ((s++t).map (·.2)):=by
 have d:e.2≠0:=h.x0 e oS;have q:(s++e::t).length=(s++t).length+1:=by simp;omega
 have f:∀n,lam (s++e::t) n=conv (jH e.2) (lam (s++t)) n:=λn=>by
  unfold lam;rw[List.map_append,List.map_cons,xZ,List.map_append]
 have key:∀n,conv (lam (s++e::t)) (eH (s++e::t)) n=e.1* lam (s++t) n+conv (jH e.2) (conv (lam (s++t)) (eH (s++t))) n:=λn=>by
  rw[eX (a:=lam (s++e::t)) (a':=conv (jH e.2) (lam (s++t))) (b:=eH (s++e::t)) (b':=λj=>e.1* e.2^j+eH (s++t) j) (λk _=>f k) (λk _=>B7 e s t k),qf];congr 1
  ·rw[l7,tH];rw[eX (a:=lam (s++t)) (a':=lam (s++t)) (b:=conv (jH e.2) λk=>e.1* e.2^k) (b':=iM e.1) (λ_ _=>rfl) (λk _=>As e.1 e.2 k),jt,mJ]
  ·rw[l7]
 rw[gV λi _=>key i,nX,rq];have c:cR (s++t).length (conv (lam (s++t)) (eH (s++t))):=λj g=>DU h.rest.x0 g;have l:bU (eJ e.2) (conv (jH e.2) (conv (lam (s++t)) (eH (s++t)))) N=0:=by
  rw[(fZ (n:=N) (m:=1+(s++t).length+1+N) (λi p=>(od e.2).conv c i oO) oO).symm,
   nu (od e.2) (c.mono (Nat.le_succ _)) oO,x9,gr d,dL,bV]
 rw[l,aX,fZ (kg (s++t)) oO,qn]
theorem KM (X:K) (n:Nat):jW (jH X) n=iM (-X) n:=by
 unfold jW jH iM;cases n with
 |zero=>exact cA _
 |succ n=>rw[if_neg oO,if_neg oO,if_neg oO];exact vE _
theorem DM {f:Nat->K} {d:Nat} (h:cR (d+1) f):cR d (jW f):=λi a=>by
 show il (i+1) (f (i+1))=0;rw[h (i+1) oO,vE]
theorem B6 {s t:List (K×K)} {e:K×K} (h:kR (s++e::t)) {N:Nat} (l:(s++e::t).length<=N):
 bU (eJ e.2) (jW (lam (s++e::t))) N=-(e.2* sD (eJ e.2) ((s++t).map (·.2))):=by
 have c:e.2≠0:=h.x0 e oS;have g:(s++e::t).length=(s++t).length+1:=by simp;omega
 have d:lam (s++e::t)=conv (jH e.2) (lam (s++t)):=by
  funext n;unfold lam;rw[List.map_append,List.map_cons,xZ,List.map_append]
 have j:cR ((s++t).length+1) (jW (lam (s++e::t))):=DM (by have:=kg (s++e::t);rw[g]at this;exact this);have f:cR ((s++t).length+1) (jW (lam (s++t))):=(DM (kg (s++t))).mono (Nat.le_succ _);rw[<-fZ (m:=N+((s++t).length+3)) (j.mono oO) oO,d];rw[gV λi _=>J9 (jH e.2) (lam (s++t)) i,nX];rw[nu (od e.2) f oO,x9,gr c,dL,bV,aX];rw[gV λi _=>eX (a:=jW (jH e.2)) (a':=iM (-e.2)) (b:=lam (s++t)) (b':=lam (s++t)) (λk _=>KM e.2 k) (λ_ _=>rfl)];rw[gV λi _=>mJ (-e.2) (lam (s++t)) i,rq,fZ (kg (s++t)) oO,qn,mK]
end
noncomputable def iV (s p j:Nat):Nat:=fpowN s p (az s p) (j%(s-1))
def tm (s p x:Nat) (w:List Nat):Nat->Nat
 |0=>0
 |k+1=>bQ s p (aF s p (tm s p x w k) x) (w.getD k 0)
noncomputable def lT (s p first:Nat) (w:List Nat) (j:Nat):Nat:=tm s p (iV s p (first+j)) w w.length
def dX (w v:List Nat):List Nat:=(List.range w.length).filter λi=>decide (w.getD i 0≠v.getD i 0)
structure Fix (s p par first:Nat) (w v:List Nat):Prop where
 lt:ao s v
 ln:v.length=w.length
 cw:∀j,j<par->lT s p first v j=0
 df:2* (dX w v).length<=par
section
variable {c s p : Nat} (h : VF c s p)
include h
theorem je (j:Nat):iV s p j<s:=eG h _
theorem xi {x:Nat} {w:List Nat} (a:ao s w) (k:Nat):tm s p x w k<s:=by
 cases k with
 |zero=>have:=h.aR;show 0<s;omega
 |succ k=>exact kl h _ _ (bN h _ _) (a k)
theorem xE {first:Nat} {w:List Nat} (a:ao s w) (j:Nat):lT s p first w j<s:=xi h a _
theorem uT {a:Nat} (b:a<s):aU h a=0↔a=0:=by
 constructor
 ·intro e;rw[<-bT h]at e;exact jJ h b (by have:=h.aR;omega) e
 ·rintro rfl;exact bT h
theorem Lt:im (KF h)=s:=ko h
noncomputable def alpha:KF h:=aU h (az s p)
theorem DL {a:Nat} (b:a<s):∀n,aU h (fpowN s p a n)=aU h a^n
 |0=>lr h
 |n+1=>by
  show aU h (aF s p (fpowN s p a n) a)=aU h a^n* aU h a;rw[gh h (vP h a n) b,DL b n]
theorem pj:dB (alpha h) (s-1):=by
 have hg:=j8 h;have a:=(oY h (⟨az s p,hg.2.1⟩:El s) (s-1)).1 hg.2.2.1;unfold alpha;rw[gZ h hg.2.1];exact a
theorem Jo:alpha h≠0:=(pj h).ne
theorem yb (j:Nat):aU h (iV s p j)=alpha h^j:=by
 unfold iV alpha;rw[DL h (j8 h).2.1];exact(vw (pj h).2.1 j).symm
theorem DP {x:Nat} (b:x<s) {w:List Nat} (a:ao s w):∀k,aU h (tm s p x w k)=dw (λi=>co h w i* aU h x^(k-1-i)) k
 |0=>bT h
 |k+1=>by
  show aU h (bQ s p (aF s p (tm s p x w k) x) (w.getD k 0))=dw (λi=>co h w i* aU h x^(k+1-1-i)) k+co h w k* aU h x^(k+1-1-k);rw[nY h (bN h _ _) (a k),gh h (xi h a k) b,DP b a k,show k+1-1-k=0 from by omega,jm,gl];congr 1;rw[cd,<-zc];apply iK;intro i d;rw[show k+1-1-i=(k-1-i)+1 from by omega,eE]
  ac_rfl
noncomputable def loc (n i:Nat):KF h:=alpha h^(n-1-i)
theorem nC (n i:Nat):loc h n i≠0:=lA (Jo h) _
theorem Dz {n i j:Nat} (hn:n<=s-1) (a:i<n) (b:j<n) (e:loc h n i=loc h n j):i=j:=by
 have:=(pj h).inj oO oO e;omega
theorem AV {first:Nat} {w:List Nat} (a:ao s w) (j:Nat):aU h (lT s p first w j)=dw (λi=>co h w i* loc h w.length i^first* loc h w.length i^j) w.length:=by
 unfold lT;rw[DP h (je h _) a];apply iK;intro i b;rw[yb,<-fq];unfold loc;rw[<-fq,<-fq,di,<-kf,<-Nat.mul_add,Nat.mul_comm]
theorem CT (a b:List (KF h×KF h)) (j:Nat):eH (a++b) j=eH a j+eH b j:=by
 induction a with
 |nil=>exact(cA _).symm
 |cons e l d=>show _+eH (l++b) j=_+eH l j+eH b j;rw[d,iE]
noncomputable def jS (n first:Nat) (f:Nat->KF h) (m:Nat):List (KF h×KF h):=((List.range m).filter λi=>decide (f i≠0)).map λi=>(f i* loc h n i^first,loc h n i)
theorem yE (n first:Nat) (f:Nat->KF h) (j:Nat):∀m,eH (jS h n first f m) j=dw (λi=>f i* loc h n i^first* loc h n i^j) m
 |0=>rfl
 |m+1=>by
  unfold jS;rw[List.range_succ,List.filter_append,List.map_append,CT];show eH (jS h n first f m) j+_=dw _ m+_;rw[yE n first f j m];congr 1;show _=f m* loc h n m^first* loc h n m^j
  by_cases a:f m=0
  ·have:List.filter (λi=>decide (f i≠0)) [m]=[]:=by simp[a]
   rw[this,a,bV,bV];rfl
  ·have:List.filter (λi=>decide (f i≠0)) [m]=[m]:=by simp[a]
   rw[this];show f m* loc h n m^first* loc h n m^j+0=_
   rw[aX]
theorem sx {n first:Nat} (hn:n<=s-1) (f:Nat->KF h):kR (jS h n first f n):=by
 refine⟨λe d=>?_,λe d=>?_,?_⟩
 ·obtain⟨i,g,rfl⟩:=List.mem_map.1 d;rw[List.mem_filter]at g;exact lN (by simpa using g.2) (lA (nC h n i) _)
 ·obtain⟨i,g,rfl⟩:=List.mem_map.1 d;exact nC h n i
 ·unfold jS;rw[List.map_map];refine nA (λa j b hb e=>?_) (List.nodup_range.filter _);rw[List.mem_filter,List.mem_range]at j hb;exact Dz h hn j.1 hb.1 e
theorem pX (n first:Nat) (f:Nat->KF h) (m:Nat):(jS h n first f m).length=((List.range m).filter λi=>decide (f i≠0)).length:=by unfold jS;rw[List.length_map]
noncomputable def err (w v:List Nat) (i:Nat):KF h:=co h w i-co h v i
theorem Cc {w v:List Nat} (a:ao s w) (b:ao s v) (i:Nat):err h w v i≠0↔w.getD i 0≠v.getD i 0:=by
 constructor
 ·intro e e2;apply e;unfold err co;rw[e2,dL]
 ·intro e e2;apply e;exact jJ h (a i) (b i) (jb.1 e2)
theorem tz {w v:List Nat} (a:ao s w) (b:ao s v):((List.range w.length).filter λi=>decide (err h w v i≠0))=dX w v:=by
 unfold dX;apply List.filter_congr;intro i _;exact decide_eq_decide.2 (Cc h a b i)
theorem Ba {par first:Nat} {w v:List Nat} (d:ao s w) (a:Fix s p par first w v) {j:Nat} (e:j<par):
 aU h (lT s p first w j)=eH (jS h w.length first (err h w v) w.length) j:=by
 rw[yE,AV h d];have b:aU h (lT s p first v j)=0:=by rw[a.cw j e,bT]
 rw[AV h a.lt,a.ln]at b;have f:dw (λi=>err h w v i* loc h w.length i^first* loc h w.length i^j) w.length+dw (λi=>co h v i* loc h w.length i^first* loc h w.length i^j) w.length=dw (λi=>co h w i* loc h w.length i^first* loc h w.length i^j) w.length:=by
  rw[<-JB];apply iK;intro i g;unfold err;rw[di,di,di,<-iP,ph]
 rw[<-f,b,aX]
theorem Aq {n i:Nat} (hn:n<=s-1) (a:i<n):aU h (iV s p (s-1-(n-1-i)))=eJ (loc h n i):=by
 rw[yb];apply gG (nC h n i);rw[Cl (nC h n i)];unfold loc;rw[<-kf,show s-1-(n-1-i)+(n-1-i)=s-1 from by omega];exact(pj h).2.1
structure mi (S:Nat->KF h) (N:Nat) (q:Nat->KF h) (L:Nat):Prop where
 c0:q 0=1
 cs:cR (L+1) q
 gen:∀j,L<=j->j<N->conv q S j=0
 mn:∀E:List (KF h×KF h),kR E->(∀j,j<N->S j=eH E j)->L<=E.length
theorem mi.end {S:Nat->KF h} {N:Nat} {q:Nat->KF h} {L:Nat} (hl:mi h S N q L) {E:List (KF h×KF h)} (a:kR E) (b:∀j,j<N->S j=eH E j) (d:2* E.length<=N):L=E.length/\∀i,q i=lam E i:=
 LY a hl.cs hl.c0 (λj e f=>by rw[<-hl.gen j e f];exact eX (λ_ _=>rfl) λk g=>(b k oO).symm) (hl.mn E a b) d
structure kB (S:Nat->KF h) (N n:Nat) (C B:Nat->KF h) (L m:Nat) (b:KF h):Prop where
 I:nx S n C B L m b
 mn:∀E:List (KF h×KF h),kR E->(∀j,j<N->S j=eH E j)->L<=E.length
theorem kB.start (S:Nat->KF h) (N:Nat):kB h S N 0 (iM 1) (iM 1) 0 1 1:=⟨nx.start S,λ_ _ _=>Nat.zero_le _⟩
theorem kB.skip {S C B:Nat->KF h} {N n L m:Nat} {b:KF h} (hb:kB h S N n C B L m b) (a:conv C S n=0):kB h S N (n+1) C B L (m+1) b:=⟨hb.I.skip a,hb.mn⟩
theorem kB.grow {S C B:Nat->KF h} {N n L m:Nat} {b r:KF h} (hb:kB h S N n C B L m b) (hn:n<N) (d:conv C S n≠0) (f:r* b=conv C S n) (a:2* L<=n):kB h S N (n+1) (qm C B m r) C (n+1-L) 1 (conv C S n):=by
 refine⟨hb.I.grow d f a,λE g l=>?_⟩;have e:∀k,k<=n->conv C S k=conv C (eH E) k:=λk t=>eX (λ_ _=>rfl) λi u=>l i oO
 have:=Mb (S:=eH E) hb.I.cs (kg E) (AW E) (λj o a=>(e j (Nat.le_of_lt a)).symm.trans (hb.I.gen j o a)) (λj q=>DU g.x0 q) (by rw[<-e n (Nat.le_refl _)];exact d);omega
theorem kB.stay {S C B:Nat->KF h} {N n L m:Nat} {b r:KF h} (hb:kB h S N n C B L m b) (a:r* b=conv C S n) (d:n<2* L):kB h S N (n+1) (qm C B m r) B L (m+1) b:=⟨hb.I.stay a d,hb.mn⟩
theorem kB.Mf {S C B:Nat->KF h} {N L m:Nat} {b:KF h} (hb:kB h S N N C B L m b):mi h S N C L:=⟨hb.I.c0,hb.I.cs,hb.I.gen,hb.mn⟩
noncomputable def ig (s p n i:Nat):Nat:=iV s p (s-1-(n-1-i))
noncomputable def iq (s p n:Nat) (q:List Nat):List Nat:=(List.range n).filter λi=>hornN s p (ig s p n i) q==0
theorem JX {par first:Nat} {w v:List Nat} (g:ao s w) (hn:w.length<=s-1) (j:Fix s p par first w v) {q:List Nat} (hq:ao s q) (r:q.length=(dX w v).length+1)
 (t:∀i,co h q i=lam (jS h w.length first (err h w v) w.length) i):iq s p w.length q=dX w v:=by
 have x:=sx h hn (first:=first) (err h w v);have u:(jS h w.length first (err h w v) w.length).length=(dX w v).length:=by rw[pX,tz h g j.lt]
 unfold iq dX;apply List.filter_congr;intro i a;rw[List.mem_range]at a;have e1:aU h (hornN s p (ig s p w.length i) q)=sD (eJ (loc h w.length i)) ((jS h w.length first (err h w v) w.length).map (·.2)):=by
  rw[tL h (show ig s p w.length i<s from je h _) q (fW hq),show aU h (ig s p w.length i)=_ from Aq h hn a,gV λi _=>t i,r,<-u,qn]
 have hb:hornN s p (ig s p w.length i) q<s:=j9 h _ q (fW hq);rw[Bool.eq_iff_iff,beq_iff_eq,decide_eq_true_eq,<-uT h hb,e1,<-Cc h g j.lt];constructor
 ·intro b l;refine BC (λX m e=>?_) b;obtain⟨d,n,rfl⟩:=List.mem_map.1 m;obtain⟨k,f,rfl⟩:=List.mem_map.1 n;rw[List.mem_filter,List.mem_range]at f;have e2:loc h w.length k=loc h w.length i:=gG (uf (nC h _ i)) (e.trans (gr (nC h _ i)).symm);have:=Dz h hn f.1 a e2;subst this;have o:err h w v k≠0:=by simpa using f.2
  exact o l
 ·intro b;refine vc (X:=loc h w.length i) ?_ (gr (nC h _ i));refine List.mem_map.2 ⟨(err h w v i* loc h w.length i^first,loc h w.length i),?_,rfl⟩;exact List.mem_map.2 ⟨i,by rw[List.mem_filter,List.mem_range];exact⟨a,by simpa using b⟩,rfl⟩
end
noncomputable def cV (s p par first:Nat) (w:List Nat):List Nat:=(List.range par).map (lT s p first w)
noncomputable def jT (s p first n:Nat) (sl:List Nat) (i:Nat):Nat:=aF s p (iV s p ((n-1-i)* (first+s-2))) (hornN s p (ig s p n i) sl)
noncomputable def ij (s p first n:Nat) (ev sl:List Nat) (i:Nat):Nat:=aF s p (hornN s p (ig s p n i) ev) (dU s p (jT s p first n sl i))
def jc (s p:Nat) (w P:List Nat) (f:Nat->Nat):List Nat:=(List.range w.length).map λi=>if i∈P then bQ s p (w.getD i 0) (f i)else w.getD i 0
structure MB {c s p:Nat} (h:VF c s p) (par:Nat) (a q ev sl:List Nat):Prop where
 e1:ao s ev
 e2:ev.length=par
 e3:∀j,j<par->co h ev j=conv (co h q) (co h a) j
 s1:ao s sl
 s2:sl.length=q.length-1
 s3:∀j,co h sl j=jW (co h q) j
noncomputable def sV (s p par first:Nat) (w q ev sl:List Nat):Option (List Nat):=@ite _ (2* (q.length-1)<=par/\(iq s p w.length q).length=q.length-1/\(∀i,i∈iq s p w.length q->jT s p first w.length sl i≠0)/\∀j,j<par->lT s p first (jc s p w (iq s p w.length q) (ij s p first w.length ev sl)) j=0) (Classical.propDecidable _)
 (some (jc s p w (iq s p w.length q) (ij s p first w.length ev sl))) none
theorem fl (s p:Nat) (w P:List Nat) (f:Nat->Nat):(jc s p w P f).length=w.length:=by unfold jc;simp
theorem lH {s p:Nat} {w P:List Nat} {f:Nat->Nat} {i:Nat} (a:i<w.length):(jc s p w P f).getD i 0=if i∈P then bQ s p (w.getD i 0) (f i)else w.getD i 0:=by
 unfold jc;exact bw _ _ _ a
theorem vk {w v:List Nat} {i:Nat}:i∈dX w v↔i<w.length/\w.getD i 0≠v.getD i 0:=by
 unfold dX;rw[List.mem_filter,List.mem_range,decide_eq_true_eq]
theorem cZ {a b:List Nat} (hl:a.length=b.length) (e:∀i,i<a.length->a.getD i 0=b.getD i 0):a=b:=by
 apply List.ext_getElem hl;intro i d f;have:=e i d;simpa[List.getD,d,f]using this
section
variable {c s p : Nat} (h : VF c s p)
include h
theorem ym {par first:Nat} {w:List Nat} (a:ao s w):ao s (cV s p par first w):=gT h λi _=>xE h a i
theorem Du {par first:Nat} {w:List Nat} {j:Nat} (a:j<par):co h (cV s p par first w) j=aU h (lT s p first w j):=by
 unfold cV;rw[sZ,if_pos a]
theorem Lb {w P:List Nat} {f:Nat->Nat} (a:ao s w) (b:∀i,f i<s):ao s (jc s p w P f):=gT h λi _=>by
 split
 ·exact kl h _ _ (a i) (b i)
 ·exact a i
theorem yi {first n:Nat} {ev sl:List Nat} (i:Nat):ij s p first n ev sl i<s:=bN h _ _
theorem Ma (x:KF h):x^(s-2)=eJ x:=by unfold eJ;rw[Lt h]
theorem FO {par first:Nat} {w v q ev sl:List Nat} (g:ao s w) (hn:w.length<=s-1) (l:Fix s p par first w v) (d:MB h par (cV s p par first w) q ev sl)
 (E:q.length=(dX w v).length+1) (x:∀i,co h q i=lam (jS h w.length first (err h w v) w.length) i) {i:Nat} (B:i∈dX w v):
 jT s p first w.length sl i≠0/\bQ s p (w.getD i 0) (ij s p first w.length ev sl i)=v.getD i 0:=by
 have P:=h.aR;have f:=sx h hn (first:=first) (err h w v);have m:(jS h w.length first (err h w v) w.length).length=(dX w v).length:=by rw[pX,tz h g l.lt]
 obtain⟨y,F⟩:=vk.1 B;have u:=nC h w.length i;have K:(err h w v i* loc h w.length i^first,loc h w.length i)∈jS h w.length first (err h w v) w.length:=by
  refine List.mem_map.2 ⟨i,?_,rfl⟩;rw[List.mem_filter,List.mem_range];exact⟨y,by simpa using(Cc h g l.lt i).2 F⟩
 obtain⟨a,b,r⟩:=List.append_of_mem K;obtain⟨Q,n⟩:∃Q,Q=sD (eJ (loc h w.length i)) ((a++b).map (·.2)):=⟨_,rfl⟩;have G:Q≠0:=by rw[n];rw[r]at f;exact f.Hl
 have A:aU h (ig s p w.length i)=eJ (loc h w.length i):=Aq h hn y;have L:aU h (hornN s p (ig s p w.length i) ev)=err h w v i* loc h w.length i^first* Q:=by
  rw[tL h (show ig s p w.length i<s from je h _) ev (fW d.e1),A,d.e2];have e1:∀j,j<par->co h ev j=conv (lam (jS h w.length first (err h w v) w.length)) (eH (jS h w.length first (err h w v) w.length)) j:=λj C=>by
   rw[d.e3 j C];exact eX (λk _=>x k) λk S=>by rw[Du h oO,Ba h g l oO]
  rw[gV e1];rw[r]at f m⊢;rw[Ew f (by rw[m];have:=l.df;omega),n]
 have O:aU h (hornN s p (ig s p w.length i) sl)=-(loc h w.length i* Q):=by
  rw[tL h (show ig s p w.length i<s from je h _) sl (fW d.s1),A];have e1:∀j,co h sl j=jW (lam (jS h w.length first (err h w v) w.length)) j:=λj=>by
   rw[d.s3 j];show il _ _=il _ _;rw[x]
  rw[gV λj _=>e1 j];rw[r]at f m⊢;rw[B6 f (by rw[d.s2,E,m];omega),n]
 have M:aU h (iV s p ((w.length-1-i)* (first+s-2)))=loc h w.length i^first* eJ (loc h w.length i):=by
  rw[yb,fq,show first+s-2=first+(s-2)from by omega,kf,Ma];rfl
 have H:hornN s p (ig s p w.length i) sl<s:=j9 h _ sl (fW d.s1);have t:aU h (jT s p first w.length sl i)=-(loc h w.length i^first* Q):=by
  unfold jT;rw[gh h (je h _) H,M,O,qZ];congr 1;rw[show loc h w.length i^first* eJ (loc h w.length i)* (loc h w.length i* Q)=(loc h w.length i* eJ (loc h w.length i))* (loc h w.length i^first* Q)from by ac_rfl,gr u,eC]
 have J:jT s p first w.length sl i<s:=bN h _ _
 have z:jT s p first w.length sl i≠0:=λe=>by
  rw[e,bT]at t;have:loc h w.length i^first* Q=0:=by rw[<-qO (loc h w.length i^first* Q),<-t,th]
  exact lN (lA u _) G this
 refine⟨z,?_⟩;have N:aU h (ij s p first w.length ev sl i)=-err h w v i:=by
  unfold ij;rw[gh h (j9 h _ ev (fW d.e1)) (mz h),L];have o:=xP h J z;rw[t]at o;rw[di,di,<-di (loc h w.length i^first)];rw[mK]at o;have D:loc h w.length i^first* Q* aU h (dU s p (jT s p first w.length sl i))=-1:=by rw[<-o,qO]
  rw[D,qZ,gl]
 refine jJ h (kl h _ _ (g i) (yi h i)) (l.lt i) ?_;rw[nY h (g i) (yi h i),N];show co h w i+-(co h w i-co h v i)=co h v i;rw[iQ,vO,qO,<-iE,rZ,cA]
theorem IC {par first:Nat} {w v q ev sl:List Nat} {L:Nat} (d:ao s w) (hn:w.length<=s-1) (a:Fix s p par first w v) (hq:ao s q) (t:dF q)
 (u:mi h (co h (cV s p par first w)) par (co h q) L) (o:MB h par (cV s p par first w) q ev sl):sV s p par first w q ev sl=some v:=by
 have m:=sx h hn (first:=first) (err h w v);have r:(jS h w.length first (err h w v) w.length).length=(dX w v).length:=by rw[pX,tz h d a.lt]
 have x:=a.df;obtain⟨z,f⟩:=u.end h m (λj n=>by rw[Du h n,Ba h d a n]) (by rw[r];exact x);have k:q.length=(dX w v).length+1:=by
  rw[<-r];refine zL h hq t (λi b=>by rw[f];exact kg _ i b) ?_;rw[f];exact DF m.x0
 have l:=JX h d hn a hq k f;have y:jc s p w (iq s p w.length q) (ij s p first w.length ev sl)=v:=by
  refine cZ (by rw[fl,a.ln]) λi b=>?_;rw[fl]at b;rw[lH b,l];by_cases g:i∈dX w v
  ·rw[if_pos g];exact(FO h d hn a o k f g).2
  ·rw[if_neg g];apply Classical.byContradiction;intro e;exact g (vk.2 ⟨b,e⟩)
 unfold sV;rw[y,if_pos];refine⟨by omega,by rw[l];omega,λi b=>?_,a.cw⟩;rw[l]at b;exact(FO h d hn a o k f b).1
theorem Ey {par first:Nat} {w v q ev sl:List Nat} (d:ao s w) (a:sV s p par first w q ev sl=some v):Fix s p par first w v:=by
 unfold sV at a;split at a
 ·rename_i hc
  obtain⟨k,l,m,e⟩:=hc;injection a with a;subst a;refine⟨Lb h d (yi h),fl _ _ _ _ _,e,?_⟩;have:(dX w (jc s p w (iq s p w.length q) (ij s p first w.length ev sl))).length<=(iq s p w.length q).length:=by
   refine length_le_of_subset (List.nodup_range.filter _) λi f=>?_;obtain⟨g,b⟩:=vk.1 f;apply Classical.byContradiction;intro j;rw[lH g,if_neg j]at b;exact b rfl
  omega
 ·cases a
noncomputable def re (s p par first:Nat) (w:List Nat):Option (List Nat):=@dite _ (∃v,Fix s p par first w v) (Classical.propDecidable _) (λh=>some (Classical.choose h)) (λ_=>none)
end
end
section
open Go.RowKit
theorem lS (C S P a bl k:Nat) (w:World) (b:VF C S P) (n:k<=100000000) (d:dp w S P a bl):
 Calls Tryz.prog 152 #[fw C S a bl,.int .i64 k] w λe w'=>e= .returned (.int .i64 ((iV S P k:Nat):Int))/\Below w.heap.size w w':=by
 have l:Hid (Below w.heap.size w (w.alloc (ee C S a bl))):=(Below.refl _ _).alloc (Nat.le_refl _) _;have o:=b.le;have q:=b.aR;have f:=d.alloc (ee C S a bl);have i:k%(S-1)<S-1:=Nat.mod_lt _ oO;have j:=f.2.2.1 _ i;have g:Hid (iV S P k=fpowN S P (az S P) (k%(S-1))):=rfl;have e1:(k:Int).tmod ((S:Int)-1)=((k%(S-1):Nat):Int):=by
  rw[show(S:Int)-1=((S-1:Nat):Int)from by omega];exact(Int.ofNat_tmod _ _).symm
 rw[<-g.out]at j;generalize k%(S-1)=m at*;generalize iV S P k=r at*;clear f d b g;go_enter Tryz.func152,Tryz.ntmps152;go_wp2;go_quiet (fail)
 go_wp2;go_ret;exact⟨rfl,dk l.out _⟩
def fI (s p:Nat) (a b:List Nat) (n i j:Nat):List Nat:=(List.range n).map (xX s p a b i j)
theorem jw (s p:Nat) (a b:List Nat) (n i j:Nat):(fI s p a b n i j).length=n:=by unfold fI;simp
section
variable {c s p : Nat} (h : VF c s p)
include h
theorem GX (a b:List Nat) (n:Nat):fI s p a b n 0 0=List.replicate n 0:=by
 unfold fI;apply List.ext_getElem
 ·simp
 ·intro k d e;simp[sJ h,lW]
theorem Jh (a b:List Nat) {n i j:Nat} (f:i+j<n):
 (fI s p a b n i j).set (i+j) (bQ s p ((fI s p a b n i j).getD (i+j) 0) (aF s p (a.getD i 0) (b.getD j 0)))=fI s p a b n i (j+1):=by
 unfold fI;rw[bw _ _ _ f,fE _ _ _ _ f];apply List.map_congr_left;intro k g;unfold xX;by_cases e:k=i+j
 ·subst e;rw[if_pos rfl,if_neg oO,if_pos oO,show i+j-i=j from by omega]
 ·rw[if_neg e];by_cases d:i<=k/\k-i<j
  ·rw[if_pos d,if_pos oO]
  ·rw[if_neg d,if_neg oO]
theorem Im (a b:List Nat) (e:ao s a) {n i j:Nat} (l:j=b.length\/n<=i+j):fI s p a b n i j=fI s p a b n (i+1) 0:=by
 unfold fI;apply List.map_congr_left;intro k f;rw[List.mem_range]at f;rw[sJ h];unfold xX;show _=bQ s p (lW s p (gd s p a b k) i) (gd s p a b k i);have hc:=tQ h (gd s p a b k) (pa h a b k) i;unfold gd;by_cases d:i<=k
 ·by_cases g:k-i<j
  ·rw[if_pos ⟨d,g⟩,if_pos d]
  ·rw[if_neg oO,if_pos d];have:b.getD (k-i) 0=0:=by rw[List.getD,List.getElem?_eq_none oO];rfl
   rw[this,pr h (e i)];exact(sC h hc).symm
 ·rw[if_neg oO,if_neg d];exact(sC h hc).symm
theorem sW (a b:List Nat) (n i j:Nat):ao s (fI s p a b n i j):=gT h λk _=>by
 unfold xX;have hc:=tQ h (gd s p a b k) (pa h a b k) i;split
 ·exact kl h _ _ hc (bN h _ _)
 ·exact hc
theorem An {a b:List Nat} (e:ao s a) (hb:ao s b) {n m:Nat} (f:m<n):co h (fI s p a b n a.length 0) m=conv (co h a) (co h b) m:=by
 unfold fI;rw[sZ,if_pos f,sJ h,DX h _ (pa h a b m),o6];have e1:∀k,dw (λk=>aU h (gd s p a b m k)) k=dw (λk=>if k<=m then co h a k* co h b (m-k)else 0) k:=λk=>iK λk _=>BN h e hb m k;rw[e1];have e2:dw (λk=>co h a k* co h b (m-k)) (m+1)=dw (λk=>if k<=m then co h a k* co h b (m-k)else 0) (m+1):=iK λk i=>by rw[if_pos oO]
 rw[e2];rcases Nat.le_total a.length (m+1)with hl|hl
 ·refine(rh (λk d g=>?_) hl).symm;rw[fp h a k d,bV];simp
 ·refine rh (λk d g=>?_) hl;rw[if_neg oO]
end
theorem iU.Mw (w:World) (C S a bl n:Nat) (t:TypeId):iU w ((w.alloc (ee C S a bl)).alloc (.cells (madeCells #[Value.int .i64 0] n) t)) (gW C S a bl) (List.replicate n 0):=
 ⟨((Below.refl _ _).alloc (Nat.le_refl _) _).alloc oS _,(ak.new _ _ _ _ rfl).alloc _,bR.made _ _ _ _ oS⟩
def xf (w:World) (v:Value):Prop:=∀a n c,v= .slice (some a) n c->w.heap.size<=a.block
theorem xf.mk {w:World} {g a n c:Nat} (h:w.heap.size<=g):xf w (.slice (some ⟨g,a,none⟩) n c):=λb d f e=>by
 injection e with e1;injection e1 with e1;rw[<-e1];exact h
theorem xf.ne {w:World} {A:Option Addr} {n c b:Nat} (h:xf w (.slice A n c)) (hb:b<w.heap.size):∀a,A=some a->a.block≠b:=λa e=>by
 subst e;have:=h a n c rfl;omega
theorem tK (C S P g bl d:Nat) (a b:List Nat) (A B:Option Addr) (n m ad al:Nat) (w:World) (o:VF C S P) (H:ao S a) (T:ao S b) (hn:n=a.length) (D:m=b.length) (bz:n<=4097) (b1:m<=4097) (b2:1<=d) (b3:d<=8193)
 (K:dp w S P g bl) (L:RD w A (zl a)) (hb:RD w B (zl b)):
 Calls Tryz.prog 200 #[fw C S g bl,.slice A n ad,.slice B m al,.int .i64 d] w λe w'=>∃v,e= .returned v/\(aB w' v (zl (fI S P a b d a.length 0))/\Below w.heap.size w w')/\xf w v:=by
 have b4:=run_make_row' (P:=Tryz.prog) 64 3 (.int .i64 0) 8 Tryz.underlying64 dm rfl .i64 .i64 d oO oO;have E:=Lib.hid o;have a7:=Lib.hid H;have a8:=Lib.hid T;have am:=Lib.hid L;have ap:=Lib.hid hb;have av:=Lib.hid K;have a0:=Lib.hid (GX o a b d);have Y:Hid (∀i j,(fI S P a b d i j).length=d):=λi j=>jw _ _ _ _ _ _ _;have bt:Hid (∀i j:Nat,i+j<d->(fI S P a b d i j).set (i+j) (bQ S P ((fI S P a b d i j).getD (i+j) 0) (aF S P (a.getD i 0) (b.getD j 0)))=fI S P a b d i (j+1)):=λi j a9=>Jh o a b a9;have ac:Hid (∀i j,(j=m\/d<=i+j)->fI S P a b d i j=fI S P a b d (i+1) 0):=λi j a1=>Im o a b H (by rw[<-D];exact a1);have bb:Hid (∀i j,ao S (fI S P a b d i j)):=λi j=>sW o a b d i j;have F:=Lib.hid hn;have M:=Lib.hid D;clear o H T L hb K hn D;go_enter Tryz.func200,Tryz.ntmps200;go_wp2;go_loopw [17] (λi wr=>∃k:Nat,k<=n/\i= .int .i64 k/\Hid (iU w wr (gW C S g bl) (fI S P a b d k 0))) (λi _=>n-(intOf i).toNat)
 case atStart=>exact⟨0,Nat.zero_le _,rfl,by rw[a0.out];exact iU.Mw w C S g bl d _⟩
 case round=>
  obtain⟨k,bv,rfl,t⟩:=hrel;by_cases bd:k<n
  ·obtain⟨bx,rfl,-,r⟩:=(am.out.below t.out.B) (by rw[aw,<-F.out];omega);have N:=r k (by rw[aw,<-F.out];exact bd);rw[dh]at N;have a2:Hid (a.getD k 0<S):=a7.out k;generalize U:a.getD k 0=x at*;have be:=Lib.hid U;clear U r;go_wp2;clear N;obtain⟨O,rfl⟩:∃O:World,O=wr:=⟨_,rfl⟩;go_loopw [12] (λj wr=>∃q:Nat,q<=m/\j= .int .i64 q/\Hid (iU w wr (gW C S g bl) (fI S P a b d k q))) (λj _=>m-(intOf j).toNat)
   case atStart=>exact⟨0,Nat.zero_le _,rfl,t⟩
   case round=>
    obtain⟨q,hq,rfl,f⟩:=hrel;by_cases bq:q<m
    ·by_cases bs:k+q<d
     ·obtain⟨a3,rfl,Z,r⟩:=(ap.out.below f.out.B) (by rw[aw,<-M.out];omega);have G:=r q (by rw[aw,<-M.out];exact bq);rw[dh]at G;have a4:Hid (b.getD q 0<S):=a8.out q;have ab:Hid (_=_):=bt.out k q bs;rw[be.out]at ab;have a5:Hid ((fI S P a b d k q).getD (k+q) 0<S):=bb.out k q _;have J:=f.out.O.2 (k+q) (by rw[Y.out];omega);generalize bf:b.getD q 0=y at*;generalize bi:(fI S P a b d k q).getD (k+q) 0=u at*;have z:Hid (∀W,af wr W->(W.cell? ⟨w.heap.size,0,none⟩=some (.int .i64 C)/\W.cell? ⟨w.heap.size,1,none⟩=some (.int .i64 S)/\W.cell? ⟨w.heap.size,2,none⟩=some (.slice (some ⟨g,0,none⟩) (S-1) (S-1))/\W.cell? ⟨w.heap.size,3,none⟩=some (.slice (some ⟨bl,0,none⟩) S S))/\W.cell? ⟨w.heap.size+1,k+q,none⟩=some (.int .i64 (u:Int))/\W.frozen? ⟨w.heap.size+1,k+q,none⟩=false/\W.cell? (a3.add q)=some (.int .i64 (y:Int))):=by
       show∀W,_;intro W l;exact⟨dY (f.out.X.below l),(l.cell f.out.O.1).trans J.1,(l.frozen f.out.O.1).trans J.2,(l.cell (by rw[aL];exact Z)).trans G⟩
      clear bf bi r J G Z;have b5:(0:Int)<=(k:Int)+q:=oO;have b6:(k:Int)+q<(d:Int):=oO;have b7:((k:Int)+q).toNat=k+q:=oO;have bo:IntKind.i64.wrap ((k:Int)+q)=(k:Int)+q:=aG _ oO oO;go_wp2;refine cf (S:=af wr) 20 oK oK (aj (Below.refl _ _)) ?_;simp only[List.take_succ_cons,List.take_zero,List.drop_succ_cons,List.drop_zero]
      repeat refine kO z.out ?_
      refine kX (λW l=>k6 C S P g bl x y W E.out a2.out a4.out ((av.out.below f.out.B).below l)) ?_
      repeat refine kO z.out ?_
      refine kX (λW l=>o5 C S P g bl u (aF S P x y) W E.out a5.out (bN E.out _ _)) ?_
      repeat refine kO z.out ?_
      refine dj ?_;intro a6 V;have X:=Lib.hid V;clear V;obtain⟨-,b8,b9,-⟩:=z.out a6 X.out;go_wp2;clear bo;exact⟨⟨q+1,by omega,by go_num,by rw[<-ab.out];exact(f.out.below X.out).set _ _⟩,by simp[intOf];omega⟩
     ·go_wp2;exact⟨⟨k+1,by omega,by go_num,by rw[<-ac.out k q (.inr oO)];exact f⟩,by simp[intOf];omega⟩
    ·obtain rfl:q=m:=oO;go_wp2;exact⟨⟨k+1,by omega,by go_num,by rw[<-ac.out k q (.inl rfl)];exact f⟩,by simp[intOf];omega⟩
  ·obtain rfl:k=n:=oO;go_wp2;go_ret;refine⟨_,rfl,⟨?_,t.out.B⟩,xf.mk oO⟩;have Q:=t.out.O.ints (c:=d) (Y.out _ _).symm (Nat.le_refl _) oM;rw[F.out]at Q;exact Q
theorem tv (C S P f bl d:Nat) (a b:List Nat) (A B:Option Addr) (n m g i:Nat) (w:World) (k:VF C S P) (t:ao S a) (u:ao S b) (hn:n=a.length) (l:m=b.length) (x:n<=4097) (y:m<=4097) (z:1<=d) (D:d<=8193)
 (o:dp w S P f bl) (q:RD w A (zl a)) (hb:RD w B (zl b)):
 Calls Tryz.prog 200 #[fw C S f bl,.slice A n g,.slice B m i,.int .i64 d] w λe w'=>∃v,e= .returned v/\aB w' v (zl (fI S P a b d a.length 0))/\Below w.heap.size w w':=
 (tK C S P f bl d a b A B n m g i w k t u hn l x y z D o q hb).mono λe w' ⟨v,r,j,_⟩=>⟨v,r,j.1,j.2⟩
end
end Go.Proofs.YtmnlkganmgcpbaaGreatDoor
