import Derived.Test.YtmnlkganmgcpbaaGreatDoorQk11
set_option maxRecDepth 100000
set_option maxHeartbeats 4000000
set_option linter.unusedVariables false
set_option linter.unusedSectionVars false
set_option linter.unusedSimpArgs false
namespace Go.Proofs.YtmnlkganmgcpbaaGreatDoor
section
open Go.RowKit
abbrev wR:Obj:= .cells #[.int .i64 0,.int .i64 0,.slice none 0 0,.slice none 0 0] 152
abbrev NQ (C S a b bl:Nat):Obj:= .cells #[.int .i64 C,.int .i64 S,.slice (some ⟨b,0,none⟩) a a,.slice (some ⟨bl,0,none⟩) S S] 152
structure dm (w wr:World) (C S P T n be bl a:Nat):Prop where
 B:Below w.heap.size w wr
 he:w.heap.size+1<be
 hl:w.heap.size+1<bl
 hs:w.heap.size+1<a
 n1:be≠bl
 n2:be≠a
 n3:bl≠a
 F:wr.heap[w.heap.size]?=some (ql C S P)
 R:wr.heap[w.heap.size+1]?=some wR
 E:wr.heap[be]?=some (.cells (dC (jC S P n)) 3)
 L:wr.heap[bl]?=some (.cells (dC (kP S P n)) 3)
 A:wr.heap[a]?=some (NQ C S T be bl)
theorem dm.below {w wr b:World} {C S P a n c bl d:Nat} (h:dm w wr C S P a n c bl d) (hb:Below wr.heap.size wr b):dm w b C S P a n c bl d:=
 ⟨ae h.B hb,h.he,h.hl,h.hs,h.n1,h.n2,h.n3,(hb.block _ (ar h.F)).trans h.F,(hb.block _ (ar h.R)).trans h.R,(hb.block _ (ar h.E)).trans h.E,(hb.block _ (ar h.L)).trans h.L,(hb.block _ (ar h.A)).trans h.A⟩
theorem dm.store {w wr:World} {C S P e n d bl j:Nat} (l:VF C S P) (o:e=S-1) (h:dm w wr C S P e n d bl j) (hn:n<e):
 dm w ((wr.setCell ⟨d,n,none⟩ (.int .i64 ((fpowN S P (ay S P) n:Nat):Int))).setCell ⟨bl,fpowN S P (ay S P) n,none⟩ (.int .i64 (n:Int))) C S P e (n+1) d bl j:=by
 have m:Below w.heap.size w (wr.setCell ⟨d,n,none⟩ (.int .i64 ((fpowN S P (ay S P) n:Nat):Int))):=h.B.setCell (by have:=h.he;simp;omega) _;have f:∀(k:Nat) (v:Value),k≠d->(wr.setCell ⟨d,n,none⟩ v).heap[k]?=wr.heap[k]?:=λk v i=>heap_setCell_other wr ⟨d,n,none⟩ k v i;have g:∀(W:World) (x k:Nat) (v:Value),k≠bl->(W.setCell ⟨bl,x,none⟩ v).heap[k]?=W.heap[k]?:=λW x k v i=>heap_setCell_other W ⟨bl,x,none⟩ k v i;have e1:=heap_setCell_same wr d n _ 3 (.int .i64 ((fpowN S P (ay S P) n:Nat):Int)) h.E;rw[mf,zD l (n:=n) oO]at e1;have e2:=heap_setCell_same (wr.setCell ⟨d,n,none⟩ (.int .i64 ((fpowN S P (ay S P) n:Nat):Int))) bl (fpowN S P (ay S P) n) _ 3 (.int .i64 (n:Int)) ((f bl _ (Ne.symm h.n1)).trans h.L);rw[mf,B6 l oO]at e2;have a:=h.he;have b:=h.hl;have c:=h.hs
 exact⟨m.setCell oT _,h.he,h.hl,h.hs,h.n1,h.n2,h.n3,
  ((g _ _ _ _ oO).trans (f _ _ oO)).trans h.F,((g _ _ _ _ oO).trans (f _ _ oO)).trans h.R,
  (g _ _ _ _ h.n1).trans e1,e2,((g _ _ _ _ (Ne.symm h.n3)).trans (f _ _ (Ne.symm h.n2))).trans h.A⟩
theorem dm.qO {w wr:World} {C S P a c bl f:Nat} (b:VF C S P) (g:a=S-1) (h:dm w wr C S P a a c bl f):dh wr S P c bl:=by
 subst g;refine⟨ar h.E,ar h.L,λi d=>?_,λx e j=>?_⟩
 ·rw[cell_of_row _ _ _ _ _ _ h.E,fj];have:=BN b d;rw[<-xT b]at this;rw[<-this];unfold jC;simp[List.getD,d]
 ·rw[cell_of_row _ _ _ _ _ _ h.L,fj];have:=Bb b e j;rw[<-this];unfold kP;simp[List.getD,e]
theorem dm.cells {w wr:World} {C S P a n c bl b:Nat} (d:VF C S P) (e:a=S-1) (h:dm w wr C S P a n c bl b):
 (wr.cell? ⟨w.heap.size,0,none⟩=some (.int .i64 C)/\wr.cell? ⟨w.heap.size,1,none⟩=some (.int .i64 S)/\wr.cell? ⟨w.heap.size,2,none⟩=some (.int .i64 P))/\
 (wr.cell? ⟨b,0,none⟩=some (.int .i64 C)/\wr.cell? ⟨b,1,none⟩=some (.int .i64 S)/\wr.cell? ⟨b,2,none⟩=some (.slice (some ⟨c,0,none⟩) a a)/\wr.cell? ⟨b,3,none⟩=some (.slice (some ⟨bl,0,none⟩) S S))/\
 (n<a->(∃u,wr.cell? ⟨c,n,none⟩=some u)/\wr.frozen? ⟨c,n,none⟩=false/\(∃u,wr.cell? ⟨bl,fpowN S P (ay S P) n,none⟩=some u)/\wr.frozen? ⟨bl,fpowN S P (ay S P) n,none⟩=false):=by
 refine⟨⟨?_,?_,?_⟩,⟨?_,?_,?_,?_⟩,λhn=>⟨?_,?_,?_,?_⟩⟩
 ·rw[cell_of_row _ _ _ _ _ _ h.F];rfl
 ·rw[cell_of_row _ _ _ _ _ _ h.F];rfl
 ·rw[cell_of_row _ _ _ _ _ _ h.F];rfl
 ·rw[cell_of_row _ _ _ _ _ _ h.A];rfl
 ·rw[cell_of_row _ _ _ _ _ _ h.A];rfl
 ·rw[cell_of_row _ _ _ _ _ _ h.A];rfl
 ·rw[cell_of_row _ _ _ _ _ _ h.A];rfl
 ·rw[cell_of_row _ _ _ _ _ _ h.E,fj];refine⟨_,Option.map_eq_some_iff.2 ⟨_,List.getElem?_eq_getElem (by unfold jC;simp;omega),rfl⟩⟩
 ·exact frozen_of_row _ _ _ _ _ h.E
 ·rw[cell_of_row _ _ _ _ _ _ h.L,fj];refine⟨_,Option.map_eq_some_iff.2 ⟨_,List.getElem?_eq_getElem (by unfold kP;simp;exact eC d n),rfl⟩⟩
 ·exact frozen_of_row _ _ _ _ _ h.L
theorem dm.drew {w wr:World} {C S P a n b bl c:Nat} (h:dm w wr C S P a n b bl c):dm w wr.drew C S P a n b bl c:=
 ⟨ai h.B,h.he,h.hl,h.hs,h.n1,h.n2,h.n3,h.F,h.R,h.E,h.L,h.A⟩
theorem dm.res {w wr:World} {C S P a n b bl c:Nat} (h:dm w wr C S P a n b bl c):
 wr.cell? ⟨w.heap.size+1,0,none⟩=some (.int .i64 0)/\wr.cell? ⟨w.heap.size+1,1,none⟩=some (.int .i64 0)/\wr.cell? ⟨w.heap.size+1,2,none⟩=some (.slice none 0 0)/\wr.cell? ⟨w.heap.size+1,3,none⟩=some (.slice none 0 0)/\∀k,wr.frozen? ⟨w.heap.size+1,k,none⟩=false:=by
 refine⟨?_,?_,?_,?_,λk=>frozen_of_row _ _ _ _ _ h.R⟩<;>(rw[cell_of_row _ _ _ _ _ _ h.R];rfl)
theorem tT (C S P:Nat) (w:World) (y:VF C S P):
 Calls Tryz.prog 119 #[cu C S P] w λe w'=>∃ac bl,e= .returned (fs C S ac bl)/\dh w' S P ac bl/\Below w.heap.size w w'/\w.heap.size<=ac/\w.heap.size<=bl:=by
 have a6:=y.le;have a7:=y.aP;have z:(P:Int)<=9223372036854775807:=y.tU;have hg:=kG y;have RG:Hid (vW C S P=(((ay S P:Nat):Int),0)):=by
  show _=_;unfold vW;rw[kt y,if_pos rfl];simp
 obtain⟨b,ad⟩:∃b,b=S-1:=⟨S-1,rfl⟩;have a8:1<=b:=oO;have a9:=run_make_row' (P:=Tryz.prog) 64 3 (.int .i64 0) 8 Tryz.underlying64 dg rfl .i64 .i64 b oO oO;have bb:=run_make_row' (P:=Tryz.prog) 64 3 (.int .i64 0) 8 Tryz.underlying64 dg rfl .i64 .i64 S oO oO;have bd:IntKind.i64.wrap ((S:Int)-1)=(b:Int):=by rw[aF _ oO oO];omega
 have bf:((S:Int)-1)=(b:Int):=oO;have c:=Lib.hid y;have d:=Lib.hid ad;have B:Hid (dC (jC S P 0)=madeCells #[Value.int .i64 0] b):=by show _=_;rw[jP,xB y,ad]
 have D:Hid (dC (kP S P 0)=madeCells #[Value.int .i64 0] S):=by show _=_;rw[jP,zH y]
 clear ad y;have a3:Hid (∀a:World,Below ((w.alloc (ql C S P)).alloc wR).heap.size ((w.alloc (ql C S P)).alloc wR) a->w.heap.size+1<a.heap.size/\a.heap[w.heap.size]?=some (ql C S P)/\a.heap[w.heap.size+1]?=some wR/\Below w.heap.size w a):=by
  intro a A;have hs:=A.size;simp at hs;refine⟨by omega,(A.block _ oT).trans ?_,(A.block _ oS).trans ?_,((Below.refl _ _).alloc (Nat.le_refl _) _|>.alloc oS _).trans (A.mono oT)⟩
  ·exact(Below.heap_alloc _ _ _ oS).trans (heap_alloc_new w _)
  ·have:=heap_alloc_new (w.alloc (ql C S P)) wR;simpa using this
 go_enter Tryz.func119,Tryz.ntmps119
 go_wp2_with(
  go_at_call 158;refine(sB C S P _ oO z).mono ?_;rintro e a ⟨rfl,A⟩;rw[RG.out]
  have j:=Lib.hid (a3.out a A);have be:w.heap.size+1<a.heap.size:=j.out.1;have ap:w.heap.size<a.heap.size:=oO;have al:a.cell? ⟨w.heap.size,0,none⟩=some (.int .i64 C):=(cell_of_row _ _ _ _ _ _ j.out.2.1).trans rfl;have am:a.cell? ⟨w.heap.size,1,none⟩=some (.int .i64 S):=(cell_of_row _ _ _ _ _ _ j.out.2.1).trans rfl;have av:∀g,(a.alloc g).cell? ⟨w.heap.size,0,none⟩=some (.int .i64 C):=λg=>(World.cell?_alloc_lt _ _ _ (by exact ap)).trans al;have a0:∀g m,((a.alloc g).alloc m).cell? ⟨w.heap.size,0,none⟩=some (.int .i64 C):=λg m=>(World.cell?_alloc_lt _ _ _ oT).trans (av g);have a4:∀g m ab,(((a.alloc g).alloc m).alloc ab).cell? ⟨w.heap.size,0,none⟩=some (.int .i64 C):=λg m ab=>(World.cell?_alloc_lt _ _ _ oT).trans (a0 g m);have a1:∀g,(a.alloc g).cell? ⟨w.heap.size,1,none⟩=some (.int .i64 S):=λg=>(World.cell?_alloc_lt _ _ _ (by exact ap)).trans am;have a2:∀g m,((a.alloc g).alloc m).cell? ⟨w.heap.size,1,none⟩=some (.int .i64 S):=λg m=>(World.cell?_alloc_lt _ _ _ oT).trans (a1 g);have a5:∀g m ab,(((a.alloc g).alloc m).alloc ab).cell? ⟨w.heap.size,1,none⟩=some (.int .i64 S):=λg m ab=>(World.cell?_alloc_lt _ _ _ oT).trans (a2 g m)
  clear A)
 go_region
 all_goals clear al am av a0 a4 a1 a2 a5
 all_goals go_wp2
 ·go_loopw [6,28] (λx i wr=>∃n:Nat,n<=b/\i= .int .i64 (n:Nat)/\x= .int .i64 ((fpowN S P (ay S P) n:Nat):Int)/\Hid (dm w wr C S P b n (a.heap.size) (a.heap.size+1) (a.heap.size+1+1))) (λ_ i _=>b-(intOf i).toNat)
  case atStart=>
   refine⟨0,Nat.zero_le _,rfl,rfl,?_⟩;refine⟨ai (ah (ah (ah j.out.2.2.2 _) _) _),by omega,by omega,by omega,by omega,by omega,by omega,?_,?_,?_,?_,?_⟩
   ·exact(Below.heap_alloc _ _ _ oT).trans ((Below.heap_alloc _ _ _ oT).trans ((Below.heap_alloc _ _ _ oO).trans j.out.2.1))
   ·exact(Below.heap_alloc _ _ _ oT).trans ((Below.heap_alloc _ _ _ oT).trans ((Below.heap_alloc _ _ _ oO).trans j.out.2.2.1))
   ·rw[B.out];exact(cM a _ _ _).1
   ·rw[D.out];exact(cM a _ _ _).2.1
   ·exact(cM a _ _ _).2.2
  case round=>
   obtain⟨n,hn,rfl,rfl,hid⟩:=hrel;obtain⟨⟨E,F,G⟩,⟨H,J,K,L⟩,f⟩:=dm.cells c.out d.out hid.out;by_cases k:n<b
   ·obtain⟨⟨u1,M⟩,N,⟨u2,s3⟩,O⟩:=f k;have q:fpowN S P (ay S P) n<S:=eC c.out n;have r:=Lib.hid (dm.store c.out d.out hid.out k);have o:Hid (mulR C S P (fpowN S P (ay S P) n:Nat) (ay S P:Nat)=(((fpowN S P (ay S P) (n+1):Nat):Int),0)):=by
     show _=_;unfold mulR;rw[gB c.out q hg];simp;rfl
    generalize fpowN S P (ay S P) n=X at*;generalize l:fpowN S P (ay S P) (n+1)=Y at*;have p:=Lib.hid l;clear l;clear f;go_wp2;go_region
    all_goals go_wp2_with(go_at_call 159;refine(iA C S P X (ay S P) _ oO z).mono ?_;rintro e Q ⟨rfl,s⟩;rw[o.out])
    all_goals go_roundw
    all_goals try(case measure=>simp[intOf];omega)
    all_goals refine⟨n+1,by omega,by go_num,by rw[p.out],?_⟩
    all_goals exact dm.below (dm.drew r.out) s
   ·obtain rfl:n=b:=oO;obtain⟨T,U,V,W,Z⟩:=dm.res hid.out;have t:=Lib.hid (dm.qO c.out d.out hid.out);clear f;go_wp2;refine bodyPost_ret (v:= .agg #[.int .i64 C,.int .i64 S,.slice (some ⟨(a.heap.size),0,none⟩) n n,.slice (some ⟨(a.heap.size+1),0,none⟩) S S]) ?_ rfl ⟨(a.heap.size),(a.heap.size+1),?_,?_,?_⟩
    ·have u:Tryz.f119.results=#[.cell 2 152]:=oK;simp only[results,u];go_simp
    ·rw[d.out]
    ·exact(((t.out.setCell _ _ oT oT).setCell _ _ oT oT).setCell _ _ oT oT).setCell _ _ oT oT
    ·exact⟨(((hid.out.B.setCell oS _).setCell oS _).setCell oS _).setCell oS _,by omega,by omega⟩
 ·go_loopw [6,28] (λx i wr=>∃n:Nat,n<=b/\i= .int .i64 (n:Nat)/\x= .int .i64 ((fpowN S P (ay S P) n:Nat):Int)/\Hid (dm w wr C S P b n (a.heap.size) (a.heap.size+1+1) (a.heap.size+1))) (λ_ i _=>b-(intOf i).toNat)
  case atStart=>
   refine⟨0,Nat.zero_le _,rfl,rfl,?_⟩;refine⟨ai (ah (ah (ah j.out.2.2.2 _) _) _),by omega,by omega,by omega,by omega,by omega,by omega,?_,?_,?_,?_,?_⟩
   ·exact(Below.heap_alloc _ _ _ oT).trans ((Below.heap_alloc _ _ _ oT).trans ((Below.heap_alloc _ _ _ oO).trans j.out.2.1))
   ·exact(Below.heap_alloc _ _ _ oT).trans ((Below.heap_alloc _ _ _ oT).trans ((Below.heap_alloc _ _ _ oO).trans j.out.2.2.1))
   ·rw[B.out];exact(cM a _ _ _).1
   ·rw[D.out];exact(cM a _ _ _).2.2
   ·exact(cM a _ _ _).2.1
  case round=>
   obtain⟨n,hn,rfl,rfl,hid⟩:=hrel;obtain⟨⟨E,F,G⟩,⟨H,J,K,L⟩,f⟩:=dm.cells c.out d.out hid.out;by_cases k:n<b
   ·obtain⟨⟨u1,M⟩,N,⟨u2,s3⟩,O⟩:=f k;have q:fpowN S P (ay S P) n<S:=eC c.out n;have r:=Lib.hid (dm.store c.out d.out hid.out k);have o:Hid (mulR C S P (fpowN S P (ay S P) n:Nat) (ay S P:Nat)=(((fpowN S P (ay S P) (n+1):Nat):Int),0)):=by
     show _=_;unfold mulR;rw[gB c.out q hg];simp;rfl
    generalize fpowN S P (ay S P) n=X at*;generalize l:fpowN S P (ay S P) (n+1)=Y at*;have p:=Lib.hid l;clear l;clear f;go_wp2;go_region
    all_goals go_wp2_with(go_at_call 159;refine(iA C S P X (ay S P) _ oO z).mono ?_;rintro e Q ⟨rfl,s⟩;rw[o.out])
    all_goals go_roundw
    all_goals try(case measure=>simp[intOf];omega)
    all_goals refine⟨n+1,by omega,by go_num,by rw[p.out],?_⟩
    all_goals exact dm.below (dm.drew r.out) s
   ·obtain rfl:n=b:=oO;obtain⟨T,U,V,W,Z⟩:=dm.res hid.out;have t:=Lib.hid (dm.qO c.out d.out hid.out);clear f;go_wp2;refine bodyPost_ret (v:= .agg #[.int .i64 C,.int .i64 S,.slice (some ⟨(a.heap.size),0,none⟩) n n,.slice (some ⟨(a.heap.size+1+1),0,none⟩) S S]) ?_ rfl ⟨(a.heap.size),(a.heap.size+1+1),?_,?_,?_⟩
    ·have u:Tryz.f119.results=#[.cell 2 152]:=oK;simp only[results,u];go_simp
    ·rw[d.out]
    ·exact(((t.out.setCell _ _ oT oT).setCell _ _ oT oT).setCell _ _ oT oT).setCell _ _ oT oT
    ·exact⟨(((hid.out.B.setCell oS _).setCell oS _).setCell oS _).setCell oS _,by omega,by omega⟩
 ·go_loopw [6,28] (λx i wr=>∃n:Nat,n<=b/\i= .int .i64 (n:Nat)/\x= .int .i64 ((fpowN S P (ay S P) n:Nat):Int)/\Hid (dm w wr C S P b n (a.heap.size+1) (a.heap.size) (a.heap.size+1+1))) (λ_ i _=>b-(intOf i).toNat)
  case atStart=>
   refine⟨0,Nat.zero_le _,rfl,rfl,?_⟩;refine⟨ai (ah (ah (ah j.out.2.2.2 _) _) _),by omega,by omega,by omega,by omega,by omega,by omega,?_,?_,?_,?_,?_⟩
   ·exact(Below.heap_alloc _ _ _ oT).trans ((Below.heap_alloc _ _ _ oT).trans ((Below.heap_alloc _ _ _ oO).trans j.out.2.1))
   ·exact(Below.heap_alloc _ _ _ oT).trans ((Below.heap_alloc _ _ _ oT).trans ((Below.heap_alloc _ _ _ oO).trans j.out.2.2.1))
   ·rw[B.out];exact(cM a _ _ _).2.1
   ·rw[D.out];exact(cM a _ _ _).1
   ·exact(cM a _ _ _).2.2
  case round=>
   obtain⟨n,hn,rfl,rfl,hid⟩:=hrel;obtain⟨⟨E,F,G⟩,⟨H,J,K,L⟩,f⟩:=dm.cells c.out d.out hid.out;by_cases k:n<b
   ·obtain⟨⟨u1,M⟩,N,⟨u2,s3⟩,O⟩:=f k;have q:fpowN S P (ay S P) n<S:=eC c.out n;have r:=Lib.hid (dm.store c.out d.out hid.out k);have o:Hid (mulR C S P (fpowN S P (ay S P) n:Nat) (ay S P:Nat)=(((fpowN S P (ay S P) (n+1):Nat):Int),0)):=by
     show _=_;unfold mulR;rw[gB c.out q hg];simp;rfl
    generalize fpowN S P (ay S P) n=X at*;generalize l:fpowN S P (ay S P) (n+1)=Y at*;have p:=Lib.hid l;clear l;clear f;go_wp2;go_region
    all_goals go_wp2_with(go_at_call 159;refine(iA C S P X (ay S P) _ oO z).mono ?_;rintro e Q ⟨rfl,s⟩;rw[o.out])
    all_goals go_roundw
    all_goals try(case measure=>simp[intOf];omega)
    all_goals refine⟨n+1,by omega,by go_num,by rw[p.out],?_⟩
    all_goals exact dm.below (dm.drew r.out) s
   ·obtain rfl:n=b:=oO;obtain⟨T,U,V,W,Z⟩:=dm.res hid.out;have t:=Lib.hid (dm.qO c.out d.out hid.out);clear f;go_wp2;refine bodyPost_ret (v:= .agg #[.int .i64 C,.int .i64 S,.slice (some ⟨(a.heap.size+1),0,none⟩) n n,.slice (some ⟨(a.heap.size),0,none⟩) S S]) ?_ rfl ⟨(a.heap.size+1),(a.heap.size),?_,?_,?_⟩
    ·have u:Tryz.f119.results=#[.cell 2 152]:=oK;simp only[results,u];go_simp
    ·rw[d.out]
    ·exact(((t.out.setCell _ _ oT oT).setCell _ _ oT oT).setCell _ _ oT oT).setCell _ _ oT oT
    ·exact⟨(((hid.out.B.setCell oS _).setCell oS _).setCell oS _).setCell oS _,by omega,by omega⟩
 ·go_loopw [6,28] (λx i wr=>∃n:Nat,n<=b/\i= .int .i64 (n:Nat)/\x= .int .i64 ((fpowN S P (ay S P) n:Nat):Int)/\Hid (dm w wr C S P b n (a.heap.size+1+1) (a.heap.size) (a.heap.size+1))) (λ_ i _=>b-(intOf i).toNat)
  case atStart=>
   refine⟨0,Nat.zero_le _,rfl,rfl,?_⟩;refine⟨ai (ah (ah (ah j.out.2.2.2 _) _) _),by omega,by omega,by omega,by omega,by omega,by omega,?_,?_,?_,?_,?_⟩
   ·exact(Below.heap_alloc _ _ _ oT).trans ((Below.heap_alloc _ _ _ oT).trans ((Below.heap_alloc _ _ _ oO).trans j.out.2.1))
   ·exact(Below.heap_alloc _ _ _ oT).trans ((Below.heap_alloc _ _ _ oT).trans ((Below.heap_alloc _ _ _ oO).trans j.out.2.2.1))
   ·rw[B.out];exact(cM a _ _ _).2.2
   ·rw[D.out];exact(cM a _ _ _).1
   ·exact(cM a _ _ _).2.1
  case round=>
   obtain⟨n,hn,rfl,rfl,hid⟩:=hrel;obtain⟨⟨E,F,G⟩,⟨H,J,K,L⟩,f⟩:=dm.cells c.out d.out hid.out;by_cases k:n<b
   ·obtain⟨⟨u1,M⟩,N,⟨u2,s3⟩,O⟩:=f k;have q:fpowN S P (ay S P) n<S:=eC c.out n;have r:=Lib.hid (dm.store c.out d.out hid.out k);have o:Hid (mulR C S P (fpowN S P (ay S P) n:Nat) (ay S P:Nat)=(((fpowN S P (ay S P) (n+1):Nat):Int),0)):=by
     show _=_;unfold mulR;rw[gB c.out q hg];simp;rfl
    generalize fpowN S P (ay S P) n=X at*;generalize l:fpowN S P (ay S P) (n+1)=Y at*;have p:=Lib.hid l;clear l;clear f;go_wp2;go_region
    all_goals go_wp2_with(go_at_call 159;refine(iA C S P X (ay S P) _ oO z).mono ?_;rintro e Q ⟨rfl,s⟩;rw[o.out])
    all_goals go_roundw
    all_goals try(case measure=>simp[intOf];omega)
    all_goals refine⟨n+1,by omega,by go_num,by rw[p.out],?_⟩
    all_goals exact dm.below (dm.drew r.out) s
   ·obtain rfl:n=b:=oO;obtain⟨T,U,V,W,Z⟩:=dm.res hid.out;have t:=Lib.hid (dm.qO c.out d.out hid.out);clear f;go_wp2;refine bodyPost_ret (v:= .agg #[.int .i64 C,.int .i64 S,.slice (some ⟨(a.heap.size+1+1),0,none⟩) n n,.slice (some ⟨(a.heap.size),0,none⟩) S S]) ?_ rfl ⟨(a.heap.size+1+1),(a.heap.size),?_,?_,?_⟩
    ·have u:Tryz.f119.results=#[.cell 2 152]:=oK;simp only[results,u];go_simp
    ·rw[d.out]
    ·exact(((t.out.setCell _ _ oT oT).setCell _ _ oT oT).setCell _ _ oT oT).setCell _ _ oT oT
    ·exact⟨(((hid.out.B.setCell oS _).setCell oS _).setCell oS _).setCell oS _,by omega,by omega⟩
 ·go_loopw [6,28] (λx i wr=>∃n:Nat,n<=b/\i= .int .i64 (n:Nat)/\x= .int .i64 ((fpowN S P (ay S P) n:Nat):Int)/\Hid (dm w wr C S P b n (a.heap.size+1) (a.heap.size+1+1) (a.heap.size))) (λ_ i _=>b-(intOf i).toNat)
  case atStart=>
   refine⟨0,Nat.zero_le _,rfl,rfl,?_⟩;refine⟨ai (ah (ah (ah j.out.2.2.2 _) _) _),by omega,by omega,by omega,by omega,by omega,by omega,?_,?_,?_,?_,?_⟩
   ·exact(Below.heap_alloc _ _ _ oT).trans ((Below.heap_alloc _ _ _ oT).trans ((Below.heap_alloc _ _ _ oO).trans j.out.2.1))
   ·exact(Below.heap_alloc _ _ _ oT).trans ((Below.heap_alloc _ _ _ oT).trans ((Below.heap_alloc _ _ _ oO).trans j.out.2.2.1))
   ·rw[B.out];exact(cM a _ _ _).2.1
   ·rw[D.out];exact(cM a _ _ _).2.2
   ·exact(cM a _ _ _).1
  case round=>
   obtain⟨n,hn,rfl,rfl,hid⟩:=hrel;obtain⟨⟨E,F,G⟩,⟨H,J,K,L⟩,f⟩:=dm.cells c.out d.out hid.out;by_cases k:n<b
   ·obtain⟨⟨u1,M⟩,N,⟨u2,s3⟩,O⟩:=f k;have q:fpowN S P (ay S P) n<S:=eC c.out n;have r:=Lib.hid (dm.store c.out d.out hid.out k);have o:Hid (mulR C S P (fpowN S P (ay S P) n:Nat) (ay S P:Nat)=(((fpowN S P (ay S P) (n+1):Nat):Int),0)):=by
     show _=_;unfold mulR;rw[gB c.out q hg];simp;rfl
    generalize fpowN S P (ay S P) n=X at*;generalize l:fpowN S P (ay S P) (n+1)=Y at*;have p:=Lib.hid l;clear l;clear f;go_wp2;go_region
    all_goals go_wp2_with(go_at_call 159;refine(iA C S P X (ay S P) _ oO z).mono ?_;rintro e Q ⟨rfl,s⟩;rw[o.out])
    all_goals go_roundw
    all_goals try(case measure=>simp[intOf];omega)
    all_goals refine⟨n+1,by omega,by go_num,by rw[p.out],?_⟩
    all_goals exact dm.below (dm.drew r.out) s
   ·obtain rfl:n=b:=oO;obtain⟨T,U,V,W,Z⟩:=dm.res hid.out;have t:=Lib.hid (dm.qO c.out d.out hid.out);clear f;go_wp2;refine bodyPost_ret (v:= .agg #[.int .i64 C,.int .i64 S,.slice (some ⟨(a.heap.size+1),0,none⟩) n n,.slice (some ⟨(a.heap.size+1+1),0,none⟩) S S]) ?_ rfl ⟨(a.heap.size+1),(a.heap.size+1+1),?_,?_,?_⟩
    ·have u:Tryz.f119.results=#[.cell 2 152]:=oK;simp only[results,u];go_simp
    ·rw[d.out]
    ·exact(((t.out.setCell _ _ oT oT).setCell _ _ oT oT).setCell _ _ oT oT).setCell _ _ oT oT
    ·exact⟨(((hid.out.B.setCell oS _).setCell oS _).setCell oS _).setCell oS _,by omega,by omega⟩
 ·go_loopw [6,28] (λx i wr=>∃n:Nat,n<=b/\i= .int .i64 (n:Nat)/\x= .int .i64 ((fpowN S P (ay S P) n:Nat):Int)/\Hid (dm w wr C S P b n (a.heap.size+1+1) (a.heap.size+1) (a.heap.size))) (λ_ i _=>b-(intOf i).toNat)
  case atStart=>
   refine⟨0,Nat.zero_le _,rfl,rfl,?_⟩;refine⟨ai (ah (ah (ah j.out.2.2.2 _) _) _),by omega,by omega,by omega,by omega,by omega,by omega,?_,?_,?_,?_,?_⟩
   ·exact(Below.heap_alloc _ _ _ oT).trans ((Below.heap_alloc _ _ _ oT).trans ((Below.heap_alloc _ _ _ oO).trans j.out.2.1))
   ·exact(Below.heap_alloc _ _ _ oT).trans ((Below.heap_alloc _ _ _ oT).trans ((Below.heap_alloc _ _ _ oO).trans j.out.2.2.1))
   ·rw[B.out];exact(cM a _ _ _).2.2
   ·rw[D.out];exact(cM a _ _ _).2.1
   ·exact(cM a _ _ _).1
  case round=>
   obtain⟨n,hn,rfl,rfl,hid⟩:=hrel;obtain⟨⟨E,F,G⟩,⟨H,J,K,L⟩,f⟩:=dm.cells c.out d.out hid.out;by_cases k:n<b
   ·obtain⟨⟨u1,M⟩,N,⟨u2,s3⟩,O⟩:=f k;have q:fpowN S P (ay S P) n<S:=eC c.out n;have r:=Lib.hid (dm.store c.out d.out hid.out k);have o:Hid (mulR C S P (fpowN S P (ay S P) n:Nat) (ay S P:Nat)=(((fpowN S P (ay S P) (n+1):Nat):Int),0)):=by
     show _=_;unfold mulR;rw[gB c.out q hg];simp;rfl
    generalize fpowN S P (ay S P) n=X at*;generalize l:fpowN S P (ay S P) (n+1)=Y at*;have p:=Lib.hid l;clear l;clear f;go_wp2;go_region
    all_goals go_wp2_with(go_at_call 159;refine(iA C S P X (ay S P) _ oO z).mono ?_;rintro e Q ⟨rfl,s⟩;rw[o.out])
    all_goals go_roundw
    all_goals try(case measure=>simp[intOf];omega)
    all_goals refine⟨n+1,by omega,by go_num,by rw[p.out],?_⟩
    all_goals exact dm.below (dm.drew r.out) s
   ·obtain rfl:n=b:=oO;obtain⟨T,U,V,W,Z⟩:=dm.res hid.out;have t:=Lib.hid (dm.qO c.out d.out hid.out);clear f;go_wp2;refine bodyPost_ret (v:= .agg #[.int .i64 C,.int .i64 S,.slice (some ⟨(a.heap.size+1+1),0,none⟩) n n,.slice (some ⟨(a.heap.size+1),0,none⟩) S S]) ?_ rfl ⟨(a.heap.size+1+1),(a.heap.size+1),?_,?_,?_⟩
    ·have u:Tryz.f119.results=#[.cell 2 152]:=oK;simp only[results,u];go_simp
    ·rw[d.out]
    ·exact(((t.out.setCell _ _ oT oT).setCell _ _ oT oT).setCell _ _ oT oT).setCell _ _ oT oT
    ·exact⟨(((hid.out.B.setCell oS _).setCell oS _).setCell oS _).setCell oS _,by omega,by omega⟩
end
section
open Fl
section
variable {K : Type} [Fl K]
theorem zc (r:K) (f:Nat->K) (n:Nat):dr (λk=>r* f k) n=r* dr f n:=by
 induction n with
 |zero=>exact(aT r).symm
 |succ n a=>show dr _ n+r* f n=r* (dr f n+f n);rw[a,gY]
theorem J0 (f g:Nat->K) (n:Nat):dr (λk=>f k+g k) n=dr f n+dr g n:=by
 induction n with
 |zero=>exact(cn _).symm
 |succ n a=>show dr _ n+(f n+g n)=(dr f n+f n)+(dr g n+g n);rw[a];ac_rfl
theorem zm {f:Nat->K} {n:Nat} (h:∀k,k<n->f k=0):dr f n=0:=by
 induction n with
 |zero=>rfl
 |succ n a=>show dr f n+f n=0;rw[a λk b=>h k oO,h n oO,aU]
theorem L8 (x:K) (f:Nat->K) (n:Nat):bS x f n=dr (λk=>f k* x^k) n:=by
 induction n with
 |zero=>rfl
 |succ n a=>rw[LO,a];rfl
theorem tW {a b:Nat->K} {n:Nat} (h:∀k,k<=n->a k* b (n-k)=0):conv a b n=0:=by
 rw[ph];exact zm λk c=>h k oO
theorem Ge {a b:Nat->K} {n:Nat} (h:∀k,1<=k->k<=n->a k* b (n-k)=0):conv a b n=a 0* b n:=by
 rw[ph,xV,zm (f:=cr λk=>a k* b (n-k)) λk c=>h (k+1) oO oO,aU];rfl
theorem te (a b c:Nat->K) (n:Nat):conv a (conv b c) n=conv b (conv a c) n:=by
 rw[<-lS,<-lS];exact eR (λk _=>js a b k) (λ_ _=>rfl)
theorem Bl {X:K} (a:X≠0) {j k:Nat} (h:k<=j):X^j* eG X^k=X^(j-k):=by
 rw[show j=(j-k)+k from by omega,j5,Nat.add_sub_cancel,cX,<-rp,gu a,iS,gm]
theorem Ku {X Y:K} (c:X≠0) (a:Y≠0) (h:eG X=eG Y):X=Y:=by
 have b:=gu c;rw[h]at b;have d:=gu a;exact gE (ui a) (b.trans d.symm)
def jF (X:K):Nat->K:=λn=>if n=0 then 1 else if n=1 then-X else 0
theorem ox (X:K):cK 2 (jF X):=λi a=>by unfold jF;rw[if_neg oO,if_neg oO]
theorem M6 (X:K) (n:Nat):cr (jF X) n=iM (-X) n:=by
 unfold cr jF iM;cases n with
 |zero=>rfl
 |succ n=>rfl
theorem Kj (X:K) (f:Nat->K) (n:Nat):conv (jF X) f (n+1)=f (n+1)-X* f n:=by
 rw[bW,eR (a:=cr (jF X)) (a':=iM (-X)) (b:=f) (b':=f) (λk _=>M6 X k) (λ_ _=>rfl),mK,mH];show 1* _+_=_;rw[dZ];rfl
theorem yc (y X:K):bS y (jF X) 2=1-X* y:=by
 show(1:K)+y* (-X+y* 0)=_;rw[aT,aU,rG,bX];rfl
def qC:List K->Nat->K
 |[]=>iM 1
 |X::l=>conv (jF X) (qC l)
theorem vA (r:K):cK 1 (iM r):=λi a=>by unfold iM;rw[if_neg oO]
theorem J8 {a b:Nat->K} {d e:Nat} (c:cK (d+1) a) (hb:cK (e+1) b):cK (d+e+1) (conv a b):=λn hn=>cK.conv c hb n oO
theorem um:∀l:List K,cK (l.length+1) (qC l)
 |[]=>vA 1
 |X::l=>λn hn=>(ox X).conv (um l) n (by simp only[List.length_cons]at hn;omega)
theorem Ce:∀l:List K,qC l 0=1
 |[]=>rfl
 |X::l=>by show(1:K)* qC l 0=1;rw[Ce l,dZ]
theorem EI:∀l:List K,(∀X∈l,X≠0)->qC l l.length≠0
 |[],_=>kn
 |X::l,h=>by
  have a:=Kv (ox X) (um l);rw[show(X::l).length=1+l.length from by rw[List.length_cons,Nat.add_comm]];show conv (jF X) (qC l) (1+l.length)≠0
  rw[a];refine lI (λe=>h X oS ?_) (EI l λY b=>h Y (by simp[b]));have e2:-X=0:=e;rw[<-si X,e2,sG]
theorem nM {x:K} {a b:Nat->K} {d e n:Nat} (c:cK (d+1) a) (hb:cK (e+1) b) (hn:d+e+1<=n):bS x (conv a b) n=bS x a (d+1)* bS x b (e+1):=by
 rw[ga (J8 c hb) hn,<-AX c hb];exact(ga (J8 c hb) oO).symm
def sT (y:K):List K->K
 |[]=>1
 |X::l=>(1-X* y)* sT y l
theorem Ex (y:K):∀l:List K,bS y (qC l) (l.length+1)=sT y l
 |[]=>by show(1:K)+y* 0=1;rw[aT,aU]
 |X::l=>by
  show bS y (conv (jF X) (qC l)) (l.length+1+1)=_;rw[nM (ox X) (um l) oO,yc,Ex y l];rfl
theorem vT {y:K}:∀{l:List K} {X:K},X∈l->X* y=1->sT y l=0
 |Z::l,X,h,e=>by
  rcases List.mem_cons.1 h with rfl|h
  ·show(1-X* y)* _=0;rw[e,dG,bR]
  ·show _* sT y l=0;rw[vT h e,aT]
theorem Bc {y:K}:∀{l:List K},(∀X∈l,X* y≠1)->sT y l≠0
 |[],_=>kn
 |Z::l,h=>lI (λe=>h Z oS (iZ.1 e).symm) (Bc λX a=>h X (by simp[a]))
theorem yL (X:K):∀(s a:List K) (n:Nat),qC (s++X::a) n=conv (jF X) (qC (s++a)) n
 |[],a,n=>rfl
 |Z::s,a,n=>by
  show conv (jF Z) (qC (s++X::a)) n=conv (jF X) (conv (jF Z) (qC (s++a))) n
  rw[te];exact eR (λ_ _=>rfl) (λk _=>yL X s a k)
def eF:List (K×K)->Nat->K
 |[],_=>0
 |e::l,j=>e.1* e.2^j+eF l j
def ra (C:Nat->K) (L j:Nat):List (K×K)->K
 |[]=>0
 |e::l=>e.1* e.2^j* bS (eG e.2) C (L+1)+ra C L j l
theorem Kf {C:Nat->K} {L j:Nat} (a:cK (L+1) C) (d:L<=j) (w:K) {X:K} (b:X≠0):conv C (λk=>w* X^k) j=w* X^j* bS (eG X) C (L+1):=by
 rw[ph,rK (n:=L+1) (λk c e=>by rw[a k c,bR]) oO,L8,<-zc];apply iI;intro k f;rw[<-Bl b (show k<=j by omega)]
 ac_rfl
theorem tP {C:Nat->K} {L j:Nat} (a:cK (L+1) C) (b:L<=j):∀E:List (K×K),(∀e∈E,e.2≠0)->conv C (eF E) j=ra C L j E
 |[],_=>by rw[js];exact fK λk=>rfl
 |e::l,h=>by
  show conv C (λk=>e.1* e.2^k+eF l k) j=_
  rw[qA,Kf a b e.1 (h e oS),tP a b l λx c=>h x (by simp[c])];rfl
theorem tm {C:Nat->K} {L j:Nat}:∀{E:List (K×K)},(∀e∈E,bS (eG e.2) C (L+1)=0)->ra C L j E=0
 |[],_=>rfl
 |e::l,h=>by
  show _* bS (eG e.2) C (L+1)+ra C L j l=0;rw[h e oS,tm λx a=>h x (by simp[a]),aT,aU]
theorem Cs (e:K×K):∀(s a:List (K×K)) (j:Nat),eF (s++e::a) j=e.1* e.2^j+eF (s++a) j
 |[],a,j=>rfl
 |z::s,a,j=>by
  show z.1* z.2^j+eF (s++e::a) j=e.1* e.2^j+(z.1* z.2^j+eF (s++a) j);rw[Cs e s a j];ac_rfl
theorem B8 (C:Nat->K) (L j:Nat) (e:K×K):∀(s a:List (K×K)),ra C L j (s++e::a)=e.1* e.2^j* bS (eG e.2) C (L+1)+ra C L j (s++a)
 |[],a=>rfl
 |z::s,a=>by
  show _+ra C L j (s++e::a)=_+(_+ra C L j (s++a));rw[B8 C L j e s a];ac_rfl
def lam (E:List (K×K)):Nat->K:=qC (E.map (·.2))
theorem kj (E:List (K×K)):cK (E.length+1) (lam E):=by have:=um (E.map (·.2));rwa[List.length_map]at this
theorem Ca (E:List (K×K)):lam E 0=1:=Ce _
theorem Ez {E:List (K×K)} (h:∀e∈E,e.2≠0):lam E E.length≠0:=by
 have:=EI (E.map (·.2)) (λX a=>by obtain⟨e,b,rfl⟩:=List.mem_map.1 a;exact h e b);rwa[List.length_map]at this
theorem qu (y:K) (E:List (K×K)):bS y (lam E) (E.length+1)=sT y (E.map (·.2)):=by
 have:=Ex y (E.map (·.2));rwa[List.length_map]at this
theorem wu {E:List (K×K)} {e:K×K} (a:e∈E) (b:e.2≠0):bS (eG e.2) (lam E) (E.length+1)=0:=by
 rw[qu];exact vT (List.mem_map_of_mem a) (gu b)
theorem EH {E:List (K×K)} (h:∀e∈E,e.2≠0) {j:Nat} (b:E.length<=j):conv (lam E) (eF E) j=0:=by
 rw[tP (kj E) b E h];exact tm λe a=>wu a (h e a)
theorem Mu {C D S:Nat->K} {L v n:Nat} (a:cK (L+1) C) (b:cK (v+1) D) (c:D 0=1) (d:∀j,L<=j->j<n->conv C S j=0) (e:∀j,v<=j->conv D S j=0)
 (f:conv C S n≠0):n+1<=L+v:=by
 apply Classical.byContradiction;intro l;apply f;have e1:conv D (conv C S) n=D 0* conv C S n:=Ge λk g hn=>by
  by_cases i:k<=v
  ·rw[d (n-k) oO oO,aT]
  ·rw[b k oO,bR]
 have e2:conv C (conv D S) n=0:=tW λk g=>by
  by_cases hl:k<=L
  ·rw[e (n-k) oO,aT]
  ·rw[a k oO,bR]
 rw[te,e2,c,dZ]at e1;exact e1.symm
def wO:Nat->(Nat->K)->Nat->K
 |0,f=>f
 |m+1,f=>sh (wO m f)
theorem wV (m:Nat) (f:Nat->K) (j:Nat):wO m f j=if m<=j then f (j-m)else 0:=by
 induction m generalizing j with
 |zero=>rw[if_pos (Nat.zero_le _)];rfl
 |succ m a=>
  cases j with
  |zero=>rw[if_neg oO];rfl
  |succ j=>
   show wO m f j=_;rw[a];by_cases h:m<=j
   ·rw[if_pos h,if_pos oO,show j+1-(m+1)=j-m from by omega]
   ·rw[if_neg h,if_neg oO]
theorem Jc (m:Nat) (f S:Nat->K) (j:Nat):conv (wO m f) S j=wO m (conv f S) j:=by
 induction m generalizing j with
 |zero=>rfl
 |succ m a=>
  show conv (sh (wO m f)) S j=sh (wO m (conv f S)) j
  rw[Eg];cases j with
  |zero=>rfl
  |succ j=>exact a j
theorem K4 {m d:Nat} {f:Nat->K} (h:cK d f):cK (d+m) (wO m f):=λi a=>by
 rw[wV,if_pos oO,h _ oO]
structure nE (S:Nat->K) (n:Nat) (C B:Nat->K) (L m:Nat) (b:K):Prop where
 c0:C 0=1
 cs:cK (L+1) C
 ln:L<=n
 gen:∀j,L<=j->j<n->conv C S j=0
 b0:b≠0
 m1:1<=m
 q:∃q,L+q+m=n+1/\cK (q+1) B/\(m<=n->(∀j,q<=j->j+m<n->conv B S j=0)/\conv B S (n-m)=b)
theorem nE.start (S:Nat->K):nE S 0 (iM 1) (iM 1) 0 1 1:=
 ⟨rfl,vA 1,Nat.le_refl _,λj a b=>by omega,kn,Nat.le_refl _,0,rfl,vA 1,λh=>by omega⟩
theorem nE.skip {S C B:Nat->K} {n L m:Nat} {b:K} (h:nE S n C B L m b) (d:conv C S n=0):nE S (n+1) C B L (m+1) b:=by
 obtain⟨q,k,e,f⟩:=h.q;refine⟨h.c0,h.cs,by have:=h.ln;omega,λj a c=>?_,h.b0,by omega,q,by omega,e,λl=>?_⟩
 ·rcases Nat.lt_or_ge j n with g|g
  ·exact h.gen j a g
  ·obtain rfl:j=n:=oO;exact d
 ·obtain⟨a,c⟩:=f oO;exact⟨λj i o=>a j i oO,by rw[show n+1-(m+1)=n-m from by omega];exact c⟩
def qJ (C B:Nat->K) (m:Nat) (r:K):Nat->K:=λj=>C j-r* wO m B j
theorem nE.CE {S C B:Nat->K} {n L m:Nat} {b r:K} (h:nE S n C B L m b) (a:r* b=conv C S n) (j:Nat) (c:L<=j) (f:n+1<=j+L) (i:j<n+1):conv (qJ C B m r) S j=0:=by
 obtain⟨q,e1,e2,e3⟩:=h.q;unfold qJ;rw[Al,qE,Jc,wV,if_pos oO];obtain⟨d,e⟩:=e3 oO;rcases Nat.lt_or_ge j n with g|g
 ·rw[h.gen j c g,d (j-m) oO oO,aT,fC]
 ·obtain rfl:j=n:=oO;rw[e,a,dG]
theorem AN {S C B:Nat->K} {n L m:Nat} {b r:K} (h:nE S n C B L m b):qJ C B m r 0=1:=by
 have:=h.m1;unfold qJ;rw[wV,if_neg oO,aT,fC,h.c0]
theorem EK {S C B:Nat->K} {n L m a:Nat} {b r:K} (h:nE S n C B L m b) (c:L<=a) (d:n+1<=a+L):cK (a+1) (qJ C B m r):=λi e=>by
 obtain⟨q,e1,e2,e3⟩:=h.q;unfold qJ;rw[h.cs i oO,K4 e2 i oO,aT,fC]
theorem nE.grow {S C B:Nat->K} {n L m:Nat} {b r:K} (h:nE S n C B L m b) (a:conv C S n≠0) (c:r* b=conv C S n) (f:2* L<=n):nE S (n+1) (qJ C B m r) C (n+1-L) 1 (conv C S n):=by
 have hl:=h.ln;refine⟨AN h,EK h oO oO,by omega,λj g d=>h.CE c j oO oO d,a,Nat.le_refl _,L,by omega,h.cs,λ_=>⟨λj e i=>h.gen j e oO,rfl⟩⟩
theorem nE.stay {S C B:Nat->K} {n L m:Nat} {b r:K} (h:nE S n C B L m b) (d:r* b=conv C S n) (f:n<2* L):nE S (n+1) (qJ C B m r) B L (m+1) b:=by
 have hl:=h.ln;obtain⟨q,e1,e2,e3⟩:=h.q;refine⟨AN h,EK h (Nat.le_refl _) oO,by omega,λj a c=>h.CE d j a oO c,h.b0,by omega,q,by omega,e2,λg=>?_⟩;obtain⟨a,c⟩:=e3 oO;exact⟨λj e i=>a j e oO,by rw[show n+1-(m+1)=n-m from by omega];exact c⟩
structure kW (E:List (K×K)):Prop where
 w0:∀e∈E,e.1≠0
 x0:∀e∈E,e.2≠0
 nd:(E.map (·.2)).Nodup
theorem kW.out {s b:List (K×K)} {e:K×K} (h:kW (s++e::b)):∀X∈(s++b).map (·.2),X≠e.2:=by
 have c:=h.nd;intro X a e2;subst e2;rw[List.map_append,List.map_cons,List.nodup_append]at c;obtain⟨g,d,f⟩:=c;rw[List.nodup_cons]at d;rw[List.map_append,List.mem_append]at a;rcases a with a|a
 ·exact f _ a _ oS rfl
 ·exact d.1 a
theorem kW.rest {s b:List (K×K)} {e:K×K} (h:kW (s++e::b)):kW (s++b):=by
 refine⟨λx a=>h.w0 x ?_,λx a=>h.x0 x ?_,?_⟩
 ·rw[List.mem_append]at a;rw[List.mem_append,List.mem_cons];rcases a with a|a
  ·exact .inl a
  ·exact .inr (.inr a)
 ·rw[List.mem_append]at a;rw[List.mem_append,List.mem_cons];rcases a with a|a
  ·exact .inl a
  ·exact .inr (.inr a)
 ·have:=h.nd;refine this.sublist ?_;exact((List.Sublist.refl s).append (List.sublist_cons_self e b)).map _
theorem kW.G7 {s a:List (K×K)} {e:K×K} (h:kW (s++e::a)):sT (eG e.2) ((s++a).map (·.2))≠0:=Bc λX c e1=>by
 have b:e.2≠0:=h.x0 e oS;have d:=h.out X c;exact d (gE (ui b) (e1.trans (gu b).symm))
theorem LA {E:List (K×K)} (b:kW E) {C:Nat->K} {L N:Nat} (g:cK (L+1) C) (n:∀j,L<=j->j<N->conv C (eF E) j=0) (o:L<=E.length) (p:2* E.length<=N):
 ∀e∈E,bS (eG e.2) C (L+1)=0:=by
 intro e q;obtain⟨s,a,rfl⟩:=List.append_of_mem q;have w:(s++e::a).length=(s++a).length+1:=by simp;omega
 rw[w]at o p;obtain⟨v,i⟩:∃v,v=(s++a).length:=⟨_,rfl⟩;have c:cK (v+1) (lam (s++a)):=by rw[i];exact kj _
 have d:conv (lam (s++a)) (conv C (eF (s++e::a))) (L+v)=0:=tW λk y=>by
  by_cases z:k<=v
  ·rw[n (L+v-k) oO oO,aT]
  ·rw[c k oO,bR]
 rw[<-lS]at d;have r:=J8 c g;rw[tP (L:=v+L) r oO _ b.x0,B8]at d;have f:e.2≠0:=b.x0 e oS;have t:ra (conv (lam (s++a)) C) (v+L) (L+v) (s++a)=0:=tm λx f=>by
  rw[nM c g (Nat.le_refl _),i,wu f (b.rest.x0 x f),bR]
 rw[t,aU,nM c g (Nat.le_refl _),i,qu]at d;have u:=b.w0 e oS;rcases yI d with l|l
 ·exact absurd l (lI u (lG f _))
 ·rcases yI l with m|m
  ·exact absurd m b.G7
  ·exact m
theorem MY {E:List (K×K)} (c:kW E) {C:Nat->K} {L N:Nat} (g:cK (L+1) C) (v:C 0=1) (m:∀j,L<=j->j<N->conv C (eF E) j=0) (n:L<=E.length) (o:2* E.length<=N):
 L=E.length/\∀i,C i=lam E i:=by
 have p:=LA c g m n o;have w:cK (E.length+1) (λi=>C i-lam E i):=λi q=>by
  show C i-lam E i=0;rw[g i oO,kj E i q,dG]
 have l:∀i,C i=lam E i:=λi=>by
  have:=C7 w (0::E.map λe=>eG e.2) (by
   rw[List.nodup_cons];refine⟨λh=>?_,?_⟩
   ·obtain⟨e,f,r⟩:=List.mem_map.1 h;exact ui (c.x0 e f) r
   ·have s:E.map (λe=>eG e.2)=(E.map (·.2)).map eG:=by rw[List.map_map];rfl
    rw[s];refine nv (λa t b hb h=>?_) c.nd;obtain⟨e,f,rfl⟩:=List.mem_map.1 t;obtain⟨d,u,rfl⟩:=List.mem_map.1 hb
    exact Ku (c.x0 e f) (c.x0 d u) h) oS (λx k=>by
   rw[Ep];rcases List.mem_cons.1 k with rfl|k
   ·rw[cD,cD,bR,bR,v,Ca,dG]
   ·obtain⟨e,f,rfl⟩:=List.mem_map.1 k
    rw[ga g oO,p e f,wu f (c.x0 e f),dG]) i
  exact iZ.1 this
 refine⟨?_,l⟩;rcases Nat.lt_or_ge L E.length with h|h
 ·exact absurd ((l E.length).symm.trans (g _ oO)) (Ez c.x0)
 ·omega
theorem AT (w X:K) (n:Nat):conv (jF X) (λj=>w* X^j) n=iM w n:=by
 cases n with
 |zero=>show(1:K)* (w* 1)=w;rw[dZ,gm]
 |succ n=>
  rw[Kj];show w* (X^n* X)-X* (w* X^n)=0;rw[show w* (X^n* X)=X* (w* X^n)from by ac_rfl,dG]
theorem E3 {s c:List (K×K)} {e:K×K} (h:kW (s++e::c)) {N:Nat} (p:(s++e::c).length<=N):
 bS (eG e.2) (conv (lam (s++e::c)) (eF (s++e::c))) N=e.1* sT (eG e.2) ((s++c).map (·.2)):=by
 have f:e.2≠0:=h.x0 e oS;have r:(s++e::c).length=(s++c).length+1:=by simp;omega
 have g:∀n,lam (s++e::c) n=conv (jF e.2) (lam (s++c)) n:=λn=>by
  unfold lam;rw[List.map_append,List.map_cons,yL,List.map_append]
 have key:∀n,conv (lam (s++e::c)) (eF (s++e::c)) n=e.1* lam (s++c) n+conv (jF e.2) (conv (lam (s++c)) (eF (s++c))) n:=λn=>by
  rw[eR (a:=lam (s++e::c)) (a':=conv (jF e.2) (lam (s++c))) (b:=eF (s++e::c)) (b':=λj=>e.1* e.2^j+eF (s++c) j) (λk _=>g k) (λk _=>Cs e s c k),qA];congr 1
  ·rw[lS,te];rw[eR (a:=lam (s++c)) (a':=lam (s++c)) (b:=conv (jF e.2) λk=>e.1* e.2^k) (b':=iM e.1) (λ_ _=>rfl) (λk _=>AT e.1 e.2 k),js,mK]
  ·rw[lS]
 rw[gQ λi _=>key i,oh,rM];have d:cK (s++c).length (conv (lam (s++c)) (eF (s++c))):=λj l=>EH h.rest.x0 l;have o:bS (eG e.2) (conv (jF e.2) (conv (lam (s++c)) (eF (s++c)))) N=0:=by
  rw[(ga (n:=N) (m:=1+(s++c).length+1+N) (λi q=>(ox e.2).conv d i oO) oO).symm,
   nM (ox e.2) (d.mono (Nat.le_succ _)) oO,yc,gu f,dG,bR]
 rw[o,aU,ga (kj (s++c)) oO,qu]
theorem Mk (X:K) (n:Nat):j4 (jF X) n=iM (-X) n:=by
 unfold j4 jF iM;cases n with
 |zero=>exact cn _
 |succ n=>rw[if_neg oO,if_neg oO,if_neg oO];exact vF _
theorem Ei {f:Nat->K} {d:Nat} (h:cK (d+1) f):cK d (j4 f):=λi a=>by
 show il (i+1) (f (i+1))=0;rw[h (i+1) oO,vF]
theorem AW {s c:List (K×K)} {e:K×K} (h:kW (s++e::c)) {N:Nat} (o:(s++e::c).length<=N):
 bS (eG e.2) (j4 (lam (s++e::c))) N=-(e.2* sT (eG e.2) ((s++c).map (·.2))):=by
 have d:e.2≠0:=h.x0 e oS;have j:(s++e::c).length=(s++c).length+1:=by simp;omega
 have f:lam (s++e::c)=conv (jF e.2) (lam (s++c)):=by
  funext n;unfold lam;rw[List.map_append,List.map_cons,yL,List.map_append]
 have l:cK ((s++c).length+1) (j4 (lam (s++e::c))):=Ei (by have:=kj (s++e::c);rw[j]at this;exact this);have g:cK ((s++c).length+1) (j4 (lam (s++c))):=(Ei (kj (s++c))).mono (Nat.le_succ _);rw[<-ga (m:=N+((s++c).length+3)) (l.mono oO) oO,f];rw[gQ λi _=>Jo (jF e.2) (lam (s++c)) i,oh];rw[nM (ox e.2) g oO,yc,gu d,dG,bR,aU];rw[gQ λi _=>eR (a:=j4 (jF e.2)) (a':=iM (-e.2)) (b:=lam (s++c)) (b':=lam (s++c)) (λk _=>Mk e.2 k) (λ_ _=>rfl)];rw[gQ λi _=>mK (-e.2) (lam (s++c)) i,rM,ga (kj (s++c)) oO,qu,mH]
end
noncomputable def iV (s p j:Nat):Nat:=fpowN s p (ay s p) (j%(s-1))
def tQ (s p x:Nat) (w:List Nat):Nat->Nat
 |0=>0
 |k+1=>bN s p (aG s p (tQ s p x w k) x) (w.getD k 0)
noncomputable def l3 (s p first:Nat) (w:List Nat) (j:Nat):Nat:=tQ s p (iV s p (first+j)) w w.length
def dT (w v:List Nat):List Nat:=(List.range w.length).filter λi=>decide (w.getD i 0≠v.getD i 0)
structure Fix (s p par first:Nat) (w v:List Nat):Prop where
 lt:ao s v
 ln:v.length=w.length
 cw:∀j,j<par->l3 s p first v j=0
 df:2* (dT w v).length<=par
section
variable {c s p : Nat} (h : VF c s p)
include h
theorem jd (j:Nat):iV s p j<s:=eC h _
theorem xX {x:Nat} {w:List Nat} (a:ao s w) (k:Nat):tQ s p x w k<s:=by
 cases k with
 |zero=>have:=h.aP;show 0<s;omega
 |succ k=>exact ki h _ _ (bL h _ _) (a k)
theorem yw {first:Nat} {w:List Nat} (a:ao s w) (j:Nat):l3 s p first w j<s:=xX h a _
theorem vi {a:Nat} (b:a<s):aS h a=0↔a=0:=by
 constructor
 ·intro e;rw[<-bQ h]at e;exact jK h b (by have:=h.aP;omega) e
 ·rintro rfl;exact bQ h
theorem LI:im (KF h)=s:=kk h
noncomputable def alpha:KF h:=aS h (ay s p)
theorem EG {a:Nat} (b:a<s):∀n,aS h (fpowN s p a n)=aS h a^n
 |0=>lK h
 |n+1=>by
  show aS h (aG s p (fpowN s p a n) a)=aS h a^n* aS h a;rw[gf h (vV h a n) b,EG b n]
theorem pE:du (alpha h) (s-1):=by
 have hg:=j7 h;have a:=(oX h (⟨ay s p,hg.2.1⟩:El s) (s-1)).1 hg.2.2.1;unfold alpha;rw[gW h hg.2.1];exact a
theorem I1:alpha h≠0:=(pE h).ne
theorem yN (j:Nat):aS h (iV s p j)=alpha h^j:=by
 unfold iV alpha;rw[EG h (j7 h).2.1];exact(vz (pE h).2.1 j).symm
theorem Ey {x:Nat} (b:x<s) {w:List Nat} (a:ao s w):∀k,aS h (tQ s p x w k)=dr (λi=>co h w i* aS h x^(k-1-i)) k
 |0=>bQ h
 |k+1=>by
  show aS h (bN s p (aG s p (tQ s p x w k) x) (w.getD k 0))=dr (λi=>co h w i* aS h x^(k+1-1-i)) k+co h w k* aS h x^(k+1-1-k);rw[oy h (bL h _ _) (a k),gf h (xX h a k) b,Ey b a k,show k+1-1-k=0 from by omega,jo,gm];congr 1;rw[bX,<-zc];apply iI;intro i d;rw[show k+1-1-i=(k-1-i)+1 from by omega,ee]
  ac_rfl
noncomputable def loc (n i:Nat):KF h:=alpha h^(n-1-i)
theorem nu (n i:Nat):loc h n i≠0:=lG (I1 h) _
theorem Ej {n i j:Nat} (hn:n<=s-1) (a:i<n) (b:j<n) (e:loc h n i=loc h n j):i=j:=by
 have:=(pE h).inj oO oO e;omega
theorem CG {first:Nat} {w:List Nat} (a:ao s w) (j:Nat):aS h (l3 s p first w j)=dr (λi=>co h w i* loc h w.length i^first* loc h w.length i^j) w.length:=by
 unfold l3;rw[Ey h (jd h _) a];apply iI;intro i b;rw[yN,<-fm];unfold loc;rw[<-fm,<-fm,cX,<-j5,<-Nat.mul_add,Nat.mul_comm]
theorem DI (a b:List (KF h×KF h)) (j:Nat):eF (a++b) j=eF a j+eF b j:=by
 induction a with
 |nil=>exact(cn _).symm
 |cons e l d=>show _+eF (l++b) j=_+eF l j+eF b j;rw[d,iE]
noncomputable def jR (n first:Nat) (f:Nat->KF h) (m:Nat):List (KF h×KF h):=((List.range m).filter λi=>decide (f i≠0)).map λi=>(f i* loc h n i^first,loc h n i)
theorem zE (n first:Nat) (f:Nat->KF h) (j:Nat):∀m,eF (jR h n first f m) j=dr (λi=>f i* loc h n i^first* loc h n i^j) m
 |0=>rfl
 |m+1=>by
  unfold jR;rw[List.range_succ,List.filter_append,List.map_append,DI];show eF (jR h n first f m) j+_=dr _ m+_;rw[zE n first f j m];congr 1;show _=f m* loc h n m^first* loc h n m^j
  by_cases a:f m=0
  ·have:List.filter (λi=>decide (f i≠0)) [m]=[]:=by simp[a]
   rw[this,a,bR,bR];rfl
  ·have:List.filter (λi=>decide (f i≠0)) [m]=[m]:=by simp[a]
   rw[this];show f m* loc h n m^first* loc h n m^j+0=_
   rw[aU]
theorem tE {n first:Nat} (hn:n<=s-1) (f:Nat->KF h):kW (jR h n first f n):=by
 refine⟨λe d=>?_,λe d=>?_,?_⟩
 ·obtain⟨i,g,rfl⟩:=List.mem_map.1 d;rw[List.mem_filter]at g;exact lI (by simpa using g.2) (lG (nu h n i) _)
 ·obtain⟨i,g,rfl⟩:=List.mem_map.1 d;exact nu h n i
 ·unfold jR;rw[List.map_map];refine nv (λa j b hb e=>?_) (List.nodup_range.filter _);rw[List.mem_filter,List.mem_range]at j hb;exact Ej h hn j.1 hb.1 e
theorem qm (n first:Nat) (f:Nat->KF h) (m:Nat):(jR h n first f m).length=((List.range m).filter λi=>decide (f i≠0)).length:=by unfold jR;rw[List.length_map]
noncomputable def err (w v:List Nat) (i:Nat):KF h:=co h w i-co h v i
theorem BM {w v:List Nat} (a:ao s w) (b:ao s v) (i:Nat):err h w v i≠0↔w.getD i 0≠v.getD i 0:=by
 constructor
 ·intro e e2;apply e;unfold err co;rw[e2,dG]
 ·intro e e2;apply e;exact jK h (a i) (b i) (iZ.1 e2)
theorem sV {w v:List Nat} (a:ao s w) (b:ao s v):((List.range w.length).filter λi=>decide (err h w v i≠0))=dT w v:=by
 unfold dT;apply List.filter_congr;intro i _;exact decide_eq_decide.2 (BM h a b i)
theorem CS {par first:Nat} {w v:List Nat} (d:ao s w) (a:Fix s p par first w v) {j:Nat} (e:j<par):
 aS h (l3 s p first w j)=eF (jR h w.length first (err h w v) w.length) j:=by
 rw[zE,CG h d];have b:aS h (l3 s p first v j)=0:=by rw[a.cw j e,bQ]
 rw[CG h a.lt,a.ln]at b;have f:dr (λi=>err h w v i* loc h w.length i^first* loc h w.length i^j) w.length+dr (λi=>co h v i* loc h w.length i^first* loc h w.length i^j) w.length=dr (λi=>co h w i* loc h w.length i^first* loc h w.length i^j) w.length:=by
  rw[<-J0];apply iI;intro i g;unfold err;rw[cX,cX,cX,<-iU,pK]
 rw[<-f,b,aU]
theorem AQ {n i:Nat} (hn:n<=s-1) (a:i<n):aS h (iV s p (s-1-(n-1-i)))=eG (loc h n i):=by
 rw[yN];apply gE (nu h n i);rw[Cr (nu h n i)];unfold loc;rw[<-j5,show s-1-(n-1-i)+(n-1-i)=s-1 from by omega];exact(pE h).2.1
structure lV (S:Nat->KF h) (N:Nat) (q:Nat->KF h) (L:Nat):Prop where
 c0:q 0=1
 cs:cK (L+1) q
 gen:∀j,L<=j->j<N->conv q S j=0
 mn:∀E:List (KF h×KF h),kW E->(∀j,j<N->S j=eF E j)->L<=E.length
theorem lV.end {S:Nat->KF h} {N:Nat} {q:Nat->KF h} {L:Nat} (hl:lV h S N q L) {E:List (KF h×KF h)} (a:kW E) (b:∀j,j<N->S j=eF E j) (d:2* E.length<=N):L=E.length/\∀i,q i=lam E i:=
 MY a hl.cs hl.c0 (λj e f=>by rw[<-hl.gen j e f];exact eR (λ_ _=>rfl) λk g=>(b k oO).symm) (hl.mn E a b) d
structure kx (S:Nat->KF h) (N n:Nat) (C B:Nat->KF h) (L m:Nat) (b:KF h):Prop where
 I:nE S n C B L m b
 mn:∀E:List (KF h×KF h),kW E->(∀j,j<N->S j=eF E j)->L<=E.length
theorem kx.start (S:Nat->KF h) (N:Nat):kx h S N 0 (iM 1) (iM 1) 0 1 1:=⟨nE.start S,λ_ _ _=>Nat.zero_le _⟩
theorem kx.skip {S C B:Nat->KF h} {N n L m:Nat} {b:KF h} (hb:kx h S N n C B L m b) (a:conv C S n=0):kx h S N (n+1) C B L (m+1) b:=⟨hb.I.skip a,hb.mn⟩
theorem kx.grow {S C B:Nat->KF h} {N n L m:Nat} {b r:KF h} (hb:kx h S N n C B L m b) (hn:n<N) (d:conv C S n≠0) (f:r* b=conv C S n) (a:2* L<=n):kx h S N (n+1) (qJ C B m r) C (n+1-L) 1 (conv C S n):=by
 refine⟨hb.I.grow d f a,λE g l=>?_⟩;have e:∀k,k<=n->conv C S k=conv C (eF E) k:=λk t=>eR (λ_ _=>rfl) λi u=>l i oO
 have:=Mu (S:=eF E) hb.I.cs (kj E) (Ca E) (λj o a=>(e j (Nat.le_of_lt a)).symm.trans (hb.I.gen j o a)) (λj q=>EH g.x0 q) (by rw[<-e n (Nat.le_refl _)];exact d);omega
theorem kx.stay {S C B:Nat->KF h} {N n L m:Nat} {b r:KF h} (hb:kx h S N n C B L m b) (a:r* b=conv C S n) (d:n<2* L):kx h S N (n+1) (qJ C B m r) B L (m+1) b:=⟨hb.I.stay a d,hb.mn⟩
theorem kx.MH {S C B:Nat->KF h} {N L m:Nat} {b:KF h} (hb:kx h S N N C B L m b):lV h S N C L:=⟨hb.I.c0,hb.I.cs,hb.I.gen,hb.mn⟩
noncomputable def ik (s p n i:Nat):Nat:=iV s p (s-1-(n-1-i))
noncomputable def iq (s p n:Nat) (q:List Nat):List Nat:=(List.range n).filter λi=>hornN s p (ik s p n i) q==0
theorem Kn {par first:Nat} {w v:List Nat} (g:ao s w) (hn:w.length<=s-1) (j:Fix s p par first w v) {q:List Nat} (hq:ao s q) (r:q.length=(dT w v).length+1)
 (t:∀i,co h q i=lam (jR h w.length first (err h w v) w.length) i):iq s p w.length q=dT w v:=by
 have x:=tE h hn (first:=first) (err h w v);have u:(jR h w.length first (err h w v) w.length).length=(dT w v).length:=by rw[qm,sV h g j.lt]
 unfold iq dT;apply List.filter_congr;intro i a;rw[List.mem_range]at a;have e1:aS h (hornN s p (ik s p w.length i) q)=sT (eG (loc h w.length i)) ((jR h w.length first (err h w v) w.length).map (·.2)):=by
  rw[uj h (show ik s p w.length i<s from jd h _) q (fU hq),show aS h (ik s p w.length i)=_ from AQ h hn a,gQ λi _=>t i,r,<-u,qu]
 have hb:hornN s p (ik s p w.length i) q<s:=j1 h _ q (fU hq);rw[Bool.eq_iff_iff,beq_iff_eq,decide_eq_true_eq,<-vi h hb,e1,<-BM h g j.lt];constructor
 ·intro b l;refine Bc (λX m e=>?_) b;obtain⟨d,n,rfl⟩:=List.mem_map.1 m;obtain⟨k,f,rfl⟩:=List.mem_map.1 n;rw[List.mem_filter,List.mem_range]at f;have e2:loc h w.length k=loc h w.length i:=gE (ui (nu h _ i)) (e.trans (gu (nu h _ i)).symm);have:=Ej h hn f.1 a e2;subst this;have o:err h w v k≠0:=by simpa using f.2
  exact o l
 ·intro b;refine vT (X:=loc h w.length i) ?_ (gu (nu h _ i));refine List.mem_map.2 ⟨(err h w v i* loc h w.length i^first,loc h w.length i),?_,rfl⟩;exact List.mem_map.2 ⟨i,by rw[List.mem_filter,List.mem_range];exact⟨a,by simpa using b⟩,rfl⟩
end
noncomputable def cR (s p par first:Nat) (w:List Nat):List Nat:=(List.range par).map (l3 s p first w)
noncomputable def jU (s p first n:Nat) (sl:List Nat) (i:Nat):Nat:=aG s p (iV s p ((n-1-i)* (first+s-2))) (hornN s p (ik s p n i) sl)
noncomputable def ig (s p first n:Nat) (ev sl:List Nat) (i:Nat):Nat:=aG s p (hornN s p (ik s p n i) ev) (dP s p (jU s p first n sl i))
def je (s p:Nat) (w P:List Nat) (f:Nat->Nat):List Nat:=(List.range w.length).map λi=>if i∈P then bN s p (w.getD i 0) (f i)else w.getD i 0
structure MP {c s p:Nat} (h:VF c s p) (par:Nat) (a q ev sl:List Nat):Prop where
 e1:ao s ev
 e2:ev.length=par
 e3:∀j,j<par->co h ev j=conv (co h q) (co h a) j
 s1:ao s sl
 s2:sl.length=q.length-1
 s3:∀j,co h sl j=j4 (co h q) j
noncomputable def tn (s p par first:Nat) (w q ev sl:List Nat):Option (List Nat):=@ite _ (2* (q.length-1)<=par/\(iq s p w.length q).length=q.length-1/\(∀i,i∈iq s p w.length q->jU s p first w.length sl i≠0)/\∀j,j<par->l3 s p first (je s p w (iq s p w.length q) (ig s p first w.length ev sl)) j=0) (Classical.propDecidable _)
 (some (je s p w (iq s p w.length q) (ig s p first w.length ev sl))) none
theorem fh (s p:Nat) (w P:List Nat) (f:Nat->Nat):(je s p w P f).length=w.length:=by unfold je;simp
theorem lk {s p:Nat} {w P:List Nat} {f:Nat->Nat} {i:Nat} (a:i<w.length):(je s p w P f).getD i 0=if i∈P then bN s p (w.getD i 0) (f i)else w.getD i 0:=by
 unfold je;exact bp _ _ _ a
theorem wC {w v:List Nat} {i:Nat}:i∈dT w v↔i<w.length/\w.getD i 0≠v.getD i 0:=by
 unfold dT;rw[List.mem_filter,List.mem_range,decide_eq_true_eq]
theorem cW {a b:List Nat} (hl:a.length=b.length) (e:∀i,i<a.length->a.getD i 0=b.getD i 0):a=b:=by
 apply List.ext_getElem hl;intro i d f;have:=e i d;simpa[List.getD,d,f]using this
section
variable {c s p : Nat} (h : VF c s p)
include h
theorem yH {par first:Nat} {w:List Nat} (a:ao s w):ao s (cR s p par first w):=gR h λi _=>yw h a i
theorem EB {par first:Nat} {w:List Nat} {j:Nat} (a:j<par):co h (cR s p par first w) j=aS h (l3 s p first w j):=by
 unfold cR;rw[tH,if_pos a]
theorem LR {w P:List Nat} {f:Nat->Nat} (a:ao s w) (b:∀i,f i<s):ao s (je s p w P f):=gR h λi _=>by
 split
 ·exact ki h _ _ (a i) (b i)
 ·exact a i
theorem yt {first n:Nat} {ev sl:List Nat} (i:Nat):ig s p first n ev sl i<s:=bL h _ _
theorem MG (x:KF h):x^(s-2)=eG x:=by unfold eG;rw[LI h]
theorem H2 {par first:Nat} {w v q ev sl:List Nat} (g:ao s w) (hn:w.length<=s-1) (l:Fix s p par first w v) (d:MP h par (cR s p par first w) q ev sl)
 (E:q.length=(dT w v).length+1) (x:∀i,co h q i=lam (jR h w.length first (err h w v) w.length) i) {i:Nat} (B:i∈dT w v):
 jU s p first w.length sl i≠0/\bN s p (w.getD i 0) (ig s p first w.length ev sl i)=v.getD i 0:=by
 have P:=h.aP;have f:=tE h hn (first:=first) (err h w v);have m:(jR h w.length first (err h w v) w.length).length=(dT w v).length:=by rw[qm,sV h g l.lt]
 obtain⟨y,F⟩:=wC.1 B;have u:=nu h w.length i;have K:(err h w v i* loc h w.length i^first,loc h w.length i)∈jR h w.length first (err h w v) w.length:=by
  refine List.mem_map.2 ⟨i,?_,rfl⟩;rw[List.mem_filter,List.mem_range];exact⟨y,by simpa using(BM h g l.lt i).2 F⟩
 obtain⟨a,b,r⟩:=List.append_of_mem K;obtain⟨Q,n⟩:∃Q,Q=sT (eG (loc h w.length i)) ((a++b).map (·.2)):=⟨_,rfl⟩;have G:Q≠0:=by rw[n];rw[r]at f;exact f.G7
 have A:aS h (ik s p w.length i)=eG (loc h w.length i):=AQ h hn y;have L:aS h (hornN s p (ik s p w.length i) ev)=err h w v i* loc h w.length i^first* Q:=by
  rw[uj h (show ik s p w.length i<s from jd h _) ev (fU d.e1),A,d.e2];have e1:∀j,j<par->co h ev j=conv (lam (jR h w.length first (err h w v) w.length)) (eF (jR h w.length first (err h w v) w.length)) j:=λj C=>by
   rw[d.e3 j C];exact eR (λk _=>x k) λk S=>by rw[EB h oO,CS h g l oO]
  rw[gQ e1];rw[r]at f m⊢;rw[E3 f (by rw[m];have:=l.df;omega),n]
 have O:aS h (hornN s p (ik s p w.length i) sl)=-(loc h w.length i* Q):=by
  rw[uj h (show ik s p w.length i<s from jd h _) sl (fU d.s1),A];have e1:∀j,co h sl j=j4 (lam (jR h w.length first (err h w v) w.length)) j:=λj=>by
   rw[d.s3 j];show il _ _=il _ _;rw[x]
  rw[gQ λj _=>e1 j];rw[r]at f m⊢;rw[AW f (by rw[d.s2,E,m];omega),n]
 have M:aS h (iV s p ((w.length-1-i)* (first+s-2)))=loc h w.length i^first* eG (loc h w.length i):=by
  rw[yN,fm,show first+s-2=first+(s-2)from by omega,j5,MG];rfl
 have H:hornN s p (ik s p w.length i) sl<s:=j1 h _ sl (fU d.s1);have t:aS h (jU s p first w.length sl i)=-(loc h w.length i^first* Q):=by
  unfold jU;rw[gf h (jd h _) H,M,O,rG];congr 1;rw[show loc h w.length i^first* eG (loc h w.length i)* (loc h w.length i* Q)=(loc h w.length i* eG (loc h w.length i))* (loc h w.length i^first* Q)from by ac_rfl,gu u,dZ]
 have J:jU s p first w.length sl i<s:=bL h _ _
 have z:jU s p first w.length sl i≠0:=λe=>by
  rw[e,bQ]at t;have:loc h w.length i^first* Q=0:=by rw[<-si (loc h w.length i^first* Q),<-t,sG]
  exact lI (lG u _) G this
 refine⟨z,?_⟩;have N:aS h (ig s p first w.length ev sl i)=-err h w v i:=by
  unfold ig;rw[gf h (j1 h _ ev (fU d.e1)) (mN h),L];have o:=x8 h J z;rw[t]at o;rw[cX,cX,<-cX (loc h w.length i^first)];rw[mH]at o;have D:loc h w.length i^first* Q* aS h (dP s p (jU s p first w.length sl i))=-1:=by rw[<-o,si]
  rw[D,rG,gm]
 refine jK h (ki h _ _ (g i) (yt h i)) (l.lt i) ?_;rw[oy h (g i) (yt h i),N];show co h w i+-(co h w i-co h v i)=co h v i;rw[iP,wg,si,<-iE,q9,cn]
theorem IQ {par first:Nat} {w v q ev sl:List Nat} {L:Nat} (d:ao s w) (hn:w.length<=s-1) (a:Fix s p par first w v) (hq:ao s q) (t:dA q)
 (u:lV h (co h (cR s p par first w)) par (co h q) L) (o:MP h par (cR s p par first w) q ev sl):tn s p par first w q ev sl=some v:=by
 have m:=tE h hn (first:=first) (err h w v);have r:(jR h w.length first (err h w v) w.length).length=(dT w v).length:=by rw[qm,sV h d a.lt]
 have x:=a.df;obtain⟨z,f⟩:=u.end h m (λj n=>by rw[EB h n,CS h d a n]) (by rw[r];exact x);have k:q.length=(dT w v).length+1:=by
  rw[<-r];refine Ag h hq t (λi b=>by rw[f];exact kj _ i b) ?_;rw[f];exact Ez m.x0
 have l:=Kn h d hn a hq k f;have y:je s p w (iq s p w.length q) (ig s p first w.length ev sl)=v:=by
  refine cW (by rw[fh,a.ln]) λi b=>?_;rw[fh]at b;rw[lk b,l];by_cases g:i∈dT w v
  ·rw[if_pos g];exact(H2 h d hn a o k f g).2
  ·rw[if_neg g];apply Classical.byContradiction;intro e;exact g (wC.2 ⟨b,e⟩)
 unfold tn;rw[y,if_pos];refine⟨by omega,by rw[l];omega,λi b=>?_,a.cw⟩;rw[l]at b;exact(H2 h d hn a o k f b).1
theorem Fz {par first:Nat} {w v q ev sl:List Nat} (d:ao s w) (a:tn s p par first w q ev sl=some v):Fix s p par first w v:=by
 unfold tn at a;split at a
 ·rename_i hc
  obtain⟨k,l,m,e⟩:=hc;injection a with a;subst a;refine⟨LR h d (yt h),fh _ _ _ _ _,e,?_⟩;have:(dT w (je s p w (iq s p w.length q) (ig s p first w.length ev sl))).length<=(iq s p w.length q).length:=by
   refine length_le_of_subset (List.nodup_range.filter _) λi f=>?_;obtain⟨g,b⟩:=wC.1 f;apply Classical.byContradiction;intro j;rw[lk g,if_neg j]at b;exact b rfl
  omega
 ·cases a
noncomputable def r6 (s p par first:Nat) (w:List Nat):Option (List Nat):=@dite _ (∃v,Fix s p par first w v) (Classical.propDecidable _) (λh=>some (Classical.choose h)) (λ_=>none)
end
end
section
open Go.RowKit
theorem lP (C S P a bl k:Nat) (w:World) (b:VF C S P) (n:k<=100000000) (d:dh w S P a bl):
 Calls Tryz.prog 152 #[fs C S a bl,.int .i64 k] w λe w'=>e= .returned (.int .i64 ((iV S P k:Nat):Int))/\Below w.heap.size w w':=by
 have l:Hid (Below w.heap.size w (w.alloc (dV C S a bl))):=(Below.refl _ _).alloc (Nat.le_refl _) _;have o:=b.le;have q:=b.aP;have f:=d.alloc (dV C S a bl);have i:k%(S-1)<S-1:=Nat.mod_lt _ oO;have j:=f.2.2.1 _ i;have g:Hid (iV S P k=fpowN S P (ay S P) (k%(S-1))):=rfl;have e1:(k:Int).tmod ((S:Int)-1)=((k%(S-1):Nat):Int):=by
  rw[show(S:Int)-1=((S-1:Nat):Int)from by omega];exact(Int.ofNat_tmod _ _).symm
 rw[<-g.out]at j;generalize k%(S-1)=m at*;generalize iV S P k=r at*;clear f d b g;go_enter Tryz.func152,Tryz.ntmps152;go_wp2;go_quiet (fail)
 go_wp2;go_ret;exact⟨rfl,cZ l.out _⟩
def fJ (s p:Nat) (a b:List Nat) (n i j:Nat):List Nat:=(List.range n).map (yx s p a b i j)
theorem jD (s p:Nat) (a b:List Nat) (n i j:Nat):(fJ s p a b n i j).length=n:=by unfold fJ;simp
section
variable {c s p : Nat} (h : VF c s p)
include h
theorem Hz (a b:List Nat) (n:Nat):fJ s p a b n 0 0=List.replicate n 0:=by
 unfold fJ;apply List.ext_getElem
 ·simp
 ·intro k d e;simp[tt h,mh]
theorem KB (a b:List Nat) {n i j:Nat} (f:i+j<n):
 (fJ s p a b n i j).set (i+j) (bN s p ((fJ s p a b n i j).getD (i+j) 0) (aG s p (a.getD i 0) (b.getD j 0)))=fJ s p a b n i (j+1):=by
 unfold fJ;rw[bp _ _ _ f,fB _ _ _ _ f];apply List.map_congr_left;intro k g;unfold yx;by_cases e:k=i+j
 ·subst e;rw[if_pos rfl,if_neg oO,if_pos oO,show i+j-i=j from by omega]
 ·rw[if_neg e];by_cases d:i<=k/\k-i<j
  ·rw[if_pos d,if_pos oO]
  ·rw[if_neg d,if_neg oO]
theorem Jr (a b:List Nat) (e:ao s a) {n i j:Nat} (l:j=b.length\/n<=i+j):fJ s p a b n i j=fJ s p a b n (i+1) 0:=by
 unfold fJ;apply List.map_congr_left;intro k f;rw[List.mem_range]at f;rw[tt h];unfold yx;show _=bN s p (mh s p (gd s p a b k) i) (gd s p a b k i);have hc:=tY h (gd s p a b k) (o5 h a b k) i;unfold gd;by_cases d:i<=k
 ·by_cases g:k-i<j
  ·rw[if_pos ⟨d,g⟩,if_pos d]
  ·rw[if_neg oO,if_pos d];have:b.getD (k-i) 0=0:=by rw[List.getD,List.getElem?_eq_none oO];rfl
   rw[this,pP h (e i)];exact(tI h hc).symm
 ·rw[if_neg oO,if_neg d];exact(tI h hc).symm
theorem tB (a b:List Nat) (n i j:Nat):ao s (fJ s p a b n i j):=gR h λk _=>by
 unfold yx;have hc:=tY h (gd s p a b k) (o5 h a b k) i;split
 ·exact ki h _ _ hc (bL h _ _)
 ·exact hc
theorem BW {a b:List Nat} (e:ao s a) (hb:ao s b) {n m:Nat} (f:m<n):co h (fJ s p a b n a.length 0) m=conv (co h a) (co h b) m:=by
 unfold fJ;rw[tH,if_pos f,tt h,Ef h _ (o5 h a b m),ph];have e1:∀k,dr (λk=>aS h (gd s p a b m k)) k=dr (λk=>if k<=m then co h a k* co h b (m-k)else 0) k:=λk=>iI λk _=>CQ h e hb m k;rw[e1];have e2:dr (λk=>co h a k* co h b (m-k)) (m+1)=dr (λk=>if k<=m then co h a k* co h b (m-k)else 0) (m+1):=iI λk i=>by rw[if_pos oO]
 rw[e2];rcases Nat.le_total a.length (m+1)with hl|hl
 ·refine(rK (λk d g=>?_) hl).symm;rw[ft h a k d,bR];simp
 ·refine rK (λk d g=>?_) hl;rw[if_neg oO]
end
theorem iT.M3 (w:World) (C S a bl n:Nat) (b:TypeId):iT w ((w.alloc (dV C S a bl)).alloc (.cells (madeCells #[Value.int .i64 0] n) b)) (gV C S a bl) (List.replicate n 0):=
 ⟨((Below.refl _ _).alloc (Nat.le_refl _) _).alloc oS _,(ak.new _ _ _ _ rfl).alloc _,bO.made _ _ _ _ oS⟩
def wT (w:World) (v:Value):Prop:=∀a n c,v= .slice (some a) n c->w.heap.size<=a.block
theorem wT.mk {w:World} {g a n c:Nat} (h:w.heap.size<=g):wT w (.slice (some ⟨g,a,none⟩) n c):=λb d f e=>by
 injection e with e1;injection e1 with e1;rw[<-e1];exact h
theorem wT.ne {w:World} {A:Option Addr} {n c b:Nat} (h:wT w (.slice A n c)) (hb:b<w.heap.size):∀a,A=some a->a.block≠b:=λa e=>by
 subst e;have:=h a n c rfl;omega
theorem sI (C S P g bl d:Nat) (a b:List Nat) (A B:Option Addr) (n m ad al:Nat) (w:World) (o:VF C S P) (H:ao S a) (T:ao S b) (hn:n=a.length) (D:m=b.length) (bz:n<=4097) (b1:m<=4097) (b2:1<=d) (b3:d<=8193)
 (K:dh w S P g bl) (L:RD w A (zl a)) (hb:RD w B (zl b)):
 Calls Tryz.prog 200 #[fs C S g bl,.slice A n ad,.slice B m al,.int .i64 d] w λe w'=>∃v,e= .returned v/\(aA w' v (zl (fJ S P a b d a.length 0))/\Below w.heap.size w w')/\wT w v:=by
 have b4:=run_make_row' (P:=Tryz.prog) 64 3 (.int .i64 0) 8 Tryz.underlying64 dg rfl .i64 .i64 d oO oO;have E:=Lib.hid o;have a7:=Lib.hid H;have a8:=Lib.hid T;have am:=Lib.hid L;have ap:=Lib.hid hb;have av:=Lib.hid K;have a0:=Lib.hid (Hz o a b d);have Y:Hid (∀i j,(fJ S P a b d i j).length=d):=λi j=>jD _ _ _ _ _ _ _;have bt:Hid (∀i j:Nat,i+j<d->(fJ S P a b d i j).set (i+j) (bN S P ((fJ S P a b d i j).getD (i+j) 0) (aG S P (a.getD i 0) (b.getD j 0)))=fJ S P a b d i (j+1)):=λi j a9=>KB o a b a9;have ac:Hid (∀i j,(j=m\/d<=i+j)->fJ S P a b d i j=fJ S P a b d (i+1) 0):=λi j a1=>Jr o a b H (by rw[<-D];exact a1);have bb:Hid (∀i j,ao S (fJ S P a b d i j)):=λi j=>tB o a b d i j;have F:=Lib.hid hn;have M:=Lib.hid D;clear o H T L hb K hn D;go_enter Tryz.func200,Tryz.ntmps200;go_wp2;go_loopw [17] (λi wr=>∃k:Nat,k<=n/\i= .int .i64 k/\Hid (iT w wr (gV C S g bl) (fJ S P a b d k 0))) (λi _=>n-(intOf i).toNat)
 case atStart=>exact⟨0,Nat.zero_le _,rfl,by rw[a0.out];exact iT.M3 w C S g bl d _⟩
 case round=>
  obtain⟨k,bv,rfl,t⟩:=hrel;by_cases bd:k<n
  ·obtain⟨bx,rfl,-,r⟩:=(am.out.below t.out.B) (by rw[aw,<-F.out];omega);have N:=r k (by rw[aw,<-F.out];exact bd);rw[cT]at N;have a2:Hid (a.getD k 0<S):=a7.out k;generalize U:a.getD k 0=x at*;have be:=Lib.hid U;clear U r;go_wp2;clear N;obtain⟨O,rfl⟩:∃O:World,O=wr:=⟨_,rfl⟩;go_loopw [12] (λj wr=>∃q:Nat,q<=m/\j= .int .i64 q/\Hid (iT w wr (gV C S g bl) (fJ S P a b d k q))) (λj _=>m-(intOf j).toNat)
   case atStart=>exact⟨0,Nat.zero_le _,rfl,t⟩
   case round=>
    obtain⟨q,hq,rfl,f⟩:=hrel;by_cases bq:q<m
    ·by_cases bs:k+q<d
     ·obtain⟨a3,rfl,Z,r⟩:=(ap.out.below f.out.B) (by rw[aw,<-M.out];omega);have G:=r q (by rw[aw,<-M.out];exact bq);rw[cT]at G;have a4:Hid (b.getD q 0<S):=a8.out q;have ab:Hid (_=_):=bt.out k q bs;rw[be.out]at ab;have a5:Hid ((fJ S P a b d k q).getD (k+q) 0<S):=bb.out k q _;have J:=f.out.O.2 (k+q) (by rw[Y.out];omega);generalize bf:b.getD q 0=y at*;generalize bi:(fJ S P a b d k q).getD (k+q) 0=u at*;have z:Hid (∀W,af wr W->(W.cell? ⟨w.heap.size,0,none⟩=some (.int .i64 C)/\W.cell? ⟨w.heap.size,1,none⟩=some (.int .i64 S)/\W.cell? ⟨w.heap.size,2,none⟩=some (.slice (some ⟨g,0,none⟩) (S-1) (S-1))/\W.cell? ⟨w.heap.size,3,none⟩=some (.slice (some ⟨bl,0,none⟩) S S))/\W.cell? ⟨w.heap.size+1,k+q,none⟩=some (.int .i64 (u:Int))/\W.frozen? ⟨w.heap.size+1,k+q,none⟩=false/\W.cell? (a3.add q)=some (.int .i64 (y:Int))):=by
       show∀W,_;intro W l;exact⟨dQ (f.out.X.below l),(l.cell f.out.O.1).trans J.1,(l.frozen f.out.O.1).trans J.2,(l.cell (by rw[aJ];exact Z)).trans G⟩
      clear bf bi r J G Z;have b5:(0:Int)<=(k:Int)+q:=oO;have b6:(k:Int)+q<(d:Int):=oO;have b7:((k:Int)+q).toNat=k+q:=oO;have bo:IntKind.i64.wrap ((k:Int)+q)=(k:Int)+q:=aF _ oO oO;go_wp2;refine bY (S:=af wr) 20 oK oK (ai (Below.refl _ _)) ?_;simp only[List.take_succ_cons,List.take_zero,List.drop_succ_cons,List.drop_zero]
      repeat refine kO z.out ?_
      refine kX (λW l=>k6 C S P g bl x y W E.out a2.out a4.out ((av.out.below f.out.B).below l)) ?_
      repeat refine kO z.out ?_
      refine kX (λW l=>pa C S P g bl u (aG S P x y) W E.out a5.out (bL E.out _ _)) ?_
      repeat refine kO z.out ?_
      refine dc ?_;intro a6 V;have X:=Lib.hid V;clear V;obtain⟨-,b8,b9,-⟩:=z.out a6 X.out;go_wp2;clear bo;exact⟨⟨q+1,by omega,by go_num,by rw[<-ab.out];exact(f.out.below X.out).set _ _⟩,by simp[intOf];omega⟩
     ·go_wp2;exact⟨⟨k+1,by omega,by go_num,by rw[<-ac.out k q (.inr oO)];exact f⟩,by simp[intOf];omega⟩
    ·obtain rfl:q=m:=oO;go_wp2;exact⟨⟨k+1,by omega,by go_num,by rw[<-ac.out k q (.inl rfl)];exact f⟩,by simp[intOf];omega⟩
  ·obtain rfl:k=n:=oO;go_wp2;go_ret;refine⟨_,rfl,⟨?_,t.out.B⟩,wT.mk oO⟩;have Q:=t.out.O.ints (c:=d) (Y.out _ _).symm (Nat.le_refl _) oM;rw[F.out]at Q;exact Q
theorem s5 (C S P f bl d:Nat) (a b:List Nat) (A B:Option Addr) (n m g i:Nat) (w:World) (k:VF C S P) (t:ao S a) (u:ao S b) (hn:n=a.length) (l:m=b.length) (x:n<=4097) (y:m<=4097) (z:1<=d) (D:d<=8193)
 (o:dh w S P f bl) (q:RD w A (zl a)) (hb:RD w B (zl b)):
 Calls Tryz.prog 200 #[fs C S f bl,.slice A n g,.slice B m i,.int .i64 d] w λe w'=>∃v,e= .returned v/\aA w' v (zl (fJ S P a b d a.length 0))/\Below w.heap.size w w':=
 (sI C S P f bl d a b A B n m g i w k t u hn l x y z D o q hb).mono λe w' ⟨v,r,j,_⟩=>⟨v,r,j.1,j.2⟩
end
end Go.Proofs.YtmnlkganmgcpbaaGreatDoor
