import Derived.Test.YtmnlkganmgcpbaaGreatDoorQk10
set_option maxRecDepth 100000
set_option maxHeartbeats 4000000
set_option linter.unusedVariables false
set_option linter.unusedSectionVars false
set_option linter.unusedSimpArgs false
namespace Go.Proofs.YtmnlkganmgcpbaaGreatDoor
section
open Go.RowKit
theorem CJ {S:Nat} {l:List Nat} (h:ao S l):gH (S:Int) (zl l)=true:=by
 refine yA λj a=>?_;rw[cT];have:=h j;omega
theorem Ee {S:Nat} {xs:List Int} (b:0<S) (h:gH (S:Int) xs=true):∃l,xs=zl l/\ao S l:=by
 refine⟨xs.map Int.toNat,?_,?_⟩
 ·unfold gH at h;rw[List.all_eq_true]at h;unfold zl;rw[List.map_map];refine(List.map_id xs).symm.trans (List.map_congr_left λx c=>?_);have:=h x c;simp at this;show x=((x.toNat:Nat):Int);omega
 ·intro i;by_cases a:i<xs.length
  ·unfold gH at h;rw[List.all_eq_true]at h;have:=h xs[i] (List.getElem_mem a);simp at this;simp[List.getD,a];omega
  ·simp[List.getD,a,b]
theorem Es {S:Nat} {l:List Nat} (h:ao S l) (hn:l.length<=4097) (a:dA l):iO (S:Int) (zl l)=true:=by
 rw[yd (by rw[aw];exact hn),CJ h];rcases a with rfl|a
 ·exact .inl rfl
 ·right;rw[aw,cT];omega
theorem Jl {S:Nat} {xs:List Int} (d:0<S) (h:iO (S:Int) xs=true):∃l,xs=zl l/\ao S l/\dA l/\l.length<=4097:=by
 have b:=h;unfold iO at b;simp only[Bool.and_eq_true,decide_eq_true_eq,Bool.or_eq_true,Bool.not_eq_true',decide_eq_false_iff_not]at b;obtain⟨⟨c,a⟩,e⟩:=b;obtain⟨l,rfl,hl⟩:=Ee d e;refine⟨l,rfl,hl,?_,by rw[aw]at c;exact c⟩;rw[aw,cT]at a;rcases a with a|a
 ·exact .inl (List.eq_nil_of_length_eq_zero a)
 ·exact .inr oO
def oV (c s p:Int) (xs:List Int):Bool:=bK c s p&&iO s xs
theorem dj.cells {w wr:World} {C S P a n c bl b:Nat} (d:VF C S P) (e:a=S-1) (h:dj w wr C S P a n c bl b):
 (wr.cell? ⟨w.heap.size,0,none⟩=some (.int .i64 C)/\wr.cell? ⟨w.heap.size,1,none⟩=some (.int .i64 S)/\wr.cell? ⟨w.heap.size,2,none⟩=some (.int .i64 P))/\
 (wr.cell? ⟨b,0,none⟩=some (.int .i64 C)/\wr.cell? ⟨b,1,none⟩=some (.int .i64 S)/\wr.cell? ⟨b,2,none⟩=some (.slice (some ⟨c,0,none⟩) a a)/\wr.cell? ⟨b,3,none⟩=some (.slice (some ⟨bl,0,none⟩) S S))/\
 (n<a->(∃u,wr.cell? ⟨c,n,none⟩=some u)/\wr.frozen? ⟨c,n,none⟩=false/\(∃u,wr.cell? ⟨bl,fpowN S P (ay S P) n,none⟩=some u)/\wr.frozen? ⟨bl,fpowN S P (ay S P) n,none⟩=false):=by
 refine⟨⟨?_,?_,?_⟩,⟨?_,?_,?_,?_⟩,λhn=>⟨?_,?_,?_,?_⟩⟩
 ·rw[cell_of_row _ _ _ _ _ _ h.F];rfl
 ·rw[cell_of_row _ _ _ _ _ _ h.F];rfl
 ·rw[cell_of_row _ _ _ _ _ _ h.F];rfl
 ·rw[cell_of_row _ _ _ _ _ _ h.A];rfl
 ·rw[cell_of_row _ _ _ _ _ _ h.A];rfl
 ·rw[cell_of_row _ _ _ _ _ _ h.A];rfl
 ·rw[cell_of_row _ _ _ _ _ _ h.A];rfl
 ·rw[cell_of_row _ _ _ _ _ _ h.E,fj];refine⟨_,Option.map_eq_some_iff.2 ⟨_,List.getElem?_eq_getElem (by unfold jC;simp;omega),rfl⟩⟩
 ·exact frozen_of_row _ _ _ _ _ h.E
 ·rw[cell_of_row _ _ _ _ _ _ h.L,fj];refine⟨_,Option.map_eq_some_iff.2 ⟨_,List.getElem?_eq_getElem (by unfold kP;simp;exact eC d n),rfl⟩⟩
 ·exact frozen_of_row _ _ _ _ _ h.L
theorem dh.setCell {W:World} {S P a bl:Nat} (h:dh W S P a bl) (p:Addr) (u:Value) (b:a≠p.block) (c:bl≠p.block):dh (W.setCell p u) S P a bl:=by
 refine⟨by simpa using h.1,by simpa using h.2.1,λi d=>?_,λx f g=>?_⟩
 ·rw[World.cell?_setCell_other W p _ u (λe=>b (by rw[e]))];exact h.2.2.1 i d
 ·rw[World.cell?_setCell_other W p _ u (λe=>c (by rw[e]))];exact h.2.2.2 x f g
theorem cM (W:World) (a b c:Obj):(((W.alloc a).alloc b).alloc c).heap[W.heap.size]?=some a/\(((W.alloc a).alloc b).alloc c).heap[W.heap.size+1]?=some b/\(((W.alloc a).alloc b).alloc c).heap[W.heap.size+1+1]?=some c:=by
 refine⟨?_,?_,?_⟩
 ·exact(Below.heap_alloc _ _ _ oT).trans ((Below.heap_alloc _ _ _ oS).trans (heap_alloc_new W a))
 ·have h:=heap_alloc_new (W.alloc a) b;refine(Below.heap_alloc _ _ _ oS).trans ?_;simpa using h
 ·have h:=heap_alloc_new ((W.alloc a).alloc b) c;simpa using h
theorem dj.drew {w wr:World} {C S P a n b bl c:Nat} (h:dj w wr C S P a n b bl c):dj w wr.drew C S P a n b bl c:=
 ⟨ai h.B,h.he,h.hl,h.hs,h.n1,h.n2,h.n3,h.F,h.R,h.E,h.L,h.A⟩
theorem dj.res {w wr:World} {C S P a n b bl c:Nat} (h:dj w wr C S P a n b bl c):
 wr.cell? ⟨w.heap.size+1,0,none⟩=some (.int .i64 0)/\wr.cell? ⟨w.heap.size+1,1,none⟩=some (.int .i64 0)/\wr.cell? ⟨w.heap.size+1,2,none⟩=some (.slice none 0 0)/\wr.cell? ⟨w.heap.size+1,3,none⟩=some (.slice none 0 0)/\∀k,wr.frozen? ⟨w.heap.size+1,k,none⟩=false:=by
 refine⟨?_,?_,?_,?_,λk=>frozen_of_row _ _ _ _ _ h.R⟩<;>(rw[cell_of_row _ _ _ _ _ _ h.R];rfl)
theorem Ch (C S P:Nat) (w:World) (y:VF C S P):
 Calls Tryz.prog 155 #[cu C S P] w λe w'=>∃ad bl,e= .returned (fs C S ad bl)/\dh w' S P ad bl/\Below w.heap.size w w':=by
 have a6:=y.le;have a7:=y.aP;have z:(P:Int)<=9223372036854775807:=y.tU;have hg:=kG y;have RG:Hid (vW C S P=(((ay S P:Nat):Int),0)):=by
  show _=_;unfold vW;rw[kt y,if_pos rfl];simp
 obtain⟨b,ac⟩:∃b,b=S-1:=⟨S-1,rfl⟩;have a8:1<=b:=oO;have a9:=run_make_row' (P:=Tryz.prog) 64 3 (.int .i64 0) 8 Tryz.underlying64 dg rfl .i64 .i64 b oO oO;have bb:=run_make_row' (P:=Tryz.prog) 64 3 (.int .i64 0) 8 Tryz.underlying64 dg rfl .i64 .i64 S oO oO;have bd:IntKind.i64.wrap ((S:Int)-1)=(b:Int):=by rw[aF _ oO oO];omega
 have bf:((S:Int)-1)=(b:Int):=oO;have c:=Lib.hid y;have d:=Lib.hid ac;have B:Hid (dC (jC S P 0)=madeCells #[Value.int .i64 0] b):=by show _=_;rw[jP,xB y,ac]
 have D:Hid (dC (kP S P 0)=madeCells #[Value.int .i64 0] S):=by show _=_;rw[jP,zH y]
 clear ac y;have a3:Hid (∀a:World,Below ((w.alloc (ql C S P)).alloc BV).heap.size ((w.alloc (ql C S P)).alloc BV) a->w.heap.size+1<a.heap.size/\a.heap[w.heap.size]?=some (ql C S P)/\a.heap[w.heap.size+1]?=some BV/\Below w.heap.size w a):=by
  intro a A;have hs:=A.size;simp at hs;refine⟨by omega,(A.block _ oT).trans ?_,(A.block _ oS).trans ?_,((Below.refl _ _).alloc (Nat.le_refl _) _|>.alloc oS _).trans (A.mono oT)⟩
  ·exact(Below.heap_alloc _ _ _ oS).trans (heap_alloc_new w _)
  ·have:=heap_alloc_new (w.alloc (ql C S P)) BV;simpa using this
 go_enter Tryz.func155,Tryz.ntmps155
 go_wp2_with(
  go_at_call 158;refine(sB C S P _ oO z).mono ?_;rintro e a ⟨rfl,A⟩;rw[RG.out]
  have j:=Lib.hid (a3.out a A);have be:w.heap.size+1<a.heap.size:=j.out.1;have ap:w.heap.size<a.heap.size:=oO;have al:a.cell? ⟨w.heap.size,0,none⟩=some (.int .i64 C):=(cell_of_row _ _ _ _ _ _ j.out.2.1).trans rfl;have am:a.cell? ⟨w.heap.size,1,none⟩=some (.int .i64 S):=(cell_of_row _ _ _ _ _ _ j.out.2.1).trans rfl;have av:∀g,(a.alloc g).cell? ⟨w.heap.size,0,none⟩=some (.int .i64 C):=λg=>(World.cell?_alloc_lt _ _ _ (by exact ap)).trans al;have a0:∀g m,((a.alloc g).alloc m).cell? ⟨w.heap.size,0,none⟩=some (.int .i64 C):=λg m=>(World.cell?_alloc_lt _ _ _ oT).trans (av g);have a4:∀g m ab,(((a.alloc g).alloc m).alloc ab).cell? ⟨w.heap.size,0,none⟩=some (.int .i64 C):=λg m ab=>(World.cell?_alloc_lt _ _ _ oT).trans (a0 g m);have a1:∀g,(a.alloc g).cell? ⟨w.heap.size,1,none⟩=some (.int .i64 S):=λg=>(World.cell?_alloc_lt _ _ _ (by exact ap)).trans am;have a2:∀g m,((a.alloc g).alloc m).cell? ⟨w.heap.size,1,none⟩=some (.int .i64 S):=λg m=>(World.cell?_alloc_lt _ _ _ oT).trans (a1 g);have a5:∀g m ab,(((a.alloc g).alloc m).alloc ab).cell? ⟨w.heap.size,1,none⟩=some (.int .i64 S):=λg m ab=>(World.cell?_alloc_lt _ _ _ oT).trans (a2 g m)
  clear A)
 go_region
 all_goals clear al am av a0 a4 a1 a2 a5
 all_goals go_wp2
 ·go_loopw [6,28] (λx i wr=>∃n:Nat,n<=b/\i= .int .i64 (n:Nat)/\x= .int .i64 ((fpowN S P (ay S P) n:Nat):Int)/\Hid (dj w wr C S P b n (a.heap.size) (a.heap.size+1) (a.heap.size+1+1))) (λ_ i _=>b-(intOf i).toNat)
  case atStart=>
   refine⟨0,Nat.zero_le _,rfl,rfl,?_⟩;refine⟨ai (ah (ah (ah j.out.2.2.2 _) _) _),by omega,by omega,by omega,by omega,by omega,by omega,?_,?_,?_,?_,?_⟩
   ·exact(Below.heap_alloc _ _ _ oT).trans ((Below.heap_alloc _ _ _ oT).trans ((Below.heap_alloc _ _ _ oO).trans j.out.2.1))
   ·exact(Below.heap_alloc _ _ _ oT).trans ((Below.heap_alloc _ _ _ oT).trans ((Below.heap_alloc _ _ _ oO).trans j.out.2.2.1))
   ·rw[B.out];exact(cM a _ _ _).1
   ·rw[D.out];exact(cM a _ _ _).2.1
   ·exact(cM a _ _ _).2.2
  case round=>
   obtain⟨n,hn,rfl,rfl,hid⟩:=hrel;obtain⟨⟨E,F,G⟩,⟨H,J,K,L⟩,f⟩:=dj.cells c.out d.out hid.out;by_cases k:n<b
   ·obtain⟨⟨u1,M⟩,N,⟨u2,s3⟩,O⟩:=f k;have q:fpowN S P (ay S P) n<S:=eC c.out n;have r:=Lib.hid (dj.store c.out d.out hid.out k);have o:Hid (mulR C S P (fpowN S P (ay S P) n:Nat) (ay S P:Nat)=(((fpowN S P (ay S P) (n+1):Nat):Int),0)):=by
     show _=_;unfold mulR;rw[gB c.out q hg];simp;rfl
    generalize fpowN S P (ay S P) n=X at*;generalize l:fpowN S P (ay S P) (n+1)=Y at*;have p:=Lib.hid l;clear l;clear f;go_wp2;go_region
    all_goals go_wp2_with(go_at_call 159;refine(iA C S P X (ay S P) _ oO z).mono ?_;rintro e Q ⟨rfl,s⟩;rw[o.out])
    all_goals go_roundw
    all_goals try(case measure=>simp[intOf];omega)
    all_goals refine⟨n+1,by omega,by go_num,by rw[p.out],?_⟩
    all_goals exact dj.below (dj.drew r.out) s
   ·obtain rfl:n=b:=oO;obtain⟨T,U,V,W,Z⟩:=dj.res hid.out;have t:=Lib.hid (dj.qO c.out d.out hid.out);clear f;go_wp2;refine bodyPost_ret (v:= .agg #[.int .i64 C,.int .i64 S,.slice (some ⟨(a.heap.size),0,none⟩) n n,.slice (some ⟨(a.heap.size+1),0,none⟩) S S]) ?_ rfl ⟨(a.heap.size),(a.heap.size+1),?_,?_,?_⟩
    ·have u:Tryz.f155.results=#[.cell 2 200]:=oK;simp only[results,u];go_simp
    ·rw[d.out]
    ·exact(((t.out.setCell _ _ oT oT).setCell _ _ oT oT).setCell _ _ oT oT).setCell _ _ oT oT
    ·exact(((hid.out.B.setCell oS _).setCell oS _).setCell oS _).setCell oS _
 ·go_loopw [6,28] (λx i wr=>∃n:Nat,n<=b/\i= .int .i64 (n:Nat)/\x= .int .i64 ((fpowN S P (ay S P) n:Nat):Int)/\Hid (dj w wr C S P b n (a.heap.size) (a.heap.size+1+1) (a.heap.size+1))) (λ_ i _=>b-(intOf i).toNat)
  case atStart=>
   refine⟨0,Nat.zero_le _,rfl,rfl,?_⟩;refine⟨ai (ah (ah (ah j.out.2.2.2 _) _) _),by omega,by omega,by omega,by omega,by omega,by omega,?_,?_,?_,?_,?_⟩
   ·exact(Below.heap_alloc _ _ _ oT).trans ((Below.heap_alloc _ _ _ oT).trans ((Below.heap_alloc _ _ _ oO).trans j.out.2.1))
   ·exact(Below.heap_alloc _ _ _ oT).trans ((Below.heap_alloc _ _ _ oT).trans ((Below.heap_alloc _ _ _ oO).trans j.out.2.2.1))
   ·rw[B.out];exact(cM a _ _ _).1
   ·rw[D.out];exact(cM a _ _ _).2.2
   ·exact(cM a _ _ _).2.1
  case round=>
   obtain⟨n,hn,rfl,rfl,hid⟩:=hrel;obtain⟨⟨E,F,G⟩,⟨H,J,K,L⟩,f⟩:=dj.cells c.out d.out hid.out;by_cases k:n<b
   ·obtain⟨⟨u1,M⟩,N,⟨u2,s3⟩,O⟩:=f k;have q:fpowN S P (ay S P) n<S:=eC c.out n;have r:=Lib.hid (dj.store c.out d.out hid.out k);have o:Hid (mulR C S P (fpowN S P (ay S P) n:Nat) (ay S P:Nat)=(((fpowN S P (ay S P) (n+1):Nat):Int),0)):=by
     show _=_;unfold mulR;rw[gB c.out q hg];simp;rfl
    generalize fpowN S P (ay S P) n=X at*;generalize l:fpowN S P (ay S P) (n+1)=Y at*;have p:=Lib.hid l;clear l;clear f;go_wp2;go_region
    all_goals go_wp2_with(go_at_call 159;refine(iA C S P X (ay S P) _ oO z).mono ?_;rintro e Q ⟨rfl,s⟩;rw[o.out])
    all_goals go_roundw
    all_goals try(case measure=>simp[intOf];omega)
    all_goals refine⟨n+1,by omega,by go_num,by rw[p.out],?_⟩
    all_goals exact dj.below (dj.drew r.out) s
   ·obtain rfl:n=b:=oO;obtain⟨T,U,V,W,Z⟩:=dj.res hid.out;have t:=Lib.hid (dj.qO c.out d.out hid.out);clear f;go_wp2;refine bodyPost_ret (v:= .agg #[.int .i64 C,.int .i64 S,.slice (some ⟨(a.heap.size),0,none⟩) n n,.slice (some ⟨(a.heap.size+1+1),0,none⟩) S S]) ?_ rfl ⟨(a.heap.size),(a.heap.size+1+1),?_,?_,?_⟩
    ·have u:Tryz.f155.results=#[.cell 2 200]:=oK;simp only[results,u];go_simp
    ·rw[d.out]
    ·exact(((t.out.setCell _ _ oT oT).setCell _ _ oT oT).setCell _ _ oT oT).setCell _ _ oT oT
    ·exact(((hid.out.B.setCell oS _).setCell oS _).setCell oS _).setCell oS _
 ·go_loopw [6,28] (λx i wr=>∃n:Nat,n<=b/\i= .int .i64 (n:Nat)/\x= .int .i64 ((fpowN S P (ay S P) n:Nat):Int)/\Hid (dj w wr C S P b n (a.heap.size+1) (a.heap.size) (a.heap.size+1+1))) (λ_ i _=>b-(intOf i).toNat)
  case atStart=>
   refine⟨0,Nat.zero_le _,rfl,rfl,?_⟩;refine⟨ai (ah (ah (ah j.out.2.2.2 _) _) _),by omega,by omega,by omega,by omega,by omega,by omega,?_,?_,?_,?_,?_⟩
   ·exact(Below.heap_alloc _ _ _ oT).trans ((Below.heap_alloc _ _ _ oT).trans ((Below.heap_alloc _ _ _ oO).trans j.out.2.1))
   ·exact(Below.heap_alloc _ _ _ oT).trans ((Below.heap_alloc _ _ _ oT).trans ((Below.heap_alloc _ _ _ oO).trans j.out.2.2.1))
   ·rw[B.out];exact(cM a _ _ _).2.1
   ·rw[D.out];exact(cM a _ _ _).1
   ·exact(cM a _ _ _).2.2
  case round=>
   obtain⟨n,hn,rfl,rfl,hid⟩:=hrel;obtain⟨⟨E,F,G⟩,⟨H,J,K,L⟩,f⟩:=dj.cells c.out d.out hid.out;by_cases k:n<b
   ·obtain⟨⟨u1,M⟩,N,⟨u2,s3⟩,O⟩:=f k;have q:fpowN S P (ay S P) n<S:=eC c.out n;have r:=Lib.hid (dj.store c.out d.out hid.out k);have o:Hid (mulR C S P (fpowN S P (ay S P) n:Nat) (ay S P:Nat)=(((fpowN S P (ay S P) (n+1):Nat):Int),0)):=by
     show _=_;unfold mulR;rw[gB c.out q hg];simp;rfl
    generalize fpowN S P (ay S P) n=X at*;generalize l:fpowN S P (ay S P) (n+1)=Y at*;have p:=Lib.hid l;clear l;clear f;go_wp2;go_region
    all_goals go_wp2_with(go_at_call 159;refine(iA C S P X (ay S P) _ oO z).mono ?_;rintro e Q ⟨rfl,s⟩;rw[o.out])
    all_goals go_roundw
    all_goals try(case measure=>simp[intOf];omega)
    all_goals refine⟨n+1,by omega,by go_num,by rw[p.out],?_⟩
    all_goals exact dj.below (dj.drew r.out) s
   ·obtain rfl:n=b:=oO;obtain⟨T,U,V,W,Z⟩:=dj.res hid.out;have t:=Lib.hid (dj.qO c.out d.out hid.out);clear f;go_wp2;refine bodyPost_ret (v:= .agg #[.int .i64 C,.int .i64 S,.slice (some ⟨(a.heap.size+1),0,none⟩) n n,.slice (some ⟨(a.heap.size),0,none⟩) S S]) ?_ rfl ⟨(a.heap.size+1),(a.heap.size),?_,?_,?_⟩
    ·have u:Tryz.f155.results=#[.cell 2 200]:=oK;simp only[results,u];go_simp
    ·rw[d.out]
    ·exact(((t.out.setCell _ _ oT oT).setCell _ _ oT oT).setCell _ _ oT oT).setCell _ _ oT oT
    ·exact(((hid.out.B.setCell oS _).setCell oS _).setCell oS _).setCell oS _
 ·go_loopw [6,28] (λx i wr=>∃n:Nat,n<=b/\i= .int .i64 (n:Nat)/\x= .int .i64 ((fpowN S P (ay S P) n:Nat):Int)/\Hid (dj w wr C S P b n (a.heap.size+1+1) (a.heap.size) (a.heap.size+1))) (λ_ i _=>b-(intOf i).toNat)
  case atStart=>
   refine⟨0,Nat.zero_le _,rfl,rfl,?_⟩;refine⟨ai (ah (ah (ah j.out.2.2.2 _) _) _),by omega,by omega,by omega,by omega,by omega,by omega,?_,?_,?_,?_,?_⟩
   ·exact(Below.heap_alloc _ _ _ oT).trans ((Below.heap_alloc _ _ _ oT).trans ((Below.heap_alloc _ _ _ oO).trans j.out.2.1))
   ·exact(Below.heap_alloc _ _ _ oT).trans ((Below.heap_alloc _ _ _ oT).trans ((Below.heap_alloc _ _ _ oO).trans j.out.2.2.1))
   ·rw[B.out];exact(cM a _ _ _).2.2
   ·rw[D.out];exact(cM a _ _ _).1
   ·exact(cM a _ _ _).2.1
  case round=>
   obtain⟨n,hn,rfl,rfl,hid⟩:=hrel;obtain⟨⟨E,F,G⟩,⟨H,J,K,L⟩,f⟩:=dj.cells c.out d.out hid.out;by_cases k:n<b
   ·obtain⟨⟨u1,M⟩,N,⟨u2,s3⟩,O⟩:=f k;have q:fpowN S P (ay S P) n<S:=eC c.out n;have r:=Lib.hid (dj.store c.out d.out hid.out k);have o:Hid (mulR C S P (fpowN S P (ay S P) n:Nat) (ay S P:Nat)=(((fpowN S P (ay S P) (n+1):Nat):Int),0)):=by
     show _=_;unfold mulR;rw[gB c.out q hg];simp;rfl
    generalize fpowN S P (ay S P) n=X at*;generalize l:fpowN S P (ay S P) (n+1)=Y at*;have p:=Lib.hid l;clear l;clear f;go_wp2;go_region
    all_goals go_wp2_with(go_at_call 159;refine(iA C S P X (ay S P) _ oO z).mono ?_;rintro e Q ⟨rfl,s⟩;rw[o.out])
    all_goals go_roundw
    all_goals try(case measure=>simp[intOf];omega)
    all_goals refine⟨n+1,by omega,by go_num,by rw[p.out],?_⟩
    all_goals exact dj.below (dj.drew r.out) s
   ·obtain rfl:n=b:=oO;obtain⟨T,U,V,W,Z⟩:=dj.res hid.out;have t:=Lib.hid (dj.qO c.out d.out hid.out);clear f;go_wp2;refine bodyPost_ret (v:= .agg #[.int .i64 C,.int .i64 S,.slice (some ⟨(a.heap.size+1+1),0,none⟩) n n,.slice (some ⟨(a.heap.size),0,none⟩) S S]) ?_ rfl ⟨(a.heap.size+1+1),(a.heap.size),?_,?_,?_⟩
    ·have u:Tryz.f155.results=#[.cell 2 200]:=oK;simp only[results,u];go_simp
    ·rw[d.out]
    ·exact(((t.out.setCell _ _ oT oT).setCell _ _ oT oT).setCell _ _ oT oT).setCell _ _ oT oT
    ·exact(((hid.out.B.setCell oS _).setCell oS _).setCell oS _).setCell oS _
 ·go_loopw [6,28] (λx i wr=>∃n:Nat,n<=b/\i= .int .i64 (n:Nat)/\x= .int .i64 ((fpowN S P (ay S P) n:Nat):Int)/\Hid (dj w wr C S P b n (a.heap.size+1) (a.heap.size+1+1) (a.heap.size))) (λ_ i _=>b-(intOf i).toNat)
  case atStart=>
   refine⟨0,Nat.zero_le _,rfl,rfl,?_⟩;refine⟨ai (ah (ah (ah j.out.2.2.2 _) _) _),by omega,by omega,by omega,by omega,by omega,by omega,?_,?_,?_,?_,?_⟩
   ·exact(Below.heap_alloc _ _ _ oT).trans ((Below.heap_alloc _ _ _ oT).trans ((Below.heap_alloc _ _ _ oO).trans j.out.2.1))
   ·exact(Below.heap_alloc _ _ _ oT).trans ((Below.heap_alloc _ _ _ oT).trans ((Below.heap_alloc _ _ _ oO).trans j.out.2.2.1))
   ·rw[B.out];exact(cM a _ _ _).2.1
   ·rw[D.out];exact(cM a _ _ _).2.2
   ·exact(cM a _ _ _).1
  case round=>
   obtain⟨n,hn,rfl,rfl,hid⟩:=hrel;obtain⟨⟨E,F,G⟩,⟨H,J,K,L⟩,f⟩:=dj.cells c.out d.out hid.out;by_cases k:n<b
   ·obtain⟨⟨u1,M⟩,N,⟨u2,s3⟩,O⟩:=f k;have q:fpowN S P (ay S P) n<S:=eC c.out n;have r:=Lib.hid (dj.store c.out d.out hid.out k);have o:Hid (mulR C S P (fpowN S P (ay S P) n:Nat) (ay S P:Nat)=(((fpowN S P (ay S P) (n+1):Nat):Int),0)):=by
     show _=_;unfold mulR;rw[gB c.out q hg];simp;rfl
    generalize fpowN S P (ay S P) n=X at*;generalize l:fpowN S P (ay S P) (n+1)=Y at*;have p:=Lib.hid l;clear l;clear f;go_wp2;go_region
    all_goals go_wp2_with(go_at_call 159;refine(iA C S P X (ay S P) _ oO z).mono ?_;rintro e Q ⟨rfl,s⟩;rw[o.out])
    all_goals go_roundw
    all_goals try(case measure=>simp[intOf];omega)
    all_goals refine⟨n+1,by omega,by go_num,by rw[p.out],?_⟩
    all_goals exact dj.below (dj.drew r.out) s
   ·obtain rfl:n=b:=oO;obtain⟨T,U,V,W,Z⟩:=dj.res hid.out;have t:=Lib.hid (dj.qO c.out d.out hid.out);clear f;go_wp2;refine bodyPost_ret (v:= .agg #[.int .i64 C,.int .i64 S,.slice (some ⟨(a.heap.size+1),0,none⟩) n n,.slice (some ⟨(a.heap.size+1+1),0,none⟩) S S]) ?_ rfl ⟨(a.heap.size+1),(a.heap.size+1+1),?_,?_,?_⟩
    ·have u:Tryz.f155.results=#[.cell 2 200]:=oK;simp only[results,u];go_simp
    ·rw[d.out]
    ·exact(((t.out.setCell _ _ oT oT).setCell _ _ oT oT).setCell _ _ oT oT).setCell _ _ oT oT
    ·exact(((hid.out.B.setCell oS _).setCell oS _).setCell oS _).setCell oS _
 ·go_loopw [6,28] (λx i wr=>∃n:Nat,n<=b/\i= .int .i64 (n:Nat)/\x= .int .i64 ((fpowN S P (ay S P) n:Nat):Int)/\Hid (dj w wr C S P b n (a.heap.size+1+1) (a.heap.size+1) (a.heap.size))) (λ_ i _=>b-(intOf i).toNat)
  case atStart=>
   refine⟨0,Nat.zero_le _,rfl,rfl,?_⟩;refine⟨ai (ah (ah (ah j.out.2.2.2 _) _) _),by omega,by omega,by omega,by omega,by omega,by omega,?_,?_,?_,?_,?_⟩
   ·exact(Below.heap_alloc _ _ _ oT).trans ((Below.heap_alloc _ _ _ oT).trans ((Below.heap_alloc _ _ _ oO).trans j.out.2.1))
   ·exact(Below.heap_alloc _ _ _ oT).trans ((Below.heap_alloc _ _ _ oT).trans ((Below.heap_alloc _ _ _ oO).trans j.out.2.2.1))
   ·rw[B.out];exact(cM a _ _ _).2.2
   ·rw[D.out];exact(cM a _ _ _).2.1
   ·exact(cM a _ _ _).1
  case round=>
   obtain⟨n,hn,rfl,rfl,hid⟩:=hrel;obtain⟨⟨E,F,G⟩,⟨H,J,K,L⟩,f⟩:=dj.cells c.out d.out hid.out;by_cases k:n<b
   ·obtain⟨⟨u1,M⟩,N,⟨u2,s3⟩,O⟩:=f k;have q:fpowN S P (ay S P) n<S:=eC c.out n;have r:=Lib.hid (dj.store c.out d.out hid.out k);have o:Hid (mulR C S P (fpowN S P (ay S P) n:Nat) (ay S P:Nat)=(((fpowN S P (ay S P) (n+1):Nat):Int),0)):=by
     show _=_;unfold mulR;rw[gB c.out q hg];simp;rfl
    generalize fpowN S P (ay S P) n=X at*;generalize l:fpowN S P (ay S P) (n+1)=Y at*;have p:=Lib.hid l;clear l;clear f;go_wp2;go_region
    all_goals go_wp2_with(go_at_call 159;refine(iA C S P X (ay S P) _ oO z).mono ?_;rintro e Q ⟨rfl,s⟩;rw[o.out])
    all_goals go_roundw
    all_goals try(case measure=>simp[intOf];omega)
    all_goals refine⟨n+1,by omega,by go_num,by rw[p.out],?_⟩
    all_goals exact dj.below (dj.drew r.out) s
   ·obtain rfl:n=b:=oO;obtain⟨T,U,V,W,Z⟩:=dj.res hid.out;have t:=Lib.hid (dj.qO c.out d.out hid.out);clear f;go_wp2;refine bodyPost_ret (v:= .agg #[.int .i64 C,.int .i64 S,.slice (some ⟨(a.heap.size+1+1),0,none⟩) n n,.slice (some ⟨(a.heap.size+1),0,none⟩) S S]) ?_ rfl ⟨(a.heap.size+1+1),(a.heap.size+1),?_,?_,?_⟩
    ·have u:Tryz.f155.results=#[.cell 2 200]:=oK;simp only[results,u];go_simp
    ·rw[d.out]
    ·exact(((t.out.setCell _ _ oT oT).setCell _ _ oT oT).setCell _ _ oT oT).setCell _ _ oT oT
    ·exact(((hid.out.B.setCell oS _).setCell oS _).setCell oS _).setCell oS _
def kY (w:World) (L:List Int×Int) (e:Ending) (w':World):Prop:=∃v,e= .returned (.tuple #[v,.int .i64 L.2])/\aA w' v L.1/\Below w.heap.size w w'
theorem kY.mk {w w':World} {R:List Int×Int} {v:Value} {L:List Int} {err:Int} (h:R=(L,err)) (a:aA w' v L) (hb:Below w.heap.size w w'):kY w R (.returned (.tuple #[v,.int .i64 err])) w':=by
 subst h;exact⟨v,rfl,a,hb⟩
abbrev nl (xs:List Int):List Nat:=xs.map Int.toNat
theorem rU (l:List Nat):nl (zl l)=l:=by
 unfold nl zl;rw[List.map_map];exact(List.map_congr_left λx _=>(rfl:(Int.toNat∘λn:Nat=>(n:Int)) x=x)).trans (List.map_id l)
theorem DY {c s p:Int} {xs:List Int} (h:oV c s p xs=true):∃(C S P:Nat) (l:List Nat),c=C/\s=S/\p=P/\xs=zl l/\VF C S P/\ao S l/\dA l/\l.length<=4097:=by
 unfold oV at h;rw[Bool.and_eq_true]at h;obtain⟨C,S,P,rfl,rfl,rfl,a⟩:=qB h.1;obtain⟨l,rfl,b,d,e⟩:=Jl (by have:=a.aP;omega) h.2;exact⟨C,S,P,l,rfl,rfl,rfl,rfl,a,b,d,e⟩
theorem LD (c s p:Int) (xs ys:List Int):(bK c s p&&[(⟨none,0,0,xs⟩:Sl),⟨none,0,0,ys⟩].all λq=>iO s q.xs)=(oV c s p xs&&oV c s p ys):=by
 unfold oV;simp only[List.all_cons,List.all_nil];cases bK c s p<;>simp
theorem yl (c s p:Int) (A B:Option Addr) (n a m d:Nat) (xs ys:List Int) (b:Nat) (w:World) (f:TypeId) (g:p<=9223372036854775807) (hb:b=w.heap.size)
 (hq:(⟨A,n,a,xs⟩:Sl).R w) (i:(⟨B,m,d,ys⟩:Sl).R w):
 Calls Tryz.prog 154 #[cu c s p,.slice (some ⟨b,0,none⟩) 2 2] (w.alloc (.cells #[.slice A n a,.slice B m d] f)) λe w'=>e= .returned (.bool (oV c s p xs&&oV c s p ys))/\Below w.heap.size w w':=
 (wX c s p (some ⟨b,0,none⟩) 2 2 [⟨A,n,a,xs⟩,⟨B,m,d,ys⟩] _ rfl oO g (so.two (q:=⟨A,n,a,xs⟩) (r:=⟨B,m,d,ys⟩) f b hb hq i)).mono λe w' ⟨j,k⟩=>⟨j.trans (bM (LD c s p xs ys)),ae ((Below.refl _ _).alloc (Nat.le_refl _) _) k⟩
theorem ux (c s p:Int) (w:World) (a:p<=9223372036854775807):
 Calls Tryz.prog 154 #[cu c s p,.slice none 0 0] w λe w'=>e= .returned (.bool (bK c s p))/\Below w.heap.size w w':=
 (wX c s p none 0 0 [] w rfl oO a (so.dI _ _)).mono λe w' ⟨b,d⟩=>⟨b.trans (bM oS),d⟩
end
section
open Fl
section
variable {K : Type} [Fl K]
def cr (a:Nat->K):Nat->K:=λn=>a (n+1)
def conv:(Nat->K)->(Nat->K)->Nat->K
 |a,b,0=>a 0* b 0
 |a,b,n+1=>a 0* b (n+1)+conv (cr a) b n
theorem dt (a b:Nat->K):conv a b 0=a 0* b 0:=rfl
theorem bW (a b:Nat->K) (n:Nat):conv a b (n+1)=a 0* b (n+1)+conv (cr a) b n:=rfl
theorem eR {a a' b b':Nat->K} {n:Nat} (c:∀k,k<=n->a k=a' k) (hb:∀k,k<=n->b k=b' k):conv a b n=conv a' b' n:=by
 induction n generalizing a a' with
 |zero=>rw[dt,dt,c 0 (Nat.le_refl _),hb 0 (Nat.le_refl _)]
 |succ n d=>
  rw[bW,bW,c 0 oO,hb (n+1) oO,d (a:=cr a) (a':=cr a') (λk e=>c (k+1) oO) (λk e=>hb k oO)]
theorem fK {a b:Nat->K} {n:Nat} (c:∀k,a k=0):conv a b n=0:=by
 induction n generalizing a with
 |zero=>rw[dt,c,bR]
 |succ n d=>rw[bW,c,bR,d (a:=cr a) (λk=>c (k+1)),cn]
theorem Lv (a b:Nat->K) (n:Nat):conv a b (n+1)=conv a (cr b) n+a (n+1)* b 0:=by
 induction n generalizing a with
 |zero=>rfl
 |succ n c=>
  rw[bW,c,bW a (cr b)];show a 0* b (n+1+1)+(conv (cr a) (cr b) n+a (n+1+1)* b 0)=a 0* b (n+1+1)+conv (cr a) (cr b) n+a (n+1+1)* b 0
  rw[iE]
theorem js (a b:Nat->K) (n:Nat):conv a b n=conv b a n:=by
 induction n generalizing a with
 |zero=>rw[dt,dt,bX]
 |succ n c=>rw[bW,Lv,c (cr a),eU,bX]
theorem iB (a b c:Nat->K) (n:Nat):conv (λk=>a k+b k) c n=conv a c n+conv b c n:=by
 induction n generalizing a b with
 |zero=>rw[dt,dt,dt,iU]
 |succ n d=>
  rw[bW,bW,bW];rw[show conv (cr λk=>a k+b k) c n=conv (cr a) c n+conv (cr b) c n from d (cr a) (cr b),iU]
  ac_rfl
theorem qE (r:K) (a c:Nat->K) (n:Nat):conv (λk=>r* a k) c n=r* conv a c n:=by
 induction n generalizing a with
 |zero=>rw[dt,dt,cX]
 |succ n b=>
  rw[bW,bW,show conv (cr λk=>r* a k) c n=r* conv (cr a) c n from b (cr a),gY,cX]
theorem qA (a b c:Nat->K) (n:Nat):conv a (λk=>b k+c k) n=conv a b n+conv a c n:=by
 rw[js,iB,js b,js c]
theorem Ax (a c:Nat->K) (n:Nat):conv (λk=>-a k) c n=-conv a c n:=by
 apply fu (a:=conv a c n);rw[<-iB,eE];exact fK λk=>eE _
theorem Al (a b c:Nat->K) (n:Nat):conv (λk=>a k-b k) c n=conv a c n-conv b c n:=by
 rw[show conv (λk=>a k-b k) c n=conv (λk=>a k+-b k) c n from rfl,iB a (λk=>-b k),Ax];rfl
theorem lS (a b c:Nat->K) (n:Nat):conv (conv a b) c n=conv a (conv b c) n:=by
 induction n generalizing a with
 |zero=>rw[dt,dt,dt,dt,cX]
 |succ n d=>
  have e:conv (cr (conv a b)) c n=a 0* conv (cr b) c n+conv (cr a) (conv b c) n:=by
   rw[<-d,<-qE (a 0) (cr b),<-iB];exact eR (λk _=>by show conv a b (k+1)=_;rw[bW];rfl) (λ_ _=>rfl)
  rw[bW,e,bW a (conv b c),dt,bW b c,gY,cX,iE]
def iM (r:K):Nat->K:=λn=>if n=0 then r else 0
theorem mK (r:K) (b:Nat->K) (n:Nat):conv (iM r) b n=r* b n:=by
 cases n with
 |zero=>rfl
 |succ n=>
  rw[bW,fK (a:=cr (iM r)) (λk=>rfl),aU];rfl
def cK (d:Nat) (a:Nat->K):Prop:=∀i,d<=i->a i=0
theorem cK.mono {d e:Nat} {a:Nat->K} (h:cK d a) (c:d<=e):cK e a:=λi b=>h i oO
theorem cK.tl {d:Nat} {a:Nat->K} (h:cK (d+1) a):cK d (cr a):=λi b=>h (i+1) oO
theorem cK.all {a:Nat->K} (h:cK 0 a) (k:Nat):a k=0:=h k (Nat.zero_le _)
theorem cK.conv {a b:Nat->K} {d e:Nat} (c:cK d a) (hb:cK e b) (n:Nat) (hn:d+e<=n+1):conv a b n=0:=by
 induction n generalizing a d with
 |zero=>
  rw[dt];rcases Nat.eq_zero_or_pos d with h|h
  ·subst h;rw[c.all,bR]
  ·rw[hb 0 oO,aT]
 |succ n f=>
  rcases Nat.eq_zero_or_pos d with h|h
  ·subst h;exact fK c.all
  ·obtain⟨d,rfl⟩:∃k,d=k+1:=⟨d-1,by omega⟩;rw[bW,hb (n+1) oO,aT,f c.tl oO,aU]
theorem Kv {a b:Nat->K} {d e:Nat} (c:cK (d+1) a) (hb:cK (e+1) b):conv a b (d+e)=a d* b e:=by
 induction d generalizing a with
 |zero=>
  rw[Nat.zero_add];cases e with
  |zero=>rfl
  |succ e=>rw[bW,fK c.tl.all,aU]
 |succ d f=>
  rw[show d+1+e=(d+e)+1 from by omega,bW,hb _ oO,aT,cn,f c.tl];rfl
def bS (x:K):(Nat->K)->Nat->K
 |_,0=>0
 |f,n+1=>f 0+x* bS x (cr f) n
theorem cD (x:K) (f:Nat->K) (n:Nat):bS x f (n+1)=f 0+x* bS x (cr f) n:=rfl
theorem gQ {x:K} {f g:Nat->K} {n:Nat} (h:∀i,i<n->f i=g i):bS x f n=bS x g n:=by
 induction n generalizing f g with
 |zero=>rfl
 |succ n a=>rw[cD,cD,h 0 oO,a (f:=cr f) (g:=cr g) (λi b=>h (i+1) oO)]
theorem vX {x:K} {f:Nat->K} (h:∀i,f i=0) (n:Nat):bS x f n=0:=by
 induction n generalizing f with
 |zero=>rfl
 |succ n a=>rw[cD,h,a (f:=cr f) (λi=>h (i+1)),aT,aU]
theorem ga {x:K} {f:Nat->K} {n m:Nat} (h:cK n f) (b:n<=m):bS x f m=bS x f n:=by
 induction n generalizing f m with
 |zero=>exact vX h.all m
 |succ n a=>
  obtain⟨m,rfl⟩:∃k,m=k+1:=⟨m-1,by omega⟩;rw[cD,cD,a h.tl oO]
theorem oh (x:K) (f g:Nat->K) (n:Nat):bS x (λk=>f k+g k) n=bS x f n+bS x g n:=by
 induction n generalizing f g with
 |zero=>exact(cn _).symm
 |succ n a=>
  rw[cD,cD,cD,show bS x (cr λk=>f k+g k) n=bS x (cr f) n+bS x (cr g) n from a (cr f) (cr g),gY]
  ac_rfl
theorem rM (x r:K) (f:Nat->K) (n:Nat):bS x (λk=>r* f k) n=r* bS x f n:=by
 induction n generalizing f with
 |zero=>exact(aT _).symm
 |succ n a=>
  rw[cD,cD,show bS x (cr λk=>r* f k) n=r* bS x (cr f) n from a (cr f),gY]
  ac_rfl
theorem LW (x:K) (f:Nat->K) (n:Nat):bS x (λk=>-f k) n=-bS x f n:=by
 apply fu (a:=bS x f n);rw[<-oh,eE];exact vX (λk=>eE _) n
theorem Ep (x:K) (f g:Nat->K) (n:Nat):bS x (λk=>f k-g k) n=bS x f n-bS x g n:=by
 rw[show bS x (λk=>f k-g k) n=bS x (λk=>f k+-g k) n from rfl,oh x f (λk=>-g k),LW];rfl
theorem AX {x:K} {a b:Nat->K} {d e:Nat} (c:cK d a) (hb:cK e b):bS x (conv a b) (d+e)=bS x a d* bS x b e:=by
 induction d generalizing a with
 |zero=>rw[show bS x a 0=0 from rfl,bR];exact vX (λi=>fK c.all) _
 |succ d f=>
  rw[show d+1+e=(d+e)+1 from by omega,cD,cD];have e1:bS x (cr (conv a b)) (d+e)=a 0* bS x (cr b) (d+e)+bS x (conv (cr a) b) (d+e):=by
   rw[<-rM,<-oh];rfl
  have e2:bS x b e=b 0+x* bS x (cr b) (d+e):=by
   rw[<-cD];exact(ga hb oO).symm
  rw[e1,f c.tl,dt,iU,gY,e2,gY];simp only[gY]
  ac_rfl
theorem LO (x:K) (f:Nat->K) (n:Nat):bS x f (n+1)=bS x f n+f n* x^n:=by
 induction n generalizing f with
 |zero=>rw[cD];show f 0+x* 0=0+f 0* x^0;rw[aT,jo,gm,eU]
 |succ n a=>
  rw[cD,a (cr f),cD x f n,gY,ee];show f 0+(x* bS x (cr f) n+x* (f (n+1)* x^n))=f 0+x* bS x (cr f) n+f (n+1)* (x^n* x)
  ac_rfl
theorem JO (x:K) (f:Nat->K) (n:Nat):ev x ((List.range n).map f)=bS x f n:=by
 induction n generalizing f with
 |zero=>rfl
 |succ n a=>
  rw[List.range_succ_eq_map,List.map_cons,List.map_map,cD,<-a (cr f)];rfl
theorem F6 {a:Nat->K} {n:Nat} (h:cK n a) (k:∃i,a i≠0):∃d,d<n/\a d≠0/\cK (d+1) a:=by
 induction n with
 |zero=>obtain⟨i,b⟩:=k;exact absurd (h.all i) b
 |succ n f=>
  by_cases c:a n=0
  ·obtain⟨d,l,g,j⟩:=f (λi b=>by
    by_cases e:i=n
    ·rw[e];exact c
    ·exact h i oO)
   exact⟨d,by omega,g,j⟩
  ·exact⟨n,by omega,c,h⟩
theorem C7 {f:Nat->K} {n:Nat} (a:cK n f) (l:List K) (hl:l.Nodup) (hn:n<=l.length) (b:∀x∈l,bS x f n=0) (i:Nat):f i=0:=by
 apply Classical.byContradiction;intro c;obtain⟨d,j,e,hs⟩:=F6 a ⟨i,c⟩
 have:=BG ((List.range (d+1)).map f) (f d) (by rw[List.range_succ];simp) e l hl (λx g=>by
  rw[JO];have:=b x g;rw[ga hs oO]at this
  exact this)
 simp at this;omega
def il (n:Nat) (a:K):K:=match n with
 |0=>0
 |n+1=>il n a+a
theorem Lk (n:Nat) (a b:K):il n (a+b)=il n a+il n b:=by
 induction n with
 |zero=>exact(cn _).symm
 |succ n c=>show il n (a+b)+(a+b)=(il n a+a)+(il n b+b);rw[c];ac_rfl
theorem D9 (n:Nat) (a b:K):il n (a* b)=il n a* b:=by
 induction n with
 |zero=>exact(bR _).symm
 |succ n c=>show il n (a* b)+a* b=(il n a+a)* b;rw[c,iU]
theorem vF (n:Nat):il n (0:K)=0:=by
 induction n with
 |zero=>rfl
 |succ n a=>show il n (0:K)+0=0;rw[a,aU]
def j4 (a:Nat->K):Nat->K:=λn=>il (n+1) (a (n+1))
def sh (a:Nat->K):Nat->K
 |0=>0
 |n+1=>a n
theorem GI (a:Nat->K) (n:Nat):j4 a n=cr a n+sh (j4 (cr a)) n:=by
 cases n with
 |zero=>show il 0 (a 1)+a 1=a 1+0;rw[show il 0 (a 1)=0 from rfl,cn,aU]
 |succ n=>show il (n+1) (a (n+1+1))+a (n+1+1)=a (n+1+1)+il (n+1) (a (n+1+1));rw[eU]
theorem Eg (a b:Nat->K) (n:Nat):conv (sh a) b n=sh (conv a b) n:=by
 cases n with
 |zero=>exact bR _
 |succ n=>rw[bW];show(0:K)* _+conv (cr (sh a)) b n=conv a b n;rw[bR,cn];rfl
theorem Jo (a b:Nat->K) (n:Nat):j4 (conv a b) n=conv (j4 a) b n+conv a (j4 b) n:=by
 induction n generalizing a with
 |zero=>
  show il 0 (conv a b 1)+conv a b 1=(il 0 (a 1)+a 1)* b 0+a 0* (il 0 (b 1)+b 1)
  have z:∀u:K,il 0 u+u=u:=λu=>cn u;rw[z,z,z];show a 0* b 1+a 1* b 0=_;rw[eU]
 |succ n c=>
  have e1:j4 (conv a b) (n+1)=a 0* j4 b (n+1)+(conv (cr a) b (n+1)+j4 (conv (cr a) b) n):=by
   show il (n+1+1) (conv a b (n+1+1))=_;rw[bW,Lk];congr 1
   ·rw[bX,D9,bX];rfl
   ·show il (n+1) (conv (cr a) b (n+1))+conv (cr a) b (n+1)=_
    rw[eU];rfl
  have e2:conv (j4 a) b (n+1)=conv (cr a) b (n+1)+conv (j4 (cr a)) b n:=by
   rw[eR (a:=j4 a) (a':=λk=>cr a k+sh (j4 (cr a)) k) (b:=b) (b':=b) (λk _=>GI a k) (λ_ _=>rfl),iB,Eg];rfl
  rw[e1,e2,c,bW a (j4 b)]
  ac_rfl
def dr (f:Nat->K):Nat->K
 |0=>0
 |n+1=>dr f n+f n
theorem xV (f:Nat->K) (n:Nat):dr f (n+1)=f 0+dr (cr f) n:=by
 induction n with
 |zero=>show(0:K)+f 0=f 0+0;rw[eU]
 |succ n a=>show dr f (n+1)+f (n+1)=f 0+(dr (cr f) n+cr f n);rw[a,iE];rfl
theorem iI {f g:Nat->K} {n:Nat} (h:∀k,k<n->f k=g k):dr f n=dr g n:=by
 induction n with
 |zero=>rfl
 |succ n a=>show dr f n+f n=dr g n+g n;rw[a λk b=>h k oO,h n oO]
theorem rK {f:Nat->K} {n m:Nat} (h:∀k,n<=k->k<m->f k=0) (c:n<=m):dr f m=dr f n:=by
 induction m with
 |zero=>rw[show n=0 from by omega]
 |succ m a=>
  by_cases e:n=m+1
  ·rw[e]
  ·show dr f m+f m=_;rw[h m oO oO,aU,a (λk b d=>h k b oO) oO]
theorem ph (a b:Nat->K) (n:Nat):conv a b n=dr (λk=>a k* b (n-k)) (n+1):=by
 induction n generalizing a with
 |zero=>exact(cn _).symm
 |succ n c=>
  rw[xV,bW,c];congr 1;apply iI;intro k d;show a (k+1)* b (n-k)=a (k+1)* b (n+1-(k+1));rw[show n+1-(k+1)=n-k from by omega]
end
def KF {c s p:Nat} (h:VF c s p):Type:=El s
instance{c s p:Nat} (h:VF c s p):Fl (KF h):=eI h
theorem lN {l:List Nat} {i:Nat} (a:l.length<=i):l.getD i 0=0:=by
 rw[List.getD,List.getElem?_eq_none a];rfl
theorem jz {s:Nat} {l:List Nat} (hl:ao s l):ao s (dX l):=λi=>by rw[rC];exact hl i
theorem Lz {s p:Nat} (a b:List Nat) (M d k:Nat) (j:Nat) (g:j<M-k):(qL s p a b M d k).getD j 0=0:=by
 induction k with
 |zero=>
  by_cases e:j<d
  ·simp[qL,List.getD,e]
  ·simp[qL,List.getD,e]
 |succ k f=>
  show((qL s p a b M d k).set (M-1-k) _).getD j 0=0;have:=f oO;rw[List.getD,List.getElem?_set_ne oO];exact this
section
variable {c s p : Nat} (h : VF c s p)
def aS (n:Nat):KF h:=(⟨n%s,Nat.mod_lt _ (by have:=h.aP;omega)⟩:El s)
def mono (i:Nat) (u:KF h):Nat->KF h:=λk=>if k=i then u else 0
def o6 (i:Nat) (f:Nat->KF h):Nat->KF h:=λn=>if i<=n then f (n-i)else 0
def co (l:List Nat):Nat->KF h:=λi=>aS h (l.getD i 0)
include h
theorem gW {n:Nat} (hn:n<s):aS h n=(⟨n,hn⟩:El s):=El.ext (Nat.mod_eq_of_lt hn)
theorem jK {a b:Nat} (d:a<s) (hb:b<s) (e:aS h a=aS h b):a=b:=by
 rw[gW h d,gW h hb]at e;exact congrArg El.val e
theorem Bw (x:KF h):∃n,n<s/\aS h n=x:=by
 let y:El s:=x
 exact⟨y.val,y.lt,gW h y.lt⟩
theorem bQ:aS h 0=0:=gW h (by have:=h.aP;omega)
theorem lK:aS h 1=1:=gW h (by have:=h.aP;omega)
theorem oy {a b:Nat} (d:a<s) (hb:b<s):aS h (bN s p a b)=aS h a+aS h b:=by
 rw[gW h (ki h _ _ d hb),gW h d,gW h hb];rfl
theorem gf {a b:Nat} (d:a<s) (hb:b<s):aS h (aG s p a b)=aS h a* aS h b:=by
 rw[gW h (bL h _ _),gW h d,gW h hb];rfl
theorem qK {a b:Nat} (d:a<s) (hb:b<s):aS h (cF s p a b)=aS h a-aS h b:=by
 rw[gW h (om h d hb),gW h d,gW h hb];exact El.ext (zp h ⟨a,d⟩ ⟨b,hb⟩)
theorem Gb {a:Nat} (b:a<s) (d:a≠0):aS h a≠0:=by
 intro e;rw[<-bQ h]at e;exact d (jK h b (by have:=h.aP;omega) e)
theorem x8 {a:Nat} (b:a<s) (d:a≠0):aS h a* aS h (dP s p a)=1:=by
 rw[<-gf h b (mN h),Bg h b d,lK]
theorem ft (l:List Nat):cK l.length (co h l):=λi a=>by
 unfold co;rw[lN a,bQ]
theorem qI (l:List Nat) (i:Nat):co h (dX l) i=co h l i:=by unfold co;rw[rC]
theorem tH (n:Nat) (f:Nat->Nat) (i:Nat):co h ((List.range n).map f) i=if i<n then aS h (f i)else 0:=by
 unfold co;split
 ·rename_i a;rw[bp _ _ _ a]
 ·rename_i a;rw[lN oT,bQ]
theorem gR {n:Nat} {f:Nat->Nat} (b:∀i,i<n->f i<s):ao s ((List.range n).map f):=λi=>by
 by_cases a:i<n
 ·rw[bp _ _ _ a];exact b i a
 ·rw[lN oT];have:=h.aP;show 0<s;omega
theorem Hi (l:List Nat) (i v j:Nat) (a:i<l.length):co h (l.set i v) j=if j=i then aS h v else co h l j:=by
 unfold co;by_cases e:j=i
 ·subst e;rw[if_pos rfl];congr 1;simp[List.getD,a]
 ·rw[if_neg e];congr 1;simp[List.getD,List.getElem?_set_ne (Ne.symm e)]
theorem DO {l:List Nat} (hl:ao s l) (a:dA l) (hn:1<=l.length):co h l (l.length-1)≠0:=by
 rcases a with rfl|a
 ·simp at hn
 ·exact Gb h (hl _) a
theorem oH {l:List Nat} (hl:ao s l) (b:dA l) {d:Nat} (e:cK d (co h l)):l.length<=d:=by
 rcases Nat.lt_or_ge d l.length with a|a
 ·exact absurd (e (l.length-1) oO) (DO h hl b oO)
 ·exact a
theorem Ag {l:List Nat} (hl:ao s l) (b:dA l) {d:Nat} (e:cK (d+1) (co h l)) (f:co h l d≠0):l.length=d+1:=by
 have g:=oH h hl b e;rcases Nat.lt_or_ge d l.length with a|a
 ·omega
 ·exact absurd (ft h l d a) f
theorem Ef (f:Nat->Nat) (a:∀k,f k<s) (n:Nat):aS h (mh s p f n)=dr (λk=>aS h (f k)) n:=by
 induction n with
 |zero=>exact bQ h
 |succ n b=>
  show aS h (bN s p (mh s p f n) (f n))=dr _ n+aS h (f n);rw[oy h (tY h f a n) (a n),b]
theorem CQ {a b:List Nat} (d:ao s a) (hb:ao s b) (n k:Nat):aS h (gd s p a b n k)=if k<=n then co h a k* co h b (n-k)else 0:=by
 unfold gd;split
 ·exact gf h (d _) (hb _)
 ·exact bQ h
theorem uj {x:Nat} (e:x<s) (l:List Nat) (hl:∀y∈l,y<s):aS h (hornN s p x l)=bS (aS h x) (co h l) l.length:=by
 induction l with
 |nil=>exact bQ h
 |cons a b f=>
  show aS h (bN s p (aG s p (hornN s p x b) x) a)=_;rw[oy h (bL h _ _) (hl a oS),gf h (j1 h x b λy d=>hl y (by simp[d])) e,f λy d=>hl y (by simp[d])];rw[List.length_cons,cD];show _=aS h a+aS h x* bS (aS h x) (co h b) b.length;rw[eU,bX]
theorem Hv (i:Nat) (u:KF h) (b:Nat->KF h) (n:Nat):conv (mono h i u) b n=u* o6 h i b n:=by
 induction i generalizing n with
 |zero=>
  rw[show mono h 0 u=iM u from rfl,mK];unfold o6;rw[if_pos (Nat.zero_le _)];rfl
 |succ i a=>
  cases n with
  |zero=>
   rw[dt];unfold mono o6;rw[if_neg oO,if_neg oO,bR,aT]
  |succ n=>
   rw[bW];have e1:mono h (i+1) u 0=0:=by unfold mono;rw[if_neg oO]
   have e2:cr (mono h (i+1) u)=mono h i u:=by
    funext k;unfold cr mono;by_cases e:k=i
    ·rw[if_pos e,if_pos oO]
    ·rw[if_neg e,if_neg oO]
   rw[e1,e2,bR,cn,a];unfold o6;by_cases e:i<=n
   ·rw[if_pos e,if_pos oO,show n+1-(i+1)=n-i from by omega]
   ·rw[if_neg e,if_neg oO]
theorem G6 {d:Nat} (f:d<s) {b r:List Nat} (hb:ao s b) (g:ao s r) (i j:Nat) (k:i+j<=r.length) (n:Nat):
 co h (subRow s p d b r i j) n=co h r n-(if i<=n/\n<i+j then aS h d* co h b (n-i)else 0):=by
 induction j with
 |zero=>rw[if_neg oO,fC];rfl
 |succ j a=>
  have a:=a oO;show co h ((subRow s p d b r i j).set (i+j) _) n=_;rw[Hi h _ _ _ _ (by rw[nO];omega)];by_cases e:n=i+j
  ·subst e;rw[if_pos rfl,if_pos oO,qK h (sH h g i j _) (bL h _ _),gf h f (hb _)];rw[if_neg oO,fC]at a;rw[show aS h ((subRow s p d b r i j).getD (i+j) 0)=co h (subRow s p d b r i j) (i+j)from rfl,a,show i+j-i=j from by omega];rfl
  ·rw[if_neg e,a];by_cases e2:i<=n/\n<i+j
   ·rw[if_pos e2,if_pos oO]
   ·rw[if_neg e2,if_neg oO]
theorem xy {d:Nat} (e:d<s) {b r:List Nat} (hb:ao s b) (f:ao s r) (i:Nat) (j:i+b.length<=r.length) (n:Nat):
 co h (subRow s p d b r i b.length) n=co h r n-aS h d* o6 h i (co h b) n:=by
 rw[G6 h e hb f i _ j];congr 1;unfold o6;by_cases a:i<=n
 ·by_cases g:n<i+b.length
  ·rw[if_pos ⟨a,g⟩,if_pos a]
  ·rw[if_neg oO,if_pos a,ft h b (n-i) oO,aT]
 ·rw[if_neg oO,if_neg a,aT]
theorem Mm {a b:List Nat} (j:ao s a) (hb:ao s b) (q:1<=b.length) (d:Nat) (r:cy a b<=d) (k:Nat) (m:k<=cy a b) (n:Nat):
 co h a n=conv (co h (qL s p a b (cy a b) d k)) (co h b) n+co h (rL s p a b (cy a b) k) n:=by
 induction k with
 |zero=>
  show _=conv (co h (List.replicate d 0)) _ n+co h a n
  rw[fK,cn];intro i;unfold co;by_cases g:i<d
  ·rw[show(List.replicate d 0).getD i 0=0 from by simp[List.getD,g],bQ]
  ·rw[show(List.replicate d 0).getD i 0=0 from by simp[List.getD,g],bQ]
 |succ k f=>
  have f:=f oO;have o:cy a b=a.length-(b.length-1):=rfl;have hc:cL s p a b (cy a b) k<s:=bL h _ _;have hq:∀i,co h (qL s p a b (cy a b) d (k+1)) i=co h (qL s p a b (cy a b) d k) i+mono h (cy a b-1-k) (aS h (cL s p a b (cy a b) k)) i:=by
   intro i;show co h ((qL s p a b (cy a b) d k).set (cy a b-1-k) (cL s p a b (cy a b) k)) i=_;rw[Hi h _ _ _ _ (by rw[zI];omega)];unfold mono;by_cases e:i=cy a b-1-k
   ·rw[if_pos e,if_pos e];have:co h (qL s p a b (cy a b) d k) i=0:=by
     unfold co;rw[Lz a b _ _ _ _ oO,bQ]
    rw[this,cn]
   ·rw[if_neg e,if_neg e,aU]
  have l:co h (rL s p a b (cy a b) (k+1)) n=co h (rL s p a b (cy a b) k) n-aS h (cL s p a b (cy a b) k)* o6 h (cy a b-1-k) (co h b) n:=
   xy h hc hb (xu h j _ _) _ (by rw[tw];omega) n
  rw[eR (a:=co h (qL s p a b (cy a b) d (k+1))) (b:=co h b) (b':=co h b) (λi _=>hq i) (λ_ _=>rfl),iB,Hv,l,f];generalize aS h (cL s p a b (cy a b) k)* o6 h (cy a b-1-k) (co h b) n=u;generalize co h (rL s p a b (cy a b) k) n=v;generalize conv (co h (qL s p a b (cy a b) d k)) (co h b) n=x
  rw[iP,show x+u+(v+-u)=(x+v)+(u+-u)from by ac_rfl,q9,aU]
theorem MT {a b:List Nat} (f:ao s a) (hb:ao s b) (l:1<=b.length) (i:b.getD (b.length-1) 0≠0) (k:Nat) (j:k<=cy a b):
 cK (b.length-1+cy a b-k) (co h (rL s p a b (cy a b) k)):=by
 induction k with
 |zero=>
  have g:cy a b=a.length-(b.length-1):=rfl;exact(ft h a).mono oO
 |succ k d=>
  have d:=d oO;intro n hn;have hc:cL s p a b (cy a b) k<s:=bL h _ _;have g:cy a b=a.length-(b.length-1):=rfl
  rw[show co h (rL s p a b (cy a b) (k+1)) n=co h (rL s p a b (cy a b) k) n-aS h (cL s p a b (cy a b) k)* o6 h (cy a b-1-k) (co h b) n from
   xy h hc hb (xu h f _ _) _ (by rw[tw];omega) n]
  by_cases e:n=cy a b-1-k+(b.length-1)
  ·unfold o6;rw[if_pos oO,show n-(cy a b-1-k)=b.length-1 from by omega];have e2:aS h (cL s p a b (cy a b) k)=co h (rL s p a b (cy a b) k) n* aS h (dP s p (b.getD (b.length-1) 0)):=by
    show aS h (aG s p _ _)=_;rw[gf h (xu h f _ _ _) (mN h),e];rfl
   rw[e2,cX,bX (aS h (dP s p _)),show co h b (b.length-1)=aS h (b.getD (b.length-1) 0)from rfl,x8 h (hb _) i,gm,dG]
  ·rw[d n oO];unfold o6;rw[if_pos oO,ft h b (n-(cy a b-1-k)) oO,aT,fC]
theorem xn {a b:List Nat} (d:ao s a):ao s (eN s p a b):=jz (xu h d _ _)
theorem xq (a b:List Nat):dA (eN s p a b):=kH _
theorem Dd {a b:List Nat} (d:ao s a) (hb:ao s b) (e:1<=b.length) (f:b.getD (b.length-1) 0≠0):cK (b.length-1) (co h (eN s p a b)):=by
 intro i g;unfold eN;rw[qI];exact MT h d hb e f _ (Nat.le_refl _) i oO
theorem x9 {a b:List Nat} (d:ao s a) (hb:ao s b) (e:1<=b.length) (f:b.getD (b.length-1) 0≠0):(eN s p a b).length<b.length:=by
 have:=oH h (xn h d) (xq h a b) (Dd h d hb e f);omega
theorem div_eq {a b:List Nat} (d:ao s a) (hb:ao s b) (e:1<=b.length) (n:Nat):co h a n=conv (co h (l8 s p a b)) (co h b) n+co h (eN s p a b) n:=by
 have:=Mm h d hb e (cy a b) (Nat.le_refl _) (cy a b) (Nat.le_refl _) n;rw[this];unfold l8 eN;rw[qI]
end
end
section
open Go.RowKit
theorem Cl {b:List Nat} (a:dA b) (h:b≠[]):b.getD (b.length-1) 0≠0:=by
 rcases a with e|e
 ·exact absurd e h
 ·exact e
theorem F7 (C S P c bl:Nat) (a b:List Nat) (n m:Nat) (hn:n=a.length) (r:m=b.length) (A B:Option Addr) (d f:Nat) (w:World) (g:VF C S P) (u:ao S a) (v:ao S b) (o:a.length<=8193) (p:b.length<=4097) (s:dA b) (q:b≠[])
 (t:dh w S P c bl) (i:RD w A (zl a)) (hb:RD w B (zl b)):
 Calls Tryz.prog 156 #[fs C S c bl,.slice A n d,.slice B m f] w λe w'=>∃j k,e= .returned (.tuple #[j,k])/\aA w' j (zl (l8 S P a b))/\aA w' k (zl (eN S P a b))/\Below w.heap.size w w':=by
 subst hn r;have hl:1<=b.length:=List.length_pos_iff.2 q;rcases Nat.lt_or_ge a.length b.length with l|l
 ·exact B7 C S P c bl a b A B d f w g o p hl oO i
 ·exact B5 C S P c bl a b A B d f w g u v o p hl l (Cl s q) t i hb
theorem aA.n {w:World} {v:Value} {l:List Nat} (h:aA w v (zl l)):∃A n c,v= .slice A n c/\n=l.length/\n<=c/\c<=maxLen/\RD w A (zl l):=by
 obtain⟨A,c,rfl,a,b,d⟩:=h;exact⟨A,_,c,rfl,aw l,a,b,d⟩
theorem Ia (C S P a bl r c:Nat) (l:List Nat) (n:Nat) (j:n=l.length) (A:Option Addr) (b:Nat) (w:World) (d:VF C S P) (hl:ao S l) (f:r<S) (hc:c<S) (hn:l.length<=8193)
 (g:dh w S P a bl) (i:RD w A (zl l)):
 Calls Tryz.prog 191 #[fs C S a bl,.slice A n b,.int .i64 r,.int .i64 c] w λe w'=>∃v,e= .returned v/\aA w' v (zl (mw S P l r c))/\Below w.heap.size w w':=by
 subst j;exact DL C S P a bl r c l A b w d hl f hc hn g i
theorem RD.lit (W:World) (xs:List Int) (a:TypeId) (b:Nat) (hb:b=W.heap.size):RD (W.alloc (.cells (xs.map (Value.int .i64)).toArray a)) (some ⟨b,0,none⟩) xs:=λ_=>by
 refine⟨_,rfl,by simp;omega,λj c=>?_⟩;have:=(ak.new W (xs.map (Value.int .i64)).toArray a b hb).2 j (by simpa using c);rw[add_plain,Nat.zero_add,this];simp[List.getD,c]
theorem Sl.lit (W:World) (xs:List Int) (a:TypeId) (b n:Nat) (hb:b=W.heap.size) (hn:n=xs.length) (h:n<=1000):(⟨some ⟨b,0,none⟩,n,n,xs⟩:Sl).R (W.alloc (.cells (xs.map (Value.int .i64)).toArray a)):=
 ⟨hn,by simp only;omega,RD.lit W xs a b hb,Nat.le_refl _,by simp only[maxLen];omega⟩
theorem aA.lit (W:World) (xs:List Int) (a:TypeId) (b n:Nat) (hb:b=W.heap.size) (hn:n=xs.length) (h:n<=1000):aA (W.alloc (.cells (xs.map (Value.int .i64)).toArray a)) (.slice (some ⟨b,0,none⟩) n n) xs:=
 (Sl.lit W xs a b n hb hn h).ints
def wJ (w:World) (L:List Int×List Int×Int) (e:Ending) (w':World):Prop:=∃v u,e= .returned (.tuple #[v,u,.int .i64 L.2.2])/\aA w' v L.1/\aA w' u L.2.1/\Below w.heap.size w w'
theorem wJ.mk {w w':World} {R:List Int×List Int×Int} {v u:Value} {L M:List Int} {err:Int} (h:R=(L,M,err)) (a:aA w' v L) (b:aA w' u M) (hb:Below w.heap.size w w'):wJ w R (.returned (.tuple #[v,u,.int .i64 err])) w':=by
 subst h;exact⟨v,u,rfl,a,b,hb⟩
def kA (c s p:Int) (xs ys:List Int):List Int×List Int×Int:=
 if(oV c s p xs&&oV c s p ys)=true then(if ys=[]then([],[],12)else(zl (l8 s.toNat p.toNat (nl xs) (nl ys)),zl (eN s.toNat p.toNat (nl xs) (nl ys)),0))else([],[],1)
theorem F8 {l:List Nat} (h:zl l=[]):l=[]:=by have:=congrArg nl h;rw[rU]at this;exact this
theorem De (c s p:Int) (q r:Sl) (w:World) (D:p<=9223372036854775807) (hq:q.R w) (j:r.R w):
 Calls Tryz.prog 115 #[cu c s p,q.v,r.v] w (wJ w (kA c s p q.xs r.xs)):=by
 obtain⟨A,n,k,xs⟩:=q;obtain⟨B,m,l,ys⟩:=r;have t:Below w.heap.size w (w.alloc (kT c s p)):=(Below.refl _ _).alloc (Nat.le_refl _) _;have x:=Lib.hid (hq.below t);have y:=Lib.hid (j.below t);show Calls Tryz.prog 115 #[cu c s p,.slice A n k,.slice B m l] w (wJ w (kA c s p xs ys));have Y:Hid (ak (w.alloc (kT c s p)) w.heap.size (ya c s p)):=ak.new _ _ _ _ rfl;cases d:(oV c s p xs&&oV c s p ys)with
 |false=>
  have z:=Lib.hid d;have o:Hid (kA c s p xs ys=([],[],1)):=by show _=_;unfold kA;rw[d];rfl
  clear d hq j t;go_enter Tryz.func115,Tryz.ntmps115;go_wp2_with(go_at_call 154;refine(yl c s p A B n k m l xs ys _ _ 64 D oS x.out y.out).mono ?_;rintro e N ⟨rfl,f⟩;rw[z.out];have g:=Lib.hid f;clear f)
  go_ret3
  exact wJ.mk o.out (aA.dI _) (aA.dI _) (cH g.out)
 |true=>
  have u:=d;rw[Bool.and_eq_true]at u;obtain⟨C,S,P,a,rfl,rfl,rfl,rfl,E,F,U,G⟩:=DY u.1;obtain⟨C',Z,a7,b,e1,e2,e3,rfl,-,H,J,K⟩:=DY u.2;obtain rfl:S=Z:=oO;have L:n=a.length:=hq.hn.trans (aw a);have v:m=b.length:=j.hn.trans (aw b);have z:=Lib.hid d;have V:=Lib.hid E;have am:=Lib.hid F;have ap:=Lib.hid H;have av:=Lib.hid J;have a0:=Lib.hid L;have a1:=Lib.hid v;have a2:=Lib.hid G;have a3:=Lib.hid K;by_cases i:b=[]
  ·have o:Hid (kA C S P (zl a) (zl b)=([],[],12)):=by show _=_;unfold kA;rw[if_pos d,i];rfl
   have a4:m=0:=by rw[v,i];rfl
   subst a4;clear d u e1 e2 e3 E F H U J G K L v i hq j t;go_enter Tryz.func115,Tryz.ntmps115;go_wp2_with(go_at_call 154;refine(yl C S P A B n k 0 l _ _ _ _ 64 D oS x.out y.out).mono ?_;rintro e N ⟨rfl,f⟩;rw[z.out];have g:=Lib.hid f;clear f)
   go_ret3
   exact wJ.mk o.out (aA.dI _) (aA.dI _) (cH g.out)
  ·have o:Hid (kA C S P (zl a) (zl b)=(zl (l8 S P a b),zl (eN S P a b),0)):=by
    show _=_;unfold kA;rw[if_pos d,if_neg (λe=>i (F8 e)),rU,rU];rfl
   have bq:0<m:=by rw[v];exact List.length_pos_iff.2 i
   have a8:((m:Int)==0)=false:=by rw[beq_eq_false_iff_ne];omega
   have a5:=Lib.hid i;clear d u e1 e2 e3 E F H U J G K L v i hq j t;go_enter Tryz.func115,Tryz.ntmps115
   go_wp2_with(first
    |(go_at_call 154;refine(yl C S P A B n k m l _ _ _ _ 64 D oS x.out y.out).mono ?_;rintro e N ⟨rfl,f⟩;rw[z.out];have g:=Lib.hid f;clear f;obtain⟨a9,bb,bd⟩:=rP (Y.out.below g.out))
    |(go_at_call 155;refine(Ch C S P _ V.out).mono ?_;rintro e be ⟨ab,bl,rfl,O,W⟩;have ac:=Lib.hid O;have M:=Lib.hid W;clear O W)
    |(go_at_call 156;refine(F7 C S P ab bl a b n m a0.out a1.out A B k l _ V.out am.out ap.out (by have:=a2.out;omega) a3.out av.out a5.out ac.out ((x.out.below g.out).below M.out).rd ((y.out.below g.out).below M.out).rd).mono ?_;rintro e bf ⟨bi,bo,rfl,Q,T,X⟩;have ad:=Lib.hid Q;have al:=Lib.hid T;have a6:=Lib.hid X;clear Q T X))
   go_ret3
   exact wJ.mk o.out ad.out al.out (cH (ae (ae g.out M.out) a6.out))
def fromL (s p:Nat) (a:List Nat):Nat->List Nat
 |0=>[1]
 |k+1=>mw s p (fromL s p a k) (a.getD k 0) 0
theorem oB (s p:Nat) (b:List Nat) (k:Nat):(fromL s p b k).length=k+1:=by
 induction k with
 |zero=>rfl
 |succ k a=>unfold fromL mw;rw[pT,a]
theorem oE {c s p:Nat} (h:VF c s p) {a:List Nat} (b:ao s a) (k:Nat):ao s (fromL s p a k):=by
 have e:=h.aP
 induction k with
 |zero=>
  intro i
  match i with
  |0=>show 1<s;omega
  |i+1=>show([1]:List Nat).getD (i+1) 0<s;simp[List.getD];omega
 |succ k d=>exact KW h d (b _) oO _
def iu (c s p:Int) (xs:List Int):List Int×Int:=
 if(bK c s p&&gH s xs)=true then(if 4096<xs.length then([],4)else(zl (fromL s.toNat p.toNat (nl xs) xs.length),0))else([],1)
theorem yE (c s p:Int) (q:Sl) (w:World) (z:p<=9223372036854775807) (hq:q.R w):
 Calls Tryz.prog 153 #[cu c s p,q.v] w (kY w (iu c s p q.xs)):=by
 obtain⟨A,n,H,xs⟩:=q;have x:Below w.heap.size w (w.alloc (kT c s p)):=(Below.refl _ _).alloc (Nat.le_refl _) _;have J:=Lib.hid (hq.below x);have O:Hid (ak (w.alloc (kT c s p)) w.heap.size (ya c s p)):=ak.new _ _ _ _ rfl;have HC:Hid (∀b,Below (w.alloc (kT c s p)).heap.size (w.alloc (kT c s p)) b->b.cell? ⟨w.heap.size,0,none⟩=some (.int .i64 c)/\b.cell? ⟨w.heap.size,1,none⟩=some (.int .i64 s)/\b.cell? ⟨w.heap.size,2,none⟩=some (.int .i64 p)):=λb hb=>rP (O.out.below hb);have B:Hid (∀b,af (w.alloc (kT c s p)) b->Calls Tryz.prog 190 #[cu c s p,.slice A n H] b λe w'=>e= .returned (.bool (gH s xs))/\Below b.heap.size b w'):=λb hb=>og c s p xs n hq.hn A H b hq.hm (J.out.below hb).rd;show Calls Tryz.prog 153 #[cu c s p,.slice A n H] w (kY w (iu c s p xs));cases f:bK c s p with
 |false=>
  have t:=Lib.hid f;have r:Hid (iu c s p xs=([],1)):=by show _=_;unfold iu;rw[f];rfl
  clear f hq x;go_enter Tryz.func153,Tryz.ntmps153;go_wp2_with(go_at_call 154;refine(ux c s p _ z).mono ?_;rintro e b ⟨rfl,g⟩;rw[t.out];have d:=Lib.hid g;clear g)
  go_ret2
  exact kY.mk r.out (aA.dI _) (cH d.out)
 |true=>
  have t:=Lib.hid f;cases i:gH s xs with
  |false=>
   have u:=Lib.hid i;have r:Hid (iu c s p xs=([],1)):=by show _=_;unfold iu;rw[f,i];rfl
   clear i f hq x;go_enter Tryz.func153,Tryz.ntmps153
   go_wp2_with(first
    |(go_at_call 154;refine(ux c s p _ z).mono ?_;rintro e b ⟨rfl,g⟩;rw[t.out];have d:=Lib.hid g;clear g;obtain⟨D,E,F⟩:=HC.out _ d.out)
    |(go_at_call 190;refine(B.out _ d.out).mono ?_;rintro e Q ⟨rfl,m⟩;rw[u.out];have o:=Lib.hid m;clear m))
   go_ret2
   exact kY.mk r.out (aA.dI _) (cH (ae d.out o.out))
  |true=>
   have u:=Lib.hid i;have y:n=xs.length:=hq.hn;by_cases N:4096<n
   ·have r:Hid (iu c s p xs=([],4)):=by show _=_;unfold iu;rw[f,i,<-y];rw[if_pos N];rfl
    have ch:n<=9223372036854775807:=hq.hm;clear i f hq x y;go_enter Tryz.func153,Tryz.ntmps153
    go_wp2_with(first
     |(go_at_call 154;refine(ux c s p _ z).mono ?_;rintro e b ⟨rfl,g⟩;rw[t.out];have d:=Lib.hid g;clear g;obtain⟨D,E,F⟩:=HC.out _ d.out)
     |(go_at_call 190;refine(B.out _ d.out).mono ?_;rintro e Q ⟨rfl,m⟩;rw[u.out];have o:=Lib.hid m;clear m D E F))
    go_ret2
    exact kY.mk r.out (aA.dI _) (cH (ae d.out o.out))
   ·obtain⟨C,S,P,rfl,rfl,rfl,L⟩:=qB f;obtain⟨a,rfl,W⟩:=Ee (by have:=L.aP;omega) i;have X:n=a.length:=y.trans (aw a);have r:Hid (iu C S P (zl a)=(zl (fromL S P a n),0)):=by show _=_;unfold iu;rw[f,i,<-y];rw[if_neg N,rU];rfl
    have ce:n<=4096:=oO;have av:decide ((4096:Int)<(n:Int))=false:=by simp;omega
    have G:=Lib.hid L;have Y:=Lib.hid W;have Z:=Lib.hid X;clear i f hq x y L W X N;go_enter Tryz.func153,Tryz.ntmps153
    go_wp2_with(first
     |(go_at_call 154;refine(ux C S P _ z).mono ?_;rintro e b ⟨rfl,g⟩;rw[t.out];have d:=Lib.hid g;clear g;obtain⟨D,E,F⟩:=HC.out _ d.out)
     |(go_at_call 190;refine(B.out _ d.out).mono ?_;rintro e Q ⟨rfl,m⟩;rw[u.out];have o:=Lib.hid (ae d.out m);clear m D E F;obtain⟨a0,a1,a2⟩:=HC.out _ o.out)
     |(go_at_call 155;refine(Ch C S P _ G.out).mono ?_;rintro e j ⟨l,bl,rfl,T,ab⟩;have U:=Lib.hid T;have M:=Lib.hid ab;clear T ab a0 a1 a2))
    clear av;have a9:Hid (ak ((j.alloc (lu C S l bl)).alloc (.cells #[.int .i64 1] 3)) j.heap.size (gV C S l bl)):=(ak.new _ _ _ _ rfl).alloc _;have bb:Hid (dh ((j.alloc (lu C S l bl)).alloc (.cells #[.int .i64 1] 3)) S P l bl):=(U.out.alloc _).alloc _;have bd:Hid (RD ((j.alloc (lu C S l bl)).alloc (.cells #[.int .i64 1] 3)) A (zl a)):=(((J.out.below o.out).below M.out).rd.alloc _).alloc _;have be:Hid (aA ((j.alloc (lu C S l bl)).alloc (.cells #[.int .i64 1] 3)) (.slice (some ⟨j.heap.size+1,0,none⟩) 1 1) (zl (fromL S P a 0))):=aA.lit _ [1] 3 _ 1 oS rfl oO;have bf:Hid (Below w.heap.size w ((j.alloc (lu C S l bl)).alloc (.cells #[.int .i64 1] 3))):=ah (ah (cH (ae o.out M.out)) _) _;clear d o M U J O HC B t u;generalize(j.alloc (lu C S l bl)).alloc (.cells #[.int .i64 1] 3)=a3 at*;generalize j.heap.size=b4 at*;go_loopw [7,27] (λa4 K wr=>∃k:Nat,k<=n/\K= .int .i64 k/\Hid (af a3 wr)/\Hid (aA wr a4 (zl (fromL S P a k)))) (λ_ K _=>n-(intOf K).toNat)
    case atStart=>exact⟨0,Nat.zero_le _,rfl,Below.refl _ _,be⟩
    case round=>
     obtain⟨k,b5,rfl,v,V⟩:=hrel;by_cases bi:k<n
     ·obtain⟨a5,n2,a6,rfl,ac,-,-,ap⟩:=V.out.n;obtain⟨a7,rfl,b2,ad⟩:=bd.out (by rw[aw,<-Z.out];omega);have i:wr.cell? (a7.add k)=some (.int .i64 ((a.getD k 0:Nat):Int)):=by
       rw[v.out.cell (by rw[aJ];exact b2),ad k (by rw[aw,<-Z.out];exact bi),cT]
      have bo:Hid (a.getD k 0<S):=Y.out k;have bq:Hid (fromL S P a (k+1)=mw S P (fromL S P a k) (a.getD k 0) 0):=rfl;generalize a.getD k 0=a8 at*;obtain⟨b6,b7,b8,b9⟩:=dQ (a9.out.below v.out);have bs:=Lib.hid ac;have b3:=Lib.hid ap;have bt:Hid ((fromL S P a k).length<=8193):=by show _<=_;rw[oB];omega
      have bv:Hid (ao S (fromL S P a k)):=oE G.out Y.out k;have bx:Hid (0<S):=by have:=G.out.aP;show _<_;omega
      clear ac ap ad;go_wp2_with(go_at_call 191;refine(Ia C S P l bl a8 0 (fromL S P a k) n2 bs.out a5 a6 _ G.out bv.out bo.out bx.out bt.out (bb.out.below v.out) b3.out).mono ?_;rintro e ca ⟨cb,rfl,al,am⟩;have bz:=Lib.hid al;have b1:=Lib.hid am;clear al am)
      exact⟨⟨k+1,by omega,by go_num,ae v.out b1.out,by rw[bq.out];exact bz.out⟩,by simp[intOf];omega⟩
     ·obtain rfl:k=n:=oO;go_wp2;go_ret2
      exact kY.mk r.out V.out (ae bf.out v.out)
abbrev dV (C S a bl:Nat):Obj:= .cells #[.int .i64 C,.int .i64 S,.slice (some ⟨a,0,none⟩) (S-1) (S-1),.slice (some ⟨bl,0,none⟩) S S] 152
theorem k6 (C S P g bl x y:Nat) (w:World) (a:VF C S P) (i:x<S) (j:y<S) (k:dh w S P g bl):
 Calls Tryz.prog 204 #[fs C S g bl,.int .i64 x,.int .i64 y] w λe w'=>e= .returned (.int .i64 ((aG S P x y:Nat):Int))/\Below w.heap.size w w':=by
 have o:Hid (Below w.heap.size w (w.alloc (dV C S g bl))):=(Below.refl _ _).alloc (Nat.le_refl _) _;by_cases d:x=0
 ·subst d;have n:=Lib.hid (pS a j);clear a k;go_enter Tryz.func204,Tryz.ntmps204;go_wp2;go_ret;exact⟨cS (by rw[n.out];rfl),o.out⟩
 by_cases f:y=0
 ·subst f;have n:=Lib.hid (pP a i);clear a k;go_enter Tryz.func204,Tryz.ntmps204;go_wp2;go_ret;exact⟨cS (by rw[n.out];rfl),o.out⟩
 have s:=a.le;have B:=a.aP;have t:=(dY a i d).1;have u:=(dY a j f).1;have l:=k.alloc (dV C S g bl);have c1:=l.2.2.2 x i d;have v:=l.2.2.2 y j f;have p:(eo S P x+eo S P y)%(S-1)<S-1:=Nat.mod_lt _ oO;have q:=l.2.2.1 _ p;rw[DX a i j d f]at q;generalize aG S P x y=r at*;generalize eo S P x=b at*;generalize eo S P y=c at*;have e1:((b:Int)+c).tmod ((S:Int)-1)=(((b+c)%(S-1):Nat):Int):=by
  rw[show(b:Int)+c=((b+c:Nat):Int)from by omega,show(S:Int)-1=((S-1:Nat):Int)from by omega];exact(Int.ofNat_tmod _ _).symm
 generalize(b+c)%(S-1)=m at*;have e2:IntKind.i64.wrap ((b:Int)+c)=(b:Int)+c:=aF _ oO oO;have z:((x:Int)==0)=false:=by rw[beq_eq_false_iff_ne];omega
 have A:((y:Int)==0)=false:=by rw[beq_eq_false_iff_ne];omega
 clear l k a d f;go_enter Tryz.func204,Tryz.ntmps204;go_wp2;go_quiet (fail)
 go_wp2;go_ret;exact⟨rfl,cZ o.out _⟩
theorem o9 (C S P g bl x y:Nat) (w:World) (c:VF C S P) (i:x<S) (j:y<S) (d:y≠0) (l:dh w S P g bl):
 Calls Tryz.prog 206 #[fs C S g bl,.int .i64 x,.int .i64 y] w λe w'=>e= .returned (.int .i64 ((aG S P x (dP S P y):Nat):Int))/\Below w.heap.size w w':=by
 have n:Hid (Below w.heap.size w (w.alloc (dV C S g bl))):=(Below.refl _ _).alloc (Nat.le_refl _) _;by_cases f:x=0
 ·subst f;have o:=Lib.hid (pS c (mN c (x:=y)));clear c l j i d;go_enter Tryz.func206,Tryz.ntmps206;go_wp2;go_ret;exact⟨cS (by rw[o.out];rfl),n.out⟩
 have s:=c.le;have A:=c.aP;have t:=(dY c i f).1;have u:=(dY c j d).1;have k:=l.alloc (dV C S g bl);have c1:=k.2.2.2 x i f;have v:=k.2.2.2 y j d;have p:(eo S P x+(S-1)-eo S P y)%(S-1)<S-1:=Nat.mod_lt _ oO;have q:=k.2.2.1 _ p;rw[D3 c i j f d]at q;generalize aG S P x (dP S P y)=r at*;generalize eo S P x=a at*;generalize eo S P y=b at*;have e1:((a:Int)-b+S-1).tmod ((S:Int)-1)=(((a+(S-1)-b)%(S-1):Nat):Int):=by
  rw[show(a:Int)-b+S-1=((a+(S-1)-b:Nat):Int)from by omega,show(S:Int)-1=((S-1:Nat):Int)from by omega];exact(Int.ofNat_tmod _ _).symm
 generalize(a+(S-1)-b)%(S-1)=m at*;have e2:IntKind.i64.wrap ((a:Int)-b)=(a:Int)-b:=aF _ oO oO;have e3:IntKind.i64.wrap ((a:Int)-b+S)=(a:Int)-b+S:=aF _ oO oO;have e4:IntKind.i64.wrap ((a:Int)-b+S-1)=(a:Int)-b+S-1:=aF _ oO oO;have z:((x:Int)==0)=false:=by rw[beq_eq_false_iff_ne];omega
 clear k l c f d;go_enter Tryz.func206,Tryz.ntmps206;go_wp2;go_quiet (fail)
 go_wp2;go_ret;exact⟨rfl,cZ n.out _⟩
theorem pa (C S P c bl x y:Nat) (w:World) (a:VF C S P) (i:x<S) (j:y<S):
 Calls Tryz.prog 205 #[fs C S c bl,.int .i64 x,.int .i64 y] w λe w'=>e= .returned (.int .i64 ((bN S P x y:Nat):Int))/\Below w.heap.size w w':=by
 have f:Hid (Below w.heap.size w (w.alloc (dV C S c bl))):=(Below.refl _ _).alloc (Nat.le_refl _) _;have k:=a.le;rcases a.Fx with⟨rfl,d⟩|⟨g,rfl⟩
 ·have b:Hid (bits BinOp.xor IntKind.i64 (x:Int) (y:Int)=((bN S P x y:Nat):Int)):=by
   show _=_;rw[iQ _ _ oO oO];unfold bN;rw[if_neg d]
  clear a d;go_enter Tryz.func205,Tryz.ntmps205;go_wp2;go_ret;exact⟨cS b.out,f.out⟩
 ·have m:=a.aP;have b:Hid (((x:Int)+y).tmod S=((bN S 0 x y:Nat):Int)):=by
   show _=_;unfold bN;rw[if_pos rfl,show(x:Int)+y=((x+y:Nat):Int)from by omega];exact(Int.ofNat_tmod _ _).symm
  have l:((C:Int)==2)=false:=by rw[beq_eq_false_iff_ne];omega
  clear a g;go_enter Tryz.func205,Tryz.ntmps205;go_wp2;go_ret;exact⟨cS b.out,f.out⟩
theorem IX (C S P c bl x y:Nat) (w:World) (a:VF C S P) (i:x<S) (j:y<S):
 Calls Tryz.prog 222 #[fs C S c bl,.int .i64 x,.int .i64 y] w λe w'=>e= .returned (.int .i64 ((cF S P x y:Nat):Int))/\Below w.heap.size w w':=by
 have f:Hid (Below w.heap.size w (w.alloc (dV C S c bl))):=(Below.refl _ _).alloc (Nat.le_refl _) _;have k:=a.le;rcases a.Fx with⟨rfl,d⟩|⟨g,rfl⟩
 ·have b:Hid (bits BinOp.xor IntKind.i64 (x:Int) (y:Int)=((cF S P x y:Nat):Int)):=by
   show _=_;rw[iQ _ _ oO oO];unfold cF;rw[if_neg d]
  clear a d;go_enter Tryz.func222,Tryz.ntmps222;go_wp2;go_ret;exact⟨cS b.out,f.out⟩
 ·have m:=a.aP;have b:Hid (((x:Int)-y+S)%S=((cF S 0 x y:Nat):Int)):=by
   show _=_;unfold cF;rw[if_pos rfl,show(x:Int)-y+S=((x+S-y:Nat):Int)from by omega];exact(Int.natCast_emod _ _).symm
  have l:((C:Int)==2)=false:=by rw[beq_eq_false_iff_ne];omega
  clear a g;go_enter Tryz.func222,Tryz.ntmps222;go_wp2;go_ret;exact⟨cS b.out,f.out⟩
theorem E0 (C S P a bl x:Nat) (l:List Nat) (A:Option Addr) (E:Nat) (w:World) (g:VF C S P) (o:x<S) (hl:ao S l) (hn:l.length<=4097) (p:dh w S P a bl) (q:RD w A (zl l)):
 Calls Tryz.prog 202 #[fs C S a bl,.slice A l.length E,.int .i64 x] w λe w'=>e= .returned (.int .i64 ((hornN S P x l:Nat):Int))/\Below w.heap.size w w':=by
 have d:=Lib.hid g;have r:=Lib.hid hl;have F:=Lib.hid o;have s:=Lib.hid (q.alloc (dV C S a bl));have G:=Lib.hid (p.alloc (dV C S a bl));have H:Hid (ak (w.alloc (dV C S a bl)) w.heap.size (gV C S a bl)):=ak.new _ _ _ _ rfl;have f:Hid (l.length=l.length):=rfl
 revert f
 generalize B:l.length=n at*;intro f;have c:=Lib.hid B;clear B g hl o q p f;go_enter Tryz.func202,Tryz.ntmps202;go_wp2;go_loopw [7,8] (λv i wr=>∃(k:Nat) (j:Int),k<=n/\i= .int .i64 j/\Hid (j=(k:Int)-1)/\v= .int .i64 ((hornN S P x (l.drop k):Nat):Int)/\Hid (Below (w.alloc (dV C S a bl)).heap.size (w.alloc (dV C S a bl)) wr)) (λ_ i _=>(intOf i+1).toNat)
 case atStart=>exact⟨n,_,Nat.le_refl _,rfl,rfl,by rw[<-c.out,List.drop_length];rfl,Below.refl _ _⟩
 case round=>
  obtain⟨k,j,V,rfl,t,rfl,hb⟩:=hrel;by_cases N:k=0
  ·subst N;have Y:j<0:=by have:=t.out;omega
   go_wp2;go_ret;exact⟨rfl,cH hb.out⟩
  ·obtain⟨m,rfl⟩:∃m,k=m+1:=⟨k-1,by omega⟩;obtain rfl:j=(m:Int):=by have:=t.out;omega
   obtain⟨J,rfl,-,O⟩:=s.out (by rw[aw,c.out];omega);have z:Hid (∀W,Below (w.alloc (dV C S a bl)).heap.size (w.alloc (dV C S a bl)) W->(W.cell? ⟨w.heap.size,0,none⟩=some (.int .i64 C)/\W.cell? ⟨w.heap.size,1,none⟩=some (.int .i64 S)/\W.cell? ⟨w.heap.size,2,none⟩=some (.slice (some ⟨a,0,none⟩) (S-1) (S-1))/\W.cell? ⟨w.heap.size,3,none⟩=some (.slice (some ⟨bl,0,none⟩) S S))/\W.cell? (J.add m)=some (.int .i64 ((l.getD m 0:Nat):Int))):=by
    show∀W,_;intro W b;refine⟨dQ (H.out.below b),?_⟩;obtain⟨Z,e,_,hc⟩:=s.out.below b (by rw[aw,c.out];omega);injection e with e;subst e;rw[hc m (by rw[aw,c.out];omega),cT]
   have Q:=Lib.hid (FT S P x l m (by rw[c.out];omega));have T:Hid (hornN S P x (l.drop (m+1))<S):=j1 d.out x _ (λy K=>fU r.out y (List.mem_of_mem_drop K));have U:Hid (l.getD m 0<S):=r.out m;generalize L:hornN S P x (l.drop (m+1))=u at*;have ab:m<n:=oO;clear L O;go_wp2;refine bY (S:=af (w.alloc (dV C S a bl))) 10 oK oK (ai hb.out) ?_;simp only[List.take_succ_cons,List.take_zero,List.drop_succ_cons,List.drop_zero]
   repeat refine kO z.out ?_
   refine kX (λW b=>k6 C S P a bl u x W d.out T.out F.out (G.out.below b)) ?_
   repeat refine kO z.out ?_
   refine kX (λW b=>pa C S P a bl (aG S P u x) (l.getD m 0) W d.out (bL d.out _ _) U.out) ?_;refine dc ?_;intro X D;have M:=Lib.hid D;clear D;go_wp2;exact⟨⟨m,_,by omega,rfl,rfl,by rw[Q.out],M⟩,by simp[intOf]⟩
end
end Go.Proofs.YtmnlkganmgcpbaaGreatDoor
